/-
  The functions of the program in short form, and that the model's code is what they stand for. Printed by xgen.py.
-/
import Derived.Test.YthfalbbghajimaaDoorFw
import Derived.Test.YthfalbbghajimaaDoorProg
import Derived.KernelRfl
namespace Go.Proofs.YthfalbbghajimaaDoor
set_option linter.unusedVariables false
set_option maxRecDepth 100000

def zv88 : List Value := List.replicate 24 (.int .u8 0)
def zv102 : List Value := List.replicate 65 (.int .u8 0)
abbrev xm (a b : Sl) : XOp := ⟨some a, .move (.t b), none⟩
abbrev xl (a b : Sl) : XOp := ⟨some a, .load false 1 (.t b), none⟩
abbrev xf (n : Nat) (a b : Sl) : XOp := ⟨some a, .fieldAddr n (.t b), none⟩
/-! The slots by name. -/
abbrev s000 : Sl := ⟨.d0, .d0, .d0⟩
abbrev s001 : Sl := ⟨.d0, .d0, .d1⟩
abbrev s002 : Sl := ⟨.d0, .d0, .d2⟩
abbrev s003 : Sl := ⟨.d0, .d0, .d3⟩
abbrev s004 : Sl := ⟨.d0, .d0, .d4⟩
abbrev s005 : Sl := ⟨.d0, .d0, .d5⟩
abbrev s006 : Sl := ⟨.d0, .d0, .d6⟩
abbrev s007 : Sl := ⟨.d0, .d0, .d7⟩
abbrev s010 : Sl := ⟨.d0, .d1, .d0⟩
abbrev s011 : Sl := ⟨.d0, .d1, .d1⟩
abbrev s012 : Sl := ⟨.d0, .d1, .d2⟩
abbrev s013 : Sl := ⟨.d0, .d1, .d3⟩
abbrev s014 : Sl := ⟨.d0, .d1, .d4⟩
abbrev s015 : Sl := ⟨.d0, .d1, .d5⟩
abbrev s016 : Sl := ⟨.d0, .d1, .d6⟩
abbrev s017 : Sl := ⟨.d0, .d1, .d7⟩
abbrev s020 : Sl := ⟨.d0, .d2, .d0⟩
abbrev s021 : Sl := ⟨.d0, .d2, .d1⟩
abbrev s022 : Sl := ⟨.d0, .d2, .d2⟩
abbrev s023 : Sl := ⟨.d0, .d2, .d3⟩
abbrev s024 : Sl := ⟨.d0, .d2, .d4⟩
abbrev s025 : Sl := ⟨.d0, .d2, .d5⟩
abbrev s026 : Sl := ⟨.d0, .d2, .d6⟩
abbrev s027 : Sl := ⟨.d0, .d2, .d7⟩
abbrev s030 : Sl := ⟨.d0, .d3, .d0⟩
abbrev s031 : Sl := ⟨.d0, .d3, .d1⟩
abbrev s032 : Sl := ⟨.d0, .d3, .d2⟩
abbrev s033 : Sl := ⟨.d0, .d3, .d3⟩
abbrev s034 : Sl := ⟨.d0, .d3, .d4⟩
abbrev s035 : Sl := ⟨.d0, .d3, .d5⟩
abbrev s036 : Sl := ⟨.d0, .d3, .d6⟩
abbrev s037 : Sl := ⟨.d0, .d3, .d7⟩
abbrev s040 : Sl := ⟨.d0, .d4, .d0⟩
abbrev s041 : Sl := ⟨.d0, .d4, .d1⟩
abbrev s042 : Sl := ⟨.d0, .d4, .d2⟩
abbrev s043 : Sl := ⟨.d0, .d4, .d3⟩
abbrev s044 : Sl := ⟨.d0, .d4, .d4⟩
abbrev s045 : Sl := ⟨.d0, .d4, .d5⟩
abbrev s046 : Sl := ⟨.d0, .d4, .d6⟩
abbrev s047 : Sl := ⟨.d0, .d4, .d7⟩
abbrev s050 : Sl := ⟨.d0, .d5, .d0⟩
abbrev s051 : Sl := ⟨.d0, .d5, .d1⟩
abbrev s052 : Sl := ⟨.d0, .d5, .d2⟩
abbrev s053 : Sl := ⟨.d0, .d5, .d3⟩
abbrev s054 : Sl := ⟨.d0, .d5, .d4⟩
abbrev s055 : Sl := ⟨.d0, .d5, .d5⟩
abbrev s056 : Sl := ⟨.d0, .d5, .d6⟩
abbrev s057 : Sl := ⟨.d0, .d5, .d7⟩
abbrev s060 : Sl := ⟨.d0, .d6, .d0⟩
abbrev s061 : Sl := ⟨.d0, .d6, .d1⟩
abbrev s062 : Sl := ⟨.d0, .d6, .d2⟩
abbrev s063 : Sl := ⟨.d0, .d6, .d3⟩
abbrev s064 : Sl := ⟨.d0, .d6, .d4⟩
abbrev s065 : Sl := ⟨.d0, .d6, .d5⟩
abbrev s066 : Sl := ⟨.d0, .d6, .d6⟩
abbrev s067 : Sl := ⟨.d0, .d6, .d7⟩
abbrev s070 : Sl := ⟨.d0, .d7, .d0⟩
abbrev s071 : Sl := ⟨.d0, .d7, .d1⟩
abbrev s072 : Sl := ⟨.d0, .d7, .d2⟩
abbrev s073 : Sl := ⟨.d0, .d7, .d3⟩
abbrev s074 : Sl := ⟨.d0, .d7, .d4⟩
abbrev s075 : Sl := ⟨.d0, .d7, .d5⟩
abbrev s076 : Sl := ⟨.d0, .d7, .d6⟩
abbrev s077 : Sl := ⟨.d0, .d7, .d7⟩
abbrev s100 : Sl := ⟨.d1, .d0, .d0⟩
abbrev s101 : Sl := ⟨.d1, .d0, .d1⟩
abbrev s102 : Sl := ⟨.d1, .d0, .d2⟩
abbrev s103 : Sl := ⟨.d1, .d0, .d3⟩
abbrev s104 : Sl := ⟨.d1, .d0, .d4⟩
abbrev s105 : Sl := ⟨.d1, .d0, .d5⟩
abbrev s106 : Sl := ⟨.d1, .d0, .d6⟩
abbrev s107 : Sl := ⟨.d1, .d0, .d7⟩
abbrev s110 : Sl := ⟨.d1, .d1, .d0⟩
abbrev s111 : Sl := ⟨.d1, .d1, .d1⟩
abbrev s112 : Sl := ⟨.d1, .d1, .d2⟩
abbrev s113 : Sl := ⟨.d1, .d1, .d3⟩
abbrev s114 : Sl := ⟨.d1, .d1, .d4⟩
abbrev s115 : Sl := ⟨.d1, .d1, .d5⟩
abbrev s116 : Sl := ⟨.d1, .d1, .d6⟩
abbrev s117 : Sl := ⟨.d1, .d1, .d7⟩
abbrev s120 : Sl := ⟨.d1, .d2, .d0⟩
abbrev s121 : Sl := ⟨.d1, .d2, .d1⟩
abbrev s122 : Sl := ⟨.d1, .d2, .d2⟩
abbrev s123 : Sl := ⟨.d1, .d2, .d3⟩
abbrev s124 : Sl := ⟨.d1, .d2, .d4⟩
abbrev s125 : Sl := ⟨.d1, .d2, .d5⟩
abbrev s126 : Sl := ⟨.d1, .d2, .d6⟩
abbrev s127 : Sl := ⟨.d1, .d2, .d7⟩
abbrev s130 : Sl := ⟨.d1, .d3, .d0⟩
abbrev s131 : Sl := ⟨.d1, .d3, .d1⟩
abbrev s132 : Sl := ⟨.d1, .d3, .d2⟩
abbrev s133 : Sl := ⟨.d1, .d3, .d3⟩
abbrev s134 : Sl := ⟨.d1, .d3, .d4⟩
abbrev s135 : Sl := ⟨.d1, .d3, .d5⟩
abbrev s136 : Sl := ⟨.d1, .d3, .d6⟩
abbrev s137 : Sl := ⟨.d1, .d3, .d7⟩
abbrev s140 : Sl := ⟨.d1, .d4, .d0⟩
abbrev s141 : Sl := ⟨.d1, .d4, .d1⟩
abbrev s142 : Sl := ⟨.d1, .d4, .d2⟩
abbrev s143 : Sl := ⟨.d1, .d4, .d3⟩
abbrev s144 : Sl := ⟨.d1, .d4, .d4⟩
abbrev s145 : Sl := ⟨.d1, .d4, .d5⟩
abbrev s146 : Sl := ⟨.d1, .d4, .d6⟩
abbrev s147 : Sl := ⟨.d1, .d4, .d7⟩
abbrev s150 : Sl := ⟨.d1, .d5, .d0⟩
abbrev s151 : Sl := ⟨.d1, .d5, .d1⟩
abbrev s152 : Sl := ⟨.d1, .d5, .d2⟩
abbrev s153 : Sl := ⟨.d1, .d5, .d3⟩
abbrev s154 : Sl := ⟨.d1, .d5, .d4⟩
abbrev s155 : Sl := ⟨.d1, .d5, .d5⟩
abbrev s156 : Sl := ⟨.d1, .d5, .d6⟩
abbrev s157 : Sl := ⟨.d1, .d5, .d7⟩
abbrev s160 : Sl := ⟨.d1, .d6, .d0⟩
abbrev s161 : Sl := ⟨.d1, .d6, .d1⟩
abbrev s162 : Sl := ⟨.d1, .d6, .d2⟩
abbrev s163 : Sl := ⟨.d1, .d6, .d3⟩
abbrev s164 : Sl := ⟨.d1, .d6, .d4⟩
abbrev s165 : Sl := ⟨.d1, .d6, .d5⟩
abbrev s166 : Sl := ⟨.d1, .d6, .d6⟩
abbrev s167 : Sl := ⟨.d1, .d6, .d7⟩
abbrev s170 : Sl := ⟨.d1, .d7, .d0⟩
abbrev s171 : Sl := ⟨.d1, .d7, .d1⟩
abbrev s172 : Sl := ⟨.d1, .d7, .d2⟩
abbrev s173 : Sl := ⟨.d1, .d7, .d3⟩
abbrev s174 : Sl := ⟨.d1, .d7, .d4⟩
abbrev s175 : Sl := ⟨.d1, .d7, .d5⟩
abbrev s176 : Sl := ⟨.d1, .d7, .d6⟩
abbrev s177 : Sl := ⟨.d1, .d7, .d7⟩
abbrev s200 : Sl := ⟨.d2, .d0, .d0⟩
abbrev s201 : Sl := ⟨.d2, .d0, .d1⟩
abbrev s202 : Sl := ⟨.d2, .d0, .d2⟩
abbrev s203 : Sl := ⟨.d2, .d0, .d3⟩
abbrev s204 : Sl := ⟨.d2, .d0, .d4⟩
abbrev s205 : Sl := ⟨.d2, .d0, .d5⟩
abbrev s206 : Sl := ⟨.d2, .d0, .d6⟩
abbrev s207 : Sl := ⟨.d2, .d0, .d7⟩
abbrev s210 : Sl := ⟨.d2, .d1, .d0⟩
abbrev s211 : Sl := ⟨.d2, .d1, .d1⟩
abbrev s212 : Sl := ⟨.d2, .d1, .d2⟩
abbrev s213 : Sl := ⟨.d2, .d1, .d3⟩
abbrev s214 : Sl := ⟨.d2, .d1, .d4⟩
abbrev s215 : Sl := ⟨.d2, .d1, .d5⟩
abbrev s216 : Sl := ⟨.d2, .d1, .d6⟩
abbrev s217 : Sl := ⟨.d2, .d1, .d7⟩
abbrev s220 : Sl := ⟨.d2, .d2, .d0⟩
abbrev s221 : Sl := ⟨.d2, .d2, .d1⟩
abbrev s222 : Sl := ⟨.d2, .d2, .d2⟩
abbrev s223 : Sl := ⟨.d2, .d2, .d3⟩
abbrev s224 : Sl := ⟨.d2, .d2, .d4⟩
abbrev s225 : Sl := ⟨.d2, .d2, .d5⟩
abbrev s226 : Sl := ⟨.d2, .d2, .d6⟩
abbrev s227 : Sl := ⟨.d2, .d2, .d7⟩
abbrev s230 : Sl := ⟨.d2, .d3, .d0⟩
abbrev s231 : Sl := ⟨.d2, .d3, .d1⟩
abbrev s232 : Sl := ⟨.d2, .d3, .d2⟩
abbrev s233 : Sl := ⟨.d2, .d3, .d3⟩
abbrev s234 : Sl := ⟨.d2, .d3, .d4⟩
abbrev s235 : Sl := ⟨.d2, .d3, .d5⟩
abbrev s236 : Sl := ⟨.d2, .d3, .d6⟩
abbrev s237 : Sl := ⟨.d2, .d3, .d7⟩
abbrev s240 : Sl := ⟨.d2, .d4, .d0⟩
abbrev s241 : Sl := ⟨.d2, .d4, .d1⟩
abbrev s242 : Sl := ⟨.d2, .d4, .d2⟩
abbrev s243 : Sl := ⟨.d2, .d4, .d3⟩
abbrev s244 : Sl := ⟨.d2, .d4, .d4⟩
abbrev s245 : Sl := ⟨.d2, .d4, .d5⟩
abbrev s246 : Sl := ⟨.d2, .d4, .d6⟩
abbrev s247 : Sl := ⟨.d2, .d4, .d7⟩
abbrev s250 : Sl := ⟨.d2, .d5, .d0⟩
abbrev s251 : Sl := ⟨.d2, .d5, .d1⟩
abbrev s252 : Sl := ⟨.d2, .d5, .d2⟩
abbrev s253 : Sl := ⟨.d2, .d5, .d3⟩
/-- The slots worked out. -/
theorem auC {p q : Prop} (h : q) (e : q → p := by intro hq; dsimp only [xm, xl, xf, s000, s001, s002, s003, s004, s005, s006, s007, s010, s011, s012, s013, s014, s015, s016, s017, s020, s021, s022, s023, s024, s025, s026, s027, s030, s031, s032, s033, s034, s035, s036, s037, s040, s041, s042, s043, s044, s045, s046, s047, s050, s051, s052, s053, s054, s055, s056, s057, s060, s061, s062, s063, s064, s065, s066, s067, s070, s071, s072, s073, s074, s075, s076, s077, s100, s101, s102, s103, s104, s105, s106, s107, s110, s111, s112, s113, s114, s115, s116, s117, s120, s121, s122, s123, s124, s125, s126, s127, s130, s131, s132, s133, s134, s135, s136, s137, s140, s141, s142, s143, s144, s145, s146, s147, s150, s151, s152, s153, s154, s155, s156, s157, s160, s161, s162, s163, s164, s165, s166, s167, s170, s171, s172, s173, s174, s175, s176, s177, s200, s201, s202, s203, s204, s205, s206, s207, s210, s211, s212, s213, s214, s215, s216, s217, s220, s221, s222, s223, s224, s225, s226, s227, s230, s231, s232, s233, s234, s235, s236, s237, s240, s241, s242, s243, s244, s245, s246, s247, s250, s251, s252, s253]; exact hq) : p := e h
/-- custlaw.IpHops -/
def x_custlaw_IpHops : XC :=
 .seq (.region [⟨some s006, .move (.c (.bool false)), none⟩])
 (.seq (.region [xm s020 s000,
 ⟨some s021, .call 4 [(.t s020)], none⟩,
 xm s017 s021,
 ⟨some s022, .extract 0 (.t s017), none⟩,
 ⟨some s023, .extract 1 (.t s017), none⟩,
 xm s007 s022,
 xm s010 s023])
 (.seq (.region [xm s025 s000,
 ⟨some s026, .call 5 [(.t s025)], none⟩,
 xm s024 s026,
 ⟨some s027, .extract 0 (.t s024), none⟩,
 ⟨some s030, .extract 1 (.t s024), none⟩,
 xm s011 s027,
 xm s012 s030])
 (.seq (.region [xm s032 s002,
 ⟨some s033, .call 6 [(.t s032)], none⟩,
 xm s031 s033,
 ⟨some s034, .extract 0 (.t s031), none⟩,
 ⟨some s035, .extract 1 (.t s031), none⟩,
 xm s013 s034,
 xm s014 s035])
 (.seq (.region [xm s037 s002,
 ⟨some s040, .call 7 [(.t s037)], none⟩,
 xm s036 s040,
 ⟨some s041, .extract 0 (.t s036), none⟩,
 ⟨some s042, .extract 1 (.t s036), none⟩,
 xm s015 s041,
 xm s016 s042])
 (.seq (.region [xm s043 s007,
 xm s044 s011,
 ⟨some s045, .sbin .eql (.t s043) (.t s044), none⟩,
 xm s046 s045,
 ⟨some s047, .move (.t s010), some (s046, true)⟩,
 ⟨some s050, .move (.t s012), some (s046, true)⟩,
 ⟨some s051, .bin .eql (.t s047) (.t s050), some (s046, true)⟩,
 ⟨some s052, .pick (.t s046) (.t s051) (.c (.bool false)), none⟩,
 xm s053 s052,
 ⟨some s054, .move (.t s001), some (s053, true)⟩,
 ⟨some s055, .call 8 [(.t s054)], some (s053, true)⟩,
 ⟨some s056, .move (.t s001), some (s053, true)⟩,
 ⟨some s057, .call 9 [(.t s056)], some (s053, true)⟩,
 ⟨some s060, .sbin .eql (.t s055) (.t s057), some (s053, true)⟩,
 ⟨some s061, .pick (.t s053) (.t s060) (.c (.bool false)), none⟩,
 xm s062 s061,
 ⟨some s063, .move (.t s013), some (s062, true)⟩,
 ⟨some s064, .move (.t s015), some (s062, true)⟩,
 ⟨some s065, .bin .eql (.t s063) (.t s064), some (s062, true)⟩,
 ⟨some s066, .pick (.t s062) (.t s065) (.c (.bool false)), none⟩,
 xm s067 s066,
 ⟨some s070, .move (.t s014), some (s067, true)⟩,
 ⟨some s071, .move (.t s016), some (s067, true)⟩,
 ⟨some s072, .bin .eql (.t s070) (.t s071), some (s067, true)⟩,
 ⟨some s073, .pick (.t s067) (.t s072) (.c (.bool false)), none⟩,
 xm s006 s073])
 (.ret))))))
def r_custlaw_IpHops : List XR := [.tmp s006]
theorem ok_custlaw_IpHops : okC Tryd.prog Tryd.f3.ntmps (bodyOf Tryd.f3) x_custlaw_IpHops = true := by kernel_rfl
theorem okr_custlaw_IpHops : okRs Tryd.prog Tryd.f3.results.toList r_custlaw_IpHops = true := by kernel_rfl

/-- ip.Hop -/
def x_ip_Hop : XC :=
 .seq (.region [⟨some s002, .move (.c (.string { data := #[] })), none⟩,
 ⟨some s003, .move (.c (.int .i64 0)), none⟩])
 (.seq (.region [xm s012 s000,
 ⟨some s013, .call 10 [(.t s012)], none⟩,
 xm s011 s013,
 ⟨some s014, .extract 0 (.t s011), none⟩,
 ⟨some s015, .extract 1 (.t s011), none⟩,
 ⟨some s004, .alloc 0 [.int .i64 0, .int .i64 0, .bool false, .bool false, .int .i64 0, .int .i64 0, .int .i64 0, .int .u32 0, .int .u32 0, .string { data := #[] }, .string { data := #[] }], none⟩,
 ⟨none, .store 11 (.t s004) (.t s014), none⟩,
 xm s005 s015])
 (.seq (.seq (.region [xm s016 s005,
 ⟨some s017, .bin .neq (.t s016) (.c (.int .i64 0)), none⟩])
 (.cond (.t s017)
 (.seq (.region [xm s020 s005,
 ⟨some s002, .move (.c (.string { data := #[] })), none⟩,
 xm s003 s020])
 (.ret))
 (.skip)))
 (.seq (.seq (.region [xf 5 s021 s004,
 xl s022 s021,
 ⟨some s023, .bin .lss (.t s022) (.c (.int .i64 2)), none⟩])
 (.cond (.t s023)
 (.seq (.region [⟨some s002, .move (.c (.string { data := #[] })), none⟩,
 ⟨some s003, .move (.c (.int .i64 7)), none⟩])
 (.ret))
 (.skip)))
 (.seq (.regionD [0, 1, 3, 0, 8, 24, 56, 0, 128, 504, 1016, 7, 4095] [xm s024 s000,
 ⟨some s025, .call 11 [(.t s024), (.c (.int .i64 8))], none⟩,
 ⟨some s026, .convInt .u16 (.t s025), none⟩,
 xf 5 s027 s004,
 xl s030 s027,
 ⟨some s031, .bin .sub (.t s030) (.c (.int .i64 1)), none⟩,
 ⟨some s032, .bin .shl (.t s031) (.c (.int .u64 8)), none⟩,
 xf 6 s033 s004,
 xl s034 s033,
 ⟨some s035, .bin .or (.t s032) (.t s034), none⟩,
 ⟨some s036, .convInt .u16 (.t s035), none⟩,
 xm s006 s026,
 xm s007 s036])
 (.seq (.region [xm s037 s000,
 ⟨some s040, .call 11 [(.t s037), (.c (.int .i64 10))], none⟩,
 ⟨some s041, .convInt .u16 (.t s040), none⟩,
 xm s042 s006,
 xm s043 s007,
 ⟨some s044, .call 12 [(.t s041), (.t s042), (.t s043)], none⟩,
 xm s010 s044])
 (.seq (.regionD [0, 1, 0, 4, 12, 31, 0, 64, 220, 511, 0, 0, 2524, 7644, 16383, 32767, 65535] [xm s045 s000,
 ⟨some s046, .substr (.t s045) none (some (.c (.int .i64 8))), none⟩,
 xm s047 s007,
 ⟨some s050, .convInt .i64 (.t s047), none⟩,
 ⟨some s051, .call 13 [(.t s050)], none⟩,
 ⟨some s052, .sbin .add (.t s046) (.t s051), none⟩,
 xm s053 s010,
 ⟨some s054, .convInt .i64 (.t s053), none⟩,
 ⟨some s055, .call 13 [(.t s054)], none⟩,
 ⟨some s056, .sbin .add (.t s052) (.t s055), none⟩,
 xm s057 s000,
 xm s060 s000,
 ⟨some s061, .call 11 [(.t s060), (.c (.int .i64 2))], none⟩,
 ⟨some s062, .substr (.t s057) (some (.c (.int .i64 12))) (some (.t s061)), none⟩,
 ⟨some s063, .sbin .add (.t s056) (.t s062), none⟩,
 xm s002 s063,
 ⟨some s003, .move (.c (.int .i64 0)), none⟩])
 (.ret)))))))
def r_ip_Hop : List XR := [.tmp s002, .tmp s003]
theorem ok_ip_Hop : okC Tryd.prog Tryd.f4.ntmps (bodyOf Tryd.f4) x_ip_Hop = true := by kernel_rfl
theorem okr_ip_Hop : okRs Tryd.prog Tryd.f4.results.toList r_ip_Hop = true := by kernel_rfl

/-- custref.Hopped -/
def x_custref_Hopped : XC :=
 .seq (.region [⟨some s002, .move (.c (.string { data := #[] })), none⟩,
 ⟨some s003, .move (.c (.int .i64 0)), none⟩])
 (.seq (.region [xm s012 s000,
 ⟨some s013, .call 14 [(.t s012)], none⟩,
 xm s011 s013,
 ⟨some s014, .extract 0 (.t s011), none⟩,
 ⟨some s015, .extract 1 (.t s011), none⟩,
 ⟨some s004, .alloc 0 [.int .i64 0, .int .i64 0, .bool false, .bool false, .int .i64 0, .int .i64 0, .int .i64 0, .int .u32 0, .int .u32 0, .string { data := #[] }, .string { data := #[] }], none⟩,
 ⟨none, .store 11 (.t s004) (.t s014), none⟩,
 xm s005 s015])
 (.seq (.seq (.region [xm s016 s005,
 ⟨some s017, .bin .neq (.t s016) (.c (.int .i64 0)), none⟩])
 (.cond (.t s017)
 (.seq (.region [xm s020 s005,
 ⟨some s002, .move (.c (.string { data := #[] })), none⟩,
 xm s003 s020])
 (.ret))
 (.skip)))
 (.seq (.seq (.region [xf 5 s021 s004,
 xl s022 s021,
 ⟨some s023, .bin .lss (.t s022) (.c (.int .i64 2)), none⟩])
 (.cond (.t s023)
 (.seq (.region [⟨some s002, .move (.c (.string { data := #[] })), none⟩,
 ⟨some s003, .move (.c (.int .i64 7)), none⟩])
 (.ret))
 (.skip)))
 (.seq (.region [xm s024 s000,
 ⟨some s025, .call 15 [(.t s024), (.c (.int .i64 8))], none⟩,
 xm s006 s025])
 (.seq (.region [xm s026 s006,
 ⟨some s027, .bin .sub (.t s026) (.c (.int .i64 256)), none⟩,
 xm s007 s027])
 (.seq (.region [xm s030 s000,
 ⟨some s031, .call 15 [(.t s030), (.c (.int .i64 10))], none⟩,
 ⟨some s032, .bin .sub (.c (.int .i64 65535)) (.t s031), none⟩,
 xm s033 s006,
 ⟨some s034, .bin .sub (.c (.int .i64 65535)) (.t s033), none⟩,
 ⟨some s035, .call 16 [(.t s032), (.t s034)], none⟩,
 xm s036 s007,
 ⟨some s037, .call 16 [(.t s035), (.t s036)], none⟩,
 ⟨some s040, .bin .sub (.c (.int .i64 65535)) (.t s037), none⟩,
 xm s010 s040])
 (.seq (.regionD [0, 1, 0, 4, 15, 0, 44, 127, 0, 0, 620, 1900, 4095, 8191, 16383] [xm s041 s000,
 ⟨some s042, .substr (.t s041) none (some (.c (.int .i64 8))), none⟩,
 xm s043 s007,
 ⟨some s044, .call 17 [(.t s043)], none⟩,
 ⟨some s045, .sbin .add (.t s042) (.t s044), none⟩,
 xm s046 s010,
 ⟨some s047, .call 17 [(.t s046)], none⟩,
 ⟨some s050, .sbin .add (.t s045) (.t s047), none⟩,
 xm s051 s000,
 xm s052 s000,
 ⟨some s053, .call 15 [(.t s052), (.c (.int .i64 2))], none⟩,
 ⟨some s054, .substr (.t s051) (some (.c (.int .i64 12))) (some (.t s053)), none⟩,
 ⟨some s055, .sbin .add (.t s050) (.t s054), none⟩,
 xm s002 s055,
 ⟨some s003, .move (.c (.int .i64 0)), none⟩])
 (.ret))))))))
def r_custref_Hopped : List XR := [.tmp s002, .tmp s003]
theorem ok_custref_Hopped : okC Tryd.prog Tryd.f5.ntmps (bodyOf Tryd.f5) x_custref_Hopped = true := by kernel_rfl
theorem okr_custref_Hopped : okRs Tryd.prog Tryd.f5.results.toList r_custref_Hopped = true := by kernel_rfl

/-- ip.Parse -/
def x_ip_Parse : XC :=
 .seq (.region [⟨some s002, .move (.c (.int .u32 0)), none⟩,
 ⟨some s003, .move (.c (.int .i64 0)), none⟩])
 (.seq (.region [⟨some s004, .move (.c (.int .u32 0)), none⟩])
 (.seq (.region [xm s012 s000,
 ⟨some s013, .call 18 [(.t s012), (.c (.string { data := #[46] }))], none⟩,
 xm s005 s013])
 (.seq (.seq (.region [xm s014 s005,
 ⟨some s015, .len (.t s014), none⟩,
 ⟨some s016, .move (.c (.int .i64 0)), none⟩])
 (.block 0
 (.loop
 (.seq (.region [⟨some s017, .bin .lss (.t s016) (.t s015), none⟩])
 (.seq (.cond (.t s017)
 (.skip)
 (.exit 0))
 (.seq (.block 1
 (.seq (.region [⟨some s020, .indexSl 1 (.t s014) (.t s016), none⟩,
 xl s021 s020,
 xm s007 s021])
 (.seq (.region [xm s023 s007,
 ⟨some s024, .call 19 [(.t s023), (.c (.int .i64 10)), (.c (.int .i64 8))], none⟩,
 xm s022 s024,
 ⟨some s025, .extract 0 (.t s022), none⟩,
 ⟨some s026, .extract 1 (.t s022), none⟩,
 xm s010 s025,
 xm s011 s026])
 (.seq (.seq (.region [xm s027 s011,
 ⟨some s030, .isnilI true (.t s027), none⟩])
 (.cond (.t s030)
 (.seq (.region [⟨some s002, .move (.c (.int .u32 0)), none⟩,
 ⟨some s003, .move (.c (.int .i64 10)), none⟩])
 (.ret))
 (.skip)))
 (.region [xm s031 s004,
 ⟨some s032, .bin .shl (.t s031) (.c (.int .u64 8)), none⟩,
 xm s033 s010,
 ⟨some s034, .convInt .u32 (.t s033), none⟩,
 ⟨some s035, .bin .or (.t s032) (.t s034), none⟩,
 xm s004 s035])))))
 (.region [⟨some s036, .bin .add (.t s016) (.c (.int .i64 1)), none⟩,
 xm s016 s036])))))))
 (.seq (.seq (.region [xm s037 s004,
 ⟨some s040, .call 8 [(.t s037)], none⟩,
 xm s041 s000,
 ⟨some s042, .sbin .neq (.t s040) (.t s041), none⟩])
 (.cond (.t s042)
 (.seq (.region [⟨some s002, .move (.c (.int .u32 0)), none⟩,
 ⟨some s003, .move (.c (.int .i64 10)), none⟩])
 (.ret))
 (.skip)))
 (.seq (.region [xm s043 s004,
 xm s002 s043,
 ⟨some s003, .move (.c (.int .i64 0)), none⟩])
 (.ret))))))
def r_ip_Parse : List XR := [.tmp s002, .tmp s003]
theorem ok_ip_Parse : okC Tryd.prog Tryd.f6.ntmps (bodyOf Tryd.f6) x_ip_Parse = true := by kernel_rfl
theorem okr_ip_Parse : okRs Tryd.prog Tryd.f6.results.toList r_ip_Parse = true := by kernel_rfl

/-- custref.TextAddr -/
def x_custref_TextAddr : XC :=
 .seq (.region [⟨some s002, .move (.c (.int .u32 0)), none⟩,
 ⟨some s003, .move (.c (.int .i64 0)), none⟩])
 (.seq (.region [xm s012 s000,
 ⟨some s013, .call 18 [(.t s012), (.c (.string { data := #[46] }))], none⟩,
 xm s004 s013])
 (.seq (.seq (.region [xm s014 s004,
 ⟨some s015, .len (.t s014), none⟩,
 ⟨some s016, .bin .neq (.t s015) (.c (.int .i64 4)), none⟩])
 (.cond (.t s016)
 (.seq (.region [⟨some s002, .move (.c (.int .u32 0)), none⟩,
 ⟨some s003, .move (.c (.int .i64 10)), none⟩])
 (.ret))
 (.skip)))
 (.seq (.region [⟨some s005, .move (.c (.int .i64 0)), none⟩])
 (.seq (.seq (.region [xm s017 s004,
 ⟨some s020, .len (.t s017), none⟩,
 ⟨some s021, .move (.c (.int .i64 0)), none⟩])
 (.block 0
 (.loop
 (.seq (.region [⟨some s022, .bin .lss (.t s021) (.t s020), none⟩])
 (.seq (.cond (.t s022)
 (.skip)
 (.exit 0))
 (.seq (.block 1
 (.seq (.region [⟨some s023, .indexSl 1 (.t s017) (.t s021), none⟩,
 xl s024 s023,
 xm s007 s024])
 (.seq (.region [xm s026 s007,
 ⟨some s027, .call 20 [(.t s026)], none⟩,
 xm s025 s027,
 ⟨some s030, .extract 0 (.t s025), none⟩,
 ⟨some s031, .extract 1 (.t s025), none⟩,
 xm s010 s030,
 xm s011 s031])
 (.seq (.seq (.region [xm s032 s011,
 ⟨some s033, .un .not (.t s032), none⟩,
 xm s034 s033,
 ⟨some s035, .move (.t s010), some (s034, false)⟩,
 ⟨some s036, .bin .gtr (.t s035) (.c (.int .i64 255)), some (s034, false)⟩,
 ⟨some s037, .pick (.t s034) (.c (.bool true)) (.t s036), none⟩])
 (.cond (.t s037)
 (.seq (.region [⟨some s002, .move (.c (.int .u32 0)), none⟩,
 ⟨some s003, .move (.c (.int .i64 10)), none⟩])
 (.ret))
 (.skip)))
 (.region [xm s040 s005,
 ⟨some s041, .bin .mul (.c (.int .i64 256)) (.t s040), none⟩,
 xm s042 s010,
 ⟨some s043, .bin .add (.t s041) (.t s042), none⟩,
 xm s005 s043])))))
 (.region [⟨some s044, .bin .add (.t s021) (.c (.int .i64 1)), none⟩,
 xm s021 s044])))))))
 (.seq (.region [xm s045 s005,
 ⟨some s046, .convInt .u32 (.t s045), none⟩,
 xm s002 s046,
 ⟨some s003, .move (.c (.int .i64 0)), none⟩])
 (.ret))))))
def r_custref_TextAddr : List XR := [.tmp s002, .tmp s003]
theorem ok_custref_TextAddr : okC Tryd.prog Tryd.f7.ntmps (bodyOf Tryd.f7) x_custref_TextAddr = true := by kernel_rfl
theorem okr_custref_TextAddr : okRs Tryd.prog Tryd.f7.results.toList r_custref_TextAddr = true := by kernel_rfl

/-- ip.Show -/
def x_ip_Show : XC :=
 .seq (.region [⟨some s002, .move (.c (.string { data := #[] })), none⟩])
 (.seq (.region [⟨some s003, .move (.c (.slice none 0 0)), none⟩])
 (.seq (.seq (.region [⟨some s004, .move (.c (.int .i64 24)), none⟩])
 (.block 0
 (.loop
 (.seq (.seq (.region [xm s005 s004,
 ⟨some s006, .bin .geq (.t s005) (.c (.int .i64 0)), none⟩])
 (.cond (.t s006)
 (.skip)
 (.exit 0)))
 (.seq (.block 1
 (.region [xm s011 s003,
 xm s012 s000,
 xm s013 s004,
 ⟨some s014, .bin .shr (.t s012) (.t s013), none⟩,
 ⟨some s015, .bin .and (.t s014) (.c (.int .u32 255)), none⟩,
 ⟨some s016, .convInt .i64 (.t s015), none⟩,
 ⟨some s017, .call 21 [(.t s016)], none⟩,
 ⟨some s020, .buildSlice 0 1 [.string { data := #[] }] [(0, (.t s017))], none⟩,
 ⟨some s021, .append 1 1 16 (.t s011) (.t s020), none⟩,
 xm s003 s021]))
 (.region [xm s007 s004,
 ⟨some s010, .bin .sub (.t s007) (.c (.int .i64 8)), none⟩,
 xm s004 s010]))))))
 (.seq (.region [xm s022 s003,
 ⟨some s023, .call 22 [(.t s022), (.c (.string { data := #[46] }))], none⟩,
 xm s002 s023])
 (.ret))))
def r_ip_Show : List XR := [.tmp s002]
theorem ok_ip_Show : okC Tryd.prog Tryd.f8.ntmps (bodyOf Tryd.f8) x_ip_Show = true := by kernel_rfl
theorem okr_ip_Show : okRs Tryd.prog Tryd.f8.results.toList r_ip_Show = true := by kernel_rfl

/-- custref.AddrText -/
def x_custref_AddrText : XC :=
 .seq (.region [⟨some s002, .move (.c (.string { data := #[] })), none⟩])
 (.seq (.region [xm s006 s000,
 ⟨some s007, .call 23 [(.t s006)], none⟩,
 xm s003 s007])
 (.seq (.region [⟨some s004, .move (.c (.string { data := #[] })), none⟩])
 (.seq (.seq (.region [⟨some s010, .move (.c (.int .i64 0)), none⟩])
 (.block 0
 (.loop
 (.seq (.region [⟨some s011, .bin .lss (.t s010) (.c (.int .i64 4)), none⟩])
 (.seq (.cond (.t s011)
 (.skip)
 (.exit 0))
 (.seq (.block 1
 (.seq (.region [xm s012 s010,
 xm s005 s012])
 (.seq (.seq (.region [xm s013 s005,
 ⟨some s014, .bin .gtr (.t s013) (.c (.int .i64 0)), none⟩])
 (.cond (.t s014)
 (.region [xm s015 s004,
 ⟨some s016, .sbin .add (.t s015) (.c (.string { data := #[46] })), none⟩,
 xm s004 s016])
 (.skip)))
 (.region [xm s017 s004,
 xm s020 s003,
 xm s021 s005,
 ⟨some s022, .strAt (.t s020) (.t s021), none⟩,
 ⟨some s023, .convInt .i64 (.t s022), none⟩,
 ⟨some s024, .call 24 [(.t s023)], none⟩,
 ⟨some s025, .sbin .add (.t s017) (.t s024), none⟩,
 xm s004 s025]))))
 (.region [⟨some s026, .bin .add (.t s010) (.c (.int .i64 1)), none⟩,
 xm s010 s026])))))))
 (.seq (.region [xm s027 s004,
 xm s002 s027])
 (.ret)))))
def r_custref_AddrText : List XR := [.tmp s002]
theorem ok_custref_AddrText : okC Tryd.prog Tryd.f9.ntmps (bodyOf Tryd.f9) x_custref_AddrText = true := by kernel_rfl
theorem okr_custref_AddrText : okRs Tryd.prog Tryd.f9.results.toList r_custref_AddrText = true := by kernel_rfl

/-- ip.Read -/
def x_ip_Read : XC :=
 .seq (.region [⟨some s002, .alloc 0 [.int .i64 0, .int .i64 0, .bool false, .bool false, .int .i64 0, .int .i64 0, .int .i64 0, .int .u32 0, .int .u32 0, .string { data := #[] }, .string { data := #[] }], none⟩,
 ⟨some s003, .move (.c (.int .i64 0)), none⟩])
 (.seq (.seq (.region [xm s010 s000,
 ⟨some s011, .slen (.t s010), none⟩,
 ⟨some s012, .bin .lss (.t s011) (.c (.int .i64 20)), none⟩])
 (.cond (.t s012)
 (.seq (.region [⟨some s013, .build [.int .i64 0, .int .i64 0, .bool false, .bool false, .int .i64 0, .int .i64 0, .int .i64 0, .int .u32 0, .int .u32 0, .string { data := #[] }, .string { data := #[] }] [], none⟩,
 ⟨none, .store 11 (.t s002) (.t s013), none⟩,
 ⟨some s003, .move (.c (.int .i64 3)), none⟩])
 (.ret))
 (.skip)))
 (.seq (.regionD [0, 1, 3, 7, 15, 0, 32, 127, 255] [xm s014 s000,
 ⟨some s015, .strAt (.t s014) (.c (.int .i64 0)), none⟩,
 ⟨some s016, .bin .and (.t s015) (.c (.int .u8 15)), none⟩,
 ⟨some s017, .convInt .i64 (.t s016), none⟩,
 ⟨some s020, .bin .mul (.t s017) (.c (.int .i64 4)), none⟩,
 xm s021 s000,
 ⟨some s022, .call 11 [(.t s021), (.c (.int .i64 2))], none⟩,
 xm s004 s020,
 xm s005 s022])
 (.seq (.seq (.region [xm s023 s000,
 ⟨some s024, .slen (.t s023), none⟩,
 xm s025 s004,
 ⟨some s026, .bin .lss (.t s024) (.t s025), none⟩,
 xm s027 s026,
 ⟨some s030, .move (.t s000), some (s027, false)⟩,
 ⟨some s031, .slen (.t s030), some (s027, false)⟩,
 ⟨some s032, .move (.t s005), some (s027, false)⟩,
 ⟨some s033, .bin .lss (.t s031) (.t s032), some (s027, false)⟩,
 ⟨some s034, .pick (.t s027) (.c (.bool true)) (.t s033), none⟩])
 (.cond (.t s034)
 (.seq (.region [⟨some s035, .build [.int .i64 0, .int .i64 0, .bool false, .bool false, .int .i64 0, .int .i64 0, .int .i64 0, .int .u32 0, .int .u32 0, .string { data := #[] }, .string { data := #[] }] [], none⟩,
 ⟨none, .store 11 (.t s002) (.t s035), none⟩,
 ⟨some s003, .move (.c (.int .i64 3)), none⟩])
 (.ret))
 (.skip)))
 (.seq (.region [xm s036 s000,
 ⟨some s037, .call 11 [(.t s036), (.c (.int .i64 6))], none⟩,
 xm s006 s037])
 (.seq (.seq (.region [xm s040 s000,
 ⟨some s041, .strAt (.t s040) (.c (.int .i64 0)), none⟩,
 ⟨some s042, .bin .shr (.t s041) (.c (.int .u64 4)), none⟩,
 ⟨some s043, .bin .neq (.t s042) (.c (.int .u8 4)), none⟩,
 xm s044 s043,
 ⟨some s045, .move (.t s004), some (s044, false)⟩,
 ⟨some s046, .bin .lss (.t s045) (.c (.int .i64 20)), some (s044, false)⟩,
 ⟨some s047, .pick (.t s044) (.c (.bool true)) (.t s046), none⟩,
 xm s050 s047,
 ⟨some s051, .move (.t s005), some (s050, false)⟩,
 ⟨some s052, .move (.t s004), some (s050, false)⟩,
 ⟨some s053, .bin .lss (.t s051) (.t s052), some (s050, false)⟩,
 ⟨some s054, .pick (.t s050) (.c (.bool true)) (.t s053), none⟩,
 xm s055 s054,
 ⟨some s056, .move (.t s006), some (s055, false)⟩,
 ⟨some s057, .bin .shr (.t s056) (.c (.int .u64 15)), some (s055, false)⟩,
 ⟨some s060, .bin .eql (.t s057) (.c (.int .i64 1)), some (s055, false)⟩,
 ⟨some s061, .pick (.t s055) (.c (.bool true)) (.t s060), none⟩])
 (.cond (.t s061)
 (.seq (.region [⟨some s062, .build [.int .i64 0, .int .i64 0, .bool false, .bool false, .int .i64 0, .int .i64 0, .int .i64 0, .int .u32 0, .int .u32 0, .string { data := #[] }, .string { data := #[] }] [], none⟩,
 ⟨none, .store 11 (.t s002) (.t s062), none⟩,
 ⟨some s003, .move (.c (.int .i64 4)), none⟩])
 (.ret))
 (.skip)))
 (.seq (.regionD [0, 1, 3, 0, 8, 0, 32, 96, 224, 0, 512, 1536, 3584, 0, 8192, 0, 32768, 98304, 0, 262144, 786432, 0, 2097176, 0, 14680088, 0, 0, 100663296, 0, 0, 0, 1879048192, 4294967295, 0, 17179869183] [xm s063 s000,
 ⟨some s064, .strAt (.t s063) (.c (.int .i64 1)), none⟩,
 ⟨some s065, .convInt .i64 (.t s064), none⟩,
 xm s066 s000,
 ⟨some s067, .call 11 [(.t s066), (.c (.int .i64 4))], none⟩,
 xm s070 s006,
 ⟨some s071, .bin .shr (.t s070) (.c (.int .u64 14)), none⟩,
 ⟨some s072, .bin .and (.t s071) (.c (.int .i64 1)), none⟩,
 ⟨some s073, .bin .eql (.t s072) (.c (.int .i64 1)), none⟩,
 xm s074 s006,
 ⟨some s075, .bin .shr (.t s074) (.c (.int .u64 13)), none⟩,
 ⟨some s076, .bin .and (.t s075) (.c (.int .i64 1)), none⟩,
 ⟨some s077, .bin .eql (.t s076) (.c (.int .i64 1)), none⟩,
 xm s100 s006,
 ⟨some s101, .bin .and (.t s100) (.c (.int .i64 8191)), none⟩,
 xm s102 s000,
 ⟨some s103, .strAt (.t s102) (.c (.int .i64 8)), none⟩,
 ⟨some s104, .convInt .i64 (.t s103), none⟩,
 xm s105 s000,
 ⟨some s106, .strAt (.t s105) (.c (.int .i64 9)), none⟩,
 ⟨some s107, .convInt .i64 (.t s106), none⟩,
 xm s110 s000,
 ⟨some s111, .call 25 [(.t s110), (.c (.int .i64 12))], none⟩,
 xm s112 s000,
 ⟨some s113, .call 25 [(.t s112), (.c (.int .i64 16))], none⟩,
 xm s114 s000,
 xm s115 s004,
 ⟨some s116, .substr (.t s114) (some (.c (.int .i64 20))) (some (.t s115)), none⟩,
 xm s117 s000,
 xm s120 s004,
 xm s121 s005,
 ⟨some s122, .substr (.t s117) (some (.t s120)) (some (.t s121)), none⟩,
 ⟨some s123, .build [.int .i64 0, .int .i64 0, .bool false, .bool false, .int .i64 0, .int .i64 0, .int .i64 0, .int .u32 0, .int .u32 0, .string { data := #[] }, .string { data := #[] }] [(0, 1, (.t s065)), (1, 1, (.t s067)), (2, 1, (.t s073)), (3, 1, (.t s077)), (4, 1, (.t s101)), (5, 1, (.t s104)), (6, 1, (.t s107)), (7, 1, (.t s111)), (8, 1, (.t s113)), (9, 1, (.t s116)), (10, 1, (.t s122))], none⟩,
 ⟨some s007, .alloc 1 [.int .i64 0, .int .i64 0, .bool false, .bool false, .int .i64 0, .int .i64 0, .int .i64 0, .int .u32 0, .int .u32 0, .string { data := #[] }, .string { data := #[] }], none⟩,
 ⟨none, .store 11 (.t s007) (.t s123), none⟩])
 (.seq (.seq (.region [⟨some s124, .load true 11 (.t s007), none⟩,
 ⟨some s125, .call 26 [(.t s124)], none⟩,
 ⟨some s126, .bin .neq (.t s125) (.c (.int .i64 0)), none⟩])
 (.cond (.t s126)
 (.seq (.region [⟨some s127, .build [.int .i64 0, .int .i64 0, .bool false, .bool false, .int .i64 0, .int .i64 0, .int .i64 0, .int .u32 0, .int .u32 0, .string { data := #[] }, .string { data := #[] }] [], none⟩,
 ⟨none, .store 11 (.t s002) (.t s127), none⟩,
 ⟨some s003, .move (.c (.int .i64 4)), none⟩])
 (.ret))
 (.skip)))
 (.seq (.seq (.region [xm s130 s000,
 xm s131 s004,
 ⟨some s132, .substr (.t s130) none (some (.t s131)), none⟩,
 ⟨some s133, .call 27 [(.t s132)], none⟩,
 ⟨some s134, .un .not (.t s133), none⟩])
 (.cond (.t s134)
 (.seq (.region [⟨some s135, .build [.int .i64 0, .int .i64 0, .bool false, .bool false, .int .i64 0, .int .i64 0, .int .i64 0, .int .u32 0, .int .u32 0, .string { data := #[] }, .string { data := #[] }] [], none⟩,
 ⟨none, .store 11 (.t s002) (.t s135), none⟩,
 ⟨some s003, .move (.c (.int .i64 5)), none⟩])
 (.ret))
 (.skip)))
 (.seq (.region [⟨some s136, .load true 11 (.t s007), none⟩,
 ⟨none, .store 11 (.t s002) (.t s136), none⟩,
 ⟨some s003, .move (.c (.int .i64 0)), none⟩])
 (.ret))))))))))
def r_ip_Read : List XR := [.cell s002 true 11, .tmp s003]
theorem ok_ip_Read : okC Tryd.prog Tryd.f10.ntmps (bodyOf Tryd.f10) x_ip_Read = true := by kernel_rfl
theorem okr_ip_Read : okRs Tryd.prog Tryd.f10.results.toList r_ip_Read = true := by kernel_rfl

/-- ip.wordAt -/
def x_ip_wordAt : XC :=
 .seq (.region [⟨some s004, .move (.c (.int .i64 0)), none⟩])
 (.seq (.regionD [0, 0, 3, 7, 15, 0, 0, 64, 224, 480, 1023, 2047] [xm s005 s000,
 xm s006 s001,
 ⟨some s007, .strAt (.t s005) (.t s006), none⟩,
 ⟨some s010, .convInt .i64 (.t s007), none⟩,
 ⟨some s011, .bin .shl (.t s010) (.c (.int .u64 8)), none⟩,
 xm s012 s000,
 xm s013 s001,
 ⟨some s014, .bin .add (.t s013) (.c (.int .i64 1)), none⟩,
 ⟨some s015, .strAt (.t s012) (.t s014), none⟩,
 ⟨some s016, .convInt .i64 (.t s015), none⟩,
 ⟨some s017, .bin .or (.t s011) (.t s016), none⟩,
 xm s004 s017])
 (.ret))
def r_ip_wordAt : List XR := [.tmp s004]
theorem ok_ip_wordAt : okC Tryd.prog Tryd.f11.ntmps (bodyOf Tryd.f11) x_ip_wordAt = true := by kernel_rfl
theorem okr_ip_wordAt : okRs Tryd.prog Tryd.f11.results.toList r_ip_wordAt = true := by kernel_rfl

/-- sum.Fix -/
def x_sum_Fix : XC :=
 .seq (.region [⟨some s006, .move (.c (.int .u16 0)), none⟩])
 (.seq (.region [xm s007 s000,
 ⟨some s010, .un .xor (.t s007), none⟩,
 ⟨some s011, .convInt .u64 (.t s010), none⟩,
 xm s012 s001,
 ⟨some s013, .un .xor (.t s012), none⟩,
 ⟨some s014, .convInt .u64 (.t s013), none⟩,
 ⟨some s015, .bin .add (.t s011) (.t s014), none⟩,
 xm s016 s002,
 ⟨some s017, .convInt .u64 (.t s016), none⟩,
 ⟨some s020, .bin .add (.t s015) (.t s017), none⟩,
 ⟨some s021, .call 28 [(.t s020)], none⟩,
 ⟨some s022, .un .xor (.t s021), none⟩,
 xm s006 s022])
 (.ret))
def r_sum_Fix : List XR := [.tmp s006]
theorem ok_sum_Fix : okC Tryd.prog Tryd.f12.ntmps (bodyOf Tryd.f12) x_sum_Fix = true := by kernel_rfl
theorem okr_sum_Fix : okRs Tryd.prog Tryd.f12.results.toList r_sum_Fix = true := by kernel_rfl

/-- ip.word -/
def x_ip_word : XC :=
 .seq (.region [⟨some s002, .move (.c (.string { data := #[] })), none⟩])
 (.seq (.region [xm s003 s000,
 ⟨some s004, .bin .shr (.t s003) (.c (.int .u64 8)), none⟩,
 ⟨some s005, .convInt .u8 (.t s004), none⟩,
 xm s006 s000,
 ⟨some s007, .convInt .u8 (.t s006), none⟩,
 ⟨some s010, .buildSlice 0 2 [.int .u8 0] [(0, (.t s005)), (1, (.t s007))], none⟩,
 ⟨some s011, .b2s (.t s010), none⟩,
 xm s002 s011])
 (.ret))
def r_ip_word : List XR := [.tmp s002]
theorem ok_ip_word : okC Tryd.prog Tryd.f13.ntmps (bodyOf Tryd.f13) x_ip_word = true := by kernel_rfl
theorem okr_ip_word : okRs Tryd.prog Tryd.f13.results.toList r_ip_word = true := by kernel_rfl

/-- custref.TextPacket -/
def x_custref_TextPacket : XC :=
 .seq (.region [⟨some s002, .alloc 0 [.int .i64 0, .int .i64 0, .bool false, .bool false, .int .i64 0, .int .i64 0, .int .i64 0, .int .u32 0, .int .u32 0, .string { data := #[] }, .string { data := #[] }], none⟩,
 ⟨some s003, .move (.c (.int .i64 0)), none⟩])
 (.seq (.region [⟨some s013, .build [.int .i64 0, .int .i64 0, .bool false, .bool false, .int .i64 0, .int .i64 0, .int .i64 0, .int .u32 0, .int .u32 0, .string { data := #[] }, .string { data := #[] }] [], none⟩,
 ⟨some s004, .alloc 1 [.int .i64 0, .int .i64 0, .bool false, .bool false, .int .i64 0, .int .i64 0, .int .i64 0, .int .u32 0, .int .u32 0, .string { data := #[] }, .string { data := #[] }], none⟩,
 ⟨none, .store 11 (.t s004) (.t s013), none⟩])
 (.seq (.seq (.region [xm s014 s000,
 ⟨some s015, .slen (.t s014), none⟩,
 ⟨some s016, .bin .lss (.t s015) (.c (.int .i64 20)), none⟩])
 (.cond (.t s016)
 (.seq (.region [⟨some s017, .load true 11 (.t s004), none⟩,
 ⟨none, .store 11 (.t s002) (.t s017), none⟩,
 ⟨some s003, .move (.c (.int .i64 3)), none⟩])
 (.ret))
 (.skip)))
 (.seq (.regionD [0, 1, 3, 7, 15, 0, 32, 127, 255] [xm s020 s000,
 ⟨some s021, .strAt (.t s020) (.c (.int .i64 0)), none⟩,
 ⟨some s022, .convInt .i64 (.t s021), none⟩,
 ⟨some s023, .bin .rem (.t s022) (.c (.int .i64 16)), none⟩,
 ⟨some s024, .bin .mul (.c (.int .i64 4)) (.t s023), none⟩,
 xm s025 s000,
 ⟨some s026, .call 15 [(.t s025), (.c (.int .i64 2))], none⟩,
 xm s005 s024,
 xm s006 s026])
 (.seq (.seq (.region [xm s027 s000,
 ⟨some s030, .slen (.t s027), none⟩,
 xm s031 s005,
 xm s032 s006,
 ⟨some s033, .maxI (.t s031) (.t s032), none⟩,
 ⟨some s034, .bin .lss (.t s030) (.t s033), none⟩])
 (.cond (.t s034)
 (.seq (.region [⟨some s035, .load true 11 (.t s004), none⟩,
 ⟨none, .store 11 (.t s002) (.t s035), none⟩,
 ⟨some s003, .move (.c (.int .i64 3)), none⟩])
 (.ret))
 (.skip)))
 (.seq (.region [xm s036 s000,
 ⟨some s037, .call 15 [(.t s036), (.c (.int .i64 6))], none⟩,
 xm s007 s037])
 (.seq (.seq (.region [xm s040 s000,
 ⟨some s041, .strAt (.t s040) (.c (.int .i64 0)), none⟩,
 ⟨some s042, .convInt .i64 (.t s041), none⟩,
 ⟨some s043, .call 29 [(.t s042), (.c (.int .i64 69)), (.c (.int .i64 79))], none⟩,
 ⟨some s044, .un .not (.t s043), none⟩,
 xm s045 s044,
 ⟨some s046, .move (.t s006), some (s045, false)⟩,
 ⟨some s047, .move (.t s005), some (s045, false)⟩,
 ⟨some s050, .bin .lss (.t s046) (.t s047), some (s045, false)⟩,
 ⟨some s051, .pick (.t s045) (.c (.bool true)) (.t s050), none⟩,
 xm s052 s051,
 ⟨some s053, .move (.t s007), some (s052, false)⟩,
 ⟨some s054, .bin .geq (.t s053) (.c (.int .i64 32768)), some (s052, false)⟩,
 ⟨some s055, .pick (.t s052) (.c (.bool true)) (.t s054), none⟩])
 (.cond (.t s055)
 (.seq (.region [⟨some s056, .load true 11 (.t s004), none⟩,
 ⟨none, .store 11 (.t s002) (.t s056), none⟩,
 ⟨some s003, .move (.c (.int .i64 4)), none⟩])
 (.ret))
 (.skip)))
 (.seq (.regionD [0, 1, 3, 0, 8, 0, 32, 0, 128, 384, 896, 0, 2048, 6144, 0, 16384, 49152, 0, 131072, 393216, 0, 1048600, 0, 7340056, 0, 0, 50331648, 0, 0, 0, 939524096, 2147483647, 0, 8589934591] [xm s057 s000,
 ⟨some s060, .strAt (.t s057) (.c (.int .i64 1)), none⟩,
 ⟨some s061, .convInt .i64 (.t s060), none⟩,
 xm s062 s000,
 ⟨some s063, .call 15 [(.t s062), (.c (.int .i64 4))], none⟩,
 xm s064 s007,
 ⟨some s065, .bin .rem (.t s064) (.c (.int .i64 8192)), none⟩,
 xm s066 s007,
 ⟨some s067, .bin .quo (.t s066) (.c (.int .i64 8192)), none⟩,
 ⟨some s070, .bin .rem (.t s067) (.c (.int .i64 2)), none⟩,
 ⟨some s071, .bin .eql (.t s070) (.c (.int .i64 1)), none⟩,
 xm s072 s007,
 ⟨some s073, .bin .quo (.t s072) (.c (.int .i64 16384)), none⟩,
 ⟨some s074, .bin .eql (.t s073) (.c (.int .i64 1)), none⟩,
 xm s075 s000,
 ⟨some s076, .strAt (.t s075) (.c (.int .i64 8)), none⟩,
 ⟨some s077, .convInt .i64 (.t s076), none⟩,
 xm s100 s000,
 ⟨some s101, .strAt (.t s100) (.c (.int .i64 9)), none⟩,
 ⟨some s102, .convInt .i64 (.t s101), none⟩,
 xm s103 s000,
 ⟨some s104, .call 30 [(.t s103), (.c (.int .i64 12))], none⟩,
 xm s105 s000,
 ⟨some s106, .call 30 [(.t s105), (.c (.int .i64 16))], none⟩,
 xm s107 s000,
 xm s110 s005,
 ⟨some s111, .substr (.t s107) (some (.c (.int .i64 20))) (some (.t s110)), none⟩,
 xm s112 s000,
 xm s113 s005,
 xm s114 s006,
 ⟨some s115, .substr (.t s112) (some (.t s113)) (some (.t s114)), none⟩,
 ⟨some s116, .build [.int .i64 0, .int .i64 0, .bool false, .bool false, .int .i64 0, .int .i64 0, .int .i64 0, .int .u32 0, .int .u32 0, .string { data := #[] }, .string { data := #[] }] [(0, 1, (.t s061)), (1, 1, (.t s063)), (4, 1, (.t s065)), (3, 1, (.t s071)), (2, 1, (.t s074)), (5, 1, (.t s077)), (6, 1, (.t s102)), (7, 1, (.t s104)), (8, 1, (.t s106)), (9, 1, (.t s111)), (10, 1, (.t s115))], none⟩,
 ⟨some s010, .alloc 2 [.int .i64 0, .int .i64 0, .bool false, .bool false, .int .i64 0, .int .i64 0, .int .i64 0, .int .u32 0, .int .u32 0, .string { data := #[] }, .string { data := #[] }], none⟩,
 ⟨none, .store 11 (.t s010) (.t s116), none⟩])
 (.seq (.seq (.region [⟨some s120, .load true 11 (.t s010), none⟩,
 ⟨some s121, .call 31 [(.t s120)], none⟩,
 xm s117 s121,
 ⟨some s122, .extract 0 (.t s117), none⟩,
 ⟨some s123, .extract 1 (.t s117), none⟩,
 xm s011 s122,
 xm s012 s123])
 (.seq (.region [xm s124 s012,
 ⟨some s125, .bin .neq (.t s124) (.c (.int .i64 0)), none⟩])
 (.cond (.t s125)
 (.seq (.region [⟨some s126, .load true 11 (.t s004), none⟩,
 ⟨none, .store 11 (.t s002) (.t s126), none⟩,
 ⟨some s003, .move (.c (.int .i64 4)), none⟩])
 (.ret))
 (.skip))))
 (.seq (.seq (.region [xm s127 s000,
 xm s130 s005,
 ⟨some s131, .substr (.t s127) none (some (.t s130)), none⟩,
 ⟨some s132, .call 32 [(.c (.int .i64 0)), (.t s131)], none⟩,
 ⟨some s133, .bin .neq (.t s132) (.c (.int .i64 65535)), none⟩])
 (.cond (.t s133)
 (.seq (.region [⟨some s134, .load true 11 (.t s004), none⟩,
 ⟨none, .store 11 (.t s002) (.t s134), none⟩,
 ⟨some s003, .move (.c (.int .i64 5)), none⟩])
 (.ret))
 (.skip)))
 (.seq (.region [⟨some s135, .load true 11 (.t s010), none⟩,
 ⟨none, .store 11 (.t s002) (.t s135), none⟩,
 ⟨some s003, .move (.c (.int .i64 0)), none⟩])
 (.ret)))))))))))
def r_custref_TextPacket : List XR := [.cell s002 true 11, .tmp s003]
theorem ok_custref_TextPacket : okC Tryd.prog Tryd.f14.ntmps (bodyOf Tryd.f14) x_custref_TextPacket = true := by kernel_rfl
theorem okr_custref_TextPacket : okRs Tryd.prog Tryd.f14.results.toList r_custref_TextPacket = true := by kernel_rfl

/-- custref.WordAt -/
def x_custref_WordAt : XC :=
 .seq (.region [⟨some s004, .move (.c (.int .i64 0)), none⟩])
 (.seq (.region [xm s006 s000,
 xm s007 s001,
 ⟨some s010, .strAt (.t s006) (.t s007), none⟩,
 ⟨some s011, .convInt .i64 (.t s010), none⟩,
 ⟨some s012, .bin .mul (.c (.int .i64 256)) (.t s011), none⟩,
 xm s005 s012])
 (.seq (.seq (.region [xm s013 s001,
 ⟨some s014, .bin .add (.t s013) (.c (.int .i64 1)), none⟩,
 xm s015 s000,
 ⟨some s016, .slen (.t s015), none⟩,
 ⟨some s017, .bin .lss (.t s014) (.t s016), none⟩])
 (.cond (.t s017)
 (.region [xm s020 s005,
 xm s021 s000,
 xm s022 s001,
 ⟨some s023, .bin .add (.t s022) (.c (.int .i64 1)), none⟩,
 ⟨some s024, .strAt (.t s021) (.t s023), none⟩,
 ⟨some s025, .convInt .i64 (.t s024), none⟩,
 ⟨some s026, .bin .add (.t s020) (.t s025), none⟩,
 xm s005 s026])
 (.skip)))
 (.seq (.region [xm s027 s005,
 xm s004 s027])
 (.ret))))
def r_custref_WordAt : List XR := [.tmp s004]
theorem ok_custref_WordAt : okC Tryd.prog Tryd.f15.ntmps (bodyOf Tryd.f15) x_custref_WordAt = true := by kernel_rfl
theorem okr_custref_WordAt : okRs Tryd.prog Tryd.f15.results.toList r_custref_WordAt = true := by kernel_rfl

/-- custref.EndAround -/
def x_custref_EndAround : XC :=
 .seq (.region [⟨some s004, .move (.c (.int .i64 0)), none⟩])
 (.seq (.seq (.region [xm s005 s000,
 xm s006 s001,
 ⟨some s007, .bin .add (.t s005) (.t s006), none⟩,
 ⟨some s010, .bin .gtr (.t s007) (.c (.int .i64 65535)), none⟩])
 (.cond (.t s010)
 (.seq (.region [xm s011 s000,
 xm s012 s001,
 ⟨some s013, .bin .add (.t s011) (.t s012), none⟩,
 ⟨some s014, .bin .sub (.t s013) (.c (.int .i64 65535)), none⟩,
 xm s004 s014])
 (.ret))
 (.skip)))
 (.seq (.region [xm s015 s000,
 xm s016 s001,
 ⟨some s017, .bin .add (.t s015) (.t s016), none⟩,
 xm s004 s017])
 (.ret)))
def r_custref_EndAround : List XR := [.tmp s004]
theorem ok_custref_EndAround : okC Tryd.prog Tryd.f16.ntmps (bodyOf Tryd.f16) x_custref_EndAround = true := by kernel_rfl
theorem okr_custref_EndAround : okRs Tryd.prog Tryd.f16.results.toList r_custref_EndAround = true := by kernel_rfl

/-- custref.Word -/
def x_custref_Word : XC :=
 .seq (.region [⟨some s002, .move (.c (.string { data := #[] })), none⟩])
 (.seq (.region [xm s003 s000,
 ⟨some s004, .bin .quo (.t s003) (.c (.int .i64 256)), none⟩,
 xm s005 s000,
 ⟨some s006, .bin .rem (.t s005) (.c (.int .i64 256)), none⟩,
 ⟨some s007, .buildSlice 0 2 [.int .i64 0] [(0, (.t s004)), (1, (.t s006))], none⟩,
 ⟨some s010, .call 33 [(.t s007)], none⟩,
 xm s002 s010])
 (.ret))
def r_custref_Word : List XR := [.tmp s002]
theorem ok_custref_Word : okC Tryd.prog Tryd.f17.ntmps (bodyOf Tryd.f17) x_custref_Word = true := by kernel_rfl
theorem okr_custref_Word : okRs Tryd.prog Tryd.f17.results.toList r_custref_Word = true := by kernel_rfl

/-- strings.Split -/
def x_strings_Split : XC :=
 .seq (.region [⟨some s004, .move (.c (.slice none 0 0)), none⟩])
 (.seq (.region [xm s005 s000,
 xm s006 s001,
 ⟨some s007, .call 34 [(.t s005), (.t s006), (.c (.int .i64 0)), (.c (.int .i64 (-1)))], none⟩,
 xm s004 s007])
 (.ret))
def r_strings_Split : List XR := [.tmp s004]
theorem ok_strings_Split : okC Tryd.prog Tryd.f18.ntmps (bodyOf Tryd.f18) x_strings_Split = true := by kernel_rfl
theorem okr_strings_Split : okRs Tryd.prog Tryd.f18.results.toList r_strings_Split = true := by kernel_rfl

/-- strconv.ParseUint -/
def x_strconv_ParseUint : XC :=
 .seq (.region [⟨some s006, .move (.c (.int .u64 0)), none⟩,
 ⟨some s007, .move (.c (.nilIface)), none⟩])
 (.seq (.region [xm s013 s000,
 xm s014 s001,
 xm s015 s002,
 ⟨some s016, .call 35 [(.t s013), (.t s014), (.t s015)], none⟩,
 xm s012 s016,
 ⟨some s017, .extract 0 (.t s012), none⟩,
 ⟨some s020, .extract 1 (.t s012), none⟩,
 xm s010 s017,
 xm s011 s020])
 (.seq (.seq (.region [xm s021 s011,
 ⟨some s022, .isnilI true (.t s021), none⟩])
 (.cond (.t s022)
 (.seq (.region [xm s023 s010,
 xm s024 s000,
 xm s025 s001,
 xm s026 s002,
 xm s027 s011,
 ⟨some s030, .call 36 [(.c (.string { data := #[80, 97, 114, 115, 101, 85, 105, 110, 116] })), (.t s024), (.t s025), (.t s026), (.t s027)], none⟩,
 xm s006 s023,
 xm s007 s030])
 (.ret))
 (.skip)))
 (.seq (.region [xm s031 s010,
 xm s006 s031,
 ⟨some s007, .move (.c (.nilIface)), none⟩])
 (.ret))))
def r_strconv_ParseUint : List XR := [.tmp s006, .tmp s007]
theorem ok_strconv_ParseUint : okC Tryd.prog Tryd.f19.ntmps (bodyOf Tryd.f19) x_strconv_ParseUint = true := by kernel_rfl
theorem okr_strconv_ParseUint : okRs Tryd.prog Tryd.f19.results.toList r_strconv_ParseUint = true := by kernel_rfl

/-- custref.ReadNum -/
def x_custref_ReadNum : XC :=
 .seq (.region [⟨some s002, .move (.c (.int .i64 0)), none⟩,
 ⟨some s003, .move (.c (.bool false)), none⟩])
 (.seq (.seq (.region [xm s006 s000,
 ⟨some s007, .slen (.t s006), none⟩,
 ⟨some s010, .call 29 [(.t s007), (.c (.int .i64 1)), (.c (.int .i64 9))], none⟩,
 ⟨some s011, .un .not (.t s010), none⟩])
 (.cond (.t s011)
 (.seq (.region [⟨some s002, .move (.c (.int .i64 0)), none⟩,
 ⟨some s003, .move (.c (.bool false)), none⟩])
 (.ret))
 (.skip)))
 (.seq (.region [⟨some s004, .move (.c (.int .i64 0)), none⟩])
 (.seq (.seq (.region [xm s012 s000,
 ⟨some s013, .slen (.t s012), none⟩,
 ⟨some s014, .move (.c (.int .i64 0)), none⟩])
 (.block 0
 (.loop
 (.seq (.region [⟨some s015, .bin .lss (.t s014) (.t s013), none⟩])
 (.seq (.cond (.t s015)
 (.skip)
 (.exit 0))
 (.seq (.block 1
 (.seq (.region [xm s016 s014,
 xm s005 s016])
 (.seq (.seq (.region [xm s017 s000,
 xm s020 s005,
 ⟨some s021, .strAt (.t s017) (.t s020), none⟩,
 ⟨some s022, .convInt .i64 (.t s021), none⟩,
 ⟨some s023, .call 29 [(.t s022), (.c (.int .i64 48)), (.c (.int .i64 57))], none⟩,
 ⟨some s024, .un .not (.t s023), none⟩])
 (.cond (.t s024)
 (.seq (.region [⟨some s002, .move (.c (.int .i64 0)), none⟩,
 ⟨some s003, .move (.c (.bool false)), none⟩])
 (.ret))
 (.skip)))
 (.region [xm s025 s004,
 ⟨some s026, .bin .mul (.c (.int .i64 10)) (.t s025), none⟩,
 xm s027 s000,
 xm s030 s005,
 ⟨some s031, .strAt (.t s027) (.t s030), none⟩,
 ⟨some s032, .convInt .i64 (.t s031), none⟩,
 ⟨some s033, .bin .add (.t s026) (.t s032), none⟩,
 ⟨some s034, .bin .sub (.t s033) (.c (.int .i64 48)), none⟩,
 xm s004 s034]))))
 (.region [⟨some s035, .bin .add (.t s014) (.c (.int .i64 1)), none⟩,
 xm s014 s035])))))))
 (.seq (.region [xm s036 s004,
 xm s037 s004,
 ⟨some s040, .call 24 [(.t s037)], none⟩,
 xm s041 s000,
 ⟨some s042, .sbin .eql (.t s040) (.t s041), none⟩,
 xm s002 s036,
 xm s003 s042])
 (.ret)))))
def r_custref_ReadNum : List XR := [.tmp s002, .tmp s003]
theorem ok_custref_ReadNum : okC Tryd.prog Tryd.f20.ntmps (bodyOf Tryd.f20) x_custref_ReadNum = true := by kernel_rfl
theorem okr_custref_ReadNum : okRs Tryd.prog Tryd.f20.results.toList r_custref_ReadNum = true := by kernel_rfl

/-- strconv.Itoa -/
def x_strconv_Itoa : XC :=
 .seq (.region [⟨some s002, .move (.c (.string { data := #[] })), none⟩])
 (.seq (.region [xm s003 s000,
 ⟨some s004, .call 37 [(.t s003)], none⟩,
 xm s002 s004])
 (.ret))
def r_strconv_Itoa : List XR := [.tmp s002]
theorem ok_strconv_Itoa : okC Tryd.prog Tryd.f21.ntmps (bodyOf Tryd.f21) x_strconv_Itoa = true := by kernel_rfl
theorem okr_strconv_Itoa : okRs Tryd.prog Tryd.f21.results.toList r_strconv_Itoa = true := by kernel_rfl

/-- strings.Join -/
def x_strings_Join : XC :=
 .seq (.region [⟨some s004, .move (.c (.string { data := #[] })), none⟩])
 (.seq (.seq (.region [xm s013 s000,
 ⟨some s014, .len (.t s013), none⟩])
 (.block 0
 (.seq (.region [⟨some s016, .bin .eql (.t s014) (.c (.int .i64 0)), none⟩,
 xm s015 s016])
 (.cond (.t s015)
 (.seq (.region [⟨some s004, .move (.c (.string { data := #[] })), none⟩])
 (.ret))
 (.seq (.region [⟨some s020, .bin .eql (.t s014) (.c (.int .i64 1)), none⟩,
 xm s017 s020])
 (.cond (.t s017)
 (.seq (.region [xm s021 s000,
 ⟨some s022, .indexSl 1 (.t s021) (.c (.int .i64 0)), none⟩,
 xl s023 s022,
 xm s004 s023])
 (.ret))
 (.skip)))))))
 (.seq (.region [⟨some s005, .move (.c (.int .i64 0)), none⟩])
 (.seq (.seq (.region [xm s024 s001,
 ⟨some s025, .slen (.t s024), none⟩,
 ⟨some s026, .bin .gtr (.t s025) (.c (.int .i64 0)), none⟩])
 (.cond (.t s026)
 (.seq (.seq (.region [xm s027 s001,
 ⟨some s030, .slen (.t s027), none⟩,
 xm s031 s000,
 ⟨some s032, .len (.t s031), none⟩,
 ⟨some s033, .bin .sub (.t s032) (.c (.int .i64 1)), none⟩,
 ⟨some s034, .bin .quo (.c (.int .i64 9223372036854775807)) (.t s033), none⟩,
 ⟨some s035, .bin .geq (.t s030) (.t s034), none⟩])
 (.cond (.t s035)
 (.region [⟨some s036, .dead, none⟩,
 ⟨none, .dead, none⟩])
 (.skip)))
 (.region [xm s037 s005,
 xm s040 s001,
 ⟨some s041, .slen (.t s040), none⟩,
 xm s042 s000,
 ⟨some s043, .len (.t s042), none⟩,
 ⟨some s044, .bin .sub (.t s043) (.c (.int .i64 1)), none⟩,
 ⟨some s045, .bin .mul (.t s041) (.t s044), none⟩,
 ⟨some s046, .bin .add (.t s037) (.t s045), none⟩,
 xm s005 s046]))
 (.skip)))
 (.seq (.seq (.region [xm s047 s000,
 ⟨some s050, .len (.t s047), none⟩,
 ⟨some s051, .move (.c (.int .i64 0)), none⟩])
 (.block 1
 (.loop
 (.seq (.region [⟨some s052, .bin .lss (.t s051) (.t s050), none⟩])
 (.seq (.cond (.t s052)
 (.skip)
 (.exit 1))
 (.seq (.block 2
 (.seq (.region [⟨some s053, .indexSl 1 (.t s047) (.t s051), none⟩,
 xl s054 s053,
 xm s007 s054])
 (.seq (.seq (.region [xm s055 s007,
 ⟨some s056, .slen (.t s055), none⟩,
 xm s057 s005,
 ⟨some s060, .bin .sub (.c (.int .i64 9223372036854775807)) (.t s057), none⟩,
 ⟨some s061, .bin .gtr (.t s056) (.t s060), none⟩])
 (.cond (.t s061)
 (.region [⟨some s062, .dead, none⟩,
 ⟨none, .dead, none⟩])
 (.skip)))
 (.region [xm s063 s005,
 xm s064 s007,
 ⟨some s065, .slen (.t s064), none⟩,
 ⟨some s066, .bin .add (.t s063) (.t s065), none⟩,
 xm s005 s066]))))
 (.region [⟨some s067, .bin .add (.t s051) (.c (.int .i64 1)), none⟩,
 xm s051 s067])))))))
 (.seq (.region [⟨some s010, .alloc 0 [.pointer none, .slice none 0 0], none⟩])
 (.seq (.region [xm s070 s005,
 ⟨some s071, .call 38 [(.t s010), (.t s070)], none⟩])
 (.seq (.region [xm s072 s000,
 ⟨some s073, .indexSl 1 (.t s072) (.c (.int .i64 0)), none⟩,
 xl s074 s073,
 ⟨some s075, .call 39 [(.t s010), (.t s074)], none⟩])
 (.seq (.seq (.region [xm s076 s000,
 ⟨some s077, .slice 1 (.t s076) (some (.c (.int .i64 1))) none none, none⟩,
 ⟨some s100, .len (.t s077), none⟩,
 ⟨some s101, .move (.c (.int .i64 0)), none⟩])
 (.block 3
 (.loop
 (.seq (.region [⟨some s102, .bin .lss (.t s101) (.t s100), none⟩])
 (.seq (.cond (.t s102)
 (.skip)
 (.exit 3))
 (.seq (.block 4
 (.seq (.region [⟨some s103, .indexSl 1 (.t s077) (.t s101), none⟩,
 xl s104 s103,
 xm s012 s104])
 (.seq (.region [xm s105 s001,
 ⟨some s106, .call 39 [(.t s010), (.t s105)], none⟩])
 (.region [xm s107 s012,
 ⟨some s110, .call 39 [(.t s010), (.t s107)], none⟩]))))
 (.region [⟨some s111, .bin .add (.t s101) (.c (.int .i64 1)), none⟩,
 xm s101 s111])))))))
 (.seq (.region [⟨some s112, .call 40 [(.t s010)], none⟩,
 xm s004 s112])
 (.ret))))))))))
def r_strings_Join : List XR := [.tmp s004]
theorem ok_strings_Join : okC Tryd.prog Tryd.f22.ntmps (bodyOf Tryd.f22) x_strings_Join = true := by kernel_rfl
theorem okr_strings_Join : okRs Tryd.prog Tryd.f22.results.toList r_strings_Join = true := by kernel_rfl

/-- custref.Long -/
def x_custref_Long : XC :=
 .seq (.region [⟨some s002, .move (.c (.string { data := #[] })), none⟩])
 (.seq (.region [xm s003 s000,
 ⟨some s004, .bin .quo (.t s003) (.c (.int .u32 65536)), none⟩,
 ⟨some s005, .convInt .i64 (.t s004), none⟩,
 ⟨some s006, .call 17 [(.t s005)], none⟩,
 xm s007 s000,
 ⟨some s010, .bin .rem (.t s007) (.c (.int .u32 65536)), none⟩,
 ⟨some s011, .convInt .i64 (.t s010), none⟩,
 ⟨some s012, .call 17 [(.t s011)], none⟩,
 ⟨some s013, .sbin .add (.t s006) (.t s012), none⟩,
 xm s002 s013])
 (.ret))
def r_custref_Long : List XR := [.tmp s002]
theorem ok_custref_Long : okC Tryd.prog Tryd.f23.ntmps (bodyOf Tryd.f23) x_custref_Long = true := by kernel_rfl
theorem okr_custref_Long : okRs Tryd.prog Tryd.f23.results.toList r_custref_Long = true := by kernel_rfl

/-- custref.Num -/
def x_custref_Num : XC :=
 .seq (.region [⟨some s002, .move (.c (.string { data := #[] })), none⟩])
 (.seq (.seq (.region [xm s003 s000,
 ⟨some s004, .bin .lss (.t s003) (.c (.int .i64 0)), none⟩])
 (.cond (.t s004)
 (.seq (.region [xm s005 s000,
 ⟨some s006, .un .neg (.t s005), none⟩,
 ⟨some s007, .call 24 [(.t s006)], none⟩,
 ⟨some s010, .sbin .add (.c (.string { data := #[45] })) (.t s007), none⟩,
 xm s002 s010])
 (.ret))
 (.skip)))
 (.seq (.seq (.region [xm s011 s000,
 ⟨some s012, .bin .lss (.t s011) (.c (.int .i64 10)), none⟩])
 (.cond (.t s012)
 (.seq (.region [xm s013 s000,
 xm s014 s000,
 ⟨some s015, .bin .add (.t s014) (.c (.int .i64 1)), none⟩,
 ⟨some s016, .substr (.c (.string { data := #[48, 49, 50, 51, 52, 53, 54, 55, 56, 57] })) (some (.t s013)) (some (.t s015)), none⟩,
 xm s002 s016])
 (.ret))
 (.skip)))
 (.seq (.region [xm s017 s000,
 ⟨some s020, .bin .quo (.t s017) (.c (.int .i64 10)), none⟩,
 ⟨some s021, .call 24 [(.t s020)], none⟩,
 xm s022 s000,
 ⟨some s023, .bin .rem (.t s022) (.c (.int .i64 10)), none⟩,
 ⟨some s024, .call 24 [(.t s023)], none⟩,
 ⟨some s025, .sbin .add (.t s021) (.t s024), none⟩,
 xm s002 s025])
 (.ret))))
def r_custref_Num : List XR := [.tmp s002]
theorem ok_custref_Num : okC Tryd.prog Tryd.f24.ntmps (bodyOf Tryd.f24) x_custref_Num = true := by kernel_rfl
theorem okr_custref_Num : okRs Tryd.prog Tryd.f24.results.toList r_custref_Num = true := by kernel_rfl

/-- ip.longAt -/
def x_ip_longAt : XC :=
 .seq (.region [⟨some s004, .move (.c (.int .u32 0)), none⟩])
 (.seq (.region [xm s005 s000,
 xm s006 s001,
 ⟨some s007, .call 11 [(.t s005), (.t s006)], none⟩,
 ⟨some s010, .convInt .u32 (.t s007), none⟩,
 ⟨some s011, .bin .shl (.t s010) (.c (.int .u64 16)), none⟩,
 xm s012 s000,
 xm s013 s001,
 ⟨some s014, .bin .add (.t s013) (.c (.int .i64 2)), none⟩,
 ⟨some s015, .call 11 [(.t s012), (.t s014)], none⟩,
 ⟨some s016, .convInt .u32 (.t s015), none⟩,
 ⟨some s017, .bin .or (.t s011) (.t s016), none⟩,
 xm s004 s017])
 (.ret))
def r_ip_longAt : List XR := [.tmp s004]
theorem ok_ip_longAt : okC Tryd.prog Tryd.f25.ntmps (bodyOf Tryd.f25) x_ip_longAt = true := by kernel_rfl
theorem okr_ip_longAt : okRs Tryd.prog Tryd.f25.results.toList r_ip_longAt = true := by kernel_rfl

/-- ip.refused -/
def x_ip_refused : XC :=
 .seq (.region [⟨some s001, .box 0 11 (.t s000), none⟩,
 ⟨some s002, .move (.c (.int .i64 0)), none⟩])
 (.seq (.block 0
 (.seq (.region [xf 0 s004 s001,
 xl s005 s004,
 ⟨some s006, .call 41 [(.t s005)], none⟩,
 ⟨some s007, .un .not (.t s006), none⟩,
 xm s010 s007,
 ⟨some s011, .fieldAddr 5 (.t s001), some (s010, false)⟩,
 ⟨some s012, .load false 1 (.t s011), some (s010, false)⟩,
 ⟨some s013, .call 41 [(.t s012)], some (s010, false)⟩,
 ⟨some s014, .un .not (.t s013), some (s010, false)⟩,
 ⟨some s015, .pick (.t s010) (.c (.bool true)) (.t s014), none⟩,
 xm s016 s015,
 ⟨some s017, .fieldAddr 6 (.t s001), some (s016, false)⟩,
 ⟨some s020, .load false 1 (.t s017), some (s016, false)⟩,
 ⟨some s021, .call 41 [(.t s020)], some (s016, false)⟩,
 ⟨some s022, .un .not (.t s021), some (s016, false)⟩,
 ⟨some s023, .pick (.t s016) (.c (.bool true)) (.t s022), none⟩,
 xm s024 s023,
 ⟨some s025, .fieldAddr 1 (.t s001), some (s024, false)⟩,
 ⟨some s026, .load false 1 (.t s025), some (s024, false)⟩,
 ⟨some s027, .bin .lss (.t s026) (.c (.int .i64 0)), some (s024, false)⟩,
 ⟨some s030, .pick (.t s024) (.c (.bool true)) (.t s027), none⟩,
 xm s031 s030,
 ⟨some s032, .fieldAddr 1 (.t s001), some (s031, false)⟩,
 ⟨some s033, .load false 1 (.t s032), some (s031, false)⟩,
 ⟨some s034, .bin .gtr (.t s033) (.c (.int .i64 65535)), some (s031, false)⟩,
 ⟨some s035, .pick (.t s031) (.c (.bool true)) (.t s034), none⟩,
 xm s036 s035,
 ⟨some s037, .fieldAddr 4 (.t s001), some (s036, false)⟩,
 ⟨some s040, .load false 1 (.t s037), some (s036, false)⟩,
 ⟨some s041, .bin .lss (.t s040) (.c (.int .i64 0)), some (s036, false)⟩,
 ⟨some s042, .pick (.t s036) (.c (.bool true)) (.t s041), none⟩,
 xm s043 s042,
 ⟨some s044, .fieldAddr 4 (.t s001), some (s043, false)⟩,
 ⟨some s045, .load false 1 (.t s044), some (s043, false)⟩,
 ⟨some s046, .bin .gtr (.t s045) (.c (.int .i64 8191)), some (s043, false)⟩,
 ⟨some s047, .pick (.t s043) (.c (.bool true)) (.t s046), none⟩,
 xm s050 s047,
 ⟨some s051, .fieldAddr 9 (.t s001), some (s050, false)⟩,
 ⟨some s052, .load false 1 (.t s051), some (s050, false)⟩,
 ⟨some s053, .slen (.t s052), some (s050, false)⟩,
 ⟨some s054, .bin .gtr (.t s053) (.c (.int .i64 40)), some (s050, false)⟩,
 ⟨some s055, .pick (.t s050) (.c (.bool true)) (.t s054), none⟩,
 xm s056 s055,
 ⟨some s057, .fieldAddr 9 (.t s001), some (s056, false)⟩,
 ⟨some s060, .load false 1 (.t s057), some (s056, false)⟩,
 ⟨some s061, .slen (.t s060), some (s056, false)⟩,
 ⟨some s062, .bin .rem (.t s061) (.c (.int .i64 4)), some (s056, false)⟩,
 ⟨some s063, .bin .neq (.t s062) (.c (.int .i64 0)), some (s056, false)⟩,
 ⟨some s064, .pick (.t s056) (.c (.bool true)) (.t s063), none⟩,
 xm s003 s064])
 (.cond (.t s003)
 (.seq (.region [⟨some s002, .move (.c (.int .i64 1)), none⟩])
 (.ret))
 (.seq (.region [xf 2 s066 s001,
 xl s067 s066,
 xm s070 s067,
 ⟨some s071, .fieldAddr 3 (.t s001), some (s070, true)⟩,
 ⟨some s072, .load false 1 (.t s071), some (s070, true)⟩,
 ⟨some s073, .move (.t s072), some (s070, true)⟩,
 ⟨some s074, .fieldAddr 4 (.t s001), some (s073, false)⟩,
 ⟨some s075, .load false 1 (.t s074), some (s073, false)⟩,
 ⟨some s076, .bin .neq (.t s075) (.c (.int .i64 0)), some (s073, false)⟩,
 ⟨some s077, .pick (.t s073) (.c (.bool true)) (.t s076), some (s070, true)⟩,
 ⟨some s100, .pick (.t s070) (.t s077) (.c (.bool false)), none⟩,
 xm s065 s100])
 (.cond (.t s065)
 (.seq (.region [⟨some s002, .move (.c (.int .i64 4)), none⟩])
 (.ret))
 (.seq (.region [xf 10 s102 s001,
 xl s103 s102,
 ⟨some s104, .slen (.t s103), none⟩,
 xf 9 s105 s001,
 xl s106 s105,
 ⟨some s107, .slen (.t s106), none⟩,
 ⟨some s110, .bin .sub (.c (.int .i64 65515)) (.t s107), none⟩,
 ⟨some s111, .bin .gtr (.t s104) (.t s110), none⟩,
 xm s101 s111])
 (.cond (.t s101)
 (.seq (.region [⟨some s002, .move (.c (.int .i64 2)), none⟩])
 (.ret))
 (.skip))))))))
 (.seq (.region [⟨some s002, .move (.c (.int .i64 0)), none⟩])
 (.ret)))
def r_ip_refused : List XR := [.tmp s002]
theorem ok_ip_refused : okC Tryd.prog Tryd.f26.ntmps (bodyOf Tryd.f26) x_ip_refused = true := by kernel_rfl
theorem okr_ip_refused : okRs Tryd.prog Tryd.f26.results.toList r_ip_refused = true := by kernel_rfl

/-- sum.Right -/
def x_sum_Right : XC :=
 .seq (.region [⟨some s002, .move (.c (.bool false)), none⟩])
 (.seq (.region [xm s003 s000,
 ⟨some s004, .call 42 [(.c (.int .u16 0)), (.t s003)], none⟩,
 ⟨some s005, .bin .eql (.t s004) (.c (.int .u16 65535)), none⟩,
 xm s002 s005])
 (.ret))
def r_sum_Right : List XR := [.tmp s002]
theorem ok_sum_Right : okC Tryd.prog Tryd.f27.ntmps (bodyOf Tryd.f27) x_sum_Right = true := by kernel_rfl
theorem okr_sum_Right : okRs Tryd.prog Tryd.f27.results.toList r_sum_Right = true := by kernel_rfl

/-- sum.fold -/
def x_sum_fold : XC :=
 .seq (.region [⟨some s002, .move (.c (.int .u16 0)), none⟩])
 (.seq (.block 0
 (.loop
 (.seq (.seq (.region [xm s003 s000,
 ⟨some s004, .bin .gtr (.t s003) (.c (.int .u64 65535)), none⟩])
 (.cond (.t s004)
 (.skip)
 (.exit 0)))
 (.block 1
 (.region [xm s005 s000,
 ⟨some s006, .bin .shr (.t s005) (.c (.int .u64 16)), none⟩,
 xm s007 s000,
 ⟨some s010, .bin .and (.t s007) (.c (.int .u64 65535)), none⟩,
 ⟨some s011, .bin .add (.t s006) (.t s010), none⟩,
 xm s000 s011])))))
 (.seq (.region [xm s012 s000,
 ⟨some s013, .convInt .u16 (.t s012), none⟩,
 xm s002 s013])
 (.ret)))
def r_sum_fold : List XR := [.tmp s002]
theorem ok_sum_fold : okC Tryd.prog Tryd.f28.ntmps (bodyOf Tryd.f28) x_sum_fold = true := by kernel_rfl
theorem okr_sum_fold : okRs Tryd.prog Tryd.f28.results.toList r_sum_fold = true := by kernel_rfl

/-- custref.Between -/
def x_custref_Between : XC :=
 .seq (.region [⟨some s006, .move (.c (.bool false)), none⟩])
 (.seq (.region [xm s007 s001,
 xm s010 s000,
 ⟨some s011, .bin .leq (.t s007) (.t s010), none⟩,
 xm s012 s011,
 ⟨some s013, .move (.t s000), some (s012, true)⟩,
 ⟨some s014, .move (.t s002), some (s012, true)⟩,
 ⟨some s015, .bin .leq (.t s013) (.t s014), some (s012, true)⟩,
 ⟨some s016, .pick (.t s012) (.t s015) (.c (.bool false)), none⟩,
 xm s006 s016])
 (.ret))
def r_custref_Between : List XR := [.tmp s006]
theorem ok_custref_Between : okC Tryd.prog Tryd.f29.ntmps (bodyOf Tryd.f29) x_custref_Between = true := by kernel_rfl
theorem okr_custref_Between : okRs Tryd.prog Tryd.f29.results.toList r_custref_Between = true := by kernel_rfl

/-- custref.LongAt -/
def x_custref_LongAt : XC :=
 .seq (.region [⟨some s004, .move (.c (.int .u32 0)), none⟩])
 (.seq (.region [xm s005 s000,
 xm s006 s001,
 ⟨some s007, .call 15 [(.t s005), (.t s006)], none⟩,
 ⟨some s010, .bin .mul (.c (.int .i64 65536)) (.t s007), none⟩,
 xm s011 s000,
 xm s012 s001,
 ⟨some s013, .bin .add (.t s012) (.c (.int .i64 2)), none⟩,
 ⟨some s014, .call 15 [(.t s011), (.t s013)], none⟩,
 ⟨some s015, .bin .add (.t s010) (.t s014), none⟩,
 ⟨some s016, .convInt .u32 (.t s015), none⟩,
 xm s004 s016])
 (.ret))
def r_custref_LongAt : List XR := [.tmp s004]
theorem ok_custref_LongAt : okC Tryd.prog Tryd.f30.ntmps (bodyOf Tryd.f30) x_custref_LongAt = true := by kernel_rfl
theorem okr_custref_LongAt : okRs Tryd.prog Tryd.f30.results.toList r_custref_LongAt = true := by kernel_rfl

/-- custref.PacketText -/
def x_custref_PacketText : XC :=
 .seq (.region [⟨some s001, .box 0 11 (.t s000), none⟩,
 ⟨some s002, .move (.c (.string { data := #[] })), none⟩,
 ⟨some s003, .move (.c (.int .i64 0)), none⟩])
 (.seq (.region [xf 9 s007 s001,
 xl s010 s007,
 ⟨some s011, .slen (.t s010), none⟩,
 xm s004 s011])
 (.seq (.seq (.region [xf 0 s012 s001,
 xl s013 s012,
 ⟨some s014, .call 29 [(.t s013), (.c (.int .i64 0)), (.c (.int .i64 255))], none⟩,
 ⟨some s015, .un .not (.t s014), none⟩,
 xm s016 s015,
 ⟨some s017, .fieldAddr 5 (.t s001), some (s016, false)⟩,
 ⟨some s020, .load false 1 (.t s017), some (s016, false)⟩,
 ⟨some s021, .call 29 [(.t s020), (.c (.int .i64 0)), (.c (.int .i64 255))], some (s016, false)⟩,
 ⟨some s022, .un .not (.t s021), some (s016, false)⟩,
 ⟨some s023, .pick (.t s016) (.c (.bool true)) (.t s022), none⟩,
 xm s024 s023,
 ⟨some s025, .fieldAddr 6 (.t s001), some (s024, false)⟩,
 ⟨some s026, .load false 1 (.t s025), some (s024, false)⟩,
 ⟨some s027, .call 29 [(.t s026), (.c (.int .i64 0)), (.c (.int .i64 255))], some (s024, false)⟩,
 ⟨some s030, .un .not (.t s027), some (s024, false)⟩,
 ⟨some s031, .pick (.t s024) (.c (.bool true)) (.t s030), none⟩,
 xm s032 s031,
 ⟨some s033, .fieldAddr 1 (.t s001), some (s032, false)⟩,
 ⟨some s034, .load false 1 (.t s033), some (s032, false)⟩,
 ⟨some s035, .call 29 [(.t s034), (.c (.int .i64 0)), (.c (.int .i64 65535))], some (s032, false)⟩,
 ⟨some s036, .un .not (.t s035), some (s032, false)⟩,
 ⟨some s037, .pick (.t s032) (.c (.bool true)) (.t s036), none⟩,
 xm s040 s037,
 ⟨some s041, .fieldAddr 4 (.t s001), some (s040, false)⟩,
 ⟨some s042, .load false 1 (.t s041), some (s040, false)⟩,
 ⟨some s043, .call 29 [(.t s042), (.c (.int .i64 0)), (.c (.int .i64 8191))], some (s040, false)⟩,
 ⟨some s044, .un .not (.t s043), some (s040, false)⟩,
 ⟨some s045, .pick (.t s040) (.c (.bool true)) (.t s044), none⟩,
 xm s046 s045,
 ⟨some s047, .move (.t s004), some (s046, false)⟩,
 ⟨some s050, .bin .gtr (.t s047) (.c (.int .i64 40)), some (s046, false)⟩,
 ⟨some s051, .pick (.t s046) (.c (.bool true)) (.t s050), none⟩,
 xm s052 s051,
 ⟨some s053, .move (.t s004), some (s052, false)⟩,
 ⟨some s054, .bin .rem (.t s053) (.c (.int .i64 4)), some (s052, false)⟩,
 ⟨some s055, .bin .gtr (.t s054) (.c (.int .i64 0)), some (s052, false)⟩,
 ⟨some s056, .pick (.t s052) (.c (.bool true)) (.t s055), none⟩])
 (.cond (.t s056)
 (.seq (.region [⟨some s002, .move (.c (.string { data := #[] })), none⟩,
 ⟨some s003, .move (.c (.int .i64 1)), none⟩])
 (.ret))
 (.skip)))
 (.seq (.region [xf 4 s057 s001,
 xl s060 s057,
 xm s005 s060])
 (.seq (.seq (.region [xf 2 s061 s001,
 xl s062 s061])
 (.cond (.t s062)
 (.seq (.seq (.region [xf 3 s063 s001,
 xl s064 s063,
 xm s065 s064,
 ⟨some s066, .fieldAddr 4 (.t s001), some (s065, false)⟩,
 ⟨some s067, .load false 1 (.t s066), some (s065, false)⟩,
 ⟨some s070, .bin .gtr (.t s067) (.c (.int .i64 0)), some (s065, false)⟩,
 ⟨some s071, .pick (.t s065) (.c (.bool true)) (.t s070), none⟩])
 (.cond (.t s071)
 (.seq (.region [⟨some s002, .move (.c (.string { data := #[] })), none⟩,
 ⟨some s003, .move (.c (.int .i64 4)), none⟩])
 (.ret))
 (.skip)))
 (.region [⟨some s005, .move (.c (.int .i64 16384)), none⟩]))
 (.skip)))
 (.seq (.seq (.region [xf 3 s072 s001,
 xl s073 s072])
 (.cond (.t s073)
 (.region [xm s074 s005,
 ⟨some s075, .bin .add (.t s074) (.c (.int .i64 8192)), none⟩,
 xm s005 s075])
 (.skip)))
 (.seq (.seq (.region [xm s076 s004,
 ⟨some s077, .bin .add (.c (.int .i64 20)) (.t s076), none⟩,
 xf 10 s100 s001,
 xl s101 s100,
 ⟨some s102, .slen (.t s101), none⟩,
 ⟨some s103, .bin .add (.t s077) (.t s102), none⟩,
 ⟨some s104, .bin .gtr (.t s103) (.c (.int .i64 65535)), none⟩])
 (.cond (.t s104)
 (.seq (.region [⟨some s002, .move (.c (.string { data := #[] })), none⟩,
 ⟨some s003, .move (.c (.int .i64 2)), none⟩])
 (.ret))
 (.skip)))
 (.seq (.regionD [0, 1, 3, 0, 8, 31, 63, 0, 128, 0, 512, 1536, 3968, 8191, 16383, 0, 32768, 114687, 262143, 0, 770047, 2097151, 0, 4194304, 0, 16777216, 62914560, 131842047, 268435455, 0, 536870912, 1876672511, 4294967295, 0, 8589934592, 29793959935, 68719476735, 0, 137438953472, 549755813887, 1099511627775] [xm s105 s004,
 ⟨some s106, .bin .quo (.t s105) (.c (.int .i64 4)), none⟩,
 ⟨some s107, .bin .add (.c (.int .i64 69)) (.t s106), none⟩,
 xf 0 s110 s001,
 xl s111 s110,
 ⟨some s112, .buildSlice 1 2 [.int .i64 0] [(0, (.t s107)), (1, (.t s111))], none⟩,
 ⟨some s113, .call 33 [(.t s112)], none⟩,
 xm s114 s004,
 ⟨some s115, .bin .add (.c (.int .i64 20)) (.t s114), none⟩,
 xf 10 s116 s001,
 xl s117 s116,
 ⟨some s120, .slen (.t s117), none⟩,
 ⟨some s121, .bin .add (.t s115) (.t s120), none⟩,
 ⟨some s122, .call 17 [(.t s121)], none⟩,
 ⟨some s123, .sbin .add (.t s113) (.t s122), none⟩,
 xf 1 s124 s001,
 xl s125 s124,
 ⟨some s126, .call 17 [(.t s125)], none⟩,
 ⟨some s127, .sbin .add (.t s123) (.t s126), none⟩,
 xm s130 s005,
 ⟨some s131, .call 17 [(.t s130)], none⟩,
 ⟨some s132, .sbin .add (.t s127) (.t s131), none⟩,
 xf 5 s133 s001,
 xl s134 s133,
 xf 6 s135 s001,
 xl s136 s135,
 ⟨some s137, .buildSlice 2 4 [.int .i64 0] [(0, (.t s134)), (1, (.t s136)), (2, (.c (.int .i64 0))), (3, (.c (.int .i64 0)))], none⟩,
 ⟨some s140, .call 33 [(.t s137)], none⟩,
 ⟨some s141, .sbin .add (.t s132) (.t s140), none⟩,
 xf 7 s142 s001,
 xl s143 s142,
 ⟨some s144, .call 23 [(.t s143)], none⟩,
 ⟨some s145, .sbin .add (.t s141) (.t s144), none⟩,
 xf 8 s146 s001,
 xl s147 s146,
 ⟨some s150, .call 23 [(.t s147)], none⟩,
 ⟨some s151, .sbin .add (.t s145) (.t s150), none⟩,
 xf 9 s152 s001,
 xl s153 s152,
 ⟨some s154, .sbin .add (.t s151) (.t s153), none⟩,
 xm s006 s154])
 (.seq (.regionD [0, 1, 0, 4, 12, 31, 0, 64, 255, 0, 512, 2047, 4095, 8191] [xm s155 s006,
 ⟨some s156, .substr (.t s155) none (some (.c (.int .i64 10))), none⟩,
 xm s157 s006,
 ⟨some s160, .call 43 [(.t s157)], none⟩,
 ⟨some s161, .call 17 [(.t s160)], none⟩,
 ⟨some s162, .sbin .add (.t s156) (.t s161), none⟩,
 xm s163 s006,
 ⟨some s164, .substr (.t s163) (some (.c (.int .i64 12))) none, none⟩,
 ⟨some s165, .sbin .add (.t s162) (.t s164), none⟩,
 xf 10 s166 s001,
 xl s167 s166,
 ⟨some s170, .sbin .add (.t s165) (.t s167), none⟩,
 xm s002 s170,
 ⟨some s003, .move (.c (.int .i64 0)), none⟩])
 (.ret)))))))))
def r_custref_PacketText : List XR := [.tmp s002, .tmp s003]
theorem ok_custref_PacketText : okC Tryd.prog Tryd.f31.ntmps (bodyOf Tryd.f31) x_custref_PacketText = true := by kernel_rfl
theorem okr_custref_PacketText : okRs Tryd.prog Tryd.f31.results.toList r_custref_PacketText = true := by kernel_rfl

/-- custref.SumOf -/
def x_custref_SumOf : XC :=
 .seq (.region [⟨some s004, .move (.c (.int .i64 0)), none⟩])
 (.seq (.seq (.region [⟨some s005, .move (.c (.int .i64 0)), none⟩])
 (.block 0
 (.loop
 (.seq (.seq (.region [xm s006 s005,
 xm s007 s001,
 ⟨some s010, .slen (.t s007), none⟩,
 ⟨some s011, .bin .lss (.t s006) (.t s010), none⟩])
 (.cond (.t s011)
 (.skip)
 (.exit 0)))
 (.seq (.block 1
 (.region [xm s014 s000,
 xm s015 s001,
 xm s016 s005,
 ⟨some s017, .call 15 [(.t s015), (.t s016)], none⟩,
 ⟨some s020, .call 16 [(.t s014), (.t s017)], none⟩,
 xm s000 s020]))
 (.region [xm s012 s005,
 ⟨some s013, .bin .add (.t s012) (.c (.int .i64 2)), none⟩,
 xm s005 s013]))))))
 (.seq (.region [xm s021 s000,
 xm s004 s021])
 (.ret)))
def r_custref_SumOf : List XR := [.tmp s004]
theorem ok_custref_SumOf : okC Tryd.prog Tryd.f32.ntmps (bodyOf Tryd.f32) x_custref_SumOf = true := by kernel_rfl
theorem okr_custref_SumOf : okRs Tryd.prog Tryd.f32.results.toList r_custref_SumOf = true := by kernel_rfl

/-- custref.Bytes -/
def x_custref_Bytes : XC :=
 .seq (.region [⟨some s002, .move (.c (.string { data := #[] })), none⟩])
 (.seq (.region [xm s006 s000,
 ⟨some s007, .len (.t s006), none⟩,
 ⟨some s010, .makeSlice 1 1 [.int .u8 0] (.t s007) (.t s007), none⟩,
 xm s003 s010])
 (.seq (.seq (.region [xm s011 s000,
 ⟨some s012, .len (.t s011), none⟩,
 ⟨some s013, .move (.c (.int .i64 0)), none⟩])
 (.block 0
 (.loop
 (.seq (.region [⟨some s014, .bin .lss (.t s013) (.t s012), none⟩])
 (.seq (.cond (.t s014)
 (.skip)
 (.exit 0))
 (.seq (.block 1
 (.seq (.region [xm s015 s013,
 ⟨some s016, .indexSl 1 (.t s011) (.t s013), none⟩,
 xl s017 s016,
 xm s004 s015,
 xm s005 s017])
 (.region [xm s020 s003,
 xm s021 s004,
 xm s022 s005,
 ⟨some s023, .convInt .u8 (.t s022), none⟩,
 ⟨some s024, .indexSl 1 (.t s020) (.t s021), none⟩,
 ⟨none, .store 1 (.t s024) (.t s023), none⟩])))
 (.region [⟨some s025, .bin .add (.t s013) (.c (.int .i64 1)), none⟩,
 xm s013 s025])))))))
 (.seq (.region [xm s026 s003,
 ⟨some s027, .b2s (.t s026), none⟩,
 xm s002 s027])
 (.ret))))
def r_custref_Bytes : List XR := [.tmp s002]
theorem ok_custref_Bytes : okC Tryd.prog Tryd.f33.ntmps (bodyOf Tryd.f33) x_custref_Bytes = true := by kernel_rfl
theorem okr_custref_Bytes : okRs Tryd.prog Tryd.f33.results.toList r_custref_Bytes = true := by kernel_rfl

/-- strings.genSplit -/
def x_strings_genSplit : XC :=
 .seq (.region [⟨some s010, .move (.c (.slice none 0 0)), none⟩])
 (.seq (.seq (.region [xm s014 s003,
 ⟨some s015, .bin .eql (.t s014) (.c (.int .i64 0)), none⟩])
 (.cond (.t s015)
 (.seq (.region [⟨some s010, .move (.c (.slice none 0 0)), none⟩])
 (.ret))
 (.skip)))
 (.seq (.seq (.region [xm s016 s001,
 ⟨some s017, .sbin .eql (.t s016) (.c (.string { data := #[] })), none⟩])
 (.cond (.t s017)
 (.seq (.region [xm s020 s000,
 xm s021 s003,
 ⟨some s022, .call 44 [(.t s020), (.t s021)], none⟩,
 xm s010 s022])
 (.ret))
 (.skip)))
 (.seq (.seq (.region [xm s023 s003,
 ⟨some s024, .bin .lss (.t s023) (.c (.int .i64 0)), none⟩])
 (.cond (.t s024)
 (.region [xm s025 s000,
 xm s026 s001,
 ⟨some s027, .call 45 [(.t s025), (.t s026)], none⟩,
 ⟨some s030, .bin .add (.t s027) (.c (.int .i64 1)), none⟩,
 xm s003 s030])
 (.skip)))
 (.seq (.region [xm s031 s003,
 xm s032 s000,
 ⟨some s033, .slen (.t s032), none⟩,
 ⟨some s034, .bin .add (.t s033) (.c (.int .i64 1)), none⟩,
 ⟨some s035, .minI (.t s031) (.t s034), none⟩,
 xm s003 s035])
 (.seq (.region [xm s036 s003,
 ⟨some s037, .makeSlice 0 16 [.string { data := #[] }] (.t s036) (.t s036), none⟩,
 xm s011 s037])
 (.seq (.region [xm s040 s003,
 ⟨some s041, .bin .sub (.t s040) (.c (.int .i64 1)), none⟩,
 xm s003 s041])
 (.seq (.region [⟨some s012, .move (.c (.int .i64 0)), none⟩])
 (.seq (.block 0
 (.loop
 (.seq (.seq (.region [xm s042 s012,
 xm s043 s003,
 ⟨some s044, .bin .lss (.t s042) (.t s043), none⟩])
 (.cond (.t s044)
 (.skip)
 (.exit 0)))
 (.block 1
 (.seq (.region [xm s045 s000,
 xm s046 s001,
 ⟨some s047, .call 46 [(.t s045), (.t s046)], none⟩,
 xm s013 s047])
 (.seq (.seq (.region [xm s050 s013,
 ⟨some s051, .bin .lss (.t s050) (.c (.int .i64 0)), none⟩])
 (.cond (.t s051)
 (.exit 0)
 (.skip)))
 (.seq (.region [xm s052 s011,
 xm s053 s012,
 xm s054 s000,
 xm s055 s013,
 xm s056 s002,
 ⟨some s057, .bin .add (.t s055) (.t s056), none⟩,
 ⟨some s060, .substr (.t s054) none (some (.t s057)), none⟩,
 ⟨some s061, .indexSl 1 (.t s052) (.t s053), none⟩,
 ⟨none, .store 1 (.t s061) (.t s060), none⟩])
 (.seq (.region [xm s062 s000,
 xm s063 s013,
 xm s064 s001,
 ⟨some s065, .slen (.t s064), none⟩,
 ⟨some s066, .bin .add (.t s063) (.t s065), none⟩,
 ⟨some s067, .substr (.t s062) (some (.t s066)) none, none⟩,
 xm s000 s067])
 (.region [xm s070 s012,
 ⟨some s071, .bin .add (.t s070) (.c (.int .i64 1)), none⟩,
 xm s012 s071])))))))))
 (.seq (.region [xm s072 s011,
 xm s073 s012,
 xm s074 s000,
 ⟨some s075, .indexSl 1 (.t s072) (.t s073), none⟩,
 ⟨none, .store 1 (.t s075) (.t s074), none⟩])
 (.seq (.region [xm s076 s011,
 xm s077 s012,
 ⟨some s100, .bin .add (.t s077) (.c (.int .i64 1)), none⟩,
 ⟨some s101, .slice 1 (.t s076) none (some (.t s100)) none, none⟩,
 xm s010 s101])
 (.ret)))))))))))
def r_strings_genSplit : List XR := [.tmp s010]
theorem ok_strings_genSplit : okC Tryd.prog Tryd.f34.ntmps (bodyOf Tryd.f34) x_strings_genSplit = true := by kernel_rfl
theorem okr_strings_genSplit : okRs Tryd.prog Tryd.f34.results.toList r_strings_genSplit = true := by kernel_rfl

/-- strconv.ParseUint -/
def x_strconv_ParseUint_1 : XC :=
 .seq (.region [⟨some s006, .move (.c (.int .u64 0)), none⟩,
 ⟨some s007, .move (.c (.nilIface)), none⟩])
 (.seq (.seq (.region [xm s022 s000,
 ⟨some s023, .sbin .eql (.t s022) (.c (.string { data := #[] })), none⟩])
 (.cond (.t s023)
 (.seq (.region [⟨some s024, .dead, none⟩,
 ⟨some s006, .move (.c (.int .u64 0)), none⟩,
 xm s007 s024])
 (.ret))
 (.skip)))
 (.seq (.region [xm s025 s001,
 ⟨some s026, .bin .eql (.t s025) (.c (.int .i64 0)), none⟩,
 xm s010 s026])
 (.seq (.region [xm s027 s000,
 xm s011 s027])
 (.seq (.block 0
 (.seq (.region [xm s032 s001,
 ⟨some s033, .bin .leq (.c (.int .i64 2)) (.t s032), none⟩,
 xm s034 s033,
 ⟨some s035, .move (.t s001), some (s034, true)⟩,
 ⟨some s036, .bin .leq (.t s035) (.c (.int .i64 36)), some (s034, true)⟩,
 ⟨some s037, .pick (.t s034) (.t s036) (.c (.bool false)), none⟩,
 xm s031 s037])
 (.cond (.t s031)
 (.skip)
 (.seq (.region [xm s041 s001,
 ⟨some s042, .bin .eql (.t s041) (.c (.int .i64 0)), none⟩,
 xm s040 s042])
 (.cond (.t s040)
 (.seq (.region [⟨some s001, .move (.c (.int .i64 10)), none⟩])
 (.seq (.region [xm s043 s000,
 ⟨some s044, .strAt (.t s043) (.c (.int .i64 0)), none⟩,
 ⟨some s045, .bin .eql (.t s044) (.c (.int .u8 48)), none⟩])
 (.cond (.t s045)
 (.block 1
 (.seq (.region [xm s051 s000,
 ⟨some s052, .slen (.t s051), none⟩,
 ⟨some s053, .bin .geq (.t s052) (.c (.int .i64 3)), none⟩,
 xm s054 s053,
 ⟨some s055, .move (.t s000), some (s054, true)⟩,
 ⟨some s056, .strAt (.t s055) (.c (.int .i64 1)), some (s054, true)⟩,
 ⟨some s057, .call 47 [(.t s056)], some (s054, true)⟩,
 ⟨some s060, .bin .eql (.t s057) (.c (.int .u8 98)), some (s054, true)⟩,
 ⟨some s061, .pick (.t s054) (.t s060) (.c (.bool false)), none⟩,
 xm s050 s061])
 (.cond (.t s050)
 (.seq (.region [⟨some s001, .move (.c (.int .i64 2)), none⟩])
 (.region [xm s062 s000,
 ⟨some s063, .substr (.t s062) (some (.c (.int .i64 2))) none, none⟩,
 xm s000 s063]))
 (.seq (.region [xm s065 s000,
 ⟨some s066, .slen (.t s065), none⟩,
 ⟨some s067, .bin .geq (.t s066) (.c (.int .i64 3)), none⟩,
 xm s070 s067,
 ⟨some s071, .move (.t s000), some (s070, true)⟩,
 ⟨some s072, .strAt (.t s071) (.c (.int .i64 1)), some (s070, true)⟩,
 ⟨some s073, .call 47 [(.t s072)], some (s070, true)⟩,
 ⟨some s074, .bin .eql (.t s073) (.c (.int .u8 111)), some (s070, true)⟩,
 ⟨some s075, .pick (.t s070) (.t s074) (.c (.bool false)), none⟩,
 xm s064 s075])
 (.cond (.t s064)
 (.seq (.region [⟨some s001, .move (.c (.int .i64 8)), none⟩])
 (.region [xm s076 s000,
 ⟨some s077, .substr (.t s076) (some (.c (.int .i64 2))) none, none⟩,
 xm s000 s077]))
 (.seq (.region [xm s101 s000,
 ⟨some s102, .slen (.t s101), none⟩,
 ⟨some s103, .bin .geq (.t s102) (.c (.int .i64 3)), none⟩,
 xm s104 s103,
 ⟨some s105, .move (.t s000), some (s104, true)⟩,
 ⟨some s106, .strAt (.t s105) (.c (.int .i64 1)), some (s104, true)⟩,
 ⟨some s107, .call 47 [(.t s106)], some (s104, true)⟩,
 ⟨some s110, .bin .eql (.t s107) (.c (.int .u8 120)), some (s104, true)⟩,
 ⟨some s111, .pick (.t s104) (.t s110) (.c (.bool false)), none⟩,
 xm s100 s111])
 (.cond (.t s100)
 (.seq (.region [⟨some s001, .move (.c (.int .i64 16)), none⟩])
 (.region [xm s112 s000,
 ⟨some s113, .substr (.t s112) (some (.c (.int .i64 2))) none, none⟩,
 xm s000 s113]))
 (.seq (.region [⟨some s001, .move (.c (.int .i64 8)), none⟩])
 (.region [xm s046 s000,
 ⟨some s047, .substr (.t s046) (some (.c (.int .i64 1))) none, none⟩,
 xm s000 s047])))))))))
 (.skip))))
 (.seq (.region [⟨some s030, .dead, none⟩,
 ⟨some s006, .move (.c (.int .u64 0)), none⟩,
 xm s007 s030])
 (.ret)))))))
 (.seq (.seq (.region [xm s114 s002,
 ⟨some s115, .bin .eql (.t s114) (.c (.int .i64 0)), none⟩])
 (.cond (.t s115)
 (.region [⟨some s002, .move (.c (.int .i64 64)), none⟩])
 (.seq (.region [xm s116 s002,
 ⟨some s117, .bin .lss (.t s116) (.c (.int .i64 0)), none⟩,
 xm s120 s117,
 ⟨some s121, .move (.t s002), some (s120, false)⟩,
 ⟨some s122, .bin .gtr (.t s121) (.c (.int .i64 64)), some (s120, false)⟩,
 ⟨some s123, .pick (.t s120) (.c (.bool true)) (.t s122), none⟩])
 (.cond (.t s123)
 (.seq (.region [⟨some s124, .dead, none⟩,
 ⟨some s006, .move (.c (.int .u64 0)), none⟩,
 xm s007 s124])
 (.ret))
 (.skip)))))
 (.seq (.region [⟨some s012, .move (.c (.int .u64 0)), none⟩])
 (.seq (.seq (.region [xm s125 s001])
 (.block 2
 (.seq (.region [⟨some s133, .bin .eql (.t s125) (.c (.int .i64 10)), none⟩,
 xm s132 s133])
 (.cond (.t s132)
 (.region [⟨some s012, .move (.c (.int .u64 1844674407370955162)), none⟩])
 (.seq (.region [⟨some s135, .bin .eql (.t s125) (.c (.int .i64 16)), none⟩,
 xm s134 s135])
 (.cond (.t s134)
 (.region [⟨some s012, .move (.c (.int .u64 1152921504606846976)), none⟩])
 (.region [xm s126 s001,
 ⟨some s127, .convInt .u64 (.t s126), none⟩,
 ⟨some s130, .bin .quo (.c (.int .u64 18446744073709551615)) (.t s127), none⟩,
 ⟨some s131, .bin .add (.t s130) (.c (.int .u64 1)), none⟩,
 xm s012 s131])))))))
 (.seq (.region [xm s136 s002,
 ⟨some s137, .convInt .u64 (.t s136), none⟩,
 ⟨some s140, .bin .shl (.c (.int .u64 1)) (.t s137), none⟩,
 ⟨some s141, .bin .sub (.t s140) (.c (.int .u64 1)), none⟩,
 xm s013 s141])
 (.seq (.region [⟨some s014, .move (.c (.bool false)), none⟩])
 (.seq (.region [⟨some s015, .move (.c (.int .u64 0)), none⟩])
 (.seq (.seq (.region [xm s142 s000,
 ⟨some s143, .s2b (.t s142), none⟩,
 ⟨some s144, .len (.t s143), none⟩,
 ⟨some s145, .move (.c (.int .i64 0)), none⟩])
 (.block 3
 (.loop
 (.seq (.region [⟨some s146, .bin .lss (.t s145) (.t s144), none⟩])
 (.seq (.cond (.t s146)
 (.skip)
 (.exit 3))
 (.seq (.block 4
 (.seq (.region [⟨some s147, .indexSl 1 (.t s143) (.t s145), none⟩,
 xl s150 s147,
 xm s017 s150])
 (.seq (.region [⟨some s020, .move (.c (.int .u8 0)), none⟩])
 (.seq (.block 5
 (.seq (.region [xm s153 s017,
 ⟨some s154, .bin .eql (.t s153) (.c (.int .u8 95)), none⟩,
 xm s155 s154,
 ⟨some s156, .move (.t s010), some (s155, true)⟩,
 ⟨some s157, .pick (.t s155) (.t s156) (.c (.bool false)), none⟩,
 xm s152 s157])
 (.cond (.t s152)
 (.seq (.region [⟨some s014, .move (.c (.bool true)), none⟩])
 (.exit 4))
 (.seq (.region [xm s161 s017,
 ⟨some s162, .bin .leq (.c (.int .u8 48)) (.t s161), none⟩,
 xm s163 s162,
 ⟨some s164, .move (.t s017), some (s163, true)⟩,
 ⟨some s165, .bin .leq (.t s164) (.c (.int .u8 57)), some (s163, true)⟩,
 ⟨some s166, .pick (.t s163) (.t s165) (.c (.bool false)), none⟩,
 xm s160 s166])
 (.cond (.t s160)
 (.region [xm s167 s017,
 ⟨some s170, .bin .sub (.t s167) (.c (.int .u8 48)), none⟩,
 xm s020 s170])
 (.seq (.region [xm s172 s017,
 ⟨some s173, .call 47 [(.t s172)], none⟩,
 ⟨some s174, .bin .leq (.c (.int .u8 97)) (.t s173), none⟩,
 xm s175 s174,
 ⟨some s176, .move (.t s017), some (s175, true)⟩,
 ⟨some s177, .call 47 [(.t s176)], some (s175, true)⟩,
 ⟨some s200, .bin .leq (.t s177) (.c (.int .u8 122)), some (s175, true)⟩,
 ⟨some s201, .pick (.t s175) (.t s200) (.c (.bool false)), none⟩,
 xm s171 s201])
 (.cond (.t s171)
 (.region [xm s202 s017,
 ⟨some s203, .call 47 [(.t s202)], none⟩,
 ⟨some s204, .bin .sub (.t s203) (.c (.int .u8 97)), none⟩,
 ⟨some s205, .bin .add (.t s204) (.c (.int .u8 10)), none⟩,
 xm s020 s205])
 (.seq (.region [⟨some s151, .dead, none⟩,
 ⟨some s006, .move (.c (.int .u64 0)), none⟩,
 xm s007 s151])
 (.ret)))))))))
 (.seq (.seq (.region [xm s206 s020,
 xm s207 s001,
 ⟨some s210, .convInt .u8 (.t s207), none⟩,
 ⟨some s211, .bin .geq (.t s206) (.t s210), none⟩])
 (.cond (.t s211)
 (.seq (.region [⟨some s212, .dead, none⟩,
 ⟨some s006, .move (.c (.int .u64 0)), none⟩,
 xm s007 s212])
 (.ret))
 (.skip)))
 (.seq (.seq (.region [xm s213 s015,
 xm s214 s012,
 ⟨some s215, .bin .geq (.t s213) (.t s214), none⟩])
 (.cond (.t s215)
 (.seq (.region [xm s216 s013,
 ⟨some s217, .dead, none⟩,
 xm s006 s216,
 xm s007 s217])
 (.ret))
 (.skip)))
 (.seq (.region [xm s220 s015,
 xm s221 s001,
 ⟨some s222, .convInt .u64 (.t s221), none⟩,
 ⟨some s223, .bin .mul (.t s220) (.t s222), none⟩,
 xm s015 s223])
 (.seq (.region [xm s224 s015,
 xm s225 s020,
 ⟨some s226, .convInt .u64 (.t s225), none⟩,
 ⟨some s227, .bin .add (.t s224) (.t s226), none⟩,
 xm s021 s227])
 (.seq (.seq (.region [xm s230 s021,
 xm s231 s015,
 ⟨some s232, .bin .lss (.t s230) (.t s231), none⟩,
 xm s233 s232,
 ⟨some s234, .move (.t s021), some (s233, false)⟩,
 ⟨some s235, .move (.t s013), some (s233, false)⟩,
 ⟨some s236, .bin .gtr (.t s234) (.t s235), some (s233, false)⟩,
 ⟨some s237, .pick (.t s233) (.c (.bool true)) (.t s236), none⟩])
 (.cond (.t s237)
 (.seq (.region [xm s240 s013,
 ⟨some s241, .dead, none⟩,
 xm s006 s240,
 xm s007 s241])
 (.ret))
 (.skip)))
 (.region [xm s242 s021,
 xm s015 s242]))))))))))
 (.region [⟨some s243, .bin .add (.t s145) (.c (.int .i64 1)), none⟩,
 xm s145 s243])))))))
 (.seq (.seq (.region [xm s244 s014,
 xm s245 s244,
 ⟨some s246, .move (.t s011), some (s245, true)⟩,
 ⟨some s247, .call 48 [(.t s246)], some (s245, true)⟩,
 ⟨some s250, .un .not (.t s247), some (s245, true)⟩,
 ⟨some s251, .pick (.t s245) (.t s250) (.c (.bool false)), none⟩])
 (.cond (.t s251)
 (.seq (.region [⟨some s252, .dead, none⟩,
 ⟨some s006, .move (.c (.int .u64 0)), none⟩,
 xm s007 s252])
 (.ret))
 (.skip)))
 (.seq (.region [xm s253 s015,
 xm s006 s253,
 ⟨some s007, .move (.c (.nilIface)), none⟩])
 (.ret))))))))))))))
def r_strconv_ParseUint_1 : List XR := [.tmp s006, .tmp s007]
theorem ok_strconv_ParseUint_1 : okC Tryd.prog Tryd.f35.ntmps (bodyOf Tryd.f35) x_strconv_ParseUint_1 = true := by kernel_rfl
theorem okr_strconv_ParseUint_1 : okRs Tryd.prog Tryd.f35.results.toList r_strconv_ParseUint_1 = true := by kernel_rfl

/-- strconv.toError -/
def x_strconv_toError : XC :=
 .seq (.region [⟨some s012, .move (.c (.nilIface)), none⟩])
 (.seq (.seq (.region [xm s013 s004])
 (.block 0
 (.seq (.region [⟨some s015, .dead, none⟩,
 ⟨some s016, .dead, none⟩,
 xm s014 s016])
 (.cond (.t s014)
 (.seq (.region [xm s017 s000,
 xm s020 s001,
 ⟨some s021, .call 49 [(.t s017), (.t s020)], none⟩,
 ⟨some s022, .dead, none⟩,
 xm s012 s022])
 (.ret))
 (.seq (.region [⟨some s024, .dead, none⟩,
 ⟨some s025, .dead, none⟩,
 xm s023 s025])
 (.cond (.t s023)
 (.seq (.region [xm s026 s000,
 xm s027 s001,
 ⟨some s030, .call 50 [(.t s026), (.t s027)], none⟩,
 ⟨some s031, .dead, none⟩,
 xm s012 s031])
 (.ret))
 (.seq (.region [⟨some s033, .dead, none⟩,
 ⟨some s034, .dead, none⟩,
 xm s032 s034])
 (.cond (.t s032)
 (.seq (.region [xm s035 s000,
 xm s036 s001,
 xm s037 s002,
 ⟨some s040, .call 51 [(.t s035), (.t s036), (.t s037)], none⟩,
 ⟨some s041, .dead, none⟩,
 xm s012 s041])
 (.ret))
 (.seq (.region [⟨some s043, .dead, none⟩,
 ⟨some s044, .dead, none⟩,
 xm s042 s044])
 (.cond (.t s042)
 (.seq (.region [xm s045 s000,
 xm s046 s001,
 xm s047 s003,
 ⟨some s050, .call 52 [(.t s045), (.t s046), (.t s047)], none⟩,
 ⟨some s051, .dead, none⟩,
 xm s012 s051])
 (.ret))
 (.skip)))))))))))
 (.seq (.region [xm s052 s004,
 xm s012 s052])
 (.ret)))
def r_strconv_toError : List XR := [.tmp s012]
theorem ok_strconv_toError : okC Tryd.prog Tryd.f36.ntmps (bodyOf Tryd.f36) x_strconv_toError = true := by kernel_rfl
theorem okr_strconv_toError : okRs Tryd.prog Tryd.f36.results.toList r_strconv_toError = true := by kernel_rfl

/-- strconv.Itoa -/
def x_strconv_Itoa_1 : XC :=
 .seq (.region [⟨some s002, .move (.c (.string { data := #[] })), none⟩])
 (.seq (.region [xm s003 s000,
 ⟨some s004, .call 53 [(.t s003), (.c (.int .i64 10))], none⟩,
 xm s002 s004])
 (.ret))
def r_strconv_Itoa_1 : List XR := [.tmp s002]
theorem ok_strconv_Itoa_1 : okC Tryd.prog Tryd.f37.ntmps (bodyOf Tryd.f37) x_strconv_Itoa_1 = true := by kernel_rfl
theorem okr_strconv_Itoa_1 : okRs Tryd.prog Tryd.f37.results.toList r_strconv_Itoa_1 = true := by kernel_rfl

/-- (*strings.Builder).Grow -/
def x_strings_Builder_Grow : XC :=
 .seq (.region [xm s004 s000,
 ⟨some s005, .call 54 [(.t s004)], none⟩])
 (.seq (.seq (.region [xm s006 s001,
 ⟨some s007, .bin .lss (.t s006) (.c (.int .i64 0)), none⟩])
 (.cond (.t s007)
 (.region [⟨some s010, .dead, none⟩,
 ⟨none, .dead, none⟩])
 (.skip)))
 (.seq (.regionD [0, 1, 3, 7, 15, 0, 32, 96, 224, 480, 1023, 0, 4095] [xm s011 s000,
 ⟨some s012, .nilCheck (.t s011), none⟩,
 xf 1 s013 s012,
 xl s014 s013,
 ⟨some s015, .dead, none⟩,
 xm s016 s000,
 ⟨some s017, .nilCheck (.t s016), none⟩,
 xf 1 s020 s017,
 xl s021 s020,
 ⟨some s022, .len (.t s021), none⟩,
 ⟨some s023, .bin .sub (.t s015) (.t s022), none⟩,
 xm s024 s001,
 ⟨some s025, .bin .lss (.t s023) (.t s024), none⟩])
 (.cond (.t s025)
 (.region [xm s026 s000,
 xm s027 s001,
 ⟨some s030, .call 55 [(.t s026), (.t s027)], none⟩])
 (.skip))))
def r_strings_Builder_Grow : List XR := []
theorem ok_strings_Builder_Grow : okC Tryd.prog Tryd.f38.ntmps (bodyOf Tryd.f38) x_strings_Builder_Grow = true := by kernel_rfl
theorem okr_strings_Builder_Grow : okRs Tryd.prog Tryd.f38.results.toList r_strings_Builder_Grow = true := by kernel_rfl

/-- (*strings.Builder).WriteString -/
def x_strings_Builder_WriteString : XC :=
 .seq (.region [⟨some s004, .move (.c (.int .i64 0)), none⟩,
 ⟨some s005, .move (.c (.nilIface)), none⟩])
 (.seq (.region [xm s006 s000,
 ⟨some s007, .call 54 [(.t s006)], none⟩])
 (.seq (.region [xm s010 s000,
 xm s011 s000,
 ⟨some s012, .nilCheck (.t s011), none⟩,
 xf 1 s013 s012,
 xl s014 s013,
 xm s015 s001,
 ⟨some s016, .append 0 1 1 (.t s014) (.t s015), none⟩,
 ⟨some s017, .nilCheck (.t s010), none⟩,
 xf 1 s020 s017,
 ⟨none, .store 1 (.t s020) (.t s016), none⟩])
 (.seq (.region [xm s021 s001,
 ⟨some s022, .slen (.t s021), none⟩,
 xm s004 s022,
 ⟨some s005, .move (.c (.nilIface)), none⟩])
 (.ret))))
def r_strings_Builder_WriteString : List XR := [.tmp s004, .tmp s005]
theorem ok_strings_Builder_WriteString : okC Tryd.prog Tryd.f39.ntmps (bodyOf Tryd.f39) x_strings_Builder_WriteString = true := by kernel_rfl
theorem okr_strings_Builder_WriteString : okRs Tryd.prog Tryd.f39.results.toList r_strings_Builder_WriteString = true := by kernel_rfl

/-- (*strings.Builder).String -/
def x_strings_Builder_String : XC :=
 .seq (.region [⟨some s002, .move (.c (.string { data := #[] })), none⟩])
 (.seq (.regionD [0, 1, 3, 7, 15, 0, 32, 96, 224, 480, 1023, 2047] [xm s003 s000,
 ⟨some s004, .nilCheck (.t s003), none⟩,
 xf 1 s005 s004,
 xl s006 s005,
 ⟨some s007, .dead, none⟩,
 xm s010 s000,
 ⟨some s011, .nilCheck (.t s010), none⟩,
 xf 1 s012 s011,
 xl s013 s012,
 ⟨some s014, .len (.t s013), none⟩,
 ⟨some s015, .dead, none⟩,
 xm s002 s015])
 (.ret))
def r_strings_Builder_String : List XR := [.tmp s002]
theorem ok_strings_Builder_String : okC Tryd.prog Tryd.f40.ntmps (bodyOf Tryd.f40) x_strings_Builder_String = true := by kernel_rfl
theorem okr_strings_Builder_String : okRs Tryd.prog Tryd.f40.results.toList r_strings_Builder_String = true := by kernel_rfl

/-- ip.byt -/
def x_ip_byt : XC :=
 .seq (.region [⟨some s002, .move (.c (.bool false)), none⟩])
 (.seq (.region [xm s003 s000,
 ⟨some s004, .bin .geq (.t s003) (.c (.int .i64 0)), none⟩,
 xm s005 s004,
 ⟨some s006, .move (.t s000), some (s005, true)⟩,
 ⟨some s007, .bin .leq (.t s006) (.c (.int .i64 255)), some (s005, true)⟩,
 ⟨some s010, .pick (.t s005) (.t s007) (.c (.bool false)), none⟩,
 xm s002 s010])
 (.ret))
def r_ip_byt : List XR := [.tmp s002]
theorem ok_ip_byt : okC Tryd.prog Tryd.f41.ntmps (bodyOf Tryd.f41) x_ip_byt = true := by kernel_rfl
theorem okr_ip_byt : okRs Tryd.prog Tryd.f41.results.toList r_ip_byt = true := by kernel_rfl

/-- sum.Add -/
def x_sum_Add : XC :=
 .seq (.region [⟨some s004, .move (.c (.int .u16 0)), none⟩])
 (.seq (.region [xm s006 s000,
 ⟨some s007, .convInt .u64 (.t s006), none⟩,
 xm s005 s007])
 (.seq (.block 0
 (.loop
 (.seq (.seq (.region [xm s010 s001,
 ⟨some s011, .slen (.t s010), none⟩,
 ⟨some s012, .bin .gtr (.t s011) (.c (.int .i64 1)), none⟩])
 (.cond (.t s012)
 (.skip)
 (.exit 0)))
 (.seq (.block 1
 (.regionD [0, 0, 2, 6, 14, 0, 32, 96, 254, 511, 1023] [xm s015 s005,
 xm s016 s001,
 ⟨some s017, .strAt (.t s016) (.c (.int .i64 0)), none⟩,
 ⟨some s020, .convInt .u64 (.t s017), none⟩,
 ⟨some s021, .bin .shl (.t s020) (.c (.int .u64 8)), none⟩,
 xm s022 s001,
 ⟨some s023, .strAt (.t s022) (.c (.int .i64 1)), none⟩,
 ⟨some s024, .convInt .u64 (.t s023), none⟩,
 ⟨some s025, .bin .or (.t s021) (.t s024), none⟩,
 ⟨some s026, .bin .add (.t s015) (.t s025), none⟩,
 xm s005 s026]))
 (.region [xm s013 s001,
 ⟨some s014, .substr (.t s013) (some (.c (.int .i64 2))) none, none⟩,
 xm s001 s014])))))
 (.seq (.seq (.region [xm s027 s001,
 ⟨some s030, .sbin .neq (.t s027) (.c (.string { data := #[] })), none⟩])
 (.cond (.t s030)
 (.region [xm s031 s005,
 xm s032 s001,
 ⟨some s033, .strAt (.t s032) (.c (.int .i64 0)), none⟩,
 ⟨some s034, .convInt .u64 (.t s033), none⟩,
 ⟨some s035, .bin .shl (.t s034) (.c (.int .u64 8)), none⟩,
 ⟨some s036, .bin .add (.t s031) (.t s035), none⟩,
 xm s005 s036])
 (.skip)))
 (.seq (.region [xm s037 s005,
 ⟨some s040, .call 28 [(.t s037)], none⟩,
 xm s004 s040])
 (.ret)))))
def r_sum_Add : List XR := [.tmp s004]
theorem ok_sum_Add : okC Tryd.prog Tryd.f42.ntmps (bodyOf Tryd.f42) x_sum_Add = true := by kernel_rfl
theorem okr_sum_Add : okRs Tryd.prog Tryd.f42.results.toList r_sum_Add = true := by kernel_rfl

/-- custref.Check -/
def x_custref_Check : XC :=
 .seq (.region [⟨some s002, .move (.c (.int .i64 0)), none⟩])
 (.seq (.region [xm s003 s000,
 ⟨some s004, .call 32 [(.c (.int .i64 0)), (.t s003)], none⟩,
 ⟨some s005, .bin .sub (.c (.int .i64 65535)) (.t s004), none⟩,
 xm s002 s005])
 (.ret))
def r_custref_Check : List XR := [.tmp s002]
theorem ok_custref_Check : okC Tryd.prog Tryd.f43.ntmps (bodyOf Tryd.f43) x_custref_Check = true := by kernel_rfl
theorem okr_custref_Check : okRs Tryd.prog Tryd.f43.results.toList r_custref_Check = true := by kernel_rfl

/-- strings.explode -/
def x_strings_explode : XC :=
 .seq (.region [⟨some s004, .move (.c (.slice none 0 0)), none⟩])
 (.seq (.region [xm s012 s000,
 ⟨some s013, .call 56 [(.t s012)], none⟩,
 xm s005 s013])
 (.seq (.seq (.region [xm s014 s001,
 ⟨some s015, .bin .lss (.t s014) (.c (.int .i64 0)), none⟩,
 xm s016 s015,
 ⟨some s017, .move (.t s001), some (s016, false)⟩,
 ⟨some s020, .move (.t s005), some (s016, false)⟩,
 ⟨some s021, .bin .gtr (.t s017) (.t s020), some (s016, false)⟩,
 ⟨some s022, .pick (.t s016) (.c (.bool true)) (.t s021), none⟩])
 (.cond (.t s022)
 (.region [xm s023 s005,
 xm s001 s023])
 (.skip)))
 (.seq (.region [xm s024 s001,
 ⟨some s025, .makeSlice 0 16 [.string { data := #[] }] (.t s024) (.t s024), none⟩,
 xm s006 s025])
 (.seq (.seq (.region [⟨some s007, .move (.c (.int .i64 0)), none⟩])
 (.block 0
 (.loop
 (.seq (.seq (.region [xm s026 s007,
 xm s027 s001,
 ⟨some s030, .bin .sub (.t s027) (.c (.int .i64 1)), none⟩,
 ⟨some s031, .bin .lss (.t s026) (.t s030), none⟩])
 (.cond (.t s031)
 (.skip)
 (.exit 0)))
 (.seq (.block 1
 (.seq (.region [xm s035 s000,
 ⟨some s036, .call 57 [(.t s035)], none⟩,
 xm s034 s036,
 ⟨some s037, .extract 0 (.t s034), none⟩,
 ⟨some s040, .extract 1 (.t s034), none⟩,
 xm s010 s037,
 xm s011 s040])
 (.seq (.region [xm s041 s006,
 xm s042 s007,
 xm s043 s000,
 xm s044 s011,
 ⟨some s045, .substr (.t s043) none (some (.t s044)), none⟩,
 ⟨some s046, .indexSl 1 (.t s041) (.t s042), none⟩,
 ⟨none, .store 1 (.t s046) (.t s045), none⟩])
 (.region [xm s047 s000,
 xm s050 s011,
 ⟨some s051, .substr (.t s047) (some (.t s050)) none, none⟩,
 xm s000 s051]))))
 (.region [xm s032 s007,
 ⟨some s033, .bin .add (.t s032) (.c (.int .i64 1)), none⟩,
 xm s007 s033]))))))
 (.seq (.seq (.region [xm s052 s001,
 ⟨some s053, .bin .gtr (.t s052) (.c (.int .i64 0)), none⟩])
 (.cond (.t s053)
 (.region [xm s054 s006,
 xm s055 s001,
 ⟨some s056, .bin .sub (.t s055) (.c (.int .i64 1)), none⟩,
 xm s057 s000,
 ⟨some s060, .indexSl 1 (.t s054) (.t s056), none⟩,
 ⟨none, .store 1 (.t s060) (.t s057), none⟩])
 (.skip)))
 (.seq (.region [xm s061 s006,
 xm s004 s061])
 (.ret)))))))
def r_strings_explode : List XR := [.tmp s004]
theorem ok_strings_explode : okC Tryd.prog Tryd.f44.ntmps (bodyOf Tryd.f44) x_strings_explode = true := by kernel_rfl
theorem okr_strings_explode : okRs Tryd.prog Tryd.f44.results.toList r_strings_explode = true := by kernel_rfl

/-- strings.Count -/
def x_strings_Count : XC :=
 .seq (.region [⟨some s004, .move (.c (.int .i64 0)), none⟩])
 (.seq (.seq (.region [xm s007 s001,
 ⟨some s010, .slen (.t s007), none⟩,
 ⟨some s011, .bin .eql (.t s010) (.c (.int .i64 0)), none⟩])
 (.cond (.t s011)
 (.seq (.region [xm s012 s000,
 ⟨some s013, .call 56 [(.t s012)], none⟩,
 ⟨some s014, .bin .add (.t s013) (.c (.int .i64 1)), none⟩,
 xm s004 s014])
 (.ret))
 (.skip)))
 (.seq (.seq (.region [xm s015 s001,
 ⟨some s016, .slen (.t s015), none⟩,
 ⟨some s017, .bin .eql (.t s016) (.c (.int .i64 1)), none⟩])
 (.cond (.t s017)
 (.seq (.region [xm s020 s000,
 xm s021 s001,
 ⟨some s022, .strAt (.t s021) (.c (.int .i64 0)), none⟩,
 ⟨some s023, .ext 1 [(.t s020), (.t s022)], none⟩,
 xm s004 s023])
 (.ret))
 (.skip)))
 (.seq (.region [⟨some s005, .move (.c (.int .i64 0)), none⟩])
 (.block 0
 (.loop
 (.block 1
 (.seq (.region [xm s024 s000,
 xm s025 s001,
 ⟨some s026, .call 46 [(.t s024), (.t s025)], none⟩,
 xm s006 s026])
 (.seq (.seq (.region [xm s027 s006,
 ⟨some s030, .bin .eql (.t s027) (.c (.int .i64 (-1))), none⟩])
 (.cond (.t s030)
 (.seq (.region [xm s031 s005,
 xm s004 s031])
 (.ret))
 (.skip)))
 (.seq (.region [xm s032 s005,
 ⟨some s033, .bin .add (.t s032) (.c (.int .i64 1)), none⟩,
 xm s005 s033])
 (.region [xm s034 s000,
 xm s035 s006,
 xm s036 s001,
 ⟨some s037, .slen (.t s036), none⟩,
 ⟨some s040, .bin .add (.t s035) (.t s037), none⟩,
 ⟨some s041, .substr (.t s034) (some (.t s040)) none, none⟩,
 xm s000 s041]))))))))))
def r_strings_Count : List XR := [.tmp s004]
theorem ok_strings_Count : okC Tryd.prog Tryd.f45.ntmps (bodyOf Tryd.f45) x_strings_Count = true := by kernel_rfl
theorem okr_strings_Count : okRs Tryd.prog Tryd.f45.results.toList r_strings_Count = true := by kernel_rfl

/-- strings.Index -/
def x_strings_Index : XC :=
 .seq (.region [⟨some s004, .move (.c (.int .i64 0)), none⟩])
 (.seq (.region [xm s005 s000,
 xm s006 s001,
 ⟨some s007, .call 59 [(.t s005), (.t s006)], none⟩,
 xm s004 s007])
 (.ret))
def r_strings_Index : List XR := [.tmp s004]
theorem ok_strings_Index : okC Tryd.prog Tryd.f46.ntmps (bodyOf Tryd.f46) x_strings_Index = true := by kernel_rfl
theorem okr_strings_Index : okRs Tryd.prog Tryd.f46.results.toList r_strings_Index = true := by kernel_rfl

/-- strconv.lower -/
def x_strconv_lower : XC :=
 .seq (.region [⟨some s002, .move (.c (.int .u8 0)), none⟩])
 (.seq (.region [xm s003 s000,
 ⟨some s004, .bin .or (.t s003) (.c (.int .u8 32)), none⟩,
 xm s002 s004])
 (.ret))
def r_strconv_lower : List XR := [.tmp s002]
theorem ok_strconv_lower : okC Tryd.prog Tryd.f47.ntmps (bodyOf Tryd.f47) x_strconv_lower = true := by kernel_rfl
theorem okr_strconv_lower : okRs Tryd.prog Tryd.f47.results.toList r_strconv_lower = true := by kernel_rfl

/-- strconv.underscoreOK -/
def x_strconv_underscoreOK : XC :=
 .seq (.region [⟨some s002, .move (.c (.bool false)), none⟩])
 (.seq (.region [⟨some s003, .move (.c (.int .i32 94)), none⟩])
 (.seq (.region [⟨some s004, .move (.c (.int .i64 0)), none⟩])
 (.seq (.seq (.region [xm s006 s000,
 ⟨some s007, .slen (.t s006), none⟩,
 ⟨some s010, .bin .geq (.t s007) (.c (.int .i64 1)), none⟩,
 xm s011 s010,
 ⟨some s012, .move (.t s000), some (s011, true)⟩,
 ⟨some s013, .strAt (.t s012) (.c (.int .i64 0)), some (s011, true)⟩,
 ⟨some s014, .bin .eql (.t s013) (.c (.int .u8 45)), some (s011, true)⟩,
 ⟨some s015, .move (.t s014), some (s011, true)⟩,
 ⟨some s016, .move (.t s000), some (s015, false)⟩,
 ⟨some s017, .strAt (.t s016) (.c (.int .i64 0)), some (s015, false)⟩,
 ⟨some s020, .bin .eql (.t s017) (.c (.int .u8 43)), some (s015, false)⟩,
 ⟨some s021, .pick (.t s015) (.c (.bool true)) (.t s020), some (s011, true)⟩,
 ⟨some s022, .pick (.t s011) (.t s021) (.c (.bool false)), none⟩])
 (.cond (.t s022)
 (.region [xm s023 s000,
 ⟨some s024, .substr (.t s023) (some (.c (.int .i64 1))) none, none⟩,
 xm s000 s024])
 (.skip)))
 (.seq (.region [⟨some s005, .move (.c (.bool false)), none⟩])
 (.seq (.seq (.region [xm s025 s000,
 ⟨some s026, .slen (.t s025), none⟩,
 ⟨some s027, .bin .geq (.t s026) (.c (.int .i64 2)), none⟩,
 xm s030 s027,
 ⟨some s031, .move (.t s000), some (s030, true)⟩,
 ⟨some s032, .strAt (.t s031) (.c (.int .i64 0)), some (s030, true)⟩,
 ⟨some s033, .bin .eql (.t s032) (.c (.int .u8 48)), some (s030, true)⟩,
 ⟨some s034, .pick (.t s030) (.t s033) (.c (.bool false)), none⟩,
 xm s035 s034,
 ⟨some s036, .move (.t s000), some (s035, true)⟩,
 ⟨some s037, .strAt (.t s036) (.c (.int .i64 1)), some (s035, true)⟩,
 ⟨some s040, .call 47 [(.t s037)], some (s035, true)⟩,
 ⟨some s041, .bin .eql (.t s040) (.c (.int .u8 98)), some (s035, true)⟩,
 ⟨some s042, .move (.t s041), some (s035, true)⟩,
 ⟨some s043, .move (.t s000), some (s042, false)⟩,
 ⟨some s044, .strAt (.t s043) (.c (.int .i64 1)), some (s042, false)⟩,
 ⟨some s045, .call 47 [(.t s044)], some (s042, false)⟩,
 ⟨some s046, .bin .eql (.t s045) (.c (.int .u8 111)), some (s042, false)⟩,
 ⟨some s047, .pick (.t s042) (.c (.bool true)) (.t s046), some (s035, true)⟩,
 ⟨some s050, .move (.t s047), some (s035, true)⟩,
 ⟨some s051, .move (.t s000), some (s050, false)⟩,
 ⟨some s052, .strAt (.t s051) (.c (.int .i64 1)), some (s050, false)⟩,
 ⟨some s053, .call 47 [(.t s052)], some (s050, false)⟩,
 ⟨some s054, .bin .eql (.t s053) (.c (.int .u8 120)), some (s050, false)⟩,
 ⟨some s055, .pick (.t s050) (.c (.bool true)) (.t s054), some (s035, true)⟩,
 ⟨some s056, .pick (.t s035) (.t s055) (.c (.bool false)), none⟩])
 (.cond (.t s056)
 (.seq (.region [⟨some s004, .move (.c (.int .i64 2)), none⟩])
 (.seq (.region [⟨some s003, .move (.c (.int .i32 48)), none⟩])
 (.region [xm s057 s000,
 ⟨some s060, .strAt (.t s057) (.c (.int .i64 1)), none⟩,
 ⟨some s061, .call 47 [(.t s060)], none⟩,
 ⟨some s062, .bin .eql (.t s061) (.c (.int .u8 120)), none⟩,
 xm s005 s062])))
 (.skip)))
 (.seq (.block 0
 (.loop
 (.seq (.seq (.region [xm s063 s004,
 xm s064 s000,
 ⟨some s065, .slen (.t s064), none⟩,
 ⟨some s066, .bin .lss (.t s063) (.t s065), none⟩])
 (.cond (.t s066)
 (.skip)
 (.exit 0)))
 (.seq (.block 1
 (.seq (.seq (.region [xm s071 s000,
 xm s072 s004,
 ⟨some s073, .strAt (.t s071) (.t s072), none⟩,
 ⟨some s074, .bin .leq (.c (.int .u8 48)) (.t s073), none⟩,
 xm s075 s074,
 ⟨some s076, .move (.t s000), some (s075, true)⟩,
 ⟨some s077, .move (.t s004), some (s075, true)⟩,
 ⟨some s100, .strAt (.t s076) (.t s077), some (s075, true)⟩,
 ⟨some s101, .bin .leq (.t s100) (.c (.int .u8 57)), some (s075, true)⟩,
 ⟨some s102, .pick (.t s075) (.t s101) (.c (.bool false)), none⟩,
 xm s103 s102,
 ⟨some s104, .move (.t s005), some (s103, false)⟩,
 ⟨some s105, .move (.t s104), some (s103, false)⟩,
 ⟨some s106, .move (.t s000), some (s105, true)⟩,
 ⟨some s107, .move (.t s004), some (s105, true)⟩,
 ⟨some s110, .strAt (.t s106) (.t s107), some (s105, true)⟩,
 ⟨some s111, .call 47 [(.t s110)], some (s105, true)⟩,
 ⟨some s112, .bin .leq (.c (.int .u8 97)) (.t s111), some (s105, true)⟩,
 ⟨some s113, .pick (.t s105) (.t s112) (.c (.bool false)), some (s103, false)⟩,
 ⟨some s114, .move (.t s113), some (s103, false)⟩,
 ⟨some s115, .move (.t s000), some (s114, true)⟩,
 ⟨some s116, .move (.t s004), some (s114, true)⟩,
 ⟨some s117, .strAt (.t s115) (.t s116), some (s114, true)⟩,
 ⟨some s120, .call 47 [(.t s117)], some (s114, true)⟩,
 ⟨some s121, .bin .leq (.t s120) (.c (.int .u8 102)), some (s114, true)⟩,
 ⟨some s122, .pick (.t s114) (.t s121) (.c (.bool false)), some (s103, false)⟩,
 ⟨some s123, .pick (.t s103) (.c (.bool true)) (.t s122), none⟩])
 (.cond (.t s123)
 (.seq (.region [⟨some s003, .move (.c (.int .i32 48)), none⟩])
 (.exit 1))
 (.skip)))
 (.seq (.seq (.region [xm s124 s000,
 xm s125 s004,
 ⟨some s126, .strAt (.t s124) (.t s125), none⟩,
 ⟨some s127, .bin .eql (.t s126) (.c (.int .u8 95)), none⟩])
 (.cond (.t s127)
 (.seq (.seq (.region [xm s130 s003,
 ⟨some s131, .bin .neq (.t s130) (.c (.int .i32 48)), none⟩])
 (.cond (.t s131)
 (.seq (.region [⟨some s002, .move (.c (.bool false)), none⟩])
 (.ret))
 (.skip)))
 (.seq (.region [⟨some s003, .move (.c (.int .i32 95)), none⟩])
 (.exit 1)))
 (.skip)))
 (.seq (.seq (.region [xm s132 s003,
 ⟨some s133, .bin .eql (.t s132) (.c (.int .i32 95)), none⟩])
 (.cond (.t s133)
 (.seq (.region [⟨some s002, .move (.c (.bool false)), none⟩])
 (.ret))
 (.skip)))
 (.region [⟨some s003, .move (.c (.int .i32 33)), none⟩])))))
 (.region [xm s067 s004,
 ⟨some s070, .bin .add (.t s067) (.c (.int .i64 1)), none⟩,
 xm s004 s070])))))
 (.seq (.region [xm s134 s003,
 ⟨some s135, .bin .neq (.t s134) (.c (.int .i32 95)), none⟩,
 xm s002 s135])
 (.ret))))))))
def r_strconv_underscoreOK : List XR := [.tmp s002]
theorem ok_strconv_underscoreOK : okC Tryd.prog Tryd.f48.ntmps (bodyOf Tryd.f48) x_strconv_underscoreOK = true := by kernel_rfl
theorem okr_strconv_underscoreOK : okRs Tryd.prog Tryd.f48.results.toList r_strconv_underscoreOK = true := by kernel_rfl

/-- strconv.syntaxError -/
def x_strconv_syntaxError : XC :=
 .seq (.region [⟨some s004, .move (.c (.pointer none)), none⟩])
 (.seq (.regionD [0, 0, 2, 0, 15, 31, 63] [xm s005 s000,
 xm s006 s001,
 ⟨some s007, .call 60 [(.t s006)], none⟩,
 ⟨some s010, .load false 1 .g, none⟩,
 ⟨some s011, .build [.string { data := #[] }, .string { data := #[] }, .nilIface] [(0, 1, (.t s005)), (1, 1, (.t s007)), (2, 1, (.t s010))], none⟩,
 ⟨some s012, .box 0 3 (.t s011), none⟩,
 xm s004 s012])
 (.ret))
def r_strconv_syntaxError : List XR := [.tmp s004]
theorem ok_strconv_syntaxError : okC Tryd.prog Tryd.f49.ntmps (bodyOf Tryd.f49) x_strconv_syntaxError = true := by kernel_rfl
theorem okr_strconv_syntaxError : okRs Tryd.prog Tryd.f49.results.toList r_strconv_syntaxError = true := by kernel_rfl

/-- strconv.rangeError -/
def x_strconv_rangeError : XC :=
 .seq (.region [⟨some s004, .move (.c (.pointer none)), none⟩])
 (.seq (.regionD [0, 0, 2, 0, 15, 31, 63] [xm s005 s000,
 xm s006 s001,
 ⟨some s007, .call 60 [(.t s006)], none⟩,
 ⟨some s010, .load false 1 .g, none⟩,
 ⟨some s011, .build [.string { data := #[] }, .string { data := #[] }, .nilIface] [(0, 1, (.t s005)), (1, 1, (.t s007)), (2, 1, (.t s010))], none⟩,
 ⟨some s012, .box 0 3 (.t s011), none⟩,
 xm s004 s012])
 (.ret))
def r_strconv_rangeError : List XR := [.tmp s004]
theorem ok_strconv_rangeError : okC Tryd.prog Tryd.f50.ntmps (bodyOf Tryd.f50) x_strconv_rangeError = true := by kernel_rfl
theorem okr_strconv_rangeError : okRs Tryd.prog Tryd.f50.results.toList r_strconv_rangeError = true := by kernel_rfl

/-- strconv.baseError -/
def x_strconv_baseError : XC :=
 .seq (.region [⟨some s006, .move (.c (.pointer none)), none⟩])
 (.seq (.region [xm s007 s000,
 xm s010 s001,
 ⟨some s011, .call 60 [(.t s010)], none⟩,
 xm s012 s002,
 ⟨some s013, .call 21 [(.t s012)], none⟩,
 ⟨some s014, .sbin .add (.c (.string { data := #[105, 110, 118, 97, 108, 105, 100, 32, 98, 97, 115, 101, 32] })) (.t s013), none⟩,
 ⟨some s015, .call 61 [(.t s014)], none⟩,
 ⟨some s016, .build [.string { data := #[] }, .string { data := #[] }, .nilIface] [(0, 1, (.t s007)), (1, 1, (.t s011)), (2, 1, (.t s015))], none⟩,
 ⟨some s017, .box 0 3 (.t s016), none⟩,
 xm s006 s017])
 (.ret))
def r_strconv_baseError : List XR := [.tmp s006]
theorem ok_strconv_baseError : okC Tryd.prog Tryd.f51.ntmps (bodyOf Tryd.f51) x_strconv_baseError = true := by kernel_rfl
theorem okr_strconv_baseError : okRs Tryd.prog Tryd.f51.results.toList r_strconv_baseError = true := by kernel_rfl

/-- strconv.bitSizeError -/
def x_strconv_bitSizeError : XC :=
 .seq (.region [⟨some s006, .move (.c (.pointer none)), none⟩])
 (.seq (.region [xm s007 s000,
 xm s010 s001,
 ⟨some s011, .call 60 [(.t s010)], none⟩,
 xm s012 s002,
 ⟨some s013, .call 21 [(.t s012)], none⟩,
 ⟨some s014, .sbin .add (.c (.string { data := #[105, 110, 118, 97, 108, 105, 100, 32, 98, 105, 116, 32, 115, 105, 122, 101, 32] })) (.t s013), none⟩,
 ⟨some s015, .call 61 [(.t s014)], none⟩,
 ⟨some s016, .build [.string { data := #[] }, .string { data := #[] }, .nilIface] [(0, 1, (.t s007)), (1, 1, (.t s011)), (2, 1, (.t s015))], none⟩,
 ⟨some s017, .box 0 3 (.t s016), none⟩,
 xm s006 s017])
 (.ret))
def r_strconv_bitSizeError : List XR := [.tmp s006]
theorem ok_strconv_bitSizeError : okC Tryd.prog Tryd.f52.ntmps (bodyOf Tryd.f52) x_strconv_bitSizeError = true := by kernel_rfl
theorem okr_strconv_bitSizeError : okRs Tryd.prog Tryd.f52.results.toList r_strconv_bitSizeError = true := by kernel_rfl

/-- strconv.FormatInt -/
def x_strconv_FormatInt : XC :=
 .seq (.region [⟨some s004, .move (.c (.string { data := #[] })), none⟩])
 (.seq (.seq (.region [xm s012 s001,
 ⟨some s013, .bin .eql (.t s012) (.c (.int .i64 10)), none⟩])
 (.cond (.t s013)
 (.seq (.seq (.region [xm s014 s000,
 ⟨some s015, .bin .leq (.c (.int .i64 0)) (.t s014), none⟩,
 xm s016 s015,
 ⟨some s017, .move (.t s000), some (s016, true)⟩,
 ⟨some s020, .bin .lss (.t s017) (.c (.int .i64 100)), some (s016, true)⟩,
 ⟨some s021, .pick (.t s016) (.t s020) (.c (.bool false)), none⟩])
 (.cond (.t s021)
 (.seq (.region [xm s022 s000,
 ⟨some s023, .call 62 [(.t s022)], none⟩,
 xm s004 s023])
 (.ret))
 (.skip)))
 (.seq (.region [⟨some s005, .alloc 0 zv88, none⟩])
 (.seq (.region [xm s024 s000,
 ⟨some s025, .convInt .u64 (.t s024), none⟩,
 xm s006 s025])
 (.seq (.seq (.region [xm s026 s000,
 ⟨some s027, .bin .lss (.t s026) (.c (.int .i64 0)), none⟩])
 (.cond (.t s027)
 (.region [xm s030 s006,
 ⟨some s031, .un .neg (.t s030), none⟩,
 xm s006 s031])
 (.skip)))
 (.seq (.region [xm s032 s006,
 ⟨some s033, .call 63 [(.t s032)], none⟩,
 xm s007 s033])
 (.seq (.region [xm s034 s007,
 ⟨some s035, .bin .add (.c (.int .i64 1)) (.t s034), none⟩,
 ⟨some s036, .dead, none⟩,
 xm s037 s006,
 ⟨some s040, .call 64 [(.t s036), (.t s037)], none⟩])
 (.seq (.seq (.region [xm s041 s000,
 ⟨some s042, .bin .lss (.t s041) (.c (.int .i64 0)), none⟩])
 (.cond (.t s042)
 (.seq (.region [⟨some s043, .indexArr 1 24 (.t s005) (.c (.int .i64 0)), none⟩,
 ⟨none, .store 1 (.t s043) (.c (.int .u8 45)), none⟩])
 (.seq (.region [xm s044 s007,
 ⟨some s045, .bin .add (.c (.int .i64 1)) (.t s044), none⟩,
 ⟨some s046, .dead, none⟩,
 ⟨some s047, .b2s (.t s046), none⟩,
 xm s004 s047])
 (.ret)))
 (.skip)))
 (.seq (.region [xm s050 s007,
 ⟨some s051, .bin .add (.c (.int .i64 1)) (.t s050), none⟩,
 ⟨some s052, .dead, none⟩,
 ⟨some s053, .b2s (.t s052), none⟩,
 xm s004 s053])
 (.ret)))))))))
 (.skip)))
 (.seq (.region [xm s055 s000,
 ⟨some s056, .convInt .u64 (.t s055), none⟩,
 xm s057 s001,
 xm s060 s000,
 ⟨some s061, .bin .lss (.t s060) (.c (.int .i64 0)), none⟩,
 ⟨some s062, .call 65 [(.c (.slice none 0 0)), (.t s056), (.t s057), (.t s061), (.c (.bool false))], none⟩,
 xm s054 s062,
 ⟨some s063, .extract 0 (.t s054), none⟩,
 ⟨some s064, .extract 1 (.t s054), none⟩,
 xm s010 s063,
 xm s011 s064])
 (.seq (.region [xm s065 s011,
 xm s004 s065])
 (.ret))))
def r_strconv_FormatInt : List XR := [.tmp s004]
theorem ok_strconv_FormatInt : okC Tryd.prog Tryd.f53.ntmps (bodyOf Tryd.f53) x_strconv_FormatInt = true := by kernel_rfl
theorem okr_strconv_FormatInt : okRs Tryd.prog Tryd.f53.results.toList r_strconv_FormatInt = true := by kernel_rfl

/-- (*strings.Builder).grow -/
def x_strings_Builder_grow : XC :=
 .seq (.regionD [0, 1, 3, 7, 15, 31, 0, 127, 255, 0, 512, 1536, 3584, 7680, 16383, 32767] [xm s005 s000,
 ⟨some s006, .nilCheck (.t s005), none⟩,
 xf 1 s007 s006,
 xl s010 s007,
 ⟨some s011, .dead, none⟩,
 ⟨some s012, .bin .mul (.c (.int .i64 2)) (.t s011), none⟩,
 xm s013 s001,
 ⟨some s014, .bin .add (.t s012) (.t s013), none⟩,
 ⟨some s015, .dead, none⟩,
 xm s016 s000,
 ⟨some s017, .nilCheck (.t s016), none⟩,
 xf 1 s020 s017,
 xl s021 s020,
 ⟨some s022, .len (.t s021), none⟩,
 ⟨some s023, .slice 1 (.t s015) none (some (.t s022)) none, none⟩,
 xm s004 s023])
 (.seq (.region [xm s024 s004,
 xm s025 s000,
 ⟨some s026, .nilCheck (.t s025), none⟩,
 xf 1 s027 s026,
 xl s030 s027,
 ⟨some s031, .dead, none⟩])
 (.region [xm s032 s000,
 xm s033 s004,
 ⟨some s034, .nilCheck (.t s032), none⟩,
 xf 1 s035 s034,
 ⟨none, .store 1 (.t s035) (.t s033), none⟩]))
def r_strings_Builder_grow : List XR := []
theorem ok_strings_Builder_grow : okC Tryd.prog Tryd.f55.ntmps (bodyOf Tryd.f55) x_strings_Builder_grow = true := by kernel_rfl
theorem okr_strings_Builder_grow : okRs Tryd.prog Tryd.f55.results.toList r_strings_Builder_grow = true := by kernel_rfl

/-- utf8.RuneCountInString -/
def x_utf8_RuneCountInString : XC :=
 .seq (.region [⟨some s002, .move (.c (.int .i64 0)), none⟩])
 (.seq (.seq (.region [xm s003 s000,
 ⟨some s004, .dead, none⟩])
 (.block 0
 (.loop
 (.seq (.region [⟨some s005, .dead, none⟩,
 ⟨some s006, .extract 0 (.t s005), none⟩])
 (.seq (.cond (.t s006)
 (.skip)
 (.exit 0))
 (.block 1
 (.region [xm s007 s002,
 ⟨some s010, .bin .add (.t s007) (.c (.int .i64 1)), none⟩,
 xm s002 s010])))))))
 (.seq (.region [xm s011 s002,
 xm s002 s011])
 (.ret)))
def r_utf8_RuneCountInString : List XR := [.tmp s002]
theorem ok_utf8_RuneCountInString : okC Tryd.prog Tryd.f56.ntmps (bodyOf Tryd.f56) x_utf8_RuneCountInString = true := by kernel_rfl
theorem okr_utf8_RuneCountInString : okRs Tryd.prog Tryd.f56.results.toList r_utf8_RuneCountInString = true := by kernel_rfl

/-- utf8.DecodeRuneInString -/
def x_utf8_DecodeRuneInString : XC :=
 .seq (.region [⟨some s002, .move (.c (.int .i32 0)), none⟩,
 ⟨some s003, .move (.c (.int .i64 0)), none⟩])
 (.seq (.seq (.region [xm s004 s000,
 ⟨some s005, .sbin .neq (.t s004) (.c (.string { data := #[] })), none⟩,
 xm s006 s005,
 ⟨some s007, .move (.t s000), some (s006, true)⟩,
 ⟨some s010, .strAt (.t s007) (.c (.int .i64 0)), some (s006, true)⟩,
 ⟨some s011, .bin .lss (.t s010) (.c (.int .u8 128)), some (s006, true)⟩,
 ⟨some s012, .pick (.t s006) (.t s011) (.c (.bool false)), none⟩])
 (.cond (.t s012)
 (.seq (.region [xm s013 s000,
 ⟨some s014, .strAt (.t s013) (.c (.int .i64 0)), none⟩,
 ⟨some s015, .convInt .i32 (.t s014), none⟩,
 xm s002 s015,
 ⟨some s003, .move (.c (.int .i64 1)), none⟩])
 (.ret))
 (.region [xm s017 s000,
 ⟨some s020, .call 68 [(.t s017)], none⟩,
 xm s016 s020,
 ⟨some s021, .extract 0 (.t s016), none⟩,
 ⟨some s022, .extract 1 (.t s016), none⟩,
 xm s002 s021,
 xm s003 s022])))
 (.ret))
def r_utf8_DecodeRuneInString : List XR := [.tmp s002, .tmp s003]
theorem ok_utf8_DecodeRuneInString : okC Tryd.prog Tryd.f57.ntmps (bodyOf Tryd.f57) x_utf8_DecodeRuneInString = true := by kernel_rfl
theorem okr_utf8_DecodeRuneInString : okRs Tryd.prog Tryd.f57.results.toList r_utf8_DecodeRuneInString = true := by kernel_rfl

/-- stringslite.Index -/
def x_stringslite_Index : XC :=
 .seq (.region [⟨some s004, .move (.c (.int .i64 0)), none⟩])
 (.seq (.region [xm s016 s001,
 ⟨some s017, .slen (.t s016), none⟩,
 xm s005 s017])
 (.seq (.block 0
 (.seq (.region [xm s021 s005,
 ⟨some s022, .bin .eql (.t s021) (.c (.int .i64 0)), none⟩,
 xm s023 s022,
 ⟨some s024, .move (.t s001), some (s023, false)⟩,
 ⟨some s025, .move (.t s000), some (s023, false)⟩,
 ⟨some s026, .sbin .eql (.t s024) (.t s025), some (s023, false)⟩,
 ⟨some s027, .pick (.t s023) (.c (.bool true)) (.t s026), none⟩,
 xm s020 s027])
 (.cond (.t s020)
 (.seq (.region [⟨some s004, .move (.c (.int .i64 0)), none⟩])
 (.ret))
 (.seq (.region [xm s031 s005,
 ⟨some s032, .bin .eql (.t s031) (.c (.int .i64 1)), none⟩,
 xm s030 s032])
 (.cond (.t s030)
 (.seq (.region [xm s033 s000,
 xm s034 s001,
 ⟨some s035, .strAt (.t s034) (.c (.int .i64 0)), none⟩,
 ⟨some s036, .call 69 [(.t s033), (.t s035)], none⟩,
 xm s004 s036])
 (.ret))
 (.seq (.region [xm s040 s005,
 xm s041 s000,
 ⟨some s042, .slen (.t s041), none⟩,
 ⟨some s043, .bin .geq (.t s040) (.t s042), none⟩,
 xm s037 s043])
 (.cond (.t s037)
 (.seq (.region [⟨some s004, .move (.c (.int .i64 (-1))), none⟩])
 (.ret))
 (.seq (.region [xm s045 s005,
 ⟨some s046, .load false 1 .g, none⟩,
 ⟨some s047, .bin .leq (.t s045) (.t s046), none⟩,
 xm s050 s047,
 ⟨some s051, .move (.t s000), some (s050, true)⟩,
 ⟨some s052, .slen (.t s051), some (s050, true)⟩,
 ⟨some s053, .bin .leq (.t s052) (.c (.int .i64 64)), some (s050, true)⟩,
 ⟨some s054, .pick (.t s050) (.t s053) (.c (.bool false)), none⟩,
 xm s044 s054])
 (.cond (.t s044)
 (.seq (.region [xm s055 s000,
 xm s056 s001,
 ⟨some s057, .dead, none⟩,
 xm s004 s057])
 (.ret))
 (.skip))))))))))
 (.seq (.region [xm s060 s001,
 ⟨some s061, .strAt (.t s060) (.c (.int .i64 0)), none⟩,
 xm s006 s061])
 (.seq (.region [xm s062 s001,
 ⟨some s063, .strAt (.t s062) (.c (.int .i64 1)), none⟩,
 xm s007 s063])
 (.seq (.region [⟨some s010, .move (.c (.int .i64 0)), none⟩])
 (.seq (.region [xm s064 s000,
 ⟨some s065, .slen (.t s064), none⟩,
 xm s066 s005,
 ⟨some s067, .bin .sub (.t s065) (.t s066), none⟩,
 ⟨some s070, .bin .add (.t s067) (.c (.int .i64 1)), none⟩,
 xm s011 s070])
 (.seq (.region [⟨some s012, .move (.c (.int .i64 0)), none⟩])
 (.seq (.block 1
 (.loop
 (.seq (.seq (.region [xm s071 s010,
 xm s072 s011,
 ⟨some s073, .bin .lss (.t s071) (.t s072), none⟩])
 (.cond (.t s073)
 (.skip)
 (.exit 1)))
 (.block 2
 (.seq (.seq (.region [xm s074 s000,
 xm s075 s010,
 ⟨some s076, .strAt (.t s074) (.t s075), none⟩,
 xm s077 s006,
 ⟨some s100, .bin .neq (.t s076) (.t s077), none⟩])
 (.cond (.t s100)
 (.seq (.region [xm s101 s000,
 xm s102 s010,
 ⟨some s103, .bin .add (.t s102) (.c (.int .i64 1)), none⟩,
 xm s104 s011,
 ⟨some s105, .substr (.t s101) (some (.t s103)) (some (.t s104)), none⟩,
 xm s106 s006,
 ⟨some s107, .call 69 [(.t s105), (.t s106)], none⟩,
 xm s013 s107])
 (.seq (.seq (.region [xm s110 s013,
 ⟨some s111, .bin .lss (.t s110) (.c (.int .i64 0)), none⟩])
 (.cond (.t s111)
 (.seq (.region [⟨some s004, .move (.c (.int .i64 (-1))), none⟩])
 (.ret))
 (.skip)))
 (.region [xm s112 s010,
 xm s113 s013,
 ⟨some s114, .bin .add (.t s113) (.c (.int .i64 1)), none⟩,
 ⟨some s115, .bin .add (.t s112) (.t s114), none⟩,
 xm s010 s115])))
 (.skip)))
 (.seq (.seq (.region [xm s116 s000,
 xm s117 s010,
 ⟨some s120, .bin .add (.t s117) (.c (.int .i64 1)), none⟩,
 ⟨some s121, .strAt (.t s116) (.t s120), none⟩,
 xm s122 s007,
 ⟨some s123, .bin .eql (.t s121) (.t s122), none⟩,
 xm s124 s123,
 ⟨some s125, .move (.t s000), some (s124, true)⟩,
 ⟨some s126, .move (.t s010), some (s124, true)⟩,
 ⟨some s127, .move (.t s010), some (s124, true)⟩,
 ⟨some s130, .move (.t s005), some (s124, true)⟩,
 ⟨some s131, .bin .add (.t s127) (.t s130), some (s124, true)⟩,
 ⟨some s132, .substr (.t s125) (some (.t s126)) (some (.t s131)), some (s124, true)⟩,
 ⟨some s133, .move (.t s001), some (s124, true)⟩,
 ⟨some s134, .sbin .eql (.t s132) (.t s133), some (s124, true)⟩,
 ⟨some s135, .pick (.t s124) (.t s134) (.c (.bool false)), none⟩])
 (.cond (.t s135)
 (.seq (.region [xm s136 s010,
 xm s004 s136])
 (.ret))
 (.skip)))
 (.seq (.region [xm s137 s010,
 ⟨some s140, .bin .add (.t s137) (.c (.int .i64 1)), none⟩,
 xm s010 s140])
 (.seq (.region [xm s141 s012,
 ⟨some s142, .bin .add (.t s141) (.c (.int .i64 1)), none⟩,
 xm s012 s142])
 (.seq (.region [xm s143 s005,
 ⟨some s144, .load false 1 .g, none⟩,
 ⟨some s145, .bin .leq (.t s143) (.t s144), none⟩,
 xm s146 s145,
 ⟨some s147, .move (.t s012), some (s146, true)⟩,
 ⟨some s150, .move (.t s010), some (s146, true)⟩,
 ⟨some s151, .call 71 [(.t s150)], some (s146, true)⟩,
 ⟨some s152, .bin .gtr (.t s147) (.t s151), some (s146, true)⟩,
 ⟨some s153, .pick (.t s146) (.t s152) (.c (.bool false)), none⟩])
 (.cond (.t s153)
 (.seq (.region [xm s154 s000,
 xm s155 s010,
 ⟨some s156, .substr (.t s154) (some (.t s155)) none, none⟩,
 xm s157 s001,
 ⟨some s160, .dead, none⟩,
 xm s014 s160])
 (.seq (.seq (.region [xm s161 s014,
 ⟨some s162, .bin .geq (.t s161) (.c (.int .i64 0)), none⟩])
 (.cond (.t s162)
 (.seq (.region [xm s163 s014,
 xm s164 s010,
 ⟨some s165, .bin .add (.t s163) (.t s164), none⟩,
 xm s004 s165])
 (.ret))
 (.skip)))
 (.seq (.region [⟨some s004, .move (.c (.int .i64 (-1))), none⟩])
 (.ret))))
 (.seq (.region [xm s166 s005,
 ⟨some s167, .load false 1 .g, none⟩,
 ⟨some s170, .bin .gtr (.t s166) (.t s167), none⟩,
 xm s171 s170,
 ⟨some s172, .move (.t s012), some (s171, true)⟩,
 ⟨some s173, .move (.t s010), some (s171, true)⟩,
 ⟨some s174, .bin .shr (.t s173) (.c (.int .u64 4)), some (s171, true)⟩,
 ⟨some s175, .bin .add (.c (.int .i64 4)) (.t s174), some (s171, true)⟩,
 ⟨some s176, .bin .geq (.t s172) (.t s175), some (s171, true)⟩,
 ⟨some s177, .pick (.t s171) (.t s176) (.c (.bool false)), none⟩,
 xm s200 s177,
 ⟨some s201, .move (.t s010), some (s200, true)⟩,
 ⟨some s202, .move (.t s011), some (s200, true)⟩,
 ⟨some s203, .bin .lss (.t s201) (.t s202), some (s200, true)⟩,
 ⟨some s204, .pick (.t s200) (.t s203) (.c (.bool false)), none⟩])
 (.cond (.t s204)
 (.seq (.region [xm s205 s000,
 xm s206 s010,
 ⟨some s207, .substr (.t s205) (some (.t s206)) none, none⟩,
 xm s210 s001,
 ⟨some s211, .call 72 [(.t s207), (.t s210)], none⟩,
 xm s015 s211])
 (.seq (.seq (.region [xm s212 s015,
 ⟨some s213, .bin .lss (.t s212) (.c (.int .i64 0)), none⟩])
 (.cond (.t s213)
 (.seq (.region [⟨some s004, .move (.c (.int .i64 (-1))), none⟩])
 (.ret))
 (.skip)))
 (.seq (.region [xm s214 s010,
 xm s215 s015,
 ⟨some s216, .bin .add (.t s214) (.t s215), none⟩,
 xm s004 s216])
 (.ret))))
 (.skip)))))))))))))
 (.seq (.region [⟨some s004, .move (.c (.int .i64 (-1))), none⟩])
 (.ret))))))))))
def r_stringslite_Index : List XR := [.tmp s004]
theorem ok_stringslite_Index : okC Tryd.prog Tryd.f59.ntmps (bodyOf Tryd.f59) x_stringslite_Index = true := by kernel_rfl
theorem okr_stringslite_Index : okRs Tryd.prog Tryd.f59.results.toList r_stringslite_Index = true := by kernel_rfl

/-- stringslite.Clone -/
def x_stringslite_Clone : XC :=
 .seq (.region [⟨some s002, .move (.c (.string { data := #[] })), none⟩])
 (.seq (.seq (.region [xm s004 s000,
 ⟨some s005, .slen (.t s004), none⟩,
 ⟨some s006, .bin .eql (.t s005) (.c (.int .i64 0)), none⟩])
 (.cond (.t s006)
 (.seq (.region [⟨some s002, .move (.c (.string { data := #[] })), none⟩])
 (.ret))
 (.skip)))
 (.seq (.region [xm s007 s000,
 ⟨some s010, .slen (.t s007), none⟩,
 ⟨some s011, .makeSlice 0 1 [.int .u8 0] (.t s010) (.t s010), none⟩,
 xm s003 s011])
 (.seq (.region [xm s012 s003,
 xm s013 s000,
 ⟨some s014, .dead, none⟩])
 (.seq (.region [xm s015 s003,
 ⟨some s016, .indexSl 1 (.t s015) (.c (.int .i64 0)), none⟩,
 xm s017 s003,
 ⟨some s020, .len (.t s017), none⟩,
 ⟨some s021, .dead, none⟩,
 xm s002 s021])
 (.ret)))))
def r_stringslite_Clone : List XR := [.tmp s002]
theorem ok_stringslite_Clone : okC Tryd.prog Tryd.f60.ntmps (bodyOf Tryd.f60) x_stringslite_Clone = true := by kernel_rfl
theorem okr_stringslite_Clone : okRs Tryd.prog Tryd.f60.results.toList r_stringslite_Clone = true := by kernel_rfl

/-- errors.New -/
def x_errors_New : XC :=
 .seq (.region [⟨some s002, .move (.c (.nilIface)), none⟩])
 (.seq (.region [xm s003 s000,
 ⟨some s004, .build [.string { data := #[] }] [(0, 1, (.t s003))], none⟩,
 ⟨some s005, .box 0 1 (.t s004), none⟩,
 ⟨some s006, .dead, none⟩,
 xm s002 s006])
 (.ret))
def r_errors_New : List XR := [.tmp s002]
theorem ok_errors_New : okC Tryd.prog Tryd.f61.ntmps (bodyOf Tryd.f61) x_errors_New = true := by kernel_rfl
theorem okr_errors_New : okRs Tryd.prog Tryd.f61.results.toList r_errors_New = true := by kernel_rfl

/-- strconv.small -/
def x_strconv_small : XC :=
 .seq (.region [⟨some s002, .move (.c (.string { data := #[] })), none⟩])
 (.seq (.seq (.region [xm s003 s000,
 ⟨some s004, .bin .lss (.t s003) (.c (.int .i64 10)), none⟩])
 (.cond (.t s004)
 (.seq (.region [xm s005 s000,
 xm s006 s000,
 ⟨some s007, .bin .add (.t s006) (.c (.int .i64 1)), none⟩,
 ⟨some s010, .substr (.c (.string { data := #[48, 49, 50, 51, 52, 53, 54, 55, 56, 57, 97, 98, 99, 100, 101, 102, 103, 104, 105, 106, 107, 108, 109, 110, 111, 112, 113, 114, 115, 116, 117, 118, 119, 120, 121, 122] })) (some (.t s005)) (some (.t s007)), none⟩,
 xm s002 s010])
 (.ret))
 (.skip)))
 (.seq (.region [xm s011 s000,
 ⟨some s012, .bin .mul (.t s011) (.c (.int .i64 2)), none⟩,
 xm s013 s000,
 ⟨some s014, .bin .mul (.t s013) (.c (.int .i64 2)), none⟩,
 ⟨some s015, .bin .add (.t s014) (.c (.int .i64 2)), none⟩,
 ⟨some s016, .substr (.c (.string { data := #[48, 48, 48, 49, 48, 50, 48, 51, 48, 52, 48, 53, 48, 54, 48, 55, 48, 56, 48, 57, 49, 48, 49, 49, 49, 50, 49, 51, 49, 52, 49, 53, 49, 54, 49, 55, 49, 56, 49, 57, 50, 48, 50, 49, 50, 50, 50, 51, 50, 52, 50, 53, 50, 54, 50, 55, 50, 56, 50, 57, 51, 48, 51, 49, 51, 50, 51, 51, 51, 52, 51, 53, 51, 54, 51, 55, 51, 56, 51, 57, 52, 48, 52, 49, 52, 50, 52, 51, 52, 52, 52, 53, 52, 54, 52, 55, 52, 56, 52, 57, 53, 48, 53, 49, 53, 50, 53, 51, 53, 52, 53, 53, 53, 54, 53, 55, 53, 56, 53, 57, 54, 48, 54, 49, 54, 50, 54, 51, 54, 52, 54, 53, 54, 54, 54, 55, 54, 56, 54, 57, 55, 48, 55, 49, 55, 50, 55, 51, 55, 52, 55, 53, 55, 54, 55, 55, 55, 56, 55, 57, 56, 48, 56, 49, 56, 50, 56, 51, 56, 52, 56, 53, 56, 54, 56, 55, 56, 56, 56, 57, 57, 48, 57, 49, 57, 50, 57, 51, 57, 52, 57, 53, 57, 54, 57, 55, 57, 56, 57, 57] })) (some (.t s012)) (some (.t s015)), none⟩,
 xm s002 s016])
 (.ret)))
def r_strconv_small : List XR := [.tmp s002]
theorem ok_strconv_small : okC Tryd.prog Tryd.f62.ntmps (bodyOf Tryd.f62) x_strconv_small = true := by kernel_rfl
theorem okr_strconv_small : okRs Tryd.prog Tryd.f62.results.toList r_strconv_small = true := by kernel_rfl

/-- strconv.numDigits -/
def x_strconv_numDigits : XC :=
 .seq (.region [⟨some s002, .move (.c (.int .i64 0)), none⟩])
 (.seq (.region [xm s004 s000,
 ⟨some s005, .call 74 [(.t s004)], none⟩,
 ⟨some s006, .call 73 [(.t s005)], none⟩,
 xm s003 s006])
 (.seq (.region [xm s007 s003,
 xm s010 s000,
 xm s011 s003,
 ⟨some s012, .gidx 1 20 3 (.t s011), none⟩,
 xl s013 s012,
 ⟨some s014, .bin .geq (.t s010) (.t s013), none⟩,
 ⟨some s015, .call 75 [(.t s014)], none⟩,
 ⟨some s016, .bin .add (.t s007) (.t s015), none⟩,
 xm s002 s016])
 (.ret)))
def r_strconv_numDigits : List XR := [.tmp s002]
theorem ok_strconv_numDigits : okC Tryd.prog Tryd.f63.ntmps (bodyOf Tryd.f63) x_strconv_numDigits = true := by kernel_rfl
theorem okr_strconv_numDigits : okRs Tryd.prog Tryd.f63.results.toList r_strconv_numDigits = true := by kernel_rfl

/-- strconv.formatBase10 -/
def x_strconv_formatBase10 : XC :=
 .seq (.region [xm s021 s000,
 ⟨some s022, .len (.t s021), none⟩,
 xm s004 s022])
 (.seq (.block 0
 (.loop
 (.seq (.seq (.region [xm s023 s004,
 ⟨some s024, .bin .geq (.t s023) (.c (.int .i64 8)), none⟩])
 (.cond (.t s024)
 (.skip)
 (.exit 0)))
 (.block 1
 (.seq (.region [xm s025 s001,
 ⟨some s026, .bin .rem (.t s025) (.c (.int .u64 100000000)), none⟩,
 ⟨some s027, .convInt .u32 (.t s026), none⟩,
 xm s005 s027])
 (.seq (.region [xm s030 s001,
 ⟨some s031, .bin .quo (.t s030) (.c (.int .u64 100000000)), none⟩,
 xm s001 s031])
 (.seq (.region [xm s032 s005,
 ⟨some s033, .bin .quo (.t s032) (.c (.int .u32 10000)), none⟩,
 xm s034 s005,
 ⟨some s035, .bin .rem (.t s034) (.c (.int .u32 10000)), none⟩,
 xm s006 s033,
 xm s007 s035])
 (.seq (.region [xm s036 s007,
 ⟨some s037, .bin .quo (.t s036) (.c (.int .u32 100)), none⟩,
 ⟨some s040, .bin .mul (.t s037) (.c (.int .u32 2)), none⟩,
 xm s041 s007,
 ⟨some s042, .bin .rem (.t s041) (.c (.int .u32 100)), none⟩,
 ⟨some s043, .bin .mul (.t s042) (.c (.int .u32 2)), none⟩,
 xm s010 s040,
 xm s011 s043])
 (.seq (.region [xm s044 s006,
 ⟨some s045, .bin .quo (.t s044) (.c (.int .u32 100)), none⟩,
 ⟨some s046, .bin .mul (.t s045) (.c (.int .u32 2)), none⟩,
 xm s047 s006,
 ⟨some s050, .bin .rem (.t s047) (.c (.int .u32 100)), none⟩,
 ⟨some s051, .bin .mul (.t s050) (.c (.int .u32 2)), none⟩,
 xm s012 s046,
 xm s013 s051])
 (.seq (.regionD [0, 0, 2, 0, 0, 16, 0, 64, 192, 0, 512, 455, 2503, 8191, 16383] [xm s052 s000,
 xm s053 s004,
 ⟨some s054, .bin .sub (.t s053) (.c (.int .i64 1)), none⟩,
 xm s055 s000,
 xm s056 s004,
 ⟨some s057, .bin .sub (.t s056) (.c (.int .i64 2)), none⟩,
 xm s060 s011,
 ⟨some s061, .bin .add (.t s060) (.c (.int .u32 1)), none⟩,
 ⟨some s062, .strAt (.c (.string { data := #[48, 48, 48, 49, 48, 50, 48, 51, 48, 52, 48, 53, 48, 54, 48, 55, 48, 56, 48, 57, 49, 48, 49, 49, 49, 50, 49, 51, 49, 52, 49, 53, 49, 54, 49, 55, 49, 56, 49, 57, 50, 48, 50, 49, 50, 50, 50, 51, 50, 52, 50, 53, 50, 54, 50, 55, 50, 56, 50, 57, 51, 48, 51, 49, 51, 50, 51, 51, 51, 52, 51, 53, 51, 54, 51, 55, 51, 56, 51, 57, 52, 48, 52, 49, 52, 50, 52, 51, 52, 52, 52, 53, 52, 54, 52, 55, 52, 56, 52, 57, 53, 48, 53, 49, 53, 50, 53, 51, 53, 52, 53, 53, 53, 54, 53, 55, 53, 56, 53, 57, 54, 48, 54, 49, 54, 50, 54, 51, 54, 52, 54, 53, 54, 54, 54, 55, 54, 56, 54, 57, 55, 48, 55, 49, 55, 50, 55, 51, 55, 52, 55, 53, 55, 54, 55, 55, 55, 56, 55, 57, 56, 48, 56, 49, 56, 50, 56, 51, 56, 52, 56, 53, 56, 54, 56, 55, 56, 56, 56, 57, 57, 48, 57, 49, 57, 50, 57, 51, 57, 52, 57, 53, 57, 54, 57, 55, 57, 56, 57, 57] })) (.t s061), none⟩,
 xm s063 s011,
 ⟨some s064, .strAt (.c (.string { data := #[48, 48, 48, 49, 48, 50, 48, 51, 48, 52, 48, 53, 48, 54, 48, 55, 48, 56, 48, 57, 49, 48, 49, 49, 49, 50, 49, 51, 49, 52, 49, 53, 49, 54, 49, 55, 49, 56, 49, 57, 50, 48, 50, 49, 50, 50, 50, 51, 50, 52, 50, 53, 50, 54, 50, 55, 50, 56, 50, 57, 51, 48, 51, 49, 51, 50, 51, 51, 51, 52, 51, 53, 51, 54, 51, 55, 51, 56, 51, 57, 52, 48, 52, 49, 52, 50, 52, 51, 52, 52, 52, 53, 52, 54, 52, 55, 52, 56, 52, 57, 53, 48, 53, 49, 53, 50, 53, 51, 53, 52, 53, 53, 53, 54, 53, 55, 53, 56, 53, 57, 54, 48, 54, 49, 54, 50, 54, 51, 54, 52, 54, 53, 54, 54, 54, 55, 54, 56, 54, 57, 55, 48, 55, 49, 55, 50, 55, 51, 55, 52, 55, 53, 55, 54, 55, 55, 55, 56, 55, 57, 56, 48, 56, 49, 56, 50, 56, 51, 56, 52, 56, 53, 56, 54, 56, 55, 56, 56, 56, 57, 57, 48, 57, 49, 57, 50, 57, 51, 57, 52, 57, 53, 57, 54, 57, 55, 57, 56, 57, 57] })) (.t s063), none⟩,
 ⟨some s065, .indexSl 1 (.t s052) (.t s054), none⟩,
 ⟨none, .store 1 (.t s065) (.t s062), none⟩,
 ⟨some s066, .indexSl 1 (.t s055) (.t s057), none⟩,
 ⟨none, .store 1 (.t s066) (.t s064), none⟩])
 (.seq (.regionD [0, 0, 2, 0, 0, 16, 0, 64, 192, 0, 512, 455, 2503, 8191, 16383] [xm s067 s000,
 xm s070 s004,
 ⟨some s071, .bin .sub (.t s070) (.c (.int .i64 3)), none⟩,
 xm s072 s000,
 xm s073 s004,
 ⟨some s074, .bin .sub (.t s073) (.c (.int .i64 4)), none⟩,
 xm s075 s010,
 ⟨some s076, .bin .add (.t s075) (.c (.int .u32 1)), none⟩,
 ⟨some s077, .strAt (.c (.string { data := #[48, 48, 48, 49, 48, 50, 48, 51, 48, 52, 48, 53, 48, 54, 48, 55, 48, 56, 48, 57, 49, 48, 49, 49, 49, 50, 49, 51, 49, 52, 49, 53, 49, 54, 49, 55, 49, 56, 49, 57, 50, 48, 50, 49, 50, 50, 50, 51, 50, 52, 50, 53, 50, 54, 50, 55, 50, 56, 50, 57, 51, 48, 51, 49, 51, 50, 51, 51, 51, 52, 51, 53, 51, 54, 51, 55, 51, 56, 51, 57, 52, 48, 52, 49, 52, 50, 52, 51, 52, 52, 52, 53, 52, 54, 52, 55, 52, 56, 52, 57, 53, 48, 53, 49, 53, 50, 53, 51, 53, 52, 53, 53, 53, 54, 53, 55, 53, 56, 53, 57, 54, 48, 54, 49, 54, 50, 54, 51, 54, 52, 54, 53, 54, 54, 54, 55, 54, 56, 54, 57, 55, 48, 55, 49, 55, 50, 55, 51, 55, 52, 55, 53, 55, 54, 55, 55, 55, 56, 55, 57, 56, 48, 56, 49, 56, 50, 56, 51, 56, 52, 56, 53, 56, 54, 56, 55, 56, 56, 56, 57, 57, 48, 57, 49, 57, 50, 57, 51, 57, 52, 57, 53, 57, 54, 57, 55, 57, 56, 57, 57] })) (.t s076), none⟩,
 xm s100 s010,
 ⟨some s101, .strAt (.c (.string { data := #[48, 48, 48, 49, 48, 50, 48, 51, 48, 52, 48, 53, 48, 54, 48, 55, 48, 56, 48, 57, 49, 48, 49, 49, 49, 50, 49, 51, 49, 52, 49, 53, 49, 54, 49, 55, 49, 56, 49, 57, 50, 48, 50, 49, 50, 50, 50, 51, 50, 52, 50, 53, 50, 54, 50, 55, 50, 56, 50, 57, 51, 48, 51, 49, 51, 50, 51, 51, 51, 52, 51, 53, 51, 54, 51, 55, 51, 56, 51, 57, 52, 48, 52, 49, 52, 50, 52, 51, 52, 52, 52, 53, 52, 54, 52, 55, 52, 56, 52, 57, 53, 48, 53, 49, 53, 50, 53, 51, 53, 52, 53, 53, 53, 54, 53, 55, 53, 56, 53, 57, 54, 48, 54, 49, 54, 50, 54, 51, 54, 52, 54, 53, 54, 54, 54, 55, 54, 56, 54, 57, 55, 48, 55, 49, 55, 50, 55, 51, 55, 52, 55, 53, 55, 54, 55, 55, 55, 56, 55, 57, 56, 48, 56, 49, 56, 50, 56, 51, 56, 52, 56, 53, 56, 54, 56, 55, 56, 56, 56, 57, 57, 48, 57, 49, 57, 50, 57, 51, 57, 52, 57, 53, 57, 54, 57, 55, 57, 56, 57, 57] })) (.t s100), none⟩,
 ⟨some s102, .indexSl 1 (.t s067) (.t s071), none⟩,
 ⟨none, .store 1 (.t s102) (.t s077), none⟩,
 ⟨some s103, .indexSl 1 (.t s072) (.t s074), none⟩,
 ⟨none, .store 1 (.t s103) (.t s101), none⟩])
 (.seq (.regionD [0, 0, 2, 0, 0, 16, 0, 64, 192, 0, 512, 455, 2503, 8191, 16383] [xm s104 s000,
 xm s105 s004,
 ⟨some s106, .bin .sub (.t s105) (.c (.int .i64 5)), none⟩,
 xm s107 s000,
 xm s110 s004,
 ⟨some s111, .bin .sub (.t s110) (.c (.int .i64 6)), none⟩,
 xm s112 s013,
 ⟨some s113, .bin .add (.t s112) (.c (.int .u32 1)), none⟩,
 ⟨some s114, .strAt (.c (.string { data := #[48, 48, 48, 49, 48, 50, 48, 51, 48, 52, 48, 53, 48, 54, 48, 55, 48, 56, 48, 57, 49, 48, 49, 49, 49, 50, 49, 51, 49, 52, 49, 53, 49, 54, 49, 55, 49, 56, 49, 57, 50, 48, 50, 49, 50, 50, 50, 51, 50, 52, 50, 53, 50, 54, 50, 55, 50, 56, 50, 57, 51, 48, 51, 49, 51, 50, 51, 51, 51, 52, 51, 53, 51, 54, 51, 55, 51, 56, 51, 57, 52, 48, 52, 49, 52, 50, 52, 51, 52, 52, 52, 53, 52, 54, 52, 55, 52, 56, 52, 57, 53, 48, 53, 49, 53, 50, 53, 51, 53, 52, 53, 53, 53, 54, 53, 55, 53, 56, 53, 57, 54, 48, 54, 49, 54, 50, 54, 51, 54, 52, 54, 53, 54, 54, 54, 55, 54, 56, 54, 57, 55, 48, 55, 49, 55, 50, 55, 51, 55, 52, 55, 53, 55, 54, 55, 55, 55, 56, 55, 57, 56, 48, 56, 49, 56, 50, 56, 51, 56, 52, 56, 53, 56, 54, 56, 55, 56, 56, 56, 57, 57, 48, 57, 49, 57, 50, 57, 51, 57, 52, 57, 53, 57, 54, 57, 55, 57, 56, 57, 57] })) (.t s113), none⟩,
 xm s115 s013,
 ⟨some s116, .strAt (.c (.string { data := #[48, 48, 48, 49, 48, 50, 48, 51, 48, 52, 48, 53, 48, 54, 48, 55, 48, 56, 48, 57, 49, 48, 49, 49, 49, 50, 49, 51, 49, 52, 49, 53, 49, 54, 49, 55, 49, 56, 49, 57, 50, 48, 50, 49, 50, 50, 50, 51, 50, 52, 50, 53, 50, 54, 50, 55, 50, 56, 50, 57, 51, 48, 51, 49, 51, 50, 51, 51, 51, 52, 51, 53, 51, 54, 51, 55, 51, 56, 51, 57, 52, 48, 52, 49, 52, 50, 52, 51, 52, 52, 52, 53, 52, 54, 52, 55, 52, 56, 52, 57, 53, 48, 53, 49, 53, 50, 53, 51, 53, 52, 53, 53, 53, 54, 53, 55, 53, 56, 53, 57, 54, 48, 54, 49, 54, 50, 54, 51, 54, 52, 54, 53, 54, 54, 54, 55, 54, 56, 54, 57, 55, 48, 55, 49, 55, 50, 55, 51, 55, 52, 55, 53, 55, 54, 55, 55, 55, 56, 55, 57, 56, 48, 56, 49, 56, 50, 56, 51, 56, 52, 56, 53, 56, 54, 56, 55, 56, 56, 56, 57, 57, 48, 57, 49, 57, 50, 57, 51, 57, 52, 57, 53, 57, 54, 57, 55, 57, 56, 57, 57] })) (.t s115), none⟩,
 ⟨some s117, .indexSl 1 (.t s104) (.t s106), none⟩,
 ⟨none, .store 1 (.t s117) (.t s114), none⟩,
 ⟨some s120, .indexSl 1 (.t s107) (.t s111), none⟩,
 ⟨none, .store 1 (.t s120) (.t s116), none⟩])
 (.seq (.regionD [0, 0, 2, 0, 0, 16, 0, 64, 192, 0, 512, 455, 2503, 8191, 16383] [xm s121 s000,
 xm s122 s004,
 ⟨some s123, .bin .sub (.t s122) (.c (.int .i64 7)), none⟩,
 xm s124 s000,
 xm s125 s004,
 ⟨some s126, .bin .sub (.t s125) (.c (.int .i64 8)), none⟩,
 xm s127 s012,
 ⟨some s130, .bin .add (.t s127) (.c (.int .u32 1)), none⟩,
 ⟨some s131, .strAt (.c (.string { data := #[48, 48, 48, 49, 48, 50, 48, 51, 48, 52, 48, 53, 48, 54, 48, 55, 48, 56, 48, 57, 49, 48, 49, 49, 49, 50, 49, 51, 49, 52, 49, 53, 49, 54, 49, 55, 49, 56, 49, 57, 50, 48, 50, 49, 50, 50, 50, 51, 50, 52, 50, 53, 50, 54, 50, 55, 50, 56, 50, 57, 51, 48, 51, 49, 51, 50, 51, 51, 51, 52, 51, 53, 51, 54, 51, 55, 51, 56, 51, 57, 52, 48, 52, 49, 52, 50, 52, 51, 52, 52, 52, 53, 52, 54, 52, 55, 52, 56, 52, 57, 53, 48, 53, 49, 53, 50, 53, 51, 53, 52, 53, 53, 53, 54, 53, 55, 53, 56, 53, 57, 54, 48, 54, 49, 54, 50, 54, 51, 54, 52, 54, 53, 54, 54, 54, 55, 54, 56, 54, 57, 55, 48, 55, 49, 55, 50, 55, 51, 55, 52, 55, 53, 55, 54, 55, 55, 55, 56, 55, 57, 56, 48, 56, 49, 56, 50, 56, 51, 56, 52, 56, 53, 56, 54, 56, 55, 56, 56, 56, 57, 57, 48, 57, 49, 57, 50, 57, 51, 57, 52, 57, 53, 57, 54, 57, 55, 57, 56, 57, 57] })) (.t s130), none⟩,
 xm s132 s012,
 ⟨some s133, .strAt (.c (.string { data := #[48, 48, 48, 49, 48, 50, 48, 51, 48, 52, 48, 53, 48, 54, 48, 55, 48, 56, 48, 57, 49, 48, 49, 49, 49, 50, 49, 51, 49, 52, 49, 53, 49, 54, 49, 55, 49, 56, 49, 57, 50, 48, 50, 49, 50, 50, 50, 51, 50, 52, 50, 53, 50, 54, 50, 55, 50, 56, 50, 57, 51, 48, 51, 49, 51, 50, 51, 51, 51, 52, 51, 53, 51, 54, 51, 55, 51, 56, 51, 57, 52, 48, 52, 49, 52, 50, 52, 51, 52, 52, 52, 53, 52, 54, 52, 55, 52, 56, 52, 57, 53, 48, 53, 49, 53, 50, 53, 51, 53, 52, 53, 53, 53, 54, 53, 55, 53, 56, 53, 57, 54, 48, 54, 49, 54, 50, 54, 51, 54, 52, 54, 53, 54, 54, 54, 55, 54, 56, 54, 57, 55, 48, 55, 49, 55, 50, 55, 51, 55, 52, 55, 53, 55, 54, 55, 55, 55, 56, 55, 57, 56, 48, 56, 49, 56, 50, 56, 51, 56, 52, 56, 53, 56, 54, 56, 55, 56, 56, 56, 57, 57, 48, 57, 49, 57, 50, 57, 51, 57, 52, 57, 53, 57, 54, 57, 55, 57, 56, 57, 57] })) (.t s132), none⟩,
 ⟨some s134, .indexSl 1 (.t s121) (.t s123), none⟩,
 ⟨none, .store 1 (.t s134) (.t s131), none⟩,
 ⟨some s135, .indexSl 1 (.t s124) (.t s126), none⟩,
 ⟨none, .store 1 (.t s135) (.t s133), none⟩])
 (.region [xm s136 s004,
 ⟨some s137, .bin .sub (.t s136) (.c (.int .i64 8)), none⟩,
 xm s004 s137]))))))))))))))
 (.seq (.region [xm s140 s001,
 ⟨some s141, .convInt .u32 (.t s140), none⟩,
 xm s014 s141])
 (.seq (.seq (.region [xm s142 s004,
 ⟨some s143, .bin .geq (.t s142) (.c (.int .i64 4)), none⟩])
 (.cond (.t s143)
 (.seq (.region [xm s144 s014,
 ⟨some s145, .bin .rem (.t s144) (.c (.int .u32 10000)), none⟩,
 xm s015 s145])
 (.seq (.region [xm s146 s014,
 ⟨some s147, .bin .quo (.t s146) (.c (.int .u32 10000)), none⟩,
 xm s014 s147])
 (.seq (.region [xm s150 s015,
 ⟨some s151, .bin .quo (.t s150) (.c (.int .u32 100)), none⟩,
 ⟨some s152, .bin .mul (.t s151) (.c (.int .u32 2)), none⟩,
 xm s153 s015,
 ⟨some s154, .bin .rem (.t s153) (.c (.int .u32 100)), none⟩,
 ⟨some s155, .bin .mul (.t s154) (.c (.int .u32 2)), none⟩,
 xm s016 s152,
 xm s017 s155])
 (.seq (.regionD [0, 0, 2, 0, 0, 16, 0, 64, 192, 0, 512, 455, 2503, 8191, 16383] [xm s156 s000,
 xm s157 s004,
 ⟨some s160, .bin .sub (.t s157) (.c (.int .i64 1)), none⟩,
 xm s161 s000,
 xm s162 s004,
 ⟨some s163, .bin .sub (.t s162) (.c (.int .i64 2)), none⟩,
 xm s164 s017,
 ⟨some s165, .bin .add (.t s164) (.c (.int .u32 1)), none⟩,
 ⟨some s166, .strAt (.c (.string { data := #[48, 48, 48, 49, 48, 50, 48, 51, 48, 52, 48, 53, 48, 54, 48, 55, 48, 56, 48, 57, 49, 48, 49, 49, 49, 50, 49, 51, 49, 52, 49, 53, 49, 54, 49, 55, 49, 56, 49, 57, 50, 48, 50, 49, 50, 50, 50, 51, 50, 52, 50, 53, 50, 54, 50, 55, 50, 56, 50, 57, 51, 48, 51, 49, 51, 50, 51, 51, 51, 52, 51, 53, 51, 54, 51, 55, 51, 56, 51, 57, 52, 48, 52, 49, 52, 50, 52, 51, 52, 52, 52, 53, 52, 54, 52, 55, 52, 56, 52, 57, 53, 48, 53, 49, 53, 50, 53, 51, 53, 52, 53, 53, 53, 54, 53, 55, 53, 56, 53, 57, 54, 48, 54, 49, 54, 50, 54, 51, 54, 52, 54, 53, 54, 54, 54, 55, 54, 56, 54, 57, 55, 48, 55, 49, 55, 50, 55, 51, 55, 52, 55, 53, 55, 54, 55, 55, 55, 56, 55, 57, 56, 48, 56, 49, 56, 50, 56, 51, 56, 52, 56, 53, 56, 54, 56, 55, 56, 56, 56, 57, 57, 48, 57, 49, 57, 50, 57, 51, 57, 52, 57, 53, 57, 54, 57, 55, 57, 56, 57, 57] })) (.t s165), none⟩,
 xm s167 s017,
 ⟨some s170, .strAt (.c (.string { data := #[48, 48, 48, 49, 48, 50, 48, 51, 48, 52, 48, 53, 48, 54, 48, 55, 48, 56, 48, 57, 49, 48, 49, 49, 49, 50, 49, 51, 49, 52, 49, 53, 49, 54, 49, 55, 49, 56, 49, 57, 50, 48, 50, 49, 50, 50, 50, 51, 50, 52, 50, 53, 50, 54, 50, 55, 50, 56, 50, 57, 51, 48, 51, 49, 51, 50, 51, 51, 51, 52, 51, 53, 51, 54, 51, 55, 51, 56, 51, 57, 52, 48, 52, 49, 52, 50, 52, 51, 52, 52, 52, 53, 52, 54, 52, 55, 52, 56, 52, 57, 53, 48, 53, 49, 53, 50, 53, 51, 53, 52, 53, 53, 53, 54, 53, 55, 53, 56, 53, 57, 54, 48, 54, 49, 54, 50, 54, 51, 54, 52, 54, 53, 54, 54, 54, 55, 54, 56, 54, 57, 55, 48, 55, 49, 55, 50, 55, 51, 55, 52, 55, 53, 55, 54, 55, 55, 55, 56, 55, 57, 56, 48, 56, 49, 56, 50, 56, 51, 56, 52, 56, 53, 56, 54, 56, 55, 56, 56, 56, 57, 57, 48, 57, 49, 57, 50, 57, 51, 57, 52, 57, 53, 57, 54, 57, 55, 57, 56, 57, 57] })) (.t s167), none⟩,
 ⟨some s171, .indexSl 1 (.t s156) (.t s160), none⟩,
 ⟨none, .store 1 (.t s171) (.t s166), none⟩,
 ⟨some s172, .indexSl 1 (.t s161) (.t s163), none⟩,
 ⟨none, .store 1 (.t s172) (.t s170), none⟩])
 (.seq (.regionD [0, 0, 2, 0, 0, 16, 0, 64, 192, 0, 512, 455, 2503, 8191, 16383] [xm s173 s000,
 xm s174 s004,
 ⟨some s175, .bin .sub (.t s174) (.c (.int .i64 3)), none⟩,
 xm s176 s000,
 xm s177 s004,
 ⟨some s200, .bin .sub (.t s177) (.c (.int .i64 4)), none⟩,
 xm s201 s016,
 ⟨some s202, .bin .add (.t s201) (.c (.int .u32 1)), none⟩,
 ⟨some s203, .strAt (.c (.string { data := #[48, 48, 48, 49, 48, 50, 48, 51, 48, 52, 48, 53, 48, 54, 48, 55, 48, 56, 48, 57, 49, 48, 49, 49, 49, 50, 49, 51, 49, 52, 49, 53, 49, 54, 49, 55, 49, 56, 49, 57, 50, 48, 50, 49, 50, 50, 50, 51, 50, 52, 50, 53, 50, 54, 50, 55, 50, 56, 50, 57, 51, 48, 51, 49, 51, 50, 51, 51, 51, 52, 51, 53, 51, 54, 51, 55, 51, 56, 51, 57, 52, 48, 52, 49, 52, 50, 52, 51, 52, 52, 52, 53, 52, 54, 52, 55, 52, 56, 52, 57, 53, 48, 53, 49, 53, 50, 53, 51, 53, 52, 53, 53, 53, 54, 53, 55, 53, 56, 53, 57, 54, 48, 54, 49, 54, 50, 54, 51, 54, 52, 54, 53, 54, 54, 54, 55, 54, 56, 54, 57, 55, 48, 55, 49, 55, 50, 55, 51, 55, 52, 55, 53, 55, 54, 55, 55, 55, 56, 55, 57, 56, 48, 56, 49, 56, 50, 56, 51, 56, 52, 56, 53, 56, 54, 56, 55, 56, 56, 56, 57, 57, 48, 57, 49, 57, 50, 57, 51, 57, 52, 57, 53, 57, 54, 57, 55, 57, 56, 57, 57] })) (.t s202), none⟩,
 xm s204 s016,
 ⟨some s205, .strAt (.c (.string { data := #[48, 48, 48, 49, 48, 50, 48, 51, 48, 52, 48, 53, 48, 54, 48, 55, 48, 56, 48, 57, 49, 48, 49, 49, 49, 50, 49, 51, 49, 52, 49, 53, 49, 54, 49, 55, 49, 56, 49, 57, 50, 48, 50, 49, 50, 50, 50, 51, 50, 52, 50, 53, 50, 54, 50, 55, 50, 56, 50, 57, 51, 48, 51, 49, 51, 50, 51, 51, 51, 52, 51, 53, 51, 54, 51, 55, 51, 56, 51, 57, 52, 48, 52, 49, 52, 50, 52, 51, 52, 52, 52, 53, 52, 54, 52, 55, 52, 56, 52, 57, 53, 48, 53, 49, 53, 50, 53, 51, 53, 52, 53, 53, 53, 54, 53, 55, 53, 56, 53, 57, 54, 48, 54, 49, 54, 50, 54, 51, 54, 52, 54, 53, 54, 54, 54, 55, 54, 56, 54, 57, 55, 48, 55, 49, 55, 50, 55, 51, 55, 52, 55, 53, 55, 54, 55, 55, 55, 56, 55, 57, 56, 48, 56, 49, 56, 50, 56, 51, 56, 52, 56, 53, 56, 54, 56, 55, 56, 56, 56, 57, 57, 48, 57, 49, 57, 50, 57, 51, 57, 52, 57, 53, 57, 54, 57, 55, 57, 56, 57, 57] })) (.t s204), none⟩,
 ⟨some s206, .indexSl 1 (.t s173) (.t s175), none⟩,
 ⟨none, .store 1 (.t s206) (.t s203), none⟩,
 ⟨some s207, .indexSl 1 (.t s176) (.t s200), none⟩,
 ⟨none, .store 1 (.t s207) (.t s205), none⟩])
 (.region [xm s210 s004,
 ⟨some s211, .bin .sub (.t s210) (.c (.int .i64 4)), none⟩,
 xm s004 s211]))))))
 (.skip)))
 (.seq (.seq (.region [xm s212 s004,
 ⟨some s213, .bin .geq (.t s212) (.c (.int .i64 2)), none⟩])
 (.cond (.t s213)
 (.seq (.region [xm s214 s014,
 ⟨some s215, .bin .rem (.t s214) (.c (.int .u32 100)), none⟩,
 ⟨some s216, .bin .mul (.t s215) (.c (.int .u32 2)), none⟩,
 xm s020 s216])
 (.seq (.region [xm s217 s014,
 ⟨some s220, .bin .quo (.t s217) (.c (.int .u32 100)), none⟩,
 xm s014 s220])
 (.seq (.regionD [0, 0, 2, 0, 0, 16, 0, 64, 192, 0, 512, 455, 2503, 8191, 16383] [xm s221 s000,
 xm s222 s004,
 ⟨some s223, .bin .sub (.t s222) (.c (.int .i64 1)), none⟩,
 xm s224 s000,
 xm s225 s004,
 ⟨some s226, .bin .sub (.t s225) (.c (.int .i64 2)), none⟩,
 xm s227 s020,
 ⟨some s230, .bin .add (.t s227) (.c (.int .u32 1)), none⟩,
 ⟨some s231, .strAt (.c (.string { data := #[48, 48, 48, 49, 48, 50, 48, 51, 48, 52, 48, 53, 48, 54, 48, 55, 48, 56, 48, 57, 49, 48, 49, 49, 49, 50, 49, 51, 49, 52, 49, 53, 49, 54, 49, 55, 49, 56, 49, 57, 50, 48, 50, 49, 50, 50, 50, 51, 50, 52, 50, 53, 50, 54, 50, 55, 50, 56, 50, 57, 51, 48, 51, 49, 51, 50, 51, 51, 51, 52, 51, 53, 51, 54, 51, 55, 51, 56, 51, 57, 52, 48, 52, 49, 52, 50, 52, 51, 52, 52, 52, 53, 52, 54, 52, 55, 52, 56, 52, 57, 53, 48, 53, 49, 53, 50, 53, 51, 53, 52, 53, 53, 53, 54, 53, 55, 53, 56, 53, 57, 54, 48, 54, 49, 54, 50, 54, 51, 54, 52, 54, 53, 54, 54, 54, 55, 54, 56, 54, 57, 55, 48, 55, 49, 55, 50, 55, 51, 55, 52, 55, 53, 55, 54, 55, 55, 55, 56, 55, 57, 56, 48, 56, 49, 56, 50, 56, 51, 56, 52, 56, 53, 56, 54, 56, 55, 56, 56, 56, 57, 57, 48, 57, 49, 57, 50, 57, 51, 57, 52, 57, 53, 57, 54, 57, 55, 57, 56, 57, 57] })) (.t s230), none⟩,
 xm s232 s020,
 ⟨some s233, .strAt (.c (.string { data := #[48, 48, 48, 49, 48, 50, 48, 51, 48, 52, 48, 53, 48, 54, 48, 55, 48, 56, 48, 57, 49, 48, 49, 49, 49, 50, 49, 51, 49, 52, 49, 53, 49, 54, 49, 55, 49, 56, 49, 57, 50, 48, 50, 49, 50, 50, 50, 51, 50, 52, 50, 53, 50, 54, 50, 55, 50, 56, 50, 57, 51, 48, 51, 49, 51, 50, 51, 51, 51, 52, 51, 53, 51, 54, 51, 55, 51, 56, 51, 57, 52, 48, 52, 49, 52, 50, 52, 51, 52, 52, 52, 53, 52, 54, 52, 55, 52, 56, 52, 57, 53, 48, 53, 49, 53, 50, 53, 51, 53, 52, 53, 53, 53, 54, 53, 55, 53, 56, 53, 57, 54, 48, 54, 49, 54, 50, 54, 51, 54, 52, 54, 53, 54, 54, 54, 55, 54, 56, 54, 57, 55, 48, 55, 49, 55, 50, 55, 51, 55, 52, 55, 53, 55, 54, 55, 55, 55, 56, 55, 57, 56, 48, 56, 49, 56, 50, 56, 51, 56, 52, 56, 53, 56, 54, 56, 55, 56, 56, 56, 57, 57, 48, 57, 49, 57, 50, 57, 51, 57, 52, 57, 53, 57, 54, 57, 55, 57, 56, 57, 57] })) (.t s232), none⟩,
 ⟨some s234, .indexSl 1 (.t s221) (.t s223), none⟩,
 ⟨none, .store 1 (.t s234) (.t s231), none⟩,
 ⟨some s235, .indexSl 1 (.t s224) (.t s226), none⟩,
 ⟨none, .store 1 (.t s235) (.t s233), none⟩])
 (.region [xm s236 s004,
 ⟨some s237, .bin .sub (.t s236) (.c (.int .i64 2)), none⟩,
 xm s004 s237]))))
 (.skip)))
 (.seq (.region [xm s240 s004,
 ⟨some s241, .bin .gtr (.t s240) (.c (.int .i64 0)), none⟩])
 (.cond (.t s241)
 (.region [xm s242 s000,
 xm s243 s014,
 ⟨some s244, .bin .add (.c (.int .u32 48)) (.t s243), none⟩,
 ⟨some s245, .convInt .u8 (.t s244), none⟩,
 ⟨some s246, .indexSl 1 (.t s242) (.c (.int .i64 0)), none⟩,
 ⟨none, .store 1 (.t s246) (.t s245), none⟩])
 (.skip)))))))
def r_strconv_formatBase10 : List XR := []
theorem ok_strconv_formatBase10 : okC Tryd.prog Tryd.f64.ntmps (bodyOf Tryd.f64) x_strconv_formatBase10 = true := by kernel_rfl
theorem okr_strconv_formatBase10 : okRs Tryd.prog Tryd.f64.results.toList r_strconv_formatBase10 = true := by kernel_rfl

/-- strconv.formatBits -/
def x_strconv_formatBits : XC :=
 .seq (.region [⟨some s012, .move (.c (.slice none 0 0)), none⟩,
 ⟨some s013, .move (.c (.string { data := #[] })), none⟩])
 (.seq (.seq (.region [xm s023 s002,
 ⟨some s024, .bin .lss (.t s023) (.c (.int .i64 2)), none⟩,
 xm s025 s024,
 ⟨some s026, .move (.t s002), some (s025, false)⟩,
 ⟨some s027, .bin .eql (.t s026) (.c (.int .i64 10)), some (s025, false)⟩,
 ⟨some s030, .pick (.t s025) (.c (.bool true)) (.t s027), none⟩,
 xm s031 s030,
 ⟨some s032, .move (.t s002), some (s031, false)⟩,
 ⟨some s033, .bin .gtr (.t s032) (.c (.int .i64 36)), some (s031, false)⟩,
 ⟨some s034, .pick (.t s031) (.c (.bool true)) (.t s033), none⟩])
 (.cond (.t s034)
 (.region [⟨some s035, .dead, none⟩,
 ⟨none, .dead, none⟩])
 (.skip)))
 (.seq (.region [⟨some s014, .alloc 0 zv102, none⟩])
 (.seq (.region [⟨some s015, .move (.c (.int .i64 65)), none⟩])
 (.seq (.seq (.region [xm s036 s003])
 (.cond (.t s036)
 (.region [xm s037 s001,
 ⟨some s040, .un .neg (.t s037), none⟩,
 xm s001 s040])
 (.skip)))
 (.seq (.seq (.region [xm s041 s002,
 ⟨some s042, .call 76 [(.t s041)], none⟩])
 (.cond (.t s042)
 (.seq (.region [xm s043 s002,
 ⟨some s044, .convInt .u64 (.t s043), none⟩,
 ⟨some s045, .call 77 [(.t s044)], none⟩,
 ⟨some s046, .convInt .u64 (.t s045), none⟩,
 xm s016 s046])
 (.seq (.region [xm s047 s002,
 ⟨some s050, .convInt .u64 (.t s047), none⟩,
 xm s017 s050])
 (.seq (.region [xm s051 s002,
 ⟨some s052, .convInt .u64 (.t s051), none⟩,
 ⟨some s053, .bin .sub (.t s052) (.c (.int .u64 1)), none⟩,
 xm s020 s053])
 (.seq (.block 0
 (.loop
 (.seq (.seq (.region [xm s054 s001,
 xm s055 s017,
 ⟨some s056, .bin .geq (.t s054) (.t s055), none⟩])
 (.cond (.t s056)
 (.skip)
 (.exit 0)))
 (.block 1
 (.seq (.region [xm s057 s015,
 ⟨some s060, .bin .sub (.t s057) (.c (.int .i64 1)), none⟩,
 xm s015 s060])
 (.seq (.region [xm s061 s015,
 xm s062 s001,
 xm s063 s020,
 ⟨some s064, .bin .and (.t s062) (.t s063), none⟩,
 ⟨some s065, .strAt (.c (.string { data := #[48, 49, 50, 51, 52, 53, 54, 55, 56, 57, 97, 98, 99, 100, 101, 102, 103, 104, 105, 106, 107, 108, 109, 110, 111, 112, 113, 114, 115, 116, 117, 118, 119, 120, 121, 122] })) (.t s064), none⟩,
 ⟨some s066, .indexArr 1 65 (.t s014) (.t s061), none⟩,
 ⟨none, .store 1 (.t s066) (.t s065), none⟩])
 (.region [xm s067 s001,
 xm s070 s016,
 ⟨some s071, .bin .shr (.t s067) (.t s070), none⟩,
 xm s001 s071])))))))
 (.seq (.region [xm s072 s015,
 ⟨some s073, .bin .sub (.t s072) (.c (.int .i64 1)), none⟩,
 xm s015 s073])
 (.region [xm s074 s015,
 xm s075 s001,
 ⟨some s076, .strAt (.c (.string { data := #[48, 49, 50, 51, 52, 53, 54, 55, 56, 57, 97, 98, 99, 100, 101, 102, 103, 104, 105, 106, 107, 108, 109, 110, 111, 112, 113, 114, 115, 116, 117, 118, 119, 120, 121, 122] })) (.t s075), none⟩,
 ⟨some s077, .indexArr 1 65 (.t s014) (.t s074), none⟩,
 ⟨none, .store 1 (.t s077) (.t s076), none⟩]))))))
 (.seq (.region [xm s100 s002,
 ⟨some s101, .convInt .u64 (.t s100), none⟩,
 xm s021 s101])
 (.seq (.block 2
 (.loop
 (.seq (.seq (.region [xm s102 s001,
 xm s103 s021,
 ⟨some s104, .bin .geq (.t s102) (.t s103), none⟩])
 (.cond (.t s104)
 (.skip)
 (.exit 2)))
 (.block 3
 (.seq (.region [xm s105 s015,
 ⟨some s106, .bin .sub (.t s105) (.c (.int .i64 1)), none⟩,
 xm s015 s106])
 (.seq (.region [xm s107 s001,
 xm s110 s021,
 ⟨some s111, .bin .quo (.t s107) (.t s110), none⟩,
 xm s022 s111])
 (.seq (.region [xm s112 s015,
 xm s113 s001,
 xm s114 s022,
 xm s115 s021,
 ⟨some s116, .bin .mul (.t s114) (.t s115), none⟩,
 ⟨some s117, .bin .sub (.t s113) (.t s116), none⟩,
 ⟨some s120, .strAt (.c (.string { data := #[48, 49, 50, 51, 52, 53, 54, 55, 56, 57, 97, 98, 99, 100, 101, 102, 103, 104, 105, 106, 107, 108, 109, 110, 111, 112, 113, 114, 115, 116, 117, 118, 119, 120, 121, 122] })) (.t s117), none⟩,
 ⟨some s121, .indexArr 1 65 (.t s014) (.t s112), none⟩,
 ⟨none, .store 1 (.t s121) (.t s120), none⟩])
 (.region [xm s122 s022,
 xm s001 s122]))))))))
 (.seq (.region [xm s123 s015,
 ⟨some s124, .bin .sub (.t s123) (.c (.int .i64 1)), none⟩,
 xm s015 s124])
 (.region [xm s125 s015,
 xm s126 s001,
 ⟨some s127, .strAt (.c (.string { data := #[48, 49, 50, 51, 52, 53, 54, 55, 56, 57, 97, 98, 99, 100, 101, 102, 103, 104, 105, 106, 107, 108, 109, 110, 111, 112, 113, 114, 115, 116, 117, 118, 119, 120, 121, 122] })) (.t s126), none⟩,
 ⟨some s130, .indexArr 1 65 (.t s014) (.t s125), none⟩,
 ⟨none, .store 1 (.t s130) (.t s127), none⟩]))))))
 (.seq (.seq (.region [xm s131 s003])
 (.cond (.t s131)
 (.seq (.region [xm s132 s015,
 ⟨some s133, .bin .sub (.t s132) (.c (.int .i64 1)), none⟩,
 xm s015 s133])
 (.region [xm s134 s015,
 ⟨some s135, .indexArr 1 65 (.t s014) (.t s134), none⟩,
 ⟨none, .store 1 (.t s135) (.c (.int .u8 45)), none⟩]))
 (.skip)))
 (.seq (.seq (.region [xm s136 s004])
 (.cond (.t s136)
 (.seq (.region [xm s137 s000,
 xm s140 s015,
 ⟨some s141, .dead, none⟩,
 ⟨some s142, .append 1 1 1 (.t s137) (.t s141), none⟩,
 xm s012 s142])
 (.ret))
 (.skip)))
 (.seq (.region [xm s143 s015,
 ⟨some s144, .dead, none⟩,
 ⟨some s145, .b2s (.t s144), none⟩,
 xm s013 s145])
 (.ret)))))))))
def r_strconv_formatBits : List XR := [.tmp s012, .tmp s013]
theorem ok_strconv_formatBits : okC Tryd.prog Tryd.f65.ntmps (bodyOf Tryd.f65) x_strconv_formatBits = true := by kernel_rfl
theorem okr_strconv_formatBits : okRs Tryd.prog Tryd.f65.results.toList r_strconv_formatBits = true := by kernel_rfl

/-- utf8.decodeRuneInStringSlow -/
def x_utf8_decodeRuneInStringSlow : XC :=
 .seq (.region [⟨some s002, .move (.c (.int .i32 0)), none⟩,
 ⟨some s003, .move (.c (.int .i64 0)), none⟩])
 (.seq (.region [xm s015 s000,
 ⟨some s016, .slen (.t s015), none⟩,
 xm s004 s016])
 (.seq (.seq (.region [xm s017 s004,
 ⟨some s020, .bin .lss (.t s017) (.c (.int .i64 1)), none⟩])
 (.cond (.t s020)
 (.seq (.region [⟨some s002, .move (.c (.int .i32 65533)), none⟩,
 ⟨some s003, .move (.c (.int .i64 0)), none⟩])
 (.ret))
 (.skip)))
 (.seq (.region [xm s021 s000,
 ⟨some s022, .strAt (.t s021) (.c (.int .i64 0)), none⟩,
 xm s005 s022])
 (.seq (.region [xm s023 s005,
 ⟨some s024, .gidx 1 256 4 (.t s023), none⟩,
 xl s025 s024,
 xm s006 s025])
 (.seq (.seq (.region [xm s026 s006,
 ⟨some s027, .bin .geq (.t s026) (.c (.int .u8 240)), none⟩])
 (.cond (.t s027)
 (.seq (.region [xm s030 s006,
 ⟨some s031, .convInt .i32 (.t s030), none⟩,
 ⟨some s032, .bin .shl (.t s031) (.c (.int .u64 31)), none⟩,
 ⟨some s033, .bin .shr (.t s032) (.c (.int .u64 31)), none⟩,
 xm s007 s033])
 (.seq (.region [xm s034 s000,
 ⟨some s035, .strAt (.t s034) (.c (.int .i64 0)), none⟩,
 ⟨some s036, .convInt .i32 (.t s035), none⟩,
 xm s037 s007,
 ⟨some s040, .bin .andNot (.t s036) (.t s037), none⟩,
 xm s041 s007,
 ⟨some s042, .bin .and (.c (.int .i32 65533)) (.t s041), none⟩,
 ⟨some s043, .bin .or (.t s040) (.t s042), none⟩,
 xm s002 s043,
 ⟨some s003, .move (.c (.int .i64 1)), none⟩])
 (.ret)))
 (.skip)))
 (.seq (.region [xm s044 s006,
 ⟨some s045, .bin .and (.t s044) (.c (.int .u8 7)), none⟩,
 ⟨some s046, .convInt .i64 (.t s045), none⟩,
 xm s010 s046])
 (.seq (.region [xm s047 s006,
 ⟨some s050, .bin .shr (.t s047) (.c (.int .u64 4)), none⟩,
 ⟨some s051, .gidx 2 16 5 (.t s050), none⟩,
 ⟨some s052, .load true 2 (.t s051), none⟩,
 ⟨some s011, .alloc 0 [.int .u8 0, .int .u8 0], none⟩,
 ⟨none, .store 2 (.t s011) (.t s052), none⟩])
 (.seq (.seq (.region [xm s053 s004,
 xm s054 s010,
 ⟨some s055, .bin .lss (.t s053) (.t s054), none⟩])
 (.cond (.t s055)
 (.seq (.region [⟨some s002, .move (.c (.int .i32 65533)), none⟩,
 ⟨some s003, .move (.c (.int .i64 1)), none⟩])
 (.ret))
 (.skip)))
 (.seq (.region [xm s056 s000,
 ⟨some s057, .strAt (.t s056) (.c (.int .i64 1)), none⟩,
 xm s012 s057])
 (.seq (.seq (.region [xm s060 s012,
 xf 0 s061 s011,
 xl s062 s061,
 ⟨some s063, .bin .lss (.t s060) (.t s062), none⟩,
 xm s064 s063,
 ⟨some s065, .fieldAddr 1 (.t s011), some (s064, false)⟩,
 ⟨some s066, .load false 1 (.t s065), some (s064, false)⟩,
 ⟨some s067, .move (.t s012), some (s064, false)⟩,
 ⟨some s070, .bin .lss (.t s066) (.t s067), some (s064, false)⟩,
 ⟨some s071, .pick (.t s064) (.c (.bool true)) (.t s070), none⟩])
 (.cond (.t s071)
 (.seq (.region [⟨some s002, .move (.c (.int .i32 65533)), none⟩,
 ⟨some s003, .move (.c (.int .i64 1)), none⟩])
 (.ret))
 (.skip)))
 (.seq (.seq (.region [xm s072 s010,
 ⟨some s073, .bin .leq (.t s072) (.c (.int .i64 2)), none⟩])
 (.cond (.t s073)
 (.seq (.region [xm s074 s005,
 ⟨some s075, .bin .and (.t s074) (.c (.int .u8 31)), none⟩,
 ⟨some s076, .convInt .i32 (.t s075), none⟩,
 ⟨some s077, .bin .shl (.t s076) (.c (.int .u64 6)), none⟩,
 xm s100 s012,
 ⟨some s101, .bin .and (.t s100) (.c (.int .u8 63)), none⟩,
 ⟨some s102, .convInt .i32 (.t s101), none⟩,
 ⟨some s103, .bin .or (.t s077) (.t s102), none⟩,
 xm s002 s103,
 ⟨some s003, .move (.c (.int .i64 2)), none⟩])
 (.ret))
 (.skip)))
 (.seq (.region [xm s104 s000,
 ⟨some s105, .strAt (.t s104) (.c (.int .i64 2)), none⟩,
 xm s013 s105])
 (.seq (.seq (.region [xm s106 s013,
 ⟨some s107, .bin .lss (.t s106) (.c (.int .u8 128)), none⟩,
 xm s110 s107,
 ⟨some s111, .move (.t s013), some (s110, false)⟩,
 ⟨some s112, .bin .lss (.c (.int .u8 191)) (.t s111), some (s110, false)⟩,
 ⟨some s113, .pick (.t s110) (.c (.bool true)) (.t s112), none⟩])
 (.cond (.t s113)
 (.seq (.region [⟨some s002, .move (.c (.int .i32 65533)), none⟩,
 ⟨some s003, .move (.c (.int .i64 1)), none⟩])
 (.ret))
 (.skip)))
 (.seq (.seq (.region [xm s114 s010,
 ⟨some s115, .bin .leq (.t s114) (.c (.int .i64 3)), none⟩])
 (.cond (.t s115)
 (.seq (.region [xm s116 s005,
 ⟨some s117, .bin .and (.t s116) (.c (.int .u8 15)), none⟩,
 ⟨some s120, .convInt .i32 (.t s117), none⟩,
 ⟨some s121, .bin .shl (.t s120) (.c (.int .u64 12)), none⟩,
 xm s122 s012,
 ⟨some s123, .bin .and (.t s122) (.c (.int .u8 63)), none⟩,
 ⟨some s124, .convInt .i32 (.t s123), none⟩,
 ⟨some s125, .bin .shl (.t s124) (.c (.int .u64 6)), none⟩,
 ⟨some s126, .bin .or (.t s121) (.t s125), none⟩,
 xm s127 s013,
 ⟨some s130, .bin .and (.t s127) (.c (.int .u8 63)), none⟩,
 ⟨some s131, .convInt .i32 (.t s130), none⟩,
 ⟨some s132, .bin .or (.t s126) (.t s131), none⟩,
 xm s002 s132,
 ⟨some s003, .move (.c (.int .i64 3)), none⟩])
 (.ret))
 (.skip)))
 (.seq (.region [xm s133 s000,
 ⟨some s134, .strAt (.t s133) (.c (.int .i64 3)), none⟩,
 xm s014 s134])
 (.seq (.seq (.region [xm s135 s014,
 ⟨some s136, .bin .lss (.t s135) (.c (.int .u8 128)), none⟩,
 xm s137 s136,
 ⟨some s140, .move (.t s014), some (s137, false)⟩,
 ⟨some s141, .bin .lss (.c (.int .u8 191)) (.t s140), some (s137, false)⟩,
 ⟨some s142, .pick (.t s137) (.c (.bool true)) (.t s141), none⟩])
 (.cond (.t s142)
 (.seq (.region [⟨some s002, .move (.c (.int .i32 65533)), none⟩,
 ⟨some s003, .move (.c (.int .i64 1)), none⟩])
 (.ret))
 (.skip)))
 (.seq (.region [xm s143 s005,
 ⟨some s144, .bin .and (.t s143) (.c (.int .u8 7)), none⟩,
 ⟨some s145, .convInt .i32 (.t s144), none⟩,
 ⟨some s146, .bin .shl (.t s145) (.c (.int .u64 18)), none⟩,
 xm s147 s012,
 ⟨some s150, .bin .and (.t s147) (.c (.int .u8 63)), none⟩,
 ⟨some s151, .convInt .i32 (.t s150), none⟩,
 ⟨some s152, .bin .shl (.t s151) (.c (.int .u64 12)), none⟩,
 ⟨some s153, .bin .or (.t s146) (.t s152), none⟩,
 xm s154 s013,
 ⟨some s155, .bin .and (.t s154) (.c (.int .u8 63)), none⟩,
 ⟨some s156, .convInt .i32 (.t s155), none⟩,
 ⟨some s157, .bin .shl (.t s156) (.c (.int .u64 6)), none⟩,
 ⟨some s160, .bin .or (.t s153) (.t s157), none⟩,
 xm s161 s014,
 ⟨some s162, .bin .and (.t s161) (.c (.int .u8 63)), none⟩,
 ⟨some s163, .convInt .i32 (.t s162), none⟩,
 ⟨some s164, .bin .or (.t s160) (.t s163), none⟩,
 xm s002 s164,
 ⟨some s003, .move (.c (.int .i64 4)), none⟩])
 (.ret))))))))))))))))))
def r_utf8_decodeRuneInStringSlow : List XR := [.tmp s002, .tmp s003]
theorem ok_utf8_decodeRuneInStringSlow : okC Tryd.prog Tryd.f68.ntmps (bodyOf Tryd.f68) x_utf8_decodeRuneInStringSlow = true := by kernel_rfl
theorem okr_utf8_decodeRuneInStringSlow : okRs Tryd.prog Tryd.f68.results.toList r_utf8_decodeRuneInStringSlow = true := by kernel_rfl

/-- stringslite.IndexByte -/
def x_stringslite_IndexByte : XC :=
 .seq (.region [⟨some s004, .move (.c (.int .i64 0)), none⟩])
 (.seq (.region [xm s005 s000,
 xm s006 s001,
 ⟨some s007, .ext 0 [(.t s005), (.t s006)], none⟩,
 xm s004 s007])
 (.ret))
def r_stringslite_IndexByte : List XR := [.tmp s004]
theorem ok_stringslite_IndexByte : okC Tryd.prog Tryd.f69.ntmps (bodyOf Tryd.f69) x_stringslite_IndexByte = true := by kernel_rfl
theorem okr_stringslite_IndexByte : okRs Tryd.prog Tryd.f69.results.toList r_stringslite_IndexByte = true := by kernel_rfl

/-- bytealg.Cutover -/
def x_bytealg_Cutover : XC :=
 .seq (.region [⟨some s002, .move (.c (.int .i64 0)), none⟩])
 (.seq (.region [xm s003 s000,
 ⟨some s004, .bin .add (.t s003) (.c (.int .i64 16)), none⟩,
 ⟨some s005, .bin .quo (.t s004) (.c (.int .i64 8)), none⟩,
 xm s002 s005])
 (.ret))
def r_bytealg_Cutover : List XR := [.tmp s002]
theorem ok_bytealg_Cutover : okC Tryd.prog Tryd.f71.ntmps (bodyOf Tryd.f71) x_bytealg_Cutover = true := by kernel_rfl
theorem okr_bytealg_Cutover : okRs Tryd.prog Tryd.f71.results.toList r_bytealg_Cutover = true := by kernel_rfl

/-- bytealg.IndexRabinKarp -/
def x_bytealg_IndexRabinKarp_string : XC :=
 .seq (.region [⟨some s004, .move (.c (.int .i64 0)), none⟩])
 (.seq (.region [xm s014 s001,
 ⟨some s015, .call 79 [(.t s014)], none⟩,
 xm s013 s015,
 ⟨some s016, .extract 0 (.t s013), none⟩,
 ⟨some s017, .extract 1 (.t s013), none⟩,
 xm s005 s016,
 xm s006 s017])
 (.seq (.region [xm s020 s001,
 ⟨some s021, .slen (.t s020), none⟩,
 xm s007 s021])
 (.seq (.region [⟨some s010, .move (.c (.int .u32 0)), none⟩])
 (.seq (.seq (.region [⟨some s011, .move (.c (.int .i64 0)), none⟩])
 (.block 0
 (.loop
 (.seq (.seq (.region [xm s022 s011,
 xm s023 s007,
 ⟨some s024, .bin .lss (.t s022) (.t s023), none⟩])
 (.cond (.t s024)
 (.skip)
 (.exit 0)))
 (.seq (.block 1
 (.region [xm s027 s010,
 ⟨some s030, .bin .mul (.t s027) (.c (.int .u32 16777619)), none⟩,
 xm s031 s000,
 xm s032 s011,
 ⟨some s033, .strAt (.t s031) (.t s032), none⟩,
 ⟨some s034, .convInt .u32 (.t s033), none⟩,
 ⟨some s035, .bin .add (.t s030) (.t s034), none⟩,
 xm s010 s035]))
 (.region [xm s025 s011,
 ⟨some s026, .bin .add (.t s025) (.c (.int .i64 1)), none⟩,
 xm s011 s026]))))))
 (.seq (.seq (.region [xm s036 s010,
 xm s037 s005,
 ⟨some s040, .bin .eql (.t s036) (.t s037), none⟩,
 xm s041 s040,
 ⟨some s042, .move (.t s000), some (s041, true)⟩,
 ⟨some s043, .move (.t s007), some (s041, true)⟩,
 ⟨some s044, .substr (.t s042) none (some (.t s043)), some (s041, true)⟩,
 ⟨some s045, .move (.t s001), some (s041, true)⟩,
 ⟨some s046, .sbin .eql (.t s044) (.t s045), some (s041, true)⟩,
 ⟨some s047, .pick (.t s041) (.t s046) (.c (.bool false)), none⟩])
 (.cond (.t s047)
 (.seq (.region [⟨some s004, .move (.c (.int .i64 0)), none⟩])
 (.ret))
 (.skip)))
 (.seq (.seq (.region [xm s050 s007,
 xm s012 s050])
 (.block 2
 (.loop
 (.seq (.seq (.region [xm s051 s012,
 xm s052 s000,
 ⟨some s053, .slen (.t s052), none⟩,
 ⟨some s054, .bin .lss (.t s051) (.t s053), none⟩])
 (.cond (.t s054)
 (.skip)
 (.exit 2)))
 (.block 3
 (.seq (.region [xm s055 s010,
 ⟨some s056, .bin .mul (.t s055) (.c (.int .u32 16777619)), none⟩,
 xm s010 s056])
 (.seq (.region [xm s057 s010,
 xm s060 s000,
 xm s061 s012,
 ⟨some s062, .strAt (.t s060) (.t s061), none⟩,
 ⟨some s063, .convInt .u32 (.t s062), none⟩,
 ⟨some s064, .bin .add (.t s057) (.t s063), none⟩,
 xm s010 s064])
 (.seq (.region [xm s065 s010,
 xm s066 s006,
 xm s067 s000,
 xm s070 s012,
 xm s071 s007,
 ⟨some s072, .bin .sub (.t s070) (.t s071), none⟩,
 ⟨some s073, .strAt (.t s067) (.t s072), none⟩,
 ⟨some s074, .convInt .u32 (.t s073), none⟩,
 ⟨some s075, .bin .mul (.t s066) (.t s074), none⟩,
 ⟨some s076, .bin .sub (.t s065) (.t s075), none⟩,
 xm s010 s076])
 (.seq (.region [xm s077 s012,
 ⟨some s100, .bin .add (.t s077) (.c (.int .i64 1)), none⟩,
 xm s012 s100])
 (.seq (.region [xm s101 s010,
 xm s102 s005,
 ⟨some s103, .bin .eql (.t s101) (.t s102), none⟩,
 xm s104 s103,
 ⟨some s105, .move (.t s000), some (s104, true)⟩,
 ⟨some s106, .move (.t s012), some (s104, true)⟩,
 ⟨some s107, .move (.t s007), some (s104, true)⟩,
 ⟨some s110, .bin .sub (.t s106) (.t s107), some (s104, true)⟩,
 ⟨some s111, .move (.t s012), some (s104, true)⟩,
 ⟨some s112, .substr (.t s105) (some (.t s110)) (some (.t s111)), some (s104, true)⟩,
 ⟨some s113, .move (.t s001), some (s104, true)⟩,
 ⟨some s114, .sbin .eql (.t s112) (.t s113), some (s104, true)⟩,
 ⟨some s115, .pick (.t s104) (.t s114) (.c (.bool false)), none⟩])
 (.cond (.t s115)
 (.seq (.region [xm s116 s012,
 xm s117 s007,
 ⟨some s120, .bin .sub (.t s116) (.t s117), none⟩,
 xm s004 s120])
 (.ret))
 (.skip))))))))))))
 (.seq (.region [⟨some s004, .move (.c (.int .i64 (-1))), none⟩])
 (.ret))))))))
def r_bytealg_IndexRabinKarp_string : List XR := [.tmp s004]
theorem ok_bytealg_IndexRabinKarp_string : okC Tryd.prog Tryd.f72.ntmps (bodyOf Tryd.f72) x_bytealg_IndexRabinKarp_string = true := by kernel_rfl
theorem okr_bytealg_IndexRabinKarp_string : okRs Tryd.prog Tryd.f72.results.toList r_bytealg_IndexRabinKarp_string = true := by kernel_rfl

/-- strconv.log10Pow2 -/
def x_strconv_log10Pow2 : XC :=
 .seq (.region [⟨some s002, .move (.c (.int .i64 0)), none⟩])
 (.seq (.region [xm s003 s000,
 ⟨some s004, .bin .mul (.t s003) (.c (.int .i64 78913)), none⟩,
 ⟨some s005, .bin .shr (.t s004) (.c (.int .u64 18)), none⟩,
 xm s002 s005])
 (.ret))
def r_strconv_log10Pow2 : List XR := [.tmp s002]
theorem ok_strconv_log10Pow2 : okC Tryd.prog Tryd.f73.ntmps (bodyOf Tryd.f73) x_strconv_log10Pow2 = true := by kernel_rfl
theorem okr_strconv_log10Pow2 : okRs Tryd.prog Tryd.f73.results.toList r_strconv_log10Pow2 = true := by kernel_rfl

/-- bits.Len64 -/
def x_bits_Len64 : XC :=
 .seq (.region [⟨some s002, .move (.c (.int .i64 0)), none⟩])
 (.seq (.seq (.region [xm s003 s000,
 ⟨some s004, .bin .geq (.t s003) (.c (.int .u64 4294967296)), none⟩])
 (.cond (.t s004)
 (.seq (.region [xm s005 s000,
 ⟨some s006, .bin .shr (.t s005) (.c (.int .u64 32)), none⟩,
 xm s000 s006])
 (.region [⟨some s002, .move (.c (.int .i64 32)), none⟩]))
 (.skip)))
 (.seq (.seq (.region [xm s007 s000,
 ⟨some s010, .bin .geq (.t s007) (.c (.int .u64 65536)), none⟩])
 (.cond (.t s010)
 (.seq (.region [xm s011 s000,
 ⟨some s012, .bin .shr (.t s011) (.c (.int .u64 16)), none⟩,
 xm s000 s012])
 (.region [xm s013 s002,
 ⟨some s014, .bin .add (.t s013) (.c (.int .i64 16)), none⟩,
 xm s002 s014]))
 (.skip)))
 (.seq (.seq (.region [xm s015 s000,
 ⟨some s016, .bin .geq (.t s015) (.c (.int .u64 256)), none⟩])
 (.cond (.t s016)
 (.seq (.region [xm s017 s000,
 ⟨some s020, .bin .shr (.t s017) (.c (.int .u64 8)), none⟩,
 xm s000 s020])
 (.region [xm s021 s002,
 ⟨some s022, .bin .add (.t s021) (.c (.int .i64 8)), none⟩,
 xm s002 s022]))
 (.skip)))
 (.seq (.region [xm s023 s002,
 xm s024 s000,
 ⟨some s025, .convInt .u8 (.t s024), none⟩,
 ⟨some s026, .strAt (.c (.string { data := #[0, 1, 2, 2, 3, 3, 3, 3, 4, 4, 4, 4, 4, 4, 4, 4, 5, 5, 5, 5, 5, 5, 5, 5, 5, 5, 5, 5, 5, 5, 5, 5, 6, 6, 6, 6, 6, 6, 6, 6, 6, 6, 6, 6, 6, 6, 6, 6, 6, 6, 6, 6, 6, 6, 6, 6, 6, 6, 6, 6, 6, 6, 6, 6, 7, 7, 7, 7, 7, 7, 7, 7, 7, 7, 7, 7, 7, 7, 7, 7, 7, 7, 7, 7, 7, 7, 7, 7, 7, 7, 7, 7, 7, 7, 7, 7, 7, 7, 7, 7, 7, 7, 7, 7, 7, 7, 7, 7, 7, 7, 7, 7, 7, 7, 7, 7, 7, 7, 7, 7, 7, 7, 7, 7, 7, 7, 7, 7, 8, 8, 8, 8, 8, 8, 8, 8, 8, 8, 8, 8, 8, 8, 8, 8, 8, 8, 8, 8, 8, 8, 8, 8, 8, 8, 8, 8, 8, 8, 8, 8, 8, 8, 8, 8, 8, 8, 8, 8, 8, 8, 8, 8, 8, 8, 8, 8, 8, 8, 8, 8, 8, 8, 8, 8, 8, 8, 8, 8, 8, 8, 8, 8, 8, 8, 8, 8, 8, 8, 8, 8, 8, 8, 8, 8, 8, 8, 8, 8, 8, 8, 8, 8, 8, 8, 8, 8, 8, 8, 8, 8, 8, 8, 8, 8, 8, 8, 8, 8, 8, 8, 8, 8, 8, 8, 8, 8, 8, 8, 8, 8, 8, 8, 8, 8, 8, 8, 8, 8, 8, 8, 8, 8, 8, 8, 8, 8] })) (.t s025), none⟩,
 ⟨some s027, .convInt .i64 (.t s026), none⟩,
 ⟨some s030, .bin .add (.t s023) (.t s027), none⟩,
 xm s002 s030])
 (.ret)))))
def r_bits_Len64 : List XR := [.tmp s002]
theorem ok_bits_Len64 : okC Tryd.prog Tryd.f74.ntmps (bodyOf Tryd.f74) x_bits_Len64 = true := by kernel_rfl
theorem okr_bits_Len64 : okRs Tryd.prog Tryd.f74.results.toList r_bits_Len64 = true := by kernel_rfl

/-- strconv.bool2 -/
def x_strconv_bool2_int : XC :=
 .seq (.region [⟨some s002, .move (.c (.int .i64 0)), none⟩])
 (.seq (.seq (.region [xm s003 s000])
 (.cond (.t s003)
 (.seq (.region [⟨some s002, .move (.c (.int .i64 1)), none⟩])
 (.ret))
 (.skip)))
 (.seq (.region [⟨some s002, .move (.c (.int .i64 0)), none⟩])
 (.ret)))
def r_strconv_bool2_int : List XR := [.tmp s002]
theorem ok_strconv_bool2_int : okC Tryd.prog Tryd.f75.ntmps (bodyOf Tryd.f75) x_strconv_bool2_int = true := by kernel_rfl
theorem okr_strconv_bool2_int : okRs Tryd.prog Tryd.f75.results.toList r_strconv_bool2_int = true := by kernel_rfl

/-- strconv.isPowerOfTwo -/
def x_strconv_isPowerOfTwo : XC :=
 .seq (.region [⟨some s002, .move (.c (.bool false)), none⟩])
 (.seq (.region [xm s003 s000,
 xm s004 s000,
 ⟨some s005, .bin .sub (.t s004) (.c (.int .i64 1)), none⟩,
 ⟨some s006, .bin .and (.t s003) (.t s005), none⟩,
 ⟨some s007, .bin .eql (.t s006) (.c (.int .i64 0)), none⟩,
 xm s002 s007])
 (.ret))
def r_strconv_isPowerOfTwo : List XR := [.tmp s002]
theorem ok_strconv_isPowerOfTwo : okC Tryd.prog Tryd.f76.ntmps (bodyOf Tryd.f76) x_strconv_isPowerOfTwo = true := by kernel_rfl
theorem okr_strconv_isPowerOfTwo : okRs Tryd.prog Tryd.f76.results.toList r_strconv_isPowerOfTwo = true := by kernel_rfl

/-- bits.TrailingZeros -/
def x_bits_TrailingZeros : XC :=
 .seq (.region [⟨some s002, .move (.c (.int .i64 0)), none⟩])
 (.seq (.cond (.c (.bool false))
 (.seq (.region [xm s003 s000,
 ⟨some s004, .convInt .u32 (.t s003), none⟩,
 ⟨some s005, .call 80 [(.t s004)], none⟩,
 xm s002 s005])
 (.ret))
 (.skip))
 (.seq (.region [xm s006 s000,
 ⟨some s007, .call 81 [(.t s006)], none⟩,
 xm s002 s007])
 (.ret)))
def r_bits_TrailingZeros : List XR := [.tmp s002]
theorem ok_bits_TrailingZeros : okC Tryd.prog Tryd.f77.ntmps (bodyOf Tryd.f77) x_bits_TrailingZeros = true := by kernel_rfl
theorem okr_bits_TrailingZeros : okRs Tryd.prog Tryd.f77.results.toList r_bits_TrailingZeros = true := by kernel_rfl

/-- bytealg.hashStr -/
def x_bytealg_hashStr_string : XC :=
 .seq (.region [⟨some s002, .move (.c (.int .u32 0)), none⟩,
 ⟨some s003, .move (.c (.int .u32 0)), none⟩])
 (.seq (.region [⟨some s004, .move (.c (.int .u32 0)), none⟩])
 (.seq (.seq (.region [⟨some s005, .move (.c (.int .i64 0)), none⟩])
 (.block 0
 (.loop
 (.seq (.seq (.region [xm s011 s005,
 xm s012 s000,
 ⟨some s013, .slen (.t s012), none⟩,
 ⟨some s014, .bin .lss (.t s011) (.t s013), none⟩])
 (.cond (.t s014)
 (.skip)
 (.exit 0)))
 (.seq (.block 1
 (.region [xm s017 s004,
 ⟨some s020, .bin .mul (.t s017) (.c (.int .u32 16777619)), none⟩,
 xm s021 s000,
 xm s022 s005,
 ⟨some s023, .strAt (.t s021) (.t s022), none⟩,
 ⟨some s024, .convInt .u32 (.t s023), none⟩,
 ⟨some s025, .bin .add (.t s020) (.t s024), none⟩,
 xm s004 s025]))
 (.region [xm s015 s005,
 ⟨some s016, .bin .add (.t s015) (.c (.int .i64 1)), none⟩,
 xm s005 s016]))))))
 (.seq (.region [⟨some s006, .move (.c (.int .u32 1)), none⟩,
 ⟨some s007, .move (.c (.int .u32 16777619)), none⟩])
 (.seq (.seq (.region [xm s026 s000,
 ⟨some s027, .slen (.t s026), none⟩,
 xm s010 s027])
 (.block 2
 (.loop
 (.seq (.seq (.region [xm s030 s010,
 ⟨some s031, .bin .gtr (.t s030) (.c (.int .i64 0)), none⟩])
 (.cond (.t s031)
 (.skip)
 (.exit 2)))
 (.seq (.block 3
 (.seq (.seq (.region [xm s034 s010,
 ⟨some s035, .bin .and (.t s034) (.c (.int .i64 1)), none⟩,
 ⟨some s036, .bin .neq (.t s035) (.c (.int .i64 0)), none⟩])
 (.cond (.t s036)
 (.region [xm s037 s006,
 xm s040 s007,
 ⟨some s041, .bin .mul (.t s037) (.t s040), none⟩,
 xm s006 s041])
 (.skip)))
 (.region [xm s042 s007,
 xm s043 s007,
 ⟨some s044, .bin .mul (.t s042) (.t s043), none⟩,
 xm s007 s044])))
 (.region [xm s032 s010,
 ⟨some s033, .bin .shr (.t s032) (.c (.int .u64 1)), none⟩,
 xm s010 s033]))))))
 (.seq (.region [xm s045 s004,
 xm s046 s006,
 xm s002 s045,
 xm s003 s046])
 (.ret))))))
def r_bytealg_hashStr_string : List XR := [.tmp s002, .tmp s003]
theorem ok_bytealg_hashStr_string : okC Tryd.prog Tryd.f79.ntmps (bodyOf Tryd.f79) x_bytealg_hashStr_string = true := by kernel_rfl
theorem okr_bytealg_hashStr_string : okRs Tryd.prog Tryd.f79.results.toList r_bytealg_hashStr_string = true := by kernel_rfl

/-- bits.TrailingZeros32 -/
def x_bits_TrailingZeros32 : XC :=
 .seq (.region [⟨some s002, .move (.c (.int .i64 0)), none⟩])
 (.seq (.seq (.region [xm s003 s000,
 ⟨some s004, .bin .eql (.t s003) (.c (.int .u32 0)), none⟩])
 (.cond (.t s004)
 (.seq (.region [⟨some s002, .move (.c (.int .i64 32)), none⟩])
 (.ret))
 (.skip)))
 (.seq (.region [xm s005 s000,
 xm s006 s000,
 ⟨some s007, .un .neg (.t s006), none⟩,
 ⟨some s010, .bin .and (.t s005) (.t s007), none⟩,
 ⟨some s011, .bin .mul (.t s010) (.c (.int .u32 125613361)), none⟩,
 ⟨some s012, .bin .shr (.t s011) (.c (.int .u64 27)), none⟩,
 ⟨some s013, .gidx 1 32 6 (.t s012), none⟩,
 xl s014 s013,
 ⟨some s015, .convInt .i64 (.t s014), none⟩,
 xm s002 s015])
 (.ret)))
def r_bits_TrailingZeros32 : List XR := [.tmp s002]
theorem ok_bits_TrailingZeros32 : okC Tryd.prog Tryd.f80.ntmps (bodyOf Tryd.f80) x_bits_TrailingZeros32 = true := by kernel_rfl
theorem okr_bits_TrailingZeros32 : okRs Tryd.prog Tryd.f80.results.toList r_bits_TrailingZeros32 = true := by kernel_rfl

/-- bits.TrailingZeros64 -/
def x_bits_TrailingZeros64 : XC :=
 .seq (.region [⟨some s002, .move (.c (.int .i64 0)), none⟩])
 (.seq (.seq (.region [xm s003 s000,
 ⟨some s004, .bin .eql (.t s003) (.c (.int .u64 0)), none⟩])
 (.cond (.t s004)
 (.seq (.region [⟨some s002, .move (.c (.int .i64 64)), none⟩])
 (.ret))
 (.skip)))
 (.seq (.region [xm s005 s000,
 xm s006 s000,
 ⟨some s007, .un .neg (.t s006), none⟩,
 ⟨some s010, .bin .and (.t s005) (.t s007), none⟩,
 ⟨some s011, .bin .mul (.t s010) (.c (.int .u64 285870213051353865)), none⟩,
 ⟨some s012, .bin .shr (.t s011) (.c (.int .u64 58)), none⟩,
 ⟨some s013, .gidx 1 64 7 (.t s012), none⟩,
 xl s014 s013,
 ⟨some s015, .convInt .i64 (.t s014), none⟩,
 xm s002 s015])
 (.ret)))
def r_bits_TrailingZeros64 : List XR := [.tmp s002]
theorem ok_bits_TrailingZeros64 : okC Tryd.prog Tryd.f81.ntmps (bodyOf Tryd.f81) x_bits_TrailingZeros64 = true := by kernel_rfl
theorem okr_bits_TrailingZeros64 : okRs Tryd.prog Tryd.f81.results.toList r_bits_TrailingZeros64 = true := by kernel_rfl
end Go.Proofs.YthfalbbghajimaaDoor
