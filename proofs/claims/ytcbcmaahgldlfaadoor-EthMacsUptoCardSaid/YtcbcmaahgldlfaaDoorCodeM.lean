/-
  The functions of the program in short form, and that the model's code is what they stand for. Printed by xgen.py.
-/
import Derived.Test.YtcbcmaahgldlfaaDoorFw
import Derived.Test.YtcbcmaahgldlfaaDoorProg
import Derived.KernelRfl
namespace Go.Proofs.YtcbcmaahgldlfaaDoor
set_option linter.unusedVariables false
set_option maxRecDepth 100000

abbrev xm (a b : Sl) : XOp := ⟨some a, .move (.t b), none⟩
abbrev xl (a b : Sl) : XOp := ⟨some a, .load false 1 (.t b), none⟩
abbrev xf (n : Nat) (a b : Sl) : XOp := ⟨some a, .fieldAddr n (.t b), none⟩
/-! The slots by name. -/
abbrev s000 : Sl := ⟨.d0, .d0, .d0⟩
abbrev s001 : Sl := ⟨.d0, .d0, .d1⟩
abbrev s002 : Sl := ⟨.d0, .d0, .d2⟩
abbrev s003 : Sl := ⟨.d0, .d0, .d3⟩
abbrev s004 : Sl := ⟨.d0, .d0, .d4⟩
abbrev s005 : Sl := ⟨.d0, .d0, .d5⟩
abbrev s006 : Sl := ⟨.d0, .d0, .d6⟩
abbrev s007 : Sl := ⟨.d0, .d0, .d7⟩
abbrev s010 : Sl := ⟨.d0, .d1, .d0⟩
abbrev s011 : Sl := ⟨.d0, .d1, .d1⟩
abbrev s012 : Sl := ⟨.d0, .d1, .d2⟩
abbrev s013 : Sl := ⟨.d0, .d1, .d3⟩
abbrev s014 : Sl := ⟨.d0, .d1, .d4⟩
abbrev s015 : Sl := ⟨.d0, .d1, .d5⟩
abbrev s016 : Sl := ⟨.d0, .d1, .d6⟩
abbrev s017 : Sl := ⟨.d0, .d1, .d7⟩
abbrev s020 : Sl := ⟨.d0, .d2, .d0⟩
abbrev s021 : Sl := ⟨.d0, .d2, .d1⟩
abbrev s022 : Sl := ⟨.d0, .d2, .d2⟩
abbrev s023 : Sl := ⟨.d0, .d2, .d3⟩
abbrev s024 : Sl := ⟨.d0, .d2, .d4⟩
abbrev s025 : Sl := ⟨.d0, .d2, .d5⟩
abbrev s026 : Sl := ⟨.d0, .d2, .d6⟩
abbrev s027 : Sl := ⟨.d0, .d2, .d7⟩
abbrev s030 : Sl := ⟨.d0, .d3, .d0⟩
abbrev s031 : Sl := ⟨.d0, .d3, .d1⟩
abbrev s032 : Sl := ⟨.d0, .d3, .d2⟩
abbrev s033 : Sl := ⟨.d0, .d3, .d3⟩
abbrev s034 : Sl := ⟨.d0, .d3, .d4⟩
abbrev s035 : Sl := ⟨.d0, .d3, .d5⟩
abbrev s036 : Sl := ⟨.d0, .d3, .d6⟩
abbrev s037 : Sl := ⟨.d0, .d3, .d7⟩
abbrev s040 : Sl := ⟨.d0, .d4, .d0⟩
abbrev s041 : Sl := ⟨.d0, .d4, .d1⟩
abbrev s042 : Sl := ⟨.d0, .d4, .d2⟩
abbrev s043 : Sl := ⟨.d0, .d4, .d3⟩
abbrev s044 : Sl := ⟨.d0, .d4, .d4⟩
abbrev s045 : Sl := ⟨.d0, .d4, .d5⟩
abbrev s046 : Sl := ⟨.d0, .d4, .d6⟩
abbrev s047 : Sl := ⟨.d0, .d4, .d7⟩
abbrev s050 : Sl := ⟨.d0, .d5, .d0⟩
abbrev s051 : Sl := ⟨.d0, .d5, .d1⟩
abbrev s052 : Sl := ⟨.d0, .d5, .d2⟩
abbrev s053 : Sl := ⟨.d0, .d5, .d3⟩
abbrev s054 : Sl := ⟨.d0, .d5, .d4⟩
abbrev s055 : Sl := ⟨.d0, .d5, .d5⟩
abbrev s056 : Sl := ⟨.d0, .d5, .d6⟩
abbrev s057 : Sl := ⟨.d0, .d5, .d7⟩
abbrev s060 : Sl := ⟨.d0, .d6, .d0⟩
abbrev s061 : Sl := ⟨.d0, .d6, .d1⟩
abbrev s062 : Sl := ⟨.d0, .d6, .d2⟩
abbrev s063 : Sl := ⟨.d0, .d6, .d3⟩
abbrev s064 : Sl := ⟨.d0, .d6, .d4⟩
abbrev s065 : Sl := ⟨.d0, .d6, .d5⟩
abbrev s066 : Sl := ⟨.d0, .d6, .d6⟩
abbrev s067 : Sl := ⟨.d0, .d6, .d7⟩
abbrev s070 : Sl := ⟨.d0, .d7, .d0⟩
abbrev s071 : Sl := ⟨.d0, .d7, .d1⟩
abbrev s072 : Sl := ⟨.d0, .d7, .d2⟩
abbrev s073 : Sl := ⟨.d0, .d7, .d3⟩
abbrev s074 : Sl := ⟨.d0, .d7, .d4⟩
abbrev s075 : Sl := ⟨.d0, .d7, .d5⟩
abbrev s076 : Sl := ⟨.d0, .d7, .d6⟩
abbrev s077 : Sl := ⟨.d0, .d7, .d7⟩
abbrev s100 : Sl := ⟨.d1, .d0, .d0⟩
abbrev s101 : Sl := ⟨.d1, .d0, .d1⟩
abbrev s102 : Sl := ⟨.d1, .d0, .d2⟩
abbrev s103 : Sl := ⟨.d1, .d0, .d3⟩
abbrev s104 : Sl := ⟨.d1, .d0, .d4⟩
abbrev s105 : Sl := ⟨.d1, .d0, .d5⟩
abbrev s106 : Sl := ⟨.d1, .d0, .d6⟩
abbrev s107 : Sl := ⟨.d1, .d0, .d7⟩
abbrev s110 : Sl := ⟨.d1, .d1, .d0⟩
abbrev s111 : Sl := ⟨.d1, .d1, .d1⟩
abbrev s112 : Sl := ⟨.d1, .d1, .d2⟩
abbrev s113 : Sl := ⟨.d1, .d1, .d3⟩
abbrev s114 : Sl := ⟨.d1, .d1, .d4⟩
abbrev s115 : Sl := ⟨.d1, .d1, .d5⟩
abbrev s116 : Sl := ⟨.d1, .d1, .d6⟩
abbrev s117 : Sl := ⟨.d1, .d1, .d7⟩
abbrev s120 : Sl := ⟨.d1, .d2, .d0⟩
abbrev s121 : Sl := ⟨.d1, .d2, .d1⟩
abbrev s122 : Sl := ⟨.d1, .d2, .d2⟩
abbrev s123 : Sl := ⟨.d1, .d2, .d3⟩
abbrev s124 : Sl := ⟨.d1, .d2, .d4⟩
abbrev s125 : Sl := ⟨.d1, .d2, .d5⟩
abbrev s126 : Sl := ⟨.d1, .d2, .d6⟩
abbrev s127 : Sl := ⟨.d1, .d2, .d7⟩
abbrev s130 : Sl := ⟨.d1, .d3, .d0⟩
abbrev s131 : Sl := ⟨.d1, .d3, .d1⟩
abbrev s132 : Sl := ⟨.d1, .d3, .d2⟩
abbrev s133 : Sl := ⟨.d1, .d3, .d3⟩
abbrev s134 : Sl := ⟨.d1, .d3, .d4⟩
abbrev s135 : Sl := ⟨.d1, .d3, .d5⟩
abbrev s136 : Sl := ⟨.d1, .d3, .d6⟩
abbrev s137 : Sl := ⟨.d1, .d3, .d7⟩
abbrev s140 : Sl := ⟨.d1, .d4, .d0⟩
abbrev s141 : Sl := ⟨.d1, .d4, .d1⟩
abbrev s142 : Sl := ⟨.d1, .d4, .d2⟩
abbrev s143 : Sl := ⟨.d1, .d4, .d3⟩
abbrev s144 : Sl := ⟨.d1, .d4, .d4⟩
abbrev s145 : Sl := ⟨.d1, .d4, .d5⟩
abbrev s146 : Sl := ⟨.d1, .d4, .d6⟩
abbrev s147 : Sl := ⟨.d1, .d4, .d7⟩
abbrev s150 : Sl := ⟨.d1, .d5, .d0⟩
abbrev s151 : Sl := ⟨.d1, .d5, .d1⟩
abbrev s152 : Sl := ⟨.d1, .d5, .d2⟩
abbrev s153 : Sl := ⟨.d1, .d5, .d3⟩
abbrev s154 : Sl := ⟨.d1, .d5, .d4⟩
abbrev s155 : Sl := ⟨.d1, .d5, .d5⟩
abbrev s156 : Sl := ⟨.d1, .d5, .d6⟩
abbrev s157 : Sl := ⟨.d1, .d5, .d7⟩
abbrev s160 : Sl := ⟨.d1, .d6, .d0⟩
abbrev s161 : Sl := ⟨.d1, .d6, .d1⟩
abbrev s162 : Sl := ⟨.d1, .d6, .d2⟩
abbrev s163 : Sl := ⟨.d1, .d6, .d3⟩
abbrev s164 : Sl := ⟨.d1, .d6, .d4⟩
abbrev s165 : Sl := ⟨.d1, .d6, .d5⟩
abbrev s166 : Sl := ⟨.d1, .d6, .d6⟩
abbrev s167 : Sl := ⟨.d1, .d6, .d7⟩
abbrev s170 : Sl := ⟨.d1, .d7, .d0⟩
abbrev s171 : Sl := ⟨.d1, .d7, .d1⟩
abbrev s172 : Sl := ⟨.d1, .d7, .d2⟩
abbrev s173 : Sl := ⟨.d1, .d7, .d3⟩
abbrev s174 : Sl := ⟨.d1, .d7, .d4⟩
abbrev s175 : Sl := ⟨.d1, .d7, .d5⟩
abbrev s176 : Sl := ⟨.d1, .d7, .d6⟩
abbrev s177 : Sl := ⟨.d1, .d7, .d7⟩
abbrev s200 : Sl := ⟨.d2, .d0, .d0⟩
abbrev s201 : Sl := ⟨.d2, .d0, .d1⟩
abbrev s202 : Sl := ⟨.d2, .d0, .d2⟩
abbrev s203 : Sl := ⟨.d2, .d0, .d3⟩
abbrev s204 : Sl := ⟨.d2, .d0, .d4⟩
abbrev s205 : Sl := ⟨.d2, .d0, .d5⟩
abbrev s206 : Sl := ⟨.d2, .d0, .d6⟩
abbrev s207 : Sl := ⟨.d2, .d0, .d7⟩
abbrev s210 : Sl := ⟨.d2, .d1, .d0⟩
abbrev s211 : Sl := ⟨.d2, .d1, .d1⟩
abbrev s212 : Sl := ⟨.d2, .d1, .d2⟩
abbrev s213 : Sl := ⟨.d2, .d1, .d3⟩
abbrev s214 : Sl := ⟨.d2, .d1, .d4⟩
abbrev s215 : Sl := ⟨.d2, .d1, .d5⟩
abbrev s216 : Sl := ⟨.d2, .d1, .d6⟩
/-- The slots worked out. -/
theorem auC {p q : Prop} (h : q) (e : q → p := by intro hq; dsimp only [xm, xl, xf, s000, s001, s002, s003, s004, s005, s006, s007, s010, s011, s012, s013, s014, s015, s016, s017, s020, s021, s022, s023, s024, s025, s026, s027, s030, s031, s032, s033, s034, s035, s036, s037, s040, s041, s042, s043, s044, s045, s046, s047, s050, s051, s052, s053, s054, s055, s056, s057, s060, s061, s062, s063, s064, s065, s066, s067, s070, s071, s072, s073, s074, s075, s076, s077, s100, s101, s102, s103, s104, s105, s106, s107, s110, s111, s112, s113, s114, s115, s116, s117, s120, s121, s122, s123, s124, s125, s126, s127, s130, s131, s132, s133, s134, s135, s136, s137, s140, s141, s142, s143, s144, s145, s146, s147, s150, s151, s152, s153, s154, s155, s156, s157, s160, s161, s162, s163, s164, s165, s166, s167, s170, s171, s172, s173, s174, s175, s176, s177, s200, s201, s202, s203, s204, s205, s206, s207, s210, s211, s212, s213, s214, s215, s216]; exact hq) : p := e h
/-- custlaw.EthMacs -/
def x_custlaw_EthMacs : XC :=
 .seq (.region [⟨some s002, .box 0 6 (.t s000), none⟩,
 ⟨some s004, .move (.c (.bool false)), none⟩])
 (.seq (.region [xm s012 s001,
 ⟨some s013, .call 4 [(.t s012)], none⟩,
 xm s011 s013,
 ⟨some s014, .extract 0 (.t s011), none⟩,
 ⟨some s015, .extract 1 (.t s011), none⟩,
 ⟨some s005, .alloc 1 [.int .u8 0, .int .u8 0, .int .u8 0, .int .u8 0, .int .u8 0, .int .u8 0], none⟩,
 ⟨none, .store 6 (.t s005) (.t s014), none⟩,
 xm s006 s015])
 (.seq (.region [xm s017 s001,
 ⟨some s020, .call 5 [(.t s017)], none⟩,
 xm s016 s020,
 ⟨some s021, .extract 0 (.t s016), none⟩,
 ⟨some s022, .extract 1 (.t s016), none⟩,
 ⟨some s007, .alloc 2 [.int .u8 0, .int .u8 0, .int .u8 0, .int .u8 0, .int .u8 0, .int .u8 0], none⟩,
 ⟨none, .store 6 (.t s007) (.t s021), none⟩,
 xm s010 s022])
 (.seq (.regionD [0, 1, 0, 4, 12, 28, 63, 127, 255, 511, 255, 2047, 4095, 8191, 16383, 32767, 32767, 131071, 262143, 524287, 1048575, 1048575, 4194303, 8388607, 16777215] [⟨some s023, .load true 6 (.t s002), none⟩,
 ⟨some s024, .call 6 [(.t s023)], none⟩,
 ⟨some s025, .indexArr 1 6 (.t s002) (.c (.int .i64 0)), none⟩,
 xl s026 s025,
 ⟨some s027, .bin .rem (.t s026) (.c (.int .u8 2)), none⟩,
 ⟨some s030, .bin .eql (.t s027) (.c (.int .u8 1)), none⟩,
 ⟨some s031, .eqb false (.t s024) (.t s030), none⟩,
 xm s032 s031,
 ⟨some s033, .load true 6 (.t s002), some (s032, true)⟩,
 ⟨some s034, .call 7 [(.t s033)], some (s032, true)⟩,
 ⟨some s035, .load true 6 (.t s002), some (s032, true)⟩,
 ⟨some s036, .call 8 [(.t s035)], some (s032, true)⟩,
 ⟨some s037, .sbin .eql (.t s034) (.t s036), some (s032, true)⟩,
 ⟨some s040, .pick (.t s032) (.t s037) (.c (.bool false)), none⟩,
 xm s041 s040,
 ⟨some s042, .load true 6 (.t s005), some (s041, true)⟩,
 ⟨some s043, .load true 6 (.t s007), some (s041, true)⟩,
 ⟨some s044, .eqs false [0, 0, 0, 0, 0, 0] (.t s042) (.t s043), some (s041, true)⟩,
 ⟨some s045, .pick (.t s041) (.t s044) (.c (.bool false)), none⟩,
 xm s046 s045,
 ⟨some s047, .move (.t s006), some (s046, true)⟩,
 ⟨some s050, .move (.t s010), some (s046, true)⟩,
 ⟨some s051, .bin .eql (.t s047) (.t s050), some (s046, true)⟩,
 ⟨some s052, .pick (.t s046) (.t s051) (.c (.bool false)), none⟩,
 xm s004 s052])
 (.ret))))
def r_custlaw_EthMacs : List XR := [.tmp s004]
theorem ok_custlaw_EthMacs : okC Tryd.prog Tryd.f3.ntmps (bodyOf Tryd.f3) x_custlaw_EthMacs = true := by kernel_rfl
theorem okr_custlaw_EthMacs : okRs Tryd.prog Tryd.f3.results.toList r_custlaw_EthMacs = true := by kernel_rfl

/-- eth.Parse -/
def x_eth_Parse : XC :=
 .seq (.region [⟨some s002, .alloc 0 [.int .u8 0, .int .u8 0, .int .u8 0, .int .u8 0, .int .u8 0, .int .u8 0], none⟩,
 ⟨some s003, .move (.c (.int .i64 0)), none⟩])
 (.seq (.region [⟨some s004, .alloc 1 [.int .u8 0, .int .u8 0, .int .u8 0, .int .u8 0, .int .u8 0, .int .u8 0], none⟩])
 (.seq (.seq (.region [xm s012 s000,
 ⟨some s013, .slen (.t s012), none⟩,
 ⟨some s014, .bin .neq (.t s013) (.c (.int .i64 17)), none⟩])
 (.cond (.t s014)
 (.seq (.region [⟨some s015, .load true 6 (.t s004), none⟩,
 ⟨none, .store 6 (.t s002) (.t s015), none⟩,
 ⟨some s003, .move (.c (.int .i64 10)), none⟩])
 (.ret))
 (.skip)))
 (.seq (.seq (.region [⟨some s016, .move (.c (.int .i64 0)), none⟩])
 (.block 0
 (.loop
 (.seq (.region [⟨some s017, .bin .lss (.t s016) (.c (.int .i64 6)), none⟩])
 (.seq (.cond (.t s017)
 (.skip)
 (.exit 0))
 (.seq (.block 1
 (.seq (.region [xm s020 s016,
 xm s005 s020])
 (.seq (.region [xm s022 s000,
 xm s023 s005,
 ⟨some s024, .bin .mul (.c (.int .i64 3)) (.t s023), none⟩,
 ⟨some s025, .strAt (.t s022) (.t s024), none⟩,
 ⟨some s026, .call 9 [(.t s025)], none⟩,
 xm s021 s026,
 ⟨some s027, .extract 0 (.t s021), none⟩,
 ⟨some s030, .extract 1 (.t s021), none⟩,
 xm s006 s027,
 xm s007 s030])
 (.seq (.region [xm s032 s000,
 xm s033 s005,
 ⟨some s034, .bin .mul (.c (.int .i64 3)) (.t s033), none⟩,
 ⟨some s035, .bin .add (.t s034) (.c (.int .i64 1)), none⟩,
 ⟨some s036, .strAt (.t s032) (.t s035), none⟩,
 ⟨some s037, .call 9 [(.t s036)], none⟩,
 xm s031 s037,
 ⟨some s040, .extract 0 (.t s031), none⟩,
 ⟨some s041, .extract 1 (.t s031), none⟩,
 xm s010 s040,
 xm s011 s041])
 (.seq (.seq (.region [xm s042 s007,
 ⟨some s043, .un .not (.t s042), none⟩,
 xm s044 s043,
 ⟨some s045, .move (.t s011), some (s044, false)⟩,
 ⟨some s046, .un .not (.t s045), some (s044, false)⟩,
 ⟨some s047, .pick (.t s044) (.c (.bool true)) (.t s046), none⟩,
 xm s050 s047,
 ⟨some s051, .move (.t s005), some (s050, false)⟩,
 ⟨some s052, .bin .lss (.t s051) (.c (.int .i64 5)), some (s050, false)⟩,
 ⟨some s053, .move (.t s052), some (s050, false)⟩,
 ⟨some s054, .move (.t s000), some (s053, true)⟩,
 ⟨some s055, .move (.t s005), some (s053, true)⟩,
 ⟨some s056, .bin .mul (.c (.int .i64 3)) (.t s055), some (s053, true)⟩,
 ⟨some s057, .bin .add (.t s056) (.c (.int .i64 2)), some (s053, true)⟩,
 ⟨some s060, .strAt (.t s054) (.t s057), some (s053, true)⟩,
 ⟨some s061, .bin .neq (.t s060) (.c (.int .u8 58)), some (s053, true)⟩,
 ⟨some s062, .pick (.t s053) (.t s061) (.c (.bool false)), some (s050, false)⟩,
 ⟨some s063, .pick (.t s050) (.c (.bool true)) (.t s062), none⟩])
 (.cond (.t s063)
 (.seq (.region [⟨some s064, .build [.int .u8 0, .int .u8 0, .int .u8 0, .int .u8 0, .int .u8 0, .int .u8 0] [], none⟩,
 ⟨none, .store 6 (.t s002) (.t s064), none⟩,
 ⟨some s003, .move (.c (.int .i64 10)), none⟩])
 (.ret))
 (.skip)))
 (.region [xm s065 s005,
 xm s066 s006,
 ⟨some s067, .bin .shl (.t s066) (.c (.int .u64 4)), none⟩,
 xm s070 s010,
 ⟨some s071, .bin .or (.t s067) (.t s070), none⟩,
 ⟨some s072, .indexArr 1 6 (.t s004) (.t s065), none⟩,
 ⟨none, .store 1 (.t s072) (.t s071), none⟩]))))))
 (.region [⟨some s073, .bin .add (.t s016) (.c (.int .i64 1)), none⟩,
 xm s016 s073])))))))
 (.seq (.region [⟨some s074, .load true 6 (.t s004), none⟩,
 ⟨none, .store 6 (.t s002) (.t s074), none⟩,
 ⟨some s003, .move (.c (.int .i64 0)), none⟩])
 (.ret)))))
def r_eth_Parse : List XR := [.cell s002 true 6, .tmp s003]
theorem ok_eth_Parse : okC Tryd.prog Tryd.f4.ntmps (bodyOf Tryd.f4) x_eth_Parse = true := by kernel_rfl
theorem okr_eth_Parse : okRs Tryd.prog Tryd.f4.results.toList r_eth_Parse = true := by kernel_rfl

/-- custref.TextMac -/
def x_custref_TextMac : XC :=
 .seq (.region [⟨some s002, .alloc 0 [.int .u8 0, .int .u8 0, .int .u8 0, .int .u8 0, .int .u8 0, .int .u8 0], none⟩,
 ⟨some s003, .move (.c (.int .i64 0)), none⟩])
 (.seq (.region [⟨some s004, .alloc 1 [.int .u8 0, .int .u8 0, .int .u8 0, .int .u8 0, .int .u8 0, .int .u8 0], none⟩])
 (.seq (.region [xm s010 s000,
 ⟨some s011, .call 10 [(.t s010), (.c (.string { data := #[58] }))], none⟩,
 xm s005 s011])
 (.seq (.seq (.region [xm s012 s005,
 ⟨some s013, .len (.t s012), none⟩,
 ⟨some s014, .bin .neq (.t s013) (.c (.int .i64 6)), none⟩])
 (.cond (.t s014)
 (.seq (.region [⟨some s015, .load true 6 (.t s004), none⟩,
 ⟨none, .store 6 (.t s002) (.t s015), none⟩,
 ⟨some s003, .move (.c (.int .i64 10)), none⟩])
 (.ret))
 (.skip)))
 (.seq (.seq (.region [xm s016 s005,
 ⟨some s017, .len (.t s016), none⟩,
 ⟨some s020, .move (.c (.int .i64 0)), none⟩])
 (.block 0
 (.loop
 (.seq (.region [⟨some s021, .bin .lss (.t s020) (.t s017), none⟩])
 (.seq (.cond (.t s021)
 (.skip)
 (.exit 0))
 (.seq (.block 1
 (.seq (.region [xm s022 s020,
 ⟨some s023, .indexSl 1 (.t s016) (.t s020), none⟩,
 xl s024 s023,
 xm s006 s022,
 xm s007 s024])
 (.seq (.seq (.region [xm s025 s007,
 ⟨some s026, .slen (.t s025), none⟩,
 ⟨some s027, .bin .neq (.t s026) (.c (.int .i64 2)), none⟩,
 xm s030 s027,
 ⟨some s031, .move (.t s007), some (s030, false)⟩,
 ⟨some s032, .strAt (.t s031) (.c (.int .i64 0)), some (s030, false)⟩,
 ⟨some s033, .call 11 [(.c (.string { data := #[48, 49, 50, 51, 52, 53, 54, 55, 56, 57, 97, 98, 99, 100, 101, 102] })), (.t s032)], some (s030, false)⟩,
 ⟨some s034, .bin .lss (.t s033) (.c (.int .i64 0)), some (s030, false)⟩,
 ⟨some s035, .pick (.t s030) (.c (.bool true)) (.t s034), none⟩,
 xm s036 s035,
 ⟨some s037, .move (.t s007), some (s036, false)⟩,
 ⟨some s040, .strAt (.t s037) (.c (.int .i64 1)), some (s036, false)⟩,
 ⟨some s041, .call 11 [(.c (.string { data := #[48, 49, 50, 51, 52, 53, 54, 55, 56, 57, 97, 98, 99, 100, 101, 102] })), (.t s040)], some (s036, false)⟩,
 ⟨some s042, .bin .lss (.t s041) (.c (.int .i64 0)), some (s036, false)⟩,
 ⟨some s043, .pick (.t s036) (.c (.bool true)) (.t s042), none⟩])
 (.cond (.t s043)
 (.seq (.region [⟨some s044, .build [.int .u8 0, .int .u8 0, .int .u8 0, .int .u8 0, .int .u8 0, .int .u8 0] [], none⟩,
 ⟨none, .store 6 (.t s002) (.t s044), none⟩,
 ⟨some s003, .move (.c (.int .i64 10)), none⟩])
 (.ret))
 (.skip)))
 (.regionD [0, 0, 2, 6, 14, 0, 32, 110, 254, 510, 1023, 2047] [xm s045 s006,
 xm s046 s007,
 ⟨some s047, .strAt (.t s046) (.c (.int .i64 0)), none⟩,
 ⟨some s050, .call 11 [(.c (.string { data := #[48, 49, 50, 51, 52, 53, 54, 55, 56, 57, 97, 98, 99, 100, 101, 102] })), (.t s047)], none⟩,
 ⟨some s051, .bin .mul (.c (.int .i64 16)) (.t s050), none⟩,
 xm s052 s007,
 ⟨some s053, .strAt (.t s052) (.c (.int .i64 1)), none⟩,
 ⟨some s054, .call 11 [(.c (.string { data := #[48, 49, 50, 51, 52, 53, 54, 55, 56, 57, 97, 98, 99, 100, 101, 102] })), (.t s053)], none⟩,
 ⟨some s055, .bin .add (.t s051) (.t s054), none⟩,
 ⟨some s056, .convInt .u8 (.t s055), none⟩,
 ⟨some s057, .indexArr 1 6 (.t s004) (.t s045), none⟩,
 ⟨none, .store 1 (.t s057) (.t s056), none⟩]))))
 (.region [⟨some s060, .bin .add (.t s020) (.c (.int .i64 1)), none⟩,
 xm s020 s060])))))))
 (.seq (.region [⟨some s061, .load true 6 (.t s004), none⟩,
 ⟨none, .store 6 (.t s002) (.t s061), none⟩,
 ⟨some s003, .move (.c (.int .i64 0)), none⟩])
 (.ret))))))
def r_custref_TextMac : List XR := [.cell s002 true 6, .tmp s003]
theorem ok_custref_TextMac : okC Tryd.prog Tryd.f5.ntmps (bodyOf Tryd.f5) x_custref_TextMac = true := by kernel_rfl
theorem okr_custref_TextMac : okRs Tryd.prog Tryd.f5.results.toList r_custref_TextMac = true := by kernel_rfl

/-- eth.Many -/
def x_eth_Many : XC :=
 .seq (.region [⟨some s001, .box 0 6 (.t s000), none⟩,
 ⟨some s002, .move (.c (.bool false)), none⟩])
 (.seq (.region [⟨some s003, .indexArr 1 6 (.t s001) (.c (.int .i64 0)), none⟩,
 xl s004 s003,
 ⟨some s005, .bin .and (.t s004) (.c (.int .u8 1)), none⟩,
 ⟨some s006, .bin .eql (.t s005) (.c (.int .u8 1)), none⟩,
 xm s002 s006])
 (.ret))
def r_eth_Many : List XR := [.tmp s002]
theorem ok_eth_Many : okC Tryd.prog Tryd.f6.ntmps (bodyOf Tryd.f6) x_eth_Many = true := by kernel_rfl
theorem okr_eth_Many : okRs Tryd.prog Tryd.f6.results.toList r_eth_Many = true := by kernel_rfl

/-- eth.Show -/
def x_eth_Show : XC :=
 .seq (.region [⟨some s001, .box 0 6 (.t s000), none⟩,
 ⟨some s002, .move (.c (.string { data := #[] })), none⟩])
 (.seq (.region [⟨some s003, .move (.c (.slice none 0 0)), none⟩])
 (.seq (.seq (.region [⟨some s006, .load true 6 (.t s001), none⟩,
 ⟨some s007, .move (.c (.int .i64 0)), none⟩])
 (.block 0
 (.loop
 (.seq (.region [⟨some s010, .bin .lss (.t s007) (.c (.int .i64 6)), none⟩])
 (.seq (.cond (.t s010)
 (.skip)
 (.exit 0))
 (.seq (.block 1
 (.seq (.region [xm s011 s007,
 ⟨some s012, .indexV false 1 6 (.t s006) (.t s007), none⟩,
 xm s004 s011,
 xm s005 s012])
 (.seq (.seq (.region [xm s013 s004,
 ⟨some s014, .bin .gtr (.t s013) (.c (.int .i64 0)), none⟩])
 (.cond (.t s014)
 (.region [xm s015 s003,
 ⟨some s016, .buildSlice 1 1 [.int .u8 0] [(0, (.c (.int .u8 58)))], none⟩,
 ⟨some s017, .append 2 1 1 (.t s015) (.t s016), none⟩,
 xm s003 s017])
 (.skip)))
 (.regionD [0, 0, 2, 6, 0, 16, 48, 126, 255, 511] [xm s020 s003,
 xm s021 s005,
 ⟨some s022, .bin .shr (.t s021) (.c (.int .u64 4)), none⟩,
 ⟨some s023, .strAt (.c (.string { data := #[48, 49, 50, 51, 52, 53, 54, 55, 56, 57, 97, 98, 99, 100, 101, 102] })) (.t s022), none⟩,
 xm s024 s005,
 ⟨some s025, .bin .and (.t s024) (.c (.int .u8 15)), none⟩,
 ⟨some s026, .strAt (.c (.string { data := #[48, 49, 50, 51, 52, 53, 54, 55, 56, 57, 97, 98, 99, 100, 101, 102] })) (.t s025), none⟩,
 ⟨some s027, .buildSlice 3 2 [.int .u8 0] [(0, (.t s023)), (1, (.t s026))], none⟩,
 ⟨some s030, .append 4 1 1 (.t s020) (.t s027), none⟩,
 xm s003 s030]))))
 (.region [⟨some s031, .bin .add (.t s007) (.c (.int .i64 1)), none⟩,
 xm s007 s031])))))))
 (.seq (.region [xm s032 s003,
 ⟨some s033, .b2s (.t s032), none⟩,
 xm s002 s033])
 (.ret))))
def r_eth_Show : List XR := [.tmp s002]
theorem ok_eth_Show : okC Tryd.prog Tryd.f7.ntmps (bodyOf Tryd.f7) x_eth_Show = true := by kernel_rfl
theorem okr_eth_Show : okRs Tryd.prog Tryd.f7.results.toList r_eth_Show = true := by kernel_rfl

/-- custref.MacText -/
def x_custref_MacText : XC :=
 .seq (.region [⟨some s001, .box 0 6 (.t s000), none⟩,
 ⟨some s002, .move (.c (.string { data := #[] })), none⟩])
 (.seq (.region [⟨some s003, .move (.c (.slice none 0 0)), none⟩])
 (.seq (.seq (.region [⟨some s006, .load true 6 (.t s001), none⟩,
 ⟨some s007, .move (.c (.int .i64 0)), none⟩])
 (.block 0
 (.loop
 (.seq (.region [⟨some s010, .bin .lss (.t s007) (.c (.int .i64 6)), none⟩])
 (.seq (.cond (.t s010)
 (.skip)
 (.exit 0))
 (.seq (.block 1
 (.seq (.region [⟨some s011, .indexV false 1 6 (.t s006) (.t s007), none⟩,
 xm s005 s011])
 (.regionD [0, 0, 2, 0, 8, 24, 62, 0, 128, 0, 512, 1536, 3968, 8190, 16382, 32767, 65535] [xm s012 s003,
 xm s013 s005,
 ⟨some s014, .bin .quo (.t s013) (.c (.int .u8 16)), none⟩,
 xm s015 s005,
 ⟨some s016, .bin .quo (.t s015) (.c (.int .u8 16)), none⟩,
 ⟨some s017, .bin .add (.t s016) (.c (.int .u8 1)), none⟩,
 ⟨some s020, .substr (.c (.string { data := #[48, 49, 50, 51, 52, 53, 54, 55, 56, 57, 97, 98, 99, 100, 101, 102] })) (some (.t s014)) (some (.t s017)), none⟩,
 xm s021 s005,
 ⟨some s022, .bin .rem (.t s021) (.c (.int .u8 16)), none⟩,
 xm s023 s005,
 ⟨some s024, .bin .rem (.t s023) (.c (.int .u8 16)), none⟩,
 ⟨some s025, .bin .add (.t s024) (.c (.int .u8 1)), none⟩,
 ⟨some s026, .substr (.c (.string { data := #[48, 49, 50, 51, 52, 53, 54, 55, 56, 57, 97, 98, 99, 100, 101, 102] })) (some (.t s022)) (some (.t s025)), none⟩,
 ⟨some s027, .sbin .add (.t s020) (.t s026), none⟩,
 ⟨some s030, .buildSlice 1 1 [.string { data := #[] }] [(0, (.t s027))], none⟩,
 ⟨some s031, .append 2 1 16 (.t s012) (.t s030), none⟩,
 xm s003 s031])))
 (.region [⟨some s032, .bin .add (.t s007) (.c (.int .i64 1)), none⟩,
 xm s007 s032])))))))
 (.seq (.region [xm s033 s003,
 ⟨some s034, .call 12 [(.t s033), (.c (.string { data := #[58] }))], none⟩,
 xm s002 s034])
 (.ret))))
def r_custref_MacText : List XR := [.tmp s002]
theorem ok_custref_MacText : okC Tryd.prog Tryd.f8.ntmps (bodyOf Tryd.f8) x_custref_MacText = true := by kernel_rfl
theorem okr_custref_MacText : okRs Tryd.prog Tryd.f8.results.toList r_custref_MacText = true := by kernel_rfl

/-- eth.digit -/
def x_eth_digit : XC :=
 .seq (.region [⟨some s002, .move (.c (.int .u8 0)), none⟩,
 ⟨some s003, .move (.c (.bool false)), none⟩])
 (.seq (.block 0
 (.seq (.region [xm s005 s000,
 ⟨some s006, .bin .geq (.t s005) (.c (.int .u8 48)), none⟩,
 xm s007 s006,
 ⟨some s010, .move (.t s000), some (s007, true)⟩,
 ⟨some s011, .bin .leq (.t s010) (.c (.int .u8 57)), some (s007, true)⟩,
 ⟨some s012, .pick (.t s007) (.t s011) (.c (.bool false)), none⟩,
 xm s004 s012])
 (.cond (.t s004)
 (.seq (.region [xm s013 s000,
 ⟨some s014, .bin .sub (.t s013) (.c (.int .u8 48)), none⟩,
 xm s002 s014,
 ⟨some s003, .move (.c (.bool true)), none⟩])
 (.ret))
 (.seq (.region [xm s016 s000,
 ⟨some s017, .bin .geq (.t s016) (.c (.int .u8 97)), none⟩,
 xm s020 s017,
 ⟨some s021, .move (.t s000), some (s020, true)⟩,
 ⟨some s022, .bin .leq (.t s021) (.c (.int .u8 102)), some (s020, true)⟩,
 ⟨some s023, .pick (.t s020) (.t s022) (.c (.bool false)), none⟩,
 xm s015 s023])
 (.cond (.t s015)
 (.seq (.region [xm s024 s000,
 ⟨some s025, .bin .sub (.t s024) (.c (.int .u8 97)), none⟩,
 ⟨some s026, .bin .add (.t s025) (.c (.int .u8 10)), none⟩,
 xm s002 s026,
 ⟨some s003, .move (.c (.bool true)), none⟩])
 (.ret))
 (.skip))))))
 (.seq (.region [⟨some s002, .move (.c (.int .u8 0)), none⟩,
 ⟨some s003, .move (.c (.bool false)), none⟩])
 (.ret)))
def r_eth_digit : List XR := [.tmp s002, .tmp s003]
theorem ok_eth_digit : okC Tryd.prog Tryd.f9.ntmps (bodyOf Tryd.f9) x_eth_digit = true := by kernel_rfl
theorem okr_eth_digit : okRs Tryd.prog Tryd.f9.results.toList r_eth_digit = true := by kernel_rfl

/-- strings.Split -/
def x_strings_Split : XC :=
 .seq (.region [⟨some s004, .move (.c (.slice none 0 0)), none⟩])
 (.seq (.region [xm s005 s000,
 xm s006 s001,
 ⟨some s007, .call 13 [(.t s005), (.t s006), (.c (.int .i64 0)), (.c (.int .i64 (-1)))], none⟩,
 xm s004 s007])
 (.ret))
def r_strings_Split : List XR := [.tmp s004]
theorem ok_strings_Split : okC Tryd.prog Tryd.f10.ntmps (bodyOf Tryd.f10) x_strings_Split = true := by kernel_rfl
theorem okr_strings_Split : okRs Tryd.prog Tryd.f10.results.toList r_strings_Split = true := by kernel_rfl

/-- strings.IndexByte -/
def x_strings_IndexByte : XC :=
 .seq (.region [⟨some s004, .move (.c (.int .i64 0)), none⟩])
 (.seq (.region [xm s005 s000,
 xm s006 s001,
 ⟨some s007, .call 14 [(.t s005), (.t s006)], none⟩,
 xm s004 s007])
 (.ret))
def r_strings_IndexByte : List XR := [.tmp s004]
theorem ok_strings_IndexByte : okC Tryd.prog Tryd.f11.ntmps (bodyOf Tryd.f11) x_strings_IndexByte = true := by kernel_rfl
theorem okr_strings_IndexByte : okRs Tryd.prog Tryd.f11.results.toList r_strings_IndexByte = true := by kernel_rfl

/-- strings.Join -/
def x_strings_Join : XC :=
 .seq (.region [⟨some s004, .move (.c (.string { data := #[] })), none⟩])
 (.seq (.seq (.region [xm s013 s000,
 ⟨some s014, .len (.t s013), none⟩])
 (.block 0
 (.seq (.region [⟨some s016, .bin .eql (.t s014) (.c (.int .i64 0)), none⟩,
 xm s015 s016])
 (.cond (.t s015)
 (.seq (.region [⟨some s004, .move (.c (.string { data := #[] })), none⟩])
 (.ret))
 (.seq (.region [⟨some s020, .bin .eql (.t s014) (.c (.int .i64 1)), none⟩,
 xm s017 s020])
 (.cond (.t s017)
 (.seq (.region [xm s021 s000,
 ⟨some s022, .indexSl 1 (.t s021) (.c (.int .i64 0)), none⟩,
 xl s023 s022,
 xm s004 s023])
 (.ret))
 (.skip)))))))
 (.seq (.region [⟨some s005, .move (.c (.int .i64 0)), none⟩])
 (.seq (.seq (.region [xm s024 s001,
 ⟨some s025, .slen (.t s024), none⟩,
 ⟨some s026, .bin .gtr (.t s025) (.c (.int .i64 0)), none⟩])
 (.cond (.t s026)
 (.seq (.seq (.region [xm s027 s001,
 ⟨some s030, .slen (.t s027), none⟩,
 xm s031 s000,
 ⟨some s032, .len (.t s031), none⟩,
 ⟨some s033, .bin .sub (.t s032) (.c (.int .i64 1)), none⟩,
 ⟨some s034, .bin .quo (.c (.int .i64 9223372036854775807)) (.t s033), none⟩,
 ⟨some s035, .bin .geq (.t s030) (.t s034), none⟩])
 (.cond (.t s035)
 (.region [⟨some s036, .dead, none⟩,
 ⟨none, .dead, none⟩])
 (.skip)))
 (.region [xm s037 s005,
 xm s040 s001,
 ⟨some s041, .slen (.t s040), none⟩,
 xm s042 s000,
 ⟨some s043, .len (.t s042), none⟩,
 ⟨some s044, .bin .sub (.t s043) (.c (.int .i64 1)), none⟩,
 ⟨some s045, .bin .mul (.t s041) (.t s044), none⟩,
 ⟨some s046, .bin .add (.t s037) (.t s045), none⟩,
 xm s005 s046]))
 (.skip)))
 (.seq (.seq (.region [xm s047 s000,
 ⟨some s050, .len (.t s047), none⟩,
 ⟨some s051, .move (.c (.int .i64 0)), none⟩])
 (.block 1
 (.loop
 (.seq (.region [⟨some s052, .bin .lss (.t s051) (.t s050), none⟩])
 (.seq (.cond (.t s052)
 (.skip)
 (.exit 1))
 (.seq (.block 2
 (.seq (.region [⟨some s053, .indexSl 1 (.t s047) (.t s051), none⟩,
 xl s054 s053,
 xm s007 s054])
 (.seq (.seq (.region [xm s055 s007,
 ⟨some s056, .slen (.t s055), none⟩,
 xm s057 s005,
 ⟨some s060, .bin .sub (.c (.int .i64 9223372036854775807)) (.t s057), none⟩,
 ⟨some s061, .bin .gtr (.t s056) (.t s060), none⟩])
 (.cond (.t s061)
 (.region [⟨some s062, .dead, none⟩,
 ⟨none, .dead, none⟩])
 (.skip)))
 (.region [xm s063 s005,
 xm s064 s007,
 ⟨some s065, .slen (.t s064), none⟩,
 ⟨some s066, .bin .add (.t s063) (.t s065), none⟩,
 xm s005 s066]))))
 (.region [⟨some s067, .bin .add (.t s051) (.c (.int .i64 1)), none⟩,
 xm s051 s067])))))))
 (.seq (.region [⟨some s010, .alloc 0 [.pointer none, .slice none 0 0], none⟩])
 (.seq (.region [xm s070 s005,
 ⟨some s071, .call 15 [(.t s010), (.t s070)], none⟩])
 (.seq (.region [xm s072 s000,
 ⟨some s073, .indexSl 1 (.t s072) (.c (.int .i64 0)), none⟩,
 xl s074 s073,
 ⟨some s075, .call 16 [(.t s010), (.t s074)], none⟩])
 (.seq (.seq (.region [xm s076 s000,
 ⟨some s077, .slice 1 (.t s076) (some (.c (.int .i64 1))) none none, none⟩,
 ⟨some s100, .len (.t s077), none⟩,
 ⟨some s101, .move (.c (.int .i64 0)), none⟩])
 (.block 3
 (.loop
 (.seq (.region [⟨some s102, .bin .lss (.t s101) (.t s100), none⟩])
 (.seq (.cond (.t s102)
 (.skip)
 (.exit 3))
 (.seq (.block 4
 (.seq (.region [⟨some s103, .indexSl 1 (.t s077) (.t s101), none⟩,
 xl s104 s103,
 xm s012 s104])
 (.seq (.region [xm s105 s001,
 ⟨some s106, .call 16 [(.t s010), (.t s105)], none⟩])
 (.region [xm s107 s012,
 ⟨some s110, .call 16 [(.t s010), (.t s107)], none⟩]))))
 (.region [⟨some s111, .bin .add (.t s101) (.c (.int .i64 1)), none⟩,
 xm s101 s111])))))))
 (.seq (.region [⟨some s112, .call 17 [(.t s010)], none⟩,
 xm s004 s112])
 (.ret))))))))))
def r_strings_Join : List XR := [.tmp s004]
theorem ok_strings_Join : okC Tryd.prog Tryd.f12.ntmps (bodyOf Tryd.f12) x_strings_Join = true := by kernel_rfl
theorem okr_strings_Join : okRs Tryd.prog Tryd.f12.results.toList r_strings_Join = true := by kernel_rfl

/-- strings.genSplit -/
def x_strings_genSplit : XC :=
 .seq (.region [⟨some s010, .move (.c (.slice none 0 0)), none⟩])
 (.seq (.seq (.region [xm s014 s003,
 ⟨some s015, .bin .eql (.t s014) (.c (.int .i64 0)), none⟩])
 (.cond (.t s015)
 (.seq (.region [⟨some s010, .move (.c (.slice none 0 0)), none⟩])
 (.ret))
 (.skip)))
 (.seq (.seq (.region [xm s016 s001,
 ⟨some s017, .sbin .eql (.t s016) (.c (.string { data := #[] })), none⟩])
 (.cond (.t s017)
 (.seq (.region [xm s020 s000,
 xm s021 s003,
 ⟨some s022, .call 18 [(.t s020), (.t s021)], none⟩,
 xm s010 s022])
 (.ret))
 (.skip)))
 (.seq (.seq (.region [xm s023 s003,
 ⟨some s024, .bin .lss (.t s023) (.c (.int .i64 0)), none⟩])
 (.cond (.t s024)
 (.region [xm s025 s000,
 xm s026 s001,
 ⟨some s027, .call 19 [(.t s025), (.t s026)], none⟩,
 ⟨some s030, .bin .add (.t s027) (.c (.int .i64 1)), none⟩,
 xm s003 s030])
 (.skip)))
 (.seq (.region [xm s031 s003,
 xm s032 s000,
 ⟨some s033, .slen (.t s032), none⟩,
 ⟨some s034, .bin .add (.t s033) (.c (.int .i64 1)), none⟩,
 ⟨some s035, .minI (.t s031) (.t s034), none⟩,
 xm s003 s035])
 (.seq (.region [xm s036 s003,
 ⟨some s037, .makeSlice 0 16 [.string { data := #[] }] (.t s036) (.t s036), none⟩,
 xm s011 s037])
 (.seq (.region [xm s040 s003,
 ⟨some s041, .bin .sub (.t s040) (.c (.int .i64 1)), none⟩,
 xm s003 s041])
 (.seq (.region [⟨some s012, .move (.c (.int .i64 0)), none⟩])
 (.seq (.block 0
 (.loop
 (.seq (.seq (.region [xm s042 s012,
 xm s043 s003,
 ⟨some s044, .bin .lss (.t s042) (.t s043), none⟩])
 (.cond (.t s044)
 (.skip)
 (.exit 0)))
 (.block 1
 (.seq (.region [xm s045 s000,
 xm s046 s001,
 ⟨some s047, .call 20 [(.t s045), (.t s046)], none⟩,
 xm s013 s047])
 (.seq (.seq (.region [xm s050 s013,
 ⟨some s051, .bin .lss (.t s050) (.c (.int .i64 0)), none⟩])
 (.cond (.t s051)
 (.exit 0)
 (.skip)))
 (.seq (.region [xm s052 s011,
 xm s053 s012,
 xm s054 s000,
 xm s055 s013,
 xm s056 s002,
 ⟨some s057, .bin .add (.t s055) (.t s056), none⟩,
 ⟨some s060, .substr (.t s054) none (some (.t s057)), none⟩,
 ⟨some s061, .indexSl 1 (.t s052) (.t s053), none⟩,
 ⟨none, .store 1 (.t s061) (.t s060), none⟩])
 (.seq (.region [xm s062 s000,
 xm s063 s013,
 xm s064 s001,
 ⟨some s065, .slen (.t s064), none⟩,
 ⟨some s066, .bin .add (.t s063) (.t s065), none⟩,
 ⟨some s067, .substr (.t s062) (some (.t s066)) none, none⟩,
 xm s000 s067])
 (.region [xm s070 s012,
 ⟨some s071, .bin .add (.t s070) (.c (.int .i64 1)), none⟩,
 xm s012 s071])))))))))
 (.seq (.region [xm s072 s011,
 xm s073 s012,
 xm s074 s000,
 ⟨some s075, .indexSl 1 (.t s072) (.t s073), none⟩,
 ⟨none, .store 1 (.t s075) (.t s074), none⟩])
 (.seq (.region [xm s076 s011,
 xm s077 s012,
 ⟨some s100, .bin .add (.t s077) (.c (.int .i64 1)), none⟩,
 ⟨some s101, .slice 1 (.t s076) none (some (.t s100)) none, none⟩,
 xm s010 s101])
 (.ret)))))))))))
def r_strings_genSplit : List XR := [.tmp s010]
theorem ok_strings_genSplit : okC Tryd.prog Tryd.f13.ntmps (bodyOf Tryd.f13) x_strings_genSplit = true := by kernel_rfl
theorem okr_strings_genSplit : okRs Tryd.prog Tryd.f13.results.toList r_strings_genSplit = true := by kernel_rfl

/-- stringslite.IndexByte -/
def x_stringslite_IndexByte : XC :=
 .seq (.region [⟨some s004, .move (.c (.int .i64 0)), none⟩])
 (.seq (.region [xm s005 s000,
 xm s006 s001,
 ⟨some s007, .ext 0 [(.t s005), (.t s006)], none⟩,
 xm s004 s007])
 (.ret))
def r_stringslite_IndexByte : List XR := [.tmp s004]
theorem ok_stringslite_IndexByte : okC Tryd.prog Tryd.f14.ntmps (bodyOf Tryd.f14) x_stringslite_IndexByte = true := by kernel_rfl
theorem okr_stringslite_IndexByte : okRs Tryd.prog Tryd.f14.results.toList r_stringslite_IndexByte = true := by kernel_rfl

/-- (*strings.Builder).Grow -/
def x_strings_Builder_Grow : XC :=
 .seq (.region [xm s004 s000,
 ⟨some s005, .call 22 [(.t s004)], none⟩])
 (.seq (.seq (.region [xm s006 s001,
 ⟨some s007, .bin .lss (.t s006) (.c (.int .i64 0)), none⟩])
 (.cond (.t s007)
 (.region [⟨some s010, .dead, none⟩,
 ⟨none, .dead, none⟩])
 (.skip)))
 (.seq (.regionD [0, 1, 3, 7, 15, 0, 32, 96, 224, 480, 1023, 0, 4095] [xm s011 s000,
 ⟨some s012, .nilCheck (.t s011), none⟩,
 xf 1 s013 s012,
 xl s014 s013,
 ⟨some s015, .dead, none⟩,
 xm s016 s000,
 ⟨some s017, .nilCheck (.t s016), none⟩,
 xf 1 s020 s017,
 xl s021 s020,
 ⟨some s022, .len (.t s021), none⟩,
 ⟨some s023, .bin .sub (.t s015) (.t s022), none⟩,
 xm s024 s001,
 ⟨some s025, .bin .lss (.t s023) (.t s024), none⟩])
 (.cond (.t s025)
 (.region [xm s026 s000,
 xm s027 s001,
 ⟨some s030, .call 23 [(.t s026), (.t s027)], none⟩])
 (.skip))))
def r_strings_Builder_Grow : List XR := []
theorem ok_strings_Builder_Grow : okC Tryd.prog Tryd.f15.ntmps (bodyOf Tryd.f15) x_strings_Builder_Grow = true := by kernel_rfl
theorem okr_strings_Builder_Grow : okRs Tryd.prog Tryd.f15.results.toList r_strings_Builder_Grow = true := by kernel_rfl

/-- (*strings.Builder).WriteString -/
def x_strings_Builder_WriteString : XC :=
 .seq (.region [⟨some s004, .move (.c (.int .i64 0)), none⟩,
 ⟨some s005, .move (.c (.nilIface)), none⟩])
 (.seq (.region [xm s006 s000,
 ⟨some s007, .call 22 [(.t s006)], none⟩])
 (.seq (.region [xm s010 s000,
 xm s011 s000,
 ⟨some s012, .nilCheck (.t s011), none⟩,
 xf 1 s013 s012,
 xl s014 s013,
 xm s015 s001,
 ⟨some s016, .append 0 1 1 (.t s014) (.t s015), none⟩,
 ⟨some s017, .nilCheck (.t s010), none⟩,
 xf 1 s020 s017,
 ⟨none, .store 1 (.t s020) (.t s016), none⟩])
 (.seq (.region [xm s021 s001,
 ⟨some s022, .slen (.t s021), none⟩,
 xm s004 s022,
 ⟨some s005, .move (.c (.nilIface)), none⟩])
 (.ret))))
def r_strings_Builder_WriteString : List XR := [.tmp s004, .tmp s005]
theorem ok_strings_Builder_WriteString : okC Tryd.prog Tryd.f16.ntmps (bodyOf Tryd.f16) x_strings_Builder_WriteString = true := by kernel_rfl
theorem okr_strings_Builder_WriteString : okRs Tryd.prog Tryd.f16.results.toList r_strings_Builder_WriteString = true := by kernel_rfl

/-- (*strings.Builder).String -/
def x_strings_Builder_String : XC :=
 .seq (.region [⟨some s002, .move (.c (.string { data := #[] })), none⟩])
 (.seq (.regionD [0, 1, 3, 7, 15, 0, 32, 96, 224, 480, 1023, 2047] [xm s003 s000,
 ⟨some s004, .nilCheck (.t s003), none⟩,
 xf 1 s005 s004,
 xl s006 s005,
 ⟨some s007, .dead, none⟩,
 xm s010 s000,
 ⟨some s011, .nilCheck (.t s010), none⟩,
 xf 1 s012 s011,
 xl s013 s012,
 ⟨some s014, .len (.t s013), none⟩,
 ⟨some s015, .dead, none⟩,
 xm s002 s015])
 (.ret))
def r_strings_Builder_String : List XR := [.tmp s002]
theorem ok_strings_Builder_String : okC Tryd.prog Tryd.f17.ntmps (bodyOf Tryd.f17) x_strings_Builder_String = true := by kernel_rfl
theorem okr_strings_Builder_String : okRs Tryd.prog Tryd.f17.results.toList r_strings_Builder_String = true := by kernel_rfl

/-- strings.explode -/
def x_strings_explode : XC :=
 .seq (.region [⟨some s004, .move (.c (.slice none 0 0)), none⟩])
 (.seq (.region [xm s012 s000,
 ⟨some s013, .call 24 [(.t s012)], none⟩,
 xm s005 s013])
 (.seq (.seq (.region [xm s014 s001,
 ⟨some s015, .bin .lss (.t s014) (.c (.int .i64 0)), none⟩,
 xm s016 s015,
 ⟨some s017, .move (.t s001), some (s016, false)⟩,
 ⟨some s020, .move (.t s005), some (s016, false)⟩,
 ⟨some s021, .bin .gtr (.t s017) (.t s020), some (s016, false)⟩,
 ⟨some s022, .pick (.t s016) (.c (.bool true)) (.t s021), none⟩])
 (.cond (.t s022)
 (.region [xm s023 s005,
 xm s001 s023])
 (.skip)))
 (.seq (.region [xm s024 s001,
 ⟨some s025, .makeSlice 0 16 [.string { data := #[] }] (.t s024) (.t s024), none⟩,
 xm s006 s025])
 (.seq (.seq (.region [⟨some s007, .move (.c (.int .i64 0)), none⟩])
 (.block 0
 (.loop
 (.seq (.seq (.region [xm s026 s007,
 xm s027 s001,
 ⟨some s030, .bin .sub (.t s027) (.c (.int .i64 1)), none⟩,
 ⟨some s031, .bin .lss (.t s026) (.t s030), none⟩])
 (.cond (.t s031)
 (.skip)
 (.exit 0)))
 (.seq (.block 1
 (.seq (.region [xm s035 s000,
 ⟨some s036, .call 25 [(.t s035)], none⟩,
 xm s034 s036,
 ⟨some s037, .extract 0 (.t s034), none⟩,
 ⟨some s040, .extract 1 (.t s034), none⟩,
 xm s010 s037,
 xm s011 s040])
 (.seq (.region [xm s041 s006,
 xm s042 s007,
 xm s043 s000,
 xm s044 s011,
 ⟨some s045, .substr (.t s043) none (some (.t s044)), none⟩,
 ⟨some s046, .indexSl 1 (.t s041) (.t s042), none⟩,
 ⟨none, .store 1 (.t s046) (.t s045), none⟩])
 (.region [xm s047 s000,
 xm s050 s011,
 ⟨some s051, .substr (.t s047) (some (.t s050)) none, none⟩,
 xm s000 s051]))))
 (.region [xm s032 s007,
 ⟨some s033, .bin .add (.t s032) (.c (.int .i64 1)), none⟩,
 xm s007 s033]))))))
 (.seq (.seq (.region [xm s052 s001,
 ⟨some s053, .bin .gtr (.t s052) (.c (.int .i64 0)), none⟩])
 (.cond (.t s053)
 (.region [xm s054 s006,
 xm s055 s001,
 ⟨some s056, .bin .sub (.t s055) (.c (.int .i64 1)), none⟩,
 xm s057 s000,
 ⟨some s060, .indexSl 1 (.t s054) (.t s056), none⟩,
 ⟨none, .store 1 (.t s060) (.t s057), none⟩])
 (.skip)))
 (.seq (.region [xm s061 s006,
 xm s004 s061])
 (.ret)))))))
def r_strings_explode : List XR := [.tmp s004]
theorem ok_strings_explode : okC Tryd.prog Tryd.f18.ntmps (bodyOf Tryd.f18) x_strings_explode = true := by kernel_rfl
theorem okr_strings_explode : okRs Tryd.prog Tryd.f18.results.toList r_strings_explode = true := by kernel_rfl

/-- strings.Count -/
def x_strings_Count : XC :=
 .seq (.region [⟨some s004, .move (.c (.int .i64 0)), none⟩])
 (.seq (.seq (.region [xm s007 s001,
 ⟨some s010, .slen (.t s007), none⟩,
 ⟨some s011, .bin .eql (.t s010) (.c (.int .i64 0)), none⟩])
 (.cond (.t s011)
 (.seq (.region [xm s012 s000,
 ⟨some s013, .call 24 [(.t s012)], none⟩,
 ⟨some s014, .bin .add (.t s013) (.c (.int .i64 1)), none⟩,
 xm s004 s014])
 (.ret))
 (.skip)))
 (.seq (.seq (.region [xm s015 s001,
 ⟨some s016, .slen (.t s015), none⟩,
 ⟨some s017, .bin .eql (.t s016) (.c (.int .i64 1)), none⟩])
 (.cond (.t s017)
 (.seq (.region [xm s020 s000,
 xm s021 s001,
 ⟨some s022, .strAt (.t s021) (.c (.int .i64 0)), none⟩,
 ⟨some s023, .ext 1 [(.t s020), (.t s022)], none⟩,
 xm s004 s023])
 (.ret))
 (.skip)))
 (.seq (.region [⟨some s005, .move (.c (.int .i64 0)), none⟩])
 (.block 0
 (.loop
 (.block 1
 (.seq (.region [xm s024 s000,
 xm s025 s001,
 ⟨some s026, .call 20 [(.t s024), (.t s025)], none⟩,
 xm s006 s026])
 (.seq (.seq (.region [xm s027 s006,
 ⟨some s030, .bin .eql (.t s027) (.c (.int .i64 (-1))), none⟩])
 (.cond (.t s030)
 (.seq (.region [xm s031 s005,
 xm s004 s031])
 (.ret))
 (.skip)))
 (.seq (.region [xm s032 s005,
 ⟨some s033, .bin .add (.t s032) (.c (.int .i64 1)), none⟩,
 xm s005 s033])
 (.region [xm s034 s000,
 xm s035 s006,
 xm s036 s001,
 ⟨some s037, .slen (.t s036), none⟩,
 ⟨some s040, .bin .add (.t s035) (.t s037), none⟩,
 ⟨some s041, .substr (.t s034) (some (.t s040)) none, none⟩,
 xm s000 s041]))))))))))
def r_strings_Count : List XR := [.tmp s004]
theorem ok_strings_Count : okC Tryd.prog Tryd.f19.ntmps (bodyOf Tryd.f19) x_strings_Count = true := by kernel_rfl
theorem okr_strings_Count : okRs Tryd.prog Tryd.f19.results.toList r_strings_Count = true := by kernel_rfl

/-- strings.Index -/
def x_strings_Index : XC :=
 .seq (.region [⟨some s004, .move (.c (.int .i64 0)), none⟩])
 (.seq (.region [xm s005 s000,
 xm s006 s001,
 ⟨some s007, .call 27 [(.t s005), (.t s006)], none⟩,
 xm s004 s007])
 (.ret))
def r_strings_Index : List XR := [.tmp s004]
theorem ok_strings_Index : okC Tryd.prog Tryd.f20.ntmps (bodyOf Tryd.f20) x_strings_Index = true := by kernel_rfl
theorem okr_strings_Index : okRs Tryd.prog Tryd.f20.results.toList r_strings_Index = true := by kernel_rfl

/-- (*strings.Builder).grow -/
def x_strings_Builder_grow : XC :=
 .seq (.regionD [0, 1, 3, 7, 15, 31, 0, 127, 255, 0, 512, 1536, 3584, 7680, 16383, 32767] [xm s005 s000,
 ⟨some s006, .nilCheck (.t s005), none⟩,
 xf 1 s007 s006,
 xl s010 s007,
 ⟨some s011, .dead, none⟩,
 ⟨some s012, .bin .mul (.c (.int .i64 2)) (.t s011), none⟩,
 xm s013 s001,
 ⟨some s014, .bin .add (.t s012) (.t s013), none⟩,
 ⟨some s015, .dead, none⟩,
 xm s016 s000,
 ⟨some s017, .nilCheck (.t s016), none⟩,
 xf 1 s020 s017,
 xl s021 s020,
 ⟨some s022, .len (.t s021), none⟩,
 ⟨some s023, .slice 1 (.t s015) none (some (.t s022)) none, none⟩,
 xm s004 s023])
 (.seq (.region [xm s024 s004,
 xm s025 s000,
 ⟨some s026, .nilCheck (.t s025), none⟩,
 xf 1 s027 s026,
 xl s030 s027,
 ⟨some s031, .dead, none⟩])
 (.region [xm s032 s000,
 xm s033 s004,
 ⟨some s034, .nilCheck (.t s032), none⟩,
 xf 1 s035 s034,
 ⟨none, .store 1 (.t s035) (.t s033), none⟩]))
def r_strings_Builder_grow : List XR := []
theorem ok_strings_Builder_grow : okC Tryd.prog Tryd.f23.ntmps (bodyOf Tryd.f23) x_strings_Builder_grow = true := by kernel_rfl
theorem okr_strings_Builder_grow : okRs Tryd.prog Tryd.f23.results.toList r_strings_Builder_grow = true := by kernel_rfl

/-- utf8.RuneCountInString -/
def x_utf8_RuneCountInString : XC :=
 .seq (.region [⟨some s002, .move (.c (.int .i64 0)), none⟩])
 (.seq (.seq (.region [xm s003 s000,
 ⟨some s004, .dead, none⟩])
 (.block 0
 (.loop
 (.seq (.region [⟨some s005, .dead, none⟩,
 ⟨some s006, .extract 0 (.t s005), none⟩])
 (.seq (.cond (.t s006)
 (.skip)
 (.exit 0))
 (.block 1
 (.region [xm s007 s002,
 ⟨some s010, .bin .add (.t s007) (.c (.int .i64 1)), none⟩,
 xm s002 s010])))))))
 (.seq (.region [xm s011 s002,
 xm s002 s011])
 (.ret)))
def r_utf8_RuneCountInString : List XR := [.tmp s002]
theorem ok_utf8_RuneCountInString : okC Tryd.prog Tryd.f24.ntmps (bodyOf Tryd.f24) x_utf8_RuneCountInString = true := by kernel_rfl
theorem okr_utf8_RuneCountInString : okRs Tryd.prog Tryd.f24.results.toList r_utf8_RuneCountInString = true := by kernel_rfl

/-- utf8.DecodeRuneInString -/
def x_utf8_DecodeRuneInString : XC :=
 .seq (.region [⟨some s002, .move (.c (.int .i32 0)), none⟩,
 ⟨some s003, .move (.c (.int .i64 0)), none⟩])
 (.seq (.seq (.region [xm s004 s000,
 ⟨some s005, .sbin .neq (.t s004) (.c (.string { data := #[] })), none⟩,
 xm s006 s005,
 ⟨some s007, .move (.t s000), some (s006, true)⟩,
 ⟨some s010, .strAt (.t s007) (.c (.int .i64 0)), some (s006, true)⟩,
 ⟨some s011, .bin .lss (.t s010) (.c (.int .u8 128)), some (s006, true)⟩,
 ⟨some s012, .pick (.t s006) (.t s011) (.c (.bool false)), none⟩])
 (.cond (.t s012)
 (.seq (.region [xm s013 s000,
 ⟨some s014, .strAt (.t s013) (.c (.int .i64 0)), none⟩,
 ⟨some s015, .convInt .i32 (.t s014), none⟩,
 xm s002 s015,
 ⟨some s003, .move (.c (.int .i64 1)), none⟩])
 (.ret))
 (.region [xm s017 s000,
 ⟨some s020, .call 30 [(.t s017)], none⟩,
 xm s016 s020,
 ⟨some s021, .extract 0 (.t s016), none⟩,
 ⟨some s022, .extract 1 (.t s016), none⟩,
 xm s002 s021,
 xm s003 s022])))
 (.ret))
def r_utf8_DecodeRuneInString : List XR := [.tmp s002, .tmp s003]
theorem ok_utf8_DecodeRuneInString : okC Tryd.prog Tryd.f25.ntmps (bodyOf Tryd.f25) x_utf8_DecodeRuneInString = true := by kernel_rfl
theorem okr_utf8_DecodeRuneInString : okRs Tryd.prog Tryd.f25.results.toList r_utf8_DecodeRuneInString = true := by kernel_rfl

/-- stringslite.Index -/
def x_stringslite_Index : XC :=
 .seq (.region [⟨some s004, .move (.c (.int .i64 0)), none⟩])
 (.seq (.region [xm s016 s001,
 ⟨some s017, .slen (.t s016), none⟩,
 xm s005 s017])
 (.seq (.block 0
 (.seq (.region [xm s021 s005,
 ⟨some s022, .bin .eql (.t s021) (.c (.int .i64 0)), none⟩,
 xm s023 s022,
 ⟨some s024, .move (.t s001), some (s023, false)⟩,
 ⟨some s025, .move (.t s000), some (s023, false)⟩,
 ⟨some s026, .sbin .eql (.t s024) (.t s025), some (s023, false)⟩,
 ⟨some s027, .pick (.t s023) (.c (.bool true)) (.t s026), none⟩,
 xm s020 s027])
 (.cond (.t s020)
 (.seq (.region [⟨some s004, .move (.c (.int .i64 0)), none⟩])
 (.ret))
 (.seq (.region [xm s031 s005,
 ⟨some s032, .bin .eql (.t s031) (.c (.int .i64 1)), none⟩,
 xm s030 s032])
 (.cond (.t s030)
 (.seq (.region [xm s033 s000,
 xm s034 s001,
 ⟨some s035, .strAt (.t s034) (.c (.int .i64 0)), none⟩,
 ⟨some s036, .call 14 [(.t s033), (.t s035)], none⟩,
 xm s004 s036])
 (.ret))
 (.seq (.region [xm s040 s005,
 xm s041 s000,
 ⟨some s042, .slen (.t s041), none⟩,
 ⟨some s043, .bin .geq (.t s040) (.t s042), none⟩,
 xm s037 s043])
 (.cond (.t s037)
 (.seq (.region [⟨some s004, .move (.c (.int .i64 (-1))), none⟩])
 (.ret))
 (.seq (.region [xm s045 s005,
 ⟨some s046, .load false 1 .g, none⟩,
 ⟨some s047, .bin .leq (.t s045) (.t s046), none⟩,
 xm s050 s047,
 ⟨some s051, .move (.t s000), some (s050, true)⟩,
 ⟨some s052, .slen (.t s051), some (s050, true)⟩,
 ⟨some s053, .bin .leq (.t s052) (.c (.int .i64 64)), some (s050, true)⟩,
 ⟨some s054, .pick (.t s050) (.t s053) (.c (.bool false)), none⟩,
 xm s044 s054])
 (.cond (.t s044)
 (.seq (.region [xm s055 s000,
 xm s056 s001,
 ⟨some s057, .dead, none⟩,
 xm s004 s057])
 (.ret))
 (.skip))))))))))
 (.seq (.region [xm s060 s001,
 ⟨some s061, .strAt (.t s060) (.c (.int .i64 0)), none⟩,
 xm s006 s061])
 (.seq (.region [xm s062 s001,
 ⟨some s063, .strAt (.t s062) (.c (.int .i64 1)), none⟩,
 xm s007 s063])
 (.seq (.region [⟨some s010, .move (.c (.int .i64 0)), none⟩])
 (.seq (.region [xm s064 s000,
 ⟨some s065, .slen (.t s064), none⟩,
 xm s066 s005,
 ⟨some s067, .bin .sub (.t s065) (.t s066), none⟩,
 ⟨some s070, .bin .add (.t s067) (.c (.int .i64 1)), none⟩,
 xm s011 s070])
 (.seq (.region [⟨some s012, .move (.c (.int .i64 0)), none⟩])
 (.seq (.block 1
 (.loop
 (.seq (.seq (.region [xm s071 s010,
 xm s072 s011,
 ⟨some s073, .bin .lss (.t s071) (.t s072), none⟩])
 (.cond (.t s073)
 (.skip)
 (.exit 1)))
 (.block 2
 (.seq (.seq (.region [xm s074 s000,
 xm s075 s010,
 ⟨some s076, .strAt (.t s074) (.t s075), none⟩,
 xm s077 s006,
 ⟨some s100, .bin .neq (.t s076) (.t s077), none⟩])
 (.cond (.t s100)
 (.seq (.region [xm s101 s000,
 xm s102 s010,
 ⟨some s103, .bin .add (.t s102) (.c (.int .i64 1)), none⟩,
 xm s104 s011,
 ⟨some s105, .substr (.t s101) (some (.t s103)) (some (.t s104)), none⟩,
 xm s106 s006,
 ⟨some s107, .call 14 [(.t s105), (.t s106)], none⟩,
 xm s013 s107])
 (.seq (.seq (.region [xm s110 s013,
 ⟨some s111, .bin .lss (.t s110) (.c (.int .i64 0)), none⟩])
 (.cond (.t s111)
 (.seq (.region [⟨some s004, .move (.c (.int .i64 (-1))), none⟩])
 (.ret))
 (.skip)))
 (.region [xm s112 s010,
 xm s113 s013,
 ⟨some s114, .bin .add (.t s113) (.c (.int .i64 1)), none⟩,
 ⟨some s115, .bin .add (.t s112) (.t s114), none⟩,
 xm s010 s115])))
 (.skip)))
 (.seq (.seq (.region [xm s116 s000,
 xm s117 s010,
 ⟨some s120, .bin .add (.t s117) (.c (.int .i64 1)), none⟩,
 ⟨some s121, .strAt (.t s116) (.t s120), none⟩,
 xm s122 s007,
 ⟨some s123, .bin .eql (.t s121) (.t s122), none⟩,
 xm s124 s123,
 ⟨some s125, .move (.t s000), some (s124, true)⟩,
 ⟨some s126, .move (.t s010), some (s124, true)⟩,
 ⟨some s127, .move (.t s010), some (s124, true)⟩,
 ⟨some s130, .move (.t s005), some (s124, true)⟩,
 ⟨some s131, .bin .add (.t s127) (.t s130), some (s124, true)⟩,
 ⟨some s132, .substr (.t s125) (some (.t s126)) (some (.t s131)), some (s124, true)⟩,
 ⟨some s133, .move (.t s001), some (s124, true)⟩,
 ⟨some s134, .sbin .eql (.t s132) (.t s133), some (s124, true)⟩,
 ⟨some s135, .pick (.t s124) (.t s134) (.c (.bool false)), none⟩])
 (.cond (.t s135)
 (.seq (.region [xm s136 s010,
 xm s004 s136])
 (.ret))
 (.skip)))
 (.seq (.region [xm s137 s010,
 ⟨some s140, .bin .add (.t s137) (.c (.int .i64 1)), none⟩,
 xm s010 s140])
 (.seq (.region [xm s141 s012,
 ⟨some s142, .bin .add (.t s141) (.c (.int .i64 1)), none⟩,
 xm s012 s142])
 (.seq (.region [xm s143 s005,
 ⟨some s144, .load false 1 .g, none⟩,
 ⟨some s145, .bin .leq (.t s143) (.t s144), none⟩,
 xm s146 s145,
 ⟨some s147, .move (.t s012), some (s146, true)⟩,
 ⟨some s150, .move (.t s010), some (s146, true)⟩,
 ⟨some s151, .call 32 [(.t s150)], some (s146, true)⟩,
 ⟨some s152, .bin .gtr (.t s147) (.t s151), some (s146, true)⟩,
 ⟨some s153, .pick (.t s146) (.t s152) (.c (.bool false)), none⟩])
 (.cond (.t s153)
 (.seq (.region [xm s154 s000,
 xm s155 s010,
 ⟨some s156, .substr (.t s154) (some (.t s155)) none, none⟩,
 xm s157 s001,
 ⟨some s160, .dead, none⟩,
 xm s014 s160])
 (.seq (.seq (.region [xm s161 s014,
 ⟨some s162, .bin .geq (.t s161) (.c (.int .i64 0)), none⟩])
 (.cond (.t s162)
 (.seq (.region [xm s163 s014,
 xm s164 s010,
 ⟨some s165, .bin .add (.t s163) (.t s164), none⟩,
 xm s004 s165])
 (.ret))
 (.skip)))
 (.seq (.region [⟨some s004, .move (.c (.int .i64 (-1))), none⟩])
 (.ret))))
 (.seq (.region [xm s166 s005,
 ⟨some s167, .load false 1 .g, none⟩,
 ⟨some s170, .bin .gtr (.t s166) (.t s167), none⟩,
 xm s171 s170,
 ⟨some s172, .move (.t s012), some (s171, true)⟩,
 ⟨some s173, .move (.t s010), some (s171, true)⟩,
 ⟨some s174, .bin .shr (.t s173) (.c (.int .u64 4)), some (s171, true)⟩,
 ⟨some s175, .bin .add (.c (.int .i64 4)) (.t s174), some (s171, true)⟩,
 ⟨some s176, .bin .geq (.t s172) (.t s175), some (s171, true)⟩,
 ⟨some s177, .pick (.t s171) (.t s176) (.c (.bool false)), none⟩,
 xm s200 s177,
 ⟨some s201, .move (.t s010), some (s200, true)⟩,
 ⟨some s202, .move (.t s011), some (s200, true)⟩,
 ⟨some s203, .bin .lss (.t s201) (.t s202), some (s200, true)⟩,
 ⟨some s204, .pick (.t s200) (.t s203) (.c (.bool false)), none⟩])
 (.cond (.t s204)
 (.seq (.region [xm s205 s000,
 xm s206 s010,
 ⟨some s207, .substr (.t s205) (some (.t s206)) none, none⟩,
 xm s210 s001,
 ⟨some s211, .call 33 [(.t s207), (.t s210)], none⟩,
 xm s015 s211])
 (.seq (.seq (.region [xm s212 s015,
 ⟨some s213, .bin .lss (.t s212) (.c (.int .i64 0)), none⟩])
 (.cond (.t s213)
 (.seq (.region [⟨some s004, .move (.c (.int .i64 (-1))), none⟩])
 (.ret))
 (.skip)))
 (.seq (.region [xm s214 s010,
 xm s215 s015,
 ⟨some s216, .bin .add (.t s214) (.t s215), none⟩,
 xm s004 s216])
 (.ret))))
 (.skip)))))))))))))
 (.seq (.region [⟨some s004, .move (.c (.int .i64 (-1))), none⟩])
 (.ret))))))))))
def r_stringslite_Index : List XR := [.tmp s004]
theorem ok_stringslite_Index : okC Tryd.prog Tryd.f27.ntmps (bodyOf Tryd.f27) x_stringslite_Index = true := by kernel_rfl
theorem okr_stringslite_Index : okRs Tryd.prog Tryd.f27.results.toList r_stringslite_Index = true := by kernel_rfl

/-- utf8.decodeRuneInStringSlow -/
def x_utf8_decodeRuneInStringSlow : XC :=
 .seq (.region [⟨some s002, .move (.c (.int .i32 0)), none⟩,
 ⟨some s003, .move (.c (.int .i64 0)), none⟩])
 (.seq (.region [xm s015 s000,
 ⟨some s016, .slen (.t s015), none⟩,
 xm s004 s016])
 (.seq (.seq (.region [xm s017 s004,
 ⟨some s020, .bin .lss (.t s017) (.c (.int .i64 1)), none⟩])
 (.cond (.t s020)
 (.seq (.region [⟨some s002, .move (.c (.int .i32 65533)), none⟩,
 ⟨some s003, .move (.c (.int .i64 0)), none⟩])
 (.ret))
 (.skip)))
 (.seq (.region [xm s021 s000,
 ⟨some s022, .strAt (.t s021) (.c (.int .i64 0)), none⟩,
 xm s005 s022])
 (.seq (.region [xm s023 s005,
 ⟨some s024, .gidx 1 256 1 (.t s023), none⟩,
 xl s025 s024,
 xm s006 s025])
 (.seq (.seq (.region [xm s026 s006,
 ⟨some s027, .bin .geq (.t s026) (.c (.int .u8 240)), none⟩])
 (.cond (.t s027)
 (.seq (.region [xm s030 s006,
 ⟨some s031, .convInt .i32 (.t s030), none⟩,
 ⟨some s032, .bin .shl (.t s031) (.c (.int .u64 31)), none⟩,
 ⟨some s033, .bin .shr (.t s032) (.c (.int .u64 31)), none⟩,
 xm s007 s033])
 (.seq (.region [xm s034 s000,
 ⟨some s035, .strAt (.t s034) (.c (.int .i64 0)), none⟩,
 ⟨some s036, .convInt .i32 (.t s035), none⟩,
 xm s037 s007,
 ⟨some s040, .bin .andNot (.t s036) (.t s037), none⟩,
 xm s041 s007,
 ⟨some s042, .bin .and (.c (.int .i32 65533)) (.t s041), none⟩,
 ⟨some s043, .bin .or (.t s040) (.t s042), none⟩,
 xm s002 s043,
 ⟨some s003, .move (.c (.int .i64 1)), none⟩])
 (.ret)))
 (.skip)))
 (.seq (.region [xm s044 s006,
 ⟨some s045, .bin .and (.t s044) (.c (.int .u8 7)), none⟩,
 ⟨some s046, .convInt .i64 (.t s045), none⟩,
 xm s010 s046])
 (.seq (.region [xm s047 s006,
 ⟨some s050, .bin .shr (.t s047) (.c (.int .u64 4)), none⟩,
 ⟨some s051, .gidx 2 16 2 (.t s050), none⟩,
 ⟨some s052, .load true 2 (.t s051), none⟩,
 ⟨some s011, .alloc 0 [.int .u8 0, .int .u8 0], none⟩,
 ⟨none, .store 2 (.t s011) (.t s052), none⟩])
 (.seq (.seq (.region [xm s053 s004,
 xm s054 s010,
 ⟨some s055, .bin .lss (.t s053) (.t s054), none⟩])
 (.cond (.t s055)
 (.seq (.region [⟨some s002, .move (.c (.int .i32 65533)), none⟩,
 ⟨some s003, .move (.c (.int .i64 1)), none⟩])
 (.ret))
 (.skip)))
 (.seq (.region [xm s056 s000,
 ⟨some s057, .strAt (.t s056) (.c (.int .i64 1)), none⟩,
 xm s012 s057])
 (.seq (.seq (.region [xm s060 s012,
 xf 0 s061 s011,
 xl s062 s061,
 ⟨some s063, .bin .lss (.t s060) (.t s062), none⟩,
 xm s064 s063,
 ⟨some s065, .fieldAddr 1 (.t s011), some (s064, false)⟩,
 ⟨some s066, .load false 1 (.t s065), some (s064, false)⟩,
 ⟨some s067, .move (.t s012), some (s064, false)⟩,
 ⟨some s070, .bin .lss (.t s066) (.t s067), some (s064, false)⟩,
 ⟨some s071, .pick (.t s064) (.c (.bool true)) (.t s070), none⟩])
 (.cond (.t s071)
 (.seq (.region [⟨some s002, .move (.c (.int .i32 65533)), none⟩,
 ⟨some s003, .move (.c (.int .i64 1)), none⟩])
 (.ret))
 (.skip)))
 (.seq (.seq (.region [xm s072 s010,
 ⟨some s073, .bin .leq (.t s072) (.c (.int .i64 2)), none⟩])
 (.cond (.t s073)
 (.seq (.region [xm s074 s005,
 ⟨some s075, .bin .and (.t s074) (.c (.int .u8 31)), none⟩,
 ⟨some s076, .convInt .i32 (.t s075), none⟩,
 ⟨some s077, .bin .shl (.t s076) (.c (.int .u64 6)), none⟩,
 xm s100 s012,
 ⟨some s101, .bin .and (.t s100) (.c (.int .u8 63)), none⟩,
 ⟨some s102, .convInt .i32 (.t s101), none⟩,
 ⟨some s103, .bin .or (.t s077) (.t s102), none⟩,
 xm s002 s103,
 ⟨some s003, .move (.c (.int .i64 2)), none⟩])
 (.ret))
 (.skip)))
 (.seq (.region [xm s104 s000,
 ⟨some s105, .strAt (.t s104) (.c (.int .i64 2)), none⟩,
 xm s013 s105])
 (.seq (.seq (.region [xm s106 s013,
 ⟨some s107, .bin .lss (.t s106) (.c (.int .u8 128)), none⟩,
 xm s110 s107,
 ⟨some s111, .move (.t s013), some (s110, false)⟩,
 ⟨some s112, .bin .lss (.c (.int .u8 191)) (.t s111), some (s110, false)⟩,
 ⟨some s113, .pick (.t s110) (.c (.bool true)) (.t s112), none⟩])
 (.cond (.t s113)
 (.seq (.region [⟨some s002, .move (.c (.int .i32 65533)), none⟩,
 ⟨some s003, .move (.c (.int .i64 1)), none⟩])
 (.ret))
 (.skip)))
 (.seq (.seq (.region [xm s114 s010,
 ⟨some s115, .bin .leq (.t s114) (.c (.int .i64 3)), none⟩])
 (.cond (.t s115)
 (.seq (.region [xm s116 s005,
 ⟨some s117, .bin .and (.t s116) (.c (.int .u8 15)), none⟩,
 ⟨some s120, .convInt .i32 (.t s117), none⟩,
 ⟨some s121, .bin .shl (.t s120) (.c (.int .u64 12)), none⟩,
 xm s122 s012,
 ⟨some s123, .bin .and (.t s122) (.c (.int .u8 63)), none⟩,
 ⟨some s124, .convInt .i32 (.t s123), none⟩,
 ⟨some s125, .bin .shl (.t s124) (.c (.int .u64 6)), none⟩,
 ⟨some s126, .bin .or (.t s121) (.t s125), none⟩,
 xm s127 s013,
 ⟨some s130, .bin .and (.t s127) (.c (.int .u8 63)), none⟩,
 ⟨some s131, .convInt .i32 (.t s130), none⟩,
 ⟨some s132, .bin .or (.t s126) (.t s131), none⟩,
 xm s002 s132,
 ⟨some s003, .move (.c (.int .i64 3)), none⟩])
 (.ret))
 (.skip)))
 (.seq (.region [xm s133 s000,
 ⟨some s134, .strAt (.t s133) (.c (.int .i64 3)), none⟩,
 xm s014 s134])
 (.seq (.seq (.region [xm s135 s014,
 ⟨some s136, .bin .lss (.t s135) (.c (.int .u8 128)), none⟩,
 xm s137 s136,
 ⟨some s140, .move (.t s014), some (s137, false)⟩,
 ⟨some s141, .bin .lss (.c (.int .u8 191)) (.t s140), some (s137, false)⟩,
 ⟨some s142, .pick (.t s137) (.c (.bool true)) (.t s141), none⟩])
 (.cond (.t s142)
 (.seq (.region [⟨some s002, .move (.c (.int .i32 65533)), none⟩,
 ⟨some s003, .move (.c (.int .i64 1)), none⟩])
 (.ret))
 (.skip)))
 (.seq (.region [xm s143 s005,
 ⟨some s144, .bin .and (.t s143) (.c (.int .u8 7)), none⟩,
 ⟨some s145, .convInt .i32 (.t s144), none⟩,
 ⟨some s146, .bin .shl (.t s145) (.c (.int .u64 18)), none⟩,
 xm s147 s012,
 ⟨some s150, .bin .and (.t s147) (.c (.int .u8 63)), none⟩,
 ⟨some s151, .convInt .i32 (.t s150), none⟩,
 ⟨some s152, .bin .shl (.t s151) (.c (.int .u64 12)), none⟩,
 ⟨some s153, .bin .or (.t s146) (.t s152), none⟩,
 xm s154 s013,
 ⟨some s155, .bin .and (.t s154) (.c (.int .u8 63)), none⟩,
 ⟨some s156, .convInt .i32 (.t s155), none⟩,
 ⟨some s157, .bin .shl (.t s156) (.c (.int .u64 6)), none⟩,
 ⟨some s160, .bin .or (.t s153) (.t s157), none⟩,
 xm s161 s014,
 ⟨some s162, .bin .and (.t s161) (.c (.int .u8 63)), none⟩,
 ⟨some s163, .convInt .i32 (.t s162), none⟩,
 ⟨some s164, .bin .or (.t s160) (.t s163), none⟩,
 xm s002 s164,
 ⟨some s003, .move (.c (.int .i64 4)), none⟩])
 (.ret))))))))))))))))))
def r_utf8_decodeRuneInStringSlow : List XR := [.tmp s002, .tmp s003]
theorem ok_utf8_decodeRuneInStringSlow : okC Tryd.prog Tryd.f30.ntmps (bodyOf Tryd.f30) x_utf8_decodeRuneInStringSlow = true := by kernel_rfl
theorem okr_utf8_decodeRuneInStringSlow : okRs Tryd.prog Tryd.f30.results.toList r_utf8_decodeRuneInStringSlow = true := by kernel_rfl

/-- bytealg.Cutover -/
def x_bytealg_Cutover : XC :=
 .seq (.region [⟨some s002, .move (.c (.int .i64 0)), none⟩])
 (.seq (.region [xm s003 s000,
 ⟨some s004, .bin .add (.t s003) (.c (.int .i64 16)), none⟩,
 ⟨some s005, .bin .quo (.t s004) (.c (.int .i64 8)), none⟩,
 xm s002 s005])
 (.ret))
def r_bytealg_Cutover : List XR := [.tmp s002]
theorem ok_bytealg_Cutover : okC Tryd.prog Tryd.f32.ntmps (bodyOf Tryd.f32) x_bytealg_Cutover = true := by kernel_rfl
theorem okr_bytealg_Cutover : okRs Tryd.prog Tryd.f32.results.toList r_bytealg_Cutover = true := by kernel_rfl

/-- bytealg.IndexRabinKarp -/
def x_bytealg_IndexRabinKarp_string : XC :=
 .seq (.region [⟨some s004, .move (.c (.int .i64 0)), none⟩])
 (.seq (.region [xm s014 s001,
 ⟨some s015, .call 34 [(.t s014)], none⟩,
 xm s013 s015,
 ⟨some s016, .extract 0 (.t s013), none⟩,
 ⟨some s017, .extract 1 (.t s013), none⟩,
 xm s005 s016,
 xm s006 s017])
 (.seq (.region [xm s020 s001,
 ⟨some s021, .slen (.t s020), none⟩,
 xm s007 s021])
 (.seq (.region [⟨some s010, .move (.c (.int .u32 0)), none⟩])
 (.seq (.seq (.region [⟨some s011, .move (.c (.int .i64 0)), none⟩])
 (.block 0
 (.loop
 (.seq (.seq (.region [xm s022 s011,
 xm s023 s007,
 ⟨some s024, .bin .lss (.t s022) (.t s023), none⟩])
 (.cond (.t s024)
 (.skip)
 (.exit 0)))
 (.seq (.block 1
 (.region [xm s027 s010,
 ⟨some s030, .bin .mul (.t s027) (.c (.int .u32 16777619)), none⟩,
 xm s031 s000,
 xm s032 s011,
 ⟨some s033, .strAt (.t s031) (.t s032), none⟩,
 ⟨some s034, .convInt .u32 (.t s033), none⟩,
 ⟨some s035, .bin .add (.t s030) (.t s034), none⟩,
 xm s010 s035]))
 (.region [xm s025 s011,
 ⟨some s026, .bin .add (.t s025) (.c (.int .i64 1)), none⟩,
 xm s011 s026]))))))
 (.seq (.seq (.region [xm s036 s010,
 xm s037 s005,
 ⟨some s040, .bin .eql (.t s036) (.t s037), none⟩,
 xm s041 s040,
 ⟨some s042, .move (.t s000), some (s041, true)⟩,
 ⟨some s043, .move (.t s007), some (s041, true)⟩,
 ⟨some s044, .substr (.t s042) none (some (.t s043)), some (s041, true)⟩,
 ⟨some s045, .move (.t s001), some (s041, true)⟩,
 ⟨some s046, .sbin .eql (.t s044) (.t s045), some (s041, true)⟩,
 ⟨some s047, .pick (.t s041) (.t s046) (.c (.bool false)), none⟩])
 (.cond (.t s047)
 (.seq (.region [⟨some s004, .move (.c (.int .i64 0)), none⟩])
 (.ret))
 (.skip)))
 (.seq (.seq (.region [xm s050 s007,
 xm s012 s050])
 (.block 2
 (.loop
 (.seq (.seq (.region [xm s051 s012,
 xm s052 s000,
 ⟨some s053, .slen (.t s052), none⟩,
 ⟨some s054, .bin .lss (.t s051) (.t s053), none⟩])
 (.cond (.t s054)
 (.skip)
 (.exit 2)))
 (.block 3
 (.seq (.region [xm s055 s010,
 ⟨some s056, .bin .mul (.t s055) (.c (.int .u32 16777619)), none⟩,
 xm s010 s056])
 (.seq (.region [xm s057 s010,
 xm s060 s000,
 xm s061 s012,
 ⟨some s062, .strAt (.t s060) (.t s061), none⟩,
 ⟨some s063, .convInt .u32 (.t s062), none⟩,
 ⟨some s064, .bin .add (.t s057) (.t s063), none⟩,
 xm s010 s064])
 (.seq (.region [xm s065 s010,
 xm s066 s006,
 xm s067 s000,
 xm s070 s012,
 xm s071 s007,
 ⟨some s072, .bin .sub (.t s070) (.t s071), none⟩,
 ⟨some s073, .strAt (.t s067) (.t s072), none⟩,
 ⟨some s074, .convInt .u32 (.t s073), none⟩,
 ⟨some s075, .bin .mul (.t s066) (.t s074), none⟩,
 ⟨some s076, .bin .sub (.t s065) (.t s075), none⟩,
 xm s010 s076])
 (.seq (.region [xm s077 s012,
 ⟨some s100, .bin .add (.t s077) (.c (.int .i64 1)), none⟩,
 xm s012 s100])
 (.seq (.region [xm s101 s010,
 xm s102 s005,
 ⟨some s103, .bin .eql (.t s101) (.t s102), none⟩,
 xm s104 s103,
 ⟨some s105, .move (.t s000), some (s104, true)⟩,
 ⟨some s106, .move (.t s012), some (s104, true)⟩,
 ⟨some s107, .move (.t s007), some (s104, true)⟩,
 ⟨some s110, .bin .sub (.t s106) (.t s107), some (s104, true)⟩,
 ⟨some s111, .move (.t s012), some (s104, true)⟩,
 ⟨some s112, .substr (.t s105) (some (.t s110)) (some (.t s111)), some (s104, true)⟩,
 ⟨some s113, .move (.t s001), some (s104, true)⟩,
 ⟨some s114, .sbin .eql (.t s112) (.t s113), some (s104, true)⟩,
 ⟨some s115, .pick (.t s104) (.t s114) (.c (.bool false)), none⟩])
 (.cond (.t s115)
 (.seq (.region [xm s116 s012,
 xm s117 s007,
 ⟨some s120, .bin .sub (.t s116) (.t s117), none⟩,
 xm s004 s120])
 (.ret))
 (.skip))))))))))))
 (.seq (.region [⟨some s004, .move (.c (.int .i64 (-1))), none⟩])
 (.ret))))))))
def r_bytealg_IndexRabinKarp_string : List XR := [.tmp s004]
theorem ok_bytealg_IndexRabinKarp_string : okC Tryd.prog Tryd.f33.ntmps (bodyOf Tryd.f33) x_bytealg_IndexRabinKarp_string = true := by kernel_rfl
theorem okr_bytealg_IndexRabinKarp_string : okRs Tryd.prog Tryd.f33.results.toList r_bytealg_IndexRabinKarp_string = true := by kernel_rfl

/-- bytealg.hashStr -/
def x_bytealg_hashStr_string : XC :=
 .seq (.region [⟨some s002, .move (.c (.int .u32 0)), none⟩,
 ⟨some s003, .move (.c (.int .u32 0)), none⟩])
 (.seq (.region [⟨some s004, .move (.c (.int .u32 0)), none⟩])
 (.seq (.seq (.region [⟨some s005, .move (.c (.int .i64 0)), none⟩])
 (.block 0
 (.loop
 (.seq (.seq (.region [xm s011 s005,
 xm s012 s000,
 ⟨some s013, .slen (.t s012), none⟩,
 ⟨some s014, .bin .lss (.t s011) (.t s013), none⟩])
 (.cond (.t s014)
 (.skip)
 (.exit 0)))
 (.seq (.block 1
 (.region [xm s017 s004,
 ⟨some s020, .bin .mul (.t s017) (.c (.int .u32 16777619)), none⟩,
 xm s021 s000,
 xm s022 s005,
 ⟨some s023, .strAt (.t s021) (.t s022), none⟩,
 ⟨some s024, .convInt .u32 (.t s023), none⟩,
 ⟨some s025, .bin .add (.t s020) (.t s024), none⟩,
 xm s004 s025]))
 (.region [xm s015 s005,
 ⟨some s016, .bin .add (.t s015) (.c (.int .i64 1)), none⟩,
 xm s005 s016]))))))
 (.seq (.region [⟨some s006, .move (.c (.int .u32 1)), none⟩,
 ⟨some s007, .move (.c (.int .u32 16777619)), none⟩])
 (.seq (.seq (.region [xm s026 s000,
 ⟨some s027, .slen (.t s026), none⟩,
 xm s010 s027])
 (.block 2
 (.loop
 (.seq (.seq (.region [xm s030 s010,
 ⟨some s031, .bin .gtr (.t s030) (.c (.int .i64 0)), none⟩])
 (.cond (.t s031)
 (.skip)
 (.exit 2)))
 (.seq (.block 3
 (.seq (.seq (.region [xm s034 s010,
 ⟨some s035, .bin .and (.t s034) (.c (.int .i64 1)), none⟩,
 ⟨some s036, .bin .neq (.t s035) (.c (.int .i64 0)), none⟩])
 (.cond (.t s036)
 (.region [xm s037 s006,
 xm s040 s007,
 ⟨some s041, .bin .mul (.t s037) (.t s040), none⟩,
 xm s006 s041])
 (.skip)))
 (.region [xm s042 s007,
 xm s043 s007,
 ⟨some s044, .bin .mul (.t s042) (.t s043), none⟩,
 xm s007 s044])))
 (.region [xm s032 s010,
 ⟨some s033, .bin .shr (.t s032) (.c (.int .u64 1)), none⟩,
 xm s010 s033]))))))
 (.seq (.region [xm s045 s004,
 xm s046 s006,
 xm s002 s045,
 xm s003 s046])
 (.ret))))))
def r_bytealg_hashStr_string : List XR := [.tmp s002, .tmp s003]
theorem ok_bytealg_hashStr_string : okC Tryd.prog Tryd.f34.ntmps (bodyOf Tryd.f34) x_bytealg_hashStr_string = true := by kernel_rfl
theorem okr_bytealg_hashStr_string : okRs Tryd.prog Tryd.f34.results.toList r_bytealg_hashStr_string = true := by kernel_rfl
end Go.Proofs.YtcbcmaahgldlfaaDoor
