/-
  The functions of the program in short form, and that the model's code is what they stand for. Printed by xgen.py.
-/
import Derived.Test.YtbcamncabckbnaaGreatDoorFw
import Derived.Test.YtbcamncabckbnaaGreatDoorProg
import Derived.KernelRfl
namespace Go.Proofs.YtbcamncabckbnaaGreatDoor
set_option linter.unusedVariables false
set_option maxRecDepth 100000

def zv107 : List Value := List.replicate 24 (.int .u8 0)
def zv124 : List Value := List.replicate 65 (.int .u8 0)
abbrev xm (a b : Sl) : XOp := ⟨some a, .move (.t b), none⟩
abbrev xl (a b : Sl) : XOp := ⟨some a, .load false 1 (.t b), none⟩
abbrev xf (n : Nat) (a b : Sl) : XOp := ⟨some a, .fieldAddr n (.t b), none⟩
/-! The slots by name. -/
abbrev s000 : Sl := ⟨.d0, .d0, .d0⟩
abbrev s001 : Sl := ⟨.d0, .d0, .d1⟩
abbrev s002 : Sl := ⟨.d0, .d0, .d2⟩
abbrev s003 : Sl := ⟨.d0, .d0, .d3⟩
abbrev s004 : Sl := ⟨.d0, .d0, .d4⟩
abbrev s005 : Sl := ⟨.d0, .d0, .d5⟩
abbrev s006 : Sl := ⟨.d0, .d0, .d6⟩
abbrev s007 : Sl := ⟨.d0, .d0, .d7⟩
abbrev s010 : Sl := ⟨.d0, .d1, .d0⟩
abbrev s011 : Sl := ⟨.d0, .d1, .d1⟩
abbrev s012 : Sl := ⟨.d0, .d1, .d2⟩
abbrev s013 : Sl := ⟨.d0, .d1, .d3⟩
abbrev s014 : Sl := ⟨.d0, .d1, .d4⟩
abbrev s015 : Sl := ⟨.d0, .d1, .d5⟩
abbrev s016 : Sl := ⟨.d0, .d1, .d6⟩
abbrev s017 : Sl := ⟨.d0, .d1, .d7⟩
abbrev s020 : Sl := ⟨.d0, .d2, .d0⟩
abbrev s021 : Sl := ⟨.d0, .d2, .d1⟩
abbrev s022 : Sl := ⟨.d0, .d2, .d2⟩
abbrev s023 : Sl := ⟨.d0, .d2, .d3⟩
abbrev s024 : Sl := ⟨.d0, .d2, .d4⟩
abbrev s025 : Sl := ⟨.d0, .d2, .d5⟩
abbrev s026 : Sl := ⟨.d0, .d2, .d6⟩
abbrev s027 : Sl := ⟨.d0, .d2, .d7⟩
abbrev s030 : Sl := ⟨.d0, .d3, .d0⟩
abbrev s031 : Sl := ⟨.d0, .d3, .d1⟩
abbrev s032 : Sl := ⟨.d0, .d3, .d2⟩
abbrev s033 : Sl := ⟨.d0, .d3, .d3⟩
abbrev s034 : Sl := ⟨.d0, .d3, .d4⟩
abbrev s035 : Sl := ⟨.d0, .d3, .d5⟩
abbrev s036 : Sl := ⟨.d0, .d3, .d6⟩
abbrev s037 : Sl := ⟨.d0, .d3, .d7⟩
abbrev s040 : Sl := ⟨.d0, .d4, .d0⟩
abbrev s041 : Sl := ⟨.d0, .d4, .d1⟩
abbrev s042 : Sl := ⟨.d0, .d4, .d2⟩
abbrev s043 : Sl := ⟨.d0, .d4, .d3⟩
abbrev s044 : Sl := ⟨.d0, .d4, .d4⟩
abbrev s045 : Sl := ⟨.d0, .d4, .d5⟩
abbrev s046 : Sl := ⟨.d0, .d4, .d6⟩
abbrev s047 : Sl := ⟨.d0, .d4, .d7⟩
abbrev s050 : Sl := ⟨.d0, .d5, .d0⟩
abbrev s051 : Sl := ⟨.d0, .d5, .d1⟩
abbrev s052 : Sl := ⟨.d0, .d5, .d2⟩
abbrev s053 : Sl := ⟨.d0, .d5, .d3⟩
abbrev s054 : Sl := ⟨.d0, .d5, .d4⟩
abbrev s055 : Sl := ⟨.d0, .d5, .d5⟩
abbrev s056 : Sl := ⟨.d0, .d5, .d6⟩
abbrev s057 : Sl := ⟨.d0, .d5, .d7⟩
abbrev s060 : Sl := ⟨.d0, .d6, .d0⟩
abbrev s061 : Sl := ⟨.d0, .d6, .d1⟩
abbrev s062 : Sl := ⟨.d0, .d6, .d2⟩
abbrev s063 : Sl := ⟨.d0, .d6, .d3⟩
abbrev s064 : Sl := ⟨.d0, .d6, .d4⟩
abbrev s065 : Sl := ⟨.d0, .d6, .d5⟩
abbrev s066 : Sl := ⟨.d0, .d6, .d6⟩
abbrev s067 : Sl := ⟨.d0, .d6, .d7⟩
abbrev s070 : Sl := ⟨.d0, .d7, .d0⟩
abbrev s071 : Sl := ⟨.d0, .d7, .d1⟩
abbrev s072 : Sl := ⟨.d0, .d7, .d2⟩
abbrev s073 : Sl := ⟨.d0, .d7, .d3⟩
abbrev s074 : Sl := ⟨.d0, .d7, .d4⟩
abbrev s075 : Sl := ⟨.d0, .d7, .d5⟩
abbrev s076 : Sl := ⟨.d0, .d7, .d6⟩
abbrev s077 : Sl := ⟨.d0, .d7, .d7⟩
abbrev s100 : Sl := ⟨.d1, .d0, .d0⟩
abbrev s101 : Sl := ⟨.d1, .d0, .d1⟩
abbrev s102 : Sl := ⟨.d1, .d0, .d2⟩
abbrev s103 : Sl := ⟨.d1, .d0, .d3⟩
abbrev s104 : Sl := ⟨.d1, .d0, .d4⟩
abbrev s105 : Sl := ⟨.d1, .d0, .d5⟩
abbrev s106 : Sl := ⟨.d1, .d0, .d6⟩
abbrev s107 : Sl := ⟨.d1, .d0, .d7⟩
abbrev s110 : Sl := ⟨.d1, .d1, .d0⟩
abbrev s111 : Sl := ⟨.d1, .d1, .d1⟩
abbrev s112 : Sl := ⟨.d1, .d1, .d2⟩
abbrev s113 : Sl := ⟨.d1, .d1, .d3⟩
abbrev s114 : Sl := ⟨.d1, .d1, .d4⟩
abbrev s115 : Sl := ⟨.d1, .d1, .d5⟩
abbrev s116 : Sl := ⟨.d1, .d1, .d6⟩
abbrev s117 : Sl := ⟨.d1, .d1, .d7⟩
abbrev s120 : Sl := ⟨.d1, .d2, .d0⟩
abbrev s121 : Sl := ⟨.d1, .d2, .d1⟩
abbrev s122 : Sl := ⟨.d1, .d2, .d2⟩
abbrev s123 : Sl := ⟨.d1, .d2, .d3⟩
abbrev s124 : Sl := ⟨.d1, .d2, .d4⟩
abbrev s125 : Sl := ⟨.d1, .d2, .d5⟩
abbrev s126 : Sl := ⟨.d1, .d2, .d6⟩
abbrev s127 : Sl := ⟨.d1, .d2, .d7⟩
abbrev s130 : Sl := ⟨.d1, .d3, .d0⟩
abbrev s131 : Sl := ⟨.d1, .d3, .d1⟩
abbrev s132 : Sl := ⟨.d1, .d3, .d2⟩
abbrev s133 : Sl := ⟨.d1, .d3, .d3⟩
abbrev s134 : Sl := ⟨.d1, .d3, .d4⟩
abbrev s135 : Sl := ⟨.d1, .d3, .d5⟩
abbrev s136 : Sl := ⟨.d1, .d3, .d6⟩
abbrev s137 : Sl := ⟨.d1, .d3, .d7⟩
abbrev s140 : Sl := ⟨.d1, .d4, .d0⟩
abbrev s141 : Sl := ⟨.d1, .d4, .d1⟩
abbrev s142 : Sl := ⟨.d1, .d4, .d2⟩
abbrev s143 : Sl := ⟨.d1, .d4, .d3⟩
abbrev s144 : Sl := ⟨.d1, .d4, .d4⟩
abbrev s145 : Sl := ⟨.d1, .d4, .d5⟩
abbrev s146 : Sl := ⟨.d1, .d4, .d6⟩
abbrev s147 : Sl := ⟨.d1, .d4, .d7⟩
abbrev s150 : Sl := ⟨.d1, .d5, .d0⟩
abbrev s151 : Sl := ⟨.d1, .d5, .d1⟩
abbrev s152 : Sl := ⟨.d1, .d5, .d2⟩
abbrev s153 : Sl := ⟨.d1, .d5, .d3⟩
abbrev s154 : Sl := ⟨.d1, .d5, .d4⟩
abbrev s155 : Sl := ⟨.d1, .d5, .d5⟩
abbrev s156 : Sl := ⟨.d1, .d5, .d6⟩
abbrev s157 : Sl := ⟨.d1, .d5, .d7⟩
abbrev s160 : Sl := ⟨.d1, .d6, .d0⟩
abbrev s161 : Sl := ⟨.d1, .d6, .d1⟩
abbrev s162 : Sl := ⟨.d1, .d6, .d2⟩
abbrev s163 : Sl := ⟨.d1, .d6, .d3⟩
abbrev s164 : Sl := ⟨.d1, .d6, .d4⟩
abbrev s165 : Sl := ⟨.d1, .d6, .d5⟩
abbrev s166 : Sl := ⟨.d1, .d6, .d6⟩
abbrev s167 : Sl := ⟨.d1, .d6, .d7⟩
abbrev s170 : Sl := ⟨.d1, .d7, .d0⟩
abbrev s171 : Sl := ⟨.d1, .d7, .d1⟩
abbrev s172 : Sl := ⟨.d1, .d7, .d2⟩
abbrev s173 : Sl := ⟨.d1, .d7, .d3⟩
abbrev s174 : Sl := ⟨.d1, .d7, .d4⟩
abbrev s175 : Sl := ⟨.d1, .d7, .d5⟩
abbrev s176 : Sl := ⟨.d1, .d7, .d6⟩
abbrev s177 : Sl := ⟨.d1, .d7, .d7⟩
abbrev s200 : Sl := ⟨.d2, .d0, .d0⟩
abbrev s201 : Sl := ⟨.d2, .d0, .d1⟩
abbrev s202 : Sl := ⟨.d2, .d0, .d2⟩
abbrev s203 : Sl := ⟨.d2, .d0, .d3⟩
abbrev s204 : Sl := ⟨.d2, .d0, .d4⟩
abbrev s205 : Sl := ⟨.d2, .d0, .d5⟩
abbrev s206 : Sl := ⟨.d2, .d0, .d6⟩
abbrev s207 : Sl := ⟨.d2, .d0, .d7⟩
abbrev s210 : Sl := ⟨.d2, .d1, .d0⟩
abbrev s211 : Sl := ⟨.d2, .d1, .d1⟩
abbrev s212 : Sl := ⟨.d2, .d1, .d2⟩
abbrev s213 : Sl := ⟨.d2, .d1, .d3⟩
abbrev s214 : Sl := ⟨.d2, .d1, .d4⟩
abbrev s215 : Sl := ⟨.d2, .d1, .d5⟩
abbrev s216 : Sl := ⟨.d2, .d1, .d6⟩
abbrev s217 : Sl := ⟨.d2, .d1, .d7⟩
abbrev s220 : Sl := ⟨.d2, .d2, .d0⟩
abbrev s221 : Sl := ⟨.d2, .d2, .d1⟩
abbrev s222 : Sl := ⟨.d2, .d2, .d2⟩
abbrev s223 : Sl := ⟨.d2, .d2, .d3⟩
abbrev s224 : Sl := ⟨.d2, .d2, .d4⟩
abbrev s225 : Sl := ⟨.d2, .d2, .d5⟩
abbrev s226 : Sl := ⟨.d2, .d2, .d6⟩
abbrev s227 : Sl := ⟨.d2, .d2, .d7⟩
abbrev s230 : Sl := ⟨.d2, .d3, .d0⟩
abbrev s231 : Sl := ⟨.d2, .d3, .d1⟩
abbrev s232 : Sl := ⟨.d2, .d3, .d2⟩
abbrev s233 : Sl := ⟨.d2, .d3, .d3⟩
abbrev s234 : Sl := ⟨.d2, .d3, .d4⟩
abbrev s235 : Sl := ⟨.d2, .d3, .d5⟩
abbrev s236 : Sl := ⟨.d2, .d3, .d6⟩
abbrev s237 : Sl := ⟨.d2, .d3, .d7⟩
abbrev s240 : Sl := ⟨.d2, .d4, .d0⟩
abbrev s241 : Sl := ⟨.d2, .d4, .d1⟩
abbrev s242 : Sl := ⟨.d2, .d4, .d2⟩
abbrev s243 : Sl := ⟨.d2, .d4, .d3⟩
abbrev s244 : Sl := ⟨.d2, .d4, .d4⟩
abbrev s245 : Sl := ⟨.d2, .d4, .d5⟩
abbrev s246 : Sl := ⟨.d2, .d4, .d6⟩
abbrev s247 : Sl := ⟨.d2, .d4, .d7⟩
abbrev s250 : Sl := ⟨.d2, .d5, .d0⟩
abbrev s251 : Sl := ⟨.d2, .d5, .d1⟩
abbrev s252 : Sl := ⟨.d2, .d5, .d2⟩
abbrev s253 : Sl := ⟨.d2, .d5, .d3⟩
/-- The slots worked out. -/
theorem auC {p q : Prop} (h : q) (e : q → p := by intro hq; dsimp only [xm, xl, xf, s000, s001, s002, s003, s004, s005, s006, s007, s010, s011, s012, s013, s014, s015, s016, s017, s020, s021, s022, s023, s024, s025, s026, s027, s030, s031, s032, s033, s034, s035, s036, s037, s040, s041, s042, s043, s044, s045, s046, s047, s050, s051, s052, s053, s054, s055, s056, s057, s060, s061, s062, s063, s064, s065, s066, s067, s070, s071, s072, s073, s074, s075, s076, s077, s100, s101, s102, s103, s104, s105, s106, s107, s110, s111, s112, s113, s114, s115, s116, s117, s120, s121, s122, s123, s124, s125, s126, s127, s130, s131, s132, s133, s134, s135, s136, s137, s140, s141, s142, s143, s144, s145, s146, s147, s150, s151, s152, s153, s154, s155, s156, s157, s160, s161, s162, s163, s164, s165, s166, s167, s170, s171, s172, s173, s174, s175, s176, s177, s200, s201, s202, s203, s204, s205, s206, s207, s210, s211, s212, s213, s214, s215, s216, s217, s220, s221, s222, s223, s224, s225, s226, s227, s230, s231, s232, s233, s234, s235, s236, s237, s240, s241, s242, s243, s244, s245, s246, s247, s250, s251, s252, s253]; exact hq) : p := e h
/-- custlaw.ConfSays -/
def x_custlaw_ConfSays : XC :=
 .seq (.region [⟨some s002, .box 0 8 (.t s000), none⟩,
 ⟨some s004, .move (.c (.bool false)), none⟩])
 (.seq (.region [⟨some s020, .load true 8 (.t s002), none⟩,
 ⟨some s021, .call 4 [(.t s020)], none⟩,
 xm s017 s021,
 ⟨some s022, .extract 0 (.t s017), none⟩,
 ⟨some s023, .extract 1 (.t s017), none⟩,
 xm s005 s022,
 xm s006 s023])
 (.seq (.region [⟨some s025, .load true 8 (.t s002), none⟩,
 ⟨some s026, .call 5 [(.t s025)], none⟩,
 xm s024 s026,
 ⟨some s027, .extract 0 (.t s024), none⟩,
 ⟨some s030, .extract 1 (.t s024), none⟩,
 xm s007 s027,
 xm s010 s030])
 (.seq (.region [xm s032 s001,
 ⟨some s033, .call 6 [(.t s032)], none⟩,
 xm s031 s033,
 ⟨some s034, .extract 0 (.t s031), none⟩,
 ⟨some s035, .extract 1 (.t s031), none⟩,
 ⟨some s036, .extract 2 (.t s031), none⟩,
 ⟨some s011, .alloc 1 [.int .u32 0, .int .i64 0, .int .i64 0, .int .i64 0, .int .i64 0, .int .i64 0, .slice none 0 0, .bool false], none⟩,
 ⟨none, .store 8 (.t s011) (.t s034), none⟩,
 xm s012 s035,
 xm s013 s036])
 (.seq (.region [xm s040 s001,
 ⟨some s041, .call 7 [(.t s040)], none⟩,
 xm s037 s041,
 ⟨some s042, .extract 0 (.t s037), none⟩,
 ⟨some s043, .extract 1 (.t s037), none⟩,
 ⟨some s044, .extract 2 (.t s037), none⟩,
 ⟨some s014, .alloc 2 [.int .u32 0, .int .i64 0, .int .i64 0, .int .i64 0, .int .i64 0, .int .i64 0, .slice none 0 0, .bool false], none⟩,
 ⟨none, .store 8 (.t s014) (.t s042), none⟩,
 xm s015 s043,
 xm s016 s044])
 (.seq (.regionD [0, 1, 0, 7, 15, 31, 63, 63, 255, 511, 1023, 2047, 2047, 8191, 16383, 32767, 65535, 65535, 262143, 524287, 1048575, 2097151, 2097151, 8388607, 16777215, 33554431, 67108863, 67108863, 268435455, 536870911, 1073741823] [⟨some s045, .load true 8 (.t s002), none⟩,
 ⟨some s046, .call 8 [(.t s045)], none⟩,
 ⟨some s047, .load true 8 (.t s002), none⟩,
 ⟨some s050, .call 9 [(.t s047)], none⟩,
 ⟨some s051, .bin .eql (.t s046) (.t s050), none⟩,
 xm s052 s051,
 ⟨some s053, .move (.t s005), some (s052, true)⟩,
 ⟨some s054, .move (.t s007), some (s052, true)⟩,
 ⟨some s055, .sbin .eql (.t s053) (.t s054), some (s052, true)⟩,
 ⟨some s056, .pick (.t s052) (.t s055) (.c (.bool false)), none⟩,
 xm s057 s056,
 ⟨some s060, .move (.t s006), some (s057, true)⟩,
 ⟨some s061, .move (.t s010), some (s057, true)⟩,
 ⟨some s062, .bin .eql (.t s060) (.t s061), some (s057, true)⟩,
 ⟨some s063, .pick (.t s057) (.t s062) (.c (.bool false)), none⟩,
 xm s064 s063,
 ⟨some s065, .load true 8 (.t s011), some (s064, true)⟩,
 ⟨some s066, .load true 8 (.t s014), some (s064, true)⟩,
 ⟨some s067, .call 10 [(.t s065), (.t s066)], some (s064, true)⟩,
 ⟨some s070, .pick (.t s064) (.t s067) (.c (.bool false)), none⟩,
 xm s071 s070,
 ⟨some s072, .move (.t s012), some (s071, true)⟩,
 ⟨some s073, .move (.t s015), some (s071, true)⟩,
 ⟨some s074, .bin .eql (.t s072) (.t s073), some (s071, true)⟩,
 ⟨some s075, .pick (.t s071) (.t s074) (.c (.bool false)), none⟩,
 xm s076 s075,
 ⟨some s077, .move (.t s013), some (s076, true)⟩,
 ⟨some s100, .move (.t s016), some (s076, true)⟩,
 ⟨some s101, .bin .eql (.t s077) (.t s100), some (s076, true)⟩,
 ⟨some s102, .pick (.t s076) (.t s101) (.c (.bool false)), none⟩,
 xm s004 s102])
 (.ret))))))
def r_custlaw_ConfSays : List XR := [.tmp s004]
theorem ok_custlaw_ConfSays : okC Tryz.prog Tryz.f3.ntmps (bodyOf Tryz.f3) x_custlaw_ConfSays = true := by kernel_rfl
theorem okr_custlaw_ConfSays : okRs Tryz.prog Tryz.f3.results.toList r_custlaw_ConfSays = true := by kernel_rfl

/-- conf.Write -/
def x_conf_Write : XC :=
 .seq (.region [⟨some s001, .box 0 8 (.t s000), none⟩,
 ⟨some s002, .move (.c (.string { data := #[] })), none⟩,
 ⟨some s003, .move (.c (.int .i64 0)), none⟩])
 (.seq (.seq (.region [⟨some s011, .load true 8 (.t s001), none⟩,
 ⟨some s012, .call 8 [(.t s011)], none⟩,
 xm s004 s012])
 (.seq (.region [xm s013 s004,
 ⟨some s014, .bin .neq (.t s013) (.c (.int .i64 0)), none⟩])
 (.cond (.t s014)
 (.seq (.region [xm s015 s004,
 ⟨some s002, .move (.c (.string { data := #[] })), none⟩,
 xm s003 s015])
 (.ret))
 (.skip))))
 (.seq (.region [⟨some s005, .allocT 1 [.pointer none, .slice none 0 0] 37, none⟩])
 (.seq (.region [⟨some s016, .mkfn 11 [] [(.t s005)], none⟩,
 xm s006 s016])
 (.seq (.region [xm s017 s006,
 xf 0 s020 s001,
 xl s021 s020,
 ⟨some s022, .call 14 [(.t s021)], none⟩,
 ⟨some s023, .buildSlice 2 2 [.string { data := #[] }] [(0, (.c (.string { data := #[111, 117, 116, 115, 105, 100, 101] }))), (1, (.t s022))], none⟩,
 ⟨some s024, .callv (.t s017) [(.t s023)], none⟩])
 (.seq (.regionD [0, 0, 2, 6, 0, 16, 62, 126, 255] [xm s025 s006,
 xf 1 s026 s001,
 xl s027 s026,
 ⟨some s030, .call 15 [(.t s027)], none⟩,
 xf 2 s031 s001,
 xl s032 s031,
 ⟨some s033, .call 15 [(.t s032)], none⟩,
 ⟨some s034, .buildSlice 3 3 [.string { data := #[] }] [(0, (.c (.string { data := #[112, 111, 114, 116, 115] }))), (1, (.t s030)), (2, (.t s033))], none⟩,
 ⟨some s035, .callv (.t s025) [(.t s034)], none⟩])
 (.seq (.region [xm s036 s006,
 xf 3 s037 s001,
 xl s040 s037,
 ⟨some s041, .call 15 [(.t s040)], none⟩,
 ⟨some s042, .buildSlice 4 2 [.string { data := #[] }] [(0, (.c (.string { data := #[108, 105, 102, 101] }))), (1, (.t s041))], none⟩,
 ⟨some s043, .callv (.t s036) [(.t s042)], none⟩])
 (.seq (.regionD [0, 0, 2, 6, 0, 16, 62, 126, 255] [xm s044 s006,
 xf 4 s045 s001,
 xl s046 s045,
 ⟨some s047, .call 15 [(.t s046)], none⟩,
 xf 5 s050 s001,
 xl s051 s050,
 ⟨some s052, .call 15 [(.t s051)], none⟩,
 ⟨some s053, .buildSlice 5 3 [.string { data := #[] }] [(0, (.c (.string { data := #[114, 97, 116, 101] }))), (1, (.t s047)), (2, (.t s052))], none⟩,
 ⟨some s054, .callv (.t s044) [(.t s053)], none⟩])
 (.seq (.seq (.region [xf 6 s055 s001,
 xl s056 s055,
 ⟨some s057, .len (.t s056), none⟩,
 ⟨some s060, .move (.c (.int .i64 0)), none⟩])
 (.block 0
 (.loop
 (.seq (.region [⟨some s061, .bin .lss (.t s060) (.t s057), none⟩])
 (.seq (.cond (.t s061)
 (.skip)
 (.exit 0))
 (.seq (.block 1
 (.seq (.region [⟨some s062, .indexSl 10 (.t s056) (.t s060), none⟩,
 ⟨some s063, .load true 10 (.t s062), none⟩,
 ⟨some s010, .alloc 6 [.int .u32 0, .int .i64 0, .int .u32 0, .int .i64 0, .int .i64 0, .int .i64 0, .int .i64 0, .int .i64 0, .int .i64 0, .bool false], none⟩,
 ⟨none, .store 10 (.t s010) (.t s063), none⟩])
 (.regionD [0, 0, 2, 6, 0, 16, 62, 0, 128, 510, 0, 1024, 4094, 0, 8192, 0, 32768, 131070, 0, 262144, 0, 1048576, 4194302, 8388606, 16777215] [xm s064 s006,
 xf 9 s065 s010,
 xl s066 s065,
 ⟨some s067, .call 16 [(.t s066)], none⟩,
 xf 0 s070 s010,
 ⟨some s071, .load true 2 (.t s070), none⟩,
 ⟨some s072, .call 17 [(.t s071)], none⟩,
 xf 2 s073 s010,
 ⟨some s074, .load true 2 (.t s073), none⟩,
 ⟨some s075, .call 17 [(.t s074)], none⟩,
 xf 4 s076 s010,
 xl s077 s076,
 ⟨some s100, .call 15 [(.t s077)], none⟩,
 xf 5 s101 s010,
 xl s102 s101,
 xf 6 s103 s010,
 xl s104 s103,
 ⟨some s105, .call 18 [(.t s102), (.t s104)], none⟩,
 xf 7 s106 s010,
 xl s107 s106,
 xf 8 s110 s010,
 xl s111 s110,
 ⟨some s112, .call 18 [(.t s107), (.t s111)], none⟩,
 ⟨some s113, .buildSlice 7 6 [.string { data := #[] }] [(0, (.t s067)), (1, (.t s072)), (2, (.t s075)), (3, (.t s100)), (4, (.t s105)), (5, (.t s112))], none⟩,
 ⟨some s114, .callv (.t s064) [(.t s113)], none⟩])))
 (.region [⟨some s115, .bin .add (.t s060) (.c (.int .i64 1)), none⟩,
 xm s060 s115])))))))
 (.seq (.region [xm s116 s006,
 xf 7 s117 s001,
 xl s120 s117,
 ⟨some s121, .call 16 [(.t s120)], none⟩,
 ⟨some s122, .buildSlice 8 2 [.string { data := #[] }] [(0, (.c (.string { data := #[101, 108, 115, 101] }))), (1, (.t s121))], none⟩,
 ⟨some s123, .callv (.t s116) [(.t s122)], none⟩])
 (.seq (.region [⟨some s124, .call 19 [(.t s005)], none⟩,
 xm s002 s124,
 ⟨some s003, .move (.c (.int .i64 0)), none⟩])
 (.ret)))))))))))
def r_conf_Write : List XR := [.tmp s002, .tmp s003]
theorem ok_conf_Write : okC Tryz.prog Tryz.f4.ntmps (bodyOf Tryz.f4) x_conf_Write = true := by kernel_rfl
theorem okr_conf_Write : okRs Tryz.prog Tryz.f4.results.toList r_conf_Write = true := by kernel_rfl

/-- custref.PlanText -/
def x_custref_PlanText : XC :=
 .seq (.region [⟨some s001, .box 0 8 (.t s000), none⟩,
 ⟨some s002, .move (.c (.string { data := #[] })), none⟩,
 ⟨some s003, .move (.c (.int .i64 0)), none⟩])
 (.seq (.seq (.region [⟨some s013, .load true 8 (.t s001), none⟩,
 ⟨some s014, .call 9 [(.t s013)], none⟩,
 xm s004 s014])
 (.seq (.region [xm s015 s004,
 ⟨some s016, .bin .neq (.t s015) (.c (.int .i64 0)), none⟩])
 (.cond (.t s016)
 (.seq (.region [xm s017 s004,
 ⟨some s002, .move (.c (.string { data := #[] })), none⟩,
 xm s003 s017])
 (.ret))
 (.skip))))
 (.seq (.regionD [0, 1, 3, 7, 0, 16, 55, 119, 247, 0, 512, 1655, 4087, 0, 8192, 28279, 61047, 0, 131072, 454263, 978551, 2027127, 0, 4194304, 13561463, 33484407, 67108863, 134217727] [xf 0 s020 s001,
 xl s021 s020,
 ⟨some s022, .call 20 [(.t s021)], none⟩,
 ⟨some s023, .sbin .add (.c (.string { data := #[111, 117, 116, 115, 105, 100, 101, 32] })) (.t s022), none⟩,
 xf 1 s024 s001,
 xl s025 s024,
 ⟨some s026, .call 21 [(.t s025)], none⟩,
 ⟨some s027, .sbin .add (.c (.string { data := #[112, 111, 114, 116, 115, 32] })) (.t s026), none⟩,
 ⟨some s030, .sbin .add (.t s027) (.c (.string { data := #[32] })), none⟩,
 xf 2 s031 s001,
 xl s032 s031,
 ⟨some s033, .call 21 [(.t s032)], none⟩,
 ⟨some s034, .sbin .add (.t s030) (.t s033), none⟩,
 xf 3 s035 s001,
 xl s036 s035,
 ⟨some s037, .call 21 [(.t s036)], none⟩,
 ⟨some s040, .sbin .add (.c (.string { data := #[108, 105, 102, 101, 32] })) (.t s037), none⟩,
 xf 4 s041 s001,
 xl s042 s041,
 ⟨some s043, .call 21 [(.t s042)], none⟩,
 ⟨some s044, .sbin .add (.c (.string { data := #[114, 97, 116, 101, 32] })) (.t s043), none⟩,
 ⟨some s045, .sbin .add (.t s044) (.c (.string { data := #[32] })), none⟩,
 xf 5 s046 s001,
 xl s047 s046,
 ⟨some s050, .call 21 [(.t s047)], none⟩,
 ⟨some s051, .sbin .add (.t s045) (.t s050), none⟩,
 ⟨some s052, .buildSlice 1 4 [.string { data := #[] }] [(0, (.t s023)), (1, (.t s034)), (2, (.t s040)), (3, (.t s051))], none⟩,
 xm s005 s052])
 (.seq (.seq (.region [xf 6 s053 s001,
 xl s054 s053,
 ⟨some s055, .len (.t s054), none⟩,
 ⟨some s056, .move (.c (.int .i64 0)), none⟩])
 (.block 0
 (.loop
 (.seq (.region [⟨some s057, .bin .lss (.t s056) (.t s055), none⟩])
 (.seq (.cond (.t s057)
 (.skip)
 (.exit 0))
 (.seq (.block 1
 (.seq (.region [⟨some s060, .indexSl 10 (.t s054) (.t s056), none⟩,
 ⟨some s061, .load true 10 (.t s060), none⟩,
 ⟨some s007, .alloc 2 [.int .u32 0, .int .i64 0, .int .u32 0, .int .i64 0, .int .i64 0, .int .i64 0, .int .i64 0, .int .i64 0, .int .i64 0, .bool false], none⟩,
 ⟨none, .store 10 (.t s007) (.t s061), none⟩])
 (.region [xm s062 s005,
 ⟨some s063, .load true 10 (.t s007), none⟩,
 ⟨some s064, .call 22 [(.t s063)], none⟩,
 ⟨some s065, .buildSlice 3 1 [.string { data := #[] }] [(0, (.t s064))], none⟩,
 ⟨some s066, .append 4 1 16 (.t s062) (.t s065), none⟩,
 xm s005 s066])))
 (.region [⟨some s067, .bin .add (.t s056) (.c (.int .i64 1)), none⟩,
 xm s056 s067])))))))
 (.seq (.region [⟨some s010, .move (.c (.string { data := #[] })), none⟩])
 (.seq (.seq (.region [xm s070 s005,
 xf 7 s071 s001,
 xl s072 s071,
 ⟨some s073, .call 23 [(.t s072)], none⟩,
 ⟨some s074, .sbin .add (.c (.string { data := #[101, 108, 115, 101, 32] })) (.t s073), none⟩,
 ⟨some s075, .buildSlice 5 1 [.string { data := #[] }] [(0, (.t s074))], none⟩,
 ⟨some s076, .append 6 1 16 (.t s070) (.t s075), none⟩,
 ⟨some s077, .len (.t s076), none⟩,
 ⟨some s100, .move (.c (.int .i64 0)), none⟩])
 (.block 2
 (.loop
 (.seq (.region [⟨some s101, .bin .lss (.t s100) (.t s077), none⟩])
 (.seq (.cond (.t s101)
 (.skip)
 (.exit 2))
 (.seq (.block 3
 (.seq (.region [⟨some s102, .indexSl 1 (.t s076) (.t s100), none⟩,
 xl s103 s102,
 xm s012 s103])
 (.region [xm s104 s010,
 xm s105 s012,
 ⟨some s106, .sbin .add (.t s105) (.c (.string { data := #[10] })), none⟩,
 ⟨some s107, .sbin .add (.t s104) (.t s106), none⟩,
 xm s010 s107])))
 (.region [⟨some s110, .bin .add (.t s100) (.c (.int .i64 1)), none⟩,
 xm s100 s110])))))))
 (.seq (.region [xm s111 s010,
 xm s002 s111,
 ⟨some s003, .move (.c (.int .i64 0)), none⟩])
 (.ret)))))))
def r_custref_PlanText : List XR := [.tmp s002, .tmp s003]
theorem ok_custref_PlanText : okC Tryz.prog Tryz.f5.ntmps (bodyOf Tryz.f5) x_custref_PlanText = true := by kernel_rfl
theorem okr_custref_PlanText : okRs Tryz.prog Tryz.f5.results.toList r_custref_PlanText = true := by kernel_rfl

/-- conf.Read -/
def x_conf_Read : XC :=
 .seq (.region [⟨some s002, .alloc 0 [.int .u32 0, .int .i64 0, .int .i64 0, .int .i64 0, .int .i64 0, .int .i64 0, .slice none 0 0, .bool false], none⟩,
 ⟨some s003, .move (.c (.int .i64 0)), none⟩,
 ⟨some s004, .move (.c (.int .i64 0)), none⟩])
 (.seq (.seq (.region [xm s016 s000,
 ⟨some s017, .slen (.t s016), none⟩,
 ⟨some s020, .bin .gtr (.t s017) (.c (.int .i64 20000)), none⟩])
 (.cond (.t s020)
 (.seq (.region [⟨some s021, .build [.int .u32 0, .int .i64 0, .int .i64 0, .int .i64 0, .int .i64 0, .int .i64 0, .slice none 0 0, .bool false] [], none⟩,
 ⟨none, .store 8 (.t s002) (.t s021), none⟩,
 ⟨some s003, .move (.c (.int .i64 0)), none⟩,
 ⟨some s004, .move (.c (.int .i64 2)), none⟩])
 (.ret))
 (.skip)))
 (.seq (.region [⟨some s005, .alloc 1 [.int .u32 0, .int .i64 0, .int .i64 0, .int .i64 0, .int .i64 0, .int .i64 0, .slice none 0 0, .bool false], none⟩])
 (.seq (.region [⟨some s006, .move (.c (.slice none 0 0)), none⟩])
 (.seq (.seq (.region [xm s022 s000,
 ⟨some s023, .call 24 [(.t s022), (.c (.string { data := #[10] }))], none⟩,
 ⟨some s024, .len (.t s023), none⟩,
 ⟨some s025, .move (.c (.int .i64 0)), none⟩])
 (.block 0
 (.loop
 (.seq (.region [⟨some s026, .bin .lss (.t s025) (.t s024), none⟩])
 (.seq (.cond (.t s026)
 (.skip)
 (.exit 0))
 (.seq (.block 1
 (.seq (.region [xm s027 s025,
 ⟨some s030, .indexSl 1 (.t s023) (.t s025), none⟩,
 xl s031 s030,
 xm s007 s027,
 xm s010 s031])
 (.seq (.region [⟨some s011, .alloc 2 [.slice none 0 0, .bool false], none⟩])
 (.seq (.seq (.region [xm s032 s010,
 ⟨some s033, .call 24 [(.t s032), (.c (.string { data := #[32] }))], none⟩,
 ⟨some s034, .len (.t s033), none⟩,
 ⟨some s035, .move (.c (.int .i64 0)), none⟩])
 (.block 2
 (.loop
 (.seq (.region [⟨some s036, .bin .lss (.t s035) (.t s034), none⟩])
 (.seq (.cond (.t s036)
 (.skip)
 (.exit 2))
 (.seq (.block 3
 (.seq (.region [⟨some s037, .indexSl 1 (.t s033) (.t s035), none⟩,
 xl s040 s037,
 xm s013 s040])
 (.seq (.region [xm s041 s013,
 ⟨some s042, .sbin .neq (.t s041) (.c (.string { data := #[] })), none⟩])
 (.cond (.t s042)
 (.region [xf 0 s043 s011,
 xl s044 s043,
 xm s045 s013,
 ⟨some s046, .buildSlice 3 1 [.string { data := #[] }] [(0, (.t s045))], none⟩,
 ⟨some s047, .append 4 1 16 (.t s044) (.t s046), none⟩,
 xf 0 s050 s011,
 ⟨none, .store 1 (.t s050) (.t s047), none⟩])
 (.skip)))))
 (.region [⟨some s051, .bin .add (.t s035) (.c (.int .i64 1)), none⟩,
 xm s035 s051])))))))
 (.seq (.seq (.region [xf 0 s052 s011,
 xl s053 s052,
 ⟨some s054, .len (.t s053), none⟩,
 ⟨some s055, .bin .eql (.t s054) (.c (.int .i64 0)), none⟩,
 xm s056 s055,
 ⟨some s057, .fieldAddr 0 (.t s011), some (s056, false)⟩,
 ⟨some s060, .load false 1 (.t s057), some (s056, false)⟩,
 ⟨some s061, .indexSl 1 (.t s060) (.c (.int .i64 0)), some (s056, false)⟩,
 ⟨some s062, .load false 1 (.t s061), some (s056, false)⟩,
 ⟨some s063, .strAt (.t s062) (.c (.int .i64 0)), some (s056, false)⟩,
 ⟨some s064, .bin .eql (.t s063) (.c (.int .u8 35)), some (s056, false)⟩,
 ⟨some s065, .pick (.t s056) (.c (.bool true)) (.t s064), none⟩])
 (.cond (.t s065)
 (.exit 1)
 (.skip)))
 (.seq (.region [⟨some s066, .call 25 [(.t s005), (.t s011)], none⟩,
 xm s014 s066])
 (.seq (.block 4
 (.seq (.region [xf 1 s070 s011,
 xl s071 s070,
 xm s067 s071])
 (.cond (.t s067)
 (.seq (.region [⟨some s072, .build [.int .u32 0, .int .i64 0, .int .i64 0, .int .i64 0, .int .i64 0, .int .i64 0, .slice none 0 0, .bool false] [], none⟩,
 xm s073 s007,
 ⟨some s074, .bin .add (.t s073) (.c (.int .i64 1)), none⟩,
 ⟨none, .store 8 (.t s002) (.t s072), none⟩,
 xm s003 s074,
 ⟨some s004, .move (.c (.int .i64 10)), none⟩])
 (.ret))
 (.seq (.region [xm s076 s014,
 ⟨some s077, .sbin .eql (.t s076) (.c (.string { data := #[112, 97, 115, 115] })), none⟩,
 xm s100 s077,
 ⟨some s101, .move (.t s014), some (s100, false)⟩,
 ⟨some s102, .sbin .eql (.t s101) (.c (.string { data := #[100, 114, 111, 112] })), some (s100, false)⟩,
 ⟨some s103, .pick (.t s100) (.c (.bool true)) (.t s102), none⟩,
 xm s075 s103])
 (.cond (.t s075)
 (.exit 1)
 (.seq (.region [xm s105 s006,
 xm s106 s014,
 ⟨some s107, .call 26 [(.t s105), (.t s106)], none⟩,
 xm s104 s107])
 (.cond (.t s104)
 (.seq (.region [⟨some s110, .build [.int .u32 0, .int .i64 0, .int .i64 0, .int .i64 0, .int .i64 0, .int .i64 0, .slice none 0 0, .bool false] [], none⟩,
 xm s111 s007,
 ⟨some s112, .bin .add (.t s111) (.c (.int .i64 1)), none⟩,
 ⟨none, .store 8 (.t s002) (.t s110), none⟩,
 xm s003 s112,
 ⟨some s004, .move (.c (.int .i64 8)), none⟩])
 (.ret))
 (.skip))))))))
 (.region [xm s113 s006,
 xm s114 s014,
 ⟨some s115, .buildSlice 5 1 [.string { data := #[] }] [(0, (.t s114))], none⟩,
 ⟨some s116, .append 6 1 16 (.t s113) (.t s115), none⟩,
 xm s006 s116]))))))))
 (.region [⟨some s117, .bin .add (.t s025) (.c (.int .i64 1)), none⟩,
 xm s025 s117])))))))
 (.seq (.seq (.region [xm s120 s006,
 ⟨some s121, .len (.t s120), none⟩,
 ⟨some s122, .bin .lss (.t s121) (.c (.int .i64 5)), none⟩])
 (.cond (.t s122)
 (.seq (.region [⟨some s123, .build [.int .u32 0, .int .i64 0, .int .i64 0, .int .i64 0, .int .i64 0, .int .i64 0, .slice none 0 0, .bool false] [], none⟩,
 ⟨none, .store 8 (.t s002) (.t s123), none⟩,
 ⟨some s003, .move (.c (.int .i64 0)), none⟩,
 ⟨some s004, .move (.c (.int .i64 7)), none⟩])
 (.ret))
 (.skip)))
 (.seq (.seq (.region [⟨some s124, .load true 8 (.t s005), none⟩,
 ⟨some s125, .call 8 [(.t s124)], none⟩,
 xm s015 s125])
 (.seq (.region [xm s126 s015,
 ⟨some s127, .bin .neq (.t s126) (.c (.int .i64 0)), none⟩])
 (.cond (.t s127)
 (.seq (.region [⟨some s130, .build [.int .u32 0, .int .i64 0, .int .i64 0, .int .i64 0, .int .i64 0, .int .i64 0, .slice none 0 0, .bool false] [], none⟩,
 xm s131 s015,
 ⟨none, .store 8 (.t s002) (.t s130), none⟩,
 ⟨some s003, .move (.c (.int .i64 0)), none⟩,
 xm s004 s131])
 (.ret))
 (.skip))))
 (.seq (.region [⟨some s132, .load true 8 (.t s005), none⟩,
 ⟨none, .store 8 (.t s002) (.t s132), none⟩,
 ⟨some s003, .move (.c (.int .i64 0)), none⟩,
 ⟨some s004, .move (.c (.int .i64 0)), none⟩])
 (.ret))))))))
def r_conf_Read : List XR := [.cell s002 true 8, .tmp s003, .tmp s004]
theorem ok_conf_Read : okC Tryz.prog Tryz.f6.ntmps (bodyOf Tryz.f6) x_conf_Read = true := by kernel_rfl
theorem okr_conf_Read : okRs Tryz.prog Tryz.f6.results.toList r_conf_Read = true := by kernel_rfl

/-- custref.TextPlan -/
def x_custref_TextPlan : XC :=
 .seq (.region [⟨some s002, .alloc 0 [.int .u32 0, .int .i64 0, .int .i64 0, .int .i64 0, .int .i64 0, .int .i64 0, .slice none 0 0, .bool false], none⟩,
 ⟨some s003, .move (.c (.int .i64 0)), none⟩,
 ⟨some s004, .move (.c (.int .i64 0)), none⟩])
 (.seq (.region [⟨some s020, .build [.int .u32 0, .int .i64 0, .int .i64 0, .int .i64 0, .int .i64 0, .int .i64 0, .slice none 0 0, .bool false] [], none⟩,
 ⟨some s005, .alloc 1 [.int .u32 0, .int .i64 0, .int .i64 0, .int .i64 0, .int .i64 0, .int .i64 0, .slice none 0 0, .bool false], none⟩,
 ⟨none, .store 8 (.t s005) (.t s020), none⟩])
 (.seq (.seq (.region [xm s021 s000,
 ⟨some s022, .slen (.t s021), none⟩,
 ⟨some s023, .bin .gtr (.t s022) (.c (.int .i64 20000)), none⟩])
 (.cond (.t s023)
 (.seq (.region [⟨some s024, .load true 8 (.t s005), none⟩,
 ⟨none, .store 8 (.t s002) (.t s024), none⟩,
 ⟨some s003, .move (.c (.int .i64 0)), none⟩,
 ⟨some s004, .move (.c (.int .i64 2)), none⟩])
 (.ret))
 (.skip)))
 (.seq (.region [⟨some s006, .alloc 2 [.int .u32 0, .int .i64 0, .int .i64 0, .int .i64 0, .int .i64 0, .int .i64 0, .slice none 0 0, .bool false], none⟩])
 (.seq (.region [⟨some s007, .move (.c (.string { data := #[] })), none⟩])
 (.seq (.seq (.region [⟨some s010, .move (.c (.int .i64 1)), none⟩])
 (.block 0
 (.loop
 (.seq (.seq (.region [xm s025 s000,
 ⟨some s026, .sbin .neq (.t s025) (.c (.string { data := #[] })), none⟩])
 (.cond (.t s026)
 (.skip)
 (.exit 0)))
 (.seq (.block 1
 (.seq (.region [xm s032 s000,
 ⟨some s033, .call 27 [(.t s032), (.c (.string { data := #[10] }))], none⟩,
 xm s031 s033,
 ⟨some s034, .extract 0 (.t s031), none⟩,
 ⟨some s035, .extract 1 (.t s031), none⟩,
 ⟨some s036, .extract 2 (.t s031), none⟩,
 xm s011 s034,
 xm s012 s035,
 xm s013 s036])
 (.seq (.region [xm s037 s012,
 xm s000 s037])
 (.seq (.region [xm s040 s011,
 ⟨some s041, .call 28 [(.t s040)], none⟩,
 xm s014 s041])
 (.seq (.seq (.region [xm s042 s014,
 ⟨some s043, .len (.t s042), none⟩,
 ⟨some s044, .bin .eql (.t s043) (.c (.int .i64 0)), none⟩,
 xm s045 s044,
 ⟨some s046, .move (.t s014), some (s045, false)⟩,
 ⟨some s047, .indexSl 1 (.t s046) (.c (.int .i64 0)), some (s045, false)⟩,
 ⟨some s050, .load false 1 (.t s047), some (s045, false)⟩,
 ⟨some s051, .strAt (.t s050) (.c (.int .i64 0)), some (s045, false)⟩,
 ⟨some s052, .bin .eql (.t s051) (.c (.int .u8 35)), some (s045, false)⟩,
 ⟨some s053, .pick (.t s045) (.c (.bool true)) (.t s052), none⟩])
 (.cond (.t s053)
 (.exit 1)
 (.skip)))
 (.seq (.region [xm s055 s014,
 ⟨some s056, .call 29 [(.t s055)], none⟩,
 xm s054 s056,
 ⟨some s057, .extract 0 (.t s054), none⟩,
 ⟨some s060, .extract 1 (.t s054), none⟩,
 xm s015 s057,
 xm s016 s060])
 (.seq (.seq (.region [xm s061 s016,
 ⟨some s062, .un .not (.t s061), none⟩])
 (.cond (.t s062)
 (.seq (.region [⟨some s063, .load true 8 (.t s005), none⟩,
 xm s064 s010,
 ⟨none, .store 8 (.t s002) (.t s063), none⟩,
 xm s003 s064,
 ⟨some s004, .move (.c (.int .i64 10)), none⟩])
 (.ret))
 (.skip)))
 (.seq (.seq (.region [xm s065 s014,
 ⟨some s066, .indexSl 1 (.t s065) (.c (.int .i64 0)), none⟩,
 xl s067 s066,
 ⟨some s070, .sbin .eql (.t s067) (.c (.string { data := #[112, 97, 115, 115] })), none⟩,
 xm s071 s070,
 ⟨some s072, .move (.t s014), some (s071, false)⟩,
 ⟨some s073, .indexSl 1 (.t s072) (.c (.int .i64 0)), some (s071, false)⟩,
 ⟨some s074, .load false 1 (.t s073), some (s071, false)⟩,
 ⟨some s075, .sbin .eql (.t s074) (.c (.string { data := #[100, 114, 111, 112] })), some (s071, false)⟩,
 ⟨some s076, .pick (.t s071) (.c (.bool true)) (.t s075), none⟩])
 (.cond (.t s076)
 (.seq (.regionD [0, 1, 0, 4, 12, 28, 0, 64, 192, 448, 0, 1024, 3072, 8128, 0, 16384, 49152, 114688, 0, 262144, 786432, 2080768, 0, 4194304, 12582912, 0, 33554432, 100663296, 0, 268435456, 805306368, 0, 2147483648, 6442450944, 0, 17179869184, 51539607552, 137438953468, 274877906940, 549755813887, 1099511627775, 2199023255551] [xf 6 s077 s006,
 xl s100 s077,
 xm s101 s014,
 ⟨some s102, .indexSl 1 (.t s101) (.c (.int .i64 0)), none⟩,
 xl s103 s102,
 ⟨some s104, .sbin .eql (.t s103) (.c (.string { data := #[112, 97, 115, 115] })), none⟩,
 xm s105 s015,
 ⟨some s106, .indexSl 1 (.t s105) (.c (.int .i64 0)), none⟩,
 xl s107 s106,
 ⟨some s110, .convInt .u32 (.t s107), none⟩,
 xm s111 s015,
 ⟨some s112, .indexSl 1 (.t s111) (.c (.int .i64 1)), none⟩,
 xl s113 s112,
 ⟨some s114, .build [.int .u32 0, .int .i64 0] [(0, 1, (.t s110)), (1, 1, (.t s113))], none⟩,
 xm s115 s015,
 ⟨some s116, .indexSl 1 (.t s115) (.c (.int .i64 2)), none⟩,
 xl s117 s116,
 ⟨some s120, .convInt .u32 (.t s117), none⟩,
 xm s121 s015,
 ⟨some s122, .indexSl 1 (.t s121) (.c (.int .i64 3)), none⟩,
 xl s123 s122,
 ⟨some s124, .build [.int .u32 0, .int .i64 0] [(0, 1, (.t s120)), (1, 1, (.t s123))], none⟩,
 xm s125 s015,
 ⟨some s126, .indexSl 1 (.t s125) (.c (.int .i64 4)), none⟩,
 xl s127 s126,
 xm s130 s015,
 ⟨some s131, .indexSl 1 (.t s130) (.c (.int .i64 5)), none⟩,
 xl s132 s131,
 xm s133 s015,
 ⟨some s134, .indexSl 1 (.t s133) (.c (.int .i64 6)), none⟩,
 xl s135 s134,
 xm s136 s015,
 ⟨some s137, .indexSl 1 (.t s136) (.c (.int .i64 7)), none⟩,
 xl s140 s137,
 xm s141 s015,
 ⟨some s142, .indexSl 1 (.t s141) (.c (.int .i64 8)), none⟩,
 xl s143 s142,
 ⟨some s144, .build [.int .u32 0, .int .i64 0, .int .u32 0, .int .i64 0, .int .i64 0, .int .i64 0, .int .i64 0, .int .i64 0, .int .i64 0, .bool false] [(9, 1, (.t s104)), (0, 2, (.t s114)), (2, 2, (.t s124)), (4, 1, (.t s127)), (5, 1, (.t s132)), (6, 1, (.t s135)), (7, 1, (.t s140)), (8, 1, (.t s143))], none⟩,
 ⟨some s145, .buildSlice 3 1 [.int .u32 0, .int .i64 0, .int .u32 0, .int .i64 0, .int .i64 0, .int .i64 0, .int .i64 0, .int .i64 0, .int .i64 0, .bool false] [(0, (.t s144))], none⟩,
 ⟨some s146, .append 4 10 80 (.t s100) (.t s145), none⟩,
 xf 6 s147 s006,
 ⟨none, .store 1 (.t s147) (.t s146), none⟩])
 (.exit 1))
 (.skip)))
 (.seq (.seq (.region [xm s150 s007,
 xm s151 s014,
 ⟨some s152, .indexSl 1 (.t s151) (.c (.int .i64 0)), none⟩,
 xl s153 s152,
 ⟨some s154, .sbin .add (.t s153) (.c (.string { data := #[32] })), none⟩,
 ⟨some s155, .call 30 [(.t s150), (.t s154)], none⟩])
 (.cond (.t s155)
 (.seq (.region [⟨some s156, .load true 8 (.t s005), none⟩,
 xm s157 s010,
 ⟨none, .store 8 (.t s002) (.t s156), none⟩,
 xm s003 s157,
 ⟨some s004, .move (.c (.int .i64 8)), none⟩])
 (.ret))
 (.skip)))
 (.seq (.region [xm s160 s007,
 xm s161 s014,
 ⟨some s162, .indexSl 1 (.t s161) (.c (.int .i64 0)), none⟩,
 xl s163 s162,
 ⟨some s164, .sbin .add (.t s163) (.c (.string { data := #[32] })), none⟩,
 ⟨some s165, .sbin .add (.t s160) (.t s164), none⟩,
 xm s007 s165])
 (.seq (.region [xm s166 s014,
 ⟨some s167, .indexSl 1 (.t s166) (.c (.int .i64 0)), none⟩,
 xl s170 s167])
 (.block 2
 (.seq (.region [⟨some s172, .sbin .eql (.t s170) (.c (.string { data := #[111, 117, 116, 115, 105, 100, 101] })), none⟩,
 xm s171 s172])
 (.cond (.t s171)
 (.region [xm s173 s015,
 ⟨some s174, .indexSl 1 (.t s173) (.c (.int .i64 0)), none⟩,
 xl s175 s174,
 ⟨some s176, .convInt .u32 (.t s175), none⟩,
 xf 0 s177 s006,
 ⟨none, .store 1 (.t s177) (.t s176), none⟩])
 (.seq (.region [⟨some s201, .sbin .eql (.t s170) (.c (.string { data := #[112, 111, 114, 116, 115] })), none⟩,
 xm s200 s201])
 (.cond (.t s200)
 (.regionD [0, 1, 3, 0, 8, 24, 7, 71, 255, 511] [xm s202 s015,
 ⟨some s203, .indexSl 1 (.t s202) (.c (.int .i64 0)), none⟩,
 xl s204 s203,
 xm s205 s015,
 ⟨some s206, .indexSl 1 (.t s205) (.c (.int .i64 1)), none⟩,
 xl s207 s206,
 xf 1 s210 s006,
 ⟨none, .store 1 (.t s210) (.t s204), none⟩,
 xf 2 s211 s006,
 ⟨none, .store 1 (.t s211) (.t s207), none⟩])
 (.seq (.region [⟨some s213, .sbin .eql (.t s170) (.c (.string { data := #[108, 105, 102, 101] })), none⟩,
 xm s212 s213])
 (.cond (.t s212)
 (.region [xm s214 s015,
 ⟨some s215, .indexSl 1 (.t s214) (.c (.int .i64 0)), none⟩,
 xl s216 s215,
 xf 3 s217 s006,
 ⟨none, .store 1 (.t s217) (.t s216), none⟩])
 (.seq (.region [⟨some s221, .sbin .eql (.t s170) (.c (.string { data := #[114, 97, 116, 101] })), none⟩,
 xm s220 s221])
 (.cond (.t s220)
 (.regionD [0, 1, 3, 0, 8, 24, 7, 71, 255, 511] [xm s222 s015,
 ⟨some s223, .indexSl 1 (.t s222) (.c (.int .i64 0)), none⟩,
 xl s224 s223,
 xm s225 s015,
 ⟨some s226, .indexSl 1 (.t s225) (.c (.int .i64 1)), none⟩,
 xl s227 s226,
 xf 4 s230 s006,
 ⟨none, .store 1 (.t s230) (.t s224), none⟩,
 xf 5 s231 s006,
 ⟨none, .store 1 (.t s231) (.t s227), none⟩])
 (.seq (.region [⟨some s233, .sbin .eql (.t s170) (.c (.string { data := #[101, 108, 115, 101] })), none⟩,
 xm s232 s233])
 (.cond (.t s232)
 (.region [xm s234 s014,
 ⟨some s235, .indexSl 1 (.t s234) (.c (.int .i64 1)), none⟩,
 xl s236 s235,
 ⟨some s237, .sbin .eql (.t s236) (.c (.string { data := #[112, 97, 115, 115] })), none⟩,
 xf 7 s240 s006,
 ⟨none, .store 1 (.t s240) (.t s237), none⟩])
 (.skip)))))))))))))))))))))))
 (.region [xm s027 s010,
 ⟨some s030, .bin .add (.t s027) (.c (.int .i64 1)), none⟩,
 xm s010 s030]))))))
 (.seq (.seq (.region [xm s241 s007,
 ⟨some s242, .slen (.t s241), none⟩,
 ⟨some s243, .bin .neq (.t s242) (.c (.int .i64 29)), none⟩])
 (.cond (.t s243)
 (.seq (.region [⟨some s244, .load true 8 (.t s005), none⟩,
 ⟨none, .store 8 (.t s002) (.t s244), none⟩,
 ⟨some s003, .move (.c (.int .i64 0)), none⟩,
 ⟨some s004, .move (.c (.int .i64 7)), none⟩])
 (.ret))
 (.skip)))
 (.seq (.seq (.region [⟨some s245, .load true 8 (.t s006), none⟩,
 ⟨some s246, .call 9 [(.t s245)], none⟩,
 xm s017 s246])
 (.seq (.region [xm s247 s017,
 ⟨some s250, .bin .neq (.t s247) (.c (.int .i64 0)), none⟩])
 (.cond (.t s250)
 (.seq (.region [⟨some s251, .load true 8 (.t s005), none⟩,
 xm s252 s017,
 ⟨none, .store 8 (.t s002) (.t s251), none⟩,
 ⟨some s003, .move (.c (.int .i64 0)), none⟩,
 xm s004 s252])
 (.ret))
 (.skip))))
 (.seq (.region [⟨some s253, .load true 8 (.t s006), none⟩,
 ⟨none, .store 8 (.t s002) (.t s253), none⟩,
 ⟨some s003, .move (.c (.int .i64 0)), none⟩,
 ⟨some s004, .move (.c (.int .i64 0)), none⟩])
 (.ret)))))))))
def r_custref_TextPlan : List XR := [.cell s002 true 8, .tmp s003, .tmp s004]
theorem ok_custref_TextPlan : okC Tryz.prog Tryz.f7.ntmps (bodyOf Tryz.f7) x_custref_TextPlan = true := by kernel_rfl
theorem okr_custref_TextPlan : okRs Tryz.prog Tryz.f7.results.toList r_custref_TextPlan = true := by kernel_rfl

/-- conf.Check -/
def x_conf_Check : XC :=
 .seq (.region [⟨some s001, .box 0 8 (.t s000), none⟩,
 ⟨some s002, .move (.c (.int .i64 0)), none⟩])
 (.seq (.seq (.region [xf 1 s003 s001,
 xl s004 s003,
 ⟨some s005, .build [.int .i64 0, .int .u64 0] [(0, 1, (.t s004))], none⟩,
 ⟨some s006, .call 31 [(.t s005)], none⟩,
 ⟨some s007, .bin .neq (.t s006) (.c (.int .i64 0)), none⟩,
 xm s010 s007,
 ⟨some s011, .fieldAddr 2 (.t s001), some (s010, false)⟩,
 ⟨some s012, .load false 1 (.t s011), some (s010, false)⟩,
 ⟨some s013, .build [.int .i64 0, .int .u64 0] [(0, 1, (.t s012))], some (s010, false)⟩,
 ⟨some s014, .call 31 [(.t s013)], some (s010, false)⟩,
 ⟨some s015, .bin .neq (.t s014) (.c (.int .i64 0)), some (s010, false)⟩,
 ⟨some s016, .pick (.t s010) (.c (.bool true)) (.t s015), none⟩,
 xm s017 s016,
 ⟨some s020, .fieldAddr 3 (.t s001), some (s017, false)⟩,
 ⟨some s021, .load false 1 (.t s020), some (s017, false)⟩,
 ⟨some s022, .bin .lss (.t s021) (.c (.int .i64 1)), some (s017, false)⟩,
 ⟨some s023, .pick (.t s017) (.c (.bool true)) (.t s022), none⟩,
 xm s024 s023,
 ⟨some s025, .fieldAddr 3 (.t s001), some (s024, false)⟩,
 ⟨some s026, .load false 1 (.t s025), some (s024, false)⟩,
 ⟨some s027, .bin .gtr (.t s026) (.c (.int .i64 1000000)), some (s024, false)⟩,
 ⟨some s030, .pick (.t s024) (.c (.bool true)) (.t s027), none⟩,
 xm s031 s030,
 ⟨some s032, .fieldAddr 4 (.t s001), some (s031, false)⟩,
 ⟨some s033, .load false 1 (.t s032), some (s031, false)⟩,
 ⟨some s034, .bin .lss (.t s033) (.c (.int .i64 0)), some (s031, false)⟩,
 ⟨some s035, .pick (.t s031) (.c (.bool true)) (.t s034), none⟩,
 xm s036 s035,
 ⟨some s037, .fieldAddr 4 (.t s001), some (s036, false)⟩,
 ⟨some s040, .load false 1 (.t s037), some (s036, false)⟩,
 ⟨some s041, .bin .gtr (.t s040) (.c (.int .i64 1000000)), some (s036, false)⟩,
 ⟨some s042, .pick (.t s036) (.c (.bool true)) (.t s041), none⟩,
 xm s043 s042,
 ⟨some s044, .fieldAddr 5 (.t s001), some (s043, false)⟩,
 ⟨some s045, .load false 1 (.t s044), some (s043, false)⟩,
 ⟨some s046, .bin .lss (.t s045) (.c (.int .i64 1)), some (s043, false)⟩,
 ⟨some s047, .pick (.t s043) (.c (.bool true)) (.t s046), none⟩,
 xm s050 s047,
 ⟨some s051, .fieldAddr 5 (.t s001), some (s050, false)⟩,
 ⟨some s052, .load false 1 (.t s051), some (s050, false)⟩,
 ⟨some s053, .bin .gtr (.t s052) (.c (.int .i64 1000000000)), some (s050, false)⟩,
 ⟨some s054, .pick (.t s050) (.c (.bool true)) (.t s053), none⟩])
 (.cond (.t s054)
 (.seq (.region [⟨some s002, .move (.c (.int .i64 1)), none⟩])
 (.ret))
 (.skip)))
 (.seq (.region [xf 6 s055 s001,
 xl s056 s055,
 ⟨some s057, .call 32 [(.t s056)], none⟩,
 xm s002 s057])
 (.ret)))
def r_conf_Check : List XR := [.tmp s002]
theorem ok_conf_Check : okC Tryz.prog Tryz.f8.ntmps (bodyOf Tryz.f8) x_conf_Check = true := by kernel_rfl
theorem okr_conf_Check : okRs Tryz.prog Tryz.f8.results.toList r_conf_Check = true := by kernel_rfl

/-- custref.PlanRight -/
def x_custref_PlanRight : XC :=
 .seq (.region [⟨some s001, .box 0 8 (.t s000), none⟩,
 ⟨some s002, .move (.c (.int .i64 0)), none⟩])
 (.seq (.seq (.region [xf 1 s003 s001,
 xl s004 s003,
 ⟨some s005, .build [.int .i64 0, .int .u64 0] [(0, 1, (.t s004))], none⟩,
 ⟨some s006, .call 33 [(.t s005)], none⟩,
 ⟨some s007, .bin .neq (.t s006) (.c (.int .i64 0)), none⟩,
 xm s010 s007,
 ⟨some s011, .fieldAddr 2 (.t s001), some (s010, false)⟩,
 ⟨some s012, .load false 1 (.t s011), some (s010, false)⟩,
 ⟨some s013, .build [.int .i64 0, .int .u64 0] [(0, 1, (.t s012))], some (s010, false)⟩,
 ⟨some s014, .call 33 [(.t s013)], some (s010, false)⟩,
 ⟨some s015, .bin .neq (.t s014) (.c (.int .i64 0)), some (s010, false)⟩,
 ⟨some s016, .pick (.t s010) (.c (.bool true)) (.t s015), none⟩,
 xm s017 s016,
 ⟨some s020, .fieldAddr 3 (.t s001), some (s017, false)⟩,
 ⟨some s021, .load false 1 (.t s020), some (s017, false)⟩,
 ⟨some s022, .call 34 [(.t s021), (.c (.int .i64 1)), (.c (.int .i64 1000000))], some (s017, false)⟩,
 ⟨some s023, .un .not (.t s022), some (s017, false)⟩,
 ⟨some s024, .pick (.t s017) (.c (.bool true)) (.t s023), none⟩,
 xm s025 s024,
 ⟨some s026, .fieldAddr 4 (.t s001), some (s025, false)⟩,
 ⟨some s027, .load false 1 (.t s026), some (s025, false)⟩,
 ⟨some s030, .call 34 [(.t s027), (.c (.int .i64 0)), (.c (.int .i64 1000000))], some (s025, false)⟩,
 ⟨some s031, .un .not (.t s030), some (s025, false)⟩,
 ⟨some s032, .pick (.t s025) (.c (.bool true)) (.t s031), none⟩,
 xm s033 s032,
 ⟨some s034, .fieldAddr 5 (.t s001), some (s033, false)⟩,
 ⟨some s035, .load false 1 (.t s034), some (s033, false)⟩,
 ⟨some s036, .call 34 [(.t s035), (.c (.int .i64 1)), (.c (.int .i64 1000000000))], some (s033, false)⟩,
 ⟨some s037, .un .not (.t s036), some (s033, false)⟩,
 ⟨some s040, .pick (.t s033) (.c (.bool true)) (.t s037), none⟩])
 (.cond (.t s040)
 (.seq (.region [⟨some s002, .move (.c (.int .i64 1)), none⟩])
 (.ret))
 (.skip)))
 (.seq (.region [xf 6 s041 s001,
 xl s042 s041,
 ⟨some s043, .call 35 [(.t s042)], none⟩,
 xm s002 s043])
 (.ret)))
def r_custref_PlanRight : List XR := [.tmp s002]
theorem ok_custref_PlanRight : okC Tryz.prog Tryz.f9.ntmps (bodyOf Tryz.f9) x_custref_PlanRight = true := by kernel_rfl
theorem okr_custref_PlanRight : okRs Tryz.prog Tryz.f9.results.toList r_custref_PlanRight = true := by kernel_rfl

/-- custref.SamePlan -/
def x_custref_SamePlan : XC :=
 .seq (.region [⟨some s002, .box 0 8 (.t s000), none⟩,
 ⟨some s003, .box 1 8 (.t s001), none⟩,
 ⟨some s004, .move (.c (.bool false)), none⟩])
 (.seq (.region [xf 0 s005 s002,
 xl s006 s005,
 xf 0 s007 s003,
 xl s010 s007,
 ⟨some s011, .bin .eql (.t s006) (.t s010), none⟩,
 xm s012 s011,
 ⟨some s013, .fieldAddr 1 (.t s002), some (s012, true)⟩,
 ⟨some s014, .load false 1 (.t s013), some (s012, true)⟩,
 ⟨some s015, .fieldAddr 1 (.t s003), some (s012, true)⟩,
 ⟨some s016, .load false 1 (.t s015), some (s012, true)⟩,
 ⟨some s017, .bin .eql (.t s014) (.t s016), some (s012, true)⟩,
 ⟨some s020, .pick (.t s012) (.t s017) (.c (.bool false)), none⟩,
 xm s021 s020,
 ⟨some s022, .fieldAddr 2 (.t s002), some (s021, true)⟩,
 ⟨some s023, .load false 1 (.t s022), some (s021, true)⟩,
 ⟨some s024, .fieldAddr 2 (.t s003), some (s021, true)⟩,
 ⟨some s025, .load false 1 (.t s024), some (s021, true)⟩,
 ⟨some s026, .bin .eql (.t s023) (.t s025), some (s021, true)⟩,
 ⟨some s027, .pick (.t s021) (.t s026) (.c (.bool false)), none⟩,
 xm s030 s027,
 ⟨some s031, .fieldAddr 3 (.t s002), some (s030, true)⟩,
 ⟨some s032, .load false 1 (.t s031), some (s030, true)⟩,
 ⟨some s033, .fieldAddr 3 (.t s003), some (s030, true)⟩,
 ⟨some s034, .load false 1 (.t s033), some (s030, true)⟩,
 ⟨some s035, .bin .eql (.t s032) (.t s034), some (s030, true)⟩,
 ⟨some s036, .pick (.t s030) (.t s035) (.c (.bool false)), none⟩,
 xm s037 s036,
 ⟨some s040, .fieldAddr 4 (.t s002), some (s037, true)⟩,
 ⟨some s041, .load false 1 (.t s040), some (s037, true)⟩,
 ⟨some s042, .fieldAddr 4 (.t s003), some (s037, true)⟩,
 ⟨some s043, .load false 1 (.t s042), some (s037, true)⟩,
 ⟨some s044, .bin .eql (.t s041) (.t s043), some (s037, true)⟩,
 ⟨some s045, .pick (.t s037) (.t s044) (.c (.bool false)), none⟩,
 xm s046 s045,
 ⟨some s047, .fieldAddr 5 (.t s002), some (s046, true)⟩,
 ⟨some s050, .load false 1 (.t s047), some (s046, true)⟩,
 ⟨some s051, .fieldAddr 5 (.t s003), some (s046, true)⟩,
 ⟨some s052, .load false 1 (.t s051), some (s046, true)⟩,
 ⟨some s053, .bin .eql (.t s050) (.t s052), some (s046, true)⟩,
 ⟨some s054, .pick (.t s046) (.t s053) (.c (.bool false)), none⟩,
 xm s055 s054,
 ⟨some s056, .fieldAddr 7 (.t s002), some (s055, true)⟩,
 ⟨some s057, .load false 1 (.t s056), some (s055, true)⟩,
 ⟨some s060, .fieldAddr 7 (.t s003), some (s055, true)⟩,
 ⟨some s061, .load false 1 (.t s060), some (s055, true)⟩,
 ⟨some s062, .eqb false (.t s057) (.t s061), some (s055, true)⟩,
 ⟨some s063, .pick (.t s055) (.t s062) (.c (.bool false)), none⟩,
 xm s064 s063,
 ⟨some s065, .fieldAddr 6 (.t s002), some (s064, true)⟩,
 ⟨some s066, .load false 1 (.t s065), some (s064, true)⟩,
 ⟨some s067, .fieldAddr 6 (.t s003), some (s064, true)⟩,
 ⟨some s070, .load false 1 (.t s067), some (s064, true)⟩,
 ⟨some s071, .call 36 [(.t s066), (.t s070)], some (s064, true)⟩,
 ⟨some s072, .pick (.t s064) (.t s071) (.c (.bool false)), none⟩,
 xm s004 s072])
 (.ret))
def r_custref_SamePlan : List XR := [.tmp s004]
theorem ok_custref_SamePlan : okC Tryz.prog Tryz.f10.ntmps (bodyOf Tryz.f10) x_custref_SamePlan = true := by kernel_rfl
theorem okr_custref_SamePlan : okRs Tryz.prog Tryz.f10.results.toList r_custref_SamePlan = true := by kernel_rfl

/-- conf.Write-1 -/
def x_conf_Write_1 : XC :=
 .region [xm s003 s000,
 ⟨some s004, .call 13 [(.t s003), (.c (.string { data := #[32] }))], none⟩,
 ⟨some s005, .sbin .add (.t s004) (.c (.string { data := #[10] })), none⟩,
 ⟨some s006, .call 12 [(.t s001), (.t s005)], none⟩]
def r_conf_Write_1 : List XR := []
theorem ok_conf_Write_1 : okC Tryz.prog Tryz.f11.ntmps (bodyOf Tryz.f11) x_conf_Write_1 = true := by kernel_rfl
theorem okr_conf_Write_1 : okRs Tryz.prog Tryz.f11.results.toList r_conf_Write_1 = true := by kernel_rfl

/-- (*strings.Builder).WriteString -/
def x_strings_Builder_WriteString : XC :=
 .seq (.region [⟨some s004, .move (.c (.int .i64 0)), none⟩,
 ⟨some s005, .move (.c (.nilIface)), none⟩])
 (.seq (.region [xm s006 s000,
 ⟨some s007, .call 37 [(.t s006)], none⟩])
 (.seq (.region [xm s010 s000,
 xm s011 s000,
 ⟨some s012, .nilCheck (.t s011), none⟩,
 xf 1 s013 s012,
 xl s014 s013,
 xm s015 s001,
 ⟨some s016, .appT 2 1 5 (.t s014) (.t s015), none⟩,
 ⟨some s017, .nilCheck (.t s010), none⟩,
 xf 1 s020 s017,
 ⟨none, .store 1 (.t s020) (.t s016), none⟩])
 (.seq (.region [xm s021 s001,
 ⟨some s022, .slen (.t s021), none⟩,
 xm s004 s022,
 ⟨some s005, .move (.c (.nilIface)), none⟩])
 (.ret))))
def r_strings_Builder_WriteString : List XR := [.tmp s004, .tmp s005]
theorem ok_strings_Builder_WriteString : okC Tryz.prog Tryz.f12.ntmps (bodyOf Tryz.f12) x_strings_Builder_WriteString = true := by kernel_rfl
theorem okr_strings_Builder_WriteString : okRs Tryz.prog Tryz.f12.results.toList r_strings_Builder_WriteString = true := by kernel_rfl

/-- strings.Join -/
def x_strings_Join : XC :=
 .seq (.region [⟨some s004, .move (.c (.string { data := #[] })), none⟩])
 (.seq (.seq (.region [xm s013 s000,
 ⟨some s014, .len (.t s013), none⟩])
 (.block 0
 (.seq (.region [⟨some s016, .bin .eql (.t s014) (.c (.int .i64 0)), none⟩,
 xm s015 s016])
 (.cond (.t s015)
 (.seq (.region [⟨some s004, .move (.c (.string { data := #[] })), none⟩])
 (.ret))
 (.seq (.region [⟨some s020, .bin .eql (.t s014) (.c (.int .i64 1)), none⟩,
 xm s017 s020])
 (.cond (.t s017)
 (.seq (.region [xm s021 s000,
 ⟨some s022, .indexSl 1 (.t s021) (.c (.int .i64 0)), none⟩,
 xl s023 s022,
 xm s004 s023])
 (.ret))
 (.skip)))))))
 (.seq (.region [⟨some s005, .move (.c (.int .i64 0)), none⟩])
 (.seq (.seq (.region [xm s024 s001,
 ⟨some s025, .slen (.t s024), none⟩,
 ⟨some s026, .bin .gtr (.t s025) (.c (.int .i64 0)), none⟩])
 (.cond (.t s026)
 (.seq (.seq (.region [xm s027 s001,
 ⟨some s030, .slen (.t s027), none⟩,
 xm s031 s000,
 ⟨some s032, .len (.t s031), none⟩,
 ⟨some s033, .bin .sub (.t s032) (.c (.int .i64 1)), none⟩,
 ⟨some s034, .bin .quo (.c (.int .i64 9223372036854775807)) (.t s033), none⟩,
 ⟨some s035, .bin .geq (.t s030) (.t s034), none⟩])
 (.cond (.t s035)
 (.region [⟨some s036, .dead, none⟩,
 ⟨none, .dead, none⟩])
 (.skip)))
 (.region [xm s037 s005,
 xm s040 s001,
 ⟨some s041, .slen (.t s040), none⟩,
 xm s042 s000,
 ⟨some s043, .len (.t s042), none⟩,
 ⟨some s044, .bin .sub (.t s043) (.c (.int .i64 1)), none⟩,
 ⟨some s045, .bin .mul (.t s041) (.t s044), none⟩,
 ⟨some s046, .bin .add (.t s037) (.t s045), none⟩,
 xm s005 s046]))
 (.skip)))
 (.seq (.seq (.region [xm s047 s000,
 ⟨some s050, .len (.t s047), none⟩,
 ⟨some s051, .move (.c (.int .i64 0)), none⟩])
 (.block 1
 (.loop
 (.seq (.region [⟨some s052, .bin .lss (.t s051) (.t s050), none⟩])
 (.seq (.cond (.t s052)
 (.skip)
 (.exit 1))
 (.seq (.block 2
 (.seq (.region [⟨some s053, .indexSl 1 (.t s047) (.t s051), none⟩,
 xl s054 s053,
 xm s007 s054])
 (.seq (.seq (.region [xm s055 s007,
 ⟨some s056, .slen (.t s055), none⟩,
 xm s057 s005,
 ⟨some s060, .bin .sub (.c (.int .i64 9223372036854775807)) (.t s057), none⟩,
 ⟨some s061, .bin .gtr (.t s056) (.t s060), none⟩])
 (.cond (.t s061)
 (.region [⟨some s062, .dead, none⟩,
 ⟨none, .dead, none⟩])
 (.skip)))
 (.region [xm s063 s005,
 xm s064 s007,
 ⟨some s065, .slen (.t s064), none⟩,
 ⟨some s066, .bin .add (.t s063) (.t s065), none⟩,
 xm s005 s066]))))
 (.region [⟨some s067, .bin .add (.t s051) (.c (.int .i64 1)), none⟩,
 xm s051 s067])))))))
 (.seq (.region [⟨some s010, .allocT 0 [.pointer none, .slice none 0 0] 37, none⟩])
 (.seq (.region [xm s070 s005,
 ⟨some s071, .call 38 [(.t s010), (.t s070)], none⟩])
 (.seq (.region [xm s072 s000,
 ⟨some s073, .indexSl 1 (.t s072) (.c (.int .i64 0)), none⟩,
 xl s074 s073,
 ⟨some s075, .call 12 [(.t s010), (.t s074)], none⟩])
 (.seq (.seq (.region [xm s076 s000,
 ⟨some s077, .slice 1 (.t s076) (some (.c (.int .i64 1))) none none, none⟩,
 ⟨some s100, .len (.t s077), none⟩,
 ⟨some s101, .move (.c (.int .i64 0)), none⟩])
 (.block 3
 (.loop
 (.seq (.region [⟨some s102, .bin .lss (.t s101) (.t s100), none⟩])
 (.seq (.cond (.t s102)
 (.skip)
 (.exit 3))
 (.seq (.block 4
 (.seq (.region [⟨some s103, .indexSl 1 (.t s077) (.t s101), none⟩,
 xl s104 s103,
 xm s012 s104])
 (.seq (.region [xm s105 s001,
 ⟨some s106, .call 12 [(.t s010), (.t s105)], none⟩])
 (.region [xm s107 s012,
 ⟨some s110, .call 12 [(.t s010), (.t s107)], none⟩]))))
 (.region [⟨some s111, .bin .add (.t s101) (.c (.int .i64 1)), none⟩,
 xm s101 s111])))))))
 (.seq (.region [⟨some s112, .call 19 [(.t s010)], none⟩,
 xm s004 s112])
 (.ret))))))))))
def r_strings_Join : List XR := [.tmp s004]
theorem ok_strings_Join : okC Tryz.prog Tryz.f13.ntmps (bodyOf Tryz.f13) x_strings_Join = true := by kernel_rfl
theorem okr_strings_Join : okRs Tryz.prog Tryz.f13.results.toList r_strings_Join = true := by kernel_rfl

/-- ip.Show -/
def x_ip_Show : XC :=
 .seq (.region [⟨some s002, .move (.c (.string { data := #[] })), none⟩])
 (.seq (.region [⟨some s003, .move (.c (.slice none 0 0)), none⟩])
 (.seq (.seq (.region [⟨some s004, .move (.c (.int .i64 24)), none⟩])
 (.block 0
 (.loop
 (.seq (.seq (.region [xm s005 s004,
 ⟨some s006, .bin .geq (.t s005) (.c (.int .i64 0)), none⟩])
 (.cond (.t s006)
 (.skip)
 (.exit 0)))
 (.seq (.block 1
 (.region [xm s011 s003,
 xm s012 s000,
 xm s013 s004,
 ⟨some s014, .bin .shr (.t s012) (.t s013), none⟩,
 ⟨some s015, .bin .and (.t s014) (.c (.int .u32 255)), none⟩,
 ⟨some s016, .convInt .i64 (.t s015), none⟩,
 ⟨some s017, .call 15 [(.t s016)], none⟩,
 ⟨some s020, .buildSlice 0 1 [.string { data := #[] }] [(0, (.t s017))], none⟩,
 ⟨some s021, .append 1 1 16 (.t s011) (.t s020), none⟩,
 xm s003 s021]))
 (.region [xm s007 s004,
 ⟨some s010, .bin .sub (.t s007) (.c (.int .i64 8)), none⟩,
 xm s004 s010]))))))
 (.seq (.region [xm s022 s003,
 ⟨some s023, .call 13 [(.t s022), (.c (.string { data := #[46] }))], none⟩,
 xm s002 s023])
 (.ret))))
def r_ip_Show : List XR := [.tmp s002]
theorem ok_ip_Show : okC Tryz.prog Tryz.f14.ntmps (bodyOf Tryz.f14) x_ip_Show = true := by kernel_rfl
theorem okr_ip_Show : okRs Tryz.prog Tryz.f14.results.toList r_ip_Show = true := by kernel_rfl

/-- strconv.Itoa -/
def x_strconv_Itoa : XC :=
 .seq (.region [⟨some s002, .move (.c (.string { data := #[] })), none⟩])
 (.seq (.region [xm s003 s000,
 ⟨some s004, .call 39 [(.t s003)], none⟩,
 xm s002 s004])
 (.ret))
def r_strconv_Itoa : List XR := [.tmp s002]
theorem ok_strconv_Itoa : okC Tryz.prog Tryz.f15.ntmps (bodyOf Tryz.f15) x_strconv_Itoa = true := by kernel_rfl
theorem okr_strconv_Itoa : okRs Tryz.prog Tryz.f15.results.toList r_strconv_Itoa = true := by kernel_rfl

/-- conf.verdict -/
def x_conf_verdict : XC :=
 .seq (.region [⟨some s002, .move (.c (.string { data := #[] })), none⟩])
 (.seq (.seq (.region [xm s003 s000])
 (.cond (.t s003)
 (.seq (.region [⟨some s002, .move (.c (.string { data := #[112, 97, 115, 115] })), none⟩])
 (.ret))
 (.skip)))
 (.seq (.region [⟨some s002, .move (.c (.string { data := #[100, 114, 111, 112] })), none⟩])
 (.ret)))
def r_conf_verdict : List XR := [.tmp s002]
theorem ok_conf_verdict : okC Tryz.prog Tryz.f16.ntmps (bodyOf Tryz.f16) x_conf_verdict = true := by kernel_rfl
theorem okr_conf_verdict : okRs Tryz.prog Tryz.f16.results.toList r_conf_verdict = true := by kernel_rfl

/-- conf.net -/
def x_conf_net : XC :=
 .seq (.region [⟨some s001, .box 0 2 (.t s000), none⟩,
 ⟨some s002, .move (.c (.string { data := #[] })), none⟩])
 (.seq (.regionD [0, 1, 3, 7, 0, 16, 55, 127, 255] [xf 0 s003 s001,
 xl s004 s003,
 ⟨some s005, .call 14 [(.t s004)], none⟩,
 ⟨some s006, .sbin .add (.t s005) (.c (.string { data := #[47] })), none⟩,
 xf 1 s007 s001,
 xl s010 s007,
 ⟨some s011, .call 15 [(.t s010)], none⟩,
 ⟨some s012, .sbin .add (.t s006) (.t s011), none⟩,
 xm s002 s012])
 (.ret))
def r_conf_net : List XR := [.tmp s002]
theorem ok_conf_net : okC Tryz.prog Tryz.f17.ntmps (bodyOf Tryz.f17) x_conf_net = true := by kernel_rfl
theorem okr_conf_net : okRs Tryz.prog Tryz.f17.results.toList r_conf_net = true := by kernel_rfl

/-- conf.bounds -/
def x_conf_bounds : XC :=
 .seq (.region [⟨some s004, .move (.c (.string { data := #[] })), none⟩])
 (.seq (.region [xm s005 s000,
 ⟨some s006, .call 15 [(.t s005)], none⟩,
 ⟨some s007, .sbin .add (.t s006) (.c (.string { data := #[45] })), none⟩,
 xm s010 s001,
 ⟨some s011, .call 15 [(.t s010)], none⟩,
 ⟨some s012, .sbin .add (.t s007) (.t s011), none⟩,
 xm s004 s012])
 (.ret))
def r_conf_bounds : List XR := [.tmp s004]
theorem ok_conf_bounds : okC Tryz.prog Tryz.f18.ntmps (bodyOf Tryz.f18) x_conf_bounds = true := by kernel_rfl
theorem okr_conf_bounds : okRs Tryz.prog Tryz.f18.results.toList r_conf_bounds = true := by kernel_rfl

/-- (*strings.Builder).String -/
def x_strings_Builder_String : XC :=
 .seq (.region [⟨some s002, .move (.c (.string { data := #[] })), none⟩])
 (.seq (.regionD [0, 1, 3, 7, 15, 0, 32, 96, 224, 480, 1023, 2047] [xm s003 s000,
 ⟨some s004, .nilCheck (.t s003), none⟩,
 xf 1 s005 s004,
 xl s006 s005,
 ⟨some s007, .dead, none⟩,
 xm s010 s000,
 ⟨some s011, .nilCheck (.t s010), none⟩,
 xf 1 s012 s011,
 xl s013 s012,
 ⟨some s014, .len (.t s013), none⟩,
 ⟨some s015, .dead, none⟩,
 xm s002 s015])
 (.ret))
def r_strings_Builder_String : List XR := [.tmp s002]
theorem ok_strings_Builder_String : okC Tryz.prog Tryz.f19.ntmps (bodyOf Tryz.f19) x_strings_Builder_String = true := by kernel_rfl
theorem okr_strings_Builder_String : okRs Tryz.prog Tryz.f19.results.toList r_strings_Builder_String = true := by kernel_rfl

/-- custref.AddrText -/
def x_custref_AddrText : XC :=
 .seq (.region [⟨some s002, .move (.c (.string { data := #[] })), none⟩])
 (.seq (.region [xm s006 s000,
 ⟨some s007, .call 40 [(.t s006)], none⟩,
 xm s003 s007])
 (.seq (.region [⟨some s004, .move (.c (.string { data := #[] })), none⟩])
 (.seq (.seq (.region [⟨some s010, .move (.c (.int .i64 0)), none⟩])
 (.block 0
 (.loop
 (.seq (.region [⟨some s011, .bin .lss (.t s010) (.c (.int .i64 4)), none⟩])
 (.seq (.cond (.t s011)
 (.skip)
 (.exit 0))
 (.seq (.block 1
 (.seq (.region [xm s012 s010,
 xm s005 s012])
 (.seq (.seq (.region [xm s013 s005,
 ⟨some s014, .bin .gtr (.t s013) (.c (.int .i64 0)), none⟩])
 (.cond (.t s014)
 (.region [xm s015 s004,
 ⟨some s016, .sbin .add (.t s015) (.c (.string { data := #[46] })), none⟩,
 xm s004 s016])
 (.skip)))
 (.region [xm s017 s004,
 xm s020 s003,
 xm s021 s005,
 ⟨some s022, .strAt (.t s020) (.t s021), none⟩,
 ⟨some s023, .convInt .i64 (.t s022), none⟩,
 ⟨some s024, .call 21 [(.t s023)], none⟩,
 ⟨some s025, .sbin .add (.t s017) (.t s024), none⟩,
 xm s004 s025]))))
 (.region [⟨some s026, .bin .add (.t s010) (.c (.int .i64 1)), none⟩,
 xm s010 s026])))))))
 (.seq (.region [xm s027 s004,
 xm s002 s027])
 (.ret)))))
def r_custref_AddrText : List XR := [.tmp s002]
theorem ok_custref_AddrText : okC Tryz.prog Tryz.f20.ntmps (bodyOf Tryz.f20) x_custref_AddrText = true := by kernel_rfl
theorem okr_custref_AddrText : okRs Tryz.prog Tryz.f20.results.toList r_custref_AddrText = true := by kernel_rfl

/-- custref.Num -/
def x_custref_Num : XC :=
 .seq (.region [⟨some s002, .move (.c (.string { data := #[] })), none⟩])
 (.seq (.seq (.region [xm s003 s000,
 ⟨some s004, .bin .lss (.t s003) (.c (.int .i64 0)), none⟩])
 (.cond (.t s004)
 (.seq (.region [xm s005 s000,
 ⟨some s006, .un .neg (.t s005), none⟩,
 ⟨some s007, .call 21 [(.t s006)], none⟩,
 ⟨some s010, .sbin .add (.c (.string { data := #[45] })) (.t s007), none⟩,
 xm s002 s010])
 (.ret))
 (.skip)))
 (.seq (.seq (.region [xm s011 s000,
 ⟨some s012, .bin .lss (.t s011) (.c (.int .i64 10)), none⟩])
 (.cond (.t s012)
 (.seq (.region [xm s013 s000,
 xm s014 s000,
 ⟨some s015, .bin .add (.t s014) (.c (.int .i64 1)), none⟩,
 ⟨some s016, .substr (.c (.string { data := #[48, 49, 50, 51, 52, 53, 54, 55, 56, 57] })) (some (.t s013)) (some (.t s015)), none⟩,
 xm s002 s016])
 (.ret))
 (.skip)))
 (.seq (.region [xm s017 s000,
 ⟨some s020, .bin .quo (.t s017) (.c (.int .i64 10)), none⟩,
 ⟨some s021, .call 21 [(.t s020)], none⟩,
 xm s022 s000,
 ⟨some s023, .bin .rem (.t s022) (.c (.int .i64 10)), none⟩,
 ⟨some s024, .call 21 [(.t s023)], none⟩,
 ⟨some s025, .sbin .add (.t s021) (.t s024), none⟩,
 xm s002 s025])
 (.ret))))
def r_custref_Num : List XR := [.tmp s002]
theorem ok_custref_Num : okC Tryz.prog Tryz.f21.ntmps (bodyOf Tryz.f21) x_custref_Num = true := by kernel_rfl
theorem okr_custref_Num : okRs Tryz.prog Tryz.f21.results.toList r_custref_Num = true := by kernel_rfl

/-- custref.RuleText -/
def x_custref_RuleText : XC :=
 .seq (.region [⟨some s001, .box 0 10 (.t s000), none⟩,
 ⟨some s002, .move (.c (.string { data := #[] })), none⟩])
 (.seq (.region [xf 9 s006 s001,
 xl s007 s006,
 ⟨some s010, .call 23 [(.t s007)], none⟩,
 xm s003 s010])
 (.seq (.seq (.region [xf 0 s011 s001,
 ⟨some s012, .load true 2 (.t s011), none⟩,
 xf 2 s013 s001,
 ⟨some s014, .load true 2 (.t s013), none⟩,
 ⟨some s015, .buildSlice 1 2 [.int .u32 0, .int .i64 0] [(0, (.t s012)), (1, (.t s014))], none⟩,
 ⟨some s016, .len (.t s015), none⟩,
 ⟨some s017, .move (.c (.int .i64 0)), none⟩])
 (.block 0
 (.loop
 (.seq (.region [⟨some s020, .bin .lss (.t s017) (.t s016), none⟩])
 (.seq (.cond (.t s020)
 (.skip)
 (.exit 0))
 (.seq (.block 1
 (.seq (.region [⟨some s021, .indexSl 2 (.t s015) (.t s017), none⟩,
 ⟨some s022, .load true 2 (.t s021), none⟩,
 ⟨some s005, .alloc 2 [.int .u32 0, .int .i64 0], none⟩,
 ⟨none, .store 2 (.t s005) (.t s022), none⟩])
 (.regionD [0, 0, 2, 6, 14, 30, 0, 64, 206, 510, 1023, 2047] [xm s023 s003,
 xf 0 s024 s005,
 xl s025 s024,
 ⟨some s026, .call 20 [(.t s025)], none⟩,
 ⟨some s027, .sbin .add (.c (.string { data := #[32] })) (.t s026), none⟩,
 ⟨some s030, .sbin .add (.t s027) (.c (.string { data := #[47] })), none⟩,
 xf 1 s031 s005,
 xl s032 s031,
 ⟨some s033, .call 21 [(.t s032)], none⟩,
 ⟨some s034, .sbin .add (.t s030) (.t s033), none⟩,
 ⟨some s035, .sbin .add (.t s023) (.t s034), none⟩,
 xm s003 s035])))
 (.region [⟨some s036, .bin .add (.t s017) (.c (.int .i64 1)), none⟩,
 xm s017 s036])))))))
 (.seq (.regionD [0, 1, 0, 4, 12, 31, 63, 0, 128, 412, 1023, 2047, 0, 4096, 13212, 32767, 65535, 0, 131072, 422812, 1048575, 2097151, 0, 4194304, 13530012, 33554431, 67108863] [xm s037 s003,
 ⟨some s040, .sbin .add (.t s037) (.c (.string { data := #[32] })), none⟩,
 xf 4 s041 s001,
 xl s042 s041,
 ⟨some s043, .call 21 [(.t s042)], none⟩,
 ⟨some s044, .sbin .add (.t s040) (.t s043), none⟩,
 ⟨some s045, .sbin .add (.t s044) (.c (.string { data := #[32] })), none⟩,
 xf 5 s046 s001,
 xl s047 s046,
 ⟨some s050, .call 21 [(.t s047)], none⟩,
 ⟨some s051, .sbin .add (.t s045) (.t s050), none⟩,
 ⟨some s052, .sbin .add (.t s051) (.c (.string { data := #[45] })), none⟩,
 xf 6 s053 s001,
 xl s054 s053,
 ⟨some s055, .call 21 [(.t s054)], none⟩,
 ⟨some s056, .sbin .add (.t s052) (.t s055), none⟩,
 ⟨some s057, .sbin .add (.t s056) (.c (.string { data := #[32] })), none⟩,
 xf 7 s060 s001,
 xl s061 s060,
 ⟨some s062, .call 21 [(.t s061)], none⟩,
 ⟨some s063, .sbin .add (.t s057) (.t s062), none⟩,
 ⟨some s064, .sbin .add (.t s063) (.c (.string { data := #[45] })), none⟩,
 xf 8 s065 s001,
 xl s066 s065,
 ⟨some s067, .call 21 [(.t s066)], none⟩,
 ⟨some s070, .sbin .add (.t s064) (.t s067), none⟩,
 xm s002 s070])
 (.ret))))
def r_custref_RuleText : List XR := [.tmp s002]
theorem ok_custref_RuleText : okC Tryz.prog Tryz.f22.ntmps (bodyOf Tryz.f22) x_custref_RuleText = true := by kernel_rfl
theorem okr_custref_RuleText : okRs Tryz.prog Tryz.f22.results.toList r_custref_RuleText = true := by kernel_rfl

/-- custref.passWord -/
def x_custref_passWord : XC :=
 .seq (.region [⟨some s002, .move (.c (.string { data := #[] })), none⟩])
 (.seq (.seq (.region [xm s003 s000])
 (.cond (.t s003)
 (.seq (.region [⟨some s002, .move (.c (.string { data := #[112, 97, 115, 115] })), none⟩])
 (.ret))
 (.skip)))
 (.seq (.region [⟨some s002, .move (.c (.string { data := #[100, 114, 111, 112] })), none⟩])
 (.ret)))
def r_custref_passWord : List XR := [.tmp s002]
theorem ok_custref_passWord : okC Tryz.prog Tryz.f23.ntmps (bodyOf Tryz.f23) x_custref_passWord = true := by kernel_rfl
theorem okr_custref_passWord : okRs Tryz.prog Tryz.f23.results.toList r_custref_passWord = true := by kernel_rfl

/-- strings.Split -/
def x_strings_Split : XC :=
 .seq (.region [⟨some s004, .move (.c (.slice none 0 0)), none⟩])
 (.seq (.region [xm s005 s000,
 xm s006 s001,
 ⟨some s007, .call 41 [(.t s005), (.t s006), (.c (.int .i64 0)), (.c (.int .i64 (-1)))], none⟩,
 xm s004 s007])
 (.ret))
def r_strings_Split : List XR := [.tmp s004]
theorem ok_strings_Split : okC Tryz.prog Tryz.f24.ntmps (bodyOf Tryz.f24) x_strings_Split = true := by kernel_rfl
theorem okr_strings_Split : okRs Tryz.prog Tryz.f24.results.toList r_strings_Split = true := by kernel_rfl

/-- conf.line -/
def x_conf_line : XC :=
 .seq (.region [⟨some s004, .move (.c (.string { data := #[] })), none⟩])
 (.seq (.region [xm s007 s001,
 ⟨some s010, .call 42 [(.t s007)], none⟩,
 xm s005 s010])
 (.seq (.seq (.region [xm s011 s005])
 (.block 0
 (.seq (.region [⟨some s060, .sbin .eql (.t s011) (.c (.string { data := #[111, 117, 116, 115, 105, 100, 101] })), none⟩,
 xm s057 s060])
 (.cond (.t s057)
 (.region [xm s061 s000,
 xm s062 s001,
 xm s063 s001,
 ⟨some s064, .call 42 [(.t s063)], none⟩,
 ⟨some s065, .call 43 [(.t s062), (.t s064)], none⟩,
 ⟨some s066, .nilCheck (.t s061), none⟩,
 xf 0 s067 s066,
 ⟨none, .store 1 (.t s067) (.t s065), none⟩])
 (.seq (.region [⟨some s071, .sbin .eql (.t s011) (.c (.string { data := #[112, 111, 114, 116, 115] })), none⟩,
 xm s070 s071])
 (.cond (.t s070)
 (.region [xm s072 s000,
 xm s073 s000,
 xm s074 s001,
 ⟨some s075, .call 44 [(.t s074)], none⟩,
 xm s076 s001,
 ⟨some s077, .call 44 [(.t s076)], none⟩,
 ⟨some s100, .nilCheck (.t s072), none⟩,
 xf 1 s101 s100,
 ⟨none, .store 1 (.t s101) (.t s075), none⟩,
 ⟨some s102, .nilCheck (.t s073), none⟩,
 xf 2 s103 s102,
 ⟨none, .store 1 (.t s103) (.t s077), none⟩])
 (.seq (.region [⟨some s105, .sbin .eql (.t s011) (.c (.string { data := #[108, 105, 102, 101] })), none⟩,
 xm s104 s105])
 (.cond (.t s104)
 (.region [xm s106 s000,
 xm s107 s001,
 ⟨some s110, .call 44 [(.t s107)], none⟩,
 ⟨some s111, .nilCheck (.t s106), none⟩,
 xf 3 s112 s111,
 ⟨none, .store 1 (.t s112) (.t s110), none⟩])
 (.seq (.region [⟨some s114, .sbin .eql (.t s011) (.c (.string { data := #[114, 97, 116, 101] })), none⟩,
 xm s113 s114])
 (.cond (.t s113)
 (.region [xm s115 s000,
 xm s116 s000,
 xm s117 s001,
 ⟨some s120, .call 44 [(.t s117)], none⟩,
 xm s121 s001,
 ⟨some s122, .call 44 [(.t s121)], none⟩,
 ⟨some s123, .nilCheck (.t s115), none⟩,
 xf 4 s124 s123,
 ⟨none, .store 1 (.t s124) (.t s120), none⟩,
 ⟨some s125, .nilCheck (.t s116), none⟩,
 xf 5 s126 s125,
 ⟨none, .store 1 (.t s126) (.t s122), none⟩])
 (.seq (.region [⟨some s130, .sbin .eql (.t s011) (.c (.string { data := #[101, 108, 115, 101] })), none⟩,
 xm s127 s130])
 (.cond (.t s127)
 (.region [xm s131 s000,
 xm s132 s001,
 xm s133 s001,
 ⟨some s134, .call 42 [(.t s133)], none⟩,
 ⟨some s135, .call 45 [(.t s132), (.t s134)], none⟩,
 ⟨some s136, .nilCheck (.t s131), none⟩,
 xf 7 s137 s136,
 ⟨none, .store 1 (.t s137) (.t s135), none⟩])
 (.seq (.region [xm s012 s001,
 xm s013 s005,
 ⟨some s014, .call 45 [(.t s012), (.t s013)], none⟩,
 ⟨some s015, .build [.int .u32 0, .int .i64 0, .int .u32 0, .int .i64 0, .int .i64 0, .int .i64 0, .int .i64 0, .int .i64 0, .int .i64 0, .bool false] [(9, 1, (.t s014))], none⟩,
 ⟨some s006, .alloc 3 [.int .u32 0, .int .i64 0, .int .u32 0, .int .i64 0, .int .i64 0, .int .i64 0, .int .i64 0, .int .i64 0, .int .i64 0, .bool false], none⟩,
 ⟨none, .store 10 (.t s006) (.t s015), none⟩])
 (.seq (.region [xm s016 s001,
 ⟨some s017, .call 46 [(.t s016)], none⟩,
 xf 0 s020 s006,
 ⟨none, .store 2 (.t s020) (.t s017), none⟩])
 (.seq (.region [xm s021 s001,
 ⟨some s022, .call 46 [(.t s021)], none⟩,
 xf 2 s023 s006,
 ⟨none, .store 2 (.t s023) (.t s022), none⟩])
 (.seq (.region [xm s024 s001,
 ⟨some s025, .call 44 [(.t s024)], none⟩,
 xf 4 s026 s006,
 ⟨none, .store 1 (.t s026) (.t s025), none⟩])
 (.seq (.region [xm s030 s001,
 ⟨some s031, .call 47 [(.t s030)], none⟩,
 xm s027 s031,
 ⟨some s032, .extract 0 (.t s027), none⟩,
 ⟨some s033, .extract 1 (.t s027), none⟩,
 xf 5 s034 s006,
 ⟨none, .store 1 (.t s034) (.t s032), none⟩,
 xf 6 s035 s006,
 ⟨none, .store 1 (.t s035) (.t s033), none⟩])
 (.seq (.region [xm s037 s001,
 ⟨some s040, .call 47 [(.t s037)], none⟩,
 xm s036 s040,
 ⟨some s041, .extract 0 (.t s036), none⟩,
 ⟨some s042, .extract 1 (.t s036), none⟩,
 xf 7 s043 s006,
 ⟨none, .store 1 (.t s043) (.t s041), none⟩,
 xf 8 s044 s006,
 ⟨none, .store 1 (.t s044) (.t s042), none⟩])
 (.regionD [0, 0, 2, 6, 14, 0, 32, 126, 255, 511, 1023] [xm s045 s000,
 xm s046 s000,
 ⟨some s047, .nilCheck (.t s046), none⟩,
 xf 6 s050 s047,
 xl s051 s050,
 ⟨some s052, .load true 10 (.t s006), none⟩,
 ⟨some s053, .buildSlice 4 1 [.int .u32 0, .int .i64 0, .int .u32 0, .int .i64 0, .int .i64 0, .int .i64 0, .int .i64 0, .int .i64 0, .int .i64 0, .bool false] [(0, (.t s052))], none⟩,
 ⟨some s054, .append 5 10 80 (.t s051) (.t s053), none⟩,
 ⟨some s055, .nilCheck (.t s045), none⟩,
 xf 6 s056 s055,
 ⟨none, .store 1 (.t s056) (.t s054), none⟩])))))))))))))))))))
 (.seq (.region [xm s140 s001,
 xm s141 s001,
 ⟨some s142, .nilCheck (.t s141), none⟩,
 xf 1 s143 s142,
 xl s144 s143,
 xm s145 s144,
 ⟨some s146, .move (.t s001), some (s145, false)⟩,
 ⟨some s147, .nilCheck (.t s146), some (s145, false)⟩,
 ⟨some s150, .fieldAddr 0 (.t s147), some (s145, false)⟩,
 ⟨some s151, .load false 1 (.t s150), some (s145, false)⟩,
 ⟨some s152, .len (.t s151), some (s145, false)⟩,
 ⟨some s153, .bin .gtr (.t s152) (.c (.int .i64 0)), some (s145, false)⟩,
 ⟨some s154, .pick (.t s145) (.c (.bool true)) (.t s153), none⟩,
 ⟨some s155, .nilCheck (.t s140), none⟩,
 xf 1 s156 s155,
 ⟨none, .store 1 (.t s156) (.t s154), none⟩])
 (.seq (.region [xm s157 s005,
 xm s004 s157])
 (.ret)))))
def r_conf_line : List XR := [.tmp s004]
theorem ok_conf_line : okC Tryz.prog Tryz.f25.ntmps (bodyOf Tryz.f25) x_conf_line = true := by kernel_rfl
theorem okr_conf_line : okRs Tryz.prog Tryz.f25.results.toList r_conf_line = true := by kernel_rfl

/-- slices.Contains -/
def x_slices_Contains_string : XC :=
 .seq (.region [⟨some s004, .move (.c (.bool false)), none⟩])
 (.seq (.region [xm s005 s000,
 xm s006 s001,
 ⟨some s007, .call 48 [(.t s005), (.t s006)], none⟩,
 ⟨some s010, .bin .geq (.t s007) (.c (.int .i64 0)), none⟩,
 xm s004 s010])
 (.ret))
def r_slices_Contains_string : List XR := [.tmp s004]
theorem ok_slices_Contains_string : okC Tryz.prog Tryz.f26.ntmps (bodyOf Tryz.f26) x_slices_Contains_string = true := by kernel_rfl
theorem okr_slices_Contains_string : okRs Tryz.prog Tryz.f26.results.toList r_slices_Contains_string = true := by kernel_rfl

/-- strings.Cut -/
def x_strings_Cut : XC :=
 .seq (.region [⟨some s004, .move (.c (.string { data := #[] })), none⟩,
 ⟨some s005, .move (.c (.string { data := #[] })), none⟩,
 ⟨some s006, .move (.c (.bool false)), none⟩])
 (.seq (.region [xm s007 s000,
 xm s010 s001,
 ⟨some s011, .call 49 [(.t s007), (.t s010)], none⟩,
 ⟨some s012, .extract 0 (.t s011), none⟩,
 ⟨some s013, .extract 1 (.t s011), none⟩,
 ⟨some s014, .extract 2 (.t s011), none⟩,
 xm s004 s012,
 xm s005 s013,
 xm s006 s014])
 (.ret))
def r_strings_Cut : List XR := [.tmp s004, .tmp s005, .tmp s006]
theorem ok_strings_Cut : okC Tryz.prog Tryz.f27.ntmps (bodyOf Tryz.f27) x_strings_Cut = true := by kernel_rfl
theorem okr_strings_Cut : okRs Tryz.prog Tryz.f27.results.toList r_strings_Cut = true := by kernel_rfl

/-- custref.WordsOf -/
def x_custref_WordsOf : XC :=
 .seq (.region [⟨some s002, .move (.c (.slice none 0 0)), none⟩])
 (.seq (.region [⟨some s003, .move (.c (.slice none 0 0)), none⟩])
 (.seq (.region [⟨some s004, .move (.c (.string { data := #[] })), none⟩])
 (.seq (.seq (.region [xm s006 s000,
 ⟨some s007, .slen (.t s006), none⟩,
 ⟨some s010, .bin .add (.t s007) (.c (.int .i64 1)), none⟩,
 ⟨some s011, .move (.c (.int .i64 0)), none⟩])
 (.block 0
 (.loop
 (.seq (.region [⟨some s012, .bin .lss (.t s011) (.t s010), none⟩])
 (.seq (.cond (.t s012)
 (.skip)
 (.exit 0))
 (.seq (.block 1
 (.seq (.region [xm s013 s011,
 xm s005 s013])
 (.seq (.seq (.region [xm s014 s005,
 xm s015 s000,
 ⟨some s016, .slen (.t s015), none⟩,
 ⟨some s017, .bin .lss (.t s014) (.t s016), none⟩,
 xm s020 s017,
 ⟨some s021, .move (.t s000), some (s020, true)⟩,
 ⟨some s022, .move (.t s005), some (s020, true)⟩,
 ⟨some s023, .strAt (.t s021) (.t s022), some (s020, true)⟩,
 ⟨some s024, .bin .neq (.t s023) (.c (.int .u8 32)), some (s020, true)⟩,
 ⟨some s025, .pick (.t s020) (.t s024) (.c (.bool false)), none⟩])
 (.cond (.t s025)
 (.seq (.region [xm s026 s004,
 xm s027 s000,
 xm s030 s005,
 xm s031 s005,
 ⟨some s032, .bin .add (.t s031) (.c (.int .i64 1)), none⟩,
 ⟨some s033, .substr (.t s027) (some (.t s030)) (some (.t s032)), none⟩,
 ⟨some s034, .sbin .add (.t s026) (.t s033), none⟩,
 xm s004 s034])
 (.exit 1))
 (.skip)))
 (.seq (.seq (.region [xm s035 s004,
 ⟨some s036, .sbin .neq (.t s035) (.c (.string { data := #[] })), none⟩])
 (.cond (.t s036)
 (.region [xm s037 s003,
 xm s040 s004,
 ⟨some s041, .buildSlice 0 1 [.string { data := #[] }] [(0, (.t s040))], none⟩,
 ⟨some s042, .append 1 1 16 (.t s037) (.t s041), none⟩,
 xm s003 s042])
 (.skip)))
 (.region [⟨some s004, .move (.c (.string { data := #[] })), none⟩])))))
 (.region [⟨some s043, .bin .add (.t s011) (.c (.int .i64 1)), none⟩,
 xm s011 s043])))))))
 (.seq (.region [xm s044 s003,
 xm s002 s044])
 (.ret)))))
def r_custref_WordsOf : List XR := [.tmp s002]
theorem ok_custref_WordsOf : okC Tryz.prog Tryz.f28.ntmps (bodyOf Tryz.f28) x_custref_WordsOf = true := by kernel_rfl
theorem okr_custref_WordsOf : okRs Tryz.prog Tryz.f28.results.toList r_custref_WordsOf = true := by kernel_rfl

/-- custref.lineNumbers -/
def x_custref_lineNumbers : XC :=
 .seq (.region [⟨some s002, .move (.c (.slice none 0 0)), none⟩,
 ⟨some s003, .move (.c (.bool false)), none⟩])
 (.seq (.region [xm s022 s000,
 ⟨some s023, .indexSl 1 (.t s022) (.c (.int .i64 0)), none⟩,
 xl s024 s023,
 ⟨some s025, .call 50 [(.t s024)], none⟩,
 xm s021 s025,
 ⟨some s026, .extract 0 (.t s021), none⟩,
 ⟨some s027, .extract 1 (.t s021), none⟩,
 ⟨some s005, .alloc 0 [.bool false], none⟩,
 xm s004 s026,
 ⟨none, .store 1 (.t s005) (.t s027), none⟩])
 (.seq (.seq (.region [xl s030 s005,
 ⟨some s031, .un .not (.t s030), none⟩,
 xm s032 s031,
 ⟨some s033, .move (.t s004), some (s032, false)⟩,
 ⟨some s034, .slen (.t s033), some (s032, false)⟩,
 ⟨some s035, .move (.t s000), some (s032, false)⟩,
 ⟨some s036, .len (.t s035), some (s032, false)⟩,
 ⟨some s037, .bin .sub (.t s036) (.c (.int .i64 1)), some (s032, false)⟩,
 ⟨some s040, .bin .neq (.t s034) (.t s037), some (s032, false)⟩,
 ⟨some s041, .pick (.t s032) (.c (.bool true)) (.t s040), none⟩])
 (.cond (.t s041)
 (.seq (.region [⟨some s002, .move (.c (.slice none 0 0)), none⟩,
 ⟨some s003, .move (.c (.bool false)), none⟩])
 (.ret))
 (.skip)))
 (.seq (.region [⟨some s006, .alloc 1 [.slice none 0 0], none⟩])
 (.seq (.region [⟨some s042, .mkfn 51 [] [(.t s006), (.t s005)], none⟩,
 xm s007 s042])
 (.seq (.region [⟨some s043, .mkfn 53 [] [(.t s006), (.t s005)], none⟩,
 xm s010 s043])
 (.seq (.seq (.region [xm s044 s000,
 ⟨some s045, .slice 1 (.t s044) (some (.c (.int .i64 1))) none none, none⟩,
 ⟨some s046, .len (.t s045), none⟩,
 ⟨some s047, .move (.c (.int .i64 0)), none⟩])
 (.block 0
 (.loop
 (.seq (.region [⟨some s050, .bin .lss (.t s047) (.t s046), none⟩])
 (.seq (.cond (.t s050)
 (.skip)
 (.exit 0))
 (.seq (.block 1
 (.seq (.region [xm s051 s047,
 ⟨some s052, .indexSl 1 (.t s045) (.t s047), none⟩,
 xl s053 s052,
 xm s011 s051,
 xm s012 s053])
 (.seq (.region [xm s054 s004,
 xm s055 s011,
 ⟨some s056, .strAt (.t s054) (.t s055), none⟩])
 (.block 2
 (.seq (.region [⟨some s060, .bin .eql (.t s056) (.c (.int .u8 97)), none⟩,
 xm s057 s060])
 (.cond (.t s057)
 (.region [xm s061 s010,
 xm s062 s012,
 ⟨some s063, .callv (.t s061) [(.t s062)], none⟩])
 (.seq (.region [⟨some s065, .bin .eql (.t s056) (.c (.int .u8 110)), none⟩,
 xm s064 s065])
 (.cond (.t s064)
 (.region [xm s066 s007,
 xm s067 s012,
 ⟨some s070, .callv (.t s066) [(.t s067)], none⟩])
 (.seq (.region [⟨some s072, .bin .eql (.t s056) (.c (.int .u8 118)), none⟩,
 xm s071 s072])
 (.cond (.t s071)
 (.region [xl s073 s005,
 xm s074 s073,
 ⟨some s075, .move (.t s012), some (s074, true)⟩,
 ⟨some s076, .sbin .eql (.t s075) (.c (.string { data := #[112, 97, 115, 115] })), some (s074, true)⟩,
 ⟨some s077, .move (.t s076), some (s074, true)⟩,
 ⟨some s100, .move (.t s012), some (s077, false)⟩,
 ⟨some s101, .sbin .eql (.t s100) (.c (.string { data := #[100, 114, 111, 112] })), some (s077, false)⟩,
 ⟨some s102, .pick (.t s077) (.c (.bool true)) (.t s101), some (s074, true)⟩,
 ⟨some s103, .pick (.t s074) (.t s102) (.c (.bool false)), none⟩,
 ⟨none, .store 1 (.t s005) (.t s103), none⟩])
 (.seq (.region [⟨some s105, .bin .eql (.t s056) (.c (.int .u8 116)), none⟩,
 xm s104 s105])
 (.cond (.t s104)
 (.seq (.region [xm s107 s012,
 ⟨some s110, .call 27 [(.t s107), (.c (.string { data := #[47] }))], none⟩,
 xm s106 s110,
 ⟨some s111, .extract 0 (.t s106), none⟩,
 ⟨some s112, .extract 1 (.t s106), none⟩,
 ⟨some s113, .extract 2 (.t s106), none⟩,
 xm s013 s111,
 xm s014 s112,
 xm s015 s113])
 (.seq (.region [xl s114 s005,
 xm s115 s114,
 ⟨some s116, .move (.t s015), some (s115, true)⟩,
 ⟨some s117, .pick (.t s115) (.t s116) (.c (.bool false)), none⟩,
 ⟨none, .store 1 (.t s005) (.t s117), none⟩])
 (.seq (.region [xm s120 s010,
 xm s121 s013,
 ⟨some s122, .callv (.t s120) [(.t s121)], none⟩])
 (.region [xm s123 s007,
 xm s124 s014,
 ⟨some s125, .callv (.t s123) [(.t s124)], none⟩]))))
 (.seq (.region [⟨some s127, .bin .eql (.t s056) (.c (.int .u8 98)), none⟩,
 xm s126 s127])
 (.cond (.t s126)
 (.seq (.region [xm s131 s012,
 ⟨some s132, .call 27 [(.t s131), (.c (.string { data := #[45] }))], none⟩,
 xm s130 s132,
 ⟨some s133, .extract 0 (.t s130), none⟩,
 ⟨some s134, .extract 1 (.t s130), none⟩,
 ⟨some s135, .extract 2 (.t s130), none⟩,
 xm s016 s133,
 xm s017 s134,
 xm s020 s135])
 (.seq (.region [xl s136 s005,
 xm s137 s136,
 ⟨some s140, .move (.t s020), some (s137, true)⟩,
 ⟨some s141, .pick (.t s137) (.t s140) (.c (.bool false)), none⟩,
 ⟨none, .store 1 (.t s005) (.t s141), none⟩])
 (.seq (.region [xm s142 s007,
 xm s143 s016,
 ⟨some s144, .callv (.t s142) [(.t s143)], none⟩])
 (.region [xm s145 s007,
 xm s146 s017,
 ⟨some s147, .callv (.t s145) [(.t s146)], none⟩]))))
 (.skip)))))))))))))))
 (.region [⟨some s150, .bin .add (.t s047) (.c (.int .i64 1)), none⟩,
 xm s047 s150])))))))
 (.seq (.regionD [0, 0, 1, 7] [xl s151 s006,
 xl s152 s005,
 xm s002 s151,
 xm s003 s152])
 (.ret))))))))
def r_custref_lineNumbers : List XR := [.tmp s002, .tmp s003]
theorem ok_custref_lineNumbers : okC Tryz.prog Tryz.f29.ntmps (bodyOf Tryz.f29) x_custref_lineNumbers = true := by kernel_rfl
theorem okr_custref_lineNumbers : okRs Tryz.prog Tryz.f29.results.toList r_custref_lineNumbers = true := by kernel_rfl

/-- strings.Contains -/
def x_strings_Contains : XC :=
 .seq (.region [⟨some s004, .move (.c (.bool false)), none⟩])
 (.seq (.region [xm s005 s000,
 xm s006 s001,
 ⟨some s007, .call 55 [(.t s005), (.t s006)], none⟩,
 ⟨some s010, .bin .geq (.t s007) (.c (.int .i64 0)), none⟩,
 xm s004 s010])
 (.ret))
def r_strings_Contains : List XR := [.tmp s004]
theorem ok_strings_Contains : okC Tryz.prog Tryz.f30.ntmps (bodyOf Tryz.f30) x_strings_Contains = true := by kernel_rfl
theorem okr_strings_Contains : okRs Tryz.prog Tryz.f30.results.toList r_strings_Contains = true := by kernel_rfl

/-- ports.Check -/
def x_ports_Check : XC :=
 .seq (.region [⟨some s001, .box 0 2 (.t s000), none⟩,
 ⟨some s002, .move (.c (.int .i64 0)), none⟩])
 (.seq (.seq (.region [xf 0 s003 s001,
 xl s004 s003,
 ⟨some s005, .bin .lss (.t s004) (.c (.int .i64 64)), none⟩,
 xm s006 s005,
 ⟨some s007, .fieldAddr 0 (.t s001), some (s006, false)⟩,
 ⟨some s010, .load false 1 (.t s007), some (s006, false)⟩,
 ⟨some s011, .bin .gtr (.t s010) (.c (.int .i64 65472)), some (s006, false)⟩,
 ⟨some s012, .pick (.t s006) (.c (.bool true)) (.t s011), none⟩,
 xm s013 s012,
 ⟨some s014, .fieldAddr 0 (.t s001), some (s013, false)⟩,
 ⟨some s015, .load false 1 (.t s014), some (s013, false)⟩,
 ⟨some s016, .bin .rem (.t s015) (.c (.int .i64 64)), some (s013, false)⟩,
 ⟨some s017, .bin .neq (.t s016) (.c (.int .i64 0)), some (s013, false)⟩,
 ⟨some s020, .pick (.t s013) (.c (.bool true)) (.t s017), none⟩])
 (.cond (.t s020)
 (.seq (.region [⟨some s002, .move (.c (.int .i64 1)), none⟩])
 (.ret))
 (.skip)))
 (.seq (.region [⟨some s002, .move (.c (.int .i64 0)), none⟩])
 (.ret)))
def r_ports_Check : List XR := [.tmp s002]
theorem ok_ports_Check : okC Tryz.prog Tryz.f31.ntmps (bodyOf Tryz.f31) x_ports_Check = true := by kernel_rfl
theorem okr_ports_Check : okRs Tryz.prog Tryz.f31.results.toList r_ports_Check = true := by kernel_rfl

/-- rules.Check -/
def x_rules_Check : XC :=
 .seq (.region [⟨some s002, .move (.c (.int .i64 0)), none⟩])
 (.seq (.seq (.region [xm s005 s000,
 ⟨some s006, .len (.t s005), none⟩,
 ⟨some s007, .bin .gtr (.t s006) (.c (.int .i64 64)), none⟩])
 (.cond (.t s007)
 (.seq (.region [⟨some s002, .move (.c (.int .i64 2)), none⟩])
 (.ret))
 (.skip)))
 (.seq (.seq (.region [xm s010 s000,
 ⟨some s011, .len (.t s010), none⟩,
 ⟨some s012, .move (.c (.int .i64 0)), none⟩])
 (.block 0
 (.loop
 (.seq (.region [⟨some s013, .bin .lss (.t s012) (.t s011), none⟩])
 (.seq (.cond (.t s013)
 (.skip)
 (.exit 0))
 (.seq (.block 1
 (.seq (.region [⟨some s014, .indexSl 10 (.t s010) (.t s012), none⟩,
 ⟨some s015, .load true 10 (.t s014), none⟩,
 ⟨some s004, .alloc 0 [.int .u32 0, .int .i64 0, .int .u32 0, .int .i64 0, .int .i64 0, .int .i64 0, .int .i64 0, .int .i64 0, .int .i64 0, .bool false], none⟩,
 ⟨none, .store 10 (.t s004) (.t s015), none⟩])
 (.seq (.region [⟨some s016, .load true 10 (.t s004), none⟩,
 ⟨some s017, .call 56 [(.t s016)], none⟩,
 ⟨some s020, .un .not (.t s017), none⟩])
 (.cond (.t s020)
 (.seq (.region [⟨some s002, .move (.c (.int .i64 4)), none⟩])
 (.ret))
 (.skip)))))
 (.region [⟨some s021, .bin .add (.t s012) (.c (.int .i64 1)), none⟩,
 xm s012 s021])))))))
 (.seq (.region [⟨some s002, .move (.c (.int .i64 0)), none⟩])
 (.ret))))
def r_rules_Check : List XR := [.tmp s002]
theorem ok_rules_Check : okC Tryz.prog Tryz.f32.ntmps (bodyOf Tryz.f32) x_rules_Check = true := by kernel_rfl
theorem okr_rules_Check : okRs Tryz.prog Tryz.f32.results.toList r_rules_Check = true := by kernel_rfl

/-- custref.PortsRight -/
def x_custref_PortsRight : XC :=
 .seq (.region [⟨some s001, .box 0 2 (.t s000), none⟩,
 ⟨some s002, .move (.c (.int .i64 0)), none⟩])
 (.seq (.seq (.region [xf 0 s003 s001,
 xl s004 s003,
 ⟨some s005, .call 34 [(.t s004), (.c (.int .i64 64)), (.c (.int .i64 65472))], none⟩,
 ⟨some s006, .un .not (.t s005), none⟩,
 xm s007 s006,
 ⟨some s010, .fieldAddr 0 (.t s001), some (s007, false)⟩,
 ⟨some s011, .load false 1 (.t s010), some (s007, false)⟩,
 ⟨some s012, .bin .rem (.t s011) (.c (.int .i64 64)), some (s007, false)⟩,
 ⟨some s013, .bin .neq (.t s012) (.c (.int .i64 0)), some (s007, false)⟩,
 ⟨some s014, .pick (.t s007) (.c (.bool true)) (.t s013), none⟩])
 (.cond (.t s014)
 (.seq (.region [⟨some s002, .move (.c (.int .i64 1)), none⟩])
 (.ret))
 (.skip)))
 (.seq (.region [⟨some s002, .move (.c (.int .i64 0)), none⟩])
 (.ret)))
def r_custref_PortsRight : List XR := [.tmp s002]
theorem ok_custref_PortsRight : okC Tryz.prog Tryz.f33.ntmps (bodyOf Tryz.f33) x_custref_PortsRight = true := by kernel_rfl
theorem okr_custref_PortsRight : okRs Tryz.prog Tryz.f33.results.toList r_custref_PortsRight = true := by kernel_rfl

/-- custref.Between -/
def x_custref_Between : XC :=
 .seq (.region [⟨some s006, .move (.c (.bool false)), none⟩])
 (.seq (.region [xm s007 s001,
 xm s010 s000,
 ⟨some s011, .bin .leq (.t s007) (.t s010), none⟩,
 xm s012 s011,
 ⟨some s013, .move (.t s000), some (s012, true)⟩,
 ⟨some s014, .move (.t s002), some (s012, true)⟩,
 ⟨some s015, .bin .leq (.t s013) (.t s014), some (s012, true)⟩,
 ⟨some s016, .pick (.t s012) (.t s015) (.c (.bool false)), none⟩,
 xm s006 s016])
 (.ret))
def r_custref_Between : List XR := [.tmp s006]
theorem ok_custref_Between : okC Tryz.prog Tryz.f34.ntmps (bodyOf Tryz.f34) x_custref_Between = true := by kernel_rfl
theorem okr_custref_Between : okRs Tryz.prog Tryz.f34.results.toList r_custref_Between = true := by kernel_rfl

/-- custref.RulesRight -/
def x_custref_RulesRight : XC :=
 .seq (.region [⟨some s002, .move (.c (.int .i64 0)), none⟩])
 (.seq (.seq (.region [xm s005 s000,
 ⟨some s006, .len (.t s005), none⟩,
 ⟨some s007, .bin .gtr (.t s006) (.c (.int .i64 64)), none⟩])
 (.cond (.t s007)
 (.seq (.region [⟨some s002, .move (.c (.int .i64 2)), none⟩])
 (.ret))
 (.skip)))
 (.seq (.seq (.region [xm s010 s000,
 ⟨some s011, .len (.t s010), none⟩,
 ⟨some s012, .move (.c (.int .i64 0)), none⟩])
 (.block 0
 (.loop
 (.seq (.region [⟨some s013, .bin .lss (.t s012) (.t s011), none⟩])
 (.seq (.cond (.t s013)
 (.skip)
 (.exit 0))
 (.seq (.block 1
 (.seq (.region [⟨some s014, .indexSl 10 (.t s010) (.t s012), none⟩,
 ⟨some s015, .load true 10 (.t s014), none⟩,
 ⟨some s004, .alloc 0 [.int .u32 0, .int .i64 0, .int .u32 0, .int .i64 0, .int .i64 0, .int .i64 0, .int .i64 0, .int .i64 0, .int .i64 0, .bool false], none⟩,
 ⟨none, .store 10 (.t s004) (.t s015), none⟩])
 (.seq (.region [⟨some s016, .load true 10 (.t s004), none⟩,
 ⟨some s017, .call 57 [(.t s016)], none⟩,
 ⟨some s020, .un .not (.t s017), none⟩])
 (.cond (.t s020)
 (.seq (.region [⟨some s002, .move (.c (.int .i64 4)), none⟩])
 (.ret))
 (.skip)))))
 (.region [⟨some s021, .bin .add (.t s012) (.c (.int .i64 1)), none⟩,
 xm s012 s021])))))))
 (.seq (.region [⟨some s002, .move (.c (.int .i64 0)), none⟩])
 (.ret))))
def r_custref_RulesRight : List XR := [.tmp s002]
theorem ok_custref_RulesRight : okC Tryz.prog Tryz.f35.ntmps (bodyOf Tryz.f35) x_custref_RulesRight = true := by kernel_rfl
theorem okr_custref_RulesRight : okRs Tryz.prog Tryz.f35.results.toList r_custref_RulesRight = true := by kernel_rfl

/-- slices.Equal -/
def x_slices_Equal_api_Rule : XC :=
 .seq (.region [⟨some s004, .move (.c (.bool false)), none⟩])
 (.seq (.seq (.region [xm s006 s000,
 ⟨some s007, .len (.t s006), none⟩,
 xm s010 s001,
 ⟨some s011, .len (.t s010), none⟩,
 ⟨some s012, .bin .neq (.t s007) (.t s011), none⟩])
 (.cond (.t s012)
 (.seq (.region [⟨some s004, .move (.c (.bool false)), none⟩])
 (.ret))
 (.skip)))
 (.seq (.seq (.region [xm s013 s000,
 ⟨some s014, .len (.t s013), none⟩,
 ⟨some s015, .move (.c (.int .i64 0)), none⟩])
 (.block 0
 (.loop
 (.seq (.region [⟨some s016, .bin .lss (.t s015) (.t s014), none⟩])
 (.seq (.cond (.t s016)
 (.skip)
 (.exit 0))
 (.seq (.block 1
 (.seq (.region [xm s017 s015,
 xm s005 s017])
 (.seq (.regionD [0, 0, 3, 7, 0, 0, 48, 112, 255] [xm s020 s000,
 xm s021 s005,
 ⟨some s022, .indexSl 10 (.t s020) (.t s021), none⟩,
 ⟨some s023, .load true 10 (.t s022), none⟩,
 xm s024 s001,
 xm s025 s005,
 ⟨some s026, .indexSl 10 (.t s024) (.t s025), none⟩,
 ⟨some s027, .load true 10 (.t s026), none⟩,
 ⟨some s030, .eqs true [0, 0, 0, 0, 0, 0, 0, 0, 0, 1] (.t s023) (.t s027), none⟩])
 (.cond (.t s030)
 (.seq (.region [⟨some s004, .move (.c (.bool false)), none⟩])
 (.ret))
 (.skip)))))
 (.region [⟨some s031, .bin .add (.t s015) (.c (.int .i64 1)), none⟩,
 xm s015 s031])))))))
 (.seq (.region [⟨some s004, .move (.c (.bool true)), none⟩])
 (.ret))))
def r_slices_Equal_api_Rule : List XR := [.tmp s004]
theorem ok_slices_Equal_api_Rule : okC Tryz.prog Tryz.f36.ntmps (bodyOf Tryz.f36) x_slices_Equal_api_Rule = true := by kernel_rfl
theorem okr_slices_Equal_api_Rule : okRs Tryz.prog Tryz.f36.results.toList r_slices_Equal_api_Rule = true := by kernel_rfl

/-- (*strings.Builder).Grow -/
def x_strings_Builder_Grow : XC :=
 .seq (.region [xm s004 s000,
 ⟨some s005, .call 37 [(.t s004)], none⟩])
 (.seq (.seq (.region [xm s006 s001,
 ⟨some s007, .bin .lss (.t s006) (.c (.int .i64 0)), none⟩])
 (.cond (.t s007)
 (.region [⟨some s010, .dead, none⟩,
 ⟨none, .dead, none⟩])
 (.skip)))
 (.seq (.regionD [0, 1, 3, 7, 15, 0, 32, 96, 224, 480, 1023, 0, 4095] [xm s011 s000,
 ⟨some s012, .nilCheck (.t s011), none⟩,
 xf 1 s013 s012,
 xl s014 s013,
 ⟨some s015, .dead, none⟩,
 xm s016 s000,
 ⟨some s017, .nilCheck (.t s016), none⟩,
 xf 1 s020 s017,
 xl s021 s020,
 ⟨some s022, .len (.t s021), none⟩,
 ⟨some s023, .bin .sub (.t s015) (.t s022), none⟩,
 xm s024 s001,
 ⟨some s025, .bin .lss (.t s023) (.t s024), none⟩])
 (.cond (.t s025)
 (.region [xm s026 s000,
 xm s027 s001,
 ⟨some s030, .call 59 [(.t s026), (.t s027)], none⟩])
 (.skip))))
def r_strings_Builder_Grow : List XR := []
theorem ok_strings_Builder_Grow : okC Tryz.prog Tryz.f38.ntmps (bodyOf Tryz.f38) x_strings_Builder_Grow = true := by kernel_rfl
theorem okr_strings_Builder_Grow : okRs Tryz.prog Tryz.f38.results.toList r_strings_Builder_Grow = true := by kernel_rfl

/-- strconv.Itoa -/
def x_strconv_Itoa_1 : XC :=
 .seq (.region [⟨some s002, .move (.c (.string { data := #[] })), none⟩])
 (.seq (.region [xm s003 s000,
 ⟨some s004, .call 60 [(.t s003), (.c (.int .i64 10))], none⟩,
 xm s002 s004])
 (.ret))
def r_strconv_Itoa_1 : List XR := [.tmp s002]
theorem ok_strconv_Itoa_1 : okC Tryz.prog Tryz.f39.ntmps (bodyOf Tryz.f39) x_strconv_Itoa_1 = true := by kernel_rfl
theorem okr_strconv_Itoa_1 : okRs Tryz.prog Tryz.f39.results.toList r_strconv_Itoa_1 = true := by kernel_rfl

/-- custref.Long -/
def x_custref_Long : XC :=
 .seq (.region [⟨some s002, .move (.c (.string { data := #[] })), none⟩])
 (.seq (.region [xm s003 s000,
 ⟨some s004, .bin .quo (.t s003) (.c (.int .u32 65536)), none⟩,
 ⟨some s005, .convInt .i64 (.t s004), none⟩,
 ⟨some s006, .call 61 [(.t s005)], none⟩,
 xm s007 s000,
 ⟨some s010, .bin .rem (.t s007) (.c (.int .u32 65536)), none⟩,
 ⟨some s011, .convInt .i64 (.t s010), none⟩,
 ⟨some s012, .call 61 [(.t s011)], none⟩,
 ⟨some s013, .sbin .add (.t s006) (.t s012), none⟩,
 xm s002 s013])
 (.ret))
def r_custref_Long : List XR := [.tmp s002]
theorem ok_custref_Long : okC Tryz.prog Tryz.f40.ntmps (bodyOf Tryz.f40) x_custref_Long = true := by kernel_rfl
theorem okr_custref_Long : okRs Tryz.prog Tryz.f40.results.toList r_custref_Long = true := by kernel_rfl

/-- strings.genSplit -/
def x_strings_genSplit : XC :=
 .seq (.region [⟨some s010, .move (.c (.slice none 0 0)), none⟩])
 (.seq (.seq (.region [xm s014 s003,
 ⟨some s015, .bin .eql (.t s014) (.c (.int .i64 0)), none⟩])
 (.cond (.t s015)
 (.seq (.region [⟨some s010, .move (.c (.slice none 0 0)), none⟩])
 (.ret))
 (.skip)))
 (.seq (.seq (.region [xm s016 s001,
 ⟨some s017, .sbin .eql (.t s016) (.c (.string { data := #[] })), none⟩])
 (.cond (.t s017)
 (.seq (.region [xm s020 s000,
 xm s021 s003,
 ⟨some s022, .call 62 [(.t s020), (.t s021)], none⟩,
 xm s010 s022])
 (.ret))
 (.skip)))
 (.seq (.seq (.region [xm s023 s003,
 ⟨some s024, .bin .lss (.t s023) (.c (.int .i64 0)), none⟩])
 (.cond (.t s024)
 (.region [xm s025 s000,
 xm s026 s001,
 ⟨some s027, .call 63 [(.t s025), (.t s026)], none⟩,
 ⟨some s030, .bin .add (.t s027) (.c (.int .i64 1)), none⟩,
 xm s003 s030])
 (.skip)))
 (.seq (.region [xm s031 s003,
 xm s032 s000,
 ⟨some s033, .slen (.t s032), none⟩,
 ⟨some s034, .bin .add (.t s033) (.c (.int .i64 1)), none⟩,
 ⟨some s035, .minI (.t s031) (.t s034), none⟩,
 xm s003 s035])
 (.seq (.region [xm s036 s003,
 ⟨some s037, .makeSlice 0 16 [.string { data := #[] }] (.t s036) (.t s036), none⟩,
 xm s011 s037])
 (.seq (.region [xm s040 s003,
 ⟨some s041, .bin .sub (.t s040) (.c (.int .i64 1)), none⟩,
 xm s003 s041])
 (.seq (.region [⟨some s012, .move (.c (.int .i64 0)), none⟩])
 (.seq (.block 0
 (.loop
 (.seq (.seq (.region [xm s042 s012,
 xm s043 s003,
 ⟨some s044, .bin .lss (.t s042) (.t s043), none⟩])
 (.cond (.t s044)
 (.skip)
 (.exit 0)))
 (.block 1
 (.seq (.region [xm s045 s000,
 xm s046 s001,
 ⟨some s047, .call 55 [(.t s045), (.t s046)], none⟩,
 xm s013 s047])
 (.seq (.seq (.region [xm s050 s013,
 ⟨some s051, .bin .lss (.t s050) (.c (.int .i64 0)), none⟩])
 (.cond (.t s051)
 (.exit 0)
 (.skip)))
 (.seq (.region [xm s052 s011,
 xm s053 s012,
 xm s054 s000,
 xm s055 s013,
 xm s056 s002,
 ⟨some s057, .bin .add (.t s055) (.t s056), none⟩,
 ⟨some s060, .substr (.t s054) none (some (.t s057)), none⟩,
 ⟨some s061, .indexSl 1 (.t s052) (.t s053), none⟩,
 ⟨none, .store 1 (.t s061) (.t s060), none⟩])
 (.seq (.region [xm s062 s000,
 xm s063 s013,
 xm s064 s001,
 ⟨some s065, .slen (.t s064), none⟩,
 ⟨some s066, .bin .add (.t s063) (.t s065), none⟩,
 ⟨some s067, .substr (.t s062) (some (.t s066)) none, none⟩,
 xm s000 s067])
 (.region [xm s070 s012,
 ⟨some s071, .bin .add (.t s070) (.c (.int .i64 1)), none⟩,
 xm s012 s071])))))))))
 (.seq (.region [xm s072 s011,
 xm s073 s012,
 xm s074 s000,
 ⟨some s075, .indexSl 1 (.t s072) (.t s073), none⟩,
 ⟨none, .store 1 (.t s075) (.t s074), none⟩])
 (.seq (.region [xm s076 s011,
 xm s077 s012,
 ⟨some s100, .bin .add (.t s077) (.c (.int .i64 1)), none⟩,
 ⟨some s101, .slice 1 (.t s076) none (some (.t s100)) none, none⟩,
 xm s010 s101])
 (.ret)))))))))))
def r_strings_genSplit : List XR := [.tmp s010]
theorem ok_strings_genSplit : okC Tryz.prog Tryz.f41.ntmps (bodyOf Tryz.f41) x_strings_genSplit = true := by kernel_rfl
theorem okr_strings_genSplit : okRs Tryz.prog Tryz.f41.results.toList r_strings_genSplit = true := by kernel_rfl

/-- conf.words).next -/
def x_conf_words_next : XC :=
 .seq (.region [⟨some s002, .move (.c (.string { data := #[] })), none⟩])
 (.seq (.seq (.region [xm s004 s000,
 ⟨some s005, .nilCheck (.t s004), none⟩,
 xf 0 s006 s005,
 xl s007 s006,
 ⟨some s010, .len (.t s007), none⟩,
 ⟨some s011, .bin .eql (.t s010) (.c (.int .i64 0)), none⟩])
 (.cond (.t s011)
 (.seq (.region [xm s012 s000,
 ⟨some s013, .nilCheck (.t s012), none⟩,
 xf 1 s014 s013,
 ⟨none, .store 1 (.t s014) (.c (.bool true)), none⟩])
 (.seq (.region [⟨some s002, .move (.c (.string { data := #[] })), none⟩])
 (.ret)))
 (.skip)))
 (.seq (.region [xm s015 s000,
 ⟨some s016, .nilCheck (.t s015), none⟩,
 xf 0 s017 s016,
 xl s020 s017,
 ⟨some s021, .indexSl 1 (.t s020) (.c (.int .i64 0)), none⟩,
 xl s022 s021,
 xm s003 s022])
 (.seq (.region [xm s023 s000,
 xm s024 s000,
 ⟨some s025, .nilCheck (.t s024), none⟩,
 xf 0 s026 s025,
 xl s027 s026,
 ⟨some s030, .slice 1 (.t s027) (some (.c (.int .i64 1))) none none, none⟩,
 ⟨some s031, .nilCheck (.t s023), none⟩,
 xf 0 s032 s031,
 ⟨none, .store 1 (.t s032) (.t s030), none⟩])
 (.seq (.region [xm s033 s003,
 xm s002 s033])
 (.ret)))))
def r_conf_words_next : List XR := [.tmp s002]
theorem ok_conf_words_next : okC Tryz.prog Tryz.f42.ntmps (bodyOf Tryz.f42) x_conf_words_next = true := by kernel_rfl
theorem okr_conf_words_next : okRs Tryz.prog Tryz.f42.results.toList r_conf_words_next = true := by kernel_rfl

/-- conf.words).addr -/
def x_conf_words_addr : XC :=
 .seq (.region [⟨some s004, .move (.c (.int .u32 0)), none⟩])
 (.seq (.region [xm s010 s001,
 ⟨some s011, .call 64 [(.t s010)], none⟩,
 xm s007 s011,
 ⟨some s012, .extract 0 (.t s007), none⟩,
 ⟨some s013, .extract 1 (.t s007), none⟩,
 xm s005 s012,
 xm s006 s013])
 (.seq (.region [xm s014 s000,
 xm s015 s000,
 ⟨some s016, .nilCheck (.t s015), none⟩,
 xf 1 s017 s016,
 xl s020 s017,
 xm s021 s020,
 ⟨some s022, .move (.t s006), some (s021, false)⟩,
 ⟨some s023, .bin .neq (.t s022) (.c (.int .i64 0)), some (s021, false)⟩,
 ⟨some s024, .pick (.t s021) (.c (.bool true)) (.t s023), none⟩,
 ⟨some s025, .nilCheck (.t s014), none⟩,
 xf 1 s026 s025,
 ⟨none, .store 1 (.t s026) (.t s024), none⟩])
 (.seq (.region [xm s027 s005,
 xm s004 s027])
 (.ret))))
def r_conf_words_addr : List XR := [.tmp s004]
theorem ok_conf_words_addr : okC Tryz.prog Tryz.f43.ntmps (bodyOf Tryz.f43) x_conf_words_addr = true := by kernel_rfl
theorem okr_conf_words_addr : okRs Tryz.prog Tryz.f43.results.toList r_conf_words_addr = true := by kernel_rfl

/-- conf.words).number -/
def x_conf_words_number : XC :=
 .seq (.region [⟨some s002, .move (.c (.int .i64 0)), none⟩])
 (.seq (.region [xm s003 s000,
 xm s004 s000,
 ⟨some s005, .call 42 [(.t s004)], none⟩,
 ⟨some s006, .call 65 [(.t s003), (.t s005)], none⟩,
 xm s002 s006])
 (.ret))
def r_conf_words_number : List XR := [.tmp s002]
theorem ok_conf_words_number : okC Tryz.prog Tryz.f44.ntmps (bodyOf Tryz.f44) x_conf_words_number = true := by kernel_rfl
theorem okr_conf_words_number : okRs Tryz.prog Tryz.f44.results.toList r_conf_words_number = true := by kernel_rfl

/-- conf.words).verdict -/
def x_conf_words_verdict : XC :=
 .seq (.region [⟨some s004, .move (.c (.bool false)), none⟩])
 (.seq (.region [xm s005 s000,
 xm s006 s000,
 ⟨some s007, .nilCheck (.t s006), none⟩,
 xf 1 s010 s007,
 xl s011 s010,
 xm s012 s011,
 ⟨some s013, .move (.t s001), some (s012, false)⟩,
 ⟨some s014, .sbin .neq (.t s013) (.c (.string { data := #[112, 97, 115, 115] })), some (s012, false)⟩,
 ⟨some s015, .move (.t s014), some (s012, false)⟩,
 ⟨some s016, .move (.t s001), some (s015, true)⟩,
 ⟨some s017, .sbin .neq (.t s016) (.c (.string { data := #[100, 114, 111, 112] })), some (s015, true)⟩,
 ⟨some s020, .pick (.t s015) (.t s017) (.c (.bool false)), some (s012, false)⟩,
 ⟨some s021, .pick (.t s012) (.c (.bool true)) (.t s020), none⟩,
 ⟨some s022, .nilCheck (.t s005), none⟩,
 xf 1 s023 s022,
 ⟨none, .store 1 (.t s023) (.t s021), none⟩])
 (.seq (.region [xm s024 s001,
 ⟨some s025, .sbin .eql (.t s024) (.c (.string { data := #[112, 97, 115, 115] })), none⟩,
 xm s004 s025])
 (.ret)))
def r_conf_words_verdict : List XR := [.tmp s004]
theorem ok_conf_words_verdict : okC Tryz.prog Tryz.f45.ntmps (bodyOf Tryz.f45) x_conf_words_verdict = true := by kernel_rfl
theorem okr_conf_words_verdict : okRs Tryz.prog Tryz.f45.results.toList r_conf_words_verdict = true := by kernel_rfl

/-- conf.words).net -/
def x_conf_words_net : XC :=
 .seq (.region [⟨some s002, .alloc 1 [.int .u32 0, .int .i64 0], none⟩])
 (.seq (.region [xm s006 s000,
 ⟨some s007, .call 66 [(.t s006), (.c (.string { data := #[47] }))], none⟩,
 xm s005 s007,
 ⟨some s010, .extract 0 (.t s005), none⟩,
 ⟨some s011, .extract 1 (.t s005), none⟩,
 xm s003 s010,
 xm s004 s011])
 (.seq (.region [xm s012 s000,
 xm s013 s003,
 ⟨some s014, .call 43 [(.t s012), (.t s013)], none⟩,
 xm s015 s000,
 xm s016 s004,
 ⟨some s017, .call 65 [(.t s015), (.t s016)], none⟩,
 ⟨some s020, .build [.int .u32 0, .int .i64 0] [(0, 1, (.t s014)), (1, 1, (.t s017))], none⟩,
 ⟨none, .store 2 (.t s002) (.t s020), none⟩])
 (.ret)))
def r_conf_words_net : List XR := [.cell s002 true 2]
theorem ok_conf_words_net : okC Tryz.prog Tryz.f46.ntmps (bodyOf Tryz.f46) x_conf_words_net = true := by kernel_rfl
theorem okr_conf_words_net : okRs Tryz.prog Tryz.f46.results.toList r_conf_words_net = true := by kernel_rfl

/-- conf.words).bounds -/
def x_conf_words_bounds : XC :=
 .seq (.region [⟨some s002, .move (.c (.int .i64 0)), none⟩,
 ⟨some s003, .move (.c (.int .i64 0)), none⟩])
 (.seq (.region [xm s007 s000,
 ⟨some s010, .call 66 [(.t s007), (.c (.string { data := #[45] }))], none⟩,
 xm s006 s010,
 ⟨some s011, .extract 0 (.t s006), none⟩,
 ⟨some s012, .extract 1 (.t s006), none⟩,
 xm s004 s011,
 xm s005 s012])
 (.seq (.region [xm s013 s000,
 xm s014 s004,
 ⟨some s015, .call 65 [(.t s013), (.t s014)], none⟩,
 xm s016 s000,
 xm s017 s005,
 ⟨some s020, .call 65 [(.t s016), (.t s017)], none⟩,
 xm s002 s015,
 xm s003 s020])
 (.ret)))
def r_conf_words_bounds : List XR := [.tmp s002, .tmp s003]
theorem ok_conf_words_bounds : okC Tryz.prog Tryz.f47.ntmps (bodyOf Tryz.f47) x_conf_words_bounds = true := by kernel_rfl
theorem okr_conf_words_bounds : okRs Tryz.prog Tryz.f47.results.toList r_conf_words_bounds = true := by kernel_rfl

/-- slices.Index -/
def x_slices_Index_string : XC :=
 .seq (.region [⟨some s004, .move (.c (.int .i64 0)), none⟩])
 (.seq (.seq (.region [xm s006 s000,
 ⟨some s007, .len (.t s006), none⟩,
 ⟨some s010, .move (.c (.int .i64 0)), none⟩])
 (.block 0
 (.loop
 (.seq (.region [⟨some s011, .bin .lss (.t s010) (.t s007), none⟩])
 (.seq (.cond (.t s011)
 (.skip)
 (.exit 0))
 (.seq (.block 1
 (.seq (.region [xm s012 s010,
 xm s005 s012])
 (.seq (.region [xm s013 s001,
 xm s014 s000,
 xm s015 s005,
 ⟨some s016, .indexSl 1 (.t s014) (.t s015), none⟩,
 xl s017 s016,
 ⟨some s020, .sbin .eql (.t s013) (.t s017), none⟩])
 (.cond (.t s020)
 (.seq (.region [xm s021 s005,
 xm s004 s021])
 (.ret))
 (.skip)))))
 (.region [⟨some s022, .bin .add (.t s010) (.c (.int .i64 1)), none⟩,
 xm s010 s022])))))))
 (.seq (.region [⟨some s004, .move (.c (.int .i64 (-1))), none⟩])
 (.ret)))
def r_slices_Index_string : List XR := [.tmp s004]
theorem ok_slices_Index_string : okC Tryz.prog Tryz.f48.ntmps (bodyOf Tryz.f48) x_slices_Index_string = true := by kernel_rfl
theorem okr_slices_Index_string : okRs Tryz.prog Tryz.f48.results.toList r_slices_Index_string = true := by kernel_rfl

/-- stringslite.Cut -/
def x_stringslite_Cut : XC :=
 .seq (.region [⟨some s004, .move (.c (.string { data := #[] })), none⟩,
 ⟨some s005, .move (.c (.string { data := #[] })), none⟩,
 ⟨some s006, .move (.c (.bool false)), none⟩])
 (.seq (.seq (.region [xm s010 s000,
 xm s011 s001,
 ⟨some s012, .call 67 [(.t s010), (.t s011)], none⟩,
 xm s007 s012])
 (.seq (.region [xm s013 s007,
 ⟨some s014, .bin .geq (.t s013) (.c (.int .i64 0)), none⟩])
 (.cond (.t s014)
 (.seq (.regionD [0, 0, 3, 0, 0, 0, 32, 112, 248, 7, 1023, 2047] [xm s015 s000,
 xm s016 s007,
 ⟨some s017, .substr (.t s015) none (some (.t s016)), none⟩,
 xm s020 s000,
 xm s021 s007,
 xm s022 s001,
 ⟨some s023, .slen (.t s022), none⟩,
 ⟨some s024, .bin .add (.t s021) (.t s023), none⟩,
 ⟨some s025, .substr (.t s020) (some (.t s024)) none, none⟩,
 xm s004 s017,
 xm s005 s025,
 ⟨some s006, .move (.c (.bool true)), none⟩])
 (.ret))
 (.skip))))
 (.seq (.region [xm s026 s000,
 xm s004 s026,
 ⟨some s005, .move (.c (.string { data := #[] })), none⟩,
 ⟨some s006, .move (.c (.bool false)), none⟩])
 (.ret)))
def r_stringslite_Cut : List XR := [.tmp s004, .tmp s005, .tmp s006]
theorem ok_stringslite_Cut : okC Tryz.prog Tryz.f49.ntmps (bodyOf Tryz.f49) x_stringslite_Cut = true := by kernel_rfl
theorem okr_stringslite_Cut : okRs Tryz.prog Tryz.f49.results.toList r_stringslite_Cut = true := by kernel_rfl

/-- custref.lineShape -/
def x_custref_lineShape : XC :=
 .seq (.region [⟨some s002, .move (.c (.string { data := #[] })), none⟩,
 ⟨some s003, .move (.c (.bool false)), none⟩])
 (.seq (.seq (.region [xm s004 s000])
 (.block 0
 (.seq (.region [⟨some s006, .sbin .eql (.t s004) (.c (.string { data := #[111, 117, 116, 115, 105, 100, 101] })), none⟩,
 xm s005 s006])
 (.cond (.t s005)
 (.seq (.region [⟨some s002, .move (.c (.string { data := #[97] })), none⟩,
 ⟨some s003, .move (.c (.bool true)), none⟩])
 (.ret))
 (.seq (.seq (.region [⟨some s010, .sbin .eql (.t s004) (.c (.string { data := #[112, 111, 114, 116, 115] })), none⟩,
 xm s007 s010])
 (.cond (.t s007)
 (.skip)
 (.region [⟨some s011, .sbin .eql (.t s004) (.c (.string { data := #[114, 97, 116, 101] })), none⟩,
 xm s007 s011])))
 (.cond (.t s007)
 (.seq (.region [⟨some s002, .move (.c (.string { data := #[110, 110] })), none⟩,
 ⟨some s003, .move (.c (.bool true)), none⟩])
 (.ret))
 (.seq (.region [⟨some s013, .sbin .eql (.t s004) (.c (.string { data := #[108, 105, 102, 101] })), none⟩,
 xm s012 s013])
 (.cond (.t s012)
 (.seq (.region [⟨some s002, .move (.c (.string { data := #[110] })), none⟩,
 ⟨some s003, .move (.c (.bool true)), none⟩])
 (.ret))
 (.seq (.region [⟨some s015, .sbin .eql (.t s004) (.c (.string { data := #[101, 108, 115, 101] })), none⟩,
 xm s014 s015])
 (.cond (.t s014)
 (.seq (.region [⟨some s002, .move (.c (.string { data := #[118] })), none⟩,
 ⟨some s003, .move (.c (.bool true)), none⟩])
 (.ret))
 (.seq (.seq (.region [⟨some s017, .sbin .eql (.t s004) (.c (.string { data := #[112, 97, 115, 115] })), none⟩,
 xm s016 s017])
 (.cond (.t s016)
 (.skip)
 (.region [⟨some s020, .sbin .eql (.t s004) (.c (.string { data := #[100, 114, 111, 112] })), none⟩,
 xm s016 s020])))
 (.cond (.t s016)
 (.seq (.region [⟨some s002, .move (.c (.string { data := #[116, 116, 110, 98, 98] })), none⟩,
 ⟨some s003, .move (.c (.bool true)), none⟩])
 (.ret))
 (.skip)))))))))))))
 (.seq (.region [⟨some s002, .move (.c (.string { data := #[] })), none⟩,
 ⟨some s003, .move (.c (.bool false)), none⟩])
 (.ret)))
def r_custref_lineShape : List XR := [.tmp s002, .tmp s003]
theorem ok_custref_lineShape : okC Tryz.prog Tryz.f50.ntmps (bodyOf Tryz.f50) x_custref_lineShape = true := by kernel_rfl
theorem okr_custref_lineShape : okRs Tryz.prog Tryz.f50.results.toList r_custref_lineShape = true := by kernel_rfl

/-- custref.lineNumbers-1 -/
def x_custref_lineNumbers_1 : XC :=
 .seq (.region [xm s007 s000,
 ⟨some s010, .call 52 [(.t s007)], none⟩,
 xm s006 s010,
 ⟨some s011, .extract 0 (.t s006), none⟩,
 ⟨some s012, .extract 1 (.t s006), none⟩,
 xm s004 s011,
 xm s005 s012])
 (.regionD [0, 0, 2, 7, 0, 31, 63, 127, 63, 511] [xl s013 s001,
 xm s014 s004,
 ⟨some s015, .buildSlice 3 1 [.int .i64 0] [(0, (.t s014))], none⟩,
 ⟨some s016, .append 4 1 8 (.t s013) (.t s015), none⟩,
 xl s017 s002,
 xm s020 s017,
 ⟨some s021, .move (.t s005), some (s020, true)⟩,
 ⟨some s022, .pick (.t s020) (.t s021) (.c (.bool false)), none⟩,
 ⟨none, .store 1 (.t s001) (.t s016), none⟩,
 ⟨none, .store 1 (.t s002) (.t s022), none⟩])
def r_custref_lineNumbers_1 : List XR := []
theorem ok_custref_lineNumbers_1 : okC Tryz.prog Tryz.f51.ntmps (bodyOf Tryz.f51) x_custref_lineNumbers_1 = true := by kernel_rfl
theorem okr_custref_lineNumbers_1 : okRs Tryz.prog Tryz.f51.results.toList r_custref_lineNumbers_1 = true := by kernel_rfl

/-- custref.ReadLong -/
def x_custref_ReadLong : XC :=
 .seq (.region [⟨some s002, .move (.c (.int .i64 0)), none⟩,
 ⟨some s003, .move (.c (.bool false)), none⟩])
 (.seq (.seq (.region [xm s010 s000,
 ⟨some s011, .slen (.t s010), none⟩,
 ⟨some s012, .bin .lss (.t s011) (.c (.int .i64 10)), none⟩])
 (.cond (.t s012)
 (.seq (.region [xm s013 s000,
 ⟨some s014, .call 68 [(.t s013)], none⟩,
 ⟨some s015, .extract 0 (.t s014), none⟩,
 ⟨some s016, .extract 1 (.t s014), none⟩,
 xm s002 s015,
 xm s003 s016])
 (.ret))
 (.skip)))
 (.seq (.region [xm s020 s000,
 ⟨some s021, .substr (.t s020) none (some (.c (.int .i64 9))), none⟩,
 ⟨some s022, .call 68 [(.t s021)], none⟩,
 xm s017 s022,
 ⟨some s023, .extract 0 (.t s017), none⟩,
 ⟨some s024, .extract 1 (.t s017), none⟩,
 xm s004 s023,
 xm s005 s024])
 (.seq (.region [xm s026 s000,
 ⟨some s027, .substr (.t s026) (some (.c (.int .i64 9))) none, none⟩,
 ⟨some s030, .call 68 [(.t s027)], none⟩,
 xm s025 s030,
 ⟨some s031, .extract 0 (.t s025), none⟩,
 ⟨some s032, .extract 1 (.t s025), none⟩,
 xm s006 s031,
 xm s007 s032])
 (.seq (.region [xm s033 s004,
 ⟨some s034, .bin .mul (.c (.int .i64 10)) (.t s033), none⟩,
 xm s035 s006,
 ⟨some s036, .bin .add (.t s034) (.t s035), none⟩,
 xm s037 s005,
 xm s040 s037,
 ⟨some s041, .move (.t s007), some (s040, true)⟩,
 ⟨some s042, .pick (.t s040) (.t s041) (.c (.bool false)), none⟩,
 xm s043 s042,
 ⟨some s044, .move (.t s004), some (s043, true)⟩,
 ⟨some s045, .bin .gtr (.t s044) (.c (.int .i64 0)), some (s043, true)⟩,
 ⟨some s046, .pick (.t s043) (.t s045) (.c (.bool false)), none⟩,
 xm s047 s046,
 ⟨some s050, .move (.t s000), some (s047, true)⟩,
 ⟨some s051, .slen (.t s050), some (s047, true)⟩,
 ⟨some s052, .bin .eql (.t s051) (.c (.int .i64 10)), some (s047, true)⟩,
 ⟨some s053, .pick (.t s047) (.t s052) (.c (.bool false)), none⟩,
 xm s002 s036,
 xm s003 s053])
 (.ret)))))
def r_custref_ReadLong : List XR := [.tmp s002, .tmp s003]
theorem ok_custref_ReadLong : okC Tryz.prog Tryz.f52.ntmps (bodyOf Tryz.f52) x_custref_ReadLong = true := by kernel_rfl
theorem okr_custref_ReadLong : okRs Tryz.prog Tryz.f52.results.toList r_custref_ReadLong = true := by kernel_rfl

/-- custref.lineNumbers-2 -/
def x_custref_lineNumbers_2 : XC :=
 .seq (.region [xm s007 s000,
 ⟨some s010, .call 54 [(.t s007)], none⟩,
 xm s006 s010,
 ⟨some s011, .extract 0 (.t s006), none⟩,
 ⟨some s012, .extract 1 (.t s006), none⟩,
 xm s004 s011,
 xm s005 s012])
 (.regionD [0, 0, 2, 6, 15, 0, 63, 127, 255, 511, 127, 2047] [xl s013 s001,
 xm s014 s004,
 ⟨some s015, .convInt .i64 (.t s014), none⟩,
 ⟨some s016, .buildSlice 3 1 [.int .i64 0] [(0, (.t s015))], none⟩,
 ⟨some s017, .append 4 1 8 (.t s013) (.t s016), none⟩,
 xl s020 s002,
 xm s021 s020,
 ⟨some s022, .move (.t s005), some (s021, true)⟩,
 ⟨some s023, .bin .eql (.t s022) (.c (.int .i64 0)), some (s021, true)⟩,
 ⟨some s024, .pick (.t s021) (.t s023) (.c (.bool false)), none⟩,
 ⟨none, .store 1 (.t s001) (.t s017), none⟩,
 ⟨none, .store 1 (.t s002) (.t s024), none⟩])
def r_custref_lineNumbers_2 : List XR := []
theorem ok_custref_lineNumbers_2 : okC Tryz.prog Tryz.f53.ntmps (bodyOf Tryz.f53) x_custref_lineNumbers_2 = true := by kernel_rfl
theorem okr_custref_lineNumbers_2 : okRs Tryz.prog Tryz.f53.results.toList r_custref_lineNumbers_2 = true := by kernel_rfl

/-- custref.TextAddr -/
def x_custref_TextAddr : XC :=
 .seq (.region [⟨some s002, .move (.c (.int .u32 0)), none⟩,
 ⟨some s003, .move (.c (.int .i64 0)), none⟩])
 (.seq (.region [xm s012 s000,
 ⟨some s013, .call 24 [(.t s012), (.c (.string { data := #[46] }))], none⟩,
 xm s004 s013])
 (.seq (.seq (.region [xm s014 s004,
 ⟨some s015, .len (.t s014), none⟩,
 ⟨some s016, .bin .neq (.t s015) (.c (.int .i64 4)), none⟩])
 (.cond (.t s016)
 (.seq (.region [⟨some s002, .move (.c (.int .u32 0)), none⟩,
 ⟨some s003, .move (.c (.int .i64 10)), none⟩])
 (.ret))
 (.skip)))
 (.seq (.region [⟨some s005, .move (.c (.int .i64 0)), none⟩])
 (.seq (.seq (.region [xm s017 s004,
 ⟨some s020, .len (.t s017), none⟩,
 ⟨some s021, .move (.c (.int .i64 0)), none⟩])
 (.block 0
 (.loop
 (.seq (.region [⟨some s022, .bin .lss (.t s021) (.t s020), none⟩])
 (.seq (.cond (.t s022)
 (.skip)
 (.exit 0))
 (.seq (.block 1
 (.seq (.region [⟨some s023, .indexSl 1 (.t s017) (.t s021), none⟩,
 xl s024 s023,
 xm s007 s024])
 (.seq (.region [xm s026 s007,
 ⟨some s027, .call 68 [(.t s026)], none⟩,
 xm s025 s027,
 ⟨some s030, .extract 0 (.t s025), none⟩,
 ⟨some s031, .extract 1 (.t s025), none⟩,
 xm s010 s030,
 xm s011 s031])
 (.seq (.seq (.region [xm s032 s011,
 ⟨some s033, .un .not (.t s032), none⟩,
 xm s034 s033,
 ⟨some s035, .move (.t s010), some (s034, false)⟩,
 ⟨some s036, .bin .gtr (.t s035) (.c (.int .i64 255)), some (s034, false)⟩,
 ⟨some s037, .pick (.t s034) (.c (.bool true)) (.t s036), none⟩])
 (.cond (.t s037)
 (.seq (.region [⟨some s002, .move (.c (.int .u32 0)), none⟩,
 ⟨some s003, .move (.c (.int .i64 10)), none⟩])
 (.ret))
 (.skip)))
 (.region [xm s040 s005,
 ⟨some s041, .bin .mul (.c (.int .i64 256)) (.t s040), none⟩,
 xm s042 s010,
 ⟨some s043, .bin .add (.t s041) (.t s042), none⟩,
 xm s005 s043])))))
 (.region [⟨some s044, .bin .add (.t s021) (.c (.int .i64 1)), none⟩,
 xm s021 s044])))))))
 (.seq (.region [xm s045 s005,
 ⟨some s046, .convInt .u32 (.t s045), none⟩,
 xm s002 s046,
 ⟨some s003, .move (.c (.int .i64 0)), none⟩])
 (.ret))))))
def r_custref_TextAddr : List XR := [.tmp s002, .tmp s003]
theorem ok_custref_TextAddr : okC Tryz.prog Tryz.f54.ntmps (bodyOf Tryz.f54) x_custref_TextAddr = true := by kernel_rfl
theorem okr_custref_TextAddr : okRs Tryz.prog Tryz.f54.results.toList r_custref_TextAddr = true := by kernel_rfl

/-- strings.Index -/
def x_strings_Index : XC :=
 .seq (.region [⟨some s004, .move (.c (.int .i64 0)), none⟩])
 (.seq (.region [xm s005 s000,
 xm s006 s001,
 ⟨some s007, .call 67 [(.t s005), (.t s006)], none⟩,
 xm s004 s007])
 (.ret))
def r_strings_Index : List XR := [.tmp s004]
theorem ok_strings_Index : okC Tryz.prog Tryz.f55.ntmps (bodyOf Tryz.f55) x_strings_Index = true := by kernel_rfl
theorem okr_strings_Index : okRs Tryz.prog Tryz.f55.results.toList r_strings_Index = true := by kernel_rfl

/-- rules.right -/
def x_rules_right : XC :=
 .seq (.region [⟨some s001, .box 0 10 (.t s000), none⟩,
 ⟨some s002, .move (.c (.bool false)), none⟩])
 (.seq (.region [xf 0 s003 s001,
 ⟨some s004, .load true 2 (.t s003), none⟩,
 ⟨some s005, .call 69 [(.t s004)], none⟩,
 xm s006 s005,
 ⟨some s007, .fieldAddr 2 (.t s001), some (s006, true)⟩,
 ⟨some s010, .load true 2 (.t s007), some (s006, true)⟩,
 ⟨some s011, .call 69 [(.t s010)], some (s006, true)⟩,
 ⟨some s012, .pick (.t s006) (.t s011) (.c (.bool false)), none⟩,
 xm s013 s012,
 ⟨some s014, .fieldAddr 4 (.t s001), some (s013, true)⟩,
 ⟨some s015, .load false 1 (.t s014), some (s013, true)⟩,
 ⟨some s016, .bin .geq (.t s015) (.c (.int .i64 0)), some (s013, true)⟩,
 ⟨some s017, .pick (.t s013) (.t s016) (.c (.bool false)), none⟩,
 xm s020 s017,
 ⟨some s021, .fieldAddr 4 (.t s001), some (s020, true)⟩,
 ⟨some s022, .load false 1 (.t s021), some (s020, true)⟩,
 ⟨some s023, .bin .leq (.t s022) (.c (.int .i64 255)), some (s020, true)⟩,
 ⟨some s024, .pick (.t s020) (.t s023) (.c (.bool false)), none⟩,
 xm s025 s024,
 ⟨some s026, .fieldAddr 5 (.t s001), some (s025, true)⟩,
 ⟨some s027, .load false 1 (.t s026), some (s025, true)⟩,
 ⟨some s030, .fieldAddr 6 (.t s001), some (s025, true)⟩,
 ⟨some s031, .load false 1 (.t s030), some (s025, true)⟩,
 ⟨some s032, .call 70 [(.t s027), (.t s031)], some (s025, true)⟩,
 ⟨some s033, .pick (.t s025) (.t s032) (.c (.bool false)), none⟩,
 xm s034 s033,
 ⟨some s035, .fieldAddr 7 (.t s001), some (s034, true)⟩,
 ⟨some s036, .load false 1 (.t s035), some (s034, true)⟩,
 ⟨some s037, .fieldAddr 8 (.t s001), some (s034, true)⟩,
 ⟨some s040, .load false 1 (.t s037), some (s034, true)⟩,
 ⟨some s041, .call 70 [(.t s036), (.t s040)], some (s034, true)⟩,
 ⟨some s042, .pick (.t s034) (.t s041) (.c (.bool false)), none⟩,
 xm s002 s042])
 (.ret))
def r_rules_right : List XR := [.tmp s002]
theorem ok_rules_right : okC Tryz.prog Tryz.f56.ntmps (bodyOf Tryz.f56) x_rules_right = true := by kernel_rfl
theorem okr_rules_right : okRs Tryz.prog Tryz.f56.results.toList r_rules_right = true := by kernel_rfl

/-- custref.RuleRight -/
def x_custref_RuleRight : XC :=
 .seq (.region [⟨some s001, .box 0 10 (.t s000), none⟩,
 ⟨some s002, .move (.c (.bool false)), none⟩])
 (.seq (.region [xf 0 s003 s001,
 ⟨some s004, .load true 2 (.t s003), none⟩,
 ⟨some s005, .call 71 [(.t s004)], none⟩,
 xm s006 s005,
 ⟨some s007, .fieldAddr 2 (.t s001), some (s006, true)⟩,
 ⟨some s010, .load true 2 (.t s007), some (s006, true)⟩,
 ⟨some s011, .call 71 [(.t s010)], some (s006, true)⟩,
 ⟨some s012, .pick (.t s006) (.t s011) (.c (.bool false)), none⟩,
 xm s013 s012,
 ⟨some s014, .fieldAddr 4 (.t s001), some (s013, true)⟩,
 ⟨some s015, .load false 1 (.t s014), some (s013, true)⟩,
 ⟨some s016, .call 34 [(.t s015), (.c (.int .i64 0)), (.c (.int .i64 255))], some (s013, true)⟩,
 ⟨some s017, .pick (.t s013) (.t s016) (.c (.bool false)), none⟩,
 xm s020 s017,
 ⟨some s021, .fieldAddr 5 (.t s001), some (s020, true)⟩,
 ⟨some s022, .load false 1 (.t s021), some (s020, true)⟩,
 ⟨some s023, .fieldAddr 6 (.t s001), some (s020, true)⟩,
 ⟨some s024, .load false 1 (.t s023), some (s020, true)⟩,
 ⟨some s025, .call 34 [(.t s022), (.c (.int .i64 0)), (.t s024)], some (s020, true)⟩,
 ⟨some s026, .pick (.t s020) (.t s025) (.c (.bool false)), none⟩,
 xm s027 s026,
 ⟨some s030, .fieldAddr 6 (.t s001), some (s027, true)⟩,
 ⟨some s031, .load false 1 (.t s030), some (s027, true)⟩,
 ⟨some s032, .bin .lss (.t s031) (.c (.int .i64 65536)), some (s027, true)⟩,
 ⟨some s033, .pick (.t s027) (.t s032) (.c (.bool false)), none⟩,
 xm s034 s033,
 ⟨some s035, .fieldAddr 7 (.t s001), some (s034, true)⟩,
 ⟨some s036, .load false 1 (.t s035), some (s034, true)⟩,
 ⟨some s037, .fieldAddr 8 (.t s001), some (s034, true)⟩,
 ⟨some s040, .load false 1 (.t s037), some (s034, true)⟩,
 ⟨some s041, .call 34 [(.t s036), (.c (.int .i64 0)), (.t s040)], some (s034, true)⟩,
 ⟨some s042, .pick (.t s034) (.t s041) (.c (.bool false)), none⟩,
 xm s043 s042,
 ⟨some s044, .fieldAddr 8 (.t s001), some (s043, true)⟩,
 ⟨some s045, .load false 1 (.t s044), some (s043, true)⟩,
 ⟨some s046, .bin .lss (.t s045) (.c (.int .i64 65536)), some (s043, true)⟩,
 ⟨some s047, .pick (.t s043) (.t s046) (.c (.bool false)), none⟩,
 xm s002 s047])
 (.ret))
def r_custref_RuleRight : List XR := [.tmp s002]
theorem ok_custref_RuleRight : okC Tryz.prog Tryz.f57.ntmps (bodyOf Tryz.f57) x_custref_RuleRight = true := by kernel_rfl
theorem okr_custref_RuleRight : okRs Tryz.prog Tryz.f57.results.toList r_custref_RuleRight = true := by kernel_rfl

/-- (*strings.Builder).grow -/
def x_strings_Builder_grow : XC :=
 .seq (.regionD [0, 1, 3, 7, 15, 31, 0, 127, 255, 0, 512, 1536, 3584, 7680, 16383, 32767] [xm s005 s000,
 ⟨some s006, .nilCheck (.t s005), none⟩,
 xf 1 s007 s006,
 xl s010 s007,
 ⟨some s011, .dead, none⟩,
 ⟨some s012, .bin .mul (.c (.int .i64 2)) (.t s011), none⟩,
 xm s013 s001,
 ⟨some s014, .bin .add (.t s012) (.t s013), none⟩,
 ⟨some s015, .dead, none⟩,
 xm s016 s000,
 ⟨some s017, .nilCheck (.t s016), none⟩,
 xf 1 s020 s017,
 xl s021 s020,
 ⟨some s022, .len (.t s021), none⟩,
 ⟨some s023, .slice 1 (.t s015) none (some (.t s022)) none, none⟩,
 xm s004 s023])
 (.seq (.region [xm s024 s004,
 xm s025 s000,
 ⟨some s026, .nilCheck (.t s025), none⟩,
 xf 1 s027 s026,
 xl s030 s027,
 ⟨some s031, .dead, none⟩])
 (.region [xm s032 s000,
 xm s033 s004,
 ⟨some s034, .nilCheck (.t s032), none⟩,
 xf 1 s035 s034,
 ⟨none, .store 1 (.t s035) (.t s033), none⟩]))
def r_strings_Builder_grow : List XR := []
theorem ok_strings_Builder_grow : okC Tryz.prog Tryz.f59.ntmps (bodyOf Tryz.f59) x_strings_Builder_grow = true := by kernel_rfl
theorem okr_strings_Builder_grow : okRs Tryz.prog Tryz.f59.results.toList r_strings_Builder_grow = true := by kernel_rfl

/-- strconv.FormatInt -/
def x_strconv_FormatInt : XC :=
 .seq (.region [⟨some s004, .move (.c (.string { data := #[] })), none⟩])
 (.seq (.seq (.region [xm s012 s001,
 ⟨some s013, .bin .eql (.t s012) (.c (.int .i64 10)), none⟩])
 (.cond (.t s013)
 (.seq (.seq (.region [xm s014 s000,
 ⟨some s015, .bin .leq (.c (.int .i64 0)) (.t s014), none⟩,
 xm s016 s015,
 ⟨some s017, .move (.t s000), some (s016, true)⟩,
 ⟨some s020, .bin .lss (.t s017) (.c (.int .i64 100)), some (s016, true)⟩,
 ⟨some s021, .pick (.t s016) (.t s020) (.c (.bool false)), none⟩])
 (.cond (.t s021)
 (.seq (.region [xm s022 s000,
 ⟨some s023, .call 73 [(.t s022)], none⟩,
 xm s004 s023])
 (.ret))
 (.skip)))
 (.seq (.region [⟨some s005, .alloc 0 zv107, none⟩])
 (.seq (.region [xm s024 s000,
 ⟨some s025, .convInt .u64 (.t s024), none⟩,
 xm s006 s025])
 (.seq (.seq (.region [xm s026 s000,
 ⟨some s027, .bin .lss (.t s026) (.c (.int .i64 0)), none⟩])
 (.cond (.t s027)
 (.region [xm s030 s006,
 ⟨some s031, .un .neg (.t s030), none⟩,
 xm s006 s031])
 (.skip)))
 (.seq (.region [xm s032 s006,
 ⟨some s033, .call 74 [(.t s032)], none⟩,
 xm s007 s033])
 (.seq (.region [xm s034 s007,
 ⟨some s035, .bin .add (.c (.int .i64 1)) (.t s034), none⟩,
 ⟨some s036, .dead, none⟩,
 xm s037 s006,
 ⟨some s040, .call 75 [(.t s036), (.t s037)], none⟩])
 (.seq (.seq (.region [xm s041 s000,
 ⟨some s042, .bin .lss (.t s041) (.c (.int .i64 0)), none⟩])
 (.cond (.t s042)
 (.seq (.region [⟨some s043, .indexArr 1 24 (.t s005) (.c (.int .i64 0)), none⟩,
 ⟨none, .store 1 (.t s043) (.c (.int .u8 45)), none⟩])
 (.seq (.region [xm s044 s007,
 ⟨some s045, .bin .add (.c (.int .i64 1)) (.t s044), none⟩,
 ⟨some s046, .dead, none⟩,
 ⟨some s047, .b2s (.t s046), none⟩,
 xm s004 s047])
 (.ret)))
 (.skip)))
 (.seq (.region [xm s050 s007,
 ⟨some s051, .bin .add (.c (.int .i64 1)) (.t s050), none⟩,
 ⟨some s052, .dead, none⟩,
 ⟨some s053, .b2s (.t s052), none⟩,
 xm s004 s053])
 (.ret)))))))))
 (.skip)))
 (.seq (.region [xm s055 s000,
 ⟨some s056, .convInt .u64 (.t s055), none⟩,
 xm s057 s001,
 xm s060 s000,
 ⟨some s061, .bin .lss (.t s060) (.c (.int .i64 0)), none⟩,
 ⟨some s062, .call 76 [(.c (.slice none 0 0)), (.t s056), (.t s057), (.t s061), (.c (.bool false))], none⟩,
 xm s054 s062,
 ⟨some s063, .extract 0 (.t s054), none⟩,
 ⟨some s064, .extract 1 (.t s054), none⟩,
 xm s010 s063,
 xm s011 s064])
 (.seq (.region [xm s065 s011,
 xm s004 s065])
 (.ret))))
def r_strconv_FormatInt : List XR := [.tmp s004]
theorem ok_strconv_FormatInt : okC Tryz.prog Tryz.f60.ntmps (bodyOf Tryz.f60) x_strconv_FormatInt = true := by kernel_rfl
theorem okr_strconv_FormatInt : okRs Tryz.prog Tryz.f60.results.toList r_strconv_FormatInt = true := by kernel_rfl

/-- custref.Word -/
def x_custref_Word : XC :=
 .seq (.region [⟨some s002, .move (.c (.string { data := #[] })), none⟩])
 (.seq (.region [xm s003 s000,
 ⟨some s004, .bin .quo (.t s003) (.c (.int .i64 256)), none⟩,
 xm s005 s000,
 ⟨some s006, .bin .rem (.t s005) (.c (.int .i64 256)), none⟩,
 ⟨some s007, .buildSlice 0 2 [.int .i64 0] [(0, (.t s004)), (1, (.t s006))], none⟩,
 ⟨some s010, .call 77 [(.t s007)], none⟩,
 xm s002 s010])
 (.ret))
def r_custref_Word : List XR := [.tmp s002]
theorem ok_custref_Word : okC Tryz.prog Tryz.f61.ntmps (bodyOf Tryz.f61) x_custref_Word = true := by kernel_rfl
theorem okr_custref_Word : okRs Tryz.prog Tryz.f61.results.toList r_custref_Word = true := by kernel_rfl

/-- strings.explode -/
def x_strings_explode : XC :=
 .seq (.region [⟨some s004, .move (.c (.slice none 0 0)), none⟩])
 (.seq (.region [xm s012 s000,
 ⟨some s013, .call 78 [(.t s012)], none⟩,
 xm s005 s013])
 (.seq (.seq (.region [xm s014 s001,
 ⟨some s015, .bin .lss (.t s014) (.c (.int .i64 0)), none⟩,
 xm s016 s015,
 ⟨some s017, .move (.t s001), some (s016, false)⟩,
 ⟨some s020, .move (.t s005), some (s016, false)⟩,
 ⟨some s021, .bin .gtr (.t s017) (.t s020), some (s016, false)⟩,
 ⟨some s022, .pick (.t s016) (.c (.bool true)) (.t s021), none⟩])
 (.cond (.t s022)
 (.region [xm s023 s005,
 xm s001 s023])
 (.skip)))
 (.seq (.region [xm s024 s001,
 ⟨some s025, .makeSlice 0 16 [.string { data := #[] }] (.t s024) (.t s024), none⟩,
 xm s006 s025])
 (.seq (.seq (.region [⟨some s007, .move (.c (.int .i64 0)), none⟩])
 (.block 0
 (.loop
 (.seq (.seq (.region [xm s026 s007,
 xm s027 s001,
 ⟨some s030, .bin .sub (.t s027) (.c (.int .i64 1)), none⟩,
 ⟨some s031, .bin .lss (.t s026) (.t s030), none⟩])
 (.cond (.t s031)
 (.skip)
 (.exit 0)))
 (.seq (.block 1
 (.seq (.region [xm s035 s000,
 ⟨some s036, .call 79 [(.t s035)], none⟩,
 xm s034 s036,
 ⟨some s037, .extract 0 (.t s034), none⟩,
 ⟨some s040, .extract 1 (.t s034), none⟩,
 xm s010 s037,
 xm s011 s040])
 (.seq (.region [xm s041 s006,
 xm s042 s007,
 xm s043 s000,
 xm s044 s011,
 ⟨some s045, .substr (.t s043) none (some (.t s044)), none⟩,
 ⟨some s046, .indexSl 1 (.t s041) (.t s042), none⟩,
 ⟨none, .store 1 (.t s046) (.t s045), none⟩])
 (.region [xm s047 s000,
 xm s050 s011,
 ⟨some s051, .substr (.t s047) (some (.t s050)) none, none⟩,
 xm s000 s051]))))
 (.region [xm s032 s007,
 ⟨some s033, .bin .add (.t s032) (.c (.int .i64 1)), none⟩,
 xm s007 s033]))))))
 (.seq (.seq (.region [xm s052 s001,
 ⟨some s053, .bin .gtr (.t s052) (.c (.int .i64 0)), none⟩])
 (.cond (.t s053)
 (.region [xm s054 s006,
 xm s055 s001,
 ⟨some s056, .bin .sub (.t s055) (.c (.int .i64 1)), none⟩,
 xm s057 s000,
 ⟨some s060, .indexSl 1 (.t s054) (.t s056), none⟩,
 ⟨none, .store 1 (.t s060) (.t s057), none⟩])
 (.skip)))
 (.seq (.region [xm s061 s006,
 xm s004 s061])
 (.ret)))))))
def r_strings_explode : List XR := [.tmp s004]
theorem ok_strings_explode : okC Tryz.prog Tryz.f62.ntmps (bodyOf Tryz.f62) x_strings_explode = true := by kernel_rfl
theorem okr_strings_explode : okRs Tryz.prog Tryz.f62.results.toList r_strings_explode = true := by kernel_rfl

/-- strings.Count -/
def x_strings_Count : XC :=
 .seq (.region [⟨some s004, .move (.c (.int .i64 0)), none⟩])
 (.seq (.seq (.region [xm s007 s001,
 ⟨some s010, .slen (.t s007), none⟩,
 ⟨some s011, .bin .eql (.t s010) (.c (.int .i64 0)), none⟩])
 (.cond (.t s011)
 (.seq (.region [xm s012 s000,
 ⟨some s013, .call 78 [(.t s012)], none⟩,
 ⟨some s014, .bin .add (.t s013) (.c (.int .i64 1)), none⟩,
 xm s004 s014])
 (.ret))
 (.skip)))
 (.seq (.seq (.region [xm s015 s001,
 ⟨some s016, .slen (.t s015), none⟩,
 ⟨some s017, .bin .eql (.t s016) (.c (.int .i64 1)), none⟩])
 (.cond (.t s017)
 (.seq (.region [xm s020 s000,
 xm s021 s001,
 ⟨some s022, .strAt (.t s021) (.c (.int .i64 0)), none⟩,
 ⟨some s023, .ext 1 [(.t s020), (.t s022)], none⟩,
 xm s004 s023])
 (.ret))
 (.skip)))
 (.seq (.region [⟨some s005, .move (.c (.int .i64 0)), none⟩])
 (.block 0
 (.loop
 (.block 1
 (.seq (.region [xm s024 s000,
 xm s025 s001,
 ⟨some s026, .call 55 [(.t s024), (.t s025)], none⟩,
 xm s006 s026])
 (.seq (.seq (.region [xm s027 s006,
 ⟨some s030, .bin .eql (.t s027) (.c (.int .i64 (-1))), none⟩])
 (.cond (.t s030)
 (.seq (.region [xm s031 s005,
 xm s004 s031])
 (.ret))
 (.skip)))
 (.seq (.region [xm s032 s005,
 ⟨some s033, .bin .add (.t s032) (.c (.int .i64 1)), none⟩,
 xm s005 s033])
 (.region [xm s034 s000,
 xm s035 s006,
 xm s036 s001,
 ⟨some s037, .slen (.t s036), none⟩,
 ⟨some s040, .bin .add (.t s035) (.t s037), none⟩,
 ⟨some s041, .substr (.t s034) (some (.t s040)) none, none⟩,
 xm s000 s041]))))))))))
def r_strings_Count : List XR := [.tmp s004]
theorem ok_strings_Count : okC Tryz.prog Tryz.f63.ntmps (bodyOf Tryz.f63) x_strings_Count = true := by kernel_rfl
theorem okr_strings_Count : okRs Tryz.prog Tryz.f63.results.toList r_strings_Count = true := by kernel_rfl

/-- ip.Parse -/
def x_ip_Parse : XC :=
 .seq (.region [⟨some s002, .move (.c (.int .u32 0)), none⟩,
 ⟨some s003, .move (.c (.int .i64 0)), none⟩])
 (.seq (.region [⟨some s004, .move (.c (.int .u32 0)), none⟩])
 (.seq (.region [xm s012 s000,
 ⟨some s013, .call 24 [(.t s012), (.c (.string { data := #[46] }))], none⟩,
 xm s005 s013])
 (.seq (.seq (.region [xm s014 s005,
 ⟨some s015, .len (.t s014), none⟩,
 ⟨some s016, .move (.c (.int .i64 0)), none⟩])
 (.block 0
 (.loop
 (.seq (.region [⟨some s017, .bin .lss (.t s016) (.t s015), none⟩])
 (.seq (.cond (.t s017)
 (.skip)
 (.exit 0))
 (.seq (.block 1
 (.seq (.region [⟨some s020, .indexSl 1 (.t s014) (.t s016), none⟩,
 xl s021 s020,
 xm s007 s021])
 (.seq (.region [xm s023 s007,
 ⟨some s024, .call 81 [(.t s023), (.c (.int .i64 10)), (.c (.int .i64 8))], none⟩,
 xm s022 s024,
 ⟨some s025, .extract 0 (.t s022), none⟩,
 ⟨some s026, .extract 1 (.t s022), none⟩,
 xm s010 s025,
 xm s011 s026])
 (.seq (.seq (.region [xm s027 s011,
 ⟨some s030, .isnilI true (.t s027), none⟩])
 (.cond (.t s030)
 (.seq (.region [⟨some s002, .move (.c (.int .u32 0)), none⟩,
 ⟨some s003, .move (.c (.int .i64 10)), none⟩])
 (.ret))
 (.skip)))
 (.region [xm s031 s004,
 ⟨some s032, .bin .shl (.t s031) (.c (.int .u64 8)), none⟩,
 xm s033 s010,
 ⟨some s034, .convInt .u32 (.t s033), none⟩,
 ⟨some s035, .bin .or (.t s032) (.t s034), none⟩,
 xm s004 s035])))))
 (.region [⟨some s036, .bin .add (.t s016) (.c (.int .i64 1)), none⟩,
 xm s016 s036])))))))
 (.seq (.seq (.region [xm s037 s004,
 ⟨some s040, .call 14 [(.t s037)], none⟩,
 xm s041 s000,
 ⟨some s042, .sbin .neq (.t s040) (.t s041), none⟩])
 (.cond (.t s042)
 (.seq (.region [⟨some s002, .move (.c (.int .u32 0)), none⟩,
 ⟨some s003, .move (.c (.int .i64 10)), none⟩])
 (.ret))
 (.skip)))
 (.seq (.region [xm s043 s004,
 xm s002 s043,
 ⟨some s003, .move (.c (.int .i64 0)), none⟩])
 (.ret))))))
def r_ip_Parse : List XR := [.tmp s002, .tmp s003]
theorem ok_ip_Parse : okC Tryz.prog Tryz.f64.ntmps (bodyOf Tryz.f64) x_ip_Parse = true := by kernel_rfl
theorem okr_ip_Parse : okRs Tryz.prog Tryz.f64.results.toList r_ip_Parse = true := by kernel_rfl

/-- conf.words).value -/
def x_conf_words_value : XC :=
 .seq (.region [⟨some s004, .move (.c (.int .i64 0)), none⟩])
 (.seq (.region [xm s010 s001,
 ⟨some s011, .call 81 [(.t s010), (.c (.int .i64 10)), (.c (.int .i64 64))], none⟩,
 xm s007 s011,
 ⟨some s012, .extract 0 (.t s007), none⟩,
 ⟨some s013, .extract 1 (.t s007), none⟩,
 xm s005 s012,
 xm s006 s013])
 (.seq (.region [xm s014 s000,
 xm s015 s000,
 ⟨some s016, .nilCheck (.t s015), none⟩,
 xf 1 s017 s016,
 xl s020 s017,
 xm s021 s020,
 ⟨some s022, .move (.t s006), some (s021, false)⟩,
 ⟨some s023, .isnilI true (.t s022), some (s021, false)⟩,
 ⟨some s024, .pick (.t s021) (.c (.bool true)) (.t s023), none⟩,
 xm s025 s024,
 ⟨some s026, .move (.t s001), some (s025, false)⟩,
 ⟨some s027, .slen (.t s026), some (s025, false)⟩,
 ⟨some s030, .bin .gtr (.t s027) (.c (.int .i64 10)), some (s025, false)⟩,
 ⟨some s031, .pick (.t s025) (.c (.bool true)) (.t s030), none⟩,
 xm s032 s031,
 ⟨some s033, .move (.t s005), some (s032, false)⟩,
 ⟨some s034, .call 82 [(.t s033), (.c (.int .i64 10))], some (s032, false)⟩,
 ⟨some s035, .move (.t s001), some (s032, false)⟩,
 ⟨some s036, .sbin .neq (.t s034) (.t s035), some (s032, false)⟩,
 ⟨some s037, .pick (.t s032) (.c (.bool true)) (.t s036), none⟩,
 ⟨some s040, .nilCheck (.t s014), none⟩,
 xf 1 s041 s040,
 ⟨none, .store 1 (.t s041) (.t s037), none⟩])
 (.seq (.region [xm s042 s005,
 ⟨some s043, .convInt .i64 (.t s042), none⟩,
 xm s004 s043])
 (.ret))))
def r_conf_words_value : List XR := [.tmp s004]
theorem ok_conf_words_value : okC Tryz.prog Tryz.f65.ntmps (bodyOf Tryz.f65) x_conf_words_value = true := by kernel_rfl
theorem okr_conf_words_value : okRs Tryz.prog Tryz.f65.results.toList r_conf_words_value = true := by kernel_rfl

/-- conf.words).pair -/
def x_conf_words_pair : XC :=
 .seq (.region [⟨some s004, .move (.c (.string { data := #[] })), none⟩,
 ⟨some s005, .move (.c (.string { data := #[] })), none⟩])
 (.seq (.region [xm s012 s000,
 ⟨some s013, .call 42 [(.t s012)], none⟩,
 xm s014 s001,
 ⟨some s015, .call 27 [(.t s013), (.t s014)], none⟩,
 xm s011 s015,
 ⟨some s016, .extract 0 (.t s011), none⟩,
 ⟨some s017, .extract 1 (.t s011), none⟩,
 ⟨some s020, .extract 2 (.t s011), none⟩,
 xm s006 s016,
 xm s007 s017,
 xm s010 s020])
 (.seq (.region [xm s021 s000,
 xm s022 s000,
 ⟨some s023, .nilCheck (.t s022), none⟩,
 xf 1 s024 s023,
 xl s025 s024,
 xm s026 s025,
 ⟨some s027, .move (.t s010), some (s026, false)⟩,
 ⟨some s030, .un .not (.t s027), some (s026, false)⟩,
 ⟨some s031, .pick (.t s026) (.c (.bool true)) (.t s030), none⟩,
 ⟨some s032, .nilCheck (.t s021), none⟩,
 xf 1 s033 s032,
 ⟨none, .store 1 (.t s033) (.t s031), none⟩])
 (.seq (.region [xm s034 s006,
 xm s035 s007,
 xm s004 s034,
 xm s005 s035])
 (.ret))))
def r_conf_words_pair : List XR := [.tmp s004, .tmp s005]
theorem ok_conf_words_pair : okC Tryz.prog Tryz.f66.ntmps (bodyOf Tryz.f66) x_conf_words_pair = true := by kernel_rfl
theorem okr_conf_words_pair : okRs Tryz.prog Tryz.f66.results.toList r_conf_words_pair = true := by kernel_rfl

/-- stringslite.Index -/
def x_stringslite_Index : XC :=
 .seq (.region [⟨some s004, .move (.c (.int .i64 0)), none⟩])
 (.seq (.region [xm s016 s001,
 ⟨some s017, .slen (.t s016), none⟩,
 xm s005 s017])
 (.seq (.block 0
 (.seq (.region [xm s021 s005,
 ⟨some s022, .bin .eql (.t s021) (.c (.int .i64 0)), none⟩,
 xm s023 s022,
 ⟨some s024, .move (.t s001), some (s023, false)⟩,
 ⟨some s025, .move (.t s000), some (s023, false)⟩,
 ⟨some s026, .sbin .eql (.t s024) (.t s025), some (s023, false)⟩,
 ⟨some s027, .pick (.t s023) (.c (.bool true)) (.t s026), none⟩,
 xm s020 s027])
 (.cond (.t s020)
 (.seq (.region [⟨some s004, .move (.c (.int .i64 0)), none⟩])
 (.ret))
 (.seq (.region [xm s031 s005,
 ⟨some s032, .bin .eql (.t s031) (.c (.int .i64 1)), none⟩,
 xm s030 s032])
 (.cond (.t s030)
 (.seq (.region [xm s033 s000,
 xm s034 s001,
 ⟨some s035, .strAt (.t s034) (.c (.int .i64 0)), none⟩,
 ⟨some s036, .call 83 [(.t s033), (.t s035)], none⟩,
 xm s004 s036])
 (.ret))
 (.seq (.region [xm s040 s005,
 xm s041 s000,
 ⟨some s042, .slen (.t s041), none⟩,
 ⟨some s043, .bin .geq (.t s040) (.t s042), none⟩,
 xm s037 s043])
 (.cond (.t s037)
 (.seq (.region [⟨some s004, .move (.c (.int .i64 (-1))), none⟩])
 (.ret))
 (.seq (.region [xm s045 s005,
 ⟨some s046, .load false 1 .g, none⟩,
 ⟨some s047, .bin .leq (.t s045) (.t s046), none⟩,
 xm s050 s047,
 ⟨some s051, .move (.t s000), some (s050, true)⟩,
 ⟨some s052, .slen (.t s051), some (s050, true)⟩,
 ⟨some s053, .bin .leq (.t s052) (.c (.int .i64 64)), some (s050, true)⟩,
 ⟨some s054, .pick (.t s050) (.t s053) (.c (.bool false)), none⟩,
 xm s044 s054])
 (.cond (.t s044)
 (.seq (.region [xm s055 s000,
 xm s056 s001,
 ⟨some s057, .dead, none⟩,
 xm s004 s057])
 (.ret))
 (.skip))))))))))
 (.seq (.region [xm s060 s001,
 ⟨some s061, .strAt (.t s060) (.c (.int .i64 0)), none⟩,
 xm s006 s061])
 (.seq (.region [xm s062 s001,
 ⟨some s063, .strAt (.t s062) (.c (.int .i64 1)), none⟩,
 xm s007 s063])
 (.seq (.region [⟨some s010, .move (.c (.int .i64 0)), none⟩])
 (.seq (.region [xm s064 s000,
 ⟨some s065, .slen (.t s064), none⟩,
 xm s066 s005,
 ⟨some s067, .bin .sub (.t s065) (.t s066), none⟩,
 ⟨some s070, .bin .add (.t s067) (.c (.int .i64 1)), none⟩,
 xm s011 s070])
 (.seq (.region [⟨some s012, .move (.c (.int .i64 0)), none⟩])
 (.seq (.block 1
 (.loop
 (.seq (.seq (.region [xm s071 s010,
 xm s072 s011,
 ⟨some s073, .bin .lss (.t s071) (.t s072), none⟩])
 (.cond (.t s073)
 (.skip)
 (.exit 1)))
 (.block 2
 (.seq (.seq (.region [xm s074 s000,
 xm s075 s010,
 ⟨some s076, .strAt (.t s074) (.t s075), none⟩,
 xm s077 s006,
 ⟨some s100, .bin .neq (.t s076) (.t s077), none⟩])
 (.cond (.t s100)
 (.seq (.region [xm s101 s000,
 xm s102 s010,
 ⟨some s103, .bin .add (.t s102) (.c (.int .i64 1)), none⟩,
 xm s104 s011,
 ⟨some s105, .substr (.t s101) (some (.t s103)) (some (.t s104)), none⟩,
 xm s106 s006,
 ⟨some s107, .call 83 [(.t s105), (.t s106)], none⟩,
 xm s013 s107])
 (.seq (.seq (.region [xm s110 s013,
 ⟨some s111, .bin .lss (.t s110) (.c (.int .i64 0)), none⟩])
 (.cond (.t s111)
 (.seq (.region [⟨some s004, .move (.c (.int .i64 (-1))), none⟩])
 (.ret))
 (.skip)))
 (.region [xm s112 s010,
 xm s113 s013,
 ⟨some s114, .bin .add (.t s113) (.c (.int .i64 1)), none⟩,
 ⟨some s115, .bin .add (.t s112) (.t s114), none⟩,
 xm s010 s115])))
 (.skip)))
 (.seq (.seq (.region [xm s116 s000,
 xm s117 s010,
 ⟨some s120, .bin .add (.t s117) (.c (.int .i64 1)), none⟩,
 ⟨some s121, .strAt (.t s116) (.t s120), none⟩,
 xm s122 s007,
 ⟨some s123, .bin .eql (.t s121) (.t s122), none⟩,
 xm s124 s123,
 ⟨some s125, .move (.t s000), some (s124, true)⟩,
 ⟨some s126, .move (.t s010), some (s124, true)⟩,
 ⟨some s127, .move (.t s010), some (s124, true)⟩,
 ⟨some s130, .move (.t s005), some (s124, true)⟩,
 ⟨some s131, .bin .add (.t s127) (.t s130), some (s124, true)⟩,
 ⟨some s132, .substr (.t s125) (some (.t s126)) (some (.t s131)), some (s124, true)⟩,
 ⟨some s133, .move (.t s001), some (s124, true)⟩,
 ⟨some s134, .sbin .eql (.t s132) (.t s133), some (s124, true)⟩,
 ⟨some s135, .pick (.t s124) (.t s134) (.c (.bool false)), none⟩])
 (.cond (.t s135)
 (.seq (.region [xm s136 s010,
 xm s004 s136])
 (.ret))
 (.skip)))
 (.seq (.region [xm s137 s010,
 ⟨some s140, .bin .add (.t s137) (.c (.int .i64 1)), none⟩,
 xm s010 s140])
 (.seq (.region [xm s141 s012,
 ⟨some s142, .bin .add (.t s141) (.c (.int .i64 1)), none⟩,
 xm s012 s142])
 (.seq (.region [xm s143 s005,
 ⟨some s144, .load false 1 .g, none⟩,
 ⟨some s145, .bin .leq (.t s143) (.t s144), none⟩,
 xm s146 s145,
 ⟨some s147, .move (.t s012), some (s146, true)⟩,
 ⟨some s150, .move (.t s010), some (s146, true)⟩,
 ⟨some s151, .call 85 [(.t s150)], some (s146, true)⟩,
 ⟨some s152, .bin .gtr (.t s147) (.t s151), some (s146, true)⟩,
 ⟨some s153, .pick (.t s146) (.t s152) (.c (.bool false)), none⟩])
 (.cond (.t s153)
 (.seq (.region [xm s154 s000,
 xm s155 s010,
 ⟨some s156, .substr (.t s154) (some (.t s155)) none, none⟩,
 xm s157 s001,
 ⟨some s160, .dead, none⟩,
 xm s014 s160])
 (.seq (.seq (.region [xm s161 s014,
 ⟨some s162, .bin .geq (.t s161) (.c (.int .i64 0)), none⟩])
 (.cond (.t s162)
 (.seq (.region [xm s163 s014,
 xm s164 s010,
 ⟨some s165, .bin .add (.t s163) (.t s164), none⟩,
 xm s004 s165])
 (.ret))
 (.skip)))
 (.seq (.region [⟨some s004, .move (.c (.int .i64 (-1))), none⟩])
 (.ret))))
 (.seq (.region [xm s166 s005,
 ⟨some s167, .load false 1 .g, none⟩,
 ⟨some s170, .bin .gtr (.t s166) (.t s167), none⟩,
 xm s171 s170,
 ⟨some s172, .move (.t s012), some (s171, true)⟩,
 ⟨some s173, .move (.t s010), some (s171, true)⟩,
 ⟨some s174, .bin .shr (.t s173) (.c (.int .u64 4)), some (s171, true)⟩,
 ⟨some s175, .bin .add (.c (.int .i64 4)) (.t s174), some (s171, true)⟩,
 ⟨some s176, .bin .geq (.t s172) (.t s175), some (s171, true)⟩,
 ⟨some s177, .pick (.t s171) (.t s176) (.c (.bool false)), none⟩,
 xm s200 s177,
 ⟨some s201, .move (.t s010), some (s200, true)⟩,
 ⟨some s202, .move (.t s011), some (s200, true)⟩,
 ⟨some s203, .bin .lss (.t s201) (.t s202), some (s200, true)⟩,
 ⟨some s204, .pick (.t s200) (.t s203) (.c (.bool false)), none⟩])
 (.cond (.t s204)
 (.seq (.region [xm s205 s000,
 xm s206 s010,
 ⟨some s207, .substr (.t s205) (some (.t s206)) none, none⟩,
 xm s210 s001,
 ⟨some s211, .call 86 [(.t s207), (.t s210)], none⟩,
 xm s015 s211])
 (.seq (.seq (.region [xm s212 s015,
 ⟨some s213, .bin .lss (.t s212) (.c (.int .i64 0)), none⟩])
 (.cond (.t s213)
 (.seq (.region [⟨some s004, .move (.c (.int .i64 (-1))), none⟩])
 (.ret))
 (.skip)))
 (.seq (.region [xm s214 s010,
 xm s215 s015,
 ⟨some s216, .bin .add (.t s214) (.t s215), none⟩,
 xm s004 s216])
 (.ret))))
 (.skip)))))))))))))
 (.seq (.region [⟨some s004, .move (.c (.int .i64 (-1))), none⟩])
 (.ret))))))))))
def r_stringslite_Index : List XR := [.tmp s004]
theorem ok_stringslite_Index : okC Tryz.prog Tryz.f67.ntmps (bodyOf Tryz.f67) x_stringslite_Index = true := by kernel_rfl
theorem okr_stringslite_Index : okRs Tryz.prog Tryz.f67.results.toList r_stringslite_Index = true := by kernel_rfl

/-- custref.ReadNum -/
def x_custref_ReadNum : XC :=
 .seq (.region [⟨some s002, .move (.c (.int .i64 0)), none⟩,
 ⟨some s003, .move (.c (.bool false)), none⟩])
 (.seq (.seq (.region [xm s006 s000,
 ⟨some s007, .slen (.t s006), none⟩,
 ⟨some s010, .call 34 [(.t s007), (.c (.int .i64 1)), (.c (.int .i64 9))], none⟩,
 ⟨some s011, .un .not (.t s010), none⟩])
 (.cond (.t s011)
 (.seq (.region [⟨some s002, .move (.c (.int .i64 0)), none⟩,
 ⟨some s003, .move (.c (.bool false)), none⟩])
 (.ret))
 (.skip)))
 (.seq (.region [⟨some s004, .move (.c (.int .i64 0)), none⟩])
 (.seq (.seq (.region [xm s012 s000,
 ⟨some s013, .slen (.t s012), none⟩,
 ⟨some s014, .move (.c (.int .i64 0)), none⟩])
 (.block 0
 (.loop
 (.seq (.region [⟨some s015, .bin .lss (.t s014) (.t s013), none⟩])
 (.seq (.cond (.t s015)
 (.skip)
 (.exit 0))
 (.seq (.block 1
 (.seq (.region [xm s016 s014,
 xm s005 s016])
 (.seq (.seq (.region [xm s017 s000,
 xm s020 s005,
 ⟨some s021, .strAt (.t s017) (.t s020), none⟩,
 ⟨some s022, .convInt .i64 (.t s021), none⟩,
 ⟨some s023, .call 34 [(.t s022), (.c (.int .i64 48)), (.c (.int .i64 57))], none⟩,
 ⟨some s024, .un .not (.t s023), none⟩])
 (.cond (.t s024)
 (.seq (.region [⟨some s002, .move (.c (.int .i64 0)), none⟩,
 ⟨some s003, .move (.c (.bool false)), none⟩])
 (.ret))
 (.skip)))
 (.region [xm s025 s004,
 ⟨some s026, .bin .mul (.c (.int .i64 10)) (.t s025), none⟩,
 xm s027 s000,
 xm s030 s005,
 ⟨some s031, .strAt (.t s027) (.t s030), none⟩,
 ⟨some s032, .convInt .i64 (.t s031), none⟩,
 ⟨some s033, .bin .add (.t s026) (.t s032), none⟩,
 ⟨some s034, .bin .sub (.t s033) (.c (.int .i64 48)), none⟩,
 xm s004 s034]))))
 (.region [⟨some s035, .bin .add (.t s014) (.c (.int .i64 1)), none⟩,
 xm s014 s035])))))))
 (.seq (.region [xm s036 s004,
 xm s037 s004,
 ⟨some s040, .call 21 [(.t s037)], none⟩,
 xm s041 s000,
 ⟨some s042, .sbin .eql (.t s040) (.t s041), none⟩,
 xm s002 s036,
 xm s003 s042])
 (.ret)))))
def r_custref_ReadNum : List XR := [.tmp s002, .tmp s003]
theorem ok_custref_ReadNum : okC Tryz.prog Tryz.f68.ntmps (bodyOf Tryz.f68) x_custref_ReadNum = true := by kernel_rfl
theorem okr_custref_ReadNum : okRs Tryz.prog Tryz.f68.results.toList r_custref_ReadNum = true := by kernel_rfl

/-- rules.net -/
def x_rules_net : XC :=
 .seq (.region [⟨some s001, .box 0 2 (.t s000), none⟩,
 ⟨some s002, .move (.c (.bool false)), none⟩])
 (.seq (.region [xf 1 s003 s001,
 xl s004 s003,
 ⟨some s005, .bin .geq (.t s004) (.c (.int .i64 0)), none⟩,
 xm s006 s005,
 ⟨some s007, .fieldAddr 1 (.t s001), some (s006, true)⟩,
 ⟨some s010, .load false 1 (.t s007), some (s006, true)⟩,
 ⟨some s011, .bin .leq (.t s010) (.c (.int .i64 32)), some (s006, true)⟩,
 ⟨some s012, .pick (.t s006) (.t s011) (.c (.bool false)), none⟩,
 xm s013 s012,
 ⟨some s014, .fieldAddr 0 (.t s001), some (s013, true)⟩,
 ⟨some s015, .load false 1 (.t s014), some (s013, true)⟩,
 ⟨some s016, .fieldAddr 1 (.t s001), some (s013, true)⟩,
 ⟨some s017, .load false 1 (.t s016), some (s013, true)⟩,
 ⟨some s020, .bin .shl (.t s015) (.t s017), some (s013, true)⟩,
 ⟨some s021, .bin .eql (.t s020) (.c (.int .u32 0)), some (s013, true)⟩,
 ⟨some s022, .pick (.t s013) (.t s021) (.c (.bool false)), none⟩,
 xm s002 s022])
 (.ret))
def r_rules_net : List XR := [.tmp s002]
theorem ok_rules_net : okC Tryz.prog Tryz.f69.ntmps (bodyOf Tryz.f69) x_rules_net = true := by kernel_rfl
theorem okr_rules_net : okRs Tryz.prog Tryz.f69.results.toList r_rules_net = true := by kernel_rfl

/-- rules.bounds -/
def x_rules_bounds : XC :=
 .seq (.region [⟨some s004, .move (.c (.bool false)), none⟩])
 (.seq (.region [xm s005 s000,
 ⟨some s006, .bin .geq (.t s005) (.c (.int .i64 0)), none⟩,
 xm s007 s006,
 ⟨some s010, .move (.t s000), some (s007, true)⟩,
 ⟨some s011, .move (.t s001), some (s007, true)⟩,
 ⟨some s012, .bin .leq (.t s010) (.t s011), some (s007, true)⟩,
 ⟨some s013, .pick (.t s007) (.t s012) (.c (.bool false)), none⟩,
 xm s014 s013,
 ⟨some s015, .move (.t s001), some (s014, true)⟩,
 ⟨some s016, .bin .leq (.t s015) (.c (.int .i64 65535)), some (s014, true)⟩,
 ⟨some s017, .pick (.t s014) (.t s016) (.c (.bool false)), none⟩,
 xm s004 s017])
 (.ret))
def r_rules_bounds : List XR := [.tmp s004]
theorem ok_rules_bounds : okC Tryz.prog Tryz.f70.ntmps (bodyOf Tryz.f70) x_rules_bounds = true := by kernel_rfl
theorem okr_rules_bounds : okRs Tryz.prog Tryz.f70.results.toList r_rules_bounds = true := by kernel_rfl

/-- custref.IsNet -/
def x_custref_IsNet : XC :=
 .seq (.region [⟨some s001, .box 0 2 (.t s000), none⟩,
 ⟨some s002, .move (.c (.bool false)), none⟩])
 (.seq (.regionD [0, 1, 3, 7, 15, 31, 63, 15, 143, 511, 1023, 2047, 4095, 8191] [xf 1 s003 s001,
 xl s004 s003,
 ⟨some s005, .call 34 [(.t s004), (.c (.int .i64 0)), (.c (.int .i64 32))], none⟩,
 xm s006 s005,
 ⟨some s007, .fieldAddr 0 (.t s001), some (s006, true)⟩,
 ⟨some s010, .load false 1 (.t s007), some (s006, true)⟩,
 ⟨some s011, .call 87 [(.t s010), (.c (.int .i64 32))], some (s006, true)⟩,
 ⟨some s012, .fieldAddr 1 (.t s001), some (s006, true)⟩,
 ⟨some s013, .load false 1 (.t s012), some (s006, true)⟩,
 ⟨some s014, .substr (.t s011) (some (.t s013)) none, some (s006, true)⟩,
 ⟨some s015, .call 30 [(.t s014), (.c (.string { data := #[49] }))], some (s006, true)⟩,
 ⟨some s016, .un .not (.t s015), some (s006, true)⟩,
 ⟨some s017, .pick (.t s006) (.t s016) (.c (.bool false)), none⟩,
 xm s002 s017])
 (.ret))
def r_custref_IsNet : List XR := [.tmp s002]
theorem ok_custref_IsNet : okC Tryz.prog Tryz.f71.ntmps (bodyOf Tryz.f71) x_custref_IsNet = true := by kernel_rfl
theorem okr_custref_IsNet : okRs Tryz.prog Tryz.f71.results.toList r_custref_IsNet = true := by kernel_rfl

/-- strconv.small -/
def x_strconv_small : XC :=
 .seq (.region [⟨some s002, .move (.c (.string { data := #[] })), none⟩])
 (.seq (.seq (.region [xm s003 s000,
 ⟨some s004, .bin .lss (.t s003) (.c (.int .i64 10)), none⟩])
 (.cond (.t s004)
 (.seq (.region [xm s005 s000,
 xm s006 s000,
 ⟨some s007, .bin .add (.t s006) (.c (.int .i64 1)), none⟩,
 ⟨some s010, .substr (.c (.string { data := #[48, 49, 50, 51, 52, 53, 54, 55, 56, 57, 97, 98, 99, 100, 101, 102, 103, 104, 105, 106, 107, 108, 109, 110, 111, 112, 113, 114, 115, 116, 117, 118, 119, 120, 121, 122] })) (some (.t s005)) (some (.t s007)), none⟩,
 xm s002 s010])
 (.ret))
 (.skip)))
 (.seq (.region [xm s011 s000,
 ⟨some s012, .bin .mul (.t s011) (.c (.int .i64 2)), none⟩,
 xm s013 s000,
 ⟨some s014, .bin .mul (.t s013) (.c (.int .i64 2)), none⟩,
 ⟨some s015, .bin .add (.t s014) (.c (.int .i64 2)), none⟩,
 ⟨some s016, .substr (.c (.string { data := #[48, 48, 48, 49, 48, 50, 48, 51, 48, 52, 48, 53, 48, 54, 48, 55, 48, 56, 48, 57, 49, 48, 49, 49, 49, 50, 49, 51, 49, 52, 49, 53, 49, 54, 49, 55, 49, 56, 49, 57, 50, 48, 50, 49, 50, 50, 50, 51, 50, 52, 50, 53, 50, 54, 50, 55, 50, 56, 50, 57, 51, 48, 51, 49, 51, 50, 51, 51, 51, 52, 51, 53, 51, 54, 51, 55, 51, 56, 51, 57, 52, 48, 52, 49, 52, 50, 52, 51, 52, 52, 52, 53, 52, 54, 52, 55, 52, 56, 52, 57, 53, 48, 53, 49, 53, 50, 53, 51, 53, 52, 53, 53, 53, 54, 53, 55, 53, 56, 53, 57, 54, 48, 54, 49, 54, 50, 54, 51, 54, 52, 54, 53, 54, 54, 54, 55, 54, 56, 54, 57, 55, 48, 55, 49, 55, 50, 55, 51, 55, 52, 55, 53, 55, 54, 55, 55, 55, 56, 55, 57, 56, 48, 56, 49, 56, 50, 56, 51, 56, 52, 56, 53, 56, 54, 56, 55, 56, 56, 56, 57, 57, 48, 57, 49, 57, 50, 57, 51, 57, 52, 57, 53, 57, 54, 57, 55, 57, 56, 57, 57] })) (some (.t s012)) (some (.t s015)), none⟩,
 xm s002 s016])
 (.ret)))
def r_strconv_small : List XR := [.tmp s002]
theorem ok_strconv_small : okC Tryz.prog Tryz.f73.ntmps (bodyOf Tryz.f73) x_strconv_small = true := by kernel_rfl
theorem okr_strconv_small : okRs Tryz.prog Tryz.f73.results.toList r_strconv_small = true := by kernel_rfl

/-- strconv.numDigits -/
def x_strconv_numDigits : XC :=
 .seq (.region [⟨some s002, .move (.c (.int .i64 0)), none⟩])
 (.seq (.region [xm s004 s000,
 ⟨some s005, .call 89 [(.t s004)], none⟩,
 ⟨some s006, .call 88 [(.t s005)], none⟩,
 xm s003 s006])
 (.seq (.region [xm s007 s003,
 xm s010 s000,
 xm s011 s003,
 ⟨some s012, .gidx 1 20 1 (.t s011), none⟩,
 xl s013 s012,
 ⟨some s014, .bin .geq (.t s010) (.t s013), none⟩,
 ⟨some s015, .call 90 [(.t s014)], none⟩,
 ⟨some s016, .bin .add (.t s007) (.t s015), none⟩,
 xm s002 s016])
 (.ret)))
def r_strconv_numDigits : List XR := [.tmp s002]
theorem ok_strconv_numDigits : okC Tryz.prog Tryz.f74.ntmps (bodyOf Tryz.f74) x_strconv_numDigits = true := by kernel_rfl
theorem okr_strconv_numDigits : okRs Tryz.prog Tryz.f74.results.toList r_strconv_numDigits = true := by kernel_rfl

/-- strconv.formatBase10 -/
def x_strconv_formatBase10 : XC :=
 .seq (.region [xm s021 s000,
 ⟨some s022, .len (.t s021), none⟩,
 xm s004 s022])
 (.seq (.block 0
 (.loop
 (.seq (.seq (.region [xm s023 s004,
 ⟨some s024, .bin .geq (.t s023) (.c (.int .i64 8)), none⟩])
 (.cond (.t s024)
 (.skip)
 (.exit 0)))
 (.block 1
 (.seq (.region [xm s025 s001,
 ⟨some s026, .bin .rem (.t s025) (.c (.int .u64 100000000)), none⟩,
 ⟨some s027, .convInt .u32 (.t s026), none⟩,
 xm s005 s027])
 (.seq (.region [xm s030 s001,
 ⟨some s031, .bin .quo (.t s030) (.c (.int .u64 100000000)), none⟩,
 xm s001 s031])
 (.seq (.region [xm s032 s005,
 ⟨some s033, .bin .quo (.t s032) (.c (.int .u32 10000)), none⟩,
 xm s034 s005,
 ⟨some s035, .bin .rem (.t s034) (.c (.int .u32 10000)), none⟩,
 xm s006 s033,
 xm s007 s035])
 (.seq (.region [xm s036 s007,
 ⟨some s037, .bin .quo (.t s036) (.c (.int .u32 100)), none⟩,
 ⟨some s040, .bin .mul (.t s037) (.c (.int .u32 2)), none⟩,
 xm s041 s007,
 ⟨some s042, .bin .rem (.t s041) (.c (.int .u32 100)), none⟩,
 ⟨some s043, .bin .mul (.t s042) (.c (.int .u32 2)), none⟩,
 xm s010 s040,
 xm s011 s043])
 (.seq (.region [xm s044 s006,
 ⟨some s045, .bin .quo (.t s044) (.c (.int .u32 100)), none⟩,
 ⟨some s046, .bin .mul (.t s045) (.c (.int .u32 2)), none⟩,
 xm s047 s006,
 ⟨some s050, .bin .rem (.t s047) (.c (.int .u32 100)), none⟩,
 ⟨some s051, .bin .mul (.t s050) (.c (.int .u32 2)), none⟩,
 xm s012 s046,
 xm s013 s051])
 (.seq (.regionD [0, 0, 2, 0, 0, 16, 0, 64, 192, 0, 512, 455, 2503, 8191, 16383] [xm s052 s000,
 xm s053 s004,
 ⟨some s054, .bin .sub (.t s053) (.c (.int .i64 1)), none⟩,
 xm s055 s000,
 xm s056 s004,
 ⟨some s057, .bin .sub (.t s056) (.c (.int .i64 2)), none⟩,
 xm s060 s011,
 ⟨some s061, .bin .add (.t s060) (.c (.int .u32 1)), none⟩,
 ⟨some s062, .strAt (.c (.string { data := #[48, 48, 48, 49, 48, 50, 48, 51, 48, 52, 48, 53, 48, 54, 48, 55, 48, 56, 48, 57, 49, 48, 49, 49, 49, 50, 49, 51, 49, 52, 49, 53, 49, 54, 49, 55, 49, 56, 49, 57, 50, 48, 50, 49, 50, 50, 50, 51, 50, 52, 50, 53, 50, 54, 50, 55, 50, 56, 50, 57, 51, 48, 51, 49, 51, 50, 51, 51, 51, 52, 51, 53, 51, 54, 51, 55, 51, 56, 51, 57, 52, 48, 52, 49, 52, 50, 52, 51, 52, 52, 52, 53, 52, 54, 52, 55, 52, 56, 52, 57, 53, 48, 53, 49, 53, 50, 53, 51, 53, 52, 53, 53, 53, 54, 53, 55, 53, 56, 53, 57, 54, 48, 54, 49, 54, 50, 54, 51, 54, 52, 54, 53, 54, 54, 54, 55, 54, 56, 54, 57, 55, 48, 55, 49, 55, 50, 55, 51, 55, 52, 55, 53, 55, 54, 55, 55, 55, 56, 55, 57, 56, 48, 56, 49, 56, 50, 56, 51, 56, 52, 56, 53, 56, 54, 56, 55, 56, 56, 56, 57, 57, 48, 57, 49, 57, 50, 57, 51, 57, 52, 57, 53, 57, 54, 57, 55, 57, 56, 57, 57] })) (.t s061), none⟩,
 xm s063 s011,
 ⟨some s064, .strAt (.c (.string { data := #[48, 48, 48, 49, 48, 50, 48, 51, 48, 52, 48, 53, 48, 54, 48, 55, 48, 56, 48, 57, 49, 48, 49, 49, 49, 50, 49, 51, 49, 52, 49, 53, 49, 54, 49, 55, 49, 56, 49, 57, 50, 48, 50, 49, 50, 50, 50, 51, 50, 52, 50, 53, 50, 54, 50, 55, 50, 56, 50, 57, 51, 48, 51, 49, 51, 50, 51, 51, 51, 52, 51, 53, 51, 54, 51, 55, 51, 56, 51, 57, 52, 48, 52, 49, 52, 50, 52, 51, 52, 52, 52, 53, 52, 54, 52, 55, 52, 56, 52, 57, 53, 48, 53, 49, 53, 50, 53, 51, 53, 52, 53, 53, 53, 54, 53, 55, 53, 56, 53, 57, 54, 48, 54, 49, 54, 50, 54, 51, 54, 52, 54, 53, 54, 54, 54, 55, 54, 56, 54, 57, 55, 48, 55, 49, 55, 50, 55, 51, 55, 52, 55, 53, 55, 54, 55, 55, 55, 56, 55, 57, 56, 48, 56, 49, 56, 50, 56, 51, 56, 52, 56, 53, 56, 54, 56, 55, 56, 56, 56, 57, 57, 48, 57, 49, 57, 50, 57, 51, 57, 52, 57, 53, 57, 54, 57, 55, 57, 56, 57, 57] })) (.t s063), none⟩,
 ⟨some s065, .indexSl 1 (.t s052) (.t s054), none⟩,
 ⟨none, .store 1 (.t s065) (.t s062), none⟩,
 ⟨some s066, .indexSl 1 (.t s055) (.t s057), none⟩,
 ⟨none, .store 1 (.t s066) (.t s064), none⟩])
 (.seq (.regionD [0, 0, 2, 0, 0, 16, 0, 64, 192, 0, 512, 455, 2503, 8191, 16383] [xm s067 s000,
 xm s070 s004,
 ⟨some s071, .bin .sub (.t s070) (.c (.int .i64 3)), none⟩,
 xm s072 s000,
 xm s073 s004,
 ⟨some s074, .bin .sub (.t s073) (.c (.int .i64 4)), none⟩,
 xm s075 s010,
 ⟨some s076, .bin .add (.t s075) (.c (.int .u32 1)), none⟩,
 ⟨some s077, .strAt (.c (.string { data := #[48, 48, 48, 49, 48, 50, 48, 51, 48, 52, 48, 53, 48, 54, 48, 55, 48, 56, 48, 57, 49, 48, 49, 49, 49, 50, 49, 51, 49, 52, 49, 53, 49, 54, 49, 55, 49, 56, 49, 57, 50, 48, 50, 49, 50, 50, 50, 51, 50, 52, 50, 53, 50, 54, 50, 55, 50, 56, 50, 57, 51, 48, 51, 49, 51, 50, 51, 51, 51, 52, 51, 53, 51, 54, 51, 55, 51, 56, 51, 57, 52, 48, 52, 49, 52, 50, 52, 51, 52, 52, 52, 53, 52, 54, 52, 55, 52, 56, 52, 57, 53, 48, 53, 49, 53, 50, 53, 51, 53, 52, 53, 53, 53, 54, 53, 55, 53, 56, 53, 57, 54, 48, 54, 49, 54, 50, 54, 51, 54, 52, 54, 53, 54, 54, 54, 55, 54, 56, 54, 57, 55, 48, 55, 49, 55, 50, 55, 51, 55, 52, 55, 53, 55, 54, 55, 55, 55, 56, 55, 57, 56, 48, 56, 49, 56, 50, 56, 51, 56, 52, 56, 53, 56, 54, 56, 55, 56, 56, 56, 57, 57, 48, 57, 49, 57, 50, 57, 51, 57, 52, 57, 53, 57, 54, 57, 55, 57, 56, 57, 57] })) (.t s076), none⟩,
 xm s100 s010,
 ⟨some s101, .strAt (.c (.string { data := #[48, 48, 48, 49, 48, 50, 48, 51, 48, 52, 48, 53, 48, 54, 48, 55, 48, 56, 48, 57, 49, 48, 49, 49, 49, 50, 49, 51, 49, 52, 49, 53, 49, 54, 49, 55, 49, 56, 49, 57, 50, 48, 50, 49, 50, 50, 50, 51, 50, 52, 50, 53, 50, 54, 50, 55, 50, 56, 50, 57, 51, 48, 51, 49, 51, 50, 51, 51, 51, 52, 51, 53, 51, 54, 51, 55, 51, 56, 51, 57, 52, 48, 52, 49, 52, 50, 52, 51, 52, 52, 52, 53, 52, 54, 52, 55, 52, 56, 52, 57, 53, 48, 53, 49, 53, 50, 53, 51, 53, 52, 53, 53, 53, 54, 53, 55, 53, 56, 53, 57, 54, 48, 54, 49, 54, 50, 54, 51, 54, 52, 54, 53, 54, 54, 54, 55, 54, 56, 54, 57, 55, 48, 55, 49, 55, 50, 55, 51, 55, 52, 55, 53, 55, 54, 55, 55, 55, 56, 55, 57, 56, 48, 56, 49, 56, 50, 56, 51, 56, 52, 56, 53, 56, 54, 56, 55, 56, 56, 56, 57, 57, 48, 57, 49, 57, 50, 57, 51, 57, 52, 57, 53, 57, 54, 57, 55, 57, 56, 57, 57] })) (.t s100), none⟩,
 ⟨some s102, .indexSl 1 (.t s067) (.t s071), none⟩,
 ⟨none, .store 1 (.t s102) (.t s077), none⟩,
 ⟨some s103, .indexSl 1 (.t s072) (.t s074), none⟩,
 ⟨none, .store 1 (.t s103) (.t s101), none⟩])
 (.seq (.regionD [0, 0, 2, 0, 0, 16, 0, 64, 192, 0, 512, 455, 2503, 8191, 16383] [xm s104 s000,
 xm s105 s004,
 ⟨some s106, .bin .sub (.t s105) (.c (.int .i64 5)), none⟩,
 xm s107 s000,
 xm s110 s004,
 ⟨some s111, .bin .sub (.t s110) (.c (.int .i64 6)), none⟩,
 xm s112 s013,
 ⟨some s113, .bin .add (.t s112) (.c (.int .u32 1)), none⟩,
 ⟨some s114, .strAt (.c (.string { data := #[48, 48, 48, 49, 48, 50, 48, 51, 48, 52, 48, 53, 48, 54, 48, 55, 48, 56, 48, 57, 49, 48, 49, 49, 49, 50, 49, 51, 49, 52, 49, 53, 49, 54, 49, 55, 49, 56, 49, 57, 50, 48, 50, 49, 50, 50, 50, 51, 50, 52, 50, 53, 50, 54, 50, 55, 50, 56, 50, 57, 51, 48, 51, 49, 51, 50, 51, 51, 51, 52, 51, 53, 51, 54, 51, 55, 51, 56, 51, 57, 52, 48, 52, 49, 52, 50, 52, 51, 52, 52, 52, 53, 52, 54, 52, 55, 52, 56, 52, 57, 53, 48, 53, 49, 53, 50, 53, 51, 53, 52, 53, 53, 53, 54, 53, 55, 53, 56, 53, 57, 54, 48, 54, 49, 54, 50, 54, 51, 54, 52, 54, 53, 54, 54, 54, 55, 54, 56, 54, 57, 55, 48, 55, 49, 55, 50, 55, 51, 55, 52, 55, 53, 55, 54, 55, 55, 55, 56, 55, 57, 56, 48, 56, 49, 56, 50, 56, 51, 56, 52, 56, 53, 56, 54, 56, 55, 56, 56, 56, 57, 57, 48, 57, 49, 57, 50, 57, 51, 57, 52, 57, 53, 57, 54, 57, 55, 57, 56, 57, 57] })) (.t s113), none⟩,
 xm s115 s013,
 ⟨some s116, .strAt (.c (.string { data := #[48, 48, 48, 49, 48, 50, 48, 51, 48, 52, 48, 53, 48, 54, 48, 55, 48, 56, 48, 57, 49, 48, 49, 49, 49, 50, 49, 51, 49, 52, 49, 53, 49, 54, 49, 55, 49, 56, 49, 57, 50, 48, 50, 49, 50, 50, 50, 51, 50, 52, 50, 53, 50, 54, 50, 55, 50, 56, 50, 57, 51, 48, 51, 49, 51, 50, 51, 51, 51, 52, 51, 53, 51, 54, 51, 55, 51, 56, 51, 57, 52, 48, 52, 49, 52, 50, 52, 51, 52, 52, 52, 53, 52, 54, 52, 55, 52, 56, 52, 57, 53, 48, 53, 49, 53, 50, 53, 51, 53, 52, 53, 53, 53, 54, 53, 55, 53, 56, 53, 57, 54, 48, 54, 49, 54, 50, 54, 51, 54, 52, 54, 53, 54, 54, 54, 55, 54, 56, 54, 57, 55, 48, 55, 49, 55, 50, 55, 51, 55, 52, 55, 53, 55, 54, 55, 55, 55, 56, 55, 57, 56, 48, 56, 49, 56, 50, 56, 51, 56, 52, 56, 53, 56, 54, 56, 55, 56, 56, 56, 57, 57, 48, 57, 49, 57, 50, 57, 51, 57, 52, 57, 53, 57, 54, 57, 55, 57, 56, 57, 57] })) (.t s115), none⟩,
 ⟨some s117, .indexSl 1 (.t s104) (.t s106), none⟩,
 ⟨none, .store 1 (.t s117) (.t s114), none⟩,
 ⟨some s120, .indexSl 1 (.t s107) (.t s111), none⟩,
 ⟨none, .store 1 (.t s120) (.t s116), none⟩])
 (.seq (.regionD [0, 0, 2, 0, 0, 16, 0, 64, 192, 0, 512, 455, 2503, 8191, 16383] [xm s121 s000,
 xm s122 s004,
 ⟨some s123, .bin .sub (.t s122) (.c (.int .i64 7)), none⟩,
 xm s124 s000,
 xm s125 s004,
 ⟨some s126, .bin .sub (.t s125) (.c (.int .i64 8)), none⟩,
 xm s127 s012,
 ⟨some s130, .bin .add (.t s127) (.c (.int .u32 1)), none⟩,
 ⟨some s131, .strAt (.c (.string { data := #[48, 48, 48, 49, 48, 50, 48, 51, 48, 52, 48, 53, 48, 54, 48, 55, 48, 56, 48, 57, 49, 48, 49, 49, 49, 50, 49, 51, 49, 52, 49, 53, 49, 54, 49, 55, 49, 56, 49, 57, 50, 48, 50, 49, 50, 50, 50, 51, 50, 52, 50, 53, 50, 54, 50, 55, 50, 56, 50, 57, 51, 48, 51, 49, 51, 50, 51, 51, 51, 52, 51, 53, 51, 54, 51, 55, 51, 56, 51, 57, 52, 48, 52, 49, 52, 50, 52, 51, 52, 52, 52, 53, 52, 54, 52, 55, 52, 56, 52, 57, 53, 48, 53, 49, 53, 50, 53, 51, 53, 52, 53, 53, 53, 54, 53, 55, 53, 56, 53, 57, 54, 48, 54, 49, 54, 50, 54, 51, 54, 52, 54, 53, 54, 54, 54, 55, 54, 56, 54, 57, 55, 48, 55, 49, 55, 50, 55, 51, 55, 52, 55, 53, 55, 54, 55, 55, 55, 56, 55, 57, 56, 48, 56, 49, 56, 50, 56, 51, 56, 52, 56, 53, 56, 54, 56, 55, 56, 56, 56, 57, 57, 48, 57, 49, 57, 50, 57, 51, 57, 52, 57, 53, 57, 54, 57, 55, 57, 56, 57, 57] })) (.t s130), none⟩,
 xm s132 s012,
 ⟨some s133, .strAt (.c (.string { data := #[48, 48, 48, 49, 48, 50, 48, 51, 48, 52, 48, 53, 48, 54, 48, 55, 48, 56, 48, 57, 49, 48, 49, 49, 49, 50, 49, 51, 49, 52, 49, 53, 49, 54, 49, 55, 49, 56, 49, 57, 50, 48, 50, 49, 50, 50, 50, 51, 50, 52, 50, 53, 50, 54, 50, 55, 50, 56, 50, 57, 51, 48, 51, 49, 51, 50, 51, 51, 51, 52, 51, 53, 51, 54, 51, 55, 51, 56, 51, 57, 52, 48, 52, 49, 52, 50, 52, 51, 52, 52, 52, 53, 52, 54, 52, 55, 52, 56, 52, 57, 53, 48, 53, 49, 53, 50, 53, 51, 53, 52, 53, 53, 53, 54, 53, 55, 53, 56, 53, 57, 54, 48, 54, 49, 54, 50, 54, 51, 54, 52, 54, 53, 54, 54, 54, 55, 54, 56, 54, 57, 55, 48, 55, 49, 55, 50, 55, 51, 55, 52, 55, 53, 55, 54, 55, 55, 55, 56, 55, 57, 56, 48, 56, 49, 56, 50, 56, 51, 56, 52, 56, 53, 56, 54, 56, 55, 56, 56, 56, 57, 57, 48, 57, 49, 57, 50, 57, 51, 57, 52, 57, 53, 57, 54, 57, 55, 57, 56, 57, 57] })) (.t s132), none⟩,
 ⟨some s134, .indexSl 1 (.t s121) (.t s123), none⟩,
 ⟨none, .store 1 (.t s134) (.t s131), none⟩,
 ⟨some s135, .indexSl 1 (.t s124) (.t s126), none⟩,
 ⟨none, .store 1 (.t s135) (.t s133), none⟩])
 (.region [xm s136 s004,
 ⟨some s137, .bin .sub (.t s136) (.c (.int .i64 8)), none⟩,
 xm s004 s137]))))))))))))))
 (.seq (.region [xm s140 s001,
 ⟨some s141, .convInt .u32 (.t s140), none⟩,
 xm s014 s141])
 (.seq (.seq (.region [xm s142 s004,
 ⟨some s143, .bin .geq (.t s142) (.c (.int .i64 4)), none⟩])
 (.cond (.t s143)
 (.seq (.region [xm s144 s014,
 ⟨some s145, .bin .rem (.t s144) (.c (.int .u32 10000)), none⟩,
 xm s015 s145])
 (.seq (.region [xm s146 s014,
 ⟨some s147, .bin .quo (.t s146) (.c (.int .u32 10000)), none⟩,
 xm s014 s147])
 (.seq (.region [xm s150 s015,
 ⟨some s151, .bin .quo (.t s150) (.c (.int .u32 100)), none⟩,
 ⟨some s152, .bin .mul (.t s151) (.c (.int .u32 2)), none⟩,
 xm s153 s015,
 ⟨some s154, .bin .rem (.t s153) (.c (.int .u32 100)), none⟩,
 ⟨some s155, .bin .mul (.t s154) (.c (.int .u32 2)), none⟩,
 xm s016 s152,
 xm s017 s155])
 (.seq (.regionD [0, 0, 2, 0, 0, 16, 0, 64, 192, 0, 512, 455, 2503, 8191, 16383] [xm s156 s000,
 xm s157 s004,
 ⟨some s160, .bin .sub (.t s157) (.c (.int .i64 1)), none⟩,
 xm s161 s000,
 xm s162 s004,
 ⟨some s163, .bin .sub (.t s162) (.c (.int .i64 2)), none⟩,
 xm s164 s017,
 ⟨some s165, .bin .add (.t s164) (.c (.int .u32 1)), none⟩,
 ⟨some s166, .strAt (.c (.string { data := #[48, 48, 48, 49, 48, 50, 48, 51, 48, 52, 48, 53, 48, 54, 48, 55, 48, 56, 48, 57, 49, 48, 49, 49, 49, 50, 49, 51, 49, 52, 49, 53, 49, 54, 49, 55, 49, 56, 49, 57, 50, 48, 50, 49, 50, 50, 50, 51, 50, 52, 50, 53, 50, 54, 50, 55, 50, 56, 50, 57, 51, 48, 51, 49, 51, 50, 51, 51, 51, 52, 51, 53, 51, 54, 51, 55, 51, 56, 51, 57, 52, 48, 52, 49, 52, 50, 52, 51, 52, 52, 52, 53, 52, 54, 52, 55, 52, 56, 52, 57, 53, 48, 53, 49, 53, 50, 53, 51, 53, 52, 53, 53, 53, 54, 53, 55, 53, 56, 53, 57, 54, 48, 54, 49, 54, 50, 54, 51, 54, 52, 54, 53, 54, 54, 54, 55, 54, 56, 54, 57, 55, 48, 55, 49, 55, 50, 55, 51, 55, 52, 55, 53, 55, 54, 55, 55, 55, 56, 55, 57, 56, 48, 56, 49, 56, 50, 56, 51, 56, 52, 56, 53, 56, 54, 56, 55, 56, 56, 56, 57, 57, 48, 57, 49, 57, 50, 57, 51, 57, 52, 57, 53, 57, 54, 57, 55, 57, 56, 57, 57] })) (.t s165), none⟩,
 xm s167 s017,
 ⟨some s170, .strAt (.c (.string { data := #[48, 48, 48, 49, 48, 50, 48, 51, 48, 52, 48, 53, 48, 54, 48, 55, 48, 56, 48, 57, 49, 48, 49, 49, 49, 50, 49, 51, 49, 52, 49, 53, 49, 54, 49, 55, 49, 56, 49, 57, 50, 48, 50, 49, 50, 50, 50, 51, 50, 52, 50, 53, 50, 54, 50, 55, 50, 56, 50, 57, 51, 48, 51, 49, 51, 50, 51, 51, 51, 52, 51, 53, 51, 54, 51, 55, 51, 56, 51, 57, 52, 48, 52, 49, 52, 50, 52, 51, 52, 52, 52, 53, 52, 54, 52, 55, 52, 56, 52, 57, 53, 48, 53, 49, 53, 50, 53, 51, 53, 52, 53, 53, 53, 54, 53, 55, 53, 56, 53, 57, 54, 48, 54, 49, 54, 50, 54, 51, 54, 52, 54, 53, 54, 54, 54, 55, 54, 56, 54, 57, 55, 48, 55, 49, 55, 50, 55, 51, 55, 52, 55, 53, 55, 54, 55, 55, 55, 56, 55, 57, 56, 48, 56, 49, 56, 50, 56, 51, 56, 52, 56, 53, 56, 54, 56, 55, 56, 56, 56, 57, 57, 48, 57, 49, 57, 50, 57, 51, 57, 52, 57, 53, 57, 54, 57, 55, 57, 56, 57, 57] })) (.t s167), none⟩,
 ⟨some s171, .indexSl 1 (.t s156) (.t s160), none⟩,
 ⟨none, .store 1 (.t s171) (.t s166), none⟩,
 ⟨some s172, .indexSl 1 (.t s161) (.t s163), none⟩,
 ⟨none, .store 1 (.t s172) (.t s170), none⟩])
 (.seq (.regionD [0, 0, 2, 0, 0, 16, 0, 64, 192, 0, 512, 455, 2503, 8191, 16383] [xm s173 s000,
 xm s174 s004,
 ⟨some s175, .bin .sub (.t s174) (.c (.int .i64 3)), none⟩,
 xm s176 s000,
 xm s177 s004,
 ⟨some s200, .bin .sub (.t s177) (.c (.int .i64 4)), none⟩,
 xm s201 s016,
 ⟨some s202, .bin .add (.t s201) (.c (.int .u32 1)), none⟩,
 ⟨some s203, .strAt (.c (.string { data := #[48, 48, 48, 49, 48, 50, 48, 51, 48, 52, 48, 53, 48, 54, 48, 55, 48, 56, 48, 57, 49, 48, 49, 49, 49, 50, 49, 51, 49, 52, 49, 53, 49, 54, 49, 55, 49, 56, 49, 57, 50, 48, 50, 49, 50, 50, 50, 51, 50, 52, 50, 53, 50, 54, 50, 55, 50, 56, 50, 57, 51, 48, 51, 49, 51, 50, 51, 51, 51, 52, 51, 53, 51, 54, 51, 55, 51, 56, 51, 57, 52, 48, 52, 49, 52, 50, 52, 51, 52, 52, 52, 53, 52, 54, 52, 55, 52, 56, 52, 57, 53, 48, 53, 49, 53, 50, 53, 51, 53, 52, 53, 53, 53, 54, 53, 55, 53, 56, 53, 57, 54, 48, 54, 49, 54, 50, 54, 51, 54, 52, 54, 53, 54, 54, 54, 55, 54, 56, 54, 57, 55, 48, 55, 49, 55, 50, 55, 51, 55, 52, 55, 53, 55, 54, 55, 55, 55, 56, 55, 57, 56, 48, 56, 49, 56, 50, 56, 51, 56, 52, 56, 53, 56, 54, 56, 55, 56, 56, 56, 57, 57, 48, 57, 49, 57, 50, 57, 51, 57, 52, 57, 53, 57, 54, 57, 55, 57, 56, 57, 57] })) (.t s202), none⟩,
 xm s204 s016,
 ⟨some s205, .strAt (.c (.string { data := #[48, 48, 48, 49, 48, 50, 48, 51, 48, 52, 48, 53, 48, 54, 48, 55, 48, 56, 48, 57, 49, 48, 49, 49, 49, 50, 49, 51, 49, 52, 49, 53, 49, 54, 49, 55, 49, 56, 49, 57, 50, 48, 50, 49, 50, 50, 50, 51, 50, 52, 50, 53, 50, 54, 50, 55, 50, 56, 50, 57, 51, 48, 51, 49, 51, 50, 51, 51, 51, 52, 51, 53, 51, 54, 51, 55, 51, 56, 51, 57, 52, 48, 52, 49, 52, 50, 52, 51, 52, 52, 52, 53, 52, 54, 52, 55, 52, 56, 52, 57, 53, 48, 53, 49, 53, 50, 53, 51, 53, 52, 53, 53, 53, 54, 53, 55, 53, 56, 53, 57, 54, 48, 54, 49, 54, 50, 54, 51, 54, 52, 54, 53, 54, 54, 54, 55, 54, 56, 54, 57, 55, 48, 55, 49, 55, 50, 55, 51, 55, 52, 55, 53, 55, 54, 55, 55, 55, 56, 55, 57, 56, 48, 56, 49, 56, 50, 56, 51, 56, 52, 56, 53, 56, 54, 56, 55, 56, 56, 56, 57, 57, 48, 57, 49, 57, 50, 57, 51, 57, 52, 57, 53, 57, 54, 57, 55, 57, 56, 57, 57] })) (.t s204), none⟩,
 ⟨some s206, .indexSl 1 (.t s173) (.t s175), none⟩,
 ⟨none, .store 1 (.t s206) (.t s203), none⟩,
 ⟨some s207, .indexSl 1 (.t s176) (.t s200), none⟩,
 ⟨none, .store 1 (.t s207) (.t s205), none⟩])
 (.region [xm s210 s004,
 ⟨some s211, .bin .sub (.t s210) (.c (.int .i64 4)), none⟩,
 xm s004 s211]))))))
 (.skip)))
 (.seq (.seq (.region [xm s212 s004,
 ⟨some s213, .bin .geq (.t s212) (.c (.int .i64 2)), none⟩])
 (.cond (.t s213)
 (.seq (.region [xm s214 s014,
 ⟨some s215, .bin .rem (.t s214) (.c (.int .u32 100)), none⟩,
 ⟨some s216, .bin .mul (.t s215) (.c (.int .u32 2)), none⟩,
 xm s020 s216])
 (.seq (.region [xm s217 s014,
 ⟨some s220, .bin .quo (.t s217) (.c (.int .u32 100)), none⟩,
 xm s014 s220])
 (.seq (.regionD [0, 0, 2, 0, 0, 16, 0, 64, 192, 0, 512, 455, 2503, 8191, 16383] [xm s221 s000,
 xm s222 s004,
 ⟨some s223, .bin .sub (.t s222) (.c (.int .i64 1)), none⟩,
 xm s224 s000,
 xm s225 s004,
 ⟨some s226, .bin .sub (.t s225) (.c (.int .i64 2)), none⟩,
 xm s227 s020,
 ⟨some s230, .bin .add (.t s227) (.c (.int .u32 1)), none⟩,
 ⟨some s231, .strAt (.c (.string { data := #[48, 48, 48, 49, 48, 50, 48, 51, 48, 52, 48, 53, 48, 54, 48, 55, 48, 56, 48, 57, 49, 48, 49, 49, 49, 50, 49, 51, 49, 52, 49, 53, 49, 54, 49, 55, 49, 56, 49, 57, 50, 48, 50, 49, 50, 50, 50, 51, 50, 52, 50, 53, 50, 54, 50, 55, 50, 56, 50, 57, 51, 48, 51, 49, 51, 50, 51, 51, 51, 52, 51, 53, 51, 54, 51, 55, 51, 56, 51, 57, 52, 48, 52, 49, 52, 50, 52, 51, 52, 52, 52, 53, 52, 54, 52, 55, 52, 56, 52, 57, 53, 48, 53, 49, 53, 50, 53, 51, 53, 52, 53, 53, 53, 54, 53, 55, 53, 56, 53, 57, 54, 48, 54, 49, 54, 50, 54, 51, 54, 52, 54, 53, 54, 54, 54, 55, 54, 56, 54, 57, 55, 48, 55, 49, 55, 50, 55, 51, 55, 52, 55, 53, 55, 54, 55, 55, 55, 56, 55, 57, 56, 48, 56, 49, 56, 50, 56, 51, 56, 52, 56, 53, 56, 54, 56, 55, 56, 56, 56, 57, 57, 48, 57, 49, 57, 50, 57, 51, 57, 52, 57, 53, 57, 54, 57, 55, 57, 56, 57, 57] })) (.t s230), none⟩,
 xm s232 s020,
 ⟨some s233, .strAt (.c (.string { data := #[48, 48, 48, 49, 48, 50, 48, 51, 48, 52, 48, 53, 48, 54, 48, 55, 48, 56, 48, 57, 49, 48, 49, 49, 49, 50, 49, 51, 49, 52, 49, 53, 49, 54, 49, 55, 49, 56, 49, 57, 50, 48, 50, 49, 50, 50, 50, 51, 50, 52, 50, 53, 50, 54, 50, 55, 50, 56, 50, 57, 51, 48, 51, 49, 51, 50, 51, 51, 51, 52, 51, 53, 51, 54, 51, 55, 51, 56, 51, 57, 52, 48, 52, 49, 52, 50, 52, 51, 52, 52, 52, 53, 52, 54, 52, 55, 52, 56, 52, 57, 53, 48, 53, 49, 53, 50, 53, 51, 53, 52, 53, 53, 53, 54, 53, 55, 53, 56, 53, 57, 54, 48, 54, 49, 54, 50, 54, 51, 54, 52, 54, 53, 54, 54, 54, 55, 54, 56, 54, 57, 55, 48, 55, 49, 55, 50, 55, 51, 55, 52, 55, 53, 55, 54, 55, 55, 55, 56, 55, 57, 56, 48, 56, 49, 56, 50, 56, 51, 56, 52, 56, 53, 56, 54, 56, 55, 56, 56, 56, 57, 57, 48, 57, 49, 57, 50, 57, 51, 57, 52, 57, 53, 57, 54, 57, 55, 57, 56, 57, 57] })) (.t s232), none⟩,
 ⟨some s234, .indexSl 1 (.t s221) (.t s223), none⟩,
 ⟨none, .store 1 (.t s234) (.t s231), none⟩,
 ⟨some s235, .indexSl 1 (.t s224) (.t s226), none⟩,
 ⟨none, .store 1 (.t s235) (.t s233), none⟩])
 (.region [xm s236 s004,
 ⟨some s237, .bin .sub (.t s236) (.c (.int .i64 2)), none⟩,
 xm s004 s237]))))
 (.skip)))
 (.seq (.region [xm s240 s004,
 ⟨some s241, .bin .gtr (.t s240) (.c (.int .i64 0)), none⟩])
 (.cond (.t s241)
 (.region [xm s242 s000,
 xm s243 s014,
 ⟨some s244, .bin .add (.c (.int .u32 48)) (.t s243), none⟩,
 ⟨some s245, .convInt .u8 (.t s244), none⟩,
 ⟨some s246, .indexSl 1 (.t s242) (.c (.int .i64 0)), none⟩,
 ⟨none, .store 1 (.t s246) (.t s245), none⟩])
 (.skip)))))))
def r_strconv_formatBase10 : List XR := []
theorem ok_strconv_formatBase10 : okC Tryz.prog Tryz.f75.ntmps (bodyOf Tryz.f75) x_strconv_formatBase10 = true := by kernel_rfl
theorem okr_strconv_formatBase10 : okRs Tryz.prog Tryz.f75.results.toList r_strconv_formatBase10 = true := by kernel_rfl

/-- strconv.formatBits -/
def x_strconv_formatBits : XC :=
 .seq (.region [⟨some s012, .move (.c (.slice none 0 0)), none⟩,
 ⟨some s013, .move (.c (.string { data := #[] })), none⟩])
 (.seq (.seq (.region [xm s023 s002,
 ⟨some s024, .bin .lss (.t s023) (.c (.int .i64 2)), none⟩,
 xm s025 s024,
 ⟨some s026, .move (.t s002), some (s025, false)⟩,
 ⟨some s027, .bin .eql (.t s026) (.c (.int .i64 10)), some (s025, false)⟩,
 ⟨some s030, .pick (.t s025) (.c (.bool true)) (.t s027), none⟩,
 xm s031 s030,
 ⟨some s032, .move (.t s002), some (s031, false)⟩,
 ⟨some s033, .bin .gtr (.t s032) (.c (.int .i64 36)), some (s031, false)⟩,
 ⟨some s034, .pick (.t s031) (.c (.bool true)) (.t s033), none⟩])
 (.cond (.t s034)
 (.region [⟨some s035, .dead, none⟩,
 ⟨none, .dead, none⟩])
 (.skip)))
 (.seq (.region [⟨some s014, .alloc 0 zv124, none⟩])
 (.seq (.region [⟨some s015, .move (.c (.int .i64 65)), none⟩])
 (.seq (.seq (.region [xm s036 s003])
 (.cond (.t s036)
 (.region [xm s037 s001,
 ⟨some s040, .un .neg (.t s037), none⟩,
 xm s001 s040])
 (.skip)))
 (.seq (.seq (.region [xm s041 s002,
 ⟨some s042, .call 91 [(.t s041)], none⟩])
 (.cond (.t s042)
 (.seq (.region [xm s043 s002,
 ⟨some s044, .convInt .u64 (.t s043), none⟩,
 ⟨some s045, .call 92 [(.t s044)], none⟩,
 ⟨some s046, .convInt .u64 (.t s045), none⟩,
 xm s016 s046])
 (.seq (.region [xm s047 s002,
 ⟨some s050, .convInt .u64 (.t s047), none⟩,
 xm s017 s050])
 (.seq (.region [xm s051 s002,
 ⟨some s052, .convInt .u64 (.t s051), none⟩,
 ⟨some s053, .bin .sub (.t s052) (.c (.int .u64 1)), none⟩,
 xm s020 s053])
 (.seq (.block 0
 (.loop
 (.seq (.seq (.region [xm s054 s001,
 xm s055 s017,
 ⟨some s056, .bin .geq (.t s054) (.t s055), none⟩])
 (.cond (.t s056)
 (.skip)
 (.exit 0)))
 (.block 1
 (.seq (.region [xm s057 s015,
 ⟨some s060, .bin .sub (.t s057) (.c (.int .i64 1)), none⟩,
 xm s015 s060])
 (.seq (.region [xm s061 s015,
 xm s062 s001,
 xm s063 s020,
 ⟨some s064, .bin .and (.t s062) (.t s063), none⟩,
 ⟨some s065, .strAt (.c (.string { data := #[48, 49, 50, 51, 52, 53, 54, 55, 56, 57, 97, 98, 99, 100, 101, 102, 103, 104, 105, 106, 107, 108, 109, 110, 111, 112, 113, 114, 115, 116, 117, 118, 119, 120, 121, 122] })) (.t s064), none⟩,
 ⟨some s066, .indexArr 1 65 (.t s014) (.t s061), none⟩,
 ⟨none, .store 1 (.t s066) (.t s065), none⟩])
 (.region [xm s067 s001,
 xm s070 s016,
 ⟨some s071, .bin .shr (.t s067) (.t s070), none⟩,
 xm s001 s071])))))))
 (.seq (.region [xm s072 s015,
 ⟨some s073, .bin .sub (.t s072) (.c (.int .i64 1)), none⟩,
 xm s015 s073])
 (.region [xm s074 s015,
 xm s075 s001,
 ⟨some s076, .strAt (.c (.string { data := #[48, 49, 50, 51, 52, 53, 54, 55, 56, 57, 97, 98, 99, 100, 101, 102, 103, 104, 105, 106, 107, 108, 109, 110, 111, 112, 113, 114, 115, 116, 117, 118, 119, 120, 121, 122] })) (.t s075), none⟩,
 ⟨some s077, .indexArr 1 65 (.t s014) (.t s074), none⟩,
 ⟨none, .store 1 (.t s077) (.t s076), none⟩]))))))
 (.seq (.region [xm s100 s002,
 ⟨some s101, .convInt .u64 (.t s100), none⟩,
 xm s021 s101])
 (.seq (.block 2
 (.loop
 (.seq (.seq (.region [xm s102 s001,
 xm s103 s021,
 ⟨some s104, .bin .geq (.t s102) (.t s103), none⟩])
 (.cond (.t s104)
 (.skip)
 (.exit 2)))
 (.block 3
 (.seq (.region [xm s105 s015,
 ⟨some s106, .bin .sub (.t s105) (.c (.int .i64 1)), none⟩,
 xm s015 s106])
 (.seq (.region [xm s107 s001,
 xm s110 s021,
 ⟨some s111, .bin .quo (.t s107) (.t s110), none⟩,
 xm s022 s111])
 (.seq (.region [xm s112 s015,
 xm s113 s001,
 xm s114 s022,
 xm s115 s021,
 ⟨some s116, .bin .mul (.t s114) (.t s115), none⟩,
 ⟨some s117, .bin .sub (.t s113) (.t s116), none⟩,
 ⟨some s120, .strAt (.c (.string { data := #[48, 49, 50, 51, 52, 53, 54, 55, 56, 57, 97, 98, 99, 100, 101, 102, 103, 104, 105, 106, 107, 108, 109, 110, 111, 112, 113, 114, 115, 116, 117, 118, 119, 120, 121, 122] })) (.t s117), none⟩,
 ⟨some s121, .indexArr 1 65 (.t s014) (.t s112), none⟩,
 ⟨none, .store 1 (.t s121) (.t s120), none⟩])
 (.region [xm s122 s022,
 xm s001 s122]))))))))
 (.seq (.region [xm s123 s015,
 ⟨some s124, .bin .sub (.t s123) (.c (.int .i64 1)), none⟩,
 xm s015 s124])
 (.region [xm s125 s015,
 xm s126 s001,
 ⟨some s127, .strAt (.c (.string { data := #[48, 49, 50, 51, 52, 53, 54, 55, 56, 57, 97, 98, 99, 100, 101, 102, 103, 104, 105, 106, 107, 108, 109, 110, 111, 112, 113, 114, 115, 116, 117, 118, 119, 120, 121, 122] })) (.t s126), none⟩,
 ⟨some s130, .indexArr 1 65 (.t s014) (.t s125), none⟩,
 ⟨none, .store 1 (.t s130) (.t s127), none⟩]))))))
 (.seq (.seq (.region [xm s131 s003])
 (.cond (.t s131)
 (.seq (.region [xm s132 s015,
 ⟨some s133, .bin .sub (.t s132) (.c (.int .i64 1)), none⟩,
 xm s015 s133])
 (.region [xm s134 s015,
 ⟨some s135, .indexArr 1 65 (.t s014) (.t s134), none⟩,
 ⟨none, .store 1 (.t s135) (.c (.int .u8 45)), none⟩]))
 (.skip)))
 (.seq (.seq (.region [xm s136 s004])
 (.cond (.t s136)
 (.seq (.region [xm s137 s000,
 xm s140 s015,
 ⟨some s141, .dead, none⟩,
 ⟨some s142, .append 1 1 1 (.t s137) (.t s141), none⟩,
 xm s012 s142])
 (.ret))
 (.skip)))
 (.seq (.region [xm s143 s015,
 ⟨some s144, .dead, none⟩,
 ⟨some s145, .b2s (.t s144), none⟩,
 xm s013 s145])
 (.ret)))))))))
def r_strconv_formatBits : List XR := [.tmp s012, .tmp s013]
theorem ok_strconv_formatBits : okC Tryz.prog Tryz.f76.ntmps (bodyOf Tryz.f76) x_strconv_formatBits = true := by kernel_rfl
theorem okr_strconv_formatBits : okRs Tryz.prog Tryz.f76.results.toList r_strconv_formatBits = true := by kernel_rfl

/-- custref.Bytes -/
def x_custref_Bytes : XC :=
 .seq (.region [⟨some s002, .move (.c (.string { data := #[] })), none⟩])
 (.seq (.region [xm s006 s000,
 ⟨some s007, .len (.t s006), none⟩,
 ⟨some s010, .makeSlice 1 1 [.int .u8 0] (.t s007) (.t s007), none⟩,
 xm s003 s010])
 (.seq (.seq (.region [xm s011 s000,
 ⟨some s012, .len (.t s011), none⟩,
 ⟨some s013, .move (.c (.int .i64 0)), none⟩])
 (.block 0
 (.loop
 (.seq (.region [⟨some s014, .bin .lss (.t s013) (.t s012), none⟩])
 (.seq (.cond (.t s014)
 (.skip)
 (.exit 0))
 (.seq (.block 1
 (.seq (.region [xm s015 s013,
 ⟨some s016, .indexSl 1 (.t s011) (.t s013), none⟩,
 xl s017 s016,
 xm s004 s015,
 xm s005 s017])
 (.region [xm s020 s003,
 xm s021 s004,
 xm s022 s005,
 ⟨some s023, .convInt .u8 (.t s022), none⟩,
 ⟨some s024, .indexSl 1 (.t s020) (.t s021), none⟩,
 ⟨none, .store 1 (.t s024) (.t s023), none⟩])))
 (.region [⟨some s025, .bin .add (.t s013) (.c (.int .i64 1)), none⟩,
 xm s013 s025])))))))
 (.seq (.region [xm s026 s003,
 ⟨some s027, .b2s (.t s026), none⟩,
 xm s002 s027])
 (.ret))))
def r_custref_Bytes : List XR := [.tmp s002]
theorem ok_custref_Bytes : okC Tryz.prog Tryz.f77.ntmps (bodyOf Tryz.f77) x_custref_Bytes = true := by kernel_rfl
theorem okr_custref_Bytes : okRs Tryz.prog Tryz.f77.results.toList r_custref_Bytes = true := by kernel_rfl

/-- utf8.RuneCountInString -/
def x_utf8_RuneCountInString : XC :=
 .seq (.region [⟨some s002, .move (.c (.int .i64 0)), none⟩])
 (.seq (.seq (.region [xm s003 s000,
 ⟨some s004, .dead, none⟩])
 (.block 0
 (.loop
 (.seq (.region [⟨some s005, .dead, none⟩,
 ⟨some s006, .extract 0 (.t s005), none⟩])
 (.seq (.cond (.t s006)
 (.skip)
 (.exit 0))
 (.block 1
 (.region [xm s007 s002,
 ⟨some s010, .bin .add (.t s007) (.c (.int .i64 1)), none⟩,
 xm s002 s010])))))))
 (.seq (.region [xm s011 s002,
 xm s002 s011])
 (.ret)))
def r_utf8_RuneCountInString : List XR := [.tmp s002]
theorem ok_utf8_RuneCountInString : okC Tryz.prog Tryz.f78.ntmps (bodyOf Tryz.f78) x_utf8_RuneCountInString = true := by kernel_rfl
theorem okr_utf8_RuneCountInString : okRs Tryz.prog Tryz.f78.results.toList r_utf8_RuneCountInString = true := by kernel_rfl

/-- utf8.DecodeRuneInString -/
def x_utf8_DecodeRuneInString : XC :=
 .seq (.region [⟨some s002, .move (.c (.int .i32 0)), none⟩,
 ⟨some s003, .move (.c (.int .i64 0)), none⟩])
 (.seq (.seq (.region [xm s004 s000,
 ⟨some s005, .sbin .neq (.t s004) (.c (.string { data := #[] })), none⟩,
 xm s006 s005,
 ⟨some s007, .move (.t s000), some (s006, true)⟩,
 ⟨some s010, .strAt (.t s007) (.c (.int .i64 0)), some (s006, true)⟩,
 ⟨some s011, .bin .lss (.t s010) (.c (.int .u8 128)), some (s006, true)⟩,
 ⟨some s012, .pick (.t s006) (.t s011) (.c (.bool false)), none⟩])
 (.cond (.t s012)
 (.seq (.region [xm s013 s000,
 ⟨some s014, .strAt (.t s013) (.c (.int .i64 0)), none⟩,
 ⟨some s015, .convInt .i32 (.t s014), none⟩,
 xm s002 s015,
 ⟨some s003, .move (.c (.int .i64 1)), none⟩])
 (.ret))
 (.region [xm s017 s000,
 ⟨some s020, .call 93 [(.t s017)], none⟩,
 xm s016 s020,
 ⟨some s021, .extract 0 (.t s016), none⟩,
 ⟨some s022, .extract 1 (.t s016), none⟩,
 xm s002 s021,
 xm s003 s022])))
 (.ret))
def r_utf8_DecodeRuneInString : List XR := [.tmp s002, .tmp s003]
theorem ok_utf8_DecodeRuneInString : okC Tryz.prog Tryz.f79.ntmps (bodyOf Tryz.f79) x_utf8_DecodeRuneInString = true := by kernel_rfl
theorem okr_utf8_DecodeRuneInString : okRs Tryz.prog Tryz.f79.results.toList r_utf8_DecodeRuneInString = true := by kernel_rfl

/-- strconv.ParseUint -/
def x_strconv_ParseUint : XC :=
 .seq (.region [⟨some s006, .move (.c (.int .u64 0)), none⟩,
 ⟨some s007, .move (.c (.nilIface)), none⟩])
 (.seq (.region [xm s013 s000,
 xm s014 s001,
 xm s015 s002,
 ⟨some s016, .call 94 [(.t s013), (.t s014), (.t s015)], none⟩,
 xm s012 s016,
 ⟨some s017, .extract 0 (.t s012), none⟩,
 ⟨some s020, .extract 1 (.t s012), none⟩,
 xm s010 s017,
 xm s011 s020])
 (.seq (.seq (.region [xm s021 s011,
 ⟨some s022, .isnilI true (.t s021), none⟩])
 (.cond (.t s022)
 (.seq (.region [xm s023 s010,
 xm s024 s000,
 xm s025 s001,
 xm s026 s002,
 xm s027 s011,
 ⟨some s030, .call 95 [(.c (.string { data := #[80, 97, 114, 115, 101, 85, 105, 110, 116] })), (.t s024), (.t s025), (.t s026), (.t s027)], none⟩,
 xm s006 s023,
 xm s007 s030])
 (.ret))
 (.skip)))
 (.seq (.region [xm s031 s010,
 xm s006 s031,
 ⟨some s007, .move (.c (.nilIface)), none⟩])
 (.ret))))
def r_strconv_ParseUint : List XR := [.tmp s006, .tmp s007]
theorem ok_strconv_ParseUint : okC Tryz.prog Tryz.f81.ntmps (bodyOf Tryz.f81) x_strconv_ParseUint = true := by kernel_rfl
theorem okr_strconv_ParseUint : okRs Tryz.prog Tryz.f81.results.toList r_strconv_ParseUint = true := by kernel_rfl

/-- strconv.FormatUint -/
def x_strconv_FormatUint : XC :=
 .seq (.region [⟨some s004, .move (.c (.string { data := #[] })), none⟩])
 (.seq (.region [xm s005 s000,
 xm s006 s001,
 ⟨some s007, .call 96 [(.t s005), (.t s006)], none⟩,
 xm s004 s007])
 (.ret))
def r_strconv_FormatUint : List XR := [.tmp s004]
theorem ok_strconv_FormatUint : okC Tryz.prog Tryz.f82.ntmps (bodyOf Tryz.f82) x_strconv_FormatUint = true := by kernel_rfl
theorem okr_strconv_FormatUint : okRs Tryz.prog Tryz.f82.results.toList r_strconv_FormatUint = true := by kernel_rfl

/-- stringslite.IndexByte -/
def x_stringslite_IndexByte : XC :=
 .seq (.region [⟨some s004, .move (.c (.int .i64 0)), none⟩])
 (.seq (.region [xm s005 s000,
 xm s006 s001,
 ⟨some s007, .ext 0 [(.t s005), (.t s006)], none⟩,
 xm s004 s007])
 (.ret))
def r_stringslite_IndexByte : List XR := [.tmp s004]
theorem ok_stringslite_IndexByte : okC Tryz.prog Tryz.f83.ntmps (bodyOf Tryz.f83) x_stringslite_IndexByte = true := by kernel_rfl
theorem okr_stringslite_IndexByte : okRs Tryz.prog Tryz.f83.results.toList r_stringslite_IndexByte = true := by kernel_rfl

/-- bytealg.Cutover -/
def x_bytealg_Cutover : XC :=
 .seq (.region [⟨some s002, .move (.c (.int .i64 0)), none⟩])
 (.seq (.region [xm s003 s000,
 ⟨some s004, .bin .add (.t s003) (.c (.int .i64 16)), none⟩,
 ⟨some s005, .bin .quo (.t s004) (.c (.int .i64 8)), none⟩,
 xm s002 s005])
 (.ret))
def r_bytealg_Cutover : List XR := [.tmp s002]
theorem ok_bytealg_Cutover : okC Tryz.prog Tryz.f85.ntmps (bodyOf Tryz.f85) x_bytealg_Cutover = true := by kernel_rfl
theorem okr_bytealg_Cutover : okRs Tryz.prog Tryz.f85.results.toList r_bytealg_Cutover = true := by kernel_rfl

/-- bytealg.IndexRabinKarp -/
def x_bytealg_IndexRabinKarp_string : XC :=
 .seq (.region [⟨some s004, .move (.c (.int .i64 0)), none⟩])
 (.seq (.region [xm s014 s001,
 ⟨some s015, .call 98 [(.t s014)], none⟩,
 xm s013 s015,
 ⟨some s016, .extract 0 (.t s013), none⟩,
 ⟨some s017, .extract 1 (.t s013), none⟩,
 xm s005 s016,
 xm s006 s017])
 (.seq (.region [xm s020 s001,
 ⟨some s021, .slen (.t s020), none⟩,
 xm s007 s021])
 (.seq (.region [⟨some s010, .move (.c (.int .u32 0)), none⟩])
 (.seq (.seq (.region [⟨some s011, .move (.c (.int .i64 0)), none⟩])
 (.block 0
 (.loop
 (.seq (.seq (.region [xm s022 s011,
 xm s023 s007,
 ⟨some s024, .bin .lss (.t s022) (.t s023), none⟩])
 (.cond (.t s024)
 (.skip)
 (.exit 0)))
 (.seq (.block 1
 (.region [xm s027 s010,
 ⟨some s030, .bin .mul (.t s027) (.c (.int .u32 16777619)), none⟩,
 xm s031 s000,
 xm s032 s011,
 ⟨some s033, .strAt (.t s031) (.t s032), none⟩,
 ⟨some s034, .convInt .u32 (.t s033), none⟩,
 ⟨some s035, .bin .add (.t s030) (.t s034), none⟩,
 xm s010 s035]))
 (.region [xm s025 s011,
 ⟨some s026, .bin .add (.t s025) (.c (.int .i64 1)), none⟩,
 xm s011 s026]))))))
 (.seq (.seq (.region [xm s036 s010,
 xm s037 s005,
 ⟨some s040, .bin .eql (.t s036) (.t s037), none⟩,
 xm s041 s040,
 ⟨some s042, .move (.t s000), some (s041, true)⟩,
 ⟨some s043, .move (.t s007), some (s041, true)⟩,
 ⟨some s044, .substr (.t s042) none (some (.t s043)), some (s041, true)⟩,
 ⟨some s045, .move (.t s001), some (s041, true)⟩,
 ⟨some s046, .sbin .eql (.t s044) (.t s045), some (s041, true)⟩,
 ⟨some s047, .pick (.t s041) (.t s046) (.c (.bool false)), none⟩])
 (.cond (.t s047)
 (.seq (.region [⟨some s004, .move (.c (.int .i64 0)), none⟩])
 (.ret))
 (.skip)))
 (.seq (.seq (.region [xm s050 s007,
 xm s012 s050])
 (.block 2
 (.loop
 (.seq (.seq (.region [xm s051 s012,
 xm s052 s000,
 ⟨some s053, .slen (.t s052), none⟩,
 ⟨some s054, .bin .lss (.t s051) (.t s053), none⟩])
 (.cond (.t s054)
 (.skip)
 (.exit 2)))
 (.block 3
 (.seq (.region [xm s055 s010,
 ⟨some s056, .bin .mul (.t s055) (.c (.int .u32 16777619)), none⟩,
 xm s010 s056])
 (.seq (.region [xm s057 s010,
 xm s060 s000,
 xm s061 s012,
 ⟨some s062, .strAt (.t s060) (.t s061), none⟩,
 ⟨some s063, .convInt .u32 (.t s062), none⟩,
 ⟨some s064, .bin .add (.t s057) (.t s063), none⟩,
 xm s010 s064])
 (.seq (.region [xm s065 s010,
 xm s066 s006,
 xm s067 s000,
 xm s070 s012,
 xm s071 s007,
 ⟨some s072, .bin .sub (.t s070) (.t s071), none⟩,
 ⟨some s073, .strAt (.t s067) (.t s072), none⟩,
 ⟨some s074, .convInt .u32 (.t s073), none⟩,
 ⟨some s075, .bin .mul (.t s066) (.t s074), none⟩,
 ⟨some s076, .bin .sub (.t s065) (.t s075), none⟩,
 xm s010 s076])
 (.seq (.region [xm s077 s012,
 ⟨some s100, .bin .add (.t s077) (.c (.int .i64 1)), none⟩,
 xm s012 s100])
 (.seq (.region [xm s101 s010,
 xm s102 s005,
 ⟨some s103, .bin .eql (.t s101) (.t s102), none⟩,
 xm s104 s103,
 ⟨some s105, .move (.t s000), some (s104, true)⟩,
 ⟨some s106, .move (.t s012), some (s104, true)⟩,
 ⟨some s107, .move (.t s007), some (s104, true)⟩,
 ⟨some s110, .bin .sub (.t s106) (.t s107), some (s104, true)⟩,
 ⟨some s111, .move (.t s012), some (s104, true)⟩,
 ⟨some s112, .substr (.t s105) (some (.t s110)) (some (.t s111)), some (s104, true)⟩,
 ⟨some s113, .move (.t s001), some (s104, true)⟩,
 ⟨some s114, .sbin .eql (.t s112) (.t s113), some (s104, true)⟩,
 ⟨some s115, .pick (.t s104) (.t s114) (.c (.bool false)), none⟩])
 (.cond (.t s115)
 (.seq (.region [xm s116 s012,
 xm s117 s007,
 ⟨some s120, .bin .sub (.t s116) (.t s117), none⟩,
 xm s004 s120])
 (.ret))
 (.skip))))))))))))
 (.seq (.region [⟨some s004, .move (.c (.int .i64 (-1))), none⟩])
 (.ret))))))))
def r_bytealg_IndexRabinKarp_string : List XR := [.tmp s004]
theorem ok_bytealg_IndexRabinKarp_string : okC Tryz.prog Tryz.f86.ntmps (bodyOf Tryz.f86) x_bytealg_IndexRabinKarp_string = true := by kernel_rfl
theorem okr_bytealg_IndexRabinKarp_string : okRs Tryz.prog Tryz.f86.results.toList r_bytealg_IndexRabinKarp_string = true := by kernel_rfl

/-- custref.BitsOf -/
def x_custref_BitsOf : XC :=
 .seq (.region [⟨some s004, .move (.c (.string { data := #[] })), none⟩])
 (.seq (.region [⟨some s005, .move (.c (.string { data := #[] })), none⟩])
 (.seq (.seq (.region [xm s007 s001,
 ⟨some s010, .move (.c (.int .i64 0)), none⟩])
 (.block 0
 (.loop
 (.seq (.region [⟨some s011, .bin .lss (.t s010) (.t s007), none⟩])
 (.seq (.cond (.t s011)
 (.skip)
 (.exit 0))
 (.seq (.block 1
 (.seq (.region [xm s012 s010,
 xm s006 s012])
 (.region [xm s013 s005,
 xm s014 s000,
 ⟨some s015, .convInt .i64 (.t s014), none⟩,
 xm s016 s006,
 ⟨some s017, .bin .sub (.c (.int .i64 31)) (.t s016), none⟩,
 ⟨some s020, .bin .shl (.c (.int .i64 1)) (.t s017), none⟩,
 ⟨some s021, .bin .quo (.t s015) (.t s020), none⟩,
 ⟨some s022, .bin .rem (.t s021) (.c (.int .i64 2)), none⟩,
 ⟨some s023, .call 21 [(.t s022)], none⟩,
 ⟨some s024, .sbin .add (.t s013) (.t s023), none⟩,
 xm s005 s024])))
 (.region [⟨some s025, .bin .add (.t s010) (.c (.int .i64 1)), none⟩,
 xm s010 s025])))))))
 (.seq (.region [xm s026 s005,
 xm s004 s026])
 (.ret))))
def r_custref_BitsOf : List XR := [.tmp s004]
theorem ok_custref_BitsOf : okC Tryz.prog Tryz.f87.ntmps (bodyOf Tryz.f87) x_custref_BitsOf = true := by kernel_rfl
theorem okr_custref_BitsOf : okRs Tryz.prog Tryz.f87.results.toList r_custref_BitsOf = true := by kernel_rfl

/-- strconv.log10Pow2 -/
def x_strconv_log10Pow2 : XC :=
 .seq (.region [⟨some s002, .move (.c (.int .i64 0)), none⟩])
 (.seq (.region [xm s003 s000,
 ⟨some s004, .bin .mul (.t s003) (.c (.int .i64 78913)), none⟩,
 ⟨some s005, .bin .shr (.t s004) (.c (.int .u64 18)), none⟩,
 xm s002 s005])
 (.ret))
def r_strconv_log10Pow2 : List XR := [.tmp s002]
theorem ok_strconv_log10Pow2 : okC Tryz.prog Tryz.f88.ntmps (bodyOf Tryz.f88) x_strconv_log10Pow2 = true := by kernel_rfl
theorem okr_strconv_log10Pow2 : okRs Tryz.prog Tryz.f88.results.toList r_strconv_log10Pow2 = true := by kernel_rfl

/-- bits.Len64 -/
def x_bits_Len64 : XC :=
 .seq (.region [⟨some s002, .move (.c (.int .i64 0)), none⟩])
 (.seq (.seq (.region [xm s003 s000,
 ⟨some s004, .bin .geq (.t s003) (.c (.int .u64 4294967296)), none⟩])
 (.cond (.t s004)
 (.seq (.region [xm s005 s000,
 ⟨some s006, .bin .shr (.t s005) (.c (.int .u64 32)), none⟩,
 xm s000 s006])
 (.region [⟨some s002, .move (.c (.int .i64 32)), none⟩]))
 (.skip)))
 (.seq (.seq (.region [xm s007 s000,
 ⟨some s010, .bin .geq (.t s007) (.c (.int .u64 65536)), none⟩])
 (.cond (.t s010)
 (.seq (.region [xm s011 s000,
 ⟨some s012, .bin .shr (.t s011) (.c (.int .u64 16)), none⟩,
 xm s000 s012])
 (.region [xm s013 s002,
 ⟨some s014, .bin .add (.t s013) (.c (.int .i64 16)), none⟩,
 xm s002 s014]))
 (.skip)))
 (.seq (.seq (.region [xm s015 s000,
 ⟨some s016, .bin .geq (.t s015) (.c (.int .u64 256)), none⟩])
 (.cond (.t s016)
 (.seq (.region [xm s017 s000,
 ⟨some s020, .bin .shr (.t s017) (.c (.int .u64 8)), none⟩,
 xm s000 s020])
 (.region [xm s021 s002,
 ⟨some s022, .bin .add (.t s021) (.c (.int .i64 8)), none⟩,
 xm s002 s022]))
 (.skip)))
 (.seq (.region [xm s023 s002,
 xm s024 s000,
 ⟨some s025, .convInt .u8 (.t s024), none⟩,
 ⟨some s026, .strAt (.c (.string { data := #[0, 1, 2, 2, 3, 3, 3, 3, 4, 4, 4, 4, 4, 4, 4, 4, 5, 5, 5, 5, 5, 5, 5, 5, 5, 5, 5, 5, 5, 5, 5, 5, 6, 6, 6, 6, 6, 6, 6, 6, 6, 6, 6, 6, 6, 6, 6, 6, 6, 6, 6, 6, 6, 6, 6, 6, 6, 6, 6, 6, 6, 6, 6, 6, 7, 7, 7, 7, 7, 7, 7, 7, 7, 7, 7, 7, 7, 7, 7, 7, 7, 7, 7, 7, 7, 7, 7, 7, 7, 7, 7, 7, 7, 7, 7, 7, 7, 7, 7, 7, 7, 7, 7, 7, 7, 7, 7, 7, 7, 7, 7, 7, 7, 7, 7, 7, 7, 7, 7, 7, 7, 7, 7, 7, 7, 7, 7, 7, 8, 8, 8, 8, 8, 8, 8, 8, 8, 8, 8, 8, 8, 8, 8, 8, 8, 8, 8, 8, 8, 8, 8, 8, 8, 8, 8, 8, 8, 8, 8, 8, 8, 8, 8, 8, 8, 8, 8, 8, 8, 8, 8, 8, 8, 8, 8, 8, 8, 8, 8, 8, 8, 8, 8, 8, 8, 8, 8, 8, 8, 8, 8, 8, 8, 8, 8, 8, 8, 8, 8, 8, 8, 8, 8, 8, 8, 8, 8, 8, 8, 8, 8, 8, 8, 8, 8, 8, 8, 8, 8, 8, 8, 8, 8, 8, 8, 8, 8, 8, 8, 8, 8, 8, 8, 8, 8, 8, 8, 8, 8, 8, 8, 8, 8, 8, 8, 8, 8, 8, 8, 8, 8, 8, 8, 8, 8, 8] })) (.t s025), none⟩,
 ⟨some s027, .convInt .i64 (.t s026), none⟩,
 ⟨some s030, .bin .add (.t s023) (.t s027), none⟩,
 xm s002 s030])
 (.ret)))))
def r_bits_Len64 : List XR := [.tmp s002]
theorem ok_bits_Len64 : okC Tryz.prog Tryz.f89.ntmps (bodyOf Tryz.f89) x_bits_Len64 = true := by kernel_rfl
theorem okr_bits_Len64 : okRs Tryz.prog Tryz.f89.results.toList r_bits_Len64 = true := by kernel_rfl

/-- strconv.bool2 -/
def x_strconv_bool2_int : XC :=
 .seq (.region [⟨some s002, .move (.c (.int .i64 0)), none⟩])
 (.seq (.seq (.region [xm s003 s000])
 (.cond (.t s003)
 (.seq (.region [⟨some s002, .move (.c (.int .i64 1)), none⟩])
 (.ret))
 (.skip)))
 (.seq (.region [⟨some s002, .move (.c (.int .i64 0)), none⟩])
 (.ret)))
def r_strconv_bool2_int : List XR := [.tmp s002]
theorem ok_strconv_bool2_int : okC Tryz.prog Tryz.f90.ntmps (bodyOf Tryz.f90) x_strconv_bool2_int = true := by kernel_rfl
theorem okr_strconv_bool2_int : okRs Tryz.prog Tryz.f90.results.toList r_strconv_bool2_int = true := by kernel_rfl

/-- strconv.isPowerOfTwo -/
def x_strconv_isPowerOfTwo : XC :=
 .seq (.region [⟨some s002, .move (.c (.bool false)), none⟩])
 (.seq (.region [xm s003 s000,
 xm s004 s000,
 ⟨some s005, .bin .sub (.t s004) (.c (.int .i64 1)), none⟩,
 ⟨some s006, .bin .and (.t s003) (.t s005), none⟩,
 ⟨some s007, .bin .eql (.t s006) (.c (.int .i64 0)), none⟩,
 xm s002 s007])
 (.ret))
def r_strconv_isPowerOfTwo : List XR := [.tmp s002]
theorem ok_strconv_isPowerOfTwo : okC Tryz.prog Tryz.f91.ntmps (bodyOf Tryz.f91) x_strconv_isPowerOfTwo = true := by kernel_rfl
theorem okr_strconv_isPowerOfTwo : okRs Tryz.prog Tryz.f91.results.toList r_strconv_isPowerOfTwo = true := by kernel_rfl

/-- bits.TrailingZeros -/
def x_bits_TrailingZeros : XC :=
 .seq (.region [⟨some s002, .move (.c (.int .i64 0)), none⟩])
 (.seq (.cond (.c (.bool false))
 (.seq (.region [xm s003 s000,
 ⟨some s004, .convInt .u32 (.t s003), none⟩,
 ⟨some s005, .call 99 [(.t s004)], none⟩,
 xm s002 s005])
 (.ret))
 (.skip))
 (.seq (.region [xm s006 s000,
 ⟨some s007, .call 100 [(.t s006)], none⟩,
 xm s002 s007])
 (.ret)))
def r_bits_TrailingZeros : List XR := [.tmp s002]
theorem ok_bits_TrailingZeros : okC Tryz.prog Tryz.f92.ntmps (bodyOf Tryz.f92) x_bits_TrailingZeros = true := by kernel_rfl
theorem okr_bits_TrailingZeros : okRs Tryz.prog Tryz.f92.results.toList r_bits_TrailingZeros = true := by kernel_rfl

/-- utf8.decodeRuneInStringSlow -/
def x_utf8_decodeRuneInStringSlow : XC :=
 .seq (.region [⟨some s002, .move (.c (.int .i32 0)), none⟩,
 ⟨some s003, .move (.c (.int .i64 0)), none⟩])
 (.seq (.region [xm s015 s000,
 ⟨some s016, .slen (.t s015), none⟩,
 xm s004 s016])
 (.seq (.seq (.region [xm s017 s004,
 ⟨some s020, .bin .lss (.t s017) (.c (.int .i64 1)), none⟩])
 (.cond (.t s020)
 (.seq (.region [⟨some s002, .move (.c (.int .i32 65533)), none⟩,
 ⟨some s003, .move (.c (.int .i64 0)), none⟩])
 (.ret))
 (.skip)))
 (.seq (.region [xm s021 s000,
 ⟨some s022, .strAt (.t s021) (.c (.int .i64 0)), none⟩,
 xm s005 s022])
 (.seq (.region [xm s023 s005,
 ⟨some s024, .gidx 1 256 2 (.t s023), none⟩,
 xl s025 s024,
 xm s006 s025])
 (.seq (.seq (.region [xm s026 s006,
 ⟨some s027, .bin .geq (.t s026) (.c (.int .u8 240)), none⟩])
 (.cond (.t s027)
 (.seq (.region [xm s030 s006,
 ⟨some s031, .convInt .i32 (.t s030), none⟩,
 ⟨some s032, .bin .shl (.t s031) (.c (.int .u64 31)), none⟩,
 ⟨some s033, .bin .shr (.t s032) (.c (.int .u64 31)), none⟩,
 xm s007 s033])
 (.seq (.region [xm s034 s000,
 ⟨some s035, .strAt (.t s034) (.c (.int .i64 0)), none⟩,
 ⟨some s036, .convInt .i32 (.t s035), none⟩,
 xm s037 s007,
 ⟨some s040, .bin .andNot (.t s036) (.t s037), none⟩,
 xm s041 s007,
 ⟨some s042, .bin .and (.c (.int .i32 65533)) (.t s041), none⟩,
 ⟨some s043, .bin .or (.t s040) (.t s042), none⟩,
 xm s002 s043,
 ⟨some s003, .move (.c (.int .i64 1)), none⟩])
 (.ret)))
 (.skip)))
 (.seq (.region [xm s044 s006,
 ⟨some s045, .bin .and (.t s044) (.c (.int .u8 7)), none⟩,
 ⟨some s046, .convInt .i64 (.t s045), none⟩,
 xm s010 s046])
 (.seq (.region [xm s047 s006,
 ⟨some s050, .bin .shr (.t s047) (.c (.int .u64 4)), none⟩,
 ⟨some s051, .gidx 2 16 3 (.t s050), none⟩,
 ⟨some s052, .load true 2 (.t s051), none⟩,
 ⟨some s011, .alloc 0 [.int .u8 0, .int .u8 0], none⟩,
 ⟨none, .store 2 (.t s011) (.t s052), none⟩])
 (.seq (.seq (.region [xm s053 s004,
 xm s054 s010,
 ⟨some s055, .bin .lss (.t s053) (.t s054), none⟩])
 (.cond (.t s055)
 (.seq (.region [⟨some s002, .move (.c (.int .i32 65533)), none⟩,
 ⟨some s003, .move (.c (.int .i64 1)), none⟩])
 (.ret))
 (.skip)))
 (.seq (.region [xm s056 s000,
 ⟨some s057, .strAt (.t s056) (.c (.int .i64 1)), none⟩,
 xm s012 s057])
 (.seq (.seq (.region [xm s060 s012,
 xf 0 s061 s011,
 xl s062 s061,
 ⟨some s063, .bin .lss (.t s060) (.t s062), none⟩,
 xm s064 s063,
 ⟨some s065, .fieldAddr 1 (.t s011), some (s064, false)⟩,
 ⟨some s066, .load false 1 (.t s065), some (s064, false)⟩,
 ⟨some s067, .move (.t s012), some (s064, false)⟩,
 ⟨some s070, .bin .lss (.t s066) (.t s067), some (s064, false)⟩,
 ⟨some s071, .pick (.t s064) (.c (.bool true)) (.t s070), none⟩])
 (.cond (.t s071)
 (.seq (.region [⟨some s002, .move (.c (.int .i32 65533)), none⟩,
 ⟨some s003, .move (.c (.int .i64 1)), none⟩])
 (.ret))
 (.skip)))
 (.seq (.seq (.region [xm s072 s010,
 ⟨some s073, .bin .leq (.t s072) (.c (.int .i64 2)), none⟩])
 (.cond (.t s073)
 (.seq (.region [xm s074 s005,
 ⟨some s075, .bin .and (.t s074) (.c (.int .u8 31)), none⟩,
 ⟨some s076, .convInt .i32 (.t s075), none⟩,
 ⟨some s077, .bin .shl (.t s076) (.c (.int .u64 6)), none⟩,
 xm s100 s012,
 ⟨some s101, .bin .and (.t s100) (.c (.int .u8 63)), none⟩,
 ⟨some s102, .convInt .i32 (.t s101), none⟩,
 ⟨some s103, .bin .or (.t s077) (.t s102), none⟩,
 xm s002 s103,
 ⟨some s003, .move (.c (.int .i64 2)), none⟩])
 (.ret))
 (.skip)))
 (.seq (.region [xm s104 s000,
 ⟨some s105, .strAt (.t s104) (.c (.int .i64 2)), none⟩,
 xm s013 s105])
 (.seq (.seq (.region [xm s106 s013,
 ⟨some s107, .bin .lss (.t s106) (.c (.int .u8 128)), none⟩,
 xm s110 s107,
 ⟨some s111, .move (.t s013), some (s110, false)⟩,
 ⟨some s112, .bin .lss (.c (.int .u8 191)) (.t s111), some (s110, false)⟩,
 ⟨some s113, .pick (.t s110) (.c (.bool true)) (.t s112), none⟩])
 (.cond (.t s113)
 (.seq (.region [⟨some s002, .move (.c (.int .i32 65533)), none⟩,
 ⟨some s003, .move (.c (.int .i64 1)), none⟩])
 (.ret))
 (.skip)))
 (.seq (.seq (.region [xm s114 s010,
 ⟨some s115, .bin .leq (.t s114) (.c (.int .i64 3)), none⟩])
 (.cond (.t s115)
 (.seq (.region [xm s116 s005,
 ⟨some s117, .bin .and (.t s116) (.c (.int .u8 15)), none⟩,
 ⟨some s120, .convInt .i32 (.t s117), none⟩,
 ⟨some s121, .bin .shl (.t s120) (.c (.int .u64 12)), none⟩,
 xm s122 s012,
 ⟨some s123, .bin .and (.t s122) (.c (.int .u8 63)), none⟩,
 ⟨some s124, .convInt .i32 (.t s123), none⟩,
 ⟨some s125, .bin .shl (.t s124) (.c (.int .u64 6)), none⟩,
 ⟨some s126, .bin .or (.t s121) (.t s125), none⟩,
 xm s127 s013,
 ⟨some s130, .bin .and (.t s127) (.c (.int .u8 63)), none⟩,
 ⟨some s131, .convInt .i32 (.t s130), none⟩,
 ⟨some s132, .bin .or (.t s126) (.t s131), none⟩,
 xm s002 s132,
 ⟨some s003, .move (.c (.int .i64 3)), none⟩])
 (.ret))
 (.skip)))
 (.seq (.region [xm s133 s000,
 ⟨some s134, .strAt (.t s133) (.c (.int .i64 3)), none⟩,
 xm s014 s134])
 (.seq (.seq (.region [xm s135 s014,
 ⟨some s136, .bin .lss (.t s135) (.c (.int .u8 128)), none⟩,
 xm s137 s136,
 ⟨some s140, .move (.t s014), some (s137, false)⟩,
 ⟨some s141, .bin .lss (.c (.int .u8 191)) (.t s140), some (s137, false)⟩,
 ⟨some s142, .pick (.t s137) (.c (.bool true)) (.t s141), none⟩])
 (.cond (.t s142)
 (.seq (.region [⟨some s002, .move (.c (.int .i32 65533)), none⟩,
 ⟨some s003, .move (.c (.int .i64 1)), none⟩])
 (.ret))
 (.skip)))
 (.seq (.region [xm s143 s005,
 ⟨some s144, .bin .and (.t s143) (.c (.int .u8 7)), none⟩,
 ⟨some s145, .convInt .i32 (.t s144), none⟩,
 ⟨some s146, .bin .shl (.t s145) (.c (.int .u64 18)), none⟩,
 xm s147 s012,
 ⟨some s150, .bin .and (.t s147) (.c (.int .u8 63)), none⟩,
 ⟨some s151, .convInt .i32 (.t s150), none⟩,
 ⟨some s152, .bin .shl (.t s151) (.c (.int .u64 12)), none⟩,
 ⟨some s153, .bin .or (.t s146) (.t s152), none⟩,
 xm s154 s013,
 ⟨some s155, .bin .and (.t s154) (.c (.int .u8 63)), none⟩,
 ⟨some s156, .convInt .i32 (.t s155), none⟩,
 ⟨some s157, .bin .shl (.t s156) (.c (.int .u64 6)), none⟩,
 ⟨some s160, .bin .or (.t s153) (.t s157), none⟩,
 xm s161 s014,
 ⟨some s162, .bin .and (.t s161) (.c (.int .u8 63)), none⟩,
 ⟨some s163, .convInt .i32 (.t s162), none⟩,
 ⟨some s164, .bin .or (.t s160) (.t s163), none⟩,
 xm s002 s164,
 ⟨some s003, .move (.c (.int .i64 4)), none⟩])
 (.ret))))))))))))))))))
def r_utf8_decodeRuneInStringSlow : List XR := [.tmp s002, .tmp s003]
theorem ok_utf8_decodeRuneInStringSlow : okC Tryz.prog Tryz.f93.ntmps (bodyOf Tryz.f93) x_utf8_decodeRuneInStringSlow = true := by kernel_rfl
theorem okr_utf8_decodeRuneInStringSlow : okRs Tryz.prog Tryz.f93.results.toList r_utf8_decodeRuneInStringSlow = true := by kernel_rfl

/-- strconv.ParseUint -/
def x_strconv_ParseUint_1 : XC :=
 .seq (.region [⟨some s006, .move (.c (.int .u64 0)), none⟩,
 ⟨some s007, .move (.c (.nilIface)), none⟩])
 (.seq (.seq (.region [xm s022 s000,
 ⟨some s023, .sbin .eql (.t s022) (.c (.string { data := #[] })), none⟩])
 (.cond (.t s023)
 (.seq (.region [⟨some s024, .dead, none⟩,
 ⟨some s006, .move (.c (.int .u64 0)), none⟩,
 xm s007 s024])
 (.ret))
 (.skip)))
 (.seq (.region [xm s025 s001,
 ⟨some s026, .bin .eql (.t s025) (.c (.int .i64 0)), none⟩,
 xm s010 s026])
 (.seq (.region [xm s027 s000,
 xm s011 s027])
 (.seq (.block 0
 (.seq (.region [xm s032 s001,
 ⟨some s033, .bin .leq (.c (.int .i64 2)) (.t s032), none⟩,
 xm s034 s033,
 ⟨some s035, .move (.t s001), some (s034, true)⟩,
 ⟨some s036, .bin .leq (.t s035) (.c (.int .i64 36)), some (s034, true)⟩,
 ⟨some s037, .pick (.t s034) (.t s036) (.c (.bool false)), none⟩,
 xm s031 s037])
 (.cond (.t s031)
 (.skip)
 (.seq (.region [xm s041 s001,
 ⟨some s042, .bin .eql (.t s041) (.c (.int .i64 0)), none⟩,
 xm s040 s042])
 (.cond (.t s040)
 (.seq (.region [⟨some s001, .move (.c (.int .i64 10)), none⟩])
 (.seq (.region [xm s043 s000,
 ⟨some s044, .strAt (.t s043) (.c (.int .i64 0)), none⟩,
 ⟨some s045, .bin .eql (.t s044) (.c (.int .u8 48)), none⟩])
 (.cond (.t s045)
 (.block 1
 (.seq (.region [xm s051 s000,
 ⟨some s052, .slen (.t s051), none⟩,
 ⟨some s053, .bin .geq (.t s052) (.c (.int .i64 3)), none⟩,
 xm s054 s053,
 ⟨some s055, .move (.t s000), some (s054, true)⟩,
 ⟨some s056, .strAt (.t s055) (.c (.int .i64 1)), some (s054, true)⟩,
 ⟨some s057, .call 101 [(.t s056)], some (s054, true)⟩,
 ⟨some s060, .bin .eql (.t s057) (.c (.int .u8 98)), some (s054, true)⟩,
 ⟨some s061, .pick (.t s054) (.t s060) (.c (.bool false)), none⟩,
 xm s050 s061])
 (.cond (.t s050)
 (.seq (.region [⟨some s001, .move (.c (.int .i64 2)), none⟩])
 (.region [xm s062 s000,
 ⟨some s063, .substr (.t s062) (some (.c (.int .i64 2))) none, none⟩,
 xm s000 s063]))
 (.seq (.region [xm s065 s000,
 ⟨some s066, .slen (.t s065), none⟩,
 ⟨some s067, .bin .geq (.t s066) (.c (.int .i64 3)), none⟩,
 xm s070 s067,
 ⟨some s071, .move (.t s000), some (s070, true)⟩,
 ⟨some s072, .strAt (.t s071) (.c (.int .i64 1)), some (s070, true)⟩,
 ⟨some s073, .call 101 [(.t s072)], some (s070, true)⟩,
 ⟨some s074, .bin .eql (.t s073) (.c (.int .u8 111)), some (s070, true)⟩,
 ⟨some s075, .pick (.t s070) (.t s074) (.c (.bool false)), none⟩,
 xm s064 s075])
 (.cond (.t s064)
 (.seq (.region [⟨some s001, .move (.c (.int .i64 8)), none⟩])
 (.region [xm s076 s000,
 ⟨some s077, .substr (.t s076) (some (.c (.int .i64 2))) none, none⟩,
 xm s000 s077]))
 (.seq (.region [xm s101 s000,
 ⟨some s102, .slen (.t s101), none⟩,
 ⟨some s103, .bin .geq (.t s102) (.c (.int .i64 3)), none⟩,
 xm s104 s103,
 ⟨some s105, .move (.t s000), some (s104, true)⟩,
 ⟨some s106, .strAt (.t s105) (.c (.int .i64 1)), some (s104, true)⟩,
 ⟨some s107, .call 101 [(.t s106)], some (s104, true)⟩,
 ⟨some s110, .bin .eql (.t s107) (.c (.int .u8 120)), some (s104, true)⟩,
 ⟨some s111, .pick (.t s104) (.t s110) (.c (.bool false)), none⟩,
 xm s100 s111])
 (.cond (.t s100)
 (.seq (.region [⟨some s001, .move (.c (.int .i64 16)), none⟩])
 (.region [xm s112 s000,
 ⟨some s113, .substr (.t s112) (some (.c (.int .i64 2))) none, none⟩,
 xm s000 s113]))
 (.seq (.region [⟨some s001, .move (.c (.int .i64 8)), none⟩])
 (.region [xm s046 s000,
 ⟨some s047, .substr (.t s046) (some (.c (.int .i64 1))) none, none⟩,
 xm s000 s047])))))))))
 (.skip))))
 (.seq (.region [⟨some s030, .dead, none⟩,
 ⟨some s006, .move (.c (.int .u64 0)), none⟩,
 xm s007 s030])
 (.ret)))))))
 (.seq (.seq (.region [xm s114 s002,
 ⟨some s115, .bin .eql (.t s114) (.c (.int .i64 0)), none⟩])
 (.cond (.t s115)
 (.region [⟨some s002, .move (.c (.int .i64 64)), none⟩])
 (.seq (.region [xm s116 s002,
 ⟨some s117, .bin .lss (.t s116) (.c (.int .i64 0)), none⟩,
 xm s120 s117,
 ⟨some s121, .move (.t s002), some (s120, false)⟩,
 ⟨some s122, .bin .gtr (.t s121) (.c (.int .i64 64)), some (s120, false)⟩,
 ⟨some s123, .pick (.t s120) (.c (.bool true)) (.t s122), none⟩])
 (.cond (.t s123)
 (.seq (.region [⟨some s124, .dead, none⟩,
 ⟨some s006, .move (.c (.int .u64 0)), none⟩,
 xm s007 s124])
 (.ret))
 (.skip)))))
 (.seq (.region [⟨some s012, .move (.c (.int .u64 0)), none⟩])
 (.seq (.seq (.region [xm s125 s001])
 (.block 2
 (.seq (.region [⟨some s133, .bin .eql (.t s125) (.c (.int .i64 10)), none⟩,
 xm s132 s133])
 (.cond (.t s132)
 (.region [⟨some s012, .move (.c (.int .u64 1844674407370955162)), none⟩])
 (.seq (.region [⟨some s135, .bin .eql (.t s125) (.c (.int .i64 16)), none⟩,
 xm s134 s135])
 (.cond (.t s134)
 (.region [⟨some s012, .move (.c (.int .u64 1152921504606846976)), none⟩])
 (.region [xm s126 s001,
 ⟨some s127, .convInt .u64 (.t s126), none⟩,
 ⟨some s130, .bin .quo (.c (.int .u64 18446744073709551615)) (.t s127), none⟩,
 ⟨some s131, .bin .add (.t s130) (.c (.int .u64 1)), none⟩,
 xm s012 s131])))))))
 (.seq (.region [xm s136 s002,
 ⟨some s137, .convInt .u64 (.t s136), none⟩,
 ⟨some s140, .bin .shl (.c (.int .u64 1)) (.t s137), none⟩,
 ⟨some s141, .bin .sub (.t s140) (.c (.int .u64 1)), none⟩,
 xm s013 s141])
 (.seq (.region [⟨some s014, .move (.c (.bool false)), none⟩])
 (.seq (.region [⟨some s015, .move (.c (.int .u64 0)), none⟩])
 (.seq (.seq (.region [xm s142 s000,
 ⟨some s143, .s2b (.t s142), none⟩,
 ⟨some s144, .len (.t s143), none⟩,
 ⟨some s145, .move (.c (.int .i64 0)), none⟩])
 (.block 3
 (.loop
 (.seq (.region [⟨some s146, .bin .lss (.t s145) (.t s144), none⟩])
 (.seq (.cond (.t s146)
 (.skip)
 (.exit 3))
 (.seq (.block 4
 (.seq (.region [⟨some s147, .indexSl 1 (.t s143) (.t s145), none⟩,
 xl s150 s147,
 xm s017 s150])
 (.seq (.region [⟨some s020, .move (.c (.int .u8 0)), none⟩])
 (.seq (.block 5
 (.seq (.region [xm s153 s017,
 ⟨some s154, .bin .eql (.t s153) (.c (.int .u8 95)), none⟩,
 xm s155 s154,
 ⟨some s156, .move (.t s010), some (s155, true)⟩,
 ⟨some s157, .pick (.t s155) (.t s156) (.c (.bool false)), none⟩,
 xm s152 s157])
 (.cond (.t s152)
 (.seq (.region [⟨some s014, .move (.c (.bool true)), none⟩])
 (.exit 4))
 (.seq (.region [xm s161 s017,
 ⟨some s162, .bin .leq (.c (.int .u8 48)) (.t s161), none⟩,
 xm s163 s162,
 ⟨some s164, .move (.t s017), some (s163, true)⟩,
 ⟨some s165, .bin .leq (.t s164) (.c (.int .u8 57)), some (s163, true)⟩,
 ⟨some s166, .pick (.t s163) (.t s165) (.c (.bool false)), none⟩,
 xm s160 s166])
 (.cond (.t s160)
 (.region [xm s167 s017,
 ⟨some s170, .bin .sub (.t s167) (.c (.int .u8 48)), none⟩,
 xm s020 s170])
 (.seq (.region [xm s172 s017,
 ⟨some s173, .call 101 [(.t s172)], none⟩,
 ⟨some s174, .bin .leq (.c (.int .u8 97)) (.t s173), none⟩,
 xm s175 s174,
 ⟨some s176, .move (.t s017), some (s175, true)⟩,
 ⟨some s177, .call 101 [(.t s176)], some (s175, true)⟩,
 ⟨some s200, .bin .leq (.t s177) (.c (.int .u8 122)), some (s175, true)⟩,
 ⟨some s201, .pick (.t s175) (.t s200) (.c (.bool false)), none⟩,
 xm s171 s201])
 (.cond (.t s171)
 (.region [xm s202 s017,
 ⟨some s203, .call 101 [(.t s202)], none⟩,
 ⟨some s204, .bin .sub (.t s203) (.c (.int .u8 97)), none⟩,
 ⟨some s205, .bin .add (.t s204) (.c (.int .u8 10)), none⟩,
 xm s020 s205])
 (.seq (.region [⟨some s151, .dead, none⟩,
 ⟨some s006, .move (.c (.int .u64 0)), none⟩,
 xm s007 s151])
 (.ret)))))))))
 (.seq (.seq (.region [xm s206 s020,
 xm s207 s001,
 ⟨some s210, .convInt .u8 (.t s207), none⟩,
 ⟨some s211, .bin .geq (.t s206) (.t s210), none⟩])
 (.cond (.t s211)
 (.seq (.region [⟨some s212, .dead, none⟩,
 ⟨some s006, .move (.c (.int .u64 0)), none⟩,
 xm s007 s212])
 (.ret))
 (.skip)))
 (.seq (.seq (.region [xm s213 s015,
 xm s214 s012,
 ⟨some s215, .bin .geq (.t s213) (.t s214), none⟩])
 (.cond (.t s215)
 (.seq (.region [xm s216 s013,
 ⟨some s217, .dead, none⟩,
 xm s006 s216,
 xm s007 s217])
 (.ret))
 (.skip)))
 (.seq (.region [xm s220 s015,
 xm s221 s001,
 ⟨some s222, .convInt .u64 (.t s221), none⟩,
 ⟨some s223, .bin .mul (.t s220) (.t s222), none⟩,
 xm s015 s223])
 (.seq (.region [xm s224 s015,
 xm s225 s020,
 ⟨some s226, .convInt .u64 (.t s225), none⟩,
 ⟨some s227, .bin .add (.t s224) (.t s226), none⟩,
 xm s021 s227])
 (.seq (.seq (.region [xm s230 s021,
 xm s231 s015,
 ⟨some s232, .bin .lss (.t s230) (.t s231), none⟩,
 xm s233 s232,
 ⟨some s234, .move (.t s021), some (s233, false)⟩,
 ⟨some s235, .move (.t s013), some (s233, false)⟩,
 ⟨some s236, .bin .gtr (.t s234) (.t s235), some (s233, false)⟩,
 ⟨some s237, .pick (.t s233) (.c (.bool true)) (.t s236), none⟩])
 (.cond (.t s237)
 (.seq (.region [xm s240 s013,
 ⟨some s241, .dead, none⟩,
 xm s006 s240,
 xm s007 s241])
 (.ret))
 (.skip)))
 (.region [xm s242 s021,
 xm s015 s242]))))))))))
 (.region [⟨some s243, .bin .add (.t s145) (.c (.int .i64 1)), none⟩,
 xm s145 s243])))))))
 (.seq (.seq (.region [xm s244 s014,
 xm s245 s244,
 ⟨some s246, .move (.t s011), some (s245, true)⟩,
 ⟨some s247, .call 102 [(.t s246)], some (s245, true)⟩,
 ⟨some s250, .un .not (.t s247), some (s245, true)⟩,
 ⟨some s251, .pick (.t s245) (.t s250) (.c (.bool false)), none⟩])
 (.cond (.t s251)
 (.seq (.region [⟨some s252, .dead, none⟩,
 ⟨some s006, .move (.c (.int .u64 0)), none⟩,
 xm s007 s252])
 (.ret))
 (.skip)))
 (.seq (.region [xm s253 s015,
 xm s006 s253,
 ⟨some s007, .move (.c (.nilIface)), none⟩])
 (.ret))))))))))))))
def r_strconv_ParseUint_1 : List XR := [.tmp s006, .tmp s007]
theorem ok_strconv_ParseUint_1 : okC Tryz.prog Tryz.f94.ntmps (bodyOf Tryz.f94) x_strconv_ParseUint_1 = true := by kernel_rfl
theorem okr_strconv_ParseUint_1 : okRs Tryz.prog Tryz.f94.results.toList r_strconv_ParseUint_1 = true := by kernel_rfl

/-- strconv.toError -/
def x_strconv_toError : XC :=
 .seq (.region [⟨some s012, .move (.c (.nilIface)), none⟩])
 (.seq (.seq (.region [xm s013 s004])
 (.block 0
 (.seq (.region [⟨some s015, .dead, none⟩,
 ⟨some s016, .dead, none⟩,
 xm s014 s016])
 (.cond (.t s014)
 (.seq (.region [xm s017 s000,
 xm s020 s001,
 ⟨some s021, .call 103 [(.t s017), (.t s020)], none⟩,
 ⟨some s022, .dead, none⟩,
 xm s012 s022])
 (.ret))
 (.seq (.region [⟨some s024, .dead, none⟩,
 ⟨some s025, .dead, none⟩,
 xm s023 s025])
 (.cond (.t s023)
 (.seq (.region [xm s026 s000,
 xm s027 s001,
 ⟨some s030, .call 104 [(.t s026), (.t s027)], none⟩,
 ⟨some s031, .dead, none⟩,
 xm s012 s031])
 (.ret))
 (.seq (.region [⟨some s033, .dead, none⟩,
 ⟨some s034, .dead, none⟩,
 xm s032 s034])
 (.cond (.t s032)
 (.seq (.region [xm s035 s000,
 xm s036 s001,
 xm s037 s002,
 ⟨some s040, .call 105 [(.t s035), (.t s036), (.t s037)], none⟩,
 ⟨some s041, .dead, none⟩,
 xm s012 s041])
 (.ret))
 (.seq (.region [⟨some s043, .dead, none⟩,
 ⟨some s044, .dead, none⟩,
 xm s042 s044])
 (.cond (.t s042)
 (.seq (.region [xm s045 s000,
 xm s046 s001,
 xm s047 s003,
 ⟨some s050, .call 106 [(.t s045), (.t s046), (.t s047)], none⟩,
 ⟨some s051, .dead, none⟩,
 xm s012 s051])
 (.ret))
 (.skip)))))))))))
 (.seq (.region [xm s052 s004,
 xm s012 s052])
 (.ret)))
def r_strconv_toError : List XR := [.tmp s012]
theorem ok_strconv_toError : okC Tryz.prog Tryz.f95.ntmps (bodyOf Tryz.f95) x_strconv_toError = true := by kernel_rfl
theorem okr_strconv_toError : okRs Tryz.prog Tryz.f95.results.toList r_strconv_toError = true := by kernel_rfl

/-- strconv.FormatUint -/
def x_strconv_FormatUint_1 : XC :=
 .seq (.region [⟨some s004, .move (.c (.string { data := #[] })), none⟩])
 (.seq (.seq (.region [xm s011 s001,
 ⟨some s012, .bin .eql (.t s011) (.c (.int .i64 10)), none⟩])
 (.cond (.t s012)
 (.seq (.seq (.region [xm s013 s000,
 ⟨some s014, .bin .lss (.t s013) (.c (.int .u64 100)), none⟩])
 (.cond (.t s014)
 (.seq (.region [xm s015 s000,
 ⟨some s016, .convInt .i64 (.t s015), none⟩,
 ⟨some s017, .call 73 [(.t s016)], none⟩,
 xm s004 s017])
 (.ret))
 (.skip)))
 (.seq (.region [⟨some s005, .alloc 0 zv107, none⟩])
 (.seq (.region [xm s020 s000,
 ⟨some s021, .call 74 [(.t s020)], none⟩,
 xm s006 s021])
 (.seq (.region [xm s022 s006,
 ⟨some s023, .dead, none⟩,
 xm s024 s000,
 ⟨some s025, .call 75 [(.t s023), (.t s024)], none⟩])
 (.seq (.region [xm s026 s006,
 ⟨some s027, .dead, none⟩,
 ⟨some s030, .b2s (.t s027), none⟩,
 xm s004 s030])
 (.ret))))))
 (.skip)))
 (.seq (.region [xm s032 s000,
 xm s033 s001,
 ⟨some s034, .call 76 [(.c (.slice none 0 0)), (.t s032), (.t s033), (.c (.bool false)), (.c (.bool false))], none⟩,
 xm s031 s034,
 ⟨some s035, .extract 0 (.t s031), none⟩,
 ⟨some s036, .extract 1 (.t s031), none⟩,
 xm s007 s035,
 xm s010 s036])
 (.seq (.region [xm s037 s010,
 xm s004 s037])
 (.ret))))
def r_strconv_FormatUint_1 : List XR := [.tmp s004]
theorem ok_strconv_FormatUint_1 : okC Tryz.prog Tryz.f96.ntmps (bodyOf Tryz.f96) x_strconv_FormatUint_1 = true := by kernel_rfl
theorem okr_strconv_FormatUint_1 : okRs Tryz.prog Tryz.f96.results.toList r_strconv_FormatUint_1 = true := by kernel_rfl

/-- bytealg.hashStr -/
def x_bytealg_hashStr_string : XC :=
 .seq (.region [⟨some s002, .move (.c (.int .u32 0)), none⟩,
 ⟨some s003, .move (.c (.int .u32 0)), none⟩])
 (.seq (.region [⟨some s004, .move (.c (.int .u32 0)), none⟩])
 (.seq (.seq (.region [⟨some s005, .move (.c (.int .i64 0)), none⟩])
 (.block 0
 (.loop
 (.seq (.seq (.region [xm s011 s005,
 xm s012 s000,
 ⟨some s013, .slen (.t s012), none⟩,
 ⟨some s014, .bin .lss (.t s011) (.t s013), none⟩])
 (.cond (.t s014)
 (.skip)
 (.exit 0)))
 (.seq (.block 1
 (.region [xm s017 s004,
 ⟨some s020, .bin .mul (.t s017) (.c (.int .u32 16777619)), none⟩,
 xm s021 s000,
 xm s022 s005,
 ⟨some s023, .strAt (.t s021) (.t s022), none⟩,
 ⟨some s024, .convInt .u32 (.t s023), none⟩,
 ⟨some s025, .bin .add (.t s020) (.t s024), none⟩,
 xm s004 s025]))
 (.region [xm s015 s005,
 ⟨some s016, .bin .add (.t s015) (.c (.int .i64 1)), none⟩,
 xm s005 s016]))))))
 (.seq (.region [⟨some s006, .move (.c (.int .u32 1)), none⟩,
 ⟨some s007, .move (.c (.int .u32 16777619)), none⟩])
 (.seq (.seq (.region [xm s026 s000,
 ⟨some s027, .slen (.t s026), none⟩,
 xm s010 s027])
 (.block 2
 (.loop
 (.seq (.seq (.region [xm s030 s010,
 ⟨some s031, .bin .gtr (.t s030) (.c (.int .i64 0)), none⟩])
 (.cond (.t s031)
 (.skip)
 (.exit 2)))
 (.seq (.block 3
 (.seq (.seq (.region [xm s034 s010,
 ⟨some s035, .bin .and (.t s034) (.c (.int .i64 1)), none⟩,
 ⟨some s036, .bin .neq (.t s035) (.c (.int .i64 0)), none⟩])
 (.cond (.t s036)
 (.region [xm s037 s006,
 xm s040 s007,
 ⟨some s041, .bin .mul (.t s037) (.t s040), none⟩,
 xm s006 s041])
 (.skip)))
 (.region [xm s042 s007,
 xm s043 s007,
 ⟨some s044, .bin .mul (.t s042) (.t s043), none⟩,
 xm s007 s044])))
 (.region [xm s032 s010,
 ⟨some s033, .bin .shr (.t s032) (.c (.int .u64 1)), none⟩,
 xm s010 s033]))))))
 (.seq (.region [xm s045 s004,
 xm s046 s006,
 xm s002 s045,
 xm s003 s046])
 (.ret))))))
def r_bytealg_hashStr_string : List XR := [.tmp s002, .tmp s003]
theorem ok_bytealg_hashStr_string : okC Tryz.prog Tryz.f98.ntmps (bodyOf Tryz.f98) x_bytealg_hashStr_string = true := by kernel_rfl
theorem okr_bytealg_hashStr_string : okRs Tryz.prog Tryz.f98.results.toList r_bytealg_hashStr_string = true := by kernel_rfl

/-- bits.TrailingZeros32 -/
def x_bits_TrailingZeros32 : XC :=
 .seq (.region [⟨some s002, .move (.c (.int .i64 0)), none⟩])
 (.seq (.seq (.region [xm s003 s000,
 ⟨some s004, .bin .eql (.t s003) (.c (.int .u32 0)), none⟩])
 (.cond (.t s004)
 (.seq (.region [⟨some s002, .move (.c (.int .i64 32)), none⟩])
 (.ret))
 (.skip)))
 (.seq (.region [xm s005 s000,
 xm s006 s000,
 ⟨some s007, .un .neg (.t s006), none⟩,
 ⟨some s010, .bin .and (.t s005) (.t s007), none⟩,
 ⟨some s011, .bin .mul (.t s010) (.c (.int .u32 125613361)), none⟩,
 ⟨some s012, .bin .shr (.t s011) (.c (.int .u64 27)), none⟩,
 ⟨some s013, .gidx 1 32 4 (.t s012), none⟩,
 xl s014 s013,
 ⟨some s015, .convInt .i64 (.t s014), none⟩,
 xm s002 s015])
 (.ret)))
def r_bits_TrailingZeros32 : List XR := [.tmp s002]
theorem ok_bits_TrailingZeros32 : okC Tryz.prog Tryz.f99.ntmps (bodyOf Tryz.f99) x_bits_TrailingZeros32 = true := by kernel_rfl
theorem okr_bits_TrailingZeros32 : okRs Tryz.prog Tryz.f99.results.toList r_bits_TrailingZeros32 = true := by kernel_rfl

/-- bits.TrailingZeros64 -/
def x_bits_TrailingZeros64 : XC :=
 .seq (.region [⟨some s002, .move (.c (.int .i64 0)), none⟩])
 (.seq (.seq (.region [xm s003 s000,
 ⟨some s004, .bin .eql (.t s003) (.c (.int .u64 0)), none⟩])
 (.cond (.t s004)
 (.seq (.region [⟨some s002, .move (.c (.int .i64 64)), none⟩])
 (.ret))
 (.skip)))
 (.seq (.region [xm s005 s000,
 xm s006 s000,
 ⟨some s007, .un .neg (.t s006), none⟩,
 ⟨some s010, .bin .and (.t s005) (.t s007), none⟩,
 ⟨some s011, .bin .mul (.t s010) (.c (.int .u64 285870213051353865)), none⟩,
 ⟨some s012, .bin .shr (.t s011) (.c (.int .u64 58)), none⟩,
 ⟨some s013, .gidx 1 64 5 (.t s012), none⟩,
 xl s014 s013,
 ⟨some s015, .convInt .i64 (.t s014), none⟩,
 xm s002 s015])
 (.ret)))
def r_bits_TrailingZeros64 : List XR := [.tmp s002]
theorem ok_bits_TrailingZeros64 : okC Tryz.prog Tryz.f100.ntmps (bodyOf Tryz.f100) x_bits_TrailingZeros64 = true := by kernel_rfl
theorem okr_bits_TrailingZeros64 : okRs Tryz.prog Tryz.f100.results.toList r_bits_TrailingZeros64 = true := by kernel_rfl

/-- strconv.lower -/
def x_strconv_lower : XC :=
 .seq (.region [⟨some s002, .move (.c (.int .u8 0)), none⟩])
 (.seq (.region [xm s003 s000,
 ⟨some s004, .bin .or (.t s003) (.c (.int .u8 32)), none⟩,
 xm s002 s004])
 (.ret))
def r_strconv_lower : List XR := [.tmp s002]
theorem ok_strconv_lower : okC Tryz.prog Tryz.f101.ntmps (bodyOf Tryz.f101) x_strconv_lower = true := by kernel_rfl
theorem okr_strconv_lower : okRs Tryz.prog Tryz.f101.results.toList r_strconv_lower = true := by kernel_rfl

/-- strconv.underscoreOK -/
def x_strconv_underscoreOK : XC :=
 .seq (.region [⟨some s002, .move (.c (.bool false)), none⟩])
 (.seq (.region [⟨some s003, .move (.c (.int .i32 94)), none⟩])
 (.seq (.region [⟨some s004, .move (.c (.int .i64 0)), none⟩])
 (.seq (.seq (.region [xm s006 s000,
 ⟨some s007, .slen (.t s006), none⟩,
 ⟨some s010, .bin .geq (.t s007) (.c (.int .i64 1)), none⟩,
 xm s011 s010,
 ⟨some s012, .move (.t s000), some (s011, true)⟩,
 ⟨some s013, .strAt (.t s012) (.c (.int .i64 0)), some (s011, true)⟩,
 ⟨some s014, .bin .eql (.t s013) (.c (.int .u8 45)), some (s011, true)⟩,
 ⟨some s015, .move (.t s014), some (s011, true)⟩,
 ⟨some s016, .move (.t s000), some (s015, false)⟩,
 ⟨some s017, .strAt (.t s016) (.c (.int .i64 0)), some (s015, false)⟩,
 ⟨some s020, .bin .eql (.t s017) (.c (.int .u8 43)), some (s015, false)⟩,
 ⟨some s021, .pick (.t s015) (.c (.bool true)) (.t s020), some (s011, true)⟩,
 ⟨some s022, .pick (.t s011) (.t s021) (.c (.bool false)), none⟩])
 (.cond (.t s022)
 (.region [xm s023 s000,
 ⟨some s024, .substr (.t s023) (some (.c (.int .i64 1))) none, none⟩,
 xm s000 s024])
 (.skip)))
 (.seq (.region [⟨some s005, .move (.c (.bool false)), none⟩])
 (.seq (.seq (.region [xm s025 s000,
 ⟨some s026, .slen (.t s025), none⟩,
 ⟨some s027, .bin .geq (.t s026) (.c (.int .i64 2)), none⟩,
 xm s030 s027,
 ⟨some s031, .move (.t s000), some (s030, true)⟩,
 ⟨some s032, .strAt (.t s031) (.c (.int .i64 0)), some (s030, true)⟩,
 ⟨some s033, .bin .eql (.t s032) (.c (.int .u8 48)), some (s030, true)⟩,
 ⟨some s034, .pick (.t s030) (.t s033) (.c (.bool false)), none⟩,
 xm s035 s034,
 ⟨some s036, .move (.t s000), some (s035, true)⟩,
 ⟨some s037, .strAt (.t s036) (.c (.int .i64 1)), some (s035, true)⟩,
 ⟨some s040, .call 101 [(.t s037)], some (s035, true)⟩,
 ⟨some s041, .bin .eql (.t s040) (.c (.int .u8 98)), some (s035, true)⟩,
 ⟨some s042, .move (.t s041), some (s035, true)⟩,
 ⟨some s043, .move (.t s000), some (s042, false)⟩,
 ⟨some s044, .strAt (.t s043) (.c (.int .i64 1)), some (s042, false)⟩,
 ⟨some s045, .call 101 [(.t s044)], some (s042, false)⟩,
 ⟨some s046, .bin .eql (.t s045) (.c (.int .u8 111)), some (s042, false)⟩,
 ⟨some s047, .pick (.t s042) (.c (.bool true)) (.t s046), some (s035, true)⟩,
 ⟨some s050, .move (.t s047), some (s035, true)⟩,
 ⟨some s051, .move (.t s000), some (s050, false)⟩,
 ⟨some s052, .strAt (.t s051) (.c (.int .i64 1)), some (s050, false)⟩,
 ⟨some s053, .call 101 [(.t s052)], some (s050, false)⟩,
 ⟨some s054, .bin .eql (.t s053) (.c (.int .u8 120)), some (s050, false)⟩,
 ⟨some s055, .pick (.t s050) (.c (.bool true)) (.t s054), some (s035, true)⟩,
 ⟨some s056, .pick (.t s035) (.t s055) (.c (.bool false)), none⟩])
 (.cond (.t s056)
 (.seq (.region [⟨some s004, .move (.c (.int .i64 2)), none⟩])
 (.seq (.region [⟨some s003, .move (.c (.int .i32 48)), none⟩])
 (.region [xm s057 s000,
 ⟨some s060, .strAt (.t s057) (.c (.int .i64 1)), none⟩,
 ⟨some s061, .call 101 [(.t s060)], none⟩,
 ⟨some s062, .bin .eql (.t s061) (.c (.int .u8 120)), none⟩,
 xm s005 s062])))
 (.skip)))
 (.seq (.block 0
 (.loop
 (.seq (.seq (.region [xm s063 s004,
 xm s064 s000,
 ⟨some s065, .slen (.t s064), none⟩,
 ⟨some s066, .bin .lss (.t s063) (.t s065), none⟩])
 (.cond (.t s066)
 (.skip)
 (.exit 0)))
 (.seq (.block 1
 (.seq (.seq (.region [xm s071 s000,
 xm s072 s004,
 ⟨some s073, .strAt (.t s071) (.t s072), none⟩,
 ⟨some s074, .bin .leq (.c (.int .u8 48)) (.t s073), none⟩,
 xm s075 s074,
 ⟨some s076, .move (.t s000), some (s075, true)⟩,
 ⟨some s077, .move (.t s004), some (s075, true)⟩,
 ⟨some s100, .strAt (.t s076) (.t s077), some (s075, true)⟩,
 ⟨some s101, .bin .leq (.t s100) (.c (.int .u8 57)), some (s075, true)⟩,
 ⟨some s102, .pick (.t s075) (.t s101) (.c (.bool false)), none⟩,
 xm s103 s102,
 ⟨some s104, .move (.t s005), some (s103, false)⟩,
 ⟨some s105, .move (.t s104), some (s103, false)⟩,
 ⟨some s106, .move (.t s000), some (s105, true)⟩,
 ⟨some s107, .move (.t s004), some (s105, true)⟩,
 ⟨some s110, .strAt (.t s106) (.t s107), some (s105, true)⟩,
 ⟨some s111, .call 101 [(.t s110)], some (s105, true)⟩,
 ⟨some s112, .bin .leq (.c (.int .u8 97)) (.t s111), some (s105, true)⟩,
 ⟨some s113, .pick (.t s105) (.t s112) (.c (.bool false)), some (s103, false)⟩,
 ⟨some s114, .move (.t s113), some (s103, false)⟩,
 ⟨some s115, .move (.t s000), some (s114, true)⟩,
 ⟨some s116, .move (.t s004), some (s114, true)⟩,
 ⟨some s117, .strAt (.t s115) (.t s116), some (s114, true)⟩,
 ⟨some s120, .call 101 [(.t s117)], some (s114, true)⟩,
 ⟨some s121, .bin .leq (.t s120) (.c (.int .u8 102)), some (s114, true)⟩,
 ⟨some s122, .pick (.t s114) (.t s121) (.c (.bool false)), some (s103, false)⟩,
 ⟨some s123, .pick (.t s103) (.c (.bool true)) (.t s122), none⟩])
 (.cond (.t s123)
 (.seq (.region [⟨some s003, .move (.c (.int .i32 48)), none⟩])
 (.exit 1))
 (.skip)))
 (.seq (.seq (.region [xm s124 s000,
 xm s125 s004,
 ⟨some s126, .strAt (.t s124) (.t s125), none⟩,
 ⟨some s127, .bin .eql (.t s126) (.c (.int .u8 95)), none⟩])
 (.cond (.t s127)
 (.seq (.seq (.region [xm s130 s003,
 ⟨some s131, .bin .neq (.t s130) (.c (.int .i32 48)), none⟩])
 (.cond (.t s131)
 (.seq (.region [⟨some s002, .move (.c (.bool false)), none⟩])
 (.ret))
 (.skip)))
 (.seq (.region [⟨some s003, .move (.c (.int .i32 95)), none⟩])
 (.exit 1)))
 (.skip)))
 (.seq (.seq (.region [xm s132 s003,
 ⟨some s133, .bin .eql (.t s132) (.c (.int .i32 95)), none⟩])
 (.cond (.t s133)
 (.seq (.region [⟨some s002, .move (.c (.bool false)), none⟩])
 (.ret))
 (.skip)))
 (.region [⟨some s003, .move (.c (.int .i32 33)), none⟩])))))
 (.region [xm s067 s004,
 ⟨some s070, .bin .add (.t s067) (.c (.int .i64 1)), none⟩,
 xm s004 s070])))))
 (.seq (.region [xm s134 s003,
 ⟨some s135, .bin .neq (.t s134) (.c (.int .i32 95)), none⟩,
 xm s002 s135])
 (.ret))))))))
def r_strconv_underscoreOK : List XR := [.tmp s002]
theorem ok_strconv_underscoreOK : okC Tryz.prog Tryz.f102.ntmps (bodyOf Tryz.f102) x_strconv_underscoreOK = true := by kernel_rfl
theorem okr_strconv_underscoreOK : okRs Tryz.prog Tryz.f102.results.toList r_strconv_underscoreOK = true := by kernel_rfl

/-- strconv.syntaxError -/
def x_strconv_syntaxError : XC :=
 .seq (.region [⟨some s004, .move (.c (.pointer none)), none⟩])
 (.seq (.regionD [0, 0, 2, 0, 15, 31, 63] [xm s005 s000,
 xm s006 s001,
 ⟨some s007, .call 107 [(.t s006)], none⟩,
 ⟨some s010, .load false 1 .g, none⟩,
 ⟨some s011, .build [.string { data := #[] }, .string { data := #[] }, .nilIface] [(0, 1, (.t s005)), (1, 1, (.t s007)), (2, 1, (.t s010))], none⟩,
 ⟨some s012, .box 0 3 (.t s011), none⟩,
 xm s004 s012])
 (.ret))
def r_strconv_syntaxError : List XR := [.tmp s004]
theorem ok_strconv_syntaxError : okC Tryz.prog Tryz.f103.ntmps (bodyOf Tryz.f103) x_strconv_syntaxError = true := by kernel_rfl
theorem okr_strconv_syntaxError : okRs Tryz.prog Tryz.f103.results.toList r_strconv_syntaxError = true := by kernel_rfl

/-- strconv.rangeError -/
def x_strconv_rangeError : XC :=
 .seq (.region [⟨some s004, .move (.c (.pointer none)), none⟩])
 (.seq (.regionD [0, 0, 2, 0, 15, 31, 63] [xm s005 s000,
 xm s006 s001,
 ⟨some s007, .call 107 [(.t s006)], none⟩,
 ⟨some s010, .load false 1 .g, none⟩,
 ⟨some s011, .build [.string { data := #[] }, .string { data := #[] }, .nilIface] [(0, 1, (.t s005)), (1, 1, (.t s007)), (2, 1, (.t s010))], none⟩,
 ⟨some s012, .box 0 3 (.t s011), none⟩,
 xm s004 s012])
 (.ret))
def r_strconv_rangeError : List XR := [.tmp s004]
theorem ok_strconv_rangeError : okC Tryz.prog Tryz.f104.ntmps (bodyOf Tryz.f104) x_strconv_rangeError = true := by kernel_rfl
theorem okr_strconv_rangeError : okRs Tryz.prog Tryz.f104.results.toList r_strconv_rangeError = true := by kernel_rfl

/-- strconv.baseError -/
def x_strconv_baseError : XC :=
 .seq (.region [⟨some s006, .move (.c (.pointer none)), none⟩])
 (.seq (.region [xm s007 s000,
 xm s010 s001,
 ⟨some s011, .call 107 [(.t s010)], none⟩,
 xm s012 s002,
 ⟨some s013, .call 15 [(.t s012)], none⟩,
 ⟨some s014, .sbin .add (.c (.string { data := #[105, 110, 118, 97, 108, 105, 100, 32, 98, 97, 115, 101, 32] })) (.t s013), none⟩,
 ⟨some s015, .call 108 [(.t s014)], none⟩,
 ⟨some s016, .build [.string { data := #[] }, .string { data := #[] }, .nilIface] [(0, 1, (.t s007)), (1, 1, (.t s011)), (2, 1, (.t s015))], none⟩,
 ⟨some s017, .box 0 3 (.t s016), none⟩,
 xm s006 s017])
 (.ret))
def r_strconv_baseError : List XR := [.tmp s006]
theorem ok_strconv_baseError : okC Tryz.prog Tryz.f105.ntmps (bodyOf Tryz.f105) x_strconv_baseError = true := by kernel_rfl
theorem okr_strconv_baseError : okRs Tryz.prog Tryz.f105.results.toList r_strconv_baseError = true := by kernel_rfl

/-- strconv.bitSizeError -/
def x_strconv_bitSizeError : XC :=
 .seq (.region [⟨some s006, .move (.c (.pointer none)), none⟩])
 (.seq (.region [xm s007 s000,
 xm s010 s001,
 ⟨some s011, .call 107 [(.t s010)], none⟩,
 xm s012 s002,
 ⟨some s013, .call 15 [(.t s012)], none⟩,
 ⟨some s014, .sbin .add (.c (.string { data := #[105, 110, 118, 97, 108, 105, 100, 32, 98, 105, 116, 32, 115, 105, 122, 101, 32] })) (.t s013), none⟩,
 ⟨some s015, .call 108 [(.t s014)], none⟩,
 ⟨some s016, .build [.string { data := #[] }, .string { data := #[] }, .nilIface] [(0, 1, (.t s007)), (1, 1, (.t s011)), (2, 1, (.t s015))], none⟩,
 ⟨some s017, .box 0 3 (.t s016), none⟩,
 xm s006 s017])
 (.ret))
def r_strconv_bitSizeError : List XR := [.tmp s006]
theorem ok_strconv_bitSizeError : okC Tryz.prog Tryz.f106.ntmps (bodyOf Tryz.f106) x_strconv_bitSizeError = true := by kernel_rfl
theorem okr_strconv_bitSizeError : okRs Tryz.prog Tryz.f106.results.toList r_strconv_bitSizeError = true := by kernel_rfl

/-- stringslite.Clone -/
def x_stringslite_Clone : XC :=
 .seq (.region [⟨some s002, .move (.c (.string { data := #[] })), none⟩])
 (.seq (.seq (.region [xm s004 s000,
 ⟨some s005, .slen (.t s004), none⟩,
 ⟨some s006, .bin .eql (.t s005) (.c (.int .i64 0)), none⟩])
 (.cond (.t s006)
 (.seq (.region [⟨some s002, .move (.c (.string { data := #[] })), none⟩])
 (.ret))
 (.skip)))
 (.seq (.region [xm s007 s000,
 ⟨some s010, .slen (.t s007), none⟩,
 ⟨some s011, .makeSlice 0 1 [.int .u8 0] (.t s010) (.t s010), none⟩,
 xm s003 s011])
 (.seq (.region [xm s012 s003,
 xm s013 s000,
 ⟨some s014, .dead, none⟩])
 (.seq (.region [xm s015 s003,
 ⟨some s016, .indexSl 1 (.t s015) (.c (.int .i64 0)), none⟩,
 xm s017 s003,
 ⟨some s020, .len (.t s017), none⟩,
 ⟨some s021, .dead, none⟩,
 xm s002 s021])
 (.ret)))))
def r_stringslite_Clone : List XR := [.tmp s002]
theorem ok_stringslite_Clone : okC Tryz.prog Tryz.f107.ntmps (bodyOf Tryz.f107) x_stringslite_Clone = true := by kernel_rfl
theorem okr_stringslite_Clone : okRs Tryz.prog Tryz.f107.results.toList r_stringslite_Clone = true := by kernel_rfl

/-- errors.New -/
def x_errors_New : XC :=
 .seq (.region [⟨some s002, .move (.c (.nilIface)), none⟩])
 (.seq (.region [xm s003 s000,
 ⟨some s004, .build [.string { data := #[] }] [(0, 1, (.t s003))], none⟩,
 ⟨some s005, .box 0 1 (.t s004), none⟩,
 ⟨some s006, .dead, none⟩,
 xm s002 s006])
 (.ret))
def r_errors_New : List XR := [.tmp s002]
theorem ok_errors_New : okC Tryz.prog Tryz.f108.ntmps (bodyOf Tryz.f108) x_errors_New = true := by kernel_rfl
theorem okr_errors_New : okRs Tryz.prog Tryz.f108.results.toList r_errors_New = true := by kernel_rfl
end Go.Proofs.YtbcamncabckbnaaGreatDoor
