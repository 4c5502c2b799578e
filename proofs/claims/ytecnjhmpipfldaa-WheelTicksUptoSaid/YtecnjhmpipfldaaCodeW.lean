/-
  The functions of the program in short form, and that the model's code is what they stand for. Printed by xgen.py.
-/
import Derived.Test.YtecnjhmpipfldaaFw
import Derived.Test.YtecnjhmpipfldaaProg
import Derived.KernelRfl
namespace Go.Proofs.Ytecnjhmpipfldaa
set_option linter.unusedVariables false
set_option maxRecDepth 100000

def zv_api_Wheel : List Value := [.int .i64 0] ++ List.replicate 96 (.slice none 0 0)
abbrev xm (a b : Sl) : XOp := ⟨some a, .move (.t b), none⟩
abbrev xl (a b : Sl) : XOp := ⟨some a, .load false 1 (.t b), none⟩
abbrev xf (n : Nat) (a b : Sl) : XOp := ⟨some a, .fieldAddr n (.t b), none⟩
/-! The slots by name. -/
abbrev s000 : Sl := ⟨.d0, .d0, .d0⟩
abbrev s001 : Sl := ⟨.d0, .d0, .d1⟩
abbrev s002 : Sl := ⟨.d0, .d0, .d2⟩
abbrev s003 : Sl := ⟨.d0, .d0, .d3⟩
abbrev s004 : Sl := ⟨.d0, .d0, .d4⟩
abbrev s005 : Sl := ⟨.d0, .d0, .d5⟩
abbrev s006 : Sl := ⟨.d0, .d0, .d6⟩
abbrev s007 : Sl := ⟨.d0, .d0, .d7⟩
abbrev s010 : Sl := ⟨.d0, .d1, .d0⟩
abbrev s011 : Sl := ⟨.d0, .d1, .d1⟩
abbrev s012 : Sl := ⟨.d0, .d1, .d2⟩
abbrev s013 : Sl := ⟨.d0, .d1, .d3⟩
abbrev s014 : Sl := ⟨.d0, .d1, .d4⟩
abbrev s015 : Sl := ⟨.d0, .d1, .d5⟩
abbrev s016 : Sl := ⟨.d0, .d1, .d6⟩
abbrev s017 : Sl := ⟨.d0, .d1, .d7⟩
abbrev s020 : Sl := ⟨.d0, .d2, .d0⟩
abbrev s021 : Sl := ⟨.d0, .d2, .d1⟩
abbrev s022 : Sl := ⟨.d0, .d2, .d2⟩
abbrev s023 : Sl := ⟨.d0, .d2, .d3⟩
abbrev s024 : Sl := ⟨.d0, .d2, .d4⟩
abbrev s025 : Sl := ⟨.d0, .d2, .d5⟩
abbrev s026 : Sl := ⟨.d0, .d2, .d6⟩
abbrev s027 : Sl := ⟨.d0, .d2, .d7⟩
abbrev s030 : Sl := ⟨.d0, .d3, .d0⟩
abbrev s031 : Sl := ⟨.d0, .d3, .d1⟩
abbrev s032 : Sl := ⟨.d0, .d3, .d2⟩
abbrev s033 : Sl := ⟨.d0, .d3, .d3⟩
abbrev s034 : Sl := ⟨.d0, .d3, .d4⟩
abbrev s035 : Sl := ⟨.d0, .d3, .d5⟩
abbrev s036 : Sl := ⟨.d0, .d3, .d6⟩
abbrev s037 : Sl := ⟨.d0, .d3, .d7⟩
abbrev s040 : Sl := ⟨.d0, .d4, .d0⟩
abbrev s041 : Sl := ⟨.d0, .d4, .d1⟩
abbrev s042 : Sl := ⟨.d0, .d4, .d2⟩
abbrev s043 : Sl := ⟨.d0, .d4, .d3⟩
abbrev s044 : Sl := ⟨.d0, .d4, .d4⟩
abbrev s045 : Sl := ⟨.d0, .d4, .d5⟩
abbrev s046 : Sl := ⟨.d0, .d4, .d6⟩
abbrev s047 : Sl := ⟨.d0, .d4, .d7⟩
abbrev s050 : Sl := ⟨.d0, .d5, .d0⟩
abbrev s051 : Sl := ⟨.d0, .d5, .d1⟩
abbrev s052 : Sl := ⟨.d0, .d5, .d2⟩
abbrev s053 : Sl := ⟨.d0, .d5, .d3⟩
abbrev s054 : Sl := ⟨.d0, .d5, .d4⟩
abbrev s055 : Sl := ⟨.d0, .d5, .d5⟩
abbrev s056 : Sl := ⟨.d0, .d5, .d6⟩
abbrev s057 : Sl := ⟨.d0, .d5, .d7⟩
abbrev s060 : Sl := ⟨.d0, .d6, .d0⟩
abbrev s061 : Sl := ⟨.d0, .d6, .d1⟩
abbrev s062 : Sl := ⟨.d0, .d6, .d2⟩
abbrev s063 : Sl := ⟨.d0, .d6, .d3⟩
abbrev s064 : Sl := ⟨.d0, .d6, .d4⟩
abbrev s065 : Sl := ⟨.d0, .d6, .d5⟩
abbrev s066 : Sl := ⟨.d0, .d6, .d6⟩
abbrev s067 : Sl := ⟨.d0, .d6, .d7⟩
abbrev s070 : Sl := ⟨.d0, .d7, .d0⟩
abbrev s071 : Sl := ⟨.d0, .d7, .d1⟩
abbrev s072 : Sl := ⟨.d0, .d7, .d2⟩
abbrev s073 : Sl := ⟨.d0, .d7, .d3⟩
abbrev s074 : Sl := ⟨.d0, .d7, .d4⟩
abbrev s075 : Sl := ⟨.d0, .d7, .d5⟩
abbrev s076 : Sl := ⟨.d0, .d7, .d6⟩
abbrev s077 : Sl := ⟨.d0, .d7, .d7⟩
abbrev s100 : Sl := ⟨.d1, .d0, .d0⟩
abbrev s101 : Sl := ⟨.d1, .d0, .d1⟩
abbrev s102 : Sl := ⟨.d1, .d0, .d2⟩
abbrev s103 : Sl := ⟨.d1, .d0, .d3⟩
abbrev s104 : Sl := ⟨.d1, .d0, .d4⟩
abbrev s105 : Sl := ⟨.d1, .d0, .d5⟩
abbrev s106 : Sl := ⟨.d1, .d0, .d6⟩
abbrev s107 : Sl := ⟨.d1, .d0, .d7⟩
abbrev s110 : Sl := ⟨.d1, .d1, .d0⟩
abbrev s111 : Sl := ⟨.d1, .d1, .d1⟩
abbrev s112 : Sl := ⟨.d1, .d1, .d2⟩
abbrev s113 : Sl := ⟨.d1, .d1, .d3⟩
abbrev s114 : Sl := ⟨.d1, .d1, .d4⟩
abbrev s115 : Sl := ⟨.d1, .d1, .d5⟩
abbrev s116 : Sl := ⟨.d1, .d1, .d6⟩
abbrev s117 : Sl := ⟨.d1, .d1, .d7⟩
abbrev s120 : Sl := ⟨.d1, .d2, .d0⟩
abbrev s121 : Sl := ⟨.d1, .d2, .d1⟩
abbrev s122 : Sl := ⟨.d1, .d2, .d2⟩
abbrev s123 : Sl := ⟨.d1, .d2, .d3⟩
abbrev s124 : Sl := ⟨.d1, .d2, .d4⟩
abbrev s125 : Sl := ⟨.d1, .d2, .d5⟩
abbrev s126 : Sl := ⟨.d1, .d2, .d6⟩
abbrev s127 : Sl := ⟨.d1, .d2, .d7⟩
abbrev s130 : Sl := ⟨.d1, .d3, .d0⟩
abbrev s131 : Sl := ⟨.d1, .d3, .d1⟩
abbrev s132 : Sl := ⟨.d1, .d3, .d2⟩
abbrev s133 : Sl := ⟨.d1, .d3, .d3⟩
abbrev s134 : Sl := ⟨.d1, .d3, .d4⟩
abbrev s135 : Sl := ⟨.d1, .d3, .d5⟩
abbrev s136 : Sl := ⟨.d1, .d3, .d6⟩
abbrev s137 : Sl := ⟨.d1, .d3, .d7⟩
abbrev s140 : Sl := ⟨.d1, .d4, .d0⟩
abbrev s141 : Sl := ⟨.d1, .d4, .d1⟩
abbrev s142 : Sl := ⟨.d1, .d4, .d2⟩
abbrev s143 : Sl := ⟨.d1, .d4, .d3⟩
abbrev s144 : Sl := ⟨.d1, .d4, .d4⟩
abbrev s145 : Sl := ⟨.d1, .d4, .d5⟩
abbrev s146 : Sl := ⟨.d1, .d4, .d6⟩
abbrev s147 : Sl := ⟨.d1, .d4, .d7⟩
abbrev s150 : Sl := ⟨.d1, .d5, .d0⟩
abbrev s151 : Sl := ⟨.d1, .d5, .d1⟩
abbrev s152 : Sl := ⟨.d1, .d5, .d2⟩
abbrev s153 : Sl := ⟨.d1, .d5, .d3⟩
abbrev s154 : Sl := ⟨.d1, .d5, .d4⟩
abbrev s155 : Sl := ⟨.d1, .d5, .d5⟩
abbrev s156 : Sl := ⟨.d1, .d5, .d6⟩
abbrev s157 : Sl := ⟨.d1, .d5, .d7⟩
abbrev s160 : Sl := ⟨.d1, .d6, .d0⟩
abbrev s161 : Sl := ⟨.d1, .d6, .d1⟩
abbrev s162 : Sl := ⟨.d1, .d6, .d2⟩
abbrev s163 : Sl := ⟨.d1, .d6, .d3⟩
abbrev s164 : Sl := ⟨.d1, .d6, .d4⟩
abbrev s165 : Sl := ⟨.d1, .d6, .d5⟩
abbrev s166 : Sl := ⟨.d1, .d6, .d6⟩
abbrev s167 : Sl := ⟨.d1, .d6, .d7⟩
abbrev s170 : Sl := ⟨.d1, .d7, .d0⟩
abbrev s171 : Sl := ⟨.d1, .d7, .d1⟩
abbrev s172 : Sl := ⟨.d1, .d7, .d2⟩
abbrev s173 : Sl := ⟨.d1, .d7, .d3⟩
abbrev s174 : Sl := ⟨.d1, .d7, .d4⟩
abbrev s175 : Sl := ⟨.d1, .d7, .d5⟩
abbrev s176 : Sl := ⟨.d1, .d7, .d6⟩
abbrev s177 : Sl := ⟨.d1, .d7, .d7⟩
abbrev s200 : Sl := ⟨.d2, .d0, .d0⟩
abbrev s201 : Sl := ⟨.d2, .d0, .d1⟩
abbrev s202 : Sl := ⟨.d2, .d0, .d2⟩
abbrev s203 : Sl := ⟨.d2, .d0, .d3⟩
abbrev s204 : Sl := ⟨.d2, .d0, .d4⟩
abbrev s205 : Sl := ⟨.d2, .d0, .d5⟩
abbrev s206 : Sl := ⟨.d2, .d0, .d6⟩
abbrev s207 : Sl := ⟨.d2, .d0, .d7⟩
abbrev s210 : Sl := ⟨.d2, .d1, .d0⟩
abbrev s211 : Sl := ⟨.d2, .d1, .d1⟩
abbrev s212 : Sl := ⟨.d2, .d1, .d2⟩
abbrev s213 : Sl := ⟨.d2, .d1, .d3⟩
abbrev s214 : Sl := ⟨.d2, .d1, .d4⟩
abbrev s215 : Sl := ⟨.d2, .d1, .d5⟩
abbrev s216 : Sl := ⟨.d2, .d1, .d6⟩
abbrev s217 : Sl := ⟨.d2, .d1, .d7⟩
abbrev s220 : Sl := ⟨.d2, .d2, .d0⟩
abbrev s221 : Sl := ⟨.d2, .d2, .d1⟩
abbrev s222 : Sl := ⟨.d2, .d2, .d2⟩
abbrev s223 : Sl := ⟨.d2, .d2, .d3⟩
abbrev s224 : Sl := ⟨.d2, .d2, .d4⟩
abbrev s225 : Sl := ⟨.d2, .d2, .d5⟩
abbrev s226 : Sl := ⟨.d2, .d2, .d6⟩
abbrev s227 : Sl := ⟨.d2, .d2, .d7⟩
abbrev s230 : Sl := ⟨.d2, .d3, .d0⟩
abbrev s231 : Sl := ⟨.d2, .d3, .d1⟩
abbrev s232 : Sl := ⟨.d2, .d3, .d2⟩
abbrev s233 : Sl := ⟨.d2, .d3, .d3⟩
abbrev s234 : Sl := ⟨.d2, .d3, .d4⟩
abbrev s235 : Sl := ⟨.d2, .d3, .d5⟩
abbrev s236 : Sl := ⟨.d2, .d3, .d6⟩
abbrev s237 : Sl := ⟨.d2, .d3, .d7⟩
abbrev s240 : Sl := ⟨.d2, .d4, .d0⟩
abbrev s241 : Sl := ⟨.d2, .d4, .d1⟩
abbrev s242 : Sl := ⟨.d2, .d4, .d2⟩
abbrev s243 : Sl := ⟨.d2, .d4, .d3⟩
abbrev s244 : Sl := ⟨.d2, .d4, .d4⟩
abbrev s245 : Sl := ⟨.d2, .d4, .d5⟩
abbrev s246 : Sl := ⟨.d2, .d4, .d6⟩
abbrev s247 : Sl := ⟨.d2, .d4, .d7⟩
abbrev s250 : Sl := ⟨.d2, .d5, .d0⟩
abbrev s251 : Sl := ⟨.d2, .d5, .d1⟩
abbrev s252 : Sl := ⟨.d2, .d5, .d2⟩
abbrev s253 : Sl := ⟨.d2, .d5, .d3⟩
abbrev s254 : Sl := ⟨.d2, .d5, .d4⟩
abbrev s255 : Sl := ⟨.d2, .d5, .d5⟩
abbrev s256 : Sl := ⟨.d2, .d5, .d6⟩
abbrev s257 : Sl := ⟨.d2, .d5, .d7⟩
abbrev s260 : Sl := ⟨.d2, .d6, .d0⟩
abbrev s261 : Sl := ⟨.d2, .d6, .d1⟩
abbrev s262 : Sl := ⟨.d2, .d6, .d2⟩
abbrev s263 : Sl := ⟨.d2, .d6, .d3⟩
abbrev s264 : Sl := ⟨.d2, .d6, .d4⟩
abbrev s265 : Sl := ⟨.d2, .d6, .d5⟩
abbrev s266 : Sl := ⟨.d2, .d6, .d6⟩
abbrev s267 : Sl := ⟨.d2, .d6, .d7⟩
abbrev s270 : Sl := ⟨.d2, .d7, .d0⟩
abbrev s271 : Sl := ⟨.d2, .d7, .d1⟩
abbrev s272 : Sl := ⟨.d2, .d7, .d2⟩
abbrev s273 : Sl := ⟨.d2, .d7, .d3⟩
abbrev s274 : Sl := ⟨.d2, .d7, .d4⟩
abbrev s275 : Sl := ⟨.d2, .d7, .d5⟩
abbrev s276 : Sl := ⟨.d2, .d7, .d6⟩
abbrev s277 : Sl := ⟨.d2, .d7, .d7⟩
abbrev s300 : Sl := ⟨.d3, .d0, .d0⟩
abbrev s301 : Sl := ⟨.d3, .d0, .d1⟩
abbrev s302 : Sl := ⟨.d3, .d0, .d2⟩
abbrev s303 : Sl := ⟨.d3, .d0, .d3⟩
abbrev s304 : Sl := ⟨.d3, .d0, .d4⟩
abbrev s305 : Sl := ⟨.d3, .d0, .d5⟩
abbrev s306 : Sl := ⟨.d3, .d0, .d6⟩
abbrev s307 : Sl := ⟨.d3, .d0, .d7⟩
abbrev s310 : Sl := ⟨.d3, .d1, .d0⟩
abbrev s311 : Sl := ⟨.d3, .d1, .d1⟩
abbrev s312 : Sl := ⟨.d3, .d1, .d2⟩
abbrev s313 : Sl := ⟨.d3, .d1, .d3⟩
abbrev s314 : Sl := ⟨.d3, .d1, .d4⟩
abbrev s315 : Sl := ⟨.d3, .d1, .d5⟩
abbrev s316 : Sl := ⟨.d3, .d1, .d6⟩
abbrev s317 : Sl := ⟨.d3, .d1, .d7⟩
abbrev s320 : Sl := ⟨.d3, .d2, .d0⟩
abbrev s321 : Sl := ⟨.d3, .d2, .d1⟩
abbrev s322 : Sl := ⟨.d3, .d2, .d2⟩
abbrev s323 : Sl := ⟨.d3, .d2, .d3⟩
abbrev s324 : Sl := ⟨.d3, .d2, .d4⟩
abbrev s325 : Sl := ⟨.d3, .d2, .d5⟩
abbrev s326 : Sl := ⟨.d3, .d2, .d6⟩
abbrev s327 : Sl := ⟨.d3, .d2, .d7⟩
abbrev s330 : Sl := ⟨.d3, .d3, .d0⟩
abbrev s331 : Sl := ⟨.d3, .d3, .d1⟩
abbrev s332 : Sl := ⟨.d3, .d3, .d2⟩
abbrev s333 : Sl := ⟨.d3, .d3, .d3⟩
/-- The slots worked out. -/
theorem auC {p q : Prop} (h : q) (e : q → p := by intro hq; dsimp only [xm, xl, xf, s000, s001, s002, s003, s004, s005, s006, s007, s010, s011, s012, s013, s014, s015, s016, s017, s020, s021, s022, s023, s024, s025, s026, s027, s030, s031, s032, s033, s034, s035, s036, s037, s040, s041, s042, s043, s044, s045, s046, s047, s050, s051, s052, s053, s054, s055, s056, s057, s060, s061, s062, s063, s064, s065, s066, s067, s070, s071, s072, s073, s074, s075, s076, s077, s100, s101, s102, s103, s104, s105, s106, s107, s110, s111, s112, s113, s114, s115, s116, s117, s120, s121, s122, s123, s124, s125, s126, s127, s130, s131, s132, s133, s134, s135, s136, s137, s140, s141, s142, s143, s144, s145, s146, s147, s150, s151, s152, s153, s154, s155, s156, s157, s160, s161, s162, s163, s164, s165, s166, s167, s170, s171, s172, s173, s174, s175, s176, s177, s200, s201, s202, s203, s204, s205, s206, s207, s210, s211, s212, s213, s214, s215, s216, s217, s220, s221, s222, s223, s224, s225, s226, s227, s230, s231, s232, s233, s234, s235, s236, s237, s240, s241, s242, s243, s244, s245, s246, s247, s250, s251, s252, s253, s254, s255, s256, s257, s260, s261, s262, s263, s264, s265, s266, s267, s270, s271, s272, s273, s274, s275, s276, s277, s300, s301, s302, s303, s304, s305, s306, s307, s310, s311, s312, s313, s314, s315, s316, s317, s320, s321, s322, s323, s324, s325, s326, s327, s330, s331, s332, s333]; exact hq) : p := e h
/-- custlaw.WheelSets -/
def x_custlaw_WheelSets : XC :=
 .seq (.region [⟨some s003, .box 0 97 (.t s000), none⟩,
 ⟨some s006, .move (.c (.bool false)), none⟩])
 (.seq (.region [⟨some s020, .load true 97 (.t s003), none⟩,
 xm s021 s001,
 xm s022 s002,
 ⟨some s023, .call 5 [(.t s020), (.t s021), (.t s022)], none⟩,
 xm s017 s023,
 ⟨some s024, .extract 0 (.t s017), none⟩,
 ⟨some s025, .extract 1 (.t s017), none⟩,
 ⟨some s007, .alloc 1 zv_api_Wheel, none⟩,
 ⟨none, .store 97 (.t s007) (.t s024), none⟩,
 xm s010 s025])
 (.seq (.region [⟨some s027, .load true 97 (.t s003), none⟩,
 xm s030 s001,
 xm s031 s002,
 ⟨some s032, .call 6 [(.t s027), (.t s030), (.t s031)], none⟩,
 xm s026 s032,
 ⟨some s033, .extract 0 (.t s026), none⟩,
 ⟨some s034, .extract 1 (.t s026), none⟩,
 ⟨some s011, .alloc 2 zv_api_Wheel, none⟩,
 ⟨none, .store 97 (.t s011) (.t s033), none⟩,
 xm s012 s034])
 (.seq (.region [⟨some s036, .load true 97 (.t s003), none⟩,
 xm s037 s001,
 ⟨some s040, .call 7 [(.t s036), (.t s037)], none⟩,
 xm s035 s040,
 ⟨some s041, .extract 0 (.t s035), none⟩,
 ⟨some s042, .extract 1 (.t s035), none⟩,
 ⟨some s013, .alloc 3 zv_api_Wheel, none⟩,
 ⟨none, .store 97 (.t s013) (.t s041), none⟩,
 xm s014 s042])
 (.seq (.region [⟨some s044, .load true 97 (.t s003), none⟩,
 xm s045 s001,
 ⟨some s046, .call 8 [(.t s044), (.t s045)], none⟩,
 xm s043 s046,
 ⟨some s047, .extract 0 (.t s043), none⟩,
 ⟨some s050, .extract 1 (.t s043), none⟩,
 ⟨some s015, .alloc 4 zv_api_Wheel, none⟩,
 ⟨none, .store 97 (.t s015) (.t s047), none⟩,
 xm s016 s050])
 (.seq (.regionD [0, 1, 0, 7, 15, 31, 63, 63, 255, 511, 1023, 2047, 2047, 8191, 16383, 32767, 65535, 65535, 262143, 524287, 1048575, 2097151, 2097151, 8388607, 16777215, 33554431] [⟨some s051, .load true 97 (.t s003), none⟩,
 ⟨some s052, .call 9 [(.t s051)], none⟩,
 ⟨some s053, .load true 97 (.t s003), none⟩,
 ⟨some s054, .call 10 [(.t s053)], none⟩,
 ⟨some s055, .bin .eql (.t s052) (.t s054), none⟩,
 xm s056 s055,
 ⟨some s057, .load true 97 (.t s007), some (s056, true)⟩,
 ⟨some s060, .load true 97 (.t s011), some (s056, true)⟩,
 ⟨some s061, .call 11 [(.t s057), (.t s060)], some (s056, true)⟩,
 ⟨some s062, .pick (.t s056) (.t s061) (.c (.bool false)), none⟩,
 xm s063 s062,
 ⟨some s064, .move (.t s010), some (s063, true)⟩,
 ⟨some s065, .move (.t s012), some (s063, true)⟩,
 ⟨some s066, .bin .eql (.t s064) (.t s065), some (s063, true)⟩,
 ⟨some s067, .pick (.t s063) (.t s066) (.c (.bool false)), none⟩,
 xm s070 s067,
 ⟨some s071, .load true 97 (.t s013), some (s070, true)⟩,
 ⟨some s072, .load true 97 (.t s015), some (s070, true)⟩,
 ⟨some s073, .call 11 [(.t s071), (.t s072)], some (s070, true)⟩,
 ⟨some s074, .pick (.t s070) (.t s073) (.c (.bool false)), none⟩,
 xm s075 s074,
 ⟨some s076, .move (.t s014), some (s075, true)⟩,
 ⟨some s077, .move (.t s016), some (s075, true)⟩,
 ⟨some s100, .bin .eql (.t s076) (.t s077), some (s075, true)⟩,
 ⟨some s101, .pick (.t s075) (.t s100) (.c (.bool false)), none⟩,
 xm s006 s101])
 (.ret))))))
def r_custlaw_WheelSets : List XR := [.tmp s006]
theorem ok_custlaw_WheelSets : okC Try.prog Try.f3.ntmps (bodyOf Try.f3) x_custlaw_WheelSets = true := by kernel_rfl
theorem okr_custlaw_WheelSets : okRs Try.prog Try.f3.results.toList r_custlaw_WheelSets = true := by kernel_rfl

/-- custlaw.WheelTicks -/
def x_custlaw_WheelTicks : XC :=
 .seq (.region [⟨some s002, .box 0 97 (.t s000), none⟩,
 ⟨some s004, .move (.c (.bool false)), none⟩])
 (.seq (.region [⟨some s014, .load true 97 (.t s002), none⟩,
 xm s015 s001,
 ⟨some s016, .call 12 [(.t s014), (.t s015)], none⟩,
 xm s013 s016,
 ⟨some s017, .extract 0 (.t s013), none⟩,
 ⟨some s020, .extract 1 (.t s013), none⟩,
 ⟨some s021, .extract 2 (.t s013), none⟩,
 ⟨some s005, .alloc 1 zv_api_Wheel, none⟩,
 ⟨none, .store 97 (.t s005) (.t s017), none⟩,
 xm s006 s020,
 xm s007 s021])
 (.seq (.region [⟨some s023, .load true 97 (.t s002), none⟩,
 xm s024 s001,
 ⟨some s025, .call 13 [(.t s023), (.t s024)], none⟩,
 xm s022 s025,
 ⟨some s026, .extract 0 (.t s022), none⟩,
 ⟨some s027, .extract 1 (.t s022), none⟩,
 ⟨some s030, .extract 2 (.t s022), none⟩,
 ⟨some s010, .alloc 2 zv_api_Wheel, none⟩,
 ⟨none, .store 97 (.t s010) (.t s026), none⟩,
 xm s011 s027,
 xm s012 s030])
 (.seq (.region [⟨some s031, .load true 97 (.t s005), none⟩,
 ⟨some s032, .load true 97 (.t s010), none⟩,
 ⟨some s033, .call 11 [(.t s031), (.t s032)], none⟩,
 xm s034 s033,
 ⟨some s035, .move (.t s006), some (s034, true)⟩,
 ⟨some s036, .move (.t s011), some (s034, true)⟩,
 ⟨some s037, .call 14 [(.t s035), (.t s036)], some (s034, true)⟩,
 ⟨some s040, .pick (.t s034) (.t s037) (.c (.bool false)), none⟩,
 xm s041 s040,
 ⟨some s042, .move (.t s007), some (s041, true)⟩,
 ⟨some s043, .move (.t s012), some (s041, true)⟩,
 ⟨some s044, .bin .eql (.t s042) (.t s043), some (s041, true)⟩,
 ⟨some s045, .pick (.t s041) (.t s044) (.c (.bool false)), none⟩,
 xm s004 s045])
 (.ret))))
def r_custlaw_WheelTicks : List XR := [.tmp s004]
theorem ok_custlaw_WheelTicks : okC Try.prog Try.f4.ntmps (bodyOf Try.f4) x_custlaw_WheelTicks = true := by kernel_rfl
theorem okr_custlaw_WheelTicks : okRs Try.prog Try.f4.results.toList r_custlaw_WheelTicks = true := by kernel_rfl

/-- wheel.Set -/
def x_wheel_Set : XC :=
 .seq (.region [⟨some s003, .box 0 97 (.t s000), none⟩,
 ⟨some s006, .alloc 1 zv_api_Wheel, none⟩,
 ⟨some s007, .move (.c (.int .i64 0)), none⟩])
 (.seq (.seq (.region [⟨some s013, .load true 97 (.t s003), none⟩,
 ⟨some s014, .call 9 [(.t s013)], none⟩,
 xm s010 s014])
 (.seq (.region [xm s015 s010,
 ⟨some s016, .bin .neq (.t s015) (.c (.int .i64 0)), none⟩])
 (.cond (.t s016)
 (.seq (.region [⟨some s017, .build zv_api_Wheel [], none⟩,
 xm s020 s010,
 ⟨none, .store 97 (.t s006) (.t s017), none⟩,
 xm s007 s020])
 (.ret))
 (.skip))))
 (.seq (.seq (.region [xm s021 s002,
 xf 0 s022 s003,
 xl s023 s022,
 ⟨some s024, .bin .leq (.t s021) (.t s023), none⟩,
 xm s025 s024,
 ⟨some s026, .move (.t s002), some (s025, false)⟩,
 ⟨some s027, .bin .geq (.t s026) (.c (.int .i64 16777216)), some (s025, false)⟩,
 ⟨some s030, .pick (.t s025) (.c (.bool true)) (.t s027), none⟩])
 (.cond (.t s030)
 (.seq (.region [⟨some s031, .build zv_api_Wheel [], none⟩,
 ⟨none, .store 97 (.t s006) (.t s031), none⟩,
 ⟨some s007, .move (.c (.int .i64 1)), none⟩])
 (.ret))
 (.skip)))
 (.seq (.seq (.region [⟨some s033, .load true 97 (.t s003), none⟩,
 xm s034 s001,
 ⟨some s035, .call 15 [(.t s033), (.t s034)], none⟩,
 xm s032 s035,
 ⟨some s036, .extract 0 (.t s032), none⟩,
 ⟨some s037, .extract 1 (.t s032), none⟩,
 xm s011 s036,
 xm s012 s037])
 (.seq (.region [xm s040 s011,
 ⟨some s041, .bin .geq (.t s040) (.c (.int .i64 0)), none⟩])
 (.cond (.t s041)
 (.seq (.region [⟨some s042, .build zv_api_Wheel [], none⟩,
 ⟨none, .store 97 (.t s006) (.t s042), none⟩,
 ⟨some s007, .move (.c (.int .i64 8)), none⟩])
 (.ret))
 (.skip))))
 (.seq (.seq (.region [⟨some s043, .load true 97 (.t s003), none⟩,
 ⟨some s044, .call 16 [(.t s043)], none⟩,
 ⟨some s045, .bin .eql (.t s044) (.c (.int .i64 500)), none⟩])
 (.cond (.t s045)
 (.seq (.region [⟨some s046, .build zv_api_Wheel [], none⟩,
 ⟨none, .store 97 (.t s006) (.t s046), none⟩,
 ⟨some s007, .move (.c (.int .i64 6)), none⟩])
 (.ret))
 (.skip)))
 (.seq (.region [⟨some s047, .load true 97 (.t s003), none⟩,
 ⟨some s050, .call 17 [(.t s047)], none⟩,
 ⟨none, .store 97 (.t s003) (.t s050), none⟩])
 (.seq (.region [xm s051 s001,
 xm s052 s002,
 ⟨some s053, .build [.int .i64 0, .int .i64 0] [(0, 1, (.t s051)), (1, 1, (.t s052))], none⟩,
 ⟨some s054, .call 18 [(.t s003), (.t s053)], none⟩])
 (.seq (.region [⟨some s055, .load true 97 (.t s003), none⟩,
 ⟨none, .store 97 (.t s006) (.t s055), none⟩,
 ⟨some s007, .move (.c (.int .i64 0)), none⟩])
 (.ret))))))))
def r_wheel_Set : List XR := [.cell s006 true 97, .tmp s007]
theorem ok_wheel_Set : okC Try.prog Try.f5.ntmps (bodyOf Try.f5) x_wheel_Set = true := by kernel_rfl
theorem okr_wheel_Set : okRs Try.prog Try.f5.results.toList r_wheel_Set = true := by kernel_rfl

/-- custref.WheelSet -/
def x_custref_WheelSet : XC :=
 .seq (.region [⟨some s003, .box 0 97 (.t s000), none⟩,
 ⟨some s004, .box 1 1 (.t s001), none⟩,
 ⟨some s006, .alloc 2 zv_api_Wheel, none⟩,
 ⟨some s007, .move (.c (.int .i64 0)), none⟩])
 (.seq (.region [⟨some s012, .load true 97 (.t s003), none⟩,
 ⟨some s013, .call 10 [(.t s012)], none⟩,
 xm s010 s013])
 (.seq (.region [⟨some s014, .load true 97 (.t s003), none⟩,
 ⟨some s015, .call 19 [(.t s014)], none⟩,
 xm s011 s015])
 (.seq (.block 0
 (.seq (.region [xm s017 s010,
 ⟨some s020, .bin .neq (.t s017) (.c (.int .i64 0)), none⟩,
 xm s016 s020])
 (.cond (.t s016)
 (.skip)
 (.seq (.region [xm s022 s002,
 xf 0 s023 s003,
 xl s024 s023,
 ⟨some s025, .bin .add (.t s024) (.c (.int .i64 1)), none⟩,
 ⟨some s026, .call 20 [(.t s022), (.t s025), (.c (.int .i64 16777215))], none⟩,
 ⟨some s027, .un .not (.t s026), none⟩,
 xm s021 s027])
 (.cond (.t s021)
 (.region [⟨some s010, .move (.c (.int .i64 1)), none⟩])
 (.seq (.region [xm s031 s011,
 ⟨some s032, .mkfn 22 [] [(.t s004)], none⟩,
 ⟨some s033, .call 21 [(.t s031), (.t s032)], none⟩,
 xm s030 s033])
 (.cond (.t s030)
 (.region [⟨some s010, .move (.c (.int .i64 8)), none⟩])
 (.seq (.region [xm s035 s011,
 ⟨some s036, .len (.t s035), none⟩,
 ⟨some s037, .bin .eql (.t s036) (.c (.int .i64 500)), none⟩,
 xm s034 s037])
 (.cond (.t s034)
 (.region [⟨some s010, .move (.c (.int .i64 6)), none⟩])
 (.skip))))))))))
 (.seq (.seq (.region [xm s040 s010,
 ⟨some s041, .bin .neq (.t s040) (.c (.int .i64 0)), none⟩])
 (.cond (.t s041)
 (.seq (.region [⟨some s042, .build zv_api_Wheel [], none⟩,
 xm s043 s010,
 ⟨none, .store 97 (.t s006) (.t s042), none⟩,
 xm s007 s043])
 (.ret))
 (.skip)))
 (.seq (.regionD [0, 1, 0, 0, 0, 24, 56, 124, 255, 511, 1023] [xf 0 s044 s003,
 xl s045 s044,
 xm s046 s011,
 xl s047 s004,
 xm s050 s002,
 ⟨some s051, .build [.int .i64 0, .int .i64 0] [(0, 1, (.t s047)), (1, 1, (.t s050))], none⟩,
 ⟨some s052, .buildSlice 3 1 [.int .i64 0, .int .i64 0] [(0, (.t s051))], none⟩,
 ⟨some s053, .append 4 2 16 (.t s046) (.t s052), none⟩,
 ⟨some s054, .call 23 [(.t s045), (.t s053)], none⟩,
 ⟨none, .store 97 (.t s006) (.t s054), none⟩,
 ⟨some s007, .move (.c (.int .i64 0)), none⟩])
 (.ret))))))
def r_custref_WheelSet : List XR := [.cell s006 true 97, .tmp s007]
theorem ok_custref_WheelSet : okC Try.prog Try.f6.ntmps (bodyOf Try.f6) x_custref_WheelSet = true := by kernel_rfl
theorem okr_custref_WheelSet : okRs Try.prog Try.f6.results.toList r_custref_WheelSet = true := by kernel_rfl

/-- wheel.Stop -/
def x_wheel_Stop : XC :=
 .seq (.region [⟨some s002, .box 0 97 (.t s000), none⟩,
 ⟨some s004, .alloc 1 zv_api_Wheel, none⟩,
 ⟨some s005, .move (.c (.int .i64 0)), none⟩])
 (.seq (.seq (.region [⟨some s011, .load true 97 (.t s002), none⟩,
 ⟨some s012, .call 9 [(.t s011)], none⟩,
 xm s006 s012])
 (.seq (.region [xm s013 s006,
 ⟨some s014, .bin .neq (.t s013) (.c (.int .i64 0)), none⟩])
 (.cond (.t s014)
 (.seq (.region [⟨some s015, .build zv_api_Wheel [], none⟩,
 xm s016 s006,
 ⟨none, .store 97 (.t s004) (.t s015), none⟩,
 xm s005 s016])
 (.ret))
 (.skip))))
 (.seq (.region [⟨some s020, .load true 97 (.t s002), none⟩,
 xm s021 s001,
 ⟨some s022, .call 15 [(.t s020), (.t s021)], none⟩,
 xm s017 s022,
 ⟨some s023, .extract 0 (.t s017), none⟩,
 ⟨some s024, .extract 1 (.t s017), none⟩,
 xm s007 s023,
 xm s010 s024])
 (.seq (.seq (.region [xm s025 s007,
 ⟨some s026, .bin .lss (.t s025) (.c (.int .i64 0)), none⟩])
 (.cond (.t s026)
 (.seq (.region [⟨some s027, .build zv_api_Wheel [], none⟩,
 ⟨none, .store 97 (.t s004) (.t s027), none⟩,
 ⟨some s005, .move (.c (.int .i64 7)), none⟩])
 (.ret))
 (.skip)))
 (.seq (.region [⟨some s030, .load true 97 (.t s002), none⟩,
 ⟨some s031, .call 17 [(.t s030)], none⟩,
 ⟨none, .store 97 (.t s002) (.t s031), none⟩])
 (.seq (.region [xm s032 s007,
 xm s033 s007,
 xf 1 s034 s002,
 ⟨some s035, .indexArr 1 96 (.t s034) (.t s033), none⟩,
 xl s036 s035,
 xm s037 s010,
 xm s040 s010,
 ⟨some s041, .bin .add (.t s040) (.c (.int .i64 1)), none⟩,
 ⟨some s042, .call 24 [(.t s036), (.t s037), (.t s041)], none⟩,
 xf 1 s043 s002,
 ⟨some s044, .indexArr 1 96 (.t s043) (.t s032), none⟩,
 ⟨none, .store 1 (.t s044) (.t s042), none⟩])
 (.seq (.region [⟨some s045, .load true 97 (.t s002), none⟩,
 ⟨none, .store 97 (.t s004) (.t s045), none⟩,
 ⟨some s005, .move (.c (.int .i64 0)), none⟩])
 (.ret)))))))
def r_wheel_Stop : List XR := [.cell s004 true 97, .tmp s005]
theorem ok_wheel_Stop : okC Try.prog Try.f7.ntmps (bodyOf Try.f7) x_wheel_Stop = true := by kernel_rfl
theorem okr_wheel_Stop : okRs Try.prog Try.f7.results.toList r_wheel_Stop = true := by kernel_rfl

/-- custref.WheelStop -/
def x_custref_WheelStop : XC :=
 .seq (.region [⟨some s002, .box 0 97 (.t s000), none⟩,
 ⟨some s003, .box 1 1 (.t s001), none⟩,
 ⟨some s004, .alloc 2 zv_api_Wheel, none⟩,
 ⟨some s005, .move (.c (.int .i64 0)), none⟩])
 (.seq (.seq (.region [⟨some s011, .load true 97 (.t s002), none⟩,
 ⟨some s012, .call 10 [(.t s011)], none⟩,
 xm s006 s012])
 (.seq (.region [xm s013 s006,
 ⟨some s014, .bin .neq (.t s013) (.c (.int .i64 0)), none⟩])
 (.cond (.t s014)
 (.seq (.region [⟨some s015, .build zv_api_Wheel [], none⟩,
 xm s016 s006,
 ⟨none, .store 97 (.t s004) (.t s015), none⟩,
 xm s005 s016])
 (.ret))
 (.skip))))
 (.seq (.region [⟨some s017, .load true 97 (.t s002), none⟩,
 ⟨some s020, .call 19 [(.t s017)], none⟩,
 xm s007 s020])
 (.seq (.region [xm s021 s007,
 ⟨some s022, .call 26 [(.t s021)], none⟩,
 ⟨some s023, .mkfn 27 [] [(.t s003)], none⟩,
 ⟨some s024, .call 25 [(.t s022), (.t s023)], none⟩,
 xm s010 s024])
 (.seq (.seq (.region [xm s025 s010,
 ⟨some s026, .len (.t s025), none⟩,
 xm s027 s007,
 ⟨some s030, .len (.t s027), none⟩,
 ⟨some s031, .bin .eql (.t s026) (.t s030), none⟩])
 (.cond (.t s031)
 (.seq (.region [⟨some s032, .build zv_api_Wheel [], none⟩,
 ⟨none, .store 97 (.t s004) (.t s032), none⟩,
 ⟨some s005, .move (.c (.int .i64 7)), none⟩])
 (.ret))
 (.skip)))
 (.seq (.region [xf 0 s033 s002,
 xl s034 s033,
 xm s035 s010,
 ⟨some s036, .call 23 [(.t s034), (.t s035)], none⟩,
 ⟨none, .store 97 (.t s004) (.t s036), none⟩,
 ⟨some s005, .move (.c (.int .i64 0)), none⟩])
 (.ret))))))
def r_custref_WheelStop : List XR := [.cell s004 true 97, .tmp s005]
theorem ok_custref_WheelStop : okC Try.prog Try.f8.ntmps (bodyOf Try.f8) x_custref_WheelStop = true := by kernel_rfl
theorem okr_custref_WheelStop : okRs Try.prog Try.f8.results.toList r_custref_WheelStop = true := by kernel_rfl

/-- wheel.Check -/
def x_wheel_Check : XC :=
 .seq (.region [⟨some s001, .box 0 97 (.t s000), none⟩,
 ⟨some s002, .move (.c (.int .i64 0)), none⟩])
 (.seq (.seq (.region [⟨some s010, .load true 97 (.t s001), none⟩,
 ⟨some s011, .call 16 [(.t s010)], none⟩,
 ⟨some s012, .bin .gtr (.t s011) (.c (.int .i64 500)), none⟩])
 (.cond (.t s012)
 (.seq (.region [⟨some s002, .move (.c (.int .i64 2)), none⟩])
 (.ret))
 (.skip)))
 (.seq (.seq (.region [xf 0 s013 s001,
 xl s014 s013,
 ⟨some s015, .bin .lss (.t s014) (.c (.int .i64 0)), none⟩,
 xm s016 s015,
 ⟨some s017, .fieldAddr 0 (.t s001), some (s016, false)⟩,
 ⟨some s020, .load false 1 (.t s017), some (s016, false)⟩,
 ⟨some s021, .bin .geq (.t s020) (.c (.int .i64 16777216)), some (s016, false)⟩,
 ⟨some s022, .pick (.t s016) (.c (.bool true)) (.t s021), none⟩])
 (.cond (.t s022)
 (.seq (.region [⟨some s002, .move (.c (.int .i64 1)), none⟩])
 (.ret))
 (.skip)))
 (.seq (.region [⟨some s023, .makeMap 1, none⟩,
 xm s003 s023])
 (.seq (.seq (.region [xf 1 s024 s001,
 ⟨some s025, .load true 96 (.t s024), none⟩,
 ⟨some s026, .move (.c (.int .i64 0)), none⟩])
 (.block 0
 (.loop
 (.seq (.region [⟨some s027, .bin .lss (.t s026) (.c (.int .i64 96)), none⟩])
 (.seq (.cond (.t s027)
 (.skip)
 (.exit 0))
 (.seq (.block 1
 (.seq (.region [xm s030 s026,
 ⟨some s031, .indexV false 1 96 (.t s025) (.t s026), none⟩,
 xm s004 s030,
 xm s005 s031])
 (.seq (.region [xm s032 s005,
 ⟨some s033, .len (.t s032), none⟩,
 ⟨some s034, .move (.c (.int .i64 0)), none⟩])
 (.block 2
 (.loop
 (.seq (.region [⟨some s035, .bin .lss (.t s034) (.t s033), none⟩])
 (.seq (.cond (.t s035)
 (.skip)
 (.exit 2))
 (.seq (.block 3
 (.seq (.region [⟨some s036, .indexSl 2 (.t s032) (.t s034), none⟩,
 ⟨some s037, .load true 2 (.t s036), none⟩,
 ⟨some s007, .alloc 2 [.int .i64 0, .int .i64 0], none⟩,
 ⟨none, .store 2 (.t s007) (.t s037), none⟩])
 (.seq (.region [xm s040 s003,
 xf 0 s041 s007,
 xl s042 s041,
 ⟨some s043, .mget (.one .i64) (.int .i64 0) (.t s040) (.t s042), none⟩,
 ⟨some s044, .bin .add (.t s043) (.c (.int .i64 1)), none⟩,
 ⟨none, .mput (.one .i64) (.t s040) (.t s042) (.t s044), none⟩])
 (.seq (.region [xf 1 s045 s007,
 xl s046 s045,
 xf 0 s047 s001,
 xl s050 s047,
 ⟨some s051, .bin .leq (.t s046) (.t s050), none⟩,
 xm s052 s051,
 ⟨some s053, .fieldAddr 1 (.t s007), some (s052, false)⟩,
 ⟨some s054, .load false 1 (.t s053), some (s052, false)⟩,
 ⟨some s055, .bin .geq (.t s054) (.c (.int .i64 16777216)), some (s052, false)⟩,
 ⟨some s056, .pick (.t s052) (.c (.bool true)) (.t s055), none⟩,
 xm s057 s056,
 ⟨some s060, .fieldAddr 0 (.t s001), some (s057, false)⟩,
 ⟨some s061, .load false 1 (.t s060), some (s057, false)⟩,
 ⟨some s062, .fieldAddr 1 (.t s007), some (s057, false)⟩,
 ⟨some s063, .load false 1 (.t s062), some (s057, false)⟩,
 ⟨some s064, .call 28 [(.t s061), (.t s063)], some (s057, false)⟩,
 ⟨some s065, .move (.t s004), some (s057, false)⟩,
 ⟨some s066, .bin .neq (.t s064) (.t s065), some (s057, false)⟩,
 ⟨some s067, .pick (.t s057) (.c (.bool true)) (.t s066), none⟩,
 xm s070 s067,
 ⟨some s071, .move (.t s003), some (s070, false)⟩,
 ⟨some s072, .fieldAddr 0 (.t s007), some (s070, false)⟩,
 ⟨some s073, .load false 1 (.t s072), some (s070, false)⟩,
 ⟨some s074, .mget (.one .i64) (.int .i64 0) (.t s071) (.t s073), some (s070, false)⟩,
 ⟨some s075, .bin .gtr (.t s074) (.c (.int .i64 1)), some (s070, false)⟩,
 ⟨some s076, .pick (.t s070) (.c (.bool true)) (.t s075), none⟩])
 (.cond (.t s076)
 (.seq (.region [⟨some s002, .move (.c (.int .i64 4)), none⟩])
 (.ret))
 (.skip))))))
 (.region [⟨some s077, .bin .add (.t s034) (.c (.int .i64 1)), none⟩,
 xm s034 s077])))))))))
 (.region [⟨some s100, .bin .add (.t s026) (.c (.int .i64 1)), none⟩,
 xm s026 s100])))))))
 (.seq (.region [⟨some s002, .move (.c (.int .i64 0)), none⟩])
 (.ret))))))
def r_wheel_Check : List XR := [.tmp s002]
theorem ok_wheel_Check : okC Try.prog Try.f9.ntmps (bodyOf Try.f9) x_wheel_Check = true := by kernel_rfl
theorem okr_wheel_Check : okRs Try.prog Try.f9.results.toList r_wheel_Check = true := by kernel_rfl

/-- custref.WheelRight -/
def x_custref_WheelRight : XC :=
 .seq (.region [⟨some s001, .box 0 97 (.t s000), none⟩,
 ⟨some s002, .move (.c (.int .i64 0)), none⟩])
 (.seq (.region [⟨some s006, .load true 97 (.t s001), none⟩,
 ⟨some s007, .call 19 [(.t s006)], none⟩,
 xm s003 s007])
 (.seq (.seq (.region [xm s010 s003,
 ⟨some s011, .len (.t s010), none⟩,
 ⟨some s012, .bin .gtr (.t s011) (.c (.int .i64 500)), none⟩])
 (.cond (.t s012)
 (.seq (.region [⟨some s002, .move (.c (.int .i64 2)), none⟩])
 (.ret))
 (.skip)))
 (.seq (.seq (.region [xf 0 s013 s001,
 xl s014 s013,
 ⟨some s015, .call 20 [(.t s014), (.c (.int .i64 0)), (.c (.int .i64 16777215))], none⟩,
 ⟨some s016, .un .not (.t s015), none⟩])
 (.cond (.t s016)
 (.seq (.region [⟨some s002, .move (.c (.int .i64 1)), none⟩])
 (.ret))
 (.skip)))
 (.seq (.seq (.region [xm s017 s003,
 ⟨some s020, .len (.t s017), none⟩,
 ⟨some s021, .move (.c (.int .i64 0)), none⟩])
 (.block 0
 (.loop
 (.seq (.region [⟨some s022, .bin .lss (.t s021) (.t s020), none⟩])
 (.seq (.cond (.t s022)
 (.skip)
 (.exit 0))
 (.seq (.block 1
 (.seq (.region [xm s023 s021,
 ⟨some s024, .indexSl 2 (.t s017) (.t s021), none⟩,
 ⟨some s025, .load true 2 (.t s024), none⟩,
 ⟨some s005, .alloc 1 [.int .i64 0, .int .i64 0], none⟩,
 xm s004 s023,
 ⟨none, .store 2 (.t s005) (.t s025), none⟩])
 (.seq (.region [xf 1 s026 s005,
 xl s027 s026,
 xf 0 s030 s001,
 xl s031 s030,
 ⟨some s032, .bin .add (.t s031) (.c (.int .i64 1)), none⟩,
 ⟨some s033, .call 20 [(.t s027), (.t s032), (.c (.int .i64 16777215))], none⟩,
 ⟨some s034, .un .not (.t s033), none⟩,
 xm s035 s034,
 ⟨some s036, .move (.t s003), some (s035, false)⟩,
 ⟨some s037, .move (.t s004), some (s035, false)⟩,
 ⟨some s040, .slice 2 (.t s036) none (some (.t s037)) none, some (s035, false)⟩,
 ⟨some s041, .mkfn 29 [] [(.t s005)], some (s035, false)⟩,
 ⟨some s042, .call 21 [(.t s040), (.t s041)], some (s035, false)⟩,
 ⟨some s043, .pick (.t s035) (.c (.bool true)) (.t s042), none⟩])
 (.cond (.t s043)
 (.seq (.region [⟨some s002, .move (.c (.int .i64 4)), none⟩])
 (.ret))
 (.skip)))))
 (.region [⟨some s044, .bin .add (.t s021) (.c (.int .i64 1)), none⟩,
 xm s021 s044])))))))
 (.seq (.seq (.regionD [0, 0, 2, 0, 14, 31, 63] [⟨some s045, .load true 97 (.t s001), none⟩,
 xf 0 s046 s001,
 xl s047 s046,
 xm s050 s003,
 ⟨some s051, .call 23 [(.t s047), (.t s050)], none⟩,
 ⟨some s052, .call 11 [(.t s045), (.t s051)], none⟩,
 ⟨some s053, .un .not (.t s052), none⟩])
 (.cond (.t s053)
 (.seq (.region [⟨some s002, .move (.c (.int .i64 4)), none⟩])
 (.ret))
 (.skip)))
 (.seq (.region [⟨some s002, .move (.c (.int .i64 0)), none⟩])
 (.ret)))))))
def r_custref_WheelRight : List XR := [.tmp s002]
theorem ok_custref_WheelRight : okC Try.prog Try.f10.ntmps (bodyOf Try.f10) x_custref_WheelRight = true := by kernel_rfl
theorem okr_custref_WheelRight : okRs Try.prog Try.f10.results.toList r_custref_WheelRight = true := by kernel_rfl

/-- custref.SameWheel -/
def x_custref_SameWheel : XC :=
 .seq (.region [⟨some s002, .box 0 97 (.t s000), none⟩,
 ⟨some s003, .box 1 97 (.t s001), none⟩,
 ⟨some s004, .move (.c (.bool false)), none⟩])
 (.seq (.seq (.region [⟨some s006, .move (.c (.int .i64 0)), none⟩])
 (.block 0
 (.loop
 (.seq (.region [⟨some s007, .bin .lss (.t s006) (.c (.int .i64 96)), none⟩])
 (.seq (.cond (.t s007)
 (.skip)
 (.exit 0))
 (.seq (.block 1
 (.seq (.region [xm s010 s006,
 xm s005 s010])
 (.seq (.regionD [0, 0, 3, 7, 0, 0, 48, 112, 255, 511] [xm s011 s005,
 xf 1 s012 s002,
 ⟨some s013, .indexArr 1 96 (.t s012) (.t s011), none⟩,
 xl s014 s013,
 xm s015 s005,
 xf 1 s016 s003,
 ⟨some s017, .indexArr 1 96 (.t s016) (.t s015), none⟩,
 xl s020 s017,
 ⟨some s021, .call 14 [(.t s014), (.t s020)], none⟩,
 ⟨some s022, .un .not (.t s021), none⟩])
 (.cond (.t s022)
 (.seq (.region [⟨some s004, .move (.c (.bool false)), none⟩])
 (.ret))
 (.skip)))))
 (.region [⟨some s023, .bin .add (.t s006) (.c (.int .i64 1)), none⟩,
 xm s006 s023])))))))
 (.seq (.region [xf 0 s024 s002,
 xl s025 s024,
 xf 0 s026 s003,
 xl s027 s026,
 ⟨some s030, .bin .eql (.t s025) (.t s027), none⟩,
 xm s004 s030])
 (.ret)))
def r_custref_SameWheel : List XR := [.tmp s004]
theorem ok_custref_SameWheel : okC Try.prog Try.f11.ntmps (bodyOf Try.f11) x_custref_SameWheel = true := by kernel_rfl
theorem okr_custref_SameWheel : okRs Try.prog Try.f11.results.toList r_custref_SameWheel = true := by kernel_rfl

/-- wheel.Tick -/
def x_wheel_Tick : XC :=
 .seq (.region [⟨some s002, .box 0 97 (.t s000), none⟩,
 ⟨some s004, .alloc 1 zv_api_Wheel, none⟩,
 ⟨some s005, .move (.c (.slice none 0 0)), none⟩,
 ⟨some s006, .move (.c (.int .i64 0)), none⟩])
 (.seq (.seq (.region [⟨some s011, .load true 97 (.t s002), none⟩,
 ⟨some s012, .call 9 [(.t s011)], none⟩,
 xm s007 s012])
 (.seq (.region [xm s013 s007,
 ⟨some s014, .bin .neq (.t s013) (.c (.int .i64 0)), none⟩])
 (.cond (.t s014)
 (.seq (.region [⟨some s015, .build zv_api_Wheel [], none⟩,
 xm s016 s007,
 ⟨none, .store 97 (.t s004) (.t s015), none⟩,
 ⟨some s005, .move (.c (.slice none 0 0)), none⟩,
 xm s006 s016])
 (.ret))
 (.skip))))
 (.seq (.seq (.region [xm s017 s001,
 ⟨some s020, .bin .lss (.t s017) (.c (.int .i64 0)), none⟩,
 xm s021 s020,
 ⟨some s022, .move (.t s001), some (s021, false)⟩,
 ⟨some s023, .bin .gtr (.t s022) (.c (.int .i64 10000)), some (s021, false)⟩,
 ⟨some s024, .pick (.t s021) (.c (.bool true)) (.t s023), none⟩,
 xm s025 s024,
 ⟨some s026, .fieldAddr 0 (.t s002), some (s025, false)⟩,
 ⟨some s027, .load false 1 (.t s026), some (s025, false)⟩,
 ⟨some s030, .move (.t s001), some (s025, false)⟩,
 ⟨some s031, .bin .add (.t s027) (.t s030), some (s025, false)⟩,
 ⟨some s032, .bin .geq (.t s031) (.c (.int .i64 16777216)), some (s025, false)⟩,
 ⟨some s033, .pick (.t s025) (.c (.bool true)) (.t s032), none⟩])
 (.cond (.t s033)
 (.seq (.region [⟨some s034, .build zv_api_Wheel [], none⟩,
 ⟨none, .store 97 (.t s004) (.t s034), none⟩,
 ⟨some s005, .move (.c (.slice none 0 0)), none⟩,
 ⟨some s006, .move (.c (.int .i64 1)), none⟩])
 (.ret))
 (.skip)))
 (.seq (.region [⟨some s035, .load true 97 (.t s002), none⟩,
 ⟨some s036, .call 17 [(.t s035)], none⟩,
 ⟨none, .store 97 (.t s002) (.t s036), none⟩])
 (.seq (.region [⟨some s010, .move (.c (.slice none 0 0)), none⟩])
 (.seq (.seq (.region [xm s037 s001,
 ⟨some s040, .move (.c (.int .i64 0)), none⟩])
 (.block 0
 (.loop
 (.seq (.region [⟨some s041, .bin .lss (.t s040) (.t s037), none⟩])
 (.seq (.cond (.t s041)
 (.skip)
 (.exit 0))
 (.seq (.block 1
 (.region [xm s042 s010,
 ⟨some s043, .call 30 [(.t s002)], none⟩,
 ⟨some s044, .append 2 2 16 (.t s042) (.t s043), none⟩,
 xm s010 s044]))
 (.region [⟨some s045, .bin .add (.t s040) (.c (.int .i64 1)), none⟩,
 xm s040 s045])))))))
 (.seq (.region [⟨some s046, .load true 97 (.t s002), none⟩,
 xm s047 s010,
 ⟨none, .store 97 (.t s004) (.t s046), none⟩,
 xm s005 s047,
 ⟨some s006, .move (.c (.int .i64 0)), none⟩])
 (.ret)))))))
def r_wheel_Tick : List XR := [.cell s004 true 97, .tmp s005, .tmp s006]
theorem ok_wheel_Tick : okC Try.prog Try.f12.ntmps (bodyOf Try.f12) x_wheel_Tick = true := by kernel_rfl
theorem okr_wheel_Tick : okRs Try.prog Try.f12.results.toList r_wheel_Tick = true := by kernel_rfl

/-- custref.WheelTick -/
def x_custref_WheelTick : XC :=
 .seq (.region [⟨some s002, .box 0 97 (.t s000), none⟩,
 ⟨some s004, .alloc 1 zv_api_Wheel, none⟩,
 ⟨some s005, .move (.c (.slice none 0 0)), none⟩,
 ⟨some s006, .move (.c (.int .i64 0)), none⟩])
 (.seq (.seq (.region [⟨some s014, .load true 97 (.t s002), none⟩,
 ⟨some s015, .call 10 [(.t s014)], none⟩,
 xm s007 s015])
 (.seq (.region [xm s016 s007,
 ⟨some s017, .bin .neq (.t s016) (.c (.int .i64 0)), none⟩])
 (.cond (.t s017)
 (.seq (.region [⟨some s020, .build zv_api_Wheel [], none⟩,
 xm s021 s007,
 ⟨none, .store 97 (.t s004) (.t s020), none⟩,
 ⟨some s005, .move (.c (.slice none 0 0)), none⟩,
 xm s006 s021])
 (.ret))
 (.skip))))
 (.seq (.seq (.region [xm s022 s001,
 ⟨some s023, .call 20 [(.t s022), (.c (.int .i64 0)), (.c (.int .i64 10000))], none⟩,
 ⟨some s024, .un .not (.t s023), none⟩,
 xm s025 s024,
 ⟨some s026, .fieldAddr 0 (.t s002), some (s025, false)⟩,
 ⟨some s027, .load false 1 (.t s026), some (s025, false)⟩,
 ⟨some s030, .move (.t s001), some (s025, false)⟩,
 ⟨some s031, .bin .add (.t s027) (.t s030), some (s025, false)⟩,
 ⟨some s032, .bin .gtr (.t s031) (.c (.int .i64 16777215)), some (s025, false)⟩,
 ⟨some s033, .pick (.t s025) (.c (.bool true)) (.t s032), none⟩])
 (.cond (.t s033)
 (.seq (.region [⟨some s034, .build zv_api_Wheel [], none⟩,
 ⟨none, .store 97 (.t s004) (.t s034), none⟩,
 ⟨some s005, .move (.c (.slice none 0 0)), none⟩,
 ⟨some s006, .move (.c (.int .i64 1)), none⟩])
 (.ret))
 (.skip)))
 (.seq (.region [⟨some s010, .move (.c (.slice none 0 0)), none⟩,
 ⟨some s011, .move (.c (.slice none 0 0)), none⟩])
 (.seq (.seq (.region [⟨some s035, .load true 97 (.t s002), none⟩,
 ⟨some s036, .call 19 [(.t s035)], none⟩,
 ⟨some s037, .len (.t s036), none⟩,
 ⟨some s040, .move (.c (.int .i64 0)), none⟩])
 (.block 0
 (.loop
 (.seq (.region [⟨some s041, .bin .lss (.t s040) (.t s037), none⟩])
 (.seq (.cond (.t s041)
 (.skip)
 (.exit 0))
 (.seq (.block 1
 (.seq (.region [⟨some s042, .indexSl 2 (.t s036) (.t s040), none⟩,
 ⟨some s043, .load true 2 (.t s042), none⟩,
 ⟨some s013, .alloc 2 [.int .i64 0, .int .i64 0], none⟩,
 ⟨none, .store 2 (.t s013) (.t s043), none⟩])
 (.seq (.region [xf 1 s044 s013,
 xl s045 s044,
 xf 0 s046 s002,
 xl s047 s046,
 xm s050 s001,
 ⟨some s051, .bin .add (.t s047) (.t s050), none⟩,
 ⟨some s052, .bin .leq (.t s045) (.t s051), none⟩])
 (.cond (.t s052)
 (.region [xm s053 s010,
 ⟨some s054, .load true 2 (.t s013), none⟩,
 ⟨some s055, .buildSlice 3 1 [.int .i64 0, .int .i64 0] [(0, (.t s054))], none⟩,
 ⟨some s056, .append 4 2 16 (.t s053) (.t s055), none⟩,
 xm s010 s056])
 (.region [xm s057 s011,
 ⟨some s060, .load true 2 (.t s013), none⟩,
 ⟨some s061, .buildSlice 5 1 [.int .i64 0, .int .i64 0] [(0, (.t s060))], none⟩,
 ⟨some s062, .append 6 2 16 (.t s057) (.t s061), none⟩,
 xm s011 s062])))))
 (.region [⟨some s063, .bin .add (.t s040) (.c (.int .i64 1)), none⟩,
 xm s040 s063])))))))
 (.seq (.region [xm s064 s010,
 ⟨some s065, .call 31 [(.t s064), (.f 32)], none⟩])
 (.seq (.region [xf 0 s066 s002,
 xl s067 s066,
 xm s070 s001,
 ⟨some s071, .bin .add (.t s067) (.t s070), none⟩,
 xm s072 s011,
 ⟨some s073, .call 23 [(.t s071), (.t s072)], none⟩,
 xm s074 s010,
 ⟨none, .store 97 (.t s004) (.t s073), none⟩,
 xm s005 s074,
 ⟨some s006, .move (.c (.int .i64 0)), none⟩])
 (.ret)))))))
def r_custref_WheelTick : List XR := [.cell s004 true 97, .tmp s005, .tmp s006]
theorem ok_custref_WheelTick : okC Try.prog Try.f13.ntmps (bodyOf Try.f13) x_custref_WheelTick = true := by kernel_rfl
theorem okr_custref_WheelTick : okRs Try.prog Try.f13.results.toList r_custref_WheelTick = true := by kernel_rfl

/-- slices.Equal -/
def x_slices_Equal_api_Due : XC :=
 .seq (.region [⟨some s004, .move (.c (.bool false)), none⟩])
 (.seq (.seq (.region [xm s006 s000,
 ⟨some s007, .len (.t s006), none⟩,
 xm s010 s001,
 ⟨some s011, .len (.t s010), none⟩,
 ⟨some s012, .bin .neq (.t s007) (.t s011), none⟩])
 (.cond (.t s012)
 (.seq (.region [⟨some s004, .move (.c (.bool false)), none⟩])
 (.ret))
 (.skip)))
 (.seq (.seq (.region [xm s013 s000,
 ⟨some s014, .len (.t s013), none⟩,
 ⟨some s015, .move (.c (.int .i64 0)), none⟩])
 (.block 0
 (.loop
 (.seq (.region [⟨some s016, .bin .lss (.t s015) (.t s014), none⟩])
 (.seq (.cond (.t s016)
 (.skip)
 (.exit 0))
 (.seq (.block 1
 (.seq (.region [xm s017 s015,
 xm s005 s017])
 (.seq (.regionD [0, 0, 3, 7, 0, 0, 48, 112, 255] [xm s020 s000,
 xm s021 s005,
 ⟨some s022, .indexSl 2 (.t s020) (.t s021), none⟩,
 ⟨some s023, .load true 2 (.t s022), none⟩,
 xm s024 s001,
 xm s025 s005,
 ⟨some s026, .indexSl 2 (.t s024) (.t s025), none⟩,
 ⟨some s027, .load true 2 (.t s026), none⟩,
 ⟨some s030, .eqs true [0, 0] (.t s023) (.t s027), none⟩])
 (.cond (.t s030)
 (.seq (.region [⟨some s004, .move (.c (.bool false)), none⟩])
 (.ret))
 (.skip)))))
 (.region [⟨some s031, .bin .add (.t s015) (.c (.int .i64 1)), none⟩,
 xm s015 s031])))))))
 (.seq (.region [⟨some s004, .move (.c (.bool true)), none⟩])
 (.ret))))
def r_slices_Equal_api_Due : List XR := [.tmp s004]
theorem ok_slices_Equal_api_Due : okC Try.prog Try.f14.ntmps (bodyOf Try.f14) x_slices_Equal_api_Due = true := by kernel_rfl
theorem okr_slices_Equal_api_Due : okRs Try.prog Try.f14.results.toList r_slices_Equal_api_Due = true := by kernel_rfl

/-- wheel.find -/
def x_wheel_find : XC :=
 .seq (.region [⟨some s002, .box 0 97 (.t s000), none⟩,
 ⟨some s003, .box 1 1 (.t s001), none⟩,
 ⟨some s004, .move (.c (.int .i64 0)), none⟩,
 ⟨some s005, .move (.c (.int .i64 0)), none⟩])
 (.seq (.seq (.region [xf 1 s011 s002,
 ⟨some s012, .load true 96 (.t s011), none⟩,
 ⟨some s013, .move (.c (.int .i64 0)), none⟩])
 (.block 0
 (.loop
 (.seq (.region [⟨some s014, .bin .lss (.t s013) (.c (.int .i64 96)), none⟩])
 (.seq (.cond (.t s014)
 (.skip)
 (.exit 0))
 (.seq (.block 1
 (.seq (.region [xm s015 s013,
 ⟨some s016, .indexV false 1 96 (.t s012) (.t s013), none⟩,
 xm s006 s015,
 xm s007 s016])
 (.seq (.region [xm s017 s007,
 ⟨some s020, .mkfn 34 [] [(.t s003)], none⟩,
 ⟨some s021, .call 33 [(.t s017), (.t s020)], none⟩,
 xm s010 s021])
 (.seq (.region [xm s022 s010,
 ⟨some s023, .bin .geq (.t s022) (.c (.int .i64 0)), none⟩])
 (.cond (.t s023)
 (.seq (.region [xm s024 s006,
 xm s025 s010,
 xm s004 s024,
 xm s005 s025])
 (.ret))
 (.skip))))))
 (.region [⟨some s026, .bin .add (.t s013) (.c (.int .i64 1)), none⟩,
 xm s013 s026])))))))
 (.seq (.region [⟨some s004, .move (.c (.int .i64 (-1))), none⟩,
 ⟨some s005, .move (.c (.int .i64 0)), none⟩])
 (.ret)))
def r_wheel_find : List XR := [.tmp s004, .tmp s005]
theorem ok_wheel_find : okC Try.prog Try.f15.ntmps (bodyOf Try.f15) x_wheel_find = true := by kernel_rfl
theorem okr_wheel_find : okRs Try.prog Try.f15.results.toList r_wheel_find = true := by kernel_rfl

/-- wheel.count -/
def x_wheel_count : XC :=
 .seq (.region [⟨some s001, .box 0 97 (.t s000), none⟩,
 ⟨some s002, .move (.c (.int .i64 0)), none⟩])
 (.seq (.region [⟨some s003, .move (.c (.int .i64 0)), none⟩])
 (.seq (.seq (.region [xf 1 s006 s001,
 ⟨some s007, .load true 96 (.t s006), none⟩,
 ⟨some s010, .move (.c (.int .i64 0)), none⟩])
 (.block 0
 (.loop
 (.seq (.region [⟨some s011, .bin .lss (.t s010) (.c (.int .i64 96)), none⟩])
 (.seq (.cond (.t s011)
 (.skip)
 (.exit 0))
 (.seq (.block 1
 (.seq (.region [⟨some s012, .indexV false 1 96 (.t s007) (.t s010), none⟩,
 xm s005 s012])
 (.region [xm s013 s003,
 xm s014 s005,
 ⟨some s015, .len (.t s014), none⟩,
 ⟨some s016, .bin .add (.t s013) (.t s015), none⟩,
 xm s003 s016])))
 (.region [⟨some s017, .bin .add (.t s010) (.c (.int .i64 1)), none⟩,
 xm s010 s017])))))))
 (.seq (.region [xm s020 s003,
 xm s002 s020])
 (.ret))))
def r_wheel_count : List XR := [.tmp s002]
theorem ok_wheel_count : okC Try.prog Try.f16.ntmps (bodyOf Try.f16) x_wheel_count = true := by kernel_rfl
theorem okr_wheel_count : okRs Try.prog Try.f16.results.toList r_wheel_count = true := by kernel_rfl

/-- wheel.own -/
def x_wheel_own : XC :=
 .seq (.region [⟨some s001, .box 0 97 (.t s000), none⟩,
 ⟨some s002, .alloc 1 zv_api_Wheel, none⟩])
 (.seq (.seq (.region [⟨some s004, .move (.c (.int .i64 0)), none⟩])
 (.block 0
 (.loop
 (.seq (.region [⟨some s005, .bin .lss (.t s004) (.c (.int .i64 96)), none⟩])
 (.seq (.cond (.t s005)
 (.skip)
 (.exit 0))
 (.seq (.block 1
 (.seq (.region [xm s006 s004,
 xm s003 s006])
 (.region [xm s007 s003,
 xm s010 s003,
 xf 1 s011 s001,
 ⟨some s012, .indexArr 1 96 (.t s011) (.t s010), none⟩,
 xl s013 s012,
 ⟨some s014, .call 26 [(.t s013)], none⟩,
 xf 1 s015 s001,
 ⟨some s016, .indexArr 1 96 (.t s015) (.t s007), none⟩,
 ⟨none, .store 1 (.t s016) (.t s014), none⟩])))
 (.region [⟨some s017, .bin .add (.t s004) (.c (.int .i64 1)), none⟩,
 xm s004 s017])))))))
 (.seq (.region [⟨some s020, .load true 97 (.t s001), none⟩,
 ⟨none, .store 97 (.t s002) (.t s020), none⟩])
 (.ret)))
def r_wheel_own : List XR := [.cell s002 true 97]
theorem ok_wheel_own : okC Try.prog Try.f17.ntmps (bodyOf Try.f17) x_wheel_own = true := by kernel_rfl
theorem okr_wheel_own : okRs Try.prog Try.f17.results.toList r_wheel_own = true := by kernel_rfl

/-- wheel.put -/
def x_wheel_put : XC :=
 .seq (.region [⟨some s003, .box 1 2 (.t s001), none⟩])
 (.seq (.regionD [0, 1, 3, 7, 0, 16, 63, 127] [xm s005 s000,
 ⟨some s006, .nilCheck (.t s005), none⟩,
 xf 0 s007 s006,
 xl s010 s007,
 xf 1 s011 s003,
 xl s012 s011,
 ⟨some s013, .call 28 [(.t s010), (.t s012)], none⟩,
 xm s004 s013])
 (.regionD [0, 0, 0, 0, 4, 20, 60, 124, 0, 256, 1020, 1, 2049, 8191, 16383] [xm s014 s000,
 xm s015 s004,
 xm s016 s000,
 xm s017 s004,
 ⟨some s020, .nilCheck (.t s016), none⟩,
 xf 1 s021 s020,
 ⟨some s022, .indexArr 1 96 (.t s021) (.t s017), none⟩,
 xl s023 s022,
 ⟨some s024, .load true 2 (.t s003), none⟩,
 ⟨some s025, .buildSlice 2 1 [.int .i64 0, .int .i64 0] [(0, (.t s024))], none⟩,
 ⟨some s026, .append 3 2 16 (.t s023) (.t s025), none⟩,
 ⟨some s027, .nilCheck (.t s014), none⟩,
 xf 1 s030 s027,
 ⟨some s031, .indexArr 1 96 (.t s030) (.t s015), none⟩,
 ⟨none, .store 1 (.t s031) (.t s026), none⟩]))
def r_wheel_put : List XR := []
theorem ok_wheel_put : okC Try.prog Try.f18.ntmps (bodyOf Try.f18) x_wheel_put = true := by kernel_rfl
theorem okr_wheel_put : okRs Try.prog Try.f18.results.toList r_wheel_put = true := by kernel_rfl

/-- custref.AllDue -/
def x_custref_AllDue : XC :=
 .seq (.region [⟨some s001, .box 0 97 (.t s000), none⟩,
 ⟨some s002, .move (.c (.slice none 0 0)), none⟩])
 (.seq (.region [⟨some s003, .move (.c (.slice none 0 0)), none⟩])
 (.seq (.seq (.region [xf 1 s006 s001,
 ⟨some s007, .load true 96 (.t s006), none⟩,
 ⟨some s010, .move (.c (.int .i64 0)), none⟩])
 (.block 0
 (.loop
 (.seq (.region [⟨some s011, .bin .lss (.t s010) (.c (.int .i64 96)), none⟩])
 (.seq (.cond (.t s011)
 (.skip)
 (.exit 0))
 (.seq (.block 1
 (.seq (.region [⟨some s012, .indexV false 1 96 (.t s007) (.t s010), none⟩,
 xm s005 s012])
 (.region [xm s013 s003,
 xm s014 s005,
 ⟨some s015, .append 1 2 16 (.t s013) (.t s014), none⟩,
 xm s003 s015])))
 (.region [⟨some s016, .bin .add (.t s010) (.c (.int .i64 1)), none⟩,
 xm s010 s016])))))))
 (.seq (.region [xm s017 s003,
 xm s002 s017])
 (.ret))))
def r_custref_AllDue : List XR := [.tmp s002]
theorem ok_custref_AllDue : okC Try.prog Try.f19.ntmps (bodyOf Try.f19) x_custref_AllDue = true := by kernel_rfl
theorem okr_custref_AllDue : okRs Try.prog Try.f19.results.toList r_custref_AllDue = true := by kernel_rfl

/-- custref.Between -/
def x_custref_Between : XC :=
 .seq (.region [⟨some s006, .move (.c (.bool false)), none⟩])
 (.seq (.region [xm s007 s001,
 xm s010 s000,
 ⟨some s011, .bin .leq (.t s007) (.t s010), none⟩,
 xm s012 s011,
 ⟨some s013, .move (.t s000), some (s012, true)⟩,
 ⟨some s014, .move (.t s002), some (s012, true)⟩,
 ⟨some s015, .bin .leq (.t s013) (.t s014), some (s012, true)⟩,
 ⟨some s016, .pick (.t s012) (.t s015) (.c (.bool false)), none⟩,
 xm s006 s016])
 (.ret))
def r_custref_Between : List XR := [.tmp s006]
theorem ok_custref_Between : okC Try.prog Try.f20.ntmps (bodyOf Try.f20) x_custref_Between = true := by kernel_rfl
theorem okr_custref_Between : okRs Try.prog Try.f20.results.toList r_custref_Between = true := by kernel_rfl

/-- slices.ContainsFunc -/
def x_slices_ContainsFunc_api_Due : XC :=
 .seq (.region [⟨some s004, .move (.c (.bool false)), none⟩])
 (.seq (.region [xm s005 s000,
 xm s006 s001,
 ⟨some s007, .call 33 [(.t s005), (.t s006)], none⟩,
 ⟨some s010, .bin .geq (.t s007) (.c (.int .i64 0)), none⟩,
 xm s004 s010])
 (.ret))
def r_slices_ContainsFunc_api_Due : List XR := [.tmp s004]
theorem ok_slices_ContainsFunc_api_Due : okC Try.prog Try.f21.ntmps (bodyOf Try.f21) x_slices_ContainsFunc_api_Due = true := by kernel_rfl
theorem okr_slices_ContainsFunc_api_Due : okRs Try.prog Try.f21.results.toList r_slices_ContainsFunc_api_Due = true := by kernel_rfl

/-- custref.WheelSet-1 -/
def x_custref_WheelSet_1 : XC :=
 .seq (.region [⟨some s002, .box 0 2 (.t s000), none⟩,
 ⟨some s003, .move (.c (.bool false)), none⟩])
 (.seq (.region [xf 0 s004 s002,
 xl s005 s004,
 xl s006 s001,
 ⟨some s007, .bin .eql (.t s005) (.t s006), none⟩,
 xm s003 s007])
 (.ret))
def r_custref_WheelSet_1 : List XR := [.tmp s003]
theorem ok_custref_WheelSet_1 : okC Try.prog Try.f22.ntmps (bodyOf Try.f22) x_custref_WheelSet_1 = true := by kernel_rfl
theorem okr_custref_WheelSet_1 : okRs Try.prog Try.f22.results.toList r_custref_WheelSet_1 = true := by kernel_rfl

/-- custref.WheelOf -/
def x_custref_WheelOf : XC :=
 .seq (.region [⟨some s004, .alloc 1 zv_api_Wheel, none⟩])
 (.seq (.region [xm s011 s000,
 ⟨some s012, .build zv_api_Wheel [(0, 1, (.t s011))], none⟩,
 ⟨some s005, .alloc 2 zv_api_Wheel, none⟩,
 ⟨none, .store 97 (.t s005) (.t s012), none⟩])
 (.seq (.seq (.region [xm s013 s001,
 ⟨some s014, .len (.t s013), none⟩,
 ⟨some s015, .move (.c (.int .i64 0)), none⟩])
 (.block 0
 (.loop
 (.seq (.region [⟨some s016, .bin .lss (.t s015) (.t s014), none⟩])
 (.seq (.cond (.t s016)
 (.skip)
 (.exit 0))
 (.seq (.block 1
 (.seq (.region [⟨some s017, .indexSl 2 (.t s013) (.t s015), none⟩,
 ⟨some s020, .load true 2 (.t s017), none⟩,
 ⟨some s007, .alloc 3 [.int .i64 0, .int .i64 0], none⟩,
 ⟨none, .store 2 (.t s007) (.t s020), none⟩])
 (.seq (.region [xm s021 s000,
 xf 1 s022 s007,
 xl s023 s022,
 ⟨some s024, .call 35 [(.t s021), (.t s023)], none⟩,
 xm s010 s024])
 (.regionD [0, 0, 0, 6, 14, 0, 32, 126, 0, 511, 1023] [xm s025 s010,
 xm s026 s010,
 xf 1 s027 s005,
 ⟨some s030, .indexArr 1 96 (.t s027) (.t s026), none⟩,
 xl s031 s030,
 ⟨some s032, .load true 2 (.t s007), none⟩,
 ⟨some s033, .buildSlice 4 1 [.int .i64 0, .int .i64 0] [(0, (.t s032))], none⟩,
 ⟨some s034, .append 5 2 16 (.t s031) (.t s033), none⟩,
 xf 1 s035 s005,
 ⟨some s036, .indexArr 1 96 (.t s035) (.t s025), none⟩,
 ⟨none, .store 1 (.t s036) (.t s034), none⟩]))))
 (.region [⟨some s037, .bin .add (.t s015) (.c (.int .i64 1)), none⟩,
 xm s015 s037])))))))
 (.seq (.region [⟨some s040, .load true 97 (.t s005), none⟩,
 ⟨none, .store 97 (.t s004) (.t s040), none⟩])
 (.ret))))
def r_custref_WheelOf : List XR := [.cell s004 true 97]
theorem ok_custref_WheelOf : okC Try.prog Try.f23.ntmps (bodyOf Try.f23) x_custref_WheelOf = true := by kernel_rfl
theorem okr_custref_WheelOf : okRs Try.prog Try.f23.results.toList r_custref_WheelOf = true := by kernel_rfl

/-- slices.Delete -/
def x_slices_Delete_api_Due : XC :=
 .seq (.region [⟨some s006, .move (.c (.slice none 0 0)), none⟩])
 (.seq (.region [xm s010 s000,
 xm s011 s001,
 xm s012 s002,
 xm s013 s000,
 ⟨some s014, .len (.t s013), none⟩,
 ⟨some s015, .sliceW 2 (.t s010) (some (.t s011)) (some (.t s012)) (some (.t s014)), none⟩])
 (.seq (.seq (.region [xm s016 s001,
 xm s017 s002,
 ⟨some s020, .bin .eql (.t s016) (.t s017), none⟩])
 (.cond (.t s020)
 (.seq (.region [xm s021 s000,
 xm s006 s021])
 (.ret))
 (.skip)))
 (.seq (.region [xm s022 s000,
 ⟨some s023, .len (.t s022), none⟩,
 xm s007 s023])
 (.seq (.regionD [0, 0, 3, 0, 0, 24, 63, 127] [xm s024 s000,
 xm s025 s001,
 ⟨some s026, .sliceW 2 (.t s024) none (some (.t s025)) none, none⟩,
 xm s027 s000,
 xm s030 s002,
 ⟨some s031, .slice 2 (.t s027) (some (.t s030)) none none, none⟩,
 ⟨some s032, .appendW 2 16 (.t s026) (.t s031), none⟩,
 xm s000 s032])
 (.seq (.region [xm s033 s000,
 xm s034 s000,
 ⟨some s035, .len (.t s034), none⟩,
 xm s036 s007,
 ⟨some s037, .sliceW 2 (.t s033) (some (.t s035)) (some (.t s036)) none, none⟩,
 ⟨none, .clear [.int .i64 0, .int .i64 0] (.t s037), none⟩])
 (.seq (.region [xm s040 s000,
 xm s006 s040])
 (.ret)))))))
def r_slices_Delete_api_Due : List XR := [.tmp s006]
theorem ok_slices_Delete_api_Due : okC Try.prog Try.f24.ntmps (bodyOf Try.f24) x_slices_Delete_api_Due = true := by kernel_rfl
theorem okr_slices_Delete_api_Due : okRs Try.prog Try.f24.results.toList r_slices_Delete_api_Due = true := by kernel_rfl

/-- slices.DeleteFunc -/
def x_slices_DeleteFunc_api_Due : XC :=
 .seq (.region [⟨some s004, .move (.c (.slice none 0 0)), none⟩])
 (.seq (.region [xm s010 s000,
 xm s011 s001,
 ⟨some s012, .call 33 [(.t s010), (.t s011)], none⟩,
 xm s005 s012])
 (.seq (.seq (.region [xm s013 s005,
 ⟨some s014, .bin .eql (.t s013) (.c (.int .i64 (-1))), none⟩])
 (.cond (.t s014)
 (.seq (.region [xm s015 s000,
 xm s004 s015])
 (.ret))
 (.skip)))
 (.seq (.seq (.region [xm s016 s005,
 ⟨some s017, .bin .add (.t s016) (.c (.int .i64 1)), none⟩,
 xm s006 s017])
 (.block 0
 (.loop
 (.seq (.seq (.region [xm s020 s006,
 xm s021 s000,
 ⟨some s022, .len (.t s021), none⟩,
 ⟨some s023, .bin .lss (.t s020) (.t s022), none⟩])
 (.cond (.t s023)
 (.skip)
 (.exit 0)))
 (.seq (.block 1
 (.seq (.region [xm s026 s000,
 xm s027 s006,
 ⟨some s030, .indexSl 2 (.t s026) (.t s027), none⟩,
 ⟨some s031, .load true 2 (.t s030), none⟩,
 ⟨some s007, .alloc 1 [.int .i64 0, .int .i64 0], none⟩,
 ⟨none, .store 2 (.t s007) (.t s031), none⟩])
 (.seq (.region [xm s032 s001,
 ⟨some s033, .load true 2 (.t s007), none⟩,
 ⟨some s034, .callv (.t s032) [(.t s033)], none⟩,
 ⟨some s035, .un .not (.t s034), none⟩])
 (.cond (.t s035)
 (.seq (.region [xm s036 s000,
 xm s037 s005,
 ⟨some s040, .load true 2 (.t s007), none⟩,
 ⟨some s041, .indexSl 2 (.t s036) (.t s037), none⟩,
 ⟨none, .store 2 (.t s041) (.t s040), none⟩])
 (.region [xm s042 s005,
 ⟨some s043, .bin .add (.t s042) (.c (.int .i64 1)), none⟩,
 xm s005 s043]))
 (.skip)))))
 (.region [xm s024 s006,
 ⟨some s025, .bin .add (.t s024) (.c (.int .i64 1)), none⟩,
 xm s006 s025]))))))
 (.seq (.region [xm s044 s000,
 xm s045 s005,
 ⟨some s046, .slice 2 (.t s044) (some (.t s045)) none none, none⟩,
 ⟨none, .clear [.int .i64 0, .int .i64 0] (.t s046), none⟩])
 (.seq (.region [xm s047 s000,
 xm s050 s005,
 ⟨some s051, .slice 2 (.t s047) none (some (.t s050)) none, none⟩,
 xm s004 s051])
 (.ret))))))
def r_slices_DeleteFunc_api_Due : List XR := [.tmp s004]
theorem ok_slices_DeleteFunc_api_Due : okC Try.prog Try.f25.ntmps (bodyOf Try.f25) x_slices_DeleteFunc_api_Due = true := by kernel_rfl
theorem okr_slices_DeleteFunc_api_Due : okRs Try.prog Try.f25.results.toList r_slices_DeleteFunc_api_Due = true := by kernel_rfl

/-- slices.Clone -/
def x_slices_Clone_api_Due : XC :=
 .seq (.region [⟨some s002, .move (.c (.slice none 0 0)), none⟩])
 (.seq (.seq (.region [xm s003 s000,
 ⟨some s004, .isnil false (.t s003), none⟩])
 (.cond (.t s004)
 (.seq (.region [⟨some s002, .move (.c (.slice none 0 0)), none⟩])
 (.ret))
 (.skip)))
 (.seq (.region [⟨some s005, .buildSlice 0 0 [.int .i64 0, .int .i64 0] [], none⟩,
 xm s006 s000,
 ⟨some s007, .append 1 2 16 (.t s005) (.t s006), none⟩,
 xm s002 s007])
 (.ret)))
def r_slices_Clone_api_Due : List XR := [.tmp s002]
theorem ok_slices_Clone_api_Due : okC Try.prog Try.f26.ntmps (bodyOf Try.f26) x_slices_Clone_api_Due = true := by kernel_rfl
theorem okr_slices_Clone_api_Due : okRs Try.prog Try.f26.results.toList r_slices_Clone_api_Due = true := by kernel_rfl

/-- custref.WheelStop-1 -/
def x_custref_WheelStop_1 : XC :=
 .seq (.region [⟨some s002, .box 0 2 (.t s000), none⟩,
 ⟨some s003, .move (.c (.bool false)), none⟩])
 (.seq (.region [xf 0 s004 s002,
 xl s005 s004,
 xl s006 s001,
 ⟨some s007, .bin .eql (.t s005) (.t s006), none⟩,
 xm s003 s007])
 (.ret))
def r_custref_WheelStop_1 : List XR := [.tmp s003]
theorem ok_custref_WheelStop_1 : okC Try.prog Try.f27.ntmps (bodyOf Try.f27) x_custref_WheelStop_1 = true := by kernel_rfl
theorem okr_custref_WheelStop_1 : okRs Try.prog Try.f27.results.toList r_custref_WheelStop_1 = true := by kernel_rfl

/-- wheel.list -/
def x_wheel_list : XC :=
 .seq (.region [⟨some s004, .move (.c (.int .i64 0)), none⟩])
 (.seq (.region [xm s006 s000,
 xm s007 s001,
 ⟨some s010, .bin .xor (.t s006) (.t s007), none⟩,
 ⟨some s011, .convInt .u64 (.t s010), none⟩,
 ⟨some s012, .call 36 [(.t s011)], none⟩,
 ⟨some s013, .bin .sub (.t s012) (.c (.int .i64 1)), none⟩,
 ⟨some s014, .bin .quo (.t s013) (.c (.int .i64 4)), none⟩,
 xm s005 s014])
 (.seq (.region [xm s015 s005,
 ⟨some s016, .bin .mul (.c (.int .i64 16)) (.t s015), none⟩,
 xm s017 s001,
 xm s020 s005,
 ⟨some s021, .bin .mul (.c (.int .i64 4)) (.t s020), none⟩,
 ⟨some s022, .bin .shr (.t s017) (.t s021), none⟩,
 ⟨some s023, .bin .and (.t s022) (.c (.int .i64 15)), none⟩,
 ⟨some s024, .bin .add (.t s016) (.t s023), none⟩,
 xm s004 s024])
 (.ret)))
def r_wheel_list : List XR := [.tmp s004]
theorem ok_wheel_list : okC Try.prog Try.f28.ntmps (bodyOf Try.f28) x_wheel_list = true := by kernel_rfl
theorem okr_wheel_list : okRs Try.prog Try.f28.results.toList r_wheel_list = true := by kernel_rfl

/-- custref.WheelRight-1 -/
def x_custref_WheelRight_1 : XC :=
 .seq (.region [⟨some s002, .box 0 2 (.t s000), none⟩,
 ⟨some s003, .move (.c (.bool false)), none⟩])
 (.seq (.region [xf 0 s004 s002,
 xl s005 s004,
 xf 0 s006 s001,
 xl s007 s006,
 ⟨some s010, .bin .eql (.t s005) (.t s007), none⟩,
 xm s003 s010])
 (.ret))
def r_custref_WheelRight_1 : List XR := [.tmp s003]
theorem ok_custref_WheelRight_1 : okC Try.prog Try.f29.ntmps (bodyOf Try.f29) x_custref_WheelRight_1 = true := by kernel_rfl
theorem okr_custref_WheelRight_1 : okRs Try.prog Try.f29.results.toList r_custref_WheelRight_1 = true := by kernel_rfl

/-- wheel.turn -/
def x_wheel_turn : XC :=
 .seq (.region [⟨some s002, .move (.c (.slice none 0 0)), none⟩])
 (.seq (.region [xm s011 s000,
 ⟨some s012, .nilCheck (.t s011), none⟩,
 xf 0 s013 s012,
 xl s014 s013,
 ⟨some s015, .bin .add (.t s014) (.c (.int .i64 1)), none⟩,
 ⟨some s016, .nilCheck (.t s011), none⟩,
 xf 0 s017 s016,
 ⟨none, .store 1 (.t s017) (.t s015), none⟩])
 (.seq (.region [⟨some s003, .move (.c (.slice none 0 0)), none⟩])
 (.seq (.seq (.region [⟨some s004, .move (.c (.int .i64 5)), none⟩])
 (.block 0
 (.loop
 (.seq (.seq (.region [xm s020 s004,
 ⟨some s021, .bin .geq (.t s020) (.c (.int .i64 0)), none⟩])
 (.cond (.t s021)
 (.skip)
 (.exit 0)))
 (.seq (.block 1
 (.seq (.seq (.regionD [0, 1, 3, 7, 0, 16, 48, 112, 255, 511] [xm s024 s000,
 ⟨some s025, .nilCheck (.t s024), none⟩,
 xf 0 s026 s025,
 xl s027 s026,
 xm s030 s004,
 ⟨some s031, .bin .mul (.c (.int .i64 4)) (.t s030), none⟩,
 ⟨some s032, .bin .shl (.c (.int .i64 1)) (.t s031), none⟩,
 ⟨some s033, .bin .sub (.t s032) (.c (.int .i64 1)), none⟩,
 ⟨some s034, .bin .and (.t s027) (.t s033), none⟩,
 ⟨some s035, .bin .neq (.t s034) (.c (.int .i64 0)), none⟩])
 (.cond (.t s035)
 (.exit 1)
 (.skip)))
 (.seq (.region [xm s036 s004,
 ⟨some s037, .bin .mul (.c (.int .i64 16)) (.t s036), none⟩,
 xm s040 s000,
 ⟨some s041, .nilCheck (.t s040), none⟩,
 xf 0 s042 s041,
 xl s043 s042,
 xm s044 s004,
 ⟨some s045, .bin .mul (.c (.int .i64 4)) (.t s044), none⟩,
 ⟨some s046, .bin .shr (.t s043) (.t s045), none⟩,
 ⟨some s047, .bin .and (.t s046) (.c (.int .i64 15)), none⟩,
 ⟨some s050, .bin .add (.t s037) (.t s047), none⟩,
 xm s005 s050])
 (.seq (.region [xm s051 s000,
 xm s052 s005,
 ⟨some s053, .nilCheck (.t s051), none⟩,
 xf 1 s054 s053,
 ⟨some s055, .indexArr 1 96 (.t s054) (.t s052), none⟩,
 xl s056 s055,
 xm s006 s056])
 (.seq (.region [xm s057 s000,
 xm s060 s005,
 ⟨some s061, .nilCheck (.t s057), none⟩,
 xf 1 s062 s061,
 ⟨some s063, .indexArr 1 96 (.t s062) (.t s060), none⟩,
 ⟨none, .store 1 (.t s063) (.c (.slice none 0 0)), none⟩])
 (.seq (.region [xm s064 s006,
 ⟨some s065, .len (.t s064), none⟩,
 ⟨some s066, .move (.c (.int .i64 0)), none⟩])
 (.block 2
 (.loop
 (.seq (.region [⟨some s067, .bin .lss (.t s066) (.t s065), none⟩])
 (.seq (.cond (.t s067)
 (.skip)
 (.exit 2))
 (.seq (.block 3
 (.seq (.region [⟨some s070, .indexSl 2 (.t s064) (.t s066), none⟩,
 ⟨some s071, .load true 2 (.t s070), none⟩,
 ⟨some s010, .alloc 1 [.int .i64 0, .int .i64 0], none⟩,
 ⟨none, .store 2 (.t s010) (.t s071), none⟩])
 (.seq (.regionD [0, 1, 0, 4, 12, 28, 63] [xf 1 s072 s010,
 xl s073 s072,
 xm s074 s000,
 ⟨some s075, .nilCheck (.t s074), none⟩,
 xf 0 s076 s075,
 xl s077 s076,
 ⟨some s100, .bin .eql (.t s073) (.t s077), none⟩])
 (.cond (.t s100)
 (.region [xm s101 s003,
 ⟨some s102, .load true 2 (.t s010), none⟩,
 ⟨some s103, .buildSlice 2 1 [.int .i64 0, .int .i64 0] [(0, (.t s102))], none⟩,
 ⟨some s104, .append 3 2 16 (.t s101) (.t s103), none⟩,
 xm s003 s104])
 (.region [xm s105 s000,
 ⟨some s106, .load true 2 (.t s010), none⟩,
 ⟨some s107, .call 18 [(.t s105), (.t s106)], none⟩])))))
 (.region [⟨some s110, .bin .add (.t s066) (.c (.int .i64 1)), none⟩,
 xm s066 s110]))))))))))))
 (.region [xm s022 s004,
 ⟨some s023, .bin .sub (.t s022) (.c (.int .i64 1)), none⟩,
 xm s004 s023]))))))
 (.seq (.region [xm s111 s003,
 xm s002 s111])
 (.ret)))))
def r_wheel_turn : List XR := [.tmp s002]
theorem ok_wheel_turn : okC Try.prog Try.f30.ntmps (bodyOf Try.f30) x_wheel_turn = true := by kernel_rfl
theorem okr_wheel_turn : okRs Try.prog Try.f30.results.toList r_wheel_turn = true := by kernel_rfl

/-- slices.SortStableFunc -/
def x_slices_SortStableFunc_api_Due : XC :=
 .region [xm s004 s000,
 xm s005 s000,
 ⟨some s006, .len (.t s005), none⟩,
 xm s007 s001,
 ⟨some s010, .call 37 [(.t s004), (.t s006), (.t s007)], none⟩]
def r_slices_SortStableFunc_api_Due : List XR := []
theorem ok_slices_SortStableFunc_api_Due : okC Try.prog Try.f31.ntmps (bodyOf Try.f31) x_slices_SortStableFunc_api_Due = true := by kernel_rfl
theorem okr_slices_SortStableFunc_api_Due : okRs Try.prog Try.f31.results.toList r_slices_SortStableFunc_api_Due = true := by kernel_rfl

/-- custref.WheelTick-1 -/
def x_custref_WheelTick_1 : XC :=
 .seq (.region [⟨some s002, .box 0 2 (.t s000), none⟩,
 ⟨some s003, .box 1 2 (.t s001), none⟩,
 ⟨some s004, .move (.c (.int .i64 0)), none⟩])
 (.seq (.region [xf 1 s005 s002,
 xl s006 s005,
 xf 1 s007 s003,
 xl s010 s007,
 ⟨some s011, .bin .sub (.t s006) (.t s010), none⟩,
 xm s004 s011])
 (.ret))
def r_custref_WheelTick_1 : List XR := [.tmp s004]
theorem ok_custref_WheelTick_1 : okC Try.prog Try.f32.ntmps (bodyOf Try.f32) x_custref_WheelTick_1 = true := by kernel_rfl
theorem okr_custref_WheelTick_1 : okRs Try.prog Try.f32.results.toList r_custref_WheelTick_1 = true := by kernel_rfl

/-- slices.IndexFunc -/
def x_slices_IndexFunc_api_Due : XC :=
 .seq (.region [⟨some s004, .move (.c (.int .i64 0)), none⟩])
 (.seq (.seq (.region [xm s006 s000,
 ⟨some s007, .len (.t s006), none⟩,
 ⟨some s010, .move (.c (.int .i64 0)), none⟩])
 (.block 0
 (.loop
 (.seq (.region [⟨some s011, .bin .lss (.t s010) (.t s007), none⟩])
 (.seq (.cond (.t s011)
 (.skip)
 (.exit 0))
 (.seq (.block 1
 (.seq (.region [xm s012 s010,
 xm s005 s012])
 (.seq (.region [xm s013 s001,
 xm s014 s000,
 xm s015 s005,
 ⟨some s016, .indexSl 2 (.t s014) (.t s015), none⟩,
 ⟨some s017, .load true 2 (.t s016), none⟩,
 ⟨some s020, .callv (.t s013) [(.t s017)], none⟩])
 (.cond (.t s020)
 (.seq (.region [xm s021 s005,
 xm s004 s021])
 (.ret))
 (.skip)))))
 (.region [⟨some s022, .bin .add (.t s010) (.c (.int .i64 1)), none⟩,
 xm s010 s022])))))))
 (.seq (.region [⟨some s004, .move (.c (.int .i64 (-1))), none⟩])
 (.ret)))
def r_slices_IndexFunc_api_Due : List XR := [.tmp s004]
theorem ok_slices_IndexFunc_api_Due : okC Try.prog Try.f33.ntmps (bodyOf Try.f33) x_slices_IndexFunc_api_Due = true := by kernel_rfl
theorem okr_slices_IndexFunc_api_Due : okRs Try.prog Try.f33.results.toList r_slices_IndexFunc_api_Due = true := by kernel_rfl

/-- wheel.find-1 -/
def x_wheel_find_1 : XC :=
 .seq (.region [⟨some s002, .box 0 2 (.t s000), none⟩,
 ⟨some s003, .move (.c (.bool false)), none⟩])
 (.seq (.region [xf 0 s004 s002,
 xl s005 s004,
 xl s006 s001,
 ⟨some s007, .bin .eql (.t s005) (.t s006), none⟩,
 xm s003 s007])
 (.ret))
def r_wheel_find_1 : List XR := [.tmp s003]
theorem ok_wheel_find_1 : okC Try.prog Try.f34.ntmps (bodyOf Try.f34) x_wheel_find_1 = true := by kernel_rfl
theorem okr_wheel_find_1 : okRs Try.prog Try.f34.results.toList r_wheel_find_1 = true := by kernel_rfl

/-- custref.ListOf -/
def x_custref_ListOf : XC :=
 .seq (.region [⟨some s004, .move (.c (.int .i64 0)), none⟩])
 (.seq (.region [⟨some s005, .move (.c (.int .i64 1048576)), none⟩])
 (.seq (.seq (.region [⟨some s006, .move (.c (.int .i64 5)), none⟩])
 (.block 0
 (.loop
 (.seq (.seq (.region [xm s007 s006,
 ⟨some s010, .bin .geq (.t s007) (.c (.int .i64 0)), none⟩])
 (.cond (.t s010)
 (.skip)
 (.exit 0)))
 (.seq (.block 1
 (.seq (.seq (.regionD [0, 0, 3, 7, 0, 0, 48, 112, 255] [xm s013 s000,
 xm s014 s005,
 ⟨some s015, .bin .quo (.t s013) (.t s014), none⟩,
 ⟨some s016, .bin .rem (.t s015) (.c (.int .i64 16)), none⟩,
 xm s017 s001,
 xm s020 s005,
 ⟨some s021, .bin .quo (.t s017) (.t s020), none⟩,
 ⟨some s022, .bin .rem (.t s021) (.c (.int .i64 16)), none⟩,
 ⟨some s023, .bin .neq (.t s016) (.t s022), none⟩])
 (.cond (.t s023)
 (.seq (.region [xm s024 s006,
 ⟨some s025, .bin .mul (.c (.int .i64 16)) (.t s024), none⟩,
 xm s026 s001,
 xm s027 s005,
 ⟨some s030, .bin .quo (.t s026) (.t s027), none⟩,
 ⟨some s031, .bin .rem (.t s030) (.c (.int .i64 16)), none⟩,
 ⟨some s032, .bin .add (.t s025) (.t s031), none⟩,
 xm s004 s032])
 (.ret))
 (.skip)))
 (.region [xm s033 s005,
 ⟨some s034, .bin .quo (.t s033) (.c (.int .i64 16)), none⟩,
 xm s005 s034])))
 (.region [xm s011 s006,
 ⟨some s012, .bin .sub (.t s011) (.c (.int .i64 1)), none⟩,
 xm s006 s012]))))))
 (.seq (.region [⟨some s004, .move (.c (.int .i64 (-1))), none⟩])
 (.ret))))
def r_custref_ListOf : List XR := [.tmp s004]
theorem ok_custref_ListOf : okC Try.prog Try.f35.ntmps (bodyOf Try.f35) x_custref_ListOf = true := by kernel_rfl
theorem okr_custref_ListOf : okRs Try.prog Try.f35.results.toList r_custref_ListOf = true := by kernel_rfl

/-- bits.Len -/
def x_bits_Len : XC :=
 .seq (.region [⟨some s002, .move (.c (.int .i64 0)), none⟩])
 (.seq (.cond (.c (.bool false))
 (.seq (.region [xm s003 s000,
 ⟨some s004, .convInt .u32 (.t s003), none⟩,
 ⟨some s005, .call 38 [(.t s004)], none⟩,
 xm s002 s005])
 (.ret))
 (.skip))
 (.seq (.region [xm s006 s000,
 ⟨some s007, .call 39 [(.t s006)], none⟩,
 xm s002 s007])
 (.ret)))
def r_bits_Len : List XR := [.tmp s002]
theorem ok_bits_Len : okC Try.prog Try.f36.ntmps (bodyOf Try.f36) x_bits_Len = true := by kernel_rfl
theorem okr_bits_Len : okRs Try.prog Try.f36.results.toList r_bits_Len = true := by kernel_rfl

/-- slices.stableCmpFunc -/
def x_slices_stableCmpFunc_api_Due : XC :=
 .seq (.region [⟨some s006, .move (.c (.int .i64 20)), none⟩])
 (.seq (.region [xm s012 s006,
 ⟨some s007, .move (.c (.int .i64 0)), none⟩,
 xm s010 s012])
 (.seq (.block 0
 (.loop
 (.seq (.seq (.region [xm s013 s010,
 xm s014 s001,
 ⟨some s015, .bin .leq (.t s013) (.t s014), none⟩])
 (.cond (.t s015)
 (.skip)
 (.exit 0)))
 (.block 1
 (.seq (.region [xm s016 s000,
 xm s017 s007,
 xm s020 s010,
 xm s021 s002,
 ⟨some s022, .call 40 [(.t s016), (.t s017), (.t s020), (.t s021)], none⟩])
 (.seq (.region [xm s023 s010,
 xm s007 s023])
 (.region [xm s024 s010,
 xm s025 s006,
 ⟨some s026, .bin .add (.t s024) (.t s025), none⟩,
 xm s010 s026])))))))
 (.seq (.region [xm s027 s000,
 xm s030 s007,
 xm s031 s001,
 xm s032 s002,
 ⟨some s033, .call 40 [(.t s027), (.t s030), (.t s031), (.t s032)], none⟩])
 (.block 2
 (.loop
 (.seq (.seq (.region [xm s034 s006,
 xm s035 s001,
 ⟨some s036, .bin .lss (.t s034) (.t s035), none⟩])
 (.cond (.t s036)
 (.skip)
 (.exit 2)))
 (.block 3
 (.seq (.region [xm s037 s006,
 ⟨some s040, .bin .mul (.c (.int .i64 2)) (.t s037), none⟩,
 ⟨some s007, .move (.c (.int .i64 0)), none⟩,
 xm s010 s040])
 (.seq (.block 4
 (.loop
 (.seq (.seq (.region [xm s041 s010,
 xm s042 s001,
 ⟨some s043, .bin .leq (.t s041) (.t s042), none⟩])
 (.cond (.t s043)
 (.skip)
 (.exit 4)))
 (.block 5
 (.seq (.region [xm s044 s000,
 xm s045 s007,
 xm s046 s007,
 xm s047 s006,
 ⟨some s050, .bin .add (.t s046) (.t s047), none⟩,
 xm s051 s010,
 xm s052 s002,
 ⟨some s053, .call 41 [(.t s044), (.t s045), (.t s050), (.t s051), (.t s052)], none⟩])
 (.seq (.region [xm s054 s010,
 xm s007 s054])
 (.region [xm s055 s010,
 xm s056 s006,
 ⟨some s057, .bin .mul (.c (.int .i64 2)) (.t s056), none⟩,
 ⟨some s060, .bin .add (.t s055) (.t s057), none⟩,
 xm s010 s060])))))))
 (.seq (.seq (.region [xm s061 s007,
 xm s062 s006,
 ⟨some s063, .bin .add (.t s061) (.t s062), none⟩,
 xm s011 s063])
 (.seq (.region [xm s064 s011,
 xm s065 s001,
 ⟨some s066, .bin .lss (.t s064) (.t s065), none⟩])
 (.cond (.t s066)
 (.region [xm s067 s000,
 xm s070 s007,
 xm s071 s011,
 xm s072 s001,
 xm s073 s002,
 ⟨some s074, .call 41 [(.t s067), (.t s070), (.t s071), (.t s072), (.t s073)], none⟩])
 (.skip))))
 (.region [xm s075 s006,
 ⟨some s076, .bin .mul (.t s075) (.c (.int .i64 2)), none⟩,
 xm s006 s076])))))))))))
def r_slices_stableCmpFunc_api_Due : List XR := []
theorem ok_slices_stableCmpFunc_api_Due : okC Try.prog Try.f37.ntmps (bodyOf Try.f37) x_slices_stableCmpFunc_api_Due = true := by kernel_rfl
theorem okr_slices_stableCmpFunc_api_Due : okRs Try.prog Try.f37.results.toList r_slices_stableCmpFunc_api_Due = true := by kernel_rfl

/-- bits.Len32 -/
def x_bits_Len32 : XC :=
 .seq (.region [⟨some s002, .move (.c (.int .i64 0)), none⟩])
 (.seq (.seq (.region [xm s003 s000,
 ⟨some s004, .bin .geq (.t s003) (.c (.int .u32 65536)), none⟩])
 (.cond (.t s004)
 (.seq (.region [xm s005 s000,
 ⟨some s006, .bin .shr (.t s005) (.c (.int .u64 16)), none⟩,
 xm s000 s006])
 (.region [⟨some s002, .move (.c (.int .i64 16)), none⟩]))
 (.skip)))
 (.seq (.seq (.region [xm s007 s000,
 ⟨some s010, .bin .geq (.t s007) (.c (.int .u32 256)), none⟩])
 (.cond (.t s010)
 (.seq (.region [xm s011 s000,
 ⟨some s012, .bin .shr (.t s011) (.c (.int .u64 8)), none⟩,
 xm s000 s012])
 (.region [xm s013 s002,
 ⟨some s014, .bin .add (.t s013) (.c (.int .i64 8)), none⟩,
 xm s002 s014]))
 (.skip)))
 (.seq (.region [xm s015 s002,
 xm s016 s000,
 ⟨some s017, .convInt .u8 (.t s016), none⟩,
 ⟨some s020, .strAt (.c (.string { data := #[0, 1, 2, 2, 3, 3, 3, 3, 4, 4, 4, 4, 4, 4, 4, 4, 5, 5, 5, 5, 5, 5, 5, 5, 5, 5, 5, 5, 5, 5, 5, 5, 6, 6, 6, 6, 6, 6, 6, 6, 6, 6, 6, 6, 6, 6, 6, 6, 6, 6, 6, 6, 6, 6, 6, 6, 6, 6, 6, 6, 6, 6, 6, 6, 7, 7, 7, 7, 7, 7, 7, 7, 7, 7, 7, 7, 7, 7, 7, 7, 7, 7, 7, 7, 7, 7, 7, 7, 7, 7, 7, 7, 7, 7, 7, 7, 7, 7, 7, 7, 7, 7, 7, 7, 7, 7, 7, 7, 7, 7, 7, 7, 7, 7, 7, 7, 7, 7, 7, 7, 7, 7, 7, 7, 7, 7, 7, 7, 8, 8, 8, 8, 8, 8, 8, 8, 8, 8, 8, 8, 8, 8, 8, 8, 8, 8, 8, 8, 8, 8, 8, 8, 8, 8, 8, 8, 8, 8, 8, 8, 8, 8, 8, 8, 8, 8, 8, 8, 8, 8, 8, 8, 8, 8, 8, 8, 8, 8, 8, 8, 8, 8, 8, 8, 8, 8, 8, 8, 8, 8, 8, 8, 8, 8, 8, 8, 8, 8, 8, 8, 8, 8, 8, 8, 8, 8, 8, 8, 8, 8, 8, 8, 8, 8, 8, 8, 8, 8, 8, 8, 8, 8, 8, 8, 8, 8, 8, 8, 8, 8, 8, 8, 8, 8, 8, 8, 8, 8, 8, 8, 8, 8, 8, 8, 8, 8, 8, 8, 8, 8, 8, 8, 8, 8, 8, 8] })) (.t s017), none⟩,
 ⟨some s021, .convInt .i64 (.t s020), none⟩,
 ⟨some s022, .bin .add (.t s015) (.t s021), none⟩,
 xm s002 s022])
 (.ret))))
def r_bits_Len32 : List XR := [.tmp s002]
theorem ok_bits_Len32 : okC Try.prog Try.f38.ntmps (bodyOf Try.f38) x_bits_Len32 = true := by kernel_rfl
theorem okr_bits_Len32 : okRs Try.prog Try.f38.results.toList r_bits_Len32 = true := by kernel_rfl

/-- bits.Len64 -/
def x_bits_Len64 : XC :=
 .seq (.region [⟨some s002, .move (.c (.int .i64 0)), none⟩])
 (.seq (.seq (.region [xm s003 s000,
 ⟨some s004, .bin .geq (.t s003) (.c (.int .u64 4294967296)), none⟩])
 (.cond (.t s004)
 (.seq (.region [xm s005 s000,
 ⟨some s006, .bin .shr (.t s005) (.c (.int .u64 32)), none⟩,
 xm s000 s006])
 (.region [⟨some s002, .move (.c (.int .i64 32)), none⟩]))
 (.skip)))
 (.seq (.seq (.region [xm s007 s000,
 ⟨some s010, .bin .geq (.t s007) (.c (.int .u64 65536)), none⟩])
 (.cond (.t s010)
 (.seq (.region [xm s011 s000,
 ⟨some s012, .bin .shr (.t s011) (.c (.int .u64 16)), none⟩,
 xm s000 s012])
 (.region [xm s013 s002,
 ⟨some s014, .bin .add (.t s013) (.c (.int .i64 16)), none⟩,
 xm s002 s014]))
 (.skip)))
 (.seq (.seq (.region [xm s015 s000,
 ⟨some s016, .bin .geq (.t s015) (.c (.int .u64 256)), none⟩])
 (.cond (.t s016)
 (.seq (.region [xm s017 s000,
 ⟨some s020, .bin .shr (.t s017) (.c (.int .u64 8)), none⟩,
 xm s000 s020])
 (.region [xm s021 s002,
 ⟨some s022, .bin .add (.t s021) (.c (.int .i64 8)), none⟩,
 xm s002 s022]))
 (.skip)))
 (.seq (.region [xm s023 s002,
 xm s024 s000,
 ⟨some s025, .convInt .u8 (.t s024), none⟩,
 ⟨some s026, .strAt (.c (.string { data := #[0, 1, 2, 2, 3, 3, 3, 3, 4, 4, 4, 4, 4, 4, 4, 4, 5, 5, 5, 5, 5, 5, 5, 5, 5, 5, 5, 5, 5, 5, 5, 5, 6, 6, 6, 6, 6, 6, 6, 6, 6, 6, 6, 6, 6, 6, 6, 6, 6, 6, 6, 6, 6, 6, 6, 6, 6, 6, 6, 6, 6, 6, 6, 6, 7, 7, 7, 7, 7, 7, 7, 7, 7, 7, 7, 7, 7, 7, 7, 7, 7, 7, 7, 7, 7, 7, 7, 7, 7, 7, 7, 7, 7, 7, 7, 7, 7, 7, 7, 7, 7, 7, 7, 7, 7, 7, 7, 7, 7, 7, 7, 7, 7, 7, 7, 7, 7, 7, 7, 7, 7, 7, 7, 7, 7, 7, 7, 7, 8, 8, 8, 8, 8, 8, 8, 8, 8, 8, 8, 8, 8, 8, 8, 8, 8, 8, 8, 8, 8, 8, 8, 8, 8, 8, 8, 8, 8, 8, 8, 8, 8, 8, 8, 8, 8, 8, 8, 8, 8, 8, 8, 8, 8, 8, 8, 8, 8, 8, 8, 8, 8, 8, 8, 8, 8, 8, 8, 8, 8, 8, 8, 8, 8, 8, 8, 8, 8, 8, 8, 8, 8, 8, 8, 8, 8, 8, 8, 8, 8, 8, 8, 8, 8, 8, 8, 8, 8, 8, 8, 8, 8, 8, 8, 8, 8, 8, 8, 8, 8, 8, 8, 8, 8, 8, 8, 8, 8, 8, 8, 8, 8, 8, 8, 8, 8, 8, 8, 8, 8, 8, 8, 8, 8, 8, 8, 8] })) (.t s025), none⟩,
 ⟨some s027, .convInt .i64 (.t s026), none⟩,
 ⟨some s030, .bin .add (.t s023) (.t s027), none⟩,
 xm s002 s030])
 (.ret)))))
def r_bits_Len64 : List XR := [.tmp s002]
theorem ok_bits_Len64 : okC Try.prog Try.f39.ntmps (bodyOf Try.f39) x_bits_Len64 = true := by kernel_rfl
theorem okr_bits_Len64 : okRs Try.prog Try.f39.results.toList r_bits_Len64 = true := by kernel_rfl

/-- slices.insertionSortCmpFunc -/
def x_slices_insertionSortCmpFunc_api_Due : XC :=
 .seq (.region [xm s012 s001,
 ⟨some s013, .bin .add (.t s012) (.c (.int .i64 1)), none⟩,
 xm s010 s013])
 (.block 0
 (.loop
 (.seq (.seq (.region [xm s014 s010,
 xm s015 s002,
 ⟨some s016, .bin .lss (.t s014) (.t s015), none⟩])
 (.cond (.t s016)
 (.skip)
 (.exit 0)))
 (.seq (.block 1
 (.seq (.region [xm s021 s010,
 xm s011 s021])
 (.block 2
 (.loop
 (.seq (.seq (.regionD [0, 0, 3, 7, 15, 15, 15, 111, 239, 15, 15, 1039, 3599, 7695, 16383, 32767, 65535] [xm s022 s011,
 xm s023 s001,
 ⟨some s024, .bin .gtr (.t s022) (.t s023), none⟩,
 xm s025 s024,
 ⟨some s026, .move (.t s003), some (s025, true)⟩,
 ⟨some s027, .move (.t s000), some (s025, true)⟩,
 ⟨some s030, .move (.t s011), some (s025, true)⟩,
 ⟨some s031, .indexSl 2 (.t s027) (.t s030), some (s025, true)⟩,
 ⟨some s032, .load true 2 (.t s031), some (s025, true)⟩,
 ⟨some s033, .move (.t s000), some (s025, true)⟩,
 ⟨some s034, .move (.t s011), some (s025, true)⟩,
 ⟨some s035, .bin .sub (.t s034) (.c (.int .i64 1)), some (s025, true)⟩,
 ⟨some s036, .indexSl 2 (.t s033) (.t s035), some (s025, true)⟩,
 ⟨some s037, .load true 2 (.t s036), some (s025, true)⟩,
 ⟨some s040, .callv (.t s026) [(.t s032), (.t s037)], some (s025, true)⟩,
 ⟨some s041, .bin .lss (.t s040) (.c (.int .i64 0)), some (s025, true)⟩,
 ⟨some s042, .pick (.t s025) (.t s041) (.c (.bool false)), none⟩])
 (.cond (.t s042)
 (.skip)
 (.exit 2)))
 (.seq (.block 3
 (.regionD [0, 0, 0, 0, 8, 0, 0, 64, 224, 480, 0, 0, 3072, 7168, 16355, 32739, 65535, 131071] [xm s045 s000,
 xm s046 s011,
 xm s047 s000,
 xm s050 s011,
 ⟨some s051, .bin .sub (.t s050) (.c (.int .i64 1)), none⟩,
 xm s052 s000,
 xm s053 s011,
 ⟨some s054, .bin .sub (.t s053) (.c (.int .i64 1)), none⟩,
 ⟨some s055, .indexSl 2 (.t s052) (.t s054), none⟩,
 ⟨some s056, .load true 2 (.t s055), none⟩,
 xm s057 s000,
 xm s060 s011,
 ⟨some s061, .indexSl 2 (.t s057) (.t s060), none⟩,
 ⟨some s062, .load true 2 (.t s061), none⟩,
 ⟨some s063, .indexSl 2 (.t s045) (.t s046), none⟩,
 ⟨none, .store 2 (.t s063) (.t s056), none⟩,
 ⟨some s064, .indexSl 2 (.t s047) (.t s051), none⟩,
 ⟨none, .store 2 (.t s064) (.t s062), none⟩]))
 (.region [xm s043 s011,
 ⟨some s044, .bin .sub (.t s043) (.c (.int .i64 1)), none⟩,
 xm s011 s044])))))))
 (.region [xm s017 s010,
 ⟨some s020, .bin .add (.t s017) (.c (.int .i64 1)), none⟩,
 xm s010 s020])))))
def r_slices_insertionSortCmpFunc_api_Due : List XR := []
theorem ok_slices_insertionSortCmpFunc_api_Due : okC Try.prog Try.f40.ntmps (bodyOf Try.f40) x_slices_insertionSortCmpFunc_api_Due = true := by kernel_rfl
theorem okr_slices_insertionSortCmpFunc_api_Due : okRs Try.prog Try.f40.results.toList r_slices_insertionSortCmpFunc_api_Due = true := by kernel_rfl

/-- slices.symMergeCmpFunc -/
def x_slices_symMergeCmpFunc_api_Due : XC :=
 .seq (.seq (.region [xm s031 s002,
 xm s032 s001,
 ⟨some s033, .bin .sub (.t s031) (.t s032), none⟩,
 ⟨some s034, .bin .eql (.t s033) (.c (.int .i64 1)), none⟩])
 (.cond (.t s034)
 (.seq (.region [xm s035 s002,
 xm s012 s035])
 (.seq (.region [xm s036 s003,
 xm s013 s036])
 (.seq (.block 0
 (.loop
 (.seq (.seq (.region [xm s037 s012,
 xm s040 s013,
 ⟨some s041, .bin .lss (.t s037) (.t s040), none⟩])
 (.cond (.t s041)
 (.skip)
 (.exit 0)))
 (.block 1
 (.seq (.region [xm s042 s012,
 xm s043 s013,
 ⟨some s044, .bin .add (.t s042) (.t s043), none⟩,
 ⟨some s045, .convInt .u64 (.t s044), none⟩,
 ⟨some s046, .bin .shr (.t s045) (.c (.int .u64 1)), none⟩,
 ⟨some s047, .convInt .i64 (.t s046), none⟩,
 xm s014 s047])
 (.seq (.regionD [0, 0, 0, 6, 14, 0, 0, 96, 224, 511, 1023] [xm s050 s004,
 xm s051 s000,
 xm s052 s014,
 ⟨some s053, .indexSl 2 (.t s051) (.t s052), none⟩,
 ⟨some s054, .load true 2 (.t s053), none⟩,
 xm s055 s000,
 xm s056 s001,
 ⟨some s057, .indexSl 2 (.t s055) (.t s056), none⟩,
 ⟨some s060, .load true 2 (.t s057), none⟩,
 ⟨some s061, .callv (.t s050) [(.t s054), (.t s060)], none⟩,
 ⟨some s062, .bin .lss (.t s061) (.c (.int .i64 0)), none⟩])
 (.cond (.t s062)
 (.region [xm s063 s014,
 ⟨some s064, .bin .add (.t s063) (.c (.int .i64 1)), none⟩,
 xm s012 s064])
 (.region [xm s065 s014,
 xm s013 s065]))))))))
 (.seq (.seq (.region [xm s066 s001,
 xm s015 s066])
 (.block 2
 (.loop
 (.seq (.seq (.region [xm s067 s015,
 xm s070 s012,
 ⟨some s071, .bin .sub (.t s070) (.c (.int .i64 1)), none⟩,
 ⟨some s072, .bin .lss (.t s067) (.t s071), none⟩])
 (.cond (.t s072)
 (.skip)
 (.exit 2)))
 (.seq (.block 3
 (.regionD [0, 0, 0, 0, 8, 0, 0, 64, 224, 480, 0, 0, 3072, 7168, 16355, 32739, 65535, 131071] [xm s075 s000,
 xm s076 s015,
 xm s077 s000,
 xm s100 s015,
 ⟨some s101, .bin .add (.t s100) (.c (.int .i64 1)), none⟩,
 xm s102 s000,
 xm s103 s015,
 ⟨some s104, .bin .add (.t s103) (.c (.int .i64 1)), none⟩,
 ⟨some s105, .indexSl 2 (.t s102) (.t s104), none⟩,
 ⟨some s106, .load true 2 (.t s105), none⟩,
 xm s107 s000,
 xm s110 s015,
 ⟨some s111, .indexSl 2 (.t s107) (.t s110), none⟩,
 ⟨some s112, .load true 2 (.t s111), none⟩,
 ⟨some s113, .indexSl 2 (.t s075) (.t s076), none⟩,
 ⟨none, .store 2 (.t s113) (.t s106), none⟩,
 ⟨some s114, .indexSl 2 (.t s077) (.t s101), none⟩,
 ⟨none, .store 2 (.t s114) (.t s112), none⟩]))
 (.region [xm s073 s015,
 ⟨some s074, .bin .add (.t s073) (.c (.int .i64 1)), none⟩,
 xm s015 s074]))))))
 (.ret)))))
 (.skip)))
 (.seq (.seq (.region [xm s115 s003,
 xm s116 s002,
 ⟨some s117, .bin .sub (.t s115) (.t s116), none⟩,
 ⟨some s120, .bin .eql (.t s117) (.c (.int .i64 1)), none⟩])
 (.cond (.t s120)
 (.seq (.region [xm s121 s001,
 xm s016 s121])
 (.seq (.region [xm s122 s002,
 xm s017 s122])
 (.seq (.block 4
 (.loop
 (.seq (.seq (.region [xm s123 s016,
 xm s124 s017,
 ⟨some s125, .bin .lss (.t s123) (.t s124), none⟩])
 (.cond (.t s125)
 (.skip)
 (.exit 4)))
 (.block 5
 (.seq (.region [xm s126 s016,
 xm s127 s017,
 ⟨some s130, .bin .add (.t s126) (.t s127), none⟩,
 ⟨some s131, .convInt .u64 (.t s130), none⟩,
 ⟨some s132, .bin .shr (.t s131) (.c (.int .u64 1)), none⟩,
 ⟨some s133, .convInt .i64 (.t s132), none⟩,
 xm s020 s133])
 (.seq (.regionD [0, 0, 0, 6, 14, 0, 0, 96, 224, 511, 1023, 2047] [xm s134 s004,
 xm s135 s000,
 xm s136 s002,
 ⟨some s137, .indexSl 2 (.t s135) (.t s136), none⟩,
 ⟨some s140, .load true 2 (.t s137), none⟩,
 xm s141 s000,
 xm s142 s020,
 ⟨some s143, .indexSl 2 (.t s141) (.t s142), none⟩,
 ⟨some s144, .load true 2 (.t s143), none⟩,
 ⟨some s145, .callv (.t s134) [(.t s140), (.t s144)], none⟩,
 ⟨some s146, .bin .lss (.t s145) (.c (.int .i64 0)), none⟩,
 ⟨some s147, .un .not (.t s146), none⟩])
 (.cond (.t s147)
 (.region [xm s150 s020,
 ⟨some s151, .bin .add (.t s150) (.c (.int .i64 1)), none⟩,
 xm s016 s151])
 (.region [xm s152 s020,
 xm s017 s152]))))))))
 (.seq (.seq (.region [xm s153 s002,
 xm s021 s153])
 (.block 6
 (.loop
 (.seq (.seq (.region [xm s154 s021,
 xm s155 s016,
 ⟨some s156, .bin .gtr (.t s154) (.t s155), none⟩])
 (.cond (.t s156)
 (.skip)
 (.exit 6)))
 (.seq (.block 7
 (.regionD [0, 0, 0, 0, 8, 0, 0, 64, 224, 480, 0, 0, 3072, 7168, 16355, 32739, 65535, 131071] [xm s161 s000,
 xm s162 s021,
 xm s163 s000,
 xm s164 s021,
 ⟨some s165, .bin .sub (.t s164) (.c (.int .i64 1)), none⟩,
 xm s166 s000,
 xm s167 s021,
 ⟨some s170, .bin .sub (.t s167) (.c (.int .i64 1)), none⟩,
 ⟨some s171, .indexSl 2 (.t s166) (.t s170), none⟩,
 ⟨some s172, .load true 2 (.t s171), none⟩,
 xm s173 s000,
 xm s174 s021,
 ⟨some s175, .indexSl 2 (.t s173) (.t s174), none⟩,
 ⟨some s176, .load true 2 (.t s175), none⟩,
 ⟨some s177, .indexSl 2 (.t s161) (.t s162), none⟩,
 ⟨none, .store 2 (.t s177) (.t s172), none⟩,
 ⟨some s200, .indexSl 2 (.t s163) (.t s165), none⟩,
 ⟨none, .store 2 (.t s200) (.t s176), none⟩]))
 (.region [xm s157 s021,
 ⟨some s160, .bin .sub (.t s157) (.c (.int .i64 1)), none⟩,
 xm s021 s160]))))))
 (.ret)))))
 (.skip)))
 (.seq (.region [xm s201 s001,
 xm s202 s003,
 ⟨some s203, .bin .add (.t s201) (.t s202), none⟩,
 ⟨some s204, .convInt .u64 (.t s203), none⟩,
 ⟨some s205, .bin .shr (.t s204) (.c (.int .u64 1)), none⟩,
 ⟨some s206, .convInt .i64 (.t s205), none⟩,
 xm s022 s206])
 (.seq (.region [xm s207 s022,
 xm s210 s002,
 ⟨some s211, .bin .add (.t s207) (.t s210), none⟩,
 xm s023 s211])
 (.seq (.region [⟨some s024, .move (.c (.int .i64 0)), none⟩,
 ⟨some s025, .move (.c (.int .i64 0)), none⟩])
 (.seq (.seq (.region [xm s212 s002,
 xm s213 s022,
 ⟨some s214, .bin .gtr (.t s212) (.t s213), none⟩])
 (.cond (.t s214)
 (.seq (.region [xm s215 s023,
 xm s216 s003,
 ⟨some s217, .bin .sub (.t s215) (.t s216), none⟩,
 xm s024 s217])
 (.region [xm s220 s022,
 xm s025 s220]))
 (.seq (.region [xm s221 s001,
 xm s024 s221])
 (.region [xm s222 s002,
 xm s025 s222]))))
 (.seq (.region [xm s223 s023,
 ⟨some s224, .bin .sub (.t s223) (.c (.int .i64 1)), none⟩,
 xm s026 s224])
 (.seq (.block 8
 (.loop
 (.seq (.seq (.region [xm s225 s024,
 xm s226 s025,
 ⟨some s227, .bin .lss (.t s225) (.t s226), none⟩])
 (.cond (.t s227)
 (.skip)
 (.exit 8)))
 (.block 9
 (.seq (.region [xm s230 s024,
 xm s231 s025,
 ⟨some s232, .bin .add (.t s230) (.t s231), none⟩,
 ⟨some s233, .convInt .u64 (.t s232), none⟩,
 ⟨some s234, .bin .shr (.t s233) (.c (.int .u64 1)), none⟩,
 ⟨some s235, .convInt .i64 (.t s234), none⟩,
 xm s027 s235])
 (.seq (.regionD [0, 0, 0, 0, 12, 30, 62, 0, 0, 384, 896, 2047, 4095, 8191] [xm s236 s004,
 xm s237 s000,
 xm s240 s026,
 xm s241 s027,
 ⟨some s242, .bin .sub (.t s240) (.t s241), none⟩,
 ⟨some s243, .indexSl 2 (.t s237) (.t s242), none⟩,
 ⟨some s244, .load true 2 (.t s243), none⟩,
 xm s245 s000,
 xm s246 s027,
 ⟨some s247, .indexSl 2 (.t s245) (.t s246), none⟩,
 ⟨some s250, .load true 2 (.t s247), none⟩,
 ⟨some s251, .callv (.t s236) [(.t s244), (.t s250)], none⟩,
 ⟨some s252, .bin .lss (.t s251) (.c (.int .i64 0)), none⟩,
 ⟨some s253, .un .not (.t s252), none⟩])
 (.cond (.t s253)
 (.region [xm s254 s027,
 ⟨some s255, .bin .add (.t s254) (.c (.int .i64 1)), none⟩,
 xm s024 s255])
 (.region [xm s256 s027,
 xm s025 s256]))))))))
 (.seq (.region [xm s257 s023,
 xm s260 s024,
 ⟨some s261, .bin .sub (.t s257) (.t s260), none⟩,
 xm s030 s261])
 (.seq (.seq (.region [xm s262 s024,
 xm s263 s002,
 ⟨some s264, .bin .lss (.t s262) (.t s263), none⟩,
 xm s265 s264,
 ⟨some s266, .move (.t s002), some (s265, true)⟩,
 ⟨some s267, .move (.t s030), some (s265, true)⟩,
 ⟨some s270, .bin .lss (.t s266) (.t s267), some (s265, true)⟩,
 ⟨some s271, .pick (.t s265) (.t s270) (.c (.bool false)), none⟩])
 (.cond (.t s271)
 (.region [xm s272 s000,
 xm s273 s024,
 xm s274 s002,
 xm s275 s030,
 xm s276 s004,
 ⟨some s277, .call 42 [(.t s272), (.t s273), (.t s274), (.t s275), (.t s276)], none⟩])
 (.skip)))
 (.seq (.seq (.region [xm s300 s001,
 xm s301 s024,
 ⟨some s302, .bin .lss (.t s300) (.t s301), none⟩,
 xm s303 s302,
 ⟨some s304, .move (.t s024), some (s303, true)⟩,
 ⟨some s305, .move (.t s022), some (s303, true)⟩,
 ⟨some s306, .bin .lss (.t s304) (.t s305), some (s303, true)⟩,
 ⟨some s307, .pick (.t s303) (.t s306) (.c (.bool false)), none⟩])
 (.cond (.t s307)
 (.region [xm s310 s000,
 xm s311 s001,
 xm s312 s024,
 xm s313 s022,
 xm s314 s004,
 ⟨some s315, .call 41 [(.t s310), (.t s311), (.t s312), (.t s313), (.t s314)], none⟩])
 (.skip)))
 (.seq (.region [xm s316 s022,
 xm s317 s030,
 ⟨some s320, .bin .lss (.t s316) (.t s317), none⟩,
 xm s321 s320,
 ⟨some s322, .move (.t s030), some (s321, true)⟩,
 ⟨some s323, .move (.t s003), some (s321, true)⟩,
 ⟨some s324, .bin .lss (.t s322) (.t s323), some (s321, true)⟩,
 ⟨some s325, .pick (.t s321) (.t s324) (.c (.bool false)), none⟩])
 (.cond (.t s325)
 (.region [xm s326 s000,
 xm s327 s022,
 xm s330 s030,
 xm s331 s003,
 xm s332 s004,
 ⟨some s333, .call 41 [(.t s326), (.t s327), (.t s330), (.t s331), (.t s332)], none⟩])
 (.skip)))))))))))))
def r_slices_symMergeCmpFunc_api_Due : List XR := []
theorem ok_slices_symMergeCmpFunc_api_Due : okC Try.prog Try.f41.ntmps (bodyOf Try.f41) x_slices_symMergeCmpFunc_api_Due = true := by kernel_rfl
theorem okr_slices_symMergeCmpFunc_api_Due : okRs Try.prog Try.f41.results.toList r_slices_symMergeCmpFunc_api_Due = true := by kernel_rfl

/-- slices.rotateCmpFunc -/
def x_slices_rotateCmpFunc_api_Due : XC :=
 .seq (.region [xm s014 s002,
 xm s015 s001,
 ⟨some s016, .bin .sub (.t s014) (.t s015), none⟩,
 xm s012 s016])
 (.seq (.region [xm s017 s003,
 xm s020 s002,
 ⟨some s021, .bin .sub (.t s017) (.t s020), none⟩,
 xm s013 s021])
 (.seq (.block 0
 (.loop
 (.seq (.seq (.region [xm s022 s012,
 xm s023 s013,
 ⟨some s024, .bin .neq (.t s022) (.t s023), none⟩])
 (.cond (.t s024)
 (.skip)
 (.exit 0)))
 (.block 1
 (.seq (.region [xm s025 s012,
 xm s026 s013,
 ⟨some s027, .bin .gtr (.t s025) (.t s026), none⟩])
 (.cond (.t s027)
 (.seq (.region [xm s030 s000,
 xm s031 s002,
 xm s032 s012,
 ⟨some s033, .bin .sub (.t s031) (.t s032), none⟩,
 xm s034 s002,
 xm s035 s013,
 xm s036 s004,
 ⟨some s037, .call 43 [(.t s030), (.t s033), (.t s034), (.t s035), (.t s036)], none⟩])
 (.region [xm s040 s012,
 xm s041 s013,
 ⟨some s042, .bin .sub (.t s040) (.t s041), none⟩,
 xm s012 s042]))
 (.seq (.region [xm s043 s000,
 xm s044 s002,
 xm s045 s012,
 ⟨some s046, .bin .sub (.t s044) (.t s045), none⟩,
 xm s047 s002,
 xm s050 s013,
 ⟨some s051, .bin .add (.t s047) (.t s050), none⟩,
 xm s052 s012,
 ⟨some s053, .bin .sub (.t s051) (.t s052), none⟩,
 xm s054 s012,
 xm s055 s004,
 ⟨some s056, .call 43 [(.t s043), (.t s046), (.t s053), (.t s054), (.t s055)], none⟩])
 (.region [xm s057 s013,
 xm s060 s012,
 ⟨some s061, .bin .sub (.t s057) (.t s060), none⟩,
 xm s013 s061]))))))))
 (.region [xm s062 s000,
 xm s063 s002,
 xm s064 s012,
 ⟨some s065, .bin .sub (.t s063) (.t s064), none⟩,
 xm s066 s002,
 xm s067 s012,
 xm s070 s004,
 ⟨some s071, .call 43 [(.t s062), (.t s065), (.t s066), (.t s067), (.t s070)], none⟩])))
def r_slices_rotateCmpFunc_api_Due : List XR := []
theorem ok_slices_rotateCmpFunc_api_Due : okC Try.prog Try.f42.ntmps (bodyOf Try.f42) x_slices_rotateCmpFunc_api_Due = true := by kernel_rfl
theorem okr_slices_rotateCmpFunc_api_Due : okRs Try.prog Try.f42.results.toList r_slices_rotateCmpFunc_api_Due = true := by kernel_rfl

/-- slices.swapRangeCmpFunc -/
def x_slices_swapRangeCmpFunc_api_Due : XC :=
 .seq (.region [⟨some s012, .move (.c (.int .i64 0)), none⟩])
 (.block 0
 (.loop
 (.seq (.seq (.region [xm s013 s012,
 xm s014 s003,
 ⟨some s015, .bin .lss (.t s013) (.t s014), none⟩])
 (.cond (.t s015)
 (.skip)
 (.exit 0)))
 (.seq (.block 1
 (.regionD [0, 0, 0, 6, 0, 0, 0, 96, 0, 0, 0, 1536, 3840, 7936, 0, 0, 0, 98304, 245760, 507904, 1048335, 2096911, 4194303, 8388607] [xm s020 s000,
 xm s021 s001,
 xm s022 s012,
 ⟨some s023, .bin .add (.t s021) (.t s022), none⟩,
 xm s024 s000,
 xm s025 s002,
 xm s026 s012,
 ⟨some s027, .bin .add (.t s025) (.t s026), none⟩,
 xm s030 s000,
 xm s031 s002,
 xm s032 s012,
 ⟨some s033, .bin .add (.t s031) (.t s032), none⟩,
 ⟨some s034, .indexSl 2 (.t s030) (.t s033), none⟩,
 ⟨some s035, .load true 2 (.t s034), none⟩,
 xm s036 s000,
 xm s037 s001,
 xm s040 s012,
 ⟨some s041, .bin .add (.t s037) (.t s040), none⟩,
 ⟨some s042, .indexSl 2 (.t s036) (.t s041), none⟩,
 ⟨some s043, .load true 2 (.t s042), none⟩,
 ⟨some s044, .indexSl 2 (.t s020) (.t s023), none⟩,
 ⟨none, .store 2 (.t s044) (.t s035), none⟩,
 ⟨some s045, .indexSl 2 (.t s024) (.t s027), none⟩,
 ⟨none, .store 2 (.t s045) (.t s043), none⟩]))
 (.region [xm s016 s012,
 ⟨some s017, .bin .add (.t s016) (.c (.int .i64 1)), none⟩,
 xm s012 s017])))))
def r_slices_swapRangeCmpFunc_api_Due : List XR := []
theorem ok_slices_swapRangeCmpFunc_api_Due : okC Try.prog Try.f43.ntmps (bodyOf Try.f43) x_slices_swapRangeCmpFunc_api_Due = true := by kernel_rfl
theorem okr_slices_swapRangeCmpFunc_api_Due : okRs Try.prog Try.f43.results.toList r_slices_swapRangeCmpFunc_api_Due = true := by kernel_rfl
end Go.Proofs.Ytecnjhmpipfldaa
