/-
  The functions of the program in short form, and that the model's code is what they stand for. Printed by xgen.py.
-/
import Derived.Test.YtegejpieedckiaaFw
import Derived.Test.YtegejpieedckiaaProg
import Derived.KernelRfl
namespace Go.Proofs.Ytegejpieedckiaa
set_option linter.unusedVariables false
set_option maxRecDepth 100000

abbrev xm (a b : Sl) : XOp := ⟨some a, .move (.t b), none⟩
abbrev xl (a b : Sl) : XOp := ⟨some a, .load false 1 (.t b), none⟩
abbrev xf (n : Nat) (a b : Sl) : XOp := ⟨some a, .fieldAddr n (.t b), none⟩
/-! The slots by name. -/
abbrev s000 : Sl := ⟨.d0, .d0, .d0⟩
abbrev s001 : Sl := ⟨.d0, .d0, .d1⟩
abbrev s002 : Sl := ⟨.d0, .d0, .d2⟩
abbrev s003 : Sl := ⟨.d0, .d0, .d3⟩
abbrev s004 : Sl := ⟨.d0, .d0, .d4⟩
abbrev s005 : Sl := ⟨.d0, .d0, .d5⟩
abbrev s006 : Sl := ⟨.d0, .d0, .d6⟩
abbrev s007 : Sl := ⟨.d0, .d0, .d7⟩
abbrev s010 : Sl := ⟨.d0, .d1, .d0⟩
abbrev s011 : Sl := ⟨.d0, .d1, .d1⟩
abbrev s012 : Sl := ⟨.d0, .d1, .d2⟩
abbrev s013 : Sl := ⟨.d0, .d1, .d3⟩
abbrev s014 : Sl := ⟨.d0, .d1, .d4⟩
abbrev s015 : Sl := ⟨.d0, .d1, .d5⟩
abbrev s016 : Sl := ⟨.d0, .d1, .d6⟩
abbrev s017 : Sl := ⟨.d0, .d1, .d7⟩
abbrev s020 : Sl := ⟨.d0, .d2, .d0⟩
abbrev s021 : Sl := ⟨.d0, .d2, .d1⟩
abbrev s022 : Sl := ⟨.d0, .d2, .d2⟩
abbrev s023 : Sl := ⟨.d0, .d2, .d3⟩
abbrev s024 : Sl := ⟨.d0, .d2, .d4⟩
abbrev s025 : Sl := ⟨.d0, .d2, .d5⟩
abbrev s026 : Sl := ⟨.d0, .d2, .d6⟩
abbrev s027 : Sl := ⟨.d0, .d2, .d7⟩
abbrev s030 : Sl := ⟨.d0, .d3, .d0⟩
abbrev s031 : Sl := ⟨.d0, .d3, .d1⟩
abbrev s032 : Sl := ⟨.d0, .d3, .d2⟩
abbrev s033 : Sl := ⟨.d0, .d3, .d3⟩
abbrev s034 : Sl := ⟨.d0, .d3, .d4⟩
abbrev s035 : Sl := ⟨.d0, .d3, .d5⟩
abbrev s036 : Sl := ⟨.d0, .d3, .d6⟩
abbrev s037 : Sl := ⟨.d0, .d3, .d7⟩
abbrev s040 : Sl := ⟨.d0, .d4, .d0⟩
abbrev s041 : Sl := ⟨.d0, .d4, .d1⟩
abbrev s042 : Sl := ⟨.d0, .d4, .d2⟩
abbrev s043 : Sl := ⟨.d0, .d4, .d3⟩
abbrev s044 : Sl := ⟨.d0, .d4, .d4⟩
abbrev s045 : Sl := ⟨.d0, .d4, .d5⟩
abbrev s046 : Sl := ⟨.d0, .d4, .d6⟩
abbrev s047 : Sl := ⟨.d0, .d4, .d7⟩
abbrev s050 : Sl := ⟨.d0, .d5, .d0⟩
abbrev s051 : Sl := ⟨.d0, .d5, .d1⟩
abbrev s052 : Sl := ⟨.d0, .d5, .d2⟩
abbrev s053 : Sl := ⟨.d0, .d5, .d3⟩
abbrev s054 : Sl := ⟨.d0, .d5, .d4⟩
abbrev s055 : Sl := ⟨.d0, .d5, .d5⟩
abbrev s056 : Sl := ⟨.d0, .d5, .d6⟩
abbrev s057 : Sl := ⟨.d0, .d5, .d7⟩
abbrev s060 : Sl := ⟨.d0, .d6, .d0⟩
abbrev s061 : Sl := ⟨.d0, .d6, .d1⟩
abbrev s062 : Sl := ⟨.d0, .d6, .d2⟩
abbrev s063 : Sl := ⟨.d0, .d6, .d3⟩
abbrev s064 : Sl := ⟨.d0, .d6, .d4⟩
abbrev s065 : Sl := ⟨.d0, .d6, .d5⟩
abbrev s066 : Sl := ⟨.d0, .d6, .d6⟩
abbrev s067 : Sl := ⟨.d0, .d6, .d7⟩
abbrev s070 : Sl := ⟨.d0, .d7, .d0⟩
abbrev s071 : Sl := ⟨.d0, .d7, .d1⟩
abbrev s072 : Sl := ⟨.d0, .d7, .d2⟩
abbrev s073 : Sl := ⟨.d0, .d7, .d3⟩
abbrev s074 : Sl := ⟨.d0, .d7, .d4⟩
abbrev s075 : Sl := ⟨.d0, .d7, .d5⟩
abbrev s076 : Sl := ⟨.d0, .d7, .d6⟩
abbrev s077 : Sl := ⟨.d0, .d7, .d7⟩
abbrev s100 : Sl := ⟨.d1, .d0, .d0⟩
abbrev s101 : Sl := ⟨.d1, .d0, .d1⟩
abbrev s102 : Sl := ⟨.d1, .d0, .d2⟩
abbrev s103 : Sl := ⟨.d1, .d0, .d3⟩
abbrev s104 : Sl := ⟨.d1, .d0, .d4⟩
abbrev s105 : Sl := ⟨.d1, .d0, .d5⟩
abbrev s106 : Sl := ⟨.d1, .d0, .d6⟩
abbrev s107 : Sl := ⟨.d1, .d0, .d7⟩
abbrev s110 : Sl := ⟨.d1, .d1, .d0⟩
abbrev s111 : Sl := ⟨.d1, .d1, .d1⟩
abbrev s112 : Sl := ⟨.d1, .d1, .d2⟩
abbrev s113 : Sl := ⟨.d1, .d1, .d3⟩
abbrev s114 : Sl := ⟨.d1, .d1, .d4⟩
abbrev s115 : Sl := ⟨.d1, .d1, .d5⟩
abbrev s116 : Sl := ⟨.d1, .d1, .d6⟩
abbrev s117 : Sl := ⟨.d1, .d1, .d7⟩
abbrev s120 : Sl := ⟨.d1, .d2, .d0⟩
abbrev s121 : Sl := ⟨.d1, .d2, .d1⟩
abbrev s122 : Sl := ⟨.d1, .d2, .d2⟩
abbrev s123 : Sl := ⟨.d1, .d2, .d3⟩
abbrev s124 : Sl := ⟨.d1, .d2, .d4⟩
abbrev s125 : Sl := ⟨.d1, .d2, .d5⟩
abbrev s126 : Sl := ⟨.d1, .d2, .d6⟩
abbrev s127 : Sl := ⟨.d1, .d2, .d7⟩
abbrev s130 : Sl := ⟨.d1, .d3, .d0⟩
abbrev s131 : Sl := ⟨.d1, .d3, .d1⟩
abbrev s132 : Sl := ⟨.d1, .d3, .d2⟩
abbrev s133 : Sl := ⟨.d1, .d3, .d3⟩
abbrev s134 : Sl := ⟨.d1, .d3, .d4⟩
abbrev s135 : Sl := ⟨.d1, .d3, .d5⟩
abbrev s136 : Sl := ⟨.d1, .d3, .d6⟩
abbrev s137 : Sl := ⟨.d1, .d3, .d7⟩
abbrev s140 : Sl := ⟨.d1, .d4, .d0⟩
abbrev s141 : Sl := ⟨.d1, .d4, .d1⟩
abbrev s142 : Sl := ⟨.d1, .d4, .d2⟩
abbrev s143 : Sl := ⟨.d1, .d4, .d3⟩
abbrev s144 : Sl := ⟨.d1, .d4, .d4⟩
abbrev s145 : Sl := ⟨.d1, .d4, .d5⟩
abbrev s146 : Sl := ⟨.d1, .d4, .d6⟩
abbrev s147 : Sl := ⟨.d1, .d4, .d7⟩
abbrev s150 : Sl := ⟨.d1, .d5, .d0⟩
abbrev s151 : Sl := ⟨.d1, .d5, .d1⟩
abbrev s152 : Sl := ⟨.d1, .d5, .d2⟩
abbrev s153 : Sl := ⟨.d1, .d5, .d3⟩
abbrev s154 : Sl := ⟨.d1, .d5, .d4⟩
abbrev s155 : Sl := ⟨.d1, .d5, .d5⟩
abbrev s156 : Sl := ⟨.d1, .d5, .d6⟩
abbrev s157 : Sl := ⟨.d1, .d5, .d7⟩
abbrev s160 : Sl := ⟨.d1, .d6, .d0⟩
abbrev s161 : Sl := ⟨.d1, .d6, .d1⟩
abbrev s162 : Sl := ⟨.d1, .d6, .d2⟩
abbrev s163 : Sl := ⟨.d1, .d6, .d3⟩
abbrev s164 : Sl := ⟨.d1, .d6, .d4⟩
abbrev s165 : Sl := ⟨.d1, .d6, .d5⟩
abbrev s166 : Sl := ⟨.d1, .d6, .d6⟩
abbrev s167 : Sl := ⟨.d1, .d6, .d7⟩
abbrev s170 : Sl := ⟨.d1, .d7, .d0⟩
abbrev s171 : Sl := ⟨.d1, .d7, .d1⟩
abbrev s172 : Sl := ⟨.d1, .d7, .d2⟩
abbrev s173 : Sl := ⟨.d1, .d7, .d3⟩
abbrev s174 : Sl := ⟨.d1, .d7, .d4⟩
abbrev s175 : Sl := ⟨.d1, .d7, .d5⟩
abbrev s176 : Sl := ⟨.d1, .d7, .d6⟩
abbrev s177 : Sl := ⟨.d1, .d7, .d7⟩
abbrev s200 : Sl := ⟨.d2, .d0, .d0⟩
abbrev s201 : Sl := ⟨.d2, .d0, .d1⟩
abbrev s202 : Sl := ⟨.d2, .d0, .d2⟩
abbrev s203 : Sl := ⟨.d2, .d0, .d3⟩
abbrev s204 : Sl := ⟨.d2, .d0, .d4⟩
abbrev s205 : Sl := ⟨.d2, .d0, .d5⟩
abbrev s206 : Sl := ⟨.d2, .d0, .d6⟩
abbrev s207 : Sl := ⟨.d2, .d0, .d7⟩
abbrev s210 : Sl := ⟨.d2, .d1, .d0⟩
abbrev s211 : Sl := ⟨.d2, .d1, .d1⟩
abbrev s212 : Sl := ⟨.d2, .d1, .d2⟩
abbrev s213 : Sl := ⟨.d2, .d1, .d3⟩
abbrev s214 : Sl := ⟨.d2, .d1, .d4⟩
abbrev s215 : Sl := ⟨.d2, .d1, .d5⟩
abbrev s216 : Sl := ⟨.d2, .d1, .d6⟩
abbrev s217 : Sl := ⟨.d2, .d1, .d7⟩
abbrev s220 : Sl := ⟨.d2, .d2, .d0⟩
abbrev s221 : Sl := ⟨.d2, .d2, .d1⟩
abbrev s222 : Sl := ⟨.d2, .d2, .d2⟩
abbrev s223 : Sl := ⟨.d2, .d2, .d3⟩
abbrev s224 : Sl := ⟨.d2, .d2, .d4⟩
abbrev s225 : Sl := ⟨.d2, .d2, .d5⟩
abbrev s226 : Sl := ⟨.d2, .d2, .d6⟩
abbrev s227 : Sl := ⟨.d2, .d2, .d7⟩
abbrev s230 : Sl := ⟨.d2, .d3, .d0⟩
abbrev s231 : Sl := ⟨.d2, .d3, .d1⟩
abbrev s232 : Sl := ⟨.d2, .d3, .d2⟩
abbrev s233 : Sl := ⟨.d2, .d3, .d3⟩
abbrev s234 : Sl := ⟨.d2, .d3, .d4⟩
abbrev s235 : Sl := ⟨.d2, .d3, .d5⟩
abbrev s236 : Sl := ⟨.d2, .d3, .d6⟩
abbrev s237 : Sl := ⟨.d2, .d3, .d7⟩
abbrev s240 : Sl := ⟨.d2, .d4, .d0⟩
abbrev s241 : Sl := ⟨.d2, .d4, .d1⟩
abbrev s242 : Sl := ⟨.d2, .d4, .d2⟩
abbrev s243 : Sl := ⟨.d2, .d4, .d3⟩
abbrev s244 : Sl := ⟨.d2, .d4, .d4⟩
abbrev s245 : Sl := ⟨.d2, .d4, .d5⟩
abbrev s246 : Sl := ⟨.d2, .d4, .d6⟩
abbrev s247 : Sl := ⟨.d2, .d4, .d7⟩
abbrev s250 : Sl := ⟨.d2, .d5, .d0⟩
abbrev s251 : Sl := ⟨.d2, .d5, .d1⟩
abbrev s252 : Sl := ⟨.d2, .d5, .d2⟩
abbrev s253 : Sl := ⟨.d2, .d5, .d3⟩
abbrev s254 : Sl := ⟨.d2, .d5, .d4⟩
abbrev s255 : Sl := ⟨.d2, .d5, .d5⟩
abbrev s256 : Sl := ⟨.d2, .d5, .d6⟩
abbrev s257 : Sl := ⟨.d2, .d5, .d7⟩
abbrev s260 : Sl := ⟨.d2, .d6, .d0⟩
abbrev s261 : Sl := ⟨.d2, .d6, .d1⟩
abbrev s262 : Sl := ⟨.d2, .d6, .d2⟩
abbrev s263 : Sl := ⟨.d2, .d6, .d3⟩
abbrev s264 : Sl := ⟨.d2, .d6, .d4⟩
abbrev s265 : Sl := ⟨.d2, .d6, .d5⟩
abbrev s266 : Sl := ⟨.d2, .d6, .d6⟩
abbrev s267 : Sl := ⟨.d2, .d6, .d7⟩
abbrev s270 : Sl := ⟨.d2, .d7, .d0⟩
abbrev s271 : Sl := ⟨.d2, .d7, .d1⟩
abbrev s272 : Sl := ⟨.d2, .d7, .d2⟩
abbrev s273 : Sl := ⟨.d2, .d7, .d3⟩
abbrev s274 : Sl := ⟨.d2, .d7, .d4⟩
abbrev s275 : Sl := ⟨.d2, .d7, .d5⟩
abbrev s276 : Sl := ⟨.d2, .d7, .d6⟩
abbrev s277 : Sl := ⟨.d2, .d7, .d7⟩
abbrev s300 : Sl := ⟨.d3, .d0, .d0⟩
abbrev s301 : Sl := ⟨.d3, .d0, .d1⟩
abbrev s302 : Sl := ⟨.d3, .d0, .d2⟩
abbrev s303 : Sl := ⟨.d3, .d0, .d3⟩
abbrev s304 : Sl := ⟨.d3, .d0, .d4⟩
abbrev s305 : Sl := ⟨.d3, .d0, .d5⟩
abbrev s306 : Sl := ⟨.d3, .d0, .d6⟩
abbrev s307 : Sl := ⟨.d3, .d0, .d7⟩
abbrev s310 : Sl := ⟨.d3, .d1, .d0⟩
abbrev s311 : Sl := ⟨.d3, .d1, .d1⟩
abbrev s312 : Sl := ⟨.d3, .d1, .d2⟩
abbrev s313 : Sl := ⟨.d3, .d1, .d3⟩
abbrev s314 : Sl := ⟨.d3, .d1, .d4⟩
abbrev s315 : Sl := ⟨.d3, .d1, .d5⟩
abbrev s316 : Sl := ⟨.d3, .d1, .d6⟩
abbrev s317 : Sl := ⟨.d3, .d1, .d7⟩
abbrev s320 : Sl := ⟨.d3, .d2, .d0⟩
abbrev s321 : Sl := ⟨.d3, .d2, .d1⟩
abbrev s322 : Sl := ⟨.d3, .d2, .d2⟩
abbrev s323 : Sl := ⟨.d3, .d2, .d3⟩
abbrev s324 : Sl := ⟨.d3, .d2, .d4⟩
abbrev s325 : Sl := ⟨.d3, .d2, .d5⟩
abbrev s326 : Sl := ⟨.d3, .d2, .d6⟩
abbrev s327 : Sl := ⟨.d3, .d2, .d7⟩
abbrev s330 : Sl := ⟨.d3, .d3, .d0⟩
abbrev s331 : Sl := ⟨.d3, .d3, .d1⟩
abbrev s332 : Sl := ⟨.d3, .d3, .d2⟩
abbrev s333 : Sl := ⟨.d3, .d3, .d3⟩
abbrev s334 : Sl := ⟨.d3, .d3, .d4⟩
abbrev s335 : Sl := ⟨.d3, .d3, .d5⟩
abbrev s336 : Sl := ⟨.d3, .d3, .d6⟩
abbrev s337 : Sl := ⟨.d3, .d3, .d7⟩
abbrev s340 : Sl := ⟨.d3, .d4, .d0⟩
abbrev s341 : Sl := ⟨.d3, .d4, .d1⟩
abbrev s342 : Sl := ⟨.d3, .d4, .d2⟩
abbrev s343 : Sl := ⟨.d3, .d4, .d3⟩
abbrev s344 : Sl := ⟨.d3, .d4, .d4⟩
abbrev s345 : Sl := ⟨.d3, .d4, .d5⟩
abbrev s346 : Sl := ⟨.d3, .d4, .d6⟩
abbrev s347 : Sl := ⟨.d3, .d4, .d7⟩
abbrev s350 : Sl := ⟨.d3, .d5, .d0⟩
abbrev s351 : Sl := ⟨.d3, .d5, .d1⟩
abbrev s352 : Sl := ⟨.d3, .d5, .d2⟩
abbrev s353 : Sl := ⟨.d3, .d5, .d3⟩
/-- The slots worked out. -/
theorem auC {p q : Prop} (h : q) (e : q → p := by intro hq; dsimp only [xm, xl, xf, s000, s001, s002, s003, s004, s005, s006, s007, s010, s011, s012, s013, s014, s015, s016, s017, s020, s021, s022, s023, s024, s025, s026, s027, s030, s031, s032, s033, s034, s035, s036, s037, s040, s041, s042, s043, s044, s045, s046, s047, s050, s051, s052, s053, s054, s055, s056, s057, s060, s061, s062, s063, s064, s065, s066, s067, s070, s071, s072, s073, s074, s075, s076, s077, s100, s101, s102, s103, s104, s105, s106, s107, s110, s111, s112, s113, s114, s115, s116, s117, s120, s121, s122, s123, s124, s125, s126, s127, s130, s131, s132, s133, s134, s135, s136, s137, s140, s141, s142, s143, s144, s145, s146, s147, s150, s151, s152, s153, s154, s155, s156, s157, s160, s161, s162, s163, s164, s165, s166, s167, s170, s171, s172, s173, s174, s175, s176, s177, s200, s201, s202, s203, s204, s205, s206, s207, s210, s211, s212, s213, s214, s215, s216, s217, s220, s221, s222, s223, s224, s225, s226, s227, s230, s231, s232, s233, s234, s235, s236, s237, s240, s241, s242, s243, s244, s245, s246, s247, s250, s251, s252, s253, s254, s255, s256, s257, s260, s261, s262, s263, s264, s265, s266, s267, s270, s271, s272, s273, s274, s275, s276, s277, s300, s301, s302, s303, s304, s305, s306, s307, s310, s311, s312, s313, s314, s315, s316, s317, s320, s321, s322, s323, s324, s325, s326, s327, s330, s331, s332, s333, s334, s335, s336, s337, s340, s341, s342, s343, s344, s345, s346, s347, s350, s351, s352, s353]; exact hq) : p := e h
/-- custlaw.ProxyClients -/
def x_custlaw_ProxyClients : XC :=
 .seq (.region [⟨some s004, .box 0 4 (.t s000), none⟩,
 ⟨some s005, .box 1 4 (.t s001), none⟩,
 ⟨some s006, .box 2 9 (.t s002), none⟩,
 ⟨some s010, .move (.c (.bool false)), none⟩])
 (.seq (.region [⟨some s017, .load true 4 (.t s004), none⟩,
 ⟨some s020, .load true 4 (.t s005), none⟩,
 ⟨some s021, .load true 9 (.t s006), none⟩,
 xm s022 s003,
 ⟨some s023, .call 9 [(.t s017), (.t s020), (.t s021), (.t s022)], none⟩,
 xm s016 s023,
 ⟨some s024, .extract 0 (.t s016), none⟩,
 ⟨some s025, .extract 1 (.t s016), none⟩,
 ⟨some s026, .extract 2 (.t s016), none⟩,
 ⟨some s027, .extract 3 (.t s016), none⟩,
 ⟨some s011, .alloc 3 [.int .u64 0, .int .u64 0, .int .i64 0, .slice none 0 0], none⟩,
 ⟨none, .store 4 (.t s011) (.t s024), none⟩,
 xm s012 s025,
 xm s013 s026,
 xm s014 s027])
 (.seq (.region [⟨some s030, .load true 4 (.t s004), none⟩,
 ⟨some s031, .load true 4 (.t s005), none⟩,
 ⟨some s032, .load true 9 (.t s006), none⟩,
 xm s033 s003,
 ⟨some s034, .call 10 [(.t s030), (.t s031), (.t s032), (.t s033)], none⟩,
 ⟨some s015, .alloc 4 [.int .u64 0, .int .u64 0, .int .i64 0, .slice none 0 0, .slice none 0 0, .slice none 0 0, .int .i64 0], none⟩,
 ⟨none, .store 7 (.t s015) (.t s034), none⟩])
 (.seq (.regionD [0, 1, 0, 7, 15, 31, 63, 63, 191, 511, 1023, 2047, 4095, 4095, 12287, 32767, 65535, 131071, 262143, 262143, 786431, 2097151, 4194303, 8388607, 16777215, 16777215, 50331647, 134217727, 268435455, 536870911] [⟨some s035, .load true 4 (.t s004), none⟩,
 ⟨some s036, .call 11 [(.t s035)], none⟩,
 ⟨some s037, .load true 4 (.t s004), none⟩,
 ⟨some s040, .call 12 [(.t s037)], none⟩,
 ⟨some s041, .bin .eql (.t s036) (.t s040), none⟩,
 xm s042 s041,
 ⟨some s043, .load true 4 (.t s011), some (s042, true)⟩,
 ⟨some s044, .fieldAddr 0 (.t s015), some (s042, true)⟩,
 ⟨some s045, .load true 4 (.t s044), some (s042, true)⟩,
 ⟨some s046, .call 7 [(.t s043), (.t s045)], some (s042, true)⟩,
 ⟨some s047, .pick (.t s042) (.t s046) (.c (.bool false)), none⟩,
 xm s050 s047,
 ⟨some s051, .move (.t s012), some (s050, true)⟩,
 ⟨some s052, .fieldAddr 4 (.t s015), some (s050, true)⟩,
 ⟨some s053, .load false 1 (.t s052), some (s050, true)⟩,
 ⟨some s054, .call 8 [(.t s051), (.t s053)], some (s050, true)⟩,
 ⟨some s055, .pick (.t s050) (.t s054) (.c (.bool false)), none⟩,
 xm s056 s055,
 ⟨some s057, .move (.t s013), some (s056, true)⟩,
 ⟨some s060, .fieldAddr 5 (.t s015), some (s056, true)⟩,
 ⟨some s061, .load false 1 (.t s060), some (s056, true)⟩,
 ⟨some s062, .call 8 [(.t s057), (.t s061)], some (s056, true)⟩,
 ⟨some s063, .pick (.t s056) (.t s062) (.c (.bool false)), none⟩,
 xm s064 s063,
 ⟨some s065, .move (.t s014), some (s064, true)⟩,
 ⟨some s066, .fieldAddr 6 (.t s015), some (s064, true)⟩,
 ⟨some s067, .load false 1 (.t s066), some (s064, true)⟩,
 ⟨some s070, .bin .eql (.t s065) (.t s067), some (s064, true)⟩,
 ⟨some s071, .pick (.t s064) (.t s070) (.c (.bool false)), none⟩,
 xm s010 s071])
 (.ret))))
def r_custlaw_ProxyClients : List XR := [.tmp s010]
theorem ok_custlaw_ProxyClients : okC Try.prog Try.f4.ntmps (bodyOf Try.f4) x_custlaw_ProxyClients = true := by kernel_rfl
theorem okr_custlaw_ProxyClients : okRs Try.prog Try.f4.results.toList r_custlaw_ProxyClients = true := by kernel_rfl

/-- custref.SameProxy -/
def x_custref_SameProxy : XC :=
 .seq (.region [⟨some s002, .box 0 4 (.t s000), none⟩,
 ⟨some s003, .box 1 4 (.t s001), none⟩,
 ⟨some s004, .move (.c (.bool false)), none⟩])
 (.seq (.region [xf 0 s005 s002,
 ⟨some s006, .load true 2 (.t s005), none⟩,
 xf 0 s007 s003,
 ⟨some s010, .load true 2 (.t s007), none⟩,
 ⟨some s011, .eqs false [0, 0] (.t s006) (.t s010), none⟩,
 xm s012 s011,
 ⟨some s013, .fieldAddr 2 (.t s002), some (s012, true)⟩,
 ⟨some s014, .load false 1 (.t s013), some (s012, true)⟩,
 ⟨some s015, .fieldAddr 2 (.t s003), some (s012, true)⟩,
 ⟨some s016, .load false 1 (.t s015), some (s012, true)⟩,
 ⟨some s017, .bin .eql (.t s014) (.t s016), some (s012, true)⟩,
 ⟨some s020, .pick (.t s012) (.t s017) (.c (.bool false)), none⟩,
 xm s021 s020,
 ⟨some s022, .fieldAddr 3 (.t s002), some (s021, true)⟩,
 ⟨some s023, .load false 1 (.t s022), some (s021, true)⟩,
 ⟨some s024, .fieldAddr 3 (.t s003), some (s021, true)⟩,
 ⟨some s025, .load false 1 (.t s024), some (s021, true)⟩,
 ⟨some s026, .call 26 [(.t s023), (.t s025)], some (s021, true)⟩,
 ⟨some s027, .pick (.t s021) (.t s026) (.c (.bool false)), none⟩,
 xm s004 s027])
 (.ret))
def r_custref_SameProxy : List XR := [.tmp s004]
theorem ok_custref_SameProxy : okC Try.prog Try.f7.ntmps (bodyOf Try.f7) x_custref_SameProxy = true := by kernel_rfl
theorem okr_custref_SameProxy : okRs Try.prog Try.f7.results.toList r_custref_SameProxy = true := by kernel_rfl

/-- custref.SameSegments -/
def x_custref_SameSegments : XC :=
 .seq (.region [⟨some s004, .move (.c (.bool false)), none⟩])
 (.seq (.region [xm s005 s000,
 xm s006 s001,
 ⟨some s007, .call 27 [(.t s005), (.t s006), (.f 28)], none⟩,
 xm s004 s007])
 (.ret))
def r_custref_SameSegments : List XR := [.tmp s004]
theorem ok_custref_SameSegments : okC Try.prog Try.f8.ntmps (bodyOf Try.f8) x_custref_SameSegments = true := by kernel_rfl
theorem okr_custref_SameSegments : okRs Try.prog Try.f8.results.toList r_custref_SameSegments = true := by kernel_rfl

/-- proxy.Client -/
def x_proxy_Client : XC :=
 .seq (.region [⟨some s004, .box 2 4 (.t s000), none⟩,
 ⟨some s005, .box 3 4 (.t s001), none⟩,
 ⟨some s006, .box 4 9 (.t s002), none⟩,
 ⟨some s010, .alloc 5 [.int .u64 0, .int .u64 0, .int .i64 0, .slice none 0 0], none⟩,
 ⟨some s011, .move (.c (.slice none 0 0)), none⟩,
 ⟨some s012, .move (.c (.slice none 0 0)), none⟩,
 ⟨some s013, .move (.c (.int .i64 0)), none⟩])
 (.seq (.region [xf 3 s020 s004,
 xl s021 s020,
 ⟨some s022, .call 13 [(.t s021)], none⟩,
 xf 3 s023 s004,
 ⟨none, .store 1 (.t s023) (.t s022), none⟩])
 (.seq (.seq (.region [⟨some s024, .load true 4 (.t s004), none⟩,
 ⟨some s025, .load true 4 (.t s005), none⟩,
 ⟨some s026, .load true 9 (.t s006), none⟩,
 xm s027 s003,
 ⟨some s030, .call 14 [(.t s024), (.t s025), (.t s026), (.t s027)], none⟩,
 xm s014 s030])
 (.seq (.region [xm s031 s014,
 ⟨some s032, .bin .neq (.t s031) (.c (.int .i64 0)), none⟩])
 (.cond (.t s032)
 (.seq (.region [⟨some s033, .load true 4 (.t s004), none⟩,
 xm s034 s014,
 ⟨none, .store 4 (.t s010) (.t s033), none⟩,
 ⟨some s011, .move (.c (.slice none 0 0)), none⟩,
 ⟨some s012, .move (.c (.slice none 0 0)), none⟩,
 xm s013 s034])
 (.ret))
 (.skip))))
 (.seq (.region [⟨some s035, .load true 4 (.t s004), none⟩,
 xm s036 s003,
 ⟨some s037, .call 15 [(.t s035), (.t s036)], none⟩,
 xm s015 s037])
 (.seq (.seq (.regionD [0, 1, 3, 7, 0, 31, 63] [xm s040 s015,
 ⟨some s041, .nilCheck (.t s040), none⟩,
 xf 0 s042 s041,
 ⟨some s043, .load true 4 (.t s042), none⟩,
 ⟨some s044, .load true 4 (.t s005), none⟩,
 ⟨some s045, .call 16 [(.t s043), (.t s044)], none⟩,
 xm s016 s045])
 (.seq (.region [xm s046 s016,
 ⟨some s047, .bin .geq (.t s046) (.c (.int .i64 0)), none⟩])
 (.cond (.t s047)
 (.region [xm s050 s015,
 xm s051 s016,
 ⟨some s052, .load true 9 (.t s006), none⟩,
 ⟨some s053, .call 29 [(.t s050), (.t s051), (.t s052)], none⟩])
 (.seq (.region [xm s054 s015,
 ⟨some s055, .load true 4 (.t s005), none⟩,
 ⟨some s056, .load true 9 (.t s006), none⟩,
 ⟨some s057, .call 30 [(.t s054), (.t s055), (.t s056)], none⟩,
 xm s017 s057])
 (.seq (.region [xm s060 s017,
 ⟨some s061, .bin .neq (.t s060) (.c (.int .i64 0)), none⟩])
 (.cond (.t s061)
 (.seq (.region [⟨some s062, .load true 4 (.t s004), none⟩,
 xm s063 s017,
 ⟨none, .store 4 (.t s010) (.t s062), none⟩,
 ⟨some s011, .move (.c (.slice none 0 0)), none⟩,
 ⟨some s012, .move (.c (.slice none 0 0)), none⟩,
 xm s013 s063])
 (.ret))
 (.skip)))))))
 (.seq (.regionD [0, 1, 3, 7, 0, 16, 48, 112, 0, 256, 768, 1792, 15, 4351, 16383, 32767] [xm s064 s015,
 ⟨some s065, .nilCheck (.t s064), none⟩,
 xf 0 s066 s065,
 ⟨some s067, .load true 4 (.t s066), none⟩,
 xm s070 s015,
 ⟨some s071, .nilCheck (.t s070), none⟩,
 xf 5 s072 s071,
 xl s073 s072,
 xm s074 s015,
 ⟨some s075, .nilCheck (.t s074), none⟩,
 xf 6 s076 s075,
 xl s077 s076,
 ⟨none, .store 4 (.t s010) (.t s067), none⟩,
 xm s011 s073,
 xm s012 s077,
 ⟨some s013, .move (.c (.int .i64 0)), none⟩])
 (.ret))))))
def r_proxy_Client : List XR := [.cell s010 true 4, .tmp s011, .tmp s012, .tmp s013]
theorem ok_proxy_Client : okC Try.prog Try.f9.ntmps (bodyOf Try.f9) x_proxy_Client = true := by kernel_rfl
theorem okr_proxy_Client : okRs Try.prog Try.f9.results.toList r_proxy_Client = true := by kernel_rfl

/-- custref.HeardClient -/
def x_custref_HeardClient : XC :=
 .seq (.region [⟨some s004, .box 0 4 (.t s000), none⟩,
 ⟨some s005, .box 1 4 (.t s001), none⟩,
 ⟨some s006, .box 2 9 (.t s002), none⟩,
 ⟨some s010, .alloc 3 [.int .u64 0, .int .u64 0, .int .i64 0, .slice none 0 0, .slice none 0 0, .slice none 0 0, .int .i64 0], none⟩])
 (.seq (.seq (.region [⟨some s034, .load true 4 (.t s004), none⟩,
 ⟨some s035, .load true 4 (.t s005), none⟩,
 ⟨some s036, .load true 9 (.t s006), none⟩,
 xm s037 s003,
 ⟨some s040, .call 19 [(.t s034), (.t s035), (.t s036), (.t s037)], none⟩,
 xm s011 s040])
 (.seq (.region [xm s041 s011,
 ⟨some s042, .bin .neq (.t s041) (.c (.int .i64 0)), none⟩])
 (.cond (.t s042)
 (.seq (.region [⟨some s043, .load true 4 (.t s004), none⟩,
 xm s044 s011,
 ⟨some s045, .build [.int .u64 0, .int .u64 0, .int .i64 0, .slice none 0 0, .slice none 0 0, .slice none 0 0, .int .i64 0] [(0, 4, (.t s043)), (6, 1, (.t s044))], none⟩,
 ⟨none, .store 7 (.t s010) (.t s045), none⟩])
 (.ret))
 (.skip))))
 (.seq (.region [⟨some s047, .load true 4 (.t s004), none⟩,
 ⟨some s050, .load true 4 (.t s005), none⟩,
 xm s051 s003,
 ⟨some s052, .call 20 [(.t s047), (.t s050), (.t s051)], none⟩,
 xm s046 s052,
 ⟨some s053, .extract 0 (.t s046), none⟩,
 ⟨some s054, .extract 1 (.t s046), none⟩,
 ⟨some s055, .extract 2 (.t s046), none⟩,
 ⟨some s012, .alloc 4 [.int .u64 0, .int .u64 0, .int .i64 0, .slice none 0 0], none⟩,
 ⟨some s013, .alloc 5 [.int .u32 0, .int .u32 0, .int .i64 0, .int .i64 0, .int .u32 0, .int .u32 0, .int .u32 0, .bool false, .int .i64 0], none⟩,
 ⟨none, .store 4 (.t s012) (.t s053), none⟩,
 ⟨none, .store 9 (.t s013) (.t s054), none⟩,
 xm s014 s055])
 (.seq (.regionD [0, 1, 3, 7, 0, 16, 48, 112, 0, 256, 768, 1792, 0, 4096, 12288, 28672, 15, 65791, 200703, 524287] [xf 4 s056 s006,
 xl s057 s056,
 ⟨some s060, .bin .and (.t s057) (.c (.int .i64 2)), none⟩,
 ⟨some s061, .bin .gtr (.t s060) (.c (.int .i64 0)), none⟩,
 xf 4 s062 s006,
 xl s063 s062,
 ⟨some s064, .bin .and (.t s063) (.c (.int .i64 16)), none⟩,
 ⟨some s065, .bin .gtr (.t s064) (.c (.int .i64 0)), none⟩,
 xf 4 s066 s006,
 xl s067 s066,
 ⟨some s070, .bin .and (.t s067) (.c (.int .i64 1)), none⟩,
 ⟨some s071, .bin .gtr (.t s070) (.c (.int .i64 0)), none⟩,
 xf 4 s072 s006,
 xl s073 s072,
 ⟨some s074, .bin .and (.t s073) (.c (.int .i64 4)), none⟩,
 ⟨some s075, .bin .gtr (.t s074) (.c (.int .i64 0)), none⟩,
 xm s015 s061,
 xm s016 s065,
 xm s017 s071,
 xm s020 s075])
 (.seq (.regionD [0, 0, 2, 6, 15, 31, 63] [⟨some s076, .load true 9 (.t s006), none⟩,
 xf 6 s077 s013,
 xl s100 s077,
 ⟨some s101, .call 25 [(.c (.int .u32 0)), (.t s100)], none⟩,
 ⟨some s102, .call 23 [(.t s076), (.c (.int .u32 0)), (.t s101)], none⟩,
 ⟨some s103, .buildSlice 6 1 [.int .i64 0, .int .i64 0, .int .u32 0, .int .u32 0, .int .i64 0, .int .i64 0, .int .i64 0, .slice none 0 0, .string { data := #[] }] [(0, (.t s102))], none⟩,
 xm s021 s103])
 (.seq (.seq (.region [xm s104 s014])
 (.cond (.t s104)
 (.seq (.block 0
 (.seq (.region [xm s106 s020,
 xm s107 s106,
 ⟨some s110, .fieldAddr 7 (.t s013), some (s107, true)⟩,
 ⟨some s111, .load false 1 (.t s110), some (s107, true)⟩,
 ⟨some s112, .pick (.t s107) (.t s111) (.c (.bool false)), none⟩,
 xm s105 s112])
 (.cond (.t s105)
 (.seq (.region [⟨some s113, .load true 4 (.t s012), none⟩,
 ⟨some s114, .load true 4 (.t s005), none⟩,
 ⟨some s115, .call 22 [(.t s113), (.t s114), (.c (.slice none 0 0))], none⟩,
 xm s116 s021,
 ⟨some s117, .build [.int .u64 0, .int .u64 0, .int .i64 0, .slice none 0 0, .slice none 0 0, .slice none 0 0, .int .i64 0] [(0, 4, (.t s115)), (5, 1, (.t s116))], none⟩,
 ⟨none, .store 7 (.t s010) (.t s117), none⟩])
 (.ret))
 (.seq (.region [xm s121 s020,
 xm s120 s121])
 (.cond (.t s120)
 (.seq (.region [⟨some s122, .load true 4 (.t s012), none⟩,
 ⟨some s123, .load true 4 (.t s005), none⟩,
 ⟨some s124, .call 22 [(.t s122), (.t s123), (.c (.slice none 0 0))], none⟩,
 ⟨some s125, .build [.int .u64 0, .int .u64 0, .int .i64 0, .slice none 0 0, .slice none 0 0, .slice none 0 0, .int .i64 0] [(0, 4, (.t s124))], none⟩,
 ⟨none, .store 7 (.t s010) (.t s125), none⟩])
 (.ret))
 (.seq (.region [xm s127 s015,
 ⟨some s130, .un .not (.t s127), none⟩,
 xm s131 s130,
 ⟨some s132, .fieldAddr 7 (.t s013), some (s131, true)⟩,
 ⟨some s133, .load false 1 (.t s132), some (s131, true)⟩,
 ⟨some s134, .pick (.t s131) (.t s133) (.c (.bool false)), none⟩,
 xm s126 s134])
 (.cond (.t s126)
 (.seq (.region [xm s135 s003,
 xf 8 s136 s013,
 ⟨none, .store 1 (.t s136) (.t s135), none⟩])
 (.seq (.region [⟨some s137, .load true 4 (.t s012), none⟩,
 ⟨some s140, .load true 4 (.t s005), none⟩,
 ⟨some s141, .load true 9 (.t s013), none⟩,
 ⟨some s142, .buildSlice 7 1 [.int .u32 0, .int .u32 0, .int .i64 0, .int .i64 0, .int .u32 0, .int .u32 0, .int .u32 0, .bool false, .int .i64 0] [(0, (.t s141))], none⟩,
 ⟨some s143, .call 22 [(.t s137), (.t s140), (.t s142)], none⟩,
 xm s144 s021,
 ⟨some s145, .build [.int .u64 0, .int .u64 0, .int .i64 0, .slice none 0 0, .slice none 0 0, .slice none 0 0, .int .i64 0] [(0, 4, (.t s143)), (5, 1, (.t s144))], none⟩,
 ⟨none, .store 7 (.t s010) (.t s145), none⟩])
 (.ret)))
 (.seq (.region [xm s147 s015,
 ⟨some s150, .un .not (.t s147), none⟩,
 xm s151 s150,
 ⟨some s152, .move (.t s016), some (s151, true)⟩,
 ⟨some s153, .pick (.t s151) (.t s152) (.c (.bool false)), none⟩,
 xm s146 s153])
 (.cond (.t s146)
 (.seq (.regionD [0, 0, 2, 7, 15] [⟨some s154, .load true 4 (.t s012), none⟩,
 ⟨some s155, .load true 9 (.t s013), none⟩,
 ⟨some s156, .call 31 [(.t s155), (.c (.int .i64 536))], none⟩,
 ⟨some s157, .build [.int .u64 0, .int .u64 0, .int .i64 0, .slice none 0 0, .slice none 0 0, .slice none 0 0, .int .i64 0] [(0, 4, (.t s154)), (5, 1, (.t s156))], none⟩,
 ⟨none, .store 7 (.t s010) (.t s157), none⟩])
 (.ret))
 (.skip))))))))))
 (.seq (.region [⟨some s160, .load true 4 (.t s012), none⟩,
 ⟨some s161, .build [.int .u64 0, .int .u64 0, .int .i64 0, .slice none 0 0, .slice none 0 0, .slice none 0 0, .int .i64 0] [(0, 4, (.t s160))], none⟩,
 ⟨none, .store 7 (.t s010) (.t s161), none⟩])
 (.ret)))
 (.skip)))
 (.seq (.seq (.region [xm s162 s015,
 xm s163 s162,
 ⟨some s164, .move (.t s016), some (s163, true)⟩,
 ⟨some s165, .un .not (.t s164), some (s163, true)⟩,
 ⟨some s166, .pick (.t s163) (.t s165) (.c (.bool false)), none⟩,
 xm s167 s166,
 ⟨some s170, .move (.t s017), some (s167, true)⟩,
 ⟨some s171, .un .not (.t s170), some (s167, true)⟩,
 ⟨some s172, .pick (.t s167) (.t s171) (.c (.bool false)), none⟩,
 xm s173 s172,
 ⟨some s174, .move (.t s020), some (s173, true)⟩,
 ⟨some s175, .un .not (.t s174), some (s173, true)⟩,
 ⟨some s176, .pick (.t s173) (.t s175) (.c (.bool false)), none⟩])
 (.cond (.t s176)
 (.seq (.region [⟨some s200, .load true 9 (.t s006), none⟩,
 ⟨some s201, .call 32 [(.t s200)], none⟩,
 xm s177 s201,
 ⟨some s202, .extract 0 (.t s177), none⟩,
 ⟨some s203, .extract 1 (.t s177), none⟩,
 xm s022 s202,
 xm s023 s203])
 (.seq (.seq (.region [xm s204 s023,
 ⟨some s205, .un .not (.t s204), none⟩])
 (.cond (.t s205)
 (.region [⟨some s022, .move (.c (.int .i64 536)), none⟩])
 (.skip)))
 (.seq (.region [⟨some s024, .move (.c (.int .i64 0)), none⟩])
 (.seq (.seq (.region [⟨some s206, .call 33 [], none⟩,
 ⟨some s207, .len (.t s206), none⟩,
 ⟨some s210, .move (.c (.int .i64 0)), none⟩])
 (.block 1
 (.loop
 (.seq (.region [⟨some s211, .bin .lss (.t s210) (.t s207), none⟩])
 (.seq (.cond (.t s211)
 (.skip)
 (.exit 1))
 (.seq (.block 2
 (.seq (.region [xm s212 s210,
 ⟨some s213, .indexSl 1 (.t s206) (.t s210), none⟩,
 xl s214 s213,
 xm s025 s212,
 xm s026 s214])
 (.seq (.region [xm s215 s026,
 xm s216 s022,
 ⟨some s217, .bin .leq (.t s215) (.t s216), none⟩])
 (.cond (.t s217)
 (.region [xm s220 s025,
 xm s024 s220])
 (.skip)))))
 (.region [⟨some s221, .bin .add (.t s210) (.c (.int .i64 1)), none⟩,
 xm s210 s221])))))))
 (.seq (.region [xf 0 s223 s004,
 ⟨some s224, .load true 2 (.t s223), none⟩,
 ⟨some s225, .load true 4 (.t s005), none⟩,
 xf 2 s226 s006,
 xl s227 s226,
 xm s230 s003,
 ⟨some s231, .bin .quo (.t s230) (.c (.int .i64 64)), none⟩,
 ⟨some s232, .bin .rem (.t s231) (.c (.int .i64 32)), none⟩,
 xm s233 s024,
 ⟨some s234, .call 34 [(.t s224), (.t s225), (.t s227), (.t s232), (.t s233)], none⟩,
 xm s222 s234,
 ⟨some s235, .extract 0 (.t s222), none⟩,
 ⟨some s236, .extract 1 (.t s222), none⟩,
 xm s027 s235,
 xm s030 s236])
 (.seq (.regionD [0, 0, 2, 0, 8, 0, 0, 64, 192, 0, 512, 1984, 4032, 8128, 16382, 32766, 65535, 131071] [⟨some s237, .load true 4 (.t s012), none⟩,
 xf 1 s240 s006,
 xl s241 s240,
 xf 0 s242 s006,
 xl s243 s242,
 xm s244 s027,
 xf 2 s245 s006,
 xl s246 s245,
 ⟨some s247, .call 24 [(.t s246), (.c (.int .u32 1))], none⟩,
 xf 2 s250 s004,
 xl s251 s250,
 ⟨some s252, .call 35 [(.t s251)], none⟩,
 ⟨some s253, .build [.int .i64 0, .string { data := #[] }] [(0, 1, (.c (.int .i64 2))), (1, 1, (.t s252))], none⟩,
 ⟨some s254, .buildSlice 8 1 [.int .i64 0, .string { data := #[] }] [(0, (.t s253))], none⟩,
 ⟨some s255, .build [.int .i64 0, .int .i64 0, .int .u32 0, .int .u32 0, .int .i64 0, .int .i64 0, .int .i64 0, .slice none 0 0, .string { data := #[] }] [(0, 1, (.t s241)), (1, 1, (.t s243)), (2, 1, (.t s244)), (3, 1, (.t s247)), (4, 1, (.c (.int .i64 18))), (5, 1, (.c (.int .i64 65535))), (7, 1, (.t s254))], none⟩,
 ⟨some s256, .buildSlice 9 1 [.int .i64 0, .int .i64 0, .int .u32 0, .int .u32 0, .int .i64 0, .int .i64 0, .int .i64 0, .slice none 0 0, .string { data := #[] }] [(0, (.t s255))], none⟩,
 ⟨some s257, .build [.int .u64 0, .int .u64 0, .int .i64 0, .slice none 0 0, .slice none 0 0, .slice none 0 0, .int .i64 0] [(0, 4, (.t s237)), (4, 1, (.t s256))], none⟩,
 ⟨none, .store 7 (.t s010) (.t s257), none⟩])
 (.ret)))))))
 (.skip)))
 (.seq (.seq (.region [xm s260 s016,
 ⟨some s261, .un .not (.t s260), none⟩,
 xm s262 s261,
 ⟨some s263, .move (.t s015), some (s262, false)⟩,
 ⟨some s264, .pick (.t s262) (.c (.bool true)) (.t s263), none⟩,
 xm s265 s264,
 ⟨some s266, .move (.t s020), some (s265, false)⟩,
 ⟨some s267, .pick (.t s265) (.c (.bool true)) (.t s266), none⟩])
 (.cond (.t s267)
 (.seq (.region [⟨some s270, .load true 4 (.t s012), none⟩,
 ⟨some s271, .build [.int .u64 0, .int .u64 0, .int .i64 0, .slice none 0 0, .slice none 0 0, .slice none 0 0, .int .i64 0] [(0, 4, (.t s270))], none⟩,
 ⟨none, .store 7 (.t s010) (.t s271), none⟩])
 (.ret))
 (.skip)))
 (.seq (.regionD [0, 0, 2, 6, 0, 16, 62, 0, 255, 0, 1023] [⟨some s272, .load true 4 (.t s005), none⟩,
 xf 2 s273 s006,
 xl s274 s273,
 ⟨some s275, .call 25 [(.t s274), (.c (.int .u32 1))], none⟩,
 xf 3 s276 s006,
 xl s277 s276,
 ⟨some s300, .call 25 [(.t s277), (.c (.int .u32 1))], none⟩,
 xm s301 s003,
 ⟨some s302, .build [.int .u32 0, .int .u32 0, .int .i64 0, .int .i64 0, .int .u32 0, .int .u32 0, .int .u32 0, .bool false, .int .i64 0] [(0, 4, (.t s272)), (4, 1, (.t s275)), (5, 1, (.t s300)), (8, 1, (.t s301))], none⟩,
 ⟨some s031, .alloc 10 [.int .u32 0, .int .u32 0, .int .i64 0, .int .i64 0, .int .u32 0, .int .u32 0, .int .u32 0, .bool false, .int .i64 0], none⟩,
 ⟨none, .store 9 (.t s031) (.t s302), none⟩])
 (.seq (.region [xf 0 s304 s004,
 ⟨some s305, .load true 2 (.t s304), none⟩,
 ⟨some s306, .load true 4 (.t s005), none⟩,
 xf 4 s307 s031,
 xl s310 s307,
 xf 5 s311 s031,
 xl s312 s311,
 xm s313 s003,
 ⟨some s314, .bin .quo (.t s313) (.c (.int .i64 64)), none⟩,
 ⟨some s315, .bin .rem (.t s314) (.c (.int .i64 32)), none⟩,
 ⟨some s316, .call 36 [(.t s305), (.t s306), (.t s310), (.t s312), (.t s315)], none⟩,
 xm s303 s316,
 ⟨some s317, .extract 0 (.t s303), none⟩,
 ⟨some s320, .extract 1 (.t s303), none⟩,
 xm s032 s317,
 xm s033 s320])
 (.seq (.seq (.region [xm s321 s033,
 ⟨some s322, .bin .neq (.t s321) (.c (.int .i64 0)), none⟩])
 (.cond (.t s322)
 (.seq (.region [⟨some s323, .load true 4 (.t s012), none⟩,
 xf 1 s324 s006,
 xl s325 s324,
 xf 0 s326 s006,
 xl s327 s326,
 xf 3 s330 s006,
 xl s331 s330,
 ⟨some s332, .build [.int .i64 0, .int .i64 0, .int .u32 0, .int .u32 0, .int .i64 0, .int .i64 0, .int .i64 0, .slice none 0 0, .string { data := #[] }] [(0, 1, (.t s325)), (1, 1, (.t s327)), (2, 1, (.t s331)), (4, 1, (.c (.int .i64 4)))], none⟩,
 ⟨some s333, .buildSlice 11 1 [.int .i64 0, .int .i64 0, .int .u32 0, .int .u32 0, .int .i64 0, .int .i64 0, .int .i64 0, .slice none 0 0, .string { data := #[] }] [(0, (.t s332))], none⟩,
 ⟨some s334, .build [.int .u64 0, .int .u64 0, .int .i64 0, .slice none 0 0, .slice none 0 0, .slice none 0 0, .int .i64 0] [(0, 4, (.t s323)), (4, 1, (.t s333))], none⟩,
 ⟨none, .store 7 (.t s010) (.t s334), none⟩])
 (.ret))
 (.skip)))
 (.seq (.seq (.region [xf 3 s335 s012,
 xl s336 s335,
 ⟨some s337, .len (.t s336), none⟩,
 ⟨some s340, .bin .geq (.t s337) (.c (.int .i64 64)), none⟩])
 (.cond (.t s340)
 (.seq (.region [⟨some s341, .load true 4 (.t s004), none⟩,
 ⟨some s342, .build [.int .u64 0, .int .u64 0, .int .i64 0, .slice none 0 0, .slice none 0 0, .slice none 0 0, .int .i64 0] [(0, 4, (.t s341)), (6, 1, (.c (.int .i64 6)))], none⟩,
 ⟨none, .store 7 (.t s010) (.t s342), none⟩])
 (.ret))
 (.skip)))
 (.seq (.regionD [0, 0, 0, 4, 15, 0, 0, 127, 255, 511] [⟨some s343, .load true 4 (.t s012), none⟩,
 ⟨some s344, .load true 4 (.t s005), none⟩,
 ⟨some s345, .load true 9 (.t s031), none⟩,
 ⟨some s346, .buildSlice 12 1 [.int .u32 0, .int .u32 0, .int .i64 0, .int .i64 0, .int .u32 0, .int .u32 0, .int .u32 0, .bool false, .int .i64 0] [(0, (.t s345))], none⟩,
 ⟨some s347, .call 22 [(.t s343), (.t s344), (.t s346)], none⟩,
 ⟨some s350, .load true 9 (.t s031), none⟩,
 xm s351 s032,
 ⟨some s352, .call 31 [(.t s350), (.t s351)], none⟩,
 ⟨some s353, .build [.int .u64 0, .int .u64 0, .int .i64 0, .slice none 0 0, .slice none 0 0, .slice none 0 0, .int .i64 0] [(0, 4, (.t s347)), (5, 1, (.t s352))], none⟩,
 ⟨none, .store 7 (.t s010) (.t s353), none⟩])
 (.ret)))))))))))))
def r_custref_HeardClient : List XR := [.cell s010 true 7]
theorem ok_custref_HeardClient : okC Try.prog Try.f10.ntmps (bodyOf Try.f10) x_custref_HeardClient = true := by kernel_rfl
theorem okr_custref_HeardClient : okRs Try.prog Try.f10.results.toList r_custref_HeardClient = true := by kernel_rfl

/-- proxy.Check -/
def x_proxy_Check : XC :=
 .seq (.region [⟨some s001, .box 0 4 (.t s000), none⟩,
 ⟨some s002, .move (.c (.int .i64 0)), none⟩])
 (.seq (.seq (.region [xf 2 s006 s001,
 xl s007 s006,
 ⟨some s010, .call 37 [(.t s007)], none⟩,
 ⟨some s011, .un .not (.t s010), none⟩])
 (.cond (.t s011)
 (.seq (.region [⟨some s002, .move (.c (.int .i64 1)), none⟩])
 (.ret))
 (.skip)))
 (.seq (.seq (.region [xf 3 s012 s001,
 xl s013 s012,
 ⟨some s014, .len (.t s013), none⟩,
 ⟨some s015, .bin .gtr (.t s014) (.c (.int .i64 64)), none⟩])
 (.cond (.t s015)
 (.seq (.region [⟨some s002, .move (.c (.int .i64 2)), none⟩])
 (.ret))
 (.skip)))
 (.seq (.region [⟨some s003, .move (.c (.int .i64 0)), none⟩])
 (.seq (.seq (.region [xf 3 s016 s001,
 xl s017 s016,
 ⟨some s020, .len (.t s017), none⟩,
 ⟨some s021, .move (.c (.int .i64 0)), none⟩])
 (.block 0
 (.loop
 (.seq (.region [⟨some s022, .bin .lss (.t s021) (.t s020), none⟩])
 (.seq (.cond (.t s022)
 (.skip)
 (.exit 0))
 (.seq (.block 1
 (.seq (.region [xm s023 s021,
 ⟨some s024, .indexSl 9 (.t s017) (.t s021), none⟩,
 ⟨some s025, .load true 9 (.t s024), none⟩,
 ⟨some s005, .alloc 1 [.int .u32 0, .int .u32 0, .int .i64 0, .int .i64 0, .int .u32 0, .int .u32 0, .int .u32 0, .bool false, .int .i64 0], none⟩,
 xm s004 s023,
 ⟨none, .store 9 (.t s005) (.t s025), none⟩])
 (.seq (.seq (.region [xf 0 s026 s005,
 xf 2 s027 s026,
 xl s030 s027,
 ⟨some s031, .call 37 [(.t s030)], none⟩,
 ⟨some s032, .un .not (.t s031), none⟩,
 xm s033 s032,
 ⟨some s034, .fieldAddr 0 (.t s005), some (s033, false)⟩,
 ⟨some s035, .fieldAddr 3 (.t s034), some (s033, false)⟩,
 ⟨some s036, .load false 1 (.t s035), some (s033, false)⟩,
 ⟨some s037, .call 37 [(.t s036)], some (s033, false)⟩,
 ⟨some s040, .un .not (.t s037), some (s033, false)⟩,
 ⟨some s041, .pick (.t s033) (.c (.bool true)) (.t s040), none⟩,
 xm s042 s041,
 ⟨some s043, .fieldAddr 8 (.t s005), some (s042, false)⟩,
 ⟨some s044, .load false 1 (.t s043), some (s042, false)⟩,
 ⟨some s045, .move (.t s003), some (s042, false)⟩,
 ⟨some s046, .bin .lss (.t s044) (.t s045), some (s042, false)⟩,
 ⟨some s047, .pick (.t s042) (.c (.bool true)) (.t s046), none⟩,
 xm s050 s047,
 ⟨some s051, .fieldAddr 8 (.t s005), some (s050, false)⟩,
 ⟨some s052, .load false 1 (.t s051), some (s050, false)⟩,
 ⟨some s053, .bin .gtr (.t s052) (.c (.int .i64 1099511627776)), some (s050, false)⟩,
 ⟨some s054, .pick (.t s050) (.c (.bool true)) (.t s053), none⟩,
 xm s055 s054,
 ⟨some s056, .fieldAddr 7 (.t s005), some (s055, false)⟩,
 ⟨some s057, .load false 1 (.t s056), some (s055, false)⟩,
 ⟨some s060, .un .not (.t s057), some (s055, false)⟩,
 ⟨some s061, .move (.t s060), some (s055, false)⟩,
 ⟨some s062, .fieldAddr 6 (.t s005), some (s061, true)⟩,
 ⟨some s063, .load false 1 (.t s062), some (s061, true)⟩,
 ⟨some s064, .bin .neq (.t s063) (.c (.int .u32 0)), some (s061, true)⟩,
 ⟨some s065, .pick (.t s061) (.t s064) (.c (.bool false)), some (s055, false)⟩,
 ⟨some s066, .pick (.t s055) (.c (.bool true)) (.t s065), none⟩,
 xm s067 s066,
 ⟨some s070, .load true 4 (.t s001), some (s067, false)⟩,
 ⟨some s071, .fieldAddr 0 (.t s005), some (s067, false)⟩,
 ⟨some s072, .load true 4 (.t s071), some (s067, false)⟩,
 ⟨some s073, .call 16 [(.t s070), (.t s072)], some (s067, false)⟩,
 ⟨some s074, .move (.t s004), some (s067, false)⟩,
 ⟨some s075, .bin .neq (.t s073) (.t s074), some (s067, false)⟩,
 ⟨some s076, .pick (.t s067) (.c (.bool true)) (.t s075), none⟩])
 (.cond (.t s076)
 (.seq (.region [⟨some s002, .move (.c (.int .i64 4)), none⟩])
 (.ret))
 (.skip)))
 (.region [xf 8 s077 s005,
 xl s100 s077,
 xm s003 s100]))))
 (.region [⟨some s101, .bin .add (.t s021) (.c (.int .i64 1)), none⟩,
 xm s021 s101])))))))
 (.seq (.region [⟨some s002, .move (.c (.int .i64 0)), none⟩])
 (.ret))))))
def r_proxy_Check : List XR := [.tmp s002]
theorem ok_proxy_Check : okC Try.prog Try.f11.ntmps (bodyOf Try.f11) x_proxy_Check = true := by kernel_rfl
theorem okr_proxy_Check : okRs Try.prog Try.f11.results.toList r_proxy_Check = true := by kernel_rfl

/-- custref.ProxyRight -/
def x_custref_ProxyRight : XC :=
 .seq (.region [⟨some s001, .box 0 4 (.t s000), none⟩,
 ⟨some s002, .move (.c (.int .i64 0)), none⟩])
 (.seq (.seq (.region [xf 2 s007 s001,
 xl s010 s007,
 ⟨some s011, .call 38 [(.t s010), (.c (.int .i64 0)), (.c (.int .i64 65535))], none⟩,
 ⟨some s012, .un .not (.t s011), none⟩])
 (.cond (.t s012)
 (.seq (.region [⟨some s002, .move (.c (.int .i64 1)), none⟩])
 (.ret))
 (.skip)))
 (.seq (.seq (.region [xf 3 s013 s001,
 xl s014 s013,
 ⟨some s015, .len (.t s014), none⟩,
 ⟨some s016, .bin .gtr (.t s015) (.c (.int .i64 64)), none⟩])
 (.cond (.t s016)
 (.seq (.region [⟨some s002, .move (.c (.int .i64 2)), none⟩])
 (.ret))
 (.skip)))
 (.seq (.seq (.region [xf 3 s017 s001,
 xl s020 s017,
 ⟨some s021, .len (.t s020), none⟩,
 ⟨some s022, .move (.c (.int .i64 0)), none⟩])
 (.block 0
 (.loop
 (.seq (.region [⟨some s023, .bin .lss (.t s022) (.t s021), none⟩])
 (.seq (.cond (.t s023)
 (.skip)
 (.exit 0))
 (.seq (.block 1
 (.seq (.region [xm s024 s022,
 ⟨some s025, .indexSl 9 (.t s020) (.t s022), none⟩,
 ⟨some s026, .load true 9 (.t s025), none⟩,
 ⟨some s004, .alloc 1 [.int .u32 0, .int .u32 0, .int .i64 0, .int .i64 0, .int .u32 0, .int .u32 0, .int .u32 0, .bool false, .int .i64 0], none⟩,
 xm s003 s024,
 ⟨none, .store 9 (.t s004) (.t s026), none⟩])
 (.seq (.seq (.region [xf 0 s027 s004,
 ⟨some s030, .load true 4 (.t s027), none⟩,
 ⟨some s031, .call 39 [(.t s030)], none⟩,
 ⟨some s032, .un .not (.t s031), none⟩,
 xm s033 s032,
 ⟨some s034, .fieldAddr 8 (.t s004), some (s033, false)⟩,
 ⟨some s035, .load false 1 (.t s034), some (s033, false)⟩,
 ⟨some s036, .call 38 [(.t s035), (.c (.int .i64 0)), (.c (.int .i64 1099511627776))], some (s033, false)⟩,
 ⟨some s037, .un .not (.t s036), some (s033, false)⟩,
 ⟨some s040, .pick (.t s033) (.c (.bool true)) (.t s037), none⟩,
 xm s041 s040,
 ⟨some s042, .fieldAddr 7 (.t s004), some (s041, false)⟩,
 ⟨some s043, .load false 1 (.t s042), some (s041, false)⟩,
 ⟨some s044, .un .not (.t s043), some (s041, false)⟩,
 ⟨some s045, .move (.t s044), some (s041, false)⟩,
 ⟨some s046, .fieldAddr 6 (.t s004), some (s045, true)⟩,
 ⟨some s047, .load false 1 (.t s046), some (s045, true)⟩,
 ⟨some s050, .bin .gtr (.t s047) (.c (.int .u32 0)), some (s045, true)⟩,
 ⟨some s051, .pick (.t s045) (.t s050) (.c (.bool false)), some (s041, false)⟩,
 ⟨some s052, .pick (.t s041) (.c (.bool true)) (.t s051), none⟩])
 (.cond (.t s052)
 (.seq (.region [⟨some s002, .move (.c (.int .i64 4)), none⟩])
 (.ret))
 (.skip)))
 (.seq (.region [xf 3 s053 s001,
 xl s054 s053,
 xm s055 s003,
 ⟨some s056, .slice 9 (.t s054) none (some (.t s055)) none, none⟩,
 ⟨some s057, .len (.t s056), none⟩,
 ⟨some s060, .move (.c (.int .i64 0)), none⟩])
 (.block 2
 (.loop
 (.seq (.region [⟨some s061, .bin .lss (.t s060) (.t s057), none⟩])
 (.seq (.cond (.t s061)
 (.skip)
 (.exit 2))
 (.seq (.block 3
 (.seq (.region [⟨some s062, .indexSl 9 (.t s056) (.t s060), none⟩,
 ⟨some s063, .load true 9 (.t s062), none⟩,
 ⟨some s006, .alloc 2 [.int .u32 0, .int .u32 0, .int .i64 0, .int .i64 0, .int .u32 0, .int .u32 0, .int .u32 0, .bool false, .int .i64 0], none⟩,
 ⟨none, .store 9 (.t s006) (.t s063), none⟩])
 (.seq (.region [xf 0 s064 s006,
 ⟨some s065, .load true 4 (.t s064), none⟩,
 xf 0 s066 s004,
 ⟨some s067, .load true 4 (.t s066), none⟩,
 ⟨some s070, .eqs false [0, 0, 0, 0] (.t s065) (.t s067), none⟩,
 xm s071 s070,
 ⟨some s072, .fieldAddr 8 (.t s006), some (s071, false)⟩,
 ⟨some s073, .load false 1 (.t s072), some (s071, false)⟩,
 ⟨some s074, .fieldAddr 8 (.t s004), some (s071, false)⟩,
 ⟨some s075, .load false 1 (.t s074), some (s071, false)⟩,
 ⟨some s076, .bin .gtr (.t s073) (.t s075), some (s071, false)⟩,
 ⟨some s077, .pick (.t s071) (.c (.bool true)) (.t s076), none⟩])
 (.cond (.t s077)
 (.seq (.region [⟨some s002, .move (.c (.int .i64 4)), none⟩])
 (.ret))
 (.skip)))))
 (.region [⟨some s100, .bin .add (.t s060) (.c (.int .i64 1)), none⟩,
 xm s060 s100]))))))))))
 (.region [⟨some s101, .bin .add (.t s022) (.c (.int .i64 1)), none⟩,
 xm s022 s101])))))))
 (.seq (.region [⟨some s002, .move (.c (.int .i64 0)), none⟩])
 (.ret)))))
def r_custref_ProxyRight : List XR := [.tmp s002]
theorem ok_custref_ProxyRight : okC Try.prog Try.f12.ntmps (bodyOf Try.f12) x_custref_ProxyRight = true := by kernel_rfl
theorem okr_custref_ProxyRight : okRs Try.prog Try.f12.results.toList r_custref_ProxyRight = true := by kernel_rfl

/-- slices.Clone -/
def x_slices_Clone_api_Guarded : XC :=
 .seq (.region [⟨some s002, .move (.c (.slice none 0 0)), none⟩])
 (.seq (.seq (.region [xm s003 s000,
 ⟨some s004, .isnil false (.t s003), none⟩])
 (.cond (.t s004)
 (.seq (.region [⟨some s002, .move (.c (.slice none 0 0)), none⟩])
 (.ret))
 (.skip)))
 (.seq (.region [⟨some s005, .buildSlice 0 0 [.int .u32 0, .int .u32 0, .int .i64 0, .int .i64 0, .int .u32 0, .int .u32 0, .int .u32 0, .bool false, .int .i64 0] [], none⟩,
 xm s006 s000,
 ⟨some s007, .append 1 9 48 (.t s005) (.t s006), none⟩,
 xm s002 s007])
 (.ret)))
def r_slices_Clone_api_Guarded : List XR := [.tmp s002]
theorem ok_slices_Clone_api_Guarded : okC Try.prog Try.f13.ntmps (bodyOf Try.f13) x_slices_Clone_api_Guarded = true := by kernel_rfl
theorem okr_slices_Clone_api_Guarded : okRs Try.prog Try.f13.results.toList r_slices_Clone_api_Guarded = true := by kernel_rfl

/-- proxy.refused -/
def x_proxy_refused : XC :=
 .seq (.region [⟨some s004, .box 0 4 (.t s000), none⟩,
 ⟨some s005, .box 1 4 (.t s001), none⟩,
 ⟨some s006, .box 2 9 (.t s002), none⟩,
 ⟨some s010, .move (.c (.int .i64 0)), none⟩])
 (.seq (.seq (.region [⟨some s016, .load true 4 (.t s004), none⟩,
 ⟨some s017, .call 11 [(.t s016)], none⟩,
 xm s011 s017])
 (.seq (.region [xm s020 s011,
 ⟨some s021, .bin .neq (.t s020) (.c (.int .i64 0)), none⟩])
 (.cond (.t s021)
 (.seq (.region [xm s022 s011,
 xm s010 s022])
 (.ret))
 (.skip))))
 (.seq (.region [⟨some s012, .move (.c (.int .i64 0)), none⟩])
 (.seq (.seq (.region [xf 3 s023 s004,
 xl s024 s023,
 ⟨some s025, .len (.t s024), none⟩,
 xm s013 s025])
 (.seq (.region [xm s026 s013,
 ⟨some s027, .bin .gtr (.t s026) (.c (.int .i64 0)), none⟩])
 (.cond (.t s027)
 (.region [xf 3 s030 s004,
 xl s031 s030,
 xm s032 s013,
 ⟨some s033, .bin .sub (.t s032) (.c (.int .i64 1)), none⟩,
 ⟨some s034, .indexSl 9 (.t s031) (.t s033), none⟩,
 xf 8 s035 s034,
 xl s036 s035,
 xm s012 s036])
 (.skip))))
 (.seq (.seq (.region [xf 2 s037 s005,
 xl s040 s037,
 ⟨some s041, .call 37 [(.t s040)], none⟩,
 ⟨some s042, .un .not (.t s041), none⟩,
 xm s043 s042,
 ⟨some s044, .fieldAddr 3 (.t s005), some (s043, false)⟩,
 ⟨some s045, .load false 1 (.t s044), some (s043, false)⟩,
 ⟨some s046, .call 37 [(.t s045)], some (s043, false)⟩,
 ⟨some s047, .un .not (.t s046), some (s043, false)⟩,
 ⟨some s050, .pick (.t s043) (.c (.bool true)) (.t s047), none⟩,
 xm s051 s050,
 ⟨some s052, .move (.t s003), some (s051, false)⟩,
 ⟨some s053, .move (.t s012), some (s051, false)⟩,
 ⟨some s054, .bin .lss (.t s052) (.t s053), some (s051, false)⟩,
 ⟨some s055, .pick (.t s051) (.c (.bool true)) (.t s054), none⟩,
 xm s056 s055,
 ⟨some s057, .move (.t s003), some (s056, false)⟩,
 ⟨some s060, .bin .gtr (.t s057) (.c (.int .i64 1099511627776)), some (s056, false)⟩,
 ⟨some s061, .pick (.t s056) (.c (.bool true)) (.t s060), none⟩,
 xm s062 s061,
 ⟨some s063, .fieldAddr 0 (.t s006), some (s062, false)⟩,
 ⟨some s064, .load false 1 (.t s063), some (s062, false)⟩,
 ⟨some s065, .fieldAddr 2 (.t s005), some (s062, false)⟩,
 ⟨some s066, .load false 1 (.t s065), some (s062, false)⟩,
 ⟨some s067, .bin .neq (.t s064) (.t s066), some (s062, false)⟩,
 ⟨some s070, .pick (.t s062) (.c (.bool true)) (.t s067), none⟩,
 xm s071 s070,
 ⟨some s072, .fieldAddr 1 (.t s006), some (s071, false)⟩,
 ⟨some s073, .load false 1 (.t s072), some (s071, false)⟩,
 ⟨some s074, .fieldAddr 3 (.t s005), some (s071, false)⟩,
 ⟨some s075, .load false 1 (.t s074), some (s071, false)⟩,
 ⟨some s076, .bin .neq (.t s073) (.t s075), some (s071, false)⟩,
 ⟨some s077, .pick (.t s071) (.c (.bool true)) (.t s076), none⟩])
 (.cond (.t s077)
 (.seq (.region [⟨some s010, .move (.c (.int .i64 1)), none⟩])
 (.ret))
 (.skip)))
 (.seq (.region [⟨some s101, .load true 9 (.t s006), none⟩,
 xf 0 s102 s005,
 xl s103 s102,
 xf 1 s104 s005,
 xl s105 s104,
 ⟨some s106, .call 40 [(.t s101), (.t s103), (.t s105)], none⟩,
 xm s100 s106,
 ⟨some s107, .extract 0 (.t s100), none⟩,
 ⟨some s110, .extract 1 (.t s100), none⟩,
 xm s014 s107,
 xm s015 s110])
 (.seq (.region [xm s111 s015,
 xm s010 s111])
 (.ret)))))))
def r_proxy_refused : List XR := [.tmp s010]
theorem ok_proxy_refused : okC Try.prog Try.f14.ntmps (bodyOf Try.f14) x_proxy_refused = true := by kernel_rfl
theorem okr_proxy_refused : okRs Try.prog Try.f14.results.toList r_proxy_refused = true := by kernel_rfl

/-- proxy.begun -/
def x_proxy_begun : XC :=
 .seq (.region [⟨some s002, .box 0 4 (.t s000), none⟩,
 ⟨some s003, .box 1 1 (.t s001), none⟩,
 ⟨some s004, .move (.c (.pointer none)), none⟩])
 (.seq (.region [xf 3 s005 s002,
 xl s006 s005,
 ⟨some s007, .call 13 [(.t s006)], none⟩,
 ⟨some s010, .mkfn 42 [] [(.t s003)], none⟩,
 ⟨some s011, .call 41 [(.t s007), (.t s010)], none⟩,
 xf 3 s012 s002,
 ⟨none, .store 1 (.t s012) (.t s011), none⟩])
 (.seq (.region [⟨some s013, .load true 4 (.t s002), none⟩,
 xl s014 s003,
 ⟨some s015, .build [.int .u64 0, .int .u64 0, .int .i64 0, .slice none 0 0, .int .i64 0, .slice none 0 0, .slice none 0 0] [(0, 4, (.t s013)), (4, 1, (.t s014))], none⟩,
 ⟨some s016, .box 2 7 (.t s015), none⟩,
 xm s004 s016])
 (.ret)))
def r_proxy_begun : List XR := [.tmp s004]
theorem ok_proxy_begun : okC Try.prog Try.f15.ntmps (bodyOf Try.f15) x_proxy_begun = true := by kernel_rfl
theorem okr_proxy_begun : okRs Try.prog Try.f15.results.toList r_proxy_begun = true := by kernel_rfl

/-- proxy.place -/
def x_proxy_place : XC :=
 .seq (.region [⟨some s002, .box 0 4 (.t s000), none⟩,
 ⟨some s003, .box 1 4 (.t s001), none⟩,
 ⟨some s004, .move (.c (.int .i64 0)), none⟩])
 (.seq (.region [xf 3 s005 s002,
 xl s006 s005,
 ⟨some s007, .mkfn 45 [] [(.t s003)], none⟩,
 ⟨some s010, .call 44 [(.t s006), (.t s007)], none⟩,
 xm s004 s010])
 (.ret))
def r_proxy_place : List XR := [.tmp s004]
theorem ok_proxy_place : okC Try.prog Try.f16.ntmps (bodyOf Try.f16) x_proxy_place = true := by kernel_rfl
theorem okr_proxy_place : okRs Try.prog Try.f16.results.toList r_proxy_place = true := by kernel_rfl

/-- custref.ProxyRefused -/
def x_custref_ProxyRefused : XC :=
 .seq (.region [⟨some s004, .box 0 4 (.t s000), none⟩,
 ⟨some s005, .box 1 4 (.t s001), none⟩,
 ⟨some s006, .box 2 9 (.t s002), none⟩,
 ⟨some s010, .move (.c (.int .i64 0)), none⟩])
 (.seq (.seq (.region [⟨some s017, .load true 4 (.t s004), none⟩,
 ⟨some s020, .call 12 [(.t s017)], none⟩,
 xm s011 s020])
 (.seq (.region [xm s021 s011,
 ⟨some s022, .bin .neq (.t s021) (.c (.int .i64 0)), none⟩])
 (.cond (.t s022)
 (.seq (.region [xm s023 s011,
 xm s010 s023])
 (.ret))
 (.skip))))
 (.seq (.region [⟨some s012, .move (.c (.int .i64 0)), none⟩])
 (.seq (.seq (.region [xf 3 s024 s004,
 xl s025 s024,
 ⟨some s026, .len (.t s025), none⟩,
 ⟨some s027, .move (.c (.int .i64 0)), none⟩])
 (.block 0
 (.loop
 (.seq (.region [⟨some s030, .bin .lss (.t s027) (.t s026), none⟩])
 (.seq (.cond (.t s030)
 (.skip)
 (.exit 0))
 (.seq (.block 1
 (.seq (.region [⟨some s031, .indexSl 9 (.t s025) (.t s027), none⟩,
 ⟨some s032, .load true 9 (.t s031), none⟩,
 ⟨some s014, .alloc 3 [.int .u32 0, .int .u32 0, .int .i64 0, .int .i64 0, .int .u32 0, .int .u32 0, .int .u32 0, .bool false, .int .i64 0], none⟩,
 ⟨none, .store 9 (.t s014) (.t s032), none⟩])
 (.region [xf 8 s033 s014,
 xl s034 s033,
 xm s012 s034])))
 (.region [⟨some s035, .bin .add (.t s027) (.c (.int .i64 1)), none⟩,
 xm s027 s035])))))))
 (.seq (.seq (.region [⟨some s036, .load true 4 (.t s005), none⟩,
 ⟨some s037, .call 39 [(.t s036)], none⟩,
 ⟨some s040, .un .not (.t s037), none⟩,
 xm s041 s040,
 ⟨some s042, .move (.t s003), some (s041, false)⟩,
 ⟨some s043, .move (.t s012), some (s041, false)⟩,
 ⟨some s044, .call 38 [(.t s042), (.t s043), (.c (.int .i64 1099511627776))], some (s041, false)⟩,
 ⟨some s045, .un .not (.t s044), some (s041, false)⟩,
 ⟨some s046, .pick (.t s041) (.c (.bool true)) (.t s045), none⟩,
 xm s047 s046,
 ⟨some s050, .fieldAddr 0 (.t s006), some (s047, false)⟩,
 ⟨some s051, .load false 1 (.t s050), some (s047, false)⟩,
 ⟨some s052, .fieldAddr 2 (.t s005), some (s047, false)⟩,
 ⟨some s053, .load false 1 (.t s052), some (s047, false)⟩,
 ⟨some s054, .bin .neq (.t s051) (.t s053), some (s047, false)⟩,
 ⟨some s055, .pick (.t s047) (.c (.bool true)) (.t s054), none⟩,
 xm s056 s055,
 ⟨some s057, .fieldAddr 1 (.t s006), some (s056, false)⟩,
 ⟨some s060, .load false 1 (.t s057), some (s056, false)⟩,
 ⟨some s061, .fieldAddr 3 (.t s005), some (s056, false)⟩,
 ⟨some s062, .load false 1 (.t s061), some (s056, false)⟩,
 ⟨some s063, .bin .neq (.t s060) (.t s062), some (s056, false)⟩,
 ⟨some s064, .pick (.t s056) (.c (.bool true)) (.t s063), none⟩])
 (.cond (.t s064)
 (.seq (.region [⟨some s010, .move (.c (.int .i64 1)), none⟩])
 (.ret))
 (.skip)))
 (.seq (.region [⟨some s066, .load true 9 (.t s006), none⟩,
 xf 0 s067 s005,
 xl s070 s067,
 xf 1 s071 s005,
 xl s072 s071,
 ⟨some s073, .call 50 [(.t s066), (.t s070), (.t s072)], none⟩,
 xm s065 s073,
 ⟨some s074, .extract 0 (.t s065), none⟩,
 ⟨some s075, .extract 1 (.t s065), none⟩,
 xm s015 s074,
 xm s016 s075])
 (.seq (.region [xm s076 s016,
 xm s010 s076])
 (.ret)))))))
def r_custref_ProxyRefused : List XR := [.tmp s010]
theorem ok_custref_ProxyRefused : okC Try.prog Try.f19.ntmps (bodyOf Try.f19) x_custref_ProxyRefused = true := by kernel_rfl
theorem okr_custref_ProxyRefused : okRs Try.prog Try.f19.results.toList r_custref_ProxyRefused = true := by kernel_rfl

/-- custref.youngTalks -/
def x_custref_youngTalks : XC :=
 .seq (.region [⟨some s003, .box 0 4 (.t s000), none⟩,
 ⟨some s004, .box 1 4 (.t s001), none⟩,
 ⟨some s006, .alloc 2 [.int .u64 0, .int .u64 0, .int .i64 0, .slice none 0 0], none⟩,
 ⟨some s007, .alloc 3 [.int .u32 0, .int .u32 0, .int .i64 0, .int .i64 0, .int .u32 0, .int .u32 0, .int .u32 0, .bool false, .int .i64 0], none⟩,
 ⟨some s010, .move (.c (.bool false)), none⟩])
 (.seq (.region [⟨some s011, .move (.c (.slice none 0 0)), none⟩])
 (.seq (.region [⟨some s012, .alloc 4 [.int .u32 0, .int .u32 0, .int .i64 0, .int .i64 0, .int .u32 0, .int .u32 0, .int .u32 0, .bool false, .int .i64 0], none⟩])
 (.seq (.region [⟨some s013, .move (.c (.bool false)), none⟩])
 (.seq (.seq (.region [xf 3 s017 s003,
 xl s020 s017,
 ⟨some s021, .len (.t s020), none⟩,
 ⟨some s022, .move (.c (.int .i64 0)), none⟩])
 (.block 0
 (.loop
 (.seq (.region [⟨some s023, .bin .lss (.t s022) (.t s021), none⟩])
 (.seq (.cond (.t s023)
 (.skip)
 (.exit 0))
 (.seq (.block 1
 (.seq (.region [⟨some s024, .indexSl 9 (.t s020) (.t s022), none⟩,
 ⟨some s025, .load true 9 (.t s024), none⟩,
 ⟨some s015, .alloc 5 [.int .u32 0, .int .u32 0, .int .i64 0, .int .i64 0, .int .u32 0, .int .u32 0, .int .u32 0, .bool false, .int .i64 0], none⟩,
 ⟨none, .store 9 (.t s015) (.t s025), none⟩])
 (.seq (.region [⟨some s016, .move (.c (.int .i64 30)), none⟩])
 (.seq (.seq (.region [xf 7 s026 s015,
 xl s027 s026])
 (.cond (.t s027)
 (.region [⟨some s016, .move (.c (.int .i64 3000)), none⟩])
 (.skip)))
 (.seq (.seq (.region [xm s030 s002,
 xf 8 s031 s015,
 xl s032 s031,
 xm s033 s016,
 ⟨some s034, .bin .add (.t s032) (.t s033), none⟩,
 ⟨some s035, .bin .gtr (.t s030) (.t s034), none⟩])
 (.cond (.t s035)
 (.exit 1)
 (.skip)))
 (.seq (.region [xm s036 s011,
 ⟨some s037, .load true 9 (.t s015), none⟩,
 ⟨some s040, .buildSlice 6 1 [.int .u32 0, .int .u32 0, .int .i64 0, .int .i64 0, .int .u32 0, .int .u32 0, .int .u32 0, .bool false, .int .i64 0] [(0, (.t s037))], none⟩,
 ⟨some s041, .append 7 9 48 (.t s036) (.t s040), none⟩,
 xm s011 s041])
 (.seq (.region [xf 0 s042 s015,
 ⟨some s043, .load true 4 (.t s042), none⟩,
 ⟨some s044, .load true 4 (.t s004), none⟩,
 ⟨some s045, .eqs false [0, 0, 0, 0] (.t s043) (.t s044), none⟩])
 (.cond (.t s045)
 (.region [⟨some s046, .load true 9 (.t s015), none⟩,
 ⟨none, .store 9 (.t s012) (.t s046), none⟩,
 ⟨some s013, .move (.c (.bool true)), none⟩])
 (.skip)))))))))
 (.region [⟨some s047, .bin .add (.t s022) (.c (.int .i64 1)), none⟩,
 xm s022 s047])))))))
 (.seq (.region [xm s050 s011,
 xf 3 s051 s003,
 ⟨none, .store 1 (.t s051) (.t s050), none⟩])
 (.seq (.regionD [0, 0, 0, 1, 11, 31] [⟨some s052, .load true 4 (.t s003), none⟩,
 ⟨some s053, .load true 9 (.t s012), none⟩,
 xm s054 s013,
 ⟨none, .store 4 (.t s006) (.t s052), none⟩,
 ⟨none, .store 9 (.t s007) (.t s053), none⟩,
 xm s010 s054])
 (.ret)))))))
def r_custref_youngTalks : List XR := [.cell s006 true 4, .cell s007 true 9, .tmp s010]
theorem ok_custref_youngTalks : okC Try.prog Try.f20.ntmps (bodyOf Try.f20) x_custref_youngTalks = true := by kernel_rfl
theorem okr_custref_youngTalks : okRs Try.prog Try.f20.results.toList r_custref_youngTalks = true := by kernel_rfl

/-- custref.talksBut -/
def x_custref_talksBut : XC :=
 .seq (.region [⟨some s003, .box 1 4 (.t s000), none⟩,
 ⟨some s004, .box 2 4 (.t s001), none⟩,
 ⟨some s006, .alloc 3 [.int .u64 0, .int .u64 0, .int .i64 0, .slice none 0 0], none⟩])
 (.seq (.region [⟨some s007, .move (.c (.slice none 0 0)), none⟩])
 (.seq (.seq (.region [xf 3 s012 s003,
 xl s013 s012,
 ⟨some s014, .len (.t s013), none⟩,
 ⟨some s015, .move (.c (.int .i64 0)), none⟩])
 (.block 0
 (.loop
 (.seq (.region [⟨some s016, .bin .lss (.t s015) (.t s014), none⟩])
 (.seq (.cond (.t s016)
 (.skip)
 (.exit 0))
 (.seq (.block 1
 (.seq (.region [⟨some s017, .indexSl 9 (.t s013) (.t s015), none⟩,
 ⟨some s020, .load true 9 (.t s017), none⟩,
 ⟨some s011, .alloc 4 [.int .u32 0, .int .u32 0, .int .i64 0, .int .i64 0, .int .u32 0, .int .u32 0, .int .u32 0, .bool false, .int .i64 0], none⟩,
 ⟨none, .store 9 (.t s011) (.t s020), none⟩])
 (.seq (.region [xf 0 s021 s011,
 ⟨some s022, .load true 4 (.t s021), none⟩,
 ⟨some s023, .load true 4 (.t s004), none⟩,
 ⟨some s024, .eqs true [0, 0, 0, 0] (.t s022) (.t s023), none⟩])
 (.cond (.t s024)
 (.region [xm s025 s007,
 ⟨some s026, .load true 9 (.t s011), none⟩,
 ⟨some s027, .buildSlice 5 1 [.int .u32 0, .int .u32 0, .int .i64 0, .int .i64 0, .int .u32 0, .int .u32 0, .int .u32 0, .bool false, .int .i64 0] [(0, (.t s026))], none⟩,
 ⟨some s030, .append 6 9 48 (.t s025) (.t s027), none⟩,
 xm s007 s030])
 (.skip)))))
 (.region [⟨some s031, .bin .add (.t s015) (.c (.int .i64 1)), none⟩,
 xm s015 s031])))))))
 (.seq (.region [xm s032 s007,
 xm s033 s002,
 ⟨some s034, .append 7 9 48 (.t s032) (.t s033), none⟩,
 xf 3 s035 s003,
 ⟨none, .store 1 (.t s035) (.t s034), none⟩])
 (.seq (.region [⟨some s036, .load true 4 (.t s003), none⟩,
 ⟨none, .store 4 (.t s006) (.t s036), none⟩])
 (.ret)))))
def r_custref_talksBut : List XR := [.cell s006 true 4]
theorem ok_custref_talksBut : okC Try.prog Try.f22.ntmps (bodyOf Try.f22) x_custref_talksBut = true := by kernel_rfl
theorem okr_custref_talksBut : okRs Try.prog Try.f22.results.toList r_custref_talksBut = true := by kernel_rfl

/-- custref.Moved -/
def x_custref_Moved : XC :=
 .seq (.region [⟨some s003, .box 0 9 (.t s000), none⟩,
 ⟨some s006, .alloc 1 [.int .i64 0, .int .i64 0, .int .u32 0, .int .u32 0, .int .i64 0, .int .i64 0, .int .i64 0, .slice none 0 0, .string { data := #[] }], none⟩])
 (.seq (.region [xf 2 s014 s003,
 xl s015 s014,
 xm s016 s001,
 ⟨some s017, .call 24 [(.t s015), (.t s016)], none⟩,
 xf 2 s020 s003,
 ⟨none, .store 1 (.t s020) (.t s017), none⟩])
 (.seq (.seq (.region [xf 4 s021 s003,
 xl s022 s021,
 ⟨some s023, .bin .and (.t s022) (.c (.int .i64 16)), none⟩,
 ⟨some s024, .bin .eql (.t s023) (.c (.int .i64 0)), none⟩])
 (.cond (.t s024)
 (.seq (.region [⟨some s025, .load true 9 (.t s003), none⟩,
 ⟨none, .store 9 (.t s006) (.t s025), none⟩])
 (.ret))
 (.skip)))
 (.seq (.region [xf 3 s026 s003,
 xl s027 s026,
 xm s030 s002,
 ⟨some s031, .call 24 [(.t s027), (.t s030)], none⟩,
 xf 3 s032 s003,
 ⟨none, .store 1 (.t s032) (.t s031), none⟩])
 (.seq (.region [⟨some s007, .move (.c (.slice none 0 0)), none⟩])
 (.seq (.seq (.region [xf 7 s033 s003,
 xl s034 s033,
 ⟨some s035, .len (.t s034), none⟩,
 ⟨some s036, .move (.c (.int .i64 0)), none⟩])
 (.block 0
 (.loop
 (.seq (.region [⟨some s037, .bin .lss (.t s036) (.t s035), none⟩])
 (.seq (.cond (.t s037)
 (.skip)
 (.exit 0))
 (.seq (.block 1
 (.seq (.region [⟨some s040, .indexSl 2 (.t s034) (.t s036), none⟩,
 ⟨some s041, .load true 2 (.t s040), none⟩,
 ⟨some s011, .alloc 2 [.int .i64 0, .string { data := #[] }], none⟩,
 ⟨none, .store 2 (.t s011) (.t s041), none⟩])
 (.seq (.seq (.region [xf 0 s042 s011,
 xl s043 s042,
 ⟨some s044, .bin .eql (.t s043) (.c (.int .i64 5)), none⟩,
 xm s045 s044,
 ⟨some s046, .fieldAddr 1 (.t s011), some (s045, true)⟩,
 ⟨some s047, .load false 1 (.t s046), some (s045, true)⟩,
 ⟨some s050, .slen (.t s047), some (s045, true)⟩,
 ⟨some s051, .bin .rem (.t s050) (.c (.int .i64 8)), some (s045, true)⟩,
 ⟨some s052, .bin .eql (.t s051) (.c (.int .i64 0)), some (s045, true)⟩,
 ⟨some s053, .pick (.t s045) (.t s052) (.c (.bool false)), none⟩])
 (.cond (.t s053)
 (.seq (.region [⟨some s012, .move (.c (.string { data := #[] })), none⟩])
 (.seq (.seq (.region [xf 1 s054 s011,
 xl s055 s054,
 xm s013 s055])
 (.block 2
 (.loop
 (.seq (.seq (.region [xm s056 s013,
 ⟨some s057, .sbin .neq (.t s056) (.c (.string { data := #[] })), none⟩])
 (.cond (.t s057)
 (.skip)
 (.exit 2)))
 (.seq (.block 3
 (.region [xm s062 s012,
 xm s063 s013,
 ⟨some s064, .call 52 [(.t s063), (.c (.int .i64 0))], none⟩,
 xm s065 s002,
 ⟨some s066, .call 24 [(.t s064), (.t s065)], none⟩,
 ⟨some s067, .call 51 [(.t s066)], none⟩,
 ⟨some s070, .sbin .add (.t s062) (.t s067), none⟩,
 xm s012 s070]))
 (.region [xm s060 s013,
 ⟨some s061, .substr (.t s060) (some (.c (.int .i64 4))) none, none⟩,
 xm s013 s061]))))))
 (.region [xm s071 s012,
 xf 1 s072 s011,
 ⟨none, .store 1 (.t s072) (.t s071), none⟩])))
 (.skip)))
 (.region [xm s073 s007,
 ⟨some s074, .load true 2 (.t s011), none⟩,
 ⟨some s075, .buildSlice 3 1 [.int .i64 0, .string { data := #[] }] [(0, (.t s074))], none⟩,
 ⟨some s076, .append 4 2 24 (.t s073) (.t s075), none⟩,
 xm s007 s076]))))
 (.region [⟨some s077, .bin .add (.t s036) (.c (.int .i64 1)), none⟩,
 xm s036 s077])))))))
 (.seq (.region [xm s100 s007,
 xf 7 s101 s003,
 ⟨none, .store 1 (.t s101) (.t s100), none⟩])
 (.seq (.region [⟨some s102, .load true 9 (.t s003), none⟩,
 ⟨none, .store 9 (.t s006) (.t s102), none⟩])
 (.ret))))))))
def r_custref_Moved : List XR := [.cell s006 true 9]
theorem ok_custref_Moved : okC Try.prog Try.f23.ntmps (bodyOf Try.f23) x_custref_Moved = true := by kernel_rfl
theorem okr_custref_Moved : okRs Try.prog Try.f23.results.toList r_custref_Moved = true := by kernel_rfl

/-- custref.Plus -/
def x_custref_Plus : XC :=
 .seq (.region [⟨some s004, .move (.c (.int .u32 0)), none⟩])
 (.seq (.region [xm s005 s000,
 ⟨some s006, .convInt .i64 (.t s005), none⟩,
 xm s007 s001,
 ⟨some s010, .convInt .i64 (.t s007), none⟩,
 ⟨some s011, .bin .add (.t s006) (.t s010), none⟩,
 ⟨some s012, .bin .rem (.t s011) (.c (.int .i64 4294967296)), none⟩,
 ⟨some s013, .convInt .u32 (.t s012), none⟩,
 xm s004 s013])
 (.ret))
def r_custref_Plus : List XR := [.tmp s004]
theorem ok_custref_Plus : okC Try.prog Try.f24.ntmps (bodyOf Try.f24) x_custref_Plus = true := by kernel_rfl
theorem okr_custref_Plus : okRs Try.prog Try.f24.results.toList r_custref_Plus = true := by kernel_rfl

/-- custref.Minus -/
def x_custref_Minus : XC :=
 .seq (.region [⟨some s004, .move (.c (.int .u32 0)), none⟩])
 (.seq (.region [xm s005 s001,
 xm s006 s000,
 ⟨some s007, .call 53 [(.t s005), (.t s006)], none⟩,
 ⟨some s010, .convInt .u32 (.t s007), none⟩,
 xm s004 s010])
 (.ret))
def r_custref_Minus : List XR := [.tmp s004]
theorem ok_custref_Minus : okC Try.prog Try.f25.ntmps (bodyOf Try.f25) x_custref_Minus = true := by kernel_rfl
theorem okr_custref_Minus : okRs Try.prog Try.f25.results.toList r_custref_Minus = true := by kernel_rfl

/-- slices.Equal -/
def x_slices_Equal_api_Guarded : XC :=
 .seq (.region [⟨some s004, .move (.c (.bool false)), none⟩])
 (.seq (.seq (.region [xm s006 s000,
 ⟨some s007, .len (.t s006), none⟩,
 xm s010 s001,
 ⟨some s011, .len (.t s010), none⟩,
 ⟨some s012, .bin .neq (.t s007) (.t s011), none⟩])
 (.cond (.t s012)
 (.seq (.region [⟨some s004, .move (.c (.bool false)), none⟩])
 (.ret))
 (.skip)))
 (.seq (.seq (.region [xm s013 s000,
 ⟨some s014, .len (.t s013), none⟩,
 ⟨some s015, .move (.c (.int .i64 0)), none⟩])
 (.block 0
 (.loop
 (.seq (.region [⟨some s016, .bin .lss (.t s015) (.t s014), none⟩])
 (.seq (.cond (.t s016)
 (.skip)
 (.exit 0))
 (.seq (.block 1
 (.seq (.region [xm s017 s015,
 xm s005 s017])
 (.seq (.regionD [0, 0, 3, 7, 0, 0, 48, 112, 255] [xm s020 s000,
 xm s021 s005,
 ⟨some s022, .indexSl 9 (.t s020) (.t s021), none⟩,
 ⟨some s023, .load true 9 (.t s022), none⟩,
 xm s024 s001,
 xm s025 s005,
 ⟨some s026, .indexSl 9 (.t s024) (.t s025), none⟩,
 ⟨some s027, .load true 9 (.t s026), none⟩,
 ⟨some s030, .eqs true [0, 0, 0, 0, 0, 0, 0, 1, 0] (.t s023) (.t s027), none⟩])
 (.cond (.t s030)
 (.seq (.region [⟨some s004, .move (.c (.bool false)), none⟩])
 (.ret))
 (.skip)))))
 (.region [⟨some s031, .bin .add (.t s015) (.c (.int .i64 1)), none⟩,
 xm s015 s031])))))))
 (.seq (.region [⟨some s004, .move (.c (.bool true)), none⟩])
 (.ret))))
def r_slices_Equal_api_Guarded : List XR := [.tmp s004]
theorem ok_slices_Equal_api_Guarded : okC Try.prog Try.f26.ntmps (bodyOf Try.f26) x_slices_Equal_api_Guarded = true := by kernel_rfl
theorem okr_slices_Equal_api_Guarded : okRs Try.prog Try.f26.results.toList r_slices_Equal_api_Guarded = true := by kernel_rfl

/-- slices.EqualFunc -/
def x_slices_EqualFunc_api_Segment : XC :=
 .seq (.region [⟨some s006, .move (.c (.bool false)), none⟩])
 (.seq (.seq (.region [xm s012 s000,
 ⟨some s013, .len (.t s012), none⟩,
 xm s014 s001,
 ⟨some s015, .len (.t s014), none⟩,
 ⟨some s016, .bin .neq (.t s013) (.t s015), none⟩])
 (.cond (.t s016)
 (.seq (.region [⟨some s006, .move (.c (.bool false)), none⟩])
 (.ret))
 (.skip)))
 (.seq (.seq (.region [xm s017 s000,
 ⟨some s020, .len (.t s017), none⟩,
 ⟨some s021, .move (.c (.int .i64 0)), none⟩])
 (.block 0
 (.loop
 (.seq (.region [⟨some s022, .bin .lss (.t s021) (.t s020), none⟩])
 (.seq (.cond (.t s022)
 (.skip)
 (.exit 0))
 (.seq (.block 1
 (.seq (.region [xm s023 s021,
 ⟨some s024, .indexSl 9 (.t s017) (.t s021), none⟩,
 ⟨some s025, .load true 9 (.t s024), none⟩,
 ⟨some s010, .alloc 0 [.int .i64 0, .int .i64 0, .int .u32 0, .int .u32 0, .int .i64 0, .int .i64 0, .int .i64 0, .slice none 0 0, .string { data := #[] }], none⟩,
 xm s007 s023,
 ⟨none, .store 9 (.t s010) (.t s025), none⟩])
 (.seq (.region [xm s026 s001,
 xm s027 s007,
 ⟨some s030, .indexSl 9 (.t s026) (.t s027), none⟩,
 ⟨some s031, .load true 9 (.t s030), none⟩,
 ⟨some s011, .alloc 1 [.int .i64 0, .int .i64 0, .int .u32 0, .int .u32 0, .int .i64 0, .int .i64 0, .int .i64 0, .slice none 0 0, .string { data := #[] }], none⟩,
 ⟨none, .store 9 (.t s011) (.t s031), none⟩])
 (.seq (.region [xm s032 s002,
 ⟨some s033, .load true 9 (.t s010), none⟩,
 ⟨some s034, .load true 9 (.t s011), none⟩,
 ⟨some s035, .callv (.t s032) [(.t s033), (.t s034)], none⟩,
 ⟨some s036, .un .not (.t s035), none⟩])
 (.cond (.t s036)
 (.seq (.region [⟨some s006, .move (.c (.bool false)), none⟩])
 (.ret))
 (.skip))))))
 (.region [⟨some s037, .bin .add (.t s021) (.c (.int .i64 1)), none⟩,
 xm s021 s037])))))))
 (.seq (.region [⟨some s006, .move (.c (.bool true)), none⟩])
 (.ret))))
def r_slices_EqualFunc_api_Segment : List XR := [.tmp s006]
theorem ok_slices_EqualFunc_api_Segment : okC Try.prog Try.f27.ntmps (bodyOf Try.f27) x_slices_EqualFunc_api_Segment = true := by kernel_rfl
theorem okr_slices_EqualFunc_api_Segment : okRs Try.prog Try.f27.results.toList r_slices_EqualFunc_api_Segment = true := by kernel_rfl

/-- custref.SameSegment -/
def x_custref_SameSegment : XC :=
 .seq (.region [⟨some s002, .box 0 9 (.t s000), none⟩,
 ⟨some s003, .box 1 9 (.t s001), none⟩,
 ⟨some s004, .move (.c (.bool false)), none⟩])
 (.seq (.region [xf 0 s005 s002,
 xl s006 s005,
 xf 0 s007 s003,
 xl s010 s007,
 ⟨some s011, .bin .eql (.t s006) (.t s010), none⟩,
 xm s012 s011,
 ⟨some s013, .fieldAddr 1 (.t s002), some (s012, true)⟩,
 ⟨some s014, .load false 1 (.t s013), some (s012, true)⟩,
 ⟨some s015, .fieldAddr 1 (.t s003), some (s012, true)⟩,
 ⟨some s016, .load false 1 (.t s015), some (s012, true)⟩,
 ⟨some s017, .bin .eql (.t s014) (.t s016), some (s012, true)⟩,
 ⟨some s020, .pick (.t s012) (.t s017) (.c (.bool false)), none⟩,
 xm s021 s020,
 ⟨some s022, .fieldAddr 2 (.t s002), some (s021, true)⟩,
 ⟨some s023, .load false 1 (.t s022), some (s021, true)⟩,
 ⟨some s024, .fieldAddr 2 (.t s003), some (s021, true)⟩,
 ⟨some s025, .load false 1 (.t s024), some (s021, true)⟩,
 ⟨some s026, .bin .eql (.t s023) (.t s025), some (s021, true)⟩,
 ⟨some s027, .pick (.t s021) (.t s026) (.c (.bool false)), none⟩,
 xm s030 s027,
 ⟨some s031, .fieldAddr 3 (.t s002), some (s030, true)⟩,
 ⟨some s032, .load false 1 (.t s031), some (s030, true)⟩,
 ⟨some s033, .fieldAddr 3 (.t s003), some (s030, true)⟩,
 ⟨some s034, .load false 1 (.t s033), some (s030, true)⟩,
 ⟨some s035, .bin .eql (.t s032) (.t s034), some (s030, true)⟩,
 ⟨some s036, .pick (.t s030) (.t s035) (.c (.bool false)), none⟩,
 xm s037 s036,
 ⟨some s040, .fieldAddr 4 (.t s002), some (s037, true)⟩,
 ⟨some s041, .load false 1 (.t s040), some (s037, true)⟩,
 ⟨some s042, .fieldAddr 4 (.t s003), some (s037, true)⟩,
 ⟨some s043, .load false 1 (.t s042), some (s037, true)⟩,
 ⟨some s044, .bin .eql (.t s041) (.t s043), some (s037, true)⟩,
 ⟨some s045, .pick (.t s037) (.t s044) (.c (.bool false)), none⟩,
 xm s046 s045,
 ⟨some s047, .fieldAddr 5 (.t s002), some (s046, true)⟩,
 ⟨some s050, .load false 1 (.t s047), some (s046, true)⟩,
 ⟨some s051, .fieldAddr 5 (.t s003), some (s046, true)⟩,
 ⟨some s052, .load false 1 (.t s051), some (s046, true)⟩,
 ⟨some s053, .bin .eql (.t s050) (.t s052), some (s046, true)⟩,
 ⟨some s054, .pick (.t s046) (.t s053) (.c (.bool false)), none⟩,
 xm s055 s054,
 ⟨some s056, .fieldAddr 6 (.t s002), some (s055, true)⟩,
 ⟨some s057, .load false 1 (.t s056), some (s055, true)⟩,
 ⟨some s060, .fieldAddr 6 (.t s003), some (s055, true)⟩,
 ⟨some s061, .load false 1 (.t s060), some (s055, true)⟩,
 ⟨some s062, .bin .eql (.t s057) (.t s061), some (s055, true)⟩,
 ⟨some s063, .pick (.t s055) (.t s062) (.c (.bool false)), none⟩,
 xm s064 s063,
 ⟨some s065, .fieldAddr 8 (.t s002), some (s064, true)⟩,
 ⟨some s066, .load false 1 (.t s065), some (s064, true)⟩,
 ⟨some s067, .fieldAddr 8 (.t s003), some (s064, true)⟩,
 ⟨some s070, .load false 1 (.t s067), some (s064, true)⟩,
 ⟨some s071, .sbin .eql (.t s066) (.t s070), some (s064, true)⟩,
 ⟨some s072, .pick (.t s064) (.t s071) (.c (.bool false)), none⟩,
 xm s073 s072,
 ⟨some s074, .fieldAddr 7 (.t s002), some (s073, true)⟩,
 ⟨some s075, .load false 1 (.t s074), some (s073, true)⟩,
 ⟨some s076, .fieldAddr 7 (.t s003), some (s073, true)⟩,
 ⟨some s077, .load false 1 (.t s076), some (s073, true)⟩,
 ⟨some s100, .call 54 [(.t s075), (.t s077)], some (s073, true)⟩,
 ⟨some s101, .pick (.t s073) (.t s100) (.c (.bool false)), none⟩,
 xm s004 s101])
 (.ret))
def r_custref_SameSegment : List XR := [.tmp s004]
theorem ok_custref_SameSegment : okC Try.prog Try.f28.ntmps (bodyOf Try.f28) x_custref_SameSegment = true := by kernel_rfl
theorem okr_custref_SameSegment : okRs Try.prog Try.f28.results.toList r_custref_SameSegment = true := by kernel_rfl

/-- proxy.guard).fromClient -/
def x_proxy_guard_fromClient : XC :=
 .seq (.region [⟨some s005, .box 2 9 (.t s002), none⟩])
 (.seq (.region [xm s010 s000,
 ⟨some s011, .nilCheck (.t s010), none⟩,
 xf 0 s012 s011,
 xf 3 s013 s012,
 xl s014 s013,
 xm s015 s001,
 ⟨some s016, .indexSl 9 (.t s014) (.t s015), none⟩,
 ⟨some s017, .load true 9 (.t s016), none⟩,
 ⟨some s006, .alloc 3 [.int .u32 0, .int .u32 0, .int .i64 0, .int .i64 0, .int .u32 0, .int .u32 0, .int .u32 0, .bool false, .int .i64 0], none⟩,
 ⟨none, .store 9 (.t s006) (.t s017), none⟩])
 (.seq (.region [⟨some s020, .load true 9 (.t s005), none⟩,
 xf 6 s021 s006,
 xl s022 s021,
 ⟨some s023, .un .neg (.t s022), none⟩,
 ⟨some s024, .call 46 [(.t s020), (.c (.int .u32 0)), (.t s023)], none⟩,
 ⟨some s007, .alloc 4 [.int .i64 0, .int .i64 0, .int .u32 0, .int .u32 0, .int .i64 0, .int .i64 0, .int .i64 0, .slice none 0 0, .string { data := #[] }], none⟩,
 ⟨none, .store 9 (.t s007) (.t s024), none⟩])
 (.block 0
 (.seq (.region [xm s026 s000,
 ⟨some s027, .load true 9 (.t s005), none⟩,
 ⟨some s030, .call 47 [(.t s026), (.t s027), (.c (.int .i64 4))], none⟩,
 xm s025 s030])
 (.cond (.t s025)
 (.seq (.region [xm s031 s000,
 xm s032 s001,
 ⟨some s033, .call 48 [(.t s031), (.t s032)], none⟩])
 (.seq (.region [xf 7 s034 s006,
 xl s035 s034])
 (.cond (.t s035)
 (.regionD [0, 0, 2, 6, 14, 0, 32, 126, 255, 511, 1023] [xm s036 s000,
 xm s037 s000,
 ⟨some s040, .nilCheck (.t s037), none⟩,
 xf 6 s041 s040,
 xl s042 s041,
 ⟨some s043, .load true 9 (.t s007), none⟩,
 ⟨some s044, .buildSlice 5 1 [.int .i64 0, .int .i64 0, .int .u32 0, .int .u32 0, .int .i64 0, .int .i64 0, .int .i64 0, .slice none 0 0, .string { data := #[] }] [(0, (.t s043))], none⟩,
 ⟨some s045, .append 6 9 88 (.t s042) (.t s044), none⟩,
 ⟨some s046, .nilCheck (.t s036), none⟩,
 xf 6 s047 s046,
 ⟨none, .store 1 (.t s047) (.t s045), none⟩])
 (.skip))))
 (.seq (.region [xm s051 s000,
 ⟨some s052, .load true 9 (.t s005), none⟩,
 ⟨some s053, .call 47 [(.t s051), (.t s052), (.c (.int .i64 2))], none⟩,
 xm s050 s053])
 (.cond (.t s050)
 (.skip)
 (.seq (.region [xf 7 s055 s006,
 xl s056 s055,
 xm s054 s056])
 (.cond (.t s054)
 (.seq (.region [xm s057 s000,
 xm s060 s001,
 ⟨some s061, .load true 9 (.t s006), none⟩,
 ⟨some s062, .call 49 [(.t s057), (.t s060), (.t s061)], none⟩])
 (.regionD [0, 0, 2, 6, 14, 0, 32, 126, 255, 511, 1023] [xm s063 s000,
 xm s064 s000,
 ⟨some s065, .nilCheck (.t s064), none⟩,
 xf 6 s066 s065,
 xl s067 s066,
 ⟨some s070, .load true 9 (.t s007), none⟩,
 ⟨some s071, .buildSlice 7 1 [.int .i64 0, .int .i64 0, .int .u32 0, .int .u32 0, .int .i64 0, .int .i64 0, .int .i64 0, .slice none 0 0, .string { data := #[] }] [(0, (.t s070))], none⟩,
 ⟨some s072, .append 8 9 88 (.t s067) (.t s071), none⟩,
 ⟨some s073, .nilCheck (.t s063), none⟩,
 xf 6 s074 s073,
 ⟨none, .store 1 (.t s074) (.t s072), none⟩]))
 (.seq (.region [xm s076 s000,
 ⟨some s077, .load true 9 (.t s005), none⟩,
 ⟨some s100, .call 47 [(.t s076), (.t s077), (.c (.int .i64 16))], none⟩,
 xm s075 s100])
 (.cond (.t s075)
 (.region [xm s101 s000,
 ⟨some s102, .load true 9 (.t s006), none⟩,
 ⟨some s103, .call 55 [(.t s101), (.t s102), (.c (.int .i64 536))], none⟩])
 (.skip))))))))))))
def r_proxy_guard_fromClient : List XR := []
theorem ok_proxy_guard_fromClient : okC Try.prog Try.f29.ntmps (bodyOf Try.f29) x_proxy_guard_fromClient = true := by kernel_rfl
theorem okr_proxy_guard_fromClient : okRs Try.prog Try.f29.results.toList r_proxy_guard_fromClient = true := by kernel_rfl

/-- proxy.guard).stranger -/
def x_proxy_guard_stranger : XC :=
 .seq (.region [⟨some s004, .box 2 4 (.t s001), none⟩,
 ⟨some s005, .box 3 9 (.t s002), none⟩,
 ⟨some s006, .move (.c (.int .i64 0)), none⟩])
 (.seq (.region [xm s017 s000,
 ⟨some s020, .nilCheck (.t s017), none⟩,
 xf 4 s021 s020,
 xl s022 s021,
 ⟨some s023, .bin .quo (.t s022) (.c (.int .i64 64)), none⟩,
 ⟨some s024, .bin .rem (.t s023) (.c (.int .i64 32)), none⟩,
 xm s007 s024])
 (.seq (.seq (.region [xf 4 s025 s005,
 xl s026 s025,
 ⟨some s027, .bin .and (.t s026) (.c (.int .i64 23)), none⟩])
 (.block 0
 (.seq (.region [⟨some s031, .bin .eql (.t s027) (.c (.int .i64 2)), none⟩,
 xm s030 s031])
 (.cond (.t s030)
 (.seq (.region [⟨some s033, .load true 9 (.t s005), none⟩,
 ⟨some s034, .call 56 [(.t s033)], none⟩,
 xm s032 s034,
 ⟨some s035, .extract 0 (.t s032), none⟩,
 ⟨some s036, .extract 1 (.t s032), none⟩,
 xm s010 s035,
 xm s011 s036])
 (.seq (.seq (.region [xm s037 s011,
 ⟨some s040, .un .not (.t s037), none⟩])
 (.cond (.t s040)
 (.region [⟨some s010, .move (.c (.int .i64 536)), none⟩])
 (.skip)))
 (.seq (.regionD [0, 1, 3, 7, 15, 0, 0, 64, 0, 0, 512, 2047, 4095, 8191, 8191, 16383, 65535] [xm s042 s000,
 ⟨some s043, .nilCheck (.t s042), none⟩,
 xf 0 s044 s043,
 xf 0 s045 s044,
 ⟨some s046, .load true 2 (.t s045), none⟩,
 ⟨some s047, .load true 4 (.t s004), none⟩,
 xf 2 s050 s005,
 xl s051 s050,
 xm s052 s007,
 xm s053 s010,
 ⟨some s054, .call 58 [(.t s053)], none⟩,
 ⟨some s055, .call 57 [(.t s046), (.t s047), (.t s051), (.t s052), (.t s054)], none⟩,
 xm s041 s055,
 ⟨some s056, .extract 0 (.t s041), none⟩,
 ⟨some s057, .extract 1 (.t s041), none⟩,
 xm s012 s056,
 xm s013 s057])
 (.regionD [0, 0, 2, 6, 14, 0, 32, 0, 128, 0, 0, 1024, 3072, 0, 8192, 24576, 57344, 122880, 253952, 524256, 1048544, 2097150, 4194303, 8388607, 16777215] [xm s060 s000,
 xm s061 s000,
 ⟨some s062, .nilCheck (.t s061), none⟩,
 xf 5 s063 s062,
 xl s064 s063,
 xf 1 s065 s005,
 xl s066 s065,
 xf 0 s067 s005,
 xl s070 s067,
 xm s071 s012,
 xf 2 s072 s005,
 xl s073 s072,
 ⟨some s074, .bin .add (.t s073) (.c (.int .u32 1)), none⟩,
 xm s075 s000,
 ⟨some s076, .nilCheck (.t s075), none⟩,
 xf 0 s077 s076,
 xf 2 s100 s077,
 xl s101 s100,
 ⟨some s102, .call 59 [(.t s101)], none⟩,
 ⟨some s103, .build [.int .i64 0, .int .i64 0, .int .u32 0, .int .u32 0, .int .i64 0, .int .i64 0, .int .i64 0, .slice none 0 0, .string { data := #[] }] [(0, 1, (.t s066)), (1, 1, (.t s070)), (2, 1, (.t s071)), (3, 1, (.t s074)), (4, 1, (.c (.int .i64 18))), (5, 1, (.c (.int .i64 65535))), (7, 1, (.t s102))], none⟩,
 ⟨some s104, .buildSlice 4 1 [.int .i64 0, .int .i64 0, .int .u32 0, .int .u32 0, .int .i64 0, .int .i64 0, .int .i64 0, .slice none 0 0, .string { data := #[] }] [(0, (.t s103))], none⟩,
 ⟨some s105, .append 5 9 88 (.t s064) (.t s104), none⟩,
 ⟨some s106, .nilCheck (.t s060), none⟩,
 xf 5 s107 s106,
 ⟨none, .store 1 (.t s107) (.t s105), none⟩]))))
 (.seq (.seq (.region [⟨some s111, .bin .eql (.t s027) (.c (.int .i64 16)), none⟩,
 xm s110 s111])
 (.cond (.t s110)
 (.skip)
 (.region [⟨some s112, .bin .eql (.t s027) (.c (.int .i64 17)), none⟩,
 xm s110 s112])))
 (.cond (.t s110)
 (.seq (.regionD [0, 1, 3, 7, 15, 0, 0, 64, 192, 0, 512, 1536, 0, 8191, 16383, 32767, 32767, 65535, 262143] [xm s114 s000,
 ⟨some s115, .nilCheck (.t s114), none⟩,
 xf 0 s116 s115,
 xf 0 s117 s116,
 ⟨some s120, .load true 2 (.t s117), none⟩,
 ⟨some s121, .load true 4 (.t s004), none⟩,
 xf 2 s122 s005,
 xl s123 s122,
 ⟨some s124, .bin .sub (.t s123) (.c (.int .u32 1)), none⟩,
 xf 3 s125 s005,
 xl s126 s125,
 ⟨some s127, .bin .sub (.t s126) (.c (.int .u32 1)), none⟩,
 xm s130 s007,
 ⟨some s131, .call 60 [(.t s120), (.t s121), (.t s124), (.t s127), (.t s130)], none⟩,
 xm s113 s131,
 ⟨some s132, .extract 0 (.t s113), none⟩,
 ⟨some s133, .extract 1 (.t s113), none⟩,
 xm s014 s132,
 xm s015 s133])
 (.block 1
 (.seq (.region [xm s171 s015,
 ⟨some s172, .bin .neq (.t s171) (.c (.int .i64 0)), none⟩,
 xm s170 s172])
 (.cond (.t s170)
 (.regionD [0, 0, 2, 6, 14, 0, 32, 0, 128, 0, 512, 2016, 4064, 8190, 16383, 32767, 65535] [xm s173 s000,
 xm s174 s000,
 ⟨some s175, .nilCheck (.t s174), none⟩,
 xf 5 s176 s175,
 xl s177 s176,
 xf 1 s200 s005,
 xl s201 s200,
 xf 0 s202 s005,
 xl s203 s202,
 xf 3 s204 s005,
 xl s205 s204,
 ⟨some s206, .build [.int .i64 0, .int .i64 0, .int .u32 0, .int .u32 0, .int .i64 0, .int .i64 0, .int .i64 0, .slice none 0 0, .string { data := #[] }] [(0, 1, (.t s201)), (1, 1, (.t s203)), (2, 1, (.t s205)), (4, 1, (.c (.int .i64 4)))], none⟩,
 ⟨some s207, .buildSlice 6 1 [.int .i64 0, .int .i64 0, .int .u32 0, .int .u32 0, .int .i64 0, .int .i64 0, .int .i64 0, .slice none 0 0, .string { data := #[] }] [(0, (.t s206))], none⟩,
 ⟨some s210, .append 7 9 88 (.t s177) (.t s207), none⟩,
 ⟨some s211, .nilCheck (.t s173), none⟩,
 xf 5 s212 s211,
 ⟨none, .store 1 (.t s212) (.t s210), none⟩])
 (.seq (.region [xm s214 s000,
 ⟨some s215, .nilCheck (.t s214), none⟩,
 xf 0 s216 s215,
 xf 3 s217 s216,
 xl s220 s217,
 ⟨some s221, .len (.t s220), none⟩,
 ⟨some s222, .bin .eql (.t s221) (.c (.int .i64 64)), none⟩,
 xm s213 s222])
 (.cond (.t s213)
 (.seq (.region [⟨some s006, .move (.c (.int .i64 6)), none⟩])
 (.ret))
 (.seq (.regionD [0, 0, 2, 6, 0, 16, 48, 0, 128, 384, 896, 2047, 0, 8191] [⟨some s134, .load true 4 (.t s004), none⟩,
 xf 2 s135 s005,
 xl s136 s135,
 ⟨some s137, .bin .sub (.t s136) (.c (.int .u32 1)), none⟩,
 xf 3 s140 s005,
 xl s141 s140,
 ⟨some s142, .bin .sub (.t s141) (.c (.int .u32 1)), none⟩,
 xm s143 s000,
 ⟨some s144, .nilCheck (.t s143), none⟩,
 xf 4 s145 s144,
 xl s146 s145,
 ⟨some s147, .build [.int .u32 0, .int .u32 0, .int .i64 0, .int .i64 0, .int .u32 0, .int .u32 0, .int .u32 0, .bool false, .int .i64 0] [(0, 4, (.t s134)), (4, 1, (.t s137)), (5, 1, (.t s142)), (8, 1, (.t s146))], none⟩,
 ⟨some s016, .alloc 8 [.int .u32 0, .int .u32 0, .int .i64 0, .int .i64 0, .int .u32 0, .int .u32 0, .int .u32 0, .bool false, .int .i64 0], none⟩,
 ⟨none, .store 9 (.t s016) (.t s147), none⟩])
 (.seq (.regionD [0, 0, 2, 6, 14, 30, 0, 64, 254, 511, 1023, 2047, 4095] [xm s150 s000,
 xm s151 s000,
 ⟨some s152, .nilCheck (.t s151), none⟩,
 xf 0 s153 s152,
 xf 3 s154 s153,
 xl s155 s154,
 ⟨some s156, .load true 9 (.t s016), none⟩,
 ⟨some s157, .buildSlice 9 1 [.int .u32 0, .int .u32 0, .int .i64 0, .int .i64 0, .int .u32 0, .int .u32 0, .int .u32 0, .bool false, .int .i64 0] [(0, (.t s156))], none⟩,
 ⟨some s160, .append 10 9 48 (.t s155) (.t s157), none⟩,
 ⟨some s161, .nilCheck (.t s150), none⟩,
 xf 0 s162 s161,
 xf 3 s163 s162,
 ⟨none, .store 1 (.t s163) (.t s160), none⟩])
 (.region [xm s164 s000,
 ⟨some s165, .load true 9 (.t s016), none⟩,
 xm s166 s014,
 ⟨some s167, .call 55 [(.t s164), (.t s165), (.t s166)], none⟩])))))))))
 (.skip)))))))
 (.seq (.region [⟨some s006, .move (.c (.int .i64 0)), none⟩])
 (.ret))))
def r_proxy_guard_stranger : List XR := [.tmp s006]
theorem ok_proxy_guard_stranger : okC Try.prog Try.f30.ntmps (bodyOf Try.f30) x_proxy_guard_stranger = true := by kernel_rfl
theorem okr_proxy_guard_stranger : okRs Try.prog Try.f30.results.toList r_proxy_guard_stranger = true := by kernel_rfl

/-- custref.askOf -/
def x_custref_askOf : XC :=
 .seq (.region [⟨some s002, .box 0 9 (.t s000), none⟩,
 ⟨some s004, .move (.c (.slice none 0 0)), none⟩])
 (.seq (.regionD [0, 1, 3, 0, 8, 24, 0, 64, 0, 256, 768, 1792, 4095, 8191, 16383] [xf 0 s005 s002,
 xf 2 s006 s005,
 xl s007 s006,
 xf 0 s010 s002,
 xf 3 s011 s010,
 xl s012 s011,
 xf 4 s013 s002,
 xl s014 s013,
 xm s015 s001,
 ⟨some s016, .call 35 [(.t s015)], none⟩,
 ⟨some s017, .build [.int .i64 0, .string { data := #[] }] [(0, 1, (.c (.int .i64 2))), (1, 1, (.t s016))], none⟩,
 ⟨some s020, .buildSlice 1 1 [.int .i64 0, .string { data := #[] }] [(0, (.t s017))], none⟩,
 ⟨some s021, .build [.int .i64 0, .int .i64 0, .int .u32 0, .int .u32 0, .int .i64 0, .int .i64 0, .int .i64 0, .slice none 0 0, .string { data := #[] }] [(0, 1, (.t s007)), (1, 1, (.t s012)), (2, 1, (.t s014)), (4, 1, (.c (.int .i64 2))), (5, 1, (.c (.int .i64 65535))), (7, 1, (.t s020))], none⟩,
 ⟨some s022, .buildSlice 2 1 [.int .i64 0, .int .i64 0, .int .u32 0, .int .u32 0, .int .i64 0, .int .i64 0, .int .i64 0, .slice none 0 0, .string { data := #[] }] [(0, (.t s021))], none⟩,
 xm s004 s022])
 (.ret))
def r_custref_askOf : List XR := [.tmp s004]
theorem ok_custref_askOf : okC Try.prog Try.f31.ntmps (bodyOf Try.f31) x_custref_askOf = true := by kernel_rfl
theorem okr_custref_askOf : okRs Try.prog Try.f31.results.toList r_custref_askOf = true := by kernel_rfl

/-- custref.MssOf -/
def x_custref_MssOf : XC :=
 .seq (.region [⟨some s001, .box 0 9 (.t s000), none⟩,
 ⟨some s002, .move (.c (.int .i64 0)), none⟩,
 ⟨some s003, .move (.c (.bool false)), none⟩])
 (.seq (.region [xf 7 s005 s001,
 xl s006 s005,
 ⟨some s007, .call 61 [(.t s006), (.f 62)], none⟩,
 xm s004 s007])
 (.seq (.seq (.region [xm s010 s004,
 ⟨some s011, .bin .lss (.t s010) (.c (.int .i64 0)), none⟩])
 (.cond (.t s011)
 (.seq (.region [⟨some s002, .move (.c (.int .i64 0)), none⟩,
 ⟨some s003, .move (.c (.bool false)), none⟩])
 (.ret))
 (.skip)))
 (.seq (.region [xf 7 s012 s001,
 xl s013 s012,
 xm s014 s004,
 ⟨some s015, .indexSl 2 (.t s013) (.t s014), none⟩,
 xf 1 s016 s015,
 xl s017 s016,
 ⟨some s020, .call 63 [(.t s017), (.c (.int .i64 0))], none⟩,
 xm s002 s020,
 ⟨some s003, .move (.c (.bool true)), none⟩])
 (.ret))))
def r_custref_MssOf : List XR := [.tmp s002, .tmp s003]
theorem ok_custref_MssOf : okC Try.prog Try.f32.ntmps (bodyOf Try.f32) x_custref_MssOf = true := by kernel_rfl
theorem okr_custref_MssOf : okRs Try.prog Try.f32.results.toList r_custref_MssOf = true := by kernel_rfl

/-- custref.CookieSizes -/
def x_custref_CookieSizes : XC :=
 .seq (.region [⟨some s000, .move (.c (.slice none 0 0)), none⟩])
 (.seq (.region [⟨some s001, .buildSlice 0 8 [.int .i64 0] [(0, (.c (.int .i64 216))), (1, (.c (.int .i64 536))), (2, (.c (.int .i64 1220))), (3, (.c (.int .i64 1300))), (4, (.c (.int .i64 1360))), (5, (.c (.int .i64 1440))), (6, (.c (.int .i64 1460))), (7, (.c (.int .i64 8960)))], none⟩,
 xm s000 s001])
 (.ret))
def r_custref_CookieSizes : List XR := [.tmp s000]
theorem ok_custref_CookieSizes : okC Try.prog Try.f33.ntmps (bodyOf Try.f33) x_custref_CookieSizes = true := by kernel_rfl
theorem okr_custref_CookieSizes : okRs Try.prog Try.f33.results.toList r_custref_CookieSizes = true := by kernel_rfl

/-- custref.CookieOf -/
def x_custref_CookieOf : XC :=
 .seq (.region [⟨some s005, .box 0 2 (.t s000), none⟩,
 ⟨some s006, .box 1 4 (.t s001), none⟩,
 ⟨some s012, .move (.c (.int .u32 0)), none⟩,
 ⟨some s013, .move (.c (.int .i64 0)), none⟩])
 (.seq (.seq (.region [⟨some s016, .load true 4 (.t s006), none⟩,
 ⟨some s017, .call 39 [(.t s016)], none⟩,
 ⟨some s020, .un .not (.t s017), none⟩,
 xm s021 s020,
 ⟨some s022, .move (.t s003), some (s021, false)⟩,
 ⟨some s023, .call 38 [(.t s022), (.c (.int .i64 0)), (.c (.int .i64 31))], some (s021, false)⟩,
 ⟨some s024, .un .not (.t s023), some (s021, false)⟩,
 ⟨some s025, .pick (.t s021) (.c (.bool true)) (.t s024), none⟩,
 xm s026 s025,
 ⟨some s027, .move (.t s004), some (s026, false)⟩,
 ⟨some s030, .call 38 [(.t s027), (.c (.int .i64 0)), (.c (.int .i64 7))], some (s026, false)⟩,
 ⟨some s031, .un .not (.t s030), some (s026, false)⟩,
 ⟨some s032, .pick (.t s026) (.c (.bool true)) (.t s031), none⟩])
 (.cond (.t s032)
 (.seq (.region [⟨some s012, .move (.c (.int .u32 0)), none⟩,
 ⟨some s013, .move (.c (.int .i64 1)), none⟩])
 (.ret))
 (.skip)))
 (.seq (.regionD [0, 1, 3, 0, 8, 31, 63, 0, 128, 447, 1023, 0, 2048, 7103, 16383, 0, 48063, 131071, 0, 0, 786432, 1948607, 4194303, 8388607] [xf 0 s033 s006,
 xl s034 s033,
 ⟨some s035, .call 51 [(.t s034)], none⟩,
 xf 1 s036 s006,
 xl s037 s036,
 ⟨some s040, .call 51 [(.t s037)], none⟩,
 ⟨some s041, .sbin .add (.t s035) (.t s040), none⟩,
 xf 2 s042 s006,
 xl s043 s042,
 ⟨some s044, .call 35 [(.t s043)], none⟩,
 ⟨some s045, .sbin .add (.t s041) (.t s044), none⟩,
 xf 3 s046 s006,
 xl s047 s046,
 ⟨some s050, .call 35 [(.t s047)], none⟩,
 ⟨some s051, .sbin .add (.t s045) (.t s050), none⟩,
 xm s052 s002,
 ⟨some s053, .call 51 [(.t s052)], none⟩,
 ⟨some s054, .sbin .add (.t s051) (.t s053), none⟩,
 xm s055 s003,
 xm s056 s004,
 ⟨some s057, .buildSlice 2 2 [.int .i64 0] [(0, (.t s055)), (1, (.t s056))], none⟩,
 ⟨some s060, .call 64 [(.t s057)], none⟩,
 ⟨some s061, .sbin .add (.t s054) (.t s060), none⟩,
 xm s014 s061])
 (.seq (.region [⟨some s062, .load true 2 (.t s005), none⟩,
 xm s063 s014,
 ⟨some s064, .call 65 [(.t s062), (.t s063)], none⟩,
 ⟨some s065, .bin .rem (.t s064) (.c (.int .u64 16777216)), none⟩,
 xm s015 s065])
 (.seq (.region [xm s066 s003,
 ⟨some s067, .bin .mul (.t s066) (.c (.int .i64 8)), none⟩,
 xm s070 s004,
 ⟨some s071, .bin .add (.t s067) (.t s070), none⟩,
 ⟨some s072, .bin .mul (.t s071) (.c (.int .i64 16777216)), none⟩,
 xm s073 s015,
 ⟨some s074, .convInt .i64 (.t s073), none⟩,
 ⟨some s075, .bin .add (.t s072) (.t s074), none⟩,
 ⟨some s076, .convInt .u32 (.t s075), none⟩,
 xm s012 s076,
 ⟨some s013, .move (.c (.int .i64 0)), none⟩])
 (.ret)))))
def r_custref_CookieOf : List XR := [.tmp s012, .tmp s013]
theorem ok_custref_CookieOf : okC Try.prog Try.f34.ntmps (bodyOf Try.f34) x_custref_CookieOf = true := by kernel_rfl
theorem okr_custref_CookieOf : okRs Try.prog Try.f34.results.toList r_custref_CookieOf = true := by kernel_rfl

/-- custref.Word -/
def x_custref_Word : XC :=
 .seq (.region [⟨some s002, .move (.c (.string { data := #[] })), none⟩])
 (.seq (.region [xm s003 s000,
 ⟨some s004, .bin .quo (.t s003) (.c (.int .i64 256)), none⟩,
 xm s005 s000,
 ⟨some s006, .bin .rem (.t s005) (.c (.int .i64 256)), none⟩,
 ⟨some s007, .buildSlice 0 2 [.int .i64 0] [(0, (.t s004)), (1, (.t s006))], none⟩,
 ⟨some s010, .call 64 [(.t s007)], none⟩,
 xm s002 s010])
 (.ret))
def r_custref_Word : List XR := [.tmp s002]
theorem ok_custref_Word : okC Try.prog Try.f35.ntmps (bodyOf Try.f35) x_custref_Word = true := by kernel_rfl
theorem okr_custref_Word : okRs Try.prog Try.f35.results.toList r_custref_Word = true := by kernel_rfl

/-- custref.Opened -/
def x_custref_Opened : XC :=
 .seq (.region [⟨some s005, .box 0 2 (.t s000), none⟩,
 ⟨some s006, .box 1 4 (.t s001), none⟩,
 ⟨some s012, .move (.c (.int .i64 0)), none⟩,
 ⟨some s013, .move (.c (.int .i64 0)), none⟩])
 (.seq (.seq (.region [⟨some s021, .load true 4 (.t s006), none⟩,
 ⟨some s022, .call 39 [(.t s021)], none⟩,
 ⟨some s023, .un .not (.t s022), none⟩,
 xm s024 s023,
 ⟨some s025, .move (.t s004), some (s024, false)⟩,
 ⟨some s026, .call 38 [(.t s025), (.c (.int .i64 0)), (.c (.int .i64 31))], some (s024, false)⟩,
 ⟨some s027, .un .not (.t s026), some (s024, false)⟩,
 ⟨some s030, .pick (.t s024) (.c (.bool true)) (.t s027), none⟩])
 (.cond (.t s030)
 (.seq (.region [⟨some s012, .move (.c (.int .i64 0)), none⟩,
 ⟨some s013, .move (.c (.int .i64 1)), none⟩])
 (.ret))
 (.skip)))
 (.seq (.region [xm s031 s003,
 ⟨some s032, .convInt .i64 (.t s031), none⟩,
 ⟨some s033, .bin .quo (.t s032) (.c (.int .i64 16777216)), none⟩,
 xm s014 s033])
 (.seq (.region [xm s034 s014,
 ⟨some s035, .bin .quo (.t s034) (.c (.int .i64 8)), none⟩,
 xm s036 s014,
 ⟨some s037, .bin .rem (.t s036) (.c (.int .i64 8)), none⟩,
 xm s015 s035,
 xm s016 s037])
 (.seq (.seq (.region [xm s040 s015,
 xm s041 s004,
 ⟨some s042, .bin .neq (.t s040) (.t s041), none⟩,
 xm s043 s042,
 ⟨some s044, .move (.t s015), some (s043, true)⟩,
 ⟨some s045, .move (.t s004), some (s043, true)⟩,
 ⟨some s046, .bin .add (.t s045) (.c (.int .i64 31)), some (s043, true)⟩,
 ⟨some s047, .bin .rem (.t s046) (.c (.int .i64 32)), some (s043, true)⟩,
 ⟨some s050, .bin .neq (.t s044) (.t s047), some (s043, true)⟩,
 ⟨some s051, .pick (.t s043) (.t s050) (.c (.bool false)), none⟩])
 (.cond (.t s051)
 (.seq (.region [⟨some s012, .move (.c (.int .i64 0)), none⟩,
 ⟨some s013, .move (.c (.int .i64 9)), none⟩])
 (.ret))
 (.skip)))
 (.seq (.seq (.region [⟨some s053, .load true 2 (.t s005), none⟩,
 ⟨some s054, .load true 4 (.t s006), none⟩,
 xm s055 s002,
 xm s056 s015,
 xm s057 s016,
 ⟨some s060, .call 34 [(.t s053), (.t s054), (.t s055), (.t s056), (.t s057)], none⟩,
 xm s052 s060,
 ⟨some s061, .extract 0 (.t s052), none⟩,
 ⟨some s062, .extract 1 (.t s052), none⟩,
 xm s017 s061,
 xm s020 s062])
 (.seq (.region [xm s063 s017,
 xm s064 s003,
 ⟨some s065, .bin .neq (.t s063) (.t s064), none⟩])
 (.cond (.t s065)
 (.seq (.region [⟨some s012, .move (.c (.int .i64 0)), none⟩,
 ⟨some s013, .move (.c (.int .i64 5)), none⟩])
 (.ret))
 (.skip))))
 (.seq (.region [⟨some s066, .call 33 [], none⟩,
 xm s067 s016,
 ⟨some s070, .indexSl 1 (.t s066) (.t s067), none⟩,
 xl s071 s070,
 xm s012 s071,
 ⟨some s013, .move (.c (.int .i64 0)), none⟩])
 (.ret)))))))
def r_custref_Opened : List XR := [.tmp s012, .tmp s013]
theorem ok_custref_Opened : okC Try.prog Try.f36.ntmps (bodyOf Try.f36) x_custref_Opened = true := by kernel_rfl
theorem okr_custref_Opened : okRs Try.prog Try.f36.results.toList r_custref_Opened = true := by kernel_rfl

/-- proxy.port -/
def x_proxy_port : XC :=
 .seq (.region [⟨some s002, .move (.c (.bool false)), none⟩])
 (.seq (.region [xm s003 s000,
 ⟨some s004, .bin .geq (.t s003) (.c (.int .i64 0)), none⟩,
 xm s005 s004,
 ⟨some s006, .move (.t s000), some (s005, true)⟩,
 ⟨some s007, .bin .leq (.t s006) (.c (.int .i64 65535)), some (s005, true)⟩,
 ⟨some s010, .pick (.t s005) (.t s007) (.c (.bool false)), none⟩,
 xm s002 s010])
 (.ret))
def r_proxy_port : List XR := [.tmp s002]
theorem ok_proxy_port : okC Try.prog Try.f37.ntmps (bodyOf Try.f37) x_proxy_port = true := by kernel_rfl
theorem okr_proxy_port : okRs Try.prog Try.f37.results.toList r_proxy_port = true := by kernel_rfl

/-- custref.Between -/
def x_custref_Between : XC :=
 .seq (.region [⟨some s006, .move (.c (.bool false)), none⟩])
 (.seq (.region [xm s007 s001,
 xm s010 s000,
 ⟨some s011, .bin .leq (.t s007) (.t s010), none⟩,
 xm s012 s011,
 ⟨some s013, .move (.t s000), some (s012, true)⟩,
 ⟨some s014, .move (.t s002), some (s012, true)⟩,
 ⟨some s015, .bin .leq (.t s013) (.t s014), some (s012, true)⟩,
 ⟨some s016, .pick (.t s012) (.t s015) (.c (.bool false)), none⟩,
 xm s006 s016])
 (.ret))
def r_custref_Between : List XR := [.tmp s006]
theorem ok_custref_Between : okC Try.prog Try.f38.ntmps (bodyOf Try.f38) x_custref_Between = true := by kernel_rfl
theorem okr_custref_Between : okRs Try.prog Try.f38.results.toList r_custref_Between = true := by kernel_rfl

/-- custref.RoadRight -/
def x_custref_RoadRight : XC :=
 .seq (.region [⟨some s001, .box 0 4 (.t s000), none⟩,
 ⟨some s002, .move (.c (.bool false)), none⟩])
 (.seq (.region [xf 2 s003 s001,
 xl s004 s003,
 ⟨some s005, .call 38 [(.t s004), (.c (.int .i64 0)), (.c (.int .i64 65535))], none⟩,
 xm s006 s005,
 ⟨some s007, .fieldAddr 3 (.t s001), some (s006, true)⟩,
 ⟨some s010, .load false 1 (.t s007), some (s006, true)⟩,
 ⟨some s011, .call 38 [(.t s010), (.c (.int .i64 0)), (.c (.int .i64 65535))], some (s006, true)⟩,
 ⟨some s012, .pick (.t s006) (.t s011) (.c (.bool false)), none⟩,
 xm s002 s012])
 (.ret))
def r_custref_RoadRight : List XR := [.tmp s002]
theorem ok_custref_RoadRight : okC Try.prog Try.f39.ntmps (bodyOf Try.f39) x_custref_RoadRight = true := by kernel_rfl
theorem okr_custref_RoadRight : okRs Try.prog Try.f39.results.toList r_custref_RoadRight = true := by kernel_rfl

/-- tcp.Write -/
def x_tcp_Write : XC :=
 .seq (.region [⟨some s003, .box 0 9 (.t s000), none⟩,
 ⟨some s006, .move (.c (.string { data := #[] })), none⟩,
 ⟨some s007, .move (.c (.int .i64 0)), none⟩])
 (.seq (.seq (.region [xf 0 s016 s003,
 xl s017 s016,
 xf 1 s020 s003,
 xl s021 s020,
 xf 5 s022 s003,
 xl s023 s022,
 xf 6 s024 s003,
 xl s025 s024,
 ⟨some s026, .buildSlice 1 4 [.int .i64 0] [(0, (.t s017)), (1, (.t s021)), (2, (.t s023)), (3, (.t s025))], none⟩,
 ⟨some s027, .call 66 [(.t s026)], none⟩,
 ⟨some s030, .un .not (.t s027), none⟩,
 xm s031 s030,
 ⟨some s032, .fieldAddr 4 (.t s003), some (s031, false)⟩,
 ⟨some s033, .load false 1 (.t s032), some (s031, false)⟩,
 ⟨some s034, .bin .lss (.t s033) (.c (.int .i64 0)), some (s031, false)⟩,
 ⟨some s035, .pick (.t s031) (.c (.bool true)) (.t s034), none⟩,
 xm s036 s035,
 ⟨some s037, .fieldAddr 4 (.t s003), some (s036, false)⟩,
 ⟨some s040, .load false 1 (.t s037), some (s036, false)⟩,
 ⟨some s041, .bin .gtr (.t s040) (.c (.int .i64 255)), some (s036, false)⟩,
 ⟨some s042, .pick (.t s036) (.c (.bool true)) (.t s041), none⟩])
 (.cond (.t s042)
 (.seq (.region [⟨some s006, .move (.c (.string { data := #[] })), none⟩,
 ⟨some s007, .move (.c (.int .i64 1)), none⟩])
 (.ret))
 (.skip)))
 (.seq (.region [xf 7 s044 s003,
 xl s045 s044,
 ⟨some s046, .call 67 [(.t s045)], none⟩,
 xm s043 s046,
 ⟨some s047, .extract 0 (.t s043), none⟩,
 ⟨some s050, .extract 1 (.t s043), none⟩,
 xm s010 s047,
 xm s011 s050])
 (.seq (.seq (.region [xm s051 s011,
 ⟨some s052, .un .not (.t s051), none⟩])
 (.cond (.t s052)
 (.seq (.region [⟨some s006, .move (.c (.string { data := #[] })), none⟩,
 ⟨some s007, .move (.c (.int .i64 4)), none⟩])
 (.ret))
 (.skip)))
 (.seq (.seq (.region [xm s053 s010,
 ⟨some s054, .slen (.t s053), none⟩,
 ⟨some s055, .bin .gtr (.t s054) (.c (.int .i64 40)), none⟩,
 xm s056 s055,
 ⟨some s057, .fieldAddr 8 (.t s003), some (s056, false)⟩,
 ⟨some s060, .load false 1 (.t s057), some (s056, false)⟩,
 ⟨some s061, .slen (.t s060), some (s056, false)⟩,
 ⟨some s062, .bin .gtr (.t s061) (.c (.int .i64 65455)), some (s056, false)⟩,
 ⟨some s063, .pick (.t s056) (.c (.bool true)) (.t s062), none⟩])
 (.cond (.t s063)
 (.seq (.region [⟨some s006, .move (.c (.string { data := #[] })), none⟩,
 ⟨some s007, .move (.c (.int .i64 2)), none⟩])
 (.ret))
 (.skip)))
 (.seq (.block 0
 (.loop
 (.seq (.seq (.region [xm s064 s010,
 ⟨some s065, .slen (.t s064), none⟩,
 ⟨some s066, .bin .rem (.t s065) (.c (.int .i64 4)), none⟩,
 ⟨some s067, .bin .neq (.t s066) (.c (.int .i64 0)), none⟩])
 (.cond (.t s067)
 (.skip)
 (.exit 0)))
 (.block 1
 (.region [xm s070 s010,
 ⟨some s071, .sbin .add (.t s070) (.c (.string { data := #[0] })), none⟩,
 xm s010 s071])))))
 (.seq (.region [xm s072 s010,
 ⟨some s073, .slen (.t s072), none⟩,
 ⟨some s074, .bin .add (.c (.int .i64 20)) (.t s073), none⟩,
 xm s012 s074])
 (.seq (.regionD [0, 1, 3, 0, 8, 31, 63, 0, 128, 447, 1023, 0, 2048, 7103, 16383, 0, 32768, 98304, 0, 262144, 786432, 2064384, 4161536, 8388607, 0, 16777216, 50346943, 134217727, 268435455] [xf 0 s075 s003,
 xl s076 s075,
 ⟨some s077, .call 68 [(.t s076)], none⟩,
 xf 1 s100 s003,
 xl s101 s100,
 ⟨some s102, .call 68 [(.t s101)], none⟩,
 ⟨some s103, .sbin .add (.t s077) (.t s102), none⟩,
 xf 2 s104 s003,
 xl s105 s104,
 ⟨some s106, .call 69 [(.t s105)], none⟩,
 ⟨some s107, .sbin .add (.t s103) (.t s106), none⟩,
 xf 3 s110 s003,
 xl s111 s110,
 ⟨some s112, .call 69 [(.t s111)], none⟩,
 ⟨some s113, .sbin .add (.t s107) (.t s112), none⟩,
 xm s114 s012,
 ⟨some s115, .bin .mul (.t s114) (.c (.int .i64 4)), none⟩,
 ⟨some s116, .convInt .u8 (.t s115), none⟩,
 xf 4 s117 s003,
 xl s120 s117,
 ⟨some s121, .convInt .u8 (.t s120), none⟩,
 ⟨some s122, .buildSlice 2 2 [.int .u8 0] [(0, (.t s116)), (1, (.t s121))], none⟩,
 ⟨some s123, .b2s (.t s122), none⟩,
 ⟨some s124, .sbin .add (.t s113) (.t s123), none⟩,
 xf 5 s125 s003,
 xl s126 s125,
 ⟨some s127, .call 68 [(.t s126)], none⟩,
 ⟨some s130, .sbin .add (.t s124) (.t s127), none⟩,
 xm s013 s130])
 (.seq (.regionD [0, 1, 3, 0, 15, 0, 32, 127, 255] [xf 6 s131 s003,
 xl s132 s131,
 ⟨some s133, .call 68 [(.t s132)], none⟩,
 xm s134 s010,
 ⟨some s135, .sbin .add (.t s133) (.t s134), none⟩,
 xf 8 s136 s003,
 xl s137 s136,
 ⟨some s140, .sbin .add (.t s135) (.t s137), none⟩,
 xm s014 s140])
 (.seq (.region [xm s141 s001,
 xm s142 s002,
 xm s143 s012,
 xf 8 s144 s003,
 xl s145 s144,
 ⟨some s146, .slen (.t s145), none⟩,
 ⟨some s147, .bin .add (.t s143) (.t s146), none⟩,
 ⟨some s150, .call 71 [(.t s141), (.t s142), (.c (.int .i64 6)), (.t s147)], none⟩,
 xm s151 s013,
 ⟨some s152, .sbin .add (.t s150) (.t s151), none⟩,
 xm s153 s014,
 ⟨some s154, .sbin .add (.t s152) (.t s153), none⟩,
 ⟨some s155, .call 70 [(.t s154)], none⟩,
 xm s015 s155])
 (.seq (.region [xm s156 s013,
 xm s157 s015,
 ⟨some s160, .convInt .i64 (.t s157), none⟩,
 ⟨some s161, .call 68 [(.t s160)], none⟩,
 ⟨some s162, .sbin .add (.t s156) (.t s161), none⟩,
 xm s163 s014,
 ⟨some s164, .sbin .add (.t s162) (.t s163), none⟩,
 xm s006 s164,
 ⟨some s007, .move (.c (.int .i64 0)), none⟩])
 (.ret)))))))))))
def r_tcp_Write : List XR := [.tmp s006, .tmp s007]
theorem ok_tcp_Write : okC Try.prog Try.f40.ntmps (bodyOf Try.f40) x_tcp_Write = true := by kernel_rfl
theorem okr_tcp_Write : okRs Try.prog Try.f40.results.toList r_tcp_Write = true := by kernel_rfl

/-- slices.DeleteFunc -/
def x_slices_DeleteFunc_api_Guarded : XC :=
 .seq (.region [⟨some s004, .move (.c (.slice none 0 0)), none⟩])
 (.seq (.region [xm s010 s000,
 xm s011 s001,
 ⟨some s012, .call 44 [(.t s010), (.t s011)], none⟩,
 xm s005 s012])
 (.seq (.seq (.region [xm s013 s005,
 ⟨some s014, .bin .eql (.t s013) (.c (.int .i64 (-1))), none⟩])
 (.cond (.t s014)
 (.seq (.region [xm s015 s000,
 xm s004 s015])
 (.ret))
 (.skip)))
 (.seq (.seq (.region [xm s016 s005,
 ⟨some s017, .bin .add (.t s016) (.c (.int .i64 1)), none⟩,
 xm s006 s017])
 (.block 0
 (.loop
 (.seq (.seq (.region [xm s020 s006,
 xm s021 s000,
 ⟨some s022, .len (.t s021), none⟩,
 ⟨some s023, .bin .lss (.t s020) (.t s022), none⟩])
 (.cond (.t s023)
 (.skip)
 (.exit 0)))
 (.seq (.block 1
 (.seq (.region [xm s026 s000,
 xm s027 s006,
 ⟨some s030, .indexSl 9 (.t s026) (.t s027), none⟩,
 ⟨some s031, .load true 9 (.t s030), none⟩,
 ⟨some s007, .alloc 1 [.int .u32 0, .int .u32 0, .int .i64 0, .int .i64 0, .int .u32 0, .int .u32 0, .int .u32 0, .bool false, .int .i64 0], none⟩,
 ⟨none, .store 9 (.t s007) (.t s031), none⟩])
 (.seq (.region [xm s032 s001,
 ⟨some s033, .load true 9 (.t s007), none⟩,
 ⟨some s034, .callv (.t s032) [(.t s033)], none⟩,
 ⟨some s035, .un .not (.t s034), none⟩])
 (.cond (.t s035)
 (.seq (.region [xm s036 s000,
 xm s037 s005,
 ⟨some s040, .load true 9 (.t s007), none⟩,
 ⟨some s041, .indexSl 9 (.t s036) (.t s037), none⟩,
 ⟨none, .store 9 (.t s041) (.t s040), none⟩])
 (.region [xm s042 s005,
 ⟨some s043, .bin .add (.t s042) (.c (.int .i64 1)), none⟩,
 xm s005 s043]))
 (.skip)))))
 (.region [xm s024 s006,
 ⟨some s025, .bin .add (.t s024) (.c (.int .i64 1)), none⟩,
 xm s006 s025]))))))
 (.seq (.region [xm s044 s000,
 xm s045 s005,
 ⟨some s046, .slice 9 (.t s044) (some (.t s045)) none none, none⟩,
 ⟨none, .clear [.int .u32 0, .int .u32 0, .int .i64 0, .int .i64 0, .int .u32 0, .int .u32 0, .int .u32 0, .bool false, .int .i64 0] (.t s046), none⟩])
 (.seq (.region [xm s047 s000,
 xm s050 s005,
 ⟨some s051, .slice 9 (.t s047) none (some (.t s050)) none, none⟩,
 xm s004 s051])
 (.ret))))))
def r_slices_DeleteFunc_api_Guarded : List XR := [.tmp s004]
theorem ok_slices_DeleteFunc_api_Guarded : okC Try.prog Try.f41.ntmps (bodyOf Try.f41) x_slices_DeleteFunc_api_Guarded = true := by kernel_rfl
theorem okr_slices_DeleteFunc_api_Guarded : okRs Try.prog Try.f41.results.toList r_slices_DeleteFunc_api_Guarded = true := by kernel_rfl

/-- proxy.begun-1 -/
def x_proxy_begun_1 : XC :=
 .seq (.region [⟨some s002, .box 0 9 (.t s000), none⟩,
 ⟨some s003, .move (.c (.bool false)), none⟩])
 (.seq (.region [⟨some s004, .load true 9 (.t s002), none⟩,
 xl s005 s001,
 ⟨some s006, .call 43 [(.t s004), (.t s005)], none⟩,
 xm s003 s006])
 (.ret))
def r_proxy_begun_1 : List XR := [.tmp s003]
theorem ok_proxy_begun_1 : okC Try.prog Try.f42.ntmps (bodyOf Try.f42) x_proxy_begun_1 = true := by kernel_rfl
theorem okr_proxy_begun_1 : okRs Try.prog Try.f42.results.toList r_proxy_begun_1 = true := by kernel_rfl

/-- proxy.old -/
def x_proxy_old : XC :=
 .seq (.region [⟨some s002, .box 0 9 (.t s000), none⟩,
 ⟨some s004, .move (.c (.bool false)), none⟩])
 (.seq (.seq (.region [xf 7 s005 s002,
 xl s006 s005])
 (.cond (.t s006)
 (.seq (.region [xm s007 s001,
 xf 8 s010 s002,
 xl s011 s010,
 ⟨some s012, .bin .sub (.t s007) (.t s011), none⟩,
 ⟨some s013, .bin .gtr (.t s012) (.c (.int .i64 3000)), none⟩,
 xm s004 s013])
 (.ret))
 (.skip)))
 (.seq (.region [xm s014 s001,
 xf 8 s015 s002,
 xl s016 s015,
 ⟨some s017, .bin .sub (.t s014) (.t s016), none⟩,
 ⟨some s020, .bin .gtr (.t s017) (.c (.int .i64 30)), none⟩,
 xm s004 s020])
 (.ret)))
def r_proxy_old : List XR := [.tmp s004]
theorem ok_proxy_old : okC Try.prog Try.f43.ntmps (bodyOf Try.f43) x_proxy_old = true := by kernel_rfl
theorem okr_proxy_old : okRs Try.prog Try.f43.results.toList r_proxy_old = true := by kernel_rfl

/-- slices.IndexFunc -/
def x_slices_IndexFunc_api_Guarded : XC :=
 .seq (.region [⟨some s004, .move (.c (.int .i64 0)), none⟩])
 (.seq (.seq (.region [xm s006 s000,
 ⟨some s007, .len (.t s006), none⟩,
 ⟨some s010, .move (.c (.int .i64 0)), none⟩])
 (.block 0
 (.loop
 (.seq (.region [⟨some s011, .bin .lss (.t s010) (.t s007), none⟩])
 (.seq (.cond (.t s011)
 (.skip)
 (.exit 0))
 (.seq (.block 1
 (.seq (.region [xm s012 s010,
 xm s005 s012])
 (.seq (.region [xm s013 s001,
 xm s014 s000,
 xm s015 s005,
 ⟨some s016, .indexSl 9 (.t s014) (.t s015), none⟩,
 ⟨some s017, .load true 9 (.t s016), none⟩,
 ⟨some s020, .callv (.t s013) [(.t s017)], none⟩])
 (.cond (.t s020)
 (.seq (.region [xm s021 s005,
 xm s004 s021])
 (.ret))
 (.skip)))))
 (.region [⟨some s022, .bin .add (.t s010) (.c (.int .i64 1)), none⟩,
 xm s010 s022])))))))
 (.seq (.region [⟨some s004, .move (.c (.int .i64 (-1))), none⟩])
 (.ret)))
def r_slices_IndexFunc_api_Guarded : List XR := [.tmp s004]
theorem ok_slices_IndexFunc_api_Guarded : okC Try.prog Try.f44.ntmps (bodyOf Try.f44) x_slices_IndexFunc_api_Guarded = true := by kernel_rfl
theorem okr_slices_IndexFunc_api_Guarded : okRs Try.prog Try.f44.results.toList r_slices_IndexFunc_api_Guarded = true := by kernel_rfl

/-- proxy.place-1 -/
def x_proxy_place_1 : XC :=
 .seq (.region [⟨some s002, .box 0 9 (.t s000), none⟩,
 ⟨some s003, .move (.c (.bool false)), none⟩])
 (.seq (.region [xf 0 s004 s002,
 ⟨some s005, .load true 4 (.t s004), none⟩,
 ⟨some s006, .load true 4 (.t s001), none⟩,
 ⟨some s007, .eqs false [0, 0, 0, 0] (.t s005) (.t s006), none⟩,
 xm s003 s007])
 (.ret))
def r_proxy_place_1 : List XR := [.tmp s003]
theorem ok_proxy_place_1 : okC Try.prog Try.f45.ntmps (bodyOf Try.f45) x_proxy_place_1 = true := by kernel_rfl
theorem okr_proxy_place_1 : okRs Try.prog Try.f45.results.toList r_proxy_place_1 = true := by kernel_rfl

/-- tcp.Move -/
def x_tcp_Move : XC :=
 .seq (.region [⟨some s003, .box 0 9 (.t s000), none⟩,
 ⟨some s006, .alloc 1 [.int .i64 0, .int .i64 0, .int .u32 0, .int .u32 0, .int .i64 0, .int .i64 0, .int .i64 0, .slice none 0 0, .string { data := #[] }], none⟩])
 (.seq (.region [xf 7 s013 s003,
 xl s014 s013,
 ⟨some s015, .call 72 [(.t s014)], none⟩,
 xf 7 s016 s003,
 ⟨none, .store 1 (.t s016) (.t s015), none⟩])
 (.seq (.region [xf 2 s017 s003,
 xl s020 s017,
 xm s021 s001,
 ⟨some s022, .bin .add (.t s020) (.t s021), none⟩,
 xf 2 s023 s003,
 ⟨none, .store 1 (.t s023) (.t s022), none⟩])
 (.seq (.seq (.region [xf 4 s024 s003,
 xl s025 s024,
 ⟨some s026, .bin .and (.t s025) (.c (.int .i64 16)), none⟩,
 ⟨some s027, .bin .eql (.t s026) (.c (.int .i64 0)), none⟩])
 (.cond (.t s027)
 (.seq (.region [⟨some s030, .load true 9 (.t s003), none⟩,
 ⟨none, .store 9 (.t s006) (.t s030), none⟩])
 (.ret))
 (.skip)))
 (.seq (.region [xf 3 s031 s003,
 xl s032 s031,
 xm s033 s002,
 ⟨some s034, .bin .add (.t s032) (.t s033), none⟩,
 xf 3 s035 s003,
 ⟨none, .store 1 (.t s035) (.t s034), none⟩])
 (.seq (.seq (.region [xf 7 s036 s003,
 xl s037 s036,
 ⟨some s040, .len (.t s037), none⟩,
 ⟨some s041, .move (.c (.int .i64 0)), none⟩])
 (.block 0
 (.loop
 (.seq (.region [⟨some s042, .bin .lss (.t s041) (.t s040), none⟩])
 (.seq (.cond (.t s042)
 (.skip)
 (.exit 0))
 (.seq (.block 1
 (.seq (.region [xm s043 s041,
 ⟨some s044, .indexSl 2 (.t s037) (.t s041), none⟩,
 ⟨some s045, .load true 2 (.t s044), none⟩,
 ⟨some s010, .alloc 2 [.int .i64 0, .string { data := #[] }], none⟩,
 xm s007 s043,
 ⟨none, .store 2 (.t s010) (.t s045), none⟩])
 (.seq (.seq (.region [xf 0 s046 s010,
 xl s047 s046,
 ⟨some s050, .bin .neq (.t s047) (.c (.int .i64 5)), none⟩,
 xm s051 s050,
 ⟨some s052, .fieldAddr 1 (.t s010), some (s051, false)⟩,
 ⟨some s053, .load false 1 (.t s052), some (s051, false)⟩,
 ⟨some s054, .slen (.t s053), some (s051, false)⟩,
 ⟨some s055, .bin .rem (.t s054) (.c (.int .i64 8)), some (s051, false)⟩,
 ⟨some s056, .bin .neq (.t s055) (.c (.int .i64 0)), some (s051, false)⟩,
 ⟨some s057, .pick (.t s051) (.c (.bool true)) (.t s056), none⟩])
 (.cond (.t s057)
 (.exit 1)
 (.skip)))
 (.seq (.region [⟨some s011, .move (.c (.string { data := #[] })), none⟩])
 (.seq (.seq (.region [⟨some s012, .move (.c (.int .i64 0)), none⟩])
 (.block 2
 (.loop
 (.seq (.seq (.region [xm s060 s012,
 xf 1 s061 s010,
 xl s062 s061,
 ⟨some s063, .slen (.t s062), none⟩,
 ⟨some s064, .bin .lss (.t s060) (.t s063), none⟩])
 (.cond (.t s064)
 (.skip)
 (.exit 2)))
 (.seq (.block 3
 (.region [xm s067 s011,
 xf 1 s070 s010,
 xl s071 s070,
 xm s072 s012,
 ⟨some s073, .call 73 [(.t s071), (.t s072)], none⟩,
 xm s074 s002,
 ⟨some s075, .bin .add (.t s073) (.t s074), none⟩,
 ⟨some s076, .call 69 [(.t s075)], none⟩,
 ⟨some s077, .sbin .add (.t s067) (.t s076), none⟩,
 xm s011 s077]))
 (.region [xm s065 s012,
 ⟨some s066, .bin .add (.t s065) (.c (.int .i64 4)), none⟩,
 xm s012 s066]))))))
 (.region [xf 7 s100 s003,
 xl s101 s100,
 xm s102 s007,
 xm s103 s011,
 ⟨some s104, .indexSl 2 (.t s101) (.t s102), none⟩,
 xf 1 s105 s104,
 ⟨none, .store 1 (.t s105) (.t s103), none⟩]))))))
 (.region [⟨some s106, .bin .add (.t s041) (.c (.int .i64 1)), none⟩,
 xm s041 s106])))))))
 (.seq (.region [⟨some s107, .load true 9 (.t s003), none⟩,
 ⟨none, .store 9 (.t s006) (.t s107), none⟩])
 (.ret)))))))
def r_tcp_Move : List XR := [.cell s006 true 9]
theorem ok_tcp_Move : okC Try.prog Try.f46.ntmps (bodyOf Try.f46) x_tcp_Move = true := by kernel_rfl
theorem okr_tcp_Move : okRs Try.prog Try.f46.results.toList r_tcp_Move = true := by kernel_rfl

/-- proxy.guard).has -/
def x_proxy_guard_has : XC :=
 .seq (.region [⟨some s004, .box 0 9 (.t s001), none⟩,
 ⟨some s006, .move (.c (.bool false)), none⟩])
 (.seq (.region [xf 4 s007 s004,
 xl s010 s007,
 xm s011 s002,
 ⟨some s012, .bin .and (.t s010) (.t s011), none⟩,
 ⟨some s013, .bin .neq (.t s012) (.c (.int .i64 0)), none⟩,
 xm s006 s013])
 (.ret))
def r_proxy_guard_has : List XR := [.tmp s006]
theorem ok_proxy_guard_has : okC Try.prog Try.f47.ntmps (bodyOf Try.f47) x_proxy_guard_has = true := by kernel_rfl
theorem okr_proxy_guard_has : okRs Try.prog Try.f47.results.toList r_proxy_guard_has = true := by kernel_rfl

/-- proxy.guard).leaves -/
def x_proxy_guard_leaves : XC :=
 .region [xm s004 s000,
 xm s005 s000,
 ⟨some s006, .nilCheck (.t s005), none⟩,
 xf 0 s007 s006,
 xf 3 s010 s007,
 xl s011 s010,
 xm s012 s001,
 xm s013 s001,
 ⟨some s014, .bin .add (.t s013) (.c (.int .i64 1)), none⟩,
 ⟨some s015, .call 74 [(.t s011), (.t s012), (.t s014)], none⟩,
 ⟨some s016, .nilCheck (.t s004), none⟩,
 xf 0 s017 s016,
 xf 3 s020 s017,
 ⟨none, .store 1 (.t s020) (.t s015), none⟩]
def r_proxy_guard_leaves : List XR := []
theorem ok_proxy_guard_leaves : okC Try.prog Try.f48.ntmps (bodyOf Try.f48) x_proxy_guard_leaves = true := by kernel_rfl
theorem okr_proxy_guard_leaves : okRs Try.prog Try.f48.results.toList r_proxy_guard_leaves = true := by kernel_rfl

/-- proxy.guard).heard -/
def x_proxy_guard_heard : XC :=
 .seq (.region [⟨some s005, .box 2 9 (.t s002), none⟩])
 (.seq (.region [xm s006 s000,
 ⟨some s007, .nilCheck (.t s006), none⟩,
 xf 4 s010 s007,
 xl s011 s010,
 xf 8 s012 s005,
 ⟨none, .store 1 (.t s012) (.t s011), none⟩])
 (.regionD [0, 0, 2, 6, 14, 30, 0, 0, 128, 510, 0, 1024, 4094, 8191, 16383, 32767, 65535] [xm s013 s000,
 xm s014 s000,
 ⟨some s015, .nilCheck (.t s014), none⟩,
 xf 0 s016 s015,
 xf 3 s017 s016,
 xl s020 s017,
 xm s021 s001,
 xm s022 s001,
 ⟨some s023, .bin .add (.t s022) (.c (.int .i64 1)), none⟩,
 ⟨some s024, .call 74 [(.t s020), (.t s021), (.t s023)], none⟩,
 ⟨some s025, .load true 9 (.t s005), none⟩,
 ⟨some s026, .buildSlice 3 1 [.int .u32 0, .int .u32 0, .int .i64 0, .int .i64 0, .int .u32 0, .int .u32 0, .int .u32 0, .bool false, .int .i64 0] [(0, (.t s025))], none⟩,
 ⟨some s027, .append 4 9 48 (.t s024) (.t s026), none⟩,
 ⟨some s030, .nilCheck (.t s013), none⟩,
 xf 0 s031 s030,
 xf 3 s032 s031,
 ⟨none, .store 1 (.t s032) (.t s027), none⟩]))
def r_proxy_guard_heard : List XR := []
theorem ok_proxy_guard_heard : okC Try.prog Try.f49.ntmps (bodyOf Try.f49) x_proxy_guard_heard = true := by kernel_rfl
theorem okr_proxy_guard_heard : okRs Try.prog Try.f49.results.toList r_proxy_guard_heard = true := by kernel_rfl

/-- custref.SegmentText -/
def x_custref_SegmentText : XC :=
 .seq (.region [⟨some s003, .box 0 9 (.t s000), none⟩,
 ⟨some s006, .move (.c (.string { data := #[] })), none⟩,
 ⟨some s007, .move (.c (.int .i64 0)), none⟩])
 (.seq (.seq (.region [xf 0 s017 s003,
 xl s020 s017,
 ⟨some s021, .call 38 [(.t s020), (.c (.int .i64 0)), (.c (.int .i64 65535))], none⟩,
 ⟨some s022, .un .not (.t s021), none⟩,
 xm s023 s022,
 ⟨some s024, .fieldAddr 1 (.t s003), some (s023, false)⟩,
 ⟨some s025, .load false 1 (.t s024), some (s023, false)⟩,
 ⟨some s026, .call 38 [(.t s025), (.c (.int .i64 0)), (.c (.int .i64 65535))], some (s023, false)⟩,
 ⟨some s027, .un .not (.t s026), some (s023, false)⟩,
 ⟨some s030, .pick (.t s023) (.c (.bool true)) (.t s027), none⟩,
 xm s031 s030,
 ⟨some s032, .fieldAddr 5 (.t s003), some (s031, false)⟩,
 ⟨some s033, .load false 1 (.t s032), some (s031, false)⟩,
 ⟨some s034, .call 38 [(.t s033), (.c (.int .i64 0)), (.c (.int .i64 65535))], some (s031, false)⟩,
 ⟨some s035, .un .not (.t s034), some (s031, false)⟩,
 ⟨some s036, .pick (.t s031) (.c (.bool true)) (.t s035), none⟩,
 xm s037 s036,
 ⟨some s040, .fieldAddr 6 (.t s003), some (s037, false)⟩,
 ⟨some s041, .load false 1 (.t s040), some (s037, false)⟩,
 ⟨some s042, .call 38 [(.t s041), (.c (.int .i64 0)), (.c (.int .i64 65535))], some (s037, false)⟩,
 ⟨some s043, .un .not (.t s042), some (s037, false)⟩,
 ⟨some s044, .pick (.t s037) (.c (.bool true)) (.t s043), none⟩,
 xm s045 s044,
 ⟨some s046, .fieldAddr 4 (.t s003), some (s045, false)⟩,
 ⟨some s047, .load false 1 (.t s046), some (s045, false)⟩,
 ⟨some s050, .call 38 [(.t s047), (.c (.int .i64 0)), (.c (.int .i64 255))], some (s045, false)⟩,
 ⟨some s051, .un .not (.t s050), some (s045, false)⟩,
 ⟨some s052, .pick (.t s045) (.c (.bool true)) (.t s051), none⟩])
 (.cond (.t s052)
 (.seq (.region [⟨some s006, .move (.c (.string { data := #[] })), none⟩,
 ⟨some s007, .move (.c (.int .i64 1)), none⟩])
 (.ret))
 (.skip)))
 (.seq (.region [⟨some s010, .move (.c (.string { data := #[] })), none⟩])
 (.seq (.seq (.region [xf 7 s053 s003,
 xl s054 s053,
 ⟨some s055, .len (.t s054), none⟩,
 ⟨some s056, .move (.c (.int .i64 0)), none⟩])
 (.block 0
 (.loop
 (.seq (.region [⟨some s057, .bin .lss (.t s056) (.t s055), none⟩])
 (.seq (.cond (.t s057)
 (.skip)
 (.exit 0))
 (.seq (.block 1
 (.seq (.region [⟨some s060, .indexSl 2 (.t s054) (.t s056), none⟩,
 ⟨some s061, .load true 2 (.t s060), none⟩,
 ⟨some s012, .alloc 1 [.int .i64 0, .string { data := #[] }], none⟩,
 ⟨none, .store 2 (.t s012) (.t s061), none⟩])
 (.seq (.region [⟨some s063, .load true 2 (.t s012), none⟩,
 ⟨some s064, .call 75 [(.t s063)], none⟩,
 xm s062 s064,
 ⟨some s065, .extract 0 (.t s062), none⟩,
 ⟨some s066, .extract 1 (.t s062), none⟩,
 xm s013 s065,
 xm s014 s066])
 (.seq (.seq (.region [xm s067 s014,
 ⟨some s070, .un .not (.t s067), none⟩])
 (.cond (.t s070)
 (.seq (.region [⟨some s006, .move (.c (.string { data := #[] })), none⟩,
 ⟨some s007, .move (.c (.int .i64 4)), none⟩])
 (.ret))
 (.skip)))
 (.seq (.region [xm s071 s010,
 ⟨some s072, .slen (.t s071), none⟩,
 ⟨some s073, .bin .leq (.t s072) (.c (.int .i64 40)), none⟩])
 (.cond (.t s073)
 (.region [xm s074 s010,
 xm s075 s013,
 ⟨some s076, .sbin .add (.t s074) (.t s075), none⟩,
 xm s010 s076])
 (.skip)))))))
 (.region [⟨some s077, .bin .add (.t s056) (.c (.int .i64 1)), none⟩,
 xm s056 s077])))))))
 (.seq (.seq (.region [xf 7 s100 s003,
 xl s101 s100,
 ⟨some s102, .call 76 [(.t s101), (.f 77)], none⟩])
 (.cond (.t s102)
 (.seq (.region [⟨some s006, .move (.c (.string { data := #[] })), none⟩,
 ⟨some s007, .move (.c (.int .i64 4)), none⟩])
 (.ret))
 (.skip)))
 (.seq (.seq (.region [xm s103 s010,
 ⟨some s104, .slen (.t s103), none⟩,
 ⟨some s105, .bin .gtr (.t s104) (.c (.int .i64 40)), none⟩,
 xm s106 s105,
 ⟨some s107, .fieldAddr 8 (.t s003), some (s106, false)⟩,
 ⟨some s110, .load false 1 (.t s107), some (s106, false)⟩,
 ⟨some s111, .slen (.t s110), some (s106, false)⟩,
 ⟨some s112, .bin .gtr (.t s111) (.c (.int .i64 65455)), some (s106, false)⟩,
 ⟨some s113, .pick (.t s106) (.c (.bool true)) (.t s112), none⟩])
 (.cond (.t s113)
 (.seq (.region [⟨some s006, .move (.c (.string { data := #[] })), none⟩,
 ⟨some s007, .move (.c (.int .i64 2)), none⟩])
 (.ret))
 (.skip)))
 (.seq (.region [xm s114 s010,
 ⟨some s115, .sbin .add (.t s114) (.c (.string { data := #[0, 0, 0] })), none⟩,
 xm s116 s010,
 ⟨some s117, .slen (.t s116), none⟩,
 ⟨some s120, .bin .add (.t s117) (.c (.int .i64 3)), none⟩,
 ⟨some s121, .bin .quo (.t s120) (.c (.int .i64 4)), none⟩,
 ⟨some s122, .bin .mul (.t s121) (.c (.int .i64 4)), none⟩,
 ⟨some s123, .substr (.t s115) none (some (.t s122)), none⟩,
 xm s010 s123])
 (.seq (.region [xm s124 s010,
 ⟨some s125, .slen (.t s124), none⟩,
 ⟨some s126, .bin .add (.t s125) (.c (.int .i64 20)), none⟩,
 xm s015 s126])
 (.seq (.regionD [0, 1, 3, 0, 8, 31, 63, 0, 128, 447, 1023, 0, 2048, 7103, 16383, 0, 32768, 0, 131072, 491520, 1031103, 2097151, 0, 4194304, 14662591, 33554431, 31439807, 134217727, 0, 268435456, 903855039, 2147483647, 0, 8589934591, 0, 17179869184, 68719476735, 137438953471] [xf 0 s127 s003,
 xl s130 s127,
 ⟨some s131, .call 35 [(.t s130)], none⟩,
 xf 1 s132 s003,
 xl s133 s132,
 ⟨some s134, .call 35 [(.t s133)], none⟩,
 ⟨some s135, .sbin .add (.t s131) (.t s134), none⟩,
 xf 2 s136 s003,
 xl s137 s136,
 ⟨some s140, .call 51 [(.t s137)], none⟩,
 ⟨some s141, .sbin .add (.t s135) (.t s140), none⟩,
 xf 3 s142 s003,
 xl s143 s142,
 ⟨some s144, .call 51 [(.t s143)], none⟩,
 ⟨some s145, .sbin .add (.t s141) (.t s144), none⟩,
 xm s146 s015,
 ⟨some s147, .bin .mul (.c (.int .i64 4)) (.t s146), none⟩,
 xf 4 s150 s003,
 xl s151 s150,
 ⟨some s152, .buildSlice 2 2 [.int .i64 0] [(0, (.t s147)), (1, (.t s151))], none⟩,
 ⟨some s153, .call 64 [(.t s152)], none⟩,
 ⟨some s154, .sbin .add (.t s145) (.t s153), none⟩,
 xf 5 s155 s003,
 xl s156 s155,
 ⟨some s157, .call 35 [(.t s156)], none⟩,
 ⟨some s160, .sbin .add (.t s154) (.t s157), none⟩,
 ⟨some s161, .call 35 [(.c (.int .i64 0))], none⟩,
 ⟨some s162, .sbin .add (.t s160) (.t s161), none⟩,
 xf 6 s163 s003,
 xl s164 s163,
 ⟨some s165, .call 35 [(.t s164)], none⟩,
 ⟨some s166, .sbin .add (.t s162) (.t s165), none⟩,
 xm s167 s010,
 ⟨some s170, .sbin .add (.t s166) (.t s167), none⟩,
 xf 8 s171 s003,
 xl s172 s171,
 ⟨some s173, .sbin .add (.t s170) (.t s172), none⟩,
 xm s016 s173])
 (.seq (.regionD [0, 1, 0, 0, 0, 16, 60, 0, 252, 508, 1020, 2047, 0, 4096, 16383, 32767, 65535] [xm s174 s016,
 ⟨some s175, .substr (.t s174) none (some (.c (.int .i64 16))), none⟩,
 xm s176 s001,
 xm s177 s002,
 xm s200 s016,
 ⟨some s201, .slen (.t s200), none⟩,
 ⟨some s202, .call 79 [(.t s176), (.t s177), (.c (.int .i64 6)), (.t s201)], none⟩,
 xm s203 s016,
 ⟨some s204, .sbin .add (.t s202) (.t s203), none⟩,
 ⟨some s205, .call 78 [(.t s204)], none⟩,
 ⟨some s206, .call 35 [(.t s205)], none⟩,
 ⟨some s207, .sbin .add (.t s175) (.t s206), none⟩,
 xm s210 s016,
 ⟨some s211, .substr (.t s210) (some (.c (.int .i64 18))) none, none⟩,
 ⟨some s212, .sbin .add (.t s207) (.t s211), none⟩,
 xm s006 s212,
 ⟨some s007, .move (.c (.int .i64 0)), none⟩])
 (.ret))))))))))
def r_custref_SegmentText : List XR := [.tmp s006, .tmp s007]
theorem ok_custref_SegmentText : okC Try.prog Try.f50.ntmps (bodyOf Try.f50) x_custref_SegmentText = true := by kernel_rfl
theorem okr_custref_SegmentText : okRs Try.prog Try.f50.results.toList r_custref_SegmentText = true := by kernel_rfl

/-- custref.Long -/
def x_custref_Long : XC :=
 .seq (.region [⟨some s002, .move (.c (.string { data := #[] })), none⟩])
 (.seq (.region [xm s003 s000,
 ⟨some s004, .bin .quo (.t s003) (.c (.int .u32 65536)), none⟩,
 ⟨some s005, .convInt .i64 (.t s004), none⟩,
 ⟨some s006, .call 35 [(.t s005)], none⟩,
 xm s007 s000,
 ⟨some s010, .bin .rem (.t s007) (.c (.int .u32 65536)), none⟩,
 ⟨some s011, .convInt .i64 (.t s010), none⟩,
 ⟨some s012, .call 35 [(.t s011)], none⟩,
 ⟨some s013, .sbin .add (.t s006) (.t s012), none⟩,
 xm s002 s013])
 (.ret))
def r_custref_Long : List XR := [.tmp s002]
theorem ok_custref_Long : okC Try.prog Try.f51.ntmps (bodyOf Try.f51) x_custref_Long = true := by kernel_rfl
theorem okr_custref_Long : okRs Try.prog Try.f51.results.toList r_custref_Long = true := by kernel_rfl

/-- custref.LongAt -/
def x_custref_LongAt : XC :=
 .seq (.region [⟨some s004, .move (.c (.int .u32 0)), none⟩])
 (.seq (.region [xm s005 s000,
 xm s006 s001,
 ⟨some s007, .call 63 [(.t s005), (.t s006)], none⟩,
 ⟨some s010, .bin .mul (.c (.int .i64 65536)) (.t s007), none⟩,
 xm s011 s000,
 xm s012 s001,
 ⟨some s013, .bin .add (.t s012) (.c (.int .i64 2)), none⟩,
 ⟨some s014, .call 63 [(.t s011), (.t s013)], none⟩,
 ⟨some s015, .bin .add (.t s010) (.t s014), none⟩,
 ⟨some s016, .convInt .u32 (.t s015), none⟩,
 xm s004 s016])
 (.ret))
def r_custref_LongAt : List XR := [.tmp s004]
theorem ok_custref_LongAt : okC Try.prog Try.f52.ntmps (bodyOf Try.f52) x_custref_LongAt = true := by kernel_rfl
theorem okr_custref_LongAt : okRs Try.prog Try.f52.results.toList r_custref_LongAt = true := by kernel_rfl

/-- custref.Way -/
def x_custref_Way : XC :=
 .seq (.region [⟨some s004, .move (.c (.int .i64 0)), none⟩])
 (.seq (.region [xm s006 s001,
 ⟨some s007, .convInt .i64 (.t s006), none⟩,
 xm s010 s000,
 ⟨some s011, .convInt .i64 (.t s010), none⟩,
 ⟨some s012, .bin .sub (.t s007) (.t s011), none⟩,
 xm s005 s012])
 (.seq (.seq (.region [xm s013 s005,
 ⟨some s014, .bin .lss (.t s013) (.c (.int .i64 0)), none⟩])
 (.cond (.t s014)
 (.region [xm s015 s005,
 ⟨some s016, .bin .add (.t s015) (.c (.int .i64 4294967296)), none⟩,
 xm s005 s016])
 (.skip)))
 (.seq (.region [xm s017 s005,
 xm s004 s017])
 (.ret))))
def r_custref_Way : List XR := [.tmp s004]
theorem ok_custref_Way : okC Try.prog Try.f53.ntmps (bodyOf Try.f53) x_custref_Way = true := by kernel_rfl
theorem okr_custref_Way : okRs Try.prog Try.f53.results.toList r_custref_Way = true := by kernel_rfl

/-- slices.Equal -/
def x_slices_Equal_api_Option : XC :=
 .seq (.region [⟨some s004, .move (.c (.bool false)), none⟩])
 (.seq (.seq (.region [xm s006 s000,
 ⟨some s007, .len (.t s006), none⟩,
 xm s010 s001,
 ⟨some s011, .len (.t s010), none⟩,
 ⟨some s012, .bin .neq (.t s007) (.t s011), none⟩])
 (.cond (.t s012)
 (.seq (.region [⟨some s004, .move (.c (.bool false)), none⟩])
 (.ret))
 (.skip)))
 (.seq (.seq (.region [xm s013 s000,
 ⟨some s014, .len (.t s013), none⟩,
 ⟨some s015, .move (.c (.int .i64 0)), none⟩])
 (.block 0
 (.loop
 (.seq (.region [⟨some s016, .bin .lss (.t s015) (.t s014), none⟩])
 (.seq (.cond (.t s016)
 (.skip)
 (.exit 0))
 (.seq (.block 1
 (.seq (.region [xm s017 s015,
 xm s005 s017])
 (.seq (.regionD [0, 0, 3, 7, 0, 0, 48, 112, 255] [xm s020 s000,
 xm s021 s005,
 ⟨some s022, .indexSl 2 (.t s020) (.t s021), none⟩,
 ⟨some s023, .load true 2 (.t s022), none⟩,
 xm s024 s001,
 xm s025 s005,
 ⟨some s026, .indexSl 2 (.t s024) (.t s025), none⟩,
 ⟨some s027, .load true 2 (.t s026), none⟩,
 ⟨some s030, .eqs true [0, 2] (.t s023) (.t s027), none⟩])
 (.cond (.t s030)
 (.seq (.region [⟨some s004, .move (.c (.bool false)), none⟩])
 (.ret))
 (.skip)))))
 (.region [⟨some s031, .bin .add (.t s015) (.c (.int .i64 1)), none⟩,
 xm s015 s031])))))))
 (.seq (.region [⟨some s004, .move (.c (.bool true)), none⟩])
 (.ret))))
def r_slices_Equal_api_Option : List XR := [.tmp s004]
theorem ok_slices_Equal_api_Option : okC Try.prog Try.f54.ntmps (bodyOf Try.f54) x_slices_Equal_api_Option = true := by kernel_rfl
theorem okr_slices_Equal_api_Option : okRs Try.prog Try.f54.results.toList r_slices_Equal_api_Option = true := by kernel_rfl

/-- proxy.guard).ask -/
def x_proxy_guard_ask : XC :=
 .seq (.region [⟨some s004, .box 2 9 (.t s001), none⟩])
 (.regionD [0, 0, 2, 6, 14, 0, 32, 96, 0, 256, 768, 0, 2048, 0, 8192, 32736, 65504, 131070, 262143, 524287, 1048575] [xm s006 s000,
 xm s007 s000,
 ⟨some s010, .nilCheck (.t s007), none⟩,
 xf 6 s011 s010,
 xl s012 s011,
 xf 0 s013 s004,
 xf 2 s014 s013,
 xl s015 s014,
 xf 0 s016 s004,
 xf 3 s017 s016,
 xl s020 s017,
 xf 4 s021 s004,
 xl s022 s021,
 xm s023 s002,
 ⟨some s024, .call 59 [(.t s023)], none⟩,
 ⟨some s025, .build [.int .i64 0, .int .i64 0, .int .u32 0, .int .u32 0, .int .i64 0, .int .i64 0, .int .i64 0, .slice none 0 0, .string { data := #[] }] [(0, 1, (.t s015)), (1, 1, (.t s020)), (2, 1, (.t s022)), (4, 1, (.c (.int .i64 2))), (5, 1, (.c (.int .i64 65535))), (7, 1, (.t s024))], none⟩,
 ⟨some s026, .buildSlice 3 1 [.int .i64 0, .int .i64 0, .int .u32 0, .int .u32 0, .int .i64 0, .int .i64 0, .int .i64 0, .slice none 0 0, .string { data := #[] }] [(0, (.t s025))], none⟩,
 ⟨some s027, .append 4 9 88 (.t s012) (.t s026), none⟩,
 ⟨some s030, .nilCheck (.t s006), none⟩,
 xf 6 s031 s030,
 ⟨none, .store 1 (.t s031) (.t s027), none⟩])
def r_proxy_guard_ask : List XR := []
theorem ok_proxy_guard_ask : okC Try.prog Try.f55.ntmps (bodyOf Try.f55) x_proxy_guard_ask = true := by kernel_rfl
theorem okr_proxy_guard_ask : okRs Try.prog Try.f55.results.toList r_proxy_guard_ask = true := by kernel_rfl

/-- tcp.Mss -/
def x_tcp_Mss : XC :=
 .seq (.region [⟨some s001, .box 0 9 (.t s000), none⟩,
 ⟨some s002, .move (.c (.int .i64 0)), none⟩,
 ⟨some s003, .move (.c (.bool false)), none⟩])
 (.seq (.seq (.region [xf 7 s006 s001,
 xl s007 s006,
 ⟨some s010, .len (.t s007), none⟩,
 ⟨some s011, .move (.c (.int .i64 0)), none⟩])
 (.block 0
 (.loop
 (.seq (.region [⟨some s012, .bin .lss (.t s011) (.t s010), none⟩])
 (.seq (.cond (.t s012)
 (.skip)
 (.exit 0))
 (.seq (.block 1
 (.seq (.region [⟨some s013, .indexSl 2 (.t s007) (.t s011), none⟩,
 ⟨some s014, .load true 2 (.t s013), none⟩,
 ⟨some s005, .alloc 1 [.int .i64 0, .string { data := #[] }], none⟩,
 ⟨none, .store 2 (.t s005) (.t s014), none⟩])
 (.seq (.region [xf 0 s015 s005,
 xl s016 s015,
 ⟨some s017, .bin .eql (.t s016) (.c (.int .i64 2)), none⟩,
 xm s020 s017,
 ⟨some s021, .fieldAddr 1 (.t s005), some (s020, true)⟩,
 ⟨some s022, .load false 1 (.t s021), some (s020, true)⟩,
 ⟨some s023, .slen (.t s022), some (s020, true)⟩,
 ⟨some s024, .bin .eql (.t s023) (.c (.int .i64 2)), some (s020, true)⟩,
 ⟨some s025, .pick (.t s020) (.t s024) (.c (.bool false)), none⟩])
 (.cond (.t s025)
 (.seq (.region [xf 1 s026 s005,
 xl s027 s026,
 ⟨some s030, .call 80 [(.t s027), (.c (.int .i64 0))], none⟩,
 xm s002 s030,
 ⟨some s003, .move (.c (.bool true)), none⟩])
 (.ret))
 (.skip)))))
 (.region [⟨some s031, .bin .add (.t s011) (.c (.int .i64 1)), none⟩,
 xm s011 s031])))))))
 (.seq (.region [⟨some s002, .move (.c (.int .i64 0)), none⟩,
 ⟨some s003, .move (.c (.bool false)), none⟩])
 (.ret)))
def r_tcp_Mss : List XR := [.tmp s002, .tmp s003]
theorem ok_tcp_Mss : okC Try.prog Try.f56.ntmps (bodyOf Try.f56) x_tcp_Mss = true := by kernel_rfl
theorem okr_tcp_Mss : okRs Try.prog Try.f56.results.toList r_tcp_Mss = true := by kernel_rfl

/-- cookie.Make -/
def x_cookie_Make : XC :=
 .seq (.region [⟨some s005, .box 0 2 (.t s000), none⟩,
 ⟨some s006, .box 1 4 (.t s001), none⟩,
 ⟨some s012, .move (.c (.int .u32 0)), none⟩,
 ⟨some s013, .move (.c (.int .i64 0)), none⟩])
 (.seq (.seq (.region [xf 2 s015 s006,
 xl s016 s015,
 ⟨some s017, .call 81 [(.t s016)], none⟩,
 ⟨some s020, .un .not (.t s017), none⟩,
 xm s021 s020,
 ⟨some s022, .fieldAddr 3 (.t s006), some (s021, false)⟩,
 ⟨some s023, .load false 1 (.t s022), some (s021, false)⟩,
 ⟨some s024, .call 81 [(.t s023)], some (s021, false)⟩,
 ⟨some s025, .un .not (.t s024), some (s021, false)⟩,
 ⟨some s026, .pick (.t s021) (.c (.bool true)) (.t s025), none⟩,
 xm s027 s026,
 ⟨some s030, .move (.t s003), some (s027, false)⟩,
 ⟨some s031, .bin .lss (.t s030) (.c (.int .i64 0)), some (s027, false)⟩,
 ⟨some s032, .pick (.t s027) (.c (.bool true)) (.t s031), none⟩,
 xm s033 s032,
 ⟨some s034, .move (.t s003), some (s033, false)⟩,
 ⟨some s035, .bin .gtr (.t s034) (.c (.int .i64 31)), some (s033, false)⟩,
 ⟨some s036, .pick (.t s033) (.c (.bool true)) (.t s035), none⟩,
 xm s037 s036,
 ⟨some s040, .move (.t s004), some (s037, false)⟩,
 ⟨some s041, .bin .lss (.t s040) (.c (.int .i64 0)), some (s037, false)⟩,
 ⟨some s042, .pick (.t s037) (.c (.bool true)) (.t s041), none⟩,
 xm s043 s042,
 ⟨some s044, .move (.t s004), some (s043, false)⟩,
 ⟨some s045, .bin .gtr (.t s044) (.c (.int .i64 7)), some (s043, false)⟩,
 ⟨some s046, .pick (.t s043) (.c (.bool true)) (.t s045), none⟩])
 (.cond (.t s046)
 (.seq (.region [⟨some s012, .move (.c (.int .u32 0)), none⟩,
 ⟨some s013, .move (.c (.int .i64 1)), none⟩])
 (.ret))
 (.skip)))
 (.seq (.regionD [0, 1, 3, 0, 8, 31, 63, 0, 128, 384, 0, 1024, 3968, 8064, 16319, 32767, 0, 98239, 262143, 0, 524288, 0, 2097152, 7864320, 16252928, 33554431, 67108863] [xf 0 s047 s006,
 xl s050 s047,
 ⟨some s051, .call 82 [(.t s050)], none⟩,
 xf 1 s052 s006,
 xl s053 s052,
 ⟨some s054, .call 82 [(.t s053)], none⟩,
 ⟨some s055, .sbin .add (.t s051) (.t s054), none⟩,
 xf 2 s056 s006,
 xl s057 s056,
 ⟨some s060, .bin .shl (.t s057) (.c (.int .u64 16)), none⟩,
 xf 3 s061 s006,
 xl s062 s061,
 ⟨some s063, .bin .or (.t s060) (.t s062), none⟩,
 ⟨some s064, .convInt .u32 (.t s063), none⟩,
 ⟨some s065, .call 82 [(.t s064)], none⟩,
 ⟨some s066, .sbin .add (.t s055) (.t s065), none⟩,
 xm s067 s002,
 ⟨some s070, .call 82 [(.t s067)], none⟩,
 ⟨some s071, .sbin .add (.t s066) (.t s070), none⟩,
 xm s072 s003,
 ⟨some s073, .convInt .u8 (.t s072), none⟩,
 xm s074 s004,
 ⟨some s075, .convInt .u8 (.t s074), none⟩,
 ⟨some s076, .buildSlice 2 2 [.int .u8 0] [(0, (.t s073)), (1, (.t s075))], none⟩,
 ⟨some s077, .b2s (.t s076), none⟩,
 ⟨some s100, .sbin .add (.t s071) (.t s077), none⟩,
 xm s014 s100])
 (.seq (.region [xm s101 s003,
 ⟨some s102, .bin .shl (.t s101) (.c (.int .u64 27)), none⟩,
 xm s103 s004,
 ⟨some s104, .bin .shl (.t s103) (.c (.int .u64 24)), none⟩,
 ⟨some s105, .bin .or (.t s102) (.t s104), none⟩,
 ⟨some s106, .convInt .u32 (.t s105), none⟩,
 ⟨some s107, .load true 2 (.t s005), none⟩,
 xm s110 s014,
 ⟨some s111, .call 83 [(.t s107), (.t s110)], none⟩,
 ⟨some s112, .bin .and (.t s111) (.c (.int .u64 16777215)), none⟩,
 ⟨some s113, .convInt .u32 (.t s112), none⟩,
 ⟨some s114, .bin .or (.t s106) (.t s113), none⟩,
 xm s012 s114,
 ⟨some s013, .move (.c (.int .i64 0)), none⟩])
 (.ret))))
def r_cookie_Make : List XR := [.tmp s012, .tmp s013]
theorem ok_cookie_Make : okC Try.prog Try.f57.ntmps (bodyOf Try.f57) x_cookie_Make = true := by kernel_rfl
theorem okr_cookie_Make : okRs Try.prog Try.f57.results.toList r_cookie_Make = true := by kernel_rfl

/-- cookie.Index -/
def x_cookie_Index : XC :=
 .seq (.region [⟨some s002, .move (.c (.int .i64 0)), none⟩])
 (.seq (.region [⟨some s003, .move (.c (.int .i64 0)), none⟩])
 (.seq (.seq (.region [⟨some s006, .call 84 [], none⟩,
 ⟨some s007, .move (.c (.int .i64 0)), none⟩])
 (.block 0
 (.loop
 (.seq (.region [⟨some s010, .bin .lss (.t s007) (.c (.int .i64 8)), none⟩])
 (.seq (.cond (.t s010)
 (.skip)
 (.exit 0))
 (.seq (.block 1
 (.seq (.region [xm s011 s007,
 ⟨some s012, .indexV false 1 8 (.t s006) (.t s007), none⟩,
 xm s004 s011,
 xm s005 s012])
 (.seq (.region [xm s013 s005,
 xm s014 s000,
 ⟨some s015, .bin .leq (.t s013) (.t s014), none⟩])
 (.cond (.t s015)
 (.region [xm s016 s004,
 xm s003 s016])
 (.skip)))))
 (.region [⟨some s017, .bin .add (.t s007) (.c (.int .i64 1)), none⟩,
 xm s007 s017])))))))
 (.seq (.region [xm s020 s003,
 xm s002 s020])
 (.ret))))
def r_cookie_Index : List XR := [.tmp s002]
theorem ok_cookie_Index : okC Try.prog Try.f58.ntmps (bodyOf Try.f58) x_cookie_Index = true := by kernel_rfl
theorem okr_cookie_Index : okRs Try.prog Try.f58.results.toList r_cookie_Index = true := by kernel_rfl

/-- proxy.mss -/
def x_proxy_mss : XC :=
 .seq (.region [⟨some s002, .move (.c (.slice none 0 0)), none⟩])
 (.seq (.region [xm s003 s000,
 ⟨some s004, .bin .shr (.t s003) (.c (.int .u64 8)), none⟩,
 ⟨some s005, .convInt .u8 (.t s004), none⟩,
 xm s006 s000,
 ⟨some s007, .convInt .u8 (.t s006), none⟩,
 ⟨some s010, .buildSlice 0 2 [.int .u8 0] [(0, (.t s005)), (1, (.t s007))], none⟩,
 ⟨some s011, .b2s (.t s010), none⟩,
 ⟨some s012, .build [.int .i64 0, .string { data := #[] }] [(0, 1, (.c (.int .i64 2))), (1, 1, (.t s011))], none⟩,
 ⟨some s013, .buildSlice 1 1 [.int .i64 0, .string { data := #[] }] [(0, (.t s012))], none⟩,
 xm s002 s013])
 (.ret))
def r_proxy_mss : List XR := [.tmp s002]
theorem ok_proxy_mss : okC Try.prog Try.f59.ntmps (bodyOf Try.f59) x_proxy_mss = true := by kernel_rfl
theorem okr_proxy_mss : okRs Try.prog Try.f59.results.toList r_proxy_mss = true := by kernel_rfl

/-- cookie.Open -/
def x_cookie_Open : XC :=
 .seq (.region [⟨some s005, .box 0 2 (.t s000), none⟩,
 ⟨some s006, .box 1 4 (.t s001), none⟩,
 ⟨some s012, .move (.c (.int .i64 0)), none⟩,
 ⟨some s013, .move (.c (.int .i64 0)), none⟩])
 (.seq (.seq (.region [xm s020 s004,
 ⟨some s021, .bin .lss (.t s020) (.c (.int .i64 0)), none⟩,
 xm s022 s021,
 ⟨some s023, .move (.t s004), some (s022, false)⟩,
 ⟨some s024, .bin .gtr (.t s023) (.c (.int .i64 31)), some (s022, false)⟩,
 ⟨some s025, .pick (.t s022) (.c (.bool true)) (.t s024), none⟩])
 (.cond (.t s025)
 (.seq (.region [⟨some s012, .move (.c (.int .i64 0)), none⟩,
 ⟨some s013, .move (.c (.int .i64 1)), none⟩])
 (.ret))
 (.skip)))
 (.seq (.region [xm s026 s003,
 ⟨some s027, .bin .shr (.t s026) (.c (.int .u64 27)), none⟩,
 ⟨some s030, .convInt .i64 (.t s027), none⟩,
 xm s031 s003,
 ⟨some s032, .bin .shr (.t s031) (.c (.int .u64 24)), none⟩,
 ⟨some s033, .bin .and (.t s032) (.c (.int .u32 7)), none⟩,
 ⟨some s034, .convInt .i64 (.t s033), none⟩,
 xm s014 s030,
 xm s015 s034])
 (.seq (.region [⟨some s036, .load true 2 (.t s005), none⟩,
 ⟨some s037, .load true 4 (.t s006), none⟩,
 xm s040 s002,
 xm s041 s014,
 xm s042 s015,
 ⟨some s043, .call 57 [(.t s036), (.t s037), (.t s040), (.t s041), (.t s042)], none⟩,
 xm s035 s043,
 ⟨some s044, .extract 0 (.t s035), none⟩,
 ⟨some s045, .extract 1 (.t s035), none⟩,
 xm s016 s044,
 xm s017 s045])
 (.seq (.block 0
 (.seq (.region [xm s047 s017,
 ⟨some s050, .bin .neq (.t s047) (.c (.int .i64 0)), none⟩,
 xm s046 s050])
 (.cond (.t s046)
 (.seq (.region [xm s051 s017,
 ⟨some s012, .move (.c (.int .i64 0)), none⟩,
 xm s013 s051])
 (.ret))
 (.seq (.region [xm s053 s004,
 xm s054 s014,
 ⟨some s055, .bin .sub (.t s053) (.t s054), none⟩,
 ⟨some s056, .bin .and (.t s055) (.c (.int .i64 31)), none⟩,
 ⟨some s057, .bin .gtr (.t s056) (.c (.int .i64 1)), none⟩,
 xm s052 s057])
 (.cond (.t s052)
 (.seq (.region [⟨some s012, .move (.c (.int .i64 0)), none⟩,
 ⟨some s013, .move (.c (.int .i64 9)), none⟩])
 (.ret))
 (.seq (.region [xm s061 s016,
 xm s062 s003,
 ⟨some s063, .bin .neq (.t s061) (.t s062), none⟩,
 xm s060 s063])
 (.cond (.t s060)
 (.seq (.region [⟨some s012, .move (.c (.int .i64 0)), none⟩,
 ⟨some s013, .move (.c (.int .i64 5)), none⟩])
 (.ret))
 (.skip))))))))
 (.seq (.region [⟨some s064, .call 84 [], none⟩,
 xm s065 s015,
 ⟨some s066, .indexV false 1 8 (.t s064) (.t s065), none⟩,
 xm s012 s066,
 ⟨some s013, .move (.c (.int .i64 0)), none⟩])
 (.ret))))))
def r_cookie_Open : List XR := [.tmp s012, .tmp s013]
theorem ok_cookie_Open : okC Try.prog Try.f60.ntmps (bodyOf Try.f60) x_cookie_Open = true := by kernel_rfl
theorem okr_cookie_Open : okRs Try.prog Try.f60.results.toList r_cookie_Open = true := by kernel_rfl

/-- slices.IndexFunc -/
def x_slices_IndexFunc_api_Option : XC :=
 .seq (.region [⟨some s004, .move (.c (.int .i64 0)), none⟩])
 (.seq (.seq (.region [xm s006 s000,
 ⟨some s007, .len (.t s006), none⟩,
 ⟨some s010, .move (.c (.int .i64 0)), none⟩])
 (.block 0
 (.loop
 (.seq (.region [⟨some s011, .bin .lss (.t s010) (.t s007), none⟩])
 (.seq (.cond (.t s011)
 (.skip)
 (.exit 0))
 (.seq (.block 1
 (.seq (.region [xm s012 s010,
 xm s005 s012])
 (.seq (.region [xm s013 s001,
 xm s014 s000,
 xm s015 s005,
 ⟨some s016, .indexSl 2 (.t s014) (.t s015), none⟩,
 ⟨some s017, .load true 2 (.t s016), none⟩,
 ⟨some s020, .callv (.t s013) [(.t s017)], none⟩])
 (.cond (.t s020)
 (.seq (.region [xm s021 s005,
 xm s004 s021])
 (.ret))
 (.skip)))))
 (.region [⟨some s022, .bin .add (.t s010) (.c (.int .i64 1)), none⟩,
 xm s010 s022])))))))
 (.seq (.region [⟨some s004, .move (.c (.int .i64 (-1))), none⟩])
 (.ret)))
def r_slices_IndexFunc_api_Option : List XR := [.tmp s004]
theorem ok_slices_IndexFunc_api_Option : okC Try.prog Try.f61.ntmps (bodyOf Try.f61) x_slices_IndexFunc_api_Option = true := by kernel_rfl
theorem okr_slices_IndexFunc_api_Option : okRs Try.prog Try.f61.results.toList r_slices_IndexFunc_api_Option = true := by kernel_rfl

/-- custref.MssOf-1 -/
def x_custref_MssOf_1 : XC :=
 .seq (.region [⟨some s001, .box 0 2 (.t s000), none⟩,
 ⟨some s002, .move (.c (.bool false)), none⟩])
 (.seq (.region [xf 0 s003 s001,
 xl s004 s003,
 ⟨some s005, .bin .eql (.t s004) (.c (.int .i64 2)), none⟩,
 xm s006 s005,
 ⟨some s007, .fieldAddr 1 (.t s001), some (s006, true)⟩,
 ⟨some s010, .load false 1 (.t s007), some (s006, true)⟩,
 ⟨some s011, .slen (.t s010), some (s006, true)⟩,
 ⟨some s012, .bin .eql (.t s011) (.c (.int .i64 2)), some (s006, true)⟩,
 ⟨some s013, .pick (.t s006) (.t s012) (.c (.bool false)), none⟩,
 xm s002 s013])
 (.ret))
def r_custref_MssOf_1 : List XR := [.tmp s002]
theorem ok_custref_MssOf_1 : okC Try.prog Try.f62.ntmps (bodyOf Try.f62) x_custref_MssOf_1 = true := by kernel_rfl
theorem okr_custref_MssOf_1 : okRs Try.prog Try.f62.results.toList r_custref_MssOf_1 = true := by kernel_rfl

/-- custref.WordAt -/
def x_custref_WordAt : XC :=
 .seq (.region [⟨some s004, .move (.c (.int .i64 0)), none⟩])
 (.seq (.region [xm s006 s000,
 xm s007 s001,
 ⟨some s010, .strAt (.t s006) (.t s007), none⟩,
 ⟨some s011, .convInt .i64 (.t s010), none⟩,
 ⟨some s012, .bin .mul (.c (.int .i64 256)) (.t s011), none⟩,
 xm s005 s012])
 (.seq (.seq (.region [xm s013 s001,
 ⟨some s014, .bin .add (.t s013) (.c (.int .i64 1)), none⟩,
 xm s015 s000,
 ⟨some s016, .slen (.t s015), none⟩,
 ⟨some s017, .bin .lss (.t s014) (.t s016), none⟩])
 (.cond (.t s017)
 (.region [xm s020 s005,
 xm s021 s000,
 xm s022 s001,
 ⟨some s023, .bin .add (.t s022) (.c (.int .i64 1)), none⟩,
 ⟨some s024, .strAt (.t s021) (.t s023), none⟩,
 ⟨some s025, .convInt .i64 (.t s024), none⟩,
 ⟨some s026, .bin .add (.t s020) (.t s025), none⟩,
 xm s005 s026])
 (.skip)))
 (.seq (.region [xm s027 s005,
 xm s004 s027])
 (.ret))))
def r_custref_WordAt : List XR := [.tmp s004]
theorem ok_custref_WordAt : okC Try.prog Try.f63.ntmps (bodyOf Try.f63) x_custref_WordAt = true := by kernel_rfl
theorem okr_custref_WordAt : okRs Try.prog Try.f63.results.toList r_custref_WordAt = true := by kernel_rfl

/-- custref.Bytes -/
def x_custref_Bytes : XC :=
 .seq (.region [⟨some s002, .move (.c (.string { data := #[] })), none⟩])
 (.seq (.region [xm s006 s000,
 ⟨some s007, .len (.t s006), none⟩,
 ⟨some s010, .makeSlice 1 1 [.int .u8 0] (.t s007) (.t s007), none⟩,
 xm s003 s010])
 (.seq (.seq (.region [xm s011 s000,
 ⟨some s012, .len (.t s011), none⟩,
 ⟨some s013, .move (.c (.int .i64 0)), none⟩])
 (.block 0
 (.loop
 (.seq (.region [⟨some s014, .bin .lss (.t s013) (.t s012), none⟩])
 (.seq (.cond (.t s014)
 (.skip)
 (.exit 0))
 (.seq (.block 1
 (.seq (.region [xm s015 s013,
 ⟨some s016, .indexSl 1 (.t s011) (.t s013), none⟩,
 xl s017 s016,
 xm s004 s015,
 xm s005 s017])
 (.region [xm s020 s003,
 xm s021 s004,
 xm s022 s005,
 ⟨some s023, .convInt .u8 (.t s022), none⟩,
 ⟨some s024, .indexSl 1 (.t s020) (.t s021), none⟩,
 ⟨none, .store 1 (.t s024) (.t s023), none⟩])))
 (.region [⟨some s025, .bin .add (.t s013) (.c (.int .i64 1)), none⟩,
 xm s013 s025])))))))
 (.seq (.region [xm s026 s003,
 ⟨some s027, .b2s (.t s026), none⟩,
 xm s002 s027])
 (.ret))))
def r_custref_Bytes : List XR := [.tmp s002]
theorem ok_custref_Bytes : okC Try.prog Try.f64.ntmps (bodyOf Try.f64) x_custref_Bytes = true := by kernel_rfl
theorem okr_custref_Bytes : okRs Try.prog Try.f64.results.toList r_custref_Bytes = true := by kernel_rfl

/-- custref.SipOf -/
def x_custref_SipOf : XC :=
 .seq (.region [⟨some s002, .box 0 2 (.t s000), none⟩,
 ⟨some s004, .move (.c (.int .u64 0)), none⟩])
 (.seq (.region [⟨some s012, .load true 2 (.t s002), none⟩,
 ⟨some s013, .call 86 [(.t s012)], none⟩,
 xm s014 s001,
 ⟨some s015, .call 85 [(.t s013), (.t s014)], none⟩,
 xm s011 s015,
 ⟨some s016, .extract 0 (.t s011), none⟩,
 ⟨some s017, .extract 1 (.t s011), none⟩,
 ⟨some s005, .alloc 1 [.int .u64 0, .int .u64 0, .int .u64 0, .int .u64 0, .string { data := #[] }, .int .i64 0], none⟩,
 ⟨none, .store 6 (.t s005) (.t s016), none⟩,
 xm s006 s017])
 (.seq (.region [⟨some s021, .load true 6 (.t s005), none⟩,
 ⟨some s022, .call 87 [(.t s021)], none⟩,
 xm s020 s022,
 ⟨some s023, .extract 0 (.t s020), none⟩,
 ⟨some s024, .extract 1 (.t s020), none⟩,
 xm s007 s023,
 xm s010 s024])
 (.seq (.region [xm s025 s007,
 xm s004 s025])
 (.ret))))
def r_custref_SipOf : List XR := [.tmp s004]
theorem ok_custref_SipOf : okC Try.prog Try.f65.ntmps (bodyOf Try.f65) x_custref_SipOf = true := by kernel_rfl
theorem okr_custref_SipOf : okRs Try.prog Try.f65.results.toList r_custref_SipOf = true := by kernel_rfl

/-- tcp.words -/
def x_tcp_words : XC :=
 .seq (.region [⟨some s002, .move (.c (.bool false)), none⟩])
 (.seq (.region [xm s003 s000,
 ⟨some s004, .call 88 [(.t s003), (.f 89)], none⟩,
 ⟨some s005, .un .not (.t s004), none⟩,
 xm s002 s005])
 (.ret))
def r_tcp_words : List XR := [.tmp s002]
theorem ok_tcp_words : okC Try.prog Try.f66.ntmps (bodyOf Try.f66) x_tcp_words = true := by kernel_rfl
theorem okr_tcp_words : okRs Try.prog Try.f66.results.toList r_tcp_words = true := by kernel_rfl

/-- tcp.options -/
def x_tcp_options : XC :=
 .seq (.region [⟨some s002, .move (.c (.string { data := #[] })), none⟩,
 ⟨some s003, .move (.c (.bool false)), none⟩])
 (.seq (.region [⟨some s004, .move (.c (.slice none 0 0)), none⟩])
 (.seq (.seq (.region [xm s007 s000,
 ⟨some s010, .len (.t s007), none⟩,
 ⟨some s011, .move (.c (.int .i64 0)), none⟩])
 (.block 0
 (.loop
 (.seq (.region [⟨some s012, .bin .lss (.t s011) (.t s010), none⟩])
 (.seq (.cond (.t s012)
 (.skip)
 (.exit 0))
 (.seq (.block 1
 (.seq (.region [⟨some s013, .indexSl 2 (.t s007) (.t s011), none⟩,
 ⟨some s014, .load true 2 (.t s013), none⟩,
 ⟨some s006, .alloc 0 [.int .i64 0, .string { data := #[] }], none⟩,
 ⟨none, .store 2 (.t s006) (.t s014), none⟩])
 (.seq (.seq (.region [xf 0 s015 s006,
 xl s016 s015,
 ⟨some s017, .bin .lss (.t s016) (.c (.int .i64 1)), none⟩,
 xm s020 s017,
 ⟨some s021, .fieldAddr 0 (.t s006), some (s020, false)⟩,
 ⟨some s022, .load false 1 (.t s021), some (s020, false)⟩,
 ⟨some s023, .bin .gtr (.t s022) (.c (.int .i64 255)), some (s020, false)⟩,
 ⟨some s024, .pick (.t s020) (.c (.bool true)) (.t s023), none⟩,
 xm s025 s024,
 ⟨some s026, .fieldAddr 1 (.t s006), some (s025, false)⟩,
 ⟨some s027, .load false 1 (.t s026), some (s025, false)⟩,
 ⟨some s030, .slen (.t s027), some (s025, false)⟩,
 ⟨some s031, .bin .gtr (.t s030) (.c (.int .i64 38)), some (s025, false)⟩,
 ⟨some s032, .pick (.t s025) (.c (.bool true)) (.t s031), none⟩,
 xm s033 s032,
 ⟨some s034, .fieldAddr 0 (.t s006), some (s033, false)⟩,
 ⟨some s035, .load false 1 (.t s034), some (s033, false)⟩,
 ⟨some s036, .bin .eql (.t s035) (.c (.int .i64 1)), some (s033, false)⟩,
 ⟨some s037, .move (.t s036), some (s033, false)⟩,
 ⟨some s040, .fieldAddr 1 (.t s006), some (s037, true)⟩,
 ⟨some s041, .load false 1 (.t s040), some (s037, true)⟩,
 ⟨some s042, .sbin .neq (.t s041) (.c (.string { data := #[] })), some (s037, true)⟩,
 ⟨some s043, .pick (.t s037) (.t s042) (.c (.bool false)), some (s033, false)⟩,
 ⟨some s044, .pick (.t s033) (.c (.bool true)) (.t s043), none⟩])
 (.cond (.t s044)
 (.seq (.region [⟨some s002, .move (.c (.string { data := #[] })), none⟩,
 ⟨some s003, .move (.c (.bool false)), none⟩])
 (.ret))
 (.skip)))
 (.seq (.region [xm s045 s004,
 xf 0 s046 s006,
 xl s047 s046,
 ⟨some s050, .convInt .u8 (.t s047), none⟩,
 ⟨some s051, .buildSlice 1 1 [.int .u8 0] [(0, (.t s050))], none⟩,
 ⟨some s052, .append 2 1 1 (.t s045) (.t s051), none⟩,
 xm s004 s052])
 (.seq (.region [xf 0 s053 s006,
 xl s054 s053,
 ⟨some s055, .bin .gtr (.t s054) (.c (.int .i64 1)), none⟩])
 (.cond (.t s055)
 (.regionD [0, 0, 2, 6, 14, 30, 62, 127, 0, 256, 1023, 2047] [xm s056 s004,
 xf 1 s057 s006,
 xl s060 s057,
 ⟨some s061, .slen (.t s060), none⟩,
 ⟨some s062, .bin .add (.t s061) (.c (.int .i64 2)), none⟩,
 ⟨some s063, .convInt .u8 (.t s062), none⟩,
 ⟨some s064, .buildSlice 3 1 [.int .u8 0] [(0, (.t s063))], none⟩,
 ⟨some s065, .append 2 1 1 (.t s056) (.t s064), none⟩,
 xf 1 s066 s006,
 xl s067 s066,
 ⟨some s070, .append 2 1 1 (.t s065) (.t s067), none⟩,
 xm s004 s070])
 (.skip)))))))
 (.region [⟨some s071, .bin .add (.t s011) (.c (.int .i64 1)), none⟩,
 xm s011 s071])))))))
 (.seq (.region [xm s072 s004,
 ⟨some s073, .b2s (.t s072), none⟩,
 xm s002 s073,
 ⟨some s003, .move (.c (.bool true)), none⟩])
 (.ret))))
def r_tcp_options : List XR := [.tmp s002, .tmp s003]
theorem ok_tcp_options : okC Try.prog Try.f67.ntmps (bodyOf Try.f67) x_tcp_options = true := by kernel_rfl
theorem okr_tcp_options : okRs Try.prog Try.f67.results.toList r_tcp_options = true := by kernel_rfl

/-- tcp.word -/
def x_tcp_word : XC :=
 .seq (.region [⟨some s002, .move (.c (.string { data := #[] })), none⟩])
 (.seq (.region [xm s003 s000,
 ⟨some s004, .bin .shr (.t s003) (.c (.int .u64 8)), none⟩,
 ⟨some s005, .convInt .u8 (.t s004), none⟩,
 xm s006 s000,
 ⟨some s007, .convInt .u8 (.t s006), none⟩,
 ⟨some s010, .buildSlice 0 2 [.int .u8 0] [(0, (.t s005)), (1, (.t s007))], none⟩,
 ⟨some s011, .b2s (.t s010), none⟩,
 xm s002 s011])
 (.ret))
def r_tcp_word : List XR := [.tmp s002]
theorem ok_tcp_word : okC Try.prog Try.f68.ntmps (bodyOf Try.f68) x_tcp_word = true := by kernel_rfl
theorem okr_tcp_word : okRs Try.prog Try.f68.results.toList r_tcp_word = true := by kernel_rfl

/-- tcp.long -/
def x_tcp_long : XC :=
 .seq (.region [⟨some s002, .move (.c (.string { data := #[] })), none⟩])
 (.seq (.region [xm s003 s000,
 ⟨some s004, .bin .shr (.t s003) (.c (.int .u64 16)), none⟩,
 ⟨some s005, .convInt .i64 (.t s004), none⟩,
 ⟨some s006, .call 68 [(.t s005)], none⟩,
 xm s007 s000,
 ⟨some s010, .convInt .i64 (.t s007), none⟩,
 ⟨some s011, .call 68 [(.t s010)], none⟩,
 ⟨some s012, .sbin .add (.t s006) (.t s011), none⟩,
 xm s002 s012])
 (.ret))
def r_tcp_long : List XR := [.tmp s002]
theorem ok_tcp_long : okC Try.prog Try.f69.ntmps (bodyOf Try.f69) x_tcp_long = true := by kernel_rfl
theorem okr_tcp_long : okRs Try.prog Try.f69.results.toList r_tcp_long = true := by kernel_rfl

/-- sum.Of -/
def x_sum_Of : XC :=
 .seq (.region [⟨some s002, .move (.c (.int .u16 0)), none⟩])
 (.seq (.region [xm s003 s000,
 ⟨some s004, .call 90 [(.c (.int .u16 0)), (.t s003)], none⟩,
 ⟨some s005, .un .xor (.t s004), none⟩,
 xm s002 s005])
 (.ret))
def r_sum_Of : List XR := [.tmp s002]
theorem ok_sum_Of : okC Try.prog Try.f70.ntmps (bodyOf Try.f70) x_sum_Of = true := by kernel_rfl
theorem okr_sum_Of : okRs Try.prog Try.f70.results.toList r_sum_Of = true := by kernel_rfl

/-- dgram.Under -/
def x_dgram_Under : XC :=
 .seq (.region [⟨some s010, .move (.c (.string { data := #[] })), none⟩])
 (.seq (.region [xm s011 s000,
 ⟨some s012, .call 91 [(.t s011)], none⟩,
 xm s013 s001,
 ⟨some s014, .call 91 [(.t s013)], none⟩,
 ⟨some s015, .sbin .add (.t s012) (.t s014), none⟩,
 xm s016 s002,
 ⟨some s017, .bin .and (.t s016) (.c (.int .i64 255)), none⟩,
 ⟨some s020, .call 92 [(.t s017)], none⟩,
 ⟨some s021, .sbin .add (.t s015) (.t s020), none⟩,
 xm s022 s003,
 ⟨some s023, .call 92 [(.t s022)], none⟩,
 ⟨some s024, .sbin .add (.t s021) (.t s023), none⟩,
 xm s010 s024])
 (.ret))
def r_dgram_Under : List XR := [.tmp s010]
theorem ok_dgram_Under : okC Try.prog Try.f71.ntmps (bodyOf Try.f71) x_dgram_Under = true := by kernel_rfl
theorem okr_dgram_Under : okRs Try.prog Try.f71.results.toList r_dgram_Under = true := by kernel_rfl

/-- slices.Clone -/
def x_slices_Clone_api_Option : XC :=
 .seq (.region [⟨some s002, .move (.c (.slice none 0 0)), none⟩])
 (.seq (.seq (.region [xm s003 s000,
 ⟨some s004, .isnil false (.t s003), none⟩])
 (.cond (.t s004)
 (.seq (.region [⟨some s002, .move (.c (.slice none 0 0)), none⟩])
 (.ret))
 (.skip)))
 (.seq (.region [⟨some s005, .buildSlice 0 0 [.int .i64 0, .string { data := #[] }] [], none⟩,
 xm s006 s000,
 ⟨some s007, .append 1 2 24 (.t s005) (.t s006), none⟩,
 xm s002 s007])
 (.ret)))
def r_slices_Clone_api_Option : List XR := [.tmp s002]
theorem ok_slices_Clone_api_Option : okC Try.prog Try.f72.ntmps (bodyOf Try.f72) x_slices_Clone_api_Option = true := by kernel_rfl
theorem okr_slices_Clone_api_Option : okRs Try.prog Try.f72.results.toList r_slices_Clone_api_Option = true := by kernel_rfl

/-- tcp.longAt -/
def x_tcp_longAt : XC :=
 .seq (.region [⟨some s004, .move (.c (.int .u32 0)), none⟩])
 (.seq (.region [xm s005 s000,
 xm s006 s001,
 ⟨some s007, .call 80 [(.t s005), (.t s006)], none⟩,
 ⟨some s010, .convInt .u32 (.t s007), none⟩,
 ⟨some s011, .bin .shl (.t s010) (.c (.int .u64 16)), none⟩,
 xm s012 s000,
 xm s013 s001,
 ⟨some s014, .bin .add (.t s013) (.c (.int .i64 2)), none⟩,
 ⟨some s015, .call 80 [(.t s012), (.t s014)], none⟩,
 ⟨some s016, .convInt .u32 (.t s015), none⟩,
 ⟨some s017, .bin .or (.t s011) (.t s016), none⟩,
 xm s004 s017])
 (.ret))
def r_tcp_longAt : List XR := [.tmp s004]
theorem ok_tcp_longAt : okC Try.prog Try.f73.ntmps (bodyOf Try.f73) x_tcp_longAt = true := by kernel_rfl
theorem okr_tcp_longAt : okRs Try.prog Try.f73.results.toList r_tcp_longAt = true := by kernel_rfl

/-- slices.Delete -/
def x_slices_Delete_api_Guarded : XC :=
 .seq (.region [⟨some s006, .move (.c (.slice none 0 0)), none⟩])
 (.seq (.region [xm s010 s000,
 xm s011 s001,
 xm s012 s002,
 xm s013 s000,
 ⟨some s014, .len (.t s013), none⟩,
 ⟨some s015, .sliceW 9 (.t s010) (some (.t s011)) (some (.t s012)) (some (.t s014)), none⟩])
 (.seq (.seq (.region [xm s016 s001,
 xm s017 s002,
 ⟨some s020, .bin .eql (.t s016) (.t s017), none⟩])
 (.cond (.t s020)
 (.seq (.region [xm s021 s000,
 xm s006 s021])
 (.ret))
 (.skip)))
 (.seq (.region [xm s022 s000,
 ⟨some s023, .len (.t s022), none⟩,
 xm s007 s023])
 (.seq (.regionD [0, 0, 3, 0, 0, 24, 63, 127] [xm s024 s000,
 xm s025 s001,
 ⟨some s026, .sliceW 9 (.t s024) none (some (.t s025)) none, none⟩,
 xm s027 s000,
 xm s030 s002,
 ⟨some s031, .slice 9 (.t s027) (some (.t s030)) none none, none⟩,
 ⟨some s032, .appendW 9 48 (.t s026) (.t s031), none⟩,
 xm s000 s032])
 (.seq (.region [xm s033 s000,
 xm s034 s000,
 ⟨some s035, .len (.t s034), none⟩,
 xm s036 s007,
 ⟨some s037, .sliceW 9 (.t s033) (some (.t s035)) (some (.t s036)) none, none⟩,
 ⟨none, .clear [.int .u32 0, .int .u32 0, .int .i64 0, .int .i64 0, .int .u32 0, .int .u32 0, .int .u32 0, .bool false, .int .i64 0] (.t s037), none⟩])
 (.seq (.region [xm s040 s000,
 xm s006 s040])
 (.ret)))))))
def r_slices_Delete_api_Guarded : List XR := [.tmp s006]
theorem ok_slices_Delete_api_Guarded : okC Try.prog Try.f74.ntmps (bodyOf Try.f74) x_slices_Delete_api_Guarded = true := by kernel_rfl
theorem okr_slices_Delete_api_Guarded : okRs Try.prog Try.f74.results.toList r_slices_Delete_api_Guarded = true := by kernel_rfl

/-- custref.OptionText -/
def x_custref_OptionText : XC :=
 .seq (.region [⟨some s001, .box 0 2 (.t s000), none⟩,
 ⟨some s002, .move (.c (.string { data := #[] })), none⟩,
 ⟨some s003, .move (.c (.bool false)), none⟩])
 (.seq (.block 0
 (.seq (.region [xf 0 s005 s001,
 xl s006 s005,
 ⟨some s007, .bin .eql (.t s006) (.c (.int .i64 1)), none⟩,
 xm s010 s007,
 ⟨some s011, .fieldAddr 1 (.t s001), some (s010, true)⟩,
 ⟨some s012, .load false 1 (.t s011), some (s010, true)⟩,
 ⟨some s013, .sbin .eql (.t s012) (.c (.string { data := #[] })), some (s010, true)⟩,
 ⟨some s014, .pick (.t s010) (.t s013) (.c (.bool false)), none⟩,
 xm s004 s014])
 (.cond (.t s004)
 (.seq (.region [⟨some s015, .buildSlice 1 1 [.int .i64 0] [(0, (.c (.int .i64 1)))], none⟩,
 ⟨some s016, .call 64 [(.t s015)], none⟩,
 xm s002 s016,
 ⟨some s003, .move (.c (.bool true)), none⟩])
 (.ret))
 (.seq (.region [xf 0 s020 s001,
 xl s021 s020,
 ⟨some s022, .call 38 [(.t s021), (.c (.int .i64 2)), (.c (.int .i64 255))], none⟩,
 xm s023 s022,
 ⟨some s024, .fieldAddr 1 (.t s001), some (s023, true)⟩,
 ⟨some s025, .load false 1 (.t s024), some (s023, true)⟩,
 ⟨some s026, .slen (.t s025), some (s023, true)⟩,
 ⟨some s027, .bin .leq (.t s026) (.c (.int .i64 38)), some (s023, true)⟩,
 ⟨some s030, .pick (.t s023) (.t s027) (.c (.bool false)), none⟩,
 xm s017 s030])
 (.cond (.t s017)
 (.seq (.regionD [0, 1, 0, 4, 12, 28, 63, 127, 0, 256, 1023, 2047, 4095] [xf 0 s031 s001,
 xl s032 s031,
 xf 1 s033 s001,
 xl s034 s033,
 ⟨some s035, .slen (.t s034), none⟩,
 ⟨some s036, .bin .add (.t s035) (.c (.int .i64 2)), none⟩,
 ⟨some s037, .buildSlice 2 2 [.int .i64 0] [(0, (.t s032)), (1, (.t s036))], none⟩,
 ⟨some s040, .call 64 [(.t s037)], none⟩,
 xf 1 s041 s001,
 xl s042 s041,
 ⟨some s043, .sbin .add (.t s040) (.t s042), none⟩,
 xm s002 s043,
 ⟨some s003, .move (.c (.bool true)), none⟩])
 (.ret))
 (.skip))))))
 (.seq (.region [⟨some s002, .move (.c (.string { data := #[] })), none⟩,
 ⟨some s003, .move (.c (.bool false)), none⟩])
 (.ret)))
def r_custref_OptionText : List XR := [.tmp s002, .tmp s003]
theorem ok_custref_OptionText : okC Try.prog Try.f75.ntmps (bodyOf Try.f75) x_custref_OptionText = true := by kernel_rfl
theorem okr_custref_OptionText : okRs Try.prog Try.f75.results.toList r_custref_OptionText = true := by kernel_rfl

/-- slices.ContainsFunc -/
def x_slices_ContainsFunc_api_Option : XC :=
 .seq (.region [⟨some s004, .move (.c (.bool false)), none⟩])
 (.seq (.region [xm s005 s000,
 xm s006 s001,
 ⟨some s007, .call 61 [(.t s005), (.t s006)], none⟩,
 ⟨some s010, .bin .geq (.t s007) (.c (.int .i64 0)), none⟩,
 xm s004 s010])
 (.ret))
def r_slices_ContainsFunc_api_Option : List XR := [.tmp s004]
theorem ok_slices_ContainsFunc_api_Option : okC Try.prog Try.f76.ntmps (bodyOf Try.f76) x_slices_ContainsFunc_api_Option = true := by kernel_rfl
theorem okr_slices_ContainsFunc_api_Option : okRs Try.prog Try.f76.results.toList r_slices_ContainsFunc_api_Option = true := by kernel_rfl

/-- custref.SegmentText-1 -/
def x_custref_SegmentText_1 : XC :=
 .seq (.region [⟨some s001, .box 0 2 (.t s000), none⟩,
 ⟨some s002, .move (.c (.bool false)), none⟩])
 (.seq (.region [⟨some s006, .load true 2 (.t s001), none⟩,
 ⟨some s007, .call 75 [(.t s006)], none⟩,
 xm s005 s007,
 ⟨some s010, .extract 0 (.t s005), none⟩,
 ⟨some s011, .extract 1 (.t s005), none⟩,
 xm s003 s010,
 xm s004 s011])
 (.seq (.region [xm s012 s004,
 ⟨some s013, .un .not (.t s012), none⟩,
 xm s002 s013])
 (.ret)))
def r_custref_SegmentText_1 : List XR := [.tmp s002]
theorem ok_custref_SegmentText_1 : okC Try.prog Try.f77.ntmps (bodyOf Try.f77) x_custref_SegmentText_1 = true := by kernel_rfl
theorem okr_custref_SegmentText_1 : okRs Try.prog Try.f77.results.toList r_custref_SegmentText_1 = true := by kernel_rfl

/-- custref.Check -/
def x_custref_Check : XC :=
 .seq (.region [⟨some s002, .move (.c (.int .i64 0)), none⟩])
 (.seq (.region [xm s003 s000,
 ⟨some s004, .call 93 [(.c (.int .i64 0)), (.t s003)], none⟩,
 ⟨some s005, .bin .sub (.c (.int .i64 65535)) (.t s004), none⟩,
 xm s002 s005])
 (.ret))
def r_custref_Check : List XR := [.tmp s002]
theorem ok_custref_Check : okC Try.prog Try.f78.ntmps (bodyOf Try.f78) x_custref_Check = true := by kernel_rfl
theorem okr_custref_Check : okRs Try.prog Try.f78.results.toList r_custref_Check = true := by kernel_rfl

/-- custref.UnderText -/
def x_custref_UnderText : XC :=
 .seq (.region [⟨some s010, .move (.c (.string { data := #[] })), none⟩])
 (.seq (.region [xm s011 s000,
 ⟨some s012, .call 51 [(.t s011)], none⟩,
 xm s013 s001,
 ⟨some s014, .call 51 [(.t s013)], none⟩,
 ⟨some s015, .sbin .add (.t s012) (.t s014), none⟩,
 xm s016 s002,
 ⟨some s017, .bin .rem (.t s016) (.c (.int .i64 256)), none⟩,
 ⟨some s020, .bin .add (.t s017) (.c (.int .i64 256)), none⟩,
 ⟨some s021, .bin .rem (.t s020) (.c (.int .i64 256)), none⟩,
 ⟨some s022, .call 35 [(.t s021)], none⟩,
 ⟨some s023, .sbin .add (.t s015) (.t s022), none⟩,
 xm s024 s003,
 ⟨some s025, .bin .rem (.t s024) (.c (.int .i64 65536)), none⟩,
 ⟨some s026, .bin .add (.t s025) (.c (.int .i64 65536)), none⟩,
 ⟨some s027, .bin .rem (.t s026) (.c (.int .i64 65536)), none⟩,
 ⟨some s030, .call 35 [(.t s027)], none⟩,
 ⟨some s031, .sbin .add (.t s023) (.t s030), none⟩,
 xm s010 s031])
 (.ret))
def r_custref_UnderText : List XR := [.tmp s010]
theorem ok_custref_UnderText : okC Try.prog Try.f79.ntmps (bodyOf Try.f79) x_custref_UnderText = true := by kernel_rfl
theorem okr_custref_UnderText : okRs Try.prog Try.f79.results.toList r_custref_UnderText = true := by kernel_rfl

/-- tcp.wordAt -/
def x_tcp_wordAt : XC :=
 .seq (.region [⟨some s004, .move (.c (.int .i64 0)), none⟩])
 (.seq (.regionD [0, 0, 3, 7, 15, 0, 0, 64, 224, 480, 1023, 2047] [xm s005 s000,
 xm s006 s001,
 ⟨some s007, .strAt (.t s005) (.t s006), none⟩,
 ⟨some s010, .convInt .i64 (.t s007), none⟩,
 ⟨some s011, .bin .shl (.t s010) (.c (.int .u64 8)), none⟩,
 xm s012 s000,
 xm s013 s001,
 ⟨some s014, .bin .add (.t s013) (.c (.int .i64 1)), none⟩,
 ⟨some s015, .strAt (.t s012) (.t s014), none⟩,
 ⟨some s016, .convInt .i64 (.t s015), none⟩,
 ⟨some s017, .bin .or (.t s011) (.t s016), none⟩,
 xm s004 s017])
 (.ret))
def r_tcp_wordAt : List XR := [.tmp s004]
theorem ok_tcp_wordAt : okC Try.prog Try.f80.ntmps (bodyOf Try.f80) x_tcp_wordAt = true := by kernel_rfl
theorem okr_tcp_wordAt : okRs Try.prog Try.f80.results.toList r_tcp_wordAt = true := by kernel_rfl

/-- cookie.port -/
def x_cookie_port : XC :=
 .seq (.region [⟨some s002, .move (.c (.bool false)), none⟩])
 (.seq (.region [xm s003 s000,
 ⟨some s004, .bin .geq (.t s003) (.c (.int .i64 0)), none⟩,
 xm s005 s004,
 ⟨some s006, .move (.t s000), some (s005, true)⟩,
 ⟨some s007, .bin .leq (.t s006) (.c (.int .i64 65535)), some (s005, true)⟩,
 ⟨some s010, .pick (.t s005) (.t s007) (.c (.bool false)), none⟩,
 xm s002 s010])
 (.ret))
def r_cookie_port : List XR := [.tmp s002]
theorem ok_cookie_port : okC Try.prog Try.f81.ntmps (bodyOf Try.f81) x_cookie_port = true := by kernel_rfl
theorem okr_cookie_port : okRs Try.prog Try.f81.results.toList r_cookie_port = true := by kernel_rfl

/-- cookie.long -/
def x_cookie_long : XC :=
 .seq (.region [⟨some s002, .move (.c (.string { data := #[] })), none⟩])
 (.seq (.region [xm s003 s000,
 ⟨some s004, .bin .shr (.t s003) (.c (.int .u64 24)), none⟩,
 ⟨some s005, .convInt .u8 (.t s004), none⟩,
 xm s006 s000,
 ⟨some s007, .bin .shr (.t s006) (.c (.int .u64 16)), none⟩,
 ⟨some s010, .convInt .u8 (.t s007), none⟩,
 xm s011 s000,
 ⟨some s012, .bin .shr (.t s011) (.c (.int .u64 8)), none⟩,
 ⟨some s013, .convInt .u8 (.t s012), none⟩,
 xm s014 s000,
 ⟨some s015, .convInt .u8 (.t s014), none⟩,
 ⟨some s016, .buildSlice 0 4 [.int .u8 0] [(0, (.t s005)), (1, (.t s010)), (2, (.t s013)), (3, (.t s015))], none⟩,
 ⟨some s017, .b2s (.t s016), none⟩,
 xm s002 s017])
 (.ret))
def r_cookie_long : List XR := [.tmp s002]
theorem ok_cookie_long : okC Try.prog Try.f82.ntmps (bodyOf Try.f82) x_cookie_long = true := by kernel_rfl
theorem okr_cookie_long : okRs Try.prog Try.f82.results.toList r_cookie_long = true := by kernel_rfl

/-- sip.Of -/
def x_sip_Of : XC :=
 .seq (.region [⟨some s002, .box 0 2 (.t s000), none⟩,
 ⟨some s004, .move (.c (.int .u64 0)), none⟩])
 (.seq (.region [⟨some s012, .load true 2 (.t s002), none⟩,
 ⟨some s013, .call 95 [(.t s012)], none⟩,
 xm s014 s001,
 ⟨some s015, .call 94 [(.t s013), (.t s014)], none⟩,
 xm s011 s015,
 ⟨some s016, .extract 0 (.t s011), none⟩,
 ⟨some s017, .extract 1 (.t s011), none⟩,
 ⟨some s005, .alloc 1 [.int .u64 0, .int .u64 0, .int .u64 0, .int .u64 0, .string { data := #[] }, .int .i64 0], none⟩,
 ⟨none, .store 6 (.t s005) (.t s016), none⟩,
 xm s006 s017])
 (.seq (.region [⟨some s021, .load true 6 (.t s005), none⟩,
 ⟨some s022, .call 96 [(.t s021)], none⟩,
 xm s020 s022,
 ⟨some s023, .extract 0 (.t s020), none⟩,
 ⟨some s024, .extract 1 (.t s020), none⟩,
 xm s007 s023,
 xm s010 s024])
 (.seq (.region [xm s025 s007,
 xm s004 s025])
 (.ret))))
def r_sip_Of : List XR := [.tmp s004]
theorem ok_sip_Of : okC Try.prog Try.f83.ntmps (bodyOf Try.f83) x_sip_Of = true := by kernel_rfl
theorem okr_sip_Of : okRs Try.prog Try.f83.results.toList r_sip_Of = true := by kernel_rfl

/-- cookie.Sizes -/
def x_cookie_Sizes : XC :=
 .seq (.region [⟨some s000, .alloc 0 [.int .i64 0, .int .i64 0, .int .i64 0, .int .i64 0, .int .i64 0, .int .i64 0, .int .i64 0, .int .i64 0], none⟩])
 (.seq (.region [⟨some s001, .build [.int .i64 0, .int .i64 0, .int .i64 0, .int .i64 0, .int .i64 0, .int .i64 0, .int .i64 0, .int .i64 0] [(0, 1, (.c (.int .i64 216))), (1, 1, (.c (.int .i64 536))), (2, 1, (.c (.int .i64 1220))), (3, 1, (.c (.int .i64 1300))), (4, 1, (.c (.int .i64 1360))), (5, 1, (.c (.int .i64 1440))), (6, 1, (.c (.int .i64 1460))), (7, 1, (.c (.int .i64 8960)))], none⟩,
 ⟨none, .store 8 (.t s000) (.t s001), none⟩])
 (.ret))
def r_cookie_Sizes : List XR := [.cell s000 true 8]
theorem ok_cookie_Sizes : okC Try.prog Try.f84.ntmps (bodyOf Try.f84) x_cookie_Sizes = true := by kernel_rfl
theorem okr_cookie_Sizes : okRs Try.prog Try.f84.results.toList r_cookie_Sizes = true := by kernel_rfl

/-- custref.SipMore -/
def x_custref_SipMore : XC :=
 .seq (.region [⟨some s002, .box 0 6 (.t s000), none⟩,
 ⟨some s004, .alloc 1 [.int .u64 0, .int .u64 0, .int .u64 0, .int .u64 0, .string { data := #[] }, .int .i64 0], none⟩,
 ⟨some s005, .move (.c (.int .i64 0)), none⟩])
 (.seq (.seq (.region [⟨some s010, .load true 6 (.t s002), none⟩,
 ⟨some s011, .call 97 [(.t s010)], none⟩,
 xm s006 s011])
 (.seq (.region [xm s012 s006,
 ⟨some s013, .bin .neq (.t s012) (.c (.int .i64 0)), none⟩])
 (.cond (.t s013)
 (.seq (.region [⟨some s014, .load true 6 (.t s002), none⟩,
 xm s015 s006,
 ⟨none, .store 6 (.t s004) (.t s014), none⟩,
 xm s005 s015])
 (.ret))
 (.skip))))
 (.seq (.seq (.region [xm s016 s001,
 ⟨some s017, .slen (.t s016), none⟩,
 ⟨some s020, .move (.c (.int .i64 0)), none⟩])
 (.block 0
 (.loop
 (.seq (.region [⟨some s021, .bin .lss (.t s020) (.t s017), none⟩])
 (.seq (.cond (.t s021)
 (.skip)
 (.exit 0))
 (.seq (.block 1
 (.seq (.region [xm s022 s020,
 xm s007 s022])
 (.seq (.regionD [0, 1, 0, 0, 0, 16, 60, 127, 255, 511] [xf 4 s023 s002,
 xl s024 s023,
 xm s025 s001,
 xm s026 s007,
 xm s027 s007,
 ⟨some s030, .bin .add (.t s027) (.c (.int .i64 1)), none⟩,
 ⟨some s031, .substr (.t s025) (some (.t s026)) (some (.t s030)), none⟩,
 ⟨some s032, .sbin .add (.t s024) (.t s031), none⟩,
 xf 4 s033 s002,
 ⟨none, .store 1 (.t s033) (.t s032), none⟩])
 (.seq (.region [xf 5 s034 s002,
 xl s035 s034,
 ⟨some s036, .bin .add (.t s035) (.c (.int .i64 1)), none⟩,
 xf 5 s037 s002,
 ⟨none, .store 1 (.t s037) (.t s036), none⟩])
 (.seq (.region [xf 4 s040 s002,
 xl s041 s040,
 ⟨some s042, .slen (.t s041), none⟩,
 ⟨some s043, .bin .eql (.t s042) (.c (.int .i64 8)), none⟩])
 (.cond (.t s043)
 (.regionD [0, 1, 0, 4, 12, 31, 63, 127, 255, 511] [xf 0 s044 s002,
 ⟨some s045, .load true 4 (.t s044), none⟩,
 xf 4 s046 s002,
 xl s047 s046,
 ⟨some s050, .call 99 [(.t s047)], none⟩,
 ⟨some s051, .call 98 [(.t s045), (.t s050)], none⟩,
 xf 0 s052 s002,
 ⟨none, .store 4 (.t s052) (.t s051), none⟩,
 xf 4 s053 s002,
 ⟨none, .store 1 (.t s053) (.c (.string { data := #[] })), none⟩])
 (.skip)))))))
 (.region [⟨some s054, .bin .add (.t s020) (.c (.int .i64 1)), none⟩,
 xm s020 s054])))))))
 (.seq (.region [⟨some s055, .load true 6 (.t s002), none⟩,
 ⟨none, .store 6 (.t s004) (.t s055), none⟩,
 ⟨some s005, .move (.c (.int .i64 0)), none⟩])
 (.ret))))
def r_custref_SipMore : List XR := [.cell s004 true 6, .tmp s005]
theorem ok_custref_SipMore : okC Try.prog Try.f85.ntmps (bodyOf Try.f85) x_custref_SipMore = true := by kernel_rfl
theorem okr_custref_SipMore : okRs Try.prog Try.f85.results.toList r_custref_SipMore = true := by kernel_rfl

/-- custref.SipBegin -/
def x_custref_SipBegin : XC :=
 .seq (.region [⟨some s001, .box 0 2 (.t s000), none⟩,
 ⟨some s002, .alloc 1 [.int .u64 0, .int .u64 0, .int .u64 0, .int .u64 0, .string { data := #[] }, .int .i64 0], none⟩])
 (.seq (.region [⟨some s003, .move (.c (.string { data := #[117, 101, 115, 112, 101, 109, 111, 115, 109, 111, 100, 110, 97, 114, 111, 100, 97, 114, 101, 110, 101, 103, 121, 108, 115, 101, 116, 121, 98, 100, 101, 116] })), none⟩])
 (.seq (.region [⟨some s004, .alloc 2 [.int .u64 0, .int .u64 0, .int .u64 0, .int .u64 0, .string { data := #[] }, .int .i64 0], none⟩])
 (.seq (.seq (.region [⟨some s006, .move (.c (.int .i64 0)), none⟩])
 (.block 0
 (.loop
 (.seq (.region [⟨some s007, .bin .lss (.t s006) (.c (.int .i64 4)), none⟩])
 (.seq (.cond (.t s007)
 (.skip)
 (.exit 0))
 (.seq (.block 1
 (.seq (.region [xm s010 s006,
 xm s005 s010])
 (.regionD [0, 0, 2, 6, 14, 0, 0, 64, 0, 256, 768, 2016, 4064, 8190, 0, 32767, 65535] [xm s011 s005,
 xm s012 s005,
 ⟨some s013, .bin .rem (.t s012) (.c (.int .i64 2)), none⟩,
 ⟨some s014, .indexArr 1 2 (.t s001) (.t s013), none⟩,
 xl s015 s014,
 xm s016 s003,
 xm s017 s005,
 ⟨some s020, .bin .mul (.c (.int .i64 8)) (.t s017), none⟩,
 xm s021 s005,
 ⟨some s022, .bin .mul (.c (.int .i64 8)) (.t s021), none⟩,
 ⟨some s023, .bin .add (.t s022) (.c (.int .i64 8)), none⟩,
 ⟨some s024, .substr (.t s016) (some (.t s020)) (some (.t s023)), none⟩,
 ⟨some s025, .call 99 [(.t s024)], none⟩,
 ⟨some s026, .bin .xor (.t s015) (.t s025), none⟩,
 xf 0 s027 s004,
 ⟨some s030, .indexArr 1 4 (.t s027) (.t s011), none⟩,
 ⟨none, .store 1 (.t s030) (.t s026), none⟩])))
 (.region [⟨some s031, .bin .add (.t s006) (.c (.int .i64 1)), none⟩,
 xm s006 s031])))))))
 (.seq (.region [⟨some s032, .load true 6 (.t s004), none⟩,
 ⟨none, .store 6 (.t s002) (.t s032), none⟩])
 (.ret)))))
def r_custref_SipBegin : List XR := [.cell s002 true 6]
theorem ok_custref_SipBegin : okC Try.prog Try.f86.ntmps (bodyOf Try.f86) x_custref_SipBegin = true := by kernel_rfl
theorem okr_custref_SipBegin : okRs Try.prog Try.f86.results.toList r_custref_SipBegin = true := by kernel_rfl

/-- custref.SipEnd -/
def x_custref_SipEnd : XC :=
 .seq (.region [⟨some s001, .box 0 6 (.t s000), none⟩,
 ⟨some s002, .move (.c (.int .u64 0)), none⟩,
 ⟨some s003, .move (.c (.int .i64 0)), none⟩])
 (.seq (.seq (.region [⟨some s007, .load true 6 (.t s001), none⟩,
 ⟨some s010, .call 97 [(.t s007)], none⟩,
 xm s004 s010])
 (.seq (.region [xm s011 s004,
 ⟨some s012, .bin .neq (.t s011) (.c (.int .i64 0)), none⟩])
 (.cond (.t s012)
 (.seq (.region [xm s013 s004,
 ⟨some s002, .move (.c (.int .u64 0)), none⟩,
 xm s003 s013])
 (.ret))
 (.skip))))
 (.seq (.regionD [0, 1, 3, 7, 0, 16, 48, 112, 240, 511, 1023] [xf 4 s014 s001,
 xl s015 s014,
 ⟨some s016, .sbin .add (.t s015) (.c (.string { data := #[0, 0, 0, 0, 0, 0, 0] })), none⟩,
 ⟨some s017, .substr (.t s016) none (some (.c (.int .i64 7))), none⟩,
 xf 5 s020 s001,
 xl s021 s020,
 ⟨some s022, .bin .rem (.t s021) (.c (.int .i64 256)), none⟩,
 ⟨some s023, .buildSlice 1 1 [.int .i64 0] [(0, (.t s022))], none⟩,
 ⟨some s024, .call 64 [(.t s023)], none⟩,
 ⟨some s025, .sbin .add (.t s017) (.t s024), none⟩,
 xm s005 s025])
 (.seq (.regionD [0, 1, 0, 4, 15, 0, 63] [xf 0 s026 s001,
 ⟨some s027, .load true 4 (.t s026), none⟩,
 xm s030 s005,
 ⟨some s031, .call 99 [(.t s030)], none⟩,
 ⟨some s032, .call 98 [(.t s027), (.t s031)], none⟩,
 ⟨some s006, .alloc 2 [.int .u64 0, .int .u64 0, .int .u64 0, .int .u64 0], none⟩,
 ⟨none, .store 4 (.t s006) (.t s032), none⟩])
 (.seq (.region [⟨some s033, .indexArr 1 4 (.t s006) (.c (.int .i64 2)), none⟩,
 xl s034 s033,
 ⟨some s035, .bin .xor (.t s034) (.c (.int .u64 255)), none⟩,
 ⟨some s036, .indexArr 1 4 (.t s006) (.c (.int .i64 2)), none⟩,
 ⟨none, .store 1 (.t s036) (.t s035), none⟩])
 (.seq (.region [⟨some s037, .load true 4 (.t s006), none⟩,
 ⟨some s040, .call 100 [(.t s037)], none⟩,
 ⟨some s041, .call 100 [(.t s040)], none⟩,
 ⟨some s042, .call 100 [(.t s041)], none⟩,
 ⟨some s043, .call 100 [(.t s042)], none⟩,
 ⟨none, .store 4 (.t s006) (.t s043), none⟩])
 (.seq (.region [⟨some s044, .indexArr 1 4 (.t s006) (.c (.int .i64 0)), none⟩,
 xl s045 s044,
 ⟨some s046, .indexArr 1 4 (.t s006) (.c (.int .i64 1)), none⟩,
 xl s047 s046,
 ⟨some s050, .bin .xor (.t s045) (.t s047), none⟩,
 ⟨some s051, .indexArr 1 4 (.t s006) (.c (.int .i64 2)), none⟩,
 xl s052 s051,
 ⟨some s053, .bin .xor (.t s050) (.t s052), none⟩,
 ⟨some s054, .indexArr 1 4 (.t s006) (.c (.int .i64 3)), none⟩,
 xl s055 s054,
 ⟨some s056, .bin .xor (.t s053) (.t s055), none⟩,
 xm s002 s056,
 ⟨some s003, .move (.c (.int .i64 0)), none⟩])
 (.ret)))))))
def r_custref_SipEnd : List XR := [.tmp s002, .tmp s003]
theorem ok_custref_SipEnd : okC Try.prog Try.f87.ntmps (bodyOf Try.f87) x_custref_SipEnd = true := by kernel_rfl
theorem okr_custref_SipEnd : okRs Try.prog Try.f87.results.toList r_custref_SipEnd = true := by kernel_rfl

/-- slices.ContainsFunc -/
def x_slices_ContainsFunc_int : XC :=
 .seq (.region [⟨some s004, .move (.c (.bool false)), none⟩])
 (.seq (.region [xm s005 s000,
 xm s006 s001,
 ⟨some s007, .call 101 [(.t s005), (.t s006)], none⟩,
 ⟨some s010, .bin .geq (.t s007) (.c (.int .i64 0)), none⟩,
 xm s004 s010])
 (.ret))
def r_slices_ContainsFunc_int : List XR := [.tmp s004]
theorem ok_slices_ContainsFunc_int : okC Try.prog Try.f88.ntmps (bodyOf Try.f88) x_slices_ContainsFunc_int = true := by kernel_rfl
theorem okr_slices_ContainsFunc_int : okRs Try.prog Try.f88.results.toList r_slices_ContainsFunc_int = true := by kernel_rfl

/-- tcp.words-1 -/
def x_tcp_words_1 : XC :=
 .seq (.region [⟨some s002, .move (.c (.bool false)), none⟩])
 (.seq (.region [xm s003 s000,
 ⟨some s004, .bin .lss (.t s003) (.c (.int .i64 0)), none⟩,
 xm s005 s004,
 ⟨some s006, .move (.t s000), some (s005, false)⟩,
 ⟨some s007, .bin .gtr (.t s006) (.c (.int .i64 65535)), some (s005, false)⟩,
 ⟨some s010, .pick (.t s005) (.c (.bool true)) (.t s007), none⟩,
 xm s002 s010])
 (.ret))
def r_tcp_words_1 : List XR := [.tmp s002]
theorem ok_tcp_words_1 : okC Try.prog Try.f89.ntmps (bodyOf Try.f89) x_tcp_words_1 = true := by kernel_rfl
theorem okr_tcp_words_1 : okRs Try.prog Try.f89.results.toList r_tcp_words_1 = true := by kernel_rfl

/-- sum.Add -/
def x_sum_Add : XC :=
 .seq (.region [⟨some s004, .move (.c (.int .u16 0)), none⟩])
 (.seq (.region [xm s006 s000,
 ⟨some s007, .convInt .u64 (.t s006), none⟩,
 xm s005 s007])
 (.seq (.block 0
 (.loop
 (.seq (.seq (.region [xm s010 s001,
 ⟨some s011, .slen (.t s010), none⟩,
 ⟨some s012, .bin .gtr (.t s011) (.c (.int .i64 1)), none⟩])
 (.cond (.t s012)
 (.skip)
 (.exit 0)))
 (.seq (.block 1
 (.regionD [0, 0, 2, 6, 14, 0, 32, 96, 254, 511, 1023] [xm s015 s005,
 xm s016 s001,
 ⟨some s017, .strAt (.t s016) (.c (.int .i64 0)), none⟩,
 ⟨some s020, .convInt .u64 (.t s017), none⟩,
 ⟨some s021, .bin .shl (.t s020) (.c (.int .u64 8)), none⟩,
 xm s022 s001,
 ⟨some s023, .strAt (.t s022) (.c (.int .i64 1)), none⟩,
 ⟨some s024, .convInt .u64 (.t s023), none⟩,
 ⟨some s025, .bin .or (.t s021) (.t s024), none⟩,
 ⟨some s026, .bin .add (.t s015) (.t s025), none⟩,
 xm s005 s026]))
 (.region [xm s013 s001,
 ⟨some s014, .substr (.t s013) (some (.c (.int .i64 2))) none, none⟩,
 xm s001 s014])))))
 (.seq (.seq (.region [xm s027 s001,
 ⟨some s030, .sbin .neq (.t s027) (.c (.string { data := #[] })), none⟩])
 (.cond (.t s030)
 (.region [xm s031 s005,
 xm s032 s001,
 ⟨some s033, .strAt (.t s032) (.c (.int .i64 0)), none⟩,
 ⟨some s034, .convInt .u64 (.t s033), none⟩,
 ⟨some s035, .bin .shl (.t s034) (.c (.int .u64 8)), none⟩,
 ⟨some s036, .bin .add (.t s031) (.t s035), none⟩,
 xm s005 s036])
 (.skip)))
 (.seq (.region [xm s037 s005,
 ⟨some s040, .call 102 [(.t s037)], none⟩,
 xm s004 s040])
 (.ret)))))
def r_sum_Add : List XR := [.tmp s004]
theorem ok_sum_Add : okC Try.prog Try.f90.ntmps (bodyOf Try.f90) x_sum_Add = true := by kernel_rfl
theorem okr_sum_Add : okRs Try.prog Try.f90.results.toList r_sum_Add = true := by kernel_rfl

/-- dgram.long -/
def x_dgram_long : XC :=
 .seq (.region [⟨some s002, .move (.c (.string { data := #[] })), none⟩])
 (.seq (.region [xm s003 s000,
 ⟨some s004, .bin .shr (.t s003) (.c (.int .u64 16)), none⟩,
 ⟨some s005, .convInt .i64 (.t s004), none⟩,
 ⟨some s006, .call 92 [(.t s005)], none⟩,
 xm s007 s000,
 ⟨some s010, .convInt .i64 (.t s007), none⟩,
 ⟨some s011, .call 92 [(.t s010)], none⟩,
 ⟨some s012, .sbin .add (.t s006) (.t s011), none⟩,
 xm s002 s012])
 (.ret))
def r_dgram_long : List XR := [.tmp s002]
theorem ok_dgram_long : okC Try.prog Try.f91.ntmps (bodyOf Try.f91) x_dgram_long = true := by kernel_rfl
theorem okr_dgram_long : okRs Try.prog Try.f91.results.toList r_dgram_long = true := by kernel_rfl

/-- dgram.word -/
def x_dgram_word : XC :=
 .seq (.region [⟨some s002, .move (.c (.string { data := #[] })), none⟩])
 (.seq (.region [xm s003 s000,
 ⟨some s004, .bin .shr (.t s003) (.c (.int .u64 8)), none⟩,
 ⟨some s005, .convInt .u8 (.t s004), none⟩,
 xm s006 s000,
 ⟨some s007, .convInt .u8 (.t s006), none⟩,
 ⟨some s010, .buildSlice 0 2 [.int .u8 0] [(0, (.t s005)), (1, (.t s007))], none⟩,
 ⟨some s011, .b2s (.t s010), none⟩,
 xm s002 s011])
 (.ret))
def r_dgram_word : List XR := [.tmp s002]
theorem ok_dgram_word : okC Try.prog Try.f92.ntmps (bodyOf Try.f92) x_dgram_word = true := by kernel_rfl
theorem okr_dgram_word : okRs Try.prog Try.f92.results.toList r_dgram_word = true := by kernel_rfl

/-- custref.SumOf -/
def x_custref_SumOf : XC :=
 .seq (.region [⟨some s004, .move (.c (.int .i64 0)), none⟩])
 (.seq (.seq (.region [⟨some s005, .move (.c (.int .i64 0)), none⟩])
 (.block 0
 (.loop
 (.seq (.seq (.region [xm s006 s005,
 xm s007 s001,
 ⟨some s010, .slen (.t s007), none⟩,
 ⟨some s011, .bin .lss (.t s006) (.t s010), none⟩])
 (.cond (.t s011)
 (.skip)
 (.exit 0)))
 (.seq (.block 1
 (.region [xm s014 s000,
 xm s015 s001,
 xm s016 s005,
 ⟨some s017, .call 63 [(.t s015), (.t s016)], none⟩,
 ⟨some s020, .call 103 [(.t s014), (.t s017)], none⟩,
 xm s000 s020]))
 (.region [xm s012 s005,
 ⟨some s013, .bin .add (.t s012) (.c (.int .i64 2)), none⟩,
 xm s005 s013]))))))
 (.seq (.region [xm s021 s000,
 xm s004 s021])
 (.ret)))
def r_custref_SumOf : List XR := [.tmp s004]
theorem ok_custref_SumOf : okC Try.prog Try.f93.ntmps (bodyOf Try.f93) x_custref_SumOf = true := by kernel_rfl
theorem okr_custref_SumOf : okRs Try.prog Try.f93.results.toList r_custref_SumOf = true := by kernel_rfl

/-- sip.More -/
def x_sip_More : XC :=
 .seq (.region [⟨some s002, .box 0 6 (.t s000), none⟩,
 ⟨some s004, .alloc 1 [.int .u64 0, .int .u64 0, .int .u64 0, .int .u64 0, .string { data := #[] }, .int .i64 0], none⟩,
 ⟨some s005, .move (.c (.int .i64 0)), none⟩])
 (.seq (.seq (.region [⟨some s010, .load true 6 (.t s002), none⟩,
 ⟨some s011, .call 104 [(.t s010)], none⟩,
 xm s006 s011])
 (.seq (.region [xm s012 s006,
 ⟨some s013, .bin .neq (.t s012) (.c (.int .i64 0)), none⟩])
 (.cond (.t s013)
 (.seq (.region [⟨some s014, .load true 6 (.t s002), none⟩,
 xm s015 s006,
 ⟨none, .store 6 (.t s004) (.t s014), none⟩,
 xm s005 s015])
 (.ret))
 (.skip))))
 (.seq (.region [xf 5 s016 s002,
 xl s017 s016,
 xm s020 s001,
 ⟨some s021, .slen (.t s020), none⟩,
 ⟨some s022, .bin .add (.t s017) (.t s021), none⟩,
 xf 5 s023 s002,
 ⟨none, .store 1 (.t s023) (.t s022), none⟩])
 (.seq (.region [xf 4 s024 s002,
 xl s025 s024,
 xm s026 s001,
 ⟨some s027, .sbin .add (.t s025) (.t s026), none⟩,
 xm s007 s027])
 (.seq (.block 0
 (.loop
 (.seq (.seq (.region [xm s030 s007,
 ⟨some s031, .slen (.t s030), none⟩,
 ⟨some s032, .bin .geq (.t s031) (.c (.int .i64 8)), none⟩])
 (.cond (.t s032)
 (.skip)
 (.exit 0)))
 (.seq (.block 1
 (.region [xf 0 s035 s002,
 xm s036 s007,
 ⟨some s037, .substr (.t s036) none (some (.c (.int .i64 8))), none⟩,
 ⟨some s040, .call 106 [(.t s037)], none⟩,
 ⟨some s041, .call 105 [(.t s035), (.t s040)], none⟩]))
 (.region [xm s033 s007,
 ⟨some s034, .substr (.t s033) (some (.c (.int .i64 8))) none, none⟩,
 xm s007 s034])))))
 (.seq (.region [xm s042 s007,
 xf 4 s043 s002,
 ⟨none, .store 1 (.t s043) (.t s042), none⟩])
 (.seq (.region [⟨some s044, .load true 6 (.t s002), none⟩,
 ⟨none, .store 6 (.t s004) (.t s044), none⟩,
 ⟨some s005, .move (.c (.int .i64 0)), none⟩])
 (.ret)))))))
def r_sip_More : List XR := [.cell s004 true 6, .tmp s005]
theorem ok_sip_More : okC Try.prog Try.f94.ntmps (bodyOf Try.f94) x_sip_More = true := by kernel_rfl
theorem okr_sip_More : okRs Try.prog Try.f94.results.toList r_sip_More = true := by kernel_rfl

/-- sip.Begin -/
def x_sip_Begin : XC :=
 .seq (.region [⟨some s001, .box 0 2 (.t s000), none⟩,
 ⟨some s002, .alloc 1 [.int .u64 0, .int .u64 0, .int .u64 0, .int .u64 0, .string { data := #[] }, .int .i64 0], none⟩])
 (.seq (.region [⟨some s003, .indexArr 1 2 (.t s001) (.c (.int .i64 0)), none⟩,
 xl s004 s003,
 ⟨some s005, .bin .xor (.t s004) (.c (.int .u64 8317987319222330741)), none⟩,
 ⟨some s006, .indexArr 1 2 (.t s001) (.c (.int .i64 1)), none⟩,
 xl s007 s006,
 ⟨some s010, .bin .xor (.t s007) (.c (.int .u64 7237128888997146477)), none⟩,
 ⟨some s011, .indexArr 1 2 (.t s001) (.c (.int .i64 0)), none⟩,
 xl s012 s011,
 ⟨some s013, .bin .xor (.t s012) (.c (.int .u64 7816392313619706465)), none⟩,
 ⟨some s014, .indexArr 1 2 (.t s001) (.c (.int .i64 1)), none⟩,
 xl s015 s014,
 ⟨some s016, .bin .xor (.t s015) (.c (.int .u64 8387220255154660723)), none⟩,
 ⟨some s017, .build [.int .u64 0, .int .u64 0, .int .u64 0, .int .u64 0] [(0, 1, (.t s005)), (1, 1, (.t s010)), (2, 1, (.t s013)), (3, 1, (.t s016))], none⟩,
 ⟨some s020, .build [.int .u64 0, .int .u64 0, .int .u64 0, .int .u64 0, .string { data := #[] }, .int .i64 0] [(0, 4, (.t s017))], none⟩,
 ⟨none, .store 6 (.t s002) (.t s020), none⟩])
 (.ret))
def r_sip_Begin : List XR := [.cell s002 true 6]
theorem ok_sip_Begin : okC Try.prog Try.f95.ntmps (bodyOf Try.f95) x_sip_Begin = true := by kernel_rfl
theorem okr_sip_Begin : okRs Try.prog Try.f95.results.toList r_sip_Begin = true := by kernel_rfl

/-- sip.End -/
def x_sip_End : XC :=
 .seq (.region [⟨some s001, .box 0 6 (.t s000), none⟩,
 ⟨some s002, .move (.c (.int .u64 0)), none⟩,
 ⟨some s003, .move (.c (.int .i64 0)), none⟩])
 (.seq (.seq (.region [⟨some s005, .load true 6 (.t s001), none⟩,
 ⟨some s006, .call 104 [(.t s005)], none⟩,
 xm s004 s006])
 (.seq (.region [xm s007 s004,
 ⟨some s010, .bin .neq (.t s007) (.c (.int .i64 0)), none⟩])
 (.cond (.t s010)
 (.seq (.region [xm s011 s004,
 ⟨some s002, .move (.c (.int .u64 0)), none⟩,
 xm s003 s011])
 (.ret))
 (.skip))))
 (.seq (.regionD [0, 0, 2, 6, 0, 16, 48, 112, 254, 511] [xf 0 s012 s001,
 xf 4 s013 s001,
 xl s014 s013,
 ⟨some s015, .call 106 [(.t s014)], none⟩,
 xf 5 s016 s001,
 xl s017 s016,
 ⟨some s020, .convInt .u64 (.t s017), none⟩,
 ⟨some s021, .bin .shl (.t s020) (.c (.int .u64 56)), none⟩,
 ⟨some s022, .bin .or (.t s015) (.t s021), none⟩,
 ⟨some s023, .call 105 [(.t s012), (.t s022)], none⟩])
 (.seq (.region [xf 0 s024 s001,
 ⟨some s025, .indexArr 1 4 (.t s024) (.c (.int .i64 2)), none⟩,
 xl s026 s025,
 ⟨some s027, .bin .xor (.t s026) (.c (.int .u64 255)), none⟩,
 xf 0 s030 s001,
 ⟨some s031, .indexArr 1 4 (.t s030) (.c (.int .i64 2)), none⟩,
 ⟨none, .store 1 (.t s031) (.t s027), none⟩])
 (.seq (.region [xf 0 s032 s001,
 ⟨some s033, .call 107 [(.t s032), (.c (.int .i64 4))], none⟩])
 (.seq (.region [xf 0 s034 s001,
 ⟨some s035, .indexArr 1 4 (.t s034) (.c (.int .i64 0)), none⟩,
 xl s036 s035,
 xf 0 s037 s001,
 ⟨some s040, .indexArr 1 4 (.t s037) (.c (.int .i64 1)), none⟩,
 xl s041 s040,
 ⟨some s042, .bin .xor (.t s036) (.t s041), none⟩,
 xf 0 s043 s001,
 ⟨some s044, .indexArr 1 4 (.t s043) (.c (.int .i64 2)), none⟩,
 xl s045 s044,
 ⟨some s046, .bin .xor (.t s042) (.t s045), none⟩,
 xf 0 s047 s001,
 ⟨some s050, .indexArr 1 4 (.t s047) (.c (.int .i64 3)), none⟩,
 xl s051 s050,
 ⟨some s052, .bin .xor (.t s046) (.t s051), none⟩,
 xm s002 s052,
 ⟨some s003, .move (.c (.int .i64 0)), none⟩])
 (.ret))))))
def r_sip_End : List XR := [.tmp s002, .tmp s003]
theorem ok_sip_End : okC Try.prog Try.f96.ntmps (bodyOf Try.f96) x_sip_End = true := by kernel_rfl
theorem okr_sip_End : okRs Try.prog Try.f96.results.toList r_sip_End = true := by kernel_rfl

/-- custref.SipRight -/
def x_custref_SipRight : XC :=
 .seq (.region [⟨some s001, .box 0 6 (.t s000), none⟩,
 ⟨some s002, .move (.c (.int .i64 0)), none⟩])
 (.seq (.seq (.region [xf 5 s003 s001,
 xl s004 s003,
 ⟨some s005, .bin .lss (.t s004) (.c (.int .i64 0)), none⟩,
 xm s006 s005,
 ⟨some s007, .fieldAddr 4 (.t s001), some (s006, false)⟩,
 ⟨some s010, .load false 1 (.t s007), some (s006, false)⟩,
 ⟨some s011, .slen (.t s010), some (s006, false)⟩,
 ⟨some s012, .bin .gtr (.t s011) (.c (.int .i64 7)), some (s006, false)⟩,
 ⟨some s013, .pick (.t s006) (.c (.bool true)) (.t s012), none⟩,
 xm s014 s013,
 ⟨some s015, .fieldAddr 4 (.t s001), some (s014, false)⟩,
 ⟨some s016, .load false 1 (.t s015), some (s014, false)⟩,
 ⟨some s017, .slen (.t s016), some (s014, false)⟩,
 ⟨some s020, .fieldAddr 5 (.t s001), some (s014, false)⟩,
 ⟨some s021, .load false 1 (.t s020), some (s014, false)⟩,
 ⟨some s022, .bin .rem (.t s021) (.c (.int .i64 8)), some (s014, false)⟩,
 ⟨some s023, .bin .neq (.t s017) (.t s022), some (s014, false)⟩,
 ⟨some s024, .pick (.t s014) (.c (.bool true)) (.t s023), none⟩])
 (.cond (.t s024)
 (.seq (.region [⟨some s002, .move (.c (.int .i64 4)), none⟩])
 (.ret))
 (.skip)))
 (.seq (.region [⟨some s002, .move (.c (.int .i64 0)), none⟩])
 (.ret)))
def r_custref_SipRight : List XR := [.tmp s002]
theorem ok_custref_SipRight : okC Try.prog Try.f97.ntmps (bodyOf Try.f97) x_custref_SipRight = true := by kernel_rfl
theorem okr_custref_SipRight : okRs Try.prog Try.f97.results.toList r_custref_SipRight = true := by kernel_rfl

/-- custref.SipTake -/
def x_custref_SipTake : XC :=
 .seq (.region [⟨some s002, .box 0 4 (.t s000), none⟩,
 ⟨some s004, .alloc 1 [.int .u64 0, .int .u64 0, .int .u64 0, .int .u64 0], none⟩])
 (.seq (.region [⟨some s005, .indexArr 1 4 (.t s002) (.c (.int .i64 3)), none⟩,
 xl s006 s005,
 xm s007 s001,
 ⟨some s010, .bin .xor (.t s006) (.t s007), none⟩,
 ⟨some s011, .indexArr 1 4 (.t s002) (.c (.int .i64 3)), none⟩,
 ⟨none, .store 1 (.t s011) (.t s010), none⟩])
 (.seq (.region [⟨some s012, .load true 4 (.t s002), none⟩,
 ⟨some s013, .call 100 [(.t s012)], none⟩,
 ⟨some s014, .call 100 [(.t s013)], none⟩,
 ⟨none, .store 4 (.t s002) (.t s014), none⟩])
 (.seq (.region [⟨some s015, .indexArr 1 4 (.t s002) (.c (.int .i64 0)), none⟩,
 xl s016 s015,
 xm s017 s001,
 ⟨some s020, .bin .xor (.t s016) (.t s017), none⟩,
 ⟨some s021, .indexArr 1 4 (.t s002) (.c (.int .i64 0)), none⟩,
 ⟨none, .store 1 (.t s021) (.t s020), none⟩])
 (.seq (.region [⟨some s022, .load true 4 (.t s002), none⟩,
 ⟨none, .store 4 (.t s004) (.t s022), none⟩])
 (.ret)))))
def r_custref_SipTake : List XR := [.cell s004 true 4]
theorem ok_custref_SipTake : okC Try.prog Try.f98.ntmps (bodyOf Try.f98) x_custref_SipTake = true := by kernel_rfl
theorem okr_custref_SipTake : okRs Try.prog Try.f98.results.toList r_custref_SipTake = true := by kernel_rfl

/-- custref.eight -/
def x_custref_eight : XC :=
 .seq (.region [⟨some s002, .move (.c (.int .u64 0)), none⟩])
 (.seq (.region [⟨some s003, .move (.c (.int .u64 0)), none⟩])
 (.seq (.seq (.region [⟨some s004, .move (.c (.int .i64 7)), none⟩])
 (.block 0
 (.loop
 (.seq (.seq (.region [xm s005 s004,
 ⟨some s006, .bin .geq (.t s005) (.c (.int .i64 0)), none⟩])
 (.cond (.t s006)
 (.skip)
 (.exit 0)))
 (.seq (.block 1
 (.region [xm s011 s003,
 ⟨some s012, .bin .mul (.c (.int .u64 256)) (.t s011), none⟩,
 xm s013 s000,
 xm s014 s004,
 ⟨some s015, .strAt (.t s013) (.t s014), none⟩,
 ⟨some s016, .convInt .u64 (.t s015), none⟩,
 ⟨some s017, .bin .add (.t s012) (.t s016), none⟩,
 xm s003 s017]))
 (.region [xm s007 s004,
 ⟨some s010, .bin .sub (.t s007) (.c (.int .i64 1)), none⟩,
 xm s004 s010]))))))
 (.seq (.region [xm s020 s003,
 xm s002 s020])
 (.ret))))
def r_custref_eight : List XR := [.tmp s002]
theorem ok_custref_eight : okC Try.prog Try.f99.ntmps (bodyOf Try.f99) x_custref_eight = true := by kernel_rfl
theorem okr_custref_eight : okRs Try.prog Try.f99.results.toList r_custref_eight = true := by kernel_rfl

/-- custref.SipRound -/
def x_custref_SipRound : XC :=
 .seq (.region [⟨some s001, .box 0 4 (.t s000), none⟩,
 ⟨some s002, .alloc 1 [.int .u64 0, .int .u64 0, .int .u64 0, .int .u64 0], none⟩])
 (.seq (.region [⟨some s003, .indexArr 1 4 (.t s001) (.c (.int .i64 0)), none⟩,
 xl s004 s003,
 ⟨some s005, .indexArr 1 4 (.t s001) (.c (.int .i64 1)), none⟩,
 xl s006 s005,
 ⟨some s007, .bin .add (.t s004) (.t s006), none⟩,
 ⟨some s010, .indexArr 1 4 (.t s001) (.c (.int .i64 0)), none⟩,
 ⟨none, .store 1 (.t s010) (.t s007), none⟩])
 (.seq (.regionD [0, 1, 3, 0, 8, 31, 63, 127] [⟨some s011, .indexArr 1 4 (.t s001) (.c (.int .i64 1)), none⟩,
 xl s012 s011,
 ⟨some s013, .call 108 [(.t s012), (.c (.int .i64 13))], none⟩,
 ⟨some s014, .indexArr 1 4 (.t s001) (.c (.int .i64 0)), none⟩,
 xl s015 s014,
 ⟨some s016, .bin .xor (.t s013) (.t s015), none⟩,
 ⟨some s017, .indexArr 1 4 (.t s001) (.c (.int .i64 1)), none⟩,
 ⟨none, .store 1 (.t s017) (.t s016), none⟩])
 (.seq (.region [⟨some s020, .indexArr 1 4 (.t s001) (.c (.int .i64 0)), none⟩,
 xl s021 s020,
 ⟨some s022, .call 108 [(.t s021), (.c (.int .i64 32))], none⟩,
 ⟨some s023, .indexArr 1 4 (.t s001) (.c (.int .i64 0)), none⟩,
 ⟨none, .store 1 (.t s023) (.t s022), none⟩])
 (.seq (.region [⟨some s024, .indexArr 1 4 (.t s001) (.c (.int .i64 2)), none⟩,
 xl s025 s024,
 ⟨some s026, .indexArr 1 4 (.t s001) (.c (.int .i64 3)), none⟩,
 xl s027 s026,
 ⟨some s030, .bin .add (.t s025) (.t s027), none⟩,
 ⟨some s031, .indexArr 1 4 (.t s001) (.c (.int .i64 2)), none⟩,
 ⟨none, .store 1 (.t s031) (.t s030), none⟩])
 (.seq (.regionD [0, 1, 3, 0, 8, 31, 63, 127] [⟨some s032, .indexArr 1 4 (.t s001) (.c (.int .i64 3)), none⟩,
 xl s033 s032,
 ⟨some s034, .call 108 [(.t s033), (.c (.int .i64 16))], none⟩,
 ⟨some s035, .indexArr 1 4 (.t s001) (.c (.int .i64 2)), none⟩,
 xl s036 s035,
 ⟨some s037, .bin .xor (.t s034) (.t s036), none⟩,
 ⟨some s040, .indexArr 1 4 (.t s001) (.c (.int .i64 3)), none⟩,
 ⟨none, .store 1 (.t s040) (.t s037), none⟩])
 (.seq (.region [⟨some s041, .indexArr 1 4 (.t s001) (.c (.int .i64 0)), none⟩,
 xl s042 s041,
 ⟨some s043, .indexArr 1 4 (.t s001) (.c (.int .i64 3)), none⟩,
 xl s044 s043,
 ⟨some s045, .bin .add (.t s042) (.t s044), none⟩,
 ⟨some s046, .indexArr 1 4 (.t s001) (.c (.int .i64 0)), none⟩,
 ⟨none, .store 1 (.t s046) (.t s045), none⟩])
 (.seq (.regionD [0, 1, 3, 0, 8, 31, 63, 127] [⟨some s047, .indexArr 1 4 (.t s001) (.c (.int .i64 3)), none⟩,
 xl s050 s047,
 ⟨some s051, .call 108 [(.t s050), (.c (.int .i64 21))], none⟩,
 ⟨some s052, .indexArr 1 4 (.t s001) (.c (.int .i64 0)), none⟩,
 xl s053 s052,
 ⟨some s054, .bin .xor (.t s051) (.t s053), none⟩,
 ⟨some s055, .indexArr 1 4 (.t s001) (.c (.int .i64 3)), none⟩,
 ⟨none, .store 1 (.t s055) (.t s054), none⟩])
 (.seq (.region [⟨some s056, .indexArr 1 4 (.t s001) (.c (.int .i64 2)), none⟩,
 xl s057 s056,
 ⟨some s060, .indexArr 1 4 (.t s001) (.c (.int .i64 1)), none⟩,
 xl s061 s060,
 ⟨some s062, .bin .add (.t s057) (.t s061), none⟩,
 ⟨some s063, .indexArr 1 4 (.t s001) (.c (.int .i64 2)), none⟩,
 ⟨none, .store 1 (.t s063) (.t s062), none⟩])
 (.seq (.regionD [0, 1, 3, 0, 8, 31, 63, 127] [⟨some s064, .indexArr 1 4 (.t s001) (.c (.int .i64 1)), none⟩,
 xl s065 s064,
 ⟨some s066, .call 108 [(.t s065), (.c (.int .i64 17))], none⟩,
 ⟨some s067, .indexArr 1 4 (.t s001) (.c (.int .i64 2)), none⟩,
 xl s070 s067,
 ⟨some s071, .bin .xor (.t s066) (.t s070), none⟩,
 ⟨some s072, .indexArr 1 4 (.t s001) (.c (.int .i64 1)), none⟩,
 ⟨none, .store 1 (.t s072) (.t s071), none⟩])
 (.seq (.region [⟨some s073, .indexArr 1 4 (.t s001) (.c (.int .i64 2)), none⟩,
 xl s074 s073,
 ⟨some s075, .call 108 [(.t s074), (.c (.int .i64 32))], none⟩,
 ⟨some s076, .indexArr 1 4 (.t s001) (.c (.int .i64 2)), none⟩,
 ⟨none, .store 1 (.t s076) (.t s075), none⟩])
 (.seq (.region [⟨some s077, .load true 4 (.t s001), none⟩,
 ⟨none, .store 4 (.t s002) (.t s077), none⟩])
 (.ret))))))))))))
def r_custref_SipRound : List XR := [.cell s002 true 4]
theorem ok_custref_SipRound : okC Try.prog Try.f100.ntmps (bodyOf Try.f100) x_custref_SipRound = true := by kernel_rfl
theorem okr_custref_SipRound : okRs Try.prog Try.f100.results.toList r_custref_SipRound = true := by kernel_rfl

/-- slices.IndexFunc -/
def x_slices_IndexFunc_int : XC :=
 .seq (.region [⟨some s004, .move (.c (.int .i64 0)), none⟩])
 (.seq (.seq (.region [xm s006 s000,
 ⟨some s007, .len (.t s006), none⟩,
 ⟨some s010, .move (.c (.int .i64 0)), none⟩])
 (.block 0
 (.loop
 (.seq (.region [⟨some s011, .bin .lss (.t s010) (.t s007), none⟩])
 (.seq (.cond (.t s011)
 (.skip)
 (.exit 0))
 (.seq (.block 1
 (.seq (.region [xm s012 s010,
 xm s005 s012])
 (.seq (.region [xm s013 s001,
 xm s014 s000,
 xm s015 s005,
 ⟨some s016, .indexSl 1 (.t s014) (.t s015), none⟩,
 xl s017 s016,
 ⟨some s020, .callv (.t s013) [(.t s017)], none⟩])
 (.cond (.t s020)
 (.seq (.region [xm s021 s005,
 xm s004 s021])
 (.ret))
 (.skip)))))
 (.region [⟨some s022, .bin .add (.t s010) (.c (.int .i64 1)), none⟩,
 xm s010 s022])))))))
 (.seq (.region [⟨some s004, .move (.c (.int .i64 (-1))), none⟩])
 (.ret)))
def r_slices_IndexFunc_int : List XR := [.tmp s004]
theorem ok_slices_IndexFunc_int : okC Try.prog Try.f101.ntmps (bodyOf Try.f101) x_slices_IndexFunc_int = true := by kernel_rfl
theorem okr_slices_IndexFunc_int : okRs Try.prog Try.f101.results.toList r_slices_IndexFunc_int = true := by kernel_rfl

/-- sum.fold -/
def x_sum_fold : XC :=
 .seq (.region [⟨some s002, .move (.c (.int .u16 0)), none⟩])
 (.seq (.block 0
 (.loop
 (.seq (.seq (.region [xm s003 s000,
 ⟨some s004, .bin .gtr (.t s003) (.c (.int .u64 65535)), none⟩])
 (.cond (.t s004)
 (.skip)
 (.exit 0)))
 (.block 1
 (.region [xm s005 s000,
 ⟨some s006, .bin .shr (.t s005) (.c (.int .u64 16)), none⟩,
 xm s007 s000,
 ⟨some s010, .bin .and (.t s007) (.c (.int .u64 65535)), none⟩,
 ⟨some s011, .bin .add (.t s006) (.t s010), none⟩,
 xm s000 s011])))))
 (.seq (.region [xm s012 s000,
 ⟨some s013, .convInt .u16 (.t s012), none⟩,
 xm s002 s013])
 (.ret)))
def r_sum_fold : List XR := [.tmp s002]
theorem ok_sum_fold : okC Try.prog Try.f102.ntmps (bodyOf Try.f102) x_sum_fold = true := by kernel_rfl
theorem okr_sum_fold : okRs Try.prog Try.f102.results.toList r_sum_fold = true := by kernel_rfl

/-- custref.EndAround -/
def x_custref_EndAround : XC :=
 .seq (.region [⟨some s004, .move (.c (.int .i64 0)), none⟩])
 (.seq (.seq (.region [xm s005 s000,
 xm s006 s001,
 ⟨some s007, .bin .add (.t s005) (.t s006), none⟩,
 ⟨some s010, .bin .gtr (.t s007) (.c (.int .i64 65535)), none⟩])
 (.cond (.t s010)
 (.seq (.region [xm s011 s000,
 xm s012 s001,
 ⟨some s013, .bin .add (.t s011) (.t s012), none⟩,
 ⟨some s014, .bin .sub (.t s013) (.c (.int .i64 65535)), none⟩,
 xm s004 s014])
 (.ret))
 (.skip)))
 (.seq (.region [xm s015 s000,
 xm s016 s001,
 ⟨some s017, .bin .add (.t s015) (.t s016), none⟩,
 xm s004 s017])
 (.ret)))
def r_custref_EndAround : List XR := [.tmp s004]
theorem ok_custref_EndAround : okC Try.prog Try.f103.ntmps (bodyOf Try.f103) x_custref_EndAround = true := by kernel_rfl
theorem okr_custref_EndAround : okRs Try.prog Try.f103.results.toList r_custref_EndAround = true := by kernel_rfl

/-- sip.check -/
def x_sip_check : XC :=
 .seq (.region [⟨some s001, .box 0 6 (.t s000), none⟩,
 ⟨some s002, .move (.c (.int .i64 0)), none⟩])
 (.seq (.seq (.region [xf 5 s003 s001,
 xl s004 s003,
 ⟨some s005, .bin .lss (.t s004) (.c (.int .i64 0)), none⟩,
 xm s006 s005,
 ⟨some s007, .fieldAddr 4 (.t s001), some (s006, false)⟩,
 ⟨some s010, .load false 1 (.t s007), some (s006, false)⟩,
 ⟨some s011, .slen (.t s010), some (s006, false)⟩,
 ⟨some s012, .fieldAddr 5 (.t s001), some (s006, false)⟩,
 ⟨some s013, .load false 1 (.t s012), some (s006, false)⟩,
 ⟨some s014, .bin .rem (.t s013) (.c (.int .i64 8)), some (s006, false)⟩,
 ⟨some s015, .bin .neq (.t s011) (.t s014), some (s006, false)⟩,
 ⟨some s016, .pick (.t s006) (.c (.bool true)) (.t s015), none⟩])
 (.cond (.t s016)
 (.seq (.region [⟨some s002, .move (.c (.int .i64 4)), none⟩])
 (.ret))
 (.skip)))
 (.seq (.region [⟨some s002, .move (.c (.int .i64 0)), none⟩])
 (.ret)))
def r_sip_check : List XR := [.tmp s002]
theorem ok_sip_check : okC Try.prog Try.f104.ntmps (bodyOf Try.f104) x_sip_check = true := by kernel_rfl
theorem okr_sip_check : okRs Try.prog Try.f104.results.toList r_sip_check = true := by kernel_rfl

/-- sip.take -/
def x_sip_take : XC :=
 .seq (.regionD [0, 1, 3, 7, 0, 31, 1, 127, 255] [xm s004 s000,
 ⟨some s005, .nilCheck (.t s004), none⟩,
 ⟨some s006, .indexArr 1 4 (.t s005) (.c (.int .i64 3)), none⟩,
 xl s007 s006,
 xm s010 s001,
 ⟨some s011, .bin .xor (.t s007) (.t s010), none⟩,
 ⟨some s012, .nilCheck (.t s004), none⟩,
 ⟨some s013, .indexArr 1 4 (.t s012) (.c (.int .i64 3)), none⟩,
 ⟨none, .store 1 (.t s013) (.t s011), none⟩])
 (.seq (.region [xm s014 s000,
 ⟨some s015, .call 107 [(.t s014), (.c (.int .i64 2))], none⟩])
 (.regionD [0, 1, 3, 7, 0, 31, 1, 127, 255] [xm s016 s000,
 ⟨some s017, .nilCheck (.t s016), none⟩,
 ⟨some s020, .indexArr 1 4 (.t s017) (.c (.int .i64 0)), none⟩,
 xl s021 s020,
 xm s022 s001,
 ⟨some s023, .bin .xor (.t s021) (.t s022), none⟩,
 ⟨some s024, .nilCheck (.t s016), none⟩,
 ⟨some s025, .indexArr 1 4 (.t s024) (.c (.int .i64 0)), none⟩,
 ⟨none, .store 1 (.t s025) (.t s023), none⟩]))
def r_sip_take : List XR := []
theorem ok_sip_take : okC Try.prog Try.f105.ntmps (bodyOf Try.f105) x_sip_take = true := by kernel_rfl
theorem okr_sip_take : okRs Try.prog Try.f105.results.toList r_sip_take = true := by kernel_rfl

/-- sip.number -/
def x_sip_number : XC :=
 .seq (.region [⟨some s002, .move (.c (.int .u64 0)), none⟩])
 (.seq (.region [⟨some s003, .move (.c (.int .u64 0)), none⟩])
 (.seq (.seq (.region [xm s005 s000,
 ⟨some s006, .slen (.t s005), none⟩,
 ⟨some s007, .move (.c (.int .i64 0)), none⟩])
 (.block 0
 (.loop
 (.seq (.region [⟨some s010, .bin .lss (.t s007) (.t s006), none⟩])
 (.seq (.cond (.t s010)
 (.skip)
 (.exit 0))
 (.seq (.block 1
 (.seq (.region [xm s011 s007,
 xm s004 s011])
 (.region [xm s012 s003,
 xm s013 s000,
 xm s014 s004,
 ⟨some s015, .strAt (.t s013) (.t s014), none⟩,
 ⟨some s016, .convInt .u64 (.t s015), none⟩,
 xm s017 s004,
 ⟨some s020, .bin .mul (.c (.int .i64 8)) (.t s017), none⟩,
 ⟨some s021, .bin .shl (.t s016) (.t s020), none⟩,
 ⟨some s022, .bin .or (.t s012) (.t s021), none⟩,
 xm s003 s022])))
 (.region [⟨some s023, .bin .add (.t s007) (.c (.int .i64 1)), none⟩,
 xm s007 s023])))))))
 (.seq (.region [xm s024 s003,
 xm s002 s024])
 (.ret))))
def r_sip_number : List XR := [.tmp s002]
theorem ok_sip_number : okC Try.prog Try.f106.ntmps (bodyOf Try.f106) x_sip_number = true := by kernel_rfl
theorem okr_sip_number : okRs Try.prog Try.f106.results.toList r_sip_number = true := by kernel_rfl

/-- sip.rounds -/
def x_sip_rounds : XC :=
 .seq (.regionD [0, 1, 3, 7, 0, 16, 48, 112, 0, 256, 768, 1792, 0, 4096, 12288, 28672, 15, 65791, 200703, 524287] [xm s010 s000,
 ⟨some s011, .nilCheck (.t s010), none⟩,
 ⟨some s012, .indexArr 1 4 (.t s011) (.c (.int .i64 0)), none⟩,
 xl s013 s012,
 xm s014 s000,
 ⟨some s015, .nilCheck (.t s014), none⟩,
 ⟨some s016, .indexArr 1 4 (.t s015) (.c (.int .i64 1)), none⟩,
 xl s017 s016,
 xm s020 s000,
 ⟨some s021, .nilCheck (.t s020), none⟩,
 ⟨some s022, .indexArr 1 4 (.t s021) (.c (.int .i64 2)), none⟩,
 xl s023 s022,
 xm s024 s000,
 ⟨some s025, .nilCheck (.t s024), none⟩,
 ⟨some s026, .indexArr 1 4 (.t s025) (.c (.int .i64 3)), none⟩,
 xl s027 s026,
 xm s004 s013,
 xm s005 s017,
 xm s006 s023,
 xm s007 s027])
 (.seq (.seq (.region [xm s030 s001,
 ⟨some s031, .move (.c (.int .i64 0)), none⟩])
 (.block 0
 (.loop
 (.seq (.region [⟨some s032, .bin .lss (.t s031) (.t s030), none⟩])
 (.seq (.cond (.t s032)
 (.skip)
 (.exit 0))
 (.seq (.block 1
 (.seq (.region [xm s033 s004,
 xm s034 s005,
 ⟨some s035, .bin .add (.t s033) (.t s034), none⟩,
 xm s004 s035])
 (.seq (.region [xm s036 s005,
 ⟨some s037, .call 109 [(.t s036), (.c (.int .i64 13))], none⟩,
 xm s040 s004,
 ⟨some s041, .bin .xor (.t s037) (.t s040), none⟩,
 xm s005 s041])
 (.seq (.region [xm s042 s004,
 ⟨some s043, .call 109 [(.t s042), (.c (.int .i64 32))], none⟩,
 xm s004 s043])
 (.seq (.region [xm s044 s006,
 xm s045 s007,
 ⟨some s046, .bin .add (.t s044) (.t s045), none⟩,
 xm s006 s046])
 (.seq (.region [xm s047 s007,
 ⟨some s050, .call 109 [(.t s047), (.c (.int .i64 16))], none⟩,
 xm s051 s006,
 ⟨some s052, .bin .xor (.t s050) (.t s051), none⟩,
 xm s007 s052])
 (.seq (.region [xm s053 s004,
 xm s054 s007,
 ⟨some s055, .bin .add (.t s053) (.t s054), none⟩,
 xm s004 s055])
 (.seq (.region [xm s056 s007,
 ⟨some s057, .call 109 [(.t s056), (.c (.int .i64 21))], none⟩,
 xm s060 s004,
 ⟨some s061, .bin .xor (.t s057) (.t s060), none⟩,
 xm s007 s061])
 (.seq (.region [xm s062 s006,
 xm s063 s005,
 ⟨some s064, .bin .add (.t s062) (.t s063), none⟩,
 xm s006 s064])
 (.seq (.region [xm s065 s005,
 ⟨some s066, .call 109 [(.t s065), (.c (.int .i64 17))], none⟩,
 xm s067 s006,
 ⟨some s070, .bin .xor (.t s066) (.t s067), none⟩,
 xm s005 s070])
 (.region [xm s071 s006,
 ⟨some s072, .call 109 [(.t s071), (.c (.int .i64 32))], none⟩,
 xm s006 s072])))))))))))
 (.region [⟨some s073, .bin .add (.t s031) (.c (.int .i64 1)), none⟩,
 xm s031 s073])))))))
 (.region [xm s074 s000,
 xm s075 s004,
 xm s076 s005,
 xm s077 s006,
 xm s100 s007,
 ⟨some s101, .build [.int .u64 0, .int .u64 0, .int .u64 0, .int .u64 0] [(0, 1, (.t s075)), (1, 1, (.t s076)), (2, 1, (.t s077)), (3, 1, (.t s100))], none⟩,
 ⟨some s102, .nilCheck (.t s074), none⟩,
 ⟨none, .store 4 (.t s102) (.t s101), none⟩]))
def r_sip_rounds : List XR := []
theorem ok_sip_rounds : okC Try.prog Try.f107.ntmps (bodyOf Try.f107) x_sip_rounds = true := by kernel_rfl
theorem okr_sip_rounds : okRs Try.prog Try.f107.results.toList r_sip_rounds = true := by kernel_rfl

/-- custref.Turned -/
def x_custref_Turned : XC :=
 .seq (.region [⟨some s004, .move (.c (.int .u64 0)), none⟩])
 (.seq (.regionD [0, 0, 2, 7, 0, 0, 32, 96, 240, 511, 1023] [xm s005 s000,
 xm s006 s001,
 ⟨some s007, .bin .shl (.c (.int .u64 1)) (.t s006), none⟩,
 ⟨some s010, .bin .mul (.t s005) (.t s007), none⟩,
 xm s011 s000,
 xm s012 s001,
 ⟨some s013, .bin .sub (.c (.int .i64 64)) (.t s012), none⟩,
 ⟨some s014, .bin .shl (.c (.int .u64 1)) (.t s013), none⟩,
 ⟨some s015, .bin .quo (.t s011) (.t s014), none⟩,
 ⟨some s016, .bin .add (.t s010) (.t s015), none⟩,
 xm s004 s016])
 (.ret))
def r_custref_Turned : List XR := [.tmp s004]
theorem ok_custref_Turned : okC Try.prog Try.f108.ntmps (bodyOf Try.f108) x_custref_Turned = true := by kernel_rfl
theorem okr_custref_Turned : okRs Try.prog Try.f108.results.toList r_custref_Turned = true := by kernel_rfl

/-- bits.RotateLeft64 -/
def x_bits_RotateLeft64 : XC :=
 .seq (.region [⟨some s004, .move (.c (.int .u64 0)), none⟩])
 (.seq (.region [xm s006 s001,
 ⟨some s007, .convInt .u64 (.t s006), none⟩,
 ⟨some s010, .bin .and (.t s007) (.c (.int .u64 63)), none⟩,
 xm s005 s010])
 (.seq (.region [xm s011 s000,
 xm s012 s005,
 ⟨some s013, .bin .shl (.t s011) (.t s012), none⟩,
 xm s014 s000,
 xm s015 s005,
 ⟨some s016, .bin .sub (.c (.int .u64 64)) (.t s015), none⟩,
 ⟨some s017, .bin .shr (.t s014) (.t s016), none⟩,
 ⟨some s020, .bin .or (.t s013) (.t s017), none⟩,
 xm s004 s020])
 (.ret)))
def r_bits_RotateLeft64 : List XR := [.tmp s004]
theorem ok_bits_RotateLeft64 : okC Try.prog Try.f109.ntmps (bodyOf Try.f109) x_bits_RotateLeft64 = true := by kernel_rfl
theorem okr_bits_RotateLeft64 : okRs Try.prog Try.f109.results.toList r_bits_RotateLeft64 = true := by kernel_rfl
end Go.Proofs.Ytegejpieedckiaa
