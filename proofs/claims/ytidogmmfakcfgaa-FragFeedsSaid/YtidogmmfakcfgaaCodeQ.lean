/-
  The functions of the program in short form, and that the model's code is what they stand for. Printed by xgen.py.
-/
import Derived.Test.YtidogmmfakcfgaaFw
import Derived.Test.YtidogmmfakcfgaaProg
import Derived.KernelRfl
namespace Go.Proofs.Ytidogmmfakcfgaa
set_option linter.unusedVariables false
set_option maxRecDepth 100000
abbrev xm (a b : Sl) : XOp := ⟨some a, .move (.t b), none⟩
abbrev xl (a b : Sl) : XOp := ⟨some a, .load false 1 (.t b), none⟩
abbrev xf (n : Nat) (a b : Sl) : XOp := ⟨some a, .fieldAddr n (.t b), none⟩
abbrev s000 : Sl := ⟨.d0, .d0, .d0⟩
abbrev s001 : Sl := ⟨.d0, .d0, .d1⟩
abbrev s002 : Sl := ⟨.d0, .d0, .d2⟩
abbrev s003 : Sl := ⟨.d0, .d0, .d3⟩
abbrev s004 : Sl := ⟨.d0, .d0, .d4⟩
abbrev s005 : Sl := ⟨.d0, .d0, .d5⟩
abbrev s006 : Sl := ⟨.d0, .d0, .d6⟩
abbrev s007 : Sl := ⟨.d0, .d0, .d7⟩
abbrev s010 : Sl := ⟨.d0, .d1, .d0⟩
abbrev s011 : Sl := ⟨.d0, .d1, .d1⟩
abbrev s012 : Sl := ⟨.d0, .d1, .d2⟩
abbrev s013 : Sl := ⟨.d0, .d1, .d3⟩
abbrev s014 : Sl := ⟨.d0, .d1, .d4⟩
abbrev s015 : Sl := ⟨.d0, .d1, .d5⟩
abbrev s016 : Sl := ⟨.d0, .d1, .d6⟩
abbrev s017 : Sl := ⟨.d0, .d1, .d7⟩
abbrev s020 : Sl := ⟨.d0, .d2, .d0⟩
abbrev s021 : Sl := ⟨.d0, .d2, .d1⟩
abbrev s022 : Sl := ⟨.d0, .d2, .d2⟩
abbrev s023 : Sl := ⟨.d0, .d2, .d3⟩
abbrev s024 : Sl := ⟨.d0, .d2, .d4⟩
abbrev s025 : Sl := ⟨.d0, .d2, .d5⟩
abbrev s026 : Sl := ⟨.d0, .d2, .d6⟩
abbrev s027 : Sl := ⟨.d0, .d2, .d7⟩
abbrev s030 : Sl := ⟨.d0, .d3, .d0⟩
abbrev s031 : Sl := ⟨.d0, .d3, .d1⟩
abbrev s032 : Sl := ⟨.d0, .d3, .d2⟩
abbrev s033 : Sl := ⟨.d0, .d3, .d3⟩
abbrev s034 : Sl := ⟨.d0, .d3, .d4⟩
abbrev s035 : Sl := ⟨.d0, .d3, .d5⟩
abbrev s036 : Sl := ⟨.d0, .d3, .d6⟩
abbrev s037 : Sl := ⟨.d0, .d3, .d7⟩
abbrev s040 : Sl := ⟨.d0, .d4, .d0⟩
abbrev s041 : Sl := ⟨.d0, .d4, .d1⟩
abbrev s042 : Sl := ⟨.d0, .d4, .d2⟩
abbrev s043 : Sl := ⟨.d0, .d4, .d3⟩
abbrev s044 : Sl := ⟨.d0, .d4, .d4⟩
abbrev s045 : Sl := ⟨.d0, .d4, .d5⟩
abbrev s046 : Sl := ⟨.d0, .d4, .d6⟩
abbrev s047 : Sl := ⟨.d0, .d4, .d7⟩
abbrev s050 : Sl := ⟨.d0, .d5, .d0⟩
abbrev s051 : Sl := ⟨.d0, .d5, .d1⟩
abbrev s052 : Sl := ⟨.d0, .d5, .d2⟩
abbrev s053 : Sl := ⟨.d0, .d5, .d3⟩
abbrev s054 : Sl := ⟨.d0, .d5, .d4⟩
abbrev s055 : Sl := ⟨.d0, .d5, .d5⟩
abbrev s056 : Sl := ⟨.d0, .d5, .d6⟩
abbrev s057 : Sl := ⟨.d0, .d5, .d7⟩
abbrev s060 : Sl := ⟨.d0, .d6, .d0⟩
abbrev s061 : Sl := ⟨.d0, .d6, .d1⟩
abbrev s062 : Sl := ⟨.d0, .d6, .d2⟩
abbrev s063 : Sl := ⟨.d0, .d6, .d3⟩
abbrev s064 : Sl := ⟨.d0, .d6, .d4⟩
abbrev s065 : Sl := ⟨.d0, .d6, .d5⟩
abbrev s066 : Sl := ⟨.d0, .d6, .d6⟩
abbrev s067 : Sl := ⟨.d0, .d6, .d7⟩
abbrev s070 : Sl := ⟨.d0, .d7, .d0⟩
abbrev s071 : Sl := ⟨.d0, .d7, .d1⟩
abbrev s072 : Sl := ⟨.d0, .d7, .d2⟩
abbrev s073 : Sl := ⟨.d0, .d7, .d3⟩
abbrev s074 : Sl := ⟨.d0, .d7, .d4⟩
abbrev s075 : Sl := ⟨.d0, .d7, .d5⟩
abbrev s076 : Sl := ⟨.d0, .d7, .d6⟩
abbrev s077 : Sl := ⟨.d0, .d7, .d7⟩
abbrev s100 : Sl := ⟨.d1, .d0, .d0⟩
abbrev s101 : Sl := ⟨.d1, .d0, .d1⟩
abbrev s102 : Sl := ⟨.d1, .d0, .d2⟩
abbrev s103 : Sl := ⟨.d1, .d0, .d3⟩
abbrev s104 : Sl := ⟨.d1, .d0, .d4⟩
abbrev s105 : Sl := ⟨.d1, .d0, .d5⟩
abbrev s106 : Sl := ⟨.d1, .d0, .d6⟩
abbrev s107 : Sl := ⟨.d1, .d0, .d7⟩
abbrev s110 : Sl := ⟨.d1, .d1, .d0⟩
abbrev s111 : Sl := ⟨.d1, .d1, .d1⟩
abbrev s112 : Sl := ⟨.d1, .d1, .d2⟩
abbrev s113 : Sl := ⟨.d1, .d1, .d3⟩
abbrev s114 : Sl := ⟨.d1, .d1, .d4⟩
abbrev s115 : Sl := ⟨.d1, .d1, .d5⟩
abbrev s116 : Sl := ⟨.d1, .d1, .d6⟩
abbrev s117 : Sl := ⟨.d1, .d1, .d7⟩
abbrev s120 : Sl := ⟨.d1, .d2, .d0⟩
abbrev s121 : Sl := ⟨.d1, .d2, .d1⟩
abbrev s122 : Sl := ⟨.d1, .d2, .d2⟩
abbrev s123 : Sl := ⟨.d1, .d2, .d3⟩
abbrev s124 : Sl := ⟨.d1, .d2, .d4⟩
abbrev s125 : Sl := ⟨.d1, .d2, .d5⟩
abbrev s126 : Sl := ⟨.d1, .d2, .d6⟩
abbrev s127 : Sl := ⟨.d1, .d2, .d7⟩
abbrev s130 : Sl := ⟨.d1, .d3, .d0⟩
abbrev s131 : Sl := ⟨.d1, .d3, .d1⟩
abbrev s132 : Sl := ⟨.d1, .d3, .d2⟩
abbrev s133 : Sl := ⟨.d1, .d3, .d3⟩
abbrev s134 : Sl := ⟨.d1, .d3, .d4⟩
abbrev s135 : Sl := ⟨.d1, .d3, .d5⟩
abbrev s136 : Sl := ⟨.d1, .d3, .d6⟩
abbrev s137 : Sl := ⟨.d1, .d3, .d7⟩
abbrev s140 : Sl := ⟨.d1, .d4, .d0⟩
abbrev s141 : Sl := ⟨.d1, .d4, .d1⟩
abbrev s142 : Sl := ⟨.d1, .d4, .d2⟩
abbrev s143 : Sl := ⟨.d1, .d4, .d3⟩
abbrev s144 : Sl := ⟨.d1, .d4, .d4⟩
abbrev s145 : Sl := ⟨.d1, .d4, .d5⟩
abbrev s146 : Sl := ⟨.d1, .d4, .d6⟩
abbrev s147 : Sl := ⟨.d1, .d4, .d7⟩
abbrev s150 : Sl := ⟨.d1, .d5, .d0⟩
abbrev s151 : Sl := ⟨.d1, .d5, .d1⟩
abbrev s152 : Sl := ⟨.d1, .d5, .d2⟩
abbrev s153 : Sl := ⟨.d1, .d5, .d3⟩
abbrev s154 : Sl := ⟨.d1, .d5, .d4⟩
abbrev s155 : Sl := ⟨.d1, .d5, .d5⟩
abbrev s156 : Sl := ⟨.d1, .d5, .d6⟩
abbrev s157 : Sl := ⟨.d1, .d5, .d7⟩
abbrev s160 : Sl := ⟨.d1, .d6, .d0⟩
abbrev s161 : Sl := ⟨.d1, .d6, .d1⟩
abbrev s162 : Sl := ⟨.d1, .d6, .d2⟩
abbrev s163 : Sl := ⟨.d1, .d6, .d3⟩
abbrev s164 : Sl := ⟨.d1, .d6, .d4⟩
abbrev s165 : Sl := ⟨.d1, .d6, .d5⟩
abbrev s166 : Sl := ⟨.d1, .d6, .d6⟩
abbrev s167 : Sl := ⟨.d1, .d6, .d7⟩
abbrev s170 : Sl := ⟨.d1, .d7, .d0⟩
abbrev s171 : Sl := ⟨.d1, .d7, .d1⟩
abbrev s172 : Sl := ⟨.d1, .d7, .d2⟩
abbrev s173 : Sl := ⟨.d1, .d7, .d3⟩
abbrev s174 : Sl := ⟨.d1, .d7, .d4⟩
abbrev s175 : Sl := ⟨.d1, .d7, .d5⟩
abbrev s176 : Sl := ⟨.d1, .d7, .d6⟩
abbrev s177 : Sl := ⟨.d1, .d7, .d7⟩
abbrev s200 : Sl := ⟨.d2, .d0, .d0⟩
abbrev s201 : Sl := ⟨.d2, .d0, .d1⟩
abbrev s202 : Sl := ⟨.d2, .d0, .d2⟩
abbrev s203 : Sl := ⟨.d2, .d0, .d3⟩
abbrev s204 : Sl := ⟨.d2, .d0, .d4⟩
abbrev s205 : Sl := ⟨.d2, .d0, .d5⟩
abbrev s206 : Sl := ⟨.d2, .d0, .d6⟩
abbrev s207 : Sl := ⟨.d2, .d0, .d7⟩
abbrev s210 : Sl := ⟨.d2, .d1, .d0⟩
abbrev s211 : Sl := ⟨.d2, .d1, .d1⟩
abbrev s212 : Sl := ⟨.d2, .d1, .d2⟩
abbrev s213 : Sl := ⟨.d2, .d1, .d3⟩
abbrev s214 : Sl := ⟨.d2, .d1, .d4⟩
abbrev s215 : Sl := ⟨.d2, .d1, .d5⟩
abbrev s216 : Sl := ⟨.d2, .d1, .d6⟩
abbrev s217 : Sl := ⟨.d2, .d1, .d7⟩
abbrev s220 : Sl := ⟨.d2, .d2, .d0⟩
abbrev s221 : Sl := ⟨.d2, .d2, .d1⟩
abbrev s222 : Sl := ⟨.d2, .d2, .d2⟩
abbrev s223 : Sl := ⟨.d2, .d2, .d3⟩
abbrev s224 : Sl := ⟨.d2, .d2, .d4⟩
abbrev s225 : Sl := ⟨.d2, .d2, .d5⟩
abbrev s226 : Sl := ⟨.d2, .d2, .d6⟩
abbrev s227 : Sl := ⟨.d2, .d2, .d7⟩
abbrev s230 : Sl := ⟨.d2, .d3, .d0⟩
abbrev s231 : Sl := ⟨.d2, .d3, .d1⟩
abbrev s232 : Sl := ⟨.d2, .d3, .d2⟩
abbrev s233 : Sl := ⟨.d2, .d3, .d3⟩
abbrev s234 : Sl := ⟨.d2, .d3, .d4⟩
abbrev s235 : Sl := ⟨.d2, .d3, .d5⟩
abbrev s236 : Sl := ⟨.d2, .d3, .d6⟩
abbrev s237 : Sl := ⟨.d2, .d3, .d7⟩
abbrev s240 : Sl := ⟨.d2, .d4, .d0⟩
abbrev s241 : Sl := ⟨.d2, .d4, .d1⟩
abbrev s242 : Sl := ⟨.d2, .d4, .d2⟩
abbrev s243 : Sl := ⟨.d2, .d4, .d3⟩
abbrev s244 : Sl := ⟨.d2, .d4, .d4⟩
abbrev s245 : Sl := ⟨.d2, .d4, .d5⟩
abbrev s246 : Sl := ⟨.d2, .d4, .d6⟩
abbrev s247 : Sl := ⟨.d2, .d4, .d7⟩
abbrev s250 : Sl := ⟨.d2, .d5, .d0⟩
abbrev s251 : Sl := ⟨.d2, .d5, .d1⟩
abbrev s252 : Sl := ⟨.d2, .d5, .d2⟩
abbrev s253 : Sl := ⟨.d2, .d5, .d3⟩
abbrev s254 : Sl := ⟨.d2, .d5, .d4⟩
abbrev s255 : Sl := ⟨.d2, .d5, .d5⟩
abbrev s256 : Sl := ⟨.d2, .d5, .d6⟩
abbrev s257 : Sl := ⟨.d2, .d5, .d7⟩
abbrev s260 : Sl := ⟨.d2, .d6, .d0⟩
abbrev s261 : Sl := ⟨.d2, .d6, .d1⟩
abbrev s262 : Sl := ⟨.d2, .d6, .d2⟩
abbrev s263 : Sl := ⟨.d2, .d6, .d3⟩
abbrev s264 : Sl := ⟨.d2, .d6, .d4⟩
abbrev s265 : Sl := ⟨.d2, .d6, .d5⟩
abbrev s266 : Sl := ⟨.d2, .d6, .d6⟩
abbrev s267 : Sl := ⟨.d2, .d6, .d7⟩
abbrev s270 : Sl := ⟨.d2, .d7, .d0⟩
abbrev s271 : Sl := ⟨.d2, .d7, .d1⟩
abbrev s272 : Sl := ⟨.d2, .d7, .d2⟩
abbrev s273 : Sl := ⟨.d2, .d7, .d3⟩
abbrev s274 : Sl := ⟨.d2, .d7, .d4⟩
abbrev s275 : Sl := ⟨.d2, .d7, .d5⟩
abbrev s276 : Sl := ⟨.d2, .d7, .d6⟩
abbrev s277 : Sl := ⟨.d2, .d7, .d7⟩
abbrev s300 : Sl := ⟨.d3, .d0, .d0⟩
abbrev s301 : Sl := ⟨.d3, .d0, .d1⟩
abbrev s302 : Sl := ⟨.d3, .d0, .d2⟩
abbrev s303 : Sl := ⟨.d3, .d0, .d3⟩
abbrev s304 : Sl := ⟨.d3, .d0, .d4⟩
abbrev s305 : Sl := ⟨.d3, .d0, .d5⟩
abbrev s306 : Sl := ⟨.d3, .d0, .d6⟩
abbrev s307 : Sl := ⟨.d3, .d0, .d7⟩
abbrev s310 : Sl := ⟨.d3, .d1, .d0⟩
abbrev s311 : Sl := ⟨.d3, .d1, .d1⟩
abbrev s312 : Sl := ⟨.d3, .d1, .d2⟩
abbrev s313 : Sl := ⟨.d3, .d1, .d3⟩
abbrev s314 : Sl := ⟨.d3, .d1, .d4⟩
abbrev s315 : Sl := ⟨.d3, .d1, .d5⟩
abbrev s316 : Sl := ⟨.d3, .d1, .d6⟩
abbrev s317 : Sl := ⟨.d3, .d1, .d7⟩
abbrev s320 : Sl := ⟨.d3, .d2, .d0⟩
abbrev s321 : Sl := ⟨.d3, .d2, .d1⟩
abbrev s322 : Sl := ⟨.d3, .d2, .d2⟩
abbrev s323 : Sl := ⟨.d3, .d2, .d3⟩
abbrev s324 : Sl := ⟨.d3, .d2, .d4⟩
abbrev s325 : Sl := ⟨.d3, .d2, .d5⟩
abbrev s326 : Sl := ⟨.d3, .d2, .d6⟩
abbrev s327 : Sl := ⟨.d3, .d2, .d7⟩
abbrev s330 : Sl := ⟨.d3, .d3, .d0⟩
abbrev s331 : Sl := ⟨.d3, .d3, .d1⟩
abbrev s332 : Sl := ⟨.d3, .d3, .d2⟩
abbrev s333 : Sl := ⟨.d3, .d3, .d3⟩
abbrev s334 : Sl := ⟨.d3, .d3, .d4⟩
abbrev s335 : Sl := ⟨.d3, .d3, .d5⟩
abbrev s336 : Sl := ⟨.d3, .d3, .d6⟩
abbrev s337 : Sl := ⟨.d3, .d3, .d7⟩
abbrev s340 : Sl := ⟨.d3, .d4, .d0⟩
abbrev s341 : Sl := ⟨.d3, .d4, .d1⟩
abbrev s342 : Sl := ⟨.d3, .d4, .d2⟩
abbrev s343 : Sl := ⟨.d3, .d4, .d3⟩
abbrev s344 : Sl := ⟨.d3, .d4, .d4⟩
abbrev s345 : Sl := ⟨.d3, .d4, .d5⟩
abbrev s346 : Sl := ⟨.d3, .d4, .d6⟩
abbrev s347 : Sl := ⟨.d3, .d4, .d7⟩
abbrev s350 : Sl := ⟨.d3, .d5, .d0⟩
abbrev s351 : Sl := ⟨.d3, .d5, .d1⟩
abbrev s352 : Sl := ⟨.d3, .d5, .d2⟩
abbrev s353 : Sl := ⟨.d3, .d5, .d3⟩
abbrev s354 : Sl := ⟨.d3, .d5, .d4⟩
abbrev s355 : Sl := ⟨.d3, .d5, .d5⟩
abbrev s356 : Sl := ⟨.d3, .d5, .d6⟩
abbrev s357 : Sl := ⟨.d3, .d5, .d7⟩
abbrev s360 : Sl := ⟨.d3, .d6, .d0⟩
abbrev s361 : Sl := ⟨.d3, .d6, .d1⟩
abbrev s362 : Sl := ⟨.d3, .d6, .d2⟩
abbrev s363 : Sl := ⟨.d3, .d6, .d3⟩
abbrev s364 : Sl := ⟨.d3, .d6, .d4⟩
abbrev s365 : Sl := ⟨.d3, .d6, .d5⟩
abbrev s366 : Sl := ⟨.d3, .d6, .d6⟩
abbrev s367 : Sl := ⟨.d3, .d6, .d7⟩
abbrev s370 : Sl := ⟨.d3, .d7, .d0⟩
abbrev s371 : Sl := ⟨.d3, .d7, .d1⟩
abbrev s372 : Sl := ⟨.d3, .d7, .d2⟩
abbrev s373 : Sl := ⟨.d3, .d7, .d3⟩
abbrev s374 : Sl := ⟨.d3, .d7, .d4⟩
abbrev s375 : Sl := ⟨.d3, .d7, .d5⟩
abbrev s376 : Sl := ⟨.d3, .d7, .d6⟩
abbrev s377 : Sl := ⟨.d3, .d7, .d7⟩
abbrev s400 : Sl := ⟨.d4, .d0, .d0⟩
abbrev s401 : Sl := ⟨.d4, .d0, .d1⟩
abbrev s402 : Sl := ⟨.d4, .d0, .d2⟩
abbrev s403 : Sl := ⟨.d4, .d0, .d3⟩
abbrev s404 : Sl := ⟨.d4, .d0, .d4⟩
abbrev s405 : Sl := ⟨.d4, .d0, .d5⟩
abbrev s406 : Sl := ⟨.d4, .d0, .d6⟩
abbrev s407 : Sl := ⟨.d4, .d0, .d7⟩
abbrev s410 : Sl := ⟨.d4, .d1, .d0⟩
abbrev s411 : Sl := ⟨.d4, .d1, .d1⟩
theorem auC {p q : Prop} (h : q) (e : q → p := by intro hq; dsimp only [xm, xl, xf, s000, s001, s002, s003, s004, s005, s006, s007, s010, s011, s012, s013, s014, s015, s016, s017, s020, s021, s022, s023, s024, s025, s026, s027, s030, s031, s032, s033, s034, s035, s036, s037, s040, s041, s042, s043, s044, s045, s046, s047, s050, s051, s052, s053, s054, s055, s056, s057, s060, s061, s062, s063, s064, s065, s066, s067, s070, s071, s072, s073, s074, s075, s076, s077, s100, s101, s102, s103, s104, s105, s106, s107, s110, s111, s112, s113, s114, s115, s116, s117, s120, s121, s122, s123, s124, s125, s126, s127, s130, s131, s132, s133, s134, s135, s136, s137, s140, s141, s142, s143, s144, s145, s146, s147, s150, s151, s152, s153, s154, s155, s156, s157, s160, s161, s162, s163, s164, s165, s166, s167, s170, s171, s172, s173, s174, s175, s176, s177, s200, s201, s202, s203, s204, s205, s206, s207, s210, s211, s212, s213, s214, s215, s216, s217, s220, s221, s222, s223, s224, s225, s226, s227, s230, s231, s232, s233, s234, s235, s236, s237, s240, s241, s242, s243, s244, s245, s246, s247, s250, s251, s252, s253, s254, s255, s256, s257, s260, s261, s262, s263, s264, s265, s266, s267, s270, s271, s272, s273, s274, s275, s276, s277, s300, s301, s302, s303, s304, s305, s306, s307, s310, s311, s312, s313, s314, s315, s316, s317, s320, s321, s322, s323, s324, s325, s326, s327, s330, s331, s332, s333, s334, s335, s336, s337, s340, s341, s342, s343, s344, s345, s346, s347, s350, s351, s352, s353, s354, s355, s356, s357, s360, s361, s362, s363, s364, s365, s366, s367, s370, s371, s372, s373, s374, s375, s376, s377, s400, s401, s402, s403, s404, s405, s406, s407, s410, s411]; exact hq) : p := e h
def x_custlaw_FragFeeds : XC :=
 .seq (.region [⟨some s003, .box 0 11 (.t s001), none⟩,
 ⟨some s004, .move (.c (.bool false)), none⟩])
 (.seq (.region [xm s016 s000,
 ⟨some s017, .load true 11 (.t s003), none⟩,
 ⟨some s020, .call 4 [(.t s016), (.t s017)], none⟩,
 xm s015 s020,
 ⟨some s021, .extract 0 (.t s015), none⟩,
 ⟨some s022, .extract 1 (.t s015), none⟩,
 ⟨some s023, .extract 2 (.t s015), none⟩,
 ⟨some s024, .extract 3 (.t s015), none⟩,
 ⟨some s006, .alloc 1 [.int .i64 0, .int .i64 0, .bool false, .bool false, .int .i64 0, .int .i64 0, .int .i64 0, .int .u32 0, .int .u32 0, .string { data := #[] }, .string { data := #[] }], none⟩,
 xm s005 s021,
 ⟨none, .store 11 (.t s006) (.t s022), none⟩,
 xm s007 s023,
 xm s010 s024])
 (.seq (.region [xm s026 s000,
 ⟨some s027, .load true 11 (.t s003), none⟩,
 ⟨some s030, .call 5 [(.t s026), (.t s027)], none⟩,
 xm s025 s030,
 ⟨some s031, .extract 0 (.t s025), none⟩,
 ⟨some s032, .extract 1 (.t s025), none⟩,
 ⟨some s033, .extract 2 (.t s025), none⟩,
 ⟨some s034, .extract 3 (.t s025), none⟩,
 ⟨some s012, .alloc 2 [.int .i64 0, .int .i64 0, .bool false, .bool false, .int .i64 0, .int .i64 0, .int .i64 0, .int .u32 0, .int .u32 0, .string { data := #[] }, .string { data := #[] }], none⟩,
 xm s011 s031,
 ⟨none, .store 11 (.t s012) (.t s032), none⟩,
 xm s013 s033,
 xm s014 s034])
 (.seq (.region [xm s035 s000,
 ⟨some s036, .call 6 [(.t s035)], none⟩,
 xm s037 s000,
 ⟨some s040, .call 7 [(.t s037)], none⟩,
 ⟨some s041, .bin .eql (.t s036) (.t s040), none⟩,
 xm s042 s041,
 ⟨some s043, .move (.t s005), some (s042, true)⟩,
 ⟨some s044, .move (.t s011), some (s042, true)⟩,
 ⟨some s045, .call 8 [(.t s043), (.t s044)], some (s042, true)⟩,
 ⟨some s046, .pick (.t s042) (.t s045) (.c (.bool false)), none⟩,
 xm s047 s046,
 ⟨some s050, .load true 11 (.t s006), some (s047, true)⟩,
 ⟨some s051, .load true 11 (.t s012), some (s047, true)⟩,
 ⟨some s052, .eqs false [0, 0, 1, 1, 0, 0, 0, 0, 0, 2, 2] (.t s050) (.t s051), some (s047, true)⟩,
 ⟨some s053, .pick (.t s047) (.t s052) (.c (.bool false)), none⟩,
 xm s054 s053,
 ⟨some s055, .move (.t s007), some (s054, true)⟩,
 ⟨some s056, .move (.t s013), some (s054, true)⟩,
 ⟨some s057, .eqb false (.t s055) (.t s056), some (s054, true)⟩,
 ⟨some s060, .pick (.t s054) (.t s057) (.c (.bool false)), none⟩,
 xm s061 s060,
 ⟨some s062, .move (.t s010), some (s061, true)⟩,
 ⟨some s063, .move (.t s014), some (s061, true)⟩,
 ⟨some s064, .bin .eql (.t s062) (.t s063), some (s061, true)⟩,
 ⟨some s065, .pick (.t s061) (.t s064) (.c (.bool false)), none⟩,
 xm s004 s065])
 (.ret))))
def r_custlaw_FragFeeds : List XR := [.tmp s004]
theorem ok_custlaw_FragFeeds : okC Try.prog Try.f3.ntmps (bodyOf Try.f3) x_custlaw_FragFeeds = true := by kernel_rfl
theorem okr_custlaw_FragFeeds : okRs Try.prog Try.f3.results.toList r_custlaw_FragFeeds = true := by kernel_rfl
def x_frag_Feed : XC :=
 .seq (.region [⟨some s003, .box 0 11 (.t s001), none⟩,
 ⟨some s004, .move (.c (.slice none 0 0)), none⟩,
 ⟨some s005, .alloc 1 [.int .i64 0, .int .i64 0, .bool false, .bool false, .int .i64 0, .int .i64 0, .int .i64 0, .int .u32 0, .int .u32 0, .string { data := #[] }, .string { data := #[] }], none⟩,
 ⟨some s006, .move (.c (.bool false)), none⟩,
 ⟨some s007, .move (.c (.int .i64 0)), none⟩])
 (.seq (.region [xm s024 s000,
 ⟨some s025, .call 9 [(.t s024)], none⟩,
 xm s000 s025])
 (.seq (.seq (.region [xm s026 s000,
 ⟨some s027, .call 6 [(.t s026)], none⟩,
 xm s010 s027])
 (.seq (.region [xm s030 s010,
 ⟨some s031, .bin .neq (.t s030) (.c (.int .i64 0)), none⟩])
 (.cond (.t s031)
 (.seq (.region [xm s032 s000,
 ⟨some s033, .build [.int .i64 0, .int .i64 0, .bool false, .bool false, .int .i64 0, .int .i64 0, .int .i64 0, .int .u32 0, .int .u32 0, .string { data := #[] }, .string { data := #[] }] [], none⟩,
 xm s034 s010,
 xm s004 s032,
 ⟨none, .store 11 (.t s005) (.t s033), none⟩,
 ⟨some s006, .move (.c (.bool false)), none⟩,
 xm s007 s034])
 (.ret))
 (.skip))))
 (.seq (.seq (.region [⟨some s036, .load true 11 (.t s003), none⟩,
 ⟨some s037, .call 10 [(.t s036)], none⟩,
 xm s035 s037,
 ⟨some s040, .extract 0 (.t s035), none⟩,
 ⟨some s041, .extract 1 (.t s035), none⟩,
 xm s011 s040,
 xm s012 s041])
 (.seq (.region [xm s042 s012,
 ⟨some s043, .bin .neq (.t s042) (.c (.int .i64 0)), none⟩])
 (.cond (.t s043)
 (.seq (.region [xm s044 s000,
 ⟨some s045, .build [.int .i64 0, .int .i64 0, .bool false, .bool false, .int .i64 0, .int .i64 0, .int .i64 0, .int .u32 0, .int .u32 0, .string { data := #[] }, .string { data := #[] }] [], none⟩,
 xm s046 s012,
 xm s004 s044,
 ⟨none, .store 11 (.t s005) (.t s045), none⟩,
 ⟨some s006, .move (.c (.bool false)), none⟩,
 xm s007 s046])
 (.ret))
 (.skip))))
 (.seq (.seq (.region [xf 3 s047 s003,
 xl s050 s047,
 ⟨some s051, .un .not (.t s050), none⟩,
 xm s052 s051,
 ⟨some s053, .fieldAddr 4 (.t s003), some (s052, true)⟩,
 ⟨some s054, .load false 1 (.t s053), some (s052, true)⟩,
 ⟨some s055, .bin .eql (.t s054) (.c (.int .i64 0)), some (s052, true)⟩,
 ⟨some s056, .pick (.t s052) (.t s055) (.c (.bool false)), none⟩])
 (.cond (.t s056)
 (.seq (.regionD [0, 0, 1, 7, 15, 31] [xm s057 s000,
 ⟨some s060, .load true 11 (.t s003), none⟩,
 xm s004 s057,
 ⟨none, .store 11 (.t s005) (.t s060), none⟩,
 ⟨some s006, .move (.c (.bool true)), none⟩,
 ⟨some s007, .move (.c (.int .i64 0)), none⟩])
 (.ret))
 (.skip)))
 (.seq (.seq (.region [⟨some s061, .load true 11 (.t s003), none⟩,
 ⟨some s062, .call 11 [(.t s061)], none⟩,
 xm s013 s062])
 (.seq (.region [xm s063 s013,
 ⟨some s064, .bin .neq (.t s063) (.c (.int .i64 0)), none⟩])
 (.cond (.t s064)
 (.seq (.region [xm s065 s000,
 ⟨some s066, .build [.int .i64 0, .int .i64 0, .bool false, .bool false, .int .i64 0, .int .i64 0, .int .i64 0, .int .u32 0, .int .u32 0, .string { data := #[] }, .string { data := #[] }] [], none⟩,
 xm s067 s013,
 xm s004 s065,
 ⟨none, .store 11 (.t s005) (.t s066), none⟩,
 ⟨some s006, .move (.c (.bool false)), none⟩,
 xm s007 s067])
 (.ret))
 (.skip))))
 (.seq (.region [xf 7 s070 s003,
 xl s071 s070,
 xf 8 s072 s003,
 xl s073 s072,
 xf 6 s074 s003,
 xl s075 s074,
 xf 1 s076 s003,
 xl s077 s076,
 ⟨some s100, .build [.int .u32 0, .int .u32 0, .int .i64 0, .int .i64 0, .int .i64 0, .int .i64 0, .string { data := #[] }, .slice none 0 0] [(0, 1, (.t s071)), (1, 1, (.t s073)), (2, 1, (.t s075)), (3, 1, (.t s077))], none⟩,
 ⟨some s014, .alloc 2 [.int .u32 0, .int .u32 0, .int .i64 0, .int .i64 0, .int .i64 0, .int .i64 0, .string { data := #[] }, .slice none 0 0], none⟩,
 ⟨none, .store 8 (.t s014) (.t s100), none⟩])
 (.seq (.region [xm s101 s000,
 ⟨some s102, .mkfn 13 [] [(.t s014)], none⟩,
 ⟨some s103, .call 12 [(.t s101), (.t s102)], none⟩,
 xm s015 s103])
 (.seq (.seq (.region [xm s104 s015,
 ⟨some s105, .bin .lss (.t s104) (.c (.int .i64 0)), none⟩])
 (.cond (.t s105)
 (.seq (.seq (.region [xm s106 s000,
 ⟨some s107, .len (.t s106), none⟩,
 ⟨some s110, .bin .eql (.t s107) (.c (.int .i64 16)), none⟩])
 (.cond (.t s110)
 (.region [xm s111 s000,
 ⟨some s112, .call 15 [(.t s111), (.c (.int .i64 0)), (.c (.int .i64 1))], none⟩,
 xm s000 s112])
 (.skip)))
 (.region [xm s113 s000,
 ⟨some s114, .len (.t s113), none⟩,
 xm s115 s000,
 ⟨some s116, .load true 8 (.t s014), none⟩,
 ⟨some s117, .buildSlice 3 1 [.int .u32 0, .int .u32 0, .int .i64 0, .int .i64 0, .int .i64 0, .int .i64 0, .string { data := #[] }, .slice none 0 0] [(0, (.t s116))] true, none⟩,
 ⟨some s120, .append 4 8 80 (.t s115) (.t s117), none⟩,
 xm s015 s114,
 xm s000 s120]))
 (.skip)))
 (.seq (.region [xm s121 s000,
 xm s122 s015,
 ⟨some s123, .indexSl 8 (.t s121) (.t s122), none⟩,
 xm s016 s123])
 (.seq (.region [xm s125 s016,
 xf 4 s126 s003,
 xl s127 s126,
 ⟨some s130, .bin .mul (.c (.int .i64 8)) (.t s127), none⟩,
 xf 10 s131 s003,
 xl s132 s131,
 xf 3 s133 s003,
 xl s134 s133,
 ⟨some s135, .un .not (.t s134), none⟩,
 ⟨some s136, .build [.int .i64 0, .string { data := #[] }, .bool false] [(0, 1, (.t s130)), (1, 1, (.t s132)), (2, 1, (.t s135))], none⟩,
 ⟨some s137, .call 16 [(.t s125), (.t s136)], none⟩,
 xm s124 s137,
 ⟨some s140, .extract 0 (.t s124), none⟩,
 ⟨some s141, .extract 1 (.t s124), none⟩,
 xm s017 s140,
 xm s020 s141])
 (.seq (.seq (.region [xm s142 s020,
 ⟨some s143, .bin .neq (.t s142) (.c (.int .i64 0)), none⟩])
 (.cond (.t s143)
 (.seq (.region [xm s144 s000,
 xm s145 s015,
 xm s146 s015,
 ⟨some s147, .bin .add (.t s146) (.c (.int .i64 1)), none⟩,
 ⟨some s150, .call 15 [(.t s144), (.t s145), (.t s147)], none⟩,
 ⟨some s151, .build [.int .i64 0, .int .i64 0, .bool false, .bool false, .int .i64 0, .int .i64 0, .int .i64 0, .int .u32 0, .int .u32 0, .string { data := #[] }, .string { data := #[] }] [], none⟩,
 xm s152 s020,
 xm s004 s150,
 ⟨none, .store 11 (.t s005) (.t s151), none⟩,
 ⟨some s006, .move (.c (.bool false)), none⟩,
 xm s007 s152])
 (.ret))
 (.skip)))
 (.seq (.seq (.region [xm s153 s017,
 xm s154 s153,
 ⟨some s155, .fieldAddr 4 (.t s003), some (s154, true)⟩,
 ⟨some s156, .load false 1 (.t s155), some (s154, true)⟩,
 ⟨some s157, .bin .eql (.t s156) (.c (.int .i64 0)), some (s154, true)⟩,
 ⟨some s160, .pick (.t s154) (.t s157) (.c (.bool false)), none⟩])
 (.cond (.t s160)
 (.regionD [0, 0, 0, 0, 8, 0, 32, 0, 128, 25, 537, 1561, 3707, 7803, 15995, 32767, 65535, 131071] [xm s161 s016,
 xm s162 s016,
 xm s163 s016,
 xf 0 s164 s003,
 xl s165 s164,
 xf 5 s166 s003,
 xl s167 s166,
 xf 9 s170 s003,
 xl s171 s170,
 ⟨some s172, .nilCheck (.t s161), none⟩,
 xf 4 s173 s172,
 ⟨none, .store 1 (.t s173) (.t s165), none⟩,
 ⟨some s174, .nilCheck (.t s162), none⟩,
 xf 5 s175 s174,
 ⟨none, .store 1 (.t s175) (.t s167), none⟩,
 ⟨some s176, .nilCheck (.t s163), none⟩,
 xf 6 s177 s176,
 ⟨none, .store 1 (.t s177) (.t s171), none⟩])
 (.skip)))
 (.seq (.region [xm s201 s016,
 ⟨some s202, .nilCheck (.t s201), none⟩,
 ⟨some s203, .load true 8 (.t s202), none⟩,
 ⟨some s204, .call 17 [(.t s203)], none⟩,
 xm s200 s204,
 ⟨some s205, .extract 0 (.t s200), none⟩,
 ⟨some s206, .extract 1 (.t s200), none⟩,
 xm s021 s205,
 xm s022 s206])
 (.seq (.seq (.region [xm s207 s017,
 ⟨some s210, .un .not (.t s207), none⟩,
 xm s211 s210,
 ⟨some s212, .move (.t s022), some (s211, false)⟩,
 ⟨some s213, .un .not (.t s212), some (s211, false)⟩,
 ⟨some s214, .pick (.t s211) (.c (.bool true)) (.t s213), none⟩])
 (.cond (.t s214)
 (.seq (.region [xm s215 s000,
 ⟨some s216, .build [.int .i64 0, .int .i64 0, .bool false, .bool false, .int .i64 0, .int .i64 0, .int .i64 0, .int .u32 0, .int .u32 0, .string { data := #[] }, .string { data := #[] }] [], none⟩,
 xm s004 s215,
 ⟨none, .store 11 (.t s005) (.t s216), none⟩,
 ⟨some s006, .move (.c (.bool false)), none⟩,
 ⟨some s007, .move (.c (.int .i64 0)), none⟩])
 (.ret))
 (.skip)))
 (.seq (.regionD [0, 1, 3, 7, 0, 16, 48, 112, 0, 256, 768, 1792, 0, 4096, 12288, 28672, 0, 65536, 196608, 458752, 0, 1048576, 3145728, 7340032, 0, 16777216, 50331648, 117440512, 0, 536870911, 0, 2147483647] [xm s217 s016,
 ⟨some s220, .nilCheck (.t s217), none⟩,
 xf 4 s221 s220,
 xl s222 s221,
 xm s223 s016,
 ⟨some s224, .nilCheck (.t s223), none⟩,
 xf 5 s225 s224,
 xl s226 s225,
 xm s227 s016,
 ⟨some s230, .nilCheck (.t s227), none⟩,
 xf 6 s231 s230,
 xl s232 s231,
 xm s233 s016,
 ⟨some s234, .nilCheck (.t s233), none⟩,
 xf 0 s235 s234,
 xl s236 s235,
 xm s237 s016,
 ⟨some s240, .nilCheck (.t s237), none⟩,
 xf 1 s241 s240,
 xl s242 s241,
 xm s243 s016,
 ⟨some s244, .nilCheck (.t s243), none⟩,
 xf 2 s245 s244,
 xl s246 s245,
 xm s247 s016,
 ⟨some s250, .nilCheck (.t s247), none⟩,
 xf 3 s251 s250,
 xl s252 s251,
 xm s253 s021,
 ⟨some s254, .build [.int .i64 0, .int .i64 0, .bool false, .bool false, .int .i64 0, .int .i64 0, .int .i64 0, .int .u32 0, .int .u32 0, .string { data := #[] }, .string { data := #[] }] [(0, 1, (.t s222)), (5, 1, (.t s226)), (9, 1, (.t s232)), (7, 1, (.t s236)), (8, 1, (.t s242)), (6, 1, (.t s246)), (1, 1, (.t s252)), (10, 1, (.t s253))], none⟩,
 ⟨some s023, .alloc 5 [.int .i64 0, .int .i64 0, .bool false, .bool false, .int .i64 0, .int .i64 0, .int .i64 0, .int .u32 0, .int .u32 0, .string { data := #[] }, .string { data := #[] }], none⟩,
 ⟨none, .store 11 (.t s023) (.t s254), none⟩])
 (.seq (.regionD [0, 0, 0, 4, 15, 0, 31, 127, 255, 511] [xm s255 s000,
 xm s256 s015,
 xm s257 s015,
 ⟨some s260, .bin .add (.t s257) (.c (.int .i64 1)), none⟩,
 ⟨some s261, .call 15 [(.t s255), (.t s256), (.t s260)], none⟩,
 ⟨some s262, .load true 11 (.t s023), none⟩,
 xm s004 s261,
 ⟨none, .store 11 (.t s005) (.t s262), none⟩,
 ⟨some s006, .move (.c (.bool true)), none⟩,
 ⟨some s007, .move (.c (.int .i64 0)), none⟩])
 (.ret)))))))))))))))))
def r_frag_Feed : List XR := [.tmp s004, .cell s005 true 11, .tmp s006, .tmp s007]
theorem ok_frag_Feed : okC Try.prog Try.f4.ntmps (bodyOf Try.f4) x_frag_Feed = true := by kernel_rfl
theorem okr_frag_Feed : okRs Try.prog Try.f4.results.toList r_frag_Feed = true := by kernel_rfl
def x_custref_Fed : XC :=
 .seq (.region [⟨some s003, .box 0 11 (.t s001), none⟩,
 ⟨some s004, .move (.c (.slice none 0 0)), none⟩,
 ⟨some s005, .alloc 1 [.int .i64 0, .int .i64 0, .bool false, .bool false, .int .i64 0, .int .i64 0, .int .i64 0, .int .u32 0, .int .u32 0, .string { data := #[] }, .string { data := #[] }], none⟩,
 ⟨some s006, .move (.c (.bool false)), none⟩,
 ⟨some s007, .move (.c (.int .i64 0)), none⟩])
 (.seq (.region [⟨some s024, .build [.int .i64 0, .int .i64 0, .bool false, .bool false, .int .i64 0, .int .i64 0, .int .i64 0, .int .u32 0, .int .u32 0, .string { data := #[] }, .string { data := #[] }] [], none⟩,
 ⟨some s010, .alloc 2 [.int .i64 0, .int .i64 0, .bool false, .bool false, .int .i64 0, .int .i64 0, .int .i64 0, .int .u32 0, .int .u32 0, .string { data := #[] }, .string { data := #[] }], none⟩,
 ⟨none, .store 11 (.t s010) (.t s024), none⟩])
 (.seq (.region [xm s025 s000,
 ⟨some s026, .call 7 [(.t s025)], none⟩,
 xm s011 s026])
 (.seq (.seq (.region [xm s027 s011,
 ⟨some s030, .bin .eql (.t s027) (.c (.int .i64 0)), none⟩])
 (.cond (.t s030)
 (.region [⟨some s032, .load true 11 (.t s003), none⟩,
 ⟨some s033, .call 18 [(.t s032)], none⟩,
 xm s031 s033,
 ⟨some s034, .extract 0 (.t s031), none⟩,
 ⟨some s035, .extract 1 (.t s031), none⟩,
 xm s011 s035])
 (.skip)))
 (.seq (.seq (.region [xm s036 s011,
 ⟨some s037, .bin .neq (.t s036) (.c (.int .i64 0)), none⟩])
 (.cond (.t s037)
 (.seq (.regionD [0, 0, 0, 1, 11, 27, 63] [xm s040 s000,
 ⟨some s041, .load true 11 (.t s010), none⟩,
 xm s042 s011,
 xm s004 s040,
 ⟨none, .store 11 (.t s005) (.t s041), none⟩,
 ⟨some s006, .move (.c (.bool false)), none⟩,
 xm s007 s042])
 (.ret))
 (.skip)))
 (.seq (.seq (.region [xf 4 s043 s003,
 xl s044 s043,
 ⟨some s045, .bin .eql (.t s044) (.c (.int .i64 0)), none⟩,
 xm s046 s045,
 ⟨some s047, .fieldAddr 3 (.t s003), some (s046, true)⟩,
 ⟨some s050, .load false 1 (.t s047), some (s046, true)⟩,
 ⟨some s051, .un .not (.t s050), some (s046, true)⟩,
 ⟨some s052, .pick (.t s046) (.t s051) (.c (.bool false)), none⟩])
 (.cond (.t s052)
 (.seq (.regionD [0, 0, 1, 7, 15, 31] [xm s053 s000,
 ⟨some s054, .load true 11 (.t s003), none⟩,
 xm s004 s053,
 ⟨none, .store 11 (.t s005) (.t s054), none⟩,
 ⟨some s006, .move (.c (.bool true)), none⟩,
 ⟨some s007, .move (.c (.int .i64 0)), none⟩])
 (.ret))
 (.skip)))
 (.seq (.seq (.region [xf 4 s055 s003,
 xl s056 s055,
 ⟨some s057, .bin .mul (.c (.int .i64 8)) (.t s056), none⟩,
 xf 10 s060 s003,
 xl s061 s060,
 ⟨some s062, .slen (.t s061), none⟩,
 ⟨some s063, .bin .add (.t s057) (.t s062), none⟩,
 ⟨some s064, .bin .gtr (.t s063) (.c (.int .i64 65515)), none⟩])
 (.cond (.t s064)
 (.seq (.regionD [0, 0, 1, 7, 15, 31] [xm s065 s000,
 ⟨some s066, .load true 11 (.t s010), none⟩,
 xm s004 s065,
 ⟨none, .store 11 (.t s005) (.t s066), none⟩,
 ⟨some s006, .move (.c (.bool false)), none⟩,
 ⟨some s007, .move (.c (.int .i64 2)), none⟩])
 (.ret))
 (.skip)))
 (.seq (.seq (.region [xf 10 s067 s003,
 xl s070 s067,
 ⟨some s071, .sbin .eql (.t s070) (.c (.string { data := #[] })), none⟩,
 xm s072 s071,
 ⟨some s073, .fieldAddr 3 (.t s003), some (s072, false)⟩,
 ⟨some s074, .load false 1 (.t s073), some (s072, false)⟩,
 ⟨some s075, .move (.t s074), some (s072, false)⟩,
 ⟨some s076, .fieldAddr 10 (.t s003), some (s075, true)⟩,
 ⟨some s077, .load false 1 (.t s076), some (s075, true)⟩,
 ⟨some s100, .slen (.t s077), some (s075, true)⟩,
 ⟨some s101, .bin .rem (.t s100) (.c (.int .i64 8)), some (s075, true)⟩,
 ⟨some s102, .bin .gtr (.t s101) (.c (.int .i64 0)), some (s075, true)⟩,
 ⟨some s103, .pick (.t s075) (.t s102) (.c (.bool false)), some (s072, false)⟩,
 ⟨some s104, .pick (.t s072) (.c (.bool true)) (.t s103), none⟩])
 (.cond (.t s104)
 (.seq (.regionD [0, 0, 1, 7, 15, 31] [xm s105 s000,
 ⟨some s106, .load true 11 (.t s010), none⟩,
 xm s004 s105,
 ⟨none, .store 11 (.t s005) (.t s106), none⟩,
 ⟨some s006, .move (.c (.bool false)), none⟩,
 ⟨some s007, .move (.c (.int .i64 4)), none⟩])
 (.ret))
 (.skip)))
 (.seq (.region [xm s107 s000,
 ⟨some s110, .mkfn 19 [] [(.t s003)], none⟩,
 ⟨some s111, .call 12 [(.t s107), (.t s110)], none⟩,
 xm s012 s111])
 (.seq (.seq (.region [xm s112 s012,
 ⟨some s113, .bin .lss (.t s112) (.c (.int .i64 0)), none⟩])
 (.cond (.t s113)
 (.seq (.seq (.region [xm s114 s000,
 ⟨some s115, .len (.t s114), none⟩,
 ⟨some s116, .bin .eql (.t s115) (.c (.int .i64 16)), none⟩])
 (.cond (.t s116)
 (.region [xm s117 s000,
 ⟨some s120, .call 20 [(.t s117), (.c (.int .i64 0))], none⟩,
 xm s000 s120])
 (.skip)))
 (.seq (.region [xm s121 s000,
 ⟨some s122, .len (.t s121), none⟩,
 xm s012 s122])
 (.regionD [0, 1, 0, 4, 0, 16, 0, 64, 0, 256, 1020, 2044, 4095, 8191] [xm s123 s000,
 ⟨some s124, .call 21 [(.t s123)], none⟩,
 xf 7 s125 s003,
 xl s126 s125,
 xf 8 s127 s003,
 xl s130 s127,
 xf 6 s131 s003,
 xl s132 s131,
 xf 1 s133 s003,
 xl s134 s133,
 ⟨some s135, .build [.int .u32 0, .int .u32 0, .int .i64 0, .int .i64 0, .int .i64 0, .int .i64 0, .string { data := #[] }, .slice none 0 0] [(0, 1, (.t s126)), (1, 1, (.t s130)), (2, 1, (.t s132)), (3, 1, (.t s134))], none⟩,
 ⟨some s136, .buildSlice 3 1 [.int .u32 0, .int .u32 0, .int .i64 0, .int .i64 0, .int .i64 0, .int .i64 0, .string { data := #[] }, .slice none 0 0] [(0, (.t s135))] true, none⟩,
 ⟨some s137, .append 4 8 80 (.t s124) (.t s136), none⟩,
 xm s000 s137])))
 (.skip)))
 (.seq (.region [xm s140 s000,
 xm s141 s012,
 ⟨some s142, .indexSl 8 (.t s140) (.t s141), none⟩,
 ⟨some s143, .load true 8 (.t s142), none⟩,
 ⟨some s013, .alloc 5 [.int .u32 0, .int .u32 0, .int .i64 0, .int .i64 0, .int .i64 0, .int .i64 0, .string { data := #[] }, .slice none 0 0], none⟩,
 ⟨none, .store 8 (.t s013) (.t s143), none⟩])
 (.seq (.region [xf 4 s144 s003,
 xl s145 s144,
 ⟨some s146, .bin .mul (.c (.int .i64 8)) (.t s145), none⟩,
 xf 10 s147 s003,
 xl s150 s147,
 xf 3 s151 s003,
 xl s152 s151,
 ⟨some s153, .un .not (.t s152), none⟩,
 ⟨some s154, .build [.int .i64 0, .string { data := #[] }, .bool false] [(0, 1, (.t s146)), (1, 1, (.t s150)), (2, 1, (.t s153))], none⟩,
 ⟨some s014, .alloc 6 [.int .i64 0, .string { data := #[] }, .bool false], none⟩,
 ⟨none, .store 3 (.t s014) (.t s154), none⟩])
 (.seq (.seq (.region [xf 7 s155 s013,
 xl s156 s155,
 ⟨some s157, .load true 3 (.t s014), none⟩,
 ⟨some s160, .call 22 [(.t s156), (.t s157)], none⟩])
 (.cond (.t s160)
 (.seq (.regionD [0, 0, 1, 7, 15, 31] [xm s161 s000,
 ⟨some s162, .load true 11 (.t s010), none⟩,
 xm s004 s161,
 ⟨none, .store 11 (.t s005) (.t s162), none⟩,
 ⟨some s006, .move (.c (.bool false)), none⟩,
 ⟨some s007, .move (.c (.int .i64 0)), none⟩])
 (.ret))
 (.skip)))
 (.seq (.seq (.region [xf 7 s163 s013,
 xl s164 s163,
 ⟨some s165, .len (.t s164), none⟩,
 ⟨some s166, .move (.c (.int .i64 0)), none⟩])
 (.block 0
 (.loop
 (.seq (.region [⟨some s167, .bin .lss (.t s166) (.t s165), none⟩])
 (.seq (.cond (.t s167)
 (.skip)
 (.exit 0))
 (.seq (.block 1
 (.seq (.region [⟨some s170, .indexSl 3 (.t s164) (.t s166), none⟩,
 ⟨some s171, .load true 3 (.t s170), none⟩,
 ⟨some s016, .alloc 7 [.int .i64 0, .string { data := #[] }, .bool false], none⟩,
 ⟨none, .store 3 (.t s016) (.t s171), none⟩])
 (.seq (.region [xf 0 s172 s016,
 xl s173 s172,
 xf 1 s174 s016,
 xl s175 s174,
 ⟨some s176, .slen (.t s175), none⟩,
 ⟨some s177, .bin .add (.t s173) (.t s176), none⟩,
 xf 0 s200 s014,
 xl s201 s200,
 ⟨some s202, .bin .leq (.t s177) (.t s201), none⟩,
 xm s203 s202,
 ⟨some s204, .fieldAddr 0 (.t s014), some (s203, false)⟩,
 ⟨some s205, .load false 1 (.t s204), some (s203, false)⟩,
 ⟨some s206, .fieldAddr 1 (.t s014), some (s203, false)⟩,
 ⟨some s207, .load false 1 (.t s206), some (s203, false)⟩,
 ⟨some s210, .slen (.t s207), some (s203, false)⟩,
 ⟨some s211, .bin .add (.t s205) (.t s210), some (s203, false)⟩,
 ⟨some s212, .fieldAddr 0 (.t s016), some (s203, false)⟩,
 ⟨some s213, .load false 1 (.t s212), some (s203, false)⟩,
 ⟨some s214, .bin .leq (.t s211) (.t s213), some (s203, false)⟩,
 ⟨some s215, .pick (.t s203) (.c (.bool true)) (.t s214), none⟩,
 xm s017 s215])
 (.seq (.region [xm s216 s017,
 ⟨some s217, .un .not (.t s216), none⟩,
 xm s220 s217,
 ⟨some s221, .fieldAddr 2 (.t s016), some (s220, false)⟩,
 ⟨some s222, .load false 1 (.t s221), some (s220, false)⟩,
 ⟨some s223, .move (.t s222), some (s220, false)⟩,
 ⟨some s224, .fieldAddr 0 (.t s014), some (s223, true)⟩,
 ⟨some s225, .load false 1 (.t s224), some (s223, true)⟩,
 ⟨some s226, .fieldAddr 0 (.t s016), some (s223, true)⟩,
 ⟨some s227, .load false 1 (.t s226), some (s223, true)⟩,
 ⟨some s230, .bin .gtr (.t s225) (.t s227), some (s223, true)⟩,
 ⟨some s231, .pick (.t s223) (.t s230) (.c (.bool false)), some (s220, false)⟩,
 ⟨some s232, .pick (.t s220) (.c (.bool true)) (.t s231), none⟩,
 xm s233 s232,
 ⟨some s234, .fieldAddr 2 (.t s014), some (s233, false)⟩,
 ⟨some s235, .load false 1 (.t s234), some (s233, false)⟩,
 ⟨some s236, .move (.t s235), some (s233, false)⟩,
 ⟨some s237, .fieldAddr 0 (.t s016), some (s236, true)⟩,
 ⟨some s240, .load false 1 (.t s237), some (s236, true)⟩,
 ⟨some s241, .fieldAddr 0 (.t s014), some (s236, true)⟩,
 ⟨some s242, .load false 1 (.t s241), some (s236, true)⟩,
 ⟨some s243, .bin .gtr (.t s240) (.t s242), some (s236, true)⟩,
 ⟨some s244, .pick (.t s236) (.t s243) (.c (.bool false)), some (s233, false)⟩,
 ⟨some s245, .pick (.t s233) (.c (.bool true)) (.t s244), none⟩])
 (.cond (.t s245)
 (.seq (.regionD [0, 0, 3, 0, 7, 31, 63, 127] [xm s246 s000,
 xm s247 s012,
 ⟨some s250, .call 20 [(.t s246), (.t s247)], none⟩,
 ⟨some s251, .load true 11 (.t s010), none⟩,
 xm s004 s250,
 ⟨none, .store 11 (.t s005) (.t s251), none⟩,
 ⟨some s006, .move (.c (.bool false)), none⟩,
 ⟨some s007, .move (.c (.int .i64 8)), none⟩])
 (.ret))
 (.skip))))))
 (.region [⟨some s252, .bin .add (.t s166) (.c (.int .i64 1)), none⟩,
 xm s166 s252])))))))
 (.seq (.seq (.region [xf 7 s253 s013,
 xl s254 s253,
 ⟨some s255, .len (.t s254), none⟩,
 ⟨some s256, .bin .geq (.t s255) (.c (.int .i64 64)), none⟩])
 (.cond (.t s256)
 (.seq (.regionD [0, 0, 3, 0, 7, 31, 63, 127] [xm s257 s000,
 xm s260 s012,
 ⟨some s261, .call 20 [(.t s257), (.t s260)], none⟩,
 ⟨some s262, .load true 11 (.t s010), none⟩,
 xm s004 s261,
 ⟨none, .store 11 (.t s005) (.t s262), none⟩,
 ⟨some s006, .move (.c (.bool false)), none⟩,
 ⟨some s007, .move (.c (.int .i64 6)), none⟩])
 (.ret))
 (.skip)))
 (.seq (.regionD [0, 1, 3, 0, 8, 31, 63, 127] [xf 7 s263 s013,
 xl s264 s263,
 ⟨some s265, .call 23 [(.t s264)], none⟩,
 ⟨some s266, .load true 3 (.t s014), none⟩,
 ⟨some s267, .buildSlice 8 1 [.int .i64 0, .string { data := #[] }, .bool false] [(0, (.t s266))] true, none⟩,
 ⟨some s270, .append 9 3 32 (.t s265) (.t s267), none⟩,
 xf 7 s271 s013,
 ⟨none, .store 1 (.t s271) (.t s270), none⟩])
 (.seq (.region [xf 7 s272 s013,
 xl s273 s272,
 ⟨some s274, .call 24 [(.t s273), (.f 25)], none⟩])
 (.seq (.seq (.region [xf 0 s275 s014,
 xl s276 s275,
 ⟨some s277, .bin .eql (.t s276) (.c (.int .i64 0)), none⟩])
 (.cond (.t s277)
 (.regionD [0, 1, 0, 4, 0, 16, 3, 67, 207, 463, 1023, 2047] [xf 0 s300 s003,
 xl s301 s300,
 xf 5 s302 s003,
 xl s303 s302,
 xf 9 s304 s003,
 xl s305 s304,
 xf 4 s306 s013,
 ⟨none, .store 1 (.t s306) (.t s301), none⟩,
 xf 5 s307 s013,
 ⟨none, .store 1 (.t s307) (.t s303), none⟩,
 xf 6 s310 s013,
 ⟨none, .store 1 (.t s310) (.t s305), none⟩])
 (.skip)))
 (.seq (.region [⟨some s020, .move (.c (.string { data := #[] })), none⟩])
 (.seq (.seq (.region [xf 7 s311 s013,
 xl s312 s311,
 ⟨some s313, .len (.t s312), none⟩,
 ⟨some s314, .move (.c (.int .i64 0)), none⟩])
 (.block 2
 (.loop
 (.seq (.region [⟨some s315, .bin .lss (.t s314) (.t s313), none⟩])
 (.seq (.cond (.t s315)
 (.skip)
 (.exit 2))
 (.seq (.block 3
 (.seq (.region [⟨some s316, .indexSl 3 (.t s312) (.t s314), none⟩,
 ⟨some s317, .load true 3 (.t s316), none⟩,
 ⟨some s022, .alloc 10 [.int .i64 0, .string { data := #[] }, .bool false], none⟩,
 ⟨none, .store 3 (.t s022) (.t s317), none⟩])
 (.seq (.region [xf 0 s320 s022,
 xl s321 s320,
 xm s322 s020,
 ⟨some s323, .slen (.t s322), none⟩,
 ⟨some s324, .bin .eql (.t s321) (.t s323), none⟩])
 (.cond (.t s324)
 (.region [xm s325 s020,
 xf 1 s326 s022,
 xl s327 s326,
 ⟨some s330, .sbin .add (.t s325) (.t s327), none⟩,
 xm s020 s330])
 (.skip)))))
 (.region [⟨some s331, .bin .add (.t s314) (.c (.int .i64 1)), none⟩,
 xm s314 s331])))))))
 (.seq (.region [xf 7 s332 s013,
 xl s333 s332,
 xf 7 s334 s013,
 xl s335 s334,
 ⟨some s336, .len (.t s335), none⟩,
 ⟨some s337, .bin .sub (.t s336) (.c (.int .i64 1)), none⟩,
 ⟨some s340, .indexSl 3 (.t s333) (.t s337), none⟩,
 ⟨some s341, .load true 3 (.t s340), none⟩,
 ⟨some s023, .alloc 11 [.int .i64 0, .string { data := #[] }, .bool false], none⟩,
 ⟨none, .store 3 (.t s023) (.t s341), none⟩])
 (.seq (.seq (.region [xf 2 s342 s023,
 xl s343 s342,
 xm s344 s343,
 ⟨some s345, .move (.t s020), some (s344, true)⟩,
 ⟨some s346, .slen (.t s345), some (s344, true)⟩,
 ⟨some s347, .fieldAddr 0 (.t s023), some (s344, true)⟩,
 ⟨some s350, .load false 1 (.t s347), some (s344, true)⟩,
 ⟨some s351, .fieldAddr 1 (.t s023), some (s344, true)⟩,
 ⟨some s352, .load false 1 (.t s351), some (s344, true)⟩,
 ⟨some s353, .slen (.t s352), some (s344, true)⟩,
 ⟨some s354, .bin .add (.t s350) (.t s353), some (s344, true)⟩,
 ⟨some s355, .bin .eql (.t s346) (.t s354), some (s344, true)⟩,
 ⟨some s356, .pick (.t s344) (.t s355) (.c (.bool false)), none⟩])
 (.cond (.t s356)
 (.seq (.regionD [0, 0, 3, 0, 8, 0, 32, 0, 128, 0, 512, 0, 2048, 0, 8192, 0, 32768, 0, 262136, 7, 1048575, 2097151, 4194303] [xm s357 s000,
 xm s360 s012,
 ⟨some s361, .call 20 [(.t s357), (.t s360)], none⟩,
 xf 4 s362 s013,
 xl s363 s362,
 xf 1 s364 s003,
 xl s365 s364,
 xf 5 s366 s013,
 xl s367 s366,
 xf 6 s370 s003,
 xl s371 s370,
 xf 7 s372 s003,
 xl s373 s372,
 xf 8 s374 s003,
 xl s375 s374,
 xf 6 s376 s013,
 xl s377 s376,
 xm s400 s020,
 ⟨some s401, .build [.int .i64 0, .int .i64 0, .bool false, .bool false, .int .i64 0, .int .i64 0, .int .i64 0, .int .u32 0, .int .u32 0, .string { data := #[] }, .string { data := #[] }] [(0, 1, (.t s363)), (1, 1, (.t s365)), (5, 1, (.t s367)), (6, 1, (.t s371)), (7, 1, (.t s373)), (8, 1, (.t s375)), (9, 1, (.t s377)), (10, 1, (.t s400))], none⟩,
 xm s004 s361,
 ⟨none, .store 11 (.t s005) (.t s401), none⟩,
 ⟨some s006, .move (.c (.bool true)), none⟩,
 ⟨some s007, .move (.c (.int .i64 0)), none⟩])
 (.ret))
 (.skip)))
 (.seq (.region [xm s402 s000,
 ⟨some s403, .call 21 [(.t s402)], none⟩,
 xm s000 s403])
 (.seq (.region [xm s404 s000,
 xm s405 s012,
 ⟨some s406, .load true 8 (.t s013), none⟩,
 ⟨some s407, .indexSl 8 (.t s404) (.t s405), none⟩,
 ⟨none, .store 8 (.t s407) (.t s406), none⟩])
 (.seq (.regionD [0, 0, 1, 7, 15, 31] [xm s410 s000,
 ⟨some s411, .load true 11 (.t s010), none⟩,
 xm s004 s410,
 ⟨none, .store 11 (.t s005) (.t s411), none⟩,
 ⟨some s006, .move (.c (.bool false)), none⟩,
 ⟨some s007, .move (.c (.int .i64 0)), none⟩])
 (.ret)))))))))))))))))))))))))
def r_custref_Fed : List XR := [.tmp s004, .cell s005 true 11, .tmp s006, .tmp s007]
theorem ok_custref_Fed : okC Try.prog Try.f5.ntmps (bodyOf Try.f5) x_custref_Fed = true := by kernel_rfl
theorem okr_custref_Fed : okRs Try.prog Try.f5.results.toList r_custref_Fed = true := by kernel_rfl
def x_frag_Check : XC :=
 .seq (.region [⟨some s002, .move (.c (.int .i64 0)), none⟩])
 (.seq (.seq (.region [xm s007 s000,
 ⟨some s010, .len (.t s007), none⟩,
 ⟨some s011, .bin .gtr (.t s010) (.c (.int .i64 16)), none⟩])
 (.cond (.t s011)
 (.seq (.region [⟨some s002, .move (.c (.int .i64 2)), none⟩])
 (.ret))
 (.skip)))
 (.seq (.seq (.region [xm s012 s000,
 ⟨some s013, .len (.t s012), none⟩,
 ⟨some s014, .move (.c (.int .i64 0)), none⟩])
 (.block 0
 (.loop
 (.seq (.region [⟨some s015, .bin .lss (.t s014) (.t s013), none⟩])
 (.seq (.cond (.t s015)
 (.skip)
 (.exit 0))
 (.seq (.block 1
 (.seq (.region [⟨some s016, .indexSl 8 (.t s012) (.t s014), none⟩,
 ⟨some s017, .load true 8 (.t s016), none⟩,
 ⟨some s004, .alloc 0 [.int .u32 0, .int .u32 0, .int .i64 0, .int .i64 0, .int .i64 0, .int .i64 0, .string { data := #[] }, .slice none 0 0], none⟩,
 ⟨none, .store 8 (.t s004) (.t s017), none⟩])
 (.seq (.region [xf 7 s020 s004,
 xl s021 s020,
 ⟨some s022, .len (.t s021), none⟩,
 ⟨some s023, .bin .gtr (.t s022) (.c (.int .i64 64)), none⟩])
 (.cond (.t s023)
 (.seq (.region [⟨some s002, .move (.c (.int .i64 2)), none⟩])
 (.ret))
 (.skip)))))
 (.region [⟨some s024, .bin .add (.t s014) (.c (.int .i64 1)), none⟩,
 xm s014 s024])))))))
 (.seq (.seq (.region [xm s025 s000,
 ⟨some s026, .len (.t s025), none⟩,
 ⟨some s027, .move (.c (.int .i64 0)), none⟩])
 (.block 2
 (.loop
 (.seq (.region [⟨some s030, .bin .lss (.t s027) (.t s026), none⟩])
 (.seq (.cond (.t s030)
 (.skip)
 (.exit 2))
 (.seq (.block 3
 (.seq (.region [xm s031 s027,
 ⟨some s032, .indexSl 8 (.t s025) (.t s027), none⟩,
 ⟨some s033, .load true 8 (.t s032), none⟩,
 ⟨some s006, .alloc 1 [.int .u32 0, .int .u32 0, .int .i64 0, .int .i64 0, .int .i64 0, .int .i64 0, .string { data := #[] }, .slice none 0 0], none⟩,
 xm s005 s031,
 ⟨none, .store 8 (.t s006) (.t s033), none⟩])
 (.seq (.region [⟨some s034, .load true 8 (.t s006), none⟩,
 ⟨some s035, .call 26 [(.t s034)], none⟩,
 ⟨some s036, .un .not (.t s035), none⟩,
 xm s037 s036,
 ⟨some s040, .move (.t s000), some (s037, false)⟩,
 ⟨some s041, .move (.t s005), some (s037, false)⟩,
 ⟨some s042, .slice 8 (.t s040) none (some (.t s041)) none, some (s037, false)⟩,
 ⟨some s043, .mkfn 28 [] [(.t s006)], some (s037, false)⟩,
 ⟨some s044, .call 27 [(.t s042), (.t s043)], some (s037, false)⟩,
 ⟨some s045, .pick (.t s037) (.c (.bool true)) (.t s044), none⟩])
 (.cond (.t s045)
 (.seq (.region [⟨some s002, .move (.c (.int .i64 4)), none⟩])
 (.ret))
 (.skip)))))
 (.region [⟨some s046, .bin .add (.t s027) (.c (.int .i64 1)), none⟩,
 xm s027 s046])))))))
 (.seq (.region [⟨some s002, .move (.c (.int .i64 0)), none⟩])
 (.ret)))))
def r_frag_Check : List XR := [.tmp s002]
theorem ok_frag_Check : okC Try.prog Try.f6.ntmps (bodyOf Try.f6) x_frag_Check = true := by kernel_rfl
theorem okr_frag_Check : okRs Try.prog Try.f6.results.toList r_frag_Check = true := by kernel_rfl
def x_custref_PoolRight : XC :=
 .seq (.region [⟨some s002, .move (.c (.int .i64 0)), none⟩])
 (.seq (.seq (.region [xm s013 s000,
 ⟨some s014, .len (.t s013), none⟩,
 ⟨some s015, .bin .gtr (.t s014) (.c (.int .i64 16)), none⟩,
 xm s016 s015,
 ⟨some s017, .move (.t s000), some (s016, false)⟩,
 ⟨some s020, .call 27 [(.t s017), (.f 29)], some (s016, false)⟩,
 ⟨some s021, .pick (.t s016) (.c (.bool true)) (.t s020), none⟩])
 (.cond (.t s021)
 (.seq (.region [⟨some s002, .move (.c (.int .i64 2)), none⟩])
 (.ret))
 (.skip)))
 (.seq (.seq (.region [xm s022 s000,
 ⟨some s023, .len (.t s022), none⟩,
 ⟨some s024, .move (.c (.int .i64 0)), none⟩])
 (.block 0
 (.loop
 (.seq (.region [⟨some s025, .bin .lss (.t s024) (.t s023), none⟩])
 (.seq (.cond (.t s025)
 (.skip)
 (.exit 0))
 (.seq (.block 1
 (.seq (.region [xm s026 s024,
 ⟨some s027, .indexSl 8 (.t s022) (.t s024), none⟩,
 ⟨some s030, .load true 8 (.t s027), none⟩,
 ⟨some s004, .alloc 0 [.int .u32 0, .int .u32 0, .int .i64 0, .int .i64 0, .int .i64 0, .int .i64 0, .string { data := #[] }, .slice none 0 0], none⟩,
 xm s003 s026,
 ⟨none, .store 8 (.t s004) (.t s030), none⟩])
 (.seq (.region [⟨some s005, .move (.c (.int .i64 0)), none⟩])
 (.seq (.seq (.region [xf 7 s031 s004,
 xl s032 s031,
 ⟨some s033, .len (.t s032), none⟩,
 ⟨some s034, .move (.c (.int .i64 0)), none⟩])
 (.block 2
 (.loop
 (.seq (.region [⟨some s035, .bin .lss (.t s034) (.t s033), none⟩])
 (.seq (.cond (.t s035)
 (.skip)
 (.exit 2))
 (.seq (.block 3
 (.seq (.region [xm s036 s034,
 ⟨some s037, .indexSl 3 (.t s032) (.t s034), none⟩,
 ⟨some s040, .load true 3 (.t s037), none⟩,
 ⟨some s007, .alloc 1 [.int .i64 0, .string { data := #[] }, .bool false], none⟩,
 xm s006 s036,
 ⟨none, .store 3 (.t s007) (.t s040), none⟩])
 (.seq (.region [xf 1 s041 s007,
 xl s042 s041,
 ⟨some s043, .sbin .neq (.t s042) (.c (.string { data := #[] })), none⟩,
 xm s044 s043,
 ⟨some s045, .fieldAddr 0 (.t s007), some (s044, true)⟩,
 ⟨some s046, .load false 1 (.t s045), some (s044, true)⟩,
 ⟨some s047, .move (.t s005), some (s044, true)⟩,
 ⟨some s050, .bin .geq (.t s046) (.t s047), some (s044, true)⟩,
 ⟨some s051, .pick (.t s044) (.t s050) (.c (.bool false)), none⟩,
 xm s052 s051,
 ⟨some s053, .fieldAddr 0 (.t s007), some (s052, true)⟩,
 ⟨some s054, .load false 1 (.t s053), some (s052, true)⟩,
 ⟨some s055, .bin .rem (.t s054) (.c (.int .i64 8)), some (s052, true)⟩,
 ⟨some s056, .bin .eql (.t s055) (.c (.int .i64 0)), some (s052, true)⟩,
 ⟨some s057, .pick (.t s052) (.t s056) (.c (.bool false)), none⟩,
 xm s060 s057,
 ⟨some s061, .fieldAddr 0 (.t s007), some (s060, true)⟩,
 ⟨some s062, .load false 1 (.t s061), some (s060, true)⟩,
 ⟨some s063, .bin .leq (.t s062) (.c (.int .i64 65515)), some (s060, true)⟩,
 ⟨some s064, .pick (.t s060) (.t s063) (.c (.bool false)), none⟩,
 xm s065 s064,
 ⟨some s066, .fieldAddr 0 (.t s007), some (s065, true)⟩,
 ⟨some s067, .load false 1 (.t s066), some (s065, true)⟩,
 ⟨some s070, .fieldAddr 1 (.t s007), some (s065, true)⟩,
 ⟨some s071, .load false 1 (.t s070), some (s065, true)⟩,
 ⟨some s072, .slen (.t s071), some (s065, true)⟩,
 ⟨some s073, .bin .add (.t s067) (.t s072), some (s065, true)⟩,
 ⟨some s074, .bin .leq (.t s073) (.c (.int .i64 65515)), some (s065, true)⟩,
 ⟨some s075, .pick (.t s065) (.t s074) (.c (.bool false)), none⟩,
 xm s010 s075])
 (.seq (.seq (.region [xm s076 s010,
 ⟨some s077, .un .not (.t s076), none⟩,
 xm s100 s077,
 ⟨some s101, .fieldAddr 2 (.t s007), some (s100, false)⟩,
 ⟨some s102, .load false 1 (.t s101), some (s100, false)⟩,
 ⟨some s103, .move (.t s102), some (s100, false)⟩,
 ⟨some s104, .move (.t s006), some (s103, true)⟩,
 ⟨some s105, .bin .add (.t s104) (.c (.int .i64 1)), some (s103, true)⟩,
 ⟨some s106, .fieldAddr 7 (.t s004), some (s103, true)⟩,
 ⟨some s107, .load false 1 (.t s106), some (s103, true)⟩,
 ⟨some s110, .len (.t s107), some (s103, true)⟩,
 ⟨some s111, .bin .lss (.t s105) (.t s110), some (s103, true)⟩,
 ⟨some s112, .pick (.t s103) (.t s111) (.c (.bool false)), some (s100, false)⟩,
 ⟨some s113, .pick (.t s100) (.c (.bool true)) (.t s112), none⟩,
 xm s114 s113,
 ⟨some s115, .fieldAddr 2 (.t s007), some (s114, false)⟩,
 ⟨some s116, .load false 1 (.t s115), some (s114, false)⟩,
 ⟨some s117, .un .not (.t s116), some (s114, false)⟩,
 ⟨some s120, .move (.t s117), some (s114, false)⟩,
 ⟨some s121, .fieldAddr 1 (.t s007), some (s120, true)⟩,
 ⟨some s122, .load false 1 (.t s121), some (s120, true)⟩,
 ⟨some s123, .slen (.t s122), some (s120, true)⟩,
 ⟨some s124, .bin .rem (.t s123) (.c (.int .i64 8)), some (s120, true)⟩,
 ⟨some s125, .bin .gtr (.t s124) (.c (.int .i64 0)), some (s120, true)⟩,
 ⟨some s126, .pick (.t s120) (.t s125) (.c (.bool false)), some (s114, false)⟩,
 ⟨some s127, .pick (.t s114) (.c (.bool true)) (.t s126), none⟩])
 (.cond (.t s127)
 (.seq (.region [⟨some s002, .move (.c (.int .i64 4)), none⟩])
 (.ret))
 (.skip)))
 (.region [xf 0 s130 s007,
 xl s131 s130,
 xf 1 s132 s007,
 xl s133 s132,
 ⟨some s134, .slen (.t s133), none⟩,
 ⟨some s135, .bin .add (.t s131) (.t s134), none⟩,
 xm s005 s135])))))
 (.region [⟨some s136, .bin .add (.t s034) (.c (.int .i64 1)), none⟩,
 xm s034 s136])))))))
 (.seq (.seq (.region [xf 7 s137 s004,
 xl s140 s137,
 ⟨some s141, .len (.t s140), none⟩,
 ⟨some s142, .bin .eql (.t s141) (.c (.int .i64 0)), none⟩,
 xm s143 s142,
 ⟨some s144, .fieldAddr 7 (.t s004), some (s143, false)⟩,
 ⟨some s145, .load false 1 (.t s144), some (s143, false)⟩,
 ⟨some s146, .indexSl 3 (.t s145) (.c (.int .i64 0)), some (s143, false)⟩,
 ⟨some s147, .fieldAddr 0 (.t s146), some (s143, false)⟩,
 ⟨some s150, .load false 1 (.t s147), some (s143, false)⟩,
 ⟨some s151, .bin .gtr (.t s150) (.c (.int .i64 0)), some (s143, false)⟩,
 ⟨some s152, .move (.t s151), some (s143, false)⟩,
 ⟨some s153, .fieldAddr 4 (.t s004), some (s152, true)⟩,
 ⟨some s154, .load false 1 (.t s153), some (s152, true)⟩,
 ⟨some s155, .bin .neq (.t s154) (.c (.int .i64 0)), some (s152, true)⟩,
 ⟨some s156, .move (.t s155), some (s152, true)⟩,
 ⟨some s157, .fieldAddr 5 (.t s004), some (s156, false)⟩,
 ⟨some s160, .load false 1 (.t s157), some (s156, false)⟩,
 ⟨some s161, .bin .neq (.t s160) (.c (.int .i64 0)), some (s156, false)⟩,
 ⟨some s162, .pick (.t s156) (.c (.bool true)) (.t s161), some (s152, true)⟩,
 ⟨some s163, .move (.t s162), some (s152, true)⟩,
 ⟨some s164, .fieldAddr 6 (.t s004), some (s163, false)⟩,
 ⟨some s165, .load false 1 (.t s164), some (s163, false)⟩,
 ⟨some s166, .sbin .neq (.t s165) (.c (.string { data := #[] })), some (s163, false)⟩,
 ⟨some s167, .pick (.t s163) (.c (.bool true)) (.t s166), some (s152, true)⟩,
 ⟨some s170, .pick (.t s152) (.t s167) (.c (.bool false)), some (s143, false)⟩,
 ⟨some s171, .pick (.t s143) (.c (.bool true)) (.t s170), none⟩])
 (.cond (.t s171)
 (.seq (.region [⟨some s002, .move (.c (.int .i64 4)), none⟩])
 (.ret))
 (.skip)))
 (.seq (.region [xm s172 s000,
 xm s173 s003,
 ⟨some s174, .slice 8 (.t s172) none (some (.t s173)) none, none⟩,
 ⟨some s175, .len (.t s174), none⟩,
 ⟨some s176, .move (.c (.int .i64 0)), none⟩])
 (.block 4
 (.loop
 (.seq (.region [⟨some s177, .bin .lss (.t s176) (.t s175), none⟩])
 (.seq (.cond (.t s177)
 (.skip)
 (.exit 4))
 (.seq (.block 5
 (.seq (.region [⟨some s200, .indexSl 8 (.t s174) (.t s176), none⟩,
 ⟨some s201, .load true 8 (.t s200), none⟩,
 ⟨some s012, .alloc 2 [.int .u32 0, .int .u32 0, .int .i64 0, .int .i64 0, .int .i64 0, .int .i64 0, .string { data := #[] }, .slice none 0 0], none⟩,
 ⟨none, .store 8 (.t s012) (.t s201), none⟩])
 (.seq (.region [xf 0 s202 s012,
 xl s203 s202,
 xf 0 s204 s004,
 xl s205 s204,
 ⟨some s206, .bin .eql (.t s203) (.t s205), none⟩,
 xm s207 s206,
 ⟨some s210, .fieldAddr 1 (.t s012), some (s207, true)⟩,
 ⟨some s211, .load false 1 (.t s210), some (s207, true)⟩,
 ⟨some s212, .fieldAddr 1 (.t s004), some (s207, true)⟩,
 ⟨some s213, .load false 1 (.t s212), some (s207, true)⟩,
 ⟨some s214, .bin .eql (.t s211) (.t s213), some (s207, true)⟩,
 ⟨some s215, .pick (.t s207) (.t s214) (.c (.bool false)), none⟩,
 xm s216 s215,
 ⟨some s217, .fieldAddr 2 (.t s012), some (s216, true)⟩,
 ⟨some s220, .load false 1 (.t s217), some (s216, true)⟩,
 ⟨some s221, .fieldAddr 2 (.t s004), some (s216, true)⟩,
 ⟨some s222, .load false 1 (.t s221), some (s216, true)⟩,
 ⟨some s223, .bin .eql (.t s220) (.t s222), some (s216, true)⟩,
 ⟨some s224, .pick (.t s216) (.t s223) (.c (.bool false)), none⟩,
 xm s225 s224,
 ⟨some s226, .fieldAddr 3 (.t s012), some (s225, true)⟩,
 ⟨some s227, .load false 1 (.t s226), some (s225, true)⟩,
 ⟨some s230, .fieldAddr 3 (.t s004), some (s225, true)⟩,
 ⟨some s231, .load false 1 (.t s230), some (s225, true)⟩,
 ⟨some s232, .bin .eql (.t s227) (.t s231), some (s225, true)⟩,
 ⟨some s233, .pick (.t s225) (.t s232) (.c (.bool false)), none⟩])
 (.cond (.t s233)
 (.seq (.region [⟨some s002, .move (.c (.int .i64 4)), none⟩])
 (.ret))
 (.skip)))))
 (.region [⟨some s234, .bin .add (.t s176) (.c (.int .i64 1)), none⟩,
 xm s176 s234]))))))))))))
 (.region [⟨some s235, .bin .add (.t s024) (.c (.int .i64 1)), none⟩,
 xm s024 s235])))))))
 (.seq (.region [⟨some s002, .move (.c (.int .i64 0)), none⟩])
 (.ret))))
def r_custref_PoolRight : List XR := [.tmp s002]
theorem ok_custref_PoolRight : okC Try.prog Try.f7.ntmps (bodyOf Try.f7) x_custref_PoolRight = true := by kernel_rfl
theorem okr_custref_PoolRight : okRs Try.prog Try.f7.results.toList r_custref_PoolRight = true := by kernel_rfl
def x_custref_SamePool : XC :=
 .seq (.region [⟨some s004, .move (.c (.bool false)), none⟩])
 (.seq (.region [xm s005 s000,
 xm s006 s001,
 ⟨some s007, .call 30 [(.t s005), (.t s006), (.f 31)], none⟩,
 xm s004 s007])
 (.ret))
def r_custref_SamePool : List XR := [.tmp s004]
theorem ok_custref_SamePool : okC Try.prog Try.f8.ntmps (bodyOf Try.f8) x_custref_SamePool = true := by kernel_rfl
theorem okr_custref_SamePool : okRs Try.prog Try.f8.results.toList r_custref_SamePool = true := by kernel_rfl
def x_frag_own : XC :=
 .seq (.region [⟨some s002, .move (.c (.slice none 0 0)), none⟩])
 (.seq (.region [xm s006 s000,
 ⟨some s007, .len (.t s006), none⟩,
 ⟨some s010, .makeSlice 0 80 [.int .u32 0, .int .u32 0, .int .i64 0, .int .i64 0, .int .i64 0, .int .i64 0, .string { data := #[] }, .slice none 0 0] (.c (.int .i64 0)) (.t s007), none⟩,
 xm s003 s010])
 (.seq (.seq (.region [xm s011 s000,
 ⟨some s012, .len (.t s011), none⟩,
 ⟨some s013, .move (.c (.int .i64 0)), none⟩])
 (.block 0
 (.loop
 (.seq (.region [⟨some s014, .bin .lss (.t s013) (.t s012), none⟩])
 (.seq (.cond (.t s014)
 (.skip)
 (.exit 0))
 (.seq (.block 1
 (.seq (.region [⟨some s015, .indexSl 8 (.t s011) (.t s013), none⟩,
 ⟨some s016, .load true 8 (.t s015), none⟩,
 ⟨some s005, .alloc 1 [.int .u32 0, .int .u32 0, .int .i64 0, .int .i64 0, .int .i64 0, .int .i64 0, .string { data := #[] }, .slice none 0 0], none⟩,
 ⟨none, .store 8 (.t s005) (.t s016), none⟩])
 (.seq (.region [xf 7 s017 s005,
 xl s020 s017,
 ⟨some s021, .call 23 [(.t s020)], none⟩,
 xf 7 s022 s005,
 ⟨none, .store 1 (.t s022) (.t s021), none⟩])
 (.region [xm s023 s003,
 ⟨some s024, .load true 8 (.t s005), none⟩,
 ⟨some s025, .buildSlice 2 1 [.int .u32 0, .int .u32 0, .int .i64 0, .int .i64 0, .int .i64 0, .int .i64 0, .string { data := #[] }, .slice none 0 0] [(0, (.t s024))] true, none⟩,
 ⟨some s026, .append 0 8 80 (.t s023) (.t s025), none⟩,
 xm s003 s026]))))
 (.region [⟨some s027, .bin .add (.t s013) (.c (.int .i64 1)), none⟩,
 xm s013 s027])))))))
 (.seq (.region [xm s030 s003,
 xm s002 s030])
 (.ret))))
def r_frag_own : List XR := [.tmp s002]
theorem ok_frag_own : okC Try.prog Try.f9.ntmps (bodyOf Try.f9) x_frag_own = true := by kernel_rfl
theorem okr_frag_own : okRs Try.prog Try.f9.results.toList r_frag_own = true := by kernel_rfl
def x_ip_Write : XC :=
 .seq (.region [⟨some s001, .box 0 11 (.t s000), none⟩,
 ⟨some s002, .move (.c (.string { data := #[] })), none⟩,
 ⟨some s003, .move (.c (.int .i64 0)), none⟩])
 (.seq (.seq (.region [⟨some s011, .load true 11 (.t s001), none⟩,
 ⟨some s012, .call 33 [(.t s011)], none⟩,
 xm s004 s012])
 (.seq (.region [xm s013 s004,
 ⟨some s014, .bin .neq (.t s013) (.c (.int .i64 0)), none⟩])
 (.cond (.t s014)
 (.seq (.region [xm s015 s004,
 ⟨some s002, .move (.c (.string { data := #[] })), none⟩,
 xm s003 s015])
 (.ret))
 (.skip))))
 (.seq (.region [xf 9 s016 s001,
 xl s017 s016,
 ⟨some s020, .slen (.t s017), none⟩,
 ⟨some s021, .bin .add (.c (.int .i64 20)) (.t s020), none⟩,
 xm s005 s021])
 (.seq (.region [xf 4 s022 s001,
 xl s023 s022,
 xm s006 s023])
 (.seq (.seq (.region [xf 2 s024 s001,
 xl s025 s024])
 (.cond (.t s025)
 (.region [xm s026 s006,
 ⟨some s027, .bin .or (.t s026) (.c (.int .i64 16384)), none⟩,
 xm s006 s027])
 (.skip)))
 (.seq (.seq (.region [xf 3 s030 s001,
 xl s031 s030])
 (.cond (.t s031)
 (.region [xm s032 s006,
 ⟨some s033, .bin .or (.t s032) (.c (.int .i64 8192)), none⟩,
 xm s006 s033])
 (.skip)))
 (.seq (.regionD [0, 1, 3, 7, 0, 16, 48, 127, 255, 0, 0, 1024, 3072, 7680, 15872, 32767, 0, 65536, 228864, 524287, 0, 1539584, 4194303, 0, 8388608, 25165824, 0, 67108864, 201326592, 528482304, 1065353216, 2147483647, 4294967295] [xm s034 s005,
 ⟨some s035, .bin .quo (.t s034) (.c (.int .i64 4)), none⟩,
 ⟨some s036, .bin .or (.c (.int .i64 64)) (.t s035), none⟩,
 ⟨some s037, .convInt .u8 (.t s036), none⟩,
 xf 0 s040 s001,
 xl s041 s040,
 ⟨some s042, .convInt .u8 (.t s041), none⟩,
 ⟨some s043, .buildSlice 1 2 [.int .u8 0] [(0, (.t s037)), (1, (.t s042))] true, none⟩,
 ⟨some s044, .b2s (.t s043), none⟩,
 xm s045 s005,
 xf 10 s046 s001,
 xl s047 s046,
 ⟨some s050, .slen (.t s047), none⟩,
 ⟨some s051, .bin .add (.t s045) (.t s050), none⟩,
 ⟨some s052, .call 34 [(.t s051)], none⟩,
 ⟨some s053, .sbin .add (.t s044) (.t s052), none⟩,
 xf 1 s054 s001,
 xl s055 s054,
 ⟨some s056, .call 34 [(.t s055)], none⟩,
 ⟨some s057, .sbin .add (.t s053) (.t s056), none⟩,
 xm s060 s006,
 ⟨some s061, .call 34 [(.t s060)], none⟩,
 ⟨some s062, .sbin .add (.t s057) (.t s061), none⟩,
 xf 5 s063 s001,
 xl s064 s063,
 ⟨some s065, .convInt .u8 (.t s064), none⟩,
 xf 6 s066 s001,
 xl s067 s066,
 ⟨some s070, .convInt .u8 (.t s067), none⟩,
 ⟨some s071, .buildSlice 2 2 [.int .u8 0] [(0, (.t s065)), (1, (.t s070))] true, none⟩,
 ⟨some s072, .b2s (.t s071), none⟩,
 ⟨some s073, .sbin .add (.t s062) (.t s072), none⟩,
 xm s007 s073])
 (.seq (.regionD [0, 1, 3, 0, 8, 31, 63, 0, 128, 511, 1023] [xf 7 s074 s001,
 xl s075 s074,
 ⟨some s076, .call 35 [(.t s075)], none⟩,
 xf 8 s077 s001,
 xl s100 s077,
 ⟨some s101, .call 35 [(.t s100)], none⟩,
 ⟨some s102, .sbin .add (.t s076) (.t s101), none⟩,
 xf 9 s103 s001,
 xl s104 s103,
 ⟨some s105, .sbin .add (.t s102) (.t s104), none⟩,
 xm s010 s105])
 (.seq (.regionD [0, 0, 0, 6, 14, 30, 62, 127, 0, 511, 0, 1024, 4095, 8191, 16383] [xm s106 s007,
 xm s107 s007,
 xm s110 s010,
 ⟨some s111, .sbin .add (.t s107) (.t s110), none⟩,
 ⟨some s112, .call 36 [(.t s111)], none⟩,
 ⟨some s113, .convInt .i64 (.t s112), none⟩,
 ⟨some s114, .call 34 [(.t s113)], none⟩,
 ⟨some s115, .sbin .add (.t s106) (.t s114), none⟩,
 xm s116 s010,
 ⟨some s117, .sbin .add (.t s115) (.t s116), none⟩,
 xf 10 s120 s001,
 xl s121 s120,
 ⟨some s122, .sbin .add (.t s117) (.t s121), none⟩,
 xm s002 s122,
 ⟨some s003, .move (.c (.int .i64 0)), none⟩])
 (.ret)))))))))
def r_ip_Write : List XR := [.tmp s002, .tmp s003]
theorem ok_ip_Write : okC Try.prog Try.f10.ntmps (bodyOf Try.f10) x_ip_Write = true := by kernel_rfl
theorem okr_ip_Write : okRs Try.prog Try.f10.results.toList r_ip_Write = true := by kernel_rfl
def x_frag_refused : XC :=
 .seq (.region [⟨some s001, .box 0 11 (.t s000), none⟩,
 ⟨some s002, .move (.c (.int .i64 0)), none⟩])
 (.seq (.block 0
 (.seq (.region [xf 4 s004 s001,
 xl s005 s004,
 ⟨some s006, .bin .mul (.c (.int .i64 8)) (.t s005), none⟩,
 xf 10 s007 s001,
 xl s010 s007,
 ⟨some s011, .slen (.t s010), none⟩,
 ⟨some s012, .bin .add (.t s006) (.t s011), none⟩,
 ⟨some s013, .bin .gtr (.t s012) (.c (.int .i64 65515)), none⟩,
 xm s003 s013])
 (.cond (.t s003)
 (.seq (.region [⟨some s002, .move (.c (.int .i64 2)), none⟩])
 (.ret))
 (.seq (.region [xf 10 s015 s001,
 xl s016 s015,
 ⟨some s017, .sbin .eql (.t s016) (.c (.string { data := #[] })), none⟩,
 xm s020 s017,
 ⟨some s021, .fieldAddr 3 (.t s001), some (s020, false)⟩,
 ⟨some s022, .load false 1 (.t s021), some (s020, false)⟩,
 ⟨some s023, .move (.t s022), some (s020, false)⟩,
 ⟨some s024, .fieldAddr 10 (.t s001), some (s023, true)⟩,
 ⟨some s025, .load false 1 (.t s024), some (s023, true)⟩,
 ⟨some s026, .slen (.t s025), some (s023, true)⟩,
 ⟨some s027, .bin .rem (.t s026) (.c (.int .i64 8)), some (s023, true)⟩,
 ⟨some s030, .bin .neq (.t s027) (.c (.int .i64 0)), some (s023, true)⟩,
 ⟨some s031, .pick (.t s023) (.t s030) (.c (.bool false)), some (s020, false)⟩,
 ⟨some s032, .pick (.t s020) (.c (.bool true)) (.t s031), none⟩,
 xm s014 s032])
 (.cond (.t s014)
 (.seq (.region [⟨some s002, .move (.c (.int .i64 4)), none⟩])
 (.ret))
 (.skip))))))
 (.seq (.region [⟨some s002, .move (.c (.int .i64 0)), none⟩])
 (.ret)))
def r_frag_refused : List XR := [.tmp s002]
theorem ok_frag_refused : okC Try.prog Try.f11.ntmps (bodyOf Try.f11) x_frag_refused = true := by kernel_rfl
theorem okr_frag_refused : okRs Try.prog Try.f11.results.toList r_frag_refused = true := by kernel_rfl
def x_slices_IndexFunc_api_Heap : XC :=
 .seq (.region [⟨some s004, .move (.c (.int .i64 0)), none⟩])
 (.seq (.seq (.region [xm s006 s000,
 ⟨some s007, .len (.t s006), none⟩,
 ⟨some s010, .move (.c (.int .i64 0)), none⟩])
 (.block 0
 (.loop
 (.seq (.region [⟨some s011, .bin .lss (.t s010) (.t s007), none⟩])
 (.seq (.cond (.t s011)
 (.skip)
 (.exit 0))
 (.seq (.block 1
 (.seq (.region [xm s012 s010,
 xm s005 s012])
 (.seq (.region [xm s013 s001,
 xm s014 s000,
 xm s015 s005,
 ⟨some s016, .indexSl 8 (.t s014) (.t s015), none⟩,
 ⟨some s017, .load true 8 (.t s016), none⟩,
 ⟨some s020, .callv (.t s013) [(.t s017)], none⟩])
 (.cond (.t s020)
 (.seq (.region [xm s021 s005,
 xm s004 s021])
 (.ret))
 (.skip)))))
 (.region [⟨some s022, .bin .add (.t s010) (.c (.int .i64 1)), none⟩,
 xm s010 s022])))))))
 (.seq (.region [⟨some s004, .move (.c (.int .i64 (-1))), none⟩])
 (.ret)))
def r_slices_IndexFunc_api_Heap : List XR := [.tmp s004]
theorem ok_slices_IndexFunc_api_Heap : okC Try.prog Try.f12.ntmps (bodyOf Try.f12) x_slices_IndexFunc_api_Heap = true := by kernel_rfl
theorem okr_slices_IndexFunc_api_Heap : okRs Try.prog Try.f12.results.toList r_slices_IndexFunc_api_Heap = true := by kernel_rfl
def x_frag_Feed_1 : XC :=
 .seq (.region [⟨some s002, .box 0 8 (.t s000), none⟩,
 ⟨some s003, .move (.c (.bool false)), none⟩])
 (.seq (.region [⟨some s004, .load true 8 (.t s002), none⟩,
 ⟨some s005, .load true 8 (.t s001), none⟩,
 ⟨some s006, .call 14 [(.t s004), (.t s005)], none⟩,
 xm s003 s006])
 (.ret))
def r_frag_Feed_1 : List XR := [.tmp s003]
theorem ok_frag_Feed_1 : okC Try.prog Try.f13.ntmps (bodyOf Try.f13) x_frag_Feed_1 = true := by kernel_rfl
theorem okr_frag_Feed_1 : okRs Try.prog Try.f13.results.toList r_frag_Feed_1 = true := by kernel_rfl
def x_frag_sameKey : XC :=
 .seq (.region [⟨some s002, .box 0 8 (.t s000), none⟩,
 ⟨some s003, .box 1 8 (.t s001), none⟩,
 ⟨some s004, .move (.c (.bool false)), none⟩])
 (.seq (.region [xf 0 s005 s002,
 xl s006 s005,
 xf 0 s007 s003,
 xl s010 s007,
 ⟨some s011, .bin .eql (.t s006) (.t s010), none⟩,
 xm s012 s011,
 ⟨some s013, .fieldAddr 1 (.t s002), some (s012, true)⟩,
 ⟨some s014, .load false 1 (.t s013), some (s012, true)⟩,
 ⟨some s015, .fieldAddr 1 (.t s003), some (s012, true)⟩,
 ⟨some s016, .load false 1 (.t s015), some (s012, true)⟩,
 ⟨some s017, .bin .eql (.t s014) (.t s016), some (s012, true)⟩,
 ⟨some s020, .pick (.t s012) (.t s017) (.c (.bool false)), none⟩,
 xm s021 s020,
 ⟨some s022, .fieldAddr 2 (.t s002), some (s021, true)⟩,
 ⟨some s023, .load false 1 (.t s022), some (s021, true)⟩,
 ⟨some s024, .fieldAddr 2 (.t s003), some (s021, true)⟩,
 ⟨some s025, .load false 1 (.t s024), some (s021, true)⟩,
 ⟨some s026, .bin .eql (.t s023) (.t s025), some (s021, true)⟩,
 ⟨some s027, .pick (.t s021) (.t s026) (.c (.bool false)), none⟩,
 xm s030 s027,
 ⟨some s031, .fieldAddr 3 (.t s002), some (s030, true)⟩,
 ⟨some s032, .load false 1 (.t s031), some (s030, true)⟩,
 ⟨some s033, .fieldAddr 3 (.t s003), some (s030, true)⟩,
 ⟨some s034, .load false 1 (.t s033), some (s030, true)⟩,
 ⟨some s035, .bin .eql (.t s032) (.t s034), some (s030, true)⟩,
 ⟨some s036, .pick (.t s030) (.t s035) (.c (.bool false)), none⟩,
 xm s004 s036])
 (.ret))
def r_frag_sameKey : List XR := [.tmp s004]
theorem ok_frag_sameKey : okC Try.prog Try.f14.ntmps (bodyOf Try.f14) x_frag_sameKey = true := by kernel_rfl
theorem okr_frag_sameKey : okRs Try.prog Try.f14.results.toList r_frag_sameKey = true := by kernel_rfl
def x_slices_Delete_api_Heap : XC :=
 .seq (.region [⟨some s006, .move (.c (.slice none 0 0)), none⟩])
 (.seq (.region [xm s010 s000,
 xm s011 s001,
 xm s012 s002,
 xm s013 s000,
 ⟨some s014, .len (.t s013), none⟩,
 ⟨some s015, .sliceW 8 (.t s010) (some (.t s011)) (some (.t s012)) (some (.t s014)), none⟩])
 (.seq (.seq (.region [xm s016 s001,
 xm s017 s002,
 ⟨some s020, .bin .eql (.t s016) (.t s017), none⟩])
 (.cond (.t s020)
 (.seq (.region [xm s021 s000,
 xm s006 s021])
 (.ret))
 (.skip)))
 (.seq (.region [xm s022 s000,
 ⟨some s023, .len (.t s022), none⟩,
 xm s007 s023])
 (.seq (.regionD [0, 0, 3, 0, 0, 24, 63, 127] [xm s024 s000,
 xm s025 s001,
 ⟨some s026, .sliceW 8 (.t s024) none (some (.t s025)) none, none⟩,
 xm s027 s000,
 xm s030 s002,
 ⟨some s031, .slice 8 (.t s027) (some (.t s030)) none none, none⟩,
 ⟨some s032, .appendW 8 80 (.t s026) (.t s031), none⟩,
 xm s000 s032])
 (.seq (.region [xm s033 s000,
 xm s034 s000,
 ⟨some s035, .len (.t s034), none⟩,
 xm s036 s007,
 ⟨some s037, .sliceW 8 (.t s033) (some (.t s035)) (some (.t s036)) none, none⟩,
 ⟨none, .clear [.int .u32 0, .int .u32 0, .int .i64 0, .int .i64 0, .int .i64 0, .int .i64 0, .string { data := #[] }, .slice none 0 0] (.t s037), none⟩])
 (.seq (.region [xm s040 s000,
 xm s006 s040])
 (.ret)))))))
def r_slices_Delete_api_Heap : List XR := [.tmp s006]
theorem ok_slices_Delete_api_Heap : okC Try.prog Try.f15.ntmps (bodyOf Try.f15) x_slices_Delete_api_Heap = true := by kernel_rfl
theorem okr_slices_Delete_api_Heap : okRs Try.prog Try.f15.results.toList r_slices_Delete_api_Heap = true := by kernel_rfl
def x_frag_put : XC :=
 .seq (.region [⟨some s003, .box 2 3 (.t s001), none⟩,
 ⟨some s004, .move (.c (.bool false)), none⟩,
 ⟨some s005, .move (.c (.int .i64 0)), none⟩])
 (.seq (.region [⟨some s006, .move (.c (.int .i64 0)), none⟩])
 (.seq (.seq (.region [xm s011 s000,
 ⟨some s012, .nilCheck (.t s011), none⟩,
 xf 7 s013 s012,
 xl s014 s013,
 ⟨some s015, .len (.t s014), none⟩,
 ⟨some s016, .move (.c (.int .i64 0)), none⟩])
 (.block 0
 (.loop
 (.seq (.region [⟨some s017, .bin .lss (.t s016) (.t s015), none⟩])
 (.seq (.cond (.t s017)
 (.skip)
 (.exit 0))
 (.seq (.block 1
 (.seq (.region [xm s020 s016,
 ⟨some s021, .indexSl 3 (.t s014) (.t s016), none⟩,
 ⟨some s022, .load true 3 (.t s021), none⟩,
 ⟨some s010, .alloc 3 [.int .i64 0, .string { data := #[] }, .bool false], none⟩,
 xm s007 s020,
 ⟨none, .store 3 (.t s010) (.t s022), none⟩])
 (.block 2
 (.seq (.region [⟨some s024, .load true 3 (.t s010), none⟩,
 ⟨some s025, .load true 3 (.t s003), none⟩,
 ⟨some s026, .eqs false [0, 2, 1] (.t s024) (.t s025), none⟩,
 xm s023 s026])
 (.cond (.t s023)
 (.seq (.region [⟨some s004, .move (.c (.bool false)), none⟩,
 ⟨some s005, .move (.c (.int .i64 0)), none⟩])
 (.ret))
 (.seq (.seq (.regionD [0, 1, 0, 4, 15, 31, 63, 127, 63, 319, 1023, 2047, 4095] [xf 0 s030 s003,
 xl s031 s030,
 ⟨some s032, .load true 3 (.t s010), none⟩,
 ⟨some s033, .call 37 [(.t s032)], none⟩,
 ⟨some s034, .bin .lss (.t s031) (.t s033), none⟩,
 xm s035 s034,
 ⟨some s036, .fieldAddr 0 (.t s010), some (s035, true)⟩,
 ⟨some s037, .load false 1 (.t s036), some (s035, true)⟩,
 ⟨some s040, .load true 3 (.t s003), some (s035, true)⟩,
 ⟨some s041, .call 37 [(.t s040)], some (s035, true)⟩,
 ⟨some s042, .bin .lss (.t s037) (.t s041), some (s035, true)⟩,
 ⟨some s043, .pick (.t s035) (.t s042) (.c (.bool false)), none⟩,
 xm s027 s043])
 (.cond (.t s027)
 (.skip)
 (.seq (.region [xf 2 s044 s010,
 xl s045 s044,
 xm s046 s045,
 ⟨some s047, .fieldAddr 0 (.t s003), some (s046, true)⟩,
 ⟨some s050, .load false 1 (.t s047), some (s046, true)⟩,
 ⟨some s051, .fieldAddr 0 (.t s010), some (s046, true)⟩,
 ⟨some s052, .load false 1 (.t s051), some (s046, true)⟩,
 ⟨some s053, .bin .gtr (.t s050) (.t s052), some (s046, true)⟩,
 ⟨some s054, .pick (.t s046) (.t s053) (.c (.bool false)), none⟩,
 xm s027 s054])
 (.cond (.t s027)
 (.skip)
 (.region [xf 2 s055 s003,
 xl s056 s055,
 xm s057 s056,
 ⟨some s060, .fieldAddr 0 (.t s010), some (s057, true)⟩,
 ⟨some s061, .load false 1 (.t s060), some (s057, true)⟩,
 ⟨some s062, .fieldAddr 0 (.t s003), some (s057, true)⟩,
 ⟨some s063, .load false 1 (.t s062), some (s057, true)⟩,
 ⟨some s064, .bin .gtr (.t s061) (.t s063), some (s057, true)⟩,
 ⟨some s065, .pick (.t s057) (.t s064) (.c (.bool false)), none⟩,
 xm s027 s065])))))
 (.cond (.t s027)
 (.seq (.region [⟨some s004, .move (.c (.bool false)), none⟩,
 ⟨some s005, .move (.c (.int .i64 8)), none⟩])
 (.ret))
 (.seq (.region [xf 0 s067 s010,
 xl s070 s067,
 xf 0 s071 s003,
 xl s072 s071,
 ⟨some s073, .bin .lss (.t s070) (.t s072), none⟩,
 xm s066 s073])
 (.cond (.t s066)
 (.region [xm s074 s007,
 ⟨some s075, .bin .add (.t s074) (.c (.int .i64 1)), none⟩,
 xm s006 s075])
 (.skip))))))))))
 (.region [⟨some s076, .bin .add (.t s016) (.c (.int .i64 1)), none⟩,
 xm s016 s076])))))))
 (.seq (.seq (.region [xm s077 s000,
 ⟨some s100, .nilCheck (.t s077), none⟩,
 xf 7 s101 s100,
 xl s102 s101,
 ⟨some s103, .len (.t s102), none⟩,
 ⟨some s104, .bin .eql (.t s103) (.c (.int .i64 64)), none⟩])
 (.cond (.t s104)
 (.seq (.region [⟨some s004, .move (.c (.bool false)), none⟩,
 ⟨some s005, .move (.c (.int .i64 6)), none⟩])
 (.ret))
 (.skip)))
 (.seq (.regionD [0, 0, 2, 6, 14, 0, 0, 64, 254, 511, 1023, 2047] [xm s105 s000,
 xm s106 s000,
 ⟨some s107, .nilCheck (.t s106), none⟩,
 xf 7 s110 s107,
 xl s111 s110,
 xm s112 s006,
 ⟨some s113, .load true 3 (.t s003), none⟩,
 ⟨some s114, .buildSlice 4 1 [.int .i64 0, .string { data := #[] }, .bool false] [(0, (.t s113))] true, none⟩,
 ⟨some s115, .call 38 [(.t s111), (.t s112), (.t s114)], none⟩,
 ⟨some s116, .nilCheck (.t s105), none⟩,
 xf 7 s117 s116,
 ⟨none, .store 1 (.t s117) (.t s115), none⟩])
 (.seq (.region [⟨some s004, .move (.c (.bool true)), none⟩,
 ⟨some s005, .move (.c (.int .i64 0)), none⟩])
 (.ret))))))
def r_frag_put : List XR := [.tmp s004, .tmp s005]
theorem ok_frag_put : okC Try.prog Try.f16.ntmps (bodyOf Try.f16) x_frag_put = true := by kernel_rfl
theorem okr_frag_put : okRs Try.prog Try.f16.results.toList r_frag_put = true := by kernel_rfl
def x_frag_whole : XC :=
 .seq (.region [⟨some s001, .box 0 8 (.t s000), none⟩,
 ⟨some s002, .move (.c (.string { data := #[] })), none⟩,
 ⟨some s003, .move (.c (.bool false)), none⟩])
 (.seq (.region [⟨some s004, .allocT 1 [.pointer none, .slice none 0 0] 67, none⟩])
 (.seq (.seq (.region [xf 7 s007 s001,
 xl s010 s007,
 ⟨some s011, .len (.t s010), none⟩,
 ⟨some s012, .move (.c (.int .i64 0)), none⟩])
 (.block 0
 (.loop
 (.seq (.region [⟨some s013, .bin .lss (.t s012) (.t s011), none⟩])
 (.seq (.cond (.t s013)
 (.skip)
 (.exit 0))
 (.seq (.block 1
 (.seq (.region [⟨some s014, .indexSl 3 (.t s010) (.t s012), none⟩,
 ⟨some s015, .load true 3 (.t s014), none⟩,
 ⟨some s006, .alloc 2 [.int .i64 0, .string { data := #[] }, .bool false], none⟩,
 ⟨none, .store 3 (.t s006) (.t s015), none⟩])
 (.seq (.seq (.regionD [0, 1, 0, 7] [xf 0 s016 s006,
 xl s017 s016,
 ⟨some s020, .call 39 [(.t s004)], none⟩,
 ⟨some s021, .bin .neq (.t s017) (.t s020), none⟩])
 (.cond (.t s021)
 (.seq (.region [⟨some s002, .move (.c (.string { data := #[] })), none⟩,
 ⟨some s003, .move (.c (.bool false)), none⟩])
 (.ret))
 (.skip)))
 (.region [xf 1 s022 s006,
 xl s023 s022,
 ⟨some s024, .call 40 [(.t s004), (.t s023)], none⟩]))))
 (.region [⟨some s025, .bin .add (.t s012) (.c (.int .i64 1)), none⟩,
 xm s012 s025])))))))
 (.seq (.regionD [0, 0, 2, 0, 8, 24, 56, 126, 254, 510, 1, 2047] [⟨some s026, .call 41 [(.t s004)], none⟩,
 xf 7 s027 s001,
 xl s030 s027,
 xf 7 s031 s001,
 xl s032 s031,
 ⟨some s033, .len (.t s032), none⟩,
 ⟨some s034, .bin .sub (.t s033) (.c (.int .i64 1)), none⟩,
 ⟨some s035, .indexSl 3 (.t s030) (.t s034), none⟩,
 xf 2 s036 s035,
 xl s037 s036,
 xm s002 s026,
 xm s003 s037])
 (.ret))))
def r_frag_whole : List XR := [.tmp s002, .tmp s003]
theorem ok_frag_whole : okC Try.prog Try.f17.ntmps (bodyOf Try.f17) x_frag_whole = true := by kernel_rfl
theorem okr_frag_whole : okRs Try.prog Try.f17.results.toList r_frag_whole = true := by kernel_rfl
def x_custref_PacketText : XC :=
 .seq (.region [⟨some s001, .box 0 11 (.t s000), none⟩,
 ⟨some s002, .move (.c (.string { data := #[] })), none⟩,
 ⟨some s003, .move (.c (.int .i64 0)), none⟩])
 (.seq (.region [xf 9 s007 s001,
 xl s010 s007,
 ⟨some s011, .slen (.t s010), none⟩,
 xm s004 s011])
 (.seq (.seq (.region [xf 0 s012 s001,
 xl s013 s012,
 ⟨some s014, .call 42 [(.t s013), (.c (.int .i64 0)), (.c (.int .i64 255))], none⟩,
 ⟨some s015, .un .not (.t s014), none⟩,
 xm s016 s015,
 ⟨some s017, .fieldAddr 5 (.t s001), some (s016, false)⟩,
 ⟨some s020, .load false 1 (.t s017), some (s016, false)⟩,
 ⟨some s021, .call 42 [(.t s020), (.c (.int .i64 0)), (.c (.int .i64 255))], some (s016, false)⟩,
 ⟨some s022, .un .not (.t s021), some (s016, false)⟩,
 ⟨some s023, .pick (.t s016) (.c (.bool true)) (.t s022), none⟩,
 xm s024 s023,
 ⟨some s025, .fieldAddr 6 (.t s001), some (s024, false)⟩,
 ⟨some s026, .load false 1 (.t s025), some (s024, false)⟩,
 ⟨some s027, .call 42 [(.t s026), (.c (.int .i64 0)), (.c (.int .i64 255))], some (s024, false)⟩,
 ⟨some s030, .un .not (.t s027), some (s024, false)⟩,
 ⟨some s031, .pick (.t s024) (.c (.bool true)) (.t s030), none⟩,
 xm s032 s031,
 ⟨some s033, .fieldAddr 1 (.t s001), some (s032, false)⟩,
 ⟨some s034, .load false 1 (.t s033), some (s032, false)⟩,
 ⟨some s035, .call 42 [(.t s034), (.c (.int .i64 0)), (.c (.int .i64 65535))], some (s032, false)⟩,
 ⟨some s036, .un .not (.t s035), some (s032, false)⟩,
 ⟨some s037, .pick (.t s032) (.c (.bool true)) (.t s036), none⟩,
 xm s040 s037,
 ⟨some s041, .fieldAddr 4 (.t s001), some (s040, false)⟩,
 ⟨some s042, .load false 1 (.t s041), some (s040, false)⟩,
 ⟨some s043, .call 42 [(.t s042), (.c (.int .i64 0)), (.c (.int .i64 8191))], some (s040, false)⟩,
 ⟨some s044, .un .not (.t s043), some (s040, false)⟩,
 ⟨some s045, .pick (.t s040) (.c (.bool true)) (.t s044), none⟩,
 xm s046 s045,
 ⟨some s047, .move (.t s004), some (s046, false)⟩,
 ⟨some s050, .bin .gtr (.t s047) (.c (.int .i64 40)), some (s046, false)⟩,
 ⟨some s051, .pick (.t s046) (.c (.bool true)) (.t s050), none⟩,
 xm s052 s051,
 ⟨some s053, .move (.t s004), some (s052, false)⟩,
 ⟨some s054, .bin .rem (.t s053) (.c (.int .i64 4)), some (s052, false)⟩,
 ⟨some s055, .bin .gtr (.t s054) (.c (.int .i64 0)), some (s052, false)⟩,
 ⟨some s056, .pick (.t s052) (.c (.bool true)) (.t s055), none⟩])
 (.cond (.t s056)
 (.seq (.region [⟨some s002, .move (.c (.string { data := #[] })), none⟩,
 ⟨some s003, .move (.c (.int .i64 1)), none⟩])
 (.ret))
 (.skip)))
 (.seq (.region [xf 4 s057 s001,
 xl s060 s057,
 xm s005 s060])
 (.seq (.seq (.region [xf 2 s061 s001,
 xl s062 s061])
 (.cond (.t s062)
 (.seq (.seq (.region [xf 3 s063 s001,
 xl s064 s063,
 xm s065 s064,
 ⟨some s066, .fieldAddr 4 (.t s001), some (s065, false)⟩,
 ⟨some s067, .load false 1 (.t s066), some (s065, false)⟩,
 ⟨some s070, .bin .gtr (.t s067) (.c (.int .i64 0)), some (s065, false)⟩,
 ⟨some s071, .pick (.t s065) (.c (.bool true)) (.t s070), none⟩])
 (.cond (.t s071)
 (.seq (.region [⟨some s002, .move (.c (.string { data := #[] })), none⟩,
 ⟨some s003, .move (.c (.int .i64 4)), none⟩])
 (.ret))
 (.skip)))
 (.region [⟨some s005, .move (.c (.int .i64 16384)), none⟩]))
 (.skip)))
 (.seq (.seq (.region [xf 3 s072 s001,
 xl s073 s072])
 (.cond (.t s073)
 (.region [xm s074 s005,
 ⟨some s075, .bin .add (.t s074) (.c (.int .i64 8192)), none⟩,
 xm s005 s075])
 (.skip)))
 (.seq (.seq (.region [xm s076 s004,
 ⟨some s077, .bin .add (.c (.int .i64 20)) (.t s076), none⟩,
 xf 10 s100 s001,
 xl s101 s100,
 ⟨some s102, .slen (.t s101), none⟩,
 ⟨some s103, .bin .add (.t s077) (.t s102), none⟩,
 ⟨some s104, .bin .gtr (.t s103) (.c (.int .i64 65535)), none⟩])
 (.cond (.t s104)
 (.seq (.region [⟨some s002, .move (.c (.string { data := #[] })), none⟩,
 ⟨some s003, .move (.c (.int .i64 2)), none⟩])
 (.ret))
 (.skip)))
 (.seq (.regionD [0, 1, 3, 0, 8, 31, 63, 0, 128, 0, 512, 1536, 3968, 8191, 16383, 0, 32768, 114687, 262143, 0, 770047, 2097151, 0, 4194304, 0, 16777216, 62914560, 131842047, 268435455, 0, 536870912, 1876672511, 4294967295, 0, 8589934592, 29793959935, 68719476735, 0, 137438953472, 549755813887, 1099511627775] [xm s105 s004,
 ⟨some s106, .bin .quo (.t s105) (.c (.int .i64 4)), none⟩,
 ⟨some s107, .bin .add (.c (.int .i64 69)) (.t s106), none⟩,
 xf 0 s110 s001,
 xl s111 s110,
 ⟨some s112, .buildSlice 1 2 [.int .i64 0] [(0, (.t s107)), (1, (.t s111))] true, none⟩,
 ⟨some s113, .call 43 [(.t s112)], none⟩,
 xm s114 s004,
 ⟨some s115, .bin .add (.c (.int .i64 20)) (.t s114), none⟩,
 xf 10 s116 s001,
 xl s117 s116,
 ⟨some s120, .slen (.t s117), none⟩,
 ⟨some s121, .bin .add (.t s115) (.t s120), none⟩,
 ⟨some s122, .call 44 [(.t s121)], none⟩,
 ⟨some s123, .sbin .add (.t s113) (.t s122), none⟩,
 xf 1 s124 s001,
 xl s125 s124,
 ⟨some s126, .call 44 [(.t s125)], none⟩,
 ⟨some s127, .sbin .add (.t s123) (.t s126), none⟩,
 xm s130 s005,
 ⟨some s131, .call 44 [(.t s130)], none⟩,
 ⟨some s132, .sbin .add (.t s127) (.t s131), none⟩,
 xf 5 s133 s001,
 xl s134 s133,
 xf 6 s135 s001,
 xl s136 s135,
 ⟨some s137, .buildSlice 2 4 [.int .i64 0] [(0, (.t s134)), (1, (.t s136)), (2, (.c (.int .i64 0))), (3, (.c (.int .i64 0)))] true, none⟩,
 ⟨some s140, .call 43 [(.t s137)], none⟩,
 ⟨some s141, .sbin .add (.t s132) (.t s140), none⟩,
 xf 7 s142 s001,
 xl s143 s142,
 ⟨some s144, .call 45 [(.t s143)], none⟩,
 ⟨some s145, .sbin .add (.t s141) (.t s144), none⟩,
 xf 8 s146 s001,
 xl s147 s146,
 ⟨some s150, .call 45 [(.t s147)], none⟩,
 ⟨some s151, .sbin .add (.t s145) (.t s150), none⟩,
 xf 9 s152 s001,
 xl s153 s152,
 ⟨some s154, .sbin .add (.t s151) (.t s153), none⟩,
 xm s006 s154])
 (.seq (.regionD [0, 1, 0, 4, 12, 31, 0, 64, 255, 0, 512, 2047, 4095, 8191] [xm s155 s006,
 ⟨some s156, .substr (.t s155) none (some (.c (.int .i64 10))), none⟩,
 xm s157 s006,
 ⟨some s160, .call 46 [(.t s157)], none⟩,
 ⟨some s161, .call 44 [(.t s160)], none⟩,
 ⟨some s162, .sbin .add (.t s156) (.t s161), none⟩,
 xm s163 s006,
 ⟨some s164, .substr (.t s163) (some (.c (.int .i64 12))) none, none⟩,
 ⟨some s165, .sbin .add (.t s162) (.t s164), none⟩,
 xf 10 s166 s001,
 xl s167 s166,
 ⟨some s170, .sbin .add (.t s165) (.t s167), none⟩,
 xm s002 s170,
 ⟨some s003, .move (.c (.int .i64 0)), none⟩])
 (.ret)))))))))
def r_custref_PacketText : List XR := [.tmp s002, .tmp s003]
theorem ok_custref_PacketText : okC Try.prog Try.f18.ntmps (bodyOf Try.f18) x_custref_PacketText = true := by kernel_rfl
theorem okr_custref_PacketText : okRs Try.prog Try.f18.results.toList r_custref_PacketText = true := by kernel_rfl
def x_custref_Fed_1 : XC :=
 .seq (.region [⟨some s002, .box 0 8 (.t s000), none⟩,
 ⟨some s003, .move (.c (.bool false)), none⟩])
 (.seq (.region [xf 0 s004 s002,
 xl s005 s004,
 xf 7 s006 s001,
 xl s007 s006,
 ⟨some s010, .bin .eql (.t s005) (.t s007), none⟩,
 xm s011 s010,
 ⟨some s012, .fieldAddr 1 (.t s002), some (s011, true)⟩,
 ⟨some s013, .load false 1 (.t s012), some (s011, true)⟩,
 ⟨some s014, .fieldAddr 8 (.t s001), some (s011, true)⟩,
 ⟨some s015, .load false 1 (.t s014), some (s011, true)⟩,
 ⟨some s016, .bin .eql (.t s013) (.t s015), some (s011, true)⟩,
 ⟨some s017, .pick (.t s011) (.t s016) (.c (.bool false)), none⟩,
 xm s020 s017,
 ⟨some s021, .fieldAddr 2 (.t s002), some (s020, true)⟩,
 ⟨some s022, .load false 1 (.t s021), some (s020, true)⟩,
 ⟨some s023, .fieldAddr 6 (.t s001), some (s020, true)⟩,
 ⟨some s024, .load false 1 (.t s023), some (s020, true)⟩,
 ⟨some s025, .bin .eql (.t s022) (.t s024), some (s020, true)⟩,
 ⟨some s026, .pick (.t s020) (.t s025) (.c (.bool false)), none⟩,
 xm s027 s026,
 ⟨some s030, .fieldAddr 3 (.t s002), some (s027, true)⟩,
 ⟨some s031, .load false 1 (.t s030), some (s027, true)⟩,
 ⟨some s032, .fieldAddr 1 (.t s001), some (s027, true)⟩,
 ⟨some s033, .load false 1 (.t s032), some (s027, true)⟩,
 ⟨some s034, .bin .eql (.t s031) (.t s033), some (s027, true)⟩,
 ⟨some s035, .pick (.t s027) (.t s034) (.c (.bool false)), none⟩,
 xm s003 s035])
 (.ret))
def r_custref_Fed_1 : List XR := [.tmp s003]
theorem ok_custref_Fed_1 : okC Try.prog Try.f19.ntmps (bodyOf Try.f19) x_custref_Fed_1 = true := by kernel_rfl
theorem okr_custref_Fed_1 : okRs Try.prog Try.f19.results.toList r_custref_Fed_1 = true := by kernel_rfl
def x_custref_without : XC :=
 .seq (.region [⟨some s004, .move (.c (.slice none 0 0)), none⟩])
 (.seq (.regionD [0, 0, 3, 7, 0, 0, 32, 112, 255, 511] [xm s005 s000,
 xm s006 s001,
 ⟨some s007, .slice 8 (.t s005) none (some (.t s006)) none, none⟩,
 ⟨some s010, .call 21 [(.t s007)], none⟩,
 xm s011 s000,
 xm s012 s001,
 ⟨some s013, .bin .add (.t s012) (.c (.int .i64 1)), none⟩,
 ⟨some s014, .slice 8 (.t s011) (some (.t s013)) none none, none⟩,
 ⟨some s015, .append 0 8 80 (.t s010) (.t s014), none⟩,
 xm s004 s015])
 (.ret))
def r_custref_without : List XR := [.tmp s004]
theorem ok_custref_without : okC Try.prog Try.f20.ntmps (bodyOf Try.f20) x_custref_without = true := by kernel_rfl
theorem okr_custref_without : okRs Try.prog Try.f20.results.toList r_custref_without = true := by kernel_rfl
def x_slices_Clone_api_Heap : XC :=
 .seq (.region [⟨some s002, .move (.c (.slice none 0 0)), none⟩])
 (.seq (.seq (.region [xm s003 s000,
 ⟨some s004, .isnil false (.t s003), none⟩])
 (.cond (.t s004)
 (.seq (.region [⟨some s002, .move (.c (.slice none 0 0)), none⟩])
 (.ret))
 (.skip)))
 (.seq (.region [⟨some s005, .buildSlice 0 0 [.int .u32 0, .int .u32 0, .int .i64 0, .int .i64 0, .int .i64 0, .int .i64 0, .string { data := #[] }, .slice none 0 0] [] true, none⟩,
 xm s006 s000,
 ⟨some s007, .append 1 8 80 (.t s005) (.t s006), none⟩,
 xm s002 s007])
 (.ret)))
def r_slices_Clone_api_Heap : List XR := [.tmp s002]
theorem ok_slices_Clone_api_Heap : okC Try.prog Try.f21.ntmps (bodyOf Try.f21) x_slices_Clone_api_Heap = true := by kernel_rfl
theorem okr_slices_Clone_api_Heap : okRs Try.prog Try.f21.results.toList r_slices_Clone_api_Heap = true := by kernel_rfl
def x_slices_Contains_api_Part : XC :=
 .seq (.region [⟨some s003, .box 0 3 (.t s001), none⟩,
 ⟨some s004, .move (.c (.bool false)), none⟩])
 (.seq (.region [xm s005 s000,
 ⟨some s006, .load true 3 (.t s003), none⟩,
 ⟨some s007, .call 47 [(.t s005), (.t s006)], none⟩,
 ⟨some s010, .bin .geq (.t s007) (.c (.int .i64 0)), none⟩,
 xm s004 s010])
 (.ret))
def r_slices_Contains_api_Part : List XR := [.tmp s004]
theorem ok_slices_Contains_api_Part : okC Try.prog Try.f22.ntmps (bodyOf Try.f22) x_slices_Contains_api_Part = true := by kernel_rfl
theorem okr_slices_Contains_api_Part : okRs Try.prog Try.f22.results.toList r_slices_Contains_api_Part = true := by kernel_rfl
def x_slices_Clone_api_Part : XC :=
 .seq (.region [⟨some s002, .move (.c (.slice none 0 0)), none⟩])
 (.seq (.seq (.region [xm s003 s000,
 ⟨some s004, .isnil false (.t s003), none⟩])
 (.cond (.t s004)
 (.seq (.region [⟨some s002, .move (.c (.slice none 0 0)), none⟩])
 (.ret))
 (.skip)))
 (.seq (.region [⟨some s005, .buildSlice 0 0 [.int .i64 0, .string { data := #[] }, .bool false] [] true, none⟩,
 xm s006 s000,
 ⟨some s007, .append 1 3 32 (.t s005) (.t s006), none⟩,
 xm s002 s007])
 (.ret)))
def r_slices_Clone_api_Part : List XR := [.tmp s002]
theorem ok_slices_Clone_api_Part : okC Try.prog Try.f23.ntmps (bodyOf Try.f23) x_slices_Clone_api_Part = true := by kernel_rfl
theorem okr_slices_Clone_api_Part : okRs Try.prog Try.f23.results.toList r_slices_Clone_api_Part = true := by kernel_rfl
def x_custref_Fed_2 : XC :=
 .seq (.region [⟨some s002, .box 0 3 (.t s000), none⟩,
 ⟨some s003, .box 1 3 (.t s001), none⟩,
 ⟨some s004, .move (.c (.int .i64 0)), none⟩])
 (.seq (.region [xf 0 s005 s002,
 xl s006 s005,
 xf 0 s007 s003,
 xl s010 s007,
 ⟨some s011, .bin .sub (.t s006) (.t s010), none⟩,
 xm s004 s011])
 (.ret))
def r_custref_Fed_2 : List XR := [.tmp s004]
theorem ok_custref_Fed_2 : okC Try.prog Try.f25.ntmps (bodyOf Try.f25) x_custref_Fed_2 = true := by kernel_rfl
theorem okr_custref_Fed_2 : okRs Try.prog Try.f25.results.toList r_custref_Fed_2 = true := by kernel_rfl
def x_frag_rightHeap : XC :=
 .seq (.region [⟨some s001, .box 0 8 (.t s000), none⟩,
 ⟨some s002, .move (.c (.bool false)), none⟩])
 (.seq (.seq (.region [xf 7 s005 s001,
 xl s006 s005,
 ⟨some s007, .len (.t s006), none⟩,
 ⟨some s010, .move (.c (.int .i64 0)), none⟩])
 (.block 0
 (.loop
 (.seq (.region [⟨some s011, .bin .lss (.t s010) (.t s007), none⟩])
 (.seq (.cond (.t s011)
 (.skip)
 (.exit 0))
 (.seq (.block 1
 (.seq (.region [xm s012 s010,
 ⟨some s013, .indexSl 3 (.t s006) (.t s010), none⟩,
 ⟨some s014, .load true 3 (.t s013), none⟩,
 ⟨some s004, .alloc 1 [.int .i64 0, .string { data := #[] }, .bool false], none⟩,
 xm s003 s012,
 ⟨none, .store 3 (.t s004) (.t s014), none⟩])
 (.seq (.regionD [0, 1, 3, 7, 15, 31, 63, 127, 255, 127, 639, 2047, 4095, 8191, 16383, 32767, 65535, 32767, 163839, 32767, 557055, 1998847, 4095999, 8290303, 16777215, 33554431, 67108863, 134217727] [⟨some s015, .load true 3 (.t s004), none⟩,
 ⟨some s016, .call 50 [(.t s015)], none⟩,
 ⟨some s017, .un .not (.t s016), none⟩,
 xm s020 s017,
 ⟨some s021, .move (.t s003), some (s020, false)⟩,
 ⟨some s022, .bin .gtr (.t s021) (.c (.int .i64 0)), some (s020, false)⟩,
 ⟨some s023, .move (.t s022), some (s020, false)⟩,
 ⟨some s024, .fieldAddr 7 (.t s001), some (s023, true)⟩,
 ⟨some s025, .load false 1 (.t s024), some (s023, true)⟩,
 ⟨some s026, .move (.t s003), some (s023, true)⟩,
 ⟨some s027, .bin .sub (.t s026) (.c (.int .i64 1)), some (s023, true)⟩,
 ⟨some s030, .indexSl 3 (.t s025) (.t s027), some (s023, true)⟩,
 ⟨some s031, .fieldAddr 2 (.t s030), some (s023, true)⟩,
 ⟨some s032, .load false 1 (.t s031), some (s023, true)⟩,
 ⟨some s033, .move (.t s032), some (s023, true)⟩,
 ⟨some s034, .fieldAddr 0 (.t s004), some (s033, false)⟩,
 ⟨some s035, .load false 1 (.t s034), some (s033, false)⟩,
 ⟨some s036, .fieldAddr 7 (.t s001), some (s033, false)⟩,
 ⟨some s037, .load false 1 (.t s036), some (s033, false)⟩,
 ⟨some s040, .move (.t s003), some (s033, false)⟩,
 ⟨some s041, .bin .sub (.t s040) (.c (.int .i64 1)), some (s033, false)⟩,
 ⟨some s042, .indexSl 3 (.t s037) (.t s041), some (s033, false)⟩,
 ⟨some s043, .load true 3 (.t s042), some (s033, false)⟩,
 ⟨some s044, .call 37 [(.t s043)], some (s033, false)⟩,
 ⟨some s045, .bin .lss (.t s035) (.t s044), some (s033, false)⟩,
 ⟨some s046, .pick (.t s033) (.c (.bool true)) (.t s045), some (s023, true)⟩,
 ⟨some s047, .pick (.t s023) (.t s046) (.c (.bool false)), some (s020, false)⟩,
 ⟨some s050, .pick (.t s020) (.c (.bool true)) (.t s047), none⟩])
 (.cond (.t s050)
 (.seq (.region [⟨some s002, .move (.c (.bool false)), none⟩])
 (.ret))
 (.skip)))))
 (.region [⟨some s051, .bin .add (.t s010) (.c (.int .i64 1)), none⟩,
 xm s010 s051])))))))
 (.seq (.seq (.region [xf 7 s052 s001,
 xl s053 s052,
 ⟨some s054, .len (.t s053), none⟩,
 ⟨some s055, .bin .eql (.t s054) (.c (.int .i64 0)), none⟩])
 (.cond (.t s055)
 (.seq (.region [⟨some s002, .move (.c (.bool false)), none⟩])
 (.ret))
 (.skip)))
 (.seq (.region [xf 7 s056 s001,
 xl s057 s056,
 ⟨some s060, .indexSl 3 (.t s057) (.c (.int .i64 0)), none⟩,
 xf 0 s061 s060,
 xl s062 s061,
 ⟨some s063, .bin .eql (.t s062) (.c (.int .i64 0)), none⟩,
 xm s064 s063,
 ⟨some s065, .fieldAddr 4 (.t s001), some (s064, false)⟩,
 ⟨some s066, .load false 1 (.t s065), some (s064, false)⟩,
 ⟨some s067, .bin .eql (.t s066) (.c (.int .i64 0)), some (s064, false)⟩,
 ⟨some s070, .move (.t s067), some (s064, false)⟩,
 ⟨some s071, .fieldAddr 5 (.t s001), some (s070, true)⟩,
 ⟨some s072, .load false 1 (.t s071), some (s070, true)⟩,
 ⟨some s073, .bin .eql (.t s072) (.c (.int .i64 0)), some (s070, true)⟩,
 ⟨some s074, .pick (.t s070) (.t s073) (.c (.bool false)), some (s064, false)⟩,
 ⟨some s075, .move (.t s074), some (s064, false)⟩,
 ⟨some s076, .fieldAddr 6 (.t s001), some (s075, true)⟩,
 ⟨some s077, .load false 1 (.t s076), some (s075, true)⟩,
 ⟨some s100, .sbin .eql (.t s077) (.c (.string { data := #[] })), some (s075, true)⟩,
 ⟨some s101, .pick (.t s075) (.t s100) (.c (.bool false)), some (s064, false)⟩,
 ⟨some s102, .pick (.t s064) (.c (.bool true)) (.t s101), none⟩,
 xm s002 s102])
 (.ret))))
def r_frag_rightHeap : List XR := [.tmp s002]
theorem ok_frag_rightHeap : okC Try.prog Try.f26.ntmps (bodyOf Try.f26) x_frag_rightHeap = true := by kernel_rfl
theorem okr_frag_rightHeap : okRs Try.prog Try.f26.results.toList r_frag_rightHeap = true := by kernel_rfl
def x_slices_ContainsFunc_api_Heap : XC :=
 .seq (.region [⟨some s004, .move (.c (.bool false)), none⟩])
 (.seq (.region [xm s005 s000,
 xm s006 s001,
 ⟨some s007, .call 12 [(.t s005), (.t s006)], none⟩,
 ⟨some s010, .bin .geq (.t s007) (.c (.int .i64 0)), none⟩,
 xm s004 s010])
 (.ret))
def r_slices_ContainsFunc_api_Heap : List XR := [.tmp s004]
theorem ok_slices_ContainsFunc_api_Heap : okC Try.prog Try.f27.ntmps (bodyOf Try.f27) x_slices_ContainsFunc_api_Heap = true := by kernel_rfl
theorem okr_slices_ContainsFunc_api_Heap : okRs Try.prog Try.f27.results.toList r_slices_ContainsFunc_api_Heap = true := by kernel_rfl
def x_frag_Check_1 : XC :=
 .seq (.region [⟨some s002, .box 0 8 (.t s000), none⟩,
 ⟨some s003, .move (.c (.bool false)), none⟩])
 (.seq (.region [⟨some s004, .load true 8 (.t s002), none⟩,
 ⟨some s005, .load true 8 (.t s001), none⟩,
 ⟨some s006, .call 14 [(.t s004), (.t s005)], none⟩,
 xm s003 s006])
 (.ret))
def r_frag_Check_1 : List XR := [.tmp s003]
theorem ok_frag_Check_1 : okC Try.prog Try.f28.ntmps (bodyOf Try.f28) x_frag_Check_1 = true := by kernel_rfl
theorem okr_frag_Check_1 : okRs Try.prog Try.f28.results.toList r_frag_Check_1 = true := by kernel_rfl
def x_custref_PoolRight_1 : XC :=
 .seq (.region [⟨some s001, .box 0 8 (.t s000), none⟩,
 ⟨some s002, .move (.c (.bool false)), none⟩])
 (.seq (.region [xf 7 s003 s001,
 xl s004 s003,
 ⟨some s005, .len (.t s004), none⟩,
 ⟨some s006, .bin .gtr (.t s005) (.c (.int .i64 64)), none⟩,
 xm s002 s006])
 (.ret))
def r_custref_PoolRight_1 : List XR := [.tmp s002]
theorem ok_custref_PoolRight_1 : okC Try.prog Try.f29.ntmps (bodyOf Try.f29) x_custref_PoolRight_1 = true := by kernel_rfl
theorem okr_custref_PoolRight_1 : okRs Try.prog Try.f29.results.toList r_custref_PoolRight_1 = true := by kernel_rfl
def x_slices_EqualFunc_api_Heap : XC :=
 .seq (.region [⟨some s006, .move (.c (.bool false)), none⟩])
 (.seq (.seq (.region [xm s012 s000,
 ⟨some s013, .len (.t s012), none⟩,
 xm s014 s001,
 ⟨some s015, .len (.t s014), none⟩,
 ⟨some s016, .bin .neq (.t s013) (.t s015), none⟩])
 (.cond (.t s016)
 (.seq (.region [⟨some s006, .move (.c (.bool false)), none⟩])
 (.ret))
 (.skip)))
 (.seq (.seq (.region [xm s017 s000,
 ⟨some s020, .len (.t s017), none⟩,
 ⟨some s021, .move (.c (.int .i64 0)), none⟩])
 (.block 0
 (.loop
 (.seq (.region [⟨some s022, .bin .lss (.t s021) (.t s020), none⟩])
 (.seq (.cond (.t s022)
 (.skip)
 (.exit 0))
 (.seq (.block 1
 (.seq (.region [xm s023 s021,
 ⟨some s024, .indexSl 8 (.t s017) (.t s021), none⟩,
 ⟨some s025, .load true 8 (.t s024), none⟩,
 ⟨some s010, .alloc 0 [.int .u32 0, .int .u32 0, .int .i64 0, .int .i64 0, .int .i64 0, .int .i64 0, .string { data := #[] }, .slice none 0 0], none⟩,
 xm s007 s023,
 ⟨none, .store 8 (.t s010) (.t s025), none⟩])
 (.seq (.region [xm s026 s001,
 xm s027 s007,
 ⟨some s030, .indexSl 8 (.t s026) (.t s027), none⟩,
 ⟨some s031, .load true 8 (.t s030), none⟩,
 ⟨some s011, .alloc 1 [.int .u32 0, .int .u32 0, .int .i64 0, .int .i64 0, .int .i64 0, .int .i64 0, .string { data := #[] }, .slice none 0 0], none⟩,
 ⟨none, .store 8 (.t s011) (.t s031), none⟩])
 (.seq (.region [xm s032 s002,
 ⟨some s033, .load true 8 (.t s010), none⟩,
 ⟨some s034, .load true 8 (.t s011), none⟩,
 ⟨some s035, .callv (.t s032) [(.t s033), (.t s034)], none⟩,
 ⟨some s036, .un .not (.t s035), none⟩])
 (.cond (.t s036)
 (.seq (.region [⟨some s006, .move (.c (.bool false)), none⟩])
 (.ret))
 (.skip))))))
 (.region [⟨some s037, .bin .add (.t s021) (.c (.int .i64 1)), none⟩,
 xm s021 s037])))))))
 (.seq (.region [⟨some s006, .move (.c (.bool true)), none⟩])
 (.ret))))
def r_slices_EqualFunc_api_Heap : List XR := [.tmp s006]
theorem ok_slices_EqualFunc_api_Heap : okC Try.prog Try.f30.ntmps (bodyOf Try.f30) x_slices_EqualFunc_api_Heap = true := by kernel_rfl
theorem okr_slices_EqualFunc_api_Heap : okRs Try.prog Try.f30.results.toList r_slices_EqualFunc_api_Heap = true := by kernel_rfl
def x_custref_SamePool_1 : XC :=
 .seq (.region [⟨some s002, .box 0 8 (.t s000), none⟩,
 ⟨some s003, .box 1 8 (.t s001), none⟩,
 ⟨some s004, .move (.c (.bool false)), none⟩])
 (.seq (.region [xf 0 s005 s002,
 xl s006 s005,
 xf 0 s007 s003,
 xl s010 s007,
 ⟨some s011, .bin .eql (.t s006) (.t s010), none⟩,
 xm s012 s011,
 ⟨some s013, .fieldAddr 1 (.t s002), some (s012, true)⟩,
 ⟨some s014, .load false 1 (.t s013), some (s012, true)⟩,
 ⟨some s015, .fieldAddr 1 (.t s003), some (s012, true)⟩,
 ⟨some s016, .load false 1 (.t s015), some (s012, true)⟩,
 ⟨some s017, .bin .eql (.t s014) (.t s016), some (s012, true)⟩,
 ⟨some s020, .pick (.t s012) (.t s017) (.c (.bool false)), none⟩,
 xm s021 s020,
 ⟨some s022, .fieldAddr 2 (.t s002), some (s021, true)⟩,
 ⟨some s023, .load false 1 (.t s022), some (s021, true)⟩,
 ⟨some s024, .fieldAddr 2 (.t s003), some (s021, true)⟩,
 ⟨some s025, .load false 1 (.t s024), some (s021, true)⟩,
 ⟨some s026, .bin .eql (.t s023) (.t s025), some (s021, true)⟩,
 ⟨some s027, .pick (.t s021) (.t s026) (.c (.bool false)), none⟩,
 xm s030 s027,
 ⟨some s031, .fieldAddr 3 (.t s002), some (s030, true)⟩,
 ⟨some s032, .load false 1 (.t s031), some (s030, true)⟩,
 ⟨some s033, .fieldAddr 3 (.t s003), some (s030, true)⟩,
 ⟨some s034, .load false 1 (.t s033), some (s030, true)⟩,
 ⟨some s035, .bin .eql (.t s032) (.t s034), some (s030, true)⟩,
 ⟨some s036, .pick (.t s030) (.t s035) (.c (.bool false)), none⟩,
 xm s037 s036,
 ⟨some s040, .fieldAddr 4 (.t s002), some (s037, true)⟩,
 ⟨some s041, .load false 1 (.t s040), some (s037, true)⟩,
 ⟨some s042, .fieldAddr 4 (.t s003), some (s037, true)⟩,
 ⟨some s043, .load false 1 (.t s042), some (s037, true)⟩,
 ⟨some s044, .bin .eql (.t s041) (.t s043), some (s037, true)⟩,
 ⟨some s045, .pick (.t s037) (.t s044) (.c (.bool false)), none⟩,
 xm s046 s045,
 ⟨some s047, .fieldAddr 5 (.t s002), some (s046, true)⟩,
 ⟨some s050, .load false 1 (.t s047), some (s046, true)⟩,
 ⟨some s051, .fieldAddr 5 (.t s003), some (s046, true)⟩,
 ⟨some s052, .load false 1 (.t s051), some (s046, true)⟩,
 ⟨some s053, .bin .eql (.t s050) (.t s052), some (s046, true)⟩,
 ⟨some s054, .pick (.t s046) (.t s053) (.c (.bool false)), none⟩,
 xm s055 s054,
 ⟨some s056, .fieldAddr 6 (.t s002), some (s055, true)⟩,
 ⟨some s057, .load false 1 (.t s056), some (s055, true)⟩,
 ⟨some s060, .fieldAddr 6 (.t s003), some (s055, true)⟩,
 ⟨some s061, .load false 1 (.t s060), some (s055, true)⟩,
 ⟨some s062, .sbin .eql (.t s057) (.t s061), some (s055, true)⟩,
 ⟨some s063, .pick (.t s055) (.t s062) (.c (.bool false)), none⟩,
 xm s064 s063,
 ⟨some s065, .fieldAddr 7 (.t s002), some (s064, true)⟩,
 ⟨some s066, .load false 1 (.t s065), some (s064, true)⟩,
 ⟨some s067, .fieldAddr 7 (.t s003), some (s064, true)⟩,
 ⟨some s070, .load false 1 (.t s067), some (s064, true)⟩,
 ⟨some s071, .call 32 [(.t s066), (.t s070)], some (s064, true)⟩,
 ⟨some s072, .pick (.t s064) (.t s071) (.c (.bool false)), none⟩,
 xm s004 s072])
 (.ret))
def r_custref_SamePool_1 : List XR := [.tmp s004]
theorem ok_custref_SamePool_1 : okC Try.prog Try.f31.ntmps (bodyOf Try.f31) x_custref_SamePool_1 = true := by kernel_rfl
theorem okr_custref_SamePool_1 : okRs Try.prog Try.f31.results.toList r_custref_SamePool_1 = true := by kernel_rfl
def x_slices_Equal_api_Part : XC :=
 .seq (.region [⟨some s004, .move (.c (.bool false)), none⟩])
 (.seq (.seq (.region [xm s006 s000,
 ⟨some s007, .len (.t s006), none⟩,
 xm s010 s001,
 ⟨some s011, .len (.t s010), none⟩,
 ⟨some s012, .bin .neq (.t s007) (.t s011), none⟩])
 (.cond (.t s012)
 (.seq (.region [⟨some s004, .move (.c (.bool false)), none⟩])
 (.ret))
 (.skip)))
 (.seq (.seq (.region [xm s013 s000,
 ⟨some s014, .len (.t s013), none⟩,
 ⟨some s015, .move (.c (.int .i64 0)), none⟩])
 (.block 0
 (.loop
 (.seq (.region [⟨some s016, .bin .lss (.t s015) (.t s014), none⟩])
 (.seq (.cond (.t s016)
 (.skip)
 (.exit 0))
 (.seq (.block 1
 (.seq (.region [xm s017 s015,
 xm s005 s017])
 (.seq (.regionD [0, 0, 3, 7, 0, 0, 48, 112, 255] [xm s020 s000,
 xm s021 s005,
 ⟨some s022, .indexSl 3 (.t s020) (.t s021), none⟩,
 ⟨some s023, .load true 3 (.t s022), none⟩,
 xm s024 s001,
 xm s025 s005,
 ⟨some s026, .indexSl 3 (.t s024) (.t s025), none⟩,
 ⟨some s027, .load true 3 (.t s026), none⟩,
 ⟨some s030, .eqs true [0, 2, 1] (.t s023) (.t s027), none⟩])
 (.cond (.t s030)
 (.seq (.region [⟨some s004, .move (.c (.bool false)), none⟩])
 (.ret))
 (.skip)))))
 (.region [⟨some s031, .bin .add (.t s015) (.c (.int .i64 1)), none⟩,
 xm s015 s031])))))))
 (.seq (.region [⟨some s004, .move (.c (.bool true)), none⟩])
 (.ret))))
def r_slices_Equal_api_Part : List XR := [.tmp s004]
theorem ok_slices_Equal_api_Part : okC Try.prog Try.f32.ntmps (bodyOf Try.f32) x_slices_Equal_api_Part = true := by kernel_rfl
theorem okr_slices_Equal_api_Part : okRs Try.prog Try.f32.results.toList r_slices_Equal_api_Part = true := by kernel_rfl
def x_ip_refused : XC :=
 .seq (.region [⟨some s001, .box 0 11 (.t s000), none⟩,
 ⟨some s002, .move (.c (.int .i64 0)), none⟩])
 (.seq (.block 0
 (.seq (.region [xf 0 s004 s001,
 xl s005 s004,
 ⟨some s006, .call 51 [(.t s005)], none⟩,
 ⟨some s007, .un .not (.t s006), none⟩,
 xm s010 s007,
 ⟨some s011, .fieldAddr 5 (.t s001), some (s010, false)⟩,
 ⟨some s012, .load false 1 (.t s011), some (s010, false)⟩,
 ⟨some s013, .call 51 [(.t s012)], some (s010, false)⟩,
 ⟨some s014, .un .not (.t s013), some (s010, false)⟩,
 ⟨some s015, .pick (.t s010) (.c (.bool true)) (.t s014), none⟩,
 xm s016 s015,
 ⟨some s017, .fieldAddr 6 (.t s001), some (s016, false)⟩,
 ⟨some s020, .load false 1 (.t s017), some (s016, false)⟩,
 ⟨some s021, .call 51 [(.t s020)], some (s016, false)⟩,
 ⟨some s022, .un .not (.t s021), some (s016, false)⟩,
 ⟨some s023, .pick (.t s016) (.c (.bool true)) (.t s022), none⟩,
 xm s024 s023,
 ⟨some s025, .fieldAddr 1 (.t s001), some (s024, false)⟩,
 ⟨some s026, .load false 1 (.t s025), some (s024, false)⟩,
 ⟨some s027, .bin .lss (.t s026) (.c (.int .i64 0)), some (s024, false)⟩,
 ⟨some s030, .pick (.t s024) (.c (.bool true)) (.t s027), none⟩,
 xm s031 s030,
 ⟨some s032, .fieldAddr 1 (.t s001), some (s031, false)⟩,
 ⟨some s033, .load false 1 (.t s032), some (s031, false)⟩,
 ⟨some s034, .bin .gtr (.t s033) (.c (.int .i64 65535)), some (s031, false)⟩,
 ⟨some s035, .pick (.t s031) (.c (.bool true)) (.t s034), none⟩,
 xm s036 s035,
 ⟨some s037, .fieldAddr 4 (.t s001), some (s036, false)⟩,
 ⟨some s040, .load false 1 (.t s037), some (s036, false)⟩,
 ⟨some s041, .bin .lss (.t s040) (.c (.int .i64 0)), some (s036, false)⟩,
 ⟨some s042, .pick (.t s036) (.c (.bool true)) (.t s041), none⟩,
 xm s043 s042,
 ⟨some s044, .fieldAddr 4 (.t s001), some (s043, false)⟩,
 ⟨some s045, .load false 1 (.t s044), some (s043, false)⟩,
 ⟨some s046, .bin .gtr (.t s045) (.c (.int .i64 8191)), some (s043, false)⟩,
 ⟨some s047, .pick (.t s043) (.c (.bool true)) (.t s046), none⟩,
 xm s050 s047,
 ⟨some s051, .fieldAddr 9 (.t s001), some (s050, false)⟩,
 ⟨some s052, .load false 1 (.t s051), some (s050, false)⟩,
 ⟨some s053, .slen (.t s052), some (s050, false)⟩,
 ⟨some s054, .bin .gtr (.t s053) (.c (.int .i64 40)), some (s050, false)⟩,
 ⟨some s055, .pick (.t s050) (.c (.bool true)) (.t s054), none⟩,
 xm s056 s055,
 ⟨some s057, .fieldAddr 9 (.t s001), some (s056, false)⟩,
 ⟨some s060, .load false 1 (.t s057), some (s056, false)⟩,
 ⟨some s061, .slen (.t s060), some (s056, false)⟩,
 ⟨some s062, .bin .rem (.t s061) (.c (.int .i64 4)), some (s056, false)⟩,
 ⟨some s063, .bin .neq (.t s062) (.c (.int .i64 0)), some (s056, false)⟩,
 ⟨some s064, .pick (.t s056) (.c (.bool true)) (.t s063), none⟩,
 xm s003 s064])
 (.cond (.t s003)
 (.seq (.region [⟨some s002, .move (.c (.int .i64 1)), none⟩])
 (.ret))
 (.seq (.region [xf 2 s066 s001,
 xl s067 s066,
 xm s070 s067,
 ⟨some s071, .fieldAddr 3 (.t s001), some (s070, true)⟩,
 ⟨some s072, .load false 1 (.t s071), some (s070, true)⟩,
 ⟨some s073, .move (.t s072), some (s070, true)⟩,
 ⟨some s074, .fieldAddr 4 (.t s001), some (s073, false)⟩,
 ⟨some s075, .load false 1 (.t s074), some (s073, false)⟩,
 ⟨some s076, .bin .neq (.t s075) (.c (.int .i64 0)), some (s073, false)⟩,
 ⟨some s077, .pick (.t s073) (.c (.bool true)) (.t s076), some (s070, true)⟩,
 ⟨some s100, .pick (.t s070) (.t s077) (.c (.bool false)), none⟩,
 xm s065 s100])
 (.cond (.t s065)
 (.seq (.region [⟨some s002, .move (.c (.int .i64 4)), none⟩])
 (.ret))
 (.seq (.region [xf 10 s102 s001,
 xl s103 s102,
 ⟨some s104, .slen (.t s103), none⟩,
 xf 9 s105 s001,
 xl s106 s105,
 ⟨some s107, .slen (.t s106), none⟩,
 ⟨some s110, .bin .sub (.c (.int .i64 65515)) (.t s107), none⟩,
 ⟨some s111, .bin .gtr (.t s104) (.t s110), none⟩,
 xm s101 s111])
 (.cond (.t s101)
 (.seq (.region [⟨some s002, .move (.c (.int .i64 2)), none⟩])
 (.ret))
 (.skip))))))))
 (.seq (.region [⟨some s002, .move (.c (.int .i64 0)), none⟩])
 (.ret)))
def r_ip_refused : List XR := [.tmp s002]
theorem ok_ip_refused : okC Try.prog Try.f33.ntmps (bodyOf Try.f33) x_ip_refused = true := by kernel_rfl
theorem okr_ip_refused : okRs Try.prog Try.f33.results.toList r_ip_refused = true := by kernel_rfl
def x_ip_word : XC :=
 .seq (.region [⟨some s002, .move (.c (.string { data := #[] })), none⟩])
 (.seq (.region [xm s003 s000,
 ⟨some s004, .bin .shr (.t s003) (.c (.int .u64 8)), none⟩,
 ⟨some s005, .convInt .u8 (.t s004), none⟩,
 xm s006 s000,
 ⟨some s007, .convInt .u8 (.t s006), none⟩,
 ⟨some s010, .buildSlice 0 2 [.int .u8 0] [(0, (.t s005)), (1, (.t s007))] true, none⟩,
 ⟨some s011, .b2s (.t s010), none⟩,
 xm s002 s011])
 (.ret))
def r_ip_word : List XR := [.tmp s002]
theorem ok_ip_word : okC Try.prog Try.f34.ntmps (bodyOf Try.f34) x_ip_word = true := by kernel_rfl
theorem okr_ip_word : okRs Try.prog Try.f34.results.toList r_ip_word = true := by kernel_rfl
def x_ip_long : XC :=
 .seq (.region [⟨some s002, .move (.c (.string { data := #[] })), none⟩])
 (.seq (.region [xm s003 s000,
 ⟨some s004, .bin .shr (.t s003) (.c (.int .u64 24)), none⟩,
 ⟨some s005, .convInt .u8 (.t s004), none⟩,
 xm s006 s000,
 ⟨some s007, .bin .shr (.t s006) (.c (.int .u64 16)), none⟩,
 ⟨some s010, .convInt .u8 (.t s007), none⟩,
 xm s011 s000,
 ⟨some s012, .bin .shr (.t s011) (.c (.int .u64 8)), none⟩,
 ⟨some s013, .convInt .u8 (.t s012), none⟩,
 xm s014 s000,
 ⟨some s015, .convInt .u8 (.t s014), none⟩,
 ⟨some s016, .buildSlice 0 4 [.int .u8 0] [(0, (.t s005)), (1, (.t s010)), (2, (.t s013)), (3, (.t s015))] true, none⟩,
 ⟨some s017, .b2s (.t s016), none⟩,
 xm s002 s017])
 (.ret))
def r_ip_long : List XR := [.tmp s002]
theorem ok_ip_long : okC Try.prog Try.f35.ntmps (bodyOf Try.f35) x_ip_long = true := by kernel_rfl
theorem okr_ip_long : okRs Try.prog Try.f35.results.toList r_ip_long = true := by kernel_rfl
def x_sum_Of : XC :=
 .seq (.region [⟨some s002, .move (.c (.int .u16 0)), none⟩])
 (.seq (.region [xm s003 s000,
 ⟨some s004, .call 52 [(.c (.int .u16 0)), (.t s003)], none⟩,
 ⟨some s005, .un .xor (.t s004), none⟩,
 xm s002 s005])
 (.ret))
def r_sum_Of : List XR := [.tmp s002]
theorem ok_sum_Of : okC Try.prog Try.f36.ntmps (bodyOf Try.f36) x_sum_Of = true := by kernel_rfl
theorem okr_sum_Of : okRs Try.prog Try.f36.results.toList r_sum_Of = true := by kernel_rfl
def x_frag_end : XC :=
 .seq (.region [⟨some s001, .box 0 3 (.t s000), none⟩,
 ⟨some s002, .move (.c (.int .i64 0)), none⟩])
 (.seq (.region [xf 0 s003 s001,
 xl s004 s003,
 xf 1 s005 s001,
 xl s006 s005,
 ⟨some s007, .slen (.t s006), none⟩,
 ⟨some s010, .bin .add (.t s004) (.t s007), none⟩,
 xm s002 s010])
 (.ret))
def r_frag_end : List XR := [.tmp s002]
theorem ok_frag_end : okC Try.prog Try.f37.ntmps (bodyOf Try.f37) x_frag_end = true := by kernel_rfl
theorem okr_frag_end : okRs Try.prog Try.f37.results.toList r_frag_end = true := by kernel_rfl
def x_slices_Insert_api_Part : XC :=
 .seq (.region [⟨some s006, .move (.c (.slice none 0 0)), none⟩])
 (.seq (.region [xm s012 s000,
 xm s013 s001,
 ⟨some s014, .slice 3 (.t s012) (some (.t s013)) none none, none⟩])
 (.seq (.region [xm s015 s002,
 ⟨some s016, .len (.t s015), none⟩,
 xm s007 s016])
 (.seq (.seq (.region [xm s017 s007,
 ⟨some s020, .bin .eql (.t s017) (.c (.int .i64 0)), none⟩])
 (.cond (.t s020)
 (.seq (.region [xm s021 s000,
 xm s006 s021])
 (.ret))
 (.skip)))
 (.seq (.region [xm s022 s000,
 ⟨some s023, .len (.t s022), none⟩,
 xm s010 s023])
 (.seq (.seq (.region [xm s024 s001,
 xm s025 s010,
 ⟨some s026, .bin .eql (.t s024) (.t s025), none⟩])
 (.cond (.t s026)
 (.seq (.region [xm s027 s000,
 xm s030 s002,
 ⟨some s031, .append 2 3 32 (.t s027) (.t s030), none⟩,
 xm s006 s031])
 (.ret))
 (.skip)))
 (.seq (.seq (.region [xm s032 s010,
 xm s033 s007,
 ⟨some s034, .bin .add (.t s032) (.t s033), none⟩,
 xm s035 s000,
 ⟨some s036, .dead, none⟩,
 ⟨some s037, .bin .gtr (.t s034) (.t s036), none⟩])
 (.cond (.t s037)
 (.seq (.region [xm s040 s000,
 xm s041 s001,
 ⟨some s042, .slice 3 (.t s040) none (some (.t s041)) none, none⟩,
 xm s043 s010,
 xm s044 s007,
 ⟨some s045, .bin .add (.t s043) (.t s044), none⟩,
 xm s046 s001,
 ⟨some s047, .bin .sub (.t s045) (.t s046), none⟩,
 ⟨some s050, .dead, none⟩,
 xm s011 s050])
 (.seq (.region [xm s051 s011,
 xm s052 s001,
 ⟨some s053, .slice 3 (.t s051) (some (.t s052)) none none, none⟩,
 xm s054 s002,
 ⟨some s055, .dead, none⟩])
 (.seq (.regionD [0, 0, 0, 6, 15, 0, 0, 96, 255] [xm s056 s011,
 xm s057 s001,
 xm s060 s007,
 ⟨some s061, .bin .add (.t s057) (.t s060), none⟩,
 ⟨some s062, .slice 3 (.t s056) (some (.t s061)) none none, none⟩,
 xm s063 s000,
 xm s064 s001,
 ⟨some s065, .slice 3 (.t s063) (some (.t s064)) none none, none⟩,
 ⟨some s066, .dead, none⟩])
 (.seq (.region [xm s067 s011,
 xm s006 s067])
 (.ret)))))
 (.skip)))
 (.seq (.region [xm s070 s000,
 xm s071 s010,
 xm s072 s007,
 ⟨some s073, .bin .add (.t s071) (.t s072), none⟩,
 ⟨some s074, .slice 3 (.t s070) none (some (.t s073)) none, none⟩,
 xm s000 s074])
 (.seq (.seq (.region [xm s075 s002,
 xm s076 s000,
 xm s077 s001,
 xm s100 s007,
 ⟨some s101, .bin .add (.t s077) (.t s100), none⟩,
 ⟨some s102, .slice 3 (.t s076) (some (.t s101)) none none, none⟩,
 ⟨some s103, .dead, none⟩,
 ⟨some s104, .un .not (.t s103), none⟩])
 (.cond (.t s104)
 (.seq (.regionD [0, 0, 0, 6, 15, 0, 0, 96, 255] [xm s105 s000,
 xm s106 s001,
 xm s107 s007,
 ⟨some s110, .bin .add (.t s106) (.t s107), none⟩,
 ⟨some s111, .slice 3 (.t s105) (some (.t s110)) none none, none⟩,
 xm s112 s000,
 xm s113 s001,
 ⟨some s114, .slice 3 (.t s112) (some (.t s113)) none none, none⟩,
 ⟨some s115, .dead, none⟩])
 (.seq (.region [xm s116 s000,
 xm s117 s001,
 ⟨some s120, .slice 3 (.t s116) (some (.t s117)) none none, none⟩,
 xm s121 s002,
 ⟨some s122, .dead, none⟩])
 (.seq (.region [xm s123 s000,
 xm s006 s123])
 (.ret))))
 (.skip)))
 (.seq (.region [xm s124 s000,
 xm s125 s010,
 ⟨some s126, .slice 3 (.t s124) (some (.t s125)) none none, none⟩,
 xm s127 s002,
 ⟨some s130, .dead, none⟩])
 (.seq (.region [xm s131 s000,
 xm s132 s001,
 ⟨some s133, .slice 3 (.t s131) (some (.t s132)) none none, none⟩,
 xm s134 s007,
 ⟨some s135, .call 54 [(.t s133), (.t s134)], none⟩])
 (.seq (.region [xm s136 s000,
 xm s006 s136])
 (.ret))))))))))))
def r_slices_Insert_api_Part : List XR := [.tmp s006]
theorem ok_slices_Insert_api_Part : okC Try.prog Try.f38.ntmps (bodyOf Try.f38) x_slices_Insert_api_Part = true := by kernel_rfl
theorem okr_slices_Insert_api_Part : okRs Try.prog Try.f38.results.toList r_slices_Insert_api_Part = true := by kernel_rfl
def x_strings_Builder_Len : XC :=
 .seq (.region [⟨some s002, .move (.c (.int .i64 0)), none⟩])
 (.seq (.region [xm s003 s000,
 ⟨some s004, .nilCheck (.t s003), none⟩,
 xf 1 s005 s004,
 xl s006 s005,
 ⟨some s007, .len (.t s006), none⟩,
 xm s002 s007])
 (.ret))
def r_strings_Builder_Len : List XR := [.tmp s002]
theorem ok_strings_Builder_Len : okC Try.prog Try.f39.ntmps (bodyOf Try.f39) x_strings_Builder_Len = true := by kernel_rfl
theorem okr_strings_Builder_Len : okRs Try.prog Try.f39.results.toList r_strings_Builder_Len = true := by kernel_rfl
def x_strings_Builder_WriteString : XC :=
 .seq (.region [⟨some s004, .move (.c (.int .i64 0)), none⟩,
 ⟨some s005, .move (.c (.nilIface)), none⟩])
 (.seq (.region [xm s006 s000,
 ⟨some s007, .call 55 [(.t s006)], none⟩])
 (.seq (.region [xm s010 s000,
 xm s011 s000,
 ⟨some s012, .nilCheck (.t s011), none⟩,
 xf 1 s013 s012,
 xl s014 s013,
 xm s015 s001,
 ⟨some s016, .appT 2 1 5 (.t s014) (.t s015), none⟩,
 ⟨some s017, .nilCheck (.t s010), none⟩,
 xf 1 s020 s017,
 ⟨none, .store 1 (.t s020) (.t s016), none⟩])
 (.seq (.region [xm s021 s001,
 ⟨some s022, .slen (.t s021), none⟩,
 xm s004 s022,
 ⟨some s005, .move (.c (.nilIface)), none⟩])
 (.ret))))
def r_strings_Builder_WriteString : List XR := [.tmp s004, .tmp s005]
theorem ok_strings_Builder_WriteString : okC Try.prog Try.f40.ntmps (bodyOf Try.f40) x_strings_Builder_WriteString = true := by kernel_rfl
theorem okr_strings_Builder_WriteString : okRs Try.prog Try.f40.results.toList r_strings_Builder_WriteString = true := by kernel_rfl
def x_custref_Between : XC :=
 .seq (.region [⟨some s006, .move (.c (.bool false)), none⟩])
 (.seq (.region [xm s007 s001,
 xm s010 s000,
 ⟨some s011, .bin .leq (.t s007) (.t s010), none⟩,
 xm s012 s011,
 ⟨some s013, .move (.t s000), some (s012, true)⟩,
 ⟨some s014, .move (.t s002), some (s012, true)⟩,
 ⟨some s015, .bin .leq (.t s013) (.t s014), some (s012, true)⟩,
 ⟨some s016, .pick (.t s012) (.t s015) (.c (.bool false)), none⟩,
 xm s006 s016])
 (.ret))
def r_custref_Between : List XR := [.tmp s006]
theorem ok_custref_Between : okC Try.prog Try.f42.ntmps (bodyOf Try.f42) x_custref_Between = true := by kernel_rfl
theorem okr_custref_Between : okRs Try.prog Try.f42.results.toList r_custref_Between = true := by kernel_rfl
def x_custref_Bytes : XC :=
 .seq (.region [⟨some s002, .move (.c (.string { data := #[] })), none⟩])
 (.seq (.region [xm s006 s000,
 ⟨some s007, .len (.t s006), none⟩,
 ⟨some s010, .makeSlice 1 1 [.int .u8 0] (.t s007) (.t s007), none⟩,
 xm s003 s010])
 (.seq (.seq (.region [xm s011 s000,
 ⟨some s012, .len (.t s011), none⟩,
 ⟨some s013, .move (.c (.int .i64 0)), none⟩])
 (.block 0
 (.loop
 (.seq (.region [⟨some s014, .bin .lss (.t s013) (.t s012), none⟩])
 (.seq (.cond (.t s014)
 (.skip)
 (.exit 0))
 (.seq (.block 1
 (.seq (.region [xm s015 s013,
 ⟨some s016, .indexSl 1 (.t s011) (.t s013), none⟩,
 xl s017 s016,
 xm s004 s015,
 xm s005 s017])
 (.region [xm s020 s003,
 xm s021 s004,
 xm s022 s005,
 ⟨some s023, .convInt .u8 (.t s022), none⟩,
 ⟨some s024, .indexSl 1 (.t s020) (.t s021), none⟩,
 ⟨none, .store 1 (.t s024) (.t s023), none⟩])))
 (.region [⟨some s025, .bin .add (.t s013) (.c (.int .i64 1)), none⟩,
 xm s013 s025])))))))
 (.seq (.region [xm s026 s003,
 ⟨some s027, .b2s (.t s026), none⟩,
 xm s002 s027])
 (.ret))))
def r_custref_Bytes : List XR := [.tmp s002]
theorem ok_custref_Bytes : okC Try.prog Try.f43.ntmps (bodyOf Try.f43) x_custref_Bytes = true := by kernel_rfl
theorem okr_custref_Bytes : okRs Try.prog Try.f43.results.toList r_custref_Bytes = true := by kernel_rfl
def x_custref_Word : XC :=
 .seq (.region [⟨some s002, .move (.c (.string { data := #[] })), none⟩])
 (.seq (.region [xm s003 s000,
 ⟨some s004, .bin .quo (.t s003) (.c (.int .i64 256)), none⟩,
 xm s005 s000,
 ⟨some s006, .bin .rem (.t s005) (.c (.int .i64 256)), none⟩,
 ⟨some s007, .buildSlice 0 2 [.int .i64 0] [(0, (.t s004)), (1, (.t s006))] true, none⟩,
 ⟨some s010, .call 43 [(.t s007)], none⟩,
 xm s002 s010])
 (.ret))
def r_custref_Word : List XR := [.tmp s002]
theorem ok_custref_Word : okC Try.prog Try.f44.ntmps (bodyOf Try.f44) x_custref_Word = true := by kernel_rfl
theorem okr_custref_Word : okRs Try.prog Try.f44.results.toList r_custref_Word = true := by kernel_rfl
def x_custref_Long : XC :=
 .seq (.region [⟨some s002, .move (.c (.string { data := #[] })), none⟩])
 (.seq (.region [xm s003 s000,
 ⟨some s004, .bin .quo (.t s003) (.c (.int .u32 65536)), none⟩,
 ⟨some s005, .convInt .i64 (.t s004), none⟩,
 ⟨some s006, .call 44 [(.t s005)], none⟩,
 xm s007 s000,
 ⟨some s010, .bin .rem (.t s007) (.c (.int .u32 65536)), none⟩,
 ⟨some s011, .convInt .i64 (.t s010), none⟩,
 ⟨some s012, .call 44 [(.t s011)], none⟩,
 ⟨some s013, .sbin .add (.t s006) (.t s012), none⟩,
 xm s002 s013])
 (.ret))
def r_custref_Long : List XR := [.tmp s002]
theorem ok_custref_Long : okC Try.prog Try.f45.ntmps (bodyOf Try.f45) x_custref_Long = true := by kernel_rfl
theorem okr_custref_Long : okRs Try.prog Try.f45.results.toList r_custref_Long = true := by kernel_rfl
def x_custref_Check : XC :=
 .seq (.region [⟨some s002, .move (.c (.int .i64 0)), none⟩])
 (.seq (.region [xm s003 s000,
 ⟨some s004, .call 56 [(.c (.int .i64 0)), (.t s003)], none⟩,
 ⟨some s005, .bin .sub (.c (.int .i64 65535)) (.t s004), none⟩,
 xm s002 s005])
 (.ret))
def r_custref_Check : List XR := [.tmp s002]
theorem ok_custref_Check : okC Try.prog Try.f46.ntmps (bodyOf Try.f46) x_custref_Check = true := by kernel_rfl
theorem okr_custref_Check : okRs Try.prog Try.f46.results.toList r_custref_Check = true := by kernel_rfl
def x_slices_Index_api_Part : XC :=
 .seq (.region [⟨some s003, .box 0 3 (.t s001), none⟩,
 ⟨some s004, .move (.c (.int .i64 0)), none⟩])
 (.seq (.seq (.region [xm s006 s000,
 ⟨some s007, .len (.t s006), none⟩,
 ⟨some s010, .move (.c (.int .i64 0)), none⟩])
 (.block 0
 (.loop
 (.seq (.region [⟨some s011, .bin .lss (.t s010) (.t s007), none⟩])
 (.seq (.cond (.t s011)
 (.skip)
 (.exit 0))
 (.seq (.block 1
 (.seq (.region [xm s012 s010,
 xm s005 s012])
 (.seq (.regionD [0, 0, 0, 6, 14, 31] [⟨some s013, .load true 3 (.t s003), none⟩,
 xm s014 s000,
 xm s015 s005,
 ⟨some s016, .indexSl 3 (.t s014) (.t s015), none⟩,
 ⟨some s017, .load true 3 (.t s016), none⟩,
 ⟨some s020, .eqs false [0, 2, 1] (.t s013) (.t s017), none⟩])
 (.cond (.t s020)
 (.seq (.region [xm s021 s005,
 xm s004 s021])
 (.ret))
 (.skip)))))
 (.region [⟨some s022, .bin .add (.t s010) (.c (.int .i64 1)), none⟩,
 xm s010 s022])))))))
 (.seq (.region [⟨some s004, .move (.c (.int .i64 (-1))), none⟩])
 (.ret)))
def r_slices_Index_api_Part : List XR := [.tmp s004]
theorem ok_slices_Index_api_Part : okC Try.prog Try.f47.ntmps (bodyOf Try.f47) x_slices_Index_api_Part = true := by kernel_rfl
theorem okr_slices_Index_api_Part : okRs Try.prog Try.f47.results.toList r_slices_Index_api_Part = true := by kernel_rfl
def x_frag_rightPart : XC :=
 .seq (.region [⟨some s001, .box 0 3 (.t s000), none⟩,
 ⟨some s002, .move (.c (.bool false)), none⟩])
 (.seq (.region [xf 1 s003 s001,
 xl s004 s003,
 ⟨some s005, .sbin .neq (.t s004) (.c (.string { data := #[] })), none⟩,
 xm s006 s005,
 ⟨some s007, .fieldAddr 0 (.t s001), some (s006, true)⟩,
 ⟨some s010, .load false 1 (.t s007), some (s006, true)⟩,
 ⟨some s011, .bin .geq (.t s010) (.c (.int .i64 0)), some (s006, true)⟩,
 ⟨some s012, .pick (.t s006) (.t s011) (.c (.bool false)), none⟩,
 xm s013 s012,
 ⟨some s014, .fieldAddr 0 (.t s001), some (s013, true)⟩,
 ⟨some s015, .load false 1 (.t s014), some (s013, true)⟩,
 ⟨some s016, .bin .rem (.t s015) (.c (.int .i64 8)), some (s013, true)⟩,
 ⟨some s017, .bin .eql (.t s016) (.c (.int .i64 0)), some (s013, true)⟩,
 ⟨some s020, .pick (.t s013) (.t s017) (.c (.bool false)), none⟩,
 xm s021 s020,
 ⟨some s022, .fieldAddr 0 (.t s001), some (s021, true)⟩,
 ⟨some s023, .load false 1 (.t s022), some (s021, true)⟩,
 ⟨some s024, .bin .leq (.t s023) (.c (.int .i64 65515)), some (s021, true)⟩,
 ⟨some s025, .pick (.t s021) (.t s024) (.c (.bool false)), none⟩,
 xm s026 s025,
 ⟨some s027, .load true 3 (.t s001), some (s026, true)⟩,
 ⟨some s030, .call 37 [(.t s027)], some (s026, true)⟩,
 ⟨some s031, .bin .leq (.t s030) (.c (.int .i64 65515)), some (s026, true)⟩,
 ⟨some s032, .pick (.t s026) (.t s031) (.c (.bool false)), none⟩,
 xm s033 s032,
 ⟨some s034, .fieldAddr 2 (.t s001), some (s033, true)⟩,
 ⟨some s035, .load false 1 (.t s034), some (s033, true)⟩,
 ⟨some s036, .move (.t s035), some (s033, true)⟩,
 ⟨some s037, .fieldAddr 1 (.t s001), some (s036, false)⟩,
 ⟨some s040, .load false 1 (.t s037), some (s036, false)⟩,
 ⟨some s041, .slen (.t s040), some (s036, false)⟩,
 ⟨some s042, .bin .rem (.t s041) (.c (.int .i64 8)), some (s036, false)⟩,
 ⟨some s043, .bin .eql (.t s042) (.c (.int .i64 0)), some (s036, false)⟩,
 ⟨some s044, .pick (.t s036) (.c (.bool true)) (.t s043), some (s033, true)⟩,
 ⟨some s045, .pick (.t s033) (.t s044) (.c (.bool false)), none⟩,
 xm s002 s045])
 (.ret))
def r_frag_rightPart : List XR := [.tmp s002]
theorem ok_frag_rightPart : okC Try.prog Try.f50.ntmps (bodyOf Try.f50) x_frag_rightPart = true := by kernel_rfl
theorem okr_frag_rightPart : okRs Try.prog Try.f50.results.toList r_frag_rightPart = true := by kernel_rfl
def x_ip_byt : XC :=
 .seq (.region [⟨some s002, .move (.c (.bool false)), none⟩])
 (.seq (.region [xm s003 s000,
 ⟨some s004, .bin .geq (.t s003) (.c (.int .i64 0)), none⟩,
 xm s005 s004,
 ⟨some s006, .move (.t s000), some (s005, true)⟩,
 ⟨some s007, .bin .leq (.t s006) (.c (.int .i64 255)), some (s005, true)⟩,
 ⟨some s010, .pick (.t s005) (.t s007) (.c (.bool false)), none⟩,
 xm s002 s010])
 (.ret))
def r_ip_byt : List XR := [.tmp s002]
theorem ok_ip_byt : okC Try.prog Try.f51.ntmps (bodyOf Try.f51) x_ip_byt = true := by kernel_rfl
theorem okr_ip_byt : okRs Try.prog Try.f51.results.toList r_ip_byt = true := by kernel_rfl
def x_sum_Add : XC :=
 .seq (.region [⟨some s004, .move (.c (.int .u16 0)), none⟩])
 (.seq (.region [xm s006 s000,
 ⟨some s007, .convInt .u64 (.t s006), none⟩,
 xm s005 s007])
 (.seq (.block 0
 (.loop
 (.seq (.seq (.region [xm s010 s001,
 ⟨some s011, .slen (.t s010), none⟩,
 ⟨some s012, .bin .gtr (.t s011) (.c (.int .i64 1)), none⟩])
 (.cond (.t s012)
 (.skip)
 (.exit 0)))
 (.seq (.block 1
 (.regionD [0, 0, 2, 6, 14, 0, 32, 96, 254, 511, 1023] [xm s015 s005,
 xm s016 s001,
 ⟨some s017, .strAt (.t s016) (.c (.int .i64 0)), none⟩,
 ⟨some s020, .convInt .u64 (.t s017), none⟩,
 ⟨some s021, .bin .shl (.t s020) (.c (.int .u64 8)), none⟩,
 xm s022 s001,
 ⟨some s023, .strAt (.t s022) (.c (.int .i64 1)), none⟩,
 ⟨some s024, .convInt .u64 (.t s023), none⟩,
 ⟨some s025, .bin .or (.t s021) (.t s024), none⟩,
 ⟨some s026, .bin .add (.t s015) (.t s025), none⟩,
 xm s005 s026]))
 (.region [xm s013 s001,
 ⟨some s014, .substr (.t s013) (some (.c (.int .i64 2))) none, none⟩,
 xm s001 s014])))))
 (.seq (.seq (.region [xm s027 s001,
 ⟨some s030, .sbin .neq (.t s027) (.c (.string { data := #[] })), none⟩])
 (.cond (.t s030)
 (.region [xm s031 s005,
 xm s032 s001,
 ⟨some s033, .strAt (.t s032) (.c (.int .i64 0)), none⟩,
 ⟨some s034, .convInt .u64 (.t s033), none⟩,
 ⟨some s035, .bin .shl (.t s034) (.c (.int .u64 8)), none⟩,
 ⟨some s036, .bin .add (.t s031) (.t s035), none⟩,
 xm s005 s036])
 (.skip)))
 (.seq (.region [xm s037 s005,
 ⟨some s040, .call 67 [(.t s037)], none⟩,
 xm s004 s040])
 (.ret)))))
def r_sum_Add : List XR := [.tmp s004]
theorem ok_sum_Add : okC Try.prog Try.f52.ntmps (bodyOf Try.f52) x_sum_Add = true := by kernel_rfl
theorem okr_sum_Add : okRs Try.prog Try.f52.results.toList r_sum_Add = true := by kernel_rfl
def x_custref_SumOf : XC :=
 .seq (.region [⟨some s004, .move (.c (.int .i64 0)), none⟩])
 (.seq (.seq (.region [⟨some s005, .move (.c (.int .i64 0)), none⟩])
 (.block 0
 (.loop
 (.seq (.seq (.region [xm s006 s005,
 xm s007 s001,
 ⟨some s010, .slen (.t s007), none⟩,
 ⟨some s011, .bin .lss (.t s006) (.t s010), none⟩])
 (.cond (.t s011)
 (.skip)
 (.exit 0)))
 (.seq (.block 1
 (.region [xm s014 s000,
 xm s015 s001,
 xm s016 s005,
 ⟨some s017, .call 71 [(.t s015), (.t s016)], none⟩,
 ⟨some s020, .call 70 [(.t s014), (.t s017)], none⟩,
 xm s000 s020]))
 (.region [xm s012 s005,
 ⟨some s013, .bin .add (.t s012) (.c (.int .i64 2)), none⟩,
 xm s005 s013]))))))
 (.seq (.region [xm s021 s000,
 xm s004 s021])
 (.ret)))
def r_custref_SumOf : List XR := [.tmp s004]
theorem ok_custref_SumOf : okC Try.prog Try.f56.ntmps (bodyOf Try.f56) x_custref_SumOf = true := by kernel_rfl
theorem okr_custref_SumOf : okRs Try.prog Try.f56.results.toList r_custref_SumOf = true := by kernel_rfl
def x_sum_fold : XC :=
 .seq (.region [⟨some s002, .move (.c (.int .u16 0)), none⟩])
 (.seq (.block 0
 (.loop
 (.seq (.seq (.region [xm s003 s000,
 ⟨some s004, .bin .gtr (.t s003) (.c (.int .u64 65535)), none⟩])
 (.cond (.t s004)
 (.skip)
 (.exit 0)))
 (.block 1
 (.region [xm s005 s000,
 ⟨some s006, .bin .shr (.t s005) (.c (.int .u64 16)), none⟩,
 xm s007 s000,
 ⟨some s010, .bin .and (.t s007) (.c (.int .u64 65535)), none⟩,
 ⟨some s011, .bin .add (.t s006) (.t s010), none⟩,
 xm s000 s011])))))
 (.seq (.region [xm s012 s000,
 ⟨some s013, .convInt .u16 (.t s012), none⟩,
 xm s002 s013])
 (.ret)))
def r_sum_fold : List XR := [.tmp s002]
theorem ok_sum_fold : okC Try.prog Try.f67.ntmps (bodyOf Try.f67) x_sum_fold = true := by kernel_rfl
theorem okr_sum_fold : okRs Try.prog Try.f67.results.toList r_sum_fold = true := by kernel_rfl
def x_custref_EndAround : XC :=
 .seq (.region [⟨some s004, .move (.c (.int .i64 0)), none⟩])
 (.seq (.seq (.region [xm s005 s000,
 xm s006 s001,
 ⟨some s007, .bin .add (.t s005) (.t s006), none⟩,
 ⟨some s010, .bin .gtr (.t s007) (.c (.int .i64 65535)), none⟩])
 (.cond (.t s010)
 (.seq (.region [xm s011 s000,
 xm s012 s001,
 ⟨some s013, .bin .add (.t s011) (.t s012), none⟩,
 ⟨some s014, .bin .sub (.t s013) (.c (.int .i64 65535)), none⟩,
 xm s004 s014])
 (.ret))
 (.skip)))
 (.seq (.region [xm s015 s000,
 xm s016 s001,
 ⟨some s017, .bin .add (.t s015) (.t s016), none⟩,
 xm s004 s017])
 (.ret)))
def r_custref_EndAround : List XR := [.tmp s004]
theorem ok_custref_EndAround : okC Try.prog Try.f70.ntmps (bodyOf Try.f70) x_custref_EndAround = true := by kernel_rfl
theorem okr_custref_EndAround : okRs Try.prog Try.f70.results.toList r_custref_EndAround = true := by kernel_rfl
def x_custref_WordAt : XC :=
 .seq (.region [⟨some s004, .move (.c (.int .i64 0)), none⟩])
 (.seq (.region [xm s006 s000,
 xm s007 s001,
 ⟨some s010, .strAt (.t s006) (.t s007), none⟩,
 ⟨some s011, .convInt .i64 (.t s010), none⟩,
 ⟨some s012, .bin .mul (.c (.int .i64 256)) (.t s011), none⟩,
 xm s005 s012])
 (.seq (.seq (.region [xm s013 s001,
 ⟨some s014, .bin .add (.t s013) (.c (.int .i64 1)), none⟩,
 xm s015 s000,
 ⟨some s016, .slen (.t s015), none⟩,
 ⟨some s017, .bin .lss (.t s014) (.t s016), none⟩])
 (.cond (.t s017)
 (.region [xm s020 s005,
 xm s021 s000,
 xm s022 s001,
 ⟨some s023, .bin .add (.t s022) (.c (.int .i64 1)), none⟩,
 ⟨some s024, .strAt (.t s021) (.t s023), none⟩,
 ⟨some s025, .convInt .i64 (.t s024), none⟩,
 ⟨some s026, .bin .add (.t s020) (.t s025), none⟩,
 xm s005 s026])
 (.skip)))
 (.seq (.region [xm s027 s005,
 xm s004 s027])
 (.ret))))
def r_custref_WordAt : List XR := [.tmp s004]
theorem ok_custref_WordAt : okC Try.prog Try.f71.ntmps (bodyOf Try.f71) x_custref_WordAt = true := by kernel_rfl
theorem okr_custref_WordAt : okRs Try.prog Try.f71.results.toList r_custref_WordAt = true := by kernel_rfl
end Go.Proofs.Ytidogmmfakcfgaa
