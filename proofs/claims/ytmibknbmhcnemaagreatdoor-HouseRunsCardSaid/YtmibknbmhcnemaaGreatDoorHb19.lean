import Derived.Test.YtmibknbmhcnemaaGreatDoorHb18
set_option linter.unusedVariables false
set_option linter.unusedSimpArgs false
namespace Go.Proofs.YtmibknbmhcnemaaGreatDoor
attribute [local irreducible] zF Go
set_option maxRecDepth 100000
theorem fS (i:Nat) (x y:Int) (hx₀:0≤x) (hx:x % 2 ^ i=0) (hx₁:x<2 ^ 62) (hy₀:0≤y) (hy:y<2 ^ i) (hy₁:y<2 ^ 62):bits .or .i64 x y=x+y:=
 bits_join .i64 62 (by decide) ma i x y hx₀ hx hx₁ hy₀ hy hy₁
theorem Xo (n:Int) (h0:0≤n) (h1:n<2 ^ 32):IntKind.u32.wrap n=n:=IntWalk.u32_in _ (by omega)
theorem lE (i:Nat) (x y:Int) (hx₀:0≤x) (hx:x % 2 ^ i=0) (hx₁:x<2 ^ 32) (hy₀:0≤y) (hy:y<2 ^ i) (hy₁:y<2 ^ 32):bits .or .u32 x y=x+y:=
 bits_join .u32 32 (by decide) Xo i x y hx₀ hx hx₁ hy₀ hy hy₁
def yZ (l:List UInt8) (i:Nat):Int:=65536*z3 l i+z3 l (i+2)
theorem wt (l:List UInt8) (i:Nat):0≤yZ l i∧yZ l i<4294967296:=by
 have h1:=zh l i
 have h2:=zh l (i+2)
 unfold yZ;omega
theorem tM (l:List UInt8) (i:Nat) (hi:i+2<l.length) (hl:l.length≤9223372036854775800) (ii:Int) (hii:ii=(i:Nat)):zd Tryz.prog 166 [.v (.string (mkS l)),.v (.int .i64 ii)] (.v (.int .u32 (yZ l i))):=by
 subst hii
 have h1:=zp l i (by omega) (by omega) i rfl
 have h2:=zp l (i+2) (by omega) (by omega) ((i:Int)+2) (by omega)
 have b1:=zh l i
 have b2:=zh l (i+2)
 have e0:IntKind.i64.wrap ((i:Int)+2)=(i:Int)+2:=IntWalk.i64_in _ (by omega)
 have e1:IntKind.i64.wrap (65536*z3 l i)=65536*z3 l i:=IntWalk.i64_in _ (by omega)
 have e2:IntKind.i64.wrap (65536*z3 l i+z3 l (i+2))=yZ l i:=IntWalk.i64_in _ (by omega)
 have e3:IntKind.u32.wrap (yZ l i)=yZ l i:=IntWalk.u32_in _ (by have:=wt l i;omega)
 refine z4 {} 0 Tryz.func166 fun Γ hW=>auC ?_
 repeat' first|refine auS ?_|(first|(simp only [e0,e1,e2,e3])|(with_reducible refine z0 h1 ?_)|(with_reducible refine z0 h2 ?_))|refine auD ?_|(refine auW ?_ ?_<;>intro h<;>try exact auH)|fail
 all_goals try exact auP
 all_goals refine auV ?_
 all_goals try exact z8
 all_goals try simp only [hsM] at *
end Go.Proofs.YtmibknbmhcnemaaGreatDoor
