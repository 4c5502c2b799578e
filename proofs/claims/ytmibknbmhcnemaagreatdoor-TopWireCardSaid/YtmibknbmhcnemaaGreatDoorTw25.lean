import Derived.Test.YtmibknbmhcnemaaGreatDoorTw24
set_option linter.unusedVariables false
set_option linter.unusedSimpArgs false
namespace Go.Proofs.YtmibknbmhcnemaaGreatDoor
attribute [local irreducible] zu Go
set_option maxRecDepth 100000
theorem rb (i:Nat) (x y:Int) (hx₀:0≤x) (hx:x % 2 ^ i=0) (hx₁:x<2 ^ 62) (hy₀:0≤y) (hy:y<2 ^ i) (hy₁:y<2 ^ 62):bits .or .i64 x y=x+y:=
 bits_join .i64 62 (by decide) nj i x y hx₀ hx hx₁ hy₀ hy hy₁
theorem bP (n:Int) (h0:0≤n) (h1:n<2 ^ 32):IntKind.u32.wrap n=n:=IntWalk.u32_in _ (by omega)
theorem nc (i:Nat) (x y:Int) (hx₀:0≤x) (hx:x % 2 ^ i=0) (hx₁:x<2 ^ 32) (hy₀:0≤y) (hy:y<2 ^ i) (hy₁:y<2 ^ 32):bits .or .u32 x y=x+y:=
 bits_join .u32 32 (by decide) bP i x y hx₀ hx hx₁ hy₀ hy hy₁
def uw (l:List UInt8) (i:Nat):Int:=65536*z4 l i+z4 l (i+2)
theorem uj (l:List UInt8) (i:Nat):0≤uw l i∧uw l i<4294967296:=by
 have h1:=zr l i
 have h2:=zr l (i+2)
 unfold uw;omega
end Go.Proofs.YtmibknbmhcnemaaGreatDoor
