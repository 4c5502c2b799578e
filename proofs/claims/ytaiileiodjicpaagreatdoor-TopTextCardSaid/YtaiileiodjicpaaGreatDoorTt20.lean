import Derived.Test.YtaiileiodjicpaaGreatDoorTt19
set_option linter.unusedVariables false
set_option linter.unusedSimpArgs false
namespace Go.Proofs.YtaiileiodjicpaaGreatDoor
theorem qf (i:Nat) (x y:Int) (hx₀:0≤x) (hx:x % 2 ^ i=0) (hx₁:x<2 ^ 62) (hy₀:0≤y) (hy:y<2 ^ i) (hy₁:y<2 ^ 62):bits .or .i64 x y=x+y:=
 bits_join .i64 62 (by decide) mS i x y hx₀ hx hx₁ hy₀ hy hy₁
theorem Y3 (n:Int) (h0:0≤n) (h1:n<2 ^ 32):IntKind.u32.wrap n=n:=IntWalk.u32_in _ (by omega)
theorem qg (i:Nat) (x y:Int) (hx₀:0≤x) (hx:x % 2 ^ i=0) (hx₁:x<2 ^ 32) (hy₀:0≤y) (hy:y<2 ^ i) (hy₁:y<2 ^ 32):bits .or .u32 x y=x+y:=
 bits_join .u32 32 (by decide) Y3 i x y hx₀ hx hx₁ hy₀ hy hy₁
def uT (l:List UInt8) (i:Nat):Int:=65536*z8 l i+z8 l (i+2)
theorem uG (l:List UInt8) (i:Nat):0≤uT l i∧uT l i<4294967296:=by
 have h1:=zD l i
 have h2:=zD l (i+2)
 unfold uT;omega
end Go.Proofs.YtaiileiodjicpaaGreatDoor
