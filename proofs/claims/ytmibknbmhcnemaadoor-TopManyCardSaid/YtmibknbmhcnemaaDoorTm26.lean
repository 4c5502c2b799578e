import Derived.Test.YtmibknbmhcnemaaDoorTm25
set_option linter.unusedVariables false
set_option linter.unusedSimpArgs false
namespace Go.Proofs.YtmibknbmhcnemaaDoor
theorem sZ (i:Nat) (x y:Int) (hx₀:0≤x) (hx:x % 2 ^ i=0) (hx₁:x<2 ^ 62) (hy₀:0≤y) (hy:y<2 ^ i) (hy₁:y<2 ^ 62):bits .or .i64 x y=x+y:=
 bits_join .i64 62 (by decide) oM i x y hx₀ hx hx₁ hy₀ hy hy₁
theorem du (n:Int) (h0:0≤n) (h1:n<2 ^ 32):IntKind.u32.wrap n=n:=IntWalk.u32_in _ (by omega)
theorem nr (i:Nat) (x y:Int) (hx₀:0≤x) (hx:x % 2 ^ i=0) (hx₁:x<2 ^ 32) (hy₀:0≤y) (hy:y<2 ^ i) (hy₁:y<2 ^ 32):bits .or .u32 x y=x+y:=
 bits_join .u32 32 (by decide) du i x y hx₀ hx hx₁ hy₀ hy hy₁
def wY (l:List UInt8) (i:Nat):Int:=65536*z3 l i+z3 l (i+2)
theorem uc (l:List UInt8) (i:Nat):0≤wY l i∧wY l i<4294967296:=by
 have h1:=zo l i
 have h2:=zo l (i+2)
 unfold wY;omega
end Go.Proofs.YtmibknbmhcnemaaDoor
