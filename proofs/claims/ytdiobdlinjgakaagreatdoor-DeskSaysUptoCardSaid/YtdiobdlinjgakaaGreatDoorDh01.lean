import Derived.Lib.ItoaNum
import Derived.Test.YtdiobdlinjgakaaGreatDoorDh00
set_option linter.unusedVariables false
set_option linter.unusedSimpArgs false
set_option maxHeartbeats 8000000
set_option maxRecDepth 100000
open Go.Proofs.Tryz
namespace Go.Proofs.YtdiobdlinjgakaaGreatDoor
def I7:List Nat:=[0,1,56,2,57,49,28,3,61,58,42,50,38,29,17,4,62,47,59,36,45,43,51,22,53,39,33,30,24,18,12,5,63,55,48,27,60,41,37,16,46,35,44,21,52,32,23,11,54,26,40,15,34,20,31,10,25,14,19,9,13,8,7,6]
def xf:List Value:=I7.map (fun(n:Nat)=>.int .u8 (n:Int))
def rS:List (Nat×List Value):=
 (7,xf) ::
 (3,Lib.pow10Tab.map (Value.int .u64)) ::
 (5,[.tuple #[]]) ::
 (4,[.tuple #[]]) ::
 (0,[.tuple #[.nilIface]]) ::
 []
def M9(o:Option Value):Prop:=∃b,o=some b/\(b=.nilIface\/∃c ki,b=.iface c ki)
def Bf(o:Option Value):Prop:=∃b,o=some (.int .i64 b)
def t_:Value->Bool
 |.tuple _=>false
 |_=>true
def adi:Value->Option Value->Prop
 |.tuple ⟨[]⟩,o=>M9 o
 |_,o=>Bf o
def F6(o:Option Value)(c:Value):Prop:=(t_ c=true/\o=some c)\/(t_ c=false/\adi c o)
theorem WT{o:Option Value}{c:Value}(h:F6 o c)(b:t_ c=true):o=some c:=by
 rcases h with h|h
 .exact h.2
 rw[h.1]at b;cases b
theorem adw{o:Option Value}(h:F6 o (.tuple #[]))(b:t_ (.tuple #[])=false):M9 o:=by
 rcases h with h|h
 .rw[h.1]at b;cases b
 exact h.2
theorem Rk{o:Option Value}(h:F6 o (.tuple #[.nilIface])):Bf o:=by
 rcases h with h|h
 .cases h.1
 exact h.2
def se(W:World)(g:Nat)(b:List Value):Prop:=(∀(i:Nat)(c:Value),b[i]?=some c->F6 (W.cell? ⟨g,i,none⟩) c)/\W.cell? ⟨g,b.length,none⟩=none
def Wx(W:World):Prop:=∀(g:Nat)(b:List Value),(g,b)∈rS->g<W.heap.size/\se W g b
end Go.Proofs.YtdiobdlinjgakaaGreatDoor
