import Derived.WalkKit
import Derived.Lib.ItoaNum
set_option linter.unusedVariables false
set_option linter.unusedSimpArgs false
namespace Go.Proofs.YtaiileiodjicpaaGreatDoor
def ZX:List Nat:=[0,1,56,2,57,49,28,3,61,58,42,50,38,29,17,4,62,47,59,36,45,43,51,22,53,39,33,30,24,18,12,5,63,55,48,27,60,41,37,16,46,35,44,21,52,32,23,11,54,26,40,15,34,20,31,10,25,14,19,9,13,8,7,6]
def kp:List Value:=ZX.map (fun (n:Nat)=>.int .u8 (n:Int))
def qJ:List (Nat×List Value):=
 (5,kp) ::
 (1,Lib.pow10Tab.map (Value.int .u64)) ::
 (7,[.tuple #[]]) ::
 (6,[.tuple #[]]) ::
 (0,[.tuple #[.nilIface]]) ::
 []
def U5 (o:Option Value):Prop:=∃ev,o=some ev∧(ev=.nilIface∨∃te pe,ev=.iface te pe)
def Us (o:Option Value):Prop:=∃m,o=some (.int .i64 m)
def rY:Value→Bool
 |.tuple _=>false
 |_=>true
def Uk:Value→Option Value→Prop
 |.tuple ⟨[]⟩,o=>U5 o
 |_,o=>Us o
def fF (o:Option Value) (c:Value):Prop:=(rY c=true∧o=some c)∨(rY c=false∧Uk c o)
theorem kd {o:Option Value} {c:Value} (h:fF o c) (hc:rY c=true):o=some c:=by
 rcases h with h|h
 ·exact h.2
 ·rw [h.1] at hc;cases hc
theorem er {o:Option Value} (h:fF o (.tuple #[])) (hc:rY (.tuple #[])=false):U5 o:=by
 rcases h with h|h
 ·rw [h.1] at hc;cases hc
 ·exact h.2
def oF (W:World) (g:Nat) (cs:List Value):Prop:=(∀(i:Nat) (c:Value),cs[i]?=some c→fF (W.cell? ⟨g,i,none⟩) c)∧W.cell? ⟨g,cs.length,none⟩=none
def Vn (W:World):Prop:=∀(g:Nat) (cs:List Value),(g,cs)∈qJ→g<W.heap.size∧oF W g cs
end Go.Proofs.YtaiileiodjicpaaGreatDoor
