import Derived.WalkKit
set_option linter.unusedVariables false
set_option linter.unusedSimpArgs false
namespace Go.Proofs.YtmibknbmhcnemaaGreatDoor
def b_:List Nat:=[0,1,56,2,57,49,28,3,61,58,42,50,38,29,17,4,62,47,59,36,45,43,51,22,53,39,33,30,24,18,12,5,63,55,48,27,60,41,37,16,46,35,44,21,52,32,23,11,54,26,40,15,34,20,31,10,25,14,19,9,13,8,7,6]
def j9:List Value:=b_.map (fun (n:Nat)=>.int .u8 (n:Int))
def eN:List (Nat×List Value):=
 (0,j9) ::
 []
def UF (o:Option Value):Prop:=∃ev,o=some ev∧(ev=.nilIface∨∃te pe,ev=.iface te pe)
def Uy (o:Option Value):Prop:=∃m,o=some (.int .i64 m)
def oF:Value→Bool
 |.tuple _=>false
 |_=>true
def Ue:Value→Option Value→Prop
 |.tuple ⟨[]⟩,o=>UF o
 |_,o=>Uy o
def ZQ (o:Option Value) (c:Value):Prop:=(oF c=true∧o=some c)∨(oF c=false∧Ue c o)
theorem aw {o:Option Value} {c:Value} (h:ZQ o c) (hc:oF c=true):o=some c:=by
 rcases h with h|h
 ·exact h.2
 ·rw [h.1] at hc;cases hc
def gH (W:World) (g:Nat) (cs:List Value):Prop:=(∀(i:Nat) (c:Value),cs[i]?=some c→ZQ (W.cell? ⟨g,i,none⟩) c)∧W.cell? ⟨g,cs.length,none⟩=none
def Vu (W:World):Prop:=∀(g:Nat) (cs:List Value),(g,cs)∈eN→g<W.heap.size∧gH W g cs
end Go.Proofs.YtmibknbmhcnemaaGreatDoor
