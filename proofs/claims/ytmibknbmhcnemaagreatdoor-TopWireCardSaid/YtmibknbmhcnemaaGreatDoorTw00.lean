import Derived.WalkKit
set_option linter.unusedVariables false
set_option linter.unusedSimpArgs false
namespace Go.Proofs.YtmibknbmhcnemaaGreatDoor
def fj:List Nat:=[0,1,56,2,57,49,28,3,61,58,42,50,38,29,17,4,62,47,59,36,45,43,51,22,53,39,33,30,24,18,12,5,63,55,48,27,60,41,37,16,46,35,44,21,52,32,23,11,54,26,40,15,34,20,31,10,25,14,19,9,13,8,7,6]
def mG:List Value:=fj.map (fun (n:Nat)=>.int .u8 (n:Int))
def gv:List (Nat×List Value):=
 (0,mG) ::
 []
def XG (o:Option Value):Prop:=∃ev,o=some ev∧(ev=.nilIface∨∃te pe,ev=.iface te pe)
def XU (o:Option Value):Prop:=∃m,o=some (.int .i64 m)
def qA:Value→Bool
 |.tuple _=>false
 |_=>true
def Xj:Value→Option Value→Prop
 |.tuple ⟨[]⟩,o=>XG o
 |_,o=>XU o
def bp (o:Option Value) (c:Value):Prop:=(qA c=true∧o=some c)∨(qA c=false∧Xj c o)
theorem eS {o:Option Value} {c:Value} (h:bp o c) (hc:qA c=true):o=some c:=by
 rcases h with h|h
 ·exact h.2
 ·rw [h.1] at hc;cases hc
def kw (W:World) (g:Nat) (cs:List Value):Prop:=(∀(i:Nat) (c:Value),cs[i]?=some c→bp (W.cell? ⟨g,i,none⟩) c)∧W.cell? ⟨g,cs.length,none⟩=none
def Yw (W:World):Prop:=∀(g:Nat) (cs:List Value),(g,cs)∈gv→g<W.heap.size∧kw W g cs
end Go.Proofs.YtmibknbmhcnemaaGreatDoor
