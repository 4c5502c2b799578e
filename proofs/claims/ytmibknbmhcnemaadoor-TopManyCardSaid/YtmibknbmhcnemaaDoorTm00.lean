import Derived.WalkKit
set_option linter.unusedVariables false
set_option linter.unusedSimpArgs false
namespace Go.Proofs.YtmibknbmhcnemaaDoor
def iV:List Nat:=[0,1,56,2,57,49,28,3,61,58,42,50,38,29,17,4,62,47,59,36,45,43,51,22,53,39,33,30,24,18,12,5,63,55,48,27,60,41,37,16,46,35,44,21,52,32,23,11,54,26,40,15,34,20,31,10,25,14,19,9,13,8,7,6]
def my:List Value:=iV.map (fun (n:Nat)=>.int .u8 (n:Int))
def jC:List (Nat×List Value):=
 (0,my) ::
 []
def X_ (o:Option Value):Prop:=∃ev,o=some ev∧(ev=.nilIface∨∃te pe,ev=.iface te pe)
def Xb (o:Option Value):Prop:=∃m,o=some (.int .i64 m)
def qn:Value→Bool
 |.tuple _=>false
 |_=>true
def YJ:Value→Option Value→Prop
 |.tuple ⟨[]⟩,o=>X_ o
 |_,o=>Xb o
def dI (o:Option Value) (c:Value):Prop:=(qn c=true∧o=some c)∨(qn c=false∧YJ c o)
theorem fL {o:Option Value} {c:Value} (h:dI o c) (hc:qn c=true):o=some c:=by
 rcases h with h|h
 ·exact h.2
 ·rw [h.1] at hc;cases hc
def lJ (W:World) (g:Nat) (cs:List Value):Prop:=(∀(i:Nat) (c:Value),cs[i]?=some c→dI (W.cell? ⟨g,i,none⟩) c)∧W.cell? ⟨g,cs.length,none⟩=none
def ZO (W:World):Prop:=∀(g:Nat) (cs:List Value),(g,cs)∈jC→g<W.heap.size∧lJ W g cs
end Go.Proofs.YtmibknbmhcnemaaDoor
