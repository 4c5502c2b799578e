import Derived.Test.YtaiileiodjicpaaGreatDoorTt37
import Derived.Lib.LaidTab
import Derived.Lib.LaidU8
import Derived.LaidLaws
set_option linter.unusedVariables false
set_option linter.unusedSimpArgs false
namespace Go.Proofs.YtaiileiodjicpaaGreatDoor
open Go.RowKit
theorem gA {P:Program} {W:World} {n:String} {g:Nat} {arr:Array Value} (hg:P.globalNamed n=some g) (h:W.var? P n=some arr):g<W.heap.size∧∀i,W.cell? ⟨g,i,none⟩=arr[i]?:=by
 refine ⟨?_,World.var?_cell hg h⟩
 simp only [World.var?,hg,Option.bind_some] at h
 rcases Nat.lt_or_ge g W.heap.size with h'|h'
 ·exact h'
 ·simp [Array.getElem?_eq_none h'] at h
theorem ZV {W:World} {g:Nat} {arr:Array Value} (hc:∀i,W.cell? ⟨g,i,none⟩=arr[i]?) {cs:List Value} (h:arr.toList=cs) (hn:∀c∈cs,rY c=true):oF W g cs:=by
 subst h
 refine ⟨fun i c hi=>.inl ⟨hn c (List.mem_of_getElem? hi),?_⟩,?_⟩
 ·rw [hc i,←Array.getElem?_toList]
  exact hi
 ·rw [hc]
  simp
theorem iI {P:Program} {laid:List (String×DataW Unit)} {W:World} (h:laidMet P laid W) {name:String} {k:IntKind} {zs:List Int} (hm:(name,Lib.tabData k zs)∈laid) {g:Nat} {t e:TypeId} {n:Nat}
  (hg:P.globalNamed name=some g) (hty:(P.globals[g]?).map (·.type)=some t) (ht:P.underlying t=some (.array n e)) (he:P.underlying e=some (.int k)) (hce:P.cellsOf e=1) (hct:P.cellsOf t=n):g<W.heap.size∧oF W g (zs.map (Value.int k)):=by
 obtain ⟨g',t',cs,fuel,p,hg',ht',hvar,hd⟩:=Lib.laidMet.reads h hm
 obtain rfl:=Option.some.inj (hg.symm.trans hg')
 obtain rfl:=Option.some.inj (hty.symm.trans ht')
 obtain ⟨h1,h2⟩:=gA hg hvar
 exact ⟨h1,ZV h2 (Lib.cells_of_tab ht he hce hct hd) (fun c hc=>by
  obtain ⟨z,-,rfl⟩:=List.mem_map.1 hc
  rfl)⟩
theorem iC {P:Program} {laid:List (String×DataW Unit)} {W:World} (h:laidMet P laid W) {name nm:String} {d:DataW Unit} (hm:(name,.iface nm d)∈laid) {g:Nat} {t:TypeId} {ms:Array (String×TypeId)}
  (hg:P.globalNamed name=some g) (hty:(P.globals[g]?).map (·.type)=some t) (ht:P.underlying t=some (.interface ms)):g<W.heap.size∧oF W g [.tuple #[]]:=by
 obtain ⟨g',t',cs,fuel,p,hg',ht',hvar,hd⟩:=Lib.laidMet.reads h hm
 obtain rfl:=Option.some.inj (hg.symm.trans hg')
 obtain rfl:=Option.some.inj (hty.symm.trans ht')
 obtain ⟨h1,h2⟩:=gA hg hvar
 obtain ⟨f1,u,v,hcs,-,-⟩:=iface_of_trod ht hd
 obtain ⟨l⟩:=cs
 have hcs:l=[.iface u v]:=hcs
 subst hcs
 refine ⟨h1,fun i c hi=>?_,?_⟩
 ·match i,hi with
  |0,hi=>
   obtain rfl:=Option.some.inj hi
   exact .inr ⟨rfl,(show U5 _ from ⟨.iface u v,by rw [h2];rfl,.inr ⟨u,v,rfl⟩⟩)⟩
  |i+1,hi=>simp at hi
 ·rw [h2]
  rfl
theorem sR {P:Program} {W:World} {name:String} {k:IntKind} {zs:List Int} {g:Nat} (hg:P.globalNamed name=some g) (hne:zs≠[]) (h:oF W g (zs.map (Value.int k))):Lib.TabIs P W name k zs:=by
 have hcell:∀i c,(zs.map (Value.int k))[i]?=some c→W.cell? ⟨g,i,none⟩=some c:=fun i c hi=>kd (h.1 i c hi) (by
  obtain ⟨z,-,rfl⟩:=List.mem_map.1 (List.mem_of_getElem? hi)
  rfl)
 have hlast:=h.2
 obtain ⟨z,r,rfl⟩:=List.exists_cons_of_ne_nil hne
 have h0:=hcell 0 _ rfl
 unfold Lib.TabIs World.var?
 rw [hg]
 show (match W.heap[g]? with|some (.cells cs _ _)=>some cs|_=>none)=_
 unfold World.cell? at h0 hlast hcell
 cases hb:W.heap[g]? with
 |none=>simp [hb] at h0
 |some ob=>
  cases ob with
  |cells arr t fr=>
   dsimp only
   congr 1
   simp only [hb] at hcell hlast
   apply Array.ext'
   apply List.ext_getElem?
   intro i
   by_cases hi:i<(z::r).length
   ·have hq:((z::r).map (Value.int k))[i]?=some (Value.int k ((z::r)[i]'hi)):=by rw [List.getElem?_map,List.getElem?_eq_getElem hi];rfl
    have h3:arr[i]?=some (Value.int k ((z::r)[i]'hi)):=hcell i _ hq
    rw [Array.getElem?_toList,h3]
    exact hq.symm
   ·have hle:arr.size≤(z::r).length:=by
     have:arr[((z::r).map (Value.int k)).length]?=none:=hlast
     rw [List.length_map] at this
     simpa using this
    rw [List.getElem?_eq_none (by simpa using Nat.le_trans hle (Nat.not_lt.1 hi)),List.getElem?_eq_none (by simpa using Nat.not_lt.1 hi)]
  |_=>simp [hb] at h0
end Go.Proofs.YtaiileiodjicpaaGreatDoor
