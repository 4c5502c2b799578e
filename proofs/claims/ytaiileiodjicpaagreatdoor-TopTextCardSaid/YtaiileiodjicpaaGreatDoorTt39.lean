import Derived.Test.YtaiileiodjicpaaGreatDoorTt05
import Derived.Below
set_option linter.unusedVariables false
set_option linter.unusedSimpArgs false
namespace Go.Proofs.YtaiileiodjicpaaGreatDoor
theorem v_ {w w':World} (h:RowKit.Below w.heap.size w w'):Ext (fun _=>False) w w':=
 ⟨h.os,h.tape,h.output,h.size,fun g hg _=>h.block g hg,fun g cs t fr hh=>⟨cs,fr,(h.block g (v7 hh)).trans hh,rfl⟩,.of_eq fun g _ _ hg=>h.block g (v7 hg)⟩
theorem xZ {P:Program} {f:FuncId} {ds:List DV} {D:DV} (hg:tM P f=true)
  (h:∀(K:Kr) (w:World) (vs:Array Value) (g0:Nat),Inv (yZ K w g0 []) (K.cut w) (zd []) w→zA (K.cut w) w ds vs→Calls P f vs w fun e w'=>∃v,e=.returned v∧Ext (fun _=>False) w w'∧ze (K.cut w) w' D v):zi P f ds D:=
 ⟨hg,fun K w vs g0 hI hlt hargs=>(h K w vs g0 hI hargs).mono fun e w' ⟨v,he,hx,hv⟩=>⟨v,D,[],he,⟨rfl,rfl⟩,cR hI hx,hv⟩⟩
theorem ia (b o n:Nat):(⟨b,o,none⟩:Addr).add n=⟨b,o+n,none⟩:=by
 unfold Addr.add
 split
 ·rename_i h;rw [h];rfl
 ·rfl
theorem Y8 {K:Kr} {w:World} {xs:List ByteArray} {c:Bool} {v:Value} (h:ze K w (.snap 1 (xs.map fun x=>[.v (.string x)]) c) v):∃A cap,v=.slice A xs.length cap∧xs.length≤cap∧(0<xs.length→∃bk o,A=some ⟨bk,o,none⟩∧bk<w.heap.size∧∀(j:Nat) x,xs[j]?=some x→w.cell? ⟨bk,o+j,none⟩=some (.string x)):=by
 cases h with
 |snap f hl hlc hc hs ha hcell hrel=>
  rename_i A len cap
  have hlen:len=xs.length:=by rw [←hl];simp
  subst hlen
  refine ⟨A,cap,rfl,hlc,fun h0=>?_⟩
  obtain ⟨ad,hA,hsp,hlt,-⟩:=ha h0
  obtain ⟨bk,o,sp⟩:=ad
  dsimp only at hsp hlt
  subst hsp
  refine ⟨bk,o,hA,hlt,fun j x hx=>?_⟩
  have hx2:(xs.map fun x=>[DV.v (.string x)])[j]?=some [.v (.string x)]:=by rw [List.getElem?_map,hx];rfl
  have h1:=hcell _ j _ 0 _ hA hx2 rfl
  have h2:=hrel j _ 0 _ hx2 rfl
  generalize f j 0=y at h1 h2
  cases h2
  rw [ia] at h1
  simpa using h1
theorem cS {K:Kr} {w:World} {d:DV} {vs:Array Value} (h:zA K w [d] vs):∃v,vs = #[v]∧ze K w d v:=by
 obtain ⟨hs,ha⟩:=h
 obtain ⟨l⟩:=vs
 match l,hs with
 |[a],_=>exact ⟨a,rfl,ha 0 _ _ rfl rfl⟩
theorem UG {K:Kr} {w:World} {d1 d2:DV} {vs:Array Value} (h:zA K w [d1,d2] vs):∃v1 v2,vs = #[v1,v2]∧ze K w d1 v1∧ze K w d2 v2:=by
 obtain ⟨hs,ha⟩:=h
 obtain ⟨l⟩:=vs
 match l,hs with
 |[a,b],_=>exact ⟨a,b,rfl,ha 0 _ _ rfl rfl,ha 1 _ _ rfl rfl⟩
theorem Vf {K:Kr} {w:World} {d1 d2 d3:DV} {vs:Array Value} (h:zA K w [d1,d2,d3] vs):∃v1 v2 v3,vs = #[v1,v2,v3]∧ze K w d1 v1∧ze K w d2 v2∧ze K w d3 v3:=by
 obtain ⟨hs,ha⟩:=h
 obtain ⟨l⟩:=vs
 match l,hs with
 |[a,b,c],_=>exact ⟨a,b,c,rfl,ha 0 _ _ rfl rfl,ha 1 _ _ rfl rfl,ha 2 _ _ rfl rfl⟩
end Go.Proofs.YtaiileiodjicpaaGreatDoor
