import Derived.WalkKit
import Derived.ProofKit
import Derived.OpenShut
import Derived.Deep.Slices
import Derived.SizedLaws
import Derived.Carry
import Derived.Lib.Hide
import Derived.Laws.Rows
import Derived.Laws.BytesArg
import Derived.Laws.IdiomStrings
import Derived.Laws.OwnMore
import Derived.Deep.Draws
import Derived.Lib.LaidTab
import Derived.Lib.LaidU8
import Derived.LaidLaws
import Derived.Test.YtmibknbmhcnemaaGreatDoorRows
import Derived.Test.YtmibknbmhcnemaaGreatDoorTie
import Derived.Test.YtmibknbmhcnemaaGreatDoorCards
import Derived.SevenTiedAt
import Derived.LaidHandle
import Derived.LaidMore
import Derived.MakeChecks
import Derived.Stop.Joined
import Derived.Shelf.Vars
import Derived.Lay
import Derived.Test.YtmibknbmhcnemaaGreatDoorHb16
set_option linter.unusedVariables false
set_option linter.unusedSimpArgs false
namespace Go.Proofs.YtmibknbmhcnemaaGreatDoor
open Go.ChangeShapes Go.WideShapes Go.ChangeAt Go.RowKit
inductive Sh where
 |int (k:IntKind)
 |bool
 |str
 |nil
 |cons (s r:Sh)
 |slice (bytes size:Nat) (e:Sh)
def Sh.size:Sh→Nat
 |.nil=>0
 |.cons s r=>s.size+r.size
 |_=>1
def nw (P:Program) (t:TypeId):Option (List (Nat×TypeId)):=
 match P.underlying t with
 |some (.struct fs)=>some (fs.toList.map fun f=>(f.offset,f.type))
 |some (.array n e)=>some ((List.range n).map fun i=>(i*P.cellsOf e,e))
 |_=>none
def Sh.fit (P:Program):Sh→Option (Nat×List (Nat×TypeId))→TypeId→Bool
 |.int k,none,t=>match P.underlying t with|some (.int k')=>decide (k'=k)|_=>false
 |.bool,none,t=>match P.underlying t with|some .bool=>true|_=>false
 |.str,none,t=>match P.underlying t with|some .string=>true|_=>false
 |.slice b n e,none,t=>match P.underlying t with
  |some (.slice te)=>decide (P.cellsOf te=n)&&decide (P.bytesOf te=b)&&decide (0<n)&&e.fit P none te
  |_=>false
 |.cons s r,none,t=>match nw P t with
  |some ((o,t')::ts)=>decide (o=0)&&decide (P.cellsOf t'=s.size)&&s.fit P none t'&&r.fit P (some (s.size,ts)) t&&decide (P.cellsOf t=s.size+r.size)
  |_=>false
 |.nil,some (_,[]),_=>true
 |.cons s r,some (o,(o',t')::ts),t=>decide (o'=o)&&decide (P.cellsOf t'=s.size)&&s.fit P none t'&&r.fit P (some (o+s.size,ts)) t
 |_,_,_=>false
def opn (w:World) (B:Nat):Sh→List Value→Prop
 |.int k,cs=>∃n,cs=[.int k n]∧(Lit.int k n).wf=true
 |.bool,cs=>∃b,cs=[.bool b]
 |.str,cs=>∃s:ByteArray,cs=[.string s]∧s.size≤140737488351232
 |.nil,cs=>cs=[]
 |.cons s r,cs=>∃c1 c2,cs=c1++c2∧c1.length=s.size∧opn w B s c1∧opn w B r c2
 |.slice b n e,cs=>∃ (A:Option Addr) (len cap:Nat),cs=[.slice A len cap]∧len≤cap∧cap*b≤140737488351232∧cap≤maxLen∧(A=none→cap=0)∧
   ∀ad,A=some ad→(0<len→ad.block<B)∧∀i,i<len→∃es,es.length=n∧(∀j,j<n→w.cell? (ad.add (i*n+j))=es[j]?)∧opn w B e es
section
variable {H:Type} {enc:TypeId×Value→H} {P:Program} {w:World} {B:Nat}
theorem tv {e:TypeId} {n:Nat}:∀ {l:List (DataW H)},(DataW.weightsAll P e l).all (·≤n)=true→∀d∈l,(d.weights P e).all (·≤n)=true
 |[],_,d,hd=>by simp at hd
 |x::r,h,d,hd=>by
  simp only [DataW.weightsAll,List.all_append,Bool.and_eq_true] at h
  rcases List.mem_cons.1 hd with rfl|hd
  ·exact h.1
  ·exact tv h.2 d hd
theorem r6 {n:Nat}:∀ {ts:List TypeId} {l:List (DataW H)},(DataW.weightsEach P ts l).all (·≤n)=true→∀(i:Nat) t d,ts[i]?=some t→l[i]?=some d→(d.weights P t).all (·≤n)=true
 |[],_,_,i,t,d,ht,_=>by simp at ht
 |_::_,[],_,i,t,d,_,hd=>by simp at hd
 |t0::ts,x::r,h,i,t,d,ht,hd=>by
  simp only [DataW.weightsEach,List.all_append,Bool.and_eq_true] at h
  cases i with
  |zero=>simp at ht hd;subst ht hd;exact h.1
  |succ i=>simp at ht hd;exact r6 h.2 i t d ht hd
theorem js {base:Nat} {spare:Nat→Bool} {held:Bool} {t:TypeId} {ts:List (Nat×TypeId)} (hm:nw P t=some ts) {fuel:Nat} {cs:List Value} {d:DataW H} {ps:List MemPlace}
  (h:DataW.trod enc P w base spare held fuel t cs=some (d,ps)) (hwt:(d.weights P t).all (·≤reachBytes)=true) (hb:∀p∈ps,p.block<B) :
  ∃ (xs:List (DataW H×List MemPlace)) (n:Nat),cs.length=P.cellsOf t∧xs.length=ts.length∧
    (∀(i:Nat) (m:Nat×TypeId),ts[i]?=some m→DataW.trod enc P w base spare held n m.2 ((cs.drop m.1).take (P.cellsOf m.2))=xs[i]?)∧
    (∀(i:Nat) (m:Nat×TypeId) (x:DataW H×List MemPlace),ts[i]?=some m→xs[i]?=some x→(x.1.weights P m.2).all (·≤reachBytes)=true)∧∀x∈xs,∀p∈x.2,p.block<B:=by
 unfold nw at hm
 split at hm
 ·rename_i fs hu
  injection hm with hm
  subst hm
  obtain ⟨xs,n,_,hx,hl,hxl,hf⟩:=DataW.trod_struct hu h
  simp only [Prod.mk.injEq] at hx
  obtain ⟨rfl,rfl⟩:=hx
  refine ⟨xs,n,hl,by simpa using hxl,fun i m hi=>?_,fun i m x hi hx=>?_,fun x hx p hp=>hb p (List.mem_flatMap.2 ⟨x,hx,hp⟩)⟩
  ·rw [List.getElem?_map] at hi
   cases hfi:fs[i]? with
   |none=>rw [show fs.toList[i]?=fs[i]? by simp,hfi] at hi;simp at hi
   |some f=>rw [show fs.toList[i]?=fs[i]? by simp,hfi] at hi;simp at hi;subst hi;exact hf i f hfi
  ·simp only [DataW.weights,hu] at hwt
   refine r6 hwt i m.2 x.1 ?_ (by simp [hx])
   rw [List.getElem?_map] at hi ⊢
   cases hfi:fs.toList[i]? with
   |none=>rw [hfi] at hi;simp at hi
   |some f=>rw [hfi] at hi;simp at hi;subst hi;simp
 ·rename_i k e hu
  injection hm with hm
  subst hm
  obtain ⟨xs,n,_,hx,hl,hxl,hf⟩:=DataW.trod_array hu h
  simp only [Prod.mk.injEq] at hx
  obtain ⟨rfl,rfl⟩:=hx
  refine ⟨xs,n,hl,by simpa using hxl,fun i m hi=>?_,fun i m x hi hx=>?_,fun x hx p hp=>hb p (List.mem_flatMap.2 ⟨x,hx,hp⟩)⟩
  ·by_cases hik:i<k
   ·simp [List.getElem?_map,List.getElem?_range hik] at hi;subst hi;exact hf i hik
   ·simp [List.getElem?_map,List.getElem?_eq_none (show (List.range k).length≤i by simpa using hik)] at hi
  ·simp only [DataW.weights,hu] at hwt
   by_cases hik:i<k
   ·simp [List.getElem?_map,List.getElem?_range hik] at hi;subst hi
    exact tv hwt x.1 (List.mem_map.2 ⟨x,List.mem_of_getElem? hx,rfl⟩)
   ·simp [List.getElem?_map,List.getElem?_eq_none (show (List.range k).length≤i by simpa using hik)] at hi
 ·cases hm
theorem U0 (sh:Sh):(∀ {t:TypeId} {fuel:Nat} {cs:List Value} {d:DataW H} {ps:List MemPlace},sh.fit P none t=true→DataW.trod enc P w 0 (fun _=>true) true fuel t cs=some (d,ps)→
   (d.weights P t).all (·≤reachBytes)=true→(∀p∈ps,p.block<B)→opn w B sh cs∧cs.length=sh.size)∧
  (∀ {o:Nat} {ts:List (Nat×TypeId)} {t:TypeId} {fuel:Nat} {cs:List Value} {xs:List (DataW H×List MemPlace)},sh.fit P (some (o,ts)) t=true→xs.length=ts.length→
   (∀(i:Nat) (m:Nat×TypeId),ts[i]?=some m→DataW.trod enc P w 0 (fun _=>true) true fuel m.2 ((cs.drop m.1).take (P.cellsOf m.2))=xs[i]?)→
   (∀(i:Nat) (m:Nat×TypeId) (x:DataW H×List MemPlace),ts[i]?=some m→xs[i]?=some x→(x.1.weights P m.2).all (·≤reachBytes)=true)→(∀x∈xs,∀p∈x.2,p.block<B)→cs.length=o+sh.size→opn w B sh (cs.drop o)):=by
 induction sh with
 |int k=>
  refine ⟨fun {t fuel cs d ps} hf h hw hb=>?_,fun {o ts t fuel cs xs} hf=>by simp [Sh.fit] at hf⟩
  simp only [Sh.fit] at hf
  split at hf
  ·rename_i k' hu
   obtain rfl:=of_decide_eq_true hf
   obtain ⟨n,rfl,_,hwf⟩:=DataW.trod_int hu h
   exact ⟨⟨n,rfl,hwf⟩,rfl⟩
  ·cases hf
 |bool=>
  refine ⟨fun {t fuel cs d ps} hf h hw hb=>?_,fun {o ts t fuel cs xs} hf=>by simp [Sh.fit] at hf⟩
  simp only [Sh.fit] at hf
  split at hf
  ·rename_i hu
   obtain ⟨b,rfl,_⟩:=DataW.trod_bool hu h
   exact ⟨⟨b,rfl⟩,rfl⟩
  ·cases hf
 |str=>
  refine ⟨fun {t fuel cs d ps} hf h hw hb=>?_,fun {o ts t fuel cs xs} hf=>by simp [Sh.fit] at hf⟩
  simp only [Sh.fit] at hf
  split at hf
  ·rename_i hu
   obtain ⟨s,rfl,hx,hwf⟩:=DataW.trod_string hu h
   simp only [Prod.mk.injEq] at hx
   obtain ⟨rfl,rfl⟩:=hx
   refine ⟨⟨s,rfl,?_⟩,rfl⟩
   simp only [DataW.weights,reachBytes,List.all_cons,List.all_nil,Bool.and_true] at hw
   exact of_decide_eq_true hw
  ·cases hf
 |nil=>
  refine ⟨fun {t fuel cs d ps} hf=>by simp [Sh.fit] at hf,fun {o ts t fuel cs xs} hf hxl h1 h2 h3 hl=>?_⟩
  show cs.drop o=[]
  exact List.drop_eq_nil_of_le (by rw [hl];simp [Sh.size])
 |cons s r ihs ihr=>
  have key:∀ {o o':Nat} {t':TypeId} {ts:List (Nat×TypeId)} {t:TypeId} {fuel:Nat} {cs:List Value} {xs:List (DataW H×List MemPlace)},o'=o→P.cellsOf t'=s.size→s.fit P none t'=true→r.fit P (some (o+s.size,ts)) t=true→
    xs.length=((o',t')::ts).length→(∀(i:Nat) (m:Nat×TypeId),((o',t')::ts)[i]?=some m→DataW.trod enc P w 0 (fun _=>true) true fuel m.2 ((cs.drop m.1).take (P.cellsOf m.2))=xs[i]?)→
    (∀(i:Nat) (m:Nat×TypeId) (x:DataW H×List MemPlace),((o',t')::ts)[i]?=some m→xs[i]?=some x→(x.1.weights P m.2).all (·≤reachBytes)=true)→(∀x∈xs,∀p∈x.2,p.block<B)→cs.length=o+(s.size+r.size)→opn w B (.cons s r) (cs.drop o):=by
   intro o o' t' ts t fuel cs xs ho hc hs hr hxl h1 h2 h3 hl
   subst ho
   match xs,hxl with
   |x0::xr,hxl=>
    have a1:=h1 0 (o',t') rfl
    simp only [hc] at a1
    have a2:=h2 0 (o',t') x0 rfl rfl
    obtain ⟨p1,p2⟩:=ihs.1 hs a1 a2 (fun p hp=>h3 x0 (by simp) p hp)
    refine ⟨(cs.drop o').take s.size,cs.drop (o'+s.size),?_,p2,p1,?_⟩
    ·rw [←List.drop_drop];exact (List.take_append_drop _ _).symm
    ·exact ihr.2 hr (by simpa using hxl) (fun i m hi=>h1 (i+1) m (by simpa using hi)) (fun i m x hi hx=>h2 (i+1) m x (by simpa using hi) (by simpa using hx)) (fun x hx=>h3 x (by simp [hx])) (by omega)
  refine ⟨fun {t fuel cs d ps} hf h hw hb=>?_,fun {o ts t fuel cs xs} hf hxl h1 h2 h3 hl=>?_⟩
  ·simp only [Sh.fit] at hf
   split at hf
   ·rename_i o t' ts hm
    simp only [Bool.and_eq_true,decide_eq_true_eq] at hf
    obtain ⟨⟨⟨⟨e1,e2⟩,e3⟩,e4⟩,e5⟩:=hf
    obtain ⟨xs,n,hl,hxl,h1,h2,h3⟩:=js hm h hw hb
    have hk:=key e1 e2 e3 (by simpa using e4) hxl h1 h2 h3 (by rw [hl,e5];omega)
    exact ⟨by simpa using hk,by rw [hl,e5];rfl⟩
   ·cases hf
  ·match ts,hf,hxl,h1,h2 with
   |[],hf,_,_,_=>simp [Sh.fit] at hf
   |(o',t')::ts,hf,hxl,h1,h2=>
    simp only [Sh.fit,Bool.and_eq_true,decide_eq_true_eq] at hf
    obtain ⟨⟨⟨e1,e2⟩,e3⟩,e4⟩:=hf
    exact key e1 e2 e3 e4 hxl h1 h2 h3 hl
 |slice b n e ihe=>
  refine ⟨fun {t fuel cs d ps} hf h hw hb=>?_,fun {o ts t fuel cs xs} hf=>by simp [Sh.fit] at hf⟩
  simp only [Sh.fit] at hf
  split at hf
  ·rename_i te hu
   simp only [Bool.and_eq_true,decide_eq_true_eq] at hf
   obtain ⟨⟨⟨e1,e2⟩,e3⟩,e4⟩:=hf
   rcases Go.Deep.open_slice hu h with ⟨rfl,_⟩|⟨a,len,cap,m,k,D,Pl,rfl,_,hlc,hcm,hm,hx,hi⟩
   ·exact ⟨⟨none,0,0,rfl,by omega,by omega,by unfold maxLen;omega,fun _=>rfl,fun ad h=>by cases h⟩,rfl⟩
   ·have hm':m=cap:=by simpa using hm
    subst hm'
    simp only [Prod.mk.injEq] at hx
    obtain ⟨rfl,rfl⟩:=hx
    simp only [DataW.weights,hu,List.all_cons,List.all_append,Bool.and_eq_true,decide_eq_true_eq,List.length_map,List.length_range,e2] at hw
    obtain ⟨w1,w2,_⟩:=hw
    refine ⟨⟨some a,len,m,rfl,hlc,?_,hcm,(fun h=>by cases h),fun ad had=>?_⟩,rfl⟩
    ·have:len+(m-len)=m:=by omega
     rw [this] at w1
     exact w1
    ·obtain rfl:=Option.some.inj had
     refine ⟨fun h0=>?_,fun i hil=>?_⟩
     ·exact hb (.cell a.block (a.off+0)) (List.mem_append.2 (.inl (List.mem_map.2 ⟨0,List.mem_range.2 (by rw [e1];exact Nat.mul_pos (by omega) e3),rfl⟩)))
     ·obtain ⟨es,hc,ht⟩:=hi i (by omega)
      obtain ⟨_,hcl,hat⟩:=World.cells?_some hc
      rw [e1] at hcl hat
      refine ⟨es,hcl,fun j hj=>?_,?_⟩
      ·rw [←Go.Deep.add_add]
       exact hat j hj
      ·exact (ihe.1 e4 ht (tv w2 _ (List.mem_map.2 ⟨i,List.mem_range.2 hil,rfl⟩)) (fun p hp=>hb p (List.mem_append.2 (.inr (List.mem_flatMap.2 ⟨i,List.mem_range.2 (by omega),hp⟩))))).1
  ·cases hf
end
theorem kW {H:Type} {enc:TypeId×Value→H} {P:Program} (hl:laidOutB P=true) {W W':World} (hb:Below W.heap.size W W'):∀ {ts:List TypeId} {vs:List Value} {ds:List (DataW H)} {ps:List MemPlace},
  ts.all (fun t=>P.readableRec t&&decide (t<P.types.size))=true→DataW.TrodAll enc P W 0 (fun _=>true) true ts vs ds ps→(∀x∈ps,x.block<W.heap.size)→DataW.TrodAll enc P W' 0 (fun b=>decide (b<W.heap.size)) true ts vs ds ps
 |[],_,_,_,_,h,_=>by
  obtain ⟨rfl,rfl,rfl⟩:=trodAll_nil h
  rfl
 |t::ts,_,_,_,hr,h,hlt=>by
  obtain ⟨v,vs1,d,ds1,a,b,rfl,rfl,rfl,h1,h2⟩:=trodAll_cons h
  simp only [List.all_cons,Bool.and_eq_true,decide_eq_true_eq] at hr
  refine ⟨a,b,Below.trod hl hr.1.1 hr.1.2 h1 hb (fun x hx=>hlt x (List.mem_append.2 (.inl hx))),kW hl hb (by simpa using hr.2) h2 (fun x hx=>hlt x (List.mem_append.2 (.inr hx))),rfl⟩
theorem rf {H:Type} {enc:TypeId×Value→H} {P:Program} {w:World} {base:Nat} {sp:Nat→Bool} {held:Bool}:∀ {ts:List TypeId} {vs:List Value} {ds:List (DataW H)} {ps:List MemPlace},DataW.TrodAll enc P w base sp held ts vs ds ps→ds.length=ts.length
 |[],_,_,_,h=>by obtain ⟨rfl,rfl,rfl⟩:=trodAll_nil h;rfl
 |t::ts,_,_,_,h=>by
  obtain ⟨v,vs1,d,ds1,a,b,rfl,rfl,rfl,h1,h2⟩:=trodAll_cons h
  simp [rf h2]
def Sh.val:Sh→List Value→Value
 |.cons _ _,cs=>.agg ⟨cs⟩
 |_,cs=>cs.headD undef
theorem VA {P:Program} {w:World} {r:Reach} {b:Nat} {t:TypeId} {v:Value}:∀(s:Sh),s.fit P none t=true→Value.okWide P w r b t v→v=s.val v.cells.toList:=by
 intro s hf hv
 cases s with
 |int k=>
  simp only [Sh.fit] at hf
  split at hf
  ·rename_i k' hu
   obtain ⟨n,rfl⟩:=okWide_int hu hv
   rfl
  ·cases hf
 |bool=>
  simp only [Sh.fit] at hf
  split at hf
  ·rename_i hu
   obtain ⟨n,rfl⟩:=okWide_bool hu hv
   rfl
  ·cases hf
 |str=>
  simp only [Sh.fit] at hf
  split at hf
  ·rename_i hu
   obtain ⟨n,rfl⟩:=okWide_string hu hv
   rfl
  ·cases hf
 |nil=>simp [Sh.fit] at hf
 |slice b n e=>
  simp only [Sh.fit] at hf
  split at hf
  ·rename_i te hu
   obtain ⟨a,l,c,rfl⟩:=okWide_slice hu hv
   rfl
  ·cases hf
 |cons s r=>
  simp only [Sh.fit,nw] at hf
  split at hf
  ·rename_i o t' ts hm
   split at hm
   ·rename_i fs hu
    obtain ⟨cs,rfl,_⟩:=okWide_struct hu hv
    rfl
   ·rename_i k e hu
    simp only [Value.okWide,hu] at hv
    obtain ⟨cs,rfl,_⟩:=hv
    rfl
   ·cases hm
  ·cases hf
def pX (w:World) (B:Nat):List Sh→List Value→Prop
 |[],vs=>vs=[]
 |s::ss,vs=>∃cs r,vs=s.val cs::r∧opn w B s cs∧pX w B ss r
theorem j9 {H:Type} {enc:TypeId×Value→H} {P:Program} {w:World} {B:Nat}:∀ {shs:List Sh} {ts:List TypeId} {vs:List Value} {ds:List (DataW H)} {ps:List MemPlace} {r:Reach} {b:Nat},
  shs.length=ts.length→(∀(i:Nat) (s:Sh) (t:TypeId),shs[i]?=some s→ts[i]?=some t→s.fit P none t=true)→(∀(j:Nat) t v,ts[j]?=some t→vs[j]?=some v→Value.okWide P w r b t v)→DataW.TrodAll enc P w 0 (fun _=>true) true ts vs ds ps→
   (DataW.weightsEach P ts ds).all (·≤reachBytes)=true→(∀p∈ps,p.block<B)→pX w B shs vs
 |[],[],_,_,_,_,_,_,_,_,h,_,_=>by
  obtain ⟨rfl,_,_⟩:=trodAll_nil h
  rfl
 |[],_::_,_,_,_,_,_,hl,_,_,_,_,_=>by simp at hl
 |_::_,[],_,_,_,_,_,hl,_,_,_,_,_=>by simp at hl
 |s::ss,t::ts,_,_,_,_,_,hl,hf,hok,h,hw,hb=>by
  obtain ⟨v,vs1,d,ds1,a,b,rfl,rfl,rfl,h1,h2⟩:=trodAll_cons h
  obtain ⟨fuel,h1⟩:=h1
  simp only [DataW.weightsEach,List.all_append,Bool.and_eq_true] at hw
  have hv:=VA s (hf 0 s t rfl rfl) (hok 0 t v rfl rfl)
  refine ⟨v.cells.toList,vs1,by rw [←hv],((U0 s).1 (hf 0 s t rfl rfl) h1 hw.1 (fun p hp=>hb p (List.mem_append.2 (.inl hp)))).1,?_⟩
  exact j9 (by simpa using hl) (fun i s' t' hi hi'=>hf (i+1) s' t' (by simpa using hi) (by simpa using hi')) (fun j t' v' hj hj'=>hok (j+1) t' v' (by simpa using hj) (by simpa using hj')) h2 hw.2 (fun p hp=>hb p (List.mem_append.2 (.inr hp)))
theorem oP {α:Type} {p:Nat→α→Prop}:∀(n:Nat),(∀i,i<n→∃x,p i x)→∃l:List α,l.length=n∧∀i (h:i<l.length),p i l[i]
 |0,_=>⟨[],rfl,fun i h=>by simp at h⟩
 |n+1,h=>by
  obtain ⟨l,hl,hp⟩:=oP n (fun i hi=>h i (by omega))
  obtain ⟨x,hx⟩:=h n (by omega)
  refine ⟨l++[x],by simp [hl],fun i hi=>?_⟩
  by_cases hin:i<l.length
  ·rw [List.getElem_append_left hin];exact hp i hin
  ·have:i=l.length:=by simp at hi;omega
   subst this
   rw [List.getElem_append_right (Nat.le_refl _)]
   simp [hl] at hx ⊢
   simpa [hl] using hx
end Go.Proofs.YtmibknbmhcnemaaGreatDoor
namespace Go.Proofs.YtmibknbmhcnemaaGreatDoor
open Go.RowKit
def TS:Sh→Type
 |.int _=>Int
 |.bool=>Bool
 |.str=>ByteArray
 |.nil=>Unit
 |.cons s r=>TS s×TS r
 |.slice _ _ e=>List (TS e)
def tX:(s:Sh)→TS s→List DV
 |.int k,n=>[.v (.int k n)]
 |.bool,b=>[.v (.bool b)]
 |.str,t=>[.v (.string t)]
 |.nil,_=>[]
 |.cons s r,(x,y)=>tX s x++tX r y
 |.slice _ n e,(l:List (TS e))=>[.snap n (l.map (tX e)) false]
def wfS:(s:Sh)→TS s→Prop
 |.int k,n=>(Lit.int k n).wf=true
 |.bool,_=>True
 |.str,t=>t.size≤140737488351232
 |.nil,_=>True
 |.cons s r,(x,y)=>wfS s x∧wfS r y
 |.slice b _ e,(l:List (TS e))=>l.length*b≤140737488351232∧l.length≤maxLen∧∀x∈l,wfS e x
def Sh.posB:Sh→Bool
 |.cons s r=>s.posB&&r.posB
 |.slice _ n e=>decide (0<n)&&decide (n=e.size)&&e.posB
 |_=>true
def K0:Kr:=⟨fun _=>False,fun _=>False,fun _=>0,fun _=>False⟩
theorem vc:∀(s:Sh) (x:TS s),(tX s x).length=s.size
 |.int k,x=>rfl
 |.bool,x=>rfl
 |.str,x=>rfl
 |.nil,x=>rfl
 |.cons s r,(x,y)=>by simp [tX,Sh.size,vc s x,vc r y]
 |.slice b n e,x=>rfl
theorem rS {w:World}:∀(s:Sh) (cs:List Value),s.posB=true→opn w w.heap.size s cs→∃x:TS s,cs.length=s.size∧wfS s x∧∀(i:Nat) (d:DV) (c:Value),(tX s x)[i]?=some d→cs[i]?=some c→zg K0 w d c
 |.int k,cs,_,h=>by
  obtain ⟨n,rfl,hw⟩:=h
  refine ⟨n,rfl,hw,fun i d c hd hc=>?_⟩
  cases i with
  |zero=>simp [tX] at hd hc;rw [←hd,←hc];exact .v _
  |succ i=>simp at hc
 |.bool,cs,_,h=>by
  obtain ⟨n,rfl⟩:=h
  refine ⟨n,rfl,trivial,fun i d c hd hc=>?_⟩
  cases i with
  |zero=>simp [tX] at hd hc;rw [←hd,←hc];exact .v _
  |succ i=>simp at hc
 |.str,cs,_,h=>by
  obtain ⟨n,rfl,hw⟩:=h
  refine ⟨n,rfl,hw,fun i d c hd hc=>?_⟩
  cases i with
  |zero=>simp [tX] at hd hc;rw [←hd,←hc];exact .v _
  |succ i=>simp at hc
 |.nil,cs,_,h=>by
  have h':cs=[]:=h
  subst h'
  exact ⟨(),rfl,trivial,fun i d c hd hc=>by simp at hc⟩
 |.cons s r,cs,hp,h=>by
  simp only [Sh.posB,Bool.and_eq_true] at hp
  obtain ⟨c1,c2,rfl,hl,h1,h2⟩:=h
  obtain ⟨x,x1,x2,x3⟩:=rS s c1 hp.1 h1
  obtain ⟨y,y1,y2,y3⟩:=rS r c2 hp.2 h2
  refine ⟨(x,y),by simp [Sh.size,x1,y1],⟨x2,y2⟩,fun i d c hd hc=>?_⟩
  simp only [tX] at hd
  have e:(tX s x).length=c1.length:=by rw [vc,x1]
  by_cases hi:i<c1.length
  ·rw [List.getElem?_append_left (by omega)] at hd
   rw [List.getElem?_append_left hi] at hc
   exact x3 i d c hd hc
  ·rw [List.getElem?_append_right (by omega),e] at hd
   rw [List.getElem?_append_right (by omega)] at hc
   exact y3 _ d c hd hc
 |.slice b n e,cs,hp,h=>by
  simp only [Sh.posB,Bool.and_eq_true,decide_eq_true_eq] at hp
  obtain ⟨⟨hn,hne⟩,hpe⟩:=hp
  obtain ⟨A,len,cap,rfl,hlc,hb,hm,hA,had⟩:=h
  have hel:∀i,i<len→∃x:TS e,wfS e x∧∀ad,A=some ad→∀(j:Nat) (d:DV),(tX e x)[j]?=some d→∃c,w.cell? (ad.add (i*n+j))=some c∧zg K0 w d c:=by
   intro i hi
   cases A with
   |none=>have:=hA rfl;omega
   |some ad=>
    obtain ⟨_,h2⟩:=had ad rfl
    obtain ⟨es,h3,h4,h5⟩:=h2 i hi
    obtain ⟨x,x1,x2,x3⟩:=rS e es hpe h5
    refine ⟨x,x2,fun ad' e' j d hd=>?_⟩
    obtain rfl:=Option.some.inj e'
    have hj:j<n:=by rw [hne,←vc e x];exact (List.getElem?_eq_some_iff.1 hd).1
    have hj2:j<es.length:=by omega
    exact ⟨es[j],by rw [h4 j hj];exact List.getElem?_eq_getElem hj2,x3 j d _ hd (List.getElem?_eq_getElem hj2)⟩
  obtain ⟨l,hl,hx⟩:=oP len hel
  refine ⟨l,rfl,⟨by rw [hl];exact Nat.le_trans (Nat.mul_le_mul_right _ hlc) hb,by rw [hl];omega,fun x hx'=>?_⟩,fun i d c hd hc=>?_⟩
  ·obtain ⟨i,hi,rfl⟩:=List.mem_iff_getElem.1 hx'
   exact (hx i hi).1
  ·cases i with
   |succ i=>simp at hc
   |zero=>
    simp [tX] at hd hc
    subst hd hc
    have key:∀(ad:Addr) (i:Nat) (x:List DV) (j:Nat) (d:DV),A=some ad→(l.map (tX e))[i]?=some x→x[j]?=some d→∃c,w.cell? (ad.add (i*n+j))=some c∧zg K0 w d c:=by
     intro ad i x j d hA hx' hd
     rw [List.getElem?_map] at hx'
     cases hq:l[i]? with
     |none=>rw [hq] at hx';cases hx'
     |some y=>
      rw [hq] at hx'
      obtain rfl:=Option.some.inj hx'
      obtain ⟨hi,he⟩:=List.getElem?_eq_some_iff.1 hq
      have:=(hx i hi).2 ad hA j d (by rw [he];exact hd)
      exact this
    refine .snap (fun i j=>match A with|some ad=>(w.cell? (ad.add (i*n+j))).getD undef|none=>undef) (by simp [hl]) hlc (fun h=>by cases h) (fun x hx'=>?_) (fun h0=>?_) (fun ad i x j d hA hx' hd=>?_) (fun i x j d hx' hd=>?_)
    ·obtain ⟨y,_,rfl⟩:=List.mem_map.1 hx'
     rw [vc,hne]
    ·cases A with
     |none=>have:=hA rfl;omega
     |some ad=>
      refine ⟨ad,rfl,?_,(had ad rfl).1 h0,fun h=>h⟩
      obtain ⟨es,h3,h4,h5⟩:=(had ad rfl).2 0 h0
      have h6:=h4 0 hn
      rw [Nat.zero_mul,List.getElem?_eq_getElem (by omega:0<es.length)] at h6
      have h7:ad.add 0=ad:=by simp [Addr.add]
      rw [h7] at h6
      unfold World.cell? at h6
      split at h6
      ·split at h6
       ·cases h6
       ·rename_i hsp;simpa using hsp
      ·cases h6
    ·obtain ⟨c,e1,e2⟩:=key ad i x j d hA hx' hd
     subst hA
     simp [e1]
    ·have hi:i<len:=by
      have:=(List.getElem?_eq_some_iff.1 hx').1
      simpa [hl] using this
     cases A with
     |none=>have:=hA rfl;omega
     |some ad=>
      obtain ⟨c,e1,e2⟩:=key ad i x j d rfl hx' hd
      simp only [e1,Option.getD_some]
      exact e2
def U_:(s:Sh)→TS s→DV
 |.int k,n=>.v (.int k n)
 |.bool,b=>.v (.bool b)
 |.str,t=>.v (.string t)
 |.nil,_=>.any
 |.cons s r,(x,y)=>.agg (tX s x++tX r y)
 |.slice _ n e,(l:List (TS e))=>.snap n (l.map (tX e)) false
theorem Zb {w:World} {s:Sh} {cs:List Value} (hp:s.posB=true) (hs:s≠.nil) (h:opn w w.heap.size s cs):∃x:TS s,wfS s x∧zg K0 w (U_ s x) (s.val cs):=by
 obtain ⟨x,x1,x2,x3⟩:=rS s cs hp h
 refine ⟨x,x2,?_⟩
 have one:s.size=1→(tX s x).length=1→zg K0 w ((tX s x).headD .any) (cs.headD undef):=by
  intro h1 h2
  obtain ⟨d,hd⟩:=List.length_eq_one_iff.1 h2
  obtain ⟨c,hc⟩:=List.length_eq_one_iff.1 (x1.trans h1)
  rw [hd,hc] at x3 ⊢
  exact x3 0 d c rfl rfl
 cases s with
 |nil=>exact absurd rfl hs
 |cons s r=>
  obtain ⟨y,z⟩:=x
  have hl:=vc (.cons s r) (y,z)
  exact .agg (ds:=tX s y++tX r z) (by simp only [List.size_toArray];rw [x1,←hl];rfl) (fun i d c hd hc=>x3 i d c hd (by simpa using hc))
 |int k=>exact one rfl rfl
 |bool=>exact one rfl rfl
 |str=>exact one rfl rfl
 |slice b n e=>exact one rfl rfl
def TSs:List Sh→Type
 |[]=>Unit
 |s::r=>TS s×TSs r
def pG:(ss:List Sh)→TSs ss→List DV
 |[],_=>[]
 |s::r,(x,y)=>U_ s x::pG r y
def VB:(ss:List Sh)→TSs ss→Prop
 |[],_=>True
 |s::r,(x,y)=>wfS s x∧VB r y
def Sh.okB:Sh→Bool
 |.nil=>false
 |s=>s.posB
theorem kX {w:World}:∀(ss:List Sh) (vs:List Value),ss.all Sh.okB=true→pX w w.heap.size ss vs→∃x:TSs ss,VB ss x∧zM K0 w (pG ss x) vs.toArray
 |[],vs,_,h=>by
  have h':vs=[]:=h
  subst h'
  exact ⟨(),trivial,rfl,fun i d v hd=>by simp [pG] at hd⟩
 |s::r,vs,hp,h=>by
  simp only [List.all_cons,Bool.and_eq_true] at hp
  obtain ⟨cs,vr,rfl,h1,h2⟩:=h
  have hs:s≠.nil:=by rintro rfl;simp [Sh.okB] at hp
  have hp1:s.posB=true:=by have:=hp.1;cases s<;>first|exact absurd rfl hs|exact this
  obtain ⟨x,x1,x2⟩:=Zb hp1 hs h1
  obtain ⟨y,y1,y2,y3⟩:=kX r vr hp.2 h2
  refine ⟨(x,y),⟨x1,y1⟩,by simpa [pG] using y2,fun i d v hd hv=>?_⟩
  cases i with
  |zero=>simp [pG] at hd hv;rw [←hd,←hv];exact x2
  |succ i=>exact y3 i d v (by simpa [pG] using hd) (by simpa using hv)
theorem Xx {P:Program} {f:FuncId} {shs:List Sh} {W:World} {args:Array Value} (hok:shs.all Sh.okB=true) (h:pX W W.heap.size shs args.toList) (hspec:∀x:TSs shs,VB shs x→zd P f (pG shs x) (.v (.bool true))) (hgl:Vm W:=by exact globW_nil _) :
  Calls P f args W fun e W'=>e=.returned (.bool true)∧Below W.heap.size W W':=by
 obtain ⟨x,hx,ha⟩:=kX shs args.toList hok h
 have ha':zM (K0.cut W) W (pG shs x) args:=ub (by simpa using ha)
 have hI:Inv (xt K0 W 0 []) (K0.cut W) (zc []) W:=⟨Ext.refl _ _,⟨fun n h=>h.elim,fun n h=>h.elim,fun n h=>h.elim,fun g _=>Iff.rfl⟩,fun k o h=>by simp [zc] at h,fun k k' o o' h=>by simp [zc] at h,fun n h=>h,fun n h=>h.elim,fun k o h=>by simp [zc] at h,fun k o h=>by simp [zc] at h,fun g cs hg=>⟨fun ⟨_,_,q,_⟩=>by simp [zc] at q,fun q=>q.1,hgl g cs hg⟩⟩
 refine ((hspec x hx).2 K0 W args 0 hI (fun n h=>h.elim) ha').mono ?_
 rintro e w' ⟨v,d,H1,rfl,⟨rfl,rfl⟩,hI',hv⟩
 refine ⟨by rw [zv hv],hI'.ext.os,hI'.ext.tape,hI'.ext.output,hI'.ext.size,fun k hk=>hI'.ext.keep k hk ?_⟩
 rintro ⟨j,o,h,_⟩
 simp [xt,zc] at h
end Go.Proofs.YtmibknbmhcnemaaGreatDoor
namespace Go.Proofs.YtmibknbmhcnemaaGreatDoor
open Go.RowKit
theorem YD {P:Program} {W:World} {n:String} {g:Nat} {arr:Array Value} (hg:P.globalNamed n=some g) (h:W.var? P n=some arr):g<W.heap.size∧∀i,W.cell? ⟨g,i,none⟩=arr[i]?:=by
 refine ⟨?_,World.var?_cell hg h⟩
 simp only [World.var?,hg,Option.bind_some] at h
 rcases Nat.lt_or_ge g W.heap.size with h'|h'
 ·exact h'
 ·simp [Array.getElem?_eq_none h'] at h
theorem Zn {W:World} {g:Nat} {arr:Array Value} (hc:∀i,W.cell? ⟨g,i,none⟩=arr[i]?) {cs:List Value} (h:arr.toList=cs) (hn:∀c∈cs,pY c=true):gk W g cs:=by
 subst h
 refine ⟨fun i c hi=>.inl ⟨hn c (List.mem_of_getElem? hi),?_⟩,?_⟩
 ·rw [hc i,←Array.getElem?_toList]
  exact hi
 ·rw [hc]
  simp
theorem Yz {P:Program} {laid:List (String×DataW Unit)} {W:World} (h:laidMet P laid W) {name:String} {k:IntKind} {zs:List Int} (hm:(name,Lib.tabData k zs)∈laid) {g:Nat} {t e:TypeId} {n:Nat}
  (hg:P.globalNamed name=some g) (hty:(P.globals[g]?).map (·.type)=some t) (ht:P.underlying t=some (.array n e)) (he:P.underlying e=some (.int k)) (hce:P.cellsOf e=1) (hct:P.cellsOf t=n):g<W.heap.size∧gk W g (zs.map (Value.int k)):=by
 obtain ⟨g',t',cs,fuel,p,hg',ht',hvar,hd⟩:=Lib.laidMet.reads h hm
 obtain rfl:=Option.some.inj (hg.symm.trans hg')
 obtain rfl:=Option.some.inj (hty.symm.trans ht')
 obtain ⟨h1,h2⟩:=YD hg hvar
 exact ⟨h1,Zn h2 (Lib.cells_of_tab ht he hce hct hd) (fun c hc=>by
  obtain ⟨z,-,rfl⟩:=List.mem_map.1 hc
  rfl)⟩
end Go.Proofs.YtmibknbmhcnemaaGreatDoor
namespace Go.Proofs.YtmibknbmhcnemaaGreatDoor
open Go.ChangeShapes Go.WideShapes Go.ChangeAt Go.RowKit
theorem qM {H:Type} {enc:TypeId×Value→H} {C:Checked} {os:Os} {f:FuncId} {fn:Func} {s:ChangeSpec} {X:World→Array Value→Prop}
  (hX:∀(w w':World) (args:Array Value),w.heap=w'.heap→X w args→X w' args)
  (own:ownKnob C.prog.godebug=none) (started:os.Started) (noInit:C.prog.inits.idxOf? f=none) (hfn:C.prog.funcs[f]?=some fn)
  (witness:∃ (w:World) (tape:Tape) (i:Input),w.os=os∧(w.forCall tape i).Shaped C.prog∧i.vars=[]∧Input.okWide C.prog (w.forCall tape i) .any w.heap.size f i∧
   ((s.pre enc C.prog fn [] false (w.forCall tape i).memory i.args∧X (w.forCall tape i).memory i.args)∧sizedMet enc C.prog fn (OpenSpec.ofChange s) false (w.forCall tape i).memory i.args)∧({}:Assume).holds C.prog (lone (Frame.enter C.prog f i.args .normal) [] (w.forCall tape i)))
  (contract:∀(W:World) (base:Nat) (args:Array Value) (ds gs:List (DataW H)) (before:List MemPlace),
   (∀(j:Nat) t v,fn.params[j]?=some t→args[j]?=some v→Value.okWide C.prog W .any base t v)→
   DataW.Whole enc C.prog fn.params.toList s.vars false W args.toList ds gs before→
   ([]:List PathCond).all (PathCond.test C.prog ⟨fn.params.toList,ds,s.plain.varTypes C.prog,gs⟩)=true→
   (DataW.weightsEach C.prog (fn.params.toList++s.plain.varTypes C.prog) (ds++gs)).all (·≤reachBytes)=true→X W args→W.ShapedOpen C.prog→
   Calls C.prog f args W fun e W'=>∃v,e=.returned v∧s.post enc C.prog fn false true false false W args v W') :
  ReturnsInHanded {} C os f .any (fun w args=>(s.pre enc C.prog fn [] false w args∧X w args)∧sizedMet enc C.prog fn (OpenSpec.ofChange s) false w args) (s.post enc C.prog fn false true false false):=by
 refine returnsInHanded_of_calls own started noInit witness ?_
 intro w tape i _ hsh _ hok hpre _
 obtain ⟨_,_,_,fn',hfn',_,_,_,_,hval⟩:=hok
 have e:fn'=fn:=Option.some.inj (hfn'.symm.trans hfn)
 subst e
 obtain ⟨⟨⟨ds,gs,before,hw,hc⟩,hx⟩,hz⟩:=hpre
 have hw':=DataW.Whole.of_heap (w':=w.forCall tape i) (by rfl) hw
 refine (contract (w.forCall tape i) w.heap.size i.args ds gs before hval hw' hc (hz.weights hw) (hX _ _ _ (by rfl) hx) hsh).mono fun e W' ⟨v,he,hp⟩=>?_
 subst he
 exact ChangeSpec.post_blind hp
theorem o7 {C:Checked} {os:Os} {f:FuncId} {fn:Func} {s:ChangeSpec} {H:Type} {enc:TypeId×Value→H} {laid:List (String×DataW Unit)} (own:ownKnob C.prog.godebug=none) (started:os.Started) (noInit:C.prog.inits.idxOf? f=none) (hfn:C.prog.funcs[f]?=some fn)
  (witness:∃ (w:World) (tape:Tape) (i:Input),w.os=os∧(w.forCall tape i).Shaped C.prog∧i.vars=[]∧Input.okWide C.prog (w.forCall tape i) .any w.heap.size f i∧
   ((s.pre enc C.prog fn [] false (w.forCall tape i).memory i.args∧laidMetH C.prog laid (w.forCall tape i).memory)∧sizedMet enc C.prog fn (OpenSpec.ofChange s) false (w.forCall tape i).memory i.args)∧({}:Assume).holds C.prog (lone (Frame.enter C.prog f i.args .normal) [] (w.forCall tape i)))
  (shs:List Sh) (hsz:shs.length=fn.params.toList.length) (hfit:(List.range shs.length).all (fun i=>match shs[i]?,fn.params.toList[i]? with|some s,some t=>s.fit C.prog none t|_,_=>false)=true)
  (hvars:s.vars=[]) (hspec:∀ds:List (DataW H),ds.length=shs.length→(s.fn H (ds++[])).results=[.lit (.bool true)]∧(s.fn H (ds++[])).args=ds∧(s.fn H (ds++[])).vars=[]) (tb:TypeId) (hres:fn.resultTypes = #[tb]) (htb:C.prog.underlying tb=some .bool)
  (hl:laidOutB C.prog=true) (hrd:fn.params.toList.all (fun t=>C.prog.readableRec t&&decide (t<C.prog.types.size))=true)
  (core:∀(W:World) (args:Array Value),laidMetH C.prog laid W→W.ShapedOpen C.prog→pX W W.heap.size shs args.toList→Calls C.prog f args W fun e W'=>e=.returned (.bool true)∧Below W.heap.size W W') :
  ReturnsInHanded {} C os f .any (fun w args=>(s.pre enc C.prog fn [] false w args∧laidMetH C.prog laid w)∧sizedMet enc C.prog fn (OpenSpec.ofChange s) false w args) (s.post enc C.prog fn false true false false):=by
 refine qM (X:=fun w _=>laidMetH C.prog laid w) (fun _ _ _ hh h=>h.of_heap hh) own started noInit hfn witness ?_
 intro W base args ds gs before hval hW hcnd hwt hL hsh
 have hlt:∀p∈before,p.block<W.heap.size:=fun p hp=>hW.lt p hp
 have hW':=hW
 obtain ⟨p,q,hA,hV,rfl,hfz,hnd⟩:=hW
 rw [hvars] at hV
 obtain ⟨rfl,rfl⟩:=trodVars_none hV
 have hlen:=rf hA
 obtain ⟨s1,s2,s3⟩:=hspec ds (by rw [hlen,hsz])
 have hwt':(DataW.weightsEach C.prog fn.params.toList ds).all (·≤reachBytes)=true:=by
  have hv:s.plain.varTypes C.prog=[]:=by
   show s.vars.filterMap _=[]
   rw [hvars];rfl
  rw [hv,List.append_nil,List.append_nil] at hwt
  exact hwt
 have hop:=j9 (B:=W.heap.size) (shs:=shs) hsz (fun i s' t' hi ht=>by
  have h:=List.all_eq_true.1 hfit i (List.mem_range.2 (List.getElem?_eq_some_iff.1 hi).1)
  simp only [hi,ht] at h
  exact h) (fun j t v hj hv=>hval j t v (by simpa using hj) (by simpa using hv)) hA hwt' (fun x hx=>hlt x (List.mem_append.2 (.inl hx)))
 refine (core W args hL hsh hop).mono fun e W' ⟨he,hb⟩=>?_
 subst he
 refine ⟨_,rfl,ds,[],_,[],p,[],hW',?_,?_,?_,hb.frame _,fun h=>by cases h⟩
 ·rw [hres,s1]
  exact trodAll_cons_mk (shut_bool htb _) trodAll_mk0
 ·rw [s2]
  exact kW hl hb hrd hA (fun x hx=>hlt x (List.mem_append.2 (.inl hx)))
 ·rw [s3,hvars]
  rfl
end Go.Proofs.YtmibknbmhcnemaaGreatDoor
namespace Go.Proofs.YtmibknbmhcnemaaGreatDoor
open Go.ChangeShapes Go.WideShapes Go.ChangeAt Go.RowKit
theorem jz {x:Int} (h:(Lit.int .u32 x).wf=true):0≤x∧x<4294967296:=by
 have h2:IntKind.u32.min≤x∧x≤IntKind.u32.max:=by simpa [Lit.wf] using h
 have e1:IntKind.u32.min=0:=by decide
 have e2:IntKind.u32.max=4294967295:=by decide
 rw [e1,e2] at h2
 omega
theorem Ys {x:Int} (h:(Lit.int .u64 x).wf=true):0≤x∧x<18446744073709551616:=by
 have h2:IntKind.u64.min≤x∧x≤IntKind.u64.max:=by simpa [Lit.wf] using h
 have e1:IntKind.u64.min=0:=by decide
 have e2:IntKind.u64.max=18446744073709551615:=by decide
 rw [e1,e2] at h2
 omega
theorem YA (s:ByteArray):s.data.toList.length=s.size:=by
 cases s
 simp [ByteArray.size]
abbrev rlT:=(Int×Int×Unit)×(Int×Int×Unit)×Int×Int×Int×Int×Int×Bool×Unit
abbrev UB (t:rlT):R.Rl:=⟨t.1.1,t.1.2.1,t.2.1.1,t.2.1.2.1,t.2.2.1,t.2.2.2.1,t.2.2.2.2.1,t.2.2.2.2.2.1,t.2.2.2.2.2.2.1,t.2.2.2.2.2.2.2.1⟩
abbrev mtT:=Int×(Int×Int×Int×Int×Unit)×Unit
abbrev Uy (t:mtT):Mt:=⟨t.1,t.2.1.1,t.2.1.2.1,t.2.1.2.2.1,t.2.1.2.2.2.1⟩
abbrev tkT:=(Int×Int×Int×Int×Unit)×Int×Int×Int×Unit
abbrev UC (t:tkT):T.Tk:=⟨t.1.1,t.1.2.1,t.1.2.2.1,t.1.2.2.2.1,t.2.1,t.2.2.1,t.2.2.2.1⟩
abbrev mpT:=Int×Int×Int×Int×Int×Unit
abbrev Uv (t:mpT):A.Mp:=⟨t.1,t.2.1,t.2.2.1,t.2.2.2.1,t.2.2.2.2.1⟩
theorem dv {α β:Type} {l:List α} {f:α→β} {b:Nat} (h1:l.length*b≤140737488351232) (h2:l.length≤maxLen):zZ (l.map f).length b:=by rw [List.length_map];exact ⟨h2,Nat.le_trans h1 (by decide)⟩
abbrev Vx (a b c d e f:Int) (rl:List rlT) (o:Bool) (ms:List mtT) (tr:List tkT) (l b1:Int) (n1:Nat) (b2:Int) (n2:Nat) (mp:List mpT):Hs:=⟨⟨a,b,c,d,e,f,rl.map UB,o⟩,ms.map Uy,tr.map UC,⟨l,b1,n1,b2,n2,mp.map Uv⟩⟩
theorem Z8 {W:World} {laid:List (String×DataW Unit)} (hm:("math/bits.deBruijn64tab",Lib.tabData .u8 (cX.map fun (n:Nat)=>(n:Int)))∈laid) (hp:laidMetH Tryz.prog laid W→laidMet Tryz.prog laid W) (h:laidMetH Tryz.prog laid W):Vm W:=by
 intro g cs hg
 unfold eG at hg
 simp only [List.mem_cons,List.not_mem_nil,or_false,Prod.mk.injEq] at hg
 obtain ⟨rfl,rfl⟩:=hg
 exact Yz (hp h) (name := "math/bits.deBruijn64tab") (k:=.u8) (zs:=cX.map fun (n:Nat)=>(n:Int)) (n:=64) (e:=5) (t:=258) hm (by kernel_rfl) (by kernel_rfl) Tryz.underlying258 Tryz.underlying5 (by kernel_rfl) (by kernel_rfl)
end Go.Proofs.YtmibknbmhcnemaaGreatDoor
