import Derived.WalkKit
import Derived.ProofKit
import Derived.OpenShut
import Derived.Deep.Slices
import Derived.SizedLaws
import Derived.Carry
import Derived.Lib.Hide
import Derived.Laws.Rows
import Derived.Laws.BytesArg
import Derived.Laws.IdiomStrings
import Derived.Laws.OwnMore
import Derived.Deep.Draws
import Derived.Test.YtaiileiodjicpaaGreatDoorTt02
set_option linter.unusedVariables false
set_option linter.unusedSimpArgs false
namespace Go.Proofs.YtaiileiodjicpaaGreatDoor
open Go.ChangeShapes Go.WideShapes Go.ChangeAt Go.RowKit
inductive Sh where
 |int (k:IntKind)
 |bool
 |str
 |nil
 |cons (s r:Sh)
 |slice (bytes size:Nat) (e:Sh)
def Sh.size:Sh→Nat
 |.nil=>0
 |.cons s r=>s.size+r.size
 |_=>1
def nh (P:Program) (t:TypeId):Option (List (Nat×TypeId)):=
 match P.underlying t with
 |some (.struct fs)=>some (fs.toList.map fun f=>(f.offset,f.type))
 |some (.array n e)=>some ((List.range n).map fun i=>(i*P.cellsOf e,e))
 |_=>none
def Sh.fit (P:Program):Sh→Option (Nat×List (Nat×TypeId))→TypeId→Bool
 |.int k,none,t=>match P.underlying t with|some (.int k')=>decide (k'=k)|_=>false
 |.bool,none,t=>match P.underlying t with|some .bool=>true|_=>false
 |.str,none,t=>match P.underlying t with|some .string=>true|_=>false
 |.slice b n e,none,t=>match P.underlying t with
  |some (.slice te)=>decide (P.cellsOf te=n)&&decide (P.bytesOf te=b)&&decide (0<n)&&e.fit P none te
  |_=>false
 |.cons s r,none,t=>match nh P t with
  |some ((o,t')::ts)=>decide (o=0)&&decide (P.cellsOf t'=s.size)&&s.fit P none t'&&r.fit P (some (s.size,ts)) t&&decide (P.cellsOf t=s.size+r.size)
  |_=>false
 |.nil,some (_,[]),_=>true
 |.cons s r,some (o,(o',t')::ts),t=>decide (o'=o)&&decide (P.cellsOf t'=s.size)&&s.fit P none t'&&r.fit P (some (o+s.size,ts)) t
 |_,_,_=>false
def opn (w:World) (B:Nat):Sh→List Value→Prop
 |.int k,cs=>∃n,cs=[.int k n]∧(Lit.int k n).wf=true
 |.bool,cs=>∃b,cs=[.bool b]
 |.str,cs=>∃s:ByteArray,cs=[.string s]∧s.size≤140737488351232
 |.nil,cs=>cs=[]
 |.cons s r,cs=>∃c1 c2,cs=c1++c2∧c1.length=s.size∧opn w B s c1∧opn w B r c2
 |.slice b n e,cs=>∃ (A:Option Addr) (len cap:Nat),cs=[.slice A len cap]∧len≤cap∧cap*b≤140737488351232∧cap≤maxLen∧(A=none→cap=0)∧
   ∀ad,A=some ad→(0<len→ad.block<B)∧∀i,i<len→∃es,es.length=n∧(∀j,j<n→w.cell? (ad.add (i*n+j))=es[j]?)∧opn w B e es
section
variable {H:Type} {enc:TypeId×Value→H} {P:Program} {w:World} {B:Nat}
theorem u9 {e:TypeId} {n:Nat}:∀ {l:List (DataW H)},(DataW.weightsAll P e l).all (·≤n)=true→∀d∈l,(d.weights P e).all (·≤n)=true
 |[],_,d,hd=>by simp at hd
 |x::r,h,d,hd=>by
  simp only [DataW.weightsAll,List.all_append,Bool.and_eq_true] at h
  rcases List.mem_cons.1 hd with rfl|hd
  ·exact h.1
  ·exact u9 h.2 d hd
theorem sn {n:Nat}:∀ {ts:List TypeId} {l:List (DataW H)},(DataW.weightsEach P ts l).all (·≤n)=true→∀(i:Nat) t d,ts[i]?=some t→l[i]?=some d→(d.weights P t).all (·≤n)=true
 |[],_,_,i,t,d,ht,_=>by simp at ht
 |_::_,[],_,i,t,d,_,hd=>by simp at hd
 |t0::ts,x::r,h,i,t,d,ht,hd=>by
  simp only [DataW.weightsEach,List.all_append,Bool.and_eq_true] at h
  cases i with
  |zero=>simp at ht hd;subst ht hd;exact h.1
  |succ i=>simp at ht hd;exact sn h.2 i t d ht hd
theorem jp {base:Nat} {spare:Nat→Bool} {held:Bool} {t:TypeId} {ts:List (Nat×TypeId)} (hm:nh P t=some ts) {fuel:Nat} {cs:List Value} {d:DataW H} {ps:List MemPlace}
  (h:DataW.trod enc P w base spare held fuel t cs=some (d,ps)) (hwt:(d.weights P t).all (·≤reachBytes)=true) (hb:∀p∈ps,p.block<B) :
  ∃ (xs:List (DataW H×List MemPlace)) (n:Nat),cs.length=P.cellsOf t∧xs.length=ts.length∧
    (∀(i:Nat) (m:Nat×TypeId),ts[i]?=some m→DataW.trod enc P w base spare held n m.2 ((cs.drop m.1).take (P.cellsOf m.2))=xs[i]?)∧
    (∀(i:Nat) (m:Nat×TypeId) (x:DataW H×List MemPlace),ts[i]?=some m→xs[i]?=some x→(x.1.weights P m.2).all (·≤reachBytes)=true)∧∀x∈xs,∀p∈x.2,p.block<B:=by
 unfold nh at hm
 split at hm
 ·rename_i fs hu
  injection hm with hm
  subst hm
  obtain ⟨xs,n,_,hx,hl,hxl,hf⟩:=DataW.trod_struct hu h
  simp only [Prod.mk.injEq] at hx
  obtain ⟨rfl,rfl⟩:=hx
  refine ⟨xs,n,hl,by simpa using hxl,fun i m hi=>?_,fun i m x hi hx=>?_,fun x hx p hp=>hb p (List.mem_flatMap.2 ⟨x,hx,hp⟩)⟩
  ·rw [List.getElem?_map] at hi
   cases hfi:fs[i]? with
   |none=>rw [show fs.toList[i]?=fs[i]? by simp,hfi] at hi;simp at hi
   |some f=>rw [show fs.toList[i]?=fs[i]? by simp,hfi] at hi;simp at hi;subst hi;exact hf i f hfi
  ·simp only [DataW.weights,hu] at hwt
   refine sn hwt i m.2 x.1 ?_ (by simp [hx])
   rw [List.getElem?_map] at hi ⊢
   cases hfi:fs.toList[i]? with
   |none=>rw [hfi] at hi;simp at hi
   |some f=>rw [hfi] at hi;simp at hi;subst hi;simp
 ·rename_i k e hu
  injection hm with hm
  subst hm
  obtain ⟨xs,n,_,hx,hl,hxl,hf⟩:=DataW.trod_array hu h
  simp only [Prod.mk.injEq] at hx
  obtain ⟨rfl,rfl⟩:=hx
  refine ⟨xs,n,hl,by simpa using hxl,fun i m hi=>?_,fun i m x hi hx=>?_,fun x hx p hp=>hb p (List.mem_flatMap.2 ⟨x,hx,hp⟩)⟩
  ·by_cases hik:i<k
   ·simp [List.getElem?_map,List.getElem?_range hik] at hi;subst hi;exact hf i hik
   ·simp [List.getElem?_map,List.getElem?_eq_none (show (List.range k).length≤i by simpa using hik)] at hi
  ·simp only [DataW.weights,hu] at hwt
   by_cases hik:i<k
   ·simp [List.getElem?_map,List.getElem?_range hik] at hi;subst hi
    exact u9 hwt x.1 (List.mem_map.2 ⟨x,List.mem_of_getElem? hx,rfl⟩)
   ·simp [List.getElem?_map,List.getElem?_eq_none (show (List.range k).length≤i by simpa using hik)] at hi
 ·cases hm
theorem U4 (sh:Sh):(∀ {t:TypeId} {fuel:Nat} {cs:List Value} {d:DataW H} {ps:List MemPlace},sh.fit P none t=true→DataW.trod enc P w 0 (fun _=>true) true fuel t cs=some (d,ps)→
   (d.weights P t).all (·≤reachBytes)=true→(∀p∈ps,p.block<B)→opn w B sh cs∧cs.length=sh.size)∧
  (∀ {o:Nat} {ts:List (Nat×TypeId)} {t:TypeId} {fuel:Nat} {cs:List Value} {xs:List (DataW H×List MemPlace)},sh.fit P (some (o,ts)) t=true→xs.length=ts.length→
   (∀(i:Nat) (m:Nat×TypeId),ts[i]?=some m→DataW.trod enc P w 0 (fun _=>true) true fuel m.2 ((cs.drop m.1).take (P.cellsOf m.2))=xs[i]?)→
   (∀(i:Nat) (m:Nat×TypeId) (x:DataW H×List MemPlace),ts[i]?=some m→xs[i]?=some x→(x.1.weights P m.2).all (·≤reachBytes)=true)→(∀x∈xs,∀p∈x.2,p.block<B)→cs.length=o+sh.size→opn w B sh (cs.drop o)):=by
 induction sh with
 |int k=>
  refine ⟨fun {t fuel cs d ps} hf h hw hb=>?_,fun {o ts t fuel cs xs} hf=>by simp [Sh.fit] at hf⟩
  simp only [Sh.fit] at hf
  split at hf
  ·rename_i k' hu
   obtain rfl:=of_decide_eq_true hf
   obtain ⟨n,rfl,_,hwf⟩:=DataW.trod_int hu h
   exact ⟨⟨n,rfl,hwf⟩,rfl⟩
  ·cases hf
 |bool=>
  refine ⟨fun {t fuel cs d ps} hf h hw hb=>?_,fun {o ts t fuel cs xs} hf=>by simp [Sh.fit] at hf⟩
  simp only [Sh.fit] at hf
  split at hf
  ·rename_i hu
   obtain ⟨b,rfl,_⟩:=DataW.trod_bool hu h
   exact ⟨⟨b,rfl⟩,rfl⟩
  ·cases hf
 |str=>
  refine ⟨fun {t fuel cs d ps} hf h hw hb=>?_,fun {o ts t fuel cs xs} hf=>by simp [Sh.fit] at hf⟩
  simp only [Sh.fit] at hf
  split at hf
  ·rename_i hu
   obtain ⟨s,rfl,hx,hwf⟩:=DataW.trod_string hu h
   simp only [Prod.mk.injEq] at hx
   obtain ⟨rfl,rfl⟩:=hx
   refine ⟨⟨s,rfl,?_⟩,rfl⟩
   simp only [DataW.weights,reachBytes,List.all_cons,List.all_nil,Bool.and_true] at hw
   exact of_decide_eq_true hw
  ·cases hf
 |nil=>
  refine ⟨fun {t fuel cs d ps} hf=>by simp [Sh.fit] at hf,fun {o ts t fuel cs xs} hf hxl h1 h2 h3 hl=>?_⟩
  show cs.drop o=[]
  exact List.drop_eq_nil_of_le (by rw [hl];simp [Sh.size])
 |cons s r ihs ihr=>
  have key:∀ {o o':Nat} {t':TypeId} {ts:List (Nat×TypeId)} {t:TypeId} {fuel:Nat} {cs:List Value} {xs:List (DataW H×List MemPlace)},o'=o→P.cellsOf t'=s.size→s.fit P none t'=true→r.fit P (some (o+s.size,ts)) t=true→
    xs.length=((o',t')::ts).length→(∀(i:Nat) (m:Nat×TypeId),((o',t')::ts)[i]?=some m→DataW.trod enc P w 0 (fun _=>true) true fuel m.2 ((cs.drop m.1).take (P.cellsOf m.2))=xs[i]?)→
    (∀(i:Nat) (m:Nat×TypeId) (x:DataW H×List MemPlace),((o',t')::ts)[i]?=some m→xs[i]?=some x→(x.1.weights P m.2).all (·≤reachBytes)=true)→(∀x∈xs,∀p∈x.2,p.block<B)→cs.length=o+(s.size+r.size)→opn w B (.cons s r) (cs.drop o):=by
   intro o o' t' ts t fuel cs xs ho hc hs hr hxl h1 h2 h3 hl
   subst ho
   match xs,hxl with
   |x0::xr,hxl=>
    have a1:=h1 0 (o',t') rfl
    simp only [hc] at a1
    have a2:=h2 0 (o',t') x0 rfl rfl
    obtain ⟨p1,p2⟩:=ihs.1 hs a1 a2 (fun p hp=>h3 x0 (by simp) p hp)
    refine ⟨(cs.drop o').take s.size,cs.drop (o'+s.size),?_,p2,p1,?_⟩
    ·rw [←List.drop_drop];exact (List.take_append_drop _ _).symm
    ·exact ihr.2 hr (by simpa using hxl) (fun i m hi=>h1 (i+1) m (by simpa using hi)) (fun i m x hi hx=>h2 (i+1) m x (by simpa using hi) (by simpa using hx)) (fun x hx=>h3 x (by simp [hx])) (by omega)
  refine ⟨fun {t fuel cs d ps} hf h hw hb=>?_,fun {o ts t fuel cs xs} hf hxl h1 h2 h3 hl=>?_⟩
  ·simp only [Sh.fit] at hf
   split at hf
   ·rename_i o t' ts hm
    simp only [Bool.and_eq_true,decide_eq_true_eq] at hf
    obtain ⟨⟨⟨⟨e1,e2⟩,e3⟩,e4⟩,e5⟩:=hf
    obtain ⟨xs,n,hl,hxl,h1,h2,h3⟩:=jp hm h hw hb
    have hk:=key e1 e2 e3 (by simpa using e4) hxl h1 h2 h3 (by rw [hl,e5];omega)
    exact ⟨by simpa using hk,by rw [hl,e5];rfl⟩
   ·cases hf
  ·match ts,hf,hxl,h1,h2 with
   |[],hf,_,_,_=>simp [Sh.fit] at hf
   |(o',t')::ts,hf,hxl,h1,h2=>
    simp only [Sh.fit,Bool.and_eq_true,decide_eq_true_eq] at hf
    obtain ⟨⟨⟨e1,e2⟩,e3⟩,e4⟩:=hf
    exact key e1 e2 e3 e4 hxl h1 h2 h3 hl
 |slice b n e ihe=>
  refine ⟨fun {t fuel cs d ps} hf h hw hb=>?_,fun {o ts t fuel cs xs} hf=>by simp [Sh.fit] at hf⟩
  simp only [Sh.fit] at hf
  split at hf
  ·rename_i te hu
   simp only [Bool.and_eq_true,decide_eq_true_eq] at hf
   obtain ⟨⟨⟨e1,e2⟩,e3⟩,e4⟩:=hf
   rcases Go.Deep.open_slice hu h with ⟨rfl,_⟩|⟨a,len,cap,m,k,D,Pl,rfl,_,hlc,hcm,hm,hx,hi⟩
   ·exact ⟨⟨none,0,0,rfl,by omega,by omega,by unfold maxLen;omega,fun _=>rfl,fun ad h=>by cases h⟩,rfl⟩
   ·have hm':m=cap:=by simpa using hm
    subst hm'
    simp only [Prod.mk.injEq] at hx
    obtain ⟨rfl,rfl⟩:=hx
    simp only [DataW.weights,hu,List.all_cons,List.all_append,Bool.and_eq_true,decide_eq_true_eq,List.length_map,List.length_range,e2] at hw
    obtain ⟨w1,w2,_⟩:=hw
    refine ⟨⟨some a,len,m,rfl,hlc,?_,hcm,(fun h=>by cases h),fun ad had=>?_⟩,rfl⟩
    ·have:len+(m-len)=m:=by omega
     rw [this] at w1
     exact w1
    ·obtain rfl:=Option.some.inj had
     refine ⟨fun h0=>?_,fun i hil=>?_⟩
     ·exact hb (.cell a.block (a.off+0)) (List.mem_append.2 (.inl (List.mem_map.2 ⟨0,List.mem_range.2 (by rw [e1];exact Nat.mul_pos (by omega) e3),rfl⟩)))
     ·obtain ⟨es,hc,ht⟩:=hi i (by omega)
      obtain ⟨_,hcl,hat⟩:=World.cells?_some hc
      rw [e1] at hcl hat
      refine ⟨es,hcl,fun j hj=>?_,?_⟩
      ·rw [←Go.Deep.add_add]
       exact hat j hj
      ·exact (ihe.1 e4 ht (u9 w2 _ (List.mem_map.2 ⟨i,List.mem_range.2 hil,rfl⟩)) (fun p hp=>hb p (List.mem_append.2 (.inr (List.mem_flatMap.2 ⟨i,List.mem_range.2 (by omega),hp⟩))))).1
  ·cases hf
end
theorem j0 {H:Type} {enc:TypeId×Value→H} {P:Program} (hl:laidOutB P=true) {W W':World} (hb:Below W.heap.size W W'):∀ {ts:List TypeId} {vs:List Value} {ds:List (DataW H)} {ps:List MemPlace},
  ts.all (fun t=>P.readableRec t&&decide (t<P.types.size))=true→DataW.TrodAll enc P W 0 (fun _=>true) true ts vs ds ps→(∀x∈ps,x.block<W.heap.size)→DataW.TrodAll enc P W' 0 (fun b=>decide (b<W.heap.size)) true ts vs ds ps
 |[],_,_,_,_,h,_=>by
  obtain ⟨rfl,rfl,rfl⟩:=trodAll_nil h
  rfl
 |t::ts,_,_,_,hr,h,hlt=>by
  obtain ⟨v,vs1,d,ds1,a,b,rfl,rfl,rfl,h1,h2⟩:=trodAll_cons h
  simp only [List.all_cons,Bool.and_eq_true,decide_eq_true_eq] at hr
  refine ⟨a,b,Below.trod hl hr.1.1 hr.1.2 h1 hb (fun x hx=>hlt x (List.mem_append.2 (.inl hx))),j0 hl hb (by simpa using hr.2) h2 (fun x hx=>hlt x (List.mem_append.2 (.inr hx))),rfl⟩
theorem sG {H:Type} {enc:TypeId×Value→H} {P:Program} {w:World} {base:Nat} {sp:Nat→Bool} {held:Bool}:∀ {ts:List TypeId} {vs:List Value} {ds:List (DataW H)} {ps:List MemPlace},DataW.TrodAll enc P w base sp held ts vs ds ps→ds.length=ts.length
 |[],_,_,_,h=>by obtain ⟨rfl,rfl,rfl⟩:=trodAll_nil h;rfl
 |t::ts,_,_,_,h=>by
  obtain ⟨v,vs1,d,ds1,a,b,rfl,rfl,rfl,h1,h2⟩:=trodAll_cons h
  simp [sG h2]
def Sh.val:Sh→List Value→Value
 |.cons _ _,cs=>.agg ⟨cs⟩
 |_,cs=>cs.headD undef
theorem U_ {P:Program} {w:World} {r:Reach} {b:Nat} {t:TypeId} {v:Value}:∀(s:Sh),s.fit P none t=true→Value.okWide P w r b t v→v=s.val v.cells.toList:=by
 intro s hf hv
 cases s with
 |int k=>
  simp only [Sh.fit] at hf
  split at hf
  ·rename_i k' hu
   obtain ⟨n,rfl⟩:=okWide_int hu hv
   rfl
  ·cases hf
 |bool=>
  simp only [Sh.fit] at hf
  split at hf
  ·rename_i hu
   obtain ⟨n,rfl⟩:=okWide_bool hu hv
   rfl
  ·cases hf
 |str=>
  simp only [Sh.fit] at hf
  split at hf
  ·rename_i hu
   obtain ⟨n,rfl⟩:=okWide_string hu hv
   rfl
  ·cases hf
 |nil=>simp [Sh.fit] at hf
 |slice b n e=>
  simp only [Sh.fit] at hf
  split at hf
  ·rename_i te hu
   obtain ⟨a,l,c,rfl⟩:=okWide_slice hu hv
   rfl
  ·cases hf
 |cons s r=>
  simp only [Sh.fit,nh] at hf
  split at hf
  ·rename_i o t' ts hm
   split at hm
   ·rename_i fs hu
    obtain ⟨cs,rfl,_⟩:=okWide_struct hu hv
    rfl
   ·rename_i k e hu
    simp only [Value.okWide,hu] at hv
    obtain ⟨cs,rfl,_⟩:=hv
    rfl
   ·cases hm
  ·cases hf
def pI (w:World) (B:Nat):List Sh→List Value→Prop
 |[],vs=>vs=[]
 |s::ss,vs=>∃cs r,vs=s.val cs::r∧opn w B s cs∧pI w B ss r
theorem kU {H:Type} {enc:TypeId×Value→H} {P:Program} {w:World} {B:Nat}:∀ {shs:List Sh} {ts:List TypeId} {vs:List Value} {ds:List (DataW H)} {ps:List MemPlace} {r:Reach} {b:Nat},
  shs.length=ts.length→(∀(i:Nat) (s:Sh) (t:TypeId),shs[i]?=some s→ts[i]?=some t→s.fit P none t=true)→(∀(j:Nat) t v,ts[j]?=some t→vs[j]?=some v→Value.okWide P w r b t v)→DataW.TrodAll enc P w 0 (fun _=>true) true ts vs ds ps→
   (DataW.weightsEach P ts ds).all (·≤reachBytes)=true→(∀p∈ps,p.block<B)→pI w B shs vs
 |[],[],_,_,_,_,_,_,_,_,h,_,_=>by
  obtain ⟨rfl,_,_⟩:=trodAll_nil h
  rfl
 |[],_::_,_,_,_,_,_,hl,_,_,_,_,_=>by simp at hl
 |_::_,[],_,_,_,_,_,hl,_,_,_,_,_=>by simp at hl
 |s::ss,t::ts,_,_,_,_,_,hl,hf,hok,h,hw,hb=>by
  obtain ⟨v,vs1,d,ds1,a,b,rfl,rfl,rfl,h1,h2⟩:=trodAll_cons h
  obtain ⟨fuel,h1⟩:=h1
  simp only [DataW.weightsEach,List.all_append,Bool.and_eq_true] at hw
  have hv:=U_ s (hf 0 s t rfl rfl) (hok 0 t v rfl rfl)
  refine ⟨v.cells.toList,vs1,by rw [←hv],((U4 s).1 (hf 0 s t rfl rfl) h1 hw.1 (fun p hp=>hb p (List.mem_append.2 (.inl hp)))).1,?_⟩
  exact kU (by simpa using hl) (fun i s' t' hi hi'=>hf (i+1) s' t' (by simpa using hi) (by simpa using hi')) (fun j t' v' hj hj'=>hok (j+1) t' v' (by simpa using hj) (by simpa using hj')) h2 hw.2 (fun p hp=>hb p (List.mem_append.2 (.inr hp)))
theorem hZ {B:Nat} {a w:World} (h:Below B a w) (n:Nat):Below B a (w.drewN n):=⟨h.os,h.tape,h.output,h.size,h.block⟩
theorem dh (w:World) (n:Nat):(w.drewN n).heap=w.heap:=rfl
theorem oC {α:Type} {p:Nat→α→Prop}:∀(n:Nat),(∀i,i<n→∃x,p i x)→∃l:List α,l.length=n∧∀i (h:i<l.length),p i l[i]
 |0,_=>⟨[],rfl,fun i h=>by simp at h⟩
 |n+1,h=>by
  obtain ⟨l,hl,hp⟩:=oC n (fun i hi=>h i (by omega))
  obtain ⟨x,hx⟩:=h n (by omega)
  refine ⟨l++[x],by simp [hl],fun i hi=>?_⟩
  by_cases hin:i<l.length
  ·rw [List.getElem_append_left hin];exact hp i hin
  ·have:i=l.length:=by simp at hi;omega
   subst this
   rw [List.getElem_append_right (Nat.le_refl _)]
   simp [hl] at hx ⊢
   simpa [hl] using hx
end Go.Proofs.YtaiileiodjicpaaGreatDoor
namespace Go.Proofs.YtaiileiodjicpaaGreatDoor
open Go.RowKit
def TS:Sh→Type
 |.int _=>Int
 |.bool=>Bool
 |.str=>ByteArray
 |.nil=>Unit
 |.cons s r=>TS s×TS r
 |.slice _ _ e=>List (TS e)
def uX:(s:Sh)→TS s→List DV
 |.int k,n=>[.v (.int k n)]
 |.bool,b=>[.v (.bool b)]
 |.str,t=>[.v (.string t)]
 |.nil,_=>[]
 |.cons s r,(x,y)=>uX s x++uX r y
 |.slice _ n e,(l:List (TS e))=>[.snap n (l.map (uX e)) false]
def wfS:(s:Sh)→TS s→Prop
 |.int k,n=>(Lit.int k n).wf=true
 |.bool,_=>True
 |.str,t=>t.size≤140737488351232
 |.nil,_=>True
 |.cons s r,(x,y)=>wfS s x∧wfS r y
 |.slice b _ e,(l:List (TS e))=>l.length*b≤140737488351232∧l.length≤maxLen∧∀x∈l,wfS e x
def Sh.posB:Sh→Bool
 |.cons s r=>s.posB&&r.posB
 |.slice _ n e=>decide (0<n)&&decide (n=e.size)&&e.posB
 |_=>true
def K0:Kr:=⟨fun _=>False,fun _=>False,fun _=>0,fun _=>False⟩
theorem wt:∀(s:Sh) (x:TS s),(uX s x).length=s.size
 |.int k,x=>rfl
 |.bool,x=>rfl
 |.str,x=>rfl
 |.nil,x=>rfl
 |.cons s r,(x,y)=>by simp [uX,Sh.size,wt s x,wt r y]
 |.slice b n e,x=>rfl
theorem r8 {w:World}:∀(s:Sh) (cs:List Value),s.posB=true→opn w w.heap.size s cs→∃x:TS s,cs.length=s.size∧wfS s x∧∀(i:Nat) (d:DV) (c:Value),(uX s x)[i]?=some d→cs[i]?=some c→ze K0 w d c
 |.int k,cs,_,h=>by
  obtain ⟨n,rfl,hw⟩:=h
  refine ⟨n,rfl,hw,fun i d c hd hc=>?_⟩
  cases i with
  |zero=>simp [uX] at hd hc;rw [←hd,←hc];exact .v _
  |succ i=>simp at hc
 |.bool,cs,_,h=>by
  obtain ⟨n,rfl⟩:=h
  refine ⟨n,rfl,trivial,fun i d c hd hc=>?_⟩
  cases i with
  |zero=>simp [uX] at hd hc;rw [←hd,←hc];exact .v _
  |succ i=>simp at hc
 |.str,cs,_,h=>by
  obtain ⟨n,rfl,hw⟩:=h
  refine ⟨n,rfl,hw,fun i d c hd hc=>?_⟩
  cases i with
  |zero=>simp [uX] at hd hc;rw [←hd,←hc];exact .v _
  |succ i=>simp at hc
 |.nil,cs,_,h=>by
  have h':cs=[]:=h
  subst h'
  exact ⟨(),rfl,trivial,fun i d c hd hc=>by simp at hc⟩
 |.cons s r,cs,hp,h=>by
  simp only [Sh.posB,Bool.and_eq_true] at hp
  obtain ⟨c1,c2,rfl,hl,h1,h2⟩:=h
  obtain ⟨x,x1,x2,x3⟩:=r8 s c1 hp.1 h1
  obtain ⟨y,y1,y2,y3⟩:=r8 r c2 hp.2 h2
  refine ⟨(x,y),by simp [Sh.size,x1,y1],⟨x2,y2⟩,fun i d c hd hc=>?_⟩
  simp only [uX] at hd
  have e:(uX s x).length=c1.length:=by rw [wt,x1]
  by_cases hi:i<c1.length
  ·rw [List.getElem?_append_left (by omega)] at hd
   rw [List.getElem?_append_left hi] at hc
   exact x3 i d c hd hc
  ·rw [List.getElem?_append_right (by omega),e] at hd
   rw [List.getElem?_append_right (by omega)] at hc
   exact y3 _ d c hd hc
 |.slice b n e,cs,hp,h=>by
  simp only [Sh.posB,Bool.and_eq_true,decide_eq_true_eq] at hp
  obtain ⟨⟨hn,hne⟩,hpe⟩:=hp
  obtain ⟨A,len,cap,rfl,hlc,hb,hm,hA,had⟩:=h
  have hel:∀i,i<len→∃x:TS e,wfS e x∧∀ad,A=some ad→∀(j:Nat) (d:DV),(uX e x)[j]?=some d→∃c,w.cell? (ad.add (i*n+j))=some c∧ze K0 w d c:=by
   intro i hi
   cases A with
   |none=>have:=hA rfl;omega
   |some ad=>
    obtain ⟨_,h2⟩:=had ad rfl
    obtain ⟨es,h3,h4,h5⟩:=h2 i hi
    obtain ⟨x,x1,x2,x3⟩:=r8 e es hpe h5
    refine ⟨x,x2,fun ad' e' j d hd=>?_⟩
    obtain rfl:=Option.some.inj e'
    have hj:j<n:=by rw [hne,←wt e x];exact (List.getElem?_eq_some_iff.1 hd).1
    have hj2:j<es.length:=by omega
    exact ⟨es[j],by rw [h4 j hj];exact List.getElem?_eq_getElem hj2,x3 j d _ hd (List.getElem?_eq_getElem hj2)⟩
  obtain ⟨l,hl,hx⟩:=oC len hel
  refine ⟨l,rfl,⟨by rw [hl];exact Nat.le_trans (Nat.mul_le_mul_right _ hlc) hb,by rw [hl];omega,fun x hx'=>?_⟩,fun i d c hd hc=>?_⟩
  ·obtain ⟨i,hi,rfl⟩:=List.mem_iff_getElem.1 hx'
   exact (hx i hi).1
  ·cases i with
   |succ i=>simp at hc
   |zero=>
    simp [uX] at hd hc
    subst hd hc
    have key:∀(ad:Addr) (i:Nat) (x:List DV) (j:Nat) (d:DV),A=some ad→(l.map (uX e))[i]?=some x→x[j]?=some d→∃c,w.cell? (ad.add (i*n+j))=some c∧ze K0 w d c:=by
     intro ad i x j d hA hx' hd
     rw [List.getElem?_map] at hx'
     cases hq:l[i]? with
     |none=>rw [hq] at hx';cases hx'
     |some y=>
      rw [hq] at hx'
      obtain rfl:=Option.some.inj hx'
      obtain ⟨hi,he⟩:=List.getElem?_eq_some_iff.1 hq
      have:=(hx i hi).2 ad hA j d (by rw [he];exact hd)
      exact this
    refine .snap (fun i j=>match A with|some ad=>(w.cell? (ad.add (i*n+j))).getD undef|none=>undef) (by simp [hl]) hlc (fun h=>by cases h) (fun x hx'=>?_) (fun h0=>?_) (fun ad i x j d hA hx' hd=>?_) (fun i x j d hx' hd=>?_)
    ·obtain ⟨y,_,rfl⟩:=List.mem_map.1 hx'
     rw [wt,hne]
    ·cases A with
     |none=>have:=hA rfl;omega
     |some ad=>
      refine ⟨ad,rfl,?_,(had ad rfl).1 h0,fun h=>h⟩
      obtain ⟨es,h3,h4,h5⟩:=(had ad rfl).2 0 h0
      have h6:=h4 0 hn
      rw [Nat.zero_mul,List.getElem?_eq_getElem (by omega:0<es.length)] at h6
      have h7:ad.add 0=ad:=by simp [Addr.add]
      rw [h7] at h6
      unfold World.cell? at h6
      split at h6
      ·split at h6
       ·cases h6
       ·rename_i hsp;simpa using hsp
      ·cases h6
    ·obtain ⟨c,e1,e2⟩:=key ad i x j d hA hx' hd
     subst hA
     simp [e1]
    ·have hi:i<len:=by
      have:=(List.getElem?_eq_some_iff.1 hx').1
      simpa [hl] using this
     cases A with
     |none=>have:=hA rfl;omega
     |some ad=>
      obtain ⟨c,e1,e2⟩:=key ad i x j d rfl hx' hd
      simp only [e1,Option.getD_some]
      exact e2
def Uy:(s:Sh)→TS s→DV
 |.int k,n=>.v (.int k n)
 |.bool,b=>.v (.bool b)
 |.str,t=>.v (.string t)
 |.nil,_=>.any
 |.cons s r,(x,y)=>.agg (uX s x++uX r y)
 |.slice _ n e,(l:List (TS e))=>.snap n (l.map (uX e)) false
theorem bx {w:World} {s:Sh} {cs:List Value} (hp:s.posB=true) (hs:s≠.nil) (h:opn w w.heap.size s cs):∃x:TS s,wfS s x∧ze K0 w (Uy s x) (s.val cs):=by
 obtain ⟨x,x1,x2,x3⟩:=r8 s cs hp h
 refine ⟨x,x2,?_⟩
 have one:s.size=1→(uX s x).length=1→ze K0 w ((uX s x).headD .any) (cs.headD undef):=by
  intro h1 h2
  obtain ⟨d,hd⟩:=List.length_eq_one_iff.1 h2
  obtain ⟨c,hc⟩:=List.length_eq_one_iff.1 (x1.trans h1)
  rw [hd,hc] at x3 ⊢
  exact x3 0 d c rfl rfl
 cases s with
 |nil=>exact absurd rfl hs
 |cons s r=>
  obtain ⟨y,z⟩:=x
  have hl:=wt (.cons s r) (y,z)
  exact .agg (ds:=uX s y++uX r z) (by simp only [List.size_toArray];rw [x1,←hl];rfl) (fun i d c hd hc=>x3 i d c hd (by simpa using hc))
 |int k=>exact one rfl rfl
 |bool=>exact one rfl rfl
 |str=>exact one rfl rfl
 |slice b n e=>exact one rfl rfl
def TSs:List Sh→Type
 |[]=>Unit
 |s::r=>TS s×TSs r
def qw:(ss:List Sh)→TSs ss→List DV
 |[],_=>[]
 |s::r,(x,y)=>Uy s x::qw r y
def VJ:(ss:List Sh)→TSs ss→Prop
 |[],_=>True
 |s::r,(x,y)=>wfS s x∧VJ r y
def Sh.okB:Sh→Bool
 |.nil=>false
 |s=>s.posB
theorem k_ {w:World}:∀(ss:List Sh) (vs:List Value),ss.all Sh.okB=true→pI w w.heap.size ss vs→∃x:TSs ss,VJ ss x∧zA K0 w (qw ss x) vs.toArray
 |[],vs,_,h=>by
  have h':vs=[]:=h
  subst h'
  exact ⟨(),trivial,rfl,fun i d v hd=>by simp [qw] at hd⟩
 |s::r,vs,hp,h=>by
  simp only [List.all_cons,Bool.and_eq_true] at hp
  obtain ⟨cs,vr,rfl,h1,h2⟩:=h
  have hs:s≠.nil:=by rintro rfl;simp [Sh.okB] at hp
  have hp1:s.posB=true:=by have:=hp.1;cases s<;>first|exact absurd rfl hs|exact this
  obtain ⟨x,x1,x2⟩:=bx hp1 hs h1
  obtain ⟨y,y1,y2,y3⟩:=k_ r vr hp.2 h2
  refine ⟨(x,y),⟨x1,y1⟩,by simpa [qw] using y2,fun i d v hd hv=>?_⟩
  cases i with
  |zero=>simp [qw] at hd hv;rw [←hd,←hv];exact x2
  |succ i=>exact y3 i d v (by simpa [qw] using hd) (by simpa using hv)
theorem Zh {P:Program} {f:FuncId} {shs:List Sh} {W:World} {args:Array Value} (hok:shs.all Sh.okB=true) (h:pI W W.heap.size shs args.toList) (hspec:∀x:TSs shs,VJ shs x→zi P f (qw shs x) (.v (.bool true))) (hgl:Vn W:=by exact globW_nil _) :
  Calls P f args W fun e W'=>e=.returned (.bool true)∧Below W.heap.size W W':=by
 obtain ⟨x,hx,ha⟩:=k_ shs args.toList hok h
 have ha':zA (K0.cut W) W (qw shs x) args:=vv (by simpa using ha)
 have hI:Inv (yZ K0 W 0 []) (K0.cut W) (zd []) W:=⟨Ext.refl _ _,⟨fun n h=>h.elim,fun n h=>h.elim,fun n h=>h.elim,fun g _=>Iff.rfl⟩,fun k o h=>by simp [zd] at h,fun k k' o o' h=>by simp [zd] at h,fun n h=>h,fun n h=>h.elim,fun k o h=>by simp [zd] at h,fun k o h=>by simp [zd] at h,fun g cs hg=>⟨fun ⟨_,_,q,_⟩=>by simp [zd] at q,fun q=>q.1,hgl g cs hg⟩⟩
 refine ((hspec x hx).2 K0 W args 0 hI (fun n h=>h.elim) ha').mono ?_
 rintro e w' ⟨v,d,H1,rfl,⟨rfl,rfl⟩,hI',hv⟩
 refine ⟨by rw [zq hv],hI'.ext.os,hI'.ext.tape,hI'.ext.output,hI'.ext.size,fun k hk=>hI'.ext.keep k hk ?_⟩
 rintro ⟨j,o,h,_⟩
 simp [yZ,zd] at h
end Go.Proofs.YtaiileiodjicpaaGreatDoor
