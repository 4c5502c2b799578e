import Derived.WalkKit
import Derived.ProofKit
import Derived.OpenShut
import Derived.Deep.Slices
import Derived.SizedLaws
import Derived.Carry
import Derived.Lib.Hide
import Derived.Laws.Rows
import Derived.Laws.BytesArg
import Derived.Laws.IdiomStrings
import Derived.Laws.OwnMore
import Derived.Deep.Draws
set_option linter.unusedVariables false
set_option linter.unusedSimpArgs false
namespace Go.Proofs.YtmibknbmhcnemaaDoor
open Go.ChangeShapes Go.WideShapes Go.ChangeAt Go.RowKit
inductive Sh where
 |int (k:IntKind)
 |bool
 |str
 |nil
 |cons (s r:Sh)
 |slice (bytes size:Nat) (e:Sh)
def Sh.size:Sh→Nat
 |.nil=>0
 |.cons s r=>s.size+r.size
 |_=>1
def pb (P:Program) (t:TypeId):Option (List (Nat×TypeId)):=
 match P.underlying t with
 |some (.struct fs)=>some (fs.toList.map fun f=>(f.offset,f.type))
 |some (.array n e)=>some ((List.range n).map fun i=>(i*P.cellsOf e,e))
 |_=>none
def Sh.fit (P:Program):Sh→Option (Nat×List (Nat×TypeId))→TypeId→Bool
 |.int k,none,t=>match P.underlying t with|some (.int k')=>decide (k'=k)|_=>false
 |.bool,none,t=>match P.underlying t with|some .bool=>true|_=>false
 |.str,none,t=>match P.underlying t with|some .string=>true|_=>false
 |.slice b n e,none,t=>match P.underlying t with
  |some (.slice te)=>decide (P.cellsOf te=n)&&decide (P.bytesOf te=b)&&decide (0<n)&&e.fit P none te
  |_=>false
 |.cons s r,none,t=>match pb P t with
  |some ((o,t')::ts)=>decide (o=0)&&decide (P.cellsOf t'=s.size)&&s.fit P none t'&&r.fit P (some (s.size,ts)) t&&decide (P.cellsOf t=s.size+r.size)
  |_=>false
 |.nil,some (_,[]),_=>true
 |.cons s r,some (o,(o',t')::ts),t=>decide (o'=o)&&decide (P.cellsOf t'=s.size)&&s.fit P none t'&&r.fit P (some (o+s.size,ts)) t
 |_,_,_=>false
def opn (w:World) (B:Nat):Sh→List Value→Prop
 |.int k,cs=>∃n,cs=[.int k n]∧(Lit.int k n).wf=true
 |.bool,cs=>∃b,cs=[.bool b]
 |.str,cs=>∃s:ByteArray,cs=[.string s]∧s.size≤140737488351232
 |.nil,cs=>cs=[]
 |.cons s r,cs=>∃c1 c2,cs=c1++c2∧c1.length=s.size∧opn w B s c1∧opn w B r c2
 |.slice b n e,cs=>∃ (A:Option Addr) (len cap:Nat),cs=[.slice A len cap]∧len≤cap∧cap*b≤140737488351232∧cap≤maxLen∧(A=none→cap=0)∧
   ∀ad,A=some ad→(0<len→ad.block<B)∧∀i,i<len→∃es,es.length=n∧(∀j,j<n→w.cell? (ad.add (i*n+j))=es[j]?)∧opn w B e es
section
variable {H:Type} {enc:TypeId×Value→H} {P:Program} {w:World} {B:Nat}
theorem vw {e:TypeId} {n:Nat}:∀ {l:List (DataW H)},(DataW.weightsAll P e l).all (·≤n)=true→∀d∈l,(d.weights P e).all (·≤n)=true
 |[],_,d,hd=>by simp at hd
 |x::r,h,d,hd=>by
  simp only [DataW.weightsAll,List.all_append,Bool.and_eq_true] at h
  rcases List.mem_cons.1 hd with rfl|hd
  ·exact h.1
  ·exact vw h.2 d hd
theorem tg {n:Nat}:∀ {ts:List TypeId} {l:List (DataW H)},(DataW.weightsEach P ts l).all (·≤n)=true→∀(i:Nat) t d,ts[i]?=some t→l[i]?=some d→(d.weights P t).all (·≤n)=true
 |[],_,_,i,t,d,ht,_=>by simp at ht
 |_::_,[],_,i,t,d,_,hd=>by simp at hd
 |t0::ts,x::r,h,i,t,d,ht,hd=>by
  simp only [DataW.weightsEach,List.all_append,Bool.and_eq_true] at h
  cases i with
  |zero=>simp at ht hd;subst ht hd;exact h.1
  |succ i=>simp at ht hd;exact tg h.2 i t d ht hd
theorem l8 {base:Nat} {spare:Nat→Bool} {held:Bool} {t:TypeId} {ts:List (Nat×TypeId)} (hm:pb P t=some ts) {fuel:Nat} {cs:List Value} {d:DataW H} {ps:List MemPlace}
  (h:DataW.trod enc P w base spare held fuel t cs=some (d,ps)) (hwt:(d.weights P t).all (·≤reachBytes)=true) (hb:∀p∈ps,p.block<B) :
  ∃ (xs:List (DataW H×List MemPlace)) (n:Nat),cs.length=P.cellsOf t∧xs.length=ts.length∧
    (∀(i:Nat) (m:Nat×TypeId),ts[i]?=some m→DataW.trod enc P w base spare held n m.2 ((cs.drop m.1).take (P.cellsOf m.2))=xs[i]?)∧
    (∀(i:Nat) (m:Nat×TypeId) (x:DataW H×List MemPlace),ts[i]?=some m→xs[i]?=some x→(x.1.weights P m.2).all (·≤reachBytes)=true)∧∀x∈xs,∀p∈x.2,p.block<B:=by
 unfold pb at hm
 split at hm
 ·rename_i fs hu
  injection hm with hm
  subst hm
  obtain ⟨xs,n,_,hx,hl,hxl,hf⟩:=DataW.trod_struct hu h
  simp only [Prod.mk.injEq] at hx
  obtain ⟨rfl,rfl⟩:=hx
  refine ⟨xs,n,hl,by simpa using hxl,fun i m hi=>?_,fun i m x hi hx=>?_,fun x hx p hp=>hb p (List.mem_flatMap.2 ⟨x,hx,hp⟩)⟩
  ·rw [List.getElem?_map] at hi
   cases hfi:fs[i]? with
   |none=>rw [show fs.toList[i]?=fs[i]? by simp,hfi] at hi;simp at hi
   |some f=>rw [show fs.toList[i]?=fs[i]? by simp,hfi] at hi;simp at hi;subst hi;exact hf i f hfi
  ·simp only [DataW.weights,hu] at hwt
   refine tg hwt i m.2 x.1 ?_ (by simp [hx])
   rw [List.getElem?_map] at hi ⊢
   cases hfi:fs.toList[i]? with
   |none=>rw [hfi] at hi;simp at hi
   |some f=>rw [hfi] at hi;simp at hi;subst hi;simp
 ·rename_i k e hu
  injection hm with hm
  subst hm
  obtain ⟨xs,n,_,hx,hl,hxl,hf⟩:=DataW.trod_array hu h
  simp only [Prod.mk.injEq] at hx
  obtain ⟨rfl,rfl⟩:=hx
  refine ⟨xs,n,hl,by simpa using hxl,fun i m hi=>?_,fun i m x hi hx=>?_,fun x hx p hp=>hb p (List.mem_flatMap.2 ⟨x,hx,hp⟩)⟩
  ·by_cases hik:i<k
   ·simp [List.getElem?_map,List.getElem?_range hik] at hi;subst hi;exact hf i hik
   ·simp [List.getElem?_map,List.getElem?_eq_none (show (List.range k).length≤i by simpa using hik)] at hi
  ·simp only [DataW.weights,hu] at hwt
   by_cases hik:i<k
   ·simp [List.getElem?_map,List.getElem?_range hik] at hi;subst hi
    exact vw hwt x.1 (List.mem_map.2 ⟨x,List.mem_of_getElem? hx,rfl⟩)
   ·simp [List.getElem?_map,List.getElem?_eq_none (show (List.range k).length≤i by simpa using hik)] at hi
 ·cases hm
theorem Yx (sh:Sh):(∀ {t:TypeId} {fuel:Nat} {cs:List Value} {d:DataW H} {ps:List MemPlace},sh.fit P none t=true→DataW.trod enc P w 0 (fun _=>true) true fuel t cs=some (d,ps)→
   (d.weights P t).all (·≤reachBytes)=true→(∀p∈ps,p.block<B)→opn w B sh cs∧cs.length=sh.size)∧
  (∀ {o:Nat} {ts:List (Nat×TypeId)} {t:TypeId} {fuel:Nat} {cs:List Value} {xs:List (DataW H×List MemPlace)},sh.fit P (some (o,ts)) t=true→xs.length=ts.length→
   (∀(i:Nat) (m:Nat×TypeId),ts[i]?=some m→DataW.trod enc P w 0 (fun _=>true) true fuel m.2 ((cs.drop m.1).take (P.cellsOf m.2))=xs[i]?)→
   (∀(i:Nat) (m:Nat×TypeId) (x:DataW H×List MemPlace),ts[i]?=some m→xs[i]?=some x→(x.1.weights P m.2).all (·≤reachBytes)=true)→(∀x∈xs,∀p∈x.2,p.block<B)→cs.length=o+sh.size→opn w B sh (cs.drop o)):=by
 induction sh with
 |int k=>
  refine ⟨fun {t fuel cs d ps} hf h hw hb=>?_,fun {o ts t fuel cs xs} hf=>by simp [Sh.fit] at hf⟩
  simp only [Sh.fit] at hf
  split at hf
  ·rename_i k' hu
   obtain rfl:=of_decide_eq_true hf
   obtain ⟨n,rfl,_,hwf⟩:=DataW.trod_int hu h
   exact ⟨⟨n,rfl,hwf⟩,rfl⟩
  ·cases hf
 |bool=>
  refine ⟨fun {t fuel cs d ps} hf h hw hb=>?_,fun {o ts t fuel cs xs} hf=>by simp [Sh.fit] at hf⟩
  simp only [Sh.fit] at hf
  split at hf
  ·rename_i hu
   obtain ⟨b,rfl,_⟩:=DataW.trod_bool hu h
   exact ⟨⟨b,rfl⟩,rfl⟩
  ·cases hf
 |str=>
  refine ⟨fun {t fuel cs d ps} hf h hw hb=>?_,fun {o ts t fuel cs xs} hf=>by simp [Sh.fit] at hf⟩
  simp only [Sh.fit] at hf
  split at hf
  ·rename_i hu
   obtain ⟨s,rfl,hx,hwf⟩:=DataW.trod_string hu h
   simp only [Prod.mk.injEq] at hx
   obtain ⟨rfl,rfl⟩:=hx
   refine ⟨⟨s,rfl,?_⟩,rfl⟩
   simp only [DataW.weights,reachBytes,List.all_cons,List.all_nil,Bool.and_true] at hw
   exact of_decide_eq_true hw
  ·cases hf
 |nil=>
  refine ⟨fun {t fuel cs d ps} hf=>by simp [Sh.fit] at hf,fun {o ts t fuel cs xs} hf hxl h1 h2 h3 hl=>?_⟩
  show cs.drop o=[]
  exact List.drop_eq_nil_of_le (by rw [hl];simp [Sh.size])
 |cons s r ihs ihr=>
  have key:∀ {o o':Nat} {t':TypeId} {ts:List (Nat×TypeId)} {t:TypeId} {fuel:Nat} {cs:List Value} {xs:List (DataW H×List MemPlace)},o'=o→P.cellsOf t'=s.size→s.fit P none t'=true→r.fit P (some (o+s.size,ts)) t=true→
    xs.length=((o',t')::ts).length→(∀(i:Nat) (m:Nat×TypeId),((o',t')::ts)[i]?=some m→DataW.trod enc P w 0 (fun _=>true) true fuel m.2 ((cs.drop m.1).take (P.cellsOf m.2))=xs[i]?)→
    (∀(i:Nat) (m:Nat×TypeId) (x:DataW H×List MemPlace),((o',t')::ts)[i]?=some m→xs[i]?=some x→(x.1.weights P m.2).all (·≤reachBytes)=true)→(∀x∈xs,∀p∈x.2,p.block<B)→cs.length=o+(s.size+r.size)→opn w B (.cons s r) (cs.drop o):=by
   intro o o' t' ts t fuel cs xs ho hc hs hr hxl h1 h2 h3 hl
   subst ho
   match xs,hxl with
   |x0::xr,hxl=>
    have a1:=h1 0 (o',t') rfl
    simp only [hc] at a1
    have a2:=h2 0 (o',t') x0 rfl rfl
    obtain ⟨p1,p2⟩:=ihs.1 hs a1 a2 (fun p hp=>h3 x0 (by simp) p hp)
    refine ⟨(cs.drop o').take s.size,cs.drop (o'+s.size),?_,p2,p1,?_⟩
    ·rw [←List.drop_drop];exact (List.take_append_drop _ _).symm
    ·exact ihr.2 hr (by simpa using hxl) (fun i m hi=>h1 (i+1) m (by simpa using hi)) (fun i m x hi hx=>h2 (i+1) m x (by simpa using hi) (by simpa using hx)) (fun x hx=>h3 x (by simp [hx])) (by omega)
  refine ⟨fun {t fuel cs d ps} hf h hw hb=>?_,fun {o ts t fuel cs xs} hf hxl h1 h2 h3 hl=>?_⟩
  ·simp only [Sh.fit] at hf
   split at hf
   ·rename_i o t' ts hm
    simp only [Bool.and_eq_true,decide_eq_true_eq] at hf
    obtain ⟨⟨⟨⟨e1,e2⟩,e3⟩,e4⟩,e5⟩:=hf
    obtain ⟨xs,n,hl,hxl,h1,h2,h3⟩:=l8 hm h hw hb
    have hk:=key e1 e2 e3 (by simpa using e4) hxl h1 h2 h3 (by rw [hl,e5];omega)
    exact ⟨by simpa using hk,by rw [hl,e5];rfl⟩
   ·cases hf
  ·match ts,hf,hxl,h1,h2 with
   |[],hf,_,_,_=>simp [Sh.fit] at hf
   |(o',t')::ts,hf,hxl,h1,h2=>
    simp only [Sh.fit,Bool.and_eq_true,decide_eq_true_eq] at hf
    obtain ⟨⟨⟨e1,e2⟩,e3⟩,e4⟩:=hf
    exact key e1 e2 e3 e4 hxl h1 h2 h3 hl
 |slice b n e ihe=>
  refine ⟨fun {t fuel cs d ps} hf h hw hb=>?_,fun {o ts t fuel cs xs} hf=>by simp [Sh.fit] at hf⟩
  simp only [Sh.fit] at hf
  split at hf
  ·rename_i te hu
   simp only [Bool.and_eq_true,decide_eq_true_eq] at hf
   obtain ⟨⟨⟨e1,e2⟩,e3⟩,e4⟩:=hf
   rcases Go.Deep.open_slice hu h with ⟨rfl,_⟩|⟨a,len,cap,m,k,D,Pl,rfl,_,hlc,hcm,hm,hx,hi⟩
   ·exact ⟨⟨none,0,0,rfl,by omega,by omega,by unfold maxLen;omega,fun _=>rfl,fun ad h=>by cases h⟩,rfl⟩
   ·have hm':m=cap:=by simpa using hm
    subst hm'
    simp only [Prod.mk.injEq] at hx
    obtain ⟨rfl,rfl⟩:=hx
    simp only [DataW.weights,hu,List.all_cons,List.all_append,Bool.and_eq_true,decide_eq_true_eq,List.length_map,List.length_range,e2] at hw
    obtain ⟨w1,w2,_⟩:=hw
    refine ⟨⟨some a,len,m,rfl,hlc,?_,hcm,(fun h=>by cases h),fun ad had=>?_⟩,rfl⟩
    ·have:len+(m-len)=m:=by omega
     rw [this] at w1
     exact w1
    ·obtain rfl:=Option.some.inj had
     refine ⟨fun h0=>?_,fun i hil=>?_⟩
     ·exact hb (.cell a.block (a.off+0)) (List.mem_append.2 (.inl (List.mem_map.2 ⟨0,List.mem_range.2 (by rw [e1];exact Nat.mul_pos (by omega) e3),rfl⟩)))
     ·obtain ⟨es,hc,ht⟩:=hi i (by omega)
      obtain ⟨_,hcl,hat⟩:=World.cells?_some hc
      rw [e1] at hcl hat
      refine ⟨es,hcl,fun j hj=>?_,?_⟩
      ·rw [←Go.Deep.add_add]
       exact hat j hj
      ·exact (ihe.1 e4 ht (vw w2 _ (List.mem_map.2 ⟨i,List.mem_range.2 hil,rfl⟩)) (fun p hp=>hb p (List.mem_append.2 (.inr (List.mem_flatMap.2 ⟨i,List.mem_range.2 (by omega),hp⟩))))).1
  ·cases hf
end
theorem md {H:Type} {enc:TypeId×Value→H} {P:Program} (hl:laidOutB P=true) {W W':World} (hb:Below W.heap.size W W'):∀ {ts:List TypeId} {vs:List Value} {ds:List (DataW H)} {ps:List MemPlace},
  ts.all (fun t=>P.readableRec t&&decide (t<P.types.size))=true→DataW.TrodAll enc P W 0 (fun _=>true) true ts vs ds ps→(∀x∈ps,x.block<W.heap.size)→DataW.TrodAll enc P W' 0 (fun b=>decide (b<W.heap.size)) true ts vs ds ps
 |[],_,_,_,_,h,_=>by
  obtain ⟨rfl,rfl,rfl⟩:=trodAll_nil h
  rfl
 |t::ts,_,_,_,hr,h,hlt=>by
  obtain ⟨v,vs1,d,ds1,a,b,rfl,rfl,rfl,h1,h2⟩:=trodAll_cons h
  simp only [List.all_cons,Bool.and_eq_true,decide_eq_true_eq] at hr
  refine ⟨a,b,Below.trod hl hr.1.1 hr.1.2 h1 hb (fun x hx=>hlt x (List.mem_append.2 (.inl hx))),md hl hb (by simpa using hr.2) h2 (fun x hx=>hlt x (List.mem_append.2 (.inr hx))),rfl⟩
theorem s5 {H:Type} {enc:TypeId×Value→H} {P:Program} {w:World} {base:Nat} {sp:Nat→Bool} {held:Bool}:∀ {ts:List TypeId} {vs:List Value} {ds:List (DataW H)} {ps:List MemPlace},DataW.TrodAll enc P w base sp held ts vs ds ps→ds.length=ts.length
 |[],_,_,_,h=>by obtain ⟨rfl,rfl,rfl⟩:=trodAll_nil h;rfl
 |t::ts,_,_,_,h=>by
  obtain ⟨v,vs1,d,ds1,a,b,rfl,rfl,rfl,h1,h2⟩:=trodAll_cons h
  simp [s5 h2]
def Sh.val:Sh→List Value→Value
 |.cons _ _,cs=>.agg ⟨cs⟩
 |_,cs=>cs.headD undef
theorem Yi {P:Program} {w:World} {r:Reach} {b:Nat} {t:TypeId} {v:Value}:∀(s:Sh),s.fit P none t=true→Value.okWide P w r b t v→v=s.val v.cells.toList:=by
 intro s hf hv
 cases s with
 |int k=>
  simp only [Sh.fit] at hf
  split at hf
  ·rename_i k' hu
   obtain ⟨n,rfl⟩:=okWide_int hu hv
   rfl
  ·cases hf
 |bool=>
  simp only [Sh.fit] at hf
  split at hf
  ·rename_i hu
   obtain ⟨n,rfl⟩:=okWide_bool hu hv
   rfl
  ·cases hf
 |str=>
  simp only [Sh.fit] at hf
  split at hf
  ·rename_i hu
   obtain ⟨n,rfl⟩:=okWide_string hu hv
   rfl
  ·cases hf
 |nil=>simp [Sh.fit] at hf
 |slice b n e=>
  simp only [Sh.fit] at hf
  split at hf
  ·rename_i te hu
   obtain ⟨a,l,c,rfl⟩:=okWide_slice hu hv
   rfl
  ·cases hf
 |cons s r=>
  simp only [Sh.fit,pb] at hf
  split at hf
  ·rename_i o t' ts hm
   split at hm
   ·rename_i fs hu
    obtain ⟨cs,rfl,_⟩:=okWide_struct hu hv
    rfl
   ·rename_i k e hu
    simp only [Value.okWide,hu] at hv
    obtain ⟨cs,rfl,_⟩:=hv
    rfl
   ·cases hm
  ·cases hf
def qw (w:World) (B:Nat):List Sh→List Value→Prop
 |[],vs=>vs=[]
 |s::ss,vs=>∃cs r,vs=s.val cs::r∧opn w B s cs∧qw w B ss r
theorem nP {H:Type} {enc:TypeId×Value→H} {P:Program} {w:World} {B:Nat}:∀ {shs:List Sh} {ts:List TypeId} {vs:List Value} {ds:List (DataW H)} {ps:List MemPlace} {r:Reach} {b:Nat},
  shs.length=ts.length→(∀(i:Nat) (s:Sh) (t:TypeId),shs[i]?=some s→ts[i]?=some t→s.fit P none t=true)→(∀(j:Nat) t v,ts[j]?=some t→vs[j]?=some v→Value.okWide P w r b t v)→DataW.TrodAll enc P w 0 (fun _=>true) true ts vs ds ps→
   (DataW.weightsEach P ts ds).all (·≤reachBytes)=true→(∀p∈ps,p.block<B)→qw w B shs vs
 |[],[],_,_,_,_,_,_,_,_,h,_,_=>by
  obtain ⟨rfl,_,_⟩:=trodAll_nil h
  rfl
 |[],_::_,_,_,_,_,_,hl,_,_,_,_,_=>by simp at hl
 |_::_,[],_,_,_,_,_,hl,_,_,_,_,_=>by simp at hl
 |s::ss,t::ts,_,_,_,_,_,hl,hf,hok,h,hw,hb=>by
  obtain ⟨v,vs1,d,ds1,a,b,rfl,rfl,rfl,h1,h2⟩:=trodAll_cons h
  obtain ⟨fuel,h1⟩:=h1
  simp only [DataW.weightsEach,List.all_append,Bool.and_eq_true] at hw
  have hv:=Yi s (hf 0 s t rfl rfl) (hok 0 t v rfl rfl)
  refine ⟨v.cells.toList,vs1,by rw [←hv],((Yx s).1 (hf 0 s t rfl rfl) h1 hw.1 (fun p hp=>hb p (List.mem_append.2 (.inl hp)))).1,?_⟩
  exact nP (by simpa using hl) (fun i s' t' hi hi'=>hf (i+1) s' t' (by simpa using hi) (by simpa using hi')) (fun j t' v' hj hj'=>hok (j+1) t' v' (by simpa using hj) (by simpa using hj')) h2 hw.2 (fun p hp=>hb p (List.mem_append.2 (.inr hp)))
theorem qQ {α:Type} {p:Nat→α→Prop}:∀(n:Nat),(∀i,i<n→∃x,p i x)→∃l:List α,l.length=n∧∀i (h:i<l.length),p i l[i]
 |0,_=>⟨[],rfl,fun i h=>by simp at h⟩
 |n+1,h=>by
  obtain ⟨l,hl,hp⟩:=qQ n (fun i hi=>h i (by omega))
  obtain ⟨x,hx⟩:=h n (by omega)
  refine ⟨l++[x],by simp [hl],fun i hi=>?_⟩
  by_cases hin:i<l.length
  ·rw [List.getElem_append_left hin];exact hp i hin
  ·have:i=l.length:=by simp at hi;omega
   subst this
   rw [List.getElem_append_right (Nat.le_refl _)]
   simp [hl] at hx ⊢
   simpa [hl] using hx
end Go.Proofs.YtmibknbmhcnemaaDoor
