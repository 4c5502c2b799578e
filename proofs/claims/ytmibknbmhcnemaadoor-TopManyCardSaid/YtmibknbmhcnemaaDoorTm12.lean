import Derived.Test.YtmibknbmhcnemaaDoorTm09
import Derived.Test.YtmibknbmhcnemaaDoorTm11
set_option linter.unusedVariables false
set_option linter.unusedSimpArgs false
namespace Go.Proofs.YtmibknbmhcnemaaDoor.A
end Go.Proofs.YtmibknbmhcnemaaDoor.A
namespace Go.Proofs.YtmibknbmhcnemaaDoor.A
end Go.Proofs.YtmibknbmhcnemaaDoor.A
namespace Go.Proofs.YtmibknbmhcnemaaDoor.A
theorem qT {α:Type} (p:α→Bool) (l:List α):(ze p l 0 = -1∧l.find? p=none)∨∃ (i:Nat) (t:α),l[i]?=some t∧ze p l 0=(i:Int)∧l.find? p=some t:=by
 rcases xn p l 0 with ⟨h1,h2⟩|⟨i,t,h1,h2,h3,h4⟩
 ·exact .inl ⟨h1,List.find?_eq_none.2 (fun x hx=>by simp [h2 x hx])⟩
 ·refine .inr ⟨i,t,h1,by rw [h4];simp,?_⟩
  have hi:i<l.length:=(List.getElem?_eq_some_iff.1 h1).1
  have e:l=l.take i++t::l.drop (i+1):=by
   have:l.drop i=t::l.drop (i+1):=by rw [List.drop_eq_getElem_cons hi,show l[i]=t from Option.some.inj ((List.getElem?_eq_getElem hi).symm.trans h1)]
   rw [←this,List.take_append_drop]
  rw [e,List.find?_append,List.find?_eq_none.2 (fun x hx=>by simp [h3 x hx])]
  simp [h2]
end Go.Proofs.YtmibknbmhcnemaaDoor.A
namespace Go.Proofs.YtmibknbmhcnemaaDoor.A
def wM (b pr:Int) (m:Mp):Nat:=if m.pr=pr then 2 ^ (m.ou-b).toNat else 0
def bs (b pr:Int):List Mp→Nat
 |[]=>0
 |m::r=>wM b pr m+bs b pr r
theorem bV (b pr:Int):∀(l r:List Mp),bs b pr (l++r)=bs b pr l+bs b pr r
 |[],r=>by simp [bs]
 |m::l,r=>by simp only [List.cons_append,bs,bV b pr l r];omega
def inR (b pr:Int) (ms:List Mp):Prop:=∀m∈ms,m.pr=pr→b≤m.ou∧m.ou≤b+63
theorem vO (b pr:Int):∀(ms:List Mp),inR b pr ms→(ms.map xv).Nodup→bs b pr ms<18446744073709551616∧∀j,(bs b pr ms).testBit j=ms.any (fun m=>decide (m.pr=pr∧(m.ou-b).toNat=j))
 |[],_,_=>⟨by simp [bs],fun j=>by simp [bs]⟩
 |m::r,hr,hn=>by
  simp only [List.map_cons,List.nodup_cons] at hn
  obtain ⟨h1,h2⟩:=vO b pr r (fun y hy=>hr y (List.mem_cons_of_mem _ hy)) hn.2
  by_cases hp:m.pr=pr
  ·obtain ⟨r1,r2⟩:=hr m (by simp) hp
   have hc:(bs b pr r).testBit (m.ou-b).toNat=false:=by
    rw [h2,List.any_eq_false]
    intro y hy
    simp only [decide_eq_true_eq,not_and]
    intro e1 e2
    obtain ⟨q1,q2⟩:=hr y (List.mem_cons_of_mem _ hy) e1
    exact hn.1 (List.mem_map.2 ⟨y,hy,by simp only [xv,Prod.mk.injEq];exact ⟨e1.trans hp.symm,by omega⟩⟩)
   have e:bs b pr (m::r)=bs b pr r+2 ^ (m.ou-b).toNat:=by
    simp only [bs,wM]
    rw [if_pos hp,Nat.add_comm]
   rw [e]
   refine ⟨Y7 h1 (by omega) hc,fun j=>?_⟩
   rw [ru hc,Nat.testBit_or,h2,Nat.testBit_two_pow,List.any_cons,Bool.or_comm]
   congr 1
   simp [hp]
  ·have e:bs b pr (m::r)=bs b pr r:=by
    simp only [bs,wM]
    rw [if_neg hp,Nat.zero_add]
   rw [e]
   exact ⟨h1,fun j=>by rw [h2,List.any_cons];simp [hp]⟩
theorem l_ {b pr:Int} {ms:List Mp} (hr:inR b pr ms) (hn:(ms.map xv).Nodup) (o:Int) (h0:b≤o∧o≤b+63):tkd b (bs b pr ms) o=sU pr ms o:=by
 unfold tkd sU
 rw [decide_eq_true h0,Bool.true_and,(vO b pr ms hr hn).2,Bool.eq_iff_iff,List.any_eq_true,List.any_eq_true]
 constructor
 ·rintro ⟨m,hm,h⟩
  have h:=of_decide_eq_true h
  have:=hr m hm h.1
  exact ⟨m,hm,decide_eq_true ⟨h.1,by omega⟩⟩
 ·rintro ⟨m,hm,h⟩
  have h:=of_decide_eq_true h
  exact ⟨m,hm,decide_eq_true ⟨h.1,by rw [h.2]⟩⟩
theorem ZN {b pr:Int} {t:Nat} {ms:List Mp} (ht:t<18446744073709551616) (hr:inR b pr ms) (hn:(ms.map xv).Nodup) (h:∀o,tkd b t o=sU pr ms o):t=bs b pr ms:=by
 obtain ⟨h1,h2⟩:=vO b pr ms hr hn
 refine Nat.eq_of_testBit_eq fun j=>?_
 rcases Nat.lt_or_ge j 64 with hj|hj
 ·have e:=h (b+(j:Int))
  rw [←l_ hr hn _ (by omega)] at e
  unfold tkd at e
  rw [decide_eq_true (by omega),Bool.true_and,Bool.true_and,show (b+(j:Int)-b).toNat=j by omega] at e
  exact e
 ·have hp:18446744073709551616≤2 ^ j:=Nat.pow_le_pow_right (n:=2) (by decide) hj
  rw [Nat.testBit_lt_two_pow (by omega),Nat.testBit_lt_two_pow (by omega)]
structure tc (b1 b2:Int) (ms:List Mp):Prop where
 pr:∀m∈ms,m.pr=17∨m.pr=6
 tm:∀m∈ms,0≤m.tm∧m.tm≤1099511627776
 r1:inR b1 17 ms
 r2:inR b2 6 ms
 pw:ms.Pairwise (fun o m=>sP o m=false)
theorem tc.sub {b1 b2:Int} {ms l:List Mp} (h:tc b1 b2 ms) (hs:l.Sublist ms):tc b1 b2 l:=
 ⟨fun m hm=>h.pr m (hs.subset hm),fun m hm=>h.tm m (hs.subset hm),fun m hm=>h.r1 m (hs.subset hm),fun m hm=>h.r2 m (hs.subset hm),h.pw.sublist hs⟩
theorem tc.nd {b1 b2:Int} {ms:List Mp} (h:tc b1 b2 ms):(ms.map xv).Nodup:=by
 rw [List.nodup_iff_pairwise_ne,List.pairwise_map]
 refine h.pw.imp ?_
 intro o m hc e
 simp only [xv,Prod.mk.injEq] at e
 unfold sP at hc
 rw [decide_eq_false_iff_not] at hc
 exact hc (.inr ⟨e.1,.inl e.2⟩)
theorem df {ms:List Mp} (h:y9 pT [] ms=true):ms.Pairwise (fun o m=>sP o m=false):=by
 rw [List.pairwise_iff_getElem]
 intro i j hi hj hij
 have:=tS h (List.getElem?_eq_getElem hj)
 unfold pT at this
 simp only [Bool.and_eq_true,List.all_eq_true,Bool.not_eq_true'] at this
 refine this.2 _ ?_
 rw [List.nil_append,List.mem_take_iff_getElem]
 exact ⟨i,by omega,rfl⟩
theorem n7 {l b1:Int} {t1:Nat} {b2:Int} {t2:Nat} {ms:List Mp} (h1:t1<18446744073709551616) (h2:t2<18446744073709551616) (h:zF l b1 t1 b2 t2 ms=0):(1≤l∧l≤1000000)∧(pOk b1=true∧pOk b2=true)∧tc b1 b2 ms∧t1=bs b1 17 ms∧t2=bs b2 6 ms:=by
 unfold zF at h
 split at h
 ·rename_i hc
  split at h
  ·rename_i hr
   simp only [Bool.and_eq_true,decide_eq_true_eq] at hc
   refine ⟨hc.1,hc.2,?_⟩
   have hr':=hr
   rw [pg b1 b2 ms [] t1 t2 0 h1 h2] at hr'
   obtain ⟨_,hn,hk⟩:=hr'
   rw [←qk b1 b2 t1 t2 ms h1 h2,Bool.and_eq_true] at hr
   have hg:=hr.1
   have hat:∀m∈ms,(m.pr=17∨m.pr=6)∧(0≤m.tm∧m.tm≤1099511627776):=fun m hm=>by
    obtain ⟨j,hj⟩:=List.mem_iff_getElem?.1 hm
    have:=tS hg hj
    unfold pT at this
    simp only [Bool.and_eq_true,decide_eq_true_eq] at this
    exact ⟨this.1.1.1,this.1.2⟩
   have k1:∀o,tkd b1 t1 o=sU 17 ms o:=fun o=>by
    rw [Bool.eq_iff_iff,←wQ,←hk (17,o)]
    simp [tkB]
   have k2:∀o,tkd b2 t2 o=sU 6 ms o:=fun o=>by
    rw [Bool.eq_iff_iff,←wQ,←hk (6,o)]
    simp [tkB]
   have hR:∀(b pr:Int) (t:Nat),(∀o,tkd b t o=sU pr ms o)→inR b pr ms:=fun b pr t hk m hm hp=>by
    have:sU pr ms m.ou=true:=List.any_eq_true.2 ⟨m,hm,by simp [hp]⟩
    rw [←hk] at this
    exact ⟨(qb this).1,(qb this).2.1⟩
   have r1:=hR b1 17 t1 k1
   have r2:=hR b2 6 t2 k2
   exact ⟨⟨fun m hm=>(hat m hm).1,fun m hm=>(hat m hm).2,r1,r2,df hg⟩,ZN h1 r1 hn k1,ZN h2 r2 hn k2⟩
  ·omega
 ·omega
theorem kd {b pr:Int} {m:Mp} {r:List Mp} (hr:inR b pr (m::r)) (hn:((m::r).map xv).Nodup) (hp:m.pr=pr):tkd b (bs b pr (m::r)) m.ou=true∧clr b (bs b pr (m::r)) m.ou=bs b pr r:=by
 obtain ⟨r1,r2⟩:=hr m (by simp) hp
 have hn':=hn
 simp only [List.map_cons,List.nodup_cons] at hn
 obtain ⟨h1,h2⟩:=vO b pr r (fun y hy=>hr y (List.mem_cons_of_mem _ hy)) hn.2
 have hc:(bs b pr r).testBit (m.ou-b).toNat=false:=by
  rw [h2,List.any_eq_false]
  intro y hy
  simp only [decide_eq_true_eq,not_and]
  intro e1 e2
  obtain ⟨q1,q2⟩:=hr y (List.mem_cons_of_mem _ hy) e1
  exact hn.1 (List.mem_map.2 ⟨y,hy,by simp only [xv,Prod.mk.injEq];exact ⟨e1.trans hp.symm,by omega⟩⟩)
 have e:bs b pr (m::r)=bs b pr r ||| 2 ^ (m.ou-b).toNat:=by
  simp only [bs,wM]
  rw [if_pos hp,Nat.add_comm,ru hc]
 refine ⟨?_,?_⟩
 ·rw [l_ hr hn' _ ⟨r1,r2⟩]
  exact List.any_eq_true.2 ⟨m,by simp,by simp [hp]⟩
 ·unfold clr
  rw [e]
  refine Nat.eq_of_testBit_eq fun i=>?_
  rw [Nat.testBit_xor,Nat.testBit_or,Nat.testBit_two_pow]
  by_cases hi:(m.ou-b).toNat=i
  ·rw [←hi,hc,decide_eq_true rfl]
   rfl
  ·rw [decide_eq_false hi]
   simp
theorem gA {b pr:Int} {m:Mp} {r:List Mp} (hp:¬m.pr=pr):bs b pr (m::r)=bs b pr r:=by simp only [bs,wM];rw [if_neg hp,Nat.zero_add]
def ue (l now:Int) (m:Mp):Bool:=decide (now≤m.tm+l)
def yng (l now:Int) (ms:List Mp):List Mp:=ms.filter (ue l now)
theorem n9 {b1 b2 l now:Int} {ms:List Mp} (h:tc b1 b2 ms) (k:Nat) (h1:∀m∈ms.take k,ue l now m=false) (h2:∀m,ms[k]?=some m→ue l now m=true):yng l now ms=ms.drop k:=by
 have e:ms=ms.take k++ms.drop k:=(List.take_append_drop k ms).symm
 unfold yng
 rw [e,List.filter_append,List.filter_eq_nil_iff.2 (fun m hm=>by rw [h1 m hm];decide),List.nil_append,←e,List.filter_eq_self]
 intro m hm
 obtain ⟨i,hi,rfl⟩:=List.mem_iff_getElem.1 hm
 rw [List.length_drop] at hi
 rw [List.getElem_drop]
 have hk:k<ms.length:=by omega
 have hy:=h2 ms[k] (List.getElem?_eq_getElem hk)
 rcases Nat.eq_zero_or_pos i with rfl|hp
 ·exact hy
 ·have hc:=List.pairwise_iff_getElem.1 h.pw k (k+i) hk (by omega) (by omega)
  unfold sP at hc
  rw [decide_eq_false_iff_not] at hc
  unfold ue at hy ⊢
  have:=of_decide_eq_true hy
  exact decide_eq_true (by omega)
abbrev isP (pr ad po:Int):Mp→Bool:=fun m=>decide (m.pr=pr∧m.ad=ad∧m.po=po)
def qs (pr ad po:Int) (ms:List Mp):List Mp:=ms.filter (fun m=>!isP pr ad po m)
theorem Yd {b1 b2 pr ad po:Int} {ms:List Mp} (h:tc b1 b2 ms) {i:Nat} {m:Mp} (hi:ms[i]?=some m) (hm:isP pr ad po m=true):qs pr ad po ms=ms.take i++ms.drop (i+1):=by
 have hlt:i<ms.length:=(List.getElem?_eq_some_iff.1 hi).1
 have hmi:ms[i]=m:=Option.some.inj ((List.getElem?_eq_getElem hlt).symm.trans hi)
 have e:ms=ms.take i++m::ms.drop (i+1):=by
  have:ms.drop i=m::ms.drop (i+1):=by rw [List.drop_eq_getElem_cons hlt,hmi]
  rw [←this,List.take_append_drop]
 have hm':=of_decide_eq_true hm
 have hne:∀j (hj:j<ms.length),j≠i→isP pr ad po ms[j]=false:=fun j hj hji=>by
  unfold isP
  rw [decide_eq_false_iff_not]
  rintro ⟨e1,e2,e3⟩
  rcases Nat.lt_or_gt_of_ne hji with hlt'|hgt
  ·have hc:=List.pairwise_iff_getElem.1 h.pw j i hj hlt hlt'
   unfold sP at hc
   rw [decide_eq_false_iff_not,hmi] at hc
   exact hc (.inr ⟨by rw [e1,hm'.1],.inr ⟨by rw [e2,hm'.2.1],by rw [e3,hm'.2.2]⟩⟩)
  ·have hc:=List.pairwise_iff_getElem.1 h.pw i j hlt hj hgt
   unfold sP at hc
   rw [decide_eq_false_iff_not,hmi] at hc
   exact hc (.inr ⟨by rw [e1,hm'.1],.inr ⟨by rw [e2,hm'.2.1],by rw [e3,hm'.2.2]⟩⟩)
 have q1:(ms.take i).filter (fun m=>!isP pr ad po m)=ms.take i:=List.filter_eq_self.2 fun y hy=>by
  obtain ⟨j,hj,rfl⟩:=List.mem_take_iff_getElem.1 hy
  rw [hne j (by omega) (by omega)]
  rfl
 have q2:(ms.drop (i+1)).filter (fun m=>!isP pr ad po m)=ms.drop (i+1):=List.filter_eq_self.2 fun y hy=>by
  obtain ⟨j,hj,rfl⟩:=List.mem_iff_getElem.1 hy
  rw [List.length_drop] at hj
  rw [List.getElem_drop,hne (i+1+j) (by omega) (by omega)]
  rfl
 unfold qs
 rw [e,List.filter_append,List.filter_cons]
 rw [←e]
 rw [q1,q2,hm]
 rfl
end Go.Proofs.YtmibknbmhcnemaaDoor.A
