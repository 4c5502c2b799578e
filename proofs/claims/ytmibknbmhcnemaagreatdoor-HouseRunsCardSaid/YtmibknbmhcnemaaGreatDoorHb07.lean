import Derived.Test.YtmibknbmhcnemaaGreatDoorHb04
import Derived.Laws.BitsAllLaws
set_option linter.unusedVariables false
set_option linter.unusedSimpArgs false
namespace Go.Proofs.YtmibknbmhcnemaaGreatDoor.A
structure Mp where
 (pr ad po ou tm:Int)
abbrev Mp.enc (t:Mp):List DV:=[.v (.int .i64 t.pr),.v (.int .u32 t.ad),.v (.int .i64 t.po),.v (.int .i64 t.ou),.v (.int .i64 t.tm)]
def YN (a b:Mp):Bool:=decide (a.pr=b.pr∧a.ad=b.ad∧a.po=b.po)
def tkd (b:Int) (t:Nat) (o:Int):Bool:=decide (b≤o∧o≤b+63)&&t.testBit (o-b).toNat
def clr (b:Int) (t:Nat) (o:Int):Nat:=t ^^^ 2 ^ (o-b).toNat
theorem iD {b:Int} {t:Nat} {o:Int} (h:tkd b t o=true):b≤o∧o≤b+63∧t.testBit (o-b).toNat=true:=by
 unfold tkd at h
 rw [Bool.and_eq_true,decide_eq_true_eq] at h
 exact ⟨h.1.1,h.1.2,h.2⟩
theorem cC {b:Int} {t:Nat} {o:Int} (h:tkd b t o=true) (x:Int):tkd b (clr b t o) x=(tkd b t x&&decide (x≠o)):=by
 obtain ⟨h1,h2,h3⟩:=iD h
 unfold tkd clr
 by_cases hx:b≤x∧x≤b+63
 ·by_cases e:x=o
  ·subst e
   rw [Nat.testBit_xor,Nat.testBit_two_pow,h3]
   simp
  ·have hne:¬(o-b).toNat=(x-b).toNat:=by omega
   rw [Nat.testBit_xor,Nat.testBit_two_pow]
   simp [hne,e]
 ·simp [hx]
theorem i9 {b:Int} {t:Nat} {o:Int} (h:tkd b t o=true) (ht:t<18446744073709551616):clr b t o<18446744073709551616:=by
 obtain ⟨h1,h2,h3⟩:=iD h
 have h4:(2:Nat) ^ (o-b).toNat<2 ^ 64:=Nat.pow_lt_pow_right (by omega) (by omega)
 exact Nat.xor_lt_two_pow (n:=64) ht h4
theorem iM {b:Int} {t:Nat} (ht:t<18446744073709551616):t=0↔∀o,tkd b t o=false:=by
 constructor
 ·rintro rfl o
  simp [tkd]
 ·intro h
  refine Nat.eq_of_testBit_eq (fun i=>?_)
  rw [Nat.zero_testBit]
  by_cases hi:i<64
  ·have:=h (b+i)
   unfold tkd at this
   rw [show decide (b≤b+(i:Int)∧b+(i:Int)≤b+63)=true by simp;omega,Bool.true_and,show (b+(i:Int)-b).toNat=i by omega] at this
   exact this
  ·exact Nat.testBit_lt_two_pow (Nat.lt_of_lt_of_le ht (Nat.pow_le_pow_right (n:=2) (by omega) (by omega:64≤i)))
def okE (pre:List Mp) (at':Int) (m:Mp):Bool:=decide (m.pr=17∨m.pr=6)&&decide (0≤m.po∧m.po≤65535)&&decide (at'≤m.tm∧m.tm≤1099511627776)&&pre.all (fun y=>!YN y m)
def tk2 (b1 b2:Int) (t1 t2:Nat) (m:Mp):Bool:=if m.pr=17 then tkd b1 t1 m.ou else tkd b2 t2 m.ou
def n1 (b1:Int) (t1:Nat) (m:Mp):Nat:=if m.pr=17 then clr b1 t1 m.ou else t1
def n2 (b2:Int) (t2:Nat) (m:Mp):Nat:=if m.pr=17 then t2 else clr b2 t2 m.ou
def wy (b1 b2:Int):List Mp→List Mp→Nat→Nat→Int→Bool
 |_,[],t1,t2,_=>decide (t1=0∧t2=0)
 |pre,m::r,t1,t2,a=>okE pre a m&&tk2 b1 b2 t1 t2 m&&wy b1 b2 (pre++[m]) r (n1 b1 t1 m) (n2 b2 t2 m) m.tm
def wP (o m:Mp):Bool:=decide (m.tm<o.tm∨o.pr=m.pr∧(o.ou=m.ou∨o.ad=m.ad∧o.po=m.po))
def uN (pre:List Mp) (m:Mp):Bool:=decide (m.pr=17∨m.pr=6)&&decide (0≤m.po∧m.po≤65535)&&decide (0≤m.tm∧m.tm≤1099511627776)&&pre.all (fun o=>!wP o m)
def yf (b:Int) (t:Nat):List Int:=((List.range 64).filter (fun k=>t.testBit k)).map (fun (k:Nat)=>b+(k:Int))
def wV (pr:Int) (ms:List Mp) (p:Int):Bool:=ms.any (fun m=>decide (m.pr=pr∧m.ou=p))
def sx (b1 b2:Int) (t1 t2:Nat) (ms:List Mp):Bool:=decide (ms.length=(yf b1 t1).length+(yf b2 t2).length)&&((yf b1 t1).all (wV 17 ms)&&(yf b2 t2).all (wV 6 ms))
def tkB (b1 b2:Int) (t1 t2:Nat) (k:Int×Int):Prop:=(k.1=17∧tkd b1 t1 k.2=true)∨(k.1=6∧tkd b2 t2 k.2=true)
def yq (m:Mp):Int×Int:=(m.pr,m.ou)
def eA:List Mp→List Mp→Int→Prop
 |_,[],_=>True
 |pre,m::r,a=>okE pre a m=true∧eA (pre++[m]) r m.tm
theorem nT (b1 b2:Int):∀(r pre:List Mp) (t1 t2:Nat) (a:Int),t1<18446744073709551616→t2<18446744073709551616→
  (wy b1 b2 pre r t1 t2 a=true↔eA pre r a∧(r.map yq).Nodup∧∀k,tkB b1 b2 t1 t2 k↔k∈r.map yq)
 |[],pre,t1,t2,a,h1,h2=>by
  simp only [wy,decide_eq_true_eq,eA,List.map_nil,List.nodup_nil,true_and,List.not_mem_nil,iff_false,iM (b:=b1) h1,iM (b:=b2) h2]
  constructor
  ·rintro ⟨p,q⟩ k (⟨_,h⟩|⟨_,h⟩)
   ·rw [p] at h;cases h
   ·rw [q] at h;cases h
  ·intro h
   refine ⟨fun o=>?_,fun o=>?_⟩
   ·cases e:tkd b1 t1 o with
    |false=>rfl
    |true=>exact (h (17,o) (.inl ⟨rfl,e⟩)).elim
   ·cases e:tkd b2 t2 o with
    |false=>rfl
    |true=>exact (h (6,o) (.inr ⟨rfl,e⟩)).elim
 |m::r,pre,t1,t2,a,h1,h2=>by
  have key:(m.pr=17∨m.pr=6)→tk2 b1 b2 t1 t2 m=true→(n1 b1 t1 m<18446744073709551616∧n2 b2 t2 m<18446744073709551616)∧(tkB b1 b2 t1 t2 (yq m))∧∀k,tkB b1 b2 (n1 b1 t1 m) (n2 b2 t2 m) k↔tkB b1 b2 t1 t2 k∧k≠yq m:=by
   intro hp ht
   by_cases e:m.pr=17
   ·simp only [tk2,n1,n2,if_pos e] at ht ⊢
    refine ⟨⟨i9 ht h1,h2⟩,.inl ⟨e,ht⟩,fun k=>?_⟩
    unfold tkB
    rw [cC ht]
    obtain ⟨k1,k2⟩:=k
    simp only [yq,ne_eq,Prod.mk.injEq,Bool.and_eq_true,decide_eq_true_eq,e]
    constructor
    ·rintro (⟨q1,q2,q3⟩|⟨q1,q2⟩)
     ·exact ⟨.inl ⟨q1,q2⟩,fun q=>q3 q.2⟩
     ·exact ⟨.inr ⟨q1,q2⟩,fun q=>by omega⟩
    ·rintro ⟨⟨q1,q2⟩|⟨q1,q2⟩,q3⟩
     ·exact .inl ⟨q1,q2,fun q=>q3 ⟨q1,q⟩⟩
     ·exact .inr ⟨q1,q2⟩
   ·simp only [tk2,n1,n2,if_neg e] at ht ⊢
    have e6:m.pr=6:=hp.resolve_left e
    refine ⟨⟨h1,i9 ht h2⟩,.inr ⟨e6,ht⟩,fun k=>?_⟩
    unfold tkB
    rw [cC ht]
    obtain ⟨k1,k2⟩:=k
    simp only [yq,ne_eq,Prod.mk.injEq,Bool.and_eq_true,decide_eq_true_eq,e6]
    constructor
    ·rintro (⟨q1,q2⟩|⟨q1,q2,q3⟩)
     ·exact ⟨.inl ⟨q1,q2⟩,fun q=>by omega⟩
     ·exact ⟨.inr ⟨q1,q2⟩,fun q=>q3 q.2⟩
    ·rintro ⟨⟨q1,q2⟩|⟨q1,q2⟩,q3⟩
     ·exact .inl ⟨q1,q2⟩
     ·exact .inr ⟨q1,q2,fun q=>q3 ⟨q1,q⟩⟩
  simp only [wy,eA,Bool.and_eq_true,List.map_cons,List.nodup_cons,List.mem_cons]
  constructor
  ·rintro ⟨⟨q1,q2⟩,q3⟩
   have hp:m.pr=17∨m.pr=6:=by
    simp only [okE,Bool.and_eq_true,decide_eq_true_eq] at q1
    exact q1.1.1.1
   obtain ⟨⟨l1,l2⟩,k1,k2⟩:=key hp q2
   obtain ⟨s1,s2,s3⟩:=(nT b1 b2 r _ _ _ _ l1 l2).1 q3
   refine ⟨⟨q1,s1⟩,⟨fun h=>((k2 _).1 ((s3 _).2 h)).2 rfl,s2⟩,fun k=>⟨fun h=>?_,fun h=>?_⟩⟩
   ·by_cases e:k=yq m
    ·exact .inl e
    ·exact .inr ((s3 k).1 ((k2 k).2 ⟨h,e⟩))
   ·rcases h with rfl|h
    ·exact k1
    ·exact ((k2 k).1 ((s3 k).2 h)).1
  ·rintro ⟨⟨q1,q2⟩,⟨q3,q4⟩,q5⟩
   have hp:m.pr=17∨m.pr=6:=by
    simp only [okE,Bool.and_eq_true,decide_eq_true_eq] at q1
    exact q1.1.1.1
   have ht:tk2 b1 b2 t1 t2 m=true:=by
    unfold tk2
    rcases (q5 (yq m)).2 (.inl rfl) with ⟨e,h⟩|⟨e,h⟩
    ·have e':m.pr=17:=e
     rw [if_pos e'];exact h
    ·have e':m.pr=6:=e
     rw [if_neg (by omega)];exact h
   obtain ⟨⟨l1,l2⟩,k1,k2⟩:=key hp ht
   refine ⟨⟨q1,ht⟩,(nT b1 b2 r _ _ _ _ l1 l2).2 ⟨q2,q4,fun k=>?_⟩⟩
   rw [k2,q5]
   constructor
   ·rintro ⟨h|h,hne⟩
    ·exact (hne h).elim
    ·exact h
   ·intro h
    exact ⟨.inr h,fun e=>q3 (e▸h)⟩
theorem pig {α:Type} [DecidableEq α]:∀(S L:List α),S.Nodup→(∀x∈S,x∈L)→L.length≤S.length→∀x∈L,x∈S
 |[],L,_,_,hl,x,hx=>by
  have:L=[]:=List.eq_nil_of_length_eq_zero (by simpa using hl)
  subst this
  cases hx
 |a::S,L,hn,hs,hl,x,hx=>by
  rw [List.nodup_cons] at hn
  have ha:a∈L:=hs a (by simp)
  by_cases e:x=a
  ·simp [e]
  ·refine List.mem_cons_of_mem _ (pig S (L.erase a) hn.2 (fun y hy=>?_) (by rw [List.length_erase_of_mem ha];simp at hl;omega) x ((List.mem_erase_of_ne e).2 hx))
   exact (List.mem_erase_of_ne (fun (q:y=a)=>hn.1 (q▸hy))).2 (hs y (by simp [hy]))
theorem eC {α:Type} [DecidableEq α]:∀(S L:List α),S.Nodup→(∀x∈S,x∈L)→S.length≤L.length
 |[],L,_,_=>Nat.zero_le _
 |a::S,L,hn,hs=>by
  rw [List.nodup_cons] at hn
  have ha:a∈L:=hs a (by simp)
  have:=eC S (L.erase a) hn.2 (fun y hy=>(List.mem_erase_of_ne (fun (q:y=a)=>hn.1 (q▸hy))).2 (hs y (by simp [hy])))
  rw [List.length_erase_of_mem ha] at this
  have:=List.length_pos_of_mem ha
  simp
  omega
theorem td {b:Int} {t:Nat} {o:Int}:o∈yf b t↔tkd b t o=true:=by
 unfold yf tkd
 simp only [List.mem_map,List.mem_filter,List.mem_range,Bool.and_eq_true,decide_eq_true_eq]
 constructor
 ·rintro ⟨k,⟨h1,h2⟩,rfl⟩
  refine ⟨by omega,?_⟩
  rw [show (b+(k:Int)-b).toNat=k by omega]
  exact h2
 ·rintro ⟨h1,h2⟩
  exact ⟨(o-b).toNat,⟨by omega,h2⟩,by omega⟩
theorem vO {α β:Type} {f:α→β} (hf:∀a b,f a=f b→a=b):∀ {l:List α},l.Nodup→(l.map f).Nodup
 |[],_=>List.nodup_nil
 |a::l,h=>by
  rw [List.nodup_cons] at h
  rw [List.map_cons,List.nodup_cons]
  refine ⟨fun hm=>?_,vO hf h.2⟩
  obtain ⟨x,hx,e⟩:=List.mem_map.1 hm
  exact h.1 (hf _ _ e▸hx)
theorem pF (b:Int) (t:Nat):(yf b t).Nodup:=by
 unfold yf
 exact vO (fun x y h=>by omega) (List.Pairwise.filter _ List.nodup_range)
def mY (b1 b2:Int) (t1 t2:Nat):List (Int×Int):=(yf b1 t1).map (fun o=>(17,o))++(yf b2 t2).map (fun o=>(6,o))
theorem rQ {b1 b2:Int} {t1 t2:Nat} {k:Int×Int}:k∈mY b1 b2 t1 t2↔tkB b1 b2 t1 t2 k:=by
 obtain ⟨p,o⟩:=k
 unfold mY tkB
 simp only [List.mem_append,List.mem_map,Prod.mk.injEq,td]
 constructor
 ·rintro (⟨x,h,rfl,rfl⟩|⟨x,h,rfl,rfl⟩)
  ·exact .inl ⟨rfl,h⟩
  ·exact .inr ⟨rfl,h⟩
 ·rintro (⟨rfl,h⟩|⟨rfl,h⟩)
  ·exact .inl ⟨o,h,rfl,rfl⟩
  ·exact .inr ⟨o,h,rfl,rfl⟩
theorem oJ (b1 b2:Int) (t1 t2:Nat):(mY b1 b2 t1 t2).Nodup:=by
 unfold mY
 rw [List.nodup_append]
 refine ⟨vO (fun x y h=>by simpa using h) (pF _ _),vO (fun x y h=>by simpa using h) (pF _ _),?_⟩
 intro a ha b hb e
 obtain ⟨x,_,rfl⟩:=List.mem_map.1 ha
 obtain ⟨y,_,rfl⟩:=List.mem_map.1 hb
 simp at e
theorem s8 {pr p:Int} {ms:List Mp}:(pr,p)∈ms.map yq↔wV pr ms p=true:=by
 unfold wV
 rw [List.any_eq_true]
 simp only [List.mem_map,yq,Prod.mk.injEq,decide_eq_true_eq]
theorem cO {b1 b2:Int} {t1 t2:Nat} {ms:List Mp} (hn:(ms.map yq).Nodup):sx b1 b2 t1 t2 ms=true↔∀k,tkB b1 b2 t1 t2 k↔k∈ms.map yq:=by
 have hlen:(mY b1 b2 t1 t2).length=(yf b1 t1).length+(yf b2 t2).length:=by simp [mY]
 unfold sx
 simp only [Bool.and_eq_true,decide_eq_true_eq,List.all_eq_true]
 constructor
 ·rintro ⟨h1,h2,h3⟩ k
  have hsub:∀x∈mY b1 b2 t1 t2,x∈ms.map yq:=by
   intro x hx
   rcases rQ.1 hx with ⟨e,h⟩|⟨e,h⟩
   ·have:=s8.2 (h2 x.2 (td.2 h))
    rw [←e] at this
    exact this
   ·have:=s8.2 (h3 x.2 (td.2 h))
    rw [←e] at this
    exact this
  rw [←rQ]
  exact ⟨hsub k,fun h=>pig _ _ (oJ _ _ _ _) hsub (by rw [hlen,List.length_map];omega) k h⟩
 ·intro h
  have a1:=eC _ _ (oJ b1 b2 t1 t2) (fun x hx=>(h x).1 (rQ.1 hx))
  have a2:=eC _ _ hn (fun x hx=>rQ.2 ((h x).2 hx))
  rw [hlen,List.length_map] at a1
  rw [hlen,List.length_map] at a2
  refine ⟨by omega,fun p hp=>s8.1 ((h (17,p)).1 (.inl ⟨rfl,td.1 hp⟩)),fun p hp=>s8.1 ((h (6,p)).1 (.inr ⟨rfl,td.1 hp⟩))⟩
def mV (pre:List Mp) (a:Int):Prop:=0≤a∧(a=0∨∃o∈pre,o.tm=a)∧∀o∈pre,o.tm≤a
theorem nc {pre:List Mp} {a:Int} {m:Mp} (h:mV pre a) (hm:a≤m.tm):mV (pre++[m]) m.tm:=by
 obtain ⟨h0,h1,h2⟩:=h
 refine ⟨by omega,.inr ⟨m,by simp,rfl⟩,fun o ho=>?_⟩
 rcases List.mem_append.1 ho with ho|ho
 ·have:=h2 o ho;omega
 ·obtain rfl:=List.mem_singleton.1 ho
  exact Int.le_refl _
theorem Yh {pre:List Mp} {a:Int} {m:Mp} (h:mV pre a):uN pre m=true↔okE pre a m=true∧yq m∉pre.map yq:=by
 obtain ⟨h0,h1,h2⟩:=h
 unfold uN okE
 simp only [Bool.and_eq_true,decide_eq_true_eq,List.all_eq_true,Bool.not_eq_true',wP,YN,decide_eq_false_iff_not]
 constructor
 ·rintro ⟨⟨⟨q1,q2⟩,q3⟩,q4⟩
  refine ⟨⟨⟨⟨q1,q2⟩,?_,q3.2⟩,fun y hy=>?_⟩,fun hk=>?_⟩
  ·rcases h1 with rfl|⟨o,ho,rfl⟩
   ·exact q3.1
   ·have:=q4 o ho;omega
  ·have:=q4 y hy
   rintro ⟨e1,e2,e3⟩
   exact this (.inr ⟨e1,.inr ⟨e2,e3⟩⟩)
  ·obtain ⟨o,ho,e⟩:=List.mem_map.1 hk
   simp only [yq,Prod.mk.injEq] at e
   exact q4 o ho (.inr ⟨e.1,.inl e.2⟩)
 ·rintro ⟨⟨⟨⟨q1,q2⟩,q3⟩,q4⟩,q5⟩
  refine ⟨⟨⟨q1,q2⟩,by omega,q3.2⟩,fun o ho=>?_⟩
  have:=h2 o ho
  rintro (e|⟨e1,e2|⟨e2,e3⟩⟩)
  ·omega
  ·exact q5 (List.mem_map.2 ⟨o,ho,by simp [yq,e1,e2]⟩)
  ·exact q4 o ho ⟨e1,e2,e3⟩
theorem ij:∀(r pre:List Mp) (a:Int),mV pre a→(yb uN pre r=true↔eA pre r a∧(r.map yq).Nodup∧∀m∈r,yq m∉pre.map yq)
 |[],pre,a,h=>by simp [yb,eA]
 |m::r,pre,a,h=>by
  simp only [yb,Bool.and_eq_true,eA,List.map_cons,List.nodup_cons,Yh h]
  constructor
  ·rintro ⟨⟨q1,q2⟩,q3⟩
   have hm:a≤m.tm:=by
    simp only [okE,Bool.and_eq_true,decide_eq_true_eq] at q1
    exact q1.1.2.1
   obtain ⟨s1,s2,s3⟩:=(ij r (pre++[m]) m.tm (nc h hm)).1 q3
   refine ⟨⟨q1,s1⟩,⟨fun hk=>?_,s2⟩,fun y hy=>?_⟩
   ·obtain ⟨y,hy,e⟩:=List.mem_map.1 hk
    exact s3 y hy (List.mem_map.2 ⟨m,by simp,e.symm⟩)
   ·rcases List.mem_cons.1 hy with rfl|hy
    ·exact q2
    ·intro hk
     refine s3 y hy ?_
     rw [List.map_append]
     exact List.mem_append.2 (.inl hk)
  ·rintro ⟨⟨q1,q2⟩,⟨q3,q4⟩,q5⟩
   have hm:a≤m.tm:=by
    simp only [okE,Bool.and_eq_true,decide_eq_true_eq] at q1
    exact q1.1.2.1
   refine ⟨⟨q1,q5 m (by simp)⟩,(ij r (pre++[m]) m.tm (nc h hm)).2 ⟨q2,q4,fun y hy hk=>?_⟩⟩
   rw [List.map_append] at hk
   rcases List.mem_append.1 hk with hk|hk
   ·exact q5 y (by simp [hy]) hk
   ·simp only [List.map_cons,List.map_nil,List.mem_singleton] at hk
    exact q3 (List.mem_map.2 ⟨y,hy,hk⟩)
theorem rU (b1 b2:Int) (t1 t2:Nat) (ms:List Mp) (h1:t1<18446744073709551616) (h2:t2<18446744073709551616):(yb uN [] ms&&sx b1 b2 t1 t2 ms)=wy b1 b2 [] ms t1 t2 0:=by
 have hl:mV [] 0:=⟨Int.le_refl _,.inl rfl,fun o ho=>by cases ho⟩
 rw [Bool.eq_iff_iff,nT b1 b2 ms [] t1 t2 0 h1 h2,Bool.and_eq_true,ij ms [] 0 hl]
 constructor
 ·rintro ⟨⟨q1,q2,_⟩,q3⟩
  exact ⟨q1,q2,(cO q2).1 q3⟩
 ·rintro ⟨q1,q2,q3⟩
  exact ⟨⟨q1,q2,fun m _ h=>by simp at h⟩,(cO q2).2 q3⟩
end Go.Proofs.YtmibknbmhcnemaaGreatDoor.A
namespace Go.Proofs.YtmibknbmhcnemaaGreatDoor.A
attribute [local irreducible] zF Go
set_option maxRecDepth 100000
theorem z6 (n lo hi:Int):zd Tryz.prog 48 [.v (.int .i64 n),.v (.int .i64 lo),.v (.int .i64 hi)] (.v (.bool (decide (lo≤n∧n≤hi)))):=by
 refine z4 {} 0 Tryz.func48 fun Γ hW=>auC ?_
 repeat' first|refine auS ?_|fail|refine auD ?_|(refine auW ?_ ?_<;>intro h<;>try exact auH)|fail
 all_goals refine auV ?_
 all_goals try exact z8
 all_goals try simp only [hsM] at *
 ·exact zQ (by simp [h])
 ·exact zQ (by simp [h])
theorem jN {S:Nat} (hS:S<18446744073709551616) {r:Int} (h0:0≤r) (h1:r<64):bits .and .u64 ((S:Int).fdiv (2 ^ (min r.toNat IntKind.u64.bits))) 1=if S.testBit r.toNat then 1 else 0:=by
 have hm:min r.toNat IntKind.u64.bits=r.toNat:=Nat.min_eq_left (by show r.toNat≤64;omega)
 have h2:((2:Int) ^ r.toNat)=((2 ^ r.toNat:Nat):Int):=by simp
 have hd:(S:Int).fdiv (2 ^ r.toNat)=((S / 2 ^ r.toNat:Nat):Int):=by
  rw [h2,Int.fdiv_eq_ediv_of_nonneg _ (Int.natCast_nonneg _),Int.natCast_ediv]
 have hq:S / 2 ^ r.toNat<18446744073709551616:=Nat.lt_of_le_of_lt (Nat.div_le_self _ _) hS
 rw [hm,hd]
 have:=Go.u64_and_nat (S / 2 ^ r.toNat) 1 hq (by decide)
 rw [show ((1:Nat):Int)=1 from rfl] at this
 rw [this,Nat.and_one_is_mod,Nat.testBit_eq_decide_div_mod_eq]
 rcases Nat.mod_two_eq_zero_or_one (S / 2 ^ r.toNat) with h|h<;>rw [h]<;>rfl
theorem WT {S:Nat} (hS:S<18446744073709551616) {r:Int} (h0:0≤r) (h1:r<64):bits .xor .u64 (S:Int) (IntKind.u64.wrap (1*2 ^ (min r.toNat IntKind.u64.bits)))=((S ^^^ 2 ^ r.toNat:Nat):Int):=by
 have hm:min r.toNat IntKind.u64.bits=r.toNat:=Nat.min_eq_left (by show r.toNat≤64;omega)
 have h2:((2:Int) ^ r.toNat)=((2 ^ r.toNat:Nat):Int):=by simp
 have h3:2 ^ r.toNat<2 ^ 64:=Nat.pow_lt_pow_right (by decide) (by omega)
 have h4:2 ^ r.toNat<18446744073709551616:=h3
 rw [hm,Int.one_mul,h2,IntWalk.u64_in _ ⟨Int.natCast_nonneg _,Int.ofNat_le.2 (Nat.le_of_lt_succ h4)⟩]
 exact Go.u64_xor_nat S (2 ^ r.toNat) hS h4
def pOk (b:Int):Bool:=decide (64≤b∧b≤65472∧b.tmod 64=0)
def pE (b:Int):Int:=if pOk b then 0 else 1
theorem xj (b:Int) (t:Nat):zd Tryz.prog 64 [.agg [.v (.int .i64 b),.v (.int .u64 (t:Int))]] (.v (.int .i64 (pE b))):=by
 have hw:64≤b∧b≤65472→IntKind.i64.wrap (b.tmod 64)=b.tmod 64:=fun h=>IntWalk.i64_in _ (by have:=Int.tmod_lt_of_pos b (by decide:(0:Int)<64);have:=Int.tmod_nonneg 64 (by omega:0≤b);omega)
 refine z4 {} 0 Tryz.func64 fun Γ hW=>auC ?_
 repeat' first|refine auS ?_|fail|refine auD ?_|(refine auW ?_ ?_<;>intro h<;>try exact auH)|fail
 all_goals try exact auP
 all_goals refine auV ?_
 all_goals try exact z8
 all_goals try simp only [hsM] at *
 all_goals (unfold pE pOk;generalize b.tmod 64=q at *)
 all_goals first
  |(rw [if_neg (by simp;omega)];done)
  |(rw [if_pos (by simp;omega)];done)
theorem xL (b:Int) (t:Nat):zd Tryz.prog 66 [.agg [.v (.int .i64 b),.v (.int .u64 (t:Int))]] (.v (.int .i64 (pE b))):=by
 refine z4 {} 0 Tryz.func66 fun Γ hW=>auC ?_
 repeat' first|refine auS ?_|(with_reducible refine z0 (z6 _ _ _) ?_)|refine auD ?_|(refine auW ?_ ?_<;>intro h<;>try exact auH)|fail
 all_goals try exact auP
 all_goals refine auV ?_
 all_goals try exact z8
 all_goals try simp only [hsM] at *
 all_goals (unfold pE pOk;generalize b.tmod 64=q at *)
 all_goals first
  |(rw [if_neg (by simp;omega)];done)
  |(rw [if_pos (by simp;omega)];done)
def mu (b:Int) (t:Nat) (o:Int):Int:=if pOk b&&tkd b t o then b else 0
def lY (b:Int) (t:Nat) (o:Int):Nat:=if pOk b&&tkd b t o then clr b t o else 0
def qH (b:Int) (t:Nat) (o:Int):Int:=if pOk b then (if tkd b t o then 0 else 7) else 1
set_option maxHeartbeats 1000000 in
theorem rV (b:Int) (t:Nat) (o:Int) (ht:t<18446744073709551616):zd Tryz.prog 74 [.agg [.v (.int .i64 b),.v (.int .u64 (t:Int))],.v (.int .i64 o)] (.tup [.agg [.v (.int .i64 (mu b t o)),.v (.int .u64 (lY b t o:Nat))],.v (.int .i64 (qH b t o))]):=by
 have h1:=xj b t
 cases hp:pOk b with
 |false=>
  have he:pE b=1:=by unfold pE;rw [hp];rfl
  rw [he] at h1
  have e1:mu b t o=0:=by unfold mu;rw [hp];rfl
  have e2:lY b t o=0:=by unfold lY;rw [hp];rfl
  have e3:qH b t o=1:=by unfold qH;rw [hp];rfl
  rw [e1,e2,e3]
  refine z4 {} 0 Tryz.func74 fun Γ hW=>auC ?_
  repeat' first|refine auS ?_|(with_reducible refine z0 h1 ?_)|refine auD ?_|(refine auW ?_ ?_<;>intro h<;>try exact auH)|fail
  all_goals try exact auP
  all_goals refine auV ?_
  all_goals try exact z8
  all_goals try simp only [hsM] at *
  all_goals first
   |rfl
   |(exfalso;simp at h;done)
 |true=>
  have he:pE b=0:=by unfold pE;rw [hp];rfl
  rw [he] at h1
  have hb:64≤b∧b≤65472:=by unfold pOk at hp;have:=of_decide_eq_true hp;omega
  have hw1:IntKind.i64.wrap (b+63)=b+63:=IntWalk.i64_in _ (by omega)
  by_cases hin:b≤o∧o≤b+63
  ·have hw2:IntKind.i64.wrap (o-b)=o-b:=IntWalk.i64_in _ (by omega)
   have hs:=jN ht (r:=o-b) (by omega) (by omega)
   have hx:=WT ht (r:=o-b) (by omega) (by omega)
   cases hbit:t.testBit (o-b).toNat with
   |true=>
    have htk:tkd b t o=true:=by unfold tkd;rw [hbit,Bool.and_true,decide_eq_true_eq];exact hin
    have e1:mu b t o=b:=by unfold mu;rw [hp,htk];rfl
    have e2:lY b t o=clr b t o:=by unfold lY;rw [hp,htk];rfl
    have e3:qH b t o=0:=by unfold qH;rw [hp,htk];rfl
    rw [hbit] at hs
    rw [e1,e2,e3]
    unfold clr
    refine z4 {} 0 Tryz.func74 fun Γ hW=>auC ?_
    repeat' first|refine auS ?_|(first|(with_reducible refine z0 h1 ?_)|(simp only [hw1,hw2,hs,hx]))|refine auD ?_|(refine auW ?_ ?_<;>intro h<;>try exact auH)|fail
    all_goals try exact auP
    all_goals refine auV ?_
    all_goals try exact z8
    all_goals try simp only [hsM] at *
    all_goals first
     |rfl
     |(exfalso;simp at h;done)
   |false=>
    have htk:tkd b t o=false:=by unfold tkd;rw [hbit,Bool.and_false]
    have e1:mu b t o=0:=by unfold mu;rw [hp,htk];rfl
    have e2:lY b t o=0:=by unfold lY;rw [hp,htk];rfl
    have e3:qH b t o=7:=by unfold qH;rw [hp,htk];rfl
    rw [hbit] at hs
    rw [e1,e2,e3]
    refine z4 {} 0 Tryz.func74 fun Γ hW=>auC ?_
    repeat' first|refine auS ?_|(first|(with_reducible refine z0 h1 ?_)|(simp only [hw1,hw2,hs,hx]))|refine auD ?_|(refine auW ?_ ?_<;>intro h<;>try exact auH)|fail
    all_goals try exact auP
    all_goals refine auV ?_
    all_goals try exact z8
    all_goals try simp only [hsM] at *
    all_goals first
     |rfl
     |(exfalso;simp at h;done)
  ·have htk:tkd b t o=false:=by unfold tkd;rw [decide_eq_false hin,Bool.false_and]
   have e1:mu b t o=0:=by unfold mu;rw [hp,htk];rfl
   have e2:lY b t o=0:=by unfold lY;rw [hp,htk];rfl
   have e3:qH b t o=7:=by unfold qH;rw [hp,htk];rfl
   rw [e1,e2,e3]
   refine z4 {} 0 Tryz.func74 fun Γ hW=>auC ?_
   repeat' first|refine auS ?_|(first|(with_reducible refine z0 h1 ?_)|(simp only [hw1]))|refine auD ?_|(refine auW ?_ ?_<;>intro h<;>try exact auH)|fail
   all_goals try exact auP
   all_goals refine auV ?_
   all_goals try exact z8
   all_goals try simp only [hsM] at *
   all_goals first
    |rfl
    |(exfalso;simp at h;done)
abbrev wv (n:Int):List DV:=[.v (.int .i64 n)]
theorem sB {l:List Int} {k:Nat} {t:Int} (ht:l[k]?=some t):ym (l.map wv) k=[.v (.int .i64 t)]:=zT wv l k t ht
theorem dq (l:List Int) (v:Int) (c:Bool) (hl:l.length≤maxLen):zd Tryz.prog 165 [.snap 1 (l.map wv) c,.v (.int .i64 v)] (.v (.int .i64 (zl (fun x:Int=>decide (v=x)) l 0))):=by
 unfold maxLen at hl
 refine z4 {} 0 Tryz.func165 fun Γ hW=>auC ?_
 repeat' first|refine auS ?_|fail|refine auD ?_|(refine auW ?_ ?_<;>intro h<;>try exact auH)|fail
 refine ze (α:=Nat) (fun k=>[(⟨.d0,.d1,.d0⟩,.v (.int .i64 (k:Nat)))]) (fun _=>[]) (fun _=>Γ.g0) (fun k=>l.length-k) (fun k=>k≤l.length∧zl (fun x:Int=>decide (v=x)) l 0=zl (fun x:Int=>decide (v=x)) (l.drop k) k) 0 ⟨Nat.zero_le _,rfl⟩ ?_ ?_
 ·skip
  refine zb ?_ ?_ (Nat.le_refl _)
  all_goals first|refine auE ?_|exact zi
  all_goals repeat' first|exact trivial|exact rfl|apply And.intro
 ·rintro k ⟨hk,hp⟩
  refine auL ?_
  by_cases hlt:k<l.length
  ·obtain ⟨t,ht⟩:∃t,l[k]?=some t:=⟨_,List.getElem?_eq_getElem hlt⟩
   have ex:=sB ht
   rw [List.drop_eq_getElem_cons hlt,show l[k]=t from Option.some.inj ((List.getElem?_eq_getElem hlt).symm.trans ht)] at hp
   repeat' first|refine auS ?_|fail|refine auD ?_|(refine auW ?_ ?_<;>intro h<;>try exact auH)|(simp only [Int.toNat_natCast,ex])
   all_goals try exact auP
   ·skip
    all_goals refine auV ?_
    all_goals try exact z8
    all_goals try simp only [hsM] at *
    rw [hp]
    simp [zl, *]
   ·refine za ?_
    refine ⟨k+1,⟨Nat.succ_le_of_lt hlt,by rw [hp];simp_all [zl]⟩,Nat.sub_lt_sub_left hlt (Nat.lt_succ_self k),?_⟩
    refine zb ?_ ?_ (Nat.le_refl _)
    all_goals first|refine auE ?_|exact zi
    all_goals repeat' first|exact trivial|exact rfl|apply And.intro
    exact zB ((IntWalk.i64_in _ (by omega)).trans (by omega))
  ·skip
   repeat' first|refine auS ?_|fail|refine auD ?_|(refine auW ?_ ?_<;>intro h<;>try exact auH)|fail
   all_goals try exact auP
   all_goals refine auV ?_
   all_goals try exact z8
   all_goals try simp only [hsM] at *
   obtain rfl:k=l.length:=by omega
   rw [hp,List.drop_length]
   rfl
theorem wF (l:List Int) (v:Int) (c:Bool) (hl:l.length≤maxLen):zd Tryz.prog 121 [.snap 1 (l.map wv) c,.v (.int .i64 v)] (.v (.bool (l.any (fun x:Int=>decide (v=x))))):=by
 have hi:=dq l v c hl
 refine z4 {} 0 Tryz.func121 fun Γ hW=>auC ?_
 repeat' first|refine auS ?_|(with_reducible refine z0 hi ?_)|refine auD ?_|(refine auW ?_ ?_<;>intro h<;>try exact auH)|fail
 all_goals refine auV ?_
 all_goals try exact z8
 all_goals try simp only [hsM] at *
 refine zQ ?_
 rcases yD (fun x:Int=>decide (v=x)) l 0 with ⟨h1,h2⟩|⟨i,t,h1,h2,h3,h4⟩
 ·rw [h1,List.any_eq_false.2 (fun t ht=>by simp [h2 t ht])]
  rfl
 ·rw [h4,List.any_eq_true.2 ⟨t,List.mem_of_getElem? h1,h2⟩]
  (simp;try omega)
def y6 (b:Int) (t n:Nat):List Int:=((List.range n).filter (fun k=>!t.testBit k)).map (fun (k:Nat)=>b+(k:Int))
def wC (b:Int) (t n:Nat):List Int:=((List.range n).filter (fun k=>t.testBit k)).map (fun (k:Nat)=>b+(k:Int))
theorem q8 (b:Int) (t n:Nat):(y6 b t n).length≤n:=by
 unfold y6
 rw [List.length_map]
 exact Nat.le_trans (List.length_filter_le _ _) (by simp)
theorem qJ (b:Int) (t n:Nat):(wC b t n).length≤n:=by
 unfold wC
 rw [List.length_map]
 exact Nat.le_trans (List.length_filter_le _ _) (by simp)
theorem cD {b:Int} {t n:Nat} (h:t.testBit n=false):y6 b t (n+1)=y6 b t n++[b+(n:Int)]:=by
 unfold y6
 rw [List.range_succ,List.filter_append,List.map_append]
 simp [h]
theorem W_ {b:Int} {t n:Nat} (h:t.testBit n=true):y6 b t (n+1)=y6 b t n:=by
 unfold y6
 rw [List.range_succ,List.filter_append,List.map_append]
 simp [h]
theorem gI {b:Int} {t n:Nat} (h:t.testBit n=true):wC b t (n+1)=wC b t n++[b+(n:Int)]:=by
 unfold wC
 rw [List.range_succ,List.filter_append,List.map_append]
 simp [h]
theorem ZZ {b:Int} {t n:Nat} (h:t.testBit n=false):wC b t (n+1)=wC b t n:=by
 unfold wC
 rw [List.range_succ,List.filter_append,List.map_append]
 simp [h]
theorem hU {b:Int} {t k:Nat} (hk:k<64):(y6 b t 64).any (fun x:Int=>decide (b+(k:Int)=x)) = !t.testBit k:=by
 unfold y6
 rw [List.any_map]
 cases h:t.testBit k with
 |false=>
  rw [Bool.not_false,List.any_eq_true]
  exact ⟨k,List.mem_filter.2 ⟨List.mem_range.2 hk,by simp [h]⟩,by simp⟩
 |true=>
  rw [Bool.not_true,List.any_eq_false]
  intro x hx
  obtain ⟨_,h2⟩:=List.mem_filter.1 hx
  simp only [Function.comp_apply,decide_eq_true_eq]
  intro e
  have:k=x:=by omega
  subst this
  simp [h] at h2
theorem XY (t k:Nat):((t / 2 ^ k:Nat):Int).tmod 2=if t.testBit k then 1 else 0:=by
 rw [Nat.testBit_eq_decide_div_mod_eq]
 generalize t / 2 ^ k=n
 rw [Int.tmod_eq_emod_of_nonneg (by omega)]
 by_cases h:n % 2=1
 ·simp [h];omega
 ·simp [h];omega
theorem Wi (t k:Nat):((t / 2 ^ k:Nat):Int).tdiv 2=((t / 2 ^ (k+1):Nat):Int):=by
 rw [Nat.pow_succ,←Nat.div_div_eq_div_mul]
 generalize t / 2 ^ k=n
 rw [Int.tdiv_eq_ediv_of_nonneg (by omega)]
 omega
theorem Vp {t:Nat} (ht:t<18446744073709551616) (k:Nat):IntKind.u64.wrap ((t / 2 ^ k:Nat):Int)=((t / 2 ^ k:Nat):Int):=
 IntWalk.u64_in _ (by have:=Nat.div_le_self t (2 ^ k);generalize t / 2 ^ k=n at *;omega)
set_option maxHeartbeats 2000000 in
theorem qf (b:Int) (t:Nat) (hb:64≤b∧b≤65472) (ht:t<18446744073709551616):zd Tryz.prog 122 [.agg [.v (.int .i64 b),.v (.int .u64 (t:Int))]] (.snap 1 ((y6 b t 64).map wv) false):=by
 refine z4 {} 0 Tryz.func122 fun Γ hW=>auC ?_
 repeat' first|refine auS ?_|fail|refine auD ?_|(refine auW ?_ ?_<;>intro h<;>try exact auH)|fail
 apply sd
 ·exact yW ⟨.d0,.d0,.d3⟩ 2 1 rfl rfl
 refine auL ?_
 refine ze (α:=Nat×Nat×Nat) (fun p=>[(⟨.d0,.d0,.d3⟩,.sl 2 p.2.1 1 0 (y6 b t p.1).length false),(⟨.d0,.d0,.d4⟩,.v (.int .u64 ((t / 2 ^ p.1:Nat):Int))),(⟨.d0,.d1,.d0⟩,.v (.int .i64 (p.1:Nat)))]) (fun p=>[(1,none),(2,some ⟨p.2.1,1,(y6 b t p.1).map wv⟩)]) (fun p=>p.2.2) (fun p=>64-p.1) (fun p=>p.1≤64) (0,Γ.g0+1,Γ.g0+1+1) (Nat.zero_le _) ?_ ?_
 ·skip
  refine zb ?_ ?_ (Nat.le_refl _)
  all_goals first|refine auE ?_|exact zi
  all_goals repeat' first|exact trivial|exact rfl|apply And.intro
  rw [Nat.pow_zero,Nat.div_one]
 rintro ⟨k,nm,gn⟩ hk
 dsimp only at hk ⊢
 refine auL ?_
 by_cases hlt:k<64
 ·have hm:=XY t k
  have hd:=Wi t k
  have hdw:=Vp ht (k+1)
  have hw:IntKind.i64.wrap (b+(k:Int))=b+(k:Int):=IntWalk.i64_in _ (by omega)
  have hfl:=q8 b t k
  cases hbit:t.testBit k with
  |true=>
   rw [hbit] at hm
   repeat' first|refine auS ?_|(simp only [hm,hd,hdw])|refine auD ?_|(refine auW ?_ ?_<;>intro h<;>try exact auH)|fail
   all_goals try exact auP
   all_goals first
    |(exfalso;simp at h;done)
    |skip
   refine za ⟨(k+1,nm,gn),hlt,Nat.sub_lt_sub_left hlt (Nat.lt_succ_self k),?_⟩
   dsimp only
   rw [W_ hbit]
   refine zb ?_ ?_ (Nat.le_refl _)
   all_goals first|refine auE ?_|exact zi
   all_goals repeat' first|exact trivial|exact rfl|apply And.intro
   all_goals first
    |exact zB ((IntWalk.i64_in _ (by omega)).trans (by omega))
    |skip
  |false=>
   rw [hbit] at hm
   repeat' first|refine auS ?_|(simp only [hm,hd,hdw,hw])|refine auD ?_|(refine auW ?_ ?_<;>intro h<;>try exact auH)|(refine z7 ⟨by rfl,by unfold zZ maxLen;rw [List.length_map];simp;omega⟩ ?_)
   all_goals try exact auP
   all_goals first
    |(exfalso;simp at h;done)
    |skip
   have hcat:(y6 b t k).map wv++[[.v (.int .i64 (b+(k:Int)))]]=(y6 b t (k+1)).map wv:=by rw [cD hbit,List.map_append];rfl
   have hcl:(y6 b t k).length+1=(y6 b t (k+1)).length:=by rw [cD hbit];simp
   simp only [List.length_map]
   refine za ⟨(k+1,gn+1,gn+2),hlt,Nat.sub_lt_sub_left hlt (Nat.lt_succ_self k),?_⟩
   dsimp only
   rw [←hcat,←hcl]
   refine zb ?_ ?_ (Nat.le_refl _)
   all_goals first|refine auE ?_|exact zi
   all_goals repeat' first|exact trivial|exact rfl|apply And.intro
   all_goals first
    |exact zB ((IntWalk.i64_in _ (by omega)).trans (by omega))
    |skip
 ·obtain rfl:k=64:=by omega
  repeat' first|refine auS ?_|fail|refine auD ?_|(refine auW ?_ ?_<;>intro h<;>try exact auH)|fail
  all_goals try exact auP
  refine zt (zk hW ⟨.d0,.d0,.d2⟩ rfl rfl ⟨rfl,rfl,by simp⟩) ?_
  rw [yN (List.length_map _).symm]
  have hnf:xb Γ.g0 ((y6 b t 64).map wv):=zn (fun x=>by simp [nfL,nfD])
  all_goals refine auV ?_
  all_goals try exact z8
  all_goals try simp only [hsM] at *
end Go.Proofs.YtmibknbmhcnemaaGreatDoor.A
