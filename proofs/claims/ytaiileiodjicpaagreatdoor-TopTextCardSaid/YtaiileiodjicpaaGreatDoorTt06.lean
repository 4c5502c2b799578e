import Derived.Test.YtaiileiodjicpaaGreatDoorTt04
import Derived.Laws.BitsAllLaws
set_option linter.unusedVariables false
set_option linter.unusedSimpArgs false
namespace Go.Proofs.YtaiileiodjicpaaGreatDoor.A
structure Mp where
 (pr ad po ou tm:Int)
abbrev Mp.enc (t:Mp):List DV:=[.v (.int .i64 t.pr),.v (.int .u32 t.ad),.v (.int .i64 t.po),.v (.int .i64 t.ou),.v (.int .i64 t.tm)]
def Y4 (a b:Mp):Bool:=decide (a.pr=b.pr∧a.ad=b.ad∧a.po=b.po)
def tkd (b:Int) (t:Nat) (o:Int):Bool:=decide (b≤o∧o≤b+63)&&t.testBit (o-b).toNat
def clr (b:Int) (t:Nat) (o:Int):Nat:=t ^^^ 2 ^ (o-b).toNat
theorem jY {b:Int} {t:Nat} {o:Int} (h:tkd b t o=true):b≤o∧o≤b+63∧t.testBit (o-b).toNat=true:=by
 unfold tkd at h
 rw [Bool.and_eq_true,decide_eq_true_eq] at h
 exact ⟨h.1.1,h.1.2,h.2⟩
theorem cO {b:Int} {t:Nat} {o:Int} (h:tkd b t o=true) (x:Int):tkd b (clr b t o) x=(tkd b t x&&decide (x≠o)):=by
 obtain ⟨h1,h2,h3⟩:=jY h
 unfold tkd clr
 by_cases hx:b≤x∧x≤b+63
 ·by_cases e:x=o
  ·subst e
   rw [Nat.testBit_xor,Nat.testBit_two_pow,h3]
   simp
  ·have hne:¬(o-b).toNat=(x-b).toNat:=by omega
   rw [Nat.testBit_xor,Nat.testBit_two_pow]
   simp [hne,e]
 ·simp [hx]
theorem jn {b:Int} {t:Nat} {o:Int} (h:tkd b t o=true) (ht:t<18446744073709551616):clr b t o<18446744073709551616:=by
 obtain ⟨h1,h2,h3⟩:=jY h
 have h4:(2:Nat) ^ (o-b).toNat<2 ^ 64:=Nat.pow_lt_pow_right (by omega) (by omega)
 exact Nat.xor_lt_two_pow (n:=64) ht h4
theorem iH {b:Int} {t:Nat} (ht:t<18446744073709551616):t=0↔∀o,tkd b t o=false:=by
 constructor
 ·rintro rfl o
  simp [tkd]
 ·intro h
  refine Nat.eq_of_testBit_eq (fun i=>?_)
  rw [Nat.zero_testBit]
  by_cases hi:i<64
  ·have:=h (b+i)
   unfold tkd at this
   rw [show decide (b≤b+(i:Int)∧b+(i:Int)≤b+63)=true by simp;omega,Bool.true_and,show (b+(i:Int)-b).toNat=i by omega] at this
   exact this
  ·exact Nat.testBit_lt_two_pow (Nat.lt_of_lt_of_le ht (Nat.pow_le_pow_right (n:=2) (by omega) (by omega:64≤i)))
def okE (pre:List Mp) (at':Int) (m:Mp):Bool:=decide (m.pr=17∨m.pr=6)&&decide (0≤m.po∧m.po≤65535)&&decide (at'≤m.tm∧m.tm≤1099511627776)&&pre.all (fun y=>!Y4 y m)
def tk2 (b1 b2:Int) (t1 t2:Nat) (m:Mp):Bool:=if m.pr=17 then tkd b1 t1 m.ou else tkd b2 t2 m.ou
def n1 (b1:Int) (t1:Nat) (m:Mp):Nat:=if m.pr=17 then clr b1 t1 m.ou else t1
def n2 (b2:Int) (t2:Nat) (m:Mp):Nat:=if m.pr=17 then t2 else clr b2 t2 m.ou
def xV (b1 b2:Int):List Mp→List Mp→Nat→Nat→Int→Bool
 |_,[],t1,t2,_=>decide (t1=0∧t2=0)
 |pre,m::r,t1,t2,a=>okE pre a m&&tk2 b1 b2 t1 t2 m&&xV b1 b2 (pre++[m]) r (n1 b1 t1 m) (n2 b2 t2 m) m.tm
def pV (o m:Mp):Bool:=decide (m.tm<o.tm∨o.pr=m.pr∧(o.ou=m.ou∨o.ad=m.ad∧o.po=m.po))
def im (pre:List Mp) (m:Mp):Bool:=decide (m.pr=17∨m.pr=6)&&decide (0≤m.po∧m.po≤65535)&&decide (0≤m.tm∧m.tm≤1099511627776)&&pre.all (fun o=>!pV o m)
def wG (b:Int) (t:Nat):List Int:=((List.range 64).filter (fun k=>t.testBit k)).map (fun (k:Nat)=>b+(k:Int))
def lE (pr:Int) (ms:List Mp) (p:Int):Bool:=ms.any (fun m=>decide (m.pr=pr∧m.ou=p))
def jo (b1 b2:Int) (t1 t2:Nat) (ms:List Mp):Bool:=decide (ms.length=(wG b1 t1).length+(wG b2 t2).length)&&((wG b1 t1).all (lE 17 ms)&&(wG b2 t2).all (lE 6 ms))
def tkB (b1 b2:Int) (t1 t2:Nat) (k:Int×Int):Prop:=(k.1=17∧tkd b1 t1 k.2=true)∨(k.1=6∧tkd b2 t2 k.2=true)
def wQ (m:Mp):Int×Int:=(m.pr,m.ou)
def fN:List Mp→List Mp→Int→Prop
 |_,[],_=>True
 |pre,m::r,a=>okE pre a m=true∧fN (pre++[m]) r m.tm
theorem n6 (b1 b2:Int):∀(r pre:List Mp) (t1 t2:Nat) (a:Int),t1<18446744073709551616→t2<18446744073709551616→
  (xV b1 b2 pre r t1 t2 a=true↔fN pre r a∧(r.map wQ).Nodup∧∀k,tkB b1 b2 t1 t2 k↔k∈r.map wQ)
 |[],pre,t1,t2,a,h1,h2=>by
  simp only [xV,decide_eq_true_eq,fN,List.map_nil,List.nodup_nil,true_and,List.not_mem_nil,iff_false,iH (b:=b1) h1,iH (b:=b2) h2]
  constructor
  ·rintro ⟨p,q⟩ k (⟨_,h⟩|⟨_,h⟩)
   ·rw [p] at h;cases h
   ·rw [q] at h;cases h
  ·intro h
   refine ⟨fun o=>?_,fun o=>?_⟩
   ·cases e:tkd b1 t1 o with
    |false=>rfl
    |true=>exact (h (17,o) (.inl ⟨rfl,e⟩)).elim
   ·cases e:tkd b2 t2 o with
    |false=>rfl
    |true=>exact (h (6,o) (.inr ⟨rfl,e⟩)).elim
 |m::r,pre,t1,t2,a,h1,h2=>by
  have key:(m.pr=17∨m.pr=6)→tk2 b1 b2 t1 t2 m=true→(n1 b1 t1 m<18446744073709551616∧n2 b2 t2 m<18446744073709551616)∧(tkB b1 b2 t1 t2 (wQ m))∧∀k,tkB b1 b2 (n1 b1 t1 m) (n2 b2 t2 m) k↔tkB b1 b2 t1 t2 k∧k≠wQ m:=by
   intro hp ht
   by_cases e:m.pr=17
   ·simp only [tk2,n1,n2,if_pos e] at ht ⊢
    refine ⟨⟨jn ht h1,h2⟩,.inl ⟨e,ht⟩,fun k=>?_⟩
    unfold tkB
    rw [cO ht]
    obtain ⟨k1,k2⟩:=k
    simp only [wQ,ne_eq,Prod.mk.injEq,Bool.and_eq_true,decide_eq_true_eq,e]
    constructor
    ·rintro (⟨q1,q2,q3⟩|⟨q1,q2⟩)
     ·exact ⟨.inl ⟨q1,q2⟩,fun q=>q3 q.2⟩
     ·exact ⟨.inr ⟨q1,q2⟩,fun q=>by omega⟩
    ·rintro ⟨⟨q1,q2⟩|⟨q1,q2⟩,q3⟩
     ·exact .inl ⟨q1,q2,fun q=>q3 ⟨q1,q⟩⟩
     ·exact .inr ⟨q1,q2⟩
   ·simp only [tk2,n1,n2,if_neg e] at ht ⊢
    have e6:m.pr=6:=hp.resolve_left e
    refine ⟨⟨h1,jn ht h2⟩,.inr ⟨e6,ht⟩,fun k=>?_⟩
    unfold tkB
    rw [cO ht]
    obtain ⟨k1,k2⟩:=k
    simp only [wQ,ne_eq,Prod.mk.injEq,Bool.and_eq_true,decide_eq_true_eq,e6]
    constructor
    ·rintro (⟨q1,q2⟩|⟨q1,q2,q3⟩)
     ·exact ⟨.inl ⟨q1,q2⟩,fun q=>by omega⟩
     ·exact ⟨.inr ⟨q1,q2⟩,fun q=>q3 q.2⟩
    ·rintro ⟨⟨q1,q2⟩|⟨q1,q2⟩,q3⟩
     ·exact .inl ⟨q1,q2⟩
     ·exact .inr ⟨q1,q2,fun q=>q3 ⟨q1,q⟩⟩
  simp only [xV,fN,Bool.and_eq_true,List.map_cons,List.nodup_cons,List.mem_cons]
  constructor
  ·rintro ⟨⟨q1,q2⟩,q3⟩
   have hp:m.pr=17∨m.pr=6:=by
    simp only [okE,Bool.and_eq_true,decide_eq_true_eq] at q1
    exact q1.1.1.1
   obtain ⟨⟨l1,l2⟩,k1,k2⟩:=key hp q2
   obtain ⟨s1,s2,s3⟩:=(n6 b1 b2 r _ _ _ _ l1 l2).1 q3
   refine ⟨⟨q1,s1⟩,⟨fun h=>((k2 _).1 ((s3 _).2 h)).2 rfl,s2⟩,fun k=>⟨fun h=>?_,fun h=>?_⟩⟩
   ·by_cases e:k=wQ m
    ·exact .inl e
    ·exact .inr ((s3 k).1 ((k2 k).2 ⟨h,e⟩))
   ·rcases h with rfl|h
    ·exact k1
    ·exact ((k2 k).1 ((s3 k).2 h)).1
  ·rintro ⟨⟨q1,q2⟩,⟨q3,q4⟩,q5⟩
   have hp:m.pr=17∨m.pr=6:=by
    simp only [okE,Bool.and_eq_true,decide_eq_true_eq] at q1
    exact q1.1.1.1
   have ht:tk2 b1 b2 t1 t2 m=true:=by
    unfold tk2
    rcases (q5 (wQ m)).2 (.inl rfl) with ⟨e,h⟩|⟨e,h⟩
    ·have e':m.pr=17:=e
     rw [if_pos e'];exact h
    ·have e':m.pr=6:=e
     rw [if_neg (by omega)];exact h
   obtain ⟨⟨l1,l2⟩,k1,k2⟩:=key hp ht
   refine ⟨⟨q1,ht⟩,(n6 b1 b2 r _ _ _ _ l1 l2).2 ⟨q2,q4,fun k=>?_⟩⟩
   rw [k2,q5]
   constructor
   ·rintro ⟨h|h,hne⟩
    ·exact (hne h).elim
    ·exact h
   ·intro h
    exact ⟨.inr h,fun e=>q3 (e▸h)⟩
theorem pig {α:Type} [DecidableEq α]:∀(S L:List α),S.Nodup→(∀x∈S,x∈L)→L.length≤S.length→∀x∈L,x∈S
 |[],L,_,_,hl,x,hx=>by
  have:L=[]:=List.eq_nil_of_length_eq_zero (by simpa using hl)
  subst this
  cases hx
 |a::S,L,hn,hs,hl,x,hx=>by
  rw [List.nodup_cons] at hn
  have ha:a∈L:=hs a (by simp)
  by_cases e:x=a
  ·simp [e]
  ·refine List.mem_cons_of_mem _ (pig S (L.erase a) hn.2 (fun y hy=>?_) (by rw [List.length_erase_of_mem ha];simp at hl;omega) x ((List.mem_erase_of_ne e).2 hx))
   exact (List.mem_erase_of_ne (fun (q:y=a)=>hn.1 (q▸hy))).2 (hs y (by simp [hy]))
theorem fh {α:Type} [DecidableEq α]:∀(S L:List α),S.Nodup→(∀x∈S,x∈L)→S.length≤L.length
 |[],L,_,_=>Nat.zero_le _
 |a::S,L,hn,hs=>by
  rw [List.nodup_cons] at hn
  have ha:a∈L:=hs a (by simp)
  have:=fh S (L.erase a) hn.2 (fun y hy=>(List.mem_erase_of_ne (fun (q:y=a)=>hn.1 (q▸hy))).2 (hs y (by simp [hy])))
  rw [List.length_erase_of_mem ha] at this
  have:=List.length_pos_of_mem ha
  simp
  omega
theorem ut {b:Int} {t:Nat} {o:Int}:o∈wG b t↔tkd b t o=true:=by
 unfold wG tkd
 simp only [List.mem_map,List.mem_filter,List.mem_range,Bool.and_eq_true,decide_eq_true_eq]
 constructor
 ·rintro ⟨k,⟨h1,h2⟩,rfl⟩
  refine ⟨by omega,?_⟩
  rw [show (b+(k:Int)-b).toNat=k by omega]
  exact h2
 ·rintro ⟨h1,h2⟩
  exact ⟨(o-b).toNat,⟨by omega,h2⟩,by omega⟩
theorem vi {α β:Type} {f:α→β} (hf:∀a b,f a=f b→a=b):∀ {l:List α},l.Nodup→(l.map f).Nodup
 |[],_=>List.nodup_nil
 |a::l,h=>by
  rw [List.nodup_cons] at h
  rw [List.map_cons,List.nodup_cons]
  refine ⟨fun hm=>?_,vi hf h.2⟩
  obtain ⟨x,hx,e⟩:=List.mem_map.1 hm
  exact h.1 (hf _ _ e▸hx)
theorem qM (b:Int) (t:Nat):(wG b t).Nodup:=by
 unfold wG
 exact vi (fun x y h=>by omega) (List.Pairwise.filter _ List.nodup_range)
def mU (b1 b2:Int) (t1 t2:Nat):List (Int×Int):=(wG b1 t1).map (fun o=>(17,o))++(wG b2 t2).map (fun o=>(6,o))
theorem sX {b1 b2:Int} {t1 t2:Nat} {k:Int×Int}:k∈mU b1 b2 t1 t2↔tkB b1 b2 t1 t2 k:=by
 obtain ⟨p,o⟩:=k
 unfold mU tkB
 simp only [List.mem_append,List.mem_map,Prod.mk.injEq,ut]
 constructor
 ·rintro (⟨x,h,rfl,rfl⟩|⟨x,h,rfl,rfl⟩)
  ·exact .inl ⟨rfl,h⟩
  ·exact .inr ⟨rfl,h⟩
 ·rintro (⟨rfl,h⟩|⟨rfl,h⟩)
  ·exact .inl ⟨o,h,rfl,rfl⟩
  ·exact .inr ⟨o,h,rfl,rfl⟩
theorem ox (b1 b2:Int) (t1 t2:Nat):(mU b1 b2 t1 t2).Nodup:=by
 unfold mU
 rw [List.nodup_append]
 refine ⟨vi (fun x y h=>by simpa using h) (qM _ _),vi (fun x y h=>by simpa using h) (qM _ _),?_⟩
 intro a ha b hb e
 obtain ⟨x,_,rfl⟩:=List.mem_map.1 ha
 obtain ⟨y,_,rfl⟩:=List.mem_map.1 hb
 simp at e
theorem ti {pr p:Int} {ms:List Mp}:(pr,p)∈ms.map wQ↔lE pr ms p=true:=by
 unfold lE
 rw [List.any_eq_true]
 simp only [List.mem_map,wQ,Prod.mk.injEq,decide_eq_true_eq]
theorem cu {b1 b2:Int} {t1 t2:Nat} {ms:List Mp} (hn:(ms.map wQ).Nodup):jo b1 b2 t1 t2 ms=true↔∀k,tkB b1 b2 t1 t2 k↔k∈ms.map wQ:=by
 have hlen:(mU b1 b2 t1 t2).length=(wG b1 t1).length+(wG b2 t2).length:=by simp [mU]
 unfold jo
 simp only [Bool.and_eq_true,decide_eq_true_eq,List.all_eq_true]
 constructor
 ·rintro ⟨h1,h2,h3⟩ k
  have hsub:∀x∈mU b1 b2 t1 t2,x∈ms.map wQ:=by
   intro x hx
   rcases sX.1 hx with ⟨e,h⟩|⟨e,h⟩
   ·have:=ti.2 (h2 x.2 (ut.2 h))
    rw [←e] at this
    exact this
   ·have:=ti.2 (h3 x.2 (ut.2 h))
    rw [←e] at this
    exact this
  rw [←sX]
  exact ⟨hsub k,fun h=>pig _ _ (ox _ _ _ _) hsub (by rw [hlen,List.length_map];omega) k h⟩
 ·intro h
  have a1:=fh _ _ (ox b1 b2 t1 t2) (fun x hx=>(h x).1 (sX.1 hx))
  have a2:=fh _ _ hn (fun x hx=>sX.2 ((h x).2 hx))
  rw [hlen,List.length_map] at a1
  rw [hlen,List.length_map] at a2
  refine ⟨by omega,fun p hp=>ti.1 ((h (17,p)).1 (.inl ⟨rfl,ut.1 hp⟩)),fun p hp=>ti.1 ((h (6,p)).1 (.inr ⟨rfl,ut.1 hp⟩))⟩
def my (pre:List Mp) (a:Int):Prop:=0≤a∧(a=0∨∃o∈pre,o.tm=a)∧∀o∈pre,o.tm≤a
theorem ol {pre:List Mp} {a:Int} {m:Mp} (h:my pre a) (hm:a≤m.tm):my (pre++[m]) m.tm:=by
 obtain ⟨h0,h1,h2⟩:=h
 refine ⟨by omega,.inr ⟨m,by simp,rfl⟩,fun o ho=>?_⟩
 rcases List.mem_append.1 ho with ho|ho
 ·have:=h2 o ho;omega
 ·obtain rfl:=List.mem_singleton.1 ho
  exact Int.le_refl _
theorem Za {pre:List Mp} {a:Int} {m:Mp} (h:my pre a):im pre m=true↔okE pre a m=true∧wQ m∉pre.map wQ:=by
 obtain ⟨h0,h1,h2⟩:=h
 unfold im okE
 simp only [Bool.and_eq_true,decide_eq_true_eq,List.all_eq_true,Bool.not_eq_true',pV,Y4,decide_eq_false_iff_not]
 constructor
 ·rintro ⟨⟨⟨q1,q2⟩,q3⟩,q4⟩
  refine ⟨⟨⟨⟨q1,q2⟩,?_,q3.2⟩,fun y hy=>?_⟩,fun hk=>?_⟩
  ·rcases h1 with rfl|⟨o,ho,rfl⟩
   ·exact q3.1
   ·have:=q4 o ho;omega
  ·have:=q4 y hy
   rintro ⟨e1,e2,e3⟩
   exact this (.inr ⟨e1,.inr ⟨e2,e3⟩⟩)
  ·obtain ⟨o,ho,e⟩:=List.mem_map.1 hk
   simp only [wQ,Prod.mk.injEq] at e
   exact q4 o ho (.inr ⟨e.1,.inl e.2⟩)
 ·rintro ⟨⟨⟨⟨q1,q2⟩,q3⟩,q4⟩,q5⟩
  refine ⟨⟨⟨q1,q2⟩,by omega,q3.2⟩,fun o ho=>?_⟩
  have:=h2 o ho
  rintro (e|⟨e1,e2|⟨e2,e3⟩⟩)
  ·omega
  ·exact q5 (List.mem_map.2 ⟨o,ho,by simp [wQ,e1,e2]⟩)
  ·exact q4 o ho ⟨e1,e2,e3⟩
theorem je:∀(r pre:List Mp) (a:Int),my pre a→(yS im pre r=true↔fN pre r a∧(r.map wQ).Nodup∧∀m∈r,wQ m∉pre.map wQ)
 |[],pre,a,h=>by simp [yS,fN]
 |m::r,pre,a,h=>by
  simp only [yS,Bool.and_eq_true,fN,List.map_cons,List.nodup_cons,Za h]
  constructor
  ·rintro ⟨⟨q1,q2⟩,q3⟩
   have hm:a≤m.tm:=by
    simp only [okE,Bool.and_eq_true,decide_eq_true_eq] at q1
    exact q1.1.2.1
   obtain ⟨s1,s2,s3⟩:=(je r (pre++[m]) m.tm (ol h hm)).1 q3
   refine ⟨⟨q1,s1⟩,⟨fun hk=>?_,s2⟩,fun y hy=>?_⟩
   ·obtain ⟨y,hy,e⟩:=List.mem_map.1 hk
    exact s3 y hy (List.mem_map.2 ⟨m,by simp,e.symm⟩)
   ·rcases List.mem_cons.1 hy with rfl|hy
    ·exact q2
    ·intro hk
     refine s3 y hy ?_
     rw [List.map_append]
     exact List.mem_append.2 (.inl hk)
  ·rintro ⟨⟨q1,q2⟩,⟨q3,q4⟩,q5⟩
   have hm:a≤m.tm:=by
    simp only [okE,Bool.and_eq_true,decide_eq_true_eq] at q1
    exact q1.1.2.1
   refine ⟨⟨q1,q5 m (by simp)⟩,(je r (pre++[m]) m.tm (ol h hm)).2 ⟨q2,q4,fun y hy hk=>?_⟩⟩
   rw [List.map_append] at hk
   rcases List.mem_append.1 hk with hk|hk
   ·exact q5 y (by simp [hy]) hk
   ·simp only [List.map_cons,List.map_nil,List.mem_singleton] at hk
    exact q3 (List.mem_map.2 ⟨y,hy,hk⟩)
theorem pA (b1 b2:Int) (t1 t2:Nat) (ms:List Mp) (h1:t1<18446744073709551616) (h2:t2<18446744073709551616):(yS im [] ms&&jo b1 b2 t1 t2 ms)=xV b1 b2 [] ms t1 t2 0:=by
 have hl:my [] 0:=⟨Int.le_refl _,.inl rfl,fun o ho=>by cases ho⟩
 rw [Bool.eq_iff_iff,n6 b1 b2 ms [] t1 t2 0 h1 h2,Bool.and_eq_true,je ms [] 0 hl]
 constructor
 ·rintro ⟨⟨q1,q2,_⟩,q3⟩
  exact ⟨q1,q2,(cu q2).1 q3⟩
 ·rintro ⟨q1,q2,q3⟩
  exact ⟨⟨q1,q2,fun m _ h=>by simp at h⟩,(cu q2).2 q3⟩
end Go.Proofs.YtaiileiodjicpaaGreatDoor.A
namespace Go.Proofs.YtaiileiodjicpaaGreatDoor.A
attribute [local irreducible] zF Go
set_option maxRecDepth 100000
theorem j6 {S:Nat} (hS:S<18446744073709551616) {r:Int} (h0:0≤r) (h1:r<64):bits .and .u64 ((S:Int).fdiv (2 ^ (min r.toNat IntKind.u64.bits))) 1=if S.testBit r.toNat then 1 else 0:=by
 have hm:min r.toNat IntKind.u64.bits=r.toNat:=Nat.min_eq_left (by show r.toNat≤64;omega)
 have h2:((2:Int) ^ r.toNat)=((2 ^ r.toNat:Nat):Int):=by simp
 have hd:(S:Int).fdiv (2 ^ r.toNat)=((S / 2 ^ r.toNat:Nat):Int):=by
  rw [h2,Int.fdiv_eq_ediv_of_nonneg _ (Int.natCast_nonneg _),Int.natCast_ediv]
 have hq:S / 2 ^ r.toNat<18446744073709551616:=Nat.lt_of_le_of_lt (Nat.div_le_self _ _) hS
 rw [hm,hd]
 have:=Go.u64_and_nat (S / 2 ^ r.toNat) 1 hq (by decide)
 rw [show ((1:Nat):Int)=1 from rfl] at this
 rw [this,Nat.and_one_is_mod,Nat.testBit_eq_decide_div_mod_eq]
 rcases Nat.mod_two_eq_zero_or_one (S / 2 ^ r.toNat) with h|h<;>rw [h]<;>rfl
theorem Xw {S:Nat} (hS:S<18446744073709551616) {r:Int} (h0:0≤r) (h1:r<64):bits .xor .u64 (S:Int) (IntKind.u64.wrap (1*2 ^ (min r.toNat IntKind.u64.bits)))=((S ^^^ 2 ^ r.toNat:Nat):Int):=by
 have hm:min r.toNat IntKind.u64.bits=r.toNat:=Nat.min_eq_left (by show r.toNat≤64;omega)
 have h2:((2:Int) ^ r.toNat)=((2 ^ r.toNat:Nat):Int):=by simp
 have h3:2 ^ r.toNat<2 ^ 64:=Nat.pow_lt_pow_right (by decide) (by omega)
 have h4:2 ^ r.toNat<18446744073709551616:=h3
 rw [hm,Int.one_mul,h2,IntWalk.u64_in _ ⟨Int.natCast_nonneg _,Int.ofNat_le.2 (Nat.le_of_lt_succ h4)⟩]
 exact Go.u64_xor_nat S (2 ^ r.toNat) hS h4
def pOk (b:Int):Bool:=decide (64≤b∧b≤65472∧b.tmod 64=0)
def pE (b:Int):Int:=if pOk b then 0 else 1
theorem yY (b:Int) (t:Nat):zi Tryz.prog 33 [.agg [.v (.int .i64 b),.v (.int .u64 (t:Int))]] (.v (.int .i64 (pE b))):=by
 have hw:64≤b∧b≤65472→IntKind.i64.wrap (b.tmod 64)=b.tmod 64:=fun h=>IntWalk.i64_in _ (by have:=Int.tmod_lt_of_pos b (by decide:(0:Int)<64);have:=Int.tmod_nonneg 64 (by omega:0≤b);omega)
 refine z7 {} 0 Tryz.func33 fun Γ hW=>auC ?_
 repeat' first|refine auS ?_|fail|refine auD ?_|(refine auW ?_ ?_<;>intro h<;>try exact auH)|fail
 all_goals try exact auP
 all_goals refine auV ?_
 all_goals try exact zc
 all_goals try simp only [hsM] at *
 all_goals (unfold pE pOk;generalize b.tmod 64=q at *)
 all_goals first
  |(rw [if_neg (by simp;omega)];done)
  |(rw [if_pos (by simp;omega)];done)
def m6 (b:Int) (t:Nat) (o:Int):Int:=if pOk b&&tkd b t o then b else 0
def mJ (b:Int) (t:Nat) (o:Int):Nat:=if pOk b&&tkd b t o then clr b t o else 0
def rZ (b:Int) (t:Nat) (o:Int):Int:=if pOk b then (if tkd b t o then 0 else 7) else 1
set_option maxHeartbeats 1000000 in
theorem rr (b:Int) (t:Nat) (o:Int) (ht:t<18446744073709551616):zi Tryz.prog 96 [.agg [.v (.int .i64 b),.v (.int .u64 (t:Int))],.v (.int .i64 o)] (.tup [.agg [.v (.int .i64 (m6 b t o)),.v (.int .u64 (mJ b t o:Nat))],.v (.int .i64 (rZ b t o))]):=by
 have h1:=yY b t
 cases hp:pOk b with
 |false=>
  have he:pE b=1:=by unfold pE;rw [hp];rfl
  rw [he] at h1
  have e1:m6 b t o=0:=by unfold m6;rw [hp];rfl
  have e2:mJ b t o=0:=by unfold mJ;rw [hp];rfl
  have e3:rZ b t o=1:=by unfold rZ;rw [hp];rfl
  rw [e1,e2,e3]
  refine z7 {} 0 Tryz.func96 fun Γ hW=>auC ?_
  repeat' first|refine auS ?_|(with_reducible refine z6 h1 ?_)|refine auD ?_|(refine auW ?_ ?_<;>intro h<;>try exact auH)|fail
  all_goals try exact auP
  all_goals refine auV ?_
  all_goals try exact zc
  all_goals try simp only [hsM] at *
  all_goals first
   |rfl
   |(exfalso;simp at h;done)
 |true=>
  have he:pE b=0:=by unfold pE;rw [hp];rfl
  rw [he] at h1
  have hb:64≤b∧b≤65472:=by unfold pOk at hp;have:=of_decide_eq_true hp;omega
  have hw1:IntKind.i64.wrap (b+63)=b+63:=IntWalk.i64_in _ (by omega)
  by_cases hin:b≤o∧o≤b+63
  ·have hw2:IntKind.i64.wrap (o-b)=o-b:=IntWalk.i64_in _ (by omega)
   have hs:=j6 ht (r:=o-b) (by omega) (by omega)
   have hx:=Xw ht (r:=o-b) (by omega) (by omega)
   cases hbit:t.testBit (o-b).toNat with
   |true=>
    have htk:tkd b t o=true:=by unfold tkd;rw [hbit,Bool.and_true,decide_eq_true_eq];exact hin
    have e1:m6 b t o=b:=by unfold m6;rw [hp,htk];rfl
    have e2:mJ b t o=clr b t o:=by unfold mJ;rw [hp,htk];rfl
    have e3:rZ b t o=0:=by unfold rZ;rw [hp,htk];rfl
    rw [hbit] at hs
    rw [e1,e2,e3]
    unfold clr
    refine z7 {} 0 Tryz.func96 fun Γ hW=>auC ?_
    repeat' first|refine auS ?_|(first|(with_reducible refine z6 h1 ?_)|(simp only [hw1,hw2,hs,hx]))|refine auD ?_|(refine auW ?_ ?_<;>intro h<;>try exact auH)|fail
    all_goals try exact auP
    all_goals refine auV ?_
    all_goals try exact zc
    all_goals try simp only [hsM] at *
    all_goals first
     |rfl
     |(exfalso;simp at h;done)
   |false=>
    have htk:tkd b t o=false:=by unfold tkd;rw [hbit,Bool.and_false]
    have e1:m6 b t o=0:=by unfold m6;rw [hp,htk];rfl
    have e2:mJ b t o=0:=by unfold mJ;rw [hp,htk];rfl
    have e3:rZ b t o=7:=by unfold rZ;rw [hp,htk];rfl
    rw [hbit] at hs
    rw [e1,e2,e3]
    refine z7 {} 0 Tryz.func96 fun Γ hW=>auC ?_
    repeat' first|refine auS ?_|(first|(with_reducible refine z6 h1 ?_)|(simp only [hw1,hw2,hs,hx]))|refine auD ?_|(refine auW ?_ ?_<;>intro h<;>try exact auH)|fail
    all_goals try exact auP
    all_goals refine auV ?_
    all_goals try exact zc
    all_goals try simp only [hsM] at *
    all_goals first
     |rfl
     |(exfalso;simp at h;done)
  ·have htk:tkd b t o=false:=by unfold tkd;rw [decide_eq_false hin,Bool.false_and]
   have e1:m6 b t o=0:=by unfold m6;rw [hp,htk];rfl
   have e2:mJ b t o=0:=by unfold mJ;rw [hp,htk];rfl
   have e3:rZ b t o=7:=by unfold rZ;rw [hp,htk];rfl
   rw [e1,e2,e3]
   refine z7 {} 0 Tryz.func96 fun Γ hW=>auC ?_
   repeat' first|refine auS ?_|(first|(with_reducible refine z6 h1 ?_)|(simp only [hw1]))|refine auD ?_|(refine auW ?_ ?_<;>intro h<;>try exact auH)|fail
   all_goals try exact auP
   all_goals refine auV ?_
   all_goals try exact zc
   all_goals try simp only [hsM] at *
   all_goals first
    |rfl
    |(exfalso;simp at h;done)
end Go.Proofs.YtaiileiodjicpaaGreatDoor.A
