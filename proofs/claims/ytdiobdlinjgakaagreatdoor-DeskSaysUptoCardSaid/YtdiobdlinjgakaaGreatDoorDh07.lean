import Derived.Test.YtdiobdlinjgakaaGreatDoorDh05
import Derived.Laws.BitsAllLaws
set_option linter.unusedVariables false
set_option linter.unusedSimpArgs false
set_option maxHeartbeats 8000000
set_option maxRecDepth 100000
open Go.Proofs.Tryz
open Bool renaming and_eq_true->_a
open List renaming mem_map->_b,nodup_cons->_c,mem_append->_f,length_map->_g,mem_erase_of_ne->_i,map_cons->_j,any_eq_true->_m,mem_filter->_n,map_append->_o,length_erase_of_mem->_p,getElem?_eq_getElem->_q,range->_v,mem_singleton->_w,any_eq_false->_x,all_eq_true->_z,nodup_nil->_E,mem_range->_F,mem_cons->_G,map_nil->_H
open Go.IntKind renaming u64->_d,i64->_k
open Prod.mk renaming injEq->_e
open Go.IntWalk renaming i64_in->_h,u64_in->_y
open Nat renaming testBit_eq_decide_div_mod_eq->_l,zero_le->_r,pow_lt_pow_right->_s,testBit_two_pow->_t,sub_lt_sub_left->_u,lt_succ_self->_A,testBit_xor->_B,min_eq_left->_C,div_le_self->_D
namespace Go.Proofs.YtdiobdlinjgakaaGreatDoor.A
structure Mp where
 (pr ad po ou tm:Int)
abbrev Mp.enc(t:Mp):List O:=[.v (.int .i64 t.pr),.v (.int .u32 t.ad),.v (.int .i64 t.po),.v (.int .i64 t.ou),.v (.int .i64 t.tm)]
def MG(a b:Mp):Bool:=decide (a.pr=b.pr/\a.ad=b.ad/\a.po=b.po)
def dx(b:Int)(t:Nat)(o:Int):Bool:=decide (b<=o/\o<=b+63)&&t.testBit (o-b).toNat
def lC(b:Int)(t:Nat)(o:Int):Nat:=t ^^^ 2 ^ (o-b).toNat
theorem GG{b:Int}{t:Nat}{o:Int}(h:dx b t o=true):b<=o/\o<=b+63/\t.testBit (o-b).toNat=true:=by
 unfold dx at h;rw[_a,decide_eq_true_eq]at h;exact⟨h.1.1,h.1.2,h.2⟩
theorem ZC{b:Int}{t:Nat}{o:Int}(h:dx b t o=true)(x:Int):dx b (lC b t o) x=(dx b t x&&decide (x≠o)):=by
 obtain⟨h1,h2,c⟩:=GG h;unfold dx lC;by_cases f:b<=x/\x<=b+63
 .by_cases e:x=o
  .subst e;rw[_B,_t,c];simp
  have g:¬(o-b).toNat=(x-b).toNat:=G;rw[_B,_t];simp[g,e]
 simp[f]
theorem DO{b:Int}{t:Nat}{o:Int}(h:dx b t o=true)(c:t<18446744073709551616):lC b t o<18446744073709551616:=by
 obtain⟨h1,h2,g⟩:=GG h;have f:(2:Nat) ^ (o-b).toNat<2 ^ 64:=_s G G;exact Nat.xor_lt_two_pow (n:=64) c f
theorem R2{b:Int}{t:Nat}(c:t<18446744073709551616):t=0↔∀o,dx b t o=false:=by
 constructor
 .rintro rfl o;simp[dx]
 intro h;refine Nat.eq_of_testBit_eq (fun i=>?_);rw[Nat.zero_testBit];by_cases f:i<64
 .have:=h (b+i);unfold dx at this;rw[show decide (b<=b+(i:Int)/\b+(i:Int)<=b+63)=true from c7,Bool.true_and,show(b+(i:Int)-b).toNat=i from G]at this;exact this
 exact Nat.testBit_lt_two_pow (Nat.lt_of_lt_of_le c (Nat.pow_le_pow_right (n:=2) G (G:64<=i)))
def qO(c:List Mp)(f:Int)(b:Mp):Bool:=decide (b.pr=17\/b.pr=6)&&decide (0<=b.po/\b.po<=65535)&&decide (f<=b.tm/\b.tm<=1099511627776)&&c.all (fun y=>!MG y b)
def oH(ah ai:Int)(t1 t2:Nat)(b:Mp):Bool:=if b.pr=17 then dx ah t1 b.ou else dx ai t2 b.ou
def bW(ah:Int)(t1:Nat)(b:Mp):Nat:=if b.pr=17 then lC ah t1 b.ou else t1
def dq(ai:Int)(t2:Nat)(b:Mp):Nat:=if b.pr=17 then t2 else lC ai t2 b.ou
def k9(ah ai:Int):List Mp->List Mp->Nat->Nat->Int->Bool
 |_,[],t1,t2,_=>decide (t1=0/\t2=0)
 |pre,b::r,t1,t2,a=>qO pre a b&&oH ah ai t1 t2 b&&k9 ah ai (pre++[b]) r (bW ah t1 b) (dq ai t2 b) b.tm
def mR(o b:Mp):Bool:=decide (b.tm<o.tm\/o.pr=b.pr/\(o.ou=b.ou\/o.ad=b.ad/\o.po=b.po))
def jM(c:List Mp)(b:Mp):Bool:=decide (b.pr=17\/b.pr=6)&&decide (0<=b.po/\b.po<=65535)&&decide (0<=b.tm/\b.tm<=1099511627776)&&c.all (fun o=>!mR o b)
def fU(b:Int)(t:Nat):List Int:=((_v 64).filter (fun k=>t.testBit k)).map (fun(k:Nat)=>b+(k:Int))
def gR(pr:Int)(ms:List Mp)(p:Int):Bool:=ms.any (fun b=>decide (b.pr=pr/\b.ou=p))
def qT(ah ai:Int)(t1 t2:Nat)(ms:List Mp):Bool:=decide (ms.length=(fU ah t1).length+(fU ai t2).length)&&((fU ah t1).all (gR 17 ms)&&(fU ai t2).all (gR 6 ms))
def pa(ah ai:Int)(t1 t2:Nat)(k:Int×Int):Prop:=(k.1=17/\dx ah t1 k.2=true)\/(k.1=6/\dx ai t2 k.2=true)
def dd(b:Mp):Int×Int:=(b.pr,b.ou)
def um:List Mp->List Mp->Int->Prop
 |_,[],_=>True
 |pre,b::r,a=>qO pre a b=true/\um (pre++[b]) r b.tm
theorem Fb(ah ai:Int):∀(r u:List Mp)(t1 t2:Nat)(a:Int),t1<18446744073709551616->t2<18446744073709551616->
 (k9 ah ai u r t1 t2 a=true↔um u r a/\(r.map dd).Nodup/\∀k,pa ah ai t1 t2 k↔k∈r.map dd)
 |[],u,t1,t2,a,h1,h2=>by
  simp only[k9,decide_eq_true_eq,um,_H,_E,true_and,List.not_mem_nil,iff_false,R2 (b:=ah) h1,R2 (b:=ai) h2];constructor
  .rintro⟨p,q⟩ k (⟨_,h⟩|⟨_,h⟩)
   .rw[p]at h;cases h
   rw[q]at h;cases h
  intro h;refine⟨fun o=>?_,fun o=>?_⟩
  .cases e:dx ah t1 o with
   |false=>rfl
   |true=>exact(h (17,o) (.inl ⟨rfl,e⟩)).elim
  cases e:dx ai t2 o with
  |false=>rfl
  |true=>exact(h (6,o) (.inr ⟨rfl,e⟩)).elim
 |m::r,u,t1,t2,a,h1,h2=>by
  have I:(m.pr=17\/m.pr=6)->oH ah ai t1 t2 m=true->(bW ah t1 m<18446744073709551616/\dq ai t2 m<18446744073709551616)/\(pa ah ai t1 t2 (dd m))/\∀k,pa ah ai (bW ah t1 m) (dq ai t2 m) k↔pa ah ai t1 t2 k/\k≠dd m:=by
   intro j c;by_cases e:m.pr=17
   .simp only[oH,bW,dq,if_pos e]at c⊢;refine⟨⟨DO c h1,h2⟩,.inl ⟨e,c⟩,fun k=>?_⟩;unfold pa;rw[ZC c];obtain⟨v,g⟩:=k;simp only[dd,ne_eq,_e,_a,decide_eq_true_eq,e];constructor
    .rintro(⟨bp,b,f⟩|⟨bp,b⟩)
     .exact⟨.inl ⟨bp,b⟩,fun q=>f q.2⟩
     exact⟨.inr ⟨bp,b⟩,fun q=>G⟩
    rintro⟨⟨bp,b⟩|⟨bp,b⟩,f⟩
    .exact .inl ⟨bp,b,fun q=>f ⟨bp,q⟩⟩
    exact .inr ⟨bp,b⟩
   simp only[oH,bW,dq,if_neg e]at c⊢;have J:m.pr=6:=j.resolve_left e;refine⟨⟨h1,DO c h2⟩,.inr ⟨J,c⟩,fun k=>?_⟩;unfold pa;rw[ZC c];obtain⟨v,g⟩:=k;simp only[dd,ne_eq,_e,_a,decide_eq_true_eq,J];constructor
   .rintro(⟨bp,b⟩|⟨bp,b,f⟩)
    .exact⟨.inl ⟨bp,b⟩,fun q=>G⟩
    exact⟨.inr ⟨bp,b⟩,fun q=>f q.2⟩
   rintro⟨⟨bp,b⟩|⟨bp,b⟩,f⟩
   .exact .inl ⟨bp,b⟩
   exact .inr ⟨bp,b,fun q=>f ⟨bp,q⟩⟩
  simp only[k9,um,_a,_j,_c,_G];constructor
  .rintro⟨⟨bp,b⟩,f⟩;have j:m.pr=17\/m.pr=6:=by exact Ou
   obtain⟨⟨x,z⟩,v,g⟩:=I j b;obtain⟨Q,U,C⟩:=(Fb ah ai r _ _ _ _ x z).1 f;refine⟨⟨bp,Q⟩,⟨fun h=>((g _).1 ((C _).2 h)).2 rfl,U⟩,fun k=>⟨fun h=>?_,fun h=>?_⟩⟩
   .by_cases e:k=dd m
    .exact .inl e
    exact .inr ((C k).1 ((g k).2 ⟨h,e⟩))
   rcases h with rfl|h
   .exact v
   exact((g k).1 ((C k).2 h)).1
  rintro⟨⟨bp,b⟩,⟨f,X⟩,M⟩;have j:m.pr=17\/m.pr=6:=by exact Ou
  have c:oH ah ai t1 t2 m=true:=by
   unfold oH;rcases(M (dd m)).2 (.inl rfl)with⟨e,h⟩|⟨e,h⟩
   .have O:m.pr=17:=e;rw[if_pos O];exact h
   have O:m.pr=6:=e;rw[if_neg G];exact h
  obtain⟨⟨x,z⟩,v,g⟩:=I j c;refine⟨⟨bp,c⟩,(Fb ah ai r _ _ _ _ x z).2 ⟨b,X,fun k=>?_⟩⟩;rw[g,M];constructor
  .rintro⟨h|h,Y⟩
   .exact(Y h).elim
   exact h
  intro h;exact⟨.inr h,fun e=>f (e▸h)⟩
theorem NX{α:Type}[DecidableEq α]:∀(S L:List α),S.Nodup->(∀x∈S,x∈L)->L.length<=S.length->∀x∈L,x∈S
 |[],L,_,_,hl,x,b=>by
  have:L=[]:=List.eq_nil_of_length_eq_zero yn;subst this;cases b
 |a::S,L,c,aj,hl,x,b=>by
  rw[_c]at c;have f:a∈L:=aj a aF;by_cases e:x=a
  .simp[e]
  refine List.mem_cons_of_mem _ (NX S (L.erase a) c.2 (fun y bB=>?_) (by rw[_p f];simp at hl;omega) x ((_i e).2 b));exact(_i (fun(q:y=a)=>c.1 (q▸bB))).2 (aj y u7)
theorem MK{α:Type}[DecidableEq α]:∀(S L:List α),S.Nodup->(∀x∈S,x∈L)->S.length<=L.length
 |[],L,_,_=>_r _
 |a::S,L,b,aj=>by
  rw[_c]at b;have c:a∈L:=aj a aF;have:=MK S (L.erase a) b.2 (fun y bB=>(_i (fun(q:y=a)=>b.1 (q▸bB))).2 (aj y u7));rw[_p c]at this;have:=List.length_pos_of_mem c;simp;omega
theorem CE{b:Int}{t:Nat}{o:Int}:o∈fU b t↔dx b t o=true:=by
 unfold fU dx;simp only[_b,_n,_F,_a,decide_eq_true_eq];constructor
 .rintro⟨k,⟨h1,h2⟩,rfl⟩;refine⟨G,?_⟩;rw[show(b+(k:Int)-b).toNat=k from G];exact h2
 rintro⟨h1,h2⟩;exact⟨(o-b).toNat,⟨G,h2⟩,G⟩
theorem Gz{α g:Type}{f:α->g}(c:∀a b,f a=f b->a=b):∀ {l:List α},l.Nodup->(l.map f).Nodup
 |[],_=>_E
 |a::l,h=>by
  rw[_c]at h;rw[_j,_c];refine⟨fun j=>?_,Gz c h.2⟩;obtain⟨x,m,e⟩:=_b.1 j;exact h.1 (c _ _ e▸m)
theorem TV(b:Int)(t:Nat):(fU b t).Nodup:=by
 unfold fU;exact Gz (fun x y h=>G) (List.Pairwise.filter _ List.nodup_range)
def uA(ah ai:Int)(t1 t2:Nat):List (Int×Int):=(fU ah t1).map (fun o=>(17,o))++(fU ai t2).map (fun o=>(6,o))
theorem Hz{ah ai:Int}{t1 t2:Nat}{k:Int×Int}:k∈uA ah ai t1 t2↔pa ah ai t1 t2 k:=by
 obtain⟨p,o⟩:=k;unfold uA pa;simp only[_f,_b,_e,CE];constructor
 .rintro(⟨x,h,rfl,rfl⟩|⟨x,h,rfl,rfl⟩)
  .exact .inl ⟨rfl,h⟩
  exact .inr ⟨rfl,h⟩
 rintro(⟨rfl,h⟩|⟨rfl,h⟩)
 .exact .inl ⟨o,h,rfl,rfl⟩
 exact .inr ⟨o,h,rfl,rfl⟩
theorem SV(ah ai:Int)(t1 t2:Nat):(uA ah ai t1 t2).Nodup:=by
 unfold uA;rw[List.nodup_append];refine⟨Gz (fun x y h=>hc) (TV _ _),Gz (fun x y h=>hc) (TV _ _),?_⟩;intro a c b f e;obtain⟨x,_,rfl⟩:=_b.1 c;obtain⟨y,_,rfl⟩:=_b.1 f;simp at e
theorem xg{pr p:Int}{ms:List Mp}:(pr,p)∈ms.map dd↔gR pr ms p=true:=by
 unfold gR;rw[_m];simp only[_b,dd,_e,decide_eq_true_eq]
theorem Tu{ah ai:Int}{t1 t2:Nat}{ms:List Mp}(j:(ms.map dd).Nodup):qT ah ai t1 t2 ms=true↔∀k,pa ah ai t1 t2 k↔k∈ms.map dd:=by
 have c:(uA ah ai t1 t2).length=(fU ah t1).length+(fU ai t2).length:=by simp[uA]
 unfold qT;simp only[_a,decide_eq_true_eq,_z];constructor
 .rintro⟨h1,h2,m⟩ k;have g:∀x∈uA ah ai t1 t2,x∈ms.map dd:=by
   intro x b;rcases Hz.1 b with⟨e,h⟩|⟨e,h⟩
   .have:=xg.2 (h2 x.2 (CE.2 h));rw[<-e]at this;exact this
   have:=xg.2 (m x.2 (CE.2 h));rw[<-e]at this;exact this
  rw[<-Hz];exact⟨g k,fun h=>NX _ _ (SV _ _ _ _) g (by rw[c,_g];omega) k h⟩
 intro h;have q:=MK _ _ (SV ah ai t1 t2) (fun x b=>(h x).1 (Hz.1 b));have u:=MK _ _ j (fun x b=>Hz.2 ((h x).2 b));rw[c,_g]at q;rw[c,_g]at u;refine⟨G,fun p f=>xg.1 ((h (17,p)).1 (.inl ⟨rfl,CE.1 f⟩)),fun p f=>xg.1 ((h (6,p)).1 (.inr ⟨rfl,CE.1 f⟩))⟩
def A_(b:List Mp)(a:Int):Prop:=0<=a/\(a=0\/∃o∈b,o.tm=a)/\∀o∈b,o.tm<=a
theorem Wd{f:List Mp}{a:Int}{c:Mp}(h:A_ f a)(g:a<=c.tm):A_ (f++[c]) c.tm:=by
 obtain⟨j,h1,h2⟩:=h;refine⟨G,.inr ⟨c,aF,rfl⟩,fun o b=>?_⟩;rcases _f.1 b with b|b
 .have:=h2 o b;omega
 obtain rfl:=_w.1 b;exact Bt
theorem abq{g:List Mp}{a:Int}{q:Mp}(h:A_ g a):jM g q=true↔qO g a q=true/\dd q∉g.map dd:=by
 obtain⟨J,h1,h2⟩:=h;unfold jM qO;simp only[_a,decide_eq_true_eq,_z,Bool.not_eq_true',mR,MG,decide_eq_false_iff_not];constructor
 .rintro⟨⟨⟨u,v⟩,j⟩,c⟩;refine⟨⟨⟨⟨u,v⟩,?_,j.2⟩,fun y z=>?_⟩,fun C=>?_⟩
  .rcases h1 with rfl|⟨o,b,rfl⟩
   .exact j.1
   have:=c o b;omega
  .have:=c y z;rintro⟨m,f,x⟩;exact this (.inr ⟨m,.inr ⟨f,x⟩⟩)
  obtain⟨o,b,e⟩:=_b.1 C;simp only[dd,_e]at e;exact c o b (.inr ⟨e.1,.inl e.2⟩)
 rintro⟨⟨⟨⟨u,v⟩,j⟩,c⟩,I⟩;refine⟨⟨⟨u,v⟩,G,j.2⟩,fun o b=>?_⟩;have:=h2 o b;rintro(e|⟨m,f|⟨f,x⟩⟩)
 .omega
 .exact I (_b.2 ⟨o,b,by simp[dd,m,f]⟩)
 exact c o b ⟨m,f,x⟩
theorem I4:∀(r c:List Mp)(a:Int),A_ c a->(eb jM c r=true↔um c r a/\(r.map dd).Nodup/\∀m∈r,dd m∉c.map dd)
 |[],c,a,h=>by simp[eb,um]
 |m::r,c,a,h=>by
  simp only[eb,_a,um,_j,_c,abq h];constructor
  .rintro⟨⟨bp,f⟩,g⟩;have j:a<=m.tm:=by exact aaU
   obtain⟨v,x,q⟩:=(I4 r (c++[m]) m.tm (Wd h j)).1 g;refine⟨⟨bp,v⟩,⟨fun b=>?_,x⟩,fun y bB=>?_⟩
   .obtain⟨y,bB,e⟩:=_b.1 b;exact q y bB (_b.2 ⟨m,aF,e.symm⟩)
   rcases _G.1 bB with rfl|bB
   .exact f
   intro b;refine q y bB ?_;rw[_o];exact _f.2 (.inl b)
  rintro⟨⟨bp,f⟩,⟨g,z⟩,u⟩;have j:a<=m.tm:=by exact aaU
  refine⟨⟨bp,u m aF⟩,(I4 r (c++[m]) m.tm (Wd h j)).2 ⟨f,z,fun y bB b=>?_⟩⟩;rw[_o]at b;rcases _f.1 b with b|b
  .exact u y u7 b
  simp only[_j,_H,_w]at b;exact g (_b.2 ⟨y,bB,b⟩)
theorem G8(ah ai:Int)(t1 t2:Nat)(ms:List Mp)(h1:t1<18446744073709551616)(h2:t2<18446744073709551616):(eb jM [] ms&&qT ah ai t1 t2 ms)=k9 ah ai [] ms t1 t2 0:=by
 have hl:A_ [] 0:=⟨Int.le_refl _,.inl rfl,fun o g=>by cases g⟩;rw[Bool.eq_iff_iff,Fb ah ai ms [] t1 t2 0 h1 h2,_a,I4 ms [] 0 hl];constructor
 .rintro⟨⟨c,b,_⟩,f⟩;exact⟨c,b,(Tu b).1 f⟩
 rintro⟨c,b,f⟩;exact⟨⟨c,b,fun j _ h=>fE⟩,(Tu b).2 f⟩
attribute [local irreducible] bc Go
theorem cA(n b c:Int):Spec prog 60 [.v (.int .i64 n),.v (.int .i64 b),.v (.int .i64 c)] (.v (.bool (decide (b<=n/\n<=c)))):=by exact CV
theorem Kj{S:Nat}(b:S<18446744073709551616){r:Int}(j:0<=r)(h1:r<64):bits .and .u64 ((S:Int).fdiv (2 ^ (min r.toNat _d.bits))) 1=if S.testBit r.toNat then 1 else 0:=by
 have c:min r.toNat _d.bits=r.toNat:=_C LP;have h2:((2:Int) ^ r.toNat)=((2 ^ r.toNat:Nat):Int):=aF;have f:(S:Int).fdiv (2 ^ r.toNat)=((S/2 ^ r.toNat:Nat):Int):=by rw[h2,Int.fdiv_eq_ediv_of_nonneg _ (Int.natCast_nonneg _),Int.natCast_ediv]
 have g:S/2 ^ r.toNat<18446744073709551616:=Nat.lt_of_le_of_lt (_D _ _) b;rw[c,f];have:=Go.u64_and_nat (S/2 ^ r.toNat) 1 g ae;rw[show((1:Nat):Int)=1 from rfl]at this;rw[this,Nat.and_one_is_mod,_l];rcases Nat.mod_two_eq_zero_or_one (S/2 ^ r.toNat)with h|h<;>rw[h]<;>rfl
theorem ady{S:Nat}(c:S<18446744073709551616){r:Int}(j:0<=r)(h1:r<64):bits .xor .u64 (S:Int) (_d.wrap (1*2 ^ (min r.toNat _d.bits)))=((S ^^^ 2 ^ r.toNat:Nat):Int):=by
 have f:min r.toNat _d.bits=r.toNat:=_C LP;have h2:((2:Int) ^ r.toNat)=((2 ^ r.toNat:Nat):Int):=aF;have g:2 ^ r.toNat<2 ^ 64:=_s ae G;have b:2 ^ r.toNat<18446744073709551616:=g;rw[f,Int.one_mul,h2,_y _ ⟨Int.natCast_nonneg _,Int.ofNat_le.2 (Nat.le_of_lt_succ b)⟩];exact Go.u64_xor_nat S (2 ^ r.toNat) c b
def dG(b:Int):Bool:=decide (64<=b/\b<=65472/\b.tmod 64=0)
def gj(b:Int):Int:=if dG b then 0 else 1
theorem rG(b:Int)(t:Nat):Spec prog 36 [.agg [.v (.int .i64 b),.v (.int .u64 (t:Int))]] (.v (.int .i64 (gj b))):=by
 have c:64<=b/\b<=65472->_k.wrap (b.tmod 64)=b.tmod 64:=fun h=>_h _ (by have:=Int.tmod_lt_of_pos b (ae:(0:Int)<64);have:=Int.tmod_nonneg 64 (G:0<=b);omega)
 refine az {} 0 func36 fun Γ an=>ar ?_
 repeat' first|refine af ?_|refine ag ?_|refine ab ?_ ?_<;>intro h<;>try exact aa|exact al|fail
 all_goals exact YH
theorem uN(b:Int)(t:Nat):Spec prog 59 [.agg [.v (.int .i64 b),.v (.int .u64 (t:Int))]] (.v (.int .i64 (gj b))):=by
 refine az {} 0 func59 fun Γ an=>ar ?_
 repeat' first|refine af ?_|refine J (cA _ _ _) ?_|refine ag ?_|refine ab ?_ ?_<;>intro h<;>try exact aa|exact al|fail
 all_goals exact YH
def rF(b:Int)(t:Nat)(o:Int):Int:=if dG b&&dx b t o then b else 0
def rm(b:Int)(t:Nat)(o:Int):Nat:=if dG b&&dx b t o then lC b t o else 0
def ng(b:Int)(t:Nat)(o:Int):Int:=if dG b then(if dx b t o then 0 else 7)else 1
theorem E8(b:Int)(t:Nat)(o:Int)(q:t<18446744073709551616):Spec prog 251 [.agg [.v (.int .i64 b),.v (.int .u64 (t:Int))],.v (.int .i64 o)] (.aS [.agg [.v (.int .i64 (rF b t o)),.v (.int .u64 (rm b t o:Nat))],.v (.int .i64 (ng b t o))]):=by
 have h1:=rG b t;cases a6:dG b with
 |false=>
  have m:gj b=1:=by unfold gj;rw[a6];rfl
  rw[m]at h1;have c:rF b t o=0:=by unfold rF;rw[a6];rfl
  have f:rm b t o=0:=by unfold rm;rw[a6];rfl
  have g:ng b t o=1:=by unfold ng;rw[a6];rfl
  rw[c,f,g];refine az {} 0 func251 fun Γ an=>ar ?_
  repeat' first|refine af ?_|refine J h1 ?_|refine ag ?_|refine ab ?_ ?_<;>intro h<;>try exact aa|exact al|fail
  all_goals exact W6
 |true=>
  have m:gj b=0:=by unfold gj;rw[a6];rfl
  rw[m]at h1;have z:64<=b/\b<=65472:=by unfold dG at a6;have:=of_decide_eq_true a6;omega
  have o0:_k.wrap (b+63)=b+63:=_h _ G;by_cases u:b<=o/\o<=b+63
  .have ahf:_k.wrap (o-b)=o-b:=_h _ G;have aj:=Kj q (r:=o-b) G G;have aP:=ady q (r:=o-b) G G;cases j:t.testBit (o-b).toNat with
   |true=>
    have eE:dx b t o=true:=by unfold dx;rw[j,Bool.and_true,decide_eq_true_eq];exact u
    have c:rF b t o=b:=NA;have f:rm b t o=lC b t o:=Mo;have g:ng b t o=0:=HR;rw[j]at aj;rw[c,f,g];unfold lC;exact PY
   |false=>
    have eE:dx b t o=false:=by unfold dx;rw[j,Bool.and_false]
    have c:rF b t o=0:=NA;have f:rm b t o=0:=Mo;have g:ng b t o=7:=HR;rw[j]at aj;rw[c,f,g];exact PY
  have eE:dx b t o=false:=by unfold dx;rw[decide_eq_false u,Bool.false_and]
  have c:rF b t o=0:=NA;have f:rm b t o=0:=Mo;have g:ng b t o=7:=HR;rw[c,f,g];refine az {} 0 func251 fun Γ an=>ar ?_
  repeat' first|refine af ?_|refine J h1 ?_|simp only[o0]|refine ag ?_|refine ab ?_ ?_<;>intro h<;>try exact aa|exact al|fail
  all_goals exact W6
abbrev fx(n:Int):List O:=[.v (.int .i64 n)]
theorem uM{l:List Int}{k:Nat}{t:Int}(b:l[k]?=some t):cf (l.map fx) k=[.v (.int .i64 t)]:=h7 fx l k t b
theorem index_spec(l:List Int)(v:Int)(c:Bool)(hl:l.length<=maxLen):Spec prog 264 [.snap 1 (l.map fx) c,.v (.int .i64 v)] (.v (.int .i64 (bU (fun x:Int=>decide (v=x)) l 0))):=by
 unfold maxLen at hl;refine az {} 0 func264 fun Γ an=>ar ?_
 repeat' first|refine af ?_|refine ag ?_|refine ab ?_ ?_<;>intro h<;>try exact aa|fail
 refine bS (α:=Nat) (fun k=>[(⟨.d0,.d1,.d0⟩,.v (.int .i64 (k:Nat)))]) (fun _=>[]) (fun _=>Γ.g0) (fun k=>l.length-k) (fun k=>k<=l.length/\bU (fun x:Int=>decide (v=x)) l 0=bU (fun x:Int=>decide (v=x)) (l.drop k) k) 0 ⟨_r _,rfl⟩ ?_ ?_
 .exact bs
 rintro k ⟨j,a6⟩;refine bz ?_;by_cases b:k<l.length
 .obtain⟨t,f⟩:∃t,l[k]?=some t:=⟨_,_q b⟩;have g:=uM f;rw[List.drop_eq_getElem_cons b,show l[k]=t from Option.some.inj ((_q b).symm.trans f)]at a6;repeat' first|refine af ?_|refine ag ?_|refine ab ?_ ?_<;>intro h<;>try exact aa|simp only[Int.toNat_natCast,g]|exact al|fail
  .exact R9
  refine br ?_;refine⟨k+1,⟨Nat.succ_le_of_lt b,by rw[a6];simp_all [bU]⟩,_u b (_A k),?_⟩;exact uX
 exact vq
theorem A7(l:List Int)(v:Int)(c:Bool)(hl:l.length<=maxLen):Spec prog 233 [.snap 1 (l.map fx) c,.v (.int .i64 v)] (.v (.bool (l.any (fun x:Int=>decide (v=x))))):=by
 have f:=index_spec l v c hl;refine az {} 0 func233 fun Γ an=>ar ?_
 repeat' first|refine af ?_|refine J f ?_|refine ag ?_|refine ab ?_ ?_<;>intro h<;>try exact aa|fail
 all_goals(refine cI ?_;first|exact cc|try simp only[cE]at *)
 refine fA ?_;rcases oz (fun x:Int=>decide (v=x)) l 0 with⟨h1,h2⟩|⟨i,t,h1,h2,m,g⟩
 .rw[h1,_x.2 (fun t j=>by simp[h2 t j])];rfl
 rw[g,_m.2 ⟨t,List.mem_of_getElem? h1,h2⟩];(simp;try omega)
def dA(b:Int)(t n:Nat):List Int:=((_v n).filter (fun k=>!t.testBit k)).map (fun(k:Nat)=>b+(k:Int))
def lb(b:Int)(t n:Nat):List Int:=((_v n).filter (fun k=>t.testBit k)).map (fun(k:Nat)=>b+(k:Int))
theorem EM(b:Int)(t n:Nat):(dA b t n).length<=n:=by
 unfold dA;exact LN
theorem K5(b:Int)(t n:Nat):(lb b t n).length<=n:=by
 unfold lb;exact LN
theorem Uq{b:Int}{t n:Nat}(h:t.testBit n=false):dA b t (n+1)=dA b t n++[b+(n:Int)]:=by
 unfold dA;exact Gi
theorem aeu{b:Int}{t n:Nat}(h:t.testBit n=true):dA b t (n+1)=dA b t n:=by
 unfold dA;exact Gi
theorem Sq{b:Int}{t n:Nat}(h:t.testBit n=true):lb b t (n+1)=lb b t n++[b+(n:Int)]:=by
 unfold lb;exact Gi
theorem adJ{b:Int}{t n:Nat}(h:t.testBit n=false):lb b t (n+1)=lb b t n:=by
 unfold lb;exact Gi
theorem WC{b:Int}{t k:Nat}(c:k<64):(dA b t 64).any (fun x:Int=>decide (b+(k:Int)=x)) = !t.testBit k:=by
 unfold dA;rw[List.any_map];cases h:t.testBit k with
 |false=>
  rw[Bool.not_false,_m];exact⟨k,_n.2 ⟨_F.2 c,by simp[h]⟩,aF⟩
 |true=>
  rw[Bool.not_true,_x];intro x f;obtain⟨_,h2⟩:=_n.1 f;simp only[Function.comp_apply,decide_eq_true_eq];intro e;have:k=x:=G;subst this;simp[h]at h2
theorem akR(t k:Nat):((t/2 ^ k:Nat):Int).tmod 2=if t.testBit k then 1 else 0:=by
 rw[_l];generalize t/2 ^ k=n;rw[Int.tmod_eq_emod_of_nonneg G];by_cases h:n%2=1
 .simp[h];omega
 simp[h];omega
theorem alb(t k:Nat):((t/2 ^ k:Nat):Int).tdiv 2=((t/2 ^ (k+1):Nat):Int):=by
 rw[Nat.pow_succ,<-Nat.div_div_eq_div_mul];generalize t/2 ^ k=n;rw[Int.tdiv_eq_ediv_of_nonneg G];omega
theorem aes{t:Nat}(b:t<18446744073709551616)(k:Nat):_d.wrap ((t/2 ^ k:Nat):Int)=((t/2 ^ k:Nat):Int):=
 _y _ (by have:=_D t (2 ^ k);generalize t/2 ^ k=n at *;omega)
theorem Fm(b:Int)(t:Nat)(C:64<=b/\b<=65472)(m:t<18446744073709551616):Spec prog 234 [.agg [.v (.int .i64 b),.v (.int .u64 (t:Int))]] (.snap 1 ((dA b t 64).map fx) false):=by
 refine az {} 0 func234 fun Γ an=>ar ?_
 repeat' first|refine af ?_|refine ag ?_|refine ab ?_ ?_<;>intro h<;>try exact aa|fail
 apply eJ
 .exact Ly
 refine bz ?_;refine bS (α:=Nat×Nat×Nat) (fun p=>[(⟨.d0,.d0,.d3⟩,.aG 2 p.2.1 1 0 (dA b t p.1).length false),(⟨.d0,.d0,.d4⟩,.v (.int .u64 ((t/2 ^ p.1:Nat):Int))),(⟨.d0,.d1,.d0⟩,.v (.int .i64 (p.1:Nat)))]) (fun p=>[(1,none),(2,some ⟨p.2.1,1,(dA b t p.1).map fx⟩)]) (fun p=>p.2.2) (fun p=>64-p.1) (fun p=>p.1<=64) (0,Γ.g0+1,Γ.g0+1+1) (_r _) ?_ ?_
 .refine dB ?_ ?_ (Nat.le_refl _);all_goals first|refine dD ?_|exact dE
  all_goals repeat' first|exact trivial|exact rfl|apply And.intro
  rw[Nat.pow_zero,Nat.div_one]
 rintro⟨k,q,bR⟩ u;dsimp only at u⊢;refine bz ?_;by_cases aN:k<64
 .have f:=akR t k;have g:=alb t k;have j:=aes m (k+1);have z:_k.wrap (b+(k:Int))=b+(k:Int):=_h _ G;have I:=EM b t k;cases c:t.testBit k with
  |true=>
   rw[c]at f;repeat' first|refine af ?_|simp only[f,g,j]|refine ag ?_|refine ab ?_ ?_<;>intro h<;>try exact aa|exact al|fail
   all_goals try exfalso;simp at h;done
   refine br ⟨(k+1,q,bR),aN,_u aN (_A k),?_⟩;dsimp only;rw[aeu c];exact Iq
  |false=>
   rw[c]at f;repeat' first|refine af ?_|simp only[f,g,j,z]|refine ag ?_|refine ab ?_ ?_<;>intro h<;>try exact aa|refine aK ⟨by rfl,DF⟩ ?_|exact al|fail
   all_goals try exfalso;simp at h;done
   have kQ:(dA b t k).map fx++[[.v (.int .i64 (b+(k:Int)))]]=(dA b t (k+1)).map fx:=by rw[Uq c,_o];rfl
   have vE:(dA b t k).length+1=(dA b t (k+1)).length:=by rw[Uq c];simp
   exact T1
 obtain rfl:k=64:=G;repeat' first|refine af ?_|refine ag ?_|refine ab ?_ ?_<;>intro h<;>try exact aa|exact al|fail
 refine ev (fG an ⟨.d0,.d0,.d2⟩ rfl rfl ⟨rfl,rfl,aF⟩) ?_;rw[e1 (_g _).symm];have J:c1 Γ.g0 ((dA b t 64).map fx):=eS (fun x=>fY);all_goals exact bM
end Go.Proofs.YtdiobdlinjgakaaGreatDoor.A
