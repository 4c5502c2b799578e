import Derived.Lib.SplitLaws
import Derived.Lib.ParseIntB
import Derived.Lib.Join
import Derived.Lib.ParseIntBCases
import Derived.Test.YtdiobdlinjgakaaGreatDoorDh15
set_option linter.unusedVariables false
set_option linter.unusedSimpArgs false
set_option maxHeartbeats 8000000
set_option maxRecDepth 100000
open Go.Proofs.Tryz
open Go.Lib renaming decDigits->_a,indexByte->_b,parseUintB->_d,index->_f,splitK->_i,indexByte_ge->_q,parseUintM->_t,count->_v,join->_w
open UInt8 renaming ofNat->_c,ofNat_toNat->_k
open List renaming all_eq_true->_e,length_singleton->_j,length_append->_l,length_cons->_m,mem_append->_n,isPrefixOf->_o,foldl_cons->_p,mem_cons->_s
open Bool renaming and_eq_true->_g,and_assoc->_r
open Nat renaming mod_lt->_h,le_refl->_u
namespace Go.Proofs.YtdiobdlinjgakaaGreatDoor
open Go
def bm(c:UInt8):List UInt8->List (List UInt8)
 |[]=>[[]]
 |b::l=>if b=c then[]::bm c l else match bm c l with
  |p::ps=>(b::p)::ps
  |[]=>[[b]]
theorem nG(c:UInt8):∀s,bm c s≠[]
 |[]=>by simp[bm]
 |b::l=>by
  unfold bm;split
  .simp
  split<;>simp
theorem ri(c:UInt8)(l:List UInt8):bm c (c::l)=[]::bm c l:=by rw[bm,if_pos rfl]
theorem oZ{b c:UInt8}(h:b≠c){l p:List UInt8}{ps:List (List UInt8)}(f:bm c l=p::ps):bm c (b::l)=(b::p)::ps:=by rw[bm,if_neg h,f]
theorem O6(c:UInt8):∀s:List UInt8,_i [c] 0 (_v s [c]) s=bm c s
 |[]=>by
  rw[Lib.count_one];rfl
 |b::l=>by
  have f:=O6 c l;by_cases h:b=c
  .subst h;have j:_f (b::l) [b]=0:=by rw[_f];simp[_o]
   rw[Lib.count_cons_eq,Nat.add_comm,_i,j,ri,<-f];rfl
  have q:([c]:List UInt8).isPrefixOf (b::l)=false:=by simp[_o,Ne.symm h]
  have j:_f (b::l) [c]=if _f l [c] == -1 then -1 else _f l [c]+1:=by rw[_f,q];simp
  rw[Lib.count_cons_ne b c l h];cases g:_v l [c]with
  |zero=>
   rw[g]at f;exact(oZ h f.symm).symm
  |succ k=>
   rw[g,_i]at f;have m:¬(_f l [c] == -1)=true:=fun e=>by
    rw[Lib.count_miss (beq_iff_eq.1 e)]at g;cases g
   rw[if_neg m]at f;have u:=Lib.index_ge l [c];have v:¬_f l [c] = -1:=fun e=>m (beq_iff_eq.2 e)
   rw[_i,j,if_neg m,if_neg (fun e=>by have:=beq_iff_eq.1 e;omega)];rw[show(_f l [c]+1).toNat=(_f l [c]).toNat+1 from G];refine Eq.trans ?_ (oZ h f.symm).symm;simp
theorem ui{c:UInt8}:∀ {s p:List UInt8} {ps:List (List UInt8)},bm c s=p::ps->c∉p/\((ps=[]/\s=p)\/∃r,s=p++c::r/\bm c r=ps)
 |[],p,ps,h=>by
  simp[bm]at h;obtain⟨rfl,rfl⟩:=h;exact⟨aF,.inl ⟨rfl,rfl⟩⟩
 |b::l,p,ps,h=>by
  by_cases f:b=c
  .subst f;rw[ri]at h;obtain⟨rfl,rfl⟩:=List.cons.inj h;exact⟨aF,.inr ⟨l,rfl,rfl⟩⟩
  cases g:bm c l with
  |nil=>exact absurd g (nG c l)
  |cons m q=>
   rw[oZ f g]at h;obtain⟨rfl,rfl⟩:=List.cons.inj h;obtain⟨h1,h2⟩:=ui g;refine⟨by simp[h1,Ne.symm f],?_⟩;rcases h2 with⟨rfl,rfl⟩|⟨r,rfl,j⟩
   .exact .inl ⟨rfl,rfl⟩
   exact .inr ⟨r,rfl,j⟩
theorem vJ{c:UInt8}:∀ {p:List UInt8} (r:List UInt8),c∉p->bm c (p++c::r)=p::bm c r
 |[],r,_=>ri c r
 |b::p,r,h=>by
  have f:b≠c:=fun e=>h (by simp[e])
  exact oZ f (vJ r (fun q=>h (by simp[q])))
theorem KV{c:UInt8}:∀ {p:List UInt8},c∉p->bm c p=[p]
 |[],_=>rfl
 |b::p,h=>by
  have f:b≠c:=fun e=>h (by simp[e])
  exact oZ f (KV (fun q=>h (by simp[q])))
def g_(n:Nat):List UInt8:=
 if n<10 then[_c (48+n)]else if n<100 then[_c (48+n/10),_c (48+n%10)]else[_c (48+n/10/10),_c (48+n/10%10),_c (48+n%10)]
theorem wY{n:Nat}(h:n<1000):_a n=g_ n:=by
 unfold g_;split
 .rename_i h1;rw[_a,dif_pos h1]
 rename_i h1;rw[_a,dif_neg h1];split
 .rename_i h2;rw[_a,dif_pos G];rfl
 rename_i h2;rw[_a,dif_neg G,_a,dif_pos G];rfl
def od(b:UInt8):Bool:=decide (48<=b.toNat/\b.toNat<=57)
def gL(l:List UInt8):Nat:=l.foldl (fun a b=>10*a+(b.toNat-48)) 0
def cY(w:List UInt8):Nat×Bool:=if 1<=w.length/\w.length<=9/\w.all od=true then(gL w,decide (_a (gL w)=w))else(0,false)
def lr(w:List UInt8):Bool:=(cY w).2&&decide ((cY w).1<=255)
theorem Kr:∀n:Fin 256,gL (g_ n.val)=n.val/\(g_ n.val).all od=true/\1<=(g_ n.val).length/\(g_ n.val).length<=9/\_d 8 (g_ n.val)=.ok n.val/\(46:UInt8)∉g_ n.val:=n7
theorem alO{n:Nat}(h:n<256):cY (g_ n)=(n,true):=by
 obtain⟨h1,h2,b,c,-,-⟩:=Kr ⟨n,h⟩;dsimp only at h1 h2 b c;unfold cY;rw[if_pos ⟨b,c,h2⟩,h1,wY G];simp
theorem afo{n:Nat}(h:n<256):lr (g_ n)=true:=by
 unfold lr;rw[alO h];simp;omega
theorem Fj{w:List UInt8}(h:lr w=true):∃n,n<256/\w=g_ n/\(cY w).1=n:=by
 unfold lr at h;simp only[_g,decide_eq_true_iff]at h;obtain⟨h1,h2⟩:=h;unfold cY at h1 h2⊢;split at h1
 .rename_i b;rw[if_pos b]at h2⊢;dsimp only at h1 h2⊢;have c:=of_decide_eq_true h1;exact⟨gL w,G,by rw[<-wY G];exact c.symm,rfl⟩
 cases h1
def eF(a:Nat):List UInt8:=_w [_a (a/16777216%256),_a (a/65536%256),_a (a/256%256),_a (a%256)] [46]
theorem Lf(a:Nat):eF a=g_ (a/16777216%256)++46::(g_ (a/65536%256)++46::(g_ (a/256%256)++46::g_ (a%256))):=by
 unfold eF;rw[wY G,wY G,wY G,wY G];simp[_w,List.intercalate,List.intersperse]
theorem agb(a:Nat):bm 46 (eF a)=[g_ (a/16777216%256),g_ (a/65536%256),g_ (a/256%256),g_ (a%256)]:=by
 have b:∀n,(46:UInt8)∉g_ (n%256):=fun n=>(Kr ⟨n%256,_h _ ae⟩).2.2.2.2.2
 rw[Lf,vJ _ (b _),vJ _ (b _),vJ _ (b _),KV (b _)]
def ni:Nat->List (List UInt8)->Option Nat
 |a,[]=>some a
 |a,w::r=>match _d 8 w with
  |.ok n=>ni ((a*256+n)%4294967296) r
  |_=>none
def e9(s:List UInt8):Nat×Int:=match ni 0 (bm 46 s)with
 |some a=>if eF a=s then(a,0)else(0,10)
 |none=>(0,10)
def uz(ps:List (List UInt8)):Nat×Int:=if ps.length=4/\ps.all lr=true then(ps.foldl (fun a w=>256*a+(cY w).1) 0,0)else(0,10)
theorem Ey{a n:Nat}(h:n<256)(r:List (List UInt8)):ni a (g_ n::r)=ni ((a*256+n)%4294967296) r:=by
 have:=(Kr ⟨n,h⟩).2.2.2.2.1;dsimp only at this;rw[ni,this]
theorem ajs{b bW dq n3:Nat}(c:b<256)(h1:bW<256)(h2:dq<256)(f:n3<256):ni 0 [g_ b,g_ bW,g_ dq,g_ n3]=some (16777216*b+65536*bW+256*dq+n3):=by
 rw[Ey c,Ey h1,Ey h2,Ey f,ni];congr 1
 omega
theorem NL(s:List UInt8):e9 s=uz (bm 46 s):=by
 by_cases g:(bm 46 s).length=4/\(bm 46 s).all lr=true
 .unfold uz;rw[if_pos g];obtain⟨m,b⟩:=g;rw[_e]at b;unfold e9;generalize q:bm 46 s=ps at m b⊢;match ps,m with
  |[w0,bl,bD,eO],_=>
   obtain⟨c,oI,rfl,u⟩:=Fj (b w0 aF);obtain⟨bW,ah,rfl,v⟩:=Fj (b bl aF);obtain⟨dq,ai,rfl,x⟩:=Fj (b bD aF);obtain⟨n3,z,rfl,C⟩:=Fj (b eO aF);rw[ajs oI ah ai z];have aj:eF (16777216*c+65536*bW+256*dq+n3)=s:=by
    obtain⟨-,(⟨f,-⟩|⟨Y,I,J⟩)⟩:=ui q
    .cases f
    obtain⟨-,(⟨f,-⟩|⟨aw,M,O⟩)⟩:=ui J
    .cases f
    obtain⟨-,(⟨f,-⟩|⟨aY,Q,U⟩)⟩:=ui O
    .cases f
    obtain⟨-,(⟨-,j⟩|⟨r,-,j⟩)⟩:=ui U
    .subst j Q M I;rw[Lf];rw[show(16777216*c+65536*bW+256*dq+n3)/16777216%256=c from G,show(16777216*c+65536*bW+256*dq+n3)/65536%256=bW from G,show(16777216*c+65536*bW+256*dq+n3)/256%256=dq from G,show(16777216*c+65536*bW+256*dq+n3)%256=n3 from G]
    exact absurd j (nG _ _)
   dsimp only;rw[if_pos aj];simp only[List.foldl,u,v,x,C];congr 1
   omega
 unfold uz;rw[if_neg g];unfold e9;split
 .rename_i a Z;split
  .rename_i aj;exfalso;apply g;rw[<-aj,agb];have X:∀n,lr (g_ (n%256))=true:=fun n=>afo (_h _ ae)
   exact⟨rfl,by simp[X]⟩
  rfl
 rfl
end Go.Proofs.YtdiobdlinjgakaaGreatDoor
namespace Go.Proofs.YtdiobdlinjgakaaGreatDoor.R
open Go
theorem DA:∀n:Nat,(_a n).all od=true/\gL (_a n)=n/\1<=(_a n).length:=fun n=>by
 induction n using Nat.strongRecOn with
 |_ n f=>
  have b:∀k,k<10->od (_c (48+k))=true/\(_c (48+k)).toNat-48=k:=fun k g=>by
   have:∀k:Fin 10,od (_c (48+k.val))=true/\(_c (48+k.val)).toNat-48=k.val:=n7;exact this ⟨k,g⟩
  rw[_a];split
  .rename_i h;obtain⟨h1,h2⟩:=b n h;generalize _c (48+n)=c at *;exact⟨wW,by simpa[gL]using h2,aF⟩
  rename_i h;obtain⟨j,m,q⟩:=f (n/10) G;obtain⟨h1,h2⟩:=b (n%10) (_h _ ae);generalize _c (48+n%10)=c at *;refine⟨by simp[j,h1],?_,aF⟩;have:gL (_a (n/10)++[c])=10*gL (_a (n/10))+(c.toNat-48):=by
   unfold gL;rw[List.foldl_append];rfl
  rw[this,m,h2];omega
theorem Nh(M:Nat)(m:M<=18446744073709551615):∀(l:List UInt8)(f:Nat),l.all od=true->l.foldl (fun a b=>10*a+(b.toNat-48)) f<=M->_t M f l=.ok (l.foldl (fun a b=>10*a+(b.toNat-48)) f)
 |[],f,_,_=>rfl
 |b::l,f,g,j=>by
  have q:48<=b.toNat/\b.toNat<=57:=of_decide_eq_true (_e.1 g b aF);have hl:l.all od=true:=_e.2 fun x aP=>_e.1 g x oT
  have u:∀(l:List UInt8)(a:Nat),a<=l.foldl (fun a b=>10*a+(b.toNat-48)) a:=fun l=>by
   induction l with
   |nil=>intro a;exact hT
   |cons c r v=>intro a;exact Nat.le_trans (show a<=10*a+(c.toNat-48)from G) (v _)
  have h1:=u l (10*f+(b.toNat-48));rw[_p]at j⊢;rw[_t,if_pos q,if_neg G,if_neg G,Nat.mul_comm f 10];exact Nh M m l _ hl j
theorem aje(n:Nat)(h:n<=18446744073709551615):_d 64 (_a n)=.ok n:=by
 obtain⟨h1,h2,b⟩:=DA n;unfold _d;rw[if_neg (by intro q;rw[q]at b;simp at b)];have:=Nh (2 ^ 64-1) ae (_a n) 0 h1 (by
  show gL (_a n)<=_;rw[h2];exact h)
 rw[this];exact congrArg _ h2
def gW(s:List UInt8):Bool:=match _d 64 s with
 |.ok n=>decide (s.length<=10)&&decide (_a n=s)
 |_=>false
def pI(s:List UInt8):Int:=match _d 64 s with
 |.ok n=>IntKind.i64.wrap (n:Nat)
 |.range=>-1
 |_=>0
def fO(s:List UInt8):Nat×Bool:=
 if s.length<10 then cY s else(10*(cY (s.take 9)).1+(cY (s.drop 9)).1,(((cY (s.take 9)).2&&(cY (s.drop 9)).2)&&decide (0<(cY (s.take 9)).1))&&decide (s.length=10))
theorem Hx{n:Nat}(h:(_a n).length<=9):cY (_a n)=(n,true):=by
 obtain⟨h1,h2,b⟩:=DA n;unfold cY;rw[if_pos ⟨b,h,h1⟩,h2];simp
theorem FX{s:List UInt8}(h:(cY s).2=true):s=_a (cY s).1/\s.length<=9:=by
 unfold cY at h⊢;split at h
 .rename_i b;rw[if_pos b];exact⟨(of_decide_eq_true h).symm,b.2.1⟩
 cases h
theorem Cq{s:List UInt8}:(cY s).1<1000000000:=by
 unfold cY;split
 .rename_i c;have g:∀(l:List UInt8)(a:Nat),l.all od=true->l.foldl (fun a b=>10*a+(b.toNat-48)) a<(a+1)*10 ^ l.length:=fun l=>by
   induction l with
   |nil=>intro a _;simp
   |cons b r j=>
    intro a f;have m:48<=b.toNat/\b.toNat<=57:=of_decide_eq_true (_e.1 f b aF);have:=j (10*a+(b.toNat-48)) (_e.2 fun x aP=>_e.1 f x oT);rw[_p,_m,Nat.pow_succ];refine Nat.lt_of_lt_of_le this ?_;rw[<-Nat.mul_assoc,Nat.mul_right_comm];refine Nat.mul_le_mul_right _ G
  have h1:=g s 0 c.2.2;have h2:(10:Nat) ^ s.length<=10 ^ 9:=Nat.pow_le_pow_right ae c.2.1;dsimp only;unfold gL;omega
 decide
theorem alz{s:List UInt8}(h:(fO s).2=true):s=_a (fO s).1/\s.length<=10/\(fO s).1<10000000000:=by
 unfold fO at h⊢;split at h
 .rename_i c;rw[if_pos c];have:=FX h;have j:=Cq (s:=s);exact⟨this.1,G,G⟩
 rename_i c;rw[if_neg c];simp only[_g,decide_eq_true_eq]at h;obtain⟨⟨⟨h1,h2⟩,j⟩,x⟩:=h;have m:=(FX h1).1;have g:=(FX h2).1;have z:=Cq (s:=s.take 9);have f:(s.drop 9).length=1:=yi;dsimp only;generalize (cY (s.take 9)).1=a at *;generalize (cY (s.drop 9)).1=b at *;have u:b<10:=by
  apply Decidable.byContradiction;intro q;rw[g,_a,dif_neg q]at f;have:=(DA (b/10)).2.2;simp at f;rw[f]at this;simp at this
 refine⟨?_,G,G⟩;rw[_a,dif_neg G,show(10*a+b)/10=a from G,show(10*a+b)%10=b from G,<-m];have v:_a b=[_c (48+b)]:=by rw[_a,dif_pos u]
 rw[<-v,<-g,List.take_append_drop]
theorem afY{n:Nat}(h:(_a n).length<=10):fO (_a n)=(n,true):=by
 unfold fO;split
 .exact Hx G
 rename_i b;have h10:¬n<10:=fun q=>by
  rw[_a,dif_pos q]at b;simp at b
 have e:_a n=_a (n/10)++[_c (48+n%10)]:=by conv=>lhs;rw[_a,dif_neg h10]
 have c:(_a (n/10)).length=9:=by rw[e]at b h;simp at b h;omega
 have f:(_a n).take 9=_a (n/10):=by rw[e];exact List.take_left' c
 have g:(_a n).drop 9=_a (n%10):=by rw[e,List.drop_left' c,_a,dif_pos (_h _ ae)]
 have j:(_a (n%10)).length<=9:=by rw[_a,dif_pos (_h _ ae)];simp
 rw[f,g,Hx G,Hx j];have m:(_a n).length=10:=by rw[e];simp[c]
 simp only[m,decide_true,Bool.and_true,Bool.true_and,Prod.mk.injEq,decide_eq_true_eq];omega
theorem M0(s:List UInt8):gW s=(fO s).2/\((fO s).2=true->pI s=((fO s).1:Nat)):=by
 have f:(fO s).2=true->gW s=true/\pI s=((fO s).1:Nat):=fun h=>by
  obtain⟨h1,h2,j⟩:=alz h;have g:=aje (fO s).1 G;rw[<-h1]at g;unfold gW pI;rw[g];dsimp only;rw[<-h1,decide_eq_true h2,decide_eq_true rfl];refine⟨rfl,?_⟩;show IntKind.i64.wrap _=_;have:IntKind.i64.wrap (((fO s).1:Nat):Int)=(((fO s).1:Nat):Int):=by
   rw[IntKind.wrap_i64];omega
  exact this
 refine⟨?_,fun h=>(f h).2⟩;cases c:(fO s).2 with
 |true=>exact(f c).1
 |false=>
  cases b:gW s with
  |false=>rfl
  |true=>
   unfold gW at b;split at b
   .rename_i n m;simp only[_g,decide_eq_true_eq]at b;have:=afY (n:=n) (by rw[b.2];exact b.1);rw[b.2]at this;rw[this]at c;cases c
   cases b
abbrev ak:=List UInt8
abbrev ee:ak:=[112,97,115,115]
abbrev fu:ak:=[100,114,111,112]
abbrev cV:ak:=[111,117,116,115,105,100,101]
abbrev cX:ak:=[112,111,114,116,115]
abbrev cU:ak:=[108,105,102,101]
abbrev c0:ak:=[114,97,116,101]
abbrev cM:ak:=[101,108,115,101]
def bJ(c:UInt8):ak->ak×ak×Bool
 |[]=>([],[],false)
 |b::l=>if b=c then([],l,true)else(b::(bJ c l).1,(bJ c l).2.1,(bJ c l).2.2)
theorem cutB_miss{c:UInt8}:∀ {l:ak},_b l c = -1->bJ c l=(l,[],false)
 |[],_=>rfl
 |b::l,h=>by
  unfold _b at h;split at h
  .cases h
  rename_i bO;have f:¬b=c:=yJ;have j:=_q l c;have g:_b l c = -1:=by
   split at h
   .rename_i q;simpa using q
   omega
  unfold bJ;rw[if_neg f,cutB_miss g]
theorem cutB_hit{c:UInt8}:∀ {l:ak} {i:Nat},_b l c=(i:Int)->bJ c l=(l.take i,l.drop (i+1),true)/\i<l.length
 |[],i,h=>by simp[_b]at h
 |b::l,i,h=>by
  unfold _b at h;split at h
  .rename_i bO;have f:b=c:=yJ;obtain rfl:i=0:=G;unfold bJ;rw[if_pos f];exact⟨rfl,Nat.succ_pos _⟩
  rename_i bO;have f:¬b=c:=yJ;split at h
  .omega
  rename_i bg;obtain⟨k,rfl⟩:∃k,i=k+1:=⟨i-1,by
   have:=_q l c;have:¬_b l c = -1:=Gl;omega⟩
  have g:_b l c=(k:Int):=G;obtain⟨j,m⟩:=cutB_hit g;unfold bJ;rw[if_neg f,j];exact⟨rfl,by simp[m]⟩
theorem YP{c:UInt8}(l:ak):bm c l=(bJ c l).1::(if(bJ c l).2.2=true then bm c (bJ c l).2.1 else[]):=by
 induction l with
 |nil=>rfl
 |cons b l g=>
  by_cases f:b=c
  .subst f;rw[ri,bJ,if_pos rfl];rfl
  rw[oZ f g,bJ,if_neg f]
theorem ER{c:UInt8}(l:ak):(bJ c l).1.length<=l.length/\(bJ c l).2.1.length<=l.length/\(l≠[]->(bJ c l).2.1.length<l.length):=by
 induction l with
 |nil=>exact⟨_u _,_u _,fun h=>absurd rfl h⟩
 |cons b l f=>
  unfold bJ;split
  .simp
  simp only[_m];omega
abbrev dT:=List ak×Bool
def cg(t:dT):ak×dT:=match t.1 with
 |[]=>([],([],true))
 |s::r=>(s,(r,t.2))
def fl(s:ak)(t:dT):Int×dT:=(pI s,(t.1,t.2 || !gW s))
def cj(t:dT):Int×dT:=fl (cg t).1 (cg t).2
def ad(s:ak)(t:dT):Int×dT:=(((e9 s).1:Nat),(t.1,t.2||decide (¬(e9 s).2=0)))
def ct(c:UInt8)(t:dT):(ak×ak)×dT:=(((bJ c (cg t).1).1,(bJ c (cg t).1).2.1),((cg t).2.1,(cg t).2.2 || !(bJ c (cg t).1).2.2))
def c2(t:dT):(Int×Int)×dT:=(((ad (ct 47 t).1.1 (ct 47 t).2).1,(fl (ct 47 t).1.2 (ad (ct 47 t).1.1 (ct 47 t).2).2).1),(fl (ct 47 t).1.2 (ad (ct 47 t).1.1 (ct 47 t).2).2).2)
def fh(t:dT):(Int×Int)×dT:=(((fl (ct 45 t).1.1 (ct 45 t).2).1,(fl (ct 45 t).1.2 (fl (ct 45 t).1.1 (ct 45 t).2).2).1),(fl (ct 45 t).1.2 (fl (ct 45 t).1.1 (ct 45 t).2).2).2)
def dy(s:ak)(t:dT):Bool×dT:=(decide (s=ee),(t.1,t.2 || !(decide (s=ee)||decide (s=fu))))
def np(w0:ak)(t:dT):bN×dT:=
 let v:=dy w0 t
 let a:=c2 v.2
 let b:=c2 a.2
 let c:=cj b.2
 let d:=fh c.2
 let e:=fh d.2
 (⟨a.1.1,a.1.2,b.1.1,b.1.2,c.1,d.1.1,d.1.2,e.1.1,e.1.2,v.1⟩,e.2)
def eU(p:b6)(w0:ak)(t:dT):b6×dT:=
 if w0=cV then({p with ou:=(ad (cg t).1 (cg t).2).1},(ad (cg t).1 (cg t).2).2)
 else if w0=cX then({p with lt:=(cj t).1,st:=(cj (cj t).2).1},(cj (cj t).2).2)
 else if w0=cU then({p with lf:=(cj t).1},(cj t).2)
 else if w0=c0 then({p with ra:=(cj t).1,mo:=(cj (cj t).2).1},(cj (cj t).2).2)
 else if w0=cM then({p with el:=(dy (cg t).1 (cg t).2).1},(dy (cg t).1 (cg t).2).2)
 else({p with rs:=p.rs++[(np w0 t).1]},(np w0 t).2)
def fN(t:dT):Bool:=t.2||decide (0<t.1.length)
def gr(w0:ak):ak×Bool:=
 if w0=cV then([97],true)else if w0=cX\/w0=c0 then([110,110],true)else if w0=cU then([110],true)else if w0=cM then([118],true)else if w0=ee\/w0=fu then([116,116,110,98,98],true)else([],false)
abbrev jg:=List Int×Bool
def iq(s:ak)(x:jg):jg:=(x.1++[((fO s).1:Int)],x.2&&(fO s).2)
def lg(s:ak)(x:jg):jg:=(x.1++[((e9 s).1:Int)],x.2&&decide ((e9 s).2=0))
def k_(c:UInt8)(s:ak)(x:jg):jg:=
 if c=97 then lg s x else if c=110 then iq s x else if c=118 then(x.1,x.2&&(decide (s=ee)||decide (s=fu)))
 else if c=116 then iq (bJ 47 s).2.1 (lg (bJ 47 s).1 (x.1,x.2&&(bJ 47 s).2.2))
 else if c=98 then iq (bJ 45 s).2.1 (iq (bJ 45 s).1 (x.1,x.2&&(bJ 45 s).2.2))else x
def jE:ak->List ak->jg->jg
 |c::b,s::f,x=>jE b f (k_ c s x)
 |_,_,x=>x
def jy(w0:ak)(r:List ak):jg:=if(gr w0).2=true/\(gr w0).1.length=r.length then jE (gr w0).1 r ([],true)else([],false)
def jc(o:List Int)(i:Nat):Int:=(o[i]?).getD 0
def sw(p:b6)(w0:ak)(r:List ak)(o:List Int):b6:=
 if w0=ee\/w0=fu then{p with rs:=p.rs++[⟨jc o 0,jc o 1,jc o 2,jc o 3,jc o 4,jc o 5,jc o 6,jc o 7,jc o 8,decide (w0=ee)⟩]}
 else if w0=cV then{p with ou:=jc o 0}
 else if w0=cX then{p with lt:=jc o 0,st:=jc o 1}
 else if w0=cU then{p with lf:=jc o 0}
 else if w0=c0 then{p with ra:=jc o 0,mo:=jc o 1}
 else{p with el:=decide (r.head?=some ee)}
theorem qb{s:ak}(h:gW s=true):((fO s).1:Int)=pI s:=((M0 s).2 (by rw[<- (M0 s).1];exact h)).symm
theorem I9(s:ak):(fO s).2=gW s:=(M0 s).1.symm
theorem alZ{r:List ak}(h:r.length=5):∃a b c d e,r=[a,b,c,d,e]:=by
 match r,h with
 |[a,b,c,d,e],_=>exact⟨a,b,c,d,e,rfl⟩
theorem aiL{t:dT}(h:t.2=true):fN t=true:=by simp[fN,h]
theorem TB{t:dT}(h:t.2=true):(cg t).2.2=true:=by unfold cg;split<;>simp[h]
theorem afB(w0:ak)(r:List ak)(h:¬r.length=5):fN (np w0 (r,false)).2=true:=by
 match r with
 |[]=>simp[fN,np,c2,fh,ct,fl,ad,cj,dy,cg]
 |[_]=>simp[fN,np,c2,fh,ct,fl,ad,cj,dy,cg]
 |[_,_]=>simp[fN,np,c2,fh,ct,fl,ad,cj,dy,cg]
 |[_,_,_]=>simp[fN,np,c2,fh,ct,fl,ad,cj,dy,cg]
 |[_,_,_,_]=>simp[fN,np,c2,fh,ct,fl,ad,cj,dy,cg]
 |[_,_,_,_,_]=>exact absurd rfl h
 |_::_::_::_::_::_::r=>simp[fN,np,c2,fh,ct,fl,ad,cj,dy,cg]
theorem ajj(p:b6)(w0:ak)(r:List ak):(jy w0 r).2 = !fN (eU p w0 (r,false)).2/\((jy w0 r).2=true->sw p w0 r (jy w0 r).1=(eU p w0 (r,false)).1):=by
 by_cases h1:w0=cV
 .subst h1;have f:gr cV=([97],true):=ae;unfold jy eU sw;rw[f,if_pos rfl];match r with
  |[]=>simp[fN,cg,ad]
  |[x]=>by_cases q:(e9 x).2=0<;>simp[fN,cg,ad,jE,k_,lg,jc,q]
  |x::y::r=>simp[fN,cg,ad]
 by_cases h2:w0=cX
 .subst h2;have f:gr cX=([110,110],true):=ae;unfold jy eU sw;rw[f,if_neg h1,if_pos rfl];exact XX
 by_cases j:w0=cU
 .subst j;have f:gr cU=([110],true):=ae;unfold jy eU sw;rw[f,if_neg h1,if_neg h2,if_pos rfl];match r with
  |[]=>simp[fN,cg,cj,fl]
  |[x]=>
   simp[fN,cg,cj,fl,jE,k_,iq,jc,I9];exact qb
  |x::y::r=>simp[fN,cg,cj,fl]
 by_cases m:w0=c0
 .subst m;have f:gr c0=([110,110],true):=ae;unfold jy eU sw;rw[f,if_neg h1,if_neg h2,if_neg j,if_pos rfl];exact XX
 by_cases v:w0=cM
 .subst v;have f:gr cM=([118],true):=ae;unfold jy eU sw;rw[f,if_neg h1,if_neg h2,if_neg j,if_neg m,if_pos rfl];match r with
  |[]=>simp[fN,cg,dy]
  |[x]=>by_cases z:x=ee<;>by_cases C:x=fu<;>simp[fN,cg,dy,jE,k_,jc,z,C]
  |x::y::r=>simp[fN,cg,dy]
 unfold jy eU sw;rw[if_neg h1,if_neg h2,if_neg j,if_neg m,if_neg v];by_cases g:w0=ee\/w0=fu
 .have f:gr w0=([116,116,110,98,98],true):=by
   rcases g with rfl|rfl<;>decide
  have G:(!(decide (w0=ee)||decide (w0=fu)))=false:=by rcases g with q|q<;>simp[q]
  rw[f,if_pos g];by_cases I:r.length=5
  .obtain⟨a,b,c,d,e,rfl⟩:=alZ I;have U:fN (np w0 ([a,b,c,d,e],false)).2 = !(((((((((bJ 47 a).2.2&&decide ((e9 (bJ 47 a).1).2=0))&&gW (bJ 47 a).2.1)&&(((bJ 47 b).2.2&&decide ((e9 (bJ 47 b).1).2=0))&&gW (bJ 47 b).2.1))&&gW c)&&((bJ 45 d).2.2&&gW (bJ 45 d).1))&&gW (bJ 45 d).2.1)&&((bJ 45 e).2.2&&gW (bJ 45 e).1))&&gW (bJ 45 e).2.1):=by simp[fN,np,c2,fh,ct,fl,ad,cj,dy,cg,_r,Bool.or_assoc,G]
   rw[U];rw[if_pos ⟨rfl,rfl⟩];have X:jE [116,116,110,98,98] [a,b,c,d,e] ([],true)=([((e9 (bJ 47 a).1).1:Int),((fO (bJ 47 a).2.1).1:Int),((e9 (bJ 47 b).1).1:Int),((fO (bJ 47 b).2.1).1:Int),((fO c).1:Int),((fO (bJ 45 d).1).1:Int),((fO (bJ 45 d).2.1).1:Int),((fO (bJ 45 e).1).1:Int),((fO (bJ 45 e).2.1).1:Int)],((((((((bJ 47 a).2.2&&decide ((e9 (bJ 47 a).1).2=0))&&gW (bJ 47 a).2.1)&&(((bJ 47 b).2.2&&decide ((e9 (bJ 47 b).1).2=0))&&gW (bJ 47 b).2.1))&&gW c)&&((bJ 45 d).2.2&&gW (bJ 45 d).1))&&gW (bJ 45 d).2.1)&&((bJ 45 e).2.2&&gW (bJ 45 e).1))&&gW (bJ 45 e).2.1):=by simp[jE,k_,lg,iq,I9,_r]
   rw[X];refine⟨aF,fun J=>?_⟩;simp only[_g]at J;obtain⟨⟨⟨⟨⟨⟨⟨-,Y⟩,-,Z⟩,aa⟩,-,ab⟩,ac⟩,-,af⟩,ag⟩:=J;simp[jc,qb Y,qb Z,qb aa,qb ab,qb ac,qb af,qb ag,np,c2,fh,ct,fl,ad,cj,dy,cg]
  rw[if_neg (fun q=>I q.2.symm),afB w0 r I];simp
 have f:gr w0=([],false):=by
  unfold gr;rw[if_neg h1,if_neg (by simp[h2,m]),if_neg j,if_neg v,if_neg g]
 have G:fN (np w0 (r,false)).2=true:=by
  apply aiL;have u:∀(s:ak)(t:dT),t.2=true->(fl s t).2.2=true:=fun s t h=>by simp[fl,h]
  have ah:∀(s:ak)(t:dT),t.2=true->(ad s t).2.2=true:=fun s t h=>by simp[ad,h]
  have M:∀(c:UInt8)(t:dT),t.2=true->(ct c t).2.2=true:=fun c t h=>by simp[ct,TB h]
  have O:∀(t:dT),t.2=true->(c2 t).2.2=true:=fun t h=>u _ _ (ah _ _ (M _ _ h))
  have Q:∀(t:dT),t.2=true->(fh t).2.2=true:=fun t h=>u _ _ (u _ _ (M _ _ h))
  have ai:∀(t:dT),t.2=true->(cj t).2.2=true:=fun t h=>u _ _ (TB h)
  have aj:(dy w0 (r,false)).2.2=true:=by
   have z:¬w0=ee:=fun q=>g (.inl q)
   have C:¬w0=fu:=fun q=>g (.inr q)
   simp[dy,z,C]
  exact Q _ (Q _ (ai _ (O _ (O _ aj))))
 rw[f,G,if_neg aF];simp
def dj(l:ak):List ak:=(bm 32 l).filter (fun w=>decide (¬w=[]))
def e4:Nat->b6->List ak->List ak->b6×List ak ⊕ Int×Int
 |_,p,b,[]=>.inl (p,b)
 |i,p,b,l::c=>match dj l with
  |[]=>e4 (i+1) p b c
  |w0::r=>
   if w0.head?=some 35 then e4 (i+1) p b c
   else if fN (eU p w0 (r,false)).2=true then .inr ((i:Int)+1,10)
   else if w0=ee\/w0=fu then e4 (i+1) (eU p w0 (r,false)).1 b c
   else if w0∈b then .inr ((i:Int)+1,8)
   else e4 (i+1) (eU p w0 (r,false)).1 (b++[w0]) c
theorem Og(i:Nat)(p:b6)(b:List ak):e4 i p b [[]]=.inl (p,b):=by
 have:dj []=[]:=ae;unfold e4;rw[this];rfl
theorem FK{i:Nat}{p:b6}{b:List ak}{l:ak}{c:List ak}(h:dj l=[]):e4 i p b (l::c)=e4 (i+1) p b c:=by rw[e4,h]
theorem GU{i:Nat}{p:b6}{b:List ak}{l:ak}{c:List ak}{w0:ak}{r:List ak}(h:dj l=w0::r):e4 i p b (l::c)=if w0.head?=some 35 then e4 (i+1) p b c
 else if fN (eU p w0 (r,false)).2=true then .inr ((i:Int)+1,10)
 else if w0=ee\/w0=fu then e4 (i+1) (eU p w0 (r,false)).1 b c
 else if w0∈b then .inr ((i:Int)+1,8)
 else e4 (i+1) (eU p w0 (r,false)).1 (b++[w0]) c:=by
 rw[e4,h]
theorem Mx{l w:ak}(h:w∈dj l):w≠[]/\32∉w:=by
 unfold dj at h;rw[List.mem_filter]at h;refine⟨by simpa using h.2,?_⟩;have:∀(l:ak),w∈bm 32 l->(32:UInt8)∉w:=fun l=>by
  induction l with
  |nil=>
   intro h;simp[bm]at h;subst h;simp
  |cons b l f=>
   intro h;by_cases g:b=32
   .subst g;rw[ri]at h;rcases _s.1 h with rfl|h
    .simp
    exact f h
   cases c:bm 32 l with
   |nil=>exact absurd c (nG 32 l)
   |cons p ps=>
    rw[oZ g c]at h;rw[c]at f;have j:=(ui c).1;rcases _s.1 h with rfl|h
    .simp[j,Ne.symm g]
    exact f (List.mem_cons_of_mem _ h)
 exact this l h.1
def mn:List ak:=[cV,cX,cU,c0,cM]
theorem adt{w0:ak}(h:(gr w0).2=true)(f:¬(w0=ee\/w0=fu)):w0∈mn:=by
 unfold gr at h;unfold mn;by_cases h1:w0=cV
 .simp[h1]
 rw[if_neg h1]at h;by_cases h2:w0=cX\/w0=c0
 .rcases h2 with h2|h2<;>simp[h2]
 rw[if_neg h2]at h;by_cases b:w0=cU
 .simp[b]
 rw[if_neg b]at h;by_cases c:w0=cM
 .simp[c]
 rw[if_neg c,if_neg f]at h;cases h
def gQ(H:List ak):ak:=(H.map (fun w=>w++[32])).flatten
theorem P5(H:List ak)(w:ak):gQ (H++[w])=gQ H++w++[32]:=by simp[gQ]
theorem PI:∀w∈mn,(32:UInt8)∉w:=ae
theorem TS:∀(H:List ak),(∀w∈H,w∈mn)->bm 32 (gQ H)=H++[[]]
 |[],_=>rfl
 |w::H,h=>by
  have e:gQ (w::H)=w++32::gQ H:=by simp[gQ]
  rw[e,vJ _ (PI w (h w aF)),TS H (fun x aP=>h x oT)];rfl
theorem aak{w:ak}(h:(32:UInt8)∉w):∀(CP ur:ak),∃q c,bm 32 (CP++w++32::ur)=c++(q++w)::bm 32 ur
 |[],ur=>⟨[],[],by simp[vJ _ h]⟩
 |b::CP,ur=>by
  obtain⟨q,c,e⟩:=aak h CP ur;by_cases bO:b=32
  .subst bO;refine⟨q,[]::c,?_⟩;show bm 32 (32::(CP++w++32::ur))=_;rw[ri,e];rfl
  cases c with
  |nil=>
   refine⟨b::q,[],?_⟩;exact Za
  |cons y c=>
   refine⟨q,(b::y)::c,?_⟩;exact Za
theorem adK:∀x∈mn,∀w∈mn,w <:+ x->w=x:=ae
theorem afy{H:List ak}(c:∀w∈H,w∈mn){w:ak}(b:w∈mn):(w++[32] <:+: gQ H)↔w∈H:=by
 constructor
 .rintro⟨f,g,e⟩;have j:f++w++32::g=gQ H:=by rw[<-e];simp
  obtain⟨q,m,h1⟩:=aak (PI w b) f g;rw[j,TS H c]at h1;have hm:q++w∈H++[[]]:=by rw[h1];simp
  rcases _n.1 hm with hm|hm
  .have:=adK _ (c _ hm) w b ⟨q,rfl⟩;rw[this];exact hm
  simp at hm;rw[hm.2]at b;exact absurd b ae
 intro h;obtain⟨s,t,rfl⟩:=List.append_of_mem h;exact⟨gQ s,gQ t,by simp[gQ]⟩
def kA(H:List ak)(w:ak):Nat:=if w∈H then 1 else 0
def w4(H:List ak):Prop:=(∀w∈H,w∈mn)/\H.length=kA H cV+kA H cX+kA H cU+kA H c0+kA H cM/\(gQ H).length=8*kA H cV+6*kA H cX+5*kA H cU+5*kA H c0+5*kA H cM
theorem ac0:w4 []:=⟨aF,by simp[kA],by simp[kA,gQ]⟩
theorem O_{H:List ak}{w:ak}(h:w∉H)(x:ak):kA (H++[w]) x=kA H x+if x=w then 1 else 0:=by
 unfold kA;by_cases e:x=w
 .subst e;simp[h]
 simp[e]
theorem ama{H:List ak}{w:ak}(c:w4 H)(cy:w∈mn)(h:w∉H):w4 (H++[w]):=by
 obtain⟨h1,h2,f⟩:=c;refine⟨fun x b=>?_,?_,?_⟩
 .rcases _n.1 b with b|b
  .exact h1 x b
  rw[List.mem_singleton.1 b];exact cy
 .simp only[O_ h,_l,_j,h2];exact Wy
 rw[P5];simp only[O_ h,_l,_j,f];exact Wy
theorem OM{H:List ak}(h:w4 H):((gQ H).length=29↔¬H.length<5)/\H.length<=5/\(gQ H).length<=29:=by
 obtain⟨h1,h2,c⟩:=h;have b:∀w,kA H w<=1:=fun w=>by unfold kA;split<;>omega
 have:=b cV;have:=b cX;have:=b cU;have:=b c0;have:=b cM;omega
end Go.Proofs.YtdiobdlinjgakaaGreatDoor.R
namespace Go.Proofs.YtdiobdlinjgakaaGreatDoor.R
theorem ahm(n:Nat)(h:n<=4294967295):_d 32 (_a n)=.ok n:=by
 obtain⟨h1,h2,b⟩:=DA n;unfold _d;rw[if_neg (by intro q;rw[q]at b;simp at b)];have:=Nh (2 ^ 32-1) ae (_a n) 0 h1 (by
  show gL (_a n)<=_;rw[h2];exact h)
 rw[this];exact congrArg _ h2
def gg(s:ak):Option Int:=if(cY s).2=true then some ((cY s).1:Nat)else none
def jd(s:ak):Option Int:=if(e9 s).2=0 then some ((e9 s).1:Nat)else none
abbrev lz:ak:=[105,110]
abbrev pG:ak:=[111,117,116]
def k7(s:ak):Option Bool:=if s=lz then some true else if s=pG then some false else none
theorem PU{s:ak}{v:Int}(h:gg s=some v):∃n:Nat,v=n/\n<1000000000/\_d 32 s=.ok n/\s.length<=9/\_a n=s:=by
 unfold gg at h;split at h
 .rename_i q;obtain⟨h1,h2⟩:=FX q;have b:=Cq (s:=s);refine⟨(cY s).1,(Option.some.inj h).symm,b,?_,h2,h1.symm⟩;have:=ahm (cY s).1 G;rw[<-h1]at this;exact this
 cases h
theorem abA{s:ak}(h:gg s=none){n:Nat}(b:_d 32 s=.ok n):9<s.length\/(s.length<=9/\¬_a n=s):=by
 by_cases hl:9<s.length
 .exact .inl hl
 refine .inr ⟨G,fun q=>?_⟩;unfold gg at h;rw[if_pos (by rw[<-q,Hx (by rw[q];omega)])]at h;cases h
def eo{α:Type}(f:ak->Option α):List ak->Option (α×List ak)
 |[]=>none
 |s::r=>(f s).map fun v=>(v,r)
theorem rN{α:Type}{f:ak->Option α}{l r:List ak}{v:α}(h:eo f l=some (v,r)):∃s,l=s::r/\f s=some v:=by
 cases l with
 |nil=>cases h
 |cons s q=>
  cases e:f s with
  |none=>simp[eo,e]at h
  |some x=>
   simp[eo,e]at h;obtain⟨rfl,rfl⟩:=h;exact⟨s,rfl,e⟩
theorem DZ{α:Type}{f:ak->Option α}{l:List ak}(h:eo f l=none):l=[]\/∃s r,l=s::r/\f s=none:=by
 cases l with
 |nil=>exact .inl rfl
 |cons s q=>
  cases e:f s with
  |none=>exact .inr ⟨s,q,rfl,e⟩
  |some x=>simp[eo,e]at h
def jm(b:UInt8):Option Nat:=if 48<=b.toNat/\b.toNat<=57 then some (b.toNat-48)else if 97<=b.toNat/\b.toNat<=102 then some (b.toNat-87)else none
def gk:ak->Option ak
 |[]=>some []
 |[_]=>none
 |a::b::r=>match jm a,jm b,gk r with
  |some x,some y,some l=>some (_c (16*x+y)::l)
  |_,_,_=>none
structure ig where
 (a p b q:Int)
def nM(l:List ak):Option (ig×List ak):=
 match eo jd l with
 |none=>none
 |some (a,c)=>match eo gg c with
  |none=>none
  |some (p,f)=>match eo jd f with
   |none=>none
   |some (b,g)=>match eo gg g with
    |none=>none
    |some (q,j)=>some (⟨a,p,b,q⟩,j)
end Go.Proofs.YtdiobdlinjgakaaGreatDoor.R
namespace Go.Proofs.YtdiobdlinjgakaaGreatDoor
attribute [local irreducible] bc Go
theorem abd(c:UInt8)(l:List UInt8):Spec prog 34 [.v (.string (I l)),.v (.string (I [c]))] (.v (.int .i64 (Lib.countByte l c:Nat))):=by
 have a_:(I l).data.toList=l:=nY;have a8:(I [c]).size=1:=rfl;have dk:og (I [c]) 0=((c.toNat:Nat):Int):=rfl;have gn:((c.toNat:Nat):Int).toNat.toUInt8=c:=_k;exact Wk
theorem QR(l:List UInt8)(b:Int):Spec prog 139 [.v (.string (I l)),.v (.int .u8 b)] (.v (.int .i64 (_b l b.toNat.toUInt8))):=by
 have c:(I l).data.toList=l:=nY;refine az {ext:=true} 0 func139 fun Γ an=>ar ?_
 repeat' first|refine af ?_|simp only[c]|refine ag ?_|refine ab ?_ ?_<;>intro h<;>try exact aa|exact al|fail
 all_goals exact bM
theorem afW(l:List UInt8)(b:Int):Spec prog 112 [.v (.string (I l)),.v (.int .u8 b)] (.v (.int .i64 (_b l b.toNat.toUInt8))):=by
 have QU:=QR l b;refine az {} 0 func112 fun Γ an=>ar ?_
 exact SC
theorem Te(c:UInt8)(l:List UInt8):Spec prog 84 [.v (.string (I l)),.v (.string (I [c]))] (.v (.int .i64 (_b l c))):=by
 have q:((c.toNat:Nat):Int).toNat.toUInt8=c:=_k;have f:=QR l (c.toNat:Nat);rw[q]at f;have g:(I [c]).size=1:=rfl;have j:og (I [c]) 0=((c.toNat:Nat):Int):=rfl;by_cases m:I [c]=I l
 .have hl:[c]=l:=dF.1 m;subst hl;refine az {} 0 func84 fun Γ an=>ar ?_
  repeat' first|refine af ?_|simp only[g,j]|refine J f ?_|refine ag ?_|refine ab ?_ ?_<;>intro h<;>try exact aa|exact al|fail
  all_goals(refine cI ?_;first|exact cc|try simp only[cE]at *)
  all_goals first|rfl|rw[show _b [c] c=0 by simp[_b]]
 refine az {} 0 func84 fun Γ an=>ar ?_
 repeat' first|refine af ?_|simp only[g,j]|simp only[m]|refine J f ?_|refine ag ?_|refine ab ?_ ?_<;>intro h<;>try exact aa|exact al|fail
 all_goals exact b0
theorem index_spec(c:UInt8)(l:List UInt8):Spec prog 35 [.v (.string (I l)),.v (.string (I [c]))] (.v (.int .i64 (_b l c))):=by
 have QU:=Te c l;refine az {} 0 func35 fun Γ an=>ar ?_
 exact SC
end Go.Proofs.YtdiobdlinjgakaaGreatDoor
