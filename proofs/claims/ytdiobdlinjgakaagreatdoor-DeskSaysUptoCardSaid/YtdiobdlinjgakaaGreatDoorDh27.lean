import Derived.Test.YtdiobdlinjgakaaGreatDoorDh26
import Derived.Test.YtdiobdlinjgakaaGreatDoorDh24
set_option linter.unusedVariables false
set_option linter.unusedSimpArgs false
set_option maxHeartbeats 8000000
set_option maxRecDepth 100000
open Go.Proofs.Tryz
open Option.some renaming inj->_a
open List renaming getElem?_eq_getElem->_b,drop_drop->_d,mem_of_getElem?->_h,length_map->_i,drop_eq_getElem_cons->_j,set_append_right->_k,set_append_left->_l
open Int renaming toNat_natCast->_c,le_refl->_n
open Nat renaming zero_add->_e,zero_le->_m
open Go.IntWalk renaming i64_in->_f
open Go.IntKind renaming i64->_g
namespace Go.Proofs.YtdiobdlinjgakaaGreatDoor
theorem v_(l:List UInt8)(n i:Nat)(h:i+1<n):ao (l.take n) i=ao l i:=by exact NW
def dL(s:List UInt8):Nat:=(ao s 2).toNat
theorem FF{s:List UInt8}(g:(bC s).2=0):(20<=aA s/\aA s<=60)/\dL s<=s.length/\((au s 9:Nat):Int)=(bC s).1.bx/\(((au s 9:Nat):Int)=6\/((au s 9:Nat):Int)=17)/\aA s+cK (au s 9:Nat)+2<=dL s/\(bC s).1=⟨eh s 12,eh s 16,(au s 9:Nat),ao s (aA s),ao s (aA s+2)⟩/\aA s=4*(au s 0%16):=by
 have f:dc s=0:=by
  refine Decidable.byContradiction fun h=>?_
  unfold bC at g;rw[if_neg h]at g;exact h g
 have b:(jA (cv s)).2=0:=by
  unfold bC at g;rwa[if_pos f]at g
 have z:bC s=jA (cv s):=by unfold bC;rw[if_pos f]
 rw[z];clear g z;unfold dc at f;split at f
 .cases f
 rename_i h1;split at f
 .cases f
 rename_i h2;clear f;have ai:=di s 2;have Z:dL s=(ao s 2).toNat:=rfl;have C:aA s=4*(au s 0%16):=rfl;have m:(cv s).data=(s.drop (aA s)).take (dL s-aA s):=rfl;have Q:(cv s).data.length=dL s-aA s:=by rw[m];simp;omega
 have I:(cv s).bx=(au s 9:Nat):=rfl;have J:(cv s).ax=eh s 12:=rfl;have M:(cv s).to=eh s 16:=rfl;have u:4<=dL s-aA s->ao (cv s).data 0=ao s (aA s)/\ao (cv s).data 2=ao s (aA s+2):=fun q=>by
  rw[m,v_ _ _ _ G,v_ _ _ _ G,EC,EC];exact⟨rfl,rfl⟩
 generalize cv s=p at *;obtain⟨fp,id,h9,mo,start,life,bx,ax,to,opt,data⟩:=p;dsimp only at m Q I J M u;subst I J M;unfold jA at b ⊢;dsimp only at b ⊢;split at b
 .cases b
 rename_i O;rw[if_neg O];split at b
 .cases b
 rename_i U;rw[if_neg U];have X:=Decidable.not_not.1 O;split at b
 .rename_i j;rw[if_pos j];split at b
  .rename_i c;rw[if_pos c];have q:=(Es c).2.2;obtain⟨v,x⟩:=u G;dsimp only;rw[j,v,x];exact⟨G,G,rfl,.inl rfl,by unfold cK;rw[if_neg ae];omega,rfl,C⟩
  rename_i c;exact(c b).elim
 rename_i j;have Y:((au s 9:Nat):Int)=17:=X.resolve_left j;rw[if_neg j];split at b
 .rename_i c;rw[if_pos c];have q:=(M_ c).2.2;obtain⟨v,x⟩:=u G;dsimp only;rw[Y,v,x];exact⟨G,G,rfl,.inr rfl,by unfold cK;rw[if_pos rfl];omega,rfl,C⟩
 rename_i c;exact(c b).elim
theorem KR(A B:List UInt8)(i:Nat)(n:Int)(h:i+1<A.length):c4 (A++B) i n=c4 A i n++B:=by
 unfold c4;rw[_l _ _ G,_l _ _ c7]
theorem KW(A B:List UInt8)(i j:Nat)(n:Int)(h:j=A.length+i):c4 (A++B) j n=A++c4 B i n:=by
 subst h;unfold c4;rw[_k _ _ G,Nat.add_assoc,_k _ _ G];simp
theorem Ge(P b:List UInt8)(i:Nat)(n:Int)(h:P.length=i)(c:2<=b.length):c4 (P++b) i n=P++a1 n++b.drop 2:=by
 rw[KW P b 0 i n G,<-pC b 0 n G];simp
theorem ahW(A:List UInt8)(c a:Int)(h:20<=A.length):A.take 10++a1 c++c_ a++A.drop 16=c4 (c4 (c4 A 10 c) 12 (a/65536)) 14 (a%65536):=by
 rw[<-pC A 10 c G,Ge (A.take 10++a1 c) (A.drop (10+2)) 12 _ Gf c7,Ge (A.take 10++a1 c++a1 (a/65536)) ((A.drop (10+2)).drop 2) 14 _ Gf c7,Eg,_d,_d];unfold c_;exact Kz
theorem ajk(A:List UInt8)(c a:Int)(h:20<=A.length):A.take 10++a1 c++(A.drop 12).take 4++c_ a++A.drop 20=c4 (c4 (c4 A 10 c) 16 (a/65536)) 18 (a%65536):=by
 have e:A.drop (10+2)=(A.drop 12).take 4++A.drop 16:=by conv=>lhs;rw[<-List.take_append_drop 4 (A.drop (10+2)),_d]
 conv=>rhs;rw[<-pC A 10 c G,e,<-List.append_assoc,Ge (A.take 10++a1 c++(A.drop 12).take 4) (A.drop 16) 16 _ Gf c7,Ge (A.take 10++a1 c++(A.drop 12).take 4++a1 (a/65536)) ((A.drop 16).drop 2) 18 _ Gf c7,Eg,_d,_d]
 unfold c_;exact Kz
theorem Pa(s:List UInt8)(h j:Nat)(p a g:Int)(b off L:Nat)(f c:List UInt8)(m:f=s.take h)(q:c=(s.drop h).take (L-h))(u:j=cK p)(x:20<=h)(hl:h+cK p+2<=L)(z:L<=s.length)(C:(b=12/\off=0)\/(b=16/\off=2)):
 c4 (c4 (c4 f 10 (ln s a b)) b (a/65536)) (b+2) (a%65536)++c4 (c4 c off g) j (ve s h p a g b off)=(sP s h p a g b off).take L:=by
 have I:6<=cK p:=y0;have J:f.length=h:=by rw[m];simp;omega
 have v:s.take L=f++c:=by
  rw[m,q];conv=>lhs;rw[show L=h+(L-h)from G,List.take_add]
 unfold sP;simp only[afR];rw[v,KR f c 10 _ G,KR _ c b _ w9,KR _ c (b+2) _ w9,KW _ c off _ _ w9,KW _ _ (cK p) _ _ w9,u]
attribute [local irreducible] bc Go
abbrev jC(b:bj)(d:O)(f:ew)(t:List UInt8)(now:Int):List O:=[.v (.int .u32 b.p.ou),.v (.int .i64 b.p.lt),.v (.int .i64 b.p.st),.v (.int .i64 b.p.lf),.v (.int .i64 b.p.ra),.v (.int .i64 b.p.mo),.snap 10 (b.p.rs.map R.bN.enc) false,.v (.bool b.p.el),d,.snap 7 (b.tr.map T.aE.enc) false,
 .v (.int .i64 b.n.l),.v (.int .i64 b.n.ah),.v (.int .u64 (b.n.t1:Int)),.v (.int .i64 b.n.ai),.v (.int .u64 (b.n.t2:Int)),.snap 5 (b.n.ms.map A.Mp.enc) false,.v (.int .u32 f.ax),.v (.int .u32 f.to),.v (.int .i64 f.bx),.v (.int .i64 f.bZ),.v (.int .i64 f.b2),.v (.string (I t)),.v (.int .i64 now)]
theorem Ft{g q v c j b len:Nat}{m:List Nat}(u:bj)(f:ew)(t:List UInt8)(now:Int)(h:ny g m q j b):jX g m q (jC u (.aG v j 5 0 len false) f t now) (jC u (.aG c b 5 0 len false) f t now):=
 ⟨⟨rfl,trivial⟩,⟨rfl,trivial⟩,⟨rfl,trivial⟩,⟨rfl,trivial⟩,⟨rfl,trivial⟩,⟨rfl,trivial⟩,⟨rfl,u2 _ _⟩,⟨rfl,trivial⟩,⟨c,b,h,rfl⟩,⟨rfl,Bn _ _⟩,⟨rfl,trivial⟩,⟨rfl,trivial⟩,⟨rfl,trivial⟩,⟨rfl,trivial⟩,⟨rfl,trivial⟩,⟨rfl,A.kl _ _⟩,⟨rfl,trivial⟩,⟨rfl,trivial⟩,⟨rfl,trivial⟩,⟨rfl,trivial⟩,⟨rfl,trivial⟩,⟨rfl,trivial⟩,⟨rfl,trivial⟩,rfl⟩
theorem ak9(l:List aZ)(i j:Nat)(b:i<=j)(c:j<=l.length)(hl:l.length<=maxLen)(n:Nat):b1 prog 255 [.aG 0 n 5 0 l.length false,.v (.int .i64 i),.v (.int .i64 j)] [some ⟨n,5,l.map aZ.enc⟩] (fun d H=>d=.aG 0 n 5 0 (l.take i++l.drop j).length false/\H=[some ⟨n,5,(l.take i++l.drop j).map aZ.enc⟩]):=by
 have yo:∀r:List aZ,eW (r.map aZ.enc)=true:=j2 (fun x=>rfl);have JB:cp (cC (l.map aZ.enc) j) ((l.length:Int)-j).toNat=(l.drop j).map aZ.enc:=zl;have fa:(cp (l.map aZ.enc) i++((l.drop j).map aZ.enc++cC (l.map aZ.enc) (i+(l.length-j)))).length=l.length:=FP;unfold maxLen at hl;refine ej {inpl:=true} 1 func255 fun Γ cT f=>ar ?_
 exact HV
theorem Y4(k:Nat)(l:List aZ)(i j:Nat)(b:i<=j)(c:j<=l.length)(hl:l.length<=maxLen)(n:Nat):b1 prog 255 [.aG k n 5 0 l.length false,.v (.int .i64 i),.v (.int .i64 j)] [some ⟨n,5,l.map aZ.enc⟩] (fun d H=>d=.aG k n 5 0 (l.take i++l.drop j).length false/\H=[some ⟨n,5,(l.take i++l.drop j).map aZ.enc⟩]):=
 jw k (xp (ak9 l i j b c hl n) (fun _ _ _=>o9))
def p4(a:Int)(b:aZ)(now n:Int):aZ:=⟨a,b.ra,b.mo,B.mB b.ra b.mo b.aj b.tm now n,now⟩
def qx(b:aZ)(now n:Int):Bool:=decide (n<=B.gI b.ra b.mo b.aj b.tm now)
abbrev G9(b:bj)(f:ew)(t:List UInt8)(now:Int)(n q:Nat)(l:List aZ):aV:=[some ⟨n,23,[jC b (.aG 4 q 5 0 l.length false) f t now]⟩,none,some ⟨q,5,l.map aZ.enc⟩]
theorem adL(aC:bj)(f:ew)(t:List UInt8)(now:Int)(hl:aC.ms.length<=maxLen)(i:Nat)(t0:aZ)(m:aC.ms[i]?=some t0)(z:bU (fun c:aZ=>decide (c.ad=f.ax)) aC.ms 0=i)(Q:aC.ms.length<=64)(bu:B.j0 t0.ra t0.mo t0.aj t0.tm now (t.length:Nat)=0)(n c:Nat):
 fi prog 218 [.ptr 0 n 23 0 0] [some ⟨n,23,[jC aC (.aG 1 c 5 0 aC.ms.length false) f t now]⟩,some ⟨c,5,aC.ms.map aZ.enc⟩] 1 (fun q d H=>d=.v (.bool (qx t0 now (t.length:Nat)))/\H=G9 aC f t now n q (aC.ms.take i++aC.ms.drop (i+1)++[p4 f.ax t0 now (t.length:Nat)])):=by
 have aN:=(List.getElem?_eq_some_iff.1 m).1;have C:=vs m;have I:=Y4 1 aC.ms i (i+1) G G hl c;have M:_g.wrap ((i:Int)+1)=((i+1:Nat):Int):=(_f _ (by unfold maxLen at hl;omega)).trans G;have U:(aC.ms.take i++aC.ms.drop (i+1)).length<=64:=c7;generalize aC.ms.take i++aC.ms.drop (i+1)=g at *;have X:(aC.ms.map aZ.enc).length=aC.ms.length:=_i _;have O:Spec prog 256 [B.hX t0.ra t0.mo t0.aj t0.tm,.v (.int .i64 now),.v (.int .i64 (t.length:Nat))] (.aS [B.hX t0.ra t0.mo (B.mB t0.ra t0.mo t0.aj t0.tm now (t.length:Nat)) now,.v (.bool (decide ((t.length:Int)<=B.gI t0.ra t0.mo t0.aj t0.tm now))),.v (.int .i64 0)]):=by exact M1
 have u:=AJ rfl (Eu aC f.ax hl) 1 c;rw[z]at u;unfold p4 qx;generalize B.mB t0.ra t0.mo t0.aj t0.tm now (t.length:Nat)=j at *;generalize B.gI t0.ra t0.mo t0.aj t0.tm now=Y at *;refine h0 {} 2 func218 fun Γ x Z=>ar ?_
 have bd:=x 0 _ rfl;have ac:=x 1 _ rfl;repeat' first|refine af ?_|(with_reducible refine aL 216 ?_);(refine aX [1] ae rfl rfl u ?_)|refine J O ?_|(with_reducible refine bE 1 ?_ I (fun _ _ _ h=>h) ?_);(exact rfl)|refine ag ?_|refine ab ?_ ?_<;>intro h<;>try exact aa|simp only[_c,_e,aU,C,M]|refine aK ⟨wR,aH⟩ ?_|exact al|fail
 have a_:g.map aZ.enc++[aZ.enc ⟨f.ax,t0.ra,t0.mo,j,now⟩]=(g++[(⟨f.ax,t0.ra,t0.mo,j,now⟩:aZ)]).map aZ.enc:=nu;have a8:(g.map aZ.enc).length+1=(g++[(⟨f.ax,t0.ra,t0.mo,j,now⟩:aZ)]).length:=aF;exact IW
theorem abl(aC:bj)(f:ew)(t:List UInt8)(now:Int)(hl:aC.ms.length<=maxLen)(t0:aZ)(z:t0.ra=aC.p.ra)(C:t0.mo=aC.p.mo)(I:t0.aj=aC.p.mo)(M:t0.tm=now)(O:bU (fun c:aZ=>decide (c.ad=f.ax)) aC.ms 0 = -1)(U:aC.ms.length=64)(bu:B.j0 t0.ra t0.mo t0.aj t0.tm now (t.length:Nat)=0)(n c:Nat):
 fi prog 218 [.ptr 0 n 23 0 0] [some ⟨n,23,[jC aC (.aG 1 c 5 0 aC.ms.length false) f t now]⟩,some ⟨c,5,aC.ms.map aZ.enc⟩] 1 (fun q d H=>d=.v (.bool (qx t0 now (t.length:Nat)))/\H=G9 aC f t now n q (aC.ms.drop 1++[p4 f.ax t0 now (t.length:Nat)])):=by
 have aN:True:=trivial;have Q:b1 prog 255 [.aG 1 c 5 0 aC.ms.length false,.v (.int .i64 0),.v (.int .i64 1)] [some ⟨c,5,aC.ms.map aZ.enc⟩] (fun d H=>d=.aG 1 c 5 0 (aC.ms.drop 1).length false/\H=[some ⟨c,5,(aC.ms.drop 1).map aZ.enc⟩]):=Y4 1 aC.ms 0 1 G G hl c;have X:(aC.ms.drop 1).length<=64:=c7;generalize aC.ms.drop 1=g at *;have Y:(aC.ms.map aZ.enc).length=aC.ms.length:=_i _;have m:Spec prog 256 [B.hX t0.ra t0.mo t0.aj t0.tm,.v (.int .i64 now),.v (.int .i64 (t.length:Nat))] (.aS [B.hX t0.ra t0.mo (B.mB t0.ra t0.mo t0.aj t0.tm now (t.length:Nat)) now,.v (.bool (decide ((t.length:Int)<=B.gI t0.ra t0.mo t0.aj t0.tm now))),.v (.int .i64 0)]):=by exact M1
 have u:=AJ rfl (Eu aC f.ax hl) 1 c;rw[O]at u;unfold p4 qx;generalize B.mB t0.ra t0.mo t0.aj t0.tm now (t.length:Nat)=j at *;generalize B.gI t0.ra t0.mo t0.aj t0.tm now=Z at *;simp only[z,C,I,M]at m⊢;refine h0 {} 2 func218 fun Γ x ac=>ar ?_
 have bd:=x 0 _ rfl;have ah:=x 1 _ rfl;repeat' first|refine af ?_|(with_reducible refine aL 216 ?_);(refine aX [1] ae rfl rfl u ?_)|refine J m ?_|(with_reducible refine bE 1 ?_ Q (fun _ _ _ h=>h) ?_);(exact rfl)|refine ag ?_|refine ab ?_ ?_<;>intro h<;>try exact aa|simp only[_c,_e,aU,aN]|refine aK ⟨wR,aH⟩ ?_|exact al|fail
 have a_:g.map aZ.enc++[aZ.enc ⟨f.ax,aC.p.ra,aC.p.mo,j,now⟩]=(g++[(⟨f.ax,aC.p.ra,aC.p.mo,j,now⟩:aZ)]).map aZ.enc:=nu;have a8:(g.map aZ.enc).length+1=(g++[(⟨f.ax,aC.p.ra,aC.p.mo,j,now⟩:aZ)]).length:=aF;exact IW
theorem ael(aC:bj)(f:ew)(t:List UInt8)(now:Int)(hl:aC.ms.length<=maxLen)(t0:aZ)(x:t0.ra=aC.p.ra)(z:t0.mo=aC.p.mo)(C:t0.aj=aC.p.mo)(I:t0.tm=now)(M:bU (fun c:aZ=>decide (c.ad=f.ax)) aC.ms 0 = -1)(Q:aC.ms.length<64)(bu:B.j0 t0.ra t0.mo t0.aj t0.tm now (t.length:Nat)=0)(n c:Nat):
 fi prog 218 [.ptr 0 n 23 0 0] [some ⟨n,23,[jC aC (.aG 1 c 5 0 aC.ms.length false) f t now]⟩,some ⟨c,5,aC.ms.map aZ.enc⟩] 1 (fun q d H=>d=.v (.bool (qx t0 now (t.length:Nat)))/\H=G9 aC f t now n q (aC.ms++[p4 f.ax t0 now (t.length:Nat)])):=by
 have aN:True:=trivial;have O:True:=trivial;have U:aC.ms.length<=64:=G;have X:(aC.ms.map aZ.enc).length=aC.ms.length:=_i _;have j:Spec prog 256 [B.hX t0.ra t0.mo t0.aj t0.tm,.v (.int .i64 now),.v (.int .i64 (t.length:Nat))] (.aS [B.hX t0.ra t0.mo (B.mB t0.ra t0.mo t0.aj t0.tm now (t.length:Nat)) now,.v (.bool (decide ((t.length:Int)<=B.gI t0.ra t0.mo t0.aj t0.tm now))),.v (.int .i64 0)]):=by exact M1
 have m:=AJ rfl (Eu aC f.ax hl) 1 c;rw[M]at m;unfold p4 qx;generalize B.mB t0.ra t0.mo t0.aj t0.tm now (t.length:Nat)=g at *;generalize B.gI t0.ra t0.mo t0.aj t0.tm now=Y at *;simp only[x,z,C,I]at j⊢;refine h0 {} 2 func218 fun Γ u Z=>ar ?_
 have bd:=u 0 _ rfl;have ac:=u 1 _ rfl;repeat' first|refine af ?_|(with_reducible refine aL 216 ?_);(refine aX [1] ae rfl rfl m ?_)|refine J j ?_|(with_reducible refine bE 1 ?_ O (fun _ _ _ h=>h) ?_);(exact rfl)|refine ag ?_|refine ab ?_ ?_<;>intro h<;>try exact aa|simp only[_c,_e,aU,aN]|refine aK ⟨wR,aH⟩ ?_|exact al|fail
 have a_:aC.ms.map aZ.enc++[aZ.enc ⟨f.ax,aC.p.ra,aC.p.mo,g,now⟩]=(aC.ms++[(⟨f.ax,aC.p.ra,aC.p.mo,g,now⟩:aZ)]).map aZ.enc:=nu;have a8:(aC.ms.map aZ.enc).length+1=(aC.ms++[(⟨f.ax,aC.p.ra,aC.p.mo,g,now⟩:aZ)]).length:=aF;exact IW
end Go.Proofs.YtdiobdlinjgakaaGreatDoor
namespace Go.Proofs.YtdiobdlinjgakaaGreatDoor.T
def iz(l:List aE)(a b c d now:Int):Bool:=decide (pF l now=0)&&l.any (fun t=>t.along a b c d && !t.cn now)
theorem agq(l:List aE)(a b c d now:Int):∃(t:aE)(e:Int),Spec prog 271 [.snap 7 (l.map aE.enc) false,gz a b c d,.v (.int .i64 now)] (.aS [hs t.a t.b t.c t.d t.s t.o t.x,.v (.bool (iz l a b c d now)),.v (.int .i64 e)]):=by
 by_cases f:pF l now=0
 .have m:iz l a b c d now=l.any (fun t=>t.along a b c d && !t.cn now):=by unfold iz;rw[decide_eq_true f,Bool.true_and]
  rcases oz (fun t:aE=>t.along a b c d) l 0 with⟨h1,h2⟩|⟨i,t,h1,h2,J,z⟩
  .have e:iz l a b c d now=false:=by
    rw[m,List.any_eq_false];intro x C;simp[h2 x C]
   rw[e];exact⟨⟨0,0,0,0,0,0,0⟩,0,alQ l a b c d now f h2⟩
  have G:=(gX (show et l=0 from J6)).2;have e:iz l a b c d now = !t.cn now:=by
   rw[m,Bool.eq_iff_iff,List.any_eq_true];constructor
   .rintro⟨y,I,g⟩;rw[Bool.and_eq_true]at g;obtain⟨j,q⟩:=List.mem_iff_getElem?.1 I;obtain rfl:=alX G h1 q h2 g.1;rw[_a (h1.symm.trans q)];exact g.2
   intro g;exact⟨t,_h h1,by rw[h2,g];rfl⟩
  rw[e];have aj:=akv l a b c d now f i t h1 (by rw[z];omega);cases u:t.cn now with
  |true=>rw[u,if_pos rfl]at aj;exact⟨⟨0,0,0,0,0,0,0⟩,0,aj⟩
  |false=>rw[u,if_neg aF]at aj;exact⟨t,0,aj⟩
 have e:iz l a b c d now=false:=by unfold iz;rw[decide_eq_false f,Bool.false_and]
 rw[e];exact⟨⟨0,0,0,0,0,0,0⟩,_,ab4 l a b c d now f⟩
def qz(l:List aE)(a b c d aM now:Int):List aE×Bool×Int:=
 if et l≠0 then(l,false,et l)else if j7 l a b c d aM now=false then(l,false,1)else
 match decide (0<=bU (fun t:aE=>t.along a b c d) (av l now) 0),(av l now)[(bU (fun t:aE=>t.along a b c d) (av l now) 0).toNat]? with
 |true,some t=>jn l a b c d now (decide (aM.toNat/2%2=1)) (decide (aM.toNat/16%2=1)) (decide (aM.toNat%2=1)) (decide (aM.toNat/4%2=1)) (bU (fun t:aE=>t.along a b c d) (av l now) 0).toNat t
 |_,_=>nS l a b c d now (decide (aM.toNat/2%2=1)) (decide (aM.toNat/16%2=1)) (decide (aM.toNat%2=1)) (decide (aM.toNat/4%2=1))
theorem L4{l:List aE}{a b c d aM now:Int}{Q:List aE×Bool×Int->Prop}(h1:et l≠0->Q (l,false,et l))(h2:et l=0->j7 l a b c d aM now=false->Q (l,false,1))
 (z:∀j bo m q,et l=0->j7 l a b c d aM now=true->na aM j bo m q->bU (fun t:aE=>t.along a b c d) (av l now) 0 = -1->Q (nS l a b c d now j bo m q))
 (C:∀j bo m q (i:Nat) (t:aE),et l=0->j7 l a b c d aM now=true->na aM j bo m q->(av l now)[i]?=some t->bU (fun t:aE=>t.along a b c d) (av l now) 0=i->Q (jn l a b c d now j bo m q i t)):Q (qz l a b c d aM now):=by
 unfold qz;by_cases f:et l=0
 .rw[if_neg (not_not_intro f)];cases g:j7 l a b c d aM now with
  |false=>rw[if_pos rfl];exact h2 f g
  |true=>
   rw[if_neg aF];have J:0<=aM/\aM<=255:=by unfold j7 at g;rw[Bool.and_eq_true,decide_eq_true_eq]at g;exact g.2.1
   have x:na aM (decide (aM.toNat/2%2=1)) (decide (aM.toNat/16%2=1)) (decide (aM.toNat%2=1)) (decide (aM.toNat/4%2=1)):=by
    have:=ab3 ⟨aM.toNat,G⟩;rw[show(((⟨aM.toNat,G⟩:Fin 256).val:Nat):Int)=aM from c7]at this;exact this
   rcases oz (fun t:aE=>t.along a b c d) (av l now) 0 with⟨u,I⟩|⟨i,t,u,I,M,v⟩
   .rw[u,show decide (0<=(-1:Int))=false from rfl];cases(av l now)[((-1:Int)).toNat]?<;>exact z _ _ _ _ f g x u
   rw[_e]at v;rw[v,_c,u,decide_eq_true (Int.natCast_nonneg i)];exact C _ _ _ _ i t f g x u v
 rw[if_pos f];exact h1 f
theorem E9(l:List aE)(a b c d aM now:Int)(f:cx l.length 48):Spec prog 275 [.snap 7 (l.map aE.enc) false,gz a b c d,.v (.int .i64 aM),.v (.int .i64 now)] (ec (qz l a b c d aM now)):=
 L4 (Q:=fun r=>Spec prog 275 [.snap 7 (l.map aE.enc) false,gz a b c d,.v (.int .i64 aM),.v (.int .i64 now)] (ec r)) (fun h=>aj_ l a b c d aM now f h) (fun h z=>akH l a b c d aM now f h z)
  (fun g j m q h1 h2 u x=>agi l a b c d aM now f h1 h2 g j m q u x) (fun g j m q i t h1 h2 u x C=>afC l a b c d aM now f h1 h2 g j m q u i t x C)
end Go.Proofs.YtdiobdlinjgakaaGreatDoor.T
namespace Go.Proofs.YtdiobdlinjgakaaGreatDoor
attribute [local irreducible] bc Go
abbrev tI(b:bj)(l:List aZ)(f:ew)(t:List UInt8)(now:Int)(c n q:Nat):aV:=[some ⟨n,23,[jC b (.aG c q 5 0 l.length false) f t now]⟩,some ⟨q,5,l.map aZ.enc⟩]
theorem J9{g b q len:Nat}(c:bj)(f:ew)(t:List UInt8)(now:Int)(h:q<g):c1 g [jC c (.aG b q 5 0 len false) f t now]:=⟨⟨trivial,trivial,trivial,trivial,trivial,trivial,u2 _ _,trivial,h,Bn _ _,trivial,trivial,trivial,trivial,trivial,A.kl _ _,trivial,trivial,trivial,trivial,trivial,trivial,trivial,trivial⟩,trivial⟩
theorem Qm(g:bj)(l:List aZ)(f:ew)(t:List UInt8)(now a b c e:Int)(j n q:Nat):b1 prog 257 [.ptr 0 n 23 0 0,T.gz a b c e] (tI g l f t now j n q) (fun D H=>D=.v (.bool (T.iz g.tr a b c e now))/\H=tI g l f t now j n q):=by
 obtain⟨y,x,u⟩:=T.agq g.tr a b c e now;generalize T.iz g.tr a b c e now=B at *;refine ej {} 2 func257 fun Γ m z=>ar ?_
 have bd:n<Γ.g0:=m 0 _ rfl;have bg:q<Γ.g0:=m 1 _ rfl;repeat' first|refine af ?_|refine J u ?_|refine ag ?_|refine ab ?_ ?_<;>intro h<;>try exact aa|exact al|fail
 exact J0
def mE(t:List UInt8):Int:=(dM (dP t).1.data (dP t).1.ax (dP t).1.to).1.flags
def ll(l:List T.aE)(a b c d aM now:Int):List T.aE×Bool:=if(T.qz l a b c d aM now).2.2=0 then((T.qz l a b c d aM now).1,(T.qz l a b c d aM now).2.1)else(l,false)
theorem adX(t:List UInt8)(b:t.length<=140737488351232):(0<=(dP t).1.ax/\(dP t).1.ax<4294967296)/\(0<=(dP t).1.to/\(dP t).1.to<4294967296)/\(dP t).1.data.length<=140737488351232:=by
 unfold dP;split
 .refine⟨nN _ _,nN _ _,?_⟩;show((t.drop (aA t)).take _).length<=_;rw[List.length_take,List.length_drop];omega
 exact⟨⟨_n _,(ae:(0:Int)<4294967296)⟩,⟨_n _,(ae:(0:Int)<4294967296)⟩,_m _⟩
theorem RO(g:bj)(C:cx g.tr.length 48)(l:List aZ)(f:ew)(t:List UInt8)(m:t.length<=140737488351232)(now a b c e:Int)(u n q:Nat):b1 prog 259 [.ptr 0 n 23 0 0,T.gz a b c e] (tI g l f t now u n q) (fun D H=>D=.v (.bool (ll g.tr a b c e (mE t) now).2)/\H=tI {g with tr:=(ll g.tr a b c e (mE t) now).1} l f t now u n q):=by
 have h1:=J2 t m;obtain⟨ah,ai,G⟩:=adX t m;have h2:=SO (dP t).1.data (dP t).1.ax (dP t).1.to ah ai G;have x:=T.E9 g.tr a b c e (mE t) now C;unfold ll;unfold mE at *;generalize dM (dP t).1.data (dP t).1.ax (dP t).1.to=I at *;generalize dP t=P at *;obtain⟨⟨U,X,Y,Z,M,ac,ae,aj,ak⟩,am⟩:=I;obtain⟨⟨fp,id,h9,mo,start,life,bx,ax,to,opt,data⟩,ki⟩:=P;dsimp only at *;generalize T.qz g.tr a b c e M now=R at *;obtain⟨aw,aY,O⟩:=R;dsimp only at *;by_cases z:O=0
 .subst z;rw[if_pos rfl];refine ej {} 2 func259 fun Γ j Q=>ar ?_
  have bd:n<Γ.g0:=j 0 _ rfl;have bg:q<Γ.g0:=j 1 _ rfl;repeat' first|refine af ?_|refine J h1 ?_|refine J h2 ?_|refine J x ?_|refine ag ?_|refine ab ?_ ?_<;>intro h<;>try exact aa|exact al|fail
  exact J0
 rw[if_neg z];refine ej {} 2 func259 fun Γ j Q=>ar ?_
 have bd:n<Γ.g0:=j 0 _ rfl;have bg:q<Γ.g0:=j 1 _ rfl;repeat' first|refine af ?_|refine J h1 ?_|refine J h2 ?_|refine J x ?_|refine ag ?_|refine ab ?_ ?_<;>intro h<;>try exact aa|exact al|fail
 all_goals try (exfalso;simp_all;done)
 exact J0
theorem aiN(c:Int)(l:List Int)(Q:Bool)(n:Nat)(ao:l.length%2=0)(hl:l.length<=1000)(C:∀x∈l,0<=x/\x<=65535)(U:0<=c/\c<=65535):b1 prog 186 [.v (.int .i64 c),.aG 0 n 1 0 l.length Q] [some ⟨n,1,l.map fx⟩] (fun d H=>d=.v (.int .i64 (hS c l))/\H=[some ⟨n,1,l.map fx⟩]):=by
 refine ej {} 0 func186 fun Γ X ap=>ar ?_
 have bd:n<Γ.g0:=X 0 _ rfl;repeat' first|refine af ?_|refine ag ?_|refine ab ?_ ?_<;>intro h<;>try exact aa|fail
 refine bS (α:=Nat×Int) (fun x=>[(⟨.d0,.d0,.d5⟩,.v (.int .i64 (x.1:Nat))),(⟨.d0,.d0,.d0⟩,.v (.int .i64 x.2))]) (fun _=>[]) (fun _=>Γ.g0) (fun x=>l.length-x.1) (fun x=>x.1%2=0/\x.1<=l.length/\(0<=x.2/\x.2<=65535)/\hS x.2 (l.drop x.1)=hS c l) (0,c) ⟨rfl,_m _,U,rfl⟩ ?_ ?_
 .exact bs
 rintro⟨i,x⟩ ⟨Y,Z,I,f⟩;dsimp only at Y Z I f⊢;refine bz ?_;by_cases g:i<l.length
 .have j:i+1<l.length:=by omega
  obtain⟨o,m⟩:∃o,l[i]?=some o:=⟨_,_b g⟩;obtain⟨w,u⟩:∃w,l[i+1]?=some w:=⟨_,_b j⟩;have ac:=h7 fx l i o m;have tq:=h7 fx l (i+1) w u;have fh:=C o (_h m);have z:=C w (_h u);have ae:l.drop i=o::w::l.drop (i+2):=by
   rw[_j g,_j j];congr 1
   .exact _a ((_b g).symm.trans m)
   congr 1
   exact _a ((_b j).symm.trans u)
  rw[ae,hS]at f;have M:=uK x o w I.2 fh.2 z.1;have ah:_g.wrap (65535-x)=65535-x:=_f _ G;have ai:_g.wrap (65535-o)=65535-o:=_f _ G;have aj:=kc (65535-x+(65535-o)) G;have ak:=BW (65535-x) (65535-o) G G;have O:=BW (ck (65535-x+(65535-o))) w aj z;rw[DN _ _ G z.1]at O;have am:_g.wrap (65535-ck (65535-x+(65535-o)+w))=kk x o w:=_f _ (by unfold kk at M;omega);have an:_g.wrap ((i:Int)+1)=((i+1:Nat):Int):=er;repeat' first|refine af ?_|simp only[an,_c,_e,ac,tq]|simp only[ah,ai]|simp only[am]|refine J ak ?_|refine J O ?_|refine ag ?_|refine ab ?_ ?_<;>intro h<;>try exact aa|exact al|fail
  refine br ⟨(i+2,kk x o w),⟨iS,iS,M,f⟩,iS,?_⟩;exact jJ
 obtain rfl:i=l.length:=G;rw[List.drop_length,hS]at f
 .rw[<-f];exact RS
 intro o n r q;cases q
theorem Zr(c:Int)(l:List Int)(f:Bool)(k n:Nat)(g:l.length%2=0)(hl:l.length<=1000)(j:∀x∈l,0<=x/\x<=65535)(m:0<=c/\c<=65535):b1 prog 186 [.v (.int .i64 c),.aG k n 1 0 l.length f] [some ⟨n,1,l.map fx⟩] (fun d H=>d=.v (.int .i64 (hS c l))/\H=[some ⟨n,1,l.map fx⟩]):=by
 refine vg (aiN c l f n g hl j m) (fun K w q b=>aie b rfl (fun i d e h1 h2 v b=>?_));match i,h1,h2 with
 |0,h1,h2=>
  obtain rfl:=_a h1;obtain rfl:=_a h2;exact b
 |1,h1,h2=>
  obtain rfl:=_a h1;obtain rfl:=_a h2;exact o9 b
 |i+2,h1,_=>simp at h1
theorem N7(c b f g j:Int)(m:Bool)(k n:Nat)(q:∀x∈[b,f,g,j],0<=x/\x<=65535)(u:0<=c/\c<=65535):b1 prog 186 [.v (.int .i64 c),.aG k n 1 0 4 m] [some ⟨n,1,[[.v (.int .i64 b)],[.v (.int .i64 f)],[.v (.int .i64 g)],[.v (.int .i64 j)]]⟩] (fun d H=>d=.v (.int .i64 (hS c [b,f,g,j]))/\H=[some ⟨n,1,[[.v (.int .i64 b)],[.v (.int .i64 f)],[.v (.int .i64 g)],[.v (.int .i64 j)]]⟩]):=
 Zr c [b,f,g,j] m k n (show 4%2=0 from ae) (show 4<=1000 from ae) q u
theorem T3(c b f g j m q:Int)(u:Bool)(k n:Nat)(z:∀x∈[b,f,g,j,m,q],0<=x/\x<=65535)(C:0<=c/\c<=65535):b1 prog 186 [.v (.int .i64 c),.aG k n 1 0 6 u] [some ⟨n,1,[[.v (.int .i64 b)],[.v (.int .i64 f)],[.v (.int .i64 g)],[.v (.int .i64 j)],[.v (.int .i64 m)],[.v (.int .i64 q)]]⟩] (fun d H=>d=.v (.int .i64 (hS c [b,f,g,j,m,q]))/\H=[some ⟨n,1,[[.v (.int .i64 b)],[.v (.int .i64 f)],[.v (.int .i64 g)],[.v (.int .i64 j)],[.v (.int .i64 m)],[.v (.int .i64 q)]]⟩]):=
 Zr c [b,f,g,j,m,q] u k n (show 6%2=0 from ae) (show 6<=1000 from ae) z C
def fW(s:List UInt8)(a b:Int)(c off:Nat):List UInt8×Int:=
 if¬(bC s).2=0 then([],(bC s).2)
 else if¬(0<=b/\b<=65535)then([],1)
 else((sP s (aA s) (au s 9:Nat) a b c off).take (dL s),0)
theorem D2(l:List UInt8)(j:Nat):(I l).extract 0 j=I (l.take j):=r9
theorem Sm(l:List UInt8)(i:Nat):(I l).extract i l.length=I (l.drop i):=qy
theorem N8(s:List UInt8)(a c:Int)(ax:Bool)(aj:s.length<=140737488351232)(j:¬(bC s).2=0\/¬(0<=c/\c<=65535))(g off:Nat):Spec prog 133 [.v (.string (I s)),.v (.int .u32 a),.v (.int .i64 c),.v (.bool ax)] (.aS [.v (.string (I (fW s a c g off).1)),.v (.int .i64 (fW s a c g off).2)]):=by
 have bu:=x1 s aj;by_cases h1:(bC s).2=0;rotate_left
 .have e:fW s a c g off=([],(bC s).2):=by unfold fW;rw[if_pos h1]
  rw[e];clear e j;generalize bC s=r at *;obtain⟨f,e⟩:=r;dsimp only at *;exact N1
 have bI:=j.resolve_left (not_not_intro h1);have e:fW s a c g off=([],1):=Ob;rw[e];clear e j;generalize bC s=r at *;obtain⟨f,e⟩:=r;dsimp only at *;subst h1;exact N1
end Go.Proofs.YtdiobdlinjgakaaGreatDoor
