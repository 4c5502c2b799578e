import Derived.Test.YtdiobdlinjgakaaGreatDoorDh21
set_option linter.unusedVariables false
set_option linter.unusedSimpArgs false
set_option maxHeartbeats 8000000
set_option maxRecDepth 100000
open Go.Proofs.Tryz
open ByteArray renaming mk->_a
open Option.some renaming inj->_b
open List renaming getElem?_eq_getElem->_c
open Nat renaming sub_lt_sub_left->_d,le_trans->_e,lt_succ_self->_g,zero_le->_h
open Int renaming toNat_natCast->_f
namespace Go.Proofs.YtdiobdlinjgakaaGreatDoor.R
attribute [local irreducible] bc Go
theorem Zl{tm:bQ}{du j g k len:Nat}{m q u v x z b:O}{rows:List (List O)}{T:aV}:fP ⟨tm,some ⟨du,8,[[m,q,u,v,x,z,.aG k j 10 0 len false,b]]⟩::some ⟨j,10,rows⟩::T,g⟩ ⟨tm,some ⟨du,8,[[m,q,u,v,x,z,.aG k g 10 0 len false,b]]⟩::some ⟨g,10,rows⟩::T,g+1⟩:=by
 refine T9 (st:=⟨tm,some ⟨du,8,[[m,q,u,v,x,z,.aG k j 10 0 len false,b]]⟩::some ⟨j,10,rows⟩::T,g⟩) (fun _=>j) 1 (fun i p c=>?_);match i,c with
 |0,c=>
  refine⟨_,rfl,.inr ?_⟩;obtain rfl:=_b c;refine⟨.inl rfl,by show 0<8;omega,rfl,rfl,fun i y f=>?_⟩;match i,f with
  |0,f=>
   obtain rfl:=_b f;refine⟨_,rfl,rfl,fun t e bu=>?_⟩;match t,bu with
   |6,bu=>
    obtain rfl:=_b bu;exact⟨_,rfl,.inr ⟨0,_,_,_,_,_,_,G,rfl,rfl⟩⟩
   |0,bu=>exact te
   |1,bu=>exact te
   |2,bu=>exact te
   |3,bu=>exact te
   |4,bu=>exact te
   |5,bu=>exact te
   |7,bu=>exact te
   |t+8,bu=>simp at bu
  |i+1,f=>simp at f
 |1,c=>
  refine⟨_,rfl,.inr ?_⟩;obtain rfl:=_b c;exact⟨.inr ⟨0,G,rfl,rfl⟩,by show 0<10;omega,rfl,rfl,fun i y f=>⟨y,f,rfl,fun t e bu=>⟨e,bu,.inl rfl⟩⟩⟩
 |i+2,c=>exact⟨p,c,.inl rfl⟩
theorem AB(n:Nat):decide ((0:Int)<((n:Nat):Int))=decide (0<n):=aF
theorem fM(l:List ak):(bk (l.map I)).length=l.length:=lD
abbrev s4(du b:Nat)(p:b6):aR:=⟨du,8,[p.enc (.aG 1 b 10 0 p.rs.length false)]⟩
abbrev xF(b:Nat)(p:b6):aR:=⟨b,10,p.rs.map bN.enc⟩
def Jp(t:dT):dT:=(t.1,fN t)
abbrev nA(du c b:Nat)(p:b6)(w0:ak)(r:List ak):Prop:=fi prog 150 [.ptr 0 du 8 0 0,.ptr 2 b 2 0 0] [some (s4 du c p),some (xF c p),some (hU b (w0::r,false))] 1
 (fun f d H=>d=.v (.string (I w0))/\H=[some (s4 du f (eU p w0 (r,false)).1),none,some (hU b (Jp (eU p w0 (r,false)).2)),some (xF f (eU p w0 (r,false)).1)])
theorem wi(b:Nat)(w0:ak)(r:List ak):b1 prog 196 [.ptr 0 b 2 0 0] [some (hU b (w0::r,false))] (fun d H=>d=.v (.string (I w0))/\H=[some (hU b (r,false))]):=BR b (w0::r,false)
theorem ahJ(du b pK:Nat)(p:b6)(r:List ak)(c:ie 1048576 (r,false)):nA du b pK p cV r:=by
 have gf:=wi pK cV r;have h1:=BR pK (r,false);have h2:=O7 pK (cg (r,false)).2 (cg (r,false)).1 (BA c).1;have el:eU p cV (r,false)=({p with ou:=(ad (cg (r,false)).1 (cg (r,false)).2).1},(ad (cg (r,false)).1 (cg (r,false)).2).2):=by
  unfold eU;rw[if_pos rfl]
 unfold nA;rw[el];generalize (ad (cg (r,false)).1 (cg (r,false)).2).1=A at *;generalize (ad (cg (r,false)).1 (cg (r,false)).2).2=T at *;exact QI
theorem ajZ(du c pK:Nat)(p:b6)(r:List ak)(b:ie 1048576 (r,false)):nA du c pK p cX r:=by
 have gf:=wi pK cX r;have h1:=xU pK (r,false) b;have h2:=xU pK (cj (r,false)).2 (I8 b);have el:eU p cX (r,false)=({p with lt:=(cj (r,false)).1,st:=(cj (cj (r,false)).2).1},(cj (cj (r,false)).2).2):=by
  unfold eU;rw[if_neg ae,if_pos rfl]
 unfold nA;rw[el];generalize (cj (cj (r,false)).2).1=B at *;generalize (cj (cj (r,false)).2).2=T at *;generalize (cj (r,false)).1=A at *;generalize (cj (r,false)).2=f at *;exact QI
theorem af4(du f b:Nat)(p:b6)(r:List ak)(g:ie 1048576 (r,false)):nA du f b p cU r:=by
 have j:=wi b cU r;have h1:=xU b (r,false) g;have h2:=h1;have el:eU p cU (r,false)=({p with lf:=(cj (r,false)).1},(cj (r,false)).2):=by
  unfold eU;rw[if_neg ae,if_neg ae,if_pos rfl]
 unfold nA;rw[el];generalize (cj (r,false)).1=A at *;generalize (cj (r,false)).2=T at *;have m:(_a #[111,117,116,115,105,100,101]:ByteArray)=I cV:=rfl;have q:(_a #[112,111,114,116,115]:ByteArray)=I cX:=rfl;have c3:(_a #[108,105,102,101]:ByteArray)=I cU:=rfl;have u:(_a #[114,97,116,101]:ByteArray)=I c0:=rfl;have c5:(_a #[101,108,115,101]:ByteArray)=I cM:=rfl;have n21:decide (I cX=I cV)=false:=decide_eq_false dw;have n31:decide (I cU=I cV)=false:=decide_eq_false dw;have n32:decide (I cU=I cX)=false:=decide_eq_false dw;have C:decide (I c0=I cV)=false:=decide_eq_false dw;have G:decide (I c0=I cX)=false:=decide_eq_false dw;have J:decide (I c0=I cU)=false:=decide_eq_false dw;have M:decide (I cM=I cV)=false:=decide_eq_false dw;have O:decide (I cM=I cX)=false:=decide_eq_false dw;have Q:decide (I cM=I cU)=false:=decide_eq_false dw;have U:decide (I cM=I c0)=false:=decide_eq_false dw;have v:∀x:ByteArray,decide (x=x)=true:=fun x=>decide_eq_true rfl
 obtain⟨X,z⟩:=T;cases z
 all_goals
  refine h0 {} 3 func150 fun Γ c Y=>ar ?_
  have GB:du<Γ.g0:=c 0 _ rfl;have nr:b<Γ.g0:=c 2 _ rfl;repeat' first|refine af ?_|simp only[m,q,c3,u,c5,v,n31,n32,fM,AB]|(with_reducible refine bE 2 ?_ (dN 2 j) (fun _ _ _ h=>h) ?_);(exact rfl)|(with_reducible refine bE 2 ?_ (dN 2 h1) (fun _ _ _ h=>h) ?_);(exact rfl)|(with_reducible refine bE 2 ?_ (dN 2 h2) (fun _ _ _ h=>h) ?_);(exact rfl)|refine ag ?_|refine ab ?_ ?_<;>intro h<;>try exact aa|exact al|fail
  exact KU
theorem aeM(du g b:Nat)(p:b6)(r:List ak)(c:ie 1048576 (r,false)):nA du g b p c0 r:=by
 have j:=wi b c0 r;have h1:=xU b (r,false) c;have h2:=xU b (cj (r,false)).2 (I8 c);have el:eU p c0 (r,false)=({p with ra:=(cj (r,false)).1,mo:=(cj (cj (r,false)).2).1},(cj (cj (r,false)).2).2):=by
  unfold eU;rw[if_neg ae,if_neg ae,if_neg ae,if_pos rfl]
 unfold nA;rw[el];generalize (cj (cj (r,false)).2).1=B at *;generalize (cj (cj (r,false)).2).2=T at *;generalize (cj (r,false)).1=A at *;generalize (cj (r,false)).2=M at *;have m:(_a #[111,117,116,115,105,100,101]:ByteArray)=I cV:=rfl;have q:(_a #[112,111,114,116,115]:ByteArray)=I cX:=rfl;have c3:(_a #[108,105,102,101]:ByteArray)=I cU:=rfl;have u:(_a #[114,97,116,101]:ByteArray)=I c0:=rfl;have c5:(_a #[101,108,115,101]:ByteArray)=I cM:=rfl;have n21:decide (I cX=I cV)=false:=decide_eq_false dw;have n31:decide (I cU=I cV)=false:=decide_eq_false dw;have n32:decide (I cU=I cX)=false:=decide_eq_false dw;have v:decide (I c0=I cV)=false:=decide_eq_false dw;have z:decide (I c0=I cX)=false:=decide_eq_false dw;have C:decide (I c0=I cU)=false:=decide_eq_false dw;have O:decide (I cM=I cV)=false:=decide_eq_false dw;have Q:decide (I cM=I cX)=false:=decide_eq_false dw;have U:decide (I cM=I cU)=false:=decide_eq_false dw;have X:decide (I cM=I c0)=false:=decide_eq_false dw;have G:∀x:ByteArray,decide (x=x)=true:=fun x=>decide_eq_true rfl
 obtain⟨Y,J⟩:=T;cases J
 all_goals
  refine h0 {} 3 func150 fun Γ f Z=>ar ?_
  have GB:du<Γ.g0:=f 0 _ rfl;have nr:b<Γ.g0:=f 2 _ rfl;repeat' first|refine af ?_|simp only[m,q,c3,u,c5,G,v,z,C,fM,AB]|(with_reducible refine bE 2 ?_ (dN 2 j) (fun _ _ _ h=>h) ?_);(exact rfl)|(with_reducible refine bE 2 ?_ (dN 2 h1) (fun _ _ _ h=>h) ?_);(exact rfl)|(with_reducible refine bE 2 ?_ (dN 2 h2) (fun _ _ _ h=>h) ?_);(exact rfl)|refine ag ?_|refine ab ?_ ?_<;>intro h<;>try exact aa|exact al|fail
  exact KU
theorem adb(du f b:Nat)(p:b6)(r:List ak)(M:ie 1048576 (r,false)):nA du f b p cM r:=by
 have g:=wi b cM r;have h1:=BR b (r,false);have h2:=Ym b (cg (r,false)).2 (cg (r,false)).1;have el:eU p cM (r,false)=({p with el:=(dy (cg (r,false)).1 (cg (r,false)).2).1},(dy (cg (r,false)).1 (cg (r,false)).2).2):=by
  unfold eU;exact Tn
 unfold nA;rw[el];generalize (dy (cg (r,false)).1 (cg (r,false)).2).1=A at *;generalize (dy (cg (r,false)).1 (cg (r,false)).2).2=T at *;generalize (cg (r,false)).1=O at *;generalize (cg (r,false)).2=t1 at *;have j:(_a #[111,117,116,115,105,100,101]:ByteArray)=I cV:=rfl;have m:(_a #[112,111,114,116,115]:ByteArray)=I cX:=rfl;have c3:(_a #[108,105,102,101]:ByteArray)=I cU:=rfl;have q:(_a #[114,97,116,101]:ByteArray)=I c0:=rfl;have c5:(_a #[101,108,115,101]:ByteArray)=I cM:=rfl;have n21:decide (I cX=I cV)=false:=decide_eq_false dw;have n31:decide (I cU=I cV)=false:=decide_eq_false dw;have n32:decide (I cU=I cX)=false:=decide_eq_false dw;have Q:decide (I c0=I cV)=false:=decide_eq_false dw;have U:decide (I c0=I cX)=false:=decide_eq_false dw;have X:decide (I c0=I cU)=false:=decide_eq_false dw;have u:decide (I cM=I cV)=false:=decide_eq_false dw;have v:decide (I cM=I cX)=false:=decide_eq_false dw;have z:decide (I cM=I cU)=false:=decide_eq_false dw;have C:decide (I cM=I c0)=false:=decide_eq_false dw;have G:∀x:ByteArray,decide (x=x)=true:=fun x=>decide_eq_true rfl
 obtain⟨Y,J⟩:=T;cases J
 all_goals
  refine h0 {} 3 func150 fun Γ c Z=>ar ?_
  have GB:du<Γ.g0:=c 0 _ rfl;have nr:b<Γ.g0:=c 2 _ rfl;repeat' first|refine af ?_|simp only[j,m,c3,q,c5,G,u,v,z,C,fM,AB]|(with_reducible refine bE 2 ?_ (dN 2 g) (fun _ _ _ h=>h) ?_);(exact rfl)|(with_reducible refine bE 2 ?_ (dN 2 h1) (fun _ _ _ h=>h) ?_);(exact rfl)|(with_reducible refine bE 2 ?_ (dN 2 h2) (fun _ _ _ h=>h) ?_);(exact rfl)|refine ag ?_|refine ab ?_ ?_<;>intro h<;>try exact aa|exact al|fail
  exact KU
theorem PV:∀l:List bN,eW (l.map bN.enc)=true:=j2 (fun x=>rfl)
theorem alV(du Y b:Nat)(p:b6)(w0:ak)(r:List ak)(Z:ie 1048576 (r,false))(hl:p.rs.length<=1048576)(v:¬w0=cV)(z:¬w0=cX)(C:¬w0=cU)(G:¬w0=c0)(J:¬w0=cM):nA du Y b p w0 r:=by
 have ac:=wi b w0 r;have c:ie 1048576 (dy w0 (r,false)).2:=Z;have f:=aao c;have j:=aao f;have m:=I8 j;have M:=acD m;have h1:=Ym b (r,false) w0;have h2:=Tr b _ c;have ah:=Tr b _ f;have ai:=xU b _ j;have aj:=U_ b _ m;have am:=U_ b _ M;clear c f j m M;have el:eU p w0 (r,false)=({p with rs:=p.rs++[⟨(c2 (dy w0 (r,false)).2).1.1,(c2 (dy w0 (r,false)).2).1.2,(c2 (c2 (dy w0 (r,false)).2).2).1.1,(c2 (c2 (dy w0 (r,false)).2).2).1.2,(cj (c2 (c2 (dy w0 (r,false)).2).2).2).1,(fh (cj (c2 (c2 (dy w0 (r,false)).2).2).2).2).1.1,(fh (cj (c2 (c2 (dy w0 (r,false)).2).2).2).2).1.2,(fh (fh (cj (c2 (c2 (dy w0 (r,false)).2).2).2).2).2).1.1,(fh (fh (cj (c2 (c2 (dy w0 (r,false)).2).2).2).2).2).1.2,(dy w0 (r,false)).1⟩]},(fh (fh (cj (c2 (c2 (dy w0 (r,false)).2).2).2).2).2).2):=by
  unfold eU;rw[if_neg v,if_neg z,if_neg C,if_neg G,if_neg J];rfl
 unfold nA;rw[el];generalize (fh (fh (cj (c2 (c2 (dy w0 (r,false)).2).2).2).2).2).1.1=an at *;generalize (fh (fh (cj (c2 (c2 (dy w0 (r,false)).2).2).2).2).2).1.2=ao at *;generalize (fh (fh (cj (c2 (c2 (dy w0 (r,false)).2).2).2).2).2).2=T at *;generalize (fh (cj (c2 (c2 (dy w0 (r,false)).2).2).2).2).1.1=ap at *;generalize (fh (cj (c2 (c2 (dy w0 (r,false)).2).2).2).2).1.2=aq at *;generalize (fh (cj (c2 (c2 (dy w0 (r,false)).2).2).2).2).2=aN at *;generalize (cj (c2 (c2 (dy w0 (r,false)).2).2).2).1=au at *;generalize (cj (c2 (c2 (dy w0 (r,false)).2).2).2).2=aO at *;generalize (c2 (c2 (dy w0 (r,false)).2).2).1.1=av at *;generalize (c2 (c2 (dy w0 (r,false)).2).2).1.2=aw at *;generalize (c2 (c2 (dy w0 (r,false)).2).2).2=aP at *;generalize (c2 (dy w0 (r,false)).2).1.1=ax at *;generalize (c2 (dy w0 (r,false)).2).1.2=az at *;generalize (c2 (dy w0 (r,false)).2).2=aQ at *;generalize (dy w0 (r,false)).1=aA at *;generalize (dy w0 (r,false)).2=aR at *;have aC:∀x:bN,(p.rs++[x]).length=p.rs.length+1:=fun x=>aF
 have O:∀x:bN,(p.rs++[x]).map bN.enc=p.rs.map bN.enc++[x.enc]:=fun x=>aF
 have aS:=PV p.rs;have aT:∀g,c1 g (p.rs.map bN.enc):=fun g=>eS (fun x=>fY)
 have u:(p.rs.map bN.enc).length=p.rs.length:=aF;have aD:∀(x:bN)(g:Nat),c1 g (p.rs.map bN.enc++[x.enc]):=fun x g=>by
  rw[<-O];exact FZ
 unfold xF;generalize p.rs.map bN.enc=aU at *;have aE:(_a #[111,117,116,115,105,100,101]:ByteArray)=I cV:=rfl;have aG:(_a #[112,111,114,116,115]:ByteArray)=I cX:=rfl;have c3:(_a #[108,105,102,101]:ByteArray)=I cU:=rfl;have aI:(_a #[114,97,116,101]:ByteArray)=I c0:=rfl;have c5:(_a #[101,108,115,101]:ByteArray)=I cM:=rfl;have n21:decide (I cX=I cV)=false:=decide_eq_false dw;have n31:decide (I cU=I cV)=false:=decide_eq_false dw;have n32:decide (I cU=I cX)=false:=decide_eq_false dw;have aV:decide (I c0=I cV)=false:=decide_eq_false dw;have aX:decide (I c0=I cX)=false:=decide_eq_false dw;have aY:decide (I c0=I cU)=false:=decide_eq_false dw;have aZ:decide (I cM=I cV)=false:=decide_eq_false dw;have a0:decide (I cM=I cX)=false:=decide_eq_false dw;have a1:decide (I cM=I cU)=false:=decide_eq_false dw;have a2:decide (I cM=I c0)=false:=decide_eq_false dw;have a3:∀x:ByteArray,decide (x=x)=true:=fun x=>decide_eq_true rfl
 have d1:decide (I w0=I cV)=false:=decide_eq_false (fun q=>v (dF.1 q));have d2:decide (I w0=I cX)=false:=decide_eq_false (fun q=>z (dF.1 q));have d3:decide (I w0=I cU)=false:=decide_eq_false (fun q=>C (dF.1 q));have d4:decide (I w0=I c0)=false:=decide_eq_false (fun q=>G (dF.1 q));have d5:decide (I w0=I cM)=false:=decide_eq_false (fun q=>J (dF.1 q));obtain⟨a4,aJ⟩:=T;cases aJ
 all_goals
  refine h0 {} 3 func150 fun Γ Q a5=>ar ?_
  have aL:du<Γ.g0:=Q 0 _ rfl;have aM:b<Γ.g0:=Q 2 _ rfl;repeat' first|refine af ?_|simp only[aE,aG,c3,aI,c5,d1,d2,d3,d4,d5,fM,AB]|(with_reducible refine bE 2 ?_ (dN 2 ac) (fun _ _ _ h=>h) ?_);(exact rfl)|(with_reducible refine bE 2 ?_ (dN 2 h1) (fun _ _ _ h=>h) ?_);(exact rfl)|(with_reducible refine bE 2 ?_ (dN 2 h2) (fun _ _ _ h=>h) ?_);(exact rfl)|(with_reducible refine bE 2 ?_ (dN 2 ah) (fun _ _ _ h=>h) ?_);(exact rfl)|(with_reducible refine bE 2 ?_ (dN 2 ai) (fun _ _ _ h=>h) ?_);(exact rfl)|(with_reducible refine bE 2 ?_ (dN 2 aj) (fun _ _ _ h=>h) ?_);(exact rfl)|(with_reducible refine bE 2 ?_ (dN 2 am) (fun _ _ _ h=>h) ?_);(exact rfl)|refine ag ?_|refine ab ?_ ?_<;>intro h<;>try exact aa|refine aK ⟨aH,aH,aH,aH,u.symm⟩ ?_|refine aK ⟨aH,by rw[u];unfold cx maxLen;simp only[List.length_cons,List.length_nil];omega⟩ ?_|simp only[u]|exact al|fail
 all_goals refine kh [0,1,2,5] [Γ.g0+1+1] ?_ ae rfl (fun a U=>?_) (fun X=>?_) (fun X=>?_)
 any_goals (first|refine kM ?_|exact cc)
 all_goals first
  |exact trivial
  |(simp at U;subst U;exact⟨5,_,rfl,rfl⟩)
  |(simp only[fo,dn];(repeat' (first|exact trivial|exact rfl|apply And.intro));done)
  |(refine⟨⟨.inr ⟨aL,rfl⟩,rfl,?_⟩,⟨.inr ⟨aM,rfl⟩,rfl,gK _ ⟨⟨Hr _ _,trivial,trivial⟩,trivial⟩⟩,⟨.inl ⟨0,rfl,rfl⟩,rfl,?_⟩,rfl⟩
    .refine⟨?_,rfl⟩;simp only[jX,fo,dn];(repeat' (first|exact trivial|exact rfl|exact⟨1,X,.inl ⟨0,rfl,rfl⟩,by rw[aC]⟩|apply And.intro))
    rw[O];exact gK _ (aD ⟨ax,az,av,aw,au,ap,aq,an,ao,aA⟩ _))
theorem abK(du b c:Nat)(p:b6)(w0:ak)(r:List ak)(f:ie 1048576 (r,false))(hl:p.rs.length<=1048576):nA du b c p w0 r:=by
 by_cases h1:w0=cV
 .subst h1;exact ahJ du b c p r f
 by_cases h2:w0=cX
 .subst h2;exact ajZ du b c p r f
 by_cases g:w0=cU
 .subst g;exact af4 du b c p r f
 by_cases j:w0=c0
 .subst j;exact aeM du b c p r f
 by_cases m:w0=cM
 .subst m;exact adb du b c p r f
 exact alV du b c p w0 r f hl h1 h2 g j m
theorem ad6(k du c b:Nat)(p:b6)(w0:ak)(r:List ak)(g:ie 1048576 (r,false))(hl:p.rs.length<=1048576):fi prog 150 [.ptr k du 8 0 0,.ptr 2 b 2 0 0] [some (s4 du c p),some (xF c p),some (hU b (w0::r,false))] 1
 (fun f d H=>d=.v (.string (I w0))/\H=[some (s4 du f (eU p w0 (r,false)).1),none,some (hU b (Jp (eU p w0 (r,false)).2)),some (xF f (eU p w0 (r,false)).1)]):=Z5 k (abK du c b p w0 r g hl)
theorem akA{st:bb}{du:Nat}{c f g j m q b:O}(u:aB st.H 1=some ⟨du,8,[[c,f,g,j,m,q,.v (.slice none 0 0),b]]⟩):fP st ⟨st.tm,cl (cl st.H 1 (some ⟨du,8,[[c,f,g,j,m,q,.aG 1 st.gen 10 0 0 false,b]]⟩)) 9 (some ⟨st.gen,10,[]⟩),st.gen+1⟩:=
 Ff 1 9 10 8 ae u rfl (fun i d x h1 h2=>by
  exact RN) ae
theorem afc{st:bb}{c:Nat}{b:O}(f:aB st.H 2=some ⟨c,2,[[.v (.slice none 0 0),b]]⟩):fP st ⟨st.tm,cl (cl st.H 2 (some ⟨c,2,[[.aG 4 st.gen 1 0 0 false,b]]⟩)) 4 (some ⟨st.gen,1,[]⟩),st.gen+1⟩:=
 Ff 2 4 1 2 ae f rfl (fun i d g h1 h2=>by
  match i,h1,h2 with
  |0,h1,h2=>exact D3
  |1,h1,h2=>exact sQ
  |i+2,h1,h2=>simp at h1) ae
def iU:b6:=⟨0,0,0,0,0,0,[],false⟩
def q_:b6×List ak ⊕ Int×Int->b6×Int×Int
 |.inr x=>(iU,x.1,x.2)
 |.inl x=>if x.2.length<5 then(iU,0,7)else if eD x.1=0 then(x.1,0,0)else(iU,0,eD x.1)
def fb(s:ak):b6×Int×Int:=if 20000<s.length then(iU,0,2)else q_ (e4 0 iU [] (bm 10 s))
def hJ(R:b6×Int×Int):O:=if R.2.2=0 then rP R.1 false else .agg (iU.enc (.v (.slice none 0 0)))
def qo(R:b6×Int×Int):O:=.aS [hJ R,.v (.int .i64 R.2.1),.v (.int .i64 R.2.2)]
theorem n_{R:b6×Int×Int}(h:¬R.2.2=0):qo R=.aS [.agg (iU.enc (.v (.slice none 0 0))),.v (.int .i64 R.2.1),.v (.int .i64 R.2.2)]:=by
 unfold qo hJ;rw[if_neg h]
def hG(ps:List ak)(j:Nat):List ak:=(ps.take j).filter (fun w=>decide (¬w=[]))
theorem Zs{ps:List ak}{j:Nat}{w:ak}(h:ps[j]?=some w)(cy:¬w=[]):hG ps (j+1)=hG ps j++[w]:=by exact Xl
theorem V2{ps:List ak}{j:Nat}{w:ak}(h:ps[j]?=some w)(cy:w=[]):hG ps (j+1)=hG ps j:=by exact Xl
theorem WM(ps:List ak)(j:Nat):(hG ps j).length<=ps.length:=_e (List.length_filter_le _ _) kF
theorem GF:∀l:List ak,eW (bk (l.map I))=true
 |[]=>rfl
 |b::l=>GF l
theorem Dd(l:List ak)(w:ak):bk (l.map I)++[[.v (.string (I w))]]=bk ((l++[w]).map I):=lD
theorem Iw(s:ak):(e9 s).1<4294967296:=by exact T7
theorem K7(s:ak)(t:dT):0<=(ad s t).1/\(ad s t).1<4294967296:=by
 have:=Iw s;unfold ad;dsimp only;omega
theorem D8{p:b6}(h:p.wf)(w0:ak)(t:dT):(eU p w0 t).1.wf:=by
 unfold eU;split
 .exact⟨K7 _ ([],false),h.2⟩
 split
 .exact h
 split
 .exact h
 split
 .exact h
 split
 .exact h
 refine⟨h.1,fun r b=>?_⟩;rcases List.mem_append.1 b with b|b
 .exact h.2 r b
 rw[List.mem_singleton.1 b];exact⟨K7 _ ([],false),K7 _ ([],false)⟩
theorem HJ:iU.wf:=⟨ae,fun r b=>by cases b⟩
theorem FH{w:ak}(h:w≠[]):decide (((au w 0:Nat):Int)=35)=decide (w.head?=some 35):=by
 cases w with
 |nil=>exact absurd rfl h
 |cons b t=>
  have e:au (b::t) 0=b.toNat:=rfl;rw[e,decide_eq_decide];constructor
  .intro q;have:b=35:=UInt8.toNat_inj.1 (by show b.toNat=35;omega);rw[this];rfl
  intro q;obtain rfl:=_b q;rfl
theorem aaJ(s:ak)(a9:s.length<=140737488355328):Spec prog 88 [.v (.string (I s))] (qo (fb s)):=by
 by_cases aD:20000<s.length
 .have e:fb s=(iU,0,2):=by unfold fb;rw[if_pos aD]
  rw[e,n_ ae];refine az {} 0 func88 fun Γ an=>ar ?_
  exact Xo
 have aj:Spec prog 6 [.v (.string (I s)),.v (.string (_a #[10]))] (.snap 1 (bk ((bm 10 s).map I)) false):=va 10 s G;have aT:∀p∈bm 10 s,p.length<=20000:=fun p aw=>_e (nP 10 s p aw) G
 have ba:=rK 10 s;have aV:fb s=q_ (e4 0 iU [] (bm 10 s)):=by unfold fb;rw[if_neg aD]
 rw[aV];generalize bm 10 s=f at *;have iR:=fM f;refine az {} 0 func88 fun Γ an=>ar ?_
 repeat' first|((with_reducible refine gJ ?_);first|refine eJ (akA rfl) ?_|refine eJ (gU ⟨.d0,.d0,.d6⟩ 6 1 rfl rfl) ?_)|refine af ?_|simp only[aU,iR]|refine J aj ?_|refine ag ?_|refine ab ?_ ?_<;>intro h<;>try exact aa|exact al|fail
 refine bS (α:=Nat×b6×List ak×Nat×Nat×Nat) (fun x=>[(⟨.d0,.d2,.d5⟩,.v (.int .i64 (x.1:Nat))),(⟨.d0,.d0,.d6⟩,.aG 6 x.2.2.2.2.1 1 0 x.2.2.1.length false)]) (fun x=>[(1,some (s4 (Γ.g0+1) x.2.2.2.1 x.2.1)),(2,none),(3,none),(4,none),(5,none),(6,some ⟨x.2.2.2.2.1,1,bk (x.2.2.1.map I)⟩),(9,some (xF x.2.2.2.1 x.2.1)),(10,none)]) (fun x=>x.2.2.2.2.2) (fun x=>f.length-x.1) (fun x=>x.1<=f.length/\x.2.1.rs.length<=x.1/\x.2.2.1.length<=x.1/\x.2.1.wf/\e4 0 iU [] f=e4 x.1 x.2.1 x.2.2.1 (f.drop x.1)) (0,iU,[],Γ.g0+2,Γ.g0+3,Γ.g0+4) ⟨_h _,_h _,_h _,HJ,rfl⟩ ?_ ?_
 .exact bs
 rintro⟨i,p,eL,mj,bd,ax⟩ ⟨aX,mM,sY,rp,cJ⟩;dsimp only at aX mM sY rp cJ⊢;refine bz ?_;by_cases aN:i<f.length
 .obtain⟨l,hl⟩:∃l,f[i]?=some l:=⟨_,_c aN⟩;have aY:=sh hl;have aZ:=aT l (List.mem_of_getElem? hl);rw[List.drop_eq_getElem_cons aN,show f[i]=l from _b ((_c aN).symm.trans hl)]at cJ;have aE:Spec prog 6 [.v (.string (I l)),.v (.string (_a #[32]))] (.snap 1 (bk ((bm 32 l).map I)) false):=va 32 l G;have bb:=rK 32 l;have a0:∀p∈bm 32 l,p.length<=20000:=fun p aw=>_e (nP 32 l p aw) aZ
  have aI:dj l=hG (bm 32 l) (bm 32 l).length:=by
   unfold dj hG;rw[List.take_length]
  have Q:=fM (bm 32 l);generalize a1:bm 32 l=ps at *;repeat' first|(with_reducible refine gJ ?_);(refine eJ (afc rfl) ?_)|refine af ?_|simp only[iR,Q]|refine J aE ?_|refine ag ?_|refine ab ?_ ?_<;>intro h<;>try exact aa|simp only[_f,aY]|exact al|fail
  refine bS (α:=Nat×Nat×Nat) (fun x=>[(⟨.d0,.d3,.d5⟩,.v (.int .i64 (x.1:Nat)))]) (fun x=>[(2,some ⟨ax,2,[[.aG 4 x.2.1 1 0 (hG ps x.1).length false,.v (.bool false)]]⟩),(3,none),(4,some ⟨x.2.1,1,bk ((hG ps x.1).map I)⟩)]) (fun x=>x.2.2) (fun x=>ps.length-x.1) (fun x=>x.1<=ps.length) (0,ax+1,ax+2) (_h _) ?_ ?_
  .exact bs
  rintro⟨j,aA,jT⟩ a2;dsimp only at a2⊢;refine bz ?_;by_cases U:j<ps.length
  .obtain⟨w,c⟩:∃w,ps[j]?=some w:=⟨_,_c U⟩;have aJ:=sh c;have aM:(_a #[]:ByteArray)=I []:=rfl;have bc:=WM ps j;have be:=GF (hG ps j);have mJ:=fM (hG ps j);by_cases m:w=[]
   .have a3:=V2 c m;have aC:decide (I w=I [])=true:=decide_eq_true (congrArg I m);repeat' first|refine af ?_|simp only[aM,aC,Q]|refine ag ?_|refine ab ?_ ?_<;>intro h<;>try exact aa|simp only[_f,aJ,Q]|exact al|fail
    refine br ⟨(j+1,aA,jT),U,_d U (_g j),?_⟩;rw[a3];exact jJ
   have aO:=Zs c m;have ai:=Dd (hG ps j) w;have aC:decide (I w=I [])=false:=decide_eq_false (fun q=>m (dF.1 q));have a4:(hG ps (j+1)).length=(hG ps j).length+1:=by rw[aO];simp
   rw[<-aO]at ai;generalize bk ((hG ps j).map I)=bf at *;repeat' first|refine af ?_|simp only[aM,aC,Q]|refine ag ?_|refine ab ?_ ?_<;>intro h<;>try exact aa|simp only[_f,aJ,Q,mJ]|refine aK ⟨aH,aH,aH,aH,mJ.symm⟩ ?_|refine aK ⟨aH,OR⟩ ?_|exact al|fail
   refine br ⟨(j+1,jT+1,jT+2),U,_d U (_g j),?_⟩;rw[a4,<-ai];exact jJ
  obtain rfl:j=ps.length:=G;rw[<-aI];have nQ:kN ⟨aA,1,bk ((dj l).map I)⟩ [[.aG 4 aA 1 0 (dj l).length false,.v (.bool false)]] [[.snap 1 (bk ((dj l).map I)) false,.v (.bool false)]]:=by
   refine⟨⟨.inl ⟨rfl,rfl,?_,?_⟩,rfl,rfl⟩,rfl⟩
   .show 0+_<=_;rw[fM];omega
   show O.snap _ _ _=O.snap _ _ _;exact Jd
  have aP:∀w∈dj l,w.length<=1048576:=fun w c=>by
   have h1:w∈ps:=by
    unfold dj at c;rw[a1]at c;exact(List.mem_filter.1 c).1
   exact _e (a0 w h1) ae
  have aQ:∀w∈dj l,w≠[]:=fun w c=>(Mx c).1
  have bl:IntKind.i64.wrap ((i:Int)+1)=((i+1:Nat):Int):=er;clear aI aE;cases am:dj l with
  |nil=>
   rw[FK am]at cJ;rw[am]at nQ;have a5:decide ((((bk (([]:List ak).map I)).length:Nat):Int)=0)=true:=ae;repeat' first|(with_reducible refine gJ ?_);(refine dv (j_ an 2 4 ae rfl rfl nQ) ?_)|refine af ?_|simp only[bl,a5]|refine ag ?_|refine ab ?_ ?_<;>intro h<;>try exact aa|exact al|fail
   exact VB
  |cons w0 r=>
   rw[GU am]at cJ;rw[am]at nQ aP aQ;have m:w0≠[]:=aQ w0 aF;have bg:0<w0.length:=List.length_pos_iff.2 m;have C:cf (bk ((w0::r).map I)) 0=[.v (.string (I w0))]:=rfl;have g:=FH m;have M:∀n:Nat,decide (((n+1:Nat):Int)=0)=false:=fun n=>decide_eq_false G
   by_cases ao:w0.head?=some 35
   .rw[if_pos ao]at cJ;rw[decide_eq_true ao]at g;repeat' first|(with_reducible refine gJ ?_);(refine dv (j_ an 2 4 ae rfl rfl nQ) ?_)|refine af ?_|simp only[bl,fM,M,g,b_,aU]|refine ag ?_|refine ab ?_ ?_<;>intro h<;>try exact aa|simp only[C]|exact al|fail
    exact VB
   rw[if_neg ao]at cJ;rw[decide_eq_false ao]at g;have X:=fun du mj a6=>ad6 1 du mj a6 p w0 r (fun w c=>aP w (List.mem_cons_of_mem _ c)) G
   have aaH:(eU p w0 (r,false)).1.rs.length<=i+1:=by exact Rj
   have SF:=D8 rp w0 (r,false);generalize (eU p w0 (r,false)).1=aam at *;generalize (eU p w0 (r,false)).2=ap at *;have u:(Jp ap).2=fN ap:=rfl;have z:=acg eL w0 false fg;have Y:kV ⟨bd,1,bk (eL.map I)⟩ [.aG 6 bd 1 0 eL.length false,.v (.string (I w0))] [.snap 1 (bk (eL.map I)) false,.v (.string (I w0))]:=by
    refine⟨?_,rfl,rfl⟩;simp only[hE];exact .inl ⟨trivial,trivial,by rw[fM];omega,Jd⟩
   have Z:(_a #[112,97,115,115]:ByteArray)=I ee:=rfl;have ac:(_a #[100,114,111,112]:ByteArray)=I fu:=rfl;by_cases aq:fN ap=true
   .rw[if_pos aq]at cJ;rw[cJ,n_ (by show¬(10:Int)=0;decide)];rw[aq]at u;repeat' first|((with_reducible refine gJ ?_);first|refine dv (j_ an 2 4 ae rfl rfl nQ) ?_|refine eJ (nv 10 9 rfl (fun _=>rfl)) ?_)|refine af ?_|simp only[bl,fM,M,g,b_,aU,u,Z,ac,eq_self]|(with_reducible refine aL 150 ?_);(refine gb [1,9,2] [10] [1,9,2,10] rfl ae rfl rfl (X _ _ _) ?_)|(with_reducible refine gC 6 ?_ z Y ?_ ?_);(exact rfl);(exact rfl)|refine ag ?_|refine ab ?_ ?_<;>intro h<;>try exact aa|simp only[C]|((with_reducible refine p9 ?_);first|refine aK ⟨aH,aH,aH,aH,(fM eL).symm⟩ ?_|refine aK ⟨aH,BE⟩ ?_)|exact al|fail
    all_goals exact b0
   rw[if_neg aq]at cJ;have a7:fN ap=false:=by simpa using aq
   rw[a7]at u;by_cases ah:w0=ee\/w0=fu
   .rw[if_pos ah]at cJ;rcases ah with rfl|rfl
    .have d1:decide (I ee=I ee)=true:=decide_eq_true rfl;repeat' first|((with_reducible refine gJ ?_);first|refine dv (j_ an 2 4 ae rfl rfl nQ) ?_|refine eJ (nv 10 9 rfl (fun _=>rfl)) ?_)|refine af ?_|simp only[bl,fM,M,g,b_,aU,u,Z,ac,d1]|(with_reducible refine aL 150 ?_);(refine gb [1,9,2] [10] [1,9,2,10] rfl ae rfl rfl (X _ _ _) ?_)|(with_reducible refine gC 6 ?_ z Y ?_ ?_);(exact rfl);(exact rfl)|refine ag ?_|refine ab ?_ ?_<;>intro h<;>try exact aa|simp only[C]|((with_reducible refine p9 ?_);first|refine aK ⟨aH,aH,aH,aH,(fM eL).symm⟩ ?_|refine aK ⟨aH,BE⟩ ?_)|exact al|fail
     exact Vx
    have d1:decide (I fu=I ee)=false:=decide_eq_false dw;have d2:decide (I fu=I fu)=true:=decide_eq_true rfl;repeat' first|((with_reducible refine gJ ?_);first|refine dv (j_ an 2 4 ae rfl rfl nQ) ?_|refine eJ (nv 10 9 rfl (fun _=>rfl)) ?_)|refine af ?_|simp only[bl,fM,M,g,b_,aU,u,Z,ac,d1,d2]|(with_reducible refine aL 150 ?_);(refine gb [1,9,2] [10] [1,9,2,10] rfl ae rfl rfl (X _ _ _) ?_)|(with_reducible refine gC 6 ?_ z Y ?_ ?_);(exact rfl);(exact rfl)|refine ag ?_|refine ab ?_ ?_<;>intro h<;>try exact aa|simp only[C]|((with_reducible refine p9 ?_);first|refine aK ⟨aH,aH,aH,aH,(fM eL).symm⟩ ?_|refine aK ⟨aH,BE⟩ ?_)|exact al|fail
    exact Vx
   rw[if_neg ah]at cJ;have d1:decide (I w0=I ee)=false:=decide_eq_false (fun q=>ah (.inl (dF.1 q)));have d2:decide (I w0=I fu)=false:=decide_eq_false (fun q=>ah (.inr (dF.1 q)));by_cases au:w0∈eL
   .rw[if_pos au]at cJ;rw[cJ,n_ (by show¬(8:Int)=0;decide)];rw[decide_eq_true au]at z;repeat' first|((with_reducible refine gJ ?_);first|refine dv (j_ an 2 4 ae rfl rfl nQ) ?_|refine eJ (nv 10 9 rfl (fun _=>rfl)) ?_)|refine af ?_|simp only[bl,fM,M,g,b_,aU,u,Z,ac,d1,d2]|(with_reducible refine aL 150 ?_);(refine gb [1,9,2] [10] [1,9,2,10] rfl ae rfl rfl (X _ _ _) ?_)|(with_reducible refine gC 6 ?_ z Y ?_ ?_);(exact rfl);(exact rfl)|refine ag ?_|refine ab ?_ ?_<;>intro h<;>try exact aa|simp only[C]|((with_reducible refine p9 ?_);first|refine aK ⟨aH,aH,aH,aH,(fM eL).symm⟩ ?_|refine aK ⟨aH,BE⟩ ?_)|exact al|fail
    all_goals exact b0
   rw[if_neg au]at cJ;rw[decide_eq_false au]at z;have ai:=Dd eL w0;have a8:(eL++[w0]).length=eL.length+1:=aF;have bh:=GF eL;repeat' first|((with_reducible refine gJ ?_);first|refine dv (j_ an 2 4 ae rfl rfl nQ) ?_|refine eJ (nv 10 9 rfl (fun _=>rfl)) ?_)|refine af ?_|simp only[bl,fM,M,g,b_,aU,u,Z,ac,d1,d2,ai]|(with_reducible refine aL 150 ?_);(refine gb [1,9,2] [10] [1,9,2,10] rfl ae rfl rfl (X _ _ _) ?_)|(with_reducible refine gC 6 ?_ z Y ?_ ?_);(exact rfl);(exact rfl)|refine ag ?_|refine ab ?_ ?_<;>intro h<;>try exact aa|simp only[C]|((with_reducible refine p9 ?_);first|refine aK ⟨aH,aH,aH,aH,(fM eL).symm⟩ ?_|refine aK ⟨aH,BE⟩ ?_)|exact al|fail
   refine br ⟨(i+1,aam,eL++[w0],jT,jT+2,jT+3),⟨aN,aaH,by show(eL++[w0]).length<=i+1;omega,SF,cJ⟩,_d aN (_g i),?_⟩;refine dB ?_ ?_ (Nat.le_refl _);all_goals first|refine dD ?_|exact dE
   all_goals repeat' first|exact trivial|exact rfl|apply And.intro
   all_goals rw[a8]
 obtain rfl:i=f.length:=G;rw[List.drop_length,e4]at cJ;have zc:=Gx p false rp fg;have xV:(p.rs.map bN.enc).length=p.rs.length:=aF;have bi:c1 Γ.g0 (p.rs.map bN.enc):=eS (fun x=>fY);have nQ:kN ⟨mj,10,p.rs.map bN.enc⟩ [p.enc (.aG 1 mj 10 0 p.rs.length false)] [p.enc (.snap 10 (p.rs.map bN.enc) false)]:=by exact ZP
 rw[cJ];unfold q_;dsimp only;by_cases aR:eL.length<5
 .rw[if_pos aR,n_ Ny];exact I_
 rw[if_neg aR];by_cases av:eD p=0
 .rw[if_pos av];rw[av]at zc;have e:qo (p,0,0)=.aS [rP p false,.v (.int .i64 0),.v (.int .i64 0)]:=by
   unfold qo hJ;rw[if_pos rfl]
  rw[e];exact I_
 rw[if_neg av,n_ av];generalize eD p=E at *;exact I_
end Go.Proofs.YtdiobdlinjgakaaGreatDoor.R
