import Derived.Test.YtdiobdlinjgakaaGreatDoorDh21
set_option linter.unusedVariables false
set_option linter.unusedSimpArgs false
set_option maxHeartbeats 8000000
set_option maxRecDepth 100000
open Go.Proofs.Tryz
open Int renaming toNat_natCast->_a
open Nat renaming lt_succ_self->_b,sub_lt_sub_left->_c,zero_le->_e,zero_add->_i,le_succ_of_le->_j,le_trans->_p,le_refl->_r
open List renaming getElem?_eq_getElem->_d,drop_eq_getElem_cons->_f,isPrefixOf_iff_prefix->_k,getElem?_eq_some_iff->_l,mem_of_getElem?->_m,drop_length->_n,append_nil->_o
open ByteArray renaming mk->_g
open Go.Lib renaming index->_h,contains->_q
namespace Go.Proofs.YtdiobdlinjgakaaGreatDoor.R
attribute [local irreducible] bc Go
theorem Lh(l:List ak):(bk (l.map I)).length=l.length:=lD
theorem Ru:∀l:List ak,eW (bk (l.map I))=true
 |[]=>rfl
 |b::l=>Ru l
theorem agn(l:List ak)(w:ak):bk (l.map I)++[[.v (.string (I w))]]=bk ((l++[w]).map I):=lD
theorem abv{w:ak}(h:(32:UInt8)∉w)(b:UInt8)(l:ak):dj (w++b::l)=if b=32 then(if w=[]then dj l else w::dj l)else dj ((w++[b])++l):=by
 by_cases f:b=32
 .subst f;rw[if_pos rfl];unfold dj;rw[vJ l h];by_cases c:w=[]
  .rw[if_pos c];simp[c]
  rw[if_neg c];simp[c]
 rw[if_neg f];simp
theorem ae7{w:ak}(h:(32:UInt8)∉w):dj w=if w=[]then[]else[w]:=by
 unfold dj;rw[KV h];by_cases b:w=[]<;>simp[b]
theorem OK(l:ak)(hl:l.length<=1048576):Spec prog 23 [.v (.string (I l))] (.snap 1 (bk ((dj l).map I)) false):=by
 have u:(_g #[]:ByteArray)=I []:=rfl;have w0:IntKind.i64.wrap (((l.length:Nat):Int)+1)=((l.length+1:Nat):Int):=er;refine az {} 0 func23 fun Γ an=>ar ?_
 repeat' first|(with_reducible refine gJ ?_);(refine eJ (gU ⟨.d0,.d0,.d3⟩ 1 1 rfl rfl) ?_)|refine af ?_|simp only[aU,w0]|refine ag ?_|refine ab ?_ ?_<;>intro h<;>try exact aa|exact al|fail
 refine bS (α:=Nat×List ak×ak×Nat×Nat) (fun x=>[(⟨.d0,.d0,.d3⟩,.aG 1 x.2.2.2.1 1 0 x.2.1.length false),(⟨.d0,.d0,.d4⟩,.v (.string (I x.2.2.1))),(⟨.d0,.d1,.d1⟩,.v (.int .i64 (x.1:Nat)))]) (fun x=>[(0,none),(1,some ⟨x.2.2.2.1,1,bk (x.2.1.map I)⟩)]) (fun x=>x.2.2.2.2) (fun x=>l.length+1-x.1)
  (fun x=>x.1<=l.length+1/\x.2.1.length<=x.1/\x.2.2.1.length<=x.1/\(32:UInt8)∉x.2.2.1/\((x.1<=l.length/\dj l=x.2.1++dj (x.2.2.1++l.drop x.1))\/(x.1=l.length+1/\dj l=x.2.1))) (0,[],[],Γ.g0,Γ.g0+1) ⟨_e _,_e _,_e _,aF,.inl ⟨_e _,rfl⟩⟩ ?_ ?_
 .exact bs
 rintro⟨i,out,w,O,j⟩ ⟨Y,C,Z,J,c⟩;dsimp only at Y C Z J c⊢;refine bz ?_;rcases c with⟨aj,c⟩|⟨ac,c⟩
 .have bl:IntKind.i64.wrap ((i:Int)+1)=((i+1:Nat):Int):=by rw[IntWalk.i64_in _ G];omega
  have U:=agn out w;have CB:=Lh out;have am:=Ru out;have ak_:(out++[w]).length=out.length+1:=aF;by_cases g:i<l.length
  .obtain⟨b,Q⟩:∃b,l[i]?=some b:=⟨_,_d g⟩;have X:au l i=b.toNat:=C9 Q;rw[_f g,show l[i]=b from Option.some.inj ((_d g).symm.trans Q),abv J]at c;by_cases z:b=32
   .rw[if_pos z]at c;have M:((au l i:Nat):Int)=32:=by rw[X,z];rfl
    by_cases f:w=[]
    .rw[if_pos f]at c;have m:decide (I w=I [])=true:=decide_eq_true (congrArg I f);repeat' first|refine af ?_|simp only[u,aU,b_,_a,M,decide_true,decide_false,bl,m]|refine ag ?_|refine ab ?_ ?_<;>intro h<;>try exact aa|exact al|fail
     refine br ⟨(i+1,out,[],O,j),⟨Kq,_j C,_e _,aF,.inl ⟨g,c⟩⟩,_c Jo (_b i),?_⟩;exact bs
    rw[if_neg f]at c;have m:decide (I w=I [])=false:=decide_eq_false (fun q=>f (dF.1 q));generalize bk (out.map I)=ae at *;repeat' first|refine af ?_|simp only[u,aU,b_,_a,M,decide_true,decide_false,bl,m,U,CB]|refine ag ?_|refine ab ?_ ?_<;>intro h<;>try exact aa|((with_reducible refine p9 ?_);first|refine aK ⟨aH,aH,aH,aH,CB.symm⟩ ?_|refine aK ⟨aH,OQ⟩ ?_)|exact al|fail
    refine br ⟨(i+1,out++[w],[],j+1,j+2),⟨Kq,by show(out++[w]).length<=i+1;omega,_e _,aF,.inl ⟨g,by rw[c];simp⟩⟩,_c Jo (_b i),?_⟩;exact aaT
   rw[if_neg z]at c;have M:decide (((au l i:Nat):Int)=32)=false:=decide_eq_false (fun q=>z (UInt8.toNat_inj.1 (by rw[X]at q;show b.toNat=32;omega)));have ah:(I l).extract i (i+1)=I [b]:=by
    rw[fK,_f g,show l[i]=b from Option.some.inj ((_d g).symm.trans Q),show i+1-i=1 from G];rfl
   repeat' first|refine af ?_|simp only[u,aU,b_,_a,M,bl,ah,dt]|refine ag ?_|refine ab ?_ ?_<;>intro h<;>try exact aa|refine aK KX ?_|exact al|fail
   refine br ⟨(i+1,out,w++[b],O,j),⟨Kq,_j C,by show(w++[b]).length<=i+1;simp;omega,by simp[J,Ne.symm z],.inl ⟨g,c⟩⟩,_c Jo (_b i),?_⟩;exact bs
  obtain rfl:i=l.length:=G;rw[_n,_o,ae7 J]at c;by_cases f:w=[]
  .rw[if_pos f,_o]at c;have m:decide (I w=I [])=true:=decide_eq_true (congrArg I f);repeat' first|refine af ?_|simp only[u,aU,b_,_a,bl,m]|refine ag ?_|refine ab ?_ ?_<;>intro h<;>try exact aa|exact al|fail
   refine br ⟨(l.length+1,out,[],O,j),⟨_r _,_j C,_e _,aF,.inr ⟨rfl,c⟩⟩,_c (_b _) (_b _),?_⟩;exact bs
  rw[if_neg f]at c;have m:decide (I w=I [])=false:=decide_eq_false (fun q=>f (dF.1 q));generalize bk (out.map I)=ae at *;repeat' first|refine af ?_|simp only[u,aU,b_,_a,bl,m,U,CB]|refine ag ?_|refine ab ?_ ?_<;>intro h<;>try exact aa|((with_reducible refine p9 ?_);first|refine aK ⟨aH,aH,aH,aH,CB.symm⟩ ?_|refine aK ⟨aH,OQ⟩ ?_)|exact al|fail
  refine br ⟨(l.length+1,out++[w],[],j+1,j+2),⟨_r _,by show(out++[w]).length<=l.length+1;omega,_e _,aF,.inr ⟨rfl,c⟩⟩,_c (_b _) (_b _),?_⟩;exact aaT
 subst ac;rw[c];have ai:cp (cC (bk (out.map I)) 0) out.length=bk (out.map I):=e1 (by rw[Lh]);have ao:c1 Γ.g0 (bk (out.map I)):=eS (fun x=>fY);repeat' first|(with_reducible refine gJ ?_);(refine dv (fG an ⟨.d0,.d0,.d3⟩ rfl rfl ⟨rfl,rfl,by show 0+_<=_;rw[Lh];omega⟩) ?_)|refine af ?_|simp only[ai]|refine ag ?_|refine ab ?_ ?_<;>intro h<;>try exact aa|exact al|fail
 all_goals exact b0
theorem ahI{st:bb}{b:Nat}(c:aB st.H 1=some ⟨b,1,[[.v (.slice none 0 0)]]⟩):fP st ⟨st.tm,cl (cl st.H 1 (some ⟨b,1,[[.aG 1 st.gen 1 0 0 false]]⟩)) 9 (some ⟨st.gen,1,[]⟩),st.gen+1⟩:=
 Ff 1 9 1 1 ae c rfl (fun i d f h1 h2=>by
  match i,h1,h2 with
  |0,h1,h2=>exact D3
  |i+1,h1,h2=>simp at h1) ae
theorem kn(l:List ak):(bk (l.map I)).length=l.length:=lD
def vu(w0:ak)(r:List ak):Prop:=(gr w0).2=true/\(gr w0).1.length=r.length
instance (w0:ak) (r:List ak):Decidable (vu w0 r):=inferInstanceAs (Decidable (_/\_))
def C5(w0:ak)(r:List ak):O:=if vu w0 r then .aS [.snap 1 (hd (jy w0 r).1) false,.v (.bool (jy w0 r).2)]else .aS [.v (.slice none 0 0),.v (.bool false)]
theorem alx:∀w0:ak,(gr w0).1.length<=5/\∀c∈(gr w0).1,c=97\/c=110\/c=118\/c=116\/c=98:=fun w0=>by
 unfold gr;split
 .decide
 split
 .decide
 split
 .decide
 split
 .decide
 split
 .decide
 exact⟨ae,fun c b=>by cases b⟩
theorem ac3{b:ak}{r:List ak}{i:Nat}{c:UInt8}{s:ak}(f:b[i]?=some c)(aj:r[i]?=some s)(x:jg):jE (b.drop i) (r.drop i) x=jE (b.drop (i+1)) (r.drop (i+1)) (k_ c s x):=by
 have h1:=(_l.1 f);have h2:=(_l.1 aj);rw[_f h1.1,_f h2.1,h1.2,h2.2,jE]
theorem Hn(c:UInt8)(s:ak)(x:jg):(k_ c s x).1.length<=x.1.length+2:=by
 unfold k_ iq lg;exact X9
theorem aeq(w0:ak)(r:List ak)(aw:Bool)(ax:∀w∈r,w.length<=1048576)(a0:r.length<=1048576):Spec prog 66 [.snap 1 (bk ((w0::r).map I)) aw] (C5 w0 r):=by
 have C:=aiS w0;obtain⟨a1,aC⟩:=alx w0;have am:cf (bk ((w0::r).map I)) 0=[.v (.string (I w0))]:=rfl;have a2:∀n:Nat,decide (((n+1:Nat):Int)=0)=false:=fun n=>decide_eq_false G
 have ao:IntKind.i64.wrap (((r.length+1:Nat):Int)-1)=(r.length:Nat):=er;have aD:cp (cC (bk ((w0::r).map I)) 1) (((r.length+1:Nat):Int)-1).toNat=bk (r.map I):=by
  show cp (cC (bk (r.map I)) 0) _=_;exact e1 (by rw[kn];omega)
 by_cases ac:vu w0 r
 .have aE:jy w0 r=jE (gr w0).1 r ([],true):=if_pos ac;unfold C5;rw[if_pos ac,aE];obtain⟨aF,a3⟩:=ac;rw[aF]at C;have ap:decide ((((gr w0).1.length:Nat):Int)=(r.length:Nat))=true:=decide_eq_true G;generalize (gr w0).1=z at *;refine az {} 0 func66 fun Γ an=>ar ?_
  repeat' first|(with_reducible refine gJ ?_);(refine eJ (ahI rfl) ?_)|refine af ?_|simp only[aU,ap,ao,kn]|refine J C ?_|refine ag ?_|refine ab ?_ ?_<;>intro h<;>try exact aa|simp only[am,aD,kn]
  have a4:bk (r.map I)=bk (r.map I):=rfl;refine bS (α:=Nat×jg×Nat×Nat) (fun x=>[(⟨.d0,.d4,.d7⟩,.v (.int .i64 (x.1:Nat)))]) (fun x=>[(0,some (qU Γ.g0 x.2.1)),(1,some (q8 (Γ.g0+1) x.2.2.1 x.2.1)),(9,some ⟨x.2.2.1,1,hd x.2.1.1⟩),(10,none)]) (fun x=>x.2.2.2) (fun x=>r.length-x.1) (fun x=>x.1<=r.length/\x.2.1.1.length<=2*x.1/\jE z r ([],true)=jE (z.drop x.1) (r.drop x.1) x.2.1) (0,([],true),Γ.g0+2,Γ.g0+3) ⟨_e _,_e _,rfl⟩ ?_ ?_
  .exact bs
  rintro⟨j,⟨fH,f⟩,g,bR⟩ ⟨aH,aI,cJ⟩;dsimp only at aH aI cJ⊢;refine bz ?_;by_cases aN:j<r.length
  .obtain⟨w,aq⟩:∃w,r[j]?=some w:=⟨_,_d aN⟩;obtain⟨c,av⟩:∃c,z[j]?=some c:=⟨_,_d G⟩;have ah:=sh aq;have Z:=ax w (_m aq);rw[ac3 av aq]at cJ;have ai:au z j=c.toNat:=C9 av;have aJ:(_g #[112,97,115,115]:ByteArray)=I ee:=rfl;have aM:(_g #[100,114,111,112]:ByteArray)=I fu:=rfl;have aO:=aC c (_m av);have a5:=ER (c:=47) w;have a6:=ER (c:=45) w;rcases aO with rfl|rfl|rfl|rfl|rfl
   .have Q:((au z j:Nat):Int)=97:=by rw[ai];rfl
    have X:=fun m g u=>Gc 1 0 m g u w (fH,f) Z xj
    have Y:=C;repeat' first|(with_reducible refine gJ ?_);(refine eJ (nv 10 9 rfl (fun _=>rfl)) ?_)|refine af ?_|simp only[aU,b_,_a,Q,decide_true,decide_false,kn,eq_self]|(with_reducible refine aL 115 ?_);fail|(with_reducible refine aL 117 ?_);(refine gb [1,9,0] [10] [1,9,0,10] rfl ae rfl rfl (X _ _ _) ?_)|refine J Y ?_|refine ag ?_|refine ab ?_ ?_<;>intro h<;>try exact aa|simp only[_a,_i,ah,kn]|exact al|fail
    refine br ⟨(j+1,k_ 97 w (fH,f),bR,bR+1),⟨aN,_p (Hn 97 w (fH,f)) (by show fH.length+2<=2*(j+1);omega),cJ⟩,_c aN (_b j),?_⟩;exact MW
   .have Q:((au z j:Nat):Int)=110:=by rw[ai];rfl
    have X:=fun m g u=>Gc 1 0 m g u w (fH,f) Z xj
    have aj:=fun m g u=>E5 1 0 m g u w (fH,f) Z xj
    have Y:=C;repeat' first|(with_reducible refine gJ ?_);(refine eJ (nv 10 9 rfl (fun _=>rfl)) ?_)|refine af ?_|simp only[aU,b_,_a,Q,decide_true,decide_false,kn,eq_self]|(with_reducible refine aL 115 ?_);(refine gb [1,9,0] [10] [1,9,0,10] rfl ae rfl rfl (aj _ _ _) ?_)|(with_reducible refine aL 117 ?_);(refine gb [1,9,0] [10] [1,9,0,10] rfl ae rfl rfl (X _ _ _) ?_)|refine J Y ?_|refine ag ?_|refine ab ?_ ?_<;>intro h<;>try exact aa|simp only[_a,_i,ah,kn]|exact al|fail
    refine br ⟨(j+1,k_ 110 w (fH,f),bR,bR+1),⟨aN,_p (Hn 110 w (fH,f)) (by show fH.length+2<=2*(j+1);omega),cJ⟩,_c aN (_b j),?_⟩;exact MW
   .have Q:((au z j:Nat):Int)=118:=by rw[ai];rfl
    have X:=fun m g u=>Gc 1 0 m g u w (fH,f) Z xj
    have Y:=C;have d1:decide (I w=I ee)=decide (w=ee):=decide_eq_decide.2 dF;have d2:decide (I w=I fu)=decide (w=fu):=decide_eq_decide.2 dF;have aP:k_ 118 w (fH,f)=(fH,f&&(decide (w=ee)||decide (w=fu))):=rfl;rw[aP]at cJ;generalize decide (w=ee)=aQ at *;generalize decide (w=fu)=aR at *;cases f<;>cases aQ<;>cases aR
    all_goals
     repeat' first|refine af ?_|simp only[aU,b_,_a,Q,decide_true,decide_false,kn,aJ,aM,d1,d2]|refine ag ?_|refine ab ?_ ?_<;>intro h<;>try exact aa|simp only[_a,_i,ah,kn]|exact al|fail
     refine br ⟨(j+1,(fH,_),g,bR),⟨aN,by show fH.length<=2*(j+1);omega,cJ⟩,_c aN (_b j),?_⟩;exact jJ
   .have Q:((au z j:Nat):Int)=116:=by rw[ai];rfl
    have Y:=AL 47 w Z;have aS:(_g #[47]:ByteArray)=I [47]:=rfl;have aT:k_ 116 w (fH,f)=iq (bJ 47 w).2.1 (lg (bJ 47 w).1 (fH,f&&(bJ 47 w).2.2)):=rfl;have fa:=Hn 116 w (fH,f);rw[aT]at cJ fa;generalize (bJ 47 w).1=A at *;generalize (bJ 47 w).2.1=B at *;generalize (bJ 47 w).2.2=U at *;have X:=fun m g u=>Gc 1 0 m g u A (fH,f&&U) G xj
    have aj:=fun m g u=>E5 1 0 m g u B (lg A (fH,f&&U)) G TI
    generalize aA:iq B (lg A (fH,f&&U))=N at *;cases f<;>cases U
    all_goals
     repeat' first|(with_reducible refine gJ ?_);(refine eJ (nv 10 9 rfl (fun _=>rfl)) ?_)|refine af ?_|simp only[aU,b_,_a,Q,decide_true,decide_false,kn,aS]|(with_reducible refine aL 115 ?_);(refine gb [1,9,0] [10] [1,9,0,10] rfl ae rfl rfl (aj _ _ _) ?_)|(with_reducible refine aL 117 ?_);(refine gb [1,9,0] [10] [1,9,0,10] rfl ae rfl rfl (X _ _ _) ?_)|refine J Y ?_|refine ag ?_|refine ab ?_ ?_<;>intro h<;>try exact aa|simp only[_a,_i,ah,kn]|exact al|fail
     exact Qy
   have Q:((au z j:Nat):Int)=98:=by rw[ai];rfl
   have Y:=AL 45 w Z;have aV:(_g #[45]:ByteArray)=I [45]:=rfl;have aX:k_ 98 w (fH,f)=iq (bJ 45 w).2.1 (iq (bJ 45 w).1 (fH,f&&(bJ 45 w).2.2)):=rfl;have fa:=Hn 98 w (fH,f);rw[aX]at cJ fa;generalize (bJ 45 w).1=A at *;generalize (bJ 45 w).2.1=B at *;generalize (bJ 45 w).2.2=U at *;have X:=fun m g u=>E5 1 0 m g u A (fH,f&&U) G xj
   have aj:=fun m g u=>E5 1 0 m g u B (iq A (fH,f&&U)) G TI
   generalize a7:iq A (fH,f&&U)=M at *;generalize aA:iq B M=N at *;cases f<;>cases U
   all_goals
    repeat' first|(with_reducible refine gJ ?_);(refine eJ (nv 10 9 rfl (fun _=>rfl)) ?_)|refine af ?_|simp only[aU,b_,_a,Q,decide_true,decide_false,kn,aV]|((with_reducible refine aL 115 ?_);first|refine gb [1,9,0] [10] [1,9,0,10] rfl ae rfl rfl (aj _ _ _) ?_|refine gb [1,9,0] [10] [1,9,0,10] rfl ae rfl rfl (X _ _ _) ?_)|refine J Y ?_|refine ag ?_|refine ab ?_ ?_<;>intro h<;>try exact aa|simp only[_a,_i,ah,kn]|exact al|fail
    exact Qy
  obtain rfl:j=r.length:=G;rw[_n]at cJ;have aY:jE (z.drop r.length) [] (fH,f)=(fH,f):=by cases z.drop r.length<;>rfl
  rw[aY]at cJ;rw[cJ];have aZ:kN ⟨g,1,hd fH⟩ [[.aG 1 g 1 0 fH.length false]] [[.snap 1 (hd fH) false]]:=by
   refine⟨⟨.inl ⟨rfl,rfl,?_,?_⟩,rfl⟩,rfl⟩
   .show 0+_<=_;rw[E3];omega
   show O.snap _ _ _=O.snap _ _ _;rw[e1 (by rw[E3])]
  have a8:=N4 fH Γ.g0;repeat' first|(with_reducible refine gJ ?_);(refine dv (j_ an 1 9 ae rfl rfl aZ) ?_)|refine af ?_|refine ag ?_|refine ab ?_ ?_<;>intro h<;>try exact aa|simp only[kn]|exact al|fail
  all_goals exact b0
 unfold C5;rw[if_neg ac];cases h2:(gr w0).2 with
 |false=>
  rw[h2]at C;generalize (gr w0).1=z at *;refine az {} 0 func66 fun Γ an=>ar ?_
  repeat' first|refine af ?_|simp only[aU,ao,kn]|refine J C ?_|refine ag ?_|refine ab ?_ ?_<;>intro h<;>try exact aa|simp only[am,kn]|exact al|fail
  all_goals exact bM
 |true=>
  rw[h2]at C;have ap:decide ((((gr w0).1.length:Nat):Int)=(r.length:Nat))=false:=decide_eq_false (fun q=>ac ⟨h2,G⟩);generalize (gr w0).1=z at *;refine az {} 0 func66 fun Γ an=>ar ?_
  repeat' first|refine af ?_|simp only[aU,ap,ao,kn]|refine J C ?_|refine ag ?_|refine ab ?_ ?_<;>intro h<;>try exact aa|simp only[am,kn]|exact al|fail
  all_goals exact bM
end Go.Proofs.YtdiobdlinjgakaaGreatDoor.R
namespace Go.Proofs.YtdiobdlinjgakaaGreatDoor.R
theorem Rf{sub:ak}(g:sub≠[]):∀l:ak,0<=_h l sub↔sub <:+: l
 |[]=>by
  rw[_h];have:sub.isEmpty=false:=by cases sub<;>simp_all
  rw[this];constructor
  .intro h;simp at h
  intro h;have:=List.infix_nil.1 h;exact absurd this g
 |b::l=>by
  have j:=Rf g l;have u:=Lib.index_ge l sub;rw[_h,List.infix_cons_iff];by_cases c:sub.isPrefixOf (b::l)=true
  .rw[if_pos c];exact⟨fun _=>.inl (_k.1 c),fun _=>Int.le_refl _⟩
  rw[if_neg c];have m:¬sub <+: b::l:=fun q=>c (_k.2 q)
  by_cases bg:_h l sub = -1
  .have f:(_h l sub == -1)=true:=by simpa using bg
   rw[if_pos f];constructor
   .intro h;omega
   rintro(h|h)
   .exact absurd h m
   have:=j.2 h;omega
  have f:¬(_h l sub == -1)=true:=Gl;rw[if_neg f];constructor
  .intro _;exact .inr (j.1 G)
  intro _;omega
theorem ahh(H:List ak)(c:w4 H)(w:ak)(g:w∈mn):Spec prog 67 [.v (.string (I (gQ H))),.v (.string (I (w++[32])))] (.v (.bool (decide (w∈H)))):=by
 have e:_q (gQ H) (w++[32])=decide (w∈H):=by
  have h1:=Rf (sub:=w++[32]) aF (gQ H);have h2:=afy c.1 g;unfold _q;by_cases b:w∈H
  .have:=h1.2 (h2.2 b);simp[b];omega
  have:¬0<=_h (gQ H) (w++[32]):=fun q=>b (h2.1 (h1.1 q))
  simp[b];omega
 have f:∀l:ak,(I l).data.toList=l:=fun l=>nY
 have C:=OM c;refine r4 b4 fun K w0 G g0 j m=>?_
 obtain⟨J,M,rfl,aw,aY⟩:=Yc m;cases aw;cases aY;obtain⟨u,b⟩:Bf (w0.cell? ⟨0,0,none⟩):=Rk ((j.mC (g:=0) (cs:=[.tuple #[.nilIface]]) qt).2.2.1 0 _ rfl);refine(Tryz.strings_Contains (I (gQ H)) (I (w++[32])) u w0 (by rw[aU];omega) b).mono fun O Q ⟨x,z⟩=>⟨_,x,?_,?_⟩
 .rw[z];exact cN.refl _ _
 rw[f,f,e];exact .v _
theorem K9{c:UInt8}:∀l:ak,(bJ c l).2.2=false->(bJ c l).2.1=[]
 |[],_=>rfl
 |b::l,h=>by
  unfold bJ at h⊢;split at h
  .cases h
  rename_i f;rw[if_neg f];exact K9 l h
theorem af_(i:Nat)(p:b6)(H:List ak)(l:ak):e4 i p H [l]=e4 i p H [l,[]]:=by
 have e:∀(i:Nat)(p:b6)(H:List ak),e4 i p H []=e4 i p H [[]]:=fun i p H=>by rw[Og,e4]
 cases h:dj l with
 |nil=>rw[FK h,FK h,e]
 |cons w0 r=>rw[GU h,GU h,e,e,e]
theorem alW(i:Nat)(p:b6)(H:List ak)(s:ak):e4 i p H (bm 10 s)=e4 i p H ((bJ 10 s).1::bm 10 (bJ 10 s).2.1):=by
 rw[YP];cases h:(bJ 10 s).2.2 with
 |true=>rw[if_pos rfl]
 |false=>
  rw[if_neg aF,K9 s h];exact af_ _ _ _ _
def Hl(c:UInt8):Nat:=if c=97 then 1 else if c=110 then 1 else if c=118 then 0 else if c=116 then 2 else if c=98 then 2 else 0
theorem alc(c:UInt8)(s:ak)(x:jg):(k_ c s x).1.length=x.1.length+Hl c:=by
 unfold k_ Hl iq lg;exact X9
theorem Tw:∀(b:ak)(r:List ak)(x:jg),b.length=r.length->(jE b r x).1.length=x.1.length+(b.map Hl).sum
 |[],[],x,_=>by simp[jE]
 |c::f,s::g,x,h=>by
  rw[jE,Tw f g _ hc,alc];simp;omega
 |[],_::_,_,h=>fE
 |_::_,[],_,h=>fE
theorem ajo{w0:ak}{r:List ak}(h:(jy w0 r).2=true):vu w0 r:=by
 by_cases b:vu w0 r
 .exact b
 have:jy w0 r=([],false):=if_neg b;rw[this]at h;cases h
theorem afH{w0:ak}{r:List ak}(h:vu w0 r):(jy w0 r).1.length=((gr w0).1.map Hl).sum:=by
 have e:jy w0 r=jE (gr w0).1 r ([],true):=if_pos h;rw[e,Tw _ _ _ h.2];simp
end Go.Proofs.YtdiobdlinjgakaaGreatDoor.R
