import Derived.Test.YtdiobdlinjgakaaGreatDoorDh17
set_option linter.unusedVariables false
set_option linter.unusedSimpArgs false
set_option maxHeartbeats 8000000
set_option maxRecDepth 100000
open Go.Proofs.Tryz
open Go.IntWalk renaming i64_in->_a,u32_in->_q
open Go.IntKind renaming i64->_b,u32->_g,u8->_m,wrap_u8->_w
open Int renaming toNat_natCast->_c,fdiv_eq_ediv_of_nonneg->_l,ofNat_tmod->_v
open List renaming length_map->_d,getElem?_eq_getElem->_e,all_eq_true->_j,eq_nil_of_length_eq_zero->_k,mem_of_getElem?->_n,take_length->_r,length_drop->_s,length_nil->_u
open Go.Lib renaming countByte->_f
open Nat renaming le_refl->_h,zero_le->_o,sub_lt_sub_left->_p,lt_succ_self->_t
open ByteArray renaming mk->_i
namespace Go.Proofs.YtdiobdlinjgakaaGreatDoor
def fk(t:List UInt8):List (List O):=t.map (fun b=>[.v (.int .u8 (b.toNat:Int))])
theorem Hj(t:List UInt8):kq (I t)=fk t:=rfl
theorem Gr(a:Int):_m.wrap a=((u8 a).toNat:Int):=by rw[zp,_w]
theorem GO:∀t:List UInt8,ow (fk t)=true
 |[]=>rfl
 |a::r=>by
  have:=GO r;simp only[fk,List.map_cons,ow]at this⊢;first|exact this|rw[this];rfl
theorem KK(t:List UInt8):strOf (fk t)=I t:=by
 rw[strOf_mk];unfold fk;rw[List.map_map];refine congrArg I ?_;conv=>rhs;rw[<-List.map_id t]
 refine List.map_congr_left fun a _=>?_
 show UInt8.ofNat ((a.toNat:Int)).toNat=a;simp
theorem Ah:∀t:List UInt8,eW (fk t)=true:=j2 (f:=fun b:UInt8=>[O.v (.int .u8 (b.toNat:Int))]) (fun x=>rfl)
theorem i_(t:List UInt8):(fk t).length=t.length:=_d _
theorem OY(a b:List UInt8):fk a++fk b=fk (a++b):=(List.map_append).symm
attribute [local irreducible] bc Go
theorem An(n:Int):Spec prog 108 [.v (.int .i64 n)] (.v (.string (I (a1 n)))):=by
 have h1:n.fdiv (2 ^ 8)=n/256:=_l _ ae;have aj:strOf [[.v (.int .u8 (_m.wrap (n/256)))],[.v (.int .u8 (_m.wrap n))]]=I (a1 n):=MY;refine az {} 0 func108 fun Γ an=>ar ?_
 exact Kn
theorem TJ(a:Int)(c:0<=a)(h1:a<4294967296):Spec prog 109 [.v (.int .u32 a)] (.v (.string (I (c_ a)))):=by
 have oW:min 16 _g.bits=16:=rfl;have a_:a.fdiv (2 ^ 16)=a/65536:=_l _ ae;have dk:_b.wrap (a/65536)=a/65536:=_a _ G;have gn:_b.wrap a=a:=_a _ G;have bl:=An (a/65536);have bD:=An a;refine az {} 0 func109 fun Γ an=>ar ?_
 exact SA
theorem xz(l:List UInt8)(i:Nat)(f:i+1<l.length)(hl:l.length<=9223372036854775806)(b:Int)(c:b=(i:Nat)):Spec prog 225 [.v (.string (I l)),.v (.int .i64 b)] (.v (.int .i64 (ao l i))):=by
 subst c;have g:=eQ l i;have j:=eQ l (i+1);have a_:_b.wrap (au l i:Nat)=(au l i:Nat):=_a _ G;have a8:_b.wrap (au l (i+1):Nat)=(au l (i+1):Nat):=_a _ G;have dk:_b.wrap ((i:Int)+1)=((i+1:Nat):Int):=er;have pd:bits .or .i64 (_b.wrap ((au l i:Nat)*2 ^ 8)) (au l (i+1):Nat)=ao l i:=JY _ _ G G G G;refine az {} 0 func225 fun Γ an=>ar ?_
 exact MP
theorem Xv(l:List UInt8)(i:Nat)(g:i+3<l.length)(hl:l.length<=9223372036854775800)(c:Int)(f:c=(i:Nat)):Spec prog 226 [.v (.string (I l)),.v (.int .i64 c)] (.v (.int .u32 (eh l i))):=by
 subst f;have h1:=xz l i G G i rfl;have h2:=xz l (i+2) G G ((i:Int)+2) G;have ah:=di l i;have ai:=di l (i+2);have Q0:min 16 _g.bits=16:=rfl;have oW:_b.wrap ((i:Int)+2)=(i:Int)+2:=_a _ G;have a_:_g.wrap (ao l i)=ao l i:=_q _ G;have a8:_g.wrap (ao l (i+2))=ao l (i+2):=_q _ G;have dk:bits .or .u32 (_g.wrap (ao l i*2 ^ 16)) (ao l (i+2))=eh l i:=by exact Rq
 refine az {} 0 func226 fun Γ an=>ar ?_
 exact SZ
structure dr where
 (k:Int) (d:List UInt8)
deriving DecidableEq
abbrev dr.enc(t:dr):List O:=[.v (.int .i64 t.k),.v (.string (I t.d))]
structure jx where
 (ax to seq bo flags win gm:Int) (opts:List dr) (data:List UInt8)
abbrev jx.enc(g:jx):List O:=[.v (.int .i64 g.ax),.v (.int .i64 g.to),.v (.int .u32 g.seq),.v (.int .u32 g.bo),.v (.int .i64 g.flags),.v (.int .i64 g.win),.v (.int .i64 g.gm),.snap 2 (g.opts.map dr.enc) false,.v (.string (I g.data))]
abbrev Nx(g:jx):O:=.agg g.enc
theorem TK{l:List dr}{k:Nat}{t:dr}(b:l[k]?=some t):cf (l.map dr.enc) k=[.v (.int .i64 t.k),.v (.string (I t.d))]:=h7 dr.enc l k t b
theorem abh{g:FuncId}{caps:List O}(p:dr->Bool)(l:List dr)(c:Bool)(hl:l.length<=maxLen)(b8:∀t∈l,Spec prog g (.agg (dr.enc t)::caps) (.v (.bool (p t)))):Spec prog 172 [.snap 2 (l.map dr.enc) c,.fn (.func g) [] caps] (.v (.int .i64 (bU p l 0))):=by
 unfold maxLen at hl;refine az {} 0 func172 fun Γ an=>ar ?_
 repeat' first|refine af ?_|refine ag ?_|refine ab ?_ ?_<;>intro h<;>try exact aa|fail
 refine bS (α:=Nat) (fun k=>[(⟨.d0,.d1,.d0⟩,.v (.int .i64 (k:Nat)))]) (fun _=>[]) (fun _=>Γ.g0) (fun k=>l.length-k) (fun k=>k<=l.length/\bU p l 0=bU p (l.drop k) k) 0 ⟨_o _,rfl⟩ ?_ ?_
 .exact bs
 rintro k ⟨f,a6⟩;refine bz ?_;by_cases aN:k<l.length
 .obtain⟨t,bT⟩:∃t,l[k]?=some t:=⟨_,_e aN⟩;have dU:=h7 dr.enc l k t bT;exact xD
 exact vq
end Go.Proofs.YtdiobdlinjgakaaGreatDoor
namespace Go.Proofs.YtdiobdlinjgakaaGreatDoor
theorem lp:(_i #[]:ByteArray)=I []:=rfl
theorem q7:(_i #[0]:ByteArray)=I [0]:=rfl
def kt(s:List UInt8):Bool:=s.all (fun b=>decide (b=0))
theorem ai5:kt []=true:=rfl
theorem ahr{s:List UInt8}(h:¬au s 0=0):kt s=false:=by
 cases s with
 |nil=>exact absurd rfl h
 |cons b r=>
  have:¬b=0:=fun e=>h (by subst e;rfl)
  simp[kt,this]
theorem JS{s:List UInt8}(h:kt s=false):0<s.length:=by
 cases s with
 |nil=>cases h
 |cons b r=>simp
def gp(s:List UInt8):Option (List dr):=
 if b:kt s=true then some []
 else if au s 0=0 then none
 else if au s 0=1 then(gp (s.drop 1)).map (fun l=>⟨1,[]⟩::l)
 else if c:2<=s.length/\2<=au s 1/\au s 1<=s.length then(gp (s.drop (au s 1))).map (fun l=>⟨(au s 0:Nat),(s.drop 2).take (au s 1-2)⟩::l)
 else none
termination_by s.length
decreasing_by
 .have:=JS (Bool.eq_false_iff.2 b);simp;omega
 simp;omega
theorem G4{s:List UInt8}(h:kt s=true):gp s=some []:=by rw[gp,dif_pos h]
theorem Uv{s:List UInt8}(h:kt s=false)(b:au s 0=0):gp s=none:=by rw[gp,dif_neg (by rw[h];simp),if_pos b]
theorem OF{s:List UInt8}(h:au s 0=1):gp s=(gp (s.drop 1)).map (fun l=>⟨1,[]⟩::l):=by rw[gp,dif_neg KB,if_neg G,if_pos h]
theorem WS{s:List UInt8}(h:2<=au s 0)(b:2<=s.length/\2<=au s 1/\au s 1<=s.length):gp s=(gp (s.drop (au s 1))).map (fun l=>⟨(au s 0:Nat),(s.drop 2).take (au s 1-2)⟩::l):=by rw[gp,dif_neg KB,if_neg G,if_neg G,dif_pos b]
theorem Pc{s:List UInt8}(h:2<=au s 0)(b:¬(2<=s.length/\2<=au s 1/\au s 1<=s.length)):gp s=none:=by rw[gp,dif_neg KB,if_neg G,if_neg G,dif_neg b]
def qI(s:List UInt8):List dr×Bool:=match gp s with
 |some l=>(l,true)
 |none=>([],false)
theorem rM{s:List UInt8}{l:List dr}(h:gp s=some l):qI s=(l,true):=by unfold qI;rw[h]
theorem pW{s:List UInt8}(h:gp s=none):qI s=([],false):=by unfold qI;rw[h]
abbrev Kk(r:List dr×Bool):O:=.aS [.snap 2 (r.1.map dr.enc) false,.v (.bool r.2)]
theorem BJ(b:Bool):hy (.aS [.v (.slice none 0 0),.v (.bool b)]) (Kk ([],b)):=by simp[hy,qD]
theorem Y2(s:List UInt8):kt s=true↔∀i,i<s.length->au s i=0:=by
 unfold kt;rw[_j];constructor
 .intro h i c;have:=h s[i] (List.getElem_mem c);have e:s[i]=0:=oe;unfold au;rw[_e c,e];rfl
 intro h b f;obtain⟨i,c,rfl⟩:=List.mem_iff_getElem.1 f;have:=h i c;unfold au at this;rw[_e c]at this;simp only[Option.getD_some]at this;refine decide_eq_true ?_;exact UInt8.toNat_inj.1 this
theorem FG:∀(n:Nat)(s:List UInt8)(l:List dr),s.length<=n->gp s=some l->l.length<=s.length
 |0,s,l,c,h=>by
  obtain rfl:s=[]:=_k G;rw[G4 ai5]at h;cases h;exact hT
 |n+1,s,l,c,h=>by
  rw[gp]at h;split at h
  .cases h;exact pf
  rename_i f;have g:=JS (Bool.eq_false_iff.2 f);split at h
  .cases h
  split at h
  .cases b:gp (s.drop 1)with
   |none=>rw[b]at h;cases h
   |some q=>
    rw[b]at h;have:=FG n (s.drop 1) q c7 b;cases h;simp at this⊢;omega
  split at h
  .rename_i j;cases b:gp (s.drop (au s 1))with
   |none=>rw[b]at h;cases h
   |some q=>
    rw[b]at h;have:=FG n (s.drop (au s 1)) q c7 b;cases h;simp at this⊢;omega
  cases h
attribute [local irreducible] bc Go
theorem SB(l:List UInt8):Spec prog 34 [.v (.string (I l)),.v (.string (I [0]))] (.v (.int .i64 (_f l 0:Nat))):=by
 have a_:(I l).data.toList=l:=nY;have a8:(I [0]).size=1:=rfl;have dk:og (I [0]) 0=0:=rfl;have gn:(0:Int).toNat.toUInt8=0:=rfl;exact Wk
theorem P2(l:List UInt8):_f l 0=l.length↔kt l=true:=by
 unfold _f kt;rw[List.count_eq_length,_j];constructor
 .intro h b c;exact decide_eq_true (h b c).symm
 intro h b c;exact(of_decide_eq_true (h b c)).symm
theorem abx(s:List UInt8)(aj:s.length<=40):Spec prog 224 [.v (.string (I s))] (Kk (qI s)):=by
 refine az {same:=true} 0 func224 fun Γ an=>ar ?_
 repeat' first|refine af ?_|refine ag ?_|refine ab ?_ ?_<;>intro h<;>try exact aa|fail
 apply eJ
 .exact gU ⟨.d0,.d0,.d4⟩ 1 2 rfl rfl
 refine bz ?_;refine bS (α:=List dr×List UInt8×Nat×Nat) (fun x=>[(⟨.d0,.d0,.d4⟩,.aG 1 x.2.2.1 2 0 x.1.length false),(⟨.d0,.d0,.d0⟩,.v (.string (I x.2.1)))]) (fun x=>[(0,none),(1,some ⟨x.2.2.1,2,x.1.map dr.enc⟩),(2,none)]) (fun x=>x.2.2.2) (fun x=>x.2.1.length) (fun x=>gp s=(gp x.2.1).map (x.1 ++ ·)/\x.1.length+x.2.1.length<=40) ([],s,Γ.g0,Γ.g0+1) ⟨aF,BK⟩ ?_ ?_
 .exact bs
 rintro⟨out,t,ap,f⟩ ⟨b,M⟩;dsimp only at b M⊢;refine bz ?_;have aq:=eQ t 0;have av:=eQ t 1;by_cases g:t=[]
 .have c:kt t=true:=by rw[g];rfl
  have j:qI s=(out,true):=rM (by rw[b,G4 c];simp);rw[j];have aw:t.length=0:=by rw[g];rfl
  have O:I t=I []:=by rw[g]
  repeat' first|refine af ?_|simp only[O]|simp only[aU,_u,b_,lp,dF,_c]|refine ag ?_|refine ab ?_ ?_<;>intro h<;>try exact aa|exact al|fail
  all_goals try exfalso;simp at h;done
  refine bS (α:=Unit) (fun _=>[(⟨.d0,.d7,.d1⟩,.v (.int .i64 0))]) (fun _=>[]) (fun _=>f) (fun _=>0) (fun _=>True) () trivial ?_ ?_
  .exact bs
  rintro⟨⟩ -;refine bz ?_;repeat' first|refine af ?_|simp only[aU,_u]|refine ag ?_|refine ab ?_ ?_<;>intro h<;>try exact aa|exact al|fail
  all_goals try exfalso;simp at h;done
  exact N0
 have ax:0<t.length:=List.length_pos_iff.2 g;by_cases Q:au t 0=0
 .have U:((au t 0:Nat):Int)=0:=by omega
  repeat' first|refine af ?_|simp only[aU,b_,lp,dF,_c]|simp only[U]|refine ag ?_|refine ab ?_ ?_<;>intro h<;>try exact aa|exact al|fail
  all_goals try exfalso;simp_all;done
  refine bS (α:=Nat) (fun i=>[(⟨.d0,.d7,.d1⟩,.v (.int .i64 (i:Nat)))]) (fun _=>[]) (fun _=>f) (fun i=>t.length-i) (fun i=>i<=t.length/\∀k,k<i->au t k=0) 0 ⟨_o _,fun k h=>absurd h (Nat.not_lt_zero _)⟩ ?_ ?_
  .exact bs
  rintro i ⟨X,m⟩;dsimp only at X m⊢;refine bz ?_;by_cases C:i<t.length
  .by_cases J:au t i=0
   .repeat' first|refine af ?_|simp only[aU,b_,_c]|refine ag ?_|refine ab ?_ ?_<;>intro h<;>try exact aa|exact al|fail
    all_goals try exfalso;simp_all;done
    refine br ⟨i+1,⟨C,fun k Y=>?_⟩,G,?_⟩
    .by_cases e:k=i
     .rw[e];exact J
     exact m k G
    exact jJ
   have c:kt t=false:=by
    cases c:kt t with
    |false=>rfl
    |true=>exact absurd ((Y2 t).1 c i C) J
   have q:qI s=([],false):=pW (by rw[b,Uv c Q];rfl);rw[q];have aA:¬((au t i:Nat):Int)=0:=G;repeat' first|refine af ?_|simp only[aU,b_,_c]|refine ag ?_|refine ab ?_ ?_<;>intro h<;>try exact aa|exact al|fail
   all_goals try exfalso;simp_all;done
   refine ev (j1 (gU ⟨.d0,.d0,.d2⟩ 9 2 rfl rfl)) (ev (fG an ⟨.d0,.d0,.d2⟩ rfl rfl ⟨rfl,rfl,hT⟩) ?_);dsimp only[cp,cC];all_goals exact b0
  have c:kt t=true:=(Y2 t).2 (fun k Y=>m k G);have j:qI s=(out,true):=rM (by rw[b,G4 c];simp);rw[j];repeat' first|refine af ?_|simp only[aU]|refine ag ?_|refine ab ?_ ?_<;>intro h<;>try exact aa|exact al|fail
  exact N0
 have Z:(I t).extract 1 t.length=I (t.drop 1):=qy;by_cases h1:au t 0=1
 .have ac:((au t 0:Nat):Int)=1:=by omega
  repeat' first|refine af ?_|simp only[aU,b_,lp,dF,_c]|simp only[ac]|simp only[Z]|refine ag ?_|refine ab ?_ ?_<;>intro h<;>try exact aa|refine aK ⟨aH,aH,aH,aH,by rw[_d]⟩ ?_|refine aK ⟨by rfl,DF⟩ ?_|exact al|fail
  all_goals try exfalso;simp_all;done
  refine br ⟨(out++[⟨1,[]⟩],t.drop 1,f+1,f+1+1),⟨?_,c7⟩,c7,?_⟩
  .rw[b,OF h1];cases gp (t.drop 1)<;>simp
  exact S9
 by_cases u:2<=t.length/\2<=au t 1/\au t 1<=t.length
 .obtain⟨bW,dq,n3⟩:=u;have ae:_b.wrap ((au t 0:Nat):Int)=((au t 0:Nat):Int):=_a _ G;have z:_b.wrap ((au t 1:Nat):Int)=((au t 1:Nat):Int):=_a _ G;have ah:(I t).extract 2 (au t 1)=I ((t.drop 2).take (au t 1-2)):=fK _ _ _;have ai:(I t).extract (au t 1) t.length=I (t.drop (au t 1)):=qy;have ak:=WS (s:=t) G ⟨bW,dq,n3⟩;have am:¬((au t 0:Nat):Int)=0:=G;have ao:¬((au t 0:Nat):Int)=1:=G;repeat' first|refine af ?_|simp only[aU,b_,lp,dF,ae,z,_c]|simp only[ah,ai]|refine ag ?_|refine ab ?_ ?_<;>intro h<;>try exact aa|refine aK ⟨aH,aH,aH,aH,by rw[_d]⟩ ?_|refine aK ⟨by rfl,DF⟩ ?_|exact al|fail
  all_goals try exfalso;simp_all;done
  refine br ⟨(out++[⟨(au t 0:Nat),(t.drop 2).take (au t 1-2)⟩],t.drop (au t 1),f+1,f+1+1),⟨?_,c7⟩,c7,?_⟩
  .rw[b,ak];cases gp (t.drop (au t 1))<;>simp
  exact S9
 have q:qI s=([],false):=pW (by rw[b,Pc G u];rfl);rw[q];have z:_b.wrap ((au t 1:Nat):Int)=((au t 1:Nat):Int):=_a _ G;have am:¬((au t 0:Nat):Int)=0:=G;have ao:¬((au t 0:Nat):Int)=1:=G;repeat' first|refine af ?_|simp only[aU,b_,lp,dF,z,_c]|refine ag ?_|refine ab ?_ ?_<;>intro h<;>try exact aa|exact al|fail
 all_goals first|exfalso;simp_all;done|exfalso;apply u;simp_all;omega|skip
 all_goals (refine ev (j1 (gU ⟨.d0,.d0,.d2⟩ 9 2 rfl rfl)) (ev (fG an ⟨.d0,.d0,.d2⟩ rfl rfl ⟨rfl,rfl,hT⟩) ?_))
 all_goals dsimp only[cp,cC]
 all_goals exact b0
theorem ae6:∀(n:Nat)(s:List UInt8),s.length<=n->s.length<=40->Spec prog 137 [.v (.string (I s))] (Kk (qI s)):=by
 intro n;induction n with
 |zero=>
  intro s f aj;have b3:kt s=true:=by rw[_k (Nat.le_zero.1 f)];rfl
  have r7:=SB s;exact VY
 |succ n m=>
  intro s f aj;have r7:=SB s;cases b3:kt s with
  |true=>exact VY
  |false=>
   have M:=JS b3;have Q:¬((_f s 0:Nat):Int)=(s.length:Nat):=fun e=>by
    have:=(P2 s).1 G;rw[b3]at this;cases this
   generalize _f s 0=U at *;have X:=eQ s 0;have Y:=eQ s 1;have w0:_b.wrap ((au s 0:Nat):Int)=((au s 0:Nat):Int):=_a _ G;have bl:_b.wrap ((au s 1:Nat):Int)=((au s 1:Nat):Int):=_a _ G;by_cases u:au s 0=0
   .rw[pW (Uv b3 u)];refine nh ?_ (BJ _);have Z:((au s 0:Nat):Int)=0:=G;exact El
   by_cases h1:au s 0=1
   .have g:((au s 0:Nat):Int)=1:=by omega
    have aT:=m (s.drop 1) c7 c7;have c:=OF h1;have gh:(I s).extract 1 s.length=I (s.drop 1):=qy;rw[g]at w0;cases ay:gp (s.drop 1)with
    |none=>
     rw[pW ay]at aT;rw[ay]at c;rw[pW c];refine nh ?_ (BJ _);refine az {} 0 func137 fun Γ an=>ar ?_
     repeat' first|refine af ?_|simp only[aU,b_,q7,_c]|simp only[w0]|simp only[bl]|simp only[gh]|simp only[h_,kd]|refine J r7 ?_|refine J (cA _ _ _) ?_|refine J aT ?_|refine ag ?_|refine ab ?_ ?_<;>intro h<;>try exact aa|simp only[g]|exact al|fail
     all_goals first|exfalso;simp_all;done|exfalso;simp_all;omega|skip
     all_goals exact bM
    |some q=>
     have qq:=FG _ _ _ (_h _) ay;simp only[_s]at qq;rw[rM ay]at aT;rw[ay]at c;rw[rM c];cases q with
     |nil=>
      refine az {} 0 func137 fun Γ an=>ar ?_
      repeat' first|refine af ?_|simp only[aU,b_,q7,_c]|simp only[w0]|simp only[bl]|simp only[gh]|simp only[h_,kd]|refine J r7 ?_|refine J (cA _ _ _) ?_|refine J aT ?_|refine ag ?_|refine ab ?_ ?_<;>intro h<;>try exact aa|simp only[g]|with_reducible refine zi ?_|exact al|fail
      exact Wh
     |cons o r=>
      have j:=j2 (f:=dr.enc) (fun x=>rfl) (o::r);refine az {} 0 func137 fun Γ an=>ar ?_
      repeat' first|refine af ?_|simp only[aU,b_,q7,_c]|simp only[w0]|simp only[bl]|simp only[gh]|simp only[h_,kd]|refine J r7 ?_|refine J (cA _ _ _) ?_|refine J aT ?_|refine ag ?_|refine ab ?_ ?_<;>intro h<;>try exact aa|simp only[g]|with_reducible refine hZ ?_|refine aK ⟨Or.inl aF,rfl,j,Xj⟩ ?_|exact al|fail
      all_goals first|exfalso;simp_all;done|exfalso;simp_all;omega|skip
      refine ev (fG an ⟨.d0,.d0,.d2⟩ rfl rfl ⟨rfl,rfl,by(simp;try omega)⟩) ?_;rw[e1 (by(simp;try omega))];rw[show([[O.v (.int .i64 1),O.v (.string (_i #[]))]]:List (List O))++(o::r).map dr.enc=((⟨1,[]⟩::o::r:List dr).map dr.enc)from rfl];all_goals exact b0
   by_cases f:2<=s.length/\2<=au s 1/\au s 1<=s.length
   .obtain⟨bW,dq,n3⟩:=f;have z:¬((au s 0:Nat):Int)=0:=G;have C:1<((au s 0:Nat):Int):=G;have aT:=m (s.drop (au s 1)) c7 c7;have c:=WS (s:=s) G ⟨bW,dq,n3⟩;have h_:(I s).extract 2 (au s 1)=I ((s.drop 2).take (au s 1-2)):=fK _ _ _;have kd:(I s).extract (au s 1) s.length=I (s.drop (au s 1)):=qy;cases ay:gp (s.drop (au s 1))with
    |none=>
     rw[pW ay]at aT;rw[ay]at c;rw[pW c];refine nh ?_ (BJ _);exact El
    |some q=>
     have qq:=FG _ _ _ (_h _) ay;simp only[_s]at qq;rw[rM ay]at aT;rw[ay]at c;rw[rM c];cases q with
     |nil=>
      refine az {} 0 func137 fun Γ an=>ar ?_
      repeat' first|refine af ?_|simp only[aU,b_,q7,_c]|simp only[w0]|simp only[bl]|simp only[gh]|simp only[h_,kd]|refine J r7 ?_|refine J (cA _ _ _) ?_|refine J aT ?_|refine ag ?_|refine ab ?_ ?_<;>intro h<;>try exact aa|with_reducible refine zi ?_|exact al|fail
      exact Wh
     |cons o r=>
      have j:=j2 (f:=dr.enc) (fun x=>rfl) (o::r);refine az {} 0 func137 fun Γ an=>ar ?_
      repeat' first|refine af ?_|simp only[aU,b_,q7,_c]|simp only[w0]|simp only[bl]|simp only[gh]|simp only[h_,kd]|refine J r7 ?_|refine J (cA _ _ _) ?_|refine J aT ?_|refine ag ?_|refine ab ?_ ?_<;>intro h<;>try exact aa|with_reducible refine hZ ?_|refine aK ⟨Or.inl aF,rfl,j,Xj⟩ ?_|exact al|fail
      all_goals first|exfalso;simp_all;done|exfalso;simp_all;omega|skip
      refine ev (fG an ⟨.d0,.d0,.d2⟩ rfl rfl ⟨rfl,rfl,by(simp;try omega)⟩) ?_;rw[e1 (by(simp;try omega))];rw[show([[O.v (.int .i64 (au s 0:Nat)),O.v (.string (I ((s.drop 2).take (au s 1-2))))]]:List (List O))++(o::r).map dr.enc=((⟨(au s 0:Nat),(s.drop 2).take (au s 1-2)⟩::o::r:List dr).map dr.enc)from rfl];all_goals exact b0
   rw[pW (Pc G f)];refine nh ?_ (BJ _);have z:¬((au s 0:Nat):Int)=0:=G;have C:1<((au s 0:Nat):Int):=G;exact El
def dJ(s:List UInt8):Nat:=au s 12/16*4
def jz:jx:=⟨0,0,0,0,0,0,0,[],[]⟩
def dM(s:List UInt8)(a b:Int):jx×Int:=
 if s.length<20\/s.length<dJ s then(jz,3)
 else if¬(20<=dJ s/\au s 12%16=0)then(jz,4)
 else if 65455+dJ s<s.length then(jz,2)
 else match gp ((s.drop 20).take (dJ s-20))with
  |none=>(jz,4)
  |some l=>if¬ck (bP (dC a b 6 s.length++s))=65535 then(jz,5)
   else(⟨ao s 0,ao s 2,eh s 4,eh s 8,(au s 13:Nat),ao s 14,ao s 18,l,s.drop (dJ s)⟩,0)
abbrev MH(r:jx×Int):O:=.aS [Nx r.1,.v (.int .i64 r.2)]
theorem EL(e:Int):hy (.aS [.agg [.v (.int .i64 0),.v (.int .i64 0),.v (.int .u32 0),.v (.int .u32 0),.v (.int .i64 0),.v (.int .i64 0),.v (.int .i64 0),.v (.slice none 0 0),.v (.string (_i #[]))],.v (.int .i64 e)]) (MH (jz,e)):=by
 simp[hy,qD,jz];rfl
theorem SO(s:List UInt8)(a b:Int)(g:0<=a/\a<4294967296)(j:0<=b/\b<4294967296)(hl:s.length<=140737488351232):Spec prog 164 [.v (.string (I s)),.v (.int .u32 a),.v (.int .u32 b)] (MH (dM s a b)):=by
 have C:=eQ s 12;have M:=eQ s 13;have VU:_b.wrap ((au s 12:Nat):Int)=((au s 12:Nat):Int):=_a _ G;have SL:_b.wrap ((au s 13:Nat):Int)=((au s 13:Nat):Int):=_a _ G;have t1:_b.wrap (((au s 12:Nat):Int).tdiv 16)=((au s 12/16:Nat):Int):=zb;have t2:_b.wrap (((au s 12/16:Nat):Int)*4)=((dJ s:Nat):Int):=OB;have t3:((au s 12:Nat):Int).tmod 16=((au s 12%16:Nat):Int):=(_v _ 16).symm;have O:dJ s<=60:=FI;have t4:_b.wrap (4*((dJ s:Nat):Int))=4*((dJ s:Nat):Int):=_a _ G;have t5:_b.wrap ((s.length:Int)-((dJ s:Nat):Int))=(s.length:Int)-((dJ s:Nat):Int):=_a _ G;have t6:_b.wrap (65455+((dJ s:Nat):Int))=65455+((dJ s:Nat):Int):=_a _ G;have ay:au s 12%16=0↔((au s 12:Nat):Int)=4*((dJ s:Nat):Int):=FI;by_cases m:s.length<20
 .have c:dM s a b=(jz,3):=by unfold dM;rw[if_pos (.inl m)]
  rw[c];exact C3
 by_cases u:s.length<dJ s
 .have c:dM s a b=(jz,3):=by unfold dM;rw[if_pos (.inr u)]
  rw[c];exact C3
 by_cases c3:20<=dJ s/\au s 12%16=0;case neg=>
  have c:dM s a b=(jz,4):=by unfold dM;rw[if_neg G,if_pos c3]
  rw[c];refine nh ?_ (EL _);by_cases q5:dJ s<20
  .exact FB
  have f:¬au s 12%16=0:=fun q=>c3 ⟨G,q⟩
  have Q:¬((au s 12:Nat):Int)=4*((dJ s:Nat):Int):=fun q=>f (ay.2 q)
  exact FB
 have f:=ay.1 c3.2;obtain⟨q5,u1⟩:=c3;by_cases fR:65455+dJ s<s.length
 .have c:dM s a b=(jz,2):=by unfold dM;rw[if_neg G,if_neg (not_not_intro ⟨q5,u1⟩),if_pos fR]
  rw[c];exact C3
 have gh:(I s).extract 20 (dJ s)=I ((s.drop 20).take (dJ s-20)):=fK _ _ _;have h_:(I s).extract (dJ s) s.length=I (s.drop (dJ s)):=qy;have z:((s.drop 20).take (dJ s-20)).length<=40:=c7;have a6:=abx _ z;cases rn:gp ((s.drop 20).take (dJ s-20))with
 |none=>
  have c:dM s a b=(jz,4):=Ut;rw[c];rw[pW rn]at a6;exact C3
 |some l=>
  rw[rM rn]at a6;have cG:=FQ a b 6 s.length g j;have aj:=Bq (dC a b 6 s.length++s) (by simp only[List.length_append,mb];omega);by_cases c5:ck (bP (dC a b 6 s.length++s))=65535
  .have c:dM s a b=(⟨ao s 0,ao s 2,eh s 4,eh s 8,(au s 13:Nat),ao s 14,ao s 18,l,s.drop (dJ s)⟩,0):=by unfold dM;rw[if_neg G,if_neg (not_not_intro ⟨q5,u1⟩),if_neg fR,rn];exact if_neg (not_not_intro c5)
   rw[c];rw[c5]at aj;have gf:=xz s 0 G G 0 rfl;have h2:=xz s 2 G G 2 rfl;have Tm:=xz s 14 G G 14 rfl;have tj:=xz s 18 G G 18 rfl;have fr:=Xv s 4 G G 4 rfl;have h8:=Xv s 8 G G 8 rfl;exact FB
  have c:dM s a b=(jz,5):=Od;rw[c];generalize ck (bP (dC a b 6 s.length++s))=U at *;exact C3
theorem acw(s:List UInt8)(a b:Int)(j:0<=a/\a<4294967296)(m:0<=b/\b<4294967296)(hl:s.length<=140737488351232):Spec prog 77 [.v (.string (I s)),.v (.int .u32 a),.v (.int .u32 b)] (MH (dM s a b)):=by
 have O:=eQ s 12;have Q:=eQ s 13;have VU:_b.wrap ((au s 12:Nat):Int)=((au s 12:Nat):Int):=_a _ G;have SL:_b.wrap ((au s 13:Nat):Int)=((au s 13:Nat):Int):=_a _ G;have t1:_b.wrap (((au s 12:Nat):Int).tdiv 16)=((au s 12/16:Nat):Int):=zb;have t2:_b.wrap (((au s 12/16:Nat):Int)*4)=((dJ s:Nat):Int):=OB;have t3:((au s 12:Nat):Int).tmod 16=((au s 12%16:Nat):Int):=(_v _ 16).symm;have U:dJ s<=60:=FI;have t4:_b.wrap (4*((dJ s:Nat):Int))=4*((dJ s:Nat):Int):=_a _ G;have t5:_b.wrap ((s.length:Int)-((dJ s:Nat):Int))=(s.length:Int)-((dJ s:Nat):Int):=_a _ G;have t6:_b.wrap (65455+((dJ s:Nat):Int))=65455+((dJ s:Nat):Int):=_a _ G;have ay:au s 12%16=0↔((au s 12:Nat):Int)=4*((dJ s:Nat):Int):=FI;by_cases u:s.length<20
 .have c:dM s a b=(jz,3):=by unfold dM;rw[if_pos (.inl u)]
  rw[c];exact zo
 by_cases z:s.length<dJ s
 .have c:dM s a b=(jz,3):=by unfold dM;rw[if_pos (.inr z)]
  rw[c];exact zo
 by_cases c3:20<=dJ s/\au s 12%16=0;case neg=>
  have c:dM s a b=(jz,4):=by unfold dM;rw[if_neg G,if_pos c3]
  rw[c];refine nh ?_ (EL _);by_cases q5:dJ s<20
  .exact FU
  have f:¬au s 12%16=0:=fun q=>c3 ⟨G,q⟩
  have X:¬((au s 12:Nat):Int)=4*((dJ s:Nat):Int):=fun q=>f (ay.2 q)
  exact FU
 have f:=ay.1 c3.2;obtain⟨q5,u1⟩:=c3;by_cases fR:65455+dJ s<s.length
 .have c:dM s a b=(jz,2):=by unfold dM;rw[if_neg G,if_neg (not_not_intro ⟨q5,u1⟩),if_pos fR]
  rw[c];exact zo
 have gh:(I s).extract 20 (dJ s)=I ((s.drop 20).take (dJ s-20)):=fK _ _ _;have h_:(I s).extract (dJ s) s.length=I (s.drop (dJ s)):=qy;have C:((s.drop 20).take (dJ s-20)).length<=40:=c7;have a6:=ae6 _ _ (_h _) C;cases rn:gp ((s.drop 20).take (dJ s-20))with
 |none=>
  have c:dM s a b=(jz,4):=Ut;rw[c];rw[pW rn]at a6;exact zo
 |some l=>
  rw[rM rn]at a6;have cG:=Gk a b 6 s.length j m;have qF:=Gp 0 ae (dC a b 6 s.length) (by rw[mb];decide);rw[Int.zero_add]at qF;have g:=kT (dC a b 6 s.length);have M:=kT s;have aj:=Gp (ck (bP (dC a b 6 s.length))) (kc _ g.1) s G;rw[DN _ _ g.1 M.1,<-mV _ s (by rw[mb])]at aj;by_cases c5:ck (bP (dC a b 6 s.length++s))=65535
  .have c:dM s a b=(⟨ao s 0,ao s 2,eh s 4,eh s 8,(au s 13:Nat),ao s 14,ao s 18,l,s.drop (dJ s)⟩,0):=by unfold dM;rw[if_neg G,if_neg (not_not_intro ⟨q5,u1⟩),if_neg fR,rn];exact if_neg (not_not_intro c5)
   rw[c];rw[c5]at aj;have gf:=hk s 0 G G 0 rfl;have h2:=hk s 2 G G 2 rfl;have Tm:=hk s 14 G G 14 rfl;have tj:=hk s 18 G G 18 rfl;have fr:=Ht s 4 G G 4 rfl;have h8:=Ht s 8 G G 8 rfl;exact FU
  have c:dM s a b=(jz,5):=Od;rw[c];generalize ck (bP (dC a b 6 s.length++s))=Y at *;exact zo
def il(o:dr):Bool:=decide ((1<=o.k/\o.k<=255)/\o.d.length<=38/\(o.k=1->o.d=[]))
def nK(o:dr):List UInt8:=if o.k=1 then[u8 1]else[u8 o.k,u8 ((o.d.length:Int)+2)]++o.d
abbrev v8(o:dr):O:=.aS [.v (.string (I (if il o=true then nK o else[]))),.v (.bool (il o))]
theorem H2{o:dr}(h:il o=true):(nK o).length<=40:=by
 unfold il at h;have h:=of_decide_eq_true h;unfold nK;split
 .decide
 simp;omega
theorem Rl(o:dr)(m:o.d.length<=140737488351232):Spec prog 121 [.agg [.v (.int .i64 o.k),.v (.string (I o.d))]] (v8 o):=by
 have a_:_b.wrap ((o.d.length:Int)+2)=(o.d.length:Int)+2:=_a _ G;by_cases h1:o.k=1
 .by_cases h2:o.d=[]
  .have c:il o=true:=by unfold il;rw[h1,h2];decide
   have f:nK o=[u8 1]:=if_pos h1;unfold v8;rw[c,if_pos rfl,f];exact Cl
  have c:il o=false:=decide_eq_false (fun h=>h2 (h.2.2 h1));unfold v8;rw[c,if_neg aF];exact Cl
 by_cases h2:(2<=o.k/\o.k<=255)/\o.d.length<=38
 .have c:il o=true:=decide_eq_true ⟨G,h2.2,fun h=>absurd h h1⟩;have f:nK o=[u8 o.k,u8 ((o.d.length:Int)+2)]++o.d:=if_neg h1;obtain⟨g,j⟩:=h2;unfold v8;rw[c,if_pos rfl,f];exact Cl
 have c:il o=false:=decide_eq_false (fun h=>h2 ⟨G,h.2.1⟩);unfold v8;rw[c,if_neg aF];by_cases g:2<=o.k/\o.k<=255
 .have j:¬o.d.length<=38:=fun h=>h2 ⟨g,h⟩
  exact Cl
 exact Cl
def ed:List dr->List UInt8
 |[]=>[]
 |o::r=>nK o++ed r
theorem Rm(o:dr):∀l:List dr,ed (l++[o])=ed l++nK o
 |[]=>by simp[ed]
 |x::r=>by simp[ed,Rm o r]
theorem Qj:∀l:List dr,l.all il=true->(ed l).length<=40*l.length
 |[],_=>by simp[ed]
 |x::r,h=>by
  rw[List.all_cons,Bool.and_eq_true]at h;have h1:=H2 h.1;have h2:=Qj r h.2;simp[ed];omega
def vG(l:List dr):List UInt8×Bool:=if l.all il=true then(ed l,true)else([],false)
abbrev agu(r:List UInt8×Bool):O:=.aS [.v (.string (I r.1)),.v (.bool r.2)]
theorem aij{l:List dr}{k:Nat}{o:dr}(b:l[k]?=some o)(c:il o=false):vG l=([],false):=by
 unfold vG;rw[if_neg (fun h=>?_)];have:=_j.1 h o (_n b);rw[c]at this;cases this
theorem aki(l:List dr)(hl:40*l.length<=140737488355000)(M:∀o∈l,o.d.length<=140737488351232):Spec prog 107 [.snap 2 (l.map dr.enc) false] (agu (vG l)):=by
 refine az {same:=true} 0 func107 fun Γ an=>ar ?_
 repeat' first|refine af ?_|simp only[_d]|refine ag ?_|refine ab ?_ ?_<;>intro h<;>try exact aa|fail
 apply eJ
 .exact Ie
 refine bz ?_;refine bS (α:=Nat×Nat×Nat) (fun x=>[(⟨.d0,.d0,.d4⟩,.aG 2 x.2.1 1 0 (ed (l.take x.1)).length false),(⟨.d0,.d1,.d1⟩,.v (.int .i64 (x.1:Nat)))]) (fun x=>[(0,none),(1,none),(2,some ⟨x.2.1,1,fk (ed (l.take x.1))⟩),(3,none)]) (fun x=>x.2.2) (fun x=>l.length-x.1) (fun x=>x.1<=l.length/\(l.take x.1).all il=true) (0,Γ.g0,Γ.g0+1) ⟨_o _,rfl⟩ ?_ ?_
 .exact bs
 rintro⟨k,ah,f⟩ ⟨O,nB⟩;dsimp only at O nB⊢;refine bz ?_;have Q:=Qj _ nB;have U:(l.take k).length=k:=c7;rw[U]at Q;by_cases b:k<l.length
 .obtain⟨o,g⟩:∃o,l[k]?=some o:=⟨_,_e b⟩;have dU:=TK g;have ai:=M o (_n g);have D4:=nU g;have a_:_b.wrap ((o.d.length:Int)+2)=(o.d.length:Int)+2:=_a _ G;cases eI:il o with
  |false=>
   rw[aij g eI];have z:¬((1<=o.k/\o.k<=255)/\o.d.length<=38/\(o.k=1->o.d=[])):=of_decide_eq_false eI;generalize ed (l.take k)=out at *;by_cases c:1<=o.k/\o.k<=255
   .by_cases j:o.d.length<=38
    .have m:o.k=1:=by
      refine Decidable.byContradiction fun q=>z ⟨c,j,fun e=>absurd e q⟩
     have X:¬o.d=[]:=fun e=>z ⟨c,j,fun _=>e⟩
     have qp:o.k=1:=m;exact LI
    have qp:=c;exact LI
   have qp:=c;exact LI
  |true=>
   have Y:(1<=o.k/\o.k<=255)/\o.d.length<=38/\(o.k=1->o.d=[]):=of_decide_eq_true eI;obtain⟨c,j,m⟩:=Y;have C:(l.take (k+1)).all il=true:=Xm;have I:ed (l.take (k+1))=ed (l.take k)++nK o:=by rw[D4,Rm]
   have aj:=H2 eI;by_cases h1:o.k=1
   .have X:=m h1;have u:nK o=[u8 1]:=if_pos h1;have qp:=h1;generalize ed (l.take k)=out at *;repeat' first|refine af ?_|simp only[_c,dU,_d,aU,lp,dF,Gr,a_,Hj]|simp only[qp]|simp only[i_]|refine ag ?_|refine ab ?_ ?_<;>intro h<;>try exact aa|refine aK ⟨aH,aH,aH,aH,yG⟩ ?_|refine aK ⟨aH,aH,aH,aH,Lk⟩ ?_|refine aK ⟨aH,qP⟩ ?_|refine aK ⟨Ah _,qP⟩ ?_|exact al|fail
    all_goals try exfalso;simp_all;done
    refine br ⟨(k+1,f+1+1,f+3),⟨b,C⟩,_p b (_t k),?_⟩;dsimp only;rw[I,u];refine dB ?_ ?_ (_h _);all_goals first|refine dD ?_|exact dE
    all_goals repeat' first|exact trivial|exact rfl|apply And.intro
    all_goals first|exact nR|simp;done|refine congrArg some (congrArg (aR.mk _ 1) ?_);simp[fk];done
   have u:nK o=[u8 o.k,u8 ((o.d.length:Int)+2)]++o.d:=if_neg h1;have qp:=h1;generalize ed (l.take k)=out at *;repeat' first|refine af ?_|simp only[_c,dU,_d,aU,lp,dF,Gr,a_,Hj]|simp only[qp]|simp only[i_]|refine ag ?_|refine ab ?_ ?_<;>intro h<;>try exact aa|refine aK ⟨aH,aH,aH,aH,yG⟩ ?_|refine aK ⟨aH,aH,aH,aH,Lk⟩ ?_|refine aK ⟨aH,qP⟩ ?_|refine aK ⟨Ah _,qP⟩ ?_|exact al|fail
   all_goals try exfalso;simp_all;done
   refine br ⟨(k+1,f+3+1+1,f+3+1+1+1),⟨b,C⟩,_p b (_t k),?_⟩;dsimp only;rw[I,u];refine dB ?_ ?_ (_h _);all_goals first|refine dD ?_|exact dE
   all_goals repeat' first|exact trivial|exact rfl|apply And.intro
   all_goals first|exact nR|simp[i_];done|simp[i_];omega|refine congrArg some (congrArg (aR.mk _ 1) ?_);simp[fk];done
 obtain rfl:k=l.length:=G;rw[_r]at nB;have Z:vG l=(ed l,true):=if_pos nB;rw[Z,_r];have ac:=GO (ed l);have ae:=KK (ed l);have J:=i_ (ed l);repeat' first|refine af ?_|refine ag ?_|refine ab ?_ ?_<;>intro h<;>try exact aa|simp only[_d,e1 J.symm,ae]|refine aK ⟨⟨aH,aH,aH,G⟩,by simpa[e1 J.symm]using ac⟩ ?_|exact al|fail
 all_goals exact bM
theorem Qs{α:Type}(p:α->Bool)(l:List α):decide (0<=bU p l 0)=l.any p:=by
 rcases oz p l 0 with⟨h1,h2⟩|⟨i,t,h1,h2,g,fr⟩
 .rw[h1];cases c:l.any p with
  |false=>rfl
  |true=>
   obtain⟨t,f,b⟩:=List.any_eq_true.1 c;rw[h2 t f]at b;cases b
 exact XW
abbrev yv:dr->Bool:=fun o=>!il o
theorem akn(o:dr)(c:o.d.length<=140737488351232):Spec prog 123 [.agg o.enc] (.v (.bool (yv o))):=by
 have h1:=Rl o c;refine az {} 0 func123 fun Γ an=>ar ?_
 exact Wn
theorem ahV(l:List dr)(hl:l.length<=maxLen)(c:∀o∈l,o.d.length<=140737488351232):Spec prog 122 [.snap 2 (l.map dr.enc) false,.fn (.func 123) [] []] (.v (.bool (l.any yv))):=by
 have bF:=abh (g:=123) (caps:=[]) yv l false hl (fun o f=>akn o (c o f));have Z4:=Qs yv l;refine az {} 0 func122 fun Γ an=>ar ?_
 exact PB
theorem af1{g:FuncId}{caps:List O}(p:Int->Bool)(l:List Int)(c:Bool)(hl:l.length<=maxLen)(b8:∀t∈l,Spec prog g (.v (.int .i64 t)::caps) (.v (.bool (p t)))):Spec prog 229 [.snap 1 (l.map fx) c,.fn (.func g) [] caps] (.v (.int .i64 (bU p l 0))):=by exact YR
abbrev p7:Int->Bool:=fun n=>decide (n<0)||decide (65535<n)
theorem ahy(n:Int):Spec prog 170 [.v (.int .i64 n)] (.v (.bool (p7 n))):=by
 refine az {} 0 func170 fun Γ an=>ar ?_
 exact L9
theorem al9(l:List Int)(hl:l.length<=maxLen):Spec prog 169 [.snap 1 (l.map fx) false,.fn (.func 170) [] []] (.v (.bool (l.any p7))):=by
 have bF:=af1 (g:=170) (caps:=[]) p7 l false hl (fun n _=>ahy n);have Z4:=Qs p7 l;refine az {} 0 func169 fun Γ an=>ar ?_
 exact PB
theorem ais(l:List Int)(hl:l.length<=maxLen):Spec prog 106 [.snap 1 (l.map fx) false] (.v (.bool (!l.any p7))):=by
 have c:=al9 l hl;refine az {} 0 func106 fun Γ an=>ar ?_
 repeat' first|refine af ?_|refine J c ?_|refine ag ?_|refine ab ?_ ?_<;>intro h<;>try exact aa|exact al|fail
 all_goals exact bM
theorem abb(a b c d:Int)(k n:Nat):b1 prog 106 [.aG k n 1 0 4 true] [some ⟨n,1,[[.v (.int .i64 a)],[.v (.int .i64 b)],[.v (.int .i64 c)],[.v (.int .i64 d)]]⟩] (fun r H=>r=.v (.bool (!([a,b,c,d].any p7)))/\H=[some ⟨n,1,[[.v (.int .i64 a)],[.v (.int .i64 b)],[.v (.int .i64 c)],[.v (.int .i64 d)]]⟩]):=
 ait (full:=true) (len:=4) (ais [a,b,c,d] (show 4<=maxLen from fg)) rfl rfl k n
def lu:List UInt8->List dr->List UInt8
 |a,[]=>a
 |a,o::r=>lu (if a.length<=40 then a++nK o else a) r
theorem Tg(o:dr):∀(l:List dr)(a:List UInt8),lu a (l++[o])=if(lu a l).length<=40 then lu a l++nK o else lu a l
 |[],a=>rfl
 |x::r,a=>Tg o r _
theorem VN:∀(l:List dr)(a:List UInt8),40<a.length->lu a l=a
 |[],a,_=>rfl
 |x::r,a,h=>by
  unfold lu;rw[if_neg G];exact VN r a h
theorem Oe:∀(l:List dr)(a:List UInt8),((lu a l).length<=40↔(a++ed l).length<=40)/\((a++ed l).length<=40->lu a l=a++ed l)
 |[],a=>by simp[lu,ed]
 |x::r,a=>by
  by_cases h:a.length<=40
  .have:=Oe r (a++nK x);unfold lu ed;rw[if_pos h];simpa[List.append_assoc]using this
  have h2:lu a (x::r)=a:=VN _ a G;rw[h2];constructor
  .simp;omega
  intro b;simp at b;omega
def nW(o:List UInt8):List UInt8:=o++List.replicate ((4-o.length%4)%4) 0
theorem ZO(o:List UInt8):(nW o).length=(o.length+3)/4*4:=by unfold nW;simp;omega
theorem aa8(o:List UInt8):(o++[0,0,0]).take ((o.length+3)/4*4)=nW o:=by
 unfold nW;rw[List.take_append,List.take_of_length_le G];congr 1
 have h:(o.length+3)/4*4-o.length=(4-o.length%4)%4:=G;rw[h];have b:(4-o.length%4)%4<4:=Nat.mod_lt _ ae;generalize (4-o.length%4)%4=q at *;have:q=0\/q=1\/q=2\/q=3:=G;rcases this with rfl|rfl|rfl|rfl<;>rfl
end Go.Proofs.YtdiobdlinjgakaaGreatDoor
