import Derived.Test.YtdiobdlinjgakaaGreatDoorDh34
set_option linter.unusedVariables false
set_option linter.unusedSimpArgs false
set_option maxHeartbeats 8000000
set_option maxRecDepth 100000
open Go.Proofs.Tryz
open Int renaming toNat_natCast->_a
open List renaming getElem?_eq_getElem->_b,drop_eq_getElem_cons->_e,mem_of_getElem?->_f
open Nat renaming sub_lt_sub_left->_c,lt_succ_self->_d
namespace Go.Proofs.YtdiobdlinjgakaaGreatDoor.R
attribute [local irreducible] bc Go
abbrev pt:ak:=[115,97,110,97,110,110]
abbrev pw:ak:=[115,97,110,97,110,110,110]
abbrev pb:ak:=[115,104,110]
def jj(c:ak):ak:=if c=gd then pt else if c=gq then pw else if c=hV then pb else if c=fv then[42]else if c=hO then[]else if c=gG then[]else[110,111]
theorem Oz(c:ak):Spec prog 62 [.v (.string (I c))] (.v (.string (I (jj c)))):=by
 refine az {} 0 func62 fun Γ an=>ar ?_
 repeat' first|refine af ?_|simp only[cL,cO,cZ,cW,dp,cS,dF]|refine ag ?_|refine ab ?_ ?_<;>intro h<;>try exact aa|exact al|fail
 all_goals(refine cI ?_;first|exact cc|try simp only[cE]at *)
 all_goals try simp only[cL,cO,cZ,cW,dp,cS,dF]at *
 all_goals first|subst_vars;rfl|unfold jj;simp only[*,if_false];rfl
theorem ac9(c:Bool):Spec prog 20 [.snap 1 [] c,.v (.string ⟨#[32]⟩)] (.v (.string (I []))):=by
 refine az {} 0 func20 fun Γ an=>ar ?_
 exact A0
def qf(k:UInt8)(s d:ak):Int×Bool×ak:=
 if k=110 then(((cY s).1:Nat),(cY s).2,d)
 else if k=97 then(((e9 s).1:Nat),decide ((e9 s).2=0),d)
 else if k=115 then(if s=lz then 1 else 0,decide (s=lz)||decide (s=pG),d)
 else(0,(j4 s).2,(j4 s).1)
def cD:ak->List ak->List Int->ak->Option (List Int×ak)
 |k::f,s::r,l,d=>if(qf k s d).2.1=true then cD f r (l++[(qf k s d).1]) (qf k s d).2.2 else none
 |_,_,l,d=>some (l,d)
def adE:Option (List Int×ak)->O
 |some x=>.aS [.snap 1 (l8 x.1) false,.v (.string (I x.2)),.v (.bool true)]
 |none=>.aS [.v (.slice none 0 0),.v (.string (I [])),.v (.bool false)]
theorem adU(r:List ak)(b:Bool)(j:r.length<=1048576)(f:(cm r).length<=1048576):Spec prog 25 [.snap 1 (b9 (fv::r)) b] (.aS [.v (.slice none 0 0),.v (.string (I (Lib.join (bm 59 (cm r)) [10]))),.v (.bool (decide (¬r=[])))]):=by
 have g:=Oz fv;have m:jj fv=[42]:=ae;rw[m]at g;have q:=Ib 59 [10] (cm r) ae f ae;have u:(b9 r).length=r.length:=oa r;have z:decide ((1:Int)<((r.length+1:Nat):Int))=decide (¬r=[]):=by
  rw[decide_eq_decide];cases r<;>simp<;>omega
 have C:∀c:Bool,Spec prog 20 [.snap 1 (b9 r) c,.v (.string ⟨#[32]⟩)] (.v (.string (I (cm r)))):=fun c=>by
  cases r with
  |nil=>exact ac9 c
  |cons s r=>exact Di (s::r) c (Nat.succ_pos _) j f
 refine az {} 0 func25 fun Γ an=>ar ?_
 have yW:(b9 (fv::r)).length=r.length+1:=oa _;have G:cf (b9 (fv::r)) 0=[.v (.string (I fv))]:=rfl;have M:cp (cC (b9 (fv::r)) 1) (((r.length+1:Nat):Int)-1).toNat=b9 r:=e1 (l:=b9 r) (by rw[u];omega);generalize b9 (fv::r)=W at *;have O:decide (I [42]=(⟨#[42]⟩:ByteArray))=true:=ae;repeat' first|refine af ?_|refine J g ?_|simp only[yW,G,M,O,_a,Int.reduceToNat,Nat.add_sub_cancel,z]|refine J (C _) ?_|refine aL 44 (fS q ?_)|refine ag ?_|refine ab ?_ ?_<;>intro h<;>try exact aa|refine aK FD ?_|exact al|fail
 all_goals exact bM
def PG(f:ak):Prop:=∀k∈f,k=110\/k=97\/k=115\/k=104
theorem aei(c:ak)(h1:¬jj c=[42])(h2:¬jj c=[110,111]):PG (jj c):=by
 revert h1 h2;unfold jj PG;repeat' split
 all_goals (intro h1 h2;first|decide|exact absurd rfl h1|exact absurd rfl h2)
theorem ajb(k:UInt8)(f:ak)(s:ak)(r:List ak)(l:List Int)(d:ak):cD (k::f) (s::r) l d=if(qf k s d).2.1=true then cD f r (l++[(qf k s d).1]) (qf k s d).2.2 else none:=rfl
theorem aaX(l:List Int):(l8 l).length=l.length:=List.length_map ..
theorem NK(l:List Int)(n:Int):l8 l++[[.v (.int .i64 n)]]=l8 (l++[n]):=aF
theorem sS(c:ak)(r:List ak)(b:Bool)(ai:¬c=fv)(aw:r.length<=1048576)(hl:hH r):Spec prog 25 [.snap 1 (b9 (c::r)) b] (adE (if jj c=[110,111]\/¬(jj c).length=r.length then none else cD (jj c) r [] [])):=by
 have z:=Oz c;have Z:¬jj c=[42]:=by
  unfold jj;repeat' split
  all_goals first|decide|rename_i h;exact absurd h ai
 have C:=aei c Z;generalize jj c=f at *;have iR:(b9 r).length=r.length:=oa r;have yW:(b9 (c::r)).length=r.length+1:=oa _;have M:cf (b9 (c::r)) 0=[.v (.string (I c))]:=rfl;have am:cp (cC (b9 (c::r)) 1) (((r.length+1:Nat):Int)-1).toNat=b9 r:=e1 (l:=b9 r) (by rw[iR];omega);generalize b9 (c::r)=W at *;have O:decide (I f=(⟨#[42]⟩:ByteArray))=false:=gZ (b:=[42]) Z;have bl:IntKind.i64.wrap (((r.length+1:Nat):Int)-1)=((r.length:Nat):Int):=er;by_cases m:f=[110,111]
 .rw[if_pos (.inl m)];have u:decide (I f=(⟨#[110,111]⟩:ByteArray))=true:=decide_eq_true (by rw[m];rfl);refine az {} 0 func25 fun Γ an=>ar ?_
  repeat' first|refine af ?_|refine J z ?_|simp only[yW,M,O,u]|refine ag ?_|refine ab ?_ ?_<;>intro h<;>try exact aa|refine aK FD ?_|exact al|fail
  all_goals exact b0
 have u:decide (I f=(⟨#[110,111]⟩:ByteArray))=false:=gZ (b:=[110,111]) m;by_cases ac:f.length=r.length;rotate_left
 .rw[if_pos (.inr ac)];have Q:decide (((f.length:Nat):Int)=((r.length:Nat):Int))=false:=decide_eq_false G;refine az {} 0 func25 fun Γ an=>ar ?_
  repeat' first|refine af ?_|refine J z ?_|simp only[yW,M,O,u,bl,aU,Q]|refine ag ?_|refine ab ?_ ?_<;>intro h<;>try exact aa|refine aK FD ?_|exact al|fail
  all_goals exact b0
 rw[if_neg (fun q=>q.elim m (fun q=>q ac))];have C:=C m;have Q:decide (((f.length:Nat):Int)=((r.length:Nat):Int))=true:=decide_eq_true G;refine az {} 0 func25 fun Γ an=>ar ?_
 repeat' first|(with_reducible refine gJ ?_);(refine eJ (gU ⟨.d0,.d0,.d6⟩ 1 1 rfl rfl) ?_)|refine af ?_|refine J z ?_|simp only[yW,M,am,iR,O,u,bl,aU,Q]|refine ag ?_|refine ab ?_ ?_<;>intro h<;>try exact aa|refine aK FD ?_|exact al|fail
 have ax:(ByteArray.mk #[]:ByteArray)=I []:=rfl;refine bS (α:=Nat×List Int×ak×Nat×Nat) (fun x=>[(⟨.d0,.d5,.d0⟩,.v (.int .i64 (x.1:Nat))),(⟨.d0,.d0,.d6⟩,.aG 1 x.2.2.2.1 1 0 x.2.1.length false),(⟨.d0,.d0,.d7⟩,.v (.string (I x.2.2.1)))]) (fun x=>[(0,none),(1,some ⟨x.2.2.2.1,1,l8 x.2.1⟩)]) (fun x=>x.2.2.2.2) (fun x=>r.length-x.1) (fun x=>x.1<=r.length/\x.2.1.length=x.1/\cD f r [] []=cD (f.drop x.1) (r.drop x.1) x.2.1 x.2.2.1) (0,[],[],Γ.g0,Γ.g0+1) ⟨Nat.zero_le _,rfl,rfl⟩ ?_ ?_
 .exact bs
 rintro⟨i,hr,d,ae,bR⟩ ⟨ao,ek,ah⟩;dsimp only at ao ek ah⊢;rw[ah];refine bz ?_;have km:=aaX hr;by_cases aN:i<r.length
 .obtain⟨s,aj⟩:∃s,r[i]?=some s:=⟨_,_b aN⟩;obtain⟨k,g⟩:∃k,f[i]?=some k:=⟨_,_b G⟩;have U:=hl s (_f aj);have aP:=sh aj;have ace:au f i=k.toNat:=C9 g;have bD:IntKind.i64.wrap ((i:Int)+1)=((i+1:Nat):Int):=er;rw[_e aN,_e (show i<f.length from G),show r[i]=s from Option.some.inj ((_b aN).symm.trans aj),show f[i]=k from Option.some.inj ((_b G).symm.trans g),ajb];rcases C k (_f g)with g|g|g|g
  .subst g;have t0:decide (((au f i:Nat):Int)=110)=true:=kX;have t1:decide (((au f i:Nat):Int)=97)=false:=kX;have t2:decide (((au f i:Nat):Int)=115)=false:=kX;have t3:decide (((au f i:Nat):Int)=104)=false:=kX;have bd:=y1 s U;have j:qf 110 s d=((((cY s).1:Nat):Int),(cY s).2,d):=rfl;rw[j];unfold vj at bd;generalize (cY s).1=n at *;cases bO:(cY s).2 with
   |true=>
    rw[bO]at bd;rw[if_pos zh];repeat' first|refine af ?_|simp only[iR,b_,aU,_a,t0,t1,t2,t3]|refine J bd ?_|refine ag ?_|refine ab ?_ ?_<;>intro h<;>try exact aa|simp only[_a,aP,km]|refine aK ⟨aH,aH,aH,aH,km.symm⟩ ?_|refine aK ⟨aH,ts⟩ ?_|refine aK G ?_|exact al|fail
    exact O1
   |false=>exact Yi
  .subst g;have t0:decide (((au f i:Nat):Int)=110)=false:=kX;have t1:decide (((au f i:Nat):Int)=97)=true:=kX;have t2:decide (((au f i:Nat):Int)=115)=false:=kX;have t3:decide (((au f i:Nat):Int)=104)=false:=kX;have bd:=VE s U;have j:qf 97 s d=((((e9 s).1:Nat):Int),decide ((e9 s).2=0),d):=rfl;have aA:=Iw s;rw[j];rw[<-NL]at bd;unfold s7 at bd;generalize (e9 s).1=n at *;have eO:IntKind.i64.wrap ((n:Nat):Int)=((n:Nat):Int):=IntWalk.i64_in _ G;cases bO:decide ((e9 s).2=0)with
   |true=>
    rw[if_pos zh];repeat' first|refine af ?_|simp only[iR,b_,aU,_a,t0,t1,t2,t3,bO,eO]|refine J bd ?_|refine ag ?_|refine ab ?_ ?_<;>intro h<;>try exact aa|simp only[_a,aP,km]|refine aK ⟨aH,aH,aH,aH,km.symm⟩ ?_|refine aK ⟨aH,ts⟩ ?_|refine aK G ?_|exact al|fail
    exact O1
   |false=>
    rw[if_neg L5];repeat' first|refine af ?_|simp only[iR,b_,aU,_a,t0,t1,t2,t3,bO,eO]|refine J bd ?_|refine ag ?_|refine ab ?_ ?_<;>intro h<;>try exact aa|simp only[_a,aP,km]|refine aK ⟨aH,aH,aH,aH,km.symm⟩ ?_|refine aK ⟨aH,ts⟩ ?_|refine aK G ?_|exact al|fail
    all_goals exact b0
  .subst g;have t0:decide (((au f i:Nat):Int)=110)=false:=kX;have t1:decide (((au f i:Nat):Int)=97)=false:=kX;have t2:decide (((au f i:Nat):Int)=115)=true:=kX;have t3:decide (((au f i:Nat):Int)=104)=false:=kX;have j:qf 115 s d=(if s=lz then(1:Int)else 0,decide (s=lz)||decide (s=pG),d):=rfl;have X:(ByteArray.mk #[105,110]:ByteArray)=I lz:=rfl;have Y:(ByteArray.mk #[111,117,116]:ByteArray)=I pG:=rfl;rw[j];by_cases h1:s=lz
   .have d1:=mf h1;rw[if_pos h1,decide_eq_true h1];rw[if_pos zh];repeat' first|refine af ?_|simp only[iR,b_,aU,_a,t0,t1,t2,t3,X,Y,d1]|refine ag ?_|refine ab ?_ ?_<;>intro h<;>try exact aa|simp only[_a,aP,km]|refine aK ⟨aH,aH,aH,aH,km.symm⟩ ?_|refine aK ⟨aH,ts⟩ ?_|refine aK G ?_|exact al|fail
    refine br ⟨(i+1,hr++[(1:Int)],d,bR+1,bR+2),⟨aN,Gm,rfl⟩,_c aN (_d i),?_⟩;exact K3
   have d1:=gZ h1;rw[if_neg h1,decide_eq_false h1];by_cases h2:s=pG
   .have d2:=mf h2;rw[decide_eq_true h2];rw[if_pos zh];repeat' first|refine af ?_|simp only[iR,b_,aU,_a,t0,t1,t2,t3,X,Y,d1,d2]|refine ag ?_|refine ab ?_ ?_<;>intro h<;>try exact aa|simp only[_a,aP,km]|refine aK ⟨aH,aH,aH,aH,km.symm⟩ ?_|refine aK ⟨aH,ts⟩ ?_|refine aK G ?_|exact al|fail
    refine br ⟨(i+1,hr++[(0:Int)],d,bR+1,bR+2),⟨aN,Gm,rfl⟩,_c aN (_d i),?_⟩;exact K3
   have d2:=gZ h2;rw[decide_eq_false h2];rw[if_neg L5];repeat' first|refine af ?_|simp only[iR,b_,aU,_a,t0,t1,t2,t3,X,Y,d1,d2]|refine ag ?_|refine ab ?_ ?_<;>intro h<;>try exact aa|simp only[_a,aP,km]|refine aK ⟨aH,aH,aH,aH,km.symm⟩ ?_|refine aK ⟨aH,ts⟩ ?_|refine aK G ?_|exact al|fail
   all_goals exact b0
  subst g;have t0:decide (((au f i:Nat):Int)=110)=false:=kX;have t1:decide (((au f i:Nat):Int)=97)=false:=kX;have t2:decide (((au f i:Nat):Int)=115)=false:=kX;have t3:decide (((au f i:Nat):Int)=104)=true:=kX;have bd:=aaZ s U;have j:qf 104 s d=((0:Int),(j4 s).2,(j4 s).1):=rfl;rw[j];generalize (j4 s).1=t at *;cases bO:(j4 s).2 with
  |true=>
   rw[bO]at bd;rw[if_pos zh];repeat' first|refine af ?_|simp only[iR,b_,aU,_a,t0,t1,t2,t3]|refine J bd ?_|refine ag ?_|refine ab ?_ ?_<;>intro h<;>try exact aa|simp only[_a,aP,km]|refine aK ⟨aH,aH,aH,aH,km.symm⟩ ?_|refine aK ⟨aH,ts⟩ ?_|refine aK G ?_|exact al|fail
   refine br ⟨(i+1,hr++[(0:Int)],t,bR+1,bR+2),⟨aN,Gm,rfl⟩,_c aN (_d i),?_⟩;exact K3
  |false=>exact Yi
 obtain rfl:i=r.length:=G;have ap:gE ⟨ae,1,l8 hr⟩ (.aG 1 ae 1 0 hr.length false) (.snap 1 (l8 hr) false):=.inl ⟨rfl,rfl,by rw[Nat.zero_add,aaX];exact hT,by rw[e1 km.symm]⟩;have aq:cD (f.drop r.length) (r.drop r.length) hr d=some (hr,d):=by
  rw[List.drop_length];cases f.drop r.length<;>rfl
 rw[aq];have av:decide (((r.length:Nat):Int)<((r.length:Nat):Int))=false:=decide_eq_false G;repeat' first|(with_reducible refine gJ ?_);(refine dv (FO an ⟨.d0,.d0,.d6⟩ 1 rfl rfl ap) ?_)|refine af ?_|simp only[iR,av]|refine ag ?_|refine ab ?_ ?_<;>intro h<;>try exact aa|exact al|fail
 all_goals exact b0
theorem acs(f:bj)(Q:fJ f)(r:List ak)(U:hH r):qi f gq r:=by
 obtain⟨c,m⟩:∃c,c=gq:=⟨_,rfl⟩;have hl:de f gq r=th f r:=by
  unfold de;rw[if_neg ae,if_neg ae,if_neg ae,if_pos rfl]
 rw[<-m]at hl⊢;have gD:=fun j=>dN 1 (lW j c r)
 have cw:=l5;have ac:=mq;have fe:=o_;have d1:=l3 (a:=fv) c m ae;have d2:=l3 (a:=gG) c m ae;have d3:=l3 (a:=gd) c m ae;have d4:=mf m;cases a_:eo k7 r with
 |none=>
  have a6:=fun j=>lE 1 (KY j r U a_)
  have iy:kU r=none:=by unfold kU;rw[a_]
  refine hP (e:=10) wL fun n=>?_
  refine eu {} 1 func21 fun Γ cT eg cd=>ep ?_
  have eB:=fun st h=>cd st h ⟨⟨eg 0 _ rfl,fL _ _⟩,trivial⟩
  clear cd;repeat' first|(with_reducible refine eN 0 _ rfl ?_);(repeat' first|refine af ?_|(with_reducible refine aL 41 ?_);(refine aX [1] ae rfl rfl (gD _) ?_)|simp only[cL,cO,cZ,cW,dp,cS]|refine J cw ?_|refine J fe ?_|simp only[d1,d2,d3,d4]|refine eR ?_|refine ab ?_ ?_<;>intro h<;>try exact aa);(all_goals exact eT [1] ae rfl rfl (a6 _) (eB _ ⟨rfl,trivial⟩));done|refine af ?_|(with_reducible refine aL 41 ?_);(refine aX [1] ae rfl rfl (gD _) ?_)|simp only[cL,cO,cZ,cW,dp,cS]|refine J cw ?_|refine J fe ?_|simp only[d1,d2,d3,d4]|refine ag ?_|refine ab ?_ ?_<;>intro h<;>try exact aa
 |some x=>
  obtain⟨i,aw⟩:=x;have h1:=fun j=>dN 1 (MU j r aw i a_)
  have C:=k0 a_ U;cases a8:nM aw with
  |none=>
   have a6:=fun j=>lE 1 (Oi j aw C a8)
   have iy:kU r=none:=by unfold kU;rw[a_];dsimp only;rw[a8]
   refine hP (e:=10) wL fun n=>?_
   refine eu {} 1 func21 fun Γ cT eg cd=>ep ?_
   have eB:=fun st h=>cd st h ⟨⟨eg 0 _ rfl,fL _ _⟩,trivial⟩
   clear cd;repeat' first|(with_reducible refine eN 0 _ rfl ?_);(repeat' first|refine af ?_|(with_reducible refine aL 41 ?_);(refine aX [1] ae rfl rfl (gD _) ?_)|simp only[cL,cO,cZ,cW,dp,cS]|refine J cw ?_|refine J fe ?_|simp only[d1,d2,d3,d4]|(with_reducible refine aL 49 ?_);(refine aX [1] ae rfl rfl (h1 _) ?_)|refine eR ?_|refine ab ?_ ?_<;>intro h<;>try exact aa);(all_goals exact eT [1] ae rfl rfl (a6 _) (eB _ ⟨rfl,trivial⟩));done|refine af ?_|(with_reducible refine aL 41 ?_);(refine aX [1] ae rfl rfl (gD _) ?_)|simp only[cL,cO,cZ,cW,dp,cS]|refine J cw ?_|refine J fe ?_|simp only[d1,d2,d3,d4]|(with_reducible refine aL 49 ?_);(refine aX [1] ae rfl rfl (h1 _) ?_)|refine ag ?_|refine ab ?_ ?_<;>intro h<;>try exact aa
  |some x=>
   obtain⟨F,aY⟩:=x;have h2:=fun j=>dN 1 (VX j aw aY F C a8)
   have I:=aaF a8 C;have M:=J4 a8;cases dk:eo gg aY with
   |none=>
    have a6:=fun j=>lE 1 (wA j aY I dk)
    have iy:kU r=none:=by unfold kU;rw[a_];dsimp only;rw[a8];dsimp only;rw[dk]
    refine hP (e:=10) wL fun n=>?_
    refine eu {} 1 func21 fun Γ cT eg cd=>ep ?_
    have eB:=fun st h=>cd st h ⟨⟨eg 0 _ rfl,fL _ _⟩,trivial⟩
    clear cd;repeat' first|(with_reducible refine eN 0 _ rfl ?_);(repeat' first|refine af ?_|(with_reducible refine aL 41 ?_);(refine aX [1] ae rfl rfl (gD _) ?_)|simp only[cL,cO,cZ,cW,dp,cS]|refine J cw ?_|refine J fe ?_|simp only[d1,d2,d3,d4]|(with_reducible refine aL 49 ?_);(refine aX [1] ae rfl rfl (h1 _) ?_)|(with_reducible refine aL 50 ?_);(refine aX [1] ae rfl rfl (h2 _) ?_)|refine eR ?_|refine ab ?_ ?_<;>intro h<;>try exact aa);(all_goals exact eT [1] ae rfl rfl (a6 _) (eB _ ⟨rfl,trivial⟩));done|refine af ?_|(with_reducible refine aL 41 ?_);(refine aX [1] ae rfl rfl (gD _) ?_)|simp only[cL,cO,cZ,cW,dp,cS]|refine J cw ?_|refine J fe ?_|simp only[d1,d2,d3,d4]|(with_reducible refine aL 49 ?_);(refine aX [1] ae rfl rfl (h1 _) ?_)|(with_reducible refine aL 50 ?_);(refine aX [1] ae rfl rfl (h2 _) ?_)|refine ag ?_|refine ab ?_ ?_<;>intro h<;>try exact aa
   |some x=>
    obtain⟨g,u⟩:=x;have bI:=fun j=>dN 1 (vF j aY u g I dk)
    have X:=k0 dk I;cases gn:eo gg u with
    |none=>
     have a6:=fun j=>lE 1 (wA j u X gn)
     have iy:kU r=none:=LB;refine hP (e:=10) wL fun n=>?_
     refine eu {} 1 func21 fun Γ cT eg cd=>ep ?_
     have eB:=fun st h=>cd st h ⟨⟨eg 0 _ rfl,fL _ _⟩,trivial⟩
     clear cd;repeat' first|(with_reducible refine eN 0 _ rfl ?_);(repeat' first|refine af ?_|(with_reducible refine aL 41 ?_);(refine aX [1] ae rfl rfl (gD _) ?_)|simp only[cL,cO,cZ,cW,dp,cS]|refine J cw ?_|refine J fe ?_|simp only[d1,d2,d3,d4]|(with_reducible refine aL 49 ?_);(refine aX [1] ae rfl rfl (h1 _) ?_)|(with_reducible refine aL 50 ?_);(refine aX [1] ae rfl rfl (h2 _) ?_)|(with_reducible refine aL 51 ?_);(refine aX [1] ae rfl rfl (bI _) ?_)|refine eR ?_|refine ab ?_ ?_<;>intro h<;>try exact aa);(all_goals exact eT [1] ae rfl rfl (a6 _) (eB _ ⟨rfl,trivial⟩));done|refine af ?_|(with_reducible refine aL 41 ?_);(refine aX [1] ae rfl rfl (gD _) ?_)|simp only[cL,cO,cZ,cW,dp,cS]|refine J cw ?_|refine J fe ?_|simp only[d1,d2,d3,d4]|(with_reducible refine aL 49 ?_);(refine aX [1] ae rfl rfl (h1 _) ?_)|(with_reducible refine aL 50 ?_);(refine aX [1] ae rfl rfl (h2 _) ?_)|(with_reducible refine aL 51 ?_);(refine aX [1] ae rfl rfl (bI _) ?_)|refine ag ?_|refine ab ?_ ?_<;>intro h<;>try exact aa
    |some x=>
     obtain⟨t,z⟩:=x;have tV:=fun j=>dN 1 (vF j u z t X gn)
     cases z with
     |cons s z=>
      have a6:=fun j=>lE 1 (At j s z)
      have iy:kU r=none:=LB;refine hP (e:=10) wL fun n=>?_
      refine eu {} 1 func21 fun Γ cT eg cd=>ep ?_
      have eB:=fun st h=>cd st h ⟨⟨eg 0 _ rfl,fL _ _⟩,trivial⟩
      clear cd;repeat' first|(with_reducible refine eN 0 _ rfl ?_);(repeat' first|refine af ?_|(with_reducible refine aL 41 ?_);(refine aX [1] ae rfl rfl (gD _) ?_)|simp only[cL,cO,cZ,cW,dp,cS]|refine J cw ?_|refine J fe ?_|simp only[d1,d2,d3,d4]|(with_reducible refine aL 49 ?_);(refine aX [1] ae rfl rfl (h1 _) ?_)|(with_reducible refine aL 50 ?_);(refine aX [1] ae rfl rfl (h2 _) ?_)|(with_reducible refine aL 51 ?_);(refine aX [1] ae rfl rfl (bI _) ?_)|(with_reducible refine aL 51 ?_);(refine aX [1] ae rfl rfl (tV _) ?_)|refine eR ?_|refine ab ?_ ?_<;>intro h<;>try exact aa);(all_goals exact eT [1] ae rfl rfl (a6 _) (eB _ ⟨rfl,trivial⟩));done|refine af ?_|(with_reducible refine aL 41 ?_);(refine aX [1] ae rfl rfl (gD _) ?_)|simp only[cL,cO,cZ,cW,dp,cS]|refine J cw ?_|refine J fe ?_|simp only[d1,d2,d3,d4]|(with_reducible refine aL 49 ?_);(refine aX [1] ae rfl rfl (h1 _) ?_)|(with_reducible refine aL 50 ?_);(refine aX [1] ae rfl rfl (h2 _) ?_)|(with_reducible refine aL 51 ?_);(refine aX [1] ae rfl rfl (bI _) ?_)|(with_reducible refine aL 51 ?_);(refine aX [1] ae rfl rfl (tV _) ?_)|refine ag ?_|refine ab ?_ ?_<;>intro h<;>try exact aa
     |nil=>
      have fr:=fun j=>dN 1 (zZ j)
      have iy:kU r=some (i,F,g,t):=LB;have oX:de f c r=jK f i (jP F 6 (fz (kC F g) F.a F.b)) t:=wL;have iZ:=agz F M g;have Y:=IU F g F.a F.b;generalize fz (kC F g) F.a F.b=D at *;obtain⟨d,e⟩:=D;dsimp only at Y iZ oX;by_cases uY:e=0;rotate_left
      .have a6:=YK F 6 d e uY;refine hP (e:=e) X6 fun n=>?_
       exact O5
      subst uY;have Fw:de f c r=jK f i (eM (ht F 6 d)) t:=by rw[oX];unfold jP;rw[if_pos rfl]
      by_cases cd:(eM (ht F 6 d)).2=0;rotate_left
      .have a6:=Zo F 6 d M G cd;refine hP (e:=(eM (ht F 6 d)).2) Sc fun n=>?_
       generalize (eM (ht F 6 d)).2=E at *;exact O5
      have O:=aay F 6 d M G cd;have ah:=JW (F:=F) (pr:=6) Y;have De:de f c r=la f i (eM (ht F 6 d)).1 t:=by rw[Fw];unfold jK;rw[if_pos cd]
      generalize (eM (ht F 6 d)).1=T at *;by_cases qw:(cb f i T t).2.2.2=0
      .have Z:=fun n=>I1 9 n f Q.wf i T G t qw
       refine wX (v:=(cb f i T t).1) (l:=kr (cb f i T t).2.2.1 (cb f i T t).2.1) HD false fun n L7=>?_
       generalize kr (cb f i T t).2.2.1 (cb f i T t).2.1=L at *;generalize (cb f i T t).1=v at *;refine h0 {} 1 func21 fun Γ cT eg=>ar ?_
       have bd:n<Γ.g0:=cT 0 _ rfl;repeat' first|refine af ?_|(with_reducible refine aL 41 ?_);(refine aX [1] ae rfl rfl (gD _) ?_)|simp only[cL,cO,cZ,cW,dp,cS]|refine J cw ?_|refine J fe ?_|simp only[d1,d2,d3,d4]|(with_reducible refine aL 49 ?_);(refine aX [1] ae rfl rfl (h1 _) ?_)|(with_reducible refine aL 50 ?_);(refine aX [1] ae rfl rfl (h2 _) ?_)|(with_reducible refine aL 51 ?_);(refine aX [1] ae rfl rfl (bI _) ?_)|(with_reducible refine aL 51 ?_);(refine aX [1] ae rfl rfl (tV _) ?_)|(with_reducible refine aL 45 ?_);(refine aX [1] ae rfl rfl (fr _) ?_)|refine aL 55 (fS iZ ?_)|refine aL 54 (fS O ?_)|(with_reducible refine aL 53 ?_);(refine gb [0] [9] [0,9] rfl ae rfl rfl (Z _) ?_)|refine ag ?_|refine ab ?_ ?_<;>intro h<;>try exact aa|exact al|fail
       exact Nz
      have a6:=fun n=>KZ n f Q.wf i T G t qw
      refine hP (e:=(cb f i T t).2.2.2) Kt fun n=>?_
      generalize (cb f i T t).2.2.2=E at *;refine eu {} 1 func21 fun Γ cT eg cd=>ep ?_
      have eB:=fun st h=>cd st h ⟨⟨eg 0 _ rfl,fL _ _⟩,trivial⟩
      clear cd;repeat' first|(with_reducible refine eN 7 _ rfl ?_);(repeat' first|refine af ?_|(with_reducible refine aL 41 ?_);(refine aX [1] ae rfl rfl (gD _) ?_)|simp only[cL,cO,cZ,cW,dp,cS]|refine J cw ?_|refine J fe ?_|simp only[d1,d2,d3,d4]|(with_reducible refine aL 49 ?_);(refine aX [1] ae rfl rfl (h1 _) ?_)|(with_reducible refine aL 50 ?_);(refine aX [1] ae rfl rfl (h2 _) ?_)|(with_reducible refine aL 51 ?_);(refine aX [1] ae rfl rfl (bI _) ?_)|(with_reducible refine aL 51 ?_);(refine aX [1] ae rfl rfl (tV _) ?_)|(with_reducible refine aL 45 ?_);(refine aX [1] ae rfl rfl (fr _) ?_)|refine aL 55 (fS iZ ?_)|refine aL 54 (fS O ?_)|refine eR ?_|refine ab ?_ ?_<;>intro h<;>try exact aa);(all_goals exact eT [0] ae rfl rfl (a6 _) (eB _ ⟨rfl,trivial⟩));done|refine af ?_|(with_reducible refine aL 41 ?_);(refine aX [1] ae rfl rfl (gD _) ?_)|simp only[cL,cO,cZ,cW,dp,cS]|refine J cw ?_|refine J fe ?_|simp only[d1,d2,d3,d4]|(with_reducible refine aL 49 ?_);(refine aX [1] ae rfl rfl (h1 _) ?_)|(with_reducible refine aL 50 ?_);(refine aX [1] ae rfl rfl (h2 _) ?_)|(with_reducible refine aL 51 ?_);(refine aX [1] ae rfl rfl (bI _) ?_)|(with_reducible refine aL 51 ?_);(refine aX [1] ae rfl rfl (tV _) ?_)|(with_reducible refine aL 45 ?_);(refine aX [1] ae rfl rfl (fr _) ?_)|refine aL 55 (fS iZ ?_)|refine aL 54 (fS O ?_)|refine ag ?_|refine ab ?_ ?_<;>intro h<;>try exact aa
end Go.Proofs.YtdiobdlinjgakaaGreatDoor.R
