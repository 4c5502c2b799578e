import Derived.Test.YtdiobdlinjgakaaGreatDoorDh18
import Derived.Lib.UnsafeStr
import Derived.BigCall
import Derived.BigGuard
import Derived.Sort.Grow
set_option linter.unusedVariables false
set_option linter.unusedSimpArgs false
set_option maxHeartbeats 8000000
set_option maxRecDepth 100000
open Go.Proofs.Tryz
open Go.IntKind renaming i64->_a,u32->_d
open Go.IntWalk renaming i64_in->_b
open List renaming getElem?_eq_getElem->_c,mem_of_getElem?->_i,all_eq_true->_o,getElem?_map->_t,foldl_append->_u,take_length->_v,intersperse->_w,intercalate->_x,all_append->_y,mem_cons->_z,map_map->_A
open Go.Lib renaming decDigits->_e,join->_p
open ByteArray renaming mk->_f
open Int renaming toNat_natCast->_g,fdiv_eq_ediv_of_nonneg->_h,reduceSub->_B,reduceMul->_C
open Nat renaming le_refl->_j,zero_le->_m,pow_le_pow_right->_n,pow_succ->_q,le_trans->_r,mod_lt->_s
open Option.some renaming inj->_k
open Array renaming getElem?_modify->_l
namespace Go.Proofs.YtdiobdlinjgakaaGreatDoor
attribute [local irreducible] bc Go
theorem GJ:((0:Nat):Int)=0/\((1:Nat):Int)=1/\((2:Nat):Int)=2/\((3:Nat):Int)=3/\((4:Nat):Int)=4:=⟨rfl,rfl,rfl,rfl,rfl⟩
def p3(a:Nat):List UInt8:=_e (a/16777216%256)
def rv(a:Nat):List UInt8:=_e (a/65536%256)
def r1(a:Nat):List UInt8:=_e (a/256%256)
def uj(a:Nat):List UInt8:=_e (a%256)
def vx(a:Nat):List ByteArray:=[I (p3 a),I (rv a),I (r1 a),I (uj a)]
theorem sv(n:Nat):(_e (n%256)).length<=256:=by
 have:=Nu (n%256);omega
theorem akQ(a:Nat):_f (_p ((vx a).map (·.data.toList)) (_f #[46]).data.toList).toArray=I (eF a):=rfl
theorem adY(a:Nat):(_p ((vx a).map (·.data.toList)) (_f #[46]).data.toList).length<=140737488355328:=by
 show(eF a).length<=_;have b:=sv (a/16777216);have h1:=sv (a/65536);have h2:=sv (a/256);have c:=sv a;unfold eF;simp[_p,_x,_w];omega
theorem aid(b:Int)(c:0<=b)(h1:b<=4294967295):bits .and .u32 b 255=b%256:=by go_bits2
theorem DY(n:Nat)(h:n<4294967296):bits .and .u32 (n:Int) 255=((n%256:Nat):Int):=by
 rw[aid _ G G];omega
theorem Q9(a:Nat)(z:a<4294967296):Spec prog 91 [.v (.int .u32 (a:Nat))] (.v (.string (I (eF a)))):=by
 have f:=Kv (vx a) ⟨#[46]⟩ false (by show 0<4;omega) (by show 4<=_;omega) (adY a);rw[akQ]at f;have d0:((a:Nat):Int).fdiv (2 ^ min 24 _d.bits)=((a/16777216:Nat):Int):=by rw[show min 24 _d.bits=24 from rfl,_h _ ae];rfl
 have d1:((a:Nat):Int).fdiv (2 ^ min 16 _d.bits)=((a/65536:Nat):Int):=by rw[show min 16 _d.bits=16 from rfl,_h _ ae];rfl
 have d2:((a:Nat):Int).fdiv (2 ^ min 8 _d.bits)=((a/256:Nat):Int):=by rw[show min 8 _d.bits=8 from rfl,_h _ ae];rfl
 have d3:((a:Nat):Int).fdiv (2 ^ min 0 _d.bits)=((a:Nat):Int):=by rw[show min 0 _d.bits=0 from rfl,_h _ ae];simp
 have oI:=DY (a/16777216) G;have ah:=DY (a/65536) G;have ai:=DY (a/256) G;have C:=DY a z;have M:_a.wrap ((a/16777216%256:Nat):Int)=((a/16777216%256:Nat):Int):=_b _ G;have O:_a.wrap ((a/65536%256:Nat):Int)=((a/65536%256:Nat):Int):=_b _ G;have Q:_a.wrap ((a/256%256:Nat):Int)=((a/256%256:Nat):Int):=_b _ G;have c3:_a.wrap ((a%256:Nat):Int)=((a%256:Nat):Int):=_b _ G;have g:=Am (a/16777216%256) G;have j:=Am (a/65536%256) G;have m:=Am (a/256%256) G;have q:=Am (a%256) G;change Spec prog _ _ (.v (.string (I (p3 a))))at g;change Spec prog _ _ (.v (.string (I (rv a))))at j;change Spec prog _ _ (.v (.string (I (r1 a))))at m;change Spec prog _ _ (.v (.string (I (uj a))))at q;generalize a/16777216%256=Y at *;generalize a/65536%256=bW at *;generalize a/256%256=dq at *;generalize a%256=n3 at *;refine az {} 0 func91 fun Γ an=>ar ?_
 repeat' first|refine af ?_|refine ag ?_|refine ab ?_ ?_<;>intro h<;>try exact aa|fail
 apply eJ
 .exact gU ⟨.d0,.d0,.d3⟩ 1 1 rfl rfl
 refine bz ?_;refine bS (α:=Nat×Nat×Nat) (fun x=>[(⟨.d0,.d0,.d3⟩,.aG 1 x.2.1 1 0 x.1 false),(⟨.d0,.d0,.d4⟩,.v (.int .i64 (24-8*(x.1:Nat))))]) (fun x=>[(0,none),(1,some ⟨x.2.1,1,bk ((vx a).take x.1)⟩)]) (fun x=>x.2.2) (fun x=>4-x.1) (fun x=>x.1<=4) (0,Γ.g0,Γ.g0+1) (_m _) ?_ ?_
 .exact bs
 rintro⟨i,u,c⟩ U;dsimp only at U⊢;refine bz ?_;obtain rfl|Z:i=4\/i<4:=G
 .have X:kV ⟨u,1,bk ((vx a).take 4)⟩ [.aG 1 u 1 0 4 false,.v (.string ⟨#[46]⟩)] [.snap 1 ((vx a).map fun x=>[.v (.string x)]) false,.v (.string ⟨#[46]⟩)]:=⟨.inl ⟨rfl,rfl,by show 0+4<=4;omega,rfl⟩,rfl,rfl⟩;simp only[GJ,_C,_B];repeat' first|refine af ?_|refine gC 1 rfl f X rfl ?_|refine ag ?_|refine ab ?_ ?_<;>intro h<;>try exact aa|exact al|fail
  all_goals exact b0
 have:i=0\/i=1\/i=2\/i=3:=G;rcases this with rfl|rfl|rfl|rfl;all_goals simp only[GJ,_C,_B]
 all_goals dsimp only[vx,List.take,bk,List.map,Nat.reduceMul,Nat.reduceSub]
 repeat' first|refine af ?_|simp only[d0,d1,d2,d3,oI,ah,ai,C,M,O,Q,c3]|refine J g ?_|refine J j ?_|refine J m ?_|refine J q ?_|refine ag ?_|refine ab ?_ ?_<;>intro h<;>try exact aa|exact al|fail
 .refine br ⟨(1,c+1,c+2),G,G,?_⟩;exact bs
 .refine br ⟨(2,c+1,c+2),G,G,?_⟩;exact bs
 .refine br ⟨(3,c+1,c+2),G,G,?_⟩;exact bs
 refine br ⟨(4,c+1,c+2),G,G,?_⟩;exact bs
theorem F7(n:Nat):(u8 ((n:Nat):Int)).toNat=n%256:=by
 unfold u8;rw[show(((n:Nat):Int)%256).toNat=n%256 from G,UInt8.toNat_ofNat'];omega
theorem aja(a:Nat):au (c_ (a:Nat)) 0=a/16777216%256/\au (c_ (a:Nat)) 1=a/65536%256/\au (c_ (a:Nat)) 2=a/256%256/\au (c_ (a:Nat)) 3=a%256:=by
 refine⟨?_,?_,?_,?_⟩
 .show(u8 ((a:Nat)/65536/256)).toNat=_;rw[show((a:Nat):Int)/65536/256=((a/16777216:Nat):Int)from G,F7]
 .show(u8 ((a:Nat)/65536)).toNat=_;rw[show((a:Nat):Int)/65536=((a/65536:Nat):Int)from G,F7]
 .show(u8 ((a:Nat)/256)).toNat=_;rw[show((a:Nat):Int)/256=((a/256:Nat):Int)from G,F7]
 show(u8 ((a:Nat):Int)).toNat=_;rw[F7]
def GK(a:Nat):Nat->List UInt8
 |0=>[]
 |1=>p3 a
 |2=>p3 a++[46]++rv a
 |3=>p3 a++[46]++rv a++[46]++r1 a
 |_=>p3 a++[46]++rv a++[46]++r1 a++[46]++uj a
theorem ago(a:Nat):GK a 4=eF a:=by
 show p3 a++[46]++rv a++[46]++r1 a++[46]++uj a=_;unfold eF p3 rv r1 uj;simp[_p,_x,_w]
theorem ahE(a:Nat)(aj:a<4294967296):Spec prog 32 [.v (.int .u32 (a:Nat))] (.v (.string (I (eF a)))):=by
 have m:=rI (a:Nat) G G;have q:(c_ (a:Nat)).length=4:=ns _;obtain⟨u,z,C,M⟩:=aja a;have O:=sv (a/16777216);have Q:=sv (a/65536);have U:=sv (a/256);have X:=sv a;change (p3 a).length<=256 at O;change (rv a).length<=256 at Q;change (r1 a).length<=256 at U;change (uj a).length<=256 at X;have Y:_a.wrap ((a/16777216%256:Nat):Int)=((a/16777216%256:Nat):Int):=_b _ G;have Z:_a.wrap ((a/65536%256:Nat):Int)=((a/65536%256:Nat):Int):=_b _ G;have ac:_a.wrap ((a/256%256:Nat):Int)=((a/256%256:Nat):Int):=_b _ G;have c3:_a.wrap ((a%256:Nat):Int)=((a%256:Nat):Int):=_b _ G;have c:=wk _ (a/16777216%256) (_j _) G;have f:=wk _ (a/65536%256) (_j _) G;have g:=wk _ (a/256%256) (_j _) G;have j:=wk _ (a%256) (_j _) G;change Spec prog _ _ (.v (.string (I (p3 a))))at c;change Spec prog _ _ (.v (.string (I (rv a))))at f;change Spec prog _ _ (.v (.string (I (r1 a))))at g;change Spec prog _ _ (.v (.string (I (uj a))))at j;have ae:_f #[46]=I [46]:=rfl;have ah:_f #[]=I []:=rfl;rw[<-ago];generalize c_ (a:Nat)=ak at *;refine az {} 0 func32 fun Γ an=>ar ?_
 repeat' first|refine af ?_|refine J m ?_|refine ag ?_|refine ab ?_ ?_<;>intro h<;>try exact aa|fail
 refine bS (α:=Nat) (fun x=>[(⟨.d0,.d0,.d4⟩,.v (.string (I (GK a x)))),(⟨.d0,.d1,.d0⟩,.v (.int .i64 (x:Nat)))]) (fun _=>[]) (fun _=>Γ.g0) (fun x=>4-x) (fun x=>x<=4) 0 (_m _) ?_ ?_
 .exact bs
 intro i ai;dsimp only at ai⊢;refine bz ?_;obtain rfl|am:i=4\/i<4:=G
 .generalize GK a 4=P;exact o3
 have:i=0\/i=1\/i=2\/i=3:=G;rcases this with rfl|rfl|rfl|rfl;all_goals simp only[GJ]
 all_goals dsimp only[GK]
 repeat' first|refine af ?_|simp only[ae,ah,dt,aU,q,b_,Int.reduceToNat,u,z,C,M,Y,Z,ac,c3]|refine J c ?_|refine J f ?_|refine J g ?_|refine J j ?_|refine ag ?_|refine ab ?_ ?_<;>intro h<;>try exact aa|refine aK n9 ?_|exact al|fail
 .refine br ⟨1,G,G,?_⟩;exact bs
 .refine br ⟨2,G,G,?_⟩;exact bs
 .refine br ⟨3,G,G,?_⟩;exact bs
 refine br ⟨4,G,G,?_⟩;exact bs
theorem Qn(l:List UInt8)(b:UInt8):gL (l++[b])=10*gL l+(b.toNat-48):=by
 unfold gL;rw[_u];rfl
theorem Wb{w:List UInt8}(h:w.all od=true):∀i,i<=w.length->gL (w.take i)<10 ^ i:=by
 intro i;induction i with
 |zero=>intro _;exact Nat.one_pos
 |succ i c=>
  intro f;have b:w[i]?=some (w[i]' G):=_c G;have g:=of_decide_eq_true (_o.1 h _ (_i b));have:=c G;rw[nU b,Qn,_q];omega
def vj(r:Nat×Bool):O:=.aS [.v (.int .i64 (r.1:Nat)),.v (.bool r.2)]
theorem y1(w:List UInt8)(aj:w.length<=1048576):Spec prog 63 [.v (.string (I w))] (vj (cY w)):=by
 have f:=cA (w.length:Nat) 1 9;by_cases u:1<=w.length/\w.length<=9
 .rw[decide_eq_true (show(1:Int)<=(w.length:Nat)/\((w.length:Nat):Int)<=9 from G)]at f;refine az {} 0 func63 fun Γ an=>ar ?_
  repeat' first|refine af ?_|simp only[aU]|refine J f ?_|refine ag ?_|refine ab ?_ ?_<;>intro h<;>try exact aa|exact al|fail
  refine bS (α:=Nat) (fun i=>[(⟨.d0,.d0,.d4⟩,.v (.int .i64 (gL (w.take i):Nat))),(⟨.d0,.d1,.d4⟩,.v (.int .i64 (i:Nat)))]) (fun _=>[]) (fun _=>Γ.g0) (fun i=>w.length-i) (fun i=>i<=w.length/\(w.take i).all od=true) 0 ⟨_m _,rfl⟩ ?_ ?_
  .exact bs
  rintro i ⟨M,c⟩;dsimp only at M c⊢;refine bz ?_;by_cases C:i<w.length
  .obtain⟨b,g⟩:∃b,w[i]?=some b:=⟨_,_c C⟩;have ak:au w i=b.toNat:=C9 g;have am:=eQ w i;have j:=cA (au w i:Nat) 48 57;have JE:_a.wrap ((au w i:Nat):Int)=(au w i:Nat):=_b _ G;by_cases m:od b=true
   .have Q:=of_decide_eq_true m;have U:(w.take (i+1)).all od=true:=by
     rw[nU g,_y,c];simp[m]
    have X:gL (w.take i)<10 ^ i:=by
     have:=Wb c i c7;rwa[List.take_take,Nat.min_self]at this
    have Y:(10:Nat) ^ i<=10 ^ 8:=_n ae G;have Z:=Qn (w.take i) b;rw[<-nU g]at Z;rw[decide_eq_true (show(48:Int)<=(au w i:Nat)/\((au w i:Nat):Int)<=57 from G)]at j;have bl:_a.wrap ((i:Int)+1)=((i+1:Nat):Int):=er;have bD:_a.wrap (10*((gL (w.take i):Nat):Int))=10*((gL (w.take i):Nat):Int):=_b _ G;have eO:_a.wrap (10*((gL (w.take i):Nat):Int)+(au w i:Nat))=10*((gL (w.take i):Nat):Int)+(au w i:Nat):=_b _ G;have ac:_a.wrap (10*((gL (w.take i):Nat):Int)+(au w i:Nat)-48)=((gL (w.take (i+1)):Nat):Int):=er;repeat' first|refine af ?_|simp only[aU,b_,JE,bl,bD,eO,ac,_g]|refine J j ?_|refine ag ?_|refine ab ?_ ?_<;>intro h<;>try exact aa|exact al|fail
    refine br ⟨i+1,⟨C,U⟩,G,?_⟩;exact bs
   have z:cY w=(0,false):=by
    unfold cY;rw[if_neg fun q=>m (_o.1 q.2.2 b (_i g))]
   rw[z];have Q:¬(48<=b.toNat/\b.toNat<=57):=fun q=>m (decide_eq_true q)
   rw[decide_eq_false (show¬((48:Int)<=(au w i:Nat)/\((au w i:Nat):Int)<=57)from G)]at j;repeat' first|refine af ?_|simp only[aU,b_,JE,_g]|refine J j ?_|refine ag ?_|refine ab ?_ ?_<;>intro h<;>try exact aa|exact al|fail
   all_goals exact b0
  obtain rfl:i=w.length:=G;rw[_v]at c⊢;have X:gL w<10 ^ w.length:=by
   have:=Wb c w.length (_j _);rwa[_v]at this
  have Y:(10:Nat) ^ w.length<=10 ^ 9:=_n ae G;have ah:=wk _ (gL w) (_j _) G;have ai:cY w=(gL w,decide (_e (gL w)=w)):=by
   unfold cY;rw[if_pos ⟨u.1,u.2,c⟩]
  rw[ai];generalize gL w=V at *;repeat' first|refine af ?_|simp only[aU,dF]|refine J ah ?_|refine ag ?_|refine ab ?_ ?_<;>intro h<;>try exact aa|exact al|fail
  all_goals(refine cI ?_;first|exact cc|try simp only[cE]at *)
  all_goals first|rfl|exact congrArg (fun b=>O.aS [.v (.int .i64 (V:Nat)),.v (.bool b)]) aF
 have z:cY w=(0,false):=by
  unfold cY;rw[if_neg fun q=>u ⟨q.1,q.2.1⟩]
 rw[z];rw[decide_eq_false (show¬((1:Int)<=(w.length:Nat)/\((w.length:Nat):Int)<=9)from G)]at f;refine az {} 0 func63 fun Γ an=>ar ?_
 repeat' first|refine af ?_|simp only[aU]|refine J f ?_|refine ag ?_|refine ab ?_ ?_<;>intro h<;>try exact aa|exact al|fail
 all_goals exact b0
theorem ye(n:Int):_d.wrap n=n%4294967296:=rfl
def s7(r:Nat×Int):O:=.aS [.v (.int .u32 (r.1:Nat)),.v (.int .i64 r.2)]
theorem nP(c:UInt8):∀(l:List UInt8)(p:List UInt8),p∈bm c l->p.length<=l.length
 |[],p,h=>by
  simp[bm]at h;subst h;simp
 |b::l,p,h=>by
  by_cases g:b=c
  .subst g;rw[ri]at h;rcases _z.1 h with rfl|h
   .simp
   have:=nP b l p h;simp;omega
  cases f:bm c l with
  |nil=>exact absurd f (nG c l)
  |cons j ps=>
   rw[oZ g f]at h;rcases _z.1 h with rfl|h
   .have:=nP c l j (by rw[f];simp);simp;omega
   have:=nP c l p (by rw[f];simp[h]);simp;omega
def qH(ps:List (List UInt8)):Nat:=ps.foldl (fun a w=>256*a+(cY w).1) 0
theorem aj5(ps:List (List UInt8))(p:List UInt8):qH (ps++[p])=256*qH ps+(cY p).1:=by
 unfold qH;rw[_u];rfl
theorem Xy{ps:List (List UInt8)}{i:Nat}{p:List UInt8}(b:ps[i]?=some p):cf (bk (ps.map I)) i=[.v (.string (I p))]:=by
 rw[lZ,bk,_A,_t,b];rfl
theorem Y_{ps:List (List UInt8)}(h:¬(ps.length=4/\ps.all lr=true)):uz ps=(0,10):=if_neg h
theorem alD{ps:List (List UInt8)}(h:ps.length=4/\ps.all lr=true):uz ps=(qH ps,0):=if_pos h
theorem VE(l:List UInt8)(hl:l.length<=1048576):Spec prog 64 [.v (.string (I l))] (s7 (uz (bm 46 l))):=by
 have aj:Spec prog 6 [.v (.string (I l)),.v (.string (_f #[46]))] (.snap 1 (bk ((bm 46 l).map I)) false):=va 46 l hl;have U:∀p∈bm 46 l,p.length<=1048576:=fun p f=>_r (nP 46 l p f) hl
 generalize bm 46 l=ps at aj U⊢;have g:(bk (ps.map I)).length=ps.length:=lD;by_cases c:ps.length=4
 .refine az {} 0 func64 fun Γ an=>ar ?_
  repeat' first|refine af ?_|simp only[g,c]|refine J aj ?_|refine ag ?_|refine ab ?_ ?_<;>intro h<;>try exact aa|exact al|fail
  refine bS (α:=Nat) (fun i=>[(⟨.d0,.d0,.d5⟩,.v (.int .i64 (qH (ps.take i):Nat))),(⟨.d0,.d2,.d1⟩,.v (.int .i64 (i:Nat)))]) (fun i=>[]) (fun _=>Γ.g0) (fun i=>4-i) (fun i=>i<=4/\(ps.take i).all lr=true/\qH (ps.take i)<256 ^ i) 0 ⟨_m _,rfl,by show(0:Nat)<1;decide⟩ ?_ ?_
  .exact bs
  rintro i ⟨Z,u,X⟩;dsimp only at Z u X⊢;refine bz ?_;by_cases am:i<4
  .obtain⟨p,f⟩:∃p,ps[i]?=some p:=⟨_,_c G⟩;have z:=Xy f;have Y:p∈ps:=_i f;have j:=y1 p (U p Y);have ao:(256:Nat) ^ i<=256 ^ 3:=_n ae G;have bl:_a.wrap ((i:Int)+1)=((i+1:Nat):Int):=er;have C:=aj5 (ps.take i) p;rw[<-nU f]at C;have ac:lr p=true->(ps.take (i+1)).all lr=true:=fun M=>by
    rw[nU f,_y,u];simp[M]
   have ah:lr p=false->uz ps=(0,10):=fun M=>Y_ fun q=>by
    have:=_o.1 q.2 p Y;rw[M]at this;cases this
   have m:lr p=((cY p).2&&decide ((cY p).1<=255)):=rfl;unfold vj at j;generalize ap:(cY p).1=n at j m C;generalize (cY p).2=b at j m;generalize qH (ps.take i)=A at *;by_cases bn:lr p=true
   .rw[m,Bool.and_eq_true,decide_eq_true_eq]at bn;obtain⟨rfl,ai⟩:=bn;have bD:_a.wrap (256*(A:Nat))=256*(A:Nat):=_b _ G;have eO:_a.wrap (256*(A:Nat)+(n:Nat))=((qH (ps.take (i+1)):Nat):Int):=er;have O:decide ((255:Int)<(n:Nat))=false:=decide_eq_false G;repeat' first|refine af ?_|simp only[g,c,z,bl,bD,eO,O,_g]|refine J j ?_|refine ag ?_|refine ab ?_ ?_<;>intro h<;>try exact aa|exact al|fail
    refine br ⟨i+1,⟨G,ac ?_,?_⟩,G,?_⟩
    .rw[m];simp[ai]
    .show qH (ps.take (i+1))<256 ^ (i+1);rw[C,_q];omega
    exact bs
   have Q:lr p=false:=uZ;rw[ah Q];rw[m]at Q;cases b with
   |false=>
    repeat' first|refine af ?_|simp only[g,c,z,bl,_g]|refine J j ?_|refine ag ?_|refine ab ?_ ?_<;>intro h<;>try exact aa|exact al|fail
    all_goals exact b0
   |true=>
    have O:decide ((255:Int)<(n:Nat))=true:=by
     rw[Bool.true_and,decide_eq_false_iff_not]at Q;exact xb
    repeat' first|refine af ?_|simp only[g,c,z,bl,O,_g]|refine J j ?_|refine ag ?_|refine ab ?_ ?_<;>intro h<;>try exact aa|exact al|fail
    all_goals exact b0
  obtain rfl:i=4:=G;rw[List.take_of_length_le G]at u X⊢;rw[alD ⟨c,u⟩];generalize qH ps=A at *;have bD:_d.wrap (A:Nat)=(A:Nat):=by
   have e:(256:Nat) ^ 4=4294967296:=ae;rw[ye];omega
  repeat' first|refine af ?_|simp only[g,c,bD]|refine ag ?_|refine ab ?_ ?_<;>intro h<;>try exact aa|exact al|fail
  all_goals exact b0
 rw[Y_ fun q=>c q.1];have ak:decide (((ps.length:Nat):Int)=4)=false:=decide_eq_false G;refine az {} 0 func64 fun Γ an=>ar ?_
 repeat' first|refine af ?_|simp only[g,ak]|refine J aj ?_|refine ag ?_|refine ab ?_ ?_<;>intro h<;>try exact aa|exact al|fail
 all_goals exact b0
theorem QZ:∀(ps:List (List UInt8))(a b:Nat),a<4294967296->ni a ps=some b->b<4294967296
 |[],a,b,h,e=>by
  obtain rfl:=_k e;exact h
 |w::r,a,b,h,e=>by
  unfold ni at e;split at e
  .exact QZ r _ b (_s _ ae) e
  cases e
theorem ID(l:List UInt8)(hl:l.length<=1048576):Spec prog 153 [.v (.string (I l))] (s7 (e9 l)):=by
 have aj:Spec prog 6 [.v (.string (I l)),.v (.string (_f #[46]))] (.snap 1 (bk ((bm 46 l).map I)) false):=va 46 l hl;have m:∀p∈bm 46 l,p.length<=1048576:=fun p c=>_r (nP 46 l p c) hl
 have z:=rK 46 l;unfold e9;generalize bm 46 l=ps at aj m z⊢;have iR:(bk (ps.map I)).length=ps.length:=lD;refine az {} 0 func153 fun Γ an=>ar ?_
 repeat' first|refine af ?_|simp only[iR]|refine J aj ?_|refine ag ?_|refine ab ?_ ?_<;>intro h<;>try exact aa|exact al|fail
 refine bS (α:=Nat×Nat) (fun x=>[(⟨.d0,.d0,.d4⟩,.v (.int .u32 (x.2:Nat))),(⟨.d0,.d1,.d6⟩,.v (.int .i64 (x.1:Nat)))]) (fun i=>[]) (fun _=>Γ.g0) (fun x=>ps.length-x.1) (fun x=>x.1<=ps.length/\x.2<4294967296/\ni 0 ps=ni x.2 (ps.drop x.1)) (0,0) ⟨_m _,ae,rfl⟩ ?_ ?_
 .exact bs
 rintro⟨i,a⟩ ⟨C,u,bV⟩;dsimp only at C u bV⊢;refine bz ?_;by_cases f:i<ps.length
 .obtain⟨p,c⟩:∃p,ps[i]?=some p:=⟨_,_c f⟩;have aP:=Xy c;have M:p∈ps:=_i c;have aT:=ah7 p (m p M);rw[List.drop_eq_getElem_cons f,show ps[i]=p from _k ((_c f).symm.trans c),ni]at bV;have bl:_a.wrap ((i:Int)+1)=((i+1:Nat):Int):=er;unfold K2 at aT;cases ay:Lib.parseUintB 8 p with
  |ok n=>
   rw[ay]at aT bV;dsimp only at aT bV;have O:=Lib.parseUintB_le ay;have U:n<=255:=O;have bD:_d.wrap ((n:Nat):Int)=(n:Nat):=by rw[ye];omega
   have eO:bits .or .u32 (_d.wrap ((a:Nat)*2 ^ min 8 _d.bits)) (n:Nat)=(((a*256+n)%4294967296:Nat):Int):=by
    have e:min 8 _d.bits=8:=rfl;rw[e,ye,QN 8 _ _ G G G G G G];omega
   repeat' first|refine af ?_|simp only[iR,aP,bl,bD,eO,_g]|refine J aT ?_|refine ag ?_|refine ab ?_ ?_<;>intro h<;>try exact aa|exact al|fail
   refine br ⟨(i+1,(a*256+n)%4294967296),⟨f,_s _ ae,bV⟩,Nat.sub_lt_sub_left f (Nat.lt_succ_self i),?_⟩;exact bs
  |range=>exact TO
  |_=>exact TO
 obtain rfl:i=ps.length:=G;rw[List.drop_length,ni]at bV;rw[bV];dsimp only;have j:=Q9 a u;by_cases g:eF a=l
 .rw[if_pos g];rw[g]at j;repeat' first|refine af ?_|simp only[iR]|refine J j ?_|refine ag ?_|refine ab ?_ ?_<;>intro h<;>try exact aa|exact al|fail
  all_goals exact b0
 rw[if_neg g];have Q:decide (I (eF a)=I l)=false:=decide_eq_false fun q=>g (dF.1 q)
 repeat' first|refine af ?_|simp only[iR,Q]|refine J j ?_|refine ag ?_|refine ab ?_ ?_<;>intro h<;>try exact aa|exact al|fail
 all_goals exact b0
abbrev nb(l:List UInt8):List (List O):=l.map fun b=>[.v (.int .u8 (b.toNat:Int))]
abbrev iQ(b:Nat)(a:O)(k c:Nat)(l:List UInt8):aR:=⟨b,2,[[a,.eZ k c l.length 5]]⟩
abbrev jW(b:Nat)(l:List UInt8):aR:=⟨b,1,nb l⟩
theorem Mq(l:List UInt8):kq (I l)=nb l:=by simp[kq,I,nb]
theorem NS:∀l:List UInt8,eW (nb l)=true
 |[]=>rfl
 |b::l=>NS l
theorem LV(g:Nat)(l:List UInt8):c1 g (nb l):=eS (fun x=>fY)
theorem adN(l t:List UInt8):nb l++nb t=nb (l++t):=by simp[nb]
theorem PZ(l:List UInt8):(nb l).length=l.length:=by simp[nb]
theorem afE{st:bb}(s b:bK)(k:Nat){n sz:Nat}{T:TypeId}(aj:st.tm.get s=.ch n sz T)(c:st.tm.get b=.aS []):fP st ⟨st.tm.set s (.ptr k n sz 0 0),st.H,st.gen⟩:=afh s k aj
theorem SX(b c:Nat)(a:O)(l t:List UInt8)(C:l.length+t.length<=1073741824)(j:b1 prog 17 [.ch b 2 e5] [some (iQ b a 1 c l)] (fun r H=>r=.aS []/\H=[some (iQ b (.ch b 2 e5) 1 c l)])):
 fi prog 8 [.ch b 2 e5,.v (.string (I t))] [some (iQ b a 1 c l),some (jW c l)] 1 (fun f d H=>d=.aS [.v (.int .i64 (t.length:Nat)),.v .nilIface]/\H=[some (iQ b (.ch b 2 e5) 1 f (l++t)),none,some (jW f (l++t))]):=by
 refine h0 {typed:=true} 2 func8 fun Γ m G=>ar ?_
 have Eb:b<Γ.g0:=m 0 _ rfl;have h1:=NS t;have h2:=adN l t;have q:=PZ l;have u:=PZ t;have x:=LV Γ.g0 (l++t);have z:l.length+t.length=(l++t).length:=aF;unfold iQ jW at *;repeat' first|refine eJ (afE ⟨.d0,.d0,.d0⟩ ⟨.d0,.d0,.d7⟩ 0 rfl rfl) ?_|refine af ?_|(with_reducible refine bE 0 ?_ j (fun _ _ _ h=>h) ?_);(exact rfl)|refine ag ?_|refine ab ?_ ?_<;>intro h<;>try exact aa|simp only[aU,Mq,h2,q,u,z]|refine aK ⟨h1,Aw⟩ ?_|exact al|fail
 generalize nb (l++t)=J at *;generalize (l++t).length=L at *;refine kh [0,1,2] [Γ.g0] ?_ ae rfl (fun a g=>?_) (fun f=>?_) (fun f=>?_)
 .exact YQ
 .simp at g;subst g;exact⟨2,_,rfl,rfl⟩
 .exact UA
 refine⟨⟨.inr ⟨Eb,rfl⟩,rfl,?_⟩,⟨.inl ⟨0,rfl,rfl⟩,rfl,gK _ x⟩,rfl⟩;exact P1
def yF(b:Nat)(a:O):Prop:=a=.v (.pointer none)\/a=.ch b 2 e5
theorem Qk(b c:Nat)(a:O)(j:yF b a)(l t:List UInt8)(f:l.length+t.length<=1073741824):
 fi prog 8 [.ch b 2 e5,.v (.string (I t))] [some (iQ b a 1 c l),some (jW c l)] 1 (fun g d H=>d=.aS [.v (.int .i64 (t.length:Nat)),.v .nilIface]/\H=[some (iQ b (.ch b 2 e5) 1 g (l++t)),none,some (jW g (l++t))]):=by
 rcases j with rfl|rfl
 .exact SX b c _ l t f (aee b _)
 exact SX b c _ l t f (afF b _)
theorem al_{st:bb}(j k sz s:Nat)(qg:j≠k){n:Nat}{x y:List O}(a6:aB st.H j=some ⟨n,s,[x]⟩)(f1:x.length=y.length)(f2:∀(i:Nat)(d f:O),x[i]?=some d->y[i]?=some f->f=d\/(d=.v (.slice none 0 0)/\∃T,f=.eZ 1 st.gen 0 T))(Z:0<s):fP st ⟨st.tm,cl (cl st.H j (some ⟨n,s,[y]⟩)) k (some ⟨st.gen,sz,[]⟩),st.gen+1⟩:=by
 intro Γ N K a w e2;have G:¬K.bG st.gen:=fun h=>absurd (e2.fresh _ h) (Nat.lt_irrefl _)
 have h1:=EX (k:=k) (sz:=sz) e2.inv G e2.g0;have bg:=y5 K w st.gen;have Hu:(fun q=>if q=k then some (⟨st.gen,sz,[]⟩:aR)else aB st.H q) j=some ⟨n,s,[x]⟩:=by exact VR
 have sT:mQ (K.ud st.gen) w ⟨n,s,[y]⟩:=by
  rcases(h1.obj j _ Hu).two (fun bg=>Ic)with⟨z,g⟩|⟨z,I,t,J,M,g,Q,U,X⟩
  .cases g
  refine .inr (.inl ⟨z,I,t,J,M,g,Q,fun q b=>?_,fun i q m d b bf=>?_⟩)
  .simp at b;rw[b,<-f1];exact U x aF
  cases i with
  |succ i=>simp at b
  |zero=>
   simp at b;subst b;have C:m<x.length:=Ky;obtain⟨c,Y,u⟩:=X 0 x m _ rfl (_c C);refine⟨c,Y,?_⟩;rcases f2 m _ d (_c C) bf with e|⟨a_,T,a8⟩
   .rw[e];exact u
   rw[a_]at u;rw[a8,cQ u];exact .eZ (_j _) (.inl rfl)
 exact Oy
theorem Uo(j k:Nat)(c:j≠k){st:bb}{b:Nat}{a:O}(f:aB st.H j=some ⟨b,2,[[a,.v (.slice none 0 0)]]⟩):fP st ⟨st.tm,cl (cl st.H j (some (iQ b a 1 st.gen []))) k (some (jW st.gen [])),st.gen+1⟩:=
 al_ j k 1 2 c f rfl (fun i d g h1 h2=>by
  match i,h1,h2 with
  |0,h1,h2=>exact .inl (by rw[<-_k h1,<-_k h2])
  |1,h1,h2=>exact D3
  |i+2,h1,h2=>simp at h1) ae
end Go.Proofs.YtdiobdlinjgakaaGreatDoor
namespace Go.Proofs.YtdiobdlinjgakaaGreatDoor
open Go.RowKit Go.Sort Go.Lib
set_option maxRecDepth 100000 in
theorem acT(b g cap:Nat)(c:Array Value)(ax:Nat×Nat)(l:List UInt8)(w:World)(m:w.cell? ⟨b,1,none⟩=some (.slice (some ⟨g,0,none⟩) l.length cap))(q:w.heap[g]?=some (.cells c 5 ax))(u:cap=c.size)(J:l.length<=cap)
 (v:∀j x,l[j]?=some x->w.cell? ⟨g,j,none⟩=some (.int .u8 x.toNat)) (f:l≠[]) (M:l.length<=1073741824) :
 Calls prog 10 #[.pointer (some ⟨b,0,none⟩)] w fun e z=>e=.returned (.string ⟨l.toArray⟩)/\z=w.drew.freeze ⟨g,0,none⟩ l.length:=by
 subst u;have O:l.length≠0:=by simpa using f
 have Q:w.drew.cell? ⟨b,1,none⟩=some (.slice (some ⟨g,0,none⟩) l.length c.size):=m
 have U:(Builtin.unsafeSliceData_ #[47] 76 #[.slice (some ⟨g,0,none⟩) l.length c.size]).run prog w.drew=.ok (.pointer (some ⟨g,0,none⟩)) w.drew:=
  Lib.run_unsafeSliceData_row _ _ _ _ _ _ G
 have X:(Builtin.unsafeString_ #[76,3] 9 #[.pointer (some ⟨g,0,none⟩),.int .i64 l.length]).run prog w.drew=.ok (.string ⟨l.toArray⟩) (w.drew.freeze ⟨g,0,none⟩ l.length):=by
  refine Lib.run_unsafeString_row w.drew 76 3 9 5 Tryz.underlying76 b4 g c.size (by have C:w.drew.heap[g]?=some (.cells c 5 ax):=q;simp[World.shape?,C]) l f G G ?_;intro j x I;have:=v j x I;rw[Rx,Nat.zero_add];exact this
 go_enter func10,Tryz.ntmps10
 go_wp2
 have Y:=u9;go_region_o
 all_goals (go_wp2;go_ret;exact⟨rfl,rfl⟩)
theorem ab2{w:World}{g n:Nat}(W:Nat->Prop)(an:W g):cN W w (w.drew.freeze ⟨g,0,none⟩ n):=by
 have c:cN W w w.drew:=cN.sX rfl rfl rfl rfl;refine c.trans ?_;unfold World.freeze;split
 .exact cN.refl _ _
 refine⟨rfl,rfl,rfl,aF,fun k _ f=>?_,fun k b t ax h=>?_,fun k j m h=>?_⟩
 .simp only[_l];rw[if_neg (fun(e:g=k)=>f (e▸an))]
 .simp only[_l,h];by_cases e:g=k
  .rw[if_pos e];exact⟨b,_,rfl,rfl⟩
  rw[if_neg e];exact⟨b,ax,rfl,rfl⟩
 refine⟨j,m,?_,fun i e h=>⟨e,h,rfl⟩⟩;simp only[_l,h];by_cases e:g=k
 .rw[if_pos e];rfl
 rw[if_neg e]
theorem Sw(f g:Nat)(l:List UInt8)(u:l≠[])(Z:l.length<=1073741824):b1 prog 10 [.ch f 2 e5] [some ⟨f,2,[[.ch f 2 e5,.eZ 1 g l.length 5]]⟩,some ⟨g,1,kq (I l)⟩] (fun d H=>d=.v (.string (I l))/\H=[none,none]):=by
 refine⟨b4,fun K w aq g0 b ar aa=>?_⟩;have au:0<l.length:=List.length_pos_iff.2 u;obtain⟨v,rfl,ab⟩:=Cx aa;cases ab with
 |ch ac av=>
  rcases(b.obj 0 _ rfl).two (fun q=>Aj)with⟨z,C⟩|⟨z,aw,ay,az,C,G,ae,aA,J⟩
  .exact absurd ac z
  dsimp only at C G ae J;obtain⟨aB,af,ag⟩:=J 0 _ 1 _ rfl rfl;cases ag with
  |eZ ah M=>
   rename_i A cap;rcases M with M|⟨O,rfl,ai,ax,aj,ak⟩
   .omega
   rcases(b.obj 1 _ rfl).two (fun q=>Aj)with⟨Q,U⟩|⟨Q,aC,t2,aE,U,X,al,aF,Y⟩
   .exact absurd O Q
   dsimp only at U X al Y;have am:w.cell? ⟨(K.cut w).aD f,1,none⟩=some (.slice (some ⟨(K.cut w).aD g,0,none⟩) l.length cap):=by
    simp only[World.cell?,G];simpa using af
   have an:∀j x,l[j]?=some x->w.cell? ⟨(K.cut w).aD g,j,none⟩=some (.int .u8 x.toNat):=fun j x m=>by
    obtain⟨c,ao,ap⟩:=Y j [.v (.int .u8 x.toNat)] 0 _ (by
     show(kq (I l))[j]?=_;unfold kq;rw[_t];simp[I,m]) rfl
    cases ap;simp only[World.cell?,X];simpa using ao
   refine(acT _ _ cap ai ax l w am aj ak ah an u Z).mono ?_;rintro e aG ⟨rfl,rfl⟩;have m:=ab2 (w:=w) (n:=l.length) (cz K w g0 [some ⟨f,2,[[.ch f 2 e5,.eZ 1 g l.length 5]]⟩,some ⟨g,1,kq (I l)⟩]).W0 ⟨1,_,rfl,O,rfl⟩;refine⟨_,_,_,rfl,⟨rfl,rfl⟩,⟨b.ext.trans m,b.base,fun k o h=>?_,fun k aH o aI h=>?_,b.db,fun n h=>Nat.lt_of_lt_of_le (b.lt n h) m.size,fun k o h=>?_,fun k o h=>?_,b.ga⟩,.v _⟩
   all_goals
    rcases k with _|_|k
    .cases h
    .cases h
    cases h
end Go.Proofs.YtdiobdlinjgakaaGreatDoor
namespace Go.Proofs.YtdiobdlinjgakaaGreatDoor.R
attribute [local irreducible] bc Go
def cm(b:List ak):ak:=_p b [32]
theorem Di(b:List ak)(c:Bool)(f:0<b.length)(aA:b.length<=1048576)(g:(cm b).length<=1048576):Spec prog 20 [.snap 1 (bk (b.map I)) c,.v (.string ⟨#[32]⟩)] (.v (.string (I (cm b)))):=by
 have e:(b.map I).map (·.data.toList)=b:=by
  rw[_A];conv=>rhs;rw[<-List.map_id b]
  exact List.map_congr_left (fun x _=>nY)
 have h:=Kv (b.map I) ⟨#[32]⟩ c (by simpa using f) Mv (by rw[e];exact _r g ae);rw[e]at h;exact h
theorem HE(c m f k:Nat)(a:O)(g:yF c a)(l:ak)(b:List ak)(u:0<b.length)(aA:b.length<=1048576)(Y:l.length+(cm b).length+1<=1048576):
 fi prog 90 [.aG k f 1 0 b.length true,.ch c 2 e5] [some (iQ c a 1 m l),some (jW m l),some ⟨f,1,bk (b.map I)⟩] 1
  (fun j d H=>d=.aS []/\H=[some (iQ c (.ch c 2 e5) 1 j (l++(cm b++[10]))),none,some ⟨f,1,bk (b.map I)⟩,some (jW j (l++(cm b++[10])))]):=by
 have z:=Di b false u aA G;have C:=Qk c m a g l (cm b++[10]) c7;have J:(_f #[10]:ByteArray)=I [10]:=rfl;have Z:(cm b).length<=1048576:=G;have M:(bk (b.map I)).length=b.length:=lD;refine h0 {} 0 func90 fun Γ q ac=>ar ?_
 have Eb:c<Γ.g0:=q 0 _ rfl;have Q:f<Γ.g0:=q 2 _ rfl;have U:c1 Γ.g0 (bk (b.map I)):=eS (fun x=>fY);have ah:=LV Γ.g0 (l++(cm b++[10]));have X:kV ⟨f,1,bk (b.map I)⟩ [.aG k f 1 0 b.length true,.v (.string ⟨#[32]⟩)] [.snap 1 (bk (b.map I)) false,.v (.string ⟨#[32]⟩)]:=by
  refine⟨?_,rfl,rfl⟩;simp only[hE];exact .inl ⟨trivial,trivial,G,by rw[e1 (l:=bk (b.map I)) (by rw[M])]⟩
 repeat' first|refine af ?_|simp only[J,dt]|(with_reducible refine gC 2 ?_ z X ?_ ?_);(exact rfl);(exact rfl)|(with_reducible refine gb [0,1] [3] [0,1,3] ?_ ?_ ?_ ?_ C ?_);(exact rfl);(exact ae);(exact rfl);(exact rfl)|refine ag ?_|refine ab ?_ ?_<;>intro h<;>try exact aa|refine aK Pf ?_|exact al|fail
 generalize nb (l++(cm b++[10]))=ai at *;generalize (l++(cm b++[10])).length=L at *;generalize bk (b.map I)=aj at *;refine kh [0,1,2,3] [Γ.g0] ?_ ae rfl (fun a g=>?_) (fun j=>?_) (fun j=>?_)
 .exact YQ
 .simp at g;subst g;exact⟨3,_,rfl,rfl⟩
 .exact UA
 refine⟨⟨.inr ⟨Eb,rfl⟩,rfl,?_⟩,⟨.inr ⟨Q,rfl⟩,rfl,gK _ U⟩,⟨.inl ⟨0,rfl,rfl⟩,rfl,gK _ (LV Γ.g0 _)⟩,rfl⟩;exact P1
theorem KD(b f c k:Nat){a:O}(j:yF b a){l t:ak}(x y:ak)(m:t=l++(cm [x,y]++[10]))(fa:t.length<=1048576):
 fi prog 90 [.aG k c 1 0 2 true,.ch b 2 e5] [some (iQ b a 1 f l),some (jW f l),some ⟨c,1,bk ([x,y].map I)⟩] 1
  (fun g d H=>d=.aS []/\H=[some (iQ b (.ch b 2 e5) 1 g t),none,some ⟨c,1,bk ([x,y].map I)⟩,some (jW g t)]):=by
 subst m;exact HE b f c k a j l [x,y] (by show 0<2;decide) (by show 2<=1048576;decide) JZ
theorem US(b g c k:Nat){a:O}(m:yF b a){l t:ak}(x y f:ak)(q:t=l++(cm [x,y,f]++[10]))(fa:t.length<=1048576):
 fi prog 90 [.aG k c 1 0 3 true,.ch b 2 e5] [some (iQ b a 1 g l),some (jW g l),some ⟨c,1,bk ([x,y,f].map I)⟩] 1
  (fun j d H=>d=.aS []/\H=[some (iQ b (.ch b 2 e5) 1 j t),none,some ⟨c,1,bk ([x,y,f].map I)⟩,some (jW j t)]):=by
 subst q;exact HE b g c k a m l [x,y,f] (by show 0<3;decide) (by show 3<=1048576;decide) JZ
theorem akr(b j c k:Nat){a:O}(q:yF b a){l t:ak}(x y f g v s:ak)(u:t=l++(cm [x,y,f,g,v,s]++[10]))(fa:t.length<=1048576):
 fi prog 90 [.aG k c 1 0 6 true,.ch b 2 e5] [some (iQ b a 1 j l),some (jW j l),some ⟨c,1,bk ([x,y,f,g,v,s].map I)⟩] 1
  (fun m d H=>d=.aS []/\H=[some (iQ b (.ch b 2 e5) 1 m t),none,some ⟨c,1,bk ([x,y,f,g,v,s].map I)⟩,some (jW m t)]):=by
 subst u;exact HE b j c k a q l [x,y,f,g,v,s] (by show 0<6;decide) (by show 6<=1048576;decide) JZ
def ir(b:Bool):ak:=if b=true then ee else fu
def bt(n:Int):ak:=_e n.toNat
def qX(a l:Int):ak:=eF a.toNat++([47]++bt l)
def rZ(a b:Int):ak:=bt a++([45]++bt b)
theorem Ro:∀(k n:Nat),n<10 ^ (k+1)->(_e n).length<=k+1
 |0,n,h=>by
  rw[_e,dif_pos G];simp
 |k+1,n,h=>by
  rw[_e];split
  .simp
  have:=Ro k (n/10) (by rw[_q]at h;omega);simp;omega
theorem nx(n:Int)(h:0<=n/\n<=1000000000):Spec prog 19 [.v (.int .i64 n)] (.v (.string (I (bt n)))):=by
 have:=Am n.toNat G;exact Dw
theorem Hc(n:Int)(h:0<=n/\n<4294967296):Spec prog 91 [.v (.int .u32 n)] (.v (.string (I (eF n.toNat)))):=by
 have:=Q9 n.toNat G;exact Dw
theorem dW(n:Int)(h:0<=n/\n<=1000000000):(bt n).length<=10:=Ro 9 _ G
theorem nI(a:Nat):(eF a).length<=15:=by
 have h:∀n,(g_ (n%256)).length<=3:=fun n=>by
  have:∀n:Fin 256,(g_ n.val).length<=3:=n7;exact this ⟨n%256,_s _ ae⟩
 have b:=h (a/16777216);have h1:=h (a/65536);have h2:=h (a/256);have c:=h a;rw[Lf];simp;omega
theorem Xh(b:Bool):Spec prog 92 [.v (.bool b)] (.v (.string (I (ir b)))):=by
 cases b
 .exact XR
 exact XR
theorem W7(a l:Int)(c:0<=a/\a<4294967296)(hl:0<=l/\l<=1000000000):Spec prog 93 [eK a l] (.v (.string (I (qX a l)))):=by
 have h1:=Hc a c;have h2:=nx l hl;have g:=nI a.toNat;have j:=dW l hl;have e:(_f #[47]:ByteArray)=I [47]:=rfl;have f:qX a l=eF a.toNat++[47]++bt l:=by unfold qX;simp
 rw[f];generalize eF a.toNat=A at *;generalize bt l=B at *;refine az {} 0 func93 fun Γ an=>ar ?_
 exact ZT
theorem WN(a b:Int)(c:0<=a/\a<=1000000000)(f:0<=b/\b<=1000000000):Spec prog 94 [.v (.int .i64 a),.v (.int .i64 b)] (.v (.string (I (rZ a b)))):=by
 have h1:=nx a c;have h2:=nx b f;have j:=dW a c;have m:=dW b f;have e:(_f #[45]:ByteArray)=I [45]:=rfl;have g:rZ a b=bt a++[45]++bt b:=by unfold rZ;simp
 rw[g];generalize bt a=A at *;generalize bt b=B at *;refine az {} 0 func94 fun Γ an=>ar ?_
 exact ZT
end Go.Proofs.YtdiobdlinjgakaaGreatDoor.R
