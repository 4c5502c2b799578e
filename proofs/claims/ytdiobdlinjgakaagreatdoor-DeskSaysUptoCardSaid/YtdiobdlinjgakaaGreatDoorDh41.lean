import Derived.Test.YtdiobdlinjgakaaGreatDoorDh36
import Derived.Test.YtdiobdlinjgakaaGreatDoorDh38
import Derived.Test.YtdiobdlinjgakaaGreatDoorDh40
set_option linter.unusedVariables false
set_option linter.unusedSimpArgs false
set_option maxHeartbeats 8000000
set_option maxRecDepth 100000
open Go.Proofs.Tryz
open Int renaming toNat_natCast->_a,le_trans->_s
open List renaming getElem?_eq_getElem->_b,length_map->_d,length_append->_g,mem_of_getElem?->_h,length_cons->_k,length_nil->_l,length_eq_zero_iff->_m,take_add_one->_o,take_length->_p,map_map->_r
open ByteArray renaming mk->_c
open Go.Lib renaming join->_e,decDigits->_j
open Nat renaming zero_le->_f,le_refl->_i,zero_add->_n,min_eq_left->_q
namespace Go.Proofs.YtdiobdlinjgakaaGreatDoor.R
abbrev jt(e:Int):Prop:=0<=e/\e<=20
def Kh:pS->Prop
 |.inl l=>l.length<=100/\(cm (hB::l)).length<=100000
 |.inr e=>jt e
theorem Ot(p:b6):jt (eD p):=by
 unfold eD hF jt;repeat' split
 all_goals decide
theorem agh(c:bj):jt (iA c):=by
 have h:=Ot c.p;unfold iA pB A.dQ T.et;split
 .exact h
 all_goals repeat' split
 all_goals first|decide|rename_i a b;exact absurd rfl uV
theorem JT(b:bj)(i:Bool)(s:ak)(n:Int):jt (cb b i s n).2.2.2:=by
 have h:=agh b;unfold cb;repeat' split
 .exact h
 all_goals (dsimp only;decide)
theorem ak2(p:dZ):jt (eM p).2:=by
 unfold eM hz;exact L8
theorem Vv(f t:Int)(d:ak)(a b:Int):jt (gx f t d a b).2:=by
 unfold gx;exact L8
theorem R1(g:jx)(a b:Int):jt (fz g a b).2:=by
 unfold fz;exact L8
theorem Oc:∀(uc:List ak)(i:Nat)(p:b6)(b:List ak)(x:Int×Int),e4 i p b uc=.inr x->jt x.2
 |[],i,p,b,x,h=>by simp[e4]at h
 |l::uc,i,p,b,x,h=>by
  unfold e4 at h;split at h
  .exact G3
  split at h
  .exact G3
  split at h
  .cases h;dsimp only;decide
  split at h
  .exact G3
  split at h
  .cases h;dsimp only;decide
  exact G3
theorem QQ(s:ak):jt (fb s).2.2:=by
 unfold fb;split
 .decide
 cases h:e4 0 iU [] (bm 10 s)with
 |inr x=>exact Oc _ _ _ _ _ h
 |inl x=>
  unfold q_;have:=Ot x.1;dsimp only;repeat' split
  .decide
  .exact kO
  exact this
theorem Dn(F:ig)(pr:Int){d:ak×Int}(h:jt d.2):jt (jP F pr d).2:=by
 unfold jP;split
 .exact ak2 _
 exact h
theorem TM(b:bj)(i:Bool)(s:ak)(n:Int):Kh (la b i s n).2:=by
 have f:=JT b i s n;have g:=(Ba b i s n).1;have j:=(Ba b i s n).2;unfold la;split
 .have c:=mg (hB::kr (cb b i s n).2.2.1 (cb b i s n).2.1);have h1:=dW _ g;unfold kr at c⊢;split
  .rename_i q;obtain⟨-,-,ah,ai⟩:=Et q;have h2:=dW _ ah;have m:=dW _ ai;have u:=nI (bC (cb b i s n).2.1).1.ax.toNat;have v:=nI (bC (cb b i s n).2.1).1.to.toNat;rw[if_pos q]at c;exact Da
  rename_i q;rw[if_neg q]at c;exact Da
 exact f
theorem Wc(b:bj)(i:Bool){s:ak×Int}(aj:jt s.2)(n:Int):Kh (jK b i s n).2:=by
 unfold jK;split
 .exact TM _ _ _ _
 exact aj
theorem Zy(b:bj)(f:fJ b)(c:ak)(r:List ak):Kh (de b c r).2:=by
 have h10:jt 10:=ae;unfold de;split
 .unfold qd;split
  .exact h10
  split
  .exact⟨ae,ae⟩
  exact QQ _
 split
 .dsimp only;split
  .have h1:=Ln f.wf.p f.pl;have h2:=zg 10 [32,59,32] (lx b.p);have g:=mg [hB,_e (bm 10 (lx b.p)) [32,59,32]];exact Da
  exact h10
 split
 .unfold tv;split
  .exact h10
  exact Wc _ _ (Dn _ _ (Vv _ _ _ _ _)) _
 split
 .unfold th;split
  .exact h10
  exact Wc _ _ (Dn _ _ (R1 _ _ _)) _
 split
 .unfold tt;split
  .exact h10
  exact TM _ _ _ _
 split
 .dsimp only;split
  .obtain⟨j,m,q⟩:=f.sm;have g:=mg [hB,bt (b.ms.length:Nat),bt (b.tr.length:Nat),bt (b.n.ms.length:Nat)];have d1:=dW (b.ms.length:Nat) G;have d2:=dW (b.tr.length:Nat) G;have d3:=dW (b.n.ms.length:Nat) G;exact Da
  exact h10
 exact h10
attribute [local irreducible] bc Go
theorem XP(b:Bool):Spec prog 69 [.v (.bool b)] (.v (.string (I (ir b)))):=by
 cases b
 .exact U2
 exact U2
theorem hM(n:Int)(h:0<=n/\n<=1000000000):Spec prog 27 [.v (.int .i64 n)] (.v (.string (I (bt n)))):=by
 have:=wk _ n.toNat (_i _) G;exact Dw
theorem vd(n:Int)(h:0<=n/\n<4294967296):Spec prog 32 [.v (.int .u32 n)] (.v (.string (I (eF n.toNat)))):=by
 have:=ahE n.toNat G;exact Dw
def E6(P A B b D:ak):Nat->ak
 |0=>P
 |1=>P++([32]++A++[47]++B)
 |_=>P++([32]++A++[47]++B)++([32]++b++[47]++D)
theorem lits:(_c #[32]=I [32])/\(_c #[47]=I [47])/\(_c #[45]=I [45])/\(_c #[10]=I [10])/\(_c #[]=I []):=⟨rfl,rfl,rfl,rfl,rfl⟩
theorem S2(r:bN)(F:Jg r):Spec prog 68 [ug r] (.v (.string (I (cm (pn r))))):=by
 have am:=zO r.ps;have ao:=nI r.fj.toNat;have ap:=nI r.fm.toNat;have aq:=dW _ F.aM;have au:=dW _ F.tl;have av:=dW _ F.pr;have aw:=dW _ F.bZ;have ax:=dW _ F.hL;have aA:=dW _ F.b2;have aC:=dW _ F.hN;have f:=XP r.ps;have g:=vd _ F.fj;have j:=vd _ F.fm;have m:=hM _ F.aM;have q:=hM _ F.tl;have u:=hM _ F.pr;have z:=hM _ F.bZ;have C:=hM _ F.hL;have M:=hM _ F.b2;have O:=hM _ F.hN;have e:cm (pn r)=E6 (ir r.ps) (eF r.fj.toNat) (bt r.aM) (eF r.fm.toNat) (bt r.tl) 2++[32]++bt r.pr++[32]++bt r.bZ++[45]++bt r.hL++[32]++bt r.b2++[45]++bt r.hN:=by simp[cm,pn,qX,rZ,E6,_e,List.intercalate,List.intersperse]
 rw[e];generalize ir r.ps=Q at *;generalize eF r.fj.toNat=U at *;generalize eF r.fm.toNat=X at *;generalize bt r.aM=Y at *;generalize bt r.tl=Z at *;generalize bt r.pr=aD at *;generalize bt r.bZ=aE at *;generalize bt r.hL=aF at *;generalize bt r.b2=aG at *;generalize bt r.hN=aH at *;obtain⟨ah,ai,ac,ae,aj⟩:=lits;refine az {} 0 func68 fun Γ an=>ar ?_
 repeat' first|refine af ?_|refine J f ?_|refine ag ?_|refine ab ?_ ?_<;>intro h<;>try exact aa|fail
 refine bS (α:=Nat×Nat) (fun x=>[(⟨.d0,.d0,.d3⟩,.v (.string (I (E6 Q U Y X Z x.1)))),(⟨.d0,.d1,.d7⟩,.v (.int .i64 (x.1:Nat)))]) (fun _=>[(2,none)]) (fun x=>x.2) (fun x=>2-x.1) (fun x=>x.1<=2) (0,Γ.g0+2) (_f _) ?_ ?_
 .exact bs
 rintro⟨i,c⟩ ak;dsimp only at ak⊢;refine bz ?_;have:i=0\/i=1\/i=2:=G;rcases this with rfl|rfl|rfl;all_goals simp only[GJ]
 all_goals dsimp only[E6]
 repeat' first|refine af ?_|simp only[ah,ai,ac,ae,aj,dt]|refine J g ?_|refine J j ?_|refine J m ?_|refine J q ?_|refine J u ?_|refine J z ?_|refine J C ?_|refine J M ?_|refine J O ?_|refine ag ?_|refine ab ?_ ?_<;>intro h<;>try exact aa|refine aK n9 ?_|exact al|fail
 .refine br ⟨(1,c+1),G,G,?_⟩;exact bs
 .refine br ⟨(2,c+1),G,G,?_⟩;exact bs
 all_goals exact bM
def rQ(p:b6):List ak:=[cm [cV,eF p.ou.toNat],cm [cX,bt p.lt,bt p.st],cm [cU,bt p.lf],cm [c0,bt p.ra,bt p.mo]]
def jG(p:b6)(i:Nat):List ak:=rQ p++(p.rs.take i).map fun r=>cm (pn r)
def jU(p:b6):List ak:=jG p p.rs.length++[cm [cM,ir p.el]]
def ly(l:List ak):ak:=(l.map fun x=>x++[10]).flatten
theorem af8(l:List ak)(x:ak):ly (l++[x])=ly l++(x++[10]):=by simp[ly]
theorem ade(p:b6):nz p=ly (jU p):=by
 unfold nz lQ rH yt wb wO ly jU jG rQ lv;simp[Function.comp_def]
theorem akG{p:b6}{i:Nat}{r:bN}(h:p.rs[i]?=some r):jG p (i+1)=jG p i++[cm (pn r)]:=by
 unfold jG;rw[nU h];simp
theorem Tl(p:b6)(i:Nat)(h:i<=p.rs.length):(jG p i).length=4+i:=by
 unfold jG rQ;simp[_q h];omega
theorem aiq(l:List ak)(i:Nat):(ly (l.take i)).length<=(ly l).length:=by
 have e:ly l=ly (l.take i)++ly (l.drop i):=by
  unfold ly;rw[<-List.flatten_append,<-List.map_append,List.take_append_drop]
 rw[e,_g];omega
theorem Sa:∀l:List ak,eW (bk (l.map I))=true
 |[]=>rfl
 |b::l=>Sa l
theorem Z7(l t:List ak):bk (l.map I)++bk (t.map I)=bk ((l++t).map I):=lD
theorem RF(l:List ak):(bk (l.map I)).length=l.length:=lD
theorem ags(p:b6)(c:Bool)(m:p.wf)(q:eD p=0):Spec prog 28 [rP p c] (.aS [.v (.string (I (nz p))),.v (.int .i64 0)]):=by
 obtain⟨f1,f2,f3,f4,f5,f6,f7,f8⟩:=HA m q;have Z:=ES p c m fg;rw[q]at Z;have a8:=Gt m q p.rs (fun x g=>g);have a9:=zO p.el;have Cn:=mg [cM,ir p.el];have aq:(nz p).length<=1048576:=by exact PW
 have au:=vd p.ou f1;have av:=hM p.lt G;have aw:=hM p.st G;have ax:=hM p.lf G;have aA:=hM p.ra G;have aC:=hM p.mo G;have ac:=XP p.el;have ba:=nI p.ou.toNat;have bb:=dW p.lt G;have bc:=dW p.st G;have bd:=dW p.lf G;have be:=dW p.ra G;have bf:=dW p.mo G;obtain⟨ah,ai,aD,vC,aE⟩:=lits;have aF:(_c #[111,117,116,115,105,100,101,32]:ByteArray)=I (cV++[32]):=rfl;have aI:(_c #[112,111,114,116,115,32]:ByteArray)=I (cX++[32]):=rfl;have c3:(_c #[108,105,102,101,32]:ByteArray)=I (cU++[32]):=rfl;have aJ:(_c #[114,97,116,101,32]:ByteArray)=I (c0++[32]):=rfl;have c5:(_c #[101,108,115,101,32]:ByteArray)=I (cM++[32]):=rfl;have u:∀a b:ak,cm [a,b]=a++[32]++b:=fun a b=>C4
 have am:∀a b c:ak,cm [a,b,c]=a++[32]++b++[32]++c:=fun a b c=>C4
 have aL:rQ p=[cV++[32]++eF p.ou.toNat,cX++[32]++bt p.lt++[32]++bt p.st,cU++[32]++bt p.lf,c0++[32]++bt p.ra++[32]++bt p.mo]:=by
  unfold rQ;rw[u,am,u,am]
 have aM:cV.length=7/\cX.length=5/\cU.length=4/\c0.length=4/\cM.length=4:=⟨rfl,rfl,rfl,rfl,rfl⟩;obtain⟨bg,bh,bi,bj,bl⟩:=aM;have aN:=ade p;have aO:jG p 0=rQ p:=by simp[jG]
 have z:jU p=jG p p.rs.length++[cm [cM,ir p.el]]:=rfl;rw[u]at z;generalize eF p.ou.toNat=aP at *;generalize bt p.lt=aQ at *;generalize bt p.st=aT at *;generalize bt p.lf=aV at *;generalize bt p.ra=aX at *;generalize bt p.mo=aY at *;generalize cV=aZ at *;generalize cX=a0 at *;generalize cU=a1 at *;generalize c0=a2 at *;generalize cM=a3 at *;refine az {} 0 func28 fun Γ an=>ar ?_
 repeat' first|refine af ?_|simp only[ah,ai,aD,vC,aE,aF,aI,c3,aJ,c5,dt]|refine J Z ?_|refine J au ?_|refine J av ?_|refine J aw ?_|refine J ax ?_|refine J aA ?_|refine J aC ?_|refine ag ?_|refine ab ?_ ?_<;>intro h<;>try exact aa|refine aK n9 ?_|exact al|fail
 have C:=fun(i:Nat) (r:bN) (h:p.rs[i]?=some r)=>congrArg (fun l=>bk (l.map I)) (akG h)
 simp only[<-Z7]at C;have ao:=fun(i:Nat) (h:i<=p.rs.length)=>(RF (jG p i)).trans (Tl p i h)
 have ap:=fun i=>Sa (jG p i)
 have a4:bk ((jG p 0).map I)=[[.v (.string (I (aZ++[32]++aP)))],[.v (.string (I (a0++[32]++aQ++[32]++aT)))],[.v (.string (I (a1++[32]++aV)))],[.v (.string (I (a2++[32]++aX++[32]++aY)))]]:=by rw[aO,aL];rfl
 rw[<-a4];refine bS (α:=Option (Nat×Nat×Nat)) (fun x=>match x with
  |none=>[(⟨.d0,.d0,.d5⟩,.aG 1 (Γ.g0+1) 1 0 4 true),(⟨.d0,.d5,.d6⟩,.v (.int .i64 ((0:Nat):Int)))]
  |some y=>[(⟨.d0,.d0,.d5⟩,.aG 4 y.2.1 1 0 (4+y.1) false),(⟨.d0,.d5,.d6⟩,.v (.int .i64 (y.1:Nat)))]) (fun x=>match x with
  |none=>[(2,none),(3,none),(4,none)]
  |some y=>[(1,none),(2,none),(3,none),(4,some ⟨y.2.1,1,bk ((jG p y.1).map I)⟩)]) (fun x=>match x with
  |none=>Γ.g0+2
  |some y=>y.2.2) (fun x=>match x with
  |none=>p.rs.length+1
  |some y=>p.rs.length-y.1) (fun x=>match x with
  |none=>True
  |some y=>y.1<=p.rs.length) none trivial ?_ ?_
 .exact bs
 have iG:∀i,i<(jU p).length->∃x,(jU p)[i]?=some x/\cf (bk ((jU p).map I)) i=[.v (.string (I x))]/\ly ((jU p).take (i+1))=ly ((jU p).take i)++(x++[10]):=fun i h=>by
  refine⟨_,_b h,?_,?_⟩
  .rw[lZ,bk,_r,List.getElem?_map,_b h];rfl
  rw[nU (_b h),af8]
 have a5:(jU p).length=5+p.rs.length:=by
  rw[z,_g,Tl p _ (_i _)];simp;omega
 have eE:=fun i=>aiq (jU p) i
 rw[aN]at aq⊢;have M:bk ((jG p p.rs.length).map I)++[[.v (.string (I (a3++[32]++ir p.el)))]]=bk ((jU p).map I):=by
  rw[z,<-Z7];rfl
 rintro(_|⟨i,bm,O⟩) Q
 .dsimp only at Q⊢;refine bz ?_;have h1:=ao 0 (_f _);have h2:=ap 0;have g:cp (cC (bk ((jG p 0).map I)) 0) 4=bk ((jG p 0).map I):=e1 (by rw[h1]);by_cases j:0<p.rs.length
  .obtain⟨r,f⟩:∃r,p.rs[0]?=some r:=⟨_,_b j⟩;have U:=_h f;have X:=vD f;have Y:=S2 r (Fh (f8 r U));have aj:=C 0 r f;generalize bk ((jG p 0).map I)=a6 at *;repeat' first|refine af ?_|refine J Y ?_|with_reducible refine hZ ?_|refine ag ?_|refine ab ?_ ?_<;>intro h<;>try exact aa|simp only[_a,X,g,h1,_d]|refine aK ⟨.inl ae,h2,aH,Aw⟩ ?_|exact al|fail
   refine br ⟨some (1,Γ.g0+3+1,Γ.g0+5),j,iS,?_⟩;refine dB ?_ ?_ (_i _);all_goals first|refine dD ?_|exact dE
   all_goals repeat' first|exact trivial|exact rfl|apply And.intro
   all_goals exact congrArg (fun x=>some (aR.mk _ _ x)) aj.symm
  have a7:p.rs.length=0:=G;rw[a7]at M a5;repeat' first|refine af ?_|refine J ac ?_|simp only[vC,c5,dt]|with_reducible refine hZ ?_|refine ag ?_|refine ab ?_ ?_<;>intro h<;>try exact aa|refine aK n9 ?_|simp only[_a,g,h1,M,_d]|refine aK ⟨.inl ae,h2,aH,BB⟩ ?_|refine aK ⟨aH,aH,aH,aH,h1.symm⟩ ?_|refine aK ⟨aH,BB⟩ ?_|exact al|fail
  refine bS (α:=Nat) (fun x=>[(⟨.d0,.d1,.d0⟩,.v (.string (I (ly ((jU p).take x))))),(⟨.d1,.d0,.d0⟩,.v (.int .i64 (x:Nat)))]) (fun _=>[]) (fun _=>Γ.g0+4) (fun x=>(jU p).length-x) (fun x=>x<=(jU p).length) 0 (_f _) ?_ ?_
  .exact bs
  exact Ps
 dsimp only at Q⊢;refine bz ?_;have h1:=ao i Q;have h2:=ap i;have g:=h1;by_cases j:i<p.rs.length
 .obtain⟨r,f⟩:∃r,p.rs[i]?=some r:=⟨_,_b j⟩;have U:=_h f;have X:=vD f;have Y:=S2 r (Fh (f8 r U));have aj:=C i r f;generalize bk ((jG p i).map I)=a6 at *;repeat' first|refine af ?_|refine J Y ?_|with_reducible refine hZ ?_|refine ag ?_|refine ab ?_ ?_<;>intro h<;>try exact aa|simp only[_a,X,h1,_d]|refine aK ⟨aH,aH,aH,aH,h1.symm⟩ ?_|refine aK ⟨aH,BB⟩ ?_|exact al|fail
  refine br ⟨some (i+1,O+2,O+3),j,iS,?_⟩;refine dB ?_ ?_ (_i _);all_goals first|refine dD ?_|exact dE
  all_goals repeat' first|exact trivial|exact rfl|apply And.intro
  all_goals first|exact congrArg (fun x=>some (aR.mk _ _ x)) aj.symm|exact nR|fail
 obtain rfl:i=p.rs.length:=G;repeat' first|refine af ?_|refine J ac ?_|simp only[vC,c5,dt]|with_reducible refine hZ ?_|refine ag ?_|refine ab ?_ ?_<;>intro h<;>try exact aa|refine aK n9 ?_|simp only[_a,g,h1,M,_d]|refine aK ⟨.inl ae,h2,aH,BB⟩ ?_|refine aK ⟨aH,aH,aH,aH,h1.symm⟩ ?_|refine aK ⟨aH,BB⟩ ?_|exact al|fail
 refine bS (α:=Nat) (fun x=>[(⟨.d0,.d1,.d0⟩,.v (.string (I (ly ((jU p).take x))))),(⟨.d1,.d0,.d0⟩,.v (.int .i64 (x:Nat)))]) (fun _=>[]) (fun _=>O+2) (fun x=>(jU p).length-x) (fun x=>x<=(jU p).length) 0 (_f _) ?_ ?_
 .exact bs
 exact Ps
end Go.Proofs.YtdiobdlinjgakaaGreatDoor.R
namespace Go.Proofs.YtdiobdlinjgakaaGreatDoor
attribute [local irreducible] bc Go
theorem abi(p:R.b6):qD [.v (.int .u32 p.ou),.v (.int .i64 p.lt),.v (.int .i64 p.st),.v (.int .i64 p.lf),.v (.int .i64 p.ra),.v (.int .i64 p.mo),.snap 10 (p.rs.map R.bN.enc) false,.v (.bool p.el),.v (.slice none 0 0),.v (.slice none 0 0),.v (.int .i64 p.lf),.v (.int .i64 p.lt),.v (.int .u64 0),.v (.int .i64 p.st),.v (.int .u64 0),.v (.slice none 0 0)] (bj.row ⟨p,[],[],⟨p.lf,p.lt,0,p.st,0,[]⟩⟩ (om [])):=
 ⟨.inl rfl,.inl rfl,.inl rfl,.inl rfl,.inl rfl,.inl rfl,rfl,.inl rfl,.inr ⟨rfl,_,rfl⟩,.inr ⟨rfl,_,rfl⟩,.inl rfl,.inl rfl,.inl rfl,.inl rfl,.inl rfl,.inr ⟨rfl,_,rfl⟩,rfl⟩
theorem XU(p:R.b6)(f:p.wf)(hl:cx p.rs.length 80):Spec prog 12 [R.rP p false] (.aS [fZ (iH p),.v (.int .i64 (R.eD p))]):=by
 have h2:=R.ES p false f hl.1;have j:=fun g=>u2 g p.rs
 unfold iH;by_cases c:R.eD p=0
 .rw[if_pos c,c];rw[c]at h2;refine nh (D:=.aS [Av p,.v (.int .i64 0)]) ?_ ⟨abi p,.inl rfl,rfl⟩;unfold Av;exact SE
 rw[if_neg c];generalize R.eD p=e at *;refine nh (D:=.aS [.agg [.v (.int .u32 0),.v (.int .i64 0),.v (.int .i64 0),.v (.int .i64 0),.v (.int .i64 0),.v (.int .i64 0),.v (.slice none 0 0),.v (.bool false),.v (.slice none 0 0),.v (.slice none 0 0),.v (.int .i64 0),.v (.int .i64 0),.v (.int .u64 0),.v (.int .i64 0),.v (.int .u64 0),.v (.slice none 0 0)],.v (.int .i64 e)]) ?_ ⟨⟨.inl rfl,.inl rfl,.inl rfl,.inl rfl,.inl rfl,.inl rfl,.inr ⟨rfl,_,rfl⟩,.inl rfl,.inr ⟨rfl,_,rfl⟩,.inr ⟨rfl,_,rfl⟩,.inl rfl,.inl rfl,.inl rfl,.inl rfl,.inl rfl,.inr ⟨rfl,_,rfl⟩,rfl⟩,.inl rfl,rfl⟩;exact SE
theorem NQ{α:Type}{ok:List α->α->Bool}:∀(l b:List α)(t:α),eb ok b (l++[t])=(eb ok b l&&ok (b++l) t)
 |[],b,t=>by simp[eb]
 |x::r,b,t=>by simp only[List.cons_append,eb,NQ r (b++[x]) t,List.append_assoc,List.nil_append,Bool.and_assoc]
abbrev nV(t:aZ):aZ->Bool:=fun y=>!(decide (t.tm<y.tm)) && !(decide (y.ad=t.ad))
theorem YB(t y:aZ):nV t y=(!decide (y.ad=t.ad)&&decide (y.tm<=t.tm)):=by
 unfold nV;rw[Bool.and_comm];congr 1
 rw[Bool.eq_iff_iff];simp
theorem To{p:aZ->Bool}{l:List aZ}{j:Nat}{y:aZ}(h:l[j]?=some y):(l.take (j+1)).all p=((l.take j).all p&&p y):=by
 rw[_o,h,List.all_append];simp
theorem acb(aC:bj)(c:aC.wf):Spec prog 73 [fZ aC] (.v (.int .i64 (iA aC))):=by
 rw[MM];have g:=R.ES aC.p false c.p c.rs.1;have m:=T.pk aC.tr;have q:Spec prog 125 [.agg aC.n.enc] (.v (.int .i64 (pB aC.n))):=A.o5 aC.n.l aC.n.ah aC.n.t1 aC.n.ai aC.n.t2 aC.n.ms c.n.ey.1 c.n.t1 c.n.t2;have hl:=c.ms.1;unfold maxLen at hl;generalize R.eD aC.p=O at *;generalize T.et aC.tr=Q at *;generalize pB aC.n=U at *;have u:oS aC=true↔aC.ms.length<=64/\aC.n.l=aC.p.lf/\aC.n.ah=aC.p.lt/\aC.n.ai=aC.p.st:=Xw;unfold tT;generalize oS aC=F at *;refine az {} 0 func73 fun Γ an=>ar ?_
 repeat' first|refine af ?_|refine J g ?_|refine J m ?_|refine J q ?_|refine ag ?_|refine ab ?_ ?_<;>intro h<;>try exact aa|exact al|fail
 any_goals (with_reducible refine cI ?_;simp only[cE]at *;exact eG (by first|exact(W8 G).symm|exact(XF G G).symm|exact(PQ G G G).symm))
 all_goals rw[Q1 (by(simp only[gu,reduceCtorEq]at *<;>omega)) (by(simp only[gu,reduceCtorEq]at *<;>omega)) (by(simp only[gu,reduceCtorEq]at *<;>omega))]
 all_goals clear g m q
 all_goals
  refine bS (α:=Nat×Nat) (fun x=>[(⟨.d1,.d0,.d1⟩,.v (.int .i64 (x.1:Nat))),(⟨.d0,.d0,.d6⟩,.v (.bool (F&&eb (hx aC.p.ra aC.p.mo) [] (aC.ms.take x.1))))]) (fun _=>[(1,none),(2,none)]) (fun x=>x.2) (fun x=>aC.ms.length-x.1) (fun x=>x.1<=aC.ms.length) (0,Γ.g0+1) (_f _) ?_ ?_
  .refine dB ?_ ?_ (_i _);all_goals first|refine dD ?_|exact dE
   all_goals repeat' first|exact trivial|exact rfl|apply And.intro
   all_goals (refine fA ?_;rw[List.take_zero];clear hl c;cases F<;>simp_all [eb]<;>omega)
  rintro⟨k,cR⟩ M;dsimp only at M⊢;refine bz ?_;by_cases aN:k<aC.ms.length;rotate_left
  .obtain rfl:k=aC.ms.length:=by omega
   rw[_p];generalize eb (hx aC.p.ra aC.p.mo) [] aC.ms=f at *;clear u;cases F<;>cases f
   all_goals
    repeat' first|refine af ?_|refine ag ?_|refine ab ?_ ?_<;>intro h<;>try exact aa|exact al|fail
    all_goals(refine cI ?_;first|exact cc|try simp only[cE]at *)
    all_goals first|rfl|exfalso;simp_all;done
  obtain⟨t,z⟩:∃t,aC.ms[k]?=some t:=⟨_,_b aN⟩;have C:=vs z;have I:=B.YT t.ra t.mo t.aj t.tm;have lB:IntKind.i64.wrap ((k:Int)+1)=((k+1:Nat):Int):=(IntWalk.i64_in _ G).trans G;have Ef:cp (cC (aC.ms.map aZ.enc) 0) ((k:Int)-0).toNat=(aC.ms.take k).map aZ.enc:=by rw[hh,kH,List.drop_zero,List.map_take,Int.sub_zero,_a]
  have QF:((aC.ms.take k).map aZ.enc).length=k:=MO;have kg:eb (hx aC.p.ra aC.p.mo) [] (aC.ms.take (k+1))=(eb (hx aC.p.ra aC.p.mo) [] (aC.ms.take k)&&(decide (B.gV t.ra t.mo t.aj t.tm=0)&&(decide (t.ra=aC.p.ra)&&(decide (t.mo=aC.p.mo)&&(aC.ms.take k).all (nV t))))):=by
   rw[_o,z];exact NQ _ _ _
  generalize H9:eb (hx aC.p.ra aC.p.mo) [] (aC.ms.take (k+1))=X at *;generalize eb (hx aC.p.ra aC.p.mo) [] (aC.ms.take k)=f at *;generalize B.gV t.ra t.mo t.aj t.tm=Y at *;clear u;cases eX:(F&&f)
  .repeat' first|refine af ?_|refine J I ?_|refine ag ?_|refine ab ?_ ?_<;>intro h<;>try exact aa|simp only[_a,C,Ef]|exact al|fail
   exact Kx
  repeat' first|refine af ?_|refine J I ?_|refine ag ?_|refine ab ?_ ?_<;>intro h<;>try exact aa|simp only[_a,C,Ef]|exact al|fail
  .simp only[Ef,QF];refine bS (α:=Nat×Nat) (fun y=>[(⟨.d1,.d4,.d4⟩,.v (.int .i64 (y.1:Nat))),(⟨.d0,.d0,.d6⟩,.v (.bool ((decide (t.mo=aC.p.mo))&&(aC.ms.take y.1).all (nV t))))]) (fun _=>[(2,none)]) (fun y=>y.2) (fun y=>k-y.1) (fun y=>y.1<=k) (0,cR+1) (_f _) ?_ ?_
   .exact O9
   rintro⟨j,rl⟩ cB;dsimp only at cB⊢;refine bz ?_;by_cases Ez:j<k
   .obtain⟨y,bB⟩:∃y,aC.ms[j]?=some y:=⟨_,_b G⟩;have yQ:cf ((aC.ms.take k).map aZ.enc) j=y.enc:=vs UU;have pV:=To (p:=nV t) bB;rw[YB]at pV;have Aa:IntKind.i64.wrap ((j:Int)+1)=((j+1:Nat):Int):=(IntWalk.i64_in _ G).trans G;generalize IG:(aC.ms.take (j+1)).all (nV t)=afG at *;generalize (aC.ms.take j).all (nV t)=Mg at *;cases IN:((decide (t.mo=aC.p.mo))&&Mg)
    all_goals
     repeat' first|refine af ?_|refine ag ?_|refine ab ?_ ?_<;>intro h<;>try exact aa|simp only[_a,yQ,Aa]|refine aK ⟨MO,aH⟩ ?_|exact al|fail
     all_goals exact TZ
   obtain rfl:j=k:=G;exact Sh
  .exact Kx
  exact Kx
end Go.Proofs.YtdiobdlinjgakaaGreatDoor
namespace Go.Proofs.YtdiobdlinjgakaaGreatDoor.R
attribute [local irreducible] bc Go
theorem pZ(a b:ak)(l:List ak):cm (a::b::l)=a++[32]++cm (b::l):=F8 a (b::l) aF [32]
theorem F5(a:ak):cm [a]=a:=join_one a _
def iN(x:bj×pS):O:=.aS [fZ x.1,.v (.string (I (kv x.2)))]
theorem aif:(_c #[101,114,114,111,114,32,49,48]:ByteArray)=I (kv (.inr 10)):=by
 have h:_j 10=[49,48]:=by
  rw[_j,dif_neg ae,_j,dif_pos ae];rfl
 show _=I (oF++_j 10);rw[h];rfl
theorem td:(_c #[111,107,32]:ByteArray)=I [111,107,32]:=rfl
theorem vo:(_c #[32]:ByteArray)=I [32]:=rfl
theorem vn(f:bj)(c:ak)(r:List ak)(b:Bool)(n:O)(d:ak)(h:Spec prog 25 [.snap 1 (b9 (c::r)) b] (.aS [n,.v (.string (I d)),.v (.bool false)])):Spec prog 13 [fZ f,.snap 1 (b9 (c::r)) b] (iN (f,.inr 10)):=by
 unfold iN;refine az {} 0 func13 fun Γ an=>ar ?_
 repeat' first|refine af ?_|refine J h ?_|simp only[aif]|refine ag ?_|refine ab ?_ ?_<;>intro h<;>try exact aa|exact al|fail
 all_goals exact bM
theorem ahL(u:bj)(r:List ak)(b:Bool)(C:r.length<=1048576)(G:(cm r).length<=1048576):Spec prog 13 [fZ u,.snap 1 (b9 (fv::r)) b] (iN (qd u r)):=by
 have h:=adU r b C G;unfold qd;by_cases g:r=[]
 .rw[if_pos g];rw[show decide (¬r=[])=false from decide_eq_false (fun q=>q g)]at h;exact vn u fv r b _ _ h
 rw[if_neg g];rw[show decide (¬r=[])=true from decide_eq_true g]at h;have Cn:=zg 59 [10] (cm r);have f:=ajJ (_e (bm 59 (cm r)) [10]) IV;have j:=QQ (_e (bm 59 (cm r)) [10]);have M:=@EV (_e (bm 59 (cm r)) [10]);generalize _e (bm 59 (cm r)) [10]=T at *;have m:(b9 (fv::r)).length=r.length+1:=oa _;have z:cf (b9 (fv::r)) 0=[.v (.string (I fv))]:=rfl;generalize b9 (fv::r)=W at *;have d1:decide (I fv=I fv)=true:=mf rfl;by_cases c:(fb T).2.2=0
 .rw[if_pos c];obtain⟨O,Q⟩:=M c;have U:=XU (fb T).1 O (Al Q);unfold qo hJ at f;rw[if_pos c,c]at f;generalize (fb T).1=p at *;generalize (fb T).2.1=X at *;generalize iH p=v at *;unfold iN;refine az {} 0 func13 fun Γ an=>ar ?_
  repeat' first|refine af ?_|refine J h ?_|simp only[cL,m,z,d1]|refine J f ?_|refine J U ?_|refine ag ?_|refine ab ?_ ?_<;>intro h<;>try exact aa|refine aK (by simp only[m];omega) ?_|exact al|fail
  all_goals exact b0
 rw[if_neg c];rw[n_ c]at f;generalize (fb T).2.1=X at *;generalize (fb T).2.2=e at *;have Y:=hM e ⟨j.1,_s j.2 ae⟩;have Z:decide (e=0)=false:=decide_eq_false c;have ac:=dW e ⟨j.1,_s j.2 ae⟩;unfold iN;refine az {} 0 func13 fun Γ an=>ar ?_
 repeat' first|refine af ?_|refine J h ?_|simp only[cL,m,z,d1,Z,r5,dt,aU]|refine J f ?_|refine J Y ?_|refine ag ?_|refine ab ?_ ?_<;>intro h<;>try exact aa|refine aK (by simp only[m];omega) ?_|refine aK OA ?_|exact al|fail
 all_goals exact b0
theorem ai2(l:List ak)(b:ak)(f:0<l.length)(aA:l.length<=1048576)(g:(_e l b).length<=1048576):Spec prog 20 [.snap 1 (bk (l.map I)) false,.v (.string (I b))] (.v (.string (I (_e l b)))):=by
 have e:(l.map I).map (·.data.toList)=l:=by
  rw[_r];conv=>rhs;rw[<-List.map_id l]
  exact List.map_congr_left (fun x _=>nY)
 have c:(I b).data.toList=b:=nY;have h:=Kv (l.map I) (I b) false (by simpa using f) Mv (by rw[e,c];exact Nat.le_trans g ae);rw[e,c]at h;exact h
theorem abP(c:bj)(f:fJ c)(r:List ak)(b:Bool)(u:r.length<=1048576)(hl:hH r):Spec prog 13 [fZ c,.snap 1 (b9 (gG::r)) b] (iN (c,if r=[]then .inl [_e (bm 10 (lx c.p)) [32,59,32]]else .inr 10)):=by
 have h:=sS gG r b ae u hl;rw[show jj gG=[]from ae]at h;by_cases g:r=[];rotate_left
 .rw[if_neg g];rw[if_pos (.inr (fun q=>g (_m.1 q.symm)))]at h;exact vn c gG r b _ _ h
 rw[if_pos g];subst g;have h:Spec prog 25 [.snap 1 (b9 [gG]) b] (.aS [.snap 1 [] false,.v (.string (I [])),.v (.bool true)]):=h;have m:=ags c.p false f.wf.p f.pl;rw[V4]at m;have Z:=Ln f.wf.p f.pl;generalize lx c.p=B at *;have aj:=va 10 B G;have Cn:=zg 10 [32,59,32] B;have ac:=rK 10 B;have z:=ai2 (bm 10 B) [32,59,32] (List.length_pos_iff.2 (nG 10 B)) G IV;have ah:(_e (bm 10 B) [32,59,32]).length<=1048576:=IV;generalize _e (bm 10 B) [32,59,32]=j at *;have C:IntKind.i64.wrap (((B++[10]).length:Nat)-1:Int)=((B.length:Nat):Int):=by rw[_g,_k,_l,IntWalk.i64_in _ G];omega
 have M:(I (B++[10])).extract 0 B.length=I B:=by rw[fK];exact congrArg I aF
 have ai:(B++[10]).length=B.length+1:=aF;have O:(_c #[32,59,32]:ByteArray)=I [32,59,32]:=rfl;have Q:(_c #[10]:ByteArray)=I [10]:=rfl;have d1:decide (I gG=I fv)=false:=gZ ae;have d2:decide (I gG=I gG)=true:=mf rfl;have U:kv (.inl [j])=[111,107,32]++j:=by
  show cm [hB,j]=_;rw[pZ,F5];rfl
 unfold iN;rw[U];generalize am:B++[10]=ao at *;have X:(b9 [gG]).length=1:=rfl;have Y:cf (b9 [gG]) 0=[.v (.string (I gG))]:=rfl;generalize b9 [gG]=W at *;refine az {} 0 func13 fun Γ an=>ar ?_
 repeat' first|refine af ?_|refine J h ?_|simp only[cL,cO,X,Y,d1,d2,td,O,Q,dt,aU,C,_a,M]|refine J m ?_|refine J aj ?_|refine J z ?_|refine ag ?_|refine ab ?_ ?_<;>intro h<;>try exact aa|refine aK G ?_|refine aK (by simp only[_k,_l];omega) ?_|exact al|fail
 all_goals exact b0
theorem ajU(c:bj)(g:fJ c)(r:List ak)(b:Bool)(j:r.length<=1048576)(hl:hH r):Spec prog 13 [fZ c,.snap 1 (b9 (hO::r)) b] (iN (c,if r=[]then .inl [bt (c.ms.length:Nat),bt (c.tr.length:Nat),bt (c.n.ms.length:Nat)]else .inr 10)):=by
 have h:=sS hO r b ae j hl;rw[show jj hO=[]from ae]at h;by_cases f:r=[];rotate_left
 .rw[if_neg f];rw[if_pos (.inr (fun q=>f (_m.1 q.symm)))]at h;exact vn c hO r b _ _ h
 rw[if_pos f];subst f;have h:Spec prog 25 [.snap 1 (b9 [hO]) b] (.aS [.snap 1 [] false,.v (.string (I [])),.v (.bool true)]):=h;obtain⟨C,M,O⟩:=g.sm;have Q:=dW (c.ms.length:Nat) G;have U:=dW (c.tr.length:Nat) G;have X:=dW (c.n.ms.length:Nat) G;have bW:=hM (c.ms.length:Nat) G;have dq:=hM (c.tr.length:Nat) G;have n3:=hM (c.n.ms.length:Nat) G;have m:kv (.inl [bt (c.ms.length:Nat),bt (c.tr.length:Nat),bt (c.n.ms.length:Nat)])=[111,107,32]++bt (c.ms.length:Nat)++[32]++bt (c.tr.length:Nat)++[32]++bt (c.n.ms.length:Nat):=by
  show cm [hB,_,_,_]=_;rw[pZ,pZ,pZ,F5];simp[hB]
 unfold iN;rw[m];have Y:(c.ms.map aZ.enc).length=c.ms.length:=_d ..;have u:(b9 [hO]).length=1:=rfl;have z:cf (b9 [hO]) 0=[.v (.string (I hO))]:=rfl;generalize b9 [hO]=W at *;have d1:decide (I hO=I fv)=false:=gZ ae;have d2:decide (I hO=I gG)=false:=gZ ae;have d3:decide (I hO=I hO)=true:=mf rfl;refine az {} 0 func13 fun Γ an=>ar ?_
 repeat' first|refine af ?_|refine J h ?_|simp only[cL,cO,cS,u,z,d1,d2,d3,td,vo,dt,aU,_d]|refine J bW ?_|refine J dq ?_|refine J n3 ?_|refine ag ?_|refine ab ?_ ?_<;>intro h<;>try exact aa|refine aK G ?_|refine aK (by simp only[_g,_k,_l];omega) ?_|exact al|fail
 all_goals exact b0
end Go.Proofs.YtdiobdlinjgakaaGreatDoor.R
namespace Go.Proofs.YtdiobdlinjgakaaGreatDoor
attribute [local irreducible] bc Go
theorem alH(g:Nat)(l:List gv):c1 g (l.map gv.enc):=eS (fun x=>by simp[gv.enc,eV,dn])
theorem ahl{l:List j5}{k:Nat}{t:j5}(b:l[k]?=some t):cf (l.map j5.enc) k=t.enc:=h7 j5.enc l k t b
theorem abX(c:bj)(ao:c.wf)(l:List j5)(n:Nat)(hl:l.length<=300)(aj:∀x∈l,x.s.length<=140737488351232):b1 prog 30 [fZ c,.aG 0 n 3 0 l.length true] [some ⟨n,3,l.map j5.enc⟩] (fun d H=>d=.aS [fZ (mI c l).1,.snap 3 ((mI c l).2.map gv.enc) false]/\H=[some ⟨n,3,l.map j5.enc⟩]):=by
 have ah:(l.map j5.enc).length=l.length:=_d ..;have av:∀g,c1 g (l.map j5.enc):=fun g=>eS (fun x=>by simp[j5.enc,eV,dn])
 refine ej {} 1 func30 fun Γ aw ax=>ar ?_
 have az:n<Γ.g0:=aw 0 _ rfl;repeat' first|refine af ?_|refine ag ?_|refine ab ?_ ?_<;>intro h<;>try exact aa|fail
 refine dv (j1 (gU ⟨.d0,.d0,.d6⟩ 6 3 rfl rfl)) ?_;refine bS (α:=Nat×Nat×Nat) (fun x=>[(⟨.d0,.d1,.d4⟩,.v (.int .i64 (x.1:Nat))),(⟨.d0,.d0,.d6⟩,.aG 6 x.2.1 3 0 (mI c (l.take x.1)).2.length false)]) (fun x=>[(1,some ⟨Γ.g0,16,[(mI c (l.take x.1)).1.row (om (mI c (l.take x.1)).1.ms)]⟩),(3,none),(4,none),(5,none),(6,some ⟨x.2.1,3,(mI c (l.take x.1)).2.map gv.enc⟩)]) (fun x=>x.2.2) (fun x=>l.length-x.1) (fun x=>x.1<=l.length) (0,Γ.g0+2,Γ.g0+3) (_f _) ?_ ?_
 .exact bs
 rintro⟨k,ap,g⟩ aA;dsimp only at aA⊢;refine bz ?_;by_cases aN:k<l.length
 .obtain⟨⟨u,z,f⟩,ai⟩:∃t,l[k]?=some t:=⟨_,_b aN⟩;have ak:=ahl ai;have aq:=aj _ (_h ai);have xH:=al5 (u:=c) ai;obtain⟨C,X⟩:=OW ao (l.take k);rw[List.length_take,_q G]at X;generalize mI c (l.take k)=p at *;obtain⟨v,j⟩:=p;dsimp only at C X xH aq⊢;have O:=acb v C;have Q:=cA f (h4 v) 1099511627776;have Y:∀w:gv,j.map gv.enc++[w.enc]=(j++[w]).map gv.enc:=fun w=>nu
  have am:∀y Z:Int,j.map gv.enc++[[.v (.string {data:=#[]}),.v (.int .i64 y),.v (.int .i64 Z)]]=(j++[(⟨[],y,Z⟩:gv)]).map gv.enc:=fun y Z=>Y ⟨[],y,Z⟩
  have I:∀w:gv,(j.map gv.enc).length+1=(j++[w]).length:=fun w=>aF
  by_cases m:iA v=0
  .have ac:=ab6 v C m;by_cases U:h4 v<=f/\f<=1099511627776
   .have Ea:cb v u z f=((h5 v u z f).1,(h5 v u z f).2.2.2.1,(h5 v u z f).2.2.2.2,0):=by unfold cb;rw[if_neg (not_not_intro m),if_neg G]
    have M:=aa3 v C m u z aq f U;rw[m]at O;rw[decide_eq_true U]at Q;clear m U;generalize h4 v=L at *;generalize h5 v u z f=aC at *;obtain⟨aE,f2,t2,an,ph⟩:=aC;dsimp only at Ea M;repeat' first|refine af ?_|refine J O ?_|refine J ac ?_|refine J Q ?_|refine J M ?_|refine ag ?_|refine ab ?_ ?_<;>intro h<;>try exact aa|simp only[_a,_n,ah,ak]|exact al|fail
    all_goals try (exfalso;simp_all;done)
    first|rw[Y (⟨an,ph,0⟩:gv),I (⟨an,ph,0⟩:gv)]|rw[am,I (⟨an,ph,0⟩:gv)]
    exact J5
   have Ea:cb v u z f=(v,[],0,1):=by unfold cb;rw[if_neg (not_not_intro m),if_pos G]
   have M:True:=trivial;rw[m]at O;rw[decide_eq_false U]at Q;clear m U;generalize h4 v=L at *;repeat' first|refine af ?_|refine J O ?_|refine J ac ?_|refine J Q ?_|refine J M ?_|refine ag ?_|refine ab ?_ ?_<;>intro h<;>try exact aa|simp only[_a,_n,ah,ak]|exact al|fail
   all_goals try (exfalso;simp_all;done)
   first|rw[Y (⟨[],0,1⟩:gv),I (⟨[],0,1⟩:gv)]|rw[am,I (⟨[],0,1⟩:gv)]
   exact J5
  have Ea:cb v u z f=(v,[],0,iA v):=by unfold cb;rw[if_pos m]
  have M:True:=trivial;have ac:True:=trivial;generalize iA v=e at *;generalize h4 v=L at *;repeat' first|refine af ?_|refine J O ?_|refine J ac ?_|refine J Q ?_|refine J M ?_|refine ag ?_|refine ab ?_ ?_<;>intro h<;>try exact aa|simp only[_a,_n,ah,ak]|exact al|fail
  all_goals try (exfalso;simp_all;done)
  first|rw[Y (⟨[],0,e⟩:gv),I (⟨[],0,e⟩:gv)]|rw[am,I (⟨[],0,e⟩:gv)]
  exact J5
 obtain rfl:k=l.length:=G;simp only[_p];obtain⟨C,X⟩:=OW ao l;generalize mI c l=p at *;obtain⟨v,j⟩:=p;dsimp only at C X⊢;have aD:=fun g=>alH g j
 have aH:=fun g=>tU g v
 repeat' first|refine af ?_|refine ag ?_|refine ab ?_ ?_<;>intro h<;>try exact aa|exact al|fail
 refine ev (Ox ⟨.d0,.d0,.d5⟩ 6 (o:=⟨ap,3,j.map gv.enc⟩) (af0 (k:=6) (o:=⟨ap,3,j.map gv.enc⟩) ax rfl (fun q p au=>by
  match q with
  |0=>cases au;exact⟨0,_,ae,rfl,rfl⟩
  |q+1=>cases au)) rfl rfl (.inl ⟨rfl,rfl,aF,rfl⟩)) ?_
 rw[e1 aF];exact iT (by(try first|refine kM ?_|exact cc);repeat' (first|exact trivial|exact rfl|decide|apply And.intro)) (by(try first|refine kM ?_|exact cc);repeat' (first|exact trivial|exact rfl|exact aD _|exact u2 _ _|exact px _ _|exact Bn _ _|exact A.kl _ _|apply And.intro)) rfl rfl az (av _) rfl
end Go.Proofs.YtdiobdlinjgakaaGreatDoor
