import Derived.Lib.Replace
import Derived.Test.YtdiobdlinjgakaaGreatDoorDh32
set_option linter.unusedVariables false
set_option linter.unusedSimpArgs false
set_option maxHeartbeats 8000000
set_option maxRecDepth 100000
open Go.Proofs.Tryz
open List renaming length_append->_a,length_cons->_b,length_nil->_g,replicate->_h,map_cons->_j,length_map->_k,length_singleton->_l,mem_of_getElem?->_m,sum_cons->_n,append_assoc->_p,take_length->_q,getElem?_eq_getElem->_r,sum_nil->_s,map_nil->_t,all_eq_true->_u
open Go.IntKind renaming i64->_c,u8->_w
open Int renaming toNat_natCast->_d
open Go.IntWalk renaming i64_in->_e
open Go.Lib renaming join->_f,splitK->_o,replaceAll->_v,replaceK->_x
open Nat renaming zero_le->_i,le_refl->_y
namespace Go.Proofs.YtdiobdlinjgakaaGreatDoor.R
attribute [local irreducible] bc Go
theorem aeC(b:ak)(k:Nat)(s:ak):_o b 0 k s≠[]:=by
 cases k with
 |zero=>simp[_o]
 |succ k=>
  unfold _o;split<;>simp
theorem F8(a:ak)(l:List ak)(h:l≠[])(c:ak):_f (a::l) c=a++c++_f l c:=by
 cases l with
 |nil=>exact absurd rfl h
 |cons b r=>simp[_f,List.intercalate_cons_cons]
theorem join_one(a b:ak):_f [a] b=a:=by simp[_f]
theorem aat(c b:ak):∀(k:Nat)(s:ak),_x c b k s=_f (_o c 0 k s) b
 |0,s=>(join_one s b).symm
 |k+1,s=>by
  unfold _x _o;split
  .exact(join_one s b).symm
  rw[F8 _ _ (aeC _ _ _),aat c b k,Nat.add_zero]
theorem zg(c:UInt8)(f:ak):∀l:ak,(_f (bm c l) f).length<=(f.length+1)*l.length
 |[]=>by simp[bm,join_one]
 |b::l=>by
  have g:=zg c f l;rw[_b,Nat.mul_succ];by_cases h:b=c
  .subst h;rw[ri,F8 _ _ (nG _ _),_a,_a,_g];omega
  cases j:bm c l with
  |nil=>exact absurd j (nG _ _)
  |cons p ps=>
   rw[oZ h j];rw[j]at g;cases ps with
   |nil=>rw[join_one]at g⊢;rw[_b];omega
   |cons q m=>
    rw[F8 _ _ aF,_a,_a]at g⊢;rw[_b];omega
theorem Ib(c:UInt8)(b l:ak)(g:[c]≠b)(hl:l.length<=1048576)(j:b.length<=100):Spec prog 44 [.v (.string (I l)),.v (.string (I [c])),.v (.string (I b))] (.v (.string (I (_f (bm c l) b)))):=by
 have e:_v l [c] b=_f (bm c l) b:=by
  unfold _v Lib.replace;rw[if_neg (by simpa using g),aat];unfold Lib.replaceNum;rw[if_pos (.inl ae),O6]
 have f:∀l:ak,(I l).data.toList=l:=fun l=>nY
 have m:Lib.count l [c]<=l.length:=by rw[Lib.count_one];exact List.count_le_length
 refine r4 b4 fun K w0 M g0 q u=>?_
 obtain⟨O,Q,U,rfl,aw,aY,x⟩:=Ds u;cases aw;cases aY;cases x;obtain⟨z,C⟩:Bf (w0.cell? ⟨0,0,none⟩):=Rk ((q.mC (g:=0) (cs:=[.tuple #[.nilIface]]) qt).2.2.1 0 _ rfl);refine(Tryz.strings_ReplaceAll (I l) (I [c]) (I b) z w0 (by rw[aU];omega) C (_y _) ?_).mono fun X Y ⟨G,J⟩=>⟨_,G,pN J,?_⟩
 .unfold Lib.countB;rw[f,f,aU,aU];have:=Nat.mul_le_mul m j;omega
 rw[f,f,f,e];exact .v _
theorem ah1(l:ak)(hl:l.length<=1048576):Spec prog 152 [.v (.string (I (l++[10]))),.v (.string (I [10]))] (.v (.bool true)):=by
 have b:(I [10]).size=1:=rfl;have c:(I (l++[10])).size=l.length+1:=by rw[aU];simp
 have f:(I (l++[10])).extract l.length (l.length+1)=I [10]:=by
  rw[fK];exact congrArg I aF
 have g:_c.wrap (((l.length+1:Nat):Int)-((1:Nat):Int))=(l.length:Nat):=(_e _ G).trans G;refine az {} 0 func152 fun Γ an=>ar ?_
 repeat' first|refine af ?_|simp only[b,c,f,g,_d,eq_self,decide_true]|refine ag ?_|refine ab ?_ ?_<;>intro h<;>try exact aa|exact al|fail
 all_goals exact bM
theorem akZ(l:ak)(hl:l.length<=1048576):Spec prog 95 [.v (.string (I (l++[10]))),.v (.string (I [10]))] (.v (.string (I l))):=by
 have aj:=ah1 l hl;have c:(I [10]).size=1:=rfl;have f:(I (l++[10])).size=l.length+1:=by rw[aU];simp
 have g:(I (l++[10])).extract 0 l.length=I l:=by
  rw[fK];exact congrArg I aF
 have j:_c.wrap (((l.length+1:Nat):Int)-((1:Nat):Int))=(l.length:Nat):=(_e _ G).trans G;refine az {} 0 func95 fun Γ an=>ar ?_
 repeat' first|refine af ?_|refine J aj ?_|simp only[c,f,g,j,_d]|refine ag ?_|refine ab ?_ ?_<;>intro h<;>try exact aa|exact al|fail
 all_goals exact bM
theorem aft(l:ak)(hl:l.length<=1048576):Spec prog 48 [.v (.string (I (l++[10]))),.v (.string (I [10]))] (.v (.string (I l))):=by
 have aj:=akZ l hl;refine az {} 0 func48 fun Γ an=>ar ?_
 repeat' first|refine af ?_|refine J aj ?_|refine ag ?_|refine ab ?_ ?_<;>intro h<;>try exact aa|exact al|fail
 all_goals exact bM
end Go.Proofs.YtdiobdlinjgakaaGreatDoor.R
namespace Go.Proofs.YtdiobdlinjgakaaGreatDoor
attribute [local irreducible] bc Go
def uy(g:jx)(n:Int):List UInt8:=a1 g.ax++a1 g.to++c_ g.seq++c_ g.bo++[u8 (4*n),u8 g.flags]++a1 g.win
def uJ(g:jx):List UInt8:=a1 g.gm++nW (ed g.opts)++g.data
def vh(g:jx):Int:=20+((nW (ed g.opts)).length:Int)
def xt(g:jx):Prop:=((0<=g.ax/\g.ax<=65535)/\(0<=g.to/\g.to<=65535)/\(0<=g.win/\g.win<=65535)/\(0<=g.gm/\g.gm<=65535))/\(0<=g.flags/\g.flags<=255)
instance (g:jx):Decidable (xt g):=by unfold xt;infer_instance
def AS(g:jx)(a b:Int):Int:=65535-ck (bP (dC a b 6 (vh g+(g.data.length:Int))++uy g (vh g)++uJ g))
def fz(g:jx)(a b:Int):List UInt8×Int:=
 if¬xt g then([],1)else if g.opts.all il=false then([],4)
 else if 40<(ed g.opts).length\/65455<g.data.length then([],2)
 else(uy g (vh g)++a1 (AS g a b)++uJ g,0)
theorem Qp{g:jx}(h:(0<=g.ax/\g.ax<=65535)/\(0<=g.to/\g.to<=65535)/\(0<=g.win/\g.win<=65535)/\(0<=g.gm/\g.gm<=65535)):[g.ax,g.to,g.win,g.gm].any p7=false:=by
 obtain⟨h1,h2,b,c⟩:=h;simp[p7];omega
theorem ah2{g:jx}(h:¬((0<=g.ax/\g.ax<=65535)/\(0<=g.to/\g.to<=65535)/\(0<=g.win/\g.win<=65535)/\(0<=g.gm/\g.gm<=65535))):[g.ax,g.to,g.win,g.gm].any p7=true:=by
 refine Decidable.byContradiction fun q=>h ?_
 simp[p7]at q;omega
theorem alT(g:jx)(a b:Int)(Q:0<=a/\a<4294967296)(U:0<=b/\b<4294967296)(ay:0<=g.seq/\g.seq<4294967296)(C:0<=g.bo/\g.bo<4294967296)(hl:40*g.opts.length<=140737488355000)(X:∀o∈g.opts,o.d.length<=140737488351232)(ao:g.data.length<=140737488351232):Spec prog 55 [Nx g,.v (.int .u32 a),.v (.int .u32 b)] (.aS [.v (.string (I (fz g a b).1)),.v (.int .i64 (fz g a b).2)]):=by
 have cy:=abb g.ax g.to g.win g.gm;have bX:=aki g.opts hl X;by_cases b5:xt g;case neg=>
  have f:fz g a b=([],1):=if_pos b5;rw[f];by_cases u:(0<=g.ax/\g.ax<=65535)/\(0<=g.to/\g.to<=65535)/\(0<=g.win/\g.win<=65535)/\(0<=g.gm/\g.gm<=65535)
  .rw[Qp u]at cy;have Y:¬(0<=g.flags/\g.flags<=255):=fun q=>b5 ⟨u,q⟩
   exact zM
  rw[ah2 u]at cy;exact zM
 rw[Qp b5.1]at cy;have Y:=b5.2;cases wo:g.opts.all il with
 |false=>
  have f:fz g a b=([],4):=Vi;have z:vG g.opts=([],false):=by unfold vG;rw[wo];rfl
  rw[z]at bX;rw[f];exact zM
 |true=>
  have z:vG g.opts=(ed g.opts,true):=if_pos wo;rw[z]at bX;by_cases m:40<(ed g.opts).length\/65455<g.data.length
  .have f:fz g a b=([],2):=by unfold fz;rw[if_neg (not_not_intro b5),if_neg (by rw[wo];simp),if_pos m]
   rw[f];generalize ed g.opts=c at *;by_cases Z:40<c.length
   .exact zM
   have ac:65455<g.data.length:=G;exact zM
  have f:fz g a b=(uy g (vh g)++a1 (AS g a b)++uJ g,0):=by unfold fz;rw[if_neg (not_not_intro b5),if_neg (by rw[wo];simp),if_neg m]
  rw[f];have Z:¬40<(ed g.opts).length:=fun q=>m (.inl q)
  have ac:¬65455<g.data.length:=fun q=>m (.inr q)
  have ap:=ZO (ed g.opts);have aq:(nW (ed g.opts)).length<=40:=G;unfold AS uy uJ vh;have cG:=FQ a b 6 (20+((nW (ed g.opts)).length:Int)+(g.data.length:Int)) Q U;have rf:=TJ g.seq ay.1 ay.2;have ry:=TJ g.bo C.1 C.2;refine az {} 0 func55 fun Γ an=>ar ?_
  repeat' first|refine af ?_|simp only[dt,aU,lp,q7,_d]|simp only[pd]|simp only[r2]|simp only[a8,dk,gn,xH]|with_reducible refine nF rfl (cy _ _) ?_|refine J bX ?_|refine J cG ?_|refine J aj ?_|refine J rf ?_|refine J ry ?_|refine J (An _) ?_|refine ag ?_|refine ab ?_ ?_<;>intro h<;>try exact aa|refine aK tY ?_|exact al|fail
  all_goals try exfalso;simp_all;done
  have M:nW (ed g.opts)=ed g.opts++_h ((4-(ed g.opts).length%4)%4) 0:=rfl;generalize nW (ed g.opts)=P at *;generalize ed g.opts=c at *;refine bS (α:=Nat) (fun j=>[(⟨.d0,.d1,.d0⟩,.v (.string (I (c++_h j 0))))]) (fun _=>[]) (fun _=>Γ.g0+2) (fun j=>(4-c.length%4)%4-j) (fun j=>j<=(4-c.length%4)%4) 0 (_i _) ?_ ?_
  .refine dB ?_ ?_ (_y _);all_goals first|refine dD ?_|exact dE
   all_goals repeat' first|exact trivial|exact rfl|apply And.intro
   all_goals (rw[List.replicate_zero,List.append_nil])
  intro j ae;dsimp only at ae⊢;refine bz ?_;have ah:(c++_h j (0:UInt8)).length=c.length+j:=aF;have pd:(((c++_h j (0:UInt8)).length:Nat):Int).tmod 4=(((c.length+j)%4:Nat):Int):=by rw[ah];exact(Int.ofNat_tmod _ 4).symm
  by_cases ai:j<(4-c.length%4)%4
  .have au:¬(((c.length+j)%4:Nat):Int)=0:=by omega
   have ak:c++_h j (0:UInt8)++[0]=c++_h (j+1) 0:=by rw[List.replicate_succ',_p]
   repeat' first|refine af ?_|simp only[dt,aU,lp,q7,_d]|simp only[pd]|simp only[r2]|simp only[a8,dk,gn,xH]|with_reducible refine nF rfl (cy _ _) ?_|refine J bX ?_|refine J cG ?_|refine J aj ?_|refine J rf ?_|refine J ry ?_|refine J (An _) ?_|refine ag ?_|refine ab ?_ ?_<;>intro h<;>try exact aa|refine aK tY ?_|exact al|fail
   all_goals try exfalso;simp_all;done
   refine br ⟨j+1,ai,G,?_⟩;rw[<-ak];exact bs
  obtain rfl:j=(4-c.length%4)%4:=G;have am:(((c.length+(4-c.length%4)%4)%4:Nat):Int)=0:=G;rw[am,<-M]at pd;rw[<-M];have a8:_c.wrap (20+(P.length:Int))=20+(P.length:Int):=_e _ G;have dk:_c.wrap ((20+(P.length:Int))*4)=4*(20+(P.length:Int)):=er;have gn:_c.wrap (20+(P.length:Int)+(g.data.length:Int))=20+(P.length:Int)+(g.data.length:Int):=_e _ G;have xH:strOf [[.v (.int .u8 (_w.wrap (4*(20+(P.length:Int)))))],[.v (.int .u8 (_w.wrap g.flags))]]=I [u8 (4*(20+(P.length:Int))),u8 g.flags]:=by rw[H3,pc,pc]
  have aj:=Ja (dC a b 6 (20+(P.length:Int)+(g.data.length:Int))++(a1 g.ax++a1 g.to++c_ g.seq++c_ g.bo++[u8 (4*(20+(P.length:Int))),u8 g.flags]++a1 g.win)++(a1 g.gm++P++g.data)) (by simp only[_a,mb,ns,iB,_b,_g];omega);have av:=kc (bP (dC a b 6 (20+(P.length:Int)+(g.data.length:Int))++(a1 g.ax++a1 g.to++c_ g.seq++c_ g.bo++[u8 (4*(20+(P.length:Int))),u8 g.flags]++a1 g.win)++(a1 g.gm++P++g.data))) (kT _).1;generalize ck (bP (dC a b 6 (20+(P.length:Int)+(g.data.length:Int))++(a1 g.ax++a1 g.to++c_ g.seq++c_ g.bo++[u8 (4*(20+(P.length:Int))),u8 g.flags]++a1 g.win)++(a1 g.gm++P++g.data)))=O at *;have r2:_c.wrap (65535-O)=65535-O:=_e _ G;exact Ri
end Go.Proofs.YtdiobdlinjgakaaGreatDoor
namespace Go.Proofs.YtdiobdlinjgakaaGreatDoor.R
attribute [local irreducible] bc Go
def lv(b:List ak):ak:=cm b++[10]
def pn(r:bN):List ak:=[ir r.ps,qX r.fj r.aM,qX r.fm r.tl,bt r.pr,rZ r.bZ r.hL,rZ r.b2 r.hN]
def wO(p:b6):ak:=lv [cV,eF p.ou.toNat]
def wb(p:b6):ak:=wO p++lv [cX,bt p.lt,bt p.st]
def yt(p:b6):ak:=wb p++lv [cU,bt p.lf]
def rH(p:b6):ak:=yt p++lv [c0,bt p.ra,bt p.mo]
def lQ(p:b6)(l:List bN):ak:=rH p++(l.map fun r=>lv (pn r)).flatten
def nz(p:b6):ak:=lQ p p.rs++lv [cM,ir p.el]
theorem akY(p:b6)(l:List bN)(r:bN):lQ p (l++[r])=lQ p l++lv (pn r):=by simp[lQ]
theorem mg:∀(b:List ak),(cm b).length<=(b.map (fun w=>w.length+1)).sum
 |[]=>C4
 |[x]=>C4
 |x::y::r=>by
  have h:=mg (y::r);have e:cm (x::y::r)=x++[32]++cm (y::r):=C4;rw[e];simp only[_a,_l,_j,_n]at h⊢;omega
theorem zO(b:Bool):(ir b).length=4:=by cases b<;>rfl
theorem HA{p:b6}(c:p.wf)(h:eD p=0):(0<=p.ou/\p.ou<4294967296)/\(64<=p.lt/\p.lt<=65472)/\(64<=p.st/\p.st<=65472)/\(1<=p.lf/\p.lf<=1000000)/\(0<=p.ra/\p.ra<=1000000)/\(1<=p.mo/\p.mo<=1000000000)/\p.rs.length<=64/\(∀r∈p.rs,jv r=true/\r.wf):=by
 unfold eD at h;split at h
 .rename_i b;unfold Cj A.dG at b;simp only[Bool.and_eq_true,decide_eq_true_eq]at b;obtain⟨h1,h2⟩:=F3 h;exact⟨c.1,⟨b.1.1,b.1.2.1⟩,⟨b.2.1.1,b.2.1.2.1⟩,b.2.2.1,b.2.2.2.1,b.2.2.2.2,h1,fun r f=>⟨h2 r f,c.2 r f⟩⟩
 cases h
structure Jg (r:bN):Prop where
 (fj:0<=r.fj/\r.fj<4294967296) (aM:0<=r.aM/\r.aM<=1000000000) (fm:0<=r.fm/\r.fm<4294967296) (tl:0<=r.tl/\r.tl<=1000000000) (pr:0<=r.pr/\r.pr<=1000000000)
 (bZ:0<=r.bZ/\r.bZ<=1000000000) (hL:0<=r.hL/\r.hL<=1000000000) (b2:0<=r.b2/\r.b2<=1000000000) (hN:0<=r.hN/\r.hN<=1000000000)
theorem Fh{r:bN}(h:jv r=true/\r.wf):Jg r:=by
 obtain⟨⟨h1,h2⟩,b,c,f⟩:=Gg h.1;have ah:=wa h1;have ai:=wa h2;exact⟨h.2.1,G,h.2.2,G,G,G,G,G,G⟩
theorem aa5{r:bN}(h:Jg r):(lv (pn r)).length<=200:=by
 have b:=nI r.fj.toNat;have c:=nI r.fm.toNat;have f:=dW _ h.aM;have g:=dW _ h.tl;have j:=dW _ h.pr;have m:=dW _ h.bZ;have q:=dW _ h.hL;have u:=dW _ h.b2;have v:=dW _ h.hN;have x:=zO r.ps;have:=mg (pn r);unfold lv;unfold pn qX rZ at this⊢;simp only[_j,_t,_n,_s,_a,_l]at this⊢;omega
theorem YC{p:b6}(b:p.wf)(h:eD p=0):(wO p).length<=(rH p).length/\(wb p).length<=(rH p).length/\(yt p).length<=(rH p).length/\(rH p).length<=500:=by
 obtain⟨h1,h2,m,q,u,v,-⟩:=HA b h;have x:=nI p.ou.toNat;have z:=dW p.lt G;have C:=dW p.st G;have I:=dW p.lf G;have J:=dW p.ra G;have M:=dW p.mo G;have c:=mg [cV,eF p.ou.toNat];have f:=mg [cX,bt p.lt,bt p.st];have g:=mg [cU,bt p.lf];have j:=mg [c0,bt p.ra,bt p.mo];unfold rH yt wb wO lv;simp only[_j,_t,_n,_s,_a,_l,_b,_g]at c f g j⊢;omega
theorem Gt{p:b6}(b:p.wf)(h:eD p=0)(l:List bN)(hl:∀r∈l,r∈p.rs):(lQ p l).length<=500+200*l.length:=by
 have g:=(YC b h).2.2.2;have c:=(HA b h).2.2.2.2.2.2.2;have:∀l:List bN,(∀r∈l,r∈p.rs)->((l.map fun r=>lv (pn r)).flatten).length<=200*l.length:=fun l=>by
  induction l with
  |nil=>intro _;simp
  |cons r l f=>
   intro hl;have i:=f (fun x aP=>hl x oT);have:=aa5 (Fh (c r (hl r aF)));simp only[_j,List.flatten_cons,_a,_b];omega
 have:=this l hl;unfold lQ;rw[_a];omega
theorem ag7(p:b6)(c:Bool)(m:p.wf)(q:eD p=0):Spec prog 46 [rP p c] (.aS [.v (.string (I (nz p))),.v (.int .i64 0)]):=by
 obtain⟨f1,f2,f3,f4,f5,f6,f7,f8⟩:=HA m q;obtain⟨aG,aH,aI,aJ⟩:=YC m q;have Q:=Gx p c m fg;rw[q]at Q;have ah:=Hc p.ou f1;have ai:=nx p.lt G;have aj:=nx p.st G;have ak:=nx p.lf G;have am:=nx p.ra G;have ao:=nx p.mo G;have bl:=fun f g j=>KD f g j 2 (a:=.v (.pointer none)) (.inl rfl) (l:=[]) (t:=wO p) cV (eF p.ou.toNat) rfl G
 have bD:=fun f g j=>US f g j 3 (a:=.ch f 2 e5) (.inr rfl) (l:=wO p) (t:=wb p) cX (bt p.lt) (bt p.st) rfl G
 have eO:=fun f g j=>KD f g j 4 (a:=.ch f 2 e5) (.inr rfl) (l:=wb p) (t:=yt p) cU (bt p.lf) rfl G
 have ap:=fun f g j=>US f g j 5 (a:=.ch f 2 e5) (.inr rfl) (l:=yt p) (t:=rH p) c0 (bt p.ra) (bt p.mo) rfl G
 refine az {bld:=49} 0 func46 fun Γ an=>ar ?_
 repeat' first|refine eJ (Uo 1 9 ae rfl) ?_|refine eJ (nv 10 9 rfl (fun _=>rfl)) ?_|refine af ?_|refine J Q ?_|refine J ah ?_|refine J ai ?_|refine J aj ?_|refine J ak ?_|refine J am ?_|refine J ao ?_|((with_reducible refine aL 90 ?_);first|refine gb [1,9,2] [10] [1,9,2,10] rfl ae rfl rfl (bl _ _ _) ?_|refine gb [1,9,3] [10] [1,9,3,10] rfl ae rfl rfl (bD _ _ _) ?_|refine gb [1,9,4] [10] [1,9,4,10] rfl ae rfl rfl (eO _ _ _) ?_|refine gb [1,9,5] [10] [1,9,5,10] rfl ae rfl rfl (ap _ _ _) ?_)|refine ag ?_|refine ab ?_ ?_<;>intro h<;>try exact aa|exact al|fail
 have aq:lQ p (p.rs.take 0)=rH p:=by simp[lQ]
 rw[<-aq];refine bS (α:=Nat×Nat×Nat) (fun x=>[(⟨.d0,.d6,.d0⟩,.v (.int .i64 (x.1:Nat)))]) (fun x=>[(1,some (iQ (Γ.g0+1) (.ch (Γ.g0+1) 2 e5) 1 x.2.1 (lQ p (p.rs.take x.1)))),(6,none),(7,none),(9,some (jW x.2.1 (lQ p (p.rs.take x.1)))),(10,none)]) (fun x=>x.2.2) (fun x=>p.rs.length-x.1) (fun x=>x.1<=p.rs.length) (0,Γ.g0+10,Γ.g0+11) (_i _) ?_ ?_
 .exact bs
 rintro⟨i,g,U⟩ au;dsimp only at au⊢;refine bz ?_;by_cases u:i<p.rs.length
 .obtain⟨r,z⟩:∃r,p.rs[i]?=some r:=⟨_,_r u⟩;have av:=_m z;have aw:=vD z;have F:=Fh (f8 r av);have C:=Xh r.ps;have ax:=W7 r.fj r.aM F.fj F.aM;have aA:=W7 r.fm r.tl F.fm F.tl;have aC:=nx r.pr F.pr;have aD:=WN r.bZ r.hL F.bZ F.hL;have aE:=WN r.b2 r.hN F.b2 F.hN;have X:=akY p (p.rs.take i) r;rw[<-nU z]at X;have Y:=Gt m q (p.rs.take (i+1)) (fun x M=>List.mem_of_mem_take M);rw[List.length_take]at Y;have O:=fun f g j=>akr f g j 7 (a:=.ch f 2 e5) (.inr rfl) (l:=lQ p (p.rs.take i)) (t:=lQ p (p.rs.take (i+1))) (ir r.ps) (qX r.fj r.aM) (qX r.fm r.tl) (bt r.pr) (rZ r.bZ r.hL) (rZ r.b2 r.hN) X G
  repeat' first|refine eJ (nv 10 9 rfl (fun _=>rfl)) ?_|refine af ?_|refine J C ?_|refine J ax ?_|refine J aA ?_|refine J aC ?_|refine J aD ?_|refine J aE ?_|(with_reducible refine aL 90 ?_);(refine gb [1,9,7] [10] [1,9,7,10] rfl ae rfl rfl (O _ _ _) ?_)|refine ag ?_|refine ab ?_ ?_<;>intro h<;>try exact aa|simp only[_d,aw,_k]|exact al|fail
  refine br ⟨(i+1,U+1+1,U+3),u,Nat.sub_lt_sub_left u (Nat.lt_succ_self i),?_⟩;exact jJ
 obtain rfl:i=p.rs.length:=G;rw[_q];have Y:=Gt m q p.rs (fun x M=>M);have aN:=zO p.el;have Cn:=mg [cM,ir p.el];have C:=Xh p.el;have Z:(nz p).length<=1048576:=by exact PW
 have aF:nz p≠[]:=by
  unfold nz lv;simp
 have O:=fun f g j=>KD f g j 8 (a:=.ch f 2 e5) (.inr rfl) (l:=lQ p p.rs) (t:=nz p) cM (ir p.el) rfl Z
 have ac:=fun f g=>Sw f g (nz p) aF (Nat.le_trans Z ae)
 simp only[Mq]at ac;repeat' first|refine eJ (nv 10 9 rfl (fun _=>rfl)) ?_|refine af ?_|refine J C ?_|(with_reducible refine aL 90 ?_);(refine gb [1,9,8] [10] [1,9,8,10] rfl ae rfl rfl (O _ _ _) ?_)|(with_reducible refine aL 10 ?_);(refine aX [1,9] ae rfl rfl (ac _ _) ?_)|refine ag ?_|refine ab ?_ ?_<;>intro h<;>try exact aa|simp only[_k]|exact al|fail
 all_goals exact b0
end Go.Proofs.YtdiobdlinjgakaaGreatDoor.R
namespace Go.Proofs.YtdiobdlinjgakaaGreatDoor.R
structure fJ (u:bj):Prop where
 wf:u.wf
 pl:eD u.p=0
 sm:vW u
theorem V_{p:b6}(h:eD p=0):iH p=⟨p,[],[],⟨p.lf,p.lt,0,p.st,0,[]⟩⟩:=if_pos h
theorem fJ.new{p:b6}(b:p.wf)(h:eD p=0):fJ (iH p):=
 ⟨aky b (Al h),by rw[V_ h];exact h,by rw[V_ h];exact⟨_i _,_i _,_i _⟩⟩
theorem akB(b:bj)(i:Bool)(s:ak)(n:Int):(cb b i s n).1.p=b.p:=by
 unfold cb;split
 .rfl
 split
 .rfl
 unfold h5;split
 .rfl
 split
 .rfl
 split
 .rfl
 dsimp only;split
 .rfl
 split<;>rfl
theorem fJ.al8{b:bj}(h:fJ b)(i:Bool)(s:ak)(n:Int)(c:(cb b i s n).2.2.2=0):fJ (cb b i s n).1:=
 ⟨Uj h.wf i s n,by rw[akB];exact h.pl,abc h.wf i s n c⟩
abbrev fv:ak:=[112,108,97,110]
abbrev gG:ak:=[112,108,97,110,63]
abbrev gd:ak:=[108,101,116,116,101,114]
abbrev gq:ak:=[115,101,103,109,101,110,116]
abbrev hV:ak:=[112,97,99,107,101,116]
abbrev hO:ak:=[99,111,117,110,116]
def mS(r:List ak):Option (Bool×ig×Int):=
 match eo k7 r with
 |none=>none
 |some (i,aw)=>match nM aw with
  |none=>none
  |some (F,aY)=>match eo gg aY with
   |some (n,[])=>some (i,F,n)
   |_=>none
def kU(r:List ak):Option (Bool×ig×Int×Int):=
 match eo k7 r with
 |none=>none
 |some (i,aw)=>match nM aw with
  |none=>none
  |some (F,aY)=>match eo gg aY with
   |none=>none
   |some (g,b)=>match eo gg b with
    |some (n,[])=>some (i,F,g,n)
    |_=>none
def mw(r:List ak):Option (Bool×ak×Int):=
 match eo k7 r with
 |none=>none
 |some (i,aw)=>match eo gk aw with
  |none=>none
  |some (s,aY)=>match eo gg aY with
   |some (n,[])=>some (i,s,n)
   |_=>none
abbrev kC(F:ig)(g:Int):jx:=⟨F.p,F.q,0,0,g,0,0,[],[]⟩
def jP(F:ig)(pr:Int)(d:ak×Int):ak×Int:=if d.2=0 then eM (ht F pr d.1)else([],d.2)
abbrev pS:=List ak ⊕ Int
def la(b:bj)(i:Bool)(s:ak)(n:Int):bj×pS:=
 if(cb b i s n).2.2.2=0 then((cb b i s n).1,.inl (kr (cb b i s n).2.2.1 (cb b i s n).2.1))else(b,.inr (cb b i s n).2.2.2)
def jK(b:bj)(i:Bool)(s:ak×Int)(n:Int):bj×pS:=if s.2=0 then la b i s.1 n else(b,.inr s.2)
def lx(p:b6):ak:=lQ p p.rs++cm [cM,ir p.el]
theorem V4(p:b6):nz p=lx p++[10]:=by
 unfold nz lx lv;rw[_p]
theorem Ln{p:b6}(c:p.wf)(b:eD p=0):(lx p).length<=14000:=by
 have:=Oj b;have j:=Gt c b p.rs (fun x f=>f);have m:=zO p.el;have g:=mg [cM,ir p.el];unfold lx;simp only[_j,_t,_n,_s,_a,_b,_g]at g⊢;omega
def qd(b:bj)(r:List ak):bj×pS:=
 if r=[]then(b,.inr 10)else if(fb (_f (bm 59 (cm r)) [10])).2.2=0 then(iH (fb (_f (bm 59 (cm r)) [10])).1,.inl [])else(b,.inr (fb (_f (bm 59 (cm r)) [10])).2.2)
def tv(c:bj)(r:List ak):bj×pS:=match mS r with
 |none=>(c,.inr 10)
 |some (i,F,n)=>jK c i (jP F 17 (gx F.p F.q [120] F.a F.b)) n
def th(c:bj)(r:List ak):bj×pS:=match kU r with
 |none=>(c,.inr 10)
 |some (i,F,g,n)=>jK c i (jP F 6 (fz (kC F g) F.a F.b)) n
def tt(b:bj)(r:List ak):bj×pS:=match mw r with
 |none=>(b,.inr 10)
 |some (i,s,n)=>la b i s n
def de(b:bj)(c:ak)(r:List ak):bj×pS:=
 if c=fv then qd b r
 else if c=gG then(b,if r=[]then .inl [_f (bm 10 (lx b.p)) [32,59,32]]else .inr 10)
 else if c=gd then tv b r
 else if c=gq then th b r
 else if c=hV then tt b r
 else if c=hO then(b,if r=[]then .inl [bt (b.ms.length:Nat),bt (b.tr.length:Nat),bt (b.n.ms.length:Nat)]else .inr 10)
 else(b,.inr 10)
theorem Yw{b:bj}(h:fJ b)(i:Bool)(s:ak)(n:Int):fJ (la b i s n).1:=by
 unfold la;split
 .rename_i q;exact h.al8 i s n q
 exact h
theorem Zi{b:bj}(h:fJ b)(i:Bool)(s:ak×Int)(n:Int):fJ (jK b i s n).1:=by
 unfold jK;split
 .exact Yw h _ _ _
 exact h
theorem U8{b:bj}(h:fJ b)(c:ak)(r:List ak):fJ (de b c r).1:=by
 unfold de;split
 .unfold qd;split
  .exact h
  split
  .rename_i q;exact fJ.new (EV q).1 (EV q).2
  exact h
 split
 .exact h
 split
 .unfold tv;split
  .exact h
  exact Zi h _ _ _
 split
 .unfold th;split
  .exact h
  exact Zi h _ _ _
 split
 .unfold tt;split
  .exact h
  exact Yw h _ _ _
 split<;>exact h
end Go.Proofs.YtdiobdlinjgakaaGreatDoor.R
namespace Go.Proofs.YtdiobdlinjgakaaGreatDoor
attribute [local irreducible] bc Go
theorem Hw:(ByteArray.mk #[0,0,0]:ByteArray)=I [0,0,0]:=rfl
theorem acZ(g:jx)(a b:Int)(X:0<=a/\a<4294967296)(Y:0<=b/\b<4294967296)(ay:0<=g.seq/\g.seq<4294967296)(C:0<=g.bo/\g.bo<4294967296)(hl:g.opts.length<=maxLen)(M:∀o∈g.opts,o.d.length<=140737488351232)(aG:g.data.length<=140737488351232):Spec prog 71 [Nx g,.v (.int .u32 a),.v (.int .u32 b)] (.aS [.v (.string (I (fz g a b).1)),.v (.int .i64 (fz g a b).2)]):=by
 have aH:g.opts.length<=9223372036854775807:=hl;by_cases b5:xt g;case neg=>
  have m:fz g a b=([],1):=if_pos b5;rw[m];unfold xt at b5;refine az {} 0 func71 fun Γ an=>ar ?_
  repeat' first|refine af ?_|simp only[dt,aU,lp,Hw,_k,_d]|simp only[dU]|simp only[t1,t2,t3,gh]|simp only[a8,dk]|simp only[kd,Du,gn]|refine J (cA _ _ _) ?_|refine J vf ?_|refine J zA ?_|with_reducible refine nF rfl (tH _ _ _ _ _) ?_|refine J cG ?_|refine J aj ?_|refine J rf ?_|refine J ry ?_|refine J bl ?_|refine J bD ?_|refine J eO ?_|refine J qk ?_|refine J tO ?_|refine J oP ?_|refine ag ?_|refine ab ?_ ?_<;>intro h<;>try exact aa|refine aK tY ?_|exact al|fail
  all_goals try exfalso;simp_all;done
  all_goals try exfalso;apply b5;simp_all;done
  all_goals exact b0
 have Z:=b5;obtain⟨⟨ac,ah,ai,ak⟩,aI⟩:=Z;have zA:=ahV g.opts hl M;refine az {} 0 func71 fun Γ an=>ar ?_
 repeat' first|refine af ?_|simp only[dt,aU,lp,Hw,_k,_d]|simp only[dU]|simp only[t1,t2,t3,gh]|simp only[a8,dk]|simp only[kd,Du,gn]|refine J (cA _ _ _) ?_|refine J vf ?_|refine J zA ?_|with_reducible refine nF rfl (tH _ _ _ _ _) ?_|refine J cG ?_|refine J aj ?_|refine J rf ?_|refine J ry ?_|refine J bl ?_|refine J bD ?_|refine J eO ?_|refine J qk ?_|refine J tO ?_|refine J oP ?_|refine ag ?_|refine ab ?_ ?_<;>intro h<;>try exact aa|refine aK tY ?_|exact al|fail
 all_goals try exfalso;simp_all;done
 refine bS (α:=Nat×Nat) (fun x=>[(⟨.d0,.d1,.d0⟩,.v (.string (I (lu [] (g.opts.take x.1))))),(⟨.d0,.d5,.d6⟩,.v (.int .i64 (x.1:Nat)))]) (fun _=>[(1,none)]) (fun x=>x.2) (fun x=>g.opts.length-x.1) (fun x=>x.1<=g.opts.length/\(g.opts.take x.1).all il=true) (0,Γ.g0+1) ⟨_i _,rfl⟩ ?_ ?_
 .exact bs
 rintro⟨k,bR⟩ ⟨am,nB⟩;dsimp only at am nB⊢;refine bz ?_;by_cases aN:k<g.opts.length
 .obtain⟨o,q⟩:∃o,g.opts[k]?=some o:=⟨_,_r aN⟩;have dU:=TK q;have D4:=nU q;have vf:=Rl o (M o (_m q));unfold v8 at vf;cases eI:il o with
  |false=>
   rw[eI,if_neg aF]at vf;have wo:g.opts.all il=false:=by
    cases ao:g.opts.all il with
    |false=>rfl
    |true=>
     have:=_u.1 ao o (_m q);rw[eI]at this;cases this
   have m:fz g a b=([],4):=Vi;rw[m];generalize lu [] (g.opts.take k)=S at *;exact Hv
  |true=>
   rw[eI,if_pos rfl]at vf;have aJ:=H2 eI;have ajS:(g.opts.take (k+1)).all il=true:=Xm;have pV:=Tg o (g.opts.take k) [];rw[<-D4]at pV;generalize lu [] (g.opts.take k)=S at *;by_cases z:S.length<=40
   .rw[if_pos z]at pV;exact ZH
   rw[if_neg z]at pV;exact ZH
 obtain rfl:k=g.opts.length:=G;rw[_q]at nB;rw[_q];have ap:g.opts.any yv=false:=by
  rw[List.any_eq_false];intro o q;have:=_u.1 nB o q;unfold yv;rw[this];simp
 rw[ap]at zA;obtain⟨aq,O⟩:=Oe g.opts [];rw[List.nil_append]at aq O;by_cases u:40<(ed g.opts).length\/65455<g.data.length
 .have m:fz g a b=([],2):=by unfold fz;rw[if_neg (not_not_intro b5),if_neg (by rw[nB];simp),if_pos u]
  rw[m];generalize lu [] g.opts=S at *;by_cases z:40<S.length
  .exact Hv
  have aL:65455<g.data.length:=G;exact Hv
 have au:(ed g.opts).length<=40:=G;have aM:¬65455<g.data.length:=G;rw[O au];have m:fz g a b=(uy g (vh g)++a1 (AS g a b)++uJ g,0):=by unfold fz;rw[if_neg (not_not_intro b5),if_neg (by rw[nB];simp),if_neg u]
 rw[m];have aO:=ZO (ed g.opts);have av:=aa8 (ed g.opts);unfold AS uy uJ vh;generalize nW (ed g.opts)=P at *;generalize ed g.opts=f at *;have t1:_c.wrap ((f.length:Int)+3)=(f.length:Int)+3:=_e _ G;have t2:_c.wrap (((f.length:Int)+3).tdiv 4)=(((f.length+3)/4:Nat):Int):=zb;have t3:_c.wrap ((((f.length+3)/4:Nat):Int)*4)=(((f.length+3)/4*4:Nat):Int):=er;have gh:(I (f++[0,0,0])).extract 0 ((f.length+3)/4*4)=I P:=by rw[fK];exact congrArg I av
 have a8:_c.wrap ((P.length:Int)+20)=20+(P.length:Int):=er;have dk:_c.wrap (4*(20+(P.length:Int)))=4*(20+(P.length:Int)):=_e _ G;have bl:=iJ g.ax ac.1;have bD:=iJ g.to ah.1;have eO:=iJ g.win ai.1;have qk:=iJ 0 ae;have tO:=iJ g.gm ak.1;have rf:=rI g.seq ay.1 ay.2;have ry:=rI g.bo C.1 C.2;have aw:(a1 g.ax++a1 g.to++c_ g.seq++c_ g.bo++[u8 (4*(20+(P.length:Int))),u8 g.flags]++a1 g.win).length=16:=rfl;have gn:(((a1 g.ax++a1 g.to++c_ g.seq++c_ g.bo++[u8 (4*(20+(P.length:Int))),u8 g.flags]++a1 g.win++a1 0++a1 g.gm++P++g.data).length:Nat):Int)=20+(P.length:Int)+(g.data.length:Int):=by simp only[_a,iB,ns,_b,_g];omega
 have kd:(I (a1 g.ax++a1 g.to++c_ g.seq++c_ g.bo++[u8 (4*(20+(P.length:Int))),u8 g.flags]++a1 g.win++a1 0++a1 g.gm++P++g.data)).extract 0 16=I (a1 g.ax++a1 g.to++c_ g.seq++c_ g.bo++[u8 (4*(20+(P.length:Int))),u8 g.flags]++a1 g.win):=r9;have Du:(I (a1 g.ax++a1 g.to++c_ g.seq++c_ g.bo++[u8 (4*(20+(P.length:Int))),u8 g.flags]++a1 g.win++a1 0++a1 g.gm++P++g.data)).extract 18 (a1 g.ax++a1 g.to++c_ g.seq++c_ g.bo++[u8 (4*(20+(P.length:Int))),u8 g.flags]++a1 g.win++a1 0++a1 g.gm++P++g.data).length=I (a1 g.gm++P++g.data):=by rw[fK,List.take_of_length_le aF];rfl
 have cG:=Gk a b 6 (20+(P.length:Int)+(g.data.length:Int)) X Y;have aj:=yw (dC a b 6 (20+(P.length:Int)+(g.data.length:Int))++(a1 g.ax++a1 g.to++c_ g.seq++c_ g.bo++[u8 (4*(20+(P.length:Int))),u8 g.flags]++a1 g.win++a1 0++a1 g.gm++P++g.data)) (by simp only[_a,mb,iB,ns,_b,_g];omega);have aA:bP (dC a b 6 (20+(P.length:Int)+(g.data.length:Int))++(a1 g.ax++a1 g.to++c_ g.seq++c_ g.bo++[u8 (4*(20+(P.length:Int))),u8 g.flags]++a1 g.win++a1 0++a1 g.gm++P++g.data))=bP (dC a b 6 (20+(P.length:Int)+(g.data.length:Int))++(a1 g.ax++a1 g.to++c_ g.seq++c_ g.bo++[u8 (4*(20+(P.length:Int))),u8 g.flags]++a1 g.win)++(a1 g.gm++P++g.data)):=by
  generalize aP:a1 g.ax++a1 g.to++c_ g.seq++c_ g.bo++[u8 (4*(20+(P.length:Int))),u8 g.flags]++a1 g.win=c at *;have Q:(dC a b 6 (20+(P.length:Int)+(g.data.length:Int))).length%2=0:=by rw[mb]
  generalize dC a b 6 (20+(P.length:Int)+(g.data.length:Int))=j at *;have aC:bP (a1 0)=0:=ae;have U:c.length%2=0:=by rw[aw]
  have u:∀B:List UInt8,bP (j++(c++(a1 0++B)))=bP (j++(c++B)):=fun B=>by rw[mV j (c++(a1 0++B)) Q,mV j (c++B) Q,mV c (a1 0++B) U,mV c B U,mV (a1 0) B (by rw[iB]),aC,Int.zero_add]
  have aD:j++(c++a1 0++a1 g.gm++P++g.data)=j++(c++(a1 0++(a1 g.gm++P++g.data))):=Kz;have a8:j++c++(a1 g.gm++P++g.data)=j++(c++(a1 g.gm++P++g.data)):=_p _ _ _;rw[aD,a8];exact u _
 rw[aA]at aj;have aQ:=kc (bP (dC a b 6 (20+(P.length:Int)+(g.data.length:Int))++(a1 g.ax++a1 g.to++c_ g.seq++c_ g.bo++[u8 (4*(20+(P.length:Int))),u8 g.flags]++a1 g.win)++(a1 g.gm++P++g.data))) (kT _).1;generalize ck (bP (dC a b 6 (20+(P.length:Int)+(g.data.length:Int))++(a1 g.ax++a1 g.to++c_ g.seq++c_ g.bo++[u8 (4*(20+(P.length:Int))),u8 g.flags]++a1 g.win)++(a1 g.gm++P++g.data)))=aE at *;have oP:=iJ (65535-aE) G;exact Hv
end Go.Proofs.YtdiobdlinjgakaaGreatDoor
