import Derived.WalkLawsBesides
import Derived.Test.YtdiobdlinjgakaaGreatDoorDh06
import Derived.Below
import Derived.Test.YtdiobdlinjgakaaGreatDoorDh11
import Derived.Test.YtdiobdlinjgakaaGreatDoorDh14
set_option linter.unusedVariables false
set_option linter.unusedSimpArgs false
set_option maxHeartbeats 8000000
set_option maxRecDepth 100000
open Go.Proofs.Tryz
open Go.IntWalk renaming i64_in->_a
open List renaming getElem?_eq_getElem->_b,mem_iff_getElem?->_g,all_eq_true->_j
open Nat renaming add_sub_cancel_left->_c,le_trans->_q
open Int renaming mul_le_mul_of_nonneg_right->_d,mul_le_mul_of_nonneg_left->_e,tdiv_eq_ediv_of_nonneg->_f,mul_ediv_add_emod->_h,ediv_le_self->_l,min_eq_left->_m,emod_nonneg->_n,ediv_nonneg->_o,mul_nonneg->_p
open Bool renaming not_eq_true'->_i,and_eq_true->_k
namespace Go.Proofs.YtdiobdlinjgakaaGreatDoor
section
variable {P:Program} {F:List cP->bb->List e6->Prop} {r:List cP} {st:bb} {dst:Option bK} {tr:List e6}
theorem gb{f:FuncId}{j:List O}{c:Nat}{D:Nat->O}{m:aV}{g:Nat->aV}(ks q b:List Nat)(u:ks++q=b)(v:b.Nodup)(hl:(g st.gen).length=b.length)(x:fF st.H ks=m)(h1:fi P f j m c (fun n d H=>d=D n/\H=g n))(h2:F r ⟨hg st.tm dst (D st.gen),d_ st.H (fI b (g st.gen)),st.gen+c⟩ (⟨b,b⟩::tr)):bc P F r st dst tr (.call f j):=by
 subst x u;exact .inr (.inr ⟨ks,q,j,c,D,g,fun _ _ _ h=>h,v,hl,h1,h2⟩)
theorem aX{f:FuncId}{c:List O}{D:O}{g b:aV}(ks:List Nat)(j:ks.Nodup)(hl:b.length=ks.length)(m:fF st.H ks=g)(h1:b1 P f c g (fun d H=>d=D/\H=b))(h2:F r ⟨hg st.tm dst D,d_ st.H (fI ks b),st.gen⟩ (⟨ks,ks⟩::tr)):bc P F r st dst tr (.call f c):=by
 subst m;exact .inl ⟨ks,c,D,b,fun _ _ _ h=>h,j,hl,h1,h2⟩
end
theorem Ff{st:bb}(j k sz s:Nat)(qg:j≠k){n:Nat}{x y:List O}(a6:aB st.H j=some ⟨n,s,[x]⟩)(f1:x.length=y.length)(f2:∀(i:Nat)(d f:O),x[i]?=some d->y[i]?=some f->f=d\/(d=.v (.slice none 0 0)/\∃G,f=.aG G st.gen sz 0 0 false))(aa:0<s):fP st ⟨st.tm,cl (cl st.H j (some ⟨n,s,[y]⟩)) k (some ⟨st.gen,sz,[]⟩),st.gen+1⟩:=by
 intro Γ N K a w e2;have I:¬K.bG st.gen:=fun h=>absurd (e2.fresh _ h) (Nat.lt_irrefl _)
 have h1:=EX (k:=k) (sz:=sz) e2.inv I e2.g0;have bg:=y5 K w st.gen;have Hu:(fun q=>if q=k then some (⟨st.gen,sz,[]⟩:aR)else aB st.H q) j=some ⟨n,s,[x]⟩:=by exact VR
 have sT:mQ (K.ud st.gen) w ⟨n,s,[y]⟩:=by
  rcases(h1.obj j _ Hu).two (fun bg=>Ic)with⟨z,g⟩|⟨z,J,t,M,Q,g,U,X,Y⟩
  .cases g
  refine .inr (.inl ⟨z,J,t,M,Q,g,U,fun q b=>?_,fun i q m d b bf=>?_⟩)
  .simp at b;rw[b,<-f1];exact X x aF
  cases i with
  |succ i=>simp at b
  |zero=>
   simp at b;subst b;have C:m<x.length:=Ky;obtain⟨c,Z,u⟩:=Y 0 x m _ rfl (_b C);refine⟨c,Z,?_⟩;rcases f2 m _ d (_b C) bf with e|⟨a_,T,a8⟩
   .rw[e];exact u
   rw[a_]at u;rw[a8,cQ u];exact .aG (Nat.le_refl _) (fun h=>ha) (.inl rfl)
 exact Oy
theorem aL(f:FuncId){P:Program}{F:List cP->bb->List e6->Prop}{r:List cP}{st:bb}{dst:Option bK}{tr:List e6}{b:List O}(h:bc P F r st dst tr (.call f b)):bc P F r st dst tr (.call f b):=h
theorem gJ{Γ:bw}{P:Program}{N:Nat}{R:bb->Prop}{x:dI}{k:List jR}{st:bb}(h:Go Γ P N R x k st):Go Γ P N R x k st:=h
theorem p9{P:Program}{F:List cP->bb->List e6->Prop}{r:List cP}{st:bb}{dst:Option bK}{tr:List e6}{p:Prop}{x:bA}(h:bc P F r st dst tr (.need p x)):bc P F r st dst tr (.need p x):=h
def ajH(g:Nat)(f:Nat->Nat)(c:Nat)(d e:O):Prop:=e=d\/∃j k q sz b len m,j<c/\d=.aG k (f j) sz b len m/\e=.aG q (g+j) sz b len m
def aj3(g:Nat)(f:Nat->Nat)(c:Nat)(o p:aR):Prop:=p=o\/((p.n=o.n\/∃j,j<c/\p.n=g+j/\o.n=f j)/\0<o.sz/\p.sz=o.sz/\p.xs.length=o.xs.length/\
 ∀(i:Nat)(y:List O),p.xs[i]?=some y->∃x,o.xs[i]?=some x/\y.length=x.length/\∀(t:Nat)(e:O),y[t]?=some e->∃d,x[t]?=some d/\ajH g f c d e)
theorem T9{st:bb}{af:aV}(f:Nat->Nat)(c:Nat)(h:∀k p,aB af k=some p->∃o,aB st.H k=some o/\aj3 st.gen f c o p):fP st ⟨st.tm,af,st.gen+c⟩:=by
 intro Γ N K a w J;have m:=J.inv;have Z:=J.fresh;let u:aO:=⟨fun n=>K.bG n\/(st.gen<=n/\n<st.gen+c),fun n=>K.real n\/(st.gen<=n/\n<st.gen+c/\K.real (f (n-st.gen))),fun n=>if st.gen<=n/\n<st.gen+c then K.aD (f (n-st.gen))else K.aD n,K.M⟩
 have aa:∀n,K.bG n->u.aD n=K.aD n:=fun n b=>if_neg (by have:=Z n b;omega)
 have ay:∀n,K.bG n->u.real n->K.real n:=fun n b z=>by
  rcases z with z|⟨h1,h2,-⟩
  .exact z
  have:=Z n b;omega
 have ag:∀j,j<c->u.aD (st.gen+j)=K.aD (f j):=fun j O=>by
  have:u.aD (st.gen+j)=K.aD (f (st.gen+j-st.gen)):=if_pos G;rw[this,_c]
 have an:∀j,j<c->(u.real (st.gen+j)↔K.real (f j)):=fun j O=>by
  constructor
  .rintro(z|⟨-,-,z⟩)
   .have:=Z _ (m.db _ z);omega
   rwa[_c]at z
  intro z;exact .inr ⟨G,G,by rwa[_c]⟩
 have ah:dH K w u w:=⟨cN.refl _ _,fun n b=>⟨.inl b,aa n (m.db n b)⟩,fun g _ az=>az⟩;have X:∀k p,aB af k=some p->∃o,aB st.H k=some o/\(u.real p.n↔K.real o.n)/\u.aD p.n=K.aD o.n/\u.bG p.n:=fun k p Q=>by
  obtain⟨o,C,b⟩:=h k p Q;refine⟨o,C,?_⟩;have Y:=m.dz k o C;have ao:p.n=o.n->(u.real p.n↔K.real o.n)/\u.aD p.n=K.aD o.n/\u.bG p.n:=fun e=>by
   rw[e];exact⟨⟨ay _ Y,.inl⟩,aa _ Y,.inl Y⟩
  rcases b with rfl|⟨e|⟨j,O,aA,aC⟩,-⟩
  .exact ao rfl
  .exact ao e
  rw[aA,aC];exact⟨an j O,ag j O,.inr ⟨G,G⟩⟩
 refine⟨u,⟨⟨m.ext,⟨fun n b=>?_,fun n b aE=>?_,fun n b=>?_,m.base.M⟩,fun k p Q=>?_,fun k ap p aF h1 h2 aw aY e=>?_,fun n b=>?_,fun n b=>?_,fun k p Q=>?_,fun k p Q z=>?_,m.ga⟩,fun n b=>?_,_q J.g0 (Nat.le_add_right _ _),J.size,J.defers,fun s=>(J.tm s).mono ah⟩⟩
 .rcases b with b|b
  .exact m.base.bG n b
  exact .inr (_q J.g0 b.1)
 .rcases b with b|b
  .exact m.base.cn n b aE
  have:=J.g0;omega
 .have:=m.base.keep n b;exact⟨.inl this.1,(aa n (m.db n this.1)).trans this.2⟩
 .obtain⟨o,C,b⟩:=h k p Q;obtain⟨ab,ai,aj,aH,-⟩:=X k p Q;obtain rfl:ab=o:=Option.some.inj (ai.symm.trans C);have aq:=m.obj k ab C;rcases b with rfl|⟨-,a6,ac,ar,au⟩
  .exact aq.mono ah (fun q I=>q (aj.1 I)) (fun _=>rfl)
  rcases aq with⟨U,I⟩|⟨U,aI,t,ax,I,aJ,aK,aL,aM⟩|⟨-,q,-⟩
  .refine .inl ⟨fun q=>U (aj.1 q),List.length_eq_zero_iff.1 ?_⟩;rw[ar,I];rfl
  .refine .inr (.inl ⟨aj.2 U,aI,t,ax,by rw[ac];exact I,by rw[aH];exact aJ,by rw[ar,ac];exact aK,fun y ak=>?_,fun i y ae e ak aN=>?_⟩)
   .obtain⟨i,aP⟩:=_g.1 ak;obtain⟨x,al,hl,-⟩:=au i y aP;rw[hl,ac];exact aL x (List.mem_of_getElem? al)
   obtain⟨x,al,-,aQ⟩:=au i y ak;obtain⟨d,Y,aR⟩:=aQ ae e aN;obtain⟨v,aS,av⟩:=aM i x ae d al Y;refine⟨v,by rw[ac];exact aS,?_⟩;rcases aR with rfl|⟨j,a7,a8,sz,a9,len,ba,O,rfl,rfl⟩
   .exact av.mono ah
   cases av with
   |aG aT aU am=>
    refine .aG aT aU ?_;rcases am with am|⟨aW,aX,aZ,ae,a0,a1,a2⟩
    .exact .inl am
    exact .inr ⟨(an j O).2 aW,by rw[ag j O];exact aX,aZ,ae,a0,by rw[ag j O];exact a1,a2⟩
  omega
 .obtain⟨o,C,U,I,-⟩:=X k p h1;obtain⟨ab,ai,a3,a4,-⟩:=X ap aF h2;exact m.inj k ap o ab C ai (U.1 aw) (a3.1 aY) (I.symm.trans (e.trans a4))
 .rcases b with b|b
  .exact .inl (m.db n b)
  exact .inr ⟨b.1,b.2.1⟩
 .rcases b with b|⟨h1,h2,a5⟩
  .rw[aa n (m.db n b)];exact m.lt n b
  have:u.aD n=K.aD (f (n-st.gen)):=if_pos ⟨h1,h2⟩;rw[this];exact m.lt _ a5
 .obtain⟨o,C,-,-,q⟩:=X k p Q;exact q
 .obtain⟨o,C,U,I,-⟩:=X k p Q;rw[I];exact m.own k o C (U.1 z)
 rcases b with b|b
 .have:=Z n b;show n<st.gen+c;omega
 exact b.2
theorem EK{P:Program}{f:FuncId}{g j:List O}{m:aV}{c:Nat}{R:Nat->O->aV->Prop}(h:fi P f j m c R)(q:∀K w b,dS K w g b->dS K w j b):fi P f g m c R:=
 ⟨h.1,fun K w b g0 u v x=>h.2 K w b g0 u v (q _ _ _ x)⟩
theorem Z5{P:Program}{f:FuncId}{n sz i j c:Nat}{b:List O}{g:aV}{R:Nat->O->aV->Prop}(k:Nat)(h:fi P f (.ptr 0 n sz i j::b) g c R):fi P f (.ptr k n sz i j::b) g c R:=
 EK h (fun K w u m=>BM (fun v q=>re q) m)
end Go.Proofs.YtdiobdlinjgakaaGreatDoor
namespace Go.Proofs.YtdiobdlinjgakaaGreatDoor.R
attribute [local irreducible] bc Go
open Go.RowKit
theorem eu{P:Program}{f:FuncId}{fn:Func}{c:List O}{b:aV}{m:List PanicEntry}{j:aV}(aM:qA)(s:Nat)(q:P.funcs[f]?=some fn)
 (u:∀Γ:bw,(b=[]->∀g,¬Γ.W0 g)->(∀k o,aB b k=some o->o.n<Γ.g0)->(∀st:bb,im st.H j->jb Γ.g0 j->Γ.pq m st)->Go Γ P fn.ntmps (fun _=>False) (mh aM P fn s) [] ⟨hq c gP eH,b,Γ.g0⟩) (v:oA P f fn (mh aM P fn s) (mK P fn.results.toList)=true:=by kernel_rfl) (aA:Nat.ble c.length fn.ntmps=true:=by rfl):gS P f c b m j:=
 adZ q v u aA
def iI(e:Int):List PanicEntry:=[{v:=.iface 71 (.agg #[.int .i64 e]),recovered:=false}]
theorem ai1(e:Int)(c:¬e=0)(w:World):Calls prog 47 #[.int .i64 e] w fun r b=>r=.panicked (iI e)/\b=w:=by
 go_enter func47,Tryz.ntmps47
 go_wp2
 exact⟨rfl,rfl,rfl⟩
theorem CT(e:Int)(b:¬e=0):gS prog 47 [.v (.int .i64 e)] [] (iI e) []:=by
 refine⟨b4,fun K w c g0 f m g=>?_⟩;obtain⟨l,h⟩:=g;match c,l,h with
 |⟨[v]⟩,_,h=>
  have j:=cQ (h 0 _ v rfl rfl);subst j;refine(ai1 e b w).mono ?_;rintro r q ⟨rfl,rfl⟩;exact⟨rfl,f⟩
theorem o_:Spec prog 47 [.v (.int .i64 0)] (.aS []):=by
 refine az {} 0 func47 fun Γ an=>ar ?_
 exact o3
theorem l5:Spec prog 42 [.v (.bool true)] (.aS []):=by
 refine az {} 0 func42 fun Γ an=>ar ?_
 exact o3
theorem ep{p q:Prop}(h:q)(e:q->p:=by intro ay;(conv in mh _ _ _ _=>reduce);dsimp only[yf];exact ay):p:=e h
theorem eR{p q:Prop}(h:q)(e:q->p:=by intro ay;with_reducible dsimp only[Jb,Ur,RB,List.take_succ_cons,List.take_zero,run,undef,fI,IZ,Bp,zu,oJ,yO,uG,kI,yV,wq,vQ,B9,w2,Cs,vS,wN,wZ,kx,wS,zJ,wj,fX,jk,q2,uO,zr,xI,yY,wV,vT,xi,w5,hg,d_,fD,aB,cl,aW,jH,bQ.get,bQ.set,c9.get,c9.set,eH,iO,pY,xY,jI,l7,oL,fs,jY,fT,kJ,iX,cf,hv,uh,sr,tF,tb,dX,kD,lO,xw,cC,cp,eW,s8,Hd,uC,CK,AF,Dk,JI,K1,M3,I2,Mj,MQ,uT,qc,oE,ih,CI,xE,xL,vr,gY,iW,He,BD,A2,BP,ym,tz,AM,AD,xW,yI,Bh,wF,yl,x3,Ao,x0,xo,Bx,vM,BU,CS,AV,we,Cc,zq,zV,ow,BX,wH,xX,oY,wG,xB,qM,x7,xe,yD,B0,Ar,wy,AR,C6,x5,B_,w_,AO,BL,AZ,yK,z8,Ae,AN,xu,Aq,By,rk,sb,wQ,vK,xd,cond,KC,LU,hq,gP,List.length_cons,List.length_nil,Bool.true_or,Bool.false_or,Bool.or_true,Bool.or_false,IT,Lx,Nat.add_zero,Nat.zero_add,Nat.reduceAdd,Nat.reduceMul,Int.reduceToNat];exact ay):p:=e h
theorem mq:gS prog 42 [.v (.bool false)] [] (iI 10) []:=by
 refine eu {} 0 func42 fun Γ _ _ b=>ep ?_
 have c:=CT 10 ae;repeat' first|(with_reducible refine eN 0 _ rfl ?_);(refine eR ?_);(exact eT [] ae rfl rfl c (b _ trivial trivial))|refine af ?_|refine ag ?_|refine ab ?_ ?_<;>intro h<;>try exact aa
end Go.Proofs.YtdiobdlinjgakaaGreatDoor.R
namespace Go.Proofs.YtdiobdlinjgakaaGreatDoor.R
attribute [local irreducible] bc Go
open A (dG gj rG)
structure b6 where
 (ou lt st lf ra mo:Int) (rs:List bN) (el:Bool)
deriving DecidableEq
abbrev b6.enc(p:b6)(d:O):List O:=[.v (.int .u32 p.ou),.v (.int .i64 p.lt),.v (.int .i64 p.st),.v (.int .i64 p.lf),.v (.int .i64 p.ra),.v (.int .i64 p.mo),d,.v (.bool p.el)]
abbrev rP(p:b6)(c:Bool):O:=.agg (p.enc (.snap 10 (p.rs.map bN.enc) c))
def b6.wf(p:b6):Prop:=(0<=p.ou/\p.ou<4294967296)/\∀r∈p.rs,r.wf
def Cj(p:b6):Bool:=dG p.lt&&(dG p.st&&(decide (1<=p.lf/\p.lf<=1000000)&&(decide (0<=p.ra/\p.ra<=1000000)&&decide (1<=p.mo/\p.mo<=1000000000))))
def eD(p:b6):Int:=if Cj p=true then hF p.rs else 1
theorem DQ(b:Int):decide (gj b=0)=dG b:=by unfold gj;split<;>simp_all
theorem Gx(p:b6)(c:Bool)(f:p.wf)(hl:p.rs.length<=maxLen):Spec prog 15 [rP p c] (.v (.int .i64 (eD p))):=by
 have h1:=rG p.lt 0;have h2:=rG p.st 0;have g:=yw p.rs c hl f.2;have a_:=DQ p.lt;have a8:=DQ p.st;unfold eD Cj;generalize dG p.lt=ah at *;generalize dG p.st=ai at *;generalize gj p.lt=j at *;generalize gj p.st=m at *;generalize hF p.rs=q at *;refine az {} 0 func15 fun Γ an=>ar ?_
 repeat' first|refine af ?_|refine J h1 ?_|refine J h2 ?_|refine J g ?_|refine ag ?_|refine ab ?_ ?_<;>intro h<;>try exact aa|exact al|fail
 all_goals exact Rc
theorem ES(p:b6)(c:Bool)(f:p.wf)(hl:p.rs.length<=maxLen):Spec prog 24 [rP p c] (.v (.int .i64 (eD p))):=by
 have h1:=A.uN p.lt 0;have h2:=A.uN p.st 0;have g:=XK p.rs c hl f.2;have a_:=DQ p.lt;have a8:=DQ p.st;unfold eD Cj;generalize dG p.lt=ah at *;generalize dG p.st=ai at *;generalize gj p.lt=j at *;generalize gj p.st=m at *;generalize hF p.rs=q at *;refine az {} 0 func24 fun Γ an=>ar ?_
 repeat' first|refine af ?_|refine J h1 ?_|refine J h2 ?_|refine J g ?_|refine J (cA _ _ _) ?_|refine ag ?_|refine ab ?_ ?_<;>intro h<;>try exact aa|exact al|fail
 all_goals exact Rc
end Go.Proofs.YtdiobdlinjgakaaGreatDoor.R
namespace Go.Proofs.YtdiobdlinjgakaaGreatDoor.B
open Go.RowKit
def gV(r b h a:Int):Int:=if r<0\/1000000<r\/b<1\/1000000000<b then 1 else if h<0\/b<h\/a<0\/1099511627776<a then 4 else 0
theorem rq{r b h a:Int}(e:gV r b h a=0):0<=r/\r<=1000000/\1<=b/\b<=1000000000/\0<=h/\h<=b/\0<=a/\a<=1099511627776:=by
 unfold gV at e;split at e
 .omega
 split at e
 .omega
 omega
def gI(r b x a now:Int):Int:=min b (x+r*min (now-a) 1000000000)
theorem Ss{r t:Int}(h1:0<=r)(h2:r<=1000000)(b:0<=t)(c:t<=1000000000):0<=r*t/\r*t<=1000000000000000:=
 ⟨_p h1 b,by have:=Int.mul_le_mul h2 c b G;omega⟩
def j0(r b x a now n:Int):Int:=if gV r b x a≠0 then gV r b x a else if now<a\/1099511627776<now\/n<0\/1000000000<n then 1 else 0
def mB(r b x a now n:Int):Int:=if gI r b x a now<n then gI r b x a now else gI r b x a now-n
theorem Q6{r b x a now:Int}(h:gV r b x a=0)(h1:a<=now):0<=gI r b x a now/\gI r b x a now<=b:=by
 have c:=rq h;have f:=Ss (r:=r) (t:=min (now-a) 1000000000) c.1 c.2.1 G G;unfold gI;omega
theorem akf{r t v:Int}(b:0<r)(h:(v+r-1)/r<=t):v<=r*t:=by
 have h1:=_h (v+r-1) r;have h2:=_n (v+r-1) (G:r≠0);have c:=Int.emod_lt_of_pos (v+r-1) b;have f:=_e h (G:0<=r);omega
theorem aea{r t v:Int}(c:0<r)(h:¬(v+r-1)/r<=t):r*t<v:=by
 have h1:=_h (v+r-1) r;have h2:=_n (v+r-1) (G:r≠0);have b:=_e (show t+1<=(v+r-1)/r from G) (G:0<=r);rw[Int.mul_add]at b;omega
theorem aev{r b x a now:Int}(h:gV r b x a=0)(h1:a<=now)(f:0<r)(g:(b-x+r-1)/r<=now-a):gI r b x a now=b:=by
 have j:=rq h;have h2:=akf f g;have m:b-x<=r*1000000000:=by
  have:=_d (show 1<=r from G) (show(0:Int)<=1000000000 from G);omega
 unfold gI;rcases Int.le_total (now-a) 1000000000 with c|c
 .rw[_m c];omega
 rw[Int.min_eq_right c];omega
theorem XB{r b x a now:Int}(h:gV r b x a=0)(h1:a<=now)(f:¬(0<r/\(b-x+r-1)/r<=now-a)):gI r b x a now=x+r*(now-a)/\0<=r*(now-a)/\r*(now-a)<=1000000000:=by
 have g:=rq h;by_cases c:0<r
 .have h2:=aea (v:=b-x) (t:=now-a) c (fun h=>f ⟨c,h⟩);have j:now-a<=r*(now-a):=by
   have:=_d (show 1<=r from G) (show(0:Int)<=now-a from G);omega
  have m:=_p g.1 (show(0:Int)<=now-a from G);unfold gI;rw[_m (show now-a<=1000000000 from G)];omega
 obtain rfl:r=0:=G;unfold gI;simp only[Int.zero_mul];omega
end Go.Proofs.YtdiobdlinjgakaaGreatDoor.B
namespace Go.Proofs.YtdiobdlinjgakaaGreatDoor.B
attribute [local irreducible] bc Go
theorem FE{a b c d e f:O}(h1:a=d)(h2:b=e)(g:c=f):O.aS [a,b,c]=O.aS [d,e,f]:=by rw[h1,h2,g]
abbrev hX(r b x a:Int):O:=.agg [.v (.int .i64 r),.v (.int .i64 b),.v (.int .i64 x),.v (.int .i64 a)]
theorem Sx(r b x a:Int):Spec prog 215 [hX r b x a] (.v (.int .i64 (gV r b x a))):=by
 refine az {} 0 func215 fun Γ an=>ar ?_
 repeat' first|refine af ?_|refine ag ?_|refine ab ?_ ?_<;>intro h<;>try exact aa|fail
 all_goals exact Ua
theorem cA(n b c:Int):Spec prog 60 [.v (.int .i64 n),.v (.int .i64 b),.v (.int .i64 c)] (.v (.bool (decide (b<=n/\n<=c)))):=by exact CV
theorem YT(r c x a:Int):Spec prog 126 [hX r c x a] (.v (.int .i64 (gV r c x a))):=by
 refine az {} 0 func126 fun Γ an=>ar ?_
 repeat' first|refine af ?_|refine J (cA _ _ _) ?_|refine ag ?_|refine ab ?_ ?_<;>intro h<;>try exact aa|fail
 all_goals exact Ua
theorem afN(r b x a now:Int)(f:gV r b x a=0)(h1:a<=now)(h2:now<=1099511627776):Spec prog 270 [hX r b x a,.v (.int .i64 now)] (.v (.int .i64 (gI r b x a now))):=by
 have c:=rq f;have g:=Ss (r:=r) (t:=min (now-a) 1000000000) c.1 c.2.1 G G;refine az {} 0 func270 fun Γ an=>ar ?_
 repeat' first|refine af ?_|refine ag ?_|refine ab ?_ ?_<;>intro h<;>try exact aa|fail
 all_goals(refine cI ?_;first|exact cc|try simp only[cE]at *)
 refine eG ?_;rw[_a (now-a) G,_a (r*min (now-a) 1000000000) G,_a (x+r*min (now-a) 1000000000) G];rfl
theorem ain(r b x a now:Int)(c:gV r b x a=0)(h1:a<=now)(h2:now<=1099511627776):Spec prog 235 [hX r b x a,.v (.int .i64 now)] (.v (.int .i64 (gI r b x a now))):=by
 have C:=rq c;refine az {} 0 func235 fun Γ an=>ar ?_
 repeat' first|refine af ?_|refine ag ?_|refine ab ?_ ?_<;>intro h<;>try exact aa|fail
 all_goals(refine cI ?_;first|exact cc|try simp only[cE]at *)
 .rename_i g;have f:(b-x+r-1).tdiv r=(b-x+r-1)/r:=_f G;have j:0<=(b-x+r-1)/r:=_o G G;have m:(b-x+r-1)/r<=b-x+r-1:=_l _ G;rw[_a (b-x) G,_a (b-x+r) G,_a (b-x+r-1) G,f,_a ((b-x+r-1)/r) G,_a (now-a) G]at h;exact eG (aev c h1 g h).symm
 .rename_i g;have f:(b-x+r-1).tdiv r=(b-x+r-1)/r:=_f G;have j:0<=(b-x+r-1)/r:=_o G G;have m:(b-x+r-1)/r<=b-x+r-1:=_l _ G;rw[_a (b-x) G,_a (b-x+r) G,_a (b-x+r-1) G,f,_a ((b-x+r-1)/r) G,_a (now-a) G]at h;obtain⟨a_,u,z⟩:=XB c h1 (fun q=>h q.2);exact U7
 obtain⟨a_,u,z⟩:=XB c h1 (fun q=>h q.1);exact U7
def pT(r b x a now n:Int):O:=if j0 r b x a now n=0 then hX r b (mB r b x a now n) now else hX 0 0 0 0
theorem adh(r aq x a now n:Int):Spec prog 256 [hX r aq x a,.v (.int .i64 now),.v (.int .i64 n)] (.aS [pT r aq x a now n,.v (.bool (decide (j0 r aq x a now n=0)&&decide (n<=gI r aq x a now))),.v (.int .i64 (j0 r aq x a now n))]):=by
 refine az {} 0 func256 fun Γ an=>ar ?_
 repeat' first|refine af ?_|refine J (Sx r aq x a) ?_|with_reducible refine fS (afN r aq x a now (by(simp only[gu,reduceCtorEq]at *<;>omega)) (by(simp only[gu,reduceCtorEq]at *<;>omega)) (by(simp only[gu,reduceCtorEq]at *<;>omega))) ?_|refine ag ?_|refine ab ?_ ?_<;>intro h<;>try exact aa|fail
 all_goals exact Xs
theorem agl(r aq x a now n:Int):Spec prog 177 [hX r aq x a,.v (.int .i64 now),.v (.int .i64 n)] (.aS [pT r aq x a now n,.v (.bool (decide (j0 r aq x a now n=0)&&decide (n<=gI r aq x a now))),.v (.int .i64 (j0 r aq x a now n))]):=by
 refine az {} 0 func177 fun Γ an=>ar ?_
 repeat' first|refine af ?_|refine J (YT r aq x a) ?_|refine J (cA _ _ _) ?_|with_reducible refine fS (ain r aq x a now (by(simp only[gu,reduceCtorEq]at *<;>omega)) (by(simp only[gu,reduceCtorEq]at *<;>omega)) (by(simp only[gu,reduceCtorEq]at *<;>omega))) ?_|refine ag ?_|refine ab ?_ ?_<;>intro h<;>try exact aa|fail
 all_goals exact Xs
end Go.Proofs.YtdiobdlinjgakaaGreatDoor.B
namespace Go.Proofs.YtdiobdlinjgakaaGreatDoor
structure aZ where
 (ad ra mo aj tm:Int)
deriving DecidableEq
abbrev aZ.enc(b:aZ):List O:=[.v (.int .u32 b.ad),.v (.int .i64 b.ra),.v (.int .i64 b.mo),.v (.int .i64 b.aj),.v (.int .i64 b.tm)]
structure iD where
 (l ah:Int) (t1:Nat) (ai:Int) (t2:Nat) (ms:List A.Mp)
abbrev iD.enc(n:iD):List O:=A.ru n.l n.ah n.t1 n.ai n.t2 n.ms
structure bj where
 (p:R.b6) (ms:List aZ) (tr:List T.aE) (n:iD)
abbrev bj.row(h:bj)(d:O):List O:=[.v (.int .u32 h.p.ou),.v (.int .i64 h.p.lt),.v (.int .i64 h.p.st),.v (.int .i64 h.p.lf),.v (.int .i64 h.p.ra),.v (.int .i64 h.p.mo),.snap 10 (h.p.rs.map R.bN.enc) false,.v (.bool h.p.el),d,.snap 7 (h.tr.map T.aE.enc) false,
 .v (.int .i64 h.n.l),.v (.int .i64 h.n.ah),.v (.int .u64 (h.n.t1:Int)),.v (.int .i64 h.n.ai),.v (.int .u64 (h.n.t2:Int)),.snap 5 (h.n.ms.map A.Mp.enc) false]
abbrev om(l:List aZ):O:=.snap 5 (l.map aZ.enc) false
abbrev fZ(h:bj):O:=.agg (h.row (om h.ms))
structure iD.wf (n:iD):Prop where
 t1:n.t1<18446744073709551616
 t2:n.t2<18446744073709551616
 ms:n.ms.length*40<=140737488351232
 ad:∀m∈n.ms,0<=m.ad/\m.ad<4294967296
theorem iD.wf.ey{n:iD}(h:n.wf):cx n.ms.length 40:=by
 have:=h.ms;unfold cx maxLen;omega
structure bj.wf (h:bj):Prop where
 p:h.p.wf
 rs:cx h.p.rs.length 80
 ms:cx h.ms.length 40
 tr:cx h.tr.length 48
 n:h.n.wf
def qF:bj:=⟨⟨0,0,0,0,0,0,[],false⟩,[],[],⟨0,0,0,0,0,[]⟩⟩
def iH(p:R.b6):bj:=if R.eD p=0 then⟨p,[],[],⟨p.lf,p.lt,0,p.st,0,[]⟩⟩else qF
def hx(ra mo:Int)(c:List aZ)(b:aZ):Bool:=decide (B.gV b.ra b.mo b.aj b.tm=0)&&(decide (b.ra=ra)&&(decide (b.mo=mo)&&c.all fun y=>!(decide (b.tm<y.tm)) && !(decide (y.ad=b.ad))))
def pB(n:iD):Int:=A.dQ n.l n.ah n.t1 n.ai n.t2 n.ms
def oS(h:bj):Bool:=decide (h.ms.length<=64)&&(decide (h.n.l=h.p.lf)&&(decide (h.n.ah=h.p.lt)&&decide (h.n.ai=h.p.st)))
def iA(h:bj):Int:=if R.eD h.p≠0 then R.eD h.p else if T.et h.tr≠0 then T.et h.tr else if pB h.n≠0 then pB h.n else if oS h&&eb (hx h.p.ra h.p.mo) [] h.ms then 0 else 4
def ix(l:List aZ):Int:=match l[l.length-1]? with|some b=>b.tm|none=>0
def h4(h:bj):Int:=max (max (ix h.ms) (T.fV h.tr)) (A.dh h.n.ms)
theorem acA{ra mo:Int}{l:List aZ}{k:Nat}{t:aZ}(bT:l[k]?=some t)(aj:∀y∈l.take k,∀b,l[k-1]?=some b->y.tm<=b.tm):
 hx ra mo (l.take k) t=true↔B.gV t.ra t.mo t.aj t.tm=0/\t.ra=ra/\t.mo=mo/\(∀b,0<k->l[k-1]?=some b->b.tm<=t.tm)/\bU (fun y:aZ=>decide (y.ad=t.ad)) l 0=k:=by
 have bq:k<l.length:=(List.getElem?_eq_some_iff.1 bT).1;have g:=Er (fun y:aZ=>decide (y.ad=t.ad)) t aF (l.drop (k+1)) (l.take k) 0;have hl:l.take k++t::l.drop (k+1)=l:=WY;rw[hl,List.length_take,Nat.min_eq_left (Nat.le_of_lt bq),Nat.zero_add]at g;rw[g];unfold hx;simp only[_k,_j,_i,decide_eq_false_iff_not,decide_eq_true_eq];constructor
 .rintro⟨h1,h2,f,c⟩;refine⟨h1,h2,f,fun b j b3=>?_,fun y bB=>(c y bB).2⟩;have m:b∈l.take k:=_g.2 ⟨k-1,Qu⟩;have:=(c b m).1;omega
 rintro⟨h1,h2,f,c,q⟩;refine⟨h1,h2,f,fun y bB=>⟨?_,q y bB⟩⟩;have j:0<k:=by exact Wt
 obtain⟨b,b3⟩:∃b,l[k-1]?=some b:=⟨_,_b G⟩;have:=aj y bB b b3;have:=c b j b3;omega
theorem ag1{ra mo:Int}{l:List aZ}{k:Nat}{t:aZ}(g:l[k]?=some t)(c:hx ra mo (l.take k) t=true):∀y∈l.take (k+1),∀f,l[k+1-1]?=some f->y.tm<=f.tm:=by
 intro y b f j;rw[Nat.add_sub_cancel,g]at j;obtain rfl:=Option.some.inj j;rw[List.take_add_one,g]at b;rcases List.mem_append.1 b with b|b
 .unfold hx at c;simp only[_k,_j,_i,decide_eq_false_iff_not]at c;have:=(c.2.2.2 y b).1;omega
 simp at b;rw[b];exact Bt
theorem vs{l:List aZ}{k:Nat}{t:aZ}(b:l[k]?=some t):cf (l.map aZ.enc) k=t.enc:=h7 aZ.enc l k t b
attribute [local irreducible] bc Go
theorem ahA(b:aZ)(ad:Int):Spec prog 253 [.agg b.enc,.bY [.v (.int .u32 ad)]] (.v (.bool (decide (b.ad=ad)))):=by
 refine az {} 0 func253 fun Γ an=>ar ?_
 exact o3
theorem aiZ{g:FuncId}{caps:List O}(p:aZ->Bool)(l:List aZ)(c:Bool)(hl:l.length<=maxLen)(b8:∀t∈l,Spec prog g (.agg (aZ.enc t)::caps) (.v (.bool (p t)))):Spec prog 252 [.snap 5 (l.map aZ.enc) c,.fn (.func g) [] caps] (.v (.int .i64 (bU p l 0))):=by
 unfold maxLen at hl;refine az {} 0 func252 fun Γ an=>ar ?_
 repeat' first|refine af ?_|refine ag ?_|refine ab ?_ ?_<;>intro h<;>try exact aa|fail
 refine bS (α:=Nat) (fun k=>[(⟨.d0,.d1,.d0⟩,.v (.int .i64 (k:Nat)))]) (fun _=>[]) (fun _=>Γ.g0) (fun k=>l.length-k) (fun k=>k<=l.length/\bU p l 0=bU p (l.drop k) k) 0 ⟨Nat.zero_le _,rfl⟩ ?_ ?_
 .exact bs
 rintro k ⟨f,a6⟩;refine bz ?_;by_cases aN:k<l.length
 .obtain⟨t,bT⟩:∃t,l[k]?=some t:=⟨_,_b aN⟩;have dU:=h7 aZ.enc l k t bT;exact xD
 exact vq
theorem Eu(h:bj)(ad:Int)(hl:h.ms.length<=maxLen):Spec prog 216 [fZ h,.v (.int .u32 ad)] (.v (.int .i64 (bU (fun c:aZ=>decide (c.ad=ad)) h.ms 0))):=by
 have f:=aiZ (g:=253) (caps:=[.bY [.v (.int .u32 ad)]]) (fun c:aZ=>decide (c.ad=ad)) h.ms false hl (fun c _=>ahA c ad);refine az {} 0 func216 fun Γ an=>ar ?_
 repeat' first|(with_reducible refine gJ ?_);(refine dv (hn an ⟨.d0,.d0,.d3⟩ rfl rfl ⟨rfl,rfl,Nat.succ_pos _⟩) ?_)|refine af ?_|refine J f ?_|refine ag ?_|refine ab ?_ ?_<;>intro h<;>try exact aa|fail
 all_goals exact bM
end Go.Proofs.YtdiobdlinjgakaaGreatDoor
