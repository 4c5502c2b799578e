import Derived.Test.YtdiobdlinjgakaaGreatDoorDh15
set_option linter.unusedVariables false
set_option linter.unusedSimpArgs false
set_option maxHeartbeats 8000000
set_option maxRecDepth 100000
open Go.Proofs.Tryz
open List renaming getElem?_eq_getElem->_a,getElem?_eq_none_iff->_d,length_map->_e,map->_g,getElem?_eq_some_iff->_h
open Option.some renaming inj->_b
open Nat renaming eq_zero_or_pos->_c,zero_le->_i
open Go.IntKind renaming i64->_f
namespace Go.Proofs.YtdiobdlinjgakaaGreatDoor
attribute [local irreducible] bc Go
def o1(a b c d:Int):Int:=if a≠0 then a else if b≠0 then b else if c≠0 then c else d
theorem W8{a b c d:Int}(h:¬a=0):o1 a b c d=a:=by unfold o1;rw[if_pos h]
theorem XF{a b c d:Int}(h1:a=0)(h:¬b=0):o1 a b c d=b:=by unfold o1;rw[if_neg (not_not_intro h1),if_pos h]
theorem PQ{a b c d:Int}(h1:a=0)(h2:b=0)(h:¬c=0):o1 a b c d=c:=by unfold o1;rw[if_neg (not_not_intro h1),if_neg (not_not_intro h2),if_pos h]
theorem Q1{a b c d:Int}(h1:a=0)(h2:b=0)(f:c=0):o1 a b c d=d:=by unfold o1;rw[if_neg (not_not_intro h1),if_neg (not_not_intro h2),if_neg (not_not_intro f)]
def tT(h:bj):Int:=if oS h&&eb (hx h.p.ra h.p.mo) [] h.ms then 0 else 4
theorem MM(h:bj):iA h=o1 (R.eD h.p) (T.et h.tr) (pB h.n) (tT h):=rfl
def vb:Nat->Int
 |0=>0
 |1=>1
 |2=>2
 |_=>3
theorem ahM:vb 0=0:=rfl
theorem aa9:vb 1=1:=rfl
theorem alp:vb 2=2:=rfl
theorem abg:vb 3=3:=rfl
theorem aek(i:Nat)(h:i<3):_f.wrap (vb i+1)=vb (i+1):=by
 have:i=0\/i=1\/i=2:=G;rcases this with rfl|rfl|rfl<;>decide
theorem RW{h:bj}(b:oS h=false\/eb (hx h.p.ra h.p.mo) [] h.ms=false):tT h=4:=by
 unfold tT;rcases b with b|b<;>rw[b]
 .rfl
 rw[Bool.and_false];rfl
theorem aeY{h:bj}(b:oS h=true)(c:eb (hx h.p.ra h.p.mo) [] h.ms=true):tT h=0:=by
 unfold tT;rw[b,c];rfl
theorem aew(c:bj)(m:c.wf):Spec prog 160 [fZ c] (.v (.int .i64 (iA c))):=by
 rw[MM];have z:=R.Gx c.p false m.p m.rs.1;have C:=T.o8 c.tr;have I:Spec prog 214 [.agg c.n.enc] (.v (.int .i64 (pB c.n))):=A.su c.n.l c.n.ah c.n.t1 c.n.ai c.n.t2 c.n.ms m.n.ey.1 m.n.t1 m.n.t2;have hl:=m.ms.1;have aE:=fun ad=>Eu c ad hl
 unfold maxLen at hl;generalize R.eD c.p=aF at *;generalize T.et c.tr=aG at *;generalize pB c.n=aH at *;refine az {} 0 func160 fun Γ an=>ar ?_
 repeat' first|refine af ?_|refine J z ?_|refine J C ?_|refine J I ?_|refine ag ?_|refine ab ?_ ?_<;>intro h<;>try exact aa|fail
 refine bS (α:=Nat×Nat) (fun x=>[(⟨.d0,.d2,.d5⟩,.v (.int .i64 (vb x.1)))]) (fun _=>[]) (fun x=>x.2) (fun x=>3-x.1) (fun x=>x.1<=3/\(1<=x.1->aF=0)/\(2<=x.1->aG=0)/\(3<=x.1->aH=0)) (0,Γ.g0+1) ⟨_i _,G⟩ ?_ ?_
 .exact bs
 rintro⟨i,Q⟩ ⟨aI,M,U,Z⟩;dsimp only at aI M U Z⊢;refine bz ?_;have aJ:i=0\/i=1\/i=2\/i=3:=G;rcases aJ with rfl|rfl|rfl|rfl;all_goals simp only[ahM,aa9,alp,abg]
 .repeat' first|refine af ?_|refine J z ?_|refine J C ?_|refine J I ?_|refine ag ?_|refine ab ?_ ?_<;>intro h<;>try exact aa|exact al|fail
  all_goals try (exfalso;omega)
  .all_goals(refine cI ?_;first|exact cc|try simp only[cE]at *)
   exact eG (W8 G).symm
  refine br ⟨(1,Q),⟨kO,LX⟩,kO,?_⟩;exact MC
 .repeat' first|refine af ?_|refine J z ?_|refine J C ?_|refine J I ?_|refine ag ?_|refine ab ?_ ?_<;>intro h<;>try exact aa|exact al|fail
  all_goals try (exfalso;omega)
  .all_goals(refine cI ?_;first|exact cc|try simp only[cE]at *)
   exact eG (XF (M G) G).symm
  refine br ⟨(2,Q),⟨kO,LX⟩,kO,?_⟩;exact MC
 .repeat' first|refine af ?_|refine J z ?_|refine J C ?_|refine J I ?_|refine ag ?_|refine ab ?_ ?_<;>intro h<;>try exact aa|exact al|fail
  all_goals try (exfalso;omega)
  .all_goals(refine cI ?_;first|exact cc|try simp only[cE]at *)
   exact eG (PQ (M G) (U G) G).symm
  refine br ⟨(3,Q),⟨kO,LX⟩,kO,?_⟩;exact MC
 rw[Q1 (M G) (U G) (Z G)];clear z C I M U Z;have ac:oS c=true↔c.ms.length<=64/\c.n.l=c.p.lf/\c.n.ah=c.p.lt/\c.n.ai=c.p.st:=Xw;by_cases X:c.ms.length<=64/\c.n.l=c.p.lf/\c.n.ah=c.p.lt/\c.n.ai=c.p.st;rotate_left
 .rw[RW (.inl (by cases ay:oS c with|false=>rfl|true=>exact absurd (ac.1 ay) X))];repeat' first|refine af ?_|refine ag ?_|refine ab ?_ ?_<;>intro h<;>try exact aa|exact al|fail
  all_goals try exfalso;simp only[gu,_e]at *;exact X ⟨G,uV,uV,uV⟩
  all_goals exact bM
 have aL:=ac.2 X;clear ac;obtain⟨f1,f2,f3,f4⟩:=X;repeat' first|refine af ?_|refine ag ?_|refine ab ?_ ?_<;>intro h<;>try exact aa|simp only[f2,f3,f4]|exact al|fail
 all_goals try (exfalso;simp only[gu]at *;omega)
 refine bS (α:=Nat×Int×Nat) (fun x=>[(⟨.d0,.d7,.d6⟩,.v (.int .i64 (x.1:Nat))),(⟨.d0,.d0,.d7⟩,.v (.int .i64 x.2.1))]) (fun _=>[(3,none),(4,none)]) (fun x=>x.2.2) (fun x=>c.ms.length-x.1) (fun x=>x.1<=c.ms.length/\eb (hx c.p.ra c.p.mo) [] c.ms=eb (hx c.p.ra c.p.mo) (c.ms.take x.1) (c.ms.drop x.1)/\(∀y∈c.ms.take x.1,∀f,c.ms[x.1-1]?=some f->y.tm<=f.tm)/\(x.1=0->x.2.1=0)/\∀f,0<x.1->c.ms[x.1-1]?=some f->f.tm=x.2.1) (0,0,Q+2) ⟨_i _,rfl,fun y bB=>r6,fun _=>rfl,fun f j=>absurd j (Nat.lt_irrefl 0)⟩ ?_ ?_
 .exact bs
 rintro⟨k,a,aM⟩ ⟨aN,O,aj,aw,ak⟩;dsimp only at aN O aj aw ak⊢;refine bz ?_;by_cases am:k<c.ms.length
 .obtain⟨t,u⟩:∃t,c.ms[k]?=some t:=⟨_,_a am⟩;have aO:=vs u;have ax:=acA (ra:=c.p.ra) (mo:=c.p.mo) u aj;have aP:=B.Sx t.ra t.mo t.aj t.tm;have aQ:=aE t.ad;have aA:B.gV t.ra t.mo t.aj t.tm=0->_:=fun q=>B.rq q
  have aC:hx c.p.ra c.p.mo (c.ms.take k) t=true↔B.gV t.ra t.mo t.aj t.tm=0/\t.ra=c.p.ra/\t.mo=c.p.mo/\a<=t.tm/\bU (fun ao:aZ=>decide (ao.ad=t.ad)) c.ms 0=k:=by
   rw[ax];refine⟨fun⟨Y,ap,aq,au,av⟩=>⟨Y,ap,aq,?_,av⟩,fun⟨Y,ap,aq,au,av⟩=>⟨Y,ap,aq,fun f j g=>by rw[ak f j g];exact au,av⟩⟩;rcases _c k with j|j
   .have:=aA Y;have:=aw j;omega
   obtain⟨f,g⟩:∃f,c.ms[k-1]?=some f:=⟨_,_a G⟩;have:=au f j g;have:=ak f j g;omega
  clear aA ax;generalize B.gV t.ra t.mo t.aj t.tm=aS at *;generalize bU (fun ao:aZ=>decide (ao.ad=t.ad)) c.ms 0=aT at *;repeat' first|refine af ?_|refine J aP ?_|refine J aQ ?_|refine ag ?_|refine ab ?_ ?_<;>intro h<;>try exact aa|simp only[Int.toNat_natCast,aO]|exact al|fail
  rotate_right
  .have aD:=aC.2 (by simp only[gu]at *;omega);refine br ⟨(k+1,t.tm,aM+2),⟨am,QX u O aD,ag1 u aD,fun q=>(Nat.succ_ne_zero k q).elim,fun f _ g=>by have g:c.ms[k+1-1]?=some f:=g;rw[Nat.add_sub_cancel,u]at g;exact congrArg aZ.tm (_b g).symm⟩,Nat.sub_lt_sub_left am (Nat.lt_succ_self k),?_⟩;exact uX
  all_goals
   have aR:hx c.p.ra c.p.mo (c.ms.take k) t=false:=by
    cases ay:hx c.p.ra c.p.mo (c.ms.take k) t with
    |false=>rfl
    |true=>exfalso;have:=aC.1 ay;simp only[gu]at *;omega
   rw[RW (.inr (JJ u O aR))]
  all_goals exact bM
 obtain rfl:k=c.ms.length:=G;rw[List.drop_length]at O;rw[aeY aL O];exact o3
theorem akI(f:bj)(g:f.wf)(ae:0<=ix f.ms):Spec prog 161 [fZ f] (.v (.int .i64 (h4 f))):=by
 have z:=g.ms.1;have C:=g.tr.1;have I:=g.n.ey.1;unfold maxLen at z C I;unfold h4;have bl:∀n:Nat,0<n->n<=9223372036854775807->_f.wrap ((n:Int)-1)=((n-1:Nat):Int):=fun n h1 h2=>(IntWalk.i64_in _ G).trans G
 obtain⟨a,J,ah⟩:∃t:aZ,(0<f.ms.length->cf (f.ms.map aZ.enc) (f.ms.length-1)=t.enc/\ix f.ms=t.tm)/\(f.ms.length=0->ix f.ms=0):=by
  cases ay:f.ms[f.ms.length-1]? with
  |some t=>exact⟨t,fun _=>⟨vs ay,by unfold ix;rw[ay]⟩,fun q=>Hb⟩
  |none=>exact⟨⟨0,0,0,0,0⟩,fun q=>absurd (_d.1 ay) G,fun _=>by unfold ix;rw[ay]⟩
 obtain⟨b,M,ai⟩:∃t:T.aE,(0<f.tr.length->cf (f.tr.map T.aE.enc) (f.tr.length-1)=t.enc/\T.fV f.tr=t.x)/\(f.tr.length=0->T.fV f.tr=0):=by
  cases ay:f.tr[f.tr.length-1]? with
  |some t=>exact⟨t,fun q=>⟨T.oj ay,T.tZ _ _ _ ay G⟩,fun q=>Hb⟩
  |none=>exact⟨⟨0,0,0,0,0,0,0⟩,fun q=>absurd (_d.1 ay) G,fun q=>Hb⟩
 obtain⟨c,O,aj⟩:∃t:A.Mp,(0<f.n.ms.length->cf (f.n.ms.map A.Mp.enc) (f.n.ms.length-1)=t.enc/\A.dh f.n.ms=t.tm)/\(f.n.ms.length=0->A.dh f.n.ms=0):=by
  cases ay:f.n.ms[f.n.ms.length-1]? with
  |some t=>exact⟨t,fun _=>⟨A.kW ay,by unfold A.dh;rw[ay]⟩,fun q=>Hb⟩
  |none=>exact⟨⟨0,0,0,0,0⟩,fun q=>absurd (_d.1 ay) G,fun _=>by unfold A.dh;rw[ay]⟩
 generalize ix f.ms=ak at *;generalize T.fV f.tr=am at *;generalize A.dh f.n.ms=ao at *;have Q:(0<f.ms.length/\_f.wrap ((f.ms.length:Int)-1)=((f.ms.length-1:Nat):Int)/\cf (f.ms.map aZ.enc) (f.ms.length-1)=a.enc)\/f.ms.length=0/\True/\True:=by
  rcases _c f.ms.length with q|q
  .exact JC
  exact .inl ⟨q,bl _ q G,(J q).1⟩
 have U:(0<f.tr.length/\_f.wrap ((f.tr.length:Int)-1)=((f.tr.length-1:Nat):Int)/\cf (f.tr.map T.aE.enc) (f.tr.length-1)=b.enc)\/f.tr.length=0/\True/\True:=by
  rcases _c f.tr.length with q|q
  .exact JC
  exact .inl ⟨q,bl _ q G,(M q).1⟩
 have X:(0<f.n.ms.length/\_f.wrap ((f.n.ms.length:Int)-1)=((f.n.ms.length-1:Nat):Int)/\cf (f.n.ms.map A.Mp.enc) (f.n.ms.length-1)=c.enc)\/f.n.ms.length=0/\True/\True:=by
  rcases _c f.n.ms.length with q|q
  .exact JC
  exact .inl ⟨q,bl _ q G,(O q).1⟩
 clear bl;rcases Q with⟨Y,j,tq⟩|⟨Y,j,tq⟩<;>rcases U with⟨Z,m,ph⟩|⟨Z,m,ph⟩<;>rcases X with⟨ac,u,y3⟩|⟨ac,u,y3⟩
 all_goals
  refine az {} 0 func161 fun Γ an=>ar ?_
  repeat' first|refine af ?_|refine ag ?_|refine ab ?_ ?_<;>intro h<;>try exact aa|simp only[_e,Int.toNat_natCast,j,m,u,tq,ph,y3]|exact al|fail
  all_goals try (exfalso;simp only[_e,gu]at *;omega)
  all_goals(refine cI ?_;first|exact cc|try simp only[cE]at *)
  refine eG ?_;omega
theorem Ra(l:List R.bN)(c:Bool)(hl:cx l.length 80):Spec prog 16 [.snap 10 (l.map R.bN.enc) c] (.snap 10 (l.map R.bN.enc) false):=by
 have b:∀r:List R.bN,eW (r.map R.bN.enc)=true:=j2 (fun x=>rfl);have kZ:∀g,c1 g (l.map R.bN.enc):=fun g=>eS (fun x=>fY)
 cases l with
 |nil=>
  refine az {} 0 func16 fun Γ an=>ar ?_
  dsimp only[_g];repeat' first|refine af ?_|with_reducible refine hZ ?_|refine ag ?_|refine ab ?_ ?_<;>intro h<;>try exact aa|fail
  .refine ev (j1 (gU ⟨.d0,.d0,.d2⟩ 1 10 rfl rfl)) (ev (fG an ⟨.d0,.d0,.d2⟩ rfl rfl ⟨rfl,rfl,hT⟩) ?_);exact Io
  exact JR
 |cons x r=>
  refine az {} 0 func16 fun Γ an=>ar ?_
  dsimp only[_g];repeat' first|refine af ?_|with_reducible refine hZ ?_|refine ag ?_|refine ab ?_ ?_<;>intro h<;>try exact aa|refine aK ⟨Or.inl G,rfl,b _,yz⟩ ?_
  refine ev (fG an ⟨.d0,.d0,.d2⟩ rfl rfl ⟨rfl,rfl,aF⟩) ?_;rw[show cp (cC ([]++R.bN.enc x::r.map R.bN.enc) 0) (0+((r.map R.bN.enc).length+1))=(x::r).map R.bN.enc from e1 aF];exact Na
theorem ala(l:List T.aE)(c:Bool)(hl:cx l.length 48):Spec prog 211 [.snap 7 (l.map T.aE.enc) c] (.snap 7 (l.map T.aE.enc) false):=by
 have b:∀r:List T.aE,eW (r.map T.aE.enc)=true:=j2 (fun x=>rfl);have kZ:∀g,c1 g (l.map T.aE.enc):=fun g=>eS (fun x=>fY)
 cases l with
 |nil=>
  refine az {} 0 func211 fun Γ an=>ar ?_
  dsimp only[_g];repeat' first|refine af ?_|with_reducible refine hZ ?_|refine ag ?_|refine ab ?_ ?_<;>intro h<;>try exact aa|fail
  .refine ev (j1 (gU ⟨.d0,.d0,.d2⟩ 1 7 rfl rfl)) (ev (fG an ⟨.d0,.d0,.d2⟩ rfl rfl ⟨rfl,rfl,hT⟩) ?_);exact Io
  exact JR
 |cons x r=>
  refine az {} 0 func211 fun Γ an=>ar ?_
  dsimp only[_g];repeat' first|refine af ?_|with_reducible refine hZ ?_|refine ag ?_|refine ab ?_ ?_<;>intro h<;>try exact aa|refine aK ⟨Or.inl G,rfl,b _,yz⟩ ?_
  refine ev (fG an ⟨.d0,.d0,.d2⟩ rfl rfl ⟨rfl,rfl,aF⟩) ?_;rw[show cp (cC ([]++T.aE.enc x::r.map T.aE.enc) 0) (0+((r.map T.aE.enc).length+1))=(x::r).map T.aE.enc from e1 aF];exact Na
theorem adC(l:List aZ)(c:Bool)(hl:cx l.length 40):ml prog 210 [.snap 5 (l.map aZ.enc) c] [] (fun n d H=>d=.aG 1 n 5 0 l.length false/\H=[some ⟨n,5,l.map aZ.enc⟩]):=by
 have b:∀r:List aZ,eW (r.map aZ.enc)=true:=j2 (fun x=>rfl);cases l with
 |nil=>
  refine yX {} 0 func210 fun Γ an=>ar ?_
  exact Pt
 |cons x r=>
  refine yX {} 0 func210 fun Γ an=>ar ?_
  dsimp only[_g];repeat' first|refine af ?_|with_reducible refine hZ ?_|refine ag ?_|refine ab ?_ ?_<;>intro h<;>try exact aa|refine aK ⟨Or.inl G,rfl,b _,yz⟩ ?_
  refine ua 1 (fun n=>.aG 1 n 5 0 (x::r).length false) trivial rfl Gh ?_ (fun n=>.inl ⟨rfl,?_⟩) (fun n=>⟨rfl,rfl⟩)
  .exact(eS (fun x=>fY):c1 Γ.g0 ((x::r).map aZ.enc))
  simp[_e]
theorem aa0(j:Nat)(l:List aZ)(c:Bool)(hl:cx l.length 40):ml prog 210 [.snap 5 (l.map aZ.enc) c] [] (fun n d H=>d=.aG j n 5 0 l.length false/\H=[some ⟨n,5,l.map aZ.enc⟩]):=
 IA (adC l c hl) (fun K w n v h=>o9 h)
theorem px(g:Nat)(l:List aZ):c1 g (l.map aZ.enc):=eS (fun x=>by simp[aZ.enc,eV,dn])
theorem u2(g:Nat)(l:List R.bN):c1 g (l.map R.bN.enc):=eS (fun x=>fY)
theorem Bn(g:Nat)(l:List T.aE):c1 g (l.map T.aE.enc):=eS (fun x=>fY)
theorem akL(c:bj)(f:c.wf):fi prog 159 [fZ c] [] 1 (fun n d H=>d=.agg (c.row (.aG 1 n 5 0 c.ms.length false))/\H=[some ⟨n,5,c.ms.map aZ.enc⟩]):=by
 have h1:=Ra c.p.rs false f.rs;have h2:=ala c.tr false f.tr;have j:=A.yj c.n.ms false f.n.ey;have m:=aa0 10 c.ms false f.ms;refine aa2 {} 0 func159 fun Γ an=>ar ?_
 repeat' first|refine af ?_|refine J h1 ?_|refine J h2 ?_|refine J j ?_|with_reducible refine oM 10 m ?_|refine ag ?_|refine ab ?_ ?_<;>intro h<;>try exact aa|fail
 exact kh [10] [Γ.g0+2] ⟨⟨rfl,rfl,Nat.zero_lt_one,Nat.le_refl _⟩,trivial⟩ ae rfl (fun a g=>by simp at g;subst g;exact⟨10,_,rfl,rfl⟩) (fun n=>⟨⟨rfl,trivial⟩,⟨rfl,trivial⟩,⟨rfl,trivial⟩,⟨rfl,trivial⟩,⟨rfl,trivial⟩,⟨rfl,trivial⟩,⟨rfl,u2 _ _⟩,⟨rfl,trivial⟩,⟨1,n,.inl ⟨0,rfl,rfl⟩,rfl⟩,⟨rfl,Bn _ _⟩,⟨rfl,trivial⟩,⟨rfl,trivial⟩,⟨rfl,trivial⟩,⟨rfl,trivial⟩,⟨rfl,trivial⟩,⟨rfl,A.kl _ _⟩,rfl⟩) (fun n=>⟨⟨.inl ⟨0,rfl,rfl⟩,rfl,gK _ (px _ _)⟩,rfl⟩)
def Av(p:R.b6):O:=.agg [.v (.int .u32 p.ou),.v (.int .i64 p.lt),.v (.int .i64 p.st),.v (.int .i64 p.lf),.v (.int .i64 p.ra),.v (.int .i64 p.mo),.snap 10 (p.rs.map R.bN.enc) false,.v (.bool p.el),.v (.slice none 0 0),.v (.slice none 0 0),.v (.int .i64 p.lf),.v (.int .i64 p.lt),.v (.int .u64 0),.v (.int .i64 p.st),.v (.int .u64 0),.v (.slice none 0 0)]
theorem Qd(p:R.b6)(f:p.wf)(hl:cx p.rs.length 80):Spec prog 7 [R.rP p false] (.aS [fZ (iH p),.v (.int .i64 (R.eD p))]):=by
 have h1:=Ra p.rs false hl;have h2:=R.Gx p false f hl.1;have j:=fun g=>u2 g p.rs
 unfold iH;by_cases c:R.eD p=0
 .rw[if_pos c,c];rw[c]at h2;refine nh (D:=.aS [Av p,.v (.int .i64 0)]) ?_ ⟨?_,.inl rfl,rfl⟩
  .unfold Av;exact Rz
  unfold Av;exact⟨.inl rfl,.inl rfl,.inl rfl,.inl rfl,.inl rfl,.inl rfl,rfl,.inl rfl,.inr ⟨rfl,_,rfl⟩,.inr ⟨rfl,_,rfl⟩,.inl rfl,.inl rfl,.inl rfl,.inl rfl,.inl rfl,.inr ⟨rfl,_,rfl⟩,rfl⟩
 rw[if_neg c];generalize R.eD p=e at *;refine nh (D:=.aS [.agg [.v (.int .u32 0),.v (.int .i64 0),.v (.int .i64 0),.v (.int .i64 0),.v (.int .i64 0),.v (.int .i64 0),.v (.slice none 0 0),.v (.bool false),.v (.slice none 0 0),.v (.slice none 0 0),.v (.int .i64 0),.v (.int .i64 0),.v (.int .u64 0),.v (.int .i64 0),.v (.int .u64 0),.v (.slice none 0 0)],.v (.int .i64 e)]) ?_ ⟨⟨.inl rfl,.inl rfl,.inl rfl,.inl rfl,.inl rfl,.inl rfl,.inr ⟨rfl,_,rfl⟩,.inl rfl,.inr ⟨rfl,_,rfl⟩,.inr ⟨rfl,_,rfl⟩,.inl rfl,.inl rfl,.inl rfl,.inl rfl,.inl rfl,.inr ⟨rfl,_,rfl⟩,rfl⟩,.inl rfl,rfl⟩;exact Rz
end Go.Proofs.YtdiobdlinjgakaaGreatDoor
namespace Go.Proofs.YtdiobdlinjgakaaGreatDoor
def ot(K:aO)(b:aV):aO:=⟨K.bG,K.real,K.aD,fun g=>K.M g/\¬ ∃k o,aB b k=some o/\K.real o.n/\K.aD o.n=g⟩
theorem KT(K:aO)(b:aV)(w:World):dH K w (ot K b) w:=⟨cN.refl _ _,fun n h=>⟨h,rfl⟩,fun g _ h=>h.1⟩
theorem ah0{Γ:bw}{K:aO}{w:World}{g:aV}(C:Inv Γ K (aB g) w){i0 k n sz len:Nat}{aa:Bool}{xs ys:List (List O)}(I:aB g i0=some ⟨n,sz,xs⟩)(am:0<sz)(an:xs.length=len)(hl:ys.length=xs.length)
 (J:∀(i:Nat)(x y:List O),xs[i]?=some x->ys[i]?=some y->y.length=sz/\∀(j:Nat)(e:O),y[j]?=some e->∃d,x[j]?=some d/\∀v,aJ K w d v->aJ (ot K g) w e v) {v:Value} (ab:aJ K w (.aG k n sz 0 len aa) v):aJ (ot K g) w (.snap sz ys false) v:=by
 have M:∀y∈ys,y.length=sz:=fun y b=>by
  obtain⟨i,Q⟩:=List.mem_iff_getElem?.1 b;have ac:=(_h.1 Q).1;exact(J i _ y (_a G) Q).1
 cases ab with
 |aG ae ao U=>
  rename_i A cap;by_cases af:len=0
  .subst af;have ag:ys=[]:=List.length_eq_zero_iff.1 G;subst ag;exact .snap (fun _ _=>undef) rfl (_i _) (fun q=>tG) M (fun q=>G) (fun ad i x j d _ aP _=>k4) (fun i x j d aP _=>k4)
  rcases U with U|⟨u,rfl,ap,aq,ar,au,av,aw⟩
  .omega
  rcases(C.obj i0 _ I).two (fun bg=>Ic)with⟨ah,-⟩|⟨-,X,t,ax,ay,Y,az,aA,ai⟩
  .exact absurd u ah
  have Z:∀(i:Nat)(y:List O)(j:Nat)(e:O),ys[i]?=some y->y[j]?=some e->∃c,X[i*sz+j]?=some c/\aJ (ot K g) w e c:=fun i y j e b m=>by
   have ac:=(_h.1 b).1;obtain⟨x,aP⟩:∃x,xs[i]?=some x:=⟨_,_a G⟩;obtain⟨d,aj,ak⟩:=(J i x y aP b).2 j e m;obtain⟨c,f,z⟩:=ai i x j d aP aj;exact⟨c,f,ak c z⟩
  refine .snap (fun i j=>(X[i*sz+j]?).getD undef) G ae (fun q=>tG) M (fun _=>⟨_,rfl,rfl,C.lt _ u,fun q=>q.2 ⟨i0,_,I,u,rfl⟩⟩) (fun ad i y j e al b m=>?_) (fun i y j e b m=>?_)
  .obtain rfl:=_b al;obtain⟨c,f,-⟩:=Z i y j e b m;rw[addr_add,Nat.zero_mul,Nat.zero_add,f];unfold World.cell?;dsimp only at Y⊢;rw[Y];simpa using f
  obtain⟨c,f,z⟩:=Z i y j e b m;simp only[f,Option.getD_some];exact z
theorem agG{P:Program}{f:FuncId}{x z:List O}{c:aV}{D:O}(ec:sg D=true)(G:∀(Γ:bw)(K:aO)(w:World)(u:Array Value),Inv Γ K (aB c) w->dS K w z u->dS (ot K c) w x u)(h:Spec P f x D):b1 P f z c (fun d H=>d=D/\H=c):=by
 refine⟨h.1,fun K w u g0 j I J=>?_⟩;have M:=G _ _ _ _ j J
 have Q:Inv (cz (ot (K.cut w) c) w g0 []) ((ot (K.cut w) c).cut w) (aB []) w:=
  ⟨cN.refl _ _,⟨fun m b=>.inl b,fun m b _=>b,fun m b=>⟨b,rfl⟩,fun g _=>Iff.rfl⟩,fun k o h=>mT,fun k ab o ac h=>mT,fun m b=>j.db m b,fun m b=>j.lt m b,fun k o h=>mT,fun k o h=>mT,fun g ae C=>⟨fun⟨_,_,q,_⟩=>by simp[aB]at q,fun q=>(j.mC C).1 ⟨q.1.1.1,q.2⟩,(j.mC C).2⟩⟩
 refine(h.2 (ot (K.cut w) c) w u g0 Q I (s_ M)).mono ?_;rintro e U ⟨v,d,af,rfl,⟨rfl,rfl⟩,X,Y⟩;have Z:cN (fun _=>False) w U:=X.ext.weaken (fun g _ ⟨k,o,aa,_⟩=>by simp[aB]at aa);exact⟨v,_,c,rfl,⟨rfl,rfl⟩,JM j Z,WI Y ec⟩
theorem acJ{K:aO}{w:World}{b:aV}{d e:O}{c:List O}{f:Array Value}(h:dS K w (d::c) f)(j:∀v,aJ K w d v->aJ (ot K b) w e v):dS (ot K b) w (e::c) f:=
 ⟨by simpa using h.1,fun i x v aP g=>by
  match i,aP with
  |0,aP=>
   obtain rfl:=_b aP;exact j v (h.2 0 d v rfl g)
  |i+1,aP=>exact(h.2 (i+1) x v xZ g).mono (KT K b w)⟩
theorem ai3{K:aO}{w:World}{f:aV}{b:bj}{d e:O}{v:Value}(h:aJ K w (.agg (b.row d)) v)(z:∀x,aJ K w d x->aJ (ot K f) w e x):aJ (ot K f) w (.agg (b.row e)) v:=by
 cases h with
 |agg hl j=>
  refine .agg hl fun i x c g m=>?_
  by_cases u:i=8
  .subst u;obtain rfl:e=x:=_b g;exact z c (j 8 d c rfl m)
  have C:b.row e=(b.row d).set 8 e:=rfl;rw[C,List.getElem?_set_ne (fun q=>u q.symm)]at g;exact(j i x c g m).mono (KT K f w)
theorem AJ{P:Program}{f:FuncId}{b:bj}{m:List O}{D:O}(ec:sg D=true)(h:Spec P f (fZ b::m) D)(k n:Nat):b1 P f (.agg (b.row (.aG k n 5 0 b.ms.length false))::m) [some ⟨n,5,b.ms.map aZ.enc⟩] (fun d H=>d=D/\H=[some ⟨n,5,b.ms.map aZ.enc⟩]):=
 agG ec (fun Γ K w G q u=>acJ u fun v g=>ai3 g fun x c=>ah0 (i0:=0) q rfl ae aF rfl (fun i x y c z=>by
  obtain rfl:x=y:=_b (c.symm.trans z);refine⟨?_,fun j e C=>⟨e,C,fun v g=>g.mono (KT K _ w)⟩⟩;obtain⟨I,-,rfl⟩:=List.mem_map.1 (List.mem_of_getElem? c);rfl) c) h
end Go.Proofs.YtdiobdlinjgakaaGreatDoor
