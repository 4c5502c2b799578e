import Derived.Test.YtdiobdlinjgakaaGreatDoorDh41
set_option linter.unusedVariables false
set_option linter.unusedSimpArgs false
set_option maxHeartbeats 8000000
set_option maxRecDepth 100000
open Go.Proofs.Tryz
open List renaming getElem?_eq_getElem->_a,length_cons->_f,length_pos_iff->_i,length_nil->_m,dropLast_eq_take->_o,length_append->_r,append_nil->_t,foldl->_u
open ByteArray renaming mk->_b
open Nat renaming le_trans->_c,lt_succ_self->_g,mul_le_mul_right->_h,sub_lt_sub_left->_k,zero_le->_l,zero_add->_n,le_refl->_q,lt_succ_of_lt->_s
open Go.IntKind renaming i64->_d
open Int renaming toNat_natCast->_e,le_trans->_p
open Option.some renaming inj->_j
namespace Go.Proofs.YtdiobdlinjgakaaGreatDoor.R
attribute [local irreducible] bc Go
theorem TL(i:Bool):decide (mA i=1)=i:=by cases i<;>rfl
theorem Vr(b:bj)(m:fJ b)(i:Bool)(T:ak)(t:Int)(q:T.length<=140737488351232)(n:Nat):b1 prog 30 [fZ b,.aG 3 n 3 0 1 true] [some ⟨n,3,[[.v (.bool i),.v (.string (I T)),.v (.int .i64 t)]]⟩] (fun d H=>d=.aS [fZ (cb b i T t).1,.snap 3 [[.v (.string (I (cb b i T t).2.1)),.v (.int .i64 (cb b i T t).2.2.1),.v (.int .i64 (cb b i T t).2.2.2)]] false]/\H=[some ⟨n,3,[[.v (.bool i),.v (.string (I T)),.v (.int .i64 t)]]⟩]):=
 vg (abX b m.wf [⟨i,T,t⟩] n (show 1<=300 from ae) (fun x u=>by
  rw[List.mem_singleton.1 u];exact q)) (fun K w z f=>⟨f.1,fun j d v c g=>by
  match j,c with
  |0,c=>exact f.2 0 d v c g
  |1,c=>
   obtain rfl:=_j c;exact o9 (f.2 1 _ v rfl g)⟩)
theorem ae2(c:bj)(Z:fJ c)(r:List ak)(b:Bool)(ac:r.length<=1048576)(hl:hH r):Spec prog 13 [fZ c,.snap 1 (b9 (hV::r)) b] (iN (tt c r)):=by
 have h:=sS hV r b ae ac hl;rw[show jj hV=pb from ae]at h;have C:=ahN r;unfold tt;have M:(if pb=[110,111]\/¬pb.length=r.length then none else cD pb r [] [])=(if¬pb.length=r.length then none else cD pb r [] []):=by
  have:¬pb=[110,111]:=ae;simp only[this,false_or]
 rw[M,C]at h;have O:∀x,mw r=some x->x.2.1.length<=1048576:=fun x f=>by
  unfold mw at f;split at f
  .cases f
  rename_i av aw h1;split at f
  .cases f
  rename_i ax aY h2;split at f
  .cases f;obtain⟨w,rfl,aj⟩:=rN h2;exact _c (IJ w aj) (k0 h1 hl w aF)
  cases f
 cases j:mw r with
 |none=>
  rw[j]at h;exact vn c hV r b _ _ h
 |some x=>
  rw[j]at h;have u:=O x j;obtain⟨i,T,t⟩:=x;have h:Spec prog 25 [.snap 1 (b9 (hV::r)) b] (.aS [.snap 1 [[.v (.int .i64 (mA i))],[.v (.int .i64 0)],[.v (.int .i64 t)]] false,.v (.string (I T)),.v (.bool true)]):=h;have u:T.length<=140737488351232:=_c u ae;have ss:(b9 (hV::r)).length=r.length+1:=oa _;have jq:cf (b9 (hV::r)) 0=[.v (.string (I hV))]:=rfl;generalize b9 (hV::r)=W at *;have eP:decide (I hV=I fv)=false:=gZ ae;have e3:decide (I hV=I gG)=false:=gZ ae;have kf:decide (I hV=I hO)=false:=gZ ae;have mN:decide (I hV=I gd)=false:=gZ ae;have mH:decide (I hV=I gq)=false:=gZ ae;dsimp only;clear j C M O;have oG:_d.wrap (((3:Nat):Int)-1)=2:=ae;have iM:=Vr c Z i T t u;have bF:=TL i;have Q:=Ba c i T t;have m:=JT c i T t;unfold la;generalize cb c i T t=am at *;obtain⟨x,o,gN,e⟩:=am;dsimp only at *;have nr:=hM gN Q.1;have lN:=hM e ⟨m.1,_p m.2 ae⟩;have aA:=dW gN Q.1;have aC:=dW e ⟨m.1,_p m.2 ae⟩;have ib:=x1 o G;by_cases q:e=0;rotate_left
  .rw[if_neg q];have d0:decide (e=0)=false:=decide_eq_false q;unfold iN;exact XL
  rw[if_pos q];subst q;unfold kr;by_cases g:(bC o).2=0;rotate_left
  .rw[if_neg g];have z:kv (.inl [bt gN])=[111,107,32]++bt gN:=by exact Uz
   have d0:decide ((bC o).2=0)=false:=decide_eq_false g;unfold iN;rw[z];unfold sx at ib;generalize (bC o).1=U at *;generalize (bC o).2=aD at *;exact XL
  rw[if_pos g];obtain⟨ah,ai,X,Y⟩:=Et g;unfold sx at ib;rw[g]at ib;clear g;generalize (bC o).1=U at *;obtain⟨f1,f2,f3,f4,f5⟩:=U;dsimp only at *;have ao:=vd _ ah;have ap:=vd _ ai;have aq:=hM _ X;have au:=hM _ Y;have aE:=nI f1.toNat;have aG:=nI f2.toNat;have aH:=dW _ X;have aI:=dW _ Y;have z:kv (.inl [bt gN,eF f1.toNat,bt f4,eF f2.toNat,bt f5])=[111,107,32]++bt gN++([32]++eF f1.toNat++[32]++bt f4++[32]++eF f2.toNat++[32]++bt f5):=by exact YA
  unfold iN;rw[z];refine az {} 0 func13 fun Γ an=>ar ?_
  repeat' first|refine af ?_|refine J h ?_|simp only[cL,cO,cS,cZ,cW,ss,jq,bF,eP,e3,kf,mN,mH,oG,td,vo,r5,dt,aU,Int.reduceToNat]|refine J ao ?_|refine J ap ?_|refine J aq ?_|refine J au ?_|refine J lN ?_|refine J nr ?_|(with_reducible refine bE 3 ?_ (iM _) (fun _ _ _ h=>h) ?_);(exact rfl)|refine J ib ?_|refine ag ?_|refine ab ?_ ?_<;>intro h<;>try exact aa|refine aK G ?_|refine aK (by(try simp only[oF,_r,_f,_m]);omega) ?_|exact al|fail
  all_goals exact b0
theorem aax(F:ig)(pr:Int){d:ak×Int}(h:d.1.length<=100):(jP F pr d).1.length<=1000:=by
 unfold jP;split
 .exact JW h
 exact pf
theorem aho(aC:bj)(cG:fJ aC)(r:List ak)(b:Bool)(m:r.length<=1048576)(hl:hH r):Spec prog 13 [fZ aC,.snap 1 (b9 (gd::r)) b] (iN (tv aC r)):=by
 have h:=sS gd r b ae m hl;rw[show jj gd=pt from ae]at h;have g:=agk r;unfold tv;have j:(if pt=[110,111]\/¬pt.length=r.length then none else cD pt r [] [])=(if¬pt.length=r.length then none else cD pt r [] []):=by
  have:¬pt=[110,111]:=ae;simp only[this,false_or]
 rw[j,g]at h;have c:∀x,mS r=some x->rY x.2.1:=fun x aP=>by
  unfold mS at aP;exact ZR
 cases f:mS r with
 |none=>
  rw[f]at h;exact vn aC gd r b _ _ h
 |some x=>
  rw[f]at h;have c:=c x f;obtain⟨i,F,t⟩:=x;have h:Spec prog 25 [.snap 1 (b9 (gd::r)) b] (.aS [.snap 1 [[.v (.int .i64 (mA i))],[.v (.int .i64 F.a)],[.v (.int .i64 F.p)],[.v (.int .i64 F.b)],[.v (.int .i64 F.q)],[.v (.int .i64 t)]] false,.v (.string (I [])),.v (.bool true)]):=h;have PJ:=_c (aax F 17 (d:=(gx F.p F.q [120] F.a F.b)) (J_ _ _ _ _)) (show 1000<=140737488351232 from ae);have CH:=Dn F 17 (d:=(gx F.p F.q [120] F.a F.b)) (Vv _ _ _ _ _);have CJ:Spec prog 29 [.v (.string (I gd)),.snap 1 [[.v (.int .i64 (mA i))],[.v (.int .i64 F.a)],[.v (.int .i64 F.p)],[.v (.int .i64 F.b)],[.v (.int .i64 F.q)],[.v (.int .i64 t)]] false] (n5 (jP F 17 (gx F.p F.q [120] F.a F.b))):=ag2 F c (mA i) t;have ss:(b9 (gd::r)).length=r.length+1:=oa _;have jq:cf (b9 (gd::r)) 0=[.v (.string (I gd))]:=rfl;generalize b9 (gd::r)=W at *;have eP:decide (I gd=I fv)=false:=gZ ae;have e3:decide (I gd=I gG)=false:=gZ ae;have kf:decide (I gd=I hO)=false:=gZ ae;have mN:decide (I gd=I gd)=true:=mf rfl;have mH:decide (I gd=I gq)=false:=gZ ae;have oG:_d.wrap (((6:Nat):Int)-1)=5:=ae;dsimp only at c⊢;clear f g j;unfold jK;generalize jP F 17 (gx F.p F.q [120] F.a F.b)=P at *;exact QG
theorem alf(aC:bj)(cG:fJ aC)(r:List ak)(b:Bool)(u:r.length<=1048576)(hl:hH r):Spec prog 13 [fZ aC,.snap 1 (b9 (gq::r)) b] (iN (th aC r)):=by
 have h:=sS gq r b ae u hl;rw[show jj gq=pw from ae]at h;have j:=afq r;unfold th;have m:(if pw=[110,111]\/¬pw.length=r.length then none else cD pw r [] [])=(if¬pw.length=r.length then none else cD pw r [] []):=by
  have:¬pw=[110,111]:=ae;simp only[this,false_or]
 rw[m,j]at h;have c:∀x,kU r=some x->rY x.2.1:=fun x aP=>by
  unfold kU at aP;exact ZR
 cases f:kU r with
 |none=>
  rw[f]at h;exact vn aC gq r b _ _ h
 |some x=>
  rw[f]at h;have c:=c x f;obtain⟨i,F,g,t⟩:=x;have h:Spec prog 25 [.snap 1 (b9 (gq::r)) b] (.aS [.snap 1 [[.v (.int .i64 (mA i))],[.v (.int .i64 F.a)],[.v (.int .i64 F.p)],[.v (.int .i64 F.b)],[.v (.int .i64 F.q)],[.v (.int .i64 g)],[.v (.int .i64 t)]] false,.v (.string (I [])),.v (.bool true)]):=h;have PJ:=_c (aax F 6 (d:=(fz (kC F g) F.a F.b)) (IU _ _ _ _)) (show 1000<=140737488351232 from ae);have CH:=Dn F 6 (d:=(fz (kC F g) F.a F.b)) (R1 _ _ _);have CJ:Spec prog 29 [.v (.string (I gq)),.snap 1 [[.v (.int .i64 (mA i))],[.v (.int .i64 F.a)],[.v (.int .i64 F.p)],[.v (.int .i64 F.b)],[.v (.int .i64 F.q)],[.v (.int .i64 g)],[.v (.int .i64 t)]] false] (n5 (jP F 6 (fz (kC F g) F.a F.b))):=amb F c (mA i) g t;have ss:(b9 (gq::r)).length=r.length+1:=oa _;have jq:cf (b9 (gq::r)) 0=[.v (.string (I gq))]:=rfl;generalize b9 (gq::r)=W at *;have eP:decide (I gq=I fv)=false:=gZ ae;have e3:decide (I gq=I gG)=false:=gZ ae;have kf:decide (I gq=I hO)=false:=gZ ae;have mN:decide (I gq=I gd)=false:=gZ ae;have mH:decide (I gq=I gq)=true:=mf rfl;have oG:_d.wrap (((7:Nat):Int)-1)=6:=ae;dsimp only at c⊢;clear f j m;unfold jK;generalize jP F 6 (fz (kC F g) F.a F.b)=P at *;exact QG
open Go.RowKit Go.Sort Go.Lib
def iK(s:ak):List ak:=if(bm 10 s).getLast?=some []then(bm 10 s).dropLast else bm 10 s
def pe(x:bj×ak)(l:ak):bj×ak:=match dj l with
 |[]=>x
 |c::r=>if c.head?=some 35 then x else((de x.1 c r).1,x.2++(kv (de x.1 c r).2++[10]))
def pg:b6:=⟨3325256705,1024,2048,300,1000,100000,[],true⟩
def bD:ak:=[101,114,114,111,114,32,50,10]
def AI(s:ak):ak:=if 65536<s.length\/300<(iK s).length then bD else((iK s).foldl pe (iH pg,[])).2
theorem HC:pg.wf:=⟨ae,fun r b=>by cases b⟩
theorem z6:eD pg=0:=ae
theorem ajv:Spec prog 7 [.agg [.v (.int .u32 3325256705),.v (.int .i64 1024),.v (.int .i64 2048),.v (.int .i64 300),.v (.int .i64 1000),.v (.int .i64 100000),.v (.slice none 0 0),.v (.bool true)]] (.aS [fZ (iH pg),.v (.int .i64 0)]):=by
 have h:=Qd pg HC (Al z6);exact SM
theorem Vj(c:UInt8):∀l:ak,((bm c l).map (fun w=>w.length+1)).sum=l.length+1
 |[]=>by simp[bm]
 |b::l=>by
  have h:=Vj c l;unfold bm;split
  .simp[h];omega
  cases aj:bm c l with
  |nil=>exact absurd aj (nG c l)
  |cons p ps=>
   rw[aj]at h;simp at h⊢;omega
theorem Wq(f:ak->Nat)(p:ak->Bool):∀l:List ak,((l.filter p).map f).sum<=(l.map f).sum
 |[]=>_q _
 |w::l=>by
  have:=Wq f p l;rw[List.filter_cons];split<;>simp<;>omega
theorem ZD(l:ak):((dj l).map (fun w=>w.length+1)).sum<=l.length+1:=by
 have:=Wq (fun w=>w.length+1) (fun w=>decide (¬w=[])) (bm 32 l);rw[Vj]at this;exact this
def hX(b f:Nat)(c:ak):aR:=if c=[]then⟨b,2,[[.v (.pointer none),.v (.slice none 0 0)]]⟩else iQ b (.ch b 2 e5) 1 f c
def B5(c:Nat)(b:ak):Option aR:=if b=[]then none else some (jW c b)
theorem acM{Γ:bw}{P:Program}{N:Nat}{R:bb->Prop}{k:List jR}{st:bb}{x:dI}{c f:Nat}{b:ak}(h1:aB st.H 1=some (hX c f b))(j:aB st.H 9=B5 f b)
 (h:∀a m,yF c a->Go Γ P N R x k ⟨st.tm,cl (cl st.H 1 (some (iQ c a 1 m b))) 9 (some (jW m b)),st.gen+1⟩):Go Γ P N R x k st:=by
 unfold hX at h1;unfold B5 at j;by_cases u:b=[]
 .subst u;rw[if_pos rfl]at h1;exact eJ (Uo 1 9 ae h1) (h _ _ (.inl rfl))
 rw[if_neg u]at h1 j;refine eJ (st':=⟨st.tm,cl (cl st.H 1 (some (iQ c (.ch c 2 e5) 1 f b))) 9 (some (jW f b)),st.gen+1⟩) (fun Γ N K a w g=>⟨K,⟨?_,fun n v=>_s (g.fresh n v),Nat.le_succ_of_le g.g0,g.size,g.defers,g.tm⟩⟩) (h _ f (.inr rfl));have e:aB (cl (cl st.H 1 (some (iQ c (.ch c 2 e5) 1 f b))) 9 (some (jW f b)))=aB st.H:=by
  funext q;rw[lS,lS];split
  .rename_i e;rw[e];exact j.symm
  split
  .rename_i e;rw[e];exact h1.symm
  rfl
 show Inv Γ K (aB _) w;rw[e];exact g.inv
theorem acq(b:Nat)(w:World)(c:w.cell? ⟨b,1,none⟩=some (.slice none 0 0)):
 Calls prog 10 #[.pointer (some ⟨b,0,none⟩)] w fun e f=>e=.returned (.string .empty)/\f=w.drew:=by
 have g:w.drew.cell? ⟨b,1,none⟩=some (.slice none 0 0):=c;have j:(Builtin.unsafeSliceData_ #[47] 76 #[.slice none 0 0]).run prog w.drew=.ok (.pointer none) w.drew:=Lib.run_unsafeSliceData_nil _ _ _ _ _;have m:(Builtin.unsafeString_ #[76,3] 9 #[.pointer none,.int .i64 0]).run prog w.drew=.ok (.string .empty) w.drew:=Lib.run_unsafeString_none _ _ _ _ _;go_enter func10,Tryz.ntmps10
 go_wp2
 have q:=u9;go_region_o
 all_goals (go_wp2;go_ret;exact⟨rfl,rfl⟩)
theorem ako(c:Nat):b1 prog 10 [.ch c 2 e5] [some ⟨c,2,[[.v (.pointer none),.v (.slice none 0 0)]]⟩] (fun d H=>d=.v (.string (I []))/\H=[none]):=by
 refine⟨b4,fun K w Q g0 b U x=>?_⟩;obtain⟨v,rfl,z⟩:=Cx x;cases z with
 |ch C X=>
  rcases(b.obj 0 _ rfl).two (fun q=>Aj)with⟨f,g⟩|⟨f,Y,Z,aa,g,j,G,ab,m⟩
  .exact absurd C f
  dsimp only at g j G m;obtain⟨ac,J,M⟩:=m 0 _ 1 _ rfl rfl;cases M;have O:w.cell? ⟨(K.cut w).aD c,1,none⟩=some (.slice none 0 0):=by
   simp only[World.cell?,j];simpa using J
  refine(acq _ w O).mono ?_;rintro e ae ⟨rfl,rfl⟩;have u:cN (cz K w g0 [some ⟨c,2,[[.v (.pointer none),.v (.slice none 0 0)]]⟩]).W0 w w.drew:=cN.sX rfl rfl rfl rfl;refine⟨_,_,_,rfl,⟨rfl,rfl⟩,⟨b.ext.trans u,b.base,fun k o h=>?_,fun k af o ag h=>?_,b.db,fun n h=>Nat.lt_of_lt_of_le (b.lt n h) u.size,fun k o h=>?_,fun k o h=>?_,b.ga⟩,.v _⟩
  all_goals
   rcases k with _|k
   .cases h
   cases h
theorem aaz:∀q:Option aR,(match q with|none=>True|some p=>q=some p)
 |none=>trivial
 |some p=>rfl
theorem aej{Γ:bw}{P:Program}{N:Nat}{R:bb->Prop}{k:List jR}{st:bb}{α:Type}(aG:α->List (bK×O))(b:α->List (Nat×Option aR))(f:α->Nat)(g:α->Prop){xs:List cP}{c:a7}{t e y:dI}
 (h1:Go Γ P N R (.seq (.region xs) (.cond c t e)) (.loop (fun s=>∃a,g a/\fP s ⟨nL (nc st.tm (j6 (.seq (.region xs) (.cond c t e)))) (aG a),d_ st.H (b a),f a⟩)::k) st)
 (h2:∀a,g a->Go Γ P N R y k ⟨nL (nc st.tm (j6 (.seq (.region xs) (.cond c t e)))) (aG a),d_ st.H (b a),f a⟩):Go Γ P N R (.seq (.seq (.region xs) (.cond c t e)) y) k st:=EG aG b f g h1 h2
theorem aii(s:ak)(a7:s.length<=1048576):Spec prog 4 [.v (.string (I s))] (.v (.string (I (AI s)))):=by
 have aj:Spec prog 6 [.v (.string (I s)),.v (.string (_b #[10]))] (.snap 1 (bk ((bm 10 s).map I)) false):=va 10 s a7;have aE:∀p∈bm 10 s,p.length<=s.length:=nP 10 s;have a8:=rK 10 s;have U:=nG 10 s;have u:iK s=if(bm 10 s).getLast?=some []then(bm 10 s).dropLast else bm 10 s:=rfl
 unfold AI;generalize iK s=L at *;generalize bm 10 s=m at *;have aI:=fM m;have a9:=ajv;have ba:fJ (iH pg):=fJ.new HC z6;have bb:0<m.length:=_i.2 U;obtain⟨aJ,M⟩:∃aJ,m[m.length-1]?=some aJ:=⟨_,_a G⟩;have am:=sh M;have aM:_d.wrap ((m.length:Int)-1)=((m.length-1:Nat):Int):=er;have aO:m.length-1<m.length:=G;have av:(_b #[]:ByteArray)=I []:=rfl;rw[List.getLast?_eq_getElem?,M]at u;refine az {bld:=49} 0 func4 fun Γ an=>ar ?_
 repeat' first|(with_reducible refine gJ ?_);(refine aej (α:=Bool) (fun b=>[(⟨.d0,.d0,.d3⟩,.snap 1 (bk (L.map I)) b)]) (fun _=>[]) (fun _=>Γ.g0) (fun _=>True) ?_ ?_)|refine af ?_|refine J aj ?_|simp only[aI,aM,av]|refine ag ?_|refine ab ?_ ?_<;>intro h<;>try exact aa|simp only[_e,am]|exact al|fail
 .have u:L=m.dropLast:=by rw[u,if_pos (by rw[dF.1 (of_decide_eq_true h)])]
  have bc:cp (cC (bk (m.map I)) 0) (((m.length-1:Nat):Int)-0).toNat=bk (L.map I):=by
   rw[u,_o,hh];simp[bk,cC,List.map_take]
  refine br ⟨false,trivial,?_⟩;refine dB ?_ ?_ (_q _);all_goals first|refine dD ?_|exact dE
  all_goals repeat' first|exact trivial|exact rfl|apply And.intro
  all_goals exact congrArg (fun q=>O.snap 1 q false) bc
 .have u:L=m:=by rw[u,if_neg (fun q=>of_decide_eq_false h (congrArg I (_j q)))]
  refine br ⟨false,trivial,?_⟩;rw[u];exact bs
 rintro c -;refine bz ?_;have bd:∀p∈L,p.length<=s.length:=fun p Q=>aE p (by
  rw[u]at Q;split at Q
  .exact List.mem_of_mem_take (_o▸Q)
  exact Q)
 have X:=fM L;clear aj aE a8 U aI bb M am aM aO u;by_cases aP:65536<s.length\/300<L.length
 .rw[if_pos aP];repeat' first|refine af ?_|simp only[aU,X]|refine ag ?_|refine ab ?_ ?_<;>intro h<;>try exact aa|exact al|fail
  all_goals exact Kb
 rw[if_neg aP];generalize iH pg=aQ at *;have ah:decide ((65536:Int)<(s.length:Nat))=false:=decide_eq_false G;have ai:decide ((300:Int)<(L.length:Nat))=false:=decide_eq_false G;repeat' first|refine af ?_|simp only[aU,X,ah,ai]|refine J a9 ?_|refine ag ?_|refine ab ?_ ?_<;>intro h<;>try exact aa|exact al|fail
 refine bS (α:=Nat×bj×ak×Nat×Nat) (fun x=>[(⟨.d0,.d5,.d1⟩,.v (.int .i64 (x.1:Nat)))]) (fun x=>[(0,some (dR Γ.g0 x.2.1)),(1,some (hX (Γ.g0+1) x.2.2.2.1 x.2.2.1)),(2,none),(3,none),(9,B5 x.2.2.2.1 x.2.2.1),(10,none)]) (fun x=>x.2.2.2.2) (fun x=>L.length-x.1) (fun x=>x.1<=L.length/\fJ x.2.1/\x.2.2.1.length<=x.1*100010/\_u pe (aQ,[]) L=_u pe (x.2.1,x.2.2.1) (L.drop x.1)) (0,aQ,[],0,Γ.g0+2) ⟨_l _,ba,_l _,rfl⟩ ?_ ?_
 .exact bs
 rintro⟨i,aC,hr,Fx,aR⟩ ⟨be,cG,aS,aT⟩;dsimp only at be cG aS aT⊢;rw[aT];refine bz ?_;by_cases aN:i<L.length
 .obtain⟨l,hl⟩:∃l,L[i]?=some l:=⟨_,_a aN⟩;have am:=sh hl;have aO:=bd l (List.mem_of_getElem? hl);rw[List.drop_eq_getElem_cons aN,show L[i]=l from _j ((_a aN).symm.trans hl),List.foldl_cons];have aV:Spec prog 6 [.v (.string (I l)),.v (.string (_b #[32]))] (.snap 1 (bk ((bm 32 l).map I)) false):=va 32 l G;have bA:=rK 32 l;have bf:∀p∈bm 32 l,p.length<=l.length:=fun p Q=>nP 32 l p Q
  have aY:dj l=hG (bm 32 l) (bm 32 l).length:=by
   unfold dj hG;rw[List.take_length]
  have z:=fM (bm 32 l);generalize bg:bm 32 l=ps at *;repeat' first|(with_reducible refine gJ ?_);(refine eJ (gU ⟨.d0,.d1,.d0⟩ 3 1 rfl rfl) ?_)|refine af ?_|simp only[X,z]|refine J aV ?_|refine ag ?_|refine ab ?_ ?_<;>intro h<;>try exact aa|simp only[_e,am]|exact al|fail
  refine bS (α:=Nat×Nat×Nat) (fun x=>[(⟨.d0,.d6,.d0⟩,.v (.int .i64 (x.1:Nat))),(⟨.d0,.d1,.d0⟩,.aG 3 x.2.1 1 0 (hG ps x.1).length false)]) (fun x=>[(2,none),(3,some ⟨x.2.1,1,bk ((hG ps x.1).map I)⟩)]) (fun x=>x.2.2) (fun x=>ps.length-x.1) (fun x=>x.1<=ps.length) (0,aR,aR+1) (_l _) ?_ ?_
  .exact Vo
  rintro⟨j,aw,jT⟩ bh;dsimp only at bh⊢;refine bz ?_;have aZ:=WM ps j;have a0:=GF (hG ps j);have mJ:=fM (hG ps j);by_cases Y:j<ps.length
  .obtain⟨w,g⟩:∃w,ps[j]?=some w:=⟨_,_a Y⟩;have a1:=sh g;by_cases ao:w=[]
   .have bi:=V2 g ao;have ax:decide (I w=I [])=true:=decide_eq_true (congrArg I ao);repeat' first|refine af ?_|simp only[av,ax,z]|refine ag ?_|refine ab ?_ ?_<;>intro h<;>try exact aa|simp only[_e,a1,z]|exact al|fail
    refine br ⟨(j+1,aw,jT),Y,_k Y (_g j),?_⟩;rw[bi];exact SP
   have a2:=Zs g ao;have a3:=Dd (hG ps j) w;have ax:decide (I w=I [])=false:=decide_eq_false (fun q=>ao (dF.1 q));have bn:(hG ps (j+1)).length=(hG ps j).length+1:=by rw[a2];simp
   rw[<-a2]at a3;generalize bk ((hG ps j).map I)=bB at *;repeat' first|refine af ?_|simp only[av,ax,z]|refine ag ?_|refine ab ?_ ?_<;>intro h<;>try exact aa|simp only[_e,a1,z,mJ]|refine aK ⟨aH,aH,aH,aH,mJ.symm⟩ ?_|refine aK ⟨aH,OR⟩ ?_|exact al|fail
   refine br ⟨(j+1,jT+1,jT+2),Y,_k Y (_g j),?_⟩;rw[bn,<-a3];exact SP
  obtain rfl:j=ps.length:=G;rw[<-aY]at a0 mJ aZ⊢;have aA:∀w∈dj l,w≠[]/\w.length<=l.length:=fun w g=>by
   unfold dj at g;rw[bg]at g;have:=List.mem_filter.1 g;exact⟨of_decide_eq_true this.2,bf w this.1⟩
  have aD:gE ⟨aw,1,bk ((dj l).map I)⟩ (.aG 3 aw 1 0 (dj l).length false) (.snap 1 (bk ((dj l).map I)) false):=.inl ⟨rfl,rfl,by rw[_n,fM];exact hT,Jd⟩;have a4:=ZD l;have ah4:hr.length<=(i+1)*100010:=_c aS (_h _ (Nat.le_succ i));have bl:_d.wrap ((i:Int)+1)=((i+1:Nat):Int):=er;clear aY aV a0;cases Z:dj l with
  |nil=>
   have ac:pe (aC,hr) l=(aC,hr):=by unfold pe;rw[Z]
   rw[ac];repeat' first|refine af ?_|simp only[bl,z]|refine ag ?_|refine ab ?_ ?_<;>intro h<;>try exact aa|exact al|fail
   exact Us
  |cons f r=>
   rw[Z]at aD aA mJ a4;obtain⟨a5,bC⟩:=aA f aF;have bD:0<f.length:=_i.2 a5;have a6:cf (bk ((f::r).map I)) 0=[.v (.string (I f))]:=rfl;have ap:=FH a5;have M:∀n:Nat,decide ((0:Int)<((n+1:Nat):Int))=true:=fun n=>decide_eq_true G
   by_cases aq:f.head?=some 35
   .have ac:pe (aC,hr) l=(aC,hr):=by unfold pe;rw[Z];exact if_pos aq
    rw[ac];rw[decide_eq_true aq]at ap;repeat' first|(with_reducible refine gJ ?_);(refine dv (FO an ⟨.d0,.d1,.d0⟩ 3 rfl rfl aD) ?_)|refine af ?_|simp only[bl,z,fM,M,ap,b_,aU]|refine ag ?_|refine ab ?_ ?_<;>intro h<;>try exact aa|simp only[a6]|exact al|fail
    exact Us
   rw[decide_eq_false aq]at ap;have ac:pe (aC,hr) l=((de aC f r).1,hr++(kv (de aC f r).2++[10])):=by unfold pe;rw[Z];exact if_neg aq
   rw[ac];have bo:r.length<=1048576:=by
    have:=aZ;rw[Z,_f]at this;omega
   have bp:(cm r).length<=1048576:=by
    have h1:=mg r;simp only[List.map_cons,List.sum_cons]at a4;omega
   have o4:=Zy aC cG f r;have bq:=U8 cG f r;have bu:=aiW Γ.g0 aC cG f r bo (fun w g=>by
    have:=(aA w (List.mem_cons_of_mem _ g)).2;omega) bp (by
    generalize (de aC f r).2=A at o4;cases A with
    |inl q=>exact⟨o4.1,_c o4.2 ae⟩
    |inr e=>exact⟨o4.1,_p o4.2 ae⟩)
   have bE:(kv (de aC f r).2).length<=100000:=by
    generalize (de aC f r).2=A at o4;exact Rv
   generalize (de aC f r).1=v at *;generalize kv (de aC f r).2=A at *;have g:=fun a Fx C=>Qk (Γ.g0+1) Fx a C hr (A++[10]) (by
    have:(i+1)*100010<=300*100010:=_h _ G;rw[_r,_f,_m];omega)
   have bv:(_b #[10]:ByteArray)=I [10]:=rfl;refine acM rfl rfl fun a bw C=>?_
   have g:=g a bw C;repeat' first|((with_reducible refine gJ ?_);first|refine dv (FO an ⟨.d0,.d1,.d0⟩ 3 rfl rfl aD) ?_)|refine af ?_|simp only[bl,z,fM,M,ap,b_,aU,bv,dt]|(with_reducible refine aL 9 ?_);(refine aX [0] ae rfl rfl bu ?_)|(with_reducible refine aL 8 ?_);(refine gb [1,9] [10] [1,9,10] rfl ae rfl rfl g ?_)|refine ag ?_|refine ab ?_ ?_<;>intro h<;>try exact aa|simp only[a6]|exact al|fail
   have U:hr++(A++[10])≠[]:=aF;have bx:(hr++(A++[10])).length<=(i+1)*100010:=by exact WJ
   refine br ⟨(i+1,v,hr++(A++[10]),jT+1,jT+2),⟨aN,bq,bx,rfl⟩,_k aN (_g i),?_⟩;unfold hX B5;rw[if_neg U,if_neg U];generalize hr++(A++[10])=bF at *;refine(nv 10 9 rfl (fun _=>rfl)).trans ?_;exact bs
 obtain rfl:i=L.length:=G;rw[List.drop_length];show Go _ _ _ (nq Γ [.tmp ⟨.d0,.d0,.d2⟩] 0 fun d H=>d=.v (.string (I hr))/\H=[]) _ _ _;unfold hX B5;by_cases C:hr=[]
 .subst C;rw[if_pos rfl,if_pos rfl];have au:=ako (Γ.g0+1);repeat' first|refine af ?_|simp only[X]|(with_reducible refine aL 10 ?_);(refine aX [1] ae rfl rfl au ?_)|refine ag ?_|refine ab ?_ ?_<;>intro h<;>try exact aa|exact al|fail
  all_goals exact bM
 rw[if_neg C,if_neg C];have au:=Sw (Γ.g0+1) Fx hr C (by
  have:L.length*100010<=300*100010:=_h _ G;omega)
 rw[Mq]at au;repeat' first|refine af ?_|simp only[X]|(with_reducible refine aL 10 ?_);(refine aX [1,9] ae rfl rfl au ?_)|refine ag ?_|refine ab ?_ ?_<;>intro h<;>try exact aa|exact al|fail
 all_goals exact bM
end Go.Proofs.YtdiobdlinjgakaaGreatDoor.R
namespace Go.Proofs.YtdiobdlinjgakaaGreatDoor.R
attribute [local irreducible] bc Go
theorem alE(f:bj)(j:fJ f)(c:ak)(r:List ak)(b:Bool)(g:r.length<=1048576)(hl:hH r)(x:(cm r).length<=1048576):Spec prog 13 [fZ f,.snap 1 (b9 (c::r)) b] (iN (de f c r)):=by
 unfold de;by_cases h1:c=fv
 .rw[if_pos h1];subst h1;exact ahL f r b g x
 rw[if_neg h1];by_cases h2:c=gG
 .rw[if_pos h2];subst h2;exact abP f j r b g hl
 rw[if_neg h2];by_cases m:c=gd
 .rw[if_pos m];subst m;exact aho f j r b g hl
 rw[if_neg m];by_cases q:c=gq
 .rw[if_pos q];subst q;exact alf f j r b g hl
 rw[if_neg q];by_cases u:c=hV
 .rw[if_pos u];subst u;exact ae2 f j r b g hl
 rw[if_neg u];by_cases v:c=hO
 .rw[if_pos v];subst v;exact ajU f j r b g hl
 rw[if_neg v];have h:=sS c r b h1 g hl;have e:jj c=[110,111]:=by
  unfold jj;rw[if_neg m,if_neg q,if_neg u,if_neg h1,if_neg v,if_neg h2]
 rw[e,if_pos (.inl rfl)]at h;exact vn f c r b _ _ h
def tN:List ak->Bool
 |[]=>false
 |c::_=>!decide (c.head?=some 35)
def gi(L:List ak):List (List ak):=(L.map dj).filter tN
abbrev qR(l:List (List ak)):List (List O):=l.map fun b=>[.snap 1 (b9 b) false]
theorem Ju(l:List (List ak)):(qR l).length=l.length:=List.length_map ..
theorem Zh:iK []=[]:=ae
theorem Ql(c:UInt8):∀l:ak,(bJ c l).2.2=false->(bJ c l).1=l
 |[],_=>rfl
 |b::l,h=>by
  unfold bJ at h⊢;split
  .rename_i e;rw[if_pos e]at h;cases h
  rename_i e;rw[if_neg e]at h;exact congrArg (b :: ·) (Ql c l h)
theorem aaa(c:UInt8):∀l:ak,l≠[]->(bJ c l).2.1.length<l.length/\(bJ c l).1.length<=l.length
 |[],h=>absurd rfl h
 |b::l,_=>by
  unfold bJ;split
  .exact⟨_g _,_l _⟩
  cases l with
  |nil=>exact⟨Nat.zero_lt_succ _,_q _⟩
  |cons d l=>
   have:=aaa c (d::l) aF;exact⟨_s this.1,Nat.succ_le_succ this.2⟩
theorem ah6(l:ak)(h:l≠[]):iK l=(bJ 10 l).1::iK (bJ 10 l).2.1:=by
 have aj:=YP (c:=10) l;cases b:(bJ 10 l).2.2 with
 |false=>
  have h1:=Ql 10 l b;have h2:=K9 l b;rw[b]at aj;rw[h2,h1,Zh];unfold iK;rw[aj,h1];simp[h]
 |true=>
  rw[b,if_pos rfl]at aj;have c:=nG 10 (bJ 10 l).2.1;unfold iK;rw[aj];generalize bm 10 (bJ 10 l).2.1=q at *;cases q with
  |nil=>exact absurd rfl c
  |cons x q=>
   rw[List.getLast?_cons_cons,List.dropLast_cons_cons];split<;>rfl
theorem aio(L:List ak)(a:ak):gi (L++[a])=gi L++(if tN (dj a)=true then[dj a]else[]):=by
 unfold gi;rw[List.map_append,List.filter_append];congr 1
 by_cases h:tN (dj a)=true<;>simp[h]
theorem ajw(s:ak)(aj:s.length<=1048576):Spec prog 11 [.v (.string (I s))] (.aS [.snap 1 (qR (gi (iK s))) false,.v (.int .i64 ((iK s).length:Nat))]):=by
 refine az {} 0 func11 fun Γ an=>ar ?_
 repeat' first|(with_reducible refine gJ ?_);(refine eJ (gU ⟨.d0,.d0,.d4⟩ 1 1 rfl rfl) ?_)|refine af ?_|refine ag ?_|refine ab ?_ ?_<;>intro h<;>try exact aa|exact al|fail
 refine bS (α:=ak×List ak×Nat×Nat) (fun x=>[(⟨.d0,.d0,.d0⟩,.v (.string (I x.1))),(⟨.d0,.d0,.d4⟩,.aG 1 x.2.2.1 1 0 (gi x.2.1).length false),(⟨.d0,.d0,.d5⟩,.v (.int .i64 (x.2.1.length:Nat)))]) (fun x=>[(0,none),(1,some ⟨x.2.2.1,1,qR (gi x.2.1)⟩)]) (fun x=>x.2.2.2) (fun x=>x.1.length) (fun x=>iK s=x.2.1++iK x.1/\x.2.1.length+x.1.length<=s.length) (s,[],Γ.g0,Γ.g0+1) ⟨rfl,Nat.le_of_eq (_n _)⟩ ?_ ?_
 .exact bs
 rintro⟨t,L,n8,bR⟩ ⟨Q,ac⟩;dsimp only at Q ac⊢;rw[Q];refine bz ?_;have j:=Ju (gi L);have av:(gi L).length<=L.length:=by exact Pu
 have m:(_b #[]:ByteArray)=I []:=rfl;have M:(_b #[10]:ByteArray)=I [10]:=rfl;by_cases q:t=[]
 .subst q;rw[Zh,_t];have d0:decide (I []=I [])=true:=mf rfl;have ah:gE ⟨n8,1,qR (gi L)⟩ (.aG 1 n8 1 0 (gi L).length false) (.snap 1 (qR (gi L)) false):=.inl ⟨rfl,rfl,by rw[_n,Ju];exact hT,by rw[e1 j.symm]⟩;have ai:∀g,c1 g (qR (gi L)):=fun g=>eS (fun x=>⟨p5 x g,trivial⟩)
  repeat' first|(with_reducible refine gJ ?_);(refine dv (FO an ⟨.d0,.d0,.d4⟩ 1 rfl rfl ah) ?_)|refine af ?_|simp only[m,d0]|refine ag ?_|refine ab ?_ ?_<;>intro h<;>try exact aa|exact al|fail
  exact Om trivial ⟨ai _,trivial,trivial⟩ rfl
 have d0:decide (I t=I [])=false:=gZ q;obtain⟨qp,aw⟩:=aaa 10 t q;have O:=AL 10 t G;rw[ah6 t q];generalize (bJ 10 t).1=a at *;generalize (bJ 10 t).2.1=t2 at *;generalize (bJ 10 t).2.2=ax at *;have f:=OK a G;have nT:=aio L a;have am:(L++[a]).length=L.length+1:=aF;have bl:_d.wrap ((L.length:Int)+1)=(((L++[a]).length:Nat):Int):=by rw[am,IntWalk.i64_in _ G];omega
 have ao:L++a::iK t2=(L++[a])++iK t2:=aF;rw[ao];have U:∀w∈dj a,w≠[]:=fun w u=>(Mx u).1
 cases u:dj a with
 |nil=>
  rw[u]at f nT;have nT:gi (L++[a])=gi L:=by rw[nT];exact _t _
  have ap:decide ((0:Int)<((([]:List ak).length:Nat):Int))=false:=ae;repeat' first|refine af ?_|simp only[m,M,d0,bl,fM,ap]|refine J O ?_|refine J f ?_|refine ag ?_|refine ab ?_ ?_<;>intro h<;>try exact aa|exact al|fail
  exact Tb
 |cons c r=>
  rw[u]at f nT U;have X:c≠[]:=U c aF;have aA:0<c.length:=_i.2 X;have Y:cf (bk ((c::r).map I)) 0=[.v (.string (I c))]:=rfl;have z:=FH X;have Z:∀n:Nat,decide ((0:Int)<((n+1:Nat):Int))=true:=fun n=>decide_eq_true G
  by_cases C:c.head?=some 35
  .have nT:gi (L++[a])=gi L:=by rw[nT];simp[tN,C]
   rw[decide_eq_true C]at z;repeat' first|refine af ?_|simp only[m,M,d0,bl,fM,Z,z,b_,aU]|refine J O ?_|refine J f ?_|refine ag ?_|refine ab ?_ ?_<;>intro h<;>try exact aa|simp only[Y]|exact al|fail
   exact Tb
  have nT:gi (L++[a])=gi L++[c::r]:=by rw[nT];simp[tN,C]
  rw[decide_eq_false C]at z;have aq:qR (gi L)++[[.snap 1 (b9 (c::r)) false]]=qR (gi L++[c::r]):=aF;have au:(gi L++[c::r]).length=(gi L).length+1:=aF;repeat' first|refine af ?_|simp only[m,M,d0,bl,fM,Z,z,b_,aU]|refine J O ?_|refine J f ?_|refine ag ?_|refine ab ?_ ?_<;>intro h<;>try exact aa|simp only[Y,j]|refine aK ⟨aH,aH,aH,aH,j.symm⟩ ?_|refine aK ⟨aH,by rw[j];unfold cx maxLen;simp only[_f,_m];omega⟩ ?_|exact al|fail
  refine br ⟨(t2,L++[a],bR+1,bR+2),⟨rfl,iS⟩,qp,?_⟩;dsimp only;rw[nT,<-aq,au];exact bs
end Go.Proofs.YtdiobdlinjgakaaGreatDoor.R
