import Derived.Test.YtdiobdlinjgakaaGreatDoorDh37
import Derived.Test.YtdiobdlinjgakaaGreatDoorDh23
set_option linter.unusedVariables false
set_option linter.unusedSimpArgs false
set_option maxHeartbeats 8000000
set_option maxRecDepth 100000
open Go.Proofs.Tryz
open ByteArray renaming mk->_a
namespace Go.Proofs.YtdiobdlinjgakaaGreatDoor.R
attribute [local irreducible] bc Go
theorem ake{st:bb}{du:Nat}{c f g j m q b:O}(u:aB st.H 2=some ⟨du,8,[[c,f,g,j,m,q,.v (.slice none 0 0),b]]⟩):fP st ⟨st.tm,cl (cl st.H 2 (some ⟨du,8,[[c,f,g,j,m,q,.aG 4 st.gen 10 0 0 false,b]]⟩)) 4 (some ⟨st.gen,10,[]⟩),st.gen+1⟩:=
 Ff 2 4 10 8 ae u rfl (fun i d x h1 h2=>by
  exact RN) ae
abbrev JL(du b:Nat)(p:b6):aR:=⟨du,8,[p.enc (.aG 4 b 10 0 p.rs.length false)]⟩
theorem adT{o:List Int}(h:o.length=9):∃a b c d e f g i j,o=[a,b,c,d,e,f,g,i,j]:=by
 match o,h with
 |[a,b,c,d,e,f,g,i,j],_=>exact⟨a,b,c,d,e,f,g,i,j,rfl⟩
theorem Sn{o:List Int}(h:o.length=1):∃a,o=[a]:=by
 match o,h with
 |[a],_=>exact⟨a,rfl⟩
theorem T5{o:List Int}(h:o.length=2):∃a b,o=[a,b]:=by
 match o,h with
 |[a,b],_=>exact⟨a,b,rfl⟩
theorem q4(l:List ak):(bk (l.map I)).length=l.length:=lD
theorem ajJ(s:ak)(bo:s.length<=140737488355328):Spec prog 26 [.v (.string (I s))] (qo (fb s)):=by
 by_cases aY:20000<s.length
 .have e:fb s=(iU,0,2):=by unfold fb;rw[if_pos aY]
  rw[e,n_ ae];refine az {} 0 func26 fun Γ an=>ar ?_
  exact Xo
 have a4:fb s=q_ (e4 0 iU [] (bm 10 s)):=by unfold fb;rw[if_neg aY]
 rw[a4];generalize a5:e4 0 iU [] (bm 10 s)=a6 at *;have ox:(_a #[]:ByteArray)=I (gQ []):=rfl;refine az {} 0 func26 fun Γ an=>ar ?_
 repeat' first|(with_reducible refine gJ ?_);(refine eJ (ake rfl) ?_)|refine af ?_|simp only[aU,ox]|refine ag ?_|refine ab ?_ ?_<;>intro h<;>try exact aa|exact al|fail
 refine bS (α:=Nat×b6×List ak×ak×Nat×Nat) (fun x=>[(⟨.d0,.d0,.d0⟩,.v (.string (I x.2.2.2.1))),(⟨.d0,.d0,.d7⟩,.v (.string (I (gQ x.2.2.1)))),(⟨.d0,.d1,.d0⟩,.v (.int .i64 ((x.1+1:Nat):Int)))]) (fun x=>[(2,some (JL (Γ.g0+2) x.2.2.2.2.1 x.2.1)),(3,none),(4,some ⟨x.2.2.2.2.1,10,x.2.1.rs.map bN.enc⟩)]) (fun x=>x.2.2.2.2.2) (fun x=>x.2.2.2.1.length)
  (fun x=>x.2.2.2.1.length+x.1<=s.length/\x.2.1.rs.length<=x.1/\w4 x.2.2.1/\x.2.1.wf/\a6=e4 x.1 x.2.1 x.2.2.1 (bm 10 x.2.2.2.1)) (0,iU,[],s,Γ.g0+3,Γ.g0+4) ⟨Nat.le_refl _,Nat.zero_le _,ac0,HJ,a5.symm⟩ ?_ ?_
 .exact bs
 rintro⟨i,p,eL,z,mj,bR⟩ ⟨a7,mM,xQ,rp,cJ⟩;dsimp only at a7 mM xQ rp cJ⊢;refine bz ?_;have aZ:=OM xQ;by_cases aE:z=[]
 .subst aE;rw[show bm 10 ([]:ak)=[[]]from rfl,Og]at cJ;have bf:decide (I ([]:ak)=I (gQ []))=true:=decide_eq_true rfl;have zc:=ES p false rp fg;have xV:(p.rs.map bN.enc).length=p.rs.length:=aF;have bp:c1 Γ.g0 (p.rs.map bN.enc):=eS (fun x=>fY);have nQ:kN ⟨mj,10,p.rs.map bN.enc⟩ [p.enc (.aG 4 mj 10 0 p.rs.length false)] [p.enc (.snap 10 (p.rs.map bN.enc) false)]:=by exact ZP
  rw[cJ];unfold q_;dsimp only;by_cases aw:eL.length<5
  .have VH:decide ((((gQ eL).length:Nat):Int)=29)=false:=decide_eq_false (fun q=>(aZ.1.1 G) aw);rw[if_pos aw,n_ Ny];exact HG
  have VH:decide ((((gQ eL).length:Nat):Int)=29)=true:=decide_eq_true (by have:=aZ.1.2 aw;omega);rw[if_neg aw];by_cases ax:eD p=0
  .rw[if_pos ax];rw[ax]at zc;have e:qo (p,0,0)=.aS [rP p false,.v (.int .i64 0),.v (.int .i64 0)]:=by
    unfold qo hJ;rw[if_pos rfl]
   rw[e];exact HG
  rw[if_neg ax,n_ ax];generalize eD p=E at *;exact HG
 have bf:decide (I z=I (gQ []))=false:=decide_eq_false (fun q=>aE (dF.1 q));have oO:=AL 10 z G;have qa:(_a #[10]:ByteArray)=I [10]:=rfl;obtain⟨bq,bt,q0⟩:=ER (c:=10) z;have q0:=q0 aE;rw[alW]at cJ;generalize (bJ 10 z).1=l at *;generalize (bJ 10 z).2.1=tC at *;generalize (bJ 10 z).2.2=bu at *;have oB:=OK l G;have bl:IntKind.i64.wrap (((i+1:Nat):Int)+1)=((i+1+1:Nat):Int):=er;cases U:dj l with
 |nil=>
  rw[FK U]at cJ;rw[U]at oB;have a8:decide ((((bk (([]:List ak).map I)).length:Nat):Int)=0)=true:=ae;repeat' first|refine af ?_|simp only[ox,bf,qa,a8,bl]|refine J oO ?_|refine J oB ?_|refine ag ?_|refine ab ?_ ?_<;>intro h<;>try exact aa|exact al|fail
  exact Sf
 |cons w0 r=>
  rw[GU U]at cJ;rw[U]at oB;have aI:∀w∈w0::r,w.length<=1048576/\w≠[]:=fun w X=>by
   rw[<-U]at X;refine⟨?_,(Mx X).1⟩;unfold dj at X;have:=nP 32 l w (List.mem_filter.1 X).1;omega
  have a0:w0≠[]:=(aI w0 aF).2;have bv:0<w0.length:=List.length_pos_iff.2 a0;have bw:=(aI w0 aF).1;have jq:cf (bk ((w0::r).map I)) 0=[.v (.string (I w0))]:=rfl;have bO:=FH a0;have b3:∀n:Nat,decide (((n+1:Nat):Int)=0)=false:=fun n=>decide_eq_false G
  by_cases aA:w0.head?=some 35
  .rw[if_pos aA]at cJ;rw[decide_eq_true aA]at bO;repeat' first|refine af ?_|simp only[ox,bf,qa,bl,q4,b3,bO,b_,aU]|refine J oO ?_|refine J oB ?_|refine ag ?_|refine ab ?_ ?_<;>intro h<;>try exact aa|simp only[jq]|exact al|fail
   exact Sf
  rw[if_neg aA]at cJ;rw[decide_eq_false aA]at bO;have a9:r.length<=1048576:=by
   have h1:(w0::r).length<=(bm 32 l).length:=by rw[<-U];unfold dj;exact List.length_filter_le _ _
   have:=rK 32 l;simp at h1;omega
  have jf:=aeq w0 r false (fun w X=>(aI w (List.mem_cons_of_mem _ X)).1) a9;obtain⟨aJ,ba⟩:=ajj p w0 r;have j:=D8 rp w0 (r,false);have Y:(eU p w0 (r,false)).1.rs.length<=i+1:=by exact Rj
  generalize (eU p w0 (r,false)).1=Z at *;generalize (eU p w0 (r,false)).2=bb at *;by_cases aC:fN bb=true
  .rw[if_pos aC]at cJ;rw[cJ,n_ (by show¬(10:Int)=0;decide)];rw[aC]at aJ;unfold C5 at jf;rw[aJ]at jf;by_cases a1:vu w0 r
   .rw[if_pos a1]at jf;generalize hd (jy w0 r).1=bc at *;exact S8
   rw[if_neg a1]at jf;exact S8
  rw[if_neg aC]at cJ;have aL:(jy w0 r).2=true:=by rw[aJ];simpa using aC
  have Lt:=ba aL;have aD:=ajo aL;have ac:=afH aD;unfold C5 at jf;rw[if_pos aD,aL]at jf;generalize (jy w0 r).1=o at *;have C:(_a #[112,97,115,115]:ByteArray)=I ee:=rfl;have M:(_a #[100,114,111,112]:ByteArray)=I fu:=rfl;by_cases m:w0=ee\/w0=fu
  .rw[if_pos m]at cJ;have bd:(gr w0).1=[116,116,110,98,98]:=by rcases m with rfl|rfl<;>decide
   rw[bd]at ac;obtain⟨aj,aM,am,aN,aO,aP,aQ,aR,aT,rfl⟩:=adT (ac.trans ae);have c:Z={p with rs:=p.rs++[⟨aj,aM,am,aN,aO,aP,aQ,aR,aT,decide (w0=ee)⟩]}:=by
    rw[<-Lt];unfold sw;rw[if_pos m];rfl
   subst c;have a2:=j.2 _ (List.mem_append.2 (.inr (List.mem_singleton.2 rfl)));have aV:IntKind.u32.wrap aj=aj:=by have:=a2.1;dsimp only at this;rw[ye];omega
   have be:IntKind.u32.wrap am=am:=by have:=a2.2;dsimp only at this;rw[ye];omega
   have bx:∀x:bN,(p.rs++[x]).length=p.rs.length+1:=fun x=>aF
   have bA:∀x:bN,(p.rs++[x]).map bN.enc=p.rs.map bN.enc++[x.enc]:=fun x=>aF
   have bg:=PV p.rs;have xV:(p.rs.map bN.enc).length=p.rs.length:=aF;have bB:decide (I w0=I ee)=decide (w0=ee):=decide_eq_decide.2 dF;have f:hd [aj,aM,am,aN,aO,aP,aQ,aR,aT]=[[.v (.int .i64 aj)],[.v (.int .i64 aM)],[.v (.int .i64 am)],[.v (.int .i64 aN)],[.v (.int .i64 aO)],[.v (.int .i64 aP)],[.v (.int .i64 aQ)],[.v (.int .i64 aR)],[.v (.int .i64 aT)]]:=rfl;rw[f]at jf;rcases m with rfl|rfl
   all_goals
    have d1:decide (I ee=I ee)=true:=decide_eq_true rfl;have d2:decide (I fu=I ee)=false:=decide_eq_false dw;have d3:decide (I fu=I fu)=true:=decide_eq_true rfl;have d4:decide (ee=ee)=true:=ae;have d5:decide (fu=ee)=false:=ae;repeat' first|refine af ?_|simp only[ox,bf,qa,bl,q4,b3,bO,b_,aU,C,M,d1,d2,d3,aV,be]|refine J oO ?_|refine J oB ?_|refine J jf ?_|refine ag ?_|refine ab ?_ ?_<;>intro h<;>try exact aa|simp only[jq]|((with_reducible refine p9 ?_);first|refine aK ⟨aH,aH,aH,aH,xV.symm⟩ ?_|refine aK ⟨bg,by rw[xV];unfold cx maxLen;simp only[List.length_cons,List.length_nil];omega⟩ ?_)|exact al|fail
   all_goals
    refine br ⟨(i+1,_,eL,tC,bR+1,bR+2),⟨uo,Y,xQ,j,cJ⟩,q0,?_⟩;refine dB ?_ ?_ (Nat.le_refl _);all_goals first|refine dD ?_|exact dE
    all_goals repeat' first|exact trivial|exact rfl|apply And.intro
   all_goals simp[JL,b6.enc,bN.enc]
  rw[if_neg m]at cJ;have ah:=adt aD.1 m;have u:=ahh eL xQ w0 ah;have d1:decide (I w0=I ee)=false:=decide_eq_false (fun q=>m (.inl (dF.1 q)));have d2:decide (I w0=I fu)=false:=decide_eq_false (fun q=>m (.inr (dF.1 q)));have ai:(_a #[32]:ByteArray)=I [32]:=rfl;by_cases ao:w0∈eL
  .rw[if_pos ao]at cJ;rw[decide_eq_true ao]at u;rw[cJ,n_ (by show¬(8:Int)=0;decide)];generalize hd o=bc at *;repeat' first|refine af ?_|simp only[ox,bf,qa,ai,bl,q4,b3,bO,b_,aU,C,M,d1,d2,dt]|refine J oO ?_|refine J oB ?_|refine J jf ?_|refine J u ?_|refine ag ?_|refine ab ?_ ?_<;>intro h<;>try exact aa|simp only[jq]|refine aK KX ?_|exact al|fail
   all_goals exact b0
  rw[if_neg ao]at cJ;rw[decide_eq_false ao]at u;have ap:=ama xQ ah ao;have bh:=P5 eL w0;have f1:(_a #[111,117,116,115,105,100,101]:ByteArray)=I cV:=rfl;have f2:(_a #[112,111,114,116,115]:ByteArray)=I cX:=rfl;have f3:(_a #[108,105,102,101]:ByteArray)=I cU:=rfl;have f4:(_a #[114,97,116,101]:ByteArray)=I c0:=rfl;have f5:(_a #[101,108,115,101]:ByteArray)=I cM:=rfl;have aq:∀a b:ak,decide (I a=I b)=decide (a=b):=fun a b=>decide_eq_decide.2 dF
  have a3:∀w∈mn,w.length<=7:=ae;have a3:=a3 w0 ah;have au:gQ eL++(w0++[32])=gQ (eL++[w0]):=by rw[bh];simp
  unfold mn at ah;simp only[List.mem_cons,List.not_mem_nil,or_false]at ah;rcases ah with rfl|rfl|rfl|rfl|rfl
  .obtain⟨a,rfl⟩:=Sn (ac.trans ae);have c:Z={p with ou:=a}:=Em;subst c;have aV:IntKind.u32.wrap a=a:=by have:=j.1;dsimp only at this;rw[ye];omega
   have f:hd [a]=[[.v (.int .i64 a)]]:=rfl;have g:decide (cV=cV)=true:=ae;rw[f]at jf;repeat' first|refine af ?_|simp only[ox,bf,qa,ai,bl,q4,b3,bO,b_,aU,C,M,d1,d2,dt,au,f1,f2,f3,f4,f5,aq,aV,g]|refine J oO ?_|refine J oB ?_|refine J jf ?_|refine J u ?_|refine ag ?_|refine ab ?_ ?_<;>intro h<;>try exact aa|simp only[jq]|refine aK n9 ?_|exact al|fail
   refine br ⟨(i+1,_,eL++[cV],tC,mj,bR),⟨uo,Y,ap,j,cJ⟩,q0,?_⟩;exact AT
  .obtain⟨a,b,rfl⟩:=T5 (ac.trans ae);have c:Z={p with lt:=a,st:=b}:=Em;subst c;have f:hd [a,b]=[[.v (.int .i64 a)],[.v (.int .i64 b)]]:=rfl;have g:decide (cX=cX)=true:=ae;have Q:decide (cX=cV)=false:=ae;rw[f]at jf;repeat' first|refine af ?_|simp only[ox,bf,qa,ai,bl,q4,b3,bO,b_,aU,C,M,d1,d2,dt,au,f1,f2,f3,f4,f5,aq,g,Q]|refine J oO ?_|refine J oB ?_|refine J jf ?_|refine J u ?_|refine ag ?_|refine ab ?_ ?_<;>intro h<;>try exact aa|simp only[jq]|refine aK n9 ?_|exact al|fail
   refine br ⟨(i+1,_,eL++[cX],tC,mj,bR),⟨uo,Y,ap,j,cJ⟩,q0,?_⟩;exact AT
  .obtain⟨a,rfl⟩:=Sn (ac.trans ae);have c:Z={p with lf:=a}:=Em;subst c;have f:hd [a]=[[.v (.int .i64 a)]]:=rfl;have g:decide (cU=cU)=true:=ae;have Q:decide (cU=cV)=false:=ae;have av:decide (cU=cX)=false:=ae;rw[f]at jf;repeat' first|refine af ?_|simp only[ox,bf,qa,ai,bl,q4,b3,bO,b_,aU,C,M,d1,d2,dt,au,f1,f2,f3,f4,f5,aq,g,Q,av]|refine J oO ?_|refine J oB ?_|refine J jf ?_|refine J u ?_|refine ag ?_|refine ab ?_ ?_<;>intro h<;>try exact aa|simp only[jq]|refine aK n9 ?_|exact al|fail
   refine br ⟨(i+1,_,eL++[cU],tC,mj,bR),⟨uo,Y,ap,j,cJ⟩,q0,?_⟩;exact AT
  .obtain⟨a,b,rfl⟩:=T5 (ac.trans ae);have c:Z={p with ra:=a,mo:=b}:=Em;subst c;have f:hd [a,b]=[[.v (.int .i64 a)],[.v (.int .i64 b)]]:=rfl;have g:decide (c0=c0)=true:=ae;have Q:decide (c0=cV)=false:=ae;have av:decide (c0=cX)=false:=ae;have aX:decide (c0=cU)=false:=ae;rw[f]at jf;repeat' first|refine af ?_|simp only[ox,bf,qa,ai,bl,q4,b3,bO,b_,aU,C,M,d1,d2,dt,au,f1,f2,f3,f4,f5,aq,g,Q,av,aX]|refine J oO ?_|refine J oB ?_|refine J jf ?_|refine J u ?_|refine ag ?_|refine ab ?_ ?_<;>intro h<;>try exact aa|simp only[jq]|refine aK n9 ?_|exact al|fail
   refine br ⟨(i+1,_,eL++[c0],tC,mj,bR),⟨uo,Y,ap,j,cJ⟩,q0,?_⟩;exact AT
  have bi:r.length=1:=by rw[<-aD.2];decide
  obtain⟨y,rfl⟩:∃y,r=[y]:=by
   match r,bi with
   |[y],_=>exact⟨y,rfl⟩
  have bj:cf (bk ((cM::[y]).map I)) 1=[.v (.string (I y))]:=rfl;have c:Z={p with el:=decide (y=ee)}:=by
   rw[<-Lt];show{p with el:=decide (some y=some ee)}=_;simp
  subst c;have f:hd o=hd o:=rfl;have g:decide (cM=cM)=true:=ae;have Q:decide (cM=cV)=false:=ae;have av:decide (cM=cX)=false:=ae;have aX:decide (cM=cU)=false:=ae;have bn:decide (cM=c0)=false:=ae;rw[f]at jf;repeat' first|refine af ?_|simp only[ox,bf,qa,ai,bl,q4,b3,bO,b_,aU,C,M,d1,d2,dt,au,f1,f2,f3,f4,f5,aq,g,Q,av,aX,bn,bj]|refine J oO ?_|refine J oB ?_|refine J jf ?_|refine J u ?_|refine ag ?_|refine ab ?_ ?_<;>intro h<;>try exact aa|simp only[jq]|refine aK n9 ?_|exact al|fail
  refine br ⟨(i+1,_,eL++[cM],tC,mj,bR),⟨uo,Y,ap,j,cJ⟩,q0,?_⟩;exact AT
end Go.Proofs.YtdiobdlinjgakaaGreatDoor.R
