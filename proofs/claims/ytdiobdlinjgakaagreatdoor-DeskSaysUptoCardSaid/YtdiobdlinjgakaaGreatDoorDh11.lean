import Derived.Test.YtdiobdlinjgakaaGreatDoorDh10
set_option linter.unusedVariables false
set_option linter.unusedSimpArgs false
set_option maxHeartbeats 8000000
set_option maxRecDepth 100000
open Go.Proofs.Tryz
open List renaming length_map->_a,length_cons->_d,length_nil->_e,length_filter_le->_g,filter_sublist->_h,getElem?_eq_getElem->_i,map->_j
open Int renaming toNat_natCast->_b
open Go.IntWalk renaming i64_in->_c
open Go.IntKind renaming i64->_f
namespace Go.Proofs.YtdiobdlinjgakaaGreatDoor.A
attribute [local irreducible] bc Go
theorem acy(l:List Mp)(c:Bool)(hl:cx l.length 40):ml prog 212 [.snap 5 (l.map Mp.enc) c] [] (fun n d H=>d=.aG 1 n 5 0 l.length false/\H=[some ⟨n,5,l.map Mp.enc⟩]):=by
 have b:∀r:List Mp,eW (r.map Mp.enc)=true:=j2 (fun x=>rfl);cases l with
 |nil=>
  refine yX {} 0 func212 fun Γ an=>ar ?_
  exact Pt
 |cons x r=>
  refine yX {} 0 func212 fun Γ an=>ar ?_
  dsimp only[_j];repeat' first|refine af ?_|with_reducible refine hZ ?_|refine ag ?_|refine ab ?_ ?_<;>intro h<;>try exact aa|refine aK ⟨Or.inl G,rfl,b _,yz⟩ ?_
  refine ua 1 (fun n=>.aG 1 n 5 0 (x::r).length false) trivial rfl Gh ?_ (fun n=>.inl ⟨rfl,?_⟩) (fun n=>⟨rfl,rfl⟩)
  .exact(eS (fun x=>fY):c1 Γ.g0 ((x::r).map Mp.enc))
  simp[_a]
theorem Yf(j:Nat)(l:List Mp)(c:Bool)(hl:cx l.length 40):ml prog 212 [.snap 5 (l.map Mp.enc) c] [] (fun n d H=>d=.aG j n 5 0 l.length false/\H=[some ⟨n,5,l.map Mp.enc⟩]):=
 IA (acy l c hl) (fun K w n v h=>o9 h)
theorem yj(l:List Mp)(c:Bool)(hl:cx l.length 40):Spec prog 212 [.snap 5 (l.map Mp.enc) c] (.snap 5 (l.map Mp.enc) false):=by
 have b:∀r:List Mp,eW (r.map Mp.enc)=true:=j2 (fun x=>rfl);have kZ:∀g,c1 g (l.map Mp.enc):=fun g=>eS (fun x=>fY)
 cases l with
 |nil=>
  refine az {} 0 func212 fun Γ an=>ar ?_
  dsimp only[_j];repeat' first|refine af ?_|with_reducible refine hZ ?_|refine ag ?_|refine ab ?_ ?_<;>intro h<;>try exact aa|fail
  .refine ev (j1 (gU ⟨.d0,.d0,.d2⟩ 1 5 rfl rfl)) (ev (fG an ⟨.d0,.d0,.d2⟩ rfl rfl ⟨rfl,rfl,hT⟩) ?_);exact Io
  exact JR
 |cons x r=>
  refine az {} 0 func212 fun Γ an=>ar ?_
  dsimp only[_j];repeat' first|refine af ?_|with_reducible refine hZ ?_|refine ag ?_|refine ab ?_ ?_<;>intro h<;>try exact aa|refine aK ⟨Or.inl G,rfl,b _,yz⟩ ?_
  refine ev (fG an ⟨.d0,.d0,.d2⟩ rfl rfl ⟨rfl,rfl,aF⟩) ?_;rw[show cp (cC ([]++Mp.enc x::r.map Mp.enc) 0) (0+((r.map Mp.enc).length+1))=(x::r).map Mp.enc from e1 aF];exact Na
def dh(ms:List Mp):Int:=match ms[ms.length-1]? with|some b=>b.tm|none=>0
abbrev hJ(l ah:Int)(t1:Nat)(ai:Int)(t2:Nat)(ms:List Mp)(p e:Int):O:=.aS [eK l ah t1 ai t2 ms,.v (.int .i64 p),.v (.int .i64 e)]
theorem Ej(ms:List Mp)(c:0<ms.length):∃b,ms[ms.length-1]?=some b/\dh ms=b.tm:=by
 refine⟨ms[ms.length-1],_i G,?_⟩;unfold dh;rw[_i G]
section
variable (l ah:Int) (t1:Nat) (ai:Int) (t2:Nat) (ms:List Mp) (pr ad po now:Int) (hl:ms.length*40<=140737488351232) (h10:t1<18446744073709551616) (cr:t2<18446744073709551616)
include hl h10 cr
theorem ahD{e:Int}(f:dQ l ah t1 ai t2 ms=e)(j:¬e=0):Spec prog 260 [eK l ah t1 ai t2 ms,.v (.int .i64 pr),.v (.int .u32 ad),.v (.int .i64 po),.v (.int .i64 now)] (hJ l ah t1 ai t2 ms 0 e):=by
 have c:ms.length<=maxLen:=fg;have h1:=yj ms false ⟨c,G⟩;have h2:=su l ah t1 ai t2 ms c h10 cr;rw[f]at h2;have fa:(ms.map Mp.enc).length=ms.length:=_a _;have o0:True:=trivial;have Bl:True:=trivial;have Cv:True:=trivial;exact Nq
theorem ai9(j:dQ l ah t1 ai t2 ms=0)(C:¬(pr=6\/pr=17)):Spec prog 260 [eK l ah t1 ai t2 ms,.v (.int .i64 pr),.v (.int .u32 ad),.v (.int .i64 po),.v (.int .i64 now)] (hJ l ah t1 ai t2 ms 0 7):=by
 have c:ms.length<=maxLen:=fg;have h1:=yj ms false ⟨c,G⟩;have h2:=su l ah t1 ai t2 ms c h10 cr;rw[j]at h2;have fa:(ms.map Mp.enc).length=ms.length:=_a _;have f:dh ms=dh ms:=rfl;by_cases m:0<ms.length;obtain⟨I,q,u⟩:=Ej ms m;rw[u]at f;have Cv:=kW q;have o0:_f.wrap ((ms.length:Int)-1)=((ms.length-1:Nat):Int):=(_c _ G).trans G;have Bl:=_b (ms.length-1);rotate_left;have o0:True:=trivial;have Bl:True:=trivial;have Cv:True:=trivial;have z:dh ms=0:=Jk;rw[z]at f
 all_goals
  exact Nq
theorem alr(m:dQ l ah t1 ai t2 ms=0)(c:pr=6\/pr=17)(f:¬((0<=po/\po<=65535)/\dh ms<=now/\now<=1099511627776)):Spec prog 260 [eK l ah t1 ai t2 ms,.v (.int .i64 pr),.v (.int .u32 ad),.v (.int .i64 po),.v (.int .i64 now)] (hJ l ah t1 ai t2 ms 0 1):=by
 have j:ms.length<=maxLen:=fg;have h1:=yj ms false ⟨j,G⟩;have h2:=su l ah t1 ai t2 ms j h10 cr;rw[m]at h2;have fa:(ms.map Mp.enc).length=ms.length:=_a _;by_cases q:0<ms.length;obtain⟨I,u,z⟩:=Ej ms q;rw[z]at f;have Cv:=kW u;have o0:_f.wrap ((ms.length:Int)-1)=((ms.length-1:Nat):Int):=(_c _ G).trans G;have Bl:=_b (ms.length-1);rotate_left;have o0:True:=trivial;have Bl:True:=trivial;have Cv:True:=trivial;have C:dh ms=0:=Jk;rw[C]at f
 all_goals
  rcases c with c|c
  all_goals
   exact Nq
theorem ad2(z:dQ l ah t1 ai t2 ms=0)(j:pr=6\/pr=17)(U:((0<=po/\po<=65535)/\dh ms<=now/\now<=1099511627776)){i:Nat}{c:Mp}(m:(av l now ms)[i]?=some c)(X:bU (gH pr ad po) (av l now ms) 0=(i:Int))(Y:gH pr ad po c=true):
 Spec prog 260 [eK l ah t1 ai t2 ms,.v (.int .i64 pr),.v (.int .u32 ad),.v (.int .i64 po),.v (.int .i64 now)] (hJ l ah (aQ ah 17 (av l now ms)) ai (aQ ai 6 (av l now ms)) (bH pr ad po (av l now ms)++[⟨pr,ad,po,c.ou,now⟩]) c.ou 0):=by
 obtain⟨Z,ac,b8,rfl,rfl⟩:=oU h10 cr z;have f:ms.length<=maxLen:=fg;have h1:=yj ms false ⟨f,G⟩;have aj:=Yf 1 ms false ⟨f,G⟩;have h2:=su l ah (aQ ah 17 ms) ai (aQ ai 6 ms) ms f h10 cr;rw[z]at h2;have ak:(ms.map Mp.enc).length=ms.length:=_a _;obtain⟨aP,am,ao⟩:=U;have aR:0<=dh ms:=by exact so
 have ap:=fun n aq=>dN 4 (XQ l ah ai now ms n aq b8 ac f Z ⟨G,ao⟩)
 have aS:(av l now ms).length<=ms.length:=_g _ _;have C:kE ah ai (av l now ms):=b8.sub (_h (p:=jN l now) (l:=ms));have I:=Fs l ah (aQ ah 17 (av l now ms)) ai (aQ ai 6 (av l now ms)) (av l now ms) pr ad po fg;rw[X]at I;have aT:i<(av l now ms).length:=(List.getElem?_eq_some_iff.1 m).1;have au:=kW m;have aw:∀n,b1 prog 277 [.aG 1 n 5 0 (av l now ms).length false,.v (.int .i64 (i:Nat)),.v (.int .i64 ((i+1:Nat):Int))] [some ⟨n,5,(av l now ms).map Mp.enc⟩] (fun d H=>d=.aG 1 n 5 0 (bH pr ad po (av l now ms)).length false/\H=[some ⟨n,5,(bH pr ad po (av l now ms)).map Mp.enc⟩]):=fun n=>by
  rw[SK C m Y];exact RY 1 (av l now ms) i (i+1) G G fg n
 have aU:(bH pr ad po (av l now ms)).length<=(av l now ms).length:=_g _ _;have M:((av l now ms).map Mp.enc).length=(av l now ms).length:=_a _;have QW:((bH pr ad po (av l now ms)).map Mp.enc).length=(bH pr ad po (av l now ms)).length:=_a _;have ax:_f.wrap ((i:Int)+1)=((i+1:Nat):Int):=(_c _ G).trans G;have aA:True:=trivial;have aC:True:=trivial;have aD:((bH pr ad po (av l now ms)).map Mp.enc)++[(⟨pr,ad,po,c.ou,now⟩:Mp).enc]=(bH pr ad po (av l now ms)++[(⟨pr,ad,po,c.ou,now⟩:Mp)]).map Mp.enc:=nu;unfold hJ eK ru;clear C b8;generalize av l now ms=q at *;generalize bH pr ad po q=O at *;generalize aQ ah 17 q=aE at *;generalize aQ ai 6 q=aI at *;generalize aQ ah 17 ms=aV at *;generalize aQ ai 6 ms=aX at *;have aJ:=fun g=>kl g (O++[(⟨pr,ad,po,c.ou,now⟩:Mp)])
 have u:0<ms.length->_f.wrap ((ms.length:Int)-1)=((ms.length-1:Nat):Int):=fun _=>(_c _ G).trans G
 have aL:=_b (ms.length-1);have Q:0<ms.length:=G;have u:=u Q;obtain⟨aY,aM,aN⟩:=Ej ms Q;rw[aN]at am;have aO:=kW aM;rcases j with j|j
 all_goals
  refine az {} 2 func260 fun Γ an=>ar ?_
  refine j8 ?_;repeat' first|refine wM ?_|refine ag ?_|refine ab ?_ ?_<;>intro h<;>try exact aa|fail
  refine j8 ?_;repeat' first|refine wM ?_|refine J h1 ?_|refine ag ?_|refine ab ?_ ?_<;>intro h<;>try exact aa|fail
  repeat' first|refine af ?_|refine J h2 ?_|with_reducible refine oM 1 aj ?_|refine Ax 4 1 ae rfl rfl (ap _ _) (fun _ _ _ h=>h) ?_|refine gC 1 rfl I ⟨⟨rfl,rfl,rfl,rfl,rfl,.inl ⟨rfl,rfl,aF,kP⟩,rfl⟩,rfl,rfl,rfl,rfl⟩ rfl ?_|refine bE 1 rfl (aw _) (fun _ _ _ h=>h) ?_|refine Ax 4 1 ae rfl rfl (aA _ _) (fun _ _ _ h=>h) ?_|refine J aC ?_|simp only[ak,M,u,ax]|refine ag ?_|refine ab ?_ ?_<;>intro h<;>try exact aa|simp only[aL,aO]|simp only[_b,Nat.zero_add,au]|refine aK ⟨by(try rw[M]);omega,aH⟩ ?_|refine aK ⟨aH,Yu⟩ ?_|exact al|fail
  all_goals try exfalso;simp at h;done
  rw[aD];refine ev (j_ an 3 8 ae (ys:=[[.v (.int .i64 l),.v (.int .i64 ah),.v (.int .u64 (aE:Nat)),.v (.int .i64 ai),.v (.int .u64 (aI:Nat)),.snap 5 ((O++[(⟨pr,ad,po,c.ou,now⟩:Mp)]).map Mp.enc) false]]) rfl rfl ⟨⟨rfl,rfl,rfl,rfl,rfl,Or.inl ⟨rfl,rfl,aF,kP⟩,rfl⟩,rfl⟩) ?_;all_goals with_reducible refine zf (by(try first|refine kM ?_|exact cc);(repeat' (first|exact trivial|exact rfl|exact eS (fun x=>by simp[eV,dn,dn,eV,aJ])|decide|apply And.intro))) ?_
  all_goals (try first|refine kM ?_|exact cc)
  all_goals (try simp only[cE]at *)
end
section
variable (l ah:Int) (t1:Nat) (ai:Int) (t2:Nat) (ms:List Mp) (pr ad po now:Int) (hl:ms.length*40<=140737488351232) (h10:t1<18446744073709551616) (cr:t2<18446744073709551616)
include hl h10 cr
theorem Dv(O:dQ l ah t1 ai t2 ms=0)(am:((0<=po/\po<=65535)/\dh ms<=now/\now<=1099511627776))(ao:bU (gH pr ad po) (av l now ms) 0 = -1){c:Int}{B:Int}{T:Nat}{p e:Int}(I:Spec prog 278 [.agg [.v (.int .i64 c),.v (.int .u64 (aQ c pr (av l now ms):Nat))],.v (.int .i64 po)] (iF B T p e)){j m:Int}{q u:Nat}
 (ap:(pr=17/\c=ah/\j=B/\q=T/\m=ai/\u=aQ ai 6 (av l now ms))\/(pr=6/\c=ai/\j=ah/\q=aQ ah 17 (av l now ms)/\m=B/\u=T)) :
 (¬e=0->Spec prog 260 [eK l ah t1 ai t2 ms,.v (.int .i64 pr),.v (.int .u32 ad),.v (.int .i64 po),.v (.int .i64 now)] (hJ l ah t1 ai t2 ms 0 e))/\
 (e=0->Spec prog 260 [eK l ah t1 ai t2 ms,.v (.int .i64 pr),.v (.int .u32 ad),.v (.int .i64 po),.v (.int .i64 now)] (hJ l j q m u (av l now ms++[⟨pr,ad,po,p,now⟩]) p 0)):=by
 obtain⟨au,aw,b8,rfl,rfl⟩:=oU h10 cr O;have z:ms.length<=maxLen:=fg;have h1:=yj ms false ⟨z,G⟩;have ax:=Yf 1 ms false ⟨z,G⟩;have h2:=su l ah (aQ ah 17 ms) ai (aQ ai 6 ms) ms z h10 cr;rw[O]at h2;have aA:(ms.map Mp.enc).length=ms.length:=_a _;obtain⟨aZ,Q,aC⟩:=am;have a0:0<=dh ms:=by exact so
 have aD:=fun n aq=>dN 4 (XQ l ah ai now ms n aq b8 aw z au ⟨G,aC⟩)
 have a1:(av l now ms).length<=ms.length:=_g _ _;have aE:kE ah ai (av l now ms):=b8.sub (_h (p:=jN l now) (l:=ms));have U:=Fs l ah (aQ ah 17 (av l now ms)) ai (aQ ai 6 (av l now ms)) (av l now ms) pr ad po fg;rw[ao]at U;have aG:True:=trivial;have aI:True:=trivial;have M:((av l now ms).map Mp.enc).length=(av l now ms).length:=_a _;have QW:=M;have aL:True:=trivial;have aM:((av l now ms).map Mp.enc)++[(⟨pr,ad,po,p,now⟩:Mp).enc]=(av l now ms++[(⟨pr,ad,po,p,now⟩:Mp)]).map Mp.enc:=nu;unfold hJ eK ru;unfold iF at I;clear aE b8;rcases ap with⟨f,aN,aO,aP,aR,aS⟩|⟨f,aN,aO,aP,aR,aS⟩;subst c j q m u;have X:=fun n aq=>xp (dN 4 (DV n aq l ah (aQ ah 17 (av l now ms)) ai (aQ ai 6 (av l now ms)) (av l now ms).length (av l now ms) pr (.inl f))) (D':=.ptr 4 n 6 0 1) (fun K w v h=>by rw[f]at h;exact re (show aJ K w (.ptr 0 n 6 0 1) v from h))
 rotate_left;subst c j q m u;have X:=fun n aq=>xp (dN 4 (DV n aq l ah (aQ ah 17 (av l now ms)) ai (aQ ai 6 (av l now ms)) (av l now ms).length (av l now ms) pr (.inr f))) (D':=.ptr 4 n 6 0 3) (fun K w v h=>by rw[f]at h;exact re (show aJ K w (.ptr 0 n 6 0 3) v from h))
 all_goals
  rw[f]at I;generalize av l now ms=C at *;generalize aQ ah 17 C=a2 at *;generalize aQ ai 6 C=a3 at *;generalize aQ ah 17 ms=a4 at *;generalize aQ ai 6 ms=a5 at *;have Y:=fun g=>kl g ms
  have Z:=fun g=>kl g (C++[(⟨pr,ad,po,p,now⟩:Mp)])
  constructor
  all_goals
   intro aT;by_cases aU:0<ms.length;obtain⟨a6,aV,aX⟩:=Ej ms aU;rw[aX]at Q;have ac:=kW aV;have aj:_f.wrap ((ms.length:Int)-1)=((ms.length-1:Nat):Int):=(_c _ G).trans G;have ak:=_b (ms.length-1);rotate_left;have aj:True:=trivial;have ak:True:=trivial;have ac:True:=trivial;have aY:dh ms=0:=Jk;rw[aY]at Q
   all_goals
    refine az {} 2 func260 fun Γ an=>ar ?_
    refine j8 ?_;repeat' first|refine wM ?_|refine ag ?_|refine ab ?_ ?_<;>intro h<;>try exact aa|fail
    refine j8 ?_;repeat' first|refine wM ?_|refine J h1 ?_|refine ag ?_|refine ab ?_ ?_<;>intro h<;>try exact aa|fail
    repeat' first|refine af ?_|refine J h2 ?_|with_reducible refine oM 1 ax ?_|refine Ax 4 1 ae rfl rfl (aD _ _) (fun _ _ _ h=>h) ?_|refine gC 1 rfl U ⟨⟨rfl,rfl,rfl,rfl,rfl,.inl ⟨rfl,rfl,aF,kP⟩,rfl⟩,rfl,rfl,rfl,rfl⟩ rfl ?_|refine bE 1 rfl (aI _) (fun _ _ _ h=>h) ?_|refine Ax 4 1 ae rfl rfl (X _ _) (fun _ _ _ h=>h) ?_|refine J I ?_|simp only[aA,M,aj,aL]|refine ag ?_|refine ab ?_ ?_<;>intro h<;>try exact aa|simp only[ak,ac]|simp only[_b,Nat.zero_add,aG]|refine aK ⟨by(try rw[M]);omega,aH⟩ ?_|refine aK ⟨aH,Yu⟩ ?_|exact al|fail
    all_goals try exfalso;simp at h;done
    first|(with_reducible refine zf (by(try dsimp only[rT,hQ,fB,qK,hp,qV,qY,pL,pX,fC,dn,eV,c1,jb,aB,kx,cf,fT,kJ,jY,bQ.get,c9.get,eH,_d,_e,bQ.set,c9.set,cl,d_]);(repeat' (first|exact trivial|exact rfl|exact FZ|exact Y _|exact Z _|decide|apply And.intro))) ?_);(try dsimp only[rT,hQ,fB,qK,hp,qV,qY,pL,pX,fC,dn,eV,c1,jb,aB,kx,cf,fT,kJ,jY,bQ.get,c9.get,eH,_d,_e,bQ.set,c9.set,cl,d_]);done|rw[aM];refine ev (j_ an 3 8 ae (ys:=[[.v (.int .i64 l),.v (.int .i64 _),.v (.int .u64 _),.v (.int .i64 _),.v (.int .u64 _),.snap 5 ((C++[(⟨pr,ad,po,p,now⟩:Mp)]).map Mp.enc) false]]) rfl rfl ⟨⟨rfl,rfl,rfl,rfl,rfl,Or.inl ⟨rfl,rfl,aF,kP⟩,rfl⟩,rfl⟩) ?_;(with_reducible refine zf (by(try dsimp only[rT,hQ,fB,qK,hp,qV,qY,pL,pX,fC,dn,eV,c1,jb,aB,kx,cf,fT,kJ,jY,bQ.get,c9.get,eH,_d,_e,bQ.set,c9.set,cl,d_]);(repeat' (first|exact trivial|exact rfl|exact FZ|exact Y _|exact Z _|decide|apply And.intro))) ?_);(try dsimp only[rT,hQ,fB,qK,hp,qV,qY,pL,pX,fC,dn,eV,c1,jb,aB,kx,cf,fT,kJ,jY,bQ.get,c9.get,eH,_d,_e,bQ.set,c9.set,cl,d_]);try rw[aT]
end
end Go.Proofs.YtdiobdlinjgakaaGreatDoor.A
namespace Go.Proofs.YtdiobdlinjgakaaGreatDoor.A
def Cy(l ah:Int)(t1:Nat)(ai:Int)(t2:Nat)(ms:List Mp)(pr ad po now:Int):Nat×Nat×List Mp×Int×Int:=
 if dQ l ah t1 ai t2 ms≠0 then(t1,t2,ms,0,dQ l ah t1 ai t2 ms)else if¬(pr=6\/pr=17)then(t1,t2,ms,0,7)
 else if¬((0<=po/\po<=65535)/\dh ms<=now/\now<=1099511627776)then(t1,t2,ms,0,1)
 else match(av l now ms).find? (gH pr ad po)with
 |some b=>(aQ ah 17 (av l now ms),aQ ai 6 (av l now ms),bH pr ad po (av l now ms)++[⟨pr,ad,po,b.ou,now⟩],b.ou,0)
 |none=>
  if pr=6 then(if hR ai (aQ ai 6 (av l now ms)) po=0 then(aQ ah 17 (av l now ms),aQ ai 6 (av l now ms)+2 ^ dO ai (aQ ai 6 (av l now ms)) po,av l now ms++[⟨6,ad,po,ai+dO ai (aQ ai 6 (av l now ms)) po,now⟩],ai+dO ai (aQ ai 6 (av l now ms)) po,0)else(t1,t2,ms,0,hR ai (aQ ai 6 (av l now ms)) po))
  else(if hR ah (aQ ah 17 (av l now ms)) po=0 then(aQ ah 17 (av l now ms)+2 ^ dO ah (aQ ah 17 (av l now ms)) po,aQ ai 6 (av l now ms),av l now ms++[⟨17,ad,po,ah+dO ah (aQ ah 17 (av l now ms)) po,now⟩],ah+dO ah (aQ ah 17 (av l now ms)) po,0)else(t1,t2,ms,0,hR ah (aQ ah 17 (av l now ms)) po))
abbrev x9(l ah ai:Int)(r:Nat×Nat×List Mp×Int×Int):O:=hJ l ah r.1 ai r.2.1 r.2.2.1 r.2.2.2.1 r.2.2.2.2
section
variable (l ah:Int) (t1:Nat) (ai:Int) (t2:Nat) (ms:List Mp) (pr ad po now:Int)
theorem Mm{Q:Nat×Nat×List Mp×Int×Int->Prop}(bl:dQ l ah t1 ai t2 ms≠0->Q (t1,t2,ms,0,dQ l ah t1 ai t2 ms))(bD:dQ l ah t1 ai t2 ms=0->¬(pr=6\/pr=17)->Q (t1,t2,ms,0,7))
 (eO:dQ l ah t1 ai t2 ms=0->(pr=6\/pr=17)->¬((0<=po/\po<=65535)/\dh ms<=now/\now<=1099511627776)->Q (t1,t2,ms,0,1))
 (C:dQ l ah t1 ai t2 ms=0->(pr=6\/pr=17)->((0<=po/\po<=65535)/\dh ms<=now/\now<=1099511627776)->∀(i:Nat)(f:Mp),(av l now ms)[i]?=some f->bU (gH pr ad po) (av l now ms) 0=i->gH pr ad po f=true->Q (aQ ah 17 (av l now ms),aQ ai 6 (av l now ms),bH pr ad po (av l now ms)++[⟨pr,ad,po,f.ou,now⟩],f.ou,0))
 (I:dQ l ah t1 ai t2 ms=0->((0<=po/\po<=65535)/\dh ms<=now/\now<=1099511627776)->bU (gH pr ad po) (av l now ms) 0 = -1->(∀u∈av l now ms,gH pr ad po u=false)->
   (pr=6->¬hR ai (aQ ai 6 (av l now ms)) po=0->Q (t1,t2,ms,0,hR ai (aQ ai 6 (av l now ms)) po))/\(pr=17->¬hR ah (aQ ah 17 (av l now ms)) po=0->Q (t1,t2,ms,0,hR ah (aQ ah 17 (av l now ms)) po))/\
   (pr=6->hR ai (aQ ai 6 (av l now ms)) po=0->Q (aQ ah 17 (av l now ms),aQ ai 6 (av l now ms)+2 ^ dO ai (aQ ai 6 (av l now ms)) po,av l now ms++[⟨6,ad,po,ai+dO ai (aQ ai 6 (av l now ms)) po,now⟩],ai+dO ai (aQ ai 6 (av l now ms)) po,0))/\
   (pr=17->hR ah (aQ ah 17 (av l now ms)) po=0->Q (aQ ah 17 (av l now ms)+2 ^ dO ah (aQ ah 17 (av l now ms)) po,aQ ai 6 (av l now ms),av l now ms++[⟨17,ad,po,ah+dO ah (aQ ah 17 (av l now ms)) po,now⟩],ah+dO ah (aQ ah 17 (av l now ms)) po,0))):Q (Cy l ah t1 ai t2 ms pr ad po now):=by
 unfold Cy;by_cases c:dQ l ah t1 ai t2 ms=0;rotate_left
 .rw[if_pos c];exact bl c
 rw[if_neg (not_not_intro c)];by_cases g:pr=6\/pr=17;rotate_left
 .rw[if_pos g];exact bD c g
 rw[if_neg (not_not_intro g)];by_cases j:(0<=po/\po<=65535)/\dh ms<=now/\now<=1099511627776;rotate_left
 .rw[if_pos j];exact eO c g j
 rw[if_neg (not_not_intro j)];rcases H0 (gH pr ad po) (av l now ms)with⟨v,m⟩|⟨i,f,v,m,x⟩
 .rw[m];obtain⟨J,M,O,U⟩:=I c j v (fun u X=>by simpa using List.find?_eq_none.1 m u X);by_cases q:pr=6
  .rw[if_pos q];by_cases b:hR ai (aQ ai 6 (av l now ms)) po=0
   .rw[if_pos b];exact O q b
   rw[if_neg b];exact J q b
  rw[if_neg q];have z:pr=17:=G;by_cases b:hR ah (aQ ah 17 (av l now ms)) po=0
  .rw[if_pos b];exact U z b
  rw[if_neg b];exact M z b
 rw[x];exact C c g j i f v m (List.find?_some x)
variable (hl:ms.length*40<=140737488351232) (h10:t1<18446744073709551616) (cr:t2<18446744073709551616)
include hl h10 cr
theorem afx:Spec prog 260 [eK l ah t1 ai t2 ms,.v (.int .i64 pr),.v (.int .u32 ad),.v (.int .i64 po),.v (.int .i64 now)] (x9 l ah ai (Cy l ah t1 ai t2 ms pr ad po now)):=by
 refine Mm l ah t1 ai t2 ms pr ad po now (Q:=fun r=>Spec prog 260 [eK l ah t1 ai t2 ms,.v (.int .i64 pr),.v (.int .u32 ad),.v (.int .i64 po),.v (.int .i64 now)] (x9 l ah ai r)) (fun h=>ahD l ah t1 ai t2 ms pr ad po now hl h10 cr rfl h) (fun h g=>ai9 l ah t1 ai t2 ms pr ad po now hl h10 cr h g)
  (fun h g c=>alr l ah t1 ai t2 ms pr ad po now hl h10 cr h g c) (fun h g c i J f C G=>ad2 l ah t1 ai t2 ms pr ad po now hl h10 cr h g c f C G) (fun j c f M=>?_)
 obtain⟨O,Q,I,-,-⟩:=oU h10 cr j;have u:kE ah ai (av l now ms):=I.sub (_h (p:=jN l now) (l:=ms));refine⟨fun x b=>?_,fun z b=>?_,fun x b=>?_,fun z b=>?_⟩
 .subst x;exact(Dv l ah t1 ai t2 ms 6 ad po now hl h10 cr j c f (Yb _ _ po b) (.inr ⟨rfl,rfl,rfl,rfl,rfl,rfl⟩)).1 b
 .subst z;exact(Dv l ah t1 ai t2 ms 17 ad po now hl h10 cr j c f (Yb _ _ po b) (.inl ⟨rfl,rfl,rfl,rfl,rfl,rfl⟩)).1 b
 .subst x;have m:=(l9 ai 6 _ u.aY u.ka).1;refine(Dv l ah t1 ai t2 ms 6 ad po now hl h10 cr j c f (B:=ai) (T:=aQ ai 6 (av l now ms)+2 ^ dO ai (aQ ai 6 (av l now ms)) po) (p:=ai+dO ai (aQ ai 6 (av l now ms)) po) (e:=0) ?_ (.inr ⟨rfl,rfl,rfl,rfl,rfl,rfl⟩)).2 rfl;by_cases q:dx ai (aQ ai 6 (av l now ms)) po=false/\ai<=po/\po<=ai+63
  .exact VV _ _ po m b q
  exact T4 _ _ po m b q
 subst z;have m:=(l9 ah 17 _ u.aw u.ka).1;refine(Dv l ah t1 ai t2 ms 17 ad po now hl h10 cr j c f (B:=ah) (T:=aQ ah 17 (av l now ms)+2 ^ dO ah (aQ ah 17 (av l now ms)) po) (p:=ah+dO ah (aQ ah 17 (av l now ms)) po) (e:=0) ?_ (.inl ⟨rfl,rfl,rfl,rfl,rfl,rfl⟩)).2 rfl;by_cases q:dx ah (aQ ah 17 (av l now ms)) po=false/\ah<=po/\po<=ah+63
 .exact VV _ _ po m b q
 exact T4 _ _ po m b q
end
end Go.Proofs.YtdiobdlinjgakaaGreatDoor.A
