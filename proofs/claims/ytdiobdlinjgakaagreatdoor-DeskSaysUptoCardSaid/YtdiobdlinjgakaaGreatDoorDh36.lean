import Derived.Test.YtdiobdlinjgakaaGreatDoorDh35
import Derived.Recover
set_option linter.unusedVariables false
set_option linter.unusedSimpArgs false
set_option maxHeartbeats 8000000
set_option maxRecDepth 100000
open Go.Proofs.Tryz
open Go.Proofs.Tryz renaming f18->_a,f9->_b,f21->_n
open ByteArray renaming mk->_c
open Go.Region renaming wanted->_d
open Go.IntWalk renaming u32_in->_e
open Go.IntKind renaming u32->_f
open Go.Instr renaming typeAssert->_g
open Nat renaming lt_succ_self->_h,zero_le->_i,le_refl->_j,le_trans->_k,lt_succ_of_lt->_l,succ_pos->_o
open List renaming length_cons->_m,range'->_p,range->_q
namespace Go.Proofs.YtdiobdlinjgakaaGreatDoor.R
attribute [local irreducible] bc Go
theorem ag0(f:bj)(ac:fJ f)(r:List ak)(ah:hH r):qi f hV r:=by
 obtain⟨c,O⟩:∃c,c=hV:=⟨_,rfl⟩;have hl:de f hV r=tt f r:=by
  unfold de;exact Tn
 rw[<-O]at hl⊢;have m:=fun g=>dN 1 (lW g c r)
 have u:=l5;have an:=mq;have z:=o_;have d1:=l3 (a:=fv) c O ae;have d2:=l3 (a:=gG) c O ae;have d3:=l3 (a:=gd) c O ae;have d4:=l3 (a:=gq) c O ae;have d5:=mf O;cases a_:eo k7 r with
 |none=>
  have I:=fun g=>lE 1 (KY g r ah a_)
  have iy:mw r=none:=by unfold mw;rw[a_]
  refine hP (e:=10) CO fun n=>?_
  refine eu {} 1 func21 fun Γ Q C j=>ep ?_
  have M:=fun st h=>j st h ⟨⟨C 0 _ rfl,fL _ _⟩,trivial⟩
  clear j;repeat' first|(with_reducible refine eN 0 _ rfl ?_);(repeat' first|refine af ?_|(with_reducible refine aL 41 ?_);(refine aX [1] ae rfl rfl (m _) ?_)|simp only[cL,cO,cZ,cW,dp,cS]|refine J u ?_|refine J z ?_|simp only[d1,d2,d3,d4,d5]|refine eR ?_|refine ab ?_ ?_<;>intro h<;>try exact aa);(all_goals exact eT [1] ae rfl rfl (I _) (M _ ⟨rfl,trivial⟩));done|refine af ?_|(with_reducible refine aL 41 ?_);(refine aX [1] ae rfl rfl (m _) ?_)|simp only[cL,cO,cZ,cW,dp,cS]|refine J u ?_|refine J z ?_|simp only[d1,d2,d3,d4,d5]|refine ag ?_|refine ab ?_ ?_<;>intro h<;>try exact aa
 |some x=>
  obtain⟨i,aw⟩:=x;have h1:=fun g=>dN 1 (MU g r aw i a_)
  have X:=k0 a_ ah;cases a8:eo gk aw with
  |none=>
   have I:=fun g=>lE 1 (akb g aw X a8)
   have iy:mw r=none:=by unfold mw;rw[a_];dsimp only;rw[a8]
   refine hP (e:=10) CO fun n=>?_
   refine eu {} 1 func21 fun Γ Q C j=>ep ?_
   have M:=fun st h=>j st h ⟨⟨C 0 _ rfl,fL _ _⟩,trivial⟩
   clear j;repeat' first|(with_reducible refine eN 0 _ rfl ?_);(repeat' first|refine af ?_|(with_reducible refine aL 41 ?_);(refine aX [1] ae rfl rfl (m _) ?_)|simp only[cL,cO,cZ,cW,dp,cS]|refine J u ?_|refine J z ?_|simp only[d1,d2,d3,d4,d5]|(with_reducible refine aL 49 ?_);(refine aX [1] ae rfl rfl (h1 _) ?_)|refine eR ?_|refine ab ?_ ?_<;>intro h<;>try exact aa);(all_goals exact eT [1] ae rfl rfl (I _) (M _ ⟨rfl,trivial⟩));done|refine af ?_|(with_reducible refine aL 41 ?_);(refine aX [1] ae rfl rfl (m _) ?_)|simp only[cL,cO,cZ,cW,dp,cS]|refine J u ?_|refine J z ?_|simp only[d1,d2,d3,d4,d5]|(with_reducible refine aL 49 ?_);(refine aX [1] ae rfl rfl (h1 _) ?_)|refine ag ?_|refine ab ?_ ?_<;>intro h<;>try exact aa
  |some x=>
   obtain⟨T,aY⟩:=x;have h2:=fun g=>dN 1 (ahP g aw aY T X a8)
   have ai:=k0 a8 X;have ao:T.length<=1048576:=by
    obtain⟨s,rfl,aj⟩:=rN a8;exact _k (IJ s aj) (X s aF)
   cases dk:eo gg aY with
   |none=>
    have I:=fun g=>lE 1 (wA g aY ai dk)
    have iy:mw r=none:=Ng;refine hP (e:=10) CO fun n=>?_
    refine eu {} 1 func21 fun Γ Q C j=>ep ?_
    have M:=fun st h=>j st h ⟨⟨C 0 _ rfl,fL _ _⟩,trivial⟩
    clear j;repeat' first|(with_reducible refine eN 0 _ rfl ?_);(repeat' first|refine af ?_|(with_reducible refine aL 41 ?_);(refine aX [1] ae rfl rfl (m _) ?_)|simp only[cL,cO,cZ,cW,dp,cS]|refine J u ?_|refine J z ?_|simp only[d1,d2,d3,d4,d5]|(with_reducible refine aL 49 ?_);(refine aX [1] ae rfl rfl (h1 _) ?_)|(with_reducible refine aL 56 ?_);(refine aX [1] ae rfl rfl (h2 _) ?_)|refine eR ?_|refine ab ?_ ?_<;>intro h<;>try exact aa);(all_goals exact eT [1] ae rfl rfl (I _) (M _ ⟨rfl,trivial⟩));done|refine af ?_|(with_reducible refine aL 41 ?_);(refine aX [1] ae rfl rfl (m _) ?_)|simp only[cL,cO,cZ,cW,dp,cS]|refine J u ?_|refine J z ?_|simp only[d1,d2,d3,d4,d5]|(with_reducible refine aL 49 ?_);(refine aX [1] ae rfl rfl (h1 _) ?_)|(with_reducible refine aL 56 ?_);(refine aX [1] ae rfl rfl (h2 _) ?_)|refine ag ?_|refine ab ?_ ?_<;>intro h<;>try exact aa
   |some x=>
    obtain⟨t,Y⟩:=x;have U:=fun g=>dN 1 (vF g aY Y t ai dk)
    cases Y with
    |cons s Y=>
     have I:=fun g=>lE 1 (At g s Y)
     have iy:mw r=none:=Ng;refine hP (e:=10) CO fun n=>?_
     refine eu {} 1 func21 fun Γ Q C j=>ep ?_
     have M:=fun st h=>j st h ⟨⟨C 0 _ rfl,fL _ _⟩,trivial⟩
     clear j;repeat' first|(with_reducible refine eN 0 _ rfl ?_);(repeat' first|refine af ?_|(with_reducible refine aL 41 ?_);(refine aX [1] ae rfl rfl (m _) ?_)|simp only[cL,cO,cZ,cW,dp,cS]|refine J u ?_|refine J z ?_|simp only[d1,d2,d3,d4,d5]|(with_reducible refine aL 49 ?_);(refine aX [1] ae rfl rfl (h1 _) ?_)|(with_reducible refine aL 56 ?_);(refine aX [1] ae rfl rfl (h2 _) ?_)|(with_reducible refine aL 51 ?_);(refine aX [1] ae rfl rfl (U _) ?_)|refine eR ?_|refine ab ?_ ?_<;>intro h<;>try exact aa);(all_goals exact eT [1] ae rfl rfl (I _) (M _ ⟨rfl,trivial⟩));done|refine af ?_|(with_reducible refine aL 41 ?_);(refine aX [1] ae rfl rfl (m _) ?_)|simp only[cL,cO,cZ,cW,dp,cS]|refine J u ?_|refine J z ?_|simp only[d1,d2,d3,d4,d5]|(with_reducible refine aL 49 ?_);(refine aX [1] ae rfl rfl (h1 _) ?_)|(with_reducible refine aL 56 ?_);(refine aX [1] ae rfl rfl (h2 _) ?_)|(with_reducible refine aL 51 ?_);(refine aX [1] ae rfl rfl (U _) ?_)|refine ag ?_|refine ab ?_ ?_<;>intro h<;>try exact aa
    |nil=>
     have Z:=fun g=>dN 1 (zZ g)
     have iy:mw r=some (i,T,t):=Ng;have De:de f c r=la f i T t:=CO;by_cases qw:(cb f i T t).2.2.2=0
     .have am:=fun n=>I1 9 n f ac.wf i T G t qw
      refine wX (v:=(cb f i T t).1) (l:=kr (cb f i T t).2.2.1 (cb f i T t).2.1) HD false fun n L7=>?_
      generalize kr (cb f i T t).2.2.1 (cb f i T t).2.1=L at *;generalize (cb f i T t).1=v at *;refine h0 {} 1 func21 fun Γ Q C=>ar ?_
      have bd:n<Γ.g0:=Q 0 _ rfl;repeat' first|refine af ?_|(with_reducible refine aL 41 ?_);(refine aX [1] ae rfl rfl (m _) ?_)|simp only[cL,cO,cZ,cW,dp,cS]|refine J u ?_|refine J z ?_|simp only[d1,d2,d3,d4,d5]|(with_reducible refine aL 49 ?_);(refine aX [1] ae rfl rfl (h1 _) ?_)|(with_reducible refine aL 56 ?_);(refine aX [1] ae rfl rfl (h2 _) ?_)|(with_reducible refine aL 51 ?_);(refine aX [1] ae rfl rfl (U _) ?_)|(with_reducible refine aL 45 ?_);(refine aX [1] ae rfl rfl (Z _) ?_)|(with_reducible refine aL 53 ?_);(refine gb [0] [9] [0,9] rfl ae rfl rfl (am _) ?_)|refine ag ?_|refine ab ?_ ?_<;>intro h<;>try exact aa|exact al|fail
      exact Nz
     have I:=fun n=>KZ n f ac.wf i T G t qw
     refine hP (e:=(cb f i T t).2.2.2) Kt fun n=>?_
     generalize (cb f i T t).2.2.2=E at *;refine eu {} 1 func21 fun Γ Q C j=>ep ?_
     have M:=fun st h=>j st h ⟨⟨C 0 _ rfl,fL _ _⟩,trivial⟩
     clear j;repeat' first|(with_reducible refine eN 4 _ rfl ?_);(repeat' first|refine af ?_|(with_reducible refine aL 41 ?_);(refine aX [1] ae rfl rfl (m _) ?_)|simp only[cL,cO,cZ,cW,dp,cS]|refine J u ?_|refine J z ?_|simp only[d1,d2,d3,d4,d5]|(with_reducible refine aL 49 ?_);(refine aX [1] ae rfl rfl (h1 _) ?_)|(with_reducible refine aL 56 ?_);(refine aX [1] ae rfl rfl (h2 _) ?_)|(with_reducible refine aL 51 ?_);(refine aX [1] ae rfl rfl (U _) ?_)|(with_reducible refine aL 45 ?_);(refine aX [1] ae rfl rfl (Z _) ?_)|refine eR ?_|refine ab ?_ ?_<;>intro h<;>try exact aa);(all_goals exact eT [0] ae rfl rfl (I _) (M _ ⟨rfl,trivial⟩));done|refine af ?_|(with_reducible refine aL 41 ?_);(refine aX [1] ae rfl rfl (m _) ?_)|simp only[cL,cO,cZ,cW,dp,cS]|refine J u ?_|refine J z ?_|simp only[d1,d2,d3,d4,d5]|(with_reducible refine aL 49 ?_);(refine aX [1] ae rfl rfl (h1 _) ?_)|(with_reducible refine aL 56 ?_);(refine aX [1] ae rfl rfl (h2 _) ?_)|(with_reducible refine aL 51 ?_);(refine aX [1] ae rfl rfl (U _) ?_)|(with_reducible refine aL 45 ?_);(refine aX [1] ae rfl rfl (Z _) ?_)|refine ag ?_|refine ab ?_ ?_<;>intro h<;>try exact aa
theorem ajc(F:ig)(c:rY F)(g:Int):Spec prog 71 [.agg [.v (.int .i64 F.p),.v (.int .i64 F.q),.v (.int .u32 0),.v (.int .u32 0),.v (.int .i64 g),.v (.int .i64 0),.v (.int .i64 0),.v (.slice none 0 0),.v (.string (I []))],.v (.int .u32 F.a),.v (.int .u32 F.b)] (.aS [.v (.string (I (fz (kC F g) F.a F.b).1)),.v (.int .i64 (fz (kC F g) F.a F.b).2)]):=
 vg (acZ (kC F g) F.a F.b c.a c.b FN FN (_i _) (fun o h=>ha) (_i _)) (fun K w f eX=>⟨eX.1,fun i x v aP bB=>by
  exact aaW⟩)
theorem ag2(F:ig)(c:rY F)(i t:Int):Spec prog 29 [.v (.string (I gd)),.snap 1 (l8 [i,F.a,F.p,F.b,F.q,t]) false] (n5 (jP F 17 (gx F.p F.q [120] F.a F.b))):=by
 have Q:=J_ F.p F.q F.a F.b;have z:=Wa F.p F.q [120] F.a F.b c.a c.b ae;have U:=H7 (ht F 17 (gx F.p F.q [120] F.a F.b).1) (_i _) (_k Q ae) c.a c.b;have C:_f.wrap F.a=F.a:=_e _ ⟨c.a.1,by have:=c.a.2;omega⟩;have G:_f.wrap F.b=F.b:=_e _ ⟨c.b.1,by have:=c.b.2;omega⟩;have M:(_c #[120]:ByteArray)=I [120]:=rfl;have O:(_c #[]:ByteArray)=I []:=rfl;unfold jP;obtain⟨g,j,m,u⟩:=F;dsimp only at *;generalize gx j u [120] g m=D at *;obtain⟨D,e⟩:=D;dsimp only at *;have h1:decide (I gd=(⟨#[115,101,103,109,101,110,116]⟩:ByteArray))=false:=ae;change Spec _ _ [_,.snap 1 [[.v (.int .i64 i)],[.v (.int .i64 g)],[.v (.int .i64 j)],[.v (.int .i64 m)],[.v (.int .i64 u)],[.v (.int .i64 t)]] false] _;by_cases f:e=0
 .rw[if_pos f];subst f;generalize eM (ht ⟨g,j,m,u⟩ 17 D)=P at *;refine az {} 0 func29 fun Γ an=>ar ?_
  repeat' first|refine af ?_|simp only[C,G,M,O,h1]|refine J z ?_|refine aL 72 (fS U ?_)|refine ag ?_|refine ab ?_ ?_<;>intro h<;>try exact aa|exact al|fail
  all_goals exact bM
 rw[if_neg f];have d0:decide (e=0)=false:=decide_eq_false f;refine az {} 0 func29 fun Γ an=>ar ?_
 repeat' first|refine af ?_|simp only[C,G,M,O,h1,d0]|refine J z ?_|refine ag ?_|refine ab ?_ ?_<;>intro h<;>try exact aa|exact al|fail
 all_goals exact b0
theorem amb(F:ig)(c:rY F)(i g t:Int):Spec prog 29 [.v (.string (I gq)),.snap 1 (l8 [i,F.a,F.p,F.b,F.q,g,t]) false] (n5 (jP F 6 (fz (kC F g) F.a F.b))):=by
 have X:=IU F g F.a F.b;have C:=ajc F c g;have G:=Wa F.p F.q [120] F.a F.b c.a c.b ae;have Y:=H7 (ht F 6 (fz (kC F g) F.a F.b).1) (_i _) (_k X ae) c.a c.b;have M:_f.wrap F.a=F.a:=_e _ ⟨c.a.1,by have:=c.a.2;omega⟩;have O:_f.wrap F.b=F.b:=_e _ ⟨c.b.1,by have:=c.b.2;omega⟩;have Q:(_c #[120]:ByteArray)=I [120]:=rfl;have U:(_c #[]:ByteArray)=I []:=rfl;unfold jP;obtain⟨f,m,j,u⟩:=F;dsimp only at *;generalize fz (kC ⟨f,m,j,u⟩ g) f j=D at *;generalize gx m u [120] f j=Z at *;obtain⟨D,e⟩:=D;dsimp only at *;have h1:decide (I gq=(⟨#[115,101,103,109,101,110,116]⟩:ByteArray))=true:=ae;change Spec _ _ [_,.snap 1 [[.v (.int .i64 i)],[.v (.int .i64 f)],[.v (.int .i64 m)],[.v (.int .i64 j)],[.v (.int .i64 u)],[.v (.int .i64 g)],[.v (.int .i64 t)]] false] _;by_cases z:e=0
 .rw[if_pos z];subst z;generalize eM (ht ⟨f,m,j,u⟩ 6 D)=P at *;refine az {} 0 func29 fun Γ an=>ar ?_
  repeat' first|refine af ?_|simp only[M,O,Q,U,h1]|refine J G ?_|refine J C ?_|refine aL 72 (fS Y ?_)|refine ag ?_|refine ab ?_ ?_<;>intro h<;>try exact aa|exact al|fail
  all_goals exact bM
 rw[if_neg z];have d0:decide (e=0)=false:=decide_eq_false z;refine az {} 0 func29 fun Γ an=>ar ?_
 repeat' first|refine af ?_|simp only[M,O,Q,U,h1,d0]|refine J G ?_|refine J C ?_|refine ag ?_|refine ab ?_ ?_<;>intro h<;>try exact aa|exact al|fail
 all_goals exact b0
end Go.Proofs.YtdiobdlinjgakaaGreatDoor.R
namespace Go.Proofs.YtdiobdlinjgakaaGreatDoor.R
def mA(b:Bool):Int:=if b=true then 1 else 0
theorem nE(f:ak)(s:ak)(r:List ak)(l:List Int)(d:ak):cD (110::f) (s::r) l d=match gg s with|some v=>cD f r (l++[v]) d|none=>none:=by
 show(if(cY s).2=true then cD f r (l++[(((cY s).1:Nat):Int)]) d else none)=_;unfold gg;split<;>rfl
theorem nw(f:ak)(s:ak)(r:List ak)(l:List Int)(d:ak):cD (97::f) (s::r) l d=match jd s with|some v=>cD f r (l++[v]) d|none=>none:=by
 show(if decide ((e9 s).2=0)=true then cD f r (l++[(((e9 s).1:Nat):Int)]) d else none)=_;unfold jd;by_cases h:(e9 s).2=0
 .rw[if_pos (decide_eq_true h),if_pos h]
 rw[if_neg hc,if_neg h]
theorem jL(f:ak)(s:ak)(r:List ak)(l:List Int)(d:ak):cD (115::f) (s::r) l d=match k7 s with|some v=>cD f r (l++[mA v]) d|none=>none:=by
 show(if(decide (s=lz)||decide (s=pG))=true then cD f r (l++[if s=lz then(1:Int)else 0]) d else none)=_;unfold k7;by_cases h:s=lz
 .simp[h,mA]
 by_cases h2:s=pG
 .simp[h,h2,mA]
 simp[h,h2]
theorem ME(f:ak)(s:ak)(r:List ak)(l:List Int)(d:ak):cD (104::f) (s::r) l d=match gk s with|some v=>cD f r (l++[0]) v|none=>none:=by
 show(if(j4 s).2=true then cD f r (l++[(0:Int)]) (j4 s).1 else none)=_;unfold j4;cases gk s<;>rfl
theorem kY{α:Type}(f:ak->Option α)(s:ak)(r:List ak):eo f (s::r)=match f s with|some v=>some (v,r)|none=>none:=by
 show(f s).map _=_;cases f s<;>rfl
theorem MT(l:List Int)(d:ak):cD [] [] l d=some (l,d):=rfl
theorem agk(r:List ak):(if¬pt.length=r.length then none else cD pt r [] [])=(mS r).map (fun x=>([mA x.1,x.2.1.a,x.2.1.p,x.2.1.b,x.2.1.q,x.2.2],([]:ak))):=by
 unfold mS nM pt;rcases r with _|⟨m,r⟩
 .rfl
 rw[kY];rcases h1:k7 m with _|v1
 .simp[jL,h1]
 rcases r with _|⟨u,r⟩
 .rfl
 dsimp only;rw[kY];rcases h2:jd u with _|v2
 .simp[jL,nw,h1,h2]
 rcases r with _|⟨v,r⟩
 .rfl
 dsimp only;rw[kY];rcases c:gg v with _|v3
 .simp[jL,nw,nE,h1,h2,c]
 rcases r with _|⟨z,r⟩
 .rfl
 dsimp only;rw[kY];rcases f:jd z with _|v4
 .simp[jL,nw,nE,h1,h2,c,f]
 rcases r with _|⟨C,r⟩
 .rfl
 dsimp only;rw[kY];rcases g:gg C with _|v5
 .simp[jL,nw,nE,h1,h2,c,f,g]
 rcases r with _|⟨G,r⟩
 .rfl
 dsimp only;rw[kY];rcases j:gg G with _|v6
 .simp[jL,nw,nE,h1,h2,c,f,g,j]
 rcases r with _|⟨I,r⟩
 .simp[jL,nw,nE,h1,h2,c,f,g,j,MT]
 simp
theorem afq(r:List ak):(if¬pw.length=r.length then none else cD pw r [] [])=(kU r).map (fun x=>([mA x.1,x.2.1.a,x.2.1.p,x.2.1.b,x.2.1.q,x.2.2.1,x.2.2.2],([]:ak))):=by
 unfold kU nM pw;rcases r with _|⟨u,r⟩
 .rfl
 rw[kY];rcases h1:k7 u with _|v1
 .simp[jL,h1]
 rcases r with _|⟨v,r⟩
 .rfl
 dsimp only;rw[kY];rcases h2:jd v with _|v2
 .simp[jL,nw,h1,h2]
 rcases r with _|⟨z,r⟩
 .rfl
 dsimp only;rw[kY];rcases c:gg z with _|v3
 .simp[jL,nw,nE,h1,h2,c]
 rcases r with _|⟨C,r⟩
 .rfl
 dsimp only;rw[kY];rcases f:jd C with _|v4
 .simp[jL,nw,nE,h1,h2,c,f]
 rcases r with _|⟨G,r⟩
 .rfl
 dsimp only;rw[kY];rcases g:gg G with _|v5
 .simp[jL,nw,nE,h1,h2,c,f,g]
 rcases r with _|⟨I,r⟩
 .rfl
 dsimp only;rw[kY];rcases j:gg I with _|v6
 .simp[jL,nw,nE,h1,h2,c,f,g,j]
 rcases r with _|⟨J,r⟩
 .rfl
 dsimp only;rw[kY];rcases m:gg J with _|M
 .simp[jL,nw,nE,h1,h2,c,f,g,j,m]
 rcases r with _|⟨O,r⟩
 .simp[jL,nw,nE,h1,h2,c,f,g,j,m,MT]
 simp
theorem ahN(r:List ak):(if¬pb.length=r.length then none else cD pb r [] [])=(mw r).map (fun x=>([mA x.1,0,x.2.2],x.2.1)):=by
 unfold mw pb;rcases r with _|⟨c,r⟩
 .rfl
 rw[kY];rcases h1:k7 c with _|v1
 .simp[jL,h1]
 rcases r with _|⟨f,r⟩
 .rfl
 dsimp only;rw[kY];rcases h2:gk f with _|v2
 .simp[jL,ME,h1,h2]
 rcases r with _|⟨g,r⟩
 .rfl
 dsimp only;rw[kY];rcases b:gg g with _|v3
 .simp[jL,ME,nE,h1,h2,b]
 rcases r with _|⟨j,r⟩
 .simp[jL,ME,nE,h1,h2,b,MT]
 simp
attribute [local irreducible] bc Go
open Go.RowKit
def sU(P:Program)(c:Code)(s:Nat):dI:=(r8 {} P c (s,0)).1
theorem acf{p q:Prop}(h:q)(e:q->p:=by intro ay;(conv in sU _ (pv _) _=>reduce);(conv in sU _ _ _=>reduce);dsimp only[yf];exact ay):p:=e h
theorem aff(f:bj)(c:ak)(r:List ak)(h1:¬c=fv)(h2:¬c=gG)(g:¬c=gd)(j:¬c=gq)(m:¬c=hV)(q:¬c=hO):qi f c r:=by
 have hl:de f c r=(f,.inr 10):=by
  unfold de;rw[if_neg h1,if_neg h2,if_neg g,if_neg j,if_neg m,if_neg q]
 have u:=fun v=>dN 1 (lW v c r)
 have x:=l5;have M:=mq;have z:=o_;have d1:=gZ h1;have d2:=gZ h2;have d3:=gZ g;have d4:=gZ j;have d5:=gZ m;have d6:=gZ q;refine hP (e:=10) (by rw[hl]) fun n=>?_
 refine ajq (x:=sU prog (pv (iV _n)) 1) (y:=sU prog (pv (l_ (iV _n))) 2) (fn:=_n) b4 b4 b4 b4 b4 (fun a w C=>?_) (fun Γ O G=>acf ?_)
 .show(Code.region _ _ _).wp _ _ _ _;apply wp_region;have I:=C.trans Tryz.ntmps21;simp[wpOps,go_sem,I,iI,Instr.panic]
 
 repeat' first|refine af ?_|(with_reducible refine aL 41 ?_);(refine aX [1] ae rfl rfl (u _) ?_)|simp only[cL,cO,cZ,cW,dp,cS]|refine J x ?_|refine J z ?_|simp only[d1,d2,d3,d4,d5,d6]|refine ag ?_|refine ab ?_ ?_<;>intro h<;>try exact aa|fail
 exact⟨⟨rfl,trivial⟩,⟨G 0 _ rfl,fL _ _⟩,trivial⟩
theorem adq(b:bj)(f:fJ b)(c:ak)(r:List ak)(g:r.length<=1048576)(hl:hH r)(v:(cm r).length<=1048576):qi b c r:=by
 by_cases h1:c=fv
 .exact h1▸ahR b f r g v
 by_cases h2:c=gG
 .exact h2▸agF b f r g
 by_cases j:c=gd
 .exact j▸aeW b f r hl
 by_cases m:c=gq
 .exact m▸acs b f r hl
 by_cases q:c=hV
 .exact q▸ag0 b f r hl
 by_cases u:c=hO
 .exact u▸alN b f r
 exact aff b c r h1 h2 j m q u
theorem D6{P:Program}{ops:Array Oper}{Q:Exit->Act->World->Prop}{c:Exit->Act->List Frame->World->Prop}{f:List Frame}(bX:∀a w,¬Q .outgrown a w)(yL:∀e a w,Q e a w->c e a f w):∀(l:List Nat)(a:Act)(w:World),wpOps P ops Q l a w->wpOpsS P ops c l a f w
 |[],a,w,h=>yL _ _ _ h
 |i::r,a,w,h=>by
  simp only[wpOps,wpOpsS]at h⊢;cases g:ops[i]? with
  |none=>
   simp only[g]at h;exact D6 bX yL r a w h
  |some o=>
   simp only[g]at h⊢;by_cases j:_d o (yielded ops a.tmps)=true
   .simp only[j,if_true]at h⊢;rcases h with h|⟨_,q,m,h⟩
    .unfold Oper.wp at h;generalize (execOp a.eval o).run P w=x at h⊢;unfold Oper.upon at h;split at h
     .exact zn
     .exact zn
     .exact zn
     .refine h.mono fun e m h=>?_
      cases e with
      |returned v=>exact zn
      |panicked z=>exact yL _ _ _ h
      |outgrown=>
       obtain⟨q,m,h⟩:=h;exact(bX _ _ h).elim
     .intro b u;obtain⟨v,bD,h1,h2⟩:=h b u;exact⟨v,bD,D6 bX yL r _ _ h1,h2⟩
     .exact yL _ _ _ h
     exact h.elim
    exact(bX _ _ h).elim
   simp only[j,if_false,Bool.false_eq_true]at h⊢;exact zn
theorem acX{P:Program}{ops:Array Oper}{f:Exit->Act->List Frame->World->Prop}{b cs':List Frame}{i:Nat}{r:List Nat}{a:Act}{w:World}{o:Oper}{v:Value}(g:ops[i]?=some o)(j:o.guard=none)(m:(execOp a.eval o).run P w=.ok .recover w)
 (c:recoverD b=some (v,cs')\/(recoverD b=none/\v=.nilIface/\cs'=b)) (h:wpOpsS P ops f r (a.put o.dst v) cs' w):wpOpsS P ops f (i::r) a b w:=by
 unfold wpOpsS;have q:_d o (yielded ops a.tmps)=true:=by simp[_d,j]
 rcases c with c|⟨c,rfl,rfl⟩<;>simp only[g,q,m,c,if_true]<;>exact h
theorem acQ{P:Program}{ops:Array Oper}{b:Exit->Act->List Frame->World->Prop}{c:List Frame}{i:Nat}{r:List Nat}{a:Act}{w:World}{o:Oper}{v:Value}(f:ops[i]?=some o)(g:o.guard=none)(j:(execOp a.eval o).run P w=.ok (.value v) w)
 (h:wpOpsS P ops b r (a.put o.dst v) c w):wpOpsS P ops b (i::r) a c w:=by
 unfold wpOpsS;have m:_d o (yielded ops a.tmps)=true:=by simp[_d,g]
 simp only[f,m,j,if_true];exact h
def GX(P:Program)(f:FuncId)(g:List O)(b:aV)(j m:FrameMode)(q:aV):Prop:=
 ∀(K:aO)(w:World)(c:Array Value)(g0:Nat),Inv (cz K w g0 b) (K.cut w) (aB b) w->(∀n,K.bG n->n<g0)->dS (K.cut w) w g c->
  CallsD P f c j w fun e u v=>e=.returned (.tuple #[])/\u=m/\Inv (cz K w g0 b) (K.cut w) (aB q) v
def oF:ak:=[101,114,114,111,114,32]
theorem r5:(_c #[101,114,114,111,114,32]:ByteArray)=I oF:=rfl
def Mh(e:Int):FrameMode:=.panicking [{v:=.iface 71 (.agg #[.int .i64 e]),recovered:=true}]
noncomputable def HO:List cP:=match sU prog (pv (iV _a)) 1 with
 |.region xs=>xs.drop 2
 |_=>[]
noncomputable def Dy:dI:=sU prog (l_ (iV _a)) 2
noncomputable def yc:Array Oper:=match pv (iV _a)with
 |.region _ ops _=>ops
 |_=>#[]
theorem Re{p q:Prop}(h:q)(e:q->p:=by intro ay;(conv in HO=>reduce);(conv in Dy=>reduce);dsimp only[yf];exact ay):p:=e h
def GN(g g0:Nat)(b:ByteArray)(x:O):bb:=⟨(hq [.ptr 0 g 1 0 0] gP eH).set ⟨.d0,.d0,.d5⟩ x,[some ⟨g,1,[[.v (.string b)]]⟩],g0⟩
theorem Tj(g:Nat)(ab u:FrameMode)(c z:ByteArray)(x:O)(U Y:Value)(aj:∀(K:aO)(w:World),aJ K w x Y)
 (ak:∀(b:Frame)(f:List Frame),b.mode=ab->recoverD (b::f)=some (U,{b with mode:=u }::f)\/(recoverD (b::f)=none/\U=.nilIface/\{b with mode:=u }::f=b::f))
 (al:∀w,(_g U 20 71 true).run prog w=.ok Y w)
 (am:∀Γ:bw,g<Γ.g0->run prog (fun st _=>Go Γ prog _a.ntmps (fun st=>im st.H [some ⟨g,1,[[.v (.string z)]]⟩]) Dy [] st) 1000 HO (GN g Γ.g0 c x) []) :
 GX prog 18 [.ptr 0 g 1 0 0] [some ⟨g,1,[[.v (.string c)]]⟩] ab u [some ⟨g,1,[[.v (.string z)]]⟩]:=by
 intro K w ac g0 Z ae af;have ag:g<g0:=ae _ (Z.dz 0 _ rfl);refine callsD_of_wpS (c:=.seq (.region 0 yc false) (l_ (iV _a))) func18 b4 fun b f an=>?_
 apply wpS_seq;apply wpS_region;rw[show _q yc.size=0::1::(_p 2 6++[])from n7];have ay:(#[]:Array Value).size=0:=rfl;obtain⟨v0,rfl⟩:∃v0,ac = #[v0]:=by
  obtain⟨l⟩:=ac;match l,af.1 with
  |[v],_=>exact⟨v,rfl⟩
 obtain⟨az,ao,ap,J,aq⟩:∃o,yc[0]?=some o/\o.guard=none/\o.dst=some 4/\o.op=.call ⟨.builtin .recover,#[],#[]⟩:=⟨_,rfl,rfl,rfl,rfl⟩;obtain⟨aA,h1,ar,X,au⟩:∃o,yc[1]?=some o/\o.guard=none/\o.dst=some 5/\o.op=.typeAssert (.tmp 4) 20 71 true:=⟨_,rfl,rfl,rfl,rfl⟩;refine acX (P:=prog) (ops:=yc) (i:=0) (r:=1::(_p 2 6++[])) (v:=U) (cs':={b with mode:=u }::f) ao ap ?_ ?_ ?_
 .simp[execOp,aq,go_sem]
 .exact ak b f an
 refine acQ (v:=Y) h1 ar ?_ ?_
 .simp[execOp,au,go_sem,J,al]
 refine D6 (Q:=fun e a C=>e=.normal/\∃st G,ft (cz K w g0 [some ⟨g,1,[[.v (.string c)]]⟩]) _a.ntmps st G a C/\Go (cz K w g0 [some ⟨g,1,[[.v (.string c)]]⟩]) prog _a.ntmps (fun st=>im st.H [some ⟨g,1,[[.v (.string z)]]⟩]) Dy [] st) (fun a C h=>nomatch h.1) (fun e a C h=>?_) _ _ _ ?_
 .obtain⟨rfl,st,G,aa,aw⟩:=h;refine wpS_of_wp (wp_mono (MV aw b4 _ _ _ aa) ?_);have ah:∀(I:bb)(M:aO)(m:Act)(bD:World),ft (cz K w g0 [some ⟨g,1,[[.v (.string c)]]⟩]) _a.ntmps I M m bD->im I.H [some ⟨g,1,[[.v (.string z)]]⟩]->m.defers=[]/\∃ai,{b with mode:=u }::f={b with mode:=ai}::f/\∃v,(results _a m.tmps).run prog bD=.ok v bD/\(Ending.returned v=.returned (.tuple #[])/\ai=u/\Inv (cz K w g0 [some ⟨g,1,[[.v (.string c)]]⟩]) (K.cut w) (aB [some ⟨g,1,[[.v (.string z)]]⟩]) bD):=by
   intro I M m bD Q ax;refine⟨Q.defers,u,rfl,.tuple #[],by simp[results,Tryz.results18],rfl,rfl,xG Z Q.inv (wx ax) ⟨⟨ag,by simp[c1,eV,dn]⟩,trivial⟩⟩
  rintro e m bD ⟨I,M,Q,q⟩;cases e with
  |normal=>exact ah I M m bD Q q
  |ret=>exact ah I M m bD Q q
  |exit i=>exact q.elim
  |goto l=>exact q.elim
  |panic aC=>exact q.elim
  |outgrown=>exact q.elim
 refine F4 (Γ:=cz K w g0 [some ⟨g,1,[[.v (.string c)]]⟩]) (N:=_a.ntmps) (Q':=fun e a C=>e=.normal/\∃st G,ft (cz K w g0 [some ⟨g,1,[[.v (.string c)]]⟩]) _a.ntmps st G a C/\Go (cz K w g0 [some ⟨g,1,[[.v (.string c)]]⟩]) prog _a.ntmps (fun st=>im st.H [some ⟨g,1,[[.v (.string z)]]⟩]) Dy [] st) (tl:=[]) (fun st tr G m C aa q=>⟨rfl,st,G,aa,q⟩) (yc.toList.drop 2) HO 2 1000 (GN g g0 c x) [] (K.cut w) _ w (fun j aD=>aF) b4 (am _ ag) ?_;refine⟨Z,ae,_j _,by simp[Act.put,J,X,Tryz.ntmps18],by simp[Act.put,J,X,cz],fun s=>?_⟩;show aJ _ _ (((eH.set ⟨.d0,.d0,.d0⟩ (.ptr 0 g 1 0 0)).set ⟨.d0,.d0,.d5⟩ x).get s) _;rw[bQ.iP];split
 .rename_i e;subst e;simp[Act.put,J,X,bK.nat,kL.nat,aj]
 rw[bQ.iP];split
 .rename_i e;subst e;have:=af.2 0 _ v0 rfl rfl;simp[Act.put,J,X,bK.nat,kL.nat];exact this
 rw[CD];exact .any _
theorem ajg(g:Nat)(e:Int)(f:0<=e/\e<=1000000000)(j:ByteArray):GX prog 18 [.ptr 0 g 1 0 0] [some ⟨g,1,[[.v (.string j)]]⟩] (.panicking (iI e)) (Mh e) [some ⟨g,1,[[.v (.string (I (oF++bt e)))]]⟩]:=by
 have m:=nx e f;have u:=dW e f;refine Tj g _ _ j _ (.aS [.agg [.v (.int .i64 e)],.v (.bool true)]) (.iface 71 (.agg #[.int .i64 e])) (.tuple #[.agg #[.int .i64 e],.bool true]) (fun K w=>?_) (fun x z q=>.inl (by simp[recoverD,q,iI,Mh])) (fun w=>by simp[_g,go_sem]) (fun Γ G=>Re ?_)
 .exact SS
 unfold GN;repeat' first|refine af ?_|refine J m ?_|simp only[r5,dt,aU]|refine ag ?_|refine ab ?_ ?_<;>intro h<;>try exact aa|refine aK OA ?_
 exact⟨rfl,trivial⟩
theorem agR(g:Nat)(b:ByteArray):GX prog 18 [.ptr 0 g 1 0 0] [some ⟨g,1,[[.v (.string b)]]⟩] .returning .returning [some ⟨g,1,[[.v (.string b)]]⟩]:=by
 refine Tj g _ _ b _ (.aS [.agg [.v (.int .i64 0)],.v (.bool false)]) .nilIface (.tuple #[.agg #[.int .i64 0],.bool false]) (fun K w=>?_) (fun j m f=>.inr ⟨by simp[recoverD,f],rfl,by cases j;simp at f;simp[f]⟩) (fun w=>by simp[_g,go_sem]) (fun Γ u=>Re ?_)
 .exact SS
 unfold GN;repeat' first|refine af ?_|refine ag ?_|refine ab ?_ ?_<;>intro h<;>try exact aa|fail
 exact⟨rfl,trivial⟩
theorem adG{P:Program}{ops:Array Oper}{b:Exit->Act->World->Prop}{i:Nat}{r:List Nat}{a:Act}{w:World}{o:Oper}{v:Value}(bF:ops[i]?=some o)(cy:o.guard=none)(aT:(execOp a.eval o).run P w=.ok (.value v) w)
 (h:wpOps P ops b r (a.put o.dst v) w):wpOps P ops b (i::r) a w:=by
 exact Yg
theorem agC{P:Program}{ops:Array Oper}{b:Exit->Act->World->Prop}{i:Nat}{r:List Nat}{a:Act}{w:World}{o:Oper}{d:Deferred}(bF:ops[i]?=some o)(cy:o.guard=none)(aT:(execOp a.eval o).run P w=.ok (.defer d) w)
 (h:wpOps P ops b r ({a with defers:=d::a.defers}.put o.dst undef) w):wpOps P ops b (i::r) a w:=by
 exact Yg
noncomputable def BZ(i:Nat):Code:=match i with
 |0=>pv (iV _b)
 |1=>pv (l_ (iV _b))
 |_=>l_ (l_ (iV _b))
noncomputable def DK:Array Oper:=match BZ 1 with
 |.region _ ops _=>ops
 |_=>#[]
noncomputable def WX:dI:=sU prog (BZ 0) 1
noncomputable def Zp:dI:=sU prog (BZ 2) 2
theorem aby{p q:Prop}(h:q)(e:q->p:=by intro ay;(conv in WX=>reduce);dsimp only[yf];exact ay):p:=e h
theorem Vt{p q:Prop}(h:q)(e:q->p:=by intro ay;(conv in Zp=>reduce);dsimp only[yf];exact ay):p:=e h
abbrev jF(g:Nat)(s:ByteArray):aR:=⟨g,1,[[.v (.string s)]]⟩
abbrev wB(n g:Nat)(T:aR)(x:O):bb:=⟨((eH.set ⟨.d0,.d0,.d0⟩ (.ptr 0 n 16 0 0)).set ⟨.d0,.d0,.d1⟩ x).set ⟨.d0,.d0,.d4⟩ (.ptr 1 g 1 0 0),[some T,some (jF g ⟨#[]⟩)],g+1⟩
def uQ(v:Value):Deferred:={target:=.fn (.func 18) #[v],args:=#[]}
theorem Vz(n:Nat)(j v:bj)(x:O)(m z:ByteArray)(G am:FrameMode)(h1:G≠.run)(h2:settle am=.returning)
 (ec:∀g,GX prog 18 [.ptr 0 g 1 0 0] [some (jF g m)] G am [some (jF g z)])
 (aC:∀(Γ:bw)(g:Nat),n<g->g<Γ.g0->(∀C st,G=.panicking C->st.tm.get ⟨.d0,.d0,.d4⟩=.ptr 1 g 1 0 0/\im st.H [some (dR n v),some (jF g m)]->Γ.pq C st)->
   Go Γ prog _b.ntmps (fun st=>G=.returning/\st.tm.get ⟨.d0,.d0,.d4⟩=.ptr 1 g 1 0 0/\im st.H [some (dR n v),some (jF g m)]) Zp [] (wB n g (dR n j) x)) :
 b1 prog 9 [.ptr 0 n 16 0 0,x] [some (dR n j)] (fun d H=>d=.v (.string z)/\H=[some (dR n v)]):=by
 refine⟨b4,fun K w bc g0 Y an aE=>?_⟩;refine calls_of_wp_defers (fn:=_b) (c:=.seq (BZ 0) (.seq (.region 1 DK false) (BZ 2))) func9 b4 ?_;have aF:=UM (N:=_b.ntmps) Y an aE (Nat.le_of_ble_eq_true b4);have M:n<g0:=an _ (Y.dz 0 _ rfl);have aG:Go (cz K w g0 [some (dR n j)]) prog _b.ntmps (fun _=>False) WX [.loop (fun st=>st=wB n g0 (dR n j) x)] ⟨hq [.ptr 0 n 16 0 0,x] gP eH,[some (dR n j)],g0⟩:=by
  refine aby ?_;repeat' first|refine af ?_|refine ag ?_|refine ab ?_ ?_<;>intro h<;>try exact aa|fail
  exact br rfl
 refine wp_seq (wp_mono (MV aG b4 _ _ _ aF) ?_);rintro e f bl ⟨st,b,u,ay⟩;cases e with
 |exit i=>exact ay.elim
 |ret=>exact ay.elim
 |goto l=>exact ay.elim
 |panic C=>exact ay.elim
 |outgrown=>exact ay.elim
 |normal=>
 obtain rfl:st=wB n g0 (dR n j) x:=ay;obtain⟨ao,aH,aI,ap,aL⟩:∃o,DK[0]?=some o/\o.guard=none/\o.dst=some 5/\o.op=.makeFunc (.func 18) #[] #[.tmp 4]:=⟨_,rfl,rfl,rfl,rfl⟩;obtain⟨aM,aN,aP,aQ,aR⟩:∃o,DK[1]?=some o/\o.guard=none/\o.dst=none/\o.op=.defer ⟨.value (.tmp 5),#[],#[]⟩:=⟨_,rfl,rfl,rfl,rfl⟩;have aS:=u.tm ⟨.d0,.d0,.d4⟩;have aT:f.tmps.size=12:=u.size.trans Tryz.ntmps9;refine wp_seq (wp_region ?_);rw[show _q DK.size=0::1::[]from b4];have aU:∀(fn:Fn)(first cap:Array Value)(w:World),(Instr.makeFunc fn first cap).run prog w=.ok (.func fn first cap) w:=fun _ _ _ _=>rfl
 refine adG (v:=.func (.func 18) #[] #[f.tmps.getD 4 undef]) aH aI ?_ ?_
 .simp[execOp,aL,go_sem,aU]
 refine agC (d:=uQ (f.tmps.getD 4 undef)) aN aP ?_ ?_
 .simp[execOp,aR,go_sem,ap,Act.put,aT,uQ]
 have I:(({f.put ao.dst (.func (.func 18) #[] #[f.tmps.getD 4 undef])with defers:=uQ (f.tmps.getD 4 undef)::(f.put ao.dst (.func (.func 18) #[] #[f.tmps.getD 4 undef])).defers}:Act).put aM.dst undef)={tmps:=f.tmps.setIfInBounds 5 (.func (.func 18) #[] #[f.tmps.getD 4 undef]),defers:=[uQ (f.tmps.getD 4 undef)]}:=by
  have aV:f.defers=[]:=u.defers;simp[Act.put,ap,aQ,aV]
 rw[I];let Γ:bw:={cz b bl (g0+1) [some (dR n j),some (jF g0 ⟨#[]⟩)]with df:=[uQ (f.tmps.getD 4 undef)],pq:=fun C st=>G=.panicking C/\st.tm.get ⟨.d0,.d0,.d4⟩=.ptr 1 g0 1 0 0/\im st.H [some (dR n v),some (jF g0 m)]}
 have Z:Inv (cz b bl (g0+1) [some (dR n j),some (jF g0 ⟨#[]⟩)]) (b.cut bl) (aB [some (dR n j),some (jF g0 ⟨#[]⟩)]) bl:=wU (H:=[some (dR n j),some (jF g0 ⟨#[]⟩)]) (ks:=[0,1]) u.inv ae (fun _ _=>rfl) (g0+1);have ac:∀Q,b.bG Q->Q<g0+1:=u.fresh;have aX:dH b bl (b.cut bl) bl:=Dq (cN.refl (fun _=>False) bl) (fun _ _ h=>h.elim);have aY:ft Γ _b.ntmps (wB n g0 (dR n j) x) (b.cut bl) {tmps:=f.tmps.setIfInBounds 5 (.func (.func 18) #[] #[f.tmps.getD 4 undef]),defers:=[uQ (f.tmps.getD 4 undef)]} bl:=by
  refine⟨Kw Z,ac,_j _,by rw[Array.size_setIfInBounds];exact u.size,rfl,fun s=>?_⟩;by_cases aj:s=⟨.d0,.d0,.d5⟩
  .subst aj;exact .any _
  have aZ:¬5=s.nat:=fun h=>aj (bK.vB h.symm)
  have:=(u.tm s).mono aX;rw[Array.getD_eq_getD_getElem?]at this⊢;rw[Array.getElem?_setIfInBounds_ne aZ];exact this
 refine wp_mono (MV (aC Γ g0 M (_h _) (fun C st h q=>⟨h,q⟩)) b4 _ _ _ aY) ?_
 have nC:∀(st:bb)(B7:aO)(oo:Act)(eO:World),ft Γ _b.ntmps st B7 oo eO->st.tm.get ⟨.d0,.d0,.d4⟩=.ptr 1 g0 1 0 0->im st.H [some (dR n v),some (jF g0 m)]->
  Leaves prog _b oo.tmps (fun e ar=>∃au d av,e=Ending.returned au/\(d=.v (.string z)/\av=[some (dR n v)])/\Inv (cz K w g0 [some (dR n j)]) (K.cut w) (aB av) ar/\aJ (K.cut w) ar d au) oo.defers G eO:=by
  intro st B7 oo eO sJ en e8;have a0:jb (g0+1) [some (dR n v),some (jF g0 m)]:=⟨⟨_l M,fL v _⟩,⟨_h _,by simp[c1,eV,dn]⟩,trivial⟩;have ax:=xG Z (Yt sJ.inv) (wx e8) a0;have ah:=sJ.tm ⟨.d0,.d0,.d4⟩;rw[en]at ah;have az:aJ b bl (.ptr 1 g0 1 0 0) (f.tmps.getD 4 undef):=aS;have rQ:oo.defers=[uQ (f.tmps.getD 4 undef)]:=sJ.defers;generalize f.tmps.getD 4 undef=bd at az rQ;generalize aA:oo.tmps.getD (bK.nat ⟨.d0,.d0,.d4⟩) undef=be at ah;cases az with
  |ptr aw bf=>
  cases ah with
  |ptr bg ai=>
  have ak:=(sJ.inv.base.keep g0 (by exact aw)).2;have ak:B7.aD g0=b.aD g0:=ak;rw[ak]at ai aA;have a1:aJ (b.cut bl) eO (.ptr 1 g0 1 0 0) (.pointer (some ⟨b.aD g0,0*1+0,none⟩)):=.ptr (K:=b.cut bl) aw ai;rw[rQ];refine leaves_cons (f:=18) (args:=#[.pointer (some ⟨b.aD g0,0*1+0,none⟩)]) h1 (by simp[go_sem]) ?_;have a2:=ec g0 (b.cut bl) eO #[.pointer (some ⟨b.aD g0,0*1+0,none⟩)] (g0+1) (wU (H:=[some (dR n v),some (jF g0 m)]) (ks:=[1]) ax ae (fun _ _=>rfl) (g0+1)) ac (s_ ⟨rfl,fun i d c U I=>by
   match i with
   |0=>cases U;cases I;exact .ptr (K:=b.cut bl) aw ai
   |i+1=>cases U⟩)
  refine a2.mono ?_;rintro e Q X ⟨rfl,a3,a4⟩;obtain⟨a5,J⟩:=E4 (H:=[some (dR n v),some (jF g0 m)]) (ks:=[1]) ax ae (fun _ _=>rfl) rfl a4;rw[y2]at J;have J:Inv (cz b bl (g0+1) [some (dR n j),some (jF g0 ⟨#[]⟩)]) ((b.cut bl).cut eO) (aB [some (dR n v),some (jF g0 z)]) X:=J;have a6:ft Γ _b.ntmps ⟨eH.set ⟨.d0,.d0,.d4⟩ (.ptr 1 g0 1 0 0),[some (dR n v),some (jF g0 z)],g0+1⟩ ((b.cut bl).cut eO) oo X:=by
   refine⟨Kw J,ac,_j _,sJ.size,sJ.defers,fun s=>?_⟩;show aJ ((b.cut bl).cut eO) X ((eH.set (⟨.d0,.d0,.d4⟩:bK) (.ptr 1 g0 1 0 0)).get s) (oo.tmps.getD s.nat undef);rw[bQ.iP];split
   .rename_i e;subst e;rw[aA];exact a1.mono a5
   rw[CD];exact .any _
  obtain⟨al,U,I⟩:=Fc (xs:=[.cell ⟨.d0,.d0,.d4⟩ false 1]) a6 (fn:=_b) b4 ⟨by simp[pL,pX,bQ.iP,aB],trivial⟩;have a7:al=.string z:=cQ I;have a8:=xG Z J (fun k o h=>h) (H1:=[some (dR n v),some (jF g0 z)]) ⟨⟨_l M,fL v _⟩,⟨_h _,by simp[c1,eV,dn]⟩,trivial⟩;obtain⟨-,a9⟩:=E4 (H:=[some (dR n j),some (jF g0 ⟨#[]⟩)]) (ks:=[0,1]) u.inv ae (fun _ _=>rfl) rfl a8;have ba:=xG (H1:=[some (dR n v)]) Y a9 (fun k o h=>by
   match k with
   |0=>exact h
   |k+1=>cases h) ⟨⟨M,fL v _⟩,trivial⟩
  show Leaves _ _ _ _ [] (settle Q) X;rw[a3,h2];exact⟨al,U,al,_,_,rfl,⟨rfl,rfl⟩,ba,a7▸.v _⟩
 rintro e oo eO ⟨st,B7,sJ,ay⟩;cases e with
 |exit i=>exact ay.elim
 |goto l=>exact ay.elim
 |outgrown=>exact ay.elim
 |normal=>exact Jc
 |ret=>exact Jc
 |panic C=>exact Jc
def hB:ak:=[111,107]
theorem WA:(_c #[111,107]:ByteArray)=I hB:=rfl
def kv:pS->ak
 |.inl l=>cm (hB::l)
 |.inr e=>oF++bt e
theorem YE{b:bj}{i:Bool}{s:ak}{n e:Int}(h:(la b i s n).2=.inr e):(la b i s n).1=b:=by
 unfold la at h⊢;split
 .rename_i q;rw[if_pos q]at h;cases h
 rfl
theorem Vg{b:bj}{i:Bool}{s:ak×Int}{n e:Int}(h:(jK b i s n).2=.inr e):(jK b i s n).1=b:=by
 unfold jK at h⊢;split
 .rename_i q;rw[if_pos q]at h;exact YE h
 rfl
theorem ag_(b:bj)(c:ak)(r:List ak)(e:Int)(h:(de b c r).2=.inr e):(de b c r).1=b:=by
 revert h;unfold de;split
 .unfold qd;split
  .exact fun _=>rfl
  split
  .exact fun h=>nomatch h
  exact fun _=>rfl
 split
 .exact fun _=>rfl
 split
 .unfold tv;split
  .exact fun _=>rfl
  exact Vg
 split
 .unfold th;split
  .exact fun _=>rfl
  exact Vg
 split
 .unfold tt;split
  .exact fun _=>rfl
  exact YE
 split<;>exact fun _=>rfl
theorem aiW(n:Nat)(f:bj)(Q:fJ f)(c:ak)(r:List ak)(U:r.length<=1048576)(hl:hH r)(X:(cm r).length<=1048576)
 (q:match(de f c r).2 with|.inl l=>l.length<=100/\(cm (hB::l)).length<=1048576|.inr e=>0<=e/\e<=1000000000) :
 b1 prog 9 [.ptr 0 n 16 0 0,.snap 1 (b9 (c::r)) false] [some (dR n f)] (fun d H=>d=.v (.string (I (kv (de f c r).2)))/\H=[some (dR n (de f c r).1)]):=by
 obtain⟨aM,j⟩:=adq f Q c r U hl X;cases ay:(de f c r).2 with
 |inl l=>
  rw[ay]at q;have j:=fun m Y=>j m Y
  rw[ay]at j;dsimp only at j q;have Z:=fun b=>Di (hB::l) b (_o _) (by rw[_m];omega) q.2
  refine Vz n f _ _ (I (cm (hB::l))) _ .returning .returning aF rfl (fun g=>agR g _) (fun Γ g ac ah C=>Vt ?_);generalize (de f c r).1=v at *;have J:=Z false;generalize cm (hB::l)=aq at *;have u:(b9 l).length=l.length:=oa l;have M:cp (cC (b9 l) 0) l.length=b9 l:=e1 (by rw[u]);have ai:eW (b9 l)=true:=j2 (fun x=>rfl) _;have aj:[[.v (.string (I hB))]]++b9 l=b9 (hB::l):=rfl;unfold wB;cases l with
  |nil=>
   have z:kV ⟨g+1,1,[[.v (.string (I hB))]]⟩ [.aG 2 (g+1) 1 0 1 true,.v (.string ⟨#[32]⟩)] [.snap 1 (b9 [hB]) false,.v (.string ⟨#[32]⟩)]:=by
    refine⟨?_,rfl,rfl⟩;simp only[hE];exact .inl ⟨trivial,trivial,_j _,rfl⟩
   have al:(b9 ([]:List ak))=[]:=rfl;have am:cp (cC ([]:List (List O)) 0) 0=[]:=rfl;repeat' first|refine af ?_|(with_reducible refine aL 21 ?_);(refine On 0 [9] ae rfl rfl (j n 9) ?_)|simp only[WA,M,u,List.length_nil,al,am]|refine zi (aK (by first|exact trivial|rfl) ?_)|(with_reducible refine gC 2 ?_ J z ?_ ?_);(exact rfl);(exact rfl)|refine ag ?_|refine ab ?_ ?_<;>intro h<;>try exact aa|fail
   exact⟨trivial,trivial,rfl,rfl,trivial⟩
  |cons w l=>
   generalize an:w::l=m at *;have ao:0<m.length:=by rw[<-an];exact _o _
   have z:kV ⟨g+2+1,1,b9 (hB::m)⟩ [.aG 3 (g+2+1) 1 0 (1+m.length) false,.v (.string ⟨#[32]⟩)] [.snap 1 (b9 (hB::m)) false,.v (.string ⟨#[32]⟩)]:=by
    have ap:(b9 (hB::m)).length=1+m.length:=by rw[oa,_m];omega
    refine⟨?_,rfl,rfl⟩;simp only[hE];exact .inl ⟨trivial,trivial,G,by rw[e1 (l:=b9 (hB::m)) ap.symm]⟩
   repeat' first|refine af ?_|(with_reducible refine aL 21 ?_);(refine On 0 [9] ae rfl rfl (j n 9) ?_)|simp only[WA,M,u,ai,aj]|refine hZ (aK ⟨.inl ao,aH,aH,Aw⟩ ?_)|(with_reducible refine gC 3 ?_ J z ?_ ?_);(exact rfl);(exact rfl)|refine ag ?_|refine ab ?_ ?_<;>intro h<;>try exact aa|fail
   exact⟨trivial,trivial,rfl,rfl,trivial⟩
 |inr e=>
  rw[ay]at q;have j:=fun m=>j m 0
  rw[ay]at j;dsimp only at j q;rw[ag_ f c r e ay];refine Vz n f _ _ ⟨#[]⟩ _ (.panicking (iI e)) (Mh e) aF rfl (fun g=>ajg g e q _) (fun Γ g ac ah C=>Vt ?_);unfold wB;repeat' first|(with_reducible refine eN 3 _ rfl ?_);(repeat' first|refine af ?_|refine eR ?_|refine ab ?_ ?_<;>intro h<;>try exact aa);(exact eT [0] ae rfl rfl (j n) (C _ _ rfl ⟨rfl,rfl,rfl,trivial⟩))|refine af ?_|refine ag ?_|refine ab ?_ ?_<;>intro h<;>try exact aa
end Go.Proofs.YtdiobdlinjgakaaGreatDoor.R
