import Derived.Test.YtdiobdlinjgakaaGreatDoorDh39
set_option linter.unusedVariables false
set_option linter.unusedSimpArgs false
set_option maxHeartbeats 8000000
set_option maxRecDepth 100000
open Go.Proofs.Tryz
open Go.IntKind renaming i64->_a
open Go.IntWalk renaming i64_in->_b
open Int renaming toNat_natCast->_c,ofNat_tmod->_d
namespace Go.Proofs.YtdiobdlinjgakaaGreatDoor
attribute [local irreducible] bc Go
theorem aa3(aC:bj)(c:aC.wf)(hf:iA aC=0)(m:Bool)(s:List UInt8)(aj:s.length<=140737488351232)(now:Int)(z:h4 aC<=now/\now<=1099511627776):
 Spec prog 75 [fZ aC,.v (.bool m),.v (.string (I s)),.v (.int .i64 now)] (.aS [fZ (h5 aC m s now).1,.v (.string (I (h5 aC m s now).2.2.2.1)),.v (.int .i64 (h5 aC m s now).2.2.2.2)]):=by
 have bu:=x1 s aj;have eY:=H.ad5 s aj;have Y:=DI (s:=s);have sY:=Z_ (s:=s);have Z:=agU (s:=s);have aq:=fun g=>tU g aC
 unfold h5;generalize bC s=E at *;obtain⟨f,e⟩:=E;generalize H.fq s=ak at *;obtain⟨t,ac⟩:=ak;dsimp only at *;obtain⟨ax,to,bx,bZ,b2⟩:=f;dsimp only at *;by_cases h1:e=0;rotate_left
 .rw[if_pos h1];exact Dg
 subst h1;rw[if_neg (not_not_intro rfl)];cases m with
 |false=>
  by_cases h2:to=aC.p.ou;rotate_left
  .rw[if_pos ⟨rfl,h2⟩];exact Dg
  rw[if_neg (fun q=>q.2 h2)];by_cases u:ac=0;rotate_left
  .rw[if_pos u];exact Dg
  subst u;rw[if_neg (not_not_intro rfl)];obtain⟨t20,p1⟩:=Z rfl rfl;have dV:_a.wrap (au t 0:Nat)=(au t 0:Nat):=_b _ (by have:=eQ t 0;omega);have e0:((au t 0:Nat):Int).tmod 16=((au t 0%16:Nat):Int):=(_d _ 16).symm;have c3:_a.wrap (4*((au t 0%16:Nat):Int))=((aA t:Nat):Int):=xK;have fR:_a.wrap (((aA t:Nat):Int)+13)=((aA t+13:Nat):Int):=by rw[_b _ D9];omega
  have c5:_a.wrap (au t (aA t+13):Nat)=(au t (aA t+13):Nat):=_b _ (by have:=eQ t (aA t+13);omega);have O:t.length<=140737488351232:=yh;have j:=Y rfl;have h3:=VT aC c hf ax now (t.length:Nat) z yh;have bf:=R.aaK aC.p.rs (xh ⟨ax,to,bx,bZ,b2⟩) aC.p.el c.rs.1 c.p.2 ⟨j.ax,j.to⟩;have C:0<=now/\now<=1099511627776:=⟨by
   exact aap,z.2⟩
  have M:=(qS hf).2.1;have Fp:=j.pr;generalize ld aC ax now (t.length:Nat)=ey at *;obtain⟨l,ok⟩:=ey;dsimp only at *;have bX:Spec prog 134 [A.eK aC.n.l aC.n.ah aC.n.t1 aC.n.ai aC.n.t2 aC.n.ms,.v (.int .i64 bx),.v (.int .i64 b2),.v (.int .i64 now)] (A.zN (iv aC.n bx b2 now)):=A.akF aC.n.l aC.n.ah aC.n.t1 aC.n.ai aC.n.t2 aC.n.ms bx b2 now c.n.ey.1 c.n.t1 c.n.t2;have l6:=ajx t (iv aC.n bx b2 now).1 (iv aC.n bx b2 now).2.1 O (IF aC.n c.n _ _ _);have eE:=FA {aC with ms:=l} M ax (iv aC.n bx b2 now).1 bZ (iv aC.n bx b2 now).2.1 (au t (aA t+13):Nat) now C true;have bq:True:=trivial;unfold rU;unfold q1 at l6;dsimp only at eE⊢;generalize iv aC.n bx b2 now=r at *;obtain⟨a,p,am⟩:=r;dsimp only at *;generalize fW t a p 16 2=Q at *;obtain⟨o,ao⟩:=Q;generalize T.iz aC.tr ax a bZ p now=K at *;cases ok with
  |false=>exact QL
  |true=>
   rw[if_neg ae,if_neg ae];rcases Fp with rfl|rfl
   .obtain⟨p1,U⟩:=p1 rfl;rw[U];generalize ll aC.tr ax a bZ p (au t (aA t+13):Nat) now=tk at *;obtain⟨X,B⟩:=tk;unfold yr at eE;cases K
    .rw[if_pos ⟨rfl,rfl⟩]at eE;dsimp only at eE;refine az {} 0 func75 fun Γ an=>ar ?_
     repeat' first|refine af ?_|refine J bu ?_|refine J eY ?_|refine J h3 ?_|refine J bf ?_|refine J bq ?_|refine J eE ?_|refine J bX ?_|refine J l6 ?_|simp only[e0,c3,fR,dV,c5,aU,b_]|refine ag ?_|refine ab ?_ ?_<;>intro h<;>try exact aa|simp only[aU,b_,_c]|refine aK vU ?_|exact al|fail
     all_goals try (exfalso;simp_all;done)
     all_goals clear bu eY h3 bf bq eE bX l6
     all_goals first|rw[FV];rotate_left;iterate 1 (focus (simp_all;done))|rw[Pz];rotate_left;iterate 3 (focus (simp_all;done))|exfalso;simp_all;done
     all_goals exact b0
    rw[if_neg ae]at eE;dsimp only at eE;refine az {} 0 func75 fun Γ an=>ar ?_
    repeat' first|refine af ?_|refine J bu ?_|refine J eY ?_|refine J h3 ?_|refine J bf ?_|refine J bq ?_|refine J eE ?_|refine J bX ?_|refine J l6 ?_|simp only[e0,c3,fR,dV,c5,aU,b_]|refine ag ?_|refine ab ?_ ?_<;>intro h<;>try exact aa|simp only[aU,b_,_c]|refine aK vU ?_|exact al|fail
    all_goals try (exfalso;simp_all;done)
    all_goals clear bu eY h3 bf bq eE bX l6
    all_goals first|rw[FV];rotate_left;iterate 1 (focus (simp_all;done))|rw[Uw];rotate_left;iterate 4 (focus (simp_all;done))|rw[Lc];rotate_left;iterate 2 (focus (simp_all;done))|exfalso;simp_all;done
    all_goals exact b0
   clear p1;generalize ll aC.tr ax a bZ p (mE t) now=tk at *;obtain⟨X,B⟩:=tk;refine az {} 0 func75 fun Γ an=>ar ?_
   repeat' first|refine af ?_|refine J bu ?_|refine J eY ?_|refine J h3 ?_|refine J bf ?_|refine J bq ?_|refine J eE ?_|refine J bX ?_|refine J l6 ?_|simp only[e0,c3,fR,dV,c5,aU,b_]|refine ag ?_|refine ab ?_ ?_<;>intro h<;>try exact aa|simp only[aU,b_,_c]|refine aK vU ?_|exact al|fail
   all_goals try (exfalso;simp_all;done)
   all_goals clear bu eY h3 bf bq eE bX l6
   all_goals first|rw[FV];rotate_left;iterate 1 (focus (simp_all;done))|rw[Lc];rotate_left;iterate 2 (focus (simp_all;done))|exfalso;simp_all;done
   all_goals exact b0
 |true=>
  rw[if_neg (fun q=>Bool.noConfusion q.1)];by_cases u:ac=0;rotate_left
  .rw[if_pos u];exact Dg
  subst u;rw[if_neg (not_not_intro rfl)];obtain⟨t20,p1⟩:=Z rfl rfl;have dV:_a.wrap (au t 0:Nat)=(au t 0:Nat):=_b _ (by have:=eQ t 0;omega);have e0:((au t 0:Nat):Int).tmod 16=((au t 0%16:Nat):Int):=(_d _ 16).symm;have c3:_a.wrap (4*((au t 0%16:Nat):Int))=((aA t:Nat):Int):=xK;have fR:_a.wrap (((aA t:Nat):Int)+13)=((aA t+13:Nat):Int):=by rw[_b _ D9];omega
  have c5:_a.wrap (au t (aA t+13):Nat)=(au t (aA t+13):Nat):=_b _ (by have:=eQ t (aA t+13);omega);have O:t.length<=140737488351232:=yh;have j:=Y rfl;have h3:=VT aC c hf ax now (t.length:Nat) z yh;have bf:=R.aaK aC.p.rs (xh ⟨ax,to,bx,bZ,b2⟩) aC.p.el c.rs.1 c.p.2 ⟨j.ax,j.to⟩;have C:0<=now/\now<=1099511627776:=⟨by
   exact aap,z.2⟩
  have M:=(qS hf).2.1;have Fp:=j.pr;generalize ld aC ax now (t.length:Nat)=ey at *;obtain⟨l,ok⟩:=ey;dsimp only at *;have bX:Spec prog 132 [A.eK aC.n.l aC.n.ah aC.n.t1 aC.n.ai aC.n.t2 aC.n.ms,.v (.int .i64 bx),.v (.int .u32 ax),.v (.int .i64 bZ),.v (.int .i64 now)] (A.x9 aC.n.l aC.n.ah aC.n.ai (nf aC.n bx ax bZ now)):=A.af7 aC.n.l aC.n.ah aC.n.t1 aC.n.ai aC.n.t2 aC.n.ms bx ax bZ now c.n.ms c.n.t1 c.n.t2;have l6:=aiD t aC.p.ou (nf aC.n bx ax bZ now).2.2.2.1 O c.p.1;have bq:=Um {aC with ms:=l} M ax to bZ b2 now C;have eE:=FA {aC with ms:=l} M ax to bZ b2 (au t (aA t+13):Nat) now C false;unfold oC;unfold q1 at l6;dsimp only at bq eE⊢;generalize nf aC.n bx ax bZ now=r at *;obtain⟨av,aw,aD,p,am⟩:=r;dsimp only at *;generalize fW t aC.p.ou p 12 0=Q at *;obtain⟨o,ao⟩:=Q;generalize T.iz aC.tr ax to bZ b2 now=K at *;generalize R.iY aC.p.rs (xh ⟨ax,to,bx,bZ,b2⟩) aC.p.el=ap at *;obtain⟨D,d1,d2⟩:=ap;dsimp only at *;cases ok with
  |false=>exact QL
  |true=>
   rw[if_neg ae,if_pos rfl];unfold yr at eE;rw[if_neg aF]at eE;rcases Fp with rfl|rfl
   .obtain⟨p1,U⟩:=p1 rfl;rw[U];generalize ll aC.tr ax to bZ b2 (au t (aA t+13):Nat) now=tk at *;obtain⟨X,B⟩:=tk;dsimp only at eE;refine az {} 0 func75 fun Γ an=>ar ?_
    repeat' first|refine af ?_|refine J bu ?_|refine J eY ?_|refine J h3 ?_|refine J bf ?_|refine J bq ?_|refine J eE ?_|refine J bX ?_|refine J l6 ?_|simp only[e0,c3,fR,dV,c5,aU,b_]|refine ag ?_|refine ab ?_ ?_<;>intro h<;>try exact aa|simp only[aU,b_,_c]|refine aK vU ?_|exact al|fail
    all_goals try (exfalso;simp_all;done)
    all_goals clear bu eY h3 bf bq eE bX l6
    all_goals first|rw[Ku];rotate_left;iterate 2 (focus (simp_all;done))|rw[aaD];rotate_left;iterate 3 (focus (simp_all;done))|rw[Mt];rotate_left;iterate 3 (focus (simp_all;done))|rw[MR];rotate_left;iterate 3 (focus (simp_all;done))|exfalso;simp_all;done
    all_goals exact b0
   clear p1;generalize ll aC.tr ax to bZ b2 (mE t) now=tk at *;obtain⟨X,B⟩:=tk;clear eE;have eE:True:=trivial;refine az {} 0 func75 fun Γ an=>ar ?_
   repeat' first|refine af ?_|refine J bu ?_|refine J eY ?_|refine J h3 ?_|refine J bf ?_|refine J bq ?_|refine J eE ?_|refine J bX ?_|refine J l6 ?_|simp only[e0,c3,fR,dV,c5,aU,b_]|refine ag ?_|refine ab ?_ ?_<;>intro h<;>try exact aa|simp only[aU,b_,_c]|refine aK vU ?_|exact al|fail
   all_goals try (exfalso;simp_all;done)
   all_goals clear bu eY h3 bf bq eE bX l6
   all_goals first|rw[Ku];rotate_left;iterate 2 (focus (simp_all;done))|rw[Mt];rotate_left;iterate 3 (focus (simp_all;done))|rw[MR];rotate_left;iterate 3 (focus (simp_all;done))|exfalso;simp_all;done
   all_goals exact b0
end Go.Proofs.YtdiobdlinjgakaaGreatDoor
