import Derived.Test.YtmibknbmhcnemaaGreatDoorHb46
import Derived.Test.YtmibknbmhcnemaaGreatDoorHb39
set_option linter.unusedVariables false
set_option linter.unusedSimpArgs false
namespace Go.Proofs.YtmibknbmhcnemaaGreatDoor
attribute [local irreducible] zF Go
set_option maxRecDepth 100000
set_option maxHeartbeats 8000000 in
theorem dB (u:Hs) (hw:u.wf) (hE:rc u=0) (inside:Bool) (s:List UInt8) (hs:s.length≤140737488351232) (now:Int) (hnow:xW u≤now∧now≤1099511627776) :
  zd Tryz.prog 50 [dH u,.v (.bool inside),.v (.string (mkS s)),.v (.int .i64 now)] (.tup [dH (goR u inside s now).1,.v (.string (mkS (goR u inside s now).2.2.2.1)),.v (.int .i64 (goR u inside s now).2.2.2.2)]):=by
 have he:=tN s hs
 have hh:=H.gD s hs
 have hed:=dN (s:=s)
 have hhl:=fg (s:=s)
 have hfc:=aE (s:=s)
 have hnf:=fun g=>qQ g u
 unfold goR
 generalize edR s=E at *
 obtain ⟨f,e⟩:=E
 generalize H.wg s=HP at *
 obtain ⟨t,e2⟩:=HP
 dsimp only at *
 obtain ⟨fr,to,proto,fp,tp⟩:=f
 dsimp only at *
 by_cases h1:e=0
 rotate_left
 ·rw [if_pos h1]
  have hme:True:=trivial;have hd:True:=trivial;have hk:True:=trivial;have htk:True:=trivial;have ho:True:=trivial;have hs2:True:=trivial;have c1:True:=trivial;have c2:True:=trivial;have c3:True:=trivial;have c4:True:=trivial;have c5:True:=trivial
  refine z4 {} 0 Tryz.func50 fun Γ hW=>auC ?_
  repeat' first|refine auS ?_|(first|(with_reducible refine z0 he ?_)|(with_reducible refine z0 hh ?_)|(with_reducible refine z0 hme ?_)|(with_reducible refine z0 hd ?_)|(with_reducible refine z0 hk ?_)|(with_reducible refine z0 htk ?_)|(with_reducible refine z0 ho ?_)|(with_reducible refine z0 hs2 ?_)|(simp only [c2,c3,c4,c1,c5,z5,zj]))|refine auD ?_|(refine auW ?_ ?_<;>intro h<;>try exact auH)|(first|(simp only [z5,zj,Int.toNat_natCast])|(refine z7 (by simp only [z5,Int.toNat_natCast];omega) ?_)|fail)
  all_goals try exact auP
  all_goals try (exfalso;simp_all;done)
  all_goals refine auV ?_
  all_goals try exact z8
  all_goals try simp only [hsM] at *
  all_goals rfl
 subst h1
 rw [if_neg (not_not_intro rfl)]
 cases inside with
 |false=>
  by_cases h2:to=u.p.ou
  rotate_left
  ·rw [if_pos ⟨rfl,h2⟩]
   have hme:True:=trivial;have hd:True:=trivial;have hk:True:=trivial;have htk:True:=trivial;have ho:True:=trivial;have hs2:True:=trivial;have c1:True:=trivial;have c2:True:=trivial;have c3:True:=trivial;have c4:True:=trivial;have c5:True:=trivial
   refine z4 {} 0 Tryz.func50 fun Γ hW=>auC ?_
   repeat' first|refine auS ?_|(first|(with_reducible refine z0 he ?_)|(with_reducible refine z0 hh ?_)|(with_reducible refine z0 hme ?_)|(with_reducible refine z0 hd ?_)|(with_reducible refine z0 hk ?_)|(with_reducible refine z0 htk ?_)|(with_reducible refine z0 ho ?_)|(with_reducible refine z0 hs2 ?_)|(simp only [c2,c3,c4,c1,c5,z5,zj]))|refine auD ?_|(refine auW ?_ ?_<;>intro h<;>try exact auH)|(first|(simp only [z5,zj,Int.toNat_natCast])|(refine z7 (by simp only [z5,Int.toNat_natCast];omega) ?_)|fail)
   all_goals try exact auP
   all_goals try (exfalso;simp_all;done)
   all_goals refine auV ?_
   all_goals try exact z8
   all_goals try simp only [hsM] at *
   all_goals rfl
  rw [if_neg (fun q=>q.2 h2)]
  by_cases h3:e2=0
  rotate_left
  ·rw [if_pos h3]
   have hme:True:=trivial;have hd:True:=trivial;have hk:True:=trivial;have htk:True:=trivial;have ho:True:=trivial;have hs2:True:=trivial;have c1:True:=trivial;have c2:True:=trivial;have c3:True:=trivial;have c4:True:=trivial;have c5:True:=trivial
   refine z4 {} 0 Tryz.func50 fun Γ hW=>auC ?_
   repeat' first|refine auS ?_|(first|(with_reducible refine z0 he ?_)|(with_reducible refine z0 hh ?_)|(with_reducible refine z0 hme ?_)|(with_reducible refine z0 hd ?_)|(with_reducible refine z0 hk ?_)|(with_reducible refine z0 htk ?_)|(with_reducible refine z0 ho ?_)|(with_reducible refine z0 hs2 ?_)|(simp only [c2,c3,c4,c1,c5,z5,zj]))|refine auD ?_|(refine auW ?_ ?_<;>intro h<;>try exact auH)|(first|(simp only [z5,zj,Int.toNat_natCast])|(refine z7 (by simp only [z5,Int.toNat_natCast];omega) ?_)|fail)
   all_goals try exact auP
   all_goals try (exfalso;simp_all;done)
   all_goals refine auV ?_
   all_goals try exact z8
   all_goals try simp only [hsM] at *
   all_goals rfl
  subst h3
  rw [if_neg (not_not_intro rfl)]
  obtain ⟨t20,tf⟩:=hfc rfl rfl
  have c1:IntKind.i64.wrap (bN t 0:Nat)=(bN t 0:Nat):=IntWalk.i64_in _ (by have:=yg t 0;omega)
  have c2:((bN t 0:Nat):Int).tmod 16=((bN t 0 % 16:Nat):Int):=(Int.ofNat_tmod _ 16).symm
  have c3:IntKind.i64.wrap (4*((bN t 0 % 16:Nat):Int))=((hN t:Nat):Int):=by unfold hN;rw [IntWalk.i64_in _ (by omega)];omega
  have c4:IntKind.i64.wrap (((hN t:Nat):Int)+13)=((hN t+13:Nat):Int):=by rw [IntWalk.i64_in _ (by unfold hN;omega)];omega
  have c5:IntKind.i64.wrap (bN t (hN t+13):Nat)=(bN t (hN t+13):Nat):=IntWalk.i64_in _ (by have:=yg t (hN t+13);omega)
  have htl:t.length≤140737488351232:=by have:=hhl rfl;omega
  have hfo:=hed rfl
  have hme:=mC u hw hE fr now (t.length:Nat) hnow (by have:=hhl rfl;omega)
  have hd:=R.pH u.p.rs (toR ⟨fr,to,proto,fp,tp⟩) u.p.el hw.rs.1 hw.p.2 ⟨hfo.fr,hfo.to⟩
  have hnow2:0≤now∧now≤1099511627776:=⟨by have:=sq (vQ hE).2.2.2.2;have:wj u.ms≤xW u:=by unfold xW;omega
                                          omega,hnow.2⟩
  have htr:=(vQ hE).2.1
  have hpr:=hfo.pr
  generalize qN u fr now (t.length:Nat)=mm at *
  obtain ⟨l,ok⟩:=mm
  dsimp only at *
  have ho:zd Tryz.prog 88 [A.dNt u.n.l u.n.b1 u.n.t1 u.n.b2 u.n.t2 u.n.ms,.v (.int .i64 proto),.v (.int .i64 tp),.v (.int .i64 now)] (A.ZE (tB u.n proto tp now)):=A.dW u.n.l u.n.b1 u.n.t1 u.n.b2 u.n.t2 u.n.ms proto tp now hw.n.mm.1 hw.n.t1 hw.n.t2
  have hs2:=aF t (tB u.n proto tp now).1 (tB u.n proto tp now).2.1 htl (eP u.n hw.n _ _ _)
  have htk:=tQ { u with ms:=l } htr fr (tB u.n proto tp now).1 fp (tB u.n proto tp now).2.1 (bN t (hN t+13):Nat) now hnow2 true
  have hk:True:=trivial
  unfold sI
  unfold dSw at hs2
  dsimp only at htk ⊢
  generalize tB u.n proto tp now=r at *
  obtain ⟨a,p,e3⟩:=r
  dsimp only at *
  generalize rnR t a p 16 2=O at *
  obtain ⟨o,oe⟩:=O
  generalize T.knB u.tr fr a fp p now=K at *
  cases ok with
  |false=>
   rw [if_pos rfl]
   rcases hpr with rfl|rfl
   ·have tf:=(tf rfl).1
    refine z4 {} 0 Tryz.func50 fun Γ hW=>auC ?_
    repeat' first|refine auS ?_|(first|(with_reducible refine z0 he ?_)|(with_reducible refine z0 hh ?_)|(with_reducible refine z0 hme ?_)|(with_reducible refine z0 hd ?_)|(with_reducible refine z0 hk ?_)|(with_reducible refine z0 htk ?_)|(with_reducible refine z0 ho ?_)|(with_reducible refine z0 hs2 ?_)|(simp only [c2,c3,c4,c1,c5,z5,zj]))|refine auD ?_|(refine auW ?_ ?_<;>intro h<;>try exact auH)|(first|(simp only [z5,zj,Int.toNat_natCast])|(refine z7 (by simp only [z5,Int.toNat_natCast];omega) ?_)|fail)
    all_goals try exact auP
    all_goals try (exfalso;simp_all;done)
    all_goals refine auV ?_
    all_goals try exact z8
    all_goals try simp only [hsM] at *
    all_goals rfl
   ·clear tf
    refine z4 {} 0 Tryz.func50 fun Γ hW=>auC ?_
    repeat' first|refine auS ?_|(first|(with_reducible refine z0 he ?_)|(with_reducible refine z0 hh ?_)|(with_reducible refine z0 hme ?_)|(with_reducible refine z0 hd ?_)|(with_reducible refine z0 hk ?_)|(with_reducible refine z0 htk ?_)|(with_reducible refine z0 ho ?_)|(with_reducible refine z0 hs2 ?_)|(simp only [c2,c3,c4,c1,c5,z5,zj]))|refine auD ?_|(refine auW ?_ ?_<;>intro h<;>try exact auH)|(first|(simp only [z5,zj,Int.toNat_natCast])|(refine z7 (by simp only [z5,Int.toNat_natCast];omega) ?_)|fail)
    all_goals try exact auP
    all_goals try (exfalso;simp_all;done)
    all_goals refine auV ?_
    all_goals try exact z8
    all_goals try simp only [hsM] at *
    all_goals rfl
  |true=>
   rw [if_neg (by decide),if_neg (by decide)]
   rcases hpr with rfl|rfl
   ·obtain ⟨tf,tg⟩:=tf rfl
    rw [tg]
    generalize uk u.tr fr a fp p (bN t (hN t+13):Nat) now=tk at *
    obtain ⟨tr2,B⟩:=tk
    unfold pP at htk
    cases K
    ·rw [if_pos ⟨rfl,rfl⟩] at htk
     dsimp only at htk
     refine z4 {} 0 Tryz.func50 fun Γ hW=>auC ?_
     repeat' first|refine auS ?_|(first|(with_reducible refine z0 he ?_)|(with_reducible refine z0 hh ?_)|(with_reducible refine z0 hme ?_)|(with_reducible refine z0 hd ?_)|(with_reducible refine z0 hk ?_)|(with_reducible refine z0 htk ?_)|(with_reducible refine z0 ho ?_)|(with_reducible refine z0 hs2 ?_)|(simp only [c2,c3,c4,c1,c5,z5,zj]))|refine auD ?_|(refine auW ?_ ?_<;>intro h<;>try exact auH)|(first|(simp only [z5,zj,Int.toNat_natCast])|(refine z7 (by simp only [z5,Int.toNat_natCast];omega) ?_)|fail)
     all_goals try exact auP
     all_goals try (exfalso;simp_all;done)
     all_goals clear he hh hme hd hk htk ho hs2
     all_goals first
      |(rw [ef1];rotate_left;iterate 1 (focus (simp_all;done)))|(rw [ef2];rotate_left;iterate 3 (focus (simp_all;done)))
      |(exfalso;simp_all;done)
     all_goals refine auV ?_
     all_goals try exact z8
     all_goals try simp only [hsM] at *
     all_goals rfl
    ·rw [if_neg (by decide)] at htk
     dsimp only at htk
     refine z4 {} 0 Tryz.func50 fun Γ hW=>auC ?_
     repeat' first|refine auS ?_|(first|(with_reducible refine z0 he ?_)|(with_reducible refine z0 hh ?_)|(with_reducible refine z0 hme ?_)|(with_reducible refine z0 hd ?_)|(with_reducible refine z0 hk ?_)|(with_reducible refine z0 htk ?_)|(with_reducible refine z0 ho ?_)|(with_reducible refine z0 hs2 ?_)|(simp only [c2,c3,c4,c1,c5,z5,zj]))|refine auD ?_|(refine auW ?_ ?_<;>intro h<;>try exact auH)|(first|(simp only [z5,zj,Int.toNat_natCast])|(refine z7 (by simp only [z5,Int.toNat_natCast];omega) ?_)|fail)
     all_goals try exact auP
     all_goals try (exfalso;simp_all;done)
     all_goals clear he hh hme hd hk htk ho hs2
     all_goals first
      |(rw [ef1];rotate_left;iterate 1 (focus (simp_all;done)))|(rw [ef3];rotate_left;iterate 4 (focus (simp_all;done)))|(rw [ef4];rotate_left;iterate 2 (focus (simp_all;done)))
      |(exfalso;simp_all;done)
     all_goals refine auV ?_
     all_goals try exact z8
     all_goals try simp only [hsM] at *
     all_goals rfl
   ·clear tf
    generalize uk u.tr fr a fp p (flT t) now=tk at *
    obtain ⟨tr2,B⟩:=tk
    refine z4 {} 0 Tryz.func50 fun Γ hW=>auC ?_
    repeat' first|refine auS ?_|(first|(with_reducible refine z0 he ?_)|(with_reducible refine z0 hh ?_)|(with_reducible refine z0 hme ?_)|(with_reducible refine z0 hd ?_)|(with_reducible refine z0 hk ?_)|(with_reducible refine z0 htk ?_)|(with_reducible refine z0 ho ?_)|(with_reducible refine z0 hs2 ?_)|(simp only [c2,c3,c4,c1,c5,z5,zj]))|refine auD ?_|(refine auW ?_ ?_<;>intro h<;>try exact auH)|(first|(simp only [z5,zj,Int.toNat_natCast])|(refine z7 (by simp only [z5,Int.toNat_natCast];omega) ?_)|fail)
    all_goals try exact auP
    all_goals try (exfalso;simp_all;done)
    all_goals clear he hh hme hd hk htk ho hs2
    all_goals first
     |(rw [ef1];rotate_left;iterate 1 (focus (simp_all;done)))|(rw [ef4];rotate_left;iterate 2 (focus (simp_all;done)))
     |(exfalso;simp_all;done)
    all_goals refine auV ?_
    all_goals try exact z8
    all_goals try simp only [hsM] at *
    all_goals rfl
 |true=>
  rw [if_neg (fun q=>Bool.noConfusion q.1)]
  by_cases h3:e2=0
  rotate_left
  ·rw [if_pos h3]
   have hme:True:=trivial;have hd:True:=trivial;have hk:True:=trivial;have htk:True:=trivial;have ho:True:=trivial;have hs2:True:=trivial;have c1:True:=trivial;have c2:True:=trivial;have c3:True:=trivial;have c4:True:=trivial;have c5:True:=trivial
   refine z4 {} 0 Tryz.func50 fun Γ hW=>auC ?_
   repeat' first|refine auS ?_|(first|(with_reducible refine z0 he ?_)|(with_reducible refine z0 hh ?_)|(with_reducible refine z0 hme ?_)|(with_reducible refine z0 hd ?_)|(with_reducible refine z0 hk ?_)|(with_reducible refine z0 htk ?_)|(with_reducible refine z0 ho ?_)|(with_reducible refine z0 hs2 ?_)|(simp only [c2,c3,c4,c1,c5,z5,zj]))|refine auD ?_|(refine auW ?_ ?_<;>intro h<;>try exact auH)|(first|(simp only [z5,zj,Int.toNat_natCast])|(refine z7 (by simp only [z5,Int.toNat_natCast];omega) ?_)|fail)
   all_goals try exact auP
   all_goals try (exfalso;simp_all;done)
   all_goals refine auV ?_
   all_goals try exact z8
   all_goals try simp only [hsM] at *
   all_goals rfl
  subst h3
  rw [if_neg (not_not_intro rfl)]
  obtain ⟨t20,tf⟩:=hfc rfl rfl
  have c1:IntKind.i64.wrap (bN t 0:Nat)=(bN t 0:Nat):=IntWalk.i64_in _ (by have:=yg t 0;omega)
  have c2:((bN t 0:Nat):Int).tmod 16=((bN t 0 % 16:Nat):Int):=(Int.ofNat_tmod _ 16).symm
  have c3:IntKind.i64.wrap (4*((bN t 0 % 16:Nat):Int))=((hN t:Nat):Int):=by unfold hN;rw [IntWalk.i64_in _ (by omega)];omega
  have c4:IntKind.i64.wrap (((hN t:Nat):Int)+13)=((hN t+13:Nat):Int):=by rw [IntWalk.i64_in _ (by unfold hN;omega)];omega
  have c5:IntKind.i64.wrap (bN t (hN t+13):Nat)=(bN t (hN t+13):Nat):=IntWalk.i64_in _ (by have:=yg t (hN t+13);omega)
  have htl:t.length≤140737488351232:=by have:=hhl rfl;omega
  have hfo:=hed rfl
  have hme:=mC u hw hE fr now (t.length:Nat) hnow (by have:=hhl rfl;omega)
  have hd:=R.pH u.p.rs (toR ⟨fr,to,proto,fp,tp⟩) u.p.el hw.rs.1 hw.p.2 ⟨hfo.fr,hfo.to⟩
  have hnow2:0≤now∧now≤1099511627776:=⟨by have:=sq (vQ hE).2.2.2.2;have:wj u.ms≤xW u:=by unfold xW;omega
                                          omega,hnow.2⟩
  have htr:=(vQ hE).2.1
  have hpr:=hfo.pr
  generalize qN u fr now (t.length:Nat)=mm at *
  obtain ⟨l,ok⟩:=mm
  dsimp only at *
  have ho:zd Tryz.prog 86 [A.dNt u.n.l u.n.b1 u.n.t1 u.n.b2 u.n.t2 u.n.ms,.v (.int .i64 proto),.v (.int .u32 fr),.v (.int .i64 fp),.v (.int .i64 now)] (A.j0 u.n.l u.n.b1 u.n.b2 (sn u.n proto fr fp now)):=A.bx u.n.l u.n.b1 u.n.t1 u.n.b2 u.n.t2 u.n.ms proto fr fp now hw.n.ms hw.n.t1 hw.n.t2
  have hs2:=aC t u.p.ou (sn u.n proto fr fp now).2.2.2.1 htl hw.p.1
  have hk:=n6 { u with ms:=l } htr fr to fp tp now hnow2
  have htk:=tQ { u with ms:=l } htr fr to fp tp (bN t (hN t+13):Nat) now hnow2 false
  unfold uY
  unfold dSw at hs2
  dsimp only at hk htk ⊢
  generalize sn u.n proto fr fp now=r at *
  obtain ⟨T1,T2,MS,p,e3⟩:=r
  dsimp only at *
  generalize rnR t u.p.ou p 12 0=O at *
  obtain ⟨o,oe⟩:=O
  generalize T.knB u.tr fr to fp tp now=K at *
  generalize R.s5 u.p.rs (toR ⟨fr,to,proto,fp,tp⟩) u.p.el=DD at *
  obtain ⟨D,d1,d2⟩:=DD
  dsimp only at *
  cases ok with
  |false=>
   rw [if_pos rfl]
   rcases hpr with rfl|rfl
   ·have tf:=(tf rfl).1
    refine z4 {} 0 Tryz.func50 fun Γ hW=>auC ?_
    repeat' first|refine auS ?_|(first|(with_reducible refine z0 he ?_)|(with_reducible refine z0 hh ?_)|(with_reducible refine z0 hme ?_)|(with_reducible refine z0 hd ?_)|(with_reducible refine z0 hk ?_)|(with_reducible refine z0 htk ?_)|(with_reducible refine z0 ho ?_)|(with_reducible refine z0 hs2 ?_)|(simp only [c2,c3,c4,c1,c5,z5,zj]))|refine auD ?_|(refine auW ?_ ?_<;>intro h<;>try exact auH)|(first|(simp only [z5,zj,Int.toNat_natCast])|(refine z7 (by simp only [z5,Int.toNat_natCast];omega) ?_)|fail)
    all_goals try exact auP
    all_goals try (exfalso;simp_all;done)
    all_goals refine auV ?_
    all_goals try exact z8
    all_goals try simp only [hsM] at *
    all_goals rfl
   ·clear tf
    refine z4 {} 0 Tryz.func50 fun Γ hW=>auC ?_
    repeat' first|refine auS ?_|(first|(with_reducible refine z0 he ?_)|(with_reducible refine z0 hh ?_)|(with_reducible refine z0 hme ?_)|(with_reducible refine z0 hd ?_)|(with_reducible refine z0 hk ?_)|(with_reducible refine z0 htk ?_)|(with_reducible refine z0 ho ?_)|(with_reducible refine z0 hs2 ?_)|(simp only [c2,c3,c4,c1,c5,z5,zj]))|refine auD ?_|(refine auW ?_ ?_<;>intro h<;>try exact auH)|(first|(simp only [z5,zj,Int.toNat_natCast])|(refine z7 (by simp only [z5,Int.toNat_natCast];omega) ?_)|fail)
    all_goals try exact auP
    all_goals try (exfalso;simp_all;done)
    all_goals refine auV ?_
    all_goals try exact z8
    all_goals try simp only [hsM] at *
    all_goals rfl
  |true=>
   rw [if_neg (by decide),if_pos rfl]
   unfold pP at htk
   rw [if_neg (by simp)] at htk
   rcases hpr with rfl|rfl
   ·obtain ⟨tf,tg⟩:=tf rfl
    rw [tg]
    generalize uk u.tr fr to fp tp (bN t (hN t+13):Nat) now=tk at *
    obtain ⟨tr2,B⟩:=tk
    dsimp only at htk
    refine z4 {} 0 Tryz.func50 fun Γ hW=>auC ?_
    repeat' first|refine auS ?_|(first|(with_reducible refine z0 he ?_)|(with_reducible refine z0 hh ?_)|(with_reducible refine z0 hme ?_)|(with_reducible refine z0 hd ?_)|(with_reducible refine z0 hk ?_)|(with_reducible refine z0 htk ?_)|(with_reducible refine z0 ho ?_)|(with_reducible refine z0 hs2 ?_)|(simp only [c2,c3,c4,c1,c5,z5,zj]))|refine auD ?_|(refine auW ?_ ?_<;>intro h<;>try exact auH)|(first|(simp only [z5,zj,Int.toNat_natCast])|(refine z7 (by simp only [z5,Int.toNat_natCast];omega) ?_)|fail)
    all_goals try exact auP
    all_goals try (exfalso;simp_all;done)
    all_goals clear he hh hme hd hk htk ho hs2
    all_goals first
     |(rw [lf1];rotate_left;iterate 2 (focus (simp_all;done)))|(rw [lf2];rotate_left;iterate 3 (focus (simp_all;done)))|(rw [lf3];rotate_left;iterate 3 (focus (simp_all;done)))|(rw [lf4];rotate_left;iterate 3 (focus (simp_all;done)))
     |(exfalso;simp_all;done)
    all_goals refine auV ?_
    all_goals try exact z8
    all_goals try simp only [hsM] at *
    all_goals rfl
   ·clear tf
    generalize uk u.tr fr to fp tp (flT t) now=tk at *
    obtain ⟨tr2,B⟩:=tk
    clear htk
    have htk:True:=trivial
    refine z4 {} 0 Tryz.func50 fun Γ hW=>auC ?_
    repeat' first|refine auS ?_|(first|(with_reducible refine z0 he ?_)|(with_reducible refine z0 hh ?_)|(with_reducible refine z0 hme ?_)|(with_reducible refine z0 hd ?_)|(with_reducible refine z0 hk ?_)|(with_reducible refine z0 htk ?_)|(with_reducible refine z0 ho ?_)|(with_reducible refine z0 hs2 ?_)|(simp only [c2,c3,c4,c1,c5,z5,zj]))|refine auD ?_|(refine auW ?_ ?_<;>intro h<;>try exact auH)|(first|(simp only [z5,zj,Int.toNat_natCast])|(refine z7 (by simp only [z5,Int.toNat_natCast];omega) ?_)|fail)
    all_goals try exact auP
    all_goals try (exfalso;simp_all;done)
    all_goals clear he hh hme hd hk htk ho hs2
    all_goals first
     |(rw [lf1];rotate_left;iterate 2 (focus (simp_all;done)))|(rw [lf3];rotate_left;iterate 3 (focus (simp_all;done)))|(rw [lf4];rotate_left;iterate 3 (focus (simp_all;done)))
     |(exfalso;simp_all;done)
    all_goals refine auV ?_
    all_goals try exact z8
    all_goals try simp only [hsM] at *
    all_goals rfl
end Go.Proofs.YtmibknbmhcnemaaGreatDoor
namespace Go.Proofs.YtmibknbmhcnemaaGreatDoor
attribute [local irreducible] zF Go
set_option maxRecDepth 100000
theorem lT {α:Type} {ok:List α→α→Bool}:∀(l pre:List α) (t:α),yb ok pre (l++[t])=(yb ok pre l&&ok (pre++l) t)
 |[],pre,t=>by simp [yb]
 |x::r,pre,t=>by
  simp only [List.cons_append,yb,lT r (pre++[x]) t,List.append_assoc,List.nil_append,Bool.and_assoc]
abbrev mtP (t:Mt):Mt→Bool:=fun y=>!(decide (t.tm<y.tm)) && !(decide (y.ad=t.ad))
theorem jE (t y:Mt):mtP t y=(!decide (y.ad=t.ad)&&decide (y.tm≤t.tm)):=by
 unfold mtP
 rw [Bool.and_comm]
 congr 1
 rw [Bool.eq_iff_iff]
 simp
theorem ph {p:Mt→Bool} {l:List Mt} {j:Nat} {y:Mt} (h:l[j]?=some y):(l.take (j+1)).all p=((l.take j).all p&&p y):=by
 rw [List.take_add_one,h,List.all_append]
 simp
set_option maxHeartbeats 8000000 in
theorem gR (u:Hs) (hw:u.wf):zd Tryz.prog 17 [dH u] (.v (.int .i64 (rc u))):=by
 rw [jx]
 have hc1:=R.mS u.p false hw.p hw.rs.1
 have hc2:=T.yp u.tr
 have hc3:zd Tryz.prog 46 [.agg u.n.enc] (.v (.int .i64 (ki u.n))):=A.yu u.n.l u.n.b1 u.n.t1 u.n.b2 u.n.t2 u.n.ms hw.n.mm.1 hw.n.t1 hw.n.t2
 have hl:=hw.ms.1
 unfold maxLen at hl
 generalize R.plE u.p=e1 at *
 generalize T.y8 u.tr=e2 at *
 generalize ki u.n=e3 at *
 have hfit:pV u=true↔u.ms.length≤64∧u.n.l=u.p.lf∧u.n.b1=u.p.lt∧u.n.b2=u.p.st:=by unfold pV;simp only [Bool.and_eq_true,decide_eq_true_eq]
 unfold mtE
 generalize pV u=F at *
 refine z4 {} 0 Tryz.func17 fun Γ hW=>auC ?_
 repeat' first|refine auS ?_|(first|(with_reducible refine z0 hc1 ?_)|(with_reducible refine z0 hc2 ?_)|(with_reducible refine z0 hc3 ?_))|refine auD ?_|(refine auW ?_ ?_<;>intro h<;>try exact auH)|fail
 all_goals try exact auP
 any_goals (with_reducible refine auV ?_;simp only [hsM] at *;exact zB (by first|exact (Ud (by omega)).symm|exact (Uc (by omega) (by omega)).symm|exact (Uo (by omega) (by omega) (by omega)).symm))
 all_goals rw [Uj (by (simp only [hsL,reduceCtorEq] at *<;>omega)) (by (simp only [hsL,reduceCtorEq] at *<;>omega)) (by (simp only [hsL,reduceCtorEq] at *<;>omega))]
 all_goals clear hc1 hc2 hc3
 all_goals
  refine ze (α:=Nat×Nat) (fun x=>[(⟨.d1,.d0,.d1⟩,.v (.int .i64 (x.1:Nat))),(⟨.d0,.d0,.d6⟩,.v (.bool (F&&yb (u0 u.p.ra u.p.mo) [] (u.ms.take x.1))))]) (fun _=>[(1,none),(2,none)]) (fun x=>x.2) (fun x=>u.ms.length-x.1) (fun x=>x.1≤u.ms.length) (0,Γ.g0+1) (Nat.zero_le _) ?_ ?_
  ·skip
   refine zb ?_ ?_ (Nat.le_refl _)
   all_goals first|refine auE ?_|exact zi
   all_goals repeat' first|exact trivial|exact rfl|apply And.intro
   all_goals (refine zQ ?_;rw [List.take_zero];clear hl hw;cases F<;>simp_all [yb]<;>omega)
  rintro ⟨k,g2⟩ hk
  dsimp only at hk ⊢
  refine auL ?_
  by_cases hlt:k<u.ms.length
  rotate_left
  ·obtain rfl:k=u.ms.length:=by omega
   rw [List.take_length]
   generalize yb (u0 u.p.ra u.p.mo) [] u.ms=G at *
   clear hfit
   cases F<;>cases G
   all_goals
    repeat' first|refine auS ?_|fail|refine auD ?_|(refine auW ?_ ?_<;>intro h<;>try exact auH)|fail
    all_goals try exact auP
    all_goals refine auV ?_
    all_goals try exact z8
    all_goals try simp only [hsM] at *
    all_goals first
     |rfl
     |(exfalso;simp_all;done)
  obtain ⟨t,ht⟩:∃t,u.ms[k]?=some t:=⟨_,List.getElem?_eq_getElem hlt⟩
  have ex:=uw ht
  have hb:=B.ng t.ra t.mo t.hs t.tm
  have hwk:IntKind.i64.wrap ((k:Int)+1)=((k+1:Nat):Int):=(IntWalk.i64_in _ (by omega)).trans (by omega)
  have hX:zK (zV (u.ms.map Mt.enc) 0) ((k:Int)-0).toNat=(u.ms.take k).map Mt.enc:=by rw [zz,y4,List.drop_zero,List.map_take,Int.sub_zero,Int.toNat_natCast]
  have hXl:((u.ms.take k).map Mt.enc).length=k:=by rw [List.length_map,List.length_take];omega
  have hgn:yb (u0 u.p.ra u.p.mo) [] (u.ms.take (k+1))=(yb (u0 u.p.ra u.p.mo) [] (u.ms.take k)&&(decide (B.wA t.ra t.mo t.hs t.tm=0)&&(decide (t.ra=u.p.ra)&&(decide (t.mo=u.p.mo)&&(u.ms.take k).all (mtP t))))):=by
   rw [List.take_add_one,ht]
   exact lT _ _ _
  generalize hG1:yb (u0 u.p.ra u.p.mo) [] (u.ms.take (k+1))=G1 at *
  generalize yb (u0 u.p.ra u.p.mo) [] (u.ms.take k)=G at *
  generalize B.wA t.ra t.mo t.hs t.tm=be at *
  clear hfit
  cases hv:(F&&G)
  ·skip
   repeat' first|refine auS ?_|(with_reducible refine z0 hb ?_)|refine auD ?_|(refine auW ?_ ?_<;>intro h<;>try exact auH)|(simp only [Int.toNat_natCast,ex,hX])
   all_goals try exact auP
   simp only [hX,hXl]
   refine ze (α:=Nat×Nat) (fun y=>[(⟨.d1,.d4,.d4⟩,.v (.int .i64 (y.1:Nat))),(⟨.d0,.d0,.d6⟩,.v (.bool (false&&(u.ms.take y.1).all (mtP t))))]) (fun _=>[(2,none)]) (fun y=>y.2) (fun y=>k-y.1) (fun y=>y.1≤k) (0,g2+1) (Nat.zero_le _) ?_ ?_
   ·skip
    refine zb ?_ ?_ (Nat.le_refl _)
    all_goals first|refine auE ?_|exact zi
    all_goals repeat' first|exact trivial|exact rfl|apply And.intro
    all_goals (refine zQ ?_;simp)
   rintro ⟨j,g3⟩ hj
   dsimp only at hj ⊢
   refine auL ?_
   by_cases hj2:j<k
   ·obtain ⟨y,hy⟩:∃y,u.ms[j]?=some y:=⟨_,List.getElem?_eq_getElem (by omega)⟩
    have ey:ym ((u.ms.take k).map Mt.enc) j=y.enc:=uw (by rw [List.getElem?_take,if_pos hj2];exact hy)
    have hsn:=ph (p:=mtP t) hy
    rw [jE] at hsn
    have hwj:IntKind.i64.wrap ((j:Int)+1)=((j+1:Nat):Int):=(IntWalk.i64_in _ (by omega)).trans (by omega)
    generalize hB1:(u.ms.take (j+1)).all (mtP t)=B1 at *
    generalize (u.ms.take j).all (mtP t)=B0 at *
    cases hv2:(false&&B0)
    all_goals
     repeat' first|refine auS ?_|fail|refine auD ?_|(refine auW ?_ ?_<;>intro h<;>try exact auH)|(first|(simp only [Int.toNat_natCast,ey,hwj])|(refine z7 ⟨by rw [List.length_map,List.length_take];omega,by trivial⟩ ?_)|fail)
     all_goals try exact auP
     all_goals try (exfalso;simp_all;done)
     all_goals
      refine za ⟨(j+1,g3+1),hj2,Nat.sub_lt_sub_left hj2 (Nat.lt_succ_self j),?_⟩
      refine zb ?_ ?_ (Nat.le_refl _)
      all_goals first|refine auE ?_|exact zi
      all_goals repeat' first|exact trivial|exact rfl|apply And.intro
     all_goals (refine zQ ?_;rw [hB1,hsn,←Bool.and_assoc,hv2];clear hB1 hsn hv2 hgn hv hG1;simp_all;try omega)
   ·obtain rfl:j=k:=by omega
    repeat' first|refine auS ?_|fail|refine auD ?_|(refine auW ?_ ?_<;>intro h<;>try exact auH)|(simp only [hwk])
    all_goals try exact auP
    all_goals try (exfalso;simp_all;done)
    refine za ⟨(j+1,g3),⟨hlt,Nat.sub_lt_sub_left hlt (Nat.lt_succ_self j),?_⟩⟩
    refine zb ?_ ?_ (Nat.le_refl _)
    all_goals first|refine auE ?_|exact zi
    all_goals repeat' first|exact trivial|exact rfl|apply And.intro
    all_goals (refine zQ ?_;rw [hG1,hgn,←Bool.and_assoc,hv];generalize (u.ms.take j).all (mtP t)=B9 at *;clear hgn hG1;simp_all)
  ·skip
   repeat' first|refine auS ?_|(with_reducible refine z0 hb ?_)|refine auD ?_|(refine auW ?_ ?_<;>intro h<;>try exact auH)|(simp only [Int.toNat_natCast,ex,hX])
   all_goals try exact auP
   ·skip
    simp only [hX,hXl]
    refine ze (α:=Nat×Nat) (fun y=>[(⟨.d1,.d4,.d4⟩,.v (.int .i64 (y.1:Nat))),(⟨.d0,.d0,.d6⟩,.v (.bool ((decide (t.mo=u.p.mo))&&(u.ms.take y.1).all (mtP t))))]) (fun _=>[(2,none)]) (fun y=>y.2) (fun y=>k-y.1) (fun y=>y.1≤k) (0,g2+1) (Nat.zero_le _) ?_ ?_
    ·skip
     refine zb ?_ ?_ (Nat.le_refl _)
     all_goals first|refine auE ?_|exact zi
     all_goals repeat' first|exact trivial|exact rfl|apply And.intro
     all_goals (refine zQ ?_;simp)
    rintro ⟨j,g3⟩ hj
    dsimp only at hj ⊢
    refine auL ?_
    by_cases hj2:j<k
    ·obtain ⟨y,hy⟩:∃y,u.ms[j]?=some y:=⟨_,List.getElem?_eq_getElem (by omega)⟩
     have ey:ym ((u.ms.take k).map Mt.enc) j=y.enc:=uw (by rw [List.getElem?_take,if_pos hj2];exact hy)
     have hsn:=ph (p:=mtP t) hy
     rw [jE] at hsn
     have hwj:IntKind.i64.wrap ((j:Int)+1)=((j+1:Nat):Int):=(IntWalk.i64_in _ (by omega)).trans (by omega)
     generalize hB1:(u.ms.take (j+1)).all (mtP t)=B1 at *
     generalize (u.ms.take j).all (mtP t)=B0 at *
     cases hv2:((decide (t.mo=u.p.mo))&&B0)
     all_goals
      repeat' first|refine auS ?_|fail|refine auD ?_|(refine auW ?_ ?_<;>intro h<;>try exact auH)|(first|(simp only [Int.toNat_natCast,ey,hwj])|(refine z7 ⟨by rw [List.length_map,List.length_take];omega,by trivial⟩ ?_)|fail)
      all_goals try exact auP
      all_goals try (exfalso;simp_all;done)
      all_goals
       refine za ⟨(j+1,g3+1),hj2,Nat.sub_lt_sub_left hj2 (Nat.lt_succ_self j),?_⟩
       refine zb ?_ ?_ (Nat.le_refl _)
       all_goals first|refine auE ?_|exact zi
       all_goals repeat' first|exact trivial|exact rfl|apply And.intro
      all_goals (refine zQ ?_;rw [hB1,hsn,←Bool.and_assoc,hv2];clear hB1 hsn hv2 hgn hv hG1;simp_all;try omega)
    ·obtain rfl:j=k:=by omega
     repeat' first|refine auS ?_|fail|refine auD ?_|(refine auW ?_ ?_<;>intro h<;>try exact auH)|(simp only [hwk])
     all_goals try exact auP
     all_goals try (exfalso;simp_all;done)
     refine za ⟨(j+1,g3),⟨hlt,Nat.sub_lt_sub_left hlt (Nat.lt_succ_self j),?_⟩⟩
     refine zb ?_ ?_ (Nat.le_refl _)
     all_goals first|refine auE ?_|exact zi
     all_goals repeat' first|exact trivial|exact rfl|apply And.intro
     all_goals (refine zQ ?_;rw [hG1,hgn,←Bool.and_assoc,hv];generalize (u.ms.take j).all (mtP t)=B9 at *;clear hgn hG1;simp_all)
   ·skip
    simp only [hX,hXl]
    refine ze (α:=Nat×Nat) (fun y=>[(⟨.d1,.d4,.d4⟩,.v (.int .i64 (y.1:Nat))),(⟨.d0,.d0,.d6⟩,.v (.bool (false&&(u.ms.take y.1).all (mtP t))))]) (fun _=>[(2,none)]) (fun y=>y.2) (fun y=>k-y.1) (fun y=>y.1≤k) (0,g2+1) (Nat.zero_le _) ?_ ?_
    ·skip
     refine zb ?_ ?_ (Nat.le_refl _)
     all_goals first|refine auE ?_|exact zi
     all_goals repeat' first|exact trivial|exact rfl|apply And.intro
     all_goals (refine zQ ?_;simp)
    rintro ⟨j,g3⟩ hj
    dsimp only at hj ⊢
    refine auL ?_
    by_cases hj2:j<k
    ·obtain ⟨y,hy⟩:∃y,u.ms[j]?=some y:=⟨_,List.getElem?_eq_getElem (by omega)⟩
     have ey:ym ((u.ms.take k).map Mt.enc) j=y.enc:=uw (by rw [List.getElem?_take,if_pos hj2];exact hy)
     have hsn:=ph (p:=mtP t) hy
     rw [jE] at hsn
     have hwj:IntKind.i64.wrap ((j:Int)+1)=((j+1:Nat):Int):=(IntWalk.i64_in _ (by omega)).trans (by omega)
     generalize hB1:(u.ms.take (j+1)).all (mtP t)=B1 at *
     generalize (u.ms.take j).all (mtP t)=B0 at *
     cases hv2:(false&&B0)
     all_goals
      repeat' first|refine auS ?_|fail|refine auD ?_|(refine auW ?_ ?_<;>intro h<;>try exact auH)|(first|(simp only [Int.toNat_natCast,ey,hwj])|(refine z7 ⟨by rw [List.length_map,List.length_take];omega,by trivial⟩ ?_)|fail)
      all_goals try exact auP
      all_goals try (exfalso;simp_all;done)
      all_goals
       refine za ⟨(j+1,g3+1),hj2,Nat.sub_lt_sub_left hj2 (Nat.lt_succ_self j),?_⟩
       refine zb ?_ ?_ (Nat.le_refl _)
       all_goals first|refine auE ?_|exact zi
       all_goals repeat' first|exact trivial|exact rfl|apply And.intro
      all_goals (refine zQ ?_;rw [hB1,hsn,←Bool.and_assoc,hv2];clear hB1 hsn hv2 hgn hv hG1;simp_all;try omega)
    ·obtain rfl:j=k:=by omega
     repeat' first|refine auS ?_|fail|refine auD ?_|(refine auW ?_ ?_<;>intro h<;>try exact auH)|(simp only [hwk])
     all_goals try exact auP
     all_goals try (exfalso;simp_all;done)
     refine za ⟨(j+1,g3),⟨hlt,Nat.sub_lt_sub_left hlt (Nat.lt_succ_self j),?_⟩⟩
     refine zb ?_ ?_ (Nat.le_refl _)
     all_goals first|refine auE ?_|exact zi
     all_goals repeat' first|exact trivial|exact rfl|apply And.intro
     all_goals (refine zQ ?_;rw [hG1,hgn,←Bool.and_assoc,hv];generalize (u.ms.take j).all (mtP t)=B9 at *;clear hgn hG1;simp_all)
   ·skip
    simp only [hX,hXl]
    refine ze (α:=Nat×Nat) (fun y=>[(⟨.d1,.d4,.d4⟩,.v (.int .i64 (y.1:Nat))),(⟨.d0,.d0,.d6⟩,.v (.bool (false&&(u.ms.take y.1).all (mtP t))))]) (fun _=>[(2,none)]) (fun y=>y.2) (fun y=>k-y.1) (fun y=>y.1≤k) (0,g2+1) (Nat.zero_le _) ?_ ?_
    ·skip
     refine zb ?_ ?_ (Nat.le_refl _)
     all_goals first|refine auE ?_|exact zi
     all_goals repeat' first|exact trivial|exact rfl|apply And.intro
     all_goals (refine zQ ?_;simp)
    rintro ⟨j,g3⟩ hj
    dsimp only at hj ⊢
    refine auL ?_
    by_cases hj2:j<k
    ·obtain ⟨y,hy⟩:∃y,u.ms[j]?=some y:=⟨_,List.getElem?_eq_getElem (by omega)⟩
     have ey:ym ((u.ms.take k).map Mt.enc) j=y.enc:=uw (by rw [List.getElem?_take,if_pos hj2];exact hy)
     have hsn:=ph (p:=mtP t) hy
     rw [jE] at hsn
     have hwj:IntKind.i64.wrap ((j:Int)+1)=((j+1:Nat):Int):=(IntWalk.i64_in _ (by omega)).trans (by omega)
     generalize hB1:(u.ms.take (j+1)).all (mtP t)=B1 at *
     generalize (u.ms.take j).all (mtP t)=B0 at *
     cases hv2:(false&&B0)
     all_goals
      repeat' first|refine auS ?_|fail|refine auD ?_|(refine auW ?_ ?_<;>intro h<;>try exact auH)|(first|(simp only [Int.toNat_natCast,ey,hwj])|(refine z7 ⟨by rw [List.length_map,List.length_take];omega,by trivial⟩ ?_)|fail)
      all_goals try exact auP
      all_goals try (exfalso;simp_all;done)
      all_goals
       refine za ⟨(j+1,g3+1),hj2,Nat.sub_lt_sub_left hj2 (Nat.lt_succ_self j),?_⟩
       refine zb ?_ ?_ (Nat.le_refl _)
       all_goals first|refine auE ?_|exact zi
       all_goals repeat' first|exact trivial|exact rfl|apply And.intro
      all_goals (refine zQ ?_;rw [hB1,hsn,←Bool.and_assoc,hv2];clear hB1 hsn hv2 hgn hv hG1;simp_all;try omega)
    ·obtain rfl:j=k:=by omega
     repeat' first|refine auS ?_|fail|refine auD ?_|(refine auW ?_ ?_<;>intro h<;>try exact auH)|(simp only [hwk])
     all_goals try exact auP
     all_goals try (exfalso;simp_all;done)
     refine za ⟨(j+1,g3),⟨hlt,Nat.sub_lt_sub_left hlt (Nat.lt_succ_self j),?_⟩⟩
     refine zb ?_ ?_ (Nat.le_refl _)
     all_goals first|refine auE ?_|exact zi
     all_goals repeat' first|exact trivial|exact rfl|apply And.intro
     all_goals (refine zQ ?_;rw [hG1,hgn,←Bool.and_assoc,hv];generalize (u.ms.take j).all (mtP t)=B9 at *;clear hgn hG1;simp_all)
end Go.Proofs.YtmibknbmhcnemaaGreatDoor
namespace Go.Proofs.YtmibknbmhcnemaaGreatDoor
attribute [local irreducible] zF Go
set_option maxRecDepth 100000
theorem Uk (g:Nat) (l:List Wn):xb g (l.map Wn.enc):=zn (fun x=>by simp [Wn.enc,nfL,nfD])
theorem XV {l:List Cm} {k:Nat} {t:Cm} (ht:l[k]?=some t):ym (l.map Cm.enc) k=t.enc:=zT Cm.enc l k t ht
set_option maxHeartbeats 8000000 in
theorem bP (u:Hs) (hw:u.wf) (l:List Cm) (c:Bool) (hl:l.length≤300) (hs:∀x∈l,x.s.length≤140737488351232):zd Tryz.prog 18 [dH u,.snap 3 (l.map Cm.enc) c] (.tup [dH (uc u l).1,.snap 3 ((uc u l).2.map Wn.enc) false]):=by
 refine z4 {} 0 Tryz.func18 fun Γ hW=>auC ?_
 repeat' first|refine auS ?_|fail|refine auD ?_|(refine auW ?_ ?_<;>intro h<;>try exact auH)|fail
 refine zN (yI (yW ⟨.d0,.d0,.d6⟩ 5 3 rfl rfl)) ?_
 refine ze (α:=Nat×Nat×Nat) (fun x=>[(⟨.d0,.d1,.d4⟩,.v (.int .i64 (x.1:Nat))),(⟨.d0,.d0,.d6⟩,.sl 5 x.2.1 3 0 (uc u (l.take x.1)).2.length false)]) (fun x=>[(0,some ⟨Γ.g0,16,[(uc u (l.take x.1)).1.row (msD (uc u (l.take x.1)).1.ms)]⟩),(2,none),(3,none),(4,none),(5,some ⟨x.2.1,3,(uc u (l.take x.1)).2.map Wn.enc⟩)]) (fun x=>x.2.2) (fun x=>l.length-x.1) (fun x=>x.1≤l.length) (0,Γ.g0+2,Γ.g0+3) (Nat.zero_le _) ?_ ?_
 ·skip
  refine zb ?_ ?_ (Nat.le_refl _)
  all_goals first|refine auE ?_|exact zi
  all_goals repeat' first|exact trivial|exact rfl|apply And.intro
 rintro ⟨k,nm,g⟩ hk
 dsimp only at hk ⊢
 refine auL ?_
 by_cases hlt:k<l.length
 ·obtain ⟨⟨ci,cs,ct⟩,ht⟩:∃t,l[k]?=some t:=⟨_,List.getElem?_eq_getElem hlt⟩
  have ex:=XV ht
  have hcs:=hs _ (List.mem_of_getElem? ht)
  have hst:=kV (u:=u) ht
  obtain ⟨hv,hO⟩:=qZ hw (l.take k)
  rw [List.length_take,Nat.min_eq_left (by omega)] at hO
  generalize uc u (l.take k)=p at *
  obtain ⟨v,O⟩:=p
  dsimp only at hv hO hst hcs ⊢
  have hr:=gR v hv
  have hbt:=z6 ct (xW v) 1099511627776
  have e1:∀w:Wn,O.map Wn.enc++[w.enc]=(O++[w]).map Wn.enc:=fun w=>by rw [List.map_append];rfl
  have e3:∀y z:Int,O.map Wn.enc++[[.v (.string { data:=#[] }),.v (.int .i64 y),.v (.int .i64 z)]]=(O++[(⟨[],y,z⟩:Wn)]).map Wn.enc:=fun y z=>e1 ⟨[],y,z⟩
  have e2:∀w:Wn,(O.map Wn.enc).length+1=(O++[w]).length:=fun w=>by simp
  by_cases hE:rc v=0
  ·have hla:=fv v hv hE
   by_cases hn:xW v≤ct∧ct≤1099511627776
   ·have hhr:uS v ci cs ct=((goR v ci cs ct).1,(goR v ci cs ct).2.2.2.1,(goR v ci cs ct).2.2.2.2,0):=by unfold uS;rw [if_neg (not_not_intro hE),if_neg (by omega)]
    have hhe:=dB v hv hE ci cs hcs ct hn
    rw [hE] at hr
    rw [decide_eq_true hn] at hbt
    clear hE hn
    generalize xW v=L at *
    generalize goR v ci cs ct=G at *
    obtain ⟨v2,f2,t2,o2,y2⟩:=G
    dsimp only at hhr hhe
    repeat' first|refine auS ?_|(first|(with_reducible refine z0 hr ?_)|(with_reducible refine z0 hla ?_)|(with_reducible refine z0 hbt ?_)|(with_reducible refine z0 hhe ?_))|refine auD ?_|(refine auW ?_ ?_<;>intro h<;>try exact auH)|(simp only [Int.toNat_natCast,ex])
    all_goals try exact auP
    all_goals try (exfalso;simp_all;done)
    first
     |rw [e1 (⟨o2,y2,0⟩:Wn),e2 (⟨o2,y2,0⟩:Wn)]
     |rw [e3,e2 (⟨o2,y2,0⟩:Wn)]
    refine za ⟨(k+1,g+3,g+4),hlt,Nat.sub_lt_sub_left hlt (Nat.lt_succ_self k),?_⟩
    dsimp only
    rw [hst]
    unfold ru
    dsimp only
    rw [hhr]
    refine zb ?_ ?_ (Nat.le_refl _)
    all_goals first|refine auE ?_|exact zi
    all_goals repeat' first|exact trivial|exact rfl|apply And.intro
    all_goals first
     |exact zB ((IntWalk.i64_in _ (by omega)).trans (by omega))
     |rfl
   ·have hhr:uS v ci cs ct=(v,[],0,1):=by unfold uS;rw [if_neg (not_not_intro hE),if_pos (by omega)]
    have hhe:True:=trivial
    rw [hE] at hr
    rw [decide_eq_false hn] at hbt
    clear hE hn
    generalize xW v=L at *
    repeat' first|refine auS ?_|(first|(with_reducible refine z0 hr ?_)|(with_reducible refine z0 hla ?_)|(with_reducible refine z0 hbt ?_)|(with_reducible refine z0 hhe ?_))|refine auD ?_|(refine auW ?_ ?_<;>intro h<;>try exact auH)|(simp only [Int.toNat_natCast,ex])
    all_goals try exact auP
    all_goals try (exfalso;simp_all;done)
    first
     |rw [e1 (⟨[],0,1⟩:Wn),e2 (⟨[],0,1⟩:Wn)]
     |rw [e3,e2 (⟨[],0,1⟩:Wn)]
    refine za ⟨(k+1,g+3,g+4),hlt,Nat.sub_lt_sub_left hlt (Nat.lt_succ_self k),?_⟩
    dsimp only
    rw [hst]
    unfold ru
    dsimp only
    rw [hhr]
    refine zb ?_ ?_ (Nat.le_refl _)
    all_goals first|refine auE ?_|exact zi
    all_goals repeat' first|exact trivial|exact rfl|apply And.intro
    all_goals first
     |exact zB ((IntWalk.i64_in _ (by omega)).trans (by omega))
     |rfl
  ·have hhr:uS v ci cs ct=(v,[],0,rc v):=by unfold uS;rw [if_pos hE]
   have hhe:True:=trivial
   have hla:True:=trivial
   generalize rc v=e at *
   generalize xW v=L at *
   repeat' first|refine auS ?_|(first|(with_reducible refine z0 hr ?_)|(with_reducible refine z0 hla ?_)|(with_reducible refine z0 hbt ?_)|(with_reducible refine z0 hhe ?_))|refine auD ?_|(refine auW ?_ ?_<;>intro h<;>try exact auH)|(simp only [Int.toNat_natCast,ex])
   all_goals try exact auP
   all_goals try (exfalso;simp_all;done)
   first
    |rw [e1 (⟨[],0,e⟩:Wn),e2 (⟨[],0,e⟩:Wn)]
    |rw [e3,e2 (⟨[],0,e⟩:Wn)]
   refine za ⟨(k+1,g+3,g+4),hlt,Nat.sub_lt_sub_left hlt (Nat.lt_succ_self k),?_⟩
   dsimp only
   rw [hst]
   unfold ru
   dsimp only
   rw [hhr]
   refine zb ?_ ?_ (Nat.le_refl _)
   all_goals first|refine auE ?_|exact zi
   all_goals repeat' first|exact trivial|exact rfl|apply And.intro
   all_goals first
    |exact zB ((IntWalk.i64_in _ (by omega)).trans (by omega))
    |rfl
 ·obtain rfl:k=l.length:=by omega
  simp only [List.take_length]
  obtain ⟨hv,hO⟩:=qZ hw l
  generalize uc u l=p at *
  obtain ⟨v,O⟩:=p
  dsimp only at hv hO ⊢
  have hnf:=fun g=>Uk g O
  have hnf2:=fun g=>qQ g v
  repeat' first|refine auS ?_|fail|refine auD ?_|(refine auW ?_ ?_<;>intro h<;>try exact auH)|fail
  all_goals try exact auP
  refine zt (zk hW ⟨.d0,.d0,.d5⟩ rfl rfl ⟨rfl,rfl,by simp⟩) ?_
  rw [yN (by simp)]
  all_goals refine auV ?_
  all_goals try exact z8
  all_goals try simp only [hsM] at *
  all_goals rfl
end Go.Proofs.YtmibknbmhcnemaaGreatDoor
