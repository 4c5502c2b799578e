import Derived.Test.YtaiileiodjicpaaGreatDoorTt26
set_option linter.unusedVariables false
set_option linter.unusedSimpArgs false
namespace Go.Proofs.YtaiileiodjicpaaGreatDoor
def rnR (s:List UInt8) (a port:Int) (at' off:Nat):List UInt8×Int:=
 if ¬(edR s).2=0 then ([],(edR s).2)
 else if ¬(0≤port∧port≤65535) then ([],1)
 else ((rnW s (hN s) (bN s 9:Nat) a port at' off).take (pL s),0)
end Go.Proofs.YtaiileiodjicpaaGreatDoor
namespace Go.Proofs.YtaiileiodjicpaaGreatDoor
attribute [local irreducible] zF Go
set_option maxRecDepth 100000
theorem ten:((10:Nat):Int)=10:=rfl
theorem qO (t:List UInt8) (L:Nat):uJ (zN (zV (rw8 t) 0) L)=true:=by
 rw [zB,yh,List.drop_zero,show (rw8 t).take L=rw8 (t.take L) from (List.map_take ..).symm]
 exact ov _
theorem vZ (t:List UInt8) (L:Nat):td (zN (zV (rw8 t) 0) L)=mkS (t.take L):=by
 rw [zB,yh,List.drop_zero,show (rw8 t).take L=rw8 (t.take L) from (List.map_take ..).symm]
 exact cZ _
set_option maxHeartbeats 4000000 in
theorem pZ (s:List UInt8) (a port:Int) (hs:s.length≤140737488351232) (hb:¬(edR s).2=0∨¬(0≤port∧port≤65535)) (at' off:Nat):zi Tryz.prog 147 [.v (.string (mkS s)),.v (.int .u32 a),.v (.int .i64 port),.v (.int .i64 (at':Nat)),.v (.int .i64 (off:Nat))] (.tup [.v (.string (mkS (rnR s a port at' off).1)),.v (.int .i64 (rnR s a port at' off).2)]):=by
 have he:=pD s hs
 by_cases h1:(edR s).2=0
 rotate_left
 ·have e:rnR s a port at' off=([],(edR s).2):=by unfold rnR;rw [if_pos h1]
  rw [e]
  clear e hb
  generalize edR s=r at *
  obtain ⟨f,e⟩:=r
  dsimp only at *
  refine z7 {own:=true} 0 Tryz.func147 fun Γ hW=>auC ?_
  repeat' first|(refine zP (zr hW ⟨.d0,.d2,.d1⟩ rfl rfl ⟨rfl,rfl,Nat.le_refl 2⟩) ?_)|refine auS ?_|(first|(simp only [za,wm,Int.sub_zero,Int.toNat_natCast,Nat.zero_add])|(simp only [y0])|(simp only [c0,c15,cs,d16,d6])|(simp only [k1,k2,k3,k4,k5])|(simp only [m16,f16])|(simp only [vZ])|(with_reducible refine z6 he ?_)|((with_reducible refine z_ 1 ?_ (h2 _) (fun _ _ _ h=>h) ?_);(exact rfl))|((with_reducible refine z_ 1 ?_ (hw _) (fun _ _ _ h=>h) ?_);(exact rfl))|((with_reducible refine z_ 1 ?_ (g1 _ _) (fun _ _ _ h=>h) ?_);(exact rfl))|((with_reducible refine z_ 1 ?_ (g2 _ _) (fun _ _ _ h=>h) ?_);(exact rfl))|((with_reducible refine z_ 1 ?_ (g3 _ _) (fun _ _ _ h=>h) ?_);(exact rfl))|((with_reducible refine z_ 1 ?_ (hz _) (fun _ _ _ h=>h) ?_);(exact rfl))|((with_reducible refine z_ 1 ?_ (hp _) (fun _ _ _ h=>h) ?_);(exact rfl)))|refine auD ?_|(refine auW ?_ ?_<;>intro h<;>try exact auH)|(first|(refine zf (by omega) ?_)|fail)
  all_goals try exact auP
  all_goals refine auV ?_
  all_goals try exact zc
  all_goals try simp only [hsM] at *
  all_goals rfl
 ·have h3:=hb.resolve_left (not_not_intro h1)
  have e:rnR s a port at' off=([],1):=by unfold rnR;rw [if_neg (not_not_intro h1),if_pos h3]
  rw [e]
  clear e hb
  generalize edR s=r at *
  obtain ⟨f,e⟩:=r
  dsimp only at *
  subst h1
  by_cases h4:port<0
  ·skip
   refine z7 {own:=true} 0 Tryz.func147 fun Γ hW=>auC ?_
   repeat' first|(refine zP (zr hW ⟨.d0,.d2,.d1⟩ rfl rfl ⟨rfl,rfl,Nat.le_refl 2⟩) ?_)|refine auS ?_|(first|(simp only [za,wm,Int.sub_zero,Int.toNat_natCast,Nat.zero_add])|(simp only [y0])|(simp only [c0,c15,cs,d16,d6])|(simp only [k1,k2,k3,k4,k5])|(simp only [m16,f16])|(simp only [vZ])|(with_reducible refine z6 he ?_)|((with_reducible refine z_ 1 ?_ (h2 _) (fun _ _ _ h=>h) ?_);(exact rfl))|((with_reducible refine z_ 1 ?_ (hw _) (fun _ _ _ h=>h) ?_);(exact rfl))|((with_reducible refine z_ 1 ?_ (g1 _ _) (fun _ _ _ h=>h) ?_);(exact rfl))|((with_reducible refine z_ 1 ?_ (g2 _ _) (fun _ _ _ h=>h) ?_);(exact rfl))|((with_reducible refine z_ 1 ?_ (g3 _ _) (fun _ _ _ h=>h) ?_);(exact rfl))|((with_reducible refine z_ 1 ?_ (hz _) (fun _ _ _ h=>h) ?_);(exact rfl))|((with_reducible refine z_ 1 ?_ (hp _) (fun _ _ _ h=>h) ?_);(exact rfl)))|refine auD ?_|(refine auW ?_ ?_<;>intro h<;>try exact auH)|(first|(refine zf (by omega) ?_)|fail)
   all_goals try exact auP
   all_goals refine auV ?_
   all_goals try exact zc
   all_goals try simp only [hsM] at *
   all_goals rfl
  ·have h5:65535<port:=by omega
   refine z7 {own:=true} 0 Tryz.func147 fun Γ hW=>auC ?_
   repeat' first|(refine zP (zr hW ⟨.d0,.d2,.d1⟩ rfl rfl ⟨rfl,rfl,Nat.le_refl 2⟩) ?_)|refine auS ?_|(first|(simp only [za,wm,Int.sub_zero,Int.toNat_natCast,Nat.zero_add])|(simp only [y0])|(simp only [c0,c15,cs,d16,d6])|(simp only [k1,k2,k3,k4,k5])|(simp only [m16,f16])|(simp only [vZ])|(with_reducible refine z6 he ?_)|((with_reducible refine z_ 1 ?_ (h2 _) (fun _ _ _ h=>h) ?_);(exact rfl))|((with_reducible refine z_ 1 ?_ (hw _) (fun _ _ _ h=>h) ?_);(exact rfl))|((with_reducible refine z_ 1 ?_ (g1 _ _) (fun _ _ _ h=>h) ?_);(exact rfl))|((with_reducible refine z_ 1 ?_ (g2 _ _) (fun _ _ _ h=>h) ?_);(exact rfl))|((with_reducible refine z_ 1 ?_ (g3 _ _) (fun _ _ _ h=>h) ?_);(exact rfl))|((with_reducible refine z_ 1 ?_ (hz _) (fun _ _ _ h=>h) ?_);(exact rfl))|((with_reducible refine z_ 1 ?_ (hp _) (fun _ _ _ h=>h) ?_);(exact rfl)))|refine auD ?_|(refine auW ?_ ?_<;>intro h<;>try exact auH)|(first|(refine zf (by omega) ?_)|fail)
   all_goals try exact auP
   all_goals refine auV ?_
   all_goals try exact zc
   all_goals try simp only [hsM] at *
   all_goals rfl
set_option maxHeartbeats 8000000 in
theorem eI (s:List UInt8) (a port:Int) (hs:s.length≤140737488351232) (h1:(edR s).2=0) (h3:0≤port∧port≤65535) (hab:0≤a∧a<4294967296) (at' off:Nat) (hao:(at'=12∧off=0)∨(at'=16∧off=2)):zi Tryz.prog 147 [.v (.string (mkS s)),.v (.int .u32 a),.v (.int .i64 port),.v (.int .i64 (at':Nat)),.v (.int .i64 (off:Nat))] (.tup [.v (.string (mkS (rnR s a port at' off).1)),.v (.int .i64 (rnR s a port at' off).2)]):=by
 have he:=pD s hs
 obtain ⟨⟨n0,n1⟩,hLs,-,hp',hck,hed,hNe⟩:=Uw h1
 have hck6:6≤ckI (bN s 9:Nat)∧ckI (bN s 9:Nat)≤16:=by unfold ckI;split<;>omega
 have hre:rnR s a port at' off=((sw4 s (hN s) (bN s 9:Nat) a port at' off).take (pL s),0):=by
  unfold rnR
  rw [if_neg (not_not_intro h1),if_neg (not_not_intro h3),UC s (hN s) _ a port at' off hp' n0 (by omega) hab h3 hao]
 rw [hre]
 have hes:edR s=(⟨uT s 12,uT s 16,(bN s 9:Nat),z8 s (hN s),z8 s (hN s+2)⟩,0):=by rw [←hed,←h1]
 rw [hes] at he
 clear hes hed h1 hre
 have b2:=zD s 2
 have h2:=fun n=>yj 1 (mn s 2 s.length false n (by omega) (Nat.le_refl _) hs)
 rw [show z8 s 2=((pL s:Nat):Int) by unfold pL;omega] at h2
 have b0:=w_ s 0
 have y0:=sx s 0 (by omega)
 have c0:IntKind.i64.wrap (bN s 0 % 16:Nat)=((bN s 0 % 16:Nat):Int):=IntWalk.i64_in _ (by omega)
 have c15:bits .and .u8 (bN s 0:Nat) 15=((bN s 0 % 16:Nat):Int):=by rw [u8_and15 _ (by omega) (by omega)];omega
 have cs:IntKind.i64.wrap (((bN s 0 % 16:Nat):Int)*4)=((hN s:Nat):Int):=by rw [hNe,IntWalk.i64_in _ (by omega)];omega
 have d16:IntKind.i64.wrap (((hN s:Nat):Int)+16)=((hN s+16:Nat):Int):=by rw [IntWalk.i64_in _ (by omega)];omega
 have d6:IntKind.i64.wrap (((hN s:Nat):Int)+6)=((hN s+6:Nat):Int):=by rw [IntWalk.i64_in _ (by omega)];omega
 have m16:min 16 IntKind.u32.bits=16:=rfl
 have f16:a.fdiv (2 ^ 16)=a / 65536:=Int.fdiv_eq_ediv_of_nonneg _ (by decide)
 have k1:IntKind.u16.wrap (a / 65536)=a / 65536:=tv _ (by omega) (by omega)
 have k2:IntKind.u16.wrap a=a % 65536:=by rw [n_]
 have k3:IntKind.u16.wrap port=port:=tv _ (by omega) (by omega)
 have k4:IntKind.i64.wrap ((at':Int)+2)=((at'+2:Nat):Int):=by rw [IntWalk.i64_in _ (by omega)];omega
 have k5:IntKind.i64.wrap (((hN s:Nat):Int)+(off:Int))=((hN s+off:Nat):Int):=by rw [IntWalk.i64_in _ (by omega)];omega
 generalize ((bN s 9:Nat):Int)=p at *
 rcases hp' with rfl|rfl
 ·have hk:ckI 6=16:=rfl
  rw [hk] at hck hck6
  have hn:swN s (hN s) 6=false:=by unfold swN;simp
  have hC:swC s (hN s) 6=[hN s+16]:=by unfold swC;rw [hn];rfl
  have e4:sw4 s (hN s) 6 a port at' off=sw3 s (hN s) 6 a port at' off:=by unfold sw4;rw [if_neg (by omega)]
  rw [e4]
  unfold sw3
  rw [hC]
  have g1:=fun n cl=>yj 1 (p5 s at' (pL s) false n (a / 65536) [10,hN s+16] cl (by omega) hLs (by omega) (by omega) (by intro c hc;simp at hc<;>omega) (show 2≤1000 by decide))
  have l1:=vL s at' (a / 65536) [10,hN s+16]
  generalize chg s at' (a / 65536) [10,hN s+16]=t1 at *
  have g2:=fun n cl=>yj 1 (p5 t1 (at'+2) (pL s) false n (a % 65536) [10,hN s+16] cl (by omega) (by omega) (by omega) (by omega) (by intro c hc;simp at hc<;>omega) (show 2≤1000 by decide))
  have l2:=vL t1 (at'+2) (a % 65536) [10,hN s+16]
  generalize chg t1 (at'+2) (a % 65536) [10,hN s+16]=t2 at *
  have g3:=fun n cl=>yj 1 (p5 t2 (hN s+off) (pL s) false n port [hN s+16] cl (by omega) (by omega) (by omega) (by omega) (by intro c hc;simp at hc<;>omega) (show 1≤1000 by decide))
  have l3:=vL t2 (hN s+off) port [hN s+16]
  generalize chg t2 (hN s+off) port [hN s+16]=t3 at *
  dsimp only [List.map,Zm] at g1 g2 g3
  simp only [ten] at g1 g2
  have lw:=vh s
  have lw3:=vh t3
  have ob:=qO t3 (pL s)
  refine z7 {own:=true} 0 Tryz.func147 fun Γ hW=>auC ?_
  repeat' first|(refine zP (zr hW ⟨.d0,.d2,.d1⟩ rfl rfl ⟨rfl,rfl,Nat.le_refl 2⟩) ?_)|refine auS ?_|(first|(simp only [za,wm,Int.sub_zero,Int.toNat_natCast,Nat.zero_add])|(simp only [y0])|(simp only [c0,c15,cs,d16,d6])|(simp only [k1,k2,k3,k4,k5])|(simp only [m16,f16])|(simp only [vZ])|(with_reducible refine z6 he ?_)|((with_reducible refine z_ 1 ?_ (h2 _) (fun _ _ _ h=>h) ?_);(exact rfl))|((with_reducible refine z_ 1 ?_ (hw _) (fun _ _ _ h=>h) ?_);(exact rfl))|((with_reducible refine z_ 1 ?_ (g1 _ _) (fun _ _ _ h=>h) ?_);(exact rfl))|((with_reducible refine z_ 1 ?_ (g2 _ _) (fun _ _ _ h=>h) ?_);(exact rfl))|((with_reducible refine z_ 1 ?_ (g3 _ _) (fun _ _ _ h=>h) ?_);(exact rfl))|((with_reducible refine z_ 1 ?_ (hz _) (fun _ _ _ h=>h) ?_);(exact rfl))|((with_reducible refine z_ 1 ?_ (hp _) (fun _ _ _ h=>h) ?_);(exact rfl)))|refine auD ?_|(refine auW ?_ ?_<;>intro h<;>try exact auH)|(first|(refine zf (by omega) ?_)|fail)
  all_goals try exact auP
  all_goals refine auV ?_
  all_goals try exact zc
  all_goals try simp only [hsM] at *
  all_goals rfl
 ·have hk:ckI 17=6:=rfl
  rw [hk] at hck hck6
  have hw:=fun n=>yj 1 (mn s (hN s+6) (pL s) false n (by omega) hLs (by omega))
  have bw:=zD s (hN s+6)
  by_cases hw0:z8 s (hN s+6)=0
  ·have hn:swN s (hN s) 17=true:=by unfold swN;rw [hk];simp [hw0]
   have hC:swC s (hN s) 17=[]:=by unfold swC;rw [hn];rfl
   have e4:sw4 s (hN s) 17 a port at' off=sw3 s (hN s) 17 a port at' off:=by unfold sw4;rw [if_neg (by rw [hn];simp)]
   rw [e4]
   unfold sw3
   rw [hC]
   rw [hw0] at hw
   clear hw0 bw e4 hC hn
   have g1:=fun n cl=>yj 1 (p5 s at' (pL s) false n (a / 65536) [10] cl (by omega) hLs (by omega) (by omega) (by intro c hc;simp at hc<;>omega) (show 1≤1000 by decide))
   have l1:=vL s at' (a / 65536) [10]
   generalize chg s at' (a / 65536) [10]=t1 at *
   have g2:=fun n cl=>yj 1 (p5 t1 (at'+2) (pL s) false n (a % 65536) [10] cl (by omega) (by omega) (by omega) (by omega) (by intro c hc;simp at hc<;>omega) (show 1≤1000 by decide))
   have l2:=vL t1 (at'+2) (a % 65536) [10]
   generalize chg t1 (at'+2) (a % 65536) [10]=t2 at *
   have g3:=fun n cl=>yj 1 (p5 t2 (hN s+off) (pL s) false n port [] cl (by omega) (by omega) (by omega) (by omega) (by intro c hc;simp at hc<;>omega) (show 0≤1000 by decide))
   have l3:=vL t2 (hN s+off) port []
   generalize chg t2 (hN s+off) port []=t3 at *
   dsimp only [List.map,Zm] at g1 g2 g3
   simp only [ten] at g1 g2
   have lw:=vh s
   have lw3:=vh t3
   have ob:=qO t3 (pL s)
   refine z7 {own:=true} 0 Tryz.func147 fun Γ hW=>auC ?_
   repeat' first|(refine zP (zr hW ⟨.d0,.d2,.d1⟩ rfl rfl ⟨rfl,rfl,Nat.le_refl 2⟩) ?_)|refine auS ?_|(first|(simp only [za,wm,Int.sub_zero,Int.toNat_natCast,Nat.zero_add])|(simp only [y0])|(simp only [c0,c15,cs,d16,d6])|(simp only [k1,k2,k3,k4,k5])|(simp only [m16,f16])|(simp only [vZ])|(with_reducible refine z6 he ?_)|((with_reducible refine z_ 1 ?_ (h2 _) (fun _ _ _ h=>h) ?_);(exact rfl))|((with_reducible refine z_ 1 ?_ (hw _) (fun _ _ _ h=>h) ?_);(exact rfl))|((with_reducible refine z_ 1 ?_ (g1 _ _) (fun _ _ _ h=>h) ?_);(exact rfl))|((with_reducible refine z_ 1 ?_ (g2 _ _) (fun _ _ _ h=>h) ?_);(exact rfl))|((with_reducible refine z_ 1 ?_ (g3 _ _) (fun _ _ _ h=>h) ?_);(exact rfl))|((with_reducible refine z_ 1 ?_ (hz _) (fun _ _ _ h=>h) ?_);(exact rfl))|((with_reducible refine z_ 1 ?_ (hp _) (fun _ _ _ h=>h) ?_);(exact rfl)))|refine auD ?_|(refine auW ?_ ?_<;>intro h<;>try exact auH)|(first|(refine zf (by omega) ?_)|fail)
   all_goals try exact auP
   all_goals refine auV ?_
   all_goals try exact zc
   all_goals try simp only [hsM] at *
   all_goals rfl
  ·have hn:swN s (hN s) 17=false:=by unfold swN;rw [hk];simp [hw0]
   have hC:swC s (hN s) 17=[hN s+6]:=by unfold swC;rw [hn];rfl
   have e4:sw4 s (hN s) 17 a port at' off=if z8 (sw3 s (hN s) 17 a port at' off) (hN s+6)=0 then vM (sw3 s (hN s) 17 a port at' off) (hN s+6) 65535 else sw3 s (hN s) 17 a port at' off:=by unfold sw4;rw [hn,hk];simp
   rw [e4]
   unfold sw3
   rw [hC]
   generalize z8 s (hN s+6)=w at *
   clear e4 hC hn
   have g1:=fun n cl=>yj 1 (p5 s at' (pL s) false n (a / 65536) [10,hN s+6] cl (by omega) hLs (by omega) (by omega) (by intro c hc;simp at hc<;>omega) (show 2≤1000 by decide))
   have l1:=vL s at' (a / 65536) [10,hN s+6]
   generalize chg s at' (a / 65536) [10,hN s+6]=t1 at *
   have g2:=fun n cl=>yj 1 (p5 t1 (at'+2) (pL s) false n (a % 65536) [10,hN s+6] cl (by omega) (by omega) (by omega) (by omega) (by intro c hc;simp at hc<;>omega) (show 2≤1000 by decide))
   have l2:=vL t1 (at'+2) (a % 65536) [10,hN s+6]
   generalize chg t1 (at'+2) (a % 65536) [10,hN s+6]=t2 at *
   have g3:=fun n cl=>yj 1 (p5 t2 (hN s+off) (pL s) false n port [hN s+6] cl (by omega) (by omega) (by omega) (by omega) (by intro c hc;simp at hc<;>omega) (show 1≤1000 by decide))
   have l3:=vL t2 (hN s+off) port [hN s+6]
   generalize chg t2 (hN s+off) port [hN s+6]=t3 at *
   dsimp only [List.map,Zm] at g1 g2 g3
   simp only [ten] at g1 g2
   have lw:=vh s
   have lw3:=vh t3
   have ob:=qO t3 (pL s)
   have hz:=fun n=>yj 1 (mn t3 (hN s+6) (pL s) false n (by omega) (by omega) (by omega))
   have hp:=fun n=>yj 1 (aV t3 (hN s+6) (pL s) false n 65535 (by omega) (by omega) (by omega))
   have lw4:=(vh (vM t3 (hN s+6) 65535)).trans (yu _ _ _)
   have ob4:=qO (vM t3 (hN s+6) 65535) (pL s)
   generalize z8 t3 (hN s+6)=z at *
   by_cases hz0:z=0
   ·subst hz0
    rw [if_pos rfl]
    refine z7 {own:=true} 0 Tryz.func147 fun Γ hW=>auC ?_
    repeat' first|(refine zP (zr hW ⟨.d0,.d2,.d1⟩ rfl rfl ⟨rfl,rfl,Nat.le_refl 2⟩) ?_)|refine auS ?_|(first|(simp only [za,wm,Int.sub_zero,Int.toNat_natCast,Nat.zero_add])|(simp only [y0])|(simp only [c0,c15,cs,d16,d6])|(simp only [k1,k2,k3,k4,k5])|(simp only [m16,f16])|(simp only [vZ])|(with_reducible refine z6 he ?_)|((with_reducible refine z_ 1 ?_ (h2 _) (fun _ _ _ h=>h) ?_);(exact rfl))|((with_reducible refine z_ 1 ?_ (hw _) (fun _ _ _ h=>h) ?_);(exact rfl))|((with_reducible refine z_ 1 ?_ (g1 _ _) (fun _ _ _ h=>h) ?_);(exact rfl))|((with_reducible refine z_ 1 ?_ (g2 _ _) (fun _ _ _ h=>h) ?_);(exact rfl))|((with_reducible refine z_ 1 ?_ (g3 _ _) (fun _ _ _ h=>h) ?_);(exact rfl))|((with_reducible refine z_ 1 ?_ (hz _) (fun _ _ _ h=>h) ?_);(exact rfl))|((with_reducible refine z_ 1 ?_ (hp _) (fun _ _ _ h=>h) ?_);(exact rfl)))|refine auD ?_|(refine auW ?_ ?_<;>intro h<;>try exact auH)|(first|(refine zf (by omega) ?_)|fail)
    all_goals try exact auP
    all_goals refine auV ?_
    all_goals try exact zc
    all_goals try simp only [hsM] at *
    all_goals rfl
   ·rw [if_neg hz0]
    refine z7 {own:=true} 0 Tryz.func147 fun Γ hW=>auC ?_
    repeat' first|(refine zP (zr hW ⟨.d0,.d2,.d1⟩ rfl rfl ⟨rfl,rfl,Nat.le_refl 2⟩) ?_)|refine auS ?_|(first|(simp only [za,wm,Int.sub_zero,Int.toNat_natCast,Nat.zero_add])|(simp only [y0])|(simp only [c0,c15,cs,d16,d6])|(simp only [k1,k2,k3,k4,k5])|(simp only [m16,f16])|(simp only [vZ])|(with_reducible refine z6 he ?_)|((with_reducible refine z_ 1 ?_ (h2 _) (fun _ _ _ h=>h) ?_);(exact rfl))|((with_reducible refine z_ 1 ?_ (hw _) (fun _ _ _ h=>h) ?_);(exact rfl))|((with_reducible refine z_ 1 ?_ (g1 _ _) (fun _ _ _ h=>h) ?_);(exact rfl))|((with_reducible refine z_ 1 ?_ (g2 _ _) (fun _ _ _ h=>h) ?_);(exact rfl))|((with_reducible refine z_ 1 ?_ (g3 _ _) (fun _ _ _ h=>h) ?_);(exact rfl))|((with_reducible refine z_ 1 ?_ (hz _) (fun _ _ _ h=>h) ?_);(exact rfl))|((with_reducible refine z_ 1 ?_ (hp _) (fun _ _ _ h=>h) ?_);(exact rfl)))|refine auD ?_|(refine auW ?_ ?_<;>intro h<;>try exact auH)|(first|(refine zf (by omega) ?_)|fail)
    all_goals try exact auP
    all_goals refine auV ?_
    all_goals try exact zc
    all_goals try simp only [hsM] at *
    all_goals rfl
end Go.Proofs.YtaiileiodjicpaaGreatDoor
