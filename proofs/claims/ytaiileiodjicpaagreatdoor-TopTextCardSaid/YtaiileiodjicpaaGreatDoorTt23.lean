import Derived.Test.YtaiileiodjicpaaGreatDoorTt22
set_option linter.unusedVariables false
set_option linter.unusedSimpArgs false
namespace Go.Proofs.YtaiileiodjicpaaGreatDoor
end Go.Proofs.YtaiileiodjicpaaGreatDoor
namespace Go.Proofs.YtaiileiodjicpaaGreatDoor
end Go.Proofs.YtaiileiodjicpaaGreatDoor
namespace Go.Proofs.YtaiileiodjicpaaGreatDoor
attribute [local irreducible] zF Go
set_option maxRecDepth 100000
theorem rfC (p:Pk) (ho:p.opt.length≤140737488351232) (hd:p.data.length≤140737488351232) (hfr:0≤p.fr∧p.fr<4294967296) (hto:0≤p.to∧p.to<4294967296):zi Tryz.prog 64 [dP p] (.v (.int .i64 (nM p))):=pd p ho hd
def hN (s:List UInt8):Nat:=4*(bN s 0 % 16)
def rdP (s:List UInt8):Pk:=⟨(bN s 1:Nat),z8 s 4,decide (z8 s 6 / 16384=1),decide (z8 s 6 / 8192 % 2=1),z8 s 6 % 8192,(bN s 8:Nat),(bN s 9:Nat),uT s 12,uT s 16,(s.drop 20).take (hN s-20),(s.drop (hN s)).take ((z8 s 2).toNat-hN s)⟩
def pk0:Pk:=⟨0,0,false,false,0,0,0,0,0,[],[]⟩
def yH (s:List UInt8):Int:=
 if s.length<20∨s.length<hN s∨(s.length:Int)<z8 s 2 then 3
 else if ¬(69≤bN s 0∧bN s 0≤79)∨z8 s 2<(hN s:Nat)∨32768≤z8 s 6 then 4
 else if ¬nM (rdP s)=0 then 4
 else if ¬yw (x8 (s.take (hN s)))=65535 then 5 else 0
def rpR (s:List UInt8):Pk×Int:=if yH s=0 then (rdP s,0) else (pk0,yH s)
theorem uN {s:List UInt8} {e:Int} (h:yH s=e) (h0:e≠0):rpR s=(pk0,e):=by unfold rpR;rw [h,if_neg h0]
abbrev dPE (r:Pk×Int):DV:=.tup [dP r.1,.v (.int .i64 r.2)]
set_option maxHeartbeats 4000000 in
theorem sC (s:List UInt8) (hl:s.length≤140737488351232):zi Tryz.prog 99 [.v (.string (mkS s))] (dPE (rpR s)):=by
 by_cases h20:s.length<20
 ·have hr:yH s=3:=by unfold yH;rw [if_pos (.inl h20)]
  rw [uN hr (by decide)]
  refine z7 {} 0 Tryz.func99 fun Γ hW=>auC ?_
  repeat' first|refine auS ?_|(first|(simp only [za,zW,Int.toNat_natCast])|(simp only [c0,c15,c4,cm,cw,cs])|(simp only [c1,c8,c9])|(simp only [m4,m15])|(simp only [m14,m13])|(simp only [f15])|(simp only [f14,f13])|(simp only [g14,g13,g2,gm])|(simp only [jP,vJ])|(simp only [g1])|(simp only [x1,x2,x3])|(with_reducible refine z6 h2 ?_)|(with_reducible refine z6 h4 ?_)|(with_reducible refine z6 h6 ?_)|(with_reducible refine z6 h12 ?_)|(with_reducible refine z6 h16 ?_)|(with_reducible refine z6 hr ?_)|(with_reducible refine z6 hs ?_))|refine auD ?_|(refine auW ?_ ?_<;>intro h<;>try exact auH)|(first|(refine zf (by simp only [za,List.length_take,List.length_drop];omega) ?_)|(refine zf (by omega) ?_)|fail)
  all_goals try exact auP
  all_goals refine auV ?_
  all_goals try exact zc
  all_goals try simp only [hsM] at *
  all_goals rfl
 have h2:=yE s 2 (by omega) (by omega) 2 rfl
 have b2:=zD s 2
 have b0:=w_ s 0
 have c0:IntKind.i64.wrap (bN s 0:Nat)=(bN s 0:Nat):=IntWalk.i64_in _ (by omega)
 have c15:bits .and .u8 (bN s 0:Nat) 15=((bN s 0 % 16:Nat):Int):=by rw [u8_and15 _ (by omega) (by omega)];omega
 have cm:IntKind.i64.wrap (bN s 0 % 16:Nat)=((bN s 0 % 16:Nat):Int):=IntWalk.i64_in _ (by omega)
 have cw:IntKind.i64.wrap (((bN s 0 % 16:Nat):Int)*4)=((hN s:Nat):Int):=by unfold hN;rw [IntWalk.i64_in _ (by omega)];omega
 have c4:((bN s 0:Nat):Int).tmod 16=((bN s 0 % 16:Nat):Int):=(Int.ofNat_tmod _ 16).symm
 have cs:IntKind.i64.wrap (4*((bN s 0 % 16:Nat):Int))=((hN s:Nat):Int):=by unfold hN;rw [IntWalk.i64_in _ (by omega)];omega
 by_cases hn:s.length<hN s
 ·have hr:yH s=3:=by unfold yH;rw [if_pos (.inr (.inl hn))]
  rw [uN hr (by decide)]
  clear hr
  generalize hN s=n at *
  generalize z8 s 2=al at *
  refine z7 {} 0 Tryz.func99 fun Γ hW=>auC ?_
  repeat' first|refine auS ?_|(first|(simp only [za,zW,Int.toNat_natCast])|(simp only [c0,c15,c4,cm,cw,cs])|(simp only [c1,c8,c9])|(simp only [m4,m15])|(simp only [m14,m13])|(simp only [f15])|(simp only [f14,f13])|(simp only [g14,g13,g2,gm])|(simp only [jP,vJ])|(simp only [g1])|(simp only [x1,x2,x3])|(with_reducible refine z6 h2 ?_)|(with_reducible refine z6 h4 ?_)|(with_reducible refine z6 h6 ?_)|(with_reducible refine z6 h12 ?_)|(with_reducible refine z6 h16 ?_)|(with_reducible refine z6 hr ?_)|(with_reducible refine z6 hs ?_))|refine auD ?_|(refine auW ?_ ?_<;>intro h<;>try exact auH)|(first|(refine zf (by simp only [za,List.length_take,List.length_drop];omega) ?_)|(refine zf (by omega) ?_)|fail)
  all_goals try exact auP
  all_goals refine auV ?_
  all_goals try exact zc
  all_goals try simp only [hsM] at *
  all_goals rfl
 by_cases ha:(s.length:Int)<z8 s 2
 ·have hr:yH s=3:=by unfold yH;rw [if_pos (.inr (.inr ha))]
  rw [uN hr (by decide)]
  clear hr
  generalize hN s=n at *
  generalize z8 s 2=al at *
  refine z7 {} 0 Tryz.func99 fun Γ hW=>auC ?_
  repeat' first|refine auS ?_|(first|(simp only [za,zW,Int.toNat_natCast])|(simp only [c0,c15,c4,cm,cw,cs])|(simp only [c1,c8,c9])|(simp only [m4,m15])|(simp only [m14,m13])|(simp only [f15])|(simp only [f14,f13])|(simp only [g14,g13,g2,gm])|(simp only [jP,vJ])|(simp only [g1])|(simp only [x1,x2,x3])|(with_reducible refine z6 h2 ?_)|(with_reducible refine z6 h4 ?_)|(with_reducible refine z6 h6 ?_)|(with_reducible refine z6 h12 ?_)|(with_reducible refine z6 h16 ?_)|(with_reducible refine z6 hr ?_)|(with_reducible refine z6 hs ?_))|refine auD ?_|(refine auW ?_ ?_<;>intro h<;>try exact auH)|(first|(refine zf (by simp only [za,List.length_take,List.length_drop];omega) ?_)|(refine zf (by omega) ?_)|fail)
  all_goals try exact auP
  all_goals refine auV ?_
  all_goals try exact zc
  all_goals try simp only [hsM] at *
  all_goals rfl
 have h6:=yE s 6 (by omega) (by omega) 6 rfl
 have b6:=zD s 6
 have m4:min 4 IntKind.u8.bits=4:=rfl
 have m15:min 15 IntKind.i64.bits=15:=rfl
 have f15:(z8 s 6).fdiv (2 ^ 15)=z8 s 6 / 32768:=Int.fdiv_eq_ediv_of_nonneg _ (by decide)
 have g1:((bN s 0:Nat):Int).fdiv (2 ^ 4)=((bN s 0 / 16:Nat):Int):=by rw [Int.fdiv_eq_ediv_of_nonneg _ (by decide)];omega
 have hnB:hN s=4*(bN s 0 % 16):=rfl
 by_cases hB:69≤bN s 0∧bN s 0≤79
 rotate_left 1
 ·have hr:yH s=4:=by unfold yH;rw [if_neg (by omega),if_pos (.inl hB)]
  rw [uN hr (by decide)]
  clear hr
  generalize hN s=n at *
  generalize z8 s 2=al at *
  generalize z8 s 6=F at *
  refine z7 {} 0 Tryz.func99 fun Γ hW=>auC ?_
  repeat' first|refine auS ?_|(first|(simp only [za,zW,Int.toNat_natCast])|(simp only [c0,c15,c4,cm,cw,cs])|(simp only [c1,c8,c9])|(simp only [m4,m15])|(simp only [m14,m13])|(simp only [f15])|(simp only [f14,f13])|(simp only [g14,g13,g2,gm])|(simp only [jP,vJ])|(simp only [g1])|(simp only [x1,x2,x3])|(with_reducible refine z6 h2 ?_)|(with_reducible refine z6 h4 ?_)|(with_reducible refine z6 h6 ?_)|(with_reducible refine z6 h12 ?_)|(with_reducible refine z6 h16 ?_)|(with_reducible refine z6 hr ?_)|(with_reducible refine z6 hs ?_))|refine auD ?_|(refine auW ?_ ?_<;>intro h<;>try exact auH)|(first|(refine zf (by simp only [za,List.length_take,List.length_drop];omega) ?_)|(refine zf (by omega) ?_)|fail)
  all_goals try exact auP
  all_goals refine auV ?_
  all_goals try exact zc
  all_goals try simp only [hsM] at *
  all_goals rfl
 by_cases hA:z8 s 2<(hN s:Nat)
 ·have hr:yH s=4:=by unfold yH;rw [if_neg (by omega),if_pos (.inr (.inl hA))]
  rw [uN hr (by decide)]
  clear hr
  generalize hN s=n at *
  generalize z8 s 2=al at *
  generalize z8 s 6=F at *
  refine z7 {} 0 Tryz.func99 fun Γ hW=>auC ?_
  repeat' first|refine auS ?_|(first|(simp only [za,zW,Int.toNat_natCast])|(simp only [c0,c15,c4,cm,cw,cs])|(simp only [c1,c8,c9])|(simp only [m4,m15])|(simp only [m14,m13])|(simp only [f15])|(simp only [f14,f13])|(simp only [g14,g13,g2,gm])|(simp only [jP,vJ])|(simp only [g1])|(simp only [x1,x2,x3])|(with_reducible refine z6 h2 ?_)|(with_reducible refine z6 h4 ?_)|(with_reducible refine z6 h6 ?_)|(with_reducible refine z6 h12 ?_)|(with_reducible refine z6 h16 ?_)|(with_reducible refine z6 hr ?_)|(with_reducible refine z6 hs ?_))|refine auD ?_|(refine auW ?_ ?_<;>intro h<;>try exact auH)|(first|(refine zf (by simp only [za,List.length_take,List.length_drop];omega) ?_)|(refine zf (by omega) ?_)|fail)
  all_goals try exact auP
  all_goals refine auV ?_
  all_goals try exact zc
  all_goals try simp only [hsM] at *
  all_goals rfl
 by_cases hF:32768≤z8 s 6
 ·have hr:yH s=4:=by unfold yH;rw [if_neg (by omega),if_pos (.inr (.inr hF))]
  rw [uN hr (by decide)]
  clear hr
  generalize hN s=n at *
  generalize z8 s 2=al at *
  generalize z8 s 6=F at *
  refine z7 {} 0 Tryz.func99 fun Γ hW=>auC ?_
  repeat' first|refine auS ?_|(first|(simp only [za,zW,Int.toNat_natCast])|(simp only [c0,c15,c4,cm,cw,cs])|(simp only [c1,c8,c9])|(simp only [m4,m15])|(simp only [m14,m13])|(simp only [f15])|(simp only [f14,f13])|(simp only [g14,g13,g2,gm])|(simp only [jP,vJ])|(simp only [g1])|(simp only [x1,x2,x3])|(with_reducible refine z6 h2 ?_)|(with_reducible refine z6 h4 ?_)|(with_reducible refine z6 h6 ?_)|(with_reducible refine z6 h12 ?_)|(with_reducible refine z6 h16 ?_)|(with_reducible refine z6 hr ?_)|(with_reducible refine z6 hs ?_))|refine auD ?_|(refine auW ?_ ?_<;>intro h<;>try exact auH)|(first|(refine zf (by simp only [za,List.length_take,List.length_drop];omega) ?_)|(refine zf (by omega) ?_)|fail)
  all_goals try exact auP
  all_goals refine auV ?_
  all_goals try exact zc
  all_goals try simp only [hsM] at *
  all_goals rfl
 have h4:=yE s 4 (by omega) (by omega) 4 rfl
 have h12:=rJ s 12 (by omega) (by omega) 12 rfl
 have h16:=rJ s 16 (by omega) (by omega) 16 rfl
 have hr:=rfC (rdP s) (by simp only [rdP,List.length_take,List.length_drop];omega) (by simp only [rdP,List.length_take,List.length_drop];omega) (uG s 12) (uG s 16)
 have hs:=ua (s.take (hN s)) (by rw [List.length_take];omega)
 have d1:=w_ s 1
 have d8:=w_ s 8
 have d9:=w_ s 9
 have c1:IntKind.i64.wrap (bN s 1:Nat)=(bN s 1:Nat):=IntWalk.i64_in _ (by omega)
 have c8:IntKind.i64.wrap (bN s 8:Nat)=(bN s 8:Nat):=IntWalk.i64_in _ (by omega)
 have c9:IntKind.i64.wrap (bN s 9:Nat)=(bN s 9:Nat):=IntWalk.i64_in _ (by omega)
 have m14:min 14 IntKind.i64.bits=14:=rfl
 have m13:min 13 IntKind.i64.bits=13:=rfl
 have f14:(z8 s 6).fdiv (2 ^ 14)=z8 s 6 / 16384:=Int.fdiv_eq_ediv_of_nonneg _ (by decide)
 have f13:(z8 s 6).fdiv (2 ^ 13)=z8 s 6 / 8192:=Int.fdiv_eq_ediv_of_nonneg _ (by decide)
 have g2:z8 s 6 / 16384 % 2=z8 s 6 / 16384:=by omega
 have g14:IntKind.i64.wrap ((z8 s 6).tdiv 16384)=z8 s 6 / 16384:=by rw [Int.tdiv_eq_ediv_of_nonneg (by omega),IntWalk.i64_in _ (by omega)]
 have g13:(IntKind.i64.wrap ((z8 s 6).tdiv 8192)).tmod 2=z8 s 6 / 8192 % 2:=by rw [Int.tdiv_eq_ediv_of_nonneg (by omega),IntWalk.i64_in _ (by omega),Int.tmod_eq_emod_of_nonneg (by omega)]
 have gm:(z8 s 6).tmod 8192=z8 s 6 % 8192:=Int.tmod_eq_emod_of_nonneg (by omega)
 have x1:(mkS s).extract 20 (hN s)=mkS ((s.drop 20).take (hN s-20)):=yW _ _ _
 have x2:(mkS s).extract (hN s) (z8 s 2).toNat=mkS ((s.drop (hN s)).take ((z8 s 2).toNat-hN s)):=yW _ _ _
 have x3:(mkS s).extract 0 (hN s)=mkS (s.take (hN s)):=by rw [yW];rfl
 by_cases hE:nM (rdP s)=0
 rotate_left 1
 ·have hre:yH s=4:=by unfold yH;rw [if_neg (by omega),if_neg (by omega),if_pos hE]
  rw [uN hre (by decide)]
  clear hre
  generalize nM (rdP s)=E at *
  try generalize (pW (rdP s)).1=T at *
  unfold rdP at hr
  generalize hN s=n at *
  generalize z8 s 2=al at *
  generalize z8 s 6=F at *
  refine z7 {} 0 Tryz.func99 fun Γ hW=>auC ?_
  repeat' first|refine auS ?_|(first|(simp only [za,zW,Int.toNat_natCast])|(simp only [c0,c15,c4,cm,cw,cs])|(simp only [c1,c8,c9])|(simp only [m4,m15])|(simp only [m14,m13])|(simp only [f15])|(simp only [f14,f13])|(simp only [g14,g13,g2,gm])|(simp only [jP,vJ])|(simp only [g1])|(simp only [x1,x2,x3])|(with_reducible refine z6 h2 ?_)|(with_reducible refine z6 h4 ?_)|(with_reducible refine z6 h6 ?_)|(with_reducible refine z6 h12 ?_)|(with_reducible refine z6 h16 ?_)|(with_reducible refine z6 hr ?_)|(with_reducible refine z6 hs ?_))|refine auD ?_|(refine auW ?_ ?_<;>intro h<;>try exact auH)|(first|(refine zf (by simp only [za,List.length_take,List.length_drop];omega) ?_)|(refine zf (by omega) ?_)|fail)
  all_goals try exact auP
  all_goals refine auV ?_
  all_goals try exact zc
  all_goals try simp only [hsM] at *
  all_goals rfl
 by_cases hS:yw (x8 (s.take (hN s)))=65535
 rotate_left 1
 ·have hre:yH s=5:=by unfold yH;rw [if_neg (by omega),if_neg (by omega),if_neg (not_not_intro hE),if_pos hS]
  rw [uN hre (by decide)]
  clear hre
  rw [hE] at hr
  clear hE
  try generalize (pW (rdP s)).1=T at *
  unfold rdP at hr
  generalize yw (x8 (s.take (hN s)))=c at *
  generalize hN s=n at *
  generalize z8 s 2=al at *
  generalize z8 s 6=F at *
  refine z7 {} 0 Tryz.func99 fun Γ hW=>auC ?_
  repeat' first|refine auS ?_|(first|(simp only [za,zW,Int.toNat_natCast])|(simp only [c0,c15,c4,cm,cw,cs])|(simp only [c1,c8,c9])|(simp only [m4,m15])|(simp only [m14,m13])|(simp only [f15])|(simp only [f14,f13])|(simp only [g14,g13,g2,gm])|(simp only [jP,vJ])|(simp only [g1])|(simp only [x1,x2,x3])|(with_reducible refine z6 h2 ?_)|(with_reducible refine z6 h4 ?_)|(with_reducible refine z6 h6 ?_)|(with_reducible refine z6 h12 ?_)|(with_reducible refine z6 h16 ?_)|(with_reducible refine z6 hr ?_)|(with_reducible refine z6 hs ?_))|refine auD ?_|(refine auW ?_ ?_<;>intro h<;>try exact auH)|(first|(refine zf (by simp only [za,List.length_take,List.length_drop];omega) ?_)|(refine zf (by omega) ?_)|fail)
  all_goals try exact auP
  all_goals refine auV ?_
  all_goals try exact zc
  all_goals try simp only [hsM] at *
  all_goals rfl
 ·have hre0:yH s=0:=by unfold yH;rw [if_neg (by omega),if_neg (by omega),if_neg (not_not_intro hE),if_neg (not_not_intro hS)]
  have hre:rpR s=(rdP s,0):=by unfold rpR;rw [hre0,if_pos rfl]
  clear hre0
  rw [hre]
  clear hre
  rw [hE] at hr
  rw [hS] at hs
  clear hE hS
  try generalize (pW (rdP s)).1=T at *
  unfold rdP at hr ⊢
  generalize hN s=n at *
  generalize z8 s 2=al at *
  generalize z8 s 6=F at *
  refine z7 {} 0 Tryz.func99 fun Γ hW=>auC ?_
  repeat' first|refine auS ?_|(first|(simp only [za,zW,Int.toNat_natCast])|(simp only [c0,c15,c4,cm,cw,cs])|(simp only [c1,c8,c9])|(simp only [m4,m15])|(simp only [m14,m13])|(simp only [f15])|(simp only [f14,f13])|(simp only [g14,g13,g2,gm])|(simp only [jP,vJ])|(simp only [g1])|(simp only [x1,x2,x3])|(with_reducible refine z6 h2 ?_)|(with_reducible refine z6 h4 ?_)|(with_reducible refine z6 h6 ?_)|(with_reducible refine z6 h12 ?_)|(with_reducible refine z6 h16 ?_)|(with_reducible refine z6 hr ?_)|(with_reducible refine z6 hs ?_))|refine auD ?_|(refine auW ?_ ?_<;>intro h<;>try exact auH)|(first|(refine zf (by simp only [za,List.length_take,List.length_drop];omega) ?_)|(refine zf (by omega) ?_)|fail)
  all_goals try exact auP
  all_goals refine auV ?_
  all_goals try exact zc
  all_goals try simp only [hsM] at *
  all_goals rfl
end Go.Proofs.YtaiileiodjicpaaGreatDoor
