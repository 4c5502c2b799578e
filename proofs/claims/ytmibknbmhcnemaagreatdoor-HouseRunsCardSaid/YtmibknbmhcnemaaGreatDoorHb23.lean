import Derived.Test.YtmibknbmhcnemaaGreatDoorHb22
set_option linter.unusedVariables false
set_option linter.unusedSimpArgs false
namespace Go.Proofs.YtmibknbmhcnemaaGreatDoor
attribute [local irreducible] zF Go
set_option maxRecDepth 100000
theorem ap (p:Pk) (F:Int):ya (hdA p F++([u8 0,u8 0]++hdB p))=ya (hdA p F++hdB p):=by
 have h1:(hdA p F).length % 2=0:=by simp [hdA,zE]
 rw [xR _ _ h1,xR _ _ h1]
 have h2:ya ([u8 0,u8 0]++hdB p)=ya (hdB p):=by
  rw [xR _ _ rfl]
  have:ya [u8 0,u8 0]=0:=by decide
  omega
 rw [h2]
set_option maxHeartbeats 8000000 in
theorem kr (p:Pk) (he:uu p=0) (ho:p.opt.length≤140737488351232) (hd:p.data.length≤140737488351232) (hfr:0≤p.fr∧p.fr<4294967296) (hto:0≤p.to∧p.to<4294967296):zd Tryz.prog 167 [dP p] (dSI (pW p)):=by
 have e1:IntKind.i64.wrap (20+(p.opt.length:Nat))=20+(p.opt.length:Int):=IntWalk.i64_in _ (by omega)
 have e3:IntKind.i64.wrap (20+(p.opt.length:Int)+(p.data.length:Nat))=20+(p.opt.length:Int)+(p.data.length:Int):=IntWalk.i64_in _ (by omega)
 obtain ⟨⟨h1,h2,h3,h4,hst,ho40,ho4⟩,hform,hsz⟩:=Wj he
 unfold pW
 rw [if_pos he]
 have e2:IntKind.i64.wrap (69+IntKind.i64.wrap (((p.opt.length:Nat):Int).tdiv 4))=64+(20+(p.opt.length:Int)) / 4:=by
  rw [Int.tdiv_eq_ediv_of_nonneg (by omega),IntWalk.i64_in (_ / _) (by omega),IntWalk.i64_in _ (by omega)]
  omega
 have hl1:=uI p.fr hfr.1 hfr.2
 have hl2:=uI p.to hto.1 hto.2
 have key:∀F:Int,zd Tryz.prog 190 [.v (.string (mkS (hdA p F++([u8 0,u8 0]++hdB p))))] (.v (.int .i64 (65535-zL (ya (hdA p F++hdB p))))):=fun F=>by
  have:=sJ (hdA p F++([u8 0,u8 0]++hdB p)) (by unfold hdA hdB;simp only [List.length_append,List.length_cons,List.length_nil,zW,zE];omega)
  rw [ap] at this
  exact this
 have hbd:∀F:Int,0≤65535-zL (ya (hdA p F++hdB p)):=fun F=>by
  have:=xE (ya (hdA p F++hdB p)) (vP _).1
  omega
 have ex1:∀F:Int,(mkS (hdA p F++([u8 0,u8 0]++hdB p))).extract 0 10=mkS (hdA p F):=fun F=>by
  rw [zS];exact congrArg mkS (List.take_left' rfl)
 have ex2:∀F:Int,(mkS (hdA p F++([u8 0,u8 0]++hdB p))).extract 12 (hdA p F++([u8 0,u8 0]++hdB p)).length=mkS (hdB p):=fun F=>by
  rw [zS,List.take_of_length_le (by rw [List.length_drop];omega),←List.append_assoc];exact congrArg mkS (List.drop_left' rfl)
 obtain ⟨tos,id,wh,mo,start,life,proto,fr,to,opt,data⟩:=p
 have hH:∀F:Int,hdA ⟨tos,id,wh,mo,start,life,proto,fr,to,opt,data⟩ F++([u8 0,u8 0]++hdB ⟨tos,id,wh,mo,start,life,proto,fr,to,opt,data⟩)=[u8 (64+(20+(opt.length:Int)) / 4),u8 tos]++wd (20+(opt.length:Int)+(data.length:Int))++wd id++wd F++[u8 life,u8 proto,u8 0,u8 0]++lg fr++lg to++opt:=fun F=>by
  unfold hdA hdB;simp
 simp only [hH] at key ex1 ex2
 unfold Vb
 dsimp only at h1 h2 h3 h4 hst ho40 ho4 hform hsz e1 e2 e3 ho hd hfr hto hl1 hl2
 cases wh with
 |true=>
  obtain ⟨rfl,rfl⟩:=hform rfl
  have hfl:fl ⟨tos,id,true,false,0,life,proto,fr,to,opt,data⟩=16384:=rfl
  rw [hfl]
  have hs:=key 16384
  have x1:=ex1 16384
  have x2:=ex2 16384
  have hnn:=hbd 16384
  generalize 65535-zL (ya (hdA ⟨tos,id,true,false,0,life,proto,fr,to,opt,data⟩ 16384++hdB ⟨tos,id,true,false,0,life,proto,fr,to,opt,data⟩))=c at hs hnn ⊢
  clear key ex1 ex2 hbd hH
  refine z4 {} 0 Tryz.func167 fun Γ hW=>auC ?_
  repeat' first|refine auS ?_|(first|(simp only [zf,z5,xF,Int.toNat_natCast])|(simp only [e1])|(simp only [e2])|(simp only [e3])|(simp only [ef])|(simp only [x1])|(simp only [x2])|(with_reducible refine z0 (z6 _ _ _) ?_)|(with_reducible refine z0 (zC _ (by omega)) ?_)|(with_reducible refine z0 hl1 ?_)|(with_reducible refine z0 hl2 ?_)|(with_reducible refine z0 hs ?_)|(with_reducible refine zy rfl (wE _ _ _ _ _) ?_)|(with_reducible refine zy rfl (vu _ _ _ _ _ _ _) ?_))|refine auD ?_|(refine auW ?_ ?_<;>intro h<;>try exact auH)|(refine z7 (by simp only [zf,z5,List.length_append,List.length_cons,List.length_nil,zx,zW,zE,xZ,w9,List.length_take,List.length_drop];omega) ?_)
  all_goals try exact auP
  all_goals refine auV ?_
  all_goals try exact z8
  all_goals try simp only [hsM] at *
  all_goals rfl
 |false=>
  cases mo with
  |true=>
   have ef:IntKind.i64.wrap (start+8192)=start+8192:=IntWalk.i64_in _ (by omega)
   have hfl:fl ⟨tos,id,false,true,start,life,proto,fr,to,opt,data⟩=start+8192:=rfl
   rw [hfl]
   have hs:=key (start+8192)
   have x1:=ex1 (start+8192)
   have x2:=ex2 (start+8192)
   have hnn:=hbd (start+8192)
   generalize 65535-zL (ya (hdA ⟨tos,id,false,true,start,life,proto,fr,to,opt,data⟩ (start+8192)++hdB ⟨tos,id,false,true,start,life,proto,fr,to,opt,data⟩))=c at hs hnn ⊢
   clear key ex1 ex2 hbd hH
   refine z4 {} 0 Tryz.func167 fun Γ hW=>auC ?_
   repeat' first|refine auS ?_|(first|(simp only [zf,z5,xF,Int.toNat_natCast])|(simp only [e1])|(simp only [e2])|(simp only [e3])|(simp only [ef])|(simp only [x1])|(simp only [x2])|(with_reducible refine z0 (z6 _ _ _) ?_)|(with_reducible refine z0 (zC _ (by omega)) ?_)|(with_reducible refine z0 hl1 ?_)|(with_reducible refine z0 hl2 ?_)|(with_reducible refine z0 hs ?_)|(with_reducible refine zy rfl (wE _ _ _ _ _) ?_)|(with_reducible refine zy rfl (vu _ _ _ _ _ _ _) ?_))|refine auD ?_|(refine auW ?_ ?_<;>intro h<;>try exact auH)|(refine z7 (by simp only [zf,z5,List.length_append,List.length_cons,List.length_nil,zx,zW,zE,xZ,w9,List.length_take,List.length_drop];omega) ?_)
   all_goals try exact auP
   all_goals refine auV ?_
   all_goals try exact z8
   all_goals try simp only [hsM] at *
   all_goals rfl
  |false=>
   have hfl:fl ⟨tos,id,false,false,start,life,proto,fr,to,opt,data⟩=start:=Int.add_zero _
   rw [hfl]
   have hs:=key start
   have x1:=ex1 start
   have x2:=ex2 start
   have hnn:=hbd start
   generalize 65535-zL (ya (hdA ⟨tos,id,false,false,start,life,proto,fr,to,opt,data⟩ start++hdB ⟨tos,id,false,false,start,life,proto,fr,to,opt,data⟩))=c at hs hnn ⊢
   clear key ex1 ex2 hbd hH
   refine z4 {} 0 Tryz.func167 fun Γ hW=>auC ?_
   repeat' first|refine auS ?_|(first|(simp only [zf,z5,xF,Int.toNat_natCast])|(simp only [e1])|(simp only [e2])|(simp only [e3])|(simp only [ef])|(simp only [x1])|(simp only [x2])|(with_reducible refine z0 (z6 _ _ _) ?_)|(with_reducible refine z0 (zC _ (by omega)) ?_)|(with_reducible refine z0 hl1 ?_)|(with_reducible refine z0 hl2 ?_)|(with_reducible refine z0 hs ?_)|(with_reducible refine zy rfl (wE _ _ _ _ _) ?_)|(with_reducible refine zy rfl (vu _ _ _ _ _ _ _) ?_))|refine auD ?_|(refine auW ?_ ?_<;>intro h<;>try exact auH)|(refine z7 (by simp only [zf,z5,List.length_append,List.length_cons,List.length_nil,zx,zW,zE,xZ,w9,List.length_take,List.length_drop];omega) ?_)
   all_goals try exact auP
   all_goals refine auV ?_
   all_goals try exact z8
   all_goals try simp only [hsM] at *
   all_goals rfl
end Go.Proofs.YtmibknbmhcnemaaGreatDoor
namespace Go.Proofs.YtmibknbmhcnemaaGreatDoor
attribute [local irreducible] zF Go
set_option maxRecDepth 100000
theorem no (p:Pk) (ho:p.opt.length≤140737488351232) (hd:p.data.length≤140737488351232) (hfr:0≤p.fr∧p.fr<4294967296) (hto:0≤p.to∧p.to<4294967296):zd Tryz.prog 167 [dP p] (dSI (pW p)):=by
 by_cases he:uu p=0
 ·exact kr p he ho hd hfr hto
 ·exact k9 p he ho hd hfr hto
theorem Vt (p:Pk):(pW p).2=uu p:=by
 unfold pW
 split
 ·rename_i h;exact h.symm
 ·rfl
theorem rfR (p:Pk) (ho:p.opt.length≤140737488351232) (hd:p.data.length≤140737488351232) (hfr:0≤p.fr∧p.fr<4294967296) (hto:0≤p.to∧p.to<4294967296):zd Tryz.prog 167 [dP p] (.tup [.v (.string (mkS (pW p).1)),.v (.int .i64 (uu p))]):=by
 have:=no p ho hd hfr hto
 rw [←Vt]
 exact this
theorem rfC (p:Pk) (ho:p.opt.length≤140737488351232) (hd:p.data.length≤140737488351232) (hfr:0≤p.fr∧p.fr<4294967296) (hto:0≤p.to∧p.to<4294967296):zd Tryz.prog 94 [dP p] (.v (.int .i64 (uu p))):=iu p ho hd
theorem VO (l:List UInt8) (hl:l.length≤9223372036854775800):zd Tryz.prog 168 [.v (.int .i64 0),.v (.string (mkS l))] (.v (.int .i64 (zL (ya l)))):=by
 have:=t_ 0 (by decide) l hl
 rw [Int.zero_add] at this
 exact this
def hN (s:List UInt8):Nat:=4*(bN s 0 % 16)
def rdP (s:List UInt8):Pk:=⟨(bN s 1:Nat),z3 s 4,decide (z3 s 6 / 16384=1),decide (z3 s 6 / 8192 % 2=1),z3 s 6 % 8192,(bN s 8:Nat),(bN s 9:Nat),yZ s 12,yZ s 16,(s.drop 20).take (hN s-20),(s.drop (hN s)).take ((z3 s 2).toNat-hN s)⟩
def pk0:Pk:=⟨0,0,false,false,0,0,0,0,0,[],[]⟩
def zU (s:List UInt8):Int:=
 if s.length<20∨s.length<hN s∨(s.length:Int)<z3 s 2 then 3
 else if ¬(69≤bN s 0∧bN s 0≤79)∨z3 s 2<(hN s:Nat)∨32768≤z3 s 6 then 4
 else if ¬uu (rdP s)=0 then 4
 else if ¬zL (ya (s.take (hN s)))=65535 then 5 else 0
def rpR (s:List UInt8):Pk×Int:=if zU s=0 then (rdP s,0) else (pk0,zU s)
theorem xy {s:List UInt8} {e:Int} (h:zU s=e) (h0:e≠0):rpR s=(pk0,e):=by unfold rpR;rw [h,if_neg h0]
abbrev dPE (r:Pk×Int):DV:=.tup [dP r.1,.v (.int .i64 r.2)]
set_option maxHeartbeats 4000000 in
theorem rn (s:List UInt8) (hl:s.length≤140737488351232):zd Tryz.prog 97 [.v (.string (mkS s))] (dPE (rpR s)):=by
 by_cases h20:s.length<20
 ·have hr:zU s=3:=by unfold zU;rw [if_pos (.inl h20)]
  rw [xy hr (by decide)]
  refine z4 {} 0 Tryz.func97 fun Γ hW=>auC ?_
  repeat' first|refine auS ?_|(first|(simp only [z5,zj,Int.toNat_natCast])|(simp only [c0,c15,c4,cm,cw,cs])|(simp only [c1,c8,c9])|(simp only [m4,m15])|(simp only [m14,m13])|(simp only [f15])|(simp only [f14,f13])|(simp only [g14,g13,g2,gm])|(simp only [r_,x8])|(simp only [g1])|(simp only [x1,x2,x3])|(with_reducible refine z0 (z6 _ _ _) ?_)|(with_reducible refine z0 h2 ?_)|(with_reducible refine z0 h4 ?_)|(with_reducible refine z0 h6 ?_)|(with_reducible refine z0 h12 ?_)|(with_reducible refine z0 h16 ?_)|(with_reducible refine z0 hr ?_)|(with_reducible refine z0 hs ?_))|refine auD ?_|(refine auW ?_ ?_<;>intro h<;>try exact auH)|(first|(refine z7 (by simp only [z5,List.length_take,List.length_drop];omega) ?_)|(refine z7 (by omega) ?_)|fail)
  all_goals try exact auP
  all_goals refine auV ?_
  all_goals try exact z8
  all_goals try simp only [hsM] at *
  all_goals rfl
 have h2:=yQ s 2 (by omega) (by omega) 2 rfl
 have b2:=zh s 2
 have b0:=yg s 0
 have c0:IntKind.i64.wrap (bN s 0:Nat)=(bN s 0:Nat):=IntWalk.i64_in _ (by omega)
 have c15:bits .and .u8 (bN s 0:Nat) 15=((bN s 0 % 16:Nat):Int):=by rw [u8_and15 _ (by omega) (by omega)];omega
 have cm:IntKind.i64.wrap (bN s 0 % 16:Nat)=((bN s 0 % 16:Nat):Int):=IntWalk.i64_in _ (by omega)
 have cw:IntKind.i64.wrap (((bN s 0 % 16:Nat):Int)*4)=((hN s:Nat):Int):=by unfold hN;rw [IntWalk.i64_in _ (by omega)];omega
 have c4:((bN s 0:Nat):Int).tmod 16=((bN s 0 % 16:Nat):Int):=(Int.ofNat_tmod _ 16).symm
 have cs:IntKind.i64.wrap (4*((bN s 0 % 16:Nat):Int))=((hN s:Nat):Int):=by unfold hN;rw [IntWalk.i64_in _ (by omega)];omega
 by_cases hn:s.length<hN s
 ·have hr:zU s=3:=by unfold zU;rw [if_pos (.inr (.inl hn))]
  rw [xy hr (by decide)]
  clear hr
  generalize hN s=n at *
  generalize z3 s 2=al at *
  refine z4 {} 0 Tryz.func97 fun Γ hW=>auC ?_
  repeat' first|refine auS ?_|(first|(simp only [z5,zj,Int.toNat_natCast])|(simp only [c0,c15,c4,cm,cw,cs])|(simp only [c1,c8,c9])|(simp only [m4,m15])|(simp only [m14,m13])|(simp only [f15])|(simp only [f14,f13])|(simp only [g14,g13,g2,gm])|(simp only [r_,x8])|(simp only [g1])|(simp only [x1,x2,x3])|(with_reducible refine z0 (z6 _ _ _) ?_)|(with_reducible refine z0 h2 ?_)|(with_reducible refine z0 h4 ?_)|(with_reducible refine z0 h6 ?_)|(with_reducible refine z0 h12 ?_)|(with_reducible refine z0 h16 ?_)|(with_reducible refine z0 hr ?_)|(with_reducible refine z0 hs ?_))|refine auD ?_|(refine auW ?_ ?_<;>intro h<;>try exact auH)|(first|(refine z7 (by simp only [z5,List.length_take,List.length_drop];omega) ?_)|(refine z7 (by omega) ?_)|fail)
  all_goals try exact auP
  all_goals refine auV ?_
  all_goals try exact z8
  all_goals try simp only [hsM] at *
  all_goals rfl
 by_cases ha:(s.length:Int)<z3 s 2
 ·have hr:zU s=3:=by unfold zU;rw [if_pos (.inr (.inr ha))]
  rw [xy hr (by decide)]
  clear hr
  generalize hN s=n at *
  generalize z3 s 2=al at *
  refine z4 {} 0 Tryz.func97 fun Γ hW=>auC ?_
  repeat' first|refine auS ?_|(first|(simp only [z5,zj,Int.toNat_natCast])|(simp only [c0,c15,c4,cm,cw,cs])|(simp only [c1,c8,c9])|(simp only [m4,m15])|(simp only [m14,m13])|(simp only [f15])|(simp only [f14,f13])|(simp only [g14,g13,g2,gm])|(simp only [r_,x8])|(simp only [g1])|(simp only [x1,x2,x3])|(with_reducible refine z0 (z6 _ _ _) ?_)|(with_reducible refine z0 h2 ?_)|(with_reducible refine z0 h4 ?_)|(with_reducible refine z0 h6 ?_)|(with_reducible refine z0 h12 ?_)|(with_reducible refine z0 h16 ?_)|(with_reducible refine z0 hr ?_)|(with_reducible refine z0 hs ?_))|refine auD ?_|(refine auW ?_ ?_<;>intro h<;>try exact auH)|(first|(refine z7 (by simp only [z5,List.length_take,List.length_drop];omega) ?_)|(refine z7 (by omega) ?_)|fail)
  all_goals try exact auP
  all_goals refine auV ?_
  all_goals try exact z8
  all_goals try simp only [hsM] at *
  all_goals rfl
 have h6:=yQ s 6 (by omega) (by omega) 6 rfl
 have b6:=zh s 6
 have m4:min 4 IntKind.u8.bits=4:=rfl
 have m15:min 15 IntKind.i64.bits=15:=rfl
 have f15:(z3 s 6).fdiv (2 ^ 15)=z3 s 6 / 32768:=Int.fdiv_eq_ediv_of_nonneg _ (by decide)
 have g1:((bN s 0:Nat):Int).fdiv (2 ^ 4)=((bN s 0 / 16:Nat):Int):=by rw [Int.fdiv_eq_ediv_of_nonneg _ (by decide)];omega
 have hnB:hN s=4*(bN s 0 % 16):=rfl
 by_cases hB:69≤bN s 0∧bN s 0≤79
 rotate_left 1
 ·have hr:zU s=4:=by unfold zU;rw [if_neg (by omega),if_pos (.inl hB)]
  rw [xy hr (by decide)]
  clear hr
  generalize hN s=n at *
  generalize z3 s 2=al at *
  generalize z3 s 6=F at *
  refine z4 {} 0 Tryz.func97 fun Γ hW=>auC ?_
  repeat' first|refine auS ?_|(first|(simp only [z5,zj,Int.toNat_natCast])|(simp only [c0,c15,c4,cm,cw,cs])|(simp only [c1,c8,c9])|(simp only [m4,m15])|(simp only [m14,m13])|(simp only [f15])|(simp only [f14,f13])|(simp only [g14,g13,g2,gm])|(simp only [r_,x8])|(simp only [g1])|(simp only [x1,x2,x3])|(with_reducible refine z0 (z6 _ _ _) ?_)|(with_reducible refine z0 h2 ?_)|(with_reducible refine z0 h4 ?_)|(with_reducible refine z0 h6 ?_)|(with_reducible refine z0 h12 ?_)|(with_reducible refine z0 h16 ?_)|(with_reducible refine z0 hr ?_)|(with_reducible refine z0 hs ?_))|refine auD ?_|(refine auW ?_ ?_<;>intro h<;>try exact auH)|(first|(refine z7 (by simp only [z5,List.length_take,List.length_drop];omega) ?_)|(refine z7 (by omega) ?_)|fail)
  all_goals try exact auP
  all_goals refine auV ?_
  all_goals try exact z8
  all_goals try simp only [hsM] at *
  all_goals rfl
 by_cases hA:z3 s 2<(hN s:Nat)
 ·have hr:zU s=4:=by unfold zU;rw [if_neg (by omega),if_pos (.inr (.inl hA))]
  rw [xy hr (by decide)]
  clear hr
  generalize hN s=n at *
  generalize z3 s 2=al at *
  generalize z3 s 6=F at *
  refine z4 {} 0 Tryz.func97 fun Γ hW=>auC ?_
  repeat' first|refine auS ?_|(first|(simp only [z5,zj,Int.toNat_natCast])|(simp only [c0,c15,c4,cm,cw,cs])|(simp only [c1,c8,c9])|(simp only [m4,m15])|(simp only [m14,m13])|(simp only [f15])|(simp only [f14,f13])|(simp only [g14,g13,g2,gm])|(simp only [r_,x8])|(simp only [g1])|(simp only [x1,x2,x3])|(with_reducible refine z0 (z6 _ _ _) ?_)|(with_reducible refine z0 h2 ?_)|(with_reducible refine z0 h4 ?_)|(with_reducible refine z0 h6 ?_)|(with_reducible refine z0 h12 ?_)|(with_reducible refine z0 h16 ?_)|(with_reducible refine z0 hr ?_)|(with_reducible refine z0 hs ?_))|refine auD ?_|(refine auW ?_ ?_<;>intro h<;>try exact auH)|(first|(refine z7 (by simp only [z5,List.length_take,List.length_drop];omega) ?_)|(refine z7 (by omega) ?_)|fail)
  all_goals try exact auP
  all_goals refine auV ?_
  all_goals try exact z8
  all_goals try simp only [hsM] at *
  all_goals rfl
 by_cases hF:32768≤z3 s 6
 ·have hr:zU s=4:=by unfold zU;rw [if_neg (by omega),if_pos (.inr (.inr hF))]
  rw [xy hr (by decide)]
  clear hr
  generalize hN s=n at *
  generalize z3 s 2=al at *
  generalize z3 s 6=F at *
  refine z4 {} 0 Tryz.func97 fun Γ hW=>auC ?_
  repeat' first|refine auS ?_|(first|(simp only [z5,zj,Int.toNat_natCast])|(simp only [c0,c15,c4,cm,cw,cs])|(simp only [c1,c8,c9])|(simp only [m4,m15])|(simp only [m14,m13])|(simp only [f15])|(simp only [f14,f13])|(simp only [g14,g13,g2,gm])|(simp only [r_,x8])|(simp only [g1])|(simp only [x1,x2,x3])|(with_reducible refine z0 (z6 _ _ _) ?_)|(with_reducible refine z0 h2 ?_)|(with_reducible refine z0 h4 ?_)|(with_reducible refine z0 h6 ?_)|(with_reducible refine z0 h12 ?_)|(with_reducible refine z0 h16 ?_)|(with_reducible refine z0 hr ?_)|(with_reducible refine z0 hs ?_))|refine auD ?_|(refine auW ?_ ?_<;>intro h<;>try exact auH)|(first|(refine z7 (by simp only [z5,List.length_take,List.length_drop];omega) ?_)|(refine z7 (by omega) ?_)|fail)
  all_goals try exact auP
  all_goals refine auV ?_
  all_goals try exact z8
  all_goals try simp only [hsM] at *
  all_goals rfl
 have h4:=yQ s 4 (by omega) (by omega) 4 rfl
 have h12:=qs s 12 (by omega) (by omega) 12 rfl
 have h16:=qs s 16 (by omega) (by omega) 16 rfl
 have hr:=rfC (rdP s) (by simp only [rdP,List.length_take,List.length_drop];omega) (by simp only [rdP,List.length_take,List.length_drop];omega) (wt s 12) (wt s 16)
 have hs:=t9 (s.take (hN s)) (by rw [List.length_take];omega)
 have d1:=yg s 1
 have d8:=yg s 8
 have d9:=yg s 9
 have c1:IntKind.i64.wrap (bN s 1:Nat)=(bN s 1:Nat):=IntWalk.i64_in _ (by omega)
 have c8:IntKind.i64.wrap (bN s 8:Nat)=(bN s 8:Nat):=IntWalk.i64_in _ (by omega)
 have c9:IntKind.i64.wrap (bN s 9:Nat)=(bN s 9:Nat):=IntWalk.i64_in _ (by omega)
 have m14:min 14 IntKind.i64.bits=14:=rfl
 have m13:min 13 IntKind.i64.bits=13:=rfl
 have f14:(z3 s 6).fdiv (2 ^ 14)=z3 s 6 / 16384:=Int.fdiv_eq_ediv_of_nonneg _ (by decide)
 have f13:(z3 s 6).fdiv (2 ^ 13)=z3 s 6 / 8192:=Int.fdiv_eq_ediv_of_nonneg _ (by decide)
 have g2:z3 s 6 / 16384 % 2=z3 s 6 / 16384:=by omega
 have g14:IntKind.i64.wrap ((z3 s 6).tdiv 16384)=z3 s 6 / 16384:=by rw [Int.tdiv_eq_ediv_of_nonneg (by omega),IntWalk.i64_in _ (by omega)]
 have g13:(IntKind.i64.wrap ((z3 s 6).tdiv 8192)).tmod 2=z3 s 6 / 8192 % 2:=by rw [Int.tdiv_eq_ediv_of_nonneg (by omega),IntWalk.i64_in _ (by omega),Int.tmod_eq_emod_of_nonneg (by omega)]
 have gm:(z3 s 6).tmod 8192=z3 s 6 % 8192:=Int.tmod_eq_emod_of_nonneg (by omega)
 have x1:(mkS s).extract 20 (hN s)=mkS ((s.drop 20).take (hN s-20)):=zS _ _ _
 have x2:(mkS s).extract (hN s) (z3 s 2).toNat=mkS ((s.drop (hN s)).take ((z3 s 2).toNat-hN s)):=zS _ _ _
 have x3:(mkS s).extract 0 (hN s)=mkS (s.take (hN s)):=by rw [zS];rfl
 by_cases hE:uu (rdP s)=0
 rotate_left 1
 ·have hre:zU s=4:=by unfold zU;rw [if_neg (by omega),if_neg (by omega),if_pos hE]
  rw [xy hre (by decide)]
  clear hre
  generalize uu (rdP s)=E at *
  try generalize (pW (rdP s)).1=T at *
  unfold rdP at hr
  generalize hN s=n at *
  generalize z3 s 2=al at *
  generalize z3 s 6=F at *
  refine z4 {} 0 Tryz.func97 fun Γ hW=>auC ?_
  repeat' first|refine auS ?_|(first|(simp only [z5,zj,Int.toNat_natCast])|(simp only [c0,c15,c4,cm,cw,cs])|(simp only [c1,c8,c9])|(simp only [m4,m15])|(simp only [m14,m13])|(simp only [f15])|(simp only [f14,f13])|(simp only [g14,g13,g2,gm])|(simp only [r_,x8])|(simp only [g1])|(simp only [x1,x2,x3])|(with_reducible refine z0 (z6 _ _ _) ?_)|(with_reducible refine z0 h2 ?_)|(with_reducible refine z0 h4 ?_)|(with_reducible refine z0 h6 ?_)|(with_reducible refine z0 h12 ?_)|(with_reducible refine z0 h16 ?_)|(with_reducible refine z0 hr ?_)|(with_reducible refine z0 hs ?_))|refine auD ?_|(refine auW ?_ ?_<;>intro h<;>try exact auH)|(first|(refine z7 (by simp only [z5,List.length_take,List.length_drop];omega) ?_)|(refine z7 (by omega) ?_)|fail)
  all_goals try exact auP
  all_goals refine auV ?_
  all_goals try exact z8
  all_goals try simp only [hsM] at *
  all_goals rfl
 by_cases hS:zL (ya (s.take (hN s)))=65535
 rotate_left 1
 ·have hre:zU s=5:=by unfold zU;rw [if_neg (by omega),if_neg (by omega),if_neg (not_not_intro hE),if_pos hS]
  rw [xy hre (by decide)]
  clear hre
  rw [hE] at hr
  clear hE
  try generalize (pW (rdP s)).1=T at *
  unfold rdP at hr
  generalize zL (ya (s.take (hN s)))=c at *
  generalize hN s=n at *
  generalize z3 s 2=al at *
  generalize z3 s 6=F at *
  refine z4 {} 0 Tryz.func97 fun Γ hW=>auC ?_
  repeat' first|refine auS ?_|(first|(simp only [z5,zj,Int.toNat_natCast])|(simp only [c0,c15,c4,cm,cw,cs])|(simp only [c1,c8,c9])|(simp only [m4,m15])|(simp only [m14,m13])|(simp only [f15])|(simp only [f14,f13])|(simp only [g14,g13,g2,gm])|(simp only [r_,x8])|(simp only [g1])|(simp only [x1,x2,x3])|(with_reducible refine z0 (z6 _ _ _) ?_)|(with_reducible refine z0 h2 ?_)|(with_reducible refine z0 h4 ?_)|(with_reducible refine z0 h6 ?_)|(with_reducible refine z0 h12 ?_)|(with_reducible refine z0 h16 ?_)|(with_reducible refine z0 hr ?_)|(with_reducible refine z0 hs ?_))|refine auD ?_|(refine auW ?_ ?_<;>intro h<;>try exact auH)|(first|(refine z7 (by simp only [z5,List.length_take,List.length_drop];omega) ?_)|(refine z7 (by omega) ?_)|fail)
  all_goals try exact auP
  all_goals refine auV ?_
  all_goals try exact z8
  all_goals try simp only [hsM] at *
  all_goals rfl
 ·have hre0:zU s=0:=by unfold zU;rw [if_neg (by omega),if_neg (by omega),if_neg (not_not_intro hE),if_neg (not_not_intro hS)]
  have hre:rpR s=(rdP s,0):=by unfold rpR;rw [hre0,if_pos rfl]
  clear hre0
  rw [hre]
  clear hre
  rw [hE] at hr
  rw [hS] at hs
  clear hE hS
  try generalize (pW (rdP s)).1=T at *
  unfold rdP at hr ⊢
  generalize hN s=n at *
  generalize z3 s 2=al at *
  generalize z3 s 6=F at *
  refine z4 {} 0 Tryz.func97 fun Γ hW=>auC ?_
  repeat' first|refine auS ?_|(first|(simp only [z5,zj,Int.toNat_natCast])|(simp only [c0,c15,c4,cm,cw,cs])|(simp only [c1,c8,c9])|(simp only [m4,m15])|(simp only [m14,m13])|(simp only [f15])|(simp only [f14,f13])|(simp only [g14,g13,g2,gm])|(simp only [r_,x8])|(simp only [g1])|(simp only [x1,x2,x3])|(with_reducible refine z0 (z6 _ _ _) ?_)|(with_reducible refine z0 h2 ?_)|(with_reducible refine z0 h4 ?_)|(with_reducible refine z0 h6 ?_)|(with_reducible refine z0 h12 ?_)|(with_reducible refine z0 h16 ?_)|(with_reducible refine z0 hr ?_)|(with_reducible refine z0 hs ?_))|refine auD ?_|(refine auW ?_ ?_<;>intro h<;>try exact auH)|(first|(refine z7 (by simp only [z5,List.length_take,List.length_drop];omega) ?_)|(refine z7 (by omega) ?_)|fail)
  all_goals try exact auP
  all_goals refine auV ?_
  all_goals try exact z8
  all_goals try simp only [hsM] at *
  all_goals rfl
set_option maxHeartbeats 4000000 in
theorem sX (s:List UInt8) (hl:s.length≤140737488351232):zd Tryz.prog 123 [.v (.string (mkS s))] (dPE (rpR s)):=by
 by_cases h20:s.length<20
 ·have hr:zU s=3:=by unfold zU;rw [if_pos (.inl h20)]
  rw [xy hr (by decide)]
  refine z4 {} 0 Tryz.func123 fun Γ hW=>auC ?_
  repeat' first|refine auS ?_|(first|(simp only [z5,zj,Int.toNat_natCast])|(simp only [c0,c15,c4,cm,cw,cs])|(simp only [c1,c8,c9])|(simp only [m4,m15])|(simp only [m14,m13])|(simp only [f15])|(simp only [f14,f13])|(simp only [g14,g13,g2,gm])|(simp only [r_,x8])|(simp only [g1])|(simp only [x1,x2,x3])|(with_reducible refine z0 (z6 _ _ _) ?_)|(with_reducible refine z0 h2 ?_)|(with_reducible refine z0 h4 ?_)|(with_reducible refine z0 h6 ?_)|(with_reducible refine z0 h12 ?_)|(with_reducible refine z0 h16 ?_)|(with_reducible refine z0 hr ?_)|(with_reducible refine z0 hs ?_))|refine auD ?_|(refine auW ?_ ?_<;>intro h<;>try exact auH)|(first|(refine z7 (by simp only [z5,List.length_take,List.length_drop];omega) ?_)|(refine z7 (by omega) ?_)|fail)
  all_goals try exact auP
  all_goals refine auV ?_
  all_goals try exact z8
  all_goals try simp only [hsM] at *
  all_goals rfl
 have h2:=zp s 2 (by omega) (by omega) 2 rfl
 have b2:=zh s 2
 have b0:=yg s 0
 have c0:IntKind.i64.wrap (bN s 0:Nat)=(bN s 0:Nat):=IntWalk.i64_in _ (by omega)
 have c15:bits .and .u8 (bN s 0:Nat) 15=((bN s 0 % 16:Nat):Int):=by rw [u8_and15 _ (by omega) (by omega)];omega
 have cm:IntKind.i64.wrap (bN s 0 % 16:Nat)=((bN s 0 % 16:Nat):Int):=IntWalk.i64_in _ (by omega)
 have cw:IntKind.i64.wrap (((bN s 0 % 16:Nat):Int)*4)=((hN s:Nat):Int):=by unfold hN;rw [IntWalk.i64_in _ (by omega)];omega
 have c4:((bN s 0:Nat):Int).tmod 16=((bN s 0 % 16:Nat):Int):=(Int.ofNat_tmod _ 16).symm
 have cs:IntKind.i64.wrap (4*((bN s 0 % 16:Nat):Int))=((hN s:Nat):Int):=by unfold hN;rw [IntWalk.i64_in _ (by omega)];omega
 by_cases hn:s.length<hN s
 ·have hr:zU s=3:=by unfold zU;rw [if_pos (.inr (.inl hn))]
  rw [xy hr (by decide)]
  clear hr
  generalize hN s=n at *
  generalize z3 s 2=al at *
  refine z4 {} 0 Tryz.func123 fun Γ hW=>auC ?_
  repeat' first|refine auS ?_|(first|(simp only [z5,zj,Int.toNat_natCast])|(simp only [c0,c15,c4,cm,cw,cs])|(simp only [c1,c8,c9])|(simp only [m4,m15])|(simp only [m14,m13])|(simp only [f15])|(simp only [f14,f13])|(simp only [g14,g13,g2,gm])|(simp only [r_,x8])|(simp only [g1])|(simp only [x1,x2,x3])|(with_reducible refine z0 (z6 _ _ _) ?_)|(with_reducible refine z0 h2 ?_)|(with_reducible refine z0 h4 ?_)|(with_reducible refine z0 h6 ?_)|(with_reducible refine z0 h12 ?_)|(with_reducible refine z0 h16 ?_)|(with_reducible refine z0 hr ?_)|(with_reducible refine z0 hs ?_))|refine auD ?_|(refine auW ?_ ?_<;>intro h<;>try exact auH)|(first|(refine z7 (by simp only [z5,List.length_take,List.length_drop];omega) ?_)|(refine z7 (by omega) ?_)|fail)
  all_goals try exact auP
  all_goals refine auV ?_
  all_goals try exact z8
  all_goals try simp only [hsM] at *
  all_goals rfl
 by_cases ha:(s.length:Int)<z3 s 2
 ·have hr:zU s=3:=by unfold zU;rw [if_pos (.inr (.inr ha))]
  rw [xy hr (by decide)]
  clear hr
  generalize hN s=n at *
  generalize z3 s 2=al at *
  refine z4 {} 0 Tryz.func123 fun Γ hW=>auC ?_
  repeat' first|refine auS ?_|(first|(simp only [z5,zj,Int.toNat_natCast])|(simp only [c0,c15,c4,cm,cw,cs])|(simp only [c1,c8,c9])|(simp only [m4,m15])|(simp only [m14,m13])|(simp only [f15])|(simp only [f14,f13])|(simp only [g14,g13,g2,gm])|(simp only [r_,x8])|(simp only [g1])|(simp only [x1,x2,x3])|(with_reducible refine z0 (z6 _ _ _) ?_)|(with_reducible refine z0 h2 ?_)|(with_reducible refine z0 h4 ?_)|(with_reducible refine z0 h6 ?_)|(with_reducible refine z0 h12 ?_)|(with_reducible refine z0 h16 ?_)|(with_reducible refine z0 hr ?_)|(with_reducible refine z0 hs ?_))|refine auD ?_|(refine auW ?_ ?_<;>intro h<;>try exact auH)|(first|(refine z7 (by simp only [z5,List.length_take,List.length_drop];omega) ?_)|(refine z7 (by omega) ?_)|fail)
  all_goals try exact auP
  all_goals refine auV ?_
  all_goals try exact z8
  all_goals try simp only [hsM] at *
  all_goals rfl
 have h6:=zp s 6 (by omega) (by omega) 6 rfl
 have b6:=zh s 6
 have m4:min 4 IntKind.u8.bits=4:=rfl
 have m15:min 15 IntKind.i64.bits=15:=rfl
 have f15:(z3 s 6).fdiv (2 ^ 15)=z3 s 6 / 32768:=Int.fdiv_eq_ediv_of_nonneg _ (by decide)
 have g1:((bN s 0:Nat):Int).fdiv (2 ^ 4)=((bN s 0 / 16:Nat):Int):=by rw [Int.fdiv_eq_ediv_of_nonneg _ (by decide)];omega
 have hnB:hN s=4*(bN s 0 % 16):=rfl
 by_cases hB:69≤bN s 0∧bN s 0≤79
 rotate_left 1
 ·have hr:zU s=4:=by unfold zU;rw [if_neg (by omega),if_pos (.inl hB)]
  rw [xy hr (by decide)]
  clear hr
  generalize hN s=n at *
  generalize z3 s 2=al at *
  generalize z3 s 6=F at *
  refine z4 {} 0 Tryz.func123 fun Γ hW=>auC ?_
  repeat' first|refine auS ?_|(first|(simp only [z5,zj,Int.toNat_natCast])|(simp only [c0,c15,c4,cm,cw,cs])|(simp only [c1,c8,c9])|(simp only [m4,m15])|(simp only [m14,m13])|(simp only [f15])|(simp only [f14,f13])|(simp only [g14,g13,g2,gm])|(simp only [r_,x8])|(simp only [g1])|(simp only [x1,x2,x3])|(with_reducible refine z0 (z6 _ _ _) ?_)|(with_reducible refine z0 h2 ?_)|(with_reducible refine z0 h4 ?_)|(with_reducible refine z0 h6 ?_)|(with_reducible refine z0 h12 ?_)|(with_reducible refine z0 h16 ?_)|(with_reducible refine z0 hr ?_)|(with_reducible refine z0 hs ?_))|refine auD ?_|(refine auW ?_ ?_<;>intro h<;>try exact auH)|(first|(refine z7 (by simp only [z5,List.length_take,List.length_drop];omega) ?_)|(refine z7 (by omega) ?_)|fail)
  all_goals try exact auP
  all_goals refine auV ?_
  all_goals try exact z8
  all_goals try simp only [hsM] at *
  all_goals rfl
 by_cases hA:z3 s 2<(hN s:Nat)
 ·have hr:zU s=4:=by unfold zU;rw [if_neg (by omega),if_pos (.inr (.inl hA))]
  rw [xy hr (by decide)]
  clear hr
  generalize hN s=n at *
  generalize z3 s 2=al at *
  generalize z3 s 6=F at *
  refine z4 {} 0 Tryz.func123 fun Γ hW=>auC ?_
  repeat' first|refine auS ?_|(first|(simp only [z5,zj,Int.toNat_natCast])|(simp only [c0,c15,c4,cm,cw,cs])|(simp only [c1,c8,c9])|(simp only [m4,m15])|(simp only [m14,m13])|(simp only [f15])|(simp only [f14,f13])|(simp only [g14,g13,g2,gm])|(simp only [r_,x8])|(simp only [g1])|(simp only [x1,x2,x3])|(with_reducible refine z0 (z6 _ _ _) ?_)|(with_reducible refine z0 h2 ?_)|(with_reducible refine z0 h4 ?_)|(with_reducible refine z0 h6 ?_)|(with_reducible refine z0 h12 ?_)|(with_reducible refine z0 h16 ?_)|(with_reducible refine z0 hr ?_)|(with_reducible refine z0 hs ?_))|refine auD ?_|(refine auW ?_ ?_<;>intro h<;>try exact auH)|(first|(refine z7 (by simp only [z5,List.length_take,List.length_drop];omega) ?_)|(refine z7 (by omega) ?_)|fail)
  all_goals try exact auP
  all_goals refine auV ?_
  all_goals try exact z8
  all_goals try simp only [hsM] at *
  all_goals rfl
 by_cases hF:32768≤z3 s 6
 ·have hr:zU s=4:=by unfold zU;rw [if_neg (by omega),if_pos (.inr (.inr hF))]
  rw [xy hr (by decide)]
  clear hr
  generalize hN s=n at *
  generalize z3 s 2=al at *
  generalize z3 s 6=F at *
  refine z4 {} 0 Tryz.func123 fun Γ hW=>auC ?_
  repeat' first|refine auS ?_|(first|(simp only [z5,zj,Int.toNat_natCast])|(simp only [c0,c15,c4,cm,cw,cs])|(simp only [c1,c8,c9])|(simp only [m4,m15])|(simp only [m14,m13])|(simp only [f15])|(simp only [f14,f13])|(simp only [g14,g13,g2,gm])|(simp only [r_,x8])|(simp only [g1])|(simp only [x1,x2,x3])|(with_reducible refine z0 (z6 _ _ _) ?_)|(with_reducible refine z0 h2 ?_)|(with_reducible refine z0 h4 ?_)|(with_reducible refine z0 h6 ?_)|(with_reducible refine z0 h12 ?_)|(with_reducible refine z0 h16 ?_)|(with_reducible refine z0 hr ?_)|(with_reducible refine z0 hs ?_))|refine auD ?_|(refine auW ?_ ?_<;>intro h<;>try exact auH)|(first|(refine z7 (by simp only [z5,List.length_take,List.length_drop];omega) ?_)|(refine z7 (by omega) ?_)|fail)
  all_goals try exact auP
  all_goals refine auV ?_
  all_goals try exact z8
  all_goals try simp only [hsM] at *
  all_goals rfl
 have h4:=zp s 4 (by omega) (by omega) 4 rfl
 have h12:=tM s 12 (by omega) (by omega) 12 rfl
 have h16:=tM s 16 (by omega) (by omega) 16 rfl
 have hr:=rfR (rdP s) (by simp only [rdP,List.length_take,List.length_drop];omega) (by simp only [rdP,List.length_take,List.length_drop];omega) (wt s 12) (wt s 16)
 have hs:=VO (s.take (hN s)) (by rw [List.length_take];omega)
 have d1:=yg s 1
 have d8:=yg s 8
 have d9:=yg s 9
 have c1:IntKind.i64.wrap (bN s 1:Nat)=(bN s 1:Nat):=IntWalk.i64_in _ (by omega)
 have c8:IntKind.i64.wrap (bN s 8:Nat)=(bN s 8:Nat):=IntWalk.i64_in _ (by omega)
 have c9:IntKind.i64.wrap (bN s 9:Nat)=(bN s 9:Nat):=IntWalk.i64_in _ (by omega)
 have m14:min 14 IntKind.i64.bits=14:=rfl
 have m13:min 13 IntKind.i64.bits=13:=rfl
 have f14:(z3 s 6).fdiv (2 ^ 14)=z3 s 6 / 16384:=Int.fdiv_eq_ediv_of_nonneg _ (by decide)
 have f13:(z3 s 6).fdiv (2 ^ 13)=z3 s 6 / 8192:=Int.fdiv_eq_ediv_of_nonneg _ (by decide)
 have g2:z3 s 6 / 16384 % 2=z3 s 6 / 16384:=by omega
 have g14:IntKind.i64.wrap ((z3 s 6).tdiv 16384)=z3 s 6 / 16384:=by rw [Int.tdiv_eq_ediv_of_nonneg (by omega),IntWalk.i64_in _ (by omega)]
 have g13:(IntKind.i64.wrap ((z3 s 6).tdiv 8192)).tmod 2=z3 s 6 / 8192 % 2:=by rw [Int.tdiv_eq_ediv_of_nonneg (by omega),IntWalk.i64_in _ (by omega),Int.tmod_eq_emod_of_nonneg (by omega)]
 have gm:(z3 s 6).tmod 8192=z3 s 6 % 8192:=Int.tmod_eq_emod_of_nonneg (by omega)
 have x1:(mkS s).extract 20 (hN s)=mkS ((s.drop 20).take (hN s-20)):=zS _ _ _
 have x2:(mkS s).extract (hN s) (z3 s 2).toNat=mkS ((s.drop (hN s)).take ((z3 s 2).toNat-hN s)):=zS _ _ _
 have x3:(mkS s).extract 0 (hN s)=mkS (s.take (hN s)):=by rw [zS];rfl
 by_cases hE:uu (rdP s)=0
 rotate_left 1
 ·have hre:zU s=4:=by unfold zU;rw [if_neg (by omega),if_neg (by omega),if_pos hE]
  rw [xy hre (by decide)]
  clear hre
  generalize uu (rdP s)=E at *
  try generalize (pW (rdP s)).1=T at *
  unfold rdP at hr
  generalize hN s=n at *
  generalize z3 s 2=al at *
  generalize z3 s 6=F at *
  refine z4 {} 0 Tryz.func123 fun Γ hW=>auC ?_
  repeat' first|refine auS ?_|(first|(simp only [z5,zj,Int.toNat_natCast])|(simp only [c0,c15,c4,cm,cw,cs])|(simp only [c1,c8,c9])|(simp only [m4,m15])|(simp only [m14,m13])|(simp only [f15])|(simp only [f14,f13])|(simp only [g14,g13,g2,gm])|(simp only [r_,x8])|(simp only [g1])|(simp only [x1,x2,x3])|(with_reducible refine z0 (z6 _ _ _) ?_)|(with_reducible refine z0 h2 ?_)|(with_reducible refine z0 h4 ?_)|(with_reducible refine z0 h6 ?_)|(with_reducible refine z0 h12 ?_)|(with_reducible refine z0 h16 ?_)|(with_reducible refine z0 hr ?_)|(with_reducible refine z0 hs ?_))|refine auD ?_|(refine auW ?_ ?_<;>intro h<;>try exact auH)|(first|(refine z7 (by simp only [z5,List.length_take,List.length_drop];omega) ?_)|(refine z7 (by omega) ?_)|fail)
  all_goals try exact auP
  all_goals refine auV ?_
  all_goals try exact z8
  all_goals try simp only [hsM] at *
  all_goals rfl
 by_cases hS:zL (ya (s.take (hN s)))=65535
 rotate_left 1
 ·have hre:zU s=5:=by unfold zU;rw [if_neg (by omega),if_neg (by omega),if_neg (not_not_intro hE),if_pos hS]
  rw [xy hre (by decide)]
  clear hre
  rw [hE] at hr
  clear hE
  try generalize (pW (rdP s)).1=T at *
  unfold rdP at hr
  generalize zL (ya (s.take (hN s)))=c at *
  generalize hN s=n at *
  generalize z3 s 2=al at *
  generalize z3 s 6=F at *
  refine z4 {} 0 Tryz.func123 fun Γ hW=>auC ?_
  repeat' first|refine auS ?_|(first|(simp only [z5,zj,Int.toNat_natCast])|(simp only [c0,c15,c4,cm,cw,cs])|(simp only [c1,c8,c9])|(simp only [m4,m15])|(simp only [m14,m13])|(simp only [f15])|(simp only [f14,f13])|(simp only [g14,g13,g2,gm])|(simp only [r_,x8])|(simp only [g1])|(simp only [x1,x2,x3])|(with_reducible refine z0 (z6 _ _ _) ?_)|(with_reducible refine z0 h2 ?_)|(with_reducible refine z0 h4 ?_)|(with_reducible refine z0 h6 ?_)|(with_reducible refine z0 h12 ?_)|(with_reducible refine z0 h16 ?_)|(with_reducible refine z0 hr ?_)|(with_reducible refine z0 hs ?_))|refine auD ?_|(refine auW ?_ ?_<;>intro h<;>try exact auH)|(first|(refine z7 (by simp only [z5,List.length_take,List.length_drop];omega) ?_)|(refine z7 (by omega) ?_)|fail)
  all_goals try exact auP
  all_goals refine auV ?_
  all_goals try exact z8
  all_goals try simp only [hsM] at *
  all_goals rfl
 ·have hre0:zU s=0:=by unfold zU;rw [if_neg (by omega),if_neg (by omega),if_neg (not_not_intro hE),if_neg (not_not_intro hS)]
  have hre:rpR s=(rdP s,0):=by unfold rpR;rw [hre0,if_pos rfl]
  clear hre0
  rw [hre]
  clear hre
  rw [hE] at hr
  rw [hS] at hs
  clear hE hS
  try generalize (pW (rdP s)).1=T at *
  unfold rdP at hr ⊢
  generalize hN s=n at *
  generalize z3 s 2=al at *
  generalize z3 s 6=F at *
  refine z4 {} 0 Tryz.func123 fun Γ hW=>auC ?_
  repeat' first|refine auS ?_|(first|(simp only [z5,zj,Int.toNat_natCast])|(simp only [c0,c15,c4,cm,cw,cs])|(simp only [c1,c8,c9])|(simp only [m4,m15])|(simp only [m14,m13])|(simp only [f15])|(simp only [f14,f13])|(simp only [g14,g13,g2,gm])|(simp only [r_,x8])|(simp only [g1])|(simp only [x1,x2,x3])|(with_reducible refine z0 (z6 _ _ _) ?_)|(with_reducible refine z0 h2 ?_)|(with_reducible refine z0 h4 ?_)|(with_reducible refine z0 h6 ?_)|(with_reducible refine z0 h12 ?_)|(with_reducible refine z0 h16 ?_)|(with_reducible refine z0 hr ?_)|(with_reducible refine z0 hs ?_))|refine auD ?_|(refine auW ?_ ?_<;>intro h<;>try exact auH)|(first|(refine z7 (by simp only [z5,List.length_take,List.length_drop];omega) ?_)|(refine z7 (by omega) ?_)|fail)
  all_goals try exact auP
  all_goals refine auV ?_
  all_goals try exact z8
  all_goals try simp only [hsM] at *
  all_goals rfl
end Go.Proofs.YtmibknbmhcnemaaGreatDoor
