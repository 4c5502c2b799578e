import Derived.Test.YtmibknbmhcnemaaGreatDoorHb34
set_option linter.unusedVariables false
set_option linter.unusedSimpArgs false
namespace Go.Proofs.YtmibknbmhcnemaaGreatDoor
attribute [local irreducible] zF Go
set_option maxRecDepth 100000
set_option maxHeartbeats 4000000 in
theorem jM (s:List UInt8) (a port:Int) (hs:s.length≤140737488351232) (h1:(edR s).2=0) (h3:0≤port∧port≤65535) (hab:0≤a∧a<4294967296):zd Tryz.prog 87 [.v (.string (mkS s)),.v (.int .u32 a),.v (.int .i64 port),.v (.bool true)] (.tup [.v (.string (mkS (rnR s a port 12 0).1)),.v (.int .i64 (rnR s a port 12 0).2)]):=by
 have he:=tN s hs
 obtain ⟨⟨n0,n1⟩,hLs,-,hp,hck,hed,hNe⟩:=ZL h1
 have hre:rnR s a port 12 0=((rnW s (hN s) (bN s 9:Nat) a port 12 0).take (pL s),0):=by unfold rnR;rw [if_neg (not_not_intro h1),if_neg (not_not_intro h3)]
 have hes:edR s=(⟨yZ s 12,yZ s 16,(bN s 9:Nat),z3 s (hN s),z3 s (hN s+2)⟩,0):=by rw [←hed,←h1]
 rw [hes] at he
 clear hes hed h1
 have h2:=zp s 2 (by omega) (by omega) 2 rfl
 have b2:=zh s 2
 rw [show z3 s 2=((pL s:Nat):Int) by unfold pL;omega] at h2
 have b0:=yg s 0
 have c0:IntKind.i64.wrap (bN s 0:Nat)=(bN s 0:Nat):=IntWalk.i64_in _ (by omega)
 have c4:((bN s 0:Nat):Int).tmod 16=((bN s 0 % 16:Nat):Int):=(Int.ofNat_tmod _ 16).symm
 have cs:IntKind.i64.wrap (4*((bN s 0 % 16:Nat):Int))=((hN s:Nat):Int):=by rw [hNe,IntWalk.i64_in _ (by omega)];omega
 have bA:=zh s 12
 have bA2:=zh s (12+2)
 have bT:=zh s 10
 have bO:=zh s (hN s+0)
 have lgE:yZ s 12=65536*z3 s 12+z3 s (12+2):=rfl
 have k1:IntKind.i64.wrap (yZ s 12)=yZ s 12:=IntWalk.i64_in _ (by omega)
 have k2:IntKind.i64.wrap ((yZ s 12).tdiv 65536)=z3 s 12:=by rw [Int.tdiv_eq_ediv_of_nonneg (by omega),IntWalk.i64_in _ (by omega)];omega
 have k3:(yZ s 12).tmod 65536=z3 s (12+2):=by rw [Int.tmod_eq_emod_of_nonneg (by omega)];omega
 have k4:IntKind.i64.wrap a=a:=IntWalk.i64_in _ (by omega)
 have k5:IntKind.i64.wrap (a.tdiv 65536)=a / 65536:=by rw [Int.tdiv_eq_ediv_of_nonneg (by omega),IntWalk.i64_in _ (by omega)]
 have k6:a.tmod 65536=a % 65536:=Int.tmod_eq_emod_of_nonneg (by omega)
 have e18:IntKind.i64.wrap (16+2)=18:=by decide
 have e8:IntKind.i64.wrap (6+2)=8:=by decide
 have w10:=zp (s.take (hN s)) 10 (by simp;omega) (by simp;omega) 10 rfl
 rw [uJ s _ 10 (by omega)] at w10
 have x1:(mkS s).extract 0 (hN s)=mkS (s.take (hN s)):=xtE _ _
 have x2:(mkS s).extract (hN s) (pL s)=mkS ((s.drop (hN s)).take (pL s-hN s)):=zS _ _ _
 have hf1:=fun n=>ZR (z3 s 10) (z3 s 12) (a / 65536) (z3 s (12+2)) (a % 65536) true 1 n (by intro x hx;simp only [List.mem_cons,List.not_mem_nil,or_false] at hx;omega) bT
 have hbt:=pD 4 [z3 s 12,a / 65536,z3 s (12+2),a % 65536] (z3 s 10) (Nat.le_refl _) (by intro x hx;simp only [List.mem_cons,List.not_mem_nil,or_false] at hx;omega) bT
 have hT:uA (z3 s 10) [z3 s 12,a / 65536,z3 s (12+2),a % 65536]=rnT s a 12:=rfl
 rw [hT] at hbt
 rw [hT] at hf1
 have ht:=zC (rnT s a 12) hbt.1
 have hq:=zC port h3.1
 have ha:=uI a hab.1 hab.2
 have hfin:=ZC s (hN s) (ckI (bN s 9:Nat)) (bN s 9:Nat) a port 12 0 (pL s) _ _ rfl rfl rfl n0 hck hLs (.inl ⟨rfl,rfl⟩)
 have ld:(s.take (hN s)).length=hN s:=by simp;omega
 have lb:((s.drop (hN s)).take (pL s-hN s)).length=pL s-hN s:=by simp;omega
 have wdi:∀i,i+1<pL s-hN s→z3 ((s.drop (hN s)).take (pL s-hN s)) i=z3 s (hN s+i):=fun i hi=>by rw [uJ _ _ _ hi,uv]
 generalize s.take (hN s)=hd at *
 generalize (s.drop (hN s)).take (pL s-hN s)=bd at *
 have hck6:6≤ckI (bN s 9:Nat):=by unfold ckI;split<;>omega
 have x3:(mkS hd).extract 12 16=mkS ((hd.drop 12).take 4):=zS _ _ _
 obtain ⟨A,hA⟩:∃A,(hd.take 10++wd (rnT s a 12)++lg a++hd.drop 16)=A:=⟨_,rfl⟩
 obtain ⟨B,hB⟩:∃B,(wd port++bd.drop 2)=B:=⟨_,rfl⟩
 have hAp:yo (yo (yo hd 10 (rnT s a 12)) 12 (a / 65536)) (12+2) (a % 65536)=A:=(VQ hd (rnT s a 12) a (by omega)).symm.trans hA
 have hBp:yo bd 0 port=B:=(x6 bd 0 port (by omega)).symm.trans hB
 have lA:A.length=hN s:=by rw [←hAp];simp only [zG];exact ld
 have lB:B.length=pL s-hN s:=by rw [←hBp,zG,lb]
 have eB:z3 B (ckI (bN s 9:Nat))=z3 s (hN s+ckI (bN s 9:Nat)):=by rw [←hBp,wR _ _ _ _ (by omega) (by omega),wdi _ (by omega)]
 rw [hAp,hBp] at hfin
 clear hAp hBp wdi
 generalize ((bN s 9:Nat):Int)=p at *
 have bC:=zh s (hN s+ckI p)
 have hf2:=fun fu n=>ZF (z3 s (hN s+ckI p)) (z3 s 12) (a / 65536) (z3 s (12+2)) (a % 65536) (z3 s (hN s+0)) port fu 3 n (by intro x hx;simp only [List.mem_cons,List.not_mem_nil,or_false] at hx;omega) bC
 have hcb:=pD 6 [z3 s 12,a / 65536,z3 s (12+2),a % 65536,z3 s (hN s+0),port] (z3 s (hN s+ckI p)) (Nat.le_refl _) (by intro x hx;simp only [List.mem_cons,List.not_mem_nil,or_false] at hx;omega) bC
 have hC:rnC s (hN s) p a port 12 0=if p=6∨0<z3 s (hN s+ckI p) then noZ p (uA (z3 s (hN s+ckI p)) [z3 s 12,a / 65536,z3 s (12+2),a % 65536,z3 s (hN s+0),port]) else z3 s (hN s+ckI p):=rfl
 rw [hC] at hfin
 clear hC hT
 generalize uA (z3 s (hN s+ckI p)) [z3 s 12,a / 65536,z3 s (12+2),a % 65536,z3 s (hN s+0),port]=C at *
 generalize rnT s a 12=T at *
 rcases hp with rfl|rfl
 ·have hk:ckI 6=16:=rfl
  rw [hk] at eB hck hfin hck6 hf2 bC
  have wB:=zp B 16 (by omega) (by omega) 16 rfl
  rw [eB] at wB
  rw [if_pos (.inl rfl),pu (by omega)] at hfin
  have hc:=zC C (by omega)
  have hcat:=x6 B 16 C (by omega)
  rw [←hcat,←List.append_assoc,←List.append_assoc] at hfin
  rw [hre,←hfin]
  clear hre hfin hcat
  refine z4 {} 0 Tryz.func87 fun Γ hW=>auC ?_
  repeat' first|refine auS ?_|(first|(simp only [z5,zj,zf,Int.toNat_natCast])|(simp only [c0,c4,cs])|(simp only [x1,x2])|(simp only [k1,k2,k3,k4,k5,k6])|(simp only [xtE])|(simp only [xdE])|(simp only [x3])|(simp only [hA])|(simp only [hB])|(simp only [e18,e8])|(simp only [List.cons_append,List.nil_append])|(with_reducible refine yz ?_)|(with_reducible refine z0 (z6 _ _ _) ?_)|(with_reducible refine z0 he ?_)|(with_reducible refine z0 h2 ?_)|(with_reducible refine z0 w10 ?_)|(with_reducible refine z0 ht ?_)|(with_reducible refine z0 hq ?_)|(with_reducible refine z0 ha ?_)|(with_reducible refine z0 wB ?_)|(with_reducible refine z0 hc ?_)|((with_reducible refine z9 1 ?_ (hf1 _) (fun _ _ _ h=>h) ?_);(exact rfl))|((with_reducible refine z9 3 ?_ (hf2 _ _) (fun _ _ _ h=>h) ?_);(exact rfl)))|refine auD ?_|(refine auW ?_ ?_<;>intro h<;>try exact auH)|(first|(refine z7 (by simp only [z5,List.length_append,List.length_take,List.length_drop,zE,zW];omega) ?_)|(refine z7 (by omega) ?_)|(refine z7 ⟨.inl (by decide),trivial,trivial,by unfold zZ maxLen;decide⟩ ?_)|fail)
  all_goals try exact auP
  all_goals first
   |(exfalso;simp_all;done)
   |skip
  all_goals refine auV ?_
  all_goals try exact z8
  all_goals try simp only [hsM] at *
  all_goals rfl
 ·have hk:ckI 17=6:=rfl
  rw [hk] at eB hck hfin hck6 hf2 bC
  have wB:=zp B 6 (by omega) (by omega) 6 rfl
  rw [eB] at wB
  generalize z3 s (hN s+6)=w at *
  by_cases hw:w=0
  ·subst hw
   rw [if_neg (by omega)] at hfin
   have hc:=zC 0 (by omega)
   have hcat:=x6 B 6 0 (by omega)
   rw [←hcat,←List.append_assoc,←List.append_assoc] at hfin
   rw [hre,←hfin]
   clear hre hfin hcat
   refine z4 {} 0 Tryz.func87 fun Γ hW=>auC ?_
   repeat' first|refine auS ?_|(first|(simp only [z5,zj,zf,Int.toNat_natCast])|(simp only [c0,c4,cs])|(simp only [x1,x2])|(simp only [k1,k2,k3,k4,k5,k6])|(simp only [xtE])|(simp only [xdE])|(simp only [x3])|(simp only [hA])|(simp only [hB])|(simp only [e18,e8])|(simp only [List.cons_append,List.nil_append])|(with_reducible refine yz ?_)|(with_reducible refine z0 (z6 _ _ _) ?_)|(with_reducible refine z0 he ?_)|(with_reducible refine z0 h2 ?_)|(with_reducible refine z0 w10 ?_)|(with_reducible refine z0 ht ?_)|(with_reducible refine z0 hq ?_)|(with_reducible refine z0 ha ?_)|(with_reducible refine z0 wB ?_)|(with_reducible refine z0 hc ?_)|((with_reducible refine z9 1 ?_ (hf1 _) (fun _ _ _ h=>h) ?_);(exact rfl))|((with_reducible refine z9 3 ?_ (hf2 _ _) (fun _ _ _ h=>h) ?_);(exact rfl)))|refine auD ?_|(refine auW ?_ ?_<;>intro h<;>try exact auH)|(first|(refine z7 (by simp only [z5,List.length_append,List.length_take,List.length_drop,zE,zW];omega) ?_)|(refine z7 (by omega) ?_)|(refine z7 ⟨.inl (by decide),trivial,trivial,by unfold zZ maxLen;decide⟩ ?_)|fail)
   all_goals try exact auP
   all_goals first
    |(exfalso;simp_all;done)
    |skip
   all_goals refine auV ?_
   all_goals try exact z8
   all_goals try simp only [hsM] at *
   all_goals rfl
  ·rw [if_pos (by omega)] at hfin
   by_cases hz:C=0
   ·subst hz
    rw [iy ⟨rfl,rfl⟩] at hfin
    have hc:=zC 65535 (by omega)
    have hcat:=x6 B 6 65535 (by omega)
    rw [←hcat,←List.append_assoc,←List.append_assoc] at hfin
    rw [hre,←hfin]
    clear hre hfin hcat
    refine z4 {} 0 Tryz.func87 fun Γ hW=>auC ?_
    repeat' first|refine auS ?_|(first|(simp only [z5,zj,zf,Int.toNat_natCast])|(simp only [c0,c4,cs])|(simp only [x1,x2])|(simp only [k1,k2,k3,k4,k5,k6])|(simp only [xtE])|(simp only [xdE])|(simp only [x3])|(simp only [hA])|(simp only [hB])|(simp only [e18,e8])|(simp only [List.cons_append,List.nil_append])|(with_reducible refine yz ?_)|(with_reducible refine z0 (z6 _ _ _) ?_)|(with_reducible refine z0 he ?_)|(with_reducible refine z0 h2 ?_)|(with_reducible refine z0 w10 ?_)|(with_reducible refine z0 ht ?_)|(with_reducible refine z0 hq ?_)|(with_reducible refine z0 ha ?_)|(with_reducible refine z0 wB ?_)|(with_reducible refine z0 hc ?_)|((with_reducible refine z9 1 ?_ (hf1 _) (fun _ _ _ h=>h) ?_);(exact rfl))|((with_reducible refine z9 3 ?_ (hf2 _ _) (fun _ _ _ h=>h) ?_);(exact rfl)))|refine auD ?_|(refine auW ?_ ?_<;>intro h<;>try exact auH)|(first|(refine z7 (by simp only [z5,List.length_append,List.length_take,List.length_drop,zE,zW];omega) ?_)|(refine z7 (by omega) ?_)|(refine z7 ⟨.inl (by decide),trivial,trivial,by unfold zZ maxLen;decide⟩ ?_)|fail)
    all_goals try exact auP
    all_goals first
     |(exfalso;simp_all;done)
     |skip
    all_goals refine auV ?_
    all_goals try exact z8
    all_goals try simp only [hsM] at *
    all_goals rfl
   ·rw [pu (by omega)] at hfin
    have hc:=zC C (by omega)
    have hcat:=x6 B 6 C (by omega)
    rw [←hcat,←List.append_assoc,←List.append_assoc] at hfin
    rw [hre,←hfin]
    clear hre hfin hcat
    refine z4 {} 0 Tryz.func87 fun Γ hW=>auC ?_
    repeat' first|refine auS ?_|(first|(simp only [z5,zj,zf,Int.toNat_natCast])|(simp only [c0,c4,cs])|(simp only [x1,x2])|(simp only [k1,k2,k3,k4,k5,k6])|(simp only [xtE])|(simp only [xdE])|(simp only [x3])|(simp only [hA])|(simp only [hB])|(simp only [e18,e8])|(simp only [List.cons_append,List.nil_append])|(with_reducible refine yz ?_)|(with_reducible refine z0 (z6 _ _ _) ?_)|(with_reducible refine z0 he ?_)|(with_reducible refine z0 h2 ?_)|(with_reducible refine z0 w10 ?_)|(with_reducible refine z0 ht ?_)|(with_reducible refine z0 hq ?_)|(with_reducible refine z0 ha ?_)|(with_reducible refine z0 wB ?_)|(with_reducible refine z0 hc ?_)|((with_reducible refine z9 1 ?_ (hf1 _) (fun _ _ _ h=>h) ?_);(exact rfl))|((with_reducible refine z9 3 ?_ (hf2 _ _) (fun _ _ _ h=>h) ?_);(exact rfl)))|refine auD ?_|(refine auW ?_ ?_<;>intro h<;>try exact auH)|(first|(refine z7 (by simp only [z5,List.length_append,List.length_take,List.length_drop,zE,zW];omega) ?_)|(refine z7 (by omega) ?_)|(refine z7 ⟨.inl (by decide),trivial,trivial,by unfold zZ maxLen;decide⟩ ?_)|fail)
    all_goals try exact auP
    all_goals first
     |(exfalso;simp_all;done)
     |skip
    all_goals refine auV ?_
    all_goals try exact z8
    all_goals try simp only [hsM] at *
    all_goals rfl
set_option maxHeartbeats 4000000 in
theorem fP (s:List UInt8) (a port:Int) (hs:s.length≤140737488351232) (h1:(edR s).2=0) (h3:0≤port∧port≤65535) (hab:0≤a∧a<4294967296):zd Tryz.prog 87 [.v (.string (mkS s)),.v (.int .u32 a),.v (.int .i64 port),.v (.bool false)] (.tup [.v (.string (mkS (rnR s a port 16 2).1)),.v (.int .i64 (rnR s a port 16 2).2)]):=by
 have he:=tN s hs
 obtain ⟨⟨n0,n1⟩,hLs,-,hp,hck,hed,hNe⟩:=ZL h1
 have hre:rnR s a port 16 2=((rnW s (hN s) (bN s 9:Nat) a port 16 2).take (pL s),0):=by unfold rnR;rw [if_neg (not_not_intro h1),if_neg (not_not_intro h3)]
 have hes:edR s=(⟨yZ s 12,yZ s 16,(bN s 9:Nat),z3 s (hN s),z3 s (hN s+2)⟩,0):=by rw [←hed,←h1]
 rw [hes] at he
 clear hes hed h1
 have h2:=zp s 2 (by omega) (by omega) 2 rfl
 have b2:=zh s 2
 rw [show z3 s 2=((pL s:Nat):Int) by unfold pL;omega] at h2
 have b0:=yg s 0
 have c0:IntKind.i64.wrap (bN s 0:Nat)=(bN s 0:Nat):=IntWalk.i64_in _ (by omega)
 have c4:((bN s 0:Nat):Int).tmod 16=((bN s 0 % 16:Nat):Int):=(Int.ofNat_tmod _ 16).symm
 have cs:IntKind.i64.wrap (4*((bN s 0 % 16:Nat):Int))=((hN s:Nat):Int):=by rw [hNe,IntWalk.i64_in _ (by omega)];omega
 have bA:=zh s 16
 have bA2:=zh s (16+2)
 have bT:=zh s 10
 have bO:=zh s (hN s+2)
 have lgE:yZ s 16=65536*z3 s 16+z3 s (16+2):=rfl
 have k1:IntKind.i64.wrap (yZ s 16)=yZ s 16:=IntWalk.i64_in _ (by omega)
 have k2:IntKind.i64.wrap ((yZ s 16).tdiv 65536)=z3 s 16:=by rw [Int.tdiv_eq_ediv_of_nonneg (by omega),IntWalk.i64_in _ (by omega)];omega
 have k3:(yZ s 16).tmod 65536=z3 s (16+2):=by rw [Int.tmod_eq_emod_of_nonneg (by omega)];omega
 have k4:IntKind.i64.wrap a=a:=IntWalk.i64_in _ (by omega)
 have k5:IntKind.i64.wrap (a.tdiv 65536)=a / 65536:=by rw [Int.tdiv_eq_ediv_of_nonneg (by omega),IntWalk.i64_in _ (by omega)]
 have k6:a.tmod 65536=a % 65536:=Int.tmod_eq_emod_of_nonneg (by omega)
 have e18:IntKind.i64.wrap (16+2)=18:=by decide
 have e8:IntKind.i64.wrap (6+2)=8:=by decide
 have w10:=zp (s.take (hN s)) 10 (by simp;omega) (by simp;omega) 10 rfl
 rw [uJ s _ 10 (by omega)] at w10
 have x1:(mkS s).extract 0 (hN s)=mkS (s.take (hN s)):=xtE _ _
 have x2:(mkS s).extract (hN s) (pL s)=mkS ((s.drop (hN s)).take (pL s-hN s)):=zS _ _ _
 have hf1:=fun n=>ZR (z3 s 10) (z3 s 16) (a / 65536) (z3 s (16+2)) (a % 65536) true 1 n (by intro x hx;simp only [List.mem_cons,List.not_mem_nil,or_false] at hx;omega) bT
 have hbt:=pD 4 [z3 s 16,a / 65536,z3 s (16+2),a % 65536] (z3 s 10) (Nat.le_refl _) (by intro x hx;simp only [List.mem_cons,List.not_mem_nil,or_false] at hx;omega) bT
 have hT:uA (z3 s 10) [z3 s 16,a / 65536,z3 s (16+2),a % 65536]=rnT s a 16:=rfl
 rw [hT] at hbt
 rw [hT] at hf1
 have ht:=zC (rnT s a 16) hbt.1
 have hq:=zC port h3.1
 have ha:=uI a hab.1 hab.2
 have hfin:=ZC s (hN s) (ckI (bN s 9:Nat)) (bN s 9:Nat) a port 16 2 (pL s) _ _ rfl rfl rfl n0 hck hLs (.inr ⟨rfl,rfl⟩)
 have ld:(s.take (hN s)).length=hN s:=by simp;omega
 have lb:((s.drop (hN s)).take (pL s-hN s)).length=pL s-hN s:=by simp;omega
 have wdi:∀i,i+1<pL s-hN s→z3 ((s.drop (hN s)).take (pL s-hN s)) i=z3 s (hN s+i):=fun i hi=>by rw [uJ _ _ _ hi,uv]
 generalize s.take (hN s)=hd at *
 generalize (s.drop (hN s)).take (pL s-hN s)=bd at *
 have hck6:6≤ckI (bN s 9:Nat):=by unfold ckI;split<;>omega
 have x3:(mkS hd).extract 12 16=mkS ((hd.drop 12).take 4):=zS _ _ _
 obtain ⟨A,hA⟩:∃A,(hd.take 10++wd (rnT s a 16)++(hd.drop 12).take 4++lg a++hd.drop 20)=A:=⟨_,rfl⟩
 obtain ⟨B,hB⟩:∃B,(bd.take 2++wd port++bd.drop 4)=B:=⟨_,rfl⟩
 have hAp:yo (yo (yo hd 10 (rnT s a 16)) 16 (a / 65536)) (16+2) (a % 65536)=A:=(VV hd (rnT s a 16) a (by omega)).symm.trans hA
 have hBp:yo bd 2 port=B:=(x6 bd 2 port (by omega)).symm.trans hB
 have lA:A.length=hN s:=by rw [←hAp];simp only [zG];exact ld
 have lB:B.length=pL s-hN s:=by rw [←hBp,zG,lb]
 have eB:z3 B (ckI (bN s 9:Nat))=z3 s (hN s+ckI (bN s 9:Nat)):=by rw [←hBp,wR _ _ _ _ (by omega) (by omega),wdi _ (by omega)]
 rw [hAp,hBp] at hfin
 clear hAp hBp wdi
 generalize ((bN s 9:Nat):Int)=p at *
 have bC:=zh s (hN s+ckI p)
 have hf2:=fun fu n=>ZF (z3 s (hN s+ckI p)) (z3 s 16) (a / 65536) (z3 s (16+2)) (a % 65536) (z3 s (hN s+2)) port fu 3 n (by intro x hx;simp only [List.mem_cons,List.not_mem_nil,or_false] at hx;omega) bC
 have hcb:=pD 6 [z3 s 16,a / 65536,z3 s (16+2),a % 65536,z3 s (hN s+2),port] (z3 s (hN s+ckI p)) (Nat.le_refl _) (by intro x hx;simp only [List.mem_cons,List.not_mem_nil,or_false] at hx;omega) bC
 have hC:rnC s (hN s) p a port 16 2=if p=6∨0<z3 s (hN s+ckI p) then noZ p (uA (z3 s (hN s+ckI p)) [z3 s 16,a / 65536,z3 s (16+2),a % 65536,z3 s (hN s+2),port]) else z3 s (hN s+ckI p):=rfl
 rw [hC] at hfin
 clear hC hT
 generalize uA (z3 s (hN s+ckI p)) [z3 s 16,a / 65536,z3 s (16+2),a % 65536,z3 s (hN s+2),port]=C at *
 generalize rnT s a 16=T at *
 rcases hp with rfl|rfl
 ·have hk:ckI 6=16:=rfl
  rw [hk] at eB hck hfin hck6 hf2 bC
  have wB:=zp B 16 (by omega) (by omega) 16 rfl
  rw [eB] at wB
  rw [if_pos (.inl rfl),pu (by omega)] at hfin
  have hc:=zC C (by omega)
  have hcat:=x6 B 16 C (by omega)
  rw [←hcat,←List.append_assoc,←List.append_assoc] at hfin
  rw [hre,←hfin]
  clear hre hfin hcat
  refine z4 {} 0 Tryz.func87 fun Γ hW=>auC ?_
  repeat' first|refine auS ?_|(first|(simp only [z5,zj,zf,Int.toNat_natCast])|(simp only [c0,c4,cs])|(simp only [x1,x2])|(simp only [k1,k2,k3,k4,k5,k6])|(simp only [xtE])|(simp only [xdE])|(simp only [x3])|(simp only [hA])|(simp only [hB])|(simp only [e18,e8])|(simp only [List.cons_append,List.nil_append])|(with_reducible refine yz ?_)|(with_reducible refine z0 (z6 _ _ _) ?_)|(with_reducible refine z0 he ?_)|(with_reducible refine z0 h2 ?_)|(with_reducible refine z0 w10 ?_)|(with_reducible refine z0 ht ?_)|(with_reducible refine z0 hq ?_)|(with_reducible refine z0 ha ?_)|(with_reducible refine z0 wB ?_)|(with_reducible refine z0 hc ?_)|((with_reducible refine z9 1 ?_ (hf1 _) (fun _ _ _ h=>h) ?_);(exact rfl))|((with_reducible refine z9 3 ?_ (hf2 _ _) (fun _ _ _ h=>h) ?_);(exact rfl)))|refine auD ?_|(refine auW ?_ ?_<;>intro h<;>try exact auH)|(first|(refine z7 (by simp only [z5,List.length_append,List.length_take,List.length_drop,zE,zW];omega) ?_)|(refine z7 (by omega) ?_)|(refine z7 ⟨.inl (by decide),trivial,trivial,by unfold zZ maxLen;decide⟩ ?_)|fail)
  all_goals try exact auP
  all_goals first
   |(exfalso;simp_all;done)
   |skip
  all_goals refine auV ?_
  all_goals try exact z8
  all_goals try simp only [hsM] at *
  all_goals rfl
 ·have hk:ckI 17=6:=rfl
  rw [hk] at eB hck hfin hck6 hf2 bC
  have wB:=zp B 6 (by omega) (by omega) 6 rfl
  rw [eB] at wB
  generalize z3 s (hN s+6)=w at *
  by_cases hw:w=0
  ·subst hw
   rw [if_neg (by omega)] at hfin
   have hc:=zC 0 (by omega)
   have hcat:=x6 B 6 0 (by omega)
   rw [←hcat,←List.append_assoc,←List.append_assoc] at hfin
   rw [hre,←hfin]
   clear hre hfin hcat
   refine z4 {} 0 Tryz.func87 fun Γ hW=>auC ?_
   repeat' first|refine auS ?_|(first|(simp only [z5,zj,zf,Int.toNat_natCast])|(simp only [c0,c4,cs])|(simp only [x1,x2])|(simp only [k1,k2,k3,k4,k5,k6])|(simp only [xtE])|(simp only [xdE])|(simp only [x3])|(simp only [hA])|(simp only [hB])|(simp only [e18,e8])|(simp only [List.cons_append,List.nil_append])|(with_reducible refine yz ?_)|(with_reducible refine z0 (z6 _ _ _) ?_)|(with_reducible refine z0 he ?_)|(with_reducible refine z0 h2 ?_)|(with_reducible refine z0 w10 ?_)|(with_reducible refine z0 ht ?_)|(with_reducible refine z0 hq ?_)|(with_reducible refine z0 ha ?_)|(with_reducible refine z0 wB ?_)|(with_reducible refine z0 hc ?_)|((with_reducible refine z9 1 ?_ (hf1 _) (fun _ _ _ h=>h) ?_);(exact rfl))|((with_reducible refine z9 3 ?_ (hf2 _ _) (fun _ _ _ h=>h) ?_);(exact rfl)))|refine auD ?_|(refine auW ?_ ?_<;>intro h<;>try exact auH)|(first|(refine z7 (by simp only [z5,List.length_append,List.length_take,List.length_drop,zE,zW];omega) ?_)|(refine z7 (by omega) ?_)|(refine z7 ⟨.inl (by decide),trivial,trivial,by unfold zZ maxLen;decide⟩ ?_)|fail)
   all_goals try exact auP
   all_goals first
    |(exfalso;simp_all;done)
    |skip
   all_goals refine auV ?_
   all_goals try exact z8
   all_goals try simp only [hsM] at *
   all_goals rfl
  ·rw [if_pos (by omega)] at hfin
   by_cases hz:C=0
   ·subst hz
    rw [iy ⟨rfl,rfl⟩] at hfin
    have hc:=zC 65535 (by omega)
    have hcat:=x6 B 6 65535 (by omega)
    rw [←hcat,←List.append_assoc,←List.append_assoc] at hfin
    rw [hre,←hfin]
    clear hre hfin hcat
    refine z4 {} 0 Tryz.func87 fun Γ hW=>auC ?_
    repeat' first|refine auS ?_|(first|(simp only [z5,zj,zf,Int.toNat_natCast])|(simp only [c0,c4,cs])|(simp only [x1,x2])|(simp only [k1,k2,k3,k4,k5,k6])|(simp only [xtE])|(simp only [xdE])|(simp only [x3])|(simp only [hA])|(simp only [hB])|(simp only [e18,e8])|(simp only [List.cons_append,List.nil_append])|(with_reducible refine yz ?_)|(with_reducible refine z0 (z6 _ _ _) ?_)|(with_reducible refine z0 he ?_)|(with_reducible refine z0 h2 ?_)|(with_reducible refine z0 w10 ?_)|(with_reducible refine z0 ht ?_)|(with_reducible refine z0 hq ?_)|(with_reducible refine z0 ha ?_)|(with_reducible refine z0 wB ?_)|(with_reducible refine z0 hc ?_)|((with_reducible refine z9 1 ?_ (hf1 _) (fun _ _ _ h=>h) ?_);(exact rfl))|((with_reducible refine z9 3 ?_ (hf2 _ _) (fun _ _ _ h=>h) ?_);(exact rfl)))|refine auD ?_|(refine auW ?_ ?_<;>intro h<;>try exact auH)|(first|(refine z7 (by simp only [z5,List.length_append,List.length_take,List.length_drop,zE,zW];omega) ?_)|(refine z7 (by omega) ?_)|(refine z7 ⟨.inl (by decide),trivial,trivial,by unfold zZ maxLen;decide⟩ ?_)|fail)
    all_goals try exact auP
    all_goals first
     |(exfalso;simp_all;done)
     |skip
    all_goals refine auV ?_
    all_goals try exact z8
    all_goals try simp only [hsM] at *
    all_goals rfl
   ·rw [pu (by omega)] at hfin
    have hc:=zC C (by omega)
    have hcat:=x6 B 6 C (by omega)
    rw [←hcat,←List.append_assoc,←List.append_assoc] at hfin
    rw [hre,←hfin]
    clear hre hfin hcat
    refine z4 {} 0 Tryz.func87 fun Γ hW=>auC ?_
    repeat' first|refine auS ?_|(first|(simp only [z5,zj,zf,Int.toNat_natCast])|(simp only [c0,c4,cs])|(simp only [x1,x2])|(simp only [k1,k2,k3,k4,k5,k6])|(simp only [xtE])|(simp only [xdE])|(simp only [x3])|(simp only [hA])|(simp only [hB])|(simp only [e18,e8])|(simp only [List.cons_append,List.nil_append])|(with_reducible refine yz ?_)|(with_reducible refine z0 (z6 _ _ _) ?_)|(with_reducible refine z0 he ?_)|(with_reducible refine z0 h2 ?_)|(with_reducible refine z0 w10 ?_)|(with_reducible refine z0 ht ?_)|(with_reducible refine z0 hq ?_)|(with_reducible refine z0 ha ?_)|(with_reducible refine z0 wB ?_)|(with_reducible refine z0 hc ?_)|((with_reducible refine z9 1 ?_ (hf1 _) (fun _ _ _ h=>h) ?_);(exact rfl))|((with_reducible refine z9 3 ?_ (hf2 _ _) (fun _ _ _ h=>h) ?_);(exact rfl)))|refine auD ?_|(refine auW ?_ ?_<;>intro h<;>try exact auH)|(first|(refine z7 (by simp only [z5,List.length_append,List.length_take,List.length_drop,zE,zW];omega) ?_)|(refine z7 (by omega) ?_)|(refine z7 ⟨.inl (by decide),trivial,trivial,by unfold zZ maxLen;decide⟩ ?_)|fail)
    all_goals try exact auP
    all_goals first
     |(exfalso;simp_all;done)
     |skip
    all_goals refine auV ?_
    all_goals try exact z8
    all_goals try simp only [hsM] at *
    all_goals rfl
end Go.Proofs.YtmibknbmhcnemaaGreatDoor
