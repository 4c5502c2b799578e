import Derived.Test.YtmibknbmhcnemaaGreatDoorHb23
set_option linter.unusedVariables false
set_option linter.unusedSimpArgs false
namespace Go.Proofs.YtmibknbmhcnemaaGreatDoor.H
attribute [local irreducible] zF Go
set_option maxRecDepth 100000
theorem lF (c o n:Int) (hc:0≤c∧c≤65535) (ho:0≤o∧o≤65535) (hn:0≤n∧n≤65535):zd Tryz.prog 101 [.v (.int .u16 c),.v (.int .u16 o),.v (.int .u16 n)] (.v (.int .u16 (65535-zL (65535-c+(65535-o)+n)))):=by
 have x1:bits .xor .u16 IntKind.u16.max c=65535-c:=vb c hc.1 hc.2
 have x2:bits .xor .u16 IntKind.u16.max o=65535-o:=vb o ho.1 ho.2
 have w1:IntKind.u64.wrap (65535-c)=65535-c:=yk _ (by omega) (by omega)
 have w2:IntKind.u64.wrap (65535-o)=65535-o:=yk _ (by omega) (by omega)
 have w3:IntKind.u64.wrap n=n:=yk _ (by omega) (by omega)
 have w4:IntKind.u64.wrap (65535-c+(65535-o))=65535-c+(65535-o):=yk _ (by omega) (by omega)
 have w5:IntKind.u64.wrap (65535-c+(65535-o)+n)=65535-c+(65535-o)+n:=yk _ (by omega) (by omega)
 have hf:=rN (65535-c+(65535-o)+n) (by omega) (by omega)
 have hb:=xE (65535-c+(65535-o)+n) (by omega)
 have x3:=vb (zL (65535-c+(65535-o)+n)) hb.1 hb.2
 refine z4 {} 0 Tryz.func101 fun Γ hW=>auC ?_
 repeat' first|refine auS ?_|(first|(simp only [show IntKind.u16.signed=false from rfl,x1,x2,w1,w2,w3,w4,w5])|(with_reducible refine z0 hf ?_))|refine auD ?_|(refine auW ?_ ?_<;>intro h<;>try exact auH)|fail
 all_goals try exact auP
 all_goals refine auV ?_
 all_goals try exact z8
 all_goals try simp only [hsM] at *
 all_goals exact zB x3
def tY (s:List UInt8):Int:=65535-zL (65535-z3 s 10+(65535-z3 s 8)+(z3 s 8-256))
def wK (s:List UInt8):List UInt8:=s.take 8++wd (z3 s 8-256)++wd (tY s)++(s.drop 12).take ((z3 s 2).toNat-12)
def wg (s:List UInt8):List UInt8×Int:=if ¬(rpR s).2=0 then ([],(rpR s).2) else if bN s 8<2 then ([],7) else (wK s,0)
theorem je (s:List UInt8):((rpR s).2=0∧rpR s=(rdP s,0)∧20≤s.length∧20≤z3 s 2∧z3 s 2≤s.length)∨(¬(rpR s).2=0):=by
 by_cases h:zU s=0
 ·have e:rpR s=(rdP s,0):=by unfold rpR;rw [if_pos h]
  refine .inl ⟨by rw [e],e,?_⟩
  unfold zU at h
  split at h
  ·cases h
  ·rename_i q1
   split at h
   ·cases h
   ·rename_i q2
    have q3:69≤bN s 0∧bN s 0≤79:=by
     by_cases q:69≤bN s 0∧bN s 0≤79
     ·exact q
     ·exact absurd (.inl q) q2
    have q4:¬z3 s 2<(hN s:Nat):=fun q=>q2 (.inr (.inl q))
    have q5:¬s.length<20:=fun q=>q1 (.inl q)
    have q6:¬(s.length:Int)<z3 s 2:=fun q=>q1 (.inr (.inr q))
    have q7:20≤hN s:=by unfold hN;omega
    omega
 ·refine .inr ?_
  unfold rpR
  rw [if_neg h]
  exact h
theorem Vj (s:List UInt8):z3 s 8=256*(bN s 8:Nat)+(bN s 9:Nat):=rfl
set_option maxHeartbeats 2000000 in
theorem Zs (s:List UInt8) (hl:s.length≤140737488351232):zd Tryz.prog 60 [.v (.string (mkS s))] (dSI (wg s)):=by
 have hr:=rn s (by omega)
 rcases je s with ⟨h0,he,h20,ha,hal⟩|h0
 rotate_left
 ·have hne:wg s=([],(rpR s).2):=by unfold wg;rw [if_pos h0]
  rw [hne]
  unfold dPE at hr
  generalize (rpR s).1=P at hr
  generalize (rpR s).2=E at hr h0 ⊢
  refine z4 {} 0 Tryz.func60 fun Γ hW=>auC ?_
  repeat' first|refine auS ?_|(first|(with_reducible refine z0 hr ?_))|refine auD ?_|(refine auW ?_ ?_<;>intro h<;>try exact auH)|fail
  all_goals try exact auP
  all_goals refine auV ?_
  all_goals try exact z8
  all_goals try simp only [hsM] at *
  all_goals rfl
 rw [he] at hr
 dsimp only [dPE,dP,rdP,Pk.enc] at hr
 have b8:=yg s 8
 have b9:=yg s 9
 have hw8:=zh s 8
 have hw10:=zh s 10
 have hwd:=Vj s
 unfold wg
 rw [if_neg (not_not_intro h0)]
 generalize mkS (List.take (hN s-20) (List.drop 20 s))=T1 at hr
 generalize mkS (List.take ((z3 s 2).toNat-hN s) (List.drop (hN s) s))=T2 at hr
 generalize z3 s 4=g4 at hr
 generalize z3 s 6 % 8192=g6 at hr
 generalize decide (z3 s 6 / 16384=1)=g7 at hr
 generalize decide (z3 s 6 / 8192 % 2=1)=g8 at hr
 by_cases h2:bN s 8<2
 ·rw [if_pos h2]
  refine z4 {} 0 Tryz.func60 fun Γ hW=>auC ?_
  repeat' first|refine auS ?_|(first|(with_reducible refine z0 hr ?_))|refine auD ?_|(refine auW ?_ ?_<;>intro h<;>try exact auH)|fail
  all_goals try exact auP
  all_goals refine auV ?_
  all_goals try exact z8
  all_goals try simp only [hsM] at *
  all_goals rfl
 rw [if_neg h2]
 have e8:(mkS s).extract 0 8=mkS (s.take 8):=by rw [zS];rfl
 have ew:(mkS s).extract 12 (z3 s 2).toNat=mkS ((s.drop 12).take ((z3 s 2).toNat-12)):=zS _ _ _
 have q1:=yQ s 8 (by omega) (by omega) 8 rfl
 have q2:=yQ s 10 (by omega) (by omega) 10 rfl
 have q3:=yQ s 2 (by omega) (by omega) 2 rfl
 have q4:=oN (z3 s 8-256)
 have q5:=oN (tY s)
 have w1:IntKind.u16.wrap (z3 s 8)=z3 s 8:=by rw [nO];omega
 have w2:IntKind.u16.wrap (z3 s 10)=z3 s 10:=by rw [nO];omega
 have w3:IntKind.i64.wrap (((bN s 8:Nat):Int)-1)=(bN s 8:Nat)-1:=IntWalk.i64_in _ (by omega)
 have w4:IntKind.u16.wrap (bits .or .i64 (IntKind.i64.wrap ((((bN s 8:Nat):Int)-1)*2 ^ min 8 IntKind.i64.bits)) (bN s 9:Nat))=z3 s 8-256:=by
  have m8:min 8 IntKind.i64.bits=8:=rfl
  rw [m8,IntWalk.i64_in _ (by omega),fS 8 _ _ (by omega) (by omega) (by omega) (by omega) (by omega) (by omega),nO]
  omega
 have w5:IntKind.i64.wrap (z3 s 8-256)=z3 s 8-256:=IntWalk.i64_in _ (by omega)
 have q6:=lF (z3 s 10) (z3 s 8) (z3 s 8-256) (by omega) (by omega) (by omega)
 have hcb:0≤tY s∧tY s≤65535:=by
  have:=xE (65535-z3 s 10+(65535-z3 s 8)+(z3 s 8-256)) (by omega)
  unfold tY
  omega
 have w6:IntKind.i64.wrap (tY s)=tY s:=IntWalk.i64_in _ (by omega)
 have w7:=w6
 have q7:=q6
 unfold wK
 change zd Tryz.prog _ _ (.v (.int .u16 (tY s))) at q6
 generalize tY s=C at *
 generalize z3 s 2=al at *
 generalize z3 s 10=c10 at *
 refine z4 {} 0 Tryz.func60 fun Γ hW=>auC ?_
 repeat' first|refine auS ?_|(first|(simp only [zf,e8,ew,w1,w2,w3,w4,w5,w6,w7])|(with_reducible refine z0 hr ?_)|(with_reducible refine z0 q1 ?_)|(with_reducible refine z0 q2 ?_)|(with_reducible refine z0 q3 ?_)|(with_reducible refine z0 q4 ?_)|(with_reducible refine z0 q5 ?_)|(with_reducible refine z0 q6 ?_)|(with_reducible refine z0 q7 ?_))|refine auD ?_|(refine auW ?_ ?_<;>intro h<;>try exact auH)|(first|(refine z7 (by simp only [z5,List.length_take,List.length_drop,List.length_append,zE];omega) ?_)|(refine z7 (by omega) ?_)|fail)
 all_goals try exact auP
 all_goals refine auV ?_
 all_goals try exact z8
 all_goals try simp only [hsM] at *
set_option maxHeartbeats 2000000 in
theorem gD (s:List UInt8) (hl:s.length≤140737488351232):zd Tryz.prog 81 [.v (.string (mkS s))] (dSI (wg s)):=by
 have hr:=sX s (by omega)
 rcases je s with ⟨h0,he,h20,ha,hal⟩|h0
 rotate_left
 ·have hne:wg s=([],(rpR s).2):=by unfold wg;rw [if_pos h0]
  rw [hne]
  unfold dPE at hr
  generalize (rpR s).1=P at hr
  generalize (rpR s).2=E at hr h0 ⊢
  refine z4 {} 0 Tryz.func81 fun Γ hW=>auC ?_
  repeat' first|refine auS ?_|(first|(with_reducible refine z0 hr ?_))|refine auD ?_|(refine auW ?_ ?_<;>intro h<;>try exact auH)|fail
  all_goals try exact auP
  all_goals refine auV ?_
  all_goals try exact z8
  all_goals try simp only [hsM] at *
  all_goals rfl
 rw [he] at hr
 dsimp only [dPE,dP,rdP,Pk.enc] at hr
 have b8:=yg s 8
 have b9:=yg s 9
 have hw8:=zh s 8
 have hw10:=zh s 10
 have hwd:=Vj s
 unfold wg
 rw [if_neg (not_not_intro h0)]
 generalize mkS (List.take (hN s-20) (List.drop 20 s))=T1 at hr
 generalize mkS (List.take ((z3 s 2).toNat-hN s) (List.drop (hN s) s))=T2 at hr
 generalize z3 s 4=g4 at hr
 generalize z3 s 6 % 8192=g6 at hr
 generalize decide (z3 s 6 / 16384=1)=g7 at hr
 generalize decide (z3 s 6 / 8192 % 2=1)=g8 at hr
 by_cases h2:bN s 8<2
 ·rw [if_pos h2]
  refine z4 {} 0 Tryz.func81 fun Γ hW=>auC ?_
  repeat' first|refine auS ?_|(first|(with_reducible refine z0 hr ?_))|refine auD ?_|(refine auW ?_ ?_<;>intro h<;>try exact auH)|fail
  all_goals try exact auP
  all_goals refine auV ?_
  all_goals try exact z8
  all_goals try simp only [hsM] at *
  all_goals rfl
 rw [if_neg h2]
 have e8:(mkS s).extract 0 8=mkS (s.take 8):=by rw [zS];rfl
 have ew:(mkS s).extract 12 (z3 s 2).toNat=mkS ((s.drop 12).take ((z3 s 2).toNat-12)):=zS _ _ _
 have q1:=zp s 8 (by omega) (by omega) 8 rfl
 have q2:=zp s 10 (by omega) (by omega) 10 rfl
 have q3:=zp s 2 (by omega) (by omega) 2 rfl
 have q4:=zC (z3 s 8-256) (by omega)
 have fb:=xE (65535-z3 s 10+(65535-z3 s 8)) (by omega)
 have q6:=wn (65535-z3 s 10) (65535-z3 s 8) (by omega) (by omega)
 have q7:=wn (zL (65535-z3 s 10+(65535-z3 s 8))) (z3 s 8-256) (by omega) (by omega)
 rw [rX _ _ (by omega) (by omega)] at q7
 have hcb:0≤tY s∧tY s≤65535:=by
  have:=xE (65535-z3 s 10+(65535-z3 s 8)+(z3 s 8-256)) (by omega)
  unfold tY
  omega
 have q5:=zC (tY s) hcb.1
 have w1:IntKind.i64.wrap (z3 s 8-256)=z3 s 8-256:=IntWalk.i64_in _ (by omega)
 have w2:IntKind.i64.wrap (65535-z3 s 10)=65535-z3 s 10:=IntWalk.i64_in _ (by omega)
 have w3:IntKind.i64.wrap (65535-z3 s 8)=65535-z3 s 8:=IntWalk.i64_in _ (by omega)
 have w4:IntKind.i64.wrap (65535-zL (65535-z3 s 10+(65535-z3 s 8)+(z3 s 8-256)))=tY s:=IntWalk.i64_in _ (by
  have:=xE (65535-z3 s 10+(65535-z3 s 8)+(z3 s 8-256)) (by omega)
  omega)
 have w5:=w4
 have w6:=w4
 have w7:=w4
 unfold wK
 generalize zL (65535-z3 s 10+(65535-z3 s 8)+(z3 s 8-256))=F2 at *
 generalize zL (65535-z3 s 10+(65535-z3 s 8))=F1 at *
 generalize tY s=C at *
 generalize z3 s 2=al at *
 generalize z3 s 10=c10 at *
 refine z4 {} 0 Tryz.func81 fun Γ hW=>auC ?_
 repeat' first|refine auS ?_|(first|(simp only [zf,e8,ew,w1,w2,w3,w4,w5,w6,w7])|(with_reducible refine z0 hr ?_)|(with_reducible refine z0 q1 ?_)|(with_reducible refine z0 q2 ?_)|(with_reducible refine z0 q3 ?_)|(with_reducible refine z0 q4 ?_)|(with_reducible refine z0 q5 ?_)|(with_reducible refine z0 q6 ?_)|(with_reducible refine z0 q7 ?_))|refine auD ?_|(refine auW ?_ ?_<;>intro h<;>try exact auH)|(first|(refine z7 (by simp only [z5,List.length_take,List.length_drop,List.length_append,zE];omega) ?_)|(refine z7 (by omega) ?_)|fail)
 all_goals try exact auP
 all_goals refine auV ?_
 all_goals try exact z8
 all_goals try simp only [hsM] at *
end Go.Proofs.YtmibknbmhcnemaaGreatDoor.H
