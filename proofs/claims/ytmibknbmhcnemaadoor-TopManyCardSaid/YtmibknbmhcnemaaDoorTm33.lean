import Derived.Test.YtmibknbmhcnemaaDoorTm32
set_option linter.unusedVariables false
set_option linter.unusedSimpArgs false
namespace Go.Proofs.YtmibknbmhcnemaaDoor
attribute [local irreducible] zz Go
set_option maxRecDepth 100000
def nW (s:List UInt8):Nat:=bN s 12 / 16*4
def sg0:Sg:=⟨0,0,0,0,0,0,0,[],[]⟩
def rdS (s:List UInt8) (a b:Int):Sg×Int:=
 if s.length<20∨s.length<nW s then (sg0,3)
 else if ¬(20≤nW s∧bN s 12 % 16=0) then (sg0,4)
 else if 65455+nW s<s.length then (sg0,2)
 else match prs ((s.drop 20).take (nW s-20)) with
  |none=>(sg0,4)
  |some l=>if ¬zI (y4 (und a b 6 s.length++s))=65535 then (sg0,5)
   else (⟨z3 s 0,z3 s 2,wY s 4,wY s 8,(bN s 13:Nat),z3 s 14,z3 s 18,l,s.drop (nW s)⟩,0)
abbrev YI (r:Sg×Int):DV:=.tup [dG r.1,.v (.int .i64 r.2)]
theorem qq (e:Int):ve (.tup [.agg [.v (.int .i64 0),.v (.int .i64 0),.v (.int .u32 0),.v (.int .u32 0),.v (.int .i64 0),.v (.int .i64 0),.v (.int .i64 0),.v (.slice none 0 0),.v (.string (ByteArray.mk #[]))],.v (.int .i64 e)]) (YI (sg0,e)):=by
 simp [ve,k9,sg0]
 rfl
set_option maxHeartbeats 4000000 in
theorem o7 (s:List UInt8) (a b:Int) (ha:0≤a∧a<4294967296) (hb:0≤b∧b<4294967296) (hl:s.length≤140737488351232):zf Tryd.prog 20 [.v (.string (mkS s)),.v (.int .u32 a),.v (.int .u32 b)] (YI (rdS s a b)):=by
 have b12:=xC s 12
 have b13:=xC s 13
 have e12:IntKind.i64.wrap ((bN s 12:Nat):Int)=((bN s 12:Nat):Int):=IntWalk.i64_in _ (by omega)
 have e13:IntKind.i64.wrap ((bN s 13:Nat):Int)=((bN s 13:Nat):Int):=IntWalk.i64_in _ (by omega)
 have t1:IntKind.i64.wrap (((bN s 12:Nat):Int).tdiv 16)=((bN s 12 / 16:Nat):Int):=by rw [Int.tdiv_eq_ediv_of_nonneg (by omega),IntWalk.i64_in _ (by omega)];omega
 have t2:IntKind.i64.wrap (((bN s 12 / 16:Nat):Int)*4)=((nW s:Nat):Int):=by unfold nW;rw [IntWalk.i64_in _ (by omega)];omega
 have t3:((bN s 12:Nat):Int).tmod 16=((bN s 12 % 16:Nat):Int):=(Int.ofNat_tmod _ 16).symm
 have hn60:nW s≤60:=by unfold nW;omega
 have t4:IntKind.i64.wrap (4*((nW s:Nat):Int))=4*((nW s:Nat):Int):=IntWalk.i64_in _ (by omega)
 have t5:IntKind.i64.wrap ((s.length:Int)-((nW s:Nat):Int))=(s.length:Int)-((nW s:Nat):Int):=IntWalk.i64_in _ (by omega)
 have t6:IntKind.i64.wrap (65455+((nW s:Nat):Int))=65455+((nW s:Nat):Int):=IntWalk.i64_in _ (by omega)
 have hq:bN s 12 % 16=0↔((bN s 12:Nat):Int)=4*((nW s:Nat):Int):=by unfold nW;omega
 by_cases c1:s.length<20
 ·have hr:rdS s a b=(sg0,3):=by unfold rdS;rw [if_pos (.inl c1)]
  rw [hr]
  refine wn ?_ (qq _)
  refine z4 {} 0 Tryd.func20 fun Γ hW=>auC ?_
  repeat' first|refine auS ?_|(first|(simp only [z5,zQ,zk,Int.toNat_natCast])|(simp only [e12,e13,t1,t2,t3,t4,t5,t6])|(simp only [x1,x2])|(with_reducible refine z0 hp ?_)|(with_reducible refine z0 hu ?_)|(with_reducible refine z0 hs0 ?_)|(with_reducible refine z0 hs ?_)|(with_reducible refine z0 h0 ?_)|(with_reducible refine z0 h2 ?_)|(with_reducible refine z0 h14 ?_)|(with_reducible refine z0 h18 ?_)|(with_reducible refine z0 h4 ?_)|(with_reducible refine z0 h8 ?_))|refine auD ?_|(refine auW ?_ ?_<;>intro h<;>try exact auH)|(refine za (by simp only [z5,List.length_append,zG];omega) ?_)
  all_goals try exact auP
  all_goals first
   |(exfalso;simp_all;done)
   |skip
  all_goals refine auV ?_
  all_goals try exact z_
  all_goals try simp only [hsM] at *
  all_goals rfl
 by_cases c2:s.length<nW s
 ·have hr:rdS s a b=(sg0,3):=by unfold rdS;rw [if_pos (.inr c2)]
  rw [hr]
  refine wn ?_ (qq _)
  refine z4 {} 0 Tryd.func20 fun Γ hW=>auC ?_
  repeat' first|refine auS ?_|(first|(simp only [z5,zQ,zk,Int.toNat_natCast])|(simp only [e12,e13,t1,t2,t3,t4,t5,t6])|(simp only [x1,x2])|(with_reducible refine z0 hp ?_)|(with_reducible refine z0 hu ?_)|(with_reducible refine z0 hs0 ?_)|(with_reducible refine z0 hs ?_)|(with_reducible refine z0 h0 ?_)|(with_reducible refine z0 h2 ?_)|(with_reducible refine z0 h14 ?_)|(with_reducible refine z0 h18 ?_)|(with_reducible refine z0 h4 ?_)|(with_reducible refine z0 h8 ?_))|refine auD ?_|(refine auW ?_ ?_<;>intro h<;>try exact auH)|(refine za (by simp only [z5,List.length_append,zG];omega) ?_)
  all_goals try exact auP
  all_goals first
   |(exfalso;simp_all;done)
   |skip
  all_goals refine auV ?_
  all_goals try exact z_
  all_goals try simp only [hsM] at *
  all_goals rfl
 by_cases c3:20≤nW s∧bN s 12 % 16=0
 case neg=>
  have hr:rdS s a b=(sg0,4):=by unfold rdS;rw [if_neg (by omega),if_pos c3]
  rw [hr]
  refine wn ?_ (qq _)
  by_cases c3a:nW s<20
  ·skip
   refine z4 {} 0 Tryd.func20 fun Γ hW=>auC ?_
   repeat' first|refine auS ?_|(first|(simp only [z5,zQ,zk,Int.toNat_natCast])|(simp only [e12,e13,t1,t2,t3,t4,t5,t6])|(simp only [x1,x2])|(with_reducible refine z0 hp ?_)|(with_reducible refine z0 hu ?_)|(with_reducible refine z0 hs0 ?_)|(with_reducible refine z0 hs ?_)|(with_reducible refine z0 h0 ?_)|(with_reducible refine z0 h2 ?_)|(with_reducible refine z0 h14 ?_)|(with_reducible refine z0 h18 ?_)|(with_reducible refine z0 h4 ?_)|(with_reducible refine z0 h8 ?_))|refine auD ?_|(refine auW ?_ ?_<;>intro h<;>try exact auH)|(refine za (by simp only [z5,List.length_append,zG];omega) ?_)
   all_goals try exact auP
   all_goals first
    |(exfalso;simp_all;done)
    |skip
   all_goals refine auV ?_
   all_goals try exact z_
   all_goals try simp only [hsM] at *
   all_goals rfl
  ·have c3b:¬bN s 12 % 16=0:=fun q=>c3 ⟨by omega,q⟩
   have c3c:¬((bN s 12:Nat):Int)=4*((nW s:Nat):Int):=fun q=>c3b (hq.2 q)
   refine z4 {} 0 Tryd.func20 fun Γ hW=>auC ?_
   repeat' first|refine auS ?_|(first|(simp only [z5,zQ,zk,Int.toNat_natCast])|(simp only [e12,e13,t1,t2,t3,t4,t5,t6])|(simp only [x1,x2])|(with_reducible refine z0 hp ?_)|(with_reducible refine z0 hu ?_)|(with_reducible refine z0 hs0 ?_)|(with_reducible refine z0 hs ?_)|(with_reducible refine z0 h0 ?_)|(with_reducible refine z0 h2 ?_)|(with_reducible refine z0 h14 ?_)|(with_reducible refine z0 h18 ?_)|(with_reducible refine z0 h4 ?_)|(with_reducible refine z0 h8 ?_))|refine auD ?_|(refine auW ?_ ?_<;>intro h<;>try exact auH)|(refine za (by simp only [z5,List.length_append,zG];omega) ?_)
   all_goals try exact auP
   all_goals first
    |(exfalso;simp_all;done)
    |skip
   all_goals refine auV ?_
   all_goals try exact z_
   all_goals try simp only [hsM] at *
   all_goals rfl
 have c3b:=hq.1 c3.2
 obtain ⟨c3a,c3d⟩:=c3
 by_cases c4:65455+nW s<s.length
 ·have hr:rdS s a b=(sg0,2):=by unfold rdS;rw [if_neg (by omega),if_neg (not_not_intro ⟨c3a,c3d⟩),if_pos c4]
  rw [hr]
  refine wn ?_ (qq _)
  refine z4 {} 0 Tryd.func20 fun Γ hW=>auC ?_
  repeat' first|refine auS ?_|(first|(simp only [z5,zQ,zk,Int.toNat_natCast])|(simp only [e12,e13,t1,t2,t3,t4,t5,t6])|(simp only [x1,x2])|(with_reducible refine z0 hp ?_)|(with_reducible refine z0 hu ?_)|(with_reducible refine z0 hs0 ?_)|(with_reducible refine z0 hs ?_)|(with_reducible refine z0 h0 ?_)|(with_reducible refine z0 h2 ?_)|(with_reducible refine z0 h14 ?_)|(with_reducible refine z0 h18 ?_)|(with_reducible refine z0 h4 ?_)|(with_reducible refine z0 h8 ?_))|refine auD ?_|(refine auW ?_ ?_<;>intro h<;>try exact auH)|(refine za (by simp only [z5,List.length_append,zG];omega) ?_)
  all_goals try exact auP
  all_goals first
   |(exfalso;simp_all;done)
   |skip
  all_goals refine auV ?_
  all_goals try exact z_
  all_goals try simp only [hsM] at *
  all_goals rfl
 have x1:(mkS s).extract 20 (nW s)=mkS ((s.drop 20).take (nW s-20)):=xj _ _ _
 have x2:(mkS s).extract (nW s) s.length=mkS (s.drop (nW s)):=by rw [xj,List.take_of_length_le (by simp)]
 have hpl:((s.drop 20).take (nW s-20)).length≤40:=by simp;omega
 have hp:=jD _ hpl
 cases hprs:prs ((s.drop 20).take (nW s-20)) with
 |none=>
  have hr:rdS s a b=(sg0,4):=by unfold rdS;rw [if_neg (by omega),if_neg (not_not_intro ⟨c3a,c3d⟩),if_neg c4,hprs]
  rw [hr]
  rw [o9 hprs] at hp
  refine wn ?_ (qq _)
  refine z4 {} 0 Tryd.func20 fun Γ hW=>auC ?_
  repeat' first|refine auS ?_|(first|(simp only [z5,zQ,zk,Int.toNat_natCast])|(simp only [e12,e13,t1,t2,t3,t4,t5,t6])|(simp only [x1,x2])|(with_reducible refine z0 hp ?_)|(with_reducible refine z0 hu ?_)|(with_reducible refine z0 hs0 ?_)|(with_reducible refine z0 hs ?_)|(with_reducible refine z0 h0 ?_)|(with_reducible refine z0 h2 ?_)|(with_reducible refine z0 h14 ?_)|(with_reducible refine z0 h18 ?_)|(with_reducible refine z0 h4 ?_)|(with_reducible refine z0 h8 ?_))|refine auD ?_|(refine auW ?_ ?_<;>intro h<;>try exact auH)|(refine za (by simp only [z5,List.length_append,zG];omega) ?_)
  all_goals try exact auP
  all_goals first
   |(exfalso;simp_all;done)
   |skip
  all_goals refine auV ?_
  all_goals try exact z_
  all_goals try simp only [hsM] at *
  all_goals rfl
 |some l=>
  rw [oO hprs] at hp
  have hu:=rj a b 6 s.length ha hb
  have hs:=vo (und a b 6 s.length++s) (by simp only [List.length_append,zG];omega)
  by_cases c5:zI (y4 (und a b 6 s.length++s))=65535
  ·have hr:rdS s a b=(⟨z3 s 0,z3 s 2,wY s 4,wY s 8,(bN s 13:Nat),z3 s 14,z3 s 18,l,s.drop (nW s)⟩,0):=by unfold rdS;rw [if_neg (by omega),if_neg (not_not_intro ⟨c3a,c3d⟩),if_neg c4,hprs];exact if_neg (not_not_intro c5)
   rw [hr]
   rw [c5] at hs
   have h0:=yQ s 0 (by omega) (by omega) 0 rfl
   have h2:=yQ s 2 (by omega) (by omega) 2 rfl
   have h14:=yQ s 14 (by omega) (by omega) 14 rfl
   have h18:=yQ s 18 (by omega) (by omega) 18 rfl
   have h4:=tu s 4 (by omega) (by omega) 4 rfl
   have h8:=tu s 8 (by omega) (by omega) 8 rfl
   refine z4 {} 0 Tryd.func20 fun Γ hW=>auC ?_
   repeat' first|refine auS ?_|(first|(simp only [z5,zQ,zk,Int.toNat_natCast])|(simp only [e12,e13,t1,t2,t3,t4,t5,t6])|(simp only [x1,x2])|(with_reducible refine z0 hp ?_)|(with_reducible refine z0 hu ?_)|(with_reducible refine z0 hs0 ?_)|(with_reducible refine z0 hs ?_)|(with_reducible refine z0 h0 ?_)|(with_reducible refine z0 h2 ?_)|(with_reducible refine z0 h14 ?_)|(with_reducible refine z0 h18 ?_)|(with_reducible refine z0 h4 ?_)|(with_reducible refine z0 h8 ?_))|refine auD ?_|(refine auW ?_ ?_<;>intro h<;>try exact auH)|(refine za (by simp only [z5,List.length_append,zG];omega) ?_)
   all_goals try exact auP
   all_goals first
    |(exfalso;simp_all;done)
    |skip
   all_goals refine auV ?_
   all_goals try exact z_
   all_goals try simp only [hsM] at *
   all_goals rfl
  ·have hr:rdS s a b=(sg0,5):=by unfold rdS;rw [if_neg (by omega),if_neg (not_not_intro ⟨c3a,c3d⟩),if_neg c4,hprs];exact if_pos c5
   rw [hr]
   generalize zI (y4 (und a b 6 s.length++s))=ck at *
   refine wn ?_ (qq _)
   refine z4 {} 0 Tryd.func20 fun Γ hW=>auC ?_
   repeat' first|refine auS ?_|(first|(simp only [z5,zQ,zk,Int.toNat_natCast])|(simp only [e12,e13,t1,t2,t3,t4,t5,t6])|(simp only [x1,x2])|(with_reducible refine z0 hp ?_)|(with_reducible refine z0 hu ?_)|(with_reducible refine z0 hs0 ?_)|(with_reducible refine z0 hs ?_)|(with_reducible refine z0 h0 ?_)|(with_reducible refine z0 h2 ?_)|(with_reducible refine z0 h14 ?_)|(with_reducible refine z0 h18 ?_)|(with_reducible refine z0 h4 ?_)|(with_reducible refine z0 h8 ?_))|refine auD ?_|(refine auW ?_ ?_<;>intro h<;>try exact auH)|(refine za (by simp only [z5,List.length_append,zG];omega) ?_)
   all_goals try exact auP
   all_goals first
    |(exfalso;simp_all;done)
    |skip
   all_goals refine auV ?_
   all_goals try exact z_
   all_goals try simp only [hsM] at *
   all_goals rfl
end Go.Proofs.YtmibknbmhcnemaaDoor
