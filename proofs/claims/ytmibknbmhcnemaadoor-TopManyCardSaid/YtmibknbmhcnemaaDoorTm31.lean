import Derived.Test.YtmibknbmhcnemaaDoorTm30
set_option linter.unusedVariables false
set_option linter.unusedSimpArgs false
namespace Go.Proofs.YtmibknbmhcnemaaDoor
attribute [local irreducible] zz Go
set_option maxRecDepth 100000
theorem vh (l:List UInt8) (i:Nat) (hi:i+1<l.length) (hl:l.length≤9223372036854775806) (ii:Int) (hii:ii=(i:Nat)):zf Tryd.prog 49 [.v (.string (mkS l)),.v (.int .i64 ii)] (.v (.int .i64 (z3 l i))):=by
 subst hii
 have hb:=xC l i
 have hb2:=xC l (i+1)
 have e1:IntKind.i64.wrap (bN l i:Nat)=(bN l i:Nat):=IntWalk.i64_in _ (by omega)
 have e2:IntKind.i64.wrap (bN l (i+1):Nat)=(bN l (i+1):Nat):=IntWalk.i64_in _ (by omega)
 have e3:IntKind.i64.wrap ((i:Int)+1)=((i+1:Nat):Int):=by rw [IntWalk.i64_in _ (by omega)];omega
 have e5:bits .or .i64 (IntKind.i64.wrap ((bN l i:Nat)*2 ^ 8)) (bN l (i+1):Nat)=z3 l i:=oc _ _ (by omega) (by omega) (by omega) (by omega)
 refine z4 {} 0 Tryd.func49 fun Γ hW=>auC ?_
 repeat' first|refine auS ?_|(simp only [z5,zQ,dj,e1,e2,e3,e5,Int.toNat_natCast])|refine auD ?_|(refine auW ?_ ?_<;>intro h<;>try exact auH)|fail
 all_goals try exact auP
 all_goals refine auV ?_
 all_goals try exact z_
 all_goals try simp only [hsM] at *
end Go.Proofs.YtmibknbmhcnemaaDoor
namespace Go.Proofs.YtmibknbmhcnemaaDoor
attribute [local irreducible] zz Go
set_option maxRecDepth 100000
def iJ (s:List UInt8) (a b:Int):Prop:=z3 s 6=0∨zI (y4 (und a b 17 (z3 s 4)++s.take (z3 s 4).toNat))=65535
instance (s:List UInt8) (a b:Int):Decidable (iJ s a b):=by unfold iJ;infer_instance
def rdL (s:List UInt8) (a b:Int):(Int×Int×List UInt8)×Int:=
 if s.length<8∨(s.length:Int)<z3 s 4 then ((0,0,[]),3)
 else if ¬(8≤z3 s 4∧z3 s 4≤65515) then ((0,0,[]),4)
 else if ¬iJ s a b then ((0,0,[]),5)
 else ((z3 s 0,z3 s 2,(s.drop 8).take ((z3 s 4).toNat-8)),0)
abbrev dLE (r:(Int×Int×List UInt8)×Int):DV:=.tup [dL r.1.1 r.1.2.1 r.1.2.2,.v (.int .i64 r.2)]
set_option maxHeartbeats 2000000 in
theorem jF (s:List UInt8) (a b:Int) (ha:0≤a∧a<4294967296) (hb:0≤b∧b<4294967296) (hl:s.length≤140737488351232):zf Tryd.prog 21 [.v (.string (mkS s)),.v (.int .u32 a),.v (.int .u32 b)] (dLE (rdL s a b)):=by
 by_cases h8:s.length<8
 ·have hr:rdL s a b=((0,0,[]),3):=by unfold rdL;rw [if_pos (.inl h8)]
  rw [hr]
  refine z4 {} 0 Tryd.func21 fun Γ hW=>auC ?_
  repeat' first|refine auS ?_|(first|(simp only [zk,z5])|(simp only [x1])|(simp only [x2])|(with_reducible refine z0 h0 ?_)|(with_reducible refine z0 h2 ?_)|(with_reducible refine z0 h4 ?_)|(with_reducible refine z0 h6 ?_)|(with_reducible refine z0 hu ?_)|(with_reducible refine z0 hs ?_))|refine auD ?_|(refine auW ?_ ?_<;>intro h<;>try exact auH)|(refine za (by simp only [zk,z5,List.length_append,zG,x5,yA,xP,List.length_take,List.length_drop];omega) ?_)
  all_goals try exact auP
  all_goals first
   |(exfalso;simp_all;done)
   |skip
  all_goals refine auV ?_
  all_goals try exact z_
  all_goals try simp only [hsM] at *
  all_goals rfl
 have h4:=vh s 4 (by omega) (by omega) 4 rfl
 have hb4:=zo s 4
 by_cases hn:(s.length:Int)<z3 s 4
 ·have hr:rdL s a b=((0,0,[]),3):=by unfold rdL;rw [if_pos (.inr hn)]
  rw [hr]
  generalize z3 s 4=n at *
  refine z4 {} 0 Tryd.func21 fun Γ hW=>auC ?_
  repeat' first|refine auS ?_|(first|(simp only [zk,z5])|(simp only [x1])|(simp only [x2])|(with_reducible refine z0 h0 ?_)|(with_reducible refine z0 h2 ?_)|(with_reducible refine z0 h4 ?_)|(with_reducible refine z0 h6 ?_)|(with_reducible refine z0 hu ?_)|(with_reducible refine z0 hs ?_))|refine auD ?_|(refine auW ?_ ?_<;>intro h<;>try exact auH)|(refine za (by simp only [zk,z5,List.length_append,zG,x5,yA,xP,List.length_take,List.length_drop];omega) ?_)
  all_goals try exact auP
  all_goals first
   |(exfalso;simp_all;done)
   |skip
  all_goals refine auV ?_
  all_goals try exact z_
  all_goals try simp only [hsM] at *
  all_goals rfl
 by_cases hf:8≤z3 s 4∧z3 s 4≤65515
 ·have h0:=vh s 0 (by omega) (by omega) 0 rfl
  have h2:=vh s 2 (by omega) (by omega) 2 rfl
  have h6:=vh s 6 (by omega) (by omega) 6 rfl
  have hb6:=zo s 6
  have hu:=rj a b 17 (z3 s 4) ha hb
  have hs:=vo (und a b 17 (z3 s 4)++s.take (z3 s 4).toNat) (by simp only [List.length_append,zG,List.length_take];omega)
  have x1:(mkS s).extract 0 (z3 s 4).toNat=mkS (s.take (z3 s 4).toNat):=by rw [xj];rfl
  have x2:(mkS s).extract 8 (z3 s 4).toNat=mkS ((s.drop 8).take ((z3 s 4).toNat-8)):=xj _ _ _
  by_cases hk:iJ s a b
  ·have hr:rdL s a b=((z3 s 0,z3 s 2,(s.drop 8).take ((z3 s 4).toNat-8)),0):=by unfold rdL;rw [if_neg (by omega),if_neg (not_not_intro hf),if_neg (not_not_intro hk)]
   rw [hr]
   unfold iJ at hk
   clear hr
   generalize zI (y4 (und a b 17 (z3 s 4)++s.take (z3 s 4).toNat))=c at *
   generalize z3 s 4=n at *
   generalize z3 s 6=m at *
   rcases hk with rfl|rfl
   ·skip
    refine z4 {} 0 Tryd.func21 fun Γ hW=>auC ?_
    repeat' first|refine auS ?_|(first|(simp only [zk,z5])|(simp only [x1])|(simp only [x2])|(with_reducible refine z0 h0 ?_)|(with_reducible refine z0 h2 ?_)|(with_reducible refine z0 h4 ?_)|(with_reducible refine z0 h6 ?_)|(with_reducible refine z0 hu ?_)|(with_reducible refine z0 hs ?_))|refine auD ?_|(refine auW ?_ ?_<;>intro h<;>try exact auH)|(refine za (by simp only [zk,z5,List.length_append,zG,x5,yA,xP,List.length_take,List.length_drop];omega) ?_)
    all_goals try exact auP
    all_goals first
     |(exfalso;simp_all;done)
     |skip
    all_goals refine auV ?_
    all_goals try exact z_
    all_goals try simp only [hsM] at *
    all_goals rfl
   ·by_cases hm:m=0
    ·subst hm
     refine z4 {} 0 Tryd.func21 fun Γ hW=>auC ?_
     repeat' first|refine auS ?_|(first|(simp only [zk,z5])|(simp only [x1])|(simp only [x2])|(with_reducible refine z0 h0 ?_)|(with_reducible refine z0 h2 ?_)|(with_reducible refine z0 h4 ?_)|(with_reducible refine z0 h6 ?_)|(with_reducible refine z0 hu ?_)|(with_reducible refine z0 hs ?_))|refine auD ?_|(refine auW ?_ ?_<;>intro h<;>try exact auH)|(refine za (by simp only [zk,z5,List.length_append,zG,x5,yA,xP,List.length_take,List.length_drop];omega) ?_)
     all_goals try exact auP
     all_goals first
      |(exfalso;simp_all;done)
      |skip
     all_goals refine auV ?_
     all_goals try exact z_
     all_goals try simp only [hsM] at *
     all_goals rfl
    ·skip
     refine z4 {} 0 Tryd.func21 fun Γ hW=>auC ?_
     repeat' first|refine auS ?_|(first|(simp only [zk,z5])|(simp only [x1])|(simp only [x2])|(with_reducible refine z0 h0 ?_)|(with_reducible refine z0 h2 ?_)|(with_reducible refine z0 h4 ?_)|(with_reducible refine z0 h6 ?_)|(with_reducible refine z0 hu ?_)|(with_reducible refine z0 hs ?_))|refine auD ?_|(refine auW ?_ ?_<;>intro h<;>try exact auH)|(refine za (by simp only [zk,z5,List.length_append,zG,x5,yA,xP,List.length_take,List.length_drop];omega) ?_)
     all_goals try exact auP
     all_goals first
      |(exfalso;simp_all;done)
      |skip
     all_goals refine auV ?_
     all_goals try exact z_
     all_goals try simp only [hsM] at *
     all_goals rfl
  ·have hr:rdL s a b=((0,0,[]),5):=by unfold rdL;rw [if_neg (by omega),if_neg (not_not_intro hf),if_pos hk]
   rw [hr]
   unfold iJ at hk
   clear hr
   generalize zI (y4 (und a b 17 (z3 s 4)++s.take (z3 s 4).toNat))=c at *
   generalize z3 s 4=n at *
   generalize z3 s 6=m at *
   have hm:¬m=0:=fun q=>hk (.inl q)
   have hc:¬c=65535:=fun q=>hk (.inr q)
   clear hk
   refine z4 {} 0 Tryd.func21 fun Γ hW=>auC ?_
   repeat' first|refine auS ?_|(first|(simp only [zk,z5])|(simp only [x1])|(simp only [x2])|(with_reducible refine z0 h0 ?_)|(with_reducible refine z0 h2 ?_)|(with_reducible refine z0 h4 ?_)|(with_reducible refine z0 h6 ?_)|(with_reducible refine z0 hu ?_)|(with_reducible refine z0 hs ?_))|refine auD ?_|(refine auW ?_ ?_<;>intro h<;>try exact auH)|(refine za (by simp only [zk,z5,List.length_append,zG,x5,yA,xP,List.length_take,List.length_drop];omega) ?_)
   all_goals try exact auP
   all_goals first
    |(exfalso;simp_all;done)
    |skip
   all_goals refine auV ?_
   all_goals try exact z_
   all_goals try simp only [hsM] at *
   all_goals rfl
 ·have hr:rdL s a b=((0,0,[]),4):=by unfold rdL;rw [if_neg (by omega),if_pos hf]
  rw [hr]
  clear hr
  generalize z3 s 4=n at *
  refine z4 {} 0 Tryd.func21 fun Γ hW=>auC ?_
  repeat' first|refine auS ?_|(first|(simp only [zk,z5])|(simp only [x1])|(simp only [x2])|(with_reducible refine z0 h0 ?_)|(with_reducible refine z0 h2 ?_)|(with_reducible refine z0 h4 ?_)|(with_reducible refine z0 h6 ?_)|(with_reducible refine z0 hu ?_)|(with_reducible refine z0 hs ?_))|refine auD ?_|(refine auW ?_ ?_<;>intro h<;>try exact auH)|(refine za (by simp only [zk,z5,List.length_append,zG,x5,yA,xP,List.length_take,List.length_drop];omega) ?_)
  all_goals try exact auP
  all_goals first
   |(exfalso;simp_all;done)
   |skip
  all_goals refine auV ?_
  all_goals try exact z_
  all_goals try simp only [hsM] at *
  all_goals rfl
end Go.Proofs.YtmibknbmhcnemaaDoor
