import Derived.Test.YtmibknbmhcnemaaGreatDoorHb18
set_option linter.unusedVariables false
set_option linter.unusedSimpArgs false
namespace Go.Proofs.YtmibknbmhcnemaaGreatDoor
attribute [local irreducible] zF Go
set_option maxRecDepth 100000
theorem uz (l:List UInt8) (i:Nat) (hi:i+1<l.length) (hl:l.length≤9223372036854775806) (ii:Int) (hii:ii=(i:Nat)):zd Tryz.prog 149 [.v (.string (mkS l)),.v (.int .i64 ii)] (.v (.int .i64 (z3 l i))):=by
 subst hii
 have hb:=yg l i
 have hb2:=yg l (i+1)
 have e1:IntKind.i64.wrap (bN l i:Nat)=(bN l i:Nat):=IntWalk.i64_in _ (by omega)
 have e2:IntKind.i64.wrap (bN l (i+1):Nat)=(bN l (i+1):Nat):=IntWalk.i64_in _ (by omega)
 have e3:IntKind.i64.wrap ((i:Int)+1)=((i+1:Nat):Int):=by rw [IntWalk.i64_in _ (by omega)];omega
 have e5:bits .or .i64 (IntKind.i64.wrap ((bN l i:Nat)*2 ^ 8)) (bN l (i+1):Nat)=z3 l i:=mJ _ _ (by omega) (by omega) (by omega) (by omega)
 refine z4 {} 0 Tryz.func149 fun Γ hW=>auC ?_
 repeat' first|refine auS ?_|(simp only [z5,zj,Yv,e1,e2,e3,e5,Int.toNat_natCast])|refine auD ?_|(refine auW ?_ ?_<;>intro h<;>try exact auH)|fail
 all_goals try exact auP
 all_goals refine auV ?_
 all_goals try exact z8
 all_goals try simp only [hsM] at *
end Go.Proofs.YtmibknbmhcnemaaGreatDoor
namespace Go.Proofs.YtmibknbmhcnemaaGreatDoor
attribute [local irreducible] zF Go
set_option maxRecDepth 100000
theorem kJ (n:Int):zd Tryz.prog 90 [.v (.int .i64 n)] (.v (.bool (decide (0≤n∧n≤65535)))):=by
 refine z4 {} 0 Tryz.func90 fun Γ hW=>auC ?_
 repeat' first|refine auS ?_|fail|refine auD ?_|(refine auW ?_ ?_<;>intro h<;>try exact auH)|fail
 all_goals try exact auP
 all_goals refine auV ?_
 all_goals try exact z8
 all_goals try simp only [hsM] at *
 all_goals (refine zQ ?_;first|(simp_all;done)|(simp_all;omega))
abbrev dL (f t:Int) (d:List UInt8):DV:=.agg [.v (.int .i64 f),.v (.int .i64 t),.v (.string (mkS d))]
def tH (f t n:Int):List UInt8:=wd f++wd t++wd n
end Go.Proofs.YtmibknbmhcnemaaGreatDoor
namespace Go.Proofs.YtmibknbmhcnemaaGreatDoor
attribute [local irreducible] zF Go
set_option maxRecDepth 100000
def jr (s:List UInt8) (a b:Int):Prop:=z3 s 6=0∨zL (ya (und a b 17 (z3 s 4)++s.take (z3 s 4).toNat))=65535
instance (s:List UInt8) (a b:Int):Decidable (jr s a b):=by unfold jr;infer_instance
def rdL (s:List UInt8) (a b:Int):(Int×Int×List UInt8)×Int:=
 if s.length<8∨(s.length:Int)<z3 s 4 then ((0,0,[]),3)
 else if ¬(8≤z3 s 4∧z3 s 4≤65515) then ((0,0,[]),4)
 else if ¬jr s a b then ((0,0,[]),5)
 else ((z3 s 0,z3 s 2,(s.drop 8).take ((z3 s 4).toNat-8)),0)
abbrev dLE (r:(Int×Int×List UInt8)×Int):DV:=.tup [dL r.1.1 r.1.2.1 r.1.2.2,.v (.int .i64 r.2)]
theorem VS (l:List UInt8) (hl:l.length≤9223372036854775800):zd Tryz.prog 168 [.v (.int .i64 0),.v (.string (mkS l))] (.v (.int .i64 (zL (ya l)))):=by
 have:=t_ 0 (by decide) l hl
 rw [Int.zero_add] at this
 exact this
set_option maxHeartbeats 2000000 in
theorem dS (s:List UInt8) (a b:Int) (ha:0≤a∧a<4294967296) (hb:0≤b∧b<4294967296) (hl:s.length≤140737488351232):zd Tryz.prog 99 [.v (.string (mkS s)),.v (.int .u32 a),.v (.int .u32 b)] (dLE (rdL s a b)):=by
 by_cases h8:s.length<8
 ·have hr:rdL s a b=((0,0,[]),3):=by unfold rdL;rw [if_pos (.inl h8)]
  rw [hr]
  refine z4 {} 0 Tryz.func99 fun Γ hW=>auC ?_
  repeat' first|refine auS ?_|(first|(simp only [zf,z5])|(simp only [x1])|(simp only [x2])|(with_reducible refine z0 (z6 _ _ _) ?_)|(with_reducible refine z0 h0 ?_)|(with_reducible refine z0 h2 ?_)|(with_reducible refine z0 h4 ?_)|(with_reducible refine z0 h6 ?_)|(with_reducible refine z0 hu ?_)|(with_reducible refine z0 hs ?_))|refine auD ?_|(refine auW ?_ ?_<;>intro h<;>try exact auH)|(refine z7 (by simp only [zf,z5,List.length_append,zx,zW,zE,tH,List.length_take,List.length_drop];omega) ?_)
  all_goals try exact auP
  all_goals first
   |(exfalso;simp_all;done)
   |skip
  all_goals refine auV ?_
  all_goals try exact z8
  all_goals try simp only [hsM] at *
  all_goals rfl
 have h4:=uz s 4 (by omega) (by omega) 4 rfl
 have hb4:=zh s 4
 by_cases hn:(s.length:Int)<z3 s 4
 ·have hr:rdL s a b=((0,0,[]),3):=by unfold rdL;rw [if_pos (.inr hn)]
  rw [hr]
  generalize z3 s 4=n at *
  refine z4 {} 0 Tryz.func99 fun Γ hW=>auC ?_
  repeat' first|refine auS ?_|(first|(simp only [zf,z5])|(simp only [x1])|(simp only [x2])|(with_reducible refine z0 (z6 _ _ _) ?_)|(with_reducible refine z0 h0 ?_)|(with_reducible refine z0 h2 ?_)|(with_reducible refine z0 h4 ?_)|(with_reducible refine z0 h6 ?_)|(with_reducible refine z0 hu ?_)|(with_reducible refine z0 hs ?_))|refine auD ?_|(refine auW ?_ ?_<;>intro h<;>try exact auH)|(refine z7 (by simp only [zf,z5,List.length_append,zx,zW,zE,tH,List.length_take,List.length_drop];omega) ?_)
  all_goals try exact auP
  all_goals first
   |(exfalso;simp_all;done)
   |skip
  all_goals refine auV ?_
  all_goals try exact z8
  all_goals try simp only [hsM] at *
  all_goals rfl
 by_cases hf:8≤z3 s 4∧z3 s 4≤65515
 ·have h0:=uz s 0 (by omega) (by omega) 0 rfl
  have h2:=uz s 2 (by omega) (by omega) 2 rfl
  have h6:=uz s 6 (by omega) (by omega) 6 rfl
  have hb6:=zh s 6
  have hu:=me a b 17 (z3 s 4) ha hb
  have hs:=t9 (und a b 17 (z3 s 4)++s.take (z3 s 4).toNat) (by simp only [List.length_append,zx,List.length_take];omega)
  have x1:(mkS s).extract 0 (z3 s 4).toNat=mkS (s.take (z3 s 4).toNat):=by rw [zS];rfl
  have x2:(mkS s).extract 8 (z3 s 4).toNat=mkS ((s.drop 8).take ((z3 s 4).toNat-8)):=zS _ _ _
  by_cases hk:jr s a b
  ·have hr:rdL s a b=((z3 s 0,z3 s 2,(s.drop 8).take ((z3 s 4).toNat-8)),0):=by unfold rdL;rw [if_neg (by omega),if_neg (not_not_intro hf),if_neg (not_not_intro hk)]
   rw [hr]
   unfold jr at hk
   clear hr
   generalize zL (ya (und a b 17 (z3 s 4)++s.take (z3 s 4).toNat))=c at *
   generalize z3 s 4=n at *
   generalize z3 s 6=m at *
   rcases hk with rfl|rfl
   ·skip
    refine z4 {} 0 Tryz.func99 fun Γ hW=>auC ?_
    repeat' first|refine auS ?_|(first|(simp only [zf,z5])|(simp only [x1])|(simp only [x2])|(with_reducible refine z0 (z6 _ _ _) ?_)|(with_reducible refine z0 h0 ?_)|(with_reducible refine z0 h2 ?_)|(with_reducible refine z0 h4 ?_)|(with_reducible refine z0 h6 ?_)|(with_reducible refine z0 hu ?_)|(with_reducible refine z0 hs ?_))|refine auD ?_|(refine auW ?_ ?_<;>intro h<;>try exact auH)|(refine z7 (by simp only [zf,z5,List.length_append,zx,zW,zE,tH,List.length_take,List.length_drop];omega) ?_)
    all_goals try exact auP
    all_goals first
     |(exfalso;simp_all;done)
     |skip
    all_goals refine auV ?_
    all_goals try exact z8
    all_goals try simp only [hsM] at *
    all_goals rfl
   ·by_cases hm:m=0
    ·subst hm
     refine z4 {} 0 Tryz.func99 fun Γ hW=>auC ?_
     repeat' first|refine auS ?_|(first|(simp only [zf,z5])|(simp only [x1])|(simp only [x2])|(with_reducible refine z0 (z6 _ _ _) ?_)|(with_reducible refine z0 h0 ?_)|(with_reducible refine z0 h2 ?_)|(with_reducible refine z0 h4 ?_)|(with_reducible refine z0 h6 ?_)|(with_reducible refine z0 hu ?_)|(with_reducible refine z0 hs ?_))|refine auD ?_|(refine auW ?_ ?_<;>intro h<;>try exact auH)|(refine z7 (by simp only [zf,z5,List.length_append,zx,zW,zE,tH,List.length_take,List.length_drop];omega) ?_)
     all_goals try exact auP
     all_goals first
      |(exfalso;simp_all;done)
      |skip
     all_goals refine auV ?_
     all_goals try exact z8
     all_goals try simp only [hsM] at *
     all_goals rfl
    ·skip
     refine z4 {} 0 Tryz.func99 fun Γ hW=>auC ?_
     repeat' first|refine auS ?_|(first|(simp only [zf,z5])|(simp only [x1])|(simp only [x2])|(with_reducible refine z0 (z6 _ _ _) ?_)|(with_reducible refine z0 h0 ?_)|(with_reducible refine z0 h2 ?_)|(with_reducible refine z0 h4 ?_)|(with_reducible refine z0 h6 ?_)|(with_reducible refine z0 hu ?_)|(with_reducible refine z0 hs ?_))|refine auD ?_|(refine auW ?_ ?_<;>intro h<;>try exact auH)|(refine z7 (by simp only [zf,z5,List.length_append,zx,zW,zE,tH,List.length_take,List.length_drop];omega) ?_)
     all_goals try exact auP
     all_goals first
      |(exfalso;simp_all;done)
      |skip
     all_goals refine auV ?_
     all_goals try exact z8
     all_goals try simp only [hsM] at *
     all_goals rfl
  ·have hr:rdL s a b=((0,0,[]),5):=by unfold rdL;rw [if_neg (by omega),if_neg (not_not_intro hf),if_pos hk]
   rw [hr]
   unfold jr at hk
   clear hr
   generalize zL (ya (und a b 17 (z3 s 4)++s.take (z3 s 4).toNat))=c at *
   generalize z3 s 4=n at *
   generalize z3 s 6=m at *
   have hm:¬m=0:=fun q=>hk (.inl q)
   have hc:¬c=65535:=fun q=>hk (.inr q)
   clear hk
   refine z4 {} 0 Tryz.func99 fun Γ hW=>auC ?_
   repeat' first|refine auS ?_|(first|(simp only [zf,z5])|(simp only [x1])|(simp only [x2])|(with_reducible refine z0 (z6 _ _ _) ?_)|(with_reducible refine z0 h0 ?_)|(with_reducible refine z0 h2 ?_)|(with_reducible refine z0 h4 ?_)|(with_reducible refine z0 h6 ?_)|(with_reducible refine z0 hu ?_)|(with_reducible refine z0 hs ?_))|refine auD ?_|(refine auW ?_ ?_<;>intro h<;>try exact auH)|(refine z7 (by simp only [zf,z5,List.length_append,zx,zW,zE,tH,List.length_take,List.length_drop];omega) ?_)
   all_goals try exact auP
   all_goals first
    |(exfalso;simp_all;done)
    |skip
   all_goals refine auV ?_
   all_goals try exact z8
   all_goals try simp only [hsM] at *
   all_goals rfl
 ·have hr:rdL s a b=((0,0,[]),4):=by unfold rdL;rw [if_neg (by omega),if_pos hf]
  rw [hr]
  clear hr
  generalize z3 s 4=n at *
  refine z4 {} 0 Tryz.func99 fun Γ hW=>auC ?_
  repeat' first|refine auS ?_|(first|(simp only [zf,z5])|(simp only [x1])|(simp only [x2])|(with_reducible refine z0 (z6 _ _ _) ?_)|(with_reducible refine z0 h0 ?_)|(with_reducible refine z0 h2 ?_)|(with_reducible refine z0 h4 ?_)|(with_reducible refine z0 h6 ?_)|(with_reducible refine z0 hu ?_)|(with_reducible refine z0 hs ?_))|refine auD ?_|(refine auW ?_ ?_<;>intro h<;>try exact auH)|(refine z7 (by simp only [zf,z5,List.length_append,zx,zW,zE,tH,List.length_take,List.length_drop];omega) ?_)
  all_goals try exact auP
  all_goals first
   |(exfalso;simp_all;done)
   |skip
  all_goals refine auV ?_
  all_goals try exact z8
  all_goals try simp only [hsM] at *
  all_goals rfl
set_option maxHeartbeats 2000000 in
theorem jy (s:List UInt8) (a b:Int) (ha:0≤a∧a<4294967296) (hb:0≤b∧b<4294967296) (hl:s.length≤140737488351232):zd Tryz.prog 125 [.v (.string (mkS s)),.v (.int .u32 a),.v (.int .u32 b)] (dLE (rdL s a b)):=by
 by_cases h8:s.length<8
 ·have hr:rdL s a b=((0,0,[]),3):=by unfold rdL;rw [if_pos (.inl h8)]
  rw [hr]
  refine z4 {} 0 Tryz.func125 fun Γ hW=>auC ?_
  repeat' first|refine auS ?_|(first|(simp only [zf,z5])|(simp only [x1])|(simp only [x2])|(with_reducible refine z0 (z6 _ _ _) ?_)|(with_reducible refine z0 h0 ?_)|(with_reducible refine z0 h2 ?_)|(with_reducible refine z0 h4 ?_)|(with_reducible refine z0 h6 ?_)|(with_reducible refine z0 hu ?_)|(with_reducible refine z0 hs ?_))|refine auD ?_|(refine auW ?_ ?_<;>intro h<;>try exact auH)|(refine z7 (by simp only [zf,z5,List.length_append,zx,zW,zE,tH,List.length_take,List.length_drop];omega) ?_)
  all_goals try exact auP
  all_goals first
   |(exfalso;simp_all;done)
   |skip
  all_goals refine auV ?_
  all_goals try exact z8
  all_goals try simp only [hsM] at *
  all_goals rfl
 have h4:=zp s 4 (by omega) (by omega) 4 rfl
 have hb4:=zh s 4
 by_cases hn:(s.length:Int)<z3 s 4
 ·have hr:rdL s a b=((0,0,[]),3):=by unfold rdL;rw [if_pos (.inr hn)]
  rw [hr]
  generalize z3 s 4=n at *
  refine z4 {} 0 Tryz.func125 fun Γ hW=>auC ?_
  repeat' first|refine auS ?_|(first|(simp only [zf,z5])|(simp only [x1])|(simp only [x2])|(with_reducible refine z0 (z6 _ _ _) ?_)|(with_reducible refine z0 h0 ?_)|(with_reducible refine z0 h2 ?_)|(with_reducible refine z0 h4 ?_)|(with_reducible refine z0 h6 ?_)|(with_reducible refine z0 hu ?_)|(with_reducible refine z0 hs ?_))|refine auD ?_|(refine auW ?_ ?_<;>intro h<;>try exact auH)|(refine z7 (by simp only [zf,z5,List.length_append,zx,zW,zE,tH,List.length_take,List.length_drop];omega) ?_)
  all_goals try exact auP
  all_goals first
   |(exfalso;simp_all;done)
   |skip
  all_goals refine auV ?_
  all_goals try exact z8
  all_goals try simp only [hsM] at *
  all_goals rfl
 by_cases hf:8≤z3 s 4∧z3 s 4≤65515
 ·have h0:=zp s 0 (by omega) (by omega) 0 rfl
  have h2:=zp s 2 (by omega) (by omega) 2 rfl
  have h6:=zp s 6 (by omega) (by omega) 6 rfl
  have hb6:=zh s 6
  have hu:=re a b 17 (z3 s 4) ha hb
  have hs:=VS (und a b 17 (z3 s 4)++s.take (z3 s 4).toNat) (by simp only [List.length_append,zx,List.length_take];omega)
  have x1:(mkS s).extract 0 (z3 s 4).toNat=mkS (s.take (z3 s 4).toNat):=by rw [zS];rfl
  have x2:(mkS s).extract 8 (z3 s 4).toNat=mkS ((s.drop 8).take ((z3 s 4).toNat-8)):=zS _ _ _
  by_cases hk:jr s a b
  ·have hr:rdL s a b=((z3 s 0,z3 s 2,(s.drop 8).take ((z3 s 4).toNat-8)),0):=by unfold rdL;rw [if_neg (by omega),if_neg (not_not_intro hf),if_neg (not_not_intro hk)]
   rw [hr]
   unfold jr at hk
   clear hr
   generalize zL (ya (und a b 17 (z3 s 4)++s.take (z3 s 4).toNat))=c at *
   generalize z3 s 4=n at *
   generalize z3 s 6=m at *
   rcases hk with rfl|rfl
   ·skip
    refine z4 {} 0 Tryz.func125 fun Γ hW=>auC ?_
    repeat' first|refine auS ?_|(first|(simp only [zf,z5])|(simp only [x1])|(simp only [x2])|(with_reducible refine z0 (z6 _ _ _) ?_)|(with_reducible refine z0 h0 ?_)|(with_reducible refine z0 h2 ?_)|(with_reducible refine z0 h4 ?_)|(with_reducible refine z0 h6 ?_)|(with_reducible refine z0 hu ?_)|(with_reducible refine z0 hs ?_))|refine auD ?_|(refine auW ?_ ?_<;>intro h<;>try exact auH)|(refine z7 (by simp only [zf,z5,List.length_append,zx,zW,zE,tH,List.length_take,List.length_drop];omega) ?_)
    all_goals try exact auP
    all_goals first
     |(exfalso;simp_all;done)
     |skip
    all_goals refine auV ?_
    all_goals try exact z8
    all_goals try simp only [hsM] at *
    all_goals rfl
   ·by_cases hm:m=0
    ·subst hm
     refine z4 {} 0 Tryz.func125 fun Γ hW=>auC ?_
     repeat' first|refine auS ?_|(first|(simp only [zf,z5])|(simp only [x1])|(simp only [x2])|(with_reducible refine z0 (z6 _ _ _) ?_)|(with_reducible refine z0 h0 ?_)|(with_reducible refine z0 h2 ?_)|(with_reducible refine z0 h4 ?_)|(with_reducible refine z0 h6 ?_)|(with_reducible refine z0 hu ?_)|(with_reducible refine z0 hs ?_))|refine auD ?_|(refine auW ?_ ?_<;>intro h<;>try exact auH)|(refine z7 (by simp only [zf,z5,List.length_append,zx,zW,zE,tH,List.length_take,List.length_drop];omega) ?_)
     all_goals try exact auP
     all_goals first
      |(exfalso;simp_all;done)
      |skip
     all_goals refine auV ?_
     all_goals try exact z8
     all_goals try simp only [hsM] at *
     all_goals rfl
    ·skip
     refine z4 {} 0 Tryz.func125 fun Γ hW=>auC ?_
     repeat' first|refine auS ?_|(first|(simp only [zf,z5])|(simp only [x1])|(simp only [x2])|(with_reducible refine z0 (z6 _ _ _) ?_)|(with_reducible refine z0 h0 ?_)|(with_reducible refine z0 h2 ?_)|(with_reducible refine z0 h4 ?_)|(with_reducible refine z0 h6 ?_)|(with_reducible refine z0 hu ?_)|(with_reducible refine z0 hs ?_))|refine auD ?_|(refine auW ?_ ?_<;>intro h<;>try exact auH)|(refine z7 (by simp only [zf,z5,List.length_append,zx,zW,zE,tH,List.length_take,List.length_drop];omega) ?_)
     all_goals try exact auP
     all_goals first
      |(exfalso;simp_all;done)
      |skip
     all_goals refine auV ?_
     all_goals try exact z8
     all_goals try simp only [hsM] at *
     all_goals rfl
  ·have hr:rdL s a b=((0,0,[]),5):=by unfold rdL;rw [if_neg (by omega),if_neg (not_not_intro hf),if_pos hk]
   rw [hr]
   unfold jr at hk
   clear hr
   generalize zL (ya (und a b 17 (z3 s 4)++s.take (z3 s 4).toNat))=c at *
   generalize z3 s 4=n at *
   generalize z3 s 6=m at *
   have hm:¬m=0:=fun q=>hk (.inl q)
   have hc:¬c=65535:=fun q=>hk (.inr q)
   clear hk
   refine z4 {} 0 Tryz.func125 fun Γ hW=>auC ?_
   repeat' first|refine auS ?_|(first|(simp only [zf,z5])|(simp only [x1])|(simp only [x2])|(with_reducible refine z0 (z6 _ _ _) ?_)|(with_reducible refine z0 h0 ?_)|(with_reducible refine z0 h2 ?_)|(with_reducible refine z0 h4 ?_)|(with_reducible refine z0 h6 ?_)|(with_reducible refine z0 hu ?_)|(with_reducible refine z0 hs ?_))|refine auD ?_|(refine auW ?_ ?_<;>intro h<;>try exact auH)|(refine z7 (by simp only [zf,z5,List.length_append,zx,zW,zE,tH,List.length_take,List.length_drop];omega) ?_)
   all_goals try exact auP
   all_goals first
    |(exfalso;simp_all;done)
    |skip
   all_goals refine auV ?_
   all_goals try exact z8
   all_goals try simp only [hsM] at *
   all_goals rfl
 ·have hr:rdL s a b=((0,0,[]),4):=by unfold rdL;rw [if_neg (by omega),if_pos hf]
  rw [hr]
  clear hr
  generalize z3 s 4=n at *
  refine z4 {} 0 Tryz.func125 fun Γ hW=>auC ?_
  repeat' first|refine auS ?_|(first|(simp only [zf,z5])|(simp only [x1])|(simp only [x2])|(with_reducible refine z0 (z6 _ _ _) ?_)|(with_reducible refine z0 h0 ?_)|(with_reducible refine z0 h2 ?_)|(with_reducible refine z0 h4 ?_)|(with_reducible refine z0 h6 ?_)|(with_reducible refine z0 hu ?_)|(with_reducible refine z0 hs ?_))|refine auD ?_|(refine auW ?_ ?_<;>intro h<;>try exact auH)|(refine z7 (by simp only [zf,z5,List.length_append,zx,zW,zE,tH,List.length_take,List.length_drop];omega) ?_)
  all_goals try exact auP
  all_goals first
   |(exfalso;simp_all;done)
   |skip
  all_goals refine auV ?_
  all_goals try exact z8
  all_goals try simp only [hsM] at *
  all_goals rfl
end Go.Proofs.YtmibknbmhcnemaaGreatDoor
