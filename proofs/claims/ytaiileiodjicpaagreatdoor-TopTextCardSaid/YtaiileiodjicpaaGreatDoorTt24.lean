import Derived.Test.YtaiileiodjicpaaGreatDoorTt19
set_option linter.unusedVariables false
set_option linter.unusedSimpArgs false
namespace Go.Proofs.YtaiileiodjicpaaGreatDoor
attribute [local irreducible] zF Go
set_option maxRecDepth 100000
theorem vg (n:Int):zi Tryz.prog 60 [.v (.int .i64 n)] (.v (.bool (decide (0≤n∧n≤65535)))):=by
 refine z7 {} 0 Tryz.func60 fun Γ hW=>auC ?_
 repeat' first|refine auS ?_|fail|refine auD ?_|(refine auW ?_ ?_<;>intro h<;>try exact auH)|fail
 all_goals try exact auP
 all_goals refine auV ?_
 all_goals try exact zc
 all_goals try simp only [hsM] at *
 all_goals (refine xP ?_;first|(simp_all;done)|(simp_all;omega))
abbrev dL (f t:Int) (d:List UInt8):DV:=.agg [.v (.int .i64 f),.v (.int .i64 t),.v (.string (mkS d))]
abbrev dSE (r:List UInt8×Int):DV:=.tup [.v (.string (mkS r.1)),.v (.int .i64 r.2)]
def wR (f t n:Int):List UInt8:=wd f++wd t++wd n
def VO (f t:Int) (d:List UInt8) (a b:Int):Int:=
 if yw (x8 (und a b 17 ((d.length:Int)+8)++wR f t ((d.length:Int)+8)++d))=65535 then 65535 else 65535-yw (x8 (und a b 17 ((d.length:Int)+8)++wR f t ((d.length:Int)+8)++d))
def rz (f t:Int) (d:List UInt8) (a b:Int):List UInt8×Int:=
 if ¬((0≤f∧f≤65535)∧(0≤t∧t≤65535)) then ([],1) else if 65507<d.length then ([],2) else (wR f t ((d.length:Int)+8)++wd (VO f t d a b)++d,0)
set_option maxHeartbeats 2000000 in
theorem gX (f t:Int) (d:List UInt8) (a b:Int) (ha:0≤a∧a<4294967296) (hb:0≤b∧b<4294967296) (hd:d.length≤140737488351232):zi Tryz.prog 38 [dL f t d,.v (.int .u32 a),.v (.int .u32 b)] (dSE (rz f t d a b)):=by
 by_cases hf:0≤f∧f≤65535
 ·by_cases ht:0≤t∧t≤65535
  ·by_cases hl:65507<d.length
   ·have hr:rz f t d a b=([],2):=by unfold rz;rw [if_neg (not_not_intro ⟨hf,ht⟩),if_pos hl]
    rw [hr]
    refine z7 {} 0 Tryz.func38 fun Γ hW=>auC ?_
    repeat' first|refine auS ?_|(first|(simp only [zu,za])|(simp only [e1])|(simp only [e2])|(simp only [e3])|(with_reducible refine z6 (vg _) ?_)|(with_reducible refine z6 hu ?_)|(with_reducible refine z6 hv ?_)|(with_reducible refine z6 hs ?_)|(with_reducible refine z6 ho ?_)|(with_reducible refine z6 (xn _) ?_))|refine auD ?_|(refine auW ?_ ?_<;>intro h<;>try exact auH)|(refine zf (by simp only [zu,za,List.length_append,zZ,xq,yP,wR,List.length_take,List.length_drop];omega) ?_)
    all_goals try exact auP
    all_goals refine auV ?_
    all_goals try exact zc
    all_goals try simp only [hsM] at *
    all_goals rfl
   ·have hr:rz f t d a b=(wR f t ((d.length:Int)+8)++wd (VO f t d a b)++d,0):=by unfold rz;rw [if_neg (not_not_intro ⟨hf,ht⟩),if_neg hl]
    rw [hr]
    have e1:IntKind.i64.wrap (8+(d.length:Nat))=(d.length:Int)+8:=by rw [IntWalk.i64_in _ (by omega)];omega
    have hu:=qb a b 17 ((d.length:Int)+8) ha hb
    have hs:=dW (und a b 17 ((d.length:Int)+8)++(wd f++wd t++wd ((d.length:Int)+8))++d) (by simp only [List.length_append,zZ,yP];omega)
    have hbd:=uf (x8 (und a b 17 ((d.length:Int)+8)++(wd f++wd t++wd ((d.length:Int)+8))++d)) (ri _).1
    unfold VO wR
    generalize yw (x8 (und a b 17 ((d.length:Int)+8)++(wd f++wd t++wd ((d.length:Int)+8))++d))=c at *
    have e2:IntKind.i64.wrap (65535-c)=65535-c:=IntWalk.i64_in _ (by omega)
    have e3:IntKind.i64.wrap 65535=65535:=by decide
    by_cases hc:c=65535
    ·rw [if_pos hc]
     refine z7 {} 0 Tryz.func38 fun Γ hW=>auC ?_
     repeat' first|refine auS ?_|(first|(simp only [zu,za])|(simp only [e1])|(simp only [e2])|(simp only [e3])|(with_reducible refine z6 (vg _) ?_)|(with_reducible refine z6 hu ?_)|(with_reducible refine z6 hv ?_)|(with_reducible refine z6 hs ?_)|(with_reducible refine z6 ho ?_)|(with_reducible refine z6 (xn _) ?_))|refine auD ?_|(refine auW ?_ ?_<;>intro h<;>try exact auH)|(refine zf (by simp only [zu,za,List.length_append,zZ,xq,yP,wR,List.length_take,List.length_drop];omega) ?_)
     all_goals try exact auP
     all_goals refine auV ?_
     all_goals try exact zc
     all_goals try simp only [hsM] at *
     all_goals rfl
    ·rw [if_neg hc]
     refine z7 {} 0 Tryz.func38 fun Γ hW=>auC ?_
     repeat' first|refine auS ?_|(first|(simp only [zu,za])|(simp only [e1])|(simp only [e2])|(simp only [e3])|(with_reducible refine z6 (vg _) ?_)|(with_reducible refine z6 hu ?_)|(with_reducible refine z6 hv ?_)|(with_reducible refine z6 hs ?_)|(with_reducible refine z6 ho ?_)|(with_reducible refine z6 (xn _) ?_))|refine auD ?_|(refine auW ?_ ?_<;>intro h<;>try exact auH)|(refine zf (by simp only [zu,za,List.length_append,zZ,xq,yP,wR,List.length_take,List.length_drop];omega) ?_)
     all_goals try exact auP
     all_goals refine auV ?_
     all_goals try exact zc
     all_goals try simp only [hsM] at *
     all_goals rfl
  ·have hr:rz f t d a b=([],1):=by unfold rz;rw [if_pos (fun q=>ht q.2)]
   rw [hr]
   refine z7 {} 0 Tryz.func38 fun Γ hW=>auC ?_
   repeat' first|refine auS ?_|(first|(simp only [zu,za])|(simp only [e1])|(simp only [e2])|(simp only [e3])|(with_reducible refine z6 (vg _) ?_)|(with_reducible refine z6 hu ?_)|(with_reducible refine z6 hv ?_)|(with_reducible refine z6 hs ?_)|(with_reducible refine z6 ho ?_)|(with_reducible refine z6 (xn _) ?_))|refine auD ?_|(refine auW ?_ ?_<;>intro h<;>try exact auH)|(refine zf (by simp only [zu,za,List.length_append,zZ,xq,yP,wR,List.length_take,List.length_drop];omega) ?_)
   all_goals try exact auP
   all_goals refine auV ?_
   all_goals try exact zc
   all_goals try simp only [hsM] at *
   all_goals rfl
 ·have hr:rz f t d a b=([],1):=by unfold rz;rw [if_pos (fun q=>hf q.1)]
  rw [hr]
  refine z7 {} 0 Tryz.func38 fun Γ hW=>auC ?_
  repeat' first|refine auS ?_|(first|(simp only [zu,za])|(simp only [e1])|(simp only [e2])|(simp only [e3])|(with_reducible refine z6 (vg _) ?_)|(with_reducible refine z6 hu ?_)|(with_reducible refine z6 hv ?_)|(with_reducible refine z6 hs ?_)|(with_reducible refine z6 ho ?_)|(with_reducible refine z6 (xn _) ?_))|refine auD ?_|(refine auW ?_ ?_<;>intro h<;>try exact auH)|(refine zf (by simp only [zu,za,List.length_append,zZ,xq,yP,wR,List.length_take,List.length_drop];omega) ?_)
  all_goals try exact auP
  all_goals refine auV ?_
  all_goals try exact zc
  all_goals try simp only [hsM] at *
  all_goals rfl
end Go.Proofs.YtaiileiodjicpaaGreatDoor
