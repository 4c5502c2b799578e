import Derived.Test.YtmibknbmhcnemaaGreatDoorTw41
import Derived.Test.YtmibknbmhcnemaaGreatDoorTw06
set_option linter.unusedVariables false
set_option linter.unusedSimpArgs false
namespace Go.Proofs.YtmibknbmhcnemaaGreatDoor.E
attribute [local irreducible] zu Go
set_option maxRecDepth 100000
theorem lP (x y:Mc):(decide (x.a=y.a)&&(decide (x.b=y.b)&&(decide (x.c=y.c)&&(decide (x.d=y.d)&&(decide (x.e=y.e)&&decide (x.f=y.f))))))=decide (x=y):=by
 obtain ⟨a1,a2,a3,a4,a5,a6⟩:=x
 obtain ⟨b1,b2,b3,b4,b5,b6⟩:=y
 rw [Bool.eq_iff_iff]
 simp
theorem YH {P:Int} {pre:List Sn} {s:Sn} (h:okB P pre s=true):(0≤s.p∧s.p<P)∧(0≤s.t∧s.t≤1099511627776)∧s.m.many=false:=by
 unfold okB at h
 simp only [Bool.and_eq_true,decide_eq_true_eq,Bool.not_eq_true'] at h
 exact ⟨h.1.1.1,h.1.1.2,h.1.2⟩
def xK (L now:Int) (m:Mc) (s:Sn):Bool:=decide (s.m=m)&&decide (now-s.t≤L)
def tm (s:Sn):Prop:=0≤s.t∧s.t≤1099511627776
set_option maxHeartbeats 2000000 in
theorem mB (P L now:Int) (m:Mc) (l:List Sn) (cl:Bool) (hl:l.length≤64) (ht:∀s∈l,tm s) (hn:0≤now∧now≤1099511627776):zc Tryz.prog 27 [dB P L l cl,.agg m.enc,.v (.int .i64 now)] (.tup [.v (.int .i64 ((l.find? (xK L now m)).elim 0 (·.p))),.v (.bool (l.find? (xK L now m)).isSome)]):=by
 refine z3 {} 0 Tryz.func27 fun Γ hW=>auC ?_
 repeat' first|refine auS ?_|fail|refine auD ?_|(refine auW ?_ ?_<;>intro h<;>try exact auH)|fail
 all_goals try exact auP
 refine zx (α:=Nat×Nat) (fun p=>[(⟨.d0,.d1,.d5⟩,.v (.int .i64 (p.1:Nat)))]) (fun _=>[(2,none)]) (fun p=>p.2) (fun p=>l.length-p.1) (fun p=>p.1≤l.length∧l.find? (xK L now m)=(l.drop p.1).find? (xK L now m)) (0,Γ.g0+1+1) ⟨Nat.zero_le _,rfl⟩ ?_ ?_
 ·skip
  refine zp ?_ ?_ (Nat.le_refl _)
  all_goals first|refine auE ?_|exact zJ
  all_goals repeat' first|exact trivial|exact rfl|apply And.intro
 rintro ⟨k,gn⟩ ⟨hk,hg⟩
 dsimp only at hk hg ⊢
 refine auL ?_
 by_cases hlt:k<l.length
 ·obtain ⟨t,hat⟩:∃t,l[k]?=some t:=⟨_,List.getElem?_eq_getElem hlt⟩
  have ex:=l6 hat
  have htt:=ht t (List.mem_of_getElem? hat)
  unfold tm at htt
  have hw:IntKind.i64.wrap (now-t.t)=now-t.t:=IntWalk.i64_in _ (by omega)
  have hsame:=lP t.m m
  have hd:l.drop k=t::l.drop (k+1):=by
   rw [List.drop_eq_getElem_cons hlt]
   congr 1
   exact Option.some.inj ((List.getElem?_eq_getElem hlt).symm.trans hat)
  rw [hd,List.find?_cons] at hg
  repeat' first|refine auS ?_|(simp only [hsame,hw])|refine auD ?_|(refine auW ?_ ?_<;>intro h<;>try exact auH)|(simp only [Int.toNat_natCast,ex])
  all_goals try exact auP
  ·have ha:xK L now m t=true:=by simp [xK, *]
   rw [ha] at hg
   all_goals refine auV ?_
   all_goals try exact z9
   all_goals try simp only [hsM] at *
   rw [hg]
   rfl
  all_goals
  have ha:xK L now m t=false:=by simp [xK, *]
  rw [ha] at hg
  refine zo ⟨(k+1,gn+1),⟨hlt,hg⟩,Nat.sub_lt_sub_left hlt (Nat.lt_succ_self k),?_⟩
  refine zp ?_ ?_ (Nat.le_refl _)
  all_goals first|refine auE ?_|exact zJ
  all_goals repeat' first|exact trivial|exact rfl|apply And.intro
  all_goals exact zL ((IntWalk.i64_in _ (by omega)).trans (by omega))
 ·obtain rfl:k=l.length:=by omega
  rw [List.drop_length] at hg
  repeat' first|refine auS ?_|fail|refine auD ?_|(refine auW ?_ ?_<;>intro h<;>try exact auH)|fail
  all_goals try exact auP
  all_goals refine auV ?_
  all_goals try exact z9
  all_goals try simp only [hsM] at *
  rw [hg]
  rfl
theorem n6 {P L:Int} {l:List Sn} (h:vM P L l=0):((2≤P∧P≤16)∧(1≤L∧L≤1000000))∧l.length≤64∧yc (okB P) [] l=true:=by
 unfold vM at h
 split at h
 ·cases h
 ·rename_i h1
  split at h
  ·cases h
  ·rename_i h2
   split at h
   ·rename_i h3
    exact ⟨by omega,by omega,h3⟩
   ·cases h
theorem Z4 {P:Int} {l:List Sn} (h:yc (okB P) [] l=true):∀s∈l,(0≤s.p∧s.p<P)∧tm s:=by
 intro s hs
 obtain ⟨j,hj⟩:=List.mem_iff_getElem?.1 hs
 have:=YH (uM h hj)
 exact ⟨this.1,this.2.1⟩
end Go.Proofs.YtmibknbmhcnemaaGreatDoor.E
namespace Go.Proofs.YtmibknbmhcnemaaGreatDoor.E
attribute [local irreducible] zu Go
set_option maxRecDepth 100000
theorem fW (n:Int) (h0:0≤n) (h1:n<2 ^ 62):IntKind.i64.wrap n=n:=IntWalk.i64_in _ (by omega)
theorem eH (a b:Int) (h0:0≤a) (h1:a<256) (h2:0≤b) (h3:b<256):bits .or .i64 (IntKind.i64.wrap (a*2 ^ 8)) b=256*a+b:=by
 rw [IntWalk.i64_in (a*2 ^ 8) (by omega),bits_join .i64 62 (by decide) fW 8 _ _ (by omega) (by omega) (by omega) h2 (by omega) (by omega)]
 omega
theorem Xh:min 8 IntKind.i64.bits=8:=rfl
def wI (l:List UInt8) (i:Nat):Int:=256*(bN l i:Nat)+(bN l (i+1):Nat)
theorem rr (l:List UInt8) (i:Nat) (hi:i+1<l.length) (hl:l.length≤9223372036854775806) (ii:Int) (hii:ii=(i:Nat)):zc Tryz.prog 30 [.v (.string (mkS l)),.v (.int .i64 ii)] (.v (.int .i64 (wI l i))):=by
 subst hii
 have hb:=xf l i
 have hb2:=xf l (i+1)
 have e1:IntKind.i64.wrap (bN l i:Nat)=(bN l i:Nat):=IntWalk.i64_in _ (by omega)
 have e2:IntKind.i64.wrap (bN l (i+1):Nat)=(bN l (i+1):Nat):=IntWalk.i64_in _ (by omega)
 have e3:IntKind.i64.wrap ((i:Int)+1)=((i+1:Nat):Int):=by rw [IntWalk.i64_in _ (by omega)];omega
 have e5:bits .or .i64 (IntKind.i64.wrap ((bN l i:Nat)*2 ^ 8)) (bN l (i+1):Nat)=wI l i:=eH _ _ (by omega) (by omega) (by omega) (by omega)
 refine z3 {} 0 Tryz.func30 fun Γ hW=>auC ?_
 repeat' first|refine auS ?_|(simp only [z5,zU,Xh,e1,e2,e3,e5,Int.toNat_natCast])|refine auD ?_|(refine auW ?_ ?_<;>intro h<;>try exact auH)|fail
 all_goals try exact auP
 all_goals refine auV ?_
 all_goals try exact z9
 all_goals try simp only [hsM] at *
def ym (l:List UInt8) (i:Nat):Mc:=⟨(bN l i:Nat),(bN l (i+1):Nat),(bN l (i+2):Nat),(bN l (i+3):Nat),(bN l (i+4):Nat),(bN l (i+5):Nat)⟩
def frE (l:List UInt8):Int:=if l.length<14 then 3 else if wI l 12=33024 then (if l.length<18 then 3 else if 4095<wI l 14 then 4 else if 65535<l.length-18 then 2 else 0) else if 65535<l.length-14 then 2 else 0
def dF (a b:Mc) (v t:Int) (d:List UInt8):DV:=.agg [.v (.int .u8 a.a),.v (.int .u8 a.b),.v (.int .u8 a.c),.v (.int .u8 a.d),.v (.int .u8 a.e),.v (.int .u8 a.f),.v (.int .u8 b.a),.v (.int .u8 b.b),.v (.int .u8 b.c),.v (.int .u8 b.d),.v (.int .u8 b.e),.v (.int .u8 b.f),.v (.int .i64 v),.v (.int .i64 t),.v (.string (mkS d))]
def mc0:Mc:=⟨0,0,0,0,0,0⟩
def frD (l:List UInt8):DV:=if frE l=0 then (if wI l 12=33024 then dF (ym l 0) (ym l 6) (wI l 14) (wI l 16) (l.drop 18) else dF (ym l 0) (ym l 6) (-1) (wI l 12) (l.drop 14)) else dF mc0 mc0 0 0 []
theorem ce {l:List UInt8} (h:12≤l.length):∃b0 b1 b2 b3 b4 b5 b6 b7 b8 b9 b10 b11 r,l=b0::b1::b2::b3::b4::b5::b6::b7::b8::b9::b10::b11::r:=by
 rcases l with _|⟨b0,_|⟨b1,_|⟨b2,_|⟨b3,_|⟨b4,_|⟨b5,_|⟨b6,_|⟨b7,_|⟨b8,_|⟨b9,_|⟨b10,_|⟨b11,r⟩⟩⟩⟩⟩⟩⟩⟩⟩⟩⟩⟩
 all_goals first
  |(exfalso;simp at h;done)
  |exact ⟨_,_,_,_,_,_,_,_,_,_,_,_,_,rfl⟩
theorem Xy (l:List UInt8) (h:12≤l.length):yH ((mkS l).extract 0 6)=[[.v (.int .u8 (bN l 0:Nat))],[.v (.int .u8 (bN l 1:Nat))],[.v (.int .u8 (bN l 2:Nat))],[.v (.int .u8 (bN l 3:Nat))],[.v (.int .u8 (bN l 4:Nat))],[.v (.int .u8 (bN l 5:Nat))]]:=by
 obtain ⟨b0,b1,b2,b3,b4,b5,b6,b7,b8,b9,b10,b11,r,rfl⟩:=ce h
 rw [yY]
 rfl
theorem YS (l:List UInt8) (h:12≤l.length):yH ((mkS l).extract 6 12)=[[.v (.int .u8 (bN l 6:Nat))],[.v (.int .u8 (bN l 7:Nat))],[.v (.int .u8 (bN l 8:Nat))],[.v (.int .u8 (bN l 9:Nat))],[.v (.int .u8 (bN l 10:Nat))],[.v (.int .u8 (bN l 11:Nat))]]:=by
 obtain ⟨b0,b1,b2,b3,b4,b5,b6,b7,b8,b9,b10,b11,r,rfl⟩:=ce h
 rw [yY]
 rfl
theorem rN (l:List UInt8) (a:Nat) (h:a≤l.length):(mkS l).extract a l.length=mkS (l.drop a):=by
 rw [yY,List.take_of_length_le (by simp)]
theorem lB (l:List UInt8) (a i:Nat):wI (l.drop a) i=wI l (a+i):=by
 unfold wI bN
 rw [List.getElem?_drop,List.getElem?_drop]
 rfl
set_option maxHeartbeats 2000000 in
theorem r5 (l:List UInt8) (hl:l.length≤140737488351232):zc Tryz.prog 9 [.v (.string (mkS l))] (.tup [frD l,.v (.int .i64 (frE l))]):=by
 by_cases h14:l.length<14
 ·have he:frE l=3:=by unfold frE;rw [if_pos h14]
  have hd:frD l=dF mc0 mc0 0 0 []:=by unfold frD;rw [if_neg (by omega)]
  rw [hd,he]
  refine z3 {} 0 Tryz.func9 fun Γ hW=>auC ?_
  repeat' first|refine auS ?_|(simp only [z5])|refine auD ?_|(refine auW ?_ ?_<;>intro h<;>try exact auH)|fail
  all_goals try exact auP
  all_goals refine auV ?_
  all_goals try exact z9
  all_goals try simp only [hsM] at *
  all_goals rfl
 have r1:=Xy l (by omega)
 have r2:=YS l (by omega)
 have t1:=rN l 12 (by omega)
 have w1:=rr (l.drop 12) 0 (by simp;omega) (by simp;omega) 0 rfl
 rw [lB] at w1
 by_cases hv:wI l 12=33024
 ·rw [hv] at w1
  by_cases h18:l.length<18
  ·have he:frE l=3:=by unfold frE;rw [if_neg h14,if_pos hv,if_pos h18]
   have hd:frD l=dF mc0 mc0 0 0 []:=by unfold frD;rw [if_neg (by omega)]
   rw [hd,he]
   have t2:=t1
   have t3:=t1
   have w2:=w1
   have w3:=w1
   refine z3 {} 0 Tryz.func9 fun Γ hW=>auC ?_
   repeat' first|refine auS ?_|(first|(simp only [r1,r2,t1,Int.toNat_natCast])|(simp only [t2,t3])|(simp only [z5,List.length_drop])|(with_reducible refine z0 w1 ?_)|(with_reducible refine z0 w2 ?_)|(with_reducible refine z0 w3 ?_))|refine auD ?_|(refine auW ?_ ?_<;>intro h<;>try exact auH)|(first|(refine z_ ⟨rfl,by decide,by simp⟩ ?_)|(refine z_ (by simp only [z5,List.length_drop];omega) ?_)|fail)
   all_goals try exact auP
   all_goals first
    |(exfalso;simp only [List.length_drop,decide_eq_true_eq,decide_eq_false_iff_not] at *;omega)
    |skip
   all_goals refine auV ?_
   all_goals try exact z9
   all_goals try simp only [hsM] at *
   all_goals rfl
  have w2:=rr (l.drop 12) 2 (by simp;omega) (by simp;omega) 2 rfl
  rw [lB] at w2
  have t2:=rN (l.drop 12) 4 (by simp;omega)
  rw [List.drop_drop,List.length_drop] at t2
  have w3:=rr (l.drop 16) 0 (by simp;omega) (by simp;omega) 0 rfl
  rw [lB] at w3
  have t3:=rN (l.drop 16) 2 (by simp;omega)
  rw [List.drop_drop,List.length_drop] at t3
  by_cases hb:4095<wI l 14
  ·have he:frE l=4:=by unfold frE;rw [if_neg h14,if_pos hv,if_neg h18,if_pos hb]
   have hd:frD l=dF mc0 mc0 0 0 []:=by unfold frD;rw [if_neg (by omega)]
   rw [hd,he]
   refine z3 {} 0 Tryz.func9 fun Γ hW=>auC ?_
   repeat' first|refine auS ?_|(first|(simp only [r1,r2,t1,Int.toNat_natCast])|(simp only [t2,t3])|(simp only [z5,List.length_drop])|(with_reducible refine z0 w1 ?_)|(with_reducible refine z0 w2 ?_)|(with_reducible refine z0 w3 ?_))|refine auD ?_|(refine auW ?_ ?_<;>intro h<;>try exact auH)|(first|(refine z_ ⟨rfl,by decide,by simp⟩ ?_)|(refine z_ (by simp only [z5,List.length_drop];omega) ?_)|fail)
   all_goals try exact auP
   all_goals first
    |(exfalso;simp only [List.length_drop,decide_eq_true_eq,decide_eq_false_iff_not] at *;omega)
    |skip
   all_goals refine auV ?_
   all_goals try exact z9
   all_goals try simp only [hsM] at *
   all_goals rfl
  by_cases hc:65535<l.length-18
  ·have he:frE l=2:=by unfold frE;rw [if_neg h14,if_pos hv,if_neg h18,if_neg hb,if_pos hc]
   have hd:frD l=dF mc0 mc0 0 0 []:=by unfold frD;rw [if_neg (by omega)]
   rw [hd,he]
   refine z3 {} 0 Tryz.func9 fun Γ hW=>auC ?_
   repeat' first|refine auS ?_|(first|(simp only [r1,r2,t1,Int.toNat_natCast])|(simp only [t2,t3])|(simp only [z5,List.length_drop])|(with_reducible refine z0 w1 ?_)|(with_reducible refine z0 w2 ?_)|(with_reducible refine z0 w3 ?_))|refine auD ?_|(refine auW ?_ ?_<;>intro h<;>try exact auH)|(first|(refine z_ ⟨rfl,by decide,by simp⟩ ?_)|(refine z_ (by simp only [z5,List.length_drop];omega) ?_)|fail)
   all_goals try exact auP
   all_goals first
    |(exfalso;simp only [List.length_drop,decide_eq_true_eq,decide_eq_false_iff_not] at *;omega)
    |skip
   all_goals refine auV ?_
   all_goals try exact z9
   all_goals try simp only [hsM] at *
   all_goals rfl
  ·have he:frE l=0:=by unfold frE;rw [if_neg h14,if_pos hv,if_neg h18,if_neg hb,if_neg hc]
   have hd:frD l=dF (ym l 0) (ym l 6) (wI l 14) (wI l 16) (l.drop 18):=by unfold frD;rw [if_pos he,if_pos hv]
   rw [hd,he]
   refine z3 {} 0 Tryz.func9 fun Γ hW=>auC ?_
   repeat' first|refine auS ?_|(first|(simp only [r1,r2,t1,Int.toNat_natCast])|(simp only [t2,t3])|(simp only [z5,List.length_drop])|(with_reducible refine z0 w1 ?_)|(with_reducible refine z0 w2 ?_)|(with_reducible refine z0 w3 ?_))|refine auD ?_|(refine auW ?_ ?_<;>intro h<;>try exact auH)|(first|(refine z_ ⟨rfl,by decide,by simp⟩ ?_)|(refine z_ (by simp only [z5,List.length_drop];omega) ?_)|fail)
   all_goals try exact auP
   all_goals first
    |(exfalso;simp only [List.length_drop,decide_eq_true_eq,decide_eq_false_iff_not] at *;omega)
    |skip
   all_goals refine auV ?_
   all_goals try exact z9
   all_goals try simp only [hsM] at *
   all_goals rfl
 ·have t3:=rN (l.drop 12) 2 (by simp;omega)
  rw [List.drop_drop,List.length_drop] at t3
  have w2:=w1
  have t2:=t1
  have w3:=w1
  by_cases hc:65535<l.length-14
  ·have he:frE l=2:=by unfold frE;rw [if_neg h14,if_neg hv,if_pos hc]
   have hd:frD l=dF mc0 mc0 0 0 []:=by unfold frD;rw [if_neg (by omega)]
   rw [hd,he]
   refine z3 {} 0 Tryz.func9 fun Γ hW=>auC ?_
   repeat' first|refine auS ?_|(first|(simp only [r1,r2,t1,Int.toNat_natCast])|(simp only [t2,t3])|(simp only [z5,List.length_drop])|(with_reducible refine z0 w1 ?_)|(with_reducible refine z0 w2 ?_)|(with_reducible refine z0 w3 ?_))|refine auD ?_|(refine auW ?_ ?_<;>intro h<;>try exact auH)|(first|(refine z_ ⟨rfl,by decide,by simp⟩ ?_)|(refine z_ (by simp only [z5,List.length_drop];omega) ?_)|fail)
   all_goals try exact auP
   all_goals first
    |(exfalso;simp only [List.length_drop,decide_eq_true_eq,decide_eq_false_iff_not] at *;omega)
    |skip
   all_goals refine auV ?_
   all_goals try exact z9
   all_goals try simp only [hsM] at *
   all_goals rfl
  ·have he:frE l=0:=by unfold frE;rw [if_neg h14,if_neg hv,if_neg hc]
   have hd:frD l=dF (ym l 0) (ym l 6) (-1) (wI l 12) (l.drop 14):=by unfold frD;rw [if_pos he,if_neg hv]
   rw [hd,he]
   refine z3 {} 0 Tryz.func9 fun Γ hW=>auC ?_
   repeat' first|refine auS ?_|(first|(simp only [r1,r2,t1,Int.toNat_natCast])|(simp only [t2,t3])|(simp only [z5,List.length_drop])|(with_reducible refine z0 w1 ?_)|(with_reducible refine z0 w2 ?_)|(with_reducible refine z0 w3 ?_))|refine auD ?_|(refine auW ?_ ?_<;>intro h<;>try exact auH)|(first|(refine z_ ⟨rfl,by decide,by simp⟩ ?_)|(refine z_ (by simp only [z5,List.length_drop];omega) ?_)|fail)
   all_goals try exact auP
   all_goals first
    |(exfalso;simp only [List.length_drop,decide_eq_true_eq,decide_eq_false_iff_not] at *;omega)
    |skip
   all_goals refine auV ?_
   all_goals try exact z9
   all_goals try simp only [hsM] at *
   all_goals rfl
end Go.Proofs.YtmibknbmhcnemaaGreatDoor.E
