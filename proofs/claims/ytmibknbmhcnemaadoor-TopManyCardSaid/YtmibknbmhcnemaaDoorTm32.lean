import Derived.Test.YtmibknbmhcnemaaDoorTm26
set_option linter.unusedVariables false
set_option linter.unusedSimpArgs false
namespace Go.Proofs.YtmibknbmhcnemaaDoor
attribute [local irreducible] zz Go
set_option maxRecDepth 100000
theorem yQ (l:List UInt8) (i:Nat) (hi:i+1<l.length) (hl:l.length≤9223372036854775806) (ii:Int) (hii:ii=(i:Nat)):zf Tryd.prog 47 [.v (.string (mkS l)),.v (.int .i64 ii)] (.v (.int .i64 (z3 l i))):=by
 subst hii
 have hb:=xC l i
 have hb2:=xC l (i+1)
 have e1:IntKind.i64.wrap (bN l i:Nat)=(bN l i:Nat):=IntWalk.i64_in _ (by omega)
 have e2:IntKind.i64.wrap (bN l (i+1):Nat)=(bN l (i+1):Nat):=IntWalk.i64_in _ (by omega)
 have e3:IntKind.i64.wrap ((i:Int)+1)=((i+1:Nat):Int):=by rw [IntWalk.i64_in _ (by omega)];omega
 have e5:bits .or .i64 (IntKind.i64.wrap ((bN l i:Nat)*2 ^ 8)) (bN l (i+1):Nat)=z3 l i:=oc _ _ (by omega) (by omega) (by omega) (by omega)
 refine z4 {} 0 Tryd.func47 fun Γ hW=>auC ?_
 repeat' first|refine auS ?_|(simp only [z5,zQ,dj,e1,e2,e3,e5,Int.toNat_natCast])|refine auD ?_|(refine auW ?_ ?_<;>intro h<;>try exact auH)|fail
 all_goals try exact auP
 all_goals refine auV ?_
 all_goals try exact z_
 all_goals try simp only [hsM] at *
theorem tu (l:List UInt8) (i:Nat) (hi:i+3<l.length) (hl:l.length≤9223372036854775800) (ii:Int) (hii:ii=(i:Nat)):zf Tryd.prog 48 [.v (.string (mkS l)),.v (.int .i64 ii)] (.v (.int .u32 (wY l i))):=by
 subst hii
 have h1:=yQ l i (by omega) (by omega) i rfl
 have h2:=yQ l (i+2) (by omega) (by omega) ((i:Int)+2) (by omega)
 have b1:=zo l i
 have b2:=zo l (i+2)
 have m2:min 16 IntKind.u32.bits=16:=rfl
 have e0:IntKind.i64.wrap ((i:Int)+2)=(i:Int)+2:=IntWalk.i64_in _ (by omega)
 have e1:IntKind.u32.wrap (z3 l i)=z3 l i:=IntWalk.u32_in _ (by omega)
 have e2:IntKind.u32.wrap (z3 l (i+2))=z3 l (i+2):=IntWalk.u32_in _ (by omega)
 have e3:bits .or .u32 (IntKind.u32.wrap (z3 l i*2 ^ 16)) (z3 l (i+2))=wY l i:=by
  rw [IntWalk.u32_in _ (by omega),nr 16 _ _ (by omega) (by omega) (by omega) (by omega) (by omega) (by omega)]
  unfold wY;omega
 refine z4 {} 0 Tryd.func48 fun Γ hW=>auC ?_
 repeat' first|refine auS ?_|(first|(simp only [m2,e0,e1,e2,e3])|(with_reducible refine z0 h1 ?_)|(with_reducible refine z0 h2 ?_))|refine auD ?_|(refine auW ?_ ?_<;>intro h<;>try exact auH)|fail
 all_goals try exact auP
 all_goals refine auV ?_
 all_goals try exact z_
 all_goals try simp only [hsM] at *
structure Op2 where
 (k:Int) (d:List UInt8)
deriving DecidableEq
abbrev Op2.enc (t:Op2):List DV:=[.v (.int .i64 t.k),.v (.string (mkS t.d))]
structure Sg where
 (fr to seq ack flags win urg:Int) (opts:List Op2) (data:List UInt8)
abbrev Sg.enc (g:Sg):List DV:=[.v (.int .i64 g.fr),.v (.int .i64 g.to),.v (.int .u32 g.seq),.v (.int .u32 g.ack),.v (.int .i64 g.flags),.v (.int .i64 g.win),.v (.int .i64 g.urg),.snap 2 (g.opts.map Op2.enc) false,.v (.string (mkS g.data))]
abbrev dG (g:Sg):DV:=.agg g.enc
end Go.Proofs.YtmibknbmhcnemaaDoor
namespace Go.Proofs.YtmibknbmhcnemaaDoor
theorem emR:(ByteArray.mk #[]:ByteArray)=mkS []:=rfl
def zer (s:List UInt8):Bool:=s.all (fun b=>decide (b=0))
theorem o0 {s:List UInt8} (h:¬bN s 0=0):zer s=false:=by
 cases s with
 |nil=>exact absurd rfl h
 |cons b r=>
  have:¬b=0:=fun e=>h (by subst e;rfl)
  simp [zer,this]
theorem ZB {s:List UInt8} (h:zer s=false):0<s.length:=by
 cases s with
 |nil=>cases h
 |cons b r=>simp
def prs (s:List UInt8):Option (List Op2):=
 if hz:zer s=true then some []
 else if bN s 0=0 then none
 else if bN s 0=1 then (prs (s.drop 1)).map (fun l=>⟨1,[]⟩::l)
 else if hn:2≤s.length∧2≤bN s 1∧bN s 1≤s.length then (prs (s.drop (bN s 1))).map (fun l=>⟨(bN s 0:Nat),(s.drop 2).take (bN s 1-2)⟩::l)
 else none
termination_by s.length
decreasing_by
 ·have:=ZB (Bool.eq_false_iff.2 hz)
  simp;omega
 ·simp;omega
theorem lY {s:List UInt8} (h:zer s=true):prs s=some []:=by rw [prs,dif_pos h]
theorem aq {s:List UInt8} (h:zer s=false) (h0:bN s 0=0):prs s=none:=by rw [prs,dif_neg (by rw [h];simp),if_pos h0]
theorem Zs {s:List UInt8} (h:bN s 0=1):prs s=(prs (s.drop 1)).map (fun l=>⟨1,[]⟩::l):=by
 rw [prs,dif_neg (by rw [o0 (by omega)];simp),if_neg (by omega),if_pos h]
theorem YZ {s:List UInt8} (h:2≤bN s 0) (hn:2≤s.length∧2≤bN s 1∧bN s 1≤s.length):prs s=(prs (s.drop (bN s 1))).map (fun l=>⟨(bN s 0:Nat),(s.drop 2).take (bN s 1-2)⟩::l):=by
 rw [prs,dif_neg (by rw [o0 (by omega)];simp),if_neg (by omega),if_neg (by omega),dif_pos hn]
theorem Yc {s:List UInt8} (h:2≤bN s 0) (hn:¬(2≤s.length∧2≤bN s 1∧bN s 1≤s.length)):prs s=none:=by
 rw [prs,dif_neg (by rw [o0 (by omega)];simp),if_neg (by omega),if_neg (by omega),dif_neg hn]
def prR (s:List UInt8):List Op2×Bool:=match prs s with
 |some l=>(l,true)
 |none=>([],false)
theorem oO {s:List UInt8} {l:List Op2} (h:prs s=some l):prR s=(l,true):=by unfold prR;rw [h]
theorem o9 {s:List UInt8} (h:prs s=none):prR s=([],false):=by unfold prR;rw [h]
abbrev dPr (r:List Op2×Bool):DV:=.tup [.snap 2 (r.1.map Op2.enc) false,.v (.bool r.2)]
theorem hU (s:List UInt8):zer s=true↔∀i,i<s.length→bN s i=0:=by
 unfold zer
 rw [List.all_eq_true]
 constructor
 ·intro h i hi
  have:=h s[i] (List.getElem_mem hi)
  have e:s[i]=0:=by simpa using this
  unfold bN
  rw [List.getElem?_eq_getElem hi,e]
  rfl
 ·intro h b hb
  obtain ⟨i,hi,rfl⟩:=List.mem_iff_getElem.1 hb
  have:=h i hi
  unfold bN at this
  rw [List.getElem?_eq_getElem hi] at this
  simp only [Option.getD_some] at this
  refine decide_eq_true ?_
  exact UInt8.toNat_inj.1 this
end Go.Proofs.YtmibknbmhcnemaaDoor
namespace Go.Proofs.YtmibknbmhcnemaaDoor
attribute [local irreducible] zz Go
set_option maxRecDepth 100000
set_option maxHeartbeats 4000000 in
theorem jD (s:List UInt8) (hs:s.length≤40):zf Tryd.prog 46 [.v (.string (mkS s))] (dPr (prR s)):=by
 refine z4 {same:=true} 0 Tryd.func46 fun Γ hW=>auC ?_
 repeat' first|refine auS ?_|fail|refine auD ?_|(refine auW ?_ ?_<;>intro h<;>try exact auH)|fail
 apply ZP
 ·exact uS ⟨.d0,.d0,.d4⟩ 1 2 rfl rfl
 refine auL ?_
 refine zE (α:=List Op2×List UInt8×Nat×Nat) (fun x=>[(⟨.d0,.d0,.d4⟩,.sl 1 x.2.2.1 2 0 x.1.length false),(⟨.d0,.d0,.d0⟩,.v (.string (mkS x.2.1)))]) (fun x=>[(0,none),(1,some ⟨x.2.2.1,2,x.1.map Op2.enc⟩),(2,none)]) (fun x=>x.2.2.2) (fun x=>x.2.1.length) (fun x=>prs s=(prs x.2.1).map (x.1 ++ ·)∧x.1.length+x.2.1.length≤40) ([],s,Γ.g0,Γ.g0+1) ⟨by simp,by simpa using hs⟩ ?_ ?_
 ·skip
  refine zt ?_ ?_ (Nat.le_refl _)
  all_goals first|refine auE ?_|exact zR
  all_goals repeat' first|exact trivial|exact rfl|apply And.intro
 rintro ⟨out,t,nm,gn⟩ ⟨hpr,hlen⟩
 dsimp only at hpr hlen ⊢
 refine auL ?_
 have hb0:=xC t 0
 have hb1:=xC t 1
 by_cases he:t=[]
 ·have hz:zer t=true:=by rw [he];rfl
  have hyes:prR s=(out,true):=oO (by rw [hpr,lY hz];simp)
  rw [hyes]
  have hl0:t.length=0:=by rw [he];rfl
  have hme:mkS t=mkS []:=by rw [he]
  repeat' first|refine auS ?_|(first|(simp only [hme])|(simp only [z5,List.length_nil,zQ,emR,uJ,Int.toNat_natCast]))|refine auD ?_|(refine auW ?_ ?_<;>intro h<;>try exact auH)|fail
  all_goals try exact auP
  all_goals first
   |(exfalso;simp at h;done)
   |skip
  refine zE (α:=Unit) (fun _=>[(⟨.d0,.d7,.d1⟩,.v (.int .i64 0))]) (fun _=>[]) (fun _=>gn) (fun _=>0) (fun _=>True) () trivial ?_ ?_
  ·skip
   refine zt ?_ ?_ (Nat.le_refl _)
   all_goals first|refine auE ?_|exact zR
   all_goals repeat' first|exact trivial|exact rfl|apply And.intro
  rintro ⟨⟩ -
  refine auL ?_
  repeat' first|refine auS ?_|(simp only [z5,List.length_nil])|refine auD ?_|(refine auW ?_ ?_<;>intro h<;>try exact auH)|fail
  all_goals try exact auP
  all_goals first
   |(exfalso;simp at h;done)
   |skip
  refine zw (zi hW ⟨.d0,.d0,.d2⟩ rfl rfl ⟨rfl,rfl,by simp⟩) ?_
  rw [qd (List.length_map _).symm]
  have hnf:yL Γ.g0 (out.map Op2.enc):=zj (fun x=>by simp [nfL,nfD])
  all_goals refine auV ?_
  all_goals try exact z_
  all_goals try simp only [hsM] at *
 have hpos:0<t.length:=List.length_pos_iff.2 he
 by_cases h0:bN t 0=0
 ·have hc0:((bN t 0:Nat):Int)=0:=by omega
  repeat' first|refine auS ?_|(first|(simp only [z5,zQ,emR,uJ,Int.toNat_natCast])|(simp only [hc0]))|refine auD ?_|(refine auW ?_ ?_<;>intro h<;>try exact auH)|fail
  all_goals try exact auP
  all_goals first
   |(exfalso;simp_all;done)
   |skip
  refine zE (α:=Nat) (fun i=>[(⟨.d0,.d7,.d1⟩,.v (.int .i64 (i:Nat)))]) (fun _=>[]) (fun _=>gn) (fun i=>t.length-i) (fun i=>i≤t.length∧∀k,k<i→bN t k=0) 0 ⟨Nat.zero_le _,fun k h=>absurd h (Nat.not_lt_zero _)⟩ ?_ ?_
  ·skip
   refine zt ?_ ?_ (Nat.le_refl _)
   all_goals first|refine auE ?_|exact zR
   all_goals repeat' first|exact trivial|exact rfl|apply And.intro
  rintro i ⟨hi,hp⟩
  dsimp only at hi hp ⊢
  refine auL ?_
  by_cases hlt:i<t.length
  ·by_cases hb:bN t i=0
   ·skip
    repeat' first|refine auS ?_|(simp only [z5,zQ,Int.toNat_natCast])|refine auD ?_|(refine auW ?_ ?_<;>intro h<;>try exact auH)|fail
    all_goals try exact auP
    all_goals first
     |(exfalso;simp_all;done)
     |skip
    refine zp ⟨i+1,⟨hlt,fun k hk=>?_⟩,by omega,?_⟩
    ·by_cases e:k=i
     ·rw [e];exact hb
     ·exact hp k (by omega)
    refine zt ?_ ?_ (Nat.le_refl _)
    all_goals first|refine auE ?_|exact zR
    all_goals repeat' first|exact trivial|exact rfl|apply And.intro
    all_goals exact y8 ((IntWalk.i64_in _ (by omega)).trans (by omega))
   ·have hz:zer t=false:=by
     cases hz:zer t with
     |false=>rfl
     |true=>exact absurd ((hU t).1 hz i hlt) hb
    have hno:prR s=([],false):=o9 (by rw [hpr,aq hz h0];rfl)
    rw [hno]
    have hbi:¬((bN t i:Nat):Int)=0:=by omega
    repeat' first|refine auS ?_|(simp only [z5,zQ,Int.toNat_natCast])|refine auD ?_|(refine auW ?_ ?_<;>intro h<;>try exact auH)|fail
    all_goals try exact auP
    all_goals first
     |(exfalso;simp_all;done)
     |skip
    refine zw (yZ (uS ⟨.d0,.d0,.d2⟩ 9 2 rfl rfl)) (zw (zi hW ⟨.d0,.d0,.d2⟩ rfl rfl ⟨rfl,rfl,by exact Nat.le_refl _⟩) ?_)
    dsimp only [zx,zD]
    all_goals refine auV ?_
    all_goals try exact z_
    all_goals try simp only [hsM] at *
    all_goals rfl
  ·have hz:zer t=true:=(hU t).2 (fun k hk=>hp k (by omega))
   have hyes:prR s=(out,true):=oO (by rw [hpr,lY hz];simp)
   rw [hyes]
   repeat' first|refine auS ?_|(simp only [z5])|refine auD ?_|(refine auW ?_ ?_<;>intro h<;>try exact auH)|fail
   all_goals try exact auP
   refine zw (zi hW ⟨.d0,.d0,.d2⟩ rfl rfl ⟨rfl,rfl,by simp⟩) ?_
   rw [qd (List.length_map _).symm]
   have hnf:yL Γ.g0 (out.map Op2.enc):=zj (fun x=>by simp [nfL,nfD])
   all_goals refine auV ?_
   all_goals try exact z_
   all_goals try simp only [hsM] at *
 have hx1:(mkS t).extract 1 t.length=mkS (t.drop 1):=by rw [xj,List.take_of_length_le (by simp)]
 by_cases h1:bN t 0=1
 ·have hc1:((bN t 0:Nat):Int)=1:=by omega
  repeat' first|refine auS ?_|(first|(simp only [z5,zQ,emR,uJ,Int.toNat_natCast])|(simp only [hc1])|(simp only [hx1]))|refine auD ?_|(refine auW ?_ ?_<;>intro h<;>try exact auH)|(first|(refine za ⟨by trivial,by trivial,by trivial,by trivial,by rw [List.length_map]⟩ ?_)|(refine za ⟨by rfl,by unfold y7 maxLen;rw [List.length_map];simp;omega⟩ ?_)|fail)
  all_goals try exact auP
  all_goals first
   |(exfalso;simp_all;done)
   |skip
  refine zp ⟨(out++[⟨1,[]⟩],t.drop 1,gn+1,gn+1+1),⟨?_,by simp;omega⟩,by simp;omega,?_⟩
  ·rw [hpr,Zs h1]
   cases prs (t.drop 1)<;>simp
  refine zt ?_ ?_ (Nat.le_refl _)
  all_goals first|refine auE ?_|exact zR
  all_goals repeat' first|exact trivial|exact rfl|apply And.intro
  all_goals first
   |(simp;done)
   |(refine congrArg some (congrArg (zc.mk _ 2) ?_);simp;done)
   |rfl
 by_cases hn:2≤t.length∧2≤bN t 1∧bN t 1≤t.length
 ·obtain ⟨n1,n2,n3⟩:=hn
  have e0:IntKind.i64.wrap ((bN t 0:Nat):Int)=((bN t 0:Nat):Int):=IntWalk.i64_in _ (by omega)
  have e1:IntKind.i64.wrap ((bN t 1:Nat):Int)=((bN t 1:Nat):Int):=IntWalk.i64_in _ (by omega)
  have hx2:(mkS t).extract 2 (bN t 1)=mkS ((t.drop 2).take (bN t 1-2)):=xj _ _ _
  have hx3:(mkS t).extract (bN t 1) t.length=mkS (t.drop (bN t 1)):=by rw [xj,List.take_of_length_le (by simp)]
  have hnx:=YZ (s:=t) (by omega) ⟨n1,n2,n3⟩
  have i0:¬((bN t 0:Nat):Int)=0:=by omega
  have i1:¬((bN t 0:Nat):Int)=1:=by omega
  repeat' first|refine auS ?_|(first|(simp only [z5,zQ,emR,uJ,e0,e1,Int.toNat_natCast])|(simp only [hx2,hx3]))|refine auD ?_|(refine auW ?_ ?_<;>intro h<;>try exact auH)|(first|(refine za ⟨by trivial,by trivial,by trivial,by trivial,by rw [List.length_map]⟩ ?_)|(refine za ⟨by rfl,by unfold y7 maxLen;rw [List.length_map];simp;omega⟩ ?_)|fail)
  all_goals try exact auP
  all_goals first
   |(exfalso;simp_all;done)
   |skip
  refine zp ⟨(out++[⟨(bN t 0:Nat),(t.drop 2).take (bN t 1-2)⟩],t.drop (bN t 1),gn+1,gn+1+1),⟨?_,by simp;omega⟩,by simp;omega,?_⟩
  ·rw [hpr,hnx]
   cases prs (t.drop (bN t 1))<;>simp
  refine zt ?_ ?_ (Nat.le_refl _)
  all_goals first|refine auE ?_|exact zR
  all_goals repeat' first|exact trivial|exact rfl|apply And.intro
  all_goals first
   |(simp;done)
   |(refine congrArg some (congrArg (zc.mk _ 2) ?_);simp;done)
   |rfl
 ·have hno:prR s=([],false):=o9 (by rw [hpr,Yc (by omega) hn];rfl)
  rw [hno]
  have e1:IntKind.i64.wrap ((bN t 1:Nat):Int)=((bN t 1:Nat):Int):=IntWalk.i64_in _ (by omega)
  have i0:¬((bN t 0:Nat):Int)=0:=by omega
  have i1:¬((bN t 0:Nat):Int)=1:=by omega
  repeat' first|refine auS ?_|(first|(simp only [z5,zQ,emR,uJ,e1,Int.toNat_natCast]))|refine auD ?_|(refine auW ?_ ?_<;>intro h<;>try exact auH)|fail
  all_goals try exact auP
  all_goals first
   |(exfalso;simp_all;done)
   |(exfalso;apply hn;simp_all;omega)
   |skip
  all_goals (refine zw (yZ (uS ⟨.d0,.d0,.d2⟩ 9 2 rfl rfl)) (zw (zi hW ⟨.d0,.d0,.d2⟩ rfl rfl ⟨rfl,rfl,by exact Nat.le_refl _⟩) ?_))
  all_goals dsimp only [zx,zD]
  all_goals refine auV ?_
  all_goals try exact z_
  all_goals try simp only [hsM] at *
  all_goals rfl
end Go.Proofs.YtmibknbmhcnemaaDoor
namespace Go.Proofs.YtmibknbmhcnemaaDoor
end Go.Proofs.YtmibknbmhcnemaaDoor
