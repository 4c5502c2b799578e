import Derived.Test.YtmibknbmhcnemaaGreatDoorHb19
set_option linter.unusedVariables false
set_option linter.unusedSimpArgs false
namespace Go.Proofs.YtmibknbmhcnemaaGreatDoor
attribute [local irreducible] zF Go
set_option maxRecDepth 100000
theorem xD (l:List UInt8) (i:Nat) (hi:i+1<l.length) (hl:l.length≤9223372036854775806) (ii:Int) (hii:ii=(i:Nat)):zd Tryz.prog 147 [.v (.string (mkS l)),.v (.int .i64 ii)] (.v (.int .i64 (z3 l i))):=by
 subst hii
 have hb:=yg l i
 have hb2:=yg l (i+1)
 have e1:IntKind.i64.wrap (bN l i:Nat)=(bN l i:Nat):=IntWalk.i64_in _ (by omega)
 have e2:IntKind.i64.wrap (bN l (i+1):Nat)=(bN l (i+1):Nat):=IntWalk.i64_in _ (by omega)
 have e3:IntKind.i64.wrap ((i:Int)+1)=((i+1:Nat):Int):=by rw [IntWalk.i64_in _ (by omega)];omega
 have e5:bits .or .i64 (IntKind.i64.wrap ((bN l i:Nat)*2 ^ 8)) (bN l (i+1):Nat)=z3 l i:=mJ _ _ (by omega) (by omega) (by omega) (by omega)
 refine z4 {} 0 Tryz.func147 fun Γ hW=>auC ?_
 repeat' first|refine auS ?_|(simp only [z5,zj,Yv,e1,e2,e3,e5,Int.toNat_natCast])|refine auD ?_|(refine auW ?_ ?_<;>intro h<;>try exact auH)|fail
 all_goals try exact auP
 all_goals refine auV ?_
 all_goals try exact z8
 all_goals try simp only [hsM] at *
theorem rx (l:List UInt8) (i:Nat) (hi:i+3<l.length) (hl:l.length≤9223372036854775800) (ii:Int) (hii:ii=(i:Nat)):zd Tryz.prog 148 [.v (.string (mkS l)),.v (.int .i64 ii)] (.v (.int .u32 (yZ l i))):=by
 subst hii
 have h1:=xD l i (by omega) (by omega) i rfl
 have h2:=xD l (i+2) (by omega) (by omega) ((i:Int)+2) (by omega)
 have b1:=zh l i
 have b2:=zh l (i+2)
 have m2:min 16 IntKind.u32.bits=16:=rfl
 have e0:IntKind.i64.wrap ((i:Int)+2)=(i:Int)+2:=IntWalk.i64_in _ (by omega)
 have e1:IntKind.u32.wrap (z3 l i)=z3 l i:=IntWalk.u32_in _ (by omega)
 have e2:IntKind.u32.wrap (z3 l (i+2))=z3 l (i+2):=IntWalk.u32_in _ (by omega)
 have e3:bits .or .u32 (IntKind.u32.wrap (z3 l i*2 ^ 16)) (z3 l (i+2))=yZ l i:=by
  rw [IntWalk.u32_in _ (by omega),lE 16 _ _ (by omega) (by omega) (by omega) (by omega) (by omega) (by omega)]
  unfold yZ;omega
 refine z4 {} 0 Tryz.func148 fun Γ hW=>auC ?_
 repeat' first|refine auS ?_|(first|(simp only [m2,e0,e1,e2,e3])|(with_reducible refine z0 h1 ?_)|(with_reducible refine z0 h2 ?_))|refine auD ?_|(refine auW ?_ ?_<;>intro h<;>try exact auH)|fail
 all_goals try exact auP
 all_goals refine auV ?_
 all_goals try exact z8
 all_goals try simp only [hsM] at *
structure Op2 where
 (k:Int) (d:List UInt8)
deriving DecidableEq
abbrev Op2.enc (t:Op2):List DV:=[.v (.int .i64 t.k),.v (.string (mkS t.d))]
structure Sg where
 (fr to seq ack flags win urg:Int) (opts:List Op2) (data:List UInt8)
abbrev Sg.enc (g:Sg):List DV:=[.v (.int .i64 g.fr),.v (.int .i64 g.to),.v (.int .u32 g.seq),.v (.int .u32 g.ack),.v (.int .i64 g.flags),.v (.int .i64 g.win),.v (.int .i64 g.urg),.snap 2 (g.opts.map Op2.enc) false,.v (.string (mkS g.data))]
abbrev dG (g:Sg):DV:=.agg g.enc
end Go.Proofs.YtmibknbmhcnemaaGreatDoor
namespace Go.Proofs.YtmibknbmhcnemaaGreatDoor
theorem emR:(ByteArray.mk #[]:ByteArray)=mkS []:=rfl
theorem ze1:(ByteArray.mk #[0]:ByteArray)=mkS [0]:=rfl
def zer (s:List UInt8):Bool:=s.all (fun b=>decide (b=0))
theorem V6:zer []=true:=rfl
theorem mh {s:List UInt8} (h:¬bN s 0=0):zer s=false:=by
 cases s with
 |nil=>exact absurd rfl h
 |cons b r=>
  have:¬b=0:=fun e=>h (by subst e;rfl)
  simp [zer,this]
theorem jD {s:List UInt8} (h:zer s=false):0<s.length:=by
 cases s with
 |nil=>cases h
 |cons b r=>simp
def prs (s:List UInt8):Option (List Op2):=
 if hz:zer s=true then some []
 else if bN s 0=0 then none
 else if bN s 0=1 then (prs (s.drop 1)).map (fun l=>⟨1,[]⟩::l)
 else if hn:2≤s.length∧2≤bN s 1∧bN s 1≤s.length then (prs (s.drop (bN s 1))).map (fun l=>⟨(bN s 0:Nat),(s.drop 2).take (bN s 1-2)⟩::l)
 else none
termination_by s.length
decreasing_by
 ·have:=jD (Bool.eq_false_iff.2 hz)
  simp;omega
 ·simp;omega
theorem rI {s:List UInt8} (h:zer s=true):prs s=some []:=by rw [prs,dif_pos h]
theorem cH {s:List UInt8} (h:zer s=false) (h0:bN s 0=0):prs s=none:=by rw [prs,dif_neg (by rw [h];simp),if_pos h0]
theorem cg {s:List UInt8} (h:bN s 0=1):prs s=(prs (s.drop 1)).map (fun l=>⟨1,[]⟩::l):=by
 rw [prs,dif_neg (by rw [mh (by omega)];simp),if_neg (by omega),if_pos h]
theorem Ve {s:List UInt8} (h:2≤bN s 0) (hn:2≤s.length∧2≤bN s 1∧bN s 1≤s.length):prs s=(prs (s.drop (bN s 1))).map (fun l=>⟨(bN s 0:Nat),(s.drop 2).take (bN s 1-2)⟩::l):=by
 rw [prs,dif_neg (by rw [mh (by omega)];simp),if_neg (by omega),if_neg (by omega),dif_pos hn]
theorem YK {s:List UInt8} (h:2≤bN s 0) (hn:¬(2≤s.length∧2≤bN s 1∧bN s 1≤s.length)):prs s=none:=by
 rw [prs,dif_neg (by rw [mh (by omega)];simp),if_neg (by omega),if_neg (by omega),dif_neg hn]
def prR (s:List UInt8):List Op2×Bool:=match prs s with
 |some l=>(l,true)
 |none=>([],false)
theorem wL {s:List UInt8} {l:List Op2} (h:prs s=some l):prR s=(l,true):=by unfold prR;rw [h]
theorem wG {s:List UInt8} (h:prs s=none):prR s=([],false):=by unfold prR;rw [h]
abbrev dPr (r:List Op2×Bool):DV:=.tup [.snap 2 (r.1.map Op2.enc) false,.v (.bool r.2)]
theorem oB (b:Bool):vU (.tup [.v (.slice none 0 0),.v (.bool b)]) (dPr ([],b)):=by simp [vU,iB]
theorem cP (s:List UInt8):zer s=true↔∀i,i<s.length→bN s i=0:=by
 unfold zer
 rw [List.all_eq_true]
 constructor
 ·intro h i hi
  have:=h s[i] (List.getElem_mem hi)
  have e:s[i]=0:=by simpa using this
  unfold bN
  rw [List.getElem?_eq_getElem hi,e]
  rfl
 ·intro h b hb
  obtain ⟨i,hi,rfl⟩:=List.mem_iff_getElem.1 hb
  have:=h i hi
  unfold bN at this
  rw [List.getElem?_eq_getElem hi] at this
  simp only [Option.getD_some] at this
  refine decide_eq_true ?_
  exact UInt8.toNat_inj.1 this
theorem nR:∀(n:Nat) (s:List UInt8) (l:List Op2),s.length≤n→prs s=some l→l.length≤s.length
 |0,s,l,hn,h=>by
  obtain rfl:s=[]:=List.eq_nil_of_length_eq_zero (by omega)
  rw [rI V6] at h
  cases h;exact Nat.le_refl _
 |n+1,s,l,hn,h=>by
  rw [prs] at h
  split at h
  ·cases h;exact Nat.zero_le _
  rename_i hz
  have hp:=jD (Bool.eq_false_iff.2 hz)
  split at h
  ·cases h
  split at h
  ·cases hq:prs (s.drop 1) with
   |none=>rw [hq] at h;cases h
   |some q=>
    rw [hq] at h
    have:=nR n (s.drop 1) q (by simp;omega) hq
    cases h
    simp at this ⊢;omega
  split at h
  ·rename_i hb
   cases hq:prs (s.drop (bN s 1)) with
   |none=>rw [hq] at h;cases h
   |some q=>
    rw [hq] at h
    have:=nR n (s.drop (bN s 1)) q (by simp;omega) hq
    cases h
    simp at this ⊢;omega
  ·cases h
end Go.Proofs.YtmibknbmhcnemaaGreatDoor
namespace Go.Proofs.YtmibknbmhcnemaaGreatDoor
attribute [local irreducible] zF Go
set_option maxRecDepth 100000
theorem lC (l:List UInt8):zd Tryz.prog 191 [.v (.string (mkS l)),.v (.string (mkS [0]))] (.v (.int .i64 (Lib.countByte l 0:Nat))):=by
 have e1:(mkS l).data.toList=l:=by simp [mkS]
 have e2:(mkS [0]).size=1:=rfl
 have e3:kZ (mkS [0]) 0=0:=rfl
 have e4:(0:Int).toNat.toUInt8=0:=rfl
 refine z4 {ext:=true,xk:=1} 0 Tryz.func191 fun Γ hW=>auC ?_
 repeat' first|refine auS ?_|(simp only [e1,e2,e3,e4])|refine auD ?_|(refine auW ?_ ?_<;>intro h<;>try exact auH)|fail
 all_goals try exact auP
 all_goals refine auV ?_
 all_goals try exact z8
 all_goals try simp only [hsM] at *
 all_goals rfl
theorem o0 (l:List UInt8):Lib.countByte l 0=l.length↔zer l=true:=by
 unfold Lib.countByte zer
 rw [List.count_eq_length,List.all_eq_true]
 constructor
 ·intro h b hb;exact decide_eq_true (h b hb).symm
 ·intro h b hb;exact (of_decide_eq_true (h b hb)).symm
set_option maxHeartbeats 4000000 in
theorem dZ (s:List UInt8) (hs:s.length≤40):zd Tryz.prog 146 [.v (.string (mkS s))] (dPr (prR s)):=by
 refine z4 {same:=true} 0 Tryz.func146 fun Γ hW=>auC ?_
 repeat' first|refine auS ?_|fail|refine auD ?_|(refine auW ?_ ?_<;>intro h<;>try exact auH)|fail
 apply sd
 ·exact yW ⟨.d0,.d0,.d4⟩ 1 2 rfl rfl
 refine auL ?_
 refine ze (α:=List Op2×List UInt8×Nat×Nat) (fun x=>[(⟨.d0,.d0,.d4⟩,.sl 1 x.2.2.1 2 0 x.1.length false),(⟨.d0,.d0,.d0⟩,.v (.string (mkS x.2.1)))]) (fun x=>[(0,none),(1,some ⟨x.2.2.1,2,x.1.map Op2.enc⟩),(2,none)]) (fun x=>x.2.2.2) (fun x=>x.2.1.length) (fun x=>prs s=(prs x.2.1).map (x.1 ++ ·)∧x.1.length+x.2.1.length≤40) ([],s,Γ.g0,Γ.g0+1) ⟨by simp,by simpa using hs⟩ ?_ ?_
 ·skip
  refine zb ?_ ?_ (Nat.le_refl _)
  all_goals first|refine auE ?_|exact zi
  all_goals repeat' first|exact trivial|exact rfl|apply And.intro
 rintro ⟨out,t,nm,gn⟩ ⟨hpr,hlen⟩
 dsimp only at hpr hlen ⊢
 refine auL ?_
 have hb0:=yg t 0
 have hb1:=yg t 1
 by_cases he:t=[]
 ·have hz:zer t=true:=by rw [he];rfl
  have hyes:prR s=(out,true):=wL (by rw [hpr,rI hz];simp)
  rw [hyes]
  have hl0:t.length=0:=by rw [he];rfl
  have hme:mkS t=mkS []:=by rw [he]
  repeat' first|refine auS ?_|(first|(simp only [hme])|(simp only [z5,List.length_nil,zj,emR,uq,Int.toNat_natCast]))|refine auD ?_|(refine auW ?_ ?_<;>intro h<;>try exact auH)|fail
  all_goals try exact auP
  all_goals first
   |(exfalso;simp at h;done)
   |skip
  refine ze (α:=Unit) (fun _=>[(⟨.d0,.d7,.d1⟩,.v (.int .i64 0))]) (fun _=>[]) (fun _=>gn) (fun _=>0) (fun _=>True) () trivial ?_ ?_
  ·skip
   refine zb ?_ ?_ (Nat.le_refl _)
   all_goals first|refine auE ?_|exact zi
   all_goals repeat' first|exact trivial|exact rfl|apply And.intro
  rintro ⟨⟩ -
  refine auL ?_
  repeat' first|refine auS ?_|(simp only [z5,List.length_nil])|refine auD ?_|(refine auW ?_ ?_<;>intro h<;>try exact auH)|fail
  all_goals try exact auP
  all_goals first
   |(exfalso;simp at h;done)
   |skip
  refine zt (zk hW ⟨.d0,.d0,.d2⟩ rfl rfl ⟨rfl,rfl,by simp⟩) ?_
  rw [yN (List.length_map _).symm]
  have hnf:xb Γ.g0 (out.map Op2.enc):=zn (fun x=>by simp [nfL,nfD])
  all_goals refine auV ?_
  all_goals try exact z8
  all_goals try simp only [hsM] at *
 have hpos:0<t.length:=List.length_pos_iff.2 he
 by_cases h0:bN t 0=0
 ·have hc0:((bN t 0:Nat):Int)=0:=by omega
  repeat' first|refine auS ?_|(first|(simp only [z5,zj,emR,uq,Int.toNat_natCast])|(simp only [hc0]))|refine auD ?_|(refine auW ?_ ?_<;>intro h<;>try exact auH)|fail
  all_goals try exact auP
  all_goals first
   |(exfalso;simp_all;done)
   |skip
  refine ze (α:=Nat) (fun i=>[(⟨.d0,.d7,.d1⟩,.v (.int .i64 (i:Nat)))]) (fun _=>[]) (fun _=>gn) (fun i=>t.length-i) (fun i=>i≤t.length∧∀k,k<i→bN t k=0) 0 ⟨Nat.zero_le _,fun k h=>absurd h (Nat.not_lt_zero _)⟩ ?_ ?_
  ·skip
   refine zb ?_ ?_ (Nat.le_refl _)
   all_goals first|refine auE ?_|exact zi
   all_goals repeat' first|exact trivial|exact rfl|apply And.intro
  rintro i ⟨hi,hp⟩
  dsimp only at hi hp ⊢
  refine auL ?_
  by_cases hlt:i<t.length
  ·by_cases hb:bN t i=0
   ·skip
    repeat' first|refine auS ?_|(simp only [z5,zj,Int.toNat_natCast])|refine auD ?_|(refine auW ?_ ?_<;>intro h<;>try exact auH)|fail
    all_goals try exact auP
    all_goals first
     |(exfalso;simp_all;done)
     |skip
    refine za ⟨i+1,⟨hlt,fun k hk=>?_⟩,by omega,?_⟩
    ·by_cases e:k=i
     ·rw [e];exact hb
     ·exact hp k (by omega)
    refine zb ?_ ?_ (Nat.le_refl _)
    all_goals first|refine auE ?_|exact zi
    all_goals repeat' first|exact trivial|exact rfl|apply And.intro
    all_goals exact zB ((IntWalk.i64_in _ (by omega)).trans (by omega))
   ·have hz:zer t=false:=by
     cases hz:zer t with
     |false=>rfl
     |true=>exact absurd ((cP t).1 hz i hlt) hb
    have hno:prR s=([],false):=wG (by rw [hpr,cH hz h0];rfl)
    rw [hno]
    have hbi:¬((bN t i:Nat):Int)=0:=by omega
    repeat' first|refine auS ?_|(simp only [z5,zj,Int.toNat_natCast])|refine auD ?_|(refine auW ?_ ?_<;>intro h<;>try exact auH)|fail
    all_goals try exact auP
    all_goals first
     |(exfalso;simp_all;done)
     |skip
    refine zt (yI (yW ⟨.d0,.d0,.d2⟩ 9 2 rfl rfl)) (zt (zk hW ⟨.d0,.d0,.d2⟩ rfl rfl ⟨rfl,rfl,by exact Nat.le_refl _⟩) ?_)
    dsimp only [zK,zV]
    all_goals refine auV ?_
    all_goals try exact z8
    all_goals try simp only [hsM] at *
    all_goals rfl
  ·have hz:zer t=true:=(cP t).2 (fun k hk=>hp k (by omega))
   have hyes:prR s=(out,true):=wL (by rw [hpr,rI hz];simp)
   rw [hyes]
   repeat' first|refine auS ?_|(simp only [z5])|refine auD ?_|(refine auW ?_ ?_<;>intro h<;>try exact auH)|fail
   all_goals try exact auP
   refine zt (zk hW ⟨.d0,.d0,.d2⟩ rfl rfl ⟨rfl,rfl,by simp⟩) ?_
   rw [yN (List.length_map _).symm]
   have hnf:xb Γ.g0 (out.map Op2.enc):=zn (fun x=>by simp [nfL,nfD])
   all_goals refine auV ?_
   all_goals try exact z8
   all_goals try simp only [hsM] at *
 have hx1:(mkS t).extract 1 t.length=mkS (t.drop 1):=by rw [zS,List.take_of_length_le (by simp)]
 by_cases h1:bN t 0=1
 ·have hc1:((bN t 0:Nat):Int)=1:=by omega
  repeat' first|refine auS ?_|(first|(simp only [z5,zj,emR,uq,Int.toNat_natCast])|(simp only [hc1])|(simp only [hx1]))|refine auD ?_|(refine auW ?_ ?_<;>intro h<;>try exact auH)|(first|(refine z7 ⟨by trivial,by trivial,by trivial,by trivial,by rw [List.length_map]⟩ ?_)|(refine z7 ⟨by rfl,by unfold zZ maxLen;rw [List.length_map];simp;omega⟩ ?_)|fail)
  all_goals try exact auP
  all_goals first
   |(exfalso;simp_all;done)
   |skip
  refine za ⟨(out++[⟨1,[]⟩],t.drop 1,gn+1,gn+1+1),⟨?_,by simp;omega⟩,by simp;omega,?_⟩
  ·rw [hpr,cg h1]
   cases prs (t.drop 1)<;>simp
  refine zb ?_ ?_ (Nat.le_refl _)
  all_goals first|refine auE ?_|exact zi
  all_goals repeat' first|exact trivial|exact rfl|apply And.intro
  all_goals first
   |(simp;done)
   |(refine congrArg some (congrArg (zo.mk _ 2) ?_);simp;done)
   |rfl
 by_cases hn:2≤t.length∧2≤bN t 1∧bN t 1≤t.length
 ·obtain ⟨n1,n2,n3⟩:=hn
  have e0:IntKind.i64.wrap ((bN t 0:Nat):Int)=((bN t 0:Nat):Int):=IntWalk.i64_in _ (by omega)
  have e1:IntKind.i64.wrap ((bN t 1:Nat):Int)=((bN t 1:Nat):Int):=IntWalk.i64_in _ (by omega)
  have hx2:(mkS t).extract 2 (bN t 1)=mkS ((t.drop 2).take (bN t 1-2)):=zS _ _ _
  have hx3:(mkS t).extract (bN t 1) t.length=mkS (t.drop (bN t 1)):=by rw [zS,List.take_of_length_le (by simp)]
  have hnx:=Ve (s:=t) (by omega) ⟨n1,n2,n3⟩
  have i0:¬((bN t 0:Nat):Int)=0:=by omega
  have i1:¬((bN t 0:Nat):Int)=1:=by omega
  repeat' first|refine auS ?_|(first|(simp only [z5,zj,emR,uq,e0,e1,Int.toNat_natCast])|(simp only [hx2,hx3]))|refine auD ?_|(refine auW ?_ ?_<;>intro h<;>try exact auH)|(first|(refine z7 ⟨by trivial,by trivial,by trivial,by trivial,by rw [List.length_map]⟩ ?_)|(refine z7 ⟨by rfl,by unfold zZ maxLen;rw [List.length_map];simp;omega⟩ ?_)|fail)
  all_goals try exact auP
  all_goals first
   |(exfalso;simp_all;done)
   |skip
  refine za ⟨(out++[⟨(bN t 0:Nat),(t.drop 2).take (bN t 1-2)⟩],t.drop (bN t 1),gn+1,gn+1+1),⟨?_,by simp;omega⟩,by simp;omega,?_⟩
  ·rw [hpr,hnx]
   cases prs (t.drop (bN t 1))<;>simp
  refine zb ?_ ?_ (Nat.le_refl _)
  all_goals first|refine auE ?_|exact zi
  all_goals repeat' first|exact trivial|exact rfl|apply And.intro
  all_goals first
   |(simp;done)
   |(refine congrArg some (congrArg (zo.mk _ 2) ?_);simp;done)
   |rfl
 ·have hno:prR s=([],false):=wG (by rw [hpr,YK (by omega) hn];rfl)
  rw [hno]
  have e1:IntKind.i64.wrap ((bN t 1:Nat):Int)=((bN t 1:Nat):Int):=IntWalk.i64_in _ (by omega)
  have i0:¬((bN t 0:Nat):Int)=0:=by omega
  have i1:¬((bN t 0:Nat):Int)=1:=by omega
  repeat' first|refine auS ?_|(first|(simp only [z5,zj,emR,uq,e1,Int.toNat_natCast]))|refine auD ?_|(refine auW ?_ ?_<;>intro h<;>try exact auH)|fail
  all_goals try exact auP
  all_goals first
   |(exfalso;simp_all;done)
   |(exfalso;apply hn;simp_all;omega)
   |skip
  all_goals (refine zt (yI (yW ⟨.d0,.d0,.d2⟩ 9 2 rfl rfl)) (zt (zk hW ⟨.d0,.d0,.d2⟩ rfl rfl ⟨rfl,rfl,by exact Nat.le_refl _⟩) ?_))
  all_goals dsimp only [zK,zV]
  all_goals refine auV ?_
  all_goals try exact z8
  all_goals try simp only [hsM] at *
  all_goals rfl
end Go.Proofs.YtmibknbmhcnemaaGreatDoor
namespace Go.Proofs.YtmibknbmhcnemaaGreatDoor
attribute [local irreducible] zF Go
set_option maxRecDepth 100000
set_option maxHeartbeats 4000000 in
theorem lV:∀(n:Nat) (s:List UInt8),s.length≤n→s.length≤40→zd Tryz.prog 169 [.v (.string (mkS s))] (dPr (prR s)):=by
 intro n
 induction n with
 |zero=>
  intro s hn hs
  have hz:zer s=true:=by rw [List.eq_nil_of_length_eq_zero (Nat.le_zero.1 hn)];rfl
  have hcn:=lC s
  rw [(o0 s).2 hz] at hcn
  rw [wL (rI hz)]
  refine yn ?_ (oB _)
  refine z4 {} 0 Tryz.func169 fun Γ hW=>auC ?_
  repeat' first|refine auS ?_|(first|(simp only [z5,zj,ze1,Int.toNat_natCast])|(simp only [w0])|(simp only [w1])|(simp only [x1])|(simp only [x2,x3])|(with_reducible refine z0 hcn ?_)|(with_reducible refine z0 (z6 _ _ _) ?_)|(with_reducible refine z0 hr ?_))|refine auD ?_|(refine auW ?_ ?_<;>intro h<;>try exact auH)|(first|fail|fail)
  all_goals try exact auP
  all_goals first
   |(exfalso;simp_all;done)
   |(exfalso;simp_all;omega)
   |skip
  all_goals refine auV ?_
  all_goals try exact z8
  all_goals try simp only [hsM] at *
 |succ n ih=>
  intro s hn hs
  have hcn:=lC s
  cases hz:zer s with
  |true=>
   rw [(o0 s).2 hz] at hcn
   rw [wL (rI hz)]
   refine yn ?_ (oB _)
   refine z4 {} 0 Tryz.func169 fun Γ hW=>auC ?_
   repeat' first|refine auS ?_|(first|(simp only [z5,zj,ze1,Int.toNat_natCast])|(simp only [w0])|(simp only [w1])|(simp only [x1])|(simp only [x2,x3])|(with_reducible refine z0 hcn ?_)|(with_reducible refine z0 (z6 _ _ _) ?_)|(with_reducible refine z0 hr ?_))|refine auD ?_|(refine auW ?_ ?_<;>intro h<;>try exact auH)|(first|fail|fail)
   all_goals try exact auP
   all_goals first
    |(exfalso;simp_all;done)
    |(exfalso;simp_all;omega)
    |skip
   all_goals refine auV ?_
   all_goals try exact z8
   all_goals try simp only [hsM] at *
  |false=>
   have hpos:=jD hz
   have hcc:¬((Lib.countByte s 0:Nat):Int)=(s.length:Nat):=fun e=>by
    have:=(o0 s).1 (by omega)
    rw [hz] at this;cases this
   generalize Lib.countByte s 0=cz at *
   have hb0:=yg s 0
   have hb1:=yg s 1
   have w0:IntKind.i64.wrap ((bN s 0:Nat):Int)=((bN s 0:Nat):Int):=IntWalk.i64_in _ (by omega)
   have w1:IntKind.i64.wrap ((bN s 1:Nat):Int)=((bN s 1:Nat):Int):=IntWalk.i64_in _ (by omega)
   by_cases h0:bN s 0=0
   ·rw [wG (cH hz h0)]
    refine yn ?_ (oB _)
    have hc0:((bN s 0:Nat):Int)=0:=by omega
    refine z4 {} 0 Tryz.func169 fun Γ hW=>auC ?_
    repeat' first|refine auS ?_|(first|(simp only [z5,zj,ze1,Int.toNat_natCast])|(simp only [w0])|(simp only [w1])|(simp only [x1])|(simp only [x2,x3])|(with_reducible refine z0 hcn ?_)|(with_reducible refine z0 (z6 _ _ _) ?_)|(with_reducible refine z0 hr ?_))|refine auD ?_|(refine auW ?_ ?_<;>intro h<;>try exact auH)|(first|fail|fail)
    all_goals try exact auP
    all_goals first
     |(exfalso;simp_all;done)
     |(exfalso;simp_all;omega)
     |skip
    all_goals refine auV ?_
    all_goals try exact z8
    all_goals try simp only [hsM] at *
   by_cases h1:bN s 0=1
   ·have hc1:((bN s 0:Nat):Int)=1:=by omega
    have hr:=ih (s.drop 1) (by simp;omega) (by simp;omega)
    have hp:=cg h1
    have x1:(mkS s).extract 1 s.length=mkS (s.drop 1):=by rw [zS,List.take_of_length_le (by simp)]
    rw [hc1] at w0
    cases hq:prs (s.drop 1) with
    |none=>
     rw [wG hq] at hr
     rw [hq] at hp
     rw [wG hp]
     refine yn ?_ (oB _)
     refine z4 {} 0 Tryz.func169 fun Γ hW=>auC ?_
     repeat' first|refine auS ?_|(first|(simp only [z5,zj,ze1,Int.toNat_natCast])|(simp only [w0])|(simp only [w1])|(simp only [x1])|(simp only [x2,x3])|(with_reducible refine z0 hcn ?_)|(with_reducible refine z0 (z6 _ _ _) ?_)|(with_reducible refine z0 hr ?_))|refine auD ?_|(refine auW ?_ ?_<;>intro h<;>try exact auH)|(first|simp only [hc1]|fail)
     all_goals try exact auP
     all_goals first
      |(exfalso;simp_all;done)
      |(exfalso;simp_all;omega)
      |skip
     all_goals refine auV ?_
     all_goals try exact z8
     all_goals try simp only [hsM] at *
    |some q=>
     have hql:=nR _ _ _ (Nat.le_refl _) hq
     simp only [List.length_drop] at hql
     rw [wL hq] at hr
     rw [hq] at hp
     rw [wL hp]
     cases q with
     |nil=>
      refine z4 {} 0 Tryz.func169 fun Γ hW=>auC ?_
      repeat' first|refine auS ?_|(first|(simp only [z5,zj,ze1,Int.toNat_natCast])|(simp only [w0])|(simp only [w1])|(simp only [x1])|(simp only [x2,x3])|(with_reducible refine z0 hcn ?_)|(with_reducible refine z0 (z6 _ _ _) ?_)|(with_reducible refine z0 hr ?_))|refine auD ?_|(refine auW ?_ ?_<;>intro h<;>try exact auH)|(first|(first|(simp only [hc1])|(with_reducible refine jS ?_))|fail)
      all_goals try exact auP
      all_goals first
       |(exfalso;simp_all;done)
       |(exfalso;simp_all;omega)
       |skip
      refine zt (zk hW ⟨.d0,.d0,.d2⟩ rfl rfl ⟨rfl,rfl,by exact Nat.le_refl _⟩) (zt (yI (ia ⟨.d0,.d0,.d2⟩ rfl)) ?_)
      dsimp only [zK,zV]
      all_goals refine auV ?_
      all_goals try exact z8
      all_goals try simp only [hsM] at *
      all_goals rfl
     |cons o r=>
      have hall:=y_ (f:=Op2.enc) (fun x=>rfl) (o::r)
      refine z4 {} 0 Tryz.func169 fun Γ hW=>auC ?_
      repeat' first|refine auS ?_|(first|(simp only [z5,zj,ze1,Int.toNat_natCast])|(simp only [w0])|(simp only [w1])|(simp only [x1])|(simp only [x2,x3])|(with_reducible refine z0 hcn ?_)|(with_reducible refine z0 (z6 _ _ _) ?_)|(with_reducible refine z0 hr ?_))|refine auD ?_|(refine auW ?_ ?_<;>intro h<;>try exact auH)|(first|(first|(simp only [hc1])|(with_reducible refine yz ?_)|(refine z7 ⟨Or.inl (by simp),rfl,hall,by unfold zZ maxLen;simp at hql ⊢;omega⟩ ?_))|fail)
      all_goals try exact auP
      all_goals first
       |(exfalso;simp_all;done)
       |(exfalso;simp_all;omega)
       |skip
      refine zt (zk hW ⟨.d0,.d0,.d2⟩ rfl rfl ⟨rfl,rfl,by (simp;try omega)⟩) ?_
      rw [yN (by (simp;try omega))]
      rw [show ([[DV.v (.int .i64 1),DV.v (.string (ByteArray.mk #[]))]]:List (List DV))++(o::r).map Op2.enc=((⟨1,[]⟩::o::r:List Op2).map Op2.enc) from rfl]
      all_goals refine auV ?_
      all_goals try exact z8
      all_goals try simp only [hsM] at *
      all_goals rfl
   by_cases hn:2≤s.length∧2≤bN s 1∧bN s 1≤s.length
   ·obtain ⟨n1,n2,n3⟩:=hn
    have i0:¬((bN s 0:Nat):Int)=0:=by omega
    have i1:1<((bN s 0:Nat):Int):=by omega
    have hr:=ih (s.drop (bN s 1)) (by simp;omega) (by simp;omega)
    have hp:=Ve (s:=s) (by omega) ⟨n1,n2,n3⟩
    have x2:(mkS s).extract 2 (bN s 1)=mkS ((s.drop 2).take (bN s 1-2)):=zS _ _ _
    have x3:(mkS s).extract (bN s 1) s.length=mkS (s.drop (bN s 1)):=by rw [zS,List.take_of_length_le (by simp)]
    cases hq:prs (s.drop (bN s 1)) with
    |none=>
     rw [wG hq] at hr
     rw [hq] at hp
     rw [wG hp]
     refine yn ?_ (oB _)
     refine z4 {} 0 Tryz.func169 fun Γ hW=>auC ?_
     repeat' first|refine auS ?_|(first|(simp only [z5,zj,ze1,Int.toNat_natCast])|(simp only [w0])|(simp only [w1])|(simp only [x1])|(simp only [x2,x3])|(with_reducible refine z0 hcn ?_)|(with_reducible refine z0 (z6 _ _ _) ?_)|(with_reducible refine z0 hr ?_))|refine auD ?_|(refine auW ?_ ?_<;>intro h<;>try exact auH)|(first|fail|fail)
     all_goals try exact auP
     all_goals first
      |(exfalso;simp_all;done)
      |(exfalso;simp_all;omega)
      |skip
     all_goals refine auV ?_
     all_goals try exact z8
     all_goals try simp only [hsM] at *
    |some q=>
     have hql:=nR _ _ _ (Nat.le_refl _) hq
     simp only [List.length_drop] at hql
     rw [wL hq] at hr
     rw [hq] at hp
     rw [wL hp]
     cases q with
     |nil=>
      refine z4 {} 0 Tryz.func169 fun Γ hW=>auC ?_
      repeat' first|refine auS ?_|(first|(simp only [z5,zj,ze1,Int.toNat_natCast])|(simp only [w0])|(simp only [w1])|(simp only [x1])|(simp only [x2,x3])|(with_reducible refine z0 hcn ?_)|(with_reducible refine z0 (z6 _ _ _) ?_)|(with_reducible refine z0 hr ?_))|refine auD ?_|(refine auW ?_ ?_<;>intro h<;>try exact auH)|(first|(with_reducible refine jS ?_)|fail)
      all_goals try exact auP
      all_goals first
       |(exfalso;simp_all;done)
       |(exfalso;simp_all;omega)
       |skip
      refine zt (zk hW ⟨.d0,.d0,.d2⟩ rfl rfl ⟨rfl,rfl,by exact Nat.le_refl _⟩) (zt (yI (ia ⟨.d0,.d0,.d2⟩ rfl)) ?_)
      dsimp only [zK,zV]
      all_goals refine auV ?_
      all_goals try exact z8
      all_goals try simp only [hsM] at *
      all_goals rfl
     |cons o r=>
      have hall:=y_ (f:=Op2.enc) (fun x=>rfl) (o::r)
      refine z4 {} 0 Tryz.func169 fun Γ hW=>auC ?_
      repeat' first|refine auS ?_|(first|(simp only [z5,zj,ze1,Int.toNat_natCast])|(simp only [w0])|(simp only [w1])|(simp only [x1])|(simp only [x2,x3])|(with_reducible refine z0 hcn ?_)|(with_reducible refine z0 (z6 _ _ _) ?_)|(with_reducible refine z0 hr ?_))|refine auD ?_|(refine auW ?_ ?_<;>intro h<;>try exact auH)|(first|(first|(with_reducible refine yz ?_)|(refine z7 ⟨Or.inl (by simp),rfl,hall,by unfold zZ maxLen;simp at hql ⊢;omega⟩ ?_))|fail)
      all_goals try exact auP
      all_goals first
       |(exfalso;simp_all;done)
       |(exfalso;simp_all;omega)
       |skip
      refine zt (zk hW ⟨.d0,.d0,.d2⟩ rfl rfl ⟨rfl,rfl,by (simp;try omega)⟩) ?_
      rw [yN (by (simp;try omega))]
      rw [show ([[DV.v (.int .i64 (bN s 0:Nat)),DV.v (.string (mkS ((s.drop 2).take (bN s 1-2))))]]:List (List DV))++(o::r).map Op2.enc=((⟨(bN s 0:Nat),(s.drop 2).take (bN s 1-2)⟩::o::r:List Op2).map Op2.enc) from rfl]
      all_goals refine auV ?_
      all_goals try exact z8
      all_goals try simp only [hsM] at *
      all_goals rfl
   ·rw [wG (YK (by omega) hn)]
    refine yn ?_ (oB _)
    have i0:¬((bN s 0:Nat):Int)=0:=by omega
    have i1:1<((bN s 0:Nat):Int):=by omega
    refine z4 {} 0 Tryz.func169 fun Γ hW=>auC ?_
    repeat' first|refine auS ?_|(first|(simp only [z5,zj,ze1,Int.toNat_natCast])|(simp only [w0])|(simp only [w1])|(simp only [x1])|(simp only [x2,x3])|(with_reducible refine z0 hcn ?_)|(with_reducible refine z0 (z6 _ _ _) ?_)|(with_reducible refine z0 hr ?_))|refine auD ?_|(refine auW ?_ ?_<;>intro h<;>try exact auH)|(first|fail|fail)
    all_goals try exact auP
    all_goals first
     |(exfalso;simp_all;done)
     |(exfalso;simp_all;omega)
     |skip
    all_goals refine auV ?_
    all_goals try exact z8
    all_goals try simp only [hsM] at *
end Go.Proofs.YtmibknbmhcnemaaGreatDoor
