import Derived.Test.YtaiileiodjicpaaGreatDoorTt20
set_option linter.unusedVariables false
set_option linter.unusedSimpArgs false
namespace Go.Proofs.YtaiileiodjicpaaGreatDoor
attribute [local irreducible] zF Go
set_option maxRecDepth 100000
theorem xg (l:List UInt8) (i:Nat) (hi:i+1<l.length) (hl:l.length≤9223372036854775806) (ii:Int) (hii:ii=(i:Nat)):zi Tryz.prog 135 [.v (.string (mkS l)),.v (.int .i64 ii)] (.v (.int .i64 (z8 l i))):=by
 subst hii
 have hb:=w_ l i
 have hb2:=w_ l (i+1)
 have e1:IntKind.i64.wrap (bN l i:Nat)=(bN l i:Nat):=IntWalk.i64_in _ (by omega)
 have e2:IntKind.i64.wrap (bN l (i+1):Nat)=(bN l (i+1):Nat):=IntWalk.i64_in _ (by omega)
 have e3:IntKind.i64.wrap ((i:Int)+1)=((i+1:Nat):Int):=by rw [IntWalk.i64_in _ (by omega)];omega
 have e5:bits .or .i64 (IntKind.i64.wrap ((bN l i:Nat)*2 ^ 8)) (bN l (i+1):Nat)=z8 l i:=mq _ _ (by omega) (by omega) (by omega) (by omega)
 refine z7 {} 0 Tryz.func135 fun Γ hW=>auC ?_
 repeat' first|refine auS ?_|(simp only [za,zW,Xd,e1,e2,e3,e5,Int.toNat_natCast])|refine auD ?_|(refine auW ?_ ?_<;>intro h<;>try exact auH)|fail
 all_goals try exact auP
 all_goals refine auV ?_
 all_goals try exact zc
 all_goals try simp only [hsM] at *
theorem sI (l:List UInt8) (i:Nat) (hi:i+3<l.length) (hl:l.length≤9223372036854775800) (ii:Int) (hii:ii=(i:Nat)):zi Tryz.prog 136 [.v (.string (mkS l)),.v (.int .i64 ii)] (.v (.int .u32 (uT l i))):=by
 subst hii
 have h1:=xg l i (by omega) (by omega) i rfl
 have h2:=xg l (i+2) (by omega) (by omega) ((i:Int)+2) (by omega)
 have b1:=zD l i
 have b2:=zD l (i+2)
 have m2:min 16 IntKind.u32.bits=16:=rfl
 have e0:IntKind.i64.wrap ((i:Int)+2)=(i:Int)+2:=IntWalk.i64_in _ (by omega)
 have e1:IntKind.u32.wrap (z8 l i)=z8 l i:=IntWalk.u32_in _ (by omega)
 have e2:IntKind.u32.wrap (z8 l (i+2))=z8 l (i+2):=IntWalk.u32_in _ (by omega)
 have e3:bits .or .u32 (IntKind.u32.wrap (z8 l i*2 ^ 16)) (z8 l (i+2))=uT l i:=by
  rw [IntWalk.u32_in _ (by omega),qg 16 _ _ (by omega) (by omega) (by omega) (by omega) (by omega) (by omega)]
  unfold uT;omega
 refine z7 {} 0 Tryz.func136 fun Γ hW=>auC ?_
 repeat' first|refine auS ?_|(first|(simp only [m2,e0,e1,e2,e3])|(with_reducible refine z6 h1 ?_)|(with_reducible refine z6 h2 ?_))|refine auD ?_|(refine auW ?_ ?_<;>intro h<;>try exact auH)|fail
 all_goals try exact auP
 all_goals refine auV ?_
 all_goals try exact zc
 all_goals try simp only [hsM] at *
structure Op2 where
 (k:Int) (d:List UInt8)
deriving DecidableEq
abbrev Op2.enc (t:Op2):List DV:=[.v (.int .i64 t.k),.v (.string (mkS t.d))]
structure Sg where
 (fr to seq ack flags win urg:Int) (opts:List Op2) (data:List UInt8)
abbrev Sg.enc (g:Sg):List DV:=[.v (.int .i64 g.fr),.v (.int .i64 g.to),.v (.int .u32 g.seq),.v (.int .u32 g.ack),.v (.int .i64 g.flags),.v (.int .i64 g.win),.v (.int .i64 g.urg),.snap 2 (g.opts.map Op2.enc) false,.v (.string (mkS g.data))]
abbrev dG (g:Sg):DV:=.agg g.enc
end Go.Proofs.YtaiileiodjicpaaGreatDoor
namespace Go.Proofs.YtaiileiodjicpaaGreatDoor
theorem emR:(ByteArray.mk #[]:ByteArray)=mkS []:=rfl
def zer (s:List UInt8):Bool:=s.all (fun b=>decide (b=0))
theorem me {s:List UInt8} (h:¬bN s 0=0):zer s=false:=by
 cases s with
 |nil=>exact absurd rfl h
 |cons b r=>
  have:¬b=0:=fun e=>h (by subst e;rfl)
  simp [zer,this]
theorem W3 {s:List UInt8} (h:zer s=false):0<s.length:=by
 cases s with
 |nil=>cases h
 |cons b r=>simp
def prs (s:List UInt8):Option (List Op2):=
 if hz:zer s=true then some []
 else if bN s 0=0 then none
 else if bN s 0=1 then (prs (s.drop 1)).map (fun l=>⟨1,[]⟩::l)
 else if hn:2≤s.length∧2≤bN s 1∧bN s 1≤s.length then (prs (s.drop (bN s 1))).map (fun l=>⟨(bN s 0:Nat),(s.drop 2).take (bN s 1-2)⟩::l)
 else none
termination_by s.length
decreasing_by
 ·have:=W3 (Bool.eq_false_iff.2 hz)
  simp;omega
 ·simp;omega
theorem gV {s:List UInt8} (h:zer s=true):prs s=some []:=by rw [prs,dif_pos h]
theorem V4 {s:List UInt8} (h:zer s=false) (h0:bN s 0=0):prs s=none:=by rw [prs,dif_neg (by rw [h];simp),if_pos h0]
theorem Wy {s:List UInt8} (h:bN s 0=1):prs s=(prs (s.drop 1)).map (fun l=>⟨1,[]⟩::l):=by
 rw [prs,dif_neg (by rw [me (by omega)];simp),if_neg (by omega),if_pos h]
theorem Uv {s:List UInt8} (h:2≤bN s 0) (hn:2≤s.length∧2≤bN s 1∧bN s 1≤s.length):prs s=(prs (s.drop (bN s 1))).map (fun l=>⟨(bN s 0:Nat),(s.drop 2).take (bN s 1-2)⟩::l):=by
 rw [prs,dif_neg (by rw [me (by omega)];simp),if_neg (by omega),if_neg (by omega),dif_pos hn]
theorem VZ {s:List UInt8} (h:2≤bN s 0) (hn:¬(2≤s.length∧2≤bN s 1∧bN s 1≤s.length)):prs s=none:=by
 rw [prs,dif_neg (by rw [me (by omega)];simp),if_neg (by omega),if_neg (by omega),dif_neg hn]
def prR (s:List UInt8):List Op2×Bool:=match prs s with
 |some l=>(l,true)
 |none=>([],false)
theorem mW {s:List UInt8} {l:List Op2} (h:prs s=some l):prR s=(l,true):=by unfold prR;rw [h]
theorem mv {s:List UInt8} (h:prs s=none):prR s=([],false):=by unfold prR;rw [h]
abbrev dPr (r:List Op2×Bool):DV:=.tup [.snap 2 (r.1.map Op2.enc) false,.v (.bool r.2)]
theorem cJ (s:List UInt8):zer s=true↔∀i,i<s.length→bN s i=0:=by
 unfold zer
 rw [List.all_eq_true]
 constructor
 ·intro h i hi
  have:=h s[i] (List.getElem_mem hi)
  have e:s[i]=0:=by simpa using this
  unfold bN
  rw [List.getElem?_eq_getElem hi,e]
  rfl
 ·intro h b hb
  obtain ⟨i,hi,rfl⟩:=List.mem_iff_getElem.1 hb
  have:=h i hi
  unfold bN at this
  rw [List.getElem?_eq_getElem hi] at this
  simp only [Option.getD_some] at this
  refine decide_eq_true ?_
  exact UInt8.toNat_inj.1 this
end Go.Proofs.YtaiileiodjicpaaGreatDoor
namespace Go.Proofs.YtaiileiodjicpaaGreatDoor
attribute [local irreducible] zF Go
set_option maxRecDepth 100000
set_option maxHeartbeats 4000000 in
theorem gi (s:List UInt8) (hs:s.length≤40):zi Tryz.prog 134 [.v (.string (mkS s))] (dPr (prR s)):=by
 refine z7 {same:=true} 0 Tryz.func134 fun Γ hW=>auC ?_
 repeat' first|refine auS ?_|fail|refine auD ?_|(refine auW ?_ ?_<;>intro h<;>try exact auH)|fail
 apply vD
 ·exact vA ⟨.d0,.d0,.d4⟩ 1 2 rfl rfl
 refine auL ?_
 refine zw (α:=List Op2×List UInt8×Nat×Nat) (fun x=>[(⟨.d0,.d0,.d4⟩,.sl 1 x.2.2.1 2 0 x.1.length false),(⟨.d0,.d0,.d0⟩,.v (.string (mkS x.2.1)))]) (fun x=>[(0,none),(1,some ⟨x.2.2.1,2,x.1.map Op2.enc⟩),(2,none)]) (fun x=>x.2.2.2) (fun x=>x.2.1.length) (fun x=>prs s=(prs x.2.1).map (x.1 ++ ·)∧x.1.length+x.2.1.length≤40) ([],s,Γ.g0,Γ.g0+1) ⟨by simp,by simpa using hs⟩ ?_ ?_
 ·skip
  refine zo ?_ ?_ (Nat.le_refl _)
  all_goals first|refine auE ?_|exact zK
  all_goals repeat' first|exact trivial|exact rfl|apply And.intro
 rintro ⟨out,t,nm,gn⟩ ⟨hpr,hlen⟩
 dsimp only at hpr hlen ⊢
 refine auL ?_
 have hb0:=w_ t 0
 have hb1:=w_ t 1
 by_cases he:t=[]
 ·have hz:zer t=true:=by rw [he];rfl
  have hyes:prR s=(out,true):=mW (by rw [hpr,gV hz];simp)
  rw [hyes]
  have hl0:t.length=0:=by rw [he];rfl
  have hme:mkS t=mkS []:=by rw [he]
  repeat' first|refine auS ?_|(first|(simp only [hme])|(simp only [za,List.length_nil,zW,emR,zg,Int.toNat_natCast]))|refine auD ?_|(refine auW ?_ ?_<;>intro h<;>try exact auH)|fail
  all_goals try exact auP
  all_goals first
   |(exfalso;simp at h;done)
   |skip
  refine zw (α:=Unit) (fun _=>[(⟨.d0,.d7,.d1⟩,.v (.int .i64 0))]) (fun _=>[]) (fun _=>gn) (fun _=>0) (fun _=>True) () trivial ?_ ?_
  ·skip
   refine zo ?_ ?_ (Nat.le_refl _)
   all_goals first|refine auE ?_|exact zK
   all_goals repeat' first|exact trivial|exact rfl|apply And.intro
  rintro ⟨⟩ -
  refine auL ?_
  repeat' first|refine auS ?_|(simp only [za,List.length_nil])|refine auD ?_|(refine auW ?_ ?_<;>intro h<;>try exact auH)|fail
  all_goals try exact auP
  all_goals first
   |(exfalso;simp at h;done)
   |skip
  refine zL (zr hW ⟨.d0,.d0,.d2⟩ rfl rfl ⟨rfl,rfl,by simp⟩) ?_
  rw [tH (List.length_map _).symm]
  have hnf:yA Γ.g0 (out.map Op2.enc):=zl (fun x=>by simp [nfL,nfD])
  all_goals refine auV ?_
  all_goals try exact zc
  all_goals try simp only [hsM] at *
 have hpos:0<t.length:=List.length_pos_iff.2 he
 by_cases h0:bN t 0=0
 ·have hc0:((bN t 0:Nat):Int)=0:=by omega
  repeat' first|refine auS ?_|(first|(simp only [za,zW,emR,zg,Int.toNat_natCast])|(simp only [hc0]))|refine auD ?_|(refine auW ?_ ?_<;>intro h<;>try exact auH)|fail
  all_goals try exact auP
  all_goals first
   |(exfalso;simp_all;done)
   |skip
  refine zw (α:=Nat) (fun i=>[(⟨.d0,.d7,.d1⟩,.v (.int .i64 (i:Nat)))]) (fun _=>[]) (fun _=>gn) (fun i=>t.length-i) (fun i=>i≤t.length∧∀k,k<i→bN t k=0) 0 ⟨Nat.zero_le _,fun k h=>absurd h (Nat.not_lt_zero _)⟩ ?_ ?_
  ·skip
   refine zo ?_ ?_ (Nat.le_refl _)
   all_goals first|refine auE ?_|exact zK
   all_goals repeat' first|exact trivial|exact rfl|apply And.intro
  rintro i ⟨hi,hp⟩
  dsimp only at hi hp ⊢
  refine auL ?_
  by_cases hlt:i<t.length
  ·by_cases hb:bN t i=0
   ·skip
    repeat' first|refine auS ?_|(simp only [za,zW,Int.toNat_natCast])|refine auD ?_|(refine auW ?_ ?_<;>intro h<;>try exact auH)|fail
    all_goals try exact auP
    all_goals first
     |(exfalso;simp_all;done)
     |skip
    refine zn ⟨i+1,⟨hlt,fun k hk=>?_⟩,by omega,?_⟩
    ·by_cases e:k=i
     ·rw [e];exact hb
     ·exact hp k (by omega)
    refine zo ?_ ?_ (Nat.le_refl _)
    all_goals first|refine auE ?_|exact zK
    all_goals repeat' first|exact trivial|exact rfl|apply And.intro
    all_goals exact yd ((IntWalk.i64_in _ (by omega)).trans (by omega))
   ·have hz:zer t=false:=by
     cases hz:zer t with
     |false=>rfl
     |true=>exact absurd ((cJ t).1 hz i hlt) hb
    have hno:prR s=([],false):=mv (by rw [hpr,V4 hz h0];rfl)
    rw [hno]
    have hbi:¬((bN t i:Nat):Int)=0:=by omega
    repeat' first|refine auS ?_|(simp only [za,zW,Int.toNat_natCast])|refine auD ?_|(refine auW ?_ ?_<;>intro h<;>try exact auH)|fail
    all_goals try exact auP
    all_goals first
     |(exfalso;simp_all;done)
     |skip
    refine zL (yz (vA ⟨.d0,.d0,.d2⟩ 9 2 rfl rfl)) (zL (zr hW ⟨.d0,.d0,.d2⟩ rfl rfl ⟨rfl,rfl,by exact Nat.le_refl _⟩) ?_)
    dsimp only [zN,zV]
    all_goals refine auV ?_
    all_goals try exact zc
    all_goals try simp only [hsM] at *
    all_goals rfl
  ·have hz:zer t=true:=(cJ t).2 (fun k hk=>hp k (by omega))
   have hyes:prR s=(out,true):=mW (by rw [hpr,gV hz];simp)
   rw [hyes]
   repeat' first|refine auS ?_|(simp only [za])|refine auD ?_|(refine auW ?_ ?_<;>intro h<;>try exact auH)|fail
   all_goals try exact auP
   refine zL (zr hW ⟨.d0,.d0,.d2⟩ rfl rfl ⟨rfl,rfl,by simp⟩) ?_
   rw [tH (List.length_map _).symm]
   have hnf:yA Γ.g0 (out.map Op2.enc):=zl (fun x=>by simp [nfL,nfD])
   all_goals refine auV ?_
   all_goals try exact zc
   all_goals try simp only [hsM] at *
 have hx1:(mkS t).extract 1 t.length=mkS (t.drop 1):=by rw [yW,List.take_of_length_le (by simp)]
 by_cases h1:bN t 0=1
 ·have hc1:((bN t 0:Nat):Int)=1:=by omega
  repeat' first|refine auS ?_|(first|(simp only [za,zW,emR,zg,Int.toNat_natCast])|(simp only [hc1])|(simp only [hx1]))|refine auD ?_|(refine auW ?_ ?_<;>intro h<;>try exact auH)|(first|(refine zf ⟨by trivial,by trivial,by trivial,by trivial,by rw [List.length_map]⟩ ?_)|(refine zf ⟨by rfl,by unfold y8 maxLen;rw [List.length_map];simp;omega⟩ ?_)|fail)
  all_goals try exact auP
  all_goals first
   |(exfalso;simp_all;done)
   |skip
  refine zn ⟨(out++[⟨1,[]⟩],t.drop 1,gn+1,gn+1+1),⟨?_,by simp;omega⟩,by simp;omega,?_⟩
  ·rw [hpr,Wy h1]
   cases prs (t.drop 1)<;>simp
  refine zo ?_ ?_ (Nat.le_refl _)
  all_goals first|refine auE ?_|exact zK
  all_goals repeat' first|exact trivial|exact rfl|apply And.intro
  all_goals first
   |(simp;done)
   |(refine congrArg some (congrArg (zj.mk _ 2) ?_);simp;done)
   |rfl
 by_cases hn:2≤t.length∧2≤bN t 1∧bN t 1≤t.length
 ·obtain ⟨n1,n2,n3⟩:=hn
  have e0:IntKind.i64.wrap ((bN t 0:Nat):Int)=((bN t 0:Nat):Int):=IntWalk.i64_in _ (by omega)
  have e1:IntKind.i64.wrap ((bN t 1:Nat):Int)=((bN t 1:Nat):Int):=IntWalk.i64_in _ (by omega)
  have hx2:(mkS t).extract 2 (bN t 1)=mkS ((t.drop 2).take (bN t 1-2)):=yW _ _ _
  have hx3:(mkS t).extract (bN t 1) t.length=mkS (t.drop (bN t 1)):=by rw [yW,List.take_of_length_le (by simp)]
  have hnx:=Uv (s:=t) (by omega) ⟨n1,n2,n3⟩
  have i0:¬((bN t 0:Nat):Int)=0:=by omega
  have i1:¬((bN t 0:Nat):Int)=1:=by omega
  repeat' first|refine auS ?_|(first|(simp only [za,zW,emR,zg,e0,e1,Int.toNat_natCast])|(simp only [hx2,hx3]))|refine auD ?_|(refine auW ?_ ?_<;>intro h<;>try exact auH)|(first|(refine zf ⟨by trivial,by trivial,by trivial,by trivial,by rw [List.length_map]⟩ ?_)|(refine zf ⟨by rfl,by unfold y8 maxLen;rw [List.length_map];simp;omega⟩ ?_)|fail)
  all_goals try exact auP
  all_goals first
   |(exfalso;simp_all;done)
   |skip
  refine zn ⟨(out++[⟨(bN t 0:Nat),(t.drop 2).take (bN t 1-2)⟩],t.drop (bN t 1),gn+1,gn+1+1),⟨?_,by simp;omega⟩,by simp;omega,?_⟩
  ·rw [hpr,hnx]
   cases prs (t.drop (bN t 1))<;>simp
  refine zo ?_ ?_ (Nat.le_refl _)
  all_goals first|refine auE ?_|exact zK
  all_goals repeat' first|exact trivial|exact rfl|apply And.intro
  all_goals first
   |(simp;done)
   |(refine congrArg some (congrArg (zj.mk _ 2) ?_);simp;done)
   |rfl
 ·have hno:prR s=([],false):=mv (by rw [hpr,VZ (by omega) hn];rfl)
  rw [hno]
  have e1:IntKind.i64.wrap ((bN t 1:Nat):Int)=((bN t 1:Nat):Int):=IntWalk.i64_in _ (by omega)
  have i0:¬((bN t 0:Nat):Int)=0:=by omega
  have i1:¬((bN t 0:Nat):Int)=1:=by omega
  repeat' first|refine auS ?_|(first|(simp only [za,zW,emR,zg,e1,Int.toNat_natCast]))|refine auD ?_|(refine auW ?_ ?_<;>intro h<;>try exact auH)|fail
  all_goals try exact auP
  all_goals first
   |(exfalso;simp_all;done)
   |(exfalso;apply hn;simp_all;omega)
   |skip
  all_goals (refine zL (yz (vA ⟨.d0,.d0,.d2⟩ 9 2 rfl rfl)) (zL (zr hW ⟨.d0,.d0,.d2⟩ rfl rfl ⟨rfl,rfl,by exact Nat.le_refl _⟩) ?_))
  all_goals dsimp only [zN,zV]
  all_goals refine auV ?_
  all_goals try exact zc
  all_goals try simp only [hsM] at *
  all_goals rfl
end Go.Proofs.YtaiileiodjicpaaGreatDoor
namespace Go.Proofs.YtaiileiodjicpaaGreatDoor
end Go.Proofs.YtaiileiodjicpaaGreatDoor
namespace Go.Proofs.YtaiileiodjicpaaGreatDoor
attribute [local irreducible] zF Go
set_option maxRecDepth 100000
def nW (s:List UInt8):Nat:=bN s 12 / 16*4
def sg0:Sg:=⟨0,0,0,0,0,0,0,[],[]⟩
def rdS (s:List UInt8) (a b:Int):Sg×Int:=
 if s.length<20∨s.length<nW s then (sg0,3)
 else if ¬(20≤nW s∧bN s 12 % 16=0) then (sg0,4)
 else if 65455+nW s<s.length then (sg0,2)
 else match prs ((s.drop 20).take (nW s-20)) with
  |none=>(sg0,4)
  |some l=>if ¬yw (x8 (und a b 6 s.length++s))=65535 then (sg0,5)
   else (⟨z8 s 0,z8 s 2,uT s 4,uT s 8,(bN s 13:Nat),z8 s 14,z8 s 18,l,s.drop (nW s)⟩,0)
abbrev Ug (r:Sg×Int):DV:=.tup [dG r.1,.v (.int .i64 r.2)]
theorem pi (e:Int):vI (.tup [.agg [.v (.int .i64 0),.v (.int .i64 0),.v (.int .u32 0),.v (.int .u32 0),.v (.int .i64 0),.v (.int .i64 0),.v (.int .i64 0),.v (.slice none 0 0),.v (.string (ByteArray.mk #[]))],.v (.int .i64 e)]) (Ug (sg0,e)):=by
 simp [vI,iP,sg0]
 rfl
set_option maxHeartbeats 4000000 in
theorem mY (s:List UInt8) (a b:Int) (ha:0≤a∧a<4294967296) (hb:0≤b∧b<4294967296) (hl:s.length≤140737488351232):zi Tryz.prog 100 [.v (.string (mkS s)),.v (.int .u32 a),.v (.int .u32 b)] (Ug (rdS s a b)):=by
 have b12:=w_ s 12
 have b13:=w_ s 13
 have e12:IntKind.i64.wrap ((bN s 12:Nat):Int)=((bN s 12:Nat):Int):=IntWalk.i64_in _ (by omega)
 have e13:IntKind.i64.wrap ((bN s 13:Nat):Int)=((bN s 13:Nat):Int):=IntWalk.i64_in _ (by omega)
 have t1:IntKind.i64.wrap (((bN s 12:Nat):Int).tdiv 16)=((bN s 12 / 16:Nat):Int):=by rw [Int.tdiv_eq_ediv_of_nonneg (by omega),IntWalk.i64_in _ (by omega)];omega
 have t2:IntKind.i64.wrap (((bN s 12 / 16:Nat):Int)*4)=((nW s:Nat):Int):=by unfold nW;rw [IntWalk.i64_in _ (by omega)];omega
 have t3:((bN s 12:Nat):Int).tmod 16=((bN s 12 % 16:Nat):Int):=(Int.ofNat_tmod _ 16).symm
 have hn60:nW s≤60:=by unfold nW;omega
 have t4:IntKind.i64.wrap (4*((nW s:Nat):Int))=4*((nW s:Nat):Int):=IntWalk.i64_in _ (by omega)
 have t5:IntKind.i64.wrap ((s.length:Int)-((nW s:Nat):Int))=(s.length:Int)-((nW s:Nat):Int):=IntWalk.i64_in _ (by omega)
 have t6:IntKind.i64.wrap (65455+((nW s:Nat):Int))=65455+((nW s:Nat):Int):=IntWalk.i64_in _ (by omega)
 have hq:bN s 12 % 16=0↔((bN s 12:Nat):Int)=4*((nW s:Nat):Int):=by unfold nW;omega
 by_cases c1:s.length<20
 ·have hr:rdS s a b=(sg0,3):=by unfold rdS;rw [if_pos (.inl c1)]
  rw [hr]
  refine xW ?_ (pi _)
  refine z7 {} 0 Tryz.func100 fun Γ hW=>auC ?_
  repeat' first|refine auS ?_|(first|(simp only [za,zW,zu,Int.toNat_natCast])|(simp only [e12,e13,t1,t2,t3,t4,t5,t6])|(simp only [x1,x2])|(with_reducible refine z6 hp ?_)|(with_reducible refine z6 hu ?_)|(with_reducible refine z6 hs0 ?_)|(with_reducible refine z6 hs ?_)|(with_reducible refine z6 h0 ?_)|(with_reducible refine z6 h2 ?_)|(with_reducible refine z6 h14 ?_)|(with_reducible refine z6 h18 ?_)|(with_reducible refine z6 h4 ?_)|(with_reducible refine z6 h8 ?_))|refine auD ?_|(refine auW ?_ ?_<;>intro h<;>try exact auH)|(refine zf (by simp only [za,List.length_append,zZ];omega) ?_)
  all_goals try exact auP
  all_goals first
   |(exfalso;simp_all;done)
   |skip
  all_goals refine auV ?_
  all_goals try exact zc
  all_goals try simp only [hsM] at *
  all_goals rfl
 by_cases c2:s.length<nW s
 ·have hr:rdS s a b=(sg0,3):=by unfold rdS;rw [if_pos (.inr c2)]
  rw [hr]
  refine xW ?_ (pi _)
  refine z7 {} 0 Tryz.func100 fun Γ hW=>auC ?_
  repeat' first|refine auS ?_|(first|(simp only [za,zW,zu,Int.toNat_natCast])|(simp only [e12,e13,t1,t2,t3,t4,t5,t6])|(simp only [x1,x2])|(with_reducible refine z6 hp ?_)|(with_reducible refine z6 hu ?_)|(with_reducible refine z6 hs0 ?_)|(with_reducible refine z6 hs ?_)|(with_reducible refine z6 h0 ?_)|(with_reducible refine z6 h2 ?_)|(with_reducible refine z6 h14 ?_)|(with_reducible refine z6 h18 ?_)|(with_reducible refine z6 h4 ?_)|(with_reducible refine z6 h8 ?_))|refine auD ?_|(refine auW ?_ ?_<;>intro h<;>try exact auH)|(refine zf (by simp only [za,List.length_append,zZ];omega) ?_)
  all_goals try exact auP
  all_goals first
   |(exfalso;simp_all;done)
   |skip
  all_goals refine auV ?_
  all_goals try exact zc
  all_goals try simp only [hsM] at *
  all_goals rfl
 by_cases c3:20≤nW s∧bN s 12 % 16=0
 case neg=>
  have hr:rdS s a b=(sg0,4):=by unfold rdS;rw [if_neg (by omega),if_pos c3]
  rw [hr]
  refine xW ?_ (pi _)
  by_cases c3a:nW s<20
  ·skip
   refine z7 {} 0 Tryz.func100 fun Γ hW=>auC ?_
   repeat' first|refine auS ?_|(first|(simp only [za,zW,zu,Int.toNat_natCast])|(simp only [e12,e13,t1,t2,t3,t4,t5,t6])|(simp only [x1,x2])|(with_reducible refine z6 hp ?_)|(with_reducible refine z6 hu ?_)|(with_reducible refine z6 hs0 ?_)|(with_reducible refine z6 hs ?_)|(with_reducible refine z6 h0 ?_)|(with_reducible refine z6 h2 ?_)|(with_reducible refine z6 h14 ?_)|(with_reducible refine z6 h18 ?_)|(with_reducible refine z6 h4 ?_)|(with_reducible refine z6 h8 ?_))|refine auD ?_|(refine auW ?_ ?_<;>intro h<;>try exact auH)|(refine zf (by simp only [za,List.length_append,zZ];omega) ?_)
   all_goals try exact auP
   all_goals first
    |(exfalso;simp_all;done)
    |skip
   all_goals refine auV ?_
   all_goals try exact zc
   all_goals try simp only [hsM] at *
   all_goals rfl
  ·have c3b:¬bN s 12 % 16=0:=fun q=>c3 ⟨by omega,q⟩
   have c3c:¬((bN s 12:Nat):Int)=4*((nW s:Nat):Int):=fun q=>c3b (hq.2 q)
   refine z7 {} 0 Tryz.func100 fun Γ hW=>auC ?_
   repeat' first|refine auS ?_|(first|(simp only [za,zW,zu,Int.toNat_natCast])|(simp only [e12,e13,t1,t2,t3,t4,t5,t6])|(simp only [x1,x2])|(with_reducible refine z6 hp ?_)|(with_reducible refine z6 hu ?_)|(with_reducible refine z6 hs0 ?_)|(with_reducible refine z6 hs ?_)|(with_reducible refine z6 h0 ?_)|(with_reducible refine z6 h2 ?_)|(with_reducible refine z6 h14 ?_)|(with_reducible refine z6 h18 ?_)|(with_reducible refine z6 h4 ?_)|(with_reducible refine z6 h8 ?_))|refine auD ?_|(refine auW ?_ ?_<;>intro h<;>try exact auH)|(refine zf (by simp only [za,List.length_append,zZ];omega) ?_)
   all_goals try exact auP
   all_goals first
    |(exfalso;simp_all;done)
    |skip
   all_goals refine auV ?_
   all_goals try exact zc
   all_goals try simp only [hsM] at *
   all_goals rfl
 have c3b:=hq.1 c3.2
 obtain ⟨c3a,c3d⟩:=c3
 by_cases c4:65455+nW s<s.length
 ·have hr:rdS s a b=(sg0,2):=by unfold rdS;rw [if_neg (by omega),if_neg (not_not_intro ⟨c3a,c3d⟩),if_pos c4]
  rw [hr]
  refine xW ?_ (pi _)
  refine z7 {} 0 Tryz.func100 fun Γ hW=>auC ?_
  repeat' first|refine auS ?_|(first|(simp only [za,zW,zu,Int.toNat_natCast])|(simp only [e12,e13,t1,t2,t3,t4,t5,t6])|(simp only [x1,x2])|(with_reducible refine z6 hp ?_)|(with_reducible refine z6 hu ?_)|(with_reducible refine z6 hs0 ?_)|(with_reducible refine z6 hs ?_)|(with_reducible refine z6 h0 ?_)|(with_reducible refine z6 h2 ?_)|(with_reducible refine z6 h14 ?_)|(with_reducible refine z6 h18 ?_)|(with_reducible refine z6 h4 ?_)|(with_reducible refine z6 h8 ?_))|refine auD ?_|(refine auW ?_ ?_<;>intro h<;>try exact auH)|(refine zf (by simp only [za,List.length_append,zZ];omega) ?_)
  all_goals try exact auP
  all_goals first
   |(exfalso;simp_all;done)
   |skip
  all_goals refine auV ?_
  all_goals try exact zc
  all_goals try simp only [hsM] at *
  all_goals rfl
 have x1:(mkS s).extract 20 (nW s)=mkS ((s.drop 20).take (nW s-20)):=yW _ _ _
 have x2:(mkS s).extract (nW s) s.length=mkS (s.drop (nW s)):=by rw [yW,List.take_of_length_le (by simp)]
 have hpl:((s.drop 20).take (nW s-20)).length≤40:=by simp;omega
 have hp:=gi _ hpl
 cases hprs:prs ((s.drop 20).take (nW s-20)) with
 |none=>
  have hr:rdS s a b=(sg0,4):=by unfold rdS;rw [if_neg (by omega),if_neg (not_not_intro ⟨c3a,c3d⟩),if_neg c4,hprs]
  rw [hr]
  rw [mv hprs] at hp
  refine xW ?_ (pi _)
  refine z7 {} 0 Tryz.func100 fun Γ hW=>auC ?_
  repeat' first|refine auS ?_|(first|(simp only [za,zW,zu,Int.toNat_natCast])|(simp only [e12,e13,t1,t2,t3,t4,t5,t6])|(simp only [x1,x2])|(with_reducible refine z6 hp ?_)|(with_reducible refine z6 hu ?_)|(with_reducible refine z6 hs0 ?_)|(with_reducible refine z6 hs ?_)|(with_reducible refine z6 h0 ?_)|(with_reducible refine z6 h2 ?_)|(with_reducible refine z6 h14 ?_)|(with_reducible refine z6 h18 ?_)|(with_reducible refine z6 h4 ?_)|(with_reducible refine z6 h8 ?_))|refine auD ?_|(refine auW ?_ ?_<;>intro h<;>try exact auH)|(refine zf (by simp only [za,List.length_append,zZ];omega) ?_)
  all_goals try exact auP
  all_goals first
   |(exfalso;simp_all;done)
   |skip
  all_goals refine auV ?_
  all_goals try exact zc
  all_goals try simp only [hsM] at *
  all_goals rfl
 |some l=>
  rw [mW hprs] at hp
  have hu:=qb a b 6 s.length ha hb
  have hs:=ua (und a b 6 s.length++s) (by simp only [List.length_append,zZ];omega)
  by_cases c5:yw (x8 (und a b 6 s.length++s))=65535
  ·have hr:rdS s a b=(⟨z8 s 0,z8 s 2,uT s 4,uT s 8,(bN s 13:Nat),z8 s 14,z8 s 18,l,s.drop (nW s)⟩,0):=by unfold rdS;rw [if_neg (by omega),if_neg (not_not_intro ⟨c3a,c3d⟩),if_neg c4,hprs];exact if_neg (not_not_intro c5)
   rw [hr]
   rw [c5] at hs
   have h0:=xg s 0 (by omega) (by omega) 0 rfl
   have h2:=xg s 2 (by omega) (by omega) 2 rfl
   have h14:=xg s 14 (by omega) (by omega) 14 rfl
   have h18:=xg s 18 (by omega) (by omega) 18 rfl
   have h4:=sI s 4 (by omega) (by omega) 4 rfl
   have h8:=sI s 8 (by omega) (by omega) 8 rfl
   refine z7 {} 0 Tryz.func100 fun Γ hW=>auC ?_
   repeat' first|refine auS ?_|(first|(simp only [za,zW,zu,Int.toNat_natCast])|(simp only [e12,e13,t1,t2,t3,t4,t5,t6])|(simp only [x1,x2])|(with_reducible refine z6 hp ?_)|(with_reducible refine z6 hu ?_)|(with_reducible refine z6 hs0 ?_)|(with_reducible refine z6 hs ?_)|(with_reducible refine z6 h0 ?_)|(with_reducible refine z6 h2 ?_)|(with_reducible refine z6 h14 ?_)|(with_reducible refine z6 h18 ?_)|(with_reducible refine z6 h4 ?_)|(with_reducible refine z6 h8 ?_))|refine auD ?_|(refine auW ?_ ?_<;>intro h<;>try exact auH)|(refine zf (by simp only [za,List.length_append,zZ];omega) ?_)
   all_goals try exact auP
   all_goals first
    |(exfalso;simp_all;done)
    |skip
   all_goals refine auV ?_
   all_goals try exact zc
   all_goals try simp only [hsM] at *
   all_goals rfl
  ·have hr:rdS s a b=(sg0,5):=by unfold rdS;rw [if_neg (by omega),if_neg (not_not_intro ⟨c3a,c3d⟩),if_neg c4,hprs];exact if_pos c5
   rw [hr]
   generalize yw (x8 (und a b 6 s.length++s))=ck at *
   refine xW ?_ (pi _)
   refine z7 {} 0 Tryz.func100 fun Γ hW=>auC ?_
   repeat' first|refine auS ?_|(first|(simp only [za,zW,zu,Int.toNat_natCast])|(simp only [e12,e13,t1,t2,t3,t4,t5,t6])|(simp only [x1,x2])|(with_reducible refine z6 hp ?_)|(with_reducible refine z6 hu ?_)|(with_reducible refine z6 hs0 ?_)|(with_reducible refine z6 hs ?_)|(with_reducible refine z6 h0 ?_)|(with_reducible refine z6 h2 ?_)|(with_reducible refine z6 h14 ?_)|(with_reducible refine z6 h18 ?_)|(with_reducible refine z6 h4 ?_)|(with_reducible refine z6 h8 ?_))|refine auD ?_|(refine auW ?_ ?_<;>intro h<;>try exact auH)|(refine zf (by simp only [za,List.length_append,zZ];omega) ?_)
   all_goals try exact auP
   all_goals first
    |(exfalso;simp_all;done)
    |skip
   all_goals refine auV ?_
   all_goals try exact zc
   all_goals try simp only [hsM] at *
   all_goals rfl
end Go.Proofs.YtaiileiodjicpaaGreatDoor
