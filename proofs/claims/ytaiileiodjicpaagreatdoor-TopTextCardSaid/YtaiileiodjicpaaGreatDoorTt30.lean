import Derived.Test.YtaiileiodjicpaaGreatDoorTt27
import Derived.Test.YtaiileiodjicpaaGreatDoorTt28
import Derived.Test.YtaiileiodjicpaaGreatDoorTt29
set_option linter.unusedVariables false
set_option linter.unusedSimpArgs false
namespace Go.Proofs.YtaiileiodjicpaaGreatDoor.T
def knB (l:List Tk) (a b c d now:Int):Bool:=decide (rQ l now=0)&&l.any (fun t=>t.along a b c d && !t.old now)
theorem XM (l:List Tk) (a b c d now:Int):∃ (t:Tk) (e:Int),zi Tryz.prog 139 [.snap 7 (l.map Tk.enc) false,dR a b c d,.v (.int .i64 now)] (.tup [dT t.a t.b t.c t.d t.s t.o t.x,.v (.bool (knB l a b c d now)),.v (.int .i64 e)]):=by
 by_cases h0:rQ l now=0
 ·have hk:knB l a b c d now=l.any (fun t=>t.along a b c d && !t.old now):=by unfold knB;rw [decide_eq_true h0,Bool.true_and]
  rcases xl (fun t:Tk=>t.along a b c d) l 0 with ⟨h1,h2⟩|⟨i,t,h1,h2,h3,h4⟩
  ·have e:knB l a b c d now=false:=by
    rw [hk,List.any_eq_false]
    intro x hx
    simp [h2 x hx]
   rw [e]
   exact ⟨⟨0,0,0,0,0,0,0⟩,0,cY l a b c d now h0 h2⟩
  ·have hg:=(zR (show yq l=0 by have:=uF l now;omega)).2
   have e:knB l a b c d now = !t.old now:=by
    rw [hk,Bool.eq_iff_iff,List.any_eq_true]
    constructor
    ·rintro ⟨y,hy,hq⟩
     rw [Bool.and_eq_true] at hq
     obtain ⟨j,hj⟩:=List.mem_iff_getElem?.1 hy
     obtain rfl:=bC hg h1 hj h2 hq.1
     rw [Option.some.inj (h1.symm.trans hj)]
     exact hq.2
    ·intro hq
     exact ⟨t,List.mem_of_getElem? h1,by rw [h2,hq];rfl⟩
   rw [e]
   have hs:=Wp l a b c d now h0 i t h1 (by rw [h4];omega)
   cases ho:t.old now with
   |true=>rw [ho,if_pos rfl] at hs;exact ⟨⟨0,0,0,0,0,0,0⟩,0,hs⟩
   |false=>rw [ho,if_neg (by simp)] at hs;exact ⟨t,0,hs⟩
 ·have e:knB l a b c d now=false:=by unfold knB;rw [decide_eq_false h0,Bool.false_and]
  rw [e]
  exact ⟨⟨0,0,0,0,0,0,0⟩,_,Y9 l a b c d now h0⟩
def o7 (l:List Tk) (a b c d fl now:Int):List Tk×Bool×Int:=
 if yq l≠0 then (l,false,yq l) else if oP l a b c d fl now=false then (l,false,1) else
 match decide (0≤zk (fun t:Tk=>t.along a b c d) (yng l now) 0),(yng l now)[(zk (fun t:Tk=>t.along a b c d) (yng l now) 0).toNat]? with
 |true,some t=>uU l a b c d now (decide (fl.toNat / 2 % 2=1)) (decide (fl.toNat / 16 % 2=1)) (decide (fl.toNat % 2=1)) (decide (fl.toNat / 4 % 2=1)) (zk (fun t:Tk=>t.along a b c d) (yng l now) 0).toNat t
 |_,_=>sM l a b c d now (decide (fl.toNat / 2 % 2=1)) (decide (fl.toNat / 16 % 2=1)) (decide (fl.toNat % 2=1)) (decide (fl.toNat / 4 % 2=1))
theorem nI {l:List Tk} {a b c d fl now:Int} {Q:List Tk×Bool×Int→Prop} (h1:yq l≠0→Q (l,false,yq l)) (h2:yq l=0→oP l a b c d fl now=false→Q (l,false,1))
  (h3:∀syn ack fin rst,yq l=0→oP l a b c d fl now=true→sQ fl syn ack fin rst→zk (fun t:Tk=>t.along a b c d) (yng l now) 0 = -1→Q (sM l a b c d now syn ack fin rst))
  (h4:∀syn ack fin rst (i:Nat) (t:Tk),yq l=0→oP l a b c d fl now=true→sQ fl syn ack fin rst→(yng l now)[i]?=some t→zk (fun t:Tk=>t.along a b c d) (yng l now) 0=i→Q (uU l a b c d now syn ack fin rst i t)):Q (o7 l a b c d fl now):=by
 unfold o7
 by_cases he:yq l=0
 ·rw [if_neg (not_not_intro he)]
  cases hb:oP l a b c d fl now with
  |false=>rw [if_pos rfl];exact h2 he hb
  |true=>
   rw [if_neg (by simp)]
   have hfl:0≤fl∧fl≤255:=by unfold oP at hb;rw [Bool.and_eq_true,decide_eq_true_eq] at hb;exact hb.2.1
   have hf:sQ fl (decide (fl.toNat / 2 % 2=1)) (decide (fl.toNat / 16 % 2=1)) (decide (fl.toNat % 2=1)) (decide (fl.toNat / 4 % 2=1)):=by
    have:=aH ⟨fl.toNat,by omega⟩
    rw [show (((⟨fl.toNat,by omega⟩:Fin 256).val:Nat):Int)=fl by simp;omega] at this
    exact this
   rcases xl (fun t:Tk=>t.along a b c d) (yng l now) 0 with ⟨g1,g2⟩|⟨i,t,g1,g2,g3,g4⟩
   ·rw [g1,show decide (0≤(-1:Int))=false from rfl]
    cases (yng l now)[((-1:Int)).toNat]?<;>exact h3 _ _ _ _ he hb hf g1
   ·rw [Nat.zero_add] at g4
    rw [g4,Int.toNat_natCast,g1,decide_eq_true (Int.natCast_nonneg i)]
    exact h4 _ _ _ _ i t he hb hf g1 g4
 ·rw [if_pos he]
  exact h1 he
theorem rg (l:List Tk) (a b c d fl now:Int) (hr:y8 l.length 48):zi Tryz.prog 143 [.snap 7 (l.map Tk.enc) false,dR a b c d,.v (.int .i64 fl),.v (.int .i64 now)] (hD (o7 l a b c d fl now)):=
 nI (Q:=fun r=>zi Tryz.prog 143 [.snap 7 (l.map Tk.enc) false,dR a b c d,.v (.int .i64 fl),.v (.int .i64 now)] (hD r)) (fun h=>XB l a b c d fl now hr h) (fun h h'=>Zp l a b c d fl now hr h h')
  (fun s1 s2 s3 s4 h1 h2 h3 h4=>a8 l a b c d fl now hr h1 h2 s1 s2 s3 s4 h3 h4) (fun s1 s2 s3 s4 i t h1 h2 h3 h4 h5=>bK l a b c d fl now hr h1 h2 s1 s2 s3 s4 h3 i t h4 h5)
end Go.Proofs.YtaiileiodjicpaaGreatDoor.T
namespace Go.Proofs.YtaiileiodjicpaaGreatDoor
attribute [local irreducible] zF Go
set_option maxRecDepth 100000
abbrev wkH (u:Hs) (l:List Mt) (f:Fl) (t:List UInt8) (now:Int) (lb n q:Nat):HL:=[some ⟨n,23,[wkR u (.sl lb q 5 0 l.length false) f t now]⟩,some ⟨q,5,l.map Mt.enc⟩]
theorem mg {g lb q len:Nat} (u:Hs) (f:Fl) (t:List UInt8) (now:Int) (h:q<g):yA g [wkR u (.sl lb q 5 0 len false) f t now]:=⟨⟨trivial,trivial,trivial,trivial,trivial,trivial,gN _ _,trivial,h,cj _ _,trivial,trivial,trivial,trivial,trivial,A.uK _ _,trivial,trivial,trivial,trivial,trivial,trivial,trivial,trivial⟩,trivial⟩
theorem lD (u:Hs) (l:List Mt) (f:Fl) (t:List UInt8) (now a b c e:Int) (lb n q:Nat):zE Tryz.prog 106 [.ptr 0 n 23 0 0,T.dR a b c e] (wkH u l f t now lb n q) (fun D H=>D=.v (.bool (T.knB u.tr a b c e now))∧H=wkH u l f t now lb n q):=by
 obtain ⟨y,ey,hf⟩:=T.XM u.tr a b c e now
 generalize T.knB u.tr a b c e now=B at *
 refine zp {} 2 Tryz.func106 fun Γ hN0 hL0=>auC ?_
 have hn:n<Γ.g0:=hN0 0 _ rfl
 have hm:q<Γ.g0:=hN0 1 _ rfl
 repeat' first|refine auS ?_|(with_reducible refine z6 hf ?_)|refine auD ?_|(refine auW ?_ ?_<;>intro h<;>try exact auH)|fail
 all_goals try exact auP
 refine A.ue trivial trivial rfl rfl hn (mg _ _ _ _ hm) hm (wy _ _)
def flT (t:List UInt8):Int:=(rdS (rpR t).1.data (rpR t).1.fr (rpR t).1.to).1.flags
def qn (l:List T.Tk) (a b c d fl now:Int):List T.Tk×Bool:=if (T.o7 l a b c d fl now).2.2=0 then ((T.o7 l a b c d fl now).1,(T.o7 l a b c d fl now).2.1) else (l,false)
theorem VT (t:List UInt8) (ht:t.length≤140737488351232):(0≤(rpR t).1.fr∧(rpR t).1.fr<4294967296)∧(0≤(rpR t).1.to∧(rpR t).1.to<4294967296)∧(rpR t).1.data.length≤140737488351232:=by
 unfold rpR
 split
 ·refine ⟨uG _ _,uG _ _,?_⟩
  show ((t.drop (hN t)).take _).length≤_
  rw [List.length_take,List.length_drop]
  omega
 ·exact ⟨⟨Int.le_refl _,(by decide:(0:Int)<4294967296)⟩,⟨Int.le_refl _,(by decide:(0:Int)<4294967296)⟩,Nat.zero_le _⟩
set_option maxHeartbeats 4000000 in
theorem o6 (u:Hs) (hr:y8 u.tr.length 48) (l:List Mt) (f:Fl) (t:List UInt8) (ht:t.length≤140737488351232) (now a b c e:Int) (lb n q:Nat):zE Tryz.prog 108 [.ptr 0 n 23 0 0,T.dR a b c e] (wkH u l f t now lb n q) (fun D H=>D=.v (.bool (qn u.tr a b c e (flT t) now).2)∧H=wkH { u with tr:=(qn u.tr a b c e (flT t) now).1 } l f t now lb n q):=by
 have h1:=sC t ht
 obtain ⟨b1,b2,b3⟩:=VT t ht
 have h2:=mY (rpR t).1.data (rpR t).1.fr (rpR t).1.to b1 b2 b3
 have h3:=T.rg u.tr a b c e (flT t) now hr
 unfold qn
 unfold flT at *
 generalize rdS (rpR t).1.data (rpR t).1.fr (rpR t).1.to=G at *
 generalize rpR t=P at *
 obtain ⟨⟨gfr,gto,gseq,gack,gfl,gwin,gurg,gopts,gdata⟩,ge⟩:=G
 obtain ⟨⟨tos,id,wh,mo,start,life,proto,fr,to,opt,data⟩,pe⟩:=P
 dsimp only at *
 generalize T.o7 u.tr a b c e gfl now=R at *
 obtain ⟨r1,r2,r3⟩:=R
 dsimp only at *
 by_cases h0:r3=0
 ·subst h0
  rw [if_pos rfl]
  refine zp {} 2 Tryz.func108 fun Γ hN0 hL0=>auC ?_
  have hn:n<Γ.g0:=hN0 0 _ rfl
  have hm:q<Γ.g0:=hN0 1 _ rfl
  repeat' first|refine auS ?_|(first|(with_reducible refine z6 h1 ?_)|(with_reducible refine z6 h2 ?_)|(with_reducible refine z6 h3 ?_))|refine auD ?_|(refine auW ?_ ?_<;>intro h<;>try exact auH)|fail
  all_goals try exact auP
  refine A.ue trivial trivial rfl rfl hn (mg _ _ _ _ hm) hm (wy _ _)
 ·rw [if_neg h0]
  refine zp {} 2 Tryz.func108 fun Γ hN0 hL0=>auC ?_
  have hn:n<Γ.g0:=hN0 0 _ rfl
  have hm:q<Γ.g0:=hN0 1 _ rfl
  repeat' first|refine auS ?_|(first|(with_reducible refine z6 h1 ?_)|(with_reducible refine z6 h2 ?_)|(with_reducible refine z6 h3 ?_))|refine auD ?_|(refine auW ?_ ?_<;>intro h<;>try exact auH)|fail
  all_goals try exact auP
  all_goals try (exfalso;simp_all;done)
  refine A.ue trivial trivial rfl rfl hn (mg _ _ _ _ hm) hm (wy _ _)
end Go.Proofs.YtaiileiodjicpaaGreatDoor
namespace Go.Proofs.YtaiileiodjicpaaGreatDoor.A
attribute [local irreducible] zF Go
set_option maxRecDepth 100000
def inP (l pr out now:Int):Mp→Bool:=fun m=>decide (m.pr=pr∧m.ou=out∧now≤m.tm+l)
abbrev dIn (a p e:Int):DV:=.tup [.v (.int .u32 a),.v (.int .i64 p),.v (.int .i64 e)]
theorem go {l b1:Int} {t1:Nat} {b2:Int} {t2:Nat} {ms:List Mp} (h1:t1<18446744073709551616) (h2:t2<18446744073709551616) (h:y_ l b1 t1 b2 t2 ms=0):(1≤l∧l≤1000000)∧∀m∈ms,0≤m.tm∧m.tm≤1099511627776:=by
 unfold y_ at h
 split at h
 ·rename_i hc
  split at h
  ·rename_i hr
   simp only [Bool.and_eq_true,decide_eq_true_eq] at hc
   refine ⟨hc.1,fun m hm=>?_⟩
   rw [←pA b1 b2 t1 t2 ms h1 h2,Bool.and_eq_true] at hr
   obtain ⟨j,hj⟩:=List.mem_iff_getElem?.1 hm
   have:=sP hr.1 hj
   unfold im at this
   simp only [Bool.and_eq_true,decide_eq_true_eq] at this
   exact this.1.2
  ·omega
 ·omega
def inA (l pr out now:Int) (ms:List Mp):Int×Int×Int:=match ms.find? (inP l pr out now) with|some m=>(m.ad,m.po,0)|none=>(0,0,7)
def nIn (l b1:Int) (t1:Nat) (b2:Int) (t2:Nat) (ms:List Mp) (pr out now:Int):Int×Int×Int:=
 if y_ l b1 t1 b2 t2 ms≠0 then (0,0,y_ l b1 t1 b2 t2 ms) else if ¬(pr=6∨pr=17) then (0,0,7) else if ¬(0≤now∧now≤1099511627776) then (0,0,1) else inA l pr out now ms
abbrev U8 (r:Int×Int×Int):DV:=dIn r.1 r.2.1 r.2.2
theorem YG {l b1:Int} {t1:Nat} {b2:Int} {t2:Nat} {ms:List Mp} {pr out now:Int} (he:y_ l b1 t1 b2 t2 ms=0):(if pr=6∨pr=17 then (if 0≤now∧now≤1099511627776 then dIn (inA l pr out now ms).1 (inA l pr out now ms).2.1 (inA l pr out now ms).2.2 else dIn 0 0 1) else dIn 0 0 7)=U8 (nIn l b1 t1 b2 t2 ms pr out now):=by
 unfold nIn
 rw [if_neg (not_not_intro he)]
 by_cases hp:pr=6∨pr=17
 ·rw [if_pos hp,if_neg (not_not_intro hp)]
  by_cases hn:0≤now∧now≤1099511627776
  ·rw [if_pos hn,if_neg (not_not_intro hn)]
  ·rw [if_neg hn,if_pos hn]
 ·rw [if_neg hp,if_pos hp]
section
variable (l b1:Int) (t1:Nat) (b2:Int) (t2:Nat) (ms:List Mp) (pr out now:Int) (hl:ms.length≤maxLen) (h1:t1<18446744073709551616) (h2:t2<18446744073709551616)
include hl h1 h2
theorem U9 {e:Int} (he:y_ l b1 t1 b2 t2 ms=e) (hne:¬e=0):zi Tryz.prog 111 [dNt l b1 t1 b2 t2 ms,.v (.int .i64 pr),.v (.int .i64 out),.v (.int .i64 now)] (dIn 0 0 e):=by
 have c:=xi l b1 t1 b2 t2 ms hl h1 h2
 rw [he] at c
 refine z7 {} 0 Tryz.func111 fun Γ hW=>auC ?_
 repeat' first|refine auS ?_|(with_reducible refine z6 c ?_)|refine auD ?_|(refine auW ?_ ?_<;>intro h<;>try exact auH)|fail
 all_goals try exact auP
 all_goals refine auV ?_
 all_goals try exact zc
 all_goals try simp only [hsM] at *
set_option maxHeartbeats 4000000 in
theorem We (he:y_ l b1 t1 b2 t2 ms=0):zi Tryz.prog 111 [dNt l b1 t1 b2 t2 ms,.v (.int .i64 pr),.v (.int .i64 out),.v (.int .i64 now)] (if pr=6∨pr=17 then (if 0≤now∧now≤1099511627776 then dIn (inA l pr out now ms).1 (inA l pr out now ms).2.1 (inA l pr out now ms).2.2 else dIn 0 0 1) else dIn 0 0 7):=by
 have c:=xi l b1 t1 b2 t2 ms hl h1 h2
 obtain ⟨hL,hM⟩:=go h1 h2 he
 rw [he] at c
 have hl':=hl
 unfold maxLen at hl'
 by_cases hp:pr=6∨pr=17
 ·rw [if_pos hp]
  by_cases hn:0≤now∧now≤1099511627776
  ·rw [if_pos hn]
   by_cases h6:pr=6
   ·skip
    refine z7 {} 0 Tryz.func111 fun Γ hW=>auC ?_
    repeat' first|refine auS ?_|(with_reducible refine z6 c ?_)|refine auD ?_|(refine auW ?_ ?_<;>intro h<;>try exact auH)|fail
    all_goals try exact auP
    all_goals first
     |(exfalso;simp at h;done)
     |(exfalso;simp_all;done)
     |skip
    refine zw (α:=Nat×Nat) (fun p=>[(⟨.d0,.d4,.d2⟩,.v (.int .i64 (p.1:Nat)))]) (fun p=>[(1,none)]) (fun p=>p.2) (fun p=>ms.length-p.1) (fun p=>p.1≤ms.length∧ms.find? (inP l pr out now)=(ms.drop p.1).find? (inP l pr out now)) (0,Γ.g0+1) ⟨Nat.zero_le _,rfl⟩ ?_ ?_
    ·skip
     refine zo ?_ ?_ (Nat.le_refl _)
     all_goals first|refine auE ?_|exact zK
     all_goals repeat' first|exact trivial|exact rfl|apply And.intro
    rintro ⟨k,gn⟩ ⟨hk,hf⟩
    dsimp only at hk hf ⊢
    refine auL ?_
    by_cases hlt:k<ms.length
    ·obtain ⟨m,hm⟩:∃m,ms[k]?=some m:=⟨_,List.getElem?_eq_getElem hlt⟩
     have ex:=vj hm
     have hmm:=hM m (List.mem_of_getElem? hm)
     have hw:IntKind.i64.wrap (now-m.tm)=now-m.tm:=IntWalk.i64_in _ (by omega)
     have hwk:IntKind.i64.wrap ((k:Int)+1)=((k+1:Nat):Int):=(IntWalk.i64_in _ (by omega)).trans (by omega)
     rw [List.drop_eq_getElem_cons hlt,show ms[k]=m from Option.some.inj ((List.getElem?_eq_getElem hlt).symm.trans hm),List.find?_cons] at hf
     cases hq:inP l pr out now m with
     |true=>
      rw [hq] at hf
      have ha:inA l pr out now ms=(m.ad,m.po,0):=by unfold inA;rw [hf]
      rw [ha]
      unfold inP at hq
      rw [decide_eq_true_eq] at hq
      repeat' first|refine auS ?_|(simp only [hw,hwk])|refine auD ?_|(refine auW ?_ ?_<;>intro h<;>try exact auH)|(simp only [Int.toNat_natCast,ex])
      all_goals try exact auP
      all_goals refine auV ?_
      all_goals try exact zc
      all_goals try simp only [hsM] at *
     |false=>
      rw [hq] at hf
      unfold inP at hq
      rw [decide_eq_false_iff_not] at hq
      repeat' first|refine auS ?_|(simp only [hw,hwk])|refine auD ?_|(refine auW ?_ ?_<;>intro h<;>try exact auH)|(simp only [Int.toNat_natCast,ex])
      all_goals try exact auP
      all_goals (refine zn ⟨(k+1,gn+1),⟨hlt,hf⟩,Nat.sub_lt_sub_left hlt (Nat.lt_succ_self k),?_⟩;(refine zo ?_ ?_ (Nat.le_refl _));(all_goals first|refine auE ?_|exact zK);(all_goals (repeat' (first|exact trivial|exact rfl|apply And.intro))))
    ·obtain rfl:k=ms.length:=by omega
     rw [List.drop_length] at hf
     have ha:inA l pr out now ms=(0,0,7):=by unfold inA;rw [hf];rfl
     rw [ha]
     repeat' first|refine auS ?_|fail|refine auD ?_|(refine auW ?_ ?_<;>intro h<;>try exact auH)|fail
     all_goals try exact auP
     all_goals refine auV ?_
     all_goals try exact zc
     all_goals try simp only [hsM] at *
   ·skip
    refine z7 {} 0 Tryz.func111 fun Γ hW=>auC ?_
    repeat' first|refine auS ?_|(with_reducible refine z6 c ?_)|refine auD ?_|(refine auW ?_ ?_<;>intro h<;>try exact auH)|fail
    all_goals try exact auP
    all_goals first
     |(exfalso;simp at h;done)
     |(exfalso;simp_all;done)
     |skip
    refine zw (α:=Nat×Nat) (fun p=>[(⟨.d0,.d4,.d2⟩,.v (.int .i64 (p.1:Nat)))]) (fun p=>[(1,none)]) (fun p=>p.2) (fun p=>ms.length-p.1) (fun p=>p.1≤ms.length∧ms.find? (inP l pr out now)=(ms.drop p.1).find? (inP l pr out now)) (0,Γ.g0+1) ⟨Nat.zero_le _,rfl⟩ ?_ ?_
    ·skip
     refine zo ?_ ?_ (Nat.le_refl _)
     all_goals first|refine auE ?_|exact zK
     all_goals repeat' first|exact trivial|exact rfl|apply And.intro
    rintro ⟨k,gn⟩ ⟨hk,hf⟩
    dsimp only at hk hf ⊢
    refine auL ?_
    by_cases hlt:k<ms.length
    ·obtain ⟨m,hm⟩:∃m,ms[k]?=some m:=⟨_,List.getElem?_eq_getElem hlt⟩
     have ex:=vj hm
     have hmm:=hM m (List.mem_of_getElem? hm)
     have hw:IntKind.i64.wrap (now-m.tm)=now-m.tm:=IntWalk.i64_in _ (by omega)
     have hwk:IntKind.i64.wrap ((k:Int)+1)=((k+1:Nat):Int):=(IntWalk.i64_in _ (by omega)).trans (by omega)
     rw [List.drop_eq_getElem_cons hlt,show ms[k]=m from Option.some.inj ((List.getElem?_eq_getElem hlt).symm.trans hm),List.find?_cons] at hf
     cases hq:inP l pr out now m with
     |true=>
      rw [hq] at hf
      have ha:inA l pr out now ms=(m.ad,m.po,0):=by unfold inA;rw [hf]
      rw [ha]
      unfold inP at hq
      rw [decide_eq_true_eq] at hq
      repeat' first|refine auS ?_|(simp only [hw,hwk])|refine auD ?_|(refine auW ?_ ?_<;>intro h<;>try exact auH)|(simp only [Int.toNat_natCast,ex])
      all_goals try exact auP
      all_goals refine auV ?_
      all_goals try exact zc
      all_goals try simp only [hsM] at *
     |false=>
      rw [hq] at hf
      unfold inP at hq
      rw [decide_eq_false_iff_not] at hq
      repeat' first|refine auS ?_|(simp only [hw,hwk])|refine auD ?_|(refine auW ?_ ?_<;>intro h<;>try exact auH)|(simp only [Int.toNat_natCast,ex])
      all_goals try exact auP
      all_goals (refine zn ⟨(k+1,gn+1),⟨hlt,hf⟩,Nat.sub_lt_sub_left hlt (Nat.lt_succ_self k),?_⟩;(refine zo ?_ ?_ (Nat.le_refl _));(all_goals first|refine auE ?_|exact zK);(all_goals (repeat' (first|exact trivial|exact rfl|apply And.intro))))
    ·obtain rfl:k=ms.length:=by omega
     rw [List.drop_length] at hf
     have ha:inA l pr out now ms=(0,0,7):=by unfold inA;rw [hf];rfl
     rw [ha]
     repeat' first|refine auS ?_|fail|refine auD ?_|(refine auW ?_ ?_<;>intro h<;>try exact auH)|fail
     all_goals try exact auP
     all_goals refine auV ?_
     all_goals try exact zc
     all_goals try simp only [hsM] at *
  ·rw [if_neg hn]
   refine z7 {} 0 Tryz.func111 fun Γ hW=>auC ?_
   repeat' first|refine auS ?_|(with_reducible refine z6 c ?_)|refine auD ?_|(refine auW ?_ ?_<;>intro h<;>try exact auH)|fail
   all_goals try exact auP
   all_goals first
    |(exfalso;simp at h;done)
    |skip
   all_goals refine auV ?_
   all_goals try exact zc
   all_goals try simp only [hsM] at *
 ·rw [if_neg hp]
  refine z7 {} 0 Tryz.func111 fun Γ hW=>auC ?_
  repeat' first|refine auS ?_|(with_reducible refine z6 c ?_)|refine auD ?_|(refine auW ?_ ?_<;>intro h<;>try exact auH)|fail
  all_goals try exact auP
  all_goals first
   |(exfalso;simp at h;done)
   |skip
  all_goals refine auV ?_
  all_goals try exact zc
  all_goals try simp only [hsM] at *
theorem Xr:zi Tryz.prog 111 [dNt l b1 t1 b2 t2 ms,.v (.int .i64 pr),.v (.int .i64 out),.v (.int .i64 now)] (U8 (nIn l b1 t1 b2 t2 ms pr out now)):=by
 by_cases he:y_ l b1 t1 b2 t2 ms=0
 ·rw [←YG he]
  exact We l b1 t1 b2 t2 ms pr out now hl h1 h2 he
 ·unfold nIn
  rw [if_pos he]
  exact U9 l b1 t1 b2 t2 ms pr out now hl h1 h2 rfl he
end
end Go.Proofs.YtaiileiodjicpaaGreatDoor.A
namespace Go.Proofs.YtaiileiodjicpaaGreatDoor
attribute [local irreducible] zF Go
set_option maxRecDepth 100000
abbrev dSw (s:List UInt8) (a port:Int) (at' off:Nat):DV:=.tup [.v (.string (mkS (rnR s a port at' off).1)),.v (.int .i64 (rnR s a port at' off).2)]
theorem kK (s:List UInt8) (a port:Int) (hs:s.length≤140737488351232) (hab:0≤a∧a<4294967296) (at' off:Nat) (hao:(at'=12∧off=0)∨(at'=16∧off=2)):zi Tryz.prog 147 [.v (.string (mkS s)),.v (.int .u32 a),.v (.int .i64 port),.v (.int .i64 (at':Nat)),.v (.int .i64 (off:Nat))] (dSw s a port at' off):=by
 by_cases h1:(edR s).2=0
 ·by_cases h3:0≤port∧port≤65535
  ·exact eI s a port hs h1 h3 hab at' off hao
  ·exact pZ s a port hs (.inr h3) at' off
 ·exact pZ s a port hs (.inl h1) at' off
theorem az (s:List UInt8) (a port:Int) (hs:s.length≤140737488351232) (hab:0≤a∧a<4294967296):zi Tryz.prog 110 [.v (.string (mkS s)),.v (.int .u32 a),.v (.int .i64 port)] (dSw s a port 12 0):=by
 have h:=kK s a port hs hab 12 0 (.inl ⟨rfl,rfl⟩)
 refine z7 {} 0 Tryz.func110 fun Γ hW=>auC ?_
 repeat' first|refine auS ?_|(with_reducible refine z6 h ?_)|refine auD ?_|(refine auW ?_ ?_<;>intro h<;>try exact auH)|fail
 all_goals try exact auP
 all_goals refine auV ?_
 all_goals try exact zc
 all_goals try simp only [hsM] at *
theorem Wq (s:List UInt8) (a port:Int) (hs:s.length≤140737488351232) (hab:0≤a∧a<4294967296):zi Tryz.prog 112 [.v (.string (mkS s)),.v (.int .u32 a),.v (.int .i64 port)] (dSw s a port 16 2):=by
 have h:=kK s a port hs hab 16 2 (.inr ⟨rfl,rfl⟩)
 refine z7 {} 0 Tryz.func112 fun Γ hW=>auC ?_
 repeat' first|refine auS ?_|(with_reducible refine z6 h ?_)|refine auD ?_|(refine auW ?_ ?_<;>intro h<;>try exact auH)|fail
 all_goals try exact auP
 all_goals refine auV ?_
 all_goals try exact zc
 all_goals try simp only [hsM] at *
abbrev toR (f:Fl):R.Fl:=⟨f.fr,f.to,f.proto,f.fp,f.tp⟩
def vW (p6 K D:Bool) (tr:List T.Tk) (tk:List T.Tk×Bool) (n n2:Nt) (e:Int) (o:List UInt8):List T.Tk×Nt×List UInt8×Int:=
 if (p6&&K)=false∧D=false then (tr,n,[],4) else if p6=true∧tk.2=false then (tk.1,n,[],4)
 else if e≠0 then (if p6 then tk.1 else tr,n,[],5) else (if p6 then tk.1 else tr,n2,o,0)
abbrev rM (n:Nt) (pr ad po now:Int):Nat×Nat×List A.Mp×Int×Int:=A.V5 n.l n.b1 n.t1 n.b2 n.t2 n.ms pr ad po now
abbrev Nt.set (n:Nt) (r:Nat×Nat×List A.Mp×Int×Int):Nt:=⟨n.l,n.b1,r.1,n.b2,r.2.1,r.2.2.1⟩
def t8 (u:Hs) (f:Fl) (t:List UInt8) (now:Int):List T.Tk×Nt×List UInt8×Int:=
 vW (decide (f.proto=6)) (T.knB u.tr f.fr f.to f.fp f.tp now) (R.pM u.p.rs (toR f) u.p.el).1 u.tr (qn u.tr f.fr f.to f.fp f.tp (flT t) now) u.n
  (u.n.set (rM u.n f.proto f.fr f.fp now)) (rM u.n f.proto f.fr f.fp now).2.2.2.2 (rnR t u.p.ou (rM u.n f.proto f.fr f.fp now).2.2.2.1 12 0).1
section
variable {p6 K D:Bool} {tr:List T.Tk} {tk:List T.Tk×Bool} {n n2:Nt} {e:Int} {o:List UInt8}
theorem lf1 (h1:(p6&&K)=false) (h2:D=false):vW p6 K D tr tk n n2 e o=(tr,n,[],4):=by unfold vW;rw [if_pos ⟨h1,h2⟩]
theorem lf2 (h1:(p6&&K)=true∨D=true) (h2:p6=true) (h3:tk.2=false):vW p6 K D tr tk n n2 e o=(tk.1,n,[],4):=by unfold vW;rw [if_neg (by intro q;rw [q.1,q.2] at h1;simp at h1),if_pos ⟨h2,h3⟩]
theorem lf3 (h1:(p6&&K)=true∨D=true) (h2:p6=false∨tk.2=true) (h3:¬e=0):vW p6 K D tr tk n n2 e o=(if p6 then tk.1 else tr,n,[],5):=by unfold vW;rw [if_neg (by intro q;rw [q.1,q.2] at h1;simp at h1),if_neg (by intro q;rw [q.1,q.2] at h2;simp at h2),if_pos h3]
theorem lf4 (h1:(p6&&K)=true∨D=true) (h2:p6=false∨tk.2=true) (h3:e=0):vW p6 K D tr tk n n2 e o=(if p6 then tk.1 else tr,n2,o,0):=by unfold vW;rw [if_neg (by intro q;rw [q.1,q.2] at h1;simp at h1),if_neg (by intro q;rw [q.1,q.2] at h2;simp at h2),if_neg (by simp [h3])]
end
structure VW (f:Fl):Prop where
 pr:f.proto=6∨f.proto=17
 fr:0≤f.fr∧f.fr<4294967296
 to:0≤f.to∧f.to<4294967296
set_option maxHeartbeats 4000000 in
theorem og (u:Hs) (hw:u.wf) (l:List Mt) (f:Fl) (hf:VW f) (t:List UInt8) (ht:t.length≤140737488351232) (now:Int) (lb n q:Nat) :
  zE Tryz.prog 74 [.ptr 0 n 23 0 0] (wkH u l f t now lb n q) (fun D H=>D=.tup [.v (.string (mkS (t8 u f t now).2.2.1)),.v (.int .i64 (t8 u f t now).2.2.2)]∧H=wkH { u with tr:=(t8 u f t now).1,n:=(t8 u f t now).2.1 } l f t now lb n q):=by
 have hkn:=lD u l f t now f.fr f.to f.fp f.tp lb n q
 have htk:=o6 u hw.tr l f t ht now f.fr f.to f.fp f.tp lb n q
 have hd:=R.iV u.p.rs (toR f) u.p.el hw.rs.1 hw.p.2 ⟨hf.fr,hf.to⟩
 have ho:zi Tryz.prog 109 [A.dNt u.n.l u.n.b1 u.n.t1 u.n.b2 u.n.t2 u.n.ms,.v (.int .i64 f.proto),.v (.int .u32 f.fr),.v (.int .i64 f.fp),.v (.int .i64 now)] (A.Xi u.n.l u.n.b1 u.n.b2 (rM u.n f.proto f.fr f.fp now)):=A.ZB u.n.l u.n.b1 u.n.t1 u.n.b2 u.n.t2 u.n.ms f.proto f.fr f.fp now hw.n.ms hw.n.t1 hw.n.t2
 have hs:=az t u.p.ou (rM u.n f.proto f.fr f.fp now).2.2.2.1 ht hw.p.1
 unfold dSw at hs
 unfold t8
 generalize T.knB u.tr f.fr f.to f.fp f.tp now=K at *
 generalize R.pM u.p.rs (toR f) u.p.el=DD at *
 obtain ⟨D,d1,d2⟩:=DD
 generalize qn u.tr f.fr f.to f.fp f.tp (flT t) now=tk at *
 obtain ⟨tr2,B⟩:=tk
 generalize rM u.n f.proto f.fr f.fp now=r at *
 obtain ⟨T1,T2,MS,p,e⟩:=r
 generalize rnR t u.p.ou p 12 0=O at *
 obtain ⟨o,oe⟩:=O
 dsimp only at *
 have hpr:=hf.pr
 clear hf hw
 obtain ⟨fr,to,proto,fp,tp⟩:=f
 dsimp only at *
 rcases hpr with rfl|rfl
 ·skip
  refine zp {} 2 Tryz.func74 fun Γ hN0 hL0=>auC ?_
  have hn:n<Γ.g0:=hN0 0 _ rfl
  have hm:q<Γ.g0:=hN0 1 _ rfl
  repeat' first|refine auS ?_|(first|((with_reducible refine zy 106 ?_);(refine zt [0,1] (by decide) rfl rfl hkn ?_))|((with_reducible refine zy 108 ?_);(refine zt [0,1] (by decide) rfl rfl htk ?_))|(with_reducible refine z6 hd ?_)|(with_reducible refine z6 ho ?_)|(with_reducible refine z6 hs ?_))|refine auD ?_|(refine auW ?_ ?_<;>intro h<;>try exact auH)|fail
  all_goals try exact auP
  all_goals (clear hN0 hL0 hkn htk hd ho hs)
  all_goals first
   |(rw [lf1];rotate_left;iterate 2 (focus (simp_all;done)))
   |(rw [lf2];rotate_left;iterate 3 (focus (simp_all;done)))
   |(rw [lf3];rotate_left;iterate 3 (focus (simp_all;done)))
   |(rw [lf4];rotate_left;iterate 3 (focus (simp_all;done)))
   |(exfalso;simp_all;done)
  all_goals refine A.ue trivial ⟨trivial,trivial,trivial⟩ rfl rfl hn (mg _ _ _ _ hm) hm (wy _ _)
 ·skip
  refine zp {} 2 Tryz.func74 fun Γ hN0 hL0=>auC ?_
  have hn:n<Γ.g0:=hN0 0 _ rfl
  have hm:q<Γ.g0:=hN0 1 _ rfl
  repeat' first|refine auS ?_|(first|((with_reducible refine zy 106 ?_);(refine zt [0,1] (by decide) rfl rfl hkn ?_))|((with_reducible refine zy 108 ?_);(refine zt [0,1] (by decide) rfl rfl htk ?_))|(with_reducible refine z6 hd ?_)|(with_reducible refine z6 ho ?_)|(with_reducible refine z6 hs ?_))|refine auD ?_|(refine auW ?_ ?_<;>intro h<;>try exact auH)|fail
  all_goals try exact auP
  all_goals (clear hN0 hL0 hkn htk hd ho hs)
  all_goals first
   |(rw [lf1];rotate_left;iterate 2 (focus (simp_all;done)))
   |(rw [lf2];rotate_left;iterate 3 (focus (simp_all;done)))
   |(rw [lf3];rotate_left;iterate 3 (focus (simp_all;done)))
   |(rw [lf4];rotate_left;iterate 3 (focus (simp_all;done)))
   |(exfalso;simp_all;done)
  all_goals refine A.ue trivial ⟨trivial,trivial,trivial⟩ rfl rfl hn (mg _ _ _ _ hm) hm (wy _ _)
def uY (p6 K:Bool) (tr:List T.Tk) (tk:List T.Tk×Bool) (e:Int) (o:List UInt8):List T.Tk×List UInt8×Int:=
 if e≠0 then (tr,[],4) else if p6=true∧K=false then (tr,[],4) else if p6=true∧tk.2=false then (tk.1,[],4) else (if p6 then tk.1 else tr,o,0)
section
variable {p6 K:Bool} {tr:List T.Tk} {tk:List T.Tk×Bool} {e:Int} {o:List UInt8}
theorem ef1 (h:¬e=0):uY p6 K tr tk e o=(tr,[],4):=by unfold uY;rw [if_pos h]
theorem ef2 (h0:e=0) (h1:p6=true) (h2:K=false):uY p6 K tr tk e o=(tr,[],4):=by unfold uY;rw [if_neg (not_not_intro h0),if_pos ⟨h1,h2⟩]
theorem ef3 (h0:e=0) (h1:p6=true) (h2:K=true) (h3:tk.2=false):uY p6 K tr tk e o=(tk.1,[],4):=by unfold uY;rw [if_neg (not_not_intro h0),if_neg (by rw [h2];simp),if_pos ⟨h1,h3⟩]
theorem ef4 (h0:e=0) (h1:p6=false∨K=true∧tk.2=true):uY p6 K tr tk e o=(if p6 then tk.1 else tr,o,0):=by
 unfold uY
 rw [if_neg (not_not_intro h0),if_neg (by rintro ⟨q1,q2⟩;rw [q1,q2] at h1;simp at h1),if_neg (by rintro ⟨q1,q2⟩;rw [q1,q2] at h1;simp at h1)]
end
abbrev rD (n:Nt) (pr out now:Int):Int×Int×Int:=A.nIn n.l n.b1 n.t1 n.b2 n.t2 n.ms pr out now
def sS (u:Hs) (f:Fl) (t:List UInt8) (now:Int):List T.Tk×List UInt8×Int:=
 uY (decide (f.proto=6)) (T.knB u.tr f.fr (rD u.n f.proto f.tp now).1 f.fp (rD u.n f.proto f.tp now).2.1 now) u.tr (qn u.tr f.fr (rD u.n f.proto f.tp now).1 f.fp (rD u.n f.proto f.tp now).2.1 (flT t) now)
  (rD u.n f.proto f.tp now).2.2 (rnR t (rD u.n f.proto f.tp now).1 (rD u.n f.proto f.tp now).2.1 16 2).1
set_option maxHeartbeats 4000000 in
theorem oi (u:Hs) (hw:u.wf) (l:List Mt) (f:Fl) (hf:VW f) (t:List UInt8) (ht:t.length≤140737488351232) (now:Int) (hA:0≤(rD u.n f.proto f.tp now).1∧(rD u.n f.proto f.tp now).1<4294967296) (lb n q:Nat) :
  zE Tryz.prog 75 [.ptr 0 n 23 0 0] (wkH u l f t now lb n q) (fun D H=>D=.tup [.v (.string (mkS (sS u f t now).2.1)),.v (.int .i64 (sS u f t now).2.2)]∧H=wkH { u with tr:=(sS u f t now).1 } l f t now lb n q):=by
 have hi:zi Tryz.prog 111 [A.dNt u.n.l u.n.b1 u.n.t1 u.n.b2 u.n.t2 u.n.ms,.v (.int .i64 f.proto),.v (.int .i64 f.tp),.v (.int .i64 now)] (A.U8 (rD u.n f.proto f.tp now)):=A.Xr u.n.l u.n.b1 u.n.t1 u.n.b2 u.n.t2 u.n.ms f.proto f.tp now hw.n.mm.1 hw.n.t1 hw.n.t2
 unfold sS
 generalize rD u.n f.proto f.tp now=r at *
 obtain ⟨a,p,e⟩:=r
 dsimp only at *
 have hkn:=lD u l f t now f.fr a f.fp p lb n q
 have htk:=o6 u hw.tr l f t ht now f.fr a f.fp p lb n q
 have hs:=Wq t a p ht hA
 unfold dSw at hs
 generalize T.knB u.tr f.fr a f.fp p now=K at *
 generalize qn u.tr f.fr a f.fp p (flT t) now=tk at *
 obtain ⟨tr2,B⟩:=tk
 generalize rnR t a p 16 2=O at *
 obtain ⟨o,oe⟩:=O
 dsimp only at *
 have hpr:=hf.pr
 clear hf hw
 obtain ⟨fr,to,proto,fp,tp⟩:=f
 dsimp only at *
 rcases hpr with rfl|rfl
 ·skip
  refine zp {} 2 Tryz.func75 fun Γ hN0 hL0=>auC ?_
  have hn:n<Γ.g0:=hN0 0 _ rfl
  have hm:q<Γ.g0:=hN0 1 _ rfl
  repeat' first|refine auS ?_|(first|((with_reducible refine zy 106 ?_);(refine zt [0,1] (by decide) rfl rfl hkn ?_))|((with_reducible refine zy 108 ?_);(refine zt [0,1] (by decide) rfl rfl htk ?_))|(with_reducible refine z6 hi ?_)|(with_reducible refine z6 hs ?_))|refine auD ?_|(refine auW ?_ ?_<;>intro h<;>try exact auH)|fail
  all_goals try exact auP
  all_goals (clear hN0 hL0 hkn htk hi hs)
  all_goals first
   |(rw [ef1];rotate_left;iterate 1 (focus (simp_all;done)))
   |(rw [ef2];rotate_left;iterate 3 (focus (simp_all;done)))
   |(rw [ef3];rotate_left;iterate 4 (focus (simp_all;done)))
   |(rw [ef4];rotate_left;iterate 2 (focus (simp_all;done)))
   |(exfalso;simp_all;done)
  all_goals refine A.ue trivial ⟨trivial,trivial,trivial⟩ rfl rfl hn (mg _ _ _ _ hm) hm (wy _ _)
 ·skip
  refine zp {} 2 Tryz.func75 fun Γ hN0 hL0=>auC ?_
  have hn:n<Γ.g0:=hN0 0 _ rfl
  have hm:q<Γ.g0:=hN0 1 _ rfl
  repeat' first|refine auS ?_|(first|((with_reducible refine zy 106 ?_);(refine zt [0,1] (by decide) rfl rfl hkn ?_))|((with_reducible refine zy 108 ?_);(refine zt [0,1] (by decide) rfl rfl htk ?_))|(with_reducible refine z6 hi ?_)|(with_reducible refine z6 hs ?_))|refine auD ?_|(refine auW ?_ ?_<;>intro h<;>try exact auH)|fail
  all_goals try exact auP
  all_goals (clear hN0 hL0 hkn htk hi hs)
  all_goals first
   |(rw [ef1];rotate_left;iterate 1 (focus (simp_all;done)))
   |(rw [ef2];rotate_left;iterate 3 (focus (simp_all;done)))
   |(rw [ef3];rotate_left;iterate 4 (focus (simp_all;done)))
   |(rw [ef4];rotate_left;iterate 2 (focus (simp_all;done)))
   |(exfalso;simp_all;done)
  all_goals refine A.ue trivial ⟨trivial,trivial,trivial⟩ rfl rfl hn (mg _ _ _ _ hm) hm (wy _ _)
end Go.Proofs.YtaiileiodjicpaaGreatDoor
