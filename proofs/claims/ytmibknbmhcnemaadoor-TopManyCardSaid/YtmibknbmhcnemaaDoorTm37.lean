import Derived.Test.YtmibknbmhcnemaaDoorTm12
set_option linter.unusedVariables false
set_option linter.unusedSimpArgs false
namespace Go.Proofs.YtmibknbmhcnemaaDoor.A
attribute [local irreducible] zz Go
set_option maxRecDepth 100000
def inP (l pr out now:Int):Mp→Bool:=fun m=>decide (m.pr=pr∧m.ou=out∧now≤m.tm+l)
abbrev dIn (a p e:Int):DV:=.tup [.v (.int .u32 a),.v (.int .i64 p),.v (.int .i64 e)]
theorem lS {l b1:Int} {t1:Nat} {b2:Int} {t2:Nat} {ms:List Mp} (h1:t1<18446744073709551616) (h2:t2<18446744073709551616) (h:zF l b1 t1 b2 t2 ms=0):(1≤l∧l≤1000000)∧∀m∈ms,0≤m.tm∧m.tm≤1099511627776:=by
 unfold zF at h
 split at h
 ·rename_i hc
  split at h
  ·rename_i hr
   simp only [Bool.and_eq_true,decide_eq_true_eq] at hc
   refine ⟨hc.1,fun m hm=>?_⟩
   rw [←qk b1 b2 t1 t2 ms h1 h2,Bool.and_eq_true] at hr
   obtain ⟨j,hj⟩:=List.mem_iff_getElem?.1 hm
   have:=tS hr.1 hj
   unfold pT at this
   simp only [Bool.and_eq_true,decide_eq_true_eq] at this
   exact this.1.2
  ·omega
 ·omega
def inA (l pr out now:Int) (ms:List Mp):Int×Int×Int:=match ms.find? (inP l pr out now) with|some m=>(m.ad,m.po,0)|none=>(0,0,7)
def nIn (l b1:Int) (t1:Nat) (b2:Int) (t2:Nat) (ms:List Mp) (pr out now:Int):Int×Int×Int:=
 if zF l b1 t1 b2 t2 ms≠0 then (0,0,zF l b1 t1 b2 t2 ms) else if ¬(pr=6∨pr=17) then (0,0,7) else if ¬(0≤now∧now≤1099511627776) then (0,0,1) else inA l pr out now ms
abbrev ZT (r:Int×Int×Int):DV:=dIn r.1 r.2.1 r.2.2
theorem bm {l b1:Int} {t1:Nat} {b2:Int} {t2:Nat} {ms:List Mp} {pr out now:Int} (he:zF l b1 t1 b2 t2 ms=0):(if pr=6∨pr=17 then (if 0≤now∧now≤1099511627776 then dIn (inA l pr out now ms).1 (inA l pr out now ms).2.1 (inA l pr out now ms).2.2 else dIn 0 0 1) else dIn 0 0 7)=ZT (nIn l b1 t1 b2 t2 ms pr out now):=by
 unfold nIn
 rw [if_neg (not_not_intro he)]
 by_cases hp:pr=6∨pr=17
 ·rw [if_pos hp,if_neg (not_not_intro hp)]
  by_cases hn:0≤now∧now≤1099511627776
  ·rw [if_pos hn,if_neg (not_not_intro hn)]
  ·rw [if_neg hn,if_pos hn]
 ·rw [if_neg hp,if_pos hp]
section
variable (l b1:Int) (t1:Nat) (b2:Int) (t2:Nat) (ms:List Mp) (pr out now:Int) (hl:ms.length≤maxLen) (h1:t1<18446744073709551616) (h2:t2<18446744073709551616)
include hl h1 h2
theorem ZV {e:Int} (he:zF l b1 t1 b2 t2 ms=e) (hne:¬e=0):zf Tryd.prog 69 [dNt l b1 t1 b2 t2 ms,.v (.int .i64 pr),.v (.int .i64 out),.v (.int .i64 now)] (dIn 0 0 e):=by
 have c:=yX l b1 t1 b2 t2 ms hl h1 h2
 rw [he] at c
 refine z4 {} 0 Tryd.func69 fun Γ hW=>auC ?_
 repeat' first|refine auS ?_|(with_reducible refine z0 c ?_)|refine auD ?_|(refine auW ?_ ?_<;>intro h<;>try exact auH)|fail
 all_goals try exact auP
 all_goals refine auV ?_
 all_goals try exact z_
 all_goals try simp only [hsM] at *
set_option maxHeartbeats 4000000 in
theorem ay (he:zF l b1 t1 b2 t2 ms=0):zf Tryd.prog 69 [dNt l b1 t1 b2 t2 ms,.v (.int .i64 pr),.v (.int .i64 out),.v (.int .i64 now)] (if pr=6∨pr=17 then (if 0≤now∧now≤1099511627776 then dIn (inA l pr out now ms).1 (inA l pr out now ms).2.1 (inA l pr out now ms).2.2 else dIn 0 0 1) else dIn 0 0 7):=by
 have c:=yX l b1 t1 b2 t2 ms hl h1 h2
 obtain ⟨hL,hM⟩:=lS h1 h2 he
 rw [he] at c
 have hl':=hl
 unfold maxLen at hl'
 by_cases hp:pr=6∨pr=17
 ·rw [if_pos hp]
  by_cases hn:0≤now∧now≤1099511627776
  ·rw [if_pos hn]
   by_cases h6:pr=6
   ·skip
    refine z4 {} 0 Tryd.func69 fun Γ hW=>auC ?_
    repeat' first|refine auS ?_|(with_reducible refine z0 c ?_)|refine auD ?_|(refine auW ?_ ?_<;>intro h<;>try exact auH)|fail
    all_goals try exact auP
    all_goals first
     |(exfalso;simp at h;done)
     |(exfalso;simp_all;done)
     |skip
    refine zE (α:=Nat×Nat) (fun p=>[(⟨.d0,.d4,.d2⟩,.v (.int .i64 (p.1:Nat)))]) (fun p=>[(1,none)]) (fun p=>p.2) (fun p=>ms.length-p.1) (fun p=>p.1≤ms.length∧ms.find? (inP l pr out now)=(ms.drop p.1).find? (inP l pr out now)) (0,Γ.g0+1) ⟨Nat.zero_le _,rfl⟩ ?_ ?_
    ·skip
     refine zt ?_ ?_ (Nat.le_refl _)
     all_goals first|refine auE ?_|exact zR
     all_goals repeat' first|exact trivial|exact rfl|apply And.intro
    rintro ⟨k,gn⟩ ⟨hk,hf⟩
    dsimp only at hk hf ⊢
    refine auL ?_
    by_cases hlt:k<ms.length
    ·obtain ⟨m,hm⟩:∃m,ms[k]?=some m:=⟨_,List.getElem?_eq_getElem hlt⟩
     have ex:=wI hm
     have hmm:=hM m (List.mem_of_getElem? hm)
     have hw:IntKind.i64.wrap (now-m.tm)=now-m.tm:=IntWalk.i64_in _ (by omega)
     have hwk:IntKind.i64.wrap ((k:Int)+1)=((k+1:Nat):Int):=(IntWalk.i64_in _ (by omega)).trans (by omega)
     rw [List.drop_eq_getElem_cons hlt,show ms[k]=m from Option.some.inj ((List.getElem?_eq_getElem hlt).symm.trans hm),List.find?_cons] at hf
     cases hq:inP l pr out now m with
     |true=>
      rw [hq] at hf
      have ha:inA l pr out now ms=(m.ad,m.po,0):=by unfold inA;rw [hf]
      rw [ha]
      unfold inP at hq
      rw [decide_eq_true_eq] at hq
      repeat' first|refine auS ?_|(simp only [hw,hwk])|refine auD ?_|(refine auW ?_ ?_<;>intro h<;>try exact auH)|(simp only [Int.toNat_natCast,ex])
      all_goals try exact auP
      all_goals refine auV ?_
      all_goals try exact z_
      all_goals try simp only [hsM] at *
     |false=>
      rw [hq] at hf
      unfold inP at hq
      rw [decide_eq_false_iff_not] at hq
      repeat' first|refine auS ?_|(simp only [hw,hwk])|refine auD ?_|(refine auW ?_ ?_<;>intro h<;>try exact auH)|(simp only [Int.toNat_natCast,ex])
      all_goals try exact auP
      all_goals (refine zp ⟨(k+1,gn+1),⟨hlt,hf⟩,Nat.sub_lt_sub_left hlt (Nat.lt_succ_self k),?_⟩;(refine zt ?_ ?_ (Nat.le_refl _));(all_goals first|refine auE ?_|exact zR);(all_goals (repeat' (first|exact trivial|exact rfl|apply And.intro))))
    ·obtain rfl:k=ms.length:=by omega
     rw [List.drop_length] at hf
     have ha:inA l pr out now ms=(0,0,7):=by unfold inA;rw [hf];rfl
     rw [ha]
     repeat' first|refine auS ?_|fail|refine auD ?_|(refine auW ?_ ?_<;>intro h<;>try exact auH)|fail
     all_goals try exact auP
     all_goals refine auV ?_
     all_goals try exact z_
     all_goals try simp only [hsM] at *
   ·skip
    refine z4 {} 0 Tryd.func69 fun Γ hW=>auC ?_
    repeat' first|refine auS ?_|(with_reducible refine z0 c ?_)|refine auD ?_|(refine auW ?_ ?_<;>intro h<;>try exact auH)|fail
    all_goals try exact auP
    all_goals first
     |(exfalso;simp at h;done)
     |(exfalso;simp_all;done)
     |skip
    refine zE (α:=Nat×Nat) (fun p=>[(⟨.d0,.d4,.d2⟩,.v (.int .i64 (p.1:Nat)))]) (fun p=>[(1,none)]) (fun p=>p.2) (fun p=>ms.length-p.1) (fun p=>p.1≤ms.length∧ms.find? (inP l pr out now)=(ms.drop p.1).find? (inP l pr out now)) (0,Γ.g0+1) ⟨Nat.zero_le _,rfl⟩ ?_ ?_
    ·skip
     refine zt ?_ ?_ (Nat.le_refl _)
     all_goals first|refine auE ?_|exact zR
     all_goals repeat' first|exact trivial|exact rfl|apply And.intro
    rintro ⟨k,gn⟩ ⟨hk,hf⟩
    dsimp only at hk hf ⊢
    refine auL ?_
    by_cases hlt:k<ms.length
    ·obtain ⟨m,hm⟩:∃m,ms[k]?=some m:=⟨_,List.getElem?_eq_getElem hlt⟩
     have ex:=wI hm
     have hmm:=hM m (List.mem_of_getElem? hm)
     have hw:IntKind.i64.wrap (now-m.tm)=now-m.tm:=IntWalk.i64_in _ (by omega)
     have hwk:IntKind.i64.wrap ((k:Int)+1)=((k+1:Nat):Int):=(IntWalk.i64_in _ (by omega)).trans (by omega)
     rw [List.drop_eq_getElem_cons hlt,show ms[k]=m from Option.some.inj ((List.getElem?_eq_getElem hlt).symm.trans hm),List.find?_cons] at hf
     cases hq:inP l pr out now m with
     |true=>
      rw [hq] at hf
      have ha:inA l pr out now ms=(m.ad,m.po,0):=by unfold inA;rw [hf]
      rw [ha]
      unfold inP at hq
      rw [decide_eq_true_eq] at hq
      repeat' first|refine auS ?_|(simp only [hw,hwk])|refine auD ?_|(refine auW ?_ ?_<;>intro h<;>try exact auH)|(simp only [Int.toNat_natCast,ex])
      all_goals try exact auP
      all_goals refine auV ?_
      all_goals try exact z_
      all_goals try simp only [hsM] at *
     |false=>
      rw [hq] at hf
      unfold inP at hq
      rw [decide_eq_false_iff_not] at hq
      repeat' first|refine auS ?_|(simp only [hw,hwk])|refine auD ?_|(refine auW ?_ ?_<;>intro h<;>try exact auH)|(simp only [Int.toNat_natCast,ex])
      all_goals try exact auP
      all_goals (refine zp ⟨(k+1,gn+1),⟨hlt,hf⟩,Nat.sub_lt_sub_left hlt (Nat.lt_succ_self k),?_⟩;(refine zt ?_ ?_ (Nat.le_refl _));(all_goals first|refine auE ?_|exact zR);(all_goals (repeat' (first|exact trivial|exact rfl|apply And.intro))))
    ·obtain rfl:k=ms.length:=by omega
     rw [List.drop_length] at hf
     have ha:inA l pr out now ms=(0,0,7):=by unfold inA;rw [hf];rfl
     rw [ha]
     repeat' first|refine auS ?_|fail|refine auD ?_|(refine auW ?_ ?_<;>intro h<;>try exact auH)|fail
     all_goals try exact auP
     all_goals refine auV ?_
     all_goals try exact z_
     all_goals try simp only [hsM] at *
  ·rw [if_neg hn]
   refine z4 {} 0 Tryd.func69 fun Γ hW=>auC ?_
   repeat' first|refine auS ?_|(with_reducible refine z0 c ?_)|refine auD ?_|(refine auW ?_ ?_<;>intro h<;>try exact auH)|fail
   all_goals try exact auP
   all_goals first
    |(exfalso;simp at h;done)
    |skip
   all_goals refine auV ?_
   all_goals try exact z_
   all_goals try simp only [hsM] at *
 ·rw [if_neg hp]
  refine z4 {} 0 Tryd.func69 fun Γ hW=>auC ?_
  repeat' first|refine auS ?_|(with_reducible refine z0 c ?_)|refine auD ?_|(refine auW ?_ ?_<;>intro h<;>try exact auH)|fail
  all_goals try exact auP
  all_goals first
   |(exfalso;simp at h;done)
   |skip
  all_goals refine auV ?_
  all_goals try exact z_
  all_goals try simp only [hsM] at *
theorem am:zf Tryd.prog 69 [dNt l b1 t1 b2 t2 ms,.v (.int .i64 pr),.v (.int .i64 out),.v (.int .i64 now)] (ZT (nIn l b1 t1 b2 t2 ms pr out now)):=by
 by_cases he:zF l b1 t1 b2 t2 ms=0
 ·rw [←bm he]
  exact ay l b1 t1 b2 t2 ms pr out now hl h1 h2 he
 ·unfold nIn
  rw [if_pos he]
  exact ZV l b1 t1 b2 t2 ms pr out now hl h1 h2 rfl he
end
end Go.Proofs.YtmibknbmhcnemaaDoor.A
