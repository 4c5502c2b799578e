import Derived.Test.YtmibknbmhcnemaaGreatDoorHb42
import Derived.Test.YtmibknbmhcnemaaGreatDoorHb43
import Derived.Test.YtmibknbmhcnemaaGreatDoorHb38
import Derived.Test.YtmibknbmhcnemaaGreatDoorHb40
set_option linter.unusedVariables false
set_option linter.unusedSimpArgs false
namespace Go.Proofs.YtmibknbmhcnemaaGreatDoor.A
attribute [local irreducible] zF Go
set_option maxRecDepth 100000
theorem eg {α:Type} (p:α→Bool) (l:List α):(zl p l 0 = -1∧l.find? p=none)∨∃ (i:Nat) (t:α),l[i]?=some t∧zl p l 0=(i:Int)∧l.find? p=some t:=by
 rcases yD p l 0 with ⟨h1,h2⟩|⟨i,t,h1,h2,h3,h4⟩
 ·exact .inl ⟨h1,List.find?_eq_none.2 (fun t ht=>by simp [h2 t ht])⟩
 ·refine .inr ⟨i,t,h1,by rw [h4];omega,?_⟩
  have hi:i<l.length:=(List.getElem?_eq_some_iff.1 h1).1
  have e:l=l.take i++t::l.drop (i+1):=by
   conv=>lhs;rw [←List.take_append_drop i l,List.drop_eq_getElem_cons hi,show l[i]=t from Option.some.inj ((List.getElem?_eq_getElem hi).symm.trans h1)]
  rw [e,List.find?_append,List.find?_eq_none.2 (fun y hy=>by simp [h3 y hy])]
  simp [h2]
theorem fy (m:Mp) (l b1:Int) (t1:Nat) (b2:Int) (t2:Nat) (ms:List Mp) (pr out now:Int) (hl:1≤l∧l≤1000000) (hm:0≤m.tm∧m.tm≤1099511627776):zd Tryz.prog 140 [.agg m.enc,.rptr [.v (.int .i64 pr)],.rptr [.v (.int .i64 out)],.rptr [.v (.int .i64 now)],.rptr (rNt l b1 t1 b2 t2 ms)] (.v (.bool (inP l pr out now m))):=by
 have hw:IntKind.i64.wrap (m.tm+l)=m.tm+l:=IntWalk.i64_in _ (by omega)
 refine z4 {} 0 Tryz.func140 fun Γ hW=>auC ?_
 repeat' first|refine auS ?_|(simp only [hw])|refine auD ?_|(refine auW ?_ ?_<;>intro h<;>try exact auH)|fail
 all_goals try exact auP
 all_goals refine auV ?_
 all_goals try exact z8
 all_goals try simp only [hsM] at *
 all_goals (refine zQ ?_;unfold inP;simp_all)
section
variable (l b1:Int) (t1:Nat) (b2:Int) (t2:Nat) (ms:List Mp) (pr out now:Int) (hl:ms.length≤maxLen) (h1:t1<18446744073709551616) (h2:t2<18446744073709551616)
include hl h1 h2
theorem am {e:Int} (he:zI l b1 t1 b2 t2 ms=e) (hne:¬e=0):zd Tryz.prog 88 [dNt l b1 t1 b2 t2 ms,.v (.int .i64 pr),.v (.int .i64 out),.v (.int .i64 now)] (dIn 0 0 e):=by
 have c:=yu l b1 t1 b2 t2 ms hl h1 h2
 rw [he] at c
 refine z4 {} 0 Tryz.func88 fun Γ hW=>auC ?_
 repeat' first|refine auS ?_|(with_reducible refine z0 c ?_)|refine auD ?_|(refine auW ?_ ?_<;>intro h<;>try exact auH)|fail
 all_goals try exact auP
 all_goals refine auV ?_
 all_goals try exact z8
 all_goals try simp only [hsM] at *
set_option maxHeartbeats 4000000 in
theorem dj (he:zI l b1 t1 b2 t2 ms=0):zd Tryz.prog 88 [dNt l b1 t1 b2 t2 ms,.v (.int .i64 pr),.v (.int .i64 out),.v (.int .i64 now)] (if pr=6∨pr=17 then (if 0≤now∧now≤1099511627776 then dIn (inA l pr out now ms).1 (inA l pr out now ms).2.1 (inA l pr out now ms).2.2 else dIn 0 0 1) else dIn 0 0 7):=by
 have c:=yu l b1 t1 b2 t2 ms hl h1 h2
 obtain ⟨hL,hM⟩:=n4 h1 h2 he
 rw [he] at c
 have hi:=qu (g:=140) (caps:=[.rptr [.v (.int .i64 pr)],.rptr [.v (.int .i64 out)],.rptr [.v (.int .i64 now)],.rptr (rNt l b1 t1 b2 t2 ms)]) (inP l pr out now) ms false hl (fun m hm=>fy m l b1 t1 b2 t2 ms pr out now hL (hM m hm))
 by_cases hp:pr=6∨pr=17
 ·rw [if_pos hp]
  by_cases hn:0≤now∧now≤1099511627776
  ·rw [if_pos hn]
   rcases eg (inP l pr out now) ms with ⟨f1,f2⟩|⟨i,t,f0,f1,f2⟩
   ·rw [f1] at hi
    have ha:inA l pr out now ms=(0,0,7):=by unfold inA;rw [f2]
    rw [ha]
    refine z4 {} 0 Tryz.func88 fun Γ hW=>auC ?_
    repeat' first|(first|(refine zN (zw hW ⟨.d0,.d0,.d5⟩ rfl rfl ⟨rfl,rfl,Nat.succ_pos _⟩) ?_)|(refine zN (zw hW ⟨.d0,.d0,.d6⟩ rfl rfl ⟨rfl,rfl,Nat.succ_pos _⟩) ?_)|(refine zN (zw hW ⟨.d0,.d0,.d7⟩ rfl rfl ⟨rfl,rfl,Nat.succ_pos _⟩) ?_)|(refine zN (zw hW ⟨.d0,.d0,.d4⟩ rfl rfl ⟨rfl,rfl,Nat.succ_pos _⟩) ?_))|refine auS ?_|(first|(with_reducible refine z0 c ?_)|(with_reducible refine z0 (z6 _ _ _) ?_)|(with_reducible refine z0 hi ?_))|refine auD ?_|(refine auW ?_ ?_<;>intro h<;>try exact auH)|fail
    all_goals try exact auP
    all_goals first
     |(exfalso;simp at h;done)
     |skip
    all_goals refine auV ?_
    all_goals try exact z8
    all_goals try simp only [hsM] at *
   ·rw [f1] at hi
    have ex:=y7 f0
    have hil:i<ms.length:=(List.getElem?_eq_some_iff.1 f0).1
    have ha:inA l pr out now ms=(t.ad,t.po,0):=by unfold inA;rw [f2]
    rw [ha]
    refine z4 {} 0 Tryz.func88 fun Γ hW=>auC ?_
    repeat' first|(first|(refine zN (zw hW ⟨.d0,.d0,.d5⟩ rfl rfl ⟨rfl,rfl,Nat.succ_pos _⟩) ?_)|(refine zN (zw hW ⟨.d0,.d0,.d6⟩ rfl rfl ⟨rfl,rfl,Nat.succ_pos _⟩) ?_)|(refine zN (zw hW ⟨.d0,.d0,.d7⟩ rfl rfl ⟨rfl,rfl,Nat.succ_pos _⟩) ?_)|(refine zN (zw hW ⟨.d0,.d0,.d4⟩ rfl rfl ⟨rfl,rfl,Nat.succ_pos _⟩) ?_))|refine auS ?_|(first|(with_reducible refine z0 c ?_)|(with_reducible refine z0 (z6 _ _ _) ?_)|(with_reducible refine z0 hi ?_))|refine auD ?_|(refine auW ?_ ?_<;>intro h<;>try exact auH)|(first|(simp only [Int.toNat_natCast,ex])|(refine z7 ⟨by omega,by rw [List.length_map];omega⟩ ?_))
    all_goals try exact auP
    all_goals first
     |(exfalso;simp at h;done)
     |skip
    all_goals refine auV ?_
    all_goals try exact z8
    all_goals try simp only [hsM] at *
  ·rw [if_neg hn]
   refine z4 {} 0 Tryz.func88 fun Γ hW=>auC ?_
   repeat' first|fail|refine auS ?_|(first|(with_reducible refine z0 c ?_)|(with_reducible refine z0 (z6 _ _ _) ?_))|refine auD ?_|(refine auW ?_ ?_<;>intro h<;>try exact auH)|fail
   all_goals try exact auP
   all_goals first
    |(exfalso;simp at h;done)
    |skip
   all_goals refine auV ?_
   all_goals try exact z8
   all_goals try simp only [hsM] at *
 ·rw [if_neg hp]
  refine z4 {} 0 Tryz.func88 fun Γ hW=>auC ?_
  repeat' first|fail|refine auS ?_|(first|(with_reducible refine z0 c ?_)|(with_reducible refine z0 (z6 _ _ _) ?_))|refine auD ?_|(refine auW ?_ ?_<;>intro h<;>try exact auH)|fail
  all_goals try exact auP
  all_goals first
   |(exfalso;simp at h;done)
   |skip
  all_goals refine auV ?_
  all_goals try exact z8
  all_goals try simp only [hsM] at *
theorem dW:zd Tryz.prog 88 [dNt l b1 t1 b2 t2 ms,.v (.int .i64 pr),.v (.int .i64 out),.v (.int .i64 now)] (ZE (nIn l b1 t1 b2 t2 ms pr out now)):=by
 by_cases he:zI l b1 t1 b2 t2 ms=0
 ·rw [←hZ he]
  exact dj l b1 t1 b2 t2 ms pr out now hl h1 h2 he
 ·unfold nIn
  rw [if_pos he]
  exact am l b1 t1 b2 t2 ms pr out now hl h1 h2 rfl he
end
theorem ir {pr ad po:Int} {ms:List Mp} {m:Mp} (h:m∈zu pr ad po ms):m∈ms∧isP pr ad po m=false:=by
 obtain ⟨h1,h2⟩:=List.mem_filter.1 h
 refine ⟨h1,?_⟩
 cases hq:isP pr ad po m with
 |false=>rfl
 |true=>rw [hq] at h2;cases h2
theorem aU {b1 b2 pr ad po now:Int} {Y:List Mp} (hg:vY b1 b2 Y) {i:Nat} {m0:Mp} (hi:Y[i]?=some m0) (hm:isP pr ad po m0=true) (hb1:64≤b1) (hb2:64≤b2) :
  ut pr ad po Y (-1)=m0.ou∧0≤m0.ou∧inR b1 17 (zu pr ad po Y++[⟨pr,ad,po,m0.ou,now⟩])∧inR b2 6 (zu pr ad po Y++[⟨pr,ad,po,m0.ou,now⟩])∧((zu pr ad po Y++[(⟨pr,ad,po,m0.ou,now⟩:Mp)]).map yq).Nodup∧
   bs b1 17 (zu pr ad po Y++[⟨pr,ad,po,m0.ou,now⟩])=bs b1 17 Y∧bs b2 6 (zu pr ad po Y++[⟨pr,ad,po,m0.ou,now⟩])=bs b2 6 Y:=by
 have hlt:i<Y.length:=(List.getElem?_eq_some_iff.1 hi).1
 have e:Y=Y.take i++m0::Y.drop (i+1):=by
  have:Y.drop i=m0::Y.drop (i+1):=by rw [List.drop_eq_getElem_cons hlt,show Y[i]=m0 from Option.some.inj ((List.getElem?_eq_getElem hlt).symm.trans hi)]
  rw [←this,List.take_append_drop]
 have hb:=Yd hg hi hm
 have hmem:m0∈Y:=List.mem_of_getElem? hi
 have hpr:=(of_decide_eq_true hm).1
 have hno:∀m∈Y.take i++Y.drop (i+1),isP pr ad po m=false:=fun m h=>(ir (by rw [hb];exact h)).2
 have hkey:yq (⟨pr,ad,po,m0.ou,now⟩:Mp)=yq m0:=by simp [yq,hpr]
 have hw:∀b p,wM b p (⟨pr,ad,po,m0.ou,now⟩:Mp)=wM b p m0:=fun b p=>by simp [wM,hpr]
 have hbs:∀b p,bs b p (Y.take i++Y.drop (i+1)++[⟨pr,ad,po,m0.ou,now⟩])=bs b p Y:=fun b p=>by
  conv=>rhs;rw [e]
  simp only [qA,bs,hw]
  omega
 refine ⟨?_,?_,?_,?_,?_,by rw [hb];exact hbs _ _,by rw [hb];exact hbs _ _⟩
 ·rw [e,mO,ut,hm,if_pos rfl]
  exact pU _ (fun m h=>hno m (List.mem_append.2 (.inr h)))
 ·rcases hg.pr m0 hmem with h|h
  ·have:=hg.r1 m0 hmem h;omega
  ·have:=hg.r2 m0 hmem h;omega
 ·intro m h hp
  rcases List.mem_append.1 h with h|h
  ·exact hg.r1 m (ir h).1 hp
  ·obtain rfl:=List.mem_singleton.1 h
   exact hg.r1 m0 hmem (hpr.trans hp)
 ·intro m h hp
  rcases List.mem_append.1 h with h|h
  ·exact hg.r2 m (ir h).1 hp
  ·obtain rfl:=List.mem_singleton.1 h
   exact hg.r2 m0 hmem (hpr.trans hp)
 ·rw [hb]
  have hn:=hg.nd
  rw [e] at hn
  have hp:(Y.take i++m0::Y.drop (i+1)).Perm (Y.take i++Y.drop (i+1)++[m0]):=List.perm_middle.trans (List.perm_append_singleton m0 _).symm
  have h2:=(hp.map yq).nodup_iff.1 hn
  rw [List.map_append,List.map_cons,List.map_nil,hkey]
  rw [List.map_append,List.map_cons,List.map_nil] at h2
  exact h2
theorem gy {b1 b2 ad po now b pr:Int} {Y:List Mp} (hg:vY b1 b2 Y) {K:Nat} (hK:K<64) (hpr:(pr=17∧b=b1)∨(pr=6∧b=b2)) (hc:(bs b pr Y).testBit K=false) :
  inR b1 17 (Y++[⟨pr,ad,po,b+K,now⟩])∧inR b2 6 (Y++[⟨pr,ad,po,b+K,now⟩])∧((Y++[(⟨pr,ad,po,b+K,now⟩:Mp)]).map yq).Nodup:=by
 refine ⟨?_,?_,?_⟩
 ·intro m h hp
  rcases List.mem_append.1 h with h|h
  ·exact hg.r1 m h hp
  ·obtain rfl:=List.mem_singleton.1 h
   dsimp only at hp ⊢
   omega
 ·intro m h hp
  rcases List.mem_append.1 h with h|h
  ·exact hg.r2 m h hp
  ·obtain rfl:=List.mem_singleton.1 h
   dsimp only at hp ⊢
   omega
 ·rw [List.map_append,List.nodup_append]
  refine ⟨hg.nd,by simp,fun a ha c hc'=>?_⟩
  simp only [List.map_cons,List.map_nil,List.mem_singleton] at hc'
  subst hc'
  rintro rfl
  obtain ⟨m,hm,hk⟩:=List.mem_map.1 ha
  simp only [yq,Prod.mk.injEq] at hk
  have hr:inR b pr Y:=by
   rcases hpr with ⟨rfl,rfl⟩|⟨rfl,rfl⟩
   ·exact hg.r1
   ·exact hg.r2
  rw [(vi b pr Y hr hg.nd).2,List.any_eq_false] at hc
  have:=hc m hm
  simp only [decide_eq_true_eq,not_and] at this
  exact this hk.1 (by omega)
section
variable (l b1:Int) (t1:Nat) (b2:Int) (t2:Nat) (ms:List Mp) (pr ad po now:Int) (hl:ms.length*40≤140737488351232) (h10:t1<18446744073709551616) (h20:t2<18446744073709551616)
include hl h10 h20
theorem bx:zd Tryz.prog 86 [dNt l b1 t1 b2 t2 ms,.v (.int .i64 pr),.v (.int .u32 ad),.v (.int .i64 po),.v (.int .i64 now)] (j0 l b1 b2 (ZT l b1 t1 b2 t2 ms pr ad po now)):=by
 refine ol l b1 t1 b2 t2 ms pr ad po now (Q:=fun r=>zd Tryz.prog 86 [dNt l b1 t1 b2 t2 ms,.v (.int .i64 pr),.v (.int .u32 ad),.v (.int .i64 po),.v (.int .i64 now)] (j0 l b1 b2 r)) (fun h=>Xu l b1 t1 b2 t2 ms pr ad po now hl h10 h20 rfl h) (fun h hp=>fY l b1 t1 b2 t2 ms pr ad po now hl h10 h20 h hp)
  (fun h hp ha=>Xw l b1 t1 b2 t2 ms pr ad po now hl h10 h20 h hp ha) (fun he hp ha i m0 q1 q2 hm0=>?_) (fun he ha q1 hno=>?_)
 all_goals
  obtain ⟨hlf,hb,hg,-,-⟩:=xP h10 h20 he
  have hbr1:=(yj hb.1).1
  have hbr2:=(yj hb.2).1
  have hgY:vY b1 b2 (yng l now ms):=hg.sub (List.filter_sublist (p:=vq l now) (l:=ms))
 ·obtain ⟨a1,a2,a3,a4,a5,a6,a7⟩:=aU (now:=now) hgY q1 hm0 hbr1.1 hbr2.1
  rcases hp with rfl|rfl
  ·have g2:=iK l b1 t1 b2 t2 ms ad po now hl h10 h20 he ha a1 a2 a3 a4 a5
   rw [a6,a7] at g2
   exact g2
  ·have g2:=jG l b1 t1 b2 t2 ms ad po now hl h10 h20 he ha a1 a2 a3 a4 a5
   rw [a6,a7] at g2
   exact g2
 ·have hbe:=Zt hno
  have hoe:=pU (-1) hno
  have hT2:=(vi b2 6 _ hgY.r2 hgY.nd).1
  have hT1:=(vi b1 17 _ hgY.r1 hgY.nd).1
  refine ⟨fun h6 h0=>?_,fun h17 h0=>?_,fun h6 h0=>?_,fun h17 h0=>?_⟩
  ·subst h6
   exact dJ l b1 t1 b2 t2 ms ad po now hl h10 h20 he ha hoe (by rw [hbe];exact hgY.r1) (by rw [hbe];exact hgY.r2) (by rw [hbe];exact hgY.nd) (by rw [hbe];exact iX _ _ po hT2 h0) h0
  ·subst h17
   exact iF l b1 t1 b2 t2 ms ad po now hl h10 h20 he ha hoe (by rw [hbe];exact hgY.r1) (by rw [hbe];exact hgY.r2) (by rw [hbe];exact hgY.nd) (by rw [hbe];exact iX _ _ po hT1 h0) h0
  ·subst h6
   have hK:=ve (b:=b2) hT2 (v8 h0).2.2 po
   have hall:=gy (ad:=ad) (po:=po) (now:=now) hgY hK.1 (.inr ⟨rfl,rfl⟩) hK.2
   have w2:zd Tryz.prog 137 [.agg [.v (.int .i64 b2),.v (.int .u64 (bs b2 6 (yng l now ms):Nat))],.v (.int .i64 po)] (tz b2 (bs b2 6 (yng l now ms)+2 ^ yM b2 (bs b2 6 (yng l now ms)) po) (b2+yM b2 (bs b2 6 (yng l now ms)) po) 0):=by
    by_cases hc:tkd b2 (bs b2 6 (yng l now ms)) po=false∧b2≤po∧po≤b2+63
    ·exact k8 _ _ po hT2 h0 hc
    ·exact lz _ _ po hT2 h0 hc
   have g2:=er l b1 t1 b2 t2 ms ad po now hl h10 h20 he ha hoe (by rw [hbe];exact hgY.r1) (by rw [hbe];exact hgY.r2) (by rw [hbe];exact hgY.nd) (by rw [hbe];exact w2) rfl (by rw [hbe];exact hall.1) (by rw [hbe];exact hall.2.1) (by rw [hbe];exact hall.2.2)
   rw [hbe] at g2
   have e1:bs b1 17 (yng l now ms++[⟨6,ad,po,b2+yM b2 (bs b2 6 (yng l now ms)) po,now⟩])=bs b1 17 (yng l now ms):=by rw [qA];simp [bs,wM]
   have e2:bs b2 6 (yng l now ms++[⟨6,ad,po,b2+yM b2 (bs b2 6 (yng l now ms)) po,now⟩])=bs b2 6 (yng l now ms)+2 ^ yM b2 (bs b2 6 (yng l now ms)) po:=by
    rw [qA]
    simp only [bs,wM,if_true,Nat.add_zero]
    rw [show (b2+(yM b2 (bs b2 6 (yng l now ms)) po:Int)-b2).toNat=yM b2 (bs b2 6 (yng l now ms)) po by omega]
   rw [e1,e2] at g2
   exact g2
  ·subst h17
   have hK:=ve (b:=b1) hT1 (v8 h0).2.2 po
   have hall:=gy (ad:=ad) (po:=po) (now:=now) hgY hK.1 (.inl ⟨rfl,rfl⟩) hK.2
   have w2:zd Tryz.prog 137 [.agg [.v (.int .i64 b1),.v (.int .u64 (bs b1 17 (yng l now ms):Nat))],.v (.int .i64 po)] (tz b1 (bs b1 17 (yng l now ms)+2 ^ yM b1 (bs b1 17 (yng l now ms)) po) (b1+yM b1 (bs b1 17 (yng l now ms)) po) 0):=by
    by_cases hc:tkd b1 (bs b1 17 (yng l now ms)) po=false∧b1≤po∧po≤b1+63
    ·exact k8 _ _ po hT1 h0 hc
    ·exact lz _ _ po hT1 h0 hc
   have g2:=iL l b1 t1 b2 t2 ms ad po now hl h10 h20 he ha hoe (by rw [hbe];exact hgY.r1) (by rw [hbe];exact hgY.r2) (by rw [hbe];exact hgY.nd) (by rw [hbe];exact w2) rfl (by rw [hbe];exact hall.1) (by rw [hbe];exact hall.2.1) (by rw [hbe];exact hall.2.2)
   rw [hbe] at g2
   have e1:bs b2 6 (yng l now ms++[⟨17,ad,po,b1+yM b1 (bs b1 17 (yng l now ms)) po,now⟩])=bs b2 6 (yng l now ms):=by rw [qA];simp [bs,wM]
   have e2:bs b1 17 (yng l now ms++[⟨17,ad,po,b1+yM b1 (bs b1 17 (yng l now ms)) po,now⟩])=bs b1 17 (yng l now ms)+2 ^ yM b1 (bs b1 17 (yng l now ms)) po:=by
    rw [qA]
    simp only [bs,wM,if_true,Nat.add_zero]
    rw [show (b1+(yM b1 (bs b1 17 (yng l now ms)) po:Int)-b1).toNat=yM b1 (bs b1 17 (yng l now ms)) po by omega]
   rw [e1,e2] at g2
   exact g2
end
end Go.Proofs.YtmibknbmhcnemaaGreatDoor.A
namespace Go.Proofs.YtmibknbmhcnemaaGreatDoor
attribute [local irreducible] zF Go
set_option maxRecDepth 100000
def mxI (l:List Int) (a:Int):Int:=l.foldl max a
theorem mt {α:Type} (f:α→Int) (l:List α) (k:Nat) (t:α) (h:l[k]?=some t) (a:Int):mxI ((l.take (k+1)).map f) a=max (mxI ((l.take k).map f) a) (f t):=by
 rw [List.take_add_one,h]
 simp [mxI]
theorem mz:∀(l:List Int) (a z:Int),(∀x∈l,x≤z)→(z∈l∨z≤a)→mxI l a=max a z
 |[],a,z,_,h=>by
  rcases h with h|h
  ·cases h
  ·show a=max a z
   omega
 |x::r,a,z,h1,h2=>by
  show mxI r (max a x)=max a z
  have hx:=h1 x (by simp)
  by_cases hz:z∈r
  ·rw [mz r (max a x) z (fun y hy=>h1 y (by simp [hy])) (.inl hz)]
   omega
  ·have h3:z≤max a x:=by
    rcases h2 with h2|h2
    ·rcases List.mem_cons.1 h2 with h2|h2
     ·omega
     ·exact absurd h2 hz
    ·omega
   rw [mz r (max a x) z (fun y hy=>h1 y (by simp [hy])) (.inr h3)]
   omega
theorem Z4 {l:List T.Tk} (hg:T.yL [] l=true):∀t∈l,t.x≤T.yE l:=by
 intro t ht
 obtain ⟨i,hi⟩:=List.mem_iff_getElem?.1 ht
 have hil:=(List.getElem?_eq_some_iff.1 hi).1
 obtain ⟨z,hz⟩:∃z,l[l.length-1]?=some z:=⟨_,List.getElem?_eq_getElem (by omega)⟩
 rw [T.xg l (l.length-1) z hz (by omega)]
 by_cases e:i=l.length-1
 ·rw [e,hz] at hi
  rw [Option.some.inj hi]
  exact Int.le_refl _
 ·have h:=T.pc hg hz
  unfold T.se at h
  simp only [Bool.and_eq_true,List.all_eq_true,Bool.not_eq_true',decide_eq_false_iff_not,List.nil_append] at h
  have:=(h.2 t (List.mem_iff_getElem?.2 ⟨i,by rw [List.getElem?_take,if_pos (by omega)];exact hi⟩)).1
  omega
theorem an {b1 b2:Int} {ms:List A.Mp} (hg:A.vY b1 b2 ms):∀m∈ms,m.tm≤A.zJ ms:=by
 intro t ht
 obtain ⟨i,hi⟩:=List.mem_iff_getElem?.1 ht
 have hil:=(List.getElem?_eq_some_iff.1 hi).1
 obtain ⟨z,hz⟩:∃z,ms[ms.length-1]?=some z:=⟨_,List.getElem?_eq_getElem (by omega)⟩
 have e1:A.zJ ms=z.tm:=by unfold A.zJ;rw [hz]
 rw [e1]
 by_cases e:i=ms.length-1
 ·rw [e,hz] at hi
  rw [Option.some.inj hi]
  exact Int.le_refl _
 ·have h:=List.pairwise_iff_getElem.1 hg.pw i (ms.length-1) hil (by omega) (by omega)
  rw [show ms[i]=t from Option.some.inj ((List.getElem?_eq_getElem hil).symm.trans hi),show ms[ms.length-1]=z from Option.some.inj ((List.getElem?_eq_getElem (by omega)).symm.trans hz)] at h
  unfold A.wP at h
  rw [decide_eq_false_iff_not] at h
  omega
theorem jq {α:Type} (f:α→Int) {l:List α} {z:Int} (h:∀t,l[l.length-1]?=some t→f t=z) (h0:l=[]→z=0):z∈l.map f∨z≤0:=by
 cases l with
 |nil=>exact .inr (by rw [h0 rfl];exact Int.le_refl _)
 |cons x r=>
  obtain ⟨t,ht⟩:∃t,(x::r)[(x::r).length-1]?=some t:=⟨_,List.getElem?_eq_getElem (by simp)⟩
  exact .inl (List.mem_map.2 ⟨t,List.mem_of_getElem? ht,h t ht⟩)
set_option maxHeartbeats 4000000 in
theorem fv (u:Hs) (hw:u.wf) (hE:rc u=0):zd Tryz.prog 49 [dH u] (.v (.int .i64 (xW u))):=by
 obtain ⟨-,ht,hnn,-,hg⟩:=vQ hE
 have l1:=hw.ms.1
 have l2:=hw.tr.1
 have l3:=hw.n.mm.1
 unfold maxLen at l1 l2 l3
 have e1:mxI (u.ms.map (·.tm)) 0=max 0 (wj u.ms):=mz _ _ _ (fun x hx=>by obtain ⟨m,hm,rfl⟩:=List.mem_map.1 hx;exact (nA hg hm).1) (jq _ (fun t h=>by unfold wj;rw [h]) (fun q=>by rw [q];rfl))
 have e2:mxI (u.tr.map (·.x)) (max 0 (wj u.ms))=max (max 0 (wj u.ms)) (T.yE u.tr):=mz _ _ _ (fun x hx=>by obtain ⟨m,hm,rfl⟩:=List.mem_map.1 hx;exact Z4 (T.zr ht).2 m hm) ((jq _ (fun t h=>(T.xg _ _ _ h (by have:=(List.getElem?_eq_some_iff.1 h).1;omega)).symm) (fun q=>by rw [q];rfl)).imp id (fun q=>by omega))
 have e3:mxI (u.n.ms.map (·.tm)) (max (max 0 (wj u.ms)) (T.yE u.tr))=max (max (max 0 (wj u.ms)) (T.yE u.tr)) (A.zJ u.n.ms):=mz _ _ _ (fun x hx=>by obtain ⟨m,hm,rfl⟩:=List.mem_map.1 hx;exact an (A.xP hw.n.t1 hw.n.t2 hnn).2.2.1 m hm) ((jq _ (fun t h=>by unfold A.zJ;rw [h]) (fun q=>by rw [q];rfl)).imp id (fun q=>by omega))
 have e4:xW u=max (max (max 0 (wj u.ms)) (T.yE u.tr)) (A.zJ u.n.ms):=by
  have:=sq hg
  unfold xW
  omega
 rw [e4,←e3,←e2,←e1]
 clear e1 e2 e3 e4 hE hnn ht hg
 refine z4 {} 0 Tryz.func49 fun Γ hW=>auC ?_
 repeat' first|refine auS ?_|fail|refine auD ?_|(refine auW ?_ ?_<;>intro h<;>try exact auH)|fail
 all_goals try exact auP
 refine ze (α:=Nat×Nat) (fun x=>[(⟨.d0,.d1,.d5⟩,.v (.int .i64 (x.1:Nat))),(⟨.d0,.d0,.d3⟩,.v (.int .i64 (mxI ((u.ms.take x.1).map (·.tm)) 0)))]) (fun _=>[(1,none)]) (fun x=>x.2) (fun x=>u.ms.length-x.1) (fun x=>x.1≤u.ms.length) (0,Γ.g0+1) (Nat.zero_le _) ?_ ?_
 ·skip
  refine zb ?_ ?_ (Nat.le_refl _)
  all_goals first|refine auE ?_|exact zi
  all_goals repeat' first|exact trivial|exact rfl|apply And.intro
 rintro ⟨k,g1⟩ hk
 dsimp only at hk ⊢
 refine auL ?_
 by_cases hlt:k<u.ms.length
 ·obtain ⟨t,ht⟩:∃t,u.ms[k]?=some t:=⟨_,List.getElem?_eq_getElem hlt⟩
  have ex:=zT Mt.enc u.ms k t ht
  have hs:=mt (·.tm) u.ms k t ht 0
  repeat' first|refine auS ?_|fail|refine auD ?_|(refine auW ?_ ?_<;>intro h<;>try exact auH)|(simp only [Int.toNat_natCast,ex])
  all_goals try exact auP
  refine za ⟨(k+1,g1+1),hlt,Nat.sub_lt_sub_left hlt (Nat.lt_succ_self k),?_⟩
  refine zb ?_ ?_ (Nat.le_refl _)
  all_goals first|refine auE ?_|exact zi
  all_goals repeat' first|exact trivial|exact rfl|apply And.intro
  all_goals first
   |exact zB ((IntWalk.i64_in _ (by omega)).trans (by omega))
   |exact zB hs.symm
 obtain rfl:k=u.ms.length:=by omega
 rw [List.take_length]
 clear hk hlt
 repeat' first|refine auS ?_|fail|refine auD ?_|(refine auW ?_ ?_<;>intro h<;>try exact auH)|fail
 all_goals try exact auP
 refine ze (α:=Nat×Nat) (fun x=>[(⟨.d0,.d3,.d2⟩,.v (.int .i64 (x.1:Nat))),(⟨.d0,.d0,.d3⟩,.v (.int .i64 (mxI ((u.tr.take x.1).map (·.x)) (mxI (u.ms.map (·.tm)) 0))))]) (fun _=>[(2,none)]) (fun x=>x.2) (fun x=>u.tr.length-x.1) (fun x=>x.1≤u.tr.length) (0,g1) (Nat.zero_le _) ?_ ?_
 ·skip
  refine zb ?_ ?_ (Nat.le_refl _)
  all_goals first|refine auE ?_|exact zi
  all_goals repeat' first|exact trivial|exact rfl|apply And.intro
 rintro ⟨k,g2⟩ hk
 dsimp only at hk ⊢
 refine auL ?_
 by_cases hlt:k<u.tr.length
 ·obtain ⟨t,ht⟩:∃t,u.tr[k]?=some t:=⟨_,List.getElem?_eq_getElem hlt⟩
  have ex:=zT T.Tk.enc u.tr k t ht
  have hs:=mt (·.x) u.tr k t ht (mxI (u.ms.map (·.tm)) 0)
  repeat' first|refine auS ?_|fail|refine auD ?_|(refine auW ?_ ?_<;>intro h<;>try exact auH)|(simp only [Int.toNat_natCast,ex])
  all_goals try exact auP
  refine za ⟨(k+1,g2+1),hlt,Nat.sub_lt_sub_left hlt (Nat.lt_succ_self k),?_⟩
  refine zb ?_ ?_ (Nat.le_refl _)
  all_goals first|refine auE ?_|exact zi
  all_goals repeat' first|exact trivial|exact rfl|apply And.intro
  all_goals first
   |exact zB ((IntWalk.i64_in _ (by omega)).trans (by omega))
   |exact zB hs.symm
 obtain rfl:k=u.tr.length:=by omega
 rw [List.take_length]
 clear hk hlt
 repeat' first|refine auS ?_|fail|refine auD ?_|(refine auW ?_ ?_<;>intro h<;>try exact auH)|fail
 all_goals try exact auP
 refine ze (α:=Nat×Nat) (fun x=>[(⟨.d0,.d4,.d7⟩,.v (.int .i64 (x.1:Nat))),(⟨.d0,.d0,.d3⟩,.v (.int .i64 (mxI ((u.n.ms.take x.1).map (·.tm)) (mxI (u.tr.map (·.x)) (mxI (u.ms.map (·.tm)) 0)))))]) (fun _=>[(3,none)]) (fun x=>x.2) (fun x=>u.n.ms.length-x.1) (fun x=>x.1≤u.n.ms.length) (0,g2) (Nat.zero_le _) ?_ ?_
 ·skip
  refine zb ?_ ?_ (Nat.le_refl _)
  all_goals first|refine auE ?_|exact zi
  all_goals repeat' first|exact trivial|exact rfl|apply And.intro
 rintro ⟨k,g3⟩ hk
 dsimp only at hk ⊢
 refine auL ?_
 by_cases hlt:k<u.n.ms.length
 ·obtain ⟨t,ht⟩:∃t,u.n.ms[k]?=some t:=⟨_,List.getElem?_eq_getElem hlt⟩
  have ex:=zT A.Mp.enc u.n.ms k t ht
  have hs:=mt (·.tm) u.n.ms k t ht (mxI (u.tr.map (·.x)) (mxI (u.ms.map (·.tm)) 0))
  repeat' first|refine auS ?_|fail|refine auD ?_|(refine auW ?_ ?_<;>intro h<;>try exact auH)|(simp only [Int.toNat_natCast,ex])
  all_goals try exact auP
  refine za ⟨(k+1,g3+1),hlt,Nat.sub_lt_sub_left hlt (Nat.lt_succ_self k),?_⟩
  refine zb ?_ ?_ (Nat.le_refl _)
  all_goals first|refine auE ?_|exact zi
  all_goals repeat' first|exact trivial|exact rfl|apply And.intro
  all_goals first
   |exact zB ((IntWalk.i64_in _ (by omega)).trans (by omega))
   |exact zB hs.symm
 obtain rfl:k=u.n.ms.length:=by omega
 rw [List.take_length]
 clear hk hlt
 repeat' first|refine auS ?_|fail|refine auD ?_|(refine auW ?_ ?_<;>intro h<;>try exact auH)|fail
 all_goals try exact auP
 all_goals refine auV ?_
 all_goals try exact z8
 all_goals try simp only [hsM] at *
end Go.Proofs.YtmibknbmhcnemaaGreatDoor
namespace Go.Proofs.YtmibknbmhcnemaaGreatDoor.T
attribute [local irreducible] zF Go
set_option maxRecDepth 100000
theorem tQ (l:List Tk) (a b c d fl now:Int):zd Tryz.prog 135 [.snap 7 (l.map Tk.enc) false,dR a b c d,.v (.int .i64 fl),.v (.int .i64 now)] (hD (qp l a b c d fl now)):=
 qI (Q:=fun r=>zd Tryz.prog 135 [.snap 7 (l.map Tk.enc) false,dR a b c d,.v (.int .i64 fl),.v (.int .i64 now)] (hD r)) (fun h=>ab l a b c d fl now h) (fun h h'=>eL l a b c d fl now h h')
  (fun s1 s2 s3 s4 h1 h2 h3 h4=>gj l a b c d fl now h1 h2 s1 s2 s3 s4 h3 h4) (fun s1 s2 s3 s4 i t h1 h2 h3 h4 h5=>by
   cases s4 with
   |true=>exact dw l a b c d fl now h1 h2 s1 s2 s3 h3 i t h4 h5
   |false=>exact bU l a b c d fl now h1 h2 s1 s2 s3 h3 i t h4 h5)
theorem gM (t:Tk) (hf:t.form=true) (a b c d now:Int) (hn:0≤now∧now≤1099511627776):zd Tryz.prog 133 [.agg t.enc,.rptr [.v (.int .u32 a),.v (.int .u32 b),.v (.int .i64 c),.v (.int .i64 d)],.rptr [.v (.int .i64 now)]] (.v (.bool (t.along a b c d && !t.old now))):=by
 have hb:=vS hf
 have h1:=qB t.a t.b t.c t.d t.s t.o t.x a b c d
 have h2:=uC t.a t.b t.c t.d t.s t.o t.x now hb.1 hb.2 hn
 unfold Tk.along Tk.old
 generalize vA t.a t.b t.c t.d a b c d=A at *
 refine z4 {} 0 Tryz.func133 fun Γ hW=>auC ?_
 repeat' first|refine auS ?_|(first|(with_reducible refine z0 h1 ?_)|(with_reducible refine z0 h2 ?_))|refine auD ?_|(refine auW ?_ ?_<;>intro h<;>try exact auH)|fail
 all_goals try exact auP
 all_goals refine auV ?_
 all_goals try exact z8
 all_goals try simp only [hsM] at *
 all_goals (refine zQ ?_;simp_all)
theorem eO {α:Type} (p:α→Bool) (l:List α):decide (0≤zl p l 0)=l.any p:=by
 rcases yD p l 0 with ⟨h1,h2⟩|⟨i,t,h1,h2,h3,h4⟩
 ·rw [h1,List.any_eq_false.2 (fun x hx=>by simp [h2 x hx])]
  rfl
 ·rw [h4,List.any_eq_true.2 ⟨t,List.mem_of_getElem? h1,h2⟩]
  exact decide_eq_true (by omega)
theorem nZ {g:FuncId} {caps:List DV} (p:Tk→Bool) (l:List Tk) (c:Bool) (hl:l.length≤maxLen) (hg:∀t∈l,zd Tryz.prog g (.agg (Tk.enc t)::caps) (.v (.bool (p t)))):zd Tryz.prog 132 [.snap 7 (l.map Tk.enc) c,.fn (.func g) [] caps] (.v (.bool (l.any p))):=by
 have h1:=qn (g:=g) (caps:=caps) p l c hl hg
 have h2:=eO p l
 generalize l.any p=B at *
 generalize zl p l 0=f at *
 refine z4 {} 0 Tryz.func132 fun Γ hW=>auC ?_
 repeat' first|refine auS ?_|(with_reducible refine z0 h1 ?_)|refine auD ?_|(refine auW ?_ ?_<;>intro h<;>try exact auH)|fail
 all_goals try exact auP
 all_goals refine auV ?_
 all_goals try exact z8
 all_goals try simp only [hsM] at *
 all_goals exact zQ h2
end Go.Proofs.YtmibknbmhcnemaaGreatDoor.T
namespace Go.Proofs.YtmibknbmhcnemaaGreatDoor
attribute [local irreducible] zF Go
set_option maxRecDepth 100000
set_option maxHeartbeats 4000000 in
theorem n6 (u:Hs) (ht:T.y8 u.tr=0) (a b c d now:Int) (hn:0≤now∧now≤1099511627776):zd Tryz.prog 84 [dH u,T.dR a b c d,.v (.int .i64 now)] (.v (.bool (T.knB u.tr a b c d now))):=by
 have hg:=T.zr ht
 have hk:T.knB u.tr a b c d now=u.tr.any (fun t=>t.along a b c d && !t.old now):=by
  have:T.rp u.tr now=0:=by have:=T.ud u.tr now;omega
  unfold T.knB
  rw [decide_eq_true this,Bool.true_and]
 have hc:=T.nZ (g:=133) (caps:=[.rptr [.v (.int .u32 a),.v (.int .u32 b),.v (.int .i64 c),.v (.int .i64 d)],.rptr [.v (.int .i64 now)]]) (fun t=>t.along a b c d && !t.old now) u.tr false (by have:=hg.1;unfold maxLen;omega) (fun t hm=>T.gM t (T.yH hg.2 hm) a b c d now hn)
 rw [←hk] at hc
 generalize T.knB u.tr a b c d now=K at *
 refine z4 {} 0 Tryz.func84 fun Γ hW=>auC ?_
 repeat' first|(first|((with_reducible refine atR ⟨.d0,.d0,.d7⟩ ?_);(refine zN (zw hW ⟨.d0,.d0,.d4⟩ rfl rfl ⟨rfl,rfl,Nat.succ_pos _⟩) ?_))|((with_reducible refine atR ⟨.d0,.d0,.d7⟩ ?_);(refine zN (zw hW ⟨.d0,.d0,.d5⟩ rfl rfl ⟨rfl,rfl,Nat.succ_pos _⟩) ?_)))|refine auS ?_|(with_reducible refine z0 hc ?_)|refine auD ?_|(refine auW ?_ ?_<;>intro h<;>try exact auH)|fail
 all_goals try exact auP
 all_goals refine auV ?_
 all_goals try exact z8
 all_goals try simp only [hsM] at *
def pP (must K:Bool) (u:Hs) (tk:List T.Tk×Bool):Hs×Bool:=if must=true∧K=false then (u,false) else ({ u with tr:=tk.1 },tk.2)
set_option maxHeartbeats 4000000 in
theorem tQ (u:Hs) (ht:T.y8 u.tr=0) (a b c d fl now:Int) (hn:0≤now∧now≤1099511627776) (must:Bool):zd Tryz.prog 85 [dH u,T.dR a b c d,.v (.int .i64 fl),.v (.int .i64 now),.v (.bool must)] (.tup [dH (pP must (T.knB u.tr a b c d now) u (uk u.tr a b c d fl now)).1,.v (.bool (pP must (T.knB u.tr a b c d now) u (uk u.tr a b c d fl now)).2)]):=by
 have h1:=n6 u ht a b c d now hn
 have h2:=T.tQ u.tr a b c d fl now
 generalize T.knB u.tr a b c d now=K at *
 unfold uk
 generalize T.qp u.tr a b c d fl now=R at *
 obtain ⟨r1,r2,r3⟩:=R
 dsimp only at *
 have hnf:=fun g=>qQ g u
 have hnf2:=fun g=>qQ g { u with tr:=r1 }
 dsimp only at hnf2
 by_cases h0:r3=0
 ·subst h0
  rw [if_pos rfl]
  cases must<;>cases K
  all_goals unfold pP
  all_goals dsimp only
  all_goals first
   |rw [if_pos ⟨rfl,rfl⟩]
   |rw [if_neg (by decide)]
  all_goals
   refine z4 {} 0 Tryz.func85 fun Γ hW=>auC ?_
   repeat' first|refine auS ?_|(first|(with_reducible refine z0 h1 ?_)|(with_reducible refine z0 h2 ?_))|refine auD ?_|(refine auW ?_ ?_<;>intro h<;>try exact auH)|fail
   all_goals try exact auP
   all_goals refine auV ?_
   all_goals try exact z8
   all_goals try simp only [hsM] at *
 ·rw [if_neg h0]
  cases must<;>cases K
  all_goals unfold pP
  all_goals dsimp only
  all_goals first
   |rw [if_pos ⟨rfl,rfl⟩]
   |rw [if_neg (by decide)]
  all_goals
   refine z4 {} 0 Tryz.func85 fun Γ hW=>auC ?_
   repeat' first|refine auS ?_|(first|(with_reducible refine z0 h1 ?_)|(with_reducible refine z0 h2 ?_))|refine auD ?_|(refine auW ?_ ?_<;>intro h<;>try exact auH)|fail
   all_goals try exact auP
   all_goals try (exfalso;simp_all;done)
   all_goals refine auV ?_
   all_goals try exact z8
   all_goals try simp only [hsM] at *
end Go.Proofs.YtmibknbmhcnemaaGreatDoor
