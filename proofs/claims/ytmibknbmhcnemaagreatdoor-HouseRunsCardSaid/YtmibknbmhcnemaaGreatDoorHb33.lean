import Derived.Test.YtmibknbmhcnemaaGreatDoorHb32
set_option linter.unusedVariables false
set_option linter.unusedSimpArgs false
namespace Go.Proofs.YtmibknbmhcnemaaGreatDoor.A
def ZT (l b1:Int) (t1:Nat) (b2:Int) (t2:Nat) (ms:List Mp) (pr ad po now:Int):Nat×Nat×List Mp×Int×Int:=
 if zI l b1 t1 b2 t2 ms≠0 then (t1,t2,ms,0,zI l b1 t1 b2 t2 ms) else if ¬(pr=6∨pr=17) then (t1,t2,ms,0,7)
 else if ¬((0≤po∧po≤65535)∧zJ ms≤now∧now≤1099511627776) then (t1,t2,ms,0,1)
 else match (yng l now ms).find? (isP pr ad po) with
 |some m0=>(bs b1 17 (yng l now ms),bs b2 6 (yng l now ms),zu pr ad po (yng l now ms)++[⟨pr,ad,po,m0.ou,now⟩],m0.ou,0)
 |none=>
  if pr=6 then (if ux b2 (bs b2 6 (yng l now ms)) po=0 then (bs b1 17 (yng l now ms),bs b2 6 (yng l now ms)+2 ^ yM b2 (bs b2 6 (yng l now ms)) po,yng l now ms++[⟨6,ad,po,b2+yM b2 (bs b2 6 (yng l now ms)) po,now⟩],b2+yM b2 (bs b2 6 (yng l now ms)) po,0) else (t1,t2,ms,0,ux b2 (bs b2 6 (yng l now ms)) po))
  else (if ux b1 (bs b1 17 (yng l now ms)) po=0 then (bs b1 17 (yng l now ms)+2 ^ yM b1 (bs b1 17 (yng l now ms)) po,bs b2 6 (yng l now ms),yng l now ms++[⟨17,ad,po,b1+yM b1 (bs b1 17 (yng l now ms)) po,now⟩],b1+yM b1 (bs b1 17 (yng l now ms)) po,0) else (t1,t2,ms,0,ux b1 (bs b1 17 (yng l now ms)) po))
abbrev j0 (l b1 b2:Int) (r:Nat×Nat×List Mp×Int×Int):DV:=rb l b1 r.1 b2 r.2.1 r.2.2.1 r.2.2.2.1 r.2.2.2.2
section
variable (l b1:Int) (t1:Nat) (b2:Int) (t2:Nat) (ms:List Mp) (pr ad po now:Int)
theorem ol {Q:Nat×Nat×List Mp×Int×Int→Prop} (w1:zI l b1 t1 b2 t2 ms≠0→Q (t1,t2,ms,0,zI l b1 t1 b2 t2 ms)) (w2:zI l b1 t1 b2 t2 ms=0→¬(pr=6∨pr=17)→Q (t1,t2,ms,0,7))
  (w3:zI l b1 t1 b2 t2 ms=0→(pr=6∨pr=17)→¬((0≤po∧po≤65535)∧zJ ms≤now∧now≤1099511627776)→Q (t1,t2,ms,0,1))
  (w4:zI l b1 t1 b2 t2 ms=0→(pr=6∨pr=17)→((0≤po∧po≤65535)∧zJ ms≤now∧now≤1099511627776)→∀(i:Nat) (m0:Mp),(yng l now ms)[i]?=some m0→zl (isP pr ad po) (yng l now ms) 0=i→isP pr ad po m0=true→Q (bs b1 17 (yng l now ms),bs b2 6 (yng l now ms),zu pr ad po (yng l now ms)++[⟨pr,ad,po,m0.ou,now⟩],m0.ou,0))
  (w5:zI l b1 t1 b2 t2 ms=0→((0≤po∧po≤65535)∧zJ ms≤now∧now≤1099511627776)→zl (isP pr ad po) (yng l now ms) 0 = -1→(∀m∈yng l now ms,isP pr ad po m=false)→
   (pr=6→¬ux b2 (bs b2 6 (yng l now ms)) po=0→Q (t1,t2,ms,0,ux b2 (bs b2 6 (yng l now ms)) po))∧(pr=17→¬ux b1 (bs b1 17 (yng l now ms)) po=0→Q (t1,t2,ms,0,ux b1 (bs b1 17 (yng l now ms)) po))∧
   (pr=6→ux b2 (bs b2 6 (yng l now ms)) po=0→Q (bs b1 17 (yng l now ms),bs b2 6 (yng l now ms)+2 ^ yM b2 (bs b2 6 (yng l now ms)) po,yng l now ms++[⟨6,ad,po,b2+yM b2 (bs b2 6 (yng l now ms)) po,now⟩],b2+yM b2 (bs b2 6 (yng l now ms)) po,0))∧
   (pr=17→ux b1 (bs b1 17 (yng l now ms)) po=0→Q (bs b1 17 (yng l now ms)+2 ^ yM b1 (bs b1 17 (yng l now ms)) po,bs b2 6 (yng l now ms),yng l now ms++[⟨17,ad,po,b1+yM b1 (bs b1 17 (yng l now ms)) po,now⟩],b1+yM b1 (bs b1 17 (yng l now ms)) po,0))):Q (ZT l b1 t1 b2 t2 ms pr ad po now):=by
 unfold ZT
 by_cases he:zI l b1 t1 b2 t2 ms=0
 rotate_left
 ·rw [if_pos he];exact w1 he
 rw [if_neg (not_not_intro he)]
 by_cases hp:pr=6∨pr=17
 rotate_left
 ·rw [if_pos hp];exact w2 he hp
 rw [if_neg (not_not_intro hp)]
 by_cases ha:(0≤po∧po≤65535)∧zJ ms≤now∧now≤1099511627776
 rotate_left
 ·rw [if_pos ha];exact w3 he hp ha
 rw [if_neg (not_not_intro ha)]
 rcases rt (isP pr ad po) (yng l now ms) with ⟨q1,q2⟩|⟨i,m0,q1,q2,q3⟩
 ·rw [q2]
  obtain ⟨v1,v2,v3,v4⟩:=w5 he ha q1 (fun m hm=>by simpa using List.find?_eq_none.1 q2 m hm)
  by_cases h6:pr=6
  ·rw [if_pos h6]
   by_cases h0:ux b2 (bs b2 6 (yng l now ms)) po=0
   ·rw [if_pos h0];exact v3 h6 h0
   ·rw [if_neg h0];exact v1 h6 h0
  ·rw [if_neg h6]
   have h17:pr=17:=by omega
   by_cases h0:ux b1 (bs b1 17 (yng l now ms)) po=0
   ·rw [if_pos h0];exact v4 h17 h0
   ·rw [if_neg h0];exact v2 h17 h0
 ·rw [q3]
  exact w4 he hp ha i m0 q1 q2 (List.find?_some q3)
variable (hl:ms.length*40≤140737488351232) (h10:t1<18446744073709551616) (h20:t2<18446744073709551616)
include hl h10 h20
theorem YX:zd Tryz.prog 107 [dNt l b1 t1 b2 t2 ms,.v (.int .i64 pr),.v (.int .u32 ad),.v (.int .i64 po),.v (.int .i64 now)] (j0 l b1 b2 (ZT l b1 t1 b2 t2 ms pr ad po now)):=by
 refine ol l b1 t1 b2 t2 ms pr ad po now (Q:=fun r=>zd Tryz.prog 107 [dNt l b1 t1 b2 t2 ms,.v (.int .i64 pr),.v (.int .u32 ad),.v (.int .i64 po),.v (.int .i64 now)] (j0 l b1 b2 r)) (fun h=>Wa l b1 t1 b2 t2 ms pr ad po now hl h10 h20 rfl h) (fun h hp=>Z7 l b1 t1 b2 t2 ms pr ad po now hl h10 h20 h hp)
  (fun h hp ha=>XX l b1 t1 b2 t2 ms pr ad po now hl h10 h20 h hp ha) (fun h hp ha i m0 q1 q2 q3=>aD l b1 t1 b2 t2 ms pr ad po now hl h10 h20 h hp ha q1 q2 q3) (fun he ha q1 hno=>?_)
 obtain ⟨hlf,hb,hg,-,-⟩:=xP h10 h20 he
 have hgY:vY b1 b2 (yng l now ms):=hg.sub (List.filter_sublist (p:=vq l now) (l:=ms))
 refine ⟨fun h6 h0=>?_,fun h17 h0=>?_,fun h6 h0=>?_,fun h17 h0=>?_⟩
 ·subst h6
  exact (nE l b1 t1 b2 t2 ms 6 ad po now hl h10 h20 he ha q1 (fJ _ _ po h0) (.inr ⟨rfl,rfl,rfl,rfl,rfl,rfl⟩)).1 h0
 ·subst h17
  exact (nE l b1 t1 b2 t2 ms 17 ad po now hl h10 h20 he ha q1 (fJ _ _ po h0) (.inl ⟨rfl,rfl,rfl,rfl,rfl,rfl⟩)).1 h0
 ·subst h6
  have hT:=(vi b2 6 _ hgY.r2 hgY.nd).1
  refine (nE l b1 t1 b2 t2 ms 6 ad po now hl h10 h20 he ha q1 (B:=b2) (T:=bs b2 6 (yng l now ms)+2 ^ yM b2 (bs b2 6 (yng l now ms)) po) (p:=b2+yM b2 (bs b2 6 (yng l now ms)) po) (e:=0) ?_ (.inr ⟨rfl,rfl,rfl,rfl,rfl,rfl⟩)).2 rfl
  by_cases hc:tkd b2 (bs b2 6 (yng l now ms)) po=false∧b2≤po∧po≤b2+63
  ·exact mE _ _ po hT h0 hc
  ·exact lr _ _ po hT h0 hc
 ·subst h17
  have hT:=(vi b1 17 _ hgY.r1 hgY.nd).1
  refine (nE l b1 t1 b2 t2 ms 17 ad po now hl h10 h20 he ha q1 (B:=b1) (T:=bs b1 17 (yng l now ms)+2 ^ yM b1 (bs b1 17 (yng l now ms)) po) (p:=b1+yM b1 (bs b1 17 (yng l now ms)) po) (e:=0) ?_ (.inl ⟨rfl,rfl,rfl,rfl,rfl,rfl⟩)).2 rfl
  by_cases hc:tkd b1 (bs b1 17 (yng l now ms)) po=false∧b1≤po∧po≤b1+63
  ·exact mE _ _ po hT h0 hc
  ·exact lr _ _ po hT h0 hc
end
end Go.Proofs.YtmibknbmhcnemaaGreatDoor.A
