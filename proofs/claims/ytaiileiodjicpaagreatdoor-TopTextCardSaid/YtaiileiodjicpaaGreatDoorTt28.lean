import Derived.Test.YtaiileiodjicpaaGreatDoorTt10
set_option linter.unusedVariables false
set_option linter.unusedSimpArgs false
namespace Go.Proofs.YtaiileiodjicpaaGreatDoor.A
attribute [local irreducible] zF Go
set_option maxRecDepth 100000
section
variable (l b1:Int) (t1:Nat) (b2:Int) (t2:Nat) (ms:List Mp) (pr ad po now:Int) (hl:ms.length*40≤140737488351232) (h10:t1<18446744073709551616) (h20:t2<18446744073709551616)
include hl h10 h20
set_option maxHeartbeats 16000000 in
theorem nr (he:y_ l b1 t1 b2 t2 ms=0) (ha:((0≤po∧po≤65535)∧x7 ms≤now∧now≤1099511627776)) (hf:zk (isP pr ad po) (yng l now ms) 0 = -1) {bX:Int} {B:Int} {T:Nat} {p e:Int} (h3:zi Tryz.prog 146 [.agg [.v (.int .i64 bX),.v (.int .u64 (bs bX pr (yng l now ms):Nat))],.v (.int .i64 po)] (eO B T p e)) {B1 B2:Int} {R1 R2:Nat}
  (hr:(pr=17∧bX=b1∧B1=B∧R1=T∧B2=b2∧R2=bs b2 6 (yng l now ms))∨(pr=6∧bX=b2∧B1=b1∧R1=bs b1 17 (yng l now ms)∧B2=B∧R2=T)) :
  (¬e=0→zi Tryz.prog 109 [dNt l b1 t1 b2 t2 ms,.v (.int .i64 pr),.v (.int .u32 ad),.v (.int .i64 po),.v (.int .i64 now)] (pn l b1 t1 b2 t2 ms 0 e))∧
  (e=0→zi Tryz.prog 109 [dNt l b1 t1 b2 t2 ms,.v (.int .i64 pr),.v (.int .u32 ad),.v (.int .i64 po),.v (.int .i64 now)] (pn l B1 R1 B2 R2 (yng l now ms++[⟨pr,ad,po,p,now⟩]) p 0)):=by
 obtain ⟨hlf,hb,hg,rfl,rfl⟩:=qE h10 h20 he
 have hml:ms.length≤maxLen:=by unfold maxLen;omega
 have h1:=xv ms false ⟨hml,by omega⟩
 have hO:=qx 1 ms false ⟨hml,by omega⟩
 have h2:=xi l b1 (bs b1 17 ms) b2 (bs b2 6 ms) ms hml h10 h20
 rw [he] at h2
 have hlen:(ms.map Mp.enc).length=ms.length:=List.length_map _
 obtain ⟨hpo,hn1,hn2⟩:=ha
 have hl0:0≤x7 ms:=by
  unfold x7
  split
  ·rename_i m hm
   exact (hg.tm m (List.mem_of_getElem? hm)).1
  ·exact Int.le_refl _
 have hex:=fun n m=>zv 4 (o0 l b1 b2 now ms n m hg hb hml hlf ⟨by omega,hn2⟩)
 have hyl:(yng l now ms).length≤ms.length:=List.length_filter_le _ _
 have hgY:tj b1 b2 (yng l now ms):=hg.sub (List.filter_sublist (p:=uH l now) (l:=ms))
 have hw:=uC l b1 (bs b1 17 (yng l now ms)) b2 (bs b2 6 (yng l now ms)) (yng l now ms) pr ad po (by unfold maxLen;omega)
 rw [hf] at hw
 have exi:True:=trivial
 have hdel:True:=trivial
 have hlenY:((yng l now ms).map Mp.enc).length=(yng l now ms).length:=List.length_map _
 have hlenY2:=hlenY
 have hwi:True:=trivial
 have hcat:((yng l now ms).map Mp.enc)++[(⟨pr,ad,po,p,now⟩:Mp).enc]=(yng l now ms++[(⟨pr,ad,po,p,now⟩:Mp)]).map Mp.enc:=by rw [List.map_append];rfl
 unfold pn dNt rNt
 unfold eO at h3
 clear hgY hg
 rcases hr with ⟨hp,e1,e2,e3,e4,e5⟩|⟨hp,e1,e2,e3,e4,e5⟩
 subst bX B1 R1 B2 R2
 have hpl:=fun n m=>tB (zv 4 (uI n m l b1 (bs b1 17 (yng l now ms)) b2 (bs b2 6 (yng l now ms)) (yng l now ms).length (yng l now ms) pr (.inl hp))) (D':=.ptr 4 n 6 0 1) (fun K w v h=>by rw [hp] at h;exact vS (show ze K w (.ptr 0 n 6 0 1) v from h))
 rotate_left
 subst bX B1 R1 B2 R2
 have hpl:=fun n m=>tB (zv 4 (uI n m l b1 (bs b1 17 (yng l now ms)) b2 (bs b2 6 (yng l now ms)) (yng l now ms).length (yng l now ms) pr (.inr hp))) (D':=.ptr 4 n 6 0 3) (fun K w v h=>by rw [hp] at h;exact vS (show ze K w (.ptr 0 n 6 0 3) v from h))
 all_goals
  rw [hp] at h3
  generalize yng l now ms=Y at *
  generalize bs b1 17 Y=T1 at *
  generalize bs b2 6 Y=T2 at *
  generalize bs b1 17 ms=S1 at *
  generalize bs b2 6 ms=S2 at *
  have nf1:=fun g=>uK g ms
  have nf2:=fun g=>uK g (Y++[(⟨pr,ad,po,p,now⟩:Mp)])
  constructor
  all_goals
   intro hne
   by_cases hk:0<ms.length
   obtain ⟨ml,hm1,hm2⟩:=oX ms hk
   rw [hm2] at hn1
   have exl:=vj hm1
   have hw1:IntKind.i64.wrap ((ms.length:Int)-1)=((ms.length-1:Nat):Int):=(IntWalk.i64_in _ (by omega)).trans (by omega)
   have hix:=Int.toNat_natCast (ms.length-1)
   rotate_left
   have hw1:True:=trivial
   have hix:True:=trivial
   have exl:True:=trivial
   have hl00:x7 ms=0:=by unfold x7;rw [List.getElem?_eq_none (by omega)]
   rw [hl00] at hn1
   all_goals
    refine z7 {} 2 Tryz.func109 fun Γ hW=>auC ?_
    refine wZ ?_
    repeat' first|refine am ?_|fail|refine auD ?_|(refine auW ?_ ?_<;>intro h<;>try exact auH)|fail
    refine wZ ?_
    repeat' first|refine am ?_|(first|(with_reducible refine z6 h1 ?_))|refine auD ?_|(refine auW ?_ ?_<;>intro h<;>try exact auH)|fail
    repeat' first|refine auS ?_|(first|(with_reducible refine z6 h2 ?_)|(with_reducible refine yB 1 hO ?_)|(refine wo 4 1 (by decide) rfl rfl (hex _ _) (fun _ _ _ h=>h) ?_)|(refine xp 1 rfl hw ⟨⟨rfl,rfl,rfl,rfl,rfl,.inl ⟨rfl,rfl,by simp,by rw [tH (by simp)]⟩,rfl⟩,rfl,rfl,rfl,rfl⟩ rfl ?_)|(refine z_ 1 rfl (hdel _) (fun _ _ _ h=>h) ?_)|(refine wo 4 1 (by decide) rfl rfl (hpl _ _) (fun _ _ _ h=>h) ?_)|(with_reducible refine z6 h3 ?_)|(simp only [hlen,hlenY,hw1,hwi]))|refine auD ?_|(refine auW ?_ ?_<;>intro h<;>try exact auH)|(first|(simp only [hix,exl])|(simp only [Int.toNat_natCast,Nat.zero_add,exi])|(refine zf ⟨by (try rw [hlenY]);omega,by trivial⟩ ?_)|(refine zf ⟨by trivial,by unfold y8 maxLen;(try rw [hlenY2]);simp;omega⟩ ?_)|fail)
    all_goals try exact auP
    all_goals first
     |(exfalso;simp at h;done)
     |skip
    first
     |((with_reducible refine va (by (try dsimp only [qD,xB,yn,lS,wA,qL,qt,qp,s_,yt,nfD,nfL,yA,nfH,zd,we,yo,yL,uc,sN,Env.get,N8.get,wN,List.length_cons,List.length_nil,Env.set,N8.set,y4,xu]);(repeat' (first|exact trivial|exact rfl|exact zl (fun x=>by simp [nfL,nfD])|exact nf1 _|exact nf2 _|decide|apply And.intro))) ?_);(try dsimp only [qD,xB,yn,lS,wA,qL,qt,qp,s_,yt,nfD,nfL,yA,nfH,zd,we,yo,yL,uc,sN,Env.get,N8.get,wN,List.length_cons,List.length_nil,Env.set,N8.set,y4,xu]);done)
     |(rw [hcat];refine zL (zT hW 3 8 (by decide) (ys:=[[.v (.int .i64 l),.v (.int .i64 _),.v (.int .u64 _),.v (.int .i64 _),.v (.int .u64 _),.snap 5 ((Y++[(⟨pr,ad,po,p,now⟩:Mp)]).map Mp.enc) false]]) rfl rfl ⟨⟨rfl,rfl,rfl,rfl,rfl,Or.inl ⟨rfl,rfl,by simp,by rw [tH (by simp)]⟩,rfl⟩,rfl⟩) ?_;(with_reducible refine va (by (try dsimp only [qD,xB,yn,lS,wA,qL,qt,qp,s_,yt,nfD,nfL,yA,nfH,zd,we,yo,yL,uc,sN,Env.get,N8.get,wN,List.length_cons,List.length_nil,Env.set,N8.set,y4,xu]);(repeat' (first|exact trivial|exact rfl|exact zl (fun x=>by simp [nfL,nfD])|exact nf1 _|exact nf2 _|decide|apply And.intro))) ?_);(try dsimp only [qD,xB,yn,lS,wA,qL,qt,qp,s_,yt,nfD,nfL,yA,nfH,zd,we,yo,yL,uc,sN,Env.get,N8.get,wN,List.length_cons,List.length_nil,Env.set,N8.set,y4,xu]);try rw [hne])
end
end Go.Proofs.YtaiileiodjicpaaGreatDoor.A
namespace Go.Proofs.YtaiileiodjicpaaGreatDoor.A
def V5 (l b1:Int) (t1:Nat) (b2:Int) (t2:Nat) (ms:List Mp) (pr ad po now:Int):Nat×Nat×List Mp×Int×Int:=
 if y_ l b1 t1 b2 t2 ms≠0 then (t1,t2,ms,0,y_ l b1 t1 b2 t2 ms) else if ¬(pr=6∨pr=17) then (t1,t2,ms,0,7)
 else if ¬((0≤po∧po≤65535)∧x7 ms≤now∧now≤1099511627776) then (t1,t2,ms,0,1)
 else match (yng l now ms).find? (isP pr ad po) with
 |some m0=>(bs b1 17 (yng l now ms),bs b2 6 (yng l now ms),pv pr ad po (yng l now ms)++[⟨pr,ad,po,m0.ou,now⟩],m0.ou,0)
 |none=>
  if pr=6 then (if sk b2 (bs b2 6 (yng l now ms)) po=0 then (bs b1 17 (yng l now ms),bs b2 6 (yng l now ms)+2 ^ v6 b2 (bs b2 6 (yng l now ms)) po,yng l now ms++[⟨6,ad,po,b2+v6 b2 (bs b2 6 (yng l now ms)) po,now⟩],b2+v6 b2 (bs b2 6 (yng l now ms)) po,0) else (t1,t2,ms,0,sk b2 (bs b2 6 (yng l now ms)) po))
  else (if sk b1 (bs b1 17 (yng l now ms)) po=0 then (bs b1 17 (yng l now ms)+2 ^ v6 b1 (bs b1 17 (yng l now ms)) po,bs b2 6 (yng l now ms),yng l now ms++[⟨17,ad,po,b1+v6 b1 (bs b1 17 (yng l now ms)) po,now⟩],b1+v6 b1 (bs b1 17 (yng l now ms)) po,0) else (t1,t2,ms,0,sk b1 (bs b1 17 (yng l now ms)) po))
abbrev Xi (l b1 b2:Int) (r:Nat×Nat×List Mp×Int×Int):DV:=pn l b1 r.1 b2 r.2.1 r.2.2.1 r.2.2.2.1 r.2.2.2.2
section
variable (l b1:Int) (t1:Nat) (b2:Int) (t2:Nat) (ms:List Mp) (pr ad po now:Int)
theorem kb {Q:Nat×Nat×List Mp×Int×Int→Prop} (w1:y_ l b1 t1 b2 t2 ms≠0→Q (t1,t2,ms,0,y_ l b1 t1 b2 t2 ms)) (w2:y_ l b1 t1 b2 t2 ms=0→¬(pr=6∨pr=17)→Q (t1,t2,ms,0,7))
  (w3:y_ l b1 t1 b2 t2 ms=0→(pr=6∨pr=17)→¬((0≤po∧po≤65535)∧x7 ms≤now∧now≤1099511627776)→Q (t1,t2,ms,0,1))
  (w4:y_ l b1 t1 b2 t2 ms=0→(pr=6∨pr=17)→((0≤po∧po≤65535)∧x7 ms≤now∧now≤1099511627776)→∀(i:Nat) (m0:Mp),(yng l now ms)[i]?=some m0→zk (isP pr ad po) (yng l now ms) 0=i→isP pr ad po m0=true→Q (bs b1 17 (yng l now ms),bs b2 6 (yng l now ms),pv pr ad po (yng l now ms)++[⟨pr,ad,po,m0.ou,now⟩],m0.ou,0))
  (w5:y_ l b1 t1 b2 t2 ms=0→((0≤po∧po≤65535)∧x7 ms≤now∧now≤1099511627776)→zk (isP pr ad po) (yng l now ms) 0 = -1→(∀m∈yng l now ms,isP pr ad po m=false)→
   (pr=6→¬sk b2 (bs b2 6 (yng l now ms)) po=0→Q (t1,t2,ms,0,sk b2 (bs b2 6 (yng l now ms)) po))∧(pr=17→¬sk b1 (bs b1 17 (yng l now ms)) po=0→Q (t1,t2,ms,0,sk b1 (bs b1 17 (yng l now ms)) po))∧
   (pr=6→sk b2 (bs b2 6 (yng l now ms)) po=0→Q (bs b1 17 (yng l now ms),bs b2 6 (yng l now ms)+2 ^ v6 b2 (bs b2 6 (yng l now ms)) po,yng l now ms++[⟨6,ad,po,b2+v6 b2 (bs b2 6 (yng l now ms)) po,now⟩],b2+v6 b2 (bs b2 6 (yng l now ms)) po,0))∧
   (pr=17→sk b1 (bs b1 17 (yng l now ms)) po=0→Q (bs b1 17 (yng l now ms)+2 ^ v6 b1 (bs b1 17 (yng l now ms)) po,bs b2 6 (yng l now ms),yng l now ms++[⟨17,ad,po,b1+v6 b1 (bs b1 17 (yng l now ms)) po,now⟩],b1+v6 b1 (bs b1 17 (yng l now ms)) po,0))):Q (V5 l b1 t1 b2 t2 ms pr ad po now):=by
 unfold V5
 by_cases he:y_ l b1 t1 b2 t2 ms=0
 rotate_left
 ·rw [if_pos he];exact w1 he
 rw [if_neg (not_not_intro he)]
 by_cases hp:pr=6∨pr=17
 rotate_left
 ·rw [if_pos hp];exact w2 he hp
 rw [if_neg (not_not_intro hp)]
 by_cases ha:(0≤po∧po≤65535)∧x7 ms≤now∧now≤1099511627776
 rotate_left
 ·rw [if_pos ha];exact w3 he hp ha
 rw [if_neg (not_not_intro ha)]
 rcases pY (isP pr ad po) (yng l now ms) with ⟨q1,q2⟩|⟨i,m0,q1,q2,q3⟩
 ·rw [q2]
  obtain ⟨v1,v2,v3,v4⟩:=w5 he ha q1 (fun m hm=>by simpa using List.find?_eq_none.1 q2 m hm)
  by_cases h6:pr=6
  ·rw [if_pos h6]
   by_cases h0:sk b2 (bs b2 6 (yng l now ms)) po=0
   ·rw [if_pos h0];exact v3 h6 h0
   ·rw [if_neg h0];exact v1 h6 h0
  ·rw [if_neg h6]
   have h17:pr=17:=by omega
   by_cases h0:sk b1 (bs b1 17 (yng l now ms)) po=0
   ·rw [if_pos h0];exact v4 h17 h0
   ·rw [if_neg h0];exact v2 h17 h0
 ·rw [q3]
  exact w4 he hp ha i m0 q1 q2 (List.find?_some q3)
variable (hl:ms.length*40≤140737488351232) (h10:t1<18446744073709551616) (h20:t2<18446744073709551616)
include hl h10 h20
theorem ZB:zi Tryz.prog 109 [dNt l b1 t1 b2 t2 ms,.v (.int .i64 pr),.v (.int .u32 ad),.v (.int .i64 po),.v (.int .i64 now)] (Xi l b1 b2 (V5 l b1 t1 b2 t2 ms pr ad po now)):=by
 refine kb l b1 t1 b2 t2 ms pr ad po now (Q:=fun r=>zi Tryz.prog 109 [dNt l b1 t1 b2 t2 ms,.v (.int .i64 pr),.v (.int .u32 ad),.v (.int .i64 po),.v (.int .i64 now)] (Xi l b1 b2 r)) (fun h=>XH l b1 t1 b2 t2 ms pr ad po now hl h10 h20 rfl h) (fun h hp=>bO l b1 t1 b2 t2 ms pr ad po now hl h10 h20 h hp)
  (fun h hp ha=>V8 l b1 t1 b2 t2 ms pr ad po now hl h10 h20 h hp ha) (fun h hp ha i m0 q1 q2 q3=>bZ l b1 t1 b2 t2 ms pr ad po now hl h10 h20 h hp ha q1 q2 q3) (fun he ha q1 hno=>?_)
 obtain ⟨hlf,hb,hg,-,-⟩:=qE h10 h20 he
 have hgY:tj b1 b2 (yng l now ms):=hg.sub (List.filter_sublist (p:=uH l now) (l:=ms))
 refine ⟨fun h6 h0=>?_,fun h17 h0=>?_,fun h6 h0=>?_,fun h17 h0=>?_⟩
 ·subst h6
  exact (nr l b1 t1 b2 t2 ms 6 ad po now hl h10 h20 he ha q1 (ix _ _ po h0) (.inr ⟨rfl,rfl,rfl,rfl,rfl,rfl⟩)).1 h0
 ·subst h17
  exact (nr l b1 t1 b2 t2 ms 17 ad po now hl h10 h20 he ha q1 (ix _ _ po h0) (.inl ⟨rfl,rfl,rfl,rfl,rfl,rfl⟩)).1 h0
 ·subst h6
  have hT:=(t7 b2 6 _ hgY.r2 hgY.nd).1
  refine (nr l b1 t1 b2 t2 ms 6 ad po now hl h10 h20 he ha q1 (B:=b2) (T:=bs b2 6 (yng l now ms)+2 ^ v6 b2 (bs b2 6 (yng l now ms)) po) (p:=b2+v6 b2 (bs b2 6 (yng l now ms)) po) (e:=0) ?_ (.inr ⟨rfl,rfl,rfl,rfl,rfl,rfl⟩)).2 rfl
  by_cases hc:tkd b2 (bs b2 6 (yng l now ms)) po=false∧b2≤po∧po≤b2+63
  ·exact mi _ _ po hT h0 hc
  ·exact mR _ _ po hT h0 hc
 ·subst h17
  have hT:=(t7 b1 17 _ hgY.r1 hgY.nd).1
  refine (nr l b1 t1 b2 t2 ms 17 ad po now hl h10 h20 he ha q1 (B:=b1) (T:=bs b1 17 (yng l now ms)+2 ^ v6 b1 (bs b1 17 (yng l now ms)) po) (p:=b1+v6 b1 (bs b1 17 (yng l now ms)) po) (e:=0) ?_ (.inl ⟨rfl,rfl,rfl,rfl,rfl,rfl⟩)).2 rfl
  by_cases hc:tkd b1 (bs b1 17 (yng l now ms)) po=false∧b1≤po∧po≤b1+63
  ·exact mi _ _ po hT h0 hc
  ·exact mR _ _ po hT h0 hc
end
end Go.Proofs.YtaiileiodjicpaaGreatDoor.A
