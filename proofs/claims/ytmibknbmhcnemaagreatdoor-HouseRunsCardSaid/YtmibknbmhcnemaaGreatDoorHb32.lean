import Derived.Test.YtmibknbmhcnemaaGreatDoorHb12
set_option linter.unusedVariables false
set_option linter.unusedSimpArgs false
namespace Go.Proofs.YtmibknbmhcnemaaGreatDoor.A
attribute [local irreducible] zF Go
set_option maxRecDepth 100000
section
variable (l b1:Int) (t1:Nat) (b2:Int) (t2:Nat) (ms:List Mp) (pr ad po now:Int) (hl:ms.length*40≤140737488351232) (h10:t1<18446744073709551616) (h20:t2<18446744073709551616)
include hl h10 h20
set_option maxHeartbeats 16000000 in
theorem nE (he:zI l b1 t1 b2 t2 ms=0) (ha:((0≤po∧po≤65535)∧zJ ms≤now∧now≤1099511627776)) (hf:zl (isP pr ad po) (yng l now ms) 0 = -1) {bX:Int} {B:Int} {T:Nat} {p e:Int} (h3:zd Tryz.prog 160 [.agg [.v (.int .i64 bX),.v (.int .u64 (bs bX pr (yng l now ms):Nat))],.v (.int .i64 po)] (tz B T p e)) {B1 B2:Int} {R1 R2:Nat}
  (hr:(pr=17∧bX=b1∧B1=B∧R1=T∧B2=b2∧R2=bs b2 6 (yng l now ms))∨(pr=6∧bX=b2∧B1=b1∧R1=bs b1 17 (yng l now ms)∧B2=B∧R2=T)) :
  (¬e=0→zd Tryz.prog 107 [dNt l b1 t1 b2 t2 ms,.v (.int .i64 pr),.v (.int .u32 ad),.v (.int .i64 po),.v (.int .i64 now)] (rb l b1 t1 b2 t2 ms 0 e))∧
  (e=0→zd Tryz.prog 107 [dNt l b1 t1 b2 t2 ms,.v (.int .i64 pr),.v (.int .u32 ad),.v (.int .i64 po),.v (.int .i64 now)] (rb l B1 R1 B2 R2 (yng l now ms++[⟨pr,ad,po,p,now⟩]) p 0)):=by
 obtain ⟨hlf,hb,hg,rfl,rfl⟩:=xP h10 h20 he
 have hml:ms.length≤maxLen:=by unfold maxLen;omega
 have h1:=xS ms false ⟨hml,by omega⟩
 have hO:=pa 1 ms false ⟨hml,by omega⟩
 have h2:=xK l b1 (bs b1 17 ms) b2 (bs b2 6 ms) ms hml h10 h20
 rw [he] at h2
 have hlen:(ms.map Mp.enc).length=ms.length:=List.length_map _
 obtain ⟨hpo,hn1,hn2⟩:=ha
 have hl0:0≤zJ ms:=by
  unfold zJ
  split
  ·rename_i m hm
   exact (hg.tm m (List.mem_of_getElem? hm)).1
  ·exact Int.le_refl _
 have hex:=fun n m=>v_ 4 (oU l b1 b2 now ms n m hg hb hml hlf ⟨by omega,hn2⟩)
 have hyl:(yng l now ms).length≤ms.length:=List.length_filter_le _ _
 have hgY:vY b1 b2 (yng l now ms):=hg.sub (List.filter_sublist (p:=vq l now) (l:=ms))
 have hw:=tG l b1 (bs b1 17 (yng l now ms)) b2 (bs b2 6 (yng l now ms)) (yng l now ms) pr ad po (by unfold maxLen;omega)
 rw [hf] at hw
 have exi:True:=trivial
 have hdel:True:=trivial
 have hlenY:((yng l now ms).map Mp.enc).length=(yng l now ms).length:=List.length_map _
 have hlenY2:=hlenY
 have hwi:True:=trivial
 have hcat:((yng l now ms).map Mp.enc)++[(⟨pr,ad,po,p,now⟩:Mp).enc]=(yng l now ms++[(⟨pr,ad,po,p,now⟩:Mp)]).map Mp.enc:=by rw [List.map_append];rfl
 unfold rb dNt rNt
 unfold tz at h3
 clear hgY hg
 rcases hr with ⟨hp,e1,e2,e3,e4,e5⟩|⟨hp,e1,e2,e3,e4,e5⟩
 subst bX B1 R1 B2 R2
 have hpl:=fun n m=>s9 (v_ 4 (tK n m l b1 (bs b1 17 (yng l now ms)) b2 (bs b2 6 (yng l now ms)) (yng l now ms).length (yng l now ms) pr (.inl hp))) (D':=.ptr 4 n 6 0 1) (fun K w v h=>by rw [hp] at h;exact uE (show zg K w (.ptr 0 n 6 0 1) v from h))
 rotate_left
 subst bX B1 R1 B2 R2
 have hpl:=fun n m=>s9 (v_ 4 (tK n m l b1 (bs b1 17 (yng l now ms)) b2 (bs b2 6 (yng l now ms)) (yng l now ms).length (yng l now ms) pr (.inr hp))) (D':=.ptr 4 n 6 0 3) (fun K w v h=>by rw [hp] at h;exact uE (show zg K w (.ptr 0 n 6 0 3) v from h))
 all_goals
  rw [hp] at h3
  generalize yng l now ms=Y at *
  generalize bs b1 17 Y=T1 at *
  generalize bs b2 6 Y=T2 at *
  generalize bs b1 17 ms=S1 at *
  generalize bs b2 6 ms=S2 at *
  have nf1:=fun g=>wi g ms
  have nf2:=fun g=>wi g (Y++[(⟨pr,ad,po,p,now⟩:Mp)])
  constructor
  all_goals
   intro hne
   by_cases hk:0<ms.length
   obtain ⟨ml,hm1,hm2⟩:=nF ms hk
   rw [hm2] at hn1
   have exl:=y7 hm1
   have hw1:IntKind.i64.wrap ((ms.length:Int)-1)=((ms.length-1:Nat):Int):=(IntWalk.i64_in _ (by omega)).trans (by omega)
   have hix:=Int.toNat_natCast (ms.length-1)
   rotate_left
   have hw1:True:=trivial
   have hix:True:=trivial
   have exl:True:=trivial
   have hl00:zJ ms=0:=by unfold zJ;rw [List.getElem?_eq_none (by omega)]
   rw [hl00] at hn1
   all_goals
    refine z4 {} 2 Tryz.func107 fun Γ hW=>auC ?_
    refine xU ?_
    repeat' first|refine ay ?_|fail|refine auD ?_|(refine auW ?_ ?_<;>intro h<;>try exact auH)|fail
    refine xU ?_
    repeat' first|refine ay ?_|(first|(with_reducible refine z0 h1 ?_))|refine auD ?_|(refine auW ?_ ?_<;>intro h<;>try exact auH)|fail
    repeat' first|refine auS ?_|(first|(with_reducible refine z0 h2 ?_)|(with_reducible refine yJ 1 hO ?_)|(refine v7 4 1 (by decide) rfl rfl (hex _ _) (fun _ _ _ h=>h) ?_)|(refine zD 1 rfl hw ⟨⟨rfl,rfl,rfl,rfl,rfl,.inl ⟨rfl,rfl,by simp,by rw [yN (by simp)]⟩,rfl⟩,rfl,rfl,rfl,rfl⟩ rfl ?_)|(refine z9 1 rfl (hdel _) (fun _ _ _ h=>h) ?_)|(refine v7 4 1 (by decide) rfl rfl (hpl _ _) (fun _ _ _ h=>h) ?_)|(with_reducible refine z0 h3 ?_)|(simp only [hlen,hlenY,hw1,hwi]))|refine auD ?_|(refine auW ?_ ?_<;>intro h<;>try exact auH)|(first|(simp only [hix,exl])|(simp only [Int.toNat_natCast,Nat.zero_add,exi])|(refine z7 ⟨by (try rw [hlenY]);omega,by trivial⟩ ?_)|(refine z7 ⟨by trivial,by unfold zZ maxLen;(try rw [hlenY2]);simp;omega⟩ ?_)|fail)
    all_goals try exact auP
    all_goals first
     |(exfalso;simp at h;done)
     |skip
    first
     |((with_reducible refine yd (by (try dsimp only [pB,xX,yw,ke,vf,p9,qU,qW,sS,yF,nfD,nfL,xb,nfH,zc,wZ,ym,x5,t8,rz,Env.get,N8.get,vt,List.length_cons,List.length_nil,Env.set,N8.set,xc,xN]);(repeat' (first|exact trivial|exact rfl|exact zn (fun x=>by simp [nfL,nfD])|exact nf1 _|exact nf2 _|decide|apply And.intro))) ?_);(try dsimp only [pB,xX,yw,ke,vf,p9,qU,qW,sS,yF,nfD,nfL,xb,nfH,zc,wZ,ym,x5,t8,rz,Env.get,N8.get,vt,List.length_cons,List.length_nil,Env.set,N8.set,xc,xN]);done)
     |(rw [hcat];refine zt (yS hW 3 8 (by decide) (ys:=[[.v (.int .i64 l),.v (.int .i64 _),.v (.int .u64 _),.v (.int .i64 _),.v (.int .u64 _),.snap 5 ((Y++[(⟨pr,ad,po,p,now⟩:Mp)]).map Mp.enc) false]]) rfl rfl ⟨⟨rfl,rfl,rfl,rfl,rfl,Or.inl ⟨rfl,rfl,by simp,by rw [yN (by simp)]⟩,rfl⟩,rfl⟩) ?_;(with_reducible refine yd (by (try dsimp only [pB,xX,yw,ke,vf,p9,qU,qW,sS,yF,nfD,nfL,xb,nfH,zc,wZ,ym,x5,t8,rz,Env.get,N8.get,vt,List.length_cons,List.length_nil,Env.set,N8.set,xc,xN]);(repeat' (first|exact trivial|exact rfl|exact zn (fun x=>by simp [nfL,nfD])|exact nf1 _|exact nf2 _|decide|apply And.intro))) ?_);(try dsimp only [pB,xX,yw,ke,vf,p9,qU,qW,sS,yF,nfD,nfL,xb,nfH,zc,wZ,ym,x5,t8,rz,Env.get,N8.get,vt,List.length_cons,List.length_nil,Env.set,N8.set,xc,xN]);try rw [hne])
end
end Go.Proofs.YtmibknbmhcnemaaGreatDoor.A
