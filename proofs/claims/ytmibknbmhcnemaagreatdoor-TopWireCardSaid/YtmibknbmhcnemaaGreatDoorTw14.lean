import Derived.Test.YtmibknbmhcnemaaGreatDoorTw13
set_option linter.unusedVariables false
set_option linter.unusedSimpArgs false
namespace Go.Proofs.YtmibknbmhcnemaaGreatDoor.A
attribute [local irreducible] zu Go
set_option maxRecDepth 100000
set_option maxHeartbeats 1000000 in
theorem a7 (l:List Mp) (c:Bool) (hl:zW l.length 40):xG Tryz.prog 58 [.snap 5 (l.map Mp.enc) c] [] (fun n d H=>d=.sl 1 n 5 0 l.length false∧H=[some ⟨n,5,l.map Mp.enc⟩]):=by
 have hones:∀r:List Mp,zE (r.map Mp.enc)=true:=zP (fun x=>rfl)
 cases l with
 |nil=>
  refine ve {} 0 Tryz.func58 fun Γ hW=>auC ?_
  dsimp only [List.map]
  repeat' first|refine auS ?_|(with_reducible refine wq ?_)|refine auD ?_|(refine auW ?_ ?_<;>intro h<;>try exact auH)|fail
  ·refine rR (yp (vi ⟨.d0,.d0,.d2⟩ 1 5 rfl rfl)) ?_
   exact yM 1 (fun n=>.sl 1 n 5 0 0 false) trivial rfl (Nat.le_refl _) trivial (fun n=>.inl ⟨rfl,rfl⟩) (fun n=>⟨rfl,rfl⟩)
  ·exact yM 1 (fun n=>.sl 1 n 5 0 0 false) trivial rfl (by show Γ.g0≤Γ.g0+1;omega) trivial (fun n=>.inl ⟨rfl,rfl⟩) (fun n=>⟨rfl,rfl⟩)
 |cons x r=>
  refine ve {} 0 Tryz.func58 fun Γ hW=>auC ?_
  dsimp only [List.map]
  repeat' first|refine auS ?_|(with_reducible refine wq ?_)|refine auD ?_|(refine auW ?_ ?_<;>intro h<;>try exact auH)|(refine z_ ⟨Or.inl (by omega),rfl,hones _,by simp only [zW,maxLen,List.length_map,List.length_cons] at hl ⊢;omega⟩ ?_)
  refine yM 1 (fun n=>.sl 1 n 5 0 (x::r).length false) trivial rfl (by show Γ.g0≤Γ.g0+1;omega) ?_ (fun n=>.inl ⟨rfl,?_⟩) (fun n=>⟨rfl,rfl⟩)
  ·exact (zg (fun x=>by simp [nfL,nfD]):yR Γ.g0 ((x::r).map Mp.enc))
  ·simp [List.length_map]
theorem rE (j:Nat) (l:List Mp) (c:Bool) (hl:zW l.length 40):xG Tryz.prog 58 [.snap 5 (l.map Mp.enc) c] [] (fun n d H=>d=.sl j n 5 0 l.length false∧H=[some ⟨n,5,l.map Mp.enc⟩]):=
 tY (a7 l c hl) (fun K w n v h=>xO h)
set_option maxHeartbeats 1000000 in
theorem xp (l:List Mp) (c:Bool) (hl:zW l.length 40):zc Tryz.prog 58 [.snap 5 (l.map Mp.enc) c] (.snap 5 (l.map Mp.enc) false):=by
 have hones:∀r:List Mp,zE (r.map Mp.enc)=true:=zP (fun x=>rfl)
 have hnf:∀g,yR g (l.map Mp.enc):=fun g=>zg (fun x=>by simp [nfL,nfD])
 cases l with
 |nil=>
  refine z3 {} 0 Tryz.func58 fun Γ hW=>auC ?_
  dsimp only [List.map]
  repeat' first|refine auS ?_|(with_reducible refine wq ?_)|refine auD ?_|(refine auW ?_ ?_<;>intro h<;>try exact auH)|fail
  ·refine zl (yp (vi ⟨.d0,.d0,.d2⟩ 1 5 rfl rfl)) (zl (zi hW ⟨.d0,.d0,.d2⟩ rfl rfl ⟨rfl,rfl,by exact Nat.le_refl _⟩) ?_)
   dsimp only [zC,zF]
   all_goals refine auV ?_
   all_goals try exact z9
   all_goals try simp only [hsM] at *
  ·refine zl (zi hW ⟨.d0,.d0,.d2⟩ rfl rfl ⟨rfl,rfl,by exact Nat.le_refl _⟩) ?_
   rw [show zC (zF (([]:List (List DV))++[]) 0) 0=[] from rfl]
   all_goals refine auV ?_
   all_goals try exact z9
   all_goals try simp only [hsM] at *
 |cons x r=>
  refine z3 {} 0 Tryz.func58 fun Γ hW=>auC ?_
  dsimp only [List.map]
  repeat' first|refine auS ?_|(with_reducible refine wq ?_)|refine auD ?_|(refine auW ?_ ?_<;>intro h<;>try exact auH)|(refine z_ ⟨Or.inl (by omega),rfl,hones _,by simp only [zW,maxLen,List.length_map,List.length_cons] at hl ⊢;omega⟩ ?_)
  refine zl (zi hW ⟨.d0,.d0,.d2⟩ rfl rfl ⟨rfl,rfl,by simp⟩) ?_
  rw [show zC (zF ([]++Mp.enc x::r.map Mp.enc) 0) (0+((r.map Mp.enc).length+1))=(x::r).map Mp.enc from sa (by simp)]
  have hnf1:=hnf Γ.g0
  all_goals refine auV ?_
  all_goals try exact z9
  all_goals try simp only [hsM] at *
  all_goals rfl
def zN (ms:List Mp):Int:=match ms[ms.length-1]? with|some m=>m.tm|none=>0
abbrev lS (l b1:Int) (t1:Nat) (b2:Int) (t2:Nat) (ms:List Mp) (p e:Int):DV:=.tup [dNt l b1 t1 b2 t2 ms,.v (.int .i64 p),.v (.int .i64 e)]
theorem pN (ms:List Mp) (hk:0<ms.length):∃m,ms[ms.length-1]?=some m∧zN ms=m.tm:=by
 refine ⟨ms[ms.length-1],List.getElem?_eq_getElem (by omega),?_⟩
 unfold zN
 rw [List.getElem?_eq_getElem (by omega)]
section
variable (l b1:Int) (t1:Nat) (b2:Int) (t2:Nat) (ms:List Mp) (pr ad po now:Int) (hl:ms.length*40≤140737488351232) (h10:t1<18446744073709551616) (h20:t2<18446744073709551616)
include hl h10 h20
set_option maxHeartbeats 4000000 in
theorem ZS {e:Int} (he:y7 l b1 t1 b2 t2 ms=e) (hne:¬e=0):zc Tryz.prog 107 [dNt l b1 t1 b2 t2 ms,.v (.int .i64 pr),.v (.int .u32 ad),.v (.int .i64 po),.v (.int .i64 now)] (lS l b1 t1 b2 t2 ms 0 e):=by
 have hml:ms.length≤maxLen:=by unfold maxLen;omega
 have h1:=xp ms false ⟨hml,by omega⟩
 have h2:=xe l b1 t1 b2 t2 ms hml h10 h20
 rw [he] at h2
 have hlen:(ms.map Mp.enc).length=ms.length:=List.length_map _
 have hw1:True:=trivial
 have hix:True:=trivial
 have exl:True:=trivial
 have nf1:=fun g=>um g ms
 refine z3 {} 2 Tryz.func107 fun Γ hW=>auC ?_
 repeat' first|refine auS ?_|(first|(with_reducible refine z0 h1 ?_)|(with_reducible refine z0 h2 ?_)|(simp only [hlen,hw1]))|refine auD ?_|(refine auW ?_ ?_<;>intro h<;>try exact auH)|(first|(simp only [hix,exl])|fail)
 all_goals try exact auP
 all_goals first
  |(exfalso;simp at h;done)
  |skip
 all_goals with_reducible refine wS (by (try first|refine auR ?_|exact z9);(repeat' (first|exact trivial|exact rfl|exact zg (fun x=>by simp [nfL,nfD,nfD,nfL,nf1])|decide|apply And.intro))) ?_
 all_goals (try first|refine auR ?_|exact z9)
 all_goals (try simp only [hsM] at *)
 all_goals rfl
set_option maxHeartbeats 4000000 in
theorem eT (he:y7 l b1 t1 b2 t2 ms=0) (hp:¬(pr=6∨pr=17)):zc Tryz.prog 107 [dNt l b1 t1 b2 t2 ms,.v (.int .i64 pr),.v (.int .u32 ad),.v (.int .i64 po),.v (.int .i64 now)] (lS l b1 t1 b2 t2 ms 0 7):=by
 have hml:ms.length≤maxLen:=by unfold maxLen;omega
 have h1:=xp ms false ⟨hml,by omega⟩
 have h2:=xe l b1 t1 b2 t2 ms hml h10 h20
 rw [he] at h2
 have hlen:(ms.map Mp.enc).length=ms.length:=List.length_map _
 have hx:zN ms=zN ms:=rfl
 by_cases hk:0<ms.length
 obtain ⟨ml,hm1,hm2⟩:=pN ms hk
 rw [hm2] at hx
 have exl:=wY hm1
 have hw1:IntKind.i64.wrap ((ms.length:Int)-1)=((ms.length-1:Nat):Int):=(IntWalk.i64_in _ (by omega)).trans (by omega)
 have hix:=Int.toNat_natCast (ms.length-1)
 rotate_left
 have hw1:True:=trivial
 have hix:True:=trivial
 have exl:True:=trivial
 have hl00:zN ms=0:=by unfold zN;rw [List.getElem?_eq_none (by omega)]
 rw [hl00] at hx
 all_goals
  have nf1:=fun g=>um g ms
  refine z3 {} 2 Tryz.func107 fun Γ hW=>auC ?_
  repeat' first|refine auS ?_|(first|(with_reducible refine z0 h1 ?_)|(with_reducible refine z0 h2 ?_)|(simp only [hlen,hw1]))|refine auD ?_|(refine auW ?_ ?_<;>intro h<;>try exact auH)|(first|(simp only [hix,exl])|fail)
  all_goals try exact auP
  all_goals first
   |(exfalso;simp at h;done)
   |skip
  all_goals with_reducible refine wS (by (try first|refine auR ?_|exact z9);(repeat' (first|exact trivial|exact rfl|exact zg (fun x=>by simp [nfL,nfD,nfD,nfL,nf1])|decide|apply And.intro))) ?_
  all_goals (try first|refine auR ?_|exact z9)
  all_goals (try simp only [hsM] at *)
  all_goals rfl
set_option maxHeartbeats 4000000 in
theorem Ym (he:y7 l b1 t1 b2 t2 ms=0) (hp:pr=6∨pr=17) (ha:¬((0≤po∧po≤65535)∧zN ms≤now∧now≤1099511627776)):zc Tryz.prog 107 [dNt l b1 t1 b2 t2 ms,.v (.int .i64 pr),.v (.int .u32 ad),.v (.int .i64 po),.v (.int .i64 now)] (lS l b1 t1 b2 t2 ms 0 1):=by
 have hml:ms.length≤maxLen:=by unfold maxLen;omega
 have h1:=xp ms false ⟨hml,by omega⟩
 have h2:=xe l b1 t1 b2 t2 ms hml h10 h20
 rw [he] at h2
 have hlen:(ms.map Mp.enc).length=ms.length:=List.length_map _
 by_cases hk:0<ms.length
 obtain ⟨ml,hm1,hm2⟩:=pN ms hk
 rw [hm2] at ha
 have exl:=wY hm1
 have hw1:IntKind.i64.wrap ((ms.length:Int)-1)=((ms.length-1:Nat):Int):=(IntWalk.i64_in _ (by omega)).trans (by omega)
 have hix:=Int.toNat_natCast (ms.length-1)
 rotate_left
 have hw1:True:=trivial
 have hix:True:=trivial
 have exl:True:=trivial
 have hl00:zN ms=0:=by unfold zN;rw [List.getElem?_eq_none (by omega)]
 rw [hl00] at ha
 all_goals
  rcases hp with hp|hp
  all_goals
   have nf1:=fun g=>um g ms
   refine z3 {} 2 Tryz.func107 fun Γ hW=>auC ?_
   repeat' first|refine auS ?_|(first|(with_reducible refine z0 h1 ?_)|(with_reducible refine z0 h2 ?_)|(simp only [hlen,hw1]))|refine auD ?_|(refine auW ?_ ?_<;>intro h<;>try exact auH)|(first|(simp only [hix,exl])|fail)
   all_goals try exact auP
   all_goals first
    |(exfalso;simp at h;done)
    |skip
   all_goals with_reducible refine wS (by (try first|refine auR ?_|exact z9);(repeat' (first|exact trivial|exact rfl|exact zg (fun x=>by simp [nfL,nfD,nfD,nfL,nf1])|decide|apply And.intro))) ?_
   all_goals (try first|refine auR ?_|exact z9)
   all_goals (try simp only [hsM] at *)
   all_goals rfl
set_option maxHeartbeats 8000000 in
theorem du (he:y7 l b1 t1 b2 t2 ms=0) (hp:pr=6∨pr=17) (ha:((0≤po∧po≤65535)∧zN ms≤now∧now≤1099511627776)) {i:Nat} {m0:Mp} (hi:(yng l now ms)[i]?=some m0) (hf:ze (isP pr ad po) (yng l now ms) 0=(i:Int)) (hm0:isP pr ad po m0=true) :
  zc Tryz.prog 107 [dNt l b1 t1 b2 t2 ms,.v (.int .i64 pr),.v (.int .u32 ad),.v (.int .i64 po),.v (.int .i64 now)] (lS l b1 (bs b1 17 (yng l now ms)) b2 (bs b2 6 (yng l now ms)) (qG pr ad po (yng l now ms)++[⟨pr,ad,po,m0.ou,now⟩]) m0.ou 0):=by
 obtain ⟨hlf,hb,hg,rfl,rfl⟩:=nK h10 h20 he
 have hml:ms.length≤maxLen:=by unfold maxLen;omega
 have h1:=xp ms false ⟨hml,by omega⟩
 have hO:=rE 1 ms false ⟨hml,by omega⟩
 have h2:=xe l b1 (bs b1 17 ms) b2 (bs b2 6 ms) ms hml h10 h20
 rw [he] at h2
 have hlen:(ms.map Mp.enc).length=ms.length:=List.length_map _
 obtain ⟨hpo,hn1,hn2⟩:=ha
 have hl0:0≤zN ms:=by
  unfold zN
  split
  ·rename_i m hm
   exact (hg.tm m (List.mem_of_getElem? hm)).1
  ·exact Int.le_refl _
 have hex:=fun n m=>we 4 (pl l b1 b2 now ms n m hg hb hml hlf ⟨by omega,hn2⟩)
 have hyl:(yng l now ms).length≤ms.length:=List.length_filter_le _ _
 have hgY:tG b1 b2 (yng l now ms):=hg.sub (List.filter_sublist (p:=uB l now) (l:=ms))
 have hw:=ue l b1 (bs b1 17 (yng l now ms)) b2 (bs b2 6 (yng l now ms)) (yng l now ms) pr ad po (by unfold maxLen;omega)
 rw [hf] at hw
 have hil:i<(yng l now ms).length:=(List.getElem?_eq_some_iff.1 hi).1
 have exi:=wY hi
 have hdel:∀n,zz Tryz.prog 159 [.sl 1 n 5 0 (yng l now ms).length false,.v (.int .i64 (i:Nat)),.v (.int .i64 ((i+1:Nat):Int))] [some ⟨n,5,(yng l now ms).map Mp.enc⟩] (fun d H=>d=.sl 1 n 5 0 (qG pr ad po (yng l now ms)).length false∧H=[some ⟨n,5,(qG pr ad po (yng l now ms)).map Mp.enc⟩]):=fun n=>by
  rw [X4 hgY hi hm0]
  exact sU 1 (yng l now ms) i (i+1) (by omega) (by omega) (by unfold maxLen;omega) n
 have hbl:(qG pr ad po (yng l now ms)).length≤(yng l now ms).length:=List.length_filter_le _ _
 have hlenY:((yng l now ms).map Mp.enc).length=(yng l now ms).length:=List.length_map _
 have hlenY2:((qG pr ad po (yng l now ms)).map Mp.enc).length=(qG pr ad po (yng l now ms)).length:=List.length_map _
 have hwi:IntKind.i64.wrap ((i:Int)+1)=((i+1:Nat):Int):=(IntWalk.i64_in _ (by omega)).trans (by omega)
 have hpl:True:=trivial
 have h3:True:=trivial
 have hcat:((qG pr ad po (yng l now ms)).map Mp.enc)++[(⟨pr,ad,po,m0.ou,now⟩:Mp).enc]=(qG pr ad po (yng l now ms)++[(⟨pr,ad,po,m0.ou,now⟩:Mp)]).map Mp.enc:=by rw [List.map_append];rfl
 unfold lS dNt rNt
 clear hgY hg
 generalize yng l now ms=Y at *
 generalize qG pr ad po Y=Z at *
 generalize bs b1 17 Y=T1 at *
 generalize bs b2 6 Y=T2 at *
 generalize bs b1 17 ms=S1 at *
 generalize bs b2 6 ms=S2 at *
 have nf1:=fun g=>um g (Z++[(⟨pr,ad,po,m0.ou,now⟩:Mp)])
 have hw1:0<ms.length→IntKind.i64.wrap ((ms.length:Int)-1)=((ms.length-1:Nat):Int):=fun _=>(IntWalk.i64_in _ (by omega)).trans (by omega)
 have hix:=Int.toNat_natCast (ms.length-1)
 have hk:0<ms.length:=by omega
 have hw1:=hw1 hk
 obtain ⟨ml,hm1,hm2⟩:=pN ms hk
 rw [hm2] at hn1
 have exl:=wY hm1
 rcases hp with hp|hp
 all_goals
  refine z3 {} 2 Tryz.func107 fun Γ hW=>auC ?_
  refine wF ?_
  repeat' first|refine dE ?_|fail|refine auD ?_|(refine auW ?_ ?_<;>intro h<;>try exact auH)|fail
  refine wF ?_
  repeat' first|refine dE ?_|(first|(with_reducible refine z0 h1 ?_))|refine auD ?_|(refine auW ?_ ?_<;>intro h<;>try exact auH)|fail
  repeat' first|refine auS ?_|(first|(with_reducible refine z0 h2 ?_)|(with_reducible refine zB 1 hO ?_)|(refine xv 4 1 (by decide) rfl rfl (hex _ _) (fun _ _ _ h=>h) ?_)|(refine zt 1 rfl hw ⟨⟨rfl,rfl,rfl,rfl,rfl,.inl ⟨rfl,rfl,by simp,by rw [sa (by simp)]⟩,rfl⟩,rfl,rfl,rfl,rfl⟩ rfl ?_)|(refine z6 1 rfl (hdel _) (fun _ _ _ h=>h) ?_)|(refine xv 4 1 (by decide) rfl rfl (hpl _ _) (fun _ _ _ h=>h) ?_)|(with_reducible refine z0 h3 ?_)|(simp only [hlen,hlenY,hw1,hwi]))|refine auD ?_|(refine auW ?_ ?_<;>intro h<;>try exact auH)|(first|(simp only [hix,exl])|(simp only [Int.toNat_natCast,Nat.zero_add,exi])|(refine z_ ⟨by (try rw [hlenY]);omega,by trivial⟩ ?_)|(refine z_ ⟨by trivial,by unfold zW maxLen;(try rw [hlenY2]);simp;omega⟩ ?_)|fail)
  all_goals try exact auP
  all_goals first
   |(exfalso;simp at h;done)
   |skip
  rw [hcat]
  refine zl (zR hW 3 8 (by decide) (ys:=[[.v (.int .i64 l),.v (.int .i64 b1),.v (.int .u64 (T1:Nat)),.v (.int .i64 b2),.v (.int .u64 (T2:Nat)),.snap 5 ((Z++[(⟨pr,ad,po,m0.ou,now⟩:Mp)]).map Mp.enc) false]]) rfl rfl ⟨⟨rfl,rfl,rfl,rfl,rfl,Or.inl ⟨rfl,rfl,by simp,by rw [sa (by simp)]⟩,rfl⟩,rfl⟩) ?_
  all_goals with_reducible refine wS (by (try first|refine auR ?_|exact z9);(repeat' (first|exact trivial|exact rfl|exact zg (fun x=>by simp [nfL,nfD,nfD,nfL,nf1])|decide|apply And.intro))) ?_
  all_goals (try first|refine auR ?_|exact z9)
  all_goals (try simp only [hsM] at *)
end
end Go.Proofs.YtmibknbmhcnemaaGreatDoor.A
