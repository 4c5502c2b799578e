import Derived.Test.YtmibknbmhcnemaaDoorTm13
set_option linter.unusedVariables false
set_option linter.unusedSimpArgs false
namespace Go.Proofs.YtmibknbmhcnemaaDoor.A
attribute [local irreducible] zz Go
set_option maxRecDepth 100000
set_option maxHeartbeats 1000000 in
theorem dJ (l:List Mp) (c:Bool) (hl:y7 l.length 40):u0 Tryd.prog 34 [.snap 5 (l.map Mp.enc) c] [] (fun n d H=>d=.sl 1 n 5 0 l.length false∧H=[some ⟨n,5,l.map Mp.enc⟩]):=by
 have hones:∀r:List Mp,zC (r.map Mp.enc)=true:=yi (fun x=>rfl)
 cases l with
 |nil=>
  refine uq {} 0 Tryd.func34 fun Γ hW=>auC ?_
  dsimp only [List.map]
  repeat' first|refine auS ?_|(with_reducible refine v7 ?_)|refine auD ?_|(refine auW ?_ ?_<;>intro h<;>try exact auH)|fail
  ·refine nk (yZ (uS ⟨.d0,.d0,.d2⟩ 1 5 rfl rfl)) ?_
   exact xl 1 (fun n=>.sl 1 n 5 0 0 false) trivial rfl (Nat.le_refl _) trivial (fun n=>.inl ⟨rfl,rfl⟩) (fun n=>⟨rfl,rfl⟩)
  ·exact xl 1 (fun n=>.sl 1 n 5 0 0 false) trivial rfl (by show Γ.g0≤Γ.g0+1;omega) trivial (fun n=>.inl ⟨rfl,rfl⟩) (fun n=>⟨rfl,rfl⟩)
 |cons x r=>
  refine uq {} 0 Tryd.func34 fun Γ hW=>auC ?_
  dsimp only [List.map]
  repeat' first|refine auS ?_|(with_reducible refine v7 ?_)|refine auD ?_|(refine auW ?_ ?_<;>intro h<;>try exact auH)|(refine za ⟨Or.inl (by omega),rfl,hones _,by simp only [y7,maxLen,List.length_map,List.length_cons] at hl ⊢;omega⟩ ?_)
  refine xl 1 (fun n=>.sl 1 n 5 0 (x::r).length false) trivial rfl (by show Γ.g0≤Γ.g0+1;omega) ?_ (fun n=>.inl ⟨rfl,?_⟩) (fun n=>⟨rfl,rfl⟩)
  ·exact (zj (fun x=>by simp [nfL,nfD]):yL Γ.g0 ((x::r).map Mp.enc))
  ·simp [List.length_map]
theorem rU (j:Nat) (l:List Mp) (c:Bool) (hl:y7 l.length 40):u0 Tryd.prog 34 [.snap 5 (l.map Mp.enc) c] [] (fun n d H=>d=.sl j n 5 0 l.length false∧H=[some ⟨n,5,l.map Mp.enc⟩]):=
 oX (dJ l c hl) (fun K w n v h=>wS h)
set_option maxHeartbeats 1000000 in
theorem x7 (l:List Mp) (c:Bool) (hl:y7 l.length 40):zf Tryd.prog 34 [.snap 5 (l.map Mp.enc) c] (.snap 5 (l.map Mp.enc) false):=by
 have hones:∀r:List Mp,zC (r.map Mp.enc)=true:=yi (fun x=>rfl)
 have hnf:∀g,yL g (l.map Mp.enc):=fun g=>zj (fun x=>by simp [nfL,nfD])
 cases l with
 |nil=>
  refine z4 {} 0 Tryd.func34 fun Γ hW=>auC ?_
  dsimp only [List.map]
  repeat' first|refine auS ?_|(with_reducible refine v7 ?_)|refine auD ?_|(refine auW ?_ ?_<;>intro h<;>try exact auH)|fail
  ·refine zw (yZ (uS ⟨.d0,.d0,.d2⟩ 1 5 rfl rfl)) (zw (zi hW ⟨.d0,.d0,.d2⟩ rfl rfl ⟨rfl,rfl,by exact Nat.le_refl _⟩) ?_)
   dsimp only [zx,zD]
   all_goals refine auV ?_
   all_goals try exact z_
   all_goals try simp only [hsM] at *
  ·refine zw (zi hW ⟨.d0,.d0,.d2⟩ rfl rfl ⟨rfl,rfl,by exact Nat.le_refl _⟩) ?_
   rw [show zx (zD (([]:List (List DV))++[]) 0) 0=[] from rfl]
   all_goals refine auV ?_
   all_goals try exact z_
   all_goals try simp only [hsM] at *
 |cons x r=>
  refine z4 {} 0 Tryd.func34 fun Γ hW=>auC ?_
  dsimp only [List.map]
  repeat' first|refine auS ?_|(with_reducible refine v7 ?_)|refine auD ?_|(refine auW ?_ ?_<;>intro h<;>try exact auH)|(refine za ⟨Or.inl (by omega),rfl,hones _,by simp only [y7,maxLen,List.length_map,List.length_cons] at hl ⊢;omega⟩ ?_)
  refine zw (zi hW ⟨.d0,.d0,.d2⟩ rfl rfl ⟨rfl,rfl,by simp⟩) ?_
  rw [show zx (zD ([]++Mp.enc x::r.map Mp.enc) 0) (0+((r.map Mp.enc).length+1))=(x::r).map Mp.enc from qd (by simp)]
  have hnf1:=hnf Γ.g0
  all_goals refine auV ?_
  all_goals try exact z_
  all_goals try simp only [hsM] at *
  all_goals rfl
def yq (ms:List Mp):Int:=match ms[ms.length-1]? with|some m=>m.tm|none=>0
abbrev lG (l b1:Int) (t1:Nat) (b2:Int) (t2:Nat) (ms:List Mp) (p e:Int):DV:=.tup [dNt l b1 t1 b2 t2 ms,.v (.int .i64 p),.v (.int .i64 e)]
theorem pl (ms:List Mp) (hk:0<ms.length):∃m,ms[ms.length-1]?=some m∧yq ms=m.tm:=by
 refine ⟨ms[ms.length-1],List.getElem?_eq_getElem (by omega),?_⟩
 unfold yq
 rw [List.getElem?_eq_getElem (by omega)]
section
variable (l b1:Int) (t1:Nat) (b2:Int) (t2:Nat) (ms:List Mp) (pr ad po now:Int) (hl:ms.length*40≤140737488351232) (h10:t1<18446744073709551616) (h20:t2<18446744073709551616)
include hl h10 h20
set_option maxHeartbeats 4000000 in
theorem Z1 {e:Int} (he:zF l b1 t1 b2 t2 ms=e) (hne:¬e=0):zf Tryd.prog 67 [dNt l b1 t1 b2 t2 ms,.v (.int .i64 pr),.v (.int .u32 ad),.v (.int .i64 po),.v (.int .i64 now)] (lG l b1 t1 b2 t2 ms 0 e):=by
 have hml:ms.length≤maxLen:=by unfold maxLen;omega
 have h1:=x7 ms false ⟨hml,by omega⟩
 have h2:=yX l b1 t1 b2 t2 ms hml h10 h20
 rw [he] at h2
 have hlen:(ms.map Mp.enc).length=ms.length:=List.length_map _
 have hw1:True:=trivial
 have hix:True:=trivial
 have exl:True:=trivial
 have nf1:=fun g=>u7 g ms
 refine z4 {} 2 Tryd.func67 fun Γ hW=>auC ?_
 repeat' first|refine auS ?_|(first|(with_reducible refine z0 h1 ?_)|(with_reducible refine z0 h2 ?_)|(simp only [hlen,hw1]))|refine auD ?_|(refine auW ?_ ?_<;>intro h<;>try exact auH)|(first|(simp only [hix,exl])|fail)
 all_goals try exact auP
 all_goals first
  |(exfalso;simp at h;done)
  |skip
 all_goals with_reducible refine wz (by (try first|refine auR ?_|exact z_);(repeat' (first|exact trivial|exact rfl|exact zj (fun x=>by simp [nfL,nfD,nfD,nfL,nf1])|decide|apply And.intro))) ?_
 all_goals (try first|refine auR ?_|exact z_)
 all_goals (try simp only [hsM] at *)
 all_goals rfl
set_option maxHeartbeats 4000000 in
theorem gP (he:zF l b1 t1 b2 t2 ms=0) (hp:¬(pr=6∨pr=17)):zf Tryd.prog 67 [dNt l b1 t1 b2 t2 ms,.v (.int .i64 pr),.v (.int .u32 ad),.v (.int .i64 po),.v (.int .i64 now)] (lG l b1 t1 b2 t2 ms 0 7):=by
 have hml:ms.length≤maxLen:=by unfold maxLen;omega
 have h1:=x7 ms false ⟨hml,by omega⟩
 have h2:=yX l b1 t1 b2 t2 ms hml h10 h20
 rw [he] at h2
 have hlen:(ms.map Mp.enc).length=ms.length:=List.length_map _
 have hx:yq ms=yq ms:=rfl
 by_cases hk:0<ms.length
 obtain ⟨ml,hm1,hm2⟩:=pl ms hk
 rw [hm2] at hx
 have exl:=wI hm1
 have hw1:IntKind.i64.wrap ((ms.length:Int)-1)=((ms.length-1:Nat):Int):=(IntWalk.i64_in _ (by omega)).trans (by omega)
 have hix:=Int.toNat_natCast (ms.length-1)
 rotate_left
 have hw1:True:=trivial
 have hix:True:=trivial
 have exl:True:=trivial
 have hl00:yq ms=0:=by unfold yq;rw [List.getElem?_eq_none (by omega)]
 rw [hl00] at hx
 all_goals
  have nf1:=fun g=>u7 g ms
  refine z4 {} 2 Tryd.func67 fun Γ hW=>auC ?_
  repeat' first|refine auS ?_|(first|(with_reducible refine z0 h1 ?_)|(with_reducible refine z0 h2 ?_)|(simp only [hlen,hw1]))|refine auD ?_|(refine auW ?_ ?_<;>intro h<;>try exact auH)|(first|(simp only [hix,exl])|fail)
  all_goals try exact auP
  all_goals first
   |(exfalso;simp at h;done)
   |skip
  all_goals with_reducible refine wz (by (try first|refine auR ?_|exact z_);(repeat' (first|exact trivial|exact rfl|exact zj (fun x=>by simp [nfL,nfD,nfD,nfL,nf1])|decide|apply And.intro))) ?_
  all_goals (try first|refine auR ?_|exact z_)
  all_goals (try simp only [hsM] at *)
  all_goals rfl
set_option maxHeartbeats 4000000 in
theorem ZD (he:zF l b1 t1 b2 t2 ms=0) (hp:pr=6∨pr=17) (ha:¬((0≤po∧po≤65535)∧yq ms≤now∧now≤1099511627776)):zf Tryd.prog 67 [dNt l b1 t1 b2 t2 ms,.v (.int .i64 pr),.v (.int .u32 ad),.v (.int .i64 po),.v (.int .i64 now)] (lG l b1 t1 b2 t2 ms 0 1):=by
 have hml:ms.length≤maxLen:=by unfold maxLen;omega
 have h1:=x7 ms false ⟨hml,by omega⟩
 have h2:=yX l b1 t1 b2 t2 ms hml h10 h20
 rw [he] at h2
 have hlen:(ms.map Mp.enc).length=ms.length:=List.length_map _
 by_cases hk:0<ms.length
 obtain ⟨ml,hm1,hm2⟩:=pl ms hk
 rw [hm2] at ha
 have exl:=wI hm1
 have hw1:IntKind.i64.wrap ((ms.length:Int)-1)=((ms.length-1:Nat):Int):=(IntWalk.i64_in _ (by omega)).trans (by omega)
 have hix:=Int.toNat_natCast (ms.length-1)
 rotate_left
 have hw1:True:=trivial
 have hix:True:=trivial
 have exl:True:=trivial
 have hl00:yq ms=0:=by unfold yq;rw [List.getElem?_eq_none (by omega)]
 rw [hl00] at ha
 all_goals
  rcases hp with hp|hp
  all_goals
   have nf1:=fun g=>u7 g ms
   refine z4 {} 2 Tryd.func67 fun Γ hW=>auC ?_
   repeat' first|refine auS ?_|(first|(with_reducible refine z0 h1 ?_)|(with_reducible refine z0 h2 ?_)|(simp only [hlen,hw1]))|refine auD ?_|(refine auW ?_ ?_<;>intro h<;>try exact auH)|(first|(simp only [hix,exl])|fail)
   all_goals try exact auP
   all_goals first
    |(exfalso;simp at h;done)
    |skip
   all_goals with_reducible refine wz (by (try first|refine auR ?_|exact z_);(repeat' (first|exact trivial|exact rfl|exact zj (fun x=>by simp [nfL,nfD,nfD,nfL,nf1])|decide|apply And.intro))) ?_
   all_goals (try first|refine auR ?_|exact z_)
   all_goals (try simp only [hsM] at *)
   all_goals rfl
set_option maxHeartbeats 8000000 in
theorem fd (he:zF l b1 t1 b2 t2 ms=0) (hp:pr=6∨pr=17) (ha:((0≤po∧po≤65535)∧yq ms≤now∧now≤1099511627776)) {i:Nat} {m0:Mp} (hi:(yng l now ms)[i]?=some m0) (hf:ze (isP pr ad po) (yng l now ms) 0=(i:Int)) (hm0:isP pr ad po m0=true) :
  zf Tryd.prog 67 [dNt l b1 t1 b2 t2 ms,.v (.int .i64 pr),.v (.int .u32 ad),.v (.int .i64 po),.v (.int .i64 now)] (lG l b1 (bs b1 17 (yng l now ms)) b2 (bs b2 6 (yng l now ms)) (qs pr ad po (yng l now ms)++[⟨pr,ad,po,m0.ou,now⟩]) m0.ou 0):=by
 obtain ⟨hlf,hb,hg,rfl,rfl⟩:=n7 h10 h20 he
 have hml:ms.length≤maxLen:=by unfold maxLen;omega
 have h1:=x7 ms false ⟨hml,by omega⟩
 have hO:=rU 1 ms false ⟨hml,by omega⟩
 have h2:=yX l b1 (bs b1 17 ms) b2 (bs b2 6 ms) ms hml h10 h20
 rw [he] at h2
 have hlen:(ms.map Mp.enc).length=ms.length:=List.length_map _
 obtain ⟨hpo,hn1,hn2⟩:=ha
 have hl0:0≤yq ms:=by
  unfold yq
  split
  ·rename_i m hm
   exact (hg.tm m (List.mem_of_getElem? hm)).1
  ·exact Int.le_refl _
 have hex:=fun n m=>xQ 4 (qM l b1 b2 now ms n m hg hb hml hlf ⟨by omega,hn2⟩)
 have hyl:(yng l now ms).length≤ms.length:=List.length_filter_le _ _
 have hgY:tc b1 b2 (yng l now ms):=hg.sub (List.filter_sublist (p:=ue l now) (l:=ms))
 have hw:=uf l b1 (bs b1 17 (yng l now ms)) b2 (bs b2 6 (yng l now ms)) (yng l now ms) pr ad po (by unfold maxLen;omega)
 rw [hf] at hw
 have hil:i<(yng l now ms).length:=(List.getElem?_eq_some_iff.1 hi).1
 have exi:=wI hi
 have hdel:∀n,zy Tryd.prog 87 [.sl 1 n 5 0 (yng l now ms).length false,.v (.int .i64 (i:Nat)),.v (.int .i64 ((i+1:Nat):Int))] [some ⟨n,5,(yng l now ms).map Mp.enc⟩] (fun d H=>d=.sl 1 n 5 0 (qs pr ad po (yng l now ms)).length false∧H=[some ⟨n,5,(qs pr ad po (yng l now ms)).map Mp.enc⟩]):=fun n=>by
  rw [Yd hgY hi hm0]
  exact sI 1 (yng l now ms) i (i+1) (by omega) (by omega) (by unfold maxLen;omega) n
 have hbl:(qs pr ad po (yng l now ms)).length≤(yng l now ms).length:=List.length_filter_le _ _
 have hlenY:((yng l now ms).map Mp.enc).length=(yng l now ms).length:=List.length_map _
 have hlenY2:((qs pr ad po (yng l now ms)).map Mp.enc).length=(qs pr ad po (yng l now ms)).length:=List.length_map _
 have hwi:IntKind.i64.wrap ((i:Int)+1)=((i+1:Nat):Int):=(IntWalk.i64_in _ (by omega)).trans (by omega)
 have hpl:True:=trivial
 have h3:True:=trivial
 have hcat:((qs pr ad po (yng l now ms)).map Mp.enc)++[(⟨pr,ad,po,m0.ou,now⟩:Mp).enc]=(qs pr ad po (yng l now ms)++[(⟨pr,ad,po,m0.ou,now⟩:Mp)]).map Mp.enc:=by rw [List.map_append];rfl
 unfold lG dNt rNt
 clear hgY hg
 generalize yng l now ms=Y at *
 generalize qs pr ad po Y=Z at *
 generalize bs b1 17 Y=T1 at *
 generalize bs b2 6 Y=T2 at *
 generalize bs b1 17 ms=S1 at *
 generalize bs b2 6 ms=S2 at *
 have nf1:=fun g=>u7 g (Z++[(⟨pr,ad,po,m0.ou,now⟩:Mp)])
 have hw1:0<ms.length→IntKind.i64.wrap ((ms.length:Int)-1)=((ms.length-1:Nat):Int):=fun _=>(IntWalk.i64_in _ (by omega)).trans (by omega)
 have hix:=Int.toNat_natCast (ms.length-1)
 have hk:0<ms.length:=by omega
 have hw1:=hw1 hk
 obtain ⟨ml,hm1,hm2⟩:=pl ms hk
 rw [hm2] at hn1
 have exl:=wI hm1
 rcases hp with hp|hp
 all_goals
  refine z4 {} 2 Tryd.func67 fun Γ hW=>auC ?_
  refine wA ?_
  repeat' first|refine fF ?_|fail|refine auD ?_|(refine auW ?_ ?_<;>intro h<;>try exact auH)|fail
  refine wA ?_
  repeat' first|refine fF ?_|(first|(with_reducible refine z0 h1 ?_))|refine auD ?_|(refine auW ?_ ?_<;>intro h<;>try exact auH)|fail
  repeat' first|refine auS ?_|(first|(with_reducible refine z0 h2 ?_)|(with_reducible refine yc 1 hO ?_)|(refine xV 4 1 (by decide) rfl rfl (hex _ _) (fun _ _ _ h=>h) ?_)|(refine nt 1 rfl hw ⟨⟨rfl,rfl,rfl,rfl,rfl,.inl ⟨rfl,rfl,by simp,by rw [qd (by simp)]⟩,rfl⟩,rfl,rfl,rfl,rfl⟩ rfl ?_)|(refine z7 1 rfl (hdel _) (fun _ _ _ h=>h) ?_)|(refine xV 4 1 (by decide) rfl rfl (hpl _ _) (fun _ _ _ h=>h) ?_)|(with_reducible refine z0 h3 ?_)|(simp only [hlen,hlenY,hw1,hwi]))|refine auD ?_|(refine auW ?_ ?_<;>intro h<;>try exact auH)|(first|(simp only [hix,exl])|(simp only [Int.toNat_natCast,Nat.zero_add,exi])|(refine za ⟨by (try rw [hlenY]);omega,by trivial⟩ ?_)|(refine za ⟨by trivial,by unfold y7 maxLen;(try rw [hlenY2]);simp;omega⟩ ?_)|fail)
  all_goals try exact auP
  all_goals first
   |(exfalso;simp at h;done)
   |skip
  rw [hcat]
  refine zw (wK hW 3 8 (by decide) (ys:=[[.v (.int .i64 l),.v (.int .i64 b1),.v (.int .u64 (T1:Nat)),.v (.int .i64 b2),.v (.int .u64 (T2:Nat)),.snap 5 ((Z++[(⟨pr,ad,po,m0.ou,now⟩:Mp)]).map Mp.enc) false]]) rfl rfl ⟨⟨rfl,rfl,rfl,rfl,rfl,Or.inl ⟨rfl,rfl,by simp,by rw [qd (by simp)]⟩,rfl⟩,rfl⟩) ?_
  all_goals with_reducible refine wz (by (try first|refine auR ?_|exact z_);(repeat' (first|exact trivial|exact rfl|exact zj (fun x=>by simp [nfL,nfD,nfD,nfL,nf1])|decide|apply And.intro))) ?_
  all_goals (try first|refine auR ?_|exact z_)
  all_goals (try simp only [hsM] at *)
end
end Go.Proofs.YtmibknbmhcnemaaDoor.A
