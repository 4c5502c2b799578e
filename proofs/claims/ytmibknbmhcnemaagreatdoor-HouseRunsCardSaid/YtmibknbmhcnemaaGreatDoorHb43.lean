import Derived.Test.YtmibknbmhcnemaaGreatDoorHb41
set_option linter.unusedVariables false
set_option linter.unusedSimpArgs false
namespace Go.Proofs.YtmibknbmhcnemaaGreatDoor.A
attribute [local irreducible] zF Go
set_option maxRecDepth 100000
section
variable (l b1:Int) (t1:Nat) (b2:Int) (t2:Nat) (ms:List Mp) (ad po now:Int) (hl:ms.length*40≤140737488351232) (h10:t1<18446744073709551616) (h20:t2<18446744073709551616)
include hl h10 h20
set_option maxHeartbeats 8000000 in
theorem dJ (he:zI l b1 t1 b2 t2 ms=0) (ha:((0≤po∧po≤65535)∧zJ ms≤now∧now≤1099511627776)) (ho:ut 6 ad po (yng l now ms) (-1) = -1) (k1:inR b1 17 (zu 6 ad po (yng l now ms))) (k2:inR b2 6 (zu 6 ad po (yng l now ms))) (k3:((zu 6 ad po (yng l now ms)).map yq).Nodup) {B:Int} {T:Nat} {p e:Int} (h9:zd Tryz.prog 137 [.agg [.v (.int .i64 b2),.v (.int .u64 (bs b2 6 (zu 6 ad po (yng l now ms)):Nat))],.v (.int .i64 po)] (tz B T p e)) (hne:¬e=0) :
  zd Tryz.prog 86 [dNt l b1 t1 b2 t2 ms,.v (.int .i64 6),.v (.int .u32 ad),.v (.int .i64 po),.v (.int .i64 now)] (rb l b1 t1 b2 t2 ms 0 e):=by
 have hml:ms.length≤maxLen:=by unfold maxLen;omega
 have h2:=yu l b1 t1 b2 t2 ms hml h10 h20
 rw [he] at h2
 obtain ⟨hlf,hb,hg,-,-⟩:=xP h10 h20 he
 have hbr1:=(yj hb.1).1
 have hbr2:=(yj hb.2).1
 have hlen:(ms.map Mp.enc).length=ms.length:=List.length_map _
 have h3:=z6 po 0 65535
 have h4:=z6 now (zJ ms) 1099511627776
 rw [decide_eq_true ha.1] at h3
 rw [decide_eq_true ha.2] at h4
 obtain ⟨hpo,hn1,hn2⟩:=ha
 have hl0:0≤zJ ms:=by
  unfold zJ
  split
  ·rename_i m hm
   exact (hg.tm m (List.mem_of_getElem? hm)).1
  ·exact Int.le_refl _
 have hyl:(yng l now ms).length≤ms.length:=List.length_filter_le _ _
 unfold tz at h9
 refine z4 {} 0 Tryz.func86 fun Γ hW=>auC ?_
 repeat' first|refine auS ?_|(first|(with_reducible refine z0 h2 ?_))|refine auD ?_|(refine auW ?_ ?_<;>intro h<;>try exact auH)|fail
 all_goals try exact auP
 all_goals first
  |(exfalso;simp at h;done)
  |skip
 refine ze (α:=Nat×Nat) (fun p=>[(⟨.d0,.d5,.d0⟩,.v (.int .i64 (p.1:Nat))),(⟨.d0,.d1,.d6⟩,.v (.int .i64 (uL ms p.1)))]) (fun p=>[(2,none)]) (fun p=>p.2) (fun p=>ms.length-p.1) (fun p=>p.1≤ms.length) (0,Γ.g0+2) (Nat.zero_le _) ?_ ?_
 ·skip
  refine zb ?_ ?_ (Nat.le_refl _)
  all_goals first|refine auE ?_|exact zi
  all_goals repeat' first|exact trivial|exact rfl|apply And.intro
 rintro ⟨k,gn⟩ hk
 dsimp only at hk ⊢
 refine auL ?_
 by_cases hlt:k<ms.length
 ·obtain ⟨m,hm⟩:∃m,ms[k]?=some m:=⟨_,List.getElem?_eq_getElem hlt⟩
  have ex:=y7 hm
  have hwk:IntKind.i64.wrap ((k:Int)+1)=((k+1:Nat):Int):=(IntWalk.i64_in _ (by omega)).trans (by omega)
  have hlk:=xm hm
  repeat' first|refine auS ?_|(simp only [hwk])|refine auD ?_|(refine auW ?_ ?_<;>intro h<;>try exact auH)|(first|(simp only [Int.toNat_natCast,ex])|fail)
  all_goals try exact auP
  refine za ⟨(k+1,gn+1),hlt,Nat.sub_lt_sub_left hlt (Nat.lt_succ_self k),?_⟩
  dsimp only
  rw [hlk]
  refine zb ?_ ?_ (Nat.le_refl _)
  all_goals first|refine auE ?_|exact zi
  all_goals repeat' first|exact trivial|exact rfl|apply And.intro
 obtain rfl:k=ms.length:=by omega
 rw [xT]
 clear hk
 repeat' first|refine auS ?_|(first|(with_reducible refine z0 h3 ?_)|(with_reducible refine z0 h4 ?_))|refine auD ?_|(refine auW ?_ ?_<;>intro h<;>try exact auH)|fail
 all_goals try exact auP
 all_goals first
  |(exfalso;simp at h;done)
  |skip
 refine sd (yW ⟨.d0,.d2,.d1⟩ 5 5 rfl rfl) ?_
 refine auL ?_
 refine ze (α:=Nat×Nat×Nat) (fun p=>[(⟨.d0,.d7,.d4⟩,.v (.int .i64 (p.1:Nat))),(⟨.d0,.d2,.d1⟩,.sl 5 p.2.1 5 0 (zu 6 ad po (yng l now (ms.take p.1))).length false),(⟨.d0,.d2,.d2⟩,.v (.int .i64 (ut 6 ad po (yng l now (ms.take p.1)) (-1))))]) (fun p=>[(3,none),(4,none),(5,some ⟨p.2.1,5,(zu 6 ad po (yng l now (ms.take p.1))).map Mp.enc⟩)]) (fun p=>p.2.2) (fun p=>ms.length-p.1) (fun p=>p.1≤ms.length) (0,gn,gn+1) (Nat.zero_le _) ?_ ?_
 ·skip
  refine zb ?_ ?_ (Nat.le_refl _)
  all_goals first|refine auE ?_|exact zi
  all_goals repeat' first|exact trivial|exact rfl|apply And.intro
 rintro ⟨k,nm,gn⟩ hk
 dsimp only at hk ⊢
 refine auL ?_
 by_cases hlt:k<ms.length
 ·obtain ⟨m,hm⟩:∃m,ms[k]?=some m:=⟨_,List.getElem?_eq_getElem hlt⟩
  have ex:=y7 hm
  have htm:=hg.tm m (List.mem_of_getElem? hm)
  have hwk:IntKind.i64.wrap ((k:Int)+1)=((k+1:Nat):Int):=(IntWalk.i64_in _ (by omega)).trans (by omega)
  have hws:IntKind.i64.wrap (now-m.tm)=now-m.tm:=IntWalk.i64_in _ (by omega)
  by_cases hy:now≤m.tm+l
  ·have hyk:=qg hm hy
   by_cases hp:m.pr=6∧m.ad=ad∧m.po=po
   ·have e1:=qb hp (yng l now (ms.take k))
    have e2:=xh 6 ad po (yng l now (ms.take k)) m (-1)
    rw [show isP 6 ad po m=true from decide_eq_true hp,if_pos rfl] at e2
    rw [←hyk] at e1 e2
    obtain ⟨p1,p2,p3⟩:=hp
    repeat' first|refine auS ?_|(simp only [hwk,hws])|refine auD ?_|(refine auW ?_ ?_<;>intro h<;>try exact auH)|(first|(simp only [Int.toNat_natCast,ex])|fail)
    all_goals try exact auP
    all_goals first
     |(exfalso;simp_all;done)
     |skip
    all_goals (refine za ⟨(k+1,nm,gn+1),hlt,Nat.sub_lt_sub_left hlt (Nat.lt_succ_self k),?_⟩;dsimp only;rw [e1,e2];(refine zb ?_ ?_ (Nat.le_refl _));(all_goals first|refine auE ?_|exact zi);(all_goals (repeat' (first|exact trivial|exact rfl|apply And.intro))))
   ·have e1:=oz hp (yng l now (ms.take k))
    have e2:=xh 6 ad po (yng l now (ms.take k)) m (-1)
    rw [show isP 6 ad po m=false from decide_eq_false hp,if_neg (by decide)] at e2
    rw [←hyk] at e1 e2
    have hbl:(zu 6 ad po (yng l now (ms.take k))).length≤k:=Nat.le_trans (List.length_filter_le _ _) (Nat.le_trans (List.length_filter_le _ _) (by rw [List.length_take];omega))
    have hxs:((zu 6 ad po (yng l now (ms.take k))).map Mp.enc).length=(zu 6 ad po (yng l now (ms.take k))).length:=List.length_map _
    have e3:(zu 6 ad po (yng l now (ms.take (k+1)))).map Mp.enc=(zu 6 ad po (yng l now (ms.take k))).map Mp.enc++[[.v (.int .i64 m.pr),.v (.int .u32 m.ad),.v (.int .i64 m.po),.v (.int .i64 m.ou),.v (.int .i64 m.tm)]]:=by rw [e1,List.map_append];rfl
    have e4:(zu 6 ad po (yng l now (ms.take (k+1)))).length=((zu 6 ad po (yng l now (ms.take k))).map Mp.enc).length+1:=by rw [e1,hxs];simp
    repeat' first|refine auS ?_|(simp only [hwk,hws])|refine auD ?_|(refine auW ?_ ?_<;>intro h<;>try exact auH)|(first|(simp only [Int.toNat_natCast,ex])|(refine z7 ⟨by trivial,by unfold zZ maxLen;rw [hxs];simp;omega⟩ ?_)|fail)
    all_goals try exact auP
    all_goals first
     |(exfalso;simp_all;done)
     |skip
    all_goals (refine za ⟨(k+1,gn+2,gn+3),hlt,Nat.sub_lt_sub_left hlt (Nat.lt_succ_self k),?_⟩;dsimp only;rw [e2,e3,e4];(refine zb ?_ ?_ (Nat.le_refl _));(all_goals first|refine auE ?_|exact zi);(all_goals (repeat' (first|exact trivial|exact rfl|apply And.intro))))
  ·have hyk:=o5 hm hy
   repeat' first|refine auS ?_|(simp only [hwk,hws])|refine auD ?_|(refine auW ?_ ?_<;>intro h<;>try exact auH)|(first|(simp only [Int.toNat_natCast,ex])|fail)
   all_goals try exact auP
   all_goals first
    |(exfalso;simp_all;done)
    |skip
   refine za ⟨(k+1,nm,gn+1),hlt,Nat.sub_lt_sub_left hlt (Nat.lt_succ_self k),?_⟩
   dsimp only
   rw [hyk]
   refine zb ?_ ?_ (Nat.le_refl _)
   all_goals first|refine auE ?_|exact zi
   all_goals repeat' first|exact trivial|exact rfl|apply And.intro
 obtain rfl:k=ms.length:=by omega
 rw [List.take_length]
 have hZl:(zu 6 ad po (yng l now ms)).length≤ms.length:=Nat.le_trans (List.length_filter_le _ _) (List.length_filter_le _ _)
 rw [ho]
 generalize zu 6 ad po (yng l now ms)=Z at *
 clear hg
 generalize yng l now ms=Y at *
 have h7:=yK b1 t1 17 Z false (by unfold maxLen;omega) hbr1 k1 k3
 have h8:=yK b2 t2 6 Z false (by unfold maxLen;omega) hbr2 k2 k3
 have nf1:=fun g=>wi g ms
 repeat' first|refine auS ?_|(first|(refine zD 5 rfl h7 ⟨⟨rfl,rfl,rfl⟩,.inl ⟨rfl,rfl,by simp,by rw [yN (by simp)]⟩,rfl,rfl⟩ rfl ?_)|(refine zD 5 rfl h8 ⟨⟨rfl,rfl,rfl⟩,.inl ⟨rfl,rfl,by simp,by rw [yN (by simp)]⟩,rfl,rfl⟩ rfl ?_)|(with_reducible refine z0 h9 ?_))|refine auD ?_|(refine auW ?_ ?_<;>intro h<;>try exact auH)|fail
 all_goals try exact auP
 all_goals first
  |(exfalso;simp at h;done)
  |skip
 all_goals with_reducible refine yd (by (try first|refine auR ?_|exact z8);(repeat' (first|exact trivial|exact rfl|exact zn (fun x=>by simp [nfL,nfD,nfD,nfL,nf1])|decide|apply And.intro))) ?_
 all_goals (try first|refine auR ?_|exact z8)
 all_goals (try simp only [hsM] at *)
 all_goals rfl
set_option maxHeartbeats 8000000 in
theorem er (he:zI l b1 t1 b2 t2 ms=0) (ha:((0≤po∧po≤65535)∧zJ ms≤now∧now≤1099511627776)) (ho:ut 6 ad po (yng l now ms) (-1) = -1) (k1:inR b1 17 (zu 6 ad po (yng l now ms))) (k2:inR b2 6 (zu 6 ad po (yng l now ms))) (k3:((zu 6 ad po (yng l now ms)).map yq).Nodup) {B:Int} {T:Nat} {p e:Int} (h9:zd Tryz.prog 137 [.agg [.v (.int .i64 b2),.v (.int .u64 (bs b2 6 (zu 6 ad po (yng l now ms)):Nat))],.v (.int .i64 po)] (tz B T p e)) (hne:e=0) (hr1:inR b1 17 (zu 6 ad po (yng l now ms)++[⟨6,ad,po,p,now⟩])) (hr2:inR b2 6 (zu 6 ad po (yng l now ms)++[⟨6,ad,po,p,now⟩])) (hnd:((zu 6 ad po (yng l now ms)++[(⟨6,ad,po,p,now⟩:Mp)]).map yq).Nodup) :
  zd Tryz.prog 86 [dNt l b1 t1 b2 t2 ms,.v (.int .i64 6),.v (.int .u32 ad),.v (.int .i64 po),.v (.int .i64 now)] (rb l b1 (bs b1 17 (zu 6 ad po (yng l now ms)++[⟨6,ad,po,p,now⟩])) b2 (bs b2 6 (zu 6 ad po (yng l now ms)++[⟨6,ad,po,p,now⟩])) (zu 6 ad po (yng l now ms)++[⟨6,ad,po,p,now⟩]) p 0):=by
 have hml:ms.length≤maxLen:=by unfold maxLen;omega
 have h2:=yu l b1 t1 b2 t2 ms hml h10 h20
 rw [he] at h2
 obtain ⟨hlf,hb,hg,-,-⟩:=xP h10 h20 he
 have hbr1:=(yj hb.1).1
 have hbr2:=(yj hb.2).1
 have hlen:(ms.map Mp.enc).length=ms.length:=List.length_map _
 have h3:=z6 po 0 65535
 have h4:=z6 now (zJ ms) 1099511627776
 rw [decide_eq_true ha.1] at h3
 rw [decide_eq_true ha.2] at h4
 obtain ⟨hpo,hn1,hn2⟩:=ha
 have hl0:0≤zJ ms:=by
  unfold zJ
  split
  ·rename_i m hm
   exact (hg.tm m (List.mem_of_getElem? hm)).1
  ·exact Int.le_refl _
 have hyl:(yng l now ms).length≤ms.length:=List.length_filter_le _ _
 unfold tz at h9
 refine z4 {} 0 Tryz.func86 fun Γ hW=>auC ?_
 repeat' first|refine auS ?_|(first|(with_reducible refine z0 h2 ?_))|refine auD ?_|(refine auW ?_ ?_<;>intro h<;>try exact auH)|fail
 all_goals try exact auP
 all_goals first
  |(exfalso;simp at h;done)
  |skip
 refine ze (α:=Nat×Nat) (fun p=>[(⟨.d0,.d5,.d0⟩,.v (.int .i64 (p.1:Nat))),(⟨.d0,.d1,.d6⟩,.v (.int .i64 (uL ms p.1)))]) (fun p=>[(2,none)]) (fun p=>p.2) (fun p=>ms.length-p.1) (fun p=>p.1≤ms.length) (0,Γ.g0+2) (Nat.zero_le _) ?_ ?_
 ·skip
  refine zb ?_ ?_ (Nat.le_refl _)
  all_goals first|refine auE ?_|exact zi
  all_goals repeat' first|exact trivial|exact rfl|apply And.intro
 rintro ⟨k,gn⟩ hk
 dsimp only at hk ⊢
 refine auL ?_
 by_cases hlt:k<ms.length
 ·obtain ⟨m,hm⟩:∃m,ms[k]?=some m:=⟨_,List.getElem?_eq_getElem hlt⟩
  have ex:=y7 hm
  have hwk:IntKind.i64.wrap ((k:Int)+1)=((k+1:Nat):Int):=(IntWalk.i64_in _ (by omega)).trans (by omega)
  have hlk:=xm hm
  repeat' first|refine auS ?_|(simp only [hwk])|refine auD ?_|(refine auW ?_ ?_<;>intro h<;>try exact auH)|(first|(simp only [Int.toNat_natCast,ex])|fail)
  all_goals try exact auP
  refine za ⟨(k+1,gn+1),hlt,Nat.sub_lt_sub_left hlt (Nat.lt_succ_self k),?_⟩
  dsimp only
  rw [hlk]
  refine zb ?_ ?_ (Nat.le_refl _)
  all_goals first|refine auE ?_|exact zi
  all_goals repeat' first|exact trivial|exact rfl|apply And.intro
 obtain rfl:k=ms.length:=by omega
 rw [xT]
 clear hk
 repeat' first|refine auS ?_|(first|(with_reducible refine z0 h3 ?_)|(with_reducible refine z0 h4 ?_))|refine auD ?_|(refine auW ?_ ?_<;>intro h<;>try exact auH)|fail
 all_goals try exact auP
 all_goals first
  |(exfalso;simp at h;done)
  |skip
 refine sd (yW ⟨.d0,.d2,.d1⟩ 5 5 rfl rfl) ?_
 refine auL ?_
 refine ze (α:=Nat×Nat×Nat) (fun p=>[(⟨.d0,.d7,.d4⟩,.v (.int .i64 (p.1:Nat))),(⟨.d0,.d2,.d1⟩,.sl 5 p.2.1 5 0 (zu 6 ad po (yng l now (ms.take p.1))).length false),(⟨.d0,.d2,.d2⟩,.v (.int .i64 (ut 6 ad po (yng l now (ms.take p.1)) (-1))))]) (fun p=>[(3,none),(4,none),(5,some ⟨p.2.1,5,(zu 6 ad po (yng l now (ms.take p.1))).map Mp.enc⟩)]) (fun p=>p.2.2) (fun p=>ms.length-p.1) (fun p=>p.1≤ms.length) (0,gn,gn+1) (Nat.zero_le _) ?_ ?_
 ·skip
  refine zb ?_ ?_ (Nat.le_refl _)
  all_goals first|refine auE ?_|exact zi
  all_goals repeat' first|exact trivial|exact rfl|apply And.intro
 rintro ⟨k,nm,gn⟩ hk
 dsimp only at hk ⊢
 refine auL ?_
 by_cases hlt:k<ms.length
 ·obtain ⟨m,hm⟩:∃m,ms[k]?=some m:=⟨_,List.getElem?_eq_getElem hlt⟩
  have ex:=y7 hm
  have htm:=hg.tm m (List.mem_of_getElem? hm)
  have hwk:IntKind.i64.wrap ((k:Int)+1)=((k+1:Nat):Int):=(IntWalk.i64_in _ (by omega)).trans (by omega)
  have hws:IntKind.i64.wrap (now-m.tm)=now-m.tm:=IntWalk.i64_in _ (by omega)
  by_cases hy:now≤m.tm+l
  ·have hyk:=qg hm hy
   by_cases hp:m.pr=6∧m.ad=ad∧m.po=po
   ·have e1:=qb hp (yng l now (ms.take k))
    have e2:=xh 6 ad po (yng l now (ms.take k)) m (-1)
    rw [show isP 6 ad po m=true from decide_eq_true hp,if_pos rfl] at e2
    rw [←hyk] at e1 e2
    obtain ⟨p1,p2,p3⟩:=hp
    repeat' first|refine auS ?_|(simp only [hwk,hws])|refine auD ?_|(refine auW ?_ ?_<;>intro h<;>try exact auH)|(first|(simp only [Int.toNat_natCast,ex])|fail)
    all_goals try exact auP
    all_goals first
     |(exfalso;simp_all;done)
     |skip
    all_goals (refine za ⟨(k+1,nm,gn+1),hlt,Nat.sub_lt_sub_left hlt (Nat.lt_succ_self k),?_⟩;dsimp only;rw [e1,e2];(refine zb ?_ ?_ (Nat.le_refl _));(all_goals first|refine auE ?_|exact zi);(all_goals (repeat' (first|exact trivial|exact rfl|apply And.intro))))
   ·have e1:=oz hp (yng l now (ms.take k))
    have e2:=xh 6 ad po (yng l now (ms.take k)) m (-1)
    rw [show isP 6 ad po m=false from decide_eq_false hp,if_neg (by decide)] at e2
    rw [←hyk] at e1 e2
    have hbl:(zu 6 ad po (yng l now (ms.take k))).length≤k:=Nat.le_trans (List.length_filter_le _ _) (Nat.le_trans (List.length_filter_le _ _) (by rw [List.length_take];omega))
    have hxs:((zu 6 ad po (yng l now (ms.take k))).map Mp.enc).length=(zu 6 ad po (yng l now (ms.take k))).length:=List.length_map _
    have e3:(zu 6 ad po (yng l now (ms.take (k+1)))).map Mp.enc=(zu 6 ad po (yng l now (ms.take k))).map Mp.enc++[[.v (.int .i64 m.pr),.v (.int .u32 m.ad),.v (.int .i64 m.po),.v (.int .i64 m.ou),.v (.int .i64 m.tm)]]:=by rw [e1,List.map_append];rfl
    have e4:(zu 6 ad po (yng l now (ms.take (k+1)))).length=((zu 6 ad po (yng l now (ms.take k))).map Mp.enc).length+1:=by rw [e1,hxs];simp
    repeat' first|refine auS ?_|(simp only [hwk,hws])|refine auD ?_|(refine auW ?_ ?_<;>intro h<;>try exact auH)|(first|(simp only [Int.toNat_natCast,ex])|(refine z7 ⟨by trivial,by unfold zZ maxLen;rw [hxs];simp;omega⟩ ?_)|fail)
    all_goals try exact auP
    all_goals first
     |(exfalso;simp_all;done)
     |skip
    all_goals (refine za ⟨(k+1,gn+2,gn+3),hlt,Nat.sub_lt_sub_left hlt (Nat.lt_succ_self k),?_⟩;dsimp only;rw [e2,e3,e4];(refine zb ?_ ?_ (Nat.le_refl _));(all_goals first|refine auE ?_|exact zi);(all_goals (repeat' (first|exact trivial|exact rfl|apply And.intro))))
  ·have hyk:=o5 hm hy
   repeat' first|refine auS ?_|(simp only [hwk,hws])|refine auD ?_|(refine auW ?_ ?_<;>intro h<;>try exact auH)|(first|(simp only [Int.toNat_natCast,ex])|fail)
   all_goals try exact auP
   all_goals first
    |(exfalso;simp_all;done)
    |skip
   refine za ⟨(k+1,nm,gn+1),hlt,Nat.sub_lt_sub_left hlt (Nat.lt_succ_self k),?_⟩
   dsimp only
   rw [hyk]
   refine zb ?_ ?_ (Nat.le_refl _)
   all_goals first|refine auE ?_|exact zi
   all_goals repeat' first|exact trivial|exact rfl|apply And.intro
 obtain rfl:k=ms.length:=by omega
 rw [List.take_length]
 have hZl:(zu 6 ad po (yng l now ms)).length≤ms.length:=Nat.le_trans (List.length_filter_le _ _) (List.length_filter_le _ _)
 rw [ho]
 generalize zu 6 ad po (yng l now ms)=Z at *
 clear hg
 generalize yng l now ms=Y at *
 have h7:=yK b1 t1 17 Z false (by unfold maxLen;omega) hbr1 k1 k3
 have h8:=yK b2 t2 6 Z false (by unfold maxLen;omega) hbr2 k2 k3
 subst hne
 have hxs:(Z.map Mp.enc).length=Z.length:=List.length_map _
 have hcat:Z.map Mp.enc++[[.v (.int .i64 6),.v (.int .u32 ad),.v (.int .i64 po),.v (.int .i64 p),.v (.int .i64 now)]]=(Z++[(⟨6,ad,po,p,now⟩:Mp)]).map Mp.enc:=by rw [List.map_append];rfl
 have h5:=yK b1 t1 17 (Z++[(⟨6,ad,po,p,now⟩:Mp)]) false (by unfold maxLen;simp;omega) hbr1 hr1 hnd
 have h6:=yK b2 t2 6 (Z++[(⟨6,ad,po,p,now⟩:Mp)]) false (by unfold maxLen;simp;omega) hbr2 hr2 hnd
 have nf1:=fun g=>wi g (Z++[(⟨6,ad,po,p,now⟩:Mp)])
 repeat' first|refine auS ?_|(first|(refine zD 9 rfl h5 ⟨⟨rfl,rfl,rfl⟩,.inl ⟨rfl,rfl,by simp,by rw [yN (by simp)];exact congrArg (fun q=>DV.snap 5 q false) hcat.symm⟩,rfl,rfl⟩ rfl ?_)|(refine zD 9 rfl h6 ⟨⟨rfl,rfl,rfl⟩,.inl ⟨rfl,rfl,by simp,by rw [yN (by simp)];exact congrArg (fun q=>DV.snap 5 q false) hcat.symm⟩,rfl,rfl⟩ rfl ?_)|(refine zD 5 rfl h7 ⟨⟨rfl,rfl,rfl⟩,.inl ⟨rfl,rfl,by simp,by rw [yN (by simp)]⟩,rfl,rfl⟩ rfl ?_)|(refine zD 5 rfl h8 ⟨⟨rfl,rfl,rfl⟩,.inl ⟨rfl,rfl,by simp,by rw [yN (by simp)]⟩,rfl,rfl⟩ rfl ?_)|(with_reducible refine z0 h9 ?_))|refine auD ?_|(refine auW ?_ ?_<;>intro h<;>try exact auH)|(first|(refine z7 ⟨by trivial,by unfold zZ maxLen;rw [hxs];simp;omega⟩ ?_)|fail)
 all_goals try exact auP
 all_goals first
  |(exfalso;simp at h;done)
  |skip
 rw [hcat]
 refine zt (yS hW 1 9 (by decide) (ys:=[[.v (.int .i64 l),.v (.int .i64 b1),.v (.int .u64 (bs b1 17 (Z++[(⟨6,ad,po,p,now⟩:Mp)]):Nat)),.v (.int .i64 b2),.v (.int .u64 (bs b2 6 (Z++[(⟨6,ad,po,p,now⟩:Mp)]):Nat)),.snap 5 ((Z++[(⟨6,ad,po,p,now⟩:Mp)]).map Mp.enc) false]]) rfl rfl ⟨⟨rfl,rfl,rfl,rfl,rfl,Or.inl ⟨rfl,rfl,by simp,by rw [yN (by simp)]⟩,rfl⟩,rfl⟩) ?_
 all_goals with_reducible refine yd (by (try first|refine auR ?_|exact z8);(repeat' (first|exact trivial|exact rfl|exact zn (fun x=>by simp [nfL,nfD,nfD,nfL,nf1])|decide|apply And.intro))) ?_
 all_goals (try first|refine auR ?_|exact z8)
 all_goals (try simp only [hsM] at *)
 all_goals rfl
end
end Go.Proofs.YtmibknbmhcnemaaGreatDoor.A
