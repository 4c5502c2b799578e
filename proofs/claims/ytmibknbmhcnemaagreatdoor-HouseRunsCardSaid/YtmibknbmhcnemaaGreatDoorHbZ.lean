import Derived.Test.YtmibknbmhcnemaaGreatDoorHb47
import Derived.Test.YtmibknbmhcnemaaGreatDoorHb48
set_option linter.unusedVariables false
set_option linter.unusedSimpArgs false
namespace Go.Proofs.YtmibknbmhcnemaaGreatDoor
attribute [local irreducible] zF Go
set_option maxRecDepth 100000
theorem VE (g:Nat) (l:List Wn):xb g (l.map Wn.enc):=zn (fun x=>by simp [Wn.enc,nfL,nfD])
def az (u:Hs) (l:List Cm):Hs×List Wn×Int:=if 300<l.length then (hs0,[],2) else ((uc u l).1,(uc u l).2,0)
set_option maxHeartbeats 8000000 in
theorem YR (u:Hs) (hw:u.wf) (l:List Cm) (hl:l.length≤maxLen) (hs:∀x∈l,x.s.length≤140737488351232):zd Tryz.prog 19 [dH u,.snap 3 (l.map Cm.enc) false] (.tup [dH (az u l).1,.snap 3 ((az u l).2.1.map Wn.enc) false,.v (.int .i64 (az u l).2.2)]):=by
 unfold maxLen at hl
 unfold az
 have hown:=gH u hw
 by_cases h3:300<l.length
 ·rw [if_pos h3]
  refine yn (D:=.tup [.agg [.v (.int .u32 0),.v (.int .i64 0),.v (.int .i64 0),.v (.int .i64 0),.v (.int .i64 0),.v (.int .i64 0),.v (.slice none 0 0),.v (.bool false),.v (.slice none 0 0),.v (.slice none 0 0),.v (.int .i64 0),.v (.int .i64 0),.v (.int .u64 0),.v (.int .i64 0),.v (.int .u64 0),.v (.slice none 0 0)],.v (.slice none 0 0),.v (.int .i64 2)]) ?_ ⟨⟨.inl rfl,.inl rfl,.inl rfl,.inl rfl,.inl rfl,.inl rfl,.inr ⟨rfl,_,rfl⟩,.inl rfl,.inr ⟨rfl,_,rfl⟩,.inr ⟨rfl,_,rfl⟩,.inl rfl,.inl rfl,.inl rfl,.inl rfl,.inl rfl,.inr ⟨rfl,_,rfl⟩,rfl⟩,.inr ⟨rfl,_,rfl⟩,.inl rfl,rfl⟩
  refine z4 {} 0 Tryz.func19 fun Γ hW=>auC ?_
  repeat' first|refine auS ?_|fail|refine auD ?_|(refine auW ?_ ?_<;>intro h<;>try exact auH)|(simp only [List.length_map])
  all_goals try exact auP
  all_goals refine auV ?_
  all_goals try exact z8
  all_goals try simp only [hsM] at *
 rw [if_neg h3]
 refine z4 {} 0 Tryz.func19 fun Γ hW=>auC ?_
 repeat' first|((with_reducible refine atR ⟨.d0,.d0,.d7⟩ ?_);(refine zN (yS hW 0 10 (by decide) (o:=⟨Γ.g0+2,5,u.ms.map Mt.enc⟩) (ys:=[u.row (msD u.ms)]) rfl rfl (iA u u.ms 1 _)) ?_))|refine auS ?_|((with_reducible refine zX 31 ?_);(refine yB [] [10] [10] rfl (by decide) rfl rfl hown ?_))|refine auD ?_|(refine auW ?_ ?_<;>intro h<;>try exact auH)|fail
 all_goals try exact auP
 refine zN (yI (yW ⟨.d0,.d0,.d7⟩ 5 3 rfl rfl)) ?_
 refine ze (α:=Nat×Nat×Nat) (fun x=>[(⟨.d0,.d2,.d3⟩,.v (.int .i64 (x.1:Nat))),(⟨.d0,.d0,.d7⟩,.sl 5 x.2.1 3 0 (uc u (l.take x.1)).2.length false)]) (fun x=>[(0,some ⟨Γ.g0,16,[(uc u (l.take x.1)).1.row (msD (uc u (l.take x.1)).1.ms)]⟩),(2,none),(3,none),(4,none),(5,some ⟨x.2.1,3,(uc u (l.take x.1)).2.map Wn.enc⟩)]) (fun x=>x.2.2) (fun x=>l.length-x.1) (fun x=>x.1≤l.length) (0,Γ.g0+3,Γ.g0+4) (Nat.zero_le _) ?_ ?_
 ·skip
  refine zb ?_ ?_ (Nat.le_refl _)
  all_goals first|refine auE ?_|exact zi
  all_goals repeat' first|exact trivial|exact rfl|apply And.intro
 rintro ⟨k,nm,g⟩ hk
 dsimp only at hk ⊢
 refine auL ?_
 by_cases hlt:k<l.length
 ·obtain ⟨⟨ci,cs,ct⟩,ht⟩:∃t,l[k]?=some t:=⟨_,List.getElem?_eq_getElem hlt⟩
  have ex:ym (l.map Cm.enc) k=(⟨ci,cs,ct⟩:Cm).enc:=zT Cm.enc l k _ ht
  have hcs:=hs _ (List.mem_of_getElem? ht)
  have hst:=kV (u:=u) ht
  obtain ⟨hv,hO⟩:=qZ hw (l.take k)
  rw [List.length_take,Nat.min_eq_left (by omega)] at hO
  generalize uc u (l.take k)=p at *
  obtain ⟨v,O⟩:=p
  dsimp only at hv hO hst hcs ⊢
  have hr:=o4 v hv ci cs hcs ct
  unfold ru at hst
  dsimp only at hst
  generalize uS v ci cs ct=G at *
  obtain ⟨v2,o2,y2,z2⟩:=G
  dsimp only at hr hst
  have e1:O.map Wn.enc++[(⟨o2,y2,z2⟩:Wn).enc]=(O++[(⟨o2,y2,z2⟩:Wn)]).map Wn.enc:=by rw [List.map_append];rfl
  have e2:(O.map Wn.enc).length+1=(O++[(⟨o2,y2,z2⟩:Wn)]).length:=by simp
  repeat' first|refine auS ?_|(with_reducible refine z0 hr ?_)|refine auD ?_|(refine auW ?_ ?_<;>intro h<;>try exact auH)|(simp only [Int.toNat_natCast,ex])
  all_goals try exact auP
  all_goals try (exfalso;simp_all;done)
  rw [e1,e2]
  refine za ⟨(k+1,g+3,g+4),hlt,Nat.sub_lt_sub_left hlt (Nat.lt_succ_self k),?_⟩
  dsimp only
  rw [hst]
  refine zb ?_ ?_ (Nat.le_refl _)
  all_goals first|refine auE ?_|exact zi
  all_goals repeat' first|exact trivial|exact rfl|apply And.intro
  all_goals first
   |exact zB ((IntWalk.i64_in _ (by omega)).trans (by omega))
   |rfl
 ·obtain rfl:k=l.length:=by omega
  simp only [List.take_length]
  obtain ⟨hv,hO⟩:=qZ hw l
  generalize uc u l=p at *
  obtain ⟨v,O⟩:=p
  dsimp only at hv hO ⊢
  have hnf:=fun g=>VE g O
  have hnf2:=fun g=>qQ g v
  repeat' first|refine auS ?_|fail|refine auD ?_|(refine auW ?_ ?_<;>intro h<;>try exact auH)|fail
  all_goals try exact auP
  refine zt (zk hW ⟨.d0,.d0,.d5⟩ rfl rfl ⟨rfl,rfl,by simp⟩) ?_
  rw [yN (by simp)]
  all_goals refine auV ?_
  all_goals try exact z8
  all_goals try simp only [hsM] at *
  all_goals rfl
end Go.Proofs.YtmibknbmhcnemaaGreatDoor
namespace Go.Proofs.YtmibknbmhcnemaaGreatDoor
attribute [local irreducible] zF Go
set_option maxRecDepth 100000
set_option maxHeartbeats 1000000 in
theorem ah (l:List Mt) (c c':Bool) (hl:l.length≤maxLen):zd Tryz.prog 38 [.snap 5 (l.map Mt.enc) c,.snap 5 (l.map Mt.enc) c'] (.v (.bool true)):=by
 unfold maxLen at hl
 refine z4 {} 0 Tryz.func38 fun Γ hW=>auC ?_
 repeat' first|refine auS ?_|fail|refine auD ?_|(refine auW ?_ ?_<;>intro h<;>try exact auH)|fail
 refine ze (α:=Nat) (fun k=>[(⟨.d0,.d1,.d5⟩,.v (.int .i64 (k:Nat)))]) (fun _=>[]) (fun _=>Γ.g0) (fun k=>l.length-k) (fun k=>k≤l.length) 0 (Nat.zero_le _) ?_ ?_
 ·skip
  refine zb ?_ ?_ (Nat.le_refl _)
  all_goals first|refine auE ?_|exact zi
  all_goals repeat' first|exact trivial|exact rfl|apply And.intro
 ·rintro k hk
  refine auL ?_
  by_cases hlt:k<l.length
  ·obtain ⟨t,ht⟩:∃t,l[k]?=some t:=⟨_,List.getElem?_eq_getElem hlt⟩
   have ex:=zT Mt.enc l k t ht
   repeat' first|refine auS ?_|fail|refine auD ?_|(refine auW ?_ ?_<;>intro h<;>try exact auH)|(simp only [Int.toNat_natCast,ex])
   all_goals try exact auP
   all_goals first
    |(exfalso;simp at h;done)
    |(refine za ⟨k+1,Nat.succ_le_of_lt hlt,Nat.sub_lt_sub_left hlt (Nat.lt_succ_self k),?_⟩
      (refine zb ?_ ?_ (Nat.le_refl _));(all_goals first|refine auE ?_|exact zi);(all_goals (repeat' (first|exact trivial|exact rfl|apply And.intro)))
      all_goals exact zB ((IntWalk.i64_in _ (by omega)).trans (by omega)))
  ·skip
   repeat' first|refine auS ?_|fail|refine auD ?_|(refine auW ?_ ?_<;>intro h<;>try exact auH)|fail
   all_goals try exact auP
   all_goals refine auV ?_
   all_goals try exact z8
   all_goals try simp only [hsM] at *
set_option maxHeartbeats 1000000 in
theorem j6 (l:List T.Tk) (c c':Bool) (hl:l.length≤maxLen):zd Tryz.prog 39 [.snap 7 (l.map T.Tk.enc) c,.snap 7 (l.map T.Tk.enc) c'] (.v (.bool true)):=by
 unfold maxLen at hl
 refine z4 {} 0 Tryz.func39 fun Γ hW=>auC ?_
 repeat' first|refine auS ?_|fail|refine auD ?_|(refine auW ?_ ?_<;>intro h<;>try exact auH)|fail
 refine ze (α:=Nat) (fun k=>[(⟨.d0,.d1,.d5⟩,.v (.int .i64 (k:Nat)))]) (fun _=>[]) (fun _=>Γ.g0) (fun k=>l.length-k) (fun k=>k≤l.length) 0 (Nat.zero_le _) ?_ ?_
 ·skip
  refine zb ?_ ?_ (Nat.le_refl _)
  all_goals first|refine auE ?_|exact zi
  all_goals repeat' first|exact trivial|exact rfl|apply And.intro
 ·rintro k hk
  refine auL ?_
  by_cases hlt:k<l.length
  ·obtain ⟨t,ht⟩:∃t,l[k]?=some t:=⟨_,List.getElem?_eq_getElem hlt⟩
   have ex:=zT T.Tk.enc l k t ht
   repeat' first|refine auS ?_|fail|refine auD ?_|(refine auW ?_ ?_<;>intro h<;>try exact auH)|(simp only [Int.toNat_natCast,ex])
   all_goals try exact auP
   all_goals first
    |(exfalso;simp at h;done)
    |(refine za ⟨k+1,Nat.succ_le_of_lt hlt,Nat.sub_lt_sub_left hlt (Nat.lt_succ_self k),?_⟩
      (refine zb ?_ ?_ (Nat.le_refl _));(all_goals first|refine auE ?_|exact zi);(all_goals (repeat' (first|exact trivial|exact rfl|apply And.intro)))
      all_goals exact zB ((IntWalk.i64_in _ (by omega)).trans (by omega)))
  ·skip
   repeat' first|refine auS ?_|fail|refine auD ?_|(refine auW ?_ ?_<;>intro h<;>try exact auH)|fail
   all_goals try exact auP
   all_goals refine auV ?_
   all_goals try exact z8
   all_goals try simp only [hsM] at *
set_option maxHeartbeats 1000000 in
theorem bt (l:List R.Rl) (c c':Bool) (hl:l.length≤maxLen):zd Tryz.prog 68 [.snap 10 (l.map R.Rl.enc) c,.snap 10 (l.map R.Rl.enc) c'] (.v (.bool true)):=by
 unfold maxLen at hl
 refine z4 {} 0 Tryz.func68 fun Γ hW=>auC ?_
 repeat' first|refine auS ?_|fail|refine auD ?_|(refine auW ?_ ?_<;>intro h<;>try exact auH)|fail
 refine ze (α:=Nat) (fun k=>[(⟨.d0,.d1,.d5⟩,.v (.int .i64 (k:Nat)))]) (fun _=>[]) (fun _=>Γ.g0) (fun k=>l.length-k) (fun k=>k≤l.length) 0 (Nat.zero_le _) ?_ ?_
 ·skip
  refine zb ?_ ?_ (Nat.le_refl _)
  all_goals first|refine auE ?_|exact zi
  all_goals repeat' first|exact trivial|exact rfl|apply And.intro
 ·rintro k hk
  refine auL ?_
  by_cases hlt:k<l.length
  ·obtain ⟨t,ht⟩:∃t,l[k]?=some t:=⟨_,List.getElem?_eq_getElem hlt⟩
   have ex:=zT R.Rl.enc l k t ht
   repeat' first|refine auS ?_|fail|refine auD ?_|(refine auW ?_ ?_<;>intro h<;>try exact auH)|(simp only [Int.toNat_natCast,ex])
   all_goals try exact auP
   all_goals first
    |(exfalso;simp at h;done)
    |(refine za ⟨k+1,Nat.succ_le_of_lt hlt,Nat.sub_lt_sub_left hlt (Nat.lt_succ_self k),?_⟩
      (refine zb ?_ ?_ (Nat.le_refl _));(all_goals first|refine auE ?_|exact zi);(all_goals (repeat' (first|exact trivial|exact rfl|apply And.intro)))
      all_goals exact zB ((IntWalk.i64_in _ (by omega)).trans (by omega)))
  ·skip
   repeat' first|refine auS ?_|fail|refine auD ?_|(refine auW ?_ ?_<;>intro h<;>try exact auH)|fail
   all_goals try exact auP
   all_goals refine auV ?_
   all_goals try exact z8
   all_goals try simp only [hsM] at *
set_option maxHeartbeats 1000000 in
theorem aM (l:List A.Mp) (c c':Bool) (hl:l.length≤maxLen):zd Tryz.prog 69 [.snap 5 (l.map A.Mp.enc) c,.snap 5 (l.map A.Mp.enc) c'] (.v (.bool true)):=by
 unfold maxLen at hl
 refine z4 {} 0 Tryz.func69 fun Γ hW=>auC ?_
 repeat' first|refine auS ?_|fail|refine auD ?_|(refine auW ?_ ?_<;>intro h<;>try exact auH)|fail
 refine ze (α:=Nat) (fun k=>[(⟨.d0,.d1,.d5⟩,.v (.int .i64 (k:Nat)))]) (fun _=>[]) (fun _=>Γ.g0) (fun k=>l.length-k) (fun k=>k≤l.length) 0 (Nat.zero_le _) ?_ ?_
 ·skip
  refine zb ?_ ?_ (Nat.le_refl _)
  all_goals first|refine auE ?_|exact zi
  all_goals repeat' first|exact trivial|exact rfl|apply And.intro
 ·rintro k hk
  refine auL ?_
  by_cases hlt:k<l.length
  ·obtain ⟨t,ht⟩:∃t,l[k]?=some t:=⟨_,List.getElem?_eq_getElem hlt⟩
   have ex:=zT A.Mp.enc l k t ht
   repeat' first|refine auS ?_|fail|refine auD ?_|(refine auW ?_ ?_<;>intro h<;>try exact auH)|(simp only [Int.toNat_natCast,ex])
   all_goals try exact auP
   all_goals first
    |(exfalso;simp at h;done)
    |(refine za ⟨k+1,Nat.succ_le_of_lt hlt,Nat.sub_lt_sub_left hlt (Nat.lt_succ_self k),?_⟩
      (refine zb ?_ ?_ (Nat.le_refl _));(all_goals first|refine auE ?_|exact zi);(all_goals (repeat' (first|exact trivial|exact rfl|apply And.intro)))
      all_goals exact zB ((IntWalk.i64_in _ (by omega)).trans (by omega)))
  ·skip
   repeat' first|refine auS ?_|fail|refine auD ?_|(refine auW ?_ ?_<;>intro h<;>try exact auH)|fail
   all_goals try exact auP
   all_goals refine auV ?_
   all_goals try exact z8
   all_goals try simp only [hsM] at *
set_option maxHeartbeats 1000000 in
theorem Zg (l:List Wn) (c c':Bool) (hl:l.length≤maxLen):zd Tryz.prog 20 [.snap 3 (l.map Wn.enc) c,.snap 3 (l.map Wn.enc) c'] (.v (.bool true)):=by
 unfold maxLen at hl
 refine z4 {} 0 Tryz.func20 fun Γ hW=>auC ?_
 repeat' first|refine auS ?_|fail|refine auD ?_|(refine auW ?_ ?_<;>intro h<;>try exact auH)|fail
 refine ze (α:=Nat) (fun k=>[(⟨.d0,.d1,.d5⟩,.v (.int .i64 (k:Nat)))]) (fun _=>[]) (fun _=>Γ.g0) (fun k=>l.length-k) (fun k=>k≤l.length) 0 (Nat.zero_le _) ?_ ?_
 ·skip
  refine zb ?_ ?_ (Nat.le_refl _)
  all_goals first|refine auE ?_|exact zi
  all_goals repeat' first|exact trivial|exact rfl|apply And.intro
 ·rintro k hk
  refine auL ?_
  by_cases hlt:k<l.length
  ·obtain ⟨t,ht⟩:∃t,l[k]?=some t:=⟨_,List.getElem?_eq_getElem hlt⟩
   have ex:=zT Wn.enc l k t ht
   repeat' first|refine auS ?_|fail|refine auD ?_|(refine auW ?_ ?_<;>intro h<;>try exact auH)|(simp only [Int.toNat_natCast,ex])
   all_goals try exact auP
   all_goals first
    |(exfalso;simp at h;done)
    |(refine za ⟨k+1,Nat.succ_le_of_lt hlt,Nat.sub_lt_sub_left hlt (Nat.lt_succ_self k),?_⟩
      (refine zb ?_ ?_ (Nat.le_refl _));(all_goals first|refine auE ?_|exact zi);(all_goals (repeat' (first|exact trivial|exact rfl|apply And.intro)))
      all_goals exact zB ((IntWalk.i64_in _ (by omega)).trans (by omega)))
  ·skip
   repeat' first|refine auS ?_|fail|refine auD ?_|(refine auW ?_ ?_<;>intro h<;>try exact auH)|fail
   all_goals try exact auP
   all_goals refine auV ?_
   all_goals try exact z8
   all_goals try simp only [hsM] at *
theorem eT (n:Nt) (h:n.wf):zd Tryz.prog 40 [.agg n.enc,.agg n.enc] (.v (.bool true)):=by
 have h1:=aM n.ms false false h.mm.1
 refine z4 {} 0 Tryz.func40 fun Γ hW=>auC ?_
 repeat' first|refine auS ?_|(with_reducible refine z0 h1 ?_)|refine auD ?_|(refine auW ?_ ?_<;>intro h<;>try exact auH)|fail
 all_goals try exact auP
 all_goals try (exfalso;simp_all;done)
 all_goals refine auV ?_
 all_goals try exact z8
 all_goals try simp only [hsM] at *
theorem eH (p:R.Pl) (h:zZ p.rs.length 80):zd Tryz.prog 37 [R.dPl p false,R.dPl p false] (.v (.bool true)):=by
 have h1:=bt p.rs false false h.1
 refine z4 {} 0 Tryz.func37 fun Γ hW=>auC ?_
 repeat' first|refine auS ?_|(with_reducible refine z0 h1 ?_)|refine auD ?_|(refine auW ?_ ?_<;>intro h<;>try exact auH)|fail
 all_goals try exact auP
 all_goals try (exfalso;simp_all;done)
 all_goals refine auV ?_
 all_goals try exact z8
 all_goals try simp only [hsM] at *
theorem kz (u:Hs) (h:u.wf):zd Tryz.prog 15 [dH u,dH u] (.v (.bool true)):=by
 have h1:=eH u.p h.rs
 have h2:=ah u.ms false false h.ms.1
 have h3:=j6 u.tr false false h.tr.1
 have h4:=eT u.n h.n
 refine z4 {} 0 Tryz.func15 fun Γ hW=>auC ?_
 repeat' first|refine auS ?_|(first|(with_reducible refine z0 h1 ?_)|(with_reducible refine z0 h2 ?_)|(with_reducible refine z0 h3 ?_)|(with_reducible refine z0 h4 ?_))|refine auD ?_|(refine auW ?_ ?_<;>intro h<;>try exact auH)|fail
 all_goals try exact auP
 all_goals try (exfalso;simp_all;done)
 all_goals refine auV ?_
 all_goals try exact z8
 all_goals try simp only [hsM] at *
end Go.Proofs.YtmibknbmhcnemaaGreatDoor
namespace Go.Proofs.YtmibknbmhcnemaaGreatDoor
attribute [local irreducible] zF Go
set_option maxRecDepth 100000
open Go.ChangeShapes Go.WideShapes Go.ChangeAt Go.RowKit
def vv:List Sh:=[.cons (.cons (.int .u32) (.cons (.int .i64) (.cons (.int .i64) (.cons (.int .i64) (.cons (.int .i64) (.cons (.int .i64) (.cons (.slice 80 10 (.cons (.cons (.int .u32) (.cons (.int .i64) (.nil))) (.cons (.cons (.int .u32) (.cons (.int .i64) (.nil))) (.cons (.int .i64) (.cons (.int .i64) (.cons (.int .i64) (.cons (.int .i64) (.cons (.int .i64) (.cons (.bool) (.nil)))))))))) (.cons (.bool) (.nil))))))))) (.cons (.slice 40 5 (.cons (.int .u32) (.cons (.cons (.int .i64) (.cons (.int .i64) (.cons (.int .i64) (.cons (.int .i64) (.nil))))) (.nil)))) (.cons (.slice 48 7 (.cons (.cons (.int .u32) (.cons (.int .u32) (.cons (.int .i64) (.cons (.int .i64) (.nil))))) (.cons (.int .i64) (.cons (.int .i64) (.cons (.int .i64) (.nil)))))) (.cons (.cons (.int .i64) (.cons (.cons (.int .i64) (.cons (.int .u64) (.nil))) (.cons (.cons (.int .i64) (.cons (.int .u64) (.nil))) (.cons (.slice 40 5 (.cons (.int .i64) (.cons (.int .u32) (.cons (.int .i64) (.cons (.int .i64) (.cons (.int .i64) (.nil))))))) (.nil))))) (.nil)))),.slice 32 3 (.cons (.bool) (.cons (.str) (.cons (.int .i64) (.nil))))]
set_option maxHeartbeats 4000000 in
theorem Yc (u:Hs) (hu:u.wf) (l:List Cm) (hl:l.length≤maxLen) (hs:∀x∈l,x.s.length≤140737488351232):zd Tryz.prog 5 [dH u,.snap 3 (l.map Cm.enc) false] (.v (.bool true)):=by
 have h1:=YR u hu l hl hs
 have hlen:(l.map Cm.enc).length=l.length:=List.length_map ..
 by_cases h3:300<l.length
 ·have e1:az u l=(hs0,[],2):=if_pos h3
  rw [e1] at h1
  have h0:zZ 0 40∧zZ 0 48∧zZ 0 80:=by unfold zZ maxLen;omega
  have h2:=kz hs0 ⟨⟨by simp [hs0],fun r hr=>(by cases hr)⟩,h0.2.2,h0.1,h0.2.1,⟨by simp [hs0],by simp [hs0],by simp [hs0],fun m hm=>(by cases hm)⟩⟩
  have h4:zd Tryz.prog 15 [dH hs0,.agg [.v (.int .u32 0),.v (.int .i64 0),.v (.int .i64 0),.v (.int .i64 0),.v (.int .i64 0),.v (.int .i64 0),.v (.slice none 0 0),.v (.bool false),.v (.slice none 0 0),.v (.slice none 0 0),.v (.int .i64 0),.v (.int .i64 0),.v (.int .u64 0),.v (.int .i64 0),.v (.int .u64 0),.v (.slice none 0 0)]] (.v (.bool true)):=
   sN h2 (fun K w vs hv=>⟨hv.1,fun i x v hx hy=>by
    match i,hx with
    |0,hx=>exact hv.2 0 x v hx hy
    |1,hx=>
     obtain rfl:=Option.some.inj hx
     exact b7 (hv.2 1 _ v rfl hy) _ ⟨.inl rfl,.inl rfl,.inl rfl,.inl rfl,.inl rfl,.inl rfl,.inr ⟨rfl,_,rfl⟩,.inl rfl,.inr ⟨rfl,_,rfl⟩,.inr ⟨rfl,_,rfl⟩,.inl rfl,.inl rfl,.inl rfl,.inl rfl,.inl rfl,.inr ⟨rfl,_,rfl⟩,rfl⟩⟩)
  refine z4 {} 0 Tryz.func5 fun Γ hW=>auC ?_
  repeat' first|refine auS ?_|(first|(with_reducible refine z0 h1 ?_)|(with_reducible refine z0 h4 ?_))|refine auD ?_|(refine auW ?_ ?_<;>intro h<;>try exact auH)|fail
  all_goals try exact auP
  all_goals try (exfalso;simp_all;done)
  all_goals try (exfalso;simp_all;omega)
  all_goals refine auV ?_
  all_goals try exact z8
  all_goals try simp only [hsM] at *
  all_goals rfl
 ·have e1:az u l=((uc u l).1,(uc u l).2,0):=if_neg h3
  rw [e1] at h1
  have h2:=bP u hu l false (by omega) hs
  have hw:=qZ hu l
  have h4:=kz _ hw.1
  have h5:=Zg (uc u l).2 false false (by rw [hw.2];exact hl)
  generalize uc u l=x at *
  obtain ⟨v,O⟩:=x
  dsimp only at h1 h2 h4 h5
  refine z4 {} 0 Tryz.func5 fun Γ hW=>auC ?_
  repeat' first|refine auS ?_|(first|(with_reducible refine z0 h1 ?_)|(with_reducible refine z0 h2 ?_)|(with_reducible refine z0 h4 ?_)|(with_reducible refine z0 h5 ?_))|refine auD ?_|(refine auW ?_ ?_<;>intro h<;>try exact auH)|fail
  all_goals try exact auP
  all_goals try (exfalso;simp_all;done)
  all_goals try (exfalso;simp_all;omega)
  all_goals refine auV ?_
  all_goals try exact z8
  all_goals try simp only [hsM] at *
  all_goals rfl
abbrev cmT:=Bool×ByteArray×Int×Unit
abbrev VD (t:cmT):Cm:=⟨t.1,t.2.1.data.toList,t.2.2.1⟩
theorem ix (a1 c1 d1 e1 f1 g1:Int) (rl1:List rlT) (o1:Bool) (ms:List mtT) (tr:List tkT) (l b1:Int) (n1:Nat) (b2:Int) (n2:Nat) (mp:List mpT) (cs:List cmT) (u2 u3 u4 u5 u6 u7:Unit) :
  pG vv (((a1,c1,d1,e1,f1,g1,rl1,o1,u2),ms,tr,(l,(b1,(n1:Int),u3),(b2,(n2:Int),u4),mp,u5),u6),cs,u7)=[dH (Vx a1 c1 d1 e1 f1 g1 rl1 o1 ms tr l b1 n1 b2 n2 mp),.snap 3 ((cs.map VD).map Cm.enc) false]:=by
 simp only [dH,Hs.row,msD,Vx,List.map_map]
 have e:cs.map (Cm.enc ∘ VD)=cs.map (fun t=>[.v (.bool t.1),.v (.string t.2.1),.v (.int .i64 t.2.2.1)]):=List.map_congr_left fun t _=>by
  show [DV.v (.bool t.1),.v (.string (mkS t.2.1.data.toList)),.v (.int .i64 t.2.2.1)]=_
  rw [Xz]
 rw [e]
 rfl
theorem kb (W:World) (args:Array Value) (hL:laidMetH Tryz.prog Rows.houseRunsRow.laid W) (hsh:W.ShapedOpen Tryz.prog) (h:pX W W.heap.size vv args.toList) :
  Calls Tryz.prog 5 args W fun e W'=>e=.returned (.bool true)∧Below W.heap.size W W':=by
 refine Xx rfl h (fun x hx=>?_) (Z8 (List.mem_of_getElem? (i:=0) rfl) (fun h=>by rw [MakeChecks.laidMetH_plain _ _ _ (by kernel_rfl)] at h;exact h) hL)
 obtain ⟨⟨⟨a1,c1,d1,e1,f1,g1,rl1,o1,u2⟩,ms,tr,⟨l,⟨b1,t1,u3⟩,⟨b2,t2,u4⟩,mp,u5⟩,u6⟩,cs,u7⟩:=x
 obtain ⟨⟨⟨ha',-,-,-,-,-,⟨hb',hl',hd'⟩,-⟩,⟨m1,m2,-⟩,⟨k1,k2,-⟩,⟨-,⟨-,h1,-⟩,⟨-,h2,-⟩,⟨q1,q2,q3⟩,-⟩,-⟩,⟨-,hcl,hcs⟩,-⟩:=hx
 have g1':=Ys h1
 have g2':=Ys h2
 obtain ⟨n1,rfl⟩:=Int.eq_ofNat_of_zero_le g1'.1
 obtain ⟨n2,rfl⟩:=Int.eq_ofNat_of_zero_le g2'.1
 refine Eq.mpr (congrArg (fun l=>zd Tryz.prog 5 l (.v (.bool true))) (ix a1 c1 d1 e1 f1 g1 rl1 o1 ms tr l b1 n1 b2 n2 mp cs u2 u3 u4 u5 u6 u7)) (Yc (Vx a1 c1 d1 e1 f1 g1 rl1 o1 ms tr l b1 n1 b2 n2 mp) ⟨⟨jz ha',fun t ht=>?_⟩,dv hb' hl',dv m1 m2,dv k1 k2,⟨by show n1<_;omega,by show n2<_;omega,Nat.le_trans (Nat.le_of_eq (congrArg (· * 40) (List.length_map ..))) q1,fun t ht=>?_⟩⟩ (cs.map VD) (Nat.le_trans (Nat.le_of_eq (List.length_map ..)) hcl) (fun t ht=>?_))
 ·obtain ⟨y,hy,rfl⟩:=List.mem_map.1 ht
  exact ⟨jz (hd' y hy).1.1,jz (hd' y hy).2.1.1⟩
 ·obtain ⟨y,hy,rfl⟩:=List.mem_map.1 ht
  exact jz (q3 y hy).2.1
 ·obtain ⟨y,hy,rfl⟩:=List.mem_map.1 ht
  exact Nat.le_trans (Nat.le_of_eq (YA y.2.1)) (hcs y hy).2.1
theorem ic:ownKnob Tryz.prog.godebug=none:=by kernel_rfl
theorem jC:(List.range vv.length).all (fun i=>match vv[i]?,Tryz.f5.params.toList[i]? with|some s,some t=>s.fit Tryz.prog none t|_,_=>false)=true:=by kernel_rfl
theorem kj:laidOutB Tryz.prog=true:=by kernel_rfl
theorem kl:Tryz.f5.params.toList.all (fun t=>Tryz.prog.readableRec t&&decide (t<Tryz.prog.types.size))=true:=by kernel_rfl
theorem jP (os:Os) (args:Array Value):laidMetH Tryz.prog Rows.houseRunsRow.laid ((World.laidAll Tryz.prog os Rows.houseRunsRow.laid).forCall (fun _ _=>0) ⟨#[],args,[]⟩).memory:=
 (MakeChecks.laidMetH_plain _ _ _ (by kernel_rfl)).mpr (laidMet_laidAll _ (by kernel_rfl) (by kernel_rfl))
theorem np (os:Os) (started:os.Started) (H:Type) (enc:TypeId×Value→H) :
  ReturnsInHanded {} Tryz.checked os 5 .any (fun w args=>(Rows.houseRunsSpec.pre enc Tryz.prog Tryz.f5 [] false w args∧laidMetH Tryz.prog Rows.houseRunsRow.laid w)∧sizedMet enc Tryz.prog Tryz.f5 (OpenSpec.ofChange Rows.houseRunsSpec) false w args) (Rows.houseRunsSpec.post enc Tryz.prog Tryz.f5 false true false false):=
 o7 (C:=Tryz.checked) (enc:=enc) ic started (by kernel_rfl) Tryz.func5
  (ChangeSpec.witness_shaped (enc:=enc) (C:=Tryz.checked) (os:=os) (X:=fun w _=>laidMetH Tryz.prog Rows.houseRunsRow.laid w) false (World.laidAll Tryz.prog os Rows.houseRunsRow.laid) #[.agg #[.int .u32 0,.int .i64 0,.int .i64 0,.int .i64 0,.int .i64 0,.int .i64 0,.slice none 0 0,.bool false,.slice none 0 0,.slice none 0 0,.int .i64 0,.int .i64 0,.int .u64 0,.int .i64 0,.int .u64 0,.slice none 0 0],.slice none 0 0] 8 rfl (World.shaped_of_ZipB (by kernel_rfl) (by kernel_rfl)) (by kernel_rfl) (by kernel_rfl) (by kernel_rfl) (jP os _))
  vv (by kernel_rfl) jC rfl (fun ds h=>by
   match ds,h with
   |[d0,d1],_=>exact ⟨rfl,rfl,rfl⟩) 4 (by kernel_rfl) Tryz.underlying4 kj kl kb
theorem kw:Rows.houseRunsRow.holds Tryz.pinned (OpenSpec.ofChange Rows.houseRunsSpec):=
 OpenClaim.holds_of_wide 5 Tryz.f5 rfl rfl rfl rfl rfl rfl rfl ⟨rfl,rfl,rfl,rfl,rfl⟩ rfl rfl rfl rfl rfl (by kernel_rfl) Tryz.func5 (by kernel_rfl)
  (of_decide_eq_true (by kernel_rfl)) (by unfold Func.isWrapper;rw [if_neg (of_decide_eq_false (by kernel_rfl))];exact ⟨rfl,rfl⟩)
  (fun os started H enc _=>np os started H enc)
theorem provedHouseRuns:Rows.HouseRunsCardSaid:=
 Claim7.holds_tied_plain_at .later [] [.data] true (true, "2fc5d920b02e38c90cdd55921fcc0babc64b43151b2dcd7c62f3464600d725ca") false
  kw (fun _ h=>by cases h) (by kernel_rfl) (fun _ h=>by cases h) houseRuns_row_tie rfl ⟨rfl,rfl⟩ (by kernel_rfl) rfl
  (fun f fn hf hfn=>by
   obtain rfl:f=5:=Option.some.inj ((show Tryz.prog.funcNamed Rows.houseRunsRow.func=some 5 by kernel_rfl).symm.trans hf) |>.symm
   obtain rfl:fn=Tryz.f5:=(Option.some.inj (Tryz.func5.symm.trans hfn)).symm
   exact ⟨by kernel_rfl,fun j t ht=>by
    have hall:(Tryz.f5.params.toList.all fun u=>!Tryz.prog.wantsStandIn u)=true:=by kernel_rfl
    have hm:t∈Tryz.f5.params.toList:=by simpa using Array.mem_of_getElem? ht
    exact (show Tryz.prog.wantsStandIn t=false by simpa using List.all_eq_true.1 hall t hm)⟩)
  (by kernel_rfl)
#print axioms provedHouseRuns
end Go.Proofs.YtmibknbmhcnemaaGreatDoor
