import Derived.Test.YtaiileiodjicpaaGreatDoorTt48
import Derived.Test.YtaiileiodjicpaaGreatDoorRows
import Derived.Test.YtaiileiodjicpaaGreatDoorTie
import Derived.Test.YtaiileiodjicpaaGreatDoorCards
import Derived.SevenTiedAt
import Derived.LaidLaws
import Derived.LaidHandle
import Derived.LaidMore
import Derived.MakeChecks
import Derived.OpenShut
import Derived.Stop.Joined
import Derived.Shelf.Vars
import Derived.Lay
import Derived.Test.YtaiileiodjicpaaGreatDoorTt47
set_option linter.unusedVariables false
set_option linter.unusedSimpArgs false
namespace Go.Proofs.YtaiileiodjicpaaGreatDoor
attribute [local irreducible] zF Go
set_option maxRecDepth 100000
def plO:R.Pl:=⟨3325256705,1024,2048,100,100000,1000000,[],true⟩
theorem pj:zi Tryz.prog 21 [] (R.dPl plO false):=by
 refine xW (D:=.agg [.v (.int .u32 3325256705),.v (.int .i64 1024),.v (.int .i64 2048),.v (.int .i64 100),.v (.int .i64 100000),.v (.int .i64 1000000),.v (.slice none 0 0),.v (.bool true)]) ?_ ⟨.inl rfl,.inl rfl,.inl rfl,.inl rfl,.inl rfl,.inl rfl,.inr ⟨rfl,10,rfl⟩,.inl rfl,rfl⟩
 refine z7 {} 0 Tryz.func21 fun Γ hW=>auC ?_
 repeat' first|refine auS ?_|fail|refine auD ?_|(refine auW ?_ ?_<;>intro h<;>try exact auH)|fail
 all_goals try exact auP
 all_goals refine auV ?_
 all_goals try exact zc
 all_goals try simp only [hsM] at *
 all_goals rfl
def pkL (a b:Int) (d:List UInt8):Pk:=⟨0,0,false,false,0,9,17,a,b,[],d⟩
def YV (f t:Int) (d:List UInt8) (a b:Int):List UInt8×Bool:=((pW (pkL a b (rz f t d a b).1)).1,decide ((rz f t d a b).2=0)&&decide ((pW (pkL a b (rz f t d a b).1)).2=0))
theorem Z3 (f t:Int) (d:List UInt8) (a b:Int):(rz f t d a b).1.length≤65515:=by
 unfold rz
 split
 ·simp
 ·split
  ·simp
  ·simp only [List.length_append,wR,yP]
   omega
theorem ib (f t:Int) (d:List UInt8) (a b:Int) (ha:0≤a∧a<4294967296) (hb:0≤b∧b<4294967296) (hd:d.length≤140737488351232):zi Tryz.prog 22 [dL f t d,.v (.int .u32 a),.v (.int .u32 b)] (.tup [.v (.string (mkS (YV f t d a b).1)),.v (.bool (YV f t d a b).2)]):=by
 have h1:=gX f t d a b ha hb hd
 have hl:=Z3 f t d a b
 have h2:=i7 (pkL a b (rz f t d a b).1) (by simp [pkL]) (by simp only [pkL];omega) ha hb
 unfold YV
 unfold pkL at *
 generalize rz f t d a b=L at *
 obtain ⟨s,e⟩:=L
 dsimp only at *
 generalize pW _=P at *
 obtain ⟨t',e'⟩:=P
 dsimp only at *
 change zi _ _ [.agg [.v (.int .i64 0),.v (.int .i64 0),.v (.bool false),.v (.bool false),.v (.int .i64 0),.v (.int .i64 9),.v (.int .i64 17),.v (.int .u32 a),.v (.int .u32 b),.v (.string ⟨#[]⟩),.v (.string (mkS s))]] _ at h2
 refine z7 {} 0 Tryz.func22 fun Γ hW=>auC ?_
 repeat' first|refine auS ?_|(first|(with_reducible refine z6 h1 ?_)|(with_reducible refine z6 h2 ?_))|refine auD ?_|(refine auW ?_ ?_<;>intro h<;>try exact auH)|fail
 all_goals try exact auP
 all_goals refine auV ?_
 all_goals try exact zc
 all_goals try simp only [hsM] at *
 all_goals first
  |rfl
  |exact congrArg₂ (fun x y=>DV.tup [x,y]) rfl (xP (by simp_all))
  |skip
def lpk:List UInt8:=(YV 1030 53 [120] 5 6).1
theorem eS:(YV 1030 53 [120] 5 6).2=true∧lpk.length=29:=by decide +kernel
theorem YW:(sm (sq plO) true lpk 0).2.1.length=29∧(sm (sq plO) true lpk 0).2.2=(0,0):=by decide +kernel
theorem Z0:plO.wf:=⟨by decide,fun r hr=>by cases hr⟩
theorem Vj:R.plE plO=0:=by decide +kernel
theorem WA:(sq plO).wf:=by
 have h0:y8 0 40∧y8 0 48∧y8 0 80:=by unfold y8 maxLen;omega
 have e:sq plO=⟨plO,[],[],⟨plO.lf,plO.lt,0,plO.st,0,[]⟩⟩:=by unfold sq;rw [if_pos Vj]
 rw [e]
 exact ⟨Z0,h0.2.2,h0.1,h0.2.1,⟨by simp,by simp,by simp,fun m hm=>(by cases hm)⟩⟩
theorem dp:zi Tryz.prog 5 [] (.v (.bool true)):=by
 have h1:=pj
 have h2:=iZ plO Z0 (by unfold y8 maxLen;decide)
 have h3:=ib 1030 53 [120] 5 6 (by decide) (by decide) (by decide)
 have h4:=rg (sq plO) WA true lpk (by rw [eS.2];decide) 0
 rw [Vj] at h2
 rw [eS.1] at h3
 have e1:=eS.2
 have e2:=YW
 change zi _ _ [.agg [.v (.int .i64 1030),.v (.int .i64 53),.v (.string ⟨#[120]⟩)],.v (.int .u32 5),.v (.int .u32 6)] (.tup [.v (.string (mkS lpk)),.v (.bool true)]) at h3
 generalize lpk=p at *
 generalize sq plO=N at *
 generalize sm N true p 0=x at *
 obtain ⟨v,o,y,z⟩:=x
 dsimp only [Vg] at h4 e2
 obtain ⟨e2,e3⟩:=e2
 obtain ⟨rfl,rfl⟩:=Prod.mk.inj e3
 clear e3
 refine z7 {} 0 Tryz.func5 fun Γ hW=>auC ?_
 repeat' first|refine auS ?_|(first|(simp only [za,e1,e2])|(with_reducible refine z6 h1 ?_)|(with_reducible refine z6 h2 ?_)|(with_reducible refine z6 h3 ?_)|(with_reducible refine z6 h4 ?_))|refine auD ?_|(refine auW ?_ ?_<;>intro h<;>try exact auH)|fail
 all_goals try exact auP
 all_goals try (exfalso;simp_all;done)
 all_goals refine auV ?_
 all_goals try exact zc
 all_goals try simp only [hsM] at *
 all_goals rfl
end Go.Proofs.YtaiileiodjicpaaGreatDoor
namespace Go.Proofs.YtaiileiodjicpaaGreatDoor
attribute [local irreducible] zF Go
set_option maxRecDepth 100000
theorem VA (g:Nat) (l:List Wn):yA g (l.map Wn.enc):=zl (fun x=>by simp [Wn.enc,nfL,nfD])
def Ye (u:Hs) (l:List Cm):Hs×List Wn×Int:=if 300<l.length then (hs0,[],2) else ((sr u l).1,(sr u l).2,0)
set_option maxHeartbeats 8000000 in
theorem YJ (u:Hs) (hw:u.wf) (l:List Cm) (hl:l.length≤maxLen) (hs:∀x∈l,x.s.length≤140737488351232):zi Tryz.prog 8 [dH u,.snap 3 (l.map Cm.enc) false] (.tup [dH (Ye u l).1,.snap 3 ((Ye u l).2.1.map Wn.enc) false,.v (.int .i64 (Ye u l).2.2)]):=by
 unfold maxLen at hl
 unfold Ye
 have hown:=iO u hw
 by_cases h3:300<l.length
 ·rw [if_pos h3]
  refine xW (D:=.tup [.agg [.v (.int .u32 0),.v (.int .i64 0),.v (.int .i64 0),.v (.int .i64 0),.v (.int .i64 0),.v (.int .i64 0),.v (.slice none 0 0),.v (.bool false),.v (.slice none 0 0),.v (.slice none 0 0),.v (.int .i64 0),.v (.int .i64 0),.v (.int .u64 0),.v (.int .i64 0),.v (.int .u64 0),.v (.slice none 0 0)],.v (.slice none 0 0),.v (.int .i64 2)]) ?_ ⟨⟨.inl rfl,.inl rfl,.inl rfl,.inl rfl,.inl rfl,.inl rfl,.inr ⟨rfl,_,rfl⟩,.inl rfl,.inr ⟨rfl,_,rfl⟩,.inr ⟨rfl,_,rfl⟩,.inl rfl,.inl rfl,.inl rfl,.inl rfl,.inl rfl,.inr ⟨rfl,_,rfl⟩,rfl⟩,.inr ⟨rfl,_,rfl⟩,.inl rfl,rfl⟩
  refine z7 {} 0 Tryz.func8 fun Γ hW=>auC ?_
  repeat' first|refine auS ?_|fail|refine auD ?_|(refine auW ?_ ?_<;>intro h<;>try exact auH)|(simp only [List.length_map])
  all_goals try exact auP
  all_goals refine auV ?_
  all_goals try exact zc
  all_goals try simp only [hsM] at *
 rw [if_neg h3]
 refine z7 {} 0 Tryz.func8 fun Γ hW=>auC ?_
 repeat' first|((with_reducible refine atR ⟨.d0,.d0,.d7⟩ ?_);(refine zP (zT hW 0 10 (by decide) (o:=⟨Γ.g0+2,5,u.ms.map Mt.enc⟩) (ys:=[u.row (msD u.ms)]) rfl rfl (j8 u u.ms 1 _)) ?_))|refine auS ?_|((with_reducible refine zy 28 ?_);(refine zx [] [10] [10] rfl (by decide) rfl rfl hown ?_))|refine auD ?_|(refine auW ?_ ?_<;>intro h<;>try exact auH)|fail
 all_goals try exact auP
 refine zP (yz (vA ⟨.d0,.d0,.d7⟩ 5 3 rfl rfl)) ?_
 refine zw (α:=Nat×Nat×Nat) (fun x=>[(⟨.d0,.d2,.d3⟩,.v (.int .i64 (x.1:Nat))),(⟨.d0,.d0,.d7⟩,.sl 5 x.2.1 3 0 (sr u (l.take x.1)).2.length false)]) (fun x=>[(0,some ⟨Γ.g0,16,[(sr u (l.take x.1)).1.row (msD (sr u (l.take x.1)).1.ms)]⟩),(2,none),(3,none),(4,none),(5,some ⟨x.2.1,3,(sr u (l.take x.1)).2.map Wn.enc⟩)]) (fun x=>x.2.2) (fun x=>l.length-x.1) (fun x=>x.1≤l.length) (0,Γ.g0+3,Γ.g0+4) (Nat.zero_le _) ?_ ?_
 ·skip
  refine zo ?_ ?_ (Nat.le_refl _)
  all_goals first|refine auE ?_|exact zK
  all_goals repeat' first|exact trivial|exact rfl|apply And.intro
 rintro ⟨k,nm,g⟩ hk
 dsimp only at hk ⊢
 refine auL ?_
 by_cases hlt:k<l.length
 ·obtain ⟨⟨ci,cs,ct⟩,ht⟩:∃t,l[k]?=some t:=⟨_,List.getElem?_eq_getElem hlt⟩
  have ex:yo (l.map Cm.enc) k=(⟨ci,cs,ct⟩:Cm).enc:=ye Cm.enc l k _ ht
  have hcs:=hs _ (List.mem_of_getElem? ht)
  have hst:=bM (u:=u) ht
  obtain ⟨hv,hO⟩:=jG hw (l.take k)
  rw [List.length_take,Nat.min_eq_left (by omega)] at hO
  generalize sr u (l.take k)=p at *
  obtain ⟨v,O⟩:=p
  dsimp only at hv hO hst hcs ⊢
  have hr:=rg v hv ci cs hcs ct
  unfold oq at hst
  dsimp only at hst
  generalize sm v ci cs ct=G at *
  obtain ⟨v2,o2,y2,z2⟩:=G
  dsimp only at hr hst
  have e1:O.map Wn.enc++[(⟨o2,y2,z2⟩:Wn).enc]=(O++[(⟨o2,y2,z2⟩:Wn)]).map Wn.enc:=by rw [List.map_append];rfl
  have e2:(O.map Wn.enc).length+1=(O++[(⟨o2,y2,z2⟩:Wn)]).length:=by simp
  repeat' first|refine auS ?_|(with_reducible refine z6 hr ?_)|refine auD ?_|(refine auW ?_ ?_<;>intro h<;>try exact auH)|(simp only [Int.toNat_natCast,ex])
  all_goals try exact auP
  all_goals try (exfalso;simp_all;done)
  rw [e1,e2]
  refine zn ⟨(k+1,g+3,g+4),hlt,Nat.sub_lt_sub_left hlt (Nat.lt_succ_self k),?_⟩
  dsimp only
  rw [hst]
  refine zo ?_ ?_ (Nat.le_refl _)
  all_goals first|refine auE ?_|exact zK
  all_goals repeat' first|exact trivial|exact rfl|apply And.intro
  all_goals first
   |exact yd ((IntWalk.i64_in _ (by omega)).trans (by omega))
   |rfl
 ·obtain rfl:k=l.length:=by omega
  simp only [List.take_length]
  obtain ⟨hv,hO⟩:=jG hw l
  generalize sr u l=p at *
  obtain ⟨v,O⟩:=p
  dsimp only at hv hO ⊢
  have hnf:=fun g=>VA g O
  have hnf2:=fun g=>eU g v
  repeat' first|refine auS ?_|fail|refine auD ?_|(refine auW ?_ ?_<;>intro h<;>try exact auH)|fail
  all_goals try exact auP
  refine zL (zr hW ⟨.d0,.d0,.d5⟩ rfl rfl ⟨rfl,rfl,by simp⟩) ?_
  rw [tH (by simp)]
  all_goals refine auV ?_
  all_goals try exact zc
  all_goals try simp only [hsM] at *
  all_goals rfl
end Go.Proofs.YtaiileiodjicpaaGreatDoor
namespace Go.Proofs.YtaiileiodjicpaaGreatDoor
attribute [local irreducible] zF Go
set_option maxRecDepth 100000
set_option maxHeartbeats 1000000 in
theorem bq (l:List Mt) (c c':Bool) (hl:l.length≤maxLen):zi Tryz.prog 30 [.snap 5 (l.map Mt.enc) c,.snap 5 (l.map Mt.enc) c'] (.v (.bool true)):=by
 unfold maxLen at hl
 refine z7 {} 0 Tryz.func30 fun Γ hW=>auC ?_
 repeat' first|refine auS ?_|fail|refine auD ?_|(refine auW ?_ ?_<;>intro h<;>try exact auH)|fail
 refine zw (α:=Nat) (fun k=>[(⟨.d0,.d1,.d5⟩,.v (.int .i64 (k:Nat)))]) (fun _=>[]) (fun _=>Γ.g0) (fun k=>l.length-k) (fun k=>k≤l.length) 0 (Nat.zero_le _) ?_ ?_
 ·skip
  refine zo ?_ ?_ (Nat.le_refl _)
  all_goals first|refine auE ?_|exact zK
  all_goals repeat' first|exact trivial|exact rfl|apply And.intro
 ·rintro k hk
  refine auL ?_
  by_cases hlt:k<l.length
  ·obtain ⟨t,ht⟩:∃t,l[k]?=some t:=⟨_,List.getElem?_eq_getElem hlt⟩
   have ex:=ye Mt.enc l k t ht
   repeat' first|refine auS ?_|fail|refine auD ?_|(refine auW ?_ ?_<;>intro h<;>try exact auH)|(simp only [Int.toNat_natCast,ex])
   all_goals try exact auP
   all_goals first
    |(exfalso;simp at h;done)
    |(refine zn ⟨k+1,Nat.succ_le_of_lt hlt,Nat.sub_lt_sub_left hlt (Nat.lt_succ_self k),?_⟩
      (refine zo ?_ ?_ (Nat.le_refl _));(all_goals first|refine auE ?_|exact zK);(all_goals (repeat' (first|exact trivial|exact rfl|apply And.intro)))
      all_goals exact yd ((IntWalk.i64_in _ (by omega)).trans (by omega)))
  ·skip
   repeat' first|refine auS ?_|fail|refine auD ?_|(refine auW ?_ ?_<;>intro h<;>try exact auH)|fail
   all_goals try exact auP
   all_goals refine auV ?_
   all_goals try exact zc
   all_goals try simp only [hsM] at *
set_option maxHeartbeats 1000000 in
theorem ka (l:List T.Tk) (c c':Bool) (hl:l.length≤maxLen):zi Tryz.prog 31 [.snap 7 (l.map T.Tk.enc) c,.snap 7 (l.map T.Tk.enc) c'] (.v (.bool true)):=by
 unfold maxLen at hl
 refine z7 {} 0 Tryz.func31 fun Γ hW=>auC ?_
 repeat' first|refine auS ?_|fail|refine auD ?_|(refine auW ?_ ?_<;>intro h<;>try exact auH)|fail
 refine zw (α:=Nat) (fun k=>[(⟨.d0,.d1,.d5⟩,.v (.int .i64 (k:Nat)))]) (fun _=>[]) (fun _=>Γ.g0) (fun k=>l.length-k) (fun k=>k≤l.length) 0 (Nat.zero_le _) ?_ ?_
 ·skip
  refine zo ?_ ?_ (Nat.le_refl _)
  all_goals first|refine auE ?_|exact zK
  all_goals repeat' first|exact trivial|exact rfl|apply And.intro
 ·rintro k hk
  refine auL ?_
  by_cases hlt:k<l.length
  ·obtain ⟨t,ht⟩:∃t,l[k]?=some t:=⟨_,List.getElem?_eq_getElem hlt⟩
   have ex:=ye T.Tk.enc l k t ht
   repeat' first|refine auS ?_|fail|refine auD ?_|(refine auW ?_ ?_<;>intro h<;>try exact auH)|(simp only [Int.toNat_natCast,ex])
   all_goals try exact auP
   all_goals first
    |(exfalso;simp at h;done)
    |(refine zn ⟨k+1,Nat.succ_le_of_lt hlt,Nat.sub_lt_sub_left hlt (Nat.lt_succ_self k),?_⟩
      (refine zo ?_ ?_ (Nat.le_refl _));(all_goals first|refine auE ?_|exact zK);(all_goals (repeat' (first|exact trivial|exact rfl|apply And.intro)))
      all_goals exact yd ((IntWalk.i64_in _ (by omega)).trans (by omega)))
  ·skip
   repeat' first|refine auS ?_|fail|refine auD ?_|(refine auW ?_ ?_<;>intro h<;>try exact auH)|fail
   all_goals try exact auP
   all_goals refine auV ?_
   all_goals try exact zc
   all_goals try simp only [hsM] at *
set_option maxHeartbeats 1000000 in
theorem aC (l:List R.Rl) (c c':Bool) (hl:l.length≤maxLen):zi Tryz.prog 54 [.snap 10 (l.map R.Rl.enc) c,.snap 10 (l.map R.Rl.enc) c'] (.v (.bool true)):=by
 unfold maxLen at hl
 refine z7 {} 0 Tryz.func54 fun Γ hW=>auC ?_
 repeat' first|refine auS ?_|fail|refine auD ?_|(refine auW ?_ ?_<;>intro h<;>try exact auH)|fail
 refine zw (α:=Nat) (fun k=>[(⟨.d0,.d1,.d5⟩,.v (.int .i64 (k:Nat)))]) (fun _=>[]) (fun _=>Γ.g0) (fun k=>l.length-k) (fun k=>k≤l.length) 0 (Nat.zero_le _) ?_ ?_
 ·skip
  refine zo ?_ ?_ (Nat.le_refl _)
  all_goals first|refine auE ?_|exact zK
  all_goals repeat' first|exact trivial|exact rfl|apply And.intro
 ·rintro k hk
  refine auL ?_
  by_cases hlt:k<l.length
  ·obtain ⟨t,ht⟩:∃t,l[k]?=some t:=⟨_,List.getElem?_eq_getElem hlt⟩
   have ex:=ye R.Rl.enc l k t ht
   repeat' first|refine auS ?_|fail|refine auD ?_|(refine auW ?_ ?_<;>intro h<;>try exact auH)|(simp only [Int.toNat_natCast,ex])
   all_goals try exact auP
   all_goals first
    |(exfalso;simp at h;done)
    |(refine zn ⟨k+1,Nat.succ_le_of_lt hlt,Nat.sub_lt_sub_left hlt (Nat.lt_succ_self k),?_⟩
      (refine zo ?_ ?_ (Nat.le_refl _));(all_goals first|refine auE ?_|exact zK);(all_goals (repeat' (first|exact trivial|exact rfl|apply And.intro)))
      all_goals exact yd ((IntWalk.i64_in _ (by omega)).trans (by omega)))
  ·skip
   repeat' first|refine auS ?_|fail|refine auD ?_|(refine auW ?_ ?_<;>intro h<;>try exact auH)|fail
   all_goals try exact auP
   all_goals refine auV ?_
   all_goals try exact zc
   all_goals try simp only [hsM] at *
set_option maxHeartbeats 1000000 in
theorem bV (l:List A.Mp) (c c':Bool) (hl:l.length≤maxLen):zi Tryz.prog 55 [.snap 5 (l.map A.Mp.enc) c,.snap 5 (l.map A.Mp.enc) c'] (.v (.bool true)):=by
 unfold maxLen at hl
 refine z7 {} 0 Tryz.func55 fun Γ hW=>auC ?_
 repeat' first|refine auS ?_|fail|refine auD ?_|(refine auW ?_ ?_<;>intro h<;>try exact auH)|fail
 refine zw (α:=Nat) (fun k=>[(⟨.d0,.d1,.d5⟩,.v (.int .i64 (k:Nat)))]) (fun _=>[]) (fun _=>Γ.g0) (fun k=>l.length-k) (fun k=>k≤l.length) 0 (Nat.zero_le _) ?_ ?_
 ·skip
  refine zo ?_ ?_ (Nat.le_refl _)
  all_goals first|refine auE ?_|exact zK
  all_goals repeat' first|exact trivial|exact rfl|apply And.intro
 ·rintro k hk
  refine auL ?_
  by_cases hlt:k<l.length
  ·obtain ⟨t,ht⟩:∃t,l[k]?=some t:=⟨_,List.getElem?_eq_getElem hlt⟩
   have ex:=ye A.Mp.enc l k t ht
   repeat' first|refine auS ?_|fail|refine auD ?_|(refine auW ?_ ?_<;>intro h<;>try exact auH)|(simp only [Int.toNat_natCast,ex])
   all_goals try exact auP
   all_goals first
    |(exfalso;simp at h;done)
    |(refine zn ⟨k+1,Nat.succ_le_of_lt hlt,Nat.sub_lt_sub_left hlt (Nat.lt_succ_self k),?_⟩
      (refine zo ?_ ?_ (Nat.le_refl _));(all_goals first|refine auE ?_|exact zK);(all_goals (repeat' (first|exact trivial|exact rfl|apply And.intro)))
      all_goals exact yd ((IntWalk.i64_in _ (by omega)).trans (by omega)))
  ·skip
   repeat' first|refine auS ?_|fail|refine auD ?_|(refine auW ?_ ?_<;>intro h<;>try exact auH)|fail
   all_goals try exact auP
   all_goals refine auV ?_
   all_goals try exact zc
   all_goals try simp only [hsM] at *
set_option maxHeartbeats 1000000 in
theorem aF (l:List Wn) (c c':Bool) (hl:l.length≤maxLen):zi Tryz.prog 10 [.snap 3 (l.map Wn.enc) c,.snap 3 (l.map Wn.enc) c'] (.v (.bool true)):=by
 unfold maxLen at hl
 refine z7 {} 0 Tryz.func10 fun Γ hW=>auC ?_
 repeat' first|refine auS ?_|fail|refine auD ?_|(refine auW ?_ ?_<;>intro h<;>try exact auH)|fail
 refine zw (α:=Nat) (fun k=>[(⟨.d0,.d1,.d5⟩,.v (.int .i64 (k:Nat)))]) (fun _=>[]) (fun _=>Γ.g0) (fun k=>l.length-k) (fun k=>k≤l.length) 0 (Nat.zero_le _) ?_ ?_
 ·skip
  refine zo ?_ ?_ (Nat.le_refl _)
  all_goals first|refine auE ?_|exact zK
  all_goals repeat' first|exact trivial|exact rfl|apply And.intro
 ·rintro k hk
  refine auL ?_
  by_cases hlt:k<l.length
  ·obtain ⟨t,ht⟩:∃t,l[k]?=some t:=⟨_,List.getElem?_eq_getElem hlt⟩
   have ex:=ye Wn.enc l k t ht
   repeat' first|refine auS ?_|fail|refine auD ?_|(refine auW ?_ ?_<;>intro h<;>try exact auH)|(simp only [Int.toNat_natCast,ex])
   all_goals try exact auP
   all_goals first
    |(exfalso;simp at h;done)
    |(refine zn ⟨k+1,Nat.succ_le_of_lt hlt,Nat.sub_lt_sub_left hlt (Nat.lt_succ_self k),?_⟩
      (refine zo ?_ ?_ (Nat.le_refl _));(all_goals first|refine auE ?_|exact zK);(all_goals (repeat' (first|exact trivial|exact rfl|apply And.intro)))
      all_goals exact yd ((IntWalk.i64_in _ (by omega)).trans (by omega)))
  ·skip
   repeat' first|refine auS ?_|fail|refine auD ?_|(refine auW ?_ ?_<;>intro h<;>try exact auH)|fail
   all_goals try exact auP
   all_goals refine auV ?_
   all_goals try exact zc
   all_goals try simp only [hsM] at *
theorem fC (n:Nt) (h:n.wf):zi Tryz.prog 32 [.agg n.enc,.agg n.enc] (.v (.bool true)):=by
 have h1:=bV n.ms false false h.mm.1
 refine z7 {} 0 Tryz.func32 fun Γ hW=>auC ?_
 repeat' first|refine auS ?_|(with_reducible refine z6 h1 ?_)|refine auD ?_|(refine auW ?_ ?_<;>intro h<;>try exact auH)|fail
 all_goals try exact auP
 all_goals try (exfalso;simp_all;done)
 all_goals refine auV ?_
 all_goals try exact zc
 all_goals try simp only [hsM] at *
theorem fy (p:R.Pl) (h:y8 p.rs.length 80):zi Tryz.prog 29 [R.dPl p false,R.dPl p false] (.v (.bool true)):=by
 have h1:=aC p.rs false false h.1
 refine z7 {} 0 Tryz.func29 fun Γ hW=>auC ?_
 repeat' first|refine auS ?_|(with_reducible refine z6 h1 ?_)|refine auD ?_|(refine auW ?_ ?_<;>intro h<;>try exact auH)|fail
 all_goals try exact auP
 all_goals try (exfalso;simp_all;done)
 all_goals refine auV ?_
 all_goals try exact zc
 all_goals try simp only [hsM] at *
theorem bm (u:Hs) (h:u.wf):zi Tryz.prog 9 [dH u,dH u] (.v (.bool true)):=by
 have h1:=fy u.p h.rs
 have h2:=bq u.ms false false h.ms.1
 have h3:=ka u.tr false false h.tr.1
 have h4:=fC u.n h.n
 refine z7 {} 0 Tryz.func9 fun Γ hW=>auC ?_
 repeat' first|refine auS ?_|(first|(with_reducible refine z6 h1 ?_)|(with_reducible refine z6 h2 ?_)|(with_reducible refine z6 h3 ?_)|(with_reducible refine z6 h4 ?_))|refine auD ?_|(refine auW ?_ ?_<;>intro h<;>try exact auH)|fail
 all_goals try exact auP
 all_goals try (exfalso;simp_all;done)
 all_goals refine auV ?_
 all_goals try exact zc
 all_goals try simp only [hsM] at *
end Go.Proofs.YtaiileiodjicpaaGreatDoor
namespace Go.Proofs.YtaiileiodjicpaaGreatDoor
open Go.ChangeShapes Go.WideShapes Go.ChangeAt Go.RowKit
theorem qe {H:Type} {enc:TypeId×Value→H} {C:Checked} {os:Os} {f:FuncId} {fn:Func} {s:ChangeSpec} {X:World→Array Value→Prop}
  (hX:∀(w w':World) (args:Array Value),w.heap=w'.heap→X w args→X w' args)
  (own:ownKnob C.prog.godebug=none) (started:os.Started) (noInit:C.prog.inits.idxOf? f=none) (hfn:C.prog.funcs[f]?=some fn)
  (witness:∃ (w:World) (tape:Tape) (i:Input),w.os=os∧(w.forCall tape i).Shaped C.prog∧i.vars=[]∧Input.okWide C.prog (w.forCall tape i) .any w.heap.size f i∧
   ((s.pre enc C.prog fn [] false (w.forCall tape i).memory i.args∧X (w.forCall tape i).memory i.args)∧sizedMet enc C.prog fn (OpenSpec.ofChange s) false (w.forCall tape i).memory i.args)∧({}:Assume).holds C.prog (lone (Frame.enter C.prog f i.args .normal) [] (w.forCall tape i)))
  (contract:∀(W:World) (base:Nat) (args:Array Value) (ds gs:List (DataW H)) (before:List MemPlace),
   (∀(j:Nat) t v,fn.params[j]?=some t→args[j]?=some v→Value.okWide C.prog W .any base t v)→
   DataW.Whole enc C.prog fn.params.toList s.vars false W args.toList ds gs before→
   ([]:List PathCond).all (PathCond.test C.prog ⟨fn.params.toList,ds,s.plain.varTypes C.prog,gs⟩)=true→
   (DataW.weightsEach C.prog (fn.params.toList++s.plain.varTypes C.prog) (ds++gs)).all (·≤reachBytes)=true→X W args→W.ShapedOpen C.prog→
   Calls C.prog f args W fun e W'=>∃v,e=.returned v∧s.post enc C.prog fn false true false false W args v W') :
  ReturnsInHanded {} C os f .any (fun w args=>(s.pre enc C.prog fn [] false w args∧X w args)∧sizedMet enc C.prog fn (OpenSpec.ofChange s) false w args) (s.post enc C.prog fn false true false false):=by
 refine returnsInHanded_of_calls own started noInit witness ?_
 intro w tape i _ hsh _ hok hpre _
 obtain ⟨_,_,_,fn',hfn',_,_,_,_,hval⟩:=hok
 have e:fn'=fn:=Option.some.inj (hfn'.symm.trans hfn)
 subst e
 obtain ⟨⟨⟨ds,gs,before,hw,hc⟩,hx⟩,hz⟩:=hpre
 have hw':=DataW.Whole.of_heap (w':=w.forCall tape i) (by rfl) hw
 refine (contract (w.forCall tape i) w.heap.size i.args ds gs before hval hw' hc (hz.weights hw) (hX _ _ _ (by rfl) hx) hsh).mono fun e W' ⟨v,he,hp⟩=>?_
 subst he
 exact ChangeSpec.post_blind hp
theorem pg {C:Checked} {os:Os} {f:FuncId} {fn:Func} {s:ChangeSpec} {H:Type} {enc:TypeId×Value→H} {laid:List (String×DataW Unit)} (own:ownKnob C.prog.godebug=none) (started:os.Started) (noInit:C.prog.inits.idxOf? f=none) (hfn:C.prog.funcs[f]?=some fn)
  (witness:∃ (w:World) (tape:Tape) (i:Input),w.os=os∧(w.forCall tape i).Shaped C.prog∧i.vars=[]∧Input.okWide C.prog (w.forCall tape i) .any w.heap.size f i∧
   ((s.pre enc C.prog fn [] false (w.forCall tape i).memory i.args∧laidMetH C.prog laid (w.forCall tape i).memory)∧sizedMet enc C.prog fn (OpenSpec.ofChange s) false (w.forCall tape i).memory i.args)∧({}:Assume).holds C.prog (lone (Frame.enter C.prog f i.args .normal) [] (w.forCall tape i)))
  (shs:List Sh) (hsz:shs.length=fn.params.toList.length) (hfit:(List.range shs.length).all (fun i=>match shs[i]?,fn.params.toList[i]? with|some s,some t=>s.fit C.prog none t|_,_=>false)=true)
  (hvars:s.vars=[]) (hspec:∀ds:List (DataW H),ds.length=shs.length→(s.fn H (ds++[])).results=[.lit (.bool true)]∧(s.fn H (ds++[])).args=ds∧(s.fn H (ds++[])).vars=[]) (tb:TypeId) (hres:fn.resultTypes = #[tb]) (htb:C.prog.underlying tb=some .bool)
  (hl:laidOutB C.prog=true) (hrd:fn.params.toList.all (fun t=>C.prog.readableRec t&&decide (t<C.prog.types.size))=true)
  (core:∀(W:World) (args:Array Value),laidMetH C.prog laid W→W.ShapedOpen C.prog→pI W W.heap.size shs args.toList→Calls C.prog f args W fun e W'=>e=.returned (.bool true)∧Below W.heap.size W W') :
  ReturnsInHanded {} C os f .any (fun w args=>(s.pre enc C.prog fn [] false w args∧laidMetH C.prog laid w)∧sizedMet enc C.prog fn (OpenSpec.ofChange s) false w args) (s.post enc C.prog fn false true false false):=by
 refine qe (X:=fun w _=>laidMetH C.prog laid w) (fun _ _ _ hh h=>h.of_heap hh) own started noInit hfn witness ?_
 intro W base args ds gs before hval hW hcnd hwt hL hsh
 have hlt:∀p∈before,p.block<W.heap.size:=fun p hp=>hW.lt p hp
 have hW':=hW
 obtain ⟨p,q,hA,hV,rfl,hfz,hnd⟩:=hW
 rw [hvars] at hV
 obtain ⟨rfl,rfl⟩:=trodVars_none hV
 have hlen:=sG hA
 obtain ⟨s1,s2,s3⟩:=hspec ds (by rw [hlen,hsz])
 have hwt':(DataW.weightsEach C.prog fn.params.toList ds).all (·≤reachBytes)=true:=by
  have hv:s.plain.varTypes C.prog=[]:=by
   show s.vars.filterMap _=[]
   rw [hvars];rfl
  rw [hv,List.append_nil,List.append_nil] at hwt
  exact hwt
 have hop:=kU (B:=W.heap.size) (shs:=shs) hsz (fun i s' t' hi ht=>by
  have h:=List.all_eq_true.1 hfit i (List.mem_range.2 (List.getElem?_eq_some_iff.1 hi).1)
  simp only [hi,ht] at h
  exact h) (fun j t v hj hv=>hval j t v (by simpa using hj) (by simpa using hv)) hA hwt' (fun x hx=>hlt x (List.mem_append.2 (.inl hx)))
 refine (core W args hL hsh hop).mono fun e W' ⟨he,hb⟩=>?_
 subst he
 refine ⟨_,rfl,ds,[],_,[],p,[],hW',?_,?_,?_,hb.frame _,fun h=>by cases h⟩
 ·rw [hres,s1]
  exact trodAll_cons_mk (shut_bool htb _) trodAll_mk0
 ·rw [s2]
  exact j0 hl hb hrd hA (fun x hx=>hlt x (List.mem_append.2 (.inl hx)))
 ·rw [s3,hvars]
  rfl
theorem YC {P:Program} {W:World} {g:Nat} {t:TypeId} (h:W.ShapedOpen P) (hg:g<P.globals.size) (h0:((begin P (fun _ _=>0) default).world.heap[g]?).bind Obj.row?=some (#[.int .i64 0],t))
  (hb:P.buildable t=true) (hc:P.cellTypes P.depth t=some [t]) (hu:P.underlying t=some (.int .i64)):g<W.heap.size∧oF W g [.tuple #[.nilIface]]:=by
 have hm:Us (W.cell? ⟨g,0,none⟩):=cell_of_shapedOpen_int h hg h0 rfl hb hc hu
 obtain ⟨cs,hh,hs,-⟩:=h.1 g _ t hg h0
 have hsz:cs.size=1:=hs
 refine ⟨(Array.getElem?_eq_some_iff.1 hh).1,fun i c hi=>?_,?_⟩
 ·match i,hi with
  |0,hi=>
   obtain rfl:=Option.some.inj hi
   exact .inr ⟨rfl,hm⟩
  |i+1,hi=>simp at hi
 ·show W.cell? ⟨g,1,none⟩=none
  simp [World.cell?,hh,hsz]
end Go.Proofs.YtaiileiodjicpaaGreatDoor
namespace Go.Proofs.YtaiileiodjicpaaGreatDoor
open Go.ChangeShapes Go.WideShapes Go.ChangeAt Go.RowKit
theorem eF {x:Int} (h:(Lit.int .u32 x).wf=true):0≤x∧x<4294967296:=by
 have h2:IntKind.u32.min≤x∧x≤IntKind.u32.max:=by simpa [Lit.wf] using h
 have e1:IntKind.u32.min=0:=by decide
 have e2:IntKind.u32.max=4294967295:=by decide
 rw [e1,e2] at h2
 omega
theorem YP (s:ByteArray):s.data.toList.length=s.size:=by
 cases s
 simp [ByteArray.size]
abbrev rlT:=(Int×Int×Unit)×(Int×Int×Unit)×Int×Int×Int×Int×Int×Bool×Unit
abbrev UN (t:rlT):R.Rl:=⟨t.1.1,t.1.2.1,t.2.1.1,t.2.1.2.1,t.2.2.1,t.2.2.2.1,t.2.2.2.2.1,t.2.2.2.2.2.1,t.2.2.2.2.2.2.1,t.2.2.2.2.2.2.2.1⟩
theorem Vs {α β:Type} {l:List α} {f:α→β} {b:Nat} (h1:l.length*b≤140737488351232) (h2:l.length≤maxLen):y8 (l.map f).length b:=by rw [List.length_map];exact ⟨h2,Nat.le_trans h1 (by decide)⟩
end Go.Proofs.YtaiileiodjicpaaGreatDoor
namespace Go.Proofs.YtaiileiodjicpaaGreatDoor
attribute [local irreducible] zF Go
set_option maxRecDepth 100000
open Go.ChangeShapes Go.WideShapes Go.ChangeAt Go.RowKit
def vY:List Sh:=[.cons (.int .u32) (.cons (.int .i64) (.cons (.int .i64) (.cons (.int .i64) (.cons (.int .i64) (.cons (.int .i64) (.cons (.slice 80 10 (.cons (.cons (.int .u32) (.cons (.int .i64) (.nil))) (.cons (.cons (.int .u32) (.cons (.int .i64) (.nil))) (.cons (.int .i64) (.cons (.int .i64) (.cons (.int .i64) (.cons (.int .i64) (.cons (.int .i64) (.cons (.bool) (.nil)))))))))) (.cons (.bool) (.nil)))))))),.slice 32 3 (.cons (.bool) (.cons (.str) (.cons (.int .i64) (.nil))))]
theorem Wh {p:R.Pl} (h:p.wf) (hr:y8 p.rs.length 80):(sq p).wf:=by
 have h0:y8 0 40∧y8 0 48∧y8 0 80:=by unfold y8 maxLen;omega
 unfold sq
 split
 ·exact ⟨h,hr,h0.1,h0.2.1,⟨by simp,by simp,by simp,fun m hm=>(by cases hm)⟩⟩
 ·exact ⟨⟨by simp [hs0],fun r hr=>(by cases hr)⟩,h0.2.2,h0.1,h0.2.1,⟨by simp [hs0],by simp [hs0],by simp [hs0],fun m hm=>(by cases hm)⟩⟩
set_option maxHeartbeats 8000000 in
theorem X6 (p:R.Pl) (hp:p.wf) (hr:y8 p.rs.length 80) (l:List Cm) (hl:l.length≤maxLen) (hs:∀x∈l,x.s.length≤140737488351232):zi Tryz.prog 3 [R.dPl p false,.snap 3 (l.map Cm.enc) false] (.v (.bool true)):=by
 have h3:=dp
 have hcl:(l.map Cm.enc).length=l.length:=List.length_map ..
 by_cases he:R.plE p=0
 rotate_left
 ·have h1:=R.bb p false hp hr.1 he
  generalize R.plE p=e at *
  have h4:=h3
  have h5:=h3
  have h6:=h3
  have h7:=h3
  have h8:=h3
  refine z7 {} 0 Tryz.func3 fun Γ hW=>auC ?_
  repeat' first|refine auS ?_|(first|(simp only [za])|(simp only [eq_self,decide_true,beq_self_eq_true,Bool.and_self])|(with_reducible refine z6 h1 ?_)|(with_reducible refine z6 h3 ?_)|(with_reducible refine z6 h4 ?_)|(with_reducible refine z6 h5 ?_)|(with_reducible refine z6 h6 ?_)|(with_reducible refine z6 h7 ?_)|(with_reducible refine z6 h8 ?_))|refine auD ?_|(refine auW ?_ ?_<;>intro h<;>try exact auH)|fail
  all_goals try exact auP
  all_goals try (exfalso;simp_all;done)
  all_goals try (exfalso;simp_all;omega)
  all_goals refine auV ?_
  all_goals try exact zc
  all_goals try simp only [hsM] at *
  all_goals first
   |rfl
   |exact xP (by simp)
 have h1:=R.aU p false hp he
 by_cases hb:20000<(R.vC p).length∨100<l.length
 ·have h4:=h3
  have h5:=h3
  have h6:=h3
  have h7:=h3
  have h8:=h3
  generalize R.vC p=s at *
  refine z7 {} 0 Tryz.func3 fun Γ hW=>auC ?_
  repeat' first|refine auS ?_|(first|(simp only [za])|(simp only [eq_self,decide_true,beq_self_eq_true,Bool.and_self])|(with_reducible refine z6 h1 ?_)|(with_reducible refine z6 h3 ?_)|(with_reducible refine z6 h4 ?_)|(with_reducible refine z6 h5 ?_)|(with_reducible refine z6 h6 ?_)|(with_reducible refine z6 h7 ?_)|(with_reducible refine z6 h8 ?_))|refine auD ?_|(refine auW ?_ ?_<;>intro h<;>try exact auH)|fail
  all_goals try exact auP
  all_goals try (exfalso;simp_all;done)
  all_goals try (exfalso;simp_all;omega)
  all_goals refine auV ?_
  all_goals try exact zc
  all_goals try simp only [hsM] at *
  all_goals first
   |rfl
   |exact xP (by simp)
 have h4:=R.aL (R.vC p) (by omega)
 rw [R.aM hp he (by omega)] at h4
 have e4:R.km (p,0,0)=.tup [R.dPl p false,.v (.int .i64 0),.v (.int .i64 0)]:=rfl
 rw [e4] at h4
 have h5:=iZ p hp hr
 rw [he] at h5
 have hw:=Wh hp hr
 have h6:=YJ (sq p) hw l hl hs
 have e1:Ye (sq p) l=((sr (sq p) l).1,(sr (sq p) l).2,0):=if_neg (by omega)
 rw [e1] at h6
 have hw2:=jG hw l
 have h7:=bm _ hw2.1
 have h8:=aF (sr (sq p) l).2 false false (by rw [hw2.2];exact hl)
 generalize sr (sq p) l=x at *
 generalize sq p=N at *
 generalize R.vC p=s at *
 obtain ⟨v,O⟩:=x
 dsimp only at h6 h7 h8
 refine z7 {} 0 Tryz.func3 fun Γ hW=>auC ?_
 repeat' first|refine auS ?_|(first|(simp only [za])|(simp only [eq_self,decide_true,beq_self_eq_true,Bool.and_self])|(with_reducible refine z6 h1 ?_)|(with_reducible refine z6 h3 ?_)|(with_reducible refine z6 h4 ?_)|(with_reducible refine z6 h5 ?_)|(with_reducible refine z6 h6 ?_)|(with_reducible refine z6 h7 ?_)|(with_reducible refine z6 h8 ?_))|refine auD ?_|(refine auW ?_ ?_<;>intro h<;>try exact auH)|fail
 all_goals try exact auP
 all_goals try (exfalso;simp_all;done)
 all_goals try (exfalso;simp_all;omega)
 all_goals refine auV ?_
 all_goals try exact zc
 all_goals try simp only [hsM] at *
 all_goals first
  |rfl
  |exact xP (by simp)
abbrev cmT:=Bool×ByteArray×Int×Unit
abbrev VR (t:cmT):Cm:=⟨t.1,t.2.1.data.toList,t.2.2.1⟩
theorem e7 (a b c d e f:Int) (rl:List rlT) (o:Bool) (cs:List cmT) (u1 u7:Unit) :
  qw vY ((a,b,c,d,e,f,rl,o,u1),cs,u7)=[R.dPl ⟨a,b,c,d,e,f,rl.map UN,o⟩ false,.snap 3 ((cs.map VR).map Cm.enc) false]:=by
 simp only [R.dPl,R.Pl.enc,List.map_map]
 have e:cs.map (Cm.enc ∘ VR)=cs.map (fun t=>[.v (.bool t.1),.v (.string t.2.1),.v (.int .i64 t.2.2.1)]):=List.map_congr_left fun t _=>by
  show [DV.v (.bool t.1),.v (.string (mkS t.2.1.data.toList)),.v (.int .i64 t.2.2.1)]=_
  rw [Z8]
 rw [e]
 rfl
theorem lO {W:World} (h:laidMetH Tryz.prog Rows.topTextRow.laid W) (hsh:W.ShapedOpen Tryz.prog):Vn W:=by
 rw [MakeChecks.laidMetH_plain _ _ _ (by kernel_rfl)] at h
 intro g cs hg
 unfold qJ at hg
 simp only [List.mem_cons,List.not_mem_nil,or_false,Prod.mk.injEq] at hg
 rcases hg with ⟨rfl,rfl⟩|⟨rfl,rfl⟩|⟨rfl,rfl⟩|⟨rfl,rfl⟩|⟨rfl,rfl⟩
 ·exact iI h (name := "math/bits.deBruijn64tab") (k:=.u8) (zs:=ZX.map fun (n:Nat)=>(n:Int)) (n:=64) (e:=5) (t:=267) (List.mem_of_getElem? (i:=1) rfl) (by kernel_rfl) (by kernel_rfl) Tryz.underlying267 Tryz.underlying5 (by kernel_rfl) (by kernel_rfl)
 ·exact iI h (name := "internal/strconv.uint64pow10") (k:=.u64) (zs:=Lib.pow10Tab) (n:=20) (e:=36) (t:=215) (List.mem_of_getElem? (i:=2) rfl) (by kernel_rfl) (by kernel_rfl) Tryz.underlying215 Tryz.underlying36 (by kernel_rfl) (by kernel_rfl)
 ·exact iC h (name := "strconv.ErrRange") (List.mem_of_getElem? (i:=4) rfl) (t:=61) (by kernel_rfl) (by kernel_rfl) Tryz.underlying61
 ·exact iC h (name := "strconv.ErrSyntax") (List.mem_of_getElem? (i:=5) rfl) (t:=61) (by kernel_rfl) (by kernel_rfl) Tryz.underlying61
 ·exact YC (t:=3) hsh (of_decide_eq_true (by kernel_rfl)) (by kernel_rfl) (by kernel_rfl) (by kernel_rfl) Tryz.underlying3
theorem iM (W:World) (args:Array Value) (hL:laidMetH Tryz.prog Rows.topTextRow.laid W) (hsh:W.ShapedOpen Tryz.prog) (h:pI W W.heap.size vY args.toList) :
  Calls Tryz.prog 3 args W fun e W'=>e=.returned (.bool true)∧Below W.heap.size W W':=by
 refine Zh rfl h (fun x hx=>?_) (lO hL hsh)
 obtain ⟨⟨a,b,c,d,e,f,rl,o,u1⟩,cs,u7⟩:=x
 obtain ⟨⟨ha,-,-,-,-,-,⟨hb,hl,hd⟩,-⟩,⟨-,hcl,hcs⟩,-⟩:=hx
 refine Eq.mpr (congrArg (fun l=>zi Tryz.prog 3 l (.v (.bool true))) (e7 a b c d e f rl o cs u1 u7)) (X6 ⟨a,b,c,d,e,f,rl.map UN,o⟩ ⟨eF ha,fun t ht=>?_⟩ (Vs hb hl) (cs.map VR) (Nat.le_trans (Nat.le_of_eq (List.length_map ..)) hcl) (fun t ht=>?_))
 ·obtain ⟨y,hy,rfl⟩:=List.mem_map.1 ht
  exact ⟨eF (hd y hy).1.1,eF (hd y hy).2.1.1⟩
 ·obtain ⟨y,hy,rfl⟩:=List.mem_map.1 ht
  exact Nat.le_trans (Nat.le_of_eq (YP y.2.1)) (hcs y hy).2.1
theorem fe:ownKnob Tryz.prog.godebug=none:=by kernel_rfl
theorem fo:(List.range vY.length).all (fun i=>match vY[i]?,Tryz.f3.params.toList[i]? with|some s,some t=>s.fit Tryz.prog none t|_,_=>false)=true:=by kernel_rfl
theorem gj:laidOutB Tryz.prog=true:=by kernel_rfl
theorem gL:Tryz.f3.params.toList.all (fun t=>Tryz.prog.readableRec t&&decide (t<Tryz.prog.types.size))=true:=by kernel_rfl
theorem eX (os:Os) (args:Array Value):laidMetH Tryz.prog Rows.topTextRow.laid ((World.laidAll Tryz.prog os Rows.topTextRow.laid).forCall (fun _ _=>0) ⟨#[],args,[]⟩).memory:=
 (MakeChecks.laidMetH_plain _ _ _ (by kernel_rfl)).mpr (laidMet_laidAll _ (by kernel_rfl) (by kernel_rfl))
theorem lL (os:Os) (started:os.Started) (H:Type) (enc:TypeId×Value→H) :
  ReturnsInHanded {} Tryz.checked os 3 .any (fun w args=>(Rows.topTextSpec.pre enc Tryz.prog Tryz.f3 [] false w args∧laidMetH Tryz.prog Rows.topTextRow.laid w)∧sizedMet enc Tryz.prog Tryz.f3 (OpenSpec.ofChange Rows.topTextSpec) false w args) (Rows.topTextSpec.post enc Tryz.prog Tryz.f3 false true false false):=
 pg (C:=Tryz.checked) (enc:=enc) fe started (by kernel_rfl) Tryz.func3
  (ChangeSpec.witness_shaped (enc:=enc) (C:=Tryz.checked) (os:=os) (X:=fun w _=>laidMetH Tryz.prog Rows.topTextRow.laid w) false (World.laidAll Tryz.prog os Rows.topTextRow.laid) #[.agg #[.int .u32 0,.int .i64 0,.int .i64 0,.int .i64 0,.int .i64 0,.int .i64 0,.slice none 0 0,.bool false],.slice none 0 0] 8 rfl (World.shaped_of_ZipB (by kernel_rfl) (by kernel_rfl)) (by kernel_rfl) (by kernel_rfl) (by kernel_rfl) (eX os _))
  vY (by kernel_rfl) fo rfl (fun ds h=>by
   match ds,h with
   |[d0,d1],_=>exact ⟨rfl,rfl,rfl⟩) 4 (by kernel_rfl) Tryz.underlying4 gj gL iM
theorem iK:Rows.topTextRow.holds Tryz.pinned (OpenSpec.ofChange Rows.topTextSpec):=
 OpenClaim.holds_of_wide 3 Tryz.f3 rfl rfl rfl rfl rfl rfl rfl ⟨rfl,rfl,rfl,rfl,rfl⟩ rfl rfl rfl rfl rfl (by kernel_rfl) Tryz.func3 (by kernel_rfl)
  (of_decide_eq_true (by kernel_rfl)) (by unfold Func.isWrapper;rw [if_neg (of_decide_eq_false (by kernel_rfl))];exact ⟨rfl,rfl⟩)
  (fun os started H enc _=>lL os started H enc)
theorem provedTopText:Rows.TopTextCardSaid:=
 Claim7.holds_tied_plain_at .later [] [.data,.data,.data,.data,.sentinel,.sentinel,.pinned] true (true, "1c3f783f025896473b622a4b9ffaf852614d2960ea96b2955c0e51edbb92e8ad") true
  iK (fun _ h=>by cases h) (by kernel_rfl) (fun _ h=>by cases h) topText_row_tie rfl ⟨rfl,rfl⟩ (by kernel_rfl) rfl
  (fun f fn hf hfn=>by
   obtain rfl:f=3:=Option.some.inj ((show Tryz.prog.funcNamed Rows.topTextRow.func=some 3 by kernel_rfl).symm.trans hf) |>.symm
   obtain rfl:fn=Tryz.f3:=(Option.some.inj (Tryz.func3.symm.trans hfn)).symm
   exact ⟨by kernel_rfl,fun j t ht=>by
    have hall:(Tryz.f3.params.toList.all fun u=>!Tryz.prog.wantsStandIn u)=true:=by kernel_rfl
    have hm:t∈Tryz.f3.params.toList:=by simpa using Array.mem_of_getElem? ht
    exact (show Tryz.prog.wantsStandIn t=false by simpa using List.all_eq_true.1 hall t hm)⟩)
  (by kernel_rfl)
#print axioms provedTopText
end Go.Proofs.YtaiileiodjicpaaGreatDoor
