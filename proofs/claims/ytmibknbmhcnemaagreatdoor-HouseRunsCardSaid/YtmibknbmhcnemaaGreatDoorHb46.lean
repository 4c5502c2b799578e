import Derived.Test.YtmibknbmhcnemaaGreatDoorHb44
import Derived.Test.YtmibknbmhcnemaaGreatDoorHb45
set_option linter.unusedVariables false
set_option linter.unusedSimpArgs false
namespace Go.Proofs.YtmibknbmhcnemaaGreatDoor
attribute [local irreducible] zF Go
set_option maxRecDepth 100000
def yc (l:List Mt) (a:Int) (d:Mt):Mt:=(l.reverse.find? (fun m=>decide (m.ad=a))).getD d
theorem fX (l:List Mt) (k:Nat) (t:Mt) (h:l[k]?=some t) (a:Int) (d:Mt):yc (l.take (k+1)) a d=if t.ad=a then t else yc (l.take k) a d:=by
 unfold yc
 rw [List.take_add_one,h]
 simp only [Option.toList_some,List.reverse_append,List.reverse_singleton,List.singleton_append,List.find?_cons]
 by_cases q:t.ad=a
 ·simp [q]
 ·simp [q]
theorem bp {ra mo:Int} {l:List Mt} (hg:yb (u0 ra mo) [] l=true) {x y:Mt} (hx:x∈l) (hy:y∈l) (h:x.ad=y.ad):x=y:=by
 obtain ⟨i,hi⟩:=List.mem_iff_getElem?.1 hx
 obtain ⟨j,hj⟩:=List.mem_iff_getElem?.1 hy
 rcases Nat.lt_trichotomy i j with q|q|q
 ·exact absurd h ((sE hg hj).2.2.2 x (List.mem_iff_getElem?.2 ⟨i,by rw [List.getElem?_take,if_pos q];exact hi⟩)).2
 ·rw [q,hj] at hi
  exact (Option.some.inj hi).symm
 ·exact absurd h.symm ((sE hg hi).2.2.2 y (List.mem_iff_getElem?.2 ⟨j,by rw [List.getElem?_take,if_pos q];exact hj⟩)).2
theorem bn (l:List Mt) (k:Nat) (t:Mt) (h:l[k]?=some t) (a:Int):(l.take (k+1)).filter (fun m=>!decide (m.ad=a))=if t.ad=a then (l.take k).filter (fun m=>!decide (m.ad=a)) else (l.take k).filter (fun m=>!decide (m.ad=a))++[t]:=by
 rw [List.take_add_one,h,List.filter_append]
 by_cases q:t.ad=a
 ·simp [q]
 ·simp [q]
abbrev qK (l:List Mt) (a:Int):List Mt:=l.filter (fun m=>!decide (m.ad=a))
abbrev xH (u:Hs) (a now:Int):Mt:=⟨a,u.p.ra,u.p.mo,u.p.mo,now⟩
theorem XM {u:Hs} (hE:rc u=0) (a now n:Int):qN u a now n=((qK u.ms a).drop ((qK u.ms a).length-63)++[qv a (yc u.ms a (xH u a now)) now n],qq (yc u.ms a (xH u a now)) now n):=by
 obtain ⟨hp,-,-,hf,hg⟩:=vQ hE
 have hl:=nt hf
 unfold qN yc
 cases hq:u.ms.find? (fun m=>decide (m.ad=a)) with
 |none=>
  have hn:=List.find?_eq_none.1 hq
  rw [List.find?_eq_none.2 (fun x hx=>hn x (List.mem_reverse.1 hx))]
  rw [show qK u.ms a=u.ms from List.filter_eq_self.2 (fun x hx=>by have:=hn x hx;simpa using this)]
  rfl
 |some m0=>
  have hm0:=List.mem_of_find?_eq_some hq
  have hp0:=List.find?_some hq
  obtain ⟨m1,h1⟩:∃m1,u.ms.reverse.find? (fun m=>decide (m.ad=a))=some m1:=by
   cases h:u.ms.reverse.find? (fun m=>decide (m.ad=a)) with
   |some m1=>exact ⟨m1,rfl⟩
   |none=>exact absurd hp0 (List.find?_eq_none.1 h m0 (List.mem_reverse.2 hm0))
  have hm1:=List.mem_reverse.1 (List.mem_of_find?_eq_some h1)
  have hp1:=List.find?_some h1
  simp only [decide_eq_true_eq] at hp0 hp1
  obtain rfl:=bp hg hm0 hm1 (hp0.trans hp1.symm)
  rw [h1]
  obtain ⟨i,hi⟩:=List.mem_iff_getElem?.1 hm0
  have hlen:(qK u.ms a).length≤63:=by
   have hil:=(List.getElem?_eq_some_iff.1 hi).1
   unfold qK
   rw [←hp0,c_ hg hi]
   simp
   omega
  rw [show (qK u.ms a).length-63=0 by omega,List.drop_zero]
  rfl
theorem bS {l:List Mt} {a:Int} {d:Mt}:(yc l a d∈l∧(yc l a d).ad=a)∨yc l a d=d:=by
 unfold yc
 cases h:l.reverse.find? (fun m=>decide (m.ad=a)) with
 |none=>exact .inr rfl
 |some m=>exact .inl ⟨List.mem_reverse.1 (List.mem_of_find?_eq_some h),by have:=List.find?_some h;simpa using this⟩
set_option maxHeartbeats 8000000 in
theorem mC (u:Hs) (hw:u.wf) (hE:rc u=0) (a now:Int) (n:Int) (hn:xW u≤now∧now≤1099511627776) (hN:0≤n∧n≤1000000000):zd Tryz.prog 82 [dH u,.v (.int .u32 a),.v (.int .i64 n),.v (.int .i64 now)] (.tup [msD (qN u a now n).1,.v (.bool (qN u a now n).2)]):=by
 rw [XM hE]
 obtain ⟨hp,-,-,hf,hg⟩:=vQ hE
 have hl:=nt hf
 have hll:wj u.ms≤now:=by unfold xW at hn;omega
 have h0:=sq hg
 obtain ⟨hra,hmo,-⟩:=Yi hp
 have hmm:B.wA (yc u.ms a (xH u a now)).ra (yc u.ms a (xH u a now)).mo (yc u.ms a (xH u a now)).hs (yc u.ms a (xH u a now)).tm=0∧(yc u.ms a (xH u a now)).tm≤now∧(yc u.ms a (xH u a now)).ad=a:=by
  rcases bS (l:=u.ms) (a:=a) (d:=xH u a now) with ⟨h1,h2⟩|h1
  ·obtain ⟨i,hi⟩:=List.mem_iff_getElem?.1 h1
   exact ⟨(sE hg hi).1,by have:=(nA hg h1).1;omega,h2⟩
  ·rw [h1]
   exact ⟨iO hra hmo (show 0≤now∧now≤1099511627776 by omega),Int.le_refl _,rfl⟩
 obtain ⟨m1,m2,m3⟩:=hmm
 have he:=mF (n:=n) m1 ⟨m2,hn.2⟩ hN
 have hfl:(qK u.ms a).length≤64:=Nat.le_trans (List.length_filter_le _ _) hl
 have hb:=B.fh (yc u.ms a (xH u a now)).ra (yc u.ms a (xH u a now)).mo (yc u.ms a (xH u a now)).hs (yc u.ms a (xH u a now)).tm now n
 unfold qv qq
 clear hE hp hf hg h0 hra hmo m1 m2 hll
 refine z4 {} 0 Tryz.func82 fun Γ hW=>auC ?_
 repeat' first|refine auS ?_|fail|refine auD ?_|(refine auW ?_ ?_<;>intro h<;>try exact auH)|fail
 refine zN (yI (yW ⟨.d0,.d1,.d2⟩ 4 5 rfl rfl)) ?_
 refine ze (α:=Nat×Nat×Nat) (fun x=>[(⟨.d0,.d3,.d7⟩,.v (.int .i64 (x.1:Nat))),(⟨.d0,.d1,.d2⟩,.sl 4 x.2.1 5 0 (qK (u.ms.take x.1) a).length false)]) (fun x=>[(1,some ⟨Γ.g0+1,5,[(yc (u.ms.take x.1) a (xH u a now)).enc]⟩),(2,none),(3,none),(4,some ⟨x.2.1,5,(qK (u.ms.take x.1) a).map Mt.enc⟩)]) (fun x=>x.2.2) (fun x=>u.ms.length-x.1) (fun x=>x.1≤u.ms.length∧x.2.1<x.2.2) (0,Γ.g0+2,Γ.g0+3) ⟨Nat.zero_le _,Nat.lt_succ_self _⟩ ?_ ?_
 ·skip
  refine zb ?_ ?_ (Nat.le_refl _)
  all_goals first|refine auE ?_|exact zi
  all_goals repeat' first|exact trivial|exact rfl|apply And.intro
 rintro ⟨k,nm,g⟩ ⟨hk,hnm⟩
 dsimp only at hk hnm ⊢
 refine auL ?_
 by_cases hlt:k<u.ms.length
 ·obtain ⟨t,ht⟩:∃t,u.ms[k]?=some t:=⟨_,List.getElem?_eq_getElem hlt⟩
  have ex:=uw ht
  have hs1:=fX u.ms k t ht a (xH u a now)
  have hs2:qK (u.ms.take (k+1)) a=if t.ad=a then qK (u.ms.take k) a else qK (u.ms.take k) a++[t]:=bn u.ms k t ht a
  have hfk:(qK (u.ms.take k) a).length≤64:=Nat.le_trans (List.length_filter_le _ _) (by rw [List.length_take];omega)
  have hwk:IntKind.i64.wrap ((k:Int)+1)=((k+1:Nat):Int):=(IntWalk.i64_in _ (by omega)).trans (by omega)
  by_cases hq:t.ad=a
  ·rw [if_pos hq] at hs1 hs2
   repeat' first|refine auS ?_|fail|refine auD ?_|(refine auW ?_ ?_<;>intro h<;>try exact auH)|(simp only [Int.toNat_natCast,ex])
   all_goals try exact auP
   all_goals try (exfalso;simp_all;done)
   refine za ⟨(k+1,nm,g+1),⟨hlt,Nat.lt_succ_of_lt hnm⟩,Nat.sub_lt_sub_left hlt (Nat.lt_succ_self k),?_⟩
   dsimp only
   rw [hs1,hs2,hwk]
   refine zb ?_ ?_ (Nat.le_refl _)
   all_goals first|refine auE ?_|exact zi
   all_goals repeat' first|exact trivial|exact rfl|apply And.intro
  ·rw [if_neg hq] at hs1 hs2
   generalize qK (u.ms.take k) a=X at *
   have e1:X.map Mt.enc++[t.enc]=(X++[t]).map Mt.enc:=by rw [List.map_append];rfl
   have e2:(X.map Mt.enc).length+1=(X++[t]).length:=by simp
   repeat' first|refine auS ?_|fail|refine auD ?_|(refine auW ?_ ?_<;>intro h<;>try exact auH)|(simp only [Int.toNat_natCast,ex])
   all_goals try exact auP
   all_goals try (exfalso;simp_all;done)
   rw [e1,e2]
   refine za ⟨(k+1,g+2,g+3),⟨hlt,Nat.lt_succ_self _⟩,Nat.sub_lt_sub_left hlt (Nat.lt_succ_self k),?_⟩
   dsimp only
   rw [hs1,hs2,hwk]
   refine zb ?_ ?_ (Nat.le_refl _)
   all_goals first|refine auE ?_|exact zi
   all_goals repeat' first|exact trivial|exact rfl|apply And.intro
 ·obtain rfl:k=u.ms.length:=by omega
  simp only [List.take_length]
  have hb2:zd Tryz.prog 129 [B.bB (yc u.ms a (xH u a now)).ra (yc u.ms a (xH u a now)).mo (yc u.ms a (xH u a now)).hs (yc u.ms a (xH u a now)).tm,.v (.int .i64 now),.v (.int .i64 n)] (.tup [B.bB (yc u.ms a (xH u a now)).ra (yc u.ms a (xH u a now)).mo (B.vz (yc u.ms a (xH u a now)).ra (yc u.ms a (xH u a now)).mo (yc u.ms a (xH u a now)).hs (yc u.ms a (xH u a now)).tm now n) now,.v (.bool (decide (n≤B.ye (yc u.ms a (xH u a now)).ra (yc u.ms a (xH u a now)).mo (yc u.ms a (xH u a now)).hs (yc u.ms a (xH u a now)).tm now))),.v (.int .i64 0)]):=by
   rw [show B.btD (yc u.ms a (xH u a now)).ra (yc u.ms a (xH u a now)).mo (yc u.ms a (xH u a now)).hs (yc u.ms a (xH u a now)).tm now n=B.bB (yc u.ms a (xH u a now)).ra (yc u.ms a (xH u a now)).mo (B.vz (yc u.ms a (xH u a now)).ra (yc u.ms a (xH u a now)).mo (yc u.ms a (xH u a now)).hs (yc u.ms a (xH u a now)).tm now n) now by unfold B.btD;rw [if_pos he],he] at hb
   exact hb
  clear hb he
  generalize yc u.ms a (xH u a now)=mm at *
  generalize B.vz mm.ra mm.mo mm.hs mm.tm now n=HH at *
  generalize B.ye mm.ra mm.mo mm.hs mm.tm now=LL at *
  generalize qK u.ms a=X at *
  have hXl:(X.map Mt.enc).length=X.length:=List.length_map _
  have hw1:IntKind.i64.wrap ((X.length:Int)-63)=(X.length:Int)-63:=IntWalk.i64_in _ (by omega)
  have hw2:max 0 ((X.length:Int)-63)=((X.length-63:Nat):Int):=by omega
  have hXd:zK (zV (X.map Mt.enc) (0+(X.length-63))) ((X.length:Int)-((X.length-63:Nat):Int)).toNat=(X.drop (X.length-63)).map Mt.enc:=by
   rw [Nat.zero_add,zz,y4,←List.map_drop,List.take_of_length_le (by rw [List.length_map,List.length_drop];omega)]
  have hXo:y5 ((X.drop (X.length-63)).map Mt.enc)=true:=y_ (fun x=>rfl) _
  have hXe:(X.drop (X.length-63)).length≤64:=by rw [List.length_drop];omega
  generalize X.drop (X.length-63)=Y at *
  have hYl:(Y.map Mt.enc).length=Y.length:=List.length_map _
  have e1:Y.map Mt.enc++[Mt.enc ⟨a,mm.ra,mm.mo,HH,now⟩]=(Y++[(⟨a,mm.ra,mm.mo,HH,now⟩:Mt)]).map Mt.enc:=by rw [List.map_append];rfl
  rw [←m3] at e1 ⊢
  repeat' first|refine auS ?_|(first|(with_reducible refine z0 hb2 ?_)|(with_reducible refine yz ?_))|refine auD ?_|(refine auW ?_ ?_<;>intro h<;>try exact auH)|(first|(simp only [hXl,hw1,hw2,Int.toNat_natCast,hXd,hYl,hXo])|(refine z7 ⟨.inl Nat.zero_lt_one,trivial,trivial,by unfold zZ maxLen;omega⟩ ?_)|fail)
  all_goals try exact auP
  rw [e1]
  refine zt (zk hW ⟨.d0,.d1,.d0⟩ rfl rfl ⟨rfl,rfl,by simp⟩) ?_
  rw [yN (by simp)]
  have hnf:=fun g=>wI g (Y++[(⟨mm.ad,mm.ra,mm.mo,HH,now⟩:Mt)])
  all_goals refine auV ?_
  all_goals try exact z8
  all_goals try simp only [hsM] at *
end Go.Proofs.YtmibknbmhcnemaaGreatDoor
namespace Go.Proofs.YtmibknbmhcnemaaGreatDoor.H
theorem od (t:List UInt8) (i k:Nat) (n:Int) (hi:i+1<t.length) (h:i+2≤k):(yo t i n).drop k=t.drop k:=by
 refine List.ext_getElem? fun j=>?_
 rw [List.getElem?_drop,List.getElem?_drop,xO t i n hi,if_neg (by omega),if_neg (by omega)]
theorem vo (s:List UInt8) (W i:Nat) (h:i+1<W):z3 (s.take W) i=z3 s i:=by
 unfold z3
 rw [List.getElem?_take,List.getElem?_take,if_pos (by omega),if_pos (by omega)]
theorem cj (s:List UInt8) (W i:Nat) (h:i<W):bN (s.take W) i=bN s i:=by
 unfold bN
 rw [List.getElem?_take,if_pos h]
theorem Y7 (t:List UInt8) (i k:Nat) (n:Int) (hi:i+1<t.length) (h:k<i∨i+1<k):bN (yo t i n) k=bN t k:=by
 unfold bN
 rw [xO t i n hi,if_neg (by omega),if_neg (by omega)]
theorem V2 (s:List UInt8) (k i:Nat):bN (s.drop k) i=bN s (k+i):=by
 unfold bN
 rw [List.getElem?_drop]
structure aV (s:List UInt8):Prop where
 h20:20≤hN s
 hW:hN s≤(z3 s 2).toNat
 hs:(z3 s 2).toNat≤s.length
 b0:69≤bN s 0∧bN s 0≤79
 w6:z3 s 6<32768
 pe:uu (rdP s)=0
 sum:zL (ya (s.take (hN s)))=65535
theorem UA {s:List UInt8} (h:zU s=0):aV s:=by
 unfold zU at h
 split at h
 ·cases h
 split at h
 ·cases h
 split at h
 ·cases h
 split at h
 ·cases h
 rename_i h1 h2 h3 h4
 have hb:=zh s 2
 have hq:20≤hN s:=by unfold hN;omega
 exact ⟨hq,by omega,by omega,by omega,by omega,by omega,by omega⟩
theorem Vk {s:List UInt8} (h:aV s):zU s=0:=by
 have hb:=zh s 2
 obtain ⟨a1,a2,a3,a4,a5,a6,a7⟩:=h
 unfold zU
 rw [if_neg (by omega),if_neg (by omega),if_neg (by omega),if_neg (by omega)]
theorem qh {s:List UInt8} (h:aV s):wK s=yo (yo (s.take (z3 s 2).toNat) 8 (z3 s 8-256)) 10 (tY s):=by
 obtain ⟨a1,a2,a3,-,-,-,-⟩:=h
 have hl:(s.take (z3 s 2).toNat).length=(z3 s 2).toNat:=by rw [List.length_take];omega
 unfold wK
 generalize (z3 s 2).toNat=W at *
 rw [←x6 (yo (s.take W) 8 (z3 s 8-256)) 10 (tY s) (by rw [zG];omega),od _ _ _ _ (by omega) (by omega),←x6 (s.take W) 8 (z3 s 8-256) (by omega)]
 have e1:(s.take W).take 8=s.take 8:=by rw [List.take_take,Nat.min_eq_left (by omega)]
 have e2:(s.take W).drop 12=(s.drop 12).take (W-12):=by rw [List.drop_take]
 rw [e1,e2,List.take_left' (by rw [List.length_append,List.length_take,zE];omega)]
section
variable {s:List UInt8} (h:aV s) (h8:2≤bN s 8)
include h h8
theorem vw (i:Nat) (hi:i+1<8∨11<i) (hW:i+1<(z3 s 2).toNat):z3 (wK s) i=z3 s i:=by
 have _:=h8
 have hl:(s.take (z3 s 2).toNat).length=(z3 s 2).toNat:=by rw [List.length_take];have:=h.hs;omega
 have:=h.h20
 have:=h.hW
 rw [qh h,wR _ _ _ _ (by rw [zG];omega) (by omega),wR _ _ _ _ (by omega) (by omega),vo _ _ _ hW]
theorem pI (i:Nat) (hi:i<8∨11<i) (hW:i<(z3 s 2).toNat):bN (wK s) i=bN s i:=by
 have _:=h8
 have hl:(s.take (z3 s 2).toNat).length=(z3 s 2).toNat:=by rw [List.length_take];have:=h.hs;omega
 have:=h.h20
 have:=h.hW
 rw [qh h,Y7 _ _ _ _ (by rw [zG];omega) (by omega),Y7 _ _ _ _ (by omega) (by omega),cj _ _ _ hW]
theorem Vf:z3 (wK s) 8=z3 s 8-256:=by
 have hl:(s.take (z3 s 2).toNat).length=(z3 s 2).toNat:=by rw [List.length_take];have:=h.hs;omega
 have:=h.h20
 have:=h.hW
 have e:z3 s 8=256*(bN s 8:Nat)+(bN s 9:Nat):=rZ
 have:=zh s 8
 rw [qh h,wR _ _ _ _ (by rw [zG];omega) (by omega),wo _ _ _ (by omega) (by omega) (by omega)]
theorem Vr:z3 (wK s) 10=tY s:=by
 have _:=h8
 have hl:(s.take (z3 s 2).toNat).length=(z3 s 2).toNat:=by rw [List.length_take];have:=h.hs;omega
 have:=h.h20
 have:=h.hW
 have:=zh s 8
 have:=zh s 10
 have e:z3 s 8=256*(bN s 8:Nat)+(bN s 9:Nat):=rZ
 have hb:=xE (65535-z3 s 10+(65535-z3 s 8)+(z3 s 8-256)) (by omega)
 rw [qh h,wo _ _ _ (by rw [zG];omega) (by unfold tY;omega) (by unfold tY;omega)]
theorem ls (k:Nat) (hk:12≤k):(wK s).drop k=(s.take (z3 s 2).toNat).drop k:=by
 have _:=h8
 have hl:(s.take (z3 s 2).toNat).length=(z3 s 2).toNat:=by rw [List.length_take];have:=h.hs;omega
 have:=h.h20
 have:=h.hW
 rw [qh h,od _ _ _ _ (by rw [zG];omega) (by omega),od _ _ _ _ (by omega) (by omega)]
theorem iv:(wK s).length=(z3 s 2).toNat:=by
 have _:=h8
 rw [qh h,zG,zG,List.length_take]
 have:=h.hs
 omega
theorem mL:hN (wK s)=hN s:=by
 have:=h.h20
 have:=h.hW
 unfold hN
 rw [pI h h8 0 (by omega) (by omega)]
theorem Xd:bN (wK s) 8=bN s 8-1∧bN (wK s) 9=bN s 9:=by
 have e:=Vf h h8
 have e1:z3 s 8=256*(bN s 8:Nat)+(bN s 9:Nat):=rZ
 have e2:z3 (wK s) 8=256*(bN (wK s) 8:Nat)+(bN (wK s) 9:Nat):=rZ
 have:=yg s 9
 have:=yg (wK s) 9
 rw [e1,e2] at e
 omega
theorem YM:rdP (wK s)={ rdP s with life:=((bN s 8-1:Nat):Int) }:=by
 have a1:=h.h20
 have a2:=h.hW
 have a3:=h.hs
 have e2:=vw h h8 2 (by omega) (by omega)
 unfold rdP
 rw [mL h h8,pI h h8 1 (by omega) (by omega),vw h h8 4 (by omega) (by omega),vw h h8 6 (by omega) (by omega),(Xd h h8).1,(Xd h h8).2,e2,ls h h8 20 (by omega),ls h h8 (hN s) (by omega)]
 have l1:yZ (wK s) 12=yZ s 12:=by unfold yZ;rw [vw h h8 12 (by omega) (by omega),vw h h8 14 (by omega) (by omega)]
 have l2:yZ (wK s) 16=yZ s 16:=by unfold yZ;rw [vw h h8 16 (by omega) (by omega),vw h h8 18 (by omega) (by omega)]
 rw [l1,l2,List.drop_take,List.drop_take,List.take_take,List.take_take,Nat.min_eq_left (by omega),Nat.min_self]
theorem k7 (t:List UInt8) (ht:12≤t.length):ya t=ya (t.take 8)+z3 t 8+z3 t 10+ya (t.drop 12):=by
 have _:=h
 have _:=h8
 have e:=xR (t.take 8) (t.drop 8) (by rw [List.length_take];omega)
 have e8:ya (t.drop 8)=z3 t 8+ya (t.drop 10):=nD t 8 (by omega)
 have e10:ya (t.drop 10)=z3 t 10+ya (t.drop 12):=nD t 10 (by omega)
 rw [List.take_append_drop] at e
 omega
theorem Wv:zL (ya ((wK s).take (hN s)))=65535:=by
 have a1:=h.h20
 have a2:=h.hW
 have a3:=h.hs
 have hs:=h.sum
 have hl:=iv h h8
 rw [k7 h h8 (s.take (hN s)) (by rw [List.length_take];omega),vo _ _ _ (by omega),vo _ _ _ (by omega)] at hs
 rw [k7 h h8 ((wK s).take (hN s)) (by rw [List.length_take];omega),vo _ _ _ (by omega),vo _ _ _ (by omega),Vf h h8,Vr h h8]
 have e1:((wK s).take (hN s)).drop 12=(s.take (hN s)).drop 12:=by rw [List.drop_take,List.drop_take,ls h h8 12 (by omega),List.drop_take,List.take_take,Nat.min_eq_left (by omega)]
 have e2:((wK s).take (hN s)).take 8=(s.take (hN s)).take 8:=by
  rw [List.take_take,List.take_take,Nat.min_eq_left (by omega)]
  unfold wK
  rw [List.append_assoc,List.append_assoc,List.take_left' (by rw [List.length_take];omega)]
 rw [e1,e2]
 have b1:=vP ((s.take (hN s)).take 8)
 have b2:=vP ((s.take (hN s)).drop 12)
 have b8:=zh s 8
 have b10:=zh s 10
 have e:z3 s 8=256*(bN s 8:Nat)+(bN s 9:Nat):=rZ
 unfold tY
 generalize ya ((s.take (hN s)).take 8)=P at *
 generalize ya ((s.take (hN s)).drop 12)=Q at *
 generalize z3 s 8=w8 at *
 generalize z3 s 10=w10 at *
 unfold zL at hs ⊢
 split at hs
 ·omega
 ·rw [if_neg (by omega)]
  split
  ·omega
  ·omega
theorem VI:aV (wK s):=by
 have a1:=h.h20
 have a2:=h.hW
 have a3:=h.hs
 have e2:=vw h h8 2 (by omega) (by omega)
 refine ⟨by rw [mL h h8];exact a1,by rw [mL h h8,e2];exact a2,by rw [e2,iv h h8];exact Nat.le_refl _,by rw [pI h h8 0 (by omega) (by omega)];exact h.b0,by rw [vw h h8 6 (by omega) (by omega)];exact h.w6,?_,by rw [mL h h8];exact Wv h h8⟩
 rw [YM h h8]
 have hp:=h.pe
 have hb:=yg s 8
 unfold uu at hp ⊢
 split at hp
 ·cases hp
 rename_i q1
 split at hp
 ·cases hp
 rename_i q2
 split at hp
 ·cases hp
 rename_i q3
 rw [Classical.not_not] at q1 q2
 rw [if_neg (not_not_intro ?_),if_neg (not_not_intro ?_),if_neg ?_]
 ·exact q3
 ·exact q2
 ·obtain ⟨c1,c2,c3⟩:=q1
  exact ⟨c1,⟨by dsimp only;omega,by dsimp only;omega⟩,c3⟩
end
end Go.Proofs.YtmibknbmhcnemaaGreatDoor.H
namespace Go.Proofs.YtmibknbmhcnemaaGreatDoor
theorem aC (s:List UInt8) (a port:Int) (hs:s.length≤140737488351232) (hab:0≤a∧a<4294967296):zd Tryz.prog 87 [.v (.string (mkS s)),.v (.int .u32 a),.v (.int .i64 port),.v (.bool true)] (dSw s a port 12 0):=by
 by_cases h:(edR s).2=0∧(0≤port∧port≤65535)
 ·exact jM s a port hs h.1 h.2 hab
 ·exact oK s a port true hs (by by_cases q:(edR s).2=0;exact .inr (fun r=>h ⟨q,r⟩);exact .inl q) 12 0
theorem aF (s:List UInt8) (a port:Int) (hs:s.length≤140737488351232) (hab:0≤a∧a<4294967296):zd Tryz.prog 87 [.v (.string (mkS s)),.v (.int .u32 a),.v (.int .i64 port),.v (.bool false)] (dSw s a port 16 2):=by
 by_cases h:(edR s).2=0∧(0≤port∧port≤65535)
 ·exact fP s a port hs h.1 h.2 hab
 ·exact oK s a port false hs (by by_cases q:(edR s).2=0;exact .inr (fun r=>h ⟨q,r⟩);exact .inl q) 16 2
theorem V1 {s:List UInt8} (h:(H.wg s).2=0):H.aV s∧2≤bN s 8∧(H.wg s).1=H.wK s:=by
 unfold H.wg at h ⊢
 split at h
 ·rename_i q
  exact absurd h q
 ·rename_i q
  rw [if_neg q]
  split at h
  ·cases h
  ·rename_i q2
   rw [if_neg q2]
   refine ⟨H.UA ?_,by omega,rfl⟩
   rw [Classical.not_not] at q
   unfold rpR at q
   split at q
   ·assumption
   ·exact q
theorem Z9 {d:List UInt8} {a b:Int} (h:(rdS d a b).2=0):(rdS d a b).1.flags=(bN d 13:Nat)∧20≤d.length:=by
 have h2:=(i_ h).2.2
 refine ⟨?_,h2⟩
 unfold rdS at h ⊢
 split at h
 ·cases h
 rename_i q1
 rw [if_neg q1]
 split at h
 ·cases h
 rename_i q2
 rw [if_neg q2]
 split at h
 ·cases h
 rename_i q3
 rw [if_neg q3]
 split at h
 ·cases h
 split at h
 ·cases h
 rename_i q4
 rw [if_neg q4]
theorem aE {s:List UInt8} (he:(edR s).2=0) (hh:(H.wg s).2=0):20≤(H.wg s).1.length∧((edR s).1.proto=6→hN (H.wg s).1+13<(H.wg s).1.length∧flT (H.wg s).1=(bN (H.wg s).1 (hN (H.wg s).1+13):Nat)):=by
 obtain ⟨h,h8,ht⟩:=V1 hh
 rw [ht]
 have a1:=h.h20
 have a2:=h.hW
 have hl:=H.iv h h8
 refine ⟨by omega,fun hp=>?_⟩
 have hr:rpR (H.wK s)=(rdP (H.wK s),0):=by unfold rpR;rw [H.Vk (H.VI h h8),if_pos rfl]
 unfold flT
 rw [hr]
 dsimp only
 rw [H.YM h h8,H.mL h h8]
 dsimp only
 have hS:(rdS (rdP s).data (rdP s).fr (rdP s).to).2=0:=by
  unfold edR at he hp
  rw [H.Vk h,if_pos rfl] at he hp
  unfold edP at he hp
  split at he
  ·cases he
  rename_i q1
  rw [if_neg q1] at hp
  split at he
  ·cases he
  rename_i q2
  rw [if_neg q2] at hp
  split at he
  ·split at he
   ·assumption
   ·rename_i q4
    exact absurd he q4
  ·rename_i q3
   rw [if_neg q3] at hp
   split at he
   ·rename_i q4
    rw [if_pos q4] at hp
    cases hp
   ·rename_i q4
    exact absurd he q4
 obtain ⟨f1,f2⟩:=Z9 hS
 have hd:(rdP s).data=(s.drop (hN s)).take ((z3 s 2).toNat-hN s):=rfl
 have hlen:(z3 s 2).toNat-hN s≥20:=by
  rw [hd,List.length_take] at f2
  omega
 refine ⟨by omega,?_⟩
 rw [f1,hd,H.cj _ _ _ (by omega),H.V2,←H.pI h h8 (hN s+13) (by omega) (by omega)]
end Go.Proofs.YtmibknbmhcnemaaGreatDoor
