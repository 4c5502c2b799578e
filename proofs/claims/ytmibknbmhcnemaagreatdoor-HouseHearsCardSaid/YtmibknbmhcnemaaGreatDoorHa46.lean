import Derived.Test.YtmibknbmhcnemaaGreatDoorHa44
import Derived.Test.YtmibknbmhcnemaaGreatDoorHa45
set_option linter.unusedVariables false
set_option linter.unusedSimpArgs false
namespace Go.Proofs.YtmibknbmhcnemaaGreatDoor
attribute [local irreducible] zF Go
set_option maxRecDepth 100000
def yd (l:List Mt) (a:Int) (d:Mt):Mt:=(l.reverse.find? (fun m=>decide (m.ad=a))).getD d
theorem eX (l:List Mt) (k:Nat) (t:Mt) (h:l[k]?=some t) (a:Int) (d:Mt):yd (l.take (k+1)) a d=if t.ad=a then t else yd (l.take k) a d:=by
 unfold yd
 rw [List.take_add_one,h]
 simp only [Option.toList_some,List.reverse_append,List.reverse_singleton,List.singleton_append,List.find?_cons]
 by_cases q:t.ad=a
 ·simp [q]
 ·simp [q]
theorem aZ {ra mo:Int} {l:List Mt} (hg:yc (ue ra mo) [] l=true) {x y:Mt} (hx:x∈l) (hy:y∈l) (h:x.ad=y.ad):x=y:=by
 obtain ⟨i,hi⟩:=List.mem_iff_getElem?.1 hx
 obtain ⟨j,hj⟩:=List.mem_iff_getElem?.1 hy
 rcases Nat.lt_trichotomy i j with q|q|q
 ·exact absurd h ((sM hg hj).2.2.2 x (List.mem_iff_getElem?.2 ⟨i,by rw [List.getElem?_take,if_pos q];exact hi⟩)).2
 ·rw [q,hj] at hi
  exact (Option.some.inj hi).symm
 ·exact absurd h.symm ((sM hg hi).2.2.2 y (List.mem_iff_getElem?.2 ⟨j,by rw [List.getElem?_take,if_pos q];exact hj⟩)).2
theorem aj (l:List Mt) (k:Nat) (t:Mt) (h:l[k]?=some t) (a:Int):(l.take (k+1)).filter (fun m=>!decide (m.ad=a))=if t.ad=a then (l.take k).filter (fun m=>!decide (m.ad=a)) else (l.take k).filter (fun m=>!decide (m.ad=a))++[t]:=by
 rw [List.take_add_one,h,List.filter_append]
 by_cases q:t.ad=a
 ·simp [q]
 ·simp [q]
abbrev qK (l:List Mt) (a:Int):List Mt:=l.filter (fun m=>!decide (m.ad=a))
abbrev xI (u:Hs) (a now:Int):Mt:=⟨a,u.p.ra,u.p.mo,u.p.mo,now⟩
theorem Wg {u:Hs} (hE:sL u=0) (a now n:Int):qR u a now n=((qK u.ms a).drop ((qK u.ms a).length-63)++[qn a (yd u.ms a (xI u a now)) now n],qs (yd u.ms a (xI u a now)) now n):=by
 obtain ⟨hp,-,-,hf,hg⟩:=vW hE
 have hl:=nB hf
 unfold qR yd
 cases hq:u.ms.find? (fun m=>decide (m.ad=a)) with
 |none=>
  have hn:=List.find?_eq_none.1 hq
  rw [List.find?_eq_none.2 (fun x hx=>hn x (List.mem_reverse.1 hx))]
  rw [show qK u.ms a=u.ms from List.filter_eq_self.2 (fun x hx=>by have:=hn x hx;simpa using this)]
  rfl
 |some m0=>
  have hm0:=List.mem_of_find?_eq_some hq
  have hp0:=List.find?_some hq
  obtain ⟨m1,h1⟩:∃m1,u.ms.reverse.find? (fun m=>decide (m.ad=a))=some m1:=by
   cases h:u.ms.reverse.find? (fun m=>decide (m.ad=a)) with
   |some m1=>exact ⟨m1,rfl⟩
   |none=>exact absurd hp0 (List.find?_eq_none.1 h m0 (List.mem_reverse.2 hm0))
  have hm1:=List.mem_reverse.1 (List.mem_of_find?_eq_some h1)
  have hp1:=List.find?_some h1
  simp only [decide_eq_true_eq] at hp0 hp1
  obtain rfl:=aZ hg hm0 hm1 (hp0.trans hp1.symm)
  rw [h1]
  obtain ⟨i,hi⟩:=List.mem_iff_getElem?.1 hm0
  have hlen:(qK u.ms a).length≤63:=by
   have hil:=(List.getElem?_eq_some_iff.1 hi).1
   unfold qK
   rw [←hp0,cg hg hi]
   simp
   omega
  rw [show (qK u.ms a).length-63=0 by omega,List.drop_zero]
  rfl
theorem bQ {l:List Mt} {a:Int} {d:Mt}:(yd l a d∈l∧(yd l a d).ad=a)∨yd l a d=d:=by
 unfold yd
 cases h:l.reverse.find? (fun m=>decide (m.ad=a)) with
 |none=>exact .inr rfl
 |some m=>exact .inl ⟨List.mem_reverse.1 (List.mem_of_find?_eq_some h),by have:=List.find?_some h;simpa using this⟩
set_option maxHeartbeats 8000000 in
theorem l7 (u:Hs) (hw:u.wf) (hE:sL u=0) (a now:Int) (n:Int) (hn:xX u≤now∧now≤1099511627776) (hN:0≤n∧n≤1000000000):zd Tryz.prog 82 [dH u,.v (.int .u32 a),.v (.int .i64 n),.v (.int .i64 now)] (.tup [msD (qR u a now n).1,.v (.bool (qR u a now n).2)]):=by
 rw [Wg hE]
 obtain ⟨hp,-,-,hf,hg⟩:=vW hE
 have hl:=nB hf
 have hll:wb u.ms≤now:=by unfold xX at hn;omega
 have h0:=sn hg
 obtain ⟨hra,hmo,-⟩:=XB hp
 have hmm:B.wG (yd u.ms a (xI u a now)).ra (yd u.ms a (xI u a now)).mo (yd u.ms a (xI u a now)).hs (yd u.ms a (xI u a now)).tm=0∧(yd u.ms a (xI u a now)).tm≤now∧(yd u.ms a (xI u a now)).ad=a:=by
  rcases bQ (l:=u.ms) (a:=a) (d:=xI u a now) with ⟨h1,h2⟩|h1
  ·obtain ⟨i,hi⟩:=List.mem_iff_getElem?.1 h1
   exact ⟨(sM hg hi).1,by have:=(nK hg h1).1;omega,h2⟩
  ·rw [h1]
   exact ⟨gp hra hmo (show 0≤now∧now≤1099511627776 by omega),Int.le_refl _,rfl⟩
 obtain ⟨m1,m2,m3⟩:=hmm
 have he:=l8 (n:=n) m1 ⟨m2,hn.2⟩ hN
 have hfl:(qK u.ms a).length≤64:=Nat.le_trans (List.length_filter_le _ _) hl
 have hb:=B.gk (yd u.ms a (xI u a now)).ra (yd u.ms a (xI u a now)).mo (yd u.ms a (xI u a now)).hs (yd u.ms a (xI u a now)).tm now n
 unfold qn qs
 clear hE hp hf hg h0 hra hmo m1 m2 hll
 refine z4 {} 0 Tryz.func82 fun Γ hW=>auC ?_
 repeat' first|refine auS ?_|fail|refine auD ?_|(refine auW ?_ ?_<;>intro h<;>try exact auH)|fail
 refine zR (yM (xa ⟨.d0,.d1,.d2⟩ 4 5 rfl rfl)) ?_
 refine ze (α:=Nat×Nat×Nat) (fun x=>[(⟨.d0,.d3,.d7⟩,.v (.int .i64 (x.1:Nat))),(⟨.d0,.d1,.d2⟩,.sl 4 x.2.1 5 0 (qK (u.ms.take x.1) a).length false)]) (fun x=>[(1,some ⟨Γ.g0+1,5,[(yd (u.ms.take x.1) a (xI u a now)).enc]⟩),(2,none),(3,none),(4,some ⟨x.2.1,5,(qK (u.ms.take x.1) a).map Mt.enc⟩)]) (fun x=>x.2.2) (fun x=>u.ms.length-x.1) (fun x=>x.1≤u.ms.length∧x.2.1<x.2.2) (0,Γ.g0+2,Γ.g0+3) ⟨Nat.zero_le _,Nat.lt_succ_self _⟩ ?_ ?_
 ·skip
  refine zb ?_ ?_ (Nat.le_refl _)
  all_goals first|refine auE ?_|exact zi
  all_goals repeat' first|exact trivial|exact rfl|apply And.intro
 rintro ⟨k,nm,g⟩ ⟨hk,hnm⟩
 dsimp only at hk hnm ⊢
 refine auL ?_
 by_cases hlt:k<u.ms.length
 ·obtain ⟨t,ht⟩:∃t,u.ms[k]?=some t:=⟨_,List.getElem?_eq_getElem hlt⟩
  have ex:=uC ht
  have hs1:=eX u.ms k t ht a (xI u a now)
  have hs2:qK (u.ms.take (k+1)) a=if t.ad=a then qK (u.ms.take k) a else qK (u.ms.take k) a++[t]:=aj u.ms k t ht a
  have hfk:(qK (u.ms.take k) a).length≤64:=Nat.le_trans (List.length_filter_le _ _) (by rw [List.length_take];omega)
  have hwk:IntKind.i64.wrap ((k:Int)+1)=((k+1:Nat):Int):=(IntWalk.i64_in _ (by omega)).trans (by omega)
  by_cases hq:t.ad=a
  ·rw [if_pos hq] at hs1 hs2
   repeat' first|refine auS ?_|fail|refine auD ?_|(refine auW ?_ ?_<;>intro h<;>try exact auH)|(simp only [Int.toNat_natCast,ex])
   all_goals try exact auP
   all_goals try (exfalso;simp_all;done)
   refine za ⟨(k+1,nm,g+1),⟨hlt,Nat.lt_succ_of_lt hnm⟩,Nat.sub_lt_sub_left hlt (Nat.lt_succ_self k),?_⟩
   dsimp only
   rw [hs1,hs2,hwk]
   refine zb ?_ ?_ (Nat.le_refl _)
   all_goals first|refine auE ?_|exact zi
   all_goals repeat' first|exact trivial|exact rfl|apply And.intro
  ·rw [if_neg hq] at hs1 hs2
   generalize qK (u.ms.take k) a=X at *
   have e1:X.map Mt.enc++[t.enc]=(X++[t]).map Mt.enc:=by rw [List.map_append];rfl
   have e2:(X.map Mt.enc).length+1=(X++[t]).length:=by simp
   repeat' first|refine auS ?_|fail|refine auD ?_|(refine auW ?_ ?_<;>intro h<;>try exact auH)|(simp only [Int.toNat_natCast,ex])
   all_goals try exact auP
   all_goals try (exfalso;simp_all;done)
   rw [e1,e2]
   refine za ⟨(k+1,g+2,g+3),⟨hlt,Nat.lt_succ_self _⟩,Nat.sub_lt_sub_left hlt (Nat.lt_succ_self k),?_⟩
   dsimp only
   rw [hs1,hs2,hwk]
   refine zb ?_ ?_ (Nat.le_refl _)
   all_goals first|refine auE ?_|exact zi
   all_goals repeat' first|exact trivial|exact rfl|apply And.intro
 ·obtain rfl:k=u.ms.length:=by omega
  simp only [List.take_length]
  have hb2:zd Tryz.prog 129 [B.bB (yd u.ms a (xI u a now)).ra (yd u.ms a (xI u a now)).mo (yd u.ms a (xI u a now)).hs (yd u.ms a (xI u a now)).tm,.v (.int .i64 now),.v (.int .i64 n)] (.tup [B.bB (yd u.ms a (xI u a now)).ra (yd u.ms a (xI u a now)).mo (B.vC (yd u.ms a (xI u a now)).ra (yd u.ms a (xI u a now)).mo (yd u.ms a (xI u a now)).hs (yd u.ms a (xI u a now)).tm now n) now,.v (.bool (decide (n≤B.ye (yd u.ms a (xI u a now)).ra (yd u.ms a (xI u a now)).mo (yd u.ms a (xI u a now)).hs (yd u.ms a (xI u a now)).tm now))),.v (.int .i64 0)]):=by
   rw [show B.btD (yd u.ms a (xI u a now)).ra (yd u.ms a (xI u a now)).mo (yd u.ms a (xI u a now)).hs (yd u.ms a (xI u a now)).tm now n=B.bB (yd u.ms a (xI u a now)).ra (yd u.ms a (xI u a now)).mo (B.vC (yd u.ms a (xI u a now)).ra (yd u.ms a (xI u a now)).mo (yd u.ms a (xI u a now)).hs (yd u.ms a (xI u a now)).tm now n) now by unfold B.btD;rw [if_pos he],he] at hb
   exact hb
  clear hb he
  generalize yd u.ms a (xI u a now)=mm at *
  generalize B.vC mm.ra mm.mo mm.hs mm.tm now n=HH at *
  generalize B.ye mm.ra mm.mo mm.hs mm.tm now=LL at *
  generalize qK u.ms a=X at *
  have hXl:(X.map Mt.enc).length=X.length:=List.length_map _
  have hw1:IntKind.i64.wrap ((X.length:Int)-63)=(X.length:Int)-63:=IntWalk.i64_in _ (by omega)
  have hw2:max 0 ((X.length:Int)-63)=((X.length-63:Nat):Int):=by omega
  have hXd:zM (zV (X.map Mt.enc) (0+(X.length-63))) ((X.length:Int)-((X.length-63:Nat):Int)).toNat=(X.drop (X.length-63)).map Mt.enc:=by
   rw [Nat.zero_add,zz,zY,←List.map_drop,List.take_of_length_le (by rw [List.length_map,List.length_drop];omega)]
  have hXo:y5 ((X.drop (X.length-63)).map Mt.enc)=true:=ya (fun x=>rfl) _
  have hXe:(X.drop (X.length-63)).length≤64:=by rw [List.length_drop];omega
  generalize X.drop (X.length-63)=Y at *
  have hYl:(Y.map Mt.enc).length=Y.length:=List.length_map _
  have e1:Y.map Mt.enc++[Mt.enc ⟨a,mm.ra,mm.mo,HH,now⟩]=(Y++[(⟨a,mm.ra,mm.mo,HH,now⟩:Mt)]).map Mt.enc:=by rw [List.map_append];rfl
  rw [←m3] at e1 ⊢
  repeat' first|refine auS ?_|(first|(with_reducible refine z0 hb2 ?_)|(with_reducible refine yA ?_))|refine auD ?_|(refine auW ?_ ?_<;>intro h<;>try exact auH)|(first|(simp only [hXl,hw1,hw2,Int.toNat_natCast,hXd,hYl,hXo])|(refine z7 ⟨.inl Nat.zero_lt_one,trivial,trivial,by unfold zT maxLen;omega⟩ ?_)|fail)
  all_goals try exact auP
  rw [e1]
  refine zt (zm hW ⟨.d0,.d1,.d0⟩ rfl rfl ⟨rfl,rfl,by simp⟩) ?_
  rw [x4 (by simp)]
  have hnf:=fun g=>ww g (Y++[(⟨mm.ad,mm.ra,mm.mo,HH,now⟩:Mt)])
  all_goals refine auV ?_
  all_goals try exact z8
  all_goals try simp only [hsM] at *
end Go.Proofs.YtmibknbmhcnemaaGreatDoor
namespace Go.Proofs.YtmibknbmhcnemaaGreatDoor.H
theorem oc (t:List UInt8) (i k:Nat) (n:Int) (hi:i+1<t.length) (h:i+2≤k):(yq t i n).drop k=t.drop k:=by
 refine List.ext_getElem? fun j=>?_
 rw [List.getElem?_drop,List.getElem?_drop,xQ t i n hi,if_neg (by omega),if_neg (by omega)]
theorem vu (s:List UInt8) (W i:Nat) (h:i+1<W):z3 (s.take W) i=z3 s i:=by
 unfold z3
 rw [List.getElem?_take,List.getElem?_take,if_pos (by omega),if_pos (by omega)]
theorem bh (s:List UInt8) (W i:Nat) (h:i<W):bN (s.take W) i=bN s i:=by
 unfold bN
 rw [List.getElem?_take,if_pos h]
theorem YH (t:List UInt8) (i k:Nat) (n:Int) (hi:i+1<t.length) (h:k<i∨i+1<k):bN (yq t i n) k=bN t k:=by
 unfold bN
 rw [xQ t i n hi,if_neg (by omega),if_neg (by omega)]
theorem Va (s:List UInt8) (k i:Nat):bN (s.drop k) i=bN s (k+i):=by
 unfold bN
 rw [List.getElem?_drop]
structure bJ (s:List UInt8):Prop where
 h20:20≤hN s
 hW:hN s≤(z3 s 2).toNat
 hs:(z3 s 2).toNat≤s.length
 b0:69≤bN s 0∧bN s 0≤79
 w6:z3 s 6<32768
 pe:uE (rdP s)=0
 sum:zL (yb (s.take (hN s)))=65535
theorem UB {s:List UInt8} (h:zW s=0):bJ s:=by
 unfold zW at h
 split at h
 ·cases h
 split at h
 ·cases h
 split at h
 ·cases h
 split at h
 ·cases h
 rename_i h1 h2 h3 h4
 have hb:=zh s 2
 have hq:20≤hN s:=by unfold hN;omega
 exact ⟨hq,by omega,by omega,by omega,by omega,by omega,by omega⟩
theorem Vm {s:List UInt8} (h:bJ s):zW s=0:=by
 have hb:=zh s 2
 obtain ⟨a1,a2,a3,a4,a5,a6,a7⟩:=h
 unfold zW
 rw [if_neg (by omega),if_neg (by omega),if_neg (by omega),if_neg (by omega)]
theorem q8 {s:List UInt8} (h:bJ s):wQ s=yq (yq (s.take (z3 s 2).toNat) 8 (z3 s 8-256)) 10 (tY s):=by
 obtain ⟨a1,a2,a3,-,-,-,-⟩:=h
 have hl:(s.take (z3 s 2).toNat).length=(z3 s 2).toNat:=by rw [List.length_take];omega
 unfold wQ
 generalize (z3 s 2).toNat=W at *
 rw [←yZ (yq (s.take W) 8 (z3 s 8-256)) 10 (tY s) (by rw [zG];omega),oc _ _ _ _ (by omega) (by omega),←yZ (s.take W) 8 (z3 s 8-256) (by omega)]
 have e1:(s.take W).take 8=s.take 8:=by rw [List.take_take,Nat.min_eq_left (by omega)]
 have e2:(s.take W).drop 12=(s.drop 12).take (W-12):=by rw [List.drop_take]
 rw [e1,e2,List.take_left' (by rw [List.length_append,List.length_take,zE];omega)]
section
variable {s:List UInt8} (h:bJ s) (h8:2≤bN s 8)
include h h8
theorem vy (i:Nat) (hi:i+1<8∨11<i) (hW:i+1<(z3 s 2).toNat):z3 (wQ s) i=z3 s i:=by
 have _:=h8
 have hl:(s.take (z3 s 2).toNat).length=(z3 s 2).toNat:=by rw [List.length_take];have:=h.hs;omega
 have:=h.h20
 have:=h.hW
 rw [q8 h,wV _ _ _ _ (by rw [zG];omega) (by omega),wV _ _ _ _ (by omega) (by omega),vu _ _ _ hW]
theorem pt (i:Nat) (hi:i<8∨11<i) (hW:i<(z3 s 2).toNat):bN (wQ s) i=bN s i:=by
 have _:=h8
 have hl:(s.take (z3 s 2).toNat).length=(z3 s 2).toNat:=by rw [List.length_take];have:=h.hs;omega
 have:=h.h20
 have:=h.hW
 rw [q8 h,YH _ _ _ _ (by rw [zG];omega) (by omega),YH _ _ _ _ (by omega) (by omega),bh _ _ _ hW]
theorem Vt:z3 (wQ s) 8=z3 s 8-256:=by
 have hl:(s.take (z3 s 2).toNat).length=(z3 s 2).toNat:=by rw [List.length_take];have:=h.hs;omega
 have:=h.h20
 have:=h.hW
 have e:z3 s 8=256*(bN s 8:Nat)+(bN s 9:Nat):=rW
 have:=zh s 8
 rw [q8 h,wV _ _ _ _ (by rw [zG];omega) (by omega),wt _ _ _ (by omega) (by omega) (by omega)]
theorem U9:z3 (wQ s) 10=tY s:=by
 have _:=h8
 have hl:(s.take (z3 s 2).toNat).length=(z3 s 2).toNat:=by rw [List.length_take];have:=h.hs;omega
 have:=h.h20
 have:=h.hW
 have:=zh s 8
 have:=zh s 10
 have e:z3 s 8=256*(bN s 8:Nat)+(bN s 9:Nat):=rW
 have hb:=xB (65535-z3 s 10+(65535-z3 s 8)+(z3 s 8-256)) (by omega)
 rw [q8 h,wt _ _ _ (by rw [zG];omega) (by unfold tY;omega) (by unfold tY;omega)]
theorem mc (k:Nat) (hk:12≤k):(wQ s).drop k=(s.take (z3 s 2).toNat).drop k:=by
 have _:=h8
 have hl:(s.take (z3 s 2).toNat).length=(z3 s 2).toNat:=by rw [List.length_take];have:=h.hs;omega
 have:=h.h20
 have:=h.hW
 rw [q8 h,oc _ _ _ _ (by rw [zG];omega) (by omega),oc _ _ _ _ (by omega) (by omega)]
theorem jO:(wQ s).length=(z3 s 2).toNat:=by
 have _:=h8
 rw [q8 h,zG,zG,List.length_take]
 have:=h.hs
 omega
theorem mG:hN (wQ s)=hN s:=by
 have:=h.h20
 have:=h.hW
 unfold hN
 rw [pt h h8 0 (by omega) (by omega)]
theorem ZP:bN (wQ s) 8=bN s 8-1∧bN (wQ s) 9=bN s 9:=by
 have e:=Vt h h8
 have e1:z3 s 8=256*(bN s 8:Nat)+(bN s 9:Nat):=rW
 have e2:z3 (wQ s) 8=256*(bN (wQ s) 8:Nat)+(bN (wQ s) 9:Nat):=rW
 have:=yi s 9
 have:=yi (wQ s) 9
 rw [e1,e2] at e
 omega
theorem ZN:rdP (wQ s)={ rdP s with life:=((bN s 8-1:Nat):Int) }:=by
 have a1:=h.h20
 have a2:=h.hW
 have a3:=h.hs
 have e2:=vy h h8 2 (by omega) (by omega)
 unfold rdP
 rw [mG h h8,pt h h8 1 (by omega) (by omega),vy h h8 4 (by omega) (by omega),vy h h8 6 (by omega) (by omega),(ZP h h8).1,(ZP h h8).2,e2,mc h h8 20 (by omega),mc h h8 (hN s) (by omega)]
 have l1:yY (wQ s) 12=yY s 12:=by unfold yY;rw [vy h h8 12 (by omega) (by omega),vy h h8 14 (by omega) (by omega)]
 have l2:yY (wQ s) 16=yY s 16:=by unfold yY;rw [vy h h8 16 (by omega) (by omega),vy h h8 18 (by omega) (by omega)]
 rw [l1,l2,List.drop_take,List.drop_take,List.take_take,List.take_take,Nat.min_eq_left (by omega),Nat.min_self]
theorem mw (t:List UInt8) (ht:12≤t.length):yb t=yb (t.take 8)+z3 t 8+z3 t 10+yb (t.drop 12):=by
 have _:=h
 have _:=h8
 have e:=xS (t.take 8) (t.drop 8) (by rw [List.length_take];omega)
 have e8:yb (t.drop 8)=z3 t 8+yb (t.drop 10):=nQ t 8 (by omega)
 have e10:yb (t.drop 10)=z3 t 10+yb (t.drop 12):=nQ t 10 (by omega)
 rw [List.take_append_drop] at e
 omega
theorem WJ:zL (yb ((wQ s).take (hN s)))=65535:=by
 have a1:=h.h20
 have a2:=h.hW
 have a3:=h.hs
 have hs:=h.sum
 have hl:=jO h h8
 rw [mw h h8 (s.take (hN s)) (by rw [List.length_take];omega),vu _ _ _ (by omega),vu _ _ _ (by omega)] at hs
 rw [mw h h8 ((wQ s).take (hN s)) (by rw [List.length_take];omega),vu _ _ _ (by omega),vu _ _ _ (by omega),Vt h h8,U9 h h8]
 have e1:((wQ s).take (hN s)).drop 12=(s.take (hN s)).drop 12:=by rw [List.drop_take,List.drop_take,mc h h8 12 (by omega),List.drop_take,List.take_take,Nat.min_eq_left (by omega)]
 have e2:((wQ s).take (hN s)).take 8=(s.take (hN s)).take 8:=by
  rw [List.take_take,List.take_take,Nat.min_eq_left (by omega)]
  unfold wQ
  rw [List.append_assoc,List.append_assoc,List.take_left' (by rw [List.length_take];omega)]
 rw [e1,e2]
 have b1:=vS ((s.take (hN s)).take 8)
 have b2:=vS ((s.take (hN s)).drop 12)
 have b8:=zh s 8
 have b10:=zh s 10
 have e:z3 s 8=256*(bN s 8:Nat)+(bN s 9:Nat):=rW
 unfold tY
 generalize yb ((s.take (hN s)).take 8)=P at *
 generalize yb ((s.take (hN s)).drop 12)=Q at *
 generalize z3 s 8=w8 at *
 generalize z3 s 10=w10 at *
 unfold zL at hs ⊢
 split at hs
 ·omega
 ·rw [if_neg (by omega)]
  split
  ·omega
  ·omega
theorem VV:bJ (wQ s):=by
 have a1:=h.h20
 have a2:=h.hW
 have a3:=h.hs
 have e2:=vy h h8 2 (by omega) (by omega)
 refine ⟨by rw [mG h h8];exact a1,by rw [mG h h8,e2];exact a2,by rw [e2,jO h h8];exact Nat.le_refl _,by rw [pt h h8 0 (by omega) (by omega)];exact h.b0,by rw [vy h h8 6 (by omega) (by omega)];exact h.w6,?_,by rw [mG h h8];exact WJ h h8⟩
 rw [ZN h h8]
 have hp:=h.pe
 have hb:=yi s 8
 unfold uE at hp ⊢
 split at hp
 ·cases hp
 rename_i q1
 split at hp
 ·cases hp
 rename_i q2
 split at hp
 ·cases hp
 rename_i q3
 rw [Classical.not_not] at q1 q2
 rw [if_neg (not_not_intro ?_),if_neg (not_not_intro ?_),if_neg ?_]
 ·exact q3
 ·exact q2
 ·obtain ⟨c1,c2,c3⟩:=q1
  exact ⟨c1,⟨by dsimp only;omega,by dsimp only;omega⟩,c3⟩
end
end Go.Proofs.YtmibknbmhcnemaaGreatDoor.H
namespace Go.Proofs.YtmibknbmhcnemaaGreatDoor
theorem Zh (s:List UInt8) (a port:Int) (hs:s.length≤140737488351232) (hab:0≤a∧a<4294967296):zd Tryz.prog 87 [.v (.string (mkS s)),.v (.int .u32 a),.v (.int .i64 port),.v (.bool true)] (dSw s a port 12 0):=by
 by_cases h:(edR s).2=0∧(0≤port∧port≤65535)
 ·exact ib s a port hs h.1 h.2 hab
 ·exact nn s a port true hs (by by_cases q:(edR s).2=0;exact .inr (fun r=>h ⟨q,r⟩);exact .inl q) 12 0
theorem ar (s:List UInt8) (a port:Int) (hs:s.length≤140737488351232) (hab:0≤a∧a<4294967296):zd Tryz.prog 87 [.v (.string (mkS s)),.v (.int .u32 a),.v (.int .i64 port),.v (.bool false)] (dSw s a port 16 2):=by
 by_cases h:(edR s).2=0∧(0≤port∧port≤65535)
 ·exact eR s a port hs h.1 h.2 hab
 ·exact nn s a port false hs (by by_cases q:(edR s).2=0;exact .inr (fun r=>h ⟨q,r⟩);exact .inl q) 16 2
theorem Wo {s:List UInt8} (h:(H.wi s).2=0):H.bJ s∧2≤bN s 8∧(H.wi s).1=H.wQ s:=by
 unfold H.wi at h ⊢
 split at h
 ·rename_i q
  exact absurd h q
 ·rename_i q
  rw [if_neg q]
  split at h
  ·cases h
  ·rename_i q2
   rw [if_neg q2]
   refine ⟨H.UB ?_,by omega,rfl⟩
   rw [Classical.not_not] at q
   unfold rpR at q
   split at q
   ·assumption
   ·exact q
theorem aR {d:List UInt8} {a b:Int} (h:(rdS d a b).2=0):(rdS d a b).1.flags=(bN d 13:Nat)∧20≤d.length:=by
 have h2:=(jy h).2.2
 refine ⟨?_,h2⟩
 unfold rdS at h ⊢
 split at h
 ·cases h
 rename_i q1
 rw [if_neg q1]
 split at h
 ·cases h
 rename_i q2
 rw [if_neg q2]
 split at h
 ·cases h
 rename_i q3
 rw [if_neg q3]
 split at h
 ·cases h
 split at h
 ·cases h
 rename_i q4
 rw [if_neg q4]
theorem Zj {s:List UInt8} (he:(edR s).2=0) (hh:(H.wi s).2=0):20≤(H.wi s).1.length∧((edR s).1.proto=6→hN (H.wi s).1+13<(H.wi s).1.length∧flT (H.wi s).1=(bN (H.wi s).1 (hN (H.wi s).1+13):Nat)):=by
 obtain ⟨h,h8,ht⟩:=Wo hh
 rw [ht]
 have a1:=h.h20
 have a2:=h.hW
 have hl:=H.jO h h8
 refine ⟨by omega,fun hp=>?_⟩
 have hr:rpR (H.wQ s)=(rdP (H.wQ s),0):=by unfold rpR;rw [H.Vm (H.VV h h8),if_pos rfl]
 unfold flT
 rw [hr]
 dsimp only
 rw [H.ZN h h8,H.mG h h8]
 dsimp only
 have hS:(rdS (rdP s).data (rdP s).fr (rdP s).to).2=0:=by
  unfold edR at he hp
  rw [H.Vm h,if_pos rfl] at he hp
  unfold edP at he hp
  split at he
  ·cases he
  rename_i q1
  rw [if_neg q1] at hp
  split at he
  ·cases he
  rename_i q2
  rw [if_neg q2] at hp
  split at he
  ·split at he
   ·assumption
   ·rename_i q4
    exact absurd he q4
  ·rename_i q3
   rw [if_neg q3] at hp
   split at he
   ·rename_i q4
    rw [if_pos q4] at hp
    cases hp
   ·rename_i q4
    exact absurd he q4
 obtain ⟨f1,f2⟩:=aR hS
 have hd:(rdP s).data=(s.drop (hN s)).take ((z3 s 2).toNat-hN s):=rfl
 have hlen:(z3 s 2).toNat-hN s≥20:=by
  rw [hd,List.length_take] at f2
  omega
 refine ⟨by omega,?_⟩
 rw [f1,hd,H.bh _ _ _ (by omega),H.Va,←H.pt h h8 (hN s+13) (by omega) (by omega)]
end Go.Proofs.YtmibknbmhcnemaaGreatDoor
namespace Go.Proofs.YtmibknbmhcnemaaGreatDoor
attribute [local irreducible] zF Go
set_option maxRecDepth 100000
set_option maxHeartbeats 8000000 in
theorem eV (u:Hs) (hw:u.wf) (hE:sL u=0) (inside:Bool) (s:List UInt8) (hs:s.length≤140737488351232) (now:Int) (hnow:xX u≤now∧now≤1099511627776) :
  zd Tryz.prog 50 [dH u,.v (.bool inside),.v (.string (mkS s)),.v (.int .i64 now)] (.tup [dH (goR u inside s now).1,.v (.string (mkS (goR u inside s now).2.2.2.1)),.v (.int .i64 (goR u inside s now).2.2.2.2)]):=by
 have he:=tW s hs
 have hh:=H.gq s hs
 have hed:=fR (s:=s)
 have hhl:=gt (s:=s)
 have hfc:=Zj (s:=s)
 have hnf:=fun g=>o_ g u
 unfold goR
 generalize edR s=E at *
 obtain ⟨f,e⟩:=E
 generalize H.wi s=HP at *
 obtain ⟨t,e2⟩:=HP
 dsimp only at *
 obtain ⟨fr,to,proto,fp,tp⟩:=f
 dsimp only at *
 by_cases h1:e=0
 rotate_left
 ·rw [if_pos h1]
  have hme:True:=trivial;have hd:True:=trivial;have hk:True:=trivial;have htk:True:=trivial;have ho:True:=trivial;have hs2:True:=trivial;have c1:True:=trivial;have c2:True:=trivial;have c3:True:=trivial;have c4:True:=trivial;have c5:True:=trivial
  refine z4 {} 0 Tryz.func50 fun Γ hW=>auC ?_
  repeat' first|refine auS ?_|(first|(with_reducible refine z0 he ?_)|(with_reducible refine z0 hh ?_)|(with_reducible refine z0 hme ?_)|(with_reducible refine z0 hd ?_)|(with_reducible refine z0 hk ?_)|(with_reducible refine z0 htk ?_)|(with_reducible refine z0 ho ?_)|(with_reducible refine z0 hs2 ?_)|(simp only [c2,c3,c4,c1,c5,z5,zj]))|refine auD ?_|(refine auW ?_ ?_<;>intro h<;>try exact auH)|(first|(simp only [z5,zj,Int.toNat_natCast])|(refine z7 (by simp only [z5,Int.toNat_natCast];omega) ?_)|fail)
  all_goals try exact auP
  all_goals try (exfalso;simp_all;done)
  all_goals refine auV ?_
  all_goals try exact z8
  all_goals try simp only [hsM] at *
  all_goals rfl
 subst h1
 rw [if_neg (not_not_intro rfl)]
 cases inside with
 |false=>
  by_cases h2:to=u.p.ou
  rotate_left
  ·rw [if_pos ⟨rfl,h2⟩]
   have hme:True:=trivial;have hd:True:=trivial;have hk:True:=trivial;have htk:True:=trivial;have ho:True:=trivial;have hs2:True:=trivial;have c1:True:=trivial;have c2:True:=trivial;have c3:True:=trivial;have c4:True:=trivial;have c5:True:=trivial
   refine z4 {} 0 Tryz.func50 fun Γ hW=>auC ?_
   repeat' first|refine auS ?_|(first|(with_reducible refine z0 he ?_)|(with_reducible refine z0 hh ?_)|(with_reducible refine z0 hme ?_)|(with_reducible refine z0 hd ?_)|(with_reducible refine z0 hk ?_)|(with_reducible refine z0 htk ?_)|(with_reducible refine z0 ho ?_)|(with_reducible refine z0 hs2 ?_)|(simp only [c2,c3,c4,c1,c5,z5,zj]))|refine auD ?_|(refine auW ?_ ?_<;>intro h<;>try exact auH)|(first|(simp only [z5,zj,Int.toNat_natCast])|(refine z7 (by simp only [z5,Int.toNat_natCast];omega) ?_)|fail)
   all_goals try exact auP
   all_goals try (exfalso;simp_all;done)
   all_goals refine auV ?_
   all_goals try exact z8
   all_goals try simp only [hsM] at *
   all_goals rfl
  rw [if_neg (fun q=>q.2 h2)]
  by_cases h3:e2=0
  rotate_left
  ·rw [if_pos h3]
   have hme:True:=trivial;have hd:True:=trivial;have hk:True:=trivial;have htk:True:=trivial;have ho:True:=trivial;have hs2:True:=trivial;have c1:True:=trivial;have c2:True:=trivial;have c3:True:=trivial;have c4:True:=trivial;have c5:True:=trivial
   refine z4 {} 0 Tryz.func50 fun Γ hW=>auC ?_
   repeat' first|refine auS ?_|(first|(with_reducible refine z0 he ?_)|(with_reducible refine z0 hh ?_)|(with_reducible refine z0 hme ?_)|(with_reducible refine z0 hd ?_)|(with_reducible refine z0 hk ?_)|(with_reducible refine z0 htk ?_)|(with_reducible refine z0 ho ?_)|(with_reducible refine z0 hs2 ?_)|(simp only [c2,c3,c4,c1,c5,z5,zj]))|refine auD ?_|(refine auW ?_ ?_<;>intro h<;>try exact auH)|(first|(simp only [z5,zj,Int.toNat_natCast])|(refine z7 (by simp only [z5,Int.toNat_natCast];omega) ?_)|fail)
   all_goals try exact auP
   all_goals try (exfalso;simp_all;done)
   all_goals refine auV ?_
   all_goals try exact z8
   all_goals try simp only [hsM] at *
   all_goals rfl
  subst h3
  rw [if_neg (not_not_intro rfl)]
  obtain ⟨t20,tf⟩:=hfc rfl rfl
  have c1:IntKind.i64.wrap (bN t 0:Nat)=(bN t 0:Nat):=IntWalk.i64_in _ (by have:=yi t 0;omega)
  have c2:((bN t 0:Nat):Int).tmod 16=((bN t 0 % 16:Nat):Int):=(Int.ofNat_tmod _ 16).symm
  have c3:IntKind.i64.wrap (4*((bN t 0 % 16:Nat):Int))=((hN t:Nat):Int):=by unfold hN;rw [IntWalk.i64_in _ (by omega)];omega
  have c4:IntKind.i64.wrap (((hN t:Nat):Int)+13)=((hN t+13:Nat):Int):=by rw [IntWalk.i64_in _ (by unfold hN;omega)];omega
  have c5:IntKind.i64.wrap (bN t (hN t+13):Nat)=(bN t (hN t+13):Nat):=IntWalk.i64_in _ (by have:=yi t (hN t+13);omega)
  have htl:t.length≤140737488351232:=by have:=hhl rfl;omega
  have hfo:=hed rfl
  have hme:=l7 u hw hE fr now (t.length:Nat) hnow (by have:=hhl rfl;omega)
  have hd:=R.pD u.p.rs (toR ⟨fr,to,proto,fp,tp⟩) u.p.el hw.rs.1 hw.p.2 ⟨hfo.fr,hfo.to⟩
  have hnow2:0≤now∧now≤1099511627776:=⟨by have:=sn (vW hE).2.2.2.2;have:wb u.ms≤xX u:=by unfold xX;omega
                                          omega,hnow.2⟩
  have htr:=(vW hE).2.1
  have hpr:=hfo.pr
  generalize qR u fr now (t.length:Nat)=mm at *
  obtain ⟨l,ok⟩:=mm
  dsimp only at *
  have ho:zd Tryz.prog 88 [A.dNt u.n.l u.n.b1 u.n.t1 u.n.b2 u.n.t2 u.n.ms,.v (.int .i64 proto),.v (.int .i64 tp),.v (.int .i64 now)] (A.YQ (tB u.n proto tp now)):=A.eI u.n.l u.n.b1 u.n.t1 u.n.b2 u.n.t2 u.n.ms proto tp now hw.n.mm.1 hw.n.t1 hw.n.t2
  have hs2:=ar t (tB u.n proto tp now).1 (tB u.n proto tp now).2.1 htl (eW u.n hw.n _ _ _)
  have htk:=tK { u with ms:=l } htr fr (tB u.n proto tp now).1 fp (tB u.n proto tp now).2.1 (bN t (hN t+13):Nat) now hnow2 true
  have hk:True:=trivial
  unfold sH
  unfold dSw at hs2
  dsimp only at htk ⊢
  generalize tB u.n proto tp now=r at *
  obtain ⟨a,p,e3⟩:=r
  dsimp only at *
  generalize rnR t a p 16 2=O at *
  obtain ⟨o,oe⟩:=O
  generalize T.knB u.tr fr a fp p now=K at *
  cases ok with
  |false=>
   rw [if_pos rfl]
   rcases hpr with rfl|rfl
   ·have tf:=(tf rfl).1
    refine z4 {} 0 Tryz.func50 fun Γ hW=>auC ?_
    repeat' first|refine auS ?_|(first|(with_reducible refine z0 he ?_)|(with_reducible refine z0 hh ?_)|(with_reducible refine z0 hme ?_)|(with_reducible refine z0 hd ?_)|(with_reducible refine z0 hk ?_)|(with_reducible refine z0 htk ?_)|(with_reducible refine z0 ho ?_)|(with_reducible refine z0 hs2 ?_)|(simp only [c2,c3,c4,c1,c5,z5,zj]))|refine auD ?_|(refine auW ?_ ?_<;>intro h<;>try exact auH)|(first|(simp only [z5,zj,Int.toNat_natCast])|(refine z7 (by simp only [z5,Int.toNat_natCast];omega) ?_)|fail)
    all_goals try exact auP
    all_goals try (exfalso;simp_all;done)
    all_goals refine auV ?_
    all_goals try exact z8
    all_goals try simp only [hsM] at *
    all_goals rfl
   ·clear tf
    refine z4 {} 0 Tryz.func50 fun Γ hW=>auC ?_
    repeat' first|refine auS ?_|(first|(with_reducible refine z0 he ?_)|(with_reducible refine z0 hh ?_)|(with_reducible refine z0 hme ?_)|(with_reducible refine z0 hd ?_)|(with_reducible refine z0 hk ?_)|(with_reducible refine z0 htk ?_)|(with_reducible refine z0 ho ?_)|(with_reducible refine z0 hs2 ?_)|(simp only [c2,c3,c4,c1,c5,z5,zj]))|refine auD ?_|(refine auW ?_ ?_<;>intro h<;>try exact auH)|(first|(simp only [z5,zj,Int.toNat_natCast])|(refine z7 (by simp only [z5,Int.toNat_natCast];omega) ?_)|fail)
    all_goals try exact auP
    all_goals try (exfalso;simp_all;done)
    all_goals refine auV ?_
    all_goals try exact z8
    all_goals try simp only [hsM] at *
    all_goals rfl
  |true=>
   rw [if_neg (by decide),if_neg (by decide)]
   rcases hpr with rfl|rfl
   ·obtain ⟨tf,tg⟩:=tf rfl
    rw [tg]
    generalize uq u.tr fr a fp p (bN t (hN t+13):Nat) now=tk at *
    obtain ⟨tr2,B⟩:=tk
    unfold o5 at htk
    cases K
    ·rw [if_pos ⟨rfl,rfl⟩] at htk
     dsimp only at htk
     refine z4 {} 0 Tryz.func50 fun Γ hW=>auC ?_
     repeat' first|refine auS ?_|(first|(with_reducible refine z0 he ?_)|(with_reducible refine z0 hh ?_)|(with_reducible refine z0 hme ?_)|(with_reducible refine z0 hd ?_)|(with_reducible refine z0 hk ?_)|(with_reducible refine z0 htk ?_)|(with_reducible refine z0 ho ?_)|(with_reducible refine z0 hs2 ?_)|(simp only [c2,c3,c4,c1,c5,z5,zj]))|refine auD ?_|(refine auW ?_ ?_<;>intro h<;>try exact auH)|(first|(simp only [z5,zj,Int.toNat_natCast])|(refine z7 (by simp only [z5,Int.toNat_natCast];omega) ?_)|fail)
     all_goals try exact auP
     all_goals try (exfalso;simp_all;done)
     all_goals clear he hh hme hd hk htk ho hs2
     all_goals first
      |(rw [ef1];rotate_left;iterate 1 (focus (simp_all;done)))|(rw [ef2];rotate_left;iterate 3 (focus (simp_all;done)))
      |(exfalso;simp_all;done)
     all_goals refine auV ?_
     all_goals try exact z8
     all_goals try simp only [hsM] at *
     all_goals rfl
    ·rw [if_neg (by decide)] at htk
     dsimp only at htk
     refine z4 {} 0 Tryz.func50 fun Γ hW=>auC ?_
     repeat' first|refine auS ?_|(first|(with_reducible refine z0 he ?_)|(with_reducible refine z0 hh ?_)|(with_reducible refine z0 hme ?_)|(with_reducible refine z0 hd ?_)|(with_reducible refine z0 hk ?_)|(with_reducible refine z0 htk ?_)|(with_reducible refine z0 ho ?_)|(with_reducible refine z0 hs2 ?_)|(simp only [c2,c3,c4,c1,c5,z5,zj]))|refine auD ?_|(refine auW ?_ ?_<;>intro h<;>try exact auH)|(first|(simp only [z5,zj,Int.toNat_natCast])|(refine z7 (by simp only [z5,Int.toNat_natCast];omega) ?_)|fail)
     all_goals try exact auP
     all_goals try (exfalso;simp_all;done)
     all_goals clear he hh hme hd hk htk ho hs2
     all_goals first
      |(rw [ef1];rotate_left;iterate 1 (focus (simp_all;done)))|(rw [ef3];rotate_left;iterate 4 (focus (simp_all;done)))|(rw [ef4];rotate_left;iterate 2 (focus (simp_all;done)))
      |(exfalso;simp_all;done)
     all_goals refine auV ?_
     all_goals try exact z8
     all_goals try simp only [hsM] at *
     all_goals rfl
   ·clear tf
    generalize uq u.tr fr a fp p (flT t) now=tk at *
    obtain ⟨tr2,B⟩:=tk
    refine z4 {} 0 Tryz.func50 fun Γ hW=>auC ?_
    repeat' first|refine auS ?_|(first|(with_reducible refine z0 he ?_)|(with_reducible refine z0 hh ?_)|(with_reducible refine z0 hme ?_)|(with_reducible refine z0 hd ?_)|(with_reducible refine z0 hk ?_)|(with_reducible refine z0 htk ?_)|(with_reducible refine z0 ho ?_)|(with_reducible refine z0 hs2 ?_)|(simp only [c2,c3,c4,c1,c5,z5,zj]))|refine auD ?_|(refine auW ?_ ?_<;>intro h<;>try exact auH)|(first|(simp only [z5,zj,Int.toNat_natCast])|(refine z7 (by simp only [z5,Int.toNat_natCast];omega) ?_)|fail)
    all_goals try exact auP
    all_goals try (exfalso;simp_all;done)
    all_goals clear he hh hme hd hk htk ho hs2
    all_goals first
     |(rw [ef1];rotate_left;iterate 1 (focus (simp_all;done)))|(rw [ef4];rotate_left;iterate 2 (focus (simp_all;done)))
     |(exfalso;simp_all;done)
    all_goals refine auV ?_
    all_goals try exact z8
    all_goals try simp only [hsM] at *
    all_goals rfl
 |true=>
  rw [if_neg (fun q=>Bool.noConfusion q.1)]
  by_cases h3:e2=0
  rotate_left
  ·rw [if_pos h3]
   have hme:True:=trivial;have hd:True:=trivial;have hk:True:=trivial;have htk:True:=trivial;have ho:True:=trivial;have hs2:True:=trivial;have c1:True:=trivial;have c2:True:=trivial;have c3:True:=trivial;have c4:True:=trivial;have c5:True:=trivial
   refine z4 {} 0 Tryz.func50 fun Γ hW=>auC ?_
   repeat' first|refine auS ?_|(first|(with_reducible refine z0 he ?_)|(with_reducible refine z0 hh ?_)|(with_reducible refine z0 hme ?_)|(with_reducible refine z0 hd ?_)|(with_reducible refine z0 hk ?_)|(with_reducible refine z0 htk ?_)|(with_reducible refine z0 ho ?_)|(with_reducible refine z0 hs2 ?_)|(simp only [c2,c3,c4,c1,c5,z5,zj]))|refine auD ?_|(refine auW ?_ ?_<;>intro h<;>try exact auH)|(first|(simp only [z5,zj,Int.toNat_natCast])|(refine z7 (by simp only [z5,Int.toNat_natCast];omega) ?_)|fail)
   all_goals try exact auP
   all_goals try (exfalso;simp_all;done)
   all_goals refine auV ?_
   all_goals try exact z8
   all_goals try simp only [hsM] at *
   all_goals rfl
  subst h3
  rw [if_neg (not_not_intro rfl)]
  obtain ⟨t20,tf⟩:=hfc rfl rfl
  have c1:IntKind.i64.wrap (bN t 0:Nat)=(bN t 0:Nat):=IntWalk.i64_in _ (by have:=yi t 0;omega)
  have c2:((bN t 0:Nat):Int).tmod 16=((bN t 0 % 16:Nat):Int):=(Int.ofNat_tmod _ 16).symm
  have c3:IntKind.i64.wrap (4*((bN t 0 % 16:Nat):Int))=((hN t:Nat):Int):=by unfold hN;rw [IntWalk.i64_in _ (by omega)];omega
  have c4:IntKind.i64.wrap (((hN t:Nat):Int)+13)=((hN t+13:Nat):Int):=by rw [IntWalk.i64_in _ (by unfold hN;omega)];omega
  have c5:IntKind.i64.wrap (bN t (hN t+13):Nat)=(bN t (hN t+13):Nat):=IntWalk.i64_in _ (by have:=yi t (hN t+13);omega)
  have htl:t.length≤140737488351232:=by have:=hhl rfl;omega
  have hfo:=hed rfl
  have hme:=l7 u hw hE fr now (t.length:Nat) hnow (by have:=hhl rfl;omega)
  have hd:=R.pD u.p.rs (toR ⟨fr,to,proto,fp,tp⟩) u.p.el hw.rs.1 hw.p.2 ⟨hfo.fr,hfo.to⟩
  have hnow2:0≤now∧now≤1099511627776:=⟨by have:=sn (vW hE).2.2.2.2;have:wb u.ms≤xX u:=by unfold xX;omega
                                          omega,hnow.2⟩
  have htr:=(vW hE).2.1
  have hpr:=hfo.pr
  generalize qR u fr now (t.length:Nat)=mm at *
  obtain ⟨l,ok⟩:=mm
  dsimp only at *
  have ho:zd Tryz.prog 86 [A.dNt u.n.l u.n.b1 u.n.t1 u.n.b2 u.n.t2 u.n.ms,.v (.int .i64 proto),.v (.int .u32 fr),.v (.int .i64 fp),.v (.int .i64 now)] (A.j5 u.n.l u.n.b1 u.n.b2 (sb u.n proto fr fp now)):=A.Zd u.n.l u.n.b1 u.n.t1 u.n.b2 u.n.t2 u.n.ms proto fr fp now hw.n.ms hw.n.t1 hw.n.t2
  have hs2:=Zh t u.p.ou (sb u.n proto fr fp now).2.2.2.1 htl hw.p.1
  have hk:=ng { u with ms:=l } htr fr to fp tp now hnow2
  have htk:=tK { u with ms:=l } htr fr to fp tp (bN t (hN t+13):Nat) now hnow2 false
  unfold uY
  unfold dSw at hs2
  dsimp only at hk htk ⊢
  generalize sb u.n proto fr fp now=r at *
  obtain ⟨T1,T2,MS,p,e3⟩:=r
  dsimp only at *
  generalize rnR t u.p.ou p 12 0=O at *
  obtain ⟨o,oe⟩:=O
  generalize T.knB u.tr fr to fp tp now=K at *
  generalize R.s5 u.p.rs (toR ⟨fr,to,proto,fp,tp⟩) u.p.el=DD at *
  obtain ⟨D,d1,d2⟩:=DD
  dsimp only at *
  cases ok with
  |false=>
   rw [if_pos rfl]
   rcases hpr with rfl|rfl
   ·have tf:=(tf rfl).1
    refine z4 {} 0 Tryz.func50 fun Γ hW=>auC ?_
    repeat' first|refine auS ?_|(first|(with_reducible refine z0 he ?_)|(with_reducible refine z0 hh ?_)|(with_reducible refine z0 hme ?_)|(with_reducible refine z0 hd ?_)|(with_reducible refine z0 hk ?_)|(with_reducible refine z0 htk ?_)|(with_reducible refine z0 ho ?_)|(with_reducible refine z0 hs2 ?_)|(simp only [c2,c3,c4,c1,c5,z5,zj]))|refine auD ?_|(refine auW ?_ ?_<;>intro h<;>try exact auH)|(first|(simp only [z5,zj,Int.toNat_natCast])|(refine z7 (by simp only [z5,Int.toNat_natCast];omega) ?_)|fail)
    all_goals try exact auP
    all_goals try (exfalso;simp_all;done)
    all_goals refine auV ?_
    all_goals try exact z8
    all_goals try simp only [hsM] at *
    all_goals rfl
   ·clear tf
    refine z4 {} 0 Tryz.func50 fun Γ hW=>auC ?_
    repeat' first|refine auS ?_|(first|(with_reducible refine z0 he ?_)|(with_reducible refine z0 hh ?_)|(with_reducible refine z0 hme ?_)|(with_reducible refine z0 hd ?_)|(with_reducible refine z0 hk ?_)|(with_reducible refine z0 htk ?_)|(with_reducible refine z0 ho ?_)|(with_reducible refine z0 hs2 ?_)|(simp only [c2,c3,c4,c1,c5,z5,zj]))|refine auD ?_|(refine auW ?_ ?_<;>intro h<;>try exact auH)|(first|(simp only [z5,zj,Int.toNat_natCast])|(refine z7 (by simp only [z5,Int.toNat_natCast];omega) ?_)|fail)
    all_goals try exact auP
    all_goals try (exfalso;simp_all;done)
    all_goals refine auV ?_
    all_goals try exact z8
    all_goals try simp only [hsM] at *
    all_goals rfl
  |true=>
   rw [if_neg (by decide),if_pos rfl]
   unfold o5 at htk
   rw [if_neg (by simp)] at htk
   rcases hpr with rfl|rfl
   ·obtain ⟨tf,tg⟩:=tf rfl
    rw [tg]
    generalize uq u.tr fr to fp tp (bN t (hN t+13):Nat) now=tk at *
    obtain ⟨tr2,B⟩:=tk
    dsimp only at htk
    refine z4 {} 0 Tryz.func50 fun Γ hW=>auC ?_
    repeat' first|refine auS ?_|(first|(with_reducible refine z0 he ?_)|(with_reducible refine z0 hh ?_)|(with_reducible refine z0 hme ?_)|(with_reducible refine z0 hd ?_)|(with_reducible refine z0 hk ?_)|(with_reducible refine z0 htk ?_)|(with_reducible refine z0 ho ?_)|(with_reducible refine z0 hs2 ?_)|(simp only [c2,c3,c4,c1,c5,z5,zj]))|refine auD ?_|(refine auW ?_ ?_<;>intro h<;>try exact auH)|(first|(simp only [z5,zj,Int.toNat_natCast])|(refine z7 (by simp only [z5,Int.toNat_natCast];omega) ?_)|fail)
    all_goals try exact auP
    all_goals try (exfalso;simp_all;done)
    all_goals clear he hh hme hd hk htk ho hs2
    all_goals first
     |(rw [lf1];rotate_left;iterate 2 (focus (simp_all;done)))|(rw [lf2];rotate_left;iterate 3 (focus (simp_all;done)))|(rw [lf3];rotate_left;iterate 3 (focus (simp_all;done)))|(rw [lf4];rotate_left;iterate 3 (focus (simp_all;done)))
     |(exfalso;simp_all;done)
    all_goals refine auV ?_
    all_goals try exact z8
    all_goals try simp only [hsM] at *
    all_goals rfl
   ·clear tf
    generalize uq u.tr fr to fp tp (flT t) now=tk at *
    obtain ⟨tr2,B⟩:=tk
    clear htk
    have htk:True:=trivial
    refine z4 {} 0 Tryz.func50 fun Γ hW=>auC ?_
    repeat' first|refine auS ?_|(first|(with_reducible refine z0 he ?_)|(with_reducible refine z0 hh ?_)|(with_reducible refine z0 hme ?_)|(with_reducible refine z0 hd ?_)|(with_reducible refine z0 hk ?_)|(with_reducible refine z0 htk ?_)|(with_reducible refine z0 ho ?_)|(with_reducible refine z0 hs2 ?_)|(simp only [c2,c3,c4,c1,c5,z5,zj]))|refine auD ?_|(refine auW ?_ ?_<;>intro h<;>try exact auH)|(first|(simp only [z5,zj,Int.toNat_natCast])|(refine z7 (by simp only [z5,Int.toNat_natCast];omega) ?_)|fail)
    all_goals try exact auP
    all_goals try (exfalso;simp_all;done)
    all_goals clear he hh hme hd hk htk ho hs2
    all_goals first
     |(rw [lf1];rotate_left;iterate 2 (focus (simp_all;done)))|(rw [lf3];rotate_left;iterate 3 (focus (simp_all;done)))|(rw [lf4];rotate_left;iterate 3 (focus (simp_all;done)))
     |(exfalso;simp_all;done)
    all_goals refine auV ?_
    all_goals try exact z8
    all_goals try simp only [hsM] at *
    all_goals rfl
end Go.Proofs.YtmibknbmhcnemaaGreatDoor
