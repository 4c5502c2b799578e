import Derived.Test.YtmibknbmhcnemaaGreatDoorHa46
import Derived.Test.YtmibknbmhcnemaaGreatDoorHa47
import Derived.Test.YtmibknbmhcnemaaGreatDoorHa48
set_option linter.unusedVariables false
set_option linter.unusedSimpArgs false
namespace Go.Proofs.YtmibknbmhcnemaaGreatDoor
theorem V2 {n:Nt} (h:n.wf) (he:kz n=0):n.ms.length≤128:=by
 have h1:A.wA n.b1 n.b2 [] n.ms n.t1 n.t2 0=true:=by
  unfold kz A.zJ at he
  split at he
  ·split at he
   ·assumption
   ·cases he
  ·cases he
 rw [←A.rS n.b1 n.b2 n.t1 n.t2 n.ms h.t1 h.t2,Bool.and_eq_true] at h1
 have h2:=h1.2
 unfold A.sX at h2
 rw [Bool.and_eq_true,decide_eq_true_eq] at h2
 have hb:∀b t,(A.yh b t).length≤64:=fun b t=>by
  unfold A.yh
  rw [List.length_map]
  exact Nat.le_trans (List.length_filter_le _ _) (by simp)
 have:=hb n.b1 n.t1
 have:=hb n.b2 n.t2
 omega
theorem XU {n:Nt} (h:n.wf) (pr ad po now:Int) (had:0≤ad∧ad<4294967296):(sb n pr ad po now).1<18446744073709551616∧(sb n pr ad po now).2.1<18446744073709551616∧(sb n pr ad po now).2.2.1.length≤n.ms.length+1∧∀m∈(sb n pr ad po now).2.2.1,0≤m.ad∧m.ad<4294967296:=by
 have hk:∀m∈n.ms,0≤m.ad∧m.ad<4294967296:=h.ad
 have hyl:(A.yng n.l now n.ms).length≤n.ms.length:=List.length_filter_le _ _
 have hy:∀(x:A.Mp),(0≤x.ad∧x.ad<4294967296)→∀(Y:List A.Mp),(∀m∈Y,m∈n.ms)→∀m∈Y++[x],0≤m.ad∧m.ad<4294967296:=fun x hx Y hY m hm=>by
  rcases List.mem_append.1 hm with hm|hm
  ·exact hk m (hY m hm)
  ·rw [List.mem_singleton.1 hm];exact hx
 have hys:∀m∈A.yng n.l now n.ms,m∈n.ms:=fun m hm=>(List.mem_filter.1 hm).1
 refine A.o4 n.l n.b1 n.t1 n.b2 n.t2 n.ms pr ad po now (Q:=fun r=>r.1<18446744073709551616∧r.2.1<18446744073709551616∧r.2.2.1.length≤n.ms.length+1∧∀m∈r.2.2.1,0≤m.ad∧m.ad<4294967296) (fun _=>⟨h.t1,h.t2,Nat.le_succ _,hk⟩) (fun _ _=>⟨h.t1,h.t2,Nat.le_succ _,hk⟩) (fun _ _ _=>⟨h.t1,h.t2,Nat.le_succ _,hk⟩) (fun he _ _ i m0 hi _ hm=>?_) (fun he _ _ hno=>?_)
 all_goals
  obtain ⟨-,-,hg,-,-⟩:=A.xP h.t1 h.t2 he
  have hgY:A.uh n.b1 n.b2 (A.yng n.l now n.ms):=hg.sub (List.filter_sublist (p:=A.vx n.l now) (l:=n.ms))
  have g1:=(A.vm n.b1 17 _ hgY.r1 hgY.nd).1
  have g2:=(A.vm n.b2 6 _ hgY.r2 hgY.nd).1
 ·refine ⟨g1,g2,?_,hy _ had _ (fun m hm=>hys m (List.mem_filter.1 hm).1)⟩
  dsimp only
  rw [List.length_append]
  exact Nat.add_le_add (Nat.le_trans (List.length_filter_le _ _) hyl) (Nat.le_refl _)
 ·have hl:∀x:A.Mp,(A.yng n.l now n.ms++[x]).length≤n.ms.length+1:=fun x=>by rw [List.length_append];exact Nat.add_le_add hyl (Nat.le_refl _)
  refine ⟨fun _ _=>⟨h.t1,h.t2,Nat.le_succ _,hk⟩,fun _ _=>⟨h.t1,h.t2,Nat.le_succ _,hk⟩,fun _ h0=>?_,fun _ h0=>?_⟩
  ·have hK:=A.vg (b:=n.b2) g2 (A.vf h0).2.2 po
   exact ⟨g1,A.iH g2 hK.1 hK.2,hl _,hy _ had _ hys⟩
  ·have hK:=A.vg (b:=n.b1) g1 (A.vf h0).2.2 po
   exact ⟨A.iH g1 hK.1 hK.2,g2,hl _,hy _ had _ hys⟩
theorem kM (l:List T.Tk) (a b c d fl now:Int):(uq l a b c d fl now).1.length≤l.length+1:=by
 have hy:(T.yng l now).length≤l.length:=List.length_filter_le _ _
 have h:(T.qp l a b c d fl now).1.length≤l.length+1:=by
  refine T.qI (Q:=fun r=>r.1.length≤l.length+1) (fun _=>Nat.le_succ _) (fun _ _=>Nat.le_succ _) (fun s1 s2 s3 s4 _ _ _ _=>?_) (fun s1 s2 s3 s4 i t _ _ _ _ _=>?_)
  ·unfold T.vF
   split
   ·exact Nat.le_succ_of_le hy
   ·split
    ·exact Nat.le_succ _
    ·rw [List.length_append];exact Nat.add_le_add hy (Nat.le_refl _)
  ·unfold T.x_
   split
   ·dsimp only;rw [List.length_append,List.length_take,List.length_drop];omega
   ·split
    ·exact Nat.le_succ_of_le hy
    ·dsimp only
     rw [List.length_append,List.length_append,List.length_take,List.length_drop,List.length_singleton]
     omega
 unfold uq
 split
 ·exact h
 ·exact Nat.le_succ _
theorem Xc (u:Hs) (a now n:Int):(qR u a now n).1.length≤u.ms.length+1:=by
 unfold qR
 split
 ·rw [List.length_append]
  exact Nat.add_le_add (List.length_filter_le _ _) (Nat.le_refl _)
 ·dsimp only
  rw [List.length_append,List.length_drop,List.length_singleton]
  omega
theorem mv {n b:Nat} (h:n≤65) (hb:b≤48):zT n b:=by
 have:n*b≤65*48:=Nat.mul_le_mul h hb
 unfold zT maxLen
 omega
theorem VK {u:Hs} (hw:u.wf) (hE:sL u=0) (inside:Bool) (s:List UInt8) (now:Int):(goR u inside s now).1.wf:=by
 obtain ⟨-,ht,hn,hf,-⟩:=vW hE
 have l1:=nB hf
 have l2:=(T.zr ht).1
 have l3:=V2 hw.n hn
 have w1:∀(ms:List Mt) (tr:List T.Tk) (n:Nt),ms.length≤65→tr.length≤65→n.wf→Hs.wf { u with ms:=ms,tr:=tr,n:=n }:=fun ms tr n h1 h2 h3=>⟨hw.p,hw.rs,mv h1 (by decide),mv h2 (by decide),h3⟩
 unfold goR
 split
 ·exact hw
 rename_i he
 have hfo:=fR (Classical.not_not.1 he)
 split
 ·exact hw
 split
 ·exact hw
 dsimp only
 have hm:=Xc u (edR s).1.fr now ((H.wi s).1.length:Nat)
 generalize qR u (edR s).1.fr now ((H.wi s).1.length:Nat)=m at *
 split
 ·exact w1 m.1 u.tr u.n (by omega) (by omega) hw.n
 split
 ·refine w1 _ _ _ (by omega) ?_ ?_
  ·have h:=kM u.tr (edR s).1.fr (edR s).1.to (edR s).1.fp (edR s).1.tp (flT (H.wi s).1) now
   unfold uY uN
   split
   ·show u.tr.length≤65;omega
   ·split
    ·dsimp only;omega
    ·split<;>(dsimp only;split<;>omega)
  ·obtain ⟨g1,g2,g3,g4⟩:=XU hw.n (edR s).1.proto (edR s).1.fr (edR s).1.fp now hfo.fr
   unfold uY uN
   split
   ·exact hw.n
   ·split
    ·exact hw.n
    ·split
     ·exact hw.n
     ·exact ⟨g1,g2,by dsimp only;omega,g4⟩
 ·refine w1 _ _ _ (by omega) ?_ hw.n
  have h:=kM u.tr (edR s).1.fr (tB u.n (edR s).1.proto (edR s).1.tp now).1 (edR s).1.fp (tB u.n (edR s).1.proto (edR s).1.tp now).2.1 (flT (H.wi s).1) now
  unfold sH s6
  split
  ·show u.tr.length≤65;omega
  ·split
   ·show u.tr.length≤65;omega
   ·split
    ·dsimp only;omega
    ·dsimp only;split<;>omega
theorem cB {u:Hs} (hw:u.wf) (inside:Bool) (s:List UInt8) (now:Int):(vl u inside s now).1.wf:=by
 unfold vl
 split
 ·exact hw
 ·rename_i h
  split
  ·exact hw
  ·exact VK hw (Classical.not_not.1 h) inside s now
structure Cm where
 (ins:Bool) (s:List UInt8) (tm:Int)
abbrev Cm.enc (c:Cm):List DV:=[.v (.bool c.ins),.v (.string (mkS c.s)),.v (.int .i64 c.tm)]
structure Wn where
 (s:List UInt8) (why err:Int)
abbrev Wn.enc (c:Wn):List DV:=[.v (.string (mkS c.s)),.v (.int .i64 c.why),.v (.int .i64 c.err)]
def qr (p:Hs×List Wn) (c:Cm):Hs×List Wn:=((vl p.1 c.ins c.s c.tm).1,p.2++[⟨(vl p.1 c.ins c.s c.tm).2.1,(vl p.1 c.ins c.s c.tm).2.2.1,(vl p.1 c.ins c.s c.tm).2.2.2⟩])
def tE (u:Hs) (l:List Cm):Hs×List Wn:=l.foldl qr (u,[])
theorem ab {u:Hs} {l:List Cm} {k:Nat} {t:Cm} (h:l[k]?=some t):tE u (l.take (k+1))=qr (tE u (l.take k)) t:=by
 unfold tE
 rw [List.take_add_one,h,List.foldl_append]
 rfl
theorem cU {u:Hs} (hw:u.wf):∀l:List Cm,(tE u l).1.wf∧(tE u l).2.length=l.length:=by
 intro l
 have:∀(l:List Cm) (p:Hs×List Wn),p.1.wf→(l.foldl qr p).1.wf∧(l.foldl qr p).2.length=p.2.length+l.length:=by
  intro l
  induction l with
  |nil=>exact fun p h=>⟨h,rfl⟩
  |cons c r ih=>
   intro p h
   obtain ⟨h1,h2⟩:=ih (qr p c) (cB h _ _ _)
   refine ⟨h1,?_⟩
   rw [List.foldl_cons,h2]
   unfold qr
   simp
   omega
 have h:=this l (u,[]) hw
 exact ⟨h.1,by rw [show (tE u l)=l.foldl qr (u,[]) from rfl,h.2];simp⟩
end Go.Proofs.YtmibknbmhcnemaaGreatDoor
namespace Go.Proofs.YtmibknbmhcnemaaGreatDoor
attribute [local irreducible] zF Go
set_option maxRecDepth 100000
theorem Vi (g:Nat) (l:List Wn):xi g (l.map Wn.enc):=zn (fun x=>by simp [Wn.enc,nfL,nfD])
theorem WP {l:List Cm} {k:Nat} {t:Cm} (ht:l[k]?=some t):yp (l.map Cm.enc) k=t.enc:=y7 Cm.enc l k t ht
set_option maxHeartbeats 8000000 in
theorem Vp (u:Hs) (hw:u.wf) (l:List Cm) (hl:l.length≤300) (hs:∀x∈l,x.s.length≤140737488351232) (n0:Nat):vA Tryz.prog 18 [dH u,.sl 0 n0 3 0 l.length true] [some ⟨n0,3,l.map Cm.enc⟩] (fun m d H=>d=.tup [dH (tE u l).1,.sl 6 m 3 0 (tE u l).2.length false]∧H=[some ⟨n0,3,l.map Cm.enc⟩,some ⟨m,3,(tE u l).2.map Wn.enc⟩]):=by
 have hcl:(l.map Cm.enc).length=l.length:=List.length_map ..
 refine YE {} 1 Tryz.func18 fun Γ hN0 hL0=>auC ?_
 repeat' first|refine auS ?_|fail|refine auD ?_|(refine auW ?_ ?_<;>intro h<;>try exact auH)|fail
 refine zR (yM (xa ⟨.d0,.d0,.d6⟩ 6 3 rfl rfl)) ?_
 refine ze (α:=Nat×Nat×Nat) (fun x=>[(⟨.d0,.d1,.d4⟩,.v (.int .i64 (x.1:Nat))),(⟨.d0,.d0,.d6⟩,.sl 6 x.2.1 3 0 (tE u (l.take x.1)).2.length false)]) (fun x=>[(1,some ⟨Γ.g0,16,[(tE u (l.take x.1)).1.row (msD (tE u (l.take x.1)).1.ms)]⟩),(3,none),(4,none),(5,none),(6,some ⟨x.2.1,3,(tE u (l.take x.1)).2.map Wn.enc⟩)]) (fun x=>x.2.2) (fun x=>l.length-x.1) (fun x=>x.1≤l.length∧Γ.g0≤x.2.1∧Γ.g0≤x.2.2) (0,Γ.g0+2,Γ.g0+3) ⟨Nat.zero_le _,by simp,by simp⟩ ?_ ?_
 ·skip
  refine zb ?_ ?_ (Nat.le_refl _)
  all_goals first|refine auE ?_|exact zi
  all_goals repeat' first|exact trivial|exact rfl|apply And.intro
 rintro ⟨k,nm,g⟩ ⟨hk,hg1,hg2⟩
 dsimp only at hk hg1 hg2 ⊢
 refine auL ?_
 by_cases hlt:k<l.length
 ·obtain ⟨⟨ci,cs,ct⟩,ht⟩:∃t,l[k]?=some t:=⟨_,List.getElem?_eq_getElem hlt⟩
  have ex:=WP ht
  have hcs:=hs _ (List.mem_of_getElem? ht)
  have hst:=ab (u:=u) ht
  obtain ⟨hv,hO⟩:=cU hw (l.take k)
  rw [List.length_take,Nat.min_eq_left (by omega)] at hO
  generalize tE u (l.take k)=p at *
  obtain ⟨v,O⟩:=p
  dsimp only at hv hO hst hcs ⊢
  have hr:=n4 v hv
  have hbt:=z6 ct (xX v) 1099511627776
  have e1:∀w:Wn,O.map Wn.enc++[w.enc]=(O++[w]).map Wn.enc:=fun w=>by rw [List.map_append];rfl
  have e3:∀y z:Int,O.map Wn.enc++[[.v (.string { data:=#[] }),.v (.int .i64 y),.v (.int .i64 z)]]=(O++[(⟨[],y,z⟩:Wn)]).map Wn.enc:=fun y z=>e1 ⟨[],y,z⟩
  have e2:∀w:Wn,(O.map Wn.enc).length+1=(O++[w]).length:=fun w=>by simp
  by_cases hE:sL v=0
  ·have hla:=gZ v hv hE
   by_cases hn:xX v≤ct∧ct≤1099511627776
   ·have hhr:vl v ci cs ct=((goR v ci cs ct).1,(goR v ci cs ct).2.2.2.1,(goR v ci cs ct).2.2.2.2,0):=by unfold vl;rw [if_neg (not_not_intro hE),if_neg (by omega)]
    have hhe:=eV v hv hE ci cs hcs ct hn
    rw [hE] at hr
    rw [decide_eq_true hn] at hbt
    clear hE hn
    generalize xX v=L at *
    generalize goR v ci cs ct=G at *
    obtain ⟨v2,f2,t2,o2,y2⟩:=G
    dsimp only at hhr hhe
    repeat' first|refine auS ?_|(first|(with_reducible refine z0 hr ?_)|(with_reducible refine z0 hla ?_)|(with_reducible refine z0 hbt ?_)|(with_reducible refine z0 hhe ?_))|refine auD ?_|(refine auW ?_ ?_<;>intro h<;>try exact auH)|(simp only [Int.toNat_natCast,Nat.zero_add,ex])
    all_goals try exact auP
    all_goals try (exfalso;simp_all;done)
    first
     |rw [e1 (⟨o2,y2,0⟩:Wn),e2 (⟨o2,y2,0⟩:Wn)]
     |rw [e3,e2 (⟨o2,y2,0⟩:Wn)]
    refine za ⟨(k+1,g+3,g+4),⟨hlt,Nat.le_add_right_of_le hg2,Nat.le_add_right_of_le hg2⟩,Nat.sub_lt_sub_left hlt (Nat.lt_succ_self k),?_⟩
    dsimp only
    rw [hst]
    unfold qr
    dsimp only
    rw [hhr]
    refine zb ?_ ?_ (Nat.le_refl _)
    all_goals first|refine auE ?_|exact zi
    all_goals repeat' first|exact trivial|exact rfl|apply And.intro
    all_goals first
     |exact zC ((IntWalk.i64_in _ (by omega)).trans (by omega))
     |rfl
   ·have hhr:vl v ci cs ct=(v,[],0,1):=by unfold vl;rw [if_neg (not_not_intro hE),if_pos (by omega)]
    have hhe:True:=trivial
    rw [hE] at hr
    rw [decide_eq_false hn] at hbt
    clear hE hn
    generalize xX v=L at *
    repeat' first|refine auS ?_|(first|(with_reducible refine z0 hr ?_)|(with_reducible refine z0 hla ?_)|(with_reducible refine z0 hbt ?_)|(with_reducible refine z0 hhe ?_))|refine auD ?_|(refine auW ?_ ?_<;>intro h<;>try exact auH)|(simp only [Int.toNat_natCast,Nat.zero_add,ex])
    all_goals try exact auP
    all_goals try (exfalso;simp_all;done)
    first
     |rw [e1 (⟨[],0,1⟩:Wn),e2 (⟨[],0,1⟩:Wn)]
     |rw [e3,e2 (⟨[],0,1⟩:Wn)]
    refine za ⟨(k+1,g+3,g+4),⟨hlt,Nat.le_add_right_of_le hg2,Nat.le_add_right_of_le hg2⟩,Nat.sub_lt_sub_left hlt (Nat.lt_succ_self k),?_⟩
    dsimp only
    rw [hst]
    unfold qr
    dsimp only
    rw [hhr]
    refine zb ?_ ?_ (Nat.le_refl _)
    all_goals first|refine auE ?_|exact zi
    all_goals repeat' first|exact trivial|exact rfl|apply And.intro
    all_goals first
     |exact zC ((IntWalk.i64_in _ (by omega)).trans (by omega))
     |rfl
  ·have hhr:vl v ci cs ct=(v,[],0,sL v):=by unfold vl;rw [if_pos hE]
   have hhe:True:=trivial
   have hla:True:=trivial
   generalize sL v=e at *
   generalize xX v=L at *
   repeat' first|refine auS ?_|(first|(with_reducible refine z0 hr ?_)|(with_reducible refine z0 hla ?_)|(with_reducible refine z0 hbt ?_)|(with_reducible refine z0 hhe ?_))|refine auD ?_|(refine auW ?_ ?_<;>intro h<;>try exact auH)|(simp only [Int.toNat_natCast,Nat.zero_add,ex])
   all_goals try exact auP
   all_goals try (exfalso;simp_all;done)
   first
    |rw [e1 (⟨[],0,e⟩:Wn),e2 (⟨[],0,e⟩:Wn)]
    |rw [e3,e2 (⟨[],0,e⟩:Wn)]
   refine za ⟨(k+1,g+3,g+4),⟨hlt,Nat.le_add_right_of_le hg2,Nat.le_add_right_of_le hg2⟩,Nat.sub_lt_sub_left hlt (Nat.lt_succ_self k),?_⟩
   dsimp only
   rw [hst]
   unfold qr
   dsimp only
   rw [hhr]
   refine zb ?_ ?_ (Nat.le_refl _)
   all_goals first|refine auE ?_|exact zi
   all_goals repeat' first|exact trivial|exact rfl|apply And.intro
   all_goals first
    |exact zC ((IntWalk.i64_in _ (by omega)).trans (by omega))
    |rfl
 ·obtain rfl:k=l.length:=by omega
  simp only [List.take_length]
  obtain ⟨hv,hO⟩:=cU hw l
  generalize tE u l=p at *
  obtain ⟨v,O⟩:=p
  dsimp only at hv hO ⊢
  have hnf:=fun g=>Vi g O
  have hnf2:=fun g=>o_ g v
  repeat' first|refine auS ?_|fail|refine auD ?_|(refine auW ?_ ?_<;>intro h<;>try exact auH)|fail
  all_goals try exact auP
  refine kH ⟨⟨⟨rfl,rfl,Nat.succ_pos _,Nat.le_refl 16⟩,trivial⟩,⟨⟨hN0 0 _ rfl,zn (fun x=>by simp [Cm.enc,nfL,nfD])⟩,trivial⟩,6,_,3,_,fun m=>.tup [dH v,.sl 6 m 3 0 O.length false],rfl,by decide,hg1,Vi _ _,fun m=>⟨⟨⟨⟨rfl,trivial⟩,⟨rfl,trivial⟩,⟨rfl,trivial⟩,⟨rfl,trivial⟩,⟨rfl,trivial⟩,⟨rfl,trivial⟩,⟨rfl,md _ _⟩,⟨rfl,trivial⟩,⟨rfl,ww _ _⟩,⟨rfl,iL _ _⟩,⟨rfl,trivial⟩,⟨rfl,trivial⟩,⟨rfl,trivial⟩,⟨rfl,trivial⟩,⟨rfl,trivial⟩,⟨rfl,A.xY _ _⟩,rfl⟩,.inl ⟨rfl,rfl⟩,rfl⟩,rfl,rfl⟩⟩
theorem Z8 (u:Hs) (hw:u.wf) (l:List Cm) (hl:l.length≤300) (hs:∀x∈l,x.s.length≤140737488351232) (j k n0:Nat):vA Tryz.prog 18 [dH u,.sl j n0 3 0 l.length true] [some ⟨n0,3,l.map Cm.enc⟩] (fun m d H=>d=.tup [dH (tE u l).1,.sl k m 3 0 (tE u l).2.length false]∧H=[some ⟨n0,3,l.map Cm.enc⟩,some ⟨m,3,(tE u l).2.map Wn.enc⟩]):=
 p5 (D:=fun m=>.tup [dH (tE u l).1,.sl 6 m 3 0 (tE u l).2.length false]) (L:=fun m=>[some ⟨n0,3,l.map Cm.enc⟩,some ⟨m,3,(tE u l).2.map Wn.enc⟩])
  ⟨(Vp u hw l hl hs n0).1,fun K w vs g0 a b c=>(Vp u hw l hl hs n0).2 K w vs g0 a b ⟨c.1,fun i x v hx hv=>by
    match i,hx with
    |0,hx=>exact c.2 0 x v hx hv
    |1,hx=>
     obtain rfl:=Option.some.inj hx
     exact wq (c.2 1 _ v rfl hv)⟩⟩
  (fun K w n v hv=>by
   cases hv with
   |tup hl h=>
    refine .tup hl fun i d c hd hc=>?_
    match i,hd with
    |0,hd=>exact h 0 d c hd hc
    |1,hd=>
     obtain rfl:=Option.some.inj hd
     exact wq (h 1 _ c rfl hc))
end Go.Proofs.YtmibknbmhcnemaaGreatDoor
namespace Go.Proofs.YtmibknbmhcnemaaGreatDoor
attribute [local irreducible] zF Go
set_option maxRecDepth 100000
set_option maxHeartbeats 1000000 in
theorem bH (l:List Mt) (c c':Bool) (hl:l.length≤maxLen):zd Tryz.prog 38 [.snap 5 (l.map Mt.enc) c,.snap 5 (l.map Mt.enc) c'] (.v (.bool true)):=by
 unfold maxLen at hl
 refine z4 {} 0 Tryz.func38 fun Γ hW=>auC ?_
 repeat' first|refine auS ?_|fail|refine auD ?_|(refine auW ?_ ?_<;>intro h<;>try exact auH)|fail
 refine ze (α:=Nat) (fun k=>[(⟨.d0,.d1,.d5⟩,.v (.int .i64 (k:Nat)))]) (fun _=>[]) (fun _=>Γ.g0) (fun k=>l.length-k) (fun k=>k≤l.length) 0 (Nat.zero_le _) ?_ ?_
 ·skip
  refine zb ?_ ?_ (Nat.le_refl _)
  all_goals first|refine auE ?_|exact zi
  all_goals repeat' first|exact trivial|exact rfl|apply And.intro
 ·rintro k hk
  refine auL ?_
  by_cases hlt:k<l.length
  ·obtain ⟨t,ht⟩:∃t,l[k]?=some t:=⟨_,List.getElem?_eq_getElem hlt⟩
   have ex:=y7 Mt.enc l k t ht
   repeat' first|refine auS ?_|fail|refine auD ?_|(refine auW ?_ ?_<;>intro h<;>try exact auH)|(simp only [Int.toNat_natCast,ex])
   all_goals try exact auP
   all_goals first
    |(exfalso;simp at h;done)
    |(refine za ⟨k+1,Nat.succ_le_of_lt hlt,Nat.sub_lt_sub_left hlt (Nat.lt_succ_self k),?_⟩
      (refine zb ?_ ?_ (Nat.le_refl _));(all_goals first|refine auE ?_|exact zi);(all_goals (repeat' (first|exact trivial|exact rfl|apply And.intro)))
      all_goals exact zC ((IntWalk.i64_in _ (by omega)).trans (by omega)))
  ·skip
   repeat' first|refine auS ?_|fail|refine auD ?_|(refine auW ?_ ?_<;>intro h<;>try exact auH)|fail
   all_goals try exact auP
   all_goals refine auV ?_
   all_goals try exact z8
   all_goals try simp only [hsM] at *
set_option maxHeartbeats 1000000 in
theorem kO (l:List T.Tk) (c c':Bool) (hl:l.length≤maxLen):zd Tryz.prog 39 [.snap 7 (l.map T.Tk.enc) c,.snap 7 (l.map T.Tk.enc) c'] (.v (.bool true)):=by
 unfold maxLen at hl
 refine z4 {} 0 Tryz.func39 fun Γ hW=>auC ?_
 repeat' first|refine auS ?_|fail|refine auD ?_|(refine auW ?_ ?_<;>intro h<;>try exact auH)|fail
 refine ze (α:=Nat) (fun k=>[(⟨.d0,.d1,.d5⟩,.v (.int .i64 (k:Nat)))]) (fun _=>[]) (fun _=>Γ.g0) (fun k=>l.length-k) (fun k=>k≤l.length) 0 (Nat.zero_le _) ?_ ?_
 ·skip
  refine zb ?_ ?_ (Nat.le_refl _)
  all_goals first|refine auE ?_|exact zi
  all_goals repeat' first|exact trivial|exact rfl|apply And.intro
 ·rintro k hk
  refine auL ?_
  by_cases hlt:k<l.length
  ·obtain ⟨t,ht⟩:∃t,l[k]?=some t:=⟨_,List.getElem?_eq_getElem hlt⟩
   have ex:=y7 T.Tk.enc l k t ht
   repeat' first|refine auS ?_|fail|refine auD ?_|(refine auW ?_ ?_<;>intro h<;>try exact auH)|(simp only [Int.toNat_natCast,ex])
   all_goals try exact auP
   all_goals first
    |(exfalso;simp at h;done)
    |(refine za ⟨k+1,Nat.succ_le_of_lt hlt,Nat.sub_lt_sub_left hlt (Nat.lt_succ_self k),?_⟩
      (refine zb ?_ ?_ (Nat.le_refl _));(all_goals first|refine auE ?_|exact zi);(all_goals (repeat' (first|exact trivial|exact rfl|apply And.intro)))
      all_goals exact zC ((IntWalk.i64_in _ (by omega)).trans (by omega)))
  ·skip
   repeat' first|refine auS ?_|fail|refine auD ?_|(refine auW ?_ ?_<;>intro h<;>try exact auH)|fail
   all_goals try exact auP
   all_goals refine auV ?_
   all_goals try exact z8
   all_goals try simp only [hsM] at *
set_option maxHeartbeats 1000000 in
theorem bF (l:List R.Rl) (c c':Bool) (hl:l.length≤maxLen):zd Tryz.prog 68 [.snap 10 (l.map R.Rl.enc) c,.snap 10 (l.map R.Rl.enc) c'] (.v (.bool true)):=by
 unfold maxLen at hl
 refine z4 {} 0 Tryz.func68 fun Γ hW=>auC ?_
 repeat' first|refine auS ?_|fail|refine auD ?_|(refine auW ?_ ?_<;>intro h<;>try exact auH)|fail
 refine ze (α:=Nat) (fun k=>[(⟨.d0,.d1,.d5⟩,.v (.int .i64 (k:Nat)))]) (fun _=>[]) (fun _=>Γ.g0) (fun k=>l.length-k) (fun k=>k≤l.length) 0 (Nat.zero_le _) ?_ ?_
 ·skip
  refine zb ?_ ?_ (Nat.le_refl _)
  all_goals first|refine auE ?_|exact zi
  all_goals repeat' first|exact trivial|exact rfl|apply And.intro
 ·rintro k hk
  refine auL ?_
  by_cases hlt:k<l.length
  ·obtain ⟨t,ht⟩:∃t,l[k]?=some t:=⟨_,List.getElem?_eq_getElem hlt⟩
   have ex:=y7 R.Rl.enc l k t ht
   repeat' first|refine auS ?_|fail|refine auD ?_|(refine auW ?_ ?_<;>intro h<;>try exact auH)|(simp only [Int.toNat_natCast,ex])
   all_goals try exact auP
   all_goals first
    |(exfalso;simp at h;done)
    |(refine za ⟨k+1,Nat.succ_le_of_lt hlt,Nat.sub_lt_sub_left hlt (Nat.lt_succ_self k),?_⟩
      (refine zb ?_ ?_ (Nat.le_refl _));(all_goals first|refine auE ?_|exact zi);(all_goals (repeat' (first|exact trivial|exact rfl|apply And.intro)))
      all_goals exact zC ((IntWalk.i64_in _ (by omega)).trans (by omega)))
  ·skip
   repeat' first|refine auS ?_|fail|refine auD ?_|(refine auW ?_ ?_<;>intro h<;>try exact auH)|fail
   all_goals try exact auP
   all_goals refine auV ?_
   all_goals try exact z8
   all_goals try simp only [hsM] at *
set_option maxHeartbeats 1000000 in
theorem Z_ (l:List A.Mp) (c c':Bool) (hl:l.length≤maxLen):zd Tryz.prog 69 [.snap 5 (l.map A.Mp.enc) c,.snap 5 (l.map A.Mp.enc) c'] (.v (.bool true)):=by
 unfold maxLen at hl
 refine z4 {} 0 Tryz.func69 fun Γ hW=>auC ?_
 repeat' first|refine auS ?_|fail|refine auD ?_|(refine auW ?_ ?_<;>intro h<;>try exact auH)|fail
 refine ze (α:=Nat) (fun k=>[(⟨.d0,.d1,.d5⟩,.v (.int .i64 (k:Nat)))]) (fun _=>[]) (fun _=>Γ.g0) (fun k=>l.length-k) (fun k=>k≤l.length) 0 (Nat.zero_le _) ?_ ?_
 ·skip
  refine zb ?_ ?_ (Nat.le_refl _)
  all_goals first|refine auE ?_|exact zi
  all_goals repeat' first|exact trivial|exact rfl|apply And.intro
 ·rintro k hk
  refine auL ?_
  by_cases hlt:k<l.length
  ·obtain ⟨t,ht⟩:∃t,l[k]?=some t:=⟨_,List.getElem?_eq_getElem hlt⟩
   have ex:=y7 A.Mp.enc l k t ht
   repeat' first|refine auS ?_|fail|refine auD ?_|(refine auW ?_ ?_<;>intro h<;>try exact auH)|(simp only [Int.toNat_natCast,ex])
   all_goals try exact auP
   all_goals first
    |(exfalso;simp at h;done)
    |(refine za ⟨k+1,Nat.succ_le_of_lt hlt,Nat.sub_lt_sub_left hlt (Nat.lt_succ_self k),?_⟩
      (refine zb ?_ ?_ (Nat.le_refl _));(all_goals first|refine auE ?_|exact zi);(all_goals (repeat' (first|exact trivial|exact rfl|apply And.intro)))
      all_goals exact zC ((IntWalk.i64_in _ (by omega)).trans (by omega)))
  ·skip
   repeat' first|refine auS ?_|fail|refine auD ?_|(refine auW ?_ ?_<;>intro h<;>try exact auH)|fail
   all_goals try exact auP
   all_goals refine auV ?_
   all_goals try exact z8
   all_goals try simp only [hsM] at *
theorem eY (n:Nt) (h:n.wf):zd Tryz.prog 40 [.agg n.enc,.agg n.enc] (.v (.bool true)):=by
 have h1:=Z_ n.ms false false h.mm.1
 refine z4 {} 0 Tryz.func40 fun Γ hW=>auC ?_
 repeat' first|refine auS ?_|(with_reducible refine z0 h1 ?_)|refine auD ?_|(refine auW ?_ ?_<;>intro h<;>try exact auH)|fail
 all_goals try exact auP
 all_goals try (exfalso;simp_all;done)
 all_goals refine auV ?_
 all_goals try exact z8
 all_goals try simp only [hsM] at *
theorem de (p:R.Pl) (h:zT p.rs.length 80):zd Tryz.prog 37 [R.dPl p false,R.dPl p false] (.v (.bool true)):=by
 have h1:=bF p.rs false false h.1
 refine z4 {} 0 Tryz.func37 fun Γ hW=>auC ?_
 repeat' first|refine auS ?_|(with_reducible refine z0 h1 ?_)|refine auD ?_|(refine auW ?_ ?_<;>intro h<;>try exact auH)|fail
 all_goals try exact auP
 all_goals try (exfalso;simp_all;done)
 all_goals refine auV ?_
 all_goals try exact z8
 all_goals try simp only [hsM] at *
theorem js (u:Hs) (h:u.wf):zd Tryz.prog 15 [dH u,dH u] (.v (.bool true)):=by
 have h1:=de u.p h.rs
 have h2:=bH u.ms false false h.ms.1
 have h3:=kO u.tr false false h.tr.1
 have h4:=eY u.n h.n
 refine z4 {} 0 Tryz.func15 fun Γ hW=>auC ?_
 repeat' first|refine auS ?_|(first|(with_reducible refine z0 h1 ?_)|(with_reducible refine z0 h2 ?_)|(with_reducible refine z0 h3 ?_)|(with_reducible refine z0 h4 ?_))|refine auD ?_|(refine auW ?_ ?_<;>intro h<;>try exact auH)|fail
 all_goals try exact auP
 all_goals try (exfalso;simp_all;done)
 all_goals refine auV ?_
 all_goals try exact z8
 all_goals try simp only [hsM] at *
end Go.Proofs.YtmibknbmhcnemaaGreatDoor
namespace Go.Proofs.YtmibknbmhcnemaaGreatDoor
attribute [local irreducible] zF Go
set_option maxRecDepth 100000
open Go.ChangeShapes Go.WideShapes Go.ChangeAt Go.RowKit
def wP:List Sh:=[.cons (.int .u32) (.cons (.int .i64) (.cons (.int .i64) (.cons (.int .i64) (.cons (.int .i64) (.cons (.int .i64) (.cons (.slice 80 10 (.cons (.cons (.int .u32) (.cons (.int .i64) (.nil))) (.cons (.cons (.int .u32) (.cons (.int .i64) (.nil))) (.cons (.int .i64) (.cons (.int .i64) (.cons (.int .i64) (.cons (.int .i64) (.cons (.int .i64) (.cons (.bool) (.nil)))))))))) (.cons (.bool) (.nil)))))))),.cons (.cons (.int .u32) (.cons (.int .i64) (.cons (.int .i64) (.cons (.int .i64) (.cons (.int .i64) (.cons (.int .i64) (.cons (.slice 80 10 (.cons (.cons (.int .u32) (.cons (.int .i64) (.nil))) (.cons (.cons (.int .u32) (.cons (.int .i64) (.nil))) (.cons (.int .i64) (.cons (.int .i64) (.cons (.int .i64) (.cons (.int .i64) (.cons (.int .i64) (.cons (.bool) (.nil)))))))))) (.cons (.bool) (.nil))))))))) (.cons (.slice 40 5 (.cons (.int .u32) (.cons (.cons (.int .i64) (.cons (.int .i64) (.cons (.int .i64) (.cons (.int .i64) (.nil))))) (.nil)))) (.cons (.slice 48 7 (.cons (.cons (.int .u32) (.cons (.int .u32) (.cons (.int .i64) (.cons (.int .i64) (.nil))))) (.cons (.int .i64) (.cons (.int .i64) (.cons (.int .i64) (.nil)))))) (.cons (.cons (.int .i64) (.cons (.cons (.int .i64) (.cons (.int .u64) (.nil))) (.cons (.cons (.int .i64) (.cons (.int .u64) (.nil))) (.cons (.slice 40 5 (.cons (.int .i64) (.cons (.int .u32) (.cons (.int .i64) (.cons (.int .i64) (.cons (.int .i64) (.nil))))))) (.nil))))) (.nil)))),.bool,.str,.int .i64]
theorem WW {p:R.Pl} (h:p.wf) (hr:zT p.rs.length 80):(f9 p).wf:=by
 have h0:zT 0 40∧zT 0 48∧zT 0 80:=by unfold zT maxLen;omega
 unfold f9
 split
 ·exact ⟨h,hr,h0.1,h0.2.1,⟨by simp,by simp,by simp,fun m hm=>(by cases hm)⟩⟩
 ·exact ⟨⟨by simp [hs0],fun r hr=>(by cases hr)⟩,h0.2.2,h0.1,h0.2.1,⟨by simp [hs0],by simp [hs0],by simp [hs0],fun m hm=>(by cases hm)⟩⟩
set_option maxHeartbeats 4000000 in
theorem aF (p:R.Pl) (hp:p.wf) (hr:zT p.rs.length 80) (u:Hs) (hu:u.wf) (ins:Bool) (s:List UInt8) (hs:s.length≤140737488351232) (now:Int):zd Tryz.prog 4 [R.dPl p false,dH u,.v (.bool ins),.v (.string (mkS s)),.v (.int .i64 now)] (.v (.bool true)):=by
 have h1:=Y5 p hp hr
 have h2:=aA p hp hr
 have h3:=js (f9 p) (WW hp hr)
 have h4:=nt u hu
 have h5:=n4 u hu
 have h6:=oB u hu ins s hs now
 have h7:=Z8 u hu [⟨ins,s,now⟩] (by simp) (fun x hx=>by cases List.mem_singleton.1 hx;exact hs) 5 20
 have e7:tE u [⟨ins,s,now⟩]=((vl u ins s now).1,[⟨(vl u ins s now).2.1,(vl u ins s now).2.2.1,(vl u ins s now).2.2.2⟩]):=rfl
 rw [e7] at h7
 have h8:=js _ (cB hu ins s now)
 clear e7
 generalize f9 p=N at *
 generalize R.plE p=e at *
 generalize sL u=E at *
 generalize vl u ins s now=x at *
 obtain ⟨v,o,y,z⟩:=x
 dsimp only [List.map_cons,List.map_nil,Vk] at h6 h7 h8
 have ew:yp (List.map Wn.enc [(⟨o,y,z⟩:Wn)]) 0=[.v (.string (mkS o)),.v (.int .i64 y),.v (.int .i64 z)]:=rfl
 refine z4 {} 0 Tryz.func4 fun Γ hW=>auC ?_
 repeat' first|refine auS ?_|(first|(simp only [ew])|(simp only [eq_self,decide_true,beq_self_eq_true,Bool.and_self])|(with_reducible refine z0 h1 ?_)|(with_reducible refine z0 h2 ?_)|(with_reducible refine z0 h3 ?_)|(with_reducible refine z0 h4 ?_)|(with_reducible refine z0 h5 ?_)|(with_reducible refine z0 h6 ?_)|(with_reducible refine z0 h8 ?_)|(refine fo 5 20 rfl (h7 _) ?_))|refine auD ?_|(refine auW ?_ ?_<;>intro h<;>try exact auH)|fail
 all_goals try exact auP
 all_goals try (exfalso;simp_all;done)
 all_goals refine auV ?_
 all_goals try exact z8
 all_goals try simp only [hsM] at *
 all_goals first
  |rfl
  |exact zP (by simp)
theorem kD (a b c d e f:Int) (rl:List rlT) (o:Bool) (a1 c1 d1 e1 f1 g1:Int) (rl1:List rlT) (o1:Bool) (ms:List mtT) (tr:List tkT) (l b1:Int) (n1:Nat) (b2:Int) (n2:Nat) (mp:List mpT) (ins:Bool) (s:ByteArray) (now:Int) (u1 u2 u3 u4 u5 u6 u7:Unit) :
  pF wP ((a,b,c,d,e,f,rl,o,u1),((a1,c1,d1,e1,f1,g1,rl1,o1,u2),ms,tr,(l,(b1,(n1:Int),u3),(b2,(n2:Int),u4),mp,u5),u6),ins,s,now,u7)=[R.dPl ⟨a,b,c,d,e,f,rl.map VT,o⟩ false,dH (Vy a1 c1 d1 e1 f1 g1 rl1 o1 ms tr l b1 n1 b2 n2 mp),.v (.bool ins),.v (.string (mkS s.data.toList)),.v (.int .i64 now)]:=by
 rw [Xm]
 simp only [R.dPl,R.Pl.enc,dH,Hs.row,msD,Vy,List.map_map]
 rfl
theorem lO (W:World) (args:Array Value) (hL:laidMetH Tryz.prog Rows.houseHearsRow.laid W) (hsh:W.ShapedOpen Tryz.prog) (h:ol W W.heap.size wP args.toList) :
  Calls Tryz.prog 4 args W fun e W'=>e=.returned (.bool true)∧Below W.heap.size W W':=by
 refine Ym rfl h (fun x hx=>?_) (Zg (List.mem_of_getElem? (i:=0) rfl) (fun h=>by rw [MakeChecks.laidMetH_plain _ _ _ (by kernel_rfl)] at h;exact h) hL)
 obtain ⟨⟨a,b,c,d,e,f,rl,o,u1⟩,⟨⟨a1,c1,d1,e1,f1,g1,rl1,o1,u2⟩,ms,tr,⟨l,⟨b1,t1,u3⟩,⟨b2,t2,u4⟩,mp,u5⟩,u6⟩,ins,s,now,u7⟩:=x
 obtain ⟨⟨ha,-,-,-,-,-,⟨hb,hl,hd⟩,-⟩,⟨⟨ha',-,-,-,-,-,⟨hb',hl',hd'⟩,-⟩,⟨m1,m2,-⟩,⟨k1,k2,-⟩,⟨-,⟨-,h1,-⟩,⟨-,h2,-⟩,⟨q1,q2,q3⟩,-⟩,-⟩,-,hs,-,-⟩:=hx
 have g1':=Yi h1
 have g2':=Yi h2
 obtain ⟨n1,rfl⟩:=Int.eq_ofNat_of_zero_le g1'.1
 obtain ⟨n2,rfl⟩:=Int.eq_ofNat_of_zero_le g2'.1
 refine Eq.mpr (congrArg (fun l=>zd Tryz.prog 4 l (.v (.bool true))) (kD a b c d e f rl o a1 c1 d1 e1 f1 g1 rl1 o1 ms tr l b1 n1 b2 n2 mp ins s now u1 u2 u3 u4 u5 u6 u7)) (aF ⟨a,b,c,d,e,f,rl.map VT,o⟩ ⟨qU ha,fun t ht=>?_⟩ (jG hb hl) (Vy a1 c1 d1 e1 f1 g1 rl1 o1 ms tr l b1 n1 b2 n2 mp) ⟨⟨qU ha',fun t ht=>?_⟩,jG hb' hl',jG m1 m2,jG k1 k2,⟨by show n1<_;omega,by show n2<_;omega,Nat.le_trans (Nat.le_of_eq (congrArg (· * 40) (List.length_map ..))) q1,fun t ht=>?_⟩⟩ ins s.data.toList (Nat.le_trans (Nat.le_of_eq (Yc s)) hs) now)
 ·obtain ⟨y,hy,rfl⟩:=List.mem_map.1 ht
  exact ⟨qU (hd y hy).1.1,qU (hd y hy).2.1.1⟩
 ·obtain ⟨y,hy,rfl⟩:=List.mem_map.1 ht
  exact ⟨qU (hd' y hy).1.1,qU (hd' y hy).2.1.1⟩
 ·obtain ⟨y,hy,rfl⟩:=List.mem_map.1 ht
  exact qU (q3 y hy).2.1
theorem ko:ownKnob Tryz.prog.godebug=none:=by kernel_rfl
theorem kj:(List.range wP.length).all (fun i=>match wP[i]?,Tryz.f4.params.toList[i]? with|some s,some t=>s.fit Tryz.prog none t|_,_=>false)=true:=by kernel_rfl
theorem lE:laidOutB Tryz.prog=true:=by kernel_rfl
theorem l6:Tryz.f4.params.toList.all (fun t=>Tryz.prog.readableRec t&&decide (t<Tryz.prog.types.size))=true:=by kernel_rfl
theorem kA (os:Os) (args:Array Value):laidMetH Tryz.prog Rows.houseHearsRow.laid ((World.laidAll Tryz.prog os Rows.houseHearsRow.laid).forCall (fun _ _=>0) ⟨#[],args,[]⟩).memory:=
 (MakeChecks.laidMetH_plain _ _ _ (by kernel_rfl)).mpr (laidMet_laidAll _ (by kernel_rfl) (by kernel_rfl))
theorem oy (os:Os) (started:os.Started) (H:Type) (enc:TypeId×Value→H) :
  ReturnsInHanded {} Tryz.checked os 4 .any (fun w args=>(Rows.houseHearsSpec.pre enc Tryz.prog Tryz.f4 [] false w args∧laidMetH Tryz.prog Rows.houseHearsRow.laid w)∧sizedMet enc Tryz.prog Tryz.f4 (OpenSpec.ofChange Rows.houseHearsSpec) false w args) (Rows.houseHearsSpec.post enc Tryz.prog Tryz.f4 false true false false):=
 oI (C:=Tryz.checked) (enc:=enc) ko started (by kernel_rfl) Tryz.func4
  (ChangeSpec.witness_shaped (enc:=enc) (C:=Tryz.checked) (os:=os) (X:=fun w _=>laidMetH Tryz.prog Rows.houseHearsRow.laid w) false (World.laidAll Tryz.prog os Rows.houseHearsRow.laid) #[.agg #[.int .u32 0,.int .i64 0,.int .i64 0,.int .i64 0,.int .i64 0,.int .i64 0,.slice none 0 0,.bool false],.agg #[.int .u32 0,.int .i64 0,.int .i64 0,.int .i64 0,.int .i64 0,.int .i64 0,.slice none 0 0,.bool false,.slice none 0 0,.slice none 0 0,.int .i64 0,.int .i64 0,.int .u64 0,.int .i64 0,.int .u64 0,.slice none 0 0],.bool false,.string ByteArray.empty,.int .i64 0] 8 rfl (World.shaped_of_ZipB (by kernel_rfl) (by kernel_rfl)) (by kernel_rfl) (by kernel_rfl) (by kernel_rfl) (kA os _))
  wP (by kernel_rfl) kj rfl (fun ds h=>by
   match ds,h with
   |[d0,d1,d2,d3,d4],_=>exact ⟨rfl,rfl,rfl⟩) 4 (by kernel_rfl) Tryz.underlying4 lE l6 lO
theorem lI:Rows.houseHearsRow.holds Tryz.pinned (OpenSpec.ofChange Rows.houseHearsSpec):=
 OpenClaim.holds_of_wide 4 Tryz.f4 rfl rfl rfl rfl rfl rfl rfl ⟨rfl,rfl,rfl,rfl,rfl⟩ rfl rfl rfl rfl rfl (by kernel_rfl) Tryz.func4 (by kernel_rfl)
  (of_decide_eq_true (by kernel_rfl)) (by unfold Func.isWrapper;rw [if_neg (of_decide_eq_false (by kernel_rfl))];exact ⟨rfl,rfl⟩)
  (fun os started H enc _=>oy os started H enc)
theorem provedHouseHears:Rows.HouseHearsCardSaid:=
 Claim7.holds_tied_plain_at .later [] [.data] true (true, "2fc5d920b02e38c90cdd55921fcc0babc64b43151b2dcd7c62f3464600d725ca") false
  lI (fun _ h=>by cases h) (by kernel_rfl) (fun _ h=>by cases h) houseHears_row_tie rfl ⟨rfl,rfl⟩ (by kernel_rfl) rfl
  (fun f fn hf hfn=>by
   obtain rfl:f=4:=Option.some.inj ((show Tryz.prog.funcNamed Rows.houseHearsRow.func=some 4 by kernel_rfl).symm.trans hf) |>.symm
   obtain rfl:fn=Tryz.f4:=(Option.some.inj (Tryz.func4.symm.trans hfn)).symm
   exact ⟨by kernel_rfl,fun j t ht=>by
    have hall:(Tryz.f4.params.toList.all fun u=>!Tryz.prog.wantsStandIn u)=true:=by kernel_rfl
    have hm:t∈Tryz.f4.params.toList:=by simpa using Array.mem_of_getElem? ht
    exact (show Tryz.prog.wantsStandIn t=false by simpa using List.all_eq_true.1 hall t hm)⟩)
  (by kernel_rfl)
#print axioms provedHouseHears
end Go.Proofs.YtmibknbmhcnemaaGreatDoor
