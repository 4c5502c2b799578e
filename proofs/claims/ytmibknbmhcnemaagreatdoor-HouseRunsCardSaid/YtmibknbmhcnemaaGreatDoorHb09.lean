import Derived.Test.YtmibknbmhcnemaaGreatDoorHb08
set_option linter.unusedVariables false
set_option linter.unusedSimpArgs false
namespace Go.Proofs.YtmibknbmhcnemaaGreatDoor.A
attribute [local irreducible] zF Go
set_option maxRecDepth 100000
theorem cN {b:Int} (h:pOk b=true):64≤b∧b≤65472:=by unfold pOk at h;have:=of_decide_eq_true h;omega
theorem fR {l b1:Int} {t1:Nat} {b2:Int} {t2:Nat} {ms:List Mp} (h1:t1<18446744073709551616) (h2:t2<18446744073709551616) (hl:1≤l∧l≤1000000) (hb1:pOk b1=true) (hb2:pOk b2=true):zI l b1 t1 b2 t2 ms=if yb uN [] ms&&sx b1 b2 t1 t2 ms then 0 else 4:=by
 unfold zI
 rw [rU b1 b2 t1 t2 ms h1 h2,hb1,hb2,if_pos (by simp;exact hl)]
theorem go {α:Type} {f:α→Bool} {l:List α} {k:Nat} {t:α} (ht:l[k]?=some t):(l.drop k).all f=(f t&&(l.drop (k+1)).all f):=by
 have hk:k<l.length:=(List.getElem?_eq_some_iff.1 ht).1
 rw [List.drop_eq_getElem_cons hk,show l[k]=t from Option.some.inj ((List.getElem?_eq_getElem hk).symm.trans ht),List.all_cons]
set_option maxHeartbeats 4000000 in
theorem yu (l b1:Int) (t1:Nat) (b2:Int) (t2:Nat) (ms:List Mp) (hl:ms.length≤maxLen) (h1:t1<18446744073709551616) (h2:t2<18446744073709551616):zd Tryz.prog 46 [dNt l b1 t1 b2 t2 ms] (.v (.int .i64 (zI l b1 t1 b2 t2 ms))):=by
 have c1:=xL b1 t1
 have c2:=xL b2 t2
 have hl':=hl
 unfold maxLen at hl'
 by_cases hg:1≤l∧l≤1000000∧pOk b1=true∧pOk b2=true
 ·obtain ⟨hll,hlu,hb1,hb2⟩:=hg
  have e:=fR (ms:=ms) h1 h2 ⟨hll,hlu⟩ hb1 hb2
  rw [e]
  clear e
  have k1:=m_ b1 t1 (cN hb1) h1
  have k2:=m_ b2 t2 (cN hb2) h2
  have hp1:pE b1=0:=by unfold pE;rw [hb1];rfl
  have hp2:pE b2=0:=by unfold pE;rw [hb2];rfl
  rw [hp1] at c1
  rw [hp2] at c2
  refine z4 {} 0 Tryz.func46 fun Γ hW=>auC ?_
  repeat' first|refine auS ?_|(first|(with_reducible refine z0 (z6 _ _ _) ?_)|(with_reducible refine z0 c1 ?_)|(with_reducible refine z0 c2 ?_)|(with_reducible refine z0 k1 ?_)|(with_reducible refine z0 k2 ?_))|refine auD ?_|(refine auW ?_ ?_<;>intro h<;>try exact auH)|fail
  all_goals try exact auP
  all_goals first
   |(exfalso;simp at h;done)
   |skip
  refine ze (α:=Nat×Nat) (fun p=>[(⟨.d0,.d4,.d2⟩,.v (.int .i64 (p.1:Nat)))]) (fun p=>[(1,some ⟨Γ.g0+1,0,(ms.take p.1).map bY⟩),(2,none),(3,none)]) (fun p=>p.2) (fun p=>ms.length-p.1) (fun p=>p.1≤ms.length∧yb uN [] ms=yb uN (ms.take p.1) (ms.drop p.1)) (0,Γ.g0+1+1) ⟨Nat.zero_le _,rfl⟩ ?_ ?_
  ·skip
   refine zb ?_ ?_ (Nat.le_refl _)
   all_goals first|refine auE ?_|exact zi
   all_goals repeat' first|exact trivial|exact rfl|apply And.intro
  rintro ⟨k,gn⟩ ⟨hk,hgd⟩
  dsimp only at hk hgd ⊢
  refine auL ?_
  by_cases hlt:k<ms.length
  ·obtain ⟨m,hm⟩:∃m,ms[k]?=some m:=⟨_,List.getElem?_eq_getElem hlt⟩
   have ex:=y7 hm
   have hcut:zK (zV (ms.map Mp.enc) 0) ((k:Int)-0).toNat=(ms.take k).map Mp.enc:=by rw [zz,y4];simp
   have hlk:((ms.take k).map Mp.enc).length=k:=by simp;omega
   by_cases hbd:(m.pr=17∨m.pr=6)∧(0≤m.po∧m.po≤65535)∧0≤m.tm∧m.tm≤1099511627776
   ·obtain ⟨hpr,hpo,htm⟩:=hbd
    rcases hpr with h17|h6
    ·skip
     repeat' first|refine auS ?_|(with_reducible refine z0 (z6 _ _ _) ?_)|refine auD ?_|(refine auW ?_ ?_<;>intro h<;>try exact auH)|(first|(simp only [Int.toNat_natCast,ex]))
     all_goals try exact auP
     simp only [hcut,hlk]
     refine ze (α:=Nat×Nat) (fun p=>[(⟨.d1,.d0,.d0⟩,.v (.int .i64 (p.1:Nat)))]) (fun p=>[(3,none)]) (fun p=>p.2) (fun p=>k-p.1) (fun p=>p.1≤k∧∀y∈ms.take p.1,wP y m=false) (0,gn+1) ⟨Nat.zero_le _,fun y hy=>by simp at hy⟩ ?_ ?_
     ·skip
      refine zb ?_ ?_ (Nat.le_refl _)
      all_goals first|refine auE ?_|exact zi
      all_goals repeat' first|exact trivial|exact rfl|apply And.intro
     rintro ⟨j,g2⟩ ⟨hj,hpre⟩
     dsimp only at hj hpre ⊢
     refine auL ?_
     by_cases hjk:j<k
     ·obtain ⟨y,hy⟩:∃y,ms[j]?=some y:=⟨_,List.getElem?_eq_getElem (by omega)⟩
      have ey:=y7 (l:=ms.take k) (k:=j) (t:=y) (by rw [List.getElem?_take,if_pos hjk];exact hy)
      have hym:y∈ms.take k:=List.mem_iff_getElem?.2 ⟨j,by rw [List.getElem?_take,if_pos hjk];exact hy⟩
      cases hcl:wP y m with
      |true=>
       have hc:=hcl
       unfold wP at hc
       rw [decide_eq_true_eq] at hc
       have hbad:yb uN [] ms=false:=qa hm hgd (by unfold uN;rw [List.all_eq_false.2 ⟨y,hym,by simp [hcl]⟩,Bool.and_false])
       repeat' first|refine auS ?_|fail|refine auD ?_|(refine auW ?_ ?_<;>intro h<;>try exact auH)|(first|(simp only [Int.toNat_natCast,ey]))
       all_goals try exact auP
       all_goals refine auV ?_
       all_goals try exact z8
       all_goals try simp only [hsM] at *
       all_goals (rw [hbad];rfl)
      |false=>
       have hc:=hcl
       unfold wP at hc
       rw [decide_eq_false_iff_not] at hc
       have hpre':∀z∈ms.take (j+1),wP z m=false:=fun z hz=>by
        rw [List.take_add_one,hy] at hz
        rcases List.mem_append.1 hz with hz|hz
        ·exact hpre z hz
        ·rw [List.mem_singleton.1 hz];exact hcl
       have hwj:IntKind.i64.wrap ((j:Int)+1)=((j+1:Nat):Int):=(IntWalk.i64_in _ (by omega)).trans (by omega)
       repeat' first|refine auS ?_|fail|refine auD ?_|(refine auW ?_ ?_<;>intro h<;>try exact auH)|(first|(simp only [Int.toNat_natCast,ey]))
       all_goals try exact auP
       all_goals (simp only [hwj];refine za ⟨(j+1,g2+1),⟨hjk,hpre'⟩,Nat.sub_lt_sub_left hjk (Nat.lt_succ_self j),?_⟩;(refine zb ?_ ?_ (Nat.le_refl _));(all_goals first|refine auE ?_|exact zi);(all_goals (repeat' (first|exact trivial|exact rfl|apply And.intro))))
     ·obtain rfl:j=k:=by omega
      have hrf:uN (ms.take j) m=true:=by
       unfold uN
       rw [List.all_eq_true.2 (fun y hy=>by rw [hpre y hy];rfl)]
       simp only [Bool.and_true,Bool.and_eq_true,decide_eq_true_eq]
       refine ⟨⟨?_,hpo⟩,htm⟩
       omega
      have hnk:yq m∉(ms.take j).map yq:=by
       intro hq
       obtain ⟨y,hy,e⟩:=List.mem_map.1 hq
       have:=hpre y hy
       unfold wP at this
       rw [decide_eq_false_iff_not] at this
       simp only [yq,Prod.mk.injEq] at e
       exact this (.inr ⟨e.1,.inl e.2⟩)
      have hlay:=jA (ms.take j) m hnk
      have htk:ms.take j++[m]=ms.take (j+1):=by rw [List.take_add_one,hm];rfl
      rw [htk] at hlay
      have hks:=nU (ms.take j)
      repeat' first|refine auS ?_|fail|refine auD ?_|(refine auW ?_ ?_<;>intro h<;>try exact auH)|(refine z7 ⟨hks,rfl⟩ ?_)
      all_goals try exact auP
      simp only [hlay]
      refine za ⟨(j+1,g2),⟨hlt,qC hm hgd hrf⟩,Nat.sub_lt_sub_left hlt (Nat.lt_succ_self j),?_⟩
      dsimp only
      refine zb ?_ ?_ (Nat.le_refl _)
      all_goals first|refine auE ?_|exact zi
      all_goals repeat' first|exact trivial|exact rfl|apply And.intro
      all_goals exact zB ((IntWalk.i64_in _ (by omega)).trans (by omega))
    ·have hne:¬m.pr=17:=by omega
     repeat' first|refine auS ?_|(with_reducible refine z0 (z6 _ _ _) ?_)|refine auD ?_|(refine auW ?_ ?_<;>intro h<;>try exact auH)|(first|(simp only [Int.toNat_natCast,ex]))
     all_goals try exact auP
     simp only [hcut,hlk]
     refine ze (α:=Nat×Nat) (fun p=>[(⟨.d1,.d0,.d0⟩,.v (.int .i64 (p.1:Nat)))]) (fun p=>[(3,none)]) (fun p=>p.2) (fun p=>k-p.1) (fun p=>p.1≤k∧∀y∈ms.take p.1,wP y m=false) (0,gn+1) ⟨Nat.zero_le _,fun y hy=>by simp at hy⟩ ?_ ?_
     ·skip
      refine zb ?_ ?_ (Nat.le_refl _)
      all_goals first|refine auE ?_|exact zi
      all_goals repeat' first|exact trivial|exact rfl|apply And.intro
     rintro ⟨j,g2⟩ ⟨hj,hpre⟩
     dsimp only at hj hpre ⊢
     refine auL ?_
     by_cases hjk:j<k
     ·obtain ⟨y,hy⟩:∃y,ms[j]?=some y:=⟨_,List.getElem?_eq_getElem (by omega)⟩
      have ey:=y7 (l:=ms.take k) (k:=j) (t:=y) (by rw [List.getElem?_take,if_pos hjk];exact hy)
      have hym:y∈ms.take k:=List.mem_iff_getElem?.2 ⟨j,by rw [List.getElem?_take,if_pos hjk];exact hy⟩
      cases hcl:wP y m with
      |true=>
       have hc:=hcl
       unfold wP at hc
       rw [decide_eq_true_eq] at hc
       have hbad:yb uN [] ms=false:=qa hm hgd (by unfold uN;rw [List.all_eq_false.2 ⟨y,hym,by simp [hcl]⟩,Bool.and_false])
       repeat' first|refine auS ?_|fail|refine auD ?_|(refine auW ?_ ?_<;>intro h<;>try exact auH)|(first|(simp only [Int.toNat_natCast,ey]))
       all_goals try exact auP
       all_goals refine auV ?_
       all_goals try exact z8
       all_goals try simp only [hsM] at *
       all_goals (rw [hbad];rfl)
      |false=>
       have hc:=hcl
       unfold wP at hc
       rw [decide_eq_false_iff_not] at hc
       have hpre':∀z∈ms.take (j+1),wP z m=false:=fun z hz=>by
        rw [List.take_add_one,hy] at hz
        rcases List.mem_append.1 hz with hz|hz
        ·exact hpre z hz
        ·rw [List.mem_singleton.1 hz];exact hcl
       have hwj:IntKind.i64.wrap ((j:Int)+1)=((j+1:Nat):Int):=(IntWalk.i64_in _ (by omega)).trans (by omega)
       repeat' first|refine auS ?_|fail|refine auD ?_|(refine auW ?_ ?_<;>intro h<;>try exact auH)|(first|(simp only [Int.toNat_natCast,ey]))
       all_goals try exact auP
       all_goals (simp only [hwj];refine za ⟨(j+1,g2+1),⟨hjk,hpre'⟩,Nat.sub_lt_sub_left hjk (Nat.lt_succ_self j),?_⟩;(refine zb ?_ ?_ (Nat.le_refl _));(all_goals first|refine auE ?_|exact zi);(all_goals (repeat' (first|exact trivial|exact rfl|apply And.intro))))
     ·obtain rfl:j=k:=by omega
      have hrf:uN (ms.take j) m=true:=by
       unfold uN
       rw [List.all_eq_true.2 (fun y hy=>by rw [hpre y hy];rfl)]
       simp only [Bool.and_true,Bool.and_eq_true,decide_eq_true_eq]
       refine ⟨⟨?_,hpo⟩,htm⟩
       omega
      have hnk:yq m∉(ms.take j).map yq:=by
       intro hq
       obtain ⟨y,hy,e⟩:=List.mem_map.1 hq
       have:=hpre y hy
       unfold wP at this
       rw [decide_eq_false_iff_not] at this
       simp only [yq,Prod.mk.injEq] at e
       exact this (.inr ⟨e.1,.inl e.2⟩)
      have hlay:=jA (ms.take j) m hnk
      have htk:ms.take j++[m]=ms.take (j+1):=by rw [List.take_add_one,hm];rfl
      rw [htk] at hlay
      have hks:=nU (ms.take j)
      repeat' first|refine auS ?_|fail|refine auD ?_|(refine auW ?_ ?_<;>intro h<;>try exact auH)|(refine z7 ⟨hks,rfl⟩ ?_)
      all_goals try exact auP
      simp only [hlay]
      refine za ⟨(j+1,g2),⟨hlt,qC hm hgd hrf⟩,Nat.sub_lt_sub_left hlt (Nat.lt_succ_self j),?_⟩
      dsimp only
      refine zb ?_ ?_ (Nat.le_refl _)
      all_goals first|refine auE ?_|exact zi
      all_goals repeat' first|exact trivial|exact rfl|apply And.intro
      all_goals exact zB ((IntWalk.i64_in _ (by omega)).trans (by omega))
   ·have hbad:yb uN [] ms=false:=qa hm hgd (by
     cases hq:uN (ms.take k) m with
     |false=>rfl
     |true=>
      unfold uN at hq
      simp only [Bool.and_eq_true,decide_eq_true_eq] at hq
      exact (hbd ⟨hq.1.1.1,hq.1.1.2,hq.1.2⟩).elim)
    repeat' first|refine auS ?_|(with_reducible refine z0 (z6 _ _ _) ?_)|refine auD ?_|(refine auW ?_ ?_<;>intro h<;>try exact auH)|(first|(simp only [Int.toNat_natCast,ex]))
    all_goals try exact auP
    all_goals refine auV ?_
    all_goals try exact z8
    all_goals try simp only [hsM] at *
    all_goals (rw [hbad];rfl)
  ·obtain rfl:k=ms.length:=by omega
   have hg1:yb uN [] ms=true:=by rw [hgd,List.drop_length];rfl
   rw [hg1,Bool.true_and]
   simp only [List.take_length]
   have hks:=nU ms
   have hlm:(ms.map bY).length=ms.length:=List.length_map _
   have hl1:((yf b1 t1).map wv).length=(yf b1 t1).length:=List.length_map _
   have hl2:((yf b2 t2).map wv).length=(yf b2 t2).length:=List.length_map _
   have hle:(ms.map Mp.enc).length=ms.length:=List.length_map _
   have b1':(yf b1 t1).length≤64:=qJ b1 t1 64
   have b2':(yf b2 t2).length≤64:=qJ b2 t2 64
   have hw:IntKind.i64.wrap ((((yf b1 t1).length:Nat):Int)+((yf b2 t2).length:Nat))=(((yf b1 t1).length+(yf b2 t2).length:Nat):Int):=(IntWalk.i64_in _ (by omega)).trans (by omega)
   by_cases hct:ms.length=(yf b1 t1).length+(yf b2 t2).length
   ·have hfin:sx b1 b2 t1 t2 ms=((yf b1 t1).all (wV 17 ms)&&(yf b2 t2).all (wV 6 ms)):=by unfold sx;rw [decide_eq_true hct,Bool.true_and]
    rw [hfin]
    clear hfin
    generalize yf b1 t1=T1 at *
    generalize yf b2 t2=T2 at *
    have hci:(ms.length:Int)=((T1.length+T2.length:Nat):Int):=by omega
    repeat' first|refine auS ?_|(first|(with_reducible refine z0 k1 ?_)|(with_reducible refine z0 k2 ?_)|(simp only [hlm,hl1,hl2,hle,hw,hci]))|refine auD ?_|(refine auW ?_ ?_<;>intro h<;>try exact auH)|fail
    all_goals try exact auP
    all_goals first
     |(exfalso;simp at h;done)
     |skip
    refine ze (α:=Nat) (fun q=>[(⟨.d2,.d0,.d5⟩,.v (.int .i64 (q:Nat)))]) (fun _=>[]) (fun _=>gn) (fun q=>T1.length-q) (fun q=>q≤T1.length∧(T1.all (wV 17 ms)&&T2.all (wV 6 ms))=((T1.drop q).all (wV 17 ms)&&T2.all (wV 6 ms))) 0 ⟨Nat.zero_le _,rfl⟩ ?_ ?_
    ·skip
     refine zb ?_ ?_ (Nat.le_refl _)
     all_goals first|refine auE ?_|exact zi
     all_goals repeat' first|exact trivial|exact rfl|apply And.intro
    rintro q ⟨hq1,hq2⟩
    refine auL ?_
    by_cases hql:q<T1.length
    ·obtain ⟨p,hp⟩:∃p,T1[q]?=some p:=⟨_,List.getElem?_eq_getElem hql⟩
     have ep:=sB hp
     have had:=go (f:=wV 17 ms) hp
     have hfl:=lD 17 p ms
     have hwq:IntKind.i64.wrap ((q:Int)+1)=((q+1:Nat):Int):=(IntWalk.i64_in _ (by omega)).trans (by omega)
     cases hh:wV 17 ms p with
     |true=>
      rw [hh] at hfl had
      rw [Bool.true_and] at had
      repeat' first|refine auS ?_|(simp only [hfl,hwq])|refine auD ?_|(refine auW ?_ ?_<;>intro h<;>try exact auH)|(simp only [Int.toNat_natCast,ep])
      all_goals try exact auP
      all_goals first
       |(exfalso;simp at h;done)
       |skip
      refine za ⟨q+1,⟨hql,by rw [hq2,had]⟩,Nat.sub_lt_sub_left hql (Nat.lt_succ_self q),?_⟩
      refine zb ?_ ?_ (Nat.le_refl _)
      all_goals first|refine auE ?_|exact zi
      all_goals repeat' first|exact trivial|exact rfl|apply And.intro
     |false=>
      rw [hh] at hfl had
      rw [Bool.false_and] at had
      have hno:(T1.all (wV 17 ms)&&T2.all (wV 6 ms))=false:=by rw [hq2,had]<;>first|rfl|exact Bool.false_and _
      rw [hno]
      clear hno
      repeat' first|refine auS ?_|(simp only [hfl,hwq])|refine auD ?_|(refine auW ?_ ?_<;>intro h<;>try exact auH)|(simp only [Int.toNat_natCast,ep])
      all_goals try exact auP
      all_goals first
       |(exfalso;simp at h;done)
       |skip
      all_goals refine auV ?_
      all_goals try exact z8
      all_goals try simp only [hsM] at *
      all_goals rfl
    obtain rfl:q=T1.length:=by omega
    rw [List.drop_length,List.all_nil,Bool.true_and] at hq2
    repeat' first|refine auS ?_|fail|refine auD ?_|(refine auW ?_ ?_<;>intro h<;>try exact auH)|fail
    all_goals try exact auP
    refine ze (α:=Nat) (fun q=>[(⟨.d2,.d2,.d1⟩,.v (.int .i64 (q:Nat)))]) (fun _=>[]) (fun _=>gn) (fun q=>T2.length-q) (fun q=>q≤T2.length∧(T1.all (wV 17 ms)&&T2.all (wV 6 ms))=((T2.drop q).all (wV 6 ms))) 0 ⟨Nat.zero_le _,hq2⟩ ?_ ?_
    ·skip
     refine zb ?_ ?_ (Nat.le_refl _)
     all_goals first|refine auE ?_|exact zi
     all_goals repeat' first|exact trivial|exact rfl|apply And.intro
    rintro q ⟨hq1,hq2⟩
    refine auL ?_
    by_cases hql:q<T2.length
    ·obtain ⟨p,hp⟩:∃p,T2[q]?=some p:=⟨_,List.getElem?_eq_getElem hql⟩
     have ep:=sB hp
     have had:=go (f:=wV 6 ms) hp
     have hfl:=lD 6 p ms
     have hwq:IntKind.i64.wrap ((q:Int)+1)=((q+1:Nat):Int):=(IntWalk.i64_in _ (by omega)).trans (by omega)
     cases hh:wV 6 ms p with
     |true=>
      rw [hh] at hfl had
      rw [Bool.true_and] at had
      repeat' first|refine auS ?_|(simp only [hfl,hwq])|refine auD ?_|(refine auW ?_ ?_<;>intro h<;>try exact auH)|(simp only [Int.toNat_natCast,ep])
      all_goals try exact auP
      all_goals first
       |(exfalso;simp at h;done)
       |skip
      refine za ⟨q+1,⟨hql,by rw [hq2,had]⟩,Nat.sub_lt_sub_left hql (Nat.lt_succ_self q),?_⟩
      refine zb ?_ ?_ (Nat.le_refl _)
      all_goals first|refine auE ?_|exact zi
      all_goals repeat' first|exact trivial|exact rfl|apply And.intro
     |false=>
      rw [hh] at hfl had
      rw [Bool.false_and] at had
      have hno:(T1.all (wV 17 ms)&&T2.all (wV 6 ms))=false:=by rw [hq2,had]<;>first|rfl|exact Bool.false_and _
      rw [hno]
      clear hno
      repeat' first|refine auS ?_|(simp only [hfl,hwq])|refine auD ?_|(refine auW ?_ ?_<;>intro h<;>try exact auH)|(simp only [Int.toNat_natCast,ep])
      all_goals try exact auP
      all_goals first
       |(exfalso;simp at h;done)
       |skip
      all_goals refine auV ?_
      all_goals try exact z8
      all_goals try simp only [hsM] at *
      all_goals rfl
    obtain rfl:q=T2.length:=by omega
    rw [List.drop_length,List.all_nil] at hq2
    rw [hq2]
    repeat' first|refine auS ?_|fail|refine auD ?_|(refine auW ?_ ?_<;>intro h<;>try exact auH)|fail
    all_goals try exact auP
    all_goals refine auV ?_
    all_goals try exact z8
    all_goals try simp only [hsM] at *
    all_goals rfl
   ·have hfin:sx b1 b2 t1 t2 ms=false:=by unfold sx;rw [decide_eq_false hct,Bool.false_and]
    rw [hfin]
    repeat' first|refine auS ?_|(first|(with_reducible refine z0 k1 ?_)|(with_reducible refine z0 k2 ?_)|(simp only [hlm,hl1,hl2,hle,hw]))|refine auD ?_|(refine auW ?_ ?_<;>intro h<;>try exact auH)|fail
    all_goals try exact auP
    all_goals first
     |(exfalso;simp at h;done)
     |skip
    all_goals refine auV ?_
    all_goals try exact z8
    all_goals try simp only [hsM] at *
    all_goals first
     |rfl
     |(exfalso;omega)
 ·have e:zI l b1 t1 b2 t2 ms=1:=by
   unfold zI
   rw [if_neg]
   simp only [Bool.and_eq_true,decide_eq_true_eq]
   rintro ⟨⟨q1,q2⟩,q3,q4⟩
   exact hg ⟨q1,q2,q3,q4⟩
  rw [e]
  clear e
  by_cases hll:1≤l∧l≤1000000
  ·cases hb1:pOk b1 with
   |true=>
    have hb2:pOk b2=false:=by cases q:pOk b2 with|false=>rfl|true=>exact (hg ⟨hll.1,hll.2,hb1,q⟩).elim
    have hp1:pE b1=0:=by unfold pE;rw [hb1];rfl
    have hp2:pE b2=1:=by unfold pE;rw [hb2];rfl
    rw [hp1] at c1
    rw [hp2] at c2
    refine z4 {} 0 Tryz.func46 fun Γ hW=>auC ?_
    repeat' first|refine auS ?_|(first|(with_reducible refine z0 (z6 _ _ _) ?_)|(with_reducible refine z0 c1 ?_)|(with_reducible refine z0 c2 ?_))|refine auD ?_|(refine auW ?_ ?_<;>intro h<;>try exact auH)|fail
    all_goals try exact auP
    all_goals first
     |(exfalso;simp at h;done)
     |skip
    all_goals refine auV ?_
    all_goals try exact z8
    all_goals try simp only [hsM] at *
   |false=>
    have hp1:pE b1=1:=by unfold pE;rw [hb1];rfl
    rw [hp1] at c1
    refine z4 {} 0 Tryz.func46 fun Γ hW=>auC ?_
    repeat' first|refine auS ?_|(first|(with_reducible refine z0 (z6 _ _ _) ?_)|(with_reducible refine z0 c1 ?_)|(with_reducible refine z0 c2 ?_))|refine auD ?_|(refine auW ?_ ?_<;>intro h<;>try exact auH)|fail
    all_goals try exact auP
    all_goals first
     |(exfalso;simp at h;done)
     |skip
    all_goals refine auV ?_
    all_goals try exact z8
    all_goals try simp only [hsM] at *
  ·skip
   refine z4 {} 0 Tryz.func46 fun Γ hW=>auC ?_
   repeat' first|refine auS ?_|(first|(with_reducible refine z0 (z6 _ _ _) ?_)|(with_reducible refine z0 c1 ?_)|(with_reducible refine z0 c2 ?_))|refine auD ?_|(refine auW ?_ ?_<;>intro h<;>try exact auH)|fail
   all_goals try exact auP
   all_goals first
    |(exfalso;simp at h;done)
    |skip
   all_goals refine auV ?_
   all_goals try exact z8
   all_goals try simp only [hsM] at *
end Go.Proofs.YtmibknbmhcnemaaGreatDoor.A
