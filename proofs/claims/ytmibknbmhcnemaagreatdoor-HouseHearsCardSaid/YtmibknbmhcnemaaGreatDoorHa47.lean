import Derived.Test.YtmibknbmhcnemaaGreatDoorHa39
set_option linter.unusedVariables false
set_option linter.unusedSimpArgs false
namespace Go.Proofs.YtmibknbmhcnemaaGreatDoor
attribute [local irreducible] zF Go
set_option maxRecDepth 100000
theorem Ui (p:R.Pl):kB [.v (.int .u32 p.ou),.v (.int .i64 p.lt),.v (.int .i64 p.st),.v (.int .i64 p.lf),.v (.int .i64 p.ra),.v (.int .i64 p.mo),.snap 10 (p.rs.map R.Rl.enc) false,.v (.bool p.el),.v (.slice none 0 0),.v (.slice none 0 0),.v (.int .i64 p.lf),.v (.int .i64 p.lt),.v (.int .u64 0),.v (.int .i64 p.st),.v (.int .u64 0),.v (.slice none 0 0)] (Hs.row ⟨p,[],[],⟨p.lf,p.lt,0,p.st,0,[]⟩⟩ (msD [])):=
 ⟨.inl rfl,.inl rfl,.inl rfl,.inl rfl,.inl rfl,.inl rfl,rfl,.inl rfl,.inr ⟨rfl,_,rfl⟩,.inr ⟨rfl,_,rfl⟩,.inl rfl,.inl rfl,.inl rfl,.inl rfl,.inl rfl,.inr ⟨rfl,_,rfl⟩,rfl⟩
set_option maxHeartbeats 4000000 in
theorem aA (p:R.Pl) (hw:p.wf) (hl:zT p.rs.length 80):zd Tryz.prog 14 [R.dPl p false] (.tup [dH (f9 p),.v (.int .i64 (R.plE p))]):=by
 have h2:=R.rJ p false hw hl.1
 have hnf:=fun g=>md g p.rs
 unfold f9
 by_cases he:R.plE p=0
 ·rw [if_pos he,he]
  rw [he] at h2
  refine yg (D:=.tup [zH p,.v (.int .i64 0)]) ?_ ⟨Ui p,.inl rfl,rfl⟩
  unfold zH
  refine z4 {} 0 Tryz.func14 fun Γ hW=>auC ?_
  repeat' first|refine auS ?_|(with_reducible refine z0 h2 ?_)|refine auD ?_|(refine auW ?_ ?_<;>intro h<;>try exact auH)|fail
  all_goals try exact auP
  all_goals refine auV ?_
  all_goals try exact z8
  all_goals try simp only [hsM] at *
 ·rw [if_neg he]
  generalize R.plE p=e at *
  refine yg (D:=.tup [.agg [.v (.int .u32 0),.v (.int .i64 0),.v (.int .i64 0),.v (.int .i64 0),.v (.int .i64 0),.v (.int .i64 0),.v (.slice none 0 0),.v (.bool false),.v (.slice none 0 0),.v (.slice none 0 0),.v (.int .i64 0),.v (.int .i64 0),.v (.int .u64 0),.v (.int .i64 0),.v (.int .u64 0),.v (.slice none 0 0)],.v (.int .i64 e)]) ?_ ⟨⟨.inl rfl,.inl rfl,.inl rfl,.inl rfl,.inl rfl,.inl rfl,.inr ⟨rfl,_,rfl⟩,.inl rfl,.inr ⟨rfl,_,rfl⟩,.inr ⟨rfl,_,rfl⟩,.inl rfl,.inl rfl,.inl rfl,.inl rfl,.inl rfl,.inr ⟨rfl,_,rfl⟩,rfl⟩,.inl rfl,rfl⟩
  refine z4 {} 0 Tryz.func14 fun Γ hW=>auC ?_
  repeat' first|refine auS ?_|(with_reducible refine z0 h2 ?_)|refine auD ?_|(refine auW ?_ ?_<;>intro h<;>try exact auH)|fail
  all_goals try exact auP
  all_goals refine auV ?_
  all_goals try exact z8
  all_goals try simp only [hsM] at *
theorem mT {α:Type} {ok:List α→α→Bool}:∀(l pre:List α) (t:α),yc ok pre (l++[t])=(yc ok pre l&&ok (pre++l) t)
 |[],pre,t=>by simp [yc]
 |x::r,pre,t=>by
  simp only [List.cons_append,yc,mT r (pre++[x]) t,List.append_assoc,List.nil_append,Bool.and_assoc]
abbrev mtP (t:Mt):Mt→Bool:=fun y=>!(decide (t.tm<y.tm)) && !(decide (y.ad=t.ad))
theorem iG (t y:Mt):mtP t y=(!decide (y.ad=t.ad)&&decide (y.tm≤t.tm)):=by
 unfold mtP
 rw [Bool.and_comm]
 congr 1
 rw [Bool.eq_iff_iff]
 simp
theorem pK {p:Mt→Bool} {l:List Mt} {j:Nat} {y:Mt} (h:l[j]?=some y):(l.take (j+1)).all p=((l.take j).all p&&p y):=by
 rw [List.take_add_one,h,List.all_append]
 simp
set_option maxHeartbeats 8000000 in
theorem n4 (u:Hs) (hw:u.wf):zd Tryz.prog 17 [dH u] (.v (.int .i64 (sL u))):=by
 rw [jU]
 have hc1:=R.rJ u.p false hw.p hw.rs.1
 have hc2:=T.yt u.tr
 have hc3:zd Tryz.prog 46 [.agg u.n.enc] (.v (.int .i64 (kz u.n))):=A.yz u.n.l u.n.b1 u.n.t1 u.n.b2 u.n.t2 u.n.ms hw.n.mm.1 hw.n.t1 hw.n.t2
 have hl:=hw.ms.1
 unfold maxLen at hl
 generalize R.plE u.p=e1 at *
 generalize T.y9 u.tr=e2 at *
 generalize kz u.n=e3 at *
 have hfit:pY u=true↔u.ms.length≤64∧u.n.l=u.p.lf∧u.n.b1=u.p.lt∧u.n.b2=u.p.st:=by unfold pY;simp only [Bool.and_eq_true,decide_eq_true_eq]
 unfold mtE
 generalize pY u=F at *
 refine z4 {} 0 Tryz.func17 fun Γ hW=>auC ?_
 repeat' first|refine auS ?_|(first|(with_reducible refine z0 hc1 ?_)|(with_reducible refine z0 hc2 ?_)|(with_reducible refine z0 hc3 ?_))|refine auD ?_|(refine auW ?_ ?_<;>intro h<;>try exact auH)|fail
 all_goals try exact auP
 any_goals (with_reducible refine auV ?_;simp only [hsM] at *;exact zC (by first|exact (Uf (by omega)).symm|exact (Us (by omega) (by omega)).symm|exact (Ur (by omega) (by omega) (by omega)).symm))
 all_goals rw [Up (by (simp only [hsL,reduceCtorEq] at *<;>omega)) (by (simp only [hsL,reduceCtorEq] at *<;>omega)) (by (simp only [hsL,reduceCtorEq] at *<;>omega))]
 all_goals clear hc1 hc2 hc3
 all_goals
  refine ze (α:=Nat×Nat) (fun x=>[(⟨.d1,.d0,.d1⟩,.v (.int .i64 (x.1:Nat))),(⟨.d0,.d0,.d6⟩,.v (.bool (F&&yc (ue u.p.ra u.p.mo) [] (u.ms.take x.1))))]) (fun _=>[(1,none),(2,none)]) (fun x=>x.2) (fun x=>u.ms.length-x.1) (fun x=>x.1≤u.ms.length) (0,Γ.g0+1) (Nat.zero_le _) ?_ ?_
  ·skip
   refine zb ?_ ?_ (Nat.le_refl _)
   all_goals first|refine auE ?_|exact zi
   all_goals repeat' first|exact trivial|exact rfl|apply And.intro
   all_goals (refine zP ?_;rw [List.take_zero];clear hl hw;cases F<;>simp_all [yc]<;>omega)
  rintro ⟨k,g2⟩ hk
  dsimp only at hk ⊢
  refine auL ?_
  by_cases hlt:k<u.ms.length
  rotate_left
  ·obtain rfl:k=u.ms.length:=by omega
   rw [List.take_length]
   generalize yc (ue u.p.ra u.p.mo) [] u.ms=G at *
   clear hfit
   cases F<;>cases G
   all_goals
    repeat' first|refine auS ?_|fail|refine auD ?_|(refine auW ?_ ?_<;>intro h<;>try exact auH)|fail
    all_goals try exact auP
    all_goals refine auV ?_
    all_goals try exact z8
    all_goals try simp only [hsM] at *
    all_goals first
     |rfl
     |(exfalso;simp_all;done)
  obtain ⟨t,ht⟩:∃t,u.ms[k]?=some t:=⟨_,List.getElem?_eq_getElem hlt⟩
  have ex:=uC ht
  have hb:=B.n8 t.ra t.mo t.hs t.tm
  have hwk:IntKind.i64.wrap ((k:Int)+1)=((k+1:Nat):Int):=(IntWalk.i64_in _ (by omega)).trans (by omega)
  have hX:zM (zV (u.ms.map Mt.enc) 0) ((k:Int)-0).toNat=(u.ms.take k).map Mt.enc:=by rw [zz,zY,List.drop_zero,List.map_take,Int.sub_zero,Int.toNat_natCast]
  have hXl:((u.ms.take k).map Mt.enc).length=k:=by rw [List.length_map,List.length_take];omega
  have hgn:yc (ue u.p.ra u.p.mo) [] (u.ms.take (k+1))=(yc (ue u.p.ra u.p.mo) [] (u.ms.take k)&&(decide (B.wG t.ra t.mo t.hs t.tm=0)&&(decide (t.ra=u.p.ra)&&(decide (t.mo=u.p.mo)&&(u.ms.take k).all (mtP t))))):=by
   rw [List.take_add_one,ht]
   exact mT _ _ _
  generalize hG1:yc (ue u.p.ra u.p.mo) [] (u.ms.take (k+1))=G1 at *
  generalize yc (ue u.p.ra u.p.mo) [] (u.ms.take k)=G at *
  generalize B.wG t.ra t.mo t.hs t.tm=be at *
  clear hfit
  cases hv:(F&&G)
  ·skip
   repeat' first|refine auS ?_|(with_reducible refine z0 hb ?_)|refine auD ?_|(refine auW ?_ ?_<;>intro h<;>try exact auH)|(simp only [Int.toNat_natCast,ex,hX])
   all_goals try exact auP
   simp only [hX,hXl]
   refine ze (α:=Nat×Nat) (fun y=>[(⟨.d1,.d4,.d4⟩,.v (.int .i64 (y.1:Nat))),(⟨.d0,.d0,.d6⟩,.v (.bool (false&&(u.ms.take y.1).all (mtP t))))]) (fun _=>[(2,none)]) (fun y=>y.2) (fun y=>k-y.1) (fun y=>y.1≤k) (0,g2+1) (Nat.zero_le _) ?_ ?_
   ·skip
    refine zb ?_ ?_ (Nat.le_refl _)
    all_goals first|refine auE ?_|exact zi
    all_goals repeat' first|exact trivial|exact rfl|apply And.intro
    all_goals (refine zP ?_;simp)
   rintro ⟨j,g3⟩ hj
   dsimp only at hj ⊢
   refine auL ?_
   by_cases hj2:j<k
   ·obtain ⟨y,hy⟩:∃y,u.ms[j]?=some y:=⟨_,List.getElem?_eq_getElem (by omega)⟩
    have ey:yp ((u.ms.take k).map Mt.enc) j=y.enc:=uC (by rw [List.getElem?_take,if_pos hj2];exact hy)
    have hsn:=pK (p:=mtP t) hy
    rw [iG] at hsn
    have hwj:IntKind.i64.wrap ((j:Int)+1)=((j+1:Nat):Int):=(IntWalk.i64_in _ (by omega)).trans (by omega)
    generalize hB1:(u.ms.take (j+1)).all (mtP t)=B1 at *
    generalize (u.ms.take j).all (mtP t)=B0 at *
    cases hv2:(false&&B0)
    all_goals
     repeat' first|refine auS ?_|fail|refine auD ?_|(refine auW ?_ ?_<;>intro h<;>try exact auH)|(first|(simp only [Int.toNat_natCast,ey,hwj])|(refine z7 ⟨by rw [List.length_map,List.length_take];omega,by trivial⟩ ?_)|fail)
     all_goals try exact auP
     all_goals try (exfalso;simp_all;done)
     all_goals
      refine za ⟨(j+1,g3+1),hj2,Nat.sub_lt_sub_left hj2 (Nat.lt_succ_self j),?_⟩
      refine zb ?_ ?_ (Nat.le_refl _)
      all_goals first|refine auE ?_|exact zi
      all_goals repeat' first|exact trivial|exact rfl|apply And.intro
     all_goals (refine zP ?_;rw [hB1,hsn,←Bool.and_assoc,hv2];clear hB1 hsn hv2 hgn hv hG1;simp_all;try omega)
   ·obtain rfl:j=k:=by omega
    repeat' first|refine auS ?_|fail|refine auD ?_|(refine auW ?_ ?_<;>intro h<;>try exact auH)|(simp only [hwk])
    all_goals try exact auP
    all_goals try (exfalso;simp_all;done)
    refine za ⟨(j+1,g3),⟨hlt,Nat.sub_lt_sub_left hlt (Nat.lt_succ_self j),?_⟩⟩
    refine zb ?_ ?_ (Nat.le_refl _)
    all_goals first|refine auE ?_|exact zi
    all_goals repeat' first|exact trivial|exact rfl|apply And.intro
    all_goals (refine zP ?_;rw [hG1,hgn,←Bool.and_assoc,hv];generalize (u.ms.take j).all (mtP t)=B9 at *;clear hgn hG1;simp_all)
  ·skip
   repeat' first|refine auS ?_|(with_reducible refine z0 hb ?_)|refine auD ?_|(refine auW ?_ ?_<;>intro h<;>try exact auH)|(simp only [Int.toNat_natCast,ex,hX])
   all_goals try exact auP
   ·skip
    simp only [hX,hXl]
    refine ze (α:=Nat×Nat) (fun y=>[(⟨.d1,.d4,.d4⟩,.v (.int .i64 (y.1:Nat))),(⟨.d0,.d0,.d6⟩,.v (.bool ((decide (t.mo=u.p.mo))&&(u.ms.take y.1).all (mtP t))))]) (fun _=>[(2,none)]) (fun y=>y.2) (fun y=>k-y.1) (fun y=>y.1≤k) (0,g2+1) (Nat.zero_le _) ?_ ?_
    ·skip
     refine zb ?_ ?_ (Nat.le_refl _)
     all_goals first|refine auE ?_|exact zi
     all_goals repeat' first|exact trivial|exact rfl|apply And.intro
     all_goals (refine zP ?_;simp)
    rintro ⟨j,g3⟩ hj
    dsimp only at hj ⊢
    refine auL ?_
    by_cases hj2:j<k
    ·obtain ⟨y,hy⟩:∃y,u.ms[j]?=some y:=⟨_,List.getElem?_eq_getElem (by omega)⟩
     have ey:yp ((u.ms.take k).map Mt.enc) j=y.enc:=uC (by rw [List.getElem?_take,if_pos hj2];exact hy)
     have hsn:=pK (p:=mtP t) hy
     rw [iG] at hsn
     have hwj:IntKind.i64.wrap ((j:Int)+1)=((j+1:Nat):Int):=(IntWalk.i64_in _ (by omega)).trans (by omega)
     generalize hB1:(u.ms.take (j+1)).all (mtP t)=B1 at *
     generalize (u.ms.take j).all (mtP t)=B0 at *
     cases hv2:((decide (t.mo=u.p.mo))&&B0)
     all_goals
      repeat' first|refine auS ?_|fail|refine auD ?_|(refine auW ?_ ?_<;>intro h<;>try exact auH)|(first|(simp only [Int.toNat_natCast,ey,hwj])|(refine z7 ⟨by rw [List.length_map,List.length_take];omega,by trivial⟩ ?_)|fail)
      all_goals try exact auP
      all_goals try (exfalso;simp_all;done)
      all_goals
       refine za ⟨(j+1,g3+1),hj2,Nat.sub_lt_sub_left hj2 (Nat.lt_succ_self j),?_⟩
       refine zb ?_ ?_ (Nat.le_refl _)
       all_goals first|refine auE ?_|exact zi
       all_goals repeat' first|exact trivial|exact rfl|apply And.intro
      all_goals (refine zP ?_;rw [hB1,hsn,←Bool.and_assoc,hv2];clear hB1 hsn hv2 hgn hv hG1;simp_all;try omega)
    ·obtain rfl:j=k:=by omega
     repeat' first|refine auS ?_|fail|refine auD ?_|(refine auW ?_ ?_<;>intro h<;>try exact auH)|(simp only [hwk])
     all_goals try exact auP
     all_goals try (exfalso;simp_all;done)
     refine za ⟨(j+1,g3),⟨hlt,Nat.sub_lt_sub_left hlt (Nat.lt_succ_self j),?_⟩⟩
     refine zb ?_ ?_ (Nat.le_refl _)
     all_goals first|refine auE ?_|exact zi
     all_goals repeat' first|exact trivial|exact rfl|apply And.intro
     all_goals (refine zP ?_;rw [hG1,hgn,←Bool.and_assoc,hv];generalize (u.ms.take j).all (mtP t)=B9 at *;clear hgn hG1;simp_all)
   ·skip
    simp only [hX,hXl]
    refine ze (α:=Nat×Nat) (fun y=>[(⟨.d1,.d4,.d4⟩,.v (.int .i64 (y.1:Nat))),(⟨.d0,.d0,.d6⟩,.v (.bool (false&&(u.ms.take y.1).all (mtP t))))]) (fun _=>[(2,none)]) (fun y=>y.2) (fun y=>k-y.1) (fun y=>y.1≤k) (0,g2+1) (Nat.zero_le _) ?_ ?_
    ·skip
     refine zb ?_ ?_ (Nat.le_refl _)
     all_goals first|refine auE ?_|exact zi
     all_goals repeat' first|exact trivial|exact rfl|apply And.intro
     all_goals (refine zP ?_;simp)
    rintro ⟨j,g3⟩ hj
    dsimp only at hj ⊢
    refine auL ?_
    by_cases hj2:j<k
    ·obtain ⟨y,hy⟩:∃y,u.ms[j]?=some y:=⟨_,List.getElem?_eq_getElem (by omega)⟩
     have ey:yp ((u.ms.take k).map Mt.enc) j=y.enc:=uC (by rw [List.getElem?_take,if_pos hj2];exact hy)
     have hsn:=pK (p:=mtP t) hy
     rw [iG] at hsn
     have hwj:IntKind.i64.wrap ((j:Int)+1)=((j+1:Nat):Int):=(IntWalk.i64_in _ (by omega)).trans (by omega)
     generalize hB1:(u.ms.take (j+1)).all (mtP t)=B1 at *
     generalize (u.ms.take j).all (mtP t)=B0 at *
     cases hv2:(false&&B0)
     all_goals
      repeat' first|refine auS ?_|fail|refine auD ?_|(refine auW ?_ ?_<;>intro h<;>try exact auH)|(first|(simp only [Int.toNat_natCast,ey,hwj])|(refine z7 ⟨by rw [List.length_map,List.length_take];omega,by trivial⟩ ?_)|fail)
      all_goals try exact auP
      all_goals try (exfalso;simp_all;done)
      all_goals
       refine za ⟨(j+1,g3+1),hj2,Nat.sub_lt_sub_left hj2 (Nat.lt_succ_self j),?_⟩
       refine zb ?_ ?_ (Nat.le_refl _)
       all_goals first|refine auE ?_|exact zi
       all_goals repeat' first|exact trivial|exact rfl|apply And.intro
      all_goals (refine zP ?_;rw [hB1,hsn,←Bool.and_assoc,hv2];clear hB1 hsn hv2 hgn hv hG1;simp_all;try omega)
    ·obtain rfl:j=k:=by omega
     repeat' first|refine auS ?_|fail|refine auD ?_|(refine auW ?_ ?_<;>intro h<;>try exact auH)|(simp only [hwk])
     all_goals try exact auP
     all_goals try (exfalso;simp_all;done)
     refine za ⟨(j+1,g3),⟨hlt,Nat.sub_lt_sub_left hlt (Nat.lt_succ_self j),?_⟩⟩
     refine zb ?_ ?_ (Nat.le_refl _)
     all_goals first|refine auE ?_|exact zi
     all_goals repeat' first|exact trivial|exact rfl|apply And.intro
     all_goals (refine zP ?_;rw [hG1,hgn,←Bool.and_assoc,hv];generalize (u.ms.take j).all (mtP t)=B9 at *;clear hgn hG1;simp_all)
   ·skip
    simp only [hX,hXl]
    refine ze (α:=Nat×Nat) (fun y=>[(⟨.d1,.d4,.d4⟩,.v (.int .i64 (y.1:Nat))),(⟨.d0,.d0,.d6⟩,.v (.bool (false&&(u.ms.take y.1).all (mtP t))))]) (fun _=>[(2,none)]) (fun y=>y.2) (fun y=>k-y.1) (fun y=>y.1≤k) (0,g2+1) (Nat.zero_le _) ?_ ?_
    ·skip
     refine zb ?_ ?_ (Nat.le_refl _)
     all_goals first|refine auE ?_|exact zi
     all_goals repeat' first|exact trivial|exact rfl|apply And.intro
     all_goals (refine zP ?_;simp)
    rintro ⟨j,g3⟩ hj
    dsimp only at hj ⊢
    refine auL ?_
    by_cases hj2:j<k
    ·obtain ⟨y,hy⟩:∃y,u.ms[j]?=some y:=⟨_,List.getElem?_eq_getElem (by omega)⟩
     have ey:yp ((u.ms.take k).map Mt.enc) j=y.enc:=uC (by rw [List.getElem?_take,if_pos hj2];exact hy)
     have hsn:=pK (p:=mtP t) hy
     rw [iG] at hsn
     have hwj:IntKind.i64.wrap ((j:Int)+1)=((j+1:Nat):Int):=(IntWalk.i64_in _ (by omega)).trans (by omega)
     generalize hB1:(u.ms.take (j+1)).all (mtP t)=B1 at *
     generalize (u.ms.take j).all (mtP t)=B0 at *
     cases hv2:(false&&B0)
     all_goals
      repeat' first|refine auS ?_|fail|refine auD ?_|(refine auW ?_ ?_<;>intro h<;>try exact auH)|(first|(simp only [Int.toNat_natCast,ey,hwj])|(refine z7 ⟨by rw [List.length_map,List.length_take];omega,by trivial⟩ ?_)|fail)
      all_goals try exact auP
      all_goals try (exfalso;simp_all;done)
      all_goals
       refine za ⟨(j+1,g3+1),hj2,Nat.sub_lt_sub_left hj2 (Nat.lt_succ_self j),?_⟩
       refine zb ?_ ?_ (Nat.le_refl _)
       all_goals first|refine auE ?_|exact zi
       all_goals repeat' first|exact trivial|exact rfl|apply And.intro
      all_goals (refine zP ?_;rw [hB1,hsn,←Bool.and_assoc,hv2];clear hB1 hsn hv2 hgn hv hG1;simp_all;try omega)
    ·obtain rfl:j=k:=by omega
     repeat' first|refine auS ?_|fail|refine auD ?_|(refine auW ?_ ?_<;>intro h<;>try exact auH)|(simp only [hwk])
     all_goals try exact auP
     all_goals try (exfalso;simp_all;done)
     refine za ⟨(j+1,g3),⟨hlt,Nat.sub_lt_sub_left hlt (Nat.lt_succ_self j),?_⟩⟩
     refine zb ?_ ?_ (Nat.le_refl _)
     all_goals first|refine auE ?_|exact zi
     all_goals repeat' first|exact trivial|exact rfl|apply And.intro
     all_goals (refine zP ?_;rw [hG1,hgn,←Bool.and_assoc,hv];generalize (u.ms.take j).all (mtP t)=B9 at *;clear hgn hG1;simp_all)
end Go.Proofs.YtmibknbmhcnemaaGreatDoor
