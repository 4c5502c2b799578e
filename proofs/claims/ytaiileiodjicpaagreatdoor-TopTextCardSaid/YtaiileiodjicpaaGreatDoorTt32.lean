import Derived.Test.YtaiileiodjicpaaGreatDoorTt30
import Derived.Test.YtaiileiodjicpaaGreatDoorTt31
set_option linter.unusedVariables false
set_option linter.unusedSimpArgs false
namespace Go.Proofs.YtaiileiodjicpaaGreatDoor.H
attribute [local irreducible] zF Go
set_option maxRecDepth 100000
theorem ma (c o n:Int) (hc:0≤c∧c≤65535) (ho:0≤o∧o≤65535) (hn:0≤n∧n≤65535):zi Tryz.prog 103 [.v (.int .u16 c),.v (.int .u16 o),.v (.int .u16 n)] (.v (.int .u16 (65535-yw (65535-c+(65535-o)+n)))):=by
 have x1:bits .xor .u16 IntKind.u16.max c=65535-c:=xK c hc.1 hc.2
 have x2:bits .xor .u16 IntKind.u16.max o=65535-o:=xK o ho.1 ho.2
 have w1:IntKind.u64.wrap (65535-c)=65535-c:=yc _ (by omega) (by omega)
 have w2:IntKind.u64.wrap (65535-o)=65535-o:=yc _ (by omega) (by omega)
 have w3:IntKind.u64.wrap n=n:=yc _ (by omega) (by omega)
 have w4:IntKind.u64.wrap (65535-c+(65535-o))=65535-c+(65535-o):=yc _ (by omega) (by omega)
 have w5:IntKind.u64.wrap (65535-c+(65535-o)+n)=65535-c+(65535-o)+n:=yc _ (by omega) (by omega)
 have hf:=re (65535-c+(65535-o)+n) (by omega) (by omega)
 have hb:=uf (65535-c+(65535-o)+n) (by omega)
 have x3:=xK (yw (65535-c+(65535-o)+n)) hb.1 hb.2
 refine z7 {} 0 Tryz.func103 fun Γ hW=>auC ?_
 repeat' first|refine auS ?_|(first|(simp only [show IntKind.u16.signed=false from rfl,x1,x2,w1,w2,w3,w4,w5])|(with_reducible refine z6 hf ?_))|refine auD ?_|(refine auW ?_ ?_<;>intro h<;>try exact auH)|fail
 all_goals try exact auP
 all_goals refine auV ?_
 all_goals try exact zc
 all_goals try simp only [hsM] at *
 all_goals exact yd x3
def jq (s:List UInt8):Int:=65535-yw (65535-z8 s 10+(65535-z8 s 8)+(z8 s 8-256))
def W1 (s:List UInt8):List UInt8:=s.take 8++wd (z8 s 8-256)++wd (jq s)++(s.drop 12).take ((z8 s 2).toNat-12)
def tK (s:List UInt8):List UInt8×Int:=if ¬(rpR s).2=0 then ([],(rpR s).2) else if bN s 8<2 then ([],7) else (W1 s,0)
theorem aO (s:List UInt8):((rpR s).2=0∧rpR s=(rdP s,0)∧20≤s.length∧20≤z8 s 2∧z8 s 2≤s.length)∨(¬(rpR s).2=0):=by
 by_cases h:yH s=0
 ·have e:rpR s=(rdP s,0):=by unfold rpR;rw [if_pos h]
  refine .inl ⟨by rw [e],e,?_⟩
  unfold yH at h
  split at h
  ·cases h
  ·rename_i q1
   split at h
   ·cases h
   ·rename_i q2
    have q3:69≤bN s 0∧bN s 0≤79:=by
     by_cases q:69≤bN s 0∧bN s 0≤79
     ·exact q
     ·exact absurd (.inl q) q2
    have q4:¬z8 s 2<(hN s:Nat):=fun q=>q2 (.inr (.inl q))
    have q5:¬s.length<20:=fun q=>q1 (.inl q)
    have q6:¬(s.length:Int)<z8 s 2:=fun q=>q1 (.inr (.inr q))
    have q7:20≤hN s:=by unfold hN;omega
    omega
 ·refine .inr ?_
  unfold rpR
  rw [if_neg h]
  exact h
theorem UE (s:List UInt8):z8 s 8=256*(bN s 8:Nat)+(bN s 9:Nat):=rfl
set_option maxHeartbeats 2000000 in
theorem Ym (s:List UInt8) (hl:s.length≤140737488351232):zi Tryz.prog 72 [.v (.string (mkS s))] (dSI (tK s)):=by
 have hr:=sC s (by omega)
 rcases aO s with ⟨h0,he,h20,ha,hal⟩|h0
 rotate_left
 ·have hne:tK s=([],(rpR s).2):=by unfold tK;rw [if_pos h0]
  rw [hne]
  unfold dPE at hr
  generalize (rpR s).1=P at hr
  generalize (rpR s).2=E at hr h0 ⊢
  refine z7 {} 0 Tryz.func72 fun Γ hW=>auC ?_
  repeat' first|refine auS ?_|(first|(with_reducible refine z6 hr ?_))|refine auD ?_|(refine auW ?_ ?_<;>intro h<;>try exact auH)|fail
  all_goals try exact auP
  all_goals refine auV ?_
  all_goals try exact zc
  all_goals try simp only [hsM] at *
  all_goals rfl
 rw [he] at hr
 dsimp only [dPE,dP,rdP,Pk.enc] at hr
 have b8:=w_ s 8
 have b9:=w_ s 9
 have hw8:=zD s 8
 have hw10:=zD s 10
 have hwd:=UE s
 unfold tK
 rw [if_neg (not_not_intro h0)]
 generalize mkS (List.take (hN s-20) (List.drop 20 s))=T1 at hr
 generalize mkS (List.take ((z8 s 2).toNat-hN s) (List.drop (hN s) s))=T2 at hr
 generalize z8 s 4=g4 at hr
 generalize z8 s 6 % 8192=g6 at hr
 generalize decide (z8 s 6 / 16384=1)=g7 at hr
 generalize decide (z8 s 6 / 8192 % 2=1)=g8 at hr
 by_cases h2:bN s 8<2
 ·rw [if_pos h2]
  refine z7 {} 0 Tryz.func72 fun Γ hW=>auC ?_
  repeat' first|refine auS ?_|(first|(with_reducible refine z6 hr ?_))|refine auD ?_|(refine auW ?_ ?_<;>intro h<;>try exact auH)|fail
  all_goals try exact auP
  all_goals refine auV ?_
  all_goals try exact zc
  all_goals try simp only [hsM] at *
  all_goals rfl
 rw [if_neg h2]
 have e8:(mkS s).extract 0 8=mkS (s.take 8):=by rw [yW];rfl
 have ew:(mkS s).extract 12 (z8 s 2).toNat=mkS ((s.drop 12).take ((z8 s 2).toNat-12)):=yW _ _ _
 have q1:=yE s 8 (by omega) (by omega) 8 rfl
 have q2:=yE s 10 (by omega) (by omega) 10 rfl
 have q3:=yE s 2 (by omega) (by omega) 2 rfl
 have q4:=wx (z8 s 8-256)
 have q5:=wx (jq s)
 have w1:IntKind.u16.wrap (z8 s 8)=z8 s 8:=by rw [n_];omega
 have w2:IntKind.u16.wrap (z8 s 10)=z8 s 10:=by rw [n_];omega
 have w3:IntKind.i64.wrap (((bN s 8:Nat):Int)-1)=(bN s 8:Nat)-1:=IntWalk.i64_in _ (by omega)
 have w4:IntKind.u16.wrap (bits .or .i64 (IntKind.i64.wrap ((((bN s 8:Nat):Int)-1)*2 ^ min 8 IntKind.i64.bits)) (bN s 9:Nat))=z8 s 8-256:=by
  have m8:min 8 IntKind.i64.bits=8:=rfl
  rw [m8,IntWalk.i64_in _ (by omega),qf 8 _ _ (by omega) (by omega) (by omega) (by omega) (by omega) (by omega),n_]
  omega
 have w5:IntKind.i64.wrap (z8 s 8-256)=z8 s 8-256:=IntWalk.i64_in _ (by omega)
 have q6:=ma (z8 s 10) (z8 s 8) (z8 s 8-256) (by omega) (by omega) (by omega)
 have hcb:0≤jq s∧jq s≤65535:=by
  have:=uf (65535-z8 s 10+(65535-z8 s 8)+(z8 s 8-256)) (by omega)
  unfold jq
  omega
 have w6:IntKind.i64.wrap (jq s)=jq s:=IntWalk.i64_in _ (by omega)
 have w7:=w6
 have q7:=q6
 unfold W1
 change zi Tryz.prog _ _ (.v (.int .u16 (jq s))) at q6
 generalize jq s=C at *
 generalize z8 s 2=al at *
 generalize z8 s 10=c10 at *
 refine z7 {} 0 Tryz.func72 fun Γ hW=>auC ?_
 repeat' first|refine auS ?_|(first|(simp only [zu,e8,ew,w1,w2,w3,w4,w5,w6,w7])|(with_reducible refine z6 hr ?_)|(with_reducible refine z6 q1 ?_)|(with_reducible refine z6 q2 ?_)|(with_reducible refine z6 q3 ?_)|(with_reducible refine z6 q4 ?_)|(with_reducible refine z6 q5 ?_)|(with_reducible refine z6 q6 ?_)|(with_reducible refine z6 q7 ?_))|refine auD ?_|(refine auW ?_ ?_<;>intro h<;>try exact auH)|(first|(refine zf (by simp only [za,List.length_take,List.length_drop,List.length_append,yP];omega) ?_)|(refine zf (by omega) ?_)|fail)
 all_goals try exact auP
 all_goals refine auV ?_
 all_goals try exact zc
 all_goals try simp only [hsM] at *
end Go.Proofs.YtaiileiodjicpaaGreatDoor.H
namespace Go.Proofs.YtaiileiodjicpaaGreatDoor
def jf (u:Hs) (a now n:Int):List Mt×Bool:=
 match u.ms.find? (fun m=>decide (m.ad=a)) with
 |some m0=>(u.ms.filter (fun m=>!decide (m.ad=a))++[oI a m0 now n],pT m0 now n)
 |none=>(u.ms.drop (u.ms.length-63)++[oI a ⟨a,u.p.ra,u.p.mo,u.p.mo,now⟩ now n],pT ⟨a,u.p.ra,u.p.mo,u.p.mo,now⟩ now n)
theorem bh {a b c d:Int} (h:mX a b c d=0):a=0∧b=0∧c=0∧d=0:=by
 unfold mX at h
 split at h
 ·exact absurd h (by assumption)
 ·split at h
  ·exact absurd h (by assumption)
  ·split at h
   ·exact absurd h (by assumption)
   ·exact ⟨by simp_all,by simp_all,by simp_all,h⟩
theorem js {u:Hs} (h:lI u=0):R.plE u.p=0∧T.yq u.tr=0∧iQ u.n=0∧lJ u=true∧yS (tV u.p.ra u.p.mo) [] u.ms=true:=by
 rw [dZ] at h
 obtain ⟨h1,h2,h3,h4⟩:=bh h
 refine ⟨h1,h2,h3,?_⟩
 unfold mtE at h4
 split at h4
 ·rename_i q
  rw [Bool.and_eq_true] at q
  exact q
 ·cases h4
theorem cG {u:Hs} (h:lJ u=true):u.ms.length≤64:=by
 unfold lJ at h
 rw [Bool.and_eq_true,decide_eq_true_eq] at h
 exact h.1
theorem nq {ra mo:Int} {l:List Mt} (hg:yS (tV ra mo) [] l=true) {i:Nat} {m:Mt} (hi:l[i]?=some m):B.uS m.ra m.mo m.hs m.tm=0∧m.ra=ra∧m.mo=mo∧∀y∈l.take i,y.tm≤m.tm∧¬y.ad=m.ad:=by
 have h:=sP hg hi
 unfold tV at h
 simp only [Bool.and_eq_true,decide_eq_true_eq,List.all_eq_true,Bool.not_eq_true',decide_eq_false_iff_not,List.nil_append] at h
 exact ⟨h.1,h.2.1,h.2.2.1,fun y hy=>⟨by have:=(h.2.2.2 y hy).1;omega,(h.2.2.2 y hy).2⟩⟩
theorem dK {ra mo:Int} {l:List Mt} (hg:yS (tV ra mo) [] l=true) {m:Mt} (hm:m∈l):m.tm≤tN l∧0≤tN l:=by
 obtain ⟨i,hi⟩:=List.mem_iff_getElem?.1 hm
 have hil:=(List.getElem?_eq_some_iff.1 hi).1
 obtain ⟨z,hz⟩:∃z,l[l.length-1]?=some z:=⟨_,List.getElem?_eq_getElem (by omega)⟩
 have h1:tN l=z.tm:=by unfold tN;rw [hz]
 obtain ⟨g1,g2,g3,g4⟩:=nq hg hz
 have hb:=B.r6 g1
 rw [h1]
 refine ⟨?_,by omega⟩
 by_cases e:i=l.length-1
 ·rw [e,hz] at hi
  rw [Option.some.inj hi]
  exact Int.le_refl _
 ·exact (g4 m (List.mem_iff_getElem?.2 ⟨i,by rw [List.getElem?_take,if_pos (by omega)];exact hi⟩)).1
theorem gF {ra mo:Int} {l:List Mt} (hg:yS (tV ra mo) [] l=true):0≤tN l:=by
 cases l with
 |nil=>exact Int.le_refl 0
 |cons x r=>exact (dK hg (List.mem_cons_self (a:=x) (l:=r))).2
theorem Y1 {r m now:Int} (h1:0≤r∧r≤1000000) (h2:1≤m∧m≤1000000000) (h3:0≤now∧now≤1099511627776):B.uS r m m now=0:=by
 unfold B.uS
 rw [if_neg (by omega),if_neg (by omega)]
theorem gS {r m x a now n:Int} (h:B.uS r m x a=0) (h1:a≤now∧now≤1099511627776) (h2:0≤n∧n≤1000000000):B.vt r m x a now n=0:=by
 unfold B.vt
 rw [if_neg (not_not_intro h),if_neg (by omega)]
theorem Ua {p:R.Pl} (h:R.plE p=0):(0≤p.ra∧p.ra≤1000000)∧(1≤p.mo∧p.mo≤1000000000)∧R.rB p.rs=0:=by
 unfold R.plE at h
 split at h
 ·rename_i q
  unfold R.WU at q
  simp only [Bool.and_eq_true,decide_eq_true_eq] at q
  exact ⟨q.2.2.2.1,q.2.2.2.2,h⟩
 ·cases h
theorem Xs {ra mo:Int} {l:List Mt} (hg:yS (tV ra mo) [] l=true) {i:Nat} {m:Mt} (hi:l[i]?=some m):l.filter (fun x=>!decide (x.ad=m.ad))=l.take i++l.drop (i+1):=by
 have hil:=(List.getElem?_eq_some_iff.1 hi).1
 have e:l=l.take i++m::l.drop (i+1):=by
  conv=>lhs;rw [←List.take_append_drop i l,List.drop_eq_getElem_cons hil,show l[i]=m from Option.some.inj ((List.getElem?_eq_getElem hil).symm.trans hi)]
 have h1:(l.take i).filter (fun x=>!decide (x.ad=m.ad))=l.take i:=List.filter_eq_self.2 (fun y hy=>by simp [((nq hg hi).2.2.2 y hy).2])
 have h2:(l.drop (i+1)).filter (fun x=>!decide (x.ad=m.ad))=l.drop (i+1):=List.filter_eq_self.2 (fun y hy=>by
  obtain ⟨j,hj⟩:=List.mem_iff_getElem?.1 hy
  rw [List.getElem?_drop] at hj
  have hm:m∈l.take (i+1+j):=List.mem_iff_getElem?.2 ⟨i,by rw [List.getElem?_take,if_pos (by omega)];exact hi⟩
  have:=((nq hg hj).2.2.2 m hm).2
  simp only [Bool.not_eq_true',decide_eq_false_iff_not]
  exact fun q=>this q.symm)
 conv=>lhs;rw [e]
 rw [List.filter_append,h1,List.filter_cons,if_neg (by simp),h2]
theorem gG (u:Hs) (hE:lI u=0) (f:Fl) (t:List UInt8) (now:Int) (hn:qu u≤now∧now≤1099511627776) (ht:t.length≤65535) (n m:Nat) :
  xt Tryz.prog 73 [.ptr 0 n 23 0 0] [some ⟨n,23,[wkR u (.sl 1 m 5 0 u.ms.length false) f t now]⟩,some ⟨m,5,u.ms.map Mt.enc⟩] 1 (fun q d H=>d=.v (.bool (jf u f.fr now (t.length:Nat)).2)∧H=Wl u f t now n q (jf u f.fr now (t.length:Nat)).1):=by
 obtain ⟨hp,-,-,hf,hg⟩:=js hE
 have hl:=cG hf
 have hl':u.ms.length≤maxLen:=by unfold maxLen;omega
 have hll:tN u.ms≤now:=by unfold qu at hn;omega
 have h0:=gF hg
 obtain ⟨hra,hmo,-⟩:=Ua hp
 unfold jf
 rcases A.pY (fun m:Mt=>decide (m.ad=f.fr)) u.ms with ⟨q1,q2⟩|⟨i,m0,q1,q2,q3⟩
 ·rw [q2]
  dsimp only
  have he:B.vt u.p.ra u.p.mo u.p.mo now now (t.length:Nat)=0:=gS (Y1 hra hmo (by omega)) (by omega) (by omega)
  by_cases h64:u.ms.length=64
  ·rw [show u.ms.length-63=1 by omega]
   exact U3 u f t now hl' ⟨f.fr,u.p.ra,u.p.mo,u.p.mo,now⟩ rfl rfl rfl rfl q1 h64 he n m
  ·rw [show u.ms.length-63=0 by omega,List.drop_zero]
   exact Yk u f t now hl' ⟨f.fr,u.p.ra,u.p.mo,u.p.mo,now⟩ rfl rfl rfl rfl q1 (by omega) he n m
 ·rw [q3]
  dsimp only
  have hb:=nq hg q1
  have hm:m0.ad=f.fr:=by have:=List.find?_some q3;simpa using this
  have ht0:=dK hg (List.mem_of_getElem? q1)
  rw [←hm,Xs hg q1,hm]
  exact VB u f t now hl' i m0 q1 q2 hl (gS hb.1 (by omega) (by omega)) n m
theorem ny {tm:Env} {T:HL} {g n m len:Nat} (u:Hs) (f:Fl) (t:List UInt8) (now:Int) (xs:List (List DV)):Le ⟨tm,some ⟨n,23,[wkR u (.sl 1 m 5 0 len false) f t now]⟩::some ⟨m,5,xs⟩::T,g⟩ ⟨tm,some ⟨n,23,[wkR u (.sl 4 g 5 0 len false) f t now]⟩::some ⟨g,5,xs⟩::T,g+1⟩:=by
 refine iv (st:=⟨tm,some ⟨n,23,[wkR u (.sl 1 m 5 0 len false) f t now]⟩::some ⟨m,5,xs⟩::T,g⟩) (fun _=>m) 1 (fun k p hk=>?_)
 match k,hk with
 |0,hk=>
  obtain rfl:=Option.some.inj hk
  refine ⟨_,rfl,.inr ⟨.inl rfl,Nat.succ_pos _,rfl,rfl,fun i y hy=>?_⟩⟩
  match i,hy with
  |0,hy=>
   obtain rfl:=Option.some.inj hy
   refine ⟨_,rfl,rfl,fun j e he=>?_⟩
   by_cases hj:j=8
   ·subst hj
    obtain rfl:=Option.some.inj he
    exact ⟨_,rfl,.inr ⟨0,1,4,5,0,len,false,Nat.zero_lt_one,rfl,rfl⟩⟩
   ·have e1:wkR u (.sl 4 g 5 0 len false) f t now=(wkR u (.sl 1 m 5 0 len false) f t now).set 8 (.sl 4 g 5 0 len false):=rfl
    rw [e1,List.getElem?_set_ne (fun q=>hj q.symm)] at he
    exact ⟨e,he,.inl rfl⟩
  |i+1,hy=>simp at hy
 |1,hk=>
  obtain rfl:=Option.some.inj hk
  exact ⟨_,rfl,.inr ⟨.inr ⟨0,Nat.zero_lt_one,rfl,rfl⟩,Nat.succ_pos _,rfl,rfl,fun i y hy=>⟨y,hy,rfl,fun j e he=>⟨e,he,.inl rfl⟩⟩⟩⟩
 |k+2,hk=>exact ⟨p,hk,.inl rfl⟩
def goR (u:Hs) (inside:Bool) (s:List UInt8) (now:Int):Hs×Fl×List UInt8×List UInt8×Int:=
 if (edR s).2≠0 then (u,(edR s).1,[],[],1)
 else if inside=false∧(edR s).1.to≠u.p.ou then (u,(edR s).1,[],[],4)
 else if (H.tK s).2≠0 then (u,(edR s).1,(H.tK s).1,[],2)
 else
  let m:=jf u (edR s).1.fr now ((H.tK s).1.length:Nat)
  if m.2=false then ({ u with ms:=m.1 },(edR s).1,(H.tK s).1,[],3)
  else if inside then
   let r:=t8 u (edR s).1 (H.tK s).1 now
   ({ u with ms:=m.1,tr:=r.1,n:=r.2.1 },(edR s).1,(H.tK s).1,r.2.2.1,r.2.2.2)
  else
   let r:=sS u (edR s).1 (H.tK s).1 now
   ({ u with ms:=m.1,tr:=r.1 },(edR s).1,(H.tK s).1,r.2.1,r.2.2)
abbrev goH (r:Hs×Fl×List UInt8×List UInt8×Int) (now:Int) (n q:Nat):HL:=[some ⟨n,23,[wkR r.1 (.sl 4 q 5 0 r.1.ms.length false) r.2.1 r.2.2.1 now]⟩,none,some ⟨q,5,r.1.ms.map Mt.enc⟩]
theorem aZ {s:List UInt8} (h:(edR s).2=0):VW (edR s).1:=by
 unfold edR at h ⊢
 split at h
 ·rename_i h1
  rw [if_pos h1]
  have b1:0≤(rdP s).fr∧(rdP s).fr<4294967296:=uG _ _
  have b2:0≤(rdP s).to∧(rdP s).to<4294967296:=uG _ _
  unfold edP at h ⊢
  generalize rdP s=p at *
  split at h
  ·cases h
  rename_i h2
  rw [if_neg h2]
  split at h
  ·cases h
  rename_i h3
  rw [if_neg h3]
  split at h
  ·rename_i h4
   rw [if_pos h4]
   split at h
   ·rename_i h5
    rw [if_pos h5]
    exact ⟨.inl rfl,b1,b2⟩
   ·rename_i h5
    exact absurd h h5
  ·rename_i h4
   rw [if_neg h4]
   split at h
   ·rename_i h5
    rw [if_pos h5]
    exact ⟨.inr rfl,b1,b2⟩
   ·rename_i h5
    exact absurd h h5
 ·rename_i h1
  exact absurd h h1
end Go.Proofs.YtaiileiodjicpaaGreatDoor
namespace Go.Proofs.YtaiileiodjicpaaGreatDoor
attribute [local irreducible] zF Go
set_option maxRecDepth 100000
theorem X_ (n:Nt) (h:n.wf) (pr out now:Int):0≤(rD n pr out now).1∧(rD n pr out now).1<4294967296:=by
 have h0:(0:Int)≤0∧(0:Int)<4294967296:=by decide
 unfold rD A.nIn
 split
 ·exact h0
 ·split
  ·exact h0
  ·split
   ·exact h0
   ·unfold A.inA
    split
    ·rename_i m hm
     exact h.ad m (List.mem_of_find?_eq_some hm)
    ·exact h0
theorem Xe {s:List UInt8} (h:(H.tK s).2=0):(H.tK s).1.length≤65535:=by
 have hw:=zD s 2
 unfold H.tK at h ⊢
 split at h
 ·rename_i q
  exact absurd h q
 ·rename_i q
  rw [if_neg q]
  split at h
  ·cases h
  ·rename_i q2
   rw [if_neg q2]
   show (H.W1 s).length≤65535
   unfold H.W1
   simp only [List.length_append,List.length_take,List.length_drop,wd,List.length_cons,List.length_nil]
   omega
set_option maxHeartbeats 8000000 in
theorem bD (u:Hs) (hw:u.wf) (hE:lI u=0) (inside:Bool) (s:List UInt8) (hs:s.length≤140737488351232) (now:Int) (hnow:qu u≤now∧now≤1099511627776) (n m:Nat) :
  xt Tryz.prog 42 [.ptr 0 n 23 0 0,.v (.bool inside),.v (.string (mkS s))] [some ⟨n,23,[wkR u (.sl 1 m 5 0 u.ms.length false) fl0 [] now]⟩,some ⟨m,5,u.ms.map Mt.enc⟩] 1 (fun q d H=>d=.tup [.v (.string (mkS (goR u inside s now).2.2.2.1)),.v (.int .i64 (goR u inside s now).2.2.2.2)]∧H=goH (goR u inside s now) now n q):=by
 have he:=pD s hs
 have hh:=H.Ym s hs
 have hed:=aZ (s:=s)
 have hhl:=Xe (s:=s)
 unfold goR
 generalize edR s=E at *
 obtain ⟨f,e⟩:=E
 generalize H.tK s=HP at *
 obtain ⟨t,e2⟩:=HP
 dsimp only at *
 obtain ⟨fr,to,proto,fp,tp⟩:=f
 dsimp only at *
 by_cases h1:e=0
 rotate_left
 ·rw [if_pos h1]
  have hme:True:=trivial
  have hlv:Nat→True:=fun _=>trivial
  have hen:Nat→True:=fun _=>trivial
  refine yf {} 2 Tryz.func42 fun Γ hN0 hL0=>auC ?_
  have hn:n<Γ.g0:=hN0 0 _ rfl
  have hm:m<Γ.g0:=hN0 1 _ rfl
  repeat' first|refine auS ?_|(first|((with_reducible refine zy 73 ?_);(refine zx [0,1] [4] [0,1,4] rfl (by decide) rfl rfl hme ?_))|((with_reducible refine zy 74 ?_);(refine zt [0,4] (by decide) rfl rfl (hlv _) ?_))|((with_reducible refine zy 75 ?_);(refine zt [0,4] (by decide) rfl rfl (hen _) ?_))|(with_reducible refine z6 he ?_)|(with_reducible refine z6 hh ?_))|refine auD ?_|(refine auW ?_ ?_<;>intro h<;>try exact auH)|fail
  all_goals try exact auP
  all_goals try (exfalso;simp_all;done)
  refine wJ (yz (ny u ⟨fr,to,proto,fp,tp⟩ [] now _)) ?_
  exact ww [0,2,1] [Γ.g0] trivial (by decide) rfl (fun a ha=>by simp at ha;subst ha;exact ⟨1,_,rfl,rfl⟩) (fun q=>⟨⟨rfl,trivial⟩,⟨rfl,trivial⟩,rfl⟩) (fun q=>⟨⟨.inr ⟨hn,rfl⟩,rfl,uj u _ _ now (.inl ⟨0,rfl,rfl⟩),rfl⟩,⟨.inl ⟨0,rfl,rfl⟩,rfl,zz _ (wy _ _)⟩,rfl⟩)
 subst h1
 rw [if_neg (not_not_intro rfl)]
 cases inside with
 |false=>
  by_cases h2:to=u.p.ou
  rotate_left
  ·rw [if_pos ⟨rfl,h2⟩]
   have hme:True:=trivial
   have hlv:Nat→True:=fun _=>trivial
   have hen:Nat→True:=fun _=>trivial
   refine yf {} 2 Tryz.func42 fun Γ hN0 hL0=>auC ?_
   have hn:n<Γ.g0:=hN0 0 _ rfl
   have hm:m<Γ.g0:=hN0 1 _ rfl
   repeat' first|refine auS ?_|(first|((with_reducible refine zy 73 ?_);(refine zx [0,1] [4] [0,1,4] rfl (by decide) rfl rfl hme ?_))|((with_reducible refine zy 74 ?_);(refine zt [0,4] (by decide) rfl rfl (hlv _) ?_))|((with_reducible refine zy 75 ?_);(refine zt [0,4] (by decide) rfl rfl (hen _) ?_))|(with_reducible refine z6 he ?_)|(with_reducible refine z6 hh ?_))|refine auD ?_|(refine auW ?_ ?_<;>intro h<;>try exact auH)|fail
   all_goals try exact auP
   all_goals try (exfalso;simp_all;done)
   refine wJ (yz (ny u ⟨fr,to,proto,fp,tp⟩ [] now _)) ?_
   exact ww [0,2,1] [Γ.g0] trivial (by decide) rfl (fun a ha=>by simp at ha;subst ha;exact ⟨1,_,rfl,rfl⟩) (fun q=>⟨⟨rfl,trivial⟩,⟨rfl,trivial⟩,rfl⟩) (fun q=>⟨⟨.inr ⟨hn,rfl⟩,rfl,uj u _ _ now (.inl ⟨0,rfl,rfl⟩),rfl⟩,⟨.inl ⟨0,rfl,rfl⟩,rfl,zz _ (wy _ _)⟩,rfl⟩)
  rw [if_neg (fun q=>q.2 h2)]
  by_cases h3:e2=0
  rotate_left
  ·rw [if_pos h3]
   have hme:True:=trivial
   have hlv:Nat→True:=fun _=>trivial
   have hen:Nat→True:=fun _=>trivial
   refine yf {} 2 Tryz.func42 fun Γ hN0 hL0=>auC ?_
   have hn:n<Γ.g0:=hN0 0 _ rfl
   have hm:m<Γ.g0:=hN0 1 _ rfl
   repeat' first|refine auS ?_|(first|((with_reducible refine zy 73 ?_);(refine zx [0,1] [4] [0,1,4] rfl (by decide) rfl rfl hme ?_))|((with_reducible refine zy 74 ?_);(refine zt [0,4] (by decide) rfl rfl (hlv _) ?_))|((with_reducible refine zy 75 ?_);(refine zt [0,4] (by decide) rfl rfl (hen _) ?_))|(with_reducible refine z6 he ?_)|(with_reducible refine z6 hh ?_))|refine auD ?_|(refine auW ?_ ?_<;>intro h<;>try exact auH)|fail
   all_goals try exact auP
   all_goals try (exfalso;simp_all;done)
   refine wJ (yz (ny u ⟨fr,to,proto,fp,tp⟩ t now _)) ?_
   exact ww [0,2,1] [Γ.g0] trivial (by decide) rfl (fun a ha=>by simp at ha;subst ha;exact ⟨1,_,rfl,rfl⟩) (fun q=>⟨⟨rfl,trivial⟩,⟨rfl,trivial⟩,rfl⟩) (fun q=>⟨⟨.inr ⟨hn,rfl⟩,rfl,uj u _ _ now (.inl ⟨0,rfl,rfl⟩),rfl⟩,⟨.inl ⟨0,rfl,rfl⟩,rfl,zz _ (wy _ _)⟩,rfl⟩)
  subst h3
  rw [if_neg (not_not_intro rfl)]
  have hme:=gG u hE ⟨fr,to,proto,fp,tp⟩ t now hnow (hhl rfl) n m
  have htl:t.length≤140737488351232:=by have:=hhl rfl;omega
  have hfo:=hed rfl
  dsimp only at hme ⊢
  generalize jf u fr now (t.length:Nat)=mm at *
  obtain ⟨l,ok⟩:=mm
  dsimp only at hme ⊢
  have hlv:=og u hw l ⟨fr,to,proto,fp,tp⟩ hfo t htl now 4 n
  have hen:=oi u hw l ⟨fr,to,proto,fp,tp⟩ hfo t htl now (X_ u.n hw.n _ _ _) 4 n
  generalize t8 u ⟨fr,to,proto,fp,tp⟩ t now=lv at *
  generalize sS u ⟨fr,to,proto,fp,tp⟩ t now=en at *
  obtain ⟨v1,v2,v3,v4⟩:=lv
  obtain ⟨w1,w2,w3⟩:=en
  dsimp only at hlv hen ⊢
  cases ok with
  |false=>
   rw [if_pos rfl]
   refine yf {} 2 Tryz.func42 fun Γ hN0 hL0=>auC ?_
   have hn:n<Γ.g0:=hN0 0 _ rfl
   have hm:m<Γ.g0:=hN0 1 _ rfl
   repeat' first|refine auS ?_|(first|((with_reducible refine zy 73 ?_);(refine zx [0,1] [4] [0,1,4] rfl (by decide) rfl rfl hme ?_))|((with_reducible refine zy 74 ?_);(refine zt [0,4] (by decide) rfl rfl (hlv _) ?_))|((with_reducible refine zy 75 ?_);(refine zt [0,4] (by decide) rfl rfl (hen _) ?_))|(with_reducible refine z6 he ?_)|(with_reducible refine z6 hh ?_))|refine auD ?_|(refine auW ?_ ?_<;>intro h<;>try exact auH)|fail
   all_goals try exact auP
   all_goals try (exfalso;simp_all;done)
   exact ww [0,1,4] [Γ.g0] trivial (by decide) rfl (fun a ha=>by simp at ha;subst ha;exact ⟨4,_,rfl,rfl⟩) (fun q=>⟨⟨rfl,trivial⟩,⟨rfl,trivial⟩,rfl⟩) (fun q=>⟨⟨.inr ⟨hn,rfl⟩,rfl,uj _ _ _ now (.inl ⟨0,rfl,rfl⟩),rfl⟩,⟨.inl ⟨0,rfl,rfl⟩,rfl,zz _ (wy _ _)⟩,rfl⟩)
  |true=>
   rw [if_neg (by decide),if_neg (by decide)]
   refine yf {} 2 Tryz.func42 fun Γ hN0 hL0=>auC ?_
   have hn:n<Γ.g0:=hN0 0 _ rfl
   have hm:m<Γ.g0:=hN0 1 _ rfl
   repeat' first|refine auS ?_|(first|((with_reducible refine zy 73 ?_);(refine zx [0,1] [4] [0,1,4] rfl (by decide) rfl rfl hme ?_))|((with_reducible refine zy 74 ?_);(refine zt [0,4] (by decide) rfl rfl (hlv _) ?_))|((with_reducible refine zy 75 ?_);(refine zt [0,4] (by decide) rfl rfl (hen _) ?_))|(with_reducible refine z6 he ?_)|(with_reducible refine z6 hh ?_))|refine auD ?_|(refine auW ?_ ?_<;>intro h<;>try exact auH)|fail
   all_goals try exact auP
   all_goals try (exfalso;simp_all;done)
   exact ww [0,1,4] [Γ.g0] trivial (by decide) rfl (fun a ha=>by simp at ha;subst ha;exact ⟨4,_,rfl,rfl⟩) (fun q=>⟨⟨rfl,trivial⟩,⟨rfl,trivial⟩,rfl⟩) (fun q=>⟨⟨.inr ⟨hn,rfl⟩,rfl,uj _ _ _ now (.inl ⟨0,rfl,rfl⟩),rfl⟩,⟨.inl ⟨0,rfl,rfl⟩,rfl,zz _ (wy _ _)⟩,rfl⟩)
 |true=>
  rw [if_neg (fun q=>Bool.noConfusion q.1)]
  by_cases h3:e2=0
  rotate_left
  ·rw [if_pos h3]
   have hme:True:=trivial
   have hlv:Nat→True:=fun _=>trivial
   have hen:Nat→True:=fun _=>trivial
   refine yf {} 2 Tryz.func42 fun Γ hN0 hL0=>auC ?_
   have hn:n<Γ.g0:=hN0 0 _ rfl
   have hm:m<Γ.g0:=hN0 1 _ rfl
   repeat' first|refine auS ?_|(first|((with_reducible refine zy 73 ?_);(refine zx [0,1] [4] [0,1,4] rfl (by decide) rfl rfl hme ?_))|((with_reducible refine zy 74 ?_);(refine zt [0,4] (by decide) rfl rfl (hlv _) ?_))|((with_reducible refine zy 75 ?_);(refine zt [0,4] (by decide) rfl rfl (hen _) ?_))|(with_reducible refine z6 he ?_)|(with_reducible refine z6 hh ?_))|refine auD ?_|(refine auW ?_ ?_<;>intro h<;>try exact auH)|fail
   all_goals try exact auP
   all_goals try (exfalso;simp_all;done)
   refine wJ (yz (ny u ⟨fr,to,proto,fp,tp⟩ t now _)) ?_
   exact ww [0,2,1] [Γ.g0] trivial (by decide) rfl (fun a ha=>by simp at ha;subst ha;exact ⟨1,_,rfl,rfl⟩) (fun q=>⟨⟨rfl,trivial⟩,⟨rfl,trivial⟩,rfl⟩) (fun q=>⟨⟨.inr ⟨hn,rfl⟩,rfl,uj u _ _ now (.inl ⟨0,rfl,rfl⟩),rfl⟩,⟨.inl ⟨0,rfl,rfl⟩,rfl,zz _ (wy _ _)⟩,rfl⟩)
  subst h3
  rw [if_neg (not_not_intro rfl)]
  have hme:=gG u hE ⟨fr,to,proto,fp,tp⟩ t now hnow (hhl rfl) n m
  have htl:t.length≤140737488351232:=by have:=hhl rfl;omega
  have hfo:=hed rfl
  dsimp only at hme ⊢
  generalize jf u fr now (t.length:Nat)=mm at *
  obtain ⟨l,ok⟩:=mm
  dsimp only at hme ⊢
  have hlv:=og u hw l ⟨fr,to,proto,fp,tp⟩ hfo t htl now 4 n
  have hen:=oi u hw l ⟨fr,to,proto,fp,tp⟩ hfo t htl now (X_ u.n hw.n _ _ _) 4 n
  generalize t8 u ⟨fr,to,proto,fp,tp⟩ t now=lv at *
  generalize sS u ⟨fr,to,proto,fp,tp⟩ t now=en at *
  obtain ⟨v1,v2,v3,v4⟩:=lv
  obtain ⟨w1,w2,w3⟩:=en
  dsimp only at hlv hen ⊢
  cases ok with
  |false=>
   rw [if_pos rfl]
   refine yf {} 2 Tryz.func42 fun Γ hN0 hL0=>auC ?_
   have hn:n<Γ.g0:=hN0 0 _ rfl
   have hm:m<Γ.g0:=hN0 1 _ rfl
   repeat' first|refine auS ?_|(first|((with_reducible refine zy 73 ?_);(refine zx [0,1] [4] [0,1,4] rfl (by decide) rfl rfl hme ?_))|((with_reducible refine zy 74 ?_);(refine zt [0,4] (by decide) rfl rfl (hlv _) ?_))|((with_reducible refine zy 75 ?_);(refine zt [0,4] (by decide) rfl rfl (hen _) ?_))|(with_reducible refine z6 he ?_)|(with_reducible refine z6 hh ?_))|refine auD ?_|(refine auW ?_ ?_<;>intro h<;>try exact auH)|fail
   all_goals try exact auP
   all_goals try (exfalso;simp_all;done)
   exact ww [0,1,4] [Γ.g0] trivial (by decide) rfl (fun a ha=>by simp at ha;subst ha;exact ⟨4,_,rfl,rfl⟩) (fun q=>⟨⟨rfl,trivial⟩,⟨rfl,trivial⟩,rfl⟩) (fun q=>⟨⟨.inr ⟨hn,rfl⟩,rfl,uj _ _ _ now (.inl ⟨0,rfl,rfl⟩),rfl⟩,⟨.inl ⟨0,rfl,rfl⟩,rfl,zz _ (wy _ _)⟩,rfl⟩)
  |true=>
   rw [if_neg (by decide),if_pos (by decide)]
   refine yf {} 2 Tryz.func42 fun Γ hN0 hL0=>auC ?_
   have hn:n<Γ.g0:=hN0 0 _ rfl
   have hm:m<Γ.g0:=hN0 1 _ rfl
   repeat' first|refine auS ?_|(first|((with_reducible refine zy 73 ?_);(refine zx [0,1] [4] [0,1,4] rfl (by decide) rfl rfl hme ?_))|((with_reducible refine zy 74 ?_);(refine zt [0,4] (by decide) rfl rfl (hlv _) ?_))|((with_reducible refine zy 75 ?_);(refine zt [0,4] (by decide) rfl rfl (hen _) ?_))|(with_reducible refine z6 he ?_)|(with_reducible refine z6 hh ?_))|refine auD ?_|(refine auW ?_ ?_<;>intro h<;>try exact auH)|fail
   all_goals try exact auP
   all_goals try (exfalso;simp_all;done)
   exact ww [0,1,4] [Γ.g0] trivial (by decide) rfl (fun a ha=>by simp at ha;subst ha;exact ⟨4,_,rfl,rfl⟩) (fun q=>⟨⟨rfl,trivial⟩,⟨rfl,trivial⟩,rfl⟩) (fun q=>⟨⟨.inr ⟨hn,rfl⟩,rfl,uj _ _ _ now (.inl ⟨0,rfl,rfl⟩),rfl⟩,⟨.inl ⟨0,rfl,rfl⟩,rfl,zz _ (wy _ _)⟩,rfl⟩)
end Go.Proofs.YtaiileiodjicpaaGreatDoor
namespace Go.Proofs.YtaiileiodjicpaaGreatDoor
attribute [local irreducible] zF Go
set_option maxRecDepth 100000
theorem aX (l:List Mt) (lb q:Nat):vP ⟨q,5,l.map Mt.enc⟩ (.sl lb q 5 0 l.length false) (msD l):=.inl ⟨rfl,rfl,by simp,by rw [tH (by simp)]⟩
theorem j8 (u:Hs) (l:List Mt) (lb q:Nat):u_ ⟨q,5,l.map Mt.enc⟩ [u.row (.sl lb q 5 0 l.length false)] [u.row (msD l)]:=⟨⟨rfl,rfl,rfl,rfl,rfl,rfl,rfl,rfl,aX l lb q,rfl,rfl,rfl,rfl,rfl,rfl,rfl,rfl⟩,rfl⟩
theorem VL (u:Hs) (f:Fl) (t:List UInt8) (now:Int) (l:List Mt) (lb q:Nat):u_ ⟨q,5,l.map Mt.enc⟩ [wkR u (.sl lb q 5 0 l.length false) f t now] [wkR u (msD l) f t now]:=⟨⟨rfl,rfl,rfl,rfl,rfl,rfl,rfl,rfl,aX l lb q,rfl,rfl,rfl,rfl,rfl,rfl,rfl,rfl,rfl,rfl,rfl,rfl,rfl,rfl,rfl⟩,rfl⟩
theorem atR (s:Sl) {Γ:Gm} {P:Program} {N:Nat} {R:St→Prop} {o:XO} {g:Option (Sl×Bool)} {l:List XOp} {k:List KI} {st:St} (h:Go Γ P N R (.region (⟨some s,o,g⟩::l)) k st):Go Γ P N R (.region (⟨some s,o,g⟩::l)) k st:=h
def sm (u:Hs) (inside:Bool) (s:List UInt8) (now:Int):Hs×List UInt8×Int×Int:=
 if lI u≠0 then (u,[],0,lI u) else if now<qu u∨1099511627776<now then (u,[],0,1)
 else ((goR u inside s now).1,(goR u inside s now).2.2.2.1,(goR u inside s now).2.2.2.2,0)
abbrev Vg (r:Hs×List UInt8×Int×Int):DV:=.tup [dH r.1,.v (.string (mkS r.2.1)),.v (.int .i64 r.2.2.1),.v (.int .i64 r.2.2.2)]
theorem eU (g:Nat) (u:Hs):nfL g (u.row (msD u.ms)):=⟨trivial,trivial,trivial,trivial,trivial,trivial,gN _ _,trivial,wy _ _,cj _ _,trivial,trivial,trivial,trivial,trivial,A.uK _ _,trivial⟩
set_option maxHeartbeats 8000000 in
theorem rg (u:Hs) (hw:u.wf) (inside:Bool) (s:List UInt8) (hs:s.length≤140737488351232) (now:Int):zi Tryz.prog 23 [dH u,.v (.bool inside),.v (.string (mkS s)),.v (.int .i64 now)] (Vg (sm u inside s now)):=by
 have hown:=iO u hw
 have hck:=ic u hw
 have hnf:=fun g=>eU g u
 unfold sm
 by_cases hE:lI u=0
 rotate_left
 ·rw [if_pos hE]
  generalize lI u=e at *
  have hla:True:=trivial
  refine z7 {} 0 Tryz.func23 fun Γ hW=>auC ?_
  repeat' first|((with_reducible refine atR ⟨.d0,.d2,.d2⟩ ?_);(refine zP (zT hW 0 10 (by decide) (o:=⟨Γ.g0+2,5,u.ms.map Mt.enc⟩) (ys:=[u.row (msD u.ms)]) rfl rfl (j8 u u.ms 1 _)) ?_))|refine auS ?_|(first|((with_reducible refine zy 28 ?_);(refine zx [] [10] [10] rfl (by decide) rfl rfl hown ?_))|(with_reducible refine z6 hck ?_)|(with_reducible refine z6 hla ?_))|refine auD ?_|(refine auW ?_ ?_<;>intro h<;>try exact auH)|fail
  all_goals try exact auP
  all_goals try (exfalso;simp_all;done)
  all_goals refine auV ?_
  all_goals try exact zc
  all_goals try simp only [hsM] at *
  all_goals rfl
 rw [if_neg (not_not_intro hE)]
 have hla:=bd u hw (gF (js hE).2.2.2.2)
 rw [hE] at hck
 by_cases hn:now<qu u∨1099511627776<now
 ·rw [if_pos hn]
  clear hE
  generalize qu u=L at *
  refine z7 {} 0 Tryz.func23 fun Γ hW=>auC ?_
  repeat' first|((with_reducible refine atR ⟨.d0,.d2,.d2⟩ ?_);(refine zP (zT hW 0 10 (by decide) (o:=⟨Γ.g0+2,5,u.ms.map Mt.enc⟩) (ys:=[u.row (msD u.ms)]) rfl rfl (j8 u u.ms 1 _)) ?_))|refine auS ?_|(first|((with_reducible refine zy 28 ?_);(refine zx [] [10] [10] rfl (by decide) rfl rfl hown ?_))|(with_reducible refine z6 hck ?_)|(with_reducible refine z6 hla ?_))|refine auD ?_|(refine auW ?_ ?_<;>intro h<;>try exact auH)|fail
  all_goals try exact auP
  all_goals try (exfalso;simp_all;done)
  all_goals refine auV ?_
  all_goals try exact zc
  all_goals try simp only [hsM] at *
  all_goals rfl
 rw [if_neg hn]
 have hgo:=bD u hw hE inside s hs now (by omega)
 generalize qu u=L at *
 generalize goR u inside s now=r at *
 obtain ⟨v,f,t,o,y⟩:=r
 dsimp only at hgo ⊢
 have hnf2:=fun g=>eU g v
 refine z7 {} 0 Tryz.func23 fun Γ hW=>auC ?_
 repeat' first|((with_reducible refine atR ⟨.d0,.d5,.d2⟩ ?_);(refine zP (zT hW 2 11 (by decide) (ys:=[wkR v (msD v.ms) f t now]) rfl rfl (VL v f t now v.ms 4 _)) ?_))|refine auS ?_|(first|((with_reducible refine zy 28 ?_);(refine zx [] [10] [10] rfl (by decide) rfl rfl hown ?_))|((with_reducible refine zy 40 ?_);(refine zt [10] (by decide) rfl rfl (gI rfl hck 1 _) ?_))|((with_reducible refine zy 41 ?_);(refine zt [10] (by decide) rfl rfl (gI rfl hla 1 _) ?_))|((with_reducible refine zy 42 ?_);(refine zx [2,10] [11] [2,10,11] rfl (by decide) rfl rfl (kJ 2 (hgo _ _)) ?_)))|refine auD ?_|(refine auW ?_ ?_<;>intro h<;>try exact auH)|fail
 all_goals try exact auP
 all_goals try (exfalso;simp_all;done)
 all_goals refine auV ?_
 all_goals try exact zc
 all_goals try simp only [hsM] at *
 all_goals rfl
end Go.Proofs.YtaiileiodjicpaaGreatDoor
