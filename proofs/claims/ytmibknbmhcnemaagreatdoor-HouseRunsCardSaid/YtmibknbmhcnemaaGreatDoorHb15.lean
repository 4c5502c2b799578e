import Derived.Test.YtmibknbmhcnemaaGreatDoorHb14
set_option linter.unusedVariables false
set_option linter.unusedSimpArgs false
namespace Go.Proofs.YtmibknbmhcnemaaGreatDoor.T
attribute [local irreducible] zF Go
set_option maxRecDepth 100000
def se (pre:List Tk) (t:Tk):Bool:=t.form&&pre.all fun y=>!(decide (t.x<y.x)) && !(y.along t.a t.b t.c t.d)
def yL:List Tk→List Tk→Bool
 |_,[]=>true
 |pre,t::r=>se pre t&&yL (pre++[t]) r
def y8 (l:List Tk):Int:=if 64<l.length then 2 else if yL [] l then 0 else 4
theorem eo {pre r:List Tk} {t:Tk} (h:se pre t=true):yL pre (t::r)=yL (pre++[t]) r:=by simp [yL,h]
theorem ar {pre r:List Tk} {t:Tk} (h:se pre t=false):yL pre (t::r)=false:=by simp [yL,h]
theorem et (t:Tk):t.along t.a t.b t.c t.d=true:=by unfold Tk.along vA;simp
theorem Yb {l:List Tk} {k:Nat} {t:Tk} (ht:l[k]?=some t) (hs:∀y∈l.take k,∀z,l[k-1]?=some z→y.x≤z.x) :
  se (l.take k) t=true↔t.form=true∧(∀z,0<k→l[k-1]?=some z→z.x≤t.x)∧zl (fun y=>y.along t.a t.b t.c t.d) l 0=k:=by
 have hk:k<l.length:=(List.getElem?_eq_some_iff.1 ht).1
 have hf:=tD (fun y:Tk=>y.along t.a t.b t.c t.d) t (et t) (l.drop (k+1)) (l.take k) 0
 have hl:l.take k++t::l.drop (k+1)=l:=by
  rw [←Option.some.inj ((List.getElem?_eq_getElem hk).symm.trans ht),←List.drop_eq_getElem_cons hk,List.take_append_drop]
 rw [hl,List.length_take,Nat.min_eq_left (Nat.le_of_lt hk),Nat.zero_add] at hf
 rw [hf]
 unfold se
 simp only [Bool.and_eq_true,List.all_eq_true,Bool.not_eq_true',decide_eq_false_iff_not]
 constructor
 ·rintro ⟨h1,h2⟩
  refine ⟨h1,fun z h0 hz=>?_,fun y hy=>(h2 y hy).2⟩
  have hz':z∈l.take k:=List.mem_iff_getElem?.2 ⟨k-1,by rw [List.getElem?_take,if_pos (by omega)];exact hz⟩
  have:=(h2 z hz').1
  omega
 ·rintro ⟨h1,h2,h3⟩
  refine ⟨h1,fun y hy=>⟨?_,h3 y hy⟩⟩
  have h0:0<k:=by
   rcases Nat.eq_zero_or_pos k with rfl|h
   ·simp at hy
   ·exact h
  obtain ⟨z,hz⟩:∃z,l[k-1]?=some z:=⟨_,List.getElem?_eq_getElem (by omega)⟩
  have:=hs y hy z hz
  have:=h2 z h0 hz
  omega
theorem oZ {l:List Tk} {k:Nat} {t:Tk} (ht:l[k]?=some t) (hs:∀y∈l.take k,∀z,l[k-1]?=some z→y.x≤z.x) (hok:se (l.take k) t=true):∀y∈l.take (k+1),∀z,l[k+1-1]?=some z→y.x≤z.x:=by
 intro y hy z hz
 rw [Nat.add_sub_cancel,ht] at hz
 obtain rfl:=Option.some.inj hz
 rw [List.take_add_one,ht] at hy
 rcases List.mem_append.1 hy with hy|hy
 ·unfold se at hok
  simp only [Bool.and_eq_true,List.all_eq_true,Bool.not_eq_true',decide_eq_false_iff_not] at hok
  have:=(hok.2 y hy).1
  omega
 ·simp at hy
  rw [hy]
  exact Int.le_refl _
theorem oq {l:List Tk} {k:Nat} {t:Tk} (ht:l[k]?=some t) (hg:yL [] l=yL (l.take k) (l.drop k)) (hok:se (l.take k) t=true):yL [] l=yL (l.take (k+1)) (l.drop (k+1)):=by
 have hk:k<l.length:=(List.getElem?_eq_some_iff.1 ht).1
 rw [hg,List.drop_eq_getElem_cons hk,show l[k]=t from Option.some.inj ((List.getElem?_eq_getElem hk).symm.trans ht),eo hok,List.take_add_one,ht]
 rfl
theorem th {l:List Tk} {k:Nat} {t:Tk} (ht:l[k]?=some t) (hg:yL [] l=yL (l.take k) (l.drop k)) (hok:¬se (l.take k) t=true):yL [] l=false:=by
 have hk:k<l.length:=(List.getElem?_eq_some_iff.1 ht).1
 rw [hg,List.drop_eq_getElem_cons hk,show l[k]=t from Option.some.inj ((List.getElem?_eq_getElem hk).symm.trans ht),ar (by simpa using hok)]
theorem yP {l:List Tk} {k:Nat} {t:Tk} (ht:l[k]?=some t):ym (l.map Tk.enc) k=[.v (.int .u32 t.a),.v (.int .u32 t.b),.v (.int .i64 t.c),.v (.int .i64 t.d),.v (.int .i64 t.s),.v (.int .i64 t.o),.v (.int .i64 t.x)]:=zT Tk.enc l k t ht
set_option maxHeartbeats 1000000 in
theorem yt (l:List Tk):zd Tryz.prog 41 [.snap 7 (l.map Tk.enc) false] (.v (.int .i64 (y8 l))):=by
 refine z4 {} 0 Tryz.func41 fun Γ hW=>auC ?_
 repeat' first|refine auS ?_|fail|refine auD ?_|(refine auW ?_ ?_<;>intro h<;>try exact auH)|fail
 ·skip
  all_goals refine auV ?_
  all_goals try exact z8
  all_goals try simp only [hsM] at *
  refine zB ?_
  unfold y8
  rw [if_pos (by simp only [List.length_map] at h;omega)]
 have hl:l.length≤64:=by (simp only [hsL,reduceCtorEq] at *<;>omega)
 refine ze (α:=Nat×Nat) (fun k=>[(⟨.d0,.d1,.d2⟩,.v (.int .i64 (k.1:Nat)))]) (fun _=>[]) (fun k=>k.2) (fun k=>l.length-k.1) (fun k=>k.1≤l.length∧yL [] l=yL (l.take k.1) (l.drop k.1)∧∀y∈l.take k.1,∀z,l[k.1-1]?=some z→y.x≤z.x) (0,Γ.g0) ⟨Nat.zero_le _,rfl,fun y hy=>by simp at hy⟩ ?_ ?_
 ·skip
  refine zb ?_ ?_ (Nat.le_refl _)
  all_goals first|refine auE ?_|exact zi
  all_goals repeat' first|exact trivial|exact rfl|apply And.intro
  all_goals trace_state
 ·rintro ⟨k,g⟩ ⟨hk,hg,hs⟩
  dsimp only at hk hg hs ⊢
  refine auL ?_
  by_cases hlt:k<l.length
  ·obtain ⟨t,ht⟩:∃t,l[k]?=some t:=⟨_,List.getElem?_eq_getElem hlt⟩
   have ex:=yP ht
   have hok:=Yb ht hs
   obtain ⟨z,hz⟩:∃z,l[k-1]?=some z:=⟨_,List.getElem?_eq_getElem (by omega)⟩
   have ez:=yP hz
   have hw:0<k→IntKind.i64.wrap ((k:Int)-1)=((k-1:Nat):Int):=fun h=>(IntWalk.i64_in _ (by omega)).trans (by omega)
   have hzt:=fun h0:0<k=>(fun (h:z.x≤t.x) (w:Tk) (_:0<k) (hw:l[k-1]?=some w)=>(Option.some.inj (hz.symm.trans hw))▸h)
   repeat' first|refine auS ?_|(first|(with_reducible refine z0 (bK _ _ _ _ _ _ _) ?_)|(with_reducible refine z0 (wS l false (by unfold maxLen;omega) _ _ _ _) ?_))|refine auD ?_|(refine auW ?_ ?_<;>intro h<;>try exact auH)|(first|(simp only [Int.toNat_natCast,ex])|(simp only [hw (by (simp only [hsL,reduceCtorEq] at *<;>omega)),Int.toNat_natCast,ez]))
   all_goals try exact auP
   ·skip
    have hbad:yL [] l=false:=th ht hg (fun hh=>by
     obtain ⟨q1,q2,q3⟩:=hok.1 hh
     first
      |(have q4:=q2 z (by (simp only [hsL,reduceCtorEq] at *<;>omega)) hz;(try simp only [decide_eq_true_eq] at *);omega)
      |(rw [q3] at h;simp at h;done)
      |(rw [show tj t.a t.b t.c t.d t.s t.o t.x=true from q1] at h;cases h))
    all_goals refine auV ?_
    all_goals try exact z8
    all_goals try simp only [hsM] at *
    exact zB (by unfold y8;rw [if_neg (by omega),hbad];rfl)
   ·skip
    have hbad:yL [] l=false:=th ht hg (fun hh=>by
     obtain ⟨q1,q2,q3⟩:=hok.1 hh
     first
      |(have q4:=q2 z (by (simp only [hsL,reduceCtorEq] at *<;>omega)) hz;(try simp only [decide_eq_true_eq] at *);omega)
      |(rw [q3] at h;simp at h;done)
      |(rw [show tj t.a t.b t.c t.d t.s t.o t.x=true from q1] at h;cases h))
    all_goals refine auV ?_
    all_goals try exact z8
    all_goals try simp only [hsM] at *
    exact zB (by unfold y8;rw [if_neg (by omega),hbad];rfl)
   ·skip
    have hbad:yL [] l=false:=th ht hg (fun hh=>by
     obtain ⟨q1,q2,q3⟩:=hok.1 hh
     first
      |(have q4:=q2 z (by (simp only [hsL,reduceCtorEq] at *<;>omega)) hz;(try simp only [decide_eq_true_eq] at *);omega)
      |(rw [q3] at h;simp at h;done)
      |(rw [show tj t.a t.b t.c t.d t.s t.o t.x=true from q1] at h;cases h))
    all_goals refine auV ?_
    all_goals try exact z8
    all_goals try simp only [hsM] at *
    exact zB (by unfold y8;rw [if_neg (by omega),hbad];rfl)
   ·skip
    have hokk:se (l.take k) t=true:=hok.2 ⟨by show tj t.a t.b t.c t.d t.s t.o t.x=true;simp_all,fun w h0 hw'=>by
     obtain rfl:=Option.some.inj (hz.symm.trans hw')
     (simp only [hsL,reduceCtorEq] at *<;>omega),by (simp only [hsL,reduceCtorEq] at *<;>omega)⟩
    refine za ?_
    refine ⟨(k+1,g+1),⟨Nat.succ_le_of_lt hlt,oq ht hg hokk,oZ ht hs hokk⟩,Nat.sub_lt_sub_left hlt (Nat.lt_succ_self k),?_⟩
    refine zb ?_ ?_ (Nat.le_refl _)
    all_goals first|refine auE ?_|exact zi
    all_goals repeat' first|exact trivial|exact rfl|apply And.intro
    exact zB ((IntWalk.i64_in _ (by omega)).trans (by omega))
   ·skip
    have hbad:yL [] l=false:=th ht hg (fun hh=>by
     obtain ⟨q1,q2,q3⟩:=hok.1 hh
     first
      |(have q4:=q2 z (by (simp only [hsL,reduceCtorEq] at *<;>omega)) hz;(try simp only [decide_eq_true_eq] at *);omega)
      |(rw [q3] at h;simp at h;done)
      |(rw [show tj t.a t.b t.c t.d t.s t.o t.x=true from q1] at h;cases h))
    all_goals refine auV ?_
    all_goals try exact z8
    all_goals try simp only [hsM] at *
    exact zB (by unfold y8;rw [if_neg (by omega),hbad];rfl)
   ·skip
    have hokk:se (l.take k) t=true:=hok.2 ⟨by show tj t.a t.b t.c t.d t.s t.o t.x=true;simp_all,fun w h0 hw'=>by
     obtain rfl:=Option.some.inj (hz.symm.trans hw')
     (simp only [hsL,reduceCtorEq] at *<;>omega),by (simp only [hsL,reduceCtorEq] at *<;>omega)⟩
    refine za ?_
    refine ⟨(k+1,g+1),⟨Nat.succ_le_of_lt hlt,oq ht hg hokk,oZ ht hs hokk⟩,Nat.sub_lt_sub_left hlt (Nat.lt_succ_self k),?_⟩
    refine zb ?_ ?_ (Nat.le_refl _)
    all_goals first|refine auE ?_|exact zi
    all_goals repeat' first|exact trivial|exact rfl|apply And.intro
    exact zB ((IntWalk.i64_in _ (by omega)).trans (by omega))
  ·skip
   repeat' first|refine auS ?_|fail|refine auD ?_|(refine auW ?_ ?_<;>intro h<;>try exact auH)|fail
   all_goals try exact auP
   all_goals refine auV ?_
   all_goals try exact z8
   all_goals try simp only [hsM] at *
   obtain rfl:k=l.length:=by omega
   rw [List.drop_length] at hg
   exact zB (by unfold y8;rw [if_neg (by omega),hg];rfl)
set_option maxHeartbeats 1000000 in
theorem yp (l:List Tk):zd Tryz.prog 45 [.snap 7 (l.map Tk.enc) false] (.v (.int .i64 (y8 l))):=by
 refine z4 {} 0 Tryz.func45 fun Γ hW=>auC ?_
 repeat' first|refine auS ?_|fail|refine auD ?_|(refine auW ?_ ?_<;>intro h<;>try exact auH)|fail
 ·skip
  all_goals refine auV ?_
  all_goals try exact z8
  all_goals try simp only [hsM] at *
  refine zB ?_
  unfold y8
  rw [if_pos (by simp only [List.length_map] at h;omega)]
 have hl:l.length≤64:=by (simp only [hsL,reduceCtorEq] at *<;>omega)
 refine ze (α:=Nat×Nat) (fun k=>[(⟨.d0,.d1,.d4⟩,.v (.int .i64 (k.1:Nat)))]) (fun _=>[]) (fun k=>k.2) (fun k=>l.length-k.1) (fun k=>k.1≤l.length∧yL [] l=yL (l.take k.1) (l.drop k.1)) (0,Γ.g0) ⟨Nat.zero_le _,rfl⟩ ?_ ?_
 ·skip
  refine zb ?_ ?_ (Nat.le_refl _)
  all_goals first|refine auE ?_|exact zi
  all_goals repeat' first|exact trivial|exact rfl|apply And.intro
 ·rintro ⟨k,g⟩ ⟨hk,hg⟩
  dsimp only at hk hg ⊢
  refine auL ?_
  by_cases hlt:k<l.length
  ·obtain ⟨t,ht⟩:∃t,l[k]?=some t:=⟨_,List.getElem?_eq_getElem hlt⟩
   have ex:=yP ht
   repeat' first|refine auS ?_|(with_reducible refine z0 (mT _ _ _ _ _ _ _) ?_)|refine auD ?_|(refine auW ?_ ?_<;>intro h<;>try exact auH)|(simp only [Int.toNat_natCast,ex])
   all_goals try exact auP
   ·skip
    have hbad:yL [] l=false:=th ht hg (fun hh=>by
     unfold se at hh
     rw [Bool.and_eq_true] at hh
     rw [show tj t.a t.b t.c t.d t.s t.o t.x=true from hh.1] at h
     cases h)
    all_goals refine auV ?_
    all_goals try exact z8
    all_goals try simp only [hsM] at *
    exact zB (by unfold y8;rw [if_neg (by omega),hbad];rfl)
   ·have hcut:zK (zV (l.map Tk.enc) 0) ((k:Int)-0).toNat=(l.take k).map Tk.enc:=by rw [zz,y4];simp
    have hlk:((l.take k).map Tk.enc).length=k:=by simp;omega
    simp only [hcut,hlk]
    refine ze (α:=Nat×Nat) (fun p=>[(⟨.d0,.d3,.d0⟩,.v (.int .i64 (p.1:Nat)))]) (fun p=>[(1,none)]) (fun p=>p.2) (fun p=>k-p.1) (fun p=>p.1≤k∧∀y∈l.take p.1,¬t.x<y.x∧y.along t.a t.b t.c t.d=false) (0,g+1) ⟨Nat.zero_le _,fun y hy=>by simp at hy⟩ ?_ ?_
    ·skip
     refine zb ?_ ?_ (Nat.le_refl _)
     all_goals first|refine auE ?_|exact zi
     all_goals repeat' first|exact trivial|exact rfl|apply And.intro
     all_goals trace_state
    ·rintro ⟨j,g2⟩ ⟨hj,hpre⟩
     dsimp only at hj hpre ⊢
     refine auL ?_
     by_cases hjk:j<k
     ·obtain ⟨y,hy⟩:∃y,l[j]?=some y:=⟨_,List.getElem?_eq_getElem (by omega)⟩
      have ey:=yP (l:=l.take k) (k:=j) (t:=y) (by rw [List.getElem?_take,if_pos hjk];exact hy)
      repeat' first|refine auS ?_|(with_reducible refine z0 (qB _ _ _ _ _ _ _ _ _ _ _) ?_)|refine auD ?_|(refine auW ?_ ?_<;>intro h<;>try exact auH)|(simp only [Int.toNat_natCast,ey])
      all_goals try exact auP
      ·skip
       have hym:y∈l.take k:=List.mem_iff_getElem?.2 ⟨j,by rw [List.getElem?_take,if_pos hjk];exact hy⟩
       have hbad:yL [] l=false:=th ht hg (fun hh=>by
        unfold se at hh
        simp only [Bool.and_eq_true,List.all_eq_true,Bool.not_eq_true',decide_eq_false_iff_not] at hh
        have q:=hh.2 y hym
        first
         |(have q1:=q.1;rw [decide_eq_true_eq] at h;exact q1 h)
         |(rw [show vA y.a y.b y.c y.d t.a t.b t.c t.d=false from q.2] at h;cases h))
       all_goals refine auV ?_
       all_goals try exact z8
       all_goals try simp only [hsM] at *
       exact zB (by unfold y8;rw [if_neg (by omega),hbad];rfl)
      ·skip
       have hym:y∈l.take k:=List.mem_iff_getElem?.2 ⟨j,by rw [List.getElem?_take,if_pos hjk];exact hy⟩
       have hbad:yL [] l=false:=th ht hg (fun hh=>by
        unfold se at hh
        simp only [Bool.and_eq_true,List.all_eq_true,Bool.not_eq_true',decide_eq_false_iff_not] at hh
        have q:=hh.2 y hym
        first
         |(have q1:=q.1;rw [decide_eq_true_eq] at h;exact q1 h)
         |(rw [show vA y.a y.b y.c y.d t.a t.b t.c t.d=false from q.2] at h;cases h))
       all_goals refine auV ?_
       all_goals try exact z8
       all_goals try simp only [hsM] at *
       exact zB (by unfold y8;rw [if_neg (by omega),hbad];rfl)
      ·refine za ?_
       refine ⟨(j+1,g2+1),⟨Nat.succ_le_of_lt hjk,fun y' hy'=>?_⟩,Nat.sub_lt_sub_left hjk (Nat.lt_succ_self j),?_⟩
       ·rw [List.take_add_one,hy] at hy'
        rcases List.mem_append.1 hy' with hy'|hy'
        ·exact hpre y' hy'
        ·simp at hy'
         rw [hy']
         exact ⟨by (simp only [hsL,reduceCtorEq] at *<;>omega),h⟩
       ·skip
        refine zb ?_ ?_ (Nat.le_refl _)
        all_goals first|refine auE ?_|exact zi
        all_goals repeat' first|exact trivial|exact rfl|apply And.intro
        exact zB ((IntWalk.i64_in _ (by omega)).trans (by omega))
     ·skip
      repeat' first|refine auS ?_|fail|refine auD ?_|(refine auW ?_ ?_<;>intro h<;>try exact auH)|fail
      all_goals try exact auP
      obtain rfl:j=k:=by omega
      have hokk:se (l.take j) t=true:=by
       unfold se
       simp only [Bool.and_eq_true,List.all_eq_true,Bool.not_eq_true',decide_eq_false_iff_not]
       exact ⟨by show tj t.a t.b t.c t.d t.s t.o t.x=true;simp_all,fun y hy=>hpre y hy⟩
      refine za ?_
      refine ⟨(j+1,g2),⟨Nat.succ_le_of_lt hlt,oq ht hg hokk⟩,Nat.sub_lt_sub_left hlt (Nat.lt_succ_self j),?_⟩
      refine zb ?_ ?_ (Nat.le_refl _)
      all_goals first|refine auE ?_|exact zi
      all_goals repeat' first|exact trivial|exact rfl|apply And.intro
      all_goals exact zB ((IntWalk.i64_in _ (by omega)).trans (by omega))
  ·skip
   repeat' first|refine auS ?_|fail|refine auD ?_|(refine auW ?_ ?_<;>intro h<;>try exact auH)|fail
   all_goals try exact auP
   all_goals refine auV ?_
   all_goals try exact z8
   all_goals try simp only [hsM] at *
   obtain rfl:k=l.length:=by omega
   rw [List.drop_length] at hg
   exact zB (by unfold y8;rw [if_neg (by omega),hg];rfl)
end Go.Proofs.YtmibknbmhcnemaaGreatDoor.T
namespace Go.Proofs.YtmibknbmhcnemaaGreatDoor.T
attribute [local irreducible] zF Go
set_option maxRecDepth 100000
theorem pc:∀ {l pre:List Tk} {j:Nat} {z:Tk},yL pre l=true→l[j]?=some z→se (pre++l.take j) z=true
 |[],_,_,_,_,h=>by simp at h
 |y::r,pre,0,z,hg,h=>by
  simp only [yL,Bool.and_eq_true] at hg
  simp at h
  subst h
  simpa using hg.1
 |y::r,pre,j+1,z,hg,h=>by
  simp only [yL,Bool.and_eq_true] at hg
  have:=pc hg.2 (j:=j) (z:=z) (by simpa using h)
  simpa using this
theorem yH {l:List Tk} (hg:yL [] l=true) {z:Tk} (hz:z∈l):z.form=true:=by
 obtain ⟨j,hj⟩:=List.mem_iff_getElem?.1 hz
 have:=pc hg hj
 unfold se at this
 rw [Bool.and_eq_true] at this
 exact this.1
theorem ek {y z:Tk} {a b c d:Int} (h1:y.along a b c d=true) (h2:z.along a b c d=true):y.along z.a z.b z.c z.d=true:=by
 unfold Tk.along vA at *
 simp only [decide_eq_true_eq] at *
 omega
theorem bL {l:List Tk} (hg:yL [] l=true) {i j:Nat} {y z:Tk} {a b c d:Int} (hi:l[i]?=some y) (hj:l[j]?=some z) (h1:y.along a b c d=true) (h2:z.along a b c d=true):i=j:=by
 have key:∀ {i j:Nat} {y z:Tk},l[i]?=some y→l[j]?=some z→y.along a b c d=true→z.along a b c d=true→¬i<j:=by
  intro i j y z hi hj h1 h2 hlt
  have h3:=pc hg hj
  unfold se at h3
  simp only [Bool.and_eq_true,List.all_eq_true,List.nil_append,Bool.not_eq_true'] at h3
  have h4:=(h3.2 y (List.mem_iff_getElem?.2 ⟨i,by rw [List.getElem?_take,if_pos hlt];exact hi⟩)).2
  rw [ek h1 h2] at h4
  cases h4
 have k1:=key hi hj h1 h2
 have k2:=key hj hi h2 h1
 omega
theorem vS {t:Tk} (h:t.form=true):(1≤t.s∧t.s≤4)∧0≤t.x∧t.x≤1099511627776:=by
 unfold Tk.form tj at h
 simp only [Bool.and_eq_true,decide_eq_true_eq] at h
 omega
def rp (l:List Tk) (now:Int):Int:=if y8 l≠0 then y8 l else if now<0∨1099511627776<now then 1 else 0
def Tk.old (t:Tk) (now:Int):Bool:=decide (t.x+fj t.s<now)
theorem zr {l:List Tk} (h:y8 l=0):l.length≤64∧yL [] l=true:=by
 unfold y8 at h
 split at h
 ·omega
 ·split at h
  ·rename_i h1 h2;exact ⟨by omega,h2⟩
  ·omega
theorem ud (l:List Tk) (now:Int):(y8 l≠0∧rp l now=y8 l)∨(y8 l=0∧(now<0∨1099511627776<now)∧rp l now=1)∨(y8 l=0∧(0≤now∧now≤1099511627776)∧rp l now=0):=by
 unfold rp
 by_cases h:y8 l=0
 ·rw [if_neg (by omega)]
  by_cases h2:now<0∨1099511627776<now
  ·rw [if_pos h2];exact .inr (.inl ⟨h,h2,rfl⟩)
  ·rw [if_neg h2];exact .inr (.inr ⟨h,by omega,rfl⟩)
 ·rw [if_pos h];exact .inl ⟨h,rfl⟩
set_option maxHeartbeats 1000000 in
theorem X7 (l:List Tk) (a b c d now:Int) (h0:rp l now≠0):zd Tryz.prog 152 [.snap 7 (l.map Tk.enc) false,dR a b c d,.v (.int .i64 now)] (.tup [dT 0 0 0 0 0 0 0,.v (.bool false),.v (.int .i64 (rp l now))]):=by
 rcases ud l now with ⟨h1,h2⟩|⟨h1,h2,h3⟩|⟨h1,h2,h3⟩
 ·rw [h2]
  refine z4 {} 0 Tryz.func152 fun Γ hW=>auC ?_
  repeat' first|refine auS ?_|(with_reducible refine z0 (yt l) ?_)|refine auD ?_|(refine auW ?_ ?_<;>intro h<;>try exact auH)|fail
  all_goals try exact auP
  all_goals refine auV ?_
  all_goals try exact z8
  all_goals try simp only [hsM] at *
 ·rw [h3]
  refine z4 {} 0 Tryz.func152 fun Γ hW=>auC ?_
  repeat' first|refine auS ?_|(with_reducible refine z0 (yt l) ?_)|refine auD ?_|(refine auW ?_ ?_<;>intro h<;>try exact auH)|fail
  all_goals try exact auP
  all_goals refine auV ?_
  all_goals try exact z8
  all_goals try simp only [hsM] at *
 ·exact absurd h3 h0
set_option maxHeartbeats 1000000 in
theorem bq (l:List Tk) (a b c d now:Int) (h0:rp l now=0) (hn:∀t∈l,t.along a b c d=false):zd Tryz.prog 152 [.snap 7 (l.map Tk.enc) false,dR a b c d,.v (.int .i64 now)] (.tup [dT 0 0 0 0 0 0 0,.v (.bool false),.v (.int .i64 0)]):=by
 obtain ⟨h1,h2⟩:y8 l=0∧0≤now∧now≤1099511627776:=by have:=ud l now;omega
 have hpl:=wS l false (by have:=(zr h1).1;unfold maxLen;omega) a b c d
 rw [sM (fun t=>t.along a b c d) l 0 hn] at hpl
 refine z4 {} 0 Tryz.func152 fun Γ hW=>auC ?_
 repeat' first|refine auS ?_|(first|(with_reducible refine z0 (yt l) ?_)|(with_reducible refine z0 hpl ?_))|refine auD ?_|(refine auW ?_ ?_<;>intro h<;>try exact auH)|fail
 all_goals try exact auP
 all_goals refine auV ?_
 all_goals try exact z8
 all_goals try simp only [hsM] at *
set_option maxHeartbeats 1000000 in
theorem Wy (l:List Tk) (a b c d now:Int) (h0:rp l now=0) (i:Nat) (t:Tk) (hi:l[i]?=some t) (hf:zl (fun t:Tk=>t.along a b c d) l 0=i):zd Tryz.prog 152 [.snap 7 (l.map Tk.enc) false,dR a b c d,.v (.int .i64 now)] (.tup [if t.old now then dT 0 0 0 0 0 0 0 else dT t.a t.b t.c t.d t.s t.o t.x,.v (.bool (!t.old now)),.v (.int .i64 0)]):=by
 obtain ⟨h1,h2⟩:y8 l=0∧0≤now∧now≤1099511627776:=by have:=ud l now;omega
 have hpl:=wS l false (by have:=(zr h1).1;unfold maxLen;omega) a b c d
 rw [hf] at hpl
 have ex:=yP hi
 have hfm:=vS (yH (zr h1).2 (List.mem_iff_getElem?.2 ⟨i,hi⟩))
 have hil:i<l.length:=(List.getElem?_eq_some_iff.1 hi).1
 refine z4 {} 0 Tryz.func152 fun Γ hW=>auC ?_
 repeat' first|refine auS ?_|(first|(with_reducible refine z0 (yt l) ?_)|(with_reducible refine z0 hpl ?_)|(with_reducible refine z0 (gQ _ _ _ _ _ _ _ _ hfm.2 h2) ?_))|refine auD ?_|(refine auW ?_ ?_<;>intro h<;>try exact auH)|(simp only [Int.toNat_natCast,ex])
 all_goals try exact auP
 all_goals refine auV ?_
 all_goals try exact z8
 all_goals try simp only [hsM] at *
 ·rw [show t.old now=true from decide_eq_true h];rfl
 ·rw [show t.old now=false from decide_eq_false h];rfl
end Go.Proofs.YtmibknbmhcnemaaGreatDoor.T
namespace Go.Proofs.YtmibknbmhcnemaaGreatDoor.T
attribute [local irreducible] zF Go
set_option maxRecDepth 100000
theorem yA {α:Type} (f:α→List DV) (l:List α):zK (zV (l.map f) 0) l.length=l.map f:=yN (by simp)
theorem ue (l:List Tk) (x:Tk):l.map Tk.enc++[x.enc]=(l++[x]).map Tk.enc:=by rw [List.map_append];rfl
abbrev yng (l:List Tk) (now:Int):List Tk:=l.filter (fun t=>!t.old now)
def yE:List Tk→Int
 |[]=>0
 |[t]=>t.x
 |_::y::r=>yE (y::r)
abbrev opB (t:Tk) (a b c d:Int):Bool:=decide (t.a=a)&&(decide (t.b=b)&&(decide (t.c=c)&&decide (t.d=d)))
def sr (l:List Tk) (a b c d fl now:Int):Bool:=sZ a b c d&&decide ((0≤fl∧fl≤255)∧yE l≤now∧now≤1099511627776)
def vI (l:List Tk) (a b c d now:Int) (syn ack fin rst:Bool):List Tk×Bool×Int:=
 if (syn && !ack && !fin && !rst)=false then (yng l now,false,0) else if (yng l now).length=64 then (l,false,6) else (yng l now++[⟨a,b,c,d,1,0,now⟩],true,0)
def xa (l:List Tk) (a b c d now:Int) (syn ack fin rst:Bool) (i:Nat) (t:Tk):List Tk×Bool×Int:=
 if rst then ((yng l now).take i++(yng l now).drop (i+1),true,0)
 else if (pas t.s t.o syn ack fin (opB t a b c d)).1=false then (yng l now,false,0)
 else ((yng l now).take i++(yng l now).drop (i+1)++[⟨t.a,t.b,t.c,t.d,(pas t.s t.o syn ack fin (opB t a b c d)).2.1,(pas t.s t.o syn ack fin (opB t a b c d)).2.2,now⟩],true,0)
abbrev hD (r:List Tk×Bool×Int):DV:=.tup [.snap 7 (r.1.map Tk.enc) false,.v (.bool r.2.1),.v (.int .i64 r.2.2)]
theorem xg:∀(l:List Tk) (k:Nat) (t:Tk),l[k]?=some t→l.length=k+1→yE l=t.x
 |[],k,t,h,_=>by simp at h
 |[y],0,t,h,_=>by simp at h;rw [←h];rfl
 |[y],k+1,t,h,hl=>by simp at hl
 |y::z::r,0,t,h,hl=>by simp at hl
 |y::z::r,k+1,t,h,hl=>by
  rw [yE]
  exact xg (z::r) k t (by simpa using h) (by simpa using hl)
theorem rg {l:List Tk} (h:yL [] l=true):0≤yE l:=by
 rcases Nat.eq_zero_or_pos l.length with h0|h0
 ·rw [List.eq_nil_of_length_eq_zero h0];exact Int.le_refl 0
 ·obtain ⟨z,hz⟩:∃z,l[l.length-1]?=some z:=⟨_,List.getElem?_eq_getElem (by omega)⟩
  rw [xg l (l.length-1) z hz (by omega)]
  exact (vS (yH h (List.mem_of_getElem? hz))).2.1
theorem oI (k:Nat) (l:List Tk) (hl:l.length≤maxLen) (n:Nat) (a b c d:Int):zR Tryz.prog 71 [.sl k n 7 0 l.length false,dR a b c d] [some ⟨n,7,l.map Tk.enc⟩] (fun D H=>D=.v (.int .i64 (zl (fun t=>t.along a b c d) l 0))∧H=[some ⟨n,7,l.map Tk.enc⟩]):=by
 refine yi k ?_
 have hi:=vR 0 (g:=115) (caps:=[.rptr [.v (.int .u32 a),.v (.int .u32 b),.v (.int .i64 c),.v (.int .i64 d)]]) (fun t=>t.along a b c d) l hl n (fun t _=>n_ t.a t.b t.c t.d t.s t.o t.x a b c d)
 refine zY {} 1 Tryz.func71 fun Γ hN0 hL0=>auC ?_
 have hn:n<Γ.g0:=hN0 0 _ rfl
 repeat' first|(refine zN (ik hL0 ⟨.d0,.d0,.d3⟩ (k:=0) rfl rfl ⟨rfl,rfl,Nat.succ_pos _⟩ rfl) ?_)|refine auS ?_|(with_reducible refine z9 0 ?_ hi (fun _ _ _ h=>h) ?_);(exact rfl)|refine auD ?_|(refine auW ?_ ?_<;>intro h<;>try exact auH)|fail
 exact xp trivial trivial rfl rfl hn (zn (fun x=>by simp [nfL,nfD])) rfl
theorem lu (t:Tk) (now:Int) (hx:0≤t.x∧t.x≤1099511627776) (hn:0≤now∧now≤1099511627776):zd Tryz.prog 181 [.agg t.enc,.rptr [.v (.int .i64 now)]] (.v (.bool (t.old now))):=by
 refine z4 {} 0 Tryz.func181 fun Γ hW=>auC ?_
 repeat' first|refine auS ?_|(with_reducible refine z0 (gQ _ _ _ _ _ _ _ _ hx hn) ?_)|refine auD ?_|(refine auW ?_ ?_<;>intro h<;>try exact auH)|fail
 all_goals refine auV ?_
 all_goals try exact z8
 all_goals try simp only [hsM] at *
 rfl
set_option maxHeartbeats 2000000 in
theorem XP (l:List Tk) (a b c d fl now:Int) (hr:zZ l.length 48) (he:y8 l≠0):zd Tryz.prog 157 [.snap 7 (l.map Tk.enc) false,dR a b c d,.v (.int .i64 fl),.v (.int .i64 now)] (hD (l,false,y8 l)):=by
 refine z4 {} 0 Tryz.func157 fun Γ hW=>auC ?_
 repeat' first|(first|(refine zN (zw hW ⟨.d0,.d0,.d7⟩ rfl rfl ⟨rfl,rfl,Nat.succ_pos _⟩) ?_)|(refine zN (zk hW ⟨.d0,.d0,.d0⟩ rfl rfl ⟨rfl,rfl,by simp⟩) ?_))|refine auS ?_|(first|(with_reducible refine yJ 10 (yO 10 l false hr) ?_)|(with_reducible refine z0 (yt l) ?_))|refine auD ?_|(refine auW ?_ ?_<;>intro h<;>try exact auH)|(simp only [yA])
 all_goals refine auV ?_
 all_goals try exact z8
 all_goals try simp only [hsM] at *
set_option maxHeartbeats 4000000 in
theorem ZI (l:List Tk) (a b c d fl now:Int) (hr:zZ l.length 48) (he:y8 l=0) (hb:sr l a b c d fl now=false):zd Tryz.prog 157 [.snap 7 (l.map Tk.enc) false,dR a b c d,.v (.int .i64 fl),.v (.int .i64 now)] (hD (l,false,1)):=by
 have hb':(sZ a b c d=false)∨(sZ a b c d=true∧¬((0≤fl∧fl≤255)∧yE l≤now∧now≤1099511627776)):=by
  unfold sr at hb
  cases hq:sZ a b c d with
  |false=>exact .inl rfl
  |true=>rw [hq] at hb;exact .inr ⟨rfl,by simpa using hb⟩
 clear hb
 have hroad:=rR a b c d
 rcases hb' with hrb|⟨hrb,hb⟩
 all_goals
 rw [hrb] at hroad
 have hl:=(zr he).1
 have hz:∃z,(0<l.length→l[l.length-1]?=some z∧yE l=z.x):=by
  rcases Nat.eq_zero_or_pos l.length with h|h
  ·exact ⟨⟨0,0,0,0,0,0,0⟩,fun q=>by omega⟩
  ·obtain ⟨z,hz⟩:∃z,l[l.length-1]?=some z:=⟨_,List.getElem?_eq_getElem (by omega)⟩
   exact ⟨z,fun _=>⟨hz,xg l (l.length-1) z hz (by omega)⟩⟩
 obtain ⟨z,hz⟩:=hz
 refine z4 {} 0 Tryz.func157 fun Γ hW=>auC ?_
 repeat' first|(first|(refine zN (zw hW ⟨.d0,.d0,.d7⟩ rfl rfl ⟨rfl,rfl,Nat.succ_pos _⟩) ?_)|(refine zN (zk hW ⟨.d0,.d0,.d0⟩ rfl rfl ⟨rfl,rfl,by simp⟩) ?_))|refine qj ?_|(first|(with_reducible refine yJ 10 (yO 10 l false hr) ?_)|(with_reducible refine z0 (yt l) ?_))|refine auD ?_|(refine auW ?_ ?_<;>intro h<;>try exact auH)|(simp only [yA])
 refine xU ?_
 repeat' first|fail|refine qj ?_|(first|(with_reducible refine yJ 10 (yO 10 l false hr) ?_)|(with_reducible refine z0 (yt l) ?_))|refine auD ?_|(refine auW ?_ ?_<;>intro h<;>try exact auH)|(simp only [yA])
 refine i7 (α:=Unit) (fun _=>[(⟨.d0,.d1,.d4⟩,.v (.int .i64 (yE l)))]) (fun _=>[]) (fun _=>Γ.g0+3) (fun _=>True) ?_ ?_
 ·by_cases h0:0<l.length
  ·have ez:=yP (hz h0).1
   have hw:IntKind.i64.wrap ((l.length:Int)-1)=((l.length-1:Nat):Int):=(IntWalk.i64_in _ (by omega)).trans (by omega)
   repeat' first|refine auS ?_|fail|refine auD ?_|(refine auW ?_ ?_<;>intro h<;>try exact auH)|(simp only [List.length_map,hw,Int.toNat_natCast,ez])
   all_goals try exact auP
   refine za ⟨(),trivial,?_⟩
   refine zb ?_ ?_ (Nat.le_refl _)
   all_goals first|refine auE ?_|exact zi
   all_goals repeat' first|exact trivial|exact rfl|apply And.intro
   exact zB (hz h0).2.symm
  ·skip
   repeat' first|refine auS ?_|fail|refine auD ?_|(refine auW ?_ ?_<;>intro h<;>try exact auH)|fail
   all_goals try exact auP
   all_goals (refine za ⟨(),trivial,?_⟩)
   all_goals ((refine zb ?_ ?_ (Nat.le_refl _));(all_goals first|refine auE ?_|exact zi);(all_goals (repeat' (first|exact trivial|exact rfl|apply And.intro))))
   all_goals (rw [List.eq_nil_of_length_eq_zero (show l.length=0 by omega)];rfl)
 rintro _ -
 refine auL ?_
 repeat' first|refine auS ?_|(with_reducible refine z0 hroad ?_)|refine auD ?_|(refine auW ?_ ?_<;>intro h<;>try exact auH)|fail
 all_goals try exact auP
 all_goals refine auV ?_
 all_goals try exact z8
 all_goals try simp only [hsM] at *
set_option maxHeartbeats 4000000 in
theorem bI (l:List Tk) (a b c d fl now:Int) (hr:zZ l.length 48) (he:y8 l=0) (hb:sr l a b c d fl now=true) (syn ack fin rst:Bool) (hf:vL fl syn ack fin rst) (hidx:zl (fun t=>t.along a b c d) (yng l now) 0 = -1):zd Tryz.prog 157 [.snap 7 (l.map Tk.enc) false,dR a b c d,.v (.int .i64 fl),.v (.int .i64 now)] (hD (vI l a b c d now syn ack fin rst)):=by
 have hlx:0≤yE l:=rg (zr he).2
 unfold sr at hb
 simp only [Bool.and_eq_true,decide_eq_true_eq] at hb
 have hyl:(yng l now).length≤l.length:=List.length_filter_le _ _
 have hp:=fun n=>oI 10 (yng l now) (by have:=(zr he).1;unfold maxLen;omega) n a b c d
 simp only [hidx] at hp
 have hg:∀t∈l,zd Tryz.prog 181 [.agg t.enc,.rptr [.v (.int .i64 now)]] (.v (.bool (t.old now))):=fun t ht=>lu t now (vS (yH (zr he).2 ht)).2 (by omega)
 have hdel:=fun n=>ry 10 (caps:=[.rptr [.v (.int .i64 now)]]) (fun t=>t.old now) l (by have:=(zr he).1;unfold maxLen;omega) n hg
 obtain ⟨f2,f16,f1,f4,-⟩:=hf
 have g2:(!decide (bits .and .i64 fl 2=0))=syn:=by rw [f2];cases syn<;>rfl
 have g16:(!decide (bits .and .i64 fl 16=0))=ack:=by rw [f16];cases ack<;>rfl
 have g1:(!decide (bits .and .i64 fl 1=0))=fin:=by rw [f1];cases fin<;>rfl
 have g4:(!decide (bits .and .i64 fl 4=0))=rst:=by rw [f4];cases rst<;>rfl
 have hroad:=rR a b c d
 rw [hb.1] at hroad
 have hl:=(zr he).1
 have hz:∃z,(0<l.length→l[l.length-1]?=some z∧yE l=z.x):=by
  rcases Nat.eq_zero_or_pos l.length with h|h
  ·exact ⟨⟨0,0,0,0,0,0,0⟩,fun q=>by omega⟩
  ·obtain ⟨z,hz⟩:∃z,l[l.length-1]?=some z:=⟨_,List.getElem?_eq_getElem (by omega)⟩
   exact ⟨z,fun _=>⟨hz,xg l (l.length-1) z hz (by omega)⟩⟩
 obtain ⟨z,hz⟩:=hz
 refine z4 {} 0 Tryz.func157 fun Γ hW=>auC ?_
 repeat' first|(first|(refine zN (zw hW ⟨.d0,.d0,.d7⟩ rfl rfl ⟨rfl,rfl,Nat.succ_pos _⟩) ?_)|(refine zN (zk hW ⟨.d0,.d0,.d0⟩ rfl rfl ⟨rfl,rfl,by simp⟩) ?_))|refine qj ?_|(first|(with_reducible refine yJ 10 (yO 10 l false hr) ?_)|(with_reducible refine z0 (yt l) ?_))|refine auD ?_|(refine auW ?_ ?_<;>intro h<;>try exact auH)|(simp only [yA])
 refine xU ?_
 repeat' first|fail|refine qj ?_|(first|(with_reducible refine yJ 10 (yO 10 l false hr) ?_)|(with_reducible refine z0 (yt l) ?_))|refine auD ?_|(refine auW ?_ ?_<;>intro h<;>try exact auH)|(simp only [yA])
 refine i7 (α:=Unit) (fun _=>[(⟨.d0,.d1,.d4⟩,.v (.int .i64 (yE l)))]) (fun _=>[]) (fun _=>Γ.g0+3) (fun _=>True) ?_ ?_
 ·by_cases h0:0<l.length
  ·have ez:=yP (hz h0).1
   have hw:IntKind.i64.wrap ((l.length:Int)-1)=((l.length-1:Nat):Int):=(IntWalk.i64_in _ (by omega)).trans (by omega)
   repeat' first|refine auS ?_|fail|refine auD ?_|(refine auW ?_ ?_<;>intro h<;>try exact auH)|(simp only [List.length_map,hw,Int.toNat_natCast,ez])
   all_goals try exact auP
   refine za ⟨(),trivial,?_⟩
   refine zb ?_ ?_ (Nat.le_refl _)
   all_goals first|refine auE ?_|exact zi
   all_goals repeat' first|exact trivial|exact rfl|apply And.intro
   exact zB (hz h0).2.symm
  ·skip
   repeat' first|refine auS ?_|fail|refine auD ?_|(refine auW ?_ ?_<;>intro h<;>try exact auH)|fail
   all_goals try exact auP
   all_goals (refine za ⟨(),trivial,?_⟩)
   all_goals ((refine zb ?_ ?_ (Nat.le_refl _));(all_goals first|refine auE ?_|exact zi);(all_goals (repeat' (first|exact trivial|exact rfl|apply And.intro))))
   all_goals (rw [List.eq_nil_of_length_eq_zero (show l.length=0 by omega)];rfl)
 rintro _ -
 refine auL ?_
 repeat' first|refine auS ?_|(first|(with_reducible refine z0 hroad ?_)|(with_reducible refine yJ 10 (yO 10 l false hr) ?_)|((with_reducible refine z9 10 ?_ (hdel _) (fun _ _ _ h=>h) ?_);(exact rfl))|(simp only [g2,g16,g1,g4])|((with_reducible refine z9 10 ?_ (hp _) (fun _ _ _ h=>h) ?_);(exact rfl)))|refine auD ?_|(refine auW ?_ ?_<;>intro h<;>try exact auH)|fail
 all_goals try exact auP
 ·refine zt (zk hW ⟨.d0,.d1,.d0⟩ rfl rfl ⟨rfl,rfl,by simp⟩) ?_
  simp only [yA]
  all_goals refine auV ?_
  all_goals try exact z8
  all_goals try simp only [hsM] at *
  all_goals (cases syn<;>cases ack<;>cases fin<;>cases rst<;>first|rfl|(exfalso;simp_all;done))
 ·have e:vI l a b c d now syn ack fin rst=(l,false,6):=by
   have q:(List.filter (fun t=>!t.old now) l).length=64:=by (simp only [hsL,reduceCtorEq] at *<;>omega)
   unfold vI
   rw [if_neg (by cases syn<;>cases ack<;>cases fin<;>cases rst<;>simp_all),if_pos q]
  rw [e]
  all_goals refine auV ?_
  all_goals try exact z8
  all_goals try simp only [hsM] at *
 ·refine zt (zk hW ⟨.d0,.d1,.d0⟩ rfl rfl ⟨rfl,rfl,by simp⟩) ?_
  have e:vI l a b c d now syn ack fin rst=(yng l now++[⟨a,b,c,d,1,0,now⟩],true,0):=by
   have q:¬(List.filter (fun t=>!t.old now) l).length=64:=by (simp only [hsL,reduceCtorEq] at *<;>omega)
   unfold vI
   rw [if_neg (by cases syn<;>cases ack<;>cases fin<;>cases rst<;>simp_all),if_neg q]
  rw [e,yN (by simp)]
  ·rw [show List.map Tk.enc (yng l now)++[[.v (.int .u32 a),.v (.int .u32 b),.v (.int .i64 c),.v (.int .i64 d),.v (.int .i64 1),.v (.int .i64 0),.v (.int .i64 now)]]=List.map Tk.enc (yng l now++[⟨a,b,c,d,1,0,now⟩]) from ue _ ⟨a,b,c,d,1,0,now⟩]
   all_goals refine auV ?_
   all_goals try exact z8
   all_goals try simp only [hsM] at *
set_option maxHeartbeats 4000000 in
theorem bQ (l:List Tk) (a b c d fl now:Int) (hr:zZ l.length 48) (he:y8 l=0) (hb:sr l a b c d fl now=true) (syn ack fin rst:Bool) (hf:vL fl syn ack fin rst) (i:Nat) (t:Tk) (hi:(yng l now)[i]?=some t) (hidx:zl (fun t=>t.along a b c d) (yng l now) 0=i):zd Tryz.prog 157 [.snap 7 (l.map Tk.enc) false,dR a b c d,.v (.int .i64 fl),.v (.int .i64 now)] (hD (xa l a b c d now syn ack fin rst i t)):=by
 have hlx:0≤yE l:=rg (zr he).2
 unfold sr at hb
 simp only [Bool.and_eq_true,decide_eq_true_eq] at hb
 have hyl:(yng l now).length≤l.length:=List.length_filter_le _ _
 have hp:=fun n=>oI 10 (yng l now) (by have:=(zr he).1;unfold maxLen;omega) n a b c d
 simp only [hidx] at hp
 have hg:∀t∈l,zd Tryz.prog 181 [.agg t.enc,.rptr [.v (.int .i64 now)]] (.v (.bool (t.old now))):=fun t ht=>lu t now (vS (yH (zr he).2 ht)).2 (by omega)
 have hdel:=fun n=>ry 10 (caps:=[.rptr [.v (.int .i64 now)]]) (fun t=>t.old now) l (by have:=(zr he).1;unfold maxLen;omega) n hg
 obtain ⟨f2,f16,f1,f4,-⟩:=hf
 have g2:(!decide (bits .and .i64 fl 2=0))=syn:=by rw [f2];cases syn<;>rfl
 have g16:(!decide (bits .and .i64 fl 16=0))=ack:=by rw [f16];cases ack<;>rfl
 have g1:(!decide (bits .and .i64 fl 1=0))=fin:=by rw [f1];cases fin<;>rfl
 have g4:(!decide (bits .and .i64 fl 4=0))=rst:=by rw [f4];cases rst<;>rfl
 have hil:i<(List.filter (fun t=>!t.old now) l).length:=(List.getElem?_eq_some_iff.1 hi).1
 have hil2:i<(yng l now).length:=hil
 have ex:=yP hi
 have hw:IntKind.i64.wrap ((i:Int)+1)=((i+1:Nat):Int):=(IntWalk.i64_in _ (by have:=(zr he).1;omega)).trans (by omega)
 have hpas:=fun n op=>v_ 5 (gq n t.a t.b t.c t.d t.s t.o t.x syn ack fin rst op)
 have hcl:(List.take i (yng l now)++List.drop (i+1) (yng l now)).length≤64:=by have:=(zr he).1;rw [List.length_append,List.length_take,List.length_drop];omega
 have hcut:=fun n=>kd 10 (yng l now) i (i+1) (by omega) (by omega) (by have:=(zr he).1;unfold maxLen;omega) n
 have hroad:=rR a b c d
 rw [hb.1] at hroad
 have hl:=(zr he).1
 have hz:∃z,(0<l.length→l[l.length-1]?=some z∧yE l=z.x):=by
  rcases Nat.eq_zero_or_pos l.length with h|h
  ·exact ⟨⟨0,0,0,0,0,0,0⟩,fun q=>by omega⟩
  ·obtain ⟨z,hz⟩:∃z,l[l.length-1]?=some z:=⟨_,List.getElem?_eq_getElem (by omega)⟩
   exact ⟨z,fun _=>⟨hz,xg l (l.length-1) z hz (by omega)⟩⟩
 obtain ⟨z,hz⟩:=hz
 refine z4 {} 0 Tryz.func157 fun Γ hW=>auC ?_
 repeat' first|(first|(refine zN (zw hW ⟨.d0,.d0,.d7⟩ rfl rfl ⟨rfl,rfl,Nat.succ_pos _⟩) ?_)|(refine zN (zk hW ⟨.d0,.d0,.d0⟩ rfl rfl ⟨rfl,rfl,by simp⟩) ?_))|refine qj ?_|(first|(with_reducible refine yJ 10 (yO 10 l false hr) ?_)|(with_reducible refine z0 (yt l) ?_))|refine auD ?_|(refine auW ?_ ?_<;>intro h<;>try exact auH)|(simp only [yA])
 refine xU ?_
 repeat' first|fail|refine qj ?_|(first|(with_reducible refine yJ 10 (yO 10 l false hr) ?_)|(with_reducible refine z0 (yt l) ?_))|refine auD ?_|(refine auW ?_ ?_<;>intro h<;>try exact auH)|(simp only [yA])
 refine i7 (α:=Unit) (fun _=>[(⟨.d0,.d1,.d4⟩,.v (.int .i64 (yE l)))]) (fun _=>[]) (fun _=>Γ.g0+3) (fun _=>True) ?_ ?_
 ·by_cases h0:0<l.length
  ·have ez:=yP (hz h0).1
   have hw:IntKind.i64.wrap ((l.length:Int)-1)=((l.length-1:Nat):Int):=(IntWalk.i64_in _ (by omega)).trans (by omega)
   repeat' first|refine auS ?_|fail|refine auD ?_|(refine auW ?_ ?_<;>intro h<;>try exact auH)|(simp only [List.length_map,hw,Int.toNat_natCast,ez])
   all_goals try exact auP
   refine za ⟨(),trivial,?_⟩
   refine zb ?_ ?_ (Nat.le_refl _)
   all_goals first|refine auE ?_|exact zi
   all_goals repeat' first|exact trivial|exact rfl|apply And.intro
   exact zB (hz h0).2.symm
  ·skip
   repeat' first|refine auS ?_|fail|refine auD ?_|(refine auW ?_ ?_<;>intro h<;>try exact auH)|fail
   all_goals try exact auP
   all_goals (refine za ⟨(),trivial,?_⟩)
   all_goals ((refine zb ?_ ?_ (Nat.le_refl _));(all_goals first|refine auE ?_|exact zi);(all_goals (repeat' (first|exact trivial|exact rfl|apply And.intro))))
   all_goals (rw [List.eq_nil_of_length_eq_zero (show l.length=0 by omega)];rfl)
 rintro _ -
 refine auL ?_
 repeat' first|refine auS ?_|(first|(with_reducible refine z0 hroad ?_)|(with_reducible refine yJ 10 (yO 10 l false hr) ?_)|((with_reducible refine z9 10 ?_ (hdel _) (fun _ _ _ h=>h) ?_);(exact rfl))|(simp only [g2,g16,g1,g4])|((with_reducible refine z9 5 ?_ (hpas _ _) (fun _ _ _ h=>h) ?_);(exact rfl))|((with_reducible refine z9 10 ?_ (hcut _) (fun _ _ _ h=>h) ?_);(exact rfl))|((with_reducible refine z9 10 ?_ (hp _) (fun _ _ _ h=>h) ?_);(exact rfl)))|refine auD ?_|(refine auW ?_ ?_<;>intro h<;>try exact auH)|(first|(simp only [Int.toNat_natCast,ex,Nat.zero_add,hw])|(refine z7 ⟨by (simp only [List.length_map];omega),by trivial⟩ ?_)|(refine z7 ⟨by trivial,by (unfold zZ maxLen;simp only [List.length_map];omega)⟩ ?_)|fail)
 all_goals try exact auP
 ·have e:xa l a b c d now syn ack fin rst i t=(yng l now,false,0):=by
   unfold xa
   rw [if_neg (by simp_all),if_pos (by simpa using h)]
  refine zt (zk hW ⟨.d0,.d1,.d0⟩ rfl rfl ⟨rfl,rfl,by simp⟩) ?_
  have e0:rst=false:=by simp_all
  first|rw [e]|(rw [e0] at e;rw [e])
  simp only [yA]
  all_goals refine auV ?_
  all_goals try exact z8
  all_goals try simp only [hsM] at *
 ·exfalso;simp_all
 ·have e:xa l a b c d now syn ack fin rst i t=((yng l now).take i++(yng l now).drop (i+1)++[⟨t.a,t.b,t.c,t.d,(pas t.s t.o syn ack fin (opB t a b c d)).2.1,(pas t.s t.o syn ack fin (opB t a b c d)).2.2,now⟩],true,0):=by
   unfold xa
   rw [if_neg (by simp_all),if_neg (by simp_all)]
  refine zt (zk hW ⟨.d0,.d1,.d0⟩ rfl rfl ⟨rfl,rfl,by (simp;try omega)⟩) ?_
  have e0:rst=false:=by simp_all
  first|rw [e]|(rw [e0] at e;rw [e])
  rw [yN (by (simp;try omega))]
  rw [show List.map Tk.enc (List.take i (yng l now)++List.drop (i+1) (yng l now))++[[.v (.int .u32 t.a),.v (.int .u32 t.b),.v (.int .i64 t.c),.v (.int .i64 t.d),.v (.int .i64 (pas t.s t.o syn ack fin (opB t a b c d)).2.1),.v (.int .i64 (pas t.s t.o syn ack fin (opB t a b c d)).2.2),.v (.int .i64 now)]]=List.map Tk.enc (List.take i (yng l now)++List.drop (i+1) (yng l now)++[⟨t.a,t.b,t.c,t.d,(pas t.s t.o syn ack fin (opB t a b c d)).2.1,(pas t.s t.o syn ack fin (opB t a b c d)).2.2,now⟩]) from ue _ ⟨t.a,t.b,t.c,t.d,(pas t.s t.o syn ack fin (opB t a b c d)).2.1,(pas t.s t.o syn ack fin (opB t a b c d)).2.2,now⟩]
  all_goals refine auV ?_
  all_goals try exact z8
  all_goals try simp only [hsM] at *
 ·have e:xa l a b c d now syn ack fin rst i t=((yng l now).take i++(yng l now).drop (i+1),true,0):=by
   unfold xa
   rw [if_pos (by simp_all)]
  refine zt (zk hW ⟨.d0,.d1,.d0⟩ rfl rfl ⟨rfl,rfl,by simp⟩) ?_
  have e0:rst=true:=by simp_all
  first|rw [e]|(rw [e0] at e;rw [e])
  simp only [yA]
  all_goals refine auV ?_
  all_goals try exact z8
  all_goals try simp only [hsM] at *
 ·exfalso;simp_all
end Go.Proofs.YtmibknbmhcnemaaGreatDoor.T
