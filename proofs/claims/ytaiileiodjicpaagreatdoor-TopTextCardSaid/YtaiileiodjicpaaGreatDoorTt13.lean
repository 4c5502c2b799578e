import Derived.Test.YtaiileiodjicpaaGreatDoorTt12
set_option linter.unusedVariables false
set_option linter.unusedSimpArgs false
namespace Go.Proofs.YtaiileiodjicpaaGreatDoor.T
attribute [local irreducible] zF Go
set_option maxRecDepth 100000
def p_ (pre:List Tk) (t:Tk):Bool:=t.form&&pre.all fun y=>!(decide (t.x<y.x)) && !(y.along t.a t.b t.c t.d)
def xa:List Tk→List Tk→Bool
 |_,[]=>true
 |pre,t::r=>p_ pre t&&xa (pre++[t]) r
def yq (l:List Tk):Int:=if 64<l.length then 2 else if xa [] l then 0 else 4
theorem e9 {pre r:List Tk} {t:Tk} (h:p_ pre t=true):xa pre (t::r)=xa (pre++[t]) r:=by simp [xa,h]
theorem bI {pre r:List Tk} {t:Tk} (h:p_ pre t=false):xa pre (t::r)=false:=by simp [xa,h]
theorem fj (t:Tk):t.along t.a t.b t.c t.d=true:=by unfold Tk.along pl;simp
theorem ZR {l:List Tk} {k:Nat} {t:Tk} (ht:l[k]?=some t) (hs:∀y∈l.take k,∀z,l[k-1]?=some z→y.x≤z.x) :
  p_ (l.take k) t=true↔t.form=true∧(∀z,0<k→l[k-1]?=some z→z.x≤t.x)∧zk (fun y=>y.along t.a t.b t.c t.d) l 0=k:=by
 have hk:k<l.length:=(List.getElem?_eq_some_iff.1 ht).1
 have hf:=uR (fun y:Tk=>y.along t.a t.b t.c t.d) t (fj t) (l.drop (k+1)) (l.take k) 0
 have hl:l.take k++t::l.drop (k+1)=l:=by
  rw [←Option.some.inj ((List.getElem?_eq_getElem hk).symm.trans ht),←List.drop_eq_getElem_cons hk,List.take_append_drop]
 rw [hl,List.length_take,Nat.min_eq_left (Nat.le_of_lt hk),Nat.zero_add] at hf
 rw [hf]
 unfold p_
 simp only [Bool.and_eq_true,List.all_eq_true,Bool.not_eq_true',decide_eq_false_iff_not]
 constructor
 ·rintro ⟨h1,h2⟩
  refine ⟨h1,fun z h0 hz=>?_,fun y hy=>(h2 y hy).2⟩
  have hz':z∈l.take k:=List.mem_iff_getElem?.2 ⟨k-1,by rw [List.getElem?_take,if_pos (by omega)];exact hz⟩
  have:=(h2 z hz').1
  omega
 ·rintro ⟨h1,h2,h3⟩
  refine ⟨h1,fun y hy=>⟨?_,h3 y hy⟩⟩
  have h0:0<k:=by
   rcases Nat.eq_zero_or_pos k with rfl|h
   ·simp at hy
   ·exact h
  obtain ⟨z,hz⟩:∃z,l[k-1]?=some z:=⟨_,List.getElem?_eq_getElem (by omega)⟩
  have:=hs y hy z hz
  have:=h2 z h0 hz
  omega
theorem pU {l:List Tk} {k:Nat} {t:Tk} (ht:l[k]?=some t) (hs:∀y∈l.take k,∀z,l[k-1]?=some z→y.x≤z.x) (hok:p_ (l.take k) t=true):∀y∈l.take (k+1),∀z,l[k+1-1]?=some z→y.x≤z.x:=by
 intro y hy z hz
 rw [Nat.add_sub_cancel,ht] at hz
 obtain rfl:=Option.some.inj hz
 rw [List.take_add_one,ht] at hy
 rcases List.mem_append.1 hy with hy|hy
 ·unfold p_ at hok
  simp only [Bool.and_eq_true,List.all_eq_true,Bool.not_eq_true',decide_eq_false_iff_not] at hok
  have:=(hok.2 y hy).1
  omega
 ·simp at hy
  rw [hy]
  exact Int.le_refl _
theorem kF {l:List Tk} {k:Nat} {t:Tk} (ht:l[k]?=some t) (hg:xa [] l=xa (l.take k) (l.drop k)) (hok:p_ (l.take k) t=true):xa [] l=xa (l.take (k+1)) (l.drop (k+1)):=by
 have hk:k<l.length:=(List.getElem?_eq_some_iff.1 ht).1
 rw [hg,List.drop_eq_getElem_cons hk,show l[k]=t from Option.some.inj ((List.getElem?_eq_getElem hk).symm.trans ht),e9 hok,List.take_add_one,ht]
 rfl
theorem qT {l:List Tk} {k:Nat} {t:Tk} (ht:l[k]?=some t) (hg:xa [] l=xa (l.take k) (l.drop k)) (hok:¬p_ (l.take k) t=true):xa [] l=false:=by
 have hk:k<l.length:=(List.getElem?_eq_some_iff.1 ht).1
 rw [hg,List.drop_eq_getElem_cons hk,show l[k]=t from Option.some.inj ((List.getElem?_eq_getElem hk).symm.trans ht),bI (by simpa using hok)]
theorem uL {l:List Tk} {k:Nat} {t:Tk} (ht:l[k]?=some t):yo (l.map Tk.enc) k=[.v (.int .u32 t.a),.v (.int .u32 t.b),.v (.int .i64 t.c),.v (.int .i64 t.d),.v (.int .i64 t.s),.v (.int .i64 t.o),.v (.int .i64 t.x)]:=ye Tk.enc l k t ht
set_option maxHeartbeats 1000000 in
theorem ym (l:List Tk):zi Tryz.prog 67 [.snap 7 (l.map Tk.enc) false] (.v (.int .i64 (yq l))):=by
 refine z7 {} 0 Tryz.func67 fun Γ hW=>auC ?_
 repeat' first|refine auS ?_|fail|refine auD ?_|(refine auW ?_ ?_<;>intro h<;>try exact auH)|fail
 ·skip
  all_goals refine auV ?_
  all_goals try exact zc
  all_goals try simp only [hsM] at *
  refine yd ?_
  unfold yq
  rw [if_pos (by simp only [List.length_map] at h;omega)]
 have hl:l.length≤64:=by (simp only [hsL,reduceCtorEq] at *<;>omega)
 refine zw (α:=Nat×Nat) (fun k=>[(⟨.d0,.d1,.d2⟩,.v (.int .i64 (k.1:Nat)))]) (fun _=>[]) (fun k=>k.2) (fun k=>l.length-k.1) (fun k=>k.1≤l.length∧xa [] l=xa (l.take k.1) (l.drop k.1)∧∀y∈l.take k.1,∀z,l[k.1-1]?=some z→y.x≤z.x) (0,Γ.g0) ⟨Nat.zero_le _,rfl,fun y hy=>by simp at hy⟩ ?_ ?_
 ·skip
  refine zo ?_ ?_ (Nat.le_refl _)
  all_goals first|refine auE ?_|exact zK
  all_goals repeat' first|exact trivial|exact rfl|apply And.intro
  all_goals trace_state
 ·rintro ⟨k,g⟩ ⟨hk,hg,hs⟩
  dsimp only at hk hg hs ⊢
  refine auL ?_
  by_cases hlt:k<l.length
  ·obtain ⟨t,ht⟩:∃t,l[k]?=some t:=⟨_,List.getElem?_eq_getElem hlt⟩
   have ex:=uL ht
   have hok:=ZR ht hs
   obtain ⟨z,hz⟩:∃z,l[k-1]?=some z:=⟨_,List.getElem?_eq_getElem (by omega)⟩
   have ez:=uL hz
   have hw:0<k→IntKind.i64.wrap ((k:Int)-1)=((k-1:Nat):Int):=fun h=>(IntWalk.i64_in _ (by omega)).trans (by omega)
   have hzt:=fun h0:0<k=>(fun (h:z.x≤t.x) (w:Tk) (_:0<k) (hw:l[k-1]?=some w)=>(Option.some.inj (hz.symm.trans hw))▸h)
   repeat' first|refine auS ?_|(first|(with_reducible refine z6 (bH _ _ _ _ _ _ _) ?_)|(with_reducible refine z6 (wj l false (by unfold maxLen;omega) _ _ _ _) ?_))|refine auD ?_|(refine auW ?_ ?_<;>intro h<;>try exact auH)|(first|(simp only [Int.toNat_natCast,ex])|(simp only [hw (by (simp only [hsL,reduceCtorEq] at *<;>omega)),Int.toNat_natCast,ez]))
   all_goals try exact auP
   ·skip
    have hbad:xa [] l=false:=qT ht hg (fun hh=>by
     obtain ⟨q1,q2,q3⟩:=hok.1 hh
     first
      |(have q4:=q2 z (by (simp only [hsL,reduceCtorEq] at *<;>omega)) hz;(try simp only [decide_eq_true_eq] at *);omega)
      |(rw [q3] at h;simp at h;done)
      |(rw [show rR t.a t.b t.c t.d t.s t.o t.x=true from q1] at h;cases h))
    all_goals refine auV ?_
    all_goals try exact zc
    all_goals try simp only [hsM] at *
    exact yd (by unfold yq;rw [if_neg (by omega),hbad];rfl)
   ·skip
    have hbad:xa [] l=false:=qT ht hg (fun hh=>by
     obtain ⟨q1,q2,q3⟩:=hok.1 hh
     first
      |(have q4:=q2 z (by (simp only [hsL,reduceCtorEq] at *<;>omega)) hz;(try simp only [decide_eq_true_eq] at *);omega)
      |(rw [q3] at h;simp at h;done)
      |(rw [show rR t.a t.b t.c t.d t.s t.o t.x=true from q1] at h;cases h))
    all_goals refine auV ?_
    all_goals try exact zc
    all_goals try simp only [hsM] at *
    exact yd (by unfold yq;rw [if_neg (by omega),hbad];rfl)
   ·skip
    have hbad:xa [] l=false:=qT ht hg (fun hh=>by
     obtain ⟨q1,q2,q3⟩:=hok.1 hh
     first
      |(have q4:=q2 z (by (simp only [hsL,reduceCtorEq] at *<;>omega)) hz;(try simp only [decide_eq_true_eq] at *);omega)
      |(rw [q3] at h;simp at h;done)
      |(rw [show rR t.a t.b t.c t.d t.s t.o t.x=true from q1] at h;cases h))
    all_goals refine auV ?_
    all_goals try exact zc
    all_goals try simp only [hsM] at *
    exact yd (by unfold yq;rw [if_neg (by omega),hbad];rfl)
   ·skip
    have hokk:p_ (l.take k) t=true:=hok.2 ⟨by show rR t.a t.b t.c t.d t.s t.o t.x=true;simp_all,fun w h0 hw'=>by
     obtain rfl:=Option.some.inj (hz.symm.trans hw')
     (simp only [hsL,reduceCtorEq] at *<;>omega),by (simp only [hsL,reduceCtorEq] at *<;>omega)⟩
    refine zn ?_
    refine ⟨(k+1,g+1),⟨Nat.succ_le_of_lt hlt,kF ht hg hokk,pU ht hs hokk⟩,Nat.sub_lt_sub_left hlt (Nat.lt_succ_self k),?_⟩
    refine zo ?_ ?_ (Nat.le_refl _)
    all_goals first|refine auE ?_|exact zK
    all_goals repeat' first|exact trivial|exact rfl|apply And.intro
    exact yd ((IntWalk.i64_in _ (by omega)).trans (by omega))
   ·skip
    have hbad:xa [] l=false:=qT ht hg (fun hh=>by
     obtain ⟨q1,q2,q3⟩:=hok.1 hh
     first
      |(have q4:=q2 z (by (simp only [hsL,reduceCtorEq] at *<;>omega)) hz;(try simp only [decide_eq_true_eq] at *);omega)
      |(rw [q3] at h;simp at h;done)
      |(rw [show rR t.a t.b t.c t.d t.s t.o t.x=true from q1] at h;cases h))
    all_goals refine auV ?_
    all_goals try exact zc
    all_goals try simp only [hsM] at *
    exact yd (by unfold yq;rw [if_neg (by omega),hbad];rfl)
   ·skip
    have hokk:p_ (l.take k) t=true:=hok.2 ⟨by show rR t.a t.b t.c t.d t.s t.o t.x=true;simp_all,fun w h0 hw'=>by
     obtain rfl:=Option.some.inj (hz.symm.trans hw')
     (simp only [hsL,reduceCtorEq] at *<;>omega),by (simp only [hsL,reduceCtorEq] at *<;>omega)⟩
    refine zn ?_
    refine ⟨(k+1,g+1),⟨Nat.succ_le_of_lt hlt,kF ht hg hokk,pU ht hs hokk⟩,Nat.sub_lt_sub_left hlt (Nat.lt_succ_self k),?_⟩
    refine zo ?_ ?_ (Nat.le_refl _)
    all_goals first|refine auE ?_|exact zK
    all_goals repeat' first|exact trivial|exact rfl|apply And.intro
    exact yd ((IntWalk.i64_in _ (by omega)).trans (by omega))
  ·skip
   repeat' first|refine auS ?_|fail|refine auD ?_|(refine auW ?_ ?_<;>intro h<;>try exact auH)|fail
   all_goals try exact auP
   all_goals refine auV ?_
   all_goals try exact zc
   all_goals try simp only [hsM] at *
   obtain rfl:k=l.length:=by omega
   rw [List.drop_length] at hg
   exact yd (by unfold yq;rw [if_neg (by omega),hg];rfl)
end Go.Proofs.YtaiileiodjicpaaGreatDoor.T
namespace Go.Proofs.YtaiileiodjicpaaGreatDoor.T
attribute [local irreducible] zF Go
set_option maxRecDepth 100000
theorem nJ:∀ {l pre:List Tk} {j:Nat} {z:Tk},xa pre l=true→l[j]?=some z→p_ (pre++l.take j) z=true
 |[],_,_,_,_,h=>by simp at h
 |y::r,pre,0,z,hg,h=>by
  simp only [xa,Bool.and_eq_true] at hg
  simp at h
  subst h
  simpa using hg.1
 |y::r,pre,j+1,z,hg,h=>by
  simp only [xa,Bool.and_eq_true] at hg
  have:=nJ hg.2 (j:=j) (z:=z) (by simpa using h)
  simpa using this
theorem s9 {l:List Tk} (hg:xa [] l=true) {z:Tk} (hz:z∈l):z.form=true:=by
 obtain ⟨j,hj⟩:=List.mem_iff_getElem?.1 hz
 have:=nJ hg hj
 unfold p_ at this
 rw [Bool.and_eq_true] at this
 exact this.1
theorem fw {y z:Tk} {a b c d:Int} (h1:y.along a b c d=true) (h2:z.along a b c d=true):y.along z.a z.b z.c z.d=true:=by
 unfold Tk.along pl at *
 simp only [decide_eq_true_eq] at *
 omega
theorem bC {l:List Tk} (hg:xa [] l=true) {i j:Nat} {y z:Tk} {a b c d:Int} (hi:l[i]?=some y) (hj:l[j]?=some z) (h1:y.along a b c d=true) (h2:z.along a b c d=true):i=j:=by
 have key:∀ {i j:Nat} {y z:Tk},l[i]?=some y→l[j]?=some z→y.along a b c d=true→z.along a b c d=true→¬i<j:=by
  intro i j y z hi hj h1 h2 hlt
  have h3:=nJ hg hj
  unfold p_ at h3
  simp only [Bool.and_eq_true,List.all_eq_true,List.nil_append,Bool.not_eq_true'] at h3
  have h4:=(h3.2 y (List.mem_iff_getElem?.2 ⟨i,by rw [List.getElem?_take,if_pos hlt];exact hi⟩)).2
  rw [fw h1 h2] at h4
  cases h4
 have k1:=key hi hj h1 h2
 have k2:=key hj hi h2 h1
 omega
theorem n9 {t:Tk} (h:t.form=true):(1≤t.s∧t.s≤4)∧0≤t.x∧t.x≤1099511627776:=by
 unfold Tk.form rR at h
 simp only [Bool.and_eq_true,decide_eq_true_eq] at h
 omega
def rQ (l:List Tk) (now:Int):Int:=if yq l≠0 then yq l else if now<0∨1099511627776<now then 1 else 0
def Tk.old (t:Tk) (now:Int):Bool:=decide (t.x+Z2 t.s<now)
theorem zR {l:List Tk} (h:yq l=0):l.length≤64∧xa [] l=true:=by
 unfold yq at h
 split at h
 ·omega
 ·split at h
  ·rename_i h1 h2;exact ⟨by omega,h2⟩
  ·omega
theorem uF (l:List Tk) (now:Int):(yq l≠0∧rQ l now=yq l)∨(yq l=0∧(now<0∨1099511627776<now)∧rQ l now=1)∨(yq l=0∧(0≤now∧now≤1099511627776)∧rQ l now=0):=by
 unfold rQ
 by_cases h:yq l=0
 ·rw [if_neg (by omega)]
  by_cases h2:now<0∨1099511627776<now
  ·rw [if_pos h2];exact .inr (.inl ⟨h,h2,rfl⟩)
  ·rw [if_neg h2];exact .inr (.inr ⟨h,by omega,rfl⟩)
 ·rw [if_pos h];exact .inl ⟨h,rfl⟩
set_option maxHeartbeats 1000000 in
theorem Y9 (l:List Tk) (a b c d now:Int) (h0:rQ l now≠0):zi Tryz.prog 139 [.snap 7 (l.map Tk.enc) false,dR a b c d,.v (.int .i64 now)] (.tup [dT 0 0 0 0 0 0 0,.v (.bool false),.v (.int .i64 (rQ l now))]):=by
 rcases uF l now with ⟨h1,h2⟩|⟨h1,h2,h3⟩|⟨h1,h2,h3⟩
 ·rw [h2]
  refine z7 {} 0 Tryz.func139 fun Γ hW=>auC ?_
  repeat' first|refine auS ?_|(with_reducible refine z6 (ym l) ?_)|refine auD ?_|(refine auW ?_ ?_<;>intro h<;>try exact auH)|fail
  all_goals try exact auP
  all_goals refine auV ?_
  all_goals try exact zc
  all_goals try simp only [hsM] at *
 ·rw [h3]
  refine z7 {} 0 Tryz.func139 fun Γ hW=>auC ?_
  repeat' first|refine auS ?_|(with_reducible refine z6 (ym l) ?_)|refine auD ?_|(refine auW ?_ ?_<;>intro h<;>try exact auH)|fail
  all_goals try exact auP
  all_goals refine auV ?_
  all_goals try exact zc
  all_goals try simp only [hsM] at *
 ·exact absurd h3 h0
set_option maxHeartbeats 1000000 in
theorem cY (l:List Tk) (a b c d now:Int) (h0:rQ l now=0) (hn:∀t∈l,t.along a b c d=false):zi Tryz.prog 139 [.snap 7 (l.map Tk.enc) false,dR a b c d,.v (.int .i64 now)] (.tup [dT 0 0 0 0 0 0 0,.v (.bool false),.v (.int .i64 0)]):=by
 obtain ⟨h1,h2⟩:yq l=0∧0≤now∧now≤1099511627776:=by have:=uF l now;omega
 have hpl:=wj l false (by have:=(zR h1).1;unfold maxLen;omega) a b c d
 rw [qS (fun t=>t.along a b c d) l 0 hn] at hpl
 refine z7 {} 0 Tryz.func139 fun Γ hW=>auC ?_
 repeat' first|refine auS ?_|(first|(with_reducible refine z6 (ym l) ?_)|(with_reducible refine z6 hpl ?_))|refine auD ?_|(refine auW ?_ ?_<;>intro h<;>try exact auH)|fail
 all_goals try exact auP
 all_goals refine auV ?_
 all_goals try exact zc
 all_goals try simp only [hsM] at *
set_option maxHeartbeats 1000000 in
theorem Wp (l:List Tk) (a b c d now:Int) (h0:rQ l now=0) (i:Nat) (t:Tk) (hi:l[i]?=some t) (hf:zk (fun t:Tk=>t.along a b c d) l 0=i):zi Tryz.prog 139 [.snap 7 (l.map Tk.enc) false,dR a b c d,.v (.int .i64 now)] (.tup [if t.old now then dT 0 0 0 0 0 0 0 else dT t.a t.b t.c t.d t.s t.o t.x,.v (.bool (!t.old now)),.v (.int .i64 0)]):=by
 obtain ⟨h1,h2⟩:yq l=0∧0≤now∧now≤1099511627776:=by have:=uF l now;omega
 have hpl:=wj l false (by have:=(zR h1).1;unfold maxLen;omega) a b c d
 rw [hf] at hpl
 have ex:=uL hi
 have hfm:=n9 (s9 (zR h1).2 (List.mem_iff_getElem?.2 ⟨i,hi⟩))
 have hil:i<l.length:=(List.getElem?_eq_some_iff.1 hi).1
 refine z7 {} 0 Tryz.func139 fun Γ hW=>auC ?_
 repeat' first|refine auS ?_|(first|(with_reducible refine z6 (ym l) ?_)|(with_reducible refine z6 hpl ?_)|(with_reducible refine z6 (h_ _ _ _ _ _ _ _ _ hfm.2 h2) ?_))|refine auD ?_|(refine auW ?_ ?_<;>intro h<;>try exact auH)|(simp only [Int.toNat_natCast,ex])
 all_goals try exact auP
 all_goals refine auV ?_
 all_goals try exact zc
 all_goals try simp only [hsM] at *
 ·rw [show t.old now=true from decide_eq_true h];rfl
 ·rw [show t.old now=false from decide_eq_false h];rfl
end Go.Proofs.YtaiileiodjicpaaGreatDoor.T
namespace Go.Proofs.YtaiileiodjicpaaGreatDoor.T
attribute [local irreducible] zF Go
set_option maxRecDepth 100000
theorem x5 {α:Type} (f:α→List DV) (l:List α):zN (zV (l.map f) 0) l.length=l.map f:=tH (by simp)
theorem i_ (l:List Tk) (x:Tk):l.map Tk.enc++[x.enc]=(l++[x]).map Tk.enc:=by rw [List.map_append];rfl
abbrev yng (l:List Tk) (now:Int):List Tk:=l.filter (fun t=>!t.old now)
def wS:List Tk→Int
 |[]=>0
 |[t]=>t.x
 |_::y::r=>wS (y::r)
abbrev opB (t:Tk) (a b c d:Int):Bool:=decide (t.a=a)&&(decide (t.b=b)&&(decide (t.c=c)&&decide (t.d=d)))
def oP (l:List Tk) (a b c d fl now:Int):Bool:=mE a b c d&&decide ((0≤fl∧fl≤255)∧wS l≤now∧now≤1099511627776)
def sM (l:List Tk) (a b c d now:Int) (syn ack fin rst:Bool):List Tk×Bool×Int:=
 if (syn && !ack && !fin && !rst)=false then (yng l now,false,0) else if (yng l now).length=64 then (l,false,6) else (yng l now++[⟨a,b,c,d,1,0,now⟩],true,0)
def uU (l:List Tk) (a b c d now:Int) (syn ack fin rst:Bool) (i:Nat) (t:Tk):List Tk×Bool×Int:=
 if rst then ((yng l now).take i++(yng l now).drop (i+1),true,0)
 else if (pas t.s t.o syn ack fin (opB t a b c d)).1=false then (yng l now,false,0)
 else ((yng l now).take i++(yng l now).drop (i+1)++[⟨t.a,t.b,t.c,t.d,(pas t.s t.o syn ack fin (opB t a b c d)).2.1,(pas t.s t.o syn ack fin (opB t a b c d)).2.2,now⟩],true,0)
abbrev hD (r:List Tk×Bool×Int):DV:=.tup [.snap 7 (r.1.map Tk.enc) false,.v (.bool r.2.1),.v (.int .i64 r.2.2)]
theorem vQ:∀(l:List Tk) (k:Nat) (t:Tk),l[k]?=some t→l.length=k+1→wS l=t.x
 |[],k,t,h,_=>by simp at h
 |[y],0,t,h,_=>by simp at h;rw [←h];rfl
 |[y],k+1,t,h,hl=>by simp at hl
 |y::z::r,0,t,h,hl=>by simp at hl
 |y::z::r,k+1,t,h,hl=>by
  rw [wS]
  exact vQ (z::r) k t (by simpa using h) (by simpa using hl)
theorem gD {l:List Tk} (h:xa [] l=true):0≤wS l:=by
 rcases Nat.eq_zero_or_pos l.length with h0|h0
 ·rw [List.eq_nil_of_length_eq_zero h0];exact Int.le_refl 0
 ·obtain ⟨z,hz⟩:∃z,l[l.length-1]?=some z:=⟨_,List.getElem?_eq_getElem (by omega)⟩
  rw [vQ l (l.length-1) z hz (by omega)]
  exact (n9 (s9 h (List.mem_of_getElem? hz))).2.1
theorem oJ (k:Nat) (l:List Tk) (hl:l.length≤maxLen) (n:Nat) (a b c d:Int):zE Tryz.prog 93 [.sl k n 7 0 l.length false,dR a b c d] [some ⟨n,7,l.map Tk.enc⟩] (fun D H=>D=.v (.int .i64 (zk (fun t=>t.along a b c d) l 0))∧H=[some ⟨n,7,l.map Tk.enc⟩]):=by
 refine yj k ?_
 have hi:=lP 0 (g:=128) (caps:=[.rptr [.v (.int .u32 a),.v (.int .u32 b),.v (.int .i64 c),.v (.int .i64 d)]]) (fun t=>t.along a b c d) l hl n (fun t _=>oO t.a t.b t.c t.d t.s t.o t.x a b c d)
 refine zp {} 1 Tryz.func93 fun Γ hN0 hL0=>auC ?_
 have hn:n<Γ.g0:=hN0 0 _ rfl
 repeat' first|(refine zP (jz hL0 ⟨.d0,.d0,.d3⟩ (k:=0) rfl rfl ⟨rfl,rfl,Nat.succ_pos _⟩ rfl) ?_)|refine auS ?_|(with_reducible refine z_ 0 ?_ hi (fun _ _ _ h=>h) ?_);(exact rfl)|refine auD ?_|(refine auW ?_ ?_<;>intro h<;>try exact auH)|fail
 exact zU trivial trivial rfl rfl hn (zl (fun x=>by simp [nfL,nfD])) rfl
theorem mu (t:Tk) (now:Int) (hx:0≤t.x∧t.x≤1099511627776) (hn:0≤now∧now≤1099511627776):zi Tryz.prog 163 [.agg t.enc,.rptr [.v (.int .i64 now)]] (.v (.bool (t.old now))):=by
 refine z7 {} 0 Tryz.func163 fun Γ hW=>auC ?_
 repeat' first|refine auS ?_|(with_reducible refine z6 (h_ _ _ _ _ _ _ _ _ hx hn) ?_)|refine auD ?_|(refine auW ?_ ?_<;>intro h<;>try exact auH)|fail
 all_goals refine auV ?_
 all_goals try exact zc
 all_goals try simp only [hsM] at *
 rfl
set_option maxHeartbeats 2000000 in
theorem XB (l:List Tk) (a b c d fl now:Int) (hr:y8 l.length 48) (he:yq l≠0):zi Tryz.prog 143 [.snap 7 (l.map Tk.enc) false,dR a b c d,.v (.int .i64 fl),.v (.int .i64 now)] (hD (l,false,yq l)):=by
 refine z7 {} 0 Tryz.func143 fun Γ hW=>auC ?_
 repeat' first|(first|(refine zP (yb hW ⟨.d0,.d0,.d7⟩ rfl rfl ⟨rfl,rfl,Nat.succ_pos _⟩) ?_)|(refine zP (zr hW ⟨.d0,.d0,.d0⟩ rfl rfl ⟨rfl,rfl,by simp⟩) ?_))|refine auS ?_|(first|(with_reducible refine yB 10 (yC 10 l false hr) ?_)|(with_reducible refine z6 (ym l) ?_))|refine auD ?_|(refine auW ?_ ?_<;>intro h<;>try exact auH)|(simp only [x5])
 all_goals refine auV ?_
 all_goals try exact zc
 all_goals try simp only [hsM] at *
set_option maxHeartbeats 4000000 in
theorem Zp (l:List Tk) (a b c d fl now:Int) (hr:y8 l.length 48) (he:yq l=0) (hb:oP l a b c d fl now=false):zi Tryz.prog 143 [.snap 7 (l.map Tk.enc) false,dR a b c d,.v (.int .i64 fl),.v (.int .i64 now)] (hD (l,false,1)):=by
 have hb':(mE a b c d=false)∨(mE a b c d=true∧¬((0≤fl∧fl≤255)∧wS l≤now∧now≤1099511627776)):=by
  unfold oP at hb
  cases hq:mE a b c d with
  |false=>exact .inl rfl
  |true=>rw [hq] at hb;exact .inr ⟨rfl,by simpa using hb⟩
 clear hb
 have hroad:=r9 a b c d
 rcases hb' with hrb|⟨hrb,hb⟩
 all_goals
 rw [hrb] at hroad
 have hl:=(zR he).1
 have hz:∃z,(0<l.length→l[l.length-1]?=some z∧wS l=z.x):=by
  rcases Nat.eq_zero_or_pos l.length with h|h
  ·exact ⟨⟨0,0,0,0,0,0,0⟩,fun q=>by omega⟩
  ·obtain ⟨z,hz⟩:∃z,l[l.length-1]?=some z:=⟨_,List.getElem?_eq_getElem (by omega)⟩
   exact ⟨z,fun _=>⟨hz,vQ l (l.length-1) z hz (by omega)⟩⟩
 obtain ⟨z,hz⟩:=hz
 refine z7 {} 0 Tryz.func143 fun Γ hW=>auC ?_
 repeat' first|(first|(refine zP (yb hW ⟨.d0,.d0,.d7⟩ rfl rfl ⟨rfl,rfl,Nat.succ_pos _⟩) ?_)|(refine zP (zr hW ⟨.d0,.d0,.d0⟩ rfl rfl ⟨rfl,rfl,by simp⟩) ?_))|refine aa ?_|(first|(with_reducible refine yB 10 (yC 10 l false hr) ?_)|(with_reducible refine z6 (ym l) ?_))|refine auD ?_|(refine auW ?_ ?_<;>intro h<;>try exact auH)|(simp only [x5])
 refine wZ ?_
 repeat' first|fail|refine aa ?_|(first|(with_reducible refine yB 10 (yC 10 l false hr) ?_)|(with_reducible refine z6 (ym l) ?_))|refine auD ?_|(refine auW ?_ ?_<;>intro h<;>try exact auH)|(simp only [x5])
 refine jL (α:=Unit) (fun _=>[(⟨.d0,.d1,.d4⟩,.v (.int .i64 (wS l)))]) (fun _=>[]) (fun _=>Γ.g0+3) (fun _=>True) ?_ ?_
 ·by_cases h0:0<l.length
  ·have ez:=uL (hz h0).1
   have hw:IntKind.i64.wrap ((l.length:Int)-1)=((l.length-1:Nat):Int):=(IntWalk.i64_in _ (by omega)).trans (by omega)
   repeat' first|refine auS ?_|fail|refine auD ?_|(refine auW ?_ ?_<;>intro h<;>try exact auH)|(simp only [List.length_map,hw,Int.toNat_natCast,ez])
   all_goals try exact auP
   refine zn ⟨(),trivial,?_⟩
   refine zo ?_ ?_ (Nat.le_refl _)
   all_goals first|refine auE ?_|exact zK
   all_goals repeat' first|exact trivial|exact rfl|apply And.intro
   exact yd (hz h0).2.symm
  ·skip
   repeat' first|refine auS ?_|fail|refine auD ?_|(refine auW ?_ ?_<;>intro h<;>try exact auH)|fail
   all_goals try exact auP
   all_goals (refine zn ⟨(),trivial,?_⟩)
   all_goals ((refine zo ?_ ?_ (Nat.le_refl _));(all_goals first|refine auE ?_|exact zK);(all_goals (repeat' (first|exact trivial|exact rfl|apply And.intro))))
   all_goals (rw [List.eq_nil_of_length_eq_zero (show l.length=0 by omega)];rfl)
 rintro _ -
 refine auL ?_
 repeat' first|refine auS ?_|(with_reducible refine z6 hroad ?_)|refine auD ?_|(refine auW ?_ ?_<;>intro h<;>try exact auH)|fail
 all_goals try exact auP
 all_goals refine auV ?_
 all_goals try exact zc
 all_goals try simp only [hsM] at *
set_option maxHeartbeats 4000000 in
theorem a8 (l:List Tk) (a b c d fl now:Int) (hr:y8 l.length 48) (he:yq l=0) (hb:oP l a b c d fl now=true) (syn ack fin rst:Bool) (hf:sQ fl syn ack fin rst) (hidx:zk (fun t=>t.along a b c d) (yng l now) 0 = -1):zi Tryz.prog 143 [.snap 7 (l.map Tk.enc) false,dR a b c d,.v (.int .i64 fl),.v (.int .i64 now)] (hD (sM l a b c d now syn ack fin rst)):=by
 have hlx:0≤wS l:=gD (zR he).2
 unfold oP at hb
 simp only [Bool.and_eq_true,decide_eq_true_eq] at hb
 have hyl:(yng l now).length≤l.length:=List.length_filter_le _ _
 have hp:=fun n=>oJ 10 (yng l now) (by have:=(zR he).1;unfold maxLen;omega) n a b c d
 simp only [hidx] at hp
 have hg:∀t∈l,zi Tryz.prog 163 [.agg t.enc,.rptr [.v (.int .i64 now)]] (.v (.bool (t.old now))):=fun t ht=>mu t now (n9 (s9 (zR he).2 ht)).2 (by omega)
 have hdel:=fun n=>sF 10 (caps:=[.rptr [.v (.int .i64 now)]]) (fun t=>t.old now) l (by have:=(zR he).1;unfold maxLen;omega) n hg
 obtain ⟨f2,f16,f1,f4,-⟩:=hf
 have g2:(!decide (bits .and .i64 fl 2=0))=syn:=by rw [f2];cases syn<;>rfl
 have g16:(!decide (bits .and .i64 fl 16=0))=ack:=by rw [f16];cases ack<;>rfl
 have g1:(!decide (bits .and .i64 fl 1=0))=fin:=by rw [f1];cases fin<;>rfl
 have g4:(!decide (bits .and .i64 fl 4=0))=rst:=by rw [f4];cases rst<;>rfl
 have hroad:=r9 a b c d
 rw [hb.1] at hroad
 have hl:=(zR he).1
 have hz:∃z,(0<l.length→l[l.length-1]?=some z∧wS l=z.x):=by
  rcases Nat.eq_zero_or_pos l.length with h|h
  ·exact ⟨⟨0,0,0,0,0,0,0⟩,fun q=>by omega⟩
  ·obtain ⟨z,hz⟩:∃z,l[l.length-1]?=some z:=⟨_,List.getElem?_eq_getElem (by omega)⟩
   exact ⟨z,fun _=>⟨hz,vQ l (l.length-1) z hz (by omega)⟩⟩
 obtain ⟨z,hz⟩:=hz
 refine z7 {} 0 Tryz.func143 fun Γ hW=>auC ?_
 repeat' first|(first|(refine zP (yb hW ⟨.d0,.d0,.d7⟩ rfl rfl ⟨rfl,rfl,Nat.succ_pos _⟩) ?_)|(refine zP (zr hW ⟨.d0,.d0,.d0⟩ rfl rfl ⟨rfl,rfl,by simp⟩) ?_))|refine aa ?_|(first|(with_reducible refine yB 10 (yC 10 l false hr) ?_)|(with_reducible refine z6 (ym l) ?_))|refine auD ?_|(refine auW ?_ ?_<;>intro h<;>try exact auH)|(simp only [x5])
 refine wZ ?_
 repeat' first|fail|refine aa ?_|(first|(with_reducible refine yB 10 (yC 10 l false hr) ?_)|(with_reducible refine z6 (ym l) ?_))|refine auD ?_|(refine auW ?_ ?_<;>intro h<;>try exact auH)|(simp only [x5])
 refine jL (α:=Unit) (fun _=>[(⟨.d0,.d1,.d4⟩,.v (.int .i64 (wS l)))]) (fun _=>[]) (fun _=>Γ.g0+3) (fun _=>True) ?_ ?_
 ·by_cases h0:0<l.length
  ·have ez:=uL (hz h0).1
   have hw:IntKind.i64.wrap ((l.length:Int)-1)=((l.length-1:Nat):Int):=(IntWalk.i64_in _ (by omega)).trans (by omega)
   repeat' first|refine auS ?_|fail|refine auD ?_|(refine auW ?_ ?_<;>intro h<;>try exact auH)|(simp only [List.length_map,hw,Int.toNat_natCast,ez])
   all_goals try exact auP
   refine zn ⟨(),trivial,?_⟩
   refine zo ?_ ?_ (Nat.le_refl _)
   all_goals first|refine auE ?_|exact zK
   all_goals repeat' first|exact trivial|exact rfl|apply And.intro
   exact yd (hz h0).2.symm
  ·skip
   repeat' first|refine auS ?_|fail|refine auD ?_|(refine auW ?_ ?_<;>intro h<;>try exact auH)|fail
   all_goals try exact auP
   all_goals (refine zn ⟨(),trivial,?_⟩)
   all_goals ((refine zo ?_ ?_ (Nat.le_refl _));(all_goals first|refine auE ?_|exact zK);(all_goals (repeat' (first|exact trivial|exact rfl|apply And.intro))))
   all_goals (rw [List.eq_nil_of_length_eq_zero (show l.length=0 by omega)];rfl)
 rintro _ -
 refine auL ?_
 repeat' first|refine auS ?_|(first|(with_reducible refine z6 hroad ?_)|(with_reducible refine yB 10 (yC 10 l false hr) ?_)|((with_reducible refine z_ 10 ?_ (hdel _) (fun _ _ _ h=>h) ?_);(exact rfl))|(simp only [g2,g16,g1,g4])|((with_reducible refine z_ 10 ?_ (hp _) (fun _ _ _ h=>h) ?_);(exact rfl)))|refine auD ?_|(refine auW ?_ ?_<;>intro h<;>try exact auH)|fail
 all_goals try exact auP
 ·refine zL (zr hW ⟨.d0,.d1,.d0⟩ rfl rfl ⟨rfl,rfl,by simp⟩) ?_
  simp only [x5]
  all_goals refine auV ?_
  all_goals try exact zc
  all_goals try simp only [hsM] at *
  all_goals (cases syn<;>cases ack<;>cases fin<;>cases rst<;>first|rfl|(exfalso;simp_all;done))
 ·have e:sM l a b c d now syn ack fin rst=(l,false,6):=by
   have q:(List.filter (fun t=>!t.old now) l).length=64:=by (simp only [hsL,reduceCtorEq] at *<;>omega)
   unfold sM
   rw [if_neg (by cases syn<;>cases ack<;>cases fin<;>cases rst<;>simp_all),if_pos q]
  rw [e]
  all_goals refine auV ?_
  all_goals try exact zc
  all_goals try simp only [hsM] at *
 ·refine zL (zr hW ⟨.d0,.d1,.d0⟩ rfl rfl ⟨rfl,rfl,by simp⟩) ?_
  have e:sM l a b c d now syn ack fin rst=(yng l now++[⟨a,b,c,d,1,0,now⟩],true,0):=by
   have q:¬(List.filter (fun t=>!t.old now) l).length=64:=by (simp only [hsL,reduceCtorEq] at *<;>omega)
   unfold sM
   rw [if_neg (by cases syn<;>cases ack<;>cases fin<;>cases rst<;>simp_all),if_neg q]
  rw [e,tH (by simp)]
  ·rw [show List.map Tk.enc (yng l now)++[[.v (.int .u32 a),.v (.int .u32 b),.v (.int .i64 c),.v (.int .i64 d),.v (.int .i64 1),.v (.int .i64 0),.v (.int .i64 now)]]=List.map Tk.enc (yng l now++[⟨a,b,c,d,1,0,now⟩]) from i_ _ ⟨a,b,c,d,1,0,now⟩]
   all_goals refine auV ?_
   all_goals try exact zc
   all_goals try simp only [hsM] at *
set_option maxHeartbeats 4000000 in
theorem bK (l:List Tk) (a b c d fl now:Int) (hr:y8 l.length 48) (he:yq l=0) (hb:oP l a b c d fl now=true) (syn ack fin rst:Bool) (hf:sQ fl syn ack fin rst) (i:Nat) (t:Tk) (hi:(yng l now)[i]?=some t) (hidx:zk (fun t=>t.along a b c d) (yng l now) 0=i):zi Tryz.prog 143 [.snap 7 (l.map Tk.enc) false,dR a b c d,.v (.int .i64 fl),.v (.int .i64 now)] (hD (uU l a b c d now syn ack fin rst i t)):=by
 have hlx:0≤wS l:=gD (zR he).2
 unfold oP at hb
 simp only [Bool.and_eq_true,decide_eq_true_eq] at hb
 have hyl:(yng l now).length≤l.length:=List.length_filter_le _ _
 have hp:=fun n=>oJ 10 (yng l now) (by have:=(zR he).1;unfold maxLen;omega) n a b c d
 simp only [hidx] at hp
 have hg:∀t∈l,zi Tryz.prog 163 [.agg t.enc,.rptr [.v (.int .i64 now)]] (.v (.bool (t.old now))):=fun t ht=>mu t now (n9 (s9 (zR he).2 ht)).2 (by omega)
 have hdel:=fun n=>sF 10 (caps:=[.rptr [.v (.int .i64 now)]]) (fun t=>t.old now) l (by have:=(zR he).1;unfold maxLen;omega) n hg
 obtain ⟨f2,f16,f1,f4,-⟩:=hf
 have g2:(!decide (bits .and .i64 fl 2=0))=syn:=by rw [f2];cases syn<;>rfl
 have g16:(!decide (bits .and .i64 fl 16=0))=ack:=by rw [f16];cases ack<;>rfl
 have g1:(!decide (bits .and .i64 fl 1=0))=fin:=by rw [f1];cases fin<;>rfl
 have g4:(!decide (bits .and .i64 fl 4=0))=rst:=by rw [f4];cases rst<;>rfl
 have hil:i<(List.filter (fun t=>!t.old now) l).length:=(List.getElem?_eq_some_iff.1 hi).1
 have hil2:i<(yng l now).length:=hil
 have ex:=uL hi
 have hw:IntKind.i64.wrap ((i:Int)+1)=((i+1:Nat):Int):=(IntWalk.i64_in _ (by have:=(zR he).1;omega)).trans (by omega)
 have hpas:=fun n op=>zv 5 (iD n t.a t.b t.c t.d t.s t.o t.x syn ack fin rst op)
 have hcl:(List.take i (yng l now)++List.drop (i+1) (yng l now)).length≤64:=by have:=(zR he).1;rw [List.length_append,List.length_take,List.length_drop];omega
 have hcut:=fun n=>lX 10 (yng l now) i (i+1) (by omega) (by omega) (by have:=(zR he).1;unfold maxLen;omega) n
 have hroad:=r9 a b c d
 rw [hb.1] at hroad
 have hl:=(zR he).1
 have hz:∃z,(0<l.length→l[l.length-1]?=some z∧wS l=z.x):=by
  rcases Nat.eq_zero_or_pos l.length with h|h
  ·exact ⟨⟨0,0,0,0,0,0,0⟩,fun q=>by omega⟩
  ·obtain ⟨z,hz⟩:∃z,l[l.length-1]?=some z:=⟨_,List.getElem?_eq_getElem (by omega)⟩
   exact ⟨z,fun _=>⟨hz,vQ l (l.length-1) z hz (by omega)⟩⟩
 obtain ⟨z,hz⟩:=hz
 refine z7 {} 0 Tryz.func143 fun Γ hW=>auC ?_
 repeat' first|(first|(refine zP (yb hW ⟨.d0,.d0,.d7⟩ rfl rfl ⟨rfl,rfl,Nat.succ_pos _⟩) ?_)|(refine zP (zr hW ⟨.d0,.d0,.d0⟩ rfl rfl ⟨rfl,rfl,by simp⟩) ?_))|refine aa ?_|(first|(with_reducible refine yB 10 (yC 10 l false hr) ?_)|(with_reducible refine z6 (ym l) ?_))|refine auD ?_|(refine auW ?_ ?_<;>intro h<;>try exact auH)|(simp only [x5])
 refine wZ ?_
 repeat' first|fail|refine aa ?_|(first|(with_reducible refine yB 10 (yC 10 l false hr) ?_)|(with_reducible refine z6 (ym l) ?_))|refine auD ?_|(refine auW ?_ ?_<;>intro h<;>try exact auH)|(simp only [x5])
 refine jL (α:=Unit) (fun _=>[(⟨.d0,.d1,.d4⟩,.v (.int .i64 (wS l)))]) (fun _=>[]) (fun _=>Γ.g0+3) (fun _=>True) ?_ ?_
 ·by_cases h0:0<l.length
  ·have ez:=uL (hz h0).1
   have hw:IntKind.i64.wrap ((l.length:Int)-1)=((l.length-1:Nat):Int):=(IntWalk.i64_in _ (by omega)).trans (by omega)
   repeat' first|refine auS ?_|fail|refine auD ?_|(refine auW ?_ ?_<;>intro h<;>try exact auH)|(simp only [List.length_map,hw,Int.toNat_natCast,ez])
   all_goals try exact auP
   refine zn ⟨(),trivial,?_⟩
   refine zo ?_ ?_ (Nat.le_refl _)
   all_goals first|refine auE ?_|exact zK
   all_goals repeat' first|exact trivial|exact rfl|apply And.intro
   exact yd (hz h0).2.symm
  ·skip
   repeat' first|refine auS ?_|fail|refine auD ?_|(refine auW ?_ ?_<;>intro h<;>try exact auH)|fail
   all_goals try exact auP
   all_goals (refine zn ⟨(),trivial,?_⟩)
   all_goals ((refine zo ?_ ?_ (Nat.le_refl _));(all_goals first|refine auE ?_|exact zK);(all_goals (repeat' (first|exact trivial|exact rfl|apply And.intro))))
   all_goals (rw [List.eq_nil_of_length_eq_zero (show l.length=0 by omega)];rfl)
 rintro _ -
 refine auL ?_
 repeat' first|refine auS ?_|(first|(with_reducible refine z6 hroad ?_)|(with_reducible refine yB 10 (yC 10 l false hr) ?_)|((with_reducible refine z_ 10 ?_ (hdel _) (fun _ _ _ h=>h) ?_);(exact rfl))|(simp only [g2,g16,g1,g4])|((with_reducible refine z_ 5 ?_ (hpas _ _) (fun _ _ _ h=>h) ?_);(exact rfl))|((with_reducible refine z_ 10 ?_ (hcut _) (fun _ _ _ h=>h) ?_);(exact rfl))|((with_reducible refine z_ 10 ?_ (hp _) (fun _ _ _ h=>h) ?_);(exact rfl)))|refine auD ?_|(refine auW ?_ ?_<;>intro h<;>try exact auH)|(first|(simp only [Int.toNat_natCast,ex,Nat.zero_add,hw])|(refine zf ⟨by (simp only [List.length_map];omega),by trivial⟩ ?_)|(refine zf ⟨by trivial,by (unfold y8 maxLen;simp only [List.length_map];omega)⟩ ?_)|fail)
 all_goals try exact auP
 ·have e:uU l a b c d now syn ack fin rst i t=(yng l now,false,0):=by
   unfold uU
   rw [if_neg (by simp_all),if_pos (by simpa using h)]
  refine zL (zr hW ⟨.d0,.d1,.d0⟩ rfl rfl ⟨rfl,rfl,by simp⟩) ?_
  have e0:rst=false:=by simp_all
  first|rw [e]|(rw [e0] at e;rw [e])
  simp only [x5]
  all_goals refine auV ?_
  all_goals try exact zc
  all_goals try simp only [hsM] at *
 ·exfalso;simp_all
 ·have e:uU l a b c d now syn ack fin rst i t=((yng l now).take i++(yng l now).drop (i+1)++[⟨t.a,t.b,t.c,t.d,(pas t.s t.o syn ack fin (opB t a b c d)).2.1,(pas t.s t.o syn ack fin (opB t a b c d)).2.2,now⟩],true,0):=by
   unfold uU
   rw [if_neg (by simp_all),if_neg (by simp_all)]
  refine zL (zr hW ⟨.d0,.d1,.d0⟩ rfl rfl ⟨rfl,rfl,by (simp;try omega)⟩) ?_
  have e0:rst=false:=by simp_all
  first|rw [e]|(rw [e0] at e;rw [e])
  rw [tH (by (simp;try omega))]
  rw [show List.map Tk.enc (List.take i (yng l now)++List.drop (i+1) (yng l now))++[[.v (.int .u32 t.a),.v (.int .u32 t.b),.v (.int .i64 t.c),.v (.int .i64 t.d),.v (.int .i64 (pas t.s t.o syn ack fin (opB t a b c d)).2.1),.v (.int .i64 (pas t.s t.o syn ack fin (opB t a b c d)).2.2),.v (.int .i64 now)]]=List.map Tk.enc (List.take i (yng l now)++List.drop (i+1) (yng l now)++[⟨t.a,t.b,t.c,t.d,(pas t.s t.o syn ack fin (opB t a b c d)).2.1,(pas t.s t.o syn ack fin (opB t a b c d)).2.2,now⟩]) from i_ _ ⟨t.a,t.b,t.c,t.d,(pas t.s t.o syn ack fin (opB t a b c d)).2.1,(pas t.s t.o syn ack fin (opB t a b c d)).2.2,now⟩]
  all_goals refine auV ?_
  all_goals try exact zc
  all_goals try simp only [hsM] at *
 ·have e:uU l a b c d now syn ack fin rst i t=((yng l now).take i++(yng l now).drop (i+1),true,0):=by
   unfold uU
   rw [if_pos (by simp_all)]
  refine zL (zr hW ⟨.d0,.d1,.d0⟩ rfl rfl ⟨rfl,rfl,by simp⟩) ?_
  have e0:rst=true:=by simp_all
  first|rw [e]|(rw [e0] at e;rw [e])
  simp only [x5]
  all_goals refine auV ?_
  all_goals try exact zc
  all_goals try simp only [hsM] at *
 ·exfalso;simp_all
end Go.Proofs.YtaiileiodjicpaaGreatDoor.T
