import Derived.Test.YtmibknbmhcnemaaDoorTm15
set_option linter.unusedVariables false
set_option linter.unusedSimpArgs false
namespace Go.Proofs.YtmibknbmhcnemaaDoor.T
attribute [local irreducible] zz Go
set_option maxRecDepth 100000
def rY (pre:List Tk) (t:Tk):Bool:=t.form&&pre.all fun y=>!(decide (t.x<y.x)) && !(y.along t.a t.b t.c t.d)
def yR:List Tk→List Tk→Bool
 |_,[]=>true
 |pre,t::r=>rY pre t&&yR (pre++[t]) r
def zV (l:List Tk):Int:=if 64<l.length then 2 else if yR [] l then 0 else 4
theorem jr {pre r:List Tk} {t:Tk} (h:rY pre t=true):yR pre (t::r)=yR (pre++[t]) r:=by simp [yR,h]
theorem fI {pre r:List Tk} {t:Tk} (h:rY pre t=false):yR pre (t::r)=false:=by simp [yR,h]
theorem iv (t:Tk):t.along t.a t.b t.c t.d=true:=by unfold Tk.along qe;simp
theorem bc {l:List Tk} {k:Nat} {t:Tk} (ht:l[k]?=some t) (hs:∀y∈l.take k,∀z,l[k-1]?=some z→y.x≤z.x) :
  rY (l.take k) t=true↔t.form=true∧(∀z,0<k→l[k-1]?=some z→z.x≤t.x)∧ze (fun y=>y.along t.a t.b t.c t.d) l 0=k:=by
 have hk:k<l.length:=(List.getElem?_eq_some_iff.1 ht).1
 have hf:=ui (fun y:Tk=>y.along t.a t.b t.c t.d) t (iv t) (l.drop (k+1)) (l.take k) 0
 have hl:l.take k++t::l.drop (k+1)=l:=by
  rw [←Option.some.inj ((List.getElem?_eq_getElem hk).symm.trans ht),←List.drop_eq_getElem_cons hk,List.take_append_drop]
 rw [hl,List.length_take,Nat.min_eq_left (Nat.le_of_lt hk),Nat.zero_add] at hf
 rw [hf]
 unfold rY
 simp only [Bool.and_eq_true,List.all_eq_true,Bool.not_eq_true',decide_eq_false_iff_not]
 constructor
 ·rintro ⟨h1,h2⟩
  refine ⟨h1,fun z h0 hz=>?_,fun y hy=>(h2 y hy).2⟩
  have hz':z∈l.take k:=List.mem_iff_getElem?.2 ⟨k-1,by rw [List.getElem?_take,if_pos (by omega)];exact hz⟩
  have:=(h2 z hz').1
  omega
 ·rintro ⟨h1,h2,h3⟩
  refine ⟨h1,fun y hy=>⟨?_,h3 y hy⟩⟩
  have h0:0<k:=by
   rcases Nat.eq_zero_or_pos k with rfl|h
   ·simp at hy
   ·exact h
  obtain ⟨z,hz⟩:∃z,l[k-1]?=some z:=⟨_,List.getElem?_eq_getElem (by omega)⟩
  have:=hs y hy z hz
  have:=h2 z h0 hz
  omega
theorem qG {l:List Tk} {k:Nat} {t:Tk} (ht:l[k]?=some t) (hs:∀y∈l.take k,∀z,l[k-1]?=some z→y.x≤z.x) (hok:rY (l.take k) t=true):∀y∈l.take (k+1),∀z,l[k+1-1]?=some z→y.x≤z.x:=by
 intro y hy z hz
 rw [Nat.add_sub_cancel,ht] at hz
 obtain rfl:=Option.some.inj hz
 rw [List.take_add_one,ht] at hy
 rcases List.mem_append.1 hy with hy|hy
 ·unfold rY at hok
  simp only [Bool.and_eq_true,List.all_eq_true,Bool.not_eq_true',decide_eq_false_iff_not] at hok
  have:=(hok.2 y hy).1
  omega
 ·simp at hy
  rw [hy]
  exact Int.le_refl _
theorem mw {l:List Tk} {k:Nat} {t:Tk} (ht:l[k]?=some t) (hg:yR [] l=yR (l.take k) (l.drop k)) (hok:rY (l.take k) t=true):yR [] l=yR (l.take (k+1)) (l.drop (k+1)):=by
 have hk:k<l.length:=(List.getElem?_eq_some_iff.1 ht).1
 rw [hg,List.drop_eq_getElem_cons hk,show l[k]=t from Option.some.inj ((List.getElem?_eq_getElem hk).symm.trans ht),jr hok,List.take_add_one,ht]
 rfl
theorem rP {l:List Tk} {k:Nat} {t:Tk} (ht:l[k]?=some t) (hg:yR [] l=yR (l.take k) (l.drop k)) (hok:¬rY (l.take k) t=true):yR [] l=false:=by
 have hk:k<l.length:=(List.getElem?_eq_some_iff.1 ht).1
 rw [hg,List.drop_eq_getElem_cons hk,show l[k]=t from Option.some.inj ((List.getElem?_eq_getElem hk).symm.trans ht),fI (by simpa using hok)]
theorem vZ {l:List Tk} {k:Nat} {t:Tk} (ht:l[k]?=some t):yb (l.map Tk.enc) k=[.v (.int .u32 t.a),.v (.int .u32 t.b),.v (.int .i64 t.c),.v (.int .i64 t.d),.v (.int .i64 t.s),.v (.int .i64 t.o),.v (.int .i64 t.x)]:=ye Tk.enc l k t ht
set_option maxHeartbeats 1000000 in
theorem zW (l:List Tk):zf Tryd.prog 35 [.snap 7 (l.map Tk.enc) false] (.v (.int .i64 (zV l))):=by
 refine z4 {} 0 Tryd.func35 fun Γ hW=>auC ?_
 repeat' first|refine auS ?_|fail|refine auD ?_|(refine auW ?_ ?_<;>intro h<;>try exact auH)|fail
 ·skip
  all_goals refine auV ?_
  all_goals try exact z_
  all_goals try simp only [hsM] at *
  refine y8 ?_
  unfold zV
  rw [if_pos (by simp only [List.length_map] at h;omega)]
 have hl:l.length≤64:=by (simp only [hsL,reduceCtorEq] at *<;>omega)
 refine zE (α:=Nat×Nat) (fun k=>[(⟨.d0,.d1,.d2⟩,.v (.int .i64 (k.1:Nat)))]) (fun _=>[]) (fun k=>k.2) (fun k=>l.length-k.1) (fun k=>k.1≤l.length∧yR [] l=yR (l.take k.1) (l.drop k.1)∧∀y∈l.take k.1,∀z,l[k.1-1]?=some z→y.x≤z.x) (0,Γ.g0) ⟨Nat.zero_le _,rfl,fun y hy=>by simp at hy⟩ ?_ ?_
 ·skip
  refine zt ?_ ?_ (Nat.le_refl _)
  all_goals first|refine auE ?_|exact zR
  all_goals repeat' first|exact trivial|exact rfl|apply And.intro
  all_goals trace_state
 ·rintro ⟨k,g⟩ ⟨hk,hg,hs⟩
  dsimp only at hk hg hs ⊢
  refine auL ?_
  by_cases hlt:k<l.length
  ·obtain ⟨t,ht⟩:∃t,l[k]?=some t:=⟨_,List.getElem?_eq_getElem hlt⟩
   have ex:=vZ ht
   have hok:=bc ht hs
   obtain ⟨z,hz⟩:∃z,l[k-1]?=some z:=⟨_,List.getElem?_eq_getElem (by omega)⟩
   have ez:=vZ hz
   have hw:0<k→IntKind.i64.wrap ((k:Int)-1)=((k-1:Nat):Int):=fun h=>(IntWalk.i64_in _ (by omega)).trans (by omega)
   have hzt:=fun h0:0<k=>(fun (h:z.x≤t.x) (w:Tk) (_:0<k) (hw:l[k-1]?=some w)=>(Option.some.inj (hz.symm.trans hw))▸h)
   repeat' first|refine auS ?_|(first|(with_reducible refine z0 (fe _ _ _ _ _ _ _) ?_)|(with_reducible refine z0 (xI l false (by unfold maxLen;omega) _ _ _ _) ?_))|refine auD ?_|(refine auW ?_ ?_<;>intro h<;>try exact auH)|(first|(simp only [Int.toNat_natCast,ex])|(simp only [hw (by (simp only [hsL,reduceCtorEq] at *<;>omega)),Int.toNat_natCast,ez]))
   all_goals try exact auP
   ·skip
    have hbad:yR [] l=false:=rP ht hg (fun hh=>by
     obtain ⟨q1,q2,q3⟩:=hok.1 hh
     first
      |(have q4:=q2 z (by (simp only [hsL,reduceCtorEq] at *<;>omega)) hz;(try simp only [decide_eq_true_eq] at *);omega)
      |(rw [q3] at h;simp at h;done)
      |(rw [show sL t.a t.b t.c t.d t.s t.o t.x=true from q1] at h;cases h))
    all_goals refine auV ?_
    all_goals try exact z_
    all_goals try simp only [hsM] at *
    exact y8 (by unfold zV;rw [if_neg (by omega),hbad];rfl)
   ·skip
    have hbad:yR [] l=false:=rP ht hg (fun hh=>by
     obtain ⟨q1,q2,q3⟩:=hok.1 hh
     first
      |(have q4:=q2 z (by (simp only [hsL,reduceCtorEq] at *<;>omega)) hz;(try simp only [decide_eq_true_eq] at *);omega)
      |(rw [q3] at h;simp at h;done)
      |(rw [show sL t.a t.b t.c t.d t.s t.o t.x=true from q1] at h;cases h))
    all_goals refine auV ?_
    all_goals try exact z_
    all_goals try simp only [hsM] at *
    exact y8 (by unfold zV;rw [if_neg (by omega),hbad];rfl)
   ·skip
    have hbad:yR [] l=false:=rP ht hg (fun hh=>by
     obtain ⟨q1,q2,q3⟩:=hok.1 hh
     first
      |(have q4:=q2 z (by (simp only [hsL,reduceCtorEq] at *<;>omega)) hz;(try simp only [decide_eq_true_eq] at *);omega)
      |(rw [q3] at h;simp at h;done)
      |(rw [show sL t.a t.b t.c t.d t.s t.o t.x=true from q1] at h;cases h))
    all_goals refine auV ?_
    all_goals try exact z_
    all_goals try simp only [hsM] at *
    exact y8 (by unfold zV;rw [if_neg (by omega),hbad];rfl)
   ·skip
    have hokk:rY (l.take k) t=true:=hok.2 ⟨by show sL t.a t.b t.c t.d t.s t.o t.x=true;simp_all,fun w h0 hw'=>by
     obtain rfl:=Option.some.inj (hz.symm.trans hw')
     (simp only [hsL,reduceCtorEq] at *<;>omega),by (simp only [hsL,reduceCtorEq] at *<;>omega)⟩
    refine zp ?_
    refine ⟨(k+1,g+1),⟨Nat.succ_le_of_lt hlt,mw ht hg hokk,qG ht hs hokk⟩,Nat.sub_lt_sub_left hlt (Nat.lt_succ_self k),?_⟩
    refine zt ?_ ?_ (Nat.le_refl _)
    all_goals first|refine auE ?_|exact zR
    all_goals repeat' first|exact trivial|exact rfl|apply And.intro
    exact y8 ((IntWalk.i64_in _ (by omega)).trans (by omega))
   ·skip
    have hbad:yR [] l=false:=rP ht hg (fun hh=>by
     obtain ⟨q1,q2,q3⟩:=hok.1 hh
     first
      |(have q4:=q2 z (by (simp only [hsL,reduceCtorEq] at *<;>omega)) hz;(try simp only [decide_eq_true_eq] at *);omega)
      |(rw [q3] at h;simp at h;done)
      |(rw [show sL t.a t.b t.c t.d t.s t.o t.x=true from q1] at h;cases h))
    all_goals refine auV ?_
    all_goals try exact z_
    all_goals try simp only [hsM] at *
    exact y8 (by unfold zV;rw [if_neg (by omega),hbad];rfl)
   ·skip
    have hokk:rY (l.take k) t=true:=hok.2 ⟨by show sL t.a t.b t.c t.d t.s t.o t.x=true;simp_all,fun w h0 hw'=>by
     obtain rfl:=Option.some.inj (hz.symm.trans hw')
     (simp only [hsL,reduceCtorEq] at *<;>omega),by (simp only [hsL,reduceCtorEq] at *<;>omega)⟩
    refine zp ?_
    refine ⟨(k+1,g+1),⟨Nat.succ_le_of_lt hlt,mw ht hg hokk,qG ht hs hokk⟩,Nat.sub_lt_sub_left hlt (Nat.lt_succ_self k),?_⟩
    refine zt ?_ ?_ (Nat.le_refl _)
    all_goals first|refine auE ?_|exact zR
    all_goals repeat' first|exact trivial|exact rfl|apply And.intro
    exact y8 ((IntWalk.i64_in _ (by omega)).trans (by omega))
  ·skip
   repeat' first|refine auS ?_|fail|refine auD ?_|(refine auW ?_ ?_<;>intro h<;>try exact auH)|fail
   all_goals try exact auP
   all_goals refine auV ?_
   all_goals try exact z_
   all_goals try simp only [hsM] at *
   obtain rfl:k=l.length:=by omega
   rw [List.drop_length] at hg
   exact y8 (by unfold zV;rw [if_neg (by omega),hg];rfl)
end Go.Proofs.YtmibknbmhcnemaaDoor.T
namespace Go.Proofs.YtmibknbmhcnemaaDoor.T
attribute [local irreducible] zz Go
set_option maxRecDepth 100000
theorem pQ:∀ {l pre:List Tk} {j:Nat} {z:Tk},yR pre l=true→l[j]?=some z→rY (pre++l.take j) z=true
 |[],_,_,_,_,h=>by simp at h
 |y::r,pre,0,z,hg,h=>by
  simp only [yR,Bool.and_eq_true] at hg
  simp at h
  subst h
  simpa using hg.1
 |y::r,pre,j+1,z,hg,h=>by
  simp only [yR,Bool.and_eq_true] at hg
  have:=pQ hg.2 (j:=j) (z:=z) (by simpa using h)
  simpa using this
theorem t7 {l:List Tk} (hg:yR [] l=true) {z:Tk} (hz:z∈l):z.form=true:=by
 obtain ⟨j,hj⟩:=List.mem_iff_getElem?.1 hz
 have:=pQ hg hj
 unfold rY at this
 rw [Bool.and_eq_true] at this
 exact this.1
theorem i7 {y z:Tk} {a b c d:Int} (h1:y.along a b c d=true) (h2:z.along a b c d=true):y.along z.a z.b z.c z.d=true:=by
 unfold Tk.along qe at *
 simp only [decide_eq_true_eq] at *
 omega
theorem ep {l:List Tk} (hg:yR [] l=true) {i j:Nat} {y z:Tk} {a b c d:Int} (hi:l[i]?=some y) (hj:l[j]?=some z) (h1:y.along a b c d=true) (h2:z.along a b c d=true):i=j:=by
 have key:∀ {i j:Nat} {y z:Tk},l[i]?=some y→l[j]?=some z→y.along a b c d=true→z.along a b c d=true→¬i<j:=by
  intro i j y z hi hj h1 h2 hlt
  have h3:=pQ hg hj
  unfold rY at h3
  simp only [Bool.and_eq_true,List.all_eq_true,List.nil_append,Bool.not_eq_true'] at h3
  have h4:=(h3.2 y (List.mem_iff_getElem?.2 ⟨i,by rw [List.getElem?_take,if_pos hlt];exact hi⟩)).2
  rw [i7 h1 h2] at h4
  cases h4
 have k1:=key hi hj h1 h2
 have k2:=key hj hi h2 h1
 omega
theorem pp {t:Tk} (h:t.form=true):(1≤t.s∧t.s≤4)∧0≤t.x∧t.x≤1099511627776:=by
 unfold Tk.form sL at h
 simp only [Bool.and_eq_true,decide_eq_true_eq] at h
 omega
def sH (l:List Tk) (now:Int):Int:=if zV l≠0 then zV l else if now<0∨1099511627776<now then 1 else 0
def Tk.old (t:Tk) (now:Int):Bool:=decide (t.x+eM t.s<now)
theorem zB {l:List Tk} (h:zV l=0):l.length≤64∧yR [] l=true:=by
 unfold zV at h
 split at h
 ·omega
 ·split at h
  ·rename_i h1 h2;exact ⟨by omega,h2⟩
  ·omega
theorem ud (l:List Tk) (now:Int):(zV l≠0∧sH l now=zV l)∨(zV l=0∧(now<0∨1099511627776<now)∧sH l now=1)∨(zV l=0∧(0≤now∧now≤1099511627776)∧sH l now=0):=by
 unfold sH
 by_cases h:zV l=0
 ·rw [if_neg (by omega)]
  by_cases h2:now<0∨1099511627776<now
  ·rw [if_pos h2];exact .inr (.inl ⟨h,h2,rfl⟩)
  ·rw [if_neg h2];exact .inr (.inr ⟨h,by omega,rfl⟩)
 ·rw [if_pos h];exact .inl ⟨h,rfl⟩
set_option maxHeartbeats 1000000 in
theorem cP (l:List Tk) (a b c d now:Int) (h0:sH l now≠0):zf Tryd.prog 81 [.snap 7 (l.map Tk.enc) false,dR a b c d,.v (.int .i64 now)] (.tup [dT 0 0 0 0 0 0 0,.v (.bool false),.v (.int .i64 (sH l now))]):=by
 rcases ud l now with ⟨h1,h2⟩|⟨h1,h2,h3⟩|⟨h1,h2,h3⟩
 ·rw [h2]
  refine z4 {} 0 Tryd.func81 fun Γ hW=>auC ?_
  repeat' first|refine auS ?_|(with_reducible refine z0 (zW l) ?_)|refine auD ?_|(refine auW ?_ ?_<;>intro h<;>try exact auH)|fail
  all_goals try exact auP
  all_goals refine auV ?_
  all_goals try exact z_
  all_goals try simp only [hsM] at *
 ·rw [h3]
  refine z4 {} 0 Tryd.func81 fun Γ hW=>auC ?_
  repeat' first|refine auS ?_|(with_reducible refine z0 (zW l) ?_)|refine auD ?_|(refine auW ?_ ?_<;>intro h<;>try exact auH)|fail
  all_goals try exact auP
  all_goals refine auV ?_
  all_goals try exact z_
  all_goals try simp only [hsM] at *
 ·exact absurd h3 h0
set_option maxHeartbeats 1000000 in
theorem fT (l:List Tk) (a b c d now:Int) (h0:sH l now=0) (hn:∀t∈l,t.along a b c d=false):zf Tryd.prog 81 [.snap 7 (l.map Tk.enc) false,dR a b c d,.v (.int .i64 now)] (.tup [dT 0 0 0 0 0 0 0,.v (.bool false),.v (.int .i64 0)]):=by
 obtain ⟨h1,h2⟩:zV l=0∧0≤now∧now≤1099511627776:=by have:=ud l now;omega
 have hpl:=xI l false (by have:=(zB h1).1;unfold maxLen;omega) a b c d
 rw [rn (fun t=>t.along a b c d) l 0 hn] at hpl
 refine z4 {} 0 Tryd.func81 fun Γ hW=>auC ?_
 repeat' first|refine auS ?_|(first|(with_reducible refine z0 (zW l) ?_)|(with_reducible refine z0 hpl ?_))|refine auD ?_|(refine auW ?_ ?_<;>intro h<;>try exact auH)|fail
 all_goals try exact auP
 all_goals refine auV ?_
 all_goals try exact z_
 all_goals try simp only [hsM] at *
set_option maxHeartbeats 1000000 in
theorem aD (l:List Tk) (a b c d now:Int) (h0:sH l now=0) (i:Nat) (t:Tk) (hi:l[i]?=some t) (hf:ze (fun t:Tk=>t.along a b c d) l 0=i):zf Tryd.prog 81 [.snap 7 (l.map Tk.enc) false,dR a b c d,.v (.int .i64 now)] (.tup [if t.old now then dT 0 0 0 0 0 0 0 else dT t.a t.b t.c t.d t.s t.o t.x,.v (.bool (!t.old now)),.v (.int .i64 0)]):=by
 obtain ⟨h1,h2⟩:zV l=0∧0≤now∧now≤1099511627776:=by have:=ud l now;omega
 have hpl:=xI l false (by have:=(zB h1).1;unfold maxLen;omega) a b c d
 rw [hf] at hpl
 have ex:=vZ hi
 have hfm:=pp (t7 (zB h1).2 (List.mem_iff_getElem?.2 ⟨i,hi⟩))
 have hil:i<l.length:=(List.getElem?_eq_some_iff.1 hi).1
 refine z4 {} 0 Tryd.func81 fun Γ hW=>auC ?_
 repeat' first|refine auS ?_|(first|(with_reducible refine z0 (zW l) ?_)|(with_reducible refine z0 hpl ?_)|(with_reducible refine z0 (kh _ _ _ _ _ _ _ _ hfm.2 h2) ?_))|refine auD ?_|(refine auW ?_ ?_<;>intro h<;>try exact auH)|(simp only [Int.toNat_natCast,ex])
 all_goals try exact auP
 all_goals refine auV ?_
 all_goals try exact z_
 all_goals try simp only [hsM] at *
 ·rw [show t.old now=true from decide_eq_true h];rfl
 ·rw [show t.old now=false from decide_eq_false h];rfl
end Go.Proofs.YtmibknbmhcnemaaDoor.T
