import Derived.Test.YtmibknbmhcnemaaGreatDoorHb06
import Derived.Below
import Derived.IntWalk
import Derived.Test.YtmibknbmhcnemaaGreatDoorHb12
import Derived.Test.YtmibknbmhcnemaaGreatDoorHb15
set_option linter.unusedVariables false
set_option linter.unusedSimpArgs false
namespace Go.Proofs.YtmibknbmhcnemaaGreatDoor.R
attribute [local irreducible] zF Go
set_option maxRecDepth 100000
theorem bM (s p x:Nat) (hs:0<s):x / s=p↔p*s≤x∧x<p*s+s:=by
 constructor
 ·rintro rfl
  have h1:=Nat.div_add_mod x s
  have h2:=Nat.mod_lt x hs
  rw [Nat.mul_comm] at h1
  omega
 ·rintro ⟨h1,h2⟩
  have h3:x<(p+1)*s:=by rw [Nat.succ_mul];exact h2
  have h4:=(Nat.le_div_iff_mul_le hs).2 h1
  have h5:=(Nat.div_lt_iff_lt_mul hs).2 h3
  omega
theorem aW {a l:Int} (h:u9 a l=true):a.toNat=a.toNat / spn l*spn l:=by
 unfold u9 at h
 simp only [Bool.and_eq_true,decide_eq_true_eq] at h
 have h2:a.toNat % spn l=0:=h.2
 have h3:=Nat.div_add_mod a.toNat (spn l)
 rw [Nat.mul_comm] at h3
 omega
theorem iW {a l x:Int} (hn:u9 a l=true) (ha:0≤a) (hx:0≤x):gC a l x=decide (a≤x∧x≤a+(spn l:Nat)-1):=by
 have hm:=aW hn
 have hb:=bM (spn l) (a.toNat / spn l) x.toNat (dg l).1
 rw [←hm] at hb
 have hs:=(dg l).1
 unfold gC
 refine decide_eq_decide.2 ⟨fun q=>?_,fun q=>hb.2 (by omega)⟩
 have:=hb.1 q
 omega
theorem Z6 (r:Rl) (p:Int) (hp:0≤p∧p≤255):(decide (r.pr=0)||decide (r.pr=p))=decide ((bxP r).1≤p∧p≤(bxP r).2):=by
 unfold bxP
 split
 ·rename_i h;simp [h,hp]
 ·rename_i h
  simp only [h,decide_false,Bool.false_or]
  exact decide_eq_decide.2 (by constructor<;>intro q<;>first|omega|(dsimp only at *;omega))
theorem W9 {r:Rl} {f:Fl} (hr:rOk r=true) (hw:r.wf) (hf:f.wf) (hp:0≤f.pr∧f.pr≤255):db (cM r f)=ul r f:=by
 obtain ⟨⟨h1,h2⟩,h3,h4,h5⟩:=ot hr
 unfold db ul
 rw [iW h1 hw.1.1 hf.1.1,iW h2 hw.2.1 hf.2.1,Z6 r f.pr hp]
 rfl
def um (l:List Rl):Int:=if 64<l.length then 2 else if l.all rOk then 0 else 4
theorem c7 {l:List Rl} (h:um l=0):l.length≤64∧∀r∈l,rOk r=true:=by
 unfold um at h
 split at h
 ·cases h
 ·split at h
  ·rename_i h1 h2
   exact ⟨by omega,fun r hr=>List.all_eq_true.1 h2 r hr⟩
  ·cases h
theorem nL {l:List Rl} {k:Nat} {t:Rl} (ht:l[k]?=some t):ym (l.map Rl.enc) k=t.enc:=zT Rl.enc l k t ht
set_option maxHeartbeats 1000000 in
theorem sJ (l:List Rl) (c:Bool) (hl:l.length≤maxLen) (hw:∀r∈l,r.wf):zd Tryz.prog 65 [.snap 10 (l.map Rl.enc) c] (.v (.int .i64 (um l))):=by
 unfold maxLen at hl
 by_cases h64:64<l.length
 ·have he:um l=2:=by unfold um;rw [if_pos h64]
  rw [he]
  refine z4 {} 0 Tryz.func65 fun Γ hW=>auC ?_
  repeat' first|refine auS ?_|fail|refine auD ?_|(refine auW ?_ ?_<;>intro h<;>try exact auH)|(simp only [List.length_map])
  all_goals try exact auP
  all_goals refine auV ?_
  all_goals try exact z8
  all_goals try simp only [hsM] at *
 have he:um l=if l.all rOk then 0 else 4:=by unfold um;rw [if_neg h64]
 rw [he]
 clear he
 refine z4 {} 0 Tryz.func65 fun Γ hW=>auC ?_
 repeat' first|refine auS ?_|fail|refine auD ?_|(refine auW ?_ ?_<;>intro h<;>try exact auH)|(simp only [List.length_map])
 all_goals try exact auP
 refine ze (α:=Nat×Nat) (fun x=>[(⟨.d0,.d1,.d2⟩,.v (.int .i64 (x.1:Nat)))]) (fun _=>[(0,none)]) (fun x=>x.2) (fun x=>l.length-x.1) (fun x=>x.1≤l.length∧∀y∈l.take x.1,rOk y=true) (0,Γ.g0) ⟨Nat.zero_le _,fun y hy=>by simp at hy⟩ ?_ ?_
 ·skip
  refine zb ?_ ?_ (Nat.le_refl _)
  all_goals first|refine auE ?_|exact zi
  all_goals repeat' first|exact trivial|exact rfl|apply And.intro
 rintro ⟨k,gn⟩ ⟨hk,hp⟩
 dsimp only at hk hp ⊢
 refine auL ?_
 by_cases hlt:k<l.length
 ·obtain ⟨t,ht⟩:∃t,l[k]?=some t:=⟨_,List.getElem?_eq_getElem hlt⟩
  have ex:=nL ht
  have hmem:=List.mem_of_getElem? ht
  have hr:=t9 t (hw t hmem)
  cases hq:rOk t with
  |false=>
   rw [hq] at hr
   have hbad:l.all rOk=false:=by
    cases ha:l.all rOk with
    |false=>rfl
    |true=>rw [List.all_eq_true.1 ha t hmem] at hq;cases hq
   rw [hbad]
   repeat' first|refine auS ?_|(with_reducible refine z0 hr ?_)|refine auD ?_|(refine auW ?_ ?_<;>intro h<;>try exact auH)|(simp only [Int.toNat_natCast,ex,List.length_map])
   all_goals try exact auP
   all_goals first
    |(exfalso;simp_all;done)
    |skip
   all_goals refine auV ?_
   all_goals try exact z8
   all_goals try simp only [hsM] at *
   all_goals rfl
  |true=>
   rw [hq] at hr
   repeat' first|refine auS ?_|(with_reducible refine z0 hr ?_)|refine auD ?_|(refine auW ?_ ?_<;>intro h<;>try exact auH)|(simp only [Int.toNat_natCast,ex,List.length_map])
   all_goals try exact auP
   all_goals first
    |(exfalso;simp_all;done)
    |skip
   refine za ⟨(k+1,gn+1),⟨hlt,fun y hy=>?_⟩,Nat.sub_lt_sub_left hlt (Nat.lt_succ_self k),?_⟩
   ·rw [ox ht] at hy
    rcases List.mem_append.1 hy with hy|hy
    ·exact hp y hy
    ·simp at hy;rw [hy];exact hq
   refine zb ?_ ?_ (Nat.le_refl _)
   all_goals first|refine auE ?_|exact zi
   all_goals repeat' first|exact trivial|exact rfl|apply And.intro
   all_goals exact zB ((IntWalk.i64_in _ (by omega)).trans (by omega))
 ·obtain rfl:k=l.length:=by omega
  rw [List.take_length] at hp
  have hall:l.all rOk=true:=List.all_eq_true.2 hp
  rw [hall]
  repeat' first|refine auS ?_|fail|refine auD ?_|(refine auW ?_ ?_<;>intro h<;>try exact auH)|(simp only [List.length_map])
  all_goals try exact auP
  all_goals refine auV ?_
  all_goals try exact z8
  all_goals try simp only [hsM] at *
  all_goals rfl
set_option maxHeartbeats 1000000 in
theorem sY (l:List Rl) (c:Bool) (hl:l.length≤maxLen) (hw:∀r∈l,r.wf):zd Tryz.prog 67 [.snap 10 (l.map Rl.enc) c] (.v (.int .i64 (um l))):=by
 unfold maxLen at hl
 by_cases h64:64<l.length
 ·have he:um l=2:=by unfold um;rw [if_pos h64]
  rw [he]
  refine z4 {} 0 Tryz.func67 fun Γ hW=>auC ?_
  repeat' first|refine auS ?_|fail|refine auD ?_|(refine auW ?_ ?_<;>intro h<;>try exact auH)|(simp only [List.length_map])
  all_goals try exact auP
  all_goals refine auV ?_
  all_goals try exact z8
  all_goals try simp only [hsM] at *
 have he:um l=if l.all rOk then 0 else 4:=by unfold um;rw [if_neg h64]
 rw [he]
 clear he
 refine z4 {} 0 Tryz.func67 fun Γ hW=>auC ?_
 repeat' first|refine auS ?_|fail|refine auD ?_|(refine auW ?_ ?_<;>intro h<;>try exact auH)|(simp only [List.length_map])
 all_goals try exact auP
 refine ze (α:=Nat×Nat) (fun x=>[(⟨.d0,.d1,.d2⟩,.v (.int .i64 (x.1:Nat)))]) (fun _=>[(0,none)]) (fun x=>x.2) (fun x=>l.length-x.1) (fun x=>x.1≤l.length∧∀y∈l.take x.1,rOk y=true) (0,Γ.g0) ⟨Nat.zero_le _,fun y hy=>by simp at hy⟩ ?_ ?_
 ·skip
  refine zb ?_ ?_ (Nat.le_refl _)
  all_goals first|refine auE ?_|exact zi
  all_goals repeat' first|exact trivial|exact rfl|apply And.intro
 rintro ⟨k,gn⟩ ⟨hk,hp⟩
 dsimp only at hk hp ⊢
 refine auL ?_
 by_cases hlt:k<l.length
 ·obtain ⟨t,ht⟩:∃t,l[k]?=some t:=⟨_,List.getElem?_eq_getElem hlt⟩
  have ex:=nL ht
  have hmem:=List.mem_of_getElem? ht
  have hr:=lR t (hw t hmem)
  cases hq:rOk t with
  |false=>
   rw [hq] at hr
   have hbad:l.all rOk=false:=by
    cases ha:l.all rOk with
    |false=>rfl
    |true=>rw [List.all_eq_true.1 ha t hmem] at hq;cases hq
   rw [hbad]
   repeat' first|refine auS ?_|(with_reducible refine z0 hr ?_)|refine auD ?_|(refine auW ?_ ?_<;>intro h<;>try exact auH)|(simp only [Int.toNat_natCast,ex,List.length_map])
   all_goals try exact auP
   all_goals first
    |(exfalso;simp_all;done)
    |skip
   all_goals refine auV ?_
   all_goals try exact z8
   all_goals try simp only [hsM] at *
   all_goals rfl
  |true=>
   rw [hq] at hr
   repeat' first|refine auS ?_|(with_reducible refine z0 hr ?_)|refine auD ?_|(refine auW ?_ ?_<;>intro h<;>try exact auH)|(simp only [Int.toNat_natCast,ex,List.length_map])
   all_goals try exact auP
   all_goals first
    |(exfalso;simp_all;done)
    |skip
   refine za ⟨(k+1,gn+1),⟨hlt,fun y hy=>?_⟩,Nat.sub_lt_sub_left hlt (Nat.lt_succ_self k),?_⟩
   ·rw [ox ht] at hy
    rcases List.mem_append.1 hy with hy|hy
    ·exact hp y hy
    ·simp at hy;rw [hy];exact hq
   refine zb ?_ ?_ (Nat.le_refl _)
   all_goals first|refine auE ?_|exact zi
   all_goals repeat' first|exact trivial|exact rfl|apply And.intro
   all_goals exact zB ((IntWalk.i64_in _ (by omega)).trans (by omega))
 ·obtain rfl:k=l.length:=by omega
  rw [List.take_length] at hp
  have hall:l.all rOk=true:=List.all_eq_true.2 hp
  rw [hall]
  repeat' first|refine auS ?_|fail|refine auD ?_|(refine auW ?_ ?_<;>intro h<;>try exact auH)|(simp only [List.length_map])
  all_goals try exact auP
  all_goals refine auV ?_
  all_goals try exact z8
  all_goals try simp only [hsM] at *
  all_goals rfl
def fOk (f:Fl):Bool:=decide (0≤f.pr∧f.pr≤255)&&(decide (0≤f.a∧f.a≤65535)&&decide (0≤f.b∧f.b≤65535))
theorem mX (f:Fl):zd Tryz.prog 130 [dFl f] (.v (.bool (fOk f))):=by
 unfold fOk
 refine z4 {} 0 Tryz.func130 fun Γ hW=>auC ?_
 repeat' first|refine auS ?_|(with_reducible refine z0 (z6 _ _ _) ?_)|refine auD ?_|(refine auW ?_ ?_<;>intro h<;>try exact auH)|fail
 all_goals try exact auP
 all_goals refine auV ?_
 all_goals try exact z8
 all_goals try simp only [hsM] at *
 all_goals (refine zQ ?_;first|(simp_all;done)|(simp_all;omega))
abbrev d3 (b:Bool) (i e:Int):DV:=.tup [.v (.bool b),.v (.int .i64 i),.v (.int .i64 e)]
set_option maxHeartbeats 1000000 in
theorem kh {g:FuncId} {caps:List DV} (p:Rl→Bool) (l:List Rl) (c:Bool) (hl:l.length≤maxLen) (hg:∀t∈l,zd Tryz.prog g (.agg (Rl.enc t)::caps) (.v (.bool (p t)))):zd Tryz.prog 154 [.snap 10 (l.map Rl.enc) c,.fn (.func g) [] caps] (.v (.int .i64 (zl p l 0))):=by
 unfold maxLen at hl
 refine z4 {} 0 Tryz.func154 fun Γ hW=>auC ?_
 repeat' first|refine auS ?_|fail|refine auD ?_|(refine auW ?_ ?_<;>intro h<;>try exact auH)|fail
 refine ze (α:=Nat) (fun k=>[(⟨.d0,.d1,.d0⟩,.v (.int .i64 (k:Nat)))]) (fun _=>[]) (fun _=>Γ.g0) (fun k=>l.length-k) (fun k=>k≤l.length∧zl p l 0=zl p (l.drop k) k) 0 ⟨Nat.zero_le _,rfl⟩ ?_ ?_
 ·skip
  refine zb ?_ ?_ (Nat.le_refl _)
  all_goals first|refine auE ?_|exact zi
  all_goals repeat' first|exact trivial|exact rfl|apply And.intro
 ·rintro k ⟨hk,hp⟩
  refine auL ?_
  by_cases hlt:k<l.length
  ·obtain ⟨t,ht⟩:∃t,l[k]?=some t:=⟨_,List.getElem?_eq_getElem hlt⟩
   have ex:=zT Rl.enc l k t ht
   have hgt:=hg t (List.mem_of_getElem? ht)
   rw [List.drop_eq_getElem_cons hlt,show l[k]=t from Option.some.inj ((List.getElem?_eq_getElem hlt).symm.trans ht)] at hp
   repeat' first|refine auS ?_|(with_reducible refine z0 hgt ?_)|refine auD ?_|(refine auW ?_ ?_<;>intro h<;>try exact auH)|(simp only [Int.toNat_natCast,ex])
   all_goals try exact auP
   ·skip
    all_goals refine auV ?_
    all_goals try exact z8
    all_goals try simp only [hsM] at *
    rw [hp]
    simp [zl, *]
   ·refine za ?_
    refine ⟨k+1,⟨Nat.succ_le_of_lt hlt,by rw [hp];simp [zl, *]⟩,Nat.sub_lt_sub_left hlt (Nat.lt_succ_self k),?_⟩
    refine zb ?_ ?_ (Nat.le_refl _)
    all_goals first|refine auE ?_|exact zi
    all_goals repeat' first|exact trivial|exact rfl|apply And.intro
    exact zB ((IntWalk.i64_in _ (by omega)).trans (by omega))
  ·skip
   repeat' first|refine auS ?_|fail|refine auD ?_|(refine auW ?_ ?_<;>intro h<;>try exact auH)|fail
   all_goals try exact auP
   all_goals refine auV ?_
   all_goals try exact z8
   all_goals try simp only [hsM] at *
   obtain rfl:k=l.length:=by omega
   rw [hp,List.drop_length]
   rfl
theorem Za (t:Rl) (f:Fl) (ht:rOk t=true) (hw:t.wf) (hf:f.wf):zd Tryz.prog 155 [dRl t,.rptr [.v (.int .u32 f.ff),.v (.int .u32 f.ft),.v (.int .i64 f.pr),.v (.int .i64 f.a),.v (.int .i64 f.b)]] (.v (.bool (ul t f))):=by
 obtain ⟨⟨h1,h2⟩,-⟩:=ot ht
 have hm:=dp t f hw hf (pm h1) (pm h2)
 refine z4 {} 0 Tryz.func155 fun Γ hW=>auC ?_
 repeat' first|refine auS ?_|(with_reducible refine z0 hm ?_)|refine auD ?_|(refine auW ?_ ?_<;>intro h<;>try exact auH)|fail
 all_goals try exact auP
 all_goals refine auV ?_
 all_goals try exact z8
 all_goals try simp only [hsM] at *
def s5 (l:List Rl) (f:Fl) (ow:Bool):Bool×Int×Int:=
 if ¬um l=0 then (false,0,um l) else if fOk f=false then (false,0,1)
 else match l[(zl (fun t=>ul t f) l 0).toNat]? with
  |some t=>if zl (fun t=>ul t f) l 0 = -1 then (ow,-1,0) else (t.ps,zl (fun t=>ul t f) l 0,0)
  |none=>(ow,-1,0)
theorem kH {l:List Rl} {f:Fl} {ow:Bool} (h0:um l=0) (h1:fOk f=true) (h2:zl (fun t=>ul t f) l 0 = -1):s5 l f ow=(ow,-1,0):=by
 unfold s5
 rw [if_neg (not_not_intro h0),if_neg (by rw [h1];exact fun q=>by cases q),h2]
 split
 ·rw [if_pos rfl]
 ·rfl
theorem cx {l:List Rl} {f:Fl} {ow:Bool} {i:Nat} {t:Rl} (h0:um l=0) (h1:fOk f=true) (h2:l[i]?=some t) (h3:zl (fun t=>ul t f) l 0=(i:Nat)):s5 l f ow=(t.ps,((i:Nat):Int),0):=by
 unfold s5
 rw [if_neg (not_not_intro h0),if_neg (by rw [h1];exact fun q=>by cases q),h3,Int.toNat_natCast,h2]
 dsimp only
 rw [if_neg (by omega)]
set_option maxHeartbeats 2000000 in
theorem iI (l:List Rl) (f:Fl) (ow:Bool) (hl:l.length≤maxLen) (hw:∀r∈l,r.wf) (hf:f.wf):zd Tryz.prog 105 [.snap 10 (l.map Rl.enc) false,dFl f,.v (.bool ow)] (d3 (s5 l f ow).1 (s5 l f ow).2.1 (s5 l f ow).2.2):=by
 have hc:=sJ l false hl hw
 have hb1:=tJ f.a f.a
 have hb2:=tJ f.b f.b
 by_cases h0:um l=0
 rotate_left 1
 ·have hr:s5 l f ow=(false,0,um l):=by unfold s5;rw [if_pos h0]
  rw [hr]
  refine z4 {} 0 Tryz.func105 fun Γ hW=>auC ?_
  repeat' first|(refine zN (zw hW ⟨.d0,.d0,.d4⟩ rfl rfl ⟨rfl,rfl,Nat.succ_pos _⟩) ?_)|refine auS ?_|(with_reducible refine z0 hc ?_)|refine auD ?_|(refine auW ?_ ?_<;>intro h<;>try exact auH)|fail
  all_goals try exact auP
  all_goals refine auV ?_
  all_goals try exact z8
  all_goals try simp only [hsM] at *
 rw [h0] at hc
 by_cases h1:fOk f=true
 rotate_left 1
 ·have h1':fOk f=false:=by simpa using h1
  have hr:s5 l f ow=(false,0,1):=by unfold s5;rw [if_neg (not_not_intro h0),if_pos h1']
  rw [hr]
  unfold fOk at h1'
  unfold o6 at hb1 hb2
  refine z4 {} 0 Tryz.func105 fun Γ hW=>auC ?_
  repeat' first|(refine zN (zw hW ⟨.d0,.d0,.d4⟩ rfl rfl ⟨rfl,rfl,Nat.succ_pos _⟩) ?_)|refine auS ?_|(first|(with_reducible refine z0 hc ?_)|(with_reducible refine z0 hb1 ?_)|(with_reducible refine z0 hb2 ?_))|refine auD ?_|(refine auW ?_ ?_<;>intro h<;>try exact auH)|fail
  all_goals try exact auP
  all_goals first
   |(exfalso;simp_all;omega)
   |skip
  all_goals refine auV ?_
  all_goals try exact z8
  all_goals try simp only [hsM] at *
 have hok:=(c7 h0).2
 have hi:=kh (fun t=>ul t f) l false hl (fun t ht=>Za t f (hok t ht) (hw t ht) hf)
 unfold fOk at h1
 simp only [Bool.and_eq_true,decide_eq_true_eq] at h1
 have h1':fOk f=true:=by unfold fOk;simp only [Bool.and_eq_true,decide_eq_true_eq];exact h1
 have hbt1:o6 f.a f.a=true:=by unfold o6;exact decide_eq_true (by omega)
 have hbt2:o6 f.b f.b=true:=by unfold o6;exact decide_eq_true (by omega)
 rw [hbt1] at hb1
 rw [hbt2] at hb2
 rcases yD (fun t=>ul t f) l 0 with ⟨q1,q2⟩|⟨i,t,q1,q2,q3,q4⟩
 ·rw [kH h0 h1' q1]
  rw [q1] at hi
  refine z4 {} 0 Tryz.func105 fun Γ hW=>auC ?_
  repeat' first|(refine zN (zw hW ⟨.d0,.d0,.d4⟩ rfl rfl ⟨rfl,rfl,Nat.succ_pos _⟩) ?_)|refine auS ?_|(first|(with_reducible refine z0 hc ?_)|(with_reducible refine z0 hb1 ?_)|(with_reducible refine z0 hb2 ?_)|(with_reducible refine z0 hi ?_))|refine auD ?_|(refine auW ?_ ?_<;>intro h<;>try exact auH)|fail
  all_goals try exact auP
  all_goals first
   |(exfalso;simp_all;done)
   |skip
  all_goals refine auV ?_
  all_goals try exact z8
  all_goals try simp only [hsM] at *
 ·rw [Nat.zero_add] at q4
  rw [cx h0 h1' q1 q4]
  rw [q4] at hi
  have ex:=nL q1
  have hlt:=(List.getElem?_eq_some_iff.1 q1).1
  refine z4 {} 0 Tryz.func105 fun Γ hW=>auC ?_
  repeat' first|(refine zN (zw hW ⟨.d0,.d0,.d4⟩ rfl rfl ⟨rfl,rfl,Nat.succ_pos _⟩) ?_)|refine auS ?_|(first|(with_reducible refine z0 hc ?_)|(with_reducible refine z0 hb1 ?_)|(with_reducible refine z0 hb2 ?_)|(with_reducible refine z0 hi ?_))|refine auD ?_|(refine auW ?_ ?_<;>intro h<;>try exact auH)|(simp only [Int.toNat_natCast,ex,List.length_map])
  all_goals try exact auP
  all_goals first
   |(exfalso;simp_all;done)
   |skip
  all_goals refine auV ?_
  all_goals try exact z8
  all_goals try simp only [hsM] at *
set_option maxHeartbeats 2000000 in
theorem pH (l:List Rl) (f:Fl) (ow:Bool) (hl:l.length≤maxLen) (hw:∀r∈l,r.wf) (hf:f.wf):zd Tryz.prog 83 [.snap 10 (l.map Rl.enc) false,dFl f,.v (.bool ow)] (d3 (s5 l f ow).1 (s5 l f ow).2.1 (s5 l f ow).2.2):=by
 have hc:=sY l false hl hw
 have hb1:=mX f
 by_cases h0:um l=0
 rotate_left 1
 ·have hr:s5 l f ow=(false,0,um l):=by unfold s5;rw [if_pos h0]
  rw [hr]
  refine z4 {} 0 Tryz.func83 fun Γ hW=>auC ?_
  repeat' first|refine auS ?_|(with_reducible refine z0 hc ?_)|refine auD ?_|(refine auW ?_ ?_<;>intro h<;>try exact auH)|fail
  all_goals try exact auP
  all_goals refine auV ?_
  all_goals try exact z8
  all_goals try simp only [hsM] at *
 rw [h0] at hc
 by_cases h1:fOk f=true
 rotate_left 1
 ·have h1':fOk f=false:=by simpa using h1
  have hr:s5 l f ow=(false,0,1):=by unfold s5;rw [if_neg (not_not_intro h0),if_pos h1']
  rw [hr]
  rw [h1'] at hb1
  refine z4 {} 0 Tryz.func83 fun Γ hW=>auC ?_
  repeat' first|refine auS ?_|(first|(with_reducible refine z0 hc ?_)|(with_reducible refine z0 hb1 ?_))|refine auD ?_|(refine auW ?_ ?_<;>intro h<;>try exact auH)|fail
  all_goals try exact auP
  all_goals first
   |(exfalso;simp_all;done)
   |skip
  all_goals refine auV ?_
  all_goals try exact z8
  all_goals try simp only [hsM] at *
 rw [h1] at hb1
 obtain ⟨h64,hok⟩:=c7 h0
 have hpr:0≤f.pr∧f.pr≤255:=by
  unfold fOk at h1
  simp only [Bool.and_eq_true,decide_eq_true_eq] at h1
  exact h1.1
 refine z4 {} 0 Tryz.func83 fun Γ hW=>auC ?_
 repeat' first|refine auS ?_|(first|(with_reducible refine z0 hc ?_)|(with_reducible refine z0 hb1 ?_))|refine auD ?_|(refine auW ?_ ?_<;>intro h<;>try exact auH)|(simp only [List.length_map])
 all_goals try exact auP
 all_goals first
  |(exfalso;simp at h;done)
  |skip
 refine ze (α:=Nat×Nat) (fun x=>[(⟨.d0,.d2,.d6⟩,.v (.int .i64 (x.1:Nat)))]) (fun _=>[(1,none)]) (fun x=>x.2) (fun x=>l.length-x.1) (fun x=>x.1≤l.length∧∀y∈l.take x.1,ul y f=false) (0,Γ.g0+1) ⟨Nat.zero_le _,fun y hy=>by simp at hy⟩ ?_ ?_
 ·skip
  refine zb ?_ ?_ (Nat.le_refl _)
  all_goals first|refine auE ?_|exact zi
  all_goals repeat' first|exact trivial|exact rfl|apply And.intro
 rintro ⟨k,gn⟩ ⟨hk,hp⟩
 dsimp only at hk hp ⊢
 refine auL ?_
 by_cases hlt:k<l.length
 ·obtain ⟨t,ht⟩:∃t,l[k]?=some t:=⟨_,List.getElem?_eq_getElem hlt⟩
  have ex:=nL ht
  have hmem:=List.mem_of_getElem? ht
  obtain ⟨⟨n1,n2⟩,-⟩:=ot (hok t hmem)
  have hm:=iZ t f (hw t hmem) hf (pm n1) (pm n2)
  rw [W9 (hok t hmem) (hw t hmem) hf hpr] at hm
  cases hq:ul t f with
  |true=>
   rw [hq] at hm
   have hfi:zl (fun t=>ul t f) l 0=(k:Nat):=by
    rcases yD (fun t=>ul t f) l 0 with ⟨q1,q2⟩|⟨i,u,q1,q2,q3,q4⟩
    ·rw [q2 t hmem] at hq;cases hq
    ·rw [q4,Nat.zero_add]
     have:i=k:=by
      rcases Nat.lt_trichotomy i k with h|h|h
      ·have:=hp u (List.mem_of_getElem? (by rw [List.getElem?_take_of_lt h];exact q1))
       rw [this] at q2;cases q2
      ·exact h
      ·have:=q3 t (List.mem_of_getElem? (by rw [List.getElem?_take_of_lt h];exact ht))
       rw [hq] at this;cases this
     rw [this]
   rw [cx h0 h1 ht hfi]
   repeat' first|refine auS ?_|(with_reducible refine z0 hm ?_)|refine auD ?_|(refine auW ?_ ?_<;>intro h<;>try exact auH)|(simp only [Int.toNat_natCast,ex,List.length_map])
   all_goals try exact auP
   all_goals refine auV ?_
   all_goals try exact z8
   all_goals try simp only [hsM] at *
  |false=>
   rw [hq] at hm
   repeat' first|refine auS ?_|(with_reducible refine z0 hm ?_)|refine auD ?_|(refine auW ?_ ?_<;>intro h<;>try exact auH)|(simp only [Int.toNat_natCast,ex,List.length_map])
   all_goals try exact auP
   refine za ⟨(k+1,gn+1),⟨hlt,fun y hy=>?_⟩,Nat.sub_lt_sub_left hlt (Nat.lt_succ_self k),?_⟩
   ·rw [ox ht] at hy
    rcases List.mem_append.1 hy with hy|hy
    ·exact hp y hy
    ·simp at hy;rw [hy];exact hq
   refine zb ?_ ?_ (Nat.le_refl _)
   all_goals first|refine auE ?_|exact zi
   all_goals repeat' first|exact trivial|exact rfl|apply And.intro
   all_goals exact zB ((IntWalk.i64_in _ (by omega)).trans (by omega))
 ·obtain rfl:k=l.length:=by omega
  rw [List.take_length] at hp
  rw [kH h0 h1 (sM _ l 0 hp)]
  repeat' first|refine auS ?_|fail|refine auD ?_|(refine auW ?_ ?_<;>intro h<;>try exact auH)|(simp only [List.length_map])
  all_goals try exact auP
  all_goals refine auV ?_
  all_goals try exact z8
  all_goals try simp only [hsM] at *
end Go.Proofs.YtmibknbmhcnemaaGreatDoor.R
namespace Go.Proofs.YtmibknbmhcnemaaGreatDoor.R
attribute [local irreducible] zF Go
set_option maxRecDepth 100000
open A (pOk pE xj xL)
structure Pl where
 (ou lt st lf ra mo:Int) (rs:List Rl) (el:Bool)
deriving DecidableEq
abbrev Pl.enc (p:Pl) (d:DV):List DV:=[.v (.int .u32 p.ou),.v (.int .i64 p.lt),.v (.int .i64 p.st),.v (.int .i64 p.lf),.v (.int .i64 p.ra),.v (.int .i64 p.mo),d,.v (.bool p.el)]
abbrev dPl (p:Pl) (c:Bool):DV:=.agg (p.enc (.snap 10 (p.rs.map Rl.enc) c))
def Pl.wf (p:Pl):Prop:=(0≤p.ou∧p.ou<4294967296)∧∀r∈p.rs,r.wf
def WQ (p:Pl):Bool:=pOk p.lt&&(pOk p.st&&(decide (1≤p.lf∧p.lf≤1000000)&&(decide (0≤p.ra∧p.ra≤1000000)&&decide (1≤p.mo∧p.mo≤1000000000))))
def plE (p:Pl):Int:=if WQ p=true then um p.rs else 1
theorem WU (b:Int):decide (pE b=0)=pOk b:=by unfold pE;split<;>simp_all
set_option maxHeartbeats 1000000 in
theorem mw (p:Pl) (c:Bool) (hp:p.wf) (hl:p.rs.length≤maxLen):zd Tryz.prog 34 [dPl p c] (.v (.int .i64 (plE p))):=by
 have h1:=xj p.lt 0
 have h2:=xj p.st 0
 have h3:=sJ p.rs c hl hp.2
 have e1:=WU p.lt
 have e2:=WU p.st
 unfold plE WQ
 generalize pOk p.lt=b1 at *
 generalize pOk p.st=b2 at *
 generalize pE p.lt=E1 at *
 generalize pE p.st=E2 at *
 generalize um p.rs=E3 at *
 refine z4 {} 0 Tryz.func34 fun Γ hW=>auC ?_
 repeat' first|refine auS ?_|(first|(with_reducible refine z0 h1 ?_)|(with_reducible refine z0 h2 ?_)|(with_reducible refine z0 h3 ?_))|refine auD ?_|(refine auW ?_ ?_<;>intro h<;>try exact auH)|fail
 all_goals try exact auP
 all_goals refine auV ?_
 all_goals try exact z8
 all_goals try simp only [hsM] at *
 all_goals (refine zB ?_;subst e1;subst e2)
 all_goals first
  |(rw [if_pos (show _ by refine ⟨decide_eq_true (by omega),decide_eq_true (by omega),?_⟩;omega)];done)
  |(rw [if_neg (show ¬_ by rintro ⟨q1,q2,q3⟩;have q4:=of_decide_eq_true q1;have q5:=of_decide_eq_true q2;omega)];done)
set_option maxHeartbeats 1000000 in
theorem mS (p:Pl) (c:Bool) (hp:p.wf) (hl:p.rs.length≤maxLen):zd Tryz.prog 36 [dPl p c] (.v (.int .i64 (plE p))):=by
 have h1:=xL p.lt 0
 have h2:=xL p.st 0
 have h3:=sY p.rs c hl hp.2
 have e1:=WU p.lt
 have e2:=WU p.st
 unfold plE WQ
 generalize pOk p.lt=b1 at *
 generalize pOk p.st=b2 at *
 generalize pE p.lt=E1 at *
 generalize pE p.st=E2 at *
 generalize um p.rs=E3 at *
 refine z4 {} 0 Tryz.func36 fun Γ hW=>auC ?_
 repeat' first|refine auS ?_|(first|(with_reducible refine z0 h1 ?_)|(with_reducible refine z0 h2 ?_)|(with_reducible refine z0 h3 ?_)|(with_reducible refine z0 (z6 _ _ _) ?_))|refine auD ?_|(refine auW ?_ ?_<;>intro h<;>try exact auH)|fail
 all_goals try exact auP
 all_goals refine auV ?_
 all_goals try exact z8
 all_goals try simp only [hsM] at *
 all_goals (refine zB ?_;subst e1;subst e2)
 all_goals first
  |(rw [if_pos (show _ by refine ⟨decide_eq_true (by omega),decide_eq_true (by omega),?_⟩;omega)];done)
  |(rw [if_neg (show ¬_ by rintro ⟨q1,q2,q3⟩;have q4:=of_decide_eq_true q1;have q5:=of_decide_eq_true q2;omega)];done)
end Go.Proofs.YtmibknbmhcnemaaGreatDoor.R
namespace Go.Proofs.YtmibknbmhcnemaaGreatDoor.B
open Go.RowKit
def wA (r m h a:Int):Int:=if r<0∨1000000<r∨m<1∨1000000000<m then 1 else if h<0∨m<h∨a<0∨1099511627776<a then 4 else 0
theorem vg {r m h a:Int} (e:wA r m h a=0):0≤r∧r≤1000000∧1≤m∧m≤1000000000∧0≤h∧h≤m∧0≤a∧a≤1099511627776:=by
 unfold wA at e
 split at e
 ·omega
 split at e
 ·omega
 omega
def ye (r m x a now:Int):Int:=min m (x+r*min (now-a) 1000000000)
theorem ce {r t:Int} (h1:0≤r) (h2:r≤1000000) (h3:0≤t) (h4:t≤1000000000):0≤r*t∧r*t≤1000000000000000:=
 ⟨Int.mul_nonneg h1 h3,by have:=Int.mul_le_mul h2 h4 h3 (by omega);omega⟩
def xC (r m x a now n:Int):Int:=if wA r m x a≠0 then wA r m x a else if now<a∨1099511627776<now∨n<0∨1000000000<n then 1 else 0
def vz (r m x a now n:Int):Int:=if ye r m x a now<n then ye r m x a now else ye r m x a now-n
theorem qe {r m x a now:Int} (h:wA r m x a=0) (h1:a≤now):0≤ye r m x a now∧ye r m x a now≤m:=by
 have hk:=vg h
 have hp:=ce (r:=r) (t:=min (now-a) 1000000000) hk.1 hk.2.1 (by omega) (by omega)
 unfold ye
 omega
theorem X8 {r t v:Int} (hr:0<r) (h:(v+r-1) / r≤t):v≤r*t:=by
 have h1:=Int.mul_ediv_add_emod (v+r-1) r
 have h2:=Int.emod_nonneg (v+r-1) (by omega:r≠0)
 have h3:=Int.emod_lt_of_pos (v+r-1) hr
 have h4:=Int.mul_le_mul_of_nonneg_left h (by omega:0≤r)
 omega
theorem WN {r t v:Int} (hr:0<r) (h:¬(v+r-1) / r≤t):r*t<v:=by
 have h1:=Int.mul_ediv_add_emod (v+r-1) r
 have h2:=Int.emod_nonneg (v+r-1) (by omega:r≠0)
 have h4:=Int.mul_le_mul_of_nonneg_left (show t+1≤(v+r-1) / r by omega) (by omega:0≤r)
 rw [Int.mul_add] at h4
 omega
theorem gp {r m x a now:Int} (h:wA r m x a=0) (h1:a≤now) (hr:0<r) (hc:(m-x+r-1) / r≤now-a):ye r m x a now=m:=by
 have hk:=vg h
 have h2:=X8 hr hc
 have h3:m-x≤r*1000000000:=by
  have:=Int.mul_le_mul_of_nonneg_right (show 1≤r by omega) (show (0:Int)≤1000000000 by omega)
  omega
 unfold ye
 rcases Int.le_total (now-a) 1000000000 with h4|h4
 ·rw [Int.min_eq_left h4];omega
 ·rw [Int.min_eq_right h4];omega
theorem oQ {r m x a now:Int} (h:wA r m x a=0) (h1:a≤now) (hc:¬(0<r∧(m-x+r-1) / r≤now-a)):ye r m x a now=x+r*(now-a)∧0≤r*(now-a)∧r*(now-a)≤1000000000:=by
 have hk:=vg h
 by_cases hr:0<r
 ·have h2:=WN (v:=m-x) (t:=now-a) hr (fun h=>hc ⟨hr,h⟩)
  have h3:now-a≤r*(now-a):=by
   have:=Int.mul_le_mul_of_nonneg_right (show 1≤r by omega) (show (0:Int)≤now-a by omega)
   omega
  have h0:=Int.mul_nonneg hk.1 (show (0:Int)≤now-a by omega)
  unfold ye
  rw [Int.min_eq_left (show now-a≤1000000000 by omega)]
  omega
 ·obtain rfl:r=0:=by omega
  unfold ye
  simp only [Int.zero_mul]
  omega
end Go.Proofs.YtmibknbmhcnemaaGreatDoor.B
namespace Go.Proofs.YtmibknbmhcnemaaGreatDoor.B
attribute [local irreducible] zF Go
set_option maxRecDepth 100000
theorem gi {a b c d e f:DV} (h1:a=d) (h2:b=e) (h3:c=f):DV.tup [a,b,c]=DV.tup [d,e,f]:=by rw [h1,h2,h3]
abbrev bB (r m x a:Int):DV:=.agg [.v (.int .i64 r),.v (.int .i64 m),.v (.int .i64 x),.v (.int .i64 a)]
set_option maxHeartbeats 400000 in
theorem nh (r m x a:Int):zd Tryz.prog 43 [bB r m x a] (.v (.int .i64 (wA r m x a))):=by
 refine z4 {} 0 Tryz.func43 fun Γ hW=>auC ?_
 skip
 repeat' first|refine auS ?_|fail|refine auD ?_|(refine auW ?_ ?_<;>intro h<;>try exact auH)|fail
 all_goals refine auV ?_
 all_goals try exact z8
 all_goals try simp only [hsM] at *
 all_goals (refine zB ?_;simp only [wA];split<;>(try split)<;>omega)
set_option maxHeartbeats 400000 in
theorem z6 (n lo hi:Int):zd Tryz.prog 48 [.v (.int .i64 n),.v (.int .i64 lo),.v (.int .i64 hi)] (.v (.bool (decide (lo≤n∧n≤hi)))):=by
 refine z4 {} 0 Tryz.func48 fun Γ hW=>auC ?_
 repeat' first|refine auS ?_|fail|refine auD ?_|(refine auW ?_ ?_<;>intro h<;>try exact auH)|fail
 all_goals refine auV ?_
 all_goals try exact z8
 all_goals try simp only [hsM] at *
 ·exact zQ (by simp [h])
 ·exact zQ (by simp [h])
set_option maxHeartbeats 400000 in
theorem ng (r m x a:Int):zd Tryz.prog 47 [bB r m x a] (.v (.int .i64 (wA r m x a))):=by
 refine z4 {} 0 Tryz.func47 fun Γ hW=>auC ?_
 skip
 repeat' first|refine auS ?_|(with_reducible refine z0 (z6 _ _ _) ?_)|refine auD ?_|(refine auW ?_ ?_<;>intro h<;>try exact auH)|fail
 all_goals refine auV ?_
 all_goals try exact z8
 all_goals try simp only [hsM] at *
 all_goals (refine zB ?_;simp only [wA];split<;>(try split)<;>omega)
set_option maxHeartbeats 400000 in
theorem hP (r m x a now:Int) (hb:wA r m x a=0) (h1:a≤now) (h2:now≤1099511627776):zd Tryz.prog 151 [bB r m x a,.v (.int .i64 now)] (.v (.int .i64 (ye r m x a now))):=by
 have hk:=vg hb
 have hp:=ce (r:=r) (t:=min (now-a) 1000000000) hk.1 hk.2.1 (by omega) (by omega)
 refine z4 {} 0 Tryz.func151 fun Γ hW=>auC ?_
 skip
 repeat' first|refine auS ?_|fail|refine auD ?_|(refine auW ?_ ?_<;>intro h<;>try exact auH)|fail
 all_goals refine auV ?_
 all_goals try exact z8
 all_goals try simp only [hsM] at *
 refine zB ?_
 rw [IntWalk.i64_in (now-a) (by omega),IntWalk.i64_in (r*min (now-a) 1000000000) (by omega),IntWalk.i64_in (x+r*min (now-a) 1000000000) (by omega)]
 rfl
set_option maxHeartbeats 400000 in
theorem fI (r m x a now:Int) (hb:wA r m x a=0) (h1:a≤now) (h2:now≤1099511627776):zd Tryz.prog 172 [bB r m x a,.v (.int .i64 now)] (.v (.int .i64 (ye r m x a now))):=by
 have hk:=vg hb
 refine z4 {} 0 Tryz.func172 fun Γ hW=>auC ?_
 repeat' first|refine auS ?_|fail|refine auD ?_|(refine auW ?_ ?_<;>intro h<;>try exact auH)|fail
 all_goals refine auV ?_
 all_goals try exact z8
 all_goals try simp only [hsM] at *
 ·rename_i hr
  have hdv:(m-x+r-1).tdiv r=(m-x+r-1) / r:=Int.tdiv_eq_ediv_of_nonneg (by omega)
  have hq0:0≤(m-x+r-1) / r:=Int.ediv_nonneg (by omega) (by omega)
  have hq1:(m-x+r-1) / r≤m-x+r-1:=Int.ediv_le_self _ (by omega)
  rw [IntWalk.i64_in (m-x) (by omega),IntWalk.i64_in (m-x+r) (by omega),IntWalk.i64_in (m-x+r-1) (by omega),hdv,IntWalk.i64_in ((m-x+r-1) / r) (by omega),IntWalk.i64_in (now-a) (by omega)] at h
  exact zB (gp hb h1 hr h).symm
 ·rename_i hr
  have hdv:(m-x+r-1).tdiv r=(m-x+r-1) / r:=Int.tdiv_eq_ediv_of_nonneg (by omega)
  have hq0:0≤(m-x+r-1) / r:=Int.ediv_nonneg (by omega) (by omega)
  have hq1:(m-x+r-1) / r≤m-x+r-1:=Int.ediv_le_self _ (by omega)
  rw [IntWalk.i64_in (m-x) (by omega),IntWalk.i64_in (m-x+r) (by omega),IntWalk.i64_in (m-x+r-1) (by omega),hdv,IntWalk.i64_in ((m-x+r-1) / r) (by omega),IntWalk.i64_in (now-a) (by omega)] at h
  obtain ⟨e1,e2,e3⟩:=oQ hb h1 (fun q=>h q.2)
  rw [e1,IntWalk.i64_in (now-a) (by omega),IntWalk.i64_in (r*(now-a)) (by omega),IntWalk.i64_in (x+r*(now-a)) (by omega)]
 ·obtain ⟨e1,e2,e3⟩:=oQ hb h1 (fun q=>h q.1)
  rw [e1,IntWalk.i64_in (now-a) (by omega),IntWalk.i64_in (r*(now-a)) (by omega),IntWalk.i64_in (x+r*(now-a)) (by omega)]
def btD (r m x a now n:Int):DV:=if xC r m x a now n=0 then bB r m (vz r m x a now n) now else bB 0 0 0 0
set_option maxHeartbeats 400000 in
theorem qz (r m x a now n:Int):zd Tryz.prog 103 [bB r m x a,.v (.int .i64 now),.v (.int .i64 n)] (.tup [btD r m x a now n,.v (.bool (decide (xC r m x a now n=0)&&decide (n≤ye r m x a now))),.v (.int .i64 (xC r m x a now n))]):=by
 refine z4 {} 0 Tryz.func103 fun Γ hW=>auC ?_
 repeat' first|refine auS ?_|(first|(with_reducible refine z0 (nh r m x a) ?_)|(with_reducible refine z0 (hP r m x a now (by (simp only [hsL,reduceCtorEq] at *<;>omega)) (by (simp only [hsL,reduceCtorEq] at *<;>omega)) (by (simp only [hsL,reduceCtorEq] at *<;>omega))) ?_))|refine auD ?_|(refine auW ?_ ?_<;>intro h<;>try exact auH)|fail
 all_goals refine auV ?_
 all_goals try exact z8
 all_goals try simp only [hsM] at *
 all_goals first
  |(have e:xC r m x a now n=1:=by unfold xC;rw [if_neg (by omega),if_pos (by omega)]
    exact gi (by unfold btD;rw [e];rfl) (zQ (by rw [e];rfl)) (zB e.symm))
  |(have hb0:wA r m x a≠0:=by assumption
    have e:xC r m x a now n=wA r m x a:=by unfold xC;rw [if_pos hb0]
    exact gi (by unfold btD;rw [e,if_neg hb0]) (zQ (by rw [e,decide_eq_false hb0];rfl)) (zB e.symm))
  |(have hb0:wA r m x a=0:=by assumption
    have hl:=qe (now:=now) hb0 (by omega)
    have hk:=vg hb0
    have e:xC r m x a now n=0:=by unfold xC;rw [if_neg (by omega),if_neg (by omega)]
    have hn:ye r m x a now<n:=by omega
    exact gi (by unfold btD vz;rw [e,if_pos rfl,if_pos hn]) (zQ (by rw [e];first|rfl|(rw [decide_eq_false (show ¬n≤ye r m x a now by omega)];rfl))) (zB e.symm))
  |(have hb0:wA r m x a=0:=by assumption
    have hl:=qe (now:=now) hb0 (by omega)
    have hk:=vg hb0
    have e:xC r m x a now n=0:=by unfold xC;rw [if_neg (by omega),if_neg (by omega)]
    have hn:¬ye r m x a now<n:=by omega
    exact gi (by unfold btD vz;rw [e,if_pos rfl,if_neg hn,IntWalk.i64_in (ye r m x a now-n) (by omega)]) (zQ (by rw [e];first|rfl|(rw [decide_eq_true (show n≤ye r m x a now by omega)];rfl))) (zB e.symm))
set_option maxHeartbeats 400000 in
theorem fh (r m x a now n:Int):zd Tryz.prog 129 [bB r m x a,.v (.int .i64 now),.v (.int .i64 n)] (.tup [btD r m x a now n,.v (.bool (decide (xC r m x a now n=0)&&decide (n≤ye r m x a now))),.v (.int .i64 (xC r m x a now n))]):=by
 refine z4 {} 0 Tryz.func129 fun Γ hW=>auC ?_
 repeat' first|refine auS ?_|(first|(with_reducible refine z0 (ng r m x a) ?_)|(with_reducible refine z0 (z6 _ _ _) ?_)|(with_reducible refine z0 (fI r m x a now (by (simp only [hsL,reduceCtorEq] at *<;>omega)) (by (simp only [hsL,reduceCtorEq] at *<;>omega)) (by (simp only [hsL,reduceCtorEq] at *<;>omega))) ?_))|refine auD ?_|(refine auW ?_ ?_<;>intro h<;>try exact auH)|fail
 all_goals refine auV ?_
 all_goals try exact z8
 all_goals try simp only [hsM] at *
 all_goals first
  |(have e:xC r m x a now n=1:=by unfold xC;rw [if_neg (by omega),if_pos (by omega)]
    exact gi (by unfold btD;rw [e];rfl) (zQ (by rw [e];rfl)) (zB e.symm))
  |(have hb0:wA r m x a≠0:=by assumption
    have e:xC r m x a now n=wA r m x a:=by unfold xC;rw [if_pos hb0]
    exact gi (by unfold btD;rw [e,if_neg hb0]) (zQ (by rw [e,decide_eq_false hb0];rfl)) (zB e.symm))
  |(have hb0:wA r m x a=0:=by assumption
    have hl:=qe (now:=now) hb0 (by omega)
    have hk:=vg hb0
    have e:xC r m x a now n=0:=by unfold xC;rw [if_neg (by omega),if_neg (by omega)]
    have hn:ye r m x a now<n:=by omega
    exact gi (by unfold btD vz;rw [e,if_pos rfl,if_pos hn]) (zQ (by rw [e];first|rfl|(rw [decide_eq_false (show ¬n≤ye r m x a now by omega)];rfl))) (zB e.symm))
  |(have hb0:wA r m x a=0:=by assumption
    have hl:=qe (now:=now) hb0 (by omega)
    have hk:=vg hb0
    have e:xC r m x a now n=0:=by unfold xC;rw [if_neg (by omega),if_neg (by omega)]
    have hn:¬ye r m x a now<n:=by omega
    exact gi (by unfold btD vz;rw [e,if_pos rfl,if_neg hn,IntWalk.i64_in (ye r m x a now-n) (by omega)]) (zQ (by rw [e];first|rfl|(rw [decide_eq_true (show n≤ye r m x a now by omega)];rfl))) (zB e.symm))
end Go.Proofs.YtmibknbmhcnemaaGreatDoor.B
namespace Go.Proofs.YtmibknbmhcnemaaGreatDoor
structure Mt where
 (ad ra mo hs tm:Int)
deriving DecidableEq
abbrev Mt.enc (m:Mt):List DV:=[.v (.int .u32 m.ad),.v (.int .i64 m.ra),.v (.int .i64 m.mo),.v (.int .i64 m.hs),.v (.int .i64 m.tm)]
structure Nt where
 (l b1:Int) (t1:Nat) (b2:Int) (t2:Nat) (ms:List A.Mp)
abbrev Nt.enc (n:Nt):List DV:=A.rNt n.l n.b1 n.t1 n.b2 n.t2 n.ms
structure Hs where
 (p:R.Pl) (ms:List Mt) (tr:List T.Tk) (n:Nt)
abbrev Hs.row (h:Hs) (d:DV):List DV:=[.v (.int .u32 h.p.ou),.v (.int .i64 h.p.lt),.v (.int .i64 h.p.st),.v (.int .i64 h.p.lf),.v (.int .i64 h.p.ra),.v (.int .i64 h.p.mo),.snap 10 (h.p.rs.map R.Rl.enc) false,.v (.bool h.p.el),d,.snap 7 (h.tr.map T.Tk.enc) false,
 .v (.int .i64 h.n.l),.v (.int .i64 h.n.b1),.v (.int .u64 (h.n.t1:Int)),.v (.int .i64 h.n.b2),.v (.int .u64 (h.n.t2:Int)),.snap 5 (h.n.ms.map A.Mp.enc) false]
abbrev msD (l:List Mt):DV:=.snap 5 (l.map Mt.enc) false
abbrev dH (h:Hs):DV:=.agg (h.row (msD h.ms))
structure Nt.wf (n:Nt):Prop where
 t1:n.t1<18446744073709551616
 t2:n.t2<18446744073709551616
 ms:n.ms.length*40≤140737488351232
 ad:∀m∈n.ms,0≤m.ad∧m.ad<4294967296
theorem Nt.wf.mm {n:Nt} (h:n.wf):zZ n.ms.length 40:=by
 have:=h.ms
 unfold zZ maxLen
 omega
structure Hs.wf (h:Hs):Prop where
 p:h.p.wf
 rs:zZ h.p.rs.length 80
 ms:zZ h.ms.length 40
 tr:zZ h.tr.length 48
 n:h.n.wf
def hs0:Hs:=⟨⟨0,0,0,0,0,0,[],false⟩,[],[],⟨0,0,0,0,0,[]⟩⟩
def u0 (ra mo:Int) (pre:List Mt) (m:Mt):Bool:=decide (B.wA m.ra m.mo m.hs m.tm=0)&&(decide (m.ra=ra)&&(decide (m.mo=mo)&&pre.all fun y=>!(decide (m.tm<y.tm)) && !(decide (y.ad=m.ad))))
def ki (n:Nt):Int:=A.zI n.l n.b1 n.t1 n.b2 n.t2 n.ms
def pV (h:Hs):Bool:=decide (h.ms.length≤64)&&(decide (h.n.l=h.p.lf)&&(decide (h.n.b1=h.p.lt)&&decide (h.n.b2=h.p.st)))
def rc (h:Hs):Int:=if R.plE h.p≠0 then R.plE h.p else if T.y8 h.tr≠0 then T.y8 h.tr else if ki h.n≠0 then ki h.n else if pV h&&yb (u0 h.p.ra h.p.mo) [] h.ms then 0 else 4
def wj (l:List Mt):Int:=match l[l.length-1]? with|some m=>m.tm|none=>0
def xW (h:Hs):Int:=max (max (wj h.ms) (T.yE h.tr)) (A.zJ h.n.ms)
theorem ZS {ra mo:Int} {l:List Mt} {k:Nat} {t:Mt} (ht:l[k]?=some t) (hs:∀y∈l.take k,∀z,l[k-1]?=some z→y.tm≤z.tm) :
  u0 ra mo (l.take k) t=true↔B.wA t.ra t.mo t.hs t.tm=0∧t.ra=ra∧t.mo=mo∧(∀z,0<k→l[k-1]?=some z→z.tm≤t.tm)∧zl (fun y:Mt=>decide (y.ad=t.ad)) l 0=k:=by
 have hk:k<l.length:=(List.getElem?_eq_some_iff.1 ht).1
 have hf:=tD (fun y:Mt=>decide (y.ad=t.ad)) t (by simp) (l.drop (k+1)) (l.take k) 0
 have hl:l.take k++t::l.drop (k+1)=l:=by
  rw [←Option.some.inj ((List.getElem?_eq_getElem hk).symm.trans ht),←List.drop_eq_getElem_cons hk,List.take_append_drop]
 rw [hl,List.length_take,Nat.min_eq_left (Nat.le_of_lt hk),Nat.zero_add] at hf
 rw [hf]
 unfold u0
 simp only [Bool.and_eq_true,List.all_eq_true,Bool.not_eq_true',decide_eq_false_iff_not,decide_eq_true_eq]
 constructor
 ·rintro ⟨h1,h2,h3,h4⟩
  refine ⟨h1,h2,h3,fun z h0 hz=>?_,fun y hy=>(h4 y hy).2⟩
  have hz':z∈l.take k:=List.mem_iff_getElem?.2 ⟨k-1,by rw [List.getElem?_take,if_pos (by omega)];exact hz⟩
  have:=(h4 z hz').1
  omega
 ·rintro ⟨h1,h2,h3,h4,h5⟩
  refine ⟨h1,h2,h3,fun y hy=>⟨?_,h5 y hy⟩⟩
  have h0:0<k:=by
   rcases Nat.eq_zero_or_pos k with rfl|h
   ·simp at hy
   ·exact h
  obtain ⟨z,hz⟩:∃z,l[k-1]?=some z:=⟨_,List.getElem?_eq_getElem (by omega)⟩
  have:=hs y hy z hz
  have:=h4 z h0 hz
  omega
theorem Wf {ra mo:Int} {l:List Mt} {k:Nat} {t:Mt} (ht:l[k]?=some t) (hok:u0 ra mo (l.take k) t=true):∀y∈l.take (k+1),∀z,l[k+1-1]?=some z→y.tm≤z.tm:=by
 intro y hy z hz
 rw [Nat.add_sub_cancel,ht] at hz
 obtain rfl:=Option.some.inj hz
 rw [List.take_add_one,ht] at hy
 rcases List.mem_append.1 hy with hy|hy
 ·unfold u0 at hok
  simp only [Bool.and_eq_true,List.all_eq_true,Bool.not_eq_true',decide_eq_false_iff_not] at hok
  have:=(hok.2.2.2 y hy).1
  omega
 ·simp at hy
  rw [hy]
  exact Int.le_refl _
theorem uw {l:List Mt} {k:Nat} {t:Mt} (ht:l[k]?=some t):ym (l.map Mt.enc) k=t.enc:=zT Mt.enc l k t ht
end Go.Proofs.YtmibknbmhcnemaaGreatDoor
