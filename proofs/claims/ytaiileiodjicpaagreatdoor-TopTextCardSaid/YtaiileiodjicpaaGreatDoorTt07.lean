import Derived.Test.YtaiileiodjicpaaGreatDoorTt05
import Derived.Test.YtaiileiodjicpaaGreatDoorTt06
set_option linter.unusedVariables false
set_option linter.unusedSimpArgs false
namespace Go.Proofs.YtaiileiodjicpaaGreatDoor.R
attribute [local irreducible] zF Go
set_option maxRecDepth 100000
theorem cA (k:Nat):(2:Int) ^ k=((2 ^ k:Nat):Int):=by simp
def rK (a l:Int):Bool:=decide (0≤l∧l≤32)&&decide (a.toNat % 2 ^ (32-l.toNat)=0)
abbrev dNt (a l:Int):DV:=.agg [.v (.int .u32 a),.v (.int .i64 l)]
end Go.Proofs.YtaiileiodjicpaaGreatDoor.R
namespace Go.Proofs.YtaiileiodjicpaaGreatDoor.R
attribute [local irreducible] zF Go
set_option maxRecDepth 100000
theorem Yi (A L:Nat) (hL:L≤32):(A*2 ^ L) % 4294967296=0↔A % 2 ^ (32-L)=0:=by
 have h:4294967296=2 ^ (32-L)*2 ^ L:=by rw [←Nat.pow_add,show 32-L+L=32 by omega]
 rw [h,Nat.mul_mod_mul_right]
 have:=Nat.two_pow_pos L
 constructor
 ·intro q
  rcases Nat.mul_eq_zero.1 q with q|q
  ·exact q
  ·omega
 ·intro q;rw [q,Nat.zero_mul]
theorem f0 (a l:Int) (ha:0≤a∧a<4294967296):zi Tryz.prog 82 [dNt a l] (.v (.bool (rK a l))):=by
 obtain ⟨A,rfl⟩:=Int.eq_ofNat_of_zero_le ha.1
 unfold rK
 by_cases hl:0≤l∧l≤32
 ·obtain ⟨L,rfl⟩:=Int.eq_ofNat_of_zero_le hl.1
  have e1:min L IntKind.u32.bits=L:=Nat.min_eq_left (by show L≤32;omega)
  have e2:IntKind.u32.wrap ((A:Int)*2 ^ L)=((A*2 ^ L % 4294967296:Nat):Int):=by rw [IntKind.wrap_u32,cA];simp
  have h3:=Yi A L (by omega)
  have h4:decide (((A*2 ^ L % 4294967296:Nat):Int)=0)=decide (A % 2 ^ (32-L)=0):=decide_eq_decide.2 ⟨fun q=>h3.1 (by omega),fun q=>by rw [h3.2 q];rfl⟩
  rw [decide_eq_true hl,Int.toNat_natCast,Int.toNat_natCast,Bool.true_and]
  refine z7 {} 0 Tryz.func82 fun Γ hW=>auC ?_
  repeat' first|refine auS ?_|(simp only [Int.toNat_natCast,e1,e2,h4])|refine auD ?_|(refine auW ?_ ?_<;>intro h<;>try exact auH)|fail
  all_goals try exact auP
  all_goals refine auV ?_
  all_goals try exact zc
  all_goals try simp only [hsM] at *
 ·rw [decide_eq_false hl,Bool.false_and]
  refine z7 {} 0 Tryz.func82 fun Γ hW=>auC ?_
  repeat' first|refine auS ?_|fail|refine auD ?_|(refine auW ?_ ?_<;>intro h<;>try exact auH)|fail
  all_goals try exact auP
  all_goals refine auV ?_
  all_goals try exact zc
  all_goals try simp only [hsM] at *
theorem Zr (a b:Nat):a ^^^ b=0↔a=b:=by
 constructor
 ·intro h
  apply Nat.eq_of_testBit_eq
  intro i
  have:=congrArg (fun n=>Nat.testBit n i) h
  simp only [Nat.testBit_xor,Nat.zero_testBit] at this
  cases h1:a.testBit i<;>cases h2:b.testBit i<;>simp_all
 ·rintro rfl;exact Nat.xor_self _
def bu (a l x:Int):Bool:=decide (x.toNat / 2 ^ (32-l.toNat)=a.toNat / 2 ^ (32-l.toNat))
theorem iw (a l x:Int) (ha:0≤a∧a<4294967296) (hx:0≤x∧x<4294967296) (hl:0≤l∧l≤32):zi Tryz.prog 161 [dNt a l,.v (.int .u32 x)] (.v (.bool (bu a l x))):=by
 obtain ⟨A,rfl⟩:=Int.eq_ofNat_of_zero_le ha.1
 obtain ⟨L,rfl⟩:=Int.eq_ofNat_of_zero_le hl.1
 obtain ⟨X,rfl⟩:=Int.eq_ofNat_of_zero_le hx.1
 have e0:=u32_xor_nat X A (by omega) (by omega)
 have hlt:X ^^^ A<2 ^ 32:=Nat.xor_lt_two_pow (by omega) (by omega)
 have e1:IntKind.u64.wrap ((X ^^^ A:Nat):Int)=((X ^^^ A:Nat):Int):=yc _ (by omega) (by omega)
 have e2:IntKind.i64.wrap (32-(L:Int))=((32-L:Nat):Int):=by rw [IntWalk.i64_in _ (by omega)];omega
 have e3:min (32-L) IntKind.u64.bits=32-L:=Nat.min_eq_left (by show 32-L≤64;omega)
 have e4:((X ^^^ A:Nat):Int).fdiv (2 ^ (32-L))=(((X ^^^ A) / 2 ^ (32-L):Nat):Int):=by rw [cA,Int.fdiv_eq_ediv_of_nonneg _ (Int.natCast_nonneg _)];simp
 have h5:(X ^^^ A) / 2 ^ (32-L)=0↔X / 2 ^ (32-L)=A / 2 ^ (32-L):=by
  rw [←Nat.shiftRight_eq_div_pow,←Nat.shiftRight_eq_div_pow,←Nat.shiftRight_eq_div_pow,Nat.shiftRight_xor_distrib]
  exact Zr _ _
 have h6:decide ((((X ^^^ A) / 2 ^ (32-L):Nat):Int)=0)=decide (X / 2 ^ (32-L)=A / 2 ^ (32-L)):=decide_eq_decide.2 ⟨fun q=>h5.1 (by omega),fun q=>by rw [h5.2 q];rfl⟩
 unfold bu
 rw [Int.toNat_natCast,Int.toNat_natCast,Int.toNat_natCast]
 refine z7 {} 0 Tryz.func161 fun Γ hW=>auC ?_
 repeat' first|refine auS ?_|(simp only [e0,e1,e2,e3,e4,h6,Int.toNat_natCast])|refine auD ?_|(refine auW ?_ ?_<;>intro h<;>try exact auH)|fail
 all_goals try exact auP
 all_goals refine auV ?_
 all_goals try exact zc
 all_goals try simp only [hsM] at *
structure Rl where
 (fa fl ta tl pr fp fq tp tq:Int) (ps:Bool)
deriving DecidableEq
abbrev Rl.enc (r:Rl):List DV:=[.v (.int .u32 r.fa),.v (.int .i64 r.fl),.v (.int .u32 r.ta),.v (.int .i64 r.tl),.v (.int .i64 r.pr),.v (.int .i64 r.fp),.v (.int .i64 r.fq),.v (.int .i64 r.tp),.v (.int .i64 r.tq),.v (.bool r.ps)]
abbrev dRl (r:Rl):DV:=.agg r.enc
def Rl.wf (r:Rl):Prop:=(0≤r.fa∧r.fa<4294967296)∧(0≤r.ta∧r.ta<4294967296)
def oQ (a b:Int):Bool:=decide (0≤a∧a≤b∧b≤65535)
theorem uB (a b:Int):zi Tryz.prog 83 [.v (.int .i64 a),.v (.int .i64 b)] (.v (.bool (oQ a b))):=by
 unfold oQ
 refine z7 {} 0 Tryz.func83 fun Γ hW=>auC ?_
 repeat' first|refine auS ?_|fail|refine auD ?_|(refine auW ?_ ?_<;>intro h<;>try exact auH)|fail
 all_goals try exact auP
 all_goals refine auV ?_
 all_goals try exact zc
 all_goals try simp only [hsM] at *
 all_goals (refine xP ?_;first|(simp_all;done)|(simp_all;omega)|(simp_all [decide_eq_decide];omega)|(simp_all;rw [Bool.eq_iff_iff];simp;omega))
def rOk (r:Rl):Bool:=rK r.fa r.fl&&(rK r.ta r.tl&&(decide (0≤r.pr∧r.pr≤255)&&(oQ r.fp r.fq&&oQ r.tp r.tq)))
theorem qU {a l:Int} (h:rK a l=true):0≤l∧l≤32:=by
 unfold rK at h
 simp only [Bool.and_eq_true,decide_eq_true_eq] at h
 exact h.1
theorem kl {r:Rl} (h:rOk r=true):(rK r.fa r.fl=true∧rK r.ta r.tl=true)∧(0≤r.pr∧r.pr≤255)∧(0≤r.fp∧r.fp≤r.fq∧r.fq≤65535)∧(0≤r.tp∧r.tp≤r.tq∧r.tq≤65535):=by
 unfold rOk oQ at h
 simp only [Bool.and_eq_true,decide_eq_true_eq] at h
 exact ⟨⟨h.1,h.2.1⟩,h.2.2.1,h.2.2.2.1,h.2.2.2.2⟩
theorem ua (r:Rl) (hr:r.wf):zi Tryz.prog 56 [dRl r] (.v (.bool (rOk r))):=by
 have h1:=f0 r.fa r.fl hr.1
 have h2:=f0 r.ta r.tl hr.2
 have h3:=uB r.fp r.fq
 have h4:=uB r.tp r.tq
 unfold rOk
 generalize rK r.fa r.fl=b1 at *
 generalize rK r.ta r.tl=b2 at *
 generalize oQ r.fp r.fq=b3 at *
 generalize oQ r.tp r.tq=b4 at *
 refine z7 {} 0 Tryz.func56 fun Γ hW=>auC ?_
 repeat' first|refine auS ?_|(first|(with_reducible refine z6 h1 ?_)|(with_reducible refine z6 h2 ?_)|(with_reducible refine z6 h3 ?_)|(with_reducible refine z6 h4 ?_))|refine auD ?_|(refine auW ?_ ?_<;>intro h<;>try exact auH)|fail
 all_goals try exact auP
 all_goals refine auV ?_
 all_goals try exact zc
 all_goals try simp only [hsM] at *
 all_goals (refine xP ?_;first|(simp_all;done)|(simp_all;omega)|(simp_all [decide_eq_decide];omega)|(simp_all;rw [Bool.eq_iff_iff];simp;omega))
end Go.Proofs.YtaiileiodjicpaaGreatDoor.R
namespace Go.Proofs.YtaiileiodjicpaaGreatDoor.R
attribute [local irreducible] zF Go
set_option maxRecDepth 100000
structure Fl where
 (ff ft pr a b:Int)
abbrev dFl (f:Fl):DV:=.agg [.v (.int .u32 f.ff),.v (.int .u32 f.ft),.v (.int .i64 f.pr),.v (.int .i64 f.a),.v (.int .i64 f.b)]
def Fl.wf (f:Fl):Prop:=(0≤f.ff∧f.ff<4294967296)∧(0≤f.ft∧f.ft<4294967296)
def rF (r:Rl) (f:Fl):Bool:=bu r.fa r.fl f.ff&&(bu r.ta r.tl f.ft&&((decide (r.pr=0)||decide (r.pr=f.pr))&&(decide (r.fp≤f.a∧f.a≤r.fq)&&decide (r.tp≤f.b∧f.b≤r.tq))))
set_option maxHeartbeats 1000000 in
theorem ek (r:Rl) (f:Fl) (hr:r.wf) (hf:f.wf) (h1:0≤r.fl∧r.fl≤32) (h2:0≤r.tl∧r.tl≤32):zi Tryz.prog 142 [dRl r,dFl f] (.v (.bool (rF r f))):=by
 have h3:=iw r.fa r.fl f.ff hr.1 hf.1 h1
 have h4:=iw r.ta r.tl f.ft hr.2 hf.2 h2
 unfold rF
 generalize bu r.fa r.fl f.ff=b1 at *
 generalize bu r.ta r.tl f.ft=b2 at *
 refine z7 {} 0 Tryz.func142 fun Γ hW=>auC ?_
 repeat' first|refine auS ?_|(first|(with_reducible refine z6 h3 ?_)|(with_reducible refine z6 h4 ?_))|refine auD ?_|(refine auW ?_ ?_<;>intro h<;>try exact auH)|fail
 all_goals try exact auP
 all_goals refine auV ?_
 all_goals try exact zc
 all_goals try simp only [hsM] at *
 all_goals (refine xP ?_;first|(simp_all;done)|(simp_all;omega)|(simp_all;rw [Bool.eq_iff_iff];simp;omega))
end Go.Proofs.YtaiileiodjicpaaGreatDoor.R
namespace Go.Proofs.YtaiileiodjicpaaGreatDoor.R
attribute [local irreducible] zF Go
set_option maxRecDepth 100000
def rB (l:List Rl):Int:=if 64<l.length then 2 else if l.all rOk then 0 else 4
theorem dE {l:List Rl} (h:rB l=0):l.length≤64∧∀r∈l,rOk r=true:=by
 unfold rB at h
 split at h
 ·cases h
 ·split at h
  ·rename_i h1 h2
   exact ⟨by omega,fun r hr=>List.all_eq_true.1 h2 r hr⟩
  ·cases h
theorem jh {l:List Rl} {k:Nat} {t:Rl} (ht:l[k]?=some t):yo (l.map Rl.enc) k=t.enc:=ye Rl.enc l k t ht
set_option maxHeartbeats 1000000 in
theorem lp (l:List Rl) (c:Bool) (hl:l.length≤maxLen) (hw:∀r∈l,r.wf):zi Tryz.prog 34 [.snap 10 (l.map Rl.enc) c] (.v (.int .i64 (rB l))):=by
 unfold maxLen at hl
 by_cases h64:64<l.length
 ·have he:rB l=2:=by unfold rB;rw [if_pos h64]
  rw [he]
  refine z7 {} 0 Tryz.func34 fun Γ hW=>auC ?_
  repeat' first|refine auS ?_|fail|refine auD ?_|(refine auW ?_ ?_<;>intro h<;>try exact auH)|(simp only [List.length_map])
  all_goals try exact auP
  all_goals refine auV ?_
  all_goals try exact zc
  all_goals try simp only [hsM] at *
 have he:rB l=if l.all rOk then 0 else 4:=by unfold rB;rw [if_neg h64]
 rw [he]
 clear he
 refine z7 {} 0 Tryz.func34 fun Γ hW=>auC ?_
 repeat' first|refine auS ?_|fail|refine auD ?_|(refine auW ?_ ?_<;>intro h<;>try exact auH)|(simp only [List.length_map])
 all_goals try exact auP
 refine zw (α:=Nat×Nat) (fun x=>[(⟨.d0,.d1,.d2⟩,.v (.int .i64 (x.1:Nat)))]) (fun _=>[(0,none)]) (fun x=>x.2) (fun x=>l.length-x.1) (fun x=>x.1≤l.length∧∀y∈l.take x.1,rOk y=true) (0,Γ.g0) ⟨Nat.zero_le _,fun y hy=>by simp at hy⟩ ?_ ?_
 ·skip
  refine zo ?_ ?_ (Nat.le_refl _)
  all_goals first|refine auE ?_|exact zK
  all_goals repeat' first|exact trivial|exact rfl|apply And.intro
 rintro ⟨k,gn⟩ ⟨hk,hp⟩
 dsimp only at hk hp ⊢
 refine auL ?_
 by_cases hlt:k<l.length
 ·obtain ⟨t,ht⟩:∃t,l[k]?=some t:=⟨_,List.getElem?_eq_getElem hlt⟩
  have ex:=jh ht
  have hmem:=List.mem_of_getElem? ht
  have hr:=ua t (hw t hmem)
  cases hq:rOk t with
  |false=>
   rw [hq] at hr
   have hbad:l.all rOk=false:=by
    cases ha:l.all rOk with
    |false=>rfl
    |true=>rw [List.all_eq_true.1 ha t hmem] at hq;cases hq
   rw [hbad]
   repeat' first|refine auS ?_|(with_reducible refine z6 hr ?_)|refine auD ?_|(refine auW ?_ ?_<;>intro h<;>try exact auH)|(simp only [Int.toNat_natCast,ex,List.length_map])
   all_goals try exact auP
   all_goals first
    |(exfalso;simp_all;done)
    |skip
   all_goals refine auV ?_
   all_goals try exact zc
   all_goals try simp only [hsM] at *
   all_goals rfl
  |true=>
   rw [hq] at hr
   repeat' first|refine auS ?_|(with_reducible refine z6 hr ?_)|refine auD ?_|(refine auW ?_ ?_<;>intro h<;>try exact auH)|(simp only [Int.toNat_natCast,ex,List.length_map])
   all_goals try exact auP
   all_goals first
    |(exfalso;simp_all;done)
    |skip
   refine zn ⟨(k+1,gn+1),⟨hlt,fun y hy=>?_⟩,Nat.sub_lt_sub_left hlt (Nat.lt_succ_self k),?_⟩
   ·rw [rh ht] at hy
    rcases List.mem_append.1 hy with hy|hy
    ·exact hp y hy
    ·simp at hy;rw [hy];exact hq
   refine zo ?_ ?_ (Nat.le_refl _)
   all_goals first|refine auE ?_|exact zK
   all_goals repeat' first|exact trivial|exact rfl|apply And.intro
   all_goals exact yd ((IntWalk.i64_in _ (by omega)).trans (by omega))
 ·obtain rfl:k=l.length:=by omega
  rw [List.take_length] at hp
  have hall:l.all rOk=true:=List.all_eq_true.2 hp
  rw [hall]
  repeat' first|refine auS ?_|fail|refine auD ?_|(refine auW ?_ ?_<;>intro h<;>try exact auH)|(simp only [List.length_map])
  all_goals try exact auP
  all_goals refine auV ?_
  all_goals try exact zc
  all_goals try simp only [hsM] at *
  all_goals rfl
def fOk (f:Fl):Bool:=decide (0≤f.pr∧f.pr≤255)&&(decide (0≤f.a∧f.a≤65535)&&decide (0≤f.b∧f.b≤65535))
abbrev d3 (b:Bool) (i e:Int):DV:=.tup [.v (.bool b),.v (.int .i64 i),.v (.int .i64 e)]
set_option maxHeartbeats 1000000 in
theorem lW {g:FuncId} {caps:List DV} (p:Rl→Bool) (l:List Rl) (c:Bool) (hl:l.length≤maxLen) (hg:∀t∈l,zi Tryz.prog g (.agg (Rl.enc t)::caps) (.v (.bool (p t)))):zi Tryz.prog 140 [.snap 10 (l.map Rl.enc) c,.fn (.func g) [] caps] (.v (.int .i64 (zk p l 0))):=by
 unfold maxLen at hl
 refine z7 {} 0 Tryz.func140 fun Γ hW=>auC ?_
 repeat' first|refine auS ?_|fail|refine auD ?_|(refine auW ?_ ?_<;>intro h<;>try exact auH)|fail
 refine zw (α:=Nat) (fun k=>[(⟨.d0,.d1,.d0⟩,.v (.int .i64 (k:Nat)))]) (fun _=>[]) (fun _=>Γ.g0) (fun k=>l.length-k) (fun k=>k≤l.length∧zk p l 0=zk p (l.drop k) k) 0 ⟨Nat.zero_le _,rfl⟩ ?_ ?_
 ·skip
  refine zo ?_ ?_ (Nat.le_refl _)
  all_goals first|refine auE ?_|exact zK
  all_goals repeat' first|exact trivial|exact rfl|apply And.intro
 ·rintro k ⟨hk,hp⟩
  refine auL ?_
  by_cases hlt:k<l.length
  ·obtain ⟨t,ht⟩:∃t,l[k]?=some t:=⟨_,List.getElem?_eq_getElem hlt⟩
   have ex:=ye Rl.enc l k t ht
   have hgt:=hg t (List.mem_of_getElem? ht)
   rw [List.drop_eq_getElem_cons hlt,show l[k]=t from Option.some.inj ((List.getElem?_eq_getElem hlt).symm.trans ht)] at hp
   repeat' first|refine auS ?_|(with_reducible refine z6 hgt ?_)|refine auD ?_|(refine auW ?_ ?_<;>intro h<;>try exact auH)|(simp only [Int.toNat_natCast,ex])
   all_goals try exact auP
   ·skip
    all_goals refine auV ?_
    all_goals try exact zc
    all_goals try simp only [hsM] at *
    rw [hp]
    simp [zk, *]
   ·refine zn ?_
    refine ⟨k+1,⟨Nat.succ_le_of_lt hlt,by rw [hp];simp [zk, *]⟩,Nat.sub_lt_sub_left hlt (Nat.lt_succ_self k),?_⟩
    refine zo ?_ ?_ (Nat.le_refl _)
    all_goals first|refine auE ?_|exact zK
    all_goals repeat' first|exact trivial|exact rfl|apply And.intro
    exact yd ((IntWalk.i64_in _ (by omega)).trans (by omega))
  ·skip
   repeat' first|refine auS ?_|fail|refine auD ?_|(refine auW ?_ ?_<;>intro h<;>try exact auH)|fail
   all_goals try exact auP
   all_goals refine auV ?_
   all_goals try exact zc
   all_goals try simp only [hsM] at *
   obtain rfl:k=l.length:=by omega
   rw [hp,List.drop_length]
   rfl
theorem ak (t:Rl) (f:Fl) (ht:rOk t=true) (hw:t.wf) (hf:f.wf):zi Tryz.prog 141 [dRl t,.rptr [.v (.int .u32 f.ff),.v (.int .u32 f.ft),.v (.int .i64 f.pr),.v (.int .i64 f.a),.v (.int .i64 f.b)]] (.v (.bool (rF t f))):=by
 obtain ⟨⟨h1,h2⟩,-⟩:=kl ht
 have hm:=ek t f hw hf (qU h1) (qU h2)
 refine z7 {} 0 Tryz.func141 fun Γ hW=>auC ?_
 repeat' first|refine auS ?_|(with_reducible refine z6 hm ?_)|refine auD ?_|(refine auW ?_ ?_<;>intro h<;>try exact auH)|fail
 all_goals try exact auP
 all_goals refine auV ?_
 all_goals try exact zc
 all_goals try simp only [hsM] at *
def pM (l:List Rl) (f:Fl) (ow:Bool):Bool×Int×Int:=
 if ¬rB l=0 then (false,0,rB l) else if fOk f=false then (false,0,1)
 else match l[(zk (fun t=>rF t f) l 0).toNat]? with
  |some t=>if zk (fun t=>rF t f) l 0 = -1 then (ow,-1,0) else (t.ps,zk (fun t=>rF t f) l 0,0)
  |none=>(ow,-1,0)
theorem bz {l:List Rl} {f:Fl} {ow:Bool} (h0:rB l=0) (h1:fOk f=true) (h2:zk (fun t=>rF t f) l 0 = -1):pM l f ow=(ow,-1,0):=by
 unfold pM
 rw [if_neg (not_not_intro h0),if_neg (by rw [h1];exact fun q=>by cases q),h2]
 split
 ·rw [if_pos rfl]
 ·rfl
theorem XV {l:List Rl} {f:Fl} {ow:Bool} {i:Nat} {t:Rl} (h0:rB l=0) (h1:fOk f=true) (h2:l[i]?=some t) (h3:zk (fun t=>rF t f) l 0=(i:Nat)):pM l f ow=(t.ps,((i:Nat):Int),0):=by
 unfold pM
 rw [if_neg (not_not_intro h0),if_neg (by rw [h1];exact fun q=>by cases q),h3,Int.toNat_natCast,h2]
 dsimp only
 rw [if_neg (by omega)]
set_option maxHeartbeats 2000000 in
theorem iV (l:List Rl) (f:Fl) (ow:Bool) (hl:l.length≤maxLen) (hw:∀r∈l,r.wf) (hf:f.wf):zi Tryz.prog 107 [.snap 10 (l.map Rl.enc) false,dFl f,.v (.bool ow)] (d3 (pM l f ow).1 (pM l f ow).2.1 (pM l f ow).2.2):=by
 have hc:=lp l false hl hw
 have hb1:=uB f.a f.a
 have hb2:=uB f.b f.b
 by_cases h0:rB l=0
 rotate_left 1
 ·have hr:pM l f ow=(false,0,rB l):=by unfold pM;rw [if_pos h0]
  rw [hr]
  refine z7 {} 0 Tryz.func107 fun Γ hW=>auC ?_
  repeat' first|(refine zP (yb hW ⟨.d0,.d0,.d4⟩ rfl rfl ⟨rfl,rfl,Nat.succ_pos _⟩) ?_)|refine auS ?_|(with_reducible refine z6 hc ?_)|refine auD ?_|(refine auW ?_ ?_<;>intro h<;>try exact auH)|fail
  all_goals try exact auP
  all_goals refine auV ?_
  all_goals try exact zc
  all_goals try simp only [hsM] at *
 rw [h0] at hc
 by_cases h1:fOk f=true
 rotate_left 1
 ·have h1':fOk f=false:=by simpa using h1
  have hr:pM l f ow=(false,0,1):=by unfold pM;rw [if_neg (not_not_intro h0),if_pos h1']
  rw [hr]
  unfold fOk at h1'
  unfold oQ at hb1 hb2
  refine z7 {} 0 Tryz.func107 fun Γ hW=>auC ?_
  repeat' first|(refine zP (yb hW ⟨.d0,.d0,.d4⟩ rfl rfl ⟨rfl,rfl,Nat.succ_pos _⟩) ?_)|refine auS ?_|(first|(with_reducible refine z6 hc ?_)|(with_reducible refine z6 hb1 ?_)|(with_reducible refine z6 hb2 ?_))|refine auD ?_|(refine auW ?_ ?_<;>intro h<;>try exact auH)|fail
  all_goals try exact auP
  all_goals first
   |(exfalso;simp_all;omega)
   |skip
  all_goals refine auV ?_
  all_goals try exact zc
  all_goals try simp only [hsM] at *
 have hok:=(dE h0).2
 have hi:=lW (fun t=>rF t f) l false hl (fun t ht=>ak t f (hok t ht) (hw t ht) hf)
 unfold fOk at h1
 simp only [Bool.and_eq_true,decide_eq_true_eq] at h1
 have h1':fOk f=true:=by unfold fOk;simp only [Bool.and_eq_true,decide_eq_true_eq];exact h1
 have hbt1:oQ f.a f.a=true:=by unfold oQ;exact decide_eq_true (by omega)
 have hbt2:oQ f.b f.b=true:=by unfold oQ;exact decide_eq_true (by omega)
 rw [hbt1] at hb1
 rw [hbt2] at hb2
 rcases xl (fun t=>rF t f) l 0 with ⟨q1,q2⟩|⟨i,t,q1,q2,q3,q4⟩
 ·rw [bz h0 h1' q1]
  rw [q1] at hi
  refine z7 {} 0 Tryz.func107 fun Γ hW=>auC ?_
  repeat' first|(refine zP (yb hW ⟨.d0,.d0,.d4⟩ rfl rfl ⟨rfl,rfl,Nat.succ_pos _⟩) ?_)|refine auS ?_|(first|(with_reducible refine z6 hc ?_)|(with_reducible refine z6 hb1 ?_)|(with_reducible refine z6 hb2 ?_)|(with_reducible refine z6 hi ?_))|refine auD ?_|(refine auW ?_ ?_<;>intro h<;>try exact auH)|fail
  all_goals try exact auP
  all_goals first
   |(exfalso;simp_all;done)
   |skip
  all_goals refine auV ?_
  all_goals try exact zc
  all_goals try simp only [hsM] at *
 ·rw [Nat.zero_add] at q4
  rw [XV h0 h1' q1 q4]
  rw [q4] at hi
  have ex:=jh q1
  have hlt:=(List.getElem?_eq_some_iff.1 q1).1
  refine z7 {} 0 Tryz.func107 fun Γ hW=>auC ?_
  repeat' first|(refine zP (yb hW ⟨.d0,.d0,.d4⟩ rfl rfl ⟨rfl,rfl,Nat.succ_pos _⟩) ?_)|refine auS ?_|(first|(with_reducible refine z6 hc ?_)|(with_reducible refine z6 hb1 ?_)|(with_reducible refine z6 hb2 ?_)|(with_reducible refine z6 hi ?_))|refine auD ?_|(refine auW ?_ ?_<;>intro h<;>try exact auH)|(simp only [Int.toNat_natCast,ex,List.length_map])
  all_goals try exact auP
  all_goals first
   |(exfalso;simp_all;done)
   |skip
  all_goals refine auV ?_
  all_goals try exact zc
  all_goals try simp only [hsM] at *
end Go.Proofs.YtaiileiodjicpaaGreatDoor.R
namespace Go.Proofs.YtaiileiodjicpaaGreatDoor.R
attribute [local irreducible] zF Go
set_option maxRecDepth 100000
open A (pOk pE yY)
structure Pl where
 (ou lt st lf ra mo:Int) (rs:List Rl) (el:Bool)
deriving DecidableEq
abbrev Pl.enc (p:Pl) (d:DV):List DV:=[.v (.int .u32 p.ou),.v (.int .i64 p.lt),.v (.int .i64 p.st),.v (.int .i64 p.lf),.v (.int .i64 p.ra),.v (.int .i64 p.mo),d,.v (.bool p.el)]
abbrev dPl (p:Pl) (c:Bool):DV:=.agg (p.enc (.snap 10 (p.rs.map Rl.enc) c))
def Pl.wf (p:Pl):Prop:=(0≤p.ou∧p.ou<4294967296)∧∀r∈p.rs,r.wf
def WU (p:Pl):Bool:=pOk p.lt&&(pOk p.st&&(decide (1≤p.lf∧p.lf≤1000000)&&(decide (0≤p.ra∧p.ra≤1000000)&&decide (1≤p.mo∧p.mo≤1000000000))))
def plE (p:Pl):Int:=if WU p=true then rB p.rs else 1
theorem Uo (b:Int):decide (pE b=0)=pOk b:=by unfold pE;split<;>simp_all
set_option maxHeartbeats 1000000 in
theorem xJ (p:Pl) (c:Bool) (hp:p.wf) (hl:p.rs.length≤maxLen):zi Tryz.prog 11 [dPl p c] (.v (.int .i64 (plE p))):=by
 have h1:=yY p.lt 0
 have h2:=yY p.st 0
 have h3:=lp p.rs c hl hp.2
 have e1:=Uo p.lt
 have e2:=Uo p.st
 unfold plE WU
 generalize pOk p.lt=b1 at *
 generalize pOk p.st=b2 at *
 generalize pE p.lt=E1 at *
 generalize pE p.st=E2 at *
 generalize rB p.rs=E3 at *
 refine z7 {} 0 Tryz.func11 fun Γ hW=>auC ?_
 repeat' first|refine auS ?_|(first|(with_reducible refine z6 h1 ?_)|(with_reducible refine z6 h2 ?_)|(with_reducible refine z6 h3 ?_))|refine auD ?_|(refine auW ?_ ?_<;>intro h<;>try exact auH)|fail
 all_goals try exact auP
 all_goals refine auV ?_
 all_goals try exact zc
 all_goals try simp only [hsM] at *
 all_goals (refine yd ?_;subst e1;subst e2)
 all_goals first
  |(rw [if_pos (show _ by refine ⟨decide_eq_true (by omega),decide_eq_true (by omega),?_⟩;omega)];done)
  |(rw [if_neg (show ¬_ by rintro ⟨q1,q2,q3⟩;have q4:=of_decide_eq_true q1;have q5:=of_decide_eq_true q2;omega)];done)
end Go.Proofs.YtaiileiodjicpaaGreatDoor.R
