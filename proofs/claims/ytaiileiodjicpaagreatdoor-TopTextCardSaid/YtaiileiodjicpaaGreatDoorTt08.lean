import Derived.Test.YtaiileiodjicpaaGreatDoorTt06
import Derived.Laws.Bits128
set_option linter.unusedVariables false
set_option linter.unusedSimpArgs false
namespace Go.Proofs.YtaiileiodjicpaaGreatDoor.A
attribute [local irreducible] zF Go
set_option maxRecDepth 100000
def qW (x k:Nat):Prop:=x.testBit k=true∧∀j,j<k→x.testBit j=false
theorem ce {x k:Nat} (h:qW x k):∃m,x=2 ^ k*(2*m+1):=by
 have h0:x % 2 ^ k=0:=by
  refine Nat.eq_of_testBit_eq fun i=>?_
  rw [Nat.testBit_mod_two_pow,Nat.zero_testBit]
  by_cases hi:i<k
  ·rw [h.2 i hi,Bool.and_false]
  ·rw [decide_eq_false hi,Bool.false_and]
 have h1:x / 2 ^ k % 2=1:=by
  have:=h.1
  rw [Nat.testBit_eq_decide_div_mod_eq] at this
  exact of_decide_eq_true this
 refine ⟨x / 2 ^ k / 2,?_⟩
 have h2:=Nat.div_add_mod x (2 ^ k)
 have h3:x / 2 ^ k=2*(x / 2 ^ k / 2)+1:=by omega
 rw [←h3]
 omega
theorem fU {x k:Nat} (hx:x<18446744073709551616) (h:qW x k):k<64:=by
 obtain ⟨m,rfl⟩:=ce h
 rcases Nat.lt_or_ge k 64 with hk|hk
 ·exact hk
 ·have h1:2 ^ 64≤2 ^ k:=Nat.pow_le_pow_right (by decide) hk
  have h2:2 ^ k*1≤2 ^ k*(2*m+1):=Nat.mul_le_mul_left _ (by omega)
  omega
theorem XK {x k:Nat} (hx:x<18446744073709551616) (h:qW x k):x &&& (18446744073709551616-x)=2 ^ k:=by
 have hk:=fU hx h
 obtain ⟨m,e⟩:=ce h
 have hp:0<2 ^ k:=Nat.two_pow_pos k
 have hx0:0<x:=by rw [e];exact Nat.mul_pos hp (by omega)
 have e1:18446744073709551616-x=2 ^ 64-((x-1)+1):=by rw [Nat.sub_add_cancel hx0]
 have e2:x-1=2 ^ k*(2*m)+(2 ^ k-1):=by
  rw [e,Nat.mul_add,Nat.mul_one]
  omega
 refine Nat.eq_of_testBit_eq fun i=>?_
 rw [Nat.testBit_and,e1,Nat.testBit_two_pow_sub_succ (by omega:x-1<2 ^ 64),e2,Nat.testBit_two_pow_mul_add _ (by omega),Nat.testBit_two_pow]
 by_cases hi:i<k
 ·rw [h.2 i hi,Bool.false_and,decide_eq_false (by omega)]
 ·rw [if_neg hi]
  by_cases hik:i=k
  ·subst hik
   rw [h.1,Nat.sub_self,decide_eq_true hk]
   simp
  ·have h1:x.testBit i=(2*m+1).testBit (i-k):=by
    have:=Nat.testBit_two_pow_mul_add (2*m+1) (b:=0) hp i
    rw [Nat.add_zero,←e,if_neg hi] at this
    exact this
   obtain ⟨s,hs⟩:∃s,i-k=s+1:=⟨i-k-1,by omega⟩
   rw [h1,hs,Nat.testBit_succ,Nat.testBit_succ,show (2*m+1) / 2=m by omega,show 2*m / 2=m by omega,show decide (k=i)=false from decide_eq_false (fun q=>hik q.symm)]
   cases m.testBit s<;>simp
theorem qG {t k:Nat} (h:t.testBit k=false):t+2 ^ k=t ||| 2 ^ k:=by
 have h1:¬t / 2 ^ k % 2=1:=by
  rw [Nat.testBit_eq_decide_div_mod_eq] at h
  exact of_decide_eq_false h
 have hp:0<2 ^ k:=Nat.two_pow_pos k
 have h2:=Nat.div_add_mod t (2 ^ k)
 have h3:t / 2 ^ k=2*(t / 2 ^ k / 2):=by omega
 have hr:t % 2 ^ k<2 ^ k:=Nat.mod_lt _ hp
 have e:t=2 ^ (k+1)*(t / 2 ^ k / 2)+t % 2 ^ k:=by
  rw [Nat.pow_succ,Nat.mul_assoc,←h3]
  exact h2.symm
 generalize t / 2 ^ k / 2=q at e
 generalize t % 2 ^ k=r at e hr
 have hlt:r<2 ^ (k+1):=by rw [Nat.pow_succ];omega
 have hlt2:2 ^ k+r<2 ^ (k+1):=by rw [Nat.pow_succ];omega
 rw [e,Nat.add_assoc,Nat.add_comm r,Nat.two_pow_add_eq_or_of_lt hlt2,Nat.two_pow_add_eq_or_of_lt hlt]
 have:=Nat.two_pow_add_eq_or_of_lt hr 1
 rw [Nat.mul_one] at this
 rw [this,Nat.or_assoc,Nat.or_comm (2 ^ k) r]
theorem eN {t k:Nat} (ht:t<18446744073709551616) (hk:k<64) (h:t.testBit k=false):t+2 ^ k<18446744073709551616:=by
 rw [qG h]
 exact Nat.or_lt_two_pow (n:=64) ht (Nat.pow_lt_pow_right (by decide) hk)
theorem W5:∀k:Fin 64,ZX[2 ^ k.val*285870213051353865 % 18446744073709551616 / 2 ^ 58]?=some k.val∧2 ^ k.val*285870213051353865 % 18446744073709551616 / 2 ^ 58<64:=by decide +kernel
theorem XJ:mV qJ 5=some kp:=rfl
theorem av {l:List DV} {i:Nat} {d:DV} (h:l[i]?=some d):∃r,yL l i=d::r:=by
 rw [xd]
 have hi:i<l.length:=(List.getElem?_eq_some_iff.1 h).1
 exact ⟨l.drop (i+1),by rw [List.drop_eq_getElem_cons hi,show l[i]=d from Option.some.inj ((List.getElem?_eq_getElem hi).symm.trans h)]⟩
theorem gk (n:Int):IntKind.u64.wrap n=n % 18446744073709551616:=by simp [IntKind.wrap,IntKind.signed,IntKind.bits]
theorem ZL (x k:Nat) (hx:x<18446744073709551616) (h:qW x k):∃ (M Q Y Z:Int),IntKind.u64.wrap (0-(x:Int))=M∧bits .and .u64 (x:Int) M=Q∧IntKind.u64.wrap (Q*285870213051353865)=Y∧Y.fdiv (2 ^ (min 58 IntKind.u64.bits))=Z∧0≤Z∧Z<64∧(xF kp)[Z.toNat]?=some (.v (.int .u8 (k:Int))):=by
 have hk:=fU hx h
 have hx0:0<x:=by
  rcases Nat.eq_zero_or_pos x with e|e
  ·subst e;simp [qW] at h
  ·exact e
 obtain ⟨hdb,hdl⟩:=W5 ⟨k,hk⟩
 dsimp only at hdb hdl
 have hneg:IntKind.u64.wrap (0-(x:Int))=((18446744073709551616-x:Nat):Int):=by rw [gk];omega
 refine ⟨((18446744073709551616-x:Nat):Int),((2 ^ k:Nat):Int),((2 ^ k*285870213051353865 % 18446744073709551616:Nat):Int),((2 ^ k*285870213051353865 % 18446744073709551616 / 2 ^ 58:Nat):Int),hneg,(Go.u64_and_nat x _ hx (by omega)).trans (by rw [XK hx h]),?_,?_,Int.natCast_nonneg _,Int.ofNat_lt.2 hdl,?_⟩
 ·generalize 2 ^ k=p
  rw [gk]
  omega
 ·rw [show ((2:Int) ^ (min 58 IntKind.u64.bits))=((2 ^ 58:Nat):Int) from rfl,Int.fdiv_eq_ediv_of_nonneg _ (Int.natCast_nonneg _),Int.natCast_ediv]
 ·rw [Int.toNat_natCast,vp]
  unfold kp
  rw [List.getElem?_map,hdb]
  rfl
set_option maxHeartbeats 1000000 in
theorem uA (x k:Nat) (hx:x<18446744073709551616) (h:qW x k):zi Tryz.prog 158 [.v (.int .u64 (x:Int))] (.v (.int .i64 (k:Nat))):=by
 have hk:=fU hx h
 have hx0:¬(x:Int)=0:=fun e=>by
  obtain rfl:x=0:=by omega
  simp [qW] at h
 obtain ⟨M,Q,Y,Z,hneg,hand,hmul,hshr,hz0,hz1,hget⟩:=ZL x k hx h
 obtain ⟨r,hr⟩:=av hget
 have gf:=XJ
 have hnt:kp.all rY=true:=by rfl
 have hwk:IntKind.i64.wrap (k:Int)=(k:Int):=IntWalk.i64_in _ (by omega)
 generalize (x:Int)=X at *
 generalize kp=L at *
 clear hget
 refine z7 {} 0 Tryz.func158 fun Γ hW=>auC ?_
 repeat' first|refine auS ?_|(simp only [hneg,hand,hmul,hshr,hwk])|refine auD ?_|(refine auW ?_ ?_<;>intro h<;>try exact auH)|(first|(simp only [gf])|(refine zf hnt ?_)|(simp only [Int.toNat_natCast,Nat.mul_one,hr]))
 all_goals try exact auP
 all_goals refine auV ?_
 all_goals try exact zc
 all_goals try simp only [hsM] at *
end Go.Proofs.YtaiileiodjicpaaGreatDoor.A
namespace Go.Proofs.YtaiileiodjicpaaGreatDoor.A
attribute [local irreducible] zF Go
set_option maxRecDepth 100000
def frB (t k:Nat):Bool:=!t.testBit k
def ay (want:Int) (k:Nat):Bool:=decide ((k:Int) % 2=want % 2)
def xf (t:Nat) (want:Int):Nat:=
 match (List.range 64).find? (fun k=>decide (frB t k=true∧ay want k=true)) with
 |some k=>k
 |none=>match (List.range 64).find? (frB t) with
  |some k=>k
  |none=>0
def v6 (b:Int) (t:Nat) (want:Int):Nat:=if tkd b t want=false∧b≤want∧want≤b+63 then (want-b).toNat else xf t want
def sk (b:Int) (t:Nat) (want:Int):Int:=if pOk b then (if 0≤want∧want≤65535 then (if t=18446744073709551615 then 6 else 0) else 1) else 1
theorem bY {t:Nat} (ht:t<18446744073709551616):t=18446744073709551615↔∀k,k<64→t.testBit k=true:=by
 constructor
 ·rintro rfl k hk
  have:=Nat.testBit_two_pow_sub_one 64 k
  rw [show (18446744073709551615:Nat)=2 ^ 64-1 from rfl,this,decide_eq_true hk]
 ·intro h
  refine Nat.eq_of_testBit_eq fun k=>?_
  rw [show (18446744073709551615:Nat)=2 ^ 64-1 from rfl,Nat.testBit_two_pow_sub_one]
  rcases Nat.lt_or_ge k 64 with hk|hk
  ·rw [h k hk,decide_eq_true hk]
  ·rw [Nat.testBit_lt_two_pow (Nat.lt_of_lt_of_le ht (Nat.pow_le_pow_right (n:=2) (by decide) hk)),decide_eq_false (by omega)]
theorem k9 {t:Nat} (ht:t<18446744073709551616) (h:¬t=18446744073709551615):∃k,k<64∧(List.range 64).find? (frB t)=some k∧frB t k=true:=by
 cases hf:(List.range 64).find? (frB t) with
 |some k=>
  obtain ⟨h1,h2,_⟩:=List.find?_range_eq_some.1 hf
  exact ⟨k,List.mem_range.1 h2,rfl,h1⟩
 |none=>
  refine absurd ((bY ht).2 fun k hk=>?_) h
  have:=List.find?_range_eq_none.1 hf k hk
  simpa [frB] using this
theorem bE {t:Nat} (ht:t<18446744073709551616) (h:¬t=18446744073709551615) (want:Int):xf t want<64∧t.testBit (xf t want)=false:=by
 unfold xf
 split
 ·rename_i k hk
  obtain ⟨h1,h2,_⟩:=List.find?_range_eq_some.1 hk
  have h3:=(of_decide_eq_true h1).1
  exact ⟨List.mem_range.1 h2,by simpa [frB] using h3⟩
 ·obtain ⟨k,h1,h2,h3⟩:=k9 ht h
  rw [h2]
  exact ⟨h1,by simpa [frB] using h3⟩
theorem r5 {b:Int} {t:Nat} (ht:t<18446744073709551616) (h:¬t=18446744073709551615) (want:Int):v6 b t want<64∧t.testBit (v6 b t want)=false:=by
 unfold v6
 split
 ·rename_i hc
  obtain ⟨h1,h2,h3⟩:=hc
  unfold tkd at h1
  rw [decide_eq_true ⟨h2,h3⟩,Bool.true_and] at h1
  exact ⟨by omega,h1⟩
 ·exact bE ht h want
def wu (t:Nat):Nat:=18446744073709551615 ^^^ t
theorem xY {t:Nat} (ht:t<18446744073709551616):wu t<18446744073709551616:=Nat.xor_lt_two_pow (n:=64) (by decide) ht
theorem tJ {t:Nat} (ht:t<18446744073709551616) {k:Nat} (hk:k<64):(wu t).testBit k=frB t k:=by
 unfold wu frB
 rw [Nat.testBit_xor,show (18446744073709551615:Nat)=2 ^ 64-1 from rfl,Nat.testBit_two_pow_sub_one,decide_eq_true hk,Bool.true_xor]
def wE (w:Nat):Nat:=if w=0 then 6148914691236517205 else 12297829382473034410
theorem ZF:∀k:Fin 64,(wE 0).testBit k.val=decide (k.val % 2=0)∧(wE 1).testBit k.val=decide (k.val % 2=1):=by decide +kernel
theorem qH (w:Nat):wE w<18446744073709551616:=by unfold wE;split<;>decide
def xE (t w:Nat):Nat:=wu t &&& wE w
theorem qq {t w:Nat} (ht:t<18446744073709551616):xE t w<18446744073709551616:=Nat.and_lt_two_pow (n:=64) _ (qH w)
theorem iu {t w:Nat} (hw:w=0∨w=1) (ht:t<18446744073709551616) {k:Nat} (hk:k<64):(xE t w).testBit k=decide (frB t k=true∧k % 2=w):=by
 unfold xE
 rw [Nat.testBit_and,tJ ht hk]
 have:=ZF ⟨k,hk⟩
 rcases hw with rfl|rfl
 ·rw [this.1]
  cases frB t k<;>simp
 ·rw [this.2]
  cases frB t k<;>simp
theorem rq {t:Nat} (ht:t<18446744073709551616) (h:¬t=18446744073709551615) {want:Int} {w:Nat} (hw:w=0∨w=1) (hwant:want % 2=(w:Int)) :
  (xE t w=0∧qW (wu t) (xf t want))∨(¬xE t w=0∧qW (xE t w) (xf t want)):=by
 have hp:∀k,ay want k=decide (k % 2=w):=fun k=>by
  unfold ay
  rw [hwant]
  exact decide_eq_decide.2 (by omega)
 unfold xf
 cases hf:(List.range 64).find? (fun k=>decide (frB t k=true∧ay want k=true)) with
 |some k=>
  obtain ⟨h1,h2,h3⟩:=List.find?_range_eq_some.1 hf
  have hk:=List.mem_range.1 h2
  have hbit:∀j,j<64→(xE t w).testBit j=decide (frB t j=true∧ay want j=true):=fun j hj=>by
   rw [iu hw ht hj]
   exact decide_eq_decide.2 (by rw [hp j];simp)
  refine .inr ⟨fun e=>?_,by rw [hbit k hk];exact h1,fun j hj=>?_⟩
  ·have:=hbit k hk
   rw [e,Nat.zero_testBit] at this
   rw [←this] at h1
   exact absurd h1 (by decide)
  ·have hj':j<k:=hj
   have:=h3 j hj'
   rw [hbit j (by omega)]
   generalize decide (frB t j=true∧ay want j=true)=q at *
   cases q<;>simp_all
 |none=>
  have hn:=List.find?_range_eq_none.1 hf
  refine .inl ⟨?_,?_⟩
  ·refine Nat.eq_of_testBit_eq fun j=>?_
   rw [Nat.zero_testBit]
   rcases Nat.lt_or_ge j 64 with hj|hj
   ·rw [iu hw ht hj]
    have:=hn j hj
    rw [hp j,Bool.not_eq_true',decide_eq_false_iff_not,decide_eq_true_eq] at this
    exact decide_eq_false this
   ·exact Nat.testBit_lt_two_pow (Nat.lt_of_lt_of_le (qq ht) (Nat.pow_le_pow_right (n:=2) (by decide) hj))
  ·obtain ⟨k,h1,h2,h3⟩:=k9 ht h
   rw [h2]
   obtain ⟨_,_,g3⟩:=List.find?_range_eq_some.1 h2
   refine ⟨by rw [tJ ht h1];exact h3,fun j hj=>?_⟩
   have hj':j<k:=hj
   have:=g3 j hj'
   rw [tJ ht (by omega)]
   simpa using this
theorem qZ (n:Int):bits .and .i64 n 1=n % 2:=by
 have h1:(BitVec.ofInt 64 1).toNat=2 ^ 1-1:=by decide
 have key:(BitVec.ofInt 64 n &&& BitVec.ofInt 64 1).toNat=(n % ((2 ^ 64:Nat):Int)).toNat % 2 ^ 1:=by
  rw [BitVec.toNat_and,BitVec.toNat_ofInt,h1,Nat.and_two_pow_sub_one_eq_mod]
 show IntKind.i64.wrap ((BitVec.ofInt 64 n &&& BitVec.ofInt 64 1).toNat:Nat)=n % 2
 rw [key,IntKind.wrap_i64]
 omega
theorem Xh {S:Nat} (hS:S<18446744073709551616) {r:Int} (h0:0≤r) (h1:r<64):bits .or .u64 (S:Int) (IntKind.u64.wrap (1*2 ^ (min r.toNat IntKind.u64.bits)))=((S ||| 2 ^ r.toNat:Nat):Int):=by
 have hm:min r.toNat IntKind.u64.bits=r.toNat:=Nat.min_eq_left (by show r.toNat≤64;omega)
 have h2:((2:Int) ^ r.toNat)=((2 ^ r.toNat:Nat):Int):=by simp
 have h3:2 ^ r.toNat<2 ^ 64:=Nat.pow_lt_pow_right (by decide) (by omega)
 have h4:2 ^ r.toNat<18446744073709551616:=h3
 rw [hm,Int.one_mul,h2,IntWalk.u64_in _ ⟨Int.natCast_nonneg _,Int.ofNat_le.2 (Nat.le_of_lt_succ h4)⟩]
 exact u64_or_nat S (2 ^ r.toNat) hS h4
abbrev eO (b:Int) (t:Nat) (p e:Int):DV:=.tup [.agg [.v (.int .i64 b),.v (.int .u64 (t:Int))],.v (.int .i64 p),.v (.int .i64 e)]
set_option maxHeartbeats 2000000 in
theorem ix (b:Int) (t:Nat) (want:Int) (hne:¬sk b t want=0):zi Tryz.prog 146 [.agg [.v (.int .i64 b),.v (.int .u64 (t:Int))],.v (.int .i64 want)] (eO 0 0 0 (sk b t want)):=by
 have h1:=yY b t
 unfold sk at hne ⊢
 unfold pE at h1
 cases hb:pOk b with
 |false=>
  rw [hb] at h1
  rw [if_neg (by decide)] at h1 ⊢
  refine z7 {} 0 Tryz.func146 fun Γ hW=>auC ?_
  repeat' first|refine auS ?_|(first|(with_reducible refine z6 h1 ?_))|refine auD ?_|(refine auW ?_ ?_<;>intro h<;>try exact auH)|fail
  all_goals try exact auP
  all_goals first
   |(exfalso;simp at h;done)
   |skip
  all_goals refine auV ?_
  all_goals try exact zc
  all_goals try simp only [hsM] at *
  all_goals rfl
 |true=>
  rw [hb] at h1 hne
  rw [if_pos rfl] at h1 hne ⊢
  by_cases hw:0≤want∧want≤65535
  ·rw [if_pos hw] at hne ⊢
   by_cases hf:t=18446744073709551615
   ·rw [if_pos hf]
    have hf':(t:Int)=18446744073709551615:=by omega
    clear hne
    generalize (t:Int)=T at *
    refine z7 {} 0 Tryz.func146 fun Γ hW=>auC ?_
    repeat' first|refine auS ?_|(first|(with_reducible refine z6 h1 ?_))|refine auD ?_|(refine auW ?_ ?_<;>intro h<;>try exact auH)|fail
    all_goals try exact auP
    all_goals first
     |(exfalso;simp at h;done)
     |skip
    all_goals refine auV ?_
    all_goals try exact zc
    all_goals try simp only [hsM] at *
    all_goals rfl
   ·rw [if_neg hf] at hne
    exact absurd rfl hne
  ·rw [if_neg hw]
   refine z7 {} 0 Tryz.func146 fun Γ hW=>auC ?_
   repeat' first|refine auS ?_|(first|(with_reducible refine z6 h1 ?_))|refine auD ?_|(refine auW ?_ ?_<;>intro h<;>try exact auH)|fail
   all_goals try exact auP
   all_goals first
    |(exfalso;simp at h;done)
    |skip
   all_goals refine auV ?_
   all_goals try exact zc
   all_goals try simp only [hsM] at *
   all_goals rfl
theorem rd {b:Int} {t:Nat} {want:Int} (h:sk b t want=0):pOk b=true∧(0≤want∧want≤65535)∧¬t=18446744073709551615:=by
 unfold sk at h
 split at h
 ·rename_i h1
  split at h
  ·rename_i h2
   split at h
   ·exact absurd h (by decide)
   ·rename_i h3
    exact ⟨h1,h2,h3⟩
  ·exact absurd h (by decide)
 ·exact absurd h (by decide)
theorem hU {b:Int} (h:pOk b=true):(64≤b∧b≤65472)∧b % 64=0:=by
 unfold pOk at h
 have:=of_decide_eq_true h
 rw [Int.tmod_eq_emod_of_nonneg (by omega)] at this
 omega
theorem sgu:IntKind.u64.signed=false:=rfl
theorem cb (t:Nat) (ht:t<18446744073709551616):bits .xor .u64 IntKind.u64.max (t:Int)=(wu t:Int):=Go.u64_xor_nat 18446744073709551615 t (by decide) ht
set_option maxHeartbeats 2000000 in
theorem mi (b:Int) (t:Nat) (want:Int) (ht:t<18446744073709551616) (h0:sk b t want=0) (hc:tkd b t want=false∧b≤want∧want≤b+63):zi Tryz.prog 146 [.agg [.v (.int .i64 b),.v (.int .u64 (t:Int))],.v (.int .i64 want)] (eO b (t+2 ^ v6 b t want) (b+v6 b t want) 0):=by
 obtain ⟨hb,hw,hne⟩:=rd h0
 obtain ⟨hbr,hbm⟩:=hU hb
 have h1:=yY b t
 unfold pE at h1
 rw [if_pos hb] at h1
 have hlk:=r5 (b:=b) ht hne want
 have hK:v6 b t want=(want-b).toNat:=by unfold v6;rw [if_pos hc]
 rw [hK] at hlk ⊢
 unfold eO
 obtain ⟨c1,c2,c3⟩:=hc
 have hne':¬(t:Int)=18446744073709551615:=by omega
 have hsb:=j6 (xY ht) (r:=want-b) (by omega) (by omega)
 rw [tJ ht hlk.1,if_pos (by unfold frB;rw [hlk.2];rfl)] at hsb
 have hfr:=cb t ht
 have hwr:IntKind.i64.wrap (want-b)=want-b:=IntWalk.i64_in _ (by omega)
 have hor:=Xh ht (r:=want-b) (by omega) (by omega)
 rw [←qG hlk.2] at hor
 have hwadd:IntKind.i64.wrap (b+(want-b))=b+((want-b).toNat:Nat):=(IntWalk.i64_in _ (by omega)).trans (by omega)
 have hand1:True:=trivial
 have hmk:True:=trivial
 have hkd:True:=trivial
 have h2:=h1
 generalize ((wu t:Nat):Int)=F at *
 generalize ((t+2 ^ (want-b).toNat:Nat):Int)=T2 at *
 generalize (t:Int)=T at *
 refine z7 {} 0 Tryz.func146 fun Γ hW=>auC ?_
 repeat' first|refine auS ?_|(first|(with_reducible refine z6 h1 ?_)|(with_reducible refine z6 h2 ?_)|(simp only [sgu])|(simp only [hfr,hwr,hand1,hmk,hkd,hor,hwadd,hsb]))|refine auD ?_|(refine auW ?_ ?_<;>intro h<;>try exact auH)|(first|(simp only [Int.toNat_natCast])|fail)
 all_goals try exact auP
 all_goals first
  |(exfalso;simp at h;done)
  |skip
 all_goals refine auV ?_
 all_goals try exact zc
 all_goals try simp only [hsM] at *
theorem Vh:IntKind.u64.wrap (6148914691236517205*2 ^ (min 0 IntKind.u64.bits))=((wE 0:Nat):Int):=by decide +kernel
theorem Vm:IntKind.u64.wrap (6148914691236517205*2 ^ (min 1 IntKind.u64.bits))=((wE 1:Nat):Int):=by decide +kernel
theorem n5 {n:Nat} (h:¬n=0):¬(n:Int)=0:=by omega
set_option maxHeartbeats 4000000 in
theorem mR (b:Int) (t:Nat) (want:Int) (ht:t<18446744073709551616) (h0:sk b t want=0) (hc:¬(tkd b t want=false∧b≤want∧want≤b+63)):zi Tryz.prog 146 [.agg [.v (.int .i64 b),.v (.int .u64 (t:Int))],.v (.int .i64 want)] (eO b (t+2 ^ v6 b t want) (b+v6 b t want) 0):=by
 obtain ⟨hb,hw,hne⟩:=rd h0
 obtain ⟨hbr,hbm⟩:=hU hb
 have h1:=yY b t
 unfold pE at h1
 rw [if_pos hb] at h1
 have hlk:=r5 (b:=b) ht hne want
 have hK:v6 b t want=xf t want:=by unfold v6;rw [if_neg hc]
 rw [hK] at hlk ⊢
 unfold eO
 have hne':¬(t:Int)=18446744073709551615:=by omega
 have hsb0:b≤want∧want≤b+63→bits .and .u64 (((wu t:Nat):Int).fdiv (2 ^ (min (want-b).toNat IntKind.u64.bits))) 1=0:=fun hr=>by
  have hs:=j6 (xY ht) (r:=want-b) (by omega) (by omega)
  rw [tJ ht (by omega)] at hs
  have htk:tkd b t want=true:=by
   cases hq:tkd b t want with
   |true=>rfl
   |false=>exact absurd ⟨hq,hr⟩ hc
  unfold tkd at htk
  rw [decide_eq_true hr,Bool.true_and] at htk
  rw [hs,if_neg (by unfold frB;rw [htk];decide)]
 have hfr:=cb t ht
 have hwr:IntKind.i64.wrap (want-b)=want-b:=IntWalk.i64_in _ (by omega)
 have hor:=Xh ht (r:=((xf t want:Nat):Int)) (by omega) (by omega)
 rw [Int.toNat_natCast,←qG hlk.2] at hor
 have hwadd:IntKind.i64.wrap (b+(xf t want:Nat))=b+(xf t want:Nat):=IntWalk.i64_in _ (by omega)
 by_cases hr:b≤want∧want≤b+63
 ·have hsb:=hsb0 hr
  rcases Int.emod_two_eq want with hpar|hpar
  ·skip
   have hkd:bits .and .u64 ((wu t:Nat):Int) ((wE 0:Nat):Int)=((xE t 0:Nat):Int):=Go.u64_and_nat _ _ (xY ht) (qH _)
   have hmk:=Vh
   have hand1:bits .and .i64 want 1=0:=by rw [qZ];exact hpar
   rcases rq ht hne (w:=0) (by decide) hpar with ⟨k1,k2⟩|⟨k1,k2⟩
   ·have h2:=uA _ _ (xY ht) k2
    have k1':((xE t 0:Nat):Int)=0:=by rw [k1];rfl
    clear hsb0
    generalize ((xE t 0:Nat):Int)=Kd at *
    generalize ((wu t:Nat):Int)=F at *
    generalize ((wE 0:Nat):Int)=M at *
    generalize ((t+2 ^ xf t want:Nat):Int)=T2 at *
    generalize xf t want=K at *
    generalize (t:Int)=T at *
    refine z7 {} 0 Tryz.func146 fun Γ hW=>auC ?_
    repeat' first|refine auS ?_|(first|(with_reducible refine z6 h1 ?_)|(with_reducible refine z6 h2 ?_)|(simp only [sgu])|(simp only [hfr,hwr,hand1,hmk,hkd,hor,hwadd,hsb]))|refine auD ?_|(refine auW ?_ ?_<;>intro h<;>try exact auH)|(first|(simp only [Int.toNat_natCast])|fail)
    all_goals try exact auP
    all_goals first
     |(exfalso;simp at h;done)
     |skip
    all_goals refine auV ?_
    all_goals try exact zc
    all_goals try simp only [hsM] at *
   ·have h2:=uA _ _ (qq ht) k2
    have k1':=n5 k1
    clear hsb0
    generalize ((xE t 0:Nat):Int)=Kd at *
    generalize ((wu t:Nat):Int)=F at *
    generalize ((wE 0:Nat):Int)=M at *
    generalize ((t+2 ^ xf t want:Nat):Int)=T2 at *
    generalize xf t want=K at *
    generalize (t:Int)=T at *
    refine z7 {} 0 Tryz.func146 fun Γ hW=>auC ?_
    repeat' first|refine auS ?_|(first|(with_reducible refine z6 h1 ?_)|(with_reducible refine z6 h2 ?_)|(simp only [sgu])|(simp only [hfr,hwr,hand1,hmk,hkd,hor,hwadd,hsb]))|refine auD ?_|(refine auW ?_ ?_<;>intro h<;>try exact auH)|(first|(simp only [Int.toNat_natCast])|fail)
    all_goals try exact auP
    all_goals first
     |(exfalso;simp at h;done)
     |skip
    all_goals refine auV ?_
    all_goals try exact zc
    all_goals try simp only [hsM] at *
  ·skip
   have hkd:bits .and .u64 ((wu t:Nat):Int) ((wE 1:Nat):Int)=((xE t 1:Nat):Int):=Go.u64_and_nat _ _ (xY ht) (qH _)
   have hmk:=Vm
   have hand1:bits .and .i64 want 1=1:=by rw [qZ];exact hpar
   rcases rq ht hne (w:=1) (by decide) hpar with ⟨k1,k2⟩|⟨k1,k2⟩
   ·have h2:=uA _ _ (xY ht) k2
    have k1':((xE t 1:Nat):Int)=0:=by rw [k1];rfl
    clear hsb0
    generalize ((xE t 1:Nat):Int)=Kd at *
    generalize ((wu t:Nat):Int)=F at *
    generalize ((wE 1:Nat):Int)=M at *
    generalize ((t+2 ^ xf t want:Nat):Int)=T2 at *
    generalize xf t want=K at *
    generalize (t:Int)=T at *
    refine z7 {} 0 Tryz.func146 fun Γ hW=>auC ?_
    repeat' first|refine auS ?_|(first|(with_reducible refine z6 h1 ?_)|(with_reducible refine z6 h2 ?_)|(simp only [sgu])|(simp only [hfr,hwr,hand1,hmk,hkd,hor,hwadd,hsb]))|refine auD ?_|(refine auW ?_ ?_<;>intro h<;>try exact auH)|(first|(simp only [Int.toNat_natCast])|fail)
    all_goals try exact auP
    all_goals first
     |(exfalso;simp at h;done)
     |skip
    all_goals refine auV ?_
    all_goals try exact zc
    all_goals try simp only [hsM] at *
   ·have h2:=uA _ _ (qq ht) k2
    have k1':=n5 k1
    clear hsb0
    generalize ((xE t 1:Nat):Int)=Kd at *
    generalize ((wu t:Nat):Int)=F at *
    generalize ((wE 1:Nat):Int)=M at *
    generalize ((t+2 ^ xf t want:Nat):Int)=T2 at *
    generalize xf t want=K at *
    generalize (t:Int)=T at *
    refine z7 {} 0 Tryz.func146 fun Γ hW=>auC ?_
    repeat' first|refine auS ?_|(first|(with_reducible refine z6 h1 ?_)|(with_reducible refine z6 h2 ?_)|(simp only [sgu])|(simp only [hfr,hwr,hand1,hmk,hkd,hor,hwadd,hsb]))|refine auD ?_|(refine auW ?_ ?_<;>intro h<;>try exact auH)|(first|(simp only [Int.toNat_natCast])|fail)
    all_goals try exact auP
    all_goals first
     |(exfalso;simp at h;done)
     |skip
    all_goals refine auV ?_
    all_goals try exact zc
    all_goals try simp only [hsM] at *
 ·have hsb:True:=trivial
  rcases Int.emod_two_eq want with hpar|hpar
  ·skip
   have hkd:bits .and .u64 ((wu t:Nat):Int) ((wE 0:Nat):Int)=((xE t 0:Nat):Int):=Go.u64_and_nat _ _ (xY ht) (qH _)
   have hmk:=Vh
   have hand1:bits .and .i64 want 1=0:=by rw [qZ];exact hpar
   rcases rq ht hne (w:=0) (by decide) hpar with ⟨k1,k2⟩|⟨k1,k2⟩
   ·have h2:=uA _ _ (xY ht) k2
    have k1':((xE t 0:Nat):Int)=0:=by rw [k1];rfl
    clear hsb0
    generalize ((xE t 0:Nat):Int)=Kd at *
    generalize ((wu t:Nat):Int)=F at *
    generalize ((wE 0:Nat):Int)=M at *
    generalize ((t+2 ^ xf t want:Nat):Int)=T2 at *
    generalize xf t want=K at *
    generalize (t:Int)=T at *
    refine z7 {} 0 Tryz.func146 fun Γ hW=>auC ?_
    repeat' first|refine auS ?_|(first|(with_reducible refine z6 h1 ?_)|(with_reducible refine z6 h2 ?_)|(simp only [sgu])|(simp only [hfr,hwr,hand1,hmk,hkd,hor,hwadd,hsb]))|refine auD ?_|(refine auW ?_ ?_<;>intro h<;>try exact auH)|(first|(simp only [Int.toNat_natCast])|fail)
    all_goals try exact auP
    all_goals first
     |(exfalso;simp at h;done)
     |skip
    all_goals refine auV ?_
    all_goals try exact zc
    all_goals try simp only [hsM] at *
   ·have h2:=uA _ _ (qq ht) k2
    have k1':=n5 k1
    clear hsb0
    generalize ((xE t 0:Nat):Int)=Kd at *
    generalize ((wu t:Nat):Int)=F at *
    generalize ((wE 0:Nat):Int)=M at *
    generalize ((t+2 ^ xf t want:Nat):Int)=T2 at *
    generalize xf t want=K at *
    generalize (t:Int)=T at *
    refine z7 {} 0 Tryz.func146 fun Γ hW=>auC ?_
    repeat' first|refine auS ?_|(first|(with_reducible refine z6 h1 ?_)|(with_reducible refine z6 h2 ?_)|(simp only [sgu])|(simp only [hfr,hwr,hand1,hmk,hkd,hor,hwadd,hsb]))|refine auD ?_|(refine auW ?_ ?_<;>intro h<;>try exact auH)|(first|(simp only [Int.toNat_natCast])|fail)
    all_goals try exact auP
    all_goals first
     |(exfalso;simp at h;done)
     |skip
    all_goals refine auV ?_
    all_goals try exact zc
    all_goals try simp only [hsM] at *
  ·skip
   have hkd:bits .and .u64 ((wu t:Nat):Int) ((wE 1:Nat):Int)=((xE t 1:Nat):Int):=Go.u64_and_nat _ _ (xY ht) (qH _)
   have hmk:=Vm
   have hand1:bits .and .i64 want 1=1:=by rw [qZ];exact hpar
   rcases rq ht hne (w:=1) (by decide) hpar with ⟨k1,k2⟩|⟨k1,k2⟩
   ·have h2:=uA _ _ (xY ht) k2
    have k1':((xE t 1:Nat):Int)=0:=by rw [k1];rfl
    clear hsb0
    generalize ((xE t 1:Nat):Int)=Kd at *
    generalize ((wu t:Nat):Int)=F at *
    generalize ((wE 1:Nat):Int)=M at *
    generalize ((t+2 ^ xf t want:Nat):Int)=T2 at *
    generalize xf t want=K at *
    generalize (t:Int)=T at *
    refine z7 {} 0 Tryz.func146 fun Γ hW=>auC ?_
    repeat' first|refine auS ?_|(first|(with_reducible refine z6 h1 ?_)|(with_reducible refine z6 h2 ?_)|(simp only [sgu])|(simp only [hfr,hwr,hand1,hmk,hkd,hor,hwadd,hsb]))|refine auD ?_|(refine auW ?_ ?_<;>intro h<;>try exact auH)|(first|(simp only [Int.toNat_natCast])|fail)
    all_goals try exact auP
    all_goals first
     |(exfalso;simp at h;done)
     |skip
    all_goals refine auV ?_
    all_goals try exact zc
    all_goals try simp only [hsM] at *
   ·have h2:=uA _ _ (qq ht) k2
    have k1':=n5 k1
    clear hsb0
    generalize ((xE t 1:Nat):Int)=Kd at *
    generalize ((wu t:Nat):Int)=F at *
    generalize ((wE 1:Nat):Int)=M at *
    generalize ((t+2 ^ xf t want:Nat):Int)=T2 at *
    generalize xf t want=K at *
    generalize (t:Int)=T at *
    refine z7 {} 0 Tryz.func146 fun Γ hW=>auC ?_
    repeat' first|refine auS ?_|(first|(with_reducible refine z6 h1 ?_)|(with_reducible refine z6 h2 ?_)|(simp only [sgu])|(simp only [hfr,hwr,hand1,hmk,hkd,hor,hwadd,hsb]))|refine auD ?_|(refine auW ?_ ?_<;>intro h<;>try exact auH)|(first|(simp only [Int.toNat_natCast])|fail)
    all_goals try exact auP
    all_goals first
     |(exfalso;simp at h;done)
     |skip
    all_goals refine auV ?_
    all_goals try exact zc
    all_goals try simp only [hsM] at *
end Go.Proofs.YtaiileiodjicpaaGreatDoor.A
