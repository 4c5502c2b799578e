import Derived.Test.YtmibknbmhcnemaaDoorTm10
import Derived.Laws.Bits128
set_option linter.unusedVariables false
set_option linter.unusedSimpArgs false
namespace Go.Proofs.YtmibknbmhcnemaaDoor.A
attribute [local irreducible] zz Go
set_option maxRecDepth 100000
def frB (t k:Nat):Bool:=!t.testBit k
def eB (want:Int) (k:Nat):Bool:=decide ((k:Int) % 2=want % 2)
def yV (t:Nat) (want:Int):Nat:=
 match (List.range 64).find? (fun k=>decide (frB t k=true∧eB want k=true)) with
 |some k=>k
 |none=>match (List.range 64).find? (frB t) with
  |some k=>k
  |none=>0
def xz (b:Int) (t:Nat) (want:Int):Nat:=if tkd b t want=false∧b≤want∧want≤b+63 then (want-b).toNat else yV t want
def vR (b:Int) (t:Nat) (want:Int):Int:=if pOk b then (if 0≤want∧want≤65535 then (if t=18446744073709551615 then 6 else 0) else 1) else 1
theorem nR {t:Nat} (ht:t<18446744073709551616):t=18446744073709551615↔∀k,k<64→t.testBit k=true:=by
 constructor
 ·rintro rfl k hk
  have:=Nat.testBit_two_pow_sub_one 64 k
  rw [show (18446744073709551615:Nat)=2 ^ 64-1 from rfl,this,decide_eq_true hk]
 ·intro h
  refine Nat.eq_of_testBit_eq fun k=>?_
  rw [show (18446744073709551615:Nat)=2 ^ 64-1 from rfl,Nat.testBit_two_pow_sub_one]
  rcases Nat.lt_or_ge k 64 with hk|hk
  ·rw [h k hk,decide_eq_true hk]
  ·rw [Nat.testBit_lt_two_pow (Nat.lt_of_lt_of_le ht (Nat.pow_le_pow_right (n:=2) (by decide) hk)),decide_eq_false (by omega)]
theorem m_ {t:Nat} (ht:t<18446744073709551616) (h:¬t=18446744073709551615):∃k,k<64∧(List.range 64).find? (frB t)=some k∧frB t k=true:=by
 cases hf:(List.range 64).find? (frB t) with
 |some k=>
  obtain ⟨h1,h2,_⟩:=List.find?_range_eq_some.1 hf
  exact ⟨k,List.mem_range.1 h2,rfl,h1⟩
 |none=>
  refine absurd ((nR ht).2 fun k hk=>?_) h
  have:=List.find?_range_eq_none.1 hf k hk
  simpa [frB] using this
theorem fc {t:Nat} (ht:t<18446744073709551616) (h:¬t=18446744073709551615) (want:Int):yV t want<64∧t.testBit (yV t want)=false:=by
 unfold yV
 split
 ·rename_i k hk
  obtain ⟨h1,h2,_⟩:=List.find?_range_eq_some.1 hk
  have h3:=(of_decide_eq_true h1).1
  exact ⟨List.mem_range.1 h2,by simpa [frB] using h3⟩
 ·obtain ⟨k,h1,h2,h3⟩:=m_ ht h
  rw [h2]
  exact ⟨h1,by simpa [frB] using h3⟩
theorem qp {b:Int} {t:Nat} (ht:t<18446744073709551616) (h:¬t=18446744073709551615) (want:Int):xz b t want<64∧t.testBit (xz b t want)=false:=by
 unfold xz
 split
 ·rename_i hc
  obtain ⟨h1,h2,h3⟩:=hc
  unfold tkd at h1
  rw [decide_eq_true ⟨h2,h3⟩,Bool.true_and] at h1
  exact ⟨by omega,h1⟩
 ·exact fc ht h want
def xN (t:Nat):Nat:=18446744073709551615 ^^^ t
theorem xA {t:Nat} (ht:t<18446744073709551616):xN t<18446744073709551616:=Nat.xor_lt_two_pow (n:=64) (by decide) ht
theorem uy {t:Nat} (ht:t<18446744073709551616) {k:Nat} (hk:k<64):(xN t).testBit k=frB t k:=by
 unfold xN frB
 rw [Nat.testBit_xor,show (18446744073709551615:Nat)=2 ^ 64-1 from rfl,Nat.testBit_two_pow_sub_one,decide_eq_true hk,Bool.true_xor]
def wg (w:Nat):Nat:=if w=0 then 6148914691236517205 else 12297829382473034410
theorem dD:∀k:Fin 64,(wg 0).testBit k.val=decide (k.val % 2=0)∧(wg 1).testBit k.val=decide (k.val % 2=1):=by decide +kernel
theorem rK (w:Nat):wg w<18446744073709551616:=by unfold wg;split<;>decide
def xe (t w:Nat):Nat:=xN t &&& wg w
theorem rC {t w:Nat} (ht:t<18446744073709551616):xe t w<18446744073709551616:=Nat.and_lt_two_pow (n:=64) _ (rK w)
theorem kM {t w:Nat} (hw:w=0∨w=1) (ht:t<18446744073709551616) {k:Nat} (hk:k<64):(xe t w).testBit k=decide (frB t k=true∧k % 2=w):=by
 unfold xe
 rw [Nat.testBit_and,uy ht hk]
 have:=dD ⟨k,hk⟩
 rcases hw with rfl|rfl
 ·rw [this.1]
  cases frB t k<;>simp
 ·rw [this.2]
  cases frB t k<;>simp
theorem sr {t:Nat} (ht:t<18446744073709551616) (h:¬t=18446744073709551615) {want:Int} {w:Nat} (hw:w=0∨w=1) (hwant:want % 2=(w:Int)) :
  (xe t w=0∧rz (xN t) (yV t want))∨(¬xe t w=0∧rz (xe t w) (yV t want)):=by
 have hp:∀k,eB want k=decide (k % 2=w):=fun k=>by
  unfold eB
  rw [hwant]
  exact decide_eq_decide.2 (by omega)
 unfold yV
 cases hf:(List.range 64).find? (fun k=>decide (frB t k=true∧eB want k=true)) with
 |some k=>
  obtain ⟨h1,h2,h3⟩:=List.find?_range_eq_some.1 hf
  have hk:=List.mem_range.1 h2
  have hbit:∀j,j<64→(xe t w).testBit j=decide (frB t j=true∧eB want j=true):=fun j hj=>by
   rw [kM hw ht hj]
   exact decide_eq_decide.2 (by rw [hp j];simp)
  refine .inr ⟨fun e=>?_,by rw [hbit k hk];exact h1,fun j hj=>?_⟩
  ·have:=hbit k hk
   rw [e,Nat.zero_testBit] at this
   rw [←this] at h1
   exact absurd h1 (by decide)
  ·have hj':j<k:=hj
   have:=h3 j hj'
   rw [hbit j (by omega)]
   generalize decide (frB t j=true∧eB want j=true)=q at *
   cases q<;>simp_all
 |none=>
  have hn:=List.find?_range_eq_none.1 hf
  refine .inl ⟨?_,?_⟩
  ·refine Nat.eq_of_testBit_eq fun j=>?_
   rw [Nat.zero_testBit]
   rcases Nat.lt_or_ge j 64 with hj|hj
   ·rw [kM hw ht hj]
    have:=hn j hj
    rw [hp j,Bool.not_eq_true',decide_eq_false_iff_not,decide_eq_true_eq] at this
    exact decide_eq_false this
   ·exact Nat.testBit_lt_two_pow (Nat.lt_of_lt_of_le (rC ht) (Nat.pow_le_pow_right (n:=2) (by decide) hj))
  ·obtain ⟨k,h1,h2,h3⟩:=m_ ht h
   rw [h2]
   obtain ⟨_,_,g3⟩:=List.find?_range_eq_some.1 h2
   refine ⟨by rw [uy ht h1];exact h3,fun j hj=>?_⟩
   have hj':j<k:=hj
   have:=g3 j hj'
   rw [uy ht (by omega)]
   simpa using this
theorem rW (n:Int):bits .and .i64 n 1=n % 2:=by
 have h1:(BitVec.ofInt 64 1).toNat=2 ^ 1-1:=by decide
 have key:(BitVec.ofInt 64 n &&& BitVec.ofInt 64 1).toNat=(n % ((2 ^ 64:Nat):Int)).toNat % 2 ^ 1:=by
  rw [BitVec.toNat_and,BitVec.toNat_ofInt,h1,Nat.and_two_pow_sub_one_eq_mod]
 show IntKind.i64.wrap ((BitVec.ofInt 64 n &&& BitVec.ofInt 64 1).toNat:Nat)=n % 2
 rw [key,IntKind.wrap_i64]
 omega
theorem cE {S:Nat} (hS:S<18446744073709551616) {r:Int} (h0:0≤r) (h1:r<64):bits .or .u64 (S:Int) (IntKind.u64.wrap (1*2 ^ (min r.toNat IntKind.u64.bits)))=((S ||| 2 ^ r.toNat:Nat):Int):=by
 have hm:min r.toNat IntKind.u64.bits=r.toNat:=Nat.min_eq_left (by show r.toNat≤64;omega)
 have h2:((2:Int) ^ r.toNat)=((2 ^ r.toNat:Nat):Int):=by simp
 have h3:2 ^ r.toNat<2 ^ 64:=Nat.pow_lt_pow_right (by decide) (by omega)
 have h4:2 ^ r.toNat<18446744073709551616:=h3
 rw [hm,Int.one_mul,h2,IntWalk.u64_in _ ⟨Int.natCast_nonneg _,Int.ofNat_le.2 (Nat.le_of_lt_succ h4)⟩]
 exact u64_or_nat S (2 ^ r.toNat) hS h4
abbrev js (b:Int) (t:Nat) (p e:Int):DV:=.tup [.agg [.v (.int .i64 b),.v (.int .u64 (t:Int))],.v (.int .i64 p),.v (.int .i64 e)]
set_option maxHeartbeats 2000000 in
theorem kf (b:Int) (t:Nat) (want:Int) (hne:¬vR b t want=0):zf Tryd.prog 88 [.agg [.v (.int .i64 b),.v (.int .u64 (t:Int))],.v (.int .i64 want)] (js 0 0 0 (vR b t want)):=by
 have h1:=yC b t
 unfold vR at hne ⊢
 unfold pE at h1
 cases hb:pOk b with
 |false=>
  rw [hb] at h1
  rw [if_neg (by decide)] at h1 ⊢
  refine z4 {} 0 Tryd.func88 fun Γ hW=>auC ?_
  repeat' first|refine auS ?_|(first|(with_reducible refine z0 h1 ?_))|refine auD ?_|(refine auW ?_ ?_<;>intro h<;>try exact auH)|fail
  all_goals try exact auP
  all_goals first
   |(exfalso;simp at h;done)
   |skip
  all_goals refine auV ?_
  all_goals try exact z_
  all_goals try simp only [hsM] at *
  all_goals rfl
 |true=>
  rw [hb] at h1 hne
  rw [if_pos rfl] at h1 hne ⊢
  by_cases hw:0≤want∧want≤65535
  ·rw [if_pos hw] at hne ⊢
   by_cases hf:t=18446744073709551615
   ·rw [if_pos hf]
    have hf':(t:Int)=18446744073709551615:=by omega
    clear hne
    generalize (t:Int)=T at *
    refine z4 {} 0 Tryd.func88 fun Γ hW=>auC ?_
    repeat' first|refine auS ?_|(first|(with_reducible refine z0 h1 ?_))|refine auD ?_|(refine auW ?_ ?_<;>intro h<;>try exact auH)|fail
    all_goals try exact auP
    all_goals first
     |(exfalso;simp at h;done)
     |skip
    all_goals refine auV ?_
    all_goals try exact z_
    all_goals try simp only [hsM] at *
    all_goals rfl
   ·rw [if_neg hf] at hne
    exact absurd rfl hne
  ·rw [if_neg hw]
   refine z4 {} 0 Tryd.func88 fun Γ hW=>auC ?_
   repeat' first|refine auS ?_|(first|(with_reducible refine z0 h1 ?_))|refine auD ?_|(refine auW ?_ ?_<;>intro h<;>try exact auH)|fail
   all_goals try exact auP
   all_goals first
    |(exfalso;simp at h;done)
    |skip
   all_goals refine auV ?_
   all_goals try exact z_
   all_goals try simp only [hsM] at *
   all_goals rfl
theorem mq {b:Int} {t:Nat} {want:Int} (h:vR b t want=0):pOk b=true∧(0≤want∧want≤65535)∧¬t=18446744073709551615:=by
 unfold vR at h
 split at h
 ·rename_i h1
  split at h
  ·rename_i h2
   split at h
   ·exact absurd h (by decide)
   ·rename_i h3
    exact ⟨h1,h2,h3⟩
  ·exact absurd h (by decide)
 ·exact absurd h (by decide)
theorem j0 {b:Int} (h:pOk b=true):(64≤b∧b≤65472)∧b % 64=0:=by
 unfold pOk at h
 have:=of_decide_eq_true h
 rw [Int.tmod_eq_emod_of_nonneg (by omega)] at this
 omega
theorem sgu:IntKind.u64.signed=false:=rfl
theorem gz (t:Nat) (ht:t<18446744073709551616):bits .xor .u64 IntKind.u64.max (t:Int)=(xN t:Int):=Go.u64_xor_nat 18446744073709551615 t (by decide) ht
set_option maxHeartbeats 2000000 in
theorem nh (b:Int) (t:Nat) (want:Int) (ht:t<18446744073709551616) (h0:vR b t want=0) (hc:tkd b t want=false∧b≤want∧want≤b+63):zf Tryd.prog 88 [.agg [.v (.int .i64 b),.v (.int .u64 (t:Int))],.v (.int .i64 want)] (js b (t+2 ^ xz b t want) (b+xz b t want) 0):=by
 obtain ⟨hb,hw,hne⟩:=mq h0
 obtain ⟨hbr,hbm⟩:=j0 hb
 have h1:=yC b t
 unfold pE at h1
 rw [if_pos hb] at h1
 have hlk:=qp (b:=b) ht hne want
 have hK:xz b t want=(want-b).toNat:=by unfold xz;rw [if_pos hc]
 rw [hK] at hlk ⊢
 unfold js
 obtain ⟨c1,c2,c3⟩:=hc
 have hne':¬(t:Int)=18446744073709551615:=by omega
 have hsb:=lF (xA ht) (r:=want-b) (by omega) (by omega)
 rw [uy ht hlk.1,if_pos (by unfold frB;rw [hlk.2];rfl)] at hsb
 have hfr:=gz t ht
 have hwr:IntKind.i64.wrap (want-b)=want-b:=IntWalk.i64_in _ (by omega)
 have hor:=cE ht (r:=want-b) (by omega) (by omega)
 rw [←ru hlk.2] at hor
 have hwadd:IntKind.i64.wrap (b+(want-b))=b+((want-b).toNat:Nat):=(IntWalk.i64_in _ (by omega)).trans (by omega)
 have hand1:True:=trivial
 have hmk:True:=trivial
 have hkd:True:=trivial
 have h2:=h1
 generalize ((xN t:Nat):Int)=F at *
 generalize ((t+2 ^ (want-b).toNat:Nat):Int)=T2 at *
 generalize (t:Int)=T at *
 refine z4 {} 0 Tryd.func88 fun Γ hW=>auC ?_
 repeat' first|refine auS ?_|(first|(with_reducible refine z0 h1 ?_)|(with_reducible refine z0 h2 ?_)|(simp only [sgu])|(simp only [hfr,hwr,hand1,hmk,hkd,hor,hwadd,hsb]))|refine auD ?_|(refine auW ?_ ?_<;>intro h<;>try exact auH)|(first|(simp only [Int.toNat_natCast])|fail)
 all_goals try exact auP
 all_goals first
  |(exfalso;simp at h;done)
  |skip
 all_goals refine auV ?_
 all_goals try exact z_
 all_goals try simp only [hsM] at *
theorem ZI:IntKind.u64.wrap (6148914691236517205*2 ^ (min 0 IntKind.u64.bits))=((wg 0:Nat):Int):=by decide +kernel
theorem ZK:IntKind.u64.wrap (6148914691236517205*2 ^ (min 1 IntKind.u64.bits))=((wg 1:Nat):Int):=by decide +kernel
theorem pn {n:Nat} (h:¬n=0):¬(n:Int)=0:=by omega
set_option maxHeartbeats 4000000 in
theorem pK (b:Int) (t:Nat) (want:Int) (ht:t<18446744073709551616) (h0:vR b t want=0) (hc:¬(tkd b t want=false∧b≤want∧want≤b+63)):zf Tryd.prog 88 [.agg [.v (.int .i64 b),.v (.int .u64 (t:Int))],.v (.int .i64 want)] (js b (t+2 ^ xz b t want) (b+xz b t want) 0):=by
 obtain ⟨hb,hw,hne⟩:=mq h0
 obtain ⟨hbr,hbm⟩:=j0 hb
 have h1:=yC b t
 unfold pE at h1
 rw [if_pos hb] at h1
 have hlk:=qp (b:=b) ht hne want
 have hK:xz b t want=yV t want:=by unfold xz;rw [if_neg hc]
 rw [hK] at hlk ⊢
 unfold js
 have hne':¬(t:Int)=18446744073709551615:=by omega
 have hsb0:b≤want∧want≤b+63→bits .and .u64 (((xN t:Nat):Int).fdiv (2 ^ (min (want-b).toNat IntKind.u64.bits))) 1=0:=fun hr=>by
  have hs:=lF (xA ht) (r:=want-b) (by omega) (by omega)
  rw [uy ht (by omega)] at hs
  have htk:tkd b t want=true:=by
   cases hq:tkd b t want with
   |true=>rfl
   |false=>exact absurd ⟨hq,hr⟩ hc
  unfold tkd at htk
  rw [decide_eq_true hr,Bool.true_and] at htk
  rw [hs,if_neg (by unfold frB;rw [htk];decide)]
 have hfr:=gz t ht
 have hwr:IntKind.i64.wrap (want-b)=want-b:=IntWalk.i64_in _ (by omega)
 have hor:=cE ht (r:=((yV t want:Nat):Int)) (by omega) (by omega)
 rw [Int.toNat_natCast,←ru hlk.2] at hor
 have hwadd:IntKind.i64.wrap (b+(yV t want:Nat))=b+(yV t want:Nat):=IntWalk.i64_in _ (by omega)
 by_cases hr:b≤want∧want≤b+63
 ·have hsb:=hsb0 hr
  rcases Int.emod_two_eq want with hpar|hpar
  ·skip
   have hkd:bits .and .u64 ((xN t:Nat):Int) ((wg 0:Nat):Int)=((xe t 0:Nat):Int):=Go.u64_and_nat _ _ (xA ht) (rK _)
   have hmk:=ZI
   have hand1:bits .and .i64 want 1=0:=by rw [rW];exact hpar
   rcases sr ht hne (w:=0) (by decide) hpar with ⟨k1,k2⟩|⟨k1,k2⟩
   ·have h2:=ua _ _ (xA ht) k2
    have k1':((xe t 0:Nat):Int)=0:=by rw [k1];rfl
    clear hsb0
    generalize ((xe t 0:Nat):Int)=Kd at *
    generalize ((xN t:Nat):Int)=F at *
    generalize ((wg 0:Nat):Int)=M at *
    generalize ((t+2 ^ yV t want:Nat):Int)=T2 at *
    generalize yV t want=K at *
    generalize (t:Int)=T at *
    refine z4 {} 0 Tryd.func88 fun Γ hW=>auC ?_
    repeat' first|refine auS ?_|(first|(with_reducible refine z0 h1 ?_)|(with_reducible refine z0 h2 ?_)|(simp only [sgu])|(simp only [hfr,hwr,hand1,hmk,hkd,hor,hwadd,hsb]))|refine auD ?_|(refine auW ?_ ?_<;>intro h<;>try exact auH)|(first|(simp only [Int.toNat_natCast])|fail)
    all_goals try exact auP
    all_goals first
     |(exfalso;simp at h;done)
     |skip
    all_goals refine auV ?_
    all_goals try exact z_
    all_goals try simp only [hsM] at *
   ·have h2:=ua _ _ (rC ht) k2
    have k1':=pn k1
    clear hsb0
    generalize ((xe t 0:Nat):Int)=Kd at *
    generalize ((xN t:Nat):Int)=F at *
    generalize ((wg 0:Nat):Int)=M at *
    generalize ((t+2 ^ yV t want:Nat):Int)=T2 at *
    generalize yV t want=K at *
    generalize (t:Int)=T at *
    refine z4 {} 0 Tryd.func88 fun Γ hW=>auC ?_
    repeat' first|refine auS ?_|(first|(with_reducible refine z0 h1 ?_)|(with_reducible refine z0 h2 ?_)|(simp only [sgu])|(simp only [hfr,hwr,hand1,hmk,hkd,hor,hwadd,hsb]))|refine auD ?_|(refine auW ?_ ?_<;>intro h<;>try exact auH)|(first|(simp only [Int.toNat_natCast])|fail)
    all_goals try exact auP
    all_goals first
     |(exfalso;simp at h;done)
     |skip
    all_goals refine auV ?_
    all_goals try exact z_
    all_goals try simp only [hsM] at *
  ·skip
   have hkd:bits .and .u64 ((xN t:Nat):Int) ((wg 1:Nat):Int)=((xe t 1:Nat):Int):=Go.u64_and_nat _ _ (xA ht) (rK _)
   have hmk:=ZK
   have hand1:bits .and .i64 want 1=1:=by rw [rW];exact hpar
   rcases sr ht hne (w:=1) (by decide) hpar with ⟨k1,k2⟩|⟨k1,k2⟩
   ·have h2:=ua _ _ (xA ht) k2
    have k1':((xe t 1:Nat):Int)=0:=by rw [k1];rfl
    clear hsb0
    generalize ((xe t 1:Nat):Int)=Kd at *
    generalize ((xN t:Nat):Int)=F at *
    generalize ((wg 1:Nat):Int)=M at *
    generalize ((t+2 ^ yV t want:Nat):Int)=T2 at *
    generalize yV t want=K at *
    generalize (t:Int)=T at *
    refine z4 {} 0 Tryd.func88 fun Γ hW=>auC ?_
    repeat' first|refine auS ?_|(first|(with_reducible refine z0 h1 ?_)|(with_reducible refine z0 h2 ?_)|(simp only [sgu])|(simp only [hfr,hwr,hand1,hmk,hkd,hor,hwadd,hsb]))|refine auD ?_|(refine auW ?_ ?_<;>intro h<;>try exact auH)|(first|(simp only [Int.toNat_natCast])|fail)
    all_goals try exact auP
    all_goals first
     |(exfalso;simp at h;done)
     |skip
    all_goals refine auV ?_
    all_goals try exact z_
    all_goals try simp only [hsM] at *
   ·have h2:=ua _ _ (rC ht) k2
    have k1':=pn k1
    clear hsb0
    generalize ((xe t 1:Nat):Int)=Kd at *
    generalize ((xN t:Nat):Int)=F at *
    generalize ((wg 1:Nat):Int)=M at *
    generalize ((t+2 ^ yV t want:Nat):Int)=T2 at *
    generalize yV t want=K at *
    generalize (t:Int)=T at *
    refine z4 {} 0 Tryd.func88 fun Γ hW=>auC ?_
    repeat' first|refine auS ?_|(first|(with_reducible refine z0 h1 ?_)|(with_reducible refine z0 h2 ?_)|(simp only [sgu])|(simp only [hfr,hwr,hand1,hmk,hkd,hor,hwadd,hsb]))|refine auD ?_|(refine auW ?_ ?_<;>intro h<;>try exact auH)|(first|(simp only [Int.toNat_natCast])|fail)
    all_goals try exact auP
    all_goals first
     |(exfalso;simp at h;done)
     |skip
    all_goals refine auV ?_
    all_goals try exact z_
    all_goals try simp only [hsM] at *
 ·have hsb:True:=trivial
  rcases Int.emod_two_eq want with hpar|hpar
  ·skip
   have hkd:bits .and .u64 ((xN t:Nat):Int) ((wg 0:Nat):Int)=((xe t 0:Nat):Int):=Go.u64_and_nat _ _ (xA ht) (rK _)
   have hmk:=ZI
   have hand1:bits .and .i64 want 1=0:=by rw [rW];exact hpar
   rcases sr ht hne (w:=0) (by decide) hpar with ⟨k1,k2⟩|⟨k1,k2⟩
   ·have h2:=ua _ _ (xA ht) k2
    have k1':((xe t 0:Nat):Int)=0:=by rw [k1];rfl
    clear hsb0
    generalize ((xe t 0:Nat):Int)=Kd at *
    generalize ((xN t:Nat):Int)=F at *
    generalize ((wg 0:Nat):Int)=M at *
    generalize ((t+2 ^ yV t want:Nat):Int)=T2 at *
    generalize yV t want=K at *
    generalize (t:Int)=T at *
    refine z4 {} 0 Tryd.func88 fun Γ hW=>auC ?_
    repeat' first|refine auS ?_|(first|(with_reducible refine z0 h1 ?_)|(with_reducible refine z0 h2 ?_)|(simp only [sgu])|(simp only [hfr,hwr,hand1,hmk,hkd,hor,hwadd,hsb]))|refine auD ?_|(refine auW ?_ ?_<;>intro h<;>try exact auH)|(first|(simp only [Int.toNat_natCast])|fail)
    all_goals try exact auP
    all_goals first
     |(exfalso;simp at h;done)
     |skip
    all_goals refine auV ?_
    all_goals try exact z_
    all_goals try simp only [hsM] at *
   ·have h2:=ua _ _ (rC ht) k2
    have k1':=pn k1
    clear hsb0
    generalize ((xe t 0:Nat):Int)=Kd at *
    generalize ((xN t:Nat):Int)=F at *
    generalize ((wg 0:Nat):Int)=M at *
    generalize ((t+2 ^ yV t want:Nat):Int)=T2 at *
    generalize yV t want=K at *
    generalize (t:Int)=T at *
    refine z4 {} 0 Tryd.func88 fun Γ hW=>auC ?_
    repeat' first|refine auS ?_|(first|(with_reducible refine z0 h1 ?_)|(with_reducible refine z0 h2 ?_)|(simp only [sgu])|(simp only [hfr,hwr,hand1,hmk,hkd,hor,hwadd,hsb]))|refine auD ?_|(refine auW ?_ ?_<;>intro h<;>try exact auH)|(first|(simp only [Int.toNat_natCast])|fail)
    all_goals try exact auP
    all_goals first
     |(exfalso;simp at h;done)
     |skip
    all_goals refine auV ?_
    all_goals try exact z_
    all_goals try simp only [hsM] at *
  ·skip
   have hkd:bits .and .u64 ((xN t:Nat):Int) ((wg 1:Nat):Int)=((xe t 1:Nat):Int):=Go.u64_and_nat _ _ (xA ht) (rK _)
   have hmk:=ZK
   have hand1:bits .and .i64 want 1=1:=by rw [rW];exact hpar
   rcases sr ht hne (w:=1) (by decide) hpar with ⟨k1,k2⟩|⟨k1,k2⟩
   ·have h2:=ua _ _ (xA ht) k2
    have k1':((xe t 1:Nat):Int)=0:=by rw [k1];rfl
    clear hsb0
    generalize ((xe t 1:Nat):Int)=Kd at *
    generalize ((xN t:Nat):Int)=F at *
    generalize ((wg 1:Nat):Int)=M at *
    generalize ((t+2 ^ yV t want:Nat):Int)=T2 at *
    generalize yV t want=K at *
    generalize (t:Int)=T at *
    refine z4 {} 0 Tryd.func88 fun Γ hW=>auC ?_
    repeat' first|refine auS ?_|(first|(with_reducible refine z0 h1 ?_)|(with_reducible refine z0 h2 ?_)|(simp only [sgu])|(simp only [hfr,hwr,hand1,hmk,hkd,hor,hwadd,hsb]))|refine auD ?_|(refine auW ?_ ?_<;>intro h<;>try exact auH)|(first|(simp only [Int.toNat_natCast])|fail)
    all_goals try exact auP
    all_goals first
     |(exfalso;simp at h;done)
     |skip
    all_goals refine auV ?_
    all_goals try exact z_
    all_goals try simp only [hsM] at *
   ·have h2:=ua _ _ (rC ht) k2
    have k1':=pn k1
    clear hsb0
    generalize ((xe t 1:Nat):Int)=Kd at *
    generalize ((xN t:Nat):Int)=F at *
    generalize ((wg 1:Nat):Int)=M at *
    generalize ((t+2 ^ yV t want:Nat):Int)=T2 at *
    generalize yV t want=K at *
    generalize (t:Int)=T at *
    refine z4 {} 0 Tryd.func88 fun Γ hW=>auC ?_
    repeat' first|refine auS ?_|(first|(with_reducible refine z0 h1 ?_)|(with_reducible refine z0 h2 ?_)|(simp only [sgu])|(simp only [hfr,hwr,hand1,hmk,hkd,hor,hwadd,hsb]))|refine auD ?_|(refine auW ?_ ?_<;>intro h<;>try exact auH)|(first|(simp only [Int.toNat_natCast])|fail)
    all_goals try exact auP
    all_goals first
     |(exfalso;simp at h;done)
     |skip
    all_goals refine auV ?_
    all_goals try exact z_
    all_goals try simp only [hsM] at *
end Go.Proofs.YtmibknbmhcnemaaDoor.A
