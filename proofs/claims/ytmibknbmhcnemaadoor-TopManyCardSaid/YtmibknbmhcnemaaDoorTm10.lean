import Derived.Test.YtmibknbmhcnemaaDoorTm08
set_option linter.unusedVariables false
set_option linter.unusedSimpArgs false
namespace Go.Proofs.YtmibknbmhcnemaaDoor.A
attribute [local irreducible] zz Go
set_option maxRecDepth 100000
def rz (x k:Nat):Prop:=x.testBit k=true∧∀j,j<k→x.testBit j=false
theorem gp {x k:Nat} (h:rz x k):∃m,x=2 ^ k*(2*m+1):=by
 have h0:x % 2 ^ k=0:=by
  refine Nat.eq_of_testBit_eq fun i=>?_
  rw [Nat.testBit_mod_two_pow,Nat.zero_testBit]
  by_cases hi:i<k
  ·rw [h.2 i hi,Bool.and_false]
  ·rw [decide_eq_false hi,Bool.false_and]
 have h1:x / 2 ^ k % 2=1:=by
  have:=h.1
  rw [Nat.testBit_eq_decide_div_mod_eq] at this
  exact of_decide_eq_true this
 refine ⟨x / 2 ^ k / 2,?_⟩
 have h2:=Nat.div_add_mod x (2 ^ k)
 have h3:x / 2 ^ k=2*(x / 2 ^ k / 2)+1:=by omega
 rw [←h3]
 omega
theorem ia {x k:Nat} (hx:x<18446744073709551616) (h:rz x k):k<64:=by
 obtain ⟨m,rfl⟩:=gp h
 rcases Nat.lt_or_ge k 64 with hk|hk
 ·exact hk
 ·have h1:2 ^ 64≤2 ^ k:=Nat.pow_le_pow_right (by decide) hk
  have h2:2 ^ k*1≤2 ^ k*(2*m+1):=Nat.mul_le_mul_left _ (by omega)
  omega
theorem ar {x k:Nat} (hx:x<18446744073709551616) (h:rz x k):x &&& (18446744073709551616-x)=2 ^ k:=by
 have hk:=ia hx h
 obtain ⟨m,e⟩:=gp h
 have hp:0<2 ^ k:=Nat.two_pow_pos k
 have hx0:0<x:=by rw [e];exact Nat.mul_pos hp (by omega)
 have e1:18446744073709551616-x=2 ^ 64-((x-1)+1):=by rw [Nat.sub_add_cancel hx0]
 have e2:x-1=2 ^ k*(2*m)+(2 ^ k-1):=by
  rw [e,Nat.mul_add,Nat.mul_one]
  omega
 refine Nat.eq_of_testBit_eq fun i=>?_
 rw [Nat.testBit_and,e1,Nat.testBit_two_pow_sub_succ (by omega:x-1<2 ^ 64),e2,Nat.testBit_two_pow_mul_add _ (by omega),Nat.testBit_two_pow]
 by_cases hi:i<k
 ·rw [h.2 i hi,Bool.false_and,decide_eq_false (by omega)]
 ·rw [if_neg hi]
  by_cases hik:i=k
  ·subst hik
   rw [h.1,Nat.sub_self,decide_eq_true hk]
   simp
  ·have h1:x.testBit i=(2*m+1).testBit (i-k):=by
    have:=Nat.testBit_two_pow_mul_add (2*m+1) (b:=0) hp i
    rw [Nat.add_zero,←e,if_neg hi] at this
    exact this
   obtain ⟨s,hs⟩:∃s,i-k=s+1:=⟨i-k-1,by omega⟩
   rw [h1,hs,Nat.testBit_succ,Nat.testBit_succ,show (2*m+1) / 2=m by omega,show 2*m / 2=m by omega,show decide (k=i)=false from decide_eq_false (fun q=>hik q.symm)]
   cases m.testBit s<;>simp
theorem ru {t k:Nat} (h:t.testBit k=false):t+2 ^ k=t ||| 2 ^ k:=by
 have h1:¬t / 2 ^ k % 2=1:=by
  rw [Nat.testBit_eq_decide_div_mod_eq] at h
  exact of_decide_eq_false h
 have hp:0<2 ^ k:=Nat.two_pow_pos k
 have h2:=Nat.div_add_mod t (2 ^ k)
 have h3:t / 2 ^ k=2*(t / 2 ^ k / 2):=by omega
 have hr:t % 2 ^ k<2 ^ k:=Nat.mod_lt _ hp
 have e:t=2 ^ (k+1)*(t / 2 ^ k / 2)+t % 2 ^ k:=by
  rw [Nat.pow_succ,Nat.mul_assoc,←h3]
  exact h2.symm
 generalize t / 2 ^ k / 2=q at e
 generalize t % 2 ^ k=r at e hr
 have hlt:r<2 ^ (k+1):=by rw [Nat.pow_succ];omega
 have hlt2:2 ^ k+r<2 ^ (k+1):=by rw [Nat.pow_succ];omega
 rw [e,Nat.add_assoc,Nat.add_comm r,Nat.two_pow_add_eq_or_of_lt hlt2,Nat.two_pow_add_eq_or_of_lt hlt]
 have:=Nat.two_pow_add_eq_or_of_lt hr 1
 rw [Nat.mul_one] at this
 rw [this,Nat.or_assoc,Nat.or_comm (2 ^ k) r]
theorem Y7 {t k:Nat} (ht:t<18446744073709551616) (hk:k<64) (h:t.testBit k=false):t+2 ^ k<18446744073709551616:=by
 rw [ru h]
 exact Nat.or_lt_two_pow (n:=64) ht (Nat.pow_lt_pow_right (by decide) hk)
theorem aJ:∀k:Fin 64,iV[2 ^ k.val*285870213051353865 % 18446744073709551616 / 2 ^ 58]?=some k.val∧2 ^ k.val*285870213051353865 % 18446744073709551616 / 2 ^ 58<64:=by decide +kernel
theorem af:ol jC 0=some my:=rfl
theorem f_ {l:List DV} {i:Nat} {d:DV} (h:l[i]?=some d):∃r,yn l i=d::r:=by
 rw [yU]
 have hi:i<l.length:=(List.getElem?_eq_some_iff.1 h).1
 exact ⟨l.drop (i+1),by rw [List.drop_eq_getElem_cons hi,show l[i]=d from Option.some.inj ((List.getElem?_eq_getElem hi).symm.trans h)]⟩
theorem jb (n:Int):IntKind.u64.wrap n=n % 18446744073709551616:=by simp [IntKind.wrap,IntKind.signed,IntKind.bits]
theorem bj (x k:Nat) (hx:x<18446744073709551616) (h:rz x k):∃ (M Q Y Z:Int),IntKind.u64.wrap (0-(x:Int))=M∧bits .and .u64 (x:Int) M=Q∧IntKind.u64.wrap (Q*285870213051353865)=Y∧Y.fdiv (2 ^ (min 58 IntKind.u64.bits))=Z∧0≤Z∧Z<64∧(xb my)[Z.toNat]?=some (.v (.int .u8 (k:Int))):=by
 have hk:=ia hx h
 have hx0:0<x:=by
  rcases Nat.eq_zero_or_pos x with e|e
  ·subst e;simp [rz] at h
  ·exact e
 obtain ⟨hdb,hdl⟩:=aJ ⟨k,hk⟩
 dsimp only at hdb hdl
 have hneg:IntKind.u64.wrap (0-(x:Int))=((18446744073709551616-x:Nat):Int):=by rw [jb];omega
 refine ⟨((18446744073709551616-x:Nat):Int),((2 ^ k:Nat):Int),((2 ^ k*285870213051353865 % 18446744073709551616:Nat):Int),((2 ^ k*285870213051353865 % 18446744073709551616 / 2 ^ 58:Nat):Int),hneg,(Go.u64_and_nat x _ hx (by omega)).trans (by rw [ar hx h]),?_,?_,Int.natCast_nonneg _,Int.ofNat_lt.2 hdl,?_⟩
 ·generalize 2 ^ k=p
  rw [jb]
  omega
 ·rw [show ((2:Int) ^ (min 58 IntKind.u64.bits))=((2 ^ 58:Nat):Int) from rfl,Int.fdiv_eq_ediv_of_nonneg _ (Int.natCast_nonneg _),Int.natCast_ediv]
 ·rw [Int.toNat_natCast,wP]
  unfold my
  rw [List.getElem?_map,hdb]
  rfl
set_option maxHeartbeats 1000000 in
theorem ua (x k:Nat) (hx:x<18446744073709551616) (h:rz x k):zf Tryd.prog 97 [.v (.int .u64 (x:Int))] (.v (.int .i64 (k:Nat))):=by
 have hk:=ia hx h
 have hx0:¬(x:Int)=0:=fun e=>by
  obtain rfl:x=0:=by omega
  simp [rz] at h
 obtain ⟨M,Q,Y,Z,hneg,hand,hmul,hshr,hz0,hz1,hget⟩:=bj x k hx h
 obtain ⟨r,hr⟩:=f_ hget
 have gf:=af
 have hnt:my.all qn=true:=by rfl
 have hwk:IntKind.i64.wrap (k:Int)=(k:Int):=IntWalk.i64_in _ (by omega)
 generalize (x:Int)=X at *
 generalize my=L at *
 clear hget
 refine z4 {} 0 Tryd.func97 fun Γ hW=>auC ?_
 repeat' first|refine auS ?_|(simp only [hneg,hand,hmul,hshr,hwk])|refine auD ?_|(refine auW ?_ ?_<;>intro h<;>try exact auH)|(first|(simp only [gf])|(refine za hnt ?_)|(simp only [Int.toNat_natCast,Nat.mul_one,hr]))
 all_goals try exact auP
 all_goals refine auV ?_
 all_goals try exact z_
 all_goals try simp only [hsM] at *
end Go.Proofs.YtmibknbmhcnemaaDoor.A
