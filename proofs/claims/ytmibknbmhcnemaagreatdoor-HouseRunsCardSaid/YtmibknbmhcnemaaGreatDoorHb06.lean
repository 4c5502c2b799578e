import Derived.Test.YtmibknbmhcnemaaGreatDoorHb05
set_option linter.unusedVariables false
set_option linter.unusedSimpArgs false
namespace Go.Proofs.YtmibknbmhcnemaaGreatDoor.R
attribute [local irreducible] zF Go
set_option maxRecDepth 100000
theorem jH (k:Nat):(2:Int) ^ k=((2 ^ k:Nat):Int):=by simp
theorem z6 (n lo hi:Int):zd Tryz.prog 48 [.v (.int .i64 n),.v (.int .i64 lo),.v (.int .i64 hi)] (.v (.bool (decide (lo≤n∧n≤hi)))):=by
 refine z4 {} 0 Tryz.func48 fun Γ hW=>auC ?_
 repeat' first|refine auS ?_|fail|refine auD ?_|(refine auW ?_ ?_<;>intro h<;>try exact auH)|fail
 all_goals refine auV ?_
 all_goals try exact z8
 all_goals try simp only [hsM] at *
 ·exact zQ (by simp [h])
 ·exact zQ (by simp [h])
def WC:ByteArray:={ data:=#[48,49,50,51,52,53,54,55,56,57] }
theorem Wg (d:Nat) (h:d<10):WC.extract d (d+1)=mkS [UInt8.ofNat (48+d)]:=by
 have:∀m:Fin 10,WC.extract m.val (m.val+1)=mkS [UInt8.ofNat (48+m.val)]:=by
  intro m
  match m with
  |0=>rfl
  |1=>rfl
  |2=>rfl
  |3=>rfl
  |4=>rfl
  |5=>rfl
  |6=>rfl
  |7=>rfl
  |8=>rfl
  |9=>rfl
 exact this ⟨d,h⟩
theorem Zp (d:Nat) (h:d<10):zd Tryz.prog 195 [.v (.int .i64 (d:Nat))] (.v (.string (mkS [UInt8.ofNat (48+d)]))):=by
 have e1:IntKind.i64.wrap ((d:Int)+1)=((d+1:Nat):Int):=by rw [IntWalk.i64_in _ (by omega)];omega
 have e2:=Wg d h
 have e3:({ data:=#[48,49,50,51,52,53,54,55,56,57] }:ByteArray)=WC:=rfl
 have e4:WC.size=10:=rfl
 refine z4 {} 0 Tryz.func195 fun Γ hW=>auC ?_
 repeat' first|refine auS ?_|(simp only [e1,e2,e3,e4,Int.toNat_natCast])|refine auD ?_|(refine auW ?_ ?_<;>intro h<;>try exact auH)|fail
 all_goals try exact auP
 all_goals refine auV ?_
 all_goals try exact z8
 all_goals try simp only [hsM] at *
def tE (a n:Nat):List UInt8:=(List.range n).map (fun i=>UInt8.ofNat (48+a / 2 ^ (31-i) % 2))
theorem jc (a n:Nat):(tE a n).length=n:=by simp [tE]
theorem fT (a n:Nat):tE a (n+1)=tE a n++[UInt8.ofNat (48+a / 2 ^ (31-n) % 2)]:=by simp [tE,List.range_succ]
theorem fk (a:Nat) (ha:a<4294967296):zd Tryz.prog 189 [.v (.int .u32 (a:Nat)),.v (.int .i64 32)] (.v (.string (mkS (tE a 32)))):=by
 have e1:IntKind.i64.wrap (a:Int)=(a:Int):=IntWalk.i64_in _ (by omega)
 refine z4 {} 0 Tryz.func189 fun Γ hW=>auC ?_
 repeat' first|refine auS ?_|fail|refine auD ?_|(refine auW ?_ ?_<;>intro h<;>try exact auH)|fail
 refine ze (α:=Nat) (fun i=>[(⟨.d0,.d0,.d5⟩,.v (.string (mkS (tE a i)))),(⟨.d0,.d1,.d0⟩,.v (.int .i64 (i:Nat)))]) (fun _=>[]) (fun _=>Γ.g0) (fun i=>32-i) (fun i=>i≤32) 0 (Nat.zero_le _) ?_ ?_
 ·skip
  refine zb ?_ ?_ (Nat.le_refl _)
  all_goals first|refine auE ?_|exact zi
  all_goals repeat' first|exact trivial|exact rfl|apply And.intro
 intro i hi
 dsimp only at hi ⊢
 refine auL ?_
 by_cases hlt:i<32
 ·have hp:2 ^ (31-i)≤2 ^ 31:=Nat.pow_le_pow_right (by decide) (by omega)
  have hp0:0<2 ^ (31-i):=Nat.two_pow_pos _
  have e2:IntKind.i64.wrap (31-(i:Int))=((31-i:Nat):Int):=by rw [IntWalk.i64_in _ (by omega)];omega
  have e3:min (31-i) IntKind.i64.bits=31-i:=Nat.min_eq_left (by show 31-i≤64;omega)
  have e4:IntKind.i64.wrap (1*2 ^ (31-i))=((2 ^ (31-i):Nat):Int):=by rw [Int.one_mul,jH];exact IntWalk.i64_in _ (by omega)
  have e5:((2 ^ (31-i):Nat):Int)≠0:=by omega
  have e6:IntKind.i64.wrap ((a:Int).tdiv ((2 ^ (31-i):Nat):Int))=((a / 2 ^ (31-i):Nat):Int):=by
   rw [←Int.ofNat_tdiv]
   have hq:=Nat.div_le_self a (2 ^ (31-i))
   revert hq
   generalize a / 2 ^ (31-i)=q
   intro hq
   exact IntWalk.i64_in _ (by omega)
  have e7:((a / 2 ^ (31-i):Nat):Int).tmod 2=((a / 2 ^ (31-i) % 2:Nat):Int):=(Int.ofNat_tmod _ 2).symm
  have hn:=Zp (a / 2 ^ (31-i) % 2) (by omega)
  have hlen:=jc a i
  repeat' first|refine auS ?_|(first|(simp only [e1,e2,e3,e4,e6,e7,zf,Int.toNat_natCast])|(refine z7 e5 ?_)|(with_reducible refine z0 hn ?_))|refine auD ?_|(refine auW ?_ ?_<;>intro h<;>try exact auH)|(first|(refine z7 (by simp only [z5,hlen,List.length_singleton];omega) ?_)|fail)
  all_goals try exact auP
  refine za ⟨i+1,hlt,by omega,?_⟩
  refine zb ?_ ?_ (Nat.le_refl _)
  all_goals first|refine auE ?_|exact zi
  all_goals repeat' first|exact trivial|exact rfl|apply And.intro
  all_goals first
   |exact zB ((IntWalk.i64_in _ (by omega)).trans (by omega))
   |rw [fT]
 ·obtain rfl:i=32:=by omega
  repeat' first|refine auS ?_|fail|refine auD ?_|(refine auW ?_ ?_<;>intro h<;>try exact auH)|fail
  all_goals try exact auP
  all_goals refine auV ?_
  all_goals try exact z8
  all_goals try simp only [hsM] at *
theorem Zj (c:UInt8):∀l:List UInt8,0≤Lib.indexByte l c↔c∈l
 |[]=>by simp [Lib.indexByte]
 |b::l=>by
  have ih:=Zj c l
  have hge:=Lib.indexByte_ge l c
  unfold Lib.indexByte
  by_cases hb:b=c
  ·simp [hb]
  ·have hb':(b == c)=false:=by simpa using hb
   have hc:¬c=b:=fun q=>hb q.symm
   rw [hb',List.mem_cons]
   simp only [Bool.false_eq_true,if_false]
   by_cases hm:Lib.indexByte l c = -1
   ·simp [hm,hc]
    rw [hm] at ih
    intro q
    have:=ih.2 q
    omega
   ·have:(Lib.indexByte l c == -1)=false:=by simpa using hm
    rw [this]
    simp only [Bool.false_eq_true,if_false]
    constructor
    ·intro q;exact .inr (ih.1 (by omega))
    ·intro q
     rcases q with q|q
     ·exact absurd q hc
     ·have:=ih.2 q;omega
theorem lL (l:List UInt8) (c:UInt8):zd Tryz.prog 199 [.v (.string (mkS l)),.v (.int .u8 (c.toNat:Nat))] (.v (.int .i64 (Lib.indexByte l c))):=by
 have e1:(mkS l).data.toList=l:=by simp [mkS]
 have e2:((c.toNat:Nat):Int).toNat.toUInt8=c:=by simp
 refine z4 {ext:=true} 0 Tryz.func199 fun Γ hW=>auC ?_
 repeat' first|refine auS ?_|(simp only [e1,e2])|refine auD ?_|(refine auW ?_ ?_<;>intro h<;>try exact auH)|fail
 all_goals try exact auP
 all_goals refine auV ?_
 all_goals try exact z8
 all_goals try simp only [hsM] at *
theorem s49:(ByteArray.mk #[49]:ByteArray)=mkS [49]:=rfl
theorem iS (l:List UInt8):zd Tryz.prog 198 [.v (.string (mkS l)),.v (.string (mkS [49]))] (.v (.int .i64 (Lib.indexByte l 49))):=by
 have h1:=lL l 49
 have e1:((bN [49] 0:Nat):Int)=(((49:UInt8).toNat:Nat):Int):=rfl
 have e2:(mkS [49]).size=1:=rfl
 by_cases hq:[49]=l
 ·subst hq
  refine z4 {} 0 Tryz.func198 fun Γ hW=>auC ?_
  repeat' first|refine auS ?_|(first|(simp only [e2,uq])|(simp only [z5,zj]))|refine auD ?_|(refine auW ?_ ?_<;>intro h<;>try exact auH)|fail
  all_goals try exact auP
  all_goals first
   |(exfalso;simp at h;done)
   |skip
  all_goals refine auV ?_
  all_goals try exact z8
  all_goals try simp only [hsM] at *
  all_goals rfl
 ·skip
  refine z4 {} 0 Tryz.func198 fun Γ hW=>auC ?_
  repeat' first|refine auS ?_|(first|(simp only [e2,uq,hq])|(simp only [z5,zj,e1])|(with_reducible refine z0 h1 ?_))|refine auD ?_|(refine auW ?_ ?_<;>intro h<;>try exact auH)|(first|(refine z7 (by decide) ?_)|fail)
  all_goals try exact auP
  all_goals first
   |(exfalso;simp_all;done)
   |skip
  all_goals refine auV ?_
  all_goals try exact z8
  all_goals try simp only [hsM] at *
theorem fF (l:List UInt8):zd Tryz.prog 194 [.v (.string (mkS l)),.v (.string (mkS [49]))] (.v (.int .i64 (Lib.indexByte l 49))):=by
 have h1:=iS l
 refine z4 {} 0 Tryz.func194 fun Γ hW=>auC ?_
 repeat' first|refine auS ?_|(with_reducible refine z0 h1 ?_)|refine auD ?_|(refine auW ?_ ?_<;>intro h<;>try exact auH)|fail
 all_goals try exact auP
 all_goals refine auV ?_
 all_goals try exact z8
 all_goals try simp only [hsM] at *
theorem wF (l:List UInt8):zd Tryz.prog 188 [.v (.string (mkS l)),.v (.string (mkS [49]))] (.v (.bool (decide ((49:UInt8)∈l)))):=by
 have h1:=fF l
 have h2:=Zj 49 l
 refine z4 {} 0 Tryz.func188 fun Γ hW=>auC ?_
 repeat' first|refine auS ?_|(with_reducible refine z0 h1 ?_)|refine auD ?_|(refine auW ?_ ?_<;>intro h<;>try exact auH)|fail
 all_goals try exact auP
 all_goals refine auV ?_
 all_goals try exact z8
 all_goals try simp only [hsM] at *
 all_goals exact zQ (decide_eq_decide.2 h2)
theorem Zz (a i:Nat):UInt8.ofNat (48+a / 2 ^ (31-i) % 2)=49↔a.testBit (31-i)=true:=by
 rw [Nat.testBit_eq_decide_div_mod_eq]
 rcases Nat.mod_two_eq_zero_or_one (a / 2 ^ (31-i)) with h|h
 ·rw [h];decide
 ·rw [h];decide
theorem Ur (a l:Nat) (hl:l≤32):((49:UInt8)∈(tE a 32).drop l)↔¬a % 2 ^ (32-l)=0:=by
 constructor
 ·intro hm h0
  obtain ⟨j,hj⟩:=List.mem_iff_getElem?.1 hm
  rw [List.getElem?_drop] at hj
  unfold tE at hj
  rw [List.getElem?_map] at hj
  cases hr:(List.range 32)[l+j]? with
  |none=>rw [hr] at hj;cases hj
  |some q=>
   rw [hr] at hj
   have hq:=List.getElem?_eq_some_iff.1 hr
   have h1:q=l+j:=by have:=hq.2;simpa using this.symm
   have h2:l+j<32:=by have:=hq.1;simpa using this
   subst h1
   have hb:=(Zz a (l+j)).1 (Option.some.inj hj)
   have h3:=Nat.testBit_mod_two_pow a (32-l) (31-(l+j))
   rw [h0,hb,decide_eq_true (by omega:31-(l+j)<32-l)] at h3
   simp at h3
 ·intro h0
  apply Decidable.byContradiction
  intro hm
  apply h0
  apply Nat.eq_of_testBit_eq
  intro j
  rw [Nat.testBit_mod_two_pow,Nat.zero_testBit]
  by_cases hj:j<32-l
  ·rw [decide_eq_true hj,Bool.true_and]
   cases hb:a.testBit j with
   |false=>rfl
   |true=>
    exfalso
    apply hm
    refine List.mem_iff_getElem?.2 ⟨31-j-l,?_⟩
    have h4:l+(31-j-l)=31-j:=by omega
    rw [List.getElem?_drop,h4]
    unfold tE
    rw [List.getElem?_map,List.getElem?_range (by omega)]
    have h5:31-(31-j)=j:=by omega
    have:=(Zz a (31-j)).2 (by rw [h5];exact hb)
    simp only [Option.map_some]
    rw [this]
  ·rw [decide_eq_false hj,Bool.false_and]
def u9 (a l:Int):Bool:=decide (0≤l∧l≤32)&&decide (a.toNat % 2 ^ (32-l.toNat)=0)
abbrev dNt (a l:Int):DV:=.agg [.v (.int .u32 a),.v (.int .i64 l)]
theorem nX (a l:Int) (ha:0≤a∧a<4294967296):zd Tryz.prog 163 [dNt a l] (.v (.bool (u9 a l))):=by
 obtain ⟨A,rfl⟩:=Int.eq_ofNat_of_zero_le ha.1
 unfold u9
 by_cases hl:0≤l∧l≤32
 ·obtain ⟨L,rfl⟩:=Int.eq_ofNat_of_zero_le hl.1
  have h1:=fk A (by omega)
  have h2:=wF ((tE A 32).drop L)
  have h3:=Ur A L (by omega)
  have hlen:=jc A 32
  have x1:(mkS (tE A 32)).extract L 32=mkS ((tE A 32).drop L):=by rw [zS,List.take_of_length_le (by rw [List.length_drop,hlen];omega)]
  have hd:decide ((49:UInt8)∈(tE A 32).drop L) = !decide (A % 2 ^ (32-L)=0):=by
   rw [decide_eq_decide.2 h3,decide_not]
  rw [hd] at h2
  rw [decide_eq_true hl,Int.toNat_natCast,Int.toNat_natCast,Bool.true_and]
  refine z4 {} 0 Tryz.func163 fun Γ hW=>auC ?_
  repeat' first|refine auS ?_|(first|(simp only [z5,hlen,s49,x1,Int.toNat_natCast])|(with_reducible refine z0 h1 ?_)|(with_reducible refine z0 h2 ?_)|(with_reducible refine z0 (z6 _ _ _) ?_))|refine auD ?_|(refine auW ?_ ?_<;>intro h<;>try exact auH)|(first|(refine z7 (by simp only [z5,hlen];omega) ?_)|fail)
  all_goals try exact auP
  all_goals refine auV ?_
  all_goals try exact z8
  all_goals try simp only [hsM] at *
  all_goals (refine zQ ?_;first|simp|simp_all)
 ·rw [decide_eq_false hl,Bool.false_and]
  refine z4 {} 0 Tryz.func163 fun Γ hW=>auC ?_
  repeat' first|refine auS ?_|(with_reducible refine z0 (z6 _ _ _) ?_)|refine auD ?_|(refine auW ?_ ?_<;>intro h<;>try exact auH)|fail
  all_goals try exact auP
  all_goals refine auV ?_
  all_goals try exact z8
  all_goals try simp only [hsM] at *
end Go.Proofs.YtmibknbmhcnemaaGreatDoor.R
namespace Go.Proofs.YtmibknbmhcnemaaGreatDoor.R
attribute [local irreducible] zF Go
set_option maxRecDepth 100000
theorem Xv (A L:Nat) (hL:L≤32):(A*2 ^ L) % 4294967296=0↔A % 2 ^ (32-L)=0:=by
 have h:4294967296=2 ^ (32-L)*2 ^ L:=by rw [←Nat.pow_add,show 32-L+L=32 by omega]
 rw [h,Nat.mul_mod_mul_right]
 have:=Nat.two_pow_pos L
 constructor
 ·intro q
  rcases Nat.mul_eq_zero.1 q with q|q
  ·exact q
  ·omega
 ·intro q;rw [q,Nat.zero_mul]
theorem gB (a l:Int) (ha:0≤a∧a<4294967296):zd Tryz.prog 162 [dNt a l] (.v (.bool (u9 a l))):=by
 obtain ⟨A,rfl⟩:=Int.eq_ofNat_of_zero_le ha.1
 unfold u9
 by_cases hl:0≤l∧l≤32
 ·obtain ⟨L,rfl⟩:=Int.eq_ofNat_of_zero_le hl.1
  have e1:min L IntKind.u32.bits=L:=Nat.min_eq_left (by show L≤32;omega)
  have e2:IntKind.u32.wrap ((A:Int)*2 ^ L)=((A*2 ^ L % 4294967296:Nat):Int):=by rw [IntKind.wrap_u32,jH];simp
  have h3:=Xv A L (by omega)
  have h4:decide (((A*2 ^ L % 4294967296:Nat):Int)=0)=decide (A % 2 ^ (32-L)=0):=decide_eq_decide.2 ⟨fun q=>h3.1 (by omega),fun q=>by rw [h3.2 q];rfl⟩
  rw [decide_eq_true hl,Int.toNat_natCast,Int.toNat_natCast,Bool.true_and]
  refine z4 {} 0 Tryz.func162 fun Γ hW=>auC ?_
  repeat' first|refine auS ?_|(simp only [Int.toNat_natCast,e1,e2,h4])|refine auD ?_|(refine auW ?_ ?_<;>intro h<;>try exact auH)|fail
  all_goals try exact auP
  all_goals refine auV ?_
  all_goals try exact z8
  all_goals try simp only [hsM] at *
 ·rw [decide_eq_false hl,Bool.false_and]
  refine z4 {} 0 Tryz.func162 fun Γ hW=>auC ?_
  repeat' first|refine auS ?_|fail|refine auD ?_|(refine auW ?_ ?_<;>intro h<;>try exact auH)|fail
  all_goals try exact auP
  all_goals refine auV ?_
  all_goals try exact z8
  all_goals try simp only [hsM] at *
theorem Xc (a b:Nat):a ^^^ b=0↔a=b:=by
 constructor
 ·intro h
  apply Nat.eq_of_testBit_eq
  intro i
  have:=congrArg (fun n=>Nat.testBit n i) h
  simp only [Nat.testBit_xor,Nat.zero_testBit] at this
  cases h1:a.testBit i<;>cases h2:b.testBit i<;>simp_all
 ·rintro rfl;exact Nat.xor_self _
def gC (a l x:Int):Bool:=decide (x.toNat / 2 ^ (32-l.toNat)=a.toNat / 2 ^ (32-l.toNat))
theorem gT (a l x:Int) (ha:0≤a∧a<4294967296) (hx:0≤x∧x<4294967296) (hl:0≤l∧l≤32):zd Tryz.prog 179 [dNt a l,.v (.int .u32 x)] (.v (.bool (gC a l x))):=by
 obtain ⟨A,rfl⟩:=Int.eq_ofNat_of_zero_le ha.1
 obtain ⟨L,rfl⟩:=Int.eq_ofNat_of_zero_le hl.1
 obtain ⟨X,rfl⟩:=Int.eq_ofNat_of_zero_le hx.1
 have e0:=u32_xor_nat X A (by omega) (by omega)
 have hlt:X ^^^ A<2 ^ 32:=Nat.xor_lt_two_pow (by omega) (by omega)
 have e1:IntKind.u64.wrap ((X ^^^ A:Nat):Int)=((X ^^^ A:Nat):Int):=yk _ (by omega) (by omega)
 have e2:IntKind.i64.wrap (32-(L:Int))=((32-L:Nat):Int):=by rw [IntWalk.i64_in _ (by omega)];omega
 have e3:min (32-L) IntKind.u64.bits=32-L:=Nat.min_eq_left (by show 32-L≤64;omega)
 have e4:((X ^^^ A:Nat):Int).fdiv (2 ^ (32-L))=(((X ^^^ A) / 2 ^ (32-L):Nat):Int):=by rw [jH,Int.fdiv_eq_ediv_of_nonneg _ (Int.natCast_nonneg _)];simp
 have h5:(X ^^^ A) / 2 ^ (32-L)=0↔X / 2 ^ (32-L)=A / 2 ^ (32-L):=by
  rw [←Nat.shiftRight_eq_div_pow,←Nat.shiftRight_eq_div_pow,←Nat.shiftRight_eq_div_pow,Nat.shiftRight_xor_distrib]
  exact Xc _ _
 have h6:decide ((((X ^^^ A) / 2 ^ (32-L):Nat):Int)=0)=decide (X / 2 ^ (32-L)=A / 2 ^ (32-L)):=decide_eq_decide.2 ⟨fun q=>h5.1 (by omega),fun q=>by rw [h5.2 q];rfl⟩
 unfold gC
 rw [Int.toNat_natCast,Int.toNat_natCast,Int.toNat_natCast]
 refine z4 {} 0 Tryz.func179 fun Γ hW=>auC ?_
 repeat' first|refine auS ?_|(simp only [e0,e1,e2,e3,e4,h6,Int.toNat_natCast])|refine auD ?_|(refine auW ?_ ?_<;>intro h<;>try exact auH)|fail
 all_goals try exact auP
 all_goals refine auV ?_
 all_goals try exact z8
 all_goals try simp only [hsM] at *
def spn (l:Int):Nat:=2 ^ (32-l.toNat)
theorem dg (l:Int):0<spn l∧spn l≤4294967296:=⟨Nat.two_pow_pos _,Nat.pow_le_pow_right (show 0<2 by decide) (show 32-l.toNat≤32 by omega)⟩
theorem kY (a l:Int) (ha:0≤a∧a<4294967296) (hl:0≤l∧l≤32):zd Tryz.prog 192 [dNt a l] (.tup [.v (.int .i64 a),.v (.int .i64 (a+(spn l:Nat)-1))]):=by
 have hsb:=dg l
 obtain ⟨L,rfl⟩:=Int.eq_ofNat_of_zero_le hl.1
 have e2:IntKind.i64.wrap (32-(L:Int))=((32-L:Nat):Int):=by rw [IntWalk.i64_in _ (by omega)];omega
 have e0:IntKind.i64.wrap a=a:=IntWalk.i64_in _ (by omega)
 refine z4 {} 0 Tryz.func192 fun Γ hW=>auC ?_
 repeat' first|refine auS ?_|(simp only [e2])|refine auD ?_|(refine auW ?_ ?_<;>intro h<;>try exact auH)|fail
 refine ze (α:=Nat) (fun j=>[(⟨.d0,.d0,.d4⟩,.v (.int .i64 (2 ^ j:Nat))),(⟨.d0,.d1,.d0⟩,.v (.int .i64 (j:Nat)))]) (fun _=>[]) (fun _=>Γ.g0+1) (fun j=>32-j) (fun j=>j≤32-L) 0 (Nat.zero_le _) ?_ ?_
 ·skip
  refine zb ?_ ?_ (Nat.le_refl _)
  all_goals first|refine auE ?_|exact zi
  all_goals repeat' first|exact trivial|exact rfl|apply And.intro
 intro j hj
 dsimp only at hj ⊢
 refine auL ?_
 by_cases hlt:j<32-L
 ·have hp:2 ^ (j+1)≤2 ^ 32:=Nat.pow_le_pow_right (by decide) (by omega)
  have e3:IntKind.i64.wrap (((2 ^ j:Nat):Int)*2)=((2 ^ (j+1):Nat):Int):=by
   rw [Nat.pow_succ] at hp ⊢
   revert hp
   generalize 2 ^ j=q
   intro hp
   exact (IntWalk.i64_in _ (by omega)).trans (by omega)
  repeat' first|refine auS ?_|(simp only [e3])|refine auD ?_|(refine auW ?_ ?_<;>intro h<;>try exact auH)|fail
  all_goals try exact auP
  refine za ⟨j+1,hlt,by omega,?_⟩
  refine zb ?_ ?_ (Nat.le_refl _)
  all_goals first|refine auE ?_|exact zi
  all_goals repeat' first|exact trivial|exact rfl|apply And.intro
  all_goals exact zB ((IntWalk.i64_in _ (by omega)).trans (by omega))
 ·obtain rfl:j=32-L:=by omega
  have hs:spn (L:Int)=2 ^ (32-L):=rfl
  rw [hs] at hsb ⊢
  have e4:IntKind.i64.wrap (a+((2 ^ (32-L):Nat):Int))=a+((2 ^ (32-L):Nat):Int):=IntWalk.i64_in _ (by omega)
  have e5:IntKind.i64.wrap (a+((2 ^ (32-L):Nat):Int)-1)=a+((2 ^ (32-L):Nat):Int)-1:=IntWalk.i64_in _ (by omega)
  repeat' first|refine auS ?_|(simp only [e0,e4,e5])|refine auD ?_|(refine auW ?_ ?_<;>intro h<;>try exact auH)|fail
  all_goals try exact auP
  all_goals refine auV ?_
  all_goals try exact z8
  all_goals try simp only [hsM] at *
structure Rl where
 (fa fl ta tl pr fp fq tp tq:Int) (ps:Bool)
deriving DecidableEq
abbrev Rl.enc (r:Rl):List DV:=[.v (.int .u32 r.fa),.v (.int .i64 r.fl),.v (.int .u32 r.ta),.v (.int .i64 r.tl),.v (.int .i64 r.pr),.v (.int .i64 r.fp),.v (.int .i64 r.fq),.v (.int .i64 r.tp),.v (.int .i64 r.tq),.v (.bool r.ps)]
abbrev dRl (r:Rl):DV:=.agg r.enc
def Rl.wf (r:Rl):Prop:=(0≤r.fa∧r.fa<4294967296)∧(0≤r.ta∧r.ta<4294967296)
def o6 (a b:Int):Bool:=decide (0≤a∧a≤b∧b≤65535)
theorem tJ (a b:Int):zd Tryz.prog 153 [.v (.int .i64 a),.v (.int .i64 b)] (.v (.bool (o6 a b))):=by
 unfold o6
 refine z4 {} 0 Tryz.func153 fun Γ hW=>auC ?_
 repeat' first|refine auS ?_|fail|refine auD ?_|(refine auW ?_ ?_<;>intro h<;>try exact auH)|fail
 all_goals try exact auP
 all_goals refine auV ?_
 all_goals try exact z8
 all_goals try simp only [hsM] at *
 all_goals (refine zQ ?_;first|(simp_all;done)|(simp_all;omega)|(simp_all [decide_eq_decide];omega)|(simp_all;rw [Bool.eq_iff_iff];simp;omega))
def rOk (r:Rl):Bool:=u9 r.fa r.fl&&(u9 r.ta r.tl&&(decide (0≤r.pr∧r.pr≤255)&&(o6 r.fp r.fq&&o6 r.tp r.tq)))
theorem pm {a l:Int} (h:u9 a l=true):0≤l∧l≤32:=by
 unfold u9 at h
 simp only [Bool.and_eq_true,decide_eq_true_eq] at h
 exact h.1
theorem ot {r:Rl} (h:rOk r=true):(u9 r.fa r.fl=true∧u9 r.ta r.tl=true)∧(0≤r.pr∧r.pr≤255)∧(0≤r.fp∧r.fp≤r.fq∧r.fq≤65535)∧(0≤r.tp∧r.tp≤r.tq∧r.tq≤65535):=by
 unfold rOk o6 at h
 simp only [Bool.and_eq_true,decide_eq_true_eq] at h
 exact ⟨⟨h.1,h.2.1⟩,h.2.2.1,h.2.2.2.1,h.2.2.2.2⟩
theorem t9 (r:Rl) (hr:r.wf):zd Tryz.prog 111 [dRl r] (.v (.bool (rOk r))):=by
 have h1:=gB r.fa r.fl hr.1
 have h2:=gB r.ta r.tl hr.2
 have h3:=tJ r.fp r.fq
 have h4:=tJ r.tp r.tq
 unfold rOk
 generalize u9 r.fa r.fl=b1 at *
 generalize u9 r.ta r.tl=b2 at *
 generalize o6 r.fp r.fq=b3 at *
 generalize o6 r.tp r.tq=b4 at *
 refine z4 {} 0 Tryz.func111 fun Γ hW=>auC ?_
 repeat' first|refine auS ?_|(first|(with_reducible refine z0 h1 ?_)|(with_reducible refine z0 h2 ?_)|(with_reducible refine z0 h3 ?_)|(with_reducible refine z0 h4 ?_))|refine auD ?_|(refine auW ?_ ?_<;>intro h<;>try exact auH)|fail
 all_goals try exact auP
 all_goals refine auV ?_
 all_goals try exact z8
 all_goals try simp only [hsM] at *
 all_goals (refine zQ ?_;first|(simp_all;done)|(simp_all;omega)|(simp_all [decide_eq_decide];omega)|(simp_all;rw [Bool.eq_iff_iff];simp;omega))
theorem lR (r:Rl) (hr:r.wf):zd Tryz.prog 112 [dRl r] (.v (.bool (rOk r))):=by
 have h1:=nX r.fa r.fl hr.1
 have h2:=nX r.ta r.tl hr.2
 unfold rOk o6
 generalize u9 r.fa r.fl=b1 at *
 generalize u9 r.ta r.tl=b2 at *
 refine z4 {} 0 Tryz.func112 fun Γ hW=>auC ?_
 repeat' first|refine auS ?_|(first|(with_reducible refine z0 h1 ?_)|(with_reducible refine z0 h2 ?_)|(with_reducible refine z0 (z6 _ _ _) ?_))|refine auD ?_|(refine auW ?_ ?_<;>intro h<;>try exact auH)|fail
 all_goals try exact auP
 all_goals refine auV ?_
 all_goals try exact z8
 all_goals try simp only [hsM] at *
 all_goals (refine zQ ?_;first|(simp_all;done)|(simp_all;omega)|(simp_all [decide_eq_decide];omega)|(simp_all;rw [Bool.eq_iff_iff];simp;omega))
def bxP (r:Rl):Int×Int:=if r.pr=0 then (0,255) else (r.pr,r.pr)
abbrev bxL (r:Rl):List DV:=[.v (.int .i64 r.fa),.v (.int .i64 (r.fa+(spn r.fl:Nat)-1)),.v (.int .i64 r.ta),.v (.int .i64 (r.ta+(spn r.tl:Nat)-1)),.v (.int .i64 (bxP r).1),.v (.int .i64 (bxP r).2),.v (.int .i64 r.fp),.v (.int .i64 r.fq),.v (.int .i64 r.tp),.v (.int .i64 r.tq)]
theorem YH (r:Rl) (hr:r.wf) (hf:0≤r.fl∧r.fl≤32) (ht:0≤r.tl∧r.tl≤32):zd Tryz.prog 173 [dRl r] (.agg (bxL r)):=by
 have h1:=kY r.fa r.fl hr.1 hf
 have h2:=kY r.ta r.tl hr.2 ht
 unfold bxL bxP
 by_cases hp:r.pr=0
 ·rw [if_pos hp]
  refine z4 {} 0 Tryz.func173 fun Γ hW=>auC ?_
  repeat' first|refine auS ?_|(first|(with_reducible refine z0 h1 ?_)|(with_reducible refine z0 h2 ?_))|refine auD ?_|(refine auW ?_ ?_<;>intro h<;>try exact auH)|fail
  all_goals try exact auP
  all_goals refine auV ?_
  all_goals try exact z8
  all_goals try simp only [hsM] at *
 ·rw [if_neg hp]
  refine z4 {} 0 Tryz.func173 fun Γ hW=>auC ?_
  repeat' first|refine auS ?_|(first|(with_reducible refine z0 h1 ?_)|(with_reducible refine z0 h2 ?_))|refine auD ?_|(refine auW ?_ ?_<;>intro h<;>try exact auH)|fail
  all_goals try exact auP
  all_goals refine auV ?_
  all_goals try exact z8
  all_goals try simp only [hsM] at *
end Go.Proofs.YtmibknbmhcnemaaGreatDoor.R
namespace Go.Proofs.YtmibknbmhcnemaaGreatDoor.R
attribute [local irreducible] zF Go
set_option maxRecDepth 100000
structure Fl where
 (ff ft pr a b:Int)
abbrev dFl (f:Fl):DV:=.agg [.v (.int .u32 f.ff),.v (.int .u32 f.ft),.v (.int .i64 f.pr),.v (.int .i64 f.a),.v (.int .i64 f.b)]
def Fl.wf (f:Fl):Prop:=(0≤f.ff∧f.ff<4294967296)∧(0≤f.ft∧f.ft<4294967296)
def ul (r:Rl) (f:Fl):Bool:=gC r.fa r.fl f.ff&&(gC r.ta r.tl f.ft&&((decide (r.pr=0)||decide (r.pr=f.pr))&&(decide (r.fp≤f.a∧f.a≤r.fq)&&decide (r.tp≤f.b∧f.b≤r.tq))))
set_option maxHeartbeats 1000000 in
theorem dp (r:Rl) (f:Fl) (hr:r.wf) (hf:f.wf) (h1:0≤r.fl∧r.fl≤32) (h2:0≤r.tl∧r.tl≤32):zd Tryz.prog 156 [dRl r,dFl f] (.v (.bool (ul r f))):=by
 have h3:=gT r.fa r.fl f.ff hr.1 hf.1 h1
 have h4:=gT r.ta r.tl f.ft hr.2 hf.2 h2
 unfold ul
 generalize gC r.fa r.fl f.ff=b1 at *
 generalize gC r.ta r.tl f.ft=b2 at *
 refine z4 {} 0 Tryz.func156 fun Γ hW=>auC ?_
 repeat' first|refine auS ?_|(first|(with_reducible refine z0 h3 ?_)|(with_reducible refine z0 h4 ?_))|refine auD ?_|(refine auW ?_ ?_<;>intro h<;>try exact auH)|fail
 all_goals try exact auP
 all_goals refine auV ?_
 all_goals try exact z8
 all_goals try simp only [hsM] at *
 all_goals (refine zQ ?_;first|(simp_all;done)|(simp_all;omega)|(simp_all;rw [Bool.eq_iff_iff];simp;omega))
def cM (r:Rl) (f:Fl):Nat→Bool
 |0=>decide (r.fa≤f.ff∧f.ff≤r.fa+(spn r.fl:Nat)-1)
 |1=>decide (r.ta≤f.ft∧f.ft≤r.ta+(spn r.tl:Nat)-1)
 |2=>decide ((bxP r).1≤f.pr∧f.pr≤(bxP r).2)
 |3=>decide (r.fp≤f.a∧f.a≤r.fq)
 |_=>decide (r.tp≤f.b∧f.b≤r.tq)
def db (c:Nat→Bool):Bool:=c 0&&(c 1&&(c 2&&(c 3&&c 4)))
theorem rm {c:Nat→Bool} {i:Nat} (hi:i<5) (h:c i=false):db c=false:=by
 unfold db
 have:i=0∨i=1∨i=2∨i=3∨i=4:=by omega
 rcases this with rfl|rfl|rfl|rfl|rfl<;>simp [h]
theorem av {c:Nat→Bool} (h:∀j,j<5→c j=true):db c=true:=by
 unfold db
 simp [h 0 (by decide),h 1 (by decide),h 2 (by decide),h 3 (by decide),h 4 (by decide)]
theorem ri {c:Nat→Bool} {i:Nat} (h:∀j,j<i→c j=true) (hi:c i=true):∀j,j<i+1→c j=true:=fun j hj=>by
 rcases Nat.lt_or_ge j i with h2|h2
 ·exact h j h2
 ·obtain rfl:j=i:=by omega
  exact hi
def iv5:Nat→Int
 |0=>0
 |1=>1
 |2=>2
 |3=>3
 |4=>4
 |_=>5
theorem kO:iv5 0=0:=rfl
theorem kC:iv5 1=1:=rfl
theorem ji:iv5 2=2:=rfl
theorem jb:iv5 3=3:=rfl
theorem jg:iv5 4=4:=rfl
theorem kK:iv5 5=5:=rfl
theorem rJ (i:Nat) (h:i<5):IntKind.i64.wrap (iv5 i+1)=iv5 (i+1):=by
 have:i=0∨i=1∨i=2∨i=3∨i=4:=by omega
 rcases this with rfl|rfl|rfl|rfl|rfl<;>decide
set_option maxHeartbeats 4000000 in
theorem iZ (r:Rl) (f:Fl) (hr:r.wf) (hf:f.wf) (h1:0≤r.fl∧r.fl≤32) (h2:0≤r.tl∧r.tl≤32):zd Tryz.prog 131 [dRl r,dFl f] (.v (.bool (db (cM r f)))):=by
 have hb:=YH r hr h1 h2
 have w1:IntKind.i64.wrap f.ff=f.ff:=IntWalk.i64_in _ (by have:=hf.1;omega)
 have w2:IntKind.i64.wrap f.ft=f.ft:=IntWalk.i64_in _ (by have:=hf.2;omega)
 refine z4 {} 0 Tryz.func131 fun Γ hW=>auC ?_
 repeat' first|refine auS ?_|(simp only [w1,w2])|refine auD ?_|(refine auW ?_ ?_<;>intro h<;>try exact auH)|fail
 refine ze (α:=Nat×Nat) (fun x=>[(⟨.d0,.d2,.d6⟩,.v (.int .i64 (iv5 x.1)))]) (fun x=>[(3,none)]) (fun x=>x.2) (fun x=>5-x.1) (fun x=>x.1≤5∧∀j,j<x.1→cM r f j=true) (0,Γ.g0+1+1+1) ⟨Nat.zero_le _,fun j hj=>absurd hj (Nat.not_lt_zero _)⟩ ?_ ?_
 ·skip
  refine zb ?_ ?_ (Nat.le_refl _)
  all_goals first|refine auE ?_|exact zi
  all_goals repeat' first|exact trivial|exact rfl|apply And.intro
 rintro ⟨i,gn⟩ ⟨hi,hp⟩
 dsimp only at hi hp ⊢
 refine auL ?_
 have hcs:i=0∨i=1∨i=2∨i=3∨i=4∨i=5:=by omega
 rcases hcs with rfl|rfl|rfl|rfl|rfl|rfl
 ·simp only [kO,kC,ji,jb,jg,kK]
  cases hc:cM r f 0 with
  |false=>
   have hc2:decide (r.fa≤f.ff∧f.ff≤r.fa+(spn r.fl:Nat)-1)=false:=hc
   repeat' first|refine auS ?_|(first|(with_reducible refine z0 hb ?_)|(with_reducible refine z0 (z6 _ _ _) ?_)|(simp only [hc2]))|refine auD ?_|(refine auW ?_ ?_<;>intro h<;>try exact auH)|fail
   all_goals try exact auP
   all_goals first
    |(exfalso;simp_all;done)
    |skip
   all_goals refine auV ?_
   all_goals try exact z8
   all_goals try simp only [hsM] at *
   all_goals rw [rm (by decide) hc]
  |true=>
   have hc2:decide (r.fa≤f.ff∧f.ff≤r.fa+(spn r.fl:Nat)-1)=true:=hc
   repeat' first|refine auS ?_|(first|(with_reducible refine z0 hb ?_)|(with_reducible refine z0 (z6 _ _ _) ?_)|(simp only [hc2]))|refine auD ?_|(refine auW ?_ ?_<;>intro h<;>try exact auH)|fail
   all_goals try exact auP
   all_goals first
    |(exfalso;simp_all;done)
    |skip
   all_goals
   refine za ⟨(1,gn+1),⟨by dsimp only;decide,ri hp hc⟩,by dsimp only;decide,?_⟩
   refine zb ?_ ?_ (Nat.le_refl _)
   all_goals first|refine auE ?_|exact zi
   all_goals repeat' first|exact trivial|exact rfl|apply And.intro
   all_goals exact zB (rJ 0 (by decide))
 ·simp only [kO,kC,ji,jb,jg,kK]
  cases hc:cM r f 1 with
  |false=>
   have hc2:decide (r.ta≤f.ft∧f.ft≤r.ta+(spn r.tl:Nat)-1)=false:=hc
   repeat' first|refine auS ?_|(first|(with_reducible refine z0 hb ?_)|(with_reducible refine z0 (z6 _ _ _) ?_)|(simp only [hc2]))|refine auD ?_|(refine auW ?_ ?_<;>intro h<;>try exact auH)|fail
   all_goals try exact auP
   all_goals first
    |(exfalso;simp_all;done)
    |skip
   all_goals refine auV ?_
   all_goals try exact z8
   all_goals try simp only [hsM] at *
   all_goals rw [rm (by decide) hc]
  |true=>
   have hc2:decide (r.ta≤f.ft∧f.ft≤r.ta+(spn r.tl:Nat)-1)=true:=hc
   repeat' first|refine auS ?_|(first|(with_reducible refine z0 hb ?_)|(with_reducible refine z0 (z6 _ _ _) ?_)|(simp only [hc2]))|refine auD ?_|(refine auW ?_ ?_<;>intro h<;>try exact auH)|fail
   all_goals try exact auP
   all_goals first
    |(exfalso;simp_all;done)
    |skip
   all_goals
   refine za ⟨(2,gn+1),⟨by dsimp only;decide,ri hp hc⟩,by dsimp only;decide,?_⟩
   refine zb ?_ ?_ (Nat.le_refl _)
   all_goals first|refine auE ?_|exact zi
   all_goals repeat' first|exact trivial|exact rfl|apply And.intro
   all_goals exact zB (rJ 1 (by decide))
 ·simp only [kO,kC,ji,jb,jg,kK]
  cases hc:cM r f 2 with
  |false=>
   have hc2:decide ((bxP r).1≤f.pr∧f.pr≤(bxP r).2)=false:=hc
   repeat' first|refine auS ?_|(first|(with_reducible refine z0 hb ?_)|(with_reducible refine z0 (z6 _ _ _) ?_)|(simp only [hc2]))|refine auD ?_|(refine auW ?_ ?_<;>intro h<;>try exact auH)|fail
   all_goals try exact auP
   all_goals first
    |(exfalso;simp_all;done)
    |skip
   all_goals refine auV ?_
   all_goals try exact z8
   all_goals try simp only [hsM] at *
   all_goals rw [rm (by decide) hc]
  |true=>
   have hc2:decide ((bxP r).1≤f.pr∧f.pr≤(bxP r).2)=true:=hc
   repeat' first|refine auS ?_|(first|(with_reducible refine z0 hb ?_)|(with_reducible refine z0 (z6 _ _ _) ?_)|(simp only [hc2]))|refine auD ?_|(refine auW ?_ ?_<;>intro h<;>try exact auH)|fail
   all_goals try exact auP
   all_goals first
    |(exfalso;simp_all;done)
    |skip
   all_goals
   refine za ⟨(3,gn+1),⟨by dsimp only;decide,ri hp hc⟩,by dsimp only;decide,?_⟩
   refine zb ?_ ?_ (Nat.le_refl _)
   all_goals first|refine auE ?_|exact zi
   all_goals repeat' first|exact trivial|exact rfl|apply And.intro
   all_goals exact zB (rJ 2 (by decide))
 ·simp only [kO,kC,ji,jb,jg,kK]
  cases hc:cM r f 3 with
  |false=>
   have hc2:decide (r.fp≤f.a∧f.a≤r.fq)=false:=hc
   repeat' first|refine auS ?_|(first|(with_reducible refine z0 hb ?_)|(with_reducible refine z0 (z6 _ _ _) ?_)|(simp only [hc2]))|refine auD ?_|(refine auW ?_ ?_<;>intro h<;>try exact auH)|fail
   all_goals try exact auP
   all_goals first
    |(exfalso;simp_all;done)
    |skip
   all_goals refine auV ?_
   all_goals try exact z8
   all_goals try simp only [hsM] at *
   all_goals rw [rm (by decide) hc]
  |true=>
   have hc2:decide (r.fp≤f.a∧f.a≤r.fq)=true:=hc
   repeat' first|refine auS ?_|(first|(with_reducible refine z0 hb ?_)|(with_reducible refine z0 (z6 _ _ _) ?_)|(simp only [hc2]))|refine auD ?_|(refine auW ?_ ?_<;>intro h<;>try exact auH)|fail
   all_goals try exact auP
   all_goals first
    |(exfalso;simp_all;done)
    |skip
   all_goals
   refine za ⟨(4,gn+1),⟨by dsimp only;decide,ri hp hc⟩,by dsimp only;decide,?_⟩
   refine zb ?_ ?_ (Nat.le_refl _)
   all_goals first|refine auE ?_|exact zi
   all_goals repeat' first|exact trivial|exact rfl|apply And.intro
   all_goals exact zB (rJ 3 (by decide))
 ·simp only [kO,kC,ji,jb,jg,kK]
  cases hc:cM r f 4 with
  |false=>
   have hc2:decide (r.tp≤f.b∧f.b≤r.tq)=false:=hc
   repeat' first|refine auS ?_|(first|(with_reducible refine z0 hb ?_)|(with_reducible refine z0 (z6 _ _ _) ?_)|(simp only [hc2]))|refine auD ?_|(refine auW ?_ ?_<;>intro h<;>try exact auH)|fail
   all_goals try exact auP
   all_goals first
    |(exfalso;simp_all;done)
    |skip
   all_goals refine auV ?_
   all_goals try exact z8
   all_goals try simp only [hsM] at *
   all_goals rw [rm (by decide) hc]
  |true=>
   have hc2:decide (r.tp≤f.b∧f.b≤r.tq)=true:=hc
   repeat' first|refine auS ?_|(first|(with_reducible refine z0 hb ?_)|(with_reducible refine z0 (z6 _ _ _) ?_)|(simp only [hc2]))|refine auD ?_|(refine auW ?_ ?_<;>intro h<;>try exact auH)|fail
   all_goals try exact auP
   all_goals first
    |(exfalso;simp_all;done)
    |skip
   all_goals
   refine za ⟨(5,gn+1),⟨by dsimp only;decide,ri hp hc⟩,by dsimp only;decide,?_⟩
   refine zb ?_ ?_ (Nat.le_refl _)
   all_goals first|refine auE ?_|exact zi
   all_goals repeat' first|exact trivial|exact rfl|apply And.intro
   all_goals exact zB (rJ 4 (by decide))
 ·simp only [kO,kC,ji,jb,jg,kK]
  rw [av hp]
  repeat' first|refine auS ?_|fail|refine auD ?_|(refine auW ?_ ?_<;>intro h<;>try exact auH)|fail
  all_goals try exact auP
  all_goals refine auV ?_
  all_goals try exact z8
  all_goals try simp only [hsM] at *
end Go.Proofs.YtmibknbmhcnemaaGreatDoor.R
