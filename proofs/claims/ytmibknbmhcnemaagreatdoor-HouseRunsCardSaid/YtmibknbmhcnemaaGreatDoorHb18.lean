import Derived.Laws.BitsAll
import Derived.Below
import Derived.WalkSpells
import Derived.Lib.Strings
import Derived.Lib.IndexBytes
import Derived.Test.YtmibknbmhcnemaaGreatDoorHb17
set_option linter.unusedVariables false
set_option linter.unusedSimpArgs false
namespace Go.Proofs.YtmibknbmhcnemaaGreatDoor
open Go.RowKit
def zL (m:Int):Int:=if m=0 then 0 else (m-1) % 65535+1
theorem xE (m:Int) (h:0≤m):0≤zL m∧zL m≤65535:=by unfold zL;split<;>omega
theorem oV (m:Int) (h:0≤m) (h1:m≤65535):zL m=m:=by unfold zL;split<;>omega
theorem e_ (m:Int) (h:65535<m):zL (m / 65536+m % 65536)=zL m:=by unfold zL;split<;>split<;>omega
theorem rX (a b:Int) (ha:0≤a) (hb:0≤b):zL (zL a+b)=zL (a+b):=by unfold zL;split<;>split<;>split<;>omega
theorem ZU (m:Int) (h0:0≤m) (h1:m≤18446744073709551615):bits .and .u64 m 65535=m % 65536:=by
 go_bits2
def ya:List UInt8→Int
 |a::b::r=>256*(a.toNat:Int)+(b.toNat:Int)+ya r
 |[a]=>256*(a.toNat:Int)
 |[]=>0
theorem vP:∀l:List UInt8,0≤ya l∧ya l≤65535*l.length
 |a::b::r=>by
  have ha:=a.toNat_lt
  have hb:=b.toNat_lt
  have:=vP r
  simp only [ya,List.length_cons]
  omega
 |[a]=>by
  have ha:=a.toNat_lt
  simp only [ya,List.length_cons,List.length_nil]
  omega
 |[]=>by simp [ya]
theorem xR:∀(a b:List UInt8),a.length % 2=0→ya (a++b)=ya a+ya b
 |[],b,_=>by simp [ya]
 |[x],b,h=>by simp at h
 |x::y::r,b,h=>by
  have:=xR r b (by simp at h;omega)
  simp only [List.cons_append,ya,this]
  omega
theorem vb (a:Int) (h0:0≤a) (h1:a≤65535):bits .xor .u16 IntKind.u16.max a=65535-a:=by
 obtain ⟨n,rfl⟩:=Int.eq_ofNat_of_zero_le h0
 have e:IntKind.u16.max=((65535:Nat):Int):=by decide
 rw [e,u16_xor_nat _ _ (by omega) (by omega)]
 have h:=BitVec.toNat_not (x:=BitVec.ofNat 16 n)
 rw [BitVec.not_def,BitVec.toNat_xor,BitVec.toNat_allOnes,BitVec.toNat_ofNat,Nat.mod_eq_of_lt (by omega)] at h
 have h':65535 ^^^ n=65535-n:=by simpa using h
 rw [h']
 omega
def z3 (l:List UInt8) (i:Nat):Int:=256*((l[i]?.getD 0).toNat:Int)+((l[i+1]?.getD 0).toNat:Int)
theorem zh (l:List UInt8) (i:Nat):0≤z3 l i∧z3 l i≤65535:=by
 unfold z3
 have h1:=(l[i]?.getD 0).toNat_lt
 have h2:=(l[i+1]?.getD 0).toNat_lt
 omega
theorem nD (l:List UInt8) (i:Nat) (h:i<l.length):ya (l.drop i)=z3 l i+ya (l.drop (i+2)):=by
 have hi:l[i]?=some l[i]:=List.getElem?_eq_getElem h
 by_cases h1:i+1<l.length
 ·have hi1:l[i+1]?=some l[i+1]:=List.getElem?_eq_getElem h1
  rw [List.drop_eq_getElem_cons h,List.drop_eq_getElem_cons h1]
  simp [ya,z3,hi,hi1]
 ·have hi1:l[i+1]?=none:=List.getElem?_eq_none (by omega)
  rw [List.drop_eq_getElem_cons h,List.drop_eq_nil_of_le (show l.length≤i+1 by omega),List.drop_eq_nil_of_le (show l.length≤i+2 by omega)]
  simp [ya,z3,hi,hi1]
theorem uv (l:List UInt8) (k i:Nat):z3 (l.drop k) i=z3 l (k+i):=by
 unfold z3
 rw [List.getElem?_drop,List.getElem?_drop,Nat.add_assoc]
end Go.Proofs.YtmibknbmhcnemaaGreatDoor
namespace Go.Proofs.YtmibknbmhcnemaaGreatDoor
attribute [local irreducible] zF Go
set_option maxRecDepth 100000
theorem gV {a b:Int} (h:a % 256=b % 256):u8 a=u8 b:=by unfold u8;rw [h]
def wd (n:Int):List UInt8:=[u8 (n / 256),u8 n]
def lg (a:Int):List UInt8:=wd (a / 65536)++wd a
theorem zE (n:Int):(wd n).length=2:=rfl
theorem zW (n:Int):(lg n).length=4:=rfl
theorem Ug {a b:Int} (h:a % 65536=b % 65536):wd a=wd b:=by
 unfold wd
 rw [gV (show a / 256 % 256=b / 256 % 256 by omega),gV (show a % 256=b % 256 by omega)]
theorem jt (n:Int):wd (n % 65536)=wd n:=Ug (by omega)
theorem Vo (p:Int):bits .and .i64 p 255=p % 256:=by
 have h:∀x:BitVec 64,(x &&& 255#64).toNat=x.toNat % 256:=fun x=>by
  rw [BitVec.toNat_and]
  exact Nat.and_two_pow_sub_one_eq_mod x.toNat 8
 have e:BitVec.ofInt 64 255=255#64:=by decide
 show IntKind.i64.wrap ((BitVec.ofInt 64 p &&& BitVec.ofInt 64 255).toNat:Int)=_
 rw [e,h,BitVec.toNat_ofInt]
 have h2:((p % ((2 ^ 64:Nat):Int)).toNat:Int)=p % 18446744073709551616:=by
  rw [Int.toNat_of_nonneg (Int.emod_nonneg _ (by decide))];rfl
 rw [Int.natCast_emod,h2,IntWalk.i64_in _ (by omega)]
 omega
theorem ma (n:Int) (h0:0≤n) (h1:n<2 ^ 62):IntKind.i64.wrap n=n:=IntWalk.i64_in _ (by omega)
theorem mJ (a b:Int) (h0:0≤a) (h1:a<256) (h2:0≤b) (h3:b<256):bits .or .i64 (IntKind.i64.wrap (a*2 ^ 8)) b=256*a+b:=by
 rw [IntWalk.i64_in _ (by omega),bits_join .i64 62 (by decide) ma 8 _ _ (by omega) (by omega) (by omega) h2 (by omega) (by omega)]
 omega
theorem Yv:min 8 IntKind.i64.bits=8:=rfl
theorem zC (n:Int) (h0:0≤n):zd Tryz.prog 128 [.v (.int .i64 n)] (.v (.string (mkS (wd n)))):=by
 by_cases hm:n≤9223372036854775807
 ·have h1:IntKind.i64.wrap (n.tdiv 256)=n / 256:=by rw [Int.tdiv_eq_ediv_of_nonneg h0,IntWalk.i64_in _ (by omega)]
  have h2:n.tmod 256=n % 256:=Int.tmod_eq_emod_of_nonneg h0
  have hb:=fun k n1=>wE (n / 256) (n % 256) true k n1
  rw [show mkS [u8 (n / 256),u8 (n % 256)]=mkS (wd n) by unfold wd;rw [gV (show n % 256 % 256=n % 256 by omega)]] at hb
  refine z4 {} 0 Tryz.func128 fun Γ hW=>auC ?_
  repeat' first|refine auS ?_|(first|(simp only [h1,h2])|(with_reducible refine zy rfl (hb _ _) ?_))|refine auD ?_|(refine auW ?_ ?_<;>intro h<;>try exact auH)|fail
  all_goals try exact auP
  all_goals refine auV ?_
  all_goals try exact z8
  all_goals try simp only [hsM] at *
 ·have h1:u8 (IntKind.i64.wrap (n.tdiv 256))=u8 (n / 256):=by rw [Int.tdiv_eq_ediv_of_nonneg h0];exact gV (by rw [IntKind.wrap_i64];omega)
  have h2:n.tmod 256=n % 256:=Int.tmod_eq_emod_of_nonneg h0
  have hb:=fun k n1=>wE (IntKind.i64.wrap (n.tdiv 256)) (n % 256) true k n1
  rw [show mkS [u8 (IntKind.i64.wrap (n.tdiv 256)),u8 (n % 256)]=mkS (wd n) by unfold wd;rw [h1,gV (show n % 256 % 256=n % 256 by omega)]] at hb
  refine z4 {} 0 Tryz.func128 fun Γ hW=>auC ?_
  repeat' first|refine auS ?_|(first|(simp only [h2])|(with_reducible refine zy rfl (hb _ _) ?_))|refine auD ?_|(refine auW ?_ ?_<;>intro h<;>try exact auH)|fail
  all_goals try exact auP
  all_goals refine auV ?_
  all_goals try exact z8
  all_goals try simp only [hsM] at *
theorem uI (a:Int) (h0:0≤a) (h1:a<4294967296):zd Tryz.prog 139 [.v (.int .u32 a)] (.v (.string (mkS (lg a)))):=by
 have e1:IntKind.u32.wrap (a.tdiv 65536)=a / 65536:=by rw [Int.tdiv_eq_ediv_of_nonneg h0,IntWalk.u32_in _ (by omega)]
 have e2:a.tmod 65536=a % 65536:=Int.tmod_eq_emod_of_nonneg h0
 have e3:IntKind.i64.wrap (a / 65536)=a / 65536:=IntWalk.i64_in _ (by omega)
 have e4:IntKind.i64.wrap (a % 65536)=a % 65536:=IntWalk.i64_in _ (by omega)
 have w1:=zC (a / 65536) (by omega)
 have w2:=zC (a % 65536) (by omega)
 rw [jt] at w2
 refine z4 {} 0 Tryz.func139 fun Γ hW=>auC ?_
 repeat' first|refine auS ?_|(first|(simp only [e1,e2,e3,e4,zf])|(with_reducible refine z0 w1 ?_)|(with_reducible refine z0 w2 ?_))|refine auD ?_|(refine auW ?_ ?_<;>intro h<;>try exact auH)|(refine z7 (by simp only [z5,zE];omega) ?_)
 all_goals try exact auP
 all_goals refine auV ?_
 all_goals try exact z8
 all_goals try simp only [hsM] at *
 all_goals rfl
theorem sK (n:Int):zd Tryz.prog 91 [.v (.int .i64 n)] (.v (.string (mkS (wd n)))):=by
 have h1:n.fdiv (2 ^ 8)=n / 256:=Int.fdiv_eq_ediv_of_nonneg _ (by decide)
 have hs:rE [[.v (.int .u8 (IntKind.u8.wrap (n / 256)))],[.v (.int .u8 (IntKind.u8.wrap n))]]=mkS (wd n):=by rw [ZQ,pA,pA];rfl
 refine z4 {} 0 Tryz.func91 fun Γ hW=>auC ?_
 repeat' first|refine auS ?_|(simp only [Yv,h1,hs])|refine auD ?_|(refine auW ?_ ?_<;>intro h<;>try exact auH)|fail
 all_goals try exact auP
 all_goals refine auV ?_
 all_goals try exact z8
 all_goals try simp only [hsM] at *
theorem lZ (a:Int) (h0:0≤a) (h1:a<4294967296):zd Tryz.prog 142 [.v (.int .u32 a)] (.v (.string (mkS (lg a)))):=by
 have e0:min 16 IntKind.u32.bits=16:=rfl
 have e1:a.fdiv (2 ^ 16)=a / 65536:=Int.fdiv_eq_ediv_of_nonneg _ (by decide)
 have e3:IntKind.i64.wrap (a / 65536)=a / 65536:=IntWalk.i64_in _ (by omega)
 have e4:IntKind.i64.wrap a=a:=IntWalk.i64_in _ (by omega)
 have w1:=sK (a / 65536)
 have w2:=sK a
 refine z4 {} 0 Tryz.func142 fun Γ hW=>auC ?_
 repeat' first|refine auS ?_|(first|(simp only [e0,e1,e3,e4,zf])|(with_reducible refine z0 w1 ?_)|(with_reducible refine z0 w2 ?_))|refine auD ?_|(refine auW ?_ ?_<;>intro h<;>try exact auH)|(refine z7 (by simp only [z5,zE];omega) ?_)
 all_goals try exact auP
 all_goals refine auV ?_
 all_goals try exact z8
 all_goals try simp only [hsM] at *
 all_goals rfl
theorem rZ {l:List UInt8} {i:Nat}:z3 l i=256*(bN l i:Nat)+(bN l (i+1):Nat):=rfl
theorem zp (l:List UInt8) (i:Nat) (hi:i<l.length) (hl:l.length≤9223372036854775806) (ii:Int) (hii:ii=(i:Nat)):zd Tryz.prog 126 [.v (.string (mkS l)),.v (.int .i64 ii)] (.v (.int .i64 (z3 l i))):=by
 subst hii
 have hb:=yg l i
 have hb2:=yg l (i+1)
 have e1:IntKind.i64.wrap (bN l i:Nat)=(bN l i:Nat):=IntWalk.i64_in _ (by omega)
 have e2:IntKind.i64.wrap (bN l (i+1):Nat)=(bN l (i+1):Nat):=IntWalk.i64_in _ (by omega)
 have e3:IntKind.i64.wrap ((i:Int)+1)=((i+1:Nat):Int):=by rw [IntWalk.i64_in _ (by omega)];omega
 have e4:IntKind.i64.wrap (256*(bN l i:Nat))=256*(bN l i:Nat):=IntWalk.i64_in _ (by omega)
 have e5:IntKind.i64.wrap (256*(bN l i:Nat)+(bN l (i+1):Nat))=z3 l i:=IntWalk.i64_in _ (by omega)
 refine z4 {} 0 Tryz.func126 fun Γ hW=>auC ?_
 repeat' first|refine auS ?_|(simp only [z5,zj,e1,e2,e3,e4,e5,Int.toNat_natCast])|refine auD ?_|(refine auW ?_ ?_<;>intro h<;>try exact auH)|fail
 all_goals try exact auP
 all_goals refine auV ?_
 all_goals try exact z8
 all_goals try simp only [hsM] at *
 have:bN l (i+1)=0:=by unfold bN;rw [List.getElem?_eq_none (by omega)];rfl
 refine zB ?_
 rw [rZ,this]
 omega
theorem wn (a b:Int) (ha:0≤a∧a≤65535) (hb:0≤b∧b≤65535):zd Tryz.prog 127 [.v (.int .i64 a),.v (.int .i64 b)] (.v (.int .i64 (zL (a+b)))):=by
 have e1:IntKind.i64.wrap (a+b)=a+b:=IntWalk.i64_in _ (by omega)
 have e2:IntKind.i64.wrap (a+b-65535)=a+b-65535:=IntWalk.i64_in _ (by omega)
 refine z4 {} 0 Tryz.func127 fun Γ hW=>auC ?_
 repeat' first|refine auS ?_|(simp only [e1,e2])|refine auD ?_|(refine auW ?_ ?_<;>intro h<;>try exact auH)|fail
 all_goals try exact auP
 all_goals refine auV ?_
 all_goals try exact z8
 all_goals try simp only [hsM] at *
 all_goals (refine zB ?_;unfold zL;split<;>omega)
theorem t_ (a:Int) (ha:0≤a∧a≤65535) (l:List UInt8) (hl:l.length≤9223372036854775800):zd Tryz.prog 168 [.v (.int .i64 a),.v (.string (mkS l))] (.v (.int .i64 (zL (a+ya l)))):=by
 refine z4 {} 0 Tryz.func168 fun Γ hW=>auC ?_
 repeat' first|refine auS ?_|fail|refine auD ?_|(refine auW ?_ ?_<;>intro h<;>try exact auH)|fail
 refine ze (α:=Nat×Int) (fun x=>[(⟨.d0,.d0,.d0⟩,.v (.int .i64 x.2)),(⟨.d0,.d0,.d5⟩,.v (.int .i64 (x.1:Nat)))]) (fun _=>[]) (fun _=>Γ.g0) (fun x=>l.length-x.1) (fun x=>x.1≤l.length+1∧(0≤x.2∧x.2≤65535)∧zL (x.2+ya (l.drop x.1))=zL (a+ya l)) (0,a) ⟨Nat.zero_le _,ha,rfl⟩ ?_ ?_
 ·skip
  refine zb ?_ ?_ (Nat.le_refl _)
  all_goals first|refine auE ?_|exact zi
  all_goals repeat' first|exact trivial|exact rfl|apply And.intro
 rintro ⟨i,x⟩ ⟨hi,hx,hf⟩
 dsimp only at hi hx hf ⊢
 refine auL ?_
 by_cases hlt:i<l.length
 ·have hw:=zp l i hlt (by omega) i rfl
  have hwb:=zh l i
  have he:=wn x (z3 l i) hx hwb
  have hfb:=xE (x+z3 l i) (by omega)
  rw [nD l i hlt] at hf
  have hd:=(vP (l.drop (i+2))).1
  repeat' first|refine auS ?_|(first|(simp only [z5])|(with_reducible refine z0 hw ?_)|(with_reducible refine z0 he ?_))|refine auD ?_|(refine auW ?_ ?_<;>intro h<;>try exact auH)|fail
  all_goals try exact auP
  refine za ⟨(i+2,zL (x+z3 l i)),⟨by omega,hfb,?_⟩,by dsimp only;omega,?_⟩
  ·rw [rX _ _ (by omega) hd,Int.add_assoc];exact hf
  refine zb ?_ ?_ (Nat.le_refl _)
  all_goals first|refine auE ?_|exact zi
  all_goals repeat' first|exact trivial|exact rfl|apply And.intro
  all_goals exact zB ((IntWalk.i64_in _ (by omega)).trans (by omega))
 ·rw [List.drop_eq_nil_of_le (by omega),ya,Int.add_zero,oV x hx.1 hx.2] at hf
  rw [←hf]
  repeat' first|refine auS ?_|(simp only [z5])|refine auD ?_|(refine auW ?_ ?_<;>intro h<;>try exact auH)|fail
  all_goals try exact auP
  all_goals refine auV ?_
  all_goals try exact z8
  all_goals try simp only [hsM] at *
theorem sJ (l:List UInt8) (hl:l.length≤9223372036854775800):zd Tryz.prog 190 [.v (.string (mkS l))] (.v (.int .i64 (65535-zL (ya l)))):=by
 have hs:=t_ 0 (by decide) l hl
 rw [Int.zero_add] at hs
 have hb:=xE (ya l) (vP l).1
 have e:IntKind.i64.wrap (65535-zL (ya l))=65535-zL (ya l):=IntWalk.i64_in _ (by omega)
 refine z4 {} 0 Tryz.func190 fun Γ hW=>auC ?_
 repeat' first|refine auS ?_|(first|(simp only [e])|(with_reducible refine z0 hs ?_))|refine auD ?_|(refine auW ?_ ?_<;>intro h<;>try exact auH)|fail
 all_goals try exact auP
 all_goals refine auV ?_
 all_goals try exact z8
 all_goals try simp only [hsM] at *
theorem rN (n:Int) (h0:0≤n) (h1:n≤18446744073709551615):zd Tryz.prog 150 [.v (.int .u64 n)] (.v (.int .u16 (zL n))):=by
 have m16:min 16 IntKind.u64.bits=16:=rfl
 refine z4 {} 0 Tryz.func150 fun Γ hW=>auC ?_
 repeat' first|refine auS ?_|fail|refine auD ?_|(refine auW ?_ ?_<;>intro h<;>try exact auH)|fail
 refine ze (α:=Int) (fun m=>[(⟨.d0,.d0,.d0⟩,.v (.int .u64 m))]) (fun _=>[]) (fun _=>Γ.g0) (fun m=>m.toNat) (fun m=>0≤m∧m≤18446744073709551615∧zL m=zL n) n ⟨h0,h1,rfl⟩ ?_ ?_
 ·skip
  refine zb ?_ ?_ (Nat.le_refl _)
  all_goals first|refine auE ?_|exact zi
  all_goals repeat' first|exact trivial|exact rfl|apply And.intro
 rintro m ⟨hm0,hm1,hf⟩
 dsimp only at hm0 hm1 hf ⊢
 refine auL ?_
 by_cases hlt:65535<m
 ·have hb:=ZU m hm0 hm1
  have e1:m.fdiv (2 ^ 16)=m / 65536:=Int.fdiv_eq_ediv_of_nonneg _ (by decide)
  have e2:IntKind.u64.wrap (m / 65536+m % 65536)=m / 65536+m % 65536:=yk _ (by omega) (by omega)
  repeat' first|refine auS ?_|(simp only [m16,hb,e1,e2])|refine auD ?_|(refine auW ?_ ?_<;>intro h<;>try exact auH)|fail
  all_goals try exact auP
  refine za ⟨m / 65536+m % 65536,⟨by omega,by omega,(e_ m hlt).trans hf⟩,by omega,?_⟩
  refine zb ?_ ?_ (Nat.le_refl _)
  all_goals first|refine auE ?_|exact zi
  all_goals repeat' first|exact trivial|exact rfl|apply And.intro
 ·rw [oV m hm0 (by omega)] at hf
  have e3:IntKind.u16.wrap m=m:=IntWalk.u16_in _ (by omega)
  rw [←hf]
  repeat' first|refine auS ?_|(simp only [e3])|refine auD ?_|(refine auW ?_ ?_<;>intro h<;>try exact auH)|fail
  all_goals try exact auP
  all_goals refine auV ?_
  all_goals try exact z8
  all_goals try simp only [hsM] at *
theorem aB (a b:Nat) (ha:a<256) (hb:b<256):bits .or .u64 (IntKind.u64.wrap ((a:Int)*2 ^ 8)) (b:Nat)=256*(a:Int)+(b:Nat):=by
 rw [yk _ (by omega) (by omega),dY 8 _ _ (by omega) (by omega) (by omega) (by omega) (by omega) (by omega)]
 omega
theorem Ye (n:Int) (h0:0≤n) (h1:n≤65535) (l:List UInt8) (hl:l.length≤140737488351300):zd Tryz.prog 141 [.v (.int .u16 n),.v (.string (mkS l))] (.v (.int .u16 (zL (n+ya l)))):=by
 have hw0:=vP l
 have e0:IntKind.u64.wrap n=n:=yk _ h0 (by omega)
 have m8:min 8 IntKind.u64.bits=8:=rfl
 have hem:(ByteArray.mk #[]:ByteArray)=mkS []:=rfl
 refine z4 {} 0 Tryz.func141 fun Γ hW=>auC ?_
 repeat' first|refine auS ?_|(simp only [e0])|refine auD ?_|(refine auW ?_ ?_<;>intro h<;>try exact auH)|fail
 refine ze (α:=Int×List UInt8) (fun x=>[(⟨.d0,.d0,.d5⟩,.v (.int .u64 x.1)),(⟨.d0,.d0,.d1⟩,.v (.string (mkS x.2)))]) (fun _=>[]) (fun _=>Γ.g0) (fun x=>x.2.length) (fun x=>0≤x.1∧x.1+ya x.2=n+ya l∧x.2.length≤l.length) (n,l) ⟨h0,rfl,Nat.le_refl _⟩ ?_ ?_
 ·skip
  refine zb ?_ ?_ (Nat.le_refl _)
  all_goals first|refine auE ?_|exact zi
  all_goals repeat' first|exact trivial|exact rfl|apply And.intro
 rintro ⟨m,t⟩ ⟨hm,hf,htl⟩
 dsimp only at hm hf htl ⊢
 refine auL ?_
 have hb0:=yg t 0
 have hb1:=yg t 1
 have c0:IntKind.u64.wrap (bN t 0:Nat)=(bN t 0:Nat):=yk _ (by omega) (by omega)
 have c1:IntKind.u64.wrap (bN t 1:Nat)=(bN t 1:Nat):=yk _ (by omega) (by omega)
 by_cases hlt:1<t.length
 ·have hw2:ya t=256*(bN t 0:Nat)+(bN t 1:Nat)+ya (t.drop 2):=nD t 0 (by omega)
  have hd:=vP (t.drop 2)
  have hor:=aB (bN t 0) (bN t 1) hb0 hb1
  have e1:IntKind.u64.wrap (m+(256*(bN t 0:Nat)+(bN t 1:Nat)))=m+(256*(bN t 0:Nat)+(bN t 1:Nat)):=yk _ (by omega) (by omega)
  have e4:(mkS t).extract 2 t.length=mkS (t.drop 2):=by rw [zS,List.take_of_length_le (by simp)]
  repeat' first|refine auS ?_|(simp only [z5,zj,m8,c0,c1,hor,e1,e4,Int.toNat_natCast])|refine auD ?_|(refine auW ?_ ?_<;>intro h<;>try exact auH)|fail
  all_goals try exact auP
  refine za ⟨(m+(256*(bN t 0:Nat)+(bN t 1:Nat)),t.drop 2),⟨by dsimp only;omega,by dsimp only;omega,by simp;omega⟩,by simp;omega,?_⟩
  refine zb ?_ ?_ (Nat.le_refl _)
  all_goals first|refine auE ?_|exact zi
  all_goals repeat' first|exact trivial|exact rfl|apply And.intro
 ·rcases t with _|⟨b,_|⟨b2,r⟩⟩
  ·have hfo:=rN m hm (by simp only [ya] at hf;omega)
   rw [←hf,ya,Int.add_zero]
   repeat' first|refine auS ?_|(first|(simp only [z5,hem,uq])|(with_reducible refine z0 hfo ?_))|refine auD ?_|(refine auW ?_ ?_<;>intro h<;>try exact auH)|fail
   all_goals try exact auP
   all_goals first
    |(exfalso;simp at h;done)
    |skip
   all_goals refine auV ?_
   all_goals try exact z8
   all_goals try simp only [hsM] at *
  ·have hbb:((bN [b] 0:Nat):Int)=(b.toNat:Int):=rfl
   have e1:IntKind.u64.wrap (IntKind.u64.wrap ((bN [b] 0:Nat)*2 ^ 8)+m)=m+256*(b.toNat:Int):=by
    rw [yk (_*_) (by omega) (by omega),yk _ (by omega) (by simp only [ya] at hf;omega)];omega
   have e2:IntKind.u64.wrap (m+IntKind.u64.wrap ((bN [b] 0:Nat)*2 ^ 8))=m+256*(b.toNat:Int):=by rw [Int.add_comm];exact e1
   have hfo:=rN (m+256*(b.toNat:Int)) (by omega) (by simp only [ya] at hf;omega)
   rw [←hf,ya]
   repeat' first|refine auS ?_|(first|(simp only [z5,zj,m8,c0,e2,hem,uq,Int.toNat_natCast])|(with_reducible refine z0 hfo ?_))|refine auD ?_|(refine auW ?_ ?_<;>intro h<;>try exact auH)|fail
   all_goals try exact auP
   all_goals first
    |(exfalso;simp at h;done)
    |skip
   all_goals refine auV ?_
   all_goals try exact z8
   all_goals try simp only [hsM] at *
  ·simp at hlt
theorem t9 (l:List UInt8) (hl:l.length≤140737488351300):zd Tryz.prog 145 [.v (.string (mkS l))] (.v (.bool (decide (zL (ya l)=65535)))):=by
 have ha:=Ye 0 (by decide) (by decide) l hl
 rw [Int.zero_add] at ha
 refine z4 {} 0 Tryz.func145 fun Γ hW=>auC ?_
 repeat' first|refine auS ?_|(first|(with_reducible refine z0 ha ?_))|refine auD ?_|(refine auW ?_ ?_<;>intro h<;>try exact auH)|fail
 all_goals try exact auP
 all_goals refine auV ?_
 all_goals try exact z8
 all_goals try simp only [hsM] at *
theorem z6 (n lo hi:Int):zd Tryz.prog 48 [.v (.int .i64 n),.v (.int .i64 lo),.v (.int .i64 hi)] (.v (.bool (decide (lo≤n∧n≤hi)))):=by
 refine z4 {} 0 Tryz.func48 fun Γ hW=>auC ?_
 repeat' first|refine auS ?_|fail|refine auD ?_|(refine auW ?_ ?_<;>intro h<;>try exact auH)|fail
 all_goals refine auV ?_
 all_goals try exact z8
 all_goals try simp only [hsM] at *
 ·exact zQ (by simp [h])
 ·exact zQ (by simp [h])
def und (a b p n:Int):List UInt8:=lg a++lg b++wd (p % 256)++wd n
theorem zx (a b p n:Int):(und a b p n).length=12:=rfl
theorem U5 (p:Int):(IntKind.i64.wrap (p.tmod 256+256)).tmod 256=p % 256:=by
 have h1:p.tmod 256=p % 256∨p.tmod 256=p % 256-256:=by
  by_cases h:0≤p
  ·exact .inl (Int.tmod_eq_emod_of_nonneg h)
  ·have:p.tmod 256 = -((-p) % 256):=by rw [←Int.tmod_eq_emod_of_nonneg (by omega:0≤-p),Int.neg_tmod,Int.neg_neg]
   omega
 rw [IntWalk.i64_in _ (by omega),Int.tmod_eq_emod_of_nonneg (by omega)]
 omega
theorem Xg (p:Int):(IntKind.i64.wrap (p.tmod 65536+65536)).tmod 65536=p % 65536:=by
 have h1:p.tmod 65536=p % 65536∨p.tmod 65536=p % 65536-65536:=by
  by_cases h:0≤p
  ·exact .inl (Int.tmod_eq_emod_of_nonneg h)
  ·have:p.tmod 65536 = -((-p) % 65536):=by rw [←Int.tmod_eq_emod_of_nonneg (by omega:0≤-p),Int.neg_tmod,Int.neg_neg]
   omega
 rw [IntWalk.i64_in _ (by omega),Int.tmod_eq_emod_of_nonneg (by omega)]
 omega
theorem me (a b p n:Int) (ha:0≤a∧a<4294967296) (hb:0≤b∧b<4294967296):zd Tryz.prog 93 [.v (.int .u32 a),.v (.int .u32 b),.v (.int .i64 p),.v (.int .i64 n)] (.v (.string (mkS (und a b p n)))):=by
 have h1:=lZ a ha.1 ha.2
 have h2:=lZ b hb.1 hb.2
 have h3:=sK (p % 256)
 have h4:=sK n
 have h5:=Vo p
 refine z4 {} 0 Tryz.func93 fun Γ hW=>auC ?_
 repeat' first|refine auS ?_|(first|(simp only [zf,h5])|(with_reducible refine z0 h1 ?_)|(with_reducible refine z0 h2 ?_)|(with_reducible refine z0 h3 ?_)|(with_reducible refine z0 h4 ?_))|refine auD ?_|(refine auW ?_ ?_<;>intro h<;>try exact auH)|(refine z7 (by simp only [z5,List.length_append,zW,zE];omega) ?_)
 all_goals try exact auP
 all_goals refine auV ?_
 all_goals try exact z8
 all_goals try simp only [hsM] at *
 all_goals rfl
theorem re (a b p n:Int) (ha:0≤a∧a<4294967296) (hb:0≤b∧b<4294967296):zd Tryz.prog 170 [.v (.int .u32 a),.v (.int .u32 b),.v (.int .i64 p),.v (.int .i64 n)] (.v (.string (mkS (und a b p n)))):=by
 have h1:=uI a ha.1 ha.2
 have h2:=uI b hb.1 hb.2
 have h3:=zC (p % 256) (by omega)
 have h4:=zC (n % 65536) (by omega)
 rw [jt] at h4
 have h5:=U5 p
 have h6:=Xg n
 refine z4 {} 0 Tryz.func170 fun Γ hW=>auC ?_
 repeat' first|refine auS ?_|(first|(simp only [zf,h5,h6])|(with_reducible refine z0 h1 ?_)|(with_reducible refine z0 h2 ?_)|(with_reducible refine z0 h3 ?_)|(with_reducible refine z0 h4 ?_))|refine auD ?_|(refine auW ?_ ?_<;>intro h<;>try exact auH)|(refine z7 (by simp only [z5,List.length_append,zW,zE];omega) ?_)
 all_goals try exact auP
 all_goals refine auV ?_
 all_goals try exact z8
 all_goals try simp only [hsM] at *
 all_goals rfl
end Go.Proofs.YtmibknbmhcnemaaGreatDoor
