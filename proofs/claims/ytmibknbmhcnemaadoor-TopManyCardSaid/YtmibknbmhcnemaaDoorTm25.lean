import Derived.Laws.BitsAll
import Derived.Below
import Derived.WalkSpells
import Derived.Lib.Strings
import Derived.Lib.IndexBytes
import Derived.Test.YtmibknbmhcnemaaDoorTm24
set_option linter.unusedVariables false
set_option linter.unusedSimpArgs false
namespace Go.Proofs.YtmibknbmhcnemaaDoor
open Go.RowKit
def zI (m:Int):Int:=if m=0 then 0 else (m-1) % 65535+1
theorem xD (m:Int) (h:0≤m):0≤zI m∧zI m≤65535:=by unfold zI;split<;>omega
theorem kF (m:Int) (h:0≤m) (h1:m≤65535):zI m=m:=by unfold zI;split<;>omega
theorem jn (m:Int) (h:65535<m):zI (m / 65536+m % 65536)=zI m:=by unfold zI;split<;>split<;>omega
theorem cK (m:Int) (h0:0≤m) (h1:m≤18446744073709551615):bits .and .u64 m 65535=m % 65536:=by
 go_bits2
def y4:List UInt8→Int
 |a::b::r=>256*(a.toNat:Int)+(b.toNat:Int)+y4 r
 |[a]=>256*(a.toNat:Int)
 |[]=>0
theorem sk:∀l:List UInt8,0≤y4 l∧y4 l≤65535*l.length
 |a::b::r=>by
  have ha:=a.toNat_lt
  have hb:=b.toNat_lt
  have:=sk r
  simp only [y4,List.length_cons]
  omega
 |[a]=>by
  have ha:=a.toNat_lt
  simp only [y4,List.length_cons,List.length_nil]
  omega
 |[]=>by simp [y4]
theorem xa (a:Int) (h0:0≤a) (h1:a≤65535):bits .xor .u16 IntKind.u16.max a=65535-a:=by
 obtain ⟨n,rfl⟩:=Int.eq_ofNat_of_zero_le h0
 have e:IntKind.u16.max=((65535:Nat):Int):=by decide
 rw [e,u16_xor_nat _ _ (by omega) (by omega)]
 have h:=BitVec.toNat_not (x:=BitVec.ofNat 16 n)
 rw [BitVec.not_def,BitVec.toNat_xor,BitVec.toNat_allOnes,BitVec.toNat_ofNat,Nat.mod_eq_of_lt (by omega)] at h
 have h':65535 ^^^ n=65535-n:=by simpa using h
 rw [h']
 omega
def z3 (l:List UInt8) (i:Nat):Int:=256*((l[i]?.getD 0).toNat:Int)+((l[i+1]?.getD 0).toNat:Int)
theorem zo (l:List UInt8) (i:Nat):0≤z3 l i∧z3 l i≤65535:=by
 unfold z3
 have h1:=(l[i]?.getD 0).toNat_lt
 have h2:=(l[i+1]?.getD 0).toNat_lt
 omega
theorem aH (l:List UInt8) (i:Nat) (h:i<l.length):y4 (l.drop i)=z3 l i+y4 (l.drop (i+2)):=by
 have hi:l[i]?=some l[i]:=List.getElem?_eq_getElem h
 by_cases h1:i+1<l.length
 ·have hi1:l[i+1]?=some l[i+1]:=List.getElem?_eq_getElem h1
  rw [List.drop_eq_getElem_cons h,List.drop_eq_getElem_cons h1]
  simp [y4,z3,hi,hi1]
 ·have hi1:l[i+1]?=none:=List.getElem?_eq_none (by omega)
  rw [List.drop_eq_getElem_cons h,List.drop_eq_nil_of_le (show l.length≤i+1 by omega),List.drop_eq_nil_of_le (show l.length≤i+2 by omega)]
  simp [y4,z3,hi,hi1]
theorem rD (l:List UInt8) (k i:Nat):z3 (l.drop k) i=z3 l (k+i):=by
 unfold z3
 rw [List.getElem?_drop,List.getElem?_drop,Nat.add_assoc]
end Go.Proofs.YtmibknbmhcnemaaDoor
namespace Go.Proofs.YtmibknbmhcnemaaDoor
attribute [local irreducible] zz Go
set_option maxRecDepth 100000
theorem bb {a b:Int} (h:a % 256=b % 256):u8 a=u8 b:=by unfold u8;rw [h]
def wd (n:Int):List UInt8:=[u8 (n / 256),u8 n]
def lg (a:Int):List UInt8:=wd (a / 65536)++wd a
theorem yA (n:Int):(wd n).length=2:=rfl
theorem x5 (n:Int):(lg n).length=4:=rfl
theorem YX {a b:Int} (h:a % 65536=b % 65536):wd a=wd b:=by
 unfold wd
 rw [bb (show a / 256 % 256=b / 256 % 256 by omega),bb (show a % 256=b % 256 by omega)]
theorem tK (n:Int):wd (n % 65536)=wd n:=YX (by omega)
theorem Ym (p:Int):bits .and .i64 p 255=p % 256:=by
 have h:∀x:BitVec 64,(x &&& 255#64).toNat=x.toNat % 256:=fun x=>by
  rw [BitVec.toNat_and]
  exact Nat.and_two_pow_sub_one_eq_mod x.toNat 8
 have e:BitVec.ofInt 64 255=255#64:=by decide
 show IntKind.i64.wrap ((BitVec.ofInt 64 p &&& BitVec.ofInt 64 255).toNat:Int)=_
 rw [e,h,BitVec.toNat_ofInt]
 have h2:((p % ((2 ^ 64:Nat):Int)).toNat:Int)=p % 18446744073709551616:=by
  rw [Int.toNat_of_nonneg (Int.emod_nonneg _ (by decide))];rfl
 rw [Int.natCast_emod,h2,IntWalk.i64_in _ (by omega)]
 omega
theorem oM (n:Int) (h0:0≤n) (h1:n<2 ^ 62):IntKind.i64.wrap n=n:=IntWalk.i64_in _ (by omega)
theorem oc (a b:Int) (h0:0≤a) (h1:a<256) (h2:0≤b) (h3:b<256):bits .or .i64 (IntKind.i64.wrap (a*2 ^ 8)) b=256*a+b:=by
 rw [IntWalk.i64_in _ (by omega),bits_join .i64 62 (by decide) oM 8 _ _ (by omega) (by omega) (by omega) h2 (by omega) (by omega)]
 omega
theorem dj:min 8 IntKind.i64.bits=8:=rfl
theorem yY (n:Int):zf Tryd.prog 26 [.v (.int .i64 n)] (.v (.string (mkS (wd n)))):=by
 have h1:n.fdiv (2 ^ 8)=n / 256:=Int.fdiv_eq_ediv_of_nonneg _ (by decide)
 have hs:uv [[.v (.int .u8 (IntKind.u8.wrap (n / 256)))],[.v (.int .u8 (IntKind.u8.wrap n))]]=mkS (wd n):=by rw [jP,wG,wG];rfl
 refine z4 {} 0 Tryd.func26 fun Γ hW=>auC ?_
 repeat' first|refine auS ?_|(simp only [dj,h1,hs])|refine auD ?_|(refine auW ?_ ?_<;>intro h<;>try exact auH)|fail
 all_goals try exact auP
 all_goals refine auV ?_
 all_goals try exact z_
 all_goals try simp only [hsM] at *
theorem oi (a:Int) (h0:0≤a) (h1:a<4294967296):zf Tryd.prog 52 [.v (.int .u32 a)] (.v (.string (mkS (lg a)))):=by
 have e0:min 16 IntKind.u32.bits=16:=rfl
 have e1:a.fdiv (2 ^ 16)=a / 65536:=Int.fdiv_eq_ediv_of_nonneg _ (by decide)
 have e3:IntKind.i64.wrap (a / 65536)=a / 65536:=IntWalk.i64_in _ (by omega)
 have e4:IntKind.i64.wrap a=a:=IntWalk.i64_in _ (by omega)
 have w1:=yY (a / 65536)
 have w2:=yY a
 refine z4 {} 0 Tryd.func52 fun Γ hW=>auC ?_
 repeat' first|refine auS ?_|(first|(simp only [e0,e1,e3,e4,zk])|(with_reducible refine z0 w1 ?_)|(with_reducible refine z0 w2 ?_))|refine auD ?_|(refine auW ?_ ?_<;>intro h<;>try exact auH)|(refine za (by simp only [z5,yA];omega) ?_)
 all_goals try exact auP
 all_goals refine auV ?_
 all_goals try exact z_
 all_goals try simp only [hsM] at *
 all_goals rfl
theorem sw (n:Int) (h0:0≤n) (h1:n≤18446744073709551615):zf Tryd.prog 73 [.v (.int .u64 n)] (.v (.int .u16 (zI n))):=by
 have m16:min 16 IntKind.u64.bits=16:=rfl
 refine z4 {} 0 Tryd.func73 fun Γ hW=>auC ?_
 repeat' first|refine auS ?_|fail|refine auD ?_|(refine auW ?_ ?_<;>intro h<;>try exact auH)|fail
 refine zE (α:=Int) (fun m=>[(⟨.d0,.d0,.d0⟩,.v (.int .u64 m))]) (fun _=>[]) (fun _=>Γ.g0) (fun m=>m.toNat) (fun m=>0≤m∧m≤18446744073709551615∧zI m=zI n) n ⟨h0,h1,rfl⟩ ?_ ?_
 ·skip
  refine zt ?_ ?_ (Nat.le_refl _)
  all_goals first|refine auE ?_|exact zR
  all_goals repeat' first|exact trivial|exact rfl|apply And.intro
 rintro m ⟨hm0,hm1,hf⟩
 dsimp only at hm0 hm1 hf ⊢
 refine auL ?_
 by_cases hlt:65535<m
 ·have hb:=cK m hm0 hm1
  have e1:m.fdiv (2 ^ 16)=m / 65536:=Int.fdiv_eq_ediv_of_nonneg _ (by decide)
  have e2:IntKind.u64.wrap (m / 65536+m % 65536)=m / 65536+m % 65536:=zM _ (by omega) (by omega)
  repeat' first|refine auS ?_|(simp only [m16,hb,e1,e2])|refine auD ?_|(refine auW ?_ ?_<;>intro h<;>try exact auH)|fail
  all_goals try exact auP
  refine zp ⟨m / 65536+m % 65536,⟨by omega,by omega,(jn m hlt).trans hf⟩,by omega,?_⟩
  refine zt ?_ ?_ (Nat.le_refl _)
  all_goals first|refine auE ?_|exact zR
  all_goals repeat' first|exact trivial|exact rfl|apply And.intro
 ·rw [kF m hm0 (by omega)] at hf
  have e3:IntKind.u16.wrap m=m:=IntWalk.u16_in _ (by omega)
  rw [←hf]
  repeat' first|refine auS ?_|(simp only [e3])|refine auD ?_|(refine auW ?_ ?_<;>intro h<;>try exact auH)|fail
  all_goals try exact auP
  all_goals refine auV ?_
  all_goals try exact z_
  all_goals try simp only [hsM] at *
theorem fA (a b:Nat) (ha:a<256) (hb:b<256):bits .or .u64 (IntKind.u64.wrap ((a:Int)*2 ^ 8)) (b:Nat)=256*(a:Int)+(b:Nat):=by
 rw [zM _ (by omega) (by omega),jw 8 _ _ (by omega) (by omega) (by omega) (by omega) (by omega) (by omega)]
 omega
theorem lW (n:Int) (h0:0≤n) (h1:n≤65535) (l:List UInt8) (hl:l.length≤140737488351300):zf Tryd.prog 51 [.v (.int .u16 n),.v (.string (mkS l))] (.v (.int .u16 (zI (n+y4 l)))):=by
 have hw0:=sk l
 have e0:IntKind.u64.wrap n=n:=zM _ h0 (by omega)
 have m8:min 8 IntKind.u64.bits=8:=rfl
 have hem:(ByteArray.mk #[]:ByteArray)=mkS []:=rfl
 refine z4 {} 0 Tryd.func51 fun Γ hW=>auC ?_
 repeat' first|refine auS ?_|(simp only [e0])|refine auD ?_|(refine auW ?_ ?_<;>intro h<;>try exact auH)|fail
 refine zE (α:=Int×List UInt8) (fun x=>[(⟨.d0,.d0,.d5⟩,.v (.int .u64 x.1)),(⟨.d0,.d0,.d1⟩,.v (.string (mkS x.2)))]) (fun _=>[]) (fun _=>Γ.g0) (fun x=>x.2.length) (fun x=>0≤x.1∧x.1+y4 x.2=n+y4 l∧x.2.length≤l.length) (n,l) ⟨h0,rfl,Nat.le_refl _⟩ ?_ ?_
 ·skip
  refine zt ?_ ?_ (Nat.le_refl _)
  all_goals first|refine auE ?_|exact zR
  all_goals repeat' first|exact trivial|exact rfl|apply And.intro
 rintro ⟨m,t⟩ ⟨hm,hf,htl⟩
 dsimp only at hm hf htl ⊢
 refine auL ?_
 have hb0:=xC t 0
 have hb1:=xC t 1
 have c0:IntKind.u64.wrap (bN t 0:Nat)=(bN t 0:Nat):=zM _ (by omega) (by omega)
 have c1:IntKind.u64.wrap (bN t 1:Nat)=(bN t 1:Nat):=zM _ (by omega) (by omega)
 by_cases hlt:1<t.length
 ·have hw2:y4 t=256*(bN t 0:Nat)+(bN t 1:Nat)+y4 (t.drop 2):=aH t 0 (by omega)
  have hd:=sk (t.drop 2)
  have hor:=fA (bN t 0) (bN t 1) hb0 hb1
  have e1:IntKind.u64.wrap (m+(256*(bN t 0:Nat)+(bN t 1:Nat)))=m+(256*(bN t 0:Nat)+(bN t 1:Nat)):=zM _ (by omega) (by omega)
  have e4:(mkS t).extract 2 t.length=mkS (t.drop 2):=by rw [xj,List.take_of_length_le (by simp)]
  repeat' first|refine auS ?_|(simp only [z5,zQ,m8,c0,c1,hor,e1,e4,Int.toNat_natCast])|refine auD ?_|(refine auW ?_ ?_<;>intro h<;>try exact auH)|fail
  all_goals try exact auP
  refine zp ⟨(m+(256*(bN t 0:Nat)+(bN t 1:Nat)),t.drop 2),⟨by dsimp only;omega,by dsimp only;omega,by simp;omega⟩,by simp;omega,?_⟩
  refine zt ?_ ?_ (Nat.le_refl _)
  all_goals first|refine auE ?_|exact zR
  all_goals repeat' first|exact trivial|exact rfl|apply And.intro
 ·rcases t with _|⟨b,_|⟨b2,r⟩⟩
  ·have hfo:=sw m hm (by simp only [y4] at hf;omega)
   rw [←hf,y4,Int.add_zero]
   repeat' first|refine auS ?_|(first|(simp only [z5,hem,uJ])|(with_reducible refine z0 hfo ?_))|refine auD ?_|(refine auW ?_ ?_<;>intro h<;>try exact auH)|fail
   all_goals try exact auP
   all_goals first
    |(exfalso;simp at h;done)
    |skip
   all_goals refine auV ?_
   all_goals try exact z_
   all_goals try simp only [hsM] at *
  ·have hbb:((bN [b] 0:Nat):Int)=(b.toNat:Int):=rfl
   have e1:IntKind.u64.wrap (IntKind.u64.wrap ((bN [b] 0:Nat)*2 ^ 8)+m)=m+256*(b.toNat:Int):=by
    rw [zM (_*_) (by omega) (by omega),zM _ (by omega) (by simp only [y4] at hf;omega)];omega
   have e2:IntKind.u64.wrap (m+IntKind.u64.wrap ((bN [b] 0:Nat)*2 ^ 8))=m+256*(b.toNat:Int):=by rw [Int.add_comm];exact e1
   have hfo:=sw (m+256*(b.toNat:Int)) (by omega) (by simp only [y4] at hf;omega)
   rw [←hf,y4]
   repeat' first|refine auS ?_|(first|(simp only [z5,zQ,m8,c0,e2,hem,uJ,Int.toNat_natCast])|(with_reducible refine z0 hfo ?_))|refine auD ?_|(refine auW ?_ ?_<;>intro h<;>try exact auH)|fail
   all_goals try exact auP
   all_goals first
    |(exfalso;simp at h;done)
    |skip
   all_goals refine auV ?_
   all_goals try exact z_
   all_goals try simp only [hsM] at *
  ·simp at hlt
theorem iP (l:List UInt8) (hl:l.length≤140737488351300):zf Tryd.prog 27 [.v (.string (mkS l))] (.v (.int .u16 (65535-zI (y4 l)))):=by
 have ha:=lW 0 (by decide) (by decide) l hl
 rw [Int.zero_add] at ha
 have hb:=xD (y4 l) (sk l).1
 have hx:=xa (zI (y4 l)) hb.1 hb.2
 refine z4 {} 0 Tryd.func27 fun Γ hW=>auC ?_
 repeat' first|refine auS ?_|(first|(with_reducible refine z0 ha ?_))|refine auD ?_|(refine auW ?_ ?_<;>intro h<;>try exact auH)|fail
 all_goals try exact auP
 all_goals refine auV ?_
 all_goals try exact z_
 all_goals try simp only [hsM] at *
 all_goals exact y8 hx
theorem vo (l:List UInt8) (hl:l.length≤140737488351300):zf Tryd.prog 45 [.v (.string (mkS l))] (.v (.bool (decide (zI (y4 l)=65535)))):=by
 have ha:=lW 0 (by decide) (by decide) l hl
 rw [Int.zero_add] at ha
 refine z4 {} 0 Tryd.func45 fun Γ hW=>auC ?_
 repeat' first|refine auS ?_|(first|(with_reducible refine z0 ha ?_))|refine auD ?_|(refine auW ?_ ?_<;>intro h<;>try exact auH)|fail
 all_goals try exact auP
 all_goals refine auV ?_
 all_goals try exact z_
 all_goals try simp only [hsM] at *
def und (a b p n:Int):List UInt8:=lg a++lg b++wd (p % 256)++wd n
theorem zG (a b p n:Int):(und a b p n).length=12:=rfl
theorem rj (a b p n:Int) (ha:0≤a∧a<4294967296) (hb:0≤b∧b<4294967296):zf Tryd.prog 28 [.v (.int .u32 a),.v (.int .u32 b),.v (.int .i64 p),.v (.int .i64 n)] (.v (.string (mkS (und a b p n)))):=by
 have h1:=oi a ha.1 ha.2
 have h2:=oi b hb.1 hb.2
 have h3:=yY (p % 256)
 have h4:=yY n
 have h5:=Ym p
 refine z4 {} 0 Tryd.func28 fun Γ hW=>auC ?_
 repeat' first|refine auS ?_|(first|(simp only [zk,h5])|(with_reducible refine z0 h1 ?_)|(with_reducible refine z0 h2 ?_)|(with_reducible refine z0 h3 ?_)|(with_reducible refine z0 h4 ?_))|refine auD ?_|(refine auW ?_ ?_<;>intro h<;>try exact auH)|(refine za (by simp only [z5,List.length_append,x5,yA];omega) ?_)
 all_goals try exact auP
 all_goals refine auV ?_
 all_goals try exact z_
 all_goals try simp only [hsM] at *
 all_goals rfl
end Go.Proofs.YtmibknbmhcnemaaDoor
