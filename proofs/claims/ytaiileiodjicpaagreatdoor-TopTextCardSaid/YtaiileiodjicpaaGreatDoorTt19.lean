import Derived.Laws.BitsAll
import Derived.Below
import Derived.WalkSpells
import Derived.Lib.Strings
import Derived.Lib.IndexBytes
import Derived.Test.YtaiileiodjicpaaGreatDoorTt18
set_option linter.unusedVariables false
set_option linter.unusedSimpArgs false
namespace Go.Proofs.YtaiileiodjicpaaGreatDoor
open Go.RowKit
def yw (m:Int):Int:=if m=0 then 0 else (m-1) % 65535+1
theorem uf (m:Int) (h:0≤m):0≤yw m∧yw m≤65535:=by unfold yw;split<;>omega
theorem iJ (m:Int) (h:0≤m) (h1:m≤65535):yw m=m:=by unfold yw;split<;>omega
theorem fL (m:Int) (h:65535<m):yw (m / 65536+m % 65536)=yw m:=by unfold yw;split<;>split<;>omega
theorem ZJ (m:Int) (h0:0≤m) (h1:m≤18446744073709551615):bits .and .u64 m 65535=m % 65536:=by
 go_bits2
def x8:List UInt8→Int
 |a::b::r=>256*(a.toNat:Int)+(b.toNat:Int)+x8 r
 |[a]=>256*(a.toNat:Int)
 |[]=>0
theorem ri:∀l:List UInt8,0≤x8 l∧x8 l≤65535*l.length
 |a::b::r=>by
  have ha:=a.toNat_lt
  have hb:=b.toNat_lt
  have:=ri r
  simp only [x8,List.length_cons]
  omega
 |[a]=>by
  have ha:=a.toNat_lt
  simp only [x8,List.length_cons,List.length_nil]
  omega
 |[]=>by simp [x8]
theorem xK (a:Int) (h0:0≤a) (h1:a≤65535):bits .xor .u16 IntKind.u16.max a=65535-a:=by
 obtain ⟨n,rfl⟩:=Int.eq_ofNat_of_zero_le h0
 have e:IntKind.u16.max=((65535:Nat):Int):=by decide
 rw [e,u16_xor_nat _ _ (by omega) (by omega)]
 have h:=BitVec.toNat_not (x:=BitVec.ofNat 16 n)
 rw [BitVec.not_def,BitVec.toNat_xor,BitVec.toNat_allOnes,BitVec.toNat_ofNat,Nat.mod_eq_of_lt (by omega)] at h
 have h':65535 ^^^ n=65535-n:=by simpa using h
 rw [h']
 omega
def z8 (l:List UInt8) (i:Nat):Int:=256*((l[i]?.getD 0).toNat:Int)+((l[i+1]?.getD 0).toNat:Int)
theorem zD (l:List UInt8) (i:Nat):0≤z8 l i∧z8 l i≤65535:=by
 unfold z8
 have h1:=(l[i]?.getD 0).toNat_lt
 have h2:=(l[i+1]?.getD 0).toNat_lt
 omega
theorem WW (l:List UInt8) (i:Nat) (h:i<l.length):x8 (l.drop i)=z8 l i+x8 (l.drop (i+2)):=by
 have hi:l[i]?=some l[i]:=List.getElem?_eq_getElem h
 by_cases h1:i+1<l.length
 ·have hi1:l[i+1]?=some l[i+1]:=List.getElem?_eq_getElem h1
  rw [List.drop_eq_getElem_cons h,List.drop_eq_getElem_cons h1]
  simp [x8,z8,hi,hi1]
 ·have hi1:l[i+1]?=none:=List.getElem?_eq_none (by omega)
  rw [List.drop_eq_getElem_cons h,List.drop_eq_nil_of_le (show l.length≤i+1 by omega),List.drop_eq_nil_of_le (show l.length≤i+2 by omega)]
  simp [x8,z8,hi,hi1]
theorem qQ (l:List UInt8) (k i:Nat):z8 (l.drop k) i=z8 l (k+i):=by
 unfold z8
 rw [List.getElem?_drop,List.getElem?_drop,Nat.add_assoc]
end Go.Proofs.YtaiileiodjicpaaGreatDoor
namespace Go.Proofs.YtaiileiodjicpaaGreatDoor
attribute [local irreducible] zF Go
set_option maxRecDepth 100000
theorem UO {a b:Int} (h:a % 256=b % 256):u8 a=u8 b:=by unfold u8;rw [h]
def wd (n:Int):List UInt8:=[u8 (n / 256),u8 n]
def lg (a:Int):List UInt8:=wd (a / 65536)++wd a
theorem yP (n:Int):(wd n).length=2:=rfl
theorem xq (n:Int):(lg n).length=4:=rfl
theorem VU (p:Int):bits .and .i64 p 255=p % 256:=by
 have h:∀x:BitVec 64,(x &&& 255#64).toNat=x.toNat % 256:=fun x=>by
  rw [BitVec.toNat_and]
  exact Nat.and_two_pow_sub_one_eq_mod x.toNat 8
 have e:BitVec.ofInt 64 255=255#64:=by decide
 show IntKind.i64.wrap ((BitVec.ofInt 64 p &&& BitVec.ofInt 64 255).toNat:Int)=_
 rw [e,h,BitVec.toNat_ofInt]
 have h2:((p % ((2 ^ 64:Nat):Int)).toNat:Int)=p % 18446744073709551616:=by
  rw [Int.toNat_of_nonneg (Int.emod_nonneg _ (by decide))];rfl
 rw [Int.natCast_emod,h2,IntWalk.i64_in _ (by omega)]
 omega
theorem mS (n:Int) (h0:0≤n) (h1:n<2 ^ 62):IntKind.i64.wrap n=n:=IntWalk.i64_in _ (by omega)
theorem mq (a b:Int) (h0:0≤a) (h1:a<256) (h2:0≤b) (h3:b<256):bits .or .i64 (IntKind.i64.wrap (a*2 ^ 8)) b=256*a+b:=by
 rw [IntWalk.i64_in _ (by omega),bits_join .i64 62 (by decide) mS 8 _ _ (by omega) (by omega) (by omega) h2 (by omega) (by omega)]
 omega
theorem Xd:min 8 IntKind.i64.bits=8:=rfl
theorem xn (n:Int):zi Tryz.prog 61 [.v (.int .i64 n)] (.v (.string (mkS (wd n)))):=by
 have h1:n.fdiv (2 ^ 8)=n / 256:=Int.fdiv_eq_ediv_of_nonneg _ (by decide)
 have hs:td [[.v (.int .u8 (IntKind.u8.wrap (n / 256)))],[.v (.int .u8 (IntKind.u8.wrap n))]]=mkS (wd n):=by rw [fx,vk,vk];rfl
 refine z7 {} 0 Tryz.func61 fun Γ hW=>auC ?_
 repeat' first|refine auS ?_|(simp only [Xd,h1,hs])|refine auD ?_|(refine auW ?_ ?_<;>intro h<;>try exact auH)|fail
 all_goals try exact auP
 all_goals refine auV ?_
 all_goals try exact zc
 all_goals try simp only [hsM] at *
theorem nG (a:Int) (h0:0≤a) (h1:a<4294967296):zi Tryz.prog 90 [.v (.int .u32 a)] (.v (.string (mkS (lg a)))):=by
 have e0:min 16 IntKind.u32.bits=16:=rfl
 have e1:a.fdiv (2 ^ 16)=a / 65536:=Int.fdiv_eq_ediv_of_nonneg _ (by decide)
 have e3:IntKind.i64.wrap (a / 65536)=a / 65536:=IntWalk.i64_in _ (by omega)
 have e4:IntKind.i64.wrap a=a:=IntWalk.i64_in _ (by omega)
 have w1:=xn (a / 65536)
 have w2:=xn a
 refine z7 {} 0 Tryz.func90 fun Γ hW=>auC ?_
 repeat' first|refine auS ?_|(first|(simp only [e0,e1,e3,e4,zu])|(with_reducible refine z6 w1 ?_)|(with_reducible refine z6 w2 ?_))|refine auD ?_|(refine auW ?_ ?_<;>intro h<;>try exact auH)|(refine zf (by simp only [za,yP];omega) ?_)
 all_goals try exact auP
 all_goals refine auV ?_
 all_goals try exact zc
 all_goals try simp only [hsM] at *
 all_goals rfl
theorem re (n:Int) (h0:0≤n) (h1:n≤18446744073709551615):zi Tryz.prog 125 [.v (.int .u64 n)] (.v (.int .u16 (yw n))):=by
 have m16:min 16 IntKind.u64.bits=16:=rfl
 refine z7 {} 0 Tryz.func125 fun Γ hW=>auC ?_
 repeat' first|refine auS ?_|fail|refine auD ?_|(refine auW ?_ ?_<;>intro h<;>try exact auH)|fail
 refine zw (α:=Int) (fun m=>[(⟨.d0,.d0,.d0⟩,.v (.int .u64 m))]) (fun _=>[]) (fun _=>Γ.g0) (fun m=>m.toNat) (fun m=>0≤m∧m≤18446744073709551615∧yw m=yw n) n ⟨h0,h1,rfl⟩ ?_ ?_
 ·skip
  refine zo ?_ ?_ (Nat.le_refl _)
  all_goals first|refine auE ?_|exact zK
  all_goals repeat' first|exact trivial|exact rfl|apply And.intro
 rintro m ⟨hm0,hm1,hf⟩
 dsimp only at hm0 hm1 hf ⊢
 refine auL ?_
 by_cases hlt:65535<m
 ·have hb:=ZJ m hm0 hm1
  have e1:m.fdiv (2 ^ 16)=m / 65536:=Int.fdiv_eq_ediv_of_nonneg _ (by decide)
  have e2:IntKind.u64.wrap (m / 65536+m % 65536)=m / 65536+m % 65536:=yc _ (by omega) (by omega)
  repeat' first|refine auS ?_|(simp only [m16,hb,e1,e2])|refine auD ?_|(refine auW ?_ ?_<;>intro h<;>try exact auH)|fail
  all_goals try exact auP
  refine zn ⟨m / 65536+m % 65536,⟨by omega,by omega,(fL m hlt).trans hf⟩,by omega,?_⟩
  refine zo ?_ ?_ (Nat.le_refl _)
  all_goals first|refine auE ?_|exact zK
  all_goals repeat' first|exact trivial|exact rfl|apply And.intro
 ·rw [iJ m hm0 (by omega)] at hf
  have e3:IntKind.u16.wrap m=m:=IntWalk.u16_in _ (by omega)
  rw [←hf]
  repeat' first|refine auS ?_|(simp only [e3])|refine auD ?_|(refine auW ?_ ?_<;>intro h<;>try exact auH)|fail
  all_goals try exact auP
  all_goals refine auV ?_
  all_goals try exact zc
  all_goals try simp only [hsM] at *
theorem aG (a b:Nat) (ha:a<256) (hb:b<256):bits .or .u64 (IntKind.u64.wrap ((a:Int)*2 ^ 8)) (b:Nat)=256*(a:Int)+(b:Nat):=by
 rw [yc _ (by omega) (by omega),fk 8 _ _ (by omega) (by omega) (by omega) (by omega) (by omega) (by omega)]
 omega
theorem hP (n:Int) (h0:0≤n) (h1:n≤65535) (l:List UInt8) (hl:l.length≤140737488351300):zi Tryz.prog 89 [.v (.int .u16 n),.v (.string (mkS l))] (.v (.int .u16 (yw (n+x8 l)))):=by
 have hw0:=ri l
 have e0:IntKind.u64.wrap n=n:=yc _ h0 (by omega)
 have m8:min 8 IntKind.u64.bits=8:=rfl
 have hem:(ByteArray.mk #[]:ByteArray)=mkS []:=rfl
 refine z7 {} 0 Tryz.func89 fun Γ hW=>auC ?_
 repeat' first|refine auS ?_|(simp only [e0])|refine auD ?_|(refine auW ?_ ?_<;>intro h<;>try exact auH)|fail
 refine zw (α:=Int×List UInt8) (fun x=>[(⟨.d0,.d0,.d5⟩,.v (.int .u64 x.1)),(⟨.d0,.d0,.d1⟩,.v (.string (mkS x.2)))]) (fun _=>[]) (fun _=>Γ.g0) (fun x=>x.2.length) (fun x=>0≤x.1∧x.1+x8 x.2=n+x8 l∧x.2.length≤l.length) (n,l) ⟨h0,rfl,Nat.le_refl _⟩ ?_ ?_
 ·skip
  refine zo ?_ ?_ (Nat.le_refl _)
  all_goals first|refine auE ?_|exact zK
  all_goals repeat' first|exact trivial|exact rfl|apply And.intro
 rintro ⟨m,t⟩ ⟨hm,hf,htl⟩
 dsimp only at hm hf htl ⊢
 refine auL ?_
 have hb0:=w_ t 0
 have hb1:=w_ t 1
 have c0:IntKind.u64.wrap (bN t 0:Nat)=(bN t 0:Nat):=yc _ (by omega) (by omega)
 have c1:IntKind.u64.wrap (bN t 1:Nat)=(bN t 1:Nat):=yc _ (by omega) (by omega)
 by_cases hlt:1<t.length
 ·have hw2:x8 t=256*(bN t 0:Nat)+(bN t 1:Nat)+x8 (t.drop 2):=WW t 0 (by omega)
  have hd:=ri (t.drop 2)
  have hor:=aG (bN t 0) (bN t 1) hb0 hb1
  have e1:IntKind.u64.wrap (m+(256*(bN t 0:Nat)+(bN t 1:Nat)))=m+(256*(bN t 0:Nat)+(bN t 1:Nat)):=yc _ (by omega) (by omega)
  have e4:(mkS t).extract 2 t.length=mkS (t.drop 2):=by rw [yW,List.take_of_length_le (by simp)]
  repeat' first|refine auS ?_|(simp only [za,zW,m8,c0,c1,hor,e1,e4,Int.toNat_natCast])|refine auD ?_|(refine auW ?_ ?_<;>intro h<;>try exact auH)|fail
  all_goals try exact auP
  refine zn ⟨(m+(256*(bN t 0:Nat)+(bN t 1:Nat)),t.drop 2),⟨by dsimp only;omega,by dsimp only;omega,by simp;omega⟩,by simp;omega,?_⟩
  refine zo ?_ ?_ (Nat.le_refl _)
  all_goals first|refine auE ?_|exact zK
  all_goals repeat' first|exact trivial|exact rfl|apply And.intro
 ·rcases t with _|⟨b,_|⟨b2,r⟩⟩
  ·have hfo:=re m hm (by simp only [x8] at hf;omega)
   rw [←hf,x8,Int.add_zero]
   repeat' first|refine auS ?_|(first|(simp only [za,hem,zg])|(with_reducible refine z6 hfo ?_))|refine auD ?_|(refine auW ?_ ?_<;>intro h<;>try exact auH)|fail
   all_goals try exact auP
   all_goals first
    |(exfalso;simp at h;done)
    |skip
   all_goals refine auV ?_
   all_goals try exact zc
   all_goals try simp only [hsM] at *
  ·have hbb:((bN [b] 0:Nat):Int)=(b.toNat:Int):=rfl
   have e1:IntKind.u64.wrap (IntKind.u64.wrap ((bN [b] 0:Nat)*2 ^ 8)+m)=m+256*(b.toNat:Int):=by
    rw [yc (_*_) (by omega) (by omega),yc _ (by omega) (by simp only [x8] at hf;omega)];omega
   have e2:IntKind.u64.wrap (m+IntKind.u64.wrap ((bN [b] 0:Nat)*2 ^ 8))=m+256*(b.toNat:Int):=by rw [Int.add_comm];exact e1
   have hfo:=re (m+256*(b.toNat:Int)) (by omega) (by simp only [x8] at hf;omega)
   rw [←hf,x8]
   repeat' first|refine auS ?_|(first|(simp only [za,zW,m8,c0,e2,hem,zg,Int.toNat_natCast])|(with_reducible refine z6 hfo ?_))|refine auD ?_|(refine auW ?_ ?_<;>intro h<;>try exact auH)|fail
   all_goals try exact auP
   all_goals first
    |(exfalso;simp at h;done)
    |skip
   all_goals refine auV ?_
   all_goals try exact zc
   all_goals try simp only [hsM] at *
  ·simp at hlt
theorem dW (l:List UInt8) (hl:l.length≤140737488351300):zi Tryz.prog 62 [.v (.string (mkS l))] (.v (.int .u16 (65535-yw (x8 l)))):=by
 have ha:=hP 0 (by decide) (by decide) l hl
 rw [Int.zero_add] at ha
 have hb:=uf (x8 l) (ri l).1
 have hx:=xK (yw (x8 l)) hb.1 hb.2
 refine z7 {} 0 Tryz.func62 fun Γ hW=>auC ?_
 repeat' first|refine auS ?_|(first|(with_reducible refine z6 ha ?_))|refine auD ?_|(refine auW ?_ ?_<;>intro h<;>try exact auH)|fail
 all_goals try exact auP
 all_goals refine auV ?_
 all_goals try exact zc
 all_goals try simp only [hsM] at *
 all_goals exact yd hx
theorem ua (l:List UInt8) (hl:l.length≤140737488351300):zi Tryz.prog 133 [.v (.string (mkS l))] (.v (.bool (decide (yw (x8 l)=65535)))):=by
 have ha:=hP 0 (by decide) (by decide) l hl
 rw [Int.zero_add] at ha
 refine z7 {} 0 Tryz.func133 fun Γ hW=>auC ?_
 repeat' first|refine auS ?_|(first|(with_reducible refine z6 ha ?_))|refine auD ?_|(refine auW ?_ ?_<;>intro h<;>try exact auH)|fail
 all_goals try exact auP
 all_goals refine auV ?_
 all_goals try exact zc
 all_goals try simp only [hsM] at *
def und (a b p n:Int):List UInt8:=lg a++lg b++wd (p % 256)++wd n
theorem zZ (a b p n:Int):(und a b p n).length=12:=rfl
theorem qb (a b p n:Int) (ha:0≤a∧a<4294967296) (hb:0≤b∧b<4294967296):zi Tryz.prog 63 [.v (.int .u32 a),.v (.int .u32 b),.v (.int .i64 p),.v (.int .i64 n)] (.v (.string (mkS (und a b p n)))):=by
 have h1:=nG a ha.1 ha.2
 have h2:=nG b hb.1 hb.2
 have h3:=xn (p % 256)
 have h4:=xn n
 have h5:=VU p
 refine z7 {} 0 Tryz.func63 fun Γ hW=>auC ?_
 repeat' first|refine auS ?_|(first|(simp only [zu,h5])|(with_reducible refine z6 h1 ?_)|(with_reducible refine z6 h2 ?_)|(with_reducible refine z6 h3 ?_)|(with_reducible refine z6 h4 ?_))|refine auD ?_|(refine auW ?_ ?_<;>intro h<;>try exact auH)|(refine zf (by simp only [za,List.length_append,xq,yP];omega) ?_)
 all_goals try exact auP
 all_goals refine auV ?_
 all_goals try exact zc
 all_goals try simp only [hsM] at *
 all_goals rfl
end Go.Proofs.YtaiileiodjicpaaGreatDoor
