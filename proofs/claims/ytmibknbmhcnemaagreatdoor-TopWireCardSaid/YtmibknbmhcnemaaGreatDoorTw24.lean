import Derived.Laws.BitsAll
import Derived.Below
import Derived.WalkSpells
import Derived.Lib.Strings
import Derived.Lib.IndexBytes
import Derived.Test.YtmibknbmhcnemaaGreatDoorTw23
set_option linter.unusedVariables false
set_option linter.unusedSimpArgs false
namespace Go.Proofs.YtmibknbmhcnemaaGreatDoor
open Go.RowKit
def zK (m:Int):Int:=if m=0 then 0 else (m-1) % 65535+1
theorem wt (m:Int) (h:0≤m):0≤zK m∧zK m≤65535:=by unfold zK;split<;>omega
theorem qR (m:Int) (h:0≤m) (h1:m≤65535):zK m=m:=by unfold zK;split<;>omega
theorem jQ (m:Int) (h:65535<m):zK (m / 65536+m % 65536)=zK m:=by unfold zK;split<;>split<;>omega
theorem dA (a b:Int) (ha:0≤a) (hb:0≤b):zK (zK a+b)=zK (a+b):=by unfold zK;split<;>split<;>split<;>omega
theorem aG (m:Int) (h0:0≤m) (h1:m≤18446744073709551615):bits .and .u64 m 65535=m % 65536:=by
 go_bits2
def yo:List UInt8→Int
 |a::b::r=>256*(a.toNat:Int)+(b.toNat:Int)+yo r
 |[a]=>256*(a.toNat:Int)
 |[]=>0
theorem uh:∀l:List UInt8,0≤yo l∧yo l≤65535*l.length
 |a::b::r=>by
  have ha:=a.toNat_lt
  have hb:=b.toNat_lt
  have:=uh r
  simp only [yo,List.length_cons]
  omega
 |[a]=>by
  have ha:=a.toNat_lt
  simp only [yo,List.length_cons,List.length_nil]
  omega
 |[]=>by simp [yo]
theorem xC (a:Int) (h0:0≤a) (h1:a≤65535):bits .xor .u16 IntKind.u16.max a=65535-a:=by
 obtain ⟨n,rfl⟩:=Int.eq_ofNat_of_zero_le h0
 have e:IntKind.u16.max=((65535:Nat):Int):=by decide
 rw [e,u16_xor_nat _ _ (by omega) (by omega)]
 have h:=BitVec.toNat_not (x:=BitVec.ofNat 16 n)
 rw [BitVec.not_def,BitVec.toNat_xor,BitVec.toNat_allOnes,BitVec.toNat_ofNat,Nat.mod_eq_of_lt (by omega)] at h
 have h':65535 ^^^ n=65535-n:=by simpa using h
 rw [h']
 omega
def z4 (l:List UInt8) (i:Nat):Int:=256*((l[i]?.getD 0).toNat:Int)+((l[i+1]?.getD 0).toNat:Int)
theorem zr (l:List UInt8) (i:Nat):0≤z4 l i∧z4 l i≤65535:=by
 unfold z4
 have h1:=(l[i]?.getD 0).toNat_lt
 have h2:=(l[i+1]?.getD 0).toNat_lt
 omega
theorem gV (l:List UInt8) (i:Nat) (h:i<l.length):yo (l.drop i)=z4 l i+yo (l.drop (i+2)):=by
 have hi:l[i]?=some l[i]:=List.getElem?_eq_getElem h
 by_cases h1:i+1<l.length
 ·have hi1:l[i+1]?=some l[i+1]:=List.getElem?_eq_getElem h1
  rw [List.drop_eq_getElem_cons h,List.drop_eq_getElem_cons h1]
  simp [yo,z4,hi,hi1]
 ·have hi1:l[i+1]?=none:=List.getElem?_eq_none (by omega)
  rw [List.drop_eq_getElem_cons h,List.drop_eq_nil_of_le (show l.length≤i+1 by omega),List.drop_eq_nil_of_le (show l.length≤i+2 by omega)]
  simp [yo,z4,hi,hi1]
theorem rZ (l:List UInt8) (k i:Nat):z4 (l.drop k) i=z4 l (k+i):=by
 unfold z4
 rw [List.getElem?_drop,List.getElem?_drop,Nat.add_assoc]
end Go.Proofs.YtmibknbmhcnemaaGreatDoor
namespace Go.Proofs.YtmibknbmhcnemaaGreatDoor
attribute [local irreducible] zu Go
set_option maxRecDepth 100000
theorem gP {a b:Int} (h:a % 256=b % 256):u8 a=u8 b:=by unfold u8;rw [h]
def wd (n:Int):List UInt8:=[u8 (n / 256),u8 n]
def lg (a:Int):List UInt8:=wd (a / 65536)++wd a
theorem yq (n:Int):(wd n).length=2:=rfl
theorem xh (n:Int):(lg n).length=4:=rfl
theorem YW (p:Int):bits .and .i64 p 255=p % 256:=by
 have h:∀x:BitVec 64,(x &&& 255#64).toNat=x.toNat % 256:=fun x=>by
  rw [BitVec.toNat_and]
  exact Nat.and_two_pow_sub_one_eq_mod x.toNat 8
 have e:BitVec.ofInt 64 255=255#64:=by decide
 show IntKind.i64.wrap ((BitVec.ofInt 64 p &&& BitVec.ofInt 64 255).toNat:Int)=_
 rw [e,h,BitVec.toNat_ofInt]
 have h2:((p % ((2 ^ 64:Nat):Int)).toNat:Int)=p % 18446744073709551616:=by
  rw [Int.toNat_of_nonneg (Int.emod_nonneg _ (by decide))];rfl
 rw [Int.natCast_emod,h2,IntWalk.i64_in _ (by omega)]
 omega
theorem nj (n:Int) (h0:0≤n) (h1:n<2 ^ 62):IntKind.i64.wrap n=n:=IntWalk.i64_in _ (by omega)
theorem oV (a b:Int) (h0:0≤a) (h1:a<256) (h2:0≤b) (h3:b<256):bits .or .i64 (IntKind.i64.wrap (a*2 ^ 8)) b=256*a+b:=by
 rw [IntWalk.i64_in _ (by omega),bits_join .i64 62 (by decide) nj 8 _ _ (by omega) (by omega) (by omega) h2 (by omega) (by omega)]
 omega
theorem dD:min 8 IntKind.i64.bits=8:=rfl
theorem uP (n:Int) (h0:0≤n):zc Tryz.prog 128 [.v (.int .i64 n)] (.v (.string (mkS (wd n)))):=by
 by_cases hm:n≤9223372036854775807
 ·have h1:IntKind.i64.wrap (n.tdiv 256)=n / 256:=by rw [Int.tdiv_eq_ediv_of_nonneg h0,IntWalk.i64_in _ (by omega)]
  have h2:n.tmod 256=n % 256:=Int.tmod_eq_emod_of_nonneg h0
  have hb:=fun k n1=>bM (n / 256) (n % 256) true k n1
  rw [show mkS [u8 (n / 256),u8 (n % 256)]=mkS (wd n) by unfold wd;rw [gP (show n % 256 % 256=n % 256 by omega)]] at hb
  refine z3 {} 0 Tryz.func128 fun Γ hW=>auC ?_
  repeat' first|refine auS ?_|(first|(simp only [h1,h2])|(with_reducible refine nI rfl (hb _ _) ?_))|refine auD ?_|(refine auW ?_ ?_<;>intro h<;>try exact auH)|fail
  all_goals try exact auP
  all_goals refine auV ?_
  all_goals try exact z9
  all_goals try simp only [hsM] at *
 ·have h1:u8 (IntKind.i64.wrap (n.tdiv 256))=u8 (n / 256):=by rw [Int.tdiv_eq_ediv_of_nonneg h0];exact gP (by rw [IntKind.wrap_i64];omega)
  have h2:n.tmod 256=n % 256:=Int.tmod_eq_emod_of_nonneg h0
  have hb:=fun k n1=>bM (IntKind.i64.wrap (n.tdiv 256)) (n % 256) true k n1
  rw [show mkS [u8 (IntKind.i64.wrap (n.tdiv 256)),u8 (n % 256)]=mkS (wd n) by unfold wd;rw [h1,gP (show n % 256 % 256=n % 256 by omega)]] at hb
  refine z3 {} 0 Tryz.func128 fun Γ hW=>auC ?_
  repeat' first|refine auS ?_|(first|(simp only [h2])|(with_reducible refine nI rfl (hb _ _) ?_))|refine auD ?_|(refine auW ?_ ?_<;>intro h<;>try exact auH)|fail
  all_goals try exact auP
  all_goals refine auV ?_
  all_goals try exact z9
  all_goals try simp only [hsM] at *
theorem xj (n:Int):zc Tryz.prog 91 [.v (.int .i64 n)] (.v (.string (mkS (wd n)))):=by
 have h1:n.fdiv (2 ^ 8)=n / 256:=Int.fdiv_eq_ediv_of_nonneg _ (by decide)
 have hs:vg [[.v (.int .u8 (IntKind.u8.wrap (n / 256)))],[.v (.int .u8 (IntKind.u8.wrap n))]]=mkS (wd n):=by rw [lG,xD,xD];rfl
 refine z3 {} 0 Tryz.func91 fun Γ hW=>auC ?_
 repeat' first|refine auS ?_|(simp only [dD,h1,hs])|refine auD ?_|(refine auW ?_ ?_<;>intro h<;>try exact auH)|fail
 all_goals try exact auP
 all_goals refine auV ?_
 all_goals try exact z9
 all_goals try simp only [hsM] at *
theorem ne (a:Int) (h0:0≤a) (h1:a<4294967296):zc Tryz.prog 142 [.v (.int .u32 a)] (.v (.string (mkS (lg a)))):=by
 have e0:min 16 IntKind.u32.bits=16:=rfl
 have e1:a.fdiv (2 ^ 16)=a / 65536:=Int.fdiv_eq_ediv_of_nonneg _ (by decide)
 have e3:IntKind.i64.wrap (a / 65536)=a / 65536:=IntWalk.i64_in _ (by omega)
 have e4:IntKind.i64.wrap a=a:=IntWalk.i64_in _ (by omega)
 have w1:=xj (a / 65536)
 have w2:=xj a
 refine z3 {} 0 Tryz.func142 fun Γ hW=>auC ?_
 repeat' first|refine auS ?_|(first|(simp only [e0,e1,e3,e4,zn])|(with_reducible refine z0 w1 ?_)|(with_reducible refine z0 w2 ?_))|refine auD ?_|(refine auW ?_ ?_<;>intro h<;>try exact auH)|(refine z_ (by simp only [z5,yq];omega) ?_)
 all_goals try exact auP
 all_goals refine auV ?_
 all_goals try exact z9
 all_goals try simp only [hsM] at *
 all_goals rfl
theorem Y6 {l:List UInt8} {i:Nat}:z4 l i=256*(bN l i:Nat)+(bN l (i+1):Nat):=rfl
theorem v9 (l:List UInt8) (i:Nat) (hi:i<l.length) (hl:l.length≤9223372036854775806) (ii:Int) (hii:ii=(i:Nat)):zc Tryz.prog 126 [.v (.string (mkS l)),.v (.int .i64 ii)] (.v (.int .i64 (z4 l i))):=by
 subst hii
 have hb:=xf l i
 have hb2:=xf l (i+1)
 have e1:IntKind.i64.wrap (bN l i:Nat)=(bN l i:Nat):=IntWalk.i64_in _ (by omega)
 have e2:IntKind.i64.wrap (bN l (i+1):Nat)=(bN l (i+1):Nat):=IntWalk.i64_in _ (by omega)
 have e3:IntKind.i64.wrap ((i:Int)+1)=((i+1:Nat):Int):=by rw [IntWalk.i64_in _ (by omega)];omega
 have e4:IntKind.i64.wrap (256*(bN l i:Nat))=256*(bN l i:Nat):=IntWalk.i64_in _ (by omega)
 have e5:IntKind.i64.wrap (256*(bN l i:Nat)+(bN l (i+1):Nat))=z4 l i:=IntWalk.i64_in _ (by omega)
 refine z3 {} 0 Tryz.func126 fun Γ hW=>auC ?_
 repeat' first|refine auS ?_|(simp only [z5,zU,e1,e2,e3,e4,e5,Int.toNat_natCast])|refine auD ?_|(refine auW ?_ ?_<;>intro h<;>try exact auH)|fail
 all_goals try exact auP
 all_goals refine auV ?_
 all_goals try exact z9
 all_goals try simp only [hsM] at *
 have:bN l (i+1)=0:=by unfold bN;rw [List.getElem?_eq_none (by omega)];rfl
 refine zL ?_
 rw [Y6,this]
 omega
theorem ol (a b:Int) (ha:0≤a∧a≤65535) (hb:0≤b∧b≤65535):zc Tryz.prog 127 [.v (.int .i64 a),.v (.int .i64 b)] (.v (.int .i64 (zK (a+b)))):=by
 have e1:IntKind.i64.wrap (a+b)=a+b:=IntWalk.i64_in _ (by omega)
 have e2:IntKind.i64.wrap (a+b-65535)=a+b-65535:=IntWalk.i64_in _ (by omega)
 refine z3 {} 0 Tryz.func127 fun Γ hW=>auC ?_
 repeat' first|refine auS ?_|(simp only [e1,e2])|refine auD ?_|(refine auW ?_ ?_<;>intro h<;>try exact auH)|fail
 all_goals try exact auP
 all_goals refine auV ?_
 all_goals try exact z9
 all_goals try simp only [hsM] at *
 all_goals (refine zL ?_;unfold zK;split<;>omega)
theorem iO (a:Int) (ha:0≤a∧a≤65535) (l:List UInt8) (hl:l.length≤9223372036854775800):zc Tryz.prog 168 [.v (.int .i64 a),.v (.string (mkS l))] (.v (.int .i64 (zK (a+yo l)))):=by
 refine z3 {} 0 Tryz.func168 fun Γ hW=>auC ?_
 repeat' first|refine auS ?_|fail|refine auD ?_|(refine auW ?_ ?_<;>intro h<;>try exact auH)|fail
 refine zx (α:=Nat×Int) (fun x=>[(⟨.d0,.d0,.d0⟩,.v (.int .i64 x.2)),(⟨.d0,.d0,.d5⟩,.v (.int .i64 (x.1:Nat)))]) (fun _=>[]) (fun _=>Γ.g0) (fun x=>l.length-x.1) (fun x=>x.1≤l.length+1∧(0≤x.2∧x.2≤65535)∧zK (x.2+yo (l.drop x.1))=zK (a+yo l)) (0,a) ⟨Nat.zero_le _,ha,rfl⟩ ?_ ?_
 ·skip
  refine zp ?_ ?_ (Nat.le_refl _)
  all_goals first|refine auE ?_|exact zJ
  all_goals repeat' first|exact trivial|exact rfl|apply And.intro
 rintro ⟨i,x⟩ ⟨hi,hx,hf⟩
 dsimp only at hi hx hf ⊢
 refine auL ?_
 by_cases hlt:i<l.length
 ·have hw:=v9 l i hlt (by omega) i rfl
  have hwb:=zr l i
  have he:=ol x (z4 l i) hx hwb
  have hfb:=wt (x+z4 l i) (by omega)
  rw [gV l i hlt] at hf
  have hd:=(uh (l.drop (i+2))).1
  repeat' first|refine auS ?_|(first|(simp only [z5])|(with_reducible refine z0 hw ?_)|(with_reducible refine z0 he ?_))|refine auD ?_|(refine auW ?_ ?_<;>intro h<;>try exact auH)|fail
  all_goals try exact auP
  refine zo ⟨(i+2,zK (x+z4 l i)),⟨by omega,hfb,?_⟩,by dsimp only;omega,?_⟩
  ·rw [dA _ _ (by omega) hd,Int.add_assoc];exact hf
  refine zp ?_ ?_ (Nat.le_refl _)
  all_goals first|refine auE ?_|exact zJ
  all_goals repeat' first|exact trivial|exact rfl|apply And.intro
  all_goals exact zL ((IntWalk.i64_in _ (by omega)).trans (by omega))
 ·rw [List.drop_eq_nil_of_le (by omega),yo,Int.add_zero,qR x hx.1 hx.2] at hf
  rw [←hf]
  repeat' first|refine auS ?_|(simp only [z5])|refine auD ?_|(refine auW ?_ ?_<;>intro h<;>try exact auH)|fail
  all_goals try exact auP
  all_goals refine auV ?_
  all_goals try exact z9
  all_goals try simp only [hsM] at *
theorem rf (l:List UInt8) (hl:l.length≤9223372036854775800):zc Tryz.prog 190 [.v (.string (mkS l))] (.v (.int .i64 (65535-zK (yo l)))):=by
 have hs:=iO 0 (by decide) l hl
 rw [Int.zero_add] at hs
 have hb:=wt (yo l) (uh l).1
 have e:IntKind.i64.wrap (65535-zK (yo l))=65535-zK (yo l):=IntWalk.i64_in _ (by omega)
 refine z3 {} 0 Tryz.func190 fun Γ hW=>auC ?_
 repeat' first|refine auS ?_|(first|(simp only [e])|(with_reducible refine z0 hs ?_))|refine auD ?_|(refine auW ?_ ?_<;>intro h<;>try exact auH)|fail
 all_goals try exact auP
 all_goals refine auV ?_
 all_goals try exact z9
 all_goals try simp only [hsM] at *
theorem sr (n:Int) (h0:0≤n) (h1:n≤18446744073709551615):zc Tryz.prog 150 [.v (.int .u64 n)] (.v (.int .u16 (zK n))):=by
 have m16:min 16 IntKind.u64.bits=16:=rfl
 refine z3 {} 0 Tryz.func150 fun Γ hW=>auC ?_
 repeat' first|refine auS ?_|fail|refine auD ?_|(refine auW ?_ ?_<;>intro h<;>try exact auH)|fail
 refine zx (α:=Int) (fun m=>[(⟨.d0,.d0,.d0⟩,.v (.int .u64 m))]) (fun _=>[]) (fun _=>Γ.g0) (fun m=>m.toNat) (fun m=>0≤m∧m≤18446744073709551615∧zK m=zK n) n ⟨h0,h1,rfl⟩ ?_ ?_
 ·skip
  refine zp ?_ ?_ (Nat.le_refl _)
  all_goals first|refine auE ?_|exact zJ
  all_goals repeat' first|exact trivial|exact rfl|apply And.intro
 rintro m ⟨hm0,hm1,hf⟩
 dsimp only at hm0 hm1 hf ⊢
 refine auL ?_
 by_cases hlt:65535<m
 ·have hb:=aG m hm0 hm1
  have e1:m.fdiv (2 ^ 16)=m / 65536:=Int.fdiv_eq_ediv_of_nonneg _ (by decide)
  have e2:IntKind.u64.wrap (m / 65536+m % 65536)=m / 65536+m % 65536:=zX _ (by omega) (by omega)
  repeat' first|refine auS ?_|(simp only [m16,hb,e1,e2])|refine auD ?_|(refine auW ?_ ?_<;>intro h<;>try exact auH)|fail
  all_goals try exact auP
  refine zo ⟨m / 65536+m % 65536,⟨by omega,by omega,(jQ m hlt).trans hf⟩,by omega,?_⟩
  refine zp ?_ ?_ (Nat.le_refl _)
  all_goals first|refine auE ?_|exact zJ
  all_goals repeat' first|exact trivial|exact rfl|apply And.intro
 ·rw [qR m hm0 (by omega)] at hf
  have e3:IntKind.u16.wrap m=m:=IntWalk.u16_in _ (by omega)
  rw [←hf]
  repeat' first|refine auS ?_|(simp only [e3])|refine auD ?_|(refine auW ?_ ?_<;>intro h<;>try exact auH)|fail
  all_goals try exact auP
  all_goals refine auV ?_
  all_goals try exact z9
  all_goals try simp only [hsM] at *
theorem dp (a b:Nat) (ha:a<256) (hb:b<256):bits .or .u64 (IntKind.u64.wrap ((a:Int)*2 ^ 8)) (b:Nat)=256*(a:Int)+(b:Nat):=by
 rw [zX _ (by omega) (by omega),jV 8 _ _ (by omega) (by omega) (by omega) (by omega) (by omega) (by omega)]
 omega
theorem jz (n:Int) (h0:0≤n) (h1:n≤65535) (l:List UInt8) (hl:l.length≤140737488351300):zc Tryz.prog 141 [.v (.int .u16 n),.v (.string (mkS l))] (.v (.int .u16 (zK (n+yo l)))):=by
 have hw0:=uh l
 have e0:IntKind.u64.wrap n=n:=zX _ h0 (by omega)
 have m8:min 8 IntKind.u64.bits=8:=rfl
 have hem:(ByteArray.mk #[]:ByteArray)=mkS []:=rfl
 refine z3 {} 0 Tryz.func141 fun Γ hW=>auC ?_
 repeat' first|refine auS ?_|(simp only [e0])|refine auD ?_|(refine auW ?_ ?_<;>intro h<;>try exact auH)|fail
 refine zx (α:=Int×List UInt8) (fun x=>[(⟨.d0,.d0,.d5⟩,.v (.int .u64 x.1)),(⟨.d0,.d0,.d1⟩,.v (.string (mkS x.2)))]) (fun _=>[]) (fun _=>Γ.g0) (fun x=>x.2.length) (fun x=>0≤x.1∧x.1+yo x.2=n+yo l∧x.2.length≤l.length) (n,l) ⟨h0,rfl,Nat.le_refl _⟩ ?_ ?_
 ·skip
  refine zp ?_ ?_ (Nat.le_refl _)
  all_goals first|refine auE ?_|exact zJ
  all_goals repeat' first|exact trivial|exact rfl|apply And.intro
 rintro ⟨m,t⟩ ⟨hm,hf,htl⟩
 dsimp only at hm hf htl ⊢
 refine auL ?_
 have hb0:=xf t 0
 have hb1:=xf t 1
 have c0:IntKind.u64.wrap (bN t 0:Nat)=(bN t 0:Nat):=zX _ (by omega) (by omega)
 have c1:IntKind.u64.wrap (bN t 1:Nat)=(bN t 1:Nat):=zX _ (by omega) (by omega)
 by_cases hlt:1<t.length
 ·have hw2:yo t=256*(bN t 0:Nat)+(bN t 1:Nat)+yo (t.drop 2):=gV t 0 (by omega)
  have hd:=uh (t.drop 2)
  have hor:=dp (bN t 0) (bN t 1) hb0 hb1
  have e1:IntKind.u64.wrap (m+(256*(bN t 0:Nat)+(bN t 1:Nat)))=m+(256*(bN t 0:Nat)+(bN t 1:Nat)):=zX _ (by omega) (by omega)
  have e4:(mkS t).extract 2 t.length=mkS (t.drop 2):=by rw [yY,List.take_of_length_le (by simp)]
  repeat' first|refine auS ?_|(simp only [z5,zU,m8,c0,c1,hor,e1,e4,Int.toNat_natCast])|refine auD ?_|(refine auW ?_ ?_<;>intro h<;>try exact auH)|fail
  all_goals try exact auP
  refine zo ⟨(m+(256*(bN t 0:Nat)+(bN t 1:Nat)),t.drop 2),⟨by dsimp only;omega,by dsimp only;omega,by simp;omega⟩,by simp;omega,?_⟩
  refine zp ?_ ?_ (Nat.le_refl _)
  all_goals first|refine auE ?_|exact zJ
  all_goals repeat' first|exact trivial|exact rfl|apply And.intro
 ·rcases t with _|⟨b,_|⟨b2,r⟩⟩
  ·have hfo:=sr m hm (by simp only [yo] at hf;omega)
   rw [←hf,yo,Int.add_zero]
   repeat' first|refine auS ?_|(first|(simp only [z5,hem,t8])|(with_reducible refine z0 hfo ?_))|refine auD ?_|(refine auW ?_ ?_<;>intro h<;>try exact auH)|fail
   all_goals try exact auP
   all_goals first
    |(exfalso;simp at h;done)
    |skip
   all_goals refine auV ?_
   all_goals try exact z9
   all_goals try simp only [hsM] at *
  ·have hbb:((bN [b] 0:Nat):Int)=(b.toNat:Int):=rfl
   have e1:IntKind.u64.wrap (IntKind.u64.wrap ((bN [b] 0:Nat)*2 ^ 8)+m)=m+256*(b.toNat:Int):=by
    rw [zX (_*_) (by omega) (by omega),zX _ (by omega) (by simp only [yo] at hf;omega)];omega
   have e2:IntKind.u64.wrap (m+IntKind.u64.wrap ((bN [b] 0:Nat)*2 ^ 8))=m+256*(b.toNat:Int):=by rw [Int.add_comm];exact e1
   have hfo:=sr (m+256*(b.toNat:Int)) (by omega) (by simp only [yo] at hf;omega)
   rw [←hf,yo]
   repeat' first|refine auS ?_|(first|(simp only [z5,zU,m8,c0,e2,hem,t8,Int.toNat_natCast])|(with_reducible refine z0 hfo ?_))|refine auD ?_|(refine auW ?_ ?_<;>intro h<;>try exact auH)|fail
   all_goals try exact auP
   all_goals first
    |(exfalso;simp at h;done)
    |skip
   all_goals refine auV ?_
   all_goals try exact z9
   all_goals try simp only [hsM] at *
  ·simp at hlt
theorem fE (l:List UInt8) (hl:l.length≤140737488351300):zc Tryz.prog 92 [.v (.string (mkS l))] (.v (.int .u16 (65535-zK (yo l)))):=by
 have ha:=jz 0 (by decide) (by decide) l hl
 rw [Int.zero_add] at ha
 have hb:=wt (yo l) (uh l).1
 have hx:=xC (zK (yo l)) hb.1 hb.2
 refine z3 {} 0 Tryz.func92 fun Γ hW=>auC ?_
 repeat' first|refine auS ?_|(first|(with_reducible refine z0 ha ?_))|refine auD ?_|(refine auW ?_ ?_<;>intro h<;>try exact auH)|fail
 all_goals try exact auP
 all_goals refine auV ?_
 all_goals try exact z9
 all_goals try simp only [hsM] at *
 all_goals exact zL hx
theorem vS (l:List UInt8) (hl:l.length≤140737488351300):zc Tryz.prog 145 [.v (.string (mkS l))] (.v (.bool (decide (zK (yo l)=65535)))):=by
 have ha:=jz 0 (by decide) (by decide) l hl
 rw [Int.zero_add] at ha
 refine z3 {} 0 Tryz.func145 fun Γ hW=>auC ?_
 repeat' first|refine auS ?_|(first|(with_reducible refine z0 ha ?_))|refine auD ?_|(refine auW ?_ ?_<;>intro h<;>try exact auH)|fail
 all_goals try exact auP
 all_goals refine auV ?_
 all_goals try exact z9
 all_goals try simp only [hsM] at *
theorem zh (n lo hi:Int):zc Tryz.prog 48 [.v (.int .i64 n),.v (.int .i64 lo),.v (.int .i64 hi)] (.v (.bool (decide (lo≤n∧n≤hi)))):=by
 refine z3 {} 0 Tryz.func48 fun Γ hW=>auC ?_
 repeat' first|refine auS ?_|fail|refine auD ?_|(refine auW ?_ ?_<;>intro h<;>try exact auH)|fail
 all_goals refine auV ?_
 all_goals try exact z9
 all_goals try simp only [hsM] at *
 ·exact yg (by simp [h])
 ·exact yg (by simp [h])
def und (a b p n:Int):List UInt8:=lg a++lg b++wd (p % 256)++wd n
theorem zM (a b p n:Int):(und a b p n).length=12:=rfl
theorem rd (a b p n:Int) (ha:0≤a∧a<4294967296) (hb:0≤b∧b<4294967296):zc Tryz.prog 93 [.v (.int .u32 a),.v (.int .u32 b),.v (.int .i64 p),.v (.int .i64 n)] (.v (.string (mkS (und a b p n)))):=by
 have h1:=ne a ha.1 ha.2
 have h2:=ne b hb.1 hb.2
 have h3:=xj (p % 256)
 have h4:=xj n
 have h5:=YW p
 refine z3 {} 0 Tryz.func93 fun Γ hW=>auC ?_
 repeat' first|refine auS ?_|(first|(simp only [zn,h5])|(with_reducible refine z0 h1 ?_)|(with_reducible refine z0 h2 ?_)|(with_reducible refine z0 h3 ?_)|(with_reducible refine z0 h4 ?_))|refine auD ?_|(refine auW ?_ ?_<;>intro h<;>try exact auH)|(refine z_ (by simp only [z5,List.length_append,xh,yq];omega) ?_)
 all_goals try exact auP
 all_goals refine auV ?_
 all_goals try exact z9
 all_goals try simp only [hsM] at *
 all_goals rfl
end Go.Proofs.YtmibknbmhcnemaaGreatDoor
