import Derived.Below
import Derived.WalkSpells
import Derived.Lib.Strings
import Derived.Lib.IndexBytes
import Derived.Test.YtdiobdlinjgakaaGreatDoorDh05
set_option linter.unusedVariables false
set_option linter.unusedSimpArgs false
set_option maxHeartbeats 8000000
set_option maxRecDepth 100000
open Go.Proofs.Tryz
open Go.IntWalk renaming i64_in->_a,u32_in->_i,u16_in->_y
open Go.IntKind renaming i64->_b,u64->_d,u32->_g,u8->_h,u16->_q,wrap_i64->_z
open Int renaming fdiv_eq_ediv_of_nonneg->_c,tmod_eq_emod_of_nonneg->_e,tdiv_eq_ediv_of_nonneg->_f,toNat_natCast->_l,add_zero->_m,emod_nonneg->_o,zero_add->_s,toNat_of_nonneg->_u,natCast_emod->_x
open List renaming drop_eq_getElem_cons->_j,drop_eq_nil_of_le->_k,getElem?_eq_getElem->_p,getElem?_eq_none->_r,getElem?_drop->_t,length_cons->_v
open Nat renaming and_two_pow_sub_one_eq_mod->_n,mod_eq_of_lt->_w
namespace Go.Proofs.YtdiobdlinjgakaaGreatDoor
open Go.RowKit
def ck(b:Int):Int:=if b=0 then 0 else(b-1)%65535+1
theorem kc(b:Int)(h:0<=b):0<=ck b/\ck b<=65535:=by unfold ck;split<;>omega
theorem R4(b:Int)(h:0<=b)(h1:b<=65535):ck b=b:=by unfold ck;split<;>omega
theorem ac6(b:Int)(h:65535<b):ck (b/65536+b%65536)=ck b:=by unfold ck;split<;>split<;>omega
theorem DN(a b:Int)(c:0<=a)(f:0<=b):ck (ck a+b)=ck (a+b):=by unfold ck;split<;>split<;>split<;>omega
theorem afi(b:Int)(c:0<=b)(h1:b<=18446744073709551615):bits .and .u64 b 65535=b%65536:=by go_bits2
def bP:List UInt8->Int
 |a::b::r=>256*(a.toNat:Int)+(b.toNat:Int)+bP r
 |[a]=>256*(a.toNat:Int)
 |[]=>0
theorem kT:∀l:List UInt8,0<=bP l/\bP l<=65535*l.length
 |a::b::r=>by
  have c:=a.toNat_lt;have f:=b.toNat_lt;have:=kT r;simp only[bP,_v];omega
 |[a]=>by
  have c:=a.toNat_lt;simp only[bP,_v,List.length_nil];omega
 |[]=>by simp[bP]
theorem mV:∀(a b:List UInt8),a.length%2=0->bP (a++b)=bP a+bP b
 |[],b,_=>by simp[bP]
 |[x],b,h=>fE
 |x::y::r,b,h=>by
  have:=mV r b (by simp at h;omega);simp only[List.cons_append,bP,this];omega
theorem tP(a:Int)(b:0<=a)(h1:a<=65535):bits .xor .u16 _q.max a=65535-a:=by
 obtain⟨n,rfl⟩:=Int.eq_ofNat_of_zero_le b;have e:_q.max=((65535:Nat):Int):=ae;rw[e,u16_xor_nat _ _ G G];have h:=BitVec.toNat_not (x:=BitVec.ofNat 16 n);rw[BitVec.not_def,BitVec.toNat_xor,BitVec.toNat_allOnes,BitVec.toNat_ofNat,_w G]at h;have c:65535 ^^^ n=65535-n:=hc;rw[c];omega
def ao(l:List UInt8)(i:Nat):Int:=256*((l[i]?.getD 0).toNat:Int)+((l[i+1]?.getD 0).toNat:Int)
theorem di(l:List UInt8)(i:Nat):0<=ao l i/\ao l i<=65535:=by
 unfold ao;have h1:=(l[i]?.getD 0).toNat_lt;have h2:=(l[i+1]?.getD 0).toNat_lt;omega
theorem HB(l:List UInt8)(i:Nat)(h:i<l.length):bP (l.drop i)=ao l i+bP (l.drop (i+2)):=by
 have c:l[i]?=some l[i]:=_p h;by_cases h1:i+1<l.length
 .have b:l[i+1]?=some l[i+1]:=_p h1;rw[_j h,_j h1];simp[bP,ao,c,b]
 have b:l[i+1]?=none:=_r G;rw[_j h,_k (show l.length<=i+1 from G),_k (show l.length<=i+2 from G)];simp[bP,ao,c,b]
theorem EC(l:List UInt8)(k i:Nat):ao (l.drop k) i=ao l (k+i):=by
 unfold ao;rw[_t,_t,Nat.add_assoc]
end Go.Proofs.YtdiobdlinjgakaaGreatDoor
namespace Go.Proofs.YtdiobdlinjgakaaGreatDoor
attribute [local irreducible] bc Go
theorem wc{a b:Int}(h:a%256=b%256):u8 a=u8 b:=by unfold u8;rw[h]
def a1(n:Int):List UInt8:=[u8 (n/256),u8 n]
def c_(a:Int):List UInt8:=a1 (a/65536)++a1 a
theorem iB(n:Int):(a1 n).length=2:=rfl
theorem ns(n:Int):(c_ n).length=4:=rfl
theorem agf{a b:Int}(h:a%65536=b%65536):a1 a=a1 b:=by
 unfold a1;rw[wc (show a/256%256=b/256%256 from G),wc (show a%256=b%256 from G)]
theorem Eg(n:Int):a1 (n%65536)=a1 n:=agf G
theorem ajz(p:Int):bits .and .i64 p 255=p%256:=by
 have h:∀x:BitVec 64,(x &&& 255#64).toNat=x.toNat%256:=fun x=>by
  rw[BitVec.toNat_and];exact _n x.toNat 8
 have e:BitVec.ofInt 64 255=255#64:=ae;show _b.wrap ((BitVec.ofInt 64 p &&& BitVec.ofInt 64 255).toNat:Int)=_;rw[e,h,BitVec.toNat_ofInt];have h2:((p%((2 ^ 64:Nat):Int)).toNat:Int)=p%18446744073709551616:=by rw[_u (_o _ ae)];rfl
 rw[_x,h2,_a _ G];omega
theorem Yj(n:Int)(b:0<=n)(h1:n<2 ^ 62):_b.wrap n=n:=_a _ G
theorem JY(a b:Int)(c:0<=a)(h1:a<256)(h2:0<=b)(f:b<256):bits .or .i64 (_b.wrap (a*2 ^ 8)) b=256*a+b:=by
 rw[_a _ G,bits_join .i64 62 ae Yj 8 _ _ G G G h2 G G];omega
theorem XD:min 8 _b.bits=8:=rfl
theorem iJ(n:Int)(c:0<=n):Spec prog 118 [.v (.int .i64 n)] (.v (.string (I (a1 n)))):=by
 by_cases f:n<=9223372036854775807
 .have h1:_b.wrap (n.tdiv 256)=n/256:=by rw[_f c,_a _ G]
  have h2:n.tmod 256=n%256:=_e c;have b:=fun k bW=>tH (n/256) (n%256) true k bW
  rw[show I [u8 (n/256),u8 (n%256)]=I (a1 n)by unfold a1;rw[wc (show n%256%256=n%256 from G)]]at b;refine az {} 0 func118 fun Γ an=>ar ?_
  repeat' first|refine af ?_|simp only[h1,h2]|with_reducible refine nF rfl (b _ _) ?_|refine ag ?_|refine ab ?_ ?_<;>intro h<;>try exact aa|exact al|fail
  all_goals exact bM
 have h1:u8 (_b.wrap (n.tdiv 256))=u8 (n/256):=by rw[_f c];exact wc (by rw[_z];omega)
 have h2:n.tmod 256=n%256:=_e c;have b:=fun k bW=>tH (_b.wrap (n.tdiv 256)) (n%256) true k bW
 rw[show I [u8 (_b.wrap (n.tdiv 256)),u8 (n%256)]=I (a1 n)by unfold a1;rw[h1,wc (show n%256%256=n%256 from G)]]at b;refine az {} 0 func118 fun Γ an=>ar ?_
 repeat' first|refine af ?_|simp only[h2]|with_reducible refine nF rfl (b _ _) ?_|refine ag ?_|refine ab ?_ ?_<;>intro h<;>try exact aa|exact al|fail
 all_goals exact bM
theorem rI(a:Int)(c:0<=a)(h1:a<4294967296):Spec prog 80 [.v (.int .u32 a)] (.v (.string (I (c_ a)))):=by
 have f:_g.wrap (a.tdiv 65536)=a/65536:=by rw[_f c,_i _ G]
 have g:a.tmod 65536=a%65536:=_e c;have j:_b.wrap (a/65536)=a/65536:=_a _ G;have m:_b.wrap (a%65536)=a%65536:=_a _ G;have bl:=iJ (a/65536) G;have bD:=iJ (a%65536) G;rw[Eg]at bD;refine az {} 0 func80 fun Γ an=>ar ?_
 repeat' first|refine af ?_|simp only[f,g,j,m,dt]|refine J bl ?_|refine J bD ?_|refine ag ?_|refine ab ?_ ?_<;>intro h<;>try exact aa|refine aK Vm ?_|exact al|fail
 all_goals exact b0
theorem Ct(n:Int):Spec prog 100 [.v (.int .i64 n)] (.v (.string (I (a1 n)))):=by
 have h1:n.fdiv (2 ^ 8)=n/256:=_c _ ae;have aj:strOf [[.v (.int .u8 (_h.wrap (n/256)))],[.v (.int .u8 (_h.wrap n))]]=I (a1 n):=MY;refine az {} 0 func100 fun Γ an=>ar ?_
 exact Kn
theorem Zz(a:Int)(c:0<=a)(h1:a<4294967296):Spec prog 158 [.v (.int .u32 a)] (.v (.string (I (c_ a)))):=by
 have oW:min 16 _g.bits=16:=rfl;have a_:a.fdiv (2 ^ 16)=a/65536:=_c _ ae;have dk:_b.wrap (a/65536)=a/65536:=_a _ G;have gn:_b.wrap a=a:=_a _ G;have bl:=Ct (a/65536);have bD:=Ct a;refine az {} 0 func158 fun Γ an=>ar ?_
 exact SA
theorem w8{l:List UInt8}{i:Nat}:ao l i=256*(au l i:Nat)+(au l (i+1):Nat):=rfl
theorem hk(l:List UInt8)(i:Nat)(u:i<l.length)(hl:l.length<=9223372036854775806)(b:Int)(c:b=(i:Nat)):Spec prog 79 [.v (.string (I l)),.v (.int .i64 b)] (.v (.int .i64 (ao l i))):=by
 subst c;have z:=eQ l i;have C:=eQ l (i+1);have f:_b.wrap (au l i:Nat)=(au l i:Nat):=_a _ G;have g:_b.wrap (au l (i+1):Nat)=(au l (i+1):Nat):=_a _ G;have j:_b.wrap ((i:Int)+1)=((i+1:Nat):Int):=er;have m:_b.wrap (256*(au l i:Nat))=256*(au l i:Nat):=_a _ G;have q:_b.wrap (256*(au l i:Nat)+(au l (i+1):Nat))=ao l i:=_a _ G;refine az {} 0 func79 fun Γ an=>ar ?_
 repeat' first|refine af ?_|simp only[aU,b_,f,g,j,m,q,_l]|refine ag ?_|refine ab ?_ ?_<;>intro h<;>try exact aa|exact al|fail
 all_goals(refine cI ?_;first|exact cc|try simp only[cE]at *)
 have:au l (i+1)=0:=by unfold au;rw[_r G];rfl
 refine eG ?_;rw[w8,this];omega
theorem BW(a b:Int)(g:0<=a/\a<=65535)(j:0<=b/\b<=65535):Spec prog 176 [.v (.int .i64 a),.v (.int .i64 b)] (.v (.int .i64 (ck (a+b)))):=by
 have c:_b.wrap (a+b)=a+b:=_a _ G;have f:_b.wrap (a+b-65535)=a+b-65535:=_a _ G;refine az {} 0 func176 fun Γ an=>ar ?_
 repeat' first|refine af ?_|simp only[c,f]|refine ag ?_|refine ab ?_ ?_<;>intro h<;>try exact aa|exact al|fail
 all_goals(refine cI ?_;first|exact cc|try simp only[cE]at *)
 all_goals (refine eG ?_;unfold ck;split<;>omega)
theorem Gp(a:Int)(j:0<=a/\a<=65535)(l:List UInt8)(hl:l.length<=9223372036854775800):Spec prog 136 [.v (.int .i64 a),.v (.string (I l))] (.v (.int .i64 (ck (a+bP l)))):=by
 refine az {} 0 func136 fun Γ an=>ar ?_
 repeat' first|refine af ?_|refine ag ?_|refine ab ?_ ?_<;>intro h<;>try exact aa|fail
 refine bS (α:=Nat×Int) (fun x=>[(⟨.d0,.d0,.d0⟩,.v (.int .i64 x.2)),(⟨.d0,.d0,.d5⟩,.v (.int .i64 (x.1:Nat)))]) (fun _=>[]) (fun _=>Γ.g0) (fun x=>l.length-x.1) (fun x=>x.1<=l.length+1/\(0<=x.2/\x.2<=65535)/\ck (x.2+bP (l.drop x.1))=ck (a+bP l)) (0,a) ⟨Nat.zero_le _,j,rfl⟩ ?_ ?_
 .exact bs
 rintro⟨i,x⟩ ⟨m,f,c⟩;dsimp only at m f c⊢;refine bz ?_;by_cases g:i<l.length
 .have q:=hk l i g G i rfl;have u:=di l i;have z:=BW x (ao l i) f u;have C:=kc (x+ao l i) G;rw[HB l i g]at c;have M:=(kT (l.drop (i+2))).1;repeat' first|refine af ?_|simp only[aU]|refine J q ?_|refine J z ?_|refine ag ?_|refine ab ?_ ?_<;>intro h<;>try exact aa|exact al|fail
  refine br ⟨(i+2,ck (x+ao l i)),⟨G,C,?_⟩,iS,?_⟩
  .rw[DN _ _ G M,Int.add_assoc];exact c
  exact jJ
 rw[_k G,bP,_m,R4 x f.1 f.2]at c;rw[<-c];repeat' first|refine af ?_|simp only[aU]|refine ag ?_|refine ab ?_ ?_<;>intro h<;>try exact aa|exact al|fail
 all_goals exact bM
theorem yw(l:List UInt8)(hl:l.length<=9223372036854775800):Spec prog 119 [.v (.string (I l))] (.v (.int .i64 (65535-ck (bP l)))):=by
 have aj:=Gp 0 ae l hl;rw[_s]at aj;have c:=kc (bP l) (kT l).1;have e:_b.wrap (65535-ck (bP l))=65535-ck (bP l):=_a _ G;refine az {} 0 func119 fun Γ an=>ar ?_
 repeat' first|refine af ?_|simp only[e]|refine J aj ?_|refine ag ?_|refine ab ?_ ?_<;>intro h<;>try exact aa|exact al|fail
 all_goals exact bM
theorem D5(n:Int)(j:0<=n)(h1:n<=18446744073709551615):Spec prog 209 [.v (.int .u64 n)] (.v (.int .u16 (ck n))):=by
 have m:min 16 _d.bits=16:=rfl;refine az {} 0 func209 fun Γ an=>ar ?_
 repeat' first|refine af ?_|refine ag ?_|refine ab ?_ ?_<;>intro h<;>try exact aa|fail
 refine bS (α:=Int) (fun b=>[(⟨.d0,.d0,.d0⟩,.v (.int .u64 b))]) (fun _=>[]) (fun _=>Γ.g0) (fun b=>b.toNat) (fun b=>0<=b/\b<=18446744073709551615/\ck b=ck n) n ⟨j,h1,rfl⟩ ?_ ?_
 .exact bs
 rintro b ⟨f,g,c⟩;dsimp only at f g c⊢;refine bz ?_;by_cases q:65535<b
 .have u:=afi b f g;have z:b.fdiv (2 ^ 16)=b/65536:=_c _ ae;have C:_d.wrap (b/65536+b%65536)=b/65536+b%65536:=jo _ G G;repeat' first|refine af ?_|simp only[m,u,z,C]|refine ag ?_|refine ab ?_ ?_<;>intro h<;>try exact aa|exact al|fail
  refine br ⟨b/65536+b%65536,⟨G,G,(ac6 b q).trans c⟩,G,?_⟩;exact bs
 rw[R4 b f G]at c;have I:_q.wrap b=b:=_y _ G;rw[<-c];repeat' first|refine af ?_|simp only[I]|refine ag ?_|refine ab ?_ ?_<;>intro h<;>try exact aa|exact al|fail
 all_goals exact bM
theorem akp(a b:Nat)(c:a<256)(f:b<256):bits .or .u64 (_d.wrap ((a:Int)*2 ^ 8)) (b:Nat)=256*(a:Int)+(b:Nat):=by
 rw[jo _ G G,acj 8 _ _ G G G G G G];omega
theorem XY(n:Int)(j:0<=n)(h1:n<=65535)(l:List UInt8)(hl:l.length<=140737488351300):Spec prog 157 [.v (.int .u16 n),.v (.string (I l))] (.v (.int .u16 (ck (n+bP l)))):=by
 have ae:=kT l;have C:_d.wrap n=n:=jo _ j G;have m:min 8 _d.bits=8:=rfl;have q:(ByteArray.mk #[]:ByteArray)=I []:=rfl;refine az {} 0 func157 fun Γ an=>ar ?_
 repeat' first|refine af ?_|simp only[C]|refine ag ?_|refine ab ?_ ?_<;>intro h<;>try exact aa|fail
 refine bS (α:=Int×List UInt8) (fun x=>[(⟨.d0,.d0,.d5⟩,.v (.int .u64 x.1)),(⟨.d0,.d0,.d1⟩,.v (.string (I x.2)))]) (fun _=>[]) (fun _=>Γ.g0) (fun x=>x.2.length) (fun x=>0<=x.1/\x.1+bP x.2=n+bP l/\x.2.length<=l.length) (n,l) ⟨j,rfl,Nat.le_refl _⟩ ?_ ?_
 .exact bs
 rintro⟨c,t⟩ ⟨u,bV,M⟩;dsimp only at u bV M⊢;refine bz ?_;have O:=eQ t 0;have Q:=eQ t 1;have z:_d.wrap (au t 0:Nat)=(au t 0:Nat):=jo _ G G;have U:_d.wrap (au t 1:Nat)=(au t 1:Nat):=jo _ G G;by_cases X:1<t.length
 .have ah:bP t=256*(au t 0:Nat)+(au t 1:Nat)+bP (t.drop 2):=HB t 0 G;have aj:=kT (t.drop 2);have Y:=akp (au t 0) (au t 1) O Q;have f:_d.wrap (c+(256*(au t 0:Nat)+(au t 1:Nat)))=c+(256*(au t 0:Nat)+(au t 1:Nat)):=jo _ G G;have Z:(I t).extract 2 t.length=I (t.drop 2):=qy;repeat' first|refine af ?_|simp only[aU,b_,m,z,U,Y,f,Z,_l]|refine ag ?_|refine ab ?_ ?_<;>intro h<;>try exact aa|exact al|fail
  refine br ⟨(c+(256*(au t 0:Nat)+(au t 1:Nat)),t.drop 2),⟨iS,iS,c7⟩,c7,?_⟩;exact bs
 rcases t with _|⟨b,_|⟨ai,r⟩⟩
 .have g:=D5 c u KG;rw[<-bV,bP,_m];repeat' first|refine af ?_|simp only[aU,q,dF]|refine J g ?_|refine ag ?_|refine ab ?_ ?_<;>intro h<;>try exact aa|exact al|fail
  all_goals exact tB
 .have ak:((au [b] 0:Nat):Int)=(b.toNat:Int):=rfl;have f:_d.wrap (_d.wrap ((au [b] 0:Nat)*2 ^ 8)+c)=c+256*(b.toNat:Int):=by rw[jo (_*_) G G,jo _ G KG];omega
  have ac:_d.wrap (c+_d.wrap ((au [b] 0:Nat)*2 ^ 8))=c+256*(b.toNat:Int):=by rw[Int.add_comm];exact f
  have g:=D5 (c+256*(b.toNat:Int)) G KG;rw[<-bV,bP];repeat' first|refine af ?_|simp only[aU,b_,m,z,ac,q,dF,_l]|refine J g ?_|refine ag ?_|refine ab ?_ ?_<;>intro h<;>try exact aa|exact al|fail
  all_goals exact tB
 simp at X
theorem Ja(l:List UInt8)(hl:l.length<=140737488351300):Spec prog 101 [.v (.string (I l))] (.v (.int .u16 (65535-ck (bP l)))):=by
 have c:=XY 0 ae ae l hl;rw[_s]at c;have f:=kc (bP l) (kT l).1;have aP:=tP (ck (bP l)) f.1 f.2;refine az {} 0 func101 fun Γ an=>ar ?_
 repeat' first|refine af ?_|refine J c ?_|refine ag ?_|refine ab ?_ ?_<;>intro h<;>try exact aa|exact al|fail
 all_goals exact Yh
theorem Bq(l:List UInt8)(hl:l.length<=140737488351300):Spec prog 223 [.v (.string (I l))] (.v (.bool (decide (ck (bP l)=65535)))):=by
 have c:=XY 0 ae ae l hl;rw[_s]at c;refine az {} 0 func223 fun Γ an=>ar ?_
 repeat' first|refine af ?_|refine J c ?_|refine ag ?_|refine ab ?_ ?_<;>intro h<;>try exact aa|exact al|fail
 all_goals exact bM
theorem cA(n b c:Int):Spec prog 60 [.v (.int .i64 n),.v (.int .i64 b),.v (.int .i64 c)] (.v (.bool (decide (b<=n/\n<=c)))):=by exact CV
def dC(a b p n:Int):List UInt8:=c_ a++c_ b++a1 (p%256)++a1 n
theorem mb(a b p n:Int):(dC a b p n).length=12:=rfl
theorem akT(p:Int):(_b.wrap (p.tmod 256+256)).tmod 256=p%256:=by
 have h1:p.tmod 256=p%256\/p.tmod 256=p%256-256:=by
  by_cases h:0<=p
  .exact .inl (_e h)
  have:p.tmod 256 = -((-p)%256):=Rh;omega
 exact Wo
theorem adr(p:Int):(_b.wrap (p.tmod 65536+65536)).tmod 65536=p%65536:=by
 have h1:p.tmod 65536=p%65536\/p.tmod 65536=p%65536-65536:=by
  by_cases h:0<=p
  .exact .inl (_e h)
  have:p.tmod 65536 = -((-p)%65536):=Rh;omega
 exact Wo
theorem FQ(a b p n:Int)(c:0<=a/\a<4294967296)(f:0<=b/\b<4294967296):Spec prog 102 [.v (.int .u32 a),.v (.int .u32 b),.v (.int .i64 p),.v (.int .i64 n)] (.v (.string (I (dC a b p n)))):=by
 have h1:=Zz a c.1 c.2;have h2:=Zz b f.1 f.2;have g:=Ct (p%256);have j:=Ct n;have m:=ajz p;refine az {} 0 func102 fun Γ an=>ar ?_
 repeat' first|refine af ?_|simp only[dt,m]|refine J h1 ?_|refine J h2 ?_|refine J g ?_|refine J j ?_|refine ag ?_|refine ab ?_ ?_<;>intro h<;>try exact aa|refine aK aaQ ?_|exact al|fail
 all_goals exact b0
theorem Gk(a b p n:Int)(c:0<=a/\a<4294967296)(f:0<=b/\b<4294967296):Spec prog 120 [.v (.int .u32 a),.v (.int .u32 b),.v (.int .i64 p),.v (.int .i64 n)] (.v (.string (I (dC a b p n)))):=by
 have h1:=rI a c.1 c.2;have h2:=rI b f.1 f.2;have j:=iJ (p%256) G;have g:=iJ (n%65536) G;rw[Eg]at g;have m:=akT p;have q:=adr n;refine az {} 0 func120 fun Γ an=>ar ?_
 repeat' first|refine af ?_|simp only[dt,m,q]|refine J h1 ?_|refine J h2 ?_|refine J j ?_|refine J g ?_|refine ag ?_|refine ab ?_ ?_<;>intro h<;>try exact aa|refine aK aaQ ?_|exact al|fail
 all_goals exact b0
theorem Kg(i:Nat)(x y:Int)(b:0<=x)(c:x%2 ^ i=0)(f:x<2 ^ 62)(g:0<=y)(j:y<2 ^ i)(m:y<2 ^ 62):bits .or .i64 x y=x+y:=
 bits_join .i64 62 ae Yj i x y b c f g j m
theorem aiY(n:Int)(b:0<=n)(h1:n<2 ^ 32):_g.wrap n=n:=_i _ G
theorem QN(i:Nat)(x y:Int)(b:0<=x)(c:x%2 ^ i=0)(f:x<2 ^ 32)(g:0<=y)(j:y<2 ^ i)(m:y<2 ^ 32):bits .or .u32 x y=x+y:=
 bits_join .u32 32 ae aiY i x y b c f g j m
def eh(l:List UInt8)(i:Nat):Int:=65536*ao l i+ao l (i+2)
theorem nN(l:List UInt8)(i:Nat):0<=eh l i/\eh l i<4294967296:=by
 have h1:=di l i;have h2:=di l (i+2);unfold eh;omega
theorem Ht(l:List UInt8)(i:Nat)(u:i+2<l.length)(hl:l.length<=9223372036854775800)(c:Int)(f:c=(i:Nat)):Spec prog 135 [.v (.string (I l)),.v (.int .i64 c)] (.v (.int .u32 (eh l i))):=by
 subst f;have h1:=hk l i G G i rfl;have h2:=hk l (i+2) G G ((i:Int)+2) G;have ah:=di l i;have ai:=di l (i+2);have g:_b.wrap ((i:Int)+2)=(i:Int)+2:=_a _ G;have j:_b.wrap (65536*ao l i)=65536*ao l i:=_a _ G;have m:_b.wrap (65536*ao l i+ao l (i+2))=eh l i:=_a _ G;have q:_g.wrap (eh l i)=eh l i:=_i _ (by have:=nN l i;omega);refine az {} 0 func135 fun Γ an=>ar ?_
 repeat' first|refine af ?_|simp only[g,j,m,q]|refine J h1 ?_|refine J h2 ?_|refine ag ?_|refine ab ?_ ?_<;>intro h<;>try exact aa|exact al|fail
 all_goals exact bM
theorem Ue(j:Nat)(b:j<=62)(p:Int):bits .and .i64 p ((2 ^ j-1:Nat):Int)=p%((2 ^ j:Nat):Int):=by
 have f:2 ^ j<=2 ^ 62:=Nat.pow_le_pow_right ae b;have g:0<2 ^ j:=Nat.two_pow_pos j;show _b.wrap ((BitVec.ofInt 64 p &&& BitVec.ofInt 64 ((2 ^ j-1:Nat):Int)).toNat:Int)=_;rw[BitVec.ofInt_natCast,BitVec.toNat_and,BitVec.toNat_ofNat,_w (G:2 ^ j-1<2 ^ 64),_n,BitVec.toNat_ofInt];have h2:((p%((2 ^ 64:Nat):Int)).toNat:Int)=p%((2 ^ 64:Nat):Int):=_u (_o _ ae);have c:(p%((2 ^ 64:Nat):Int))%((2 ^ j:Nat):Int)=p%((2 ^ j:Nat):Int):=by
  refine Int.emod_emod_of_dvd p ?_;exact Int.natCast_dvd_natCast.2 (Nat.pow_dvd_pow 2 G)
 have m:0<=p%((2 ^ j:Nat):Int):=_o _ G;have q:p%((2 ^ j:Nat):Int)<((2 ^ j:Nat):Int):=Int.emod_lt_of_pos _ G;rw[_x,h2,c,_a _ G]
theorem aeV(p:Int):bits .and .i64 p 1=p%2:=Ue 1 ae p
theorem aeD(p:Int):bits .and .i64 p 8191=p%8192:=Ue 13 ae p
theorem akh(a b:Int):strOf [[.v (.int .u8 (_h.wrap a))],[.v (.int .u8 (_h.wrap b))]]=I [u8 a,u8 b]:=by rw[H3,pc,pc]
theorem ahC(a b c d:Int):strOf [[.v (.int .u8 (_h.wrap a))],[.v (.int .u8 (_h.wrap b))],[.v (.int .u8 (_h.wrap c))],[.v (.int .u8 (_h.wrap d))]]=I [u8 a,u8 b,u8 c,u8 d]:=by rw[ahS,pc,pc,pc,pc]
theorem Ls(n:Int):Spec prog 167 [.v (.int .i64 n)] (.v (.string (I (a1 n)))):=by
 have h1:n.fdiv (2 ^ 8)=n/256:=_c _ ae;have aj:strOf [[.v (.int .u8 (_h.wrap (n/256)))],[.v (.int .u8 (_h.wrap n))]]=I (a1 n):=MY;refine az {} 0 func167 fun Γ an=>ar ?_
 exact Kn
theorem akS(a:Int):[u8 (a/16777216),u8 (a/65536),u8 (a/256),u8 a]=c_ a:=by
 unfold c_ a1;rw[wc (show a/16777216%256=a/65536/256%256 from G)];rfl
theorem Ty(a:Int)(q:0<=a)(h1:a<4294967296):Spec prog 168 [.v (.int .u32 a)] (.v (.string (I (c_ a)))):=by
 have b:min 24 _g.bits=24:=rfl;have c:min 16 _g.bits=16:=rfl;have f:min 8 _g.bits=8:=rfl;have g:a.fdiv (2 ^ 24)=a/16777216:=_c _ ae;have j:a.fdiv (2 ^ 16)=a/65536:=_c _ ae;have m:a.fdiv (2 ^ 8)=a/256:=_c _ ae;refine az {} 0 func168 fun Γ an=>ar ?_
 repeat' first|refine af ?_|simp only[b,c,f,g,j,m,ahC,akS]|refine ag ?_|refine ab ?_ ?_<;>intro h<;>try exact aa|exact al|fail
 all_goals exact bM
theorem s0(l:List UInt8)(i:Nat)(f:i+1<l.length)(hl:l.length<=9223372036854775806)(b:Int)(c:b=(i:Nat)):Spec prog 221 [.v (.string (I l)),.v (.int .i64 b)] (.v (.int .i64 (ao l i))):=by
 subst c;have g:=eQ l i;have j:=eQ l (i+1);have a_:_b.wrap (au l i:Nat)=(au l i:Nat):=_a _ G;have a8:_b.wrap (au l (i+1):Nat)=(au l (i+1):Nat):=_a _ G;have dk:_b.wrap ((i:Int)+1)=((i+1:Nat):Int):=er;have pd:bits .or .i64 (_b.wrap ((au l i:Nat)*2 ^ 8)) (au l (i+1):Nat)=ao l i:=JY _ _ G G G G;refine az {} 0 func221 fun Γ an=>ar ?_
 exact MP
theorem Po(l:List UInt8)(i:Nat)(g:i+3<l.length)(hl:l.length<=9223372036854775800)(c:Int)(f:c=(i:Nat)):Spec prog 222 [.v (.string (I l)),.v (.int .i64 c)] (.v (.int .u32 (eh l i))):=by
 subst f;have h1:=s0 l i G G i rfl;have h2:=s0 l (i+2) G G ((i:Int)+2) G;have ah:=di l i;have ai:=di l (i+2);have Q0:min 16 _g.bits=16:=rfl;have oW:_b.wrap ((i:Int)+2)=(i:Int)+2:=_a _ G;have a_:_g.wrap (ao l i)=ao l i:=_i _ G;have a8:_g.wrap (ao l (i+2))=ao l (i+2):=_i _ G;have dk:bits .or .u32 (_g.wrap (ao l i*2 ^ 16)) (ao l (i+2))=eh l i:=by exact Rq
 refine az {} 0 func222 fun Γ an=>ar ?_
 exact SZ
theorem aeB(n:Int):Spec prog 228 [.v (.int .i64 n)] (.v (.bool (decide (0<=n/\n<=255)))):=by
 refine az {} 0 func228 fun Γ an=>ar ?_
 exact L9
structure dZ where
 (fp id:Int) (h9 mo:Bool) (start life bx ax to:Int) (opt data:List UInt8)
abbrev dZ.enc(p:dZ):List O:=[.v (.int .i64 p.fp),.v (.int .i64 p.id),.v (.bool p.h9),.v (.bool p.mo),.v (.int .i64 p.start),.v (.int .i64 p.life),.v (.int .i64 p.bx),.v (.int .u32 p.ax),.v (.int .u32 p.to),.v (.string (I p.opt)),.v (.string (I p.data))]
abbrev pR(p:dZ):O:=.agg p.enc
def dZ.arg(p:dZ):Prop:=(0<=p.fp/\p.fp<=255)/\(0<=p.life/\p.life<=255)/\(0<=p.bx/\p.bx<=255)/\(0<=p.id/\p.id<=65535)/\(0<=p.start/\p.start<=8191)/\p.opt.length<=40/\p.opt.length%4=0
instance (p:dZ):Decidable p.arg:=by unfold dZ.arg;infer_instance
def dZ.form(p:dZ):Prop:=p.h9=true->p.mo=false/\p.start=0
instance (p:dZ):Decidable p.form:=by unfold dZ.form;infer_instance
def hz(p:dZ):Int:=if¬p.arg then 1 else if¬p.form then 4 else if 65515<p.data.length+p.opt.length then 2 else 0
theorem NV(n:Nat):((n:Nat):Int).tmod 4=((n%4:Nat):Int):=(Int.ofNat_tmod n 4).symm
theorem O4(p:dZ)(u:p.opt.length<=140737488351232)(z:p.data.length<=140737488351232):Spec prog 166 [pR p] (.v (.int .i64 (hz p))):=by
 have a_:_b.wrap (65515-(p.opt.length:Nat))=65515-(p.opt.length:Nat):=_a _ G;obtain⟨fp,id,h9,mo,start,life,bx,ax,to,opt,data⟩:=p;unfold hz dZ.arg dZ.form;dsimp only at u z a_⊢;by_cases h1:0<=fp/\fp<=255;rotate_left 1
 .rw[if_pos (fun q=>h1 q.1)];exact pH
 by_cases h2:0<=life/\life<=255;rotate_left 1
 .rw[if_pos (fun q=>h2 q.2.1)];exact pH
 by_cases c:0<=bx/\bx<=255;rotate_left 1
 .rw[if_pos (fun q=>c q.2.2.1)];exact pH
 by_cases f:0<=id/\id<=65535;rotate_left 1
 .rw[if_pos (fun q=>f q.2.2.2.1)];exact pH
 by_cases g:0<=start/\start<=8191;rotate_left 1
 .rw[if_pos (fun q=>g q.2.2.2.2.1)];exact pH
 by_cases j:opt.length<=40;rotate_left 1
 .rw[if_pos (fun q=>j q.2.2.2.2.2.1)];exact pH
 by_cases m:opt.length%4=0;rotate_left 1
 .rw[if_pos (fun q=>m q.2.2.2.2.2.2)];exact pH
 rw[if_neg (not_not_intro ⟨h1,h2,c,f,g,j,m⟩)];cases h9 with
 |true=>
  cases mo with
  |true=>
   rw[if_pos aF];exact pH
  |false=>
   by_cases h8:start=0
   .rw[if_neg BT];exact aaq
   rw[if_pos BT];exact pH
 |false=>
  rw[if_neg aF];exact aaq
abbrev n5(r:List UInt8×Int):O:=.aS [.v (.string (I r.1)),.v (.int .i64 r.2)]
def aM(p:dZ):Int:=(if p.h9 then 16384 else p.start)+(if p.mo then 8192 else 0)
def gF(p:dZ)(F:Int):List UInt8:=[u8 (64+(20+(p.opt.length:Int))/4),u8 p.fp]++a1 (20+(p.opt.length:Int)+(p.data.length:Int))++a1 p.id++a1 F++[u8 p.life,u8 p.bx]
def gB(p:dZ):List UInt8:=c_ p.ax++c_ p.to++p.opt
theorem alj(p:dZ)(F:Int):(gF p F).length=10:=rfl
theorem afr(p:dZ):(gB p).length=8+p.opt.length:=by unfold gB;simp[ns];omega
def B1(p:dZ)(F:Int):List UInt8:=gF p F++a1 (65535-ck (bP (gF p F++gB p)))++gB p++p.data
def eM(p:dZ):List UInt8×Int:=if hz p=0 then(B1 p (aM p),0)else([],hz p)
theorem XZ{p:dZ}(h:hz p=0):p.arg/\p.form/\p.data.length+p.opt.length<=65515:=by
 unfold hz at h;split at h
 .cases h
 rename_i h1;split at h
 .cases h
 rename_i h2;split at h
 .cases h
 rename_i b;exact⟨Decidable.not_not.1 h1,Decidable.not_not.1 h2,G⟩
theorem Tx(p:dZ)(u:p.opt.length<=140737488351232)(z:p.data.length<=140737488351232)(m:0<=p.ax/\p.ax<4294967296)(q:0<=p.to/\p.to<4294967296):Spec prog 105 [pR p] (n5 (eM p)):=by
 have aT:=O4 p u z;by_cases f:hz p=0
 .obtain⟨⟨-,-,-,-,M,O,Q⟩,C,U⟩:=XZ f;unfold eM;rw[if_pos f];rw[f]at aT;have a_:_b.wrap (20+(p.opt.length:Nat))=20+(p.opt.length:Int):=_a _ G;have a8:bits .or .i64 64 (_b.wrap ((20+(p.opt.length:Int)).tdiv 4))=64+(20+(p.opt.length:Int))/4:=by
   rw[_f G,_a _ G];exact Kg 6 64 _ ae ae ae G G G
  have dk:_b.wrap (20+(p.opt.length:Int)+(p.data.length:Nat))=20+(p.opt.length:Int)+(p.data.length:Int):=_a _ G;have Dp:=Ty p.ax m.1 m.2;have oX:=Ty p.to q.1 q.2;have g:∀F:Int,Spec prog 101 [.v (.string (I (gF p F++gB p)))] (.v (.int .u16 (65535-ck (bP (gF p F++gB p))))):=fun F=>Ja _ WR
  have j:∀F:Int,_b.wrap (65535-ck (bP (gF p F++gB p)))=65535-ck (bP (gF p F++gB p)):=fun F=>by
   have:=kc (bP (gF p F++gB p)) (kT _).1;exact _a _ G
  obtain⟨fp,id,h9,mo,start,life,bx,ax,to,opt,data⟩:=p;unfold B1;unfold gF gB at g j⊢;dsimp only at *;cases h9 with
  |true=>
   obtain⟨rfl,rfl⟩:=C rfl;have vR:bits .or .i64 0 16384=16384:=ae;have c:aM ⟨fp,id,true,false,0,life,bx,ax,to,opt,data⟩=16384:=rfl;rw[c];have aj:=g 16384;have gn:=j 16384;exact E0
  |false=>
   cases mo with
   |true=>
    have vR:bits .or .i64 start 8192=start+8192:=by rw[ajN,Kg 13 8192 start ae ae ae G G G];omega
    have c:aM ⟨fp,id,false,true,start,life,bx,ax,to,opt,data⟩=start+8192:=rfl;rw[c];have aj:=g (start+8192);have gn:=j (start+8192);exact E0
   |false=>
    have vR:(0:Nat)=0:=rfl;have c:aM ⟨fp,id,false,false,start,life,bx,ax,to,opt,data⟩=start:=_m _;rw[c];have aj:=g start;have gn:=j start;exact E0
 unfold eM;rw[if_neg f];exact E0
theorem agw(p:dZ)(F:Int):bP (gF p F++([u8 0,u8 0]++gB p))=bP (gF p F++gB p):=by
 have h1:(gF p F).length%2=0:=by simp[gF,iB]
 rw[mV _ _ h1,mV _ _ h1];have h2:bP ([u8 0,u8 0]++gB p)=bP (gB p):=by
  rw[mV _ _ rfl];have:bP [u8 0,u8 0]=0:=ae;omega
 rw[h2]
theorem ajn(p:dZ)(q:hz p=0)(z:p.opt.length<=140737488351232)(C:p.data.length<=140737488351232)(j:0<=p.ax/\p.ax<4294967296)(m:0<=p.to/\p.to<4294967296):Spec prog 72 [pR p] (n5 (eM p)):=by
 have a_:_b.wrap (20+(p.opt.length:Nat))=20+(p.opt.length:Int):=_a _ G;have dk:_b.wrap (20+(p.opt.length:Int)+(p.data.length:Nat))=20+(p.opt.length:Int)+(p.data.length:Int):=_a _ G;obtain⟨⟨h1,h2,M,O,Q,U,X⟩,u,Y⟩:=XZ q;unfold eM;rw[if_pos q];have a8:_b.wrap (69+_b.wrap (((p.opt.length:Nat):Int).tdiv 4))=64+(20+(p.opt.length:Int))/4:=by
  rw[_f G,_a (_/_) G,_a _ G];omega
 have Dp:=rI p.ax j.1 j.2;have oX:=rI p.to m.1 m.2;have nC:∀F:Int,Spec prog 119 [.v (.string (I (gF p F++([u8 0,u8 0]++gB p))))] (.v (.int .i64 (65535-ck (bP (gF p F++gB p))))):=fun F=>by
  have:=yw (gF p F++([u8 0,u8 0]++gB p)) WR;rw[agw]at this;exact this
 have FJ:∀F:Int,0<=65535-ck (bP (gF p F++gB p)):=fun F=>by
  have:=kc (bP (gF p F++gB p)) (kT _).1;omega
 have kI:∀F:Int,(I (gF p F++([u8 0,u8 0]++gB p))).extract 0 10=I (gF p F):=fun F=>by rw[fK];exact congrArg I (List.take_left' rfl)
 have za:∀F:Int,(I (gF p F++([u8 0,u8 0]++gB p))).extract 12 (gF p F++([u8 0,u8 0]++gB p)).length=I (gB p):=fun F=>by rw[fK,List.take_of_length_le yi,<-List.append_assoc];exact congrArg I (List.drop_left' rfl)
 obtain⟨fp,id,h9,mo,start,life,bx,ax,to,opt,data⟩:=p;have Un:∀F:Int,gF ⟨fp,id,h9,mo,start,life,bx,ax,to,opt,data⟩ F++([u8 0,u8 0]++gB ⟨fp,id,h9,mo,start,life,bx,ax,to,opt,data⟩)=[u8 (64+(20+(opt.length:Int))/4),u8 fp]++a1 (20+(opt.length:Int)+(data.length:Int))++a1 id++a1 F++[u8 life,u8 bx,u8 0,u8 0]++c_ ax++c_ to++opt:=fun F=>by unfold gF gB;simp
 simp only[Un]at nC kI za;unfold B1;dsimp only at h1 h2 M O Q U X u Y a_ a8 dk z C j m Dp oX;cases h9 with
 |true=>
  obtain⟨rfl,rfl⟩:=u rfl;have f:aM ⟨fp,id,true,false,0,life,bx,ax,to,opt,data⟩=16384:=rfl;rw[f];have aj:=nC 16384;have gh:=kI 16384;have h_:=za 16384;have g:=FJ 16384;generalize 65535-ck (bP (gF ⟨fp,id,true,false,0,life,bx,ax,to,opt,data⟩ 16384++gB ⟨fp,id,true,false,0,life,bx,ax,to,opt,data⟩))=c at aj g⊢;exact KS
 |false=>
  cases mo with
  |true=>
   have vR:_b.wrap (start+8192)=start+8192:=_a _ G;have f:aM ⟨fp,id,false,true,start,life,bx,ax,to,opt,data⟩=start+8192:=rfl;rw[f];have aj:=nC (start+8192);have gh:=kI (start+8192);have h_:=za (start+8192);have g:=FJ (start+8192);generalize 65535-ck (bP (gF ⟨fp,id,false,true,start,life,bx,ax,to,opt,data⟩ (start+8192)++gB ⟨fp,id,false,true,start,life,bx,ax,to,opt,data⟩))=c at aj g⊢;exact KS
  |false=>
   have f:aM ⟨fp,id,false,false,start,life,bx,ax,to,opt,data⟩=start:=_m _;rw[f];have aj:=nC start;have gh:=kI start;have h_:=za start;have g:=FJ start;generalize 65535-ck (bP (gF ⟨fp,id,false,false,start,life,bx,ax,to,opt,data⟩ start++gB ⟨fp,id,false,false,start,life,bx,ax,to,opt,data⟩))=c at aj g⊢;exact KS
end Go.Proofs.YtdiobdlinjgakaaGreatDoor
