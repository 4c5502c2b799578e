import Derived.Test.YtdiobdlinjgakaaGreatDoorDh05
set_option linter.unusedVariables false
set_option linter.unusedSimpArgs false
set_option maxHeartbeats 8000000
set_option maxRecDepth 100000
open Go.Proofs.Tryz
open Int renaming toNat_natCast->_a,eq_ofNat_of_zero_le->_b
open Go.IntKind renaming i64->_c,u64->_D,u32->_E,wrap_u32->_I
open Go.IntWalk renaming i64_in->_d
open Go.Lib renaming indexByte->_e
open List renaming mem_of_getElem?->_f,getElem?_eq_getElem->_h,length_map->_i,getElem?_eq_some_iff->_s,getElem?_take_of_lt->_t,mem_iff_getElem?->_w,getElem?_drop->_y,getElem?_map->_A,range->_H
open Bool renaming and_eq_true->_g,false_and->_r,true_and->_u,false_eq_true->_z
open Nat renaming zero_le->_j,shiftRight_eq_div_pow->_l,le_refl->_m,pow_le_pow_right->_n,succ_pos->_o,two_pow_pos->_p,min_eq_left->_q,testBit_mod_two_pow->_v,eq_of_testBit_eq->_x,zero_testBit->_B,div_add_mod->_C,zero_add->_F,mul_comm->_G
open UInt8 renaming ofNat->_k
namespace Go.Proofs.YtdiobdlinjgakaaGreatDoor.R
attribute [local irreducible] bc Go
theorem IL(k:Nat):(2:Int) ^ k=((2 ^ k:Nat):Int):=aF
theorem cA(n b c:Int):Spec prog 60 [.v (.int .i64 n),.v (.int .i64 b),.v (.int .i64 c)] (.v (.bool (decide (b<=n/\n<=c)))):=by exact CV
def FC:ByteArray:={data:=#[48,49,50,51,52,53,54,55,56,57]}
theorem acv(d:Nat)(h:d<10):FC.extract d (d+1)=I [_k (48+d)]:=by
 have:∀b:Fin 10,FC.extract b.val (b.val+1)=I [_k (48+b.val)]:=by
  intro b;match b with
  |0=>rfl
  |1=>rfl
  |2=>rfl
  |3=>rfl
  |4=>rfl
  |5=>rfl
  |6=>rfl
  |7=>rfl
  |8=>rfl
  |9=>rfl
 exact this ⟨d,h⟩
theorem agZ(d:Nat)(h:d<10):Spec prog 27 [.v (.int .i64 (d:Nat))] (.v (.string (I [_k (48+d)]))):=by
 have b:_c.wrap ((d:Int)+1)=((d+1:Nat):Int):=er;have c:=acv d h;have f:({data:=#[48,49,50,51,52,53,54,55,56,57]}:ByteArray)=FC:=rfl;have g:FC.size=10:=rfl;refine az {} 0 func27 fun Γ an=>ar ?_
 repeat' first|refine af ?_|simp only[b,c,f,g,_a]|refine ag ?_|refine ab ?_ ?_<;>intro h<;>try exact aa|exact al|fail
 all_goals exact bM
def mX(a n:Nat):List UInt8:=(_H n).map (fun i=>_k (48+a/2 ^ (31-i)%2))
theorem P0(a n:Nat):(mX a n).length=n:=by simp[mX]
theorem ae3(a n:Nat):mX a (n+1)=mX a n++[_k (48+a/2 ^ (31-n)%2)]:=by simp[mX,List.range_succ]
theorem adW(a:Nat)(U:a<4294967296):Spec prog 230 [.v (.int .u32 (a:Nat)),.v (.int .i64 32)] (.v (.string (I (mX a 32)))):=by
 have c:_c.wrap (a:Int)=(a:Int):=_d _ G;refine az {} 0 func230 fun Γ an=>ar ?_
 repeat' first|refine af ?_|refine ag ?_|refine ab ?_ ?_<;>intro h<;>try exact aa|fail
 refine bS (α:=Nat) (fun i=>[(⟨.d0,.d0,.d5⟩,.v (.string (I (mX a i)))),(⟨.d0,.d1,.d0⟩,.v (.int .i64 (i:Nat)))]) (fun _=>[]) (fun _=>Γ.g0) (fun i=>32-i) (fun i=>i<=32) 0 (_j _) ?_ ?_
 .exact bs
 intro i f;dsimp only at f⊢;refine bz ?_;by_cases g:i<32
 .have X:2 ^ (31-i)<=2 ^ 31:=_n ae G;have Y:0<2 ^ (31-i):=_p _;have j:_c.wrap (31-(i:Int))=((31-i:Nat):Int):=er;have m:min (31-i) _c.bits=31-i:=_q (by show 31-i<=64;omega);have u:_c.wrap (1*2 ^ (31-i))=((2 ^ (31-i):Nat):Int):=by rw[Int.one_mul,IL];exact _d _ G
  have z:((2 ^ (31-i):Nat):Int)≠0:=G;have C:_c.wrap ((a:Int).tdiv ((2 ^ (31-i):Nat):Int))=((a/2 ^ (31-i):Nat):Int):=by
   rw[<-Int.ofNat_tdiv];have ay:=Nat.div_le_self a (2 ^ (31-i));revert ay;generalize a/2 ^ (31-i)=q;intro ay;exact _d _ G
  have M:((a/2 ^ (31-i):Nat):Int).tmod 2=((a/2 ^ (31-i)%2:Nat):Int):=(Int.ofNat_tmod _ 2).symm;have O:=agZ (a/2 ^ (31-i)%2) G;have Q:=P0 a i;repeat' first|refine af ?_|simp only[c,j,m,u,C,M,dt,_a]|refine aK z ?_|refine J O ?_|refine ag ?_|refine ab ?_ ?_<;>intro h<;>try exact aa|refine aK (by simp only[aU,Q,List.length_singleton];omega) ?_|exact al|fail
  refine br ⟨i+1,g,G,?_⟩;refine dB ?_ ?_ (_m _);all_goals first|refine dD ?_|exact dE
  all_goals repeat' first|exact trivial|exact rfl|apply And.intro
  all_goals first|exact nR|rw[ae3]
 obtain rfl:i=32:=G;exact o3
theorem TR(c:UInt8):∀l:List UInt8,0<=_e l c↔c∈l
 |[]=>by simp[_e]
 |b::l=>by
  have f:=TR c l;have m:=Lib.indexByte_ge l c;unfold _e;by_cases bO:b=c
  .simp[bO]
  have j:(b==c)=false:=yJ;have g:¬c=b:=fun q=>bO q.symm
  rw[j,List.mem_cons];simp only[_z,if_false];by_cases bg:_e l c = -1
  .simp[bg,g];rw[bg]at f;intro q;have:=f.2 q;omega
  have:(_e l c == -1)=false:=Gl;rw[this];simp only[_z,if_false];constructor
  .intro q;exact .inr (f.1 G)
  intro q;rcases q with q|q
  .exact absurd q g
  have:=f.2 q;omega
theorem akJ(l:List UInt8)(c:UInt8):Spec prog 139 [.v (.string (I l)),.v (.int .u8 (c.toNat:Nat))] (.v (.int .i64 (_e l c))):=by
 have b:(I l).data.toList=l:=nY;have f:((c.toNat:Nat):Int).toNat.toUInt8=c:=aF;refine az {ext:=true} 0 func139 fun Γ an=>ar ?_
 repeat' first|refine af ?_|simp only[b,f]|refine ag ?_|refine ab ?_ ?_<;>intro h<;>try exact aa|exact al|fail
 all_goals exact bM
theorem ac1:(ByteArray.mk #[49]:ByteArray)=I [49]:=rfl
theorem ahg(l:List UInt8):Spec prog 84 [.v (.string (I l)),.v (.string (I [49]))] (.v (.int .i64 (_e l 49))):=by
 have h1:=akJ l 49;have f:((au [49] 0:Nat):Int)=(((49:UInt8).toNat:Nat):Int):=rfl;have c:(I [49]).size=1:=rfl;by_cases ay:[49]=l
 .subst ay;refine az {} 0 func84 fun Γ an=>ar ?_
  repeat' first|refine af ?_|simp only[c,dF]|simp only[aU,b_]|refine ag ?_|refine ab ?_ ?_<;>intro h<;>try exact aa|exact al|fail
  all_goals try exfalso;simp at h;done
  all_goals exact b0
 refine az {} 0 func84 fun Γ an=>ar ?_
 repeat' first|refine af ?_|simp only[c,dF,ay]|simp only[aU,b_,f]|refine J h1 ?_|refine ag ?_|refine ab ?_ ?_<;>intro h<;>try exact aa|refine aK ae ?_|exact al|fail
 all_goals exact DS
theorem adS(l:List UInt8):Spec prog 35 [.v (.string (I l)),.v (.string (I [49]))] (.v (.int .i64 (_e l 49))):=by
 have h1:=ahg l;refine az {} 0 func35 fun Γ an=>ar ?_
 exact Wn
theorem A7(l:List UInt8):Spec prog 67 [.v (.string (I l)),.v (.string (I [49]))] (.v (.bool (decide ((49:UInt8)∈l)))):=by
 have h1:=adS l;have h2:=TR 49 l;refine az {} 0 func67 fun Γ an=>ar ?_
 repeat' first|refine af ?_|refine J h1 ?_|refine ag ?_|refine ab ?_ ?_<;>intro h<;>try exact aa|exact al|fail
 all_goals(refine cI ?_;first|exact cc|try simp only[cE]at *)
 all_goals exact fA (decide_eq_decide.2 h2)
theorem TH(a i:Nat):_k (48+a/2 ^ (31-i)%2)=49↔a.testBit (31-i)=true:=by
 rw[Nat.testBit_eq_decide_div_mod_eq];rcases Nat.mod_two_eq_zero_or_one (a/2 ^ (31-i))with h|h
 .rw[h];decide
 rw[h];decide
theorem agY(a l:Nat)(hl:l<=32):((49:UInt8)∈(mX a 32).drop l)↔¬a%2 ^ (32-l)=0:=by
 constructor
 .intro c f;obtain⟨j,b⟩:=_w.1 c;rw[_y]at b;unfold mX at b;rw[_A]at b;cases g:(_H 32)[l+j]? with
  |none=>rw[g]at b;cases b
  |some q=>
   rw[g]at b;have u:=_s.1 g;have h1:q=l+j:=by have:=u.2;simpa using this.symm
   have h2:l+j<32:=by have:=u.1;simpa using this
   subst h1;have m:=(TH a (l+j)).1 (Option.some.inj b);have v:=_v a (32-l) (31-(l+j));rw[f,m,decide_eq_true (G:31-(l+j)<32-l)]at v;simp at v
 intro f;apply Decidable.byContradiction;intro c;apply f;apply _x;intro j;rw[_v,_B];by_cases b:j<32-l
 .rw[decide_eq_true b,_u];cases m:a.testBit j with
  |false=>rfl
  |true=>
   exfalso;apply c;refine _w.2 ⟨31-j-l,?_⟩;have x:l+(31-j-l)=31-j:=G;rw[_y,x];unfold mX;rw[_A,List.getElem?_range G];have z:31-(31-j)=j:=G;have:=(TH a (31-j)).2 (by rw[z];exact m);simp only[Option.map_some];rw[this]
 rw[decide_eq_false b,_r]
def ku(a l:Int):Bool:=decide (0<=l/\l<=32)&&decide (a.toNat%2 ^ (32-l.toNat)=0)
abbrev eK(a l:Int):O:=.agg [.v (.int .u32 a),.v (.int .i64 l)]
theorem SG(a l:Int)(f:0<=a/\a<4294967296):Spec prog 171 [eK a l] (.v (.bool (ku a l))):=by
 obtain⟨A,rfl⟩:=_b f.1;unfold ku;by_cases hl:0<=l/\l<=32
 .obtain⟨L,rfl⟩:=_b hl.1;have h1:=adW A G;have h2:=A7 ((mX A 32).drop L);have g:=agY A L G;have c:=P0 A 32;have j:(I (mX A 32)).extract L 32=I ((mX A 32).drop L):=by rw[fK,List.take_of_length_le (by rw[List.length_drop,c];omega)]
  have m:decide ((49:UInt8)∈(mX A 32).drop L) = !decide (A%2 ^ (32-L)=0):=by rw[decide_eq_decide.2 g,decide_not]
  rw[m]at h2;rw[decide_eq_true hl,_a,_a,_u];refine az {} 0 func171 fun Γ an=>ar ?_
  repeat' first|refine af ?_|simp only[aU,c,ac1,j,_a]|refine J h1 ?_|refine J h2 ?_|refine J (cA _ _ _) ?_|refine ag ?_|refine ab ?_ ?_<;>intro h<;>try exact aa|refine aK (by simp only[aU,c];omega) ?_|exact al|fail
  all_goals(refine cI ?_;first|exact cc|try simp only[cE]at *)
  all_goals (refine fA ?_;first|simp|simp_all)
 rw[decide_eq_false hl,_r];refine az {} 0 func171 fun Γ an=>ar ?_
 repeat' first|refine af ?_|refine J (cA _ _ _) ?_|refine ag ?_|refine ab ?_ ?_<;>intro h<;>try exact aa|exact al|fail
 all_goals exact bM
theorem ajK(A L:Nat)(b:L<=32):(A*2 ^ L)%4294967296=0↔A%2 ^ (32-L)=0:=by
 have h:4294967296=2 ^ (32-L)*2 ^ L:=by rw[<-Nat.pow_add,show 32-L+L=32 from G]
 rw[h,Nat.mul_mod_mul_right];have:=_p L;constructor
 .intro q;rcases Nat.mul_eq_zero.1 q with q|q
  .exact q
  omega
 intro q;rw[q,Nat.zero_mul]
theorem aaM(a l:Int)(c:0<=a/\a<4294967296):Spec prog 143 [eK a l] (.v (.bool (ku a l))):=by
 obtain⟨A,rfl⟩:=_b c.1;unfold ku;by_cases hl:0<=l/\l<=32
 .obtain⟨L,rfl⟩:=_b hl.1;have f:min L _E.bits=L:=_q (by show L<=32;omega);have g:_E.wrap ((A:Int)*2 ^ L)=((A*2 ^ L%4294967296:Nat):Int):=by rw[_I,IL];simp
  have b:=ajK A L G;have j:decide (((A*2 ^ L%4294967296:Nat):Int)=0)=decide (A%2 ^ (32-L)=0):=decide_eq_decide.2 ⟨fun q=>b.1 G,fun q=>by rw[b.2 q];rfl⟩;rw[decide_eq_true hl,_a,_a,_u];refine az {} 0 func143 fun Γ an=>ar ?_
  repeat' first|refine af ?_|simp only[_a,f,g,j]|refine ag ?_|refine ab ?_ ?_<;>intro h<;>try exact aa|exact al|fail
  all_goals exact bM
 rw[decide_eq_false hl,_r];refine az {} 0 func143 fun Γ an=>ar ?_
 exact o3
theorem aef(a b:Nat):a ^^^ b=0↔a=b:=by
 constructor
 .intro h;apply _x;intro i;have:=congrArg (fun n=>Nat.testBit n i) h;simp only[Nat.testBit_xor,_B]at this;cases h1:a.testBit i<;>cases h2:b.testBit i<;>simp_all
 rintro rfl;exact Nat.xor_self _
def sI(a l x:Int):Bool:=decide (x.toNat/2 ^ (32-l.toNat)=a.toNat/2 ^ (32-l.toNat))
theorem Ov(a l x:Int)(f:0<=a/\a<4294967296)(g:0<=x/\x<4294967296)(hl:0<=l/\l<=32):Spec prog 282 [eK a l,.v (.int .u32 x)] (.v (.bool (sI a l x))):=by
 obtain⟨A,rfl⟩:=_b f.1;obtain⟨L,rfl⟩:=_b hl.1;obtain⟨b,rfl⟩:=_b g.1;have j:=u32_xor_nat b A G G;have J:b ^^^ A<2 ^ 32:=Nat.xor_lt_two_pow G G;have m:_D.wrap ((b ^^^ A:Nat):Int)=((b ^^^ A:Nat):Int):=jo _ G G;have u:_c.wrap (32-(L:Int))=((32-L:Nat):Int):=er;have z:min (32-L) _D.bits=32-L:=_q (by show 32-L<=64;omega);have C:((b ^^^ A:Nat):Int).fdiv (2 ^ (32-L))=(((b ^^^ A)/2 ^ (32-L):Nat):Int):=by rw[IL,Int.fdiv_eq_ediv_of_nonneg _ (Int.natCast_nonneg _)];simp
 have c:(b ^^^ A)/2 ^ (32-L)=0↔b/2 ^ (32-L)=A/2 ^ (32-L):=by
  rw[<-_l,<-_l,<-_l,Nat.shiftRight_xor_distrib];exact aef _ _
 have I:decide ((((b ^^^ A)/2 ^ (32-L):Nat):Int)=0)=decide (b/2 ^ (32-L)=A/2 ^ (32-L)):=decide_eq_decide.2 ⟨fun q=>c.1 G,fun q=>by rw[c.2 q];rfl⟩;unfold sI;rw[_a,_a,_a];refine az {} 0 func282 fun Γ an=>ar ?_
 repeat' first|refine af ?_|simp only[j,m,u,z,C,I,_a]|refine ag ?_|refine ab ?_ ?_<;>intro h<;>try exact aa|exact al|fail
 all_goals exact bM
def ia(l:Int):Nat:=2 ^ (32-l.toNat)
theorem Nt(l:Int):0<ia l/\ia l<=4294967296:=⟨_p _,_n (show 0<2 from ae) (show 32-l.toNat<=32 from G)⟩
theorem Y5(a l:Int)(J:0<=a/\a<4294967296)(hl:0<=l/\l<=32):Spec prog 265 [eK a l] (.aS [.v (.int .i64 a),.v (.int .i64 (a+(ia l:Nat)-1))]):=by
 have c:=Nt l;obtain⟨L,rfl⟩:=_b hl.1;have f:_c.wrap (32-(L:Int))=((32-L:Nat):Int):=er;have g:_c.wrap a=a:=_d _ G;refine az {} 0 func265 fun Γ an=>ar ?_
 repeat' first|refine af ?_|simp only[f]|refine ag ?_|refine ab ?_ ?_<;>intro h<;>try exact aa|fail
 refine bS (α:=Nat) (fun j=>[(⟨.d0,.d0,.d4⟩,.v (.int .i64 (2 ^ j:Nat))),(⟨.d0,.d1,.d0⟩,.v (.int .i64 (j:Nat)))]) (fun _=>[]) (fun _=>Γ.g0+1) (fun j=>32-j) (fun j=>j<=32-L) 0 (_j _) ?_ ?_
 .exact bs
 intro j m;dsimp only at m⊢;refine bz ?_;by_cases u:j<32-L
 .have b:2 ^ (j+1)<=2 ^ 32:=_n ae G;have z:_c.wrap (((2 ^ j:Nat):Int)*2)=((2 ^ (j+1):Nat):Int):=by
   rw[Nat.pow_succ]at b⊢;revert b;generalize 2 ^ j=q;intro b;exact(_d _ G).trans G
  repeat' first|refine af ?_|simp only[z]|refine ag ?_|refine ab ?_ ?_<;>intro h<;>try exact aa|exact al|fail
  refine br ⟨j+1,u,G,?_⟩;exact jJ
 obtain rfl:j=32-L:=G;have aj:ia (L:Int)=2 ^ (32-L):=rfl;rw[aj]at c⊢;have C:_c.wrap (a+((2 ^ (32-L):Nat):Int))=a+((2 ^ (32-L):Nat):Int):=_d _ G;have I:_c.wrap (a+((2 ^ (32-L):Nat):Int)-1)=a+((2 ^ (32-L):Nat):Int)-1:=_d _ G;repeat' first|refine af ?_|simp only[g,C,I]|refine ag ?_|refine ab ?_ ?_<;>intro h<;>try exact aa|exact al|fail
 all_goals exact bM
structure bN where
 (fj aM fm tl pr bZ hL b2 hN:Int) (ps:Bool)
deriving DecidableEq
abbrev bN.enc(r:bN):List O:=[.v (.int .u32 r.fj),.v (.int .i64 r.aM),.v (.int .u32 r.fm),.v (.int .i64 r.tl),.v (.int .i64 r.pr),.v (.int .i64 r.bZ),.v (.int .i64 r.hL),.v (.int .i64 r.b2),.v (.int .i64 r.hN),.v (.bool r.ps)]
abbrev ug(r:bN):O:=.agg r.enc
def bN.wf(r:bN):Prop:=(0<=r.fj/\r.fj<4294967296)/\(0<=r.fm/\r.fm<4294967296)
def mZ(a b:Int):Bool:=decide (0<=a/\a<=b/\b<=65535)
theorem Gs(a b:Int):Spec prog 144 [.v (.int .i64 a),.v (.int .i64 b)] (.v (.bool (mZ a b))):=by
 unfold mZ;refine az {} 0 func144 fun Γ an=>ar ?_
 repeat' first|refine af ?_|refine ag ?_|refine ab ?_ ?_<;>intro h<;>try exact aa|exact al|fail
 all_goals exact Mz
def jv(r:bN):Bool:=ku r.fj r.aM&&(ku r.fm r.tl&&(decide (0<=r.pr/\r.pr<=255)&&(mZ r.bZ r.hL&&mZ r.b2 r.hN)))
theorem wa{a l:Int}(h:ku a l=true):0<=l/\l<=32:=by
 unfold ku at h;simp only[_g,decide_eq_true_eq]at h;exact h.1
theorem Gg{r:bN}(h:jv r=true):(ku r.fj r.aM=true/\ku r.fm r.tl=true)/\(0<=r.pr/\r.pr<=255)/\(0<=r.bZ/\r.bZ<=r.hL/\r.hL<=65535)/\(0<=r.b2/\r.b2<=r.hN/\r.hN<=65535):=by
 unfold jv mZ at h;simp only[_g,decide_eq_true_eq]at h;exact⟨⟨h.1,h.2.1⟩,h.2.2.1,h.2.2.2.1,h.2.2.2.2⟩
theorem Bq(r:bN)(c:r.wf):Spec prog 85 [ug r] (.v (.bool (jv r))):=by
 have h1:=aaM r.fj r.aM c.1;have h2:=aaM r.fm r.tl c.2;have f:=Gs r.bZ r.hL;have g:=Gs r.b2 r.hN;unfold jv;generalize ku r.fj r.aM=ah at *;generalize ku r.fm r.tl=ai at *;generalize mZ r.bZ r.hL=j at *;generalize mZ r.b2 r.hN=m at *;refine az {} 0 func85 fun Γ an=>ar ?_
 repeat' first|refine af ?_|refine J h1 ?_|refine J h2 ?_|refine J f ?_|refine J g ?_|refine ag ?_|refine ab ?_ ?_<;>intro h<;>try exact aa|exact al|fail
 all_goals exact Mz
theorem akO(r:bN)(c:r.wf):Spec prog 111 [ug r] (.v (.bool (jv r))):=by
 have h1:=SG r.fj r.aM c.1;have h2:=SG r.fm r.tl c.2;unfold jv mZ;generalize ku r.fj r.aM=ah at *;generalize ku r.fm r.tl=ai at *;refine az {} 0 func111 fun Γ an=>ar ?_
 repeat' first|refine af ?_|refine J h1 ?_|refine J h2 ?_|refine J (cA _ _ _) ?_|refine ag ?_|refine ab ?_ ?_<;>intro h<;>try exact aa|exact al|fail
 all_goals exact Mz
def kS(r:bN):Int×Int:=if r.pr=0 then(0,255)else(r.pr,r.pr)
abbrev P_(r:bN):List O:=[.v (.int .i64 r.fj),.v (.int .i64 (r.fj+(ia r.aM:Nat)-1)),.v (.int .i64 r.fm),.v (.int .i64 (r.fm+(ia r.tl:Nat)-1)),.v (.int .i64 (kS r).1),.v (.int .i64 (kS r).2),.v (.int .i64 r.bZ),.v (.int .i64 r.hL),.v (.int .i64 r.b2),.v (.int .i64 r.hN)]
theorem adu(r:bN)(c:r.wf)(g:0<=r.aM/\r.aM<=32)(j:0<=r.tl/\r.tl<=32):Spec prog 236 [ug r] (.agg (P_ r)):=by
 have h1:=Y5 r.fj r.aM c.1 g;have h2:=Y5 r.fm r.tl c.2 j;unfold P_ kS;by_cases f:r.pr=0
 .rw[if_pos f];exact Qt
 rw[if_neg f];exact Qt
structure ew where
 (lU lJ pr a b:Int)
abbrev AQ(f:ew):O:=.agg [.v (.int .u32 f.lU),.v (.int .u32 f.lJ),.v (.int .i64 f.pr),.v (.int .i64 f.a),.v (.int .i64 f.b)]
def ew.wf(f:ew):Prop:=(0<=f.lU/\f.lU<4294967296)/\(0<=f.lJ/\f.lJ<4294967296)
def k5(r:bN)(f:ew):Bool:=sI r.fj r.aM f.lU&&(sI r.fm r.tl f.lJ&&((decide (r.pr=0)||decide (r.pr=f.pr))&&(decide (r.bZ<=f.a/\f.a<=r.hL)&&decide (r.b2<=f.b/\f.b<=r.hN))))
theorem ahq(r:bN)(f:ew)(c:r.wf)(g:f.wf)(h1:0<=r.aM/\r.aM<=32)(h2:0<=r.tl/\r.tl<=32):Spec prog 274 [ug r,AQ f] (.v (.bool (k5 r f))):=by
 have j:=Ov r.fj r.aM f.lU c.1 g.1 h1;have m:=Ov r.fm r.tl f.lJ c.2 g.2 h2;unfold k5;generalize sI r.fj r.aM f.lU=ah at *;generalize sI r.fm r.tl f.lJ=ai at *;refine az {} 0 func274 fun Γ an=>ar ?_
 repeat' first|refine af ?_|refine J j ?_|refine J m ?_|refine ag ?_|refine ab ?_ ?_<;>intro h<;>try exact aa|exact al|fail
 all_goals(refine cI ?_;first|exact cc|try simp only[cE]at *)
 all_goals (refine fA ?_;first|simp_all;done|simp_all;omega|simp_all;rw[Bool.eq_iff_iff];simp;omega)
def sL(r:bN)(f:ew):Nat->Bool
 |0=>decide (r.fj<=f.lU/\f.lU<=r.fj+(ia r.aM:Nat)-1)
 |1=>decide (r.fm<=f.lJ/\f.lJ<=r.fm+(ia r.tl:Nat)-1)
 |2=>decide ((kS r).1<=f.pr/\f.pr<=(kS r).2)
 |3=>decide (r.bZ<=f.a/\f.a<=r.hL)
 |_=>decide (r.b2<=f.b/\f.b<=r.hN)
def vl(c:Nat->Bool):Bool:=c 0&&(c 1&&(c 2&&(c 3&&c 4)))
theorem acN{c:Nat->Bool}{i:Nat}(b:i<5)(h:c i=false):vl c=false:=by
 unfold vl;have:i=0\/i=1\/i=2\/i=3\/i=4:=G;rcases this with rfl|rfl|rfl|rfl|rfl<;>simp[h]
theorem adn{c:Nat->Bool}(h:∀j,j<5->c j=true):vl c=true:=by
 unfold vl;simp[h 0 ae,h 1 ae,h 2 ae,h 3 ae,h 4 ae]
theorem Ak{c:Nat->Bool}{i:Nat}(h:∀j,j<i->c j=true)(b:c i=true):∀j,j<i+1->c j=true:=fun j f=>by
 rcases Nat.lt_or_ge j i with h2|h2
 .exact h j h2
 obtain rfl:j=i:=G;exact b
def rj:Nat->Int
 |0=>0
 |1=>1
 |2=>2
 |3=>3
 |4=>4
 |_=>5
theorem xS:rj 0=0:=rfl
theorem xC:rj 1=1:=rfl
theorem wC:rj 2=2:=rfl
theorem vO:rj 3=3:=rfl
theorem xc:rj 4=4:=rfl
theorem w6:rj 5=5:=rfl
theorem AY(i:Nat)(h:i<5):_c.wrap (rj i+1)=rj (i+1):=by
 have:i=0\/i=1\/i=2\/i=3\/i=4:=G;rcases this with rfl|rfl|rfl|rfl|rfl<;>decide
theorem afl(r:bN)(f:ew)(q:r.wf)(m:f.wf)(h1:0<=r.aM/\r.aM<=32)(h2:0<=r.tl/\r.tl<=32):Spec prog 179 [ug r,AQ f] (.v (.bool (vl (sL r f)))):=by
 have bO:=adu r q h1 h2;have bl:_c.wrap f.lU=f.lU:=_d _ (by have:=m.1;omega);have bD:_c.wrap f.lJ=f.lJ:=_d _ (by have:=m.2;omega);refine az {} 0 func179 fun Γ an=>ar ?_
 repeat' first|refine af ?_|simp only[bl,bD]|refine ag ?_|refine ab ?_ ?_<;>intro h<;>try exact aa|fail
 refine bS (α:=Nat×Nat) (fun x=>[(⟨.d0,.d2,.d6⟩,.v (.int .i64 (rj x.1)))]) (fun x=>[(3,none)]) (fun x=>x.2) (fun x=>5-x.1) (fun x=>x.1<=5/\∀j,j<x.1->sL r f j=true) (0,Γ.g0+1+1+1) ⟨_j _,fun j u=>absurd u (Nat.not_lt_zero _)⟩ ?_ ?_
 .exact bs
 rintro⟨i,g⟩ ⟨z,c⟩;dsimp only at z c⊢;refine bz ?_;have C:i=0\/i=1\/i=2\/i=3\/i=4\/i=5:=G;rcases C with rfl|rfl|rfl|rfl|rfl|rfl
 .simp only[xS,xC,wC,vO,xc,w6];cases bn:sL r f 0 with
  |false=>
   have lA:decide (r.fj<=f.lU/\f.lU<=r.fj+(ia r.aM:Nat)-1)=false:=bn;exact z1
  |true=>
   have lA:decide (r.fj<=f.lU/\f.lU<=r.fj+(ia r.aM:Nat)-1)=true:=bn;repeat' first|refine af ?_|refine J bO ?_|refine J (cA _ _ _) ?_|simp only[lA]|refine ag ?_|refine ab ?_ ?_<;>intro h<;>try exact aa|exact al|fail
   all_goals try exfalso;simp_all;done
   all_goals
   refine br ⟨(1,g+1),⟨kO,Ak c bn⟩,kO,?_⟩;refine dB ?_ ?_ (_m _);all_goals first|refine dD ?_|exact dE
   all_goals repeat' first|exact trivial|exact rfl|apply And.intro
   all_goals exact eG (AY 0 ae)
 .simp only[xS,xC,wC,vO,xc,w6];cases bn:sL r f 1 with
  |false=>
   have lA:decide (r.fm<=f.lJ/\f.lJ<=r.fm+(ia r.tl:Nat)-1)=false:=bn;exact z1
  |true=>
   have lA:decide (r.fm<=f.lJ/\f.lJ<=r.fm+(ia r.tl:Nat)-1)=true:=bn;repeat' first|refine af ?_|refine J bO ?_|refine J (cA _ _ _) ?_|simp only[lA]|refine ag ?_|refine ab ?_ ?_<;>intro h<;>try exact aa|exact al|fail
   all_goals try exfalso;simp_all;done
   all_goals
   refine br ⟨(2,g+1),⟨kO,Ak c bn⟩,kO,?_⟩;refine dB ?_ ?_ (_m _);all_goals first|refine dD ?_|exact dE
   all_goals repeat' first|exact trivial|exact rfl|apply And.intro
   all_goals exact eG (AY 1 ae)
 .simp only[xS,xC,wC,vO,xc,w6];cases bn:sL r f 2 with
  |false=>
   have lA:decide ((kS r).1<=f.pr/\f.pr<=(kS r).2)=false:=bn;exact z1
  |true=>
   have lA:decide ((kS r).1<=f.pr/\f.pr<=(kS r).2)=true:=bn;repeat' first|refine af ?_|refine J bO ?_|refine J (cA _ _ _) ?_|simp only[lA]|refine ag ?_|refine ab ?_ ?_<;>intro h<;>try exact aa|exact al|fail
   all_goals try exfalso;simp_all;done
   all_goals
   refine br ⟨(3,g+1),⟨kO,Ak c bn⟩,kO,?_⟩;refine dB ?_ ?_ (_m _);all_goals first|refine dD ?_|exact dE
   all_goals repeat' first|exact trivial|exact rfl|apply And.intro
   all_goals exact eG (AY 2 ae)
 .simp only[xS,xC,wC,vO,xc,w6];cases bn:sL r f 3 with
  |false=>
   have lA:decide (r.bZ<=f.a/\f.a<=r.hL)=false:=bn;exact z1
  |true=>
   have lA:decide (r.bZ<=f.a/\f.a<=r.hL)=true:=bn;repeat' first|refine af ?_|refine J bO ?_|refine J (cA _ _ _) ?_|simp only[lA]|refine ag ?_|refine ab ?_ ?_<;>intro h<;>try exact aa|exact al|fail
   all_goals try exfalso;simp_all;done
   all_goals
   refine br ⟨(4,g+1),⟨kO,Ak c bn⟩,kO,?_⟩;refine dB ?_ ?_ (_m _);all_goals first|refine dD ?_|exact dE
   all_goals repeat' first|exact trivial|exact rfl|apply And.intro
   all_goals exact eG (AY 3 ae)
 .simp only[xS,xC,wC,vO,xc,w6];cases bn:sL r f 4 with
  |false=>
   have lA:decide (r.b2<=f.b/\f.b<=r.hN)=false:=bn;exact z1
  |true=>
   have lA:decide (r.b2<=f.b/\f.b<=r.hN)=true:=bn;repeat' first|refine af ?_|refine J bO ?_|refine J (cA _ _ _) ?_|simp only[lA]|refine ag ?_|refine ab ?_ ?_<;>intro h<;>try exact aa|exact al|fail
   all_goals try exfalso;simp_all;done
   all_goals
   refine br ⟨(5,g+1),⟨kO,Ak c bn⟩,kO,?_⟩;refine dB ?_ ?_ (_m _);all_goals first|refine dD ?_|exact dE
   all_goals repeat' first|exact trivial|exact rfl|apply And.intro
   all_goals exact eG (AY 4 ae)
 simp only[xS,xC,wC,vO,xc,w6];rw[adn c];exact o3
def JE(x y:bN):Nat->Bool
 |0=>decide (x.fj<=y.fj/\y.fj+(ia y.aM:Nat)-1<=x.fj+(ia x.aM:Nat)-1)
 |1=>decide (x.fm<=y.fm/\y.fm+(ia y.tl:Nat)-1<=x.fm+(ia x.tl:Nat)-1)
 |2=>decide ((kS x).1<=(kS y).1/\(kS y).2<=(kS x).2)
 |3=>decide (x.bZ<=y.bZ/\y.hL<=x.hL)
 |_=>decide (x.b2<=y.b2/\y.hN<=x.hN)
theorem ac8(s p x:Nat)(aj:0<s):x/s=p↔p*s<=x/\x<p*s+s:=by
 constructor
 .rintro rfl;have h1:=_C x s;have h2:=Nat.mod_lt x aj;rw[_G]at h1;omega
 rintro⟨h1,h2⟩;have b:x<(p+1)*s:=by rw[Nat.succ_mul];exact h2
 have c:=(Nat.le_div_iff_mul_le aj).2 h1;have f:=(Nat.div_lt_iff_lt_mul aj).2 b;omega
theorem agN{a l:Int}(h:ku a l=true):a.toNat=a.toNat/ia l*ia l:=by
 unfold ku at h;simp only[_g,decide_eq_true_eq]at h;have h2:a.toNat%ia l=0:=h.2;have b:=_C a.toNat (ia l);rw[_G]at b;omega
theorem WG{a l x:Int}(c:ku a l=true)(g:0<=a)(j:0<=x):sI a l x=decide (a<=x/\x<=a+(ia l:Nat)-1):=by
 have f:=agN c;have b:=ac8 (ia l) (a.toNat/ia l) x.toNat (Nt l).1;rw[<-f]at b;have aj:=(Nt l).1;unfold sI;refine decide_eq_decide.2 ⟨fun q=>?_,fun q=>b.2 G⟩;have:=b.1 q;omega
theorem ajF(r:bN)(p:Int)(b:0<=p/\p<=255):(decide (r.pr=0)||decide (r.pr=p))=decide ((kS r).1<=p/\p<=(kS r).2):=by
 unfold kS;split
 .rename_i h;simp[h,b]
 rename_i h;simp only[h,decide_false,Bool.false_or];exact decide_eq_decide.2 (by constructor<;>intro q<;>first|omega|dsimp only at *;omega)
theorem aiI{r:bN}{f:ew}(g:jv r=true)(b:r.wf)(c:f.wf)(j:0<=f.pr/\f.pr<=255):vl (sL r f)=k5 r f:=by
 obtain⟨⟨h1,h2⟩,m,q,u⟩:=Gg g;unfold vl k5;rw[WG h1 b.1.1 c.1.1,WG h2 b.2.1 c.2.1,ajF r f.pr j];rfl
def hF(l:List bN):Int:=if 64<l.length then 2 else if l.all jv then 0 else 4
theorem F3{l:List bN}(h:hF l=0):l.length<=64/\∀r∈l,jv r=true:=by
 unfold hF at h;split at h
 .cases h
 split at h
 .rename_i h1 h2;exact⟨G,fun r b=>List.all_eq_true.1 h2 r b⟩
 cases h
theorem vD{l:List bN}{k:Nat}{t:bN}(b:l[k]?=some t):cf (l.map bN.enc) k=t.enc:=h7 bN.enc l k t b
theorem yw(l:List bN)(c:Bool)(hl:l.length<=maxLen)(j:∀r∈l,r.wf):Spec prog 37 [.snap 10 (l.map bN.enc) c] (.v (.int .i64 (hF l))):=by
 unfold maxLen at hl;by_cases g:64<l.length
 .have f:hF l=2:=by unfold hF;rw[if_pos g]
  rw[f];refine az {} 0 func37 fun Γ an=>ar ?_
  exact Jm
 have f:hF l=if l.all jv then 0 else 4:=by unfold hF;rw[if_neg g]
 rw[f];clear f;refine az {} 0 func37 fun Γ an=>ar ?_
 repeat' first|refine af ?_|refine ag ?_|refine ab ?_ ?_<;>intro h<;>try exact aa|simp only[_i]|exact al|fail
 refine bS (α:=Nat×Nat) (fun x=>[(⟨.d0,.d1,.d2⟩,.v (.int .i64 (x.1:Nat)))]) (fun _=>[(0,none)]) (fun x=>x.2) (fun x=>l.length-x.1) (fun x=>x.1<=l.length/\∀y∈l.take x.1,jv y=true) (0,Γ.g0) ⟨_j _,fun y bB=>r6⟩ ?_ ?_
 .exact bs
 rintro⟨k,bR⟩ ⟨m,a6⟩;dsimp only at m a6⊢;refine bz ?_;by_cases aN:k<l.length
 .obtain⟨t,bT⟩:∃t,l[k]?=some t:=⟨_,_h aN⟩;have dU:=vD bT;have GD:=_f bT;have aT:=Bq t (j t GD);exact QP
 exact UT
theorem XK(l:List bN)(c:Bool)(hl:l.length<=maxLen)(j:∀r∈l,r.wf):Spec prog 61 [.snap 10 (l.map bN.enc) c] (.v (.int .i64 (hF l))):=by
 unfold maxLen at hl;by_cases g:64<l.length
 .have f:hF l=2:=by unfold hF;rw[if_pos g]
  rw[f];refine az {} 0 func61 fun Γ an=>ar ?_
  exact Jm
 have f:hF l=if l.all jv then 0 else 4:=by unfold hF;rw[if_neg g]
 rw[f];clear f;refine az {} 0 func61 fun Γ an=>ar ?_
 repeat' first|refine af ?_|refine ag ?_|refine ab ?_ ?_<;>intro h<;>try exact aa|simp only[_i]|exact al|fail
 refine bS (α:=Nat×Nat) (fun x=>[(⟨.d0,.d1,.d2⟩,.v (.int .i64 (x.1:Nat)))]) (fun _=>[(0,none)]) (fun x=>x.2) (fun x=>l.length-x.1) (fun x=>x.1<=l.length/\∀y∈l.take x.1,jv y=true) (0,Γ.g0) ⟨_j _,fun y bB=>r6⟩ ?_ ?_
 .exact bs
 rintro⟨k,bR⟩ ⟨m,a6⟩;dsimp only at m a6⊢;refine bz ?_;by_cases aN:k<l.length
 .obtain⟨t,bT⟩:∃t,l[k]?=some t:=⟨_,_h aN⟩;have dU:=vD bT;have GD:=_f bT;have aT:=akO t (j t GD);exact QP
 exact UT
def mv(f:ew):Bool:=decide (0<=f.pr/\f.pr<=255)&&(decide (0<=f.a/\f.a<=65535)&&decide (0<=f.b/\f.b<=65535))
theorem alU(f:ew):Spec prog 178 [AQ f] (.v (.bool (mv f))):=by
 unfold mv;refine az {} 0 func178 fun Γ an=>ar ?_
 repeat' first|refine af ?_|refine J (cA _ _ _) ?_|refine ag ?_|refine ab ?_ ?_<;>intro h<;>try exact aa|exact al|fail
 all_goals(refine cI ?_;first|exact cc|try simp only[cE]at *)
 all_goals (refine fA ?_;first|simp_all;done|simp_all;omega)
abbrev d3(b:Bool)(i e:Int):O:=.aS [.v (.bool b),.v (.int .i64 i),.v (.int .i64 e)]
theorem aex{g:FuncId}{f:List O}(p:bN->Bool)(l:List bN)(c:Bool)(hl:l.length<=maxLen)(b8:∀t∈l,Spec prog g (.agg (bN.enc t)::f) (.v (.bool (p t)))):Spec prog 272 [.snap 10 (l.map bN.enc) c,.fn (.func g) [] f] (.v (.int .i64 (bU p l 0))):=by
 unfold maxLen at hl;refine az {} 0 func272 fun Γ an=>ar ?_
 repeat' first|refine af ?_|refine ag ?_|refine ab ?_ ?_<;>intro h<;>try exact aa|fail
 refine bS (α:=Nat) (fun k=>[(⟨.d0,.d1,.d0⟩,.v (.int .i64 (k:Nat)))]) (fun _=>[]) (fun _=>Γ.g0) (fun k=>l.length-k) (fun k=>k<=l.length/\bU p l 0=bU p (l.drop k) k) 0 ⟨_j _,rfl⟩ ?_ ?_
 .exact bs
 rintro k ⟨j,a6⟩;refine bz ?_;by_cases aN:k<l.length
 .obtain⟨t,bT⟩:∃t,l[k]?=some t:=⟨_,_h aN⟩;have dU:=h7 bN.enc l k t bT;exact xD
 exact vq
theorem ale(t:bN)(f:ew)(c:jv t=true)(g:t.wf)(j:f.wf):Spec prog 273 [ug t,.bY [.v (.int .u32 f.lU),.v (.int .u32 f.lJ),.v (.int .i64 f.pr),.v (.int .i64 f.a),.v (.int .i64 f.b)]] (.v (.bool (k5 t f))):=by
 obtain⟨⟨h1,h2⟩,-⟩:=Gg c;have m:=ahq t f g j (wa h1) (wa h2);refine az {} 0 func273 fun Γ an=>ar ?_
 repeat' first|refine af ?_|refine J m ?_|refine ag ?_|refine ab ?_ ?_<;>intro h<;>try exact aa|exact al|fail
 all_goals exact bM
def iY(l:List bN)(f:ew)(b:Bool):Bool×Int×Int:=
 if¬hF l=0 then(false,0,hF l)else if mv f=false then(false,0,1)
 else match l[(bU (fun t=>k5 t f) l 0).toNat]? with
  |some t=>if bU (fun t=>k5 t f) l 0 = -1 then(b,-1,0)else(t.ps,bU (fun t=>k5 t f) l 0,0)
  |none=>(b,-1,0)
theorem P9{l:List bN}{f:ew}{b:Bool}(c:hF l=0)(h1:mv f=true)(h2:bU (fun t=>k5 t f) l 0 = -1):iY l f b=(b,-1,0):=by
 unfold iY;rw[if_neg (not_not_intro c),if_neg (by rw[h1];exact fun q=>tG),h2];split
 .rw[if_pos rfl]
 rfl
theorem P8{l:List bN}{f:ew}{b:Bool}{i:Nat}{t:bN}(c:hF l=0)(h1:mv f=true)(h2:l[i]?=some t)(g:bU (fun t=>k5 t f) l 0=(i:Nat)):iY l f b=(t.ps,((i:Nat):Int),0):=by
 unfold iY;rw[if_neg (not_not_intro c),if_neg (by rw[h1];exact fun q=>tG),g,_a,h2];dsimp only;rw[if_neg G]
theorem adR(l:List bN)(f:ew)(c:Bool)(hl:l.length<=maxLen)(I:∀r∈l,r.wf)(O:f.wf):Spec prog 258 [.snap 10 (l.map bN.enc) false,AQ f,.v (.bool c)] (d3 (iY l f c).1 (iY l f c).2.1 (iY l f c).2.2):=by
 have j:=yw l false hl I;have m:=Gs f.a f.a;have q:=Gs f.b f.b;by_cases gf:hF l=0;rotate_left 1
 .have z:iY l f c=(false,0,hF l):=by unfold iY;rw[if_pos gf]
  rw[z];refine az {} 0 func258 fun Γ an=>ar ?_
  repeat' first|refine dv (hn an ⟨.d0,.d0,.d4⟩ rfl rfl ⟨rfl,rfl,_o _⟩) ?_|refine af ?_|refine J j ?_|refine ag ?_|refine ab ?_ ?_<;>intro h<;>try exact aa|exact al|fail
  all_goals exact bM
 rw[gf]at j;by_cases h1:mv f=true;rotate_left 1
 .have vk:mv f=false:=by simpa using h1
  have z:iY l f c=(false,0,1):=YS;rw[z];unfold mv at vk;unfold mZ at m q;refine az {} 0 func258 fun Γ an=>ar ?_
  repeat' first|refine dv (hn an ⟨.d0,.d0,.d4⟩ rfl rfl ⟨rfl,rfl,_o _⟩) ?_|refine af ?_|refine J j ?_|refine J m ?_|refine J q ?_|refine ag ?_|refine ab ?_ ?_<;>intro h<;>try exact aa|exact al|fail
  all_goals try exfalso;simp_all;omega
  all_goals exact bM
 have Q:=(F3 gf).2;have u:=aex (fun t=>k5 t f) l false hl (fun t M=>ale t f (Q t M) (I t M) O);unfold mv at h1;simp only[_g,decide_eq_true_eq]at h1;have vk:mv f=true:=by unfold mv;simp only[_g,decide_eq_true_eq];exact h1
 have U:mZ f.a f.a=true:=by unfold mZ;exact xb
 have X:mZ f.b f.b=true:=by unfold mZ;exact xb
 rw[U]at m;rw[X]at q;rcases oz (fun t=>k5 t f) l 0 with⟨g,Y⟩|⟨i,t,g,Y,ac,C⟩
 .rw[P9 gf vk g];rw[g]at u;refine az {} 0 func258 fun Γ an=>ar ?_
  repeat' first|refine dv (hn an ⟨.d0,.d0,.d4⟩ rfl rfl ⟨rfl,rfl,_o _⟩) ?_|refine af ?_|refine J j ?_|refine J m ?_|refine J q ?_|refine J u ?_|refine ag ?_|refine ab ?_ ?_<;>intro h<;>try exact aa|exact al|fail
  all_goals exact DS
 rw[_F]at C;rw[P8 gf vk g C];rw[C]at u;have Z:=vD g;have ae:=(_s.1 g).1;refine az {} 0 func258 fun Γ an=>ar ?_
 repeat' first|refine dv (hn an ⟨.d0,.d0,.d4⟩ rfl rfl ⟨rfl,rfl,_o _⟩) ?_|refine af ?_|refine J j ?_|refine J m ?_|refine J q ?_|refine J u ?_|refine ag ?_|refine ab ?_ ?_<;>intro h<;>try exact aa|simp only[_a,Z,_i]|exact al|fail
 all_goals exact DS
theorem aaK(l:List bN)(f:ew)(c:Bool)(hl:l.length<=maxLen)(z:∀r∈l,r.wf)(M:f.wf):Spec prog 129 [.snap 10 (l.map bN.enc) false,AQ f,.v (.bool c)] (d3 (iY l f c).1 (iY l f c).2.1 (iY l f c).2.2):=by
 have m:=XK l false hl z;have q:=alU f;by_cases gf:hF l=0;rotate_left 1
 .have C:iY l f c=(false,0,hF l):=by unfold iY;rw[if_pos gf]
  rw[C];refine az {} 0 func129 fun Γ an=>ar ?_
  repeat' first|refine af ?_|refine J m ?_|refine ag ?_|refine ab ?_ ?_<;>intro h<;>try exact aa|exact al|fail
  all_goals exact bM
 rw[gf]at m;by_cases h1:mv f=true;rotate_left 1
 .have vk:mv f=false:=by simpa using h1
  have C:iY l f c=(false,0,1):=YS;rw[C];rw[vk]at q;refine az {} 0 func129 fun Γ an=>ar ?_
  repeat' first|refine af ?_|refine J m ?_|refine J q ?_|refine ag ?_|refine ab ?_ ?_<;>intro h<;>try exact aa|exact al|fail
  all_goals exact DS
 rw[h1]at q;obtain⟨aj,O⟩:=F3 gf;have X:0<=f.pr/\f.pr<=255:=by
  unfold mv at h1;simp only[_g,decide_eq_true_eq]at h1;exact h1.1
 refine az {} 0 func129 fun Γ an=>ar ?_
 repeat' first|refine af ?_|refine J m ?_|refine J q ?_|refine ag ?_|refine ab ?_ ?_<;>intro h<;>try exact aa|simp only[_i]|exact al|fail
 all_goals try exfalso;simp at h;done
 refine bS (α:=Nat×Nat) (fun x=>[(⟨.d0,.d2,.d6⟩,.v (.int .i64 (x.1:Nat)))]) (fun _=>[(1,none)]) (fun x=>x.2) (fun x=>l.length-x.1) (fun x=>x.1<=l.length/\∀y∈l.take x.1,k5 y f=false) (0,Γ.g0+1) ⟨_j _,fun y bB=>r6⟩ ?_ ?_
 .exact bs
 rintro⟨k,Y⟩ ⟨Z,a6⟩;dsimp only at Z a6⊢;refine bz ?_;by_cases I:k<l.length
 .obtain⟨t,bT⟩:∃t,l[k]?=some t:=⟨_,_h I⟩;have Q:=vD bT;have g:=_f bT;obtain⟨⟨bW,dq⟩,-⟩:=Gg (O t g);have j:=afl t f (z t g) M (wa bW) (wa dq);rw[aiI (O t g) (z t g) M X]at j;cases ay:k5 t f with
  |true=>
   rw[ay]at j;have ac:bU (fun t=>k5 t f) l 0=(k:Nat):=by
    rcases oz (fun t=>k5 t f) l 0 with⟨U,u⟩|⟨i,ae,U,u,ah,ai⟩
    .rw[u t g]at ay;cases ay
    rw[ai,_F];have:i=k:=by
     rcases Nat.lt_trichotomy i k with h|h|h
     .have:=a6 ae (_f (by rw[_t h];exact U));rw[this]at u;cases u
     .exact h
     have:=ah t (_f (by rw[_t h];exact bT));rw[ay]at this;cases this
    rw[this]
   rw[P8 gf h1 bT ac];repeat' first|refine af ?_|refine J j ?_|refine ag ?_|refine ab ?_ ?_<;>intro h<;>try exact aa|simp only[_a,Q,_i]|exact al|fail
   all_goals exact bM
  |false=>
   rw[ay]at j;repeat' first|refine af ?_|refine J j ?_|refine ag ?_|refine ab ?_ ?_<;>intro h<;>try exact aa|simp only[_a,Q,_i]|exact al|fail
   refine br ⟨(k+1,Y+1),⟨I,fun y bB=>?_⟩,Nat.sub_lt_sub_left I (Nat.lt_succ_self k),?_⟩
   .exact Vf
   exact jJ
 obtain rfl:k=l.length:=G;rw[List.take_length]at a6;rw[P9 gf h1 (Md _ l 0 a6)];exact Jm
end Go.Proofs.YtdiobdlinjgakaaGreatDoor.R
