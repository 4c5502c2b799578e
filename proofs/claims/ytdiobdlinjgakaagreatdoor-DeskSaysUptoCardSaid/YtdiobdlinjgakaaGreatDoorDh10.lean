import Derived.Laws.Bits128
import Derived.Test.YtdiobdlinjgakaaGreatDoorDh09
set_option linter.unusedVariables false
set_option linter.unusedSimpArgs false
set_option maxHeartbeats 8000000
set_option maxRecDepth 100000
open Go.Proofs.Tryz
open Go.IntKind renaming u64->_a,i64->_f
open List renaming getElem?_eq_some_iff->_b,getElem?_eq_getElem->_c,pairwise_iff_getElem->_h,drop_eq_getElem_cons->_i,find?_range_eq_some->_j,range->_k,filter_eq_self->_p,mem_range->_s,any_eq_true->_v,length_map->_x,mem_take_iff_getElem->_I,find?_range_eq_none->_J,filter_eq_nil_iff->_K,mem_of_getElem?->_O,mem_iff_getElem->_P,mem_cons_of_mem->_Q,find?_eq_none->_S,filter_append->_T,getElem_drop->_W,drop_sublist->_X,length_drop->_Z,nodup_cons->_1,nil_append->_2
open Go.IntWalk renaming i64_in->_d,u64_in->_F
open Nat renaming eq_of_testBit_eq->_e,testBit_lt_two_pow->_n,pow_le_pow_right->_o,two_pow_add_eq_or_of_lt->_q,testBit_two_pow_sub_one->_r,pow_lt_pow_right->_y,testBit_two_pow->_z,zero_add->_A,testBit_eq_decide_div_mod_eq->_B,lt_or_ge->_C,le_of_lt_succ->_D,zero_testBit->_E,testBit_two_pow_mul_add->_H,pow_succ->_L,add_comm->_M,mul_one->_R,lt_of_lt_of_le->_U,eq_zero_or_pos->_V,testBit_succ->_0,two_pow_pos->_3,testBit_xor->_4,testBit_and->_5,min_eq_left->_6,div_add_mod->_7
open Int renaming toNat_natCast->_g,natCast_nonneg->_l,tmod_eq_emod_of_nonneg->_t,ofNat_le->_N
open Option.some renaming inj->_m
open Bool renaming true_and->_u,and_eq_true->_w,eq_iff_iff->_G,not_eq_true'->_Y,false_and->_8,and_false->_9
namespace Go.Proofs.YtdiobdlinjgakaaGreatDoor.A
attribute [local irreducible] bc Go
def rA(x k:Nat):Prop:=x.testBit k=true/\∀j,j<k->x.testBit j=false
theorem Yl{x k:Nat}(h:rA x k):∃c,x=2 ^ k*(2*c+1):=by
 have g:x%2 ^ k=0:=by
  refine _e fun i=>?_
  rw[Nat.testBit_mod_two_pow,_E];by_cases b:i<k
  .rw[h.2 i b,_9]
  rw[decide_eq_false b,_8]
 have h1:x/2 ^ k%2=1:=by
  have:=h.1;rw[_B]at this;exact of_decide_eq_true this
 refine⟨x/2 ^ k/2,?_⟩;have h2:=_7 x (2 ^ k);have f:x/2 ^ k=2*(x/2 ^ k/2)+1:=G;rw[<-f];omega
theorem Lo{x k:Nat}(f:x<18446744073709551616)(h:rA x k):k<64:=by
 obtain⟨c,rfl⟩:=Yl h;rcases _C k 64 with b|b
 .exact b
 have h1:2 ^ 64<=2 ^ k:=_o ae b;have h2:2 ^ k*1<=2 ^ k*(2*c+1):=Nat.mul_le_mul_left _ G;omega
theorem akz{x k:Nat}(j:x<18446744073709551616)(h:rA x k):x &&& (18446744073709551616-x)=2 ^ k:=by
 have m:=Lo j h;obtain⟨b,e⟩:=Yl h;have f:0<2 ^ k:=_3 k;have u:0<x:=by rw[e];exact Nat.mul_pos f G
 have v:18446744073709551616-x=2 ^ 64-((x-1)+1):=by rw[Nat.sub_add_cancel u]
 have z:x-1=2 ^ k*(2*b)+(2 ^ k-1):=by
  rw[e,Nat.mul_add,_R];omega
 refine _e fun i=>?_
 rw[_5,v,Nat.testBit_two_pow_sub_succ (G:x-1<2 ^ 64),z,_H _ G,_z];by_cases c:i<k
 .rw[h.2 i c,_8,decide_eq_false G]
 rw[if_neg c];by_cases g:i=k
 .subst g;rw[h.1,Nat.sub_self,decide_eq_true m];simp
 have h1:x.testBit i=(2*b+1).testBit (i-k):=by
  have:=_H (2*b+1) (b:=0) f i;rw[Nat.add_zero,<-e,if_neg c]at this;exact this
 obtain⟨s,aj⟩:∃s,i-k=s+1:=⟨i-k-1,G⟩;rw[h1,aj,_0,_0,show(2*b+1)/2=b from G,show 2*b/2=b from G,show decide (k=i)=false from decide_eq_false (fun q=>g q.symm)];cases b.testBit s<;>simp
theorem Bc{t k:Nat}(h:t.testBit k=false):t+2 ^ k=t ||| 2 ^ k:=by
 have h1:¬t/2 ^ k%2=1:=by
  rw[_B]at h;exact of_decide_eq_false h
 have c:0<2 ^ k:=_3 k;have h2:=_7 t (2 ^ k);have f:t/2 ^ k=2*(t/2 ^ k/2):=G;have b:t%2 ^ k<2 ^ k:=Nat.mod_lt _ c;have e:t=2 ^ (k+1)*(t/2 ^ k/2)+t%2 ^ k:=by
  rw[_L,Nat.mul_assoc,<-f];exact h2.symm
 generalize t/2 ^ k/2=q at e;generalize t%2 ^ k=r at e b;have g:r<2 ^ (k+1):=by rw[_L];omega
 have j:2 ^ k+r<2 ^ (k+1):=by rw[_L];omega
 rw[e,Nat.add_assoc,_M r,_q j,_q g];have:=_q b 1;rw[_R]at this;rw[this,Nat.or_assoc,Nat.or_comm (2 ^ k) r]
theorem Dt{t k:Nat}(b:t<18446744073709551616)(c:k<64)(h:t.testBit k=false):t+2 ^ k<18446744073709551616:=by
 rw[Bc h];exact Nat.or_lt_two_pow (n:=64) b (_y ae c)
theorem ajI:∀k:Fin 64,I7[2 ^ k.val*285870213051353865%18446744073709551616/2 ^ 58]?=some k.val/\2 ^ k.val*285870213051353865%18446744073709551616/2 ^ 58<64:=n7
theorem akg:uH rS 7=some xf:=rfl
theorem aip{l:List O}{i:Nat}{d:O}(h:l[i]?=some d):∃r,fT l i=d::r:=by
 rw[oc];have b:i<l.length:=(_b.1 h).1;exact⟨l.drop (i+1),by rw[_i b,show l[i]=d from _m ((_c b).symm.trans h)]⟩
theorem UZ(n:Int):_a.wrap n=n%18446744073709551616:=by simp[IntKind.wrap,IntKind.signed,IntKind.bits]
theorem afg(x k:Nat)(c:x<18446744073709551616)(h:rA x k):∃(M f g b:Int),_a.wrap (0-(x:Int))=M/\bits .and .u64 (x:Int) M=f/\_a.wrap (f*285870213051353865)=g/\g.fdiv (2 ^ (min 58 _a.bits))=b/\0<=b/\b<64/\(fs xf)[b.toNat]?=some (.v (.int .u8 (k:Int))):=by
 have q:=Lo c h;have z:0<x:=by
  rcases _V x with e|e
  .subst e;simp[rA]at h
  exact e
 obtain⟨j,m⟩:=ajI ⟨k,q⟩;dsimp only at j m;have u:_a.wrap (0-(x:Int))=((18446744073709551616-x:Nat):Int):=by rw[UZ];omega
 refine⟨((18446744073709551616-x:Nat):Int),((2 ^ k:Nat):Int),((2 ^ k*285870213051353865%18446744073709551616:Nat):Int),((2 ^ k*285870213051353865%18446744073709551616/2 ^ 58:Nat):Int),u,(Go.u64_and_nat x _ c G).trans (by rw[akz c h]),?_,?_,_l _,Int.ofNat_lt.2 m,?_⟩
 .generalize 2 ^ k=p;rw[UZ];omega
 .rw[show((2:Int) ^ (min 58 _a.bits))=((2 ^ 58:Nat):Int)from rfl,Int.fdiv_eq_ediv_of_nonneg _ (_l _),Int.natCast_ediv]
 rw[_g,uW];unfold xf;rw[List.getElem?_map,j];rfl
theorem Gd(x k:Nat)(b:x<18446744073709551616)(h:rA x k):Spec prog 242 [.v (.int .u64 (x:Int))] (.v (.int .i64 (k:Nat))):=by
 have I:=Lo b h;have J:¬(x:Int)=0:=fun e=>by
  obtain rfl:x=0:=G;simp[rA]at h
 obtain⟨M,O,Q,U,f,g,j,m,X,Y,c⟩:=afg x k b h;obtain⟨r,q⟩:=aip c;have u:=akg;have z:xf.all t_=true:=by rfl
 have C:_f.wrap (k:Int)=(k:Int):=_d _ G;generalize (x:Int)=Z at *;generalize xf=L at *;clear c;refine az {} 0 func242 fun Γ an=>ar ?_
 repeat' first|refine af ?_|simp only[f,g,j,m,C]|refine ag ?_|refine ab ?_ ?_<;>intro h<;>try exact aa|simp only[u]|refine aK z ?_|simp only[_g,_R,q]|exact al|fail
 all_goals exact bM
def hY(t k:Nat):Bool:=!t.testBit k
def nX(b:Int)(k:Nat):Bool:=decide ((k:Int)%2=b%2)
def hb(t:Nat)(b:Int):Nat:=
 match(_k 64).find? (fun k=>decide (hY t k=true/\nX b k=true))with
 |some k=>k
 |none=>match(_k 64).find? (hY t)with
  |some k=>k
  |none=>0
def dO(b:Int)(t:Nat)(c:Int):Nat:=if dx b t c=false/\b<=c/\c<=b+63 then(c-b).toNat else hb t c
def hR(b:Int)(t:Nat)(c:Int):Int:=if dG b then(if 0<=c/\c<=65535 then(if t=18446744073709551615 then 6 else 0)else 1)else 1
theorem Xq{t:Nat}(c:t<18446744073709551616):t=18446744073709551615↔∀k,k<64->t.testBit k=true:=by
 constructor
 .rintro rfl k b;have:=_r 64 k;rw[show(18446744073709551615:Nat)=2 ^ 64-1 from rfl,this,decide_eq_true b]
 intro h;refine _e fun k=>?_
 rw[show(18446744073709551615:Nat)=2 ^ 64-1 from rfl,_r];rcases _C k 64 with b|b
 .rw[h k b,decide_eq_true b]
 rw[_n (_U c (_o (n:=2) ae b)),decide_eq_false G]
theorem Me{t:Nat}(c:t<18446744073709551616)(h:¬t=18446744073709551615):∃k,k<64/\(_k 64).find? (hY t)=some k/\hY t k=true:=by
 cases b:(_k 64).find? (hY t)with
 |some k=>
  obtain⟨h1,h2,_⟩:=_j.1 b;exact⟨k,_s.1 h2,rfl,h1⟩
 |none=>
  refine absurd ((Xq c).2 fun k f=>?_) h;have:=_J.1 b k f;simpa[hY]using this
theorem acH{t:Nat}(f:t<18446744073709551616)(h:¬t=18446744073709551615)(c:Int):hb t c<64/\t.testBit (hb t c)=false:=by
 unfold hb;split
 .rename_i k g;obtain⟨h1,h2,_⟩:=_j.1 g;have b:=(of_decide_eq_true h1).1;exact⟨_s.1 h2,by simpa[hY]using b⟩
 obtain⟨k,h1,h2,b⟩:=Me f h;rw[h2];exact⟨h1,by simpa[hY]using b⟩
theorem sD{b:Int}{t:Nat}(f:t<18446744073709551616)(h:¬t=18446744073709551615)(c:Int):dO b t c<64/\t.testBit (dO b t c)=false:=by
 unfold dO;split
 .rename_i g;obtain⟨h1,h2,j⟩:=g;unfold dx at h1;rw[decide_eq_true ⟨h2,j⟩,_u]at h1;exact⟨G,h1⟩
 exact acH f h c
def me(t:Nat):Nat:=18446744073709551615 ^^^ t
theorem yE{t:Nat}(b:t<18446744073709551616):me t<18446744073709551616:=Nat.xor_lt_two_pow (n:=64) ae b
theorem AU{t:Nat}(c:t<18446744073709551616){k:Nat}(b:k<64):(me t).testBit k=hY t k:=by
 unfold me hY;rw[_4,show(18446744073709551615:Nat)=2 ^ 64-1 from rfl,_r,decide_eq_true b,Bool.true_xor]
def nJ(w:Nat):Nat:=if w=0 then 6148914691236517205 else 12297829382473034410
theorem ajA:∀k:Fin 64,(nJ 0).testBit k.val=decide (k.val%2=0)/\(nJ 1).testBit k.val=decide (k.val%2=1):=n7
theorem IM(w:Nat):nJ w<18446744073709551616:=by unfold nJ;split<;>decide
def lL(t w:Nat):Nat:=me t &&& nJ w
theorem JV{t w:Nat}(b:t<18446744073709551616):lL t w<18446744073709551616:=Nat.and_lt_two_pow (n:=64) _ (IM w)
theorem Ug{t w:Nat}(c:w=0\/w=1)(f:t<18446744073709551616){k:Nat}(b:k<64):(lL t w).testBit k=decide (hY t k=true/\k%2=w):=by
 unfold lL;rw[_5,AU f b];have:=ajA ⟨k,b⟩;rcases c with rfl|rfl
 .rw[this.1];cases hY t k<;>simp
 rw[this.2];cases hY t k<;>simp
theorem ZQ{t:Nat}(f:t<18446744073709551616)(h:¬t=18446744073709551615){c:Int}{w:Nat}(v:w=0\/w=1)(I:c%2=(w:Int)):
 (lL t w=0/\rA (me t) (hb t c))\/(¬lL t w=0/\rA (lL t w) (hb t c)):=by
 have x:∀k,nX c k=decide (k%2=w):=fun k=>by
  unfold nX;rw[I];exact decide_eq_decide.2 G
 unfold hb;cases z:(_k 64).find? (fun k=>decide (hY t k=true/\nX c k=true))with
 |some k=>
  obtain⟨h1,h2,g⟩:=_j.1 z;have C:=_s.1 h2;have m:∀j,j<64->(lL t w).testBit j=decide (hY t j=true/\nX c j=true):=fun j b=>by
   rw[Ug v f b];exact decide_eq_decide.2 (by rw[x j];simp)
  refine .inr ⟨fun e=>?_,by rw[m k C];exact h1,fun j b=>?_⟩
  .have:=m k C;rw[e,_E]at this;rw[<-this]at h1;exact absurd h1 ae
  have u:j<k:=b;have:=g j u;rw[m j G];generalize decide (hY t j=true/\nX c j=true)=q at *;cases q<;>simp_all
 |none=>
  have J:=_J.1 z;refine .inl ⟨?_,?_⟩
  .refine _e fun j=>?_
   rw[_E];rcases _C j 64 with b|b
   .rw[Ug v f b];have:=J j b;rw[x j,_Y,decide_eq_false_iff_not,decide_eq_true_eq]at this;exact decide_eq_false this
   exact _n (_U (JV f) (_o (n:=2) ae b))
  obtain⟨k,h1,h2,g⟩:=Me f h;rw[h2];obtain⟨_,_,M⟩:=_j.1 h2;refine⟨by rw[AU f h1];exact g,fun j b=>?_⟩;have u:j<k:=b;have:=M j u;rw[AU f G];exact oe
theorem adv(n:Int):bits .and .i64 n 1=n%2:=by
 have h1:(BitVec.ofInt 64 1).toNat=2 ^ 1-1:=ae;have b:(BitVec.ofInt 64 n &&& BitVec.ofInt 64 1).toNat=(n%((2 ^ 64:Nat):Int)).toNat%2 ^ 1:=by rw[BitVec.toNat_and,BitVec.toNat_ofInt,h1,Nat.and_two_pow_sub_one_eq_mod]
 show _f.wrap ((BitVec.ofInt 64 n &&& BitVec.ofInt 64 1).toNat:Nat)=n%2;rw[b,IntKind.wrap_i64];omega
theorem QA{S:Nat}(c:S<18446744073709551616){r:Int}(j:0<=r)(h1:r<64):bits .or .u64 (S:Int) (_a.wrap (1*2 ^ (min r.toNat _a.bits)))=((S ||| 2 ^ r.toNat:Nat):Int):=by
 have f:min r.toNat _a.bits=r.toNat:=_6 LP;have h2:((2:Int) ^ r.toNat)=((2 ^ r.toNat:Nat):Int):=aF;have g:2 ^ r.toNat<2 ^ 64:=_y ae G;have b:2 ^ r.toNat<18446744073709551616:=g;rw[f,Int.one_mul,h2,_F _ ⟨_l _,_N.2 (_D b)⟩];exact u64_or_nat S (2 ^ r.toNat) c b
theorem Lr{S k:Nat}(c:S<18446744073709551616)(b:k<64)(f:S.testBit k=false):_a.wrap ((S:Int)+_a.wrap (1*2 ^ (min k _a.bits)))=((S+2 ^ k:Nat):Int):=by
 have g:min k _a.bits=k:=_6 (by show k<=64;omega);have h2:((2:Int) ^ k)=((2 ^ k:Nat):Int):=aF;have j:2 ^ k<2 ^ 64:=_y ae b;have m:2 ^ k<18446744073709551616:=j;have q:=Dt c b f;rw[g,Int.one_mul,h2,_F _ ⟨_l _,_N.2 (_D m)⟩,<-Int.natCast_add,_F _ ⟨_l _,_N.2 (_D q)⟩]
abbrev iF(b:Int)(t:Nat)(p e:Int):O:=.aS [.agg [.v (.int .i64 b),.v (.int .u64 (t:Int))],.v (.int .i64 p),.v (.int .i64 e)]
theorem Yb(b:Int)(t:Nat)(f:Int)(c:¬hR b t f=0):Spec prog 278 [.agg [.v (.int .i64 b),.v (.int .u64 (t:Int))],.v (.int .i64 f)] (iF 0 0 0 (hR b t f)):=by
 have h1:=rG b t;unfold hR at c⊢;unfold gj at h1;cases g:dG b with
 |false=>
  rw[g]at h1;rw[if_neg ae]at h1⊢;exact Lv
 |true=>
  rw[g]at h1 c;rw[if_pos rfl]at h1 c⊢;by_cases j:0<=f/\f<=65535
  .rw[if_pos j]at c⊢;by_cases m:t=18446744073709551615
   .rw[if_pos m];have q:(t:Int)=18446744073709551615:=G;clear c;generalize (t:Int)=T at *;exact Lv
   rw[if_neg m]at c;exact absurd rfl c
  rw[if_neg j];exact Lv
theorem sH{b:Int}{t:Nat}{want:Int}(h:hR b t want=0):dG b=true/\(0<=want/\want<=65535)/\¬t=18446744073709551615:=by
 unfold hR at h;split at h
 .rename_i h1;split at h
  .rename_i h2;split at h
   .exact absurd h ae
   rename_i c;exact⟨h1,h2,c⟩
  exact absurd h ae
 exact absurd h ae
theorem ji{b:Int}(h:dG b=true):(64<=b/\b<=65472)/\b%64=0:=by
 unfold dG at h;have:=of_decide_eq_true h;rw[_t G]at this;omega
theorem Bd:_a.signed=false:=rfl
theorem VZ(t:Nat)(b:t<18446744073709551616):bits .xor .u64 _a.max (t:Int)=(me t:Int):=Go.u64_xor_nat 18446744073709551615 t ae b
theorem VV(b:Int)(t:Nat)(c:Int)(f:t<18446744073709551616)(z:hR b t c=0)(j:dx b t c=false/\b<=c/\c<=b+63):Spec prog 278 [.agg [.v (.int .i64 b),.v (.int .u64 (t:Int))],.v (.int .i64 c)] (iF b (t+2 ^ dO b t c) (b+dO b t c) 0):=by
 obtain⟨m,Z,C⟩:=sH z;obtain⟨ac,ae⟩:=ji m;have h1:=rG b t;unfold gj at h1;rw[if_pos m]at h1;have g:=sD (b:=b) f C c;have I:dO b t c=(c-b).toNat:=by unfold dO;rw[if_pos j]
 rw[I]at g⊢;unfold iF;obtain⟨ah,ai,c3⟩:=j;have aj:¬(t:Int)=18446744073709551615:=G;have q:=Kj (yE f) (r:=c-b) G G;rw[AU f g.1,if_pos (by unfold hY;rw[g.2];rfl)]at q;have M:=VZ t f;have O:_f.wrap (c-b)=c-b:=_d _ G;have u:=QA f (r:=c-b) G G;rw[<-Bc g.2]at u;have Q:_f.wrap (b+(c-b))=b+((c-b).toNat:Nat):=(_d _ G).trans G;have U:True:=trivial;have X:True:=trivial;have Y:True:=trivial;have h2:=h1;generalize ((me t:Nat):Int)=F at *;generalize ((t+2 ^ (c-b).toNat:Nat):Int)=ak at *;generalize (t:Int)=T at *;refine az {} 0 func278 fun Γ an=>ar ?_
 repeat' first|refine af ?_|refine J h1 ?_|refine J h2 ?_|simp only[Bd]|simp only[M,O,U,X,Y,u,Q,q]|refine ag ?_|refine ab ?_ ?_<;>intro h<;>try exact aa|simp only[_g]|exact al|fail
 all_goals exact tB
theorem ajl:_a.wrap (6148914691236517205*2 ^ (min 0 _a.bits))=((nJ 0:Nat):Int):=n7
theorem agM:_a.wrap (6148914691236517205*2 ^ (min 1 _a.bits))=((nJ 1:Nat):Int):=n7
theorem Sg{n:Nat}(h:¬n=0):¬(n:Int)=0:=G
theorem T4(b:Int)(t:Nat)(b7:Int)(bT:t<18446744073709551616)(q:hR b t b7=0)(g:¬(dx b t b7=false/\b<=b7/\b7<=b+63)):Spec prog 278 [.agg [.v (.int .i64 b),.v (.int .u64 (t:Int))],.v (.int .i64 b7)] (iF b (t+2 ^ dO b t b7) (b+dO b t b7) 0):=by
 obtain⟨j,z,lN⟩:=sH q;obtain⟨C,I⟩:=ji j;have h1:=rG b t;unfold gj at h1;rw[if_pos j]at h1;have m:=sD (b:=b) bT lN b7;have u:dO b t b7=hb t b7:=by unfold dO;rw[if_neg g]
 rw[u]at m⊢;unfold iF;have O:¬(t:Int)=18446744073709551615:=G;have Bo:b<=b7/\b7<=b+63->bits .and .u64 (((me t:Nat):Int).fdiv (2 ^ (min (b7-b).toNat _a.bits))) 1=0:=fun c=>by
  have aj:=Kj (yE bT) (r:=b7-b) G G;rw[AU bT G]at aj;have f:dx b t b7=true:=by
   cases ay:dx b t b7 with
   |true=>rfl
   |false=>exact absurd ⟨ay,c⟩ g
  unfold dx at f;rw[decide_eq_true c,_u]at f;rw[aj,if_neg (by unfold hY;rw[f];decide)]
 have sB:=VZ t bT;have GS:_f.wrap (b7-b)=b7-b:=_d _ G;have sT:=QA bT (r:=((hb t b7:Nat):Int)) G G;rw[_g,<-Bc m.2]at sT;have FW:_f.wrap (b+(hb t b7:Nat))=b+(hb t b7:Nat):=_d _ G;by_cases c:b<=b7/\b7<=b+63
 .have Bz:=Bo c;exact V0
 have Bz:True:=trivial;exact V0
theorem YG{g:FuncId}{caps:List O}(p:Int->Bool)(l:List Int)(c:Bool)(hl:l.length<=maxLen)(b8:∀t∈l,Spec prog g (.v (.int .i64 t)::caps) (.v (.bool (p t)))):Spec prog 229 [.snap 1 (l.map fx) c,.fn (.func g) [] caps] (.v (.int .i64 (bU p l 0))):=by exact YR
theorem VD(n want:Int):Spec prog 240 [.v (.int .i64 n),.bY [.v (.int .i64 want)]] (.v (.bool (decide (n.tmod 2=want.tmod 2)))):=by
 refine az {} 0 func240 fun Γ an=>ar ?_
 exact Ma
theorem H0{α:Type}(p:α->Bool)(l:List α):(bU p l 0 = -1/\l.find? p=none)\/∃(i:Nat)(t:α),l[i]?=some t/\bU p l 0=(i:Int)/\l.find? p=some t:=by
 rcases oz p l 0 with⟨h1,h2⟩|⟨i,t,h1,h2,f,g⟩
 .exact .inl ⟨h1,_S.2 (fun x b=>by simp[h2 x b])⟩
 refine .inr ⟨i,t,h1,by rw[g];simp,?_⟩;have c:i<l.length:=(_b.1 h1).1;have e:l=l.take i++t::l.drop (i+1):=by
  have:l.drop i=t::l.drop (i+1):=by rw[_i c,show l[i]=t from _m ((_c c).symm.trans h1)]
  exact L1
 rw[e,List.find?_append,_S.2 (fun x b=>by simp[f x b])];simp[h2]
theorem ab0(b:Int)(t:Nat)(p:Int->Bool):(dA b t 64).find? p=((_k 64).find? (fun k=>decide (hY t k=true/\p (b+(k:Int))=true))).map (fun(k:Nat)=>b+(k:Int)):=by
 unfold dA;rw[List.find?_map,List.find?_filter];rfl
theorem acR(b:Int)(t:Nat):(dA b t 64)[0]?=((_k 64).find? (hY t)).map (fun(k:Nat)=>b+(k:Int)):=by
 unfold dA;rw[<-List.head?_eq_getElem?,List.head?_map,List.head?_filter];rfl
theorem ag6{b c:Int}(f:b%64=0)(h1:64<=b)(h2:0<=c)(k:Nat):decide ((b+(k:Int)).tmod 2=c.tmod 2)=nX c k:=by
 unfold nX;refine decide_eq_decide.2 ?_;rw[_t G,_t h2];omega
abbrev tc(want:Int):Int->Bool:=fun n=>decide (n.tmod 2=want.tmod 2)
theorem YJ{b:Int}{t:Nat}{want:Int}(u:t<18446744073709551616)(v:dG b=true)(z:0<=want)(C:¬t=18446744073709551615):
 ∃f:Nat,f<64/\(dA b t 64)[0]?=some (b+(f:Int))/\((bU (tc want) (dA b t 64) 0 = -1/\hb t want=f)\/∃i:Nat,bU (tc want) (dA b t 64) 0=(i:Int)/\(dA b t 64)[i]?=some (b+(hb t want:Nat))):=by
 obtain⟨G,I⟩:=ji v;obtain⟨f,J,q,Q⟩:=Me u C;refine⟨f,J,by rw[acR,q];rfl,?_⟩;have c:=ab0 b t (tc want);have M:(fun k:Nat=>decide (hY t k=true/\tc want (b+(k:Int))=true))=fun k=>decide (hY t k=true/\nX want k=true):=by
  funext k;rw[show tc want (b+(k:Int))=nX want k from ag6 I G.1 z k]
 rw[M]at c;rcases H0 (tc want) (dA b t 64)with⟨j,m⟩|⟨i,x,j,m,O⟩
 .refine .inl ⟨j,?_⟩;rw[m]at c;unfold hb;cases g:(_k 64).find? (fun k=>decide (hY t k=true/\nX want k=true))with
  |some k=>rw[g]at c;cases c
  |none=>rw[q]
 refine .inr ⟨i,m,?_⟩;rw[O]at c;unfold hb;cases g:(_k 64).find? (fun k=>decide (hY t k=true/\nX want k=true))with
 |none=>rw[g]at c;cases c
 |some k=>
  rw[g]at c;rw[j,_m c]
theorem aey{b:Int}{t:Nat}(c:t<18446744073709551616)(h:t=18446744073709551615):dA b t 64=[]:=by
 unfold dA;rw[_K.2 (fun k f=>by rw[(Xq c).1 h k (_s.1 f)];decide)];rfl
theorem YL(b:Int)(t:Nat)(f:Int)(q:t<18446744073709551616)(c:¬hR b t f=0):Spec prog 185 [.agg [.v (.int .i64 b),.v (.int .u64 (t:Int))],.v (.int .i64 f)] (iF 0 0 0 (hR b t f)):=by
 have h1:=uN b t;have h2:=cA f 0 65535;unfold hR at c⊢;unfold gj at h1;cases j:dG b with
 |false=>
  rw[j]at h1;rw[if_neg ae]at h1⊢;have bI:=h1;have fa:True:=trivial;exact Mi
 |true=>
  rw[j]at h1 c;rw[if_pos rfl]at h1 c⊢;have bI:=Fm b t (ji j).1 q;have fa:((dA b t 64).map fx).length=(dA b t 64).length:=_x _;by_cases g:0<=f/\f<=65535
  .rw[if_pos g]at c⊢;rw[decide_eq_true g]at h2;by_cases m:t=18446744073709551615
   .rw[if_pos m];clear c;have u:(dA b t 64).length=0:=by rw[aey q m];rfl
    generalize dA b t 64=L at *;generalize (t:Int)=T at *;exact Mi
   rw[if_neg m]at c;exact absurd rfl c
  rw[if_neg g];rw[decide_eq_false g]at h2;exact Mi
theorem UD(b:Int)(t:Nat)(b7:Int)(f:t<18446744073709551616)(I:hR b t b7=0)(q:dx b t b7=false/\b<=b7/\b7<=b+63):Spec prog 185 [.agg [.v (.int .i64 b),.v (.int .u64 (t:Int))],.v (.int .i64 b7)] (iF b (t+2 ^ dO b t b7) (b+dO b t b7) 0):=by
 obtain⟨g,u,z⟩:=sH I;obtain⟨M,X⟩:=ji g;have h1:=uN b t;unfold gj at h1;rw[if_pos g]at h1;have h2:=cA b7 0 65535;rw[decide_eq_true u]at h2;have bI:=Fm b t M f;have Y:=EM b t 64;have fr:=A7 (dA b t 64) b7 false fg;have vp:=YG (g:=240) (caps:=[.bY [.v (.int .i64 b7)]]) (tc b7) (dA b t 64) false fg (fun n _=>VD n b7);have fa:((dA b t 64).map fx).length=(dA b t 64).length:=_x _;obtain⟨Z,ac,C,O⟩:=YJ (want:=b7) f g u.1 z;have ae:0<(dA b t 64).length:=(_b.1 C).1;have K4:=uM C;have c:=sD (b:=b) f z b7;have Q:dO b t b7=(b7-b).toNat:=by unfold dO;rw[if_pos q]
 rw[Q]at c⊢;obtain⟨ah,ai,c3⟩:=q;rw[show b+(((b7-b).toNat:Nat):Int)=b7 from G];have U:(dA b t 64).any (fun x:Int=>decide (b7=x))=true:=by
  have:=WC (b:=b) (t:=t) c.1;rw[show b+(((b7-b).toNat:Nat):Int)=b7 from G,c.2]at this;exact this
 rw[U]at fr;unfold iF;have X_:_f.wrap (b7-b)=b7-b:=_d _ G;have Yn:=Lr f c.1 c.2;rcases O with⟨j,m⟩|⟨i,j,m⟩
 .rw[j]at vp;have Gb:True:=trivial;exact TE
 rw[j]at vp;have Gb:=uM m;have aj:i<(dA b t 64).length:=(_b.1 m).1;exact TE
theorem Vw(b:Int)(t:Nat)(b7:Int)(c:t<18446744073709551616)(M:hR b t b7=0)(q:¬(dx b t b7=false/\b<=b7/\b7<=b+63)):Spec prog 185 [.agg [.v (.int .i64 b),.v (.int .u64 (t:Int))],.v (.int .i64 b7)] (iF b (t+2 ^ dO b t b7) (b+dO b t b7) 0):=by
 obtain⟨g,u,z⟩:=sH M;obtain⟨O,ae⟩:=ji g;have h1:=uN b t;unfold gj at h1;rw[if_pos g]at h1;have h2:=cA b7 0 65535;rw[decide_eq_true u]at h2;have bI:=Fm b t O c;have ah:=EM b t 64;have fr:=A7 (dA b t 64) b7 false fg;have vp:=YG (g:=240) (caps:=[.bY [.v (.int .i64 b7)]]) (tc b7) (dA b t 64) false fg (fun n _=>VD n b7);have fa:((dA b t 64).map fx).length=(dA b t 64).length:=_x _;obtain⟨ai,aj,C,Q⟩:=YJ (want:=b7) c g u.1 z;have ak:0<(dA b t 64).length:=(_b.1 C).1;have K4:=uM C;have j:=sD (b:=b) c z b7;have U:dO b t b7=hb t b7:=by unfold dO;rw[if_neg q]
 rw[U]at j⊢;have X:(dA b t 64).any (fun x:Int=>decide (b7=x))=false:=by
  rw[List.any_eq_false];intro x I;unfold dA at I;obtain⟨k,Y,rfl⟩:=List.mem_map.1 I;obtain⟨Z,ac⟩:=List.mem_filter.1 Y;have am:=_s.1 Z;simp only[decide_eq_true_eq];intro e;refine q ⟨?_,G,G⟩;unfold dx;rw[show(b7-b).toNat=k from G,show t.testBit k=false by simpa using ac,_9]
 rw[X]at fr;unfold iF;have X_:_f.wrap (b+(hb t b7:Nat)-b)=(hb t b7:Nat):=(_d _ G).trans G;have Yn:=Lr c j.1 j.2;rcases Q with⟨m,f⟩|⟨i,m,f⟩
 .rw[m]at vp;rw[<-f]at K4;have Gb:True:=trivial;exact XA
 rw[m]at vp;have Gb:=uM f;have ao:i<(dA b t 64).length:=(_b.1 f).1;exact XA
end Go.Proofs.YtdiobdlinjgakaaGreatDoor.A
namespace Go.Proofs.YtdiobdlinjgakaaGreatDoor.A
def kB(b pr:Int)(c:Mp):Nat:=if c.pr=pr then 2 ^ (c.ou-b).toNat else 0
def aQ(b pr:Int):List Mp->Nat
 |[]=>0
 |m::r=>kB b pr m+aQ b pr r
theorem uu(b pr:Int):∀(l r:List Mp),aQ b pr (l++r)=aQ b pr l+aQ b pr r
 |[],r=>by simp[aQ]
 |m::l,r=>by simp only[List.cons_append,aQ,uu b pr l r];omega
def gw(b pr:Int)(ms:List Mp):Prop:=∀c∈ms,c.pr=pr->b<=c.ou/\c.ou<=b+63
theorem l9(b pr:Int):∀(ms:List Mp),gw b pr ms->(ms.map dd).Nodup->aQ b pr ms<18446744073709551616/\∀j,(aQ b pr ms).testBit j=ms.any (fun m=>decide (m.pr=pr/\(m.ou-b).toNat=j))
 |[],_,_=>⟨by simp[aQ],fun j=>by simp[aQ]⟩
 |m::r,aT,bd=>by
  simp only[List.map_cons,_1]at bd;obtain⟨h1,h2⟩:=l9 b pr r (fun y bB=>aT y (_Q _ bB)) bd.2;by_cases a6:m.pr=pr
  .obtain⟨aw,aY⟩:=aT m aF a6;have c:(aQ b pr r).testBit (m.ou-b).toNat=false:=by exact ZZ
   have e:aQ b pr (m::r)=aQ b pr r+2 ^ (m.ou-b).toNat:=by
    simp only[aQ,kB];rw[if_pos a6,_M]
   rw[e];refine⟨Dt h1 G c,fun j=>?_⟩;rw[Bc c,Nat.testBit_or,h2,_z,List.any_cons,Bool.or_comm];congr 1
   simp[a6]
  have e:aQ b pr (m::r)=aQ b pr r:=by
   simp only[aQ,kB];rw[if_neg a6,_A]
  rw[e];exact⟨h1,fun j=>by rw[h2,List.any_cons];simp[a6]⟩
theorem Oa{b pr:Int}{ms:List Mp}(g:gw b pr ms)(j:(ms.map dd).Nodup)(o:Int)(m:b<=o/\o<=b+63):dx b (aQ b pr ms) o=gR pr ms o:=by
 unfold dx gR;rw[decide_eq_true m,_u,(l9 b pr ms g j).2,_G,_v,_v];constructor
 .rintro⟨c,f,h⟩;have h:=of_decide_eq_true h;have:=g c f h.1;exact⟨c,f,decide_eq_true ⟨h.1,G⟩⟩
 rintro⟨c,f,h⟩;have h:=of_decide_eq_true h;exact⟨c,f,decide_eq_true ⟨h.1,by rw[h.2]⟩⟩
theorem Tq{b pr:Int}{t:Nat}{ms:List Mp}(m:t<18446744073709551616)(c:gw b pr ms)(f:(ms.map dd).Nodup)(h:∀o,dx b t o=gR pr ms o):t=aQ b pr ms:=by
 obtain⟨h1,h2⟩:=l9 b pr ms c f;refine _e fun j=>?_
 rcases _C j 64 with g|g
 .have e:=h (b+(j:Int));rw[<-Oa c f _ G]at e;unfold dx at e;rw[decide_eq_true G,_u,_u,show(b+(j:Int)-b).toNat=j from G]at e;exact e
 have q:18446744073709551616<=2 ^ j:=_o (n:=2) ae g;rw[_n G,_n G]
structure kE (ah ai:Int) (ms:List Mp):Prop where
 pr:∀m∈ms,m.pr=17\/m.pr=6
 tm:∀m∈ms,0<=m.tm/\m.tm<=1099511627776
 aw:gw ah 17 ms
 aY:gw ai 6 ms
 ir:ms.Pairwise (fun o m=>mR o m=false)
theorem kE.sub{ah ai:Int}{ms l:List Mp}(h:kE ah ai ms)(aj:l.Sublist ms):kE ah ai l:=
 ⟨fun b c=>h.pr b (aj.subset c),fun b c=>h.tm b (aj.subset c),fun b c=>h.aw b (aj.subset c),fun b c=>h.aY b (aj.subset c),h.ir.sublist aj⟩
theorem kE.ka{ah ai:Int}{ms:List Mp}(h:kE ah ai ms):(ms.map dd).Nodup:=by
 rw[List.nodup_iff_pairwise_ne,List.pairwise_map];refine h.ir.imp ?_;intro o c b e;simp only[dd,Prod.mk.injEq]at e;unfold mR at b;rw[decide_eq_false_iff_not]at b;exact b (.inr ⟨e.1,.inl e.2⟩)
theorem ai0{ms:List Mp}(h:eb jM [] ms=true):ms.Pairwise (fun o b=>mR o b=false):=by
 rw[_h];intro i j f c g;have:=A9 h (_c c);unfold jM at this;simp only[_w,List.all_eq_true,_Y]at this;refine this.2 _ ?_;rw[_2,_I];exact⟨i,G,rfl⟩
theorem oU{l ah:Int}{t1:Nat}{ai:Int}{t2:Nat}{ms:List Mp}(h1:t1<18446744073709551616)(h2:t2<18446744073709551616)(h:dQ l ah t1 ai t2 ms=0):(1<=l/\l<=1000000)/\(dG ah=true/\dG ai=true)/\kE ah ai ms/\t1=aQ ah 17 ms/\t2=aQ ai 6 ms:=by
 unfold dQ at h;split at h
 .rename_i m;split at h
  .rename_i q;simp only[_w,decide_eq_true_eq]at m;refine⟨m.1,m.2,?_⟩;have u:=q;rw[Fb ah ai ms [] t1 t2 0 h1 h2]at u;obtain⟨_,v,g⟩:=u;rw[<-G8 ah ai t1 t2 ms h1 h2,_w]at q;have x:=q.1;have z:∀c∈ms,(c.pr=17\/c.pr=6)/\(0<=c.tm/\c.tm<=1099511627776):=fun c f=>by
    obtain⟨j,J⟩:=List.mem_iff_getElem?.1 f;have:=A9 x J;unfold jM at this;simp only[_w,decide_eq_true_eq]at this;exact⟨this.1.1.1,this.1.2⟩
   have C:∀o,dx ah t1 o=gR 17 ms o:=fun o=>by
    rw[_G,<-xg,<-g (17,o)];simp[pa]
   have G:∀o,dx ai t2 o=gR 6 ms o:=fun o=>by
    rw[_G,<-xg,<-g (6,o)];simp[pa]
   have I:∀(b pr:Int)(t:Nat),(∀o,dx b t o=gR pr ms o)->gw b pr ms:=fun b pr t g c f M=>by
    have:gR pr ms c.ou=true:=_v.2 ⟨c,f,by simp[M]⟩;rw[<-g]at this;exact⟨(GG this).1,(GG this).2.1⟩
   have aw:=I ah 17 t1 C;have aY:=I ai 6 t2 G;exact⟨⟨fun c f=>(z c f).1,fun c f=>(z c f).2,aw,aY,ai0 x⟩,Tq h1 aw v C,Tq h2 aY v G⟩
  omega
 omega
theorem RV{b pr:Int}{c:Mp}{r:List Mp}(aT:gw b pr (c::r))(bd:((c::r).map dd).Nodup)(a6:c.pr=pr):dx b (aQ b pr (c::r)) c.ou=true/\lC b (aQ b pr (c::r)) c.ou=aQ b pr r:=by
 obtain⟨aw,aY⟩:=aT c aF a6;have j:=bd;simp only[List.map_cons,_1]at bd;obtain⟨h1,h2⟩:=l9 b pr r (fun y bB=>aT y (_Q _ bB)) bd.2;have f:(aQ b pr r).testBit (c.ou-b).toNat=false:=by exact ZZ
 have e:aQ b pr (c::r)=aQ b pr r ||| 2 ^ (c.ou-b).toNat:=by
  simp only[aQ,kB];rw[if_pos a6,_M,Bc f]
 refine⟨?_,?_⟩
 .rw[Oa aT j _ ⟨aw,aY⟩];exact _v.2 ⟨c,aF,by simp[a6]⟩
 unfold lC;rw[e];refine _e fun i=>?_
 rw[_4,Nat.testBit_or,_z];by_cases g:(c.ou-b).toNat=i
 .rw[<-g,f,decide_eq_true rfl];rfl
 rw[decide_eq_false g];simp
theorem aan{b pr:Int}{c:Mp}{r:List Mp}(f:¬c.pr=pr):aQ b pr (c::r)=aQ b pr r:=by simp only[aQ,kB];rw[if_neg f,_A]
def jN(l now:Int)(b:Mp):Bool:=decide (now<=b.tm+l)
def av(l now:Int)(ms:List Mp):List Mp:=ms.filter (jN l now)
theorem La{ah ai l now:Int}{ms:List Mp}(h:kE ah ai ms)(k:Nat)(h1:∀b∈ms.take k,jN l now b=false)(h2:∀b,ms[k]?=some b->jN l now b=true):av l now ms=ms.drop k:=by
 have e:ms=ms.take k++ms.drop k:=(List.take_append_drop k ms).symm;unfold av;rw[e,_T,_K.2 (fun b c=>by rw[h1 b c];decide),_2,<-e,_p];intro b c;obtain⟨i,m,rfl⟩:=_P.1 c;rw[_Z]at m;rw[_W];have g:k<ms.length:=G;have f:=h2 ms[k] (_c g);rcases _V i with rfl|q
 .exact f
 have j:=_h.1 h.ir k (k+i) g G G;unfold mR at j;rw[decide_eq_false_iff_not]at j;unfold jN at f⊢;have:=of_decide_eq_true f;exact xb
abbrev gH(pr ad po:Int):Mp->Bool:=fun b=>decide (b.pr=pr/\b.ad=ad/\b.po=po)
def bH(pr ad po:Int)(ms:List Mp):List Mp:=ms.filter (fun b=>!gH pr ad po b)
theorem SK{ah ai pr ad po:Int}{ms:List Mp}(h:kE ah ai ms){i:Nat}{b:Mp}(m:ms[i]?=some b)(q:gH pr ad po b=true):bH pr ad po ms=ms.take i++ms.drop (i+1):=by
 have f:i<ms.length:=(_b.1 m).1;have T_:ms[i]=b:=_m ((_c f).symm.trans m);have e:ms=ms.take i++b::ms.drop (i+1):=by
  have:ms.drop i=b::ms.drop (i+1):=by rw[_i f,T_]
  exact L1
 have Nj:=of_decide_eq_true q;have u:∀j (c:j<ms.length),j≠i->gH pr ad po ms[j]=false:=fun j c v=>by
  unfold gH;rw[decide_eq_false_iff_not];rintro⟨a_,a8,dk⟩;rcases Nat.lt_or_gt_of_ne v with x|z
  .have bn:=_h.1 h.ir j i c f x;exact YF
  have bn:=_h.1 h.ir i j f c z;exact YF
 have C:(ms.take i).filter (fun b=>!gH pr ad po b)=ms.take i:=_p.2 fun y g=>by
  obtain⟨j,c,rfl⟩:=_I.1 g;rw[u j G G];rfl
 have I:(ms.drop (i+1)).filter (fun b=>!gH pr ad po b)=ms.drop (i+1):=_p.2 fun y g=>by
  obtain⟨j,c,rfl⟩:=_P.1 g;rw[_Z]at c;rw[_W,u (i+1+j) G G];rfl
 unfold bH;rw[e,_T,List.filter_cons];rw[<-e];rw[C,I,q];rfl
theorem ajt{pr ad po:Int}{ms:List Mp}(h:∀b∈ms,gH pr ad po b=false):bH pr ad po ms=ms:=_p.2 fun b c=>by rw[h b c];rfl
attribute [local irreducible] bc Go
theorem AK{Γ:bw}{b:List fy}{D:O}{st:bb}{c f:aR}(h1:hQ st b)(h2:dn Γ.g0 (hp (fB st b)))(j:hp (fB st b)=D)(g:fC 2 st.H=[some c,some f])(bW:c.n<Γ.g0)(m:c1 Γ.g0 c.xs)(dq:f.n<Γ.g0)(q:c1 Γ.g0 f.xs):nq Γ b 2 (fun d H=>d=D/\H=[some c,some f]) st:=
 NF ⟨h1,h2,by rw[g];exact⟨⟨bW,m⟩,⟨dq,q⟩,trivial⟩,j,g⟩
abbrev CF(l ah:Int)(t1:Nat)(ai:Int)(t2:Nat)(b len:Nat):List O:=[.v (.int .i64 l),.v (.int .i64 ah),.v (.int .u64 (t1:Int)),.v (.int .i64 ai),.v (.int .u64 (t2:Int)),.aG 1 b 5 0 len false]
theorem kl(g:Nat)(l:List Mp):c1 g (l.map Mp.enc):=eS (fun x=>by simp[Mp.enc,eV,dn])
theorem DV(n b:Nat)(l ah:Int)(t1:Nat)(ai:Int)(t2 len:Nat)(ms:List Mp)(pr:Int)(g:pr=17\/pr=6):b1 prog 249 [.ptr 0 n 6 0 0,.v (.int .i64 pr)] [some ⟨n,6,[CF l ah t1 ai t2 b len]⟩,some ⟨b,5,ms.map Mp.enc⟩] (fun d H=>d=iL pr n 0/\H=[some ⟨n,6,[CF l ah t1 ai t2 b len]⟩,some ⟨b,5,ms.map Mp.enc⟩]):=by
 by_cases c:pr=17
 .have e:iL pr n 0=.ptr 0 n 6 0 1:=by unfold iL;rw[if_pos c]
  exact X4
 have f:pr=6:=G;have e:iL pr n 0=.ptr 0 n 6 0 3:=by unfold iL;rw[if_neg c,if_pos f]
 exact X4
theorem afZ(l:List Mp)(i j:Nat)(b:i<=j)(c:j<=l.length)(hl:l.length<=maxLen)(n:Nat):b1 prog 277 [.aG 0 n 5 0 l.length false,.v (.int .i64 i),.v (.int .i64 j)] [some ⟨n,5,l.map Mp.enc⟩] (fun d H=>d=.aG 0 n 5 0 (l.take i++l.drop j).length false/\H=[some ⟨n,5,(l.take i++l.drop j).map Mp.enc⟩]):=by
 have yo:∀r:List Mp,eW (r.map Mp.enc)=true:=j2 (fun x=>rfl);have JB:cp (cC (l.map Mp.enc) j) ((l.length:Int)-j).toNat=(l.drop j).map Mp.enc:=zl;have fa:(cp (l.map Mp.enc) i++((l.drop j).map Mp.enc++cC (l.map Mp.enc) (i+(l.length-j)))).length=l.length:=FP;unfold maxLen at hl;refine ej {inpl:=true} 1 func277 fun Γ cT f=>ar ?_
 exact HV
theorem RY(k:Nat)(l:List Mp)(i j:Nat)(b:i<=j)(c:j<=l.length)(hl:l.length<=maxLen)(n:Nat):b1 prog 277 [.aG k n 5 0 l.length false,.v (.int .i64 i),.v (.int .i64 j)] [some ⟨n,5,l.map Mp.enc⟩] (fun d H=>d=.aG k n 5 0 (l.take i++l.drop j).length false/\H=[some ⟨n,5,(l.take i++l.drop j).map Mp.enc⟩]):=
 jw k (xp (afZ l i j b c hl n) (fun _ _ _=>o9))
theorem XQ(l ah ai now:Int)(ms:List Mp)(n c:Nat)(g:kE ah ai ms)(q:dG ah=true/\dG ai=true)(hl:ms.length<=maxLen)(ak:1<=l/\l<=1000000)(am:0<=now/\now<=1099511627776):
 b1 prog 276 [.ptr 0 n 6 0 0,.v (.int .i64 now)] [some ⟨n,6,[CF l ah (aQ ah 17 ms) ai (aQ ai 6 ms) c ms.length]⟩,some ⟨c,5,ms.map Mp.enc⟩]
  (fun d H=>d=.aS []/\H=[some ⟨n,6,[CF l ah (aQ ah 17 (av l now ms)) ai (aQ ai 6 (av l now ms)) c (av l now ms).length]⟩,some ⟨c,5,(av l now ms).map Mp.enc⟩]):=by
 have fa:(ms.map Mp.enc).length=ms.length:=_x _;have Y:=hl;unfold maxLen at Y;have Z:∀k,k<=ms.length->b1 prog 277 [.aG 1 c 5 0 ms.length false,.v (.int .i64 0),.v (.int .i64 (k:Nat))] [some ⟨c,5,ms.map Mp.enc⟩] (fun d H=>d=.aG 1 c 5 0 (ms.drop k).length false/\H=[some ⟨c,5,(ms.drop k).map Mp.enc⟩]):=fun k u=>RY 1 ms 0 k (Nat.zero_le _) u hl c
 refine ej {} 2 func276 fun Γ Q an=>ar ?_
 have bd:=Q 0 _ rfl;have bg:=Q 1 _ rfl;repeat' first|refine af ?_|refine ag ?_|refine ab ?_ ?_<;>intro h<;>try exact aa|fail
 refine bS (α:=Nat×Nat) (fun p=>[(⟨.d0,.d0,.d4⟩,.v (.int .i64 (p.1:Nat)))]) (fun p=>[(0,some ⟨n,6,[CF l ah (aQ ah 17 (ms.drop p.1)) ai (aQ ai 6 (ms.drop p.1)) c ms.length]⟩)]) (fun p=>p.2) (fun p=>ms.length-p.1) (fun p=>p.1<=ms.length/\∀y∈ms.take p.1,jN l now y=false) (0,Γ.g0) ⟨Nat.zero_le _,fun y bB=>r6⟩ ?_ ?_
 .exact bs
 rintro⟨k,bR⟩ ⟨u,x⟩;dsimp only at u x⊢;refine bz ?_;have U:∀(u:∀t,ms[k]?=some t->jN l now t=true),b1 prog 277 [.aG 1 c 5 0 ms.length false,.v (.int .i64 0),.v (.int .i64 (k:Nat))] [some ⟨c,5,ms.map Mp.enc⟩] (fun d H=>d=.aG 1 c 5 0 (av l now ms).length false/\H=[some ⟨c,5,(av l now ms).map Mp.enc⟩]):=fun h=>by
  rw[La g k x h];exact Z k u
 by_cases aN:k<ms.length
 .obtain⟨t,bT⟩:∃t,ms[k]?=some t:=⟨_,_c aN⟩;have dU:=kW bT;have ao:=g.tm t (_O bT);have o0:_f.wrap (now-t.tm)=now-t.tm:=_d _ G;have lB:_f.wrap ((k:Int)+1)=((k+1:Nat):Int):=(_d _ G).trans G;have X:ms.drop k=t::ms.drop (k+1):=by rw[_i aN,show ms[k]=t from _m ((_c aN).symm.trans bT)]
  have ap:=g.sub (_X k ms);cases bB:jN l now t with
  |true=>
   have z:=U (fun C yp=>YN);have I:=La g k x (fun C yp=>YN);rw[<-I];unfold jN at bB;have M:=of_decide_eq_true bB;have mM:True:=trivial;have Ca:True:=trivial;generalize aQ ah 17 (av l now ms)=ac at *;generalize aQ ai 6 (av l now ms)=aj at *;repeat' first|refine af ?_|refine bE 1 rfl z (fun _ _ _ h=>h) ?_|simp only[o0,lB,fa]|refine ag ?_|refine ab ?_ ?_<;>intro h<;>try exact aa|simp only[_g,_A,dU]|refine aK ⟨by(try rw[fa]);omega,aH⟩ ?_|exact al|fail
   exact VM
  |false=>
   have abF:∀y∈ms.take (k+1),jN l now y=false:=fun y M=>by
    rw[List.take_add_one,bT]at M;rcases List.mem_append.1 M with h|h
    .exact x y h
    obtain rfl:=List.mem_singleton.1 h;exact bB
   unfold jN at bB;rw[decide_eq_false_iff_not]at bB;have aq:True:=trivial;rw[X];have f:=g.sub (_X k ms);rw[X]at f;rcases g.pr t (_O bT)with j|j
   .have mM:=DV n c l ah (aQ ah 17 (t::ms.drop (k+1))) ai (aQ ai 6 (t::ms.drop (k+1))) ms.length ms t.pr (.inl j);rw[j]at mM dU;rw[show iL 17 n 0=.ptr 0 n 6 0 1 from rfl]at mM;obtain⟨m,O⟩:=RV f.aw f.ka j;have Ca:=E8 ah (aQ ah 17 (t::ms.drop (k+1))) t.ou (l9 ah 17 _ f.aw f.ka).1;rw[(yb q.1).2 m,(x4 q.1 m).1,(x4 q.1 m).2,O]at Ca;have OO:aQ ai 6 (t::ms.drop (k+1))=aQ ai 6 (ms.drop (k+1)):=aan G;exact SH
   have mM:=DV n c l ah (aQ ah 17 (t::ms.drop (k+1))) ai (aQ ai 6 (t::ms.drop (k+1))) ms.length ms t.pr (.inr j);rw[j]at mM dU;rw[show iL 6 n 0=.ptr 0 n 6 0 3 from rfl]at mM;obtain⟨m,O⟩:=RV f.aY f.ka j;have Ca:=E8 ai (aQ ai 6 (t::ms.drop (k+1))) t.ou (l9 ai 6 _ f.aY f.ka).1;rw[(yb q.2).2 m,(x4 q.2 m).1,(x4 q.2 m).2,O]at Ca;have OO:aQ ah 17 (t::ms.drop (k+1))=aQ ah 17 (ms.drop (k+1)):=aan G;exact SH
 obtain rfl:k=ms.length:=G;have z:=U (fun C yp=>P3);have I:=La g ms.length x (fun C yp=>P3);rw[<-I];generalize aQ ah 17 (av l now ms)=ac at *;generalize aQ ai 6 (av l now ms)=aj at *;repeat' first|refine af ?_|refine bE 1 rfl z (fun _ _ _ h=>h) ?_|simp only[fa]|refine ag ?_|refine ab ?_ ?_<;>intro h<;>try exact aa|simp only[_g,_A]|exact al|fail
 exact VM
end Go.Proofs.YtdiobdlinjgakaaGreatDoor.A
