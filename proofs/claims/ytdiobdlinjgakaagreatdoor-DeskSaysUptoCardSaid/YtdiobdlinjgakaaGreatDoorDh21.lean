import Derived.Lib.ItoaMem
import Derived.Test.YtdiobdlinjgakaaGreatDoorDh19
set_option linter.unusedVariables false
set_option linter.unusedSimpArgs false
set_option maxHeartbeats 8000000
set_option maxRecDepth 100000
open Go.Proofs.Tryz
open ByteArray renaming mk->_a
open Go.Lib renaming decDigits->_b,nDigits->_d,zeros24->_h,pow10Tab->_j,parseUintB->_k,indexByte->_l,decDigits_length->_m,TabIs->_o
open Go.IntKind renaming i64->_c
open Int renaming toNat_natCast->_e
open Array renaming size_replicate->_f,replicate->_n
open Go.Value renaming int->_g
open Option.some renaming inj->_i
namespace Go.Proofs.YtdiobdlinjgakaaGreatDoor
open Go.RowKit Go.Sort Go.Lib
theorem adQ(w:World)(T:TypeId)(ka:Nat)(aj:ka<=24):Holds (fun(b:UInt8)=>_g .u8 (b.toNat:Int)) (w.alloc (.cells zeros24 T)) w.heap.size 0 (_n ka (0:UInt8)):=fun j cB=>by
 have c:j<ka:=zF;refine⟨?_,World.frozen?_alloc_new _ _ _ _⟩;rw[World.cell?_alloc_new,zeros24_at _ G,getElem!_pos _ j cB];simp
theorem adl(w:World)(o:Obj)(c:Array UInt8)(k:Nat):∃os,(putRow (fun(b:UInt8)=>_g .u8 (b.toNat:Int)) (w.alloc o) w.heap.size 0 c).drewN k=grow (w.drewN k) os:=by
 rw[alloc_eq_grow];obtain⟨f,_,e⟩:=putRow_grow_new (fun(b:UInt8)=>_g .u8 (b.toNat:Int)) w #[o] w.heap.size 0 c (Nat.le_refl _);exact⟨f,by rw[e];rfl⟩
set_option maxRecDepth 100000 in
theorem aj9 (c:Nat) (m:c<18446744073709551616) (w:World) (I:_o prog w "internal/strconv.uint64pow10" .u64 _j) :
 Calls prog 156 #[.int .u64 c,.int .i64 10] w fun e g=>e=.returned (.string ⟨(_b c).toArray⟩)/\∃k os,g=grow (w.drewN k) os:=by
 by_cases aj:c<100
 .have O:_c.wrap ((c:Nat):Int)=(c:Int):=IntWalk.i64_in _ G;go_enter func156,Tryz.ntmps156
  go_wp2_with (go_at_call 145;refine(Any.internal_strconv_small {Tryz.Ee with} c aj _).mono ?_;rintro e g ⟨rfl,rfl⟩)
  go_ret
  exact⟨rfl,0,#[],by simp[World.drewN_zero]⟩
 have x:1<=c:=G;have Q:_d c<=20:=by have:=Lib.numDigits_eq c x m;split at this<;>omega
 have U:_d c<=24:=G;have z:prog.arrayLen 217=24:=b4;have X:∀W,(Instr.sliceAt 217 (.pointer (some ⟨w.heap.size,0,none⟩)) none (some (.int .i64 (_d c:Int))) none).run prog W=.ok (.slice (some ⟨w.heap.size,0,none⟩) (_d c) 24) W:=fun W=>by
  rw[run_sliceAt_array_h W 217 ⟨w.heap.size,0,none⟩ b4 .i64 (_d c:Int) G (by rw[z];omega)];go_simp
 have q:=adQ w 217 (_d c) G;have C:=Any.internal_strconv_formatBase10 {Tryz.Ee with} w.heap.size 0 24 c (_n (_d c) 0) (w.alloc (.cells _h 217)) q (by rw[_f];exact Lib.lt_pow_nDigits c) m (by rw[_f];omega);rw[_f]at C;have J:=Lib.hid q;clear q z;go_enter func156,Tryz.ntmps156
 go_wp2_with (go_at_call 146;refine(Any.internal_strconv_numDigits {Tryz.Ee with} c x m _ (Lib.tabIs_alloc I _)).mono ?_;rintro e g ⟨rfl,rfl⟩)
 go_at_call 147
 refine C.mono ?_;rintro e g ⟨rfl,k,Y,f,rfl,u⟩;have Z:(convert 47 9 (.slice (some ⟨w.heap.size,0,none⟩) (_d c) 24)).run prog ((putRow (fun(b:UInt8)=>_g .u8 (b.toNat:Int)) (w.alloc (.cells _h 217)) w.heap.size 0 f).drewN k)=.ok (.string ⟨(_b c).toArray⟩) ((putRow (fun(b:UInt8)=>_g .u8 (b.toNat:Int)) (w.alloc (.cells _h 217)) w.heap.size 0 f).drewN k):=by
  have h:=run_convert_bytes_back (P:=prog) ((putRow (fun(b:UInt8)=>_g .u8 (b.toNat:Int)) (w.alloc (.cells _h 217)) w.heap.size 0 f).drewN k) 47 9 5 ⟨w.heap.size,0,none⟩ 24 (_b c) Tryz.underlying47 Tryz.underlying5 Tryz.underlying9 (fun j v=>by
   rw[Lib.row_is_numeral u j v,Lib.add_plain,World.cell?_drewN];exact cell?_putRow (fun(b:UInt8)=>_g .u8 (b.toNat:Int)) _ w.heap.size 0 _ f J.out (by rw[u.size,_f]) j (by rw[u.size];rw[_m]at v;exact v))
  rw[_m]at h;exact h
 go_wp2
 go_ret
 obtain⟨os,M⟩:=adl w (.cells _h 217) f k;exact⟨rfl,k,os,M⟩
theorem aj6 (b:Nat) (f:b<18446744073709551616) (w:World) (g:_o prog w "internal/strconv.uint64pow10" .u64 _j) :
 Calls prog 98 #[.int .u64 b,.int .i64 10] w fun e c=>e=.returned (.string ⟨(_b b).toArray⟩)/\∃k os,c=grow (w.drewN k) os:=by
 go_enter func98,Tryz.ntmps98
 go_wp2_with (go_at_call 156;refine(aj9 b f _ g).mono ?_;rintro e c ⟨rfl,k,os,rfl⟩)
 go_ret
 exact⟨rfl,k,os,rfl⟩
theorem wv (b:Nat) (c:b<18446744073709551616):Spec prog 98 [.v (.int .u64 (b:Nat)),.v (.int .i64 10)] (.v (.string (I (_b b)))):=
 r4 b4 fun K w x g0 f g=>by
  obtain⟨z,C,rfl,h1,h2⟩:=Yc g;cases h1;cases h2;obtain⟨-,-,j⟩:=f.mC (g:=3) (cs:=_j.map (_g .u64)) qt;have m:_o prog w "internal/strconv.uint64pow10" .u64 _j:=YO b4 ae j;refine(aj6 b c w m).mono fun e G ⟨q,k,os,u⟩=>⟨_,q,pN (u▸WL w k os),.v _⟩
end Go.Proofs.YtdiobdlinjgakaaGreatDoor
namespace Go.Proofs.YtdiobdlinjgakaaGreatDoor.R
attribute [local irreducible] bc Go
theorem af2(c:UInt8)(l:ak)(hl:l.length<=1048576):Spec prog 58 [.v (.string (I l)),.v (.string (I [c]))] (.aS [.v (.string (I (bJ c l).1)),.v (.string (I (bJ c l).2.1)),.v (.bool (bJ c l).2.2)]):=by
 have f:=Te c l;have M:=Lib.indexByte_ge l c;have z:(I [c]).size=1:=rfl;have O:(_a #[]:ByteArray)=I []:=rfl;by_cases j:_l l c = -1
 .have g:=cutB_miss j;rw[j]at f;rw[g];refine az {} 0 func58 fun Γ an=>ar ?_
  repeat' first|refine af ?_|refine J f ?_|refine ag ?_|refine ab ?_ ?_<;>intro h<;>try exact aa|exact al|fail
  all_goals exact b0
 obtain⟨i,m⟩:∃i:Nat,_l l c=(i:Int):=⟨(_l l c).toNat,G⟩;obtain⟨g,Q⟩:=cutB_hit m;rw[m]at f;rw[g];have bl:_c.wrap ((i:Int)+1)=((i+1:Nat):Int):=er;have bD:_c.wrap ((i:Int)+((1:Nat):Int))=((i+1:Nat):Int):=bl;have q:(I l).extract 0 i=I (l.take i):=by rw[fK];simp
 have u:(I l).extract (i+1) l.length=I (l.drop (i+1)):=qy;have C:(I l).size=l.length:=aU l;refine az {} 0 func58 fun Γ an=>ar ?_
 repeat' first|refine af ?_|simp only[z,C,bl,bD,q,u,_e]|refine J f ?_|refine ag ?_|refine ab ?_ ?_<;>intro h<;>try exact aa|simp only[bl,bD,q,u,_e]|exact al|fail
 all_goals exact Jr
theorem AL(c:UInt8)(l:ak)(hl:l.length<=1048576):Spec prog 22 [.v (.string (I l)),.v (.string (I [c]))] (.aS [.v (.string (I (bJ c l).1)),.v (.string (I (bJ c l).2.1)),.v (.bool (bJ c l).2.2)]):=by
 have h:=af2 c l hl;generalize (bJ c l).1=A at *;generalize (bJ c l).2.1=B at *;generalize (bJ c l).2.2=f at *;refine az {} 0 func22 fun Γ an=>ar ?_
 exact Fz
theorem sh{l:List ak}{k:Nat}{t:ak}(b:l[k]?=some t):cf (bk (l.map I)) k=[.v (.string (I t))]:=by
 rw[lZ,bk,List.map_map,List.getElem?_map,b];rfl
theorem als(H:List ak)(w:ak)(c:Bool)(hl:H.length<=maxLen):Spec prog 202 [.snap 1 (bk (H.map I)) c,.v (.string (I w))] (.v (.int .i64 (bU (fun y=>decide (w=y)) H 0))):=by
 unfold maxLen at hl;have g:(bk (H.map I)).length=H.length:=lD;refine az {} 0 func202 fun Γ an=>ar ?_
 repeat' first|refine af ?_|refine ag ?_|refine ab ?_ ?_<;>intro h<;>try exact aa|simp only[g]
 refine bS (α:=Nat) (fun k=>[(⟨.d0,.d1,.d0⟩,.v (.int .i64 (k:Nat)))]) (fun _=>[]) (fun _=>Γ.g0) (fun k=>H.length-k) (fun k=>k<=H.length/\bU (fun y=>decide (w=y)) H 0=bU (fun y=>decide (w=y)) (H.drop k) k) 0 ⟨Nat.zero_le _,rfl⟩ ?_ ?_
 .exact bs
 rintro k ⟨z,b⟩;dsimp only at z b⊢;refine bz ?_;by_cases f:k<H.length
 .obtain⟨t,m⟩:∃t,H[k]?=some t:=⟨_,List.getElem?_eq_getElem f⟩;have u:=sh m;rw[List.drop_eq_getElem_cons f,show H[k]=t from _i ((List.getElem?_eq_getElem f).symm.trans m),bU]at b;by_cases j:w=t
  .subst j;rw[if_pos (decide_eq_true rfl)]at b;rw[b];repeat' first|refine af ?_|simp only[eq_self,decide_true]|refine ag ?_|refine ab ?_ ?_<;>intro h<;>try exact aa|simp only[_e,u,g]|exact al|fail
   all_goals exact Jr
  have C:decide (I w=I t)=false:=decide_eq_false (fun q=>j (dF.1 q));rw[if_neg (by simp[j])]at b;repeat' first|refine af ?_|simp only[C]|refine ag ?_|refine ab ?_ ?_<;>intro h<;>try exact aa|simp only[_e,u,g]|exact al|fail
  refine br ⟨k+1,⟨f,b⟩,Nat.sub_lt_sub_left f (Nat.lt_succ_self k),?_⟩;exact jJ
 obtain rfl:k=H.length:=G;rw[List.drop_length,bU]at b;rw[b];repeat' first|refine af ?_|refine ag ?_|refine ab ?_ ?_<;>intro h<;>try exact aa|simp only[g]|exact al|fail
 all_goals exact bM
theorem acg(H:List ak)(w:ak)(c:Bool)(hl:H.length<=maxLen):Spec prog 151 [.snap 1 (bk (H.map I)) c,.v (.string (I w))] (.v (.bool (decide (w∈H)))):=by
 have h:=als H w c hl;have e:decide (0<=bU (fun y=>decide (w=y)) H 0)=decide (w∈H):=by
  rcases oz (fun y=>decide (w=y)) H 0 with⟨h1,h2⟩|⟨i,t,h1,h2,j,f⟩
  .rw[h1];have:w∉H:=fun q=>by have:=h2 w q;simp at this
   simp[this]
  rw[f];have g:w=t:=of_decide_eq_true h2;have:=List.mem_of_getElem? h1;rw[<-g]at this;simp[this]
 rw[<-e];generalize bU (fun y=>decide (w=y)) H 0=m at *;refine az {} 0 func151 fun Γ an=>ar ?_
 exact Fz
def Js(w:ak):O:=match _k 64 w with
 |.ok n=>.aS [.v (.int .u64 (n:Nat)),.v .nilIface]
 |.range=>.aS [.v (.int .u64 18446744073709551615),.e7]
 |_=>.aS [.v (.int .u64 0),.e7]
theorem adm(l:ak)(hl:l.length<=1048576):Spec prog 97 [.v (.string (I l)),.v (.int .i64 10),.v (.int .i64 64)] (Js l):=by
 have bf:(I l).data.toList=l:=nY;have C:(I l).size=l.length:=aU l;refine r4 b4 fun K w J g0 q u=>?_
 obtain⟨M,Q,U,rfl,aw,aY,z⟩:=Ds u;cases aw;cases aY;cases z;unfold Js;have aS:∀ {f:World} (a:Value) (b:Value) (d:O),aJ (K.cut w) f d b->aJ (K.cut w) f (.aS [.v a,d]) (.tuple #[a,b]):=fun a b d bf=>.aS rfl fun i x c aP bn=>by exact Nd
 cases a6:_k 64 l with
 |ok n=>
  refine(Tryz.strconv_ParseUint_10_at64_ok (I l) G n q3 w).mono fun e f ⟨g,cy⟩=>⟨_,g,?_,aS _ _ _ (.v _)⟩
  exact Im
 |range=>
  obtain⟨j,h1,h2⟩:=yU q (g:=5) qt;exact(Tryz.strconv_ParseUint_10_at64_range (I l) G q3 j w h1 h2).mono fun e f ⟨N,g,_,_,m⟩=>⟨_,g,pN m,aS _ _ _ (.e7 _ _)⟩
 |_=>
  obtain⟨j,h1,h2⟩:=yU q (g:=4) qt;exact(Tryz.strconv_ParseUint_10_at64_syntax (I l) G q3 j w h1 h2).mono fun e f ⟨N,g,_,_,m⟩=>⟨_,g,pN m,aS _ _ _ (.e7 _ _)⟩
abbrev hU(n:Nat)(t:dT):aR:=⟨n,2,[[.snap 1 (bk (t.1.map I)) false,.v (.bool t.2)]]⟩
def ie(b:Nat)(t:dT):Prop:=∀w∈t.1,w.length<=b
theorem BA{b:Nat}{t:dT}(h:ie b t):(cg t).1.length<=b/\ie b (cg t).2:=by
 unfold cg;split
 .exact⟨Nat.zero_le _,fun w c=>by simp at c⟩
 rename_i s r e;exact⟨h s (by simp[e]),fun w c=>h w (by rw[e];exact List.mem_cons_of_mem _ c)⟩
theorem BR(n:Nat)(t:dT):b1 prog 196 [.ptr 0 n 2 0 0] [some (hU n t)] (fun d H=>d=.v (.string (I (cg t).1))/\H=[some (hU n (cg t).2)]):=by
 obtain⟨l,b⟩:=t;cases l with
 |nil=>
  refine ej {} 0 func196 fun Γ c m=>ar ?_
  have f:n<Γ.g0:=c 0 _ rfl;dsimp only[hU,List.map,bk];repeat' first|refine af ?_|refine ag ?_|refine ab ?_ ?_<;>intro h<;>try exact aa|exact al|fail
  exact iT trivial trivial rfl rfl f ⟨⟨trivial,trivial,trivial⟩,trivial⟩ rfl
 |cons s r=>
  have e:bk ((s::r).map I)=[.v (.string (I s))]::bk (r.map I):=rfl;have q:∀g,c1 g (bk (r.map I)):=fun g=>eS (fun x=>fY)
  show b1 prog _ [.ptr 0 n 2 0 0] [some ⟨n,2,[[.snap 1 (bk ((s::r).map I)) false,.v (.bool b)]]⟩] (fun d H=>d=.v (.string (I s))/\H=[some ⟨n,2,[[.snap 1 (bk (r.map I)) false,.v (.bool b)]]⟩]);rw[e];generalize bk (r.map I)=j at *;have u:cp (cC j 0) (((j.length+1:Nat):Int)-1).toNat=j:=e1 G;refine ej {} 0 func196 fun Γ c m=>ar ?_
  have f:n<Γ.g0:=c 0 _ rfl;repeat' first|refine af ?_|simp only[u]|refine ag ?_|refine ab ?_ ?_<;>intro h<;>try exact aa|exact al|fail
  exact iT trivial trivial rfl rfl f ⟨⟨q _,trivial,trivial⟩,trivial⟩ rfl
theorem Hr(l:List ak)(g:Nat):c1 g (bk (l.map I)):=eS (fun x=>fY)
theorem DD(n:Nat)(t:dT)(s:ak)(aj:s.length<=1048576):b1 prog 243 [.ptr 0 n 2 0 0,.v (.string (I s))] [some (hU n t)] (fun d H=>d=.v (.int .i64 (fl s t).1)/\H=[some (hU n (fl s t).2)]):=by
 obtain⟨l,b⟩:=t;have kZ:=Hr l;have a6:=adm s aj;unfold hU fl;dsimp only;generalize bk (l.map I)=g at *;unfold Js at a6;cases ay:_k 64 s with
 |ok c=>
  have j:=Lib.parseUintB_le ay;have bV:=wv c (by have e:(2:Nat) ^ 64-1=18446744073709551615:=ae;omega);have a_:pI s=_c.wrap (c:Nat):=by unfold pI;rw[ay]
  have a8:gW s=(decide (s.length<=10)&&decide (_b c=s)):=by unfold gW;rw[ay]
  rw[ay]at a6;dsimp only at a6;rw[a_,a8];cases b with
  |true=>
   refine ej {} 0 func243 fun Γ cT eg=>ar ?_
   have bd:n<Γ.g0:=cT 0 _ rfl;repeat' first|refine af ?_|simp only[aU,eq_self]|refine J a6 ?_|refine J bV ?_|refine ag ?_|refine ab ?_ ?_<;>intro h<;>try exact aa|exact al|fail
   all_goals exact JK
  |false=>
   by_cases h10:s.length<=10
   .have Kc:decide ((10:Int)<(s.length:Nat))=false:=decide_eq_false G;by_cases f:_b c=s
    .have WW:decide (I (_b c)=I s)=true:=decide_eq_true (congrArg I f);rw[decide_eq_true h10,decide_eq_true f];exact V7
    have WW:decide (I (_b c)=I s)=false:=decide_eq_false (fun q=>f (dF.1 q));rw[decide_eq_true h10,decide_eq_false f];exact V7
   have Kc:decide ((10:Int)<(s.length:Nat))=true:=decide_eq_true G;rw[decide_eq_false h10,Bool.false_and];refine ej {} 0 func243 fun Γ cT eg=>ar ?_
   have bd:n<Γ.g0:=cT 0 _ rfl;repeat' first|refine af ?_|simp only[aU,Kc]|refine J a6 ?_|refine J bV ?_|refine ag ?_|refine ab ?_ ?_<;>intro h<;>try exact aa|exact al|fail
   all_goals exact JK
 |range=>
  have a_:pI s = -1:=by unfold pI;rw[ay]
  have a8:gW s=false:=by unfold gW;rw[ay]
  have bV:=wv 0 ae;have bl:_c.wrap 18446744073709551615 = -1:=ae;exact UB
 |_=>
  have a_:pI s=0:=by unfold pI;rw[ay]
  have a8:gW s=false:=by unfold gW;rw[ay]
  have bV:=wv 0 ae;have bl:_c.wrap 0=0:=ae;exact UB
theorem xU(n:Nat)(t:dT)(b:ie 1048576 t):b1 prog 198 [.ptr 0 n 2 0 0] [some (hU n t)] (fun d H=>d=.v (.int .i64 (cj t).1)/\H=[some (hU n (cj t).2)]):=by
 have h1:=BR n t;have h2:=DD n (cg t).2 (cg t).1 (BA b).1;unfold cj;generalize (cg t).1=f at *;generalize (cg t).2=t2 at *;refine ej {} 0 func198 fun Γ c g=>ar ?_
 have bd:n<Γ.g0:=c 0 _ rfl;repeat' first|refine af ?_|(with_reducible refine bE 0 ?_ h1 (fun _ _ _ h=>h) ?_);(exact rfl)|(with_reducible refine bE 0 ?_ h2 (fun _ _ _ h=>h) ?_);(exact rfl)|refine ag ?_|refine ab ?_ ?_<;>intro h<;>try exact aa|exact al|fail
 all_goals exact yg
theorem O7(n:Nat)(t:dT)(s:ak)(aj:s.length<=1048576):b1 prog 197 [.ptr 0 n 2 0 0,.v (.string (I s))] [some (hU n t)] (fun d H=>d=.v (.int .u32 (ad s t).1)/\H=[some (hU n (ad s t).2)]):=by
 obtain⟨l,b⟩:=t;have a6:=ID s aj;unfold ad;unfold s7 at a6;dsimp only;generalize (((e9 s).1:Nat):Int)=A at *;generalize (e9 s).2=E at *;cases b with
 |true=>exact P7
 |false=>
  by_cases c:E=0
  .subst c;exact P7
  have f:decide (E=0)=false:=decide_eq_false c;have g:decide (¬E=0)=true:=decide_eq_true c;rw[g];refine ej {} 0 func197 fun Γ cT eg=>ar ?_
  have bd:n<Γ.g0:=cT 0 _ rfl;repeat' first|refine af ?_|simp only[f]|refine J a6 ?_|refine ag ?_|refine ab ?_ ?_<;>intro h<;>try exact aa|exact al|fail
  all_goals exact yg
theorem Ym(n:Nat)(t:dT)(s:ak):b1 prog 199 [.ptr 0 n 2 0 0,.v (.string (I s))] [some (hU n t)] (fun d H=>d=.v (.bool (dy s t).1)/\H=[some (hU n (dy s t).2)]):=by
 obtain⟨l,b⟩:=t;have c:(_a #[112,97,115,115]:ByteArray)=I ee:=rfl;have f:(_a #[100,114,111,112]:ByteArray)=I fu:=rfl;have d1:decide (I s=I ee)=decide (s=ee):=decide_eq_decide.2 dF;have d2:decide (I s=I fu)=decide (s=fu):=decide_eq_decide.2 dF;unfold dy;dsimp only;generalize decide (s=ee)=g at *;generalize decide (s=fu)=j at *;cases b<;>cases g<;>cases j
 all_goals
  refine ej {} 0 func199 fun Γ m q=>ar ?_
  have bd:n<Γ.g0:=m 0 _ rfl;repeat' first|refine af ?_|simp only[c,f,d1,d2]|refine ag ?_|refine ab ?_ ?_<;>intro h<;>try exact aa|exact al|fail
  all_goals exact yg
theorem QH(n:Nat)(t:dT)(c:UInt8)(f:ie 1048576 t):b1 prog 244 [.ptr 0 n 2 0 0,.v (.string (I [c]))] [some (hU n t)] (fun d H=>d=.aS [.v (.string (I (ct c t).1.1)),.v (.string (I (ct c t).1.2))]/\H=[some (hU n (ct c t).2)]):=by
 have h1:=BR n t;have h2:=AL c (cg t).1 (BA f).1;unfold ct;generalize (bJ c (cg t).1).1=A at *;generalize (bJ c (cg t).1).2.1=B at *;generalize (bJ c (cg t).1).2.2=g at *;generalize (cg t).1=m at *;generalize (cg t).2=t2 at *;obtain⟨l,b⟩:=t2;cases b<;>cases g
 all_goals
  refine ej {} 0 func244 fun Γ j q=>ar ?_
  have bd:n<Γ.g0:=j 0 _ rfl;repeat' first|refine af ?_|(with_reducible refine bE 0 ?_ h1 (fun _ _ _ h=>h) ?_);(exact rfl)|refine J h2 ?_|refine ag ?_|refine ab ?_ ?_<;>intro h<;>try exact aa|exact al|fail
  all_goals exact yg
theorem EO{b:Nat}{c:UInt8}{t:dT}(h:ie b t):(ct c t).1.1.length<=b/\(ct c t).1.2.length<=b/\ie b (ct c t).2:=by
 have h1:=BA h;have h2:=ER (c:=c) (cg t).1;exact⟨by unfold ct;dsimp only;omega,by unfold ct;dsimp only;omega,h1.2⟩
theorem I8{b:Nat}{t:dT}(h:ie b t):ie b (cj t).2:=(BA h).2
theorem aao{b:Nat}{t:dT}(h:ie b t):ie b (c2 t).2:=(EO (c:=47) h).2.2
theorem acD{b:Nat}{t:dT}(h:ie b t):ie b (fh t).2:=(EO (c:=45) h).2.2
theorem Tr(n:Nat)(t:dT)(b:ie 1048576 t):b1 prog 200 [.ptr 0 n 2 0 0] [some (hU n t)] (fun d H=>d=.agg [.v (.int .u32 (c2 t).1.1),.v (.int .i64 (c2 t).1.2)]/\H=[some (hU n (c2 t).2)]):=by
 have h1:=QH n t 47 b;obtain⟨c,f,g⟩:=EO (c:=47) b;have h2:=O7 n (ct 47 t).2 (ct 47 t).1.1 c;have bI:=DD n (ad (ct 47 t).1.1 (ct 47 t).2).2 (ct 47 t).1.2 f;have e:(_a #[47]:ByteArray)=I [47]:=rfl;unfold c2;generalize (fl (ct 47 t).1.2 (ad (ct 47 t).1.1 (ct 47 t).2).2).2=j at *;generalize (fl (ct 47 t).1.2 (ad (ct 47 t).1.1 (ct 47 t).2).2).1=m at *;generalize (ad (ct 47 t).1.1 (ct 47 t).2).2=q at *;generalize (ad (ct 47 t).1.1 (ct 47 t).2).1=u at *;generalize (ct 47 t).2=x at *;generalize (ct 47 t).1.1=z at *;generalize (ct 47 t).1.2=C at *;refine ej {} 1 func200 fun Γ cT G=>ar ?_
 exact Pr
theorem U_(n:Nat)(t:dT)(b:ie 1048576 t):b1 prog 201 [.ptr 0 n 2 0 0] [some (hU n t)] (fun d H=>d=.aS [.v (.int .i64 (fh t).1.1),.v (.int .i64 (fh t).1.2)]/\H=[some (hU n (fh t).2)]):=by
 have h1:=QH n t 45 b;obtain⟨c,f,g⟩:=EO (c:=45) b;have h2:=DD n (ct 45 t).2 (ct 45 t).1.1 c;have bI:=DD n (fl (ct 45 t).1.1 (ct 45 t).2).2 (ct 45 t).1.2 f;have e:(_a #[45]:ByteArray)=I [45]:=rfl;unfold fh;generalize (fl (ct 45 t).1.2 (fl (ct 45 t).1.1 (ct 45 t).2).2).2=j at *;generalize (fl (ct 45 t).1.2 (fl (ct 45 t).1.1 (ct 45 t).2).2).1=m at *;generalize (fl (ct 45 t).1.1 (ct 45 t).2).2=q at *;generalize (fl (ct 45 t).1.1 (ct 45 t).2).1=u at *;generalize (ct 45 t).2=x at *;generalize (ct 45 t).1.1=z at *;generalize (ct 45 t).1.2=C at *;refine ej {} 0 func201 fun Γ cT G=>ar ?_
 exact Pr
theorem aiG(s:ak)(aj:s.length<=1048576):Spec prog 116 [.v (.string (I s))] (vj (fO s)):=by
 by_cases h10:s.length<10
 .have e:fO s=cY s:=by unfold fO;rw[if_pos h10]
  have h:=y1 s aj;have c:decide (((s.length:Nat):Int)<10)=true:=decide_eq_true G;rw[e];unfold vj at h⊢;generalize (((cY s).1:Nat):Int)=A at *;generalize (cY s).2=B at *;refine az {} 0 func116 fun Γ an=>ar ?_
  repeat' first|refine af ?_|simp only[aU,c]|refine J h ?_|refine ag ?_|refine ab ?_ ?_<;>intro h<;>try exact aa|exact al|fail
  all_goals exact bM
 have e:fO s=(10*(cY (s.take 9)).1+(cY (s.drop 9)).1,(((cY (s.take 9)).2&&(cY (s.drop 9)).2)&&decide (0<(cY (s.take 9)).1))&&decide (s.length=10)):=by unfold fO;rw[if_neg h10]
 have h1:=y1 (s.take 9) kF;have h2:=y1 (s.drop 9) yi;have c:decide (((s.length:Nat):Int)<10)=false:=decide_eq_false G;have f:decide (((s.length:Nat):Int)=10)=decide (s.length=10):=decide_eq_decide.2 G;have ah:=Cq (s:=s.take 9);have ai:=Cq (s:=s.drop 9);have g:(I s).extract 0 9=I (s.take 9):=by rw[fK];simp
 have j:(I s).extract 9 s.length=I (s.drop 9):=qy;rw[e];unfold vj at h1 h2⊢;dsimp only;generalize (cY (s.take 9)).1=A at *;generalize (cY (s.take 9)).2=m at *;generalize (cY (s.drop 9)).1=B at *;generalize (cY (s.drop 9)).2=q at *;have bl:_c.wrap (10*((A:Nat):Int))=10*(A:Nat):=IntWalk.i64_in _ G;have bD:_c.wrap (10*((A:Nat):Int)+(B:Nat))=((10*A+B:Nat):Int):=er;have u:decide ((0:Int)<(A:Nat))=decide (0<A):=decide_eq_decide.2 G;generalize decide (s.length=10)=L at *;generalize decide (0<A)=P at *;cases m<;>cases q<;>cases P
 all_goals
  refine az {} 0 func116 fun Γ an=>ar ?_
  repeat' first|refine af ?_|simp only[aU,_e,c,f,bl,bD,u,g,j]|refine J h1 ?_|refine J h2 ?_|refine ag ?_|refine ab ?_ ?_<;>intro h<;>try exact aa|exact al|fail
  all_goals exact Jr
abbrev hd(l:List Int):List (List O):=l.map fun n=>[.v (.int .i64 n)]
theorem Mn:∀l:List Int,eW (hd l)=true
 |[]=>rfl
 |b::l=>Mn l
theorem N4(l:List Int)(g:Nat):c1 g (hd l):=eS (fun x=>fY)
theorem PS(l:List Int)(n:Int):hd l++[[.v (.int .i64 n)]]=hd (l++[n]):=by simp[hd]
theorem E3(l:List Int):(hd l).length=l.length:=by simp[hd]
abbrev q8(n b:Nat)(x:jg):aR:=⟨n,1,[[.aG 1 b 1 0 x.1.length false]]⟩
abbrev qU(n:Nat)(x:jg):aR:=⟨n,1,[[.v (.bool x.2)]]⟩
theorem aeF(c g f:Nat)(s:ak)(x:jg)(aj:s.length<=1048576)(m:x.1.length<=1048576):fi prog 115 [.v (.string (I s)),.ptr 0 c 1 0 0,.ptr 2 f 1 0 0] [some (q8 c g x),some ⟨g,1,hd x.1⟩,some (qU f x)] 1
 (fun aq d H=>d=.aS []/\H=[some (q8 c aq (iq s x)),none,some (qU f (iq s x)),some ⟨aq,1,hd (iq s x).1⟩]):=by
 have h:=aiG s aj;obtain⟨l,b⟩:=x;unfold iq;unfold vj at h;dsimp only at m⊢;generalize (((fO s).1:Nat):Int)=A at *;generalize (fO s).2=B at *;have gh:(l++[A]).length=l.length+1:=aF;have q:=PS l A;have u:=Mn l;have xn:=E3 l;cases b<;>cases B
 all_goals
  refine h0 {} 3 func115 fun Γ j z=>ar ?_
  have BO:c<Γ.g0:=j 0 _ rfl;have EE:f<Γ.g0:=j 2 _ rfl;repeat' first|refine af ?_|simp only[q,xn]|refine J h ?_|refine ag ?_|refine ab ?_ ?_<;>intro h<;>try exact aa|((with_reducible refine p9 ?_);first|refine aK ⟨aH,aH,aH,aH,xn.symm⟩ ?_|refine aK ⟨aH,W4⟩ ?_)|exact al|fail
  exact Y9
theorem ajX(c g f:Nat)(s:ak)(x:jg)(aj:s.length<=1048576)(m:x.1.length<=1048576):fi prog 117 [.v (.string (I s)),.ptr 0 c 1 0 0,.ptr 2 f 1 0 0] [some (q8 c g x),some ⟨g,1,hd x.1⟩,some (qU f x)] 1
 (fun aq d H=>d=.aS []/\H=[some (q8 c aq (lg s x)),none,some (qU f (lg s x)),some ⟨aq,1,hd (lg s x).1⟩]):=by
 have h:=VE s aj;rw[<-NL]at h;obtain⟨l,b⟩:=x;have z:(e9 s).1<4294967296:=by exact T7
 have bl:_c.wrap (((e9 s).1:Nat):Int)=((e9 s).1:Nat):=IntWalk.i64_in _ G;unfold lg;unfold s7 at h;dsimp only at m⊢;generalize (((e9 s).1:Nat):Int)=A at *;generalize (e9 s).2=E at *;generalize q:decide (E=0)=B at *;have gh:(l++[A]).length=l.length+1:=aF;have u:=PS l A;have C:=Mn l;have xn:=E3 l;cases b<;>cases B
 all_goals
  refine h0 {} 3 func117 fun Γ j M=>ar ?_
  have BO:c<Γ.g0:=j 0 _ rfl;have EE:f<Γ.g0:=j 2 _ rfl;repeat' first|refine af ?_|simp only[u,xn,bl,q]|refine J h ?_|refine ag ?_|refine ab ?_ ?_<;>intro h<;>try exact aa|((with_reducible refine p9 ?_);first|refine aK ⟨aH,aH,aH,aH,xn.symm⟩ ?_|refine aK ⟨aH,W4⟩ ?_)|exact al|fail
  exact Y9
theorem ZG{K:aO}{w:World}{g:Array Value}{d:O}{j m bW dq:Nat}(h:dS K w [d,.ptr j bW 1 0 0,.ptr m dq 1 0 0] g)(q u:Nat):dS K w [d,.ptr q bW 1 0 0,.ptr u dq 1 0 0] g:=by
 obtain⟨aj,c⟩:=h;refine⟨aj,fun i e v b f=>?_⟩;match i,b with
 |0,b=>exact c 0 e v b f
 |1,b=>
  obtain rfl:=_i b;exact re (c 1 _ v rfl f)
 |2,b=>
  obtain rfl:=_i b;exact re (c 2 _ v rfl f)
 |i+3,b=>simp at b
theorem E5(j m b f c:Nat)(s:ak)(x:jg)(aj:s.length<=1048576)(q:x.1.length<=1048576):fi prog 115 [.v (.string (I s)),.ptr j b 1 0 0,.ptr m c 1 0 0] [some (q8 b f x),some ⟨f,1,hd x.1⟩,some (qU c x)] 1
 (fun g d H=>d=.aS []/\H=[some (q8 b g (iq s x)),none,some (qU c (iq s x)),some ⟨g,1,hd (iq s x).1⟩]):=
 EK (aeF b f c s x aj q) (fun K w u h=>ZG h 0 2)
theorem Gc(j m b f c:Nat)(s:ak)(x:jg)(aj:s.length<=1048576)(q:x.1.length<=1048576):fi prog 117 [.v (.string (I s)),.ptr j b 1 0 0,.ptr m c 1 0 0] [some (q8 b f x),some ⟨f,1,hd x.1⟩,some (qU c x)] 1
 (fun g d H=>d=.aS []/\H=[some (q8 b g (lg s x)),none,some (qU c (lg s x)),some ⟨g,1,hd (lg s x).1⟩]):=
 EK (ajX b f c s x aj q) (fun K w u h=>ZG h 0 2)
theorem aiS(w:ak):Spec prog 114 [.v (.string (I w))] (.aS [.v (.string (I (gr w).1)),.v (.bool (gr w).2)]):=by
 have dV:(_a #[111,117,116,115,105,100,101]:ByteArray)=I cV:=rfl;have e0:(_a #[112,111,114,116,115]:ByteArray)=I cX:=rfl;have c3:(_a #[108,105,102,101]:ByteArray)=I cU:=rfl;have fR:(_a #[114,97,116,101]:ByteArray)=I c0:=rfl;have c5:(_a #[101,108,115,101]:ByteArray)=I cM:=rfl;have tS:(_a #[112,97,115,115]:ByteArray)=I ee:=rfl;have vH:(_a #[100,114,111,112]:ByteArray)=I fu:=rfl;have d:∀a b:ak,decide (I a=I b)=decide (a=b):=fun a b=>decide_eq_decide.2 dF
 unfold gr;by_cases h1:w=cV
 .have f1:=decide_eq_true h1;rw[if_pos h1];refine az {} 0 func114 fun Γ an=>ar ?_
  repeat' first|refine af ?_|simp only[dV,e0,c3,fR,c5,tS,vH,d,f1]|refine ag ?_|refine ab ?_ ?_<;>intro h<;>try exact aa|fail
  all_goals exact b0
 have f1:=decide_eq_false h1;rw[if_neg h1];by_cases h2:w=cX
 .have f2:=decide_eq_true h2;rw[if_pos (.inl h2)];refine az {} 0 func114 fun Γ an=>ar ?_
  repeat' first|refine af ?_|simp only[dV,e0,c3,fR,c5,tS,vH,d,f1,f2]|refine ag ?_|refine ab ?_ ?_<;>intro h<;>try exact aa|fail
  all_goals exact b0
 have f2:=decide_eq_false h2;by_cases c:w=c0
 .have f3:=decide_eq_true c;rw[if_pos (.inr c)];refine az {} 0 func114 fun Γ an=>ar ?_
  repeat' first|refine af ?_|simp only[dV,e0,c3,fR,c5,tS,vH,d,f1,f2,f3]|refine ag ?_|refine ab ?_ ?_<;>intro h<;>try exact aa|fail
  all_goals exact b0
 have f3:=decide_eq_false c;rw[if_neg (fun q=>q.elim h2 c)];by_cases f:w=cU
 .have f4:=decide_eq_true f;rw[if_pos f];refine az {} 0 func114 fun Γ an=>ar ?_
  repeat' first|refine af ?_|simp only[dV,e0,c3,fR,c5,tS,vH,d,f1,f2,f3,f4]|refine ag ?_|refine ab ?_ ?_<;>intro h<;>try exact aa|fail
  all_goals exact b0
 have f4:=decide_eq_false f;rw[if_neg f];by_cases g:w=cM
 .have f5:=decide_eq_true g;rw[if_pos g];refine az {} 0 func114 fun Γ an=>ar ?_
  repeat' first|refine af ?_|simp only[dV,e0,c3,fR,c5,tS,vH,d,f1,f2,f3,f4,f5]|refine ag ?_|refine ab ?_ ?_<;>intro h<;>try exact aa|fail
  all_goals exact b0
 have f5:=decide_eq_false g;rw[if_neg g];by_cases j:w=ee
 .have f6:=decide_eq_true j;rw[if_pos (.inl j)];refine az {} 0 func114 fun Γ an=>ar ?_
  repeat' first|refine af ?_|simp only[dV,e0,c3,fR,c5,tS,vH,d,f1,f2,f3,f4,f5,f6]|refine ag ?_|refine ab ?_ ?_<;>intro h<;>try exact aa|fail
  all_goals exact b0
 have f6:=decide_eq_false j;by_cases m:w=fu
 .have f7:=decide_eq_true m;rw[if_pos (.inr m)];exact Rr
 have f7:=decide_eq_false m;rw[if_neg (fun q=>q.elim j m)];exact Rr
end Go.Proofs.YtdiobdlinjgakaaGreatDoor.R
