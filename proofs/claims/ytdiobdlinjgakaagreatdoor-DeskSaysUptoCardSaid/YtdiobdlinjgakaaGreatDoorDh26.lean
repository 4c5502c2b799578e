import Derived.Test.YtdiobdlinjgakaaGreatDoorDh20
import Derived.Test.YtdiobdlinjgakaaGreatDoorDh25
set_option linter.unusedVariables false
set_option linter.unusedSimpArgs false
set_option maxHeartbeats 8000000
set_option maxRecDepth 100000
open Go.Proofs.Tryz
open Go.IntKind renaming i64->_a,u16->_c,u64->_f,u8->_q
open List renaming getElem?_eq_getElem->_b,foldl_cons->_d,foldl_nil->_i,getElem?_append->_j,getElem?_set->_k,ext_getElem?->_l,length_set->_m,take_set->_o
open Go.IntWalk renaming i64_in->_e,u16_in->_p
open Int renaming toNat_natCast->_g,emod_nonneg->_n
open Decidable renaming byContradiction->_h
namespace Go.Proofs.YtdiobdlinjgakaaGreatDoor
def c4(t:List UInt8)(i:Nat)(n:Int):List UInt8:=(t.set i (u8 (n/256))).set (i+1) (u8 n)
theorem jV(t:List UInt8)(i:Nat)(n:Int):(c4 t i n).length=t.length:=by unfold c4;simp
theorem qn(t:List UInt8)(i:Nat)(n:Int)(h:i+1<t.length)(k:Nat):(c4 t i n)[k]?=if k=i then some (u8 (n/256))else if k=i+1 then some (u8 n)else t[k]?:=by
 unfold c4;rw[_k,_k,_m];by_cases h1:k=i
 .rw[if_pos h1,if_neg G,if_pos h1.symm,if_pos G]
 rw[if_neg h1];by_cases h2:k=i+1
 .rw[if_pos h2,if_pos h2.symm,if_pos G]
 rw[if_neg h2,if_neg G,if_neg G]
theorem tg(t:List UInt8)(i:Nat)(n:Int)(h:i+1<t.length)(b:0<=n)(h1:n<=65535):ao (c4 t i n) i=n:=by
 unfold ao;rw[qn t i n h,qn t i n h,if_pos rfl,if_neg G,if_pos rfl];show 256*((u8 (n/256)).toNat:Int)+((u8 n).toNat:Int)=n;rw[zp,zp];omega
theorem qB(t:List UInt8)(i k:Nat)(n:Int)(h:i+1<t.length)(b:k+1<i\/i+1<k):ao (c4 t i n) k=ao t k:=by
 unfold ao;rw[qn t i n h,qn t i n h,if_neg G,if_neg G,if_neg G,if_neg G]
theorem afR(t:List UInt8)(i L:Nat)(n:Int):(c4 t i n).take L=c4 (t.take L) i n:=by unfold c4;rw[_o,_o]
theorem acd(n:Int)(k:Nat):(a1 n)[k]?=if k=0 then some (u8 (n/256))else if k=1 then some (u8 n)else none:=by
 unfold a1;match k with
 |0=>rfl
 |1=>rfl
 |k+2=>simp
theorem pC(t:List UInt8)(i:Nat)(n:Int)(h:i+1<t.length):t.take i++a1 n++t.drop (i+2)=c4 t i n:=by
 refine _l fun k=>?_
 rw[qn t i n h,_j,_j,List.getElem?_take,List.getElem?_drop,acd];simp only[List.length_append,List.length_take,iB];rw[Nat.min_eq_left G];by_cases h1:k<i
 .rw[if_pos G,if_pos h1,if_pos h1,if_neg G,if_neg G]
 by_cases h2:k=i
 .rw[if_pos G,if_neg h1,if_pos G,if_pos h2]
 by_cases b:k=i+1
 .rw[if_pos G,if_neg h1,if_neg G,if_pos G,if_neg h2,if_pos b]
 rw[if_neg G,if_neg h2,if_neg b];congr 1;omega
def kk(c o n:Int):Int:=65535-ck ((65535-c)+(65535-o)+n)
theorem uK(c o n:Int)(b:c<=65535)(f:o<=65535)(g:0<=n):0<=kk c o n/\kk c o n<=65535:=by
 have:=kc ((65535-c)+(65535-o)+n) G;unfold kk;omega
def rL(o n:Int)(t:List UInt8)(c:Nat):List UInt8:=c4 t c (kk (ao t c) o n)
theorem alB(o n:Int)(t:List UInt8)(c:Nat):(rL o n t c).length=t.length:=jV _ _ _
def jO(t:List UInt8)(i:Nat)(n:Int)(b:List Nat):List UInt8:=b.foldl (rL (ao t i) n) (c4 t i n)
theorem HX(o n:Int):∀(b:List Nat)(t:List UInt8),(b.foldl (rL o n) t).length=t.length
 |[],t=>rfl
 |c::r,t=>by rw[_d,HX o n r,alB]
theorem rh(t:List UInt8)(i:Nat)(n:Int)(b:List Nat):(jO t i n b).length=t.length:=by unfold jO;rw[HX,jV]
def hS(c:Int):List Int->Int
 |o::n::r=>hS (kk c o n) r
 |_=>c
theorem BH:∀(m:Nat)(l:List Int)(c:Int),l.length<=m->(∀x∈l,0<=x/\x<=65535)->0<=c/\c<=65535->0<=hS c l/\hS c l<=65535
 |0,[],c,_,_,b=>b
 |m+1,[],c,_,_,b=>b
 |m+1,[a],c,_,_,b=>b
 |m+1,o::n::r,c,hl,h,b=>by
  rw[hS];refine BH m r _ (by simp at hl;omega) (fun x aP=>h x oT) ?_;have h1:=h o aF;have h2:=h n aF;exact uK c o n b.2 h1.2 h2.1
def cK(p:Int):Nat:=if p=17 then 6 else 16
def oi(s:List UInt8)(h:Nat)(p:Int):Bool:=decide (p=17/\ao s (h+cK p)=0)
def o7(s:List UInt8)(h:Nat)(p:Int):List Nat:=if oi s h p=true then[]else[h+cK p]
def lK(s:List UInt8)(h:Nat)(p a c:Int)(b off:Nat):List UInt8:=
 jO (jO (jO s b (a/65536) (10::o7 s h p)) (b+2) (a%65536) (10::o7 s h p)) (h+off) c (o7 s h p)
def qs(s:List UInt8)(h:Nat)(p a b:Int)(c off:Nat):List UInt8:=
 if p=17/\oi s h p=false/\ao (lK s h p a b c off) (h+cK p)=0 then c4 (lK s h p a b c off) (h+cK p) 65535 else lK s h p a b c off
def uk(p c:Int):Int:=if p=17/\c=0 then 65535 else c
def ve(s:List UInt8)(h:Nat)(p a c:Int)(b off:Nat):Int:=
 if p=6\/0<ao s (h+cK p)then
  uk p (hS (ao s (h+cK p)) [ao s b,a/65536,ao s (b+2),a%65536,ao s (h+off),c])
 else ao s (h+cK p)
def ln(s:List UInt8)(a:Int)(b:Nat):Int:=hS (ao s 10) [ao s b,a/65536,ao s (b+2),a%65536]
def sP(s:List UInt8)(h:Nat)(p a c:Int)(b off:Nat):List UInt8:=
 c4 (c4 (c4 (c4 (c4 s 10 (ln s a b)) b (a/65536)) (b+2) (a%65536)) (h+off) c) (h+cK p) (ve s h p a c b off)
theorem RQ(c o n:Int)(r:List Int):hS c (o::n::r)=hS (kk c o n) r:=rfl
theorem ajB(t:List UInt8)(i:Nat)(h:i+1<t.length):c4 t i (ao t i)=t:=by
 refine _l fun k=>?_
 have ah:=(t[i]?.getD 0).toNat_lt;have ai:=(t[i+1]?.getD 0).toNat_lt;have c:u8 (ao t i/256)=t[i]?.getD 0:=by
  apply UInt8.toNat_inj.1;have:=zp (ao t i/256);unfold ao at this⊢;omega
 have f:u8 (ao t i)=t[i+1]?.getD 0:=by
  apply UInt8.toNat_inj.1;have:=zp (ao t i);unfold ao at this⊢;omega
 rw[qn t i _ h,c,f];split
 .rename_i b;rw[b,_b (G:i<t.length)];rfl
 split
 .rename_i b;rw[b,_b h];rfl
 rfl
theorem WK{p c:Int}(h:p=17/\c=0):uk p c=65535:=by unfold uk;rw[if_pos h]
theorem LQ{p c:Int}(h:¬(p=17/\c=0)):uk p c=c:=by unfold uk;rw[if_neg h]
theorem YX(t:List UInt8)(i:Nat)(w:Int)(h:i+1<t.length)(b:w=ao t i):c4 t i w=t:=by rw[b,ajB t i h]
theorem akk(s:List UInt8)(h:Nat)(p a c:Int)(b off:Nat)(O:p=6\/p=17)(Q:20<=h)(hl:h+cK p+1<s.length)(U:0<=a/\a<4294967296)(X:0<=c/\c<=65535)(j:(b=12/\off=0)\/(b=16/\off=2)):qs s h p a c b off=sP s h p a c b off:=by
 have Y:6<=cK p:=y0;have ah:=di s 10;have ai:=di s b;have u:=di s (b+2);have v:=di s (h+cK p);have x:=di s (h+off);have t1:=uK (ao s 10) (ao s b) (a/65536) ah.2 ai.2 G;have t2:=uK (kk (ao s 10) (ao s b) (a/65536)) (ao s (b+2)) (a%65536) t1.2 u.2 G;have z:=uK (ao s (h+cK p)) (ao s b) (a/65536) v.2 ai.2 G;have C:=uK (kk (ao s (h+cK p)) (ao s b) (a/65536)) (ao s (b+2)) (a%65536) z.2 u.2 G;have c3:=uK (kk (kk (ao s (h+cK p)) (ao s b) (a/65536)) (ao s (b+2)) (a%65536)) (ao s (h+off)) c C.2 x.2 G;by_cases f:oi s h p=true
 .have m:=f;unfold oi at m;obtain⟨rfl,Z⟩:=of_decide_eq_true m;have g:o7 s h 17=[]:=by unfold o7;rw[if_pos f]
  have I:ve s h 17 a c b off=ao s (h+cK 17):=by unfold ve;rw[if_neg G]
  unfold qs sP;rw[if_neg (by rw[f];simp),I];unfold lK ln;rw[g];simp only[jO,_d,_i,rL,RQ,hS];generalize aa:(17:Int)=p at *;rcases j with⟨rfl,rfl⟩|⟨rfl,rfl⟩
  .simp(disch:=(first|omega|simp only[jV];omega)) only[tg,qB];refine Eq.trans ?_ (YX _ _ _ ?_ ?_).symm;rotate_left
   .exact w9
   .exact Of
   exact N9
  simp(disch:=(first|omega|simp only[jV];omega)) only[tg,qB];refine Eq.trans ?_ (YX _ _ _ ?_ ?_).symm;rotate_left
  .exact w9
  .exact Of
  exact S7
 have g:o7 s h p=[h+cK p]:=by unfold o7;rw[if_neg f]
 have m:¬(p=17/\ao s (h+cK p)=0):=by unfold oi at f;simpa using f
 have J:oi s h p=false:=by simpa using f
 have M:ao (lK s h p a c b off) (h+cK p)=kk (kk (kk (ao s (h+cK p)) (ao s b) (a/65536)) (ao s (b+2)) (a%65536)) (ao s (h+off)) c:=by
  unfold lK;rw[g];simp only[jO,_d,_i,rL];rcases j with⟨rfl,rfl⟩|⟨rfl,rfl⟩;all_goals simp(disch:=(first|omega|simp only[jV];omega)) only[tg,qB]
 unfold qs sP ve;rw[M,if_pos (G:p=6\/0<ao s (h+cK p))];simp only[RQ,hS,ln,J,true_and];split
 all_goals
  rename_i q;first|rw[WK q]|rw[LQ q]
  clear q;unfold lK;rw[g];simp only[jO,_d,_i,rL];rcases j with⟨rfl,rfl⟩|⟨rfl,rfl⟩
  .simp(disch:=(first|omega|simp only[jV];omega)) only[tg,qB];exact N9
  simp(disch:=(first|omega|simp only[jV];omega)) only[tg,qB];exact S7
attribute [local irreducible] bc Go
theorem zH(t:List UInt8)(i:Nat)(h:i<t.length):cf (fk t) i=[.v (.int .u8 (au t i:Nat))]:=by
 obtain⟨b,c⟩:∃b,t[i]?=some b:=⟨_,_b h⟩;rw[C9 c];exact h7 (fun b:UInt8=>[.v (.int .u8 (b.toNat:Int))]) t i b c
theorem Ws(t:List UInt8)(i:Nat)(a:Int):hv (fk t) i [.v (.int .u8 (_q.wrap a))]=fk (t.set i (u8 a)):=by
 rw[Gr];exact aj4 (fun b:UInt8=>[O.v (.int .u8 (b.toNat:Int))]) t i (u8 a)
theorem yd(n:Int)(b:0<=n)(h1:n<2 ^ 16):_c.wrap n=n:=_p _ G
theorem aiw(a b:Nat)(c:a<256)(f:b<256):bits .or .u16 (_c.wrap ((a:Int)*2 ^ 8)) (b:Nat)=256*(a:Int)+(b:Nat):=by
 rw[yd _ G G,bits_join .u16 16 ae yd 8 _ _ G G G G G G];omega
theorem L6(c o n:Int)(f:0<=c/\c<=65535)(g:0<=o/\o<=65535)(O:0<=n/\n<=65535):Spec prog 254 [.v (.int .u16 c),.v (.int .u16 o),.v (.int .u16 n)] (.v (.int .u16 (kk c o n))):=by
 have m:_c.signed=false:=rfl;have h1:=tP c f.1 f.2;have h2:=tP o g.1 g.2;have q:_f.wrap (65535-c)=65535-c:=jo _ G G;have u:_f.wrap (65535-o)=65535-o:=jo _ G G;have z:_f.wrap n=n:=jo _ G G;have C:_f.wrap (65535-c+(65535-o))=65535-c+(65535-o):=jo _ G G;have I:_f.wrap (65535-c+(65535-o)+n)=65535-c+(65535-o)+n:=jo _ G G;have M:=D5 (65535-c+(65535-o)+n) G G;have j:=kc (65535-c+(65535-o)+n) G;have aP:=tP _ j.1 j.2;refine az {} 0 func254 fun Γ an=>ar ?_
 repeat' first|refine af ?_|simp only[m]|simp only[h1]|simp only[h2]|simp only[q]|simp only[u]|simp only[z,C,I]|refine J M ?_|refine ag ?_|refine ab ?_ ?_<;>intro h<;>try exact aa|exact al|fail
 all_goals exact Yh
theorem Bg(t:List UInt8)(i len:Nat)(b:Bool)(n:Nat)(C:i+1<len)(hl:len<=t.length)(I:len<=140737488351232):b1 prog 287 [.aG 0 n 1 0 len b,.v (.int .i64 (i:Nat))] [some ⟨n,1,fk t⟩] (fun d H=>d=.v (.int .u16 (ao t i))/\H=[some ⟨n,1,fk t⟩]):=by
 have c:=zH t i G;have f:=zH t (i+1) G;have oI:=eQ t i;have ah:=eQ t (i+1);have g:_c.wrap (au t i:Nat)=(au t i:Nat):=yd _ G G;have j:_c.wrap (au t (i+1):Nat)=(au t (i+1):Nat):=yd _ G G;have m:min 8 _c.bits=8:=rfl;have q:=aiw (au t i) (au t (i+1)) oI ah;have J:=i_ t;have u:_a.wrap ((i:Int)+1)=((i+1:Nat):Int):=er;refine ej {} 0 func287 fun Γ z M=>ar ?_
 have bd:n<Γ.g0:=z 0 _ rfl;repeat' first|refine af ?_|simp only[u,_g,Nat.zero_add,c,f]|simp only[m,g,j]|simp only[q]|refine ag ?_|refine ab ?_ ?_<;>intro h<;>try exact aa|exact al|fail
 exact DJ
theorem LF(t:List UInt8)(i len:Nat)(c:Bool)(n:Nat)(w:Int)(J:i+1<len)(hl:len<=t.length)(M:len<=140737488351232):b1 prog 289 [.aG 0 n 1 0 len c,.v (.int .i64 (i:Nat)),.v (.int .u16 w)] [some ⟨n,1,fk t⟩] (fun d H=>d=.aS []/\H=[some ⟨n,1,fk (c4 t i w)⟩]):=by
 have f:=zH t i G;have g:=zH (t.set i (u8 (w/256))) (i+1) c7;have j:=Ws t i (w/256);have m:=Ws (t.set i (u8 (w/256))) (i+1) w;have q:min 8 _c.bits=8:=rfl;have Q:=i_ t;have u:=(i_ (t.set i (u8 (w/256)))).trans (_m ..);have f8:w.fdiv (2 ^ 8)=w/256:=Int.fdiv_eq_ediv_of_nonneg _ ae;have z:_a.wrap ((i:Int)+1)=((i+1:Nat):Int):=er;have C:∀(a b:O),iX [a] 0 [b]=[b]:=fun _ _=>rfl
 refine ej {} 0 func289 fun Γ I U=>ar ?_
 have bd:n<Γ.g0:=I 0 _ rfl;repeat' first|refine af ?_|simp only[z,_g,Nat.zero_add,f]|simp only[q,f8]|simp only[j]|simp only[g]|simp only[C]|simp only[m]|refine ag ?_|refine ab ?_ ?_<;>intro h<;>try exact aa|refine aK ⟨by rw[u];omega,aH,aH⟩ ?_|exact al|fail
 exact DJ
abbrev EI(c:Nat):List O:=[.v (.int .i64 (c:Nat))]
theorem aka{α c:Type}(f:c->α->c)(a:α)(b:c)(l:List α)(k:Nat)(h:l[k]?=some a):(l.take (k+1)).foldl f b=f ((l.take k).foldl f b) a:=by rw[List.take_add_one,h,List.foldl_append];rfl
theorem rC(t:List UInt8)(i len:Nat)(g:Bool)(n:Nat)(w:Int)(f:List Nat)(C:Bool)(u:i+1<len)(hl:len<=t.length)(j:len<=140737488351232)(I:0<=w/\w<=65535)(M:∀c∈f,c+1<len)(ai:f.length<=1000):b1 prog 288 [.aG 0 n 1 0 len g,.v (.int .i64 (i:Nat)),.v (.int .u16 w),.snap 1 (f.map EI) C] [some ⟨n,1,fk t⟩] (fun d H=>d=.aS []/\H=[some ⟨n,1,fk (jO t i w f)⟩]):=by
 have O:=Bg t i len g n u hl j;have ay:=LF t i len g n w u hl j;have fh:=di t i;refine ej {} 0 func288 fun Γ Q aj=>ar ?_
 have bd:n<Γ.g0:=Q 0 _ rfl;unfold jO;generalize ao t i=o at *;repeat' first|refine af ?_|(with_reducible refine bE 0 ?_ O (fun _ _ _ h=>h) ?_);(exact rfl)|(with_reducible refine bE 0 ?_ ay (fun _ _ _ h=>h) ?_);(exact rfl)|refine ag ?_|refine ab ?_ ?_<;>intro h<;>try exact aa|fail
 refine bS (α:=Nat) (fun k=>[(⟨.d0,.d2,.d4⟩,.v (.int .i64 (k:Nat)))]) (fun k=>[(0,some ⟨n,1,fk ((f.take k).foldl (rL o w) (c4 t i w))⟩)]) (fun _=>Γ.g0) (fun k=>f.length-k) (fun k=>k<=f.length) 0 (Nat.zero_le _) ?_ ?_
 .exact bs
 intro k U;dsimp only at U⊢;refine bz ?_;by_cases m:k<f.length
 .obtain⟨c,q⟩:∃c,f[k]?=some c:=⟨_,_b m⟩;have X:=h7 EI f k c q;have z:=M c (List.mem_of_getElem? q);have ak:=(HX o w (f.take k) (c4 t i w)).trans (jV t i w);have Y:=aka (rL o w) c (c4 t i w) f k q;generalize (f.take k).foldl (rL o w) (c4 t i w)=tk at *;have Z:=di tk c;have ac:=Bg tk c len g n z G j;have ae:=L6 (ao tk c) o w Z fh I;have ah:=LF tk c len g n (kk (ao tk c) o w) z G j;repeat' first|refine af ?_|simp only[_g,X]|(with_reducible refine bE 0 ?_ ac (fun _ _ _ h=>h) ?_);(exact rfl)|refine J ae ?_|(with_reducible refine bE 0 ?_ ah (fun _ _ _ h=>h) ?_);(exact rfl)|refine ag ?_|refine ab ?_ ?_<;>intro h<;>try exact aa|exact al|fail
  refine br ⟨k+1,m,Nat.sub_lt_sub_left m (Nat.lt_succ_self k),?_⟩;rw[Y];exact jJ
 obtain rfl:k=f.length:=G;rw[List.take_length];exact RS
theorem Ek(l:List UInt8)(i:Nat)(f:i+1<l.length)(hl:l.length<=9223372036854775806)(b:Int)(c:b=(i:Nat)):Spec prog 227 [.v (.string (I l)),.v (.int .i64 b)] (.v (.int .i64 (ao l i))):=by
 subst c;have g:=eQ l i;have j:=eQ l (i+1);have a_:_a.wrap (au l i:Nat)=(au l i:Nat):=_e _ G;have a8:_a.wrap (au l (i+1):Nat)=(au l (i+1):Nat):=_e _ G;have dk:_a.wrap ((i:Int)+1)=((i+1:Nat):Int):=er;have pd:bits .or .i64 (_a.wrap ((au l i:Nat)*2 ^ 8)) (au l (i+1):Nat)=ao l i:=JY _ _ G G G G;refine az {} 0 func227 fun Γ an=>ar ?_
 exact MP
theorem Ll(n:Int):Spec prog 99 [.v (.int .i64 n)] (.v (.bool (decide (0<=n/\n<=65535)))):=by
 refine az {} 0 func99 fun Γ an=>ar ?_
 exact L9
abbrev Hf(f t:Int)(d:List UInt8):O:=.agg [.v (.int .i64 f),.v (.int .i64 t),.v (.string (I d))]
abbrev Nb(r:List UInt8×Int):O:=.aS [.v (.string (I r.1)),.v (.int .i64 r.2)]
def mP(f t n:Int):List UInt8:=a1 f++a1 t++a1 n
def zC(f t:Int)(d:List UInt8)(a b:Int):Int:=
 if ck (bP (dC a b 17 ((d.length:Int)+8)++mP f t ((d.length:Int)+8)++d))=65535 then 65535 else 65535-ck (bP (dC a b 17 ((d.length:Int)+8)++mP f t ((d.length:Int)+8)++d))
def gx(f t:Int)(d:List UInt8)(a b:Int):List UInt8×Int:=
 if¬((0<=f/\f<=65535)/\(0<=t/\t<=65535))then([],1)else if 65507<d.length then([],2)else(mP f t ((d.length:Int)+8)++a1 (zC f t d a b)++d,0)
theorem af5(f t n:Int)(d:List UInt8)(a b p c:Int):bP (dC a b p c++(a1 f++a1 t)++a1 n++a1 0++d)=bP (dC a b p c++mP f t n++d):=by
 have h1:(dC a b p c++(a1 f++a1 t)++a1 n).length%2=0:=by simp[mb,iB]
 have h2:(dC a b p c++(a1 f++a1 t)++a1 n++a1 0).length%2=0:=by simp[mb,iB]
 have g:bP (a1 0)=0:=ae;have e:dC a b p c++mP f t n=dC a b p c++(a1 f++a1 t)++a1 n:=by unfold mP;simp
 rw[e,mV _ d h2,mV _ _ h1,mV _ d h1,g];omega
theorem ae4(f t:Int)(d:List UInt8)(a b:Int)(m:0<=a/\a<4294967296)(u:0<=b/\b<4294967296)(z:d.length<=140737488351232):Spec prog 52 [Hf f t d,.v (.int .u32 a),.v (.int .u32 b)] (Nb (gx f t d a b)):=by
 by_cases bV:0<=f/\f<=65535
 .by_cases bT:0<=t/\t<=65535
  .by_cases hl:65507<d.length
   .have g:gx f t d a b=([],2):=by unfold gx;rw[if_neg (not_not_intro ⟨bV,bT⟩),if_pos hl]
    rw[g];exact Bm
   have g:gx f t d a b=(mP f t ((d.length:Int)+8)++a1 (zC f t d a b)++d,0):=RA;rw[g];have a_:_a.wrap (8+(d.length:Nat))=(d.length:Int)+8:=er;have cG:=FQ a b 17 ((d.length:Int)+8) m u;have aj:=Ja (dC a b 17 ((d.length:Int)+8)++(a1 f++a1 t++a1 ((d.length:Int)+8))++d) X8;have C:=kc (bP (dC a b 17 ((d.length:Int)+8)++(a1 f++a1 t++a1 ((d.length:Int)+8))++d)) (kT _).1;unfold zC mP;generalize ck (bP (dC a b 17 ((d.length:Int)+8)++(a1 f++a1 t++a1 ((d.length:Int)+8))++d))=c at *;have a8:_a.wrap (65535-c)=65535-c:=_e _ G;have dk:_a.wrap 65535=65535:=ae;by_cases j:c=65535
   .rw[if_pos j];exact Bm
   rw[if_neg j];exact Bm
  have g:gx f t d a b=([],1):=Pg;rw[g];exact Bm
 have g:gx f t d a b=([],1):=Oq;rw[g];exact Bm
theorem Wa(f t:Int)(d:List UInt8)(a b:Int)(m:0<=a/\a<4294967296)(u:0<=b/\b<4294967296)(z:d.length<=140737488351232):Spec prog 70 [Hf f t d,.v (.int .u32 a),.v (.int .u32 b)] (Nb (gx f t d a b)):=by
 have a_:_a.wrap ((d.length:Nat)+8)=(d.length:Int)+8:=_e _ G;by_cases bV:0<=f/\f<=65535
 .by_cases bT:0<=t/\t<=65535
  .by_cases hl:65507<d.length
   .have g:gx f t d a b=([],2):=by unfold gx;rw[if_neg (not_not_intro ⟨bV,bT⟩),if_pos hl]
    rw[g];exact Bw
   have g:gx f t d a b=(mP f t ((d.length:Int)+8)++a1 (zC f t d a b)++d,0):=RA;rw[g];have cG:=Gk a b 17 ((d.length:Int)+8) m u;have aj:=yw (dC a b 17 ((d.length:Int)+8)++(a1 f++a1 t)++a1 ((d.length:Int)+8)++a1 0++d) X8;rw[af5]at aj;have C:=kc (bP (dC a b 17 ((d.length:Int)+8)++mP f t ((d.length:Int)+8)++d)) (kT _).1;unfold zC;generalize ck (bP (dC a b 17 ((d.length:Int)+8)++mP f t ((d.length:Int)+8)++d))=c at *;unfold mP;by_cases j:c=65535
   .rw[if_pos j];exact Bw
   rw[if_neg j];exact Bw
  have g:gx f t d a b=([],1):=Pg;rw[g];exact Bw
 have g:gx f t d a b=([],1):=Oq;rw[g];exact Bw
def rE(s:List UInt8)(a b:Int):Prop:=ao s 6=0\/ck (bP (dC a b 17 (ao s 4)++s.take (ao s 4).toNat))=65535
instance (s:List UInt8) (a b:Int):Decidable (rE s a b):=by unfold rE;infer_instance
def cD(s:List UInt8)(a b:Int):(Int×Int×List UInt8)×Int:=
 if s.length<8\/(s.length:Int)<ao s 4 then((0,0,[]),3)
 else if¬(8<=ao s 4/\ao s 4<=65515)then((0,0,[]),4)
 else if¬rE s a b then((0,0,[]),5)
 else((ao s 0,ao s 2,(s.drop 8).take ((ao s 4).toNat-8)),0)
abbrev Qc(r:(Int×Int×List UInt8)×Int):O:=.aS [Hf r.1.1 r.1.2.1 r.1.2.2,.v (.int .i64 r.2)]
theorem abH(l:List UInt8)(hl:l.length<=9223372036854775800):Spec prog 136 [.v (.int .i64 0),.v (.string (I l))] (.v (.int .i64 (ck (bP l)))):=by exact S3
theorem sS(s:List UInt8)(a b:Int)(m:0<=a/\a<4294967296)(u:0<=b/\b<4294967296)(hl:s.length<=140737488351232):Spec prog 165 [.v (.string (I s)),.v (.int .u32 a),.v (.int .u32 b)] (Qc (cD s a b)):=by
 by_cases h8:s.length<8
 .have f:cD s a b=((0,0,[]),3):=by unfold cD;rw[if_pos (.inl h8)]
  rw[f];exact uR
 have fr:=Ek s 4 G G 4 rfl;have C:=di s 4;by_cases z:(s.length:Int)<ao s 4
 .have f:cD s a b=((0,0,[]),3):=by unfold cD;rw[if_pos (.inr z)]
  rw[f];generalize ao s 4=n at *;exact uR
 by_cases bV:8<=ao s 4/\ao s 4<=65515
 .have gf:=Ek s 0 G G 0 rfl;have h2:=Ek s 2 G G 2 rfl;have n1:=Ek s 6 G G 6 rfl;have M:=di s 6;have cG:=FQ a b 17 (ao s 4) m u;have aj:=Bq (dC a b 17 (ao s 4)++s.take (ao s 4).toNat) YW;have gh:(I s).extract 0 (ao s 4).toNat=I (s.take (ao s 4).toNat):=r9;have h_:(I s).extract 8 (ao s 4).toNat=I ((s.drop 8).take ((ao s 4).toNat-8)):=fK _ _ _;by_cases bq:rE s a b
  .have f:cD s a b=((ao s 0,ao s 2,(s.drop 8).take ((ao s 4).toNat-8)),0):=by unfold cD;rw[if_neg G,if_neg (not_not_intro bV),if_neg (not_not_intro bq)]
   rw[f];unfold rE at bq;clear f;generalize ck (bP (dC a b 17 (ao s 4)++s.take (ao s 4).toNat))=c at *;generalize ao s 4=n at *;generalize ao s 6=g at *;rcases bq with rfl|rfl
   .exact uR
   by_cases j:g=0
   .subst j;exact uR
   exact uR
  have f:cD s a b=((0,0,[]),5):=Up;rw[f];unfold rE at bq;clear f;generalize ck (bP (dC a b 17 (ao s 4)++s.take (ao s 4).toNat))=c at *;generalize ao s 4=n at *;generalize ao s 6=g at *;have j:¬g=0:=fun q=>bq (.inl q)
  have O:¬c=65535:=fun q=>bq (.inr q)
  clear bq;exact uR
 have f:cD s a b=((0,0,[]),4):=by unfold cD;rw[if_neg G,if_pos bV]
 rw[f];clear f;generalize ao s 4=n at *;exact uR
theorem aet(s:List UInt8)(a b:Int)(m:0<=a/\a<4294967296)(u:0<=b/\b<4294967296)(hl:s.length<=140737488351232):Spec prog 78 [.v (.string (I s)),.v (.int .u32 a),.v (.int .u32 b)] (Qc (cD s a b)):=by
 by_cases h8:s.length<8
 .have f:cD s a b=((0,0,[]),3):=by unfold cD;rw[if_pos (.inl h8)]
  rw[f];exact tR
 have fr:=hk s 4 G G 4 rfl;have C:=di s 4;by_cases z:(s.length:Int)<ao s 4
 .have f:cD s a b=((0,0,[]),3):=by unfold cD;rw[if_pos (.inr z)]
  rw[f];generalize ao s 4=n at *;exact tR
 by_cases bV:8<=ao s 4/\ao s 4<=65515
 .have gf:=hk s 0 G G 0 rfl;have h2:=hk s 2 G G 2 rfl;have n1:=hk s 6 G G 6 rfl;have M:=di s 6;have cG:=Gk a b 17 (ao s 4) m u;have aj:=abH (dC a b 17 (ao s 4)++s.take (ao s 4).toNat) YW;have gh:(I s).extract 0 (ao s 4).toNat=I (s.take (ao s 4).toNat):=r9;have h_:(I s).extract 8 (ao s 4).toNat=I ((s.drop 8).take ((ao s 4).toNat-8)):=fK _ _ _;by_cases bq:rE s a b
  .have f:cD s a b=((ao s 0,ao s 2,(s.drop 8).take ((ao s 4).toNat-8)),0):=by unfold cD;rw[if_neg G,if_neg (not_not_intro bV),if_neg (not_not_intro bq)]
   rw[f];unfold rE at bq;clear f;generalize ck (bP (dC a b 17 (ao s 4)++s.take (ao s 4).toNat))=c at *;generalize ao s 4=n at *;generalize ao s 6=g at *;rcases bq with rfl|rfl
   .exact tR
   by_cases j:g=0
   .subst j;exact tR
   exact tR
  have f:cD s a b=((0,0,[]),5):=Up;rw[f];unfold rE at bq;clear f;generalize ck (bP (dC a b 17 (ao s 4)++s.take (ao s 4).toNat))=c at *;generalize ao s 4=n at *;generalize ao s 6=g at *;have j:¬g=0:=fun q=>bq (.inl q)
  have O:¬c=65535:=fun q=>bq (.inr q)
  clear bq;exact tR
 have f:cD s a b=((0,0,[]),4):=by unfold cD;rw[if_neg G,if_pos bV]
 rw[f];clear f;generalize ao s 4=n at *;exact tR
structure ew where
 (ax to bx bZ b2:Int)
abbrev ew.enc(f:ew):List O:=[.v (.int .u32 f.ax),.v (.int .u32 f.to),.v (.int .i64 f.bx),.v (.int .i64 f.bZ),.v (.int .i64 f.b2)]
def hA:ew:=⟨0,0,0,0,0⟩
abbrev sx(r:ew×Int):O:=.aS [.agg r.1.enc,.v (.int .i64 r.2)]
def jA(p:dZ):ew×Int:=
 if¬(p.bx=6\/p.bx=17)then(hA,7)
 else if p.mo=true\/p.start≠0 then(hA,9)
 else if p.bx=6 then(if(dM p.data p.ax p.to).2=0 then(⟨p.ax,p.to,6,ao p.data 0,ao p.data 2⟩,0)else(hA,(dM p.data p.ax p.to).2))
 else(if(cD p.data p.ax p.to).2=0 then(⟨p.ax,p.to,17,ao p.data 0,ao p.data 2⟩,0)else(hA,(cD p.data p.ax p.to).2))
def bC(s:List UInt8):ew×Int:=if dc s=0 then jA (cv s)else(hA,dc s)
theorem Es{s:List UInt8}{a b:Int}(h:(dM s a b).2=0):(dM s a b).1.ax=ao s 0/\(dM s a b).1.to=ao s 2/\20<=s.length:=by
 unfold dM at h⊢;split at h
 .cases h
 rename_i h1;rw[if_neg h1];split at h
 .cases h
 rename_i h2;rw[if_neg h2];split at h
 .cases h
 rename_i f;rw[if_neg f];cases c:gp ((s.drop 20).take (dJ s-20))with
 |none=>rw[c]at h;cases h
 |some l=>
  rw[c]at h;dsimp only at h⊢;split at h
  .cases h
  rename_i g;rw[if_neg g];exact⟨rfl,rfl,G⟩
theorem M_{s:List UInt8}{a b:Int}(h:(cD s a b).2=0):(cD s a b).1.1=ao s 0/\(cD s a b).1.2.1=ao s 2/\8<=s.length:=by
 unfold cD at h⊢;split at h
 .cases h
 rename_i h1;rw[if_neg h1];split at h
 .cases h
 rename_i h2;rw[if_neg h2];split at h
 .cases h
 rename_i c;rw[if_neg c];exact⟨rfl,rfl,G⟩
theorem Dh(s:List UInt8)(aj:s.length<=140737488351232):Spec prog 104 [.v (.string (I s))] (sx (bC s)):=by
 have aT:=J2 s aj;by_cases j:dc s=0;rotate_left
 .have m:dP s=(xx,dc s):=by unfold dP;rw[if_neg j]
  have u:bC s=(hA,dc s):=by unfold bC;rw[if_neg j]
  rw[m]at aT;rw[u];clear m u;generalize dc s=e at *;unfold xx at aT;unfold hA;exact tp
 have m:dP s=(cv s,0):=by unfold dP;rw[if_pos j]
 have u:bC s=jA (cv s):=by unfold bC;rw[if_pos j]
 have M:(cv s).data.length<=140737488351232:=wJ;have O:0<=(cv s).ax/\(cv s).ax<4294967296:=nN s 12;have Q:0<=(cv s).to/\(cv s).to<4294967296:=nN s 16;have ah:0<=(cv s).start:=_n _ ae;rw[m]at aT;rw[u];clear m u j;generalize cv s=p at *;have bT:=SO p.data p.ax p.to O Q M;have hl:=sS p.data p.ax p.to O Q M;obtain⟨fp,id,h9,mo,start,life,bx,ax,to,opt,data⟩:=p;dsimp only at *;by_cases h1:bx=6\/bx=17;rotate_left
 .have f:jA ⟨fp,id,h9,mo,start,life,bx,ax,to,opt,data⟩=(hA,7):=by unfold jA;rw[if_pos h1]
  rw[f];clear f;unfold hA;exact tp
 by_cases h2:mo=true\/start≠0
 .have f:jA ⟨fp,id,h9,mo,start,life,bx,ax,to,opt,data⟩=(hA,9):=by unfold jA;rw[if_neg (not_not_intro h1),if_pos h2]
  rw[f];clear f;unfold hA;cases mo with
  |true=>exact Va
  |false=>
   have ai:start≠0:=h2.resolve_left aF;exact Va
 obtain⟨rfl,rfl⟩:mo=false/\start=0:=⟨by simpa using fun q=>h2 (.inl q),_h fun q=>h2 (.inr q)⟩;have f:jA ⟨fp,id,h9,false,0,life,bx,ax,to,opt,data⟩=if bx=6 then(if(dM data ax to).2=0 then(⟨ax,to,6,ao data 0,ao data 2⟩,0)else(hA,(dM data ax to).2))else(if(cD data ax to).2=0 then(⟨ax,to,17,ao data 0,ao data 2⟩,0)else(hA,(cD data ax to).2)):=Xk
 rw[f];clear f h2;rcases h1 with rfl|rfl
 .rw[if_pos rfl];by_cases c:(dM data ax to).2=0
  .obtain⟨z,C,U⟩:=Es c;rw[if_pos c];have w0:=True.intro;have bD:=True.intro;generalize ao data 0=v0 at *;generalize ao data 2=X at *;generalize dM data ax to=r at *;obtain⟨g,G⟩:=r;dsimp only at *;subst c z C;exact tp
  rw[if_neg c];generalize dM data ax to=r at *;obtain⟨g,G⟩:=r;dsimp only at *;unfold hA;exact tp
 rw[if_neg ae];by_cases c:(cD data ax to).2=0
 .obtain⟨z,C,U⟩:=M_ c;rw[if_pos c];have w0:=True.intro;have bD:=True.intro;generalize ao data 0=v0 at *;generalize ao data 2=X at *;generalize cD data ax to=r at *;obtain⟨⟨Y,Z,ac⟩,G⟩:=r;dsimp only at *;subst c z C;exact tp
 rw[if_neg c];generalize cD data ax to=r at *;obtain⟨⟨Y,Z,ac⟩,G⟩:=r;dsimp only at *;unfold hA;exact tp
theorem x1(s:List UInt8)(aj:s.length<=140737488351232):Spec prog 31 [.v (.string (I s))] (sx (bC s)):=by
 have aT:=SR s aj;by_cases j:dc s=0;rotate_left
 .have m:dP s=(xx,dc s):=by unfold dP;rw[if_neg j]
  have u:bC s=(hA,dc s):=by unfold bC;rw[if_neg j]
  rw[m]at aT;rw[u];clear m u;generalize dc s=e at *;unfold xx at aT;unfold hA;exact sM
 have m:dP s=(cv s,0):=by unfold dP;rw[if_pos j]
 have u:bC s=jA (cv s):=by unfold bC;rw[if_pos j]
 have O:(cv s).data.length<=140737488351232:=wJ;have Q:0<=(cv s).ax/\(cv s).ax<4294967296:=nN s 12;have U:0<=(cv s).to/\(cv s).to<4294967296:=nN s 16;have ai:0<=(cv s).start:=_n _ ae;rw[m]at aT;rw[u];clear m u j;generalize cv s=p at *;have bT:=acw p.data p.ax p.to Q U O;have hl:=aet p.data p.ax p.to Q U O;obtain⟨fp,id,h9,mo,start,life,bx,ax,to,opt,data⟩:=p;dsimp only at *;by_cases h1:bx=6\/bx=17;rotate_left
 .have f:jA ⟨fp,id,h9,mo,start,life,bx,ax,to,opt,data⟩=(hA,7):=by unfold jA;rw[if_pos h1]
  rw[f];clear f;unfold hA;exact sM
 by_cases h2:mo=true\/start≠0
 .have f:jA ⟨fp,id,h9,mo,start,life,bx,ax,to,opt,data⟩=(hA,9):=by unfold jA;rw[if_neg (not_not_intro h1),if_pos h2]
  rw[f];clear f;unfold hA;cases mo with
  |true=>exact PX
  |false=>
   have ak:start≠0:=h2.resolve_left aF;exact PX
 obtain⟨rfl,rfl⟩:mo=false/\start=0:=⟨by simpa using fun q=>h2 (.inl q),_h fun q=>h2 (.inr q)⟩;have f:jA ⟨fp,id,h9,false,0,life,bx,ax,to,opt,data⟩=if bx=6 then(if(dM data ax to).2=0 then(⟨ax,to,6,ao data 0,ao data 2⟩,0)else(hA,(dM data ax to).2))else(if(cD data ax to).2=0 then(⟨ax,to,17,ao data 0,ao data 2⟩,0)else(hA,(cD data ax to).2)):=Xk
 rw[f];clear f h2;rcases h1 with rfl|rfl
 .rw[if_pos rfl];by_cases c:(dM data ax to).2=0
  .obtain⟨z,C,X⟩:=Es c;rw[if_pos c];have w0:=hk data 0 G G 0 rfl;have bD:=hk data 2 G G 2 rfl;generalize ao data 0=v0 at *;generalize ao data 2=Y at *;generalize dM data ax to=r at *;obtain⟨g,M⟩:=r;dsimp only at *;subst c z C;exact sM
  rw[if_neg c];generalize dM data ax to=r at *;obtain⟨g,M⟩:=r;dsimp only at *;unfold hA;exact sM
 rw[if_neg ae];by_cases c:(cD data ax to).2=0
 .obtain⟨z,C,X⟩:=M_ c;rw[if_pos c];have w0:=hk data 0 G G 0 rfl;have bD:=hk data 2 G G 2 rfl;generalize ao data 0=v0 at *;generalize ao data 2=Y at *;generalize cD data ax to=r at *;obtain⟨⟨Z,ac,ah⟩,M⟩:=r;dsimp only at *;subst c z C;exact sM
 rw[if_neg c];generalize cD data ax to=r at *;obtain⟨⟨Z,ac,ah⟩,M⟩:=r;dsimp only at *;unfold hA;exact sM
end Go.Proofs.YtdiobdlinjgakaaGreatDoor
