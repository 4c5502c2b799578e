import Derived.Test.YtdiobdlinjgakaaGreatDoorDh05
set_option linter.unusedVariables false
set_option linter.unusedSimpArgs false
set_option maxHeartbeats 8000000
set_option maxRecDepth 100000
open Go.Proofs.Tryz
open List renaming getElem?_eq_getElem->_a,getElem?_eq_some_iff->_c,mem_iff_getElem?->_f,all_eq_true->_i,take_add_one->_j,drop_eq_getElem_cons->_l,mem_append->_p
open Bool renaming and_eq_true->_b,eq_iff_iff->_d,not_eq_true'->_h
open Int renaming toNat_natCast->_e
open Option.some renaming inj->_g
open Nat renaming zero_le->_k,sub_lt_sub_left->_m,succ_le_of_lt->_n,lt_succ_self->_o
namespace Go.Proofs.YtdiobdlinjgakaaGreatDoor.T
attribute [local irreducible] bc Go
abbrev gz(a b c d:Int):O:=.agg [.v (.int .u32 a),.v (.int .u32 b),.v (.int .i64 c),.v (.int .i64 d)]
abbrev uD(a b c d s o x:Int):List O:=[.v (.int .u32 a),.v (.int .u32 b),.v (.int .i64 c),.v (.int .i64 d),.v (.int .i64 s),.v (.int .i64 o),.v (.int .i64 x)]
abbrev hs(a b c d s o x:Int):O:=.agg (uD a b c d s o x)
theorem cA(n b c:Int):Spec prog 60 [.v (.int .i64 n),.v (.int .i64 b),.v (.int .i64 c)] (.v (.bool (decide (b<=n/\n<=c)))):=by exact CV
theorem Ll(n:Int):Spec prog 280 [.v (.int .i64 n)] (.v (.bool (decide (0<=n/\n<=65535)))):=by
 refine az {} 0 func280 fun Γ an=>ar ?_
 repeat' first|refine af ?_|refine ag ?_|refine ab ?_ ?_<;>intro h<;>try exact aa|fail
 all_goals(refine cI ?_;first|exact cc|try simp only[cE]at *)
 .exact fA (by simp[h])
 exact fA (by simp[h])
theorem ZF(a b c d:Int):Spec prog 268 [gz a b c d] (gz b a d c):=by
 refine az {} 0 func268 fun Γ an=>ar ?_
 exact Ma
theorem xa(a b c d:Int):Spec prog 232 [gz a b c d] (gz b a d c):=by
 refine az {} 0 func232 fun Γ an=>ar ?_
 exact Ma
def qL(a b c d f g j m:Int):Bool:=decide ((a=f/\b=g/\c=j/\d=m)\/(a=g/\b=f/\c=m/\d=j))
theorem MB(a b c d s o x f g j m:Int):Spec prog 174 [hs a b c d s o x,gz f g j m] (.v (.bool (qL a b c d f g j m))):=by
 refine az {} 0 func174 fun Γ an=>ar ?_
 repeat' first|refine af ?_|refine J (xa _ _ _ _) ?_|refine ag ?_|refine ab ?_ ?_<;>intro h<;>try exact aa|fail
 all_goals(refine cI ?_;first|exact cc|try simp only[cE]at *)
 .exact fA TP
 exact fA Sj
theorem Tc(a b c d s o x f g j m:Int):Spec prog 267 [hs a b c d s o x,.bY [.v (.int .u32 f),.v (.int .u32 g),.v (.int .i64 j),.v (.int .i64 m)]] (.v (.bool (qL a b c d f g j m))):=by
 refine az {} 0 func267 fun Γ an=>ar ?_
 repeat' first|refine af ?_|refine J (ZF _ _ _ _) ?_|refine ag ?_|refine ab ?_ ?_<;>intro h<;>try exact aa|fail
 all_goals(refine cI ?_;first|exact cc|try simp only[cE]at *)
 .exact fA TP
 exact fA Sj
def pM(a b c d:Int):Bool:=decide ((0<=c/\c<=65535)/\(0<=d/\d<=65535)/\¬(a=b/\c=d))
theorem GP(a b c d:Int):Spec prog 266 [gz a b c d] (.v (.bool (pM a b c d))):=by
 refine az {} 0 func266 fun Γ an=>ar ?_
 repeat' first|refine af ?_|refine J (Ll _) ?_|refine J (ZF _ _ _ _) ?_|refine ag ?_|refine ab ?_ ?_<;>intro h<;>try exact aa|fail
 all_goals(refine cI ?_;first|exact cc|try simp only[cE]at *)
 all_goals (refine fA ?_;unfold pM;rw[_d];simp;omega)
theorem zm(a b c d:Int):Spec prog 231 [gz a b c d] (.v (.bool (decide ((0<=c/\c<=65535)/\(0<=d/\d<=65535))))):=by
 refine az {} 0 func231 fun Γ an=>ar ?_
 repeat' first|refine af ?_|refine J (cA _ _ _) ?_|refine ag ?_|refine ab ?_ ?_<;>intro h<;>try exact aa|fail
 all_goals(refine cI ?_;first|exact cc|try simp only[cE]at *)
 all_goals (refine fA ?_;rw[_d];simp;omega)
def pO(a b c d s o x:Int):Bool:=pM a b c d&&decide ((0<=x/\x<=1099511627776)/\(((s=1\/s=2)/\o=0)\/(s=3/\0<=o/\o<=2)\/(s=4/\o=3)))
theorem afe(a b c d s o x:Int):Spec prog 247 [hs a b c d s o x] (.v (.bool (pO a b c d s o x))):=by
 refine az {} 0 func247 fun Γ an=>ar ?_
 repeat' first|refine af ?_|refine J (GP _ _ _ _) ?_|refine ag ?_|refine ab ?_ ?_<;>intro h<;>try exact aa|exact al|fail
 all_goals(refine cI ?_;first|exact cc|try simp only[cE]at *)
 all_goals (refine fA ?_;unfold pO;rw[_d];simp[*];(try omega))
theorem abM(a b c d s o x:Int):Spec prog 173 [hs a b c d s o x] (.v (.bool (pO a b c d s o x))):=by
 have aj:(s<1\/4<s)\/s=1\/s=2\/s=3\/s=4:=G;rcases aj with aj|rfl|rfl|rfl|rfl;all_goals
 refine az {} 0 func173 fun Γ an=>ar ?_
 repeat' first|refine af ?_|refine J (zm _ _ _ _) ?_|refine J (xa _ _ _ _) ?_|refine J (cA _ _ _) ?_|refine ag ?_|refine ab ?_ ?_<;>intro h<;>try exact aa|exact al|fail
 all_goals(refine cI ?_;first|exact cc|try simp only[cE]at *)
 all_goals (refine fA ?_;unfold pO pM;rw[_d];simp;omega)
def zP(s:Int):Int:=if s=3 then 3000 else if s=4 then 60 else 30
theorem WH(a b c d s o x now:Int)(f:0<=x/\x<=1099511627776)(g:0<=now/\now<=1099511627776):Spec prog 281 [hs a b c d s o x,.v (.int .i64 now)] (.v (.bool (decide (x+zP s<now)))):=by
 refine az {} 0 func281 fun Γ an=>ar ?_
 repeat' first|refine af ?_|refine ag ?_|refine ab ?_ ?_<;>intro h<;>try exact aa|exact al|fail
 all_goals(refine cI ?_;first|exact cc|try simp only[cE]at *)
 all_goals (refine fA ?_;rw[IntWalk.i64_in (now-x) G];unfold zP;rw[_d];simp[*];(try omega))
theorem RM(a b c d s o x now:Int)(aj:1<=s/\s<=4)(f:0<=x/\x<=1099511627776)(g:0<=now/\now<=1099511627776):Spec prog 182 [hs a b c d s o x,.v (.int .i64 now)] (.v (.bool (decide (x+zP s<now)))):=by
 have aj:s=1\/s=2\/s=3\/s=4:=G;rcases aj with rfl|rfl|rfl|rfl;all_goals
 refine az {} 0 func182 fun Γ an=>ar ?_
 repeat' first|refine af ?_|refine ag ?_|refine ab ?_ ?_<;>intro h<;>try exact aa|exact al|fail
 all_goals(refine cI ?_;first|exact cc|try simp only[cE]at *)
 all_goals (refine fA ?_;rw[IntWalk.i64_in _ G];unfold zP;rw[_d];simp;(try omega))
structure aE where
 (a b c d s o x:Int)
deriving DecidableEq
abbrev aE.enc(t:aE):List O:=uD t.a t.b t.c t.d t.s t.o t.x
def aE.along(t:aE)(a b c d:Int):Bool:=qL t.a t.b t.c t.d a b c d
def aE.form(t:aE):Bool:=pO t.a t.b t.c t.d t.s t.o t.x
theorem RE{g:FuncId}{caps:List O}(p:aE->Bool)(l:List aE)(c:Bool)(hl:l.length<=maxLen)(b8:∀t∈l,Spec prog g (.agg (aE.enc t)::caps) (.v (.bool (p t)))):Spec prog 237 [.snap 7 (l.map aE.enc) c,.fn (.func g) [] caps] (.v (.int .i64 (bU p l 0))):=by
 unfold maxLen at hl;refine az {} 0 func237 fun Γ an=>ar ?_
 repeat' first|refine af ?_|refine ag ?_|refine ab ?_ ?_<;>intro h<;>try exact aa|fail
 refine bS (α:=Nat) (fun k=>[(⟨.d0,.d1,.d0⟩,.v (.int .i64 (k:Nat)))]) (fun _=>[]) (fun _=>Γ.g0) (fun k=>l.length-k) (fun k=>k<=l.length/\bU p l 0=bU p (l.drop k) k) 0 ⟨_k _,rfl⟩ ?_ ?_
 .exact bs
 rintro k ⟨f,a6⟩;refine bz ?_;by_cases aN:k<l.length
 .obtain⟨t,bT⟩:∃t,l[k]?=some t:=⟨_,_a aN⟩;have dU:=h7 aE.enc l k t bT;exact xD
 exact vq
theorem u4(l:List aE)(f:Bool)(hl:l.length<=maxLen)(a b c d:Int):Spec prog 248 [.snap 7 (l.map aE.enc) f,gz a b c d] (.v (.int .i64 (bU (fun t=>t.along a b c d) l 0))):=by
 have g:=RE (g:=267) (caps:=[.bY [.v (.int .u32 a),.v (.int .u32 b),.v (.int .i64 c),.v (.int .i64 d)]]) (fun t=>t.along a b c d) l f hl (fun t _=>Tc t.a t.b t.c t.d t.s t.o t.x a b c d);refine az {} 1 func248 fun Γ an=>ar ?_
 repeat' first|refine dv (hn an ⟨.d0,.d0,.d3⟩ rfl rfl ⟨rfl,rfl,Nat.succ_pos _⟩) ?_|refine af ?_|refine J g ?_|refine ag ?_|refine ab ?_ ?_<;>intro h<;>try exact aa|fail
 all_goals exact bM
def ke(f:List aE)(t:aE):Bool:=t.form&&f.all fun y=>!(decide (t.x<y.x)) && !(y.along t.a t.b t.c t.d)
def gM:List aE->List aE->Bool
 |_,[]=>true
 |pre,t::r=>ke pre t&&gM (pre++[t]) r
def et(l:List aE):Int:=if 64<l.length then 2 else if gM [] l then 0 else 4
theorem ad_{b r:List aE}{t:aE}(h:ke b t=true):gM b (t::r)=gM (b++[t]) r:=by simp[gM,h]
theorem afP{b r:List aE}{t:aE}(h:ke b t=false):gM b (t::r)=false:=by simp[gM,h]
theorem aeZ(t:aE):t.along t.a t.b t.c t.d=true:=by unfold aE.along qL;simp
theorem adz{l:List aE}{k:Nat}{t:aE}(bT:l[k]?=some t)(aj:∀y∈l.take k,∀f,l[k-1]?=some f->y.x<=f.x):
 ke (l.take k) t=true↔t.form=true/\(∀f,0<k->l[k-1]?=some f->f.x<=t.x)/\bU (fun y=>y.along t.a t.b t.c t.d) l 0=k:=by
 have bq:k<l.length:=(_c.1 bT).1;have g:=Er (fun y:aE=>y.along t.a t.b t.c t.d) t (aeZ t) (l.drop (k+1)) (l.take k) 0;have hl:l.take k++t::l.drop (k+1)=l:=WY;rw[hl,List.length_take,Nat.min_eq_left (Nat.le_of_lt bq),Nat.zero_add]at g;rw[g];unfold ke;simp only[_b,_i,_h,decide_eq_false_iff_not];constructor
 .rintro⟨h1,h2⟩;refine⟨h1,fun f j b3=>?_,fun y bB=>(h2 y bB).2⟩;have m:f∈l.take k:=_f.2 ⟨k-1,Qu⟩;have:=(h2 f m).1;omega
 rintro⟨h1,h2,q⟩;refine⟨h1,fun y bB=>⟨?_,q y bB⟩⟩;have j:0<k:=by exact Wt
 obtain⟨f,b3⟩:∃f,l[k-1]?=some f:=⟨_,_a G⟩;have:=aj y bB f b3;have:=h2 f j b3;omega
theorem ah5{l:List aE}{k:Nat}{t:aE}(g:l[k]?=some t)(aj:∀y∈l.take k,∀c,l[k-1]?=some c->y.x<=c.x)(f:ke (l.take k) t=true):∀y∈l.take (k+1),∀c,l[k+1-1]?=some c->y.x<=c.x:=by
 intro y b c j;rw[Nat.add_sub_cancel,g]at j;obtain rfl:=_g j;rw[_j,g]at b;rcases _p.1 b with b|b
 .unfold ke at f;simp only[_b,_i,_h,decide_eq_false_iff_not]at f;have:=(f.2 y b).1;omega
 simp at b;rw[b];exact Bt
theorem Ul{l:List aE}{k:Nat}{t:aE}(b:l[k]?=some t)(f:gM [] l=gM (l.take k) (l.drop k))(g:ke (l.take k) t=true):gM [] l=gM (l.take (k+1)) (l.drop (k+1)):=by
 have c:k<l.length:=(_c.1 b).1;rw[f,_l c,show l[k]=t from _g ((_a c).symm.trans b),ad_ g,_j,b];rfl
theorem Lg{l:List aE}{k:Nat}{t:aE}(b:l[k]?=some t)(f:gM [] l=gM (l.take k) (l.drop k))(g:¬ke (l.take k) t=true):gM [] l=false:=by
 have c:k<l.length:=(_c.1 b).1;rw[f,_l c,show l[k]=t from _g ((_a c).symm.trans b),afP (by simpa using g)]
theorem oj{l:List aE}{k:Nat}{t:aE}(f:l[k]?=some t):cf (l.map aE.enc) k=[.v (.int .u32 t.a),.v (.int .u32 t.b),.v (.int .i64 t.c),.v (.int .i64 t.d),.v (.int .i64 t.s),.v (.int .i64 t.o),.v (.int .i64 t.x)]:=h7 aE.enc l k t f
theorem o8(l:List aE):Spec prog 213 [.snap 7 (l.map aE.enc) false] (.v (.int .i64 (et l))):=by
 refine az {} 0 func213 fun Γ an=>ar ?_
 repeat' first|refine af ?_|refine ag ?_|refine ab ?_ ?_<;>intro h<;>try exact aa|fail
 .exact Uf
 have hl:l.length<=64:=by(simp only[gu,reduceCtorEq]at *<;>omega)
 refine bS (α:=Nat×Nat) (fun k=>[(⟨.d0,.d1,.d2⟩,.v (.int .i64 (k.1:Nat)))]) (fun _=>[]) (fun k=>k.2) (fun k=>l.length-k.1) (fun k=>k.1<=l.length/\gM [] l=gM (l.take k.1) (l.drop k.1)/\∀y∈l.take k.1,∀ff,l[k.1-1]?=some ff->y.x<=ff.x) (0,Γ.g0) ⟨_k _,rfl,fun y bB=>r6⟩ ?_ ?_
 .exact SJ
 rintro⟨k,g⟩ ⟨j,b8,aj⟩;dsimp only at j b8 aj⊢;refine bz ?_;by_cases aN:k<l.length
 .obtain⟨t,bT⟩:∃t,l[k]?=some t:=⟨_,_a aN⟩;have m:=oj bT;have cw:=adz bT aj;obtain⟨ff,b3⟩:∃ff,l[k-1]?=some ff:=⟨_,_a G⟩;have q:=oj b3;have f:0<k->IntKind.i64.wrap ((k:Int)-1)=((k-1:Nat):Int):=fun h=>(IntWalk.i64_in _ G).trans G
  have u:=fun gf:0<k=>(fun(h:ff.x<=t.x) (w:aE) (_:0<k) (f:l[k-1]?=some w)=>(_g (b3.symm.trans f))▸h)
  repeat' first|refine af ?_|refine J (afe _ _ _ _ _ _ _) ?_|with_reducible refine fS (u4 l false fg _ _ _ _) ?_|refine ag ?_|refine ab ?_ ?_<;>intro h<;>try exact aa|simp only[_e,m]|simp only[f (by(simp only[gu,reduceCtorEq]at *<;>omega)),_e,q]|exact al|fail
  .exact E1
  .exact E1
  .exact E1
  .exact Py
  .exact E1
  exact Py
 exact P4
theorem pk(l:List aE):Spec prog 124 [.snap 7 (l.map aE.enc) false] (.v (.int .i64 (et l))):=by
 refine az {} 0 func124 fun Γ an=>ar ?_
 repeat' first|refine af ?_|refine ag ?_|refine ab ?_ ?_<;>intro h<;>try exact aa|fail
 .exact Uf
 have hl:l.length<=64:=by(simp only[gu,reduceCtorEq]at *<;>omega)
 refine bS (α:=Nat×Nat) (fun k=>[(⟨.d0,.d1,.d4⟩,.v (.int .i64 (k.1:Nat)))]) (fun _=>[]) (fun k=>k.2) (fun k=>l.length-k.1) (fun k=>k.1<=l.length/\gM [] l=gM (l.take k.1) (l.drop k.1)) (0,Γ.g0) ⟨_k _,rfl⟩ ?_ ?_
 .exact bs
 rintro⟨k,g⟩ ⟨C,b8⟩;dsimp only at C b8⊢;refine bz ?_;by_cases m:k<l.length
 .obtain⟨t,bT⟩:∃t,l[k]?=some t:=⟨_,_a m⟩;have I:=oj bT;repeat' first|refine af ?_|refine J (abM _ _ _ _ _ _ _) ?_|refine ag ?_|refine ab ?_ ?_<;>intro h<;>try exact aa|simp only[_e,I]|exact al|fail
  .have rV:gM [] l=false:=Lg bT b8 (fun eY=>by
    unfold ke at eY;rw[_b]at eY;rw[show pO t.a t.b t.c t.d t.s t.o t.x=true from eY.1]at h;cases h)
   exact Nl
  have M:cp (cC (l.map aE.enc) 0) ((k:Int)-0).toNat=(l.take k).map aE.enc:=Ki;have O:((l.take k).map aE.enc).length=k:=c7;simp only[M,O];refine bS (α:=Nat×Nat) (fun p=>[(⟨.d0,.d3,.d0⟩,.v (.int .i64 (p.1:Nat)))]) (fun p=>[(1,none)]) (fun p=>p.2) (fun p=>k-p.1) (fun p=>p.1<=k/\∀y∈l.take p.1,¬t.x<y.x/\y.along t.a t.b t.c t.d=false) (0,g+1) ⟨_k _,fun y bB=>r6⟩ ?_ ?_
  .exact SJ
  rintro⟨j,z⟩ ⟨Q,u⟩;dsimp only at Q u⊢;refine bz ?_;by_cases qg:j<k
  .obtain⟨y,bB⟩:∃y,l[j]?=some y:=⟨_,_a G⟩;have U:=oj (l:=l.take k) (k:=j) (t:=y) Eh;repeat' first|refine af ?_|refine J (MB _ _ _ _ _ _ _ _ _ _ _) ?_|refine ag ?_|refine ab ?_ ?_<;>intro h<;>try exact aa|simp only[_e,U]|exact al|fail
   .exact Pp
   .exact Pp
   refine br ?_;refine⟨(j+1,z+1),⟨_n qg,fun X f=>?_⟩,_m qg (_o j),?_⟩
   .rw[_j,bB]at f;rcases _p.1 f with f|f
    .exact u X f
    simp at f;rw[f];exact⟨by(simp only[gu,reduceCtorEq]at *<;>omega),h⟩
   exact uX
  repeat' first|refine af ?_|refine ag ?_|refine ab ?_ ?_<;>intro h<;>try exact aa|exact al|fail
  obtain rfl:j=k:=G;have Y:ke (l.take j) t=true:=by
   unfold ke;simp only[_b,_i,_h,decide_eq_false_iff_not];exact⟨UN,fun y bB=>u y bB⟩
  refine br ?_;refine⟨(j+1,z),⟨_n m,Ul bT b8 Y⟩,_m m (_o j),?_⟩;exact jJ
 exact P4
theorem Gq:∀ {l c:List aE} {j:Nat} {z:aE},gM c l=true->l[j]?=some z->ke (c++l.take j) z=true
 |[],_,_,_,_,h=>fE
 |y::r,c,0,z,b,h=>by
  simp only[gM,_b]at b;simp at h;subst h;simpa using b.1
 |y::r,c,j+1,z,b,h=>by
  simp only[gM,_b]at b;have:=Gq b.2 (j:=j) (z:=z) hc;exact oe
theorem qu{l:List aE}(c:gM [] l=true){b:aE}(f:b∈l):b.form=true:=by
 obtain⟨j,g⟩:=_f.1 f;have:=Gq c g;unfold ke at this;rw[_b]at this;exact this.1
theorem acx{y f:aE}{a b c d:Int}(h1:y.along a b c d=true)(h2:f.along a b c d=true):y.along f.a f.b f.c f.d=true:=by
 unfold aE.along qL at *;simp only[decide_eq_true_eq]at *;omega
theorem alX{l:List aE}(x:gM [] l=true){i j:Nat}{y f:aE}{a b c d:Int}(g:l[i]?=some y)(m:l[j]?=some f)(h1:y.along a b c d=true)(h2:f.along a b c d=true):i=j:=by
 have u:∀ {i j:Nat} {y f:aE},l[i]?=some y->l[j]?=some f->y.along a b c d=true->f.along a b c d=true->¬i<j:=by
  intro i j y f g m h1 h2 z;have q:=Gq x m;unfold ke at q;simp only[_b,_i,List.nil_append,_h]at q;have v:=(q.2 y (_f.2 ⟨i,by rw[List.getElem?_take,if_pos z];exact g⟩)).2;rw[acx h1 h2]at v;cases v
 have C:=u g m h1 h2;have G:=u m g h2 h1;omega
theorem tK{t:aE}(h:t.form=true):(1<=t.s/\t.s<=4)/\0<=t.x/\t.x<=1099511627776:=by
 unfold aE.form pO at h;simp only[_b,decide_eq_true_eq]at h;omega
def pF(l:List aE)(now:Int):Int:=if et l≠0 then et l else if now<0\/1099511627776<now then 1 else 0
def aE.cn(t:aE)(now:Int):Bool:=decide (t.x+zP t.s<now)
theorem gX{l:List aE}(h:et l=0):l.length<=64/\gM [] l=true:=by
 unfold et at h;split at h
 .omega
 split at h
 .rename_i h1 h2;exact⟨G,h2⟩
 omega
theorem IH(l:List aE)(now:Int):(et l≠0/\pF l now=et l)\/(et l=0/\(now<0\/1099511627776<now)/\pF l now=1)\/(et l=0/\(0<=now/\now<=1099511627776)/\pF l now=0):=by
 unfold pF;by_cases h:et l=0
 .rw[if_neg G];by_cases h2:now<0\/1099511627776<now
  .rw[if_pos h2];exact .inr (.inl ⟨h,h2,rfl⟩)
  rw[if_neg h2];exact .inr (.inr ⟨h,G,rfl⟩)
 rw[if_pos h];exact .inl ⟨h,rfl⟩
theorem ab4(l:List aE)(a b c d now:Int)(g:pF l now≠0):Spec prog 271 [.snap 7 (l.map aE.enc) false,gz a b c d,.v (.int .i64 now)] (.aS [hs 0 0 0 0 0 0 0,.v (.bool false),.v (.int .i64 (pF l now))]):=by
 rcases IH l now with⟨h1,h2⟩|⟨h1,h2,f⟩|⟨h1,h2,f⟩
 .rw[h2];exact Vq
 .rw[f];exact Vq
 exact absurd f g
theorem alQ(l:List aE)(a b c d now:Int)(j:pF l now=0)(g:∀t∈l,t.along a b c d=false):Spec prog 271 [.snap 7 (l.map aE.enc) false,gz a b c d,.v (.int .i64 now)] (.aS [hs 0 0 0 0 0 0 0,.v (.bool false),.v (.int .i64 0)]):=by
 obtain⟨h1,h2⟩:et l=0/\0<=now/\now<=1099511627776:=J6;have f:=u4 l false SI a b c d;rw[Md (fun t=>t.along a b c d) l 0 g]at f;refine az {} 0 func271 fun Γ an=>ar ?_
 repeat' first|refine af ?_|refine J (o8 l) ?_|refine J f ?_|refine ag ?_|refine ab ?_ ?_<;>intro h<;>try exact aa|exact al|fail
 all_goals exact bM
theorem akv(l:List aE)(a b c d now:Int)(u:pF l now=0)(i:Nat)(t:aE)(f:l[i]?=some t)(j:bU (fun t:aE=>t.along a b c d) l 0=i):Spec prog 271 [.snap 7 (l.map aE.enc) false,gz a b c d,.v (.int .i64 now)] (.aS [if t.cn now then hs 0 0 0 0 0 0 0 else hs t.a t.b t.c t.d t.s t.o t.x,.v (.bool (!t.cn now)),.v (.int .i64 0)]):=by
 obtain⟨h1,h2⟩:et l=0/\0<=now/\now<=1099511627776:=J6;have g:=u4 l false SI a b c d;rw[j]at g;have m:=oj f;have q:=tK (qu (gX h1).2 (_f.2 ⟨i,f⟩));have z:i<l.length:=(_c.1 f).1;refine az {} 0 func271 fun Γ an=>ar ?_
 repeat' first|refine af ?_|refine J (o8 l) ?_|refine J g ?_|refine J (WH _ _ _ _ _ _ _ _ q.2 h2) ?_|refine ag ?_|refine ab ?_ ?_<;>intro h<;>try exact aa|simp only[_e,m]|exact al|fail
 all_goals(refine cI ?_;first|exact cc|try simp only[cE]at *)
 .rw[show t.cn now=true from decide_eq_true h];rfl
 rw[show t.cn now=false from decide_eq_false h];rfl
end Go.Proofs.YtdiobdlinjgakaaGreatDoor.T
