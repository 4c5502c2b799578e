import Derived.Test.YtdiobdlinjgakaaGreatDoorDh13
set_option linter.unusedVariables false
set_option linter.unusedSimpArgs false
set_option maxHeartbeats 8000000
set_option maxRecDepth 100000
open Go.Proofs.Tryz
open List renaming length_map->_a,length_drop->_b,length_append->_c,length_take->_d,take_length->_e,length_filter_le->_g,getElem?_eq_some_iff->_j,filter->_k,take->_l,mem_of_getElem?->_n,map->_o,drop->_r,drop_eq_nil_of_le->_u,mem_filter->_w,map_append->_x,append_nil->_y
open Nat renaming succ_pos->_f,zero_le->_i,zero_add->_m,le_succ_of_le->_p,le_succ->_t
open Int renaming toNat_natCast->_h,sub_zero->_q,le_trans->_v
open Bool renaming and_eq_true->_s
namespace Go.Proofs.YtdiobdlinjgakaaGreatDoor.T
attribute [local irreducible] bc Go
theorem pJ{α:Type}(f:α->List O)(l:List α):cp (cC (l.map f) 0) l.length=l.map f:=e1 aF
theorem As(l:List aE)(x:aE):l.map aE.enc++[x.enc]=(l++[x]).map aE.enc:=nu
abbrev av(l:List aE)(now:Int):List aE:=l.filter (fun t=>!t.cn now)
def fV:List aE->Int
 |[]=>0
 |[t]=>t.x
 |_::y::r=>fV (y::r)
abbrev hj(t:aE)(a b c d:Int):Bool:=decide (t.a=a)&&(decide (t.b=b)&&(decide (t.c=c)&&decide (t.d=d)))
def j7(l:List aE)(a b c d aM now:Int):Bool:=pM a b c d&&decide ((0<=aM/\aM<=255)/\fV l<=now/\now<=1099511627776)
def nS(l:List aE)(a b c d now:Int)(f bo g j:Bool):List aE×Bool×Int:=
 if(f && !bo && !g && !j)=false then(av l now,false,0)else if(av l now).length=64 then(l,false,6)else(av l now++[⟨a,b,c,d,1,0,now⟩],true,0)
def jn(l:List aE)(a b c d now:Int)(f bo g j:Bool)(i:Nat)(t:aE):List aE×Bool×Int:=
 if j then((av l now).take i++(av l now).drop (i+1),true,0)
 else if(dK t.s t.o f bo g (hj t a b c d)).1=false then(av l now,false,0)
 else((av l now).take i++(av l now).drop (i+1)++[⟨t.a,t.b,t.c,t.d,(dK t.s t.o f bo g (hj t a b c d)).2.1,(dK t.s t.o f bo g (hj t a b c d)).2.2,now⟩],true,0)
abbrev ec(r:List aE×Bool×Int):O:=.aS [.snap 7 (r.1.map aE.enc) false,.v (.bool r.2.1),.v (.int .i64 r.2.2)]
theorem tZ:∀(l:List aE)(k:Nat)(t:aE),l[k]?=some t->l.length=k+1->fV l=t.x
 |[],k,t,h,_=>fE
 |[y],0,t,h,_=>by simp at h;rw[<-h];rfl
 |[y],k+1,t,h,hl=>qC
 |y::b::r,0,t,h,hl=>qC
 |y::b::r,k+1,t,h,hl=>by
  rw[fV];exact tZ (b::r) k t hc yn
theorem A5{l:List aE}(h:gM [] l=true):0<=fV l:=by
 rcases Nat.eq_zero_or_pos l.length with c|c
 .rw[List.eq_nil_of_length_eq_zero c];exact Int.le_refl 0
 obtain⟨b,f⟩:∃b,l[l.length-1]?=some b:=⟨_,List.getElem?_eq_getElem G⟩;rw[tZ l (l.length-1) b f G];exact(tK (qu h (_n f))).2.1
theorem aaP(k:Nat)(l:List aE)(hl:l.length<=maxLen)(n:Nat)(a b c d:Int):b1 prog 248 [.aG k n 7 0 l.length false,gz a b c d] [some ⟨n,7,l.map aE.enc⟩] (fun D H=>D=.v (.int .i64 (bU (fun t=>t.along a b c d) l 0))/\H=[some ⟨n,7,l.map aE.enc⟩]):=by
 refine jw k ?_;have f:=FL 0 (g:=267) (caps:=[.bY [.v (.int .u32 a),.v (.int .u32 b),.v (.int .i64 c),.v (.int .i64 d)]]) (fun t=>t.along a b c d) l hl n (fun t _=>Tc t.a t.b t.c t.d t.s t.o t.x a b c d);refine ej {} 1 func248 fun Γ g j=>ar ?_
 have m:n<Γ.g0:=g 0 _ rfl;repeat' first|refine dv (ab9 j ⟨.d0,.d0,.d3⟩ (k:=0) rfl rfl ⟨rfl,rfl,_f _⟩ rfl) ?_|refine af ?_|(with_reducible refine bE 0 ?_ f (fun _ _ _ h=>h) ?_);(exact rfl)|refine ag ?_|refine ab ?_ ?_<;>intro h<;>try exact aa|fail
 exact iT trivial trivial rfl rfl m (eS (fun x=>fY)) rfl
theorem Zg(t:aE)(now:Int)(c:0<=t.x/\t.x<=1099511627776)(f:0<=now/\now<=1099511627776):Spec prog 284 [.agg t.enc,.bY [.v (.int .i64 now)]] (.v (.bool (t.cn now))):=by
 refine az {} 0 func284 fun Γ an=>ar ?_
 repeat' first|refine af ?_|refine J (WH _ _ _ _ _ _ _ _ c f) ?_|refine ag ?_|refine ab ?_ ?_<;>intro h<;>try exact aa|fail
 all_goals(refine cI ?_;first|exact cc|try simp only[cE]at *)
 rfl
theorem aj_(l:List aE)(a b c d aM now:Int)(f:cx l.length 48)(g:et l≠0):Spec prog 275 [.snap 7 (l.map aE.enc) false,gz a b c d,.v (.int .i64 aM),.v (.int .i64 now)] (ec (l,false,et l)):=by
 refine az {} 0 func275 fun Γ an=>ar ?_
 repeat' first|refine dv (hn an ⟨.d0,.d0,.d7⟩ rfl rfl ⟨rfl,rfl,_f _⟩) ?_|refine dv (fG an ⟨.d0,.d0,.d0⟩ rfl rfl ⟨rfl,rfl,aF⟩) ?_|refine af ?_|with_reducible refine oM 10 (qQ 10 l false f) ?_|refine J (o8 l) ?_|refine ag ?_|refine ab ?_ ?_<;>intro h<;>try exact aa|simp only[pJ]
 all_goals exact bM
theorem akH(l:List aE)(a b c d aM now:Int)(f:cx l.length 48)(m:et l=0)(bO:j7 l a b c d aM now=false):Spec prog 275 [.snap 7 (l.map aE.enc) false,gz a b c d,.v (.int .i64 aM),.v (.int .i64 now)] (ec (l,false,1)):=by
 have u:(pM a b c d=false)\/(pM a b c d=true/\¬((0<=aM/\aM<=255)/\fV l<=now/\now<=1099511627776)):=by
  unfold j7 at bO;cases ay:pM a b c d with
  |false=>exact .inl rfl
  |true=>rw[ay]at bO;exact .inr ⟨rfl,yJ⟩
 clear bO;have g:=GP a b c d;rcases u with j|⟨j,bO⟩;all_goals
 rw[j]at g;have hl:=(gX m).1;have b3:∃ff,(0<l.length->l[l.length-1]?=some ff/\fV l=ff.x):=by exact Np
 obtain⟨ff,b3⟩:=b3;refine az {} 0 func275 fun Γ an=>ar ?_
 repeat' first|refine dv (hn an ⟨.d0,.d0,.d7⟩ rfl rfl ⟨rfl,rfl,_f _⟩) ?_|refine dv (fG an ⟨.d0,.d0,.d0⟩ rfl rfl ⟨rfl,rfl,aF⟩) ?_|refine k8 ?_|with_reducible refine oM 10 (qQ 10 l false f) ?_|refine J (o8 l) ?_|refine ag ?_|refine ab ?_ ?_<;>intro h<;>try exact aa|simp only[pJ]
 refine j8 ?_;repeat' first|refine k8 ?_|with_reducible refine oM 10 (qQ 10 l false f) ?_|refine J (o8 l) ?_|refine ag ?_|refine ab ?_ ?_<;>intro h<;>try exact aa|simp only[pJ]
 refine EG (α:=Unit) (fun _=>[(⟨.d0,.d1,.d4⟩,.v (.int .i64 (fV l)))]) (fun _=>[]) (fun _=>Γ.g0+3) (fun _=>True) ?_ ?_
 .exact Nf
 rintro _ -;refine bz ?_;repeat' first|refine af ?_|refine J g ?_|refine ag ?_|refine ab ?_ ?_<;>intro h<;>try exact aa|exact al|fail
 all_goals exact bM
theorem agi(l:List aE)(a b c d aM now:Int)(f:cx l.length 48)(bu:et l=0)(g:j7 l a b c d aM now=true)(da bo fw nt:Bool)(u:na aM da bo fw nt)(z:bU (fun t=>t.along a b c d) (av l now) 0 = -1):Spec prog 275 [.snap 7 (l.map aE.enc) false,gz a b c d,.v (.int .i64 aM),.v (.int .i64 now)] (ec (nS l a b c d now da bo fw nt)):=by
 have Y:0<=fV l:=A5 (gX bu).2;unfold j7 at g;simp only[_s,decide_eq_true_eq]at g;have Z:(av l now).length<=l.length:=_g _ _;have j:=fun n=>aaP 10 (av l now) zw n a b c d
 simp only[z]at j;have C:∀t∈l,Spec prog 284 [.agg t.enc,.bY [.v (.int .i64 now)]] (.v (.bool (t.cn now))):=fun t I=>Zg t now (tK (qu (gX bu).2 I)).2 G
 have M:=fun n=>Ui 10 (caps:=[.bY [.v (.int .i64 now)]]) (fun t=>t.cn now) l zw n C
 obtain⟨f2,f16,f1,f4,-⟩:=u;have O:(!decide (bits .and .i64 aM 2=0))=da:=by rw[f2];cases da<;>rfl
 have Q:(!decide (bits .and .i64 aM 16=0))=bo:=by rw[f16];cases bo<;>rfl
 have U:(!decide (bits .and .i64 aM 1=0))=fw:=by rw[f1];cases fw<;>rfl
 have X:(!decide (bits .and .i64 aM 4=0))=nt:=by rw[f4];cases nt<;>rfl
 have m:=GP a b c d;rw[g.1]at m;have hl:=(gX bu).1;have b3:∃ff,(0<l.length->l[l.length-1]?=some ff/\fV l=ff.x):=by exact Np
 obtain⟨ff,b3⟩:=b3;refine az {} 0 func275 fun Γ an=>ar ?_
 repeat' first|refine dv (hn an ⟨.d0,.d0,.d7⟩ rfl rfl ⟨rfl,rfl,_f _⟩) ?_|refine dv (fG an ⟨.d0,.d0,.d0⟩ rfl rfl ⟨rfl,rfl,aF⟩) ?_|refine k8 ?_|with_reducible refine oM 10 (qQ 10 l false f) ?_|refine J (o8 l) ?_|refine ag ?_|refine ab ?_ ?_<;>intro h<;>try exact aa|simp only[pJ]
 refine j8 ?_;repeat' first|refine k8 ?_|with_reducible refine oM 10 (qQ 10 l false f) ?_|refine J (o8 l) ?_|refine ag ?_|refine ab ?_ ?_<;>intro h<;>try exact aa|simp only[pJ]
 refine EG (α:=Unit) (fun _=>[(⟨.d0,.d1,.d4⟩,.v (.int .i64 (fV l)))]) (fun _=>[]) (fun _=>Γ.g0+3) (fun _=>True) ?_ ?_
 .exact Nf
 rintro _ -;refine bz ?_;repeat' first|refine af ?_|refine J m ?_|with_reducible refine oM 10 (qQ 10 l false f) ?_|(with_reducible refine bE 10 ?_ (M _) (fun _ _ _ h=>h) ?_);(exact rfl)|simp only[O,Q,U,X]|(with_reducible refine bE 10 ?_ (j _) (fun _ _ _ h=>h) ?_);(exact rfl)|refine ag ?_|refine ab ?_ ?_<;>intro h<;>try exact aa|exact al|fail
 .exact X2
 .have e:nS l a b c d now da bo fw nt=(l,false,6):=by
   have q:(_k (fun t=>!t.cn now) l).length=64:=by(simp only[gu,reduceCtorEq]at *<;>omega)
   unfold nS;rw[if_neg Ew,if_pos q]
  rw[e];all_goals exact bM
 refine ev (fG an ⟨.d0,.d1,.d0⟩ rfl rfl ⟨rfl,rfl,aF⟩) ?_;have e:nS l a b c d now da bo fw nt=(av l now++[⟨a,b,c,d,1,0,now⟩],true,0):=by
  have q:¬(_k (fun t=>!t.cn now) l).length=64:=by(simp only[gu,reduceCtorEq]at *<;>omega)
  unfold nS;rw[if_neg Ew,if_neg q]
 exact Vl
theorem afC(l:List aE)(a b c d aM now:Int)(m:cx l.length 48)(bu:et l=0)(u:j7 l a b c d aM now=true)(f bo g j:Bool)(M:na aM f bo g j)(i:Nat)(t:aE)(z:(av l now)[i]?=some t)(O:bU (fun t=>t.along a b c d) (av l now) 0=i):Spec prog 275 [.snap 7 (l.map aE.enc) false,gz a b c d,.v (.int .i64 aM),.v (.int .i64 now)] (ec (jn l a b c d now f bo g j i t)):=by
 have am:0<=fV l:=A5 (gX bu).2;unfold j7 at u;simp only[_s,decide_eq_true_eq]at u;have ao:(av l now).length<=l.length:=_g _ _;have C:=fun n=>aaP 10 (av l now) zw n a b c d
 simp only[O]at C;have Q:∀t∈l,Spec prog 284 [.agg t.enc,.bY [.v (.int .i64 now)]] (.v (.bool (t.cn now))):=fun t U=>Zg t now (tK (qu (gX bu).2 U)).2 G
 have X:=fun n=>Ui 10 (caps:=[.bY [.v (.int .i64 now)]]) (fun t=>t.cn now) l zw n Q
 obtain⟨f2,f16,f1,f4,-⟩:=M;have Y:(!decide (bits .and .i64 aM 2=0))=f:=by rw[f2];cases f<;>rfl
 have Z:(!decide (bits .and .i64 aM 16=0))=bo:=by rw[f16];cases bo<;>rfl
 have ac:(!decide (bits .and .i64 aM 1=0))=g:=by rw[f1];cases g<;>rfl
 have ae:(!decide (bits .and .i64 aM 4=0))=j:=by rw[f4];cases j<;>rfl
 have ah:i<(_k (fun t=>!t.cn now) l).length:=(_j.1 z).1;have ap:i<(av l now).length:=ah;have ai:=oj z;have cy:IntKind.i64.wrap ((i:Int)+1)=((i+1:Nat):Int):=(IntWalk.i64_in _ (by have:=(gX bu).1;omega)).trans G;have aj:=fun n op=>dN 5 (ah_ n t.a t.b t.c t.d t.s t.o t.x f bo g j op)
 have aq:(_l i (av l now)++_r (i+1) (av l now)).length<=64:=by have:=(gX bu).1;rw[_c,_d,_b];omega
 have ak:=fun n=>afM 10 (av l now) i (i+1) G G zw n
 have I:=GP a b c d;rw[u.1]at I;have hl:=(gX bu).1;have b3:∃ff,(0<l.length->l[l.length-1]?=some ff/\fV l=ff.x):=by exact Np
 obtain⟨ff,b3⟩:=b3;refine az {} 0 func275 fun Γ an=>ar ?_
 repeat' first|refine dv (hn an ⟨.d0,.d0,.d7⟩ rfl rfl ⟨rfl,rfl,_f _⟩) ?_|refine dv (fG an ⟨.d0,.d0,.d0⟩ rfl rfl ⟨rfl,rfl,aF⟩) ?_|refine k8 ?_|with_reducible refine oM 10 (qQ 10 l false m) ?_|refine J (o8 l) ?_|refine ag ?_|refine ab ?_ ?_<;>intro h<;>try exact aa|simp only[pJ]
 refine j8 ?_;repeat' first|refine k8 ?_|with_reducible refine oM 10 (qQ 10 l false m) ?_|refine J (o8 l) ?_|refine ag ?_|refine ab ?_ ?_<;>intro h<;>try exact aa|simp only[pJ]
 refine EG (α:=Unit) (fun _=>[(⟨.d0,.d1,.d4⟩,.v (.int .i64 (fV l)))]) (fun _=>[]) (fun _=>Γ.g0+3) (fun _=>True) ?_ ?_
 .exact Nf
 rintro _ -;refine bz ?_;repeat' first|refine af ?_|refine J I ?_|with_reducible refine oM 10 (qQ 10 l false m) ?_|(with_reducible refine bE 10 ?_ (X _) (fun _ _ _ h=>h) ?_);(exact rfl)|simp only[Y,Z,ac,ae]|(with_reducible refine bE 5 ?_ (aj _ _) (fun _ _ _ h=>h) ?_);(exact rfl)|(with_reducible refine bE 10 ?_ (ak _) (fun _ _ _ h=>h) ?_);(exact rfl)|(with_reducible refine bE 10 ?_ (C _) (fun _ _ _ h=>h) ?_);(exact rfl)|refine ag ?_|refine ab ?_ ?_<;>intro h<;>try exact aa|simp only[_h,ai,_m,cy]|refine aK ⟨by(simp only[_a];omega),aH⟩ ?_|refine aK ⟨aH,by(unfold cx maxLen;simp only[_a];omega)⟩ ?_|exact al|fail
 .have e:jn l a b c d now f bo g j i t=(av l now,false,0):=by
   unfold jn;rw[if_neg ql,if_pos hc]
  refine ev (fG an ⟨.d0,.d1,.d0⟩ rfl rfl ⟨rfl,rfl,aF⟩) ?_;have oW:j=false:=ql;exact R6
 .exfalso;simp_all
 .have e:jn l a b c d now f bo g j i t=((av l now).take i++(av l now).drop (i+1)++[⟨t.a,t.b,t.c,t.d,(dK t.s t.o f bo g (hj t a b c d)).2.1,(dK t.s t.o f bo g (hj t a b c d)).2.2,now⟩],true,0):=by
   unfold jn;rw[if_neg ql,if_neg ql]
  refine ev (fG an ⟨.d0,.d1,.d0⟩ rfl rfl ⟨rfl,rfl,by(simp;try omega)⟩) ?_;have oW:j=false:=ql;first|rw[e]|rw[oW]at e;rw[e]
  rw[e1 (by(simp;try omega))];rw[show _o aE.enc (_l i (av l now)++_r (i+1) (av l now))++[[.v (.int .u32 t.a),.v (.int .u32 t.b),.v (.int .i64 t.c),.v (.int .i64 t.d),.v (.int .i64 (dK t.s t.o f bo g (hj t a b c d)).2.1),.v (.int .i64 (dK t.s t.o f bo g (hj t a b c d)).2.2),.v (.int .i64 now)]]=_o aE.enc (_l i (av l now)++_r (i+1) (av l now)++[⟨t.a,t.b,t.c,t.d,(dK t.s t.o f bo g (hj t a b c d)).2.1,(dK t.s t.o f bo g (hj t a b c d)).2.2,now⟩])from As _ ⟨t.a,t.b,t.c,t.d,(dK t.s t.o f bo g (hj t a b c d)).2.1,(dK t.s t.o f bo g (hj t a b c d)).2.2,now⟩];all_goals exact bM
 .have e:jn l a b c d now f bo g j i t=((av l now).take i++(av l now).drop (i+1),true,0):=by
   unfold jn;rw[if_pos ql]
  refine ev (fG an ⟨.d0,.d1,.d0⟩ rfl rfl ⟨rfl,rfl,aF⟩) ?_;have oW:j=true:=ql;exact R6
 exfalso;simp_all
theorem Nw(a b c d s o x f g j m:Int):Spec prog 238 [hs a b c d s o x,.bY [.v (.int .u32 f),.v (.int .u32 g),.v (.int .i64 j),.v (.int .i64 m)]] (.v (.bool (qL a b c d f g j m))):=by
 refine az {} 0 func238 fun Γ an=>ar ?_
 repeat' first|refine af ?_|refine J (MB _ _ _ _ _ _ _ _ _ _ _) ?_|refine ag ?_|refine ab ?_ ?_<;>intro h<;>try exact aa|fail
 all_goals exact bM
theorem ak7(l:List aE)(a b c d aM now:Int)(f:et l≠0):Spec prog 183 [.snap 7 (l.map aE.enc) false,gz a b c d,.v (.int .i64 aM),.v (.int .i64 now)] (ec (l,false,et l)):=by
 refine az {} 0 func183 fun Γ an=>ar ?_
 repeat' first|refine k8 ?_|refine J (pk l) ?_|refine ag ?_|refine ab ?_ ?_<;>intro h<;>try exact aa|fail
 refine j8 ?_;repeat' first|refine k8 ?_|refine J (pk l) ?_|refine ag ?_|refine ab ?_ ?_<;>intro h<;>try exact aa|exact al|fail
 all_goals exact bM
theorem aba(l:List aE)(a b c d aM now:Int)(g:et l=0)(f:j7 l a b c d aM now=false):Spec prog 183 [.snap 7 (l.map aE.enc) false,gz a b c d,.v (.int .i64 aM),.v (.int .i64 now)] (ec (l,false,1)):=by
 have m:¬(((0<=c/\c<=65535)/\(0<=d/\d<=65535)/\¬(a=b/\c=d))/\(0<=aM/\aM<=255)/\fV l<=now/\now<=1099511627776):=by
  intro h;unfold j7 pM at f;rw[decide_eq_true h.1,decide_eq_true h.2]at f;cases f
 clear f;have hl:=(gX g).1;refine az {} 0 func183 fun Γ an=>ar ?_
 repeat' first|refine dv (hn an ⟨.d0,.d0,.d5⟩ rfl rfl ⟨rfl,rfl,_f _⟩) ?_|refine k8 ?_|refine J (pk l) ?_|refine ag ?_|refine ab ?_ ?_<;>intro h<;>try exact aa|fail
 refine j8 ?_;repeat' first|refine k8 ?_|refine J (pk l) ?_|refine ag ?_|refine ab ?_ ?_<;>intro h<;>try exact aa|fail
 refine bS (α:=Nat×Nat) (fun p=>[(⟨.d0,.d1,.d4⟩,.v (.int .i64 (fV (l.take p.1)))),(⟨.d0,.d3,.d6⟩,.v (.int .i64 (p.1:Nat)))]) (fun p=>[(1,none)]) (fun p=>p.2) (fun p=>l.length-p.1) (fun p=>p.1<=l.length/\Γ.g0<=p.2) (0,Γ.g0+1) ⟨_i _,_t _⟩ ?_ ?_
 .exact bs
 rintro⟨k,bR⟩ ⟨j,kg⟩;dsimp only at j kg⊢;refine bz ?_;by_cases aN:k<l.length
 .exact G2
 obtain rfl:k=l.length:=G;simp only[_e];repeat' first|refine af ?_|refine J (zm _ _ _ _) ?_|refine J (xa _ _ _ _) ?_|refine J (cA _ _ _) ?_|refine ag ?_|refine ab ?_ ?_<;>intro h<;>try exact aa|exact al|fail
 all_goals exact bM
theorem ahT(l:List aE)(a b c d aM now:Int)(bu:et l=0)(bO:j7 l a b c d aM now=true)(da bo fw nt:Bool)(m:na aM da bo fw nt)(u:bU (fun t=>t.along a b c d) (av l now) 0 = -1):Spec prog 183 [.snap 7 (l.map aE.enc) false,gz a b c d,.v (.int .i64 aM),.v (.int .i64 now)] (ec (nS l a b c d now da bo fw nt)):=by
 have g:((0<=c/\c<=65535)/\(0<=d/\d<=65535)/\¬(a=b/\c=d))/\(0<=aM/\aM<=255)/\fV l<=now/\now<=1099511627776:=by exact M8
 clear bO;have hl:=(gX bu).1;refine az {} 0 func183 fun Γ an=>ar ?_
 repeat' first|refine dv (hn an ⟨.d0,.d0,.d5⟩ rfl rfl ⟨rfl,rfl,_f _⟩) ?_|refine k8 ?_|refine J (pk l) ?_|refine ag ?_|refine ab ?_ ?_<;>intro h<;>try exact aa|fail
 refine j8 ?_;repeat' first|refine k8 ?_|refine J (pk l) ?_|refine ag ?_|refine ab ?_ ?_<;>intro h<;>try exact aa|fail
 refine bS (α:=Nat×Nat) (fun p=>[(⟨.d0,.d1,.d4⟩,.v (.int .i64 (fV (l.take p.1)))),(⟨.d0,.d3,.d6⟩,.v (.int .i64 (p.1:Nat)))]) (fun p=>[(1,none)]) (fun p=>p.2) (fun p=>l.length-p.1) (fun p=>p.1<=l.length/\Γ.g0<=p.2) (0,Γ.g0+1) ⟨_i _,_t _⟩ ?_ ?_
 .exact bs
 rintro⟨k,bR⟩ ⟨f,kg⟩;dsimp only at f kg⊢;refine bz ?_;by_cases aN:k<l.length
 .exact G2
 obtain rfl:k=l.length:=G;simp only[_e];repeat' first|refine af ?_|refine J (zm _ _ _ _) ?_|refine J (xa _ _ _ _) ?_|refine J (cA _ _ _) ?_|refine ag ?_|refine ab ?_ ?_<;>intro h<;>try exact aa|exact al|fail
 have C:∀r:List aE,eW (r.map aE.enc)=true:=j2 (fun x=>rfl);have Ni:0<=now/\now<=1099511627776:=⟨_v (A5 (gX bu).2) g.2.2.1,g.2.2.2⟩;refine eJ (gU ⟨.d0,.d1,.d7⟩ 4 7 rfl rfl) ?_;refine bS (α:=Nat×Nat×Nat) (fun p=>[(⟨.d0,.d1,.d7⟩,.aG 4 p.2.2 7 0 (av (l.take p.1) now).length false),(⟨.d0,.d7,.d4⟩,.v (.int .i64 (p.1:Nat)))]) (fun p=>[(2,none),(3,none),(4,some ⟨p.2.2,7,(av (l.take p.1) now).map aE.enc⟩)]) (fun p=>p.2.1) (fun p=>l.length-p.1) (fun p=>p.1<=l.length/\Γ.g0<=p.2.2/\Γ.g0<=p.2.1) (0,bR+1,bR) ⟨_i _,kg,_p kg⟩ ?_ ?_
 .exact bs
 rintro⟨k,cR,N⟩ ⟨f,aA,z⟩;dsimp only at f aA z⊢;refine bz ?_;by_cases aN:k<l.length
 .exact K6
 obtain rfl:k=l.length:=G;simp only[_e];have uF:(_k (fun t=>!t.cn now) l).length<=l.length:=_g _ _;have Is:(av l now).length<=l.length:=uF;have j:=fun n=>FL 4 (g:=238) (caps:=[.bY [.v (.int .u32 a),.v (.int .u32 b),.v (.int .i64 c),.v (.int .i64 d)]]) (fun t=>t.along a b c d) (av l now) fg n (fun t _=>Nw t.a t.b t.c t.d t.s t.o t.x a b c d)
 simp only[u]at j;have f23:=m.2.2.2.2.2.2;repeat' first|refine af ?_|simp only[f23]|(with_reducible refine bE 4 ?_ (j _) (fun _ _ _ h=>h) ?_);(exact rfl)|refine ag ?_|refine ab ?_ ?_<;>intro h<;>try exact aa|refine aK ⟨aH,aH,aH,aH,aF⟩ ?_|refine aK ⟨aH,by(unfold cx maxLen;simp only[_a];omega)⟩ ?_|exact al|fail
 .exact X2
 .have e:nS l a b c d now da bo fw nt=(l,false,6):=by
   have q:(av l now).length=64:=by(simp only[gu,reduceCtorEq]at *<;>omega)
   unfold nS;rw[if_neg Ew,if_pos q]
  rw[e];all_goals exact bM
 refine ev (fG an ⟨.d0,.d1,.d0⟩ rfl rfl ⟨rfl,rfl,aF⟩) ?_;have e:nS l a b c d now da bo fw nt=(av l now++[⟨a,b,c,d,1,0,now⟩],true,0):=by
  have q:¬(av l now).length=64:=by(simp only[gu,reduceCtorEq]at *<;>omega)
  unfold nS;rw[if_neg Ew,if_neg q]
 exact Vl
theorem aeT(a b c d s o x aM:Int)(f bo g op:Bool)(j:na aM f bo g false)(aj:py s o):Spec prog 239 [hs a b c d s o x,.v (.bool op),.v (.int .i64 aM)]
 (.aS [hs a b c d (dK s o f bo g op).2.1 (dK s o f bo g op).2.2 x,.v (.bool true),.v (.bool (dK s o f bo g op).1)]):=aeG a b c d s o x aM f bo g false op j aj
theorem Yr{t:aE}(h:t.form=true):py t.s t.o:=by
 unfold aE.form pO at h;simp only[_s,decide_eq_true_eq]at h;unfold py;omega
theorem alR(l:List aE)(a b c d aM now:Int)(bu:et l=0)(bO:j7 l a b c d aM now=true)(f bo g:Bool)(C:na aM f bo g true)(i:Nat)(t:aE)(j:(av l now)[i]?=some t)(X:bU (fun t=>t.along a b c d) (av l now) 0=i):Spec prog 183 [.snap 7 (l.map aE.enc) false,gz a b c d,.v (.int .i64 aM),.v (.int .i64 now)] (ec (jn l a b c d now f bo g true i t)):=by
 have I:((0<=c/\c<=65535)/\(0<=d/\d<=65535)/\¬(a=b/\c=d))/\(0<=aM/\aM<=255)/\fV l<=now/\now<=1099511627776:=by exact M8
 clear bO;have hl:=(gX bu).1;refine az {} 0 func183 fun Γ an=>ar ?_
 repeat' first|refine dv (hn an ⟨.d0,.d0,.d5⟩ rfl rfl ⟨rfl,rfl,_f _⟩) ?_|refine k8 ?_|refine J (pk l) ?_|refine ag ?_|refine ab ?_ ?_<;>intro h<;>try exact aa|fail
 refine j8 ?_;repeat' first|refine k8 ?_|refine J (pk l) ?_|refine ag ?_|refine ab ?_ ?_<;>intro h<;>try exact aa|fail
 refine bS (α:=Nat×Nat) (fun p=>[(⟨.d0,.d1,.d4⟩,.v (.int .i64 (fV (l.take p.1)))),(⟨.d0,.d3,.d6⟩,.v (.int .i64 (p.1:Nat)))]) (fun p=>[(1,none)]) (fun p=>p.2) (fun p=>l.length-p.1) (fun p=>p.1<=l.length/\Γ.g0<=p.2) (0,Γ.g0+1) ⟨_i _,_t _⟩ ?_ ?_
 .exact bs
 rintro⟨k,bR⟩ ⟨m,kg⟩;dsimp only at m kg⊢;refine bz ?_;by_cases aN:k<l.length
 .exact G2
 obtain rfl:k=l.length:=G;simp only[_e];repeat' first|refine af ?_|refine J (zm _ _ _ _) ?_|refine J (xa _ _ _ _) ?_|refine J (cA _ _ _) ?_|refine ag ?_|refine ab ?_ ?_<;>intro h<;>try exact aa|exact al|fail
 have yo:∀r:List aE,eW (r.map aE.enc)=true:=j2 (fun x=>rfl);have Ni:0<=now/\now<=1099511627776:=⟨_v (A5 (gX bu).2) I.2.2.1,I.2.2.2⟩;refine eJ (gU ⟨.d0,.d1,.d7⟩ 4 7 rfl rfl) ?_;refine bS (α:=Nat×Nat×Nat) (fun p=>[(⟨.d0,.d1,.d7⟩,.aG 4 p.2.2 7 0 (av (l.take p.1) now).length false),(⟨.d0,.d7,.d4⟩,.v (.int .i64 (p.1:Nat)))]) (fun p=>[(2,none),(3,none),(4,some ⟨p.2.2,7,(av (l.take p.1) now).map aE.enc⟩)]) (fun p=>p.2.1) (fun p=>l.length-p.1) (fun p=>p.1<=l.length/\Γ.g0<=p.2.2/\Γ.g0<=p.2.1) (0,bR+1,bR) ⟨_i _,kg,_p kg⟩ ?_ ?_
 .exact bs
 rintro⟨k,cR,N⟩ ⟨m,aA,Y⟩;dsimp only at m aA Y⊢;refine bz ?_;by_cases aN:k<l.length
 .exact K6
 obtain rfl:k=l.length:=G;simp only[_e];have uF:(_k (fun t=>!t.cn now) l).length<=l.length:=_g _ _;have Is:(av l now).length<=l.length:=uF;have u:=fun n=>FL 4 (g:=238) (caps:=[.bY [.v (.int .u32 a),.v (.int .u32 b),.v (.int .i64 c),.v (.int .i64 d)]]) (fun t=>t.along a b c d) (av l now) fg n (fun t _=>Nw t.a t.b t.c t.d t.s t.o t.x a b c d)
 simp only[X]at u;have ac:i<(av l now).length:=(_j.1 j).1;have M:t∈l:=(_w.1 (_n j)).1;have Gj:=tK (qu (gX bu).2 M);have ae:py t.s t.o:=Yr (qu (gX bu).2 M);have dU:=oj j;have O:IntKind.i64.wrap ((i:Int)+1)=((i+1:Nat):Int):=(IntWalk.i64_in _ G).trans G;have Q:=fun op=>QV t.a t.b t.c t.d t.s t.o t.x aM op C.2.2.2.1
 have z:cp (cC ((av l now).map aE.enc) 0) i=((av l now).take i).map aE.enc:=OX;have U:cp (cC ((av l now).map aE.enc) (i+1)) (((av l now).length:Int)-((i+1:Nat):Int)).toNat=((av l now).drop (i+1)).map aE.enc:=zl;have f23:=C.2.2.2.2.2.2;by_cases ah:i+1<(av l now).length\/i=0
 .repeat' first|refine af ?_|simp only[f23]|(with_reducible refine bE 4 ?_ (u _) (fun _ _ _ h=>h) ?_);(exact rfl)|refine J (Q _) ?_|simp only[_q,_h,O,dU,z,U,_m]|with_reducible refine hZ ?_|refine ag ?_|refine ab ?_ ?_<;>intro h<;>try exact aa|refine aK ⟨aH,aH,aH,aH,aF⟩ ?_|refine aK ⟨by(simp only[_a];omega),aH⟩ ?_|refine aK ⟨aH,by(unfold cx maxLen;simp only[_a,_c,_b,_d];omega)⟩ ?_|refine aK ⟨F1,sR,sR,by(unfold cx maxLen;simp only[_a,_c,_b,_d];omega)⟩ ?_|exact al|fail
  refine ev (fG an ⟨.d0,.d1,.d0⟩ rfl rfl ⟨rfl,rfl,by(simp;try omega)⟩) ?_;rw[show jn l a b c d now f bo g true i t=((av l now).take i++(av l now).drop (i+1),true,0)from rfl,e1 (by(simp;try omega)),<-_x];all_goals exact bM
 repeat' first|refine af ?_|simp only[f23]|(with_reducible refine bE 4 ?_ (u _) (fun _ _ _ h=>h) ?_);(exact rfl)|refine J (Q _) ?_|simp only[_q,_h,O,dU,z,U,_m]|(with_reducible refine zi ?_);(refine aK (by(simp only[_a,_b];omega)) ?_)|with_reducible refine hZ ?_|refine ag ?_|refine ab ?_ ?_<;>intro h<;>try exact aa|refine aK ⟨aH,aH,aH,aH,aF⟩ ?_|refine aK ⟨by(simp only[_a];omega),aH⟩ ?_|refine aK ⟨aH,by(unfold cx maxLen;simp only[_a,_c,_b,_d];omega)⟩ ?_|refine aK ⟨F1,sR,sR,by(unfold cx maxLen;simp only[_a,_c,_b,_d];omega)⟩ ?_|exact al|fail
 have Z:(av l now).drop (i+1)=[]:=_u G;refine ev (fG an ⟨.d0,.d1,.d0⟩ rfl rfl ⟨rfl,rfl,by(simp;try omega)⟩) (ev (j1 (Vb ⟨.d0,.d1,.d0⟩ rfl)) ?_);rw[show jn l a b c d now f bo g true i t=((av l now).take i++(av l now).drop (i+1),true,0)from rfl,Z,_y,z];all_goals exact bM
theorem ai_(l:List aE)(a b c d aM now:Int)(bu:et l=0)(bO:j7 l a b c d aM now=true)(da bo fw:Bool)(m:na aM da bo fw false)(i:Nat)(t:aE)(f:(av l now)[i]?=some t)(Q:bU (fun t=>t.along a b c d) (av l now) 0=i):Spec prog 183 [.snap 7 (l.map aE.enc) false,gz a b c d,.v (.int .i64 aM),.v (.int .i64 now)] (ec (jn l a b c d now da bo fw false i t)):=by
 have u:((0<=c/\c<=65535)/\(0<=d/\d<=65535)/\¬(a=b/\c=d))/\(0<=aM/\aM<=255)/\fV l<=now/\now<=1099511627776:=by exact M8
 clear bO;have hl:=(gX bu).1;refine az {} 0 func183 fun Γ an=>ar ?_
 repeat' first|refine dv (hn an ⟨.d0,.d0,.d5⟩ rfl rfl ⟨rfl,rfl,_f _⟩) ?_|refine k8 ?_|refine J (pk l) ?_|refine ag ?_|refine ab ?_ ?_<;>intro h<;>try exact aa|fail
 refine j8 ?_;repeat' first|refine k8 ?_|refine J (pk l) ?_|refine ag ?_|refine ab ?_ ?_<;>intro h<;>try exact aa|fail
 refine bS (α:=Nat×Nat) (fun p=>[(⟨.d0,.d1,.d4⟩,.v (.int .i64 (fV (l.take p.1)))),(⟨.d0,.d3,.d6⟩,.v (.int .i64 (p.1:Nat)))]) (fun p=>[(1,none)]) (fun p=>p.2) (fun p=>l.length-p.1) (fun p=>p.1<=l.length/\Γ.g0<=p.2) (0,Γ.g0+1) ⟨_i _,_t _⟩ ?_ ?_
 .exact bs
 rintro⟨k,bR⟩ ⟨g,kg⟩;dsimp only at g kg⊢;refine bz ?_;by_cases aN:k<l.length
 .exact G2
 obtain rfl:k=l.length:=G;simp only[_e];repeat' first|refine af ?_|refine J (zm _ _ _ _) ?_|refine J (xa _ _ _ _) ?_|refine J (cA _ _ _) ?_|refine ag ?_|refine ab ?_ ?_<;>intro h<;>try exact aa|exact al|fail
 have yo:∀r:List aE,eW (r.map aE.enc)=true:=j2 (fun x=>rfl);have Ni:0<=now/\now<=1099511627776:=⟨_v (A5 (gX bu).2) u.2.2.1,u.2.2.2⟩;refine eJ (gU ⟨.d0,.d1,.d7⟩ 4 7 rfl rfl) ?_;refine bS (α:=Nat×Nat×Nat) (fun p=>[(⟨.d0,.d1,.d7⟩,.aG 4 p.2.2 7 0 (av (l.take p.1) now).length false),(⟨.d0,.d7,.d4⟩,.v (.int .i64 (p.1:Nat)))]) (fun p=>[(2,none),(3,none),(4,some ⟨p.2.2,7,(av (l.take p.1) now).map aE.enc⟩)]) (fun p=>p.2.1) (fun p=>l.length-p.1) (fun p=>p.1<=l.length/\Γ.g0<=p.2.2/\Γ.g0<=p.2.1) (0,bR+1,bR) ⟨_i _,kg,_p kg⟩ ?_ ?_
 .exact bs
 rintro⟨k,cR,N⟩ ⟨g,aA,U⟩;dsimp only at g aA U⊢;refine bz ?_;by_cases aN:k<l.length
 .exact K6
 obtain rfl:k=l.length:=G;simp only[_e];have uF:(_k (fun t=>!t.cn now) l).length<=l.length:=_g _ _;have Is:(av l now).length<=l.length:=uF;have j:=fun n=>FL 4 (g:=238) (caps:=[.bY [.v (.int .u32 a),.v (.int .u32 b),.v (.int .i64 c),.v (.int .i64 d)]]) (fun t=>t.along a b c d) (av l now) fg n (fun t _=>Nw t.a t.b t.c t.d t.s t.o t.x a b c d)
 simp only[Q]at j;have Z:i<(av l now).length:=(_j.1 f).1;have z:t∈l:=(_w.1 (_n f)).1;have Gj:=tK (qu (gX bu).2 z);have X:py t.s t.o:=Yr (qu (gX bu).2 z);have dU:=oj f;have C:IntKind.i64.wrap ((i:Int)+1)=((i+1:Nat):Int):=(IntWalk.i64_in _ G).trans G;have I:=fun op=>aeT t.a t.b t.c t.d t.s t.o t.x aM da bo fw op m X
 have M:cp (cC ((av l now).map aE.enc) 0) i=((av l now).take i).map aE.enc:=OX;have O:cp (cC ((av l now).map aE.enc) (i+1)) (((av l now).length:Int)-((i+1:Nat):Int)).toNat=((av l now).drop (i+1)).map aE.enc:=zl;have f23:=m.2.2.2.2.2.2;by_cases ac:i+1<(av l now).length\/i=0
 .repeat' first|refine af ?_|simp only[f23]|(with_reducible refine bE 4 ?_ (j _) (fun _ _ _ h=>h) ?_);(exact rfl)|refine J (I _) ?_|simp only[_q,_h,C,dU,M,O,_m]|with_reducible refine hZ ?_|refine ag ?_|refine ab ?_ ?_<;>intro h<;>try exact aa|refine aK ⟨aH,aH,aH,aH,aF⟩ ?_|refine aK ⟨by(simp only[_a];omega),aH⟩ ?_|refine aK ⟨aH,by(unfold cx maxLen;simp only[_a,_c,_b,_d];omega)⟩ ?_|refine aK ⟨F1,sR,sR,by(unfold cx maxLen;simp only[_a,_c,_b,_d];omega)⟩ ?_|exact al|fail
  .exact Zf
  have e:jn l a b c d now da bo fw false i t=((av l now).take i++(av l now).drop (i+1)++[⟨t.a,t.b,t.c,t.d,(dK t.s t.o da bo fw (hj t a b c d)).2.1,(dK t.s t.o da bo fw (hj t a b c d)).2.2,now⟩],true,0):=by
   unfold jn;rw[if_neg aF,if_neg hc]
  refine ev (fG an ⟨.d0,.d1,.d0⟩ rfl rfl ⟨rfl,rfl,by(simp;try omega)⟩) ?_;rw[e,e1 (by(simp;try omega)),<-_x,show _o aE.enc (_l i (av l now)++_r (i+1) (av l now))++[[.v (.int .u32 t.a),.v (.int .u32 t.b),.v (.int .i64 t.c),.v (.int .i64 t.d),.v (.int .i64 (dK t.s t.o da bo fw (hj t a b c d)).2.1),.v (.int .i64 (dK t.s t.o da bo fw (hj t a b c d)).2.2),.v (.int .i64 now)]]=_o aE.enc (_l i (av l now)++_r (i+1) (av l now)++[⟨t.a,t.b,t.c,t.d,(dK t.s t.o da bo fw (hj t a b c d)).2.1,(dK t.s t.o da bo fw (hj t a b c d)).2.2,now⟩])from As _ ⟨t.a,t.b,t.c,t.d,(dK t.s t.o da bo fw (hj t a b c d)).2.1,(dK t.s t.o da bo fw (hj t a b c d)).2.2,now⟩];all_goals exact bM
 repeat' first|refine af ?_|simp only[f23]|(with_reducible refine bE 4 ?_ (j _) (fun _ _ _ h=>h) ?_);(exact rfl)|refine J (I _) ?_|simp only[_q,_h,C,dU,M,O,_m]|(with_reducible refine zi ?_);(refine aK (by(simp only[_a,_b];omega)) ?_)|with_reducible refine hZ ?_|refine ag ?_|refine ab ?_ ?_<;>intro h<;>try exact aa|refine aK ⟨aH,aH,aH,aH,aF⟩ ?_|refine aK ⟨by(simp only[_a];omega),aH⟩ ?_|refine aK ⟨aH,by(unfold cx maxLen;simp only[_a,_c,_b,_d];omega)⟩ ?_|refine aK ⟨F1,sR,sR,by(unfold cx maxLen;simp only[_a,_c,_b,_d];omega)⟩ ?_|exact al|fail
 .exact Zf
 have e:jn l a b c d now da bo fw false i t=((av l now).take i++(av l now).drop (i+1)++[⟨t.a,t.b,t.c,t.d,(dK t.s t.o da bo fw (hj t a b c d)).2.1,(dK t.s t.o da bo fw (hj t a b c d)).2.2,now⟩],true,0):=by
  unfold jn;rw[if_neg aF,if_neg hc]
 have Y:(av l now).drop (i+1)=[]:=_u G;refine ev (fG an ⟨.d0,.d1,.d0⟩ rfl rfl ⟨rfl,rfl,by(simp;try omega)⟩) ?_;rw[e,Y,_y,e1 (by(simp;try omega)),show _o aE.enc (_l i (av l now))++[[.v (.int .u32 t.a),.v (.int .u32 t.b),.v (.int .i64 t.c),.v (.int .i64 t.d),.v (.int .i64 (dK t.s t.o da bo fw (hj t a b c d)).2.1),.v (.int .i64 (dK t.s t.o da bo fw (hj t a b c d)).2.2),.v (.int .i64 now)]]=_o aE.enc (_l i (av l now)++[⟨t.a,t.b,t.c,t.d,(dK t.s t.o da bo fw (hj t a b c d)).2.1,(dK t.s t.o da bo fw (hj t a b c d)).2.2,now⟩])from As _ ⟨t.a,t.b,t.c,t.d,(dK t.s t.o da bo fw (hj t a b c d)).2.1,(dK t.s t.o da bo fw (hj t a b c d)).2.2,now⟩];all_goals exact bM
end Go.Proofs.YtdiobdlinjgakaaGreatDoor.T
