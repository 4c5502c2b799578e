import Derived.Test.YtdiobdlinjgakaaGreatDoorDh31
import Derived.Test.YtdiobdlinjgakaaGreatDoorDh22
import Derived.Test.YtdiobdlinjgakaaGreatDoorDh23
set_option linter.unusedVariables false
set_option linter.unusedSimpArgs false
set_option maxHeartbeats 8000000
set_option maxRecDepth 100000
open Go.Proofs.Tryz
open List renaming length_append->_a,length_filter_le->_c,length_take->_g,length_drop->_h,length_singleton->_j,mem_filter->_l
open Nat renaming le_succ->_b,le_refl->_d,add_le_add->_e,zero_le->_i,le_succ_of_le->_k
open Classical renaming not_not->_f
namespace Go.Proofs.YtdiobdlinjgakaaGreatDoor
theorem ame{n:iD}(h:n.wf)(c:pB n=0):n.ms.length<=128:=by
 have h1:A.k9 n.ah n.ai [] n.ms n.t1 n.t2 0=true:=by
  unfold pB A.dQ at c;split at c
  .split at c
   .assumption
   cases c
  cases c
 rw[<-A.G8 n.ah n.ai n.t1 n.t2 n.ms h.t1 h.t2,Bool.and_eq_true]at h1;have h2:=h1.2;unfold A.qT at h2;rw[Bool.and_eq_true,decide_eq_true_eq]at h2;have f:∀b t,(A.fU b t).length<=64:=fun b t=>by
  unfold A.fU;exact LN
 have:=f n.ah n.t1;have:=f n.ai n.t2;omega
theorem TF{n:iD}(h:n.wf)(pr ad po now:Int)(q:0<=ad/\ad<4294967296):(nf n pr ad po now).1<18446744073709551616/\(nf n pr ad po now).2.1<18446744073709551616/\(nf n pr ad po now).2.2.1.length<=n.ms.length+1/\∀b∈(nf n pr ad po now).2.2.1,0<=b.ad/\b.ad<4294967296:=by
 have c:∀b∈n.ms,0<=b.ad/\b.ad<4294967296:=h.ad;have G:(A.av n.l now n.ms).length<=n.ms.length:=_c _ _;have u:∀(x:A.Mp),(0<=x.ad/\x.ad<4294967296)->∀(v:List A.Mp),(∀b∈v,b∈n.ms)->∀b∈v++[x],0<=b.ad/\b.ad<4294967296:=fun x J v M b hm=>by
  rcases List.mem_append.1 hm with hm|hm
  .exact c b (M b hm)
  rw[List.mem_singleton.1 hm];exact J
 have z:∀b∈A.av n.l now n.ms,b∈n.ms:=fun b hm=>(_l.1 hm).1
 refine A.Mm n.l n.ah n.t1 n.ai n.t2 n.ms pr ad po now (Q:=fun r=>r.1<18446744073709551616/\r.2.1<18446744073709551616/\r.2.2.1.length<=n.ms.length+1/\∀b∈r.2.2.1,0<=b.ad/\b.ad<4294967296) (fun _=>⟨h.t1,h.t2,_b _,c⟩) (fun _ _=>⟨h.t1,h.t2,_b _,c⟩) (fun _ _ _=>⟨h.t1,h.t2,_b _,c⟩) (fun I _ _ i Q U _ hm=>?_) (fun I _ _ X=>?_)
 all_goals
  obtain⟨-,-,O,-,-⟩:=A.oU h.t1 h.t2 I;have g:A.kE n.ah n.ai (A.av n.l now n.ms):=O.sub (List.filter_sublist (p:=A.jN n.l now) (l:=n.ms));have j:=(A.l9 n.ah 17 _ g.aw g.ka).1;have m:=(A.l9 n.ai 6 _ g.aY g.ka).1
 .refine⟨j,m,?_,u _ q _ (fun b hm=>z b (_l.1 hm).1)⟩;dsimp only;rw[_a];exact _e (Nat.le_trans (_c _ _) G) (_d _)
 have hl:∀x:A.Mp,(A.av n.l now n.ms++[x]).length<=n.ms.length+1:=fun x=>by rw[_a];exact _e G (_d _)
 refine⟨fun _ _=>⟨h.t1,h.t2,_b _,c⟩,fun _ _=>⟨h.t1,h.t2,_b _,c⟩,fun _ C=>?_,fun _ C=>?_⟩
 .have f:=A.sD (b:=n.ai) m (A.sH C).2.2 po;exact⟨j,A.Dt m f.1 f.2,hl _,u _ q _ z⟩
 have f:=A.sD (b:=n.ah) j (A.sH C).2.2 po;exact⟨A.Dt j f.1 f.2,m,hl _,u _ q _ z⟩
theorem aaS(l:List T.aE)(a b c d aM now:Int):(ll l a b c d aM now).1.length<=l.length+1:=by
 have f:(T.av l now).length<=l.length:=_c _ _;have h:(T.qz l a b c d aM now).1.length<=l.length+1:=by
  refine T.L4 (Q:=fun r=>r.1.length<=l.length+1) (fun _=>_b _) (fun _ _=>_b _) (fun g j m q _ _ _ _=>?_) (fun g j m q i t _ _ _ _ _=>?_)
  .unfold T.nS;split
   .exact _k f
   split
   .exact _b _
   rw[_a];exact _e f (_d _)
  unfold T.jn;split
  .dsimp only;rw[_a,_g,_h];omega
  split
  .exact _k f
  dsimp only;rw[_a,_a,_g,_h,_j];omega
 unfold ll;split
 .exact h
 exact _b _
theorem abw(b:bj)(a now n:Int):(ld b a now n).1.length<=b.ms.length+1:=by
 unfold ld;split
 .rw[_a];exact _e (_c _ _) (_d _)
 dsimp only;rw[_a,_h,_j];omega
theorem TU{n b:Nat}(h:n<=65)(c:b<=48):cx n b:=by
 have:n*b<=65*48:=Nat.mul_le_mul h c;unfold cx maxLen;omega
def vW(b:bj):Prop:=b.ms.length<=65/\b.tr.length<=65/\b.n.ms.length<=200
theorem aaB{b:bj}(c:b.wf)(u:iA b=0)(f:Bool)(s:List UInt8)(now:Int):(h5 b f s now).1.wf/\vW (h5 b f s now).1:=by
 obtain⟨-,v,x,z,-⟩:=qS u;have Q:=En z;have U:=(T.gX v).1;have X:=ame c.n x;have bl:∀(ms:List aZ)(tr:List T.aE)(n:iD),ms.length<=65->tr.length<=65->n.wf->n.ms.length<=200->bj.wf {b with ms:=ms,tr:=tr,n:=n}/\vW {b with ms:=ms,tr:=tr,n:=n}:=fun ms tr n h1 h2 C I=>⟨⟨c.p,c.rs,TU h1 ae,TU h2 ae,C⟩,h1,h2,I⟩
 have w0:b.wf/\vW b:=⟨c,by unfold vW;omega⟩;unfold h5;split
 .exact w0
 rename_i J;have g:=DI (_f.1 J);split
 .exact w0
 split
 .exact w0
 dsimp only;have Y:=abw b (bC s).1.ax now ((H.fq s).1.length:Nat);generalize ld b (bC s).1.ax now ((H.fq s).1.length:Nat)=M at *;split
 .exact bl M.1 b.tr b.n G G c.n G
 split
 .refine bl _ _ _ G ?_ ?_ ?_
  .have h:=aaS b.tr (bC s).1.ax (bC s).1.to (bC s).1.bZ (bC s).1.b2 (mE (H.fq s).1) now;unfold oC lj;split
   .show b.tr.length<=65;omega
   split
   .exact iS
   split<;>(dsimp only;split<;>omega)
  .obtain⟨j,m,O,q⟩:=TF c.n (bC s).1.bx (bC s).1.ax (bC s).1.bZ now g.ax;unfold oC lj;split
   .exact c.n
   split
   .exact c.n
   split
   .exact c.n
   exact⟨j,m,iS,q⟩
  obtain⟨j,m,O,q⟩:=TF c.n (bC s).1.bx (bC s).1.ax (bC s).1.bZ now g.ax;unfold oC lj;split
  .show b.n.ms.length<=200;omega
  split
  .show b.n.ms.length<=200;omega
  split
  .show b.n.ms.length<=200;omega
  exact iS
 refine bl _ _ _ G ?_ c.n G;have h:=aaS b.tr (bC s).1.ax (iv b.n (bC s).1.bx (bC s).1.b2 now).1 (bC s).1.bZ (iv b.n (bC s).1.bx (bC s).1.b2 now).2.1 (mE (H.fq s).1) now;unfold rU mu;split
 .show b.tr.length<=65;omega
 split
 .show b.tr.length<=65;omega
 split
 .exact iS
 dsimp only;split<;>omega
theorem Uj{c:bj}(b:c.wf)(f:Bool)(s:List UInt8)(now:Int):(cb c f s now).1.wf:=by
 unfold cb;split
 .exact b
 rename_i h;split
 .exact b
 exact(aaB b (_f.1 h) f s now).1
theorem abc{c:bj}(g:c.wf)(f:Bool)(s:List UInt8)(now:Int)(b:(cb c f s now).2.2.2=0):vW (cb c f s now).1:=by
 unfold cb at b⊢;by_cases h:iA c≠0
 .rw[if_pos h]at b;exact absurd b h
 rw[if_neg h]at b⊢;by_cases h2:now<h4 c\/1099511627776<now
 .rw[if_pos h2]at b;exact absurd (show(1:Int)=0 from b) ae
 rw[if_neg h2];exact(aaB g (_f.1 h) f s now).2
structure j5 where
 (ins:Bool) (s:List UInt8) (tm:Int)
abbrev j5.enc(c:j5):List O:=[.v (.bool c.ins),.v (.string (I c.s)),.v (.int .i64 c.tm)]
structure gv where
 (s:List UInt8) (gN err:Int)
abbrev gv.enc(c:gv):List O:=[.v (.string (I c.s)),.v (.int .i64 c.gN),.v (.int .i64 c.err)]
def sO(p:bj×List gv)(c:j5):bj×List gv:=((cb p.1 c.ins c.s c.tm).1,p.2++[⟨(cb p.1 c.ins c.s c.tm).2.1,(cb p.1 c.ins c.s c.tm).2.2.1,(cb p.1 c.ins c.s c.tm).2.2.2⟩])
def mI(b:bj)(l:List j5):bj×List gv:=l.foldl sO (b,[])
theorem al5{u:bj}{l:List j5}{k:Nat}{t:j5}(h:l[k]?=some t):mI u (l.take (k+1))=sO (mI u (l.take k)) t:=by
 unfold mI;rw[List.take_add_one,h,List.foldl_append];rfl
theorem OW{b:bj}(f:b.wf):∀l:List j5,(mI b l).1.wf/\(mI b l).2.length=l.length:=by
 intro l;have:∀(l:List j5)(p:bj×List gv),p.1.wf->(l.foldl sO p).1.wf/\(l.foldl sO p).2.length=p.2.length+l.length:=by
  intro l;induction l with
  |nil=>exact fun p h=>⟨h,rfl⟩
  |cons c r g=>
   intro p h;obtain⟨h1,h2⟩:=g (sO p c) (Uj h _ _ _);refine⟨h1,?_⟩;rw[List.foldl_cons,h2];unfold sO;simp;omega
 have h:=this l (b,[]) f;exact⟨h.1,by rw[show(mI b l)=l.foldl sO (b,[])from rfl,h.2];simp⟩
end Go.Proofs.YtdiobdlinjgakaaGreatDoor
namespace Go.Proofs.YtdiobdlinjgakaaGreatDoor.R
attribute [local irreducible] bc Go
structure rY (F:ig):Prop where
 a:0<=F.a/\F.a<4294967296
 b:0<=F.b/\F.b<4294967296
 p:0<=F.p/\F.p<1000000000
 q:0<=F.q/\F.q<1000000000
theorem QO{l r:List ak}{v:Int}(h:eo jd l=some (v,r)):0<=v/\v<4294967296:=by
 obtain⟨s,-,aj⟩:=rN h;unfold jd at aj;split at aj
 .have:=Iw s;have:=Option.some.inj aj;omega
 cases aj
theorem OG{l r:List ak}{v:Int}(h:eo gg l=some (v,r)):0<=v/\v<1000000000:=by
 obtain⟨s,-,aj⟩:=rN h;obtain⟨n,rfl,b,-⟩:=PU aj;omega
theorem J4{l r:List ak}{F:ig}(h:nM l=some (F,r)):rY F:=by
 obtain⟨j,m,q,b,c,f,g⟩:=Nn h;exact⟨QO b,QO f,OG c,OG g⟩
theorem zS:∀(b:List ak)(i:Nat)(p:b6)(f:List ak)(q:b6)(h2:List ak),p.wf->e4 i p f b=.inl (q,h2)->q.wf
 |[],i,p,f,q,h2,c,h=>by
  unfold e4 at h;cases h;exact c
 |l::b,i,p,f,q,h2,c,h=>by
  unfold e4 at h;split at h
  .exact zS b _ _ _ _ _ c h
  rename_i w0 r e;split at h
  .exact zS b _ _ _ _ _ c h
  split at h
  .cases h
  split at h
  .exact zS b _ _ _ _ _ (D8 c _ _) h
  split at h
  .cases h
  exact zS b _ _ _ _ _ (D8 c _ _) h
theorem VG:∀(uc:List ak)(i:Nat)(p:b6)(b:List ak)(x:Int×Int),e4 i p b uc=.inr x->¬x.2=0
 |[],i,p,b,x,h=>by
  unfold e4 at h;cases h
 |l::uc,i,p,b,x,h=>by
  unfold e4 at h;split at h
  .exact D1
  split at h
  .exact D1
  split at h
  .cases h;exact(ae:¬(10:Int)=0)
  split at h
  .exact D1
  split at h
  .cases h;exact(ae:¬(8:Int)=0)
  exact D1
theorem EV{s:ak}(h:(fb s).2.2=0):(fb s).1.wf/\eD (fb s).1=0:=by
 unfold fb at h⊢;by_cases g:20000<s.length
 .rw[if_pos g]at h;exact absurd h ae
 rw[if_neg g]at h⊢;cases e:e4 0 iU [] (bm 10 s)with
 |inr x=>
  rw[e]at h;exact absurd h (VG _ _ _ _ _ e)
 |inl x=>
  rw[e]at h;have j:=zS _ _ _ _ _ _ HJ (show e4 0 iU [] (bm 10 s)=.inl (x.1,x.2)from e);by_cases f:x.2.length<5
  .have b:q_ (.inl x)=(iU,0,7):=if_pos f;rw[b]at h;exact absurd h Ny
  by_cases c:eD x.1=0
  .have b:q_ (.inl x)=(x.1,0,0):=(if_neg f).trans (if_pos c);rw[b];exact⟨j,c⟩
  have b:q_ (.inl x)=(iU,0,eD x.1):=(if_neg f).trans (if_neg c);rw[b]at h;exact absurd h c
theorem PF(s:ak)(a p:Int)(x y:Nat):(fW s a p x y).1.length<=65535:=by
 unfold fW;have:=di s 2;repeat' split
 .exact pf
 .exact pf
 dsimp only;rw[_g];unfold dL;omega
theorem afa(p6 K D:Bool)(tr:List T.aE)(tk:List T.aE×Bool)(n dq:iD)(e:Int)(o:List UInt8)(b:o.length<=65535):(0<=(lj p6 K D tr tk n dq e o).2.2.2/\(lj p6 K D tr tk n dq e o).2.2.2<=1000000000)/\(lj p6 K D tr tk n dq e o).2.2.1.length<=65535:=by
 unfold lj;exact VQ
theorem abD(p6 K:Bool)(tr:List T.aE)(tk:List T.aE×Bool)(e:Int)(o:List UInt8)(b:o.length<=65535):(0<=(mu p6 K tr tk e o).2.2/\(mu p6 K tr tk e o).2.2<=1000000000)/\(mu p6 K tr tk e o).2.1.length<=65535:=by
 unfold mu;exact VQ
theorem aju(b:bj)(i:Bool)(s:ak)(n:Int):(0<=(h5 b i s n).2.2.2.2/\(h5 b i s n).2.2.2.2<=1000000000)/\(h5 b i s n).2.2.2.1.length<=65535:=by
 have h:∀(c:Int),0<=c->c<=5->(0<=c/\c<=1000000000)/\([]:ak).length<=65535:=fun c h1 h2=>⟨G,_i _⟩
 unfold h5;by_cases h1:(bC s).2≠0
 .rw[if_pos h1];exact h 1 ae ae
 rw[if_neg h1];by_cases h2:i=false/\(bC s).1.to≠b.p.ou
 .rw[if_pos h2];exact h 4 ae ae
 rw[if_neg h2];by_cases f:(H.fq s).2≠0
 .rw[if_pos f];exact h 2 ae ae
 rw[if_neg f];dsimp only;by_cases g:(ld b (bC s).1.ax n ((H.fq s).1.length:Nat)).2=false
 .rw[if_pos g];exact h 3 ae ae
 rw[if_neg g];cases i
 .exact abD _ _ _ _ _ _ (PF ..)
 exact afa _ _ _ _ _ _ _ _ _ (PF ..)
theorem Ba(b:bj)(i:Bool)(s:ak)(n:Int):(0<=(cb b i s n).2.2.1/\(cb b i s n).2.2.1<=1000000000)/\(cb b i s n).2.1.length<=65535:=by
 have h:((0:Int)<=0/\(0:Int)<=1000000000)/\([]:ak).length<=65535:=ae;unfold cb;by_cases h1:iA b≠0
 .rw[if_pos h1];exact h
 rw[if_neg h1];by_cases h2:n<h4 b\/1099511627776<n
 .rw[if_pos h2];exact h
 rw[if_neg h2];exact aju b i s n
def ht(F:ig)(pr:Int)(d:ak):dZ:=⟨0,0,false,false,0,64,pr,F.a,F.b,[],d⟩
theorem aay(F:ig)(pr:Int)(d:ak)(f:rY F)(g:d.length<=140737488351232)(j:(eM (ht F pr d)).2=0):Spec prog 54 [.agg (FM F pr),.v (.string (I d)),.v (.int .i64 0)] (.v (.string (I (eM (ht F pr d)).1))):=by
 have m:=o_;have c:=Tx (ht F pr d) (_i _) g f.a f.b;unfold n5 at c;rw[j]at c;generalize (eM (ht F pr d)).1=T at *;refine az {} 0 func54 fun Γ an=>ar ?_
 repeat' first|refine af ?_|refine J m ?_|refine aL 105 (fS c ?_)|refine ag ?_|refine ab ?_ ?_<;>intro h<;>try exact aa|exact al|fail
 all_goals exact bM
theorem YK(F:ig)(pr:Int)(d:ak)(e:Int)(c:¬e=0):gS prog 54 [.agg (FM F pr),.v (.string (I d)),.v (.int .i64 e)] [] (iI e) []:=by
 have f:=CT e c;refine eu {} 0 func54 fun Γ j m b=>ep ?_
 have g:=fun st=>b st J3 trivial
 clear b;repeat' first|(with_reducible refine eN 1 _ rfl ?_);(repeat' first|refine af ?_|refine eR ?_|refine ab ?_ ?_<;>intro h<;>try exact aa);(all_goals exact eT [] ae rfl rfl f (g _));done|refine af ?_|refine ag ?_|refine ab ?_ ?_<;>intro h<;>try exact aa
theorem Zo(F:ig)(pr:Int)(d:ak)(f:rY F)(m:d.length<=140737488351232)(q:¬(eM (ht F pr d)).2=0):gS prog 54 [.agg (FM F pr),.v (.string (I d)),.v (.int .i64 0)] [] (iI (eM (ht F pr d)).2) []:=by
 have g:=o_;have c:=Tx (ht F pr d) (_i _) m f.a f.b;unfold n5 at c;generalize (eM (ht F pr d)).1=T at *;generalize (eM (ht F pr d)).2=E at *;have u:=CT E q;refine eu {} 0 func54 fun Γ z C j=>ep ?_
 have x:=fun st=>j st J3 trivial
 clear j;repeat' first|(with_reducible refine eN 1 _ rfl ?_);(repeat' first|refine af ?_|refine J g ?_|refine aL 105 (fS c ?_)|refine eR ?_|refine ab ?_ ?_<;>intro h<;>try exact aa);(all_goals exact eT [] ae rfl rfl u (x _));done|refine af ?_|refine J g ?_|refine aL 105 (fS c ?_)|refine ag ?_|refine ab ?_ ?_<;>intro h<;>try exact aa
abbrev l8(l:List Int):List (List O):=l.map fun n=>[.v (.int .i64 n)]
abbrev b9(l:List ak):List (List O):=bk (l.map I)
theorem ada{l:List Int}{k:Nat}{t:Int}(h:l[k]?=some t):cf (l8 l) k=[.v (.int .i64 t)]:=by rw[lZ,List.getElem?_map,h];rfl
theorem acW(l:List ak)(w:ak):b9 l++[[.v (.string (I w))]]=b9 (l++[w]):=Dd l w
theorem oa(l:List ak):(b9 l).length=l.length:=lD
theorem akj(z n:Nat)(l:List Int)(hl:l.length<=1048576)(M:∀x∈l,0<=x/\x<=1000000000):fi prog 57 [.aG 0 n 1 0 l.length true] [some ⟨n,1,l8 l⟩] 1 (fun q d H=>d=.aG z q 1 0 l.length false/\H=[some ⟨n,1,l8 l⟩,some ⟨q,1,b9 (l.map bt)⟩]):=by
 have f:(l8 l).length=l.length:=List.length_map ..;refine h0 {} 1 func57 fun Γ Q ah=>ar ?_
 have U:n<Γ.g0:=Q 0 _ rfl;repeat' first|refine af ?_|refine ag ?_|refine ab ?_ ?_<;>intro h<;>try exact aa|simp only[f]
 apply eJ
 .exact Ly
 refine bz ?_;refine bS (α:=Nat×Nat×Nat) (fun x=>[(⟨.d0,.d0,.d3⟩,.aG 2 x.2.1 1 0 x.1 false),(⟨.d0,.d1,.d0⟩,.v (.int .i64 (x.1:Nat)))]) (fun x=>[(1,none),(2,some ⟨x.2.1,1,b9 ((l.take x.1).map bt)⟩)]) (fun x=>x.2.2) (fun x=>l.length-x.1) (fun x=>x.1<=l.length) (0,Γ.g0,Γ.g0+1) (_i _) ?_ ?_
 .exact bs
 rintro⟨k,X,c⟩ Y;dsimp only at Y⊢;refine bz ?_;have g:(b9 ((l.take k).map bt)).length=k:=by rw[oa];simp;omega
 by_cases j:k<l.length
 .obtain⟨t,m⟩:∃t,l[k]?=some t:=⟨_,List.getElem?_eq_getElem j⟩;have Z:=ada m;have ac:=nx t (M t (List.mem_of_getElem? m));have C:b9 ((l.take k).map bt)++[[.v (.string (I (bt t)))]]=b9 ((l.take (k+1)).map bt):=by rw[acW,nU m,List.map_append];rfl
  repeat' first|refine af ?_|refine J ac ?_|simp only[Nat.zero_add,Int.toNat_natCast,Z,f,C]|refine ag ?_|refine ab ?_ ?_<;>intro h<;>try exact aa|refine aK ⟨aH,aH,aH,aH,by rw[g]⟩ ?_|refine aK ⟨aH,by rw[g];unfold cx maxLen;simp only[List.length_cons,List.length_nil];omega⟩ ?_|exact al|fail
  refine br ⟨(k+1,c+1,c+2),j,Nat.sub_lt_sub_left j (Nat.lt_succ_self k),?_⟩;refine dB ?_ ?_ (_d _);all_goals first|refine dD ?_|exact dE
  all_goals repeat' first|exact trivial|exact rfl|apply And.intro
  all_goals first|exact nR|exact congrArg (fun u=>some (⟨c+1,1,u⟩:aR)) C|exact congrArg (fun u=>O.aG 2 (c+1) 1 0 (u+1) false) g
 obtain rfl:k=l.length:=G;rw[List.take_length];repeat' first|refine af ?_|refine ag ?_|refine ab ?_ ?_<;>intro h<;>try exact aa|simp only[f]|exact al|fail
 exact kh [0,2] [X] trivial ae rfl (fun a ek=>N5) (fun q=>⟨z,q,.inl ⟨0,rfl,rfl⟩,rfl⟩) (fun q=>⟨⟨.inr ⟨U,rfl⟩,rfl,gK _ (eS (fun x=>fY))⟩,⟨.inl ⟨0,rfl,rfl⟩,rfl,gK _ (p5 _ _)⟩,rfl⟩)
abbrev dR(n:Nat)(b:bj):aR:=⟨n,16,[b.row (om b.ms)]⟩
theorem fL(b:bj)(g:Nat):c1 g [b.row (om b.ms)]:=⟨tU g b,trivial⟩
def kr(gN:Int)(o:ak):List ak:=bt gN::(if(bC o).2=0 then[eF (bC o).1.ax.toNat,bt (bC o).1.bZ,eF (bC o).1.to.toNat,bt (bC o).1.b2]else[])
theorem Et{o:ak}(h:(bC o).2=0):(0<=(bC o).1.ax/\(bC o).1.ax<4294967296)/\(0<=(bC o).1.to/\(bC o).1.to<4294967296)/\(0<=(bC o).1.bZ/\(bC o).1.bZ<=1000000000)/\(0<=(bC o).1.b2/\(bC o).1.b2<=1000000000):=by
 have h1:=DI h;have h2:=(FF h).2.2.2.2.2.1;rw[h2]at h1⊢;have b:=di o (aA o);have c:=di o (aA o+2);exact⟨h1.ax,h1.to,iS,iS⟩
theorem OU(k b n:Nat)(l:List Int)(hl:l.length<=1048576)(c:∀x∈l,0<=x/\x<=1000000000):fi prog 57 [.aG k n 1 0 l.length true] [some ⟨n,1,l8 l⟩] 1 (fun q d H=>d=.aG b q 1 0 l.length false/\H=[some ⟨n,1,l8 l⟩,some ⟨q,1,b9 (l.map bt)⟩]):=
 EK (akj b n l hl c) (fun K w f h=>BM (fun v=>o9) h)
theorem I1(M n:Nat)(c:bj)(an:c.wf)(i:Bool)(s:ak)(aj:s.length<=140737488351232)(j:Int)(Y:(cb c i s j).2.2.2=0):
 fi prog 53 [.ptr 0 n 16 0 0,.v (.bool i),.v (.string (I s)),.v (.int .i64 j)] [some (dR n c)] 1 (fun q d H=>d=.aG M q 1 0 (kr (cb c i s j).2.2.1 (cb c i s j).2.1).length false/\H=[some (dR n (cb c i s j).1),some ⟨q,1,b9 (kr (cb c i s j).2.2.1 (cb c i s j).2.1)⟩]):=by
 have O:=E9 c an i s aj j;obtain⟨Z,ao⟩:=Ba c i s j;have Q:=fun g=>fL (cb c i s j).1 g
 generalize cb c i s j=ap at *;obtain⟨az,o,gN,e⟩:=ap;dsimp only at Y Z ao O Q⊢;subst Y;have u:=Dh o G;have ac:=o_;have am:∀x,fi prog 57 [.aG 2 x 1 0 1 true] [some ⟨x,1,[[.v (.int .i64 gN)]]⟩] 1 (fun q d H=>d=.aG 6 q 1 0 1 false/\H=[some ⟨x,1,[[.v (.int .i64 gN)]]⟩,some ⟨q,1,[[.v (.string (I (bt gN)))]]⟩]):=fun x=>OU 2 6 x [gN] (Nat.le_of_ble_eq_true rfl) (by simpa using Z)
 by_cases m:(bC o).2=0
 .obtain⟨ah,ai,aq,au⟩:=Et m;have t1:=Hc _ ah;have t2:=Hc _ ai;have t3:=nx _ aq;have t4:=nx _ au;have C:kr gN o=[bt gN,eF (bC o).1.ax.toNat,bt (bC o).1.bZ,eF (bC o).1.to.toNat,bt (bC o).1.b2]:=by unfold kr;rw[if_pos m]
  rw[C];unfold sx at u;rw[m]at u;generalize (bC o).1=f at *;clear C m;refine h0 {} 1 func53 fun Γ U av=>ar ?_
  have X:n<Γ.g0:=U 0 _ rfl;repeat' first|refine af ?_|refine J O ?_|refine J ac ?_|refine J u ?_|refine J t1 ?_|refine J t2 ?_|refine J t3 ?_|refine J t4 ?_|(with_reducible refine aL 57 ?_);(refine gb [2] [6] [2,6] rfl ae rfl rfl (am _) ?_)|refine ag ?_|refine ab ?_ ?_<;>intro h<;>try exact aa|exact al|fail
  exact kh [0,5] [Γ.g0+4+1] trivial ae rfl (fun a z=>by simp at z;subst z;exact⟨5,_,rfl,rfl⟩) (fun q=>⟨M,q,.inl ⟨0,rfl,rfl⟩,rfl⟩) (fun q=>⟨⟨.inr ⟨X,rfl⟩,rfl,gK _ (Q _)⟩,⟨.inl ⟨0,rfl,rfl⟩,rfl,gK _ (p5 [bt gN,eF f.ax.toNat,bt f.bZ,eF f.to.toNat,bt f.b2] _)⟩,rfl⟩)
 have C:kr gN o=[bt gN]:=by unfold kr;rw[if_neg m]
 rw[C];unfold sx at u;generalize (bC o).1=f at *;generalize (bC o).2=E at *;have aw:decide (E=0)=false:=decide_eq_false m;refine h0 {} 1 func53 fun Γ U av=>ar ?_
 have X:n<Γ.g0:=U 0 _ rfl;repeat' first|refine af ?_|refine J O ?_|refine J ac ?_|refine J u ?_|simp only[aw]|(with_reducible refine aL 57 ?_);(refine gb [2] [6] [2,6] rfl ae rfl rfl (am _) ?_)|refine ag ?_|refine ab ?_ ?_<;>intro h<;>try exact aa|exact al|fail
 exact kh [0,6] [Γ.g0+1+1] trivial ae rfl (fun a z=>by simp at z;subst z;exact⟨6,_,rfl,rfl⟩) (fun q=>⟨M,q,.inl ⟨0,rfl,rfl⟩,rfl⟩) (fun q=>⟨⟨.inr ⟨X,rfl⟩,rfl,gK _ (Q _)⟩,⟨.inl ⟨0,rfl,rfl⟩,rfl,gK _ (p5 [bt gN] _)⟩,rfl⟩)
theorem KZ(n:Nat)(c:bj)(j:c.wf)(i:Bool)(s:ak)(aj:s.length<=140737488351232)(f:Int)(g:¬(cb c i s f).2.2.2=0):gS prog 53 [.ptr 0 n 16 0 0,.v (.bool i),.v (.string (I s)),.v (.int .i64 f)] [some (dR n c)] (iI (cb c i s f).2.2.2) [some (dR n c)]:=by
 have aT:=E9 c j i s aj f;generalize cb c i s f=m at *;obtain⟨q,o,gN,e⟩:=m;dsimp only at g aT⊢;have bn:=CT e g;refine eu {} 1 func53 fun Γ u eg cd=>ep ?_
 exact Uc
theorem aky{p:b6}(h:p.wf)(c:cx p.rs.length 80):(iH p).wf:=by
 have b:cx 0 40/\cx 0 48/\cx 0 80:=Aw;unfold iH;split
 .exact⟨h,c,b.1,b.2.1,⟨aF,aF,aF,fun g f=>(by cases f)⟩⟩
 exact⟨⟨by simp[qF],fun r c=>(by cases c)⟩,b.2.2,b.1,b.2.1,⟨by simp[qF],by simp[qF],by simp[qF],fun g f=>(by cases f)⟩⟩
theorem Oj{p:b6}(h:eD p=0):p.rs.length<=64:=by
 have h1:hF p.rs=0:=by
  unfold eD at h;split at h
  .exact h
  exact absurd h ae
 exact(F3 h1).1
theorem Al{p:b6}(h:eD p=0):cx p.rs.length 80:=by
 have:=Oj h;unfold cx maxLen;omega
theorem agS(n:Nat)(q:bj)(s:ak)(aj:s.length<=140737488355328)(c:(fb s).2.2=0):b1 prog 43 [.ptr 0 n 16 0 0,.v (.string (I s))] [some (dR n q)] (fun d H=>d=.aS []/\H=[some (dR n (iH (fb s).1))]):=by
 have f:=aaJ s aj;obtain⟨u,j⟩:=EV c;have m:=Qd _ u (Al j);have x:=fun g=>fL (iH (fb s).1) g
 have z:=o_;unfold qo hJ at f;rw[if_pos c,c]at f;rw[j]at m;generalize (fb s).1=p at *;generalize (fb s).2.1=M at *;generalize iH p=v at *;refine ej {} 1 func43 fun Γ C O=>ar ?_
 have G:n<Γ.g0:=C 0 _ rfl;repeat' first|refine af ?_|refine J f ?_|refine J z ?_|refine J m ?_|refine ag ?_|refine ab ?_ ?_<;>intro h<;>try exact aa|exact al|fail
 exact iT trivial trivial rfl rfl G (x _) rfl
theorem abJ(n:Nat)(c:bj)(s:ak)(aj:s.length<=140737488355328)(f:¬(fb s).2.2=0):gS prog 43 [.ptr 0 n 16 0 0,.v (.string (I s))] [some (dR n c)] (iI (fb s).2.2) [some (dR n c)]:=by
 have aT:=aaJ s aj;rw[n_ f]at aT;generalize (fb s).2.1=g at *;generalize (fb s).2.2=e at *;have bn:=CT e f;refine eu {} 1 func43 fun Γ j eg cd=>ep ?_
 exact Uc
end Go.Proofs.YtdiobdlinjgakaaGreatDoor.R
