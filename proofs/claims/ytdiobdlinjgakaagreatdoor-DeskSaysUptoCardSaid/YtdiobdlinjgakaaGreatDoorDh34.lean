import Derived.Test.YtdiobdlinjgakaaGreatDoorDh33
set_option linter.unusedVariables false
set_option linter.unusedSimpArgs false
set_option maxHeartbeats 8000000
set_option maxRecDepth 100000
open Go.Proofs.Tryz
open ByteArray renaming mk->_a
open Go.Lib renaming join->_b
namespace Go.Proofs.YtdiobdlinjgakaaGreatDoor.R
attribute [local irreducible] bc Go
theorem lE{P:Program}{f:FuncId}{n sz i j:Nat}{b:List O}{c g:aV}{m:List PanicEntry}(k:Nat)(h:gS P f (.ptr 0 n sz i j::b) c m g):gS P f (.ptr k n sz i j::b) c m g:=
 ⟨h.1,fun K w q g0 u x z=>h.2 K w q g0 u x (BM (fun v C=>re C) z)⟩
def qi(b:bj)(c:ak)(r:List ak):Prop:=∃aM:Bool,∀(n f:Nat),match(de b c r).2 with
 |.inl l=>fi prog 21 [.ptr 0 n 16 0 0,.snap 1 (b9 (c::r)) false] [some (dR n b)] 1 (fun q d H=>d=.aG f q 1 0 l.length aM/\H=[some (dR n (de b c r).1),some ⟨q,1,b9 l⟩])
 |.inr e=>gS prog 21 [.ptr 0 n 16 0 0,.snap 1 (b9 (c::r)) false] [some (dR n b)] (iI e) [some (dR n b)]
theorem wX{b v:bj}{c:ak}{r l:List ak}(h:de b c r=(v,.inl l))(aM:Bool)(k:∀n f:Nat,fi prog 21 [.ptr 0 n 16 0 0,.snap 1 (b9 (c::r)) false] [some (dR n b)] 1 (fun q d H=>d=.aG f q 1 0 l.length aM/\H=[some (dR n v),some ⟨q,1,b9 l⟩])):qi b c r:=⟨aM,fun n f=>by
 rw[h];exact k n f⟩
theorem hP{b:bj}{c:ak}{r:List ak}{e:Int}(h:(de b c r).2=.inr e)(k:∀n:Nat,gS prog 21 [.ptr 0 n 16 0 0,.snap 1 (b9 (c::r)) false] [some (dR n b)] (iI e) [some (dR n b)]):qi b c r:=⟨false,fun n f=>by
 rw[h];exact k n⟩
theorem cL:(_a #[112,108,97,110]:ByteArray)=I fv:=rfl
theorem cO:(_a #[112,108,97,110,63]:ByteArray)=I gG:=rfl
theorem cZ:(_a #[108,101,116,116,101,114]:ByteArray)=I gd:=rfl
theorem cW:(_a #[115,101,103,109,101,110,116]:ByteArray)=I gq:=rfl
theorem dp:(_a #[112,97,99,107,101,116]:ByteArray)=I hV:=rfl
theorem cS:(_a #[99,111,117,110,116]:ByteArray)=I hO:=rfl
theorem mf{a b:ak}(h:a=b):decide (I a=I b)=true:=decide_eq_true (congrArg I h)
theorem gZ{a b:ak}(h:¬a=b):decide (I a=I b)=false:=decide_eq_false (fun q=>h (dF.1 q))
theorem ahR(f:bj)(ao:fJ f)(r:List ak)(ac:r.length<=1048576)(X:(cm r).length<=1048576):qi f fv r:=by
 obtain⟨c,Y⟩:∃c,c=fv:=⟨_,rfl⟩;have hl:de f fv r=qd f r:=if_pos rfl;rw[<-Y]at hl⊢;have g:=fun ah=>dN 1 (lW ah c r)
 have j:=l5;have ai:=mq;have m:=o_;have d1:=mf Y;by_cases u:r=[]
 .subst u;have aj:qd f []=(f,.inr 10):=if_pos rfl;refine hP (by rw[hl,aj]) fun n=>?_
  refine eu {} 1 func21 fun Γ C z x=>ep ?_
  have G:=fun st h=>x st h ⟨⟨z 0 _ rfl,fL _ _⟩,trivial⟩
  clear x;repeat' first|(with_reducible refine eN 3 _ rfl ?_);(repeat' first|refine af ?_|(with_reducible refine aL 41 ?_);(refine aX [1] ae rfl rfl (g _) ?_)|simp only[cL,cO,cZ,cW,dp,cS]|refine J j ?_|refine J m ?_|simp only[d1]|refine eR ?_|refine ab ?_ ?_<;>intro h<;>try exact aa);(all_goals exact eT [] ae rfl rfl ai (G _ ⟨rfl,trivial⟩));done|refine af ?_|(with_reducible refine aL 41 ?_);(refine aX [1] ae rfl rfl (g _) ?_)|simp only[cL,cO,cZ,cW,dp,cS]|refine J j ?_|refine J m ?_|simp only[d1]|refine ag ?_|refine ab ?_ ?_<;>intro h<;>try exact aa
 have I:decide ((0:Int)<(r.length:Nat))=true:=decide_eq_true (by have:=List.length_pos_iff.2 u;omega);have M:(b9 r).length=r.length:=oa r;have O:=Di r false (List.length_pos_iff.2 u) ac X;have Q:=Ib 59 [10] (cm r) ae X ae;have Z:(_b (bm 59 (cm r)) [10]).length<=140737488355328:=by
  have:=zg 59 [10] (cm r);simp at this;omega
 by_cases ay:(fb (_b (bm 59 (cm r)) [10])).2.2=0
 .refine wX (v:=iH (fb (_b (bm 59 (cm r)) [10])).1) (l:=[]) (by rw[hl];unfold qd;rw[if_neg u,if_pos ay]) false fun n am=>?_
  have U:=agS n f (_b (bm 59 (cm r)) [10]) Z ay;generalize iH (fb (_b (bm 59 (cm r)) [10])).1=v at *;refine h0 {} 1 func21 fun Γ C z=>ar ?_
  have an:n<Γ.g0:=C 0 _ rfl;repeat' first|refine af ?_|(with_reducible refine aL 41 ?_);(refine aX [1] ae rfl rfl (g _) ?_)|simp only[cL,cO,cZ,cW,dp,cS]|refine J j ?_|refine J m ?_|simp only[d1,M,I]|refine J O ?_|refine aL 44 (fS Q ?_)|(with_reducible refine aL 43 ?_);(refine aX [0] ae rfl rfl U ?_)|refine ag ?_|refine ab ?_ ?_<;>intro h<;>try exact aa|exact al|fail
  refine BF (j1 (gU ⟨.d0,.d0,.d4⟩ 9 1 rfl rfl)) ?_;exact kh [0,9] [_] trivial ae rfl (fun a ek=>Ia) (fun q=>⟨am,q,.inl ⟨0,rfl,rfl⟩,rfl⟩) (fun q=>⟨⟨.inr ⟨an,rfl⟩,rfl,gK _ (fL v _)⟩,⟨.inl ⟨0,rfl,rfl⟩,rfl,gK _ (p5 [] _)⟩,rfl⟩)
 refine hP (e:=(fb (_b (bm 59 (cm r)) [10])).2.2) (by rw[hl];unfold qd;rw[if_neg u,if_neg ay]) fun n=>?_
 have U:=abJ n f (_b (bm 59 (cm r)) [10]) Z ay;generalize (fb (_b (bm 59 (cm r)) [10])).2.2=e at *;refine eu {} 1 func21 fun Γ C z x=>ep ?_
 have G:=fun st h=>x st h ⟨⟨z 0 _ rfl,fL _ _⟩,trivial⟩
 clear x;repeat' first|(with_reducible refine eN 4 _ rfl ?_);(repeat' first|refine af ?_|(with_reducible refine aL 41 ?_);(refine aX [1] ae rfl rfl (g _) ?_)|simp only[cL,cO,cZ,cW,dp,cS]|refine J j ?_|refine J m ?_|simp only[d1,M,I]|refine J O ?_|refine aL 44 (fS Q ?_)|refine eR ?_|refine ab ?_ ?_<;>intro h<;>try exact aa);(all_goals exact eT [0] ae rfl rfl U (G _ ⟨rfl,trivial⟩));done|refine af ?_|(with_reducible refine aL 41 ?_);(refine aX [1] ae rfl rfl (g _) ?_)|simp only[cL,cO,cZ,cW,dp,cS]|refine J j ?_|refine J m ?_|simp only[d1,M,I]|refine J O ?_|refine aL 44 (fS Q ?_)|refine ag ?_|refine ab ?_ ?_<;>intro h<;>try exact aa
theorem l3{a b:ak}(c:ak)(h:c=b)(f:¬b=a):decide (I c=I a)=false:=gZ (by rw[h];exact f)
theorem agF(f:bj)(j:fJ f)(r:List ak)(ac:r.length<=1048576):qi f gG r:=by
 obtain⟨c,m⟩:∃c,c=gG:=⟨_,rfl⟩;have hl:de f gG r=(f,if r=[]then .inl [_b (bm 10 (lx f.p)) [32,59,32]]else .inr 10):=by
  unfold de;rw[if_neg ae,if_pos rfl]
 rw[<-m]at hl⊢;have u:=fun g=>dN 1 (lW g c r)
 have v:=l5;have ah:=mq;have x:=o_;have d1:=l3 (a:=fv) c m ae;have d2:=mf m;cases r with
 |cons s r=>
  have z:=fun g=>lE 1 (At g s r)
  refine hP (e:=10) GM fun n=>?_
  refine eu {} 1 func21 fun Γ C G I=>ep ?_
  have Q:=fun st h=>I st h ⟨⟨G 0 _ rfl,fL _ _⟩,trivial⟩
  clear I;repeat' first|(with_reducible refine eN 0 _ rfl ?_);(repeat' first|refine af ?_|(with_reducible refine aL 41 ?_);(refine aX [1] ae rfl rfl (u _) ?_)|simp only[cL,cO,cZ,cW,dp,cS]|refine J v ?_|refine J x ?_|simp only[d1,d2]|refine eR ?_|refine ab ?_ ?_<;>intro h<;>try exact aa);(all_goals exact eT [1] ae rfl rfl (z _) (Q _ ⟨rfl,trivial⟩));done|refine af ?_|(with_reducible refine aL 41 ?_);(refine aX [1] ae rfl rfl (u _) ?_)|simp only[cL,cO,cZ,cW,dp,cS]|refine J v ?_|refine J x ?_|simp only[d1,d2]|refine ag ?_|refine ab ?_ ?_<;>intro h<;>try exact aa
 |nil=>
  have z:=fun g=>dN 1 (zZ g)
  have M:=ag7 f.p false j.wf.p j.pl;rw[V4]at M;have O:(lx f.p).length<=1048576:=Nat.le_trans (Ln j.wf.p j.pl) ae;have U:=aft (lx f.p) O;have X:=Ib 10 [32,59,32] (lx f.p) ae O ae;refine wX (v:=f) (l:=[_b (bm 10 (lx f.p)) [32,59,32]]) GM true fun n Y=>?_
  generalize lx f.p=B at *;refine h0 {} 1 func21 fun Γ C G=>ar ?_
  have Z:n<Γ.g0:=C 0 _ rfl;repeat' first|refine af ?_|(with_reducible refine aL 41 ?_);(refine aX [1] ae rfl rfl (u _) ?_)|simp only[cL,cO,cZ,cW,dp,cS]|refine J v ?_|refine J x ?_|simp only[d1,d2]|(with_reducible refine aL 45 ?_);(refine aX [1] ae rfl rfl (z _) ?_)|refine J M ?_|refine aL 48 (fS U ?_)|refine aL 44 (fS X ?_)|refine ag ?_|refine ab ?_ ?_<;>intro h<;>try exact aa|exact al|fail
  exact kh [0,2] [_] trivial ae rfl (fun a ek=>N5) (fun q=>⟨Y,q,.inl ⟨0,rfl,rfl⟩,rfl⟩) (fun q=>⟨⟨.inr ⟨Z,rfl⟩,rfl,gK _ (fL f _)⟩,⟨.inl ⟨0,rfl,rfl⟩,rfl,gK _ (p5 [_] _)⟩,rfl⟩)
theorem alN(f:bj)(M:fJ f)(r:List ak):qi f hO r:=by
 obtain⟨c,j⟩:∃c,c=hO:=⟨_,rfl⟩;have hl:de f hO r=(f,if r=[]then .inl [bt (f.ms.length:Nat),bt (f.tr.length:Nat),bt (f.n.ms.length:Nat)]else .inr 10):=by
  unfold de;rw[if_neg ae,if_neg ae,if_neg ae,if_neg ae,if_neg ae,if_pos rfl]
 rw[<-j]at hl⊢;have m:=fun g=>dN 1 (lW g c r)
 have u:=l5;have Y:=mq;have x:=o_;have d1:=l3 (a:=fv) c j ae;have d2:=l3 (a:=gG) c j ae;have d3:=l3 (a:=gd) c j ae;have d4:=l3 (a:=gq) c j ae;have d5:=l3 (a:=hV) c j ae;have d6:=mf j;cases r with
 |cons s r=>
  have z:=fun g=>lE 1 (At g s r)
  refine hP (e:=10) GM fun n=>?_
  refine eu {} 1 func21 fun Γ C G I=>ep ?_
  have O:=fun st h=>I st h ⟨⟨G 0 _ rfl,fL _ _⟩,trivial⟩
  clear I;repeat' first|(with_reducible refine eN 0 _ rfl ?_);(repeat' first|refine af ?_|(with_reducible refine aL 41 ?_);(refine aX [1] ae rfl rfl (m _) ?_)|simp only[cL,cO,cZ,cW,dp,cS]|refine J u ?_|refine J x ?_|simp only[d1,d2,d3,d4,d5,d6]|refine eR ?_|refine ab ?_ ?_<;>intro h<;>try exact aa);(all_goals exact eT [1] ae rfl rfl (z _) (O _ ⟨rfl,trivial⟩));done|refine af ?_|(with_reducible refine aL 41 ?_);(refine aX [1] ae rfl rfl (m _) ?_)|simp only[cL,cO,cZ,cW,dp,cS]|refine J u ?_|refine J x ?_|simp only[d1,d2,d3,d4,d5,d6]|refine ag ?_|refine ab ?_ ?_<;>intro h<;>try exact aa
 |nil=>
  have z:=fun g=>dN 1 (zZ g)
  obtain⟨Z,ac,ah⟩:=M.sm;refine wX (v:=f) (l:=[bt (f.ms.length:Nat),bt (f.tr.length:Nat),bt (f.n.ms.length:Nat)]) GM false fun n Q=>?_
  have U:∀g,fi prog 57 [.aG 5 g 1 0 3 true] [some ⟨g,1,[[.v (.int .i64 (f.ms.length:Nat))],[.v (.int .i64 (f.tr.length:Nat))],[.v (.int .i64 (f.n.ms.length:Nat))]]⟩] 1 (fun q d H=>d=.aG 9 q 1 0 3 false/\H=[some ⟨g,1,[[.v (.int .i64 (f.ms.length:Nat))],[.v (.int .i64 (f.tr.length:Nat))],[.v (.int .i64 (f.n.ms.length:Nat))]]⟩,some ⟨q,1,b9 [bt (f.ms.length:Nat),bt (f.tr.length:Nat),bt (f.n.ms.length:Nat)]⟩]):=fun g=>OU 5 9 g [(f.ms.length:Nat),(f.tr.length:Nat),(f.n.ms.length:Nat)] (Nat.le_of_ble_eq_true rfl) c7
  refine h0 {} 1 func21 fun Γ C G=>ar ?_
  have X:n<Γ.g0:=C 0 _ rfl;repeat' first|refine af ?_|(with_reducible refine aL 41 ?_);(refine aX [1] ae rfl rfl (m _) ?_)|simp only[cL,cO,cZ,cW,dp,cS]|refine J u ?_|refine J x ?_|simp only[d1,d2,d3,d4,d5,d6,List.length_map]|(with_reducible refine aL 45 ?_);(refine aX [1] ae rfl rfl (z _) ?_)|(with_reducible refine aL 57 ?_);(refine gb [5] [9] [5,9] rfl ae rfl rfl (U _) ?_)|refine ag ?_|refine ab ?_ ?_<;>intro h<;>try exact aa|exact al|fail
  exact kh [0,9] [_] trivial ae rfl (fun a ek=>Ia) (fun q=>⟨Q,q,.inl ⟨0,rfl,rfl⟩,rfl⟩) (fun q=>⟨⟨.inr ⟨X,rfl⟩,rfl,gK _ (fL f _)⟩,⟨.inl ⟨0,rfl,rfl⟩,rfl,gK _ (p5 _ _)⟩,rfl⟩)
theorem J_(f t a b:Int):(gx f t [120] a b).1.length<=100:=by
 unfold gx;repeat' split
 .exact pf
 .exact pf
 unfold mP;simp[iB]
theorem IU(F:ig)(g a b:Int):(fz (kC F g) a b).1.length<=100:=by
 unfold fz;repeat' split
 .exact pf
 .exact pf
 .exact pf
 unfold uy uJ nW;simp[iB,ns,ed]
theorem acr(p:dZ)(F:Int):(B1 p F).length=20+p.opt.length+p.data.length:=by
 unfold B1 gF gB;simp[iB,ns];omega
theorem JW{F:ig}{pr:Int}{d:ak}(b:d.length<=100):(eM (ht F pr d)).1.length<=1000:=by
 unfold eM;split
 .dsimp only;rw[acr];show 20+0+d.length<=1000;omega
 exact pf
theorem agz(F:ig)(c:rY F)(g:Int):Spec prog 55 [.agg [.v (.int .i64 F.p),.v (.int .i64 F.q),.v (.int .u32 0),.v (.int .u32 0),.v (.int .i64 g),.v (.int .i64 0),.v (.int .i64 0),.v (.slice none 0 0),.v (.string (I []))],.v (.int .u32 F.a),.v (.int .u32 F.b)] (.aS [.v (.string (I (fz (kC F g) F.a F.b).1)),.v (.int .i64 (fz (kC F g) F.a F.b).2)]):=
 vg (alT (kC F g) F.a F.b c.a c.b FN FN (Nat.zero_le _) (fun o h=>ha) (Nat.zero_le _)) (fun K w f eX=>⟨eX.1,fun i x v aP bB=>by
  exact aaW⟩)
theorem aaF{F:ig}{l r:List ak}(h:nM l=some (F,r))(hl:hH l):hH r:=by
 obtain⟨j,m,q,b,c,f,g⟩:=Nn h;exact k0 g (k0 f (k0 c (k0 b hl)))
theorem IJ:∀(s:ak){t:ak},gk s=some t->t.length<=s.length
 |[],t,h=>by cases h;exact hT
 |[_],t,h=>ha
 |a::b::r,t,h=>by
  unfold gk at h;split at h
  .rename_i x y l h1 h2 c;cases h;have:=IJ r c;simp only[List.length_cons];omega
  cases h
theorem aeW(f:bj)(I:fJ f)(r:List ak)(M:hH r):qi f gd r:=by
 obtain⟨c,j⟩:∃c,c=gd:=⟨_,rfl⟩;have hl:de f gd r=tv f r:=by
  unfold de;rw[if_neg ae,if_neg ae,if_pos rfl]
 rw[<-j]at hl⊢;have gD:=fun g=>dN 1 (lW g c r)
 have cw:=l5;have X:=mq;have fe:=o_;have d1:=l3 (a:=fv) c j ae;have d2:=l3 (a:=gG) c j ae;have d3:=mf j;cases a_:eo k7 r with
 |none=>
  have a6:=fun g=>lE 1 (KY g r M a_)
  have iy:mS r=none:=by unfold mS;rw[a_]
  refine hP (e:=10) y9 fun n=>?_
  refine eu {} 1 func21 fun Γ cT eg cd=>ep ?_
  have eB:=fun st h=>cd st h ⟨⟨eg 0 _ rfl,fL _ _⟩,trivial⟩
  clear cd;repeat' first|(with_reducible refine eN 0 _ rfl ?_);(repeat' first|refine af ?_|(with_reducible refine aL 41 ?_);(refine aX [1] ae rfl rfl (gD _) ?_)|simp only[cL,cO,cZ,cW,dp,cS]|refine J cw ?_|refine J fe ?_|simp only[d1,d2,d3]|refine eR ?_|refine ab ?_ ?_<;>intro h<;>try exact aa);(all_goals exact eT [1] ae rfl rfl (a6 _) (eB _ ⟨rfl,trivial⟩));done|refine af ?_|(with_reducible refine aL 41 ?_);(refine aX [1] ae rfl rfl (gD _) ?_)|simp only[cL,cO,cZ,cW,dp,cS]|refine J cw ?_|refine J fe ?_|simp only[d1,d2,d3]|refine ag ?_|refine ab ?_ ?_<;>intro h<;>try exact aa
 |some x=>
  obtain⟨i,aw⟩:=x;have h1:=fun g=>dN 1 (MU g r aw i a_)
  have z:=k0 a_ M;cases a8:nM aw with
  |none=>
   have a6:=fun g=>lE 1 (Oi g aw z a8)
   have iy:mS r=none:=by unfold mS;rw[a_];dsimp only;rw[a8]
   refine hP (e:=10) y9 fun n=>?_
   refine eu {} 1 func21 fun Γ cT eg cd=>ep ?_
   have eB:=fun st h=>cd st h ⟨⟨eg 0 _ rfl,fL _ _⟩,trivial⟩
   clear cd;repeat' first|(with_reducible refine eN 0 _ rfl ?_);(repeat' first|refine af ?_|(with_reducible refine aL 41 ?_);(refine aX [1] ae rfl rfl (gD _) ?_)|simp only[cL,cO,cZ,cW,dp,cS]|refine J cw ?_|refine J fe ?_|simp only[d1,d2,d3]|(with_reducible refine aL 49 ?_);(refine aX [1] ae rfl rfl (h1 _) ?_)|refine eR ?_|refine ab ?_ ?_<;>intro h<;>try exact aa);(all_goals exact eT [1] ae rfl rfl (a6 _) (eB _ ⟨rfl,trivial⟩));done|refine af ?_|(with_reducible refine aL 41 ?_);(refine aX [1] ae rfl rfl (gD _) ?_)|simp only[cL,cO,cZ,cW,dp,cS]|refine J cw ?_|refine J fe ?_|simp only[d1,d2,d3]|(with_reducible refine aL 49 ?_);(refine aX [1] ae rfl rfl (h1 _) ?_)|refine ag ?_|refine ab ?_ ?_<;>intro h<;>try exact aa
  |some x=>
   obtain⟨F,aY⟩:=x;have h2:=fun g=>dN 1 (VX g aw aY F z a8)
   have O:=aaF a8 z;have m:=J4 a8;cases dk:eo gg aY with
   |none=>
    have a6:=fun g=>lE 1 (wA g aY O dk)
    have iy:mS r=none:=Ms;refine hP (e:=10) y9 fun n=>?_
    refine eu {} 1 func21 fun Γ cT eg cd=>ep ?_
    have eB:=fun st h=>cd st h ⟨⟨eg 0 _ rfl,fL _ _⟩,trivial⟩
    clear cd;repeat' first|(with_reducible refine eN 0 _ rfl ?_);(repeat' first|refine af ?_|(with_reducible refine aL 41 ?_);(refine aX [1] ae rfl rfl (gD _) ?_)|simp only[cL,cO,cZ,cW,dp,cS]|refine J cw ?_|refine J fe ?_|simp only[d1,d2,d3]|(with_reducible refine aL 49 ?_);(refine aX [1] ae rfl rfl (h1 _) ?_)|(with_reducible refine aL 50 ?_);(refine aX [1] ae rfl rfl (h2 _) ?_)|refine eR ?_|refine ab ?_ ?_<;>intro h<;>try exact aa);(all_goals exact eT [1] ae rfl rfl (a6 _) (eB _ ⟨rfl,trivial⟩));done|refine af ?_|(with_reducible refine aL 41 ?_);(refine aX [1] ae rfl rfl (gD _) ?_)|simp only[cL,cO,cZ,cW,dp,cS]|refine J cw ?_|refine J fe ?_|simp only[d1,d2,d3]|(with_reducible refine aL 49 ?_);(refine aX [1] ae rfl rfl (h1 _) ?_)|(with_reducible refine aL 50 ?_);(refine aX [1] ae rfl rfl (h2 _) ?_)|refine ag ?_|refine ab ?_ ?_<;>intro h<;>try exact aa
   |some x=>
    obtain⟨t,u⟩:=x;have bI:=fun g=>dN 1 (vF g aY u t O dk)
    cases u with
    |cons s u=>
     have a6:=fun g=>lE 1 (At g s u)
     have iy:mS r=none:=Ms;refine hP (e:=10) y9 fun n=>?_
     refine eu {} 1 func21 fun Γ cT eg cd=>ep ?_
     have eB:=fun st h=>cd st h ⟨⟨eg 0 _ rfl,fL _ _⟩,trivial⟩
     clear cd;repeat' first|(with_reducible refine eN 0 _ rfl ?_);(repeat' first|refine af ?_|(with_reducible refine aL 41 ?_);(refine aX [1] ae rfl rfl (gD _) ?_)|simp only[cL,cO,cZ,cW,dp,cS]|refine J cw ?_|refine J fe ?_|simp only[d1,d2,d3]|(with_reducible refine aL 49 ?_);(refine aX [1] ae rfl rfl (h1 _) ?_)|(with_reducible refine aL 50 ?_);(refine aX [1] ae rfl rfl (h2 _) ?_)|(with_reducible refine aL 51 ?_);(refine aX [1] ae rfl rfl (bI _) ?_)|refine eR ?_|refine ab ?_ ?_<;>intro h<;>try exact aa);(all_goals exact eT [1] ae rfl rfl (a6 _) (eB _ ⟨rfl,trivial⟩));done|refine af ?_|(with_reducible refine aL 41 ?_);(refine aX [1] ae rfl rfl (gD _) ?_)|simp only[cL,cO,cZ,cW,dp,cS]|refine J cw ?_|refine J fe ?_|simp only[d1,d2,d3]|(with_reducible refine aL 49 ?_);(refine aX [1] ae rfl rfl (h1 _) ?_)|(with_reducible refine aL 50 ?_);(refine aX [1] ae rfl rfl (h2 _) ?_)|(with_reducible refine aL 51 ?_);(refine aX [1] ae rfl rfl (bI _) ?_)|refine ag ?_|refine ab ?_ ?_<;>intro h<;>try exact aa
    |nil=>
     have fr:=fun g=>dN 1 (zZ g)
     have iy:mS r=some (i,F,t):=Ms;have oX:de f c r=jK f i (jP F 17 (gx F.p F.q [120] F.a F.b)) t:=y9;have iZ:=ae4 F.p F.q [120] F.a F.b m.a m.b ae;have Q:=J_ F.p F.q F.a F.b;unfold Nb Hf at iZ;generalize gx F.p F.q [120] F.a F.b=D at *;obtain⟨d,e⟩:=D;dsimp only at Q iZ oX;by_cases uY:e=0;rotate_left
     .have a6:=YK F 17 d e uY;refine hP (e:=e) X6 fun n=>?_
      exact Zn
     subst uY;have Fw:de f c r=jK f i (eM (ht F 17 d)) t:=by rw[oX];unfold jP;rw[if_pos rfl]
     by_cases cd:(eM (ht F 17 d)).2=0;rotate_left
     .have a6:=Zo F 17 d m G cd;refine hP (e:=(eM (ht F 17 d)).2) Sc fun n=>?_
      generalize (eM (ht F 17 d)).2=E at *;exact Zn
     have C:=aay F 17 d m G cd;have Y:=JW (F:=F) (pr:=17) Q;have De:de f c r=la f i (eM (ht F 17 d)).1 t:=by rw[Fw];unfold jK;rw[if_pos cd]
     generalize (eM (ht F 17 d)).1=T at *;by_cases qw:(cb f i T t).2.2.2=0
     .have U:=fun n=>I1 9 n f I.wf i T G t qw
      refine wX (v:=(cb f i T t).1) (l:=kr (cb f i T t).2.2.1 (cb f i T t).2.1) HD false fun n L7=>?_
      generalize kr (cb f i T t).2.2.1 (cb f i T t).2.1=L at *;generalize (cb f i T t).1=v at *;refine h0 {} 1 func21 fun Γ cT eg=>ar ?_
      have bd:n<Γ.g0:=cT 0 _ rfl;repeat' first|refine af ?_|(with_reducible refine aL 41 ?_);(refine aX [1] ae rfl rfl (gD _) ?_)|simp only[cL,cO,cZ,cW,dp,cS]|refine J cw ?_|refine J fe ?_|simp only[d1,d2,d3]|(with_reducible refine aL 49 ?_);(refine aX [1] ae rfl rfl (h1 _) ?_)|(with_reducible refine aL 50 ?_);(refine aX [1] ae rfl rfl (h2 _) ?_)|(with_reducible refine aL 51 ?_);(refine aX [1] ae rfl rfl (bI _) ?_)|(with_reducible refine aL 45 ?_);(refine aX [1] ae rfl rfl (fr _) ?_)|refine aL 52 (fS iZ ?_)|refine aL 54 (fS C ?_)|(with_reducible refine aL 53 ?_);(refine gb [0] [9] [0,9] rfl ae rfl rfl (U _) ?_)|refine ag ?_|refine ab ?_ ?_<;>intro h<;>try exact aa|exact al|fail
      exact Nz
     have a6:=fun n=>KZ n f I.wf i T G t qw
     refine hP (e:=(cb f i T t).2.2.2) Kt fun n=>?_
     generalize (cb f i T t).2.2.2=E at *;refine eu {} 1 func21 fun Γ cT eg cd=>ep ?_
     have eB:=fun st h=>cd st h ⟨⟨eg 0 _ rfl,fL _ _⟩,trivial⟩
     clear cd;repeat' first|(with_reducible refine eN 7 _ rfl ?_);(repeat' first|refine af ?_|(with_reducible refine aL 41 ?_);(refine aX [1] ae rfl rfl (gD _) ?_)|simp only[cL,cO,cZ,cW,dp,cS]|refine J cw ?_|refine J fe ?_|simp only[d1,d2,d3]|(with_reducible refine aL 49 ?_);(refine aX [1] ae rfl rfl (h1 _) ?_)|(with_reducible refine aL 50 ?_);(refine aX [1] ae rfl rfl (h2 _) ?_)|(with_reducible refine aL 51 ?_);(refine aX [1] ae rfl rfl (bI _) ?_)|(with_reducible refine aL 45 ?_);(refine aX [1] ae rfl rfl (fr _) ?_)|refine aL 52 (fS iZ ?_)|refine aL 54 (fS C ?_)|refine eR ?_|refine ab ?_ ?_<;>intro h<;>try exact aa);(all_goals exact eT [0] ae rfl rfl (a6 _) (eB _ ⟨rfl,trivial⟩));done|refine af ?_|(with_reducible refine aL 41 ?_);(refine aX [1] ae rfl rfl (gD _) ?_)|simp only[cL,cO,cZ,cW,dp,cS]|refine J cw ?_|refine J fe ?_|simp only[d1,d2,d3]|(with_reducible refine aL 49 ?_);(refine aX [1] ae rfl rfl (h1 _) ?_)|(with_reducible refine aL 50 ?_);(refine aX [1] ae rfl rfl (h2 _) ?_)|(with_reducible refine aL 51 ?_);(refine aX [1] ae rfl rfl (bI _) ?_)|(with_reducible refine aL 45 ?_);(refine aX [1] ae rfl rfl (fr _) ?_)|refine aL 52 (fS iZ ?_)|refine aL 54 (fS C ?_)|refine ag ?_|refine ab ?_ ?_<;>intro h<;>try exact aa
end Go.Proofs.YtdiobdlinjgakaaGreatDoor.R
