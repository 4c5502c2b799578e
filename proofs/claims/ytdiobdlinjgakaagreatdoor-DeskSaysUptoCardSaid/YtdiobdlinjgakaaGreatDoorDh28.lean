import Derived.Test.YtdiobdlinjgakaaGreatDoorDh27
set_option linter.unusedVariables false
set_option linter.unusedSimpArgs false
set_option maxHeartbeats 8000000
set_option maxRecDepth 100000
open Go.Proofs.Tryz
open Go.IntKind renaming i64->_a,u16->_c,u32->_d
open Bool renaming and_eq_true->_b
namespace Go.Proofs.YtdiobdlinjgakaaGreatDoor.A
attribute [local irreducible] bc Go
def pQ(l pr out now:Int):Mp->Bool:=fun b=>decide (b.pr=pr/\b.ou=out/\now<=b.tm+l)
abbrev n2(a p e:Int):O:=.aS [.v (.int .u32 a),.v (.int .i64 p),.v (.int .i64 e)]
theorem TG{l ah:Int}{t1:Nat}{ai:Int}{t2:Nat}{ms:List Mp}(h1:t1<18446744073709551616)(h2:t2<18446744073709551616)(h:dQ l ah t1 ai t2 ms=0):(1<=l/\l<=1000000)/\∀b∈ms,0<=b.tm/\b.tm<=1099511627776:=by
 unfold dQ at h;split at h
 .rename_i c;split at h
  .rename_i f;simp only[_b,decide_eq_true_eq]at c;refine⟨c.1,fun b g=>?_⟩;rw[<-G8 ah ai t1 t2 ms h1 h2,_b]at f;obtain⟨j,m⟩:=List.mem_iff_getElem?.1 g;have:=A9 f.1 m;unfold jM at this;simp only[_b,decide_eq_true_eq]at this;exact this.1.2
  omega
 omega
def jS(l pr out now:Int)(ms:List Mp):Int×Int×Int:=match ms.find? (pQ l pr out now)with|some b=>(b.ad,b.po,0)|none=>(0,0,7)
def ta(l ah:Int)(t1:Nat)(ai:Int)(t2:Nat)(ms:List Mp)(pr out now:Int):Int×Int×Int:=
 if dQ l ah t1 ai t2 ms≠0 then(0,0,dQ l ah t1 ai t2 ms)else if¬(pr=6\/pr=17)then(0,0,7)else if¬(0<=now/\now<=1099511627776)then(0,0,1)else jS l pr out now ms
abbrev zN(r:Int×Int×Int):O:=n2 r.1 r.2.1 r.2.2
theorem Ye{l ah:Int}{t1:Nat}{ai:Int}{t2:Nat}{ms:List Mp}{pr out now:Int}(f:dQ l ah t1 ai t2 ms=0):(if pr=6\/pr=17 then(if 0<=now/\now<=1099511627776 then n2 (jS l pr out now ms).1 (jS l pr out now ms).2.1 (jS l pr out now ms).2.2 else n2 0 0 1)else n2 0 0 7)=zN (ta l ah t1 ai t2 ms pr out now):=by
 unfold ta;rw[if_neg (not_not_intro f)];by_cases b:pr=6\/pr=17
 .rw[if_pos b,if_neg (not_not_intro b)];by_cases c:0<=now/\now<=1099511627776
  .rw[if_pos c,if_neg (not_not_intro c)]
  rw[if_neg c,if_pos c]
 rw[if_neg b,if_pos b]
section
variable (l ah:Int) (t1:Nat) (ai:Int) (t2:Nat) (ms:List Mp) (pr out now:Int) (hl:ms.length<=maxLen) (h1:t1<18446744073709551616) (h2:t2<18446744073709551616)
include hl h1 h2
theorem akd{e:Int}(f:dQ l ah t1 ai t2 ms=e)(g:¬e=0):Spec prog 262 [eK l ah t1 ai t2 ms,.v (.int .i64 pr),.v (.int .i64 out),.v (.int .i64 now)] (n2 0 0 e):=by
 have c:=su l ah t1 ai t2 ms hl h1 h2;rw[f]at c;refine az {} 0 func262 fun Γ an=>ar ?_
 exact UF
theorem abV(f:dQ l ah t1 ai t2 ms=0):Spec prog 262 [eK l ah t1 ai t2 ms,.v (.int .i64 pr),.v (.int .i64 out),.v (.int .i64 now)] (if pr=6\/pr=17 then(if 0<=now/\now<=1099511627776 then n2 (jS l pr out now ms).1 (jS l pr out now ms).2.1 (jS l pr out now ms).2.2 else n2 0 0 1)else n2 0 0 7):=by
 have c:=su l ah t1 ai t2 ms hl h1 h2;obtain⟨q,oV⟩:=TG h1 h2 f;rw[f]at c;have m:=hl;unfold maxLen at m;by_cases g:pr=6\/pr=17
 .rw[if_pos g];by_cases j:0<=now/\now<=1099511627776
  .rw[if_pos j];by_cases u:pr=6
   .exact QM
   exact QM
  rw[if_neg j];exact V8
 rw[if_neg g];exact V8
theorem ak8:Spec prog 262 [eK l ah t1 ai t2 ms,.v (.int .i64 pr),.v (.int .i64 out),.v (.int .i64 now)] (zN (ta l ah t1 ai t2 ms pr out now)):=by
 by_cases b:dQ l ah t1 ai t2 ms=0
 .rw[<-Ye b];exact abV l ah t1 ai t2 ms pr out now hl h1 h2 b
 unfold ta;rw[if_pos b];exact akd l ah t1 ai t2 ms pr out now hl h1 h2 rfl b
end
end Go.Proofs.YtdiobdlinjgakaaGreatDoor.A
namespace Go.Proofs.YtdiobdlinjgakaaGreatDoor
attribute [local irreducible] bc Go
theorem Zc:((10:Nat):Int)=10:=rfl
theorem Mf(t:List UInt8)(L:Nat):ow (cp (cC (fk t) 0) L)=true:=by
 rw[hh,kH,List.drop_zero,show(fk t).take L=fk (t.take L)from(List.map_take ..).symm];exact GO _
theorem abr(t:List UInt8)(L:Nat):strOf (cp (cC (fk t) 0) L)=I (t.take L):=by
 rw[hh,kH,List.drop_zero,show(fk t).take L=fk (t.take L)from(List.map_take ..).symm];exact KK _
theorem VA(s:List UInt8)(a c:Int)(aj:s.length<=140737488351232)(j:¬(bC s).2=0\/¬(0<=c/\c<=65535))(g off:Nat):Spec prog 279 [.v (.string (I s)),.v (.int .u32 a),.v (.int .i64 c),.v (.int .i64 (g:Nat)),.v (.int .i64 (off:Nat))] (.aS [.v (.string (I (fW s a c g off).1)),.v (.int .i64 (fW s a c g off).2)]):=by
 have bu:=Dh s aj;by_cases h1:(bC s).2=0;rotate_left
 .have e:fW s a c g off=([],(bC s).2):=by unfold fW;rw[if_pos h1]
  rw[e];clear e j;generalize bC s=r at *;obtain⟨f,e⟩:=r;dsimp only at *;exact yH
 have bI:=j.resolve_left (not_not_intro h1);have e:fW s a c g off=([],1):=Ob;rw[e];clear e j;generalize bC s=r at *;obtain⟨f,e⟩:=r;dsimp only at *;subst h1;by_cases m:c<0
 .exact yH
 have q:65535<c:=G;exact yH
theorem akK(s:List UInt8)(a g:Int)(aj:s.length<=140737488351232)(h1:(bC s).2=0)(M:0<=g/\g<=65535)(ap:0<=a/\a<4294967296)(f off:Nat)(aq:(f=12/\off=0)\/(f=16/\off=2)):Spec prog 279 [.v (.string (I s)),.v (.int .u32 a),.v (.int .i64 g),.v (.int .i64 (f:Nat)),.v (.int .i64 (off:Nat))] (.aS [.v (.string (I (fW s a g f off).1)),.v (.int .i64 (fW s a g f off).2)]):=by
 have bu:=Dh s aj;obtain⟨⟨av,bW⟩,z,-,O,Q,U,Ii⟩:=FF h1;have X:6<=cK (au s 9:Nat)/\cK (au s 9:Nat)<=16:=y0;have Y:fW s a g f off=((qs s (aA s) (au s 9:Nat) a g f off).take (dL s),0):=by
  unfold fW;rw[if_neg (not_not_intro h1),if_neg (not_not_intro M),akk s (aA s) _ a g f off O av G ap M aq]
 rw[Y];have Z:bC s=(⟨eh s 12,eh s 16,(au s 9:Nat),ao s (aA s),ao s (aA s+2)⟩,0):=by rw[<-U,<-h1]
 rw[Z]at bu;clear Z U h1 Y;have ai:=di s 2;have h2:=fun n=>jw 1 (Bg s 2 s.length false n G (Nat.le_refl _) aj)
 rw[show ao s 2=((dL s:Nat):Int)by unfold dL;omega]at h2;have oI:=eQ s 0;have ahw:=zH s 0 G;have sd:_a.wrap (au s 0%16:Nat)=((au s 0%16:Nat):Int):=IntWalk.i64_in _ G;have DL:bits .and .u8 (au s 0:Nat) 15=((au s 0%16:Nat):Int):=JU;have eC:_a.wrap (((au s 0%16:Nat):Int)*4)=((aA s:Nat):Int):=Kd;have d16:_a.wrap (((aA s:Nat):Int)+16)=((aA s+16:Nat):Int):=er;have d6:_a.wrap (((aA s:Nat):Int)+6)=((aA s+6:Nat):Int):=er;have acY:min 16 _d.bits=16:=rfl;have f16:a.fdiv (2 ^ 16)=a/65536:=Int.fdiv_eq_ediv_of_nonneg _ ae;have eP:_c.wrap (a/65536)=a/65536:=yd _ G G;have e3:_c.wrap a=a%65536:=by rw[EW]
 have kf:_c.wrap g=g:=yd _ G G;have mN:_a.wrap ((f:Int)+2)=((f+2:Nat):Int):=er;have mH:_a.wrap (((aA s:Nat):Int)+(off:Int))=((aA s+off:Nat):Int):=er;generalize ((au s 9:Nat):Int)=p at *;rcases O with rfl|rfl
 .have u:cK 6=16:=rfl;rw[u]at Q X;have bd:oi s (aA s) 6=false:=by unfold oi;simp
  have m:o7 s (aA s) 6=[aA s+16]:=H_;have q:qs s (aA s) 6 a g f off=lK s (aA s) 6 a g f off:=by unfold qs;rw[if_neg G]
  rw[q];unfold lK;rw[m];have ez:=fun n j=>jw 1 (rC s f (dL s) false n (a/65536) [10,aA s+16] j G z G G rJ (show 2<=1000 from ae))
  have ac:=rh s f (a/65536) [10,aA s+16];generalize jO s f (a/65536) [10,aA s+16]=t1 at *;have cR:=fun n j=>jw 1 (rC t1 (f+2) (dL s) false n (a%65536) [10,aA s+16] j G G G G rJ (show 2<=1000 from ae))
  have ah:=rh t1 (f+2) (a%65536) [10,aA s+16];generalize jO t1 (f+2) (a%65536) [10,aA s+16]=t2 at *;have rl:=fun n j=>jw 1 (rC t2 (aA s+off) (dL s) false n g [aA s+16] j G G G G rJ (show 1<=1000 from ae))
  have ak:=rh t2 (aA s+off) g [aA s+16];generalize jO t2 (aA s+off) g [aA s+16]=t3 at *;exact UK
 have u:cK 17=6:=rfl;rw[u]at Q X;have cy:=fun n=>jw 1 (Bg s (aA s+6) (dL s) false n G z G)
 have aw:=di s (aA s+6);by_cases C:ao s (aA s+6)=0
 .have bd:oi s (aA s) 17=true:=by unfold oi;rw[u];simp[C]
  have m:o7 s (aA s) 17=[]:=H_;have q:qs s (aA s) 17 a g f off=lK s (aA s) 17 a g f off:=by unfold qs;rw[if_neg (by rw[bd];simp)]
  rw[q];unfold lK;rw[m];rw[C]at cy;clear C aw q m bd;have ez:=fun n j=>jw 1 (rC s f (dL s) false n (a/65536) [10] j G z G G rJ (show 1<=1000 from ae))
  have ac:=rh s f (a/65536) [10];generalize jO s f (a/65536) [10]=t1 at *;have cR:=fun n j=>jw 1 (rC t1 (f+2) (dL s) false n (a%65536) [10] j G G G G rJ (show 1<=1000 from ae))
  have ah:=rh t1 (f+2) (a%65536) [10];generalize jO t1 (f+2) (a%65536) [10]=t2 at *;have rl:=fun n j=>jw 1 (rC t2 (aA s+off) (dL s) false n g [] j G G G G rJ (show 0<=1000 from ae))
  have ak:=rh t2 (aA s+off) g [];generalize jO t2 (aA s+off) g []=t3 at *;exact UK
 have bd:oi s (aA s) 17=false:=by unfold oi;rw[u];simp[C]
 have m:o7 s (aA s) 17=[aA s+6]:=H_;have q:qs s (aA s) 17 a g f off=if ao (lK s (aA s) 17 a g f off) (aA s+6)=0 then c4 (lK s (aA s) 17 a g f off) (aA s+6) 65535 else lK s (aA s) 17 a g f off:=by unfold qs;rw[bd,u];simp
 rw[q];unfold lK;rw[m];generalize ao s (aA s+6)=w at *;clear q m bd;have ez:=fun n j=>jw 1 (rC s f (dL s) false n (a/65536) [10,aA s+6] j G z G G rJ (show 2<=1000 from ae))
 have ac:=rh s f (a/65536) [10,aA s+6];generalize jO s f (a/65536) [10,aA s+6]=t1 at *;have cR:=fun n j=>jw 1 (rC t1 (f+2) (dL s) false n (a%65536) [10,aA s+6] j G G G G rJ (show 2<=1000 from ae))
 have ah:=rh t1 (f+2) (a%65536) [10,aA s+6];generalize jO t1 (f+2) (a%65536) [10,aA s+6]=t2 at *;have rl:=fun n j=>jw 1 (rC t2 (aA s+off) (dL s) false n g [aA s+6] j G G G G rJ (show 1<=1000 from ae))
 have ak:=rh t2 (aA s+off) g [aA s+6];generalize jO t2 (aA s+off) g [aA s+6]=t3 at *;dsimp only[List.map,EI]at ez cR rl;simp only[Zc]at ez cR;have alL:=i_ s;have akq:=i_ t3;have oq:=Mf t3 (dL s);have b3:=fun n=>jw 1 (Bg t3 (aA s+6) (dL s) false n G G G)
 have a6:=fun n=>jw 1 (LF t3 (aA s+6) (dL s) false n 65535 G G G)
 have aC:=(i_ (c4 t3 (aA s+6) 65535)).trans (jV _ _ _);have aD:=Mf (c4 t3 (aA s+6) 65535) (dL s);generalize ao t3 (aA s+6)=ax at *;by_cases am:ax=0
 .subst am;rw[if_pos rfl];exact yH
 rw[if_neg am];exact yH
abbrev q1(s:List UInt8)(a b:Int)(c off:Nat):O:=.aS [.v (.string (I (fW s a b c off).1)),.v (.int .i64 (fW s a b c off).2)]
theorem OC(s:List UInt8)(a b:Int)(aj:s.length<=140737488351232)(g:0<=a/\a<4294967296)(c off:Nat)(j:(c=12/\off=0)\/(c=16/\off=2)):Spec prog 279 [.v (.string (I s)),.v (.int .u32 a),.v (.int .i64 b),.v (.int .i64 (c:Nat)),.v (.int .i64 (off:Nat))] (q1 s a b c off):=by
 by_cases h1:(bC s).2=0
 .by_cases f:0<=b/\b<=65535
  .exact akK s a b aj h1 f g c off j
  exact VA s a b aj (.inr f) c off
 exact VA s a b aj (.inl h1) c off
theorem agr(s:List UInt8)(a c:Int)(aj:s.length<=140737488351232)(f:0<=a/\a<4294967296):Spec prog 261 [.v (.string (I s)),.v (.int .u32 a),.v (.int .i64 c)] (q1 s a c 12 0):=by
 have h:=OC s a c aj f 12 0 (.inl ⟨rfl,rfl⟩);refine az {} 0 func261 fun Γ an=>ar ?_
 exact Fz
theorem alS(s:List UInt8)(a c:Int)(aj:s.length<=140737488351232)(f:0<=a/\a<4294967296):Spec prog 263 [.v (.string (I s)),.v (.int .u32 a),.v (.int .i64 c)] (q1 s a c 16 2):=by
 have h:=OC s a c aj f 16 2 (.inr ⟨rfl,rfl⟩);refine az {} 0 func263 fun Γ an=>ar ?_
 exact Fz
abbrev xh(f:ew):R.ew:=⟨f.ax,f.to,f.bx,f.bZ,f.b2⟩
def lj(p6 K D:Bool)(tr:List T.aE)(tk:List T.aE×Bool)(n dq:iD)(e:Int)(o:List UInt8):List T.aE×iD×List UInt8×Int:=
 if(p6&&K)=false/\D=false then(tr,n,[],4)else if p6=true/\tk.2=false then(tk.1,n,[],4)
 else if e≠0 then(if p6 then tk.1 else tr,n,[],5)else(if p6 then tk.1 else tr,dq,o,0)
abbrev nf(n:iD)(pr ad po now:Int):Nat×Nat×List A.Mp×Int×Int:=A.Cy n.l n.ah n.t1 n.ai n.t2 n.ms pr ad po now
abbrev iD.set(n:iD)(r:Nat×Nat×List A.Mp×Int×Int):iD:=⟨n.l,n.ah,r.1,n.ai,r.2.1,r.2.2.1⟩
def oC(b:bj)(f:ew)(t:List UInt8)(now:Int):List T.aE×iD×List UInt8×Int:=
 lj (decide (f.bx=6)) (T.iz b.tr f.ax f.to f.bZ f.b2 now) (R.iY b.p.rs (xh f) b.p.el).1 b.tr (ll b.tr f.ax f.to f.bZ f.b2 (mE t) now) b.n
  (b.n.set (nf b.n f.bx f.ax f.bZ now)) (nf b.n f.bx f.ax f.bZ now).2.2.2.2 (fW t b.p.ou (nf b.n f.bx f.ax f.bZ now).2.2.2.1 12 0).1
section
variable {p6 K D:Bool} {tr:List T.aE} {tk:List T.aE×Bool} {n dq:iD} {e:Int} {o:List UInt8}
theorem Ku(h1:(p6&&K)=false)(h2:D=false):lj p6 K D tr tk n dq e o=(tr,n,[],4):=by unfold lj;rw[if_pos ⟨h1,h2⟩]
theorem aaD(h1:(p6&&K)=true\/D=true)(h2:p6=true)(b:tk.2=false):lj p6 K D tr tk n dq e o=(tk.1,n,[],4):=by unfold lj;rw[if_neg MD,if_pos ⟨h2,b⟩]
theorem Mt(h1:(p6&&K)=true\/D=true)(h2:p6=false\/tk.2=true)(b:¬e=0):lj p6 K D tr tk n dq e o=(if p6 then tk.1 else tr,n,[],5):=by unfold lj;rw[if_neg MD,if_neg R8,if_pos b]
theorem MR(h1:(p6&&K)=true\/D=true)(h2:p6=false\/tk.2=true)(b:e=0):lj p6 K D tr tk n dq e o=(if p6 then tk.1 else tr,dq,o,0):=by unfold lj;rw[if_neg MD,if_neg R8,if_neg (by simp[b])]
end
structure LO (f:ew):Prop where
 pr:f.bx=6\/f.bx=17
 ax:0<=f.ax/\f.ax<4294967296
 to:0<=f.to/\f.to<4294967296
theorem QK(c:bj)(g:c.wf)(l:List aZ)(f:ew)(j:LO f)(t:List UInt8)(u:t.length<=140737488351232)(now:Int)(m n q:Nat):
 b1 prog 219 [.ptr 0 n 23 0 0] (tI c l f t now m n q) (fun D H=>D=.aS [.v (.string (I (oC c f t now).2.2.1)),.v (.int .i64 (oC c f t now).2.2.2)]/\H=tI {c with tr:=(oC c f t now).1,n:=(oC c f t now).2.1} l f t now m n q):=by
 have CR:=Qm c l f t now f.ax f.to f.bZ f.b2 m n q;have eE:=RO c g.tr l f t u now f.ax f.to f.bZ f.b2 m n q;have bf:=R.adR c.p.rs (xh f) c.p.el g.rs.1 g.p.2 ⟨j.ax,j.to⟩;have bX:Spec prog 260 [A.eK c.n.l c.n.ah c.n.t1 c.n.ai c.n.t2 c.n.ms,.v (.int .i64 f.bx),.v (.int .u32 f.ax),.v (.int .i64 f.bZ),.v (.int .i64 now)] (A.x9 c.n.l c.n.ah c.n.ai (nf c.n f.bx f.ax f.bZ now)):=A.afx c.n.l c.n.ah c.n.t1 c.n.ai c.n.t2 c.n.ms f.bx f.ax f.bZ now g.n.ms g.n.t1 g.n.t2;have aj:=agr t c.p.ou (nf c.n f.bx f.ax f.bZ now).2.2.2.1 u g.p.1;unfold q1 at aj;unfold oC;generalize T.iz c.tr f.ax f.to f.bZ f.b2 now=K at *;generalize R.iY c.p.rs (xh f) c.p.el=x at *;obtain⟨D,d1,d2⟩:=x;generalize ll c.tr f.ax f.to f.bZ f.b2 (mE t) now=tk at *;obtain⟨G,B⟩:=tk;generalize nf c.n f.bx f.ax f.bZ now=r at *;obtain⟨M,O,Q,p,e⟩:=r;generalize fW t c.p.ou p 12 0=z at *;obtain⟨o,U⟩:=z;dsimp only at *;have C:=j.pr;clear j g;obtain⟨ax,to,bx,bZ,b2⟩:=f;dsimp only at *;rcases C with rfl|rfl
 .exact Si
 exact Si
def mu(p6 K:Bool)(tr:List T.aE)(tk:List T.aE×Bool)(e:Int)(o:List UInt8):List T.aE×List UInt8×Int:=
 if e≠0 then(tr,[],4)else if p6=true/\K=false then(tr,[],4)else if p6=true/\tk.2=false then(tk.1,[],4)else(if p6 then tk.1 else tr,o,0)
section
variable {p6 K:Bool} {tr:List T.aE} {tk:List T.aE×Bool} {e:Int} {o:List UInt8}
theorem FV(h:¬e=0):mu p6 K tr tk e o=(tr,[],4):=by unfold mu;rw[if_pos h]
theorem Pz(b:e=0)(h1:p6=true)(h2:K=false):mu p6 K tr tk e o=(tr,[],4):=by unfold mu;rw[if_neg (not_not_intro b),if_pos ⟨h1,h2⟩]
theorem Uw(b:e=0)(h1:p6=true)(h2:K=true)(c:tk.2=false):mu p6 K tr tk e o=(tk.1,[],4):=by unfold mu;rw[if_neg (not_not_intro b),if_neg (by rw[h2];simp),if_pos ⟨h1,c⟩]
theorem Lc(b:e=0)(h1:p6=false\/K=true/\tk.2=true):mu p6 K tr tk e o=(if p6 then tk.1 else tr,o,0):=by
 unfold mu;rw[if_neg (not_not_intro b),if_neg aab,if_neg aab]
end
abbrev iv(n:iD)(pr out now:Int):Int×Int×Int:=A.ta n.l n.ah n.t1 n.ai n.t2 n.ms pr out now
def rU(b:bj)(f:ew)(t:List UInt8)(now:Int):List T.aE×List UInt8×Int:=
 mu (decide (f.bx=6)) (T.iz b.tr f.ax (iv b.n f.bx f.b2 now).1 f.bZ (iv b.n f.bx f.b2 now).2.1 now) b.tr (ll b.tr f.ax (iv b.n f.bx f.b2 now).1 f.bZ (iv b.n f.bx f.b2 now).2.1 (mE t) now)
  (iv b.n f.bx f.b2 now).2.2 (fW t (iv b.n f.bx f.b2 now).1 (iv b.n f.bx f.b2 now).2.1 16 2).1
theorem ZL(c:bj)(g:c.wf)(l:List aZ)(f:ew)(m:LO f)(t:List UInt8)(u:t.length<=140737488351232)(now:Int)(x:0<=(iv c.n f.bx f.b2 now).1/\(iv c.n f.bx f.b2 now).1<4294967296)(j n q:Nat):
 b1 prog 220 [.ptr 0 n 23 0 0] (tI c l f t now j n q) (fun D H=>D=.aS [.v (.string (I (rU c f t now).2.1)),.v (.int .i64 (rU c f t now).2.2)]/\H=tI {c with tr:=(rU c f t now).1} l f t now j n q):=by
 have bF:Spec prog 262 [A.eK c.n.l c.n.ah c.n.t1 c.n.ai c.n.t2 c.n.ms,.v (.int .i64 f.bx),.v (.int .i64 f.b2),.v (.int .i64 now)] (A.zN (iv c.n f.bx f.b2 now)):=A.ak8 c.n.l c.n.ah c.n.t1 c.n.ai c.n.t2 c.n.ms f.bx f.b2 now g.n.ey.1 g.n.t1 g.n.t2;unfold rU;generalize iv c.n f.bx f.b2 now=r at *;obtain⟨a,p,e⟩:=r;dsimp only at *;have CR:=Qm c l f t now f.ax a f.bZ p j n q;have eE:=RO c g.tr l f t u now f.ax a f.bZ p j n q;have aj:=alS t a p u x;unfold q1 at aj;generalize T.iz c.tr f.ax a f.bZ p now=K at *;generalize ll c.tr f.ax a f.bZ p (mE t) now=tk at *;obtain⟨G,B⟩:=tk;generalize fW t a p 16 2=z at *;obtain⟨o,M⟩:=z;dsimp only at *;have C:=m.pr;clear m g;obtain⟨ax,to,bx,bZ,b2⟩:=f;dsimp only at *;rcases C with rfl|rfl
 .exact Oo
 exact Oo
end Go.Proofs.YtdiobdlinjgakaaGreatDoor
