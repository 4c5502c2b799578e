import Derived.Test.YtmibknbmhcnemaaDoorTm36
import Derived.Test.YtmibknbmhcnemaaDoorTm37
import Derived.Test.YtmibknbmhcnemaaDoorTm38
import Derived.Test.YtmibknbmhcnemaaDoorTm39
set_option linter.unusedVariables false
set_option linter.unusedSimpArgs false
namespace Go.Proofs.YtmibknbmhcnemaaDoor
attribute [local irreducible] zz Go
set_option maxRecDepth 100000
abbrev dSw (s:List UInt8) (a port:Int) (at' off:Nat):DV:=.tup [.v (.string (mkS (rnR s a port at' off).1)),.v (.int .i64 (rnR s a port at' off).2)]
theorem mt (s:List UInt8) (a port:Int) (hs:s.length≤140737488351232) (hab:0≤a∧a<4294967296) (at' off:Nat) (hao:(at'=12∧off=0)∨(at'=16∧off=2)):zf Tryd.prog 89 [.v (.string (mkS s)),.v (.int .u32 a),.v (.int .i64 port),.v (.int .i64 (at':Nat)),.v (.int .i64 (off:Nat))] (dSw s a port at' off):=by
 by_cases h1:(edR s).2=0
 ·by_cases h3:0≤port∧port≤65535
  ·exact jR s a port hs h1 h3 hab at' off hao
  ·exact qW s a port hs (.inr h3) at' off
 ·exact qW s a port hs (.inl h1) at' off
theorem eE (s:List UInt8) (a port:Int) (hs:s.length≤140737488351232) (hab:0≤a∧a<4294967296):zf Tryd.prog 68 [.v (.string (mkS s)),.v (.int .u32 a),.v (.int .i64 port)] (dSw s a port 12 0):=by
 have h:=mt s a port hs hab 12 0 (.inl ⟨rfl,rfl⟩)
 refine z4 {} 0 Tryd.func68 fun Γ hW=>auC ?_
 repeat' first|refine auS ?_|(with_reducible refine z0 h ?_)|refine auD ?_|(refine auW ?_ ?_<;>intro h<;>try exact auH)|fail
 all_goals try exact auP
 all_goals refine auV ?_
 all_goals try exact z_
 all_goals try simp only [hsM] at *
theorem aF (s:List UInt8) (a port:Int) (hs:s.length≤140737488351232) (hab:0≤a∧a<4294967296):zf Tryd.prog 70 [.v (.string (mkS s)),.v (.int .u32 a),.v (.int .i64 port)] (dSw s a port 16 2):=by
 have h:=mt s a port hs hab 16 2 (.inr ⟨rfl,rfl⟩)
 refine z4 {} 0 Tryd.func70 fun Γ hW=>auC ?_
 repeat' first|refine auS ?_|(with_reducible refine z0 h ?_)|refine auD ?_|(refine auW ?_ ?_<;>intro h<;>try exact auH)|fail
 all_goals try exact auP
 all_goals refine auV ?_
 all_goals try exact z_
 all_goals try simp only [hsM] at *
abbrev toR (f:Fl):R.Fl:=⟨f.fr,f.to,f.proto,f.fp,f.tp⟩
def uU (p6 K D:Bool) (tr:List T.Tk) (tk:List T.Tk×Bool) (n n2:Nt) (e:Int) (o:List UInt8):List T.Tk×Nt×List UInt8×Int:=
 if (p6&&K)=false∧D=false then (tr,n,[],4) else if p6=true∧tk.2=false then (tk.1,n,[],4)
 else if e≠0 then (if p6 then tk.1 else tr,n,[],5) else (if p6 then tk.1 else tr,n2,o,0)
abbrev oG (n:Nt) (pr ad po now:Int):Nat×Nat×List A.Mp×Int×Int:=A.i6 n.l n.b1 n.t1 n.b2 n.t2 n.ms pr ad po now
abbrev Nt.set (n:Nt) (r:Nat×Nat×List A.Mp×Int×Int):Nt:=⟨n.l,n.b1,r.1,n.b2,r.2.1,r.2.2.1⟩
def um (u:Hs) (f:Fl) (t:List UInt8) (now:Int):List T.Tk×Nt×List UInt8×Int:=
 uU (decide (f.proto=6)) (T.knB u.tr f.fr f.to f.fp f.tp now) (R.sD u.p.rs (toR f) u.p.el).1 u.tr (og u.tr f.fr f.to f.fp f.tp (flT t) now) u.n
  (u.n.set (oG u.n f.proto f.fr f.fp now)) (oG u.n f.proto f.fr f.fp now).2.2.2.2 (rnR t u.p.ou (oG u.n f.proto f.fr f.fp now).2.2.2.1 12 0).1
section
variable {p6 K D:Bool} {tr:List T.Tk} {tk:List T.Tk×Bool} {n n2:Nt} {e:Int} {o:List UInt8}
theorem lf1 (h1:(p6&&K)=false) (h2:D=false):uU p6 K D tr tk n n2 e o=(tr,n,[],4):=by unfold uU;rw [if_pos ⟨h1,h2⟩]
theorem lf2 (h1:(p6&&K)=true∨D=true) (h2:p6=true) (h3:tk.2=false):uU p6 K D tr tk n n2 e o=(tk.1,n,[],4):=by unfold uU;rw [if_neg (by intro q;rw [q.1,q.2] at h1;simp at h1),if_pos ⟨h2,h3⟩]
theorem lf3 (h1:(p6&&K)=true∨D=true) (h2:p6=false∨tk.2=true) (h3:¬e=0):uU p6 K D tr tk n n2 e o=(if p6 then tk.1 else tr,n,[],5):=by unfold uU;rw [if_neg (by intro q;rw [q.1,q.2] at h1;simp at h1),if_neg (by intro q;rw [q.1,q.2] at h2;simp at h2),if_pos h3]
theorem lf4 (h1:(p6&&K)=true∨D=true) (h2:p6=false∨tk.2=true) (h3:e=0):uU p6 K D tr tk n n2 e o=(if p6 then tk.1 else tr,n2,o,0):=by unfold uU;rw [if_neg (by intro q;rw [q.1,q.2] at h1;simp at h1),if_neg (by intro q;rw [q.1,q.2] at h2;simp at h2),if_neg (by simp [h3])]
end
structure Y8 (f:Fl):Prop where
 pr:f.proto=6∨f.proto=17
 fr:0≤f.fr∧f.fr<4294967296
 to:0≤f.to∧f.to<4294967296
set_option maxHeartbeats 4000000 in
theorem qO (u:Hs) (hw:u.wf) (l:List Mt) (f:Fl) (hf:Y8 f) (t:List UInt8) (ht:t.length≤140737488351232) (now:Int) (lb n q:Nat) :
  zy Tryd.prog 41 [.ptr 0 n 23 0 0] (wkH u l f t now lb n q) (fun D H=>D=.tup [.v (.string (mkS (um u f t now).2.2.1)),.v (.int .i64 (um u f t now).2.2.2)]∧H=wkH { u with tr:=(um u f t now).1,n:=(um u f t now).2.1 } l f t now lb n q):=by
 have hkn:=oy u l f t now f.fr f.to f.fp f.tp lb n q
 have htk:=qE u hw.tr l f t ht now f.fr f.to f.fp f.tp lb n q
 have hd:=R.lQ u.p.rs (toR f) u.p.el hw.rs.1 hw.p.2 ⟨hf.fr,hf.to⟩
 have ho:zf Tryd.prog 67 [A.dNt u.n.l u.n.b1 u.n.t1 u.n.b2 u.n.t2 u.n.ms,.v (.int .i64 f.proto),.v (.int .u32 f.fr),.v (.int .i64 f.fp),.v (.int .i64 now)] (A.eK u.n.l u.n.b1 u.n.b2 (oG u.n f.proto f.fr f.fp now)):=A.bM u.n.l u.n.b1 u.n.t1 u.n.b2 u.n.t2 u.n.ms f.proto f.fr f.fp now hw.n.ms hw.n.t1 hw.n.t2
 have hs:=eE t u.p.ou (oG u.n f.proto f.fr f.fp now).2.2.2.1 ht hw.p.1
 unfold dSw at hs
 unfold um
 generalize T.knB u.tr f.fr f.to f.fp f.tp now=K at *
 generalize R.sD u.p.rs (toR f) u.p.el=DD at *
 obtain ⟨D,d1,d2⟩:=DD
 generalize og u.tr f.fr f.to f.fp f.tp (flT t) now=tk at *
 obtain ⟨tr2,B⟩:=tk
 generalize oG u.n f.proto f.fr f.fp now=r at *
 obtain ⟨T1,T2,MS,p,e⟩:=r
 generalize rnR t u.p.ou p 12 0=O at *
 obtain ⟨o,oe⟩:=O
 dsimp only at *
 have hpr:=hf.pr
 clear hf hw
 obtain ⟨fr,to,proto,fp,tp⟩:=f
 dsimp only at *
 rcases hpr with rfl|rfl
 ·skip
  refine zv {} 2 Tryd.func41 fun Γ hN0 hL0=>auC ?_
  have hn:n<Γ.g0:=hN0 0 _ rfl
  have hm:q<Γ.g0:=hN0 1 _ rfl
  repeat' first|refine auS ?_|(first|((with_reducible refine zu 64 ?_);(refine zg [0,1] (by decide) rfl rfl hkn ?_))|((with_reducible refine zu 66 ?_);(refine zg [0,1] (by decide) rfl rfl htk ?_))|(with_reducible refine z0 hd ?_)|(with_reducible refine z0 ho ?_)|(with_reducible refine z0 hs ?_))|refine auD ?_|(refine auW ?_ ?_<;>intro h<;>try exact auH)|fail
  all_goals try exact auP
  all_goals (clear hN0 hL0 hkn htk hd ho hs)
  all_goals first
   |(rw [lf1];rotate_left;iterate 2 (focus (simp_all;done)))
   |(rw [lf2];rotate_left;iterate 3 (focus (simp_all;done)))
   |(rw [lf3];rotate_left;iterate 3 (focus (simp_all;done)))
   |(rw [lf4];rotate_left;iterate 3 (focus (simp_all;done)))
   |(exfalso;simp_all;done)
  all_goals refine A.vx trivial ⟨trivial,trivial,trivial⟩ rfl rfl hn (oB _ _ _ _ hm) hm (xU _ _)
 ·skip
  refine zv {} 2 Tryd.func41 fun Γ hN0 hL0=>auC ?_
  have hn:n<Γ.g0:=hN0 0 _ rfl
  have hm:q<Γ.g0:=hN0 1 _ rfl
  repeat' first|refine auS ?_|(first|((with_reducible refine zu 64 ?_);(refine zg [0,1] (by decide) rfl rfl hkn ?_))|((with_reducible refine zu 66 ?_);(refine zg [0,1] (by decide) rfl rfl htk ?_))|(with_reducible refine z0 hd ?_)|(with_reducible refine z0 ho ?_)|(with_reducible refine z0 hs ?_))|refine auD ?_|(refine auW ?_ ?_<;>intro h<;>try exact auH)|fail
  all_goals try exact auP
  all_goals (clear hN0 hL0 hkn htk hd ho hs)
  all_goals first
   |(rw [lf1];rotate_left;iterate 2 (focus (simp_all;done)))
   |(rw [lf2];rotate_left;iterate 3 (focus (simp_all;done)))
   |(rw [lf3];rotate_left;iterate 3 (focus (simp_all;done)))
   |(rw [lf4];rotate_left;iterate 3 (focus (simp_all;done)))
   |(exfalso;simp_all;done)
  all_goals refine A.vx trivial ⟨trivial,trivial,trivial⟩ rfl rfl hn (oB _ _ _ _ hm) hm (xU _ _)
def uI (p6 K:Bool) (tr:List T.Tk) (tk:List T.Tk×Bool) (e:Int) (o:List UInt8):List T.Tk×List UInt8×Int:=
 if e≠0 then (tr,[],4) else if p6=true∧K=false then (tr,[],4) else if p6=true∧tk.2=false then (tk.1,[],4) else (if p6 then tk.1 else tr,o,0)
section
variable {p6 K:Bool} {tr:List T.Tk} {tk:List T.Tk×Bool} {e:Int} {o:List UInt8}
theorem ef1 (h:¬e=0):uI p6 K tr tk e o=(tr,[],4):=by unfold uI;rw [if_pos h]
theorem ef2 (h0:e=0) (h1:p6=true) (h2:K=false):uI p6 K tr tk e o=(tr,[],4):=by unfold uI;rw [if_neg (not_not_intro h0),if_pos ⟨h1,h2⟩]
theorem ef3 (h0:e=0) (h1:p6=true) (h2:K=true) (h3:tk.2=false):uI p6 K tr tk e o=(tk.1,[],4):=by unfold uI;rw [if_neg (not_not_intro h0),if_neg (by rw [h2];simp),if_pos ⟨h1,h3⟩]
theorem ef4 (h0:e=0) (h1:p6=false∨K=true∧tk.2=true):uI p6 K tr tk e o=(if p6 then tk.1 else tr,o,0):=by
 unfold uI
 rw [if_neg (not_not_intro h0),if_neg (by rintro ⟨q1,q2⟩;rw [q1,q2] at h1;simp at h1),if_neg (by rintro ⟨q1,q2⟩;rw [q1,q2] at h1;simp at h1)]
end
abbrev rh (n:Nt) (pr out now:Int):Int×Int×Int:=A.nIn n.l n.b1 n.t1 n.b2 n.t2 n.ms pr out now
def uN (u:Hs) (f:Fl) (t:List UInt8) (now:Int):List T.Tk×List UInt8×Int:=
 uI (decide (f.proto=6)) (T.knB u.tr f.fr (rh u.n f.proto f.tp now).1 f.fp (rh u.n f.proto f.tp now).2.1 now) u.tr (og u.tr f.fr (rh u.n f.proto f.tp now).1 f.fp (rh u.n f.proto f.tp now).2.1 (flT t) now)
  (rh u.n f.proto f.tp now).2.2 (rnR t (rh u.n f.proto f.tp now).1 (rh u.n f.proto f.tp now).2.1 16 2).1
set_option maxHeartbeats 4000000 in
theorem qL (u:Hs) (hw:u.wf) (l:List Mt) (f:Fl) (hf:Y8 f) (t:List UInt8) (ht:t.length≤140737488351232) (now:Int) (hA:0≤(rh u.n f.proto f.tp now).1∧(rh u.n f.proto f.tp now).1<4294967296) (lb n q:Nat) :
  zy Tryd.prog 42 [.ptr 0 n 23 0 0] (wkH u l f t now lb n q) (fun D H=>D=.tup [.v (.string (mkS (uN u f t now).2.1)),.v (.int .i64 (uN u f t now).2.2)]∧H=wkH { u with tr:=(uN u f t now).1 } l f t now lb n q):=by
 have hi:zf Tryd.prog 69 [A.dNt u.n.l u.n.b1 u.n.t1 u.n.b2 u.n.t2 u.n.ms,.v (.int .i64 f.proto),.v (.int .i64 f.tp),.v (.int .i64 now)] (A.ZT (rh u.n f.proto f.tp now)):=A.am u.n.l u.n.b1 u.n.t1 u.n.b2 u.n.t2 u.n.ms f.proto f.tp now hw.n.mm.1 hw.n.t1 hw.n.t2
 unfold uN
 generalize rh u.n f.proto f.tp now=r at *
 obtain ⟨a,p,e⟩:=r
 dsimp only at *
 have hkn:=oy u l f t now f.fr a f.fp p lb n q
 have htk:=qE u hw.tr l f t ht now f.fr a f.fp p lb n q
 have hs:=aF t a p ht hA
 unfold dSw at hs
 generalize T.knB u.tr f.fr a f.fp p now=K at *
 generalize og u.tr f.fr a f.fp p (flT t) now=tk at *
 obtain ⟨tr2,B⟩:=tk
 generalize rnR t a p 16 2=O at *
 obtain ⟨o,oe⟩:=O
 dsimp only at *
 have hpr:=hf.pr
 clear hf hw
 obtain ⟨fr,to,proto,fp,tp⟩:=f
 dsimp only at *
 rcases hpr with rfl|rfl
 ·skip
  refine zv {} 2 Tryd.func42 fun Γ hN0 hL0=>auC ?_
  have hn:n<Γ.g0:=hN0 0 _ rfl
  have hm:q<Γ.g0:=hN0 1 _ rfl
  repeat' first|refine auS ?_|(first|((with_reducible refine zu 64 ?_);(refine zg [0,1] (by decide) rfl rfl hkn ?_))|((with_reducible refine zu 66 ?_);(refine zg [0,1] (by decide) rfl rfl htk ?_))|(with_reducible refine z0 hi ?_)|(with_reducible refine z0 hs ?_))|refine auD ?_|(refine auW ?_ ?_<;>intro h<;>try exact auH)|fail
  all_goals try exact auP
  all_goals (clear hN0 hL0 hkn htk hi hs)
  all_goals first
   |(rw [ef1];rotate_left;iterate 1 (focus (simp_all;done)))
   |(rw [ef2];rotate_left;iterate 3 (focus (simp_all;done)))
   |(rw [ef3];rotate_left;iterate 4 (focus (simp_all;done)))
   |(rw [ef4];rotate_left;iterate 2 (focus (simp_all;done)))
   |(exfalso;simp_all;done)
  all_goals refine A.vx trivial ⟨trivial,trivial,trivial⟩ rfl rfl hn (oB _ _ _ _ hm) hm (xU _ _)
 ·skip
  refine zv {} 2 Tryd.func42 fun Γ hN0 hL0=>auC ?_
  have hn:n<Γ.g0:=hN0 0 _ rfl
  have hm:q<Γ.g0:=hN0 1 _ rfl
  repeat' first|refine auS ?_|(first|((with_reducible refine zu 64 ?_);(refine zg [0,1] (by decide) rfl rfl hkn ?_))|((with_reducible refine zu 66 ?_);(refine zg [0,1] (by decide) rfl rfl htk ?_))|(with_reducible refine z0 hi ?_)|(with_reducible refine z0 hs ?_))|refine auD ?_|(refine auW ?_ ?_<;>intro h<;>try exact auH)|fail
  all_goals try exact auP
  all_goals (clear hN0 hL0 hkn htk hi hs)
  all_goals first
   |(rw [ef1];rotate_left;iterate 1 (focus (simp_all;done)))
   |(rw [ef2];rotate_left;iterate 3 (focus (simp_all;done)))
   |(rw [ef3];rotate_left;iterate 4 (focus (simp_all;done)))
   |(rw [ef4];rotate_left;iterate 2 (focus (simp_all;done)))
   |(exfalso;simp_all;done)
  all_goals refine A.vx trivial ⟨trivial,trivial,trivial⟩ rfl rfl hn (oB _ _ _ _ hm) hm (xU _ _)
end Go.Proofs.YtmibknbmhcnemaaDoor
