import Derived.Test.YtmibknbmhcnemaaGreatDoorHb29
import Derived.Test.YtmibknbmhcnemaaGreatDoorHb30
import Derived.Test.YtmibknbmhcnemaaGreatDoorHb31
import Derived.Test.YtmibknbmhcnemaaGreatDoorHb33
import Derived.Test.YtmibknbmhcnemaaGreatDoorHb35
import Derived.Test.YtmibknbmhcnemaaGreatDoorHb36
set_option linter.unusedVariables false
set_option linter.unusedSimpArgs false
namespace Go.Proofs.YtmibknbmhcnemaaGreatDoor
attribute [local irreducible] zF Go
set_option maxRecDepth 100000
abbrev wkH (u:Hs) (l:List Mt) (f:Fl) (t:List UInt8) (now:Int) (lb n q:Nat):HL:=[some ⟨n,23,[wkR u (.sl lb q 5 0 l.length false) f t now]⟩,some ⟨q,5,l.map Mt.enc⟩]
theorem lO {g lb q len:Nat} (u:Hs) (f:Fl) (t:List UInt8) (now:Int) (h:q<g):xb g [wkR u (.sl lb q 5 0 len false) f t now]:=⟨⟨trivial,trivial,trivial,trivial,trivial,trivial,cG _ _,trivial,h,cI _ _,trivial,trivial,trivial,trivial,trivial,A.wi _ _,trivial,trivial,trivial,trivial,trivial,trivial,trivial,trivial⟩,trivial⟩
theorem l4 (u:Hs) (l:List Mt) (f:Fl) (t:List UInt8) (now a b c e:Int) (lb n q:Nat):zR Tryz.prog 104 [.ptr 0 n 23 0 0,T.dR a b c e] (wkH u l f t now lb n q) (fun D H=>D=.v (.bool (T.knB u.tr a b c e now))∧H=wkH u l f t now lb n q):=by
 obtain ⟨y,ey,hf⟩:=T.V8 u.tr a b c e now
 generalize T.knB u.tr a b c e now=B at *
 refine zY {} 2 Tryz.func104 fun Γ hN0 hL0=>auC ?_
 have hn:n<Γ.g0:=hN0 0 _ rfl
 have hm:q<Γ.g0:=hN0 1 _ rfl
 repeat' first|refine auS ?_|(with_reducible refine z0 hf ?_)|refine auD ?_|(refine auW ?_ ?_<;>intro h<;>try exact auH)|fail
 all_goals try exact auP
 refine A.uM trivial trivial rfl rfl hn (lO _ _ _ _ hm) hm (wI _ _)
def flT (t:List UInt8):Int:=(rdS (rpR t).1.data (rpR t).1.fr (rpR t).1.to).1.flags
def uk (l:List T.Tk) (a b c d fl now:Int):List T.Tk×Bool:=if (T.qp l a b c d fl now).2.2=0 then ((T.qp l a b c d fl now).1,(T.qp l a b c d fl now).2.1) else (l,false)
theorem U3 (t:List UInt8) (ht:t.length≤140737488351232):(0≤(rpR t).1.fr∧(rpR t).1.fr<4294967296)∧(0≤(rpR t).1.to∧(rpR t).1.to<4294967296)∧(rpR t).1.data.length≤140737488351232:=by
 unfold rpR
 split
 ·refine ⟨wt _ _,wt _ _,?_⟩
  show ((t.drop (hN t)).take _).length≤_
  rw [List.length_take,List.length_drop]
  omega
 ·exact ⟨⟨Int.le_refl _,(by decide:(0:Int)<4294967296)⟩,⟨Int.le_refl _,(by decide:(0:Int)<4294967296)⟩,Nat.zero_le _⟩
set_option maxHeartbeats 4000000 in
theorem na (u:Hs) (hr:zZ u.tr.length 48) (l:List Mt) (f:Fl) (t:List UInt8) (ht:t.length≤140737488351232) (now a b c e:Int) (lb n q:Nat):zR Tryz.prog 106 [.ptr 0 n 23 0 0,T.dR a b c e] (wkH u l f t now lb n q) (fun D H=>D=.v (.bool (uk u.tr a b c e (flT t) now).2)∧H=wkH { u with tr:=(uk u.tr a b c e (flT t) now).1 } l f t now lb n q):=by
 have h1:=rn t ht
 obtain ⟨b1,b2,b3⟩:=U3 t ht
 have h2:=m6 (rpR t).1.data (rpR t).1.fr (rpR t).1.to b1 b2 b3
 have h3:=T.o4 u.tr a b c e (flT t) now hr
 unfold uk
 unfold flT at *
 generalize rdS (rpR t).1.data (rpR t).1.fr (rpR t).1.to=G at *
 generalize rpR t=P at *
 obtain ⟨⟨gfr,gto,gseq,gack,gfl,gwin,gurg,gopts,gdata⟩,ge⟩:=G
 obtain ⟨⟨tos,id,wh,mo,start,life,proto,fr,to,opt,data⟩,pe⟩:=P
 dsimp only at *
 generalize T.qp u.tr a b c e gfl now=R at *
 obtain ⟨r1,r2,r3⟩:=R
 dsimp only at *
 by_cases h0:r3=0
 ·subst h0
  rw [if_pos rfl]
  refine zY {} 2 Tryz.func106 fun Γ hN0 hL0=>auC ?_
  have hn:n<Γ.g0:=hN0 0 _ rfl
  have hm:q<Γ.g0:=hN0 1 _ rfl
  repeat' first|refine auS ?_|(first|(with_reducible refine z0 h1 ?_)|(with_reducible refine z0 h2 ?_)|(with_reducible refine z0 h3 ?_))|refine auD ?_|(refine auW ?_ ?_<;>intro h<;>try exact auH)|fail
  all_goals try exact auP
  refine A.uM trivial trivial rfl rfl hn (lO _ _ _ _ hm) hm (wI _ _)
 ·rw [if_neg h0]
  refine zY {} 2 Tryz.func106 fun Γ hN0 hL0=>auC ?_
  have hn:n<Γ.g0:=hN0 0 _ rfl
  have hm:q<Γ.g0:=hN0 1 _ rfl
  repeat' first|refine auS ?_|(first|(with_reducible refine z0 h1 ?_)|(with_reducible refine z0 h2 ?_)|(with_reducible refine z0 h3 ?_))|refine auD ?_|(refine auW ?_ ?_<;>intro h<;>try exact auH)|fail
  all_goals try exact auP
  all_goals try (exfalso;simp_all;done)
  refine A.uM trivial trivial rfl rfl hn (lO _ _ _ _ hm) hm (wI _ _)
end Go.Proofs.YtmibknbmhcnemaaGreatDoor
namespace Go.Proofs.YtmibknbmhcnemaaGreatDoor
attribute [local irreducible] zF Go
set_option maxRecDepth 100000
abbrev dSw (s:List UInt8) (a port:Int) (at' off:Nat):DV:=.tup [.v (.string (mkS (rnR s a port at' off).1)),.v (.int .i64 (rnR s a port at' off).2)]
theorem kR (s:List UInt8) (a port:Int) (hs:s.length≤140737488351232) (hab:0≤a∧a<4294967296) (at' off:Nat) (hao:(at'=12∧off=0)∨(at'=16∧off=2)):zd Tryz.prog 161 [.v (.string (mkS s)),.v (.int .u32 a),.v (.int .i64 port),.v (.int .i64 (at':Nat)),.v (.int .i64 (off:Nat))] (dSw s a port at' off):=by
 by_cases h1:(edR s).2=0
 ·by_cases h3:0≤port∧port≤65535
  ·exact dD s a port hs h1 h3 hab at' off hao
  ·exact oL s a port hs (.inr h3) at' off
 ·exact oL s a port hs (.inl h1) at' off
theorem bz (s:List UInt8) (a port:Int) (hs:s.length≤140737488351232) (hab:0≤a∧a<4294967296):zd Tryz.prog 108 [.v (.string (mkS s)),.v (.int .u32 a),.v (.int .i64 port)] (dSw s a port 12 0):=by
 have h:=kR s a port hs hab 12 0 (.inl ⟨rfl,rfl⟩)
 refine z4 {} 0 Tryz.func108 fun Γ hW=>auC ?_
 repeat' first|refine auS ?_|(with_reducible refine z0 h ?_)|refine auD ?_|(refine auW ?_ ?_<;>intro h<;>try exact auH)|fail
 all_goals try exact auP
 all_goals refine auV ?_
 all_goals try exact z8
 all_goals try simp only [hsM] at *
theorem We (s:List UInt8) (a port:Int) (hs:s.length≤140737488351232) (hab:0≤a∧a<4294967296):zd Tryz.prog 110 [.v (.string (mkS s)),.v (.int .u32 a),.v (.int .i64 port)] (dSw s a port 16 2):=by
 have h:=kR s a port hs hab 16 2 (.inr ⟨rfl,rfl⟩)
 refine z4 {} 0 Tryz.func110 fun Γ hW=>auC ?_
 repeat' first|refine auS ?_|(with_reducible refine z0 h ?_)|refine auD ?_|(refine auW ?_ ?_<;>intro h<;>try exact auH)|fail
 all_goals try exact auP
 all_goals refine auV ?_
 all_goals try exact z8
 all_goals try simp only [hsM] at *
abbrev toR (f:Fl):R.Fl:=⟨f.fr,f.to,f.proto,f.fp,f.tp⟩
def uW (p6 K D:Bool) (tr:List T.Tk) (tk:List T.Tk×Bool) (n n2:Nt) (e:Int) (o:List UInt8):List T.Tk×Nt×List UInt8×Int:=
 if (p6&&K)=false∧D=false then (tr,n,[],4) else if p6=true∧tk.2=false then (tk.1,n,[],4)
 else if e≠0 then (if p6 then tk.1 else tr,n,[],5) else (if p6 then tk.1 else tr,n2,o,0)
abbrev sn (n:Nt) (pr ad po now:Int):Nat×Nat×List A.Mp×Int×Int:=A.ZT n.l n.b1 n.t1 n.b2 n.t2 n.ms pr ad po now
abbrev Nt.set (n:Nt) (r:Nat×Nat×List A.Mp×Int×Int):Nt:=⟨n.l,n.b1,r.1,n.b2,r.2.1,r.2.2.1⟩
def uY (u:Hs) (f:Fl) (t:List UInt8) (now:Int):List T.Tk×Nt×List UInt8×Int:=
 uW (decide (f.proto=6)) (T.knB u.tr f.fr f.to f.fp f.tp now) (R.s5 u.p.rs (toR f) u.p.el).1 u.tr (uk u.tr f.fr f.to f.fp f.tp (flT t) now) u.n
  (u.n.set (sn u.n f.proto f.fr f.fp now)) (sn u.n f.proto f.fr f.fp now).2.2.2.2 (rnR t u.p.ou (sn u.n f.proto f.fr f.fp now).2.2.2.1 12 0).1
section
variable {p6 K D:Bool} {tr:List T.Tk} {tk:List T.Tk×Bool} {n n2:Nt} {e:Int} {o:List UInt8}
theorem lf1 (h1:(p6&&K)=false) (h2:D=false):uW p6 K D tr tk n n2 e o=(tr,n,[],4):=by unfold uW;rw [if_pos ⟨h1,h2⟩]
theorem lf2 (h1:(p6&&K)=true∨D=true) (h2:p6=true) (h3:tk.2=false):uW p6 K D tr tk n n2 e o=(tk.1,n,[],4):=by unfold uW;rw [if_neg (by intro q;rw [q.1,q.2] at h1;simp at h1),if_pos ⟨h2,h3⟩]
theorem lf3 (h1:(p6&&K)=true∨D=true) (h2:p6=false∨tk.2=true) (h3:¬e=0):uW p6 K D tr tk n n2 e o=(if p6 then tk.1 else tr,n,[],5):=by unfold uW;rw [if_neg (by intro q;rw [q.1,q.2] at h1;simp at h1),if_neg (by intro q;rw [q.1,q.2] at h2;simp at h2),if_pos h3]
theorem lf4 (h1:(p6&&K)=true∨D=true) (h2:p6=false∨tk.2=true) (h3:e=0):uW p6 K D tr tk n n2 e o=(if p6 then tk.1 else tr,n2,o,0):=by unfold uW;rw [if_neg (by intro q;rw [q.1,q.2] at h1;simp at h1),if_neg (by intro q;rw [q.1,q.2] at h2;simp at h2),if_neg (by simp [h3])]
end
structure Vv (f:Fl):Prop where
 pr:f.proto=6∨f.proto=17
 fr:0≤f.fr∧f.fr<4294967296
 to:0≤f.to∧f.to<4294967296
set_option maxHeartbeats 4000000 in
theorem oT (u:Hs) (hw:u.wf) (l:List Mt) (f:Fl) (hf:Vv f) (t:List UInt8) (ht:t.length≤140737488351232) (now:Int) (lb n q:Nat) :
  zR Tryz.prog 62 [.ptr 0 n 23 0 0] (wkH u l f t now lb n q) (fun D H=>D=.tup [.v (.string (mkS (uY u f t now).2.2.1)),.v (.int .i64 (uY u f t now).2.2.2)]∧H=wkH { u with tr:=(uY u f t now).1,n:=(uY u f t now).2.1 } l f t now lb n q):=by
 have hkn:=l4 u l f t now f.fr f.to f.fp f.tp lb n q
 have htk:=na u hw.tr l f t ht now f.fr f.to f.fp f.tp lb n q
 have hd:=R.iI u.p.rs (toR f) u.p.el hw.rs.1 hw.p.2 ⟨hf.fr,hf.to⟩
 have ho:zd Tryz.prog 107 [A.dNt u.n.l u.n.b1 u.n.t1 u.n.b2 u.n.t2 u.n.ms,.v (.int .i64 f.proto),.v (.int .u32 f.fr),.v (.int .i64 f.fp),.v (.int .i64 now)] (A.j0 u.n.l u.n.b1 u.n.b2 (sn u.n f.proto f.fr f.fp now)):=A.YX u.n.l u.n.b1 u.n.t1 u.n.b2 u.n.t2 u.n.ms f.proto f.fr f.fp now hw.n.ms hw.n.t1 hw.n.t2
 have hs:=bz t u.p.ou (sn u.n f.proto f.fr f.fp now).2.2.2.1 ht hw.p.1
 unfold dSw at hs
 unfold uY
 generalize T.knB u.tr f.fr f.to f.fp f.tp now=K at *
 generalize R.s5 u.p.rs (toR f) u.p.el=DD at *
 obtain ⟨D,d1,d2⟩:=DD
 generalize uk u.tr f.fr f.to f.fp f.tp (flT t) now=tk at *
 obtain ⟨tr2,B⟩:=tk
 generalize sn u.n f.proto f.fr f.fp now=r at *
 obtain ⟨T1,T2,MS,p,e⟩:=r
 generalize rnR t u.p.ou p 12 0=O at *
 obtain ⟨o,oe⟩:=O
 dsimp only at *
 have hpr:=hf.pr
 clear hf hw
 obtain ⟨fr,to,proto,fp,tp⟩:=f
 dsimp only at *
 rcases hpr with rfl|rfl
 ·skip
  refine zY {} 2 Tryz.func62 fun Γ hN0 hL0=>auC ?_
  have hn:n<Γ.g0:=hN0 0 _ rfl
  have hm:q<Γ.g0:=hN0 1 _ rfl
  repeat' first|refine auS ?_|(first|((with_reducible refine zX 104 ?_);(refine zA [0,1] (by decide) rfl rfl hkn ?_))|((with_reducible refine zX 106 ?_);(refine zA [0,1] (by decide) rfl rfl htk ?_))|(with_reducible refine z0 hd ?_)|(with_reducible refine z0 ho ?_)|(with_reducible refine z0 hs ?_))|refine auD ?_|(refine auW ?_ ?_<;>intro h<;>try exact auH)|fail
  all_goals try exact auP
  all_goals (clear hN0 hL0 hkn htk hd ho hs)
  all_goals first
   |(rw [lf1];rotate_left;iterate 2 (focus (simp_all;done)))
   |(rw [lf2];rotate_left;iterate 3 (focus (simp_all;done)))
   |(rw [lf3];rotate_left;iterate 3 (focus (simp_all;done)))
   |(rw [lf4];rotate_left;iterate 3 (focus (simp_all;done)))
   |(exfalso;simp_all;done)
  all_goals refine A.uM trivial ⟨trivial,trivial,trivial⟩ rfl rfl hn (lO _ _ _ _ hm) hm (wI _ _)
 ·skip
  refine zY {} 2 Tryz.func62 fun Γ hN0 hL0=>auC ?_
  have hn:n<Γ.g0:=hN0 0 _ rfl
  have hm:q<Γ.g0:=hN0 1 _ rfl
  repeat' first|refine auS ?_|(first|((with_reducible refine zX 104 ?_);(refine zA [0,1] (by decide) rfl rfl hkn ?_))|((with_reducible refine zX 106 ?_);(refine zA [0,1] (by decide) rfl rfl htk ?_))|(with_reducible refine z0 hd ?_)|(with_reducible refine z0 ho ?_)|(with_reducible refine z0 hs ?_))|refine auD ?_|(refine auW ?_ ?_<;>intro h<;>try exact auH)|fail
  all_goals try exact auP
  all_goals (clear hN0 hL0 hkn htk hd ho hs)
  all_goals first
   |(rw [lf1];rotate_left;iterate 2 (focus (simp_all;done)))
   |(rw [lf2];rotate_left;iterate 3 (focus (simp_all;done)))
   |(rw [lf3];rotate_left;iterate 3 (focus (simp_all;done)))
   |(rw [lf4];rotate_left;iterate 3 (focus (simp_all;done)))
   |(exfalso;simp_all;done)
  all_goals refine A.uM trivial ⟨trivial,trivial,trivial⟩ rfl rfl hn (lO _ _ _ _ hm) hm (wI _ _)
def s6 (p6 K:Bool) (tr:List T.Tk) (tk:List T.Tk×Bool) (e:Int) (o:List UInt8):List T.Tk×List UInt8×Int:=
 if e≠0 then (tr,[],4) else if p6=true∧K=false then (tr,[],4) else if p6=true∧tk.2=false then (tk.1,[],4) else (if p6 then tk.1 else tr,o,0)
section
variable {p6 K:Bool} {tr:List T.Tk} {tk:List T.Tk×Bool} {e:Int} {o:List UInt8}
theorem ef1 (h:¬e=0):s6 p6 K tr tk e o=(tr,[],4):=by unfold s6;rw [if_pos h]
theorem ef2 (h0:e=0) (h1:p6=true) (h2:K=false):s6 p6 K tr tk e o=(tr,[],4):=by unfold s6;rw [if_neg (not_not_intro h0),if_pos ⟨h1,h2⟩]
theorem ef3 (h0:e=0) (h1:p6=true) (h2:K=true) (h3:tk.2=false):s6 p6 K tr tk e o=(tk.1,[],4):=by unfold s6;rw [if_neg (not_not_intro h0),if_neg (by rw [h2];simp),if_pos ⟨h1,h3⟩]
theorem ef4 (h0:e=0) (h1:p6=false∨K=true∧tk.2=true):s6 p6 K tr tk e o=(if p6 then tk.1 else tr,o,0):=by
 unfold s6
 rw [if_neg (not_not_intro h0),if_neg (by rintro ⟨q1,q2⟩;rw [q1,q2] at h1;simp at h1),if_neg (by rintro ⟨q1,q2⟩;rw [q1,q2] at h1;simp at h1)]
end
abbrev tB (n:Nt) (pr out now:Int):Int×Int×Int:=A.nIn n.l n.b1 n.t1 n.b2 n.t2 n.ms pr out now
def sI (u:Hs) (f:Fl) (t:List UInt8) (now:Int):List T.Tk×List UInt8×Int:=
 s6 (decide (f.proto=6)) (T.knB u.tr f.fr (tB u.n f.proto f.tp now).1 f.fp (tB u.n f.proto f.tp now).2.1 now) u.tr (uk u.tr f.fr (tB u.n f.proto f.tp now).1 f.fp (tB u.n f.proto f.tp now).2.1 (flT t) now)
  (tB u.n f.proto f.tp now).2.2 (rnR t (tB u.n f.proto f.tp now).1 (tB u.n f.proto f.tp now).2.1 16 2).1
set_option maxHeartbeats 4000000 in
theorem n8 (u:Hs) (hw:u.wf) (l:List Mt) (f:Fl) (hf:Vv f) (t:List UInt8) (ht:t.length≤140737488351232) (now:Int) (hA:0≤(tB u.n f.proto f.tp now).1∧(tB u.n f.proto f.tp now).1<4294967296) (lb n q:Nat) :
  zR Tryz.prog 63 [.ptr 0 n 23 0 0] (wkH u l f t now lb n q) (fun D H=>D=.tup [.v (.string (mkS (sI u f t now).2.1)),.v (.int .i64 (sI u f t now).2.2)]∧H=wkH { u with tr:=(sI u f t now).1 } l f t now lb n q):=by
 have hi:zd Tryz.prog 109 [A.dNt u.n.l u.n.b1 u.n.t1 u.n.b2 u.n.t2 u.n.ms,.v (.int .i64 f.proto),.v (.int .i64 f.tp),.v (.int .i64 now)] (A.ZE (tB u.n f.proto f.tp now)):=A.Wp u.n.l u.n.b1 u.n.t1 u.n.b2 u.n.t2 u.n.ms f.proto f.tp now hw.n.mm.1 hw.n.t1 hw.n.t2
 unfold sI
 generalize tB u.n f.proto f.tp now=r at *
 obtain ⟨a,p,e⟩:=r
 dsimp only at *
 have hkn:=l4 u l f t now f.fr a f.fp p lb n q
 have htk:=na u hw.tr l f t ht now f.fr a f.fp p lb n q
 have hs:=We t a p ht hA
 unfold dSw at hs
 generalize T.knB u.tr f.fr a f.fp p now=K at *
 generalize uk u.tr f.fr a f.fp p (flT t) now=tk at *
 obtain ⟨tr2,B⟩:=tk
 generalize rnR t a p 16 2=O at *
 obtain ⟨o,oe⟩:=O
 dsimp only at *
 have hpr:=hf.pr
 clear hf hw
 obtain ⟨fr,to,proto,fp,tp⟩:=f
 dsimp only at *
 rcases hpr with rfl|rfl
 ·skip
  refine zY {} 2 Tryz.func63 fun Γ hN0 hL0=>auC ?_
  have hn:n<Γ.g0:=hN0 0 _ rfl
  have hm:q<Γ.g0:=hN0 1 _ rfl
  repeat' first|refine auS ?_|(first|((with_reducible refine zX 104 ?_);(refine zA [0,1] (by decide) rfl rfl hkn ?_))|((with_reducible refine zX 106 ?_);(refine zA [0,1] (by decide) rfl rfl htk ?_))|(with_reducible refine z0 hi ?_)|(with_reducible refine z0 hs ?_))|refine auD ?_|(refine auW ?_ ?_<;>intro h<;>try exact auH)|fail
  all_goals try exact auP
  all_goals (clear hN0 hL0 hkn htk hi hs)
  all_goals first
   |(rw [ef1];rotate_left;iterate 1 (focus (simp_all;done)))
   |(rw [ef2];rotate_left;iterate 3 (focus (simp_all;done)))
   |(rw [ef3];rotate_left;iterate 4 (focus (simp_all;done)))
   |(rw [ef4];rotate_left;iterate 2 (focus (simp_all;done)))
   |(exfalso;simp_all;done)
  all_goals refine A.uM trivial ⟨trivial,trivial,trivial⟩ rfl rfl hn (lO _ _ _ _ hm) hm (wI _ _)
 ·skip
  refine zY {} 2 Tryz.func63 fun Γ hN0 hL0=>auC ?_
  have hn:n<Γ.g0:=hN0 0 _ rfl
  have hm:q<Γ.g0:=hN0 1 _ rfl
  repeat' first|refine auS ?_|(first|((with_reducible refine zX 104 ?_);(refine zA [0,1] (by decide) rfl rfl hkn ?_))|((with_reducible refine zX 106 ?_);(refine zA [0,1] (by decide) rfl rfl htk ?_))|(with_reducible refine z0 hi ?_)|(with_reducible refine z0 hs ?_))|refine auD ?_|(refine auW ?_ ?_<;>intro h<;>try exact auH)|fail
  all_goals try exact auP
  all_goals (clear hN0 hL0 hkn htk hi hs)
  all_goals first
   |(rw [ef1];rotate_left;iterate 1 (focus (simp_all;done)))
   |(rw [ef2];rotate_left;iterate 3 (focus (simp_all;done)))
   |(rw [ef3];rotate_left;iterate 4 (focus (simp_all;done)))
   |(rw [ef4];rotate_left;iterate 2 (focus (simp_all;done)))
   |(exfalso;simp_all;done)
  all_goals refine A.uM trivial ⟨trivial,trivial,trivial⟩ rfl rfl hn (lO _ _ _ _ hm) hm (wI _ _)
end Go.Proofs.YtmibknbmhcnemaaGreatDoor
namespace Go.Proofs.YtmibknbmhcnemaaGreatDoor
def Uq (g:Nat) (f:Nat→Nat) (c:Nat) (d e:DV):Prop:=e=d∨∃j k k' sz lo len full,j<c∧d=.sl k (f j) sz lo len full∧e=.sl k' (g+j) sz lo len full
def Ut (g:Nat) (f:Nat→Nat) (c:Nat) (o p:zo):Prop:=p=o∨((p.n=o.n∨∃j,j<c∧p.n=g+j∧o.n=f j)∧0<o.sz∧p.sz=o.sz∧p.xs.length=o.xs.length∧
 ∀(i:Nat) (y:List DV),p.xs[i]?=some y→∃x,o.xs[i]?=some x∧y.length=x.length∧∀(t:Nat) (e:DV),y[t]?=some e→∃d,x[t]?=some d∧Uq g f c d e)
theorem YJ {st:St} {H':HL} (f:Nat→Nat) (c:Nat) (h:∀k p,zc H' k=some p→∃o,zc st.H k=some o∧Ut st.gen f c o p):Le st ⟨st.tm,H',st.gen+c⟩:=by
 intro Γ N K a w hR
 have hI:=hR.inv
 have hlt:=hR.fresh
 let K':Kr:=⟨fun n=>K.dom n∨(st.gen≤n∧n<st.gen+c),fun n=>K.real n∨(st.gen≤n∧n<st.gen+c∧K.real (f (n-st.gen))),fun n=>if st.gen≤n∧n<st.gen+c then K.μ (f (n-st.gen)) else K.μ n,K.M⟩
 have hμ:∀n,K.dom n→K'.μ n=K.μ n:=fun n hn=>if_neg (by have:=hlt n hn;omega)
 have hre:∀n,K.dom n→K'.real n→K.real n:=fun n hn hr=>by
  rcases hr with hr|⟨h1,h2,-⟩
  ·exact hr
  ·have:=hlt n hn
   omega
 have hμj:∀j,j<c→K'.μ (st.gen+j)=K.μ (f j):=fun j hj=>by
  have:K'.μ (st.gen+j)=K.μ (f (st.gen+j-st.gen)):=if_pos (by omega)
  rw [this,Nat.add_sub_cancel_left]
 have hrj:∀j,j<c→(K'.real (st.gen+j)↔K.real (f j)):=fun j hj=>by
  constructor
  ·rintro (hr|⟨-,-,hr⟩)
   ·have:=hlt _ (hI.dr _ hr)
    omega
   ·rwa [Nat.add_sub_cancel_left] at hr
  ·intro hr
   exact .inr ⟨by omega,by omega,by rwa [Nat.add_sub_cancel_left]⟩
 have hm:yY K w K' w:=⟨Ext.refl _ _,fun n hn=>⟨.inl hn,hμ n (hI.dr n hn)⟩,fun g _ hg=>hg⟩
 have hA:∀k p,zc H' k=some p→∃o,zc st.H k=some o∧(K'.real p.n↔K.real o.n)∧K'.μ p.n=K.μ o.n∧K'.dom p.n:=fun k p hp=>by
  obtain ⟨o,ho,hn⟩:=h k p hp
  refine ⟨o,ho,?_⟩
  have hd:=hI.dobj k o ho
  have hsame:p.n=o.n→(K'.real p.n↔K.real o.n)∧K'.μ p.n=K.μ o.n∧K'.dom p.n:=fun e=>by
   rw [e]
   exact ⟨⟨hre _ hd,.inl⟩,hμ _ hd,.inl hd⟩
  rcases hn with rfl|⟨e|⟨j,hj,e1,e2⟩,-⟩
  ·exact hsame rfl
  ·exact hsame e
  ·rw [e1,e2]
   exact ⟨hrj j hj,hμj j hj,.inr ⟨by omega,by omega⟩⟩
 refine ⟨K',⟨⟨hI.ext,⟨fun n hn=>?_,fun n hn h0=>?_,fun n hn=>?_,hI.base.M⟩,fun k p hp=>?_,fun k k' p p' h1 h2 r1 r2 e=>?_,fun n hn=>?_,fun n hn=>?_,fun k p hp=>?_,fun k p hp hr=>?_,hI.gl⟩,fun n hn=>?_,Nat.le_trans hR.g0 (Nat.le_add_right _ _),hR.size,hR.defers,fun s=>(hR.tm s).mono hm⟩⟩
 ·rcases hn with hn|hn
  ·exact hI.base.dom n hn
  ·exact .inr (Nat.le_trans hR.g0 hn.1)
 ·rcases hn with hn|hn
  ·exact hI.base.old n hn h0
  ·have:=hR.g0
   omega
 ·have:=hI.base.keep n hn
  exact ⟨.inl this.1,(hμ n (hI.dr n this.1)).trans this.2⟩
 ·obtain ⟨o,ho,hn⟩:=h k p hp
  obtain ⟨o',ho',hr1,hm1,-⟩:=hA k p hp
  obtain rfl:o'=o:=Option.some.inj (ho'.symm.trans ho)
  have hO:=hI.obj k o' ho
  rcases hn with rfl|⟨-,hz,hsz,hln,hrow⟩
  ·exact hO.mono hm (fun q q2=>q (hr1.1 q2)) (fun _=>rfl)
  ·rcases hO with ⟨q1,q2⟩|⟨q1,cs,t,fr,q2,q3,q4,q5,q6⟩|⟨-,q,-⟩
   ·refine .inl ⟨fun q=>q1 (hr1.1 q),List.length_eq_zero_iff.1 ?_⟩
    rw [hln,q2]
    rfl
   ·refine .inr (.inl ⟨hr1.2 q1,cs,t,fr,by rw [hsz];exact q2,by rw [hm1];exact q3,by rw [hln,hsz];exact q4,fun y hy=>?_,fun i y t' e hy he=>?_⟩)
    ·obtain ⟨i,hi⟩:=List.mem_iff_getElem?.1 hy
     obtain ⟨x,hx,hl,-⟩:=hrow i y hi
     rw [hl,hsz]
     exact q5 x (List.mem_of_getElem? hx)
    ·obtain ⟨x,hx,-,hc⟩:=hrow i y hy
     obtain ⟨d,hd,hcell⟩:=hc t' e he
     obtain ⟨v,hv,hvr⟩:=q6 i x t' d hx hd
     refine ⟨v,by rw [hsz];exact hv,?_⟩
     rcases hcell with rfl|⟨j,k1,k2,sz,lo,len,full,hj,rfl,rfl⟩
     ·exact hvr.mono hm
     ·cases hvr with
      |sl hlc hf hh=>
       refine .sl hlc hf ?_
       rcases hh with hh|⟨a1,a2,cs',t',fr',a3,a4⟩
       ·exact .inl hh
       ·exact .inr ⟨(hrj j hj).2 a1,by rw [hμj j hj];exact a2,cs',t',fr',by rw [hμj j hj];exact a3,a4⟩
   ·omega
 ·obtain ⟨o,ho,q1,q2,-⟩:=hA k p h1
  obtain ⟨o',ho',z1,z2,-⟩:=hA k' p' h2
  exact hI.inj k k' o o' ho ho' (q1.1 r1) (z1.1 r2) (q2.symm.trans (e.trans z2))
 ·rcases hn with hn|hn
  ·exact .inl (hI.dr n hn)
  ·exact .inr ⟨hn.1,hn.2.1⟩
 ·rcases hn with hn|⟨h1,h2,h3⟩
  ·rw [hμ n (hI.dr n hn)]
   exact hI.lt n hn
  ·have:K'.μ n=K.μ (f (n-st.gen)):=if_pos ⟨h1,h2⟩
   rw [this]
   exact hI.lt _ h3
 ·obtain ⟨o,ho,-,-,q⟩:=hA k p hp
  exact q
 ·obtain ⟨o,ho,q1,q2,-⟩:=hA k p hp
  rw [q2]
  exact hI.own k o ho (q1.1 hr)
 ·rcases hn with hn|hn
  ·have:=hlt n hn
   show n<st.gen+c
   omega
  ·exact hn.2
theorem dm {P:Program} {f:FuncId} {ds ds':List DV} {H0:HL} {c:Nat} {R:Nat→DV→HL→Prop} (h:ua P f ds' H0 c R) (hd:∀K w vs,zM K w ds vs→zM K w ds' vs):ua P f ds H0 c R:=
 ⟨h.1,fun K w vs g0 hI hlt ha=>h.2 K w vs g0 hI hlt (hd _ _ _ ha)⟩
theorem br {P:Program} {f:FuncId} {n sz i j c:Nat} {ds:List DV} {H0:HL} {R:Nat→DV→HL→Prop} (k:Nat) (h:ua P f (.ptr 0 n sz i j::ds) H0 c R):ua P f (.ptr k n sz i j::ds) H0 c R:=
 dm h (fun K w vs ha=>sR (fun v hv=>uE hv) ha)
end Go.Proofs.YtmibknbmhcnemaaGreatDoor
namespace Go.Proofs.YtmibknbmhcnemaaGreatDoor
def qN (u:Hs) (a now n:Int):List Mt×Bool:=
 match u.ms.find? (fun m=>decide (m.ad=a)) with
 |some m0=>(u.ms.filter (fun m=>!decide (m.ad=a))++[qv a m0 now n],qq m0 now n)
 |none=>(u.ms.drop (u.ms.length-63)++[qv a ⟨a,u.p.ra,u.p.mo,u.p.mo,now⟩ now n],qq ⟨a,u.p.ra,u.p.mo,u.p.mo,now⟩ now n)
theorem aJ {a b c d:Int} (h:lx a b c d=0):a=0∧b=0∧c=0∧d=0:=by
 unfold lx at h
 split at h
 ·exact absurd h (by assumption)
 ·split at h
  ·exact absurd h (by assumption)
  ·split at h
   ·exact absurd h (by assumption)
   ·exact ⟨by simp_all,by simp_all,by simp_all,h⟩
theorem vQ {u:Hs} (h:rc u=0):R.plE u.p=0∧T.y8 u.tr=0∧ki u.n=0∧pV u=true∧yb (u0 u.p.ra u.p.mo) [] u.ms=true:=by
 rw [jx] at h
 obtain ⟨h1,h2,h3,h4⟩:=aJ h
 refine ⟨h1,h2,h3,?_⟩
 unfold mtE at h4
 split at h4
 ·rename_i q
  rw [Bool.and_eq_true] at q
  exact q
 ·cases h4
theorem nt {u:Hs} (h:pV u=true):u.ms.length≤64:=by
 unfold pV at h
 rw [Bool.and_eq_true,decide_eq_true_eq] at h
 exact h.1
theorem sE {ra mo:Int} {l:List Mt} (hg:yb (u0 ra mo) [] l=true) {i:Nat} {m:Mt} (hi:l[i]?=some m):B.wA m.ra m.mo m.hs m.tm=0∧m.ra=ra∧m.mo=mo∧∀y∈l.take i,y.tm≤m.tm∧¬y.ad=m.ad:=by
 have h:=rk hg hi
 unfold u0 at h
 simp only [Bool.and_eq_true,decide_eq_true_eq,List.all_eq_true,Bool.not_eq_true',decide_eq_false_iff_not,List.nil_append] at h
 exact ⟨h.1,h.2.1,h.2.2.1,fun y hy=>⟨by have:=(h.2.2.2 y hy).1;omega,(h.2.2.2 y hy).2⟩⟩
theorem nA {ra mo:Int} {l:List Mt} (hg:yb (u0 ra mo) [] l=true) {m:Mt} (hm:m∈l):m.tm≤wj l∧0≤wj l:=by
 obtain ⟨i,hi⟩:=List.mem_iff_getElem?.1 hm
 have hil:=(List.getElem?_eq_some_iff.1 hi).1
 obtain ⟨z,hz⟩:∃z,l[l.length-1]?=some z:=⟨_,List.getElem?_eq_getElem (by omega)⟩
 have h1:wj l=z.tm:=by unfold wj;rw [hz]
 obtain ⟨g1,g2,g3,g4⟩:=sE hg hz
 have hb:=B.vg g1
 rw [h1]
 refine ⟨?_,by omega⟩
 by_cases e:i=l.length-1
 ·rw [e,hz] at hi
  rw [Option.some.inj hi]
  exact Int.le_refl _
 ·exact (g4 m (List.mem_iff_getElem?.2 ⟨i,by rw [List.getElem?_take,if_pos (by omega)];exact hi⟩)).1
theorem sq {ra mo:Int} {l:List Mt} (hg:yb (u0 ra mo) [] l=true):0≤wj l:=by
 cases l with
 |nil=>exact Int.le_refl 0
 |cons x r=>exact (nA hg (List.mem_cons_self (a:=x) (l:=r))).2
theorem iO {r m now:Int} (h1:0≤r∧r≤1000000) (h2:1≤m∧m≤1000000000) (h3:0≤now∧now≤1099511627776):B.wA r m m now=0:=by
 unfold B.wA
 rw [if_neg (by omega),if_neg (by omega)]
theorem mF {r m x a now n:Int} (h:B.wA r m x a=0) (h1:a≤now∧now≤1099511627776) (h2:0≤n∧n≤1000000000):B.xC r m x a now n=0:=by
 unfold B.xC
 rw [if_neg (not_not_intro h),if_neg (by omega)]
theorem Yi {p:R.Pl} (h:R.plE p=0):(0≤p.ra∧p.ra≤1000000)∧(1≤p.mo∧p.mo≤1000000000)∧R.um p.rs=0:=by
 unfold R.plE at h
 split at h
 ·rename_i q
  unfold R.WQ at q
  simp only [Bool.and_eq_true,decide_eq_true_eq] at q
  exact ⟨q.2.2.2.1,q.2.2.2.2,h⟩
 ·cases h
theorem c_ {ra mo:Int} {l:List Mt} (hg:yb (u0 ra mo) [] l=true) {i:Nat} {m:Mt} (hi:l[i]?=some m):l.filter (fun x=>!decide (x.ad=m.ad))=l.take i++l.drop (i+1):=by
 have hil:=(List.getElem?_eq_some_iff.1 hi).1
 have e:l=l.take i++m::l.drop (i+1):=by
  conv=>lhs;rw [←List.take_append_drop i l,List.drop_eq_getElem_cons hil,show l[i]=m from Option.some.inj ((List.getElem?_eq_getElem hil).symm.trans hi)]
 have h1:(l.take i).filter (fun x=>!decide (x.ad=m.ad))=l.take i:=List.filter_eq_self.2 (fun y hy=>by simp [((sE hg hi).2.2.2 y hy).2])
 have h2:(l.drop (i+1)).filter (fun x=>!decide (x.ad=m.ad))=l.drop (i+1):=List.filter_eq_self.2 (fun y hy=>by
  obtain ⟨j,hj⟩:=List.mem_iff_getElem?.1 hy
  rw [List.getElem?_drop] at hj
  have hm:m∈l.take (i+1+j):=List.mem_iff_getElem?.2 ⟨i,by rw [List.getElem?_take,if_pos (by omega)];exact hi⟩
  have:=((sE hg hj).2.2.2 m hm).2
  simp only [Bool.not_eq_true',decide_eq_false_iff_not]
  exact fun q=>this q.symm)
 conv=>lhs;rw [e]
 rw [List.filter_append,h1,List.filter_cons,if_neg (by simp),h2]
theorem iH (u:Hs) (hE:rc u=0) (f:Fl) (t:List UInt8) (now:Int) (hn:xW u≤now∧now≤1099511627776) (ht:t.length≤65535) (n m:Nat) :
  ua Tryz.prog 61 [.ptr 0 n 23 0 0] [some ⟨n,23,[wkR u (.sl 1 m 5 0 u.ms.length false) f t now]⟩,some ⟨m,5,u.ms.map Mt.enc⟩] 1 (fun q d H=>d=.v (.bool (qN u f.fr now (t.length:Nat)).2)∧H=V0 u f t now n q (qN u f.fr now (t.length:Nat)).1):=by
 obtain ⟨hp,-,-,hf,hg⟩:=vQ hE
 have hl:=nt hf
 have hl':u.ms.length≤maxLen:=by unfold maxLen;omega
 have hll:wj u.ms≤now:=by unfold xW at hn;omega
 have h0:=sq hg
 obtain ⟨hra,hmo,-⟩:=Yi hp
 unfold qN
 rcases A.rt (fun m:Mt=>decide (m.ad=f.fr)) u.ms with ⟨q1,q2⟩|⟨i,m0,q1,q2,q3⟩
 ·rw [q2]
  dsimp only
  have he:B.xC u.p.ra u.p.mo u.p.mo now now (t.length:Nat)=0:=mF (iO hra hmo (by omega)) (by omega) (by omega)
  by_cases h64:u.ms.length=64
  ·rw [show u.ms.length-63=1 by omega]
   exact VL u f t now hl' ⟨f.fr,u.p.ra,u.p.mo,u.p.mo,now⟩ rfl rfl rfl rfl q1 h64 he n m
  ·rw [show u.ms.length-63=0 by omega,List.drop_zero]
   exact Xb u f t now hl' ⟨f.fr,u.p.ra,u.p.mo,u.p.mo,now⟩ rfl rfl rfl rfl q1 (by omega) he n m
 ·rw [q3]
  dsimp only
  have hb:=sE hg q1
  have hm:m0.ad=f.fr:=by have:=List.find?_some q3;simpa using this
  have ht0:=nA hg (List.mem_of_getElem? q1)
  rw [←hm,c_ hg q1,hm]
  exact VG u f t now hl' i m0 q1 q2 hl (mF hb.1 (by omega) (by omega)) n m
theorem nM {tm:Env} {T:HL} {g n m len:Nat} (u:Hs) (f:Fl) (t:List UInt8) (now:Int) (xs:List (List DV)):Le ⟨tm,some ⟨n,23,[wkR u (.sl 1 m 5 0 len false) f t now]⟩::some ⟨m,5,xs⟩::T,g⟩ ⟨tm,some ⟨n,23,[wkR u (.sl 4 g 5 0 len false) f t now]⟩::some ⟨g,5,xs⟩::T,g+1⟩:=by
 refine YJ (st:=⟨tm,some ⟨n,23,[wkR u (.sl 1 m 5 0 len false) f t now]⟩::some ⟨m,5,xs⟩::T,g⟩) (fun _=>m) 1 (fun k p hk=>?_)
 match k,hk with
 |0,hk=>
  obtain rfl:=Option.some.inj hk
  refine ⟨_,rfl,.inr ⟨.inl rfl,Nat.succ_pos _,rfl,rfl,fun i y hy=>?_⟩⟩
  match i,hy with
  |0,hy=>
   obtain rfl:=Option.some.inj hy
   refine ⟨_,rfl,rfl,fun j e he=>?_⟩
   by_cases hj:j=8
   ·subst hj
    obtain rfl:=Option.some.inj he
    exact ⟨_,rfl,.inr ⟨0,1,4,5,0,len,false,Nat.zero_lt_one,rfl,rfl⟩⟩
   ·have e1:wkR u (.sl 4 g 5 0 len false) f t now=(wkR u (.sl 1 m 5 0 len false) f t now).set 8 (.sl 4 g 5 0 len false):=rfl
    rw [e1,List.getElem?_set_ne (fun q=>hj q.symm)] at he
    exact ⟨e,he,.inl rfl⟩
  |i+1,hy=>simp at hy
 |1,hk=>
  obtain rfl:=Option.some.inj hk
  exact ⟨_,rfl,.inr ⟨.inr ⟨0,Nat.zero_lt_one,rfl,rfl⟩,Nat.succ_pos _,rfl,rfl,fun i y hy=>⟨y,hy,rfl,fun j e he=>⟨e,he,.inl rfl⟩⟩⟩⟩
 |k+2,hk=>exact ⟨p,hk,.inl rfl⟩
def goR (u:Hs) (inside:Bool) (s:List UInt8) (now:Int):Hs×Fl×List UInt8×List UInt8×Int:=
 if (edR s).2≠0 then (u,(edR s).1,[],[],1)
 else if inside=false∧(edR s).1.to≠u.p.ou then (u,(edR s).1,[],[],4)
 else if (H.wg s).2≠0 then (u,(edR s).1,(H.wg s).1,[],2)
 else
  let m:=qN u (edR s).1.fr now ((H.wg s).1.length:Nat)
  if m.2=false then ({ u with ms:=m.1 },(edR s).1,(H.wg s).1,[],3)
  else if inside then
   let r:=uY u (edR s).1 (H.wg s).1 now
   ({ u with ms:=m.1,tr:=r.1,n:=r.2.1 },(edR s).1,(H.wg s).1,r.2.2.1,r.2.2.2)
  else
   let r:=sI u (edR s).1 (H.wg s).1 now
   ({ u with ms:=m.1,tr:=r.1 },(edR s).1,(H.wg s).1,r.2.1,r.2.2)
abbrev goH (r:Hs×Fl×List UInt8×List UInt8×Int) (now:Int) (n q:Nat):HL:=[some ⟨n,23,[wkR r.1 (.sl 4 q 5 0 r.1.ms.length false) r.2.1 r.2.2.1 now]⟩,none,some ⟨q,5,r.1.ms.map Mt.enc⟩]
theorem dN {s:List UInt8} (h:(edR s).2=0):Vv (edR s).1:=by
 unfold edR at h ⊢
 split at h
 ·rename_i h1
  rw [if_pos h1]
  have b1:0≤(rdP s).fr∧(rdP s).fr<4294967296:=wt _ _
  have b2:0≤(rdP s).to∧(rdP s).to<4294967296:=wt _ _
  unfold edP at h ⊢
  generalize rdP s=p at *
  split at h
  ·cases h
  rename_i h2
  rw [if_neg h2]
  split at h
  ·cases h
  rename_i h3
  rw [if_neg h3]
  split at h
  ·rename_i h4
   rw [if_pos h4]
   split at h
   ·rename_i h5
    rw [if_pos h5]
    exact ⟨.inl rfl,b1,b2⟩
   ·rename_i h5
    exact absurd h h5
  ·rename_i h4
   rw [if_neg h4]
   split at h
   ·rename_i h5
    rw [if_pos h5]
    exact ⟨.inr rfl,b1,b2⟩
   ·rename_i h5
    exact absurd h h5
 ·rename_i h1
  exact absurd h h1
end Go.Proofs.YtmibknbmhcnemaaGreatDoor
