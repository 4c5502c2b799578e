import Derived.Test.YtmibknbmhcnemaaGreatDoorTw34
import Derived.Test.YtmibknbmhcnemaaGreatDoorTw35
import Derived.Test.YtmibknbmhcnemaaGreatDoorTw36
import Derived.Test.YtmibknbmhcnemaaGreatDoorTw37
set_option linter.unusedVariables false
set_option linter.unusedSimpArgs false
namespace Go.Proofs.YtmibknbmhcnemaaGreatDoor.T
def knB (l:List Tk) (a b c d now:Int):Bool:=decide (sM l now=0)&&l.any (fun t=>t.along a b c d && !t.old now)
theorem Z9 (l:List Tk) (a b c d now:Int):∃ (t:Tk) (e:Int),zc Tryz.prog 152 [.snap 7 (l.map Tk.enc) false,dR a b c d,.v (.int .i64 now)] (.tup [dT t.a t.b t.c t.d t.s t.o t.x,.v (.bool (knB l a b c d now)),.v (.int .i64 e)]):=by
 by_cases h0:sM l now=0
 ·have hk:knB l a b c d now=l.any (fun t=>t.along a b c d && !t.old now):=by unfold knB;rw [decide_eq_true h0,Bool.true_and]
  rcases xm (fun t:Tk=>t.along a b c d) l 0 with ⟨h1,h2⟩|⟨i,t,h1,h2,h3,h4⟩
  ·have e:knB l a b c d now=false:=by
    rw [hk,List.any_eq_false]
    intro x hx
    simp [h2 x hx]
   rw [e]
   exact ⟨⟨0,0,0,0,0,0,0⟩,0,fQ l a b c d now h0 h2⟩
  ·have hg:=(zI (show yd l=0 by have:=ug l now;omega)).2
   have e:knB l a b c d now = !t.old now:=by
    rw [hk,Bool.eq_iff_iff,List.any_eq_true]
    constructor
    ·rintro ⟨y,hy,hq⟩
     rw [Bool.and_eq_true] at hq
     obtain ⟨j,hj⟩:=List.mem_iff_getElem?.1 hy
     obtain rfl:=da hg h1 hj h2 hq.1
     rw [Option.some.inj (h1.symm.trans hj)]
     exact hq.2
    ·intro hq
     exact ⟨t,List.mem_of_getElem? h1,by rw [h2,hq];rfl⟩
   rw [e]
   have hs:=Yl l a b c d now h0 i t h1 (by rw [h4];omega)
   cases ho:t.old now with
   |true=>rw [ho,if_pos rfl] at hs;exact ⟨⟨0,0,0,0,0,0,0⟩,0,hs⟩
   |false=>rw [ho,if_neg (by simp)] at hs;exact ⟨t,0,hs⟩
 ·have e:knB l a b c d now=false:=by unfold knB;rw [decide_eq_false h0,Bool.false_and]
  rw [e]
  exact ⟨⟨0,0,0,0,0,0,0⟩,_,cY l a b c d now h0⟩
def nN (l:List Tk) (a b c d fl now:Int):List Tk×Bool×Int:=
 if yd l≠0 then (l,false,yd l) else if pm l a b c d fl now=false then (l,false,1) else
 match decide (0≤ze (fun t:Tk=>t.along a b c d) (yng l now) 0),(yng l now)[(ze (fun t:Tk=>t.along a b c d) (yng l now) 0).toNat]? with
 |true,some t=>uT l a b c d now (decide (fl.toNat / 2 % 2=1)) (decide (fl.toNat / 16 % 2=1)) (decide (fl.toNat % 2=1)) (decide (fl.toNat / 4 % 2=1)) (ze (fun t:Tk=>t.along a b c d) (yng l now) 0).toNat t
 |_,_=>sY l a b c d now (decide (fl.toNat / 2 % 2=1)) (decide (fl.toNat / 16 % 2=1)) (decide (fl.toNat % 2=1)) (decide (fl.toNat / 4 % 2=1))
theorem jS {l:List Tk} {a b c d fl now:Int} {Q:List Tk×Bool×Int→Prop} (h1:yd l≠0→Q (l,false,yd l)) (h2:yd l=0→pm l a b c d fl now=false→Q (l,false,1))
  (h3:∀syn ack fin rst,yd l=0→pm l a b c d fl now=true→sd fl syn ack fin rst→ze (fun t:Tk=>t.along a b c d) (yng l now) 0 = -1→Q (sY l a b c d now syn ack fin rst))
  (h4:∀syn ack fin rst (i:Nat) (t:Tk),yd l=0→pm l a b c d fl now=true→sd fl syn ack fin rst→(yng l now)[i]?=some t→ze (fun t:Tk=>t.along a b c d) (yng l now) 0=i→Q (uT l a b c d now syn ack fin rst i t)):Q (nN l a b c d fl now):=by
 unfold nN
 by_cases he:yd l=0
 ·rw [if_neg (not_not_intro he)]
  cases hb:pm l a b c d fl now with
  |false=>rw [if_pos rfl];exact h2 he hb
  |true=>
   rw [if_neg (by simp)]
   have hfl:0≤fl∧fl≤255:=by unfold pm at hb;rw [Bool.and_eq_true,decide_eq_true_eq] at hb;exact hb.2.1
   have hf:sd fl (decide (fl.toNat / 2 % 2=1)) (decide (fl.toNat / 16 % 2=1)) (decide (fl.toNat % 2=1)) (decide (fl.toNat / 4 % 2=1)):=by
    have:=eh ⟨fl.toNat,by omega⟩
    rw [show (((⟨fl.toNat,by omega⟩:Fin 256).val:Nat):Int)=fl by simp;omega] at this
    exact this
   rcases xm (fun t:Tk=>t.along a b c d) (yng l now) 0 with ⟨g1,g2⟩|⟨i,t,g1,g2,g3,g4⟩
   ·rw [g1,show decide (0≤(-1:Int))=false from rfl]
    cases (yng l now)[((-1:Int)).toNat]?<;>exact h3 _ _ _ _ he hb hf g1
   ·rw [Nat.zero_add] at g4
    rw [g4,Int.toNat_natCast,g1,decide_eq_true (Int.natCast_nonneg i)]
    exact h4 _ _ _ _ i t he hb hf g1 g4
 ·rw [if_pos he]
  exact h1 he
theorem sF (l:List Tk) (a b c d fl now:Int) (hr:zW l.length 48):zc Tryz.prog 157 [.snap 7 (l.map Tk.enc) false,dR a b c d,.v (.int .i64 fl),.v (.int .i64 now)] (hD (nN l a b c d fl now)):=
 jS (Q:=fun r=>zc Tryz.prog 157 [.snap 7 (l.map Tk.enc) false,dR a b c d,.v (.int .i64 fl),.v (.int .i64 now)] (hD r)) (fun h=>Y7 l a b c d fl now hr h) (fun h h'=>bO l a b c d fl now hr h h')
  (fun s1 s2 s3 s4 h1 h2 h3 h4=>eZ l a b c d fl now hr h1 h2 s1 s2 s3 s4 h3 h4) (fun s1 s2 s3 s4 i t h1 h2 h3 h4 h5=>eg l a b c d fl now hr h1 h2 s1 s2 s3 s4 h3 i t h4 h5)
end Go.Proofs.YtmibknbmhcnemaaGreatDoor.T
namespace Go.Proofs.YtmibknbmhcnemaaGreatDoor
attribute [local irreducible] zu Go
set_option maxRecDepth 100000
abbrev wkH (u:Hs) (l:List Mt) (f:Fl) (t:List UInt8) (now:Int) (lb n q:Nat):HL:=[some ⟨n,23,[wkR u (.sl lb q 5 0 l.length false) f t now]⟩,some ⟨q,5,l.map Mt.enc⟩]
theorem no {g lb q len:Nat} (u:Hs) (f:Fl) (t:List UInt8) (now:Int) (h:q<g):yR g [wkR u (.sl lb q 5 0 len false) f t now]:=⟨⟨trivial,trivial,trivial,trivial,trivial,trivial,kU _ _,trivial,h,fk _ _,trivial,trivial,trivial,trivial,trivial,A.um _ _,trivial,trivial,trivial,trivial,trivial,trivial,trivial,trivial⟩,trivial⟩
theorem ov (u:Hs) (l:List Mt) (f:Fl) (t:List UInt8) (now a b c e:Int) (lb n q:Nat):zz Tryz.prog 104 [.ptr 0 n 23 0 0,T.dR a b c e] (wkH u l f t now lb n q) (fun D H=>D=.v (.bool (T.knB u.tr a b c e now))∧H=wkH u l f t now lb n q):=by
 obtain ⟨y,ey,hf⟩:=T.Z9 u.tr a b c e now
 generalize T.knB u.tr a b c e now=B at *
 refine zw {} 2 Tryz.func104 fun Γ hN0 hL0=>auC ?_
 have hn:n<Γ.g0:=hN0 0 _ rfl
 have hm:q<Γ.g0:=hN0 1 _ rfl
 repeat' first|refine auS ?_|(with_reducible refine z0 hf ?_)|refine auD ?_|(refine auW ?_ ?_<;>intro h<;>try exact auH)|fail
 all_goals try exact auP
 refine A.vX trivial trivial rfl rfl hn (no _ _ _ _ hm) hm (w_ _ _)
def flT (t:List UInt8):Int:=(rdS (rpR t).1.data (rpR t).1.fr (rpR t).1.to).1.flags
def nh (l:List T.Tk) (a b c d fl now:Int):List T.Tk×Bool:=if (T.nN l a b c d fl now).2.2=0 then ((T.nN l a b c d fl now).1,(T.nN l a b c d fl now).2.1) else (l,false)
theorem YI (t:List UInt8) (ht:t.length≤140737488351232):(0≤(rpR t).1.fr∧(rpR t).1.fr<4294967296)∧(0≤(rpR t).1.to∧(rpR t).1.to<4294967296)∧(rpR t).1.data.length≤140737488351232:=by
 unfold rpR
 split
 ·refine ⟨uj _ _,uj _ _,?_⟩
  show ((t.drop (hN t)).take _).length≤_
  rw [List.length_take,List.length_drop]
  omega
 ·exact ⟨⟨Int.le_refl _,(by decide:(0:Int)<4294967296)⟩,⟨Int.le_refl _,(by decide:(0:Int)<4294967296)⟩,Nat.zero_le _⟩
set_option maxHeartbeats 4000000 in
theorem ph (u:Hs) (hr:zW u.tr.length 48) (l:List Mt) (f:Fl) (t:List UInt8) (ht:t.length≤140737488351232) (now a b c e:Int) (lb n q:Nat):zz Tryz.prog 106 [.ptr 0 n 23 0 0,T.dR a b c e] (wkH u l f t now lb n q) (fun D H=>D=.v (.bool (nh u.tr a b c e (flT t) now).2)∧H=wkH { u with tr:=(nh u.tr a b c e (flT t) now).1 } l f t now lb n q):=by
 have h1:=tM t ht
 obtain ⟨b1,b2,b3⟩:=YI t ht
 have h2:=n7 (rpR t).1.data (rpR t).1.fr (rpR t).1.to b1 b2 b3
 have h3:=T.sF u.tr a b c e (flT t) now hr
 unfold nh
 unfold flT at *
 generalize rdS (rpR t).1.data (rpR t).1.fr (rpR t).1.to=G at *
 generalize rpR t=P at *
 obtain ⟨⟨gfr,gto,gseq,gack,gfl,gwin,gurg,gopts,gdata⟩,ge⟩:=G
 obtain ⟨⟨tos,id,wh,mo,start,life,proto,fr,to,opt,data⟩,pe⟩:=P
 dsimp only at *
 generalize T.nN u.tr a b c e gfl now=R at *
 obtain ⟨r1,r2,r3⟩:=R
 dsimp only at *
 by_cases h0:r3=0
 ·subst h0
  rw [if_pos rfl]
  refine zw {} 2 Tryz.func106 fun Γ hN0 hL0=>auC ?_
  have hn:n<Γ.g0:=hN0 0 _ rfl
  have hm:q<Γ.g0:=hN0 1 _ rfl
  repeat' first|refine auS ?_|(first|(with_reducible refine z0 h1 ?_)|(with_reducible refine z0 h2 ?_)|(with_reducible refine z0 h3 ?_))|refine auD ?_|(refine auW ?_ ?_<;>intro h<;>try exact auH)|fail
  all_goals try exact auP
  refine A.vX trivial trivial rfl rfl hn (no _ _ _ _ hm) hm (w_ _ _)
 ·rw [if_neg h0]
  refine zw {} 2 Tryz.func106 fun Γ hN0 hL0=>auC ?_
  have hn:n<Γ.g0:=hN0 0 _ rfl
  have hm:q<Γ.g0:=hN0 1 _ rfl
  repeat' first|refine auS ?_|(first|(with_reducible refine z0 h1 ?_)|(with_reducible refine z0 h2 ?_)|(with_reducible refine z0 h3 ?_))|refine auD ?_|(refine auW ?_ ?_<;>intro h<;>try exact auH)|fail
  all_goals try exact auP
  all_goals try (exfalso;simp_all;done)
  refine A.vX trivial trivial rfl rfl hn (no _ _ _ _ hm) hm (w_ _ _)
end Go.Proofs.YtmibknbmhcnemaaGreatDoor
namespace Go.Proofs.YtmibknbmhcnemaaGreatDoor
attribute [local irreducible] zu Go
set_option maxRecDepth 100000
abbrev dSw (s:List UInt8) (a port:Int) (at' off:Nat):DV:=.tup [.v (.string (mkS (rnR s a port at' off).1)),.v (.int .i64 (rnR s a port at' off).2)]
theorem mq (s:List UInt8) (a port:Int) (hs:s.length≤140737488351232) (hab:0≤a∧a<4294967296) (at' off:Nat) (hao:(at'=12∧off=0)∨(at'=16∧off=2)):zc Tryz.prog 161 [.v (.string (mkS s)),.v (.int .u32 a),.v (.int .i64 port),.v (.int .i64 (at':Nat)),.v (.int .i64 (off:Nat))] (dSw s a port at' off):=by
 by_cases h1:(edR s).2=0
 ·by_cases h3:0≤port∧port≤65535
  ·exact iF s a port hs h1 h3 hab at' off hao
  ·exact pk s a port hs (.inr h3) at' off
 ·exact pk s a port hs (.inl h1) at' off
theorem eV (s:List UInt8) (a port:Int) (hs:s.length≤140737488351232) (hab:0≤a∧a<4294967296):zc Tryz.prog 108 [.v (.string (mkS s)),.v (.int .u32 a),.v (.int .i64 port)] (dSw s a port 12 0):=by
 have h:=mq s a port hs hab 12 0 (.inl ⟨rfl,rfl⟩)
 refine z3 {} 0 Tryz.func108 fun Γ hW=>auC ?_
 repeat' first|refine auS ?_|(with_reducible refine z0 h ?_)|refine auD ?_|(refine auW ?_ ?_<;>intro h<;>try exact auH)|fail
 all_goals try exact auP
 all_goals refine auV ?_
 all_goals try exact z9
 all_goals try simp only [hsM] at *
theorem Zx (s:List UInt8) (a port:Int) (hs:s.length≤140737488351232) (hab:0≤a∧a<4294967296):zc Tryz.prog 110 [.v (.string (mkS s)),.v (.int .u32 a),.v (.int .i64 port)] (dSw s a port 16 2):=by
 have h:=mq s a port hs hab 16 2 (.inr ⟨rfl,rfl⟩)
 refine z3 {} 0 Tryz.func110 fun Γ hW=>auC ?_
 repeat' first|refine auS ?_|(with_reducible refine z0 h ?_)|refine auD ?_|(refine auW ?_ ?_<;>intro h<;>try exact auH)|fail
 all_goals try exact auP
 all_goals refine auV ?_
 all_goals try exact z9
 all_goals try simp only [hsM] at *
abbrev toR (f:Fl):R.Fl:=⟨f.fr,f.to,f.proto,f.fp,f.tp⟩
def uU (p6 K D:Bool) (tr:List T.Tk) (tk:List T.Tk×Bool) (n n2:Nt) (e:Int) (o:List UInt8):List T.Tk×Nt×List UInt8×Int:=
 if (p6&&K)=false∧D=false then (tr,n,[],4) else if p6=true∧tk.2=false then (tk.1,n,[],4)
 else if e≠0 then (if p6 then tk.1 else tr,n,[],5) else (if p6 then tk.1 else tr,n2,o,0)
abbrev mi (n:Nt) (pr ad po now:Int):Nat×Nat×List A.Mp×Int×Int:=A.aU n.l n.b1 n.t1 n.b2 n.t2 n.ms pr ad po now
abbrev Nt.set (n:Nt) (r:Nat×Nat×List A.Mp×Int×Int):Nt:=⟨n.l,n.b1,r.1,n.b2,r.2.1,r.2.2.1⟩
def tT (u:Hs) (f:Fl) (t:List UInt8) (now:Int):List T.Tk×Nt×List UInt8×Int:=
 uU (decide (f.proto=6)) (T.knB u.tr f.fr f.to f.fp f.tp now) (R.qr u.p.rs (toR f) u.p.el).1 u.tr (nh u.tr f.fr f.to f.fp f.tp (flT t) now) u.n
  (u.n.set (mi u.n f.proto f.fr f.fp now)) (mi u.n f.proto f.fr f.fp now).2.2.2.2 (rnR t u.p.ou (mi u.n f.proto f.fr f.fp now).2.2.2.1 12 0).1
section
variable {p6 K D:Bool} {tr:List T.Tk} {tk:List T.Tk×Bool} {n n2:Nt} {e:Int} {o:List UInt8}
theorem lf1 (h1:(p6&&K)=false) (h2:D=false):uU p6 K D tr tk n n2 e o=(tr,n,[],4):=by unfold uU;rw [if_pos ⟨h1,h2⟩]
theorem lf2 (h1:(p6&&K)=true∨D=true) (h2:p6=true) (h3:tk.2=false):uU p6 K D tr tk n n2 e o=(tk.1,n,[],4):=by unfold uU;rw [if_neg (by intro q;rw [q.1,q.2] at h1;simp at h1),if_pos ⟨h2,h3⟩]
theorem lf3 (h1:(p6&&K)=true∨D=true) (h2:p6=false∨tk.2=true) (h3:¬e=0):uU p6 K D tr tk n n2 e o=(if p6 then tk.1 else tr,n,[],5):=by unfold uU;rw [if_neg (by intro q;rw [q.1,q.2] at h1;simp at h1),if_neg (by intro q;rw [q.1,q.2] at h2;simp at h2),if_pos h3]
theorem lf4 (h1:(p6&&K)=true∨D=true) (h2:p6=false∨tk.2=true) (h3:e=0):uU p6 K D tr tk n n2 e o=(if p6 then tk.1 else tr,n2,o,0):=by unfold uU;rw [if_neg (by intro q;rw [q.1,q.2] at h1;simp at h1),if_neg (by intro q;rw [q.1,q.2] at h2;simp at h2),if_neg (by simp [h3])]
end
structure YX (f:Fl):Prop where
 pr:f.proto=6∨f.proto=17
 fr:0≤f.fr∧f.fr<4294967296
 to:0≤f.to∧f.to<4294967296
set_option maxHeartbeats 4000000 in
theorem pj (u:Hs) (hw:u.wf) (l:List Mt) (f:Fl) (hf:YX f) (t:List UInt8) (ht:t.length≤140737488351232) (now:Int) (lb n q:Nat) :
  zz Tryz.prog 62 [.ptr 0 n 23 0 0] (wkH u l f t now lb n q) (fun D H=>D=.tup [.v (.string (mkS (tT u f t now).2.2.1)),.v (.int .i64 (tT u f t now).2.2.2)]∧H=wkH { u with tr:=(tT u f t now).1,n:=(tT u f t now).2.1 } l f t now lb n q):=by
 have hkn:=ov u l f t now f.fr f.to f.fp f.tp lb n q
 have htk:=ph u hw.tr l f t ht now f.fr f.to f.fp f.tp lb n q
 have hd:=R.j4 u.p.rs (toR f) u.p.el hw.rs.1 hw.p.2 ⟨hf.fr,hf.to⟩
 have ho:zc Tryz.prog 107 [A.dNt u.n.l u.n.b1 u.n.t1 u.n.b2 u.n.t2 u.n.ms,.v (.int .i64 f.proto),.v (.int .u32 f.fr),.v (.int .i64 f.fp),.v (.int .i64 now)] (A.bv u.n.l u.n.b1 u.n.b2 (mi u.n f.proto f.fr f.fp now)):=A.cV u.n.l u.n.b1 u.n.t1 u.n.b2 u.n.t2 u.n.ms f.proto f.fr f.fp now hw.n.ms hw.n.t1 hw.n.t2
 have hs:=eV t u.p.ou (mi u.n f.proto f.fr f.fp now).2.2.2.1 ht hw.p.1
 unfold dSw at hs
 unfold tT
 generalize T.knB u.tr f.fr f.to f.fp f.tp now=K at *
 generalize R.qr u.p.rs (toR f) u.p.el=DD at *
 obtain ⟨D,d1,d2⟩:=DD
 generalize nh u.tr f.fr f.to f.fp f.tp (flT t) now=tk at *
 obtain ⟨tr2,B⟩:=tk
 generalize mi u.n f.proto f.fr f.fp now=r at *
 obtain ⟨T1,T2,MS,p,e⟩:=r
 generalize rnR t u.p.ou p 12 0=O at *
 obtain ⟨o,oe⟩:=O
 dsimp only at *
 have hpr:=hf.pr
 clear hf hw
 obtain ⟨fr,to,proto,fp,tp⟩:=f
 dsimp only at *
 rcases hpr with rfl|rfl
 ·skip
  refine zw {} 2 Tryz.func62 fun Γ hN0 hL0=>auC ?_
  have hn:n<Γ.g0:=hN0 0 _ rfl
  have hm:q<Γ.g0:=hN0 1 _ rfl
  repeat' first|refine auS ?_|(first|((with_reducible refine zD 104 ?_);(refine zk [0,1] (by decide) rfl rfl hkn ?_))|((with_reducible refine zD 106 ?_);(refine zk [0,1] (by decide) rfl rfl htk ?_))|(with_reducible refine z0 hd ?_)|(with_reducible refine z0 ho ?_)|(with_reducible refine z0 hs ?_))|refine auD ?_|(refine auW ?_ ?_<;>intro h<;>try exact auH)|fail
  all_goals try exact auP
  all_goals (clear hN0 hL0 hkn htk hd ho hs)
  all_goals first
   |(rw [lf1];rotate_left;iterate 2 (focus (simp_all;done)))
   |(rw [lf2];rotate_left;iterate 3 (focus (simp_all;done)))
   |(rw [lf3];rotate_left;iterate 3 (focus (simp_all;done)))
   |(rw [lf4];rotate_left;iterate 3 (focus (simp_all;done)))
   |(exfalso;simp_all;done)
  all_goals refine A.vX trivial ⟨trivial,trivial,trivial⟩ rfl rfl hn (no _ _ _ _ hm) hm (w_ _ _)
 ·skip
  refine zw {} 2 Tryz.func62 fun Γ hN0 hL0=>auC ?_
  have hn:n<Γ.g0:=hN0 0 _ rfl
  have hm:q<Γ.g0:=hN0 1 _ rfl
  repeat' first|refine auS ?_|(first|((with_reducible refine zD 104 ?_);(refine zk [0,1] (by decide) rfl rfl hkn ?_))|((with_reducible refine zD 106 ?_);(refine zk [0,1] (by decide) rfl rfl htk ?_))|(with_reducible refine z0 hd ?_)|(with_reducible refine z0 ho ?_)|(with_reducible refine z0 hs ?_))|refine auD ?_|(refine auW ?_ ?_<;>intro h<;>try exact auH)|fail
  all_goals try exact auP
  all_goals (clear hN0 hL0 hkn htk hd ho hs)
  all_goals first
   |(rw [lf1];rotate_left;iterate 2 (focus (simp_all;done)))
   |(rw [lf2];rotate_left;iterate 3 (focus (simp_all;done)))
   |(rw [lf3];rotate_left;iterate 3 (focus (simp_all;done)))
   |(rw [lf4];rotate_left;iterate 3 (focus (simp_all;done)))
   |(exfalso;simp_all;done)
  all_goals refine A.vX trivial ⟨trivial,trivial,trivial⟩ rfl rfl hn (no _ _ _ _ hm) hm (w_ _ _)
def uW (p6 K:Bool) (tr:List T.Tk) (tk:List T.Tk×Bool) (e:Int) (o:List UInt8):List T.Tk×List UInt8×Int:=
 if e≠0 then (tr,[],4) else if p6=true∧K=false then (tr,[],4) else if p6=true∧tk.2=false then (tk.1,[],4) else (if p6 then tk.1 else tr,o,0)
section
variable {p6 K:Bool} {tr:List T.Tk} {tk:List T.Tk×Bool} {e:Int} {o:List UInt8}
theorem ef1 (h:¬e=0):uW p6 K tr tk e o=(tr,[],4):=by unfold uW;rw [if_pos h]
theorem ef2 (h0:e=0) (h1:p6=true) (h2:K=false):uW p6 K tr tk e o=(tr,[],4):=by unfold uW;rw [if_neg (not_not_intro h0),if_pos ⟨h1,h2⟩]
theorem ef3 (h0:e=0) (h1:p6=true) (h2:K=true) (h3:tk.2=false):uW p6 K tr tk e o=(tk.1,[],4):=by unfold uW;rw [if_neg (not_not_intro h0),if_neg (by rw [h2];simp),if_pos ⟨h1,h3⟩]
theorem ef4 (h0:e=0) (h1:p6=false∨K=true∧tk.2=true):uW p6 K tr tk e o=(if p6 then tk.1 else tr,o,0):=by
 unfold uW
 rw [if_neg (not_not_intro h0),if_neg (by rintro ⟨q1,q2⟩;rw [q1,q2] at h1;simp at h1),if_neg (by rintro ⟨q1,q2⟩;rw [q1,q2] at h1;simp at h1)]
end
abbrev rA (n:Nt) (pr out now:Int):Int×Int×Int:=A.nIn n.l n.b1 n.t1 n.b2 n.t2 n.ms pr out now
def sZ (u:Hs) (f:Fl) (t:List UInt8) (now:Int):List T.Tk×List UInt8×Int:=
 uW (decide (f.proto=6)) (T.knB u.tr f.fr (rA u.n f.proto f.tp now).1 f.fp (rA u.n f.proto f.tp now).2.1 now) u.tr (nh u.tr f.fr (rA u.n f.proto f.tp now).1 f.fp (rA u.n f.proto f.tp now).2.1 (flT t) now)
  (rA u.n f.proto f.tp now).2.2 (rnR t (rA u.n f.proto f.tp now).1 (rA u.n f.proto f.tp now).2.1 16 2).1
set_option maxHeartbeats 4000000 in
theorem qW (u:Hs) (hw:u.wf) (l:List Mt) (f:Fl) (hf:YX f) (t:List UInt8) (ht:t.length≤140737488351232) (now:Int) (hA:0≤(rA u.n f.proto f.tp now).1∧(rA u.n f.proto f.tp now).1<4294967296) (lb n q:Nat) :
  zz Tryz.prog 63 [.ptr 0 n 23 0 0] (wkH u l f t now lb n q) (fun D H=>D=.tup [.v (.string (mkS (sZ u f t now).2.1)),.v (.int .i64 (sZ u f t now).2.2)]∧H=wkH { u with tr:=(sZ u f t now).1 } l f t now lb n q):=by
 have hi:zc Tryz.prog 109 [A.dNt u.n.l u.n.b1 u.n.t1 u.n.b2 u.n.t2 u.n.ms,.v (.int .i64 f.proto),.v (.int .i64 f.tp),.v (.int .i64 now)] (A.X1 (rA u.n f.proto f.tp now)):=A.Zo u.n.l u.n.b1 u.n.t1 u.n.b2 u.n.t2 u.n.ms f.proto f.tp now hw.n.mm.1 hw.n.t1 hw.n.t2
 unfold sZ
 generalize rA u.n f.proto f.tp now=r at *
 obtain ⟨a,p,e⟩:=r
 dsimp only at *
 have hkn:=ov u l f t now f.fr a f.fp p lb n q
 have htk:=ph u hw.tr l f t ht now f.fr a f.fp p lb n q
 have hs:=Zx t a p ht hA
 unfold dSw at hs
 generalize T.knB u.tr f.fr a f.fp p now=K at *
 generalize nh u.tr f.fr a f.fp p (flT t) now=tk at *
 obtain ⟨tr2,B⟩:=tk
 generalize rnR t a p 16 2=O at *
 obtain ⟨o,oe⟩:=O
 dsimp only at *
 have hpr:=hf.pr
 clear hf hw
 obtain ⟨fr,to,proto,fp,tp⟩:=f
 dsimp only at *
 rcases hpr with rfl|rfl
 ·skip
  refine zw {} 2 Tryz.func63 fun Γ hN0 hL0=>auC ?_
  have hn:n<Γ.g0:=hN0 0 _ rfl
  have hm:q<Γ.g0:=hN0 1 _ rfl
  repeat' first|refine auS ?_|(first|((with_reducible refine zD 104 ?_);(refine zk [0,1] (by decide) rfl rfl hkn ?_))|((with_reducible refine zD 106 ?_);(refine zk [0,1] (by decide) rfl rfl htk ?_))|(with_reducible refine z0 hi ?_)|(with_reducible refine z0 hs ?_))|refine auD ?_|(refine auW ?_ ?_<;>intro h<;>try exact auH)|fail
  all_goals try exact auP
  all_goals (clear hN0 hL0 hkn htk hi hs)
  all_goals first
   |(rw [ef1];rotate_left;iterate 1 (focus (simp_all;done)))
   |(rw [ef2];rotate_left;iterate 3 (focus (simp_all;done)))
   |(rw [ef3];rotate_left;iterate 4 (focus (simp_all;done)))
   |(rw [ef4];rotate_left;iterate 2 (focus (simp_all;done)))
   |(exfalso;simp_all;done)
  all_goals refine A.vX trivial ⟨trivial,trivial,trivial⟩ rfl rfl hn (no _ _ _ _ hm) hm (w_ _ _)
 ·skip
  refine zw {} 2 Tryz.func63 fun Γ hN0 hL0=>auC ?_
  have hn:n<Γ.g0:=hN0 0 _ rfl
  have hm:q<Γ.g0:=hN0 1 _ rfl
  repeat' first|refine auS ?_|(first|((with_reducible refine zD 104 ?_);(refine zk [0,1] (by decide) rfl rfl hkn ?_))|((with_reducible refine zD 106 ?_);(refine zk [0,1] (by decide) rfl rfl htk ?_))|(with_reducible refine z0 hi ?_)|(with_reducible refine z0 hs ?_))|refine auD ?_|(refine auW ?_ ?_<;>intro h<;>try exact auH)|fail
  all_goals try exact auP
  all_goals (clear hN0 hL0 hkn htk hi hs)
  all_goals first
   |(rw [ef1];rotate_left;iterate 1 (focus (simp_all;done)))
   |(rw [ef2];rotate_left;iterate 3 (focus (simp_all;done)))
   |(rw [ef3];rotate_left;iterate 4 (focus (simp_all;done)))
   |(rw [ef4];rotate_left;iterate 2 (focus (simp_all;done)))
   |(exfalso;simp_all;done)
  all_goals refine A.vX trivial ⟨trivial,trivial,trivial⟩ rfl rfl hn (no _ _ _ _ hm) hm (w_ _ _)
end Go.Proofs.YtmibknbmhcnemaaGreatDoor
