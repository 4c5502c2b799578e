import Derived.Test.YtmibknbmhcnemaaGreatDoorTw07
import Derived.Below
import Derived.IntWalk
import Derived.Test.YtmibknbmhcnemaaGreatDoorTw14
import Derived.Test.YtmibknbmhcnemaaGreatDoorTw18
set_option linter.unusedVariables false
set_option linter.unusedSimpArgs false
namespace Go.Proofs.YtmibknbmhcnemaaGreatDoor.R
attribute [local irreducible] zu Go
set_option maxRecDepth 100000
open A (pOk pE yO)
structure Pl where
 (ou lt st lf ra mo:Int) (rs:List Rl) (el:Bool)
deriving DecidableEq
abbrev Pl.enc (p:Pl) (d:DV):List DV:=[.v (.int .u32 p.ou),.v (.int .i64 p.lt),.v (.int .i64 p.st),.v (.int .i64 p.lf),.v (.int .i64 p.ra),.v (.int .i64 p.mo),d,.v (.bool p.el)]
abbrev dPl (p:Pl) (c:Bool):DV:=.agg (p.enc (.snap 10 (p.rs.map Rl.enc) c))
def Pl.wf (p:Pl):Prop:=(0≤p.ou∧p.ou<4294967296)∧∀r∈p.rs,r.wf
def Xd (p:Pl):Bool:=pOk p.lt&&(pOk p.st&&(decide (1≤p.lf∧p.lf≤1000000)&&(decide (0≤p.ra∧p.ra≤1000000)&&decide (1≤p.mo∧p.mo≤1000000000))))
def plE (p:Pl):Int:=if Xd p=true then sH p.rs else 1
theorem Xi (b:Int):decide (pE b=0)=pOk b:=by unfold pE;split<;>simp_all
set_option maxHeartbeats 1000000 in
theorem s6 (p:Pl) (c:Bool) (hp:p.wf) (hl:p.rs.length≤maxLen):zc Tryz.prog 34 [dPl p c] (.v (.int .i64 (plE p))):=by
 have h1:=yO p.lt 0
 have h2:=yO p.st 0
 have h3:=rf p.rs c hl hp.2
 have e1:=Xi p.lt
 have e2:=Xi p.st
 unfold plE Xd
 generalize pOk p.lt=b1 at *
 generalize pOk p.st=b2 at *
 generalize pE p.lt=E1 at *
 generalize pE p.st=E2 at *
 generalize sH p.rs=E3 at *
 refine z3 {} 0 Tryz.func34 fun Γ hW=>auC ?_
 repeat' first|refine auS ?_|(first|(with_reducible refine z0 h1 ?_)|(with_reducible refine z0 h2 ?_)|(with_reducible refine z0 h3 ?_))|refine auD ?_|(refine auW ?_ ?_<;>intro h<;>try exact auH)|fail
 all_goals try exact auP
 all_goals refine auV ?_
 all_goals try exact z9
 all_goals try simp only [hsM] at *
 all_goals (refine zL ?_;subst e1;subst e2)
 all_goals first
  |(rw [if_pos (show _ by refine ⟨decide_eq_true (by omega),decide_eq_true (by omega),?_⟩;omega)];done)
  |(rw [if_neg (show ¬_ by rintro ⟨q1,q2,q3⟩;have q4:=of_decide_eq_true q1;have q5:=of_decide_eq_true q2;omega)];done)
end Go.Proofs.YtmibknbmhcnemaaGreatDoor.R
namespace Go.Proofs.YtmibknbmhcnemaaGreatDoor.B
open Go.RowKit
def uv (r m h a:Int):Int:=if r<0∨1000000<r∨m<1∨1000000000<m then 1 else if h<0∨m<h∨a<0∨1099511627776<a then 4 else 0
theorem sx {r m h a:Int} (e:uv r m h a=0):0≤r∧r≤1000000∧1≤m∧m≤1000000000∧0≤h∧h≤m∧0≤a∧a≤1099511627776:=by
 unfold uv at e
 split at e
 ·omega
 split at e
 ·omega
 omega
def xc (r m x a now:Int):Int:=min m (x+r*min (now-a) 1000000000)
theorem gD {r t:Int} (h1:0≤r) (h2:r≤1000000) (h3:0≤t) (h4:t≤1000000000):0≤r*t∧r*t≤1000000000000000:=
 ⟨Int.mul_nonneg h1 h3,by have:=Int.mul_le_mul h2 h4 h3 (by omega);omega⟩
def v8 (r m x a now n:Int):Int:=if uv r m x a≠0 then uv r m x a else if now<a∨1099511627776<now∨n<0∨1000000000<n then 1 else 0
def uD (r m x a now n:Int):Int:=if xc r m x a now<n then xc r m x a now else xc r m x a now-n
theorem mQ {r m x a now:Int} (h:uv r m x a=0) (h1:a≤now):0≤xc r m x a now∧xc r m x a now≤m:=by
 have hk:=sx h
 have hp:=gD (r:=r) (t:=min (now-a) 1000000000) hk.1 hk.2.1 (by omega) (by omega)
 unfold xc
 omega
end Go.Proofs.YtmibknbmhcnemaaGreatDoor.B
namespace Go.Proofs.YtmibknbmhcnemaaGreatDoor.B
attribute [local irreducible] zu Go
set_option maxRecDepth 100000
theorem Ya {a b c d e f:DV} (h1:a=d) (h2:b=e) (h3:c=f):DV.tup [a,b,c]=DV.tup [d,e,f]:=by rw [h1,h2,h3]
abbrev bB (r m x a:Int):DV:=.agg [.v (.int .i64 r),.v (.int .i64 m),.v (.int .i64 x),.v (.int .i64 a)]
set_option maxHeartbeats 400000 in
theorem wg (r m x a:Int):zc Tryz.prog 43 [bB r m x a] (.v (.int .i64 (uv r m x a))):=by
 refine z3 {} 0 Tryz.func43 fun Γ hW=>auC ?_
 skip
 repeat' first|refine auS ?_|fail|refine auD ?_|(refine auW ?_ ?_<;>intro h<;>try exact auH)|fail
 all_goals refine auV ?_
 all_goals try exact z9
 all_goals try simp only [hsM] at *
 all_goals (refine zL ?_;simp only [uv];split<;>(try split)<;>omega)
set_option maxHeartbeats 400000 in
theorem zh (n lo hi:Int):zc Tryz.prog 48 [.v (.int .i64 n),.v (.int .i64 lo),.v (.int .i64 hi)] (.v (.bool (decide (lo≤n∧n≤hi)))):=by
 refine z3 {} 0 Tryz.func48 fun Γ hW=>auC ?_
 repeat' first|refine auS ?_|fail|refine auD ?_|(refine auW ?_ ?_<;>intro h<;>try exact auH)|fail
 all_goals refine auV ?_
 all_goals try exact z9
 all_goals try simp only [hsM] at *
 ·exact yg (by simp [h])
 ·exact yg (by simp [h])
set_option maxHeartbeats 400000 in
theorem kj (r m x a now:Int) (hb:uv r m x a=0) (h1:a≤now) (h2:now≤1099511627776):zc Tryz.prog 151 [bB r m x a,.v (.int .i64 now)] (.v (.int .i64 (xc r m x a now))):=by
 have hk:=sx hb
 have hp:=gD (r:=r) (t:=min (now-a) 1000000000) hk.1 hk.2.1 (by omega) (by omega)
 refine z3 {} 0 Tryz.func151 fun Γ hW=>auC ?_
 skip
 repeat' first|refine auS ?_|fail|refine auD ?_|(refine auW ?_ ?_<;>intro h<;>try exact auH)|fail
 all_goals refine auV ?_
 all_goals try exact z9
 all_goals try simp only [hsM] at *
 refine zL ?_
 rw [IntWalk.i64_in (now-a) (by omega),IntWalk.i64_in (r*min (now-a) 1000000000) (by omega),IntWalk.i64_in (x+r*min (now-a) 1000000000) (by omega)]
 rfl
def btD (r m x a now n:Int):DV:=if v8 r m x a now n=0 then bB r m (uD r m x a now n) now else bB 0 0 0 0
set_option maxHeartbeats 400000 in
theorem rm (r m x a now n:Int):zc Tryz.prog 103 [bB r m x a,.v (.int .i64 now),.v (.int .i64 n)] (.tup [btD r m x a now n,.v (.bool (decide (v8 r m x a now n=0)&&decide (n≤xc r m x a now))),.v (.int .i64 (v8 r m x a now n))]):=by
 refine z3 {} 0 Tryz.func103 fun Γ hW=>auC ?_
 repeat' first|refine auS ?_|(first|(with_reducible refine z0 (wg r m x a) ?_)|(with_reducible refine z0 (kj r m x a now (by (simp only [hsL,reduceCtorEq] at *<;>omega)) (by (simp only [hsL,reduceCtorEq] at *<;>omega)) (by (simp only [hsL,reduceCtorEq] at *<;>omega))) ?_))|refine auD ?_|(refine auW ?_ ?_<;>intro h<;>try exact auH)|fail
 all_goals refine auV ?_
 all_goals try exact z9
 all_goals try simp only [hsM] at *
 all_goals first
  |(have e:v8 r m x a now n=1:=by unfold v8;rw [if_neg (by omega),if_pos (by omega)]
    exact Ya (by unfold btD;rw [e];rfl) (yg (by rw [e];rfl)) (zL e.symm))
  |(have hb0:uv r m x a≠0:=by assumption
    have e:v8 r m x a now n=uv r m x a:=by unfold v8;rw [if_pos hb0]
    exact Ya (by unfold btD;rw [e,if_neg hb0]) (yg (by rw [e,decide_eq_false hb0];rfl)) (zL e.symm))
  |(have hb0:uv r m x a=0:=by assumption
    have hl:=mQ (now:=now) hb0 (by omega)
    have hk:=sx hb0
    have e:v8 r m x a now n=0:=by unfold v8;rw [if_neg (by omega),if_neg (by omega)]
    have hn:xc r m x a now<n:=by omega
    exact Ya (by unfold btD uD;rw [e,if_pos rfl,if_pos hn]) (yg (by rw [e];first|rfl|(rw [decide_eq_false (show ¬n≤xc r m x a now by omega)];rfl))) (zL e.symm))
  |(have hb0:uv r m x a=0:=by assumption
    have hl:=mQ (now:=now) hb0 (by omega)
    have hk:=sx hb0
    have e:v8 r m x a now n=0:=by unfold v8;rw [if_neg (by omega),if_neg (by omega)]
    have hn:¬xc r m x a now<n:=by omega
    exact Ya (by unfold btD uD;rw [e,if_pos rfl,if_neg hn,IntWalk.i64_in (xc r m x a now-n) (by omega)]) (yg (by rw [e];first|rfl|(rw [decide_eq_true (show n≤xc r m x a now by omega)];rfl))) (zL e.symm))
end Go.Proofs.YtmibknbmhcnemaaGreatDoor.B
namespace Go.Proofs.YtmibknbmhcnemaaGreatDoor
structure Mt where
 (ad ra mo hs tm:Int)
deriving DecidableEq
abbrev Mt.enc (m:Mt):List DV:=[.v (.int .u32 m.ad),.v (.int .i64 m.ra),.v (.int .i64 m.mo),.v (.int .i64 m.hs),.v (.int .i64 m.tm)]
structure Nt where
 (l b1:Int) (t1:Nat) (b2:Int) (t2:Nat) (ms:List A.Mp)
abbrev Nt.enc (n:Nt):List DV:=A.rNt n.l n.b1 n.t1 n.b2 n.t2 n.ms
structure Hs where
 (p:R.Pl) (ms:List Mt) (tr:List T.Tk) (n:Nt)
abbrev Hs.row (h:Hs) (d:DV):List DV:=[.v (.int .u32 h.p.ou),.v (.int .i64 h.p.lt),.v (.int .i64 h.p.st),.v (.int .i64 h.p.lf),.v (.int .i64 h.p.ra),.v (.int .i64 h.p.mo),.snap 10 (h.p.rs.map R.Rl.enc) false,.v (.bool h.p.el),d,.snap 7 (h.tr.map T.Tk.enc) false,
 .v (.int .i64 h.n.l),.v (.int .i64 h.n.b1),.v (.int .u64 (h.n.t1:Int)),.v (.int .i64 h.n.b2),.v (.int .u64 (h.n.t2:Int)),.snap 5 (h.n.ms.map A.Mp.enc) false]
abbrev msD (l:List Mt):DV:=.snap 5 (l.map Mt.enc) false
abbrev dH (h:Hs):DV:=.agg (h.row (msD h.ms))
structure Nt.wf (n:Nt):Prop where
 t1:n.t1<18446744073709551616
 t2:n.t2<18446744073709551616
 ms:n.ms.length*40≤140737488351232
 ad:∀m∈n.ms,0≤m.ad∧m.ad<4294967296
theorem Nt.wf.mm {n:Nt} (h:n.wf):zW n.ms.length 40:=by
 have:=h.ms
 unfold zW maxLen
 omega
structure Hs.wf (h:Hs):Prop where
 p:h.p.wf
 rs:zW h.p.rs.length 80
 ms:zW h.ms.length 40
 tr:zW h.tr.length 48
 n:h.n.wf
def hs0:Hs:=⟨⟨0,0,0,0,0,0,[],false⟩,[],[],⟨0,0,0,0,0,[]⟩⟩
def k9 (p:R.Pl):Hs:=if R.plE p=0 then ⟨p,[],[],⟨p.lf,p.lt,0,p.st,0,[]⟩⟩ else hs0
def tj (ra mo:Int) (pre:List Mt) (m:Mt):Bool:=decide (B.uv m.ra m.mo m.hs m.tm=0)&&(decide (m.ra=ra)&&(decide (m.mo=mo)&&pre.all fun y=>!(decide (m.tm<y.tm)) && !(decide (y.ad=m.ad))))
def eP (n:Nt):Int:=A.y7 n.l n.b1 n.t1 n.b2 n.t2 n.ms
def nR (h:Hs):Bool:=decide (h.ms.length≤64)&&(decide (h.n.l=h.p.lf)&&(decide (h.n.b1=h.p.lt)&&decide (h.n.b2=h.p.st)))
def lp (h:Hs):Int:=if R.plE h.p≠0 then R.plE h.p else if T.yd h.tr≠0 then T.yd h.tr else if eP h.n≠0 then eP h.n else if nR h&&yc (tj h.p.ra h.p.mo) [] h.ms then 0 else 4
def ux (l:List Mt):Int:=match l[l.length-1]? with|some m=>m.tm|none=>0
def rS (h:Hs):Int:=max (max (ux h.ms) (T.wC h.tr)) (A.zN h.n.ms)
theorem cn {ra mo:Int} {l:List Mt} {k:Nat} {t:Mt} (ht:l[k]?=some t) (hs:∀y∈l.take k,∀z,l[k-1]?=some z→y.tm≤z.tm) :
  tj ra mo (l.take k) t=true↔B.uv t.ra t.mo t.hs t.tm=0∧t.ra=ra∧t.mo=mo∧(∀z,0<k→l[k-1]?=some z→z.tm≤t.tm)∧ze (fun y:Mt=>decide (y.ad=t.ad)) l 0=k:=by
 have hk:k<l.length:=(List.getElem?_eq_some_iff.1 ht).1
 have hf:=ua (fun y:Mt=>decide (y.ad=t.ad)) t (by simp) (l.drop (k+1)) (l.take k) 0
 have hl:l.take k++t::l.drop (k+1)=l:=by
  rw [←Option.some.inj ((List.getElem?_eq_getElem hk).symm.trans ht),←List.drop_eq_getElem_cons hk,List.take_append_drop]
 rw [hl,List.length_take,Nat.min_eq_left (Nat.le_of_lt hk),Nat.zero_add] at hf
 rw [hf]
 unfold tj
 simp only [Bool.and_eq_true,List.all_eq_true,Bool.not_eq_true',decide_eq_false_iff_not,decide_eq_true_eq]
 constructor
 ·rintro ⟨h1,h2,h3,h4⟩
  refine ⟨h1,h2,h3,fun z h0 hz=>?_,fun y hy=>(h4 y hy).2⟩
  have hz':z∈l.take k:=List.mem_iff_getElem?.2 ⟨k-1,by rw [List.getElem?_take,if_pos (by omega)];exact hz⟩
  have:=(h4 z hz').1
  omega
 ·rintro ⟨h1,h2,h3,h4,h5⟩
  refine ⟨h1,h2,h3,fun y hy=>⟨?_,h5 y hy⟩⟩
  have h0:0<k:=by
   rcases Nat.eq_zero_or_pos k with rfl|h
   ·simp at hy
   ·exact h
  obtain ⟨z,hz⟩:∃z,l[k-1]?=some z:=⟨_,List.getElem?_eq_getElem (by omega)⟩
  have:=hs y hy z hz
  have:=h4 z h0 hz
  omega
theorem Y_ {ra mo:Int} {l:List Mt} {k:Nat} {t:Mt} (ht:l[k]?=some t) (hok:tj ra mo (l.take k) t=true):∀y∈l.take (k+1),∀z,l[k+1-1]?=some z→y.tm≤z.tm:=by
 intro y hy z hz
 rw [Nat.add_sub_cancel,ht] at hz
 obtain rfl:=Option.some.inj hz
 rw [List.take_add_one,ht] at hy
 rcases List.mem_append.1 hy with hy|hy
 ·unfold tj at hok
  simp only [Bool.and_eq_true,List.all_eq_true,Bool.not_eq_true',decide_eq_false_iff_not] at hok
  have:=(hok.2.2.2 y hy).1
  omega
 ·simp at hy
  rw [hy]
  exact Int.le_refl _
theorem lI {l:List Mt} {k:Nat} {t:Mt} (ht:l[k]?=some t):yh (l.map Mt.enc) k=t.enc:=yn Mt.enc l k t ht
end Go.Proofs.YtmibknbmhcnemaaGreatDoor
