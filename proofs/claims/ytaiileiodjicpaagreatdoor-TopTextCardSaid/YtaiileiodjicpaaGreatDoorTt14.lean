import Derived.Below
import Derived.IntWalk
import Derived.Test.YtaiileiodjicpaaGreatDoorTt07
import Derived.Test.YtaiileiodjicpaaGreatDoorTt10
import Derived.Test.YtaiileiodjicpaaGreatDoorTt13
set_option linter.unusedVariables false
set_option linter.unusedSimpArgs false
namespace Go.Proofs.YtaiileiodjicpaaGreatDoor.B
open Go.RowKit
def uS (r m h a:Int):Int:=if r<0∨1000000<r∨m<1∨1000000000<m then 1 else if h<0∨m<h∨a<0∨1099511627776<a then 4 else 0
theorem r6 {r m h a:Int} (e:uS r m h a=0):0≤r∧r≤1000000∧1≤m∧m≤1000000000∧0≤h∧h≤m∧0≤a∧a≤1099511627776:=by
 unfold uS at e
 split at e
 ·omega
 split at e
 ·omega
 omega
def xe (r m x a now:Int):Int:=min m (x+r*min (now-a) 1000000000)
theorem cE {r t:Int} (h1:0≤r) (h2:r≤1000000) (h3:0≤t) (h4:t≤1000000000):0≤r*t∧r*t≤1000000000000000:=
 ⟨Int.mul_nonneg h1 h3,by have:=Int.mul_le_mul h2 h4 h3 (by omega);omega⟩
def vt (r m x a now n:Int):Int:=if uS r m x a≠0 then uS r m x a else if now<a∨1099511627776<now∨n<0∨1000000000<n then 1 else 0
def tE (r m x a now n:Int):Int:=if xe r m x a now<n then xe r m x a now else xe r m x a now-n
theorem kj {r m x a now:Int} (h:uS r m x a=0) (h1:a≤now):0≤xe r m x a now∧xe r m x a now≤m:=by
 have hk:=r6 h
 have hp:=cE (r:=r) (t:=min (now-a) 1000000000) hk.1 hk.2.1 (by omega) (by omega)
 unfold xe
 omega
end Go.Proofs.YtaiileiodjicpaaGreatDoor.B
namespace Go.Proofs.YtaiileiodjicpaaGreatDoor.B
attribute [local irreducible] zF Go
set_option maxRecDepth 100000
theorem Wv {a b c d e f:DV} (h1:a=d) (h2:b=e) (h3:c=f):DV.tup [a,b,c]=DV.tup [d,e,f]:=by rw [h1,h2,h3]
abbrev bB (r m x a:Int):DV:=.agg [.v (.int .i64 r),.v (.int .i64 m),.v (.int .i64 x),.v (.int .i64 a)]
set_option maxHeartbeats 400000 in
theorem oM (r m x a:Int):zi Tryz.prog 69 [bB r m x a] (.v (.int .i64 (uS r m x a))):=by
 refine z7 {} 0 Tryz.func69 fun Γ hW=>auC ?_
 skip
 repeat' first|refine auS ?_|fail|refine auD ?_|(refine auW ?_ ?_<;>intro h<;>try exact auH)|fail
 all_goals refine auV ?_
 all_goals try exact zc
 all_goals try simp only [hsM] at *
 all_goals (refine yd ?_;simp only [uS];split<;>(try split)<;>omega)
set_option maxHeartbeats 400000 in
theorem it (r m x a now:Int) (hb:uS r m x a=0) (h1:a≤now) (h2:now≤1099511627776):zi Tryz.prog 138 [bB r m x a,.v (.int .i64 now)] (.v (.int .i64 (xe r m x a now))):=by
 have hk:=r6 hb
 have hp:=cE (r:=r) (t:=min (now-a) 1000000000) hk.1 hk.2.1 (by omega) (by omega)
 refine z7 {} 0 Tryz.func138 fun Γ hW=>auC ?_
 skip
 repeat' first|refine auS ?_|fail|refine auD ?_|(refine auW ?_ ?_<;>intro h<;>try exact auH)|fail
 all_goals refine auV ?_
 all_goals try exact zc
 all_goals try simp only [hsM] at *
 refine yd ?_
 rw [IntWalk.i64_in (now-a) (by omega),IntWalk.i64_in (r*min (now-a) 1000000000) (by omega),IntWalk.i64_in (x+r*min (now-a) 1000000000) (by omega)]
 rfl
def btD (r m x a now n:Int):DV:=if vt r m x a now n=0 then bB r m (tE r m x a now n) now else bB 0 0 0 0
set_option maxHeartbeats 400000 in
theorem q_ (r m x a now n:Int):zi Tryz.prog 105 [bB r m x a,.v (.int .i64 now),.v (.int .i64 n)] (.tup [btD r m x a now n,.v (.bool (decide (vt r m x a now n=0)&&decide (n≤xe r m x a now))),.v (.int .i64 (vt r m x a now n))]):=by
 refine z7 {} 0 Tryz.func105 fun Γ hW=>auC ?_
 repeat' first|refine auS ?_|(first|(with_reducible refine z6 (oM r m x a) ?_)|(with_reducible refine z6 (it r m x a now (by (simp only [hsL,reduceCtorEq] at *<;>omega)) (by (simp only [hsL,reduceCtorEq] at *<;>omega)) (by (simp only [hsL,reduceCtorEq] at *<;>omega))) ?_))|refine auD ?_|(refine auW ?_ ?_<;>intro h<;>try exact auH)|fail
 all_goals refine auV ?_
 all_goals try exact zc
 all_goals try simp only [hsM] at *
 all_goals first
  |(have e:vt r m x a now n=1:=by unfold vt;rw [if_neg (by omega),if_pos (by omega)]
    exact Wv (by unfold btD;rw [e];rfl) (xP (by rw [e];rfl)) (yd e.symm))
  |(have hb0:uS r m x a≠0:=by assumption
    have e:vt r m x a now n=uS r m x a:=by unfold vt;rw [if_pos hb0]
    exact Wv (by unfold btD;rw [e,if_neg hb0]) (xP (by rw [e,decide_eq_false hb0];rfl)) (yd e.symm))
  |(have hb0:uS r m x a=0:=by assumption
    have hl:=kj (now:=now) hb0 (by omega)
    have hk:=r6 hb0
    have e:vt r m x a now n=0:=by unfold vt;rw [if_neg (by omega),if_neg (by omega)]
    have hn:xe r m x a now<n:=by omega
    exact Wv (by unfold btD tE;rw [e,if_pos rfl,if_pos hn]) (xP (by rw [e];first|rfl|(rw [decide_eq_false (show ¬n≤xe r m x a now by omega)];rfl))) (yd e.symm))
  |(have hb0:uS r m x a=0:=by assumption
    have hl:=kj (now:=now) hb0 (by omega)
    have hk:=r6 hb0
    have e:vt r m x a now n=0:=by unfold vt;rw [if_neg (by omega),if_neg (by omega)]
    have hn:¬xe r m x a now<n:=by omega
    exact Wv (by unfold btD tE;rw [e,if_pos rfl,if_neg hn,IntWalk.i64_in (xe r m x a now-n) (by omega)]) (xP (by rw [e];first|rfl|(rw [decide_eq_true (show n≤xe r m x a now by omega)];rfl))) (yd e.symm))
end Go.Proofs.YtaiileiodjicpaaGreatDoor.B
namespace Go.Proofs.YtaiileiodjicpaaGreatDoor
structure Mt where
 (ad ra mo hs tm:Int)
deriving DecidableEq
abbrev Mt.enc (m:Mt):List DV:=[.v (.int .u32 m.ad),.v (.int .i64 m.ra),.v (.int .i64 m.mo),.v (.int .i64 m.hs),.v (.int .i64 m.tm)]
structure Nt where
 (l b1:Int) (t1:Nat) (b2:Int) (t2:Nat) (ms:List A.Mp)
abbrev Nt.enc (n:Nt):List DV:=A.rNt n.l n.b1 n.t1 n.b2 n.t2 n.ms
structure Hs where
 (p:R.Pl) (ms:List Mt) (tr:List T.Tk) (n:Nt)
abbrev Hs.row (h:Hs) (d:DV):List DV:=[.v (.int .u32 h.p.ou),.v (.int .i64 h.p.lt),.v (.int .i64 h.p.st),.v (.int .i64 h.p.lf),.v (.int .i64 h.p.ra),.v (.int .i64 h.p.mo),.snap 10 (h.p.rs.map R.Rl.enc) false,.v (.bool h.p.el),d,.snap 7 (h.tr.map T.Tk.enc) false,
 .v (.int .i64 h.n.l),.v (.int .i64 h.n.b1),.v (.int .u64 (h.n.t1:Int)),.v (.int .i64 h.n.b2),.v (.int .u64 (h.n.t2:Int)),.snap 5 (h.n.ms.map A.Mp.enc) false]
abbrev msD (l:List Mt):DV:=.snap 5 (l.map Mt.enc) false
abbrev dH (h:Hs):DV:=.agg (h.row (msD h.ms))
structure Nt.wf (n:Nt):Prop where
 t1:n.t1<18446744073709551616
 t2:n.t2<18446744073709551616
 ms:n.ms.length*40≤140737488351232
 ad:∀m∈n.ms,0≤m.ad∧m.ad<4294967296
theorem Nt.wf.mm {n:Nt} (h:n.wf):y8 n.ms.length 40:=by
 have:=h.ms
 unfold y8 maxLen
 omega
structure Hs.wf (h:Hs):Prop where
 p:h.p.wf
 rs:y8 h.p.rs.length 80
 ms:y8 h.ms.length 40
 tr:y8 h.tr.length 48
 n:h.n.wf
def hs0:Hs:=⟨⟨0,0,0,0,0,0,[],false⟩,[],[],⟨0,0,0,0,0,[]⟩⟩
def sq (p:R.Pl):Hs:=if R.plE p=0 then ⟨p,[],[],⟨p.lf,p.lt,0,p.st,0,[]⟩⟩ else hs0
def tV (ra mo:Int) (pre:List Mt) (m:Mt):Bool:=decide (B.uS m.ra m.mo m.hs m.tm=0)&&(decide (m.ra=ra)&&(decide (m.mo=mo)&&pre.all fun y=>!(decide (m.tm<y.tm)) && !(decide (y.ad=m.ad))))
def iQ (n:Nt):Int:=A.y_ n.l n.b1 n.t1 n.b2 n.t2 n.ms
def lJ (h:Hs):Bool:=decide (h.ms.length≤64)&&(decide (h.n.l=h.p.lf)&&(decide (h.n.b1=h.p.lt)&&decide (h.n.b2=h.p.st)))
def lI (h:Hs):Int:=if R.plE h.p≠0 then R.plE h.p else if T.yq h.tr≠0 then T.yq h.tr else if iQ h.n≠0 then iQ h.n else if lJ h&&yS (tV h.p.ra h.p.mo) [] h.ms then 0 else 4
def tN (l:List Mt):Int:=match l[l.length-1]? with|some m=>m.tm|none=>0
def qu (h:Hs):Int:=max (max (tN h.ms) (T.wS h.tr)) (A.x7 h.n.ms)
theorem YF {ra mo:Int} {l:List Mt} {k:Nat} {t:Mt} (ht:l[k]?=some t) (hs:∀y∈l.take k,∀z,l[k-1]?=some z→y.tm≤z.tm) :
  tV ra mo (l.take k) t=true↔B.uS t.ra t.mo t.hs t.tm=0∧t.ra=ra∧t.mo=mo∧(∀z,0<k→l[k-1]?=some z→z.tm≤t.tm)∧zk (fun y:Mt=>decide (y.ad=t.ad)) l 0=k:=by
 have hk:k<l.length:=(List.getElem?_eq_some_iff.1 ht).1
 have hf:=uR (fun y:Mt=>decide (y.ad=t.ad)) t (by simp) (l.drop (k+1)) (l.take k) 0
 have hl:l.take k++t::l.drop (k+1)=l:=by
  rw [←Option.some.inj ((List.getElem?_eq_getElem hk).symm.trans ht),←List.drop_eq_getElem_cons hk,List.take_append_drop]
 rw [hl,List.length_take,Nat.min_eq_left (Nat.le_of_lt hk),Nat.zero_add] at hf
 rw [hf]
 unfold tV
 simp only [Bool.and_eq_true,List.all_eq_true,Bool.not_eq_true',decide_eq_false_iff_not,decide_eq_true_eq]
 constructor
 ·rintro ⟨h1,h2,h3,h4⟩
  refine ⟨h1,h2,h3,fun z h0 hz=>?_,fun y hy=>(h4 y hy).2⟩
  have hz':z∈l.take k:=List.mem_iff_getElem?.2 ⟨k-1,by rw [List.getElem?_take,if_pos (by omega)];exact hz⟩
  have:=(h4 z hz').1
  omega
 ·rintro ⟨h1,h2,h3,h4,h5⟩
  refine ⟨h1,h2,h3,fun y hy=>⟨?_,h5 y hy⟩⟩
  have h0:0<k:=by
   rcases Nat.eq_zero_or_pos k with rfl|h
   ·simp at hy
   ·exact h
  obtain ⟨z,hz⟩:∃z,l[k-1]?=some z:=⟨_,List.getElem?_eq_getElem (by omega)⟩
  have:=hs y hy z hz
  have:=h4 z h0 hz
  omega
theorem Wa {ra mo:Int} {l:List Mt} {k:Nat} {t:Mt} (ht:l[k]?=some t) (hok:tV ra mo (l.take k) t=true):∀y∈l.take (k+1),∀z,l[k+1-1]?=some z→y.tm≤z.tm:=by
 intro y hy z hz
 rw [Nat.add_sub_cancel,ht] at hz
 obtain rfl:=Option.some.inj hz
 rw [List.take_add_one,ht] at hy
 rcases List.mem_append.1 hy with hy|hy
 ·unfold tV at hok
  simp only [Bool.and_eq_true,List.all_eq_true,Bool.not_eq_true',decide_eq_false_iff_not] at hok
  have:=(hok.2.2.2 y hy).1
  omega
 ·simp at hy
  rw [hy]
  exact Int.le_refl _
theorem jU {l:List Mt} {k:Nat} {t:Mt} (ht:l[k]?=some t):yo (l.map Mt.enc) k=t.enc:=ye Mt.enc l k t ht
end Go.Proofs.YtaiileiodjicpaaGreatDoor
