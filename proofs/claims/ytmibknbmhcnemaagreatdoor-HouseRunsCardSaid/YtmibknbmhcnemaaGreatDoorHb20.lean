import Derived.Test.YtmibknbmhcnemaaGreatDoorHb19
set_option linter.unusedVariables false
set_option linter.unusedSimpArgs false
namespace Go.Proofs.YtmibknbmhcnemaaGreatDoor
def yo (t:List UInt8) (i:Nat) (n:Int):List UInt8:=(t.set i (u8 (n / 256))).set (i+1) (u8 n)
theorem zG (t:List UInt8) (i:Nat) (n:Int):(yo t i n).length=t.length:=by unfold yo;simp
theorem xO (t:List UInt8) (i:Nat) (n:Int) (h:i+1<t.length) (k:Nat):(yo t i n)[k]?=if k=i then some (u8 (n / 256)) else if k=i+1 then some (u8 n) else t[k]?:=by
 unfold yo
 rw [List.getElem?_set,List.getElem?_set,List.length_set]
 by_cases h1:k=i
 ·rw [if_pos h1,if_neg (by omega),if_pos h1.symm,if_pos (by omega)]
 ·rw [if_neg h1]
  by_cases h2:k=i+1
  ·rw [if_pos h2,if_pos h2.symm,if_pos (by omega)]
  ·rw [if_neg h2,if_neg (by omega),if_neg (by omega)]
theorem wo (t:List UInt8) (i:Nat) (n:Int) (h:i+1<t.length) (h0:0≤n) (h1:n≤65535):z3 (yo t i n) i=n:=by
 unfold z3
 rw [xO t i n h,xO t i n h,if_pos rfl,if_neg (by omega),if_pos rfl]
 show 256*((u8 (n / 256)).toNat:Int)+((u8 n).toNat:Int)=n
 rw [ly,ly]
 omega
theorem wR (t:List UInt8) (i k:Nat) (n:Int) (h:i+1<t.length) (hk:k+1<i∨i+1<k):z3 (yo t i n) k=z3 t k:=by
 unfold z3
 rw [xO t i n h,xO t i n h,if_neg (by omega),if_neg (by omega),if_neg (by omega),if_neg (by omega)]
theorem aj (t:List UInt8) (i L:Nat) (n:Int):(yo t i n).take L=yo (t.take L) i n:=by unfold yo;rw [List.take_set,List.take_set]
theorem VP (n:Int) (k:Nat):(wd n)[k]?=if k=0 then some (u8 (n / 256)) else if k=1 then some (u8 n) else none:=by
 unfold wd
 match k with
 |0=>rfl
 |1=>rfl
 |k+2=>simp
theorem x6 (t:List UInt8) (i:Nat) (n:Int) (h:i+1<t.length):t.take i++wd n++t.drop (i+2)=yo t i n:=by
 refine List.ext_getElem? fun k=>?_
 rw [xO t i n h,List.getElem?_append,List.getElem?_append,List.getElem?_take,List.getElem?_drop,VP]
 simp only [List.length_append,List.length_take,zE]
 rw [Nat.min_eq_left (by omega)]
 by_cases h1:k<i
 ·rw [if_pos (by omega),if_pos h1,if_pos h1,if_neg (by omega),if_neg (by omega)]
 ·by_cases h2:k=i
  ·rw [if_pos (by omega),if_neg h1,if_pos (by omega),if_pos h2]
  ·by_cases h3:k=i+1
   ·rw [if_pos (by omega),if_neg h1,if_neg (by omega),if_pos (by omega),if_neg h2,if_pos h3]
   ·rw [if_neg (by omega),if_neg h2,if_neg h3]
    congr 1;omega
def r9 (c o n:Int):Int:=65535-zL ((65535-c)+(65535-o)+n)
theorem sy (c o n:Int) (hc:c≤65535) (ho:o≤65535) (hn:0≤n):0≤r9 c o n∧r9 c o n≤65535:=by
 have:=xE ((65535-c)+(65535-o)+n) (by omega)
 unfold r9;omega
def pv (o n:Int) (t:List UInt8) (c:Nat):List UInt8:=yo t c (r9 (z3 t c) o n)
theorem bj (o n:Int) (t:List UInt8) (c:Nat):(pv o n t c).length=t.length:=zG _ _ _
def chg (t:List UInt8) (i:Nat) (n:Int) (cs:List Nat):List UInt8:=cs.foldl (pv (z3 t i) n) (yo t i n)
theorem lK (o n:Int):∀(cs:List Nat) (t:List UInt8),(cs.foldl (pv o n) t).length=t.length
 |[],t=>rfl
 |c::r,t=>by rw [List.foldl_cons,lK o n r,bj]
theorem uB (t:List UInt8) (i:Nat) (n:Int) (cs:List Nat):(chg t i n cs).length=t.length:=by unfold chg;rw [lK,zG]
def uA (c:Int):List Int→Int
 |o::n::r=>uA (r9 c o n) r
 |_=>c
theorem pD:∀(m:Nat) (l:List Int) (c:Int),l.length≤m→(∀x∈l,0≤x∧x≤65535)→0≤c∧c≤65535→0≤uA c l∧uA c l≤65535
 |0,[],c,_,_,hc=>hc
 |m+1,[],c,_,_,hc=>hc
 |m+1,[a],c,_,_,hc=>hc
 |m+1,o::n::r,c,hl,h,hc=>by
  rw [uA]
  refine pD m r _ (by simp at hl;omega) (fun x hx=>h x (by simp [hx])) ?_
  have h1:=h o (by simp)
  have h2:=h n (by simp)
  exact sy c o n hc.2 h1.2 h2.1
def ckI (p:Int):Nat:=if p=17 then 6 else 16
def swN (s:List UInt8) (h:Nat) (p:Int):Bool:=decide (p=17∧z3 s (h+ckI p)=0)
def swC (s:List UInt8) (h:Nat) (p:Int):List Nat:=if swN s h p=true then [] else [h+ckI p]
def sw3 (s:List UInt8) (h:Nat) (p a port:Int) (at' off:Nat):List UInt8:=
 chg (chg (chg s at' (a / 65536) (10::swC s h p)) (at'+2) (a % 65536) (10::swC s h p)) (h+off) port (swC s h p)
def sw4 (s:List UInt8) (h:Nat) (p a port:Int) (at' off:Nat):List UInt8:=
 if p=17∧swN s h p=false∧z3 (sw3 s h p a port at' off) (h+ckI p)=0 then yo (sw3 s h p a port at' off) (h+ckI p) 65535 else sw3 s h p a port at' off
def noZ (p c:Int):Int:=if p=17∧c=0 then 65535 else c
def rnC (s:List UInt8) (h:Nat) (p a port:Int) (at' off:Nat):Int:=
 if p=6∨0<z3 s (h+ckI p) then
  noZ p (uA (z3 s (h+ckI p)) [z3 s at',a / 65536,z3 s (at'+2),a % 65536,z3 s (h+off),port])
 else z3 s (h+ckI p)
def rnT (s:List UInt8) (a:Int) (at':Nat):Int:=uA (z3 s 10) [z3 s at',a / 65536,z3 s (at'+2),a % 65536]
def rnW (s:List UInt8) (h:Nat) (p a port:Int) (at' off:Nat):List UInt8:=
 yo (yo (yo (yo (yo s 10 (rnT s a at')) at' (a / 65536)) (at'+2) (a % 65536)) (h+off) port) (h+ckI p) (rnC s h p a port at' off)
theorem kG (c o n:Int) (r:List Int):uA c (o::n::r)=uA (r9 c o n) r:=rfl
theorem XK (t:List UInt8) (i:Nat) (h:i+1<t.length):yo t i (z3 t i)=t:=by
 refine List.ext_getElem? fun k=>?_
 have b1:=(t[i]?.getD 0).toNat_lt
 have b2:=(t[i+1]?.getD 0).toNat_lt
 have e1:u8 (z3 t i / 256)=t[i]?.getD 0:=by
  apply UInt8.toNat_inj.1
  have:=ly (z3 t i / 256)
  unfold z3 at this ⊢
  omega
 have e2:u8 (z3 t i)=t[i+1]?.getD 0:=by
  apply UInt8.toNat_inj.1
  have:=ly (z3 t i)
  unfold z3 at this ⊢
  omega
 rw [xO t i _ h,e1,e2]
 split
 ·rename_i hk;rw [hk,List.getElem?_eq_getElem (by omega:i<t.length)];rfl
 split
 ·rename_i hk;rw [hk,List.getElem?_eq_getElem h];rfl
 ·rfl
theorem iy {p c:Int} (h:p=17∧c=0):noZ p c=65535:=by unfold noZ;rw [if_pos h]
theorem pu {p c:Int} (h:¬(p=17∧c=0)):noZ p c=c:=by unfold noZ;rw [if_neg h]
theorem fe (t:List UInt8) (i:Nat) (w:Int) (h:i+1<t.length) (hw:w=z3 t i):yo t i w=t:=by rw [hw,XK t i h]
set_option maxHeartbeats 4000000 in
theorem Ul (s:List UInt8) (h:Nat) (p a port:Int) (at' off:Nat) (hp:p=6∨p=17) (hh:20≤h) (hl:h+ckI p+1<s.length) (ha:0≤a∧a<4294967296) (hq:0≤port∧port≤65535) (hao:(at'=12∧off=0)∨(at'=16∧off=2)):sw4 s h p a port at' off=rnW s h p a port at' off:=by
 have hc:6≤ckI p:=by unfold ckI;split<;>omega
 have b1:=zh s 10
 have b2:=zh s at'
 have b3:=zh s (at'+2)
 have b4:=zh s (h+ckI p)
 have b5:=zh s (h+off)
 have t1:=sy (z3 s 10) (z3 s at') (a / 65536) b1.2 b2.2 (by omega)
 have t2:=sy (r9 (z3 s 10) (z3 s at') (a / 65536)) (z3 s (at'+2)) (a % 65536) t1.2 b3.2 (by omega)
 have c1:=sy (z3 s (h+ckI p)) (z3 s at') (a / 65536) b4.2 b2.2 (by omega)
 have c2:=sy (r9 (z3 s (h+ckI p)) (z3 s at') (a / 65536)) (z3 s (at'+2)) (a % 65536) c1.2 b3.2 (by omega)
 have c3:=sy (r9 (r9 (z3 s (h+ckI p)) (z3 s at') (a / 65536)) (z3 s (at'+2)) (a % 65536)) (z3 s (h+off)) port c2.2 b5.2 (by omega)
 by_cases hn:swN s h p=true
 ·have hn':=hn
  unfold swN at hn'
  obtain ⟨rfl,hw⟩:=of_decide_eq_true hn'
  have e1:swC s h 17=[]:=by unfold swC;rw [if_pos hn]
  have e2:rnC s h 17 a port at' off=z3 s (h+ckI 17):=by unfold rnC;rw [if_neg (by omega)]
  unfold sw4 rnW
  rw [if_neg (by rw [hn];simp),e2]
  unfold sw3 rnT
  rw [e1]
  simp only [chg,List.foldl_cons,List.foldl_nil,pv,kG,uA]
  generalize hp17:(17:Int)=p at *
  rcases hao with ⟨rfl,rfl⟩|⟨rfl,rfl⟩
  ·simp (disch:=(first|omega|(simp only [zG];omega))) only [wo,wR]
   refine Eq.trans ?_ (fe _ _ _ ?_ ?_).symm
   rotate_left
   ·simp only [zG];omega
   ·simp (disch:=(first|omega|(simp only [zG];omega))) only [wo,wR]
   refine List.ext_getElem? fun k=>?_
   repeat rw [xO]
   all_goals first
    |omega
    |(simp only [zG];omega)
    |skip
   rcases (by omega:k=h+ckI p∨k=h+ckI p+1∨k=10∨k=11∨k=12∨k=12+1∨k=12+2∨k=12+3∨k=h+0∨k=h+0+1∨(k≠h+ckI p∧k≠h+ckI p+1∧k≠10∧k≠11∧k≠12∧k≠12+1∧k≠12+2∧k≠12+3∧k≠h+0∧k≠h+0+1)) with hk|hk|hk|hk|hk|hk|hk|hk|hk|hk|hk
   all_goals simp (disch:=omega) only [if_pos,if_neg]
  ·simp (disch:=(first|omega|(simp only [zG];omega))) only [wo,wR]
   refine Eq.trans ?_ (fe _ _ _ ?_ ?_).symm
   rotate_left
   ·simp only [zG];omega
   ·simp (disch:=(first|omega|(simp only [zG];omega))) only [wo,wR]
   refine List.ext_getElem? fun k=>?_
   repeat rw [xO]
   all_goals first
    |omega
    |(simp only [zG];omega)
    |skip
   rcases (by omega:k=h+ckI p∨k=h+ckI p+1∨k=10∨k=11∨k=16∨k=16+1∨k=16+2∨k=16+3∨k=h+2∨k=h+2+1∨(k≠h+ckI p∧k≠h+ckI p+1∧k≠10∧k≠11∧k≠16∧k≠16+1∧k≠16+2∧k≠16+3∧k≠h+2∧k≠h+2+1)) with hk|hk|hk|hk|hk|hk|hk|hk|hk|hk|hk
   all_goals simp (disch:=omega) only [if_pos,if_neg]
 ·have e1:swC s h p=[h+ckI p]:=by unfold swC;rw [if_neg hn]
  have hn':¬(p=17∧z3 s (h+ckI p)=0):=by unfold swN at hn;simpa using hn
  have hf:swN s h p=false:=by simpa using hn
  have h3:z3 (sw3 s h p a port at' off) (h+ckI p)=r9 (r9 (r9 (z3 s (h+ckI p)) (z3 s at') (a / 65536)) (z3 s (at'+2)) (a % 65536)) (z3 s (h+off)) port:=by
   unfold sw3
   rw [e1]
   simp only [chg,List.foldl_cons,List.foldl_nil,pv]
   rcases hao with ⟨rfl,rfl⟩|⟨rfl,rfl⟩
   all_goals simp (disch:=(first|omega|(simp only [zG];omega))) only [wo,wR]
  unfold sw4 rnW rnC
  rw [h3,if_pos (by omega:p=6∨0<z3 s (h+ckI p))]
  simp only [kG,uA,rnT,hf,true_and]
  split
  all_goals
   rename_i hx
   first
    |rw [iy hx]
    |rw [pu hx]
   clear hx
   unfold sw3
   rw [e1]
   simp only [chg,List.foldl_cons,List.foldl_nil,pv]
   rcases hao with ⟨rfl,rfl⟩|⟨rfl,rfl⟩
   ·simp (disch:=(first|omega|(simp only [zG];omega))) only [wo,wR]
    refine List.ext_getElem? fun k=>?_
    repeat rw [xO]
    all_goals first
     |omega
     |(simp only [zG];omega)
     |skip
    rcases (by omega:k=h+ckI p∨k=h+ckI p+1∨k=10∨k=11∨k=12∨k=12+1∨k=12+2∨k=12+3∨k=h+0∨k=h+0+1∨(k≠h+ckI p∧k≠h+ckI p+1∧k≠10∧k≠11∧k≠12∧k≠12+1∧k≠12+2∧k≠12+3∧k≠h+0∧k≠h+0+1)) with hk|hk|hk|hk|hk|hk|hk|hk|hk|hk|hk
    all_goals simp (disch:=omega) only [if_pos,if_neg]
   ·simp (disch:=(first|omega|(simp only [zG];omega))) only [wo,wR]
    refine List.ext_getElem? fun k=>?_
    repeat rw [xO]
    all_goals first
     |omega
     |(simp only [zG];omega)
     |skip
    rcases (by omega:k=h+ckI p∨k=h+ckI p+1∨k=10∨k=11∨k=16∨k=16+1∨k=16+2∨k=16+3∨k=h+2∨k=h+2+1∨(k≠h+ckI p∧k≠h+ckI p+1∧k≠10∧k≠11∧k≠16∧k≠16+1∧k≠16+2∧k≠16+3∧k≠h+2∧k≠h+2+1)) with hk|hk|hk|hk|hk|hk|hk|hk|hk|hk|hk
    all_goals simp (disch:=omega) only [if_pos,if_neg]
end Go.Proofs.YtmibknbmhcnemaaGreatDoor
