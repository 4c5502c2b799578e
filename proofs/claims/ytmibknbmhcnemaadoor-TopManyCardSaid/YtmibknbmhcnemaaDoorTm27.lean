import Derived.Test.YtmibknbmhcnemaaDoorTm26
set_option linter.unusedVariables false
set_option linter.unusedSimpArgs false
namespace Go.Proofs.YtmibknbmhcnemaaDoor
def vg (t:List UInt8) (i:Nat) (n:Int):List UInt8:=(t.set i (u8 (n / 256))).set (i+1) (u8 n)
theorem y6 (t:List UInt8) (i:Nat) (n:Int):(vg t i n).length=t.length:=by unfold vg;simp
theorem wm (t:List UInt8) (i:Nat) (n:Int) (h:i+1<t.length) (k:Nat):(vg t i n)[k]?=if k=i then some (u8 (n / 256)) else if k=i+1 then some (u8 n) else t[k]?:=by
 unfold vg
 rw [List.getElem?_set,List.getElem?_set,List.length_set]
 by_cases h1:k=i
 ·rw [if_pos h1,if_neg (by omega),if_pos h1.symm,if_pos (by omega)]
 ·rw [if_neg h1]
  by_cases h2:k=i+1
  ·rw [if_pos h2,if_pos h2.symm,if_pos (by omega)]
  ·rw [if_neg h2,if_neg (by omega),if_neg (by omega)]
theorem wx (t:List UInt8) (i:Nat) (n:Int) (h:i+1<t.length) (h0:0≤n) (h1:n≤65535):z3 (vg t i n) i=n:=by
 unfold z3
 rw [wm t i n h,wm t i n h,if_pos rfl,if_neg (by omega),if_pos rfl]
 show 256*((u8 (n / 256)).toNat:Int)+((u8 n).toNat:Int)=n
 rw [vu,vu]
 omega
theorem uQ (t:List UInt8) (i k:Nat) (n:Int) (h:i+1<t.length) (hk:k+1<i∨i+1<k):z3 (vg t i n) k=z3 t k:=by
 unfold z3
 rw [wm t i n h,wm t i n h,if_neg (by omega),if_neg (by omega),if_neg (by omega),if_neg (by omega)]
def wL (c o n:Int):Int:=65535-zI ((65535-c)+(65535-o)+n)
theorem sa (c o n:Int) (hc:c≤65535) (ho:o≤65535) (hn:0≤n):0≤wL c o n∧wL c o n≤65535:=by
 have:=xD ((65535-c)+(65535-o)+n) (by omega)
 unfold wL;omega
def rL (o n:Int) (t:List UInt8) (c:Nat):List UInt8:=vg t c (wL (z3 t c) o n)
theorem gI (o n:Int) (t:List UInt8) (c:Nat):(rL o n t c).length=t.length:=y6 _ _ _
def chg (t:List UInt8) (i:Nat) (n:Int) (cs:List Nat):List UInt8:=cs.foldl (rL (z3 t i) n) (vg t i n)
theorem oz (o n:Int):∀(cs:List Nat) (t:List UInt8),(cs.foldl (rL o n) t).length=t.length
 |[],t=>rfl
 |c::r,t=>by rw [List.foldl_cons,oz o n r,gI]
theorem vc (t:List UInt8) (i:Nat) (n:Int) (cs:List Nat):(chg t i n cs).length=t.length:=by unfold chg;rw [oz,y6]
def sF (c:Int):List Int→Int
 |o::n::r=>sF (wL c o n) r
 |_=>c
theorem lj:∀(m:Nat) (l:List Int) (c:Int),l.length≤m→(∀x∈l,0≤x∧x≤65535)→0≤c∧c≤65535→0≤sF c l∧sF c l≤65535
 |0,[],c,_,_,hc=>hc
 |m+1,[],c,_,_,hc=>hc
 |m+1,[a],c,_,_,hc=>hc
 |m+1,o::n::r,c,hl,h,hc=>by
  rw [sF]
  refine lj m r _ (by simp at hl;omega) (fun x hx=>h x (by simp [hx])) ?_
  have h1:=h o (by simp)
  have h2:=h n (by simp)
  exact sa c o n hc.2 h1.2 h2.1
def ckI (p:Int):Nat:=if p=17 then 6 else 16
def swN (s:List UInt8) (h:Nat) (p:Int):Bool:=decide (p=17∧z3 s (h+ckI p)=0)
def swC (s:List UInt8) (h:Nat) (p:Int):List Nat:=if swN s h p=true then [] else [h+ckI p]
def sw3 (s:List UInt8) (h:Nat) (p a port:Int) (at' off:Nat):List UInt8:=
 chg (chg (chg s at' (a / 65536) (10::swC s h p)) (at'+2) (a % 65536) (10::swC s h p)) (h+off) port (swC s h p)
def sw4 (s:List UInt8) (h:Nat) (p a port:Int) (at' off:Nat):List UInt8:=
 if p=17∧swN s h p=false∧z3 (sw3 s h p a port at' off) (h+ckI p)=0 then vg (sw3 s h p a port at' off) (h+ckI p) 65535 else sw3 s h p a port at' off
def noZ (p c:Int):Int:=if p=17∧c=0 then 65535 else c
def rnC (s:List UInt8) (h:Nat) (p a port:Int) (at' off:Nat):Int:=
 if p=6∨0<z3 s (h+ckI p) then
  noZ p (sF (z3 s (h+ckI p)) [z3 s at',a / 65536,z3 s (at'+2),a % 65536,z3 s (h+off),port])
 else z3 s (h+ckI p)
def rnT (s:List UInt8) (a:Int) (at':Nat):Int:=sF (z3 s 10) [z3 s at',a / 65536,z3 s (at'+2),a % 65536]
def rnW (s:List UInt8) (h:Nat) (p a port:Int) (at' off:Nat):List UInt8:=
 vg (vg (vg (vg (vg s 10 (rnT s a at')) at' (a / 65536)) (at'+2) (a % 65536)) (h+off) port) (h+ckI p) (rnC s h p a port at' off)
theorem nO (c o n:Int) (r:List Int):sF c (o::n::r)=sF (wL c o n) r:=rfl
theorem ai (t:List UInt8) (i:Nat) (h:i+1<t.length):vg t i (z3 t i)=t:=by
 refine List.ext_getElem? fun k=>?_
 have b1:=(t[i]?.getD 0).toNat_lt
 have b2:=(t[i+1]?.getD 0).toNat_lt
 have e1:u8 (z3 t i / 256)=t[i]?.getD 0:=by
  apply UInt8.toNat_inj.1
  have:=vu (z3 t i / 256)
  unfold z3 at this ⊢
  omega
 have e2:u8 (z3 t i)=t[i+1]?.getD 0:=by
  apply UInt8.toNat_inj.1
  have:=vu (z3 t i)
  unfold z3 at this ⊢
  omega
 rw [wm t i _ h,e1,e2]
 split
 ·rename_i hk;rw [hk,List.getElem?_eq_getElem (by omega:i<t.length)];rfl
 split
 ·rename_i hk;rw [hk,List.getElem?_eq_getElem h];rfl
 ·rfl
theorem Z2 {p c:Int} (h:p=17∧c=0):noZ p c=65535:=by unfold noZ;rw [if_pos h]
theorem Zt {p c:Int} (h:¬(p=17∧c=0)):noZ p c=c:=by unfold noZ;rw [if_neg h]
theorem lP (t:List UInt8) (i:Nat) (w:Int) (h:i+1<t.length) (hw:w=z3 t i):vg t i w=t:=by rw [hw,ai t i h]
set_option maxHeartbeats 4000000 in
theorem X3 (s:List UInt8) (h:Nat) (p a port:Int) (at' off:Nat) (hp:p=6∨p=17) (hh:20≤h) (hl:h+ckI p+1<s.length) (ha:0≤a∧a<4294967296) (hq:0≤port∧port≤65535) (hao:(at'=12∧off=0)∨(at'=16∧off=2)):sw4 s h p a port at' off=rnW s h p a port at' off:=by
 have hc:6≤ckI p:=by unfold ckI;split<;>omega
 have b1:=zo s 10
 have b2:=zo s at'
 have b3:=zo s (at'+2)
 have b4:=zo s (h+ckI p)
 have b5:=zo s (h+off)
 have t1:=sa (z3 s 10) (z3 s at') (a / 65536) b1.2 b2.2 (by omega)
 have t2:=sa (wL (z3 s 10) (z3 s at') (a / 65536)) (z3 s (at'+2)) (a % 65536) t1.2 b3.2 (by omega)
 have c1:=sa (z3 s (h+ckI p)) (z3 s at') (a / 65536) b4.2 b2.2 (by omega)
 have c2:=sa (wL (z3 s (h+ckI p)) (z3 s at') (a / 65536)) (z3 s (at'+2)) (a % 65536) c1.2 b3.2 (by omega)
 have c3:=sa (wL (wL (z3 s (h+ckI p)) (z3 s at') (a / 65536)) (z3 s (at'+2)) (a % 65536)) (z3 s (h+off)) port c2.2 b5.2 (by omega)
 by_cases hn:swN s h p=true
 ·have hn':=hn
  unfold swN at hn'
  obtain ⟨rfl,hw⟩:=of_decide_eq_true hn'
  have e1:swC s h 17=[]:=by unfold swC;rw [if_pos hn]
  have e2:rnC s h 17 a port at' off=z3 s (h+ckI 17):=by unfold rnC;rw [if_neg (by omega)]
  unfold sw4 rnW
  rw [if_neg (by rw [hn];simp),e2]
  unfold sw3 rnT
  rw [e1]
  simp only [chg,List.foldl_cons,List.foldl_nil,rL,nO,sF]
  generalize hp17:(17:Int)=p at *
  rcases hao with ⟨rfl,rfl⟩|⟨rfl,rfl⟩
  ·simp (disch:=(first|omega|(simp only [y6];omega))) only [wx,uQ]
   refine Eq.trans ?_ (lP _ _ _ ?_ ?_).symm
   rotate_left
   ·simp only [y6];omega
   ·simp (disch:=(first|omega|(simp only [y6];omega))) only [wx,uQ]
   refine List.ext_getElem? fun k=>?_
   repeat rw [wm]
   all_goals first
    |omega
    |(simp only [y6];omega)
    |skip
   rcases (by omega:k=h+ckI p∨k=h+ckI p+1∨k=10∨k=11∨k=12∨k=12+1∨k=12+2∨k=12+3∨k=h+0∨k=h+0+1∨(k≠h+ckI p∧k≠h+ckI p+1∧k≠10∧k≠11∧k≠12∧k≠12+1∧k≠12+2∧k≠12+3∧k≠h+0∧k≠h+0+1)) with hk|hk|hk|hk|hk|hk|hk|hk|hk|hk|hk
   all_goals simp (disch:=omega) only [if_pos,if_neg]
  ·simp (disch:=(first|omega|(simp only [y6];omega))) only [wx,uQ]
   refine Eq.trans ?_ (lP _ _ _ ?_ ?_).symm
   rotate_left
   ·simp only [y6];omega
   ·simp (disch:=(first|omega|(simp only [y6];omega))) only [wx,uQ]
   refine List.ext_getElem? fun k=>?_
   repeat rw [wm]
   all_goals first
    |omega
    |(simp only [y6];omega)
    |skip
   rcases (by omega:k=h+ckI p∨k=h+ckI p+1∨k=10∨k=11∨k=16∨k=16+1∨k=16+2∨k=16+3∨k=h+2∨k=h+2+1∨(k≠h+ckI p∧k≠h+ckI p+1∧k≠10∧k≠11∧k≠16∧k≠16+1∧k≠16+2∧k≠16+3∧k≠h+2∧k≠h+2+1)) with hk|hk|hk|hk|hk|hk|hk|hk|hk|hk|hk
   all_goals simp (disch:=omega) only [if_pos,if_neg]
 ·have e1:swC s h p=[h+ckI p]:=by unfold swC;rw [if_neg hn]
  have hn':¬(p=17∧z3 s (h+ckI p)=0):=by unfold swN at hn;simpa using hn
  have hf:swN s h p=false:=by simpa using hn
  have h3:z3 (sw3 s h p a port at' off) (h+ckI p)=wL (wL (wL (z3 s (h+ckI p)) (z3 s at') (a / 65536)) (z3 s (at'+2)) (a % 65536)) (z3 s (h+off)) port:=by
   unfold sw3
   rw [e1]
   simp only [chg,List.foldl_cons,List.foldl_nil,rL]
   rcases hao with ⟨rfl,rfl⟩|⟨rfl,rfl⟩
   all_goals simp (disch:=(first|omega|(simp only [y6];omega))) only [wx,uQ]
  unfold sw4 rnW rnC
  rw [h3,if_pos (by omega:p=6∨0<z3 s (h+ckI p))]
  simp only [nO,sF,rnT,hf,true_and]
  split
  all_goals
   rename_i hx
   first
    |rw [Z2 hx]
    |rw [Zt hx]
   clear hx
   unfold sw3
   rw [e1]
   simp only [chg,List.foldl_cons,List.foldl_nil,rL]
   rcases hao with ⟨rfl,rfl⟩|⟨rfl,rfl⟩
   ·simp (disch:=(first|omega|(simp only [y6];omega))) only [wx,uQ]
    refine List.ext_getElem? fun k=>?_
    repeat rw [wm]
    all_goals first
     |omega
     |(simp only [y6];omega)
     |skip
    rcases (by omega:k=h+ckI p∨k=h+ckI p+1∨k=10∨k=11∨k=12∨k=12+1∨k=12+2∨k=12+3∨k=h+0∨k=h+0+1∨(k≠h+ckI p∧k≠h+ckI p+1∧k≠10∧k≠11∧k≠12∧k≠12+1∧k≠12+2∧k≠12+3∧k≠h+0∧k≠h+0+1)) with hk|hk|hk|hk|hk|hk|hk|hk|hk|hk|hk
    all_goals simp (disch:=omega) only [if_pos,if_neg]
   ·simp (disch:=(first|omega|(simp only [y6];omega))) only [wx,uQ]
    refine List.ext_getElem? fun k=>?_
    repeat rw [wm]
    all_goals first
     |omega
     |(simp only [y6];omega)
     |skip
    rcases (by omega:k=h+ckI p∨k=h+ckI p+1∨k=10∨k=11∨k=16∨k=16+1∨k=16+2∨k=16+3∨k=h+2∨k=h+2+1∨(k≠h+ckI p∧k≠h+ckI p+1∧k≠10∧k≠11∧k≠16∧k≠16+1∧k≠16+2∧k≠16+3∧k≠h+2∧k≠h+2+1)) with hk|hk|hk|hk|hk|hk|hk|hk|hk|hk|hk
    all_goals simp (disch:=omega) only [if_pos,if_neg]
end Go.Proofs.YtmibknbmhcnemaaDoor
namespace Go.Proofs.YtmibknbmhcnemaaDoor
def rw8 (t:List UInt8):List (List DV):=t.map (fun b=>[.v (.int .u8 (b.toNat:Int))])
theorem xL (t:List UInt8):yN (mkS t)=rw8 t:=rfl
theorem X7 (a:Int):IntKind.u8.wrap a=((u8 a).toNat:Int):=by rw [vu,IntKind.wrap_u8]
theorem qR:∀t:List UInt8,vX (rw8 t)=true
 |[]=>rfl
 |a::r=>by
  have:=qR r
  simp only [rw8,List.map_cons,vX] at this ⊢
  first
   |exact this
   |(rw [this];rfl)
theorem fD (t:List UInt8):uv (rw8 t)=mkS t:=by
 rw [cx]
 unfold rw8
 rw [List.map_map]
 refine congrArg mkS ?_
 conv=>rhs;rw [←List.map_id t]
 refine List.map_congr_left fun a _=>?_
 show UInt8.ofNat ((a.toNat:Int)).toNat=a
 simp
theorem wJ (t:List UInt8):(rw8 t).length=t.length:=List.length_map _
end Go.Proofs.YtmibknbmhcnemaaDoor
namespace Go.Proofs.YtmibknbmhcnemaaDoor
attribute [local irreducible] zz Go
set_option maxRecDepth 100000
theorem tG (t:List UInt8) (i:Nat) (h:i<t.length):yb (rw8 t) i=[.v (.int .u8 (bN t i:Nat))]:=by
 obtain ⟨b,hb⟩:∃b,t[i]?=some b:=⟨_,List.getElem?_eq_getElem h⟩
 rw [av hb]
 exact ye (fun b:UInt8=>[.v (.int .u8 (b.toNat:Int))]) t i b hb
theorem kH (t:List UInt8) (i:Nat) (a:Int):vU (rw8 t) i [.v (.int .u8 (IntKind.u8.wrap a))]=rw8 (t.set i (u8 a)):=by
 rw [X7]
 exact cN (fun b:UInt8=>[DV.v (.int .u8 (b.toNat:Int))]) t i (u8 a)
theorem uA (n:Int) (h0:0≤n) (h1:n<2 ^ 16):IntKind.u16.wrap n=n:=IntWalk.u16_in _ (by omega)
theorem dV (a b:Nat) (ha:a<256) (hb:b<256):bits .or .u16 (IntKind.u16.wrap ((a:Int)*2 ^ 8)) (b:Nat)=256*(a:Int)+(b:Nat):=by
 rw [uA _ (by omega) (by omega),bits_join .u16 16 (by decide) uA 8 _ _ (by omega) (by omega) (by omega) (by omega) (by omega) (by omega)]
 omega
theorem oq (c o n:Int) (hc:0≤c∧c≤65535) (ho:0≤o∧o≤65535) (hn:0≤n∧n≤65535):zf Tryd.prog 61 [.v (.int .u16 c),.v (.int .u16 o),.v (.int .u16 n)] (.v (.int .u16 (wL c o n))):=by
 have sg:IntKind.u16.signed=false:=rfl
 have h1:=xa c hc.1 hc.2
 have h2:=xa o ho.1 ho.2
 have e1:IntKind.u64.wrap (65535-c)=65535-c:=zM _ (by omega) (by omega)
 have e2:IntKind.u64.wrap (65535-o)=65535-o:=zM _ (by omega) (by omega)
 have e3:IntKind.u64.wrap n=n:=zM _ (by omega) (by omega)
 have e4:IntKind.u64.wrap (65535-c+(65535-o))=65535-c+(65535-o):=zM _ (by omega) (by omega)
 have e5:IntKind.u64.wrap (65535-c+(65535-o)+n)=65535-c+(65535-o)+n:=zM _ (by omega) (by omega)
 have hf:=sw (65535-c+(65535-o)+n) (by omega) (by omega)
 have hb:=xD (65535-c+(65535-o)+n) (by omega)
 have hx:=xa _ hb.1 hb.2
 refine z4 {} 0 Tryd.func61 fun Γ hW=>auC ?_
 repeat' first|refine auS ?_|(first|(simp only [sg])|(simp only [h1])|(simp only [h2])|(simp only [e1])|(simp only [e2])|(simp only [e3,e4,e5])|(with_reducible refine z0 hf ?_))|refine auD ?_|(refine auW ?_ ?_<;>intro h<;>try exact auH)|fail
 all_goals try exact auP
 all_goals refine auV ?_
 all_goals try exact z_
 all_goals try simp only [hsM] at *
 all_goals exact y8 hx
theorem ny (t:List UInt8) (i len:Nat) (fu:Bool) (n:Nat) (hi:i+1<len) (hl:len≤t.length) (hm:len≤140737488351232):zy Tryd.prog 98 [.sl 0 n 1 0 len fu,.v (.int .i64 (i:Nat))] [some ⟨n,1,rw8 t⟩] (fun d H=>d=.v (.int .u16 (z3 t i))∧H=[some ⟨n,1,rw8 t⟩]):=by
 have e0:=tG t i (by omega)
 have e1:=tG t (i+1) (by omega)
 have b0:=xC t i
 have b1:=xC t (i+1)
 have c0:IntKind.u16.wrap (bN t i:Nat)=(bN t i:Nat):=uA _ (by omega) (by omega)
 have c1:IntKind.u16.wrap (bN t (i+1):Nat)=(bN t (i+1):Nat):=uA _ (by omega) (by omega)
 have m8:min 8 IntKind.u16.bits=8:=rfl
 have hor:=dV (bN t i) (bN t (i+1)) b0 b1
 have hlen:=wJ t
 have ei:IntKind.i64.wrap ((i:Int)+1)=((i+1:Nat):Int):=by rw [IntWalk.i64_in _ (by omega)];omega
 refine zv {} 0 Tryd.func98 fun Γ hN0 hL0=>auC ?_
 have hn:n<Γ.g0:=hN0 0 _ rfl
 repeat' first|refine auS ?_|(first|(simp only [ei,Int.toNat_natCast,Nat.zero_add,e0,e1])|(simp only [m8,c0,c1])|(simp only [hor]))|refine auD ?_|(refine auW ?_ ?_<;>intro h<;>try exact auH)|fail
 all_goals try exact auP
 refine yI trivial trivial ?_ rfl hn (zj (fun x=>by simp [nfL,nfD])) rfl
 rfl
theorem eO (t:List UInt8) (i len:Nat) (fu:Bool) (n:Nat) (w:Int) (hi:i+1<len) (hl:len≤t.length) (hm:len≤140737488351232):zy Tryd.prog 100 [.sl 0 n 1 0 len fu,.v (.int .i64 (i:Nat)),.v (.int .u16 w)] [some ⟨n,1,rw8 t⟩] (fun d H=>d=.tup []∧H=[some ⟨n,1,rw8 (vg t i w)⟩]):=by
 have e0:=tG t i (by omega)
 have e1:=tG (t.set i (u8 (w / 256))) (i+1) (by simp;omega)
 have s0:=kH t i (w / 256)
 have s1:=kH (t.set i (u8 (w / 256))) (i+1) w
 have m8:min 8 IntKind.u16.bits=8:=rfl
 have hlen:=wJ t
 have hlen1:=(wJ (t.set i (u8 (w / 256)))).trans (List.length_set ..)
 have f8:w.fdiv (2 ^ 8)=w / 256:=Int.fdiv_eq_ediv_of_nonneg _ (by decide)
 have ei:IntKind.i64.wrap ((i:Int)+1)=((i+1:Nat):Int):=by rw [IntWalk.i64_in _ (by omega)];omega
 have sp:∀(a b:DV),yx [a] 0 [b]=[b]:=fun _ _=>rfl
 refine zv {} 0 Tryd.func100 fun Γ hN0 hL0=>auC ?_
 have hn:n<Γ.g0:=hN0 0 _ rfl
 repeat' first|refine auS ?_|(first|(simp only [ei,Int.toNat_natCast,Nat.zero_add,e0])|(simp only [m8,f8])|(simp only [s0])|(simp only [e1])|(simp only [sp])|(simp only [s1]))|refine auD ?_|(refine auW ?_ ?_<;>intro h<;>try exact auH)|(refine za ⟨by rw [hlen1];omega,by trivial,by trivial⟩ ?_)
 all_goals try exact auP
 refine yI trivial trivial ?_ rfl hn (zj (fun x=>by simp [nfL,nfD])) rfl
 rfl
abbrev cS (c:Nat):List DV:=[.v (.int .i64 (c:Nat))]
theorem ee {α β:Type} (f:β→α→β) (a:α) (b:β) (l:List α) (k:Nat) (h:l[k]?=some a):(l.take (k+1)).foldl f b=f ((l.take k).foldl f b) a:=by
 rw [List.take_add_one,h,List.foldl_append];rfl
set_option maxHeartbeats 2000000 in
theorem rl (t:List UInt8) (i len:Nat) (fu:Bool) (n:Nat) (w:Int) (cs:List Nat) (cl:Bool) (hi:i+1<len) (hl:len≤t.length) (hm:len≤140737488351232) (hw:0≤w∧w≤65535) (hcs:∀c∈cs,c+1<len) (hcl:cs.length≤1000):zy Tryd.prog 99 [.sl 0 n 1 0 len fu,.v (.int .i64 (i:Nat)),.v (.int .u16 w),.snap 1 (cs.map cS) cl] [some ⟨n,1,rw8 t⟩] (fun d H=>d=.tup []∧H=[some ⟨n,1,rw8 (chg t i w cs)⟩]):=by
 have hp:=ny t i len fu n hi hl hm
 have hq:=eO t i len fu n w hi hl hm
 have bo:=zo t i
 refine zv {} 0 Tryd.func99 fun Γ hN0 hL0=>auC ?_
 have hn:n<Γ.g0:=hN0 0 _ rfl
 unfold chg
 generalize z3 t i=o at *
 repeat' first|refine auS ?_|(first|((with_reducible refine z7 0 ?_ hp (fun _ _ _ h=>h) ?_);(exact rfl))|((with_reducible refine z7 0 ?_ hq (fun _ _ _ h=>h) ?_);(exact rfl)))|refine auD ?_|(refine auW ?_ ?_<;>intro h<;>try exact auH)|fail
 refine zE (α:=Nat) (fun k=>[(⟨.d0,.d2,.d4⟩,.v (.int .i64 (k:Nat)))]) (fun k=>[(0,some ⟨n,1,rw8 ((cs.take k).foldl (rL o w) (vg t i w))⟩)]) (fun _=>Γ.g0) (fun k=>cs.length-k) (fun k=>k≤cs.length) 0 (Nat.zero_le _) ?_ ?_
 ·skip
  refine zt ?_ ?_ (Nat.le_refl _)
  all_goals first|refine auE ?_|exact zR
  all_goals repeat' first|exact trivial|exact rfl|apply And.intro
 intro k hk
 dsimp only at hk ⊢
 refine auL ?_
 by_cases hlt:k<cs.length
 ·obtain ⟨c,hc⟩:∃c,cs[k]?=some c:=⟨_,List.getElem?_eq_getElem hlt⟩
  have ex:=ye cS cs k c hc
  have hcm:=hcs c (List.mem_of_getElem? hc)
  have hfl:=(oz o w (cs.take k) (vg t i w)).trans (y6 t i w)
  have hsn:=ee (rL o w) c (vg t i w) cs k hc
  generalize (cs.take k).foldl (rL o w) (vg t i w)=tk at *
  have bk:=zo tk c
  have hp2:=ny tk c len fu n hcm (by omega) hm
  have hf2:=oq (z3 tk c) o w bk bo hw
  have hq2:=eO tk c len fu n (wL (z3 tk c) o w) hcm (by omega) hm
  repeat' first|refine auS ?_|(first|(simp only [Int.toNat_natCast,ex])|((with_reducible refine z7 0 ?_ hp2 (fun _ _ _ h=>h) ?_);(exact rfl))|(with_reducible refine z0 hf2 ?_)|((with_reducible refine z7 0 ?_ hq2 (fun _ _ _ h=>h) ?_);(exact rfl)))|refine auD ?_|(refine auW ?_ ?_<;>intro h<;>try exact auH)|fail
  all_goals try exact auP
  refine zp ⟨k+1,hlt,Nat.sub_lt_sub_left hlt (Nat.lt_succ_self k),?_⟩
  rw [hsn]
  refine zt ?_ ?_ (Nat.le_refl _)
  all_goals first|refine auE ?_|exact zR
  all_goals repeat' first|exact trivial|exact rfl|apply And.intro
  all_goals exact y8 ((IntWalk.i64_in _ (by omega)).trans (by omega))
 ·obtain rfl:k=cs.length:=by omega
  rw [List.take_length]
  repeat' first|refine auS ?_|fail|refine auD ?_|(refine auW ?_ ?_<;>intro h<;>try exact auH)|fail
  all_goals try exact auP
  refine yI trivial trivial ?_ rfl hn (zj (fun x=>by simp [nfL,nfD])) rfl
  rfl
end Go.Proofs.YtmibknbmhcnemaaDoor
