import Derived.Test.YtaiileiodjicpaaGreatDoorTt20
set_option linter.unusedVariables false
set_option linter.unusedSimpArgs false
namespace Go.Proofs.YtaiileiodjicpaaGreatDoor
def vM (t:List UInt8) (i:Nat) (n:Int):List UInt8:=(t.set i (u8 (n / 256))).set (i+1) (u8 n)
theorem yu (t:List UInt8) (i:Nat) (n:Int):(vM t i n).length=t.length:=by unfold vM;simp
theorem wK (t:List UInt8) (i:Nat) (n:Int) (h:i+1<t.length) (k:Nat):(vM t i n)[k]?=if k=i then some (u8 (n / 256)) else if k=i+1 then some (u8 n) else t[k]?:=by
 unfold vM
 rw [List.getElem?_set,List.getElem?_set,List.length_set]
 by_cases h1:k=i
 ·rw [if_pos h1,if_neg (by omega),if_pos h1.symm,if_pos (by omega)]
 ·rw [if_neg h1]
  by_cases h2:k=i+1
  ·rw [if_pos h2,if_pos h2.symm,if_pos (by omega)]
  ·rw [if_neg h2,if_neg (by omega),if_neg (by omega)]
theorem wY (t:List UInt8) (i:Nat) (n:Int) (h:i+1<t.length) (h0:0≤n) (h1:n≤65535):z8 (vM t i n) i=n:=by
 unfold z8
 rw [wK t i n h,wK t i n h,if_pos rfl,if_neg (by omega),if_pos rfl]
 show 256*((u8 (n / 256)).toNat:Int)+((u8 n).toNat:Int)=n
 rw [mQ,mQ]
 omega
theorem sd (t:List UInt8) (i k:Nat) (n:Int) (h:i+1<t.length) (hk:k+1<i∨i+1<k):z8 (vM t i n) k=z8 t k:=by
 unfold z8
 rw [wK t i n h,wK t i n h,if_neg (by omega),if_neg (by omega),if_neg (by omega),if_neg (by omega)]
def qa (c o n:Int):Int:=65535-yw ((65535-c)+(65535-o)+n)
theorem qz (c o n:Int) (hc:c≤65535) (ho:o≤65535) (hn:0≤n):0≤qa c o n∧qa c o n≤65535:=by
 have:=uf ((65535-c)+(65535-o)+n) (by omega)
 unfold qa;omega
def qo (o n:Int) (t:List UInt8) (c:Nat):List UInt8:=vM t c (qa (z8 t c) o n)
theorem bQ (o n:Int) (t:List UInt8) (c:Nat):(qo o n t c).length=t.length:=yu _ _ _
def chg (t:List UInt8) (i:Nat) (n:Int) (cs:List Nat):List UInt8:=cs.foldl (qo (z8 t i) n) (vM t i n)
theorem nZ (o n:Int):∀(cs:List Nat) (t:List UInt8),(cs.foldl (qo o n) t).length=t.length
 |[],t=>rfl
 |c::r,t=>by rw [List.foldl_cons,nZ o n r,bQ]
theorem vL (t:List UInt8) (i:Nat) (n:Int) (cs:List Nat):(chg t i n cs).length=t.length:=by unfold chg;rw [nZ,yu]
def eW (c:Int):List Int→Int
 |o::n::r=>eW (qa c o n) r
 |_=>c
def ckI (p:Int):Nat:=if p=17 then 6 else 16
def swN (s:List UInt8) (h:Nat) (p:Int):Bool:=decide (p=17∧z8 s (h+ckI p)=0)
def swC (s:List UInt8) (h:Nat) (p:Int):List Nat:=if swN s h p=true then [] else [h+ckI p]
def sw3 (s:List UInt8) (h:Nat) (p a port:Int) (at' off:Nat):List UInt8:=
 chg (chg (chg s at' (a / 65536) (10::swC s h p)) (at'+2) (a % 65536) (10::swC s h p)) (h+off) port (swC s h p)
def sw4 (s:List UInt8) (h:Nat) (p a port:Int) (at' off:Nat):List UInt8:=
 if p=17∧swN s h p=false∧z8 (sw3 s h p a port at' off) (h+ckI p)=0 then vM (sw3 s h p a port at' off) (h+ckI p) 65535 else sw3 s h p a port at' off
def noZ (p c:Int):Int:=if p=17∧c=0 then 65535 else c
def rnC (s:List UInt8) (h:Nat) (p a port:Int) (at' off:Nat):Int:=
 if p=6∨0<z8 s (h+ckI p) then
  noZ p (eW (z8 s (h+ckI p)) [z8 s at',a / 65536,z8 s (at'+2),a % 65536,z8 s (h+off),port])
 else z8 s (h+ckI p)
def rnT (s:List UInt8) (a:Int) (at':Nat):Int:=eW (z8 s 10) [z8 s at',a / 65536,z8 s (at'+2),a % 65536]
def rnW (s:List UInt8) (h:Nat) (p a port:Int) (at' off:Nat):List UInt8:=
 vM (vM (vM (vM (vM s 10 (rnT s a at')) at' (a / 65536)) (at'+2) (a % 65536)) (h+off) port) (h+ckI p) (rnC s h p a port at' off)
theorem kL (c o n:Int) (r:List Int):eW c (o::n::r)=eW (qa c o n) r:=rfl
theorem XL (t:List UInt8) (i:Nat) (h:i+1<t.length):vM t i (z8 t i)=t:=by
 refine List.ext_getElem? fun k=>?_
 have b1:=(t[i]?.getD 0).toNat_lt
 have b2:=(t[i+1]?.getD 0).toNat_lt
 have e1:u8 (z8 t i / 256)=t[i]?.getD 0:=by
  apply UInt8.toNat_inj.1
  have:=mQ (z8 t i / 256)
  unfold z8 at this ⊢
  omega
 have e2:u8 (z8 t i)=t[i+1]?.getD 0:=by
  apply UInt8.toNat_inj.1
  have:=mQ (z8 t i)
  unfold z8 at this ⊢
  omega
 rw [wK t i _ h,e1,e2]
 split
 ·rename_i hk;rw [hk,List.getElem?_eq_getElem (by omega:i<t.length)];rfl
 split
 ·rename_i hk;rw [hk,List.getElem?_eq_getElem h];rfl
 ·rfl
theorem WE {p c:Int} (h:p=17∧c=0):noZ p c=65535:=by unfold noZ;rw [if_pos h]
theorem W6 {p c:Int} (h:¬(p=17∧c=0)):noZ p c=c:=by unfold noZ;rw [if_neg h]
theorem gh (t:List UInt8) (i:Nat) (w:Int) (h:i+1<t.length) (hw:w=z8 t i):vM t i w=t:=by rw [hw,XL t i h]
set_option maxHeartbeats 4000000 in
theorem UC (s:List UInt8) (h:Nat) (p a port:Int) (at' off:Nat) (hp:p=6∨p=17) (hh:20≤h) (hl:h+ckI p+1<s.length) (ha:0≤a∧a<4294967296) (hq:0≤port∧port≤65535) (hao:(at'=12∧off=0)∨(at'=16∧off=2)):sw4 s h p a port at' off=rnW s h p a port at' off:=by
 have hc:6≤ckI p:=by unfold ckI;split<;>omega
 have b1:=zD s 10
 have b2:=zD s at'
 have b3:=zD s (at'+2)
 have b4:=zD s (h+ckI p)
 have b5:=zD s (h+off)
 have t1:=qz (z8 s 10) (z8 s at') (a / 65536) b1.2 b2.2 (by omega)
 have t2:=qz (qa (z8 s 10) (z8 s at') (a / 65536)) (z8 s (at'+2)) (a % 65536) t1.2 b3.2 (by omega)
 have c1:=qz (z8 s (h+ckI p)) (z8 s at') (a / 65536) b4.2 b2.2 (by omega)
 have c2:=qz (qa (z8 s (h+ckI p)) (z8 s at') (a / 65536)) (z8 s (at'+2)) (a % 65536) c1.2 b3.2 (by omega)
 have c3:=qz (qa (qa (z8 s (h+ckI p)) (z8 s at') (a / 65536)) (z8 s (at'+2)) (a % 65536)) (z8 s (h+off)) port c2.2 b5.2 (by omega)
 by_cases hn:swN s h p=true
 ·have hn':=hn
  unfold swN at hn'
  obtain ⟨rfl,hw⟩:=of_decide_eq_true hn'
  have e1:swC s h 17=[]:=by unfold swC;rw [if_pos hn]
  have e2:rnC s h 17 a port at' off=z8 s (h+ckI 17):=by unfold rnC;rw [if_neg (by omega)]
  unfold sw4 rnW
  rw [if_neg (by rw [hn];simp),e2]
  unfold sw3 rnT
  rw [e1]
  simp only [chg,List.foldl_cons,List.foldl_nil,qo,kL,eW]
  generalize hp17:(17:Int)=p at *
  rcases hao with ⟨rfl,rfl⟩|⟨rfl,rfl⟩
  ·simp (disch:=(first|omega|(simp only [yu];omega))) only [wY,sd]
   refine Eq.trans ?_ (gh _ _ _ ?_ ?_).symm
   rotate_left
   ·simp only [yu];omega
   ·simp (disch:=(first|omega|(simp only [yu];omega))) only [wY,sd]
   refine List.ext_getElem? fun k=>?_
   repeat rw [wK]
   all_goals first
    |omega
    |(simp only [yu];omega)
    |skip
   rcases (by omega:k=h+ckI p∨k=h+ckI p+1∨k=10∨k=11∨k=12∨k=12+1∨k=12+2∨k=12+3∨k=h+0∨k=h+0+1∨(k≠h+ckI p∧k≠h+ckI p+1∧k≠10∧k≠11∧k≠12∧k≠12+1∧k≠12+2∧k≠12+3∧k≠h+0∧k≠h+0+1)) with hk|hk|hk|hk|hk|hk|hk|hk|hk|hk|hk
   all_goals simp (disch:=omega) only [if_pos,if_neg]
  ·simp (disch:=(first|omega|(simp only [yu];omega))) only [wY,sd]
   refine Eq.trans ?_ (gh _ _ _ ?_ ?_).symm
   rotate_left
   ·simp only [yu];omega
   ·simp (disch:=(first|omega|(simp only [yu];omega))) only [wY,sd]
   refine List.ext_getElem? fun k=>?_
   repeat rw [wK]
   all_goals first
    |omega
    |(simp only [yu];omega)
    |skip
   rcases (by omega:k=h+ckI p∨k=h+ckI p+1∨k=10∨k=11∨k=16∨k=16+1∨k=16+2∨k=16+3∨k=h+2∨k=h+2+1∨(k≠h+ckI p∧k≠h+ckI p+1∧k≠10∧k≠11∧k≠16∧k≠16+1∧k≠16+2∧k≠16+3∧k≠h+2∧k≠h+2+1)) with hk|hk|hk|hk|hk|hk|hk|hk|hk|hk|hk
   all_goals simp (disch:=omega) only [if_pos,if_neg]
 ·have e1:swC s h p=[h+ckI p]:=by unfold swC;rw [if_neg hn]
  have hn':¬(p=17∧z8 s (h+ckI p)=0):=by unfold swN at hn;simpa using hn
  have hf:swN s h p=false:=by simpa using hn
  have h3:z8 (sw3 s h p a port at' off) (h+ckI p)=qa (qa (qa (z8 s (h+ckI p)) (z8 s at') (a / 65536)) (z8 s (at'+2)) (a % 65536)) (z8 s (h+off)) port:=by
   unfold sw3
   rw [e1]
   simp only [chg,List.foldl_cons,List.foldl_nil,qo]
   rcases hao with ⟨rfl,rfl⟩|⟨rfl,rfl⟩
   all_goals simp (disch:=(first|omega|(simp only [yu];omega))) only [wY,sd]
  unfold sw4 rnW rnC
  rw [h3,if_pos (by omega:p=6∨0<z8 s (h+ckI p))]
  simp only [kL,eW,rnT,hf,true_and]
  split
  all_goals
   rename_i hx
   first
    |rw [WE hx]
    |rw [W6 hx]
   clear hx
   unfold sw3
   rw [e1]
   simp only [chg,List.foldl_cons,List.foldl_nil,qo]
   rcases hao with ⟨rfl,rfl⟩|⟨rfl,rfl⟩
   ·simp (disch:=(first|omega|(simp only [yu];omega))) only [wY,sd]
    refine List.ext_getElem? fun k=>?_
    repeat rw [wK]
    all_goals first
     |omega
     |(simp only [yu];omega)
     |skip
    rcases (by omega:k=h+ckI p∨k=h+ckI p+1∨k=10∨k=11∨k=12∨k=12+1∨k=12+2∨k=12+3∨k=h+0∨k=h+0+1∨(k≠h+ckI p∧k≠h+ckI p+1∧k≠10∧k≠11∧k≠12∧k≠12+1∧k≠12+2∧k≠12+3∧k≠h+0∧k≠h+0+1)) with hk|hk|hk|hk|hk|hk|hk|hk|hk|hk|hk
    all_goals simp (disch:=omega) only [if_pos,if_neg]
   ·simp (disch:=(first|omega|(simp only [yu];omega))) only [wY,sd]
    refine List.ext_getElem? fun k=>?_
    repeat rw [wK]
    all_goals first
     |omega
     |(simp only [yu];omega)
     |skip
    rcases (by omega:k=h+ckI p∨k=h+ckI p+1∨k=10∨k=11∨k=16∨k=16+1∨k=16+2∨k=16+3∨k=h+2∨k=h+2+1∨(k≠h+ckI p∧k≠h+ckI p+1∧k≠10∧k≠11∧k≠16∧k≠16+1∧k≠16+2∧k≠16+3∧k≠h+2∧k≠h+2+1)) with hk|hk|hk|hk|hk|hk|hk|hk|hk|hk|hk
    all_goals simp (disch:=omega) only [if_pos,if_neg]
end Go.Proofs.YtaiileiodjicpaaGreatDoor
namespace Go.Proofs.YtaiileiodjicpaaGreatDoor
def rw8 (t:List UInt8):List (List DV):=t.map (fun b=>[.v (.int .u8 (b.toNat:Int))])
theorem wm (t:List UInt8):yp (mkS t)=rw8 t:=rfl
theorem UT (a:Int):IntKind.u8.wrap a=((u8 a).toNat:Int):=by rw [mQ,IntKind.wrap_u8]
theorem ov:∀t:List UInt8,uJ (rw8 t)=true
 |[]=>rfl
 |a::r=>by
  have:=ov r
  simp only [rw8,List.map_cons,uJ] at this ⊢
  first
   |exact this
   |(rw [this];rfl)
theorem cZ (t:List UInt8):td (rw8 t)=mkS t:=by
 rw [ZD]
 unfold rw8
 rw [List.map_map]
 refine congrArg mkS ?_
 conv=>rhs;rw [←List.map_id t]
 refine List.map_congr_left fun a _=>?_
 show UInt8.ofNat ((a.toNat:Int)).toNat=a
 simp
theorem vh (t:List UInt8):(rw8 t).length=t.length:=List.length_map _
end Go.Proofs.YtaiileiodjicpaaGreatDoor
namespace Go.Proofs.YtaiileiodjicpaaGreatDoor
attribute [local irreducible] zF Go
set_option maxRecDepth 100000
theorem sx (t:List UInt8) (i:Nat) (h:i<t.length):yo (rw8 t) i=[.v (.int .u8 (bN t i:Nat))]:=by
 obtain ⟨b,hb⟩:∃b,t[i]?=some b:=⟨_,List.getElem?_eq_getElem h⟩
 rw [Xo hb]
 exact ye (fun b:UInt8=>[.v (.int .u8 (b.toNat:Int))]) t i b hb
theorem f9 (t:List UInt8) (i:Nat) (a:Int):ux (rw8 t) i [.v (.int .u8 (IntKind.u8.wrap a))]=rw8 (t.set i (u8 a)):=by
 rw [UT]
 exact X9 (fun b:UInt8=>[DV.v (.int .u8 (b.toNat:Int))]) t i (u8 a)
theorem tv (n:Int) (h0:0≤n) (h1:n<2 ^ 16):IntKind.u16.wrap n=n:=IntWalk.u16_in _ (by omega)
theorem Yb (a b:Nat) (ha:a<256) (hb:b<256):bits .or .u16 (IntKind.u16.wrap ((a:Int)*2 ^ 8)) (b:Nat)=256*(a:Int)+(b:Nat):=by
 rw [tv _ (by omega) (by omega),bits_join .u16 16 (by decide) tv 8 _ _ (by omega) (by omega) (by omega) (by omega) (by omega) (by omega)]
 omega
theorem ma (c o n:Int) (hc:0≤c∧c≤65535) (ho:0≤o∧o≤65535) (hn:0≤n∧n≤65535):zi Tryz.prog 103 [.v (.int .u16 c),.v (.int .u16 o),.v (.int .u16 n)] (.v (.int .u16 (qa c o n))):=by
 have sg:IntKind.u16.signed=false:=rfl
 have h1:=xK c hc.1 hc.2
 have h2:=xK o ho.1 ho.2
 have e1:IntKind.u64.wrap (65535-c)=65535-c:=yc _ (by omega) (by omega)
 have e2:IntKind.u64.wrap (65535-o)=65535-o:=yc _ (by omega) (by omega)
 have e3:IntKind.u64.wrap n=n:=yc _ (by omega) (by omega)
 have e4:IntKind.u64.wrap (65535-c+(65535-o))=65535-c+(65535-o):=yc _ (by omega) (by omega)
 have e5:IntKind.u64.wrap (65535-c+(65535-o)+n)=65535-c+(65535-o)+n:=yc _ (by omega) (by omega)
 have hf:=re (65535-c+(65535-o)+n) (by omega) (by omega)
 have hb:=uf (65535-c+(65535-o)+n) (by omega)
 have hx:=xK _ hb.1 hb.2
 refine z7 {} 0 Tryz.func103 fun Γ hW=>auC ?_
 repeat' first|refine auS ?_|(first|(simp only [sg])|(simp only [h1])|(simp only [h2])|(simp only [e1])|(simp only [e2])|(simp only [e3,e4,e5])|(with_reducible refine z6 hf ?_))|refine auD ?_|(refine auW ?_ ?_<;>intro h<;>try exact auH)|fail
 all_goals try exact auP
 all_goals refine auV ?_
 all_goals try exact zc
 all_goals try simp only [hsM] at *
 all_goals exact yd hx
theorem mn (t:List UInt8) (i len:Nat) (fu:Bool) (n:Nat) (hi:i+1<len) (hl:len≤t.length) (hm:len≤140737488351232):zE Tryz.prog 166 [.sl 0 n 1 0 len fu,.v (.int .i64 (i:Nat))] [some ⟨n,1,rw8 t⟩] (fun d H=>d=.v (.int .u16 (z8 t i))∧H=[some ⟨n,1,rw8 t⟩]):=by
 have e0:=sx t i (by omega)
 have e1:=sx t (i+1) (by omega)
 have b0:=w_ t i
 have b1:=w_ t (i+1)
 have c0:IntKind.u16.wrap (bN t i:Nat)=(bN t i:Nat):=tv _ (by omega) (by omega)
 have c1:IntKind.u16.wrap (bN t (i+1):Nat)=(bN t (i+1):Nat):=tv _ (by omega) (by omega)
 have m8:min 8 IntKind.u16.bits=8:=rfl
 have hor:=Yb (bN t i) (bN t (i+1)) b0 b1
 have hlen:=vh t
 have ei:IntKind.i64.wrap ((i:Int)+1)=((i+1:Nat):Int):=by rw [IntWalk.i64_in _ (by omega)];omega
 refine zp {} 0 Tryz.func166 fun Γ hN0 hL0=>auC ?_
 have hn:n<Γ.g0:=hN0 0 _ rfl
 repeat' first|refine auS ?_|(first|(simp only [ei,Int.toNat_natCast,Nat.zero_add,e0,e1])|(simp only [m8,c0,c1])|(simp only [hor]))|refine auD ?_|(refine auW ?_ ?_<;>intro h<;>try exact auH)|fail
 all_goals try exact auP
 refine zU trivial trivial ?_ rfl hn (zl (fun x=>by simp [nfL,nfD])) rfl
 rfl
theorem aV (t:List UInt8) (i len:Nat) (fu:Bool) (n:Nat) (w:Int) (hi:i+1<len) (hl:len≤t.length) (hm:len≤140737488351232):zE Tryz.prog 168 [.sl 0 n 1 0 len fu,.v (.int .i64 (i:Nat)),.v (.int .u16 w)] [some ⟨n,1,rw8 t⟩] (fun d H=>d=.tup []∧H=[some ⟨n,1,rw8 (vM t i w)⟩]):=by
 have e0:=sx t i (by omega)
 have e1:=sx (t.set i (u8 (w / 256))) (i+1) (by simp;omega)
 have s0:=f9 t i (w / 256)
 have s1:=f9 (t.set i (u8 (w / 256))) (i+1) w
 have m8:min 8 IntKind.u16.bits=8:=rfl
 have hlen:=vh t
 have hlen1:=(vh (t.set i (u8 (w / 256)))).trans (List.length_set ..)
 have f8:w.fdiv (2 ^ 8)=w / 256:=Int.fdiv_eq_ediv_of_nonneg _ (by decide)
 have ei:IntKind.i64.wrap ((i:Int)+1)=((i+1:Nat):Int):=by rw [IntWalk.i64_in _ (by omega)];omega
 have sp:∀(a b:DV),yK [a] 0 [b]=[b]:=fun _ _=>rfl
 refine zp {} 0 Tryz.func168 fun Γ hN0 hL0=>auC ?_
 have hn:n<Γ.g0:=hN0 0 _ rfl
 repeat' first|refine auS ?_|(first|(simp only [ei,Int.toNat_natCast,Nat.zero_add,e0])|(simp only [m8,f8])|(simp only [s0])|(simp only [e1])|(simp only [sp])|(simp only [s1]))|refine auD ?_|(refine auW ?_ ?_<;>intro h<;>try exact auH)|(refine zf ⟨by rw [hlen1];omega,by trivial,by trivial⟩ ?_)
 all_goals try exact auP
 refine zU trivial trivial ?_ rfl hn (zl (fun x=>by simp [nfL,nfD])) rfl
 rfl
abbrev Zm (c:Nat):List DV:=[.v (.int .i64 (c:Nat))]
theorem ax {α β:Type} (f:β→α→β) (a:α) (b:β) (l:List α) (k:Nat) (h:l[k]?=some a):(l.take (k+1)).foldl f b=f ((l.take k).foldl f b) a:=by
 rw [List.take_add_one,h,List.foldl_append];rfl
set_option maxHeartbeats 2000000 in
theorem p5 (t:List UInt8) (i len:Nat) (fu:Bool) (n:Nat) (w:Int) (cs:List Nat) (cl:Bool) (hi:i+1<len) (hl:len≤t.length) (hm:len≤140737488351232) (hw:0≤w∧w≤65535) (hcs:∀c∈cs,c+1<len) (hcl:cs.length≤1000):zE Tryz.prog 167 [.sl 0 n 1 0 len fu,.v (.int .i64 (i:Nat)),.v (.int .u16 w),.snap 1 (cs.map Zm) cl] [some ⟨n,1,rw8 t⟩] (fun d H=>d=.tup []∧H=[some ⟨n,1,rw8 (chg t i w cs)⟩]):=by
 have hp:=mn t i len fu n hi hl hm
 have hq:=aV t i len fu n w hi hl hm
 have bo:=zD t i
 refine zp {} 0 Tryz.func167 fun Γ hN0 hL0=>auC ?_
 have hn:n<Γ.g0:=hN0 0 _ rfl
 unfold chg
 generalize z8 t i=o at *
 repeat' first|refine auS ?_|(first|((with_reducible refine z_ 0 ?_ hp (fun _ _ _ h=>h) ?_);(exact rfl))|((with_reducible refine z_ 0 ?_ hq (fun _ _ _ h=>h) ?_);(exact rfl)))|refine auD ?_|(refine auW ?_ ?_<;>intro h<;>try exact auH)|fail
 refine zw (α:=Nat) (fun k=>[(⟨.d0,.d2,.d4⟩,.v (.int .i64 (k:Nat)))]) (fun k=>[(0,some ⟨n,1,rw8 ((cs.take k).foldl (qo o w) (vM t i w))⟩)]) (fun _=>Γ.g0) (fun k=>cs.length-k) (fun k=>k≤cs.length) 0 (Nat.zero_le _) ?_ ?_
 ·skip
  refine zo ?_ ?_ (Nat.le_refl _)
  all_goals first|refine auE ?_|exact zK
  all_goals repeat' first|exact trivial|exact rfl|apply And.intro
 intro k hk
 dsimp only at hk ⊢
 refine auL ?_
 by_cases hlt:k<cs.length
 ·obtain ⟨c,hc⟩:∃c,cs[k]?=some c:=⟨_,List.getElem?_eq_getElem hlt⟩
  have ex:=ye Zm cs k c hc
  have hcm:=hcs c (List.mem_of_getElem? hc)
  have hfl:=(nZ o w (cs.take k) (vM t i w)).trans (yu t i w)
  have hsn:=ax (qo o w) c (vM t i w) cs k hc
  generalize (cs.take k).foldl (qo o w) (vM t i w)=tk at *
  have bk:=zD tk c
  have hp2:=mn tk c len fu n hcm (by omega) hm
  have hf2:=ma (z8 tk c) o w bk bo hw
  have hq2:=aV tk c len fu n (qa (z8 tk c) o w) hcm (by omega) hm
  repeat' first|refine auS ?_|(first|(simp only [Int.toNat_natCast,ex])|((with_reducible refine z_ 0 ?_ hp2 (fun _ _ _ h=>h) ?_);(exact rfl))|(with_reducible refine z6 hf2 ?_)|((with_reducible refine z_ 0 ?_ hq2 (fun _ _ _ h=>h) ?_);(exact rfl)))|refine auD ?_|(refine auW ?_ ?_<;>intro h<;>try exact auH)|fail
  all_goals try exact auP
  refine zn ⟨k+1,hlt,Nat.sub_lt_sub_left hlt (Nat.lt_succ_self k),?_⟩
  rw [hsn]
  refine zo ?_ ?_ (Nat.le_refl _)
  all_goals first|refine auE ?_|exact zK
  all_goals repeat' first|exact trivial|exact rfl|apply And.intro
  all_goals exact yd ((IntWalk.i64_in _ (by omega)).trans (by omega))
 ·obtain rfl:k=cs.length:=by omega
  rw [List.take_length]
  repeat' first|refine auS ?_|fail|refine auD ?_|(refine auW ?_ ?_<;>intro h<;>try exact auH)|fail
  all_goals try exact auP
  refine zU trivial trivial ?_ rfl hn (zl (fun x=>by simp [nfL,nfD])) rfl
  rfl
end Go.Proofs.YtaiileiodjicpaaGreatDoor
