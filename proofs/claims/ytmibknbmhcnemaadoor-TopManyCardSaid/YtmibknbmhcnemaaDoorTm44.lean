import Derived.Test.YtmibknbmhcnemaaDoorTm43
set_option linter.unusedVariables false
set_option linter.unusedSimpArgs false
namespace Go.Proofs.YtmibknbmhcnemaaDoor
def W14 (w0 w1 w2 w3 w4 w5 w6 w7 w8 w9 wa wb wc wd':Int) (c:UInt8):List UInt8:=
 wd w0++(wd w1++(wd w2++(wd w3++(wd w4++(wd w5++(wd w6++(wd w7++(wd w8++(wd w9++(wd wa++(wd wb++(wd wc++(wd wd'++[c])))))))))))))
theorem rf {n:Int} (h:0≤n∧n≤65535):256*((u8 (n / 256)).toNat:Int)+((u8 n).toNat:Int)=n:=by
 rw [vu,vu]
 omega
abbrev w16 (n:Int):Prop:=0≤n∧n≤65535
structure Cp where
 (lf a b f t k1 k2:Int) (c:UInt8)
def Cp.txt (p:Cp):List UInt8:=W14 17664 29 0 0 (256*p.lf+17) p.k1 (p.a / 65536) (p.a % 65536) (p.b / 65536) (p.b % 65536) p.f p.t 9 p.k2 p.c
def Cp.s1 (p:Cp):Int:=17693+(256*p.lf+17)+p.k1+p.a / 65536+p.a % 65536+p.b / 65536+p.b % 65536
def Cp.s2 (p:Cp):Int:=p.a / 65536+p.a % 65536+p.b / 65536+p.b % 65536+35+p.f+p.t+p.k2+256*(p.c.toNat:Int)
structure Cp.ok (p:Cp):Prop where
 lf:2≤p.lf∧p.lf≤200
 a:0≤p.a∧p.a<4294967296
 b:0≤p.b∧p.b<4294967296
 f:w16 p.f
 t:w16 p.t
 k1:w16 p.k1
 k2:w16 p.k2
 h1:p.s1 % 65535=0
 h2:p.s2 % 65535=0
theorem oQ {m:Int} (h:0<m) (h1:m % 65535=0):zI m=65535:=by
 unfold zI
 rw [if_neg (by omega)]
 omega
theorem sn (m:Int):zI m % 65535=m % 65535:=by
 unfold zI
 split
 ·omega
 ·omega
theorem tW (c o n:Int):wL c o n % 65535=(c+o-n) % 65535:=by
 have:=sn ((65535-c)+(65535-o)+n)
 unfold wL
 omega
section
variable {w0 w1 w2 w3 w4 w5 w6 w7 w8 w9 wa wb wc we:Int} {c:UInt8}
theorem kR (h:w16 w1):z3 (W14 w0 w1 w2 w3 w4 w5 w6 w7 w8 w9 wa wb wc we c) 2=w1:=rf h
theorem YV (h:w16 w2):z3 (W14 w0 w1 w2 w3 w4 w5 w6 w7 w8 w9 wa wb wc we c) 4=w2:=rf h
theorem ZR (h:w16 w3):z3 (W14 w0 w1 w2 w3 w4 w5 w6 w7 w8 w9 wa wb wc we c) 6=w3:=rf h
theorem YS (h:w16 w4):z3 (W14 w0 w1 w2 w3 w4 w5 w6 w7 w8 w9 wa wb wc we c) 8=w4:=rf h
theorem im (h:w16 w5):z3 (W14 w0 w1 w2 w3 w4 w5 w6 w7 w8 w9 wa wb wc we c) 10=w5:=rf h
theorem cC (h:w16 w6):z3 (W14 w0 w1 w2 w3 w4 w5 w6 w7 w8 w9 wa wb wc we c) 12=w6:=rf h
theorem bL (h:w16 w7):z3 (W14 w0 w1 w2 w3 w4 w5 w6 w7 w8 w9 wa wb wc we c) 14=w7:=rf h
theorem cb (h:w16 w8):z3 (W14 w0 w1 w2 w3 w4 w5 w6 w7 w8 w9 wa wb wc we c) 16=w8:=rf h
theorem cJ (h:w16 w9):z3 (W14 w0 w1 w2 w3 w4 w5 w6 w7 w8 w9 wa wb wc we c) 18=w9:=rf h
theorem Yp (h:w16 wa):z3 (W14 w0 w1 w2 w3 w4 w5 w6 w7 w8 w9 wa wb wc we c) 20=wa:=rf h
theorem Ys (h:w16 wb):z3 (W14 w0 w1 w2 w3 w4 w5 w6 w7 w8 w9 wa wb wc we c) 22=wb:=rf h
theorem b7 (h:w16 we):z3 (W14 w0 w1 w2 w3 w4 w5 w6 w7 w8 w9 wa wb wc we c) 26=we:=rf h
end
theorem iR (p:Cp):hN p.txt=20:=by
 show 4*((u8 (17664 / 256)).toNat % 16)=20
 decide
theorem ZM {p:Cp} (h:p.ok):rdP p.txt=⟨0,0,false,false,0,p.lf,17,p.a,p.b,[],wd p.f++(wd p.t++(wd 9++(wd p.k2++[p.c])))⟩:=by
 obtain ⟨⟨l1,l2⟩,⟨a1,a2⟩,⟨b1,b2⟩,hf,ht,hk1,hk2,-,-⟩:=h
 have e1:z3 p.txt 6=0:=ZR (by decide)
 have e2:z3 p.txt 4=0:=YV (by decide)
 have e3:z3 p.txt 2=29:=kR (by decide)
 have e4:wY p.txt 12=p.a:=by
  unfold wY
  rw [show z3 p.txt 12=p.a / 65536 from cC (by unfold w16;omega),show z3 p.txt (12+2)=p.a % 65536 from bL (by unfold w16;omega)]
  omega
 have e5:wY p.txt 16=p.b:=by
  unfold wY
  rw [show z3 p.txt 16=p.b / 65536 from cb (by unfold w16;omega),show z3 p.txt (16+2)=p.b % 65536 from cJ (by unfold w16;omega)]
  omega
 have e6:((bN p.txt 8:Nat):Int)=p.lf:=by
  have:bN p.txt 8=(u8 ((256*p.lf+17) / 256)).toNat:=rfl
  rw [this,vu]
  omega
 have e7:((bN p.txt 9:Nat):Int)=17:=by
  have:bN p.txt 9=(u8 (256*p.lf+17)).toNat:=rfl
  rw [this,vu]
  omega
 have e8:=iR p
 have e9:((bN p.txt 1:Nat):Int)=0:=rfl
 unfold rdP
 rw [e1,e2,e3,e4,e5,e6,e7,e8,e9]
 rfl
theorem zn (n:Int) (h:w16 n) (l:List UInt8):y4 (wd n++l)=n+y4 l:=by
 show 256*((u8 (n / 256)).toNat:Int)+((u8 n).toNat:Int)+y4 l=_
 rw [rf h]
theorem Yq {p:Cp} (h:p.ok):y4 (p.txt.take 20)=p.s1:=by
 obtain ⟨⟨l1,l2⟩,⟨a1,a2⟩,⟨b1,b2⟩,hf,ht,hk1,hk2,-,-⟩:=h
 have e:p.txt.take 20=wd 17664++(wd 29++(wd 0++(wd 0++(wd (256*p.lf+17)++(wd p.k1++(wd (p.a / 65536)++(wd (p.a % 65536)++(wd (p.b / 65536)++(wd (p.b % 65536)++[]))))))))):=rfl
 rw [e,zn _ (by decide),zn _ (by decide),zn _ (by decide),zn _ (by decide),zn _ (by unfold w16;omega),zn _ hk1,zn _ (by unfold w16;omega),zn _ (by unfold w16;omega),zn _ (by unfold w16;omega),zn _ (by unfold w16;omega)]
 unfold Cp.s1 y4
 omega
theorem ZH {p:Cp} (h:p.ok):yd p.txt=0:=by
 have hr:=ZM h
 have hs:=Yq h
 obtain ⟨⟨l1,l2⟩,⟨a1,a2⟩,⟨b1,b2⟩,hf,ht,hk1,hk2,h1,-⟩:=h
 have e1:z3 p.txt 6=0:=ZR (by decide)
 have e3:z3 p.txt 2=29:=kR (by decide)
 have e8:=iR p
 have e0:bN p.txt 0=69:=by
  show (u8 (17664 / 256)).toNat=69
  decide
 have el:p.txt.length=29:=rfl
 have hp:r8 (rdP p.txt)=0:=by
  rw [hr]
  unfold r8
  rw [if_neg (not_not_intro ?_),if_neg (not_not_intro ?_),if_neg ?_]
  ·dsimp only
   show ¬65515<9+0
   decide
  ·intro q
   cases q
  ·exact ⟨(by decide:(0:Int)≤0∧(0:Int)≤255),⟨by dsimp only;omega,by dsimp only;omega⟩,(by decide:(0:Int)≤17∧(17:Int)≤255),(by decide:(0:Int)≤0∧(0:Int)≤65535),(by decide:(0:Int)≤0∧(0:Int)≤8191),(by decide:0≤40),(by decide:0 % 4=0)⟩
 unfold yd
 rw [e1,e3,e8,e0,el,hs,if_neg (by decide),if_neg (by decide),if_neg (not_not_intro hp),if_neg (not_not_intro (oQ ?_ h1))]
 unfold Cp.s1
 omega
theorem mE {p:Cp} (h:p.ok):edR p.txt=(⟨p.a,p.b,17,p.f,p.t⟩,0):=by
 have hr:=ZM h
 have he:=ZH h
 obtain ⟨⟨l1,l2⟩,⟨a1,a2⟩,⟨b1,b2⟩,hf,ht,hk1,hk2,-,h2⟩:=h
 unfold edR
 rw [he,if_pos rfl,hr]
 unfold edP
 dsimp only
 have e0:z3 (wd p.f++(wd p.t++(wd 9++(wd p.k2++[p.c])))) 0=p.f:=rf hf
 have e2:z3 (wd p.f++(wd p.t++(wd 9++(wd p.k2++[p.c])))) 2=p.t:=rf ht
 have e4:z3 (wd p.f++(wd p.t++(wd 9++(wd p.k2++[p.c])))) 4=9:=rfl
 have hl:(rdL (wd p.f++(wd p.t++(wd 9++(wd p.k2++[p.c])))) p.a p.b).2=0:=by
  have hk:iJ (wd p.f++(wd p.t++(wd 9++(wd p.k2++[p.c])))) p.a p.b:=by
   right
   rw [e4]
   have e:und p.a p.b 17 9++(wd p.f++(wd p.t++(wd 9++(wd p.k2++[p.c])))).take (9:Int).toNat=wd (p.a / 65536)++(wd p.a++(wd (p.b / 65536)++(wd p.b++(wd 17++(wd 9++(wd p.f++(wd p.t++(wd 9++(wd p.k2++[p.c]))))))))):=rfl
   rw [e,←tK p.a,←tK p.b,zn _ (by unfold w16;omega),zn _ (by unfold w16;omega),zn _ (by unfold w16;omega),zn _ (by unfold w16;omega),zn _ (by decide),zn _ (by decide),zn _ hf,zn _ ht,zn _ (by decide),zn _ hk2]
   unfold Cp.s2 at h2
   have:=p.c.toNat_lt
   refine oQ ?_ ?_
   ·unfold y4
    omega
   ·unfold y4
    rw [←h2]
    congr 1
    omega
  unfold rdL
  rw [e4,show (wd p.f++(wd p.t++(wd 9++(wd p.k2++[p.c])))).length=9 from rfl,if_neg (by decide),if_neg (by decide),if_neg (not_not_intro hk)]
 rw [if_neg (by decide),if_neg (by decide),if_neg (by decide),if_pos hl,e0,e2]
def Cp.hop (p:Cp):Cp:={ p with lf:=p.lf-1,k1:=65535-zI (65535-p.k1+(65535-(256*p.lf+17))+(256*p.lf+17-256)) }
theorem l6 {p:Cp} (h:p.ok) (h3:3≤p.lf):H.tj p.txt=(p.hop.txt,0)∧p.hop.ok:=by
 have he:=ZH h
 obtain ⟨⟨l1,l2⟩,⟨a1,a2⟩,⟨b1,b2⟩,hf,ht,hk1,hk2,h1,h2⟩:=h
 have e8:z3 p.txt 8=256*p.lf+17:=YS (by unfold w16;omega)
 have e10:z3 p.txt 10=p.k1:=im hk1
 have e2:z3 p.txt 2=29:=kR (by decide)
 have eb:((bN p.txt 8:Nat):Int)=p.lf:=by
  have:bN p.txt 8=(u8 ((256*p.lf+17) / 256)).toNat:=rfl
  rw [this,vu]
  omega
 have hb:=xD (65535-p.k1+(65535-(256*p.lf+17))+(256*p.lf+17-256)) (by omega)
 have hm:=sn (65535-p.k1+(65535-(256*p.lf+17))+(256*p.lf+17-256))
 refine ⟨?_,⟨by unfold Cp.hop;dsimp only;omega,⟨a1,a2⟩,⟨b1,b2⟩,hf,ht,by unfold Cp.hop w16;dsimp only;omega,hk2,?_,h2⟩⟩
 ·unfold H.tj
  rw [show rpR p.txt=(rdP p.txt,0) by unfold rpR;rw [he,if_pos rfl],if_neg (not_not_intro rfl),if_neg (by omega)]
  unfold H.cO H.nz
  rw [e8,e10,e2]
  unfold Cp.hop
  show (_,(0:Int))=_
  rw [show 256*p.lf+17-256=256*(p.lf-1)+17 by omega]
  rfl
 ·unfold Cp.s1 at h1 ⊢
  unfold Cp.hop
  dsimp only
  omega
def Cp.chk (p:Cp) (a0 a1 f0 f1:Int):Int:=if 0<p.k2 then noZ 17 (sF p.k2 [a0 / 65536,a1 / 65536,a0 % 65536,a1 % 65536,f0,f1]) else p.k2
def Cp.from (p:Cp) (a f:Int):Cp:=⟨p.lf,a,p.b,f,p.t,sF p.k1 [p.a / 65536,a / 65536,p.a % 65536,a % 65536],p.chk p.a a p.f f,p.c⟩
def Cp.to' (p:Cp) (b t:Int):Cp:=⟨p.lf,p.a,b,p.f,t,sF p.k1 [p.b / 65536,b / 65536,p.b % 65536,b % 65536],p.chk p.b b p.t t,p.c⟩
theorem YT {c a b:Int} (hc:w16 c) (ha:0≤a∧a<4294967296) (hb:0≤b∧b<4294967296):w16 (sF c [a / 65536,b / 65536,a % 65536,b % 65536])∧sF c [a / 65536,b / 65536,a % 65536,b % 65536] % 65535=(c+a / 65536+a % 65536-b / 65536-b % 65536) % 65535:=by
 refine ⟨lj 4 _ c (Nat.le_refl 4) (fun x hx=>?_) hc,?_⟩
 ·simp only [List.mem_cons,List.not_mem_nil,or_false] at hx
  omega
 ·show wL (wL c _ _) _ _ % 65535=_
  have h1:=tW c (a / 65536) (b / 65536)
  have h2:=tW (wL c (a / 65536) (b / 65536)) (a % 65536) (b % 65536)
  omega
theorem Yw {c:Int} (h:w16 c):w16 (noZ 17 c)∧noZ 17 c % 65535=c % 65535:=by
 unfold noZ
 split
 ·omega
 ·exact ⟨h,rfl⟩
theorem eJ {p:Cp} (h:p.ok) {a0 a1 f0 f1:Int} (h0:0≤a0∧a0<4294967296) (h1:0≤a1∧a1<4294967296) (h2:w16 f0) (h3:w16 f1) (hk:0<p.k2):w16 (p.chk a0 a1 f0 f1)∧p.chk a0 a1 f0 f1 % 65535=(p.k2+a0 / 65536+a0 % 65536+f0-a1 / 65536-a1 % 65536-f1) % 65535:=by
 unfold Cp.chk
 rw [if_pos hk]
 have hb:w16 (sF p.k2 [a0 / 65536,a1 / 65536,a0 % 65536,a1 % 65536,f0,f1]):=lj 6 _ _ (Nat.le_refl 6) (fun x hx=>by
  simp only [List.mem_cons,List.not_mem_nil,or_false] at hx
  omega) h.k2
 obtain ⟨n1,n2⟩:=Yw hb
 refine ⟨n1,n2.trans ?_⟩
 show wL (wL (wL p.k2 _ _) _ _) _ _ % 65535=_
 have e1:=tW p.k2 (a0 / 65536) (a1 / 65536)
 have e2:=tW (wL p.k2 (a0 / 65536) (a1 / 65536)) (a0 % 65536) (a1 % 65536)
 have e3:=tW (wL (wL p.k2 (a0 / 65536) (a1 / 65536)) (a0 % 65536) (a1 % 65536)) f0 f1
 omega
theorem Zx {p:Cp} (h:p.ok) (hk:0<p.k2) {a f:Int} (ha:0≤a∧a<4294967296) (hf:w16 f):(p.from a f).ok:=by
 obtain ⟨c1,c2⟩:=YT h.k1 h.a ha
 obtain ⟨d1,d2⟩:=eJ h h.a ha h.f hf hk
 refine ⟨h.lf,ha,h.b,hf,h.t,c1,d1,?_,?_⟩
 ·have:=h.h1
  unfold Cp.s1 at this ⊢
  unfold Cp.from
  dsimp only
  omega
 ·have:=h.h2
  unfold Cp.s2 at this ⊢
  unfold Cp.from
  dsimp only
  omega
theorem X1 {p:Cp} (h:p.ok) (hk:0<p.k2) {b t:Int} (hb:0≤b∧b<4294967296) (ht:w16 t):(p.to' b t).ok:=by
 obtain ⟨c1,c2⟩:=YT h.k1 h.b hb
 obtain ⟨d1,d2⟩:=eJ h h.b hb h.t ht hk
 refine ⟨h.lf,h.a,hb,h.f,ht,c1,d1,?_,?_⟩
 ·have:=h.h1
  unfold Cp.s1 at this ⊢
  unfold Cp.to'
  dsimp only
  omega
 ·have:=h.h2
  unfold Cp.s2 at this ⊢
  unfold Cp.to'
  dsimp only
  omega
theorem YB {p:Cp} (h:p.ok):((bN p.txt 9:Nat):Int)=17:=by
 have:bN p.txt 9=(u8 (256*p.lf+17)).toNat:=rfl
 rw [this,vu]
 omega
theorem aw {p:Cp} (h:p.ok) {a f:Int} (hf:w16 f):rnR p.txt a f 12 0=((p.from a f).txt,0):=by
 have he:=mE h
 have e9:=YB h
 have hN:=iR p
 obtain ⟨-,⟨a1,a2⟩,⟨b1,b2⟩,hf0,ht,hk1,hk2,-,-⟩:=h
 have e2:z3 p.txt 2=29:=kR (by decide)
 have e10:z3 p.txt 10=p.k1:=im hk1
 have e12:z3 p.txt 12=p.a / 65536:=cC (by unfold w16;omega)
 have e14:z3 p.txt (12+2)=p.a % 65536:=bL (by unfold w16;omega)
 have e20:z3 p.txt (20+0)=p.f:=Yp hf0
 have e26:z3 p.txt (20+6)=p.k2:=b7 hk2
 unfold rnR
 rw [he,if_neg (not_not_intro rfl),if_neg (not_not_intro hf),hN,e9]
 unfold rnW rnC rnT ckI pL
 rw [if_pos rfl,e2,e10,e12,e14,e20,e26]
 unfold Cp.from Cp.chk
 simp only [show ¬(17:Int)=6 by decide,false_or]
 rfl
theorem YF {p:Cp} (h:p.ok) {b t:Int} (ht:w16 t):rnR p.txt b t 16 2=((p.to' b t).txt,0):=by
 have he:=mE h
 have e9:=YB h
 have hN:=iR p
 obtain ⟨-,⟨a1,a2⟩,⟨b1,b2⟩,hf0,ht0,hk1,hk2,-,-⟩:=h
 have e2:z3 p.txt 2=29:=kR (by decide)
 have e10:z3 p.txt 10=p.k1:=im hk1
 have e12:z3 p.txt 16=p.b / 65536:=cb (by unfold w16;omega)
 have e14:z3 p.txt (16+2)=p.b % 65536:=cJ (by unfold w16;omega)
 have e20:z3 p.txt (20+2)=p.t:=Ys ht0
 have e26:z3 p.txt (20+6)=p.k2:=b7 hk2
 unfold rnR
 rw [he,if_neg (not_not_intro rfl),if_neg (not_not_intro ht),hN,e9]
 unfold rnW rnC rnT ckI pL
 rw [if_pos rfl,e2,e10,e12,e14,e20,e26]
 unfold Cp.to' Cp.chk
 simp only [show ¬(17:Int)=6 by decide,false_or]
 rfl
def cpL (f t:Int) (c:UInt8) (a b:Int):Cp:=⟨9,a,b,f,t,65535-zI (17693+2321+a / 65536+a % 65536+b / 65536+b % 65536),th f t [c] a b,c⟩
theorem dQ {f t:Int} (c:UInt8) {a b:Int} (hf:w16 f) (ht:w16 t) (ha:0≤a∧a<4294967296) (hb:0≤b∧b<4294967296):mF f t [c] a b=((cpL f t c a b).txt,true)∧(cpL f t c a b).ok∧0<(cpL f t c a b).k2:=by
 have hw:ti f t [c] a b=(wd f++(wd t++(wd 9++(wd (th f t [c] a b)++[c]))),0):=by
  unfold ti
  rw [if_neg (not_not_intro ⟨hf,ht⟩),if_neg (show ¬65507<[c].length by simp)]
  rfl
 have hc2:=c.toNat_lt
 have hS:y4 (und a b 17 (([c].length:Nat)+8:Int)++xP f t (([c].length:Nat)+8:Int)++[c])=a / 65536+a % 65536+b / 65536+b % 65536+35+f+t+256*(c.toNat:Int):=by
  have e:und a b 17 (([c].length:Nat)+8:Int)++xP f t (([c].length:Nat)+8:Int)++[c]=wd (a / 65536)++(wd a++(wd (b / 65536)++(wd b++(wd 17++(wd 9++(wd f++(wd t++(wd 9++[c])))))))):=rfl
  rw [e,←tK a,←tK b,zn _ (by unfold w16;omega),zn _ (by unfold w16;omega),zn _ (by unfold w16;omega),zn _ (by unfold w16;omega),zn _ (by decide),zn _ (by decide),zn _ hf,zn _ ht,zn _ (by decide)]
  unfold y4
  omega
 have hC:w16 (th f t [c] a b)∧0<th f t [c] a b∧(th f t [c] a b+(a / 65536+a % 65536+b / 65536+b % 65536+35+f+t+256*(c.toNat:Int))) % 65535=0:=by
  unfold th
  rw [hS]
  have h1:=xD (a / 65536+a % 65536+b / 65536+b % 65536+35+f+t+256*(c.toNat:Int)) (by omega)
  have h2:=sn (a / 65536+a % 65536+b / 65536+b % 65536+35+f+t+256*(c.toNat:Int))
  generalize zI _=x at *
  split
  ·subst_vars
   omega
  ·omega
 have hk:=xD (17693+2321+a / 65536+a % 65536+b / 65536+b % 65536) (by omega)
 have hm:=sn (17693+2321+a / 65536+a % 65536+b / 65536+b % 65536)
 refine ⟨?_,⟨(by decide:(2:Int)≤9∧(9:Int)≤200),ha,hb,hf,ht,by unfold cpL w16;dsimp only;omega,hC.1,?_,?_⟩,hC.2.1⟩
 ·unfold mF
  rw [hw]
  have hp:r8 (pkL a b (wd f++(wd t++(wd 9++(wd (th f t [c] a b)++[c])))))=0:=by
   unfold r8
   rw [if_neg (not_not_intro ?_),if_neg (not_not_intro ?_),if_neg ?_]
   ·show ¬65515<9+0
    decide
   ·intro q
    cases q
   ·exact ⟨(by decide:(0:Int)≤0∧(0:Int)≤255),(by decide:(0:Int)≤9∧(9:Int)≤255),(by decide:(0:Int)≤17∧(17:Int)≤255),(by decide:(0:Int)≤0∧(0:Int)≤65535),(by decide:(0:Int)≤0∧(0:Int)≤8191),(by decide:0≤40),(by decide:0 % 4=0)⟩
  have hA:hdA (pkL a b (wd f++(wd t++(wd 9++(wd (th f t [c] a b)++[c]))))) (fl (pkL a b (wd f++(wd t++(wd 9++(wd (th f t [c] a b)++[c]))))))=wd 17664++(wd 29++(wd 0++(wd 0++wd 2321))):=by
   have q1:[u8 (64+(20+((0:Nat):Int)) / 4),u8 0]=wd 17664:=by decide
   have q2:wd (20+((0:Nat):Int)+((9:Nat):Int))=wd 29:=by decide
   have q3:[u8 9,u8 17]=wd 2321:=by decide
   rw [←q1,←q2,←q3]
   rfl
  have hs:y4 (hdA (pkL a b (wd f++(wd t++(wd 9++(wd (th f t [c] a b)++[c]))))) (fl (pkL a b (wd f++(wd t++(wd 9++(wd (th f t [c] a b)++[c]))))))++hdB (pkL a b (wd f++(wd t++(wd 9++(wd (th f t [c] a b)++[c]))))))=17693+2321+a / 65536+a % 65536+b / 65536+b % 65536:=by
   have e:hdA (pkL a b (wd f++(wd t++(wd 9++(wd (th f t [c] a b)++[c]))))) (fl (pkL a b (wd f++(wd t++(wd 9++(wd (th f t [c] a b)++[c]))))))++hdB (pkL a b (wd f++(wd t++(wd 9++(wd (th f t [c] a b)++[c])))))=wd 17664++(wd 29++(wd 0++(wd 0++(wd 2321++(wd (a / 65536)++(wd a++(wd (b / 65536)++(wd b++[])))))))):=by rw [hA];rfl
   rw [e,←tK a,←tK b,zn _ (by decide),zn _ (by decide),zn _ (by decide),zn _ (by decide),zn _ (by decide),zn _ (by unfold w16;omega),zn _ (by unfold w16;omega),zn _ (by unfold w16;omega),zn _ (by unfold w16;omega)]
   unfold y4
   omega
  unfold pW
  rw [if_pos hp]
  unfold bF
  rw [hs,hA]
  unfold Cp.txt cpL
  dsimp only
  unfold W14
  rw [tK a,tK b]
  rfl
 ·unfold Cp.s1 cpL
  dsimp only
  omega
 ·have:=hC.2.2
  unfold Cp.s2 cpL
  dsimp only
  omega
end Go.Proofs.YtmibknbmhcnemaaDoor
