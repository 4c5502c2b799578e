import Derived.Test.YtdiobdlinjgakaaGreatDoorDh31
set_option linter.unusedVariables false
set_option linter.unusedSimpArgs false
set_option maxHeartbeats 8000000
set_option maxRecDepth 100000
open Go.Proofs.Tryz
open Go.IntKind renaming i64->_a
open Go.IntWalk renaming i64_in->_b
open List renaming take_take->_c,drop_take->_d,getElem?_drop->_f,length_take->_g,append_assoc->_j,take_left'->_k
open Nat renaming min_eq_left->_e,le_refl->_h
open Int renaming tmod_eq_emod_of_nonneg->_i,ofNat_tmod->_l
namespace Go.Proofs.YtdiobdlinjgakaaGreatDoor.H
theorem Kp(t:List UInt8)(i k:Nat)(n:Int)(b:i+1<t.length)(h:i+2<=k):(c4 t i n).drop k=t.drop k:=by
 refine List.ext_getElem? fun j=>?_
 rw[_f,_f,qn t i n b,if_neg G,if_neg G]
theorem CX(s:List UInt8)(W i:Nat)(h:i+1<W):ao (s.take W) i=ao s i:=by exact NW
theorem Vc(s:List UInt8)(W i:Nat)(h:i<W):au (s.take W) i=au s i:=by
 unfold au;rw[List.getElem?_take,if_pos h]
theorem XO(t:List UInt8)(i k:Nat)(n:Int)(b:i+1<t.length)(h:k<i\/i+1<k):au (c4 t i n) k=au t k:=by
 unfold au;rw[qn t i n b,if_neg G,if_neg G]
theorem ad9(s:List UInt8)(k i:Nat):au (s.drop k) i=au s (k+i):=by
 unfold au;rw[_f]
structure vX (s:List UInt8):Prop where
 cr:20<=aA s
 an:aA s<=(ao s 2).toNat
 aj:(ao s 2).toNat<=s.length
 oI:69<=au s 0/\au s 0<=79
 oP:ao s 6<32768
 ki:hz (cv s)=0
 sum:ck (bP (s.take (aA s)))=65535
theorem agW{s:List UInt8}(h:dc s=0):vX s:=by
 unfold dc at h;split at h
 .cases h
 split at h
 .cases h
 split at h
 .cases h
 split at h
 .cases h
 rename_i h1 h2 c f;have g:=di s 2;have b:20<=aA s:=D9;exact⟨b,G,G,G,G,G,G⟩
theorem VI{s:List UInt8}(h:vX s):dc s=0:=by
 have b:=di s 2;obtain⟨c,f,g,j,m,q,u⟩:=h;unfold dc;rw[if_neg G,if_neg G,if_neg G,if_neg G]
theorem yB{s:List UInt8}(h:vX s):f_ s=c4 (c4 (s.take (ao s 2).toNat) 8 (ao s 8-256)) 10 (ju s):=by
 obtain⟨f,g,j,-,-,-,-⟩:=h;have hl:(s.take (ao s 2).toNat).length=(ao s 2).toNat:=kF;unfold f_;generalize (ao s 2).toNat=W at *;rw[<-pC (c4 (s.take W) 8 (ao s 8-256)) 10 (ju s) yN,Kp _ _ _ _ G G,<-pC (s.take W) 8 (ao s 8-256) G];have b:(s.take W).take 8=s.take 8:=by rw[_c,_e G]
 have c:(s.take W).drop 12=(s.drop 12).take (W-12):=by rw[_d]
 rw[b,c,_k (by rw[List.length_append,_g,iB];omega)]
section
variable {s:List UInt8} (h:vX s) (h8:2<=au s 8)
include h h8
theorem rD(i:Nat)(b:i+1<8\/11<i)(an:i+1<(ao s 2).toNat):ao (f_ s) i=ao s i:=by
 have _:=h8;have hl:(s.take (ao s 2).toNat).length=(ao s 2).toNat:=BN;have:=h.cr;have:=h.an;rw[yB h,qB _ _ _ _ yN G,qB _ _ _ _ G G,CX _ _ _ an]
theorem G7(i:Nat)(b:i<8\/11<i)(an:i<(ao s 2).toNat):au (f_ s) i=au s i:=by
 have _:=h8;have hl:(s.take (ao s 2).toNat).length=(ao s 2).toNat:=BN;have:=h.cr;have:=h.an;rw[yB h,XO _ _ _ _ yN G,XO _ _ _ _ G G,Vc _ _ _ an]
theorem U6:ao (f_ s) 8=ao s 8-256:=by
 have hl:(s.take (ao s 2).toNat).length=(ao s 2).toNat:=BN;have:=h.cr;have:=h.an;have e:ao s 8=256*(au s 8:Nat)+(au s 9:Nat):=w8;have:=di s 8;rw[yB h,qB _ _ _ _ yN G,tg _ _ _ G G G]
theorem aks:ao (f_ s) 10=ju s:=by
 have _:=h8;have hl:(s.take (ao s 2).toNat).length=(ao s 2).toNat:=BN;have:=h.cr;have:=h.an;have:=di s 8;have:=di s 10;have e:ao s 8=256*(au s 8:Nat)+(au s 9:Nat):=w8;have b:=kc (65535-ao s 10+(65535-ao s 8)+(ao s 8-256)) G;rw[yB h,tg _ _ _ yN (by unfold ju;omega) (by unfold ju;omega)]
theorem Jt(k:Nat)(b:12<=k):(f_ s).drop k=(s.take (ao s 2).toNat).drop k:=by
 have _:=h8;have hl:(s.take (ao s 2).toNat).length=(ao s 2).toNat:=BN;have:=h.cr;have:=h.an;rw[yB h,Kp _ _ _ _ yN G,Kp _ _ _ _ G G]
theorem HL:(f_ s).length=(ao s 2).toNat:=by
 have _:=h8;rw[yB h,jV,jV,_g];have:=h.aj;omega
theorem zI:aA (f_ s)=aA s:=by
 have:=h.cr;have:=h.an;unfold aA;rw[G7 h h8 0 G G]
theorem PL:au (f_ s) 8=au s 8-1/\au (f_ s) 9=au s 9:=by
 have e:=U6 h h8;have b:ao s 8=256*(au s 8:Nat)+(au s 9:Nat):=w8;have c:ao (f_ s) 8=256*(au (f_ s) 8:Nat)+(au (f_ s) 9:Nat):=w8;have:=eQ s 9;have:=eQ (f_ s) 9;rw[b,c]at e;omega
theorem Qv:cv (f_ s)={cv s with life:=((au s 8-1:Nat):Int)}:=by
 have g:=h.cr;have j:=h.an;have m:=h.aj;have b:=rD h h8 2 G G;unfold cv;rw[zI h h8,G7 h h8 1 G G,rD h h8 4 G G,rD h h8 6 G G,(PL h h8).1,(PL h h8).2,b,Jt h h8 20 G,Jt h h8 (aA s) G];have c:eh (f_ s) 12=eh s 12:=by unfold eh;rw[rD h h8 12 G G,rD h h8 14 G G]
 have f:eh (f_ s) 16=eh s 16:=by unfold eh;rw[rD h h8 16 G G,rD h h8 18 G G]
 rw[c,f,_d,_d,_c,_c,_e G,Nat.min_self]
theorem Rp(t:List UInt8)(b:12<=t.length):bP t=bP (t.take 8)+ao t 8+ao t 10+bP (t.drop 12):=by
 have _:=h;have _:=h8;have e:=mV (t.take 8) (t.drop 8) kF;have c:bP (t.drop 8)=ao t 8+bP (t.drop 10):=HB t 8 G;have f:bP (t.drop 10)=ao t 10+bP (t.drop 12):=HB t 10 G;rw[List.take_append_drop]at e;omega
theorem agH:ck (bP ((f_ s).take (aA s)))=65535:=by
 have f:=h.cr;have g:=h.an;have j:=h.aj;have aj:=h.sum;have hl:=HL h h8;rw[Rp h h8 (s.take (aA s)) kF,CX _ _ _ G,CX _ _ _ G]at aj;rw[Rp h h8 ((f_ s).take (aA s)) kF,CX _ _ _ G,CX _ _ _ G,U6 h h8,aks h h8];have b:((f_ s).take (aA s)).drop 12=(s.take (aA s)).drop 12:=by rw[_d,_d,Jt h h8 12 G,_d,_c,_e G]
 have c:((f_ s).take (aA s)).take 8=(s.take (aA s)).take 8:=by
  rw[_c,_c,_e G];unfold f_;rw[_j,_j,_k kF]
 rw[b,c];have ah:=kT ((s.take (aA s)).take 8);have ai:=kT ((s.take (aA s)).drop 12);have m:=di s 8;have q:=di s 10;have e:ao s 8=256*(au s 8:Nat)+(au s 9:Nat):=w8;unfold ju;generalize bP ((s.take (aA s)).take 8)=P at *;generalize bP ((s.take (aA s)).drop 12)=u at *;generalize ao s 8=v at *;generalize ao s 10=x at *;unfold ck at aj⊢;split at aj
 .omega
 rw[if_neg G];split
 .omega
 omega
theorem ack:vX (f_ s):=by
 have j:=h.cr;have m:=h.an;have v:=h.aj;have c:=rD h h8 2 G G;refine⟨by rw[zI h h8];exact j,by rw[zI h h8,c];exact m,by rw[c,HL h h8];exact hT,by rw[G7 h h8 0 G G];exact h.oI,by rw[rD h h8 6 G G];exact h.oP,?_,by rw[zI h h8];exact agH h h8⟩;rw[Qv h h8];have b:=h.ki;have x:=eQ s 8;unfold hz at b⊢;split at b
 .cases b
 rename_i f;split at b
 .cases b
 rename_i g;split at b
 .cases b
 rename_i q;rw[Classical.not_not]at f g;rw[if_neg (not_not_intro ?_),if_neg (not_not_intro ?_),if_neg ?_]
 .exact q
 .exact g
 obtain⟨u,z,c3⟩:=f;exact⟨u,⟨iS,iS⟩,c3⟩
end
end Go.Proofs.YtdiobdlinjgakaaGreatDoor.H
namespace Go.Proofs.YtdiobdlinjgakaaGreatDoor
attribute [local irreducible] bc Go
theorem afV(s:List UInt8)(a c:Int)(aj:s.length<=140737488351232)(h1:(bC s).2=0)(bI:0<=c/\c<=65535)(m:0<=a/\a<4294967296):Spec prog 133 [.v (.string (I s)),.v (.int .u32 a),.v (.int .i64 c),.v (.bool true)] (.aS [.v (.string (I (fW s a c 12 0).1)),.v (.int .i64 (fW s a c 12 0).2)]):=by
 have bu:=x1 s aj;obtain⟨⟨O,bW⟩,Q,-,a6,fe,q,Ii⟩:=FF h1;have JD:fW s a c 12 0=((sP s (aA s) (au s 9:Nat) a c 12 0).take (dL s),0):=WE;have u:bC s=(⟨eh s 12,eh s 16,(au s 9:Nat),ao s (aA s),ao s (aA s+2)⟩,0):=by rw[<-q,<-h1]
 rw[u]at bu;clear u q h1;have h2:=hk s 2 G G 2 rfl;have ai:=di s 2;rw[show ao s 2=((dL s:Nat):Int)by unfold dL;omega]at h2;have oI:=eQ s 0;have sd:_a.wrap (au s 0:Nat)=(au s 0:Nat):=_b _ G;have fR:((au s 0:Nat):Int).tmod 16=((au s 0%16:Nat):Int):=(_l _ 16).symm;have eC:_a.wrap (4*((au s 0%16:Nat):Int))=((aA s:Nat):Int):=Kd;have Z:=di s 12;have ac:=di s (12+2);have z:=di s 10;have ah:=di s (aA s+0);have ak:eh s 12=65536*ao s 12+ao s (12+2):=rfl;have eP:_a.wrap (eh s 12)=eh s 12:=_b _ G;have e3:_a.wrap ((eh s 12).tdiv 65536)=ao s 12:=zb;have kf:(eh s 12).tmod 65536=ao s (12+2):=Qi;have mN:_a.wrap a=a:=_b _ G;have mH:_a.wrap (a.tdiv 65536)=a/65536:=Gu;have oG:a.tmod 65536=a%65536:=_i G;have JN:_a.wrap (16+2)=18:=ae;have wz:_a.wrap (6+2)=8:=ae;have zX:=hk (s.take (aA s)) 10 c7 c7 10 rfl;rw[v_ s _ 10 G]at zX;have gh:(I s).extract 0 (aA s)=I (s.take (aA s)):=D2 _ _;have h_:(I s).extract (aA s) (dL s)=I ((s.drop (aA s)).take (dL s-aA s)):=fK _ _ _;have zK:=fun n=>N7 (ao s 10) (ao s 12) (a/65536) (ao s (12+2)) (a%65536) true 1 n sZ z
 have C:=BH 4 [ao s 12,a/65536,ao s (12+2),a%65536] (ao s 10) (_h _) sZ z;have g:hS (ao s 10) [ao s 12,a/65536,ao s (12+2),a%65536]=ln s a 12:=rfl;rw[g]at C;rw[g]at zK;have bT:=iJ (ln s a 12) C.1;have ay:=iJ c bI.1;have ek:=rI a m.1 m.2;have iG:=Pa s (aA s) (cK (au s 9:Nat)) (au s 9:Nat) a c 12 0 (dL s) _ _ rfl rfl rfl O fe Q (.inl ⟨rfl,rfl⟩);have Qf:(s.take (aA s)).length=aA s:=c7;have U:((s.drop (aA s)).take (dL s-aA s)).length=dL s-aA s:=c7;have Hp:∀i,i+1<dL s-aA s->ao ((s.drop (aA s)).take (dL s-aA s)) i=ao s (aA s+i):=fun i X=>by rw[v_ _ _ _ X,EC]
 generalize s.take (aA s)=f at *;generalize (s.drop (aA s)).take (dL s-aA s)=j at *;have KQ:6<=cK (au s 9:Nat):=y0;have kd:(I f).extract 12 16=I ((f.drop 12).take 4):=fK _ _ _;obtain⟨A,b5⟩:∃A,(f.take 10++a1 (ln s a 12)++c_ a++f.drop 16)=A:=⟨_,rfl⟩;obtain⟨B,eI⟩:∃B,(a1 c++j.drop 2)=B:=⟨_,rfl⟩;have xM:c4 (c4 (c4 f 10 (ln s a 12)) 12 (a/65536)) (12+2) (a%65536)=A:=(ahW f (ln s a 12) a G).symm.trans b5;have sF:c4 j 0 c=B:=(pC j 0 c G).symm.trans eI;have am:A.length=aA s:=YM;have ap:B.length=dL s-aA s:=by rw[<-sF,jV,U]
 have jt:ao B (cK (au s 9:Nat))=ao s (aA s+cK (au s 9:Nat)):=OD;rw[xM,sF]at iG;clear xM sF Hp;generalize ((au s 9:Nat):Int)=p at *;have ub:=di s (aA s+cK p);have mJ:=fun Y n=>T3 (ao s (aA s+cK p)) (ao s 12) (a/65536) (ao s (12+2)) (a%65536) (ao s (aA s+0)) c Y 3 n sZ ub
 have aq:=BH 6 [ao s 12,a/65536,ao s (12+2),a%65536,ao s (aA s+0),c] (ao s (aA s+cK p)) (_h _) sZ ub;have M:ve s (aA s) p a c 12 0=if p=6\/0<ao s (aA s+cK p)then uk p (hS (ao s (aA s+cK p)) [ao s 12,a/65536,ao s (12+2),a%65536,ao s (aA s+0),c])else ao s (aA s+cK p):=rfl
 rw[M]at iG;clear M g;generalize hS (ao s (aA s+cK p)) [ao s 12,a/65536,ao s (12+2),a%65536,ao s (aA s+0),c]=w7 at *;generalize ln s a 12=T at *;exact Y3
theorem alP(s:List UInt8)(a c:Int)(aj:s.length<=140737488351232)(h1:(bC s).2=0)(bI:0<=c/\c<=65535)(m:0<=a/\a<4294967296):Spec prog 133 [.v (.string (I s)),.v (.int .u32 a),.v (.int .i64 c),.v (.bool false)] (.aS [.v (.string (I (fW s a c 16 2).1)),.v (.int .i64 (fW s a c 16 2).2)]):=by
 have bu:=x1 s aj;obtain⟨⟨O,bW⟩,Q,-,a6,fe,q,Ii⟩:=FF h1;have JD:fW s a c 16 2=((sP s (aA s) (au s 9:Nat) a c 16 2).take (dL s),0):=WE;have u:bC s=(⟨eh s 12,eh s 16,(au s 9:Nat),ao s (aA s),ao s (aA s+2)⟩,0):=by rw[<-q,<-h1]
 rw[u]at bu;clear u q h1;have h2:=hk s 2 G G 2 rfl;have ai:=di s 2;rw[show ao s 2=((dL s:Nat):Int)by unfold dL;omega]at h2;have oI:=eQ s 0;have sd:_a.wrap (au s 0:Nat)=(au s 0:Nat):=_b _ G;have fR:((au s 0:Nat):Int).tmod 16=((au s 0%16:Nat):Int):=(_l _ 16).symm;have eC:_a.wrap (4*((au s 0%16:Nat):Int))=((aA s:Nat):Int):=Kd;have Z:=di s 16;have ac:=di s (16+2);have z:=di s 10;have ah:=di s (aA s+2);have ak:eh s 16=65536*ao s 16+ao s (16+2):=rfl;have eP:_a.wrap (eh s 16)=eh s 16:=_b _ G;have e3:_a.wrap ((eh s 16).tdiv 65536)=ao s 16:=zb;have kf:(eh s 16).tmod 65536=ao s (16+2):=Qi;have mN:_a.wrap a=a:=_b _ G;have mH:_a.wrap (a.tdiv 65536)=a/65536:=Gu;have oG:a.tmod 65536=a%65536:=_i G;have JN:_a.wrap (16+2)=18:=ae;have wz:_a.wrap (6+2)=8:=ae;have zX:=hk (s.take (aA s)) 10 c7 c7 10 rfl;rw[v_ s _ 10 G]at zX;have gh:(I s).extract 0 (aA s)=I (s.take (aA s)):=D2 _ _;have h_:(I s).extract (aA s) (dL s)=I ((s.drop (aA s)).take (dL s-aA s)):=fK _ _ _;have zK:=fun n=>N7 (ao s 10) (ao s 16) (a/65536) (ao s (16+2)) (a%65536) true 1 n sZ z
 have C:=BH 4 [ao s 16,a/65536,ao s (16+2),a%65536] (ao s 10) (_h _) sZ z;have j:hS (ao s 10) [ao s 16,a/65536,ao s (16+2),a%65536]=ln s a 16:=rfl;rw[j]at C;rw[j]at zK;have bT:=iJ (ln s a 16) C.1;have ay:=iJ c bI.1;have ek:=rI a m.1 m.2;have iG:=Pa s (aA s) (cK (au s 9:Nat)) (au s 9:Nat) a c 16 2 (dL s) _ _ rfl rfl rfl O fe Q (.inr ⟨rfl,rfl⟩);have Qf:(s.take (aA s)).length=aA s:=c7;have U:((s.drop (aA s)).take (dL s-aA s)).length=dL s-aA s:=c7;have Hp:∀i,i+1<dL s-aA s->ao ((s.drop (aA s)).take (dL s-aA s)) i=ao s (aA s+i):=fun i X=>by rw[v_ _ _ _ X,EC]
 generalize s.take (aA s)=f at *;generalize (s.drop (aA s)).take (dL s-aA s)=g at *;have KQ:6<=cK (au s 9:Nat):=y0;have kd:(I f).extract 12 16=I ((f.drop 12).take 4):=fK _ _ _;obtain⟨A,b5⟩:∃A,(f.take 10++a1 (ln s a 16)++(f.drop 12).take 4++c_ a++f.drop 20)=A:=⟨_,rfl⟩;obtain⟨B,eI⟩:∃B,(g.take 2++a1 c++g.drop 4)=B:=⟨_,rfl⟩;have xM:c4 (c4 (c4 f 10 (ln s a 16)) 16 (a/65536)) (16+2) (a%65536)=A:=(ajk f (ln s a 16) a G).symm.trans b5;have sF:c4 g 2 c=B:=(pC g 2 c G).symm.trans eI;have am:A.length=aA s:=YM;have ap:B.length=dL s-aA s:=by rw[<-sF,jV,U]
 have jt:ao B (cK (au s 9:Nat))=ao s (aA s+cK (au s 9:Nat)):=OD;rw[xM,sF]at iG;clear xM sF Hp;generalize ((au s 9:Nat):Int)=p at *;have ub:=di s (aA s+cK p);have mJ:=fun Y n=>T3 (ao s (aA s+cK p)) (ao s 16) (a/65536) (ao s (16+2)) (a%65536) (ao s (aA s+2)) c Y 3 n sZ ub
 have aq:=BH 6 [ao s 16,a/65536,ao s (16+2),a%65536,ao s (aA s+2),c] (ao s (aA s+cK p)) (_h _) sZ ub;have M:ve s (aA s) p a c 16 2=if p=6\/0<ao s (aA s+cK p)then uk p (hS (ao s (aA s+cK p)) [ao s 16,a/65536,ao s (16+2),a%65536,ao s (aA s+2),c])else ao s (aA s+cK p):=rfl
 rw[M]at iG;clear M j;generalize hS (ao s (aA s+cK p)) [ao s 16,a/65536,ao s (16+2),a%65536,ao s (aA s+2),c]=w7 at *;generalize ln s a 16=T at *;exact Y3
end Go.Proofs.YtdiobdlinjgakaaGreatDoor
namespace Go.Proofs.YtdiobdlinjgakaaGreatDoor
theorem aiD(s:List UInt8)(a b:Int)(aj:s.length<=140737488351232)(c:0<=a/\a<4294967296):Spec prog 133 [.v (.string (I s)),.v (.int .u32 a),.v (.int .i64 b),.v (.bool true)] (q1 s a b 12 0):=by
 by_cases h:(bC s).2=0/\(0<=b/\b<=65535)
 .exact afV s a b aj h.1 h.2 c
 exact N8 s a b true aj QJ 12 0
theorem ajx(s:List UInt8)(a b:Int)(aj:s.length<=140737488351232)(c:0<=a/\a<4294967296):Spec prog 133 [.v (.string (I s)),.v (.int .u32 a),.v (.int .i64 b),.v (.bool false)] (q1 s a b 16 2):=by
 by_cases h:(bC s).2=0/\(0<=b/\b<=65535)
 .exact alP s a b aj h.1 h.2 c
 exact N8 s a b false aj QJ 16 2
theorem abL{s:List UInt8}(h:(H.fq s).2=0):H.vX s/\2<=au s 8/\(H.fq s).1=H.f_ s:=by
 unfold H.fq at h⊢;split at h
 .rename_i q;exact absurd h q
 rename_i q;rw[if_neg q];split at h
 .cases h
 rename_i b;rw[if_neg b];refine⟨H.agW ?_,G,rfl⟩;rw[Classical.not_not]at q;unfold dP at q;split at q
 .assumption
 exact q
theorem ajL{d:List UInt8}{a b:Int}(h:(dM d a b).2=0):(dM d a b).1.flags=(au d 13:Nat)/\20<=d.length:=by
 have h2:=(Es h).2.2;refine⟨?_,h2⟩;unfold dM at h⊢;split at h
 .cases h
 rename_i c;rw[if_neg c];split at h
 .cases h
 rename_i f;rw[if_neg f];split at h
 .cases h
 rename_i g;rw[if_neg g];split at h
 .cases h
 split at h
 .cases h
 rename_i j;rw[if_neg j]
theorem agU{s:List UInt8}(b:(bC s).2=0)(j:(H.fq s).2=0):20<=(H.fq s).1.length/\((bC s).1.bx=6->aA (H.fq s).1+13<(H.fq s).1.length/\mE (H.fq s).1=(au (H.fq s).1 (aA (H.fq s).1+13):Nat)):=by
 obtain⟨h,h8,m⟩:=abL j;rw[m];have C:=h.cr;have I:=h.an;have hl:=H.HL h h8;refine⟨G,fun c=>?_⟩;have q:dP (H.f_ s)=(cv (H.f_ s),0):=by unfold dP;rw[H.VI (H.ack h h8),if_pos rfl]
 unfold mE;rw[q];dsimp only;rw[H.Qv h h8,H.zI h h8];dsimp only;have u:(dM (cv s).data (cv s).ax (cv s).to).2=0:=by
  unfold bC at b c;rw[H.VI h,if_pos rfl]at b c;unfold jA at b c;split at b
  .cases b
  rename_i v;rw[if_neg v]at c;split at b
  .cases b
  rename_i x;rw[if_neg x]at c;split at b
  .split at b
   .assumption
   rename_i f;exact absurd b f
  rename_i z;rw[if_neg z]at c;split at b
  .rename_i f;rw[if_pos f]at c;cases c
  rename_i f;exact absurd b f
 obtain⟨f1,f2⟩:=ajL u;have g:(cv s).data=(s.drop (aA s)).take ((ao s 2).toNat-aA s):=rfl;have J:(ao s 2).toNat-aA s>=20:=by
  rw[g,_g]at f2;omega
 refine⟨G,?_⟩;rw[f1,g,H.Vc _ _ _ G,H.ad9,<-H.G7 h h8 (aA s+13) G G]
end Go.Proofs.YtdiobdlinjgakaaGreatDoor
