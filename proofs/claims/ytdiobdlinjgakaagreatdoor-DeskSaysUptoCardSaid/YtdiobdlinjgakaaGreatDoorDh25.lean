import Derived.Test.YtdiobdlinjgakaaGreatDoorDh17
set_option linter.unusedVariables false
set_option linter.unusedSimpArgs false
set_option maxHeartbeats 8000000
set_option maxRecDepth 100000
open Go.Proofs.Tryz
open Go.IntKind renaming i64->_a,u8->_f
open Go.IntWalk renaming i64_in->_b
open Int renaming fdiv_eq_ediv_of_nonneg->_c,tmod_eq_emod_of_nonneg->_d,ofNat_tmod->_e
namespace Go.Proofs.YtdiobdlinjgakaaGreatDoor
attribute [local irreducible] bc Go
theorem aj8(p:dZ)(v:¬hz p=0)(z:p.opt.length<=140737488351232)(C:p.data.length<=140737488351232)(I:0<=p.ax/\p.ax<4294967296)(M:0<=p.to/\p.to<4294967296):Spec prog 72 [pR p] (n5 (eM p)):=by
 have a_:_a.wrap (20+(p.opt.length:Nat))=20+(p.opt.length:Int):=_b _ G;have dk:_a.wrap (20+(p.opt.length:Int)+(p.data.length:Nat))=20+(p.opt.length:Int)+(p.data.length:Int):=_b _ G;unfold eM;rw[if_neg v];obtain⟨fp,id,h9,mo,start,life,bx,ax,to,opt,data⟩:=p;unfold hz dZ.arg dZ.form;dsimp only at z C a_ dk⊢;by_cases h1:0<=fp/\fp<=255;rotate_left 1
 .rw[if_pos (fun q=>h1 q.1)];exact oy
 by_cases h2:0<=life/\life<=255;rotate_left 1
 .rw[if_pos (fun q=>h2 q.2.1)];exact oy
 by_cases f:0<=bx/\bx<=255;rotate_left 1
 .rw[if_pos (fun q=>f q.2.2.1)];exact oy
 by_cases g:0<=id/\id<=65535;rotate_left 1
 .rw[if_pos (fun q=>g q.2.2.2.1)];exact oy
 by_cases j:0<=start/\start<=8191;rotate_left 1
 .rw[if_pos (fun q=>j q.2.2.2.2.1)];exact oy
 by_cases m:opt.length<=40;rotate_left 1
 .rw[if_pos (fun q=>m q.2.2.2.2.2.1)];exact oy
 by_cases u:opt.length%4=0;rotate_left 1
 .rw[if_pos (fun q=>u q.2.2.2.2.2.2)];exact oy
 rw[if_neg (not_not_intro ⟨h1,h2,f,g,j,m,u⟩)];cases h9 with
 |true=>
  cases mo with
  |true=>
   rw[if_pos aF];exact oy
  |false=>
   by_cases h8:start=0
   .rw[if_neg BT];by_cases c:65515<data.length+opt.length
    .rw[if_pos c];exact oy
    exact absurd (show hz _=0 by unfold hz dZ.arg dZ.form;dsimp only;rw[if_neg (not_not_intro ⟨h1,h2,f,g,j,m,u⟩),if_neg BT,if_neg c]) v
   rw[if_pos BT];exact oy
 |false=>
  rw[if_neg aF];by_cases c:65515<data.length+opt.length
  .rw[if_pos c];have vR:_a.wrap (start+8192)=start+8192:=_b _ G;exact oy
  exact absurd (show hz _=0 by unfold hz dZ.arg dZ.form;dsimp only;rw[if_neg (not_not_intro ⟨h1,h2,f,g,j,m,u⟩),if_neg aF,if_neg c]) v
theorem H7(p:dZ)(b:p.opt.length<=140737488351232)(c:p.data.length<=140737488351232)(f:0<=p.ax/\p.ax<4294967296)(g:0<=p.to/\p.to<4294967296):Spec prog 72 [pR p] (n5 (eM p)):=by
 by_cases j:hz p=0
 .exact ajn p j b c f g
 exact aj8 p j b c f g
theorem ad8(p:dZ):(eM p).2=hz p:=by
 unfold eM;split
 .rename_i h;exact h.symm
 rfl
theorem ali(p:dZ)(b:p.opt.length<=140737488351232)(c:p.data.length<=140737488351232)(f:0<=p.ax/\p.ax<4294967296)(g:0<=p.to/\p.to<4294967296):Spec prog 72 [pR p] (.aS [.v (.string (I (eM p).1)),.v (.int .i64 (hz p))]):=by
 have:=H7 p b c f g;rw[<-ad8];exact this
theorem ajG(p:dZ)(b:p.opt.length<=140737488351232)(c:p.data.length<=140737488351232)(f:0<=p.ax/\p.ax<4294967296)(g:0<=p.to/\p.to<4294967296):Spec prog 166 [pR p] (.v (.int .i64 (hz p))):=O4 p b c
theorem ai8(l:List UInt8)(hl:l.length<=9223372036854775800):Spec prog 136 [.v (.int .i64 0),.v (.string (I l))] (.v (.int .i64 (ck (bP l)))):=by exact S3
def aA(s:List UInt8):Nat:=4*(au s 0%16)
def cv(s:List UInt8):dZ:=⟨(au s 1:Nat),ao s 4,decide (ao s 6/16384=1),decide (ao s 6/8192%2=1),ao s 6%8192,(au s 8:Nat),(au s 9:Nat),eh s 12,eh s 16,(s.drop 20).take (aA s-20),(s.drop (aA s)).take ((ao s 2).toNat-aA s)⟩
def xx:dZ:=⟨0,0,false,false,0,0,0,0,0,[],[]⟩
def dc(s:List UInt8):Int:=
 if s.length<20\/s.length<aA s\/(s.length:Int)<ao s 2 then 3
 else if¬(69<=au s 0/\au s 0<=79)\/ao s 2<(aA s:Nat)\/32768<=ao s 6 then 4
 else if¬hz (cv s)=0 then 4
 else if¬ck (bP (s.take (aA s)))=65535 then 5 else 0
def dP(s:List UInt8):dZ×Int:=if dc s=0 then(cv s,0)else(xx,dc s)
theorem qh{s:List UInt8}{e:Int}(h:dc s=e)(b:e≠0):dP s=(xx,e):=by unfold dP;rw[h,if_neg b]
abbrev yS(r:dZ×Int):O:=.aS [pR r.1,.v (.int .i64 r.2)]
theorem J2(s:List UInt8)(hl:s.length<=140737488351232):Spec prog 163 [.v (.string (I s))] (yS (dP s)):=by
 by_cases cr:s.length<20
 .have aT:dc s=3:=by unfold dc;rw[if_pos (.inl cr)]
  rw[qh aT ae];exact Uu
 have h2:=s0 s 2 G G 2 rfl;have ai:=di s 2;have oI:=eQ s 0;have sd:_a.wrap (au s 0:Nat)=(au s 0:Nat):=_b _ G;have DL:bits .and .u8 (au s 0:Nat) 15=((au s 0%16:Nat):Int):=JU;have Y8:_a.wrap (au s 0%16:Nat)=((au s 0%16:Nat):Int):=_b _ G;have SD:_a.wrap (((au s 0%16:Nat):Int)*4)=((aA s:Nat):Int):=xK;have fR:((au s 0:Nat):Int).tmod 16=((au s 0%16:Nat):Int):=(_e _ 16).symm;have eC:_a.wrap (4*((au s 0%16:Nat):Int))=((aA s:Nat):Int):=xK;by_cases j:s.length<aA s
 .have aT:dc s=3:=by unfold dc;rw[if_pos (.inr (.inl j))]
  exact O2
 by_cases m:(s.length:Int)<ao s 2
 .have aT:dc s=3:=by unfold dc;rw[if_pos (.inr (.inr m))]
  exact O2
 have n1:=s0 s 6 G G 6 rfl;have C:=di s 6;have X5:min 4 _f.bits=4:=rfl;have Qb:min 15 _a.bits=15:=rfl;have f15:(ao s 6).fdiv (2 ^ 15)=ao s 6/32768:=_c _ ae;have ez:((au s 0:Nat):Int).fdiv (2 ^ 4)=((au s 0/16:Nat):Int):=Ys;have M:aA s=4*(au s 0%16):=rfl;by_cases q:69<=au s 0/\au s 0<=79;rotate_left 1
 .have aT:dc s=4:=by unfold dc;rw[if_neg G,if_pos (.inl q)]
  exact Jy
 by_cases u:ao s 2<(aA s:Nat)
 .have aT:dc s=4:=by unfold dc;rw[if_neg G,if_pos (.inr (.inl u))]
  exact Jy
 by_cases z:32768<=ao s 6
 .have aT:dc s=4:=by unfold dc;rw[if_neg G,if_pos (.inr (.inr z))]
  exact Jy
 have fr:=s0 s 4 G G 4 rfl;have Z0:=Po s 12 G G 12 rfl;have Qx:=Po s 16 G G 16 rfl;have aT:=ajG (cv s) wJ wJ (nN s 12) (nN s 16);have aj:=Bq (s.take (aA s)) kF;have d1:=eQ s 1;have d8:=eQ s 8;have d9:=eQ s 9;have dV:_a.wrap (au s 1:Nat)=(au s 1:Nat):=_b _ G;have Tv:_a.wrap (au s 8:Nat)=(au s 8:Nat):=_b _ G;have Zm:_a.wrap (au s 9:Nat)=(au s 9:Nat):=_b _ G;have Yx:min 14 _a.bits=14:=rfl;have Vu:min 13 _a.bits=13:=rfl;have f14:(ao s 6).fdiv (2 ^ 14)=ao s 6/16384:=_c _ ae;have f13:(ao s 6).fdiv (2 ^ 13)=ao s 6/8192:=_c _ ae;have cR:ao s 6/16384%2=ao s 6/16384:=G;have W1:_a.wrap ((ao s 6).tdiv 16384)=ao s 6/16384:=Gu;have NT:(_a.wrap ((ao s 6).tdiv 8192)).tmod 2=ao s 6/8192%2:=NJ;have jT:(ao s 6).tmod 8192=ao s 6%8192:=_d G;have gh:(I s).extract 20 (aA s)=I ((s.drop 20).take (aA s-20)):=fK _ _ _;have h_:(I s).extract (aA s) (ao s 2).toNat=I ((s.drop (aA s)).take ((ao s 2).toNat-aA s)):=fK _ _ _;have kd:(I s).extract 0 (aA s)=I (s.take (aA s)):=r9;by_cases hf:hz (cv s)=0;rotate_left 1
 .have f:dc s=4:=by unfold dc;rw[if_neg G,if_neg G,if_pos hf]
  rw[qh f ae];clear f;generalize hz (cv s)=E at *;try generalize (eM (cv s)).1=T at *
  unfold cv at aT;exact GR
 by_cases si:ck (bP (s.take (aA s)))=65535;rotate_left 1
 .have f:dc s=5:=by unfold dc;rw[if_neg G,if_neg G,if_neg (not_not_intro hf),if_pos si]
  rw[qh f ae];clear f;rw[hf]at aT;clear hf;try generalize (eM (cv s)).1=T at *
  unfold cv at aT;generalize ck (bP (s.take (aA s)))=c at *;exact GR
 have g:dc s=0:=WO;have f:dP s=(cv s,0):=by unfold dP;rw[g,if_pos rfl]
 clear g;rw[f];clear f;rw[hf]at aT;rw[si]at aj;clear hf si;try generalize (eM (cv s)).1=T at *
 unfold cv at aT⊢;exact GR
theorem SR(s:List UInt8)(hl:s.length<=140737488351232):Spec prog 76 [.v (.string (I s))] (yS (dP s)):=by
 by_cases cr:s.length<20
 .have aT:dc s=3:=by unfold dc;rw[if_pos (.inl cr)]
  rw[qh aT ae];exact O3
 have h2:=hk s 2 G G 2 rfl;have ai:=di s 2;have oI:=eQ s 0;have sd:_a.wrap (au s 0:Nat)=(au s 0:Nat):=_b _ G;have DL:bits .and .u8 (au s 0:Nat) 15=((au s 0%16:Nat):Int):=JU;have Y8:_a.wrap (au s 0%16:Nat)=((au s 0%16:Nat):Int):=_b _ G;have SD:_a.wrap (((au s 0%16:Nat):Int)*4)=((aA s:Nat):Int):=xK;have fR:((au s 0:Nat):Int).tmod 16=((au s 0%16:Nat):Int):=(_e _ 16).symm;have eC:_a.wrap (4*((au s 0%16:Nat):Int))=((aA s:Nat):Int):=xK;by_cases j:s.length<aA s
 .have aT:dc s=3:=by unfold dc;rw[if_pos (.inr (.inl j))]
  exact Sz
 by_cases m:(s.length:Int)<ao s 2
 .have aT:dc s=3:=by unfold dc;rw[if_pos (.inr (.inr m))]
  exact Sz
 have n1:=hk s 6 G G 6 rfl;have C:=di s 6;have X5:min 4 _f.bits=4:=rfl;have Qb:min 15 _a.bits=15:=rfl;have f15:(ao s 6).fdiv (2 ^ 15)=ao s 6/32768:=_c _ ae;have ez:((au s 0:Nat):Int).fdiv (2 ^ 4)=((au s 0/16:Nat):Int):=Ys;have M:aA s=4*(au s 0%16):=rfl;by_cases q:69<=au s 0/\au s 0<=79;rotate_left 1
 .have aT:dc s=4:=by unfold dc;rw[if_neg G,if_pos (.inl q)]
  exact MF
 by_cases u:ao s 2<(aA s:Nat)
 .have aT:dc s=4:=by unfold dc;rw[if_neg G,if_pos (.inr (.inl u))]
  exact MF
 by_cases z:32768<=ao s 6
 .have aT:dc s=4:=by unfold dc;rw[if_neg G,if_pos (.inr (.inr z))]
  exact MF
 have fr:=hk s 4 G G 4 rfl;have Z0:=Ht s 12 G G 12 rfl;have Qx:=Ht s 16 G G 16 rfl;have aT:=ali (cv s) wJ wJ (nN s 12) (nN s 16);have aj:=ai8 (s.take (aA s)) kF;have d1:=eQ s 1;have d8:=eQ s 8;have d9:=eQ s 9;have dV:_a.wrap (au s 1:Nat)=(au s 1:Nat):=_b _ G;have Tv:_a.wrap (au s 8:Nat)=(au s 8:Nat):=_b _ G;have Zm:_a.wrap (au s 9:Nat)=(au s 9:Nat):=_b _ G;have Yx:min 14 _a.bits=14:=rfl;have Vu:min 13 _a.bits=13:=rfl;have f14:(ao s 6).fdiv (2 ^ 14)=ao s 6/16384:=_c _ ae;have f13:(ao s 6).fdiv (2 ^ 13)=ao s 6/8192:=_c _ ae;have cR:ao s 6/16384%2=ao s 6/16384:=G;have W1:_a.wrap ((ao s 6).tdiv 16384)=ao s 6/16384:=Gu;have NT:(_a.wrap ((ao s 6).tdiv 8192)).tmod 2=ao s 6/8192%2:=NJ;have jT:(ao s 6).tmod 8192=ao s 6%8192:=_d G;have gh:(I s).extract 20 (aA s)=I ((s.drop 20).take (aA s-20)):=fK _ _ _;have h_:(I s).extract (aA s) (ao s 2).toNat=I ((s.drop (aA s)).take ((ao s 2).toNat-aA s)):=fK _ _ _;have kd:(I s).extract 0 (aA s)=I (s.take (aA s)):=r9;by_cases hf:hz (cv s)=0;rotate_left 1
 .have f:dc s=4:=by unfold dc;rw[if_neg G,if_neg G,if_pos hf]
  rw[qh f ae];clear f;generalize hz (cv s)=E at *;try generalize (eM (cv s)).1=T at *
  unfold cv at aT;exact EA
 by_cases si:ck (bP (s.take (aA s)))=65535;rotate_left 1
 .have f:dc s=5:=by unfold dc;rw[if_neg G,if_neg G,if_neg (not_not_intro hf),if_pos si]
  rw[qh f ae];clear f;rw[hf]at aT;clear hf;try generalize (eM (cv s)).1=T at *
  unfold cv at aT;generalize ck (bP (s.take (aA s)))=c at *;exact EA
 have g:dc s=0:=WO;have f:dP s=(cv s,0):=by unfold dP;rw[g,if_pos rfl]
 clear g;rw[f];clear f;rw[hf]at aT;rw[si]at aj;clear hf si;try generalize (eM (cv s)).1=T at *
 unfold cv at aT⊢;exact EA
end Go.Proofs.YtdiobdlinjgakaaGreatDoor
