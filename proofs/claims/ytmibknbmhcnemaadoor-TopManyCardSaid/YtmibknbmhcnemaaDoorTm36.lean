import Derived.Test.YtmibknbmhcnemaaDoorTm35
set_option linter.unusedVariables false
set_option linter.unusedSimpArgs false
namespace Go.Proofs.YtmibknbmhcnemaaDoor.T
def knB (l:List Tk) (a b c d now:Int):Bool:=decide (sH l now=0)&&l.any (fun t=>t.along a b c d && !t.old now)
theorem Zb (l:List Tk) (a b c d now:Int):∃ (t:Tk) (e:Int),zf Tryd.prog 81 [.snap 7 (l.map Tk.enc) false,dR a b c d,.v (.int .i64 now)] (.tup [dT t.a t.b t.c t.d t.s t.o t.x,.v (.bool (knB l a b c d now)),.v (.int .i64 e)]):=by
 by_cases h0:sH l now=0
 ·have hk:knB l a b c d now=l.any (fun t=>t.along a b c d && !t.old now):=by unfold knB;rw [decide_eq_true h0,Bool.true_and]
  rcases xn (fun t:Tk=>t.along a b c d) l 0 with ⟨h1,h2⟩|⟨i,t,h1,h2,h3,h4⟩
  ·have e:knB l a b c d now=false:=by
    rw [hk,List.any_eq_false]
    intro x hx
    simp [h2 x hx]
   rw [e]
   exact ⟨⟨0,0,0,0,0,0,0⟩,0,fT l a b c d now h0 h2⟩
  ·have hg:=(zB (show zV l=0 by have:=ud l now;omega)).2
   have e:knB l a b c d now = !t.old now:=by
    rw [hk,Bool.eq_iff_iff,List.any_eq_true]
    constructor
    ·rintro ⟨y,hy,hq⟩
     rw [Bool.and_eq_true] at hq
     obtain ⟨j,hj⟩:=List.mem_iff_getElem?.1 hy
     obtain rfl:=ep hg h1 hj h2 hq.1
     rw [Option.some.inj (h1.symm.trans hj)]
     exact hq.2
    ·intro hq
     exact ⟨t,List.mem_of_getElem? h1,by rw [h2,hq];rfl⟩
   rw [e]
   have hs:=aD l a b c d now h0 i t h1 (by rw [h4];omega)
   cases ho:t.old now with
   |true=>rw [ho,if_pos rfl] at hs;exact ⟨⟨0,0,0,0,0,0,0⟩,0,hs⟩
   |false=>rw [ho,if_neg (by simp)] at hs;exact ⟨t,0,hs⟩
 ·have e:knB l a b c d now=false:=by unfold knB;rw [decide_eq_false h0,Bool.false_and]
  rw [e]
  exact ⟨⟨0,0,0,0,0,0,0⟩,_,cP l a b c d now h0⟩
def nv (l:List Tk) (a b c d fl now:Int):List Tk×Bool×Int:=
 if zV l≠0 then (l,false,zV l) else if qY l a b c d fl now=false then (l,false,1) else
 match decide (0≤ze (fun t:Tk=>t.along a b c d) (yng l now) 0),(yng l now)[(ze (fun t:Tk=>t.along a b c d) (yng l now) 0).toNat]? with
 |true,some t=>uL l a b c d now (decide (fl.toNat / 2 % 2=1)) (decide (fl.toNat / 16 % 2=1)) (decide (fl.toNat % 2=1)) (decide (fl.toNat / 4 % 2=1)) (ze (fun t:Tk=>t.along a b c d) (yng l now) 0).toNat t
 |_,_=>rd l a b c d now (decide (fl.toNat / 2 % 2=1)) (decide (fl.toNat / 16 % 2=1)) (decide (fl.toNat % 2=1)) (decide (fl.toNat / 4 % 2=1))
theorem jI {l:List Tk} {a b c d fl now:Int} {Q:List Tk×Bool×Int→Prop} (h1:zV l≠0→Q (l,false,zV l)) (h2:zV l=0→qY l a b c d fl now=false→Q (l,false,1))
  (h3:∀syn ack fin rst,zV l=0→qY l a b c d fl now=true→tZ fl syn ack fin rst→ze (fun t:Tk=>t.along a b c d) (yng l now) 0 = -1→Q (rd l a b c d now syn ack fin rst))
  (h4:∀syn ack fin rst (i:Nat) (t:Tk),zV l=0→qY l a b c d fl now=true→tZ fl syn ack fin rst→(yng l now)[i]?=some t→ze (fun t:Tk=>t.along a b c d) (yng l now) 0=i→Q (uL l a b c d now syn ack fin rst i t)):Q (nv l a b c d fl now):=by
 unfold nv
 by_cases he:zV l=0
 ·rw [if_neg (not_not_intro he)]
  cases hb:qY l a b c d fl now with
  |false=>rw [if_pos rfl];exact h2 he hb
  |true=>
   rw [if_neg (by simp)]
   have hfl:0≤fl∧fl≤255:=by unfold qY at hb;rw [Bool.and_eq_true,decide_eq_true_eq] at hb;exact hb.2.1
   have hf:tZ fl (decide (fl.toNat / 2 % 2=1)) (decide (fl.toNat / 16 % 2=1)) (decide (fl.toNat % 2=1)) (decide (fl.toNat / 4 % 2=1)):=by
    have:=fh ⟨fl.toNat,by omega⟩
    rw [show (((⟨fl.toNat,by omega⟩:Fin 256).val:Nat):Int)=fl by simp;omega] at this
    exact this
   rcases xn (fun t:Tk=>t.along a b c d) (yng l now) 0 with ⟨g1,g2⟩|⟨i,t,g1,g2,g3,g4⟩
   ·rw [g1,show decide (0≤(-1:Int))=false from rfl]
    cases (yng l now)[((-1:Int)).toNat]?<;>exact h3 _ _ _ _ he hb hf g1
   ·rw [Nat.zero_add] at g4
    rw [g4,Int.toNat_natCast,g1,decide_eq_true (Int.natCast_nonneg i)]
    exact h4 _ _ _ _ i t he hb hf g1 g4
 ·rw [if_pos he]
  exact h1 he
theorem uD (l:List Tk) (a b c d fl now:Int) (hr:y7 l.length 48):zf Tryd.prog 85 [.snap 7 (l.map Tk.enc) false,dR a b c d,.v (.int .i64 fl),.v (.int .i64 now)] (hD (nv l a b c d fl now)):=
 jI (Q:=fun r=>zf Tryd.prog 85 [.snap 7 (l.map Tk.enc) false,dR a b c d,.v (.int .i64 fl),.v (.int .i64 now)] (hD r)) (fun h=>Za l a b c d fl now hr h) (fun h h'=>cn l a b c d fl now hr h h')
  (fun s1 s2 s3 s4 h1 h2 h3 h4=>gN l a b c d fl now hr h1 h2 s1 s2 s3 s4 h3 h4) (fun s1 s2 s3 s4 i t h1 h2 h3 h4 h5=>gJ l a b c d fl now hr h1 h2 s1 s2 s3 s4 h3 i t h4 h5)
end Go.Proofs.YtmibknbmhcnemaaDoor.T
namespace Go.Proofs.YtmibknbmhcnemaaDoor
attribute [local irreducible] zz Go
set_option maxRecDepth 100000
abbrev wkH (u:Hs) (l:List Mt) (f:Fl) (t:List UInt8) (now:Int) (lb n q:Nat):HL:=[some ⟨n,23,[wkR u (.sl lb q 5 0 l.length false) f t now]⟩,some ⟨q,5,l.map Mt.enc⟩]
theorem oB {g lb q len:Nat} (u:Hs) (f:Fl) (t:List UInt8) (now:Int) (h:q<g):yL g [wkR u (.sl lb q 5 0 len false) f t now]:=⟨⟨trivial,trivial,trivial,trivial,trivial,trivial,lX _ _,trivial,h,gj _ _,trivial,trivial,trivial,trivial,trivial,A.u7 _ _,trivial,trivial,trivial,trivial,trivial,trivial,trivial,trivial⟩,trivial⟩
theorem oy (u:Hs) (l:List Mt) (f:Fl) (t:List UInt8) (now a b c e:Int) (lb n q:Nat):zy Tryd.prog 64 [.ptr 0 n 23 0 0,T.dR a b c e] (wkH u l f t now lb n q) (fun D H=>D=.v (.bool (T.knB u.tr a b c e now))∧H=wkH u l f t now lb n q):=by
 obtain ⟨y,ey,hf⟩:=T.Zb u.tr a b c e now
 generalize T.knB u.tr a b c e now=B at *
 refine zv {} 2 Tryd.func64 fun Γ hN0 hL0=>auC ?_
 have hn:n<Γ.g0:=hN0 0 _ rfl
 have hm:q<Γ.g0:=hN0 1 _ rfl
 repeat' first|refine auS ?_|(with_reducible refine z0 hf ?_)|refine auD ?_|(refine auW ?_ ?_<;>intro h<;>try exact auH)|fail
 all_goals try exact auP
 refine A.vx trivial trivial rfl rfl hn (oB _ _ _ _ hm) hm (xU _ _)
def flT (t:List UInt8):Int:=(rdS (rpR t).1.data (rpR t).1.fr (rpR t).1.to).1.flags
def og (l:List T.Tk) (a b c d fl now:Int):List T.Tk×Bool:=if (T.nv l a b c d fl now).2.2=0 then ((T.nv l a b c d fl now).1,(T.nv l a b c d fl now).2.1) else (l,false)
theorem Y3 (t:List UInt8) (ht:t.length≤140737488351232):(0≤(rpR t).1.fr∧(rpR t).1.fr<4294967296)∧(0≤(rpR t).1.to∧(rpR t).1.to<4294967296)∧(rpR t).1.data.length≤140737488351232:=by
 unfold rpR
 split
 ·refine ⟨uc _ _,uc _ _,?_⟩
  show ((t.drop (hN t)).take _).length≤_
  rw [List.length_take,List.length_drop]
  omega
 ·exact ⟨⟨Int.le_refl _,(by decide:(0:Int)<4294967296)⟩,⟨Int.le_refl _,(by decide:(0:Int)<4294967296)⟩,Nat.zero_le _⟩
set_option maxHeartbeats 4000000 in
theorem qE (u:Hs) (hr:y7 u.tr.length 48) (l:List Mt) (f:Fl) (t:List UInt8) (ht:t.length≤140737488351232) (now a b c e:Int) (lb n q:Nat):zy Tryd.prog 66 [.ptr 0 n 23 0 0,T.dR a b c e] (wkH u l f t now lb n q) (fun D H=>D=.v (.bool (og u.tr a b c e (flT t) now).2)∧H=wkH { u with tr:=(og u.tr a b c e (flT t) now).1 } l f t now lb n q):=by
 have h1:=tJ t ht
 obtain ⟨b1,b2,b3⟩:=Y3 t ht
 have h2:=o7 (rpR t).1.data (rpR t).1.fr (rpR t).1.to b1 b2 b3
 have h3:=T.uD u.tr a b c e (flT t) now hr
 unfold og
 unfold flT at *
 generalize rdS (rpR t).1.data (rpR t).1.fr (rpR t).1.to=G at *
 generalize rpR t=P at *
 obtain ⟨⟨gfr,gto,gseq,gack,gfl,gwin,gurg,gopts,gdata⟩,ge⟩:=G
 obtain ⟨⟨tos,id,wh,mo,start,life,proto,fr,to,opt,data⟩,pe⟩:=P
 dsimp only at *
 generalize T.nv u.tr a b c e gfl now=R at *
 obtain ⟨r1,r2,r3⟩:=R
 dsimp only at *
 by_cases h0:r3=0
 ·subst h0
  rw [if_pos rfl]
  refine zv {} 2 Tryd.func66 fun Γ hN0 hL0=>auC ?_
  have hn:n<Γ.g0:=hN0 0 _ rfl
  have hm:q<Γ.g0:=hN0 1 _ rfl
  repeat' first|refine auS ?_|(first|(with_reducible refine z0 h1 ?_)|(with_reducible refine z0 h2 ?_)|(with_reducible refine z0 h3 ?_))|refine auD ?_|(refine auW ?_ ?_<;>intro h<;>try exact auH)|fail
  all_goals try exact auP
  refine A.vx trivial trivial rfl rfl hn (oB _ _ _ _ hm) hm (xU _ _)
 ·rw [if_neg h0]
  refine zv {} 2 Tryd.func66 fun Γ hN0 hL0=>auC ?_
  have hn:n<Γ.g0:=hN0 0 _ rfl
  have hm:q<Γ.g0:=hN0 1 _ rfl
  repeat' first|refine auS ?_|(first|(with_reducible refine z0 h1 ?_)|(with_reducible refine z0 h2 ?_)|(with_reducible refine z0 h3 ?_))|refine auD ?_|(refine auW ?_ ?_<;>intro h<;>try exact auH)|fail
  all_goals try exact auP
  all_goals try (exfalso;simp_all;done)
  refine A.vx trivial trivial rfl rfl hn (oB _ _ _ _ hm) hm (xU _ _)
end Go.Proofs.YtmibknbmhcnemaaDoor
