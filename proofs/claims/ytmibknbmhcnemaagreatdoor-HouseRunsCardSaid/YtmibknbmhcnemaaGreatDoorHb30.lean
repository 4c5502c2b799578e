import Derived.Test.YtmibknbmhcnemaaGreatDoorHb15
set_option linter.unusedVariables false
set_option linter.unusedSimpArgs false
namespace Go.Proofs.YtmibknbmhcnemaaGreatDoor.T
def knB (l:List Tk) (a b c d now:Int):Bool:=decide (rp l now=0)&&l.any (fun t=>t.along a b c d && !t.old now)
theorem V8 (l:List Tk) (a b c d now:Int):∃ (t:Tk) (e:Int),zd Tryz.prog 152 [.snap 7 (l.map Tk.enc) false,dR a b c d,.v (.int .i64 now)] (.tup [dT t.a t.b t.c t.d t.s t.o t.x,.v (.bool (knB l a b c d now)),.v (.int .i64 e)]):=by
 by_cases h0:rp l now=0
 ·have hk:knB l a b c d now=l.any (fun t=>t.along a b c d && !t.old now):=by unfold knB;rw [decide_eq_true h0,Bool.true_and]
  rcases yD (fun t:Tk=>t.along a b c d) l 0 with ⟨h1,h2⟩|⟨i,t,h1,h2,h3,h4⟩
  ·have e:knB l a b c d now=false:=by
    rw [hk,List.any_eq_false]
    intro x hx
    simp [h2 x hx]
   rw [e]
   exact ⟨⟨0,0,0,0,0,0,0⟩,0,bq l a b c d now h0 h2⟩
  ·have hg:=(zr (show y8 l=0 by have:=ud l now;omega)).2
   have e:knB l a b c d now = !t.old now:=by
    rw [hk,Bool.eq_iff_iff,List.any_eq_true]
    constructor
    ·rintro ⟨y,hy,hq⟩
     rw [Bool.and_eq_true] at hq
     obtain ⟨j,hj⟩:=List.mem_iff_getElem?.1 hy
     obtain rfl:=bL hg h1 hj h2 hq.1
     rw [Option.some.inj (h1.symm.trans hj)]
     exact hq.2
    ·intro hq
     exact ⟨t,List.mem_of_getElem? h1,by rw [h2,hq];rfl⟩
   rw [e]
   have hs:=Wy l a b c d now h0 i t h1 (by rw [h4];omega)
   cases ho:t.old now with
   |true=>rw [ho,if_pos rfl] at hs;exact ⟨⟨0,0,0,0,0,0,0⟩,0,hs⟩
   |false=>rw [ho,if_neg (by simp)] at hs;exact ⟨t,0,hs⟩
 ·have e:knB l a b c d now=false:=by unfold knB;rw [decide_eq_false h0,Bool.false_and]
  rw [e]
  exact ⟨⟨0,0,0,0,0,0,0⟩,_,X7 l a b c d now h0⟩
def qp (l:List Tk) (a b c d fl now:Int):List Tk×Bool×Int:=
 if y8 l≠0 then (l,false,y8 l) else if sr l a b c d fl now=false then (l,false,1) else
 match decide (0≤zl (fun t:Tk=>t.along a b c d) (yng l now) 0),(yng l now)[(zl (fun t:Tk=>t.along a b c d) (yng l now) 0).toNat]? with
 |true,some t=>xa l a b c d now (decide (fl.toNat / 2 % 2=1)) (decide (fl.toNat / 16 % 2=1)) (decide (fl.toNat % 2=1)) (decide (fl.toNat / 4 % 2=1)) (zl (fun t:Tk=>t.along a b c d) (yng l now) 0).toNat t
 |_,_=>vI l a b c d now (decide (fl.toNat / 2 % 2=1)) (decide (fl.toNat / 16 % 2=1)) (decide (fl.toNat % 2=1)) (decide (fl.toNat / 4 % 2=1))
theorem qI {l:List Tk} {a b c d fl now:Int} {Q:List Tk×Bool×Int→Prop} (h1:y8 l≠0→Q (l,false,y8 l)) (h2:y8 l=0→sr l a b c d fl now=false→Q (l,false,1))
  (h3:∀syn ack fin rst,y8 l=0→sr l a b c d fl now=true→vL fl syn ack fin rst→zl (fun t:Tk=>t.along a b c d) (yng l now) 0 = -1→Q (vI l a b c d now syn ack fin rst))
  (h4:∀syn ack fin rst (i:Nat) (t:Tk),y8 l=0→sr l a b c d fl now=true→vL fl syn ack fin rst→(yng l now)[i]?=some t→zl (fun t:Tk=>t.along a b c d) (yng l now) 0=i→Q (xa l a b c d now syn ack fin rst i t)):Q (qp l a b c d fl now):=by
 unfold qp
 by_cases he:y8 l=0
 ·rw [if_neg (not_not_intro he)]
  cases hb:sr l a b c d fl now with
  |false=>rw [if_pos rfl];exact h2 he hb
  |true=>
   rw [if_neg (by simp)]
   have hfl:0≤fl∧fl≤255:=by unfold sr at hb;rw [Bool.and_eq_true,decide_eq_true_eq] at hb;exact hb.2.1
   have hf:vL fl (decide (fl.toNat / 2 % 2=1)) (decide (fl.toNat / 16 % 2=1)) (decide (fl.toNat % 2=1)) (decide (fl.toNat / 4 % 2=1)):=by
    have:=Ze ⟨fl.toNat,by omega⟩
    rw [show (((⟨fl.toNat,by omega⟩:Fin 256).val:Nat):Int)=fl by simp;omega] at this
    exact this
   rcases yD (fun t:Tk=>t.along a b c d) (yng l now) 0 with ⟨g1,g2⟩|⟨i,t,g1,g2,g3,g4⟩
   ·rw [g1,show decide (0≤(-1:Int))=false from rfl]
    cases (yng l now)[((-1:Int)).toNat]?<;>exact h3 _ _ _ _ he hb hf g1
   ·rw [Nat.zero_add] at g4
    rw [g4,Int.toNat_natCast,g1,decide_eq_true (Int.natCast_nonneg i)]
    exact h4 _ _ _ _ i t he hb hf g1 g4
 ·rw [if_pos he]
  exact h1 he
theorem o4 (l:List Tk) (a b c d fl now:Int) (hr:zZ l.length 48):zd Tryz.prog 157 [.snap 7 (l.map Tk.enc) false,dR a b c d,.v (.int .i64 fl),.v (.int .i64 now)] (hD (qp l a b c d fl now)):=
 qI (Q:=fun r=>zd Tryz.prog 157 [.snap 7 (l.map Tk.enc) false,dR a b c d,.v (.int .i64 fl),.v (.int .i64 now)] (hD r)) (fun h=>XP l a b c d fl now hr h) (fun h h'=>ZI l a b c d fl now hr h h')
  (fun s1 s2 s3 s4 h1 h2 h3 h4=>bI l a b c d fl now hr h1 h2 s1 s2 s3 s4 h3 h4) (fun s1 s2 s3 s4 i t h1 h2 h3 h4 h5=>bQ l a b c d fl now hr h1 h2 s1 s2 s3 s4 h3 i t h4 h5)
end Go.Proofs.YtmibknbmhcnemaaGreatDoor.T
