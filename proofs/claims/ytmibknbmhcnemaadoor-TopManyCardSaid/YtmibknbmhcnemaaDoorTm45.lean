import Derived.Test.YtmibknbmhcnemaaDoorTm44
set_option linter.unusedVariables false
set_option linter.unusedSimpArgs false
namespace Go.Proofs.YtmibknbmhcnemaaDoor
open A (Mp bs wM zF xv tkB pT n4 inR sP xz vR tkd sU yng isP i6 nIn)
theorem tB {α:Type} {ok:List α→α→Bool}:∀(l pre:List α),(∀(k:Nat) (t:α),l[k]?=some t→ok (pre++l.take k) t=true)→y9 ok pre l=true
 |[],pre,h=>rfl
 |x::r,pre,h=>by
  simp only [y9,Bool.and_eq_true]
  refine ⟨by simpa using h 0 x rfl,tB r (pre++[x]) fun k t ht=>?_⟩
  have:=h (k+1) t (by simpa using ht)
  rw [List.append_assoc]
  simpa using this
theorem fS {α β:Type} {f:α→β} {l:List α} (h:∀(i j:Nat) (x y:α),l[i]?=some x→l[j]?=some y→f x=f y→i=j):(l.map f).Nodup:=by
 rw [List.nodup_iff_pairwise_ne,List.pairwise_map,List.pairwise_iff_getElem]
 intro i j hi hj hij e
 have:=h i j _ _ (List.getElem?_eq_getElem hi) (List.getElem?_eq_getElem hj) e
 omega
theorem lH {α:Type} {l:List α} {k:Nat} {x:α} (h:x∈l.take k):∃j,j<k∧l[j]?=some x:=by
 obtain ⟨j,hj⟩:=List.mem_iff_getElem?.1 h
 rw [List.getElem?_take] at hj
 split at hj
 ·exact ⟨j,by assumption,hj⟩
 ·cases hj
structure MI (port:Int) (k:Nat) (ms:List Mp):Prop where
 len:ms.length=k
 po:0≤port∧port≤65535
 k64:k≤64
 at':∀(i:Nat) (m:Mp),ms[i]?=some m→(m.pr=17∧m.ad=100+(i:Int)∧m.po=port∧m.tm=(i:Int))∧1024≤m.ou∧m.ou≤1087
 inj:∀(i j:Nat) (x y:Mp),ms[i]?=some x→ms[j]?=some y→x.ou=y.ou→i=j
abbrev X0 (ms:List Mp):Nt:=⟨100,1024,bs 1024 17 ms,2048,0,ms⟩
section
variable {port:Int} {k:Nat} {ms:List Mp} (h:MI port k ms)
include h
theorem MI.lt {i:Nat} {m:Mp} (hm:ms[i]?=some m):i<k:=by
 have:=(List.getElem?_eq_some_iff.1 hm).1
 rw [h.len] at this
 exact this
theorem MI.r1:inR 1024 17 ms:=fun m hm _=>by
 obtain ⟨i,hi⟩:=List.mem_iff_getElem?.1 hm
 have:=(h.at' i m hi).2
 omega
theorem MI.nd:(ms.map xv).Nodup:=fS fun i j x y hx hy e=>h.inj i j x y hx hy (by unfold xv at e;exact (Prod.mk.inj e).2)
theorem MI.bsl:bs 1024 17 ms<18446744073709551616:=(A.vO 1024 17 ms h.r1 h.nd).1
theorem MI.err:zF 100 1024 (bs 1024 17 ms) 2048 0 ms=0:=by
 unfold zF
 have e:(decide ((1:Int)≤100∧(100:Int)≤1000000)&&(A.pOk 1024&&A.pOk 2048))=true:=by decide
 rw [e,if_pos rfl,←A.qk 1024 2048 _ 0 ms h.bsl (by decide)]
 have h1:y9 pT [] ms=true:=tB ms [] fun i m hm=>by
  obtain ⟨⟨p1,p2,p3,p4⟩,p5⟩:=h.at' i m hm
  have:=h.lt hm
  have:=h.k64
  have:=h.po
  unfold pT
  simp only [Bool.and_eq_true,decide_eq_true_eq,List.all_eq_true,Bool.not_eq_true']
  refine ⟨⟨⟨.inl p1,by omega⟩,by omega⟩,fun o ho=>?_⟩
  rw [List.nil_append] at ho
  obtain ⟨j,hj,ho⟩:=lH ho
  obtain ⟨⟨o1,o2,o3,o4⟩,o5⟩:=h.at' j o ho
  unfold sP
  rw [decide_eq_false_iff_not]
  rintro (q|⟨-,q|q⟩)
  ·omega
  ·have:=h.inj j i o m ho hm q
   omega
  ·omega
 have h2:n4 1024 2048 (bs 1024 17 ms) 0 ms=true:=(A.lC h.nd).2 fun q=>by
  obtain ⟨q1,q2⟩:=q
  have hm:∀o:Int,sU 17 ms o=true→1024≤o∧o≤1087:=fun o ho=>by
   unfold sU at ho
   obtain ⟨m,hm,e⟩:=List.any_eq_true.1 ho
   obtain ⟨i,hi⟩:=List.mem_iff_getElem?.1 hm
   have:=(h.at' i m hi).2
   have:=(of_decide_eq_true e).2
   omega
  constructor
  ·rintro (⟨r1,r2⟩|⟨r1,r2⟩)
   ·dsimp only at r1 r2
    subst r1
    have:=A.qb r2
    rw [A.l_ h.r1 h.nd q2 (by omega)] at r2
    exact A.wQ.2 r2
   ·have:=(A.qb r2).2.2
    simp at this
  ·intro hq
   obtain ⟨m,hm',e⟩:=List.mem_map.1 hq
   obtain ⟨i,hi⟩:=List.mem_iff_getElem?.1 hm'
   unfold xv at e
   obtain ⟨e1,e2⟩:=Prod.mk.inj e
   have e3:=(h.at' i m hi).1.1
   left
   dsimp only
   refine ⟨by omega,?_⟩
   have hq2:sU 17 ms q2=true:=A.wQ.1 (by rw [←e1,e3] at hq;exact hq)
   have:=hm q2 hq2
   rw [A.l_ h.r1 h.nd q2 (by omega)]
   exact hq2
 rw [h1,h2]
 rfl
theorem MI.free (hk:k<64):¬bs 1024 17 ms=18446744073709551615:=by
 intro hf
 have hb:=(A.nR h.bsl).1 hf
 have hp:=A.mH ((List.range 64).map fun (j:Nat)=>(1024:Int)+(j:Int)) (ms.map (·.ou)) (A.xB (fun a b e=>by omega) List.nodup_range) (fun x hx=>by
  obtain ⟨j,hj,rfl⟩:=List.mem_map.1 hx
  have hj:=List.mem_range.1 hj
  have:=hb j hj
  rw [(A.vO 1024 17 ms h.r1 h.nd).2 j] at this
  obtain ⟨m,hm,e⟩:=List.any_eq_true.1 this
  obtain ⟨i,hi⟩:=List.mem_iff_getElem?.1 hm
  have:=(h.at' i m hi).2
  have:=(of_decide_eq_true e).2
  exact List.mem_map.2 ⟨m,hm,by omega⟩)
 simp only [List.length_map,List.length_range] at hp
 have:=h.len
 omega
theorem MI.yng {now:Int} (hn:now≤64):A.yng 100 now ms=ms:=by
 unfold A.yng A.ue
 refine List.filter_eq_self.2 fun m hm=>?_
 obtain ⟨i,hi⟩:=List.mem_iff_getElem?.1 hm
 have:=(h.at' i m hi).1.2.2.2
 exact decide_eq_true (by omega)
theorem MI.last:A.yq ms≤(k:Int):=by
 unfold A.yq
 split
 ·rename_i m hm
  have:=(h.at' _ m hm).1.2.2.2
  have:=h.lt hm
  omega
 ·omega
def xW (ms:List Mp) (port:Int):Int:=1024+(xz 1024 (bs 1024 17 ms) port:Nat)
theorem MI.out (hk:k<64):i6 100 1024 (bs 1024 17 ms) 2048 0 ms 17 (100+(k:Int)) port (k:Int)=(bs 1024 17 (ms++[⟨17,100+(k:Int),port,xW ms port,(k:Int)⟩]),0,ms++[⟨17,100+(k:Int),port,xW ms port,(k:Int)⟩],xW ms port,0)∧MI port (k+1) (ms++[⟨17,100+(k:Int),port,xW ms port,(k:Int)⟩])∧(∀m∈ms,m.ou≠xW ms port)∧(1024≤xW ms port∧xW ms port≤1087):=by
 have hf:=h.free hk
 have hl:=A.qp (b:=1024) h.bsl hf port
 have hlast:=h.last
 have ho:1024≤xW ms port∧xW ms port≤1087:=by unfold xW;omega
 have hne:∀m∈ms,m.ou≠xW ms port:=fun m hm e=>by
  have hb:=(A.vO 1024 17 ms h.r1 h.nd).2 (xz 1024 (bs 1024 17 ms) port)
  rw [hl.2] at hb
  have:ms.any (fun m=>decide (m.pr=17∧(m.ou-1024).toNat=xz 1024 (bs 1024 17 ms) port))=true:=List.any_eq_true.2 ⟨m,hm,decide_eq_true ⟨by
   obtain ⟨i,hi⟩:=List.mem_iff_getElem?.1 hm
   exact (h.at' i m hi).1.1,by
   rw [e]
   unfold xW
   omega⟩⟩
  rw [this] at hb
  cases hb
 have hlE:vR 1024 (bs 1024 17 ms) port=0:=by
  unfold vR
  rw [if_pos (show A.pOk 1024=true by decide),if_pos h.po,if_neg hf]
 have hfn:ms.find? (isP 17 (100+(k:Int)) port)=none:=List.find?_eq_none.2 fun m hm q=>by
  obtain ⟨i,hi⟩:=List.mem_iff_getElem?.1 hm
  have:=(h.at' i m hi).1.2.1
  have:=h.lt hi
  have:=(of_decide_eq_true q).2.1
  omega
 have hb0:bs 2048 6 ms=0:=by
  have:∀l:List Mp,(∀m∈l,m.pr=17)→bs 2048 6 l=0:=fun l=>by
   induction l with
   |nil=>intro _;rfl
   |cons x r ih=>
    intro hx
    have:=hx x (by simp)
    simp only [bs,wM]
    rw [if_neg (by omega),ih fun m hm=>hx m (by simp [hm])]
  exact this ms fun m hm=>by
   obtain ⟨i,hi⟩:=List.mem_iff_getElem?.1 hm
   exact (h.at' i m hi).1.1
 refine ⟨?_,⟨by rw [List.length_append,h.len];rfl,h.po,hk,fun i m hm=>?_,fun i j x y hx hy e=>?_⟩,hne,ho⟩
 ·have hk64:=h.k64
  unfold i6
  rw [if_neg (not_not_intro h.err),if_neg (by omega),if_neg (not_not_intro ⟨h.po,hlast,by omega⟩),h.yng (by omega),hfn]
  dsimp only
  rw [if_neg (by decide),if_pos hlE,hb0,A.bV]
  have:bs 1024 17 [⟨17,100+(k:Int),port,xW ms port,(k:Int)⟩]=2 ^ xz 1024 (bs 1024 17 ms) port:=by
   simp only [bs,wM,if_true,Nat.add_zero]
   unfold xW
   congr 1
   omega
  rw [this]
  rfl
 ·rw [List.getElem?_append] at hm
  split at hm
  ·exact h.at' i m hm
  ·rename_i q
   have hi:i=k:=by
    have:=(List.getElem?_eq_some_iff.1 hm).1
    have:=h.len
    simp at *
    omega
   subst hi
   rw [h.len,Nat.sub_self] at hm
   obtain rfl:=Option.some.inj hm
   exact ⟨⟨rfl,rfl,rfl,rfl⟩,ho⟩
 ·have hs:∀(i:Nat) (x:Mp),(ms++[(⟨17,100+(k:Int),port,xW ms port,(k:Int)⟩:Mp)])[i]?=some x→(ms[i]?=some x∧i<k)∨(i=k∧x.ou=xW ms port):=fun i x hx=>by
   rw [List.getElem?_append] at hx
   split at hx
   ·exact .inl ⟨hx,h.lt hx⟩
   ·have hi:i=k:=by
     have:=(List.getElem?_eq_some_iff.1 hx).1
     have:=h.len
     simp at *
     omega
    subst hi
    rw [h.len,Nat.sub_self] at hx
    obtain rfl:=Option.some.inj hx
    exact .inr ⟨rfl,rfl⟩
  rcases hs i x hx with ⟨a1,a2⟩|⟨a1,a2⟩<;>rcases hs j y hy with ⟨b1,b2⟩|⟨b1,b2⟩
  ·exact h.inj i j x y a1 b1 e
  ·exact absurd (e.trans b2) (hne x (List.mem_of_getElem? a1))
  ·exact absurd (e.symm.trans a2) (hne y (List.mem_of_getElem? b1))
  ·omega
theorem MI.into {i:Nat} {m:Mp} (hm:ms[i]?=some m) {now:Int} (hn:0≤now∧now≤64):nIn 100 1024 (bs 1024 17 ms) 2048 0 ms 17 m.ou now=(100+(i:Int),port,0):=by
 unfold nIn
 rw [if_neg (not_not_intro h.err),if_neg (by omega),if_neg (by omega)]
 have ht:∀(j:Nat) (x:Mp),ms[j]?=some x→x.ou=m.ou→x=m:=fun j x hx e=>by
  have:=h.inj j i x m hx hm e
  subst this
  exact Option.some.inj (hx.symm.trans hm)
 have hf:ms.find? (A.inP 100 17 m.ou now)=some m:=by
  cases hq:ms.find? (A.inP 100 17 m.ou now) with
  |none=>
   have:=List.find?_eq_none.1 hq m (List.mem_of_getElem? hm)
   obtain ⟨⟨p1,p2,p3,p4⟩,p5⟩:=h.at' i m hm
   exact absurd (show A.inP 100 17 m.ou now m=true by
    exact decide_eq_true ⟨p1,rfl,by omega⟩) this
  |some x=>
   obtain ⟨j,hj⟩:=List.mem_iff_getElem?.1 (List.mem_of_find?_eq_some hq)
   have hx:=List.find?_some hq
   rw [ht j x hj (of_decide_eq_true hx).2.1]
 unfold A.inA
 rw [hf]
 obtain ⟨⟨p1,p2,p3,p4⟩,p5⟩:=h.at' i m hm
 dsimp only
 rw [p2,p3]
end
end Go.Proofs.YtmibknbmhcnemaaDoor
