import Derived.Test.YtaiileiodjicpaaGreatDoorTt32
set_option linter.unusedVariables false
set_option linter.unusedSimpArgs false
namespace Go.Proofs.YtaiileiodjicpaaGreatDoor
theorem XS {n:Nt} (h:n.wf) (he:iQ n=0):n.ms.length≤128:=by
 have h1:A.xV n.b1 n.b2 [] n.ms n.t1 n.t2 0=true:=by
  unfold iQ A.y_ at he
  split at he
  ·split at he
   ·assumption
   ·cases he
  ·cases he
 rw [←A.pA n.b1 n.b2 n.t1 n.t2 n.ms h.t1 h.t2,Bool.and_eq_true] at h1
 have h2:=h1.2
 unfold A.jo at h2
 rw [Bool.and_eq_true,decide_eq_true_eq] at h2
 have hb:∀b t,(A.wG b t).length≤64:=fun b t=>by
  unfold A.wG
  rw [List.length_map]
  exact Nat.le_trans (List.length_filter_le _ _) (by simp)
 have:=hb n.b1 n.t1
 have:=hb n.b2 n.t2
 omega
theorem Xp {n:Nt} (h:n.wf) (pr ad po now:Int) (had:0≤ad∧ad<4294967296):(rM n pr ad po now).1<18446744073709551616∧(rM n pr ad po now).2.1<18446744073709551616∧(rM n pr ad po now).2.2.1.length≤n.ms.length+1∧∀m∈(rM n pr ad po now).2.2.1,0≤m.ad∧m.ad<4294967296:=by
 have hk:∀m∈n.ms,0≤m.ad∧m.ad<4294967296:=h.ad
 have hyl:(A.yng n.l now n.ms).length≤n.ms.length:=List.length_filter_le _ _
 have hy:∀(x:A.Mp),(0≤x.ad∧x.ad<4294967296)→∀(Y:List A.Mp),(∀m∈Y,m∈n.ms)→∀m∈Y++[x],0≤m.ad∧m.ad<4294967296:=fun x hx Y hY m hm=>by
  rcases List.mem_append.1 hm with hm|hm
  ·exact hk m (hY m hm)
  ·rw [List.mem_singleton.1 hm];exact hx
 have hys:∀m∈A.yng n.l now n.ms,m∈n.ms:=fun m hm=>(List.mem_filter.1 hm).1
 refine A.kb n.l n.b1 n.t1 n.b2 n.t2 n.ms pr ad po now (Q:=fun r=>r.1<18446744073709551616∧r.2.1<18446744073709551616∧r.2.2.1.length≤n.ms.length+1∧∀m∈r.2.2.1,0≤m.ad∧m.ad<4294967296) (fun _=>⟨h.t1,h.t2,Nat.le_succ _,hk⟩) (fun _ _=>⟨h.t1,h.t2,Nat.le_succ _,hk⟩) (fun _ _ _=>⟨h.t1,h.t2,Nat.le_succ _,hk⟩) (fun he _ _ i m0 hi _ hm=>?_) (fun he _ _ hno=>?_)
 all_goals
  obtain ⟨-,-,hg,-,-⟩:=A.qE h.t1 h.t2 he
  have hgY:A.tj n.b1 n.b2 (A.yng n.l now n.ms):=hg.sub (List.filter_sublist (p:=A.uH n.l now) (l:=n.ms))
  have g1:=(A.t7 n.b1 17 _ hgY.r1 hgY.nd).1
  have g2:=(A.t7 n.b2 6 _ hgY.r2 hgY.nd).1
 ·refine ⟨g1,g2,?_,hy _ had _ (fun m hm=>hys m (List.mem_filter.1 hm).1)⟩
  dsimp only
  rw [List.length_append]
  exact Nat.add_le_add (Nat.le_trans (List.length_filter_le _ _) hyl) (Nat.le_refl _)
 ·have hl:∀x:A.Mp,(A.yng n.l now n.ms++[x]).length≤n.ms.length+1:=fun x=>by rw [List.length_append];exact Nat.add_le_add hyl (Nat.le_refl _)
  refine ⟨fun _ _=>⟨h.t1,h.t2,Nat.le_succ _,hk⟩,fun _ _=>⟨h.t1,h.t2,Nat.le_succ _,hk⟩,fun _ h0=>?_,fun _ h0=>?_⟩
  ·have hK:=A.r5 (b:=n.b2) g2 (A.rd h0).2.2 po
   exact ⟨g1,A.eN g2 hK.1 hK.2,hl _,hy _ had _ hys⟩
  ·have hK:=A.r5 (b:=n.b1) g1 (A.rd h0).2.2 po
   exact ⟨A.eN g1 hK.1 hK.2,g2,hl _,hy _ had _ hys⟩
theorem k8 (l:List T.Tk) (a b c d fl now:Int):(qn l a b c d fl now).1.length≤l.length+1:=by
 have hy:(T.yng l now).length≤l.length:=List.length_filter_le _ _
 have h:(T.o7 l a b c d fl now).1.length≤l.length+1:=by
  refine T.nI (Q:=fun r=>r.1.length≤l.length+1) (fun _=>Nat.le_succ _) (fun _ _=>Nat.le_succ _) (fun s1 s2 s3 s4 _ _ _ _=>?_) (fun s1 s2 s3 s4 i t _ _ _ _ _=>?_)
  ·unfold T.sM
   split
   ·exact Nat.le_succ_of_le hy
   ·split
    ·exact Nat.le_succ _
    ·rw [List.length_append];exact Nat.add_le_add hy (Nat.le_refl _)
  ·unfold T.uU
   split
   ·dsimp only;rw [List.length_append,List.length_take,List.length_drop];omega
   ·split
    ·exact Nat.le_succ_of_le hy
    ·dsimp only
     rw [List.length_append,List.length_append,List.length_take,List.length_drop,List.length_singleton]
     omega
 unfold qn
 split
 ·exact h
 ·exact Nat.le_succ _
theorem Z_ (u:Hs) (a now n:Int):(jf u a now n).1.length≤u.ms.length+1:=by
 unfold jf
 split
 ·rw [List.length_append]
  exact Nat.add_le_add (List.length_filter_le _ _) (Nat.le_refl _)
 ·dsimp only
  rw [List.length_append,List.length_drop,List.length_singleton]
  omega
theorem mz {n b:Nat} (h:n≤65) (hb:b≤48):y8 n b:=by
 have:n*b≤65*48:=Nat.mul_le_mul h hb
 unfold y8 maxLen
 omega
theorem VQ {u:Hs} (hw:u.wf) (hE:lI u=0) (inside:Bool) (s:List UInt8) (now:Int):(goR u inside s now).1.wf:=by
 obtain ⟨-,ht,hn,hf,-⟩:=js hE
 have l1:=cG hf
 have l2:=(T.zR ht).1
 have l3:=XS hw.n hn
 have w1:∀(ms:List Mt) (tr:List T.Tk) (n:Nt),ms.length≤65→tr.length≤65→n.wf→Hs.wf { u with ms:=ms,tr:=tr,n:=n }:=fun ms tr n h1 h2 h3=>⟨hw.p,hw.rs,mz h1 (by decide),mz h2 (by decide),h3⟩
 unfold goR
 split
 ·exact hw
 rename_i he
 have hfo:=aZ (Classical.not_not.1 he)
 split
 ·exact hw
 split
 ·exact hw
 dsimp only
 have hm:=Z_ u (edR s).1.fr now ((H.tK s).1.length:Nat)
 generalize jf u (edR s).1.fr now ((H.tK s).1.length:Nat)=m at *
 split
 ·exact w1 m.1 u.tr u.n (by omega) (by omega) hw.n
 split
 ·refine w1 _ _ _ (by omega) ?_ ?_
  ·have h:=k8 u.tr (edR s).1.fr (edR s).1.to (edR s).1.fp (edR s).1.tp (flT (H.tK s).1) now
   unfold t8 vW
   split
   ·show u.tr.length≤65;omega
   ·split
    ·dsimp only;omega
    ·split<;>(dsimp only;split<;>omega)
  ·obtain ⟨g1,g2,g3,g4⟩:=Xp hw.n (edR s).1.proto (edR s).1.fr (edR s).1.fp now hfo.fr
   unfold t8 vW
   split
   ·exact hw.n
   ·split
    ·exact hw.n
    ·split
     ·exact hw.n
     ·exact ⟨g1,g2,by dsimp only;omega,g4⟩
 ·refine w1 _ _ _ (by omega) ?_ hw.n
  have h:=k8 u.tr (edR s).1.fr (rD u.n (edR s).1.proto (edR s).1.tp now).1 (edR s).1.fp (rD u.n (edR s).1.proto (edR s).1.tp now).2.1 (flT (H.tK s).1) now
  unfold sS uY
  split
  ·show u.tr.length≤65;omega
  ·split
   ·show u.tr.length≤65;omega
   ·split
    ·dsimp only;omega
    ·dsimp only;split<;>omega
theorem WJ {u:Hs} (hw:u.wf) (inside:Bool) (s:List UInt8) (now:Int):(sm u inside s now).1.wf:=by
 unfold sm
 split
 ·exact hw
 ·rename_i h
  split
  ·exact hw
  ·exact VQ hw (Classical.not_not.1 h) inside s now
structure Cm where
 (ins:Bool) (s:List UInt8) (tm:Int)
abbrev Cm.enc (c:Cm):List DV:=[.v (.bool c.ins),.v (.string (mkS c.s)),.v (.int .i64 c.tm)]
structure Wn where
 (s:List UInt8) (why err:Int)
abbrev Wn.enc (c:Wn):List DV:=[.v (.string (mkS c.s)),.v (.int .i64 c.why),.v (.int .i64 c.err)]
def oq (p:Hs×List Wn) (c:Cm):Hs×List Wn:=((sm p.1 c.ins c.s c.tm).1,p.2++[⟨(sm p.1 c.ins c.s c.tm).2.1,(sm p.1 c.ins c.s c.tm).2.2.1,(sm p.1 c.ins c.s c.tm).2.2.2⟩])
def sr (u:Hs) (l:List Cm):Hs×List Wn:=l.foldl oq (u,[])
theorem bM {u:Hs} {l:List Cm} {k:Nat} {t:Cm} (h:l[k]?=some t):sr u (l.take (k+1))=oq (sr u (l.take k)) t:=by
 unfold sr
 rw [List.take_add_one,h,List.foldl_append]
 rfl
theorem jG {u:Hs} (hw:u.wf):∀l:List Cm,(sr u l).1.wf∧(sr u l).2.length=l.length:=by
 intro l
 have:∀(l:List Cm) (p:Hs×List Wn),p.1.wf→(l.foldl oq p).1.wf∧(l.foldl oq p).2.length=p.2.length+l.length:=by
  intro l
  induction l with
  |nil=>exact fun p h=>⟨h,rfl⟩
  |cons c r ih=>
   intro p h
   obtain ⟨h1,h2⟩:=ih (oq p c) (WJ h _ _ _)
   refine ⟨h1,?_⟩
   rw [List.foldl_cons,h2]
   unfold oq
   simp
   omega
 have h:=this l (u,[]) hw
 exact ⟨h.1,by rw [show (sr u l)=l.foldl oq (u,[]) from rfl,h.2];simp⟩
end Go.Proofs.YtaiileiodjicpaaGreatDoor
