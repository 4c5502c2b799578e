import Derived.Test.YtmibknbmhcnemaaDoorTm41
set_option linter.unusedVariables false
set_option linter.unusedSimpArgs false
namespace Go.Proofs.YtmibknbmhcnemaaDoor
attribute [local irreducible] zz Go
set_option maxRecDepth 100000
theorem cj (n:Nt) (h:n.wf) (pr out now:Int):0≤(rh n pr out now).1∧(rh n pr out now).1<4294967296:=by
 have h0:(0:Int)≤0∧(0:Int)<4294967296:=by decide
 unfold rh A.nIn
 split
 ·exact h0
 ·split
  ·exact h0
  ·split
   ·exact h0
   ·unfold A.inA
    split
    ·rename_i m hm
     exact h.ad m (List.mem_of_find?_eq_some hm)
    ·exact h0
theorem eU {s:List UInt8} (h:(H.tj s).2=0):(H.tj s).1.length≤65535:=by
 have hw:=zo s 2
 unfold H.tj at h ⊢
 split at h
 ·rename_i q
  exact absurd h q
 ·rename_i q
  rw [if_neg q]
  split at h
  ·cases h
  ·rename_i q2
   rw [if_neg q2]
   show (H.cO s).length≤65535
   unfold H.cO
   simp only [List.length_append,List.length_take,List.length_drop,wd,List.length_cons,List.length_nil]
   omega
set_option maxHeartbeats 8000000 in
theorem f7 (u:Hs) (hw:u.wf) (hE:oT u=0) (inside:Bool) (s:List UInt8) (hs:s.length≤140737488351232) (now:Int) (hnow:tM u≤now∧now≤1099511627776) (n m:Nat) :
  wU Tryd.prog 18 [.ptr 0 n 23 0 0,.v (.bool inside),.v (.string (mkS s))] [some ⟨n,23,[wkR u (.sl 1 m 5 0 u.ms.length false) fl0 [] now]⟩,some ⟨m,5,u.ms.map Mt.enc⟩] 1 (fun q d H=>d=.tup [.v (.string (mkS (goR u inside s now).2.2.2.1)),.v (.int .i64 (goR u inside s now).2.2.2.2)]∧H=goH (goR u inside s now) now n q):=by
 have he:=uB s hs
 have hh:=H.dA s hs
 have hed:=Yn (s:=s)
 have hhl:=eU (s:=s)
 unfold goR
 generalize edR s=E at *
 obtain ⟨f,e⟩:=E
 generalize H.tj s=HP at *
 obtain ⟨t,e2⟩:=HP
 dsimp only at *
 obtain ⟨fr,to,proto,fp,tp⟩:=f
 dsimp only at *
 by_cases h1:e=0
 rotate_left
 ·rw [if_pos h1]
  have hme:True:=trivial
  have hlv:Nat→True:=fun _=>trivial
  have hen:Nat→True:=fun _=>trivial
  refine xf {} 2 Tryd.func18 fun Γ hN0 hL0=>auC ?_
  have hn:n<Γ.g0:=hN0 0 _ rfl
  have hm:m<Γ.g0:=hN0 1 _ rfl
  repeat' first|refine auS ?_|(first|((with_reducible refine zu 40 ?_);(refine ya [0,1] [4] [0,1,4] rfl (by decide) rfl rfl hme ?_))|((with_reducible refine zu 41 ?_);(refine zg [0,4] (by decide) rfl rfl (hlv _) ?_))|((with_reducible refine zu 42 ?_);(refine zg [0,4] (by decide) rfl rfl (hen _) ?_))|(with_reducible refine z0 he ?_)|(with_reducible refine z0 hh ?_))|refine auD ?_|(refine auW ?_ ?_<;>intro h<;>try exact auH)|fail
  all_goals try exact auP
  all_goals try (exfalso;simp_all;done)
  refine rN (yZ (pB u ⟨fr,to,proto,fp,tp⟩ [] now _)) ?_
  exact td [0,2,1] [Γ.g0] trivial (by decide) rfl (fun a ha=>by simp at ha;subst ha;exact ⟨1,_,rfl,rfl⟩) (fun q=>⟨⟨rfl,trivial⟩,⟨rfl,trivial⟩,rfl⟩) (fun q=>⟨⟨.inr ⟨hn,rfl⟩,rfl,vK u _ _ now (.inl ⟨0,rfl,rfl⟩),rfl⟩,⟨.inl ⟨0,rfl,rfl⟩,rfl,yk _ (xU _ _)⟩,rfl⟩)
 subst h1
 rw [if_neg (not_not_intro rfl)]
 cases inside with
 |false=>
  by_cases h2:to=u.p.ou
  rotate_left
  ·rw [if_pos ⟨rfl,h2⟩]
   have hme:True:=trivial
   have hlv:Nat→True:=fun _=>trivial
   have hen:Nat→True:=fun _=>trivial
   refine xf {} 2 Tryd.func18 fun Γ hN0 hL0=>auC ?_
   have hn:n<Γ.g0:=hN0 0 _ rfl
   have hm:m<Γ.g0:=hN0 1 _ rfl
   repeat' first|refine auS ?_|(first|((with_reducible refine zu 40 ?_);(refine ya [0,1] [4] [0,1,4] rfl (by decide) rfl rfl hme ?_))|((with_reducible refine zu 41 ?_);(refine zg [0,4] (by decide) rfl rfl (hlv _) ?_))|((with_reducible refine zu 42 ?_);(refine zg [0,4] (by decide) rfl rfl (hen _) ?_))|(with_reducible refine z0 he ?_)|(with_reducible refine z0 hh ?_))|refine auD ?_|(refine auW ?_ ?_<;>intro h<;>try exact auH)|fail
   all_goals try exact auP
   all_goals try (exfalso;simp_all;done)
   refine rN (yZ (pB u ⟨fr,to,proto,fp,tp⟩ [] now _)) ?_
   exact td [0,2,1] [Γ.g0] trivial (by decide) rfl (fun a ha=>by simp at ha;subst ha;exact ⟨1,_,rfl,rfl⟩) (fun q=>⟨⟨rfl,trivial⟩,⟨rfl,trivial⟩,rfl⟩) (fun q=>⟨⟨.inr ⟨hn,rfl⟩,rfl,vK u _ _ now (.inl ⟨0,rfl,rfl⟩),rfl⟩,⟨.inl ⟨0,rfl,rfl⟩,rfl,yk _ (xU _ _)⟩,rfl⟩)
  rw [if_neg (fun q=>q.2 h2)]
  by_cases h3:e2=0
  rotate_left
  ·rw [if_pos h3]
   have hme:True:=trivial
   have hlv:Nat→True:=fun _=>trivial
   have hen:Nat→True:=fun _=>trivial
   refine xf {} 2 Tryd.func18 fun Γ hN0 hL0=>auC ?_
   have hn:n<Γ.g0:=hN0 0 _ rfl
   have hm:m<Γ.g0:=hN0 1 _ rfl
   repeat' first|refine auS ?_|(first|((with_reducible refine zu 40 ?_);(refine ya [0,1] [4] [0,1,4] rfl (by decide) rfl rfl hme ?_))|((with_reducible refine zu 41 ?_);(refine zg [0,4] (by decide) rfl rfl (hlv _) ?_))|((with_reducible refine zu 42 ?_);(refine zg [0,4] (by decide) rfl rfl (hen _) ?_))|(with_reducible refine z0 he ?_)|(with_reducible refine z0 hh ?_))|refine auD ?_|(refine auW ?_ ?_<;>intro h<;>try exact auH)|fail
   all_goals try exact auP
   all_goals try (exfalso;simp_all;done)
   refine rN (yZ (pB u ⟨fr,to,proto,fp,tp⟩ t now _)) ?_
   exact td [0,2,1] [Γ.g0] trivial (by decide) rfl (fun a ha=>by simp at ha;subst ha;exact ⟨1,_,rfl,rfl⟩) (fun q=>⟨⟨rfl,trivial⟩,⟨rfl,trivial⟩,rfl⟩) (fun q=>⟨⟨.inr ⟨hn,rfl⟩,rfl,vK u _ _ now (.inl ⟨0,rfl,rfl⟩),rfl⟩,⟨.inl ⟨0,rfl,rfl⟩,rfl,yk _ (xU _ _)⟩,rfl⟩)
  subst h3
  rw [if_neg (not_not_intro rfl)]
  have hme:=kN u hE ⟨fr,to,proto,fp,tp⟩ t now hnow (hhl rfl) n m
  have htl:t.length≤140737488351232:=by have:=hhl rfl;omega
  have hfo:=hed rfl
  dsimp only at hme ⊢
  generalize r6 u fr now (t.length:Nat)=mm at *
  obtain ⟨l,ok⟩:=mm
  dsimp only at hme ⊢
  have hlv:=qO u hw l ⟨fr,to,proto,fp,tp⟩ hfo t htl now 4 n
  have hen:=qL u hw l ⟨fr,to,proto,fp,tp⟩ hfo t htl now (cj u.n hw.n _ _ _) 4 n
  generalize um u ⟨fr,to,proto,fp,tp⟩ t now=lv at *
  generalize uN u ⟨fr,to,proto,fp,tp⟩ t now=en at *
  obtain ⟨v1,v2,v3,v4⟩:=lv
  obtain ⟨w1,w2,w3⟩:=en
  dsimp only at hlv hen ⊢
  cases ok with
  |false=>
   rw [if_pos rfl]
   refine xf {} 2 Tryd.func18 fun Γ hN0 hL0=>auC ?_
   have hn:n<Γ.g0:=hN0 0 _ rfl
   have hm:m<Γ.g0:=hN0 1 _ rfl
   repeat' first|refine auS ?_|(first|((with_reducible refine zu 40 ?_);(refine ya [0,1] [4] [0,1,4] rfl (by decide) rfl rfl hme ?_))|((with_reducible refine zu 41 ?_);(refine zg [0,4] (by decide) rfl rfl (hlv _) ?_))|((with_reducible refine zu 42 ?_);(refine zg [0,4] (by decide) rfl rfl (hen _) ?_))|(with_reducible refine z0 he ?_)|(with_reducible refine z0 hh ?_))|refine auD ?_|(refine auW ?_ ?_<;>intro h<;>try exact auH)|fail
   all_goals try exact auP
   all_goals try (exfalso;simp_all;done)
   exact td [0,1,4] [Γ.g0] trivial (by decide) rfl (fun a ha=>by simp at ha;subst ha;exact ⟨4,_,rfl,rfl⟩) (fun q=>⟨⟨rfl,trivial⟩,⟨rfl,trivial⟩,rfl⟩) (fun q=>⟨⟨.inr ⟨hn,rfl⟩,rfl,vK _ _ _ now (.inl ⟨0,rfl,rfl⟩),rfl⟩,⟨.inl ⟨0,rfl,rfl⟩,rfl,yk _ (xU _ _)⟩,rfl⟩)
  |true=>
   rw [if_neg (by decide),if_neg (by decide)]
   refine xf {} 2 Tryd.func18 fun Γ hN0 hL0=>auC ?_
   have hn:n<Γ.g0:=hN0 0 _ rfl
   have hm:m<Γ.g0:=hN0 1 _ rfl
   repeat' first|refine auS ?_|(first|((with_reducible refine zu 40 ?_);(refine ya [0,1] [4] [0,1,4] rfl (by decide) rfl rfl hme ?_))|((with_reducible refine zu 41 ?_);(refine zg [0,4] (by decide) rfl rfl (hlv _) ?_))|((with_reducible refine zu 42 ?_);(refine zg [0,4] (by decide) rfl rfl (hen _) ?_))|(with_reducible refine z0 he ?_)|(with_reducible refine z0 hh ?_))|refine auD ?_|(refine auW ?_ ?_<;>intro h<;>try exact auH)|fail
   all_goals try exact auP
   all_goals try (exfalso;simp_all;done)
   exact td [0,1,4] [Γ.g0] trivial (by decide) rfl (fun a ha=>by simp at ha;subst ha;exact ⟨4,_,rfl,rfl⟩) (fun q=>⟨⟨rfl,trivial⟩,⟨rfl,trivial⟩,rfl⟩) (fun q=>⟨⟨.inr ⟨hn,rfl⟩,rfl,vK _ _ _ now (.inl ⟨0,rfl,rfl⟩),rfl⟩,⟨.inl ⟨0,rfl,rfl⟩,rfl,yk _ (xU _ _)⟩,rfl⟩)
 |true=>
  rw [if_neg (fun q=>Bool.noConfusion q.1)]
  by_cases h3:e2=0
  rotate_left
  ·rw [if_pos h3]
   have hme:True:=trivial
   have hlv:Nat→True:=fun _=>trivial
   have hen:Nat→True:=fun _=>trivial
   refine xf {} 2 Tryd.func18 fun Γ hN0 hL0=>auC ?_
   have hn:n<Γ.g0:=hN0 0 _ rfl
   have hm:m<Γ.g0:=hN0 1 _ rfl
   repeat' first|refine auS ?_|(first|((with_reducible refine zu 40 ?_);(refine ya [0,1] [4] [0,1,4] rfl (by decide) rfl rfl hme ?_))|((with_reducible refine zu 41 ?_);(refine zg [0,4] (by decide) rfl rfl (hlv _) ?_))|((with_reducible refine zu 42 ?_);(refine zg [0,4] (by decide) rfl rfl (hen _) ?_))|(with_reducible refine z0 he ?_)|(with_reducible refine z0 hh ?_))|refine auD ?_|(refine auW ?_ ?_<;>intro h<;>try exact auH)|fail
   all_goals try exact auP
   all_goals try (exfalso;simp_all;done)
   refine rN (yZ (pB u ⟨fr,to,proto,fp,tp⟩ t now _)) ?_
   exact td [0,2,1] [Γ.g0] trivial (by decide) rfl (fun a ha=>by simp at ha;subst ha;exact ⟨1,_,rfl,rfl⟩) (fun q=>⟨⟨rfl,trivial⟩,⟨rfl,trivial⟩,rfl⟩) (fun q=>⟨⟨.inr ⟨hn,rfl⟩,rfl,vK u _ _ now (.inl ⟨0,rfl,rfl⟩),rfl⟩,⟨.inl ⟨0,rfl,rfl⟩,rfl,yk _ (xU _ _)⟩,rfl⟩)
  subst h3
  rw [if_neg (not_not_intro rfl)]
  have hme:=kN u hE ⟨fr,to,proto,fp,tp⟩ t now hnow (hhl rfl) n m
  have htl:t.length≤140737488351232:=by have:=hhl rfl;omega
  have hfo:=hed rfl
  dsimp only at hme ⊢
  generalize r6 u fr now (t.length:Nat)=mm at *
  obtain ⟨l,ok⟩:=mm
  dsimp only at hme ⊢
  have hlv:=qO u hw l ⟨fr,to,proto,fp,tp⟩ hfo t htl now 4 n
  have hen:=qL u hw l ⟨fr,to,proto,fp,tp⟩ hfo t htl now (cj u.n hw.n _ _ _) 4 n
  generalize um u ⟨fr,to,proto,fp,tp⟩ t now=lv at *
  generalize uN u ⟨fr,to,proto,fp,tp⟩ t now=en at *
  obtain ⟨v1,v2,v3,v4⟩:=lv
  obtain ⟨w1,w2,w3⟩:=en
  dsimp only at hlv hen ⊢
  cases ok with
  |false=>
   rw [if_pos rfl]
   refine xf {} 2 Tryd.func18 fun Γ hN0 hL0=>auC ?_
   have hn:n<Γ.g0:=hN0 0 _ rfl
   have hm:m<Γ.g0:=hN0 1 _ rfl
   repeat' first|refine auS ?_|(first|((with_reducible refine zu 40 ?_);(refine ya [0,1] [4] [0,1,4] rfl (by decide) rfl rfl hme ?_))|((with_reducible refine zu 41 ?_);(refine zg [0,4] (by decide) rfl rfl (hlv _) ?_))|((with_reducible refine zu 42 ?_);(refine zg [0,4] (by decide) rfl rfl (hen _) ?_))|(with_reducible refine z0 he ?_)|(with_reducible refine z0 hh ?_))|refine auD ?_|(refine auW ?_ ?_<;>intro h<;>try exact auH)|fail
   all_goals try exact auP
   all_goals try (exfalso;simp_all;done)
   exact td [0,1,4] [Γ.g0] trivial (by decide) rfl (fun a ha=>by simp at ha;subst ha;exact ⟨4,_,rfl,rfl⟩) (fun q=>⟨⟨rfl,trivial⟩,⟨rfl,trivial⟩,rfl⟩) (fun q=>⟨⟨.inr ⟨hn,rfl⟩,rfl,vK _ _ _ now (.inl ⟨0,rfl,rfl⟩),rfl⟩,⟨.inl ⟨0,rfl,rfl⟩,rfl,yk _ (xU _ _)⟩,rfl⟩)
  |true=>
   rw [if_neg (by decide),if_pos (by decide)]
   refine xf {} 2 Tryd.func18 fun Γ hN0 hL0=>auC ?_
   have hn:n<Γ.g0:=hN0 0 _ rfl
   have hm:m<Γ.g0:=hN0 1 _ rfl
   repeat' first|refine auS ?_|(first|((with_reducible refine zu 40 ?_);(refine ya [0,1] [4] [0,1,4] rfl (by decide) rfl rfl hme ?_))|((with_reducible refine zu 41 ?_);(refine zg [0,4] (by decide) rfl rfl (hlv _) ?_))|((with_reducible refine zu 42 ?_);(refine zg [0,4] (by decide) rfl rfl (hen _) ?_))|(with_reducible refine z0 he ?_)|(with_reducible refine z0 hh ?_))|refine auD ?_|(refine auW ?_ ?_<;>intro h<;>try exact auH)|fail
   all_goals try exact auP
   all_goals try (exfalso;simp_all;done)
   exact td [0,1,4] [Γ.g0] trivial (by decide) rfl (fun a ha=>by simp at ha;subst ha;exact ⟨4,_,rfl,rfl⟩) (fun q=>⟨⟨rfl,trivial⟩,⟨rfl,trivial⟩,rfl⟩) (fun q=>⟨⟨.inr ⟨hn,rfl⟩,rfl,vK _ _ _ now (.inl ⟨0,rfl,rfl⟩),rfl⟩,⟨.inl ⟨0,rfl,rfl⟩,rfl,yk _ (xU _ _)⟩,rfl⟩)
end Go.Proofs.YtmibknbmhcnemaaDoor
