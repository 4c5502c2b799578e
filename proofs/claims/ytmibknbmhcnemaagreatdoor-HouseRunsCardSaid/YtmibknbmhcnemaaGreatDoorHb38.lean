import Derived.Test.YtmibknbmhcnemaaGreatDoorHb37
set_option linter.unusedVariables false
set_option linter.unusedSimpArgs false
namespace Go.Proofs.YtmibknbmhcnemaaGreatDoor
attribute [local irreducible] zF Go
set_option maxRecDepth 100000
theorem eP (n:Nt) (h:n.wf) (pr out now:Int):0≤(tB n pr out now).1∧(tB n pr out now).1<4294967296:=by
 have h0:(0:Int)≤0∧(0:Int)<4294967296:=by decide
 unfold tB A.nIn
 split
 ·exact h0
 ·split
  ·exact h0
  ·split
   ·exact h0
   ·unfold A.inA
    split
    ·rename_i m hm
     exact h.ad m (List.mem_of_find?_eq_some hm)
    ·exact h0
theorem fg {s:List UInt8} (h:(H.wg s).2=0):(H.wg s).1.length≤65535:=by
 have hw:=zh s 2
 unfold H.wg at h ⊢
 split at h
 ·rename_i q
  exact absurd h q
 ·rename_i q
  rw [if_neg q]
  split at h
  ·cases h
  ·rename_i q2
   rw [if_neg q2]
   show (H.wK s).length≤65535
   unfold H.wK
   simp only [List.length_append,List.length_take,List.length_drop,wd,List.length_cons,List.length_nil]
   omega
set_option maxHeartbeats 8000000 in
theorem Zd (u:Hs) (hw:u.wf) (hE:rc u=0) (inside:Bool) (s:List UInt8) (hs:s.length≤140737488351232) (now:Int) (hnow:xW u≤now∧now≤1099511627776) (n m:Nat) :
  ua Tryz.prog 33 [.ptr 0 n 23 0 0,.v (.bool inside),.v (.string (mkS s))] [some ⟨n,23,[wkR u (.sl 1 m 5 0 u.ms.length false) fl0 [] now]⟩,some ⟨m,5,u.ms.map Mt.enc⟩] 1 (fun q d H=>d=.tup [.v (.string (mkS (goR u inside s now).2.2.2.1)),.v (.int .i64 (goR u inside s now).2.2.2.2)]∧H=goH (goR u inside s now) now n q):=by
 have he:=o_ s hs
 have hh:=H.Zs s hs
 have hed:=dN (s:=s)
 have hhl:=fg (s:=s)
 unfold goR
 generalize edR s=E at *
 obtain ⟨f,e⟩:=E
 generalize H.wg s=HP at *
 obtain ⟨t,e2⟩:=HP
 dsimp only at *
 obtain ⟨fr,to,proto,fp,tp⟩:=f
 dsimp only at *
 by_cases h1:e=0
 rotate_left
 ·rw [if_pos h1]
  have hme:True:=trivial
  have hlv:Nat→True:=fun _=>trivial
  have hen:Nat→True:=fun _=>trivial
  refine wm {} 2 Tryz.func33 fun Γ hN0 hL0=>auC ?_
  have hn:n<Γ.g0:=hN0 0 _ rfl
  have hm:m<Γ.g0:=hN0 1 _ rfl
  repeat' first|refine auS ?_|(first|((with_reducible refine zX 61 ?_);(refine yB [0,1] [4] [0,1,4] rfl (by decide) rfl rfl hme ?_))|((with_reducible refine zX 62 ?_);(refine zA [0,4] (by decide) rfl rfl (hlv _) ?_))|((with_reducible refine zX 63 ?_);(refine zA [0,4] (by decide) rfl rfl (hen _) ?_))|(with_reducible refine z0 he ?_)|(with_reducible refine z0 hh ?_))|refine auD ?_|(refine auW ?_ ?_<;>intro h<;>try exact auH)|fail
  all_goals try exact auP
  all_goals try (exfalso;simp_all;done)
  refine pb (yI (nM u ⟨fr,to,proto,fp,tp⟩ [] now _)) ?_
  exact r5 [0,2,1] [Γ.g0] trivial (by decide) rfl (fun a ha=>by simp at ha;subst ha;exact ⟨1,_,rfl,rfl⟩) (fun q=>⟨⟨rfl,trivial⟩,⟨rfl,trivial⟩,rfl⟩) (fun q=>⟨⟨.inr ⟨hn,rfl⟩,rfl,uQ u _ _ now (.inl ⟨0,rfl,rfl⟩),rfl⟩,⟨.inl ⟨0,rfl,rfl⟩,rfl,yV _ (wI _ _)⟩,rfl⟩)
 subst h1
 rw [if_neg (not_not_intro rfl)]
 cases inside with
 |false=>
  by_cases h2:to=u.p.ou
  rotate_left
  ·rw [if_pos ⟨rfl,h2⟩]
   have hme:True:=trivial
   have hlv:Nat→True:=fun _=>trivial
   have hen:Nat→True:=fun _=>trivial
   refine wm {} 2 Tryz.func33 fun Γ hN0 hL0=>auC ?_
   have hn:n<Γ.g0:=hN0 0 _ rfl
   have hm:m<Γ.g0:=hN0 1 _ rfl
   repeat' first|refine auS ?_|(first|((with_reducible refine zX 61 ?_);(refine yB [0,1] [4] [0,1,4] rfl (by decide) rfl rfl hme ?_))|((with_reducible refine zX 62 ?_);(refine zA [0,4] (by decide) rfl rfl (hlv _) ?_))|((with_reducible refine zX 63 ?_);(refine zA [0,4] (by decide) rfl rfl (hen _) ?_))|(with_reducible refine z0 he ?_)|(with_reducible refine z0 hh ?_))|refine auD ?_|(refine auW ?_ ?_<;>intro h<;>try exact auH)|fail
   all_goals try exact auP
   all_goals try (exfalso;simp_all;done)
   refine pb (yI (nM u ⟨fr,to,proto,fp,tp⟩ [] now _)) ?_
   exact r5 [0,2,1] [Γ.g0] trivial (by decide) rfl (fun a ha=>by simp at ha;subst ha;exact ⟨1,_,rfl,rfl⟩) (fun q=>⟨⟨rfl,trivial⟩,⟨rfl,trivial⟩,rfl⟩) (fun q=>⟨⟨.inr ⟨hn,rfl⟩,rfl,uQ u _ _ now (.inl ⟨0,rfl,rfl⟩),rfl⟩,⟨.inl ⟨0,rfl,rfl⟩,rfl,yV _ (wI _ _)⟩,rfl⟩)
  rw [if_neg (fun q=>q.2 h2)]
  by_cases h3:e2=0
  rotate_left
  ·rw [if_pos h3]
   have hme:True:=trivial
   have hlv:Nat→True:=fun _=>trivial
   have hen:Nat→True:=fun _=>trivial
   refine wm {} 2 Tryz.func33 fun Γ hN0 hL0=>auC ?_
   have hn:n<Γ.g0:=hN0 0 _ rfl
   have hm:m<Γ.g0:=hN0 1 _ rfl
   repeat' first|refine auS ?_|(first|((with_reducible refine zX 61 ?_);(refine yB [0,1] [4] [0,1,4] rfl (by decide) rfl rfl hme ?_))|((with_reducible refine zX 62 ?_);(refine zA [0,4] (by decide) rfl rfl (hlv _) ?_))|((with_reducible refine zX 63 ?_);(refine zA [0,4] (by decide) rfl rfl (hen _) ?_))|(with_reducible refine z0 he ?_)|(with_reducible refine z0 hh ?_))|refine auD ?_|(refine auW ?_ ?_<;>intro h<;>try exact auH)|fail
   all_goals try exact auP
   all_goals try (exfalso;simp_all;done)
   refine pb (yI (nM u ⟨fr,to,proto,fp,tp⟩ t now _)) ?_
   exact r5 [0,2,1] [Γ.g0] trivial (by decide) rfl (fun a ha=>by simp at ha;subst ha;exact ⟨1,_,rfl,rfl⟩) (fun q=>⟨⟨rfl,trivial⟩,⟨rfl,trivial⟩,rfl⟩) (fun q=>⟨⟨.inr ⟨hn,rfl⟩,rfl,uQ u _ _ now (.inl ⟨0,rfl,rfl⟩),rfl⟩,⟨.inl ⟨0,rfl,rfl⟩,rfl,yV _ (wI _ _)⟩,rfl⟩)
  subst h3
  rw [if_neg (not_not_intro rfl)]
  have hme:=iH u hE ⟨fr,to,proto,fp,tp⟩ t now hnow (hhl rfl) n m
  have htl:t.length≤140737488351232:=by have:=hhl rfl;omega
  have hfo:=hed rfl
  dsimp only at hme ⊢
  generalize qN u fr now (t.length:Nat)=mm at *
  obtain ⟨l,ok⟩:=mm
  dsimp only at hme ⊢
  have hlv:=oT u hw l ⟨fr,to,proto,fp,tp⟩ hfo t htl now 4 n
  have hen:=n8 u hw l ⟨fr,to,proto,fp,tp⟩ hfo t htl now (eP u.n hw.n _ _ _) 4 n
  generalize uY u ⟨fr,to,proto,fp,tp⟩ t now=lv at *
  generalize sI u ⟨fr,to,proto,fp,tp⟩ t now=en at *
  obtain ⟨v1,v2,v3,v4⟩:=lv
  obtain ⟨w1,w2,w3⟩:=en
  dsimp only at hlv hen ⊢
  cases ok with
  |false=>
   rw [if_pos rfl]
   refine wm {} 2 Tryz.func33 fun Γ hN0 hL0=>auC ?_
   have hn:n<Γ.g0:=hN0 0 _ rfl
   have hm:m<Γ.g0:=hN0 1 _ rfl
   repeat' first|refine auS ?_|(first|((with_reducible refine zX 61 ?_);(refine yB [0,1] [4] [0,1,4] rfl (by decide) rfl rfl hme ?_))|((with_reducible refine zX 62 ?_);(refine zA [0,4] (by decide) rfl rfl (hlv _) ?_))|((with_reducible refine zX 63 ?_);(refine zA [0,4] (by decide) rfl rfl (hen _) ?_))|(with_reducible refine z0 he ?_)|(with_reducible refine z0 hh ?_))|refine auD ?_|(refine auW ?_ ?_<;>intro h<;>try exact auH)|fail
   all_goals try exact auP
   all_goals try (exfalso;simp_all;done)
   exact r5 [0,1,4] [Γ.g0] trivial (by decide) rfl (fun a ha=>by simp at ha;subst ha;exact ⟨4,_,rfl,rfl⟩) (fun q=>⟨⟨rfl,trivial⟩,⟨rfl,trivial⟩,rfl⟩) (fun q=>⟨⟨.inr ⟨hn,rfl⟩,rfl,uQ _ _ _ now (.inl ⟨0,rfl,rfl⟩),rfl⟩,⟨.inl ⟨0,rfl,rfl⟩,rfl,yV _ (wI _ _)⟩,rfl⟩)
  |true=>
   rw [if_neg (by decide),if_neg (by decide)]
   refine wm {} 2 Tryz.func33 fun Γ hN0 hL0=>auC ?_
   have hn:n<Γ.g0:=hN0 0 _ rfl
   have hm:m<Γ.g0:=hN0 1 _ rfl
   repeat' first|refine auS ?_|(first|((with_reducible refine zX 61 ?_);(refine yB [0,1] [4] [0,1,4] rfl (by decide) rfl rfl hme ?_))|((with_reducible refine zX 62 ?_);(refine zA [0,4] (by decide) rfl rfl (hlv _) ?_))|((with_reducible refine zX 63 ?_);(refine zA [0,4] (by decide) rfl rfl (hen _) ?_))|(with_reducible refine z0 he ?_)|(with_reducible refine z0 hh ?_))|refine auD ?_|(refine auW ?_ ?_<;>intro h<;>try exact auH)|fail
   all_goals try exact auP
   all_goals try (exfalso;simp_all;done)
   exact r5 [0,1,4] [Γ.g0] trivial (by decide) rfl (fun a ha=>by simp at ha;subst ha;exact ⟨4,_,rfl,rfl⟩) (fun q=>⟨⟨rfl,trivial⟩,⟨rfl,trivial⟩,rfl⟩) (fun q=>⟨⟨.inr ⟨hn,rfl⟩,rfl,uQ _ _ _ now (.inl ⟨0,rfl,rfl⟩),rfl⟩,⟨.inl ⟨0,rfl,rfl⟩,rfl,yV _ (wI _ _)⟩,rfl⟩)
 |true=>
  rw [if_neg (fun q=>Bool.noConfusion q.1)]
  by_cases h3:e2=0
  rotate_left
  ·rw [if_pos h3]
   have hme:True:=trivial
   have hlv:Nat→True:=fun _=>trivial
   have hen:Nat→True:=fun _=>trivial
   refine wm {} 2 Tryz.func33 fun Γ hN0 hL0=>auC ?_
   have hn:n<Γ.g0:=hN0 0 _ rfl
   have hm:m<Γ.g0:=hN0 1 _ rfl
   repeat' first|refine auS ?_|(first|((with_reducible refine zX 61 ?_);(refine yB [0,1] [4] [0,1,4] rfl (by decide) rfl rfl hme ?_))|((with_reducible refine zX 62 ?_);(refine zA [0,4] (by decide) rfl rfl (hlv _) ?_))|((with_reducible refine zX 63 ?_);(refine zA [0,4] (by decide) rfl rfl (hen _) ?_))|(with_reducible refine z0 he ?_)|(with_reducible refine z0 hh ?_))|refine auD ?_|(refine auW ?_ ?_<;>intro h<;>try exact auH)|fail
   all_goals try exact auP
   all_goals try (exfalso;simp_all;done)
   refine pb (yI (nM u ⟨fr,to,proto,fp,tp⟩ t now _)) ?_
   exact r5 [0,2,1] [Γ.g0] trivial (by decide) rfl (fun a ha=>by simp at ha;subst ha;exact ⟨1,_,rfl,rfl⟩) (fun q=>⟨⟨rfl,trivial⟩,⟨rfl,trivial⟩,rfl⟩) (fun q=>⟨⟨.inr ⟨hn,rfl⟩,rfl,uQ u _ _ now (.inl ⟨0,rfl,rfl⟩),rfl⟩,⟨.inl ⟨0,rfl,rfl⟩,rfl,yV _ (wI _ _)⟩,rfl⟩)
  subst h3
  rw [if_neg (not_not_intro rfl)]
  have hme:=iH u hE ⟨fr,to,proto,fp,tp⟩ t now hnow (hhl rfl) n m
  have htl:t.length≤140737488351232:=by have:=hhl rfl;omega
  have hfo:=hed rfl
  dsimp only at hme ⊢
  generalize qN u fr now (t.length:Nat)=mm at *
  obtain ⟨l,ok⟩:=mm
  dsimp only at hme ⊢
  have hlv:=oT u hw l ⟨fr,to,proto,fp,tp⟩ hfo t htl now 4 n
  have hen:=n8 u hw l ⟨fr,to,proto,fp,tp⟩ hfo t htl now (eP u.n hw.n _ _ _) 4 n
  generalize uY u ⟨fr,to,proto,fp,tp⟩ t now=lv at *
  generalize sI u ⟨fr,to,proto,fp,tp⟩ t now=en at *
  obtain ⟨v1,v2,v3,v4⟩:=lv
  obtain ⟨w1,w2,w3⟩:=en
  dsimp only at hlv hen ⊢
  cases ok with
  |false=>
   rw [if_pos rfl]
   refine wm {} 2 Tryz.func33 fun Γ hN0 hL0=>auC ?_
   have hn:n<Γ.g0:=hN0 0 _ rfl
   have hm:m<Γ.g0:=hN0 1 _ rfl
   repeat' first|refine auS ?_|(first|((with_reducible refine zX 61 ?_);(refine yB [0,1] [4] [0,1,4] rfl (by decide) rfl rfl hme ?_))|((with_reducible refine zX 62 ?_);(refine zA [0,4] (by decide) rfl rfl (hlv _) ?_))|((with_reducible refine zX 63 ?_);(refine zA [0,4] (by decide) rfl rfl (hen _) ?_))|(with_reducible refine z0 he ?_)|(with_reducible refine z0 hh ?_))|refine auD ?_|(refine auW ?_ ?_<;>intro h<;>try exact auH)|fail
   all_goals try exact auP
   all_goals try (exfalso;simp_all;done)
   exact r5 [0,1,4] [Γ.g0] trivial (by decide) rfl (fun a ha=>by simp at ha;subst ha;exact ⟨4,_,rfl,rfl⟩) (fun q=>⟨⟨rfl,trivial⟩,⟨rfl,trivial⟩,rfl⟩) (fun q=>⟨⟨.inr ⟨hn,rfl⟩,rfl,uQ _ _ _ now (.inl ⟨0,rfl,rfl⟩),rfl⟩,⟨.inl ⟨0,rfl,rfl⟩,rfl,yV _ (wI _ _)⟩,rfl⟩)
  |true=>
   rw [if_neg (by decide),if_pos (by decide)]
   refine wm {} 2 Tryz.func33 fun Γ hN0 hL0=>auC ?_
   have hn:n<Γ.g0:=hN0 0 _ rfl
   have hm:m<Γ.g0:=hN0 1 _ rfl
   repeat' first|refine auS ?_|(first|((with_reducible refine zX 61 ?_);(refine yB [0,1] [4] [0,1,4] rfl (by decide) rfl rfl hme ?_))|((with_reducible refine zX 62 ?_);(refine zA [0,4] (by decide) rfl rfl (hlv _) ?_))|((with_reducible refine zX 63 ?_);(refine zA [0,4] (by decide) rfl rfl (hen _) ?_))|(with_reducible refine z0 he ?_)|(with_reducible refine z0 hh ?_))|refine auD ?_|(refine auW ?_ ?_<;>intro h<;>try exact auH)|fail
   all_goals try exact auP
   all_goals try (exfalso;simp_all;done)
   exact r5 [0,1,4] [Γ.g0] trivial (by decide) rfl (fun a ha=>by simp at ha;subst ha;exact ⟨4,_,rfl,rfl⟩) (fun q=>⟨⟨rfl,trivial⟩,⟨rfl,trivial⟩,rfl⟩) (fun q=>⟨⟨.inr ⟨hn,rfl⟩,rfl,uQ _ _ _ now (.inl ⟨0,rfl,rfl⟩),rfl⟩,⟨.inl ⟨0,rfl,rfl⟩,rfl,yV _ (wI _ _)⟩,rfl⟩)
end Go.Proofs.YtmibknbmhcnemaaGreatDoor
namespace Go.Proofs.YtmibknbmhcnemaaGreatDoor
attribute [local irreducible] zF Go
set_option maxRecDepth 100000
theorem Zx (l:List Mt) (lb q:Nat):ur ⟨q,5,l.map Mt.enc⟩ (.sl lb q 5 0 l.length false) (msD l):=.inl ⟨rfl,rfl,by simp,by rw [yN (by simp)]⟩
theorem iA (u:Hs) (l:List Mt) (lb q:Nat):si ⟨q,5,l.map Mt.enc⟩ [u.row (.sl lb q 5 0 l.length false)] [u.row (msD l)]:=⟨⟨rfl,rfl,rfl,rfl,rfl,rfl,rfl,rfl,Zx l lb q,rfl,rfl,rfl,rfl,rfl,rfl,rfl,rfl⟩,rfl⟩
theorem VY (u:Hs) (f:Fl) (t:List UInt8) (now:Int) (l:List Mt) (lb q:Nat):si ⟨q,5,l.map Mt.enc⟩ [wkR u (.sl lb q 5 0 l.length false) f t now] [wkR u (msD l) f t now]:=⟨⟨rfl,rfl,rfl,rfl,rfl,rfl,rfl,rfl,Zx l lb q,rfl,rfl,rfl,rfl,rfl,rfl,rfl,rfl,rfl,rfl,rfl,rfl,rfl,rfl,rfl⟩,rfl⟩
theorem atR (s:Sl) {Γ:Gm} {P:Program} {N:Nat} {R:St→Prop} {o:XO} {g:Option (Sl×Bool)} {l:List XOp} {k:List KI} {st:St} (h:Go Γ P N R (.region (⟨some s,o,g⟩::l)) k st):Go Γ P N R (.region (⟨some s,o,g⟩::l)) k st:=h
def uS (u:Hs) (inside:Bool) (s:List UInt8) (now:Int):Hs×List UInt8×Int×Int:=
 if rc u≠0 then (u,[],0,rc u) else if now<xW u∨1099511627776<now then (u,[],0,1)
 else ((goR u inside s now).1,(goR u inside s now).2.2.2.1,(goR u inside s now).2.2.2.2,0)
abbrev Ue (r:Hs×List UInt8×Int×Int):DV:=.tup [dH r.1,.v (.string (mkS r.2.1)),.v (.int .i64 r.2.2.1),.v (.int .i64 r.2.2.2)]
theorem qQ (g:Nat) (u:Hs):nfL g (u.row (msD u.ms)):=⟨trivial,trivial,trivial,trivial,trivial,trivial,cG _ _,trivial,wI _ _,cI _ _,trivial,trivial,trivial,trivial,trivial,A.wi _ _,trivial⟩
set_option maxHeartbeats 8000000 in
theorem o4 (u:Hs) (hw:u.wf) (inside:Bool) (s:List UInt8) (hs:s.length≤140737488351232) (now:Int):zd Tryz.prog 10 [dH u,.v (.bool inside),.v (.string (mkS s)),.v (.int .i64 now)] (Ue (uS u inside s now)):=by
 have hown:=gH u hw
 have hck:=gc u hw
 have hnf:=fun g=>qQ g u
 unfold uS
 by_cases hE:rc u=0
 rotate_left
 ·rw [if_pos hE]
  generalize rc u=e at *
  have hla:True:=trivial
  refine z4 {} 0 Tryz.func10 fun Γ hW=>auC ?_
  repeat' first|((with_reducible refine atR ⟨.d0,.d2,.d2⟩ ?_);(refine zN (yS hW 0 10 (by decide) (o:=⟨Γ.g0+2,5,u.ms.map Mt.enc⟩) (ys:=[u.row (msD u.ms)]) rfl rfl (iA u u.ms 1 _)) ?_))|refine auS ?_|(first|((with_reducible refine zX 31 ?_);(refine yB [] [10] [10] rfl (by decide) rfl rfl hown ?_))|(with_reducible refine z0 hck ?_)|(with_reducible refine z0 hla ?_))|refine auD ?_|(refine auW ?_ ?_<;>intro h<;>try exact auH)|fail
  all_goals try exact auP
  all_goals try (exfalso;simp_all;done)
  all_goals refine auV ?_
  all_goals try exact z8
  all_goals try simp only [hsM] at *
  all_goals rfl
 rw [if_neg (not_not_intro hE)]
 have hla:=aK u hw (sq (vQ hE).2.2.2.2)
 rw [hE] at hck
 by_cases hn:now<xW u∨1099511627776<now
 ·rw [if_pos hn]
  clear hE
  generalize xW u=L at *
  refine z4 {} 0 Tryz.func10 fun Γ hW=>auC ?_
  repeat' first|((with_reducible refine atR ⟨.d0,.d2,.d2⟩ ?_);(refine zN (yS hW 0 10 (by decide) (o:=⟨Γ.g0+2,5,u.ms.map Mt.enc⟩) (ys:=[u.row (msD u.ms)]) rfl rfl (iA u u.ms 1 _)) ?_))|refine auS ?_|(first|((with_reducible refine zX 31 ?_);(refine yB [] [10] [10] rfl (by decide) rfl rfl hown ?_))|(with_reducible refine z0 hck ?_)|(with_reducible refine z0 hla ?_))|refine auD ?_|(refine auW ?_ ?_<;>intro h<;>try exact auH)|fail
  all_goals try exact auP
  all_goals try (exfalso;simp_all;done)
  all_goals refine auV ?_
  all_goals try exact z8
  all_goals try simp only [hsM] at *
  all_goals rfl
 rw [if_neg hn]
 have hgo:=Zd u hw hE inside s hs now (by omega)
 generalize xW u=L at *
 generalize goR u inside s now=r at *
 obtain ⟨v,f,t,o,y⟩:=r
 dsimp only at hgo ⊢
 have hnf2:=fun g=>qQ g v
 refine z4 {} 0 Tryz.func10 fun Γ hW=>auC ?_
 repeat' first|((with_reducible refine atR ⟨.d0,.d5,.d2⟩ ?_);(refine zN (yS hW 2 11 (by decide) (ys:=[wkR v (msD v.ms) f t now]) rfl rfl (VY v f t now v.ms 4 _)) ?_))|refine auS ?_|(first|((with_reducible refine zX 31 ?_);(refine yB [] [10] [10] rfl (by decide) rfl rfl hown ?_))|((with_reducible refine zX 16 ?_);(refine zA [10] (by decide) rfl rfl (fH rfl hck 1 _) ?_))|((with_reducible refine zX 32 ?_);(refine zA [10] (by decide) rfl rfl (fH rfl hla 1 _) ?_))|((with_reducible refine zX 33 ?_);(refine yB [2,10] [11] [2,10,11] rfl (by decide) rfl rfl (br 2 (hgo _ _)) ?_)))|refine auD ?_|(refine auW ?_ ?_<;>intro h<;>try exact auH)|fail
 all_goals try exact auP
 all_goals try (exfalso;simp_all;done)
 all_goals refine auV ?_
 all_goals try exact z8
 all_goals try simp only [hsM] at *
 all_goals rfl
end Go.Proofs.YtmibknbmhcnemaaGreatDoor
