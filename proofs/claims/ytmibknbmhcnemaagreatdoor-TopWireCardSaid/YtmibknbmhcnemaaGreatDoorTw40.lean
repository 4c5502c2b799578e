import Derived.Test.YtmibknbmhcnemaaGreatDoorTw39
set_option linter.unusedVariables false
set_option linter.unusedSimpArgs false
namespace Go.Proofs.YtmibknbmhcnemaaGreatDoor
attribute [local irreducible] zu Go
set_option maxRecDepth 100000
theorem bc (n:Nt) (h:n.wf) (pr out now:Int):0≤(rA n pr out now).1∧(rA n pr out now).1<4294967296:=by
 have h0:(0:Int)≤0∧(0:Int)<4294967296:=by decide
 unfold rA A.nIn
 split
 ·exact h0
 ·split
  ·exact h0
  ·split
   ·exact h0
   ·unfold A.inA
    split
    ·rename_i m hm
     exact h.ad m (List.mem_of_find?_eq_some hm)
    ·exact h0
theorem cL {s:List UInt8} (h:(H.sL s).2=0):(H.sL s).1.length≤65535:=by
 have hw:=zr s 2
 unfold H.sL at h ⊢
 split at h
 ·rename_i q
  exact absurd h q
 ·rename_i q
  rw [if_neg q]
  split at h
  ·cases h
  ·rename_i q2
   rw [if_neg q2]
   show (H.Zb s).length≤65535
   unfold H.Zb
   simp only [List.length_append,List.length_take,List.length_drop,wd,List.length_cons,List.length_nil]
   omega
set_option maxHeartbeats 8000000 in
theorem e7 (u:Hs) (hw:u.wf) (hE:lp u=0) (inside:Bool) (s:List UInt8) (hs:s.length≤140737488351232) (now:Int) (hnow:rS u≤now∧now≤1099511627776) (n m:Nat) :
  vd Tryz.prog 33 [.ptr 0 n 23 0 0,.v (.bool inside),.v (.string (mkS s))] [some ⟨n,23,[wkR u (.sl 1 m 5 0 u.ms.length false) fl0 [] now]⟩,some ⟨m,5,u.ms.map Mt.enc⟩] 1 (fun q d H=>d=.tup [.v (.string (mkS (goR u inside s now).2.2.2.1)),.v (.int .i64 (goR u inside s now).2.2.2.2)]∧H=goH (goR u inside s now) now n q):=by
 have he:=qz s hs
 have hh:=H.dY s hs
 have hed:=YC (s:=s)
 have hhl:=cL (s:=s)
 unfold goR
 generalize edR s=E at *
 obtain ⟨f,e⟩:=E
 generalize H.sL s=HP at *
 obtain ⟨t,e2⟩:=HP
 dsimp only at *
 obtain ⟨fr,to,proto,fp,tp⟩:=f
 dsimp only at *
 by_cases h1:e=0
 rotate_left
 ·rw [if_pos h1]
  have hme:True:=trivial
  have hlv:Nat→True:=fun _=>trivial
  have hen:Nat→True:=fun _=>trivial
  refine xB {} 2 Tryz.func33 fun Γ hN0 hL0=>auC ?_
  have hn:n<Γ.g0:=hN0 0 _ rfl
  have hm:m<Γ.g0:=hN0 1 _ rfl
  repeat' first|refine auS ?_|(first|((with_reducible refine zD 61 ?_);(refine yl [0,1] [4] [0,1,4] rfl (by decide) rfl rfl hme ?_))|((with_reducible refine zD 62 ?_);(refine zk [0,4] (by decide) rfl rfl (hlv _) ?_))|((with_reducible refine zD 63 ?_);(refine zk [0,4] (by decide) rfl rfl (hen _) ?_))|(with_reducible refine z0 he ?_)|(with_reducible refine z0 hh ?_))|refine auD ?_|(refine auW ?_ ?_<;>intro h<;>try exact auH)|fail
  all_goals try exact auP
  all_goals try (exfalso;simp_all;done)
  refine q9 (yp (pF u ⟨fr,to,proto,fp,tp⟩ [] now _)) ?_
  exact tJ [0,2,1] [Γ.g0] trivial (by decide) rfl (fun a ha=>by simp at ha;subst ha;exact ⟨1,_,rfl,rfl⟩) (fun q=>⟨⟨rfl,trivial⟩,⟨rfl,trivial⟩,rfl⟩) (fun q=>⟨⟨.inr ⟨hn,rfl⟩,rfl,vR u _ _ now (.inl ⟨0,rfl,rfl⟩),rfl⟩,⟨.inl ⟨0,rfl,rfl⟩,rfl,yz _ (w_ _ _)⟩,rfl⟩)
 subst h1
 rw [if_neg (not_not_intro rfl)]
 cases inside with
 |false=>
  by_cases h2:to=u.p.ou
  rotate_left
  ·rw [if_pos ⟨rfl,h2⟩]
   have hme:True:=trivial
   have hlv:Nat→True:=fun _=>trivial
   have hen:Nat→True:=fun _=>trivial
   refine xB {} 2 Tryz.func33 fun Γ hN0 hL0=>auC ?_
   have hn:n<Γ.g0:=hN0 0 _ rfl
   have hm:m<Γ.g0:=hN0 1 _ rfl
   repeat' first|refine auS ?_|(first|((with_reducible refine zD 61 ?_);(refine yl [0,1] [4] [0,1,4] rfl (by decide) rfl rfl hme ?_))|((with_reducible refine zD 62 ?_);(refine zk [0,4] (by decide) rfl rfl (hlv _) ?_))|((with_reducible refine zD 63 ?_);(refine zk [0,4] (by decide) rfl rfl (hen _) ?_))|(with_reducible refine z0 he ?_)|(with_reducible refine z0 hh ?_))|refine auD ?_|(refine auW ?_ ?_<;>intro h<;>try exact auH)|fail
   all_goals try exact auP
   all_goals try (exfalso;simp_all;done)
   refine q9 (yp (pF u ⟨fr,to,proto,fp,tp⟩ [] now _)) ?_
   exact tJ [0,2,1] [Γ.g0] trivial (by decide) rfl (fun a ha=>by simp at ha;subst ha;exact ⟨1,_,rfl,rfl⟩) (fun q=>⟨⟨rfl,trivial⟩,⟨rfl,trivial⟩,rfl⟩) (fun q=>⟨⟨.inr ⟨hn,rfl⟩,rfl,vR u _ _ now (.inl ⟨0,rfl,rfl⟩),rfl⟩,⟨.inl ⟨0,rfl,rfl⟩,rfl,yz _ (w_ _ _)⟩,rfl⟩)
  rw [if_neg (fun q=>q.2 h2)]
  by_cases h3:e2=0
  rotate_left
  ·rw [if_pos h3]
   have hme:True:=trivial
   have hlv:Nat→True:=fun _=>trivial
   have hen:Nat→True:=fun _=>trivial
   refine xB {} 2 Tryz.func33 fun Γ hN0 hL0=>auC ?_
   have hn:n<Γ.g0:=hN0 0 _ rfl
   have hm:m<Γ.g0:=hN0 1 _ rfl
   repeat' first|refine auS ?_|(first|((with_reducible refine zD 61 ?_);(refine yl [0,1] [4] [0,1,4] rfl (by decide) rfl rfl hme ?_))|((with_reducible refine zD 62 ?_);(refine zk [0,4] (by decide) rfl rfl (hlv _) ?_))|((with_reducible refine zD 63 ?_);(refine zk [0,4] (by decide) rfl rfl (hen _) ?_))|(with_reducible refine z0 he ?_)|(with_reducible refine z0 hh ?_))|refine auD ?_|(refine auW ?_ ?_<;>intro h<;>try exact auH)|fail
   all_goals try exact auP
   all_goals try (exfalso;simp_all;done)
   refine q9 (yp (pF u ⟨fr,to,proto,fp,tp⟩ t now _)) ?_
   exact tJ [0,2,1] [Γ.g0] trivial (by decide) rfl (fun a ha=>by simp at ha;subst ha;exact ⟨1,_,rfl,rfl⟩) (fun q=>⟨⟨rfl,trivial⟩,⟨rfl,trivial⟩,rfl⟩) (fun q=>⟨⟨.inr ⟨hn,rfl⟩,rfl,vR u _ _ now (.inl ⟨0,rfl,rfl⟩),rfl⟩,⟨.inl ⟨0,rfl,rfl⟩,rfl,yz _ (w_ _ _)⟩,rfl⟩)
  subst h3
  rw [if_neg (not_not_intro rfl)]
  have hme:=jD u hE ⟨fr,to,proto,fp,tp⟩ t now hnow (hhl rfl) n m
  have htl:t.length≤140737488351232:=by have:=hhl rfl;omega
  have hfo:=hed rfl
  dsimp only at hme ⊢
  generalize eD u fr now (t.length:Nat)=mm at *
  obtain ⟨l,ok⟩:=mm
  dsimp only at hme ⊢
  have hlv:=pj u hw l ⟨fr,to,proto,fp,tp⟩ hfo t htl now 4 n
  have hen:=qW u hw l ⟨fr,to,proto,fp,tp⟩ hfo t htl now (bc u.n hw.n _ _ _) 4 n
  generalize tT u ⟨fr,to,proto,fp,tp⟩ t now=lv at *
  generalize sZ u ⟨fr,to,proto,fp,tp⟩ t now=en at *
  obtain ⟨v1,v2,v3,v4⟩:=lv
  obtain ⟨w1,w2,w3⟩:=en
  dsimp only at hlv hen ⊢
  cases ok with
  |false=>
   rw [if_pos rfl]
   refine xB {} 2 Tryz.func33 fun Γ hN0 hL0=>auC ?_
   have hn:n<Γ.g0:=hN0 0 _ rfl
   have hm:m<Γ.g0:=hN0 1 _ rfl
   repeat' first|refine auS ?_|(first|((with_reducible refine zD 61 ?_);(refine yl [0,1] [4] [0,1,4] rfl (by decide) rfl rfl hme ?_))|((with_reducible refine zD 62 ?_);(refine zk [0,4] (by decide) rfl rfl (hlv _) ?_))|((with_reducible refine zD 63 ?_);(refine zk [0,4] (by decide) rfl rfl (hen _) ?_))|(with_reducible refine z0 he ?_)|(with_reducible refine z0 hh ?_))|refine auD ?_|(refine auW ?_ ?_<;>intro h<;>try exact auH)|fail
   all_goals try exact auP
   all_goals try (exfalso;simp_all;done)
   exact tJ [0,1,4] [Γ.g0] trivial (by decide) rfl (fun a ha=>by simp at ha;subst ha;exact ⟨4,_,rfl,rfl⟩) (fun q=>⟨⟨rfl,trivial⟩,⟨rfl,trivial⟩,rfl⟩) (fun q=>⟨⟨.inr ⟨hn,rfl⟩,rfl,vR _ _ _ now (.inl ⟨0,rfl,rfl⟩),rfl⟩,⟨.inl ⟨0,rfl,rfl⟩,rfl,yz _ (w_ _ _)⟩,rfl⟩)
  |true=>
   rw [if_neg (by decide),if_neg (by decide)]
   refine xB {} 2 Tryz.func33 fun Γ hN0 hL0=>auC ?_
   have hn:n<Γ.g0:=hN0 0 _ rfl
   have hm:m<Γ.g0:=hN0 1 _ rfl
   repeat' first|refine auS ?_|(first|((with_reducible refine zD 61 ?_);(refine yl [0,1] [4] [0,1,4] rfl (by decide) rfl rfl hme ?_))|((with_reducible refine zD 62 ?_);(refine zk [0,4] (by decide) rfl rfl (hlv _) ?_))|((with_reducible refine zD 63 ?_);(refine zk [0,4] (by decide) rfl rfl (hen _) ?_))|(with_reducible refine z0 he ?_)|(with_reducible refine z0 hh ?_))|refine auD ?_|(refine auW ?_ ?_<;>intro h<;>try exact auH)|fail
   all_goals try exact auP
   all_goals try (exfalso;simp_all;done)
   exact tJ [0,1,4] [Γ.g0] trivial (by decide) rfl (fun a ha=>by simp at ha;subst ha;exact ⟨4,_,rfl,rfl⟩) (fun q=>⟨⟨rfl,trivial⟩,⟨rfl,trivial⟩,rfl⟩) (fun q=>⟨⟨.inr ⟨hn,rfl⟩,rfl,vR _ _ _ now (.inl ⟨0,rfl,rfl⟩),rfl⟩,⟨.inl ⟨0,rfl,rfl⟩,rfl,yz _ (w_ _ _)⟩,rfl⟩)
 |true=>
  rw [if_neg (fun q=>Bool.noConfusion q.1)]
  by_cases h3:e2=0
  rotate_left
  ·rw [if_pos h3]
   have hme:True:=trivial
   have hlv:Nat→True:=fun _=>trivial
   have hen:Nat→True:=fun _=>trivial
   refine xB {} 2 Tryz.func33 fun Γ hN0 hL0=>auC ?_
   have hn:n<Γ.g0:=hN0 0 _ rfl
   have hm:m<Γ.g0:=hN0 1 _ rfl
   repeat' first|refine auS ?_|(first|((with_reducible refine zD 61 ?_);(refine yl [0,1] [4] [0,1,4] rfl (by decide) rfl rfl hme ?_))|((with_reducible refine zD 62 ?_);(refine zk [0,4] (by decide) rfl rfl (hlv _) ?_))|((with_reducible refine zD 63 ?_);(refine zk [0,4] (by decide) rfl rfl (hen _) ?_))|(with_reducible refine z0 he ?_)|(with_reducible refine z0 hh ?_))|refine auD ?_|(refine auW ?_ ?_<;>intro h<;>try exact auH)|fail
   all_goals try exact auP
   all_goals try (exfalso;simp_all;done)
   refine q9 (yp (pF u ⟨fr,to,proto,fp,tp⟩ t now _)) ?_
   exact tJ [0,2,1] [Γ.g0] trivial (by decide) rfl (fun a ha=>by simp at ha;subst ha;exact ⟨1,_,rfl,rfl⟩) (fun q=>⟨⟨rfl,trivial⟩,⟨rfl,trivial⟩,rfl⟩) (fun q=>⟨⟨.inr ⟨hn,rfl⟩,rfl,vR u _ _ now (.inl ⟨0,rfl,rfl⟩),rfl⟩,⟨.inl ⟨0,rfl,rfl⟩,rfl,yz _ (w_ _ _)⟩,rfl⟩)
  subst h3
  rw [if_neg (not_not_intro rfl)]
  have hme:=jD u hE ⟨fr,to,proto,fp,tp⟩ t now hnow (hhl rfl) n m
  have htl:t.length≤140737488351232:=by have:=hhl rfl;omega
  have hfo:=hed rfl
  dsimp only at hme ⊢
  generalize eD u fr now (t.length:Nat)=mm at *
  obtain ⟨l,ok⟩:=mm
  dsimp only at hme ⊢
  have hlv:=pj u hw l ⟨fr,to,proto,fp,tp⟩ hfo t htl now 4 n
  have hen:=qW u hw l ⟨fr,to,proto,fp,tp⟩ hfo t htl now (bc u.n hw.n _ _ _) 4 n
  generalize tT u ⟨fr,to,proto,fp,tp⟩ t now=lv at *
  generalize sZ u ⟨fr,to,proto,fp,tp⟩ t now=en at *
  obtain ⟨v1,v2,v3,v4⟩:=lv
  obtain ⟨w1,w2,w3⟩:=en
  dsimp only at hlv hen ⊢
  cases ok with
  |false=>
   rw [if_pos rfl]
   refine xB {} 2 Tryz.func33 fun Γ hN0 hL0=>auC ?_
   have hn:n<Γ.g0:=hN0 0 _ rfl
   have hm:m<Γ.g0:=hN0 1 _ rfl
   repeat' first|refine auS ?_|(first|((with_reducible refine zD 61 ?_);(refine yl [0,1] [4] [0,1,4] rfl (by decide) rfl rfl hme ?_))|((with_reducible refine zD 62 ?_);(refine zk [0,4] (by decide) rfl rfl (hlv _) ?_))|((with_reducible refine zD 63 ?_);(refine zk [0,4] (by decide) rfl rfl (hen _) ?_))|(with_reducible refine z0 he ?_)|(with_reducible refine z0 hh ?_))|refine auD ?_|(refine auW ?_ ?_<;>intro h<;>try exact auH)|fail
   all_goals try exact auP
   all_goals try (exfalso;simp_all;done)
   exact tJ [0,1,4] [Γ.g0] trivial (by decide) rfl (fun a ha=>by simp at ha;subst ha;exact ⟨4,_,rfl,rfl⟩) (fun q=>⟨⟨rfl,trivial⟩,⟨rfl,trivial⟩,rfl⟩) (fun q=>⟨⟨.inr ⟨hn,rfl⟩,rfl,vR _ _ _ now (.inl ⟨0,rfl,rfl⟩),rfl⟩,⟨.inl ⟨0,rfl,rfl⟩,rfl,yz _ (w_ _ _)⟩,rfl⟩)
  |true=>
   rw [if_neg (by decide),if_pos (by decide)]
   refine xB {} 2 Tryz.func33 fun Γ hN0 hL0=>auC ?_
   have hn:n<Γ.g0:=hN0 0 _ rfl
   have hm:m<Γ.g0:=hN0 1 _ rfl
   repeat' first|refine auS ?_|(first|((with_reducible refine zD 61 ?_);(refine yl [0,1] [4] [0,1,4] rfl (by decide) rfl rfl hme ?_))|((with_reducible refine zD 62 ?_);(refine zk [0,4] (by decide) rfl rfl (hlv _) ?_))|((with_reducible refine zD 63 ?_);(refine zk [0,4] (by decide) rfl rfl (hen _) ?_))|(with_reducible refine z0 he ?_)|(with_reducible refine z0 hh ?_))|refine auD ?_|(refine auW ?_ ?_<;>intro h<;>try exact auH)|fail
   all_goals try exact auP
   all_goals try (exfalso;simp_all;done)
   exact tJ [0,1,4] [Γ.g0] trivial (by decide) rfl (fun a ha=>by simp at ha;subst ha;exact ⟨4,_,rfl,rfl⟩) (fun q=>⟨⟨rfl,trivial⟩,⟨rfl,trivial⟩,rfl⟩) (fun q=>⟨⟨.inr ⟨hn,rfl⟩,rfl,vR _ _ _ now (.inl ⟨0,rfl,rfl⟩),rfl⟩,⟨.inl ⟨0,rfl,rfl⟩,rfl,yz _ (w_ _ _)⟩,rfl⟩)
end Go.Proofs.YtmibknbmhcnemaaGreatDoor
namespace Go.Proofs.YtmibknbmhcnemaaGreatDoor
attribute [local irreducible] zu Go
set_option maxRecDepth 100000
theorem aC (l:List Mt) (lb q:Nat):vp ⟨q,5,l.map Mt.enc⟩ (.sl lb q 5 0 l.length false) (msD l):=.inl ⟨rfl,rfl,by simp,by rw [sa (by simp)]⟩
theorem gC (u:Hs) (l:List Mt) (lb q:Nat):uz ⟨q,5,l.map Mt.enc⟩ [u.row (.sl lb q 5 0 l.length false)] [u.row (msD l)]:=⟨⟨rfl,rfl,rfl,rfl,rfl,rfl,rfl,rfl,aC l lb q,rfl,rfl,rfl,rfl,rfl,rfl,rfl,rfl⟩,rfl⟩
theorem Xb (u:Hs) (f:Fl) (t:List UInt8) (now:Int) (l:List Mt) (lb q:Nat):uz ⟨q,5,l.map Mt.enc⟩ [wkR u (.sl lb q 5 0 l.length false) f t now] [wkR u (msD l) f t now]:=⟨⟨rfl,rfl,rfl,rfl,rfl,rfl,rfl,rfl,aC l lb q,rfl,rfl,rfl,rfl,rfl,rfl,rfl,rfl,rfl,rfl,rfl,rfl,rfl,rfl,rfl⟩,rfl⟩
theorem atR (s:Sl) {Γ:Gm} {P:Program} {N:Nat} {R:St→Prop} {o:XO} {g:Option (Sl×Bool)} {l:List XOp} {k:List KI} {st:St} (h:Go Γ P N R (.region (⟨some s,o,g⟩::l)) k st):Go Γ P N R (.region (⟨some s,o,g⟩::l)) k st:=h
def mV (u:Hs) (inside:Bool) (s:List UInt8) (now:Int):Hs×List UInt8×Int×Int:=
 if lp u≠0 then (u,[],0,lp u) else if now<rS u∨1099511627776<now then (u,[],0,1)
 else ((goR u inside s now).1,(goR u inside s now).2.2.2.1,(goR u inside s now).2.2.2.2,0)
abbrev ba (r:Hs×List UInt8×Int×Int):DV:=.tup [dH r.1,.v (.string (mkS r.2.1)),.v (.int .i64 r.2.2.1),.v (.int .i64 r.2.2.2)]
theorem cS (g:Nat) (u:Hs):nfL g (u.row (msD u.ms)):=⟨trivial,trivial,trivial,trivial,trivial,trivial,kU _ _,trivial,w_ _ _,fk _ _,trivial,trivial,trivial,trivial,trivial,A.um _ _,trivial⟩
set_option maxHeartbeats 8000000 in
theorem sF (u:Hs) (hw:u.wf) (inside:Bool) (s:List UInt8) (hs:s.length≤140737488351232) (now:Int):zc Tryz.prog 10 [dH u,.v (.bool inside),.v (.string (mkS s)),.v (.int .i64 now)] (ba (mV u inside s now)):=by
 have hown:=bh u hw
 have hck:=kD u hw
 have hnf:=fun g=>cS g u
 unfold mV
 by_cases hE:lp u=0
 rotate_left
 ·rw [if_pos hE]
  generalize lp u=e at *
  have hla:True:=trivial
  refine z3 {} 0 Tryz.func10 fun Γ hW=>auC ?_
  repeat' first|((with_reducible refine atR ⟨.d0,.d2,.d2⟩ ?_);(refine zV (zR hW 0 10 (by decide) (o:=⟨Γ.g0+2,5,u.ms.map Mt.enc⟩) (ys:=[u.row (msD u.ms)]) rfl rfl (gC u u.ms 1 _)) ?_))|refine auS ?_|(first|((with_reducible refine zD 31 ?_);(refine yl [] [10] [10] rfl (by decide) rfl rfl hown ?_))|(with_reducible refine z0 hck ?_)|(with_reducible refine z0 hla ?_))|refine auD ?_|(refine auW ?_ ?_<;>intro h<;>try exact auH)|fail
  all_goals try exact auP
  all_goals try (exfalso;simp_all;done)
  all_goals refine auV ?_
  all_goals try exact z9
  all_goals try simp only [hsM] at *
  all_goals rfl
 rw [if_neg (not_not_intro hE)]
 have hla:=sD u hw (kf (fm hE).2.2.2.2)
 rw [hE] at hck
 by_cases hn:now<rS u∨1099511627776<now
 ·rw [if_pos hn]
  clear hE
  generalize rS u=L at *
  refine z3 {} 0 Tryz.func10 fun Γ hW=>auC ?_
  repeat' first|((with_reducible refine atR ⟨.d0,.d2,.d2⟩ ?_);(refine zV (zR hW 0 10 (by decide) (o:=⟨Γ.g0+2,5,u.ms.map Mt.enc⟩) (ys:=[u.row (msD u.ms)]) rfl rfl (gC u u.ms 1 _)) ?_))|refine auS ?_|(first|((with_reducible refine zD 31 ?_);(refine yl [] [10] [10] rfl (by decide) rfl rfl hown ?_))|(with_reducible refine z0 hck ?_)|(with_reducible refine z0 hla ?_))|refine auD ?_|(refine auW ?_ ?_<;>intro h<;>try exact auH)|fail
  all_goals try exact auP
  all_goals try (exfalso;simp_all;done)
  all_goals refine auV ?_
  all_goals try exact z9
  all_goals try simp only [hsM] at *
  all_goals rfl
 rw [if_neg hn]
 have hgo:=e7 u hw hE inside s hs now (by omega)
 generalize rS u=L at *
 generalize goR u inside s now=r at *
 obtain ⟨v,f,t,o,y⟩:=r
 dsimp only at hgo ⊢
 have hnf2:=fun g=>cS g v
 refine z3 {} 0 Tryz.func10 fun Γ hW=>auC ?_
 repeat' first|((with_reducible refine atR ⟨.d0,.d5,.d2⟩ ?_);(refine zV (zR hW 2 11 (by decide) (ys:=[wkR v (msD v.ms) f t now]) rfl rfl (Xb v f t now v.ms 4 _)) ?_))|refine auS ?_|(first|((with_reducible refine zD 31 ?_);(refine yl [] [10] [10] rfl (by decide) rfl rfl hown ?_))|((with_reducible refine zD 16 ?_);(refine zk [10] (by decide) rfl rfl (jb rfl hck 1 _) ?_))|((with_reducible refine zD 32 ?_);(refine zk [10] (by decide) rfl rfl (jb rfl hla 1 _) ?_))|((with_reducible refine zD 33 ?_);(refine yl [2,10] [11] [2,10,11] rfl (by decide) rfl rfl (fS 2 (hgo _ _)) ?_)))|refine auD ?_|(refine auW ?_ ?_<;>intro h<;>try exact auH)|fail
 all_goals try exact auP
 all_goals try (exfalso;simp_all;done)
 all_goals refine auV ?_
 all_goals try exact z9
 all_goals try simp only [hsM] at *
 all_goals rfl
end Go.Proofs.YtmibknbmhcnemaaGreatDoor
