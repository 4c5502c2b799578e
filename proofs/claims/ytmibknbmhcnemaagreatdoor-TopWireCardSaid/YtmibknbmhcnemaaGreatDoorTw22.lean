import Derived.Test.YtmibknbmhcnemaaGreatDoorTw21
set_option linter.unusedVariables false
set_option linter.unusedSimpArgs false
namespace Go.Proofs.YtmibknbmhcnemaaGreatDoor
attribute [local irreducible] zu Go
set_option maxRecDepth 100000
set_option maxHeartbeats 1000000 in
theorem sR (l:List R.Rl) (c:Bool) (hl:zW l.length 80):zc Tryz.prog 35 [.snap 10 (l.map R.Rl.enc) c] (.snap 10 (l.map R.Rl.enc) false):=by
 have hones:∀r:List R.Rl,zE (r.map R.Rl.enc)=true:=zP (fun x=>rfl)
 have hnf:∀g,yR g (l.map R.Rl.enc):=fun g=>zg (fun x=>by simp [nfL,nfD])
 cases l with
 |nil=>
  refine z3 {} 0 Tryz.func35 fun Γ hW=>auC ?_
  dsimp only [List.map]
  repeat' first|refine auS ?_|(with_reducible refine wq ?_)|refine auD ?_|(refine auW ?_ ?_<;>intro h<;>try exact auH)|fail
  ·refine zl (yp (vi ⟨.d0,.d0,.d2⟩ 1 10 rfl rfl)) (zl (zi hW ⟨.d0,.d0,.d2⟩ rfl rfl ⟨rfl,rfl,by exact Nat.le_refl _⟩) ?_)
   dsimp only [zC,zF]
   all_goals refine auV ?_
   all_goals try exact z9
   all_goals try simp only [hsM] at *
  ·refine zl (zi hW ⟨.d0,.d0,.d2⟩ rfl rfl ⟨rfl,rfl,by exact Nat.le_refl _⟩) ?_
   rw [show zC (zF (([]:List (List DV))++[]) 0) 0=[] from rfl]
   all_goals refine auV ?_
   all_goals try exact z9
   all_goals try simp only [hsM] at *
 |cons x r=>
  refine z3 {} 0 Tryz.func35 fun Γ hW=>auC ?_
  dsimp only [List.map]
  repeat' first|refine auS ?_|(with_reducible refine wq ?_)|refine auD ?_|(refine auW ?_ ?_<;>intro h<;>try exact auH)|(refine z_ ⟨Or.inl (by omega),rfl,hones _,by simp only [zW,maxLen,List.length_map,List.length_cons] at hl ⊢;omega⟩ ?_)
  refine zl (zi hW ⟨.d0,.d0,.d2⟩ rfl rfl ⟨rfl,rfl,by simp⟩) ?_
  rw [show zC (zF ([]++R.Rl.enc x::r.map R.Rl.enc) 0) (0+((r.map R.Rl.enc).length+1))=(x::r).map R.Rl.enc from sa (by simp)]
  have hnf1:=hnf Γ.g0
  all_goals refine auV ?_
  all_goals try exact z9
  all_goals try simp only [hsM] at *
  all_goals rfl
set_option maxHeartbeats 1000000 in
theorem ma (l:List T.Tk) (c:Bool) (hl:zW l.length 48):zc Tryz.prog 57 [.snap 7 (l.map T.Tk.enc) c] (.snap 7 (l.map T.Tk.enc) false):=by
 have hones:∀r:List T.Tk,zE (r.map T.Tk.enc)=true:=zP (fun x=>rfl)
 have hnf:∀g,yR g (l.map T.Tk.enc):=fun g=>zg (fun x=>by simp [nfL,nfD])
 cases l with
 |nil=>
  refine z3 {} 0 Tryz.func57 fun Γ hW=>auC ?_
  dsimp only [List.map]
  repeat' first|refine auS ?_|(with_reducible refine wq ?_)|refine auD ?_|(refine auW ?_ ?_<;>intro h<;>try exact auH)|fail
  ·refine zl (yp (vi ⟨.d0,.d0,.d2⟩ 1 7 rfl rfl)) (zl (zi hW ⟨.d0,.d0,.d2⟩ rfl rfl ⟨rfl,rfl,by exact Nat.le_refl _⟩) ?_)
   dsimp only [zC,zF]
   all_goals refine auV ?_
   all_goals try exact z9
   all_goals try simp only [hsM] at *
  ·refine zl (zi hW ⟨.d0,.d0,.d2⟩ rfl rfl ⟨rfl,rfl,by exact Nat.le_refl _⟩) ?_
   rw [show zC (zF (([]:List (List DV))++[]) 0) 0=[] from rfl]
   all_goals refine auV ?_
   all_goals try exact z9
   all_goals try simp only [hsM] at *
 |cons x r=>
  refine z3 {} 0 Tryz.func57 fun Γ hW=>auC ?_
  dsimp only [List.map]
  repeat' first|refine auS ?_|(with_reducible refine wq ?_)|refine auD ?_|(refine auW ?_ ?_<;>intro h<;>try exact auH)|(refine z_ ⟨Or.inl (by omega),rfl,hones _,by simp only [zW,maxLen,List.length_map,List.length_cons] at hl ⊢;omega⟩ ?_)
  refine zl (zi hW ⟨.d0,.d0,.d2⟩ rfl rfl ⟨rfl,rfl,by simp⟩) ?_
  rw [show zC (zF ([]++T.Tk.enc x::r.map T.Tk.enc) 0) (0+((r.map T.Tk.enc).length+1))=(x::r).map T.Tk.enc from sa (by simp)]
  have hnf1:=hnf Γ.g0
  all_goals refine auV ?_
  all_goals try exact z9
  all_goals try simp only [hsM] at *
  all_goals rfl
set_option maxHeartbeats 1000000 in
theorem cz (l:List Mt) (c:Bool) (hl:zW l.length 40):xG Tryz.prog 56 [.snap 5 (l.map Mt.enc) c] [] (fun n d H=>d=.sl 1 n 5 0 l.length false∧H=[some ⟨n,5,l.map Mt.enc⟩]):=by
 have hones:∀r:List Mt,zE (r.map Mt.enc)=true:=zP (fun x=>rfl)
 cases l with
 |nil=>
  refine ve {} 0 Tryz.func56 fun Γ hW=>auC ?_
  dsimp only [List.map]
  repeat' first|refine auS ?_|(with_reducible refine wq ?_)|refine auD ?_|(refine auW ?_ ?_<;>intro h<;>try exact auH)|fail
  ·refine rR (yp (vi ⟨.d0,.d0,.d2⟩ 1 5 rfl rfl)) ?_
   exact yM 1 (fun n=>.sl 1 n 5 0 0 false) trivial rfl (Nat.le_refl _) trivial (fun n=>.inl ⟨rfl,rfl⟩) (fun n=>⟨rfl,rfl⟩)
  ·exact yM 1 (fun n=>.sl 1 n 5 0 0 false) trivial rfl (by show Γ.g0≤Γ.g0+1;omega) trivial (fun n=>.inl ⟨rfl,rfl⟩) (fun n=>⟨rfl,rfl⟩)
 |cons x r=>
  refine ve {} 0 Tryz.func56 fun Γ hW=>auC ?_
  dsimp only [List.map]
  repeat' first|refine auS ?_|(with_reducible refine wq ?_)|refine auD ?_|(refine auW ?_ ?_<;>intro h<;>try exact auH)|(refine z_ ⟨Or.inl (by omega),rfl,hones _,by simp only [zW,maxLen,List.length_map,List.length_cons] at hl ⊢;omega⟩ ?_)
  refine yM 1 (fun n=>.sl 1 n 5 0 (x::r).length false) trivial rfl (by show Γ.g0≤Γ.g0+1;omega) ?_ (fun n=>.inl ⟨rfl,?_⟩) (fun n=>⟨rfl,rfl⟩)
  ·exact (zg (fun x=>by simp [nfL,nfD]):yR Γ.g0 ((x::r).map Mt.enc))
  ·simp [List.length_map]
theorem lD (j:Nat) (l:List Mt) (c:Bool) (hl:zW l.length 40):xG Tryz.prog 56 [.snap 5 (l.map Mt.enc) c] [] (fun n d H=>d=.sl j n 5 0 l.length false∧H=[some ⟨n,5,l.map Mt.enc⟩]):=
 tY (cz l c hl) (fun K w n v h=>xO h)
theorem w_ (g:Nat) (l:List Mt):yR g (l.map Mt.enc):=zg (fun x=>by simp [Mt.enc,nfL,nfD])
theorem kU (g:Nat) (l:List R.Rl):yR g (l.map R.Rl.enc):=zg (fun x=>by simp [nfL,nfD])
theorem fk (g:Nat) (l:List T.Tk):yR g (l.map T.Tk.enc):=zg (fun x=>by simp [nfL,nfD])
set_option maxHeartbeats 4000000 in
theorem bh (u:Hs) (hw:u.wf):vd Tryz.prog 31 [dH u] [] 1 (fun n d H=>d=.agg (u.row (.sl 1 n 5 0 u.ms.length false))∧H=[some ⟨n,5,u.ms.map Mt.enc⟩]):=by
 have h1:=sR u.p.rs false hw.rs
 have h2:=ma u.tr false hw.tr
 have h3:=A.xp u.n.ms false hw.n.mm
 have h4:=lD 10 u.ms false hw.ms
 refine bb {} 0 Tryz.func31 fun Γ hW=>auC ?_
 repeat' first|refine auS ?_|(first|(with_reducible refine z0 h1 ?_)|(with_reducible refine z0 h2 ?_)|(with_reducible refine z0 h3 ?_)|(with_reducible refine zB 10 h4 ?_))|refine auD ?_|(refine auW ?_ ?_<;>intro h<;>try exact auH)|fail
 exact tJ [10] [Γ.g0+2] ⟨⟨rfl,rfl,Nat.zero_lt_one,Nat.le_refl _⟩,trivial⟩ (by decide) rfl (fun a ha=>by simp at ha;subst ha;exact ⟨10,_,rfl,rfl⟩) (fun n=>⟨⟨rfl,trivial⟩,⟨rfl,trivial⟩,⟨rfl,trivial⟩,⟨rfl,trivial⟩,⟨rfl,trivial⟩,⟨rfl,trivial⟩,⟨rfl,kU _ _⟩,⟨rfl,trivial⟩,⟨1,n,.inl ⟨0,rfl,rfl⟩,rfl⟩,⟨rfl,fk _ _⟩,⟨rfl,trivial⟩,⟨rfl,trivial⟩,⟨rfl,trivial⟩,⟨rfl,trivial⟩,⟨rfl,trivial⟩,⟨rfl,A.um _ _⟩,rfl⟩) (fun n=>⟨⟨.inl ⟨0,rfl,rfl⟩,rfl,yz _ (w_ _ _)⟩,rfl⟩)
def zH (p:R.Pl):DV:=.agg [.v (.int .u32 p.ou),.v (.int .i64 p.lt),.v (.int .i64 p.st),.v (.int .i64 p.lf),.v (.int .i64 p.ra),.v (.int .i64 p.mo),.snap 10 (p.rs.map R.Rl.enc) false,.v (.bool p.el),.v (.slice none 0 0),.v (.slice none 0 0),.v (.int .i64 p.lf),.v (.int .i64 p.lt),.v (.int .u64 0),.v (.int .i64 p.st),.v (.int .u64 0),.v (.slice none 0 0)]
set_option maxHeartbeats 4000000 in
theorem bi (p:R.Pl) (hw:p.wf) (hl:zW p.rs.length 80):zc Tryz.prog 13 [R.dPl p false] (.tup [dH (k9 p),.v (.int .i64 (R.plE p))]):=by
 have h1:=sR p.rs false hl
 have h2:=R.s6 p false hw hl.1
 have hnf:=fun g=>kU g p.rs
 unfold k9
 by_cases he:R.plE p=0
 ·rw [if_pos he,he]
  rw [he] at h2
  refine xN (D:=.tup [zH p,.v (.int .i64 0)]) ?_ ⟨?_,.inl rfl,rfl⟩
  ·unfold zH
   refine z3 {} 0 Tryz.func13 fun Γ hW=>auC ?_
   repeat' first|refine auS ?_|(first|(with_reducible refine z0 h1 ?_)|(with_reducible refine z0 h2 ?_))|refine auD ?_|(refine auW ?_ ?_<;>intro h<;>try exact auH)|fail
   all_goals try exact auP
   all_goals refine auV ?_
   all_goals try exact z9
   all_goals try simp only [hsM] at *
  ·unfold zH
   exact ⟨.inl rfl,.inl rfl,.inl rfl,.inl rfl,.inl rfl,.inl rfl,rfl,.inl rfl,.inr ⟨rfl,_,rfl⟩,.inr ⟨rfl,_,rfl⟩,.inl rfl,.inl rfl,.inl rfl,.inl rfl,.inl rfl,.inr ⟨rfl,_,rfl⟩,rfl⟩
 ·rw [if_neg he]
  generalize R.plE p=e at *
  refine xN (D:=.tup [.agg [.v (.int .u32 0),.v (.int .i64 0),.v (.int .i64 0),.v (.int .i64 0),.v (.int .i64 0),.v (.int .i64 0),.v (.slice none 0 0),.v (.bool false),.v (.slice none 0 0),.v (.slice none 0 0),.v (.int .i64 0),.v (.int .i64 0),.v (.int .u64 0),.v (.int .i64 0),.v (.int .u64 0),.v (.slice none 0 0)],.v (.int .i64 e)]) ?_ ⟨⟨.inl rfl,.inl rfl,.inl rfl,.inl rfl,.inl rfl,.inl rfl,.inr ⟨rfl,_,rfl⟩,.inl rfl,.inr ⟨rfl,_,rfl⟩,.inr ⟨rfl,_,rfl⟩,.inl rfl,.inl rfl,.inl rfl,.inl rfl,.inl rfl,.inr ⟨rfl,_,rfl⟩,rfl⟩,.inl rfl,rfl⟩
  refine z3 {} 0 Tryz.func13 fun Γ hW=>auC ?_
  repeat' first|refine auS ?_|(first|(with_reducible refine z0 h1 ?_)|(with_reducible refine z0 h2 ?_))|refine auD ?_|(refine auW ?_ ?_<;>intro h<;>try exact auH)|fail
  all_goals try exact auP
  all_goals refine auV ?_
  all_goals try exact z9
  all_goals try simp only [hsM] at *
end Go.Proofs.YtmibknbmhcnemaaGreatDoor
namespace Go.Proofs.YtmibknbmhcnemaaGreatDoor
def pn (K:Kr) (H0:HL):Kr:=⟨K.dom,K.real,K.μ,fun g=>K.M g∧¬ ∃k o,z8 H0 k=some o∧K.real o.n∧K.μ o.n=g⟩
theorem uN (K:Kr) (H0:HL) (w:World):yE K w (pn K H0) w:=⟨Ext.refl _ _,fun n h=>⟨h,rfl⟩,fun g _ h=>h.1⟩
theorem jw {Γ:Gm} {K:Kr} {w:World} {H0:HL} (hI:Inv Γ K (z8 H0) w) {i0 k n sz len:Nat} {full:Bool} {xs ys:List (List DV)} (h0:z8 H0 i0=some ⟨n,sz,xs⟩) (hsz:0<sz) (hlen:xs.length=len) (hl:ys.length=xs.length)
  (hxy:∀(i:Nat) (x y:List DV),xs[i]?=some x→ys[i]?=some y→y.length=sz∧∀(j:Nat) (e:DV),y[j]?=some e→∃d,x[j]?=some d∧∀v,za K w d v→za (pn K H0) w e v) {v:Value} (hv:za K w (.sl k n sz 0 len full) v):za (pn K H0) w (.snap sz ys false) v:=by
 have hys:∀y∈ys,y.length=sz:=fun y hy=>by
  obtain ⟨i,hi⟩:=List.mem_iff_getElem?.1 hy
  have hil:=(List.getElem?_eq_some_iff.1 hi).1
  exact (hxy i _ y (List.getElem?_eq_getElem (by omega)) hi).1
 cases hv with
 |sl hlc hf hh=>
  rename_i A cap
  by_cases hz:len=0
  ·subst hz
   have e1:ys=[]:=List.length_eq_zero_iff.1 (by omega)
   subst e1
   exact .snap (fun _ _=>undef) rfl (Nat.zero_le _) (fun q=>by cases q) hys (fun q=>by omega) (fun ad i x j d _ hx _=>by simp at hx) (fun i x j d hx _=>by simp at hx)
  ·rcases hh with hh|⟨hr,rfl,cs',t',fr',q3,q4,q5⟩
   ·omega
   ·rcases (hI.obj i0 _ h0).two (fun hm=>by have:=hm.2.1;simp only at this;omega) with ⟨u1,-⟩|⟨-,cs,t,fr,u2,u3,u4,u5,u6⟩
    ·exact absurd hr u1
    ·have hget:∀(i:Nat) (y:List DV) (j:Nat) (e:DV),ys[i]?=some y→y[j]?=some e→∃c,cs[i*sz+j]?=some c∧za (pn K H0) w e c:=fun i y j e hy he=>by
      have hil:=(List.getElem?_eq_some_iff.1 hy).1
      obtain ⟨x,hx⟩:∃x,xs[i]?=some x:=⟨_,List.getElem?_eq_getElem (by omega)⟩
      obtain ⟨d,hd,hde⟩:=(hxy i x y hx hy).2 j e he
      obtain ⟨c,c1,c2⟩:=u6 i x j d hx hd
      exact ⟨c,c1,hde c c2⟩
     refine .snap (fun i j=>(cs[i*sz+j]?).getD undef) (by omega) hlc (fun q=>by cases q) hys (fun _=>⟨_,rfl,rfl,hI.lt _ hr,fun q=>q.2 ⟨i0,_,h0,hr,rfl⟩⟩) (fun ad i y j e hA hy he=>?_) (fun i y j e hy he=>?_)
     ·obtain rfl:=Option.some.inj hA
      obtain ⟨c,c1,-⟩:=hget i y j e hy he
      rw [zZ,Nat.zero_mul,Nat.zero_add,c1]
      unfold World.cell?
      dsimp only at u3 ⊢
      rw [u3]
      simpa using c1
     ·obtain ⟨c,c1,c2⟩:=hget i y j e hy he
      simp only [c1,Option.getD_some]
      exact c2
theorem nL {P:Program} {f:FuncId} {ds ds':List DV} {H0:HL} {D:DV} (hD:re D=true) (harg:∀(Γ:Gm) (K:Kr) (w:World) (vs:Array Value),Inv Γ K (z8 H0) w→zv K w ds' vs→zv (pn K H0) w ds vs) (h:zc P f ds D):zz P f ds' H0 (fun d H=>d=D∧H=H0):=by
 refine ⟨h.1,fun K w vs g0 hI hlt hargs=>?_⟩
 have hargs1:=harg _ _ _ _ hI hargs
 have hI1:Inv (yV (pn (K.cut w) H0) w g0 []) ((pn (K.cut w) H0).cut w) (z8 []) w:=
  ⟨Ext.refl _ _,⟨fun m hm=>.inl hm,fun m hm _=>hm,fun m hm=>⟨hm,rfl⟩,fun g _=>Iff.rfl⟩,fun k o h=>by simp [z8] at h,fun k k' o o' h=>by simp [z8] at h,fun m hm=>hI.dr m hm,fun m hm=>hI.lt m hm,fun k o h=>by simp [z8] at h,fun k o h=>by simp [z8] at h,fun g cs hg=>⟨fun ⟨_,_,q,_⟩=>by simp [z8] at q,fun q=>(hI.glob hg).1 ⟨q.1.1.1,q.2⟩,(hI.glob hg).2⟩⟩
 refine (h.2 (pn (K.cut w) H0) w vs g0 hI1 hlt (vf hargs1)).mono ?_
 rintro e w' ⟨v,d,H1,rfl,⟨rfl,rfl⟩,hI',hv⟩
 have hext:Ext (fun _=>False) w w':=hI'.ext.weaken (fun g _ ⟨k,o,hk,_⟩=>by simp [z8] at hk)
 exact ⟨v,_,H0,rfl,⟨rfl,rfl⟩,Zl hI hext,i9 hv hD⟩
theorem dg {K:Kr} {w:World} {H0:HL} {d e:DV} {ds:List DV} {vs:Array Value} (h:zv K w (d::ds) vs) (hd:∀v,za K w d v→za (pn K H0) w e v):zv (pn K H0) w (e::ds) vs:=
 ⟨by simpa using h.1,fun i x v hx hv=>by
  match i,hx with
  |0,hx=>
   obtain rfl:=Option.some.inj hx
   exact hd v (h.2 0 d v rfl hv)
  |i+1,hx=>exact (h.2 (i+1) x v (by simpa using hx) hv).mono (uN K H0 w)⟩
theorem iP {K:Kr} {w:World} {H0:HL} {u:Hs} {d e:DV} {v:Value} (h:za K w (.agg (u.row d)) v) (hd:∀x,za K w d x→za (pn K H0) w e x):za (pn K H0) w (.agg (u.row e)) v:=by
 cases h with
 |agg hl hc=>
  refine .agg hl fun i x c hx hcx=>?_
  by_cases hi:i=8
  ·subst hi
   obtain rfl:e=x:=Option.some.inj hx
   exact hd c (hc 8 d c rfl hcx)
  ·have e1:u.row e=(u.row d).set 8 e:=rfl
   rw [e1,List.getElem?_set_ne (fun q=>hi q.symm)] at hx
   exact (hc i x c hx hcx).mono (uN K H0 w)
theorem jb {P:Program} {f:FuncId} {u:Hs} {ds:List DV} {D:DV} (hD:re D=true) (h:zc P f (dH u::ds) D) (k n:Nat):zz P f (.agg (u.row (.sl k n 5 0 u.ms.length false))::ds) [some ⟨n,5,u.ms.map Mt.enc⟩] (fun d H=>d=D∧H=[some ⟨n,5,u.ms.map Mt.enc⟩]):=
 nL hD (fun Γ K w vs hI ha=>dg ha fun v hv=>iP hv fun x hx=>jw (i0:=0) hI rfl (by decide) (by simp) rfl (fun i x y hx hy=>by
  obtain rfl:x=y:=Option.some.inj (hx.symm.trans hy)
  refine ⟨?_,fun j e he=>⟨e,he,fun v hv=>hv.mono (uN K _ w)⟩⟩
  obtain ⟨z,-,rfl⟩:=List.mem_map.1 (List.mem_of_getElem? hx)
  rfl) hx) h
end Go.Proofs.YtmibknbmhcnemaaGreatDoor
