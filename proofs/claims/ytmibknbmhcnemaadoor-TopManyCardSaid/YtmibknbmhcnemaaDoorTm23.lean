import Derived.Test.YtmibknbmhcnemaaDoorTm22
set_option linter.unusedVariables false
set_option linter.unusedSimpArgs false
namespace Go.Proofs.YtmibknbmhcnemaaDoor
attribute [local irreducible] zz Go
set_option maxRecDepth 100000
set_option maxHeartbeats 1000000 in
theorem sK (l:List R.Rl) (c:Bool) (hl:y7 l.length 80):zf Tryd.prog 12 [.snap 10 (l.map R.Rl.enc) c] (.snap 10 (l.map R.Rl.enc) false):=by
 have hones:∀r:List R.Rl,zC (r.map R.Rl.enc)=true:=yi (fun x=>rfl)
 have hnf:∀g,yL g (l.map R.Rl.enc):=fun g=>zj (fun x=>by simp [nfL,nfD])
 cases l with
 |nil=>
  refine z4 {} 0 Tryd.func12 fun Γ hW=>auC ?_
  dsimp only [List.map]
  repeat' first|refine auS ?_|(with_reducible refine v7 ?_)|refine auD ?_|(refine auW ?_ ?_<;>intro h<;>try exact auH)|fail
  ·refine zw (yZ (uS ⟨.d0,.d0,.d2⟩ 1 10 rfl rfl)) (zw (zi hW ⟨.d0,.d0,.d2⟩ rfl rfl ⟨rfl,rfl,by exact Nat.le_refl _⟩) ?_)
   dsimp only [zx,zD]
   all_goals refine auV ?_
   all_goals try exact z_
   all_goals try simp only [hsM] at *
  ·refine zw (zi hW ⟨.d0,.d0,.d2⟩ rfl rfl ⟨rfl,rfl,by exact Nat.le_refl _⟩) ?_
   rw [show zx (zD (([]:List (List DV))++[]) 0) 0=[] from rfl]
   all_goals refine auV ?_
   all_goals try exact z_
   all_goals try simp only [hsM] at *
 |cons x r=>
  refine z4 {} 0 Tryd.func12 fun Γ hW=>auC ?_
  dsimp only [List.map]
  repeat' first|refine auS ?_|(with_reducible refine v7 ?_)|refine auD ?_|(refine auW ?_ ?_<;>intro h<;>try exact auH)|(refine za ⟨Or.inl (by omega),rfl,hones _,by simp only [y7,maxLen,List.length_map,List.length_cons] at hl ⊢;omega⟩ ?_)
  refine zw (zi hW ⟨.d0,.d0,.d2⟩ rfl rfl ⟨rfl,rfl,by simp⟩) ?_
  rw [show zx (zD ([]++R.Rl.enc x::r.map R.Rl.enc) 0) (0+((r.map R.Rl.enc).length+1))=(x::r).map R.Rl.enc from qd (by simp)]
  have hnf1:=hnf Γ.g0
  all_goals refine auV ?_
  all_goals try exact z_
  all_goals try simp only [hsM] at *
  all_goals rfl
set_option maxHeartbeats 1000000 in
theorem nE (l:List T.Tk) (c:Bool) (hl:y7 l.length 48):zf Tryd.prog 33 [.snap 7 (l.map T.Tk.enc) c] (.snap 7 (l.map T.Tk.enc) false):=by
 have hones:∀r:List T.Tk,zC (r.map T.Tk.enc)=true:=yi (fun x=>rfl)
 have hnf:∀g,yL g (l.map T.Tk.enc):=fun g=>zj (fun x=>by simp [nfL,nfD])
 cases l with
 |nil=>
  refine z4 {} 0 Tryd.func33 fun Γ hW=>auC ?_
  dsimp only [List.map]
  repeat' first|refine auS ?_|(with_reducible refine v7 ?_)|refine auD ?_|(refine auW ?_ ?_<;>intro h<;>try exact auH)|fail
  ·refine zw (yZ (uS ⟨.d0,.d0,.d2⟩ 1 7 rfl rfl)) (zw (zi hW ⟨.d0,.d0,.d2⟩ rfl rfl ⟨rfl,rfl,by exact Nat.le_refl _⟩) ?_)
   dsimp only [zx,zD]
   all_goals refine auV ?_
   all_goals try exact z_
   all_goals try simp only [hsM] at *
  ·refine zw (zi hW ⟨.d0,.d0,.d2⟩ rfl rfl ⟨rfl,rfl,by exact Nat.le_refl _⟩) ?_
   rw [show zx (zD (([]:List (List DV))++[]) 0) 0=[] from rfl]
   all_goals refine auV ?_
   all_goals try exact z_
   all_goals try simp only [hsM] at *
 |cons x r=>
  refine z4 {} 0 Tryd.func33 fun Γ hW=>auC ?_
  dsimp only [List.map]
  repeat' first|refine auS ?_|(with_reducible refine v7 ?_)|refine auD ?_|(refine auW ?_ ?_<;>intro h<;>try exact auH)|(refine za ⟨Or.inl (by omega),rfl,hones _,by simp only [y7,maxLen,List.length_map,List.length_cons] at hl ⊢;omega⟩ ?_)
  refine zw (zi hW ⟨.d0,.d0,.d2⟩ rfl rfl ⟨rfl,rfl,by simp⟩) ?_
  rw [show zx (zD ([]++T.Tk.enc x::r.map T.Tk.enc) 0) (0+((r.map T.Tk.enc).length+1))=(x::r).map T.Tk.enc from qd (by simp)]
  have hnf1:=hnf Γ.g0
  all_goals refine auV ?_
  all_goals try exact z_
  all_goals try simp only [hsM] at *
  all_goals rfl
set_option maxHeartbeats 1000000 in
theorem dq (l:List Mt) (c:Bool) (hl:y7 l.length 40):u0 Tryd.prog 32 [.snap 5 (l.map Mt.enc) c] [] (fun n d H=>d=.sl 1 n 5 0 l.length false∧H=[some ⟨n,5,l.map Mt.enc⟩]):=by
 have hones:∀r:List Mt,zC (r.map Mt.enc)=true:=yi (fun x=>rfl)
 cases l with
 |nil=>
  refine uq {} 0 Tryd.func32 fun Γ hW=>auC ?_
  dsimp only [List.map]
  repeat' first|refine auS ?_|(with_reducible refine v7 ?_)|refine auD ?_|(refine auW ?_ ?_<;>intro h<;>try exact auH)|fail
  ·refine nk (yZ (uS ⟨.d0,.d0,.d2⟩ 1 5 rfl rfl)) ?_
   exact xl 1 (fun n=>.sl 1 n 5 0 0 false) trivial rfl (Nat.le_refl _) trivial (fun n=>.inl ⟨rfl,rfl⟩) (fun n=>⟨rfl,rfl⟩)
  ·exact xl 1 (fun n=>.sl 1 n 5 0 0 false) trivial rfl (by show Γ.g0≤Γ.g0+1;omega) trivial (fun n=>.inl ⟨rfl,rfl⟩) (fun n=>⟨rfl,rfl⟩)
 |cons x r=>
  refine uq {} 0 Tryd.func32 fun Γ hW=>auC ?_
  dsimp only [List.map]
  repeat' first|refine auS ?_|(with_reducible refine v7 ?_)|refine auD ?_|(refine auW ?_ ?_<;>intro h<;>try exact auH)|(refine za ⟨Or.inl (by omega),rfl,hones _,by simp only [y7,maxLen,List.length_map,List.length_cons] at hl ⊢;omega⟩ ?_)
  refine xl 1 (fun n=>.sl 1 n 5 0 (x::r).length false) trivial rfl (by show Γ.g0≤Γ.g0+1;omega) ?_ (fun n=>.inl ⟨rfl,?_⟩) (fun n=>⟨rfl,rfl⟩)
  ·exact (zj (fun x=>by simp [nfL,nfD]):yL Γ.g0 ((x::r).map Mt.enc))
  ·simp [List.length_map]
theorem mQ (j:Nat) (l:List Mt) (c:Bool) (hl:y7 l.length 40):u0 Tryd.prog 32 [.snap 5 (l.map Mt.enc) c] [] (fun n d H=>d=.sl j n 5 0 l.length false∧H=[some ⟨n,5,l.map Mt.enc⟩]):=
 oX (dq l c hl) (fun K w n v h=>wS h)
theorem xU (g:Nat) (l:List Mt):yL g (l.map Mt.enc):=zj (fun x=>by simp [Mt.enc,nfL,nfD])
theorem lX (g:Nat) (l:List R.Rl):yL g (l.map R.Rl.enc):=zj (fun x=>by simp [nfL,nfD])
theorem gj (g:Nat) (l:List T.Tk):yL g (l.map T.Tk.enc):=zj (fun x=>by simp [nfL,nfD])
set_option maxHeartbeats 4000000 in
theorem bH (u:Hs) (hw:u.wf):wU Tryd.prog 15 [dH u] [] 1 (fun n d H=>d=.agg (u.row (.sl 1 n 5 0 u.ms.length false))∧H=[some ⟨n,5,u.ms.map Mt.enc⟩]):=by
 have h1:=sK u.p.rs false hw.rs
 have h2:=nE u.tr false hw.tr
 have h3:=A.x7 u.n.ms false hw.n.mm
 have h4:=mQ 10 u.ms false hw.ms
 refine bO {} 0 Tryd.func15 fun Γ hW=>auC ?_
 repeat' first|refine auS ?_|(first|(with_reducible refine z0 h1 ?_)|(with_reducible refine z0 h2 ?_)|(with_reducible refine z0 h3 ?_)|(with_reducible refine yc 10 h4 ?_))|refine auD ?_|(refine auW ?_ ?_<;>intro h<;>try exact auH)|fail
 exact td [10] [Γ.g0+2] ⟨⟨rfl,rfl,Nat.zero_lt_one,Nat.le_refl _⟩,trivial⟩ (by decide) rfl (fun a ha=>by simp at ha;subst ha;exact ⟨10,_,rfl,rfl⟩) (fun n=>⟨⟨rfl,trivial⟩,⟨rfl,trivial⟩,⟨rfl,trivial⟩,⟨rfl,trivial⟩,⟨rfl,trivial⟩,⟨rfl,trivial⟩,⟨rfl,lX _ _⟩,⟨rfl,trivial⟩,⟨1,n,.inl ⟨0,rfl,rfl⟩,rfl⟩,⟨rfl,gj _ _⟩,⟨rfl,trivial⟩,⟨rfl,trivial⟩,⟨rfl,trivial⟩,⟨rfl,trivial⟩,⟨rfl,trivial⟩,⟨rfl,A.u7 _ _⟩,rfl⟩) (fun n=>⟨⟨.inl ⟨0,rfl,rfl⟩,rfl,yk _ (xU _ _)⟩,rfl⟩)
def zH (p:R.Pl):DV:=.agg [.v (.int .u32 p.ou),.v (.int .i64 p.lt),.v (.int .i64 p.st),.v (.int .i64 p.lf),.v (.int .i64 p.ra),.v (.int .i64 p.mo),.snap 10 (p.rs.map R.Rl.enc) false,.v (.bool p.el),.v (.slice none 0 0),.v (.slice none 0 0),.v (.int .i64 p.lf),.v (.int .i64 p.lt),.v (.int .u64 0),.v (.int .i64 p.st),.v (.int .u64 0),.v (.slice none 0 0)]
set_option maxHeartbeats 4000000 in
theorem kQ (p:R.Pl) (hw:p.wf) (hl:y7 p.rs.length 80):zf Tryd.prog 5 [R.dPl p false] (.tup [dH (ox p),.v (.int .i64 (R.plE p))]):=by
 have h1:=sK p.rs false hl
 have h2:=R.s6 p false hw hl.1
 have hnf:=fun g=>lX g p.rs
 unfold ox
 by_cases he:R.plE p=0
 ·rw [if_pos he,he]
  rw [he] at h2
  refine wn (D:=.tup [zH p,.v (.int .i64 0)]) ?_ ⟨?_,.inl rfl,rfl⟩
  ·unfold zH
   refine z4 {} 0 Tryd.func5 fun Γ hW=>auC ?_
   repeat' first|refine auS ?_|(first|(with_reducible refine z0 h1 ?_)|(with_reducible refine z0 h2 ?_))|refine auD ?_|(refine auW ?_ ?_<;>intro h<;>try exact auH)|fail
   all_goals try exact auP
   all_goals refine auV ?_
   all_goals try exact z_
   all_goals try simp only [hsM] at *
  ·unfold zH
   exact ⟨.inl rfl,.inl rfl,.inl rfl,.inl rfl,.inl rfl,.inl rfl,rfl,.inl rfl,.inr ⟨rfl,_,rfl⟩,.inr ⟨rfl,_,rfl⟩,.inl rfl,.inl rfl,.inl rfl,.inl rfl,.inl rfl,.inr ⟨rfl,_,rfl⟩,rfl⟩
 ·rw [if_neg he]
  generalize R.plE p=e at *
  refine wn (D:=.tup [.agg [.v (.int .u32 0),.v (.int .i64 0),.v (.int .i64 0),.v (.int .i64 0),.v (.int .i64 0),.v (.int .i64 0),.v (.slice none 0 0),.v (.bool false),.v (.slice none 0 0),.v (.slice none 0 0),.v (.int .i64 0),.v (.int .i64 0),.v (.int .u64 0),.v (.int .i64 0),.v (.int .u64 0),.v (.slice none 0 0)],.v (.int .i64 e)]) ?_ ⟨⟨.inl rfl,.inl rfl,.inl rfl,.inl rfl,.inl rfl,.inl rfl,.inr ⟨rfl,_,rfl⟩,.inl rfl,.inr ⟨rfl,_,rfl⟩,.inr ⟨rfl,_,rfl⟩,.inl rfl,.inl rfl,.inl rfl,.inl rfl,.inl rfl,.inr ⟨rfl,_,rfl⟩,rfl⟩,.inl rfl,rfl⟩
  refine z4 {} 0 Tryd.func5 fun Γ hW=>auC ?_
  repeat' first|refine auS ?_|(first|(with_reducible refine z0 h1 ?_)|(with_reducible refine z0 h2 ?_))|refine auD ?_|(refine auW ?_ ?_<;>intro h<;>try exact auH)|fail
  all_goals try exact auP
  all_goals refine auV ?_
  all_goals try exact z_
  all_goals try simp only [hsM] at *
end Go.Proofs.YtmibknbmhcnemaaDoor
namespace Go.Proofs.YtmibknbmhcnemaaDoor
def p7 (K:Kr) (H0:HL):Kr:=⟨K.dom,K.real,K.μ,fun g=>K.M g∧¬ ∃k o,z8 H0 k=some o∧K.real o.n∧K.μ o.n=g⟩
theorem qa (K:Kr) (H0:HL) (w:World):yr K w (p7 K H0) w:=⟨Ext.refl _ _,fun n h=>⟨h,rfl⟩,fun g _ h=>h.1⟩
theorem eN {Γ:Gm} {K:Kr} {w:World} {H0:HL} (hI:Inv Γ K (z8 H0) w) {i0 k n sz len:Nat} {full:Bool} {xs ys:List (List DV)} (h0:z8 H0 i0=some ⟨n,sz,xs⟩) (hsz:0<sz) (hlen:xs.length=len) (hl:ys.length=xs.length)
  (hxy:∀(i:Nat) (x y:List DV),xs[i]?=some x→ys[i]?=some y→y.length=sz∧∀(j:Nat) (e:DV),y[j]?=some e→∃d,x[j]?=some d∧∀v,z9 K w d v→z9 (p7 K H0) w e v) {v:Value} (hv:z9 K w (.sl k n sz 0 len full) v):z9 (p7 K H0) w (.snap sz ys false) v:=by
 have hys:∀y∈ys,y.length=sz:=fun y hy=>by
  obtain ⟨i,hi⟩:=List.mem_iff_getElem?.1 hy
  have hil:=(List.getElem?_eq_some_iff.1 hi).1
  exact (hxy i _ y (List.getElem?_eq_getElem (by omega)) hi).1
 cases hv with
 |sl hlc hf hh=>
  rename_i A cap
  by_cases hz:len=0
  ·subst hz
   have e1:ys=[]:=List.length_eq_zero_iff.1 (by omega)
   subst e1
   exact .snap (fun _ _=>undef) rfl (Nat.zero_le _) (fun q=>by cases q) hys (fun q=>by omega) (fun ad i x j d _ hx _=>by simp at hx) (fun i x j d hx _=>by simp at hx)
  ·rcases hh with hh|⟨hr,rfl,cs',t',fr',q3,q4,q5⟩
   ·omega
   ·rcases (hI.obj i0 _ h0).two (fun hm=>by have:=hm.2.1;simp only at this;omega) with ⟨u1,-⟩|⟨-,cs,t,fr,u2,u3,u4,u5,u6⟩
    ·exact absurd hr u1
    ·have hget:∀(i:Nat) (y:List DV) (j:Nat) (e:DV),ys[i]?=some y→y[j]?=some e→∃c,cs[i*sz+j]?=some c∧z9 (p7 K H0) w e c:=fun i y j e hy he=>by
      have hil:=(List.getElem?_eq_some_iff.1 hy).1
      obtain ⟨x,hx⟩:∃x,xs[i]?=some x:=⟨_,List.getElem?_eq_getElem (by omega)⟩
      obtain ⟨d,hd,hde⟩:=(hxy i x y hx hy).2 j e he
      obtain ⟨c,c1,c2⟩:=u6 i x j d hx hd
      exact ⟨c,c1,hde c c2⟩
     refine .snap (fun i j=>(cs[i*sz+j]?).getD undef) (by omega) hlc (fun q=>by cases q) hys (fun _=>⟨_,rfl,rfl,hI.lt _ hr,fun q=>q.2 ⟨i0,_,h0,hr,rfl⟩⟩) (fun ad i y j e hA hy he=>?_) (fun i y j e hy he=>?_)
     ·obtain rfl:=Option.some.inj hA
      obtain ⟨c,c1,-⟩:=hget i y j e hy he
      rw [zN,Nat.zero_mul,Nat.zero_add,c1]
      unfold World.cell?
      dsimp only at u3 ⊢
      rw [u3]
      simpa using c1
     ·obtain ⟨c,c1,c2⟩:=hget i y j e hy he
      simp only [c1,Option.getD_some]
      exact c2
theorem iG {P:Program} {f:FuncId} {ds ds':List DV} {H0:HL} {D:DV} (hD:ri D=true) (harg:∀(Γ:Gm) (K:Kr) (w:World) (vs:Array Value),Inv Γ K (z8 H0) w→zr K w ds' vs→zr (p7 K H0) w ds vs) (h:zf P f ds D):zy P f ds' H0 (fun d H=>d=D∧H=H0):=by
 refine ⟨h.1,fun K w vs g0 hI hlt hargs=>?_⟩
 have hargs1:=harg _ _ _ _ hI hargs
 have hI1:Inv (yM (p7 (K.cut w) H0) w g0 []) ((p7 (K.cut w) H0).cut w) (z8 []) w:=
  ⟨Ext.refl _ _,⟨fun m hm=>.inl hm,fun m hm _=>hm,fun m hm=>⟨hm,rfl⟩,fun g _=>Iff.rfl⟩,fun k o h=>by simp [z8] at h,fun k k' o o' h=>by simp [z8] at h,fun m hm=>hI.dr m hm,fun m hm=>hI.lt m hm,fun k o h=>by simp [z8] at h,fun k o h=>by simp [z8] at h,fun g cs hg=>⟨fun ⟨_,_,q,_⟩=>by simp [z8] at q,fun q=>(hI.glob hg).1 ⟨q.1.1.1,q.2⟩,(hI.glob hg).2⟩⟩
 refine (h.2 (p7 (K.cut w) H0) w vs g0 hI1 hlt (wN hargs1)).mono ?_
 rintro e w' ⟨v,d,H1,rfl,⟨rfl,rfl⟩,hI',hv⟩
 have hext:Ext (fun _=>False) w w':=hI'.ext.weaken (fun g _ ⟨k,o,hk,_⟩=>by simp [z8] at hk)
 exact ⟨v,_,H0,rfl,⟨rfl,rfl⟩,aj hI hext,jW hv hD⟩
theorem fj {K:Kr} {w:World} {H0:HL} {d e:DV} {ds:List DV} {vs:Array Value} (h:zr K w (d::ds) vs) (hd:∀v,z9 K w d v→z9 (p7 K H0) w e v):zr (p7 K H0) w (e::ds) vs:=
 ⟨by simpa using h.1,fun i x v hx hv=>by
  match i,hx with
  |0,hx=>
   obtain rfl:=Option.some.inj hx
   exact hd v (h.2 0 d v rfl hv)
  |i+1,hx=>exact (h.2 (i+1) x v (by simpa using hx) hv).mono (qa K H0 w)⟩
theorem iA {K:Kr} {w:World} {H0:HL} {u:Hs} {d e:DV} {v:Value} (h:z9 K w (.agg (u.row d)) v) (hd:∀x,z9 K w d x→z9 (p7 K H0) w e x):z9 (p7 K H0) w (.agg (u.row e)) v:=by
 cases h with
 |agg hl hc=>
  refine .agg hl fun i x c hx hcx=>?_
  by_cases hi:i=8
  ·subst hi
   obtain rfl:e=x:=Option.some.inj hx
   exact hd c (hc 8 d c rfl hcx)
  ·have e1:u.row e=(u.row d).set 8 e:=rfl
   rw [e1,List.getElem?_set_ne (fun q=>hi q.symm)] at hx
   exact (hc i x c hx hcx).mono (qa K H0 w)
theorem kS {P:Program} {f:FuncId} {u:Hs} {ds:List DV} {D:DV} (hD:ri D=true) (h:zf P f (dH u::ds) D) (k n:Nat):zy P f (.agg (u.row (.sl k n 5 0 u.ms.length false))::ds) [some ⟨n,5,u.ms.map Mt.enc⟩] (fun d H=>d=D∧H=[some ⟨n,5,u.ms.map Mt.enc⟩]):=
 iG hD (fun Γ K w vs hI ha=>fj ha fun v hv=>iA hv fun x hx=>eN (i0:=0) hI rfl (by decide) (by simp) rfl (fun i x y hx hy=>by
  obtain rfl:x=y:=Option.some.inj (hx.symm.trans hy)
  refine ⟨?_,fun j e he=>⟨e,he,fun v hv=>hv.mono (qa K _ w)⟩⟩
  obtain ⟨z,-,rfl⟩:=List.mem_map.1 (List.mem_of_getElem? hx)
  rfl) hx) h
end Go.Proofs.YtmibknbmhcnemaaDoor
