import Derived.Test.YtaiileiodjicpaaGreatDoorTt17
import Derived.Test.YtaiileiodjicpaaGreatDoorTt26
set_option linter.unusedVariables false
set_option linter.unusedSimpArgs false
namespace Go.Proofs.YtaiileiodjicpaaGreatDoor
attribute [local irreducible] zF Go
set_option maxRecDepth 100000
set_option maxHeartbeats 1000000 in
theorem rP (l:List R.Rl) (c:Bool) (hl:y8 l.length 80):zi Tryz.prog 27 [.snap 10 (l.map R.Rl.enc) c] (.snap 10 (l.map R.Rl.enc) false):=by
 have hones:∀r:List R.Rl,zQ (r.map R.Rl.enc)=true:=yx (fun x=>rfl)
 have hnf:∀g,yA g (l.map R.Rl.enc):=fun g=>zl (fun x=>by simp [nfL,nfD])
 cases l with
 |nil=>
  refine z7 {} 0 Tryz.func27 fun Γ hW=>auC ?_
  dsimp only [List.map]
  repeat' first|refine auS ?_|(with_reducible refine vx ?_)|refine auD ?_|(refine auW ?_ ?_<;>intro h<;>try exact auH)|fail
  ·refine zL (yz (vA ⟨.d0,.d0,.d2⟩ 1 10 rfl rfl)) (zL (zr hW ⟨.d0,.d0,.d2⟩ rfl rfl ⟨rfl,rfl,by exact Nat.le_refl _⟩) ?_)
   dsimp only [zN,zV]
   all_goals refine auV ?_
   all_goals try exact zc
   all_goals try simp only [hsM] at *
  ·refine zL (zr hW ⟨.d0,.d0,.d2⟩ rfl rfl ⟨rfl,rfl,by exact Nat.le_refl _⟩) ?_
   rw [show zN (zV (([]:List (List DV))++[]) 0) 0=[] from rfl]
   all_goals refine auV ?_
   all_goals try exact zc
   all_goals try simp only [hsM] at *
 |cons x r=>
  refine z7 {} 0 Tryz.func27 fun Γ hW=>auC ?_
  dsimp only [List.map]
  repeat' first|refine auS ?_|(with_reducible refine vx ?_)|refine auD ?_|(refine auW ?_ ?_<;>intro h<;>try exact auH)|(refine zf ⟨Or.inl (by omega),rfl,hones _,by simp only [y8,maxLen,List.length_map,List.length_cons] at hl ⊢;omega⟩ ?_)
  refine zL (zr hW ⟨.d0,.d0,.d2⟩ rfl rfl ⟨rfl,rfl,by simp⟩) ?_
  rw [show zN (zV ([]++R.Rl.enc x::r.map R.Rl.enc) 0) (0+((r.map R.Rl.enc).length+1))=(x::r).map R.Rl.enc from tH (by simp)]
  have hnf1:=hnf Γ.g0
  all_goals refine auV ?_
  all_goals try exact zc
  all_goals try simp only [hsM] at *
  all_goals rfl
set_option maxHeartbeats 1000000 in
theorem lT (l:List T.Tk) (c:Bool) (hl:y8 l.length 48):zi Tryz.prog 52 [.snap 7 (l.map T.Tk.enc) c] (.snap 7 (l.map T.Tk.enc) false):=by
 have hones:∀r:List T.Tk,zQ (r.map T.Tk.enc)=true:=yx (fun x=>rfl)
 have hnf:∀g,yA g (l.map T.Tk.enc):=fun g=>zl (fun x=>by simp [nfL,nfD])
 cases l with
 |nil=>
  refine z7 {} 0 Tryz.func52 fun Γ hW=>auC ?_
  dsimp only [List.map]
  repeat' first|refine auS ?_|(with_reducible refine vx ?_)|refine auD ?_|(refine auW ?_ ?_<;>intro h<;>try exact auH)|fail
  ·refine zL (yz (vA ⟨.d0,.d0,.d2⟩ 1 7 rfl rfl)) (zL (zr hW ⟨.d0,.d0,.d2⟩ rfl rfl ⟨rfl,rfl,by exact Nat.le_refl _⟩) ?_)
   dsimp only [zN,zV]
   all_goals refine auV ?_
   all_goals try exact zc
   all_goals try simp only [hsM] at *
  ·refine zL (zr hW ⟨.d0,.d0,.d2⟩ rfl rfl ⟨rfl,rfl,by exact Nat.le_refl _⟩) ?_
   rw [show zN (zV (([]:List (List DV))++[]) 0) 0=[] from rfl]
   all_goals refine auV ?_
   all_goals try exact zc
   all_goals try simp only [hsM] at *
 |cons x r=>
  refine z7 {} 0 Tryz.func52 fun Γ hW=>auC ?_
  dsimp only [List.map]
  repeat' first|refine auS ?_|(with_reducible refine vx ?_)|refine auD ?_|(refine auW ?_ ?_<;>intro h<;>try exact auH)|(refine zf ⟨Or.inl (by omega),rfl,hones _,by simp only [y8,maxLen,List.length_map,List.length_cons] at hl ⊢;omega⟩ ?_)
  refine zL (zr hW ⟨.d0,.d0,.d2⟩ rfl rfl ⟨rfl,rfl,by simp⟩) ?_
  rw [show zN (zV ([]++T.Tk.enc x::r.map T.Tk.enc) 0) (0+((r.map T.Tk.enc).length+1))=(x::r).map T.Tk.enc from tH (by simp)]
  have hnf1:=hnf Γ.g0
  all_goals refine auV ?_
  all_goals try exact zc
  all_goals try simp only [hsM] at *
  all_goals rfl
set_option maxHeartbeats 1000000 in
theorem Zz (l:List Mt) (c:Bool) (hl:y8 l.length 40):uO Tryz.prog 51 [.snap 5 (l.map Mt.enc) c] [] (fun n d H=>d=.sl 1 n 5 0 l.length false∧H=[some ⟨n,5,l.map Mt.enc⟩]):=by
 have hones:∀r:List Mt,zQ (r.map Mt.enc)=true:=yx (fun x=>rfl)
 cases l with
 |nil=>
  refine tw {} 0 Tryz.func51 fun Γ hW=>auC ?_
  dsimp only [List.map]
  repeat' first|refine auS ?_|(with_reducible refine vx ?_)|refine auD ?_|(refine auW ?_ ?_<;>intro h<;>try exact auH)|fail
  ·refine mT (yz (vA ⟨.d0,.d0,.d2⟩ 1 5 rfl rfl)) ?_
   exact xN 1 (fun n=>.sl 1 n 5 0 0 false) trivial rfl (Nat.le_refl _) trivial (fun n=>.inl ⟨rfl,rfl⟩) (fun n=>⟨rfl,rfl⟩)
  ·exact xN 1 (fun n=>.sl 1 n 5 0 0 false) trivial rfl (by show Γ.g0≤Γ.g0+1;omega) trivial (fun n=>.inl ⟨rfl,rfl⟩) (fun n=>⟨rfl,rfl⟩)
 |cons x r=>
  refine tw {} 0 Tryz.func51 fun Γ hW=>auC ?_
  dsimp only [List.map]
  repeat' first|refine auS ?_|(with_reducible refine vx ?_)|refine auD ?_|(refine auW ?_ ?_<;>intro h<;>try exact auH)|(refine zf ⟨Or.inl (by omega),rfl,hones _,by simp only [y8,maxLen,List.length_map,List.length_cons] at hl ⊢;omega⟩ ?_)
  refine xN 1 (fun n=>.sl 1 n 5 0 (x::r).length false) trivial rfl (by show Γ.g0≤Γ.g0+1;omega) ?_ (fun n=>.inl ⟨rfl,?_⟩) (fun n=>⟨rfl,rfl⟩)
  ·exact (zl (fun x=>by simp [nfL,nfD]):yA Γ.g0 ((x::r).map Mt.enc))
  ·simp [List.length_map]
theorem jg (j:Nat) (l:List Mt) (c:Bool) (hl:y8 l.length 40):uO Tryz.prog 51 [.snap 5 (l.map Mt.enc) c] [] (fun n d H=>d=.sl j n 5 0 l.length false∧H=[some ⟨n,5,l.map Mt.enc⟩]):=
 nF (Zz l c hl) (fun K w n v h=>vo h)
theorem wy (g:Nat) (l:List Mt):yA g (l.map Mt.enc):=zl (fun x=>by simp [Mt.enc,nfL,nfD])
theorem gN (g:Nat) (l:List R.Rl):yA g (l.map R.Rl.enc):=zl (fun x=>by simp [nfL,nfD])
theorem cj (g:Nat) (l:List T.Tk):yA g (l.map T.Tk.enc):=zl (fun x=>by simp [nfL,nfD])
set_option maxHeartbeats 4000000 in
theorem iO (u:Hs) (hw:u.wf):xt Tryz.prog 28 [dH u] [] 1 (fun n d H=>d=.agg (u.row (.sl 1 n 5 0 u.ms.length false))∧H=[some ⟨n,5,u.ms.map Mt.enc⟩]):=by
 have h1:=rP u.p.rs false hw.rs
 have h2:=lT u.tr false hw.tr
 have h3:=A.xv u.n.ms false hw.n.mm
 have h4:=jg 10 u.ms false hw.ms
 refine Xj {} 0 Tryz.func28 fun Γ hW=>auC ?_
 repeat' first|refine auS ?_|(first|(with_reducible refine z6 h1 ?_)|(with_reducible refine z6 h2 ?_)|(with_reducible refine z6 h3 ?_)|(with_reducible refine yB 10 h4 ?_))|refine auD ?_|(refine auW ?_ ?_<;>intro h<;>try exact auH)|fail
 exact ww [10] [Γ.g0+2] ⟨⟨rfl,rfl,Nat.zero_lt_one,Nat.le_refl _⟩,trivial⟩ (by decide) rfl (fun a ha=>by simp at ha;subst ha;exact ⟨10,_,rfl,rfl⟩) (fun n=>⟨⟨rfl,trivial⟩,⟨rfl,trivial⟩,⟨rfl,trivial⟩,⟨rfl,trivial⟩,⟨rfl,trivial⟩,⟨rfl,trivial⟩,⟨rfl,gN _ _⟩,⟨rfl,trivial⟩,⟨1,n,.inl ⟨0,rfl,rfl⟩,rfl⟩,⟨rfl,cj _ _⟩,⟨rfl,trivial⟩,⟨rfl,trivial⟩,⟨rfl,trivial⟩,⟨rfl,trivial⟩,⟨rfl,trivial⟩,⟨rfl,A.uK _ _⟩,rfl⟩) (fun n=>⟨⟨.inl ⟨0,rfl,rfl⟩,rfl,zz _ (wy _ _)⟩,rfl⟩)
def zH (p:R.Pl):DV:=.agg [.v (.int .u32 p.ou),.v (.int .i64 p.lt),.v (.int .i64 p.st),.v (.int .i64 p.lf),.v (.int .i64 p.ra),.v (.int .i64 p.mo),.snap 10 (p.rs.map R.Rl.enc) false,.v (.bool p.el),.v (.slice none 0 0),.v (.slice none 0 0),.v (.int .i64 p.lf),.v (.int .i64 p.lt),.v (.int .u64 0),.v (.int .i64 p.st),.v (.int .u64 0),.v (.slice none 0 0)]
set_option maxHeartbeats 4000000 in
theorem iZ (p:R.Pl) (hw:p.wf) (hl:y8 p.rs.length 80):zi Tryz.prog 7 [R.dPl p false] (.tup [dH (sq p),.v (.int .i64 (R.plE p))]):=by
 have h1:=rP p.rs false hl
 have h2:=R.xJ p false hw hl.1
 have hnf:=fun g=>gN g p.rs
 unfold sq
 by_cases he:R.plE p=0
 ·rw [if_pos he,he]
  rw [he] at h2
  refine xW (D:=.tup [zH p,.v (.int .i64 0)]) ?_ ⟨?_,.inl rfl,rfl⟩
  ·unfold zH
   refine z7 {} 0 Tryz.func7 fun Γ hW=>auC ?_
   repeat' first|refine auS ?_|(first|(with_reducible refine z6 h1 ?_)|(with_reducible refine z6 h2 ?_))|refine auD ?_|(refine auW ?_ ?_<;>intro h<;>try exact auH)|fail
   all_goals try exact auP
   all_goals refine auV ?_
   all_goals try exact zc
   all_goals try simp only [hsM] at *
  ·unfold zH
   exact ⟨.inl rfl,.inl rfl,.inl rfl,.inl rfl,.inl rfl,.inl rfl,rfl,.inl rfl,.inr ⟨rfl,_,rfl⟩,.inr ⟨rfl,_,rfl⟩,.inl rfl,.inl rfl,.inl rfl,.inl rfl,.inl rfl,.inr ⟨rfl,_,rfl⟩,rfl⟩
 ·rw [if_neg he]
  generalize R.plE p=e at *
  refine xW (D:=.tup [.agg [.v (.int .u32 0),.v (.int .i64 0),.v (.int .i64 0),.v (.int .i64 0),.v (.int .i64 0),.v (.int .i64 0),.v (.slice none 0 0),.v (.bool false),.v (.slice none 0 0),.v (.slice none 0 0),.v (.int .i64 0),.v (.int .i64 0),.v (.int .u64 0),.v (.int .i64 0),.v (.int .u64 0),.v (.slice none 0 0)],.v (.int .i64 e)]) ?_ ⟨⟨.inl rfl,.inl rfl,.inl rfl,.inl rfl,.inl rfl,.inl rfl,.inr ⟨rfl,_,rfl⟩,.inl rfl,.inr ⟨rfl,_,rfl⟩,.inr ⟨rfl,_,rfl⟩,.inl rfl,.inl rfl,.inl rfl,.inl rfl,.inl rfl,.inr ⟨rfl,_,rfl⟩,rfl⟩,.inl rfl,rfl⟩
  refine z7 {} 0 Tryz.func7 fun Γ hW=>auC ?_
  repeat' first|refine auS ?_|(first|(with_reducible refine z6 h1 ?_)|(with_reducible refine z6 h2 ?_))|refine auD ?_|(refine auW ?_ ?_<;>intro h<;>try exact auH)|fail
  all_goals try exact auP
  all_goals refine auV ?_
  all_goals try exact zc
  all_goals try simp only [hsM] at *
end Go.Proofs.YtaiileiodjicpaaGreatDoor
namespace Go.Proofs.YtaiileiodjicpaaGreatDoor
def oT (K:Kr) (H0:HL):Kr:=⟨K.dom,K.real,K.μ,fun g=>K.M g∧¬ ∃k o,zd H0 k=some o∧K.real o.n∧K.μ o.n=g⟩
theorem pt (K:Kr) (H0:HL) (w:World):yF K w (oT K H0) w:=⟨Ext.refl _ _,fun n h=>⟨h,rfl⟩,fun g _ h=>h.1⟩
theorem Zl {Γ:Gm} {K:Kr} {w:World} {H0:HL} (hI:Inv Γ K (zd H0) w) {i0 k n sz len:Nat} {full:Bool} {xs ys:List (List DV)} (h0:zd H0 i0=some ⟨n,sz,xs⟩) (hsz:0<sz) (hlen:xs.length=len) (hl:ys.length=xs.length)
  (hxy:∀(i:Nat) (x y:List DV),xs[i]?=some x→ys[i]?=some y→y.length=sz∧∀(j:Nat) (e:DV),y[j]?=some e→∃d,x[j]?=some d∧∀v,ze K w d v→ze (oT K H0) w e v) {v:Value} (hv:ze K w (.sl k n sz 0 len full) v):ze (oT K H0) w (.snap sz ys false) v:=by
 have hys:∀y∈ys,y.length=sz:=fun y hy=>by
  obtain ⟨i,hi⟩:=List.mem_iff_getElem?.1 hy
  have hil:=(List.getElem?_eq_some_iff.1 hi).1
  exact (hxy i _ y (List.getElem?_eq_getElem (by omega)) hi).1
 cases hv with
 |sl hlc hf hh=>
  rename_i A cap
  by_cases hz:len=0
  ·subst hz
   have e1:ys=[]:=List.length_eq_zero_iff.1 (by omega)
   subst e1
   exact .snap (fun _ _=>undef) rfl (Nat.zero_le _) (fun q=>by cases q) hys (fun q=>by omega) (fun ad i x j d _ hx _=>by simp at hx) (fun i x j d hx _=>by simp at hx)
  ·rcases hh with hh|⟨hr,rfl,cs',t',fr',q3,q4,q5⟩
   ·omega
   ·rcases (hI.obj i0 _ h0).two (fun hm=>by have:=hm.2.1;simp only at this;omega) with ⟨u1,-⟩|⟨-,cs,t,fr,u2,u3,u4,u5,u6⟩
    ·exact absurd hr u1
    ·have hget:∀(i:Nat) (y:List DV) (j:Nat) (e:DV),ys[i]?=some y→y[j]?=some e→∃c,cs[i*sz+j]?=some c∧ze (oT K H0) w e c:=fun i y j e hy he=>by
      have hil:=(List.getElem?_eq_some_iff.1 hy).1
      obtain ⟨x,hx⟩:∃x,xs[i]?=some x:=⟨_,List.getElem?_eq_getElem (by omega)⟩
      obtain ⟨d,hd,hde⟩:=(hxy i x y hx hy).2 j e he
      obtain ⟨c,c1,c2⟩:=u6 i x j d hx hd
      exact ⟨c,c1,hde c c2⟩
     refine .snap (fun i j=>(cs[i*sz+j]?).getD undef) (by omega) hlc (fun q=>by cases q) hys (fun _=>⟨_,rfl,rfl,hI.lt _ hr,fun q=>q.2 ⟨i0,_,h0,hr,rfl⟩⟩) (fun ad i y j e hA hy he=>?_) (fun i y j e hy he=>?_)
     ·obtain rfl:=Option.some.inj hA
      obtain ⟨c,c1,-⟩:=hget i y j e hy he
      rw [ya,Nat.zero_mul,Nat.zero_add,c1]
      unfold World.cell?
      dsimp only at u3 ⊢
      rw [u3]
      simpa using c1
     ·obtain ⟨c,c1,c2⟩:=hget i y j e hy he
      simp only [c1,Option.getD_some]
      exact c2
theorem eH {P:Program} {f:FuncId} {ds ds':List DV} {H0:HL} {D:DV} (hD:q9 D=true) (harg:∀(Γ:Gm) (K:Kr) (w:World) (vs:Array Value),Inv Γ K (zd H0) w→zA K w ds' vs→zA (oT K H0) w ds vs) (h:zi P f ds D):zE P f ds' H0 (fun d H=>d=D∧H=H0):=by
 refine ⟨h.1,fun K w vs g0 hI hlt hargs=>?_⟩
 have hargs1:=harg _ _ _ _ hI hargs
 have hI1:Inv (yZ (oT (K.cut w) H0) w g0 []) ((oT (K.cut w) H0).cut w) (zd []) w:=
  ⟨Ext.refl _ _,⟨fun m hm=>.inl hm,fun m hm _=>hm,fun m hm=>⟨hm,rfl⟩,fun g _=>Iff.rfl⟩,fun k o h=>by simp [zd] at h,fun k k' o o' h=>by simp [zd] at h,fun m hm=>hI.dr m hm,fun m hm=>hI.lt m hm,fun k o h=>by simp [zd] at h,fun k o h=>by simp [zd] at h,fun g cs hg=>⟨fun ⟨_,_,q,_⟩=>by simp [zd] at q,fun q=>(hI.glob hg).1 ⟨q.1.1.1,q.2⟩,(hI.glob hg).2⟩⟩
 refine (h.2 (oT (K.cut w) H0) w vs g0 hI1 hlt (vv hargs1)).mono ?_
 rintro e w' ⟨v,d,H1,rfl,⟨rfl,rfl⟩,hI',hv⟩
 have hext:Ext (fun _=>False) w w':=hI'.ext.weaken (fun g _ ⟨k,o,hk,_⟩=>by simp [zd] at hk)
 exact ⟨v,_,H0,rfl,⟨rfl,rfl⟩,cR hI hext,dc hv hD⟩
theorem bg {K:Kr} {w:World} {H0:HL} {d e:DV} {ds:List DV} {vs:Array Value} (h:zA K w (d::ds) vs) (hd:∀v,ze K w d v→ze (oT K H0) w e v):zA (oT K H0) w (e::ds) vs:=
 ⟨by simpa using h.1,fun i x v hx hv=>by
  match i,hx with
  |0,hx=>
   obtain rfl:=Option.some.inj hx
   exact hd v (h.2 0 d v rfl hv)
  |i+1,hx=>exact (h.2 (i+1) x v (by simpa using hx) hv).mono (pt K H0 w)⟩
theorem eE {K:Kr} {w:World} {H0:HL} {u:Hs} {d e:DV} {v:Value} (h:ze K w (.agg (u.row d)) v) (hd:∀x,ze K w d x→ze (oT K H0) w e x):ze (oT K H0) w (.agg (u.row e)) v:=by
 cases h with
 |agg hl hc=>
  refine .agg hl fun i x c hx hcx=>?_
  by_cases hi:i=8
  ·subst hi
   obtain rfl:e=x:=Option.some.inj hx
   exact hd c (hc 8 d c rfl hcx)
  ·have e1:u.row e=(u.row d).set 8 e:=rfl
   rw [e1,List.getElem?_set_ne (fun q=>hi q.symm)] at hx
   exact (hc i x c hx hcx).mono (pt K H0 w)
theorem gI {P:Program} {f:FuncId} {u:Hs} {ds:List DV} {D:DV} (hD:q9 D=true) (h:zi P f (dH u::ds) D) (k n:Nat):zE P f (.agg (u.row (.sl k n 5 0 u.ms.length false))::ds) [some ⟨n,5,u.ms.map Mt.enc⟩] (fun d H=>d=D∧H=[some ⟨n,5,u.ms.map Mt.enc⟩]):=
 eH hD (fun Γ K w vs hI ha=>bg ha fun v hv=>eE hv fun x hx=>Zl (i0:=0) hI rfl (by decide) (by simp) rfl (fun i x y hx hy=>by
  obtain rfl:x=y:=Option.some.inj (hx.symm.trans hy)
  refine ⟨?_,fun j e he=>⟨e,he,fun v hv=>hv.mono (pt K _ w)⟩⟩
  obtain ⟨z,-,rfl⟩:=List.mem_map.1 (List.mem_of_getElem? hx)
  rfl) hx) h
end Go.Proofs.YtaiileiodjicpaaGreatDoor
namespace Go.Proofs.YtaiileiodjicpaaGreatDoor
attribute [local irreducible] zF Go
set_option maxRecDepth 100000
abbrev wkR (u:Hs) (d:DV) (f:Fl) (t:List UInt8) (now:Int):List DV:=[.v (.int .u32 u.p.ou),.v (.int .i64 u.p.lt),.v (.int .i64 u.p.st),.v (.int .i64 u.p.lf),.v (.int .i64 u.p.ra),.v (.int .i64 u.p.mo),.snap 10 (u.p.rs.map R.Rl.enc) false,.v (.bool u.p.el),d,.snap 7 (u.tr.map T.Tk.enc) false,
 .v (.int .i64 u.n.l),.v (.int .i64 u.n.b1),.v (.int .u64 (u.n.t1:Int)),.v (.int .i64 u.n.b2),.v (.int .u64 (u.n.t2:Int)),.snap 5 (u.n.ms.map A.Mp.enc) false,.v (.int .u32 f.fr),.v (.int .u32 f.to),.v (.int .i64 f.proto),.v (.int .i64 f.fp),.v (.int .i64 f.tp),.v (.string (mkS t)),.v (.int .i64 now)]
theorem uj {g q lb lb' m m' len:Nat} {ns:List Nat} (u:Hs) (f:Fl) (t:List UInt8) (now:Int) (h:pz g ns q m m'):xI g ns q (wkR u (.sl lb m 5 0 len false) f t now) (wkR u (.sl lb' m' 5 0 len false) f t now):=
 ⟨⟨rfl,trivial⟩,⟨rfl,trivial⟩,⟨rfl,trivial⟩,⟨rfl,trivial⟩,⟨rfl,trivial⟩,⟨rfl,trivial⟩,⟨rfl,gN _ _⟩,⟨rfl,trivial⟩,⟨lb',m',h,rfl⟩,⟨rfl,cj _ _⟩,⟨rfl,trivial⟩,⟨rfl,trivial⟩,⟨rfl,trivial⟩,⟨rfl,trivial⟩,⟨rfl,trivial⟩,⟨rfl,A.uK _ _⟩,⟨rfl,trivial⟩,⟨rfl,trivial⟩,⟨rfl,trivial⟩,⟨rfl,trivial⟩,⟨rfl,trivial⟩,⟨rfl,trivial⟩,⟨rfl,trivial⟩,rfl⟩
set_option maxHeartbeats 1000000 in
theorem ar (l:List Mt) (i j:Nat) (hij:i≤j) (hj:j≤l.length) (hl:l.length≤maxLen) (n:Nat):zE Tryz.prog 104 [.sl 0 n 5 0 l.length false,.v (.int .i64 i),.v (.int .i64 j)] [some ⟨n,5,l.map Mt.enc⟩] (fun d H=>d=.sl 0 n 5 0 (l.take i++l.drop j).length false∧H=[some ⟨n,5,(l.take i++l.drop j).map Mt.enc⟩]):=by
 have hones:∀r:List Mt,zQ (r.map Mt.enc)=true:=yx (fun x=>rfl)
 have ej:zN (zV (l.map Mt.enc) j) ((l.length:Int)-j).toNat=(l.drop j).map Mt.enc:=by rw [zB,yh,←List.map_drop,←List.map_take,List.take_of_length_le (by rw [List.length_drop];omega)]
 have hlen:(zN (l.map Mt.enc) i++((l.drop j).map Mt.enc++zV (l.map Mt.enc) (i+(l.length-j)))).length=l.length:=by rw [zB,yh];simp;omega
 unfold maxLen at hl
 refine zp {inpl:=true} 1 Tryz.func104 fun Γ hN0 hL0=>auC ?_
 have hn:n<Γ.g0:=hN0 0 _ rfl
 repeat' first|refine auS ?_|fail|refine auD ?_|(refine auW ?_ ?_<;>intro h<;>try exact auH)|(first|(simp only [Int.toNat_natCast,Nat.zero_add,ej,List.length_map,List.length_drop])|(refine zf ⟨by trivial,by trivial,by trivial,by omega,hones _⟩ ?_)|(refine zf ⟨by trivial,by trivial,by trivial,by omega,by omega,by omega,by (rw [hlen];omega)⟩ ?_)|(refine zf ⟨by trivial,by trivial,by trivial,by (rw [hlen];omega),by trivial⟩ ?_)|fail)
 ·have hij2:i=j:=by (simp only [hsL,reduceCtorEq] at *<;>omega)
  subst hij2
  rw [List.take_append_drop]
  exact zU trivial hn rfl rfl hn (zl (fun x=>by simp [nfL,nfD])) rfl
 ·refine zL (yz (eu ⟨.d0,.d0,.d6⟩ rfl)) (zL (yz (nl 0 (i+(l.length-j)) rfl)) (zU trivial hn ?_ rfl hn (zl (fun x=>by simp [nfL,nfD])) ?_))
  ·have e:(l.take i++l.drop j).length=i+(l.length-j):=by simp;omega
   rw [e]
   rfl
  ·refine (fv (by rw [zB];simp;omega)).trans ?_
   rw [zB,List.map_append,List.map_take]
theorem rL (k:Nat) (l:List Mt) (i j:Nat) (hij:i≤j) (hj:j≤l.length) (hl:l.length≤maxLen) (n:Nat):zE Tryz.prog 104 [.sl k n 5 0 l.length false,.v (.int .i64 i),.v (.int .i64 j)] [some ⟨n,5,l.map Mt.enc⟩] (fun d H=>d=.sl k n 5 0 (l.take i++l.drop j).length false∧H=[some ⟨n,5,(l.take i++l.drop j).map Mt.enc⟩]):=
 yj k (tB (ar l i j hij hj hl n) (fun _ _ _=>vo))
def oI (a:Int) (m:Mt) (now n:Int):Mt:=⟨a,m.ra,m.mo,B.tE m.ra m.mo m.hs m.tm now n,now⟩
def pT (m:Mt) (now n:Int):Bool:=decide (n≤B.xe m.ra m.mo m.hs m.tm now)
abbrev Wl (u:Hs) (f:Fl) (t:List UInt8) (now:Int) (n q:Nat) (l:List Mt):HL:=[some ⟨n,23,[wkR u (.sl 4 q 5 0 l.length false) f t now]⟩,none,some ⟨q,5,l.map Mt.enc⟩]
set_option maxHeartbeats 4000000 in
theorem VB (u:Hs) (f:Fl) (t:List UInt8) (now:Int) (hl:u.ms.length≤maxLen) (i:Nat) (t0:Mt) (h0:u.ms[i]?=some t0) (hi:zk (fun m:Mt=>decide (m.ad=f.fr)) u.ms 0=i) (h64:u.ms.length≤64) (he:B.vt t0.ra t0.mo t0.hs t0.tm now (t.length:Nat)=0) (n m:Nat) :
  xt Tryz.prog 73 [.ptr 0 n 23 0 0] [some ⟨n,23,[wkR u (.sl 1 m 5 0 u.ms.length false) f t now]⟩,some ⟨m,5,u.ms.map Mt.enc⟩] 1 (fun q d H=>d=.v (.bool (pT t0 now (t.length:Nat)))∧H=Wl u f t now n q (u.ms.take i++u.ms.drop (i+1)++[oI f.fr t0 now (t.length:Nat)])):=by
 have hlt:=(List.getElem?_eq_some_iff.1 h0).1
 have ex:=jU h0
 have hdel:=rL 1 u.ms i (i+1) (by omega) (by omega) hl m
 have hw1:IntKind.i64.wrap ((i:Int)+1)=((i+1:Nat):Int):=(IntWalk.i64_in _ (by unfold maxLen at hl;omega)).trans (by omega)
 have hX:(u.ms.take i++u.ms.drop (i+1)).length≤64:=by simp;omega
 generalize u.ms.take i++u.ms.drop (i+1)=X at *
 have hlen:(u.ms.map Mt.enc).length=u.ms.length:=List.length_map _
 have hb:zi Tryz.prog 105 [B.bB t0.ra t0.mo t0.hs t0.tm,.v (.int .i64 now),.v (.int .i64 (t.length:Nat))] (.tup [B.bB t0.ra t0.mo (B.tE t0.ra t0.mo t0.hs t0.tm now (t.length:Nat)) now,.v (.bool (decide ((t.length:Int)≤B.xe t0.ra t0.mo t0.hs t0.tm now))),.v (.int .i64 0)]):=by
  have q:=B.q_ t0.ra t0.mo t0.hs t0.tm now (t.length:Nat)
  rw [show B.btD t0.ra t0.mo t0.hs t0.tm now (t.length:Nat)=B.bB t0.ra t0.mo (B.tE t0.ra t0.mo t0.hs t0.tm now (t.length:Nat)) now by unfold B.btD;rw [if_pos he],he] at q
  exact q
 have hmt:=gI rfl (tY u f.fr hl) 1 m
 rw [hi] at hmt
 unfold oI pT
 generalize B.tE t0.ra t0.mo t0.hs t0.tm now (t.length:Nat)=HH at *
 generalize B.xe t0.ra t0.mo t0.hs t0.tm now=LL at *
 skip
 refine yf {} 2 Tryz.func73 fun Γ hN0 hL0=>auC ?_
 have hn:=hN0 0 _ rfl
 have hm:=hN0 1 _ rfl
 repeat' first|refine auS ?_|(first|((with_reducible refine zy 70 ?_);(refine zt [1] (by decide) rfl rfl hmt ?_))|(with_reducible refine z6 hb ?_)|((with_reducible refine z_ 1 ?_ hdel (fun _ _ _ h=>h) ?_);(exact rfl)))|refine auD ?_|(refine auW ?_ ?_<;>intro h<;>try exact auH)|(first|(simp only [Int.toNat_natCast,Nat.zero_add,za,ex,hw1])|(refine zf ⟨by simpa using hlt,by trivial⟩ ?_)|fail)
 all_goals try exact auP
 have e1:X.map Mt.enc++[Mt.enc ⟨f.fr,t0.ra,t0.mo,HH,now⟩]=(X++[(⟨f.fr,t0.ra,t0.mo,HH,now⟩:Mt)]).map Mt.enc:=by rw [List.map_append];rfl
 have e2:(X.map Mt.enc).length+1=(X++[(⟨f.fr,t0.ra,t0.mo,HH,now⟩:Mt)]).length:=by simp
 rw [e1,e2]
 exact ww [0,1,4] [Γ.g0+2] trivial (by decide) rfl (fun a ha=>by simp at ha;subst ha;exact ⟨4,_,rfl,rfl⟩) (fun q=>⟨rfl,trivial⟩) (fun q=>⟨⟨.inr ⟨hn,rfl⟩,rfl,uj u f t now (.inl ⟨0,rfl,rfl⟩),rfl⟩,⟨.inl ⟨0,rfl,rfl⟩,rfl,zz _ (wy _ _)⟩,rfl⟩)
set_option maxHeartbeats 4000000 in
theorem U3 (u:Hs) (f:Fl) (t:List UInt8) (now:Int) (hl:u.ms.length≤maxLen) (t0:Mt) (hra:t0.ra=u.p.ra) (hmo:t0.mo=u.p.mo) (hhs:t0.hs=u.p.mo) (htm:t0.tm=now) (hi:zk (fun m:Mt=>decide (m.ad=f.fr)) u.ms 0 = -1) (h64:u.ms.length=64) (he:B.vt t0.ra t0.mo t0.hs t0.tm now (t.length:Nat)=0) (n m:Nat) :
  xt Tryz.prog 73 [.ptr 0 n 23 0 0] [some ⟨n,23,[wkR u (.sl 1 m 5 0 u.ms.length false) f t now]⟩,some ⟨m,5,u.ms.map Mt.enc⟩] 1 (fun q d H=>d=.v (.bool (pT t0 now (t.length:Nat)))∧H=Wl u f t now n q (u.ms.drop 1++[oI f.fr t0 now (t.length:Nat)])):=by
 have hlt:True:=trivial
 have hdel:zE Tryz.prog 104 [.sl 1 m 5 0 u.ms.length false,.v (.int .i64 0),.v (.int .i64 1)] [some ⟨m,5,u.ms.map Mt.enc⟩] (fun d H=>d=.sl 1 m 5 0 (u.ms.drop 1).length false∧H=[some ⟨m,5,(u.ms.drop 1).map Mt.enc⟩]):=rL 1 u.ms 0 1 (by omega) (by omega) hl m
 have hX:(u.ms.drop 1).length≤64:=by simp;omega
 generalize u.ms.drop 1=X at *
 have hlen:(u.ms.map Mt.enc).length=u.ms.length:=List.length_map _
 have hb:zi Tryz.prog 105 [B.bB t0.ra t0.mo t0.hs t0.tm,.v (.int .i64 now),.v (.int .i64 (t.length:Nat))] (.tup [B.bB t0.ra t0.mo (B.tE t0.ra t0.mo t0.hs t0.tm now (t.length:Nat)) now,.v (.bool (decide ((t.length:Int)≤B.xe t0.ra t0.mo t0.hs t0.tm now))),.v (.int .i64 0)]):=by
  have q:=B.q_ t0.ra t0.mo t0.hs t0.tm now (t.length:Nat)
  rw [show B.btD t0.ra t0.mo t0.hs t0.tm now (t.length:Nat)=B.bB t0.ra t0.mo (B.tE t0.ra t0.mo t0.hs t0.tm now (t.length:Nat)) now by unfold B.btD;rw [if_pos he],he] at q
  exact q
 have hmt:=gI rfl (tY u f.fr hl) 1 m
 rw [hi] at hmt
 unfold oI pT
 generalize B.tE t0.ra t0.mo t0.hs t0.tm now (t.length:Nat)=HH at *
 generalize B.xe t0.ra t0.mo t0.hs t0.tm now=LL at *
 simp only [hra,hmo,hhs,htm] at hb ⊢
 refine yf {} 2 Tryz.func73 fun Γ hN0 hL0=>auC ?_
 have hn:=hN0 0 _ rfl
 have hm:=hN0 1 _ rfl
 repeat' first|refine auS ?_|(first|((with_reducible refine zy 70 ?_);(refine zt [1] (by decide) rfl rfl hmt ?_))|(with_reducible refine z6 hb ?_)|((with_reducible refine z_ 1 ?_ hdel (fun _ _ _ h=>h) ?_);(exact rfl)))|refine auD ?_|(refine auW ?_ ?_<;>intro h<;>try exact auH)|(first|(simp only [Int.toNat_natCast,Nat.zero_add,za,hlt])|(refine zf ⟨by simpa using hlt,by trivial⟩ ?_)|fail)
 all_goals try exact auP
 have e1:X.map Mt.enc++[Mt.enc ⟨f.fr,u.p.ra,u.p.mo,HH,now⟩]=(X++[(⟨f.fr,u.p.ra,u.p.mo,HH,now⟩:Mt)]).map Mt.enc:=by rw [List.map_append];rfl
 have e2:(X.map Mt.enc).length+1=(X++[(⟨f.fr,u.p.ra,u.p.mo,HH,now⟩:Mt)]).length:=by simp
 rw [e1,e2]
 exact ww [0,1,4] [Γ.g0+2] trivial (by decide) rfl (fun a ha=>by simp at ha;subst ha;exact ⟨4,_,rfl,rfl⟩) (fun q=>⟨rfl,trivial⟩) (fun q=>⟨⟨.inr ⟨hn,rfl⟩,rfl,uj u f t now (.inl ⟨0,rfl,rfl⟩),rfl⟩,⟨.inl ⟨0,rfl,rfl⟩,rfl,zz _ (wy _ _)⟩,rfl⟩)
set_option maxHeartbeats 4000000 in
theorem Yk (u:Hs) (f:Fl) (t:List UInt8) (now:Int) (hl:u.ms.length≤maxLen) (t0:Mt) (hra:t0.ra=u.p.ra) (hmo:t0.mo=u.p.mo) (hhs:t0.hs=u.p.mo) (htm:t0.tm=now) (hi:zk (fun m:Mt=>decide (m.ad=f.fr)) u.ms 0 = -1) (h64:u.ms.length<64) (he:B.vt t0.ra t0.mo t0.hs t0.tm now (t.length:Nat)=0) (n m:Nat) :
  xt Tryz.prog 73 [.ptr 0 n 23 0 0] [some ⟨n,23,[wkR u (.sl 1 m 5 0 u.ms.length false) f t now]⟩,some ⟨m,5,u.ms.map Mt.enc⟩] 1 (fun q d H=>d=.v (.bool (pT t0 now (t.length:Nat)))∧H=Wl u f t now n q (u.ms++[oI f.fr t0 now (t.length:Nat)])):=by
 have hlt:True:=trivial
 have hdel:True:=trivial
 have hX:u.ms.length≤64:=by omega
 have hlen:(u.ms.map Mt.enc).length=u.ms.length:=List.length_map _
 have hb:zi Tryz.prog 105 [B.bB t0.ra t0.mo t0.hs t0.tm,.v (.int .i64 now),.v (.int .i64 (t.length:Nat))] (.tup [B.bB t0.ra t0.mo (B.tE t0.ra t0.mo t0.hs t0.tm now (t.length:Nat)) now,.v (.bool (decide ((t.length:Int)≤B.xe t0.ra t0.mo t0.hs t0.tm now))),.v (.int .i64 0)]):=by
  have q:=B.q_ t0.ra t0.mo t0.hs t0.tm now (t.length:Nat)
  rw [show B.btD t0.ra t0.mo t0.hs t0.tm now (t.length:Nat)=B.bB t0.ra t0.mo (B.tE t0.ra t0.mo t0.hs t0.tm now (t.length:Nat)) now by unfold B.btD;rw [if_pos he],he] at q
  exact q
 have hmt:=gI rfl (tY u f.fr hl) 1 m
 rw [hi] at hmt
 unfold oI pT
 generalize B.tE t0.ra t0.mo t0.hs t0.tm now (t.length:Nat)=HH at *
 generalize B.xe t0.ra t0.mo t0.hs t0.tm now=LL at *
 simp only [hra,hmo,hhs,htm] at hb ⊢
 refine yf {} 2 Tryz.func73 fun Γ hN0 hL0=>auC ?_
 have hn:=hN0 0 _ rfl
 have hm:=hN0 1 _ rfl
 repeat' first|refine auS ?_|(first|((with_reducible refine zy 70 ?_);(refine zt [1] (by decide) rfl rfl hmt ?_))|(with_reducible refine z6 hb ?_)|((with_reducible refine z_ 1 ?_ hdel (fun _ _ _ h=>h) ?_);(exact rfl)))|refine auD ?_|(refine auW ?_ ?_<;>intro h<;>try exact auH)|(first|(simp only [Int.toNat_natCast,Nat.zero_add,za,hlt])|(refine zf ⟨by simpa using hlt,by trivial⟩ ?_)|fail)
 all_goals try exact auP
 have e1:u.ms.map Mt.enc++[Mt.enc ⟨f.fr,u.p.ra,u.p.mo,HH,now⟩]=(u.ms++[(⟨f.fr,u.p.ra,u.p.mo,HH,now⟩:Mt)]).map Mt.enc:=by rw [List.map_append];rfl
 have e2:(u.ms.map Mt.enc).length+1=(u.ms++[(⟨f.fr,u.p.ra,u.p.mo,HH,now⟩:Mt)]).length:=by simp
 rw [e1,e2]
 exact ww [0,1,4] [Γ.g0+2] trivial (by decide) rfl (fun a ha=>by simp at ha;subst ha;exact ⟨4,_,rfl,rfl⟩) (fun q=>⟨rfl,trivial⟩) (fun q=>⟨⟨.inr ⟨hn,rfl⟩,rfl,uj u f t now (.inl ⟨0,rfl,rfl⟩),rfl⟩,⟨.inl ⟨0,rfl,rfl⟩,rfl,zz _ (wy _ _)⟩,rfl⟩)
end Go.Proofs.YtaiileiodjicpaaGreatDoor
