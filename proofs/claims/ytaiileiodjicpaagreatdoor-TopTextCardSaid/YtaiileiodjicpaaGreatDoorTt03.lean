import Derived.Test.YtaiileiodjicpaaGreatDoorTt02
set_option linter.unusedVariables false
set_option linter.unusedSimpArgs false
namespace Go.Proofs.YtaiileiodjicpaaGreatDoor
section
variable {Γ:Gm} {P:Program} {N:Nat} {R:St→Prop} {k:List KI} {st:St}
theorem WX.mono {x:XC} {Q Q':Exit→St→Prop} (h:WX Γ P N x Q st) (hq:∀e s,Q e s→Q' e s):WX Γ P N x Q' st:=fun c hc=>(h c hc).mono hq
theorem VK {α:Type} (f:α→St) (pre:α→Prop) {x y:XC} (h1:Go Γ P N R x (.loop (fun s=>∃a,pre a∧Le s (f a))::k) st) (h2:∀a,pre a→Go Γ P N R y k (f a)):Go Γ P N R (.seq x y) k st:=by
 refine wZ (WX.mono h1 ?_)
 intro e s he
 cases e with
 |normal=>
  obtain ⟨a,ha,hle⟩:=he
  exact vD hle (h2 a ha)
 |exit i=>exact he
 |ret=>exact he
 |goto l=>exact he
 |panic ch=>exact he
 |outgrown=>exact he
theorem WD {xs:List XOp} {y:XC} (h:Go Γ P N R (.region xs) (.code y::k) st):Go Γ P N R (.seq (.region xs) y) k st:=wZ h
theorem V6 {ps:List Nat} {xs:List XOp} {y:XC} (h:Go Γ P N R (.regionD ps xs) (.code y::k) st):Go Γ P N R (.seq (.regionD ps xs) y) k st:=wZ h
theorem Wg {i:Nat} {x y:XC} (h:Go Γ P N R (.block i x) (.code y::k) st):Go Γ P N R (.seq (.block i x) y) k st:=wZ h
theorem XD {xs:List XOp} {i:Nat} {x y:XC} (h:Go Γ P N R (.seq (.region xs) (.block i x)) (.code y::k) st):Go Γ P N R (.seq (.seq (.region xs) (.block i x)) y) k st:=wZ h
theorem jL {α:Type} (sl:α→List (Sl×DV)) (ho:α→List (Nat×Option zj)) (gn:α→Nat) (pre:α→Prop) {x y:XC}
  (h1:Go Γ P N R x (.loop (fun s=>∃a,pre a∧Le s ⟨sv (ln st.tm (x9 x)) (sl a),xu st.H (ho a),gn a⟩)::k) st)
  (h2:∀a,pre a→Go Γ P N R y k ⟨sv (ln st.tm (x9 x)) (sl a),xu st.H (ho a),gn a⟩):Go Γ P N R (.seq x y) k st:=
 VK (fun a=>⟨sv (ln st.tm (x9 x)) (sl a),xu st.H (ho a),gn a⟩) pre h1 h2
end
theorem Yf {Γ:Gm} {K:Kr} {H:Nat→Option zj} {w:World} (hI:Inv Γ K H w) {k:Nat} {o:zj} (ho:H k=some o) (m:Nat) (hpz:0<o.sz):Inv Γ K (fun j=>if j=k then some ⟨o.n,o.sz,o.xs.take m⟩ else H j) w:=by
 have hk:∀j p,(if j=k then some (⟨o.n,o.sz,o.xs.take m⟩:zj) else H j)=some p→∃p',H j=some p'∧p'.n=p.n∧p'.sz=p.sz∧p.xs=p'.xs.take (if j=k then m else p'.xs.length)∧(j=k→0<p'.sz):=by
  intro j p h
  by_cases e:j=k
  ·rw [if_pos e] at h
   obtain rfl:=Option.some.inj h
   exact ⟨o,by rw [e];exact ho,rfl,rfl,by rw [if_pos e],fun _=>hpz⟩
  ·rw [if_neg e] at h
   exact ⟨p,h,rfl,rfl,by rw [if_neg e,List.take_length],fun q=>absurd q e⟩
 refine ⟨hI.ext,hI.base,fun j p h=>?_,fun j1 j2 p1 p2 h1 h2 r1 r2 he=>?_,hI.dr,hI.lt,fun j p h=>?_,fun j p h hr=>?_,hI.gl⟩
 ·obtain ⟨p',e1,e2,e3,e4,e5⟩:=hk j p h
  rcases hI.obj j p' e1 with ⟨u1,u2⟩|⟨u1,cs,t,frz,nfz,u2,u3,u4,u5⟩|⟨u1,u2,es,ck,u3,u4⟩
  ·exact .inl ⟨by rw [←e2];exact u1,by rw [e4,u2];simp⟩
  rotate_left
  ·have hj:j≠k:=fun q=>by have:=e5 q;omega
   rw [if_neg hj,List.take_length] at e4
   exact .inr (.inr ⟨by rw [←e2];exact u1,by rw [←e3];exact u2,es,ck,by rw [←e2];exact u3,by rw [e4];exact u4⟩)
  ·refine .inr (.inl ⟨by rw [←e2];exact u1,cs,t,frz,(by rw [←e3];exact nfz),by rw [←e2];exact u2,?_,fun x hx=>?_,fun i x j2 d hx hd=>?_⟩)
   ·rw [e4,←e3]
    exact Nat.le_trans (Nat.mul_le_mul_right _ (by rw [List.length_take];omega)) u3
   ·rw [e4] at hx
    rw [←e3]
    exact u4 x (List.mem_of_mem_take hx)
   ·rw [e4,List.getElem?_take] at hx
    have hx':p'.xs[i]?=some x:=by
     revert hx
     generalize (if j=k then m else p'.xs.length)=q
     intro hx
     by_cases hq:i<q
     ·rw [if_pos hq] at hx;exact hx
     ·rw [if_neg hq] at hx;cases hx
    rw [←e3]
    exact u5 i x j2 d hx' hd
 ·obtain ⟨q1,e1,e2,_⟩:=hk j1 p1 h1
  obtain ⟨q2,f1,f2,_⟩:=hk j2 p2 h2
  exact hI.inj j1 j2 q1 q2 e1 f1 (by rw [e2];exact r1) (by rw [f2];exact r2) (by rw [e2,f2];exact he)
 ·obtain ⟨q1,e1,e2,_⟩:=hk j p h
  rw [←e2]
  exact hI.dobj j q1 e1
 ·obtain ⟨q1,e1,e2,_⟩:=hk j p h
  have:=hI.own j q1 e1 (by rw [e2];exact hr)
  rw [e2] at this
  exact this
theorem nl {st:St} {o:zj} (k m:Nat) (ho:zd st.H k=some o) (hpz:0<o.sz:=by first|exact Nat.zero_lt_succ _|omega):Le st ⟨st.tm,y4 st.H k (some ⟨o.n,o.sz,zN o.xs m⟩),st.gen⟩:=by
 intro Γ N K a w hR
 refine ⟨K,?_,hR.fresh,hR.g0,hR.size,hR.defers,hR.tm⟩
 have:=Yf hR.inv ho m hpz
 have e:zd (y4 st.H k (some ⟨o.n,o.sz,zN o.xs m⟩))=fun j=>if j=k then some ⟨o.n,o.sz,o.xs.take m⟩ else zd st.H j:=by
  funext j
  rw [zY,zB]
 show Inv Γ K (zd (y4 st.H k _)) w
 rw [e]
 exact this
theorem VF {K:Kr} {w:World} {k n sz len:Nat} {v:Value} (h:ze K w (.slr k n sz len) v):ze K w (.sl k n sz 0 len false) v:=by
 cases h with
 |slr hlc hr h=>
  obtain ⟨cs,t,fr,h1,h2⟩:=h
  refine .sl hlc (fun h=>by cases h) (.inr ⟨hr,by rw [Nat.zero_mul],cs,t,fr,h1,by rw [Nat.zero_add,h2];exact Nat.le_refl _,fun _=>by rw [Nat.zero_add,h2]⟩)
theorem vo {K:Kr} {w:World} {k k' n sz lo len:Nat} {full:Bool} {v:Value} (h:ze K w (.sl k n sz lo len full) v):ze K w (.sl k' n sz lo len full) v:=by
 cases h with
 |sl a b c=>exact .sl a b c
theorem yx {α:Type} {f:α→List DV} (h:∀x,wV (f x)=true):∀(l:List α),zQ (l.map f)=true
 |[]=>rfl
 |x::r=>by
  have:=yx h r
  simp only [List.map_cons,zQ,h x,sL,this]
theorem nF {P:Program} {f:FuncId} {ds:List DV} {H0:HL} {D D':Nat→DV} {L:Nat→HL} (h:uO P f ds H0 (fun n d H=>d=D n∧H=L n)) (hD:∀K w n v,ze K w (D n) v→ze K w (D' n) v):uO P f ds H0 (fun n d H=>d=D' n∧H=L n):=by
 refine ⟨h.1,fun K w vs g0 a b c=>(h.2 K w vs g0 a b c).mono ?_⟩
 rintro e w' ⟨v,q1,q2⟩
 refine ⟨v,q1,fun n hn=>?_⟩
 obtain ⟨K',d,H1,⟨rfl,rfl⟩,u2,u3,u4,u5⟩:=q2 n hn
 exact ⟨K',D' n,L n,⟨rfl,rfl⟩,u2,u3,u4,hD _ _ _ _ u5⟩
theorem tB {P:Program} {f:FuncId} {ds:List DV} {H0:HL} {D D':DV} {L:HL} (h:zE P f ds H0 (fun d H=>d=D∧H=L)) (hD:∀K w v,ze K w D v→ze K w D' v):zE P f ds H0 (fun d H=>d=D'∧H=L):=by
 refine ⟨h.1,fun K w vs g0 a b c=>(h.2 K w vs g0 a b c).mono ?_⟩
 rintro e w' ⟨v,d,H1,q1,⟨rfl,rfl⟩,q3,q4⟩
 exact ⟨v,D',_,q1,⟨rfl,rfl⟩,q3,hD _ _ _ q4⟩
theorem nO {P:Program} {f:FuncId} {ds ds':List DV} {H0:HL} {R:DV→HL→Prop} (h:zE P f ds' H0 R) (hd:∀K w vs,zA K w ds vs→zA K w ds' vs):zE P f ds H0 R:=
 ⟨h.1,fun K w vs g0 a b c=>h.2 K w vs g0 a b (hd _ _ _ c)⟩
theorem s7 {K:Kr} {w:World} {d e:DV} {ds:List DV} {vs:Array Value} (hd:∀v,ze K w d v→ze K w e v) (h:zA K w (d::ds) vs):zA K w (e::ds) vs:=
 ⟨h.1,fun i x v hx hv=>by
  cases i with
  |zero=>simp at hx;rw [←hx];exact hd v (h.2 0 d v rfl hv)
  |succ i=>exact h.2 (i+1) x v (by simpa using hx) hv⟩
theorem vS {K:Kr} {w:World} {k k' n sz i j:Nat} {v:Value} (h:ze K w (.ptr k n sz i j) v):ze K w (.ptr k' n sz i j) v:=by
 cases h with
 |ptr a b=>exact .ptr a b
theorem yj {P:Program} {f:FuncId} {n sz lo len:Nat} {full:Bool} {ds:List DV} {H0:HL} {R:DV→HL→Prop} (k:Nat) (h:zE P f (.sl 0 n sz lo len full::ds) H0 R):zE P f (.sl k n sz lo len full::ds) H0 R:=
 nO h (fun K w vs hv=>s7 (fun v=>vo) hv)
theorem zv {P:Program} {f:FuncId} {n sz i j:Nat} {ds:List DV} {H0:HL} {R:DV→HL→Prop} (k:Nat) (h:zE P f (.ptr 0 n sz i j::ds) H0 R):zE P f (.ptr k n sz i j::ds) H0 R:=
 nO h (fun K w vs hv=>s7 (fun v=>vS) hv)
theorem XQ {P:Program} {f:FuncId} {ds:List DV} {D D':DV} (h:zi P f ds D) (hD:∀K w v,ze K w D v→ze K w D' v):zi P f ds D':=by
 refine ⟨h.1,fun K w vs g0 a b c=>(h.2 K w vs g0 a b c).mono ?_⟩
 rintro e w' ⟨v,d,H1,q1,⟨rfl,rfl⟩,q3,q4⟩
 exact ⟨v,D',_,q1,⟨rfl,rfl⟩,q3,hD _ _ _ q4⟩
mutual
def vI:DV→DV→Prop
 |.agg cs,e=>match e with
  |.agg ds=>iP cs ds
  |_=>False
 |.tup cs,e=>match e with
  |.tup ds=>iP cs ds
  |_=>False
 |.v x,e=>e=.v x∨(x=.slice none 0 0∧∃sz,e=.snap sz [] false)
 |d,e=>e=d
def iP:List DV→List DV→Prop
 |[],l=>l=[]
 |d::r,l=>match l with
  |e::s=>vI d e∧iP r s
  |[]=>False
end
theorem lq:∀ {cs ds:List DV},iP cs ds→cs.length=ds.length∧∀(i:Nat) (d e:DV),cs[i]?=some d→ds[i]?=some e→vI d e
 |[],l,h=>by
  simp only [iP] at h
  subst h
  exact ⟨rfl,fun i d e h=>by simp at h⟩
 |d::r,[],h=>by simp [iP] at h
 |d::r,e::s,h=>by
  simp only [iP] at h
  obtain ⟨h1,h2⟩:=lq h.2
  refine ⟨by simp [h1],fun i a b ha hb=>?_⟩
  cases i with
  |zero=>simp at ha hb;rw [←ha,←hb];exact h.1
  |succ i=>exact h2 i a b (by simpa using ha) (by simpa using hb)
theorem Xv {K:Kr} {w:World} {d:DV} {v:Value} (h:ze K w d v):∀e,vI d e→ze K w e v:=by
 induction h with
 |any x=>intro e he;simp only [vI] at he;rw [he];exact .any x
 |bl b=>intro e he;simp only [vI] at he;rw [he];exact .bl b
 |ifc t x=>intro e he;simp only [vI] at he;rw [he];exact .ifc t x
 |v x=>
  intro e he
  simp only [vI] at he
  rcases he with rfl|⟨rfl,sz,rfl⟩
  ·exact .v x
  ·exact .snap (fun _ _=>undef) rfl (Nat.le_refl _) (fun h=>by cases h) (fun x hx=>by simp at hx) (fun h=>by omega) (fun ad i x j d _ hx _=>by simp at hx) (fun i x j d hx=>by simp at hx)
 |@agg ds cs hl h ih=>
  intro e he
  cases e with
  |agg es=>
   simp only [vI] at he
   obtain ⟨h1,h2⟩:=lq he
   refine .agg (hl.trans h1) fun i d c hd hc=>?_
   have hi:i<ds.length:=by rw [h1];exact (List.getElem?_eq_some_iff.1 hd).1
   exact ih i ds[i] c (List.getElem?_eq_getElem hi) hc d (h2 i _ _ (List.getElem?_eq_getElem hi) hd)
  |_=>simp [vI] at he
 |@tup ds cs hl h ih=>
  intro e he
  cases e with
  |tup es=>
   simp only [vI] at he
   obtain ⟨h1,h2⟩:=lq he
   refine .tup (hl.trans h1) fun i d c hd hc=>?_
   have hi:i<ds.length:=by rw [h1];exact (List.getElem?_eq_some_iff.1 hd).1
   exact ih i ds[i] c (List.getElem?_eq_getElem hi) hc d (h2 i _ _ (List.getElem?_eq_getElem hi) hd)
  |_=>simp [vI] at he
 |ptr hreal hcl=>intro e he;simp only [vI] at he;rw [he];exact .ptr hreal hcl
 |mp hreal=>intro e he;simp only [vI] at he;rw [he];exact .mp hreal
 |tptr hreal hc=>intro e he;simp only [vI] at he;rw [he];exact .tptr hreal hc
 |tsl h1 h2=>intro e he;simp only [vI] at he;rw [he];exact .tsl h1 h2
 |stamp hreal h=>intro e he;simp only [vI] at he;rw [he];exact .stamp hreal h
 |rptr f h1 h2 h3 h4 h5=>intro e he;simp only [vI] at he;rw [he];exact .rptr f h1 h2 h3 h4 h5
 |sl h1 h2 h3=>intro e he;simp only [vI] at he;rw [he];exact .sl h1 h2 h3
 |slr h1 h2 h3=>intro e he;simp only [vI] at he;rw [he];exact .slr h1 h2 h3
 |snap f h1 h2 h3 h4 h5 h6 h7=>intro e he;simp only [vI] at he;rw [he];exact .snap f h1 h2 h3 h4 h5 h6 h7
 |fn h1 h2 h3 h4=>intro e he;simp only [vI] at he;rw [he];exact .fn h1 h2 h3 h4
theorem xW {P:Program} {f:FuncId} {ds:List DV} {D D':DV} (h:zi P f ds D) (hD:vI D D'):zi P f ds D':=XQ h (fun K w v hv=>Xv hv D' hD)
theorem eu {st:St} (s:Sl) {k n sz len:Nat} (hs:st.tm.get s=.slr k n sz len):Le st ⟨st.tm.set s (.sl k n sz 0 len false),st.H,st.gen⟩:=by
 intro Γ N K a w hR
 refine ⟨K,hR.inv,hR.fresh,hR.g0,hR.size,hR.defers,fun q=>?_⟩
 show ze K w ((st.tm.set s _).get q) _
 rw [Env.get_set]
 by_cases e:q=s
 ·rw [if_pos e,e]
  have:=hR.tm s
  rw [hs] at this
  exact VF this
 ·rw [if_neg e]
  exact hR.tm q
theorem j_ {Γ:Gm} {st:St} {H0:HL} (hL:∀g,Γ.W0 g→∃k o,zd H0 k=some o∧Γ.K0.real o.n∧Γ.K0.μ o.n=g) (s:Sl) {k n sz i j:Nat} {o:zj} (hs:st.tm.get s=.ptr k n sz i j) (ho:zd st.H k=some o) (hid:o.n=n∧o.sz=sz∧i<o.xs.length)
  (hp:∀q p,zd H0 q=some p→∃q' p',q'≠k∧zd st.H q'=some p'∧p'.n=p.n):LeG Γ st ⟨st.tm.set s (.rptr (yL (yo o.xs i) j)),y4 st.H k none,st.gen⟩:=by
 intro N K a w hR
 by_cases hW:Γ.W0 (K.μ o.n)∧K.real o.n
 ·exfalso
  obtain ⟨q,p,h1,h2,h3⟩:=hL _ hW.1
  obtain ⟨q',p',h4,h5,h6⟩:=hp q p h1
  have hk:=hR.inv.base.keep _ h2
  rw [←h6] at hk h3
  exact h4 (hR.inv.inj q' k p' o h5 ho hk.1 hW.2 (hk.2.trans h3))
 ·let Γ':Gm:=⟨Γ.w0,fun g=>Γ.W0 g∧g≠K.μ o.n,Γ.K0,Γ.g0⟩
  have hI:=hR.inv
  obtain ⟨i1,i2,i3⟩:=hid
  have hv:=hR.tm s
  rw [hs] at hv
  have hdrop:Inv Γ K (zd (y4 st.H k none)) w:=qI hI (fun j p hp=>by
   rw [zY] at hp
   by_cases e:j=k
   ·rw [if_pos e] at hp;cases hp
   ·rw [if_neg e] at hp;exact hp)
  have hmp:¬jk K w o:=fun hm=>by
   generalize a.tmps.getD s.nat undef=v at hv
   cases hv with
   |ptr _ hcl0=>
    obtain ⟨_,_,_,hcl0⟩:=hcl0
    exact hm.out (by rw [i1];exact hcl0)
  rcases (hI.obj k o ho).two hmp with ⟨q1,q2⟩|⟨q1,cs,tt,frz,nfz,q3,q4,q5,q6⟩
  ·rw [q2] at i3
   simp at i3
  ·let K':Kr:=⟨K.dom,K.real,K.μ,fun g=>K.M g∧g≠K.μ o.n⟩
   have hm:yF K w K' w:=⟨Ext.refl _ _,fun m h=>⟨h,rfl⟩,fun g _ h=>h.1⟩
   have hb:Γ.w0.heap.size≤K.μ o.n:=((hI.own k o ho q1).2).resolve_right (fun h=>hW ⟨h,q1⟩)
   have hk:∀j p,zd (y4 st.H k none) j=some p→j≠k∧zd st.H j=some p:=by
    intro j p hp
    rw [zY] at hp
    by_cases e:j=k
    ·rw [if_pos e] at hp;cases hp
    ·rw [if_neg e] at hp;exact ⟨e,hp⟩
   refine ⟨K',⟨hdrop.ext,⟨hI.base.dom,hI.base.old,hI.base.keep,fun g hg=>?_⟩,fun j p hp=>(hdrop.obj j p hp).mono hm id (fun _=>rfl),hdrop.inj,hI.dr,hI.lt,hdrop.dobj,fun j p hp hr=>?_,hI.gl⟩,hR.fresh,hR.g0,hR.size,hR.defers,fun q=>?_⟩
   ·rw [←hI.base.M g hg]
    exact ⟨fun h=>h.1,fun h=>⟨h,by omega⟩⟩
   ·obtain ⟨hj,hp'⟩:=hk j p hp
    have:=hI.own j p hp' hr
    exact ⟨⟨this.1,fun e=>hj (hI.inj j k p o hp' ho hr q1 e)⟩,this.2⟩
   ·show ze K' w ((st.tm.set s _).get q) _
    rw [Env.get_set]
    by_cases e:q=s
    ·subst e
     rw [if_pos rfl]
     generalize a.tmps.getD q.nat undef=v at hv
     cases hv with
     |ptr hreal=>
      have hx:o.xs[i]?=some (yo o.xs i):=by rw [yV,List.getElem?_eq_getElem i3];rfl
      have hc:∀(t:Nat) (d:DV),(yL (yo o.xs i) j)[t]?=some d→∃c,cs[i*sz+(j+t)]?=some c∧ze K' w d c:=by
       intro t d hd
       rw [xd,List.getElem?_drop] at hd
       obtain ⟨c,g1,g2⟩:=q6 i (yo o.xs i) (j+t) d hx hd
       rw [i2] at g1
       exact ⟨c,g1,g2.mono hm⟩
      refine .rptr (fun t=>(cs[i*sz+(j+t)]?).getD undef) rfl ?_ ?_ (fun t d hd=>?_) (fun t d hd=>?_)
      ·show K.μ n<_
       rw [←i1];exact hI.lt _ q1
      ·rintro ⟨_,h2⟩
       exact h2 (by rw [i1])
      ·obtain ⟨c,g1,_⟩:=hc t d hd
       rw [ya,cell_of_row w _ _ cs tt frz (by rw [←i1];exact q3),Nat.add_assoc,g1]
       rfl
      ·obtain ⟨c,g1,g2⟩:=hc t d hd
       simp only [g1,Option.getD_some]
       exact g2
    ·rw [if_neg e]
     exact (hR.tm q).mono hm
theorem jz {Γ:Gm} {st:St} {n0 s0:Nat} {x0 y0:List (List DV)} (hL:∀g,Γ.W0 g→∃k o,zd [some (⟨n0,s0,x0⟩:zj)] k=some o∧Γ.K0.real o.n∧Γ.K0.μ o.n=g) (s:Sl) {k n sz i j:Nat} {o:zj} (hs:st.tm.get s=.ptr (k+1) n sz i j) (ho:zd st.H (k+1)=some o) (hid:o.n=n∧o.sz=sz∧i<o.xs.length)
  (h0:zd st.H 0=some ⟨n0,s0,y0⟩):LeG Γ st ⟨st.tm.set s (.rptr (yL (yo o.xs i) j)),y4 st.H (k+1) none,st.gen⟩:=
 j_ hL s hs ho hid (fun q p hq=>by
  cases q with
  |zero=>
   simp only [zd,Option.some.injEq] at hq
   subst hq
   exact ⟨0,_,by omega,h0,rfl⟩
  |succ q=>simp [zd] at hq)
mutual
def vP (o:zj):DV→DV→Prop
 |.agg cs,e=>match e with
  |.agg ds=>pm o cs ds
  |_=>False
 |.tup cs,e=>match e with
  |.tup ds=>pm o cs ds
  |_=>False
 |.sl k n sz lo len full,e=>(o.n=n∧o.sz=sz∧lo+len≤o.xs.length∧e=.snap sz (zN (zV o.xs lo) len) false)∨e=.sl k n sz lo len full
 |.ptr k n sz i j,e=>(o.n=n∧o.sz=sz∧i<o.xs.length∧e=.rptr (yL (yo o.xs i) j))∨e=.ptr k n sz i j
 |d,e=>e=d
def pm (o:zj):List DV→List DV→Prop
 |[],l=>l=[]
 |d::r,l=>match l with
  |e::s=>vP o d e∧pm o r s
  |[]=>False
end
theorem sy {o:zj}:∀ {cs ds:List DV},pm o cs ds→cs.length=ds.length∧∀(i:Nat) (d e:DV),cs[i]?=some d→ds[i]?=some e→vP o d e
 |[],l,h=>by
  simp only [pm] at h
  subst h
  exact ⟨rfl,fun i d e h=>by simp at h⟩
 |d::r,[],h=>by simp [pm] at h
 |d::r,e::s,h=>by
  simp only [pm] at h
  obtain ⟨h1,h2⟩:=sy h.2
  refine ⟨by simp [h1],fun i a b ha hb=>?_⟩
  cases i with
  |zero=>simp at ha hb;rw [←ha,←hb];exact h.1
  |succ i=>exact h2 i a b (by simpa using ha) (by simpa using hb)
def Kr.off (K:Kr) (n:Nat):Kr:=⟨K.dom,K.real,K.μ,fun g=>K.M g∧¬(K.real n∧g=K.μ n)⟩
theorem nH (K:Kr) (w:World) (n:Nat):yF K w (K.off n) w:=⟨Ext.refl _ _,fun m h=>⟨h,rfl⟩,fun g _ h=>h.1⟩
theorem dJ {K:Kr} {w:World} {o:zj} (hobj:qK K w o) (hlt:K.real o.n→K.μ o.n<w.heap.size) {d:DV} {v:Value} (h:ze K w d v):∀e,vP o d e→ze (K.off o.n) w e v:=by
 have hm:=nH K w o.n
 induction h with
 |any x=>intro e he;simp only [vP] at he;rw [he];exact .any x
 |bl b=>intro e he;simp only [vP] at he;rw [he];exact .bl b
 |ifc t x=>intro e he;simp only [vP] at he;rw [he];exact .ifc t x
 |v x=>intro e he;simp only [vP] at he;rw [he];exact .v x
 |@agg ds cs hl h ih=>
  intro e he
  cases e with
  |agg es=>
   simp only [vP] at he
   obtain ⟨h1,h2⟩:=sy he
   refine .agg (hl.trans h1) fun i d c hd hc=>?_
   have hi:i<ds.length:=by rw [h1];exact (List.getElem?_eq_some_iff.1 hd).1
   exact ih i ds[i] c (List.getElem?_eq_getElem hi) hc d (h2 i _ _ (List.getElem?_eq_getElem hi) hd)
  |_=>simp [vP] at he
 |@tup ds cs hl h ih=>
  intro e he
  cases e with
  |tup es=>
   simp only [vP] at he
   obtain ⟨h1,h2⟩:=sy he
   refine .tup (hl.trans h1) fun i d c hd hc=>?_
   have hi:i<ds.length:=by rw [h1];exact (List.getElem?_eq_some_iff.1 hd).1
   exact ih i ds[i] c (List.getElem?_eq_getElem hi) hc d (h2 i _ _ (List.getElem?_eq_getElem hi) hd)
  |_=>simp [vP] at he
 |@ptr k n sz i j hreal hcl=>
  intro e he
  simp only [vP] at he
  rcases he with ⟨i1,i2,i3,rfl⟩|rfl
  ·rcases hobj with ⟨q1,q2⟩|⟨q1,cs,tt,frz,nfz,q3,q4,q5,q6⟩|hmp
   ·rw [q2] at i3
    simp at i3
   ·have hx:o.xs[i]?=some (yo o.xs i):=by rw [yV,List.getElem?_eq_getElem i3];rfl
    have hat:∀(t:Nat) (d:DV),(yL (yo o.xs i) j)[t]?=some d→∃c,cs[i*sz+j+t]?=some c∧ze (K.off o.n) w d c:=fun t d ht=>by
     rw [xd,List.getElem?_drop] at ht
     obtain ⟨c,g1,g2⟩:=q6 i _ (j+t) d hx ht
     rw [i2] at g1
     exact ⟨c,by rw [Nat.add_assoc];exact g1,g2.mono hm⟩
    refine .rptr (fun t=>(cs[i*sz+j+t]?).getD undef) rfl ?_ ?_ (fun t d ht=>?_) (fun t d ht=>?_)
    ·show K.μ n<_
     rw [←i1];exact hlt q1
    ·rintro ⟨_,h2⟩
     exact h2 ⟨q1,by rw [i1]⟩
    ·obtain ⟨c,g1,_⟩:=hat t d ht
     rw [ya,cell_of_row w _ _ cs tt frz (by rw [←i1];exact q3),g1]
     rfl
    ·obtain ⟨c,g1,g2⟩:=hat t d ht
     simp only [g1,Option.getD_some]
     exact g2
   ·obtain ⟨_,_,_,hcl0⟩:=hcl
    exact hmp.out (by rw [i1];exact hcl0)
  ·exact (ze.ptr hreal hcl).mono hm
 |mp hreal=>intro e he;simp only [vP] at he;rw [he];exact (ze.mp hreal).mono hm
 |tptr hreal hc=>intro e he;simp only [vP] at he;rw [he];exact (ze.tptr hreal hc).mono hm
 |tsl h1 h2=>intro e he;simp only [vP] at he;rw [he];exact (ze.tsl h1 h2).mono hm
 |stamp hreal h=>intro e he;simp only [vP] at he;rw [he];exact (ze.stamp hreal h).mono hm
 |rptr f h1 h2 h3 h4 h5=>intro e he;simp only [vP] at he;rw [he];exact (ze.rptr f h1 h2 h3 h4 h5).mono hm
 |slr h1 h2 h3=>intro e he;simp only [vP] at he;rw [he];exact (ze.slr h1 h2 h3).mono hm
 |snap f h1 h2 h3 h4 h5 h6 h7=>intro e he;simp only [vP] at he;rw [he];exact (ze.snap f h1 h2 h3 h4 h5 h6 h7).mono hm
 |fn h1 h2 h3 h4=>intro e he;simp only [vP] at he;rw [he];exact (ze.fn h1 h2 h3 h4).mono hm
 |@sl k n sz lo len full A cap hlc hf h=>
  intro e he
  simp only [vP] at he
  rcases he with ⟨i1,i2,i3,rfl⟩|rfl
  ·rw [zB,yh]
   have hlen:((o.xs.drop lo).take len).length=len:=by simp;omega
   have hgetx:∀(i:Nat) (x:List DV),((o.xs.drop lo).take len)[i]?=some x→i<len∧o.xs[lo+i]?=some x:=by
    intro i x hx
    have hi:i<len:=by have:=(List.getElem?_eq_some_iff.1 hx).1;rw [hlen] at this;exact this
    rw [List.getElem?_take_of_lt hi,List.getElem?_drop] at hx
    exact ⟨hi,hx⟩
   rcases hobj with ⟨q1,q2⟩|⟨q1,cs,tt,frz,nfz,q3,q4,q5,q6⟩|hmp
   rotate_right
   ·rcases h with h|⟨_,_,_,_,_,hcl,_⟩
    ·have hl0:len=0:=by omega
     subst hl0
     exact .snap (fun _ _=>undef) (by simp) hlc (fun h=>by cases h) (fun x hx=>by simp at hx) (fun h=>by omega) (fun ad i x j d _ hx _=>by simp at hx) (fun i x j d hx=>by simp at hx)
    ·exact hmp.out (by rw [i1];exact hcl)
   ·have hl0:len=0:=by rw [q2] at i3;simp at i3;omega
    subst hl0
    exact .snap (fun _ _=>undef) (by simp) hlc (fun h=>by cases h) (fun x hx=>by simp at hx) (fun h=>by omega) (fun ad i x j d _ hx _=>by simp at hx) (fun i x j d hx=>by simp at hx)
   ·have hcell:∀(i:Nat) (x:List DV) (j:Nat) (d:DV),((o.xs.drop lo).take len)[i]?=some x→x[j]?=some d→∃c,cs[(lo+i)*sz+j]?=some c∧ze (K.off o.n) w d c:=by
     intro i x j d hx hd
     obtain ⟨_,hx'⟩:=hgetx i x hx
     obtain ⟨c,g1,g2⟩:=q6 (lo+i) x j d hx' hd
     rw [i2] at g1
     exact ⟨c,g1,g2.mono hm⟩
    refine .snap (fun i j=>(cs[(lo+i)*sz+j]?).getD undef) hlen hlc (fun h=>by cases h) (fun x hx=>?_) (fun h0=>?_) (fun ad i x j d hA hx hd=>?_) (fun i x j d hx hd=>?_)
    ·rw [←i2];exact q5 x (List.mem_of_mem_drop (List.mem_of_mem_take hx))
    ·rcases h with h|⟨hreal,hA,rest⟩
     ·omega
     ·refine ⟨_,hA,rfl,?_,?_⟩
      ·show K.μ n<_
       rw [←i1];exact hlt q1
      ·rintro ⟨_,h2⟩
       exact h2 ⟨q1,by rw [i1]⟩
    ·obtain ⟨hi,_⟩:=hgetx i x hx
     obtain ⟨c,g1,_⟩:=hcell i x j d hx hd
     rcases h with h|⟨hreal,hA',rest⟩
     ·omega
     ·rw [hA] at hA'
      obtain rfl:=Option.some.inj hA'
      rw [ya,cell_of_row w _ _ cs tt frz (by rw [←i1];exact q3)]
      have e1:lo*sz+(i*sz+j)=(lo+i)*sz+j:=by rw [Nat.add_mul];omega
      rw [e1,g1]
      rfl
    ·obtain ⟨c,g1,g2⟩:=hcell i x j d hx hd
     simp only [g1,Option.getD_some]
     exact g2
  ·exact (ze.sl hlc hf h).mono hm
def u_ (o:zj):List (List DV)→List (List DV)→Prop
 |[],l=>l=[]
 |x::r,l=>match l with
  |y::s=>pm o x y∧u_ o r s
  |[]=>False
theorem kQ {o:zj}:∀ {cs ds:List (List DV)},u_ o cs ds→cs.length=ds.length∧∀(i:Nat) (d e:List DV),cs[i]?=some d→ds[i]?=some e→pm o d e
 |[],l,h=>by
  simp only [u_] at h
  subst h
  exact ⟨rfl,fun i d e h=>by simp at h⟩
 |d::r,[],h=>by simp [u_] at h
 |d::r,e::s,h=>by
  simp only [u_] at h
  obtain ⟨h1,h2⟩:=kQ h.2
  refine ⟨by simp [h1],fun i a b ha hb=>?_⟩
  cases i with
  |zero=>simp at ha hb;rw [←ha,←hb];exact h.1
  |succ i=>exact h2 i a b (by simpa using ha) (by simpa using hb)
def Zd (d:DV):Prop:=d=.bl∨∃v,d=.v v
theorem kg {o:zj}:∀ {x y:List DV},(∀d∈x,Zd d)→pm o x y→y=x
 |[],y,_,h=>by simpa [pm] using h
 |d::x,[],_,h=>by simp [pm] at h
 |d::x,e::y,hf,h=>by
  simp only [pm] at h
  have h1:=h.1
  rw [kg (fun d hd=>hf d (by simp [hd])) h.2]
  congr 1
  rcases hf d (by simp) with rfl|⟨v,rfl⟩
  ·simpa [vP] using h1
  ·simpa [vP] using h1
theorem lh {o:zj}:∀ {xs ys:List (List DV)},(∀x∈xs,∀d∈x,Zd d)→u_ o xs ys→ys=xs
 |[],ys,_,h=>by simpa [u_] using h
 |x::xs,[],_,h=>by simp [u_] at h
 |x::xs,y::ys,hf,h=>by
  simp only [u_] at h
  rw [lh (fun x hx=>hf x (by simp [hx])) h.2,kg (hf x (by simp)) h.1]
theorem aI {K:Kr} {w:World} {o:zj} (h:jk K w o):∀x∈o.xs,∀d∈x,Zd d:=by
 obtain ⟨_,_,es,ck,_,h|⟨z,s,r,h,hl⟩⟩:=h
 ·intro x hx d hd
  rw [h] at hx
  obtain ⟨e,_,rfl⟩:=List.mem_map.1 hx
  simp [uk] at hd
  rcases hd with rfl|rfl
  ·exact .inr ⟨_,rfl⟩
  ·exact .inr ⟨_,rfl⟩
 ·intro x hx d hd
  rw [h] at hx
  rcases List.mem_cons.1 hx with rfl|hx
  ·simp at hd
   rcases hd with rfl|rfl|rfl
   ·exact .inl rfl
   ·exact .inr ⟨_,rfl⟩
   ·exact .inr ⟨_,rfl⟩
  ·obtain ⟨a,b,rfl,_⟩:=hl.rows x hx
   simp at hd
   rcases hd with rfl|rfl
   ·exact .inr ⟨_,rfl⟩
   ·exact .inr ⟨_,rfl⟩
theorem jy {Γ:Gm} {st:St} (j k:Nat) {o p:zj} {ys:List (List DV)} (hW:∀N K a w,Rel Γ N st K a w→K.real o.n→¬Γ.W0 (K.μ o.n)) (ho:zd st.H k=some o) (hp:zd st.H j=some p) (hf:u_ o p.xs ys):LeG Γ st ⟨st.tm,y4 (y4 st.H j (some ⟨p.n,p.sz,ys⟩)) k none,st.gen⟩:=by
 intro N K a w hR
 have hI:=hR.inv
 have hm:=nH K w o.n
 obtain ⟨f1,f2⟩:=kQ hf
 have hk:∀q r,zd (y4 (y4 st.H j (some ⟨p.n,p.sz,ys⟩)) k none) q=some r→q≠k∧((q=j∧r=⟨p.n,p.sz,ys⟩)∨(q≠j∧zd st.H q=some r)):=by
  intro q r hq
  rw [zY] at hq
  by_cases e:q=k
  ·rw [if_pos e] at hq;cases hq
  ·rw [if_neg e,zY] at hq
   refine ⟨e,?_⟩
   by_cases e2:q=j
   ·rw [if_pos e2] at hq;exact .inl ⟨e2,(Option.some.inj hq).symm⟩
   ·rw [if_neg e2] at hq;exact .inr ⟨e2,hq⟩
 have hback:∀q r,zd (y4 (y4 st.H j (some ⟨p.n,p.sz,ys⟩)) k none) q=some r→∃r',zd st.H q=some r'∧r'.n=r.n:=by
  intro q r hq
  rcases (hk q r hq).2 with ⟨rfl,rfl⟩|⟨_,h⟩
  ·exact ⟨p,hp,rfl⟩
  ·exact ⟨r,h,rfl⟩
 refine ⟨K.off o.n,⟨hI.ext,⟨hI.base.dom,hI.base.old,hI.base.keep,fun g hg=>?_⟩,fun q r hq=>?_,fun q1 q2 r1 r2 h1 h2 p1 p2 he=>?_,hI.dr,hI.lt,fun q r hq=>?_,fun q r hq hr=>?_,hI.gl⟩,hR.fresh,hR.g0,hR.size,hR.defers,fun q=>(hR.tm q).mono hm⟩
 ·rw [←hI.base.M g hg]
  refine ⟨fun h=>h.1,fun h=>⟨h,fun q=>?_⟩⟩
  have:=((hI.own k o ho q.1).2).resolve_right (hW _ _ _ _ hR q.1)
  omega
 ·rcases (hk q r hq).2 with ⟨rfl,rfl⟩|⟨_,h⟩
  ·rcases hI.obj _ p hp with ⟨u1,u2⟩|⟨u1,cs,t,frz,nfz,u2,u3,u4,u5⟩|⟨u1,u2,es,ck,u3,u4⟩
   ·rw [u2] at f1
    exact .inl ⟨u1,List.eq_nil_of_length_eq_zero f1.symm⟩
   rotate_left
   ·have e:=lh (aI ⟨u1,u2,es,ck,u3,u4⟩) hf
    exact .inr (.inr ⟨u1,u2,es,ck,u3,by rw [e];exact u4⟩)
   ·refine .inr (.inl ⟨u1,cs,t,frz,nfz,u2,by rw [←f1];exact u3,fun y hy=>?_,fun i y jj d hy hd=>?_⟩)
    ·obtain ⟨i,hi⟩:=List.mem_iff_getElem?.1 hy
     have hi':i<p.xs.length:=by rw [f1];exact (List.getElem?_eq_some_iff.1 hi).1
     have:=sy (f2 i _ y (List.getElem?_eq_getElem hi') hi)
     rw [←this.1]
     exact u4 _ (List.getElem_mem hi')
    ·have hi':i<p.xs.length:=by rw [f1];exact (List.getElem?_eq_some_iff.1 hy).1
     have hx:=List.getElem?_eq_getElem hi'
     obtain ⟨g1,g2⟩:=sy (f2 i _ y hx hy)
     have hj':jj<(p.xs[i]).length:=by rw [g1];exact (List.getElem?_eq_some_iff.1 hd).1
     obtain ⟨c,c1,c2⟩:=u5 i _ jj _ hx (List.getElem?_eq_getElem hj')
     exact ⟨c,c1,dJ (hI.obj k o ho) (fun hr=>hI.lt _ hr) c2 d (g2 jj _ d (List.getElem?_eq_getElem hj') hd)⟩
  ·exact (hI.obj q r h).mono hm id (fun _=>rfl)
 ·obtain ⟨r1',e1,n1⟩:=hback q1 r1 h1
  obtain ⟨r2',e2,n2⟩:=hback q2 r2 h2
  exact hI.inj q1 q2 r1' r2' e1 e2 (by rw [n1];exact p1) (by rw [n2];exact p2) (by rw [n1,n2];exact he)
 ·obtain ⟨r',e1,n1⟩:=hback q r hq
  have:=hI.dobj q r' e1
  rw [n1] at this
  exact this
 ·obtain ⟨r',e1,n1⟩:=hback q r hq
  have:=hI.own q r' e1 (by rw [n1];exact hr)
  rw [n1] at this
  refine ⟨⟨this.1,fun e=>?_⟩,this.2⟩
  have hne:=(hk q r hq).1
  exact hne (hI.inj q k r' o e1 ho (by rw [n1];exact hr) e.1 (by rw [n1];exact e.2))
theorem zT {Γ:Gm} {st:St} (hW:∀g,¬Γ.W0 g) (j k:Nat) (hjk:j≠k) {o p:zj} {ys:List (List DV)} (ho:zd st.H k=some o) (hp:zd st.H j=some p) (hf:u_ o p.xs ys):LeG Γ st ⟨st.tm,y4 (y4 st.H j (some ⟨p.n,p.sz,ys⟩)) k none,st.gen⟩:=
 jy j k (fun _ _ _ _ _ _=>hW _) ho hp hf
theorem dY {Γ:Gm} {K:Kr} {H:Nat→Option zj} {w:World} (hI:Inv Γ K H w) {k:Nat} {o:zj} (ho:H k=some o) {ys:List (List DV)} (hr:qK K w ⟨o.n,o.sz,ys⟩):Inv Γ K (fun j=>if j=k then some ⟨o.n,o.sz,ys⟩ else H j) w:=by
 have hk:∀j p,(if j=k then some (⟨o.n,o.sz,ys⟩:zj) else H j)=some p→∃p',H j=some p'∧p'.n=p.n∧((j=k∧p=⟨o.n,o.sz,ys⟩)∨p=p'):=by
  intro j p h
  by_cases e:j=k
  ·rw [if_pos e] at h
   obtain rfl:=Option.some.inj h
   exact ⟨o,by rw [e];exact ho,rfl,.inl ⟨e,rfl⟩⟩
  ·rw [if_neg e] at h
   exact ⟨p,h,rfl,.inr rfl⟩
 refine ⟨hI.ext,hI.base,fun j p h=>?_,fun j1 j2 p1 p2 h1 h2 r1 r2 he=>?_,hI.dr,hI.lt,fun j p h=>?_,fun j p h hr=>?_,hI.gl⟩
 ·obtain ⟨p',e1,_,⟨_,rfl⟩|rfl⟩:=hk j p h
  ·exact hr
  ·exact hI.obj j _ e1
 ·obtain ⟨q1,e1,e2,_⟩:=hk j1 p1 h1
  obtain ⟨q2,f1,f2,_⟩:=hk j2 p2 h2
  exact hI.inj j1 j2 q1 q2 e1 f1 (by rw [e2];exact r1) (by rw [f2];exact r2) (by rw [e2,f2];exact he)
 ·obtain ⟨q1,e1,e2,_⟩:=hk j p h
  rw [←e2]
  exact hI.dobj j q1 e1
 ·obtain ⟨q1,e1,e2,_⟩:=hk j p h
  have:=hI.own j q1 e1 (by rw [e2];exact hr)
  rw [e2] at this
  exact this
theorem yz {Γ:Gm} {st st':St} (h:Le st st'):LeG Γ st st':=fun N K a w hR=>h Γ N K a w hR
theorem fv {A B r s:List (List DV)} {m:Nat} (h:A.length+B.length=m):zN (zN (A++(B++r)) m++s) m=A++B:=by
 have h2:(A++B).length=m:=by simpa using h
 have h1:(A++B++r).take m=A++B:=List.take_left' h2
 rw [zB,zB,←List.append_assoc,h1]
 exact List.take_left' h2
theorem zU {Γ:Gm} {xr:List XR} {D:DV} {st:St} {n sz:Nat} {xs ys:List (List DV)} (h1:xB st xr) (h2:nfD Γ.g0 (wA (yn st xr))) (h3:wA (yn st xr)=D) (ho:zd st.H 0=some ⟨n,sz,xs⟩) (hn:n<Γ.g0) (hx:yA Γ.g0 ys) (he:xs=ys):oS Γ xr 1 (fun d H=>d=D∧H=[some ⟨n,sz,ys⟩]) st:=by
 subst he
 have e:yt 1 st.H=[some ⟨n,sz,xs⟩]:=by
  cases hq:st.H with
  |nil=>rw [hq] at ho;cases ho
  |cons x r=>rw [hq] at ho;simp only [zd] at ho;simp [yt,ho]
 refine l_ ⟨h1,h2,?_,h3,e⟩
 rw [e]
 exact ⟨⟨hn,hx⟩,trivial⟩
theorem xN {Γ:Gm} {xr:List XR} {R:Nat→DV→HL→Prop} {st:St} (kx:Nat) {n1 sz:Nat} {xs:List (List DV)} (D:Nat→DV) (h1:xB st xr) (ho:zd st.H kx=some ⟨n1,sz,xs⟩) (hg:Γ.g0≤n1) (hx:yA Γ.g0 xs) (hr:∀n,ui Γ.g0 n1 n (wA (yn st xr)) (D n)) (hR:∀n,R n (D n) [some ⟨n,sz,xs⟩]):oG Γ xr 0 R st:=
 aw ⟨h1,trivial,kx,n1,sz,xs,D,ho,Nat.zero_le _,hg,hx,fun n=>⟨hr n,hR n⟩⟩
theorem li {α:Type} {kt:KT} {f:α→Value×Value} (h:∀x,zC kt (f x).1=true):∀(l:List α),uu kt (l.map (fun x=>[.v (f x).1,.v (f x).2]))=true
 |[]=>rfl
 |x::l=>by simp only [List.map_cons,uu,xC];exact ⟨h x,li h l⟩
mutual
def q9:DV→Bool
 |.v _=>true
 |.bl=>true
 |.ifc=>true
 |.any=>true
 |.agg cs=>mI cs
 |.tup cs=>mI cs
 |_=>false
def mI:List DV→Bool
 |[]=>true
 |d::r=>q9 d&&mI r
end
theorem qj:∀ {l:List DV},mI l=true→∀d∈l,q9 d=true
 |[],_,d,h=>by simp at h
 |x::r,h,d,hd=>by
  simp only [mI,Bool.and_eq_true] at h
  rcases List.mem_cons.1 hd with rfl|hd
  ·exact h.1
  ·exact qj h.2 d hd
theorem dc {K K':Kr} {w w':World} {d:DV} {v:Value} (h:ze K w d v):q9 d=true→ze K' w' d v:=by
 induction h with
 |any x=>intro _;exact .any x
 |bl b=>intro _;exact .bl b
 |ifc t x=>intro _;exact .ifc t x
 |v x=>intro _;exact .v x
 |agg hl h ih=>
  intro hp
  simp only [q9] at hp
  exact .agg hl (fun i d c hd hc=>ih i d c hd hc (qj hp d (List.mem_of_getElem? hd)))
 |tup hl h ih=>
  intro hp
  simp only [q9] at hp
  exact .tup hl (fun i d c hd hc=>ih i d c hd hc (qj hp d (List.mem_of_getElem? hd)))
 |ptr=>intro hp;cases hp
 |rptr=>intro hp;cases hp
 |sl=>intro hp;cases hp
 |slr=>intro hp;cases hp
 |snap=>intro hp;cases hp
 |fn=>intro hp;cases hp
 |mp=>intro hp;cases hp
 |tptr=>intro hp;cases hp
 |tsl=>intro hp;cases hp
 |stamp=>intro hp;cases hp
theorem cR {Γ:Gm} {K:Kr} {H':Nat→Option zj} {w w':World} (hI:Inv Γ K H' w) (h:Ext (fun _=>False) w w'):Inv Γ K H' w':=
 ⟨uV hI h,hI.base,fun k o ho=>(hI.obj k o ho).mono ⟨h.weaken (fun _ _ hf=>hf.elim),fun n hn=>⟨hn,rfl⟩,fun g _ hm=>hm⟩ (fun hn=>hn) (fun hr=>h.keep _ (hI.lt _ hr) (fun hf=>hf)),hI.inj,hI.dr,fun n hn=>Nat.lt_of_lt_of_le (hI.lt n hn) h.size,hI.dobj,hI.own,hI.gl⟩
mutual
def vO (o:zj):DV→DV→Prop
 |.agg cs,e=>match e with
  |.agg ds=>uQ o cs ds
  |_=>False
 |.tup cs,e=>match e with
  |.tup ds=>uQ o cs ds
  |_=>False
 |.sl k n sz lo len full,e=>(o.n=n∧o.sz=sz∧lo+len≤o.xs.length∧e=.snap sz (zN (zV o.xs lo) len) false)∨e=.sl k n sz lo len full
 |.ptr k n sz i j,e=>(o.n=n∧o.sz=sz∧i<o.xs.length∧e=.rptr (yL (yo o.xs i) j))∨e=.ptr k n sz i j
 |.fn f a b,e=>match e with
  |.fn g c d=>f=g∧uQ o a c∧uQ o b d
  |_=>False
 |d,e=>e=d
def uQ (o:zj):List DV→List DV→Prop
 |[],l=>l=[]
 |d::r,l=>match l with
  |e::s=>vO o d e∧uQ o r s
  |[]=>False
end
theorem vU {o:zj}:∀ {cs ds:List DV},uQ o cs ds→cs.length=ds.length∧∀(i:Nat) (d e:DV),cs[i]?=some d→ds[i]?=some e→vO o d e
 |[],l,h=>by
  simp only [uQ] at h
  subst h
  exact ⟨rfl,fun i d e h=>by simp at h⟩
 |d::r,[],h=>by simp [uQ] at h
 |d::r,e::s,h=>by
  simp only [uQ] at h
  obtain ⟨h1,h2⟩:=vU h.2
  refine ⟨by simp [h1],fun i a b ha hb=>?_⟩
  cases i with
  |zero=>simp at ha hb;rw [←ha,←hb];exact h.1
  |succ i=>exact h2 i a b (by simpa using ha) (by simpa using hb)
theorem Ze {K:Kr} {w:World} {o:zj} (hobj:qK K w o) (hlt:K.real o.n→K.μ o.n<w.heap.size) {d:DV} {v:Value} (h:ze K w d v):∀e,vO o d e→ze (K.off o.n) w e v:=by
 have hm:=nH K w o.n
 induction h with
 |any x=>intro e he;simp only [vO] at he;rw [he];exact .any x
 |bl b=>intro e he;simp only [vO] at he;rw [he];exact .bl b
 |ifc t x=>intro e he;simp only [vO] at he;rw [he];exact .ifc t x
 |v x=>intro e he;simp only [vO] at he;rw [he];exact .v x
 |@agg ds cs hl h ih=>
  intro e he
  cases e with
  |agg es=>
   simp only [vO] at he
   obtain ⟨h1,h2⟩:=vU he
   refine .agg (hl.trans h1) fun i d c hd hc=>?_
   have hi:i<ds.length:=by rw [h1];exact (List.getElem?_eq_some_iff.1 hd).1
   exact ih i ds[i] c (List.getElem?_eq_getElem hi) hc d (h2 i _ _ (List.getElem?_eq_getElem hi) hd)
  |_=>simp [vO] at he
 |@tup ds cs hl h ih=>
  intro e he
  cases e with
  |tup es=>
   simp only [vO] at he
   obtain ⟨h1,h2⟩:=vU he
   refine .tup (hl.trans h1) fun i d c hd hc=>?_
   have hi:i<ds.length:=by rw [h1];exact (List.getElem?_eq_some_iff.1 hd).1
   exact ih i ds[i] c (List.getElem?_eq_getElem hi) hc d (h2 i _ _ (List.getElem?_eq_getElem hi) hd)
  |_=>simp [vO] at he
 |@ptr k n sz i j hreal hcl=>
  intro e he
  simp only [vO] at he
  rcases he with ⟨i1,i2,i3,rfl⟩|rfl
  ·obtain ⟨_,_,_,hcl0⟩:=hcl
   rcases hobj.two (fun hmp=>hmp.out (by rw [i1];exact hcl0)) with ⟨q1,q2⟩|⟨q1,cs,tt,frz,nfz,q3,q4,q5,q6⟩
   ·rw [q2] at i3;simp at i3
   ·have hx:o.xs[i]?=some (yo o.xs i):=by rw [yV,List.getElem?_eq_getElem i3];rfl
    have hc:∀(t:Nat) (d:DV),(yL (yo o.xs i) j)[t]?=some d→∃c,cs[i*sz+(j+t)]?=some c∧ze (K.off o.n) w d c:=by
     intro t d hd
     rw [xd,List.getElem?_drop] at hd
     obtain ⟨c,g1,g2⟩:=q6 i (yo o.xs i) (j+t) d hx hd
     rw [i2] at g1
     exact ⟨c,g1,g2.mono hm⟩
    refine .rptr (fun t=>(cs[i*sz+(j+t)]?).getD undef) rfl ?_ ?_ (fun t d hd=>?_) (fun t d hd=>?_)
    ·show K.μ n<_
     rw [←i1];exact hlt q1
    ·rintro ⟨_,h2⟩
     exact h2 ⟨q1,by rw [i1]⟩
    ·obtain ⟨c,g1,_⟩:=hc t d hd
     rw [ya,cell_of_row w _ _ cs tt frz (by rw [←i1];exact q3),Nat.add_assoc,g1]
     rfl
    ·obtain ⟨c,g1,g2⟩:=hc t d hd
     simp only [g1,Option.getD_some]
     exact g2
  ·exact (ze.ptr hreal hcl).mono hm
 |mp hreal=>intro e he;simp only [vO] at he;rw [he];exact (ze.mp hreal).mono hm
 |tptr hreal hc=>intro e he;simp only [vO] at he;rw [he];exact (ze.tptr hreal hc).mono hm
 |tsl h1 h2=>intro e he;simp only [vO] at he;rw [he];exact (ze.tsl h1 h2).mono hm
 |stamp hreal h=>intro e he;simp only [vO] at he;rw [he];exact (ze.stamp hreal h).mono hm
 |rptr f h1 h2 h3 h4 h5=>intro e he;simp only [vO] at he;rw [he];exact (ze.rptr f h1 h2 h3 h4 h5).mono hm
 |slr h1 h2 h3=>intro e he;simp only [vO] at he;rw [he];exact (ze.slr h1 h2 h3).mono hm
 |snap f h1 h2 h3 h4 h5 h6 h7=>intro e he;simp only [vO] at he;rw [he];exact (ze.snap f h1 h2 h3 h4 h5 h6 h7).mono hm
 |@fn f a b fi ca h1 h2 h3 h4 ih1 ih2=>
  intro e he
  cases e with
  |fn g c d=>
   simp only [vO] at he
   obtain ⟨rfl,q1,q2⟩:=he
   obtain ⟨l1,g1⟩:=vU q1
   obtain ⟨l2,g2⟩:=vU q2
   refine .fn (h1.trans l1) (h2.trans l2) (fun i x y hx hy=>?_) (fun i x y hx hy=>?_)
   ·have hi:i<a.length:=by rw [l1];exact (List.getElem?_eq_some_iff.1 hx).1
    exact ih1 i a[i] y (List.getElem?_eq_getElem hi) hy x (g1 i _ _ (List.getElem?_eq_getElem hi) hx)
   ·have hi:i<b.length:=by rw [l2];exact (List.getElem?_eq_some_iff.1 hx).1
    exact ih2 i b[i] y (List.getElem?_eq_getElem hi) hy x (g2 i _ _ (List.getElem?_eq_getElem hi) hx)
  |_=>simp [vO] at he
 |@sl k n sz lo len full A cap hlc hf h=>
  intro e he
  simp only [vO] at he
  exact dJ hobj hlt (.sl hlc hf h) e he
mutual
def noM:DV→Bool
 |.v _=>true
 |.bl=>true
 |.ifc=>true
 |.any=>true
 |.ptr ..=>true
 |.sl ..=>true
 |.slr ..=>true
 |.mp ..=>true
 |.tptr ..=>true
 |.tsl ..=>true
 |.stamp ..=>true
 |.agg cs=>Yp cs
 |.tup cs=>Yp cs
 |_=>false
def Yp:List DV→Bool
 |[]=>true
 |d::r=>noM d&&Yp r
end
theorem mj:∀ {l:List DV},Yp l=true→∀d∈l,noM d=true
 |[],_,d,h=>by simp at h
 |x::r,h,d,hd=>by
  simp only [Yp,Bool.and_eq_true] at h
  rcases List.mem_cons.1 hd with rfl|hd
  ·exact h.1
  ·exact mj h.2 d hd
theorem hJ {K K':Kr} {w:World} (hr:∀n,K.real n→K'.real n∧K'.μ n=K.μ n) {d:DV} {v:Value} (h:ze K w d v):noM d=true→ze K' w d v:=by
 induction h with
 |any x=>intro _;exact .any x
 |bl b=>intro _;exact .bl b
 |ifc t x=>intro _;exact .ifc t x
 |v x=>intro _;exact .v x
 |agg hl h ih=>
  intro hp
  simp only [noM] at hp
  exact .agg hl (fun i d c hd hc=>ih i d c hd hc (mj hp d (List.mem_of_getElem? hd)))
 |tup hl h ih=>
  intro hp
  simp only [noM] at hp
  exact .tup hl (fun i d c hd hc=>ih i d c hd hc (mj hp d (List.mem_of_getElem? hd)))
 |@ptr k n sz i j hreal hc=>
  intro _
  have:=hr n hreal
  rw [←this.2]
  exact .ptr this.1 (by rw [this.2];exact hc)
 |rptr=>intro hp;cases hp
 |@sl k n sz lo len full A cap hlc hf h=>
  intro _
  refine .sl hlc hf ?_
  rcases h with h|⟨hreal,hA,rest⟩
  ·exact .inl h
  ·have:=hr n hreal
   exact .inr ⟨this.1,by rw [this.2];exact hA,by rw [this.2];exact rest⟩
 |@slr k n sz len cap hlc hreal h=>
  intro _
  have:=hr n hreal
  rw [←this.2]
  exact .slr hlc this.1 (by rw [this.2];exact h)
 |snap=>intro hp;cases hp
 |fn=>intro hp;cases hp
 |@mp k n hreal=>
  intro _
  have:=hr n hreal
  rw [←this.2]
  exact .mp this.1
 |@tsl k n len T A cap hlc h=>
  intro _
  refine .tsl hlc ?_
  rcases h with h|⟨hreal,hA,rest⟩
  ·exact .inl h
  ·have:=hr n hreal
   exact .inr ⟨this.1,by rw [this.2];exact hA,by rw [this.2];exact rest⟩
 |@tptr n sz T hreal hc=>
  intro _
  have:=hr n hreal
  rw [←this.2]
  exact .tptr this.1 (by rw [this.2];exact hc)
 |@stamp n i key hreal h=>
  intro _
  have:=hr n hreal
  exact .stamp this.1 (by rw [this.2];exact h)
theorem xb {o1:zj}:∀ {l:HL} {i:Nat} {o:zj},zd l i=some o→zd (l++[some o1]) i=some o
 |[],i,o,h=>by cases h
 |x::r,0,o,h=>h
 |x::r,i+1,o,h=>xb (l:=r) h
theorem kW {o1:zj}:∀(l:HL),zd (l++[some o1]) l.length=some o1
 |[]=>rfl
 |x::r=>kW r
theorem Yt {P:Program} {f:FuncId} {ds ds':List DV} {D:DV} {H0 H1:HL} {o:zj} (h:zE P f ds' H0 (fun d H=>d=D∧H=H1)) (hl:H1.length=H0.length) (hf:uQ o ds ds') (hD:noM D=true) (hH:∀k p,zd H1 k=some p→∀x∈p.xs,∀d∈x,noM d=true) :
  zE P f ds (H0++[some o]) (fun d H=>d=D∧H=H1++[some o]):=by
 refine ⟨h.1,fun K w vs g0 hI hlt hargs=>?_⟩
 have ho:zd (H0++[some o]) H0.length=some o:=kW H0
 have hne:∀k p,zd H0 k=some p→k≠H0.length:=fun k p hp e=>by
  have:∀(l:HL) (i:Nat) (q:zj),zd l i=some q→i<l.length:=by
   intro l
   induction l with
   |nil=>intro i q h;cases h
   |cons x r ih=>
    intro i q h
    cases i with
    |zero=>simp
    |succ i=>have:=ih i q h;simp;omega
  have:=this H0 k p hp
  omega
 have hobj:=hI.obj _ o ho
 let K1:Kr:=K.off o.n
 have hm1:yF (K.cut w) w (K1.cut w) w:=⟨Ext.refl _ _,fun n hn=>⟨hn,rfl⟩,fun g _ hg=>⟨hg.1.1,hg.2⟩⟩
 have hm2:yF ((K.cut w).off o.n) w (K1.cut w) w:=⟨Ext.refl _ _,fun n hn=>⟨hn,rfl⟩,fun g _ hg=>⟨⟨hg.1.1,hg.2⟩,hg.1.2⟩⟩
 have hargs1:zA (K1.cut w) w ds' vs:=by
  obtain ⟨f1,f2⟩:=vU hf
  refine ⟨hargs.1.trans f1,fun i d v hd hv=>?_⟩
  have hi:i<ds.length:=by rw [f1];exact (List.getElem?_eq_some_iff.1 hd).1
  exact (Ze hobj (fun hr=>hI.lt _ hr) (hargs.2 i ds[i] v (List.getElem?_eq_getElem hi) hv) d (f2 i _ _ (List.getElem?_eq_getElem hi) hd)).mono hm2
 have hI1:Inv (yZ K1 w g0 H0) (K1.cut w) (zd H0) w:=
  ⟨Ext.refl _ _,⟨fun m hm=>.inl hm,fun m hm _=>hm,fun m hm=>⟨hm,rfl⟩,fun g _=>Iff.rfl⟩,fun k p hp=>(hI.obj k p (xb hp)).mono hm1 id (fun _=>rfl),
   fun k k' p p' h1 h2 r1 r2 he=>hI.inj k k' p p' (xb h1) (xb h2) r1 r2 he,fun m hm=>hI.dr m hm,fun m hm=>hI.lt m hm,fun k p hp=>hI.dobj k p (xb hp),
   fun k p hp hr=>⟨⟨⟨(hI.own k p (xb hp) hr).1.1,fun q=>hne k p hp (hI.inj k H0.length p o (xb hp) ho hr q.1 q.2)⟩,hI.lt _ hr⟩,.inr ⟨k,p,hp,hr,rfl⟩⟩,fun g cs hg=>⟨fun ⟨k,p,q1,q2,q3⟩=>(hI.glob hg).1 (q3▸(hI.own k p (xb q1) q2).1),fun q=>(hI.glob hg).1 ⟨q.1.1,q.2⟩,(hI.glob hg).2⟩⟩
 refine (h.2 K1 w vs g0 hI1 hlt hargs1).mono ?_
 rintro e w' ⟨v,d,H1',rfl,⟨rfl,rfl⟩,hB,hv⟩
 have hWsub:∀g,(yZ K1 w g0 H0).W0 g→(yZ K w g0 (H0++[some o])).W0 g:=fun g ⟨k,p,hp,hr,he⟩=>⟨k,p,xb hp,hr,he⟩
 have hWo:K.real o.n→¬(yZ K1 w g0 H0).W0 (K.μ o.n):=fun hro ⟨k,p,hp,hr,he⟩=>hne k p hp (hI.inj k H0.length p o (xb hp) ho hr hro he)
 have hm:yF (K.cut w) w (K.cut w) w':=⟨hB.ext.weaken (fun g hg ⟨k,p,hp,hr,he⟩=>by
  have:=(hI.own k p (xb hp) hr).1
  rw [←he];exact this),fun n hn=>⟨hn,rfl⟩,fun g _ hg=>hg⟩
 have hrr:∀n,(K1.cut w).real n→(K.cut w).real n∧(K.cut w).μ n=(K1.cut w).μ n:=fun n hn=>⟨hn,rfl⟩
 have hget:∀k p,zd (H1'++[some o]) k=some p→(k<H1'.length∧zd H1' k=some p)∨(k=H0.length∧p=o):=fun k p hp=>by
  rcases pN o H1' k p hp with q|⟨q1,q2⟩
  ·exact .inl q
  ·exact .inr ⟨by rw [q1,hl],q2⟩
 have hsep:∀k p,k<H1'.length→zd H1' k=some p→K.real p.n→K.real o.n→K.μ p.n≠K.μ o.n:=fun k p hk hp hr hro he=>by
  rcases (hB.own k p hp hr).2 with q|q
  ·have:=hI.lt _ hr
   have q':w.heap.size≤K.μ p.n:=q
   have this':K.μ p.n<w.heap.size:=this
   omega
  ·have q':(yZ K1 w g0 H0).W0 (K.μ p.n):=q
   rw [he] at q'
   exact hWo hro q'
 refine ⟨v,d,H1'++[some o],rfl,⟨rfl,rfl⟩,⟨hB.ext.weaken (fun g _ hg=>hWsub g hg),⟨fun m hm=>.inl hm,fun m hm _=>hm,fun m hm=>⟨hm,rfl⟩,fun g _=>Iff.rfl⟩,fun k p hp=>?_,fun k1 k2 p1 p2 h1 h2 r1 r2 he=>?_,fun m hm=>hI.dr m hm,fun m hm=>Nat.lt_of_lt_of_le (hI.lt m hm) hB.ext.size,fun k p hp=>?_,fun k p hp hr=>?_,hI.gl⟩,hJ hrr hv hD⟩
 ·rcases hget k p hp with ⟨hk,hp⟩|⟨rfl,rfl⟩
  ·rcases hB.obj k p hp with ⟨q1,q2⟩|⟨q1,cs,t,frz,nfz,q2,q3,q4,q5⟩|⟨q1,q2,es,ck,q3,q4⟩
   ·exact .inl ⟨q1,q2⟩
   ·refine .inr (.inl ⟨q1,cs,t,frz,nfz,q2,q3,q4,fun i x j d hx hd=>?_⟩)
    obtain ⟨c,c1,c2⟩:=q5 i x j d hx hd
    exact ⟨c,c1,hJ hrr c2 (hH k p hp x (List.mem_of_getElem? hx) d (List.mem_of_getElem? hd))⟩
   ·exact .inr (.inr ⟨q1,q2,es,ck,q3,q4⟩)
  ·exact hobj.mono hm id (fun hr=>hB.ext.keep _ (hI.lt _ hr) (hWo hr))
 ·rcases hget k1 p1 h1 with ⟨a1,b1⟩|⟨a1,rfl⟩<;>rcases hget k2 p2 h2 with ⟨a2,b2⟩|⟨a2,rfl⟩
  ·exact hB.inj k1 k2 p1 p2 b1 b2 r1 r2 he
  ·exact absurd he (hsep k1 p1 a1 b1 r1 r2)
  ·exact absurd he.symm (hsep k2 p2 a2 b2 r2 r1)
  ·rw [a1,a2]
 ·rcases hget k p hp with ⟨_,hp⟩|⟨rfl,rfl⟩
  ·exact hB.dobj k p hp
  ·exact hI.dobj _ _ ho
 ·rcases hget k p hp with ⟨_,hp⟩|⟨rfl,rfl⟩
  ·have:=hB.own k p hp hr
   refine ⟨⟨this.1.1.1,this.1.2⟩,this.2.elim .inl (fun q=>.inr (hWsub _ q))⟩
  ·exact ⟨(hI.own _ _ ho hr).1,.inr ⟨_,_,ho,hr,rfl⟩⟩
section
variable {P:Program} {F:List XOp→St→List Rec→Prop} {r:List XOp} {st:St} {dst:Option Sl} {tr:List Rec}
theorem xp {f:FuncId} {ds ds':List DV} {D:DV} {o:zj} (j:Nat) (hj:zd st.H j=some o) (h1:zi P f ds' D) (hf:uQ o ds ds') (hD:noM D=true) (h2:F r ⟨uh st.tm dst D,xu st.H [(j,some o)],st.gen⟩ (⟨[j],[j]⟩::tr)):zF P F r st dst tr (.call f ds):=
 z_ j hj (Yt h1 rfl hf hD (fun k p hp=>by simp [zd] at hp)) (fun _ _ _ h=>h) h2
theorem wo {f:FuncId} {ds:List DV} {D D':DV} {o p o1 p1:Option zj} (j k:Nat) (hjk:j≠k) (hj:zd st.H j=o) (hk:zd st.H k=p) (h1:zE P f ds [o,p] (fun d H=>d=D∧H=[o1,p1])) (hD:∀K w v,ze K w D v→ze K w D' v) (h2:F r ⟨uh st.tm dst D',xu st.H [(j,o1),(k,p1)],st.gen⟩ (⟨[j,k],[j,k]⟩::tr)):zF P F r st dst tr (.call f ds):=by
 refine .inl ⟨[j,k],ds,D',[o1,p1],fun _ _ _ h=>h,by simp [hjk],rfl,⟨h1.1,fun K w vs g0 a b c=>?_⟩,h2⟩
 have e:yO st.H [j,k]=[o,p]:=by rw [←hj,←hk];rfl
 rw [e] at a ⊢
 refine (h1.2 K w vs g0 a b c).mono ?_
 rintro e w' ⟨v,d,H1,q1,⟨rfl,rfl⟩,q3,q4⟩
 exact ⟨v,D',[o1,p1],q1,⟨rfl,rfl⟩,q3,hD _ _ _ q4⟩
end
def pz (g:Nat) (ns:List Nat) (n a b:Nat):Prop:=(∃i,ns[i]?=some a∧b=n+i)∨(a<g∧b=a)
mutual
def yk (g:Nat) (ns:List Nat) (n:Nat):DV→DV→Prop
 |.agg cs,e=>match e with
  |.agg ds=>xI g ns n cs ds
  |_=>False
 |.tup cs,e=>match e with
  |.tup ds=>xI g ns n cs ds
  |_=>False
 |.sl k m sz lo len full,e=>∃k' m',pz g ns n m m'∧e=.sl k' m' sz lo len full
 |.slr k m sz len,e=>∃k' m',pz g ns n m m'∧e=.slr k' m' sz len
 |.ptr k m sz i j,e=>∃k' m',pz g ns n m m'∧e=.ptr k' m' sz i j
 |.mp k m,e=>∃k' m',pz g ns n m m'∧e=.mp k' m'
 |.tptr m sz T,e=>∃m',pz g ns n m m'∧e=.tptr m' sz T
 |.tsl k m len T,e=>∃k' m',pz g ns n m m'∧e=.tsl k' m' len T
 |d,e=>e=d∧nfD g d
def xI (g:Nat) (ns:List Nat) (n:Nat):List DV→List DV→Prop
 |[],l=>l=[]
 |d::r,l=>match l with
  |e::s=>yk g ns n d e∧xI g ns n r s
  |[]=>False
end
def vy (g:Nat) (ns:List Nat) (n:Nat):List (List DV)→List (List DV)→Prop
 |[],l=>l=[]
 |x::r,l=>match l with
  |y::s=>xI g ns n x y∧vy g ns n r s
  |[]=>False
def lU (g:Nat) (ns:List Nat) (n:Nat):HL→HL→Prop
 |[],l=>l=[]
 |none::r,l=>match l with
  |none::s=>lU g ns n r s
  |_=>False
 |some o::r,l=>match l with
  |some p::s=>(pz g ns n o.n p.n∧p.sz=o.sz∧vy g ns n o.xs p.xs)∧lU g ns n r s
  |_=>False
theorem vR {g n:Nat} {ns:List Nat}:∀ {cs ds:List DV},xI g ns n cs ds→cs.length=ds.length∧∀(i:Nat) (d e:DV),cs[i]?=some d→ds[i]?=some e→yk g ns n d e
 |[],l,h=>by
  simp only [xI] at h
  subst h
  exact ⟨rfl,fun i d e h=>by simp at h⟩
 |d::r,[],h=>by simp [xI] at h
 |d::r,e::s,h=>by
  simp only [xI] at h
  obtain ⟨h1,h2⟩:=vR h.2
  refine ⟨by simp [h1],fun i a b ha hb=>?_⟩
  cases i with
  |zero=>simp at ha hb;rw [←ha,←hb];exact h.1
  |succ i=>exact h2 i a b (by simpa using ha) (by simpa using hb)
theorem rS {g n:Nat} {ns:List Nat}:∀ {xs ys:List (List DV)},vy g ns n xs ys→xs.length=ys.length∧∀(i:Nat) (x y:List DV),xs[i]?=some x→ys[i]?=some y→xI g ns n x y
 |[],l,h=>by
  simp only [vy] at h
  subst h
  exact ⟨rfl,fun i d e h=>by simp at h⟩
 |d::r,[],h=>by simp [vy] at h
 |d::r,e::s,h=>by
  simp only [vy] at h
  obtain ⟨h1,h2⟩:=rS h.2
  refine ⟨by simp [h1],fun i a b ha hb=>?_⟩
  cases i with
  |zero=>simp at ha hb;rw [←ha,←hb];exact h.1
  |succ i=>exact h2 i a b (by simpa using ha) (by simpa using hb)
theorem mL {g n:Nat} {ns:List Nat}:∀ {H L:HL},lU g ns n H L→∀(i:Nat) (p:zj),zd L i=some p→∃o,zd H i=some o∧H[i]?=some (some o)∧pz g ns n o.n p.n∧p.sz=o.sz∧vy g ns n o.xs p.xs
 |[],l,h,i,p,hp=>by
  simp only [lU] at h
  subst h
  simp [zd] at hp
 |none::r,[],h,i,p,hp=>by simp [zd] at hp
 |none::r,some q::s,h,i,p,hp=>by simp [lU] at h
 |none::r,none::s,h,i,p,hp=>by
  simp only [lU] at h
  cases i with
  |zero=>simp [zd] at hp
  |succ i=>
   simp only [zd] at hp ⊢
   exact mL h i p hp
 |some o::r,[],h,i,p,hp=>by simp [zd] at hp
 |some o::r,none::s,h,i,p,hp=>by simp [lU] at h
 |some o::r,some q::s,h,i,p,hp=>by
  simp only [lU] at h
  cases i with
  |zero=>
   simp only [zd,Option.some.injEq] at hp ⊢
   subst hp
   exact ⟨o,rfl,rfl,h.1.1,h.1.2.1,h.1.2.2⟩
  |succ i=>
   simp only [zd] at hp ⊢
   exact mL h.2 i p hp
mutual
theorem Xx {g n:Nat} {ns:List Nat}:∀(d:DV),nfD g d→yk g ns n d d
 |.any,h=>by simp only [yk];exact ⟨trivial,h⟩
 |.bl,h=>by simp only [yk];exact ⟨trivial,h⟩
 |.ifc,h=>by simp only [yk];exact ⟨trivial,h⟩
 |.v x,h=>by simp only [yk];exact ⟨trivial,h⟩
 |.agg cs,h=>by simp only [yk,nfD] at h ⊢;exact p9 cs h
 |.tup cs,h=>by simp only [yk,nfD] at h ⊢;exact p9 cs h
 |.ptr k m sz i j,h=>by simp only [yk,nfD] at h ⊢;exact ⟨k,m,.inr ⟨h,rfl⟩,rfl⟩
 |.rptr x,h=>by simp only [yk];exact ⟨trivial,h⟩
 |.sl k m sz lo len full,h=>by simp only [yk,nfD] at h ⊢;exact ⟨k,m,.inr ⟨h,rfl⟩,rfl⟩
 |.slr k m sz len,h=>by simp only [yk,nfD] at h ⊢;exact ⟨k,m,.inr ⟨h,rfl⟩,rfl⟩
 |.snap sz xs c,h=>by simp only [yk];exact ⟨trivial,h⟩
 |.fn f a b,h=>by simp only [yk];exact ⟨trivial,h⟩
 |.mp k m,h=>by simp only [yk,nfD] at h ⊢;exact ⟨k,m,.inr ⟨h,rfl⟩,rfl⟩
 |.tptr m sz T,h=>by simp only [yk,nfD] at h ⊢;exact ⟨m,.inr ⟨h,rfl⟩,rfl⟩
 |.tsl k m len T,h=>by simp only [yk,nfD] at h ⊢;exact ⟨k,m,.inr ⟨h,rfl⟩,rfl⟩
 |.stamp m key,h=>by simp only [yk];exact ⟨trivial,h⟩
theorem p9 {g n:Nat} {ns:List Nat}:∀(l:List DV),nfL g l→xI g ns n l l
 |[],_=>by simp only [xI]
 |d::r,h=>by
  simp only [nfL,xI] at h ⊢
  exact ⟨Xx d h.1,p9 r h.2⟩
end
theorem zz {g n:Nat} {ns:List Nat}:∀(l:List (List DV)),yA g l→vy g ns n l l
 |[],_=>by simp only [vy]
 |d::r,h=>by
  simp only [yA,vy] at h ⊢
  exact ⟨p9 d h.1,zz r h.2⟩
theorem kh {K K0:Kr} {w:World} {g n:Nat} {ns:List Nat} (hr:∀n,K.real n→n<g→K0.real n∧K0.μ n=K.μ n) (hr1:∀i a,ns[i]?=some a→K.real a→K0.real (n+i)∧K0.μ (n+i)=K.μ a) (hM:∀b,b<w.heap.size→K0.M b→K.M b) {d:DV} {v:Value} (h:ze K w d v):∀e,yk g ns n d e→ze K0 w e v:=by
 have old:∀ {d v},ze K w d v→nfD g d→ze K0 w d v:=fun h hn=>tI hr hM h hn
 have hnm:∀m m',pz g ns n m m'→K.real m→K0.real m'∧K0.μ m'=K.μ m:=fun m m' h hre=>by
  rcases h with ⟨i,h1,rfl⟩|⟨h1,rfl⟩
  ·exact hr1 i m h1 hre
  ·exact hr _ hre h1
 induction h with
 |any x=>intro e he;simp only [yk] at he;obtain ⟨rfl,_⟩:=he;exact .any x
 |bl b=>intro e he;simp only [yk] at he;obtain ⟨rfl,_⟩:=he;exact .bl b
 |ifc t x=>intro e he;simp only [yk] at he;obtain ⟨rfl,_⟩:=he;exact .ifc t x
 |v x=>intro e he;simp only [yk] at he;obtain ⟨rfl,_⟩:=he;exact .v x
 |@agg ds cs hl h ih=>
  intro e he
  cases e with
  |agg es=>
   simp only [yk] at he
   obtain ⟨h1,h2⟩:=vR he
   refine .agg (hl.trans h1) fun i d c hd hc=>?_
   have hi:i<ds.length:=by rw [h1];exact (List.getElem?_eq_some_iff.1 hd).1
   exact ih i ds[i] c (List.getElem?_eq_getElem hi) hc d (h2 i _ _ (List.getElem?_eq_getElem hi) hd)
  |_=>simp [yk] at he
 |@tup ds cs hl h ih=>
  intro e he
  cases e with
  |tup es=>
   simp only [yk] at he
   obtain ⟨h1,h2⟩:=vR he
   refine .tup (hl.trans h1) fun i d c hd hc=>?_
   have hi:i<ds.length:=by rw [h1];exact (List.getElem?_eq_some_iff.1 hd).1
   exact ih i ds[i] c (List.getElem?_eq_getElem hi) hc d (h2 i _ _ (List.getElem?_eq_getElem hi) hd)
  |_=>simp [yk] at he
 |@ptr k m sz i j hreal hcl=>
  intro e he
  simp only [yk] at he
  obtain ⟨k',m',h1,rfl⟩:=he
  obtain ⟨q1,q2⟩:=hnm m m' h1 hreal
  rw [←q2]
  exact .ptr q1 (by rw [q2];exact hcl)
 |@mp k m hreal=>
  intro e he
  simp only [yk] at he
  obtain ⟨k',m',h1,rfl⟩:=he
  obtain ⟨q1,q2⟩:=hnm m m' h1 hreal
  rw [←q2]
  exact .mp q1
 |@tsl k m len T A cap hlc h=>
  intro e he
  simp only [yk] at he
  obtain ⟨k',m',h1,rfl⟩:=he
  refine .tsl hlc ?_
  rcases h with h|⟨hreal,hA,rest⟩
  ·exact .inl h
  ·obtain ⟨q1,q2⟩:=hnm m m' h1 hreal
   exact .inr ⟨q1,by rw [q2];exact hA,by rw [q2];exact rest⟩
 |@tptr m sz T hreal hc=>
  intro e he
  simp only [yk] at he
  obtain ⟨m',h1,rfl⟩:=he
  obtain ⟨q1,q2⟩:=hnm m m' h1 hreal
  rw [←q2]
  exact .tptr q1 (by rw [q2];exact hc)
 |stamp hreal h=>intro e he;simp only [yk] at he;obtain ⟨rfl,hn⟩:=he;exact old (.stamp hreal h) hn
 |rptr f h1 h2 h3 h4 h5=>intro e he;simp only [yk] at he;obtain ⟨rfl,hn⟩:=he;exact old (.rptr f h1 h2 h3 h4 h5) hn
 |@sl k m sz lo len full A cap hlc hf h=>
  intro e he
  simp only [yk] at he
  obtain ⟨k',m',h1,rfl⟩:=he
  refine .sl hlc hf ?_
  rcases h with h|⟨hreal,hA,rest⟩
  ·exact .inl h
  ·obtain ⟨q1,q2⟩:=hnm m m' h1 hreal
   exact .inr ⟨q1,by rw [q2];exact hA,by rw [q2];exact rest⟩
 |@slr k m sz len cap hlc hreal h=>
  intro e he
  simp only [yk] at he
  obtain ⟨k',m',h1,rfl⟩:=he
  obtain ⟨q1,q2⟩:=hnm m m' h1 hreal
  rw [←q2]
  exact .slr hlc q1 (by rw [q2];exact h)
 |snap f h1 h2 h3 h4 h5 h6 h7=>intro e he;simp only [yk] at he;obtain ⟨rfl,hn⟩:=he;exact old (.snap f h1 h2 h3 h4 h5 h6 h7) hn
 |fn h1 h2 h3 h4=>intro e he;simp only [yk] at he;obtain ⟨rfl,hn⟩:=he;exact old (.fn h1 h2 h3 h4) hn
def ZA (xr:List XR) (g0 m c:Nat) (R:Nat→DV→HL→Prop) (st:St):Prop:=
 xB st xr∧∃ (kx ns:List Nat) (D:Nat→DV) (L:Nat→HL),kx.Nodup∧ns.length=c∧(∀a∈ns,∃k o,zd st.H k=some o∧o.n=a)∧
  ∀n,yk g0 ns n (wA (yn st xr)) (D n)∧lU g0 ns n (yO st.H kx) (L n)∧R n (D n) (L n)
def qX (Γ:Gm) (xr:List XR) (m c:Nat) (R:Nat→DV→HL→Prop) (st:St):Prop:=∃st',LeG Γ st st'∧ZA xr Γ.g0 m c R st'
theorem aR {Γ:Gm} {xr:List XR} {m c:Nat} {R:Nat→DV→HL→Prop} {st:St} (h:ZA xr Γ.g0 m c R st):qX Γ xr m c R st:=⟨st,fun N K a w h=>⟨K,h⟩,h⟩
theorem wJ {Γ:Gm} {xr:List XR} {m c:Nat} {R:Nat→DV→HL→Prop} {st st':St} (h1:LeG Γ st st') (h2:qX Γ xr m c R st'):qX Γ xr m c R st:=by
 obtain ⟨s,q1,q2⟩:=h2
 exact ⟨s,fun N K a w h=>by
  obtain ⟨K',h'⟩:=h1 N K a w h
  exact q1 N K' a w h',q2⟩
theorem ko:∀(ks:List Nat) (H:HL) (i:Nat) (o:Option zj),(yO H ks)[i]?=some o→∃k,ks[i]?=some k∧zd H k=o
 |[],H,i,o,h=>by simp [yO] at h
 |k::r,H,0,o,h=>⟨k,rfl,by simpa [yO] using h⟩
 |k::r,H,i+1,o,h=>by
  simp only [yO,List.getElem?_cons_succ] at h ⊢
  exact ko r H i o h
theorem fD {g n:Nat} {ns:List Nat} {xs ys:List (List DV)} (h:vy g ns n xs ys) (hp:∀x∈xs,∀d∈x,(∃v,d=.v v)∨d=.bl):ys=xs:=by
 obtain ⟨h1,h2⟩:=rS h
 refine List.ext_getElem? fun i=>?_
 rcases Nat.lt_or_ge i xs.length with hi|hi
 ·have hi':i<ys.length:=by omega
  rw [List.getElem?_eq_getElem hi,List.getElem?_eq_getElem hi']
  obtain ⟨q1,q2⟩:=vR (h2 i _ _ (List.getElem?_eq_getElem hi) (List.getElem?_eq_getElem hi'))
  refine congrArg some (List.ext_getElem? fun j=>?_)
  rcases Nat.lt_or_ge j xs[i].length with hj|hj
  ·have hj':j<ys[i].length:=by omega
   rw [List.getElem?_eq_getElem hj,List.getElem?_eq_getElem hj']
   have:=q2 j _ _ (List.getElem?_eq_getElem hj) (List.getElem?_eq_getElem hj')
   rcases hp _ (List.getElem_mem hi) _ (List.getElem_mem hj) with ⟨v,e⟩|e
   ·rw [e] at this ⊢
    simp only [yk] at this
    rw [this.1]
   ·rw [e] at this ⊢
    simp only [yk] at this
    rw [this.1]
  ·rw [List.getElem?_eq_none hj,List.getElem?_eq_none (by omega)]
 ·rw [List.getElem?_eq_none hi,List.getElem?_eq_none (by omega)]
theorem fG {K:Kr} {w:World} {o:zj} (h:jk K w o):∀x∈o.xs,∀d∈x,(∃v,d=.v v)∨d=.bl:=by
 obtain ⟨_,_,es,ck,_,h|⟨z,s,r,h,hl⟩⟩:=h
 ·intro x hx d hd
  rw [h] at hx
  obtain ⟨e,_,rfl⟩:=List.mem_map.1 hx
  simp only [uk,List.mem_cons,List.not_mem_nil,or_false] at hd
  rcases hd with rfl|rfl<;>exact .inl ⟨_,rfl⟩
 ·intro x hx d hd
  rw [h] at hx
  rcases List.mem_cons.1 hx with rfl|hx
  ·simp only [List.mem_cons,List.not_mem_nil,or_false] at hd
   rcases hd with rfl|rfl|rfl
   ·exact .inr rfl
   ·exact .inl ⟨_,rfl⟩
   ·exact .inl ⟨_,rfl⟩
  ·obtain ⟨a,b,rfl,_⟩:=hl.rows x hx
   simp only [List.mem_cons,List.not_mem_nil,or_false] at hd
   rcases hd with rfl|rfl<;>exact .inl ⟨_,rfl⟩
theorem Yz {P:Program} {f:FuncId} {fn:Func} {cd:Code} {x:XC} {xr:List XR} {ds:List DV} {H0:HL} {c:Nat} {R:Nat→DV→HL→Prop} (hf:P.funcs[f]?=some fn) (hb:fn.body=some cd) (hok:okC P fn.ntmps cd x=true) (hxr:lm P fn.results.toList xr=true) (hN:ds.length≤fn.ntmps) (hg:tM P f=true)
  (hgo:∀Γ:Gm,(H0=[]→∀g,¬Γ.W0 g)→(∀k o,zd H0 k=some o→o.n<Γ.g0)→(∀g,Γ.W0 g→∃k o,zd H0 k=some o∧Γ.K0.real o.n∧Γ.K0.μ o.n=g)→Go Γ P fn.ntmps (qX Γ xr H0.length c R) x [] ⟨vw ds xc wN,H0,Γ.g0⟩):xt P f ds H0 c R:=by
 refine ⟨hg,?_⟩
 intro K w vs g0 hI hg hargs
 refine calls_of_wp hf hb ?_
 have hfr:∀n,(K.cut w).dom n→n<g0:=hg
 have hR:Rel (yZ K w g0 H0) fn.ntmps ⟨vw ds xc wN,H0,g0⟩ (K.cut w) { tmps:=vs++Array.replicate (fn.ntmps-vs.size) undef,defers:=[] } w:=by
  refine ⟨hI,hfr,Nat.le_refl _,by simp [hargs.1];omega,rfl,?_⟩
  refine rf ds xc wN (fun s=>by rw [mK];exact .any _) (fun i d s hd hs=>?_)
  have e:=rV i s hs
  have hi:i<vs.size:=by rw [hargs.1];exact (List.getElem?_eq_some_iff.1 hd).1
  have:(vs++Array.replicate (fn.ntmps-vs.size) undef).getD s.nat undef=vs[i]:=by
   rw [e,Array.getD_eq_getD_getElem?,Array.getElem?_append_left hi,Array.getElem?_eq_getElem hi]
   rfl
  rw [this]
  exact hargs.2 i d _ hd (Array.getElem?_eq_getElem hi)
 have hW:H0=[]→∀g,¬(yZ K w g0 H0).W0 g:=by
  rintro rfl g ⟨k,o,h,_⟩
  simp [zd] at h
 refine wp_mono (hgo (yZ K w g0 H0) hW (fun k o h=>hg _ (hI.dobj k o h)) (fun g h=>h) cd hok _ _ _ hR) ?_
 have hfin:∀(a':Act) (w':World) (st':St) (K':Kr),Rel (yZ K w g0 H0) fn.ntmps st' K' a' w'→qX (yZ K w g0 H0) xr H0.length c R st'→a'.defers=[]∧∃v,(results fn a'.tmps).run P w'=.ok v w'∧
   ∃v1,Ending.returned v=.returned v1∧∀n,(∀m,n≤m→m<n+c→¬K.dom m)→∃ (K2:Kr) (d:DV) (H1:HL),R n d H1∧(∀m,K2.dom m↔K.dom m∨(n≤m∧m<n+c))∧(∀m,K2.real m→K.real m∨(n≤m∧m<n+c))∧Inv (yZ K w n H0) K2 (zd H1) w'∧ze K2 w' d v1:=by
  intro a' w' st0' K0' hR0' hret
  obtain ⟨st',hle,r1,kx,ns,D,L,q1,q2,q3,q5⟩:=hret
  obtain ⟨K',hR'⟩:=hle fn.ntmps K0' a' w' hR0'
  obtain ⟨v,e1,e2⟩:=sJ hR' hxr r1
  refine ⟨hR'.defers,v,e1,v,rfl,fun n hn=>?_⟩
  have hb:=hR'.inv.base
  have hI':=hR'.inv
  have hnr:∀m,n≤m→m<n+c→¬K.real m:=fun m h1 h2 h=>hn m h1 h2 (hI.dr m h)
  let K2:Kr:=⟨fun m=>K.dom m∨(n≤m∧m<n+c),fun m=>K.real m∨(n≤m∧∃a,ns[m-n]?=some a∧K'.real a),fun m=>if n≤m∧m<n+c then K'.μ (ns.getD (m-n) 0) else K.μ m,fun g=>(K.cut w).M g∨∃a,a∈ns∧K'.real a∧g=K'.μ a⟩
  have hin:∀(i a:Nat),ns[i]?=some a→i<c:=fun i a h=>by rw [←q2];exact (List.getElem?_eq_some_iff.1 h).1
  have hμ:∀m,K.real m→K2.μ m=K.μ m:=fun m h=>by
   show (if n≤m∧m<n+c then K'.μ (ns.getD (m-n) 0) else K.μ m)=K.μ m
   rw [if_neg (fun q=>hnr m q.1 q.2 h)]
  have hreal:∀m,K'.real m→m<g0→K2.real m∧K2.μ m=K'.μ m:=fun m h1 h2=>by
   have h3:K.real m:=hb.old m h1 h2
   exact ⟨.inl h3,(hμ m h3).trans (hb.keep m h3).2.symm⟩
  have hreal1:∀i a,ns[i]?=some a→K'.real a→K2.real (n+i)∧K2.μ (n+i)=K'.μ a:=fun i a h h1=>by
   have hi:=hin i a h
   refine ⟨.inr ⟨by omega,a,by rw [Nat.add_sub_cancel_left];exact h,h1⟩,?_⟩
   show (if n≤n+i∧n+i<n+c then K'.μ (ns.getD (n+i-n) 0) else K.μ (n+i))=K'.μ a
   rw [if_pos ⟨by omega,by omega⟩,Nat.add_sub_cancel_left,List.getD_eq_getElem?_getD,h]
   rfl
  have hown1:∀a,a∈ns→K'.real a→K'.M (K'.μ a)∧(w.heap.size≤K'.μ a∨(yZ K w g0 H0).W0 (K'.μ a)):=fun a ha h=>by
   obtain ⟨k,o,ho,rfl⟩:=q3 a ha
   exact hI'.own k o ho h
  have hM:∀b,b<w'.heap.size→K2.M b→K'.M b:=fun b _ h=>by
   rcases h with h|⟨a,h1,h2,rfl⟩
   ·exact (hb.M b h.2).2 h
   ·exact (hown1 a h1 h2).1
  obtain ⟨u1,u2,u3⟩:=q5 n
  have hget:∀i p,zd (L n) i=some p→∃k o,kx[i]?=some k∧zd st'.H k=some o∧pz g0 ns n o.n p.n∧p.sz=o.sz∧vy g0 ns n o.xs p.xs:=fun i p h=>by
   obtain ⟨o,_,h2,h3,h4,h5⟩:=mL u2 i p h
   obtain ⟨k,hk1,hk2⟩:=ko _ _ _ _ h2
   exact ⟨k,o,hk1,hk2,h3,h4,h5⟩
  have hold:∀k o,zd st'.H k=some o→o.n<g0→K.dom o.n:=fun k o ho hlt=>by
   rcases hb.dom _ (hI'.dobj k o ho) with h|h
   ·exact h
   ·exact absurd hlt (by
     have h':g0≤o.n:=h
     omega)
  have hA:∀k o b,zd st'.H k=some o→pz g0 ns n o.n b→K'.real o.n→K2.real b∧K2.μ b=K'.μ o.n:=fun k o b ho hren hr=>by
   rcases hren with ⟨i,h1,rfl⟩|⟨h1,rfl⟩
   ·exact hreal1 i _ h1 hr
   ·exact hreal _ hr h1
  have hB:∀k o b,zd st'.H k=some o→pz g0 ns n o.n b→K2.real b→K'.real o.n:=fun k o b ho hren hr=>by
   rcases hren with ⟨i,h1,rfl⟩|⟨h1,rfl⟩
   ·have hi:=hin i _ h1
    rcases hr with h|⟨_,a,h2,h3⟩
    ·exact absurd h (hnr _ (by omega) (by omega))
    ·rw [Nat.add_sub_cancel_left,h1] at h2
     obtain rfl:=Option.some.inj h2
     exact h3
   ·rcases hr with h|⟨h2,a,h3,_⟩
    ·exact (hb.keep _ h).1
    ·have hi:=hin _ _ h3
     exact absurd (hold k o ho h1) (hn _ h2 (by omega))
  refine ⟨K2,D n,_,u3,fun m=>Iff.rfl,fun m h=>?_,?_,kh hreal hreal1 hM e2 _ u1⟩
  ·rcases h with h|⟨h,a,h2,_⟩
   ·exact .inl h
   ·have:=hin _ _ h2
    exact .inr ⟨h,by omega⟩
  ·refine ⟨hI'.ext,⟨fun m h=>?_,fun m h hlt=>?_,fun m h=>⟨.inl h,hμ m h⟩,fun g hg=>?_⟩,fun i p hp=>?_,fun i1 i2 p1 p2 h1 h2 r1' r2' he=>?_,fun m h=>?_,fun m h=>?_,fun i p hp=>?_,fun i p hp hr=>?_,hI'.gl⟩
   ·rcases h with h|h
    ·exact .inl h
    ·exact .inr h.1
   ·rcases h with h|⟨h,_⟩
    ·exact h
    ·have hlt':m<n:=hlt
     omega
   ·constructor
    ·rintro (h|⟨a,h1,h2,rfl⟩)
     ·exact h
     ·exact (hb.M _ hg).1 (hown1 a h1 h2).1
    ·exact fun h=>.inl h
   ·obtain ⟨k,o,_,ho,hren,hsz,hxs⟩:=hget i p hp
    obtain ⟨l1,l2⟩:=rS hxs
    rcases hI'.obj k o ho with ⟨v1,v2⟩|⟨v1,cs,t,frz,nfz,v2,v3,v4,v5⟩|⟨v1,v2,es,ck,v3,v4⟩
    ·refine .inl ⟨fun h=>v1 (hB k o _ ho hren h),?_⟩
     rw [v2] at l1
     exact List.length_eq_zero_iff.1 l1.symm
    ·obtain ⟨a1,a2⟩:=hA k o _ ho hren v1
     refine .inr (.inl ⟨a1,cs,t,frz,by rw [hsz];exact nfz,by rw [a2];exact v2,by rw [←l1,hsz];exact v3,fun x hx=>?_,fun i x j d hx hd=>?_⟩)
     ·obtain ⟨i,hi⟩:=List.getElem?_of_mem hx
      have hio:i<o.xs.length:=by rw [l1];exact (List.getElem?_eq_some_iff.1 hi).1
      have:=vR (l2 i _ _ (List.getElem?_eq_getElem hio) hi)
      rw [←this.1,hsz]
      exact v4 _ (List.getElem_mem hio)
     ·have hio:i<o.xs.length:=by rw [l1];exact (List.getElem?_eq_some_iff.1 hx).1
      have hq:=vR (l2 i _ _ (List.getElem?_eq_getElem hio) hx)
      have hjo:j<o.xs[i].length:=by rw [hq.1];exact (List.getElem?_eq_some_iff.1 hd).1
      obtain ⟨c',c1,c2⟩:=v5 i _ j _ (List.getElem?_eq_getElem hio) (List.getElem?_eq_getElem hjo)
      exact ⟨c',by rw [hsz];exact c1,kh hreal hreal1 hM c2 _ (hq.2 j _ _ (List.getElem?_eq_getElem hjo) hd)⟩
    ·obtain ⟨a1,a2⟩:=hA k o _ ho hren v1
     have hpl:=fD hxs (fG ⟨v1,v2,es,ck,v3,v4⟩)
     exact .inr (.inr ⟨a1,by rw [hsz];exact v2,es,ck,by rw [a2];exact v3,by rw [hpl];exact v4⟩)
   ·obtain ⟨k1,o1,hk1,ho1,hren1,_,_⟩:=hget i1 p1 h1
    obtain ⟨k2,o2,hk2,ho2,hren2,_,_⟩:=hget i2 p2 h2
    have z1:=hB k1 o1 _ ho1 hren1 r1'
    have z2:=hB k2 o2 _ ho2 hren2 r2'
    have hkk:=hI'.inj k1 k2 o1 o2 ho1 ho2 z1 z2 ((hA k1 o1 _ ho1 hren1 z1).2.symm.trans (he.trans (hA k2 o2 _ ho2 hren2 z2).2))
    subst hkk
    have l1:=(List.getElem?_eq_some_iff.1 hk1).1
    have l2:=(List.getElem?_eq_some_iff.1 hk2).1
    exact (List.getElem_inj (h₀:=l1) (h₁:=l2) q1).1 (by rw [(List.getElem?_eq_some_iff.1 hk1).2,(List.getElem?_eq_some_iff.1 hk2).2])
   ·rcases h with h|⟨h,a,h2,_⟩
    ·exact .inl (hI.dr m h)
    ·have:=hin _ _ h2
     exact .inr ⟨h,by omega⟩
   ·rcases h with h|⟨h,a,h2,h3⟩
    ·rw [hμ m h]
     have:=hb.keep m h
     have e:K'.μ m=K.μ m:=this.2
     rw [←e]
     exact hI'.lt m this.1
    ·have e:=(hreal1 _ _ h2 h3).2
     rw [Nat.add_sub_cancel' h] at e
     rw [e]
     exact hI'.lt _ h3
   ·obtain ⟨k,o,_,ho,hren,_,_⟩:=hget i p hp
    rcases hren with ⟨j,h1,h2⟩|⟨h1,h2⟩
    ·have:=hin j _ h1
     rw [h2]
     exact .inr ⟨by omega,by omega⟩
    ·rw [h2]
     exact .inl (hold k o ho h1)
   ·obtain ⟨k,o,_,ho,hren,_,_⟩:=hget i p hp
    have z:=hB k o _ ho hren hr
    have e:=(hA k o _ ho hren z).2
    rw [e]
    have ho':=hI'.own k o ho z
    refine ⟨?_,ho'.2⟩
    rcases hren with ⟨j,h1,h2⟩|⟨h1,h2⟩
    ·exact .inr ⟨_,List.mem_of_getElem? h1,z,rfl⟩
    ·have hK:K.real o.n:=hb.old _ z h1
     have hlt:K.μ o.n<w.heap.size:=hI.lt _ hK
     have e3:K'.μ o.n=K.μ o.n:=(hb.keep _ hK).2
     rw [e3] at ho' ⊢
     exact .inl ((hb.M _ hlt).1 ho'.1)
 rintro e a' w' ⟨st',K',hR',hq⟩
 cases e with
 |normal=>exact hfin a' w' st' K' hR' hq
 |ret=>exact hfin a' w' st' K' hR' hq
 |exit i=>exact hq.elim
 |goto l=>exact hq.elim
 |panic ch=>exact hq.elim
 |outgrown=>exact hq.elim
theorem gE {P:Program} {f:FuncId} {fn:Func} {x:XC} {xr:List XR} {ds:List DV} {H0:HL} {c:Nat} {R:Nat→DV→HL→Prop} (hf:P.funcs[f]?=some fn) (hk:okF P f fn x xr=true)
  (hgo:∀Γ:Gm,(H0=[]→∀g,¬Γ.W0 g)→(∀k o,zd H0 k=some o→o.n<Γ.g0)→(∀g,Γ.W0 g→∃k o,zd H0 k=some o∧Γ.K0.real o.n∧Γ.K0.μ o.n=g)→Go Γ P fn.ntmps (qX Γ xr H0.length c R) x [] ⟨vw ds xc wN,H0,Γ.g0⟩) (hN:Nat.ble ds.length fn.ntmps=true:=by rfl):xt P f ds H0 c R:=
 Yz hf (wa hk).2.2.2 (wa hk).1 (wa hk).2.1 (Nat.le_of_ble_eq_true hN) (wa hk).2.2.1 hgo
theorem ww {Γ:Gm} {xr:List XR} {m c:Nat} {D:Nat→DV} {L:Nat→HL} {st:St} (kx ns:List Nat) (h1:xB st xr) (h2:kx.Nodup) (h3:ns.length=c) (h4:∀a∈ns,∃k o,zd st.H k=some o∧o.n=a)
  (h5:∀n,yk Γ.g0 ns n (wA (yn st xr)) (D n)) (h6:∀n,lU Γ.g0 ns n (yO st.H kx) (L n)):qX Γ xr m c (fun n d H=>d=D n∧H=L n) st:=
 aR ⟨h1,kx,ns,D,L,h2,h3,h4,fun n=>⟨h5 n,h6 n,rfl,rfl⟩⟩
theorem oc:∀(xs:List (List DV)) (i:Nat) (x:List DV),ux xs i x=xs.set i x
 |[],_,_=>rfl
 |_::_,0,_=>rfl
 |_::r,i+1,x=>by simp [ux,oc r i x]
theorem X9 {α:Type} (f:α→List DV) (l:List α) (i:Nat) (a:α):ux (l.map f) i (f a)=(l.set i a).map f:=by
 rw [oc,List.map_set]
theorem vn {st:St} {o:zj} (k k':Nat) (ho:zd st.H k=some o) (hk:k'≠k→zd st.H k'=none):Le st ⟨st.tm,y4 (y4 st.H k none) k' (some o),st.gen⟩:=by
 intro Γ N K a w hR
 refine ⟨K,?_,hR.fresh,hR.g0,hR.size,hR.defers,hR.tm⟩
 have hI:=hR.inv
 have hg:∀j p,zd (y4 (y4 st.H k none) k' (some o)) j=some p→∃j',zd st.H j'=some p∧((j=k'∧j'=k)∨(j=j'∧j≠k'∧j≠k)):=by
  intro j p hp
  rw [zY] at hp
  by_cases e:j=k'
  ·rw [if_pos e] at hp
   obtain rfl:=Option.some.inj hp
   exact ⟨k,ho,.inl ⟨e,rfl⟩⟩
  ·rw [if_neg e,zY] at hp
   by_cases e2:j=k
   ·rw [if_pos e2] at hp;cases hp
   ·rw [if_neg e2] at hp
    exact ⟨j,hp,.inr ⟨rfl,e,e2⟩⟩
 refine ⟨hI.ext,hI.base,fun j p hp=>?_,fun j1 j2 p1 p2 h1 h2 r1 r2 he=>?_,hI.dr,hI.lt,fun j p hp=>?_,fun j p hp hr=>?_,hI.gl⟩
 ·obtain ⟨j',h,_⟩:=hg j p hp
  exact hI.obj j' p h
 ·obtain ⟨i1,q1,c1⟩:=hg j1 p1 h1
  obtain ⟨i2,q2,c2⟩:=hg j2 p2 h2
  have:=hI.inj i1 i2 p1 p2 q1 q2 r1 r2 he
  rcases c1 with ⟨a1,b1⟩|⟨a1,b1,d1⟩<;>rcases c2 with ⟨a2,b2⟩|⟨a2,b2,d2⟩
  ·rw [a1,a2]
  ·exact absurd (a2.trans (this.symm.trans b1)) d2
  ·exact absurd (a1.trans (this.trans b2)) d1
  ·rw [a1,a2,this]
 ·obtain ⟨j',h,_⟩:=hg j p hp
  exact hI.dobj j' p h
 ·obtain ⟨j',h,_⟩:=hg j p hp
  exact hI.own j' p h hr
end Go.Proofs.YtaiileiodjicpaaGreatDoor
