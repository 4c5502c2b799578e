import Derived.Test.YtaiileiodjicpaaGreatDoorTt46
import Derived.Test.YtaiileiodjicpaaGreatDoorTt45
set_option linter.unusedVariables false
set_option linter.unusedSimpArgs false
namespace Go.Proofs.YtaiileiodjicpaaGreatDoor.R
attribute [local irreducible] zF Go
set_option maxRecDepth 100000
def uz (ws:List W8):W8:=zX ws++[10]
def wk (r:Rl):List W8:=[pw r.ps,ry r.fa r.fl,ry r.ta r.tl,dI r.pr,rC r.fp r.fq,rC r.tp r.tq]
def tx1 (p:Pl):W8:=uz [yT,xh p.ou.toNat]
def tx2 (p:Pl):W8:=tx1 p++uz [zJ,dI p.lt,dI p.st]
def tx3 (p:Pl):W8:=tx2 p++uz [y7,dI p.lf]
def tx4 (p:Pl):W8:=tx3 p++uz [y6,dI p.ra,dI p.mo]
def txR (p:Pl) (l:List Rl):W8:=tx4 p++(l.map fun r=>uz (wk r)).flatten
def vC (p:Pl):W8:=txR p p.rs++uz [y5,pw p.el]
theorem Yl (p:Pl) (l:List Rl) (r:Rl):txR p (l++[r])=txR p l++uz (wk r):=by simp [txR]
theorem vc:∀(ws:List W8),(zX ws).length≤(ws.map (fun w=>w.length+1)).sum
 |[]=>by simp [zX,Lib.join,List.intercalate,List.intersperse]
 |[x]=>by simp [zX,Lib.join,List.intercalate,List.intersperse]
 |x::y::r=>by
  have h:=vc (y::r)
  have e:zX (x::y::r)=x++[32]++zX (y::r):=by simp [zX,Lib.join,List.intercalate,List.intersperse]
  rw [e]
  simp only [List.length_append,List.length_singleton,List.map_cons,List.sum_cons] at h ⊢
  omega
theorem Y6 (b:Bool):(pw b).length=4:=by cases b<;>rfl
theorem rk {p:Pl} (hp:p.wf) (h:plE p=0):(0≤p.ou∧p.ou<4294967296)∧(64≤p.lt∧p.lt≤65472)∧(64≤p.st∧p.st≤65472)∧(1≤p.lf∧p.lf≤1000000)∧(0≤p.ra∧p.ra≤1000000)∧(1≤p.mo∧p.mo≤1000000000)∧p.rs.length≤64∧(∀r∈p.rs,rOk r=true∧r.wf):=by
 unfold plE at h
 split at h
 ·rename_i hk
  unfold WU A.pOk at hk
  simp only [Bool.and_eq_true,decide_eq_true_eq] at hk
  obtain ⟨h1,h2⟩:=dE h
  exact ⟨hp.1,⟨hk.1.1,hk.1.2.1⟩,⟨hk.2.1.1,hk.2.1.2.1⟩,hk.2.2.1,hk.2.2.2.1,hk.2.2.2.2,h1,fun r hr=>⟨h2 r hr,hp.2 r hr⟩⟩
 ·cases h
structure RlF (r:Rl):Prop where
 (fa:0≤r.fa∧r.fa<4294967296) (fl:0≤r.fl∧r.fl≤1000000000) (ta:0≤r.ta∧r.ta<4294967296) (tl:0≤r.tl∧r.tl≤1000000000) (pr:0≤r.pr∧r.pr≤1000000000)
 (fp:0≤r.fp∧r.fp≤1000000000) (fq:0≤r.fq∧r.fq≤1000000000) (tp:0≤r.tp∧r.tp≤1000000000) (tq:0≤r.tq∧r.tq≤1000000000)
theorem rlF {r:Rl} (h:rOk r=true∧r.wf):RlF r:=by
 obtain ⟨⟨h1,h2⟩,h3,h4,h5⟩:=kl h.1
 have b1:=qU h1
 have b2:=qU h2
 exact ⟨h.2.1,by omega,h.2.2,by omega,by omega,by omega,by omega,by omega,by omega⟩
theorem Y0 {r:Rl} (h:RlF r):(uz (wk r)).length≤200:=by
 have l1:=rc r.fa.toNat
 have l2:=rc r.ta.toNat
 have l3:=xU _ h.fl
 have l4:=xU _ h.tl
 have l5:=xU _ h.pr
 have l6:=xU _ h.fp
 have l7:=xU _ h.fq
 have l8:=xU _ h.tp
 have l9:=xU _ h.tq
 have l0:=Y6 r.ps
 have:=vc (wk r)
 unfold uz
 unfold wk ry rC at this ⊢
 simp only [List.map_cons,List.map_nil,List.sum_cons,List.sum_nil,List.length_append,List.length_singleton] at this ⊢
 omega
theorem cI {p:Pl} (hp:p.wf) (h:plE p=0):(tx1 p).length≤(tx4 p).length∧(tx2 p).length≤(tx4 p).length∧(tx3 p).length≤(tx4 p).length∧(tx4 p).length≤500:=by
 obtain ⟨h1,h2,h3,h4,h5,h6,-⟩:=rk hp h
 have l1:=rc p.ou.toNat
 have l2:=xU p.lt (by omega)
 have l3:=xU p.st (by omega)
 have l4:=xU p.lf (by omega)
 have l5:=xU p.ra (by omega)
 have l6:=xU p.mo (by omega)
 have j1:=vc [yT,xh p.ou.toNat]
 have j2:=vc [zJ,dI p.lt,dI p.st]
 have j3:=vc [y7,dI p.lf]
 have j4:=vc [y6,dI p.ra,dI p.mo]
 unfold tx4 tx3 tx2 tx1 uz
 simp only [List.map_cons,List.map_nil,List.sum_cons,List.sum_nil,List.length_append,List.length_singleton,List.length_cons,List.length_nil] at j1 j2 j3 j4 ⊢
 omega
theorem cB {p:Pl} (hp:p.wf) (h:plE p=0) (l:List Rl) (hl:∀r∈l,r∈p.rs):(txR p l).length≤500+200*l.length:=by
 have h4:=(cI hp h).2.2.2
 have hr:=(rk hp h).2.2.2.2.2.2.2
 have:∀l:List Rl,(∀r∈l,r∈p.rs)→((l.map fun r=>uz (wk r)).flatten).length≤200*l.length:=fun l=>by
  induction l with
  |nil=>intro _;simp
  |cons r l ih=>
   intro hl
   have i:=ih (fun x hx=>hl x (by simp [hx]))
   have:=Y0 (rlF (hr r (hl r (by simp))))
   simp only [List.map_cons,List.flatten_cons,List.length_append,List.length_cons]
   omega
 have:=this l hl
 unfold txR
 rw [List.length_append]
 omega
set_option maxHeartbeats 4000000 in
theorem aU (p:Pl) (c:Bool) (hp:p.wf) (he:plE p=0):zi Tryz.prog 4 [dPl p c] (.tup [.v (.string (mkS (vC p))),.v (.int .i64 0)]):=by
 obtain ⟨f1,f2,f3,f4,f5,f6,f7,f8⟩:=rk hp he
 obtain ⟨k1,k2,k3,k4⟩:=cI hp he
 have hchk:=xJ p c hp (by unfold maxLen;omega)
 rw [he] at hchk
 have s1:=V_ p.ou f1
 have s2:=qY p.lt (by omega)
 have s3:=qY p.st (by omega)
 have s4:=qY p.lf (by omega)
 have s5:=qY p.ra (by omega)
 have s6:=qY p.mo (by omega)
 have w1:=fun nb bn an=>dl nb bn an 2 (a:=.v (.pointer none)) (.inl rfl) (l:=[]) (t:=tx1 p) yT (xh p.ou.toNat) rfl (by omega)
 have w2:=fun nb bn an=>Yq nb bn an 3 (a:=.tptr nb 2 xA) (.inr rfl) (l:=tx1 p) (t:=tx2 p) zJ (dI p.lt) (dI p.st) rfl (by omega)
 have w3:=fun nb bn an=>dl nb bn an 4 (a:=.tptr nb 2 xA) (.inr rfl) (l:=tx2 p) (t:=tx3 p) y7 (dI p.lf) rfl (by omega)
 have w4:=fun nb bn an=>Yq nb bn an 5 (a:=.tptr nb 2 xA) (.inr rfl) (l:=tx3 p) (t:=tx4 p) y6 (dI p.ra) (dI p.mo) rfl (by omega)
 refine z7 {bld:=58} 0 Tryz.func4 fun Γ hW=>auC ?_
 repeat' first|(first|(refine vD (Vy 1 9 (by decide) rfl) ?_)|(refine vD (vn 10 9 rfl (fun _=>rfl)) ?_))|refine auS ?_|(first|(with_reducible refine z6 hchk ?_)|(with_reducible refine z6 s1 ?_)|(with_reducible refine z6 s2 ?_)|(with_reducible refine z6 s3 ?_)|(with_reducible refine z6 s4 ?_)|(with_reducible refine z6 s5 ?_)|(with_reducible refine z6 s6 ?_)|((with_reducible refine zy 12 ?_);first|(refine zx [1,9,2] [10] [1,9,2,10] rfl (by decide) rfl rfl (w1 _ _ _) ?_)|(refine zx [1,9,3] [10] [1,9,3,10] rfl (by decide) rfl rfl (w2 _ _ _) ?_)|(refine zx [1,9,4] [10] [1,9,4,10] rfl (by decide) rfl rfl (w3 _ _ _) ?_)|(refine zx [1,9,5] [10] [1,9,5,10] rfl (by decide) rfl rfl (w4 _ _ _) ?_)))|refine auD ?_|(refine auW ?_ ?_<;>intro h<;>try exact auH)|fail
 all_goals try exact auP
 have e0:txR p (p.rs.take 0)=tx4 p:=by simp [txR]
 rw [←e0]
 refine zw (α:=Nat×Nat×Nat) (fun x=>[(⟨.d0,.d6,.d0⟩,.v (.int .i64 (x.1:Nat)))]) (fun x=>[(1,some (oB (Γ.g0+1) (.tptr (Γ.g0+1) 2 xA) 1 x.2.1 (txR p (p.rs.take x.1)))),(6,none),(7,none),(9,some (oR x.2.1 (txR p (p.rs.take x.1)))),(10,none)]) (fun x=>x.2.2) (fun x=>p.rs.length-x.1) (fun x=>x.1≤p.rs.length) (0,Γ.g0+10,Γ.g0+11) (Nat.zero_le _) ?_ ?_
 ·skip
  refine zo ?_ ?_ (Nat.le_refl _)
  all_goals first|refine auE ?_|exact zK
  all_goals repeat' first|exact trivial|exact rfl|apply And.intro
 rintro ⟨i,bn,gn⟩ hi
 dsimp only at hi ⊢
 refine auL ?_
 by_cases hlt:i<p.rs.length
 ·obtain ⟨r,hr⟩:∃r,p.rs[i]?=some r:=⟨_,List.getElem?_eq_getElem hlt⟩
  have hmem:=List.mem_of_getElem? hr
  have ex:=jh hr
  have F:=rlF (f8 r hmem)
  have q1:=qA r.ps
  have q2:=lY r.fa r.fl F.fa F.fl
  have q3:=lY r.ta r.tl F.ta F.tl
  have q4:=qY r.pr F.pr
  have q5:=qC r.fp r.fq F.fp F.fq
  have q6:=qC r.tp r.tq F.tp F.tq
  have hsn:=Yl p (p.rs.take i) r
  rw [←rh hr] at hsn
  have hln:=cB hp he (p.rs.take (i+1)) (fun x hx=>List.mem_of_mem_take hx)
  rw [List.length_take] at hln
  have q7:=fun nb bn an=>Vt nb bn an 7 (a:=.tptr nb 2 xA) (.inr rfl) (l:=txR p (p.rs.take i)) (t:=txR p (p.rs.take (i+1))) (pw r.ps) (ry r.fa r.fl) (ry r.ta r.tl) (dI r.pr) (rC r.fp r.fq) (rC r.tp r.tq) hsn (by omega)
  repeat' first|(refine vD (vn 10 9 rfl (fun _=>rfl)) ?_)|refine auS ?_|(first|(with_reducible refine z6 q1 ?_)|(with_reducible refine z6 q2 ?_)|(with_reducible refine z6 q3 ?_)|(with_reducible refine z6 q4 ?_)|(with_reducible refine z6 q5 ?_)|(with_reducible refine z6 q6 ?_)|((with_reducible refine zy 12 ?_);(refine zx [1,9,7] [10] [1,9,7,10] rfl (by decide) rfl rfl (q7 _ _ _) ?_)))|refine auD ?_|(refine auW ?_ ?_<;>intro h<;>try exact auH)|(simp only [Int.toNat_natCast,ex,List.length_map])
  all_goals try exact auP
  refine zn ⟨(i+1,gn+1+1,gn+3),hlt,Nat.sub_lt_sub_left hlt (Nat.lt_succ_self i),?_⟩
  refine zo ?_ ?_ (Nat.le_refl _)
  all_goals first|refine auE ?_|exact zK
  all_goals repeat' first|exact trivial|exact rfl|apply And.intro
  all_goals exact yd ((IntWalk.i64_in _ (by omega)).trans (by omega))
 ·obtain rfl:i=p.rs.length:=by omega
  rw [List.take_length]
  have hln:=cB hp he p.rs (fun x hx=>hx)
  have hpw:=Y6 p.el
  have hjl:=vc [y5,pw p.el]
  have q1:=qA p.el
  have hpl:(vC p).length≤1048576:=by
   unfold vC uz
   simp only [List.map_cons,List.map_nil,List.sum_cons,List.sum_nil,List.length_append,List.length_singleton,List.length_cons,List.length_nil] at hjl ⊢
   omega
  have hne:vC p≠[]:=by
   unfold vC uz
   simp
  have q7:=fun nb bn an=>dl nb bn an 8 (a:=.tptr nb 2 xA) (.inr rfl) (l:=txR p p.rs) (t:=vC p) y5 (pw p.el) rfl hpl
  have q8:=fun nb bn=>UR nb bn (vC p) hne hpl
  simp only [ot] at q8
  repeat' first|(refine vD (vn 10 9 rfl (fun _=>rfl)) ?_)|refine auS ?_|(first|(with_reducible refine z6 q1 ?_)|((with_reducible refine zy 12 ?_);(refine zx [1,9,8] [10] [1,9,8,10] rfl (by decide) rfl rfl (q7 _ _ _) ?_))|((with_reducible refine zy 20 ?_);(refine zt [1,9] (by decide) rfl rfl (q8 _ _) ?_)))|refine auD ?_|(refine auW ?_ ?_<;>intro h<;>try exact auH)|(simp only [List.length_map])
  all_goals try exact auP
  all_goals refine auV ?_
  all_goals try exact zc
  all_goals try simp only [hsM] at *
  all_goals rfl
theorem bb (p:Pl) (c:Bool) (hp:p.wf) (hl:p.rs.length≤maxLen) (he:¬plE p=0):zi Tryz.prog 4 [dPl p c] (.tup [.v (.string (mkS [])),.v (.int .i64 (plE p))]):=by
 have hchk:=xJ p c hp hl
 generalize plE p=E at *
 refine z7 {bld:=58} 0 Tryz.func4 fun Γ hW=>auC ?_
 repeat' first|refine auS ?_|(first|(with_reducible refine z6 hchk ?_))|refine auD ?_|(refine auW ?_ ?_<;>intro h<;>try exact auH)|fail
 all_goals try exact auP
 all_goals refine auV ?_
 all_goals try exact zc
 all_goals try simp only [hsM] at *
 all_goals rfl
end Go.Proofs.YtaiileiodjicpaaGreatDoor.R
namespace Go.Proofs.YtaiileiodjicpaaGreatDoor.R
def hd4 (p:Pl):List W8:=[zX [yT,xh p.ou.toNat],zX [zJ,dI p.lt,dI p.st],zX [y7,dI p.lf],zX [y6,dI p.ra,dI p.mo]]
def rlL (p:Pl) (i:Nat):List W8:=hd4 p++(p.rs.take i).map fun r=>zX (wk r)
def plL (p:Pl):List W8:=rlL p p.rs.length++[zX [y5,pw p.el]]
def da (l:List W8):W8:=(l.map fun x=>x++[10]).flatten
theorem aY (p:Pl):vC p=da (plL p):=by
 unfold vC txR tx4 tx3 tx2 tx1 da plL rlL hd4 uz
 simp [Function.comp_def]
theorem Zo {n:Int} (h:0≤n∧n≤1000000000):vOk (dI n)=true∧vN (dI n)=n:=by
 have hp:=WM n.toNat (by omega)
 have hl:=xU n h
 unfold dI at hl
 unfold vOk vN dI
 rw [hp]
 dsimp only
 refine ⟨?_,?_⟩
 ·rw [decide_eq_true hl]
  simp
 ·rw [IntWalk.i64_in _ (by omega)]
  omega
theorem uP {c:UInt8} {a b:W8} (h1:c∉a) (h2:c∉b):c∉a++b:=fun h=>(List.mem_append.1 h).elim h1 h2
theorem Z1 {c:UInt8} (hc:isD c=false) (n:Int):c∉dI n:=fun h=>by
 have:=List.all_eq_true.1 (ji n.toNat).1 c h
 rw [hc] at this
 cases this
theorem UJ (n:Int):dI n≠[]:=fun h=>by
 have:=(ji n.toNat).2.2
 unfold dI at h
 rw [h] at this
 simp at this
theorem cX {c:UInt8} (hc:isD c=false) (n:Nat):c∉dS (n % 256):=fun h=>by
 have h2:=(fT ⟨n % 256,Nat.mod_lt _ (by decide)⟩).2.1
 have:=List.all_eq_true.1 h2 c h
 rw [hc] at this
 cases this
theorem nA {c:UInt8} (hc:isD c=false) (h46:c≠46) (a:Nat):c∉xh a:=by
 rw [pb]
 refine uP (cX hc _) fun h=>?_
 rcases List.mem_cons.1 h with h|h
 ·exact h46 h
 refine uP (cX hc _) (fun h=>?_) h
 rcases List.mem_cons.1 h with h|h
 ·exact h46 h
 refine uP (cX hc _) (fun h=>?_) h
 rcases List.mem_cons.1 h with h|h
 ·exact h46 h
 exact cX hc a h
theorem YK (a:Nat):xh a≠[]:=by
 rw [pb]
 simp
theorem Xc {a:Nat} (h:a<4294967296):lM (xh a)=(a,0):=by
 unfold lM
 rw [bf,YU (by omega) (by omega) (by omega) (by omega)]
 have:16777216*(a / 16777216 % 256)+65536*(a / 65536 % 256)+256*(a / 256 % 256)+a % 256=a:=by omega
 dsimp only
 rw [this,if_pos rfl]
theorem jN {c:UInt8}:∀ {w:W8} (r:W8),c∉w→xX c (w++([c]++r))=(w,r,true)
 |[],r,_=>by
  show xX c (c::r)=_
  rw [xX,if_pos rfl]
 |b::w,r,h=>by
  have hb:¬b=c:=fun e=>h (by rw [e];simp)
  have ih:=jN (w:=w) r (fun q=>h (List.mem_cons_of_mem _ q))
  show xX c (b::(w++([c]++r)))=_
  rw [xX,if_neg hb,ih]
theorem nQ (x y:W8) (r:List W8):zX (x::y::r)=x++32::zX (y::r):=by simp [zX,Lib.join,List.intercalate,List.intersperse]
theorem kO (x:W8):zX [x]=x:=by simp [zX,Lib.join,List.intercalate,List.intersperse]
theorem kD:∀(ws:List W8),ws≠[]→(∀w∈ws,(32:UInt8)∉w)→spl 32 (zX ws)=ws
 |[],h,_=>absurd rfl h
 |[x],_,h=>by rw [kO,jM (h x (by simp))]
 |x::y::r,_,h=>by
  rw [nQ,rj _ (h x (by simp)),kD (y::r) (by simp) fun w hw=>h w (List.mem_cons_of_mem _ hw)]
theorem f_ {ws:List W8} (h0:ws≠[]) (h:∀w∈ws,w≠[]∧(32:UInt8)∉w):xw (zX ws)=ws:=by
 unfold xw
 rw [kD ws h0 fun w hw=>(h w hw).2]
 exact List.filter_eq_self.2 fun w hw=>decide_eq_true (h w hw).1
theorem gZ {c:UInt8} (hc:c≠32):∀(ws:List W8),(∀w∈ws,c∉w)→c∉zX ws
 |[],_=>by simp [zX,Lib.join,List.intercalate,List.intersperse]
 |[x],h=>by rw [kO];exact h x (by simp)
 |x::y::r,h=>by
  rw [nQ]
  refine uP (h x (by simp)) fun q=>?_
  rcases List.mem_cons.1 q with q|q
  ·exact hc q
  ·exact gZ hc (y::r) (fun w hw=>h w (List.mem_cons_of_mem _ hw)) q
theorem g_:∀(ls:List W8),(∀l∈ls,(10:UInt8)∉l)→spl 10 (da ls)=ls++[[]]
 |[],_=>by simp [da,spl]
 |x::r,h=>by
  have e:da (x::r)=x++10::da r:=by simp [da]
  rw [e,rj _ (h x (by simp)),g_ r fun l hl=>h l (List.mem_cons_of_mem _ hl)]
  rfl
def okW (w:W8):Prop:=w≠[]∧(32:UInt8)∉w∧(10:UInt8)∉w
theorem uW (n:Int):okW (dI n):=⟨UJ n,Z1 (by decide) n,Z1 (by decide) n⟩
theorem kT (a:Nat):okW (xh a):=⟨YK a,nA (by decide) (by decide) a,nA (by decide) (by decide) a⟩
theorem cq {a b:W8} {c:UInt8} (ha:okW a) (hb:okW b) (h1:c≠32) (h2:c≠10):okW (a++([c]++b)):=by
 refine ⟨by simp,uP ha.2.1 (uP ?_ hb.2.1),uP ha.2.2 (uP ?_ hb.2.2)⟩
 ·intro h
  exact h1 (List.mem_singleton.1 h).symm
 ·intro h
  exact h2 (List.mem_singleton.1 h).symm
theorem dm (b:Bool):okW (pw b):=by
 cases b<;>exact ⟨by decide,by decide,by decide⟩
theorem ng (a l:Int):okW (ry a l):=cq (kT _) (uW _) (by decide) (by decide)
theorem oU (a b:Int):okW (rC a b):=cq (uW _) (uW _) (by decide) (by decide)
theorem m9 {ws:List W8} (h0:ws≠[]) (h:∀w∈ws,okW w):xw (zX ws)=ws:=f_ h0 fun w hw=>⟨(h w hw).1,(h w hw).2.1⟩
theorem sY {ws:List W8} (h:∀w∈ws,okW w):(10:UInt8)∉zX ws:=gZ (by decide) ws fun w hw=>(h w hw).2.2
theorem Xf (w:W8) (r:List W8) (b:Bool):nx (w::r,b)=(w,(r,b)):=rfl
theorem Va {a:Int} (h:0≤a∧a<4294967296) (r:List W8):ad (xh a.toNat) (r,false)=(a,(r,false)):=by
 unfold ad
 rw [Xc (by omega)]
 dsimp only
 rw [show ((a.toNat:Nat):Int)=a by omega]
 rfl
theorem cQ {n:Int} (h:0≤n∧n≤1000000000) (r:List W8):vl (dI n) (r,false)=(n,(r,false)):=by
 unfold vl
 rw [(Zo h).1,(Zo h).2]
 rfl
theorem kR {n:Int} (h:0≤n∧n≤1000000000) (r:List W8):nu (dI n::r,false)=(n,(r,false)):=by
 unfold nu
 rw [Xf]
 exact cQ h r
theorem Vp {a l:Int} (ha:0≤a∧a<4294967296) (hl:0≤l∧l≤1000000000) (r:List W8):nt (ry a l::r,false)=((a,l),(r,false)):=by
 have hp:pa 47 (ry a l::r,false)=((xh a.toNat,dI l),(r,false)):=by
  unfold pa ry
  rw [Xf,jN (dI l) (nA (by decide) (by decide) a.toNat)]
  rfl
 unfold nt
 rw [hp]
 dsimp only
 rw [Va ha]
 dsimp only
 rw [cQ hl]
theorem Vq {a b:Int} (ha:0≤a∧a≤1000000000) (hb:0≤b∧b≤1000000000) (r:List W8):bo (rC a b::r,false)=((a,b),(r,false)):=by
 have hp:pa 45 (rC a b::r,false)=((dI a,dI b),(r,false)):=by
  unfold pa rC
  rw [Xf,jN (dI b) (Z1 (by decide) a)]
  rfl
 unfold bo
 rw [hp]
 dsimp only
 rw [cQ ha]
 dsimp only
 rw [cQ hb]
theorem Vk (b:Bool) (r:List W8):vd (pw b) (r,false)=(b,(r,false)):=by
 cases b<;>rfl
theorem WF {r:Rl} (h:RlF r):dN (pw r.ps) ([ry r.fa r.fl,ry r.ta r.tl,dI r.pr,rC r.fp r.fq,rC r.tp r.tq],false)=(r,([],false)):=by
 obtain ⟨h1,h2,h3,h4,h5,h6,h7,h8,h9⟩:=h
 unfold dN
 rw [Vk]
 dsimp only
 rw [Vp h1 h2]
 dsimp only
 rw [Vp h3 h4]
 dsimp only
 rw [kR h5]
 dsimp only
 rw [Vq h6 h7]
 dsimp only
 rw [Vq h8 h9]
theorem Zs {r:Rl} (h:RlF r) (i:Nat) (p:Pl) (had ls:List W8):goP i p had (zX (wk r)::ls)=goP (i+1) { p with rs:=p.rs++[r] } had ls:=by
 have hw:=m9 (ws:=wk r) (by simp [wk]) (fun w hw=>by
  simp only [wk,List.mem_cons,List.not_mem_nil,or_false] at hw
  rcases hw with rfl|rfl|rfl|rfl|rfl|rfl
  ·exact dm _
  ·exact ng _ _
  ·exact ng _ _
  ·exact uW _
  ·exact oU _ _
  ·exact oU _ _)
 have e:yg p (pw r.ps) ([ry r.fa r.fl,ry r.ta r.tl,dI r.pr,rC r.fp r.fq,rC r.tp r.tq],false)=({ p with rs:=p.rs++[r] },([],false)):=by
  unfold yg
  rw [WF h]
  cases r.ps<;>rfl
 rw [mr hw,e,if_neg (by cases r.ps<;>decide),if_neg (show ¬iG ([],false)=true by decide),if_pos (by cases r.ps<;>decide)]
theorem kP:∀(rs:List Rl) (i:Nat) (p:Pl) (had ls:List W8),(∀r∈rs,RlF r)→goP i p had ((rs.map fun r=>zX (wk r))++ls)=goP (i+rs.length) { p with rs:=p.rs++rs } had ls
 |[],i,p,had,ls,_=>by simp
 |r::rs,i,p,had,ls,h=>by
  rw [List.map_cons,List.cons_append,Zs (h r (by simp)),kP rs _ _ _ _ fun x hx=>h x (List.mem_cons_of_mem _ hx)]
  simp only [List.append_assoc,List.cons_append,List.nil_append,List.length_cons]
  rw [show i+1+rs.length=i+(rs.length+1) by omega]
theorem sA {w0:W8} {r:List W8} {p p':Pl} (hk:∀w∈w0::r,okW w) (h35:¬w0.head?=some 35) (hv:¬(w0=vB∨w0=ug)) (e:yg p w0 (r,false)=(p',([],false))) (i:Nat) {had:List W8} (hh:w0∉had) (ls:List W8):goP i p had (zX (w0::r)::ls)=goP (i+1) p' (had++[w0]) ls:=by
 rw [mr (m9 (by simp) hk),e,if_neg h35,if_neg (show ¬iG ([],false)=true by decide),if_neg hv,if_neg hh]
theorem sE {w:W8} (h:w∈Vb):okW w:=by
 have:∀w∈Vb,w≠[]∧(32:UInt8)∉w∧(10:UInt8)∉w:=by decide
 exact this w h
theorem aM {p:Pl} (hp:p.wf) (he:plE p=0) (hl:(vC p).length≤20000):lA (vC p)=(p,0,0):=by
 obtain ⟨f1,f2,f3,f4,f5,f6,f7,f8⟩:=rk hp he
 have hr:∀r∈p.rs,RlF r:=fun r h=>rlF (f8 r h)
 have w2:∀ {a b:W8},okW a→okW b→∀w∈[a,b],okW w:=fun ha hb w hw=>by
  simp only [List.mem_cons,List.not_mem_nil,or_false] at hw
  rcases hw with rfl|rfl
  ·exact ha
  ·exact hb
 have w3:∀ {a b c:W8},okW a→okW b→okW c→∀w∈[a,b,c],okW w:=fun ha hb hc w hw=>by
  simp only [List.mem_cons,List.not_mem_nil,or_false] at hw
  rcases hw with rfl|rfl|rfl
  ·exact ha
  ·exact hb
  ·exact hc
 have o1:=sE (w:=yT) (by decide)
 have o2:=sE (w:=zJ) (by decide)
 have o3:=sE (w:=y7) (by decide)
 have o4:=sE (w:=y6) (by decide)
 have o5:=sE (w:=y5) (by decide)
 have k1:=w2 o1 (kT p.ou.toNat)
 have k2:=w3 o2 (uW p.lt) (uW p.st)
 have k3:=w2 o3 (uW p.lf)
 have k4:=w3 o4 (uW p.ra) (uW p.mo)
 have k5:=w2 o5 (dm p.el)
 have hk:∀r:Rl,∀w∈wk r,okW w:=fun r w hw=>by
  simp only [wk,List.mem_cons,List.not_mem_nil,or_false] at hw
  rcases hw with rfl|rfl|rfl|rfl|rfl|rfl
  ·exact dm _
  ·exact ng _ _
  ·exact ng _ _
  ·exact uW _
  ·exact oU _ _
  ·exact oU _ _
 have hs:spl 10 (vC p)=plL p++[[]]:=by
  rw [aY]
  refine g_ _ fun l hl=>?_
  unfold plL rlL hd4 at hl
  simp only [List.mem_append,List.mem_cons,List.not_mem_nil,or_false,List.mem_map] at hl
  rcases hl with ((rfl|rfl|rfl|rfl)|⟨r,-,rfl⟩)|rfl
  ·exact sY k1
  ·exact sY k2
  ·exact sY k3
  ·exact sY k4
  ·exact sY (hk r)
  ·exact sY k5
 have hpl:plL p++[[]]=zX [yT,xh p.ou.toNat]::zX [zJ,dI p.lt,dI p.st]::zX [y7,dI p.lf]::zX [y6,dI p.ra,dI p.mo]::((p.rs.map fun r=>zX (wk r))++[zX [y5,pw p.el],[]]):=by
  unfold plL rlL hd4
  rw [List.take_length]
  simp
 unfold lA
 rw [if_neg (by omega),hs,hpl]
 rw [sA k1 (by decide) (by decide) (p':={ pl0 with ou:=p.ou }) (by
  unfold yg
  rw [if_pos rfl,Xf]
  dsimp only
  rw [Va f1]) 0 (by decide)]
 rw [sA k2 (by decide) (by decide) (p':={ pl0 with ou:=p.ou,lt:=p.lt,st:=p.st }) (by
  unfold yg
  rw [if_neg (by decide),if_pos rfl,kR (by omega)]
  dsimp only
  rw [kR (by omega)]) 1 (by decide)]
 rw [sA k3 (by decide) (by decide) (p':={ pl0 with ou:=p.ou,lt:=p.lt,st:=p.st,lf:=p.lf }) (by
  unfold yg
  rw [if_neg (by decide),if_neg (by decide),if_pos rfl,kR (by omega)]) 2 (by decide)]
 rw [sA k4 (by decide) (by decide) (p':={ pl0 with ou:=p.ou,lt:=p.lt,st:=p.st,lf:=p.lf,ra:=p.ra,mo:=p.mo }) (by
  unfold yg
  rw [if_neg (by decide),if_neg (by decide),if_neg (by decide),if_pos rfl,kR (by omega)]
  dsimp only
  rw [kR (by omega)]) 3 (by decide)]
 rw [kP _ _ _ _ _ hr]
 rw [sA k5 (by decide) (by decide) (p':=p) (by
  unfold yg
  rw [if_neg (by decide),if_neg (by decide),if_neg (by decide),if_neg (by decide),if_pos rfl,Xf]
  dsimp only
  rw [Vk]
  rfl) _ (by decide)]
 rw [aj]
 unfold Xq
 dsimp only
 rw [if_neg (by decide),if_pos he]
end Go.Proofs.YtaiileiodjicpaaGreatDoor.R
