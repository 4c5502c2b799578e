import Derived.Test.YtmibknbmhcnemaaDoorTm42
set_option linter.unusedVariables false
set_option linter.unusedSimpArgs false
namespace Go.Proofs.YtmibknbmhcnemaaDoor
attribute [local irreducible] zz Go
set_option maxRecDepth 100000
theorem cA (l:List Mt) (lb q:Nat):vd ⟨q,5,l.map Mt.enc⟩ (.sl lb q 5 0 l.length false) (msD l):=.inl ⟨rfl,rfl,by simp,by rw [qd (by simp)]⟩
theorem hZ (u:Hs) (l:List Mt) (lb q:Nat):uz ⟨q,5,l.map Mt.enc⟩ [u.row (.sl lb q 5 0 l.length false)] [u.row (msD l)]:=⟨⟨rfl,rfl,rfl,rfl,rfl,rfl,rfl,rfl,cA l lb q,rfl,rfl,rfl,rfl,rfl,rfl,rfl,rfl⟩,rfl⟩
theorem Ye (u:Hs) (f:Fl) (t:List UInt8) (now:Int) (l:List Mt) (lb q:Nat):uz ⟨q,5,l.map Mt.enc⟩ [wkR u (.sl lb q 5 0 l.length false) f t now] [wkR u (msD l) f t now]:=⟨⟨rfl,rfl,rfl,rfl,rfl,rfl,rfl,rfl,cA l lb q,rfl,rfl,rfl,rfl,rfl,rfl,rfl,rfl,rfl,rfl,rfl,rfl,rfl,rfl,rfl⟩,rfl⟩
theorem atR (s:Sl) {Γ:Gm} {P:Program} {N:Nat} {R:St→Prop} {o:XO} {g:Option (Sl×Bool)} {l:List XOp} {k:List KI} {st:St} (h:Go Γ P N R (.region (⟨some s,o,g⟩::l)) k st):Go Γ P N R (.region (⟨some s,o,g⟩::l)) k st:=h
def tv (u:Hs) (inside:Bool) (s:List UInt8) (now:Int):Hs×List UInt8×Int×Int:=
 if oT u≠0 then (u,[],0,oT u) else if now<tM u∨1099511627776<now then (u,[],0,1)
 else ((goR u inside s now).1,(goR u inside s now).2.2.2.1,(goR u inside s now).2.2.2.2,0)
abbrev gv (r:Hs×List UInt8×Int×Int):DV:=.tup [dH r.1,.v (.string (mkS r.2.1)),.v (.int .i64 r.2.2.1),.v (.int .i64 r.2.2.2)]
theorem cz (g:Nat) (u:Hs):nfL g (u.row (msD u.ms)):=⟨trivial,trivial,trivial,trivial,trivial,trivial,lX _ _,trivial,xU _ _,gj _ _,trivial,trivial,trivial,trivial,trivial,A.u7 _ _,trivial⟩
set_option maxHeartbeats 8000000 in
theorem uD (u:Hs) (hw:u.wf) (inside:Bool) (s:List UInt8) (hs:s.length≤140737488351232) (now:Int):zf Tryd.prog 8 [dH u,.v (.bool inside),.v (.string (mkS s)),.v (.int .i64 now)] (gv (tv u inside s now)):=by
 have hown:=bH u hw
 have hck:=kB u hw
 have hnf:=fun g=>cz g u
 unfold tv
 by_cases hE:oT u=0
 rotate_left
 ·rw [if_pos hE]
  generalize oT u=e at *
  have hla:True:=trivial
  refine z4 {} 0 Tryd.func8 fun Γ hW=>auC ?_
  repeat' first|((with_reducible refine atR ⟨.d0,.d2,.d2⟩ ?_);(refine zY (wK hW 0 10 (by decide) (o:=⟨Γ.g0+2,5,u.ms.map Mt.enc⟩) (ys:=[u.row (msD u.ms)]) rfl rfl (hZ u u.ms 1 _)) ?_))|refine auS ?_|(first|((with_reducible refine zu 15 ?_);(refine ya [] [10] [10] rfl (by decide) rfl rfl hown ?_))|(with_reducible refine z0 hck ?_)|(with_reducible refine z0 hla ?_))|refine auD ?_|(refine auW ?_ ?_<;>intro h<;>try exact auH)|fail
  all_goals try exact auP
  all_goals try (exfalso;simp_all;done)
  all_goals refine auV ?_
  all_goals try exact z_
  all_goals try simp only [hsM] at *
  all_goals rfl
 rw [if_neg (not_not_intro hE)]
 have hla:=et u hw (kw (gx hE).2.2.2.2)
 rw [hE] at hck
 by_cases hn:now<tM u∨1099511627776<now
 ·rw [if_pos hn]
  clear hE
  generalize tM u=L at *
  refine z4 {} 0 Tryd.func8 fun Γ hW=>auC ?_
  repeat' first|((with_reducible refine atR ⟨.d0,.d2,.d2⟩ ?_);(refine zY (wK hW 0 10 (by decide) (o:=⟨Γ.g0+2,5,u.ms.map Mt.enc⟩) (ys:=[u.row (msD u.ms)]) rfl rfl (hZ u u.ms 1 _)) ?_))|refine auS ?_|(first|((with_reducible refine zu 15 ?_);(refine ya [] [10] [10] rfl (by decide) rfl rfl hown ?_))|(with_reducible refine z0 hck ?_)|(with_reducible refine z0 hla ?_))|refine auD ?_|(refine auW ?_ ?_<;>intro h<;>try exact auH)|fail
  all_goals try exact auP
  all_goals try (exfalso;simp_all;done)
  all_goals refine auV ?_
  all_goals try exact z_
  all_goals try simp only [hsM] at *
  all_goals rfl
 rw [if_neg hn]
 have hgo:=f7 u hw hE inside s hs now (by omega)
 generalize tM u=L at *
 generalize goR u inside s now=r at *
 obtain ⟨v,f,t,o,y⟩:=r
 dsimp only at hgo ⊢
 have hnf2:=fun g=>cz g v
 refine z4 {} 0 Tryd.func8 fun Γ hW=>auC ?_
 repeat' first|((with_reducible refine atR ⟨.d0,.d5,.d2⟩ ?_);(refine zY (wK hW 2 11 (by decide) (ys:=[wkR v (msD v.ms) f t now]) rfl rfl (Ye v f t now v.ms 4 _)) ?_))|refine auS ?_|(first|((with_reducible refine zu 15 ?_);(refine ya [] [10] [10] rfl (by decide) rfl rfl hown ?_))|((with_reducible refine zu 16 ?_);(refine zg [10] (by decide) rfl rfl (kS rfl hck 1 _) ?_))|((with_reducible refine zu 17 ?_);(refine zg [10] (by decide) rfl rfl (kS rfl hla 1 _) ?_))|((with_reducible refine zu 18 ?_);(refine ya [2,10] [11] [2,10,11] rfl (by decide) rfl rfl (fJ 2 (hgo _ _)) ?_)))|refine auD ?_|(refine auW ?_ ?_<;>intro h<;>try exact auH)|fail
 all_goals try exact auP
 all_goals try (exfalso;simp_all;done)
 all_goals refine auV ?_
 all_goals try exact z_
 all_goals try simp only [hsM] at *
 all_goals rfl
end Go.Proofs.YtmibknbmhcnemaaDoor
namespace Go.Proofs.YtmibknbmhcnemaaDoor
attribute [local irreducible] zz Go
set_option maxRecDepth 100000
def plO:R.Pl:=⟨3325256705,1024,2048,100,100000,1000000,[],true⟩
theorem sq:zf Tryd.prog 6 [] (R.dPl plO false):=by
 refine wn (D:=.agg [.v (.int .u32 3325256705),.v (.int .i64 1024),.v (.int .i64 2048),.v (.int .i64 100),.v (.int .i64 100000),.v (.int .i64 1000000),.v (.slice none 0 0),.v (.bool true)]) ?_ ⟨.inl rfl,.inl rfl,.inl rfl,.inl rfl,.inl rfl,.inl rfl,.inr ⟨rfl,10,rfl⟩,.inl rfl,rfl⟩
 refine z4 {} 0 Tryd.func6 fun Γ hW=>auC ?_
 repeat' first|refine auS ?_|fail|refine auD ?_|(refine auW ?_ ?_<;>intro h<;>try exact auH)|fail
 all_goals try exact auP
 all_goals refine auV ?_
 all_goals try exact z_
 all_goals try simp only [hsM] at *
 all_goals rfl
def pkL (a b:Int) (d:List UInt8):Pk:=⟨0,0,false,false,0,9,17,a,b,[],d⟩
def mF (f t:Int) (d:List UInt8) (a b:Int):List UInt8×Bool:=((pW (pkL a b (ti f t d a b).1)).1,decide ((ti f t d a b).2=0)&&decide ((pW (pkL a b (ti f t d a b).1)).2=0))
theorem c_ (f t:Int) (d:List UInt8) (a b:Int):(ti f t d a b).1.length≤65515:=by
 unfold ti
 split
 ·simp
 ·split
  ·simp
  ·simp only [List.length_append,xP,yA]
   omega
theorem tw (f t:Int) (d:List UInt8) (a b:Int) (ha:0≤a∧a<4294967296) (hb:0≤b∧b<4294967296) (hd:d.length≤140737488351232):zf Tryd.prog 7 [dL f t d,.v (.int .u32 a),.v (.int .u32 b)] (.tup [.v (.string (mkS (mF f t d a b).1)),.v (.bool (mF f t d a b).2)]):=by
 have h1:=kp f t d a b ha hb hd
 have hl:=c_ f t d a b
 have h2:=lh (pkL a b (ti f t d a b).1) (by simp [pkL]) (by simp only [pkL];omega) ha hb
 unfold mF
 unfold pkL at *
 generalize ti f t d a b=L at *
 obtain ⟨s,e⟩:=L
 dsimp only at *
 generalize pW _=P at *
 obtain ⟨t',e'⟩:=P
 dsimp only at *
 change zf _ _ [.agg [.v (.int .i64 0),.v (.int .i64 0),.v (.bool false),.v (.bool false),.v (.int .i64 0),.v (.int .i64 9),.v (.int .i64 17),.v (.int .u32 a),.v (.int .u32 b),.v (.string ⟨#[]⟩),.v (.string (mkS s))]] _ at h2
 refine z4 {} 0 Tryd.func7 fun Γ hW=>auC ?_
 repeat' first|refine auS ?_|(first|(with_reducible refine z0 h1 ?_)|(with_reducible refine z0 h2 ?_))|refine auD ?_|(refine auW ?_ ?_<;>intro h<;>try exact auH)|fail
 all_goals try exact auP
 all_goals refine auV ?_
 all_goals try exact z_
 all_goals try simp only [hsM] at *
 all_goals first
  |rfl
  |exact congrArg₂ (fun x y=>DV.tup [x,y]) rfl (wo (by simp_all))
  |skip
def lpk:List UInt8:=(mF 1030 53 [120] 5 6).1
theorem jU:(mF 1030 53 [120] 5 6).2=true∧lpk.length=29:=by decide +kernel
theorem cr:(tv (ox plO) true lpk 0).2.1.length=29∧(tv (ox plO) true lpk 0).2.2=(0,0):=by decide +kernel
theorem ln:plO.wf:=⟨by decide,fun r hr=>by cases hr⟩
theorem lN:R.plE plO=0:=by decide +kernel
theorem aY:(ox plO).wf:=by
 have h0:y7 0 40∧y7 0 48∧y7 0 80:=by unfold y7 maxLen;omega
 have e:ox plO=⟨plO,[],[],⟨plO.lf,plO.lt,0,plO.st,0,[]⟩⟩:=by unfold ox;rw [if_pos lN]
 rw [e]
 exact ⟨ln,h0.2.2,h0.1,h0.2.1,⟨by simp,by simp,by simp,fun m hm=>(by cases hm)⟩⟩
theorem pU:zf Tryd.prog 4 [] (.v (.bool true)):=by
 have h1:=sq
 have h2:=kQ plO ln (by unfold y7 maxLen;decide)
 have h3:=tw 1030 53 [120] 5 6 (by decide) (by decide) (by decide)
 have h4:=uD (ox plO) aY true lpk (by rw [jU.2];decide) 0
 rw [lN] at h2
 rw [jU.1] at h3
 have e1:=jU.2
 have e2:=cr
 change zf _ _ [.agg [.v (.int .i64 1030),.v (.int .i64 53),.v (.string ⟨#[120]⟩)],.v (.int .u32 5),.v (.int .u32 6)] (.tup [.v (.string (mkS lpk)),.v (.bool true)]) at h3
 generalize lpk=p at *
 generalize ox plO=N at *
 generalize tv N true p 0=x at *
 obtain ⟨v,o,y,z⟩:=x
 dsimp only [gv] at h4 e2
 obtain ⟨e2,e3⟩:=e2
 obtain ⟨rfl,rfl⟩:=Prod.mk.inj e3
 clear e3
 refine z4 {} 0 Tryd.func4 fun Γ hW=>auC ?_
 repeat' first|refine auS ?_|(first|(simp only [z5,e1,e2])|(with_reducible refine z0 h1 ?_)|(with_reducible refine z0 h2 ?_)|(with_reducible refine z0 h3 ?_)|(with_reducible refine z0 h4 ?_))|refine auD ?_|(refine auW ?_ ?_<;>intro h<;>try exact auH)|fail
 all_goals try exact auP
 all_goals try (exfalso;simp_all;done)
 all_goals refine auV ?_
 all_goals try exact z_
 all_goals try simp only [hsM] at *
 all_goals rfl
end Go.Proofs.YtmibknbmhcnemaaDoor
