import Derived.Test.YtmibknbmhcnemaaDoorTm23
import Derived.Test.YtmibknbmhcnemaaDoorTm34
set_option linter.unusedVariables false
set_option linter.unusedSimpArgs false
namespace Go.Proofs.YtmibknbmhcnemaaDoor
attribute [local irreducible] zz Go
set_option maxRecDepth 100000
abbrev wkR (u:Hs) (d:DV) (f:Fl) (t:List UInt8) (now:Int):List DV:=[.v (.int .u32 u.p.ou),.v (.int .i64 u.p.lt),.v (.int .i64 u.p.st),.v (.int .i64 u.p.lf),.v (.int .i64 u.p.ra),.v (.int .i64 u.p.mo),.snap 10 (u.p.rs.map R.Rl.enc) false,.v (.bool u.p.el),d,.snap 7 (u.tr.map T.Tk.enc) false,
 .v (.int .i64 u.n.l),.v (.int .i64 u.n.b1),.v (.int .u64 (u.n.t1:Int)),.v (.int .i64 u.n.b2),.v (.int .u64 (u.n.t2:Int)),.snap 5 (u.n.ms.map A.Mp.enc) false,.v (.int .u32 f.fr),.v (.int .u32 f.to),.v (.int .i64 f.proto),.v (.int .i64 f.fp),.v (.int .i64 f.tp),.v (.string (mkS t)),.v (.int .i64 now)]
theorem vK {g q lb lb' m m' len:Nat} {ns:List Nat} (u:Hs) (f:Fl) (t:List UInt8) (now:Int) (h:qg g ns q m m'):uC g ns q (wkR u (.sl lb m 5 0 len false) f t now) (wkR u (.sl lb' m' 5 0 len false) f t now):=
 ⟨⟨rfl,trivial⟩,⟨rfl,trivial⟩,⟨rfl,trivial⟩,⟨rfl,trivial⟩,⟨rfl,trivial⟩,⟨rfl,trivial⟩,⟨rfl,lX _ _⟩,⟨rfl,trivial⟩,⟨lb',m',h,rfl⟩,⟨rfl,gj _ _⟩,⟨rfl,trivial⟩,⟨rfl,trivial⟩,⟨rfl,trivial⟩,⟨rfl,trivial⟩,⟨rfl,trivial⟩,⟨rfl,A.u7 _ _⟩,⟨rfl,trivial⟩,⟨rfl,trivial⟩,⟨rfl,trivial⟩,⟨rfl,trivial⟩,⟨rfl,trivial⟩,⟨rfl,trivial⟩,⟨rfl,trivial⟩,rfl⟩
set_option maxHeartbeats 1000000 in
theorem eh (l:List Mt) (i j:Nat) (hij:i≤j) (hj:j≤l.length) (hl:l.length≤maxLen) (n:Nat):zy Tryd.prog 62 [.sl 0 n 5 0 l.length false,.v (.int .i64 i),.v (.int .i64 j)] [some ⟨n,5,l.map Mt.enc⟩] (fun d H=>d=.sl 0 n 5 0 (l.take i++l.drop j).length false∧H=[some ⟨n,5,(l.take i++l.drop j).map Mt.enc⟩]):=by
 have hones:∀r:List Mt,zC (r.map Mt.enc)=true:=yi (fun x=>rfl)
 have ej:zx (zD (l.map Mt.enc) j) ((l.length:Int)-j).toNat=(l.drop j).map Mt.enc:=by rw [zl,zT,←List.map_drop,←List.map_take,List.take_of_length_le (by rw [List.length_drop];omega)]
 have hlen:(zx (l.map Mt.enc) i++((l.drop j).map Mt.enc++zD (l.map Mt.enc) (i+(l.length-j)))).length=l.length:=by rw [zl,zT];simp;omega
 unfold maxLen at hl
 refine zv {inpl:=true} 1 Tryd.func62 fun Γ hN0 hL0=>auC ?_
 have hn:n<Γ.g0:=hN0 0 _ rfl
 repeat' first|refine auS ?_|fail|refine auD ?_|(refine auW ?_ ?_<;>intro h<;>try exact auH)|(first|(simp only [Int.toNat_natCast,Nat.zero_add,ej,List.length_map,List.length_drop])|(refine za ⟨by trivial,by trivial,by trivial,by omega,hones _⟩ ?_)|(refine za ⟨by trivial,by trivial,by trivial,by omega,by omega,by omega,by (rw [hlen];omega)⟩ ?_)|(refine za ⟨by trivial,by trivial,by trivial,by (rw [hlen];omega),by trivial⟩ ?_)|fail)
 ·have hij2:i=j:=by (simp only [hsL,reduceCtorEq] at *<;>omega)
  subst hij2
  rw [List.take_append_drop]
  exact yI trivial hn rfl rfl hn (zj (fun x=>by simp [nfL,nfD])) rfl
 ·refine zw (yZ (ip ⟨.d0,.d0,.d6⟩ rfl)) (zw (yZ (pd 0 (i+(l.length-j)) rfl)) (yI trivial hn ?_ rfl hn (zj (fun x=>by simp [nfL,nfD])) ?_))
  ·have e:(l.take i++l.drop j).length=i+(l.length-j):=by simp;omega
   rw [e]
   rfl
  ·refine (iI (by rw [zl];simp;omega)).trans ?_
   rw [zl,List.map_append,List.map_take]
theorem sN (k:Nat) (l:List Mt) (i j:Nat) (hij:i≤j) (hj:j≤l.length) (hl:l.length≤maxLen) (n:Nat):zy Tryd.prog 62 [.sl k n 5 0 l.length false,.v (.int .i64 i),.v (.int .i64 j)] [some ⟨n,5,l.map Mt.enc⟩] (fun d H=>d=.sl k n 5 0 (l.take i++l.drop j).length false∧H=[some ⟨n,5,(l.take i++l.drop j).map Mt.enc⟩]):=
 zL k (uu (eh l i j hij hj hl n) (fun _ _ _=>wS))
def rF (a:Int) (m:Mt) (now n:Int):Mt:=⟨a,m.ra,m.mo,B.wi m.ra m.mo m.hs m.tm now n,now⟩
def rG (m:Mt) (now n:Int):Bool:=decide (n≤B.zS m.ra m.mo m.hs m.tm now)
abbrev ZC (u:Hs) (f:Fl) (t:List UInt8) (now:Int) (n q:Nat) (l:List Mt):HL:=[some ⟨n,23,[wkR u (.sl 4 q 5 0 l.length false) f t now]⟩,none,some ⟨q,5,l.map Mt.enc⟩]
set_option maxHeartbeats 4000000 in
theorem Y1 (u:Hs) (f:Fl) (t:List UInt8) (now:Int) (hl:u.ms.length≤maxLen) (i:Nat) (t0:Mt) (h0:u.ms[i]?=some t0) (hi:ze (fun m:Mt=>decide (m.ad=f.fr)) u.ms 0=i) (h64:u.ms.length≤64) (he:B.wR t0.ra t0.mo t0.hs t0.tm now (t.length:Nat)=0) (n m:Nat) :
  wU Tryd.prog 40 [.ptr 0 n 23 0 0] [some ⟨n,23,[wkR u (.sl 1 m 5 0 u.ms.length false) f t now]⟩,some ⟨m,5,u.ms.map Mt.enc⟩] 1 (fun q d H=>d=.v (.bool (rG t0 now (t.length:Nat)))∧H=ZC u f t now n q (u.ms.take i++u.ms.drop (i+1)++[rF f.fr t0 now (t.length:Nat)])):=by
 have hlt:=(List.getElem?_eq_some_iff.1 h0).1
 have ex:=lD h0
 have hdel:=sN 1 u.ms i (i+1) (by omega) (by omega) hl m
 have hw1:IntKind.i64.wrap ((i:Int)+1)=((i+1:Nat):Int):=(IntWalk.i64_in _ (by unfold maxLen at hl;omega)).trans (by omega)
 have hX:(u.ms.take i++u.ms.drop (i+1)).length≤64:=by simp;omega
 generalize u.ms.take i++u.ms.drop (i+1)=X at *
 have hlen:(u.ms.map Mt.enc).length=u.ms.length:=List.length_map _
 have hb:zf Tryd.prog 63 [B.bB t0.ra t0.mo t0.hs t0.tm,.v (.int .i64 now),.v (.int .i64 (t.length:Nat))] (.tup [B.bB t0.ra t0.mo (B.wi t0.ra t0.mo t0.hs t0.tm now (t.length:Nat)) now,.v (.bool (decide ((t.length:Int)≤B.zS t0.ra t0.mo t0.hs t0.tm now))),.v (.int .i64 0)]):=by
  have q:=B.r7 t0.ra t0.mo t0.hs t0.tm now (t.length:Nat)
  rw [show B.btD t0.ra t0.mo t0.hs t0.tm now (t.length:Nat)=B.bB t0.ra t0.mo (B.wi t0.ra t0.mo t0.hs t0.tm now (t.length:Nat)) now by unfold B.btD;rw [if_pos he],he] at q
  exact q
 have hmt:=kS rfl (uZ u f.fr hl) 1 m
 rw [hi] at hmt
 unfold rF rG
 generalize B.wi t0.ra t0.mo t0.hs t0.tm now (t.length:Nat)=HH at *
 generalize B.zS t0.ra t0.mo t0.hs t0.tm now=LL at *
 skip
 refine xf {} 2 Tryd.func40 fun Γ hN0 hL0=>auC ?_
 have hn:=hN0 0 _ rfl
 have hm:=hN0 1 _ rfl
 repeat' first|refine auS ?_|(first|((with_reducible refine zu 38 ?_);(refine zg [1] (by decide) rfl rfl hmt ?_))|(with_reducible refine z0 hb ?_)|((with_reducible refine z7 1 ?_ hdel (fun _ _ _ h=>h) ?_);(exact rfl)))|refine auD ?_|(refine auW ?_ ?_<;>intro h<;>try exact auH)|(first|(simp only [Int.toNat_natCast,Nat.zero_add,z5,ex,hw1])|(refine za ⟨by simpa using hlt,by trivial⟩ ?_)|fail)
 all_goals try exact auP
 have e1:X.map Mt.enc++[Mt.enc ⟨f.fr,t0.ra,t0.mo,HH,now⟩]=(X++[(⟨f.fr,t0.ra,t0.mo,HH,now⟩:Mt)]).map Mt.enc:=by rw [List.map_append];rfl
 have e2:(X.map Mt.enc).length+1=(X++[(⟨f.fr,t0.ra,t0.mo,HH,now⟩:Mt)]).length:=by simp
 rw [e1,e2]
 exact td [0,1,4] [Γ.g0+2] trivial (by decide) rfl (fun a ha=>by simp at ha;subst ha;exact ⟨4,_,rfl,rfl⟩) (fun q=>⟨rfl,trivial⟩) (fun q=>⟨⟨.inr ⟨hn,rfl⟩,rfl,vK u f t now (.inl ⟨0,rfl,rfl⟩),rfl⟩,⟨.inl ⟨0,rfl,rfl⟩,rfl,yk _ (xU _ _)⟩,rfl⟩)
set_option maxHeartbeats 4000000 in
theorem Yj (u:Hs) (f:Fl) (t:List UInt8) (now:Int) (hl:u.ms.length≤maxLen) (t0:Mt) (hra:t0.ra=u.p.ra) (hmo:t0.mo=u.p.mo) (hhs:t0.hs=u.p.mo) (htm:t0.tm=now) (hi:ze (fun m:Mt=>decide (m.ad=f.fr)) u.ms 0 = -1) (h64:u.ms.length=64) (he:B.wR t0.ra t0.mo t0.hs t0.tm now (t.length:Nat)=0) (n m:Nat) :
  wU Tryd.prog 40 [.ptr 0 n 23 0 0] [some ⟨n,23,[wkR u (.sl 1 m 5 0 u.ms.length false) f t now]⟩,some ⟨m,5,u.ms.map Mt.enc⟩] 1 (fun q d H=>d=.v (.bool (rG t0 now (t.length:Nat)))∧H=ZC u f t now n q (u.ms.drop 1++[rF f.fr t0 now (t.length:Nat)])):=by
 have hlt:True:=trivial
 have hdel:zy Tryd.prog 62 [.sl 1 m 5 0 u.ms.length false,.v (.int .i64 0),.v (.int .i64 1)] [some ⟨m,5,u.ms.map Mt.enc⟩] (fun d H=>d=.sl 1 m 5 0 (u.ms.drop 1).length false∧H=[some ⟨m,5,(u.ms.drop 1).map Mt.enc⟩]):=sN 1 u.ms 0 1 (by omega) (by omega) hl m
 have hX:(u.ms.drop 1).length≤64:=by simp;omega
 generalize u.ms.drop 1=X at *
 have hlen:(u.ms.map Mt.enc).length=u.ms.length:=List.length_map _
 have hb:zf Tryd.prog 63 [B.bB t0.ra t0.mo t0.hs t0.tm,.v (.int .i64 now),.v (.int .i64 (t.length:Nat))] (.tup [B.bB t0.ra t0.mo (B.wi t0.ra t0.mo t0.hs t0.tm now (t.length:Nat)) now,.v (.bool (decide ((t.length:Int)≤B.zS t0.ra t0.mo t0.hs t0.tm now))),.v (.int .i64 0)]):=by
  have q:=B.r7 t0.ra t0.mo t0.hs t0.tm now (t.length:Nat)
  rw [show B.btD t0.ra t0.mo t0.hs t0.tm now (t.length:Nat)=B.bB t0.ra t0.mo (B.wi t0.ra t0.mo t0.hs t0.tm now (t.length:Nat)) now by unfold B.btD;rw [if_pos he],he] at q
  exact q
 have hmt:=kS rfl (uZ u f.fr hl) 1 m
 rw [hi] at hmt
 unfold rF rG
 generalize B.wi t0.ra t0.mo t0.hs t0.tm now (t.length:Nat)=HH at *
 generalize B.zS t0.ra t0.mo t0.hs t0.tm now=LL at *
 simp only [hra,hmo,hhs,htm] at hb ⊢
 refine xf {} 2 Tryd.func40 fun Γ hN0 hL0=>auC ?_
 have hn:=hN0 0 _ rfl
 have hm:=hN0 1 _ rfl
 repeat' first|refine auS ?_|(first|((with_reducible refine zu 38 ?_);(refine zg [1] (by decide) rfl rfl hmt ?_))|(with_reducible refine z0 hb ?_)|((with_reducible refine z7 1 ?_ hdel (fun _ _ _ h=>h) ?_);(exact rfl)))|refine auD ?_|(refine auW ?_ ?_<;>intro h<;>try exact auH)|(first|(simp only [Int.toNat_natCast,Nat.zero_add,z5,hlt])|(refine za ⟨by simpa using hlt,by trivial⟩ ?_)|fail)
 all_goals try exact auP
 have e1:X.map Mt.enc++[Mt.enc ⟨f.fr,u.p.ra,u.p.mo,HH,now⟩]=(X++[(⟨f.fr,u.p.ra,u.p.mo,HH,now⟩:Mt)]).map Mt.enc:=by rw [List.map_append];rfl
 have e2:(X.map Mt.enc).length+1=(X++[(⟨f.fr,u.p.ra,u.p.mo,HH,now⟩:Mt)]).length:=by simp
 rw [e1,e2]
 exact td [0,1,4] [Γ.g0+2] trivial (by decide) rfl (fun a ha=>by simp at ha;subst ha;exact ⟨4,_,rfl,rfl⟩) (fun q=>⟨rfl,trivial⟩) (fun q=>⟨⟨.inr ⟨hn,rfl⟩,rfl,vK u f t now (.inl ⟨0,rfl,rfl⟩),rfl⟩,⟨.inl ⟨0,rfl,rfl⟩,rfl,yk _ (xU _ _)⟩,rfl⟩)
set_option maxHeartbeats 4000000 in
theorem bW (u:Hs) (f:Fl) (t:List UInt8) (now:Int) (hl:u.ms.length≤maxLen) (t0:Mt) (hra:t0.ra=u.p.ra) (hmo:t0.mo=u.p.mo) (hhs:t0.hs=u.p.mo) (htm:t0.tm=now) (hi:ze (fun m:Mt=>decide (m.ad=f.fr)) u.ms 0 = -1) (h64:u.ms.length<64) (he:B.wR t0.ra t0.mo t0.hs t0.tm now (t.length:Nat)=0) (n m:Nat) :
  wU Tryd.prog 40 [.ptr 0 n 23 0 0] [some ⟨n,23,[wkR u (.sl 1 m 5 0 u.ms.length false) f t now]⟩,some ⟨m,5,u.ms.map Mt.enc⟩] 1 (fun q d H=>d=.v (.bool (rG t0 now (t.length:Nat)))∧H=ZC u f t now n q (u.ms++[rF f.fr t0 now (t.length:Nat)])):=by
 have hlt:True:=trivial
 have hdel:True:=trivial
 have hX:u.ms.length≤64:=by omega
 have hlen:(u.ms.map Mt.enc).length=u.ms.length:=List.length_map _
 have hb:zf Tryd.prog 63 [B.bB t0.ra t0.mo t0.hs t0.tm,.v (.int .i64 now),.v (.int .i64 (t.length:Nat))] (.tup [B.bB t0.ra t0.mo (B.wi t0.ra t0.mo t0.hs t0.tm now (t.length:Nat)) now,.v (.bool (decide ((t.length:Int)≤B.zS t0.ra t0.mo t0.hs t0.tm now))),.v (.int .i64 0)]):=by
  have q:=B.r7 t0.ra t0.mo t0.hs t0.tm now (t.length:Nat)
  rw [show B.btD t0.ra t0.mo t0.hs t0.tm now (t.length:Nat)=B.bB t0.ra t0.mo (B.wi t0.ra t0.mo t0.hs t0.tm now (t.length:Nat)) now by unfold B.btD;rw [if_pos he],he] at q
  exact q
 have hmt:=kS rfl (uZ u f.fr hl) 1 m
 rw [hi] at hmt
 unfold rF rG
 generalize B.wi t0.ra t0.mo t0.hs t0.tm now (t.length:Nat)=HH at *
 generalize B.zS t0.ra t0.mo t0.hs t0.tm now=LL at *
 simp only [hra,hmo,hhs,htm] at hb ⊢
 refine xf {} 2 Tryd.func40 fun Γ hN0 hL0=>auC ?_
 have hn:=hN0 0 _ rfl
 have hm:=hN0 1 _ rfl
 repeat' first|refine auS ?_|(first|((with_reducible refine zu 38 ?_);(refine zg [1] (by decide) rfl rfl hmt ?_))|(with_reducible refine z0 hb ?_)|((with_reducible refine z7 1 ?_ hdel (fun _ _ _ h=>h) ?_);(exact rfl)))|refine auD ?_|(refine auW ?_ ?_<;>intro h<;>try exact auH)|(first|(simp only [Int.toNat_natCast,Nat.zero_add,z5,hlt])|(refine za ⟨by simpa using hlt,by trivial⟩ ?_)|fail)
 all_goals try exact auP
 have e1:u.ms.map Mt.enc++[Mt.enc ⟨f.fr,u.p.ra,u.p.mo,HH,now⟩]=(u.ms++[(⟨f.fr,u.p.ra,u.p.mo,HH,now⟩:Mt)]).map Mt.enc:=by rw [List.map_append];rfl
 have e2:(u.ms.map Mt.enc).length+1=(u.ms++[(⟨f.fr,u.p.ra,u.p.mo,HH,now⟩:Mt)]).length:=by simp
 rw [e1,e2]
 exact td [0,1,4] [Γ.g0+2] trivial (by decide) rfl (fun a ha=>by simp at ha;subst ha;exact ⟨4,_,rfl,rfl⟩) (fun q=>⟨rfl,trivial⟩) (fun q=>⟨⟨.inr ⟨hn,rfl⟩,rfl,vK u f t now (.inl ⟨0,rfl,rfl⟩),rfl⟩,⟨.inl ⟨0,rfl,rfl⟩,rfl,yk _ (xU _ _)⟩,rfl⟩)
end Go.Proofs.YtmibknbmhcnemaaDoor
