import Derived.Test.YtmibknbmhcnemaaGreatDoorTw22
import Derived.Test.YtmibknbmhcnemaaGreatDoorTw33
set_option linter.unusedVariables false
set_option linter.unusedSimpArgs false
namespace Go.Proofs.YtmibknbmhcnemaaGreatDoor
attribute [local irreducible] zu Go
set_option maxRecDepth 100000
abbrev wkR (u:Hs) (d:DV) (f:Fl) (t:List UInt8) (now:Int):List DV:=[.v (.int .u32 u.p.ou),.v (.int .i64 u.p.lt),.v (.int .i64 u.p.st),.v (.int .i64 u.p.lf),.v (.int .i64 u.p.ra),.v (.int .i64 u.p.mo),.snap 10 (u.p.rs.map R.Rl.enc) false,.v (.bool u.p.el),d,.snap 7 (u.tr.map T.Tk.enc) false,
 .v (.int .i64 u.n.l),.v (.int .i64 u.n.b1),.v (.int .u64 (u.n.t1:Int)),.v (.int .i64 u.n.b2),.v (.int .u64 (u.n.t2:Int)),.snap 5 (u.n.ms.map A.Mp.enc) false,.v (.int .u32 f.fr),.v (.int .u32 f.to),.v (.int .i64 f.proto),.v (.int .i64 f.fp),.v (.int .i64 f.tp),.v (.string (mkS t)),.v (.int .i64 now)]
theorem vR {g q lb lb' m m' len:Nat} {ns:List Nat} (u:Hs) (f:Fl) (t:List UInt8) (now:Int) (h:qs g ns q m m'):uA g ns q (wkR u (.sl lb m 5 0 len false) f t now) (wkR u (.sl lb' m' 5 0 len false) f t now):=
 ⟨⟨rfl,trivial⟩,⟨rfl,trivial⟩,⟨rfl,trivial⟩,⟨rfl,trivial⟩,⟨rfl,trivial⟩,⟨rfl,trivial⟩,⟨rfl,kU _ _⟩,⟨rfl,trivial⟩,⟨lb',m',h,rfl⟩,⟨rfl,fk _ _⟩,⟨rfl,trivial⟩,⟨rfl,trivial⟩,⟨rfl,trivial⟩,⟨rfl,trivial⟩,⟨rfl,trivial⟩,⟨rfl,A.um _ _⟩,⟨rfl,trivial⟩,⟨rfl,trivial⟩,⟨rfl,trivial⟩,⟨rfl,trivial⟩,⟨rfl,trivial⟩,⟨rfl,trivial⟩,⟨rfl,trivial⟩,rfl⟩
set_option maxHeartbeats 1000000 in
theorem eN (l:List Mt) (i j:Nat) (hij:i≤j) (hj:j≤l.length) (hl:l.length≤maxLen) (n:Nat):zz Tryz.prog 102 [.sl 0 n 5 0 l.length false,.v (.int .i64 i),.v (.int .i64 j)] [some ⟨n,5,l.map Mt.enc⟩] (fun d H=>d=.sl 0 n 5 0 (l.take i++l.drop j).length false∧H=[some ⟨n,5,(l.take i++l.drop j).map Mt.enc⟩]):=by
 have hones:∀r:List Mt,zE (r.map Mt.enc)=true:=zP (fun x=>rfl)
 have ej:zC (zF (l.map Mt.enc) j) ((l.length:Int)-j).toNat=(l.drop j).map Mt.enc:=by rw [zm,zS,←List.map_drop,←List.map_take,List.take_of_length_le (by rw [List.length_drop];omega)]
 have hlen:(zC (l.map Mt.enc) i++((l.drop j).map Mt.enc++zF (l.map Mt.enc) (i+(l.length-j)))).length=l.length:=by rw [zm,zS];simp;omega
 unfold maxLen at hl
 refine zw {inpl:=true} 1 Tryz.func102 fun Γ hN0 hL0=>auC ?_
 have hn:n<Γ.g0:=hN0 0 _ rfl
 repeat' first|refine auS ?_|fail|refine auD ?_|(refine auW ?_ ?_<;>intro h<;>try exact auH)|(first|(simp only [Int.toNat_natCast,Nat.zero_add,ej,List.length_map,List.length_drop])|(refine z_ ⟨by trivial,by trivial,by trivial,by omega,hones _⟩ ?_)|(refine z_ ⟨by trivial,by trivial,by trivial,by omega,by omega,by omega,by (rw [hlen];omega)⟩ ?_)|(refine z_ ⟨by trivial,by trivial,by trivial,by (rw [hlen];omega),by trivial⟩ ?_)|fail)
 ·have hij2:i=j:=by (simp only [hsL,reduceCtorEq] at *<;>omega)
  subst hij2
  rw [List.take_append_drop]
  exact yi trivial hn rfl rfl hn (zg (fun x=>by simp [nfL,nfD])) rfl
 ·refine zl (yp (lH ⟨.d0,.d0,.d6⟩ rfl)) (zl (yp (sE 0 (i+(l.length-j)) rfl)) (yi trivial hn ?_ rfl hn (zg (fun x=>by simp [nfL,nfD])) ?_))
  ·have e:(l.take i++l.drop j).length=i+(l.length-j):=by simp;omega
   rw [e]
   rfl
  ·refine (lk (by rw [zm];simp;omega)).trans ?_
   rw [zm,List.map_append,List.map_take]
theorem sN (k:Nat) (l:List Mt) (i j:Nat) (hij:i≤j) (hj:j≤l.length) (hl:l.length≤maxLen) (n:Nat):zz Tryz.prog 102 [.sl k n 5 0 l.length false,.v (.int .i64 i),.v (.int .i64 j)] [some ⟨n,5,l.map Mt.enc⟩] (fun d H=>d=.sl k n 5 0 (l.take i++l.drop j).length false∧H=[some ⟨n,5,(l.take i++l.drop j).map Mt.enc⟩]):=
 zY k (uO (eN l i j hij hj hl n) (fun _ _ _=>xO))
def pd (a:Int) (m:Mt) (now n:Int):Mt:=⟨a,m.ra,m.mo,B.uD m.ra m.mo m.hs m.tm now n,now⟩
def qT (m:Mt) (now n:Int):Bool:=decide (n≤B.xc m.ra m.mo m.hs m.tm now)
abbrev Zd (u:Hs) (f:Fl) (t:List UInt8) (now:Int) (n q:Nat) (l:List Mt):HL:=[some ⟨n,23,[wkR u (.sl 4 q 5 0 l.length false) f t now]⟩,none,some ⟨q,5,l.map Mt.enc⟩]
set_option maxHeartbeats 4000000 in
theorem X_ (u:Hs) (f:Fl) (t:List UInt8) (now:Int) (hl:u.ms.length≤maxLen) (i:Nat) (t0:Mt) (h0:u.ms[i]?=some t0) (hi:ze (fun m:Mt=>decide (m.ad=f.fr)) u.ms 0=i) (h64:u.ms.length≤64) (he:B.v8 t0.ra t0.mo t0.hs t0.tm now (t.length:Nat)=0) (n m:Nat) :
  vd Tryz.prog 61 [.ptr 0 n 23 0 0] [some ⟨n,23,[wkR u (.sl 1 m 5 0 u.ms.length false) f t now]⟩,some ⟨m,5,u.ms.map Mt.enc⟩] 1 (fun q d H=>d=.v (.bool (qT t0 now (t.length:Nat)))∧H=Zd u f t now n q (u.ms.take i++u.ms.drop (i+1)++[pd f.fr t0 now (t.length:Nat)])):=by
 have hlt:=(List.getElem?_eq_some_iff.1 h0).1
 have ex:=lI h0
 have hdel:=sN 1 u.ms i (i+1) (by omega) (by omega) hl m
 have hw1:IntKind.i64.wrap ((i:Int)+1)=((i+1:Nat):Int):=(IntWalk.i64_in _ (by unfold maxLen at hl;omega)).trans (by omega)
 have hX:(u.ms.take i++u.ms.drop (i+1)).length≤64:=by simp;omega
 generalize u.ms.take i++u.ms.drop (i+1)=X at *
 have hlen:(u.ms.map Mt.enc).length=u.ms.length:=List.length_map _
 have hb:zc Tryz.prog 103 [B.bB t0.ra t0.mo t0.hs t0.tm,.v (.int .i64 now),.v (.int .i64 (t.length:Nat))] (.tup [B.bB t0.ra t0.mo (B.uD t0.ra t0.mo t0.hs t0.tm now (t.length:Nat)) now,.v (.bool (decide ((t.length:Int)≤B.xc t0.ra t0.mo t0.hs t0.tm now))),.v (.int .i64 0)]):=by
  have q:=B.rm t0.ra t0.mo t0.hs t0.tm now (t.length:Nat)
  rw [show B.btD t0.ra t0.mo t0.hs t0.tm now (t.length:Nat)=B.bB t0.ra t0.mo (B.uD t0.ra t0.mo t0.hs t0.tm now (t.length:Nat)) now by unfold B.btD;rw [if_pos he],he] at q
  exact q
 have hmt:=jb rfl (th u f.fr hl) 1 m
 rw [hi] at hmt
 unfold pd qT
 generalize B.uD t0.ra t0.mo t0.hs t0.tm now (t.length:Nat)=HH at *
 generalize B.xc t0.ra t0.mo t0.hs t0.tm now=LL at *
 skip
 refine xB {} 2 Tryz.func61 fun Γ hN0 hL0=>auC ?_
 have hn:=hN0 0 _ rfl
 have hm:=hN0 1 _ rfl
 repeat' first|refine auS ?_|(first|((with_reducible refine zD 44 ?_);(refine zk [1] (by decide) rfl rfl hmt ?_))|(with_reducible refine z0 hb ?_)|((with_reducible refine z6 1 ?_ hdel (fun _ _ _ h=>h) ?_);(exact rfl)))|refine auD ?_|(refine auW ?_ ?_<;>intro h<;>try exact auH)|(first|(simp only [Int.toNat_natCast,Nat.zero_add,z5,ex,hw1])|(refine z_ ⟨by simpa using hlt,by trivial⟩ ?_)|fail)
 all_goals try exact auP
 have e1:X.map Mt.enc++[Mt.enc ⟨f.fr,t0.ra,t0.mo,HH,now⟩]=(X++[(⟨f.fr,t0.ra,t0.mo,HH,now⟩:Mt)]).map Mt.enc:=by rw [List.map_append];rfl
 have e2:(X.map Mt.enc).length+1=(X++[(⟨f.fr,t0.ra,t0.mo,HH,now⟩:Mt)]).length:=by simp
 rw [e1,e2]
 exact tJ [0,1,4] [Γ.g0+2] trivial (by decide) rfl (fun a ha=>by simp at ha;subst ha;exact ⟨4,_,rfl,rfl⟩) (fun q=>⟨rfl,trivial⟩) (fun q=>⟨⟨.inr ⟨hn,rfl⟩,rfl,vR u f t now (.inl ⟨0,rfl,rfl⟩),rfl⟩,⟨.inl ⟨0,rfl,rfl⟩,rfl,yz _ (w_ _ _)⟩,rfl⟩)
set_option maxHeartbeats 4000000 in
theorem YA (u:Hs) (f:Fl) (t:List UInt8) (now:Int) (hl:u.ms.length≤maxLen) (t0:Mt) (hra:t0.ra=u.p.ra) (hmo:t0.mo=u.p.mo) (hhs:t0.hs=u.p.mo) (htm:t0.tm=now) (hi:ze (fun m:Mt=>decide (m.ad=f.fr)) u.ms 0 = -1) (h64:u.ms.length=64) (he:B.v8 t0.ra t0.mo t0.hs t0.tm now (t.length:Nat)=0) (n m:Nat) :
  vd Tryz.prog 61 [.ptr 0 n 23 0 0] [some ⟨n,23,[wkR u (.sl 1 m 5 0 u.ms.length false) f t now]⟩,some ⟨m,5,u.ms.map Mt.enc⟩] 1 (fun q d H=>d=.v (.bool (qT t0 now (t.length:Nat)))∧H=Zd u f t now n q (u.ms.drop 1++[pd f.fr t0 now (t.length:Nat)])):=by
 have hlt:True:=trivial
 have hdel:zz Tryz.prog 102 [.sl 1 m 5 0 u.ms.length false,.v (.int .i64 0),.v (.int .i64 1)] [some ⟨m,5,u.ms.map Mt.enc⟩] (fun d H=>d=.sl 1 m 5 0 (u.ms.drop 1).length false∧H=[some ⟨m,5,(u.ms.drop 1).map Mt.enc⟩]):=sN 1 u.ms 0 1 (by omega) (by omega) hl m
 have hX:(u.ms.drop 1).length≤64:=by simp;omega
 generalize u.ms.drop 1=X at *
 have hlen:(u.ms.map Mt.enc).length=u.ms.length:=List.length_map _
 have hb:zc Tryz.prog 103 [B.bB t0.ra t0.mo t0.hs t0.tm,.v (.int .i64 now),.v (.int .i64 (t.length:Nat))] (.tup [B.bB t0.ra t0.mo (B.uD t0.ra t0.mo t0.hs t0.tm now (t.length:Nat)) now,.v (.bool (decide ((t.length:Int)≤B.xc t0.ra t0.mo t0.hs t0.tm now))),.v (.int .i64 0)]):=by
  have q:=B.rm t0.ra t0.mo t0.hs t0.tm now (t.length:Nat)
  rw [show B.btD t0.ra t0.mo t0.hs t0.tm now (t.length:Nat)=B.bB t0.ra t0.mo (B.uD t0.ra t0.mo t0.hs t0.tm now (t.length:Nat)) now by unfold B.btD;rw [if_pos he],he] at q
  exact q
 have hmt:=jb rfl (th u f.fr hl) 1 m
 rw [hi] at hmt
 unfold pd qT
 generalize B.uD t0.ra t0.mo t0.hs t0.tm now (t.length:Nat)=HH at *
 generalize B.xc t0.ra t0.mo t0.hs t0.tm now=LL at *
 simp only [hra,hmo,hhs,htm] at hb ⊢
 refine xB {} 2 Tryz.func61 fun Γ hN0 hL0=>auC ?_
 have hn:=hN0 0 _ rfl
 have hm:=hN0 1 _ rfl
 repeat' first|refine auS ?_|(first|((with_reducible refine zD 44 ?_);(refine zk [1] (by decide) rfl rfl hmt ?_))|(with_reducible refine z0 hb ?_)|((with_reducible refine z6 1 ?_ hdel (fun _ _ _ h=>h) ?_);(exact rfl)))|refine auD ?_|(refine auW ?_ ?_<;>intro h<;>try exact auH)|(first|(simp only [Int.toNat_natCast,Nat.zero_add,z5,hlt])|(refine z_ ⟨by simpa using hlt,by trivial⟩ ?_)|fail)
 all_goals try exact auP
 have e1:X.map Mt.enc++[Mt.enc ⟨f.fr,u.p.ra,u.p.mo,HH,now⟩]=(X++[(⟨f.fr,u.p.ra,u.p.mo,HH,now⟩:Mt)]).map Mt.enc:=by rw [List.map_append];rfl
 have e2:(X.map Mt.enc).length+1=(X++[(⟨f.fr,u.p.ra,u.p.mo,HH,now⟩:Mt)]).length:=by simp
 rw [e1,e2]
 exact tJ [0,1,4] [Γ.g0+2] trivial (by decide) rfl (fun a ha=>by simp at ha;subst ha;exact ⟨4,_,rfl,rfl⟩) (fun q=>⟨rfl,trivial⟩) (fun q=>⟨⟨.inr ⟨hn,rfl⟩,rfl,vR u f t now (.inl ⟨0,rfl,rfl⟩),rfl⟩,⟨.inl ⟨0,rfl,rfl⟩,rfl,yz _ (w_ _ _)⟩,rfl⟩)
set_option maxHeartbeats 4000000 in
theorem ap (u:Hs) (f:Fl) (t:List UInt8) (now:Int) (hl:u.ms.length≤maxLen) (t0:Mt) (hra:t0.ra=u.p.ra) (hmo:t0.mo=u.p.mo) (hhs:t0.hs=u.p.mo) (htm:t0.tm=now) (hi:ze (fun m:Mt=>decide (m.ad=f.fr)) u.ms 0 = -1) (h64:u.ms.length<64) (he:B.v8 t0.ra t0.mo t0.hs t0.tm now (t.length:Nat)=0) (n m:Nat) :
  vd Tryz.prog 61 [.ptr 0 n 23 0 0] [some ⟨n,23,[wkR u (.sl 1 m 5 0 u.ms.length false) f t now]⟩,some ⟨m,5,u.ms.map Mt.enc⟩] 1 (fun q d H=>d=.v (.bool (qT t0 now (t.length:Nat)))∧H=Zd u f t now n q (u.ms++[pd f.fr t0 now (t.length:Nat)])):=by
 have hlt:True:=trivial
 have hdel:True:=trivial
 have hX:u.ms.length≤64:=by omega
 have hlen:(u.ms.map Mt.enc).length=u.ms.length:=List.length_map _
 have hb:zc Tryz.prog 103 [B.bB t0.ra t0.mo t0.hs t0.tm,.v (.int .i64 now),.v (.int .i64 (t.length:Nat))] (.tup [B.bB t0.ra t0.mo (B.uD t0.ra t0.mo t0.hs t0.tm now (t.length:Nat)) now,.v (.bool (decide ((t.length:Int)≤B.xc t0.ra t0.mo t0.hs t0.tm now))),.v (.int .i64 0)]):=by
  have q:=B.rm t0.ra t0.mo t0.hs t0.tm now (t.length:Nat)
  rw [show B.btD t0.ra t0.mo t0.hs t0.tm now (t.length:Nat)=B.bB t0.ra t0.mo (B.uD t0.ra t0.mo t0.hs t0.tm now (t.length:Nat)) now by unfold B.btD;rw [if_pos he],he] at q
  exact q
 have hmt:=jb rfl (th u f.fr hl) 1 m
 rw [hi] at hmt
 unfold pd qT
 generalize B.uD t0.ra t0.mo t0.hs t0.tm now (t.length:Nat)=HH at *
 generalize B.xc t0.ra t0.mo t0.hs t0.tm now=LL at *
 simp only [hra,hmo,hhs,htm] at hb ⊢
 refine xB {} 2 Tryz.func61 fun Γ hN0 hL0=>auC ?_
 have hn:=hN0 0 _ rfl
 have hm:=hN0 1 _ rfl
 repeat' first|refine auS ?_|(first|((with_reducible refine zD 44 ?_);(refine zk [1] (by decide) rfl rfl hmt ?_))|(with_reducible refine z0 hb ?_)|((with_reducible refine z6 1 ?_ hdel (fun _ _ _ h=>h) ?_);(exact rfl)))|refine auD ?_|(refine auW ?_ ?_<;>intro h<;>try exact auH)|(first|(simp only [Int.toNat_natCast,Nat.zero_add,z5,hlt])|(refine z_ ⟨by simpa using hlt,by trivial⟩ ?_)|fail)
 all_goals try exact auP
 have e1:u.ms.map Mt.enc++[Mt.enc ⟨f.fr,u.p.ra,u.p.mo,HH,now⟩]=(u.ms++[(⟨f.fr,u.p.ra,u.p.mo,HH,now⟩:Mt)]).map Mt.enc:=by rw [List.map_append];rfl
 have e2:(u.ms.map Mt.enc).length+1=(u.ms++[(⟨f.fr,u.p.ra,u.p.mo,HH,now⟩:Mt)]).length:=by simp
 rw [e1,e2]
 exact tJ [0,1,4] [Γ.g0+2] trivial (by decide) rfl (fun a ha=>by simp at ha;subst ha;exact ⟨4,_,rfl,rfl⟩) (fun q=>⟨rfl,trivial⟩) (fun q=>⟨⟨.inr ⟨hn,rfl⟩,rfl,vR u f t now (.inl ⟨0,rfl,rfl⟩),rfl⟩,⟨.inl ⟨0,rfl,rfl⟩,rfl,yz _ (w_ _ _)⟩,rfl⟩)
end Go.Proofs.YtmibknbmhcnemaaGreatDoor
