import Derived.Test.YtmibknbmhcnemaaGreatDoorTw42
set_option linter.unusedVariables false
set_option linter.unusedSimpArgs false
namespace Go.Proofs.YtmibknbmhcnemaaGreatDoor.E
attribute [local irreducible] zu Go
set_option maxRecDepth 100000
set_option maxHeartbeats 1000000 in
theorem aT (l:List Sn) (c:Bool) (hl:zW l.length 24):xG Tryz.prog 22 [.snap 8 (l.map Sn.enc) c] [] (fun n d H=>d=.sl 1 n 8 0 l.length false∧H=[some ⟨n,8,l.map Sn.enc⟩]):=by
 have hones:∀r:List Sn,zE (r.map Sn.enc)=true:=zP (fun x=>rfl)
 cases l with
 |nil=>
  refine ve {} 0 Tryz.func22 fun Γ hW=>auC ?_
  dsimp only [List.map]
  repeat' first|refine auS ?_|(with_reducible refine wq ?_)|refine auD ?_|(refine auW ?_ ?_<;>intro h<;>try exact auH)|fail
  ·refine rR (yp (vi ⟨.d0,.d0,.d2⟩ 1 8 rfl rfl)) ?_
   exact yM 1 (fun n=>.sl 1 n 8 0 0 false) trivial rfl (Nat.le_refl _) trivial (fun n=>.inl ⟨rfl,rfl⟩) (fun n=>⟨rfl,rfl⟩)
  ·exact yM 1 (fun n=>.sl 1 n 8 0 0 false) trivial rfl (by show Γ.g0≤Γ.g0+1;omega) trivial (fun n=>.inl ⟨rfl,rfl⟩) (fun n=>⟨rfl,rfl⟩)
 |cons x r=>
  refine ve {} 0 Tryz.func22 fun Γ hW=>auC ?_
  dsimp only [List.map]
  repeat' first|refine auS ?_|(with_reducible refine wq ?_)|refine auD ?_|(refine auW ?_ ?_<;>intro h<;>try exact auH)|(refine z_ ⟨Or.inl (by omega),rfl,hones _,by simp only [zW,maxLen,List.length_map,List.length_cons] at hl ⊢;omega⟩ ?_)
  refine yM 1 (fun n=>.sl 1 n 8 0 (x::r).length false) trivial rfl (by show Γ.g0≤Γ.g0+1;omega) ?_ (fun n=>.inl ⟨rfl,?_⟩) (fun n=>⟨rfl,rfl⟩)
  ·exact (zg (fun x=>by simp [nfL,nfD]):yR Γ.g0 ((x::r).map Sn.enc))
  ·simp [List.length_map]
theorem yr (j:Nat) (l:List Sn) (c:Bool) (hl:zW l.length 24):xG Tryz.prog 22 [.snap 8 (l.map Sn.enc) c] [] (fun n d H=>d=.sl j n 8 0 l.length false∧H=[some ⟨n,8,l.map Sn.enc⟩]):=
 tY (aT l c hl) (fun K w n v h=>xO h)
set_option maxHeartbeats 1000000 in
theorem fG (l:List Sn) (i j:Nat) (hij:i≤j) (hj:j≤l.length) (hl:l.length≤maxLen) (n:Nat):zz Tryz.prog 53 [.sl 0 n 8 0 l.length false,.v (.int .i64 i),.v (.int .i64 j)] [some ⟨n,8,l.map Sn.enc⟩] (fun d H=>d=.sl 0 n 8 0 (l.take i++l.drop j).length false∧H=[some ⟨n,8,(l.take i++l.drop j).map Sn.enc⟩]):=by
 have hones:∀r:List Sn,zE (r.map Sn.enc)=true:=zP (fun x=>rfl)
 have ej:zC (zF (l.map Sn.enc) j) ((l.length:Int)-j).toNat=(l.drop j).map Sn.enc:=by rw [zm,zS,←List.map_drop,←List.map_take,List.take_of_length_le (by rw [List.length_drop];omega)]
 have hlen:(zC (l.map Sn.enc) i++((l.drop j).map Sn.enc++zF (l.map Sn.enc) (i+(l.length-j)))).length=l.length:=by rw [zm,zS];simp;omega
 unfold maxLen at hl
 refine zw {inpl:=true} 1 Tryz.func53 fun Γ hN0 hL0=>auC ?_
 have hn:n<Γ.g0:=hN0 0 _ rfl
 repeat' first|refine auS ?_|fail|refine auD ?_|(refine auW ?_ ?_<;>intro h<;>try exact auH)|(first|(simp only [Int.toNat_natCast,Nat.zero_add,ej,List.length_map,List.length_drop])|(refine z_ ⟨by trivial,by trivial,by trivial,by omega,hones _⟩ ?_)|(refine z_ ⟨by trivial,by trivial,by trivial,by omega,by omega,by omega,by (rw [hlen];omega)⟩ ?_)|(refine z_ ⟨by trivial,by trivial,by trivial,by (rw [hlen];omega),by trivial⟩ ?_)|fail)
 ·have hij2:i=j:=by (simp only [hsL,reduceCtorEq] at *<;>omega)
  subst hij2
  rw [List.take_append_drop]
  exact yi trivial hn rfl rfl hn (zg (fun x=>by simp [nfL,nfD])) rfl
 ·refine zl (yp (lH ⟨.d0,.d0,.d6⟩ rfl)) (zl (yp (sE 0 (i+(l.length-j)) rfl)) (yi trivial hn ?_ rfl hn (zg (fun x=>by simp [nfL,nfD])) ?_))
  ·have e:(l.take i++l.drop j).length=i+(l.length-j):=by simp;omega
   rw [e]
   rfl
  ·refine (lk (by rw [zm];simp;omega)).trans ?_
   rw [zm,List.map_append,List.map_take]
set_option maxHeartbeats 1000000 in
theorem dq {g:FuncId} {caps:List DV} (p:Sn→Bool) (l:List Sn) (hl:l.length≤maxLen) (n:Nat) (hg:∀t∈l,zc Tryz.prog g (.agg (Sn.enc t)::caps) (.v (.bool (p t)))):zz Tryz.prog 89 [.sl 0 n 8 0 l.length false,.fn (.func g) [] caps] [some ⟨n,8,l.map Sn.enc⟩] (fun d H=>d=.v (.int .i64 (ze p l 0))∧H=[some ⟨n,8,l.map Sn.enc⟩]):=by
 unfold maxLen at hl
 refine zw {} 0 Tryz.func89 fun Γ hN0 hL0=>auC ?_
 have hn:n<Γ.g0:=hN0 0 _ rfl
 repeat' first|refine auS ?_|fail|refine auD ?_|(refine auW ?_ ?_<;>intro h<;>try exact auH)|fail
 refine zx (α:=Nat) (fun k=>[(⟨.d0,.d1,.d0⟩,.v (.int .i64 (k:Nat)))]) (fun _=>[]) (fun _=>Γ.g0) (fun k=>l.length-k) (fun k=>k≤l.length∧ze p l 0=ze p (l.drop k) k) 0 ⟨Nat.zero_le _,rfl⟩ ?_ ?_
 ·skip
  refine zp ?_ ?_ (Nat.le_refl _)
  all_goals first|refine auE ?_|exact zJ
  all_goals repeat' first|exact trivial|exact rfl|apply And.intro
 ·rintro k ⟨hk,hp⟩
  refine auL ?_
  by_cases hlt:k<l.length
  ·obtain ⟨t,ht⟩:∃t,l[k]?=some t:=⟨_,List.getElem?_eq_getElem hlt⟩
   have ex:=yn Sn.enc l k t ht
   have hgt:=hg t (List.mem_of_getElem? ht)
   rw [List.drop_eq_getElem_cons hlt,show l[k]=t from Option.some.inj ((List.getElem?_eq_getElem hlt).symm.trans ht)] at hp
   repeat' first|refine auS ?_|(with_reducible refine z0 hgt ?_)|refine auD ?_|(refine auW ?_ ?_<;>intro h<;>try exact auH)|(first|simp only [Int.toNat_natCast,ex,Nat.zero_add]|(refine z_ ⟨by simpa using hlt,by trivial⟩ ?_)|fail)
   all_goals try exact auP
   ·refine yi trivial trivial ?_ rfl hn (zg (fun x=>by simp [nfL,nfD])) rfl
    rw [hp]
    simp [ze, *]
    rfl
   ·refine zo ?_
    refine ⟨k+1,⟨Nat.succ_le_of_lt hlt,by rw [hp];simp [ze, *]⟩,Nat.sub_lt_sub_left hlt (Nat.lt_succ_self k),?_⟩
    refine zp ?_ ?_ (Nat.le_refl _)
    all_goals first|refine auE ?_|exact zJ
    all_goals repeat' first|exact trivial|exact rfl|apply And.intro
    exact zL ((IntWalk.i64_in _ (by omega)).trans (by omega))
  ·skip
   repeat' first|refine auS ?_|fail|refine auD ?_|(refine auW ?_ ?_<;>intro h<;>try exact auH)|fail
   all_goals try exact auP
   refine yi trivial trivial ?_ rfl hn (zg (fun x=>by simp [nfL,nfD])) rfl
   obtain rfl:k=l.length:=by omega
   rw [hp,List.drop_length]
   rfl
set_option maxHeartbeats 2000000 in
theorem iz {g:FuncId} {caps:List DV} (p:Sn→Bool) (l:List Sn) (hl:l.length≤maxLen) (n:Nat) (hg:∀t∈l,zc Tryz.prog g (.agg (Sn.enc t)::caps) (.v (.bool (p t)))):zz Tryz.prog 51 [.sl 0 n 8 0 l.length false,.fn (.func g) [] caps] [some ⟨n,8,l.map Sn.enc⟩] (fun d H=>d=.sl 0 n 8 0 (l.filter (fun t=>!p t)).length false∧H=[some ⟨n,8,(l.filter (fun t=>!p t)).map Sn.enc⟩]):=by
 have hidx:=dq (g:=g) (caps:=caps) p l hl n hg
 unfold maxLen at hl
 rcases xm p l 0 with ⟨h1,h2⟩|⟨i0,t0,h1,h2,h3,h4⟩
 ·rw [h1] at hidx
  refine zw {} 1 Tryz.func51 fun Γ hN0 hL0=>auC ?_
  have hn:n<Γ.g0:=hN0 0 _ rfl
  repeat' first|refine auS ?_|((with_reducible refine z6 0 ?_ hidx (fun _ _ _ h=>h) ?_);(exact rfl))|refine auD ?_|(refine auW ?_ ?_<;>intro h<;>try exact auH)|fail
  rw [ul h2]
  exact yi trivial hn rfl rfl hn (zg (fun x=>by simp [nfL,nfD])) rfl
 ·rw [h4,Nat.zero_add] at hidx
  have hi0:i0<l.length:=(List.getElem?_eq_some_iff.1 h1).1
  have hf0:(l.take (i0+1)).filter (fun t=>!p t)=l.take i0:=by
   rw [List.take_add_one,h1,List.filter_append,ul h3]
   simp [h2]
  refine zw {} 1 Tryz.func51 fun Γ hN0 hL0=>auC ?_
  have hn:n<Γ.g0:=hN0 0 _ rfl
  repeat' first|refine auS ?_|((with_reducible refine z6 0 ?_ hidx (fun _ _ _ h=>h) ?_);(exact rfl))|refine auD ?_|(refine auW ?_ ?_<;>intro h<;>try exact auH)|fail
  refine zx (α:=Nat×Nat×List (List DV)) (fun a=>[(⟨.d0,.d0,.d5⟩,.v (.int .i64 (((l.take a.1).filter (fun t=>!p t)).length:Nat))),(⟨.d0,.d0,.d6⟩,.v (.int .i64 (a.1:Nat)))]) (fun a=>[(0,some ⟨n,8,((l.take a.1).filter (fun t=>!p t)).map Sn.enc++(a.2.2++(l.drop a.1).map Sn.enc)⟩),(1,none)]) (fun a=>a.2.1) (fun a=>l.length-a.1)
   (fun a=>a.1≤l.length∧((l.take a.1).filter (fun t=>!p t)).length+a.2.2.length=a.1∧0<a.2.2.length∧∀x∈a.2.2,∃t:Sn,x=Sn.enc t) (i0+1,Γ.g0,[Sn.enc t0]) ⟨hi0,by rw [hf0,List.length_take];simp;omega,by simp,fun x hx=>⟨t0,by simpa using hx⟩⟩ ?_ ?_
  ·skip
   refine zp ?_ ?_ (Nat.le_refl _)
   all_goals first|refine auE ?_|exact zJ
   all_goals repeat' first|exact trivial|exact rfl|apply And.intro
   all_goals first
    |exact zL (by rw [hf0,List.length_take];omega)
    |exact zL ((IntWalk.i64_in _ (by omega)).trans (by omega))
    |(refine congrArg some (congrArg (zd.mk n 8) ?_)
      have:t0::l.drop (i0+1)=l.drop i0:=by rw [List.drop_eq_getElem_cons hi0,show l[i0]=t0 from Option.some.inj ((List.getElem?_eq_getElem hi0).symm.trans h1)]
      rw [hf0,show [Sn.enc t0]++(l.drop (i0+1)).map Sn.enc=(t0::l.drop (i0+1)).map Sn.enc from rfl,this,←List.map_append,List.take_append_drop])
  ·rintro ⟨j,gn,G⟩ ⟨hj,hlen,hG0,hG⟩
   dsimp only at hj hlen hG0 hG ⊢
   refine auL ?_
   by_cases hlt:j<l.length
   ·obtain ⟨t,ht⟩:∃t,l[j]?=some t:=⟨_,List.getElem?_eq_getElem hlt⟩
    have hgt:=hg t (List.mem_of_getElem? ht)
    have ex:=km (f:=Sn.enc) (((l.take j).filter (fun t=>!p t)).map Sn.enc) G ht (by simpa using hlen)
    have hdrop:(l.drop j).map Sn.enc=Sn.enc t::(l.drop (j+1)).map Sn.enc:=by rw [List.drop_eq_getElem_cons hlt,show l[j]=t from Option.some.inj ((List.getElem?_eq_getElem hlt).symm.trans ht)];rfl
    have y8:l.take (j+1)=l.take j++[t]:=by rw [List.take_add_one,ht];rfl
    have hobl:(((l.take j).filter (fun t=>!p t)).map Sn.enc++(G++(l.drop j).map Sn.enc)).length=l.length:=by simp;omega
    repeat' first|refine auS ?_|(with_reducible refine z0 hgt ?_)|refine auD ?_|(refine auW ?_ ?_<;>intro h<;>try exact auH)|(first|simp only [Int.toNat_natCast,ex,Nat.zero_add]|(refine z_ ⟨by (rw [hobl];omega),by trivial⟩ ?_)|fail)
    all_goals try exact auP
    ·obtain ⟨x,G',rfl⟩:∃x G',G=x::G':=by
      cases G with
      |nil=>simp at hG0
      |cons x G'=>exact ⟨x,G',rfl⟩
     obtain ⟨t',rfl⟩:=hG x (by simp)
     have hpt:p t=false:=by simpa using h
     have hft:(l.take (j+1)).filter (fun t=>!p t)=(l.take j).filter (fun t=>!p t)++[t]:=by rw [y8,List.filter_append];simp [hpt]
     have hxx:=o_ (Sn.enc t') (Sn.enc t) G' ((l.drop j).map Sn.enc) (((l.take j).filter (fun t=>!p t)).map Sn.enc)
     rw [List.length_map] at hxx
     have hxg:yh (((l.take j).filter (fun t=>!p t)).map Sn.enc++(Sn.enc t'::G'++(l.drop j).map Sn.enc)) ((l.take j).filter (fun t=>!p t)).length=Sn.enc t':=by
      rw [xb,List.getElem?_append_right (by simp)]
      simp
     refine zo ⟨(j+1,gn+1,G'++[Sn.enc t]),⟨hlt,by rw [hft];simp only [List.length_append,List.length_cons,List.length_nil] at hlen ⊢;omega,by simp,fun y hy=>?_⟩,Nat.sub_lt_sub_left hlt (Nat.lt_succ_self j),?_⟩
     ·rcases List.mem_append.1 hy with hy|hy
      ·exact hG y (List.mem_cons_of_mem _ hy)
      ·exact ⟨t,by simpa using hy⟩
     refine zp ?_ ?_ (Nat.le_refl _)
     all_goals first|refine auE ?_|exact zJ
     all_goals repeat' first|exact trivial|exact rfl|apply And.intro
     all_goals first
      |exact zL ((IntWalk.i64_in _ (by omega)).trans (by rw [hft];simp))
      |exact zL ((IntWalk.i64_in _ (by omega)).trans (by omega))
      |(refine congrArg some (congrArg (zd.mk n 8) ?_)
        rw [hxg]
        refine hxx.trans ?_
        rw [hdrop,hft]
        simp)
    ·have hpt:p t=true:=by simpa using h
     have hft:(l.take (j+1)).filter (fun t=>!p t)=(l.take j).filter (fun t=>!p t):=by rw [y8,List.filter_append];simp [hpt]
     refine zo ⟨(j+1,gn+1,G++[Sn.enc t]),⟨hlt,by rw [hft];simp only [List.length_append,List.length_cons,List.length_nil] at hlen ⊢;omega,by simp,fun y hy=>?_⟩,Nat.sub_lt_sub_left hlt (Nat.lt_succ_self j),?_⟩
     ·rcases List.mem_append.1 hy with hy|hy
      ·exact hG y hy
      ·exact ⟨t,by simpa using hy⟩
     refine zp ?_ ?_ (Nat.le_refl _)
     all_goals first|refine auE ?_|exact zJ
     all_goals repeat' first|exact trivial|exact rfl|apply And.intro
     all_goals first
      |exact zL (by rw [hft])
      |exact zL ((IntWalk.i64_in _ (by omega)).trans (by omega))
      |(refine congrArg some (congrArg (zd.mk n 8) ?_)
        rw [hdrop,hft]
        simp)
   ·obtain rfl:j=l.length:=by omega
    rw [List.take_length] at hlen
    simp only [List.take_length,List.drop_length,List.map_nil,List.append_nil]
    have hobl:((l.filter (fun t=>!p t)).map Sn.enc++G).length=l.length:=by simp;omega
    repeat' first|refine auS ?_|fail|refine auD ?_|(refine auW ?_ ?_<;>intro h<;>try exact auH)|(first|(refine z_ ⟨by trivial,by trivial,by trivial,by (simp only [Int.toNat_natCast,Nat.zero_add];rw [hobl];omega),by trivial⟩ ?_)|fail)
    all_goals try exact auP
    refine zl (yp (sE 0 (l.filter (fun t=>!p t)).length rfl)) (yi trivial hn ?_ rfl hn (zg (fun x=>by simp [nfL,nfD])) ?_)
    ·exact congrArg (fun q=>DV.sl 0 n 8 0 q false) (by omega)
    ·dsimp only
     rw [zm,zm,Int.toNat_natCast,Nat.zero_add,List.take_left' (by simp),List.take_left' (by simp)]
def ZY (L:Int) (s o:Sn):Bool:=decide (o.m=s.m)||decide (L<s.t-o.t)
def uQ (L:Int) (s:Sn) (l:List Sn):List Sn:=l.filter (fun o=>!ZY L s o)
def ye (L:Int) (s:Sn) (l:List Sn):List Sn:=(if (uQ L s l).length=64 then (uQ L s l).take 0++(uQ L s l).drop 1 else uQ L s l)++[s]
theorem kO (P L:Int) (s t:Sn) (x:DV) (hs:tm s) (ht:tm t):zc Tryz.prog 52 [.agg (Sn.enc t),.rptr (Sn.enc s),.rptr [.v (.int .i64 P),.v (.int .i64 L),x]] (.v (.bool (ZY L s t))):=by
 unfold tm at hs ht
 have hw:IntKind.i64.wrap (s.t-t.t)=s.t-t.t:=IntWalk.i64_in _ (by omega)
 have hsame:=lP t.m s.m
 refine z3 {} 0 Tryz.func52 fun Γ hW=>auC ?_
 repeat' first|refine auS ?_|(simp only [hsame,hw])|refine auD ?_|(refine auW ?_ ?_<;>intro h<;>try exact auH)|fail
 all_goals try exact auP
 all_goals refine auV ?_
 all_goals try exact z9
 all_goals try simp only [hsM] at *
 all_goals (refine yg ?_;unfold ZY;simp_all)
set_option maxHeartbeats 2000000 in
theorem hP (P L:Int) (s:Sn) (l:List Sn) (n:Nat) (hl:l.length≤64) (hs:tm s) (ht:∀t∈l,tm t):xG Tryz.prog 26 [.agg [.v (.int .i64 P),.v (.int .i64 L),.sl 0 n 8 0 l.length false],.agg (Sn.enc s)] [some ⟨n,8,l.map Sn.enc⟩] (fun m d H=>d=.agg [.v (.int .i64 P),.v (.int .i64 L),.sl 5 m 8 0 (ye L s l).length false]∧H=[none,some ⟨m,8,(ye L s l).map Sn.enc⟩]):=by
 have hdel:zz Tryz.prog 51 [.sl 0 n 8 0 l.length false,.fn (.func 52) [] [.rptr (Sn.enc s),.rptr [.v (.int .i64 P),.v (.int .i64 L),.sl 0 n 8 0 l.length false]]] [some ⟨n,8,l.map Sn.enc⟩] (fun d H=>d=.sl 0 n 8 0 (uQ L s l).length false∧H=[some ⟨n,8,(uQ L s l).map Sn.enc⟩]):=
  iz (ZY L s) l (by unfold maxLen;omega) n (fun t htl=>kO P L s t _ hs (ht t htl))
 have hfl:(uQ L s l).length≤64:=Nat.le_trans (List.length_filter_le _ _) hl
 have hnm:∀x∈(uQ L s l).map Sn.enc,∀d∈x,noM d=true:=Yj (fun a d hd=>by
  simp only [Sn.enc,List.mem_cons,List.not_mem_nil,or_false] at hd
  rcases hd with rfl|rfl|rfl|rfl|rfl|rfl|rfl|rfl<;>rfl) _
 by_cases h64:(uQ L s l).length=64
 ·have hdd:=fG (uQ L s l) 0 1 (by omega) (by omega) (by unfold maxLen;omega) n
  have e:ye L s l=((uQ L s l).take 0++(uQ L s l).drop 1)++[s]:=by unfold ye;rw [if_pos h64]
  rw [e]
  generalize hr:(uQ L s l).take 0++(uQ L s l).drop 1=r at hdd
  have hrl:r.length≤64:=by rw [←hr];simp;omega
  have hones:zE (r.map Sn.enc)=true:=zP (fun x=>rfl) _
  refine jt {} 1 Tryz.func26 fun Γ hN0 hL0=>auC ?_
  repeat' first|(refine zV (uY hL0 ⟨.d0,.d0,.d3⟩ rfl rfl ⟨rfl,rfl,Nat.succ_pos _⟩ rfl) ?_)|refine auS ?_|(first|(refine pb 0 1 (by decide) rfl rfl hdel ⟨.inr rfl,⟨rfl,rfl,rfl,.inl ⟨rfl,rfl,Nat.succ_pos _,rfl⟩,rfl⟩,rfl⟩ rfl hnm (fun _ _ _ h=>h) ?_)|((with_reducible refine z6 0 ?_ hdd (fun _ _ _ h=>h) ?_);(exact rfl)))|refine auD ?_|(refine auW ?_ ?_<;>intro h<;>try exact auH)|(refine z_ ⟨rfl,by unfold zW maxLen;simp;omega⟩ ?_)
  all_goals try exact auP
  refine n9 5 (fun m=>.agg [.v (.int .i64 P),.v (.int .i64 L),.sl 5 m 8 0 (r++[s]).length false]) ⟨⟨rfl,rfl,Nat.succ_pos _,Nat.le_refl 3⟩,trivial⟩ rfl (by decide) rfl (by show Γ.g0≤_;omega) ?_ (fun m=>⟨⟨rfl,trivial⟩,⟨rfl,trivial⟩,.inl ⟨rfl,?_⟩,rfl⟩) (fun m=>⟨rfl,?_⟩)
  ·have:=zg (f:=Sn.enc) (g:=Γ.g0) (l:=r++[s]) (fun x=>by simp [nfL,nfD])
   rw [List.map_append] at this
   exact this
  ·rw [List.length_append,List.length_map]
   rfl
  ·rw [List.map_append]
   rfl
 ·have e:ye L s l=uQ L s l++[s]:=by unfold ye;rw [if_neg h64]
  rw [e]
  generalize hr:uQ L s l=r at *
  have hones:zE (r.map Sn.enc)=true:=zP (fun x=>rfl) _
  refine jt {} 1 Tryz.func26 fun Γ hN0 hL0=>auC ?_
  repeat' first|(refine zV (uY hL0 ⟨.d0,.d0,.d3⟩ rfl rfl ⟨rfl,rfl,Nat.succ_pos _⟩ rfl) ?_)|refine auS ?_|(refine pb 0 1 (by decide) rfl rfl hdel ⟨.inr rfl,⟨rfl,rfl,rfl,.inl ⟨rfl,rfl,Nat.succ_pos _,rfl⟩,rfl⟩,rfl⟩ rfl hnm (fun _ _ _ h=>h) ?_)|refine auD ?_|(refine auW ?_ ?_<;>intro h<;>try exact auH)|(refine z_ ⟨rfl,by unfold zW maxLen;simp;omega⟩ ?_)
  all_goals try exact auP
  refine n9 5 (fun m=>.agg [.v (.int .i64 P),.v (.int .i64 L),.sl 5 m 8 0 (r++[s]).length false]) ⟨⟨rfl,rfl,Nat.succ_pos _,Nat.le_refl 3⟩,trivial⟩ rfl (by decide) rfl (by show Γ.g0≤_;omega) ?_ (fun m=>⟨⟨rfl,trivial⟩,⟨rfl,trivial⟩,.inl ⟨rfl,?_⟩,rfl⟩) (fun m=>⟨rfl,?_⟩)
  ·have:=zg (f:=Sn.enc) (g:=Γ.g0) (l:=r++[s]) (fun x=>by simp [nfL,nfD])
   rw [List.map_append] at this
   exact this
  ·rw [List.length_append,List.length_map]
   rfl
  ·rw [List.map_append]
   rfl
theorem sD (P L:Int) (l:List Sn) (cl:Bool) (hl:l.length≤64):zc Tryz.prog 24 [dB P L l cl] (.v (.int .i64 (zN l))):=by
 rcases List.eq_nil_or_concat l with rfl|⟨r,s,rfl⟩
 ·skip
  refine z3 {} 0 Tryz.func24 fun Γ hW=>auC ?_
  repeat' first|refine auS ?_|fail|refine auD ?_|(refine auW ?_ ?_<;>intro h<;>try exact auH)|fail
  all_goals try exact auP
  all_goals first
   |(exfalso;simp at h;done)
   |skip
  all_goals refine auV ?_
  all_goals try exact z9
  all_goals try simp only [hsM] at *
  all_goals rfl
 ·rw [List.concat_eq_append] at *
  have hn:((r++[s]).map Sn.enc).length=r.length+1:=by simp
  have hw:IntKind.i64.wrap (((r.length+1:Nat):Int)-1)=(r.length:Nat):=by rw [IntWalk.i64_in _ (by simp at hl;omega)];omega
  have ex:=l6 (l:=r++[s]) (k:=r.length) (t:=s) (by simp)
  refine z3 {} 0 Tryz.func24 fun Γ hW=>auC ?_
  repeat' first|refine auS ?_|(simp only [hn,hw,Int.toNat_natCast,ex])|refine auD ?_|(refine auW ?_ ?_<;>intro h<;>try exact auH)|(first|(refine z_ ⟨by omega,by omega⟩ ?_)|fail)
  all_goals try exact auP
  all_goals refine auV ?_
  all_goals try exact z9
  all_goals try simp only [hsM] at *
  all_goals exact zL (t7 r s).symm
end Go.Proofs.YtmibknbmhcnemaaGreatDoor.E
