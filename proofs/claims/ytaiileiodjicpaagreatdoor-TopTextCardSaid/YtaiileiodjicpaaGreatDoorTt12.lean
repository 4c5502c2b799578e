import Derived.Test.YtaiileiodjicpaaGreatDoorTt11
set_option linter.unusedVariables false
set_option linter.unusedSimpArgs false
namespace Go.Proofs.YtaiileiodjicpaaGreatDoor.T
attribute [local irreducible] zF Go
set_option maxRecDepth 100000
set_option maxHeartbeats 1000000 in
theorem Zg (l:List Tk) (c:Bool) (hl:y8 l.length 48):uO Tryz.prog 52 [.snap 7 (l.map Tk.enc) c] [] (fun n d H=>d=.sl 1 n 7 0 l.length false∧H=[some ⟨n,7,l.map Tk.enc⟩]):=by
 have hones:∀r:List Tk,zQ (r.map Tk.enc)=true:=yx (fun x=>rfl)
 cases l with
 |nil=>
  refine tw {} 0 Tryz.func52 fun Γ hW=>auC ?_
  dsimp only [List.map]
  repeat' first|refine auS ?_|(with_reducible refine vx ?_)|refine auD ?_|(refine auW ?_ ?_<;>intro h<;>try exact auH)|fail
  ·refine mT (yz (vA ⟨.d0,.d0,.d2⟩ 1 7 rfl rfl)) ?_
   exact xN 1 (fun n=>.sl 1 n 7 0 0 false) trivial rfl (Nat.le_refl _) trivial (fun n=>.inl ⟨rfl,rfl⟩) (fun n=>⟨rfl,rfl⟩)
  ·exact xN 1 (fun n=>.sl 1 n 7 0 0 false) trivial rfl (by show Γ.g0≤Γ.g0+1;omega) trivial (fun n=>.inl ⟨rfl,rfl⟩) (fun n=>⟨rfl,rfl⟩)
 |cons x r=>
  refine tw {} 0 Tryz.func52 fun Γ hW=>auC ?_
  dsimp only [List.map]
  repeat' first|refine auS ?_|(with_reducible refine vx ?_)|refine auD ?_|(refine auW ?_ ?_<;>intro h<;>try exact auH)|(refine zf ⟨Or.inl (by omega),rfl,hones _,by simp only [y8,maxLen,List.length_map,List.length_cons] at hl ⊢;omega⟩ ?_)
  refine xN 1 (fun n=>.sl 1 n 7 0 (x::r).length false) trivial rfl (by show Γ.g0≤Γ.g0+1;omega) ?_ (fun n=>.inl ⟨rfl,?_⟩) (fun n=>⟨rfl,rfl⟩)
  ·exact (zl (fun x=>by simp [nfL,nfD]):yA Γ.g0 ((x::r).map Tk.enc))
  ·simp [List.length_map]
theorem yC (j:Nat) (l:List Tk) (c:Bool) (hl:y8 l.length 48):uO Tryz.prog 52 [.snap 7 (l.map Tk.enc) c] [] (fun n d H=>d=.sl j n 7 0 l.length false∧H=[some ⟨n,7,l.map Tk.enc⟩]):=
 nF (Zg l c hl) (fun K w n v h=>vo h)
set_option maxHeartbeats 1000000 in
theorem a_ (l:List Tk) (i j:Nat) (hij:i≤j) (hj:j≤l.length) (hl:l.length≤maxLen) (n:Nat):zE Tryz.prog 165 [.sl 0 n 7 0 l.length false,.v (.int .i64 i),.v (.int .i64 j)] [some ⟨n,7,l.map Tk.enc⟩] (fun d H=>d=.sl 0 n 7 0 (l.take i++l.drop j).length false∧H=[some ⟨n,7,(l.take i++l.drop j).map Tk.enc⟩]):=by
 have hones:∀r:List Tk,zQ (r.map Tk.enc)=true:=yx (fun x=>rfl)
 have ej:zN (zV (l.map Tk.enc) j) ((l.length:Int)-j).toNat=(l.drop j).map Tk.enc:=by rw [zB,yh,←List.map_drop,←List.map_take,List.take_of_length_le (by rw [List.length_drop];omega)]
 have hlen:(zN (l.map Tk.enc) i++((l.drop j).map Tk.enc++zV (l.map Tk.enc) (i+(l.length-j)))).length=l.length:=by rw [zB,yh];simp;omega
 unfold maxLen at hl
 refine zp {inpl:=true} 1 Tryz.func165 fun Γ hN0 hL0=>auC ?_
 have hn:n<Γ.g0:=hN0 0 _ rfl
 repeat' first|refine auS ?_|fail|refine auD ?_|(refine auW ?_ ?_<;>intro h<;>try exact auH)|(first|(simp only [Int.toNat_natCast,Nat.zero_add,ej,List.length_map,List.length_drop])|(refine zf ⟨by trivial,by trivial,by trivial,by omega,hones _⟩ ?_)|(refine zf ⟨by trivial,by trivial,by trivial,by omega,by omega,by omega,by (rw [hlen];omega)⟩ ?_)|(refine zf ⟨by trivial,by trivial,by trivial,by (rw [hlen];omega),by trivial⟩ ?_)|fail)
 ·have hij2:i=j:=by (simp only [hsL,reduceCtorEq] at *<;>omega)
  subst hij2
  rw [List.take_append_drop]
  exact zU trivial hn rfl rfl hn (zl (fun x=>by simp [nfL,nfD])) rfl
 ·refine zL (yz (eu ⟨.d0,.d0,.d6⟩ rfl)) (zL (yz (nl 0 (i+(l.length-j)) rfl)) (zU trivial hn ?_ rfl hn (zl (fun x=>by simp [nfL,nfD])) ?_))
  ·have e:(l.take i++l.drop j).length=i+(l.length-j):=by simp;omega
   rw [e]
   rfl
  ·refine (fv (by rw [zB];simp;omega)).trans ?_
   rw [zB,List.map_append,List.map_take]
theorem lX (k:Nat) (l:List Tk) (i j:Nat) (hij:i≤j) (hj:j≤l.length) (hl:l.length≤maxLen) (n:Nat):zE Tryz.prog 165 [.sl k n 7 0 l.length false,.v (.int .i64 i),.v (.int .i64 j)] [some ⟨n,7,l.map Tk.enc⟩] (fun d H=>d=.sl k n 7 0 (l.take i++l.drop j).length false∧H=[some ⟨n,7,(l.take i++l.drop j).map Tk.enc⟩]):=
 yj k (tB (a_ l i j hij hj hl n) (fun _ _ _=>vo))
set_option maxHeartbeats 1000000 in
theorem k7 {g:FuncId} {caps:List DV} (p:Tk→Bool) (l:List Tk) (hl:l.length≤maxLen) (n:Nat) (hg:∀t∈l,zi Tryz.prog g (.agg (Tk.enc t)::caps) (.v (.bool (p t)))):zE Tryz.prog 127 [.sl 0 n 7 0 l.length false,.fn (.func g) [] caps] [some ⟨n,7,l.map Tk.enc⟩] (fun d H=>d=.v (.int .i64 (zk p l 0))∧H=[some ⟨n,7,l.map Tk.enc⟩]):=by
 unfold maxLen at hl
 refine zp {} 0 Tryz.func127 fun Γ hN0 hL0=>auC ?_
 have hn:n<Γ.g0:=hN0 0 _ rfl
 repeat' first|refine auS ?_|fail|refine auD ?_|(refine auW ?_ ?_<;>intro h<;>try exact auH)|fail
 refine zw (α:=Nat) (fun k=>[(⟨.d0,.d1,.d0⟩,.v (.int .i64 (k:Nat)))]) (fun _=>[]) (fun _=>Γ.g0) (fun k=>l.length-k) (fun k=>k≤l.length∧zk p l 0=zk p (l.drop k) k) 0 ⟨Nat.zero_le _,rfl⟩ ?_ ?_
 ·skip
  refine zo ?_ ?_ (Nat.le_refl _)
  all_goals first|refine auE ?_|exact zK
  all_goals repeat' first|exact trivial|exact rfl|apply And.intro
 ·rintro k ⟨hk,hp⟩
  refine auL ?_
  by_cases hlt:k<l.length
  ·obtain ⟨t,ht⟩:∃t,l[k]?=some t:=⟨_,List.getElem?_eq_getElem hlt⟩
   have ex:=ye Tk.enc l k t ht
   have hgt:=hg t (List.mem_of_getElem? ht)
   rw [List.drop_eq_getElem_cons hlt,show l[k]=t from Option.some.inj ((List.getElem?_eq_getElem hlt).symm.trans ht)] at hp
   repeat' first|refine auS ?_|(with_reducible refine z6 hgt ?_)|refine auD ?_|(refine auW ?_ ?_<;>intro h<;>try exact auH)|(first|simp only [Int.toNat_natCast,ex,Nat.zero_add]|(refine zf ⟨by simpa using hlt,by trivial⟩ ?_)|fail)
   all_goals try exact auP
   ·refine zU trivial trivial ?_ rfl hn (zl (fun x=>by simp [nfL,nfD])) rfl
    rw [hp]
    simp [zk, *]
    rfl
   ·refine zn ?_
    refine ⟨k+1,⟨Nat.succ_le_of_lt hlt,by rw [hp];simp [zk, *]⟩,Nat.sub_lt_sub_left hlt (Nat.lt_succ_self k),?_⟩
    refine zo ?_ ?_ (Nat.le_refl _)
    all_goals first|refine auE ?_|exact zK
    all_goals repeat' first|exact trivial|exact rfl|apply And.intro
    exact yd ((IntWalk.i64_in _ (by omega)).trans (by omega))
  ·skip
   repeat' first|refine auS ?_|fail|refine auD ?_|(refine auW ?_ ?_<;>intro h<;>try exact auH)|fail
   all_goals try exact auP
   refine zU trivial trivial ?_ rfl hn (zl (fun x=>by simp [nfL,nfD])) rfl
   obtain rfl:k=l.length:=by omega
   rw [hp,List.drop_length]
   rfl
theorem lP (k:Nat) {g:FuncId} {caps:List DV} (p:Tk→Bool) (l:List Tk) (hl:l.length≤maxLen) (n:Nat) (hg:∀t∈l,zi Tryz.prog g (.agg (Tk.enc t)::caps) (.v (.bool (p t)))):zE Tryz.prog 127 [.sl k n 7 0 l.length false,.fn (.func g) [] caps] [some ⟨n,7,l.map Tk.enc⟩] (fun d H=>d=.v (.int .i64 (zk p l 0))∧H=[some ⟨n,7,l.map Tk.enc⟩]):=
 yj k (k7 p l hl n hg)
set_option maxHeartbeats 2000000 in
theorem dv {g:FuncId} {caps:List DV} (p:Tk→Bool) (l:List Tk) (hl:l.length≤maxLen) (n:Nat) (hg:∀t∈l,zi Tryz.prog g (.agg (Tk.enc t)::caps) (.v (.bool (p t)))):zE Tryz.prog 162 [.sl 0 n 7 0 l.length false,.fn (.func g) [] caps] [some ⟨n,7,l.map Tk.enc⟩] (fun d H=>d=.sl 0 n 7 0 (l.filter (fun t=>!p t)).length false∧H=[some ⟨n,7,(l.filter (fun t=>!p t)).map Tk.enc⟩]):=by
 have hidx:=k7 (g:=g) (caps:=caps) p l hl n hg
 unfold maxLen at hl
 rcases xl p l 0 with ⟨h1,h2⟩|⟨i0,t0,h1,h2,h3,h4⟩
 ·rw [h1] at hidx
  refine zp {} 1 Tryz.func162 fun Γ hN0 hL0=>auC ?_
  have hn:n<Γ.g0:=hN0 0 _ rfl
  repeat' first|refine auS ?_|((with_reducible refine z_ 0 ?_ hidx (fun _ _ _ h=>h) ?_);(exact rfl))|refine auD ?_|(refine auW ?_ ?_<;>intro h<;>try exact auH)|fail
  rw [oK h2]
  exact zU trivial hn rfl rfl hn (zl (fun x=>by simp [nfL,nfD])) rfl
 ·rw [h4,Nat.zero_add] at hidx
  have hi0:i0<l.length:=(List.getElem?_eq_some_iff.1 h1).1
  have hf0:(l.take (i0+1)).filter (fun t=>!p t)=l.take i0:=by
   rw [List.take_add_one,h1,List.filter_append,oK h3]
   simp [h2]
  refine zp {} 1 Tryz.func162 fun Γ hN0 hL0=>auC ?_
  have hn:n<Γ.g0:=hN0 0 _ rfl
  repeat' first|refine auS ?_|((with_reducible refine z_ 0 ?_ hidx (fun _ _ _ h=>h) ?_);(exact rfl))|refine auD ?_|(refine auW ?_ ?_<;>intro h<;>try exact auH)|fail
  refine zw (α:=Nat×Nat×List (List DV)) (fun a=>[(⟨.d0,.d0,.d5⟩,.v (.int .i64 (((l.take a.1).filter (fun t=>!p t)).length:Nat))),(⟨.d0,.d0,.d6⟩,.v (.int .i64 (a.1:Nat)))]) (fun a=>[(0,some ⟨n,7,((l.take a.1).filter (fun t=>!p t)).map Tk.enc++(a.2.2++(l.drop a.1).map Tk.enc)⟩),(1,none)]) (fun a=>a.2.1) (fun a=>l.length-a.1)
   (fun a=>a.1≤l.length∧((l.take a.1).filter (fun t=>!p t)).length+a.2.2.length=a.1∧0<a.2.2.length∧∀x∈a.2.2,∃t:Tk,x=Tk.enc t) (i0+1,Γ.g0,[Tk.enc t0]) ⟨hi0,by rw [hf0,List.length_take];simp;omega,by simp,fun x hx=>⟨t0,by simpa using hx⟩⟩ ?_ ?_
  ·skip
   refine zo ?_ ?_ (Nat.le_refl _)
   all_goals first|refine auE ?_|exact zK
   all_goals repeat' first|exact trivial|exact rfl|apply And.intro
   all_goals first
    |exact yd (by rw [hf0,List.length_take];omega)
    |exact yd ((IntWalk.i64_in _ (by omega)).trans (by omega))
    |(refine congrArg some (congrArg (zj.mk n 7) ?_)
      have:t0::l.drop (i0+1)=l.drop i0:=by rw [List.drop_eq_getElem_cons hi0,show l[i0]=t0 from Option.some.inj ((List.getElem?_eq_getElem hi0).symm.trans h1)]
      rw [hf0,show [Tk.enc t0]++(l.drop (i0+1)).map Tk.enc=(t0::l.drop (i0+1)).map Tk.enc from rfl,this,←List.map_append,List.take_append_drop])
  ·rintro ⟨j,gn,G⟩ ⟨hj,hlen,hG0,hG⟩
   dsimp only at hj hlen hG0 hG ⊢
   refine auL ?_
   by_cases hlt:j<l.length
   ·obtain ⟨t,ht⟩:∃t,l[j]?=some t:=⟨_,List.getElem?_eq_getElem hlt⟩
    have hgt:=hg t (List.mem_of_getElem? ht)
    have ex:=X3 (f:=Tk.enc) (((l.take j).filter (fun t=>!p t)).map Tk.enc) G ht (by simpa using hlen)
    have hdrop:(l.drop j).map Tk.enc=Tk.enc t::(l.drop (j+1)).map Tk.enc:=by rw [List.drop_eq_getElem_cons hlt,show l[j]=t from Option.some.inj ((List.getElem?_eq_getElem hlt).symm.trans ht)];rfl
    have yt:l.take (j+1)=l.take j++[t]:=by rw [List.take_add_one,ht];rfl
    have hobl:(((l.take j).filter (fun t=>!p t)).map Tk.enc++(G++(l.drop j).map Tk.enc)).length=l.length:=by simp;omega
    repeat' first|refine auS ?_|(with_reducible refine z6 hgt ?_)|refine auD ?_|(refine auW ?_ ?_<;>intro h<;>try exact auH)|(first|simp only [Int.toNat_natCast,ex,Nat.zero_add]|(refine zf ⟨by (rw [hobl];omega),by trivial⟩ ?_)|fail)
    all_goals try exact auP
    ·obtain ⟨x,G',rfl⟩:∃x G',G=x::G':=by
      cases G with
      |nil=>simp at hG0
      |cons x G'=>exact ⟨x,G',rfl⟩
     obtain ⟨t',rfl⟩:=hG x (by simp)
     have hpt:p t=false:=by simpa using h
     have hft:(l.take (j+1)).filter (fun t=>!p t)=(l.take j).filter (fun t=>!p t)++[t]:=by rw [yt,List.filter_append];simp [hpt]
     have hxx:=mt (Tk.enc t') (Tk.enc t) G' ((l.drop j).map Tk.enc) (((l.take j).filter (fun t=>!p t)).map Tk.enc)
     rw [List.length_map] at hxx
     have hxg:yo (((l.take j).filter (fun t=>!p t)).map Tk.enc++(Tk.enc t'::G'++(l.drop j).map Tk.enc)) ((l.take j).filter (fun t=>!p t)).length=Tk.enc t':=by
      rw [yV,List.getElem?_append_right (by simp)]
      simp
     refine zn ⟨(j+1,gn+1,G'++[Tk.enc t]),⟨hlt,by rw [hft];simp only [List.length_append,List.length_cons,List.length_nil] at hlen ⊢;omega,by simp,fun y hy=>?_⟩,Nat.sub_lt_sub_left hlt (Nat.lt_succ_self j),?_⟩
     ·rcases List.mem_append.1 hy with hy|hy
      ·exact hG y (List.mem_cons_of_mem _ hy)
      ·exact ⟨t,by simpa using hy⟩
     refine zo ?_ ?_ (Nat.le_refl _)
     all_goals first|refine auE ?_|exact zK
     all_goals repeat' first|exact trivial|exact rfl|apply And.intro
     all_goals first
      |exact yd ((IntWalk.i64_in _ (by omega)).trans (by rw [hft];simp))
      |exact yd ((IntWalk.i64_in _ (by omega)).trans (by omega))
      |(refine congrArg some (congrArg (zj.mk n 7) ?_)
        rw [hxg]
        refine hxx.trans ?_
        rw [hdrop,hft]
        simp)
    ·have hpt:p t=true:=by simpa using h
     have hft:(l.take (j+1)).filter (fun t=>!p t)=(l.take j).filter (fun t=>!p t):=by rw [yt,List.filter_append];simp [hpt]
     refine zn ⟨(j+1,gn+1,G++[Tk.enc t]),⟨hlt,by rw [hft];simp only [List.length_append,List.length_cons,List.length_nil] at hlen ⊢;omega,by simp,fun y hy=>?_⟩,Nat.sub_lt_sub_left hlt (Nat.lt_succ_self j),?_⟩
     ·rcases List.mem_append.1 hy with hy|hy
      ·exact hG y hy
      ·exact ⟨t,by simpa using hy⟩
     refine zo ?_ ?_ (Nat.le_refl _)
     all_goals first|refine auE ?_|exact zK
     all_goals repeat' first|exact trivial|exact rfl|apply And.intro
     all_goals first
      |exact yd (by rw [hft])
      |exact yd ((IntWalk.i64_in _ (by omega)).trans (by omega))
      |(refine congrArg some (congrArg (zj.mk n 7) ?_)
        rw [hdrop,hft]
        simp)
   ·obtain rfl:j=l.length:=by omega
    rw [List.take_length] at hlen
    simp only [List.take_length,List.drop_length,List.map_nil,List.append_nil]
    have hobl:((l.filter (fun t=>!p t)).map Tk.enc++G).length=l.length:=by simp;omega
    repeat' first|refine auS ?_|fail|refine auD ?_|(refine auW ?_ ?_<;>intro h<;>try exact auH)|(first|(refine zf ⟨by trivial,by trivial,by trivial,by (simp only [Int.toNat_natCast,Nat.zero_add];rw [hobl];omega),by trivial⟩ ?_)|fail)
    all_goals try exact auP
    refine zL (yz (nl 0 (l.filter (fun t=>!p t)).length rfl)) (zU trivial hn ?_ rfl hn (zl (fun x=>by simp [nfL,nfD])) ?_)
    ·exact congrArg (fun q=>DV.sl 0 n 7 0 q false) (by omega)
    ·dsimp only
     rw [zB,zB,Int.toNat_natCast,Nat.zero_add,List.take_left' (by simp),List.take_left' (by simp)]
theorem sF (k:Nat) {g:FuncId} {caps:List DV} (p:Tk→Bool) (l:List Tk) (hl:l.length≤maxLen) (n:Nat) (hg:∀t∈l,zi Tryz.prog g (.agg (Tk.enc t)::caps) (.v (.bool (p t)))):zE Tryz.prog 162 [.sl k n 7 0 l.length false,.fn (.func g) [] caps] [some ⟨n,7,l.map Tk.enc⟩] (fun d H=>d=.sl k n 7 0 (l.filter (fun t=>!p t)).length false∧H=[some ⟨n,7,(l.filter (fun t=>!p t)).map Tk.enc⟩]):=
 yj k (tB (dv p l hl n hg) (fun _ _ _=>vo))
set_option maxHeartbeats 1000000 in
theorem ka (l:List Tk) (c c':Bool) (hl:l.length≤maxLen):zi Tryz.prog 31 [.snap 7 (l.map Tk.enc) c,.snap 7 (l.map Tk.enc) c'] (.v (.bool true)):=by
 unfold maxLen at hl
 refine z7 {} 0 Tryz.func31 fun Γ hW=>auC ?_
 repeat' first|refine auS ?_|fail|refine auD ?_|(refine auW ?_ ?_<;>intro h<;>try exact auH)|fail
 refine zw (α:=Nat) (fun k=>[(⟨.d0,.d1,.d5⟩,.v (.int .i64 (k:Nat)))]) (fun _=>[]) (fun _=>Γ.g0) (fun k=>l.length-k) (fun k=>k≤l.length) 0 (Nat.zero_le _) ?_ ?_
 ·skip
  refine zo ?_ ?_ (Nat.le_refl _)
  all_goals first|refine auE ?_|exact zK
  all_goals repeat' first|exact trivial|exact rfl|apply And.intro
 ·rintro k hk
  refine auL ?_
  by_cases hlt:k<l.length
  ·obtain ⟨t,ht⟩:∃t,l[k]?=some t:=⟨_,List.getElem?_eq_getElem hlt⟩
   have ex:=ye Tk.enc l k t ht
   repeat' first|refine auS ?_|fail|refine auD ?_|(refine auW ?_ ?_<;>intro h<;>try exact auH)|(simp only [Int.toNat_natCast,ex])
   all_goals try exact auP
   all_goals first
    |(exfalso;simp at h;done)
    |(refine zn ⟨k+1,Nat.succ_le_of_lt hlt,Nat.sub_lt_sub_left hlt (Nat.lt_succ_self k),?_⟩
      (refine zo ?_ ?_ (Nat.le_refl _));(all_goals first|refine auE ?_|exact zK);(all_goals (repeat' (first|exact trivial|exact rfl|apply And.intro)))
      all_goals exact yd ((IntWalk.i64_in _ (by omega)).trans (by omega)))
  ·skip
   repeat' first|refine auS ?_|fail|refine auD ?_|(refine auW ?_ ?_<;>intro h<;>try exact auH)|fail
   all_goals try exact auP
   all_goals refine auV ?_
   all_goals try exact zc
   all_goals try simp only [hsM] at *
end Go.Proofs.YtaiileiodjicpaaGreatDoor.T
namespace Go.Proofs.YtaiileiodjicpaaGreatDoor.T
attribute [local irreducible] zF Go
set_option maxRecDepth 100000
def YB (s o:Int) (fin op:Bool):Int×Int:=
 let o':=if fin then (if op then bits .or .i64 o 1 else bits .or .i64 o 2) else o
 (if o'=3 then 4 else max s 3,o')
def pas (s o:Int) (syn ack fin op:Bool):Bool×Int×Int:=
 if s≤2∧(op&&syn && !ack && !fin)=true then (true,s,o)
 else if s≤2∧(!op&&syn&&ack && !fin)=true then (true,2,o)
 else if s=1∨(s=2∧op=false) then (false,s,o)
 else if (!ack||syn)=true then (false,s,o)
 else (true,(YB s o fin op).1,(YB s o fin op).2)
abbrev wD (syn ack fin rst op:Bool):DV:=.agg [.v (.bool syn),.v (.bool ack),.v (.bool fin),.v (.bool rst),.v (.bool op)]
set_option maxHeartbeats 4000000 in
theorem pj (n:Nat) (a b c d s o x:Int) (syn ack fin rst op:Bool):zE Tryz.prog 177 [.ptr 0 n 7 0 0,wD syn ack fin rst op] [some ⟨n,7,[cT a b c d s o x]⟩] (fun D H=>D=.v (.bool (ack && !syn))∧H=[some ⟨n,7,[if (!ack||syn)=true then cT a b c d s o x else cT a b c d (YB s o fin op).1 (YB s o fin op).2 x]⟩]):=by
 cases syn<;>cases ack<;>cases fin<;>cases op
 all_goals
 refine zp {} 1 Tryz.func177 fun Γ hN0 hL0=>auC ?_
 have hn:n<Γ.g0:=hN0 0 _ rfl
 repeat' first|refine auS ?_|fail|refine auD ?_|(refine auW ?_ ?_<;>intro h<;>try exact auH)|(refine zf ⟨by trivial,by trivial⟩ ?_)
 all_goals try exact auP
 all_goals (refine zU trivial trivial rfl rfl hn (by simp [yA,nfL,nfD];try (split<;>simp [nfL,nfD])) ?_)
 all_goals (simp_all [YB])
set_option maxHeartbeats 4000000 in
theorem iD (n:Nat) (a b c d s o x:Int) (syn ack fin rst op:Bool):zE Tryz.prog 164 [.ptr 0 n 7 0 0,wD syn ack fin rst op] [some ⟨n,7,[cT a b c d s o x]⟩] (fun D H=>D=.v (.bool (pas s o syn ack fin op).1)∧H=[some ⟨n,7,[cT a b c d (pas s o syn ack fin op).2.1 (pas s o syn ack fin op).2.2 x]⟩]):=by
 have hopen:=pj n a b c d s o x syn ack fin rst op
 cases syn<;>cases ack<;>cases fin<;>cases op
 all_goals
 refine zp {} 1 Tryz.func164 fun Γ hN0 hL0=>auC ?_
 have hn:n<Γ.g0:=hN0 0 _ rfl
 repeat' first|refine auS ?_|(with_reducible refine z_ 0 ?_ hopen (fun _ _ _ h=>h) ?_);(exact rfl)|refine auD ?_|(refine auW ?_ ?_<;>intro h<;>try exact auH)|(refine zf ⟨by trivial,by trivial⟩ ?_)
 all_goals try exact auP
 all_goals (refine zU trivial trivial (xP ?_) rfl hn (by simp [yA,nfL,nfD];try (split<;>simp [nfL,nfD])) ?_)
 all_goals first
  |(simp_all [pas];done)
  |(simp_all [pas];rw [if_neg (by omega)]<;>simp)
def sQ (fl:Int) (syn ack fin rst:Bool):Prop:=
 bits .and .i64 fl 2=(if syn then 2 else 0)∧bits .and .i64 fl 16=(if ack then 16 else 0)∧bits .and .i64 fl 1=(if fin then 1 else 0)∧bits .and .i64 fl 4=(if rst then 4 else 0)∧
 bits .and .i64 fl 18=(if syn then 2 else 0)+(if ack then 16 else 0)∧fl.tmod 2=(if fin then 1 else 0)∧bits .and .i64 fl 23=(if syn then 2 else 0)+(if ack then 16 else 0)+(if fin then 1 else 0)+(if rst then 4 else 0)
instance (fl:Int) (a b c d:Bool):Decidable (sQ fl a b c d):=by unfold sQ;exact inferInstance
theorem aH:∀f:Fin 256,sQ (f.val:Int) (decide (f.val / 2 % 2=1)) (decide (f.val / 16 % 2=1)) (decide (f.val % 2=1)) (decide (f.val / 4 % 2=1)):=by decide +kernel
end Go.Proofs.YtaiileiodjicpaaGreatDoor.T
namespace Go.Proofs.YtaiileiodjicpaaGreatDoor.T
theorem w1:IntKind.i64.wrap 1=1:=by decide
theorem w2:IntKind.i64.wrap 2=2:=by decide
theorem w3:IntKind.i64.wrap 3=3:=by decide
end Go.Proofs.YtaiileiodjicpaaGreatDoor.T
