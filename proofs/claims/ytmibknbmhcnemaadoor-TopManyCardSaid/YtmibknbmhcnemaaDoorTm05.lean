import Derived.Test.YtmibknbmhcnemaaDoorTm04
import Derived.Test.YtmibknbmhcnemaaDoorProg
import Derived.KernelRfl
import Derived.IntWalk
set_option linter.unusedVariables false
set_option linter.unusedSimpArgs false
namespace Go.Proofs.YtmibknbmhcnemaaDoor
theorem dC:Tryd.prog.follows .mixedOrders=true:=by kernel_rfl
theorem hsM:(∀(p:Prop) [Decidable p],(decide p=true)=p)∧(∀(p:Prop) [Decidable p],(decide p=false)=¬p)∧(∀b:Bool,((!b)=true)=(b=false))∧(∀b:Bool,((!b)=false)=(b=true))∧
  (∀a b:Bool,((a&&b)=true)=(a=true∧b=true))∧(∀a b:Bool,((a||b)=true)=(a=true∨b=true))∧(∀a b:Bool,((a&&b)=false)=(a=false∨b=false))∧(∀a b:Bool,((a||b)=false)=(a=false∧b=false)):=
 ⟨fun _ _=>by simp,fun _ _=>by simp,fun b=>by cases b<;>simp,fun b=>by cases b<;>simp,fun a b=>by cases a<;>simp,fun a b=>by cases a<;>simp,fun a b=>by cases a<;>simp,fun a b=>by cases a<;>simp⟩
theorem hsL:((∀(p:Prop) [Decidable p],(decide p=true)=p)∧(∀(p:Prop) [Decidable p],(decide p=false)=¬p)∧(∀b:Bool,((!b)=true)=(b=false))∧(∀b:Bool,((!b)=false)=(b=true))∧
  (∀a b:Bool,((a&&b)=true)=(a=true∧b=true))∧(∀a b:Bool,((a||b)=true)=(a=true∨b=true))∧(∀a b:Bool,((a&&b)=false)=(a=false∨b=false))∧(∀a b:Bool,((a||b)=false)=(a=false∧b=false)))∧
  (∀a b:Int,(¬a≤b)=(b<a))∧(∀a b:Int,(¬a<b)=(b≤a))∧(∀(p:Prop) [Decidable p],(¬ ¬p)=p)∧(∀(α:Type) (a b:α),(a≠b)=¬a=b)∧((¬True)=False)∧((¬False)=True)∧(decide True=true)∧(decide False=false)∧
  ((!true)=false)∧((!false)=true)∧((false=true)=False)∧(∀(α β:Type) (l:List α) (f:α→β),(l.map f).length=l.length)∧(∀a b:Bool,(a&&true)=a∧(true&&a)=a∧(false&&a)=false∧(a&&false)=false):=
 ⟨hsM,fun _ _=>by simp,fun _ _=>by simp,fun _ _=>by simp [Decidable.not_not],fun _ _ _=>rfl,by simp,by simp,rfl,rfl,rfl,rfl,by simp,fun _ _ _ _=>by simp,fun a b=>by simp⟩
theorem wz {Γ:Gm} {xr:List XR} {D:DV} {st:St} (h:x_ st xr∧nfD Γ.g0 (xX (zU st xr))) (h3:xX (zU st xr)=D):p9 Γ xr 0 (fun d H=>d=D∧H=[]) st:=dw h.1 h.2 h3
theorem auN {p:Prop} (h:p:=by ((repeat' (first|exact trivial|exact rfl|apply And.intro))<;>(first|exact rfl|(intro hq;cases hq;done)|decide|omega|exact oW (fun _=>rfl) _|(simp only [List.length_map,List.length_append,List.length_cons,List.length_nil,List.length_replicate];done)|(simp only [y7,maxLen,zC,Z9,List.length_map,List.length_append,List.length_cons,List.length_nil,List.length_replicate] at *;omega)|(simp only [hsL,reduceCtorEq] at *<;>omega)))):p:=h
theorem auH {p:Prop} (h:False:=by (simp only [hsL,reduceCtorEq] at *<;>omega)):p:=h.elim
theorem auP {p:Prop} (h:False:=by ((try simp only [List.length_map] at *);first|omega|(simp only [hsL,reduceCtorEq] at *<;>omega))):p:=h.elim
theorem auD {p q:Prop} (h:q) (e:q→p:=by intro hq;with_reducible dsimp only [run,undef,wy,ZA,iE,iH,gd,gd2,kI,ex1,iZ,aB,iS,cG,lz,jy,Zl,pc,lu,xH,aN,jl,unR,yw,x8,uW,oF,orB,gq,Zw,ZE,rQ,sx,iU,vA,x6,zJ,z8,yz,evT,evs,Env.get,Env.set,N8.get,N8.set,wk,x4,kD,Z9,s9,ww,nL,xb,tX,yn,vG,yx,yb,vU,o6,sf,qh,uG,vM,xK,wu,mN,zD,zx,zC,fw,dl,o8,Yt,dn,ZJ,dz,eP,c7,b_,bd,cX,kL,vt,nA,wX,Y2,aL,aM,bn,evO,uH,ZG,lE,bY,jX,ly,isS,iC,ix,lp,pj,iK,gB,iN,l7,l5,pa,iY,jH,lm,mG,mI,mK,pq,cW,dB,jp,vX,Y5,pA,p_,rk,ph,Zj,qH,gc,Zh,iT,bA,dM,gg,bJ,bx,gk,dK,mW,it,jz,iz,mS,jL,jT,ij,hJ,cY,bp,jZ,f9,gH,dh,mZ,cond,Zk,Zm,wW,yS,List.length_cons,List.length_nil,Bool.true_or,Bool.false_or,Bool.or_true,Bool.or_false,bnf,bnt,Nat.add_zero,Nat.zero_add,Nat.reduceAdd,Nat.reduceMul,Int.reduceToNat,Yy];exact hq):p:=e h
theorem fF {p q:Prop} (h:q) (e:q→p:=by intro hq;first|(with_reducible first|exact gS hq|exact iq dC hq|exact aO hq|exact ah hq|exact eL hq|exact Z7 hq|exact bR hq|exact ZU hq|exact Y_ hq|exact aQ hq|exact aG hq|exact a8 hq|exact aV hq)|((with_reducible refine ao ?_ hq);(with_unfolding_all decide))|((with_reducible refine ic ?_ hq);(with_unfolding_all kernel_rfl))|((with_reducible refine za ?_ hq);(with_unfolding_all exact auN))):p:=e h
theorem fZ {p q:Prop} (h:q) (e:q→p:=by intro hq;first|(with_reducible first|exact ak hq|exact Zg hq|exact Zo hq|exact Zf hq)|exact fF hq):p:=e h
theorem auS {p q:Prop} (h:q) (e:q→p:=by intro hq;first|with_reducible exact wA hq|exact fF hq):p:=e h
theorem auB {p q r:Prop} (h1:q) (h2:r) (e:q→r→p:=by intro h1 h2;with_reducible first|exact Yu h1 h2|exact eV h1 h2|exact an h1 h2):p:=e h1 h2
theorem auW {p a b:Prop} (h1:a) (h2:b) (e:a→b→p:=by intro y1 y2;((with_reducible refine auB ?_ ?_);(· first|((with_reducible intro h);(first|simp only [h,iE,iH]|skip);revert h;exact y1)|(have h:=trivial;revert h;exact y1));(· first|((with_reducible intro h);(first|simp only [h,iE,iH]|skip);revert h;exact y2)|(have h:=trivial;revert h;exact y2)))):p:=e h1 h2
theorem auR {p q:Prop} (h:q) (e:q→p:=by intro hq;with_reducible dsimp only [ro,x_,zU,nK,xX,rr,rV,rR,uP,y5,nfD,nfL,yL,nfH,z8,xH,yb,yn,vG,tX,Env.get,N8.get,wk,List.length_cons,List.length_nil,Env.set,N8.set,yz,x6];exact hq):p:=e h
theorem auL {p q:Prop} (h:q) (e:q→p:=by intro hq;with_reducible dsimp only [yO,nx,gU,pP,tN,Env.get,Env.set,N8.get,N8.set,x6,z8,yz,wk];exact hq):p:=e h
theorem auE {p q:Prop} (h:q) (e:q→p:=by intro hq;with_reducible dsimp only [leE,leC,leR,leN,leD,leH,leO,yO,nx,gU,pP,tN,Env.get,Env.set,N8.get,N8.set,x6,z8,yz,wk];exact hq):p:=e h
theorem z_ {p:Prop} (h:p:=by with_reducible dsimp only [ro,x_,zU,nK,xX,rr,rV,rR,uP,y5,nfD,nfL,yL,nfH,z8,xH,yb,yn,vG,tX,Env.get,N8.get,wk,List.length_cons,List.length_nil,Env.set,N8.set,yz,x6]):p:=h
theorem zR {p:Prop} (h:p:=by with_reducible dsimp only [leE,leC,leR,leN,leD,leH,leO,yO,nx,gU,pP,tN,Env.get,Env.set,N8.get,N8.set,x6,z8,yz,wk]):p:=h
theorem auF {p q:Prop} (h:q) (e:q→p:=by intro hq;with_unfolding_all exact wz (by (try dsimp only [ro,x_,zU,nK,xX,rr,rV,rR,uP,y5,nfD,nfL,yL,nfH,z8,xH,yb,yn,vG,tX,Env.get,N8.get,wk,List.length_cons,List.length_nil,Env.set,N8.set,yz,x6]);(repeat' (first|exact trivial|exact rfl|exact zj (fun x=>by simp [nfL,nfD])|decide|apply And.intro))) hq):p:=e h
theorem auV {p q:Prop} (h:q) (e:q→p:=by intro hq;with_reducible refine auF ?_;first|exact auR hq|exact hq):p:=e h
def ze {α:Type} (p:α→Bool):List α→Nat→Int
 |[],_=>-1
 |t::r,k=>if p t then k else ze p r (k+1)
theorem rn {α:Type} (p:α→Bool):∀(l:List α) (k:Nat),(∀y∈l,p y=false)→ze p l k = -1
 |[],k,_=>rfl
 |y::r,k,h=>by
  simp only [ze,h y (by simp)]
  exact rn p r (k+1) (fun z hz=>h z (by simp [hz]))
theorem ui {α:Type} (p:α→Bool) (t:α) (ht:p t=true) (r:List α):∀(l:List α) (k:Nat),(ze p (l++t::r) k=((k+l.length:Nat):Int))↔l.all (fun y=>!p y)=true
 |[],k=>by simp [ze,ht]
 |y::s,k=>by
  have ih:=ui p t ht r s (k+1)
  simp only [List.cons_append,ze,List.all_cons,List.length_cons]
  cases hy:p y with
  |true=>simp;omega
  |false=>
   simp only [Bool.not_false,Bool.true_and,←ih]
   simp only [Bool.false_eq_true,if_false]
   rw [show k+1+s.length=k+(s.length+1) by omega]
theorem xn {α:Type} (p:α→Bool):∀(l:List α) (k:Nat),(ze p l k = -1∧∀t∈l,p t=false)∨∃i t,l[i]?=some t∧p t=true∧(∀y∈l.take i,p y=false)∧ze p l k=((k+i:Nat):Int)
 |[],k=>.inl ⟨rfl,fun t h=>by simp at h⟩
 |y::r,k=>by
  cases hy:p y with
  |true=>exact .inr ⟨0,y,rfl,hy,fun z hz=>by simp at hz,by simp [ze,hy]⟩
  |false=>
   rcases xn p r (k+1) with ⟨h1,h2⟩|⟨i,t,h1,h2,h3,h4⟩
   ·exact .inl ⟨by simp [ze,hy,h1],fun t ht=>by
     rcases List.mem_cons.1 ht with rfl|ht
     ·exact hy
     ·exact h2 t ht⟩
   ·exact .inr ⟨i+1,t,by simpa using h1,h2,fun z hz=>by
     rw [List.take_succ_cons] at hz
     rcases List.mem_cons.1 hz with rfl|hz
     ·exact hy
     ·exact h3 z hz,by simp only [ze,hy,Bool.false_eq_true,if_false,h4];congr 1;omega⟩
def y9 {α:Type} (ok:List α→α→Bool):List α→List α→Bool
 |_,[]=>true
 |pre,t::r=>ok pre t&&y9 ok (pre++[t]) r
theorem jG {α:Type} {ok:List α→α→Bool} {l:List α} {k:Nat} {t:α} (ht:l[k]?=some t) (hg:y9 ok [] l=y9 ok (l.take k) (l.drop k)) (hok:ok (l.take k) t=true):y9 ok [] l=y9 ok (l.take (k+1)) (l.drop (k+1)):=by
 have hk:k<l.length:=(List.getElem?_eq_some_iff.1 ht).1
 rw [hg,List.drop_eq_getElem_cons hk,show l[k]=t from Option.some.inj ((List.getElem?_eq_getElem hk).symm.trans ht),y9,hok,Bool.true_and,List.take_add_one,ht]
 rfl
theorem eg {α:Type} {ok:List α→α→Bool} {l:List α} {k:Nat} {t:α} (ht:l[k]?=some t) (hg:y9 ok [] l=y9 ok (l.take k) (l.drop k)) (hok:ok (l.take k) t=false):y9 ok [] l=false:=by
 have hk:k<l.length:=(List.getElem?_eq_some_iff.1 ht).1
 rw [hg,List.drop_eq_getElem_cons hk,show l[k]=t from Option.some.inj ((List.getElem?_eq_getElem hk).symm.trans ht),y9,hok,Bool.false_and]
theorem tS {α:Type} {ok:List α→α→Bool}:∀ {l pre:List α} {j:Nat} {z:α},y9 ok pre l=true→l[j]?=some z→ok (pre++l.take j) z=true
 |[],_,_,_,_,h=>by simp at h
 |y::r,pre,0,z,hg,h=>by
  simp only [y9,Bool.and_eq_true] at hg
  simp at h
  subst h
  simpa using hg.1
 |y::r,pre,j+1,z,hg,h=>by
  simp only [y9,Bool.and_eq_true] at hg
  have:=tS hg.2 (j:=j) (z:=z) (by simpa using h)
  simpa using this
theorem qz {α:Type} {p:α→Bool} {l:List α} (h:∀y∈l,p y=false):l.filter (fun t=>!p t)=l:=by
 rw [List.filter_eq_self]
 intro y hy
 simp [h y hy]
theorem cu {α:Type} {f:α→List DV} {l:List α} {j:Nat} {t:α} (A G:List (List DV)) (hj:l[j]?=some t) (h:A.length+G.length=j):yb (A++(G++(l.drop j).map f)) j=f t:=by
 have hjl:=(List.getElem?_eq_some_iff.1 hj).1
 rw [xd,←List.append_assoc,List.getElem?_append_right (by simp;omega)]
 have e:j-(A++G).length=0:=by simp;omega
 rw [e,List.getElem?_map,List.getElem?_drop,Nat.add_zero,hj]
 rfl
theorem kl (x y:List DV) (G B:List (List DV)):∀(A:List (List DV)),vU (A++(x::G++B)) A.length y=A++(y::G++B)
 |[]=>rfl
 |a::r=>by
  have:=kl x y G B r
  simp only [List.cons_append,List.length_cons,vU] at this ⊢
  rw [this]
end Go.Proofs.YtmibknbmhcnemaaDoor
