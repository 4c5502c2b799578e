import Derived.Test.YtmibknbmhcnemaaGreatDoorTw19
set_option linter.unusedVariables false
set_option linter.unusedSimpArgs false
namespace Go.Proofs.YtmibknbmhcnemaaGreatDoor
section
variable {P:Program} {F:List XOp→St→List Rec→Prop} {r:List XOp} {st:St} {dst:Option Sl} {tr:List Rec}
theorem yl {f:FuncId} {ds:List DV} {c:Nat} {D:Nat→DV} {H0:HL} {H1:Nat→HL} (ks ns kn:List Nat) (hkn:ks++ns=kn) (hns:kn.Nodup) (hl:(H1 st.gen).length=kn.length) (hk:yF st.H ks=H0) (h1:vd P f ds H0 c (fun n d H=>d=D n∧H=H1 n)) (h2:F r ⟨vh st.tm dst (D st.gen),yZ st.H (wP kn (H1 st.gen)),st.gen+c⟩ (⟨kn,kn⟩::tr)):zu P F r st dst tr (.call f ds):=by
 subst hk hkn
 exact .inr (.inr ⟨ks,ns,ds,c,D,H1,fun _ _ _ h=>h,hns,hl,h1,h2⟩)
theorem zk {f:FuncId} {ds:List DV} {D:DV} {H0 H1:HL} (ks:List Nat) (hns:ks.Nodup) (hl:H1.length=ks.length) (hk:yF st.H ks=H0) (h1:zz P f ds H0 (fun d H=>d=D∧H=H1)) (h2:F r ⟨vh st.tm dst D,yZ st.H (wP ks H1),st.gen⟩ (⟨ks,ks⟩::tr)):zu P F r st dst tr (.call f ds):=by
 subst hk
 exact .inl ⟨ks,ds,D,H1,fun _ _ _ h=>h,hns,hl,h1,h2⟩
end
theorem zD (f:FuncId) {P:Program} {F:List XOp→St→List Rec→Prop} {r:List XOp} {st:St} {dst:Option Sl} {tr:List Rec} {ds:List DV} (h:zu P F r st dst tr (.call f ds)):zu P F r st dst tr (.call f ds):=h
theorem XT {Γ:Gm} {P:Program} {N:Nat} {R:St→Prop} {x:XC} {k:List KI} {st:St} (h:Go Γ P N R x k st):Go Γ P N R x k st:=h
end Go.Proofs.YtmibknbmhcnemaaGreatDoor
namespace Go.Proofs.YtmibknbmhcnemaaGreatDoor
attribute [local irreducible] zu Go
set_option maxRecDepth 100000
theorem kK (m:Mt) (ad:Int):zc Tryz.prog 76 [.agg m.enc,.rptr [.v (.int .u32 ad)]] (.v (.bool (decide (m.ad=ad)))):=by
 refine z3 {} 0 Tryz.func76 fun Γ hW=>auC ?_
 repeat' first|refine auS ?_|fail|refine auD ?_|(refine auW ?_ ?_<;>intro h<;>try exact auH)|fail
 all_goals try exact auP
 all_goals refine auV ?_
 all_goals try exact z9
 all_goals try simp only [hsM] at *
set_option maxHeartbeats 1000000 in
theorem nX {g:FuncId} {caps:List DV} (p:Mt→Bool) (l:List Mt) (c:Bool) (hl:l.length≤maxLen) (hg:∀t∈l,zc Tryz.prog g (.agg (Mt.enc t)::caps) (.v (.bool (p t)))):zc Tryz.prog 75 [.snap 5 (l.map Mt.enc) c,.fn (.func g) [] caps] (.v (.int .i64 (ze p l 0))):=by
 unfold maxLen at hl
 refine z3 {} 0 Tryz.func75 fun Γ hW=>auC ?_
 repeat' first|refine auS ?_|fail|refine auD ?_|(refine auW ?_ ?_<;>intro h<;>try exact auH)|fail
 refine zx (α:=Nat) (fun k=>[(⟨.d0,.d1,.d0⟩,.v (.int .i64 (k:Nat)))]) (fun _=>[]) (fun _=>Γ.g0) (fun k=>l.length-k) (fun k=>k≤l.length∧ze p l 0=ze p (l.drop k) k) 0 ⟨Nat.zero_le _,rfl⟩ ?_ ?_
 ·skip
  refine zp ?_ ?_ (Nat.le_refl _)
  all_goals first|refine auE ?_|exact zJ
  all_goals repeat' first|exact trivial|exact rfl|apply And.intro
 ·rintro k ⟨hk,hp⟩
  refine auL ?_
  by_cases hlt:k<l.length
  ·obtain ⟨t,ht⟩:∃t,l[k]?=some t:=⟨_,List.getElem?_eq_getElem hlt⟩
   have ex:=yn Mt.enc l k t ht
   have hgt:=hg t (List.mem_of_getElem? ht)
   rw [List.drop_eq_getElem_cons hlt,show l[k]=t from Option.some.inj ((List.getElem?_eq_getElem hlt).symm.trans ht)] at hp
   repeat' first|refine auS ?_|(with_reducible refine z0 hgt ?_)|refine auD ?_|(refine auW ?_ ?_<;>intro h<;>try exact auH)|(simp only [Int.toNat_natCast,ex])
   all_goals try exact auP
   ·skip
    all_goals refine auV ?_
    all_goals try exact z9
    all_goals try simp only [hsM] at *
    rw [hp]
    simp [ze, *]
   ·refine zo ?_
    refine ⟨k+1,⟨Nat.succ_le_of_lt hlt,by rw [hp];simp [ze, *]⟩,Nat.sub_lt_sub_left hlt (Nat.lt_succ_self k),?_⟩
    refine zp ?_ ?_ (Nat.le_refl _)
    all_goals first|refine auE ?_|exact zJ
    all_goals repeat' first|exact trivial|exact rfl|apply And.intro
    exact zL ((IntWalk.i64_in _ (by omega)).trans (by omega))
  ·skip
   repeat' first|refine auS ?_|fail|refine auD ?_|(refine auW ?_ ?_<;>intro h<;>try exact auH)|fail
   all_goals try exact auP
   all_goals refine auV ?_
   all_goals try exact z9
   all_goals try simp only [hsM] at *
   obtain rfl:k=l.length:=by omega
   rw [hp,List.drop_length]
   rfl
theorem th (h:Hs) (ad:Int) (hl:h.ms.length≤maxLen):zc Tryz.prog 44 [dH h,.v (.int .u32 ad)] (.v (.int .i64 (ze (fun m:Mt=>decide (m.ad=ad)) h.ms 0))):=by
 have hi:=nX (g:=76) (caps:=[.rptr [.v (.int .u32 ad)]]) (fun m:Mt=>decide (m.ad=ad)) h.ms false hl (fun m _=>kK m ad)
 refine z3 {} 0 Tryz.func44 fun Γ hW=>auC ?_
 repeat' first|((with_reducible refine XT ?_);(refine zV (zQ hW ⟨.d0,.d0,.d3⟩ rfl rfl ⟨rfl,rfl,Nat.succ_pos _⟩) ?_))|refine auS ?_|(with_reducible refine z0 hi ?_)|refine auD ?_|(refine auW ?_ ?_<;>intro h<;>try exact auH)|fail
 all_goals refine auV ?_
 all_goals try exact z9
 all_goals try simp only [hsM] at *
end Go.Proofs.YtmibknbmhcnemaaGreatDoor
