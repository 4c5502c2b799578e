import Derived.Test.YtaiileiodjicpaaGreatDoorTt14
import Derived.Test.YtaiileiodjicpaaGreatDoorTt15
set_option linter.unusedVariables false
set_option linter.unusedSimpArgs false
namespace Go.Proofs.YtaiileiodjicpaaGreatDoor
attribute [local irreducible] zF Go
set_option maxRecDepth 100000
theorem gg (m:Mt) (ad:Int):zi Tryz.prog 98 [.agg m.enc,.rptr [.v (.int .u32 ad)]] (.v (.bool (decide (m.ad=ad)))):=by
 refine z7 {} 0 Tryz.func98 fun Γ hW=>auC ?_
 repeat' first|refine auS ?_|fail|refine auD ?_|(refine auW ?_ ?_<;>intro h<;>try exact auH)|fail
 all_goals try exact auP
 all_goals refine auV ?_
 all_goals try exact zc
 all_goals try simp only [hsM] at *
set_option maxHeartbeats 1000000 in
theorem lV {g:FuncId} {caps:List DV} (p:Mt→Bool) (l:List Mt) (c:Bool) (hl:l.length≤maxLen) (hg:∀t∈l,zi Tryz.prog g (.agg (Mt.enc t)::caps) (.v (.bool (p t)))):zi Tryz.prog 97 [.snap 5 (l.map Mt.enc) c,.fn (.func g) [] caps] (.v (.int .i64 (zk p l 0))):=by
 unfold maxLen at hl
 refine z7 {} 0 Tryz.func97 fun Γ hW=>auC ?_
 repeat' first|refine auS ?_|fail|refine auD ?_|(refine auW ?_ ?_<;>intro h<;>try exact auH)|fail
 refine zw (α:=Nat) (fun k=>[(⟨.d0,.d1,.d0⟩,.v (.int .i64 (k:Nat)))]) (fun _=>[]) (fun _=>Γ.g0) (fun k=>l.length-k) (fun k=>k≤l.length∧zk p l 0=zk p (l.drop k) k) 0 ⟨Nat.zero_le _,rfl⟩ ?_ ?_
 ·skip
  refine zo ?_ ?_ (Nat.le_refl _)
  all_goals first|refine auE ?_|exact zK
  all_goals repeat' first|exact trivial|exact rfl|apply And.intro
 ·rintro k ⟨hk,hp⟩
  refine auL ?_
  by_cases hlt:k<l.length
  ·obtain ⟨t,ht⟩:∃t,l[k]?=some t:=⟨_,List.getElem?_eq_getElem hlt⟩
   have ex:=ye Mt.enc l k t ht
   have hgt:=hg t (List.mem_of_getElem? ht)
   rw [List.drop_eq_getElem_cons hlt,show l[k]=t from Option.some.inj ((List.getElem?_eq_getElem hlt).symm.trans ht)] at hp
   repeat' first|refine auS ?_|(with_reducible refine z6 hgt ?_)|refine auD ?_|(refine auW ?_ ?_<;>intro h<;>try exact auH)|(simp only [Int.toNat_natCast,ex])
   all_goals try exact auP
   ·skip
    all_goals refine auV ?_
    all_goals try exact zc
    all_goals try simp only [hsM] at *
    rw [hp]
    simp [zk, *]
   ·refine zn ?_
    refine ⟨k+1,⟨Nat.succ_le_of_lt hlt,by rw [hp];simp [zk, *]⟩,Nat.sub_lt_sub_left hlt (Nat.lt_succ_self k),?_⟩
    refine zo ?_ ?_ (Nat.le_refl _)
    all_goals first|refine auE ?_|exact zK
    all_goals repeat' first|exact trivial|exact rfl|apply And.intro
    exact yd ((IntWalk.i64_in _ (by omega)).trans (by omega))
  ·skip
   repeat' first|refine auS ?_|fail|refine auD ?_|(refine auW ?_ ?_<;>intro h<;>try exact auH)|fail
   all_goals try exact auP
   all_goals refine auV ?_
   all_goals try exact zc
   all_goals try simp only [hsM] at *
   obtain rfl:k=l.length:=by omega
   rw [hp,List.drop_length]
   rfl
theorem tY (h:Hs) (ad:Int) (hl:h.ms.length≤maxLen):zi Tryz.prog 70 [dH h,.v (.int .u32 ad)] (.v (.int .i64 (zk (fun m:Mt=>decide (m.ad=ad)) h.ms 0))):=by
 have hi:=lV (g:=98) (caps:=[.rptr [.v (.int .u32 ad)]]) (fun m:Mt=>decide (m.ad=ad)) h.ms false hl (fun m _=>gg m ad)
 refine z7 {} 0 Tryz.func70 fun Γ hW=>auC ?_
 repeat' first|((with_reducible refine pk ?_);(refine zP (yb hW ⟨.d0,.d0,.d3⟩ rfl rfl ⟨rfl,rfl,Nat.succ_pos _⟩) ?_))|refine auS ?_|(with_reducible refine z6 hi ?_)|refine auD ?_|(refine auW ?_ ?_<;>intro h<;>try exact auH)|fail
 all_goals refine auV ?_
 all_goals try exact zc
 all_goals try simp only [hsM] at *
end Go.Proofs.YtaiileiodjicpaaGreatDoor
