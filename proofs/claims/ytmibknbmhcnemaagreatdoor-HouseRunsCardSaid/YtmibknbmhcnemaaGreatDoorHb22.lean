import Derived.Test.YtmibknbmhcnemaaGreatDoorHb21
set_option linter.unusedVariables false
set_option linter.unusedSimpArgs false
namespace Go.Proofs.YtmibknbmhcnemaaGreatDoor
attribute [local irreducible] zF Go
set_option maxRecDepth 100000
set_option maxHeartbeats 8000000 in
theorem k9 (p:Pk) (he:¬uu p=0) (ho:p.opt.length≤140737488351232) (hd:p.data.length≤140737488351232) (hfr:0≤p.fr∧p.fr<4294967296) (hto:0≤p.to∧p.to<4294967296):zd Tryz.prog 167 [dP p] (dSI (pW p)):=by
 have e1:IntKind.i64.wrap (20+(p.opt.length:Nat))=20+(p.opt.length:Int):=IntWalk.i64_in _ (by omega)
 have e3:IntKind.i64.wrap (20+(p.opt.length:Int)+(p.data.length:Nat))=20+(p.opt.length:Int)+(p.data.length:Int):=IntWalk.i64_in _ (by omega)
 unfold pW
 rw [if_neg he]
 obtain ⟨tos,id,wh,mo,start,life,proto,fr,to,opt,data⟩:=p
 unfold uu Pk.arg Pk.form
 dsimp only at ho hd e1 e3 ⊢
 by_cases h1:0≤tos∧tos≤255
 rotate_left 1
 ·rw [if_pos (fun q=>h1 q.1)]
  refine z4 {} 0 Tryz.func167 fun Γ hW=>auC ?_
  repeat' first|refine auS ?_|(first|(simp only [zf,z5,xF,Int.toNat_natCast])|(simp only [e1])|(simp only [e2])|(simp only [e3])|(simp only [ef])|(simp only [x1])|(simp only [x2])|(with_reducible refine z0 (z6 _ _ _) ?_)|(with_reducible refine z0 (zC _ (by omega)) ?_)|(with_reducible refine z0 hl1 ?_)|(with_reducible refine z0 hl2 ?_)|(with_reducible refine z0 hs ?_)|(with_reducible refine zy rfl (wE _ _ _ _ _) ?_)|(with_reducible refine zy rfl (vu _ _ _ _ _ _ _) ?_))|refine auD ?_|(refine auW ?_ ?_<;>intro h<;>try exact auH)|(refine z7 (by simp only [zf,z5,List.length_append,List.length_cons,List.length_nil,zx,zW,zE,xZ,w9,List.length_take,List.length_drop];omega) ?_)
  all_goals try exact auP
  all_goals refine auV ?_
  all_goals try exact z8
  all_goals try simp only [hsM] at *
  all_goals rfl
 by_cases h2:0≤life∧life≤255
 rotate_left 1
 ·rw [if_pos (fun q=>h2 q.2.1)]
  refine z4 {} 0 Tryz.func167 fun Γ hW=>auC ?_
  repeat' first|refine auS ?_|(first|(simp only [zf,z5,xF,Int.toNat_natCast])|(simp only [e1])|(simp only [e2])|(simp only [e3])|(simp only [ef])|(simp only [x1])|(simp only [x2])|(with_reducible refine z0 (z6 _ _ _) ?_)|(with_reducible refine z0 (zC _ (by omega)) ?_)|(with_reducible refine z0 hl1 ?_)|(with_reducible refine z0 hl2 ?_)|(with_reducible refine z0 hs ?_)|(with_reducible refine zy rfl (wE _ _ _ _ _) ?_)|(with_reducible refine zy rfl (vu _ _ _ _ _ _ _) ?_))|refine auD ?_|(refine auW ?_ ?_<;>intro h<;>try exact auH)|(refine z7 (by simp only [zf,z5,List.length_append,List.length_cons,List.length_nil,zx,zW,zE,xZ,w9,List.length_take,List.length_drop];omega) ?_)
  all_goals try exact auP
  all_goals refine auV ?_
  all_goals try exact z8
  all_goals try simp only [hsM] at *
  all_goals rfl
 by_cases h3:0≤proto∧proto≤255
 rotate_left 1
 ·rw [if_pos (fun q=>h3 q.2.2.1)]
  refine z4 {} 0 Tryz.func167 fun Γ hW=>auC ?_
  repeat' first|refine auS ?_|(first|(simp only [zf,z5,xF,Int.toNat_natCast])|(simp only [e1])|(simp only [e2])|(simp only [e3])|(simp only [ef])|(simp only [x1])|(simp only [x2])|(with_reducible refine z0 (z6 _ _ _) ?_)|(with_reducible refine z0 (zC _ (by omega)) ?_)|(with_reducible refine z0 hl1 ?_)|(with_reducible refine z0 hl2 ?_)|(with_reducible refine z0 hs ?_)|(with_reducible refine zy rfl (wE _ _ _ _ _) ?_)|(with_reducible refine zy rfl (vu _ _ _ _ _ _ _) ?_))|refine auD ?_|(refine auW ?_ ?_<;>intro h<;>try exact auH)|(refine z7 (by simp only [zf,z5,List.length_append,List.length_cons,List.length_nil,zx,zW,zE,xZ,w9,List.length_take,List.length_drop];omega) ?_)
  all_goals try exact auP
  all_goals refine auV ?_
  all_goals try exact z8
  all_goals try simp only [hsM] at *
  all_goals rfl
 by_cases h4:0≤id∧id≤65535
 rotate_left 1
 ·rw [if_pos (fun q=>h4 q.2.2.2.1)]
  refine z4 {} 0 Tryz.func167 fun Γ hW=>auC ?_
  repeat' first|refine auS ?_|(first|(simp only [zf,z5,xF,Int.toNat_natCast])|(simp only [e1])|(simp only [e2])|(simp only [e3])|(simp only [ef])|(simp only [x1])|(simp only [x2])|(with_reducible refine z0 (z6 _ _ _) ?_)|(with_reducible refine z0 (zC _ (by omega)) ?_)|(with_reducible refine z0 hl1 ?_)|(with_reducible refine z0 hl2 ?_)|(with_reducible refine z0 hs ?_)|(with_reducible refine zy rfl (wE _ _ _ _ _) ?_)|(with_reducible refine zy rfl (vu _ _ _ _ _ _ _) ?_))|refine auD ?_|(refine auW ?_ ?_<;>intro h<;>try exact auH)|(refine z7 (by simp only [zf,z5,List.length_append,List.length_cons,List.length_nil,zx,zW,zE,xZ,w9,List.length_take,List.length_drop];omega) ?_)
  all_goals try exact auP
  all_goals refine auV ?_
  all_goals try exact z8
  all_goals try simp only [hsM] at *
  all_goals rfl
 by_cases h5:0≤start∧start≤8191
 rotate_left 1
 ·rw [if_pos (fun q=>h5 q.2.2.2.2.1)]
  refine z4 {} 0 Tryz.func167 fun Γ hW=>auC ?_
  repeat' first|refine auS ?_|(first|(simp only [zf,z5,xF,Int.toNat_natCast])|(simp only [e1])|(simp only [e2])|(simp only [e3])|(simp only [ef])|(simp only [x1])|(simp only [x2])|(with_reducible refine z0 (z6 _ _ _) ?_)|(with_reducible refine z0 (zC _ (by omega)) ?_)|(with_reducible refine z0 hl1 ?_)|(with_reducible refine z0 hl2 ?_)|(with_reducible refine z0 hs ?_)|(with_reducible refine zy rfl (wE _ _ _ _ _) ?_)|(with_reducible refine zy rfl (vu _ _ _ _ _ _ _) ?_))|refine auD ?_|(refine auW ?_ ?_<;>intro h<;>try exact auH)|(refine z7 (by simp only [zf,z5,List.length_append,List.length_cons,List.length_nil,zx,zW,zE,xZ,w9,List.length_take,List.length_drop];omega) ?_)
  all_goals try exact auP
  all_goals refine auV ?_
  all_goals try exact z8
  all_goals try simp only [hsM] at *
  all_goals rfl
 by_cases h6:opt.length≤40
 rotate_left 1
 ·rw [if_pos (fun q=>h6 q.2.2.2.2.2.1)]
  refine z4 {} 0 Tryz.func167 fun Γ hW=>auC ?_
  repeat' first|refine auS ?_|(first|(simp only [zf,z5,xF,Int.toNat_natCast])|(simp only [e1])|(simp only [e2])|(simp only [e3])|(simp only [ef])|(simp only [x1])|(simp only [x2])|(with_reducible refine z0 (z6 _ _ _) ?_)|(with_reducible refine z0 (zC _ (by omega)) ?_)|(with_reducible refine z0 hl1 ?_)|(with_reducible refine z0 hl2 ?_)|(with_reducible refine z0 hs ?_)|(with_reducible refine zy rfl (wE _ _ _ _ _) ?_)|(with_reducible refine zy rfl (vu _ _ _ _ _ _ _) ?_))|refine auD ?_|(refine auW ?_ ?_<;>intro h<;>try exact auH)|(refine z7 (by simp only [zf,z5,List.length_append,List.length_cons,List.length_nil,zx,zW,zE,xZ,w9,List.length_take,List.length_drop];omega) ?_)
  all_goals try exact auP
  all_goals refine auV ?_
  all_goals try exact z8
  all_goals try simp only [hsM] at *
  all_goals rfl
 by_cases h7:opt.length % 4=0
 rotate_left 1
 ·rw [if_pos (fun q=>h7 q.2.2.2.2.2.2)]
  refine z4 {} 0 Tryz.func167 fun Γ hW=>auC ?_
  repeat' first|refine auS ?_|(first|(simp only [zf,z5,xF,Int.toNat_natCast])|(simp only [e1])|(simp only [e2])|(simp only [e3])|(simp only [ef])|(simp only [x1])|(simp only [x2])|(with_reducible refine z0 (z6 _ _ _) ?_)|(with_reducible refine z0 (zC _ (by omega)) ?_)|(with_reducible refine z0 hl1 ?_)|(with_reducible refine z0 hl2 ?_)|(with_reducible refine z0 hs ?_)|(with_reducible refine zy rfl (wE _ _ _ _ _) ?_)|(with_reducible refine zy rfl (vu _ _ _ _ _ _ _) ?_))|refine auD ?_|(refine auW ?_ ?_<;>intro h<;>try exact auH)|(refine z7 (by simp only [zf,z5,List.length_append,List.length_cons,List.length_nil,zx,zW,zE,xZ,w9,List.length_take,List.length_drop];omega) ?_)
  all_goals try exact auP
  all_goals refine auV ?_
  all_goals try exact z8
  all_goals try simp only [hsM] at *
  all_goals rfl
 rw [if_neg (not_not_intro ⟨h1,h2,h3,h4,h5,h6,h7⟩)]
 cases wh with
 |true=>
  cases mo with
  |true=>
   rw [if_pos (by simp)]
   refine z4 {} 0 Tryz.func167 fun Γ hW=>auC ?_
   repeat' first|refine auS ?_|(first|(simp only [zf,z5,xF,Int.toNat_natCast])|(simp only [e1])|(simp only [e2])|(simp only [e3])|(simp only [ef])|(simp only [x1])|(simp only [x2])|(with_reducible refine z0 (z6 _ _ _) ?_)|(with_reducible refine z0 (zC _ (by omega)) ?_)|(with_reducible refine z0 hl1 ?_)|(with_reducible refine z0 hl2 ?_)|(with_reducible refine z0 hs ?_)|(with_reducible refine zy rfl (wE _ _ _ _ _) ?_)|(with_reducible refine zy rfl (vu _ _ _ _ _ _ _) ?_))|refine auD ?_|(refine auW ?_ ?_<;>intro h<;>try exact auH)|(refine z7 (by simp only [zf,z5,List.length_append,List.length_cons,List.length_nil,zx,zW,zE,xZ,w9,List.length_take,List.length_drop];omega) ?_)
   all_goals try exact auP
   all_goals refine auV ?_
   all_goals try exact z8
   all_goals try simp only [hsM] at *
   all_goals rfl
  |false=>
   by_cases h8:start=0
   ·rw [if_neg (by simp [h8])]
    by_cases h9:65515<data.length+opt.length
    ·rw [if_pos h9]
     refine z4 {} 0 Tryz.func167 fun Γ hW=>auC ?_
     repeat' first|refine auS ?_|(first|(simp only [zf,z5,xF,Int.toNat_natCast])|(simp only [e1])|(simp only [e2])|(simp only [e3])|(simp only [ef])|(simp only [x1])|(simp only [x2])|(with_reducible refine z0 (z6 _ _ _) ?_)|(with_reducible refine z0 (zC _ (by omega)) ?_)|(with_reducible refine z0 hl1 ?_)|(with_reducible refine z0 hl2 ?_)|(with_reducible refine z0 hs ?_)|(with_reducible refine zy rfl (wE _ _ _ _ _) ?_)|(with_reducible refine zy rfl (vu _ _ _ _ _ _ _) ?_))|refine auD ?_|(refine auW ?_ ?_<;>intro h<;>try exact auH)|(refine z7 (by simp only [zf,z5,List.length_append,List.length_cons,List.length_nil,zx,zW,zE,xZ,w9,List.length_take,List.length_drop];omega) ?_)
     all_goals try exact auP
     all_goals refine auV ?_
     all_goals try exact z8
     all_goals try simp only [hsM] at *
     all_goals rfl
    ·exact absurd (show uu _=0 by unfold uu Pk.arg Pk.form;dsimp only;rw [if_neg (not_not_intro ⟨h1,h2,h3,h4,h5,h6,h7⟩),if_neg (by simp [h8]),if_neg h9]) he
   ·rw [if_pos (by simp [h8])]
    refine z4 {} 0 Tryz.func167 fun Γ hW=>auC ?_
    repeat' first|refine auS ?_|(first|(simp only [zf,z5,xF,Int.toNat_natCast])|(simp only [e1])|(simp only [e2])|(simp only [e3])|(simp only [ef])|(simp only [x1])|(simp only [x2])|(with_reducible refine z0 (z6 _ _ _) ?_)|(with_reducible refine z0 (zC _ (by omega)) ?_)|(with_reducible refine z0 hl1 ?_)|(with_reducible refine z0 hl2 ?_)|(with_reducible refine z0 hs ?_)|(with_reducible refine zy rfl (wE _ _ _ _ _) ?_)|(with_reducible refine zy rfl (vu _ _ _ _ _ _ _) ?_))|refine auD ?_|(refine auW ?_ ?_<;>intro h<;>try exact auH)|(refine z7 (by simp only [zf,z5,List.length_append,List.length_cons,List.length_nil,zx,zW,zE,xZ,w9,List.length_take,List.length_drop];omega) ?_)
    all_goals try exact auP
    all_goals refine auV ?_
    all_goals try exact z8
    all_goals try simp only [hsM] at *
    all_goals rfl
 |false=>
  rw [if_neg (by simp)]
  by_cases h9:65515<data.length+opt.length
  ·rw [if_pos h9]
   have ef:IntKind.i64.wrap (start+8192)=start+8192:=IntWalk.i64_in _ (by omega)
   refine z4 {} 0 Tryz.func167 fun Γ hW=>auC ?_
   repeat' first|refine auS ?_|(first|(simp only [zf,z5,xF,Int.toNat_natCast])|(simp only [e1])|(simp only [e2])|(simp only [e3])|(simp only [ef])|(simp only [x1])|(simp only [x2])|(with_reducible refine z0 (z6 _ _ _) ?_)|(with_reducible refine z0 (zC _ (by omega)) ?_)|(with_reducible refine z0 hl1 ?_)|(with_reducible refine z0 hl2 ?_)|(with_reducible refine z0 hs ?_)|(with_reducible refine zy rfl (wE _ _ _ _ _) ?_)|(with_reducible refine zy rfl (vu _ _ _ _ _ _ _) ?_))|refine auD ?_|(refine auW ?_ ?_<;>intro h<;>try exact auH)|(refine z7 (by simp only [zf,z5,List.length_append,List.length_cons,List.length_nil,zx,zW,zE,xZ,w9,List.length_take,List.length_drop];omega) ?_)
   all_goals try exact auP
   all_goals refine auV ?_
   all_goals try exact z8
   all_goals try simp only [hsM] at *
   all_goals rfl
  ·exact absurd (show uu _=0 by unfold uu Pk.arg Pk.form;dsimp only;rw [if_neg (not_not_intro ⟨h1,h2,h3,h4,h5,h6,h7⟩),if_neg (by simp),if_neg h9]) he
end Go.Proofs.YtmibknbmhcnemaaGreatDoor
