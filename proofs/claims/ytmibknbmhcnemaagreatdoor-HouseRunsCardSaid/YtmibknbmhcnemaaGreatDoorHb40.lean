import Derived.Test.YtmibknbmhcnemaaGreatDoorHb15
set_option linter.unusedVariables false
set_option linter.unusedSimpArgs false
namespace Go.Proofs.YtmibknbmhcnemaaGreatDoor.T
attribute [local irreducible] zF Go
set_option maxRecDepth 100000
theorem sD (a b c d s o x a' b' c' d':Int):zd Tryz.prog 174 [dT a b c d s o x,.rptr [.v (.int .u32 a'),.v (.int .u32 b'),.v (.int .i64 c'),.v (.int .i64 d')]] (.v (.bool (vA a b c d a' b' c' d'))):=by
 refine z4 {} 0 Tryz.func174 fun Γ hW=>auC ?_
 repeat' first|refine auS ?_|(with_reducible refine z0 (qB _ _ _ _ _ _ _ _ _ _ _) ?_)|refine auD ?_|(refine auW ?_ ?_<;>intro h<;>try exact auH)|fail
 all_goals refine auV ?_
 all_goals try exact z8
 all_goals try simp only [hsM] at *
set_option maxHeartbeats 2000000 in
theorem ab (l:List Tk) (a b c d fl now:Int) (he:y8 l≠0):zd Tryz.prog 135 [.snap 7 (l.map Tk.enc) false,dR a b c d,.v (.int .i64 fl),.v (.int .i64 now)] (hD (l,false,y8 l)):=by
 refine z4 {} 0 Tryz.func135 fun Γ hW=>auC ?_
 repeat' first|refine qj ?_|(with_reducible refine z0 (yp l) ?_)|refine auD ?_|(refine auW ?_ ?_<;>intro h<;>try exact auH)|fail
 refine xU ?_
 repeat' first|refine qj ?_|(with_reducible refine z0 (yp l) ?_)|refine auD ?_|(refine auW ?_ ?_<;>intro h<;>try exact auH)|fail
 all_goals try exact auP
 all_goals refine auV ?_
 all_goals try exact z8
 all_goals try simp only [hsM] at *
set_option maxHeartbeats 4000000 in
theorem eL (l:List Tk) (a b c d fl now:Int) (he:y8 l=0) (hb:sr l a b c d fl now=false):zd Tryz.prog 135 [.snap 7 (l.map Tk.enc) false,dR a b c d,.v (.int .i64 fl),.v (.int .i64 now)] (hD (l,false,1)):=by
 have hb':¬(((0≤c∧c≤65535)∧(0≤d∧d≤65535)∧¬(a=b∧c=d))∧(0≤fl∧fl≤255)∧yE l≤now∧now≤1099511627776):=by
  intro h
  unfold sr sZ at hb
  rw [decide_eq_true h.1,decide_eq_true h.2] at hb
  cases hb
 clear hb
 have hl:=(zr he).1
 refine z4 {} 0 Tryz.func135 fun Γ hW=>auC ?_
 repeat' first|(refine zN (zw hW ⟨.d0,.d0,.d5⟩ rfl rfl ⟨rfl,rfl,Nat.succ_pos _⟩) ?_)|refine qj ?_|(with_reducible refine z0 (yp l) ?_)|refine auD ?_|(refine auW ?_ ?_<;>intro h<;>try exact auH)|fail
 refine xU ?_
 repeat' first|refine qj ?_|(with_reducible refine z0 (yp l) ?_)|refine auD ?_|(refine auW ?_ ?_<;>intro h<;>try exact auH)|fail
 refine ze (α:=Nat×Nat) (fun p=>[(⟨.d0,.d1,.d4⟩,.v (.int .i64 (yE (l.take p.1)))),(⟨.d0,.d3,.d6⟩,.v (.int .i64 (p.1:Nat)))]) (fun p=>[(1,none)]) (fun p=>p.2) (fun p=>l.length-p.1) (fun p=>p.1≤l.length∧Γ.g0≤p.2) (0,Γ.g0+1) ⟨Nat.zero_le _,Nat.le_succ _⟩ ?_ ?_
 ·skip
  refine zb ?_ ?_ (Nat.le_refl _)
  all_goals first|refine auE ?_|exact zi
  all_goals repeat' first|exact trivial|exact rfl|apply And.intro
 rintro ⟨k,gn⟩ ⟨hk,hgn⟩
 dsimp only at hk hgn ⊢
 refine auL ?_
 by_cases hlt:k<l.length
 ·obtain ⟨t,ht⟩:∃t,l[k]?=some t:=⟨_,List.getElem?_eq_getElem hlt⟩
  have ex:=yP ht
  have hlx:yE (l.take (k+1))=t.x:=xg _ k t (by rw [List.getElem?_take,if_pos (Nat.lt_succ_self k)];exact ht) (by rw [List.length_take];omega)
  repeat' first|refine auS ?_|fail|refine auD ?_|(refine auW ?_ ?_<;>intro h<;>try exact auH)|(simp only [Int.toNat_natCast,ex])
  all_goals try exact auP
  refine za ⟨(k+1,gn+1),⟨hlt,Nat.le_succ_of_le hgn⟩,Nat.sub_lt_sub_left hlt (Nat.lt_succ_self k),?_⟩
  refine zb ?_ ?_ (Nat.le_refl _)
  all_goals first|refine auE ?_|exact zi
  all_goals repeat' first|exact trivial|exact rfl|apply And.intro
  all_goals first
   |exact zB hlx.symm
   |exact zB ((IntWalk.i64_in _ (by omega)).trans (by omega))
 obtain rfl:k=l.length:=by omega
 simp only [List.take_length]
 repeat' first|refine auS ?_|(first|(with_reducible refine z0 (wk _ _ _ _) ?_)|(with_reducible refine z0 (uH _ _ _ _) ?_)|(with_reducible refine z0 (z6 _ _ _) ?_))|refine auD ?_|(refine auW ?_ ?_<;>intro h<;>try exact auH)|fail
 all_goals try exact auP
 all_goals refine auV ?_
 all_goals try exact z8
 all_goals try simp only [hsM] at *
set_option maxHeartbeats 4000000 in
theorem gj (l:List Tk) (a b c d fl now:Int) (he:y8 l=0) (hb:sr l a b c d fl now=true) (syn ack fin rst:Bool) (hf:vL fl syn ack fin rst) (hidx:zl (fun t=>t.along a b c d) (yng l now) 0 = -1):zd Tryz.prog 135 [.snap 7 (l.map Tk.enc) false,dR a b c d,.v (.int .i64 fl),.v (.int .i64 now)] (hD (vI l a b c d now syn ack fin rst)):=by
 have hb':((0≤c∧c≤65535)∧(0≤d∧d≤65535)∧¬(a=b∧c=d))∧(0≤fl∧fl≤255)∧yE l≤now∧now≤1099511627776:=by
  unfold sr sZ at hb
  simp only [Bool.and_eq_true,decide_eq_true_eq] at hb
  exact hb
 clear hb
 have hl:=(zr he).1
 refine z4 {} 0 Tryz.func135 fun Γ hW=>auC ?_
 repeat' first|(refine zN (zw hW ⟨.d0,.d0,.d5⟩ rfl rfl ⟨rfl,rfl,Nat.succ_pos _⟩) ?_)|refine qj ?_|(with_reducible refine z0 (yp l) ?_)|refine auD ?_|(refine auW ?_ ?_<;>intro h<;>try exact auH)|fail
 refine xU ?_
 repeat' first|refine qj ?_|(with_reducible refine z0 (yp l) ?_)|refine auD ?_|(refine auW ?_ ?_<;>intro h<;>try exact auH)|fail
 refine ze (α:=Nat×Nat) (fun p=>[(⟨.d0,.d1,.d4⟩,.v (.int .i64 (yE (l.take p.1)))),(⟨.d0,.d3,.d6⟩,.v (.int .i64 (p.1:Nat)))]) (fun p=>[(1,none)]) (fun p=>p.2) (fun p=>l.length-p.1) (fun p=>p.1≤l.length∧Γ.g0≤p.2) (0,Γ.g0+1) ⟨Nat.zero_le _,Nat.le_succ _⟩ ?_ ?_
 ·skip
  refine zb ?_ ?_ (Nat.le_refl _)
  all_goals first|refine auE ?_|exact zi
  all_goals repeat' first|exact trivial|exact rfl|apply And.intro
 rintro ⟨k,gn⟩ ⟨hk,hgn⟩
 dsimp only at hk hgn ⊢
 refine auL ?_
 by_cases hlt:k<l.length
 ·obtain ⟨t,ht⟩:∃t,l[k]?=some t:=⟨_,List.getElem?_eq_getElem hlt⟩
  have ex:=yP ht
  have hlx:yE (l.take (k+1))=t.x:=xg _ k t (by rw [List.getElem?_take,if_pos (Nat.lt_succ_self k)];exact ht) (by rw [List.length_take];omega)
  repeat' first|refine auS ?_|fail|refine auD ?_|(refine auW ?_ ?_<;>intro h<;>try exact auH)|(simp only [Int.toNat_natCast,ex])
  all_goals try exact auP
  refine za ⟨(k+1,gn+1),⟨hlt,Nat.le_succ_of_le hgn⟩,Nat.sub_lt_sub_left hlt (Nat.lt_succ_self k),?_⟩
  refine zb ?_ ?_ (Nat.le_refl _)
  all_goals first|refine auE ?_|exact zi
  all_goals repeat' first|exact trivial|exact rfl|apply And.intro
  all_goals first
   |exact zB hlx.symm
   |exact zB ((IntWalk.i64_in _ (by omega)).trans (by omega))
 obtain rfl:k=l.length:=by omega
 simp only [List.take_length]
 repeat' first|refine auS ?_|(first|(with_reducible refine z0 (wk _ _ _ _) ?_)|(with_reducible refine z0 (uH _ _ _ _) ?_)|(with_reducible refine z0 (z6 _ _ _) ?_))|refine auD ?_|(refine auW ?_ ?_<;>intro h<;>try exact auH)|fail
 all_goals try exact auP
 have hones:∀r:List Tk,y5 (r.map Tk.enc)=true:=y_ (fun x=>rfl)
 have hnow:0≤now∧now≤1099511627776:=⟨Int.le_trans (rg (zr he).2) hb'.2.2.1,hb'.2.2.2⟩
 refine sd (yW ⟨.d0,.d1,.d7⟩ 4 7 rfl rfl) ?_
 refine ze (α:=Nat×Nat×Nat) (fun p=>[(⟨.d0,.d1,.d7⟩,.sl 4 p.2.2 7 0 (yng (l.take p.1) now).length false),(⟨.d0,.d7,.d4⟩,.v (.int .i64 (p.1:Nat)))]) (fun p=>[(2,none),(3,none),(4,some ⟨p.2.2,7,(yng (l.take p.1) now).map Tk.enc⟩)]) (fun p=>p.2.1) (fun p=>l.length-p.1) (fun p=>p.1≤l.length∧Γ.g0≤p.2.2∧Γ.g0≤p.2.1) (0,gn+1,gn) ⟨Nat.zero_le _,hgn,Nat.le_succ_of_le hgn⟩ ?_ ?_
 ·skip
  refine zb ?_ ?_ (Nat.le_refl _)
  all_goals first|refine auE ?_|exact zi
  all_goals repeat' first|exact trivial|exact rfl|apply And.intro
 rintro ⟨k,g2,N⟩ ⟨hk,hN,hg2⟩
 dsimp only at hk hN hg2 ⊢
 refine auL ?_
 by_cases hlt:k<l.length
 ·obtain ⟨t,ht⟩:∃t,l[k]?=some t:=⟨_,List.getElem?_eq_getElem hlt⟩
  have ex:=yP ht
  have hfm:=vS (yH (zr he).2 (List.mem_of_getElem? ht))
  have hyl:(List.filter (fun t=>!t.old now) (List.take k l)).length≤64:=Nat.le_trans (List.length_filter_le _ _) (by rw [List.length_take];omega)
  have hyl2:(yng (List.take k l) now).length≤64:=hyl
  have htk:l.take (k+1)=l.take k++[t]:=by rw [List.take_add_one,ht];rfl
  repeat' first|refine auS ?_|(with_reducible refine z0 (uC _ _ _ _ _ _ _ _ hfm.1 hfm.2 hnow) ?_)|refine auD ?_|(refine auW ?_ ?_<;>intro h<;>try exact auH)|(first|(simp only [Int.toNat_natCast,ex])|(refine z7 ⟨by trivial,by trivial,by trivial,by trivial,by simp⟩ ?_)|(refine z7 ⟨by trivial,by (unfold zZ maxLen;simp only [List.length_map,List.length_cons,List.length_nil];omega)⟩ ?_)|fail)
  ·have hy1:yng (l.take (k+1)) now=yng (l.take k) now++[t]:=by
    unfold yng
    rw [htk,List.filter_append]
    have:t.old now=false:=by unfold Tk.old;simpa using h
    simp [this]
   refine za ⟨(k+1,g2+1+1+1,g2+1+1),⟨hlt,by show Γ.g0≤g2+1+1;omega,by show Γ.g0≤g2+1+1+1;omega⟩,Nat.sub_lt_sub_left hlt (Nat.lt_succ_self k),?_⟩
   refine zb ?_ ?_ (Nat.le_refl _)
   all_goals first|refine auE ?_|exact zi
   all_goals repeat' first|exact trivial|exact rfl|apply And.intro
   all_goals first
    |exact zB ((IntWalk.i64_in _ (by omega)).trans (by omega))
    |(rw [hy1,List.length_append,List.length_map];rfl)
    |(rw [hy1];exact congrArg (fun q=>some (zo.mk _ 7 q)) (ue _ t))
    |skip
  ·have hy1:yng (l.take (k+1)) now=yng (l.take k) now:=by
    unfold yng
    rw [htk,List.filter_append]
    have:t.old now=true:=by unfold Tk.old;simpa using h
    simp [this]
   refine za ⟨(k+1,g2+1,N),⟨hlt,hN,by show Γ.g0≤g2+1;omega⟩,Nat.sub_lt_sub_left hlt (Nat.lt_succ_self k),?_⟩
   refine zb ?_ ?_ (Nat.le_refl _)
   all_goals first|refine auE ?_|exact zi
   all_goals repeat' first|exact trivial|exact rfl|apply And.intro
   all_goals first
    |exact zB ((IntWalk.i64_in _ (by omega)).trans (by omega))
    |(rw [hy1])
    |skip
 obtain rfl:k=l.length:=by omega
 simp only [List.take_length]
 have hyl:(List.filter (fun t=>!t.old now) l).length≤l.length:=List.length_filter_le _ _
 have hyl2:(yng l now).length≤l.length:=hyl
 have hp:=fun n=>vR 4 (g:=174) (caps:=[.rptr [.v (.int .u32 a),.v (.int .u32 b),.v (.int .i64 c),.v (.int .i64 d)]]) (fun t=>t.along a b c d) (yng l now) (by unfold maxLen;omega) n (fun t _=>sD t.a t.b t.c t.d t.s t.o t.x a b c d)
 simp only [hidx] at hp
 have f23:=hf.2.2.2.2.2.2
 repeat' first|refine auS ?_|(first|(simp only [f23])|((with_reducible refine z9 4 ?_ (hp _) (fun _ _ _ h=>h) ?_);(exact rfl)))|refine auD ?_|(refine auW ?_ ?_<;>intro h<;>try exact auH)|(first|(refine z7 ⟨by trivial,by trivial,by trivial,by trivial,by simp⟩ ?_)|(refine z7 ⟨by trivial,by (unfold zZ maxLen;simp only [List.length_map];omega)⟩ ?_)|fail)
 all_goals try exact auP
 ·refine zt (zk hW ⟨.d0,.d1,.d0⟩ rfl rfl ⟨rfl,rfl,by simp⟩) ?_
  simp only [yA]
  all_goals refine auV ?_
  all_goals try exact z8
  all_goals try simp only [hsM] at *
  all_goals (cases syn<;>cases ack<;>cases fin<;>cases rst<;>first|rfl|(exfalso;simp_all;done))
 ·have e:vI l a b c d now syn ack fin rst=(l,false,6):=by
   have q:(yng l now).length=64:=by (simp only [hsL,reduceCtorEq] at *<;>omega)
   unfold vI
   rw [if_neg (by cases syn<;>cases ack<;>cases fin<;>cases rst<;>simp_all),if_pos q]
  rw [e]
  all_goals refine auV ?_
  all_goals try exact z8
  all_goals try simp only [hsM] at *
 ·refine zt (zk hW ⟨.d0,.d1,.d0⟩ rfl rfl ⟨rfl,rfl,by simp⟩) ?_
  have e:vI l a b c d now syn ack fin rst=(yng l now++[⟨a,b,c,d,1,0,now⟩],true,0):=by
   have q:¬(yng l now).length=64:=by (simp only [hsL,reduceCtorEq] at *<;>omega)
   unfold vI
   rw [if_neg (by cases syn<;>cases ack<;>cases fin<;>cases rst<;>simp_all),if_neg q]
  rw [e,yN (by simp)]
  ·rw [show List.map Tk.enc (yng l now)++[[.v (.int .u32 a),.v (.int .u32 b),.v (.int .i64 c),.v (.int .i64 d),.v (.int .i64 1),.v (.int .i64 0),.v (.int .i64 now)]]=List.map Tk.enc (yng l now++[⟨a,b,c,d,1,0,now⟩]) from ue _ ⟨a,b,c,d,1,0,now⟩]
   all_goals refine auV ?_
   all_goals try exact z8
   all_goals try simp only [hsM] at *
theorem W1 (a b c d s o x fl:Int) (syn ack fin op:Bool) (hf:vL fl syn ack fin false) (hs:pd s o):zd Tryz.prog 175 [dT a b c d s o x,.v (.bool op),.v (.int .i64 fl)]
  (.tup [dT a b c d (pas s o syn ack fin op).2.1 (pas s o syn ack fin op).2.2 x,.v (.bool true),.v (.bool (pas s o syn ack fin op).1)]):=bW a b c d s o x fl syn ack fin false op hf hs
theorem cb {t:Tk} (h:t.form=true):pd t.s t.o:=by
 unfold Tk.form tj at h
 simp only [Bool.and_eq_true,decide_eq_true_eq] at h
 unfold pd
 omega
set_option maxHeartbeats 4000000 in
theorem dw (l:List Tk) (a b c d fl now:Int) (he:y8 l=0) (hb:sr l a b c d fl now=true) (syn ack fin:Bool) (hf:vL fl syn ack fin true) (i:Nat) (t:Tk) (hi:(yng l now)[i]?=some t) (hidx:zl (fun t=>t.along a b c d) (yng l now) 0=i):zd Tryz.prog 135 [.snap 7 (l.map Tk.enc) false,dR a b c d,.v (.int .i64 fl),.v (.int .i64 now)] (hD (xa l a b c d now syn ack fin true i t)):=by
 have hb':((0≤c∧c≤65535)∧(0≤d∧d≤65535)∧¬(a=b∧c=d))∧(0≤fl∧fl≤255)∧yE l≤now∧now≤1099511627776:=by
  unfold sr sZ at hb
  simp only [Bool.and_eq_true,decide_eq_true_eq] at hb
  exact hb
 clear hb
 have hl:=(zr he).1
 refine z4 {} 0 Tryz.func135 fun Γ hW=>auC ?_
 repeat' first|(refine zN (zw hW ⟨.d0,.d0,.d5⟩ rfl rfl ⟨rfl,rfl,Nat.succ_pos _⟩) ?_)|refine qj ?_|(with_reducible refine z0 (yp l) ?_)|refine auD ?_|(refine auW ?_ ?_<;>intro h<;>try exact auH)|fail
 refine xU ?_
 repeat' first|refine qj ?_|(with_reducible refine z0 (yp l) ?_)|refine auD ?_|(refine auW ?_ ?_<;>intro h<;>try exact auH)|fail
 refine ze (α:=Nat×Nat) (fun p=>[(⟨.d0,.d1,.d4⟩,.v (.int .i64 (yE (l.take p.1)))),(⟨.d0,.d3,.d6⟩,.v (.int .i64 (p.1:Nat)))]) (fun p=>[(1,none)]) (fun p=>p.2) (fun p=>l.length-p.1) (fun p=>p.1≤l.length∧Γ.g0≤p.2) (0,Γ.g0+1) ⟨Nat.zero_le _,Nat.le_succ _⟩ ?_ ?_
 ·skip
  refine zb ?_ ?_ (Nat.le_refl _)
  all_goals first|refine auE ?_|exact zi
  all_goals repeat' first|exact trivial|exact rfl|apply And.intro
 rintro ⟨k,gn⟩ ⟨hk,hgn⟩
 dsimp only at hk hgn ⊢
 refine auL ?_
 by_cases hlt:k<l.length
 ·obtain ⟨t,ht⟩:∃t,l[k]?=some t:=⟨_,List.getElem?_eq_getElem hlt⟩
  have ex:=yP ht
  have hlx:yE (l.take (k+1))=t.x:=xg _ k t (by rw [List.getElem?_take,if_pos (Nat.lt_succ_self k)];exact ht) (by rw [List.length_take];omega)
  repeat' first|refine auS ?_|fail|refine auD ?_|(refine auW ?_ ?_<;>intro h<;>try exact auH)|(simp only [Int.toNat_natCast,ex])
  all_goals try exact auP
  refine za ⟨(k+1,gn+1),⟨hlt,Nat.le_succ_of_le hgn⟩,Nat.sub_lt_sub_left hlt (Nat.lt_succ_self k),?_⟩
  refine zb ?_ ?_ (Nat.le_refl _)
  all_goals first|refine auE ?_|exact zi
  all_goals repeat' first|exact trivial|exact rfl|apply And.intro
  all_goals first
   |exact zB hlx.symm
   |exact zB ((IntWalk.i64_in _ (by omega)).trans (by omega))
 obtain rfl:k=l.length:=by omega
 simp only [List.take_length]
 repeat' first|refine auS ?_|(first|(with_reducible refine z0 (wk _ _ _ _) ?_)|(with_reducible refine z0 (uH _ _ _ _) ?_)|(with_reducible refine z0 (z6 _ _ _) ?_))|refine auD ?_|(refine auW ?_ ?_<;>intro h<;>try exact auH)|fail
 all_goals try exact auP
 have hones:∀r:List Tk,y5 (r.map Tk.enc)=true:=y_ (fun x=>rfl)
 have hnow:0≤now∧now≤1099511627776:=⟨Int.le_trans (rg (zr he).2) hb'.2.2.1,hb'.2.2.2⟩
 refine sd (yW ⟨.d0,.d1,.d7⟩ 4 7 rfl rfl) ?_
 refine ze (α:=Nat×Nat×Nat) (fun p=>[(⟨.d0,.d1,.d7⟩,.sl 4 p.2.2 7 0 (yng (l.take p.1) now).length false),(⟨.d0,.d7,.d4⟩,.v (.int .i64 (p.1:Nat)))]) (fun p=>[(2,none),(3,none),(4,some ⟨p.2.2,7,(yng (l.take p.1) now).map Tk.enc⟩)]) (fun p=>p.2.1) (fun p=>l.length-p.1) (fun p=>p.1≤l.length∧Γ.g0≤p.2.2∧Γ.g0≤p.2.1) (0,gn+1,gn) ⟨Nat.zero_le _,hgn,Nat.le_succ_of_le hgn⟩ ?_ ?_
 ·skip
  refine zb ?_ ?_ (Nat.le_refl _)
  all_goals first|refine auE ?_|exact zi
  all_goals repeat' first|exact trivial|exact rfl|apply And.intro
 rintro ⟨k,g2,N⟩ ⟨hk,hN,hg2⟩
 dsimp only at hk hN hg2 ⊢
 refine auL ?_
 by_cases hlt:k<l.length
 ·obtain ⟨t,ht⟩:∃t,l[k]?=some t:=⟨_,List.getElem?_eq_getElem hlt⟩
  have ex:=yP ht
  have hfm:=vS (yH (zr he).2 (List.mem_of_getElem? ht))
  have hyl:(List.filter (fun t=>!t.old now) (List.take k l)).length≤64:=Nat.le_trans (List.length_filter_le _ _) (by rw [List.length_take];omega)
  have hyl2:(yng (List.take k l) now).length≤64:=hyl
  have htk:l.take (k+1)=l.take k++[t]:=by rw [List.take_add_one,ht];rfl
  repeat' first|refine auS ?_|(with_reducible refine z0 (uC _ _ _ _ _ _ _ _ hfm.1 hfm.2 hnow) ?_)|refine auD ?_|(refine auW ?_ ?_<;>intro h<;>try exact auH)|(first|(simp only [Int.toNat_natCast,ex])|(refine z7 ⟨by trivial,by trivial,by trivial,by trivial,by simp⟩ ?_)|(refine z7 ⟨by trivial,by (unfold zZ maxLen;simp only [List.length_map,List.length_cons,List.length_nil];omega)⟩ ?_)|fail)
  ·have hy1:yng (l.take (k+1)) now=yng (l.take k) now++[t]:=by
    unfold yng
    rw [htk,List.filter_append]
    have:t.old now=false:=by unfold Tk.old;simpa using h
    simp [this]
   refine za ⟨(k+1,g2+1+1+1,g2+1+1),⟨hlt,by show Γ.g0≤g2+1+1;omega,by show Γ.g0≤g2+1+1+1;omega⟩,Nat.sub_lt_sub_left hlt (Nat.lt_succ_self k),?_⟩
   refine zb ?_ ?_ (Nat.le_refl _)
   all_goals first|refine auE ?_|exact zi
   all_goals repeat' first|exact trivial|exact rfl|apply And.intro
   all_goals first
    |exact zB ((IntWalk.i64_in _ (by omega)).trans (by omega))
    |(rw [hy1,List.length_append,List.length_map];rfl)
    |(rw [hy1];exact congrArg (fun q=>some (zo.mk _ 7 q)) (ue _ t))
    |skip
  ·have hy1:yng (l.take (k+1)) now=yng (l.take k) now:=by
    unfold yng
    rw [htk,List.filter_append]
    have:t.old now=true:=by unfold Tk.old;simpa using h
    simp [this]
   refine za ⟨(k+1,g2+1,N),⟨hlt,hN,by show Γ.g0≤g2+1;omega⟩,Nat.sub_lt_sub_left hlt (Nat.lt_succ_self k),?_⟩
   refine zb ?_ ?_ (Nat.le_refl _)
   all_goals first|refine auE ?_|exact zi
   all_goals repeat' first|exact trivial|exact rfl|apply And.intro
   all_goals first
    |exact zB ((IntWalk.i64_in _ (by omega)).trans (by omega))
    |(rw [hy1])
    |skip
 obtain rfl:k=l.length:=by omega
 simp only [List.take_length]
 have hyl:(List.filter (fun t=>!t.old now) l).length≤l.length:=List.length_filter_le _ _
 have hyl2:(yng l now).length≤l.length:=hyl
 have hp:=fun n=>vR 4 (g:=174) (caps:=[.rptr [.v (.int .u32 a),.v (.int .u32 b),.v (.int .i64 c),.v (.int .i64 d)]]) (fun t=>t.along a b c d) (yng l now) (by unfold maxLen;omega) n (fun t _=>sD t.a t.b t.c t.d t.s t.o t.x a b c d)
 simp only [hidx] at hp
 have hil:i<(yng l now).length:=(List.getElem?_eq_some_iff.1 hi).1
 have htl:t∈l:=(List.mem_filter.1 (List.mem_of_getElem? hi)).1
 have hfm:=vS (yH (zr he).2 htl)
 have hso:pd t.s t.o:=cb (yH (zr he).2 htl)
 have ex:=yP hi
 have hw:IntKind.i64.wrap ((i:Int)+1)=((i+1:Nat):Int):=(IntWalk.i64_in _ (by omega)).trans (by omega)
 have hsaid:=fun op=>fE t.a t.b t.c t.d t.s t.o t.x fl op hf.2.2.2.1
 have e1:zK (zV ((yng l now).map Tk.enc) 0) i=((yng l now).take i).map Tk.enc:=by rw [zz,y4,List.map_take];simp
 have e2:zK (zV ((yng l now).map Tk.enc) (i+1)) (((yng l now).length:Int)-((i+1:Nat):Int)).toNat=((yng l now).drop (i+1)).map Tk.enc:=by rw [zz,y4,←List.map_drop,←List.map_take,List.take_of_length_le (by rw [List.length_drop];omega)]
 have f23:=hf.2.2.2.2.2.2
 by_cases hlast:i+1<(yng l now).length∨i=0
 ·skip
  skip
  repeat' first|refine auS ?_|(first|(simp only [f23])|((with_reducible refine z9 4 ?_ (hp _) (fun _ _ _ h=>h) ?_);(exact rfl))|(with_reducible refine z0 (hsaid _) ?_)|(simp only [Int.sub_zero,Int.toNat_natCast,hw,ex,e1,e2,Nat.zero_add])|(with_reducible refine yz ?_))|refine auD ?_|(refine auW ?_ ?_<;>intro h<;>try exact auH)|(first|(refine z7 ⟨by trivial,by trivial,by trivial,by trivial,by simp⟩ ?_)|(refine z7 ⟨by (simp only [List.length_map];omega),by trivial⟩ ?_)|(refine z7 ⟨by trivial,by (unfold zZ maxLen;simp only [List.length_map,List.length_append,List.length_drop,List.length_take];omega)⟩ ?_)|(refine z7 ⟨by first|omega|(simp only [List.length_map,List.length_drop,List.length_take];omega),by first|exact hones _|rfl|trivial,by first|exact hones _|rfl|trivial,by (unfold zZ maxLen;simp only [List.length_map,List.length_append,List.length_drop,List.length_take];omega)⟩ ?_)|fail)
  all_goals try exact auP
  ·refine zt (zk hW ⟨.d0,.d1,.d0⟩ rfl rfl ⟨rfl,rfl,by (simp;try omega)⟩) ?_
   rw [show xa l a b c d now syn ack fin true i t=((yng l now).take i++(yng l now).drop (i+1),true,0) from rfl,yN (by (simp;try omega)),←List.map_append]
   all_goals refine auV ?_
   all_goals try exact z8
   all_goals try simp only [hsM] at *
 ·skip
  skip
  repeat' first|refine auS ?_|(first|(simp only [f23])|((with_reducible refine z9 4 ?_ (hp _) (fun _ _ _ h=>h) ?_);(exact rfl))|(with_reducible refine z0 (hsaid _) ?_)|(simp only [Int.sub_zero,Int.toNat_natCast,hw,ex,e1,e2,Nat.zero_add])|(first|((with_reducible refine jS ?_);(refine z7 (by (simp only [List.length_map,List.length_drop];omega)) ?_))|(with_reducible refine yz ?_)))|refine auD ?_|(refine auW ?_ ?_<;>intro h<;>try exact auH)|(first|(refine z7 ⟨by trivial,by trivial,by trivial,by trivial,by simp⟩ ?_)|(refine z7 ⟨by (simp only [List.length_map];omega),by trivial⟩ ?_)|(refine z7 ⟨by trivial,by (unfold zZ maxLen;simp only [List.length_map,List.length_append,List.length_drop,List.length_take];omega)⟩ ?_)|(refine z7 ⟨by first|omega|(simp only [List.length_map,List.length_drop,List.length_take];omega),by first|exact hones _|rfl|trivial,by first|exact hones _|rfl|trivial,by (unfold zZ maxLen;simp only [List.length_map,List.length_append,List.length_drop,List.length_take];omega)⟩ ?_)|fail)
  all_goals try exact auP
  ·have hdr:(yng l now).drop (i+1)=[]:=List.drop_eq_nil_of_le (by omega)
   refine zt (zk hW ⟨.d0,.d1,.d0⟩ rfl rfl ⟨rfl,rfl,by (simp;try omega)⟩) (zt (yI (ia ⟨.d0,.d1,.d0⟩ rfl)) ?_)
   rw [show xa l a b c d now syn ack fin true i t=((yng l now).take i++(yng l now).drop (i+1),true,0) from rfl,hdr,List.append_nil,e1]
   all_goals refine auV ?_
   all_goals try exact z8
   all_goals try simp only [hsM] at *
set_option maxHeartbeats 4000000 in
theorem bU (l:List Tk) (a b c d fl now:Int) (he:y8 l=0) (hb:sr l a b c d fl now=true) (syn ack fin:Bool) (hf:vL fl syn ack fin false) (i:Nat) (t:Tk) (hi:(yng l now)[i]?=some t) (hidx:zl (fun t=>t.along a b c d) (yng l now) 0=i):zd Tryz.prog 135 [.snap 7 (l.map Tk.enc) false,dR a b c d,.v (.int .i64 fl),.v (.int .i64 now)] (hD (xa l a b c d now syn ack fin false i t)):=by
 have hb':((0≤c∧c≤65535)∧(0≤d∧d≤65535)∧¬(a=b∧c=d))∧(0≤fl∧fl≤255)∧yE l≤now∧now≤1099511627776:=by
  unfold sr sZ at hb
  simp only [Bool.and_eq_true,decide_eq_true_eq] at hb
  exact hb
 clear hb
 have hl:=(zr he).1
 refine z4 {} 0 Tryz.func135 fun Γ hW=>auC ?_
 repeat' first|(refine zN (zw hW ⟨.d0,.d0,.d5⟩ rfl rfl ⟨rfl,rfl,Nat.succ_pos _⟩) ?_)|refine qj ?_|(with_reducible refine z0 (yp l) ?_)|refine auD ?_|(refine auW ?_ ?_<;>intro h<;>try exact auH)|fail
 refine xU ?_
 repeat' first|refine qj ?_|(with_reducible refine z0 (yp l) ?_)|refine auD ?_|(refine auW ?_ ?_<;>intro h<;>try exact auH)|fail
 refine ze (α:=Nat×Nat) (fun p=>[(⟨.d0,.d1,.d4⟩,.v (.int .i64 (yE (l.take p.1)))),(⟨.d0,.d3,.d6⟩,.v (.int .i64 (p.1:Nat)))]) (fun p=>[(1,none)]) (fun p=>p.2) (fun p=>l.length-p.1) (fun p=>p.1≤l.length∧Γ.g0≤p.2) (0,Γ.g0+1) ⟨Nat.zero_le _,Nat.le_succ _⟩ ?_ ?_
 ·skip
  refine zb ?_ ?_ (Nat.le_refl _)
  all_goals first|refine auE ?_|exact zi
  all_goals repeat' first|exact trivial|exact rfl|apply And.intro
 rintro ⟨k,gn⟩ ⟨hk,hgn⟩
 dsimp only at hk hgn ⊢
 refine auL ?_
 by_cases hlt:k<l.length
 ·obtain ⟨t,ht⟩:∃t,l[k]?=some t:=⟨_,List.getElem?_eq_getElem hlt⟩
  have ex:=yP ht
  have hlx:yE (l.take (k+1))=t.x:=xg _ k t (by rw [List.getElem?_take,if_pos (Nat.lt_succ_self k)];exact ht) (by rw [List.length_take];omega)
  repeat' first|refine auS ?_|fail|refine auD ?_|(refine auW ?_ ?_<;>intro h<;>try exact auH)|(simp only [Int.toNat_natCast,ex])
  all_goals try exact auP
  refine za ⟨(k+1,gn+1),⟨hlt,Nat.le_succ_of_le hgn⟩,Nat.sub_lt_sub_left hlt (Nat.lt_succ_self k),?_⟩
  refine zb ?_ ?_ (Nat.le_refl _)
  all_goals first|refine auE ?_|exact zi
  all_goals repeat' first|exact trivial|exact rfl|apply And.intro
  all_goals first
   |exact zB hlx.symm
   |exact zB ((IntWalk.i64_in _ (by omega)).trans (by omega))
 obtain rfl:k=l.length:=by omega
 simp only [List.take_length]
 repeat' first|refine auS ?_|(first|(with_reducible refine z0 (wk _ _ _ _) ?_)|(with_reducible refine z0 (uH _ _ _ _) ?_)|(with_reducible refine z0 (z6 _ _ _) ?_))|refine auD ?_|(refine auW ?_ ?_<;>intro h<;>try exact auH)|fail
 all_goals try exact auP
 have hones:∀r:List Tk,y5 (r.map Tk.enc)=true:=y_ (fun x=>rfl)
 have hnow:0≤now∧now≤1099511627776:=⟨Int.le_trans (rg (zr he).2) hb'.2.2.1,hb'.2.2.2⟩
 refine sd (yW ⟨.d0,.d1,.d7⟩ 4 7 rfl rfl) ?_
 refine ze (α:=Nat×Nat×Nat) (fun p=>[(⟨.d0,.d1,.d7⟩,.sl 4 p.2.2 7 0 (yng (l.take p.1) now).length false),(⟨.d0,.d7,.d4⟩,.v (.int .i64 (p.1:Nat)))]) (fun p=>[(2,none),(3,none),(4,some ⟨p.2.2,7,(yng (l.take p.1) now).map Tk.enc⟩)]) (fun p=>p.2.1) (fun p=>l.length-p.1) (fun p=>p.1≤l.length∧Γ.g0≤p.2.2∧Γ.g0≤p.2.1) (0,gn+1,gn) ⟨Nat.zero_le _,hgn,Nat.le_succ_of_le hgn⟩ ?_ ?_
 ·skip
  refine zb ?_ ?_ (Nat.le_refl _)
  all_goals first|refine auE ?_|exact zi
  all_goals repeat' first|exact trivial|exact rfl|apply And.intro
 rintro ⟨k,g2,N⟩ ⟨hk,hN,hg2⟩
 dsimp only at hk hN hg2 ⊢
 refine auL ?_
 by_cases hlt:k<l.length
 ·obtain ⟨t,ht⟩:∃t,l[k]?=some t:=⟨_,List.getElem?_eq_getElem hlt⟩
  have ex:=yP ht
  have hfm:=vS (yH (zr he).2 (List.mem_of_getElem? ht))
  have hyl:(List.filter (fun t=>!t.old now) (List.take k l)).length≤64:=Nat.le_trans (List.length_filter_le _ _) (by rw [List.length_take];omega)
  have hyl2:(yng (List.take k l) now).length≤64:=hyl
  have htk:l.take (k+1)=l.take k++[t]:=by rw [List.take_add_one,ht];rfl
  repeat' first|refine auS ?_|(with_reducible refine z0 (uC _ _ _ _ _ _ _ _ hfm.1 hfm.2 hnow) ?_)|refine auD ?_|(refine auW ?_ ?_<;>intro h<;>try exact auH)|(first|(simp only [Int.toNat_natCast,ex])|(refine z7 ⟨by trivial,by trivial,by trivial,by trivial,by simp⟩ ?_)|(refine z7 ⟨by trivial,by (unfold zZ maxLen;simp only [List.length_map,List.length_cons,List.length_nil];omega)⟩ ?_)|fail)
  ·have hy1:yng (l.take (k+1)) now=yng (l.take k) now++[t]:=by
    unfold yng
    rw [htk,List.filter_append]
    have:t.old now=false:=by unfold Tk.old;simpa using h
    simp [this]
   refine za ⟨(k+1,g2+1+1+1,g2+1+1),⟨hlt,by show Γ.g0≤g2+1+1;omega,by show Γ.g0≤g2+1+1+1;omega⟩,Nat.sub_lt_sub_left hlt (Nat.lt_succ_self k),?_⟩
   refine zb ?_ ?_ (Nat.le_refl _)
   all_goals first|refine auE ?_|exact zi
   all_goals repeat' first|exact trivial|exact rfl|apply And.intro
   all_goals first
    |exact zB ((IntWalk.i64_in _ (by omega)).trans (by omega))
    |(rw [hy1,List.length_append,List.length_map];rfl)
    |(rw [hy1];exact congrArg (fun q=>some (zo.mk _ 7 q)) (ue _ t))
    |skip
  ·have hy1:yng (l.take (k+1)) now=yng (l.take k) now:=by
    unfold yng
    rw [htk,List.filter_append]
    have:t.old now=true:=by unfold Tk.old;simpa using h
    simp [this]
   refine za ⟨(k+1,g2+1,N),⟨hlt,hN,by show Γ.g0≤g2+1;omega⟩,Nat.sub_lt_sub_left hlt (Nat.lt_succ_self k),?_⟩
   refine zb ?_ ?_ (Nat.le_refl _)
   all_goals first|refine auE ?_|exact zi
   all_goals repeat' first|exact trivial|exact rfl|apply And.intro
   all_goals first
    |exact zB ((IntWalk.i64_in _ (by omega)).trans (by omega))
    |(rw [hy1])
    |skip
 obtain rfl:k=l.length:=by omega
 simp only [List.take_length]
 have hyl:(List.filter (fun t=>!t.old now) l).length≤l.length:=List.length_filter_le _ _
 have hyl2:(yng l now).length≤l.length:=hyl
 have hp:=fun n=>vR 4 (g:=174) (caps:=[.rptr [.v (.int .u32 a),.v (.int .u32 b),.v (.int .i64 c),.v (.int .i64 d)]]) (fun t=>t.along a b c d) (yng l now) (by unfold maxLen;omega) n (fun t _=>sD t.a t.b t.c t.d t.s t.o t.x a b c d)
 simp only [hidx] at hp
 have hil:i<(yng l now).length:=(List.getElem?_eq_some_iff.1 hi).1
 have htl:t∈l:=(List.mem_filter.1 (List.mem_of_getElem? hi)).1
 have hfm:=vS (yH (zr he).2 htl)
 have hso:pd t.s t.o:=cb (yH (zr he).2 htl)
 have ex:=yP hi
 have hw:IntKind.i64.wrap ((i:Int)+1)=((i+1:Nat):Int):=(IntWalk.i64_in _ (by omega)).trans (by omega)
 have hsaid:=fun op=>W1 t.a t.b t.c t.d t.s t.o t.x fl syn ack fin op hf hso
 have e1:zK (zV ((yng l now).map Tk.enc) 0) i=((yng l now).take i).map Tk.enc:=by rw [zz,y4,List.map_take];simp
 have e2:zK (zV ((yng l now).map Tk.enc) (i+1)) (((yng l now).length:Int)-((i+1:Nat):Int)).toNat=((yng l now).drop (i+1)).map Tk.enc:=by rw [zz,y4,←List.map_drop,←List.map_take,List.take_of_length_le (by rw [List.length_drop];omega)]
 have f23:=hf.2.2.2.2.2.2
 by_cases hlast:i+1<(yng l now).length∨i=0
 ·skip
  skip
  repeat' first|refine auS ?_|(first|(simp only [f23])|((with_reducible refine z9 4 ?_ (hp _) (fun _ _ _ h=>h) ?_);(exact rfl))|(with_reducible refine z0 (hsaid _) ?_)|(simp only [Int.sub_zero,Int.toNat_natCast,hw,ex,e1,e2,Nat.zero_add])|(with_reducible refine yz ?_))|refine auD ?_|(refine auW ?_ ?_<;>intro h<;>try exact auH)|(first|(refine z7 ⟨by trivial,by trivial,by trivial,by trivial,by simp⟩ ?_)|(refine z7 ⟨by (simp only [List.length_map];omega),by trivial⟩ ?_)|(refine z7 ⟨by trivial,by (unfold zZ maxLen;simp only [List.length_map,List.length_append,List.length_drop,List.length_take];omega)⟩ ?_)|(refine z7 ⟨by first|omega|(simp only [List.length_map,List.length_drop,List.length_take];omega),by first|exact hones _|rfl|trivial,by first|exact hones _|rfl|trivial,by (unfold zZ maxLen;simp only [List.length_map,List.length_append,List.length_drop,List.length_take];omega)⟩ ?_)|fail)
  all_goals try exact auP
  ·have e:xa l a b c d now syn ack fin false i t=(yng l now,false,0):=by
    unfold xa
    rw [if_neg (by simp),if_pos (by simpa using h)]
   refine zt (zk hW ⟨.d0,.d1,.d0⟩ rfl rfl ⟨rfl,rfl,by (simp;try omega)⟩) ?_
   rw [e]
   simp only [yA]
   all_goals refine auV ?_
   all_goals try exact z8
   all_goals try simp only [hsM] at *
  ·have e:xa l a b c d now syn ack fin false i t=((yng l now).take i++(yng l now).drop (i+1)++[⟨t.a,t.b,t.c,t.d,(pas t.s t.o syn ack fin (opB t a b c d)).2.1,(pas t.s t.o syn ack fin (opB t a b c d)).2.2,now⟩],true,0):=by
    unfold xa
    rw [if_neg (by simp),if_neg (by simpa using h)]
   refine zt (zk hW ⟨.d0,.d1,.d0⟩ rfl rfl ⟨rfl,rfl,by (simp;try omega)⟩) ?_
   rw [e,yN (by (simp;try omega)),←List.map_append,show List.map Tk.enc (List.take i (yng l now)++List.drop (i+1) (yng l now))++[[.v (.int .u32 t.a),.v (.int .u32 t.b),.v (.int .i64 t.c),.v (.int .i64 t.d),.v (.int .i64 (pas t.s t.o syn ack fin (opB t a b c d)).2.1),.v (.int .i64 (pas t.s t.o syn ack fin (opB t a b c d)).2.2),.v (.int .i64 now)]]=List.map Tk.enc (List.take i (yng l now)++List.drop (i+1) (yng l now)++[⟨t.a,t.b,t.c,t.d,(pas t.s t.o syn ack fin (opB t a b c d)).2.1,(pas t.s t.o syn ack fin (opB t a b c d)).2.2,now⟩]) from ue _ ⟨t.a,t.b,t.c,t.d,(pas t.s t.o syn ack fin (opB t a b c d)).2.1,(pas t.s t.o syn ack fin (opB t a b c d)).2.2,now⟩]
   all_goals refine auV ?_
   all_goals try exact z8
   all_goals try simp only [hsM] at *
 ·skip
  skip
  repeat' first|refine auS ?_|(first|(simp only [f23])|((with_reducible refine z9 4 ?_ (hp _) (fun _ _ _ h=>h) ?_);(exact rfl))|(with_reducible refine z0 (hsaid _) ?_)|(simp only [Int.sub_zero,Int.toNat_natCast,hw,ex,e1,e2,Nat.zero_add])|(first|((with_reducible refine jS ?_);(refine z7 (by (simp only [List.length_map,List.length_drop];omega)) ?_))|(with_reducible refine yz ?_)))|refine auD ?_|(refine auW ?_ ?_<;>intro h<;>try exact auH)|(first|(refine z7 ⟨by trivial,by trivial,by trivial,by trivial,by simp⟩ ?_)|(refine z7 ⟨by (simp only [List.length_map];omega),by trivial⟩ ?_)|(refine z7 ⟨by trivial,by (unfold zZ maxLen;simp only [List.length_map,List.length_append,List.length_drop,List.length_take];omega)⟩ ?_)|(refine z7 ⟨by first|omega|(simp only [List.length_map,List.length_drop,List.length_take];omega),by first|exact hones _|rfl|trivial,by first|exact hones _|rfl|trivial,by (unfold zZ maxLen;simp only [List.length_map,List.length_append,List.length_drop,List.length_take];omega)⟩ ?_)|fail)
  all_goals try exact auP
  ·have e:xa l a b c d now syn ack fin false i t=(yng l now,false,0):=by
    unfold xa
    rw [if_neg (by simp),if_pos (by simpa using h)]
   refine zt (zk hW ⟨.d0,.d1,.d0⟩ rfl rfl ⟨rfl,rfl,by (simp;try omega)⟩) ?_
   rw [e]
   simp only [yA]
   all_goals refine auV ?_
   all_goals try exact z8
   all_goals try simp only [hsM] at *
  ·have e:xa l a b c d now syn ack fin false i t=((yng l now).take i++(yng l now).drop (i+1)++[⟨t.a,t.b,t.c,t.d,(pas t.s t.o syn ack fin (opB t a b c d)).2.1,(pas t.s t.o syn ack fin (opB t a b c d)).2.2,now⟩],true,0):=by
    unfold xa
    rw [if_neg (by simp),if_neg (by simpa using h)]
   have hdr:(yng l now).drop (i+1)=[]:=List.drop_eq_nil_of_le (by omega)
   refine zt (zk hW ⟨.d0,.d1,.d0⟩ rfl rfl ⟨rfl,rfl,by (simp;try omega)⟩) ?_
   rw [e,hdr,List.append_nil,yN (by (simp;try omega)),show List.map Tk.enc (List.take i (yng l now))++[[.v (.int .u32 t.a),.v (.int .u32 t.b),.v (.int .i64 t.c),.v (.int .i64 t.d),.v (.int .i64 (pas t.s t.o syn ack fin (opB t a b c d)).2.1),.v (.int .i64 (pas t.s t.o syn ack fin (opB t a b c d)).2.2),.v (.int .i64 now)]]=List.map Tk.enc (List.take i (yng l now)++[⟨t.a,t.b,t.c,t.d,(pas t.s t.o syn ack fin (opB t a b c d)).2.1,(pas t.s t.o syn ack fin (opB t a b c d)).2.2,now⟩]) from ue _ ⟨t.a,t.b,t.c,t.d,(pas t.s t.o syn ack fin (opB t a b c d)).2.1,(pas t.s t.o syn ack fin (opB t a b c d)).2.2,now⟩]
   all_goals refine auV ?_
   all_goals try exact z8
   all_goals try simp only [hsM] at *
end Go.Proofs.YtmibknbmhcnemaaGreatDoor.T
