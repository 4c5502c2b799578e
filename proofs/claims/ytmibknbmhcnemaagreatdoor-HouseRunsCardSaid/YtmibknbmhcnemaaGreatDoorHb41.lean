import Derived.Test.YtmibknbmhcnemaaGreatDoorHb32
set_option linter.unusedVariables false
set_option linter.unusedSimpArgs false
namespace Go.Proofs.YtmibknbmhcnemaaGreatDoor.A
attribute [local irreducible] zF Go
set_option maxRecDepth 100000
theorem W3 {b pr:Int} {ms:List Mp} {k:Nat} {m:Mp} (h:ms[k]?=some m):bs b pr (ms.take (k+1))=bs b pr (ms.take k)+wM b pr m:=by
 rw [List.take_add_one,h,qA]
 simp [bs]
set_option maxHeartbeats 4000000 in
theorem yK (b:Int) (t:Nat) (pr:Int) (ms:List Mp) (c:Bool) (hl:ms.length≤maxLen) (hb:64≤b∧b≤65472) (hr:inR b pr ms) (hn:(ms.map yq).Nodup):zd Tryz.prog 136 [.agg [.v (.int .i64 b),.v (.int .u64 (t:Int))],.snap 5 (ms.map Mp.enc) c,.v (.int .i64 pr)] (.agg [.v (.int .i64 b),.v (.int .u64 (bs b pr ms:Nat))]):=by
 have hlen:(ms.map Mp.enc).length=ms.length:=List.length_map _
 have hl':=hl
 unfold maxLen at hl'
 generalize (t:Int)=T at *
 refine z4 {} 0 Tryz.func136 fun Γ hW=>auC ?_
 repeat' first|refine auS ?_|fail|refine auD ?_|(refine auW ?_ ?_<;>intro h<;>try exact auH)|fail
 all_goals try exact auP
 refine ze (α:=Nat×Nat) (fun p=>[(⟨.d0,.d1,.d4⟩,.v (.int .i64 (p.1:Nat)))]) (fun p=>[(0,some ⟨Γ.g0,2,[[.v (.int .i64 b),.v (.int .u64 (bs b pr (ms.take p.1):Nat))]]⟩),(2,none)]) (fun p=>p.2) (fun p=>ms.length-p.1) (fun p=>p.1≤ms.length) (0,Γ.g0+2) (Nat.zero_le _) ?_ ?_
 ·skip
  refine zb ?_ ?_ (Nat.le_refl _)
  all_goals first|refine auE ?_|exact zi
  all_goals repeat' first|exact trivial|exact rfl|apply And.intro
 rintro ⟨k,gn⟩ hk
 dsimp only at hk ⊢
 refine auL ?_
 by_cases hlt:k<ms.length
 ·obtain ⟨m,hm⟩:∃m,ms[k]?=some m:=⟨_,List.getElem?_eq_getElem hlt⟩
  have ex:=y7 hm
  have hwk:IntKind.i64.wrap ((k:Int)+1)=((k+1:Nat):Int):=(IntWalk.i64_in _ (by omega)).trans (by omega)
  have hbt:=W3 (b:=b) (pr:=pr) hm
  by_cases hp:m.pr=pr
  ·have hq:=hr m (List.mem_of_getElem? hm) hp
   have hw1:IntKind.i64.wrap (m.ou-b)=m.ou-b:=IntWalk.i64_in _ (by omega)
   have hsub:(ms.take (k+1)).Sublist ms:=List.take_sublist _ _
   have hrk:inR b pr (ms.take k):=fun y hy=>hr y (List.mem_of_mem_take hy)
   have hnk:((ms.take k).map yq).Nodup:=hn.sublist ((List.take_sublist k ms).map yq)
   obtain ⟨g1,g2⟩:=vi b pr (ms.take k) hrk hnk
   have hc:(bs b pr (ms.take k)).testBit (m.ou-b).toNat=false:=by
    rw [g2,List.any_eq_false]
    intro y hy
    simp only [decide_eq_true_eq,not_and]
    intro e1 e2
    have q:=hrk y hy e1
    have hn2:=hn.sublist (hsub.map yq)
    rw [List.take_add_one,hm,Option.toList_some,List.map_append,List.nodup_append] at hn2
    exact hn2.2.2 (yq y) (List.mem_map.2 ⟨y,hy,rfl⟩) (yq m) (by simp) (by simp only [yq,Prod.mk.injEq];exact ⟨e1.trans hp.symm,by omega⟩)
   have hadd:=mg g1 (k:=(m.ou-b).toNat) (by omega) hc
   have hw:wM b pr m=2 ^ (m.ou-b).toNat:=by unfold wM;rw [if_pos hp]
   rw [hw] at hbt
   rw [←hbt] at hadd
   repeat' first|refine auS ?_|(simp only [hw1,hwk,hadd])|refine auD ?_|(refine auW ?_ ?_<;>intro h<;>try exact auH)|(first|(simp only [Int.toNat_natCast,ex])|fail)
   all_goals try exact auP
   all_goals first
    |(exfalso;simp at h;done)
    |skip
   refine za ⟨(k+1,gn+1),hlt,Nat.sub_lt_sub_left hlt (Nat.lt_succ_self k),?_⟩
   refine zb ?_ ?_ (Nat.le_refl _)
   all_goals first|refine auE ?_|exact zi
   all_goals repeat' first|exact trivial|exact rfl|apply And.intro
  ·have hw:wM b pr m=0:=by unfold wM;rw [if_neg hp]
   rw [hw,Nat.add_zero] at hbt
   have hp':decide (m.pr=pr)=false:=decide_eq_false hp
   repeat' first|refine auS ?_|(simp only [hwk])|refine auD ?_|(refine auW ?_ ?_<;>intro h<;>try exact auH)|(first|(simp only [Int.toNat_natCast,ex])|fail)
   all_goals try exact auP
   all_goals first
    |(exfalso;simp at h;done)
    |(exfalso;rw [hp'] at h;cases h;done)
    |skip
   refine za ⟨(k+1,gn+1),hlt,Nat.sub_lt_sub_left hlt (Nat.lt_succ_self k),?_⟩
   dsimp only
   rw [hbt]
   refine zb ?_ ?_ (Nat.le_refl _)
   all_goals first|refine auE ?_|exact zi
   all_goals repeat' first|exact trivial|exact rfl|apply And.intro
 obtain rfl:k=ms.length:=by omega
 rw [List.take_length]
 repeat' first|refine auS ?_|fail|refine auD ?_|(refine auW ?_ ?_<;>intro h<;>try exact auH)|fail
 all_goals try exact auP
 all_goals refine auV ?_
 all_goals try exact z8
 all_goals try simp only [hsM] at *
def ut (pr ad po:Int):List Mp→Int→Int
 |[],o=>o
 |m::r,o=>ut pr ad po r (if isP pr ad po m then m.ou else o)
theorem mO (pr ad po:Int):∀(l r:List Mp) (o:Int),ut pr ad po (l++r) o=ut pr ad po r (ut pr ad po l o)
 |[],r,o=>rfl
 |m::l,r,o=>by rw [List.cons_append,ut,mO pr ad po l r,ut]
theorem pU {pr ad po:Int}:∀ {l:List Mp} (o:Int),(∀m∈l,isP pr ad po m=false)→ut pr ad po l o=o
 |[],o,_=>rfl
 |m::l,o,h=>by
  rw [ut,h m (by simp),if_neg (by decide)]
  exact pU o (fun y hy=>h y (List.mem_cons_of_mem _ hy))
theorem gY {l now:Int} {ms:List Mp} {k:Nat} {m:Mp} (h:ms[k]?=some m):yng l now (ms.take (k+1))=yng l now (ms.take k)++(if vq l now m then [m] else []):=by
 unfold yng
 rw [List.take_add_one,h,List.filter_append,Option.toList_some,List.filter_cons]
 cases vq l now m<;>rfl
theorem fB (pr ad po:Int) (a b:List Mp):zu pr ad po (a++b)=zu pr ad po a++zu pr ad po b:=List.filter_append ..
def uL (ms:List Mp):Nat→Int
 |0=>0
 |k+1=>match ms[k]? with|some m=>m.tm|none=>0
theorem xm {ms:List Mp} {k:Nat} {m:Mp} (h:ms[k]?=some m):uL ms (k+1)=m.tm:=by simp only [uL,h]
theorem xT (ms:List Mp):uL ms ms.length=zJ ms:=by
 cases h:ms.length with
 |zero=>unfold uL zJ;rw [List.getElem?_eq_none (by omega)]
 |succ n=>unfold uL zJ;rw [h];rfl
section
variable (l b1:Int) (t1:Nat) (b2:Int) (t2:Nat) (ms:List Mp) (pr ad po now:Int) (hl:ms.length*40≤140737488351232) (h10:t1<18446744073709551616) (h20:t2<18446744073709551616)
include hl h10 h20
set_option maxHeartbeats 4000000 in
theorem Xu {e:Int} (he:zI l b1 t1 b2 t2 ms=e) (hne:¬e=0):zd Tryz.prog 86 [dNt l b1 t1 b2 t2 ms,.v (.int .i64 pr),.v (.int .u32 ad),.v (.int .i64 po),.v (.int .i64 now)] (rb l b1 t1 b2 t2 ms 0 e):=by
 have hml:ms.length≤maxLen:=by unfold maxLen;omega
 have nf1:=fun g=>wi g ms
 have h2:=yu l b1 t1 b2 t2 ms hml h10 h20
 rw [he] at h2
 refine z4 {} 0 Tryz.func86 fun Γ hW=>auC ?_
 repeat' first|refine auS ?_|(first|(with_reducible refine z0 h2 ?_))|refine auD ?_|(refine auW ?_ ?_<;>intro h<;>try exact auH)|fail
 all_goals try exact auP
 all_goals first
  |(exfalso;simp at h;done)
  |skip
 all_goals with_reducible refine yd (by (try first|refine auR ?_|exact z8);(repeat' (first|exact trivial|exact rfl|exact zn (fun x=>by simp [nfL,nfD,nfD,nfL,nf1])|decide|apply And.intro))) ?_
 all_goals (try first|refine auR ?_|exact z8)
 all_goals (try simp only [hsM] at *)
 all_goals rfl
set_option maxHeartbeats 4000000 in
theorem fY (he:zI l b1 t1 b2 t2 ms=0) (hp:¬(pr=6∨pr=17)):zd Tryz.prog 86 [dNt l b1 t1 b2 t2 ms,.v (.int .i64 pr),.v (.int .u32 ad),.v (.int .i64 po),.v (.int .i64 now)] (rb l b1 t1 b2 t2 ms 0 7):=by
 have hml:ms.length≤maxLen:=by unfold maxLen;omega
 have nf1:=fun g=>wi g ms
 have h2:=yu l b1 t1 b2 t2 ms hml h10 h20
 rw [he] at h2
 refine z4 {} 0 Tryz.func86 fun Γ hW=>auC ?_
 repeat' first|refine auS ?_|(first|(with_reducible refine z0 h2 ?_))|refine auD ?_|(refine auW ?_ ?_<;>intro h<;>try exact auH)|fail
 all_goals try exact auP
 all_goals first
  |(exfalso;simp at h;done)
  |skip
 all_goals with_reducible refine yd (by (try first|refine auR ?_|exact z8);(repeat' (first|exact trivial|exact rfl|exact zn (fun x=>by simp [nfL,nfD,nfD,nfL,nf1])|decide|apply And.intro))) ?_
 all_goals (try first|refine auR ?_|exact z8)
 all_goals (try simp only [hsM] at *)
 all_goals rfl
set_option maxHeartbeats 4000000 in
theorem Xw (he:zI l b1 t1 b2 t2 ms=0) (hp:pr=6∨pr=17) (ha:¬((0≤po∧po≤65535)∧zJ ms≤now∧now≤1099511627776)):zd Tryz.prog 86 [dNt l b1 t1 b2 t2 ms,.v (.int .i64 pr),.v (.int .u32 ad),.v (.int .i64 po),.v (.int .i64 now)] (rb l b1 t1 b2 t2 ms 0 1):=by
 have hml:ms.length≤maxLen:=by unfold maxLen;omega
 have nf1:=fun g=>wi g ms
 have h2:=yu l b1 t1 b2 t2 ms hml h10 h20
 rw [he] at h2
 have hlen:(ms.map Mp.enc).length=ms.length:=List.length_map _
 have h3:=z6 po 0 65535
 have h4:=z6 now (zJ ms) 1099511627776
 by_cases ha1:0≤po∧po≤65535
 ·have ha2:¬(zJ ms≤now∧now≤1099511627776):=fun q=>ha ⟨ha1,q⟩
  rw [decide_eq_true ha1] at h3
  rw [decide_eq_false ha2] at h4
  rcases hp with hp|hp
  ·subst hp
   refine z4 {} 0 Tryz.func86 fun Γ hW=>auC ?_
   repeat' first|refine auS ?_|(first|(with_reducible refine z0 h2 ?_))|refine auD ?_|(refine auW ?_ ?_<;>intro h<;>try exact auH)|fail
   all_goals try exact auP
   all_goals first
    |(exfalso;simp at h;done)
    |skip
   refine ze (α:=Nat×Nat) (fun p=>[(⟨.d0,.d5,.d0⟩,.v (.int .i64 (p.1:Nat))),(⟨.d0,.d1,.d6⟩,.v (.int .i64 (uL ms p.1)))]) (fun p=>[(2,none)]) (fun p=>p.2) (fun p=>ms.length-p.1) (fun p=>p.1≤ms.length) (0,Γ.g0+2) (Nat.zero_le _) ?_ ?_
   ·skip
    refine zb ?_ ?_ (Nat.le_refl _)
    all_goals first|refine auE ?_|exact zi
    all_goals repeat' first|exact trivial|exact rfl|apply And.intro
   rintro ⟨k,gn⟩ hk
   dsimp only at hk ⊢
   refine auL ?_
   by_cases hlt:k<ms.length
   ·obtain ⟨m,hm⟩:∃m,ms[k]?=some m:=⟨_,List.getElem?_eq_getElem hlt⟩
    have ex:=y7 hm
    have hwk:IntKind.i64.wrap ((k:Int)+1)=((k+1:Nat):Int):=(IntWalk.i64_in _ (by omega)).trans (by omega)
    have hlk:=xm hm
    repeat' first|refine auS ?_|(simp only [hwk])|refine auD ?_|(refine auW ?_ ?_<;>intro h<;>try exact auH)|(first|(simp only [Int.toNat_natCast,ex])|fail)
    all_goals try exact auP
    refine za ⟨(k+1,gn+1),hlt,Nat.sub_lt_sub_left hlt (Nat.lt_succ_self k),?_⟩
    dsimp only
    rw [hlk]
    refine zb ?_ ?_ (Nat.le_refl _)
    all_goals first|refine auE ?_|exact zi
    all_goals repeat' first|exact trivial|exact rfl|apply And.intro
   obtain rfl:k=ms.length:=by omega
   rw [xT]
   clear hk
   repeat' first|refine auS ?_|(first|(with_reducible refine z0 h3 ?_)|(with_reducible refine z0 h4 ?_))|refine auD ?_|(refine auW ?_ ?_<;>intro h<;>try exact auH)|fail
   all_goals try exact auP
   all_goals first
    |(exfalso;simp at h;done)
    |skip
   all_goals with_reducible refine yd (by (try first|refine auR ?_|exact z8);(repeat' (first|exact trivial|exact rfl|exact zn (fun x=>by simp [nfL,nfD,nfD,nfL,nf1])|decide|apply And.intro))) ?_
   all_goals (try first|refine auR ?_|exact z8)
   all_goals (try simp only [hsM] at *)
   all_goals rfl
  ·subst hp
   refine z4 {} 0 Tryz.func86 fun Γ hW=>auC ?_
   repeat' first|refine auS ?_|(first|(with_reducible refine z0 h2 ?_))|refine auD ?_|(refine auW ?_ ?_<;>intro h<;>try exact auH)|fail
   all_goals try exact auP
   all_goals first
    |(exfalso;simp at h;done)
    |skip
   refine ze (α:=Nat×Nat) (fun p=>[(⟨.d0,.d5,.d0⟩,.v (.int .i64 (p.1:Nat))),(⟨.d0,.d1,.d6⟩,.v (.int .i64 (uL ms p.1)))]) (fun p=>[(2,none)]) (fun p=>p.2) (fun p=>ms.length-p.1) (fun p=>p.1≤ms.length) (0,Γ.g0+2) (Nat.zero_le _) ?_ ?_
   ·skip
    refine zb ?_ ?_ (Nat.le_refl _)
    all_goals first|refine auE ?_|exact zi
    all_goals repeat' first|exact trivial|exact rfl|apply And.intro
   rintro ⟨k,gn⟩ hk
   dsimp only at hk ⊢
   refine auL ?_
   by_cases hlt:k<ms.length
   ·obtain ⟨m,hm⟩:∃m,ms[k]?=some m:=⟨_,List.getElem?_eq_getElem hlt⟩
    have ex:=y7 hm
    have hwk:IntKind.i64.wrap ((k:Int)+1)=((k+1:Nat):Int):=(IntWalk.i64_in _ (by omega)).trans (by omega)
    have hlk:=xm hm
    repeat' first|refine auS ?_|(simp only [hwk])|refine auD ?_|(refine auW ?_ ?_<;>intro h<;>try exact auH)|(first|(simp only [Int.toNat_natCast,ex])|fail)
    all_goals try exact auP
    refine za ⟨(k+1,gn+1),hlt,Nat.sub_lt_sub_left hlt (Nat.lt_succ_self k),?_⟩
    dsimp only
    rw [hlk]
    refine zb ?_ ?_ (Nat.le_refl _)
    all_goals first|refine auE ?_|exact zi
    all_goals repeat' first|exact trivial|exact rfl|apply And.intro
   obtain rfl:k=ms.length:=by omega
   rw [xT]
   clear hk
   repeat' first|refine auS ?_|(first|(with_reducible refine z0 h3 ?_)|(with_reducible refine z0 h4 ?_))|refine auD ?_|(refine auW ?_ ?_<;>intro h<;>try exact auH)|fail
   all_goals try exact auP
   all_goals first
    |(exfalso;simp at h;done)
    |skip
   all_goals with_reducible refine yd (by (try first|refine auR ?_|exact z8);(repeat' (first|exact trivial|exact rfl|exact zn (fun x=>by simp [nfL,nfD,nfD,nfL,nf1])|decide|apply And.intro))) ?_
   all_goals (try first|refine auR ?_|exact z8)
   all_goals (try simp only [hsM] at *)
   all_goals rfl
 ·rw [decide_eq_false ha1] at h3
  rcases hp with hp|hp
  ·subst hp
   refine z4 {} 0 Tryz.func86 fun Γ hW=>auC ?_
   repeat' first|refine auS ?_|(first|(with_reducible refine z0 h2 ?_))|refine auD ?_|(refine auW ?_ ?_<;>intro h<;>try exact auH)|fail
   all_goals try exact auP
   all_goals first
    |(exfalso;simp at h;done)
    |skip
   refine ze (α:=Nat×Nat) (fun p=>[(⟨.d0,.d5,.d0⟩,.v (.int .i64 (p.1:Nat))),(⟨.d0,.d1,.d6⟩,.v (.int .i64 (uL ms p.1)))]) (fun p=>[(2,none)]) (fun p=>p.2) (fun p=>ms.length-p.1) (fun p=>p.1≤ms.length) (0,Γ.g0+2) (Nat.zero_le _) ?_ ?_
   ·skip
    refine zb ?_ ?_ (Nat.le_refl _)
    all_goals first|refine auE ?_|exact zi
    all_goals repeat' first|exact trivial|exact rfl|apply And.intro
   rintro ⟨k,gn⟩ hk
   dsimp only at hk ⊢
   refine auL ?_
   by_cases hlt:k<ms.length
   ·obtain ⟨m,hm⟩:∃m,ms[k]?=some m:=⟨_,List.getElem?_eq_getElem hlt⟩
    have ex:=y7 hm
    have hwk:IntKind.i64.wrap ((k:Int)+1)=((k+1:Nat):Int):=(IntWalk.i64_in _ (by omega)).trans (by omega)
    have hlk:=xm hm
    repeat' first|refine auS ?_|(simp only [hwk])|refine auD ?_|(refine auW ?_ ?_<;>intro h<;>try exact auH)|(first|(simp only [Int.toNat_natCast,ex])|fail)
    all_goals try exact auP
    refine za ⟨(k+1,gn+1),hlt,Nat.sub_lt_sub_left hlt (Nat.lt_succ_self k),?_⟩
    dsimp only
    rw [hlk]
    refine zb ?_ ?_ (Nat.le_refl _)
    all_goals first|refine auE ?_|exact zi
    all_goals repeat' first|exact trivial|exact rfl|apply And.intro
   obtain rfl:k=ms.length:=by omega
   rw [xT]
   clear hk
   repeat' first|refine auS ?_|(first|(with_reducible refine z0 h3 ?_)|(with_reducible refine z0 h4 ?_))|refine auD ?_|(refine auW ?_ ?_<;>intro h<;>try exact auH)|fail
   all_goals try exact auP
   all_goals first
    |(exfalso;simp at h;done)
    |skip
   all_goals with_reducible refine yd (by (try first|refine auR ?_|exact z8);(repeat' (first|exact trivial|exact rfl|exact zn (fun x=>by simp [nfL,nfD,nfD,nfL,nf1])|decide|apply And.intro))) ?_
   all_goals (try first|refine auR ?_|exact z8)
   all_goals (try simp only [hsM] at *)
   all_goals rfl
  ·subst hp
   refine z4 {} 0 Tryz.func86 fun Γ hW=>auC ?_
   repeat' first|refine auS ?_|(first|(with_reducible refine z0 h2 ?_))|refine auD ?_|(refine auW ?_ ?_<;>intro h<;>try exact auH)|fail
   all_goals try exact auP
   all_goals first
    |(exfalso;simp at h;done)
    |skip
   refine ze (α:=Nat×Nat) (fun p=>[(⟨.d0,.d5,.d0⟩,.v (.int .i64 (p.1:Nat))),(⟨.d0,.d1,.d6⟩,.v (.int .i64 (uL ms p.1)))]) (fun p=>[(2,none)]) (fun p=>p.2) (fun p=>ms.length-p.1) (fun p=>p.1≤ms.length) (0,Γ.g0+2) (Nat.zero_le _) ?_ ?_
   ·skip
    refine zb ?_ ?_ (Nat.le_refl _)
    all_goals first|refine auE ?_|exact zi
    all_goals repeat' first|exact trivial|exact rfl|apply And.intro
   rintro ⟨k,gn⟩ hk
   dsimp only at hk ⊢
   refine auL ?_
   by_cases hlt:k<ms.length
   ·obtain ⟨m,hm⟩:∃m,ms[k]?=some m:=⟨_,List.getElem?_eq_getElem hlt⟩
    have ex:=y7 hm
    have hwk:IntKind.i64.wrap ((k:Int)+1)=((k+1:Nat):Int):=(IntWalk.i64_in _ (by omega)).trans (by omega)
    have hlk:=xm hm
    repeat' first|refine auS ?_|(simp only [hwk])|refine auD ?_|(refine auW ?_ ?_<;>intro h<;>try exact auH)|(first|(simp only [Int.toNat_natCast,ex])|fail)
    all_goals try exact auP
    refine za ⟨(k+1,gn+1),hlt,Nat.sub_lt_sub_left hlt (Nat.lt_succ_self k),?_⟩
    dsimp only
    rw [hlk]
    refine zb ?_ ?_ (Nat.le_refl _)
    all_goals first|refine auE ?_|exact zi
    all_goals repeat' first|exact trivial|exact rfl|apply And.intro
   obtain rfl:k=ms.length:=by omega
   rw [xT]
   clear hk
   repeat' first|refine auS ?_|(first|(with_reducible refine z0 h3 ?_)|(with_reducible refine z0 h4 ?_))|refine auD ?_|(refine auW ?_ ?_<;>intro h<;>try exact auH)|fail
   all_goals try exact auP
   all_goals first
    |(exfalso;simp at h;done)
    |skip
   all_goals with_reducible refine yd (by (try first|refine auR ?_|exact z8);(repeat' (first|exact trivial|exact rfl|exact zn (fun x=>by simp [nfL,nfD,nfD,nfL,nf1])|decide|apply And.intro))) ?_
   all_goals (try first|refine auR ?_|exact z8)
   all_goals (try simp only [hsM] at *)
   all_goals rfl
end
end Go.Proofs.YtmibknbmhcnemaaGreatDoor.A
namespace Go.Proofs.YtmibknbmhcnemaaGreatDoor.A
attribute [local irreducible] zF Go
set_option maxRecDepth 100000
theorem o5 {l now:Int} {ms:List Mp} {k:Nat} {m:Mp} (h:ms[k]?=some m) (hy:¬now≤m.tm+l):yng l now (ms.take (k+1))=yng l now (ms.take k):=by
 rw [gY h,show vq l now m=false from decide_eq_false hy]
 simp
theorem qg {l now:Int} {ms:List Mp} {k:Nat} {m:Mp} (h:ms[k]?=some m) (hy:now≤m.tm+l):yng l now (ms.take (k+1))=yng l now (ms.take k)++[m]:=by
 rw [gY h,show vq l now m=true from decide_eq_true hy]
 simp
theorem qb {pr ad po:Int} {m:Mp} (h:m.pr=pr∧m.ad=ad∧m.po=po) (L:List Mp):zu pr ad po (L++[m])=zu pr ad po L:=by
 rw [fB]
 unfold zu
 rw [List.filter_cons,show isP pr ad po m=true from decide_eq_true h]
 simp
theorem oz {pr ad po:Int} {m:Mp} (h:¬(m.pr=pr∧m.ad=ad∧m.po=po)) (L:List Mp):zu pr ad po (L++[m])=zu pr ad po L++[m]:=by
 rw [fB]
 congr 1
 unfold zu
 rw [List.filter_cons,show isP pr ad po m=false from decide_eq_false h]
 simp
theorem xh (pr ad po:Int) (L:List Mp) (m:Mp) (o:Int):ut pr ad po (L++[m]) o=if isP pr ad po m then m.ou else ut pr ad po L o:=by rw [mO];rfl
section
variable (l b1:Int) (t1:Nat) (b2:Int) (t2:Nat) (ms:List Mp) (ad po now:Int) (hl:ms.length*40≤140737488351232) (h10:t1<18446744073709551616) (h20:t2<18446744073709551616)
include hl h10 h20
set_option maxHeartbeats 8000000 in
theorem iK (he:zI l b1 t1 b2 t2 ms=0) (ha:((0≤po∧po≤65535)∧zJ ms≤now∧now≤1099511627776)) {o:Int} (ho:ut 6 ad po (yng l now ms) (-1)=o) (ho0:0≤o) (hr1:inR b1 17 (zu 6 ad po (yng l now ms)++[⟨6,ad,po,o,now⟩])) (hr2:inR b2 6 (zu 6 ad po (yng l now ms)++[⟨6,ad,po,o,now⟩])) (hnd:((zu 6 ad po (yng l now ms)++[(⟨6,ad,po,o,now⟩:Mp)]).map yq).Nodup) :
  zd Tryz.prog 86 [dNt l b1 t1 b2 t2 ms,.v (.int .i64 6),.v (.int .u32 ad),.v (.int .i64 po),.v (.int .i64 now)] (rb l b1 (bs b1 17 (zu 6 ad po (yng l now ms)++[⟨6,ad,po,o,now⟩])) b2 (bs b2 6 (zu 6 ad po (yng l now ms)++[⟨6,ad,po,o,now⟩])) (zu 6 ad po (yng l now ms)++[⟨6,ad,po,o,now⟩]) o 0):=by
 have hml:ms.length≤maxLen:=by unfold maxLen;omega
 have h2:=yu l b1 t1 b2 t2 ms hml h10 h20
 rw [he] at h2
 obtain ⟨hlf,hb,hg,-,-⟩:=xP h10 h20 he
 have hbr1:=(yj hb.1).1
 have hbr2:=(yj hb.2).1
 have hlen:(ms.map Mp.enc).length=ms.length:=List.length_map _
 have h3:=z6 po 0 65535
 have h4:=z6 now (zJ ms) 1099511627776
 rw [decide_eq_true ha.1] at h3
 rw [decide_eq_true ha.2] at h4
 obtain ⟨hpo,hn1,hn2⟩:=ha
 have hl0:0≤zJ ms:=by
  unfold zJ
  split
  ·rename_i m hm
   exact (hg.tm m (List.mem_of_getElem? hm)).1
  ·exact Int.le_refl _
 have hyl:(yng l now ms).length≤ms.length:=List.length_filter_le _ _
 refine z4 {} 0 Tryz.func86 fun Γ hW=>auC ?_
 repeat' first|refine auS ?_|(first|(with_reducible refine z0 h2 ?_))|refine auD ?_|(refine auW ?_ ?_<;>intro h<;>try exact auH)|fail
 all_goals try exact auP
 all_goals first
  |(exfalso;simp at h;done)
  |skip
 refine ze (α:=Nat×Nat) (fun p=>[(⟨.d0,.d5,.d0⟩,.v (.int .i64 (p.1:Nat))),(⟨.d0,.d1,.d6⟩,.v (.int .i64 (uL ms p.1)))]) (fun p=>[(2,none)]) (fun p=>p.2) (fun p=>ms.length-p.1) (fun p=>p.1≤ms.length) (0,Γ.g0+2) (Nat.zero_le _) ?_ ?_
 ·skip
  refine zb ?_ ?_ (Nat.le_refl _)
  all_goals first|refine auE ?_|exact zi
  all_goals repeat' first|exact trivial|exact rfl|apply And.intro
 rintro ⟨k,gn⟩ hk
 dsimp only at hk ⊢
 refine auL ?_
 by_cases hlt:k<ms.length
 ·obtain ⟨m,hm⟩:∃m,ms[k]?=some m:=⟨_,List.getElem?_eq_getElem hlt⟩
  have ex:=y7 hm
  have hwk:IntKind.i64.wrap ((k:Int)+1)=((k+1:Nat):Int):=(IntWalk.i64_in _ (by omega)).trans (by omega)
  have hlk:=xm hm
  repeat' first|refine auS ?_|(simp only [hwk])|refine auD ?_|(refine auW ?_ ?_<;>intro h<;>try exact auH)|(first|(simp only [Int.toNat_natCast,ex])|fail)
  all_goals try exact auP
  refine za ⟨(k+1,gn+1),hlt,Nat.sub_lt_sub_left hlt (Nat.lt_succ_self k),?_⟩
  dsimp only
  rw [hlk]
  refine zb ?_ ?_ (Nat.le_refl _)
  all_goals first|refine auE ?_|exact zi
  all_goals repeat' first|exact trivial|exact rfl|apply And.intro
 obtain rfl:k=ms.length:=by omega
 rw [xT]
 clear hk
 repeat' first|refine auS ?_|(first|(with_reducible refine z0 h3 ?_)|(with_reducible refine z0 h4 ?_))|refine auD ?_|(refine auW ?_ ?_<;>intro h<;>try exact auH)|fail
 all_goals try exact auP
 all_goals first
  |(exfalso;simp at h;done)
  |skip
 refine sd (yW ⟨.d0,.d2,.d1⟩ 5 5 rfl rfl) ?_
 refine auL ?_
 refine ze (α:=Nat×Nat×Nat) (fun p=>[(⟨.d0,.d7,.d4⟩,.v (.int .i64 (p.1:Nat))),(⟨.d0,.d2,.d1⟩,.sl 5 p.2.1 5 0 (zu 6 ad po (yng l now (ms.take p.1))).length false),(⟨.d0,.d2,.d2⟩,.v (.int .i64 (ut 6 ad po (yng l now (ms.take p.1)) (-1))))]) (fun p=>[(3,none),(4,none),(5,some ⟨p.2.1,5,(zu 6 ad po (yng l now (ms.take p.1))).map Mp.enc⟩)]) (fun p=>p.2.2) (fun p=>ms.length-p.1) (fun p=>p.1≤ms.length) (0,gn,gn+1) (Nat.zero_le _) ?_ ?_
 ·skip
  refine zb ?_ ?_ (Nat.le_refl _)
  all_goals first|refine auE ?_|exact zi
  all_goals repeat' first|exact trivial|exact rfl|apply And.intro
 rintro ⟨k,nm,gn⟩ hk
 dsimp only at hk ⊢
 refine auL ?_
 by_cases hlt:k<ms.length
 ·obtain ⟨m,hm⟩:∃m,ms[k]?=some m:=⟨_,List.getElem?_eq_getElem hlt⟩
  have ex:=y7 hm
  have htm:=hg.tm m (List.mem_of_getElem? hm)
  have hwk:IntKind.i64.wrap ((k:Int)+1)=((k+1:Nat):Int):=(IntWalk.i64_in _ (by omega)).trans (by omega)
  have hws:IntKind.i64.wrap (now-m.tm)=now-m.tm:=IntWalk.i64_in _ (by omega)
  by_cases hy:now≤m.tm+l
  ·have hyk:=qg hm hy
   by_cases hp:m.pr=6∧m.ad=ad∧m.po=po
   ·have e1:=qb hp (yng l now (ms.take k))
    have e2:=xh 6 ad po (yng l now (ms.take k)) m (-1)
    rw [show isP 6 ad po m=true from decide_eq_true hp,if_pos rfl] at e2
    rw [←hyk] at e1 e2
    obtain ⟨p1,p2,p3⟩:=hp
    repeat' first|refine auS ?_|(simp only [hwk,hws])|refine auD ?_|(refine auW ?_ ?_<;>intro h<;>try exact auH)|(first|(simp only [Int.toNat_natCast,ex])|fail)
    all_goals try exact auP
    all_goals first
     |(exfalso;simp_all;done)
     |skip
    all_goals (refine za ⟨(k+1,nm,gn+1),hlt,Nat.sub_lt_sub_left hlt (Nat.lt_succ_self k),?_⟩;dsimp only;rw [e1,e2];(refine zb ?_ ?_ (Nat.le_refl _));(all_goals first|refine auE ?_|exact zi);(all_goals (repeat' (first|exact trivial|exact rfl|apply And.intro))))
   ·have e1:=oz hp (yng l now (ms.take k))
    have e2:=xh 6 ad po (yng l now (ms.take k)) m (-1)
    rw [show isP 6 ad po m=false from decide_eq_false hp,if_neg (by decide)] at e2
    rw [←hyk] at e1 e2
    have hbl:(zu 6 ad po (yng l now (ms.take k))).length≤k:=Nat.le_trans (List.length_filter_le _ _) (Nat.le_trans (List.length_filter_le _ _) (by rw [List.length_take];omega))
    have hxs:((zu 6 ad po (yng l now (ms.take k))).map Mp.enc).length=(zu 6 ad po (yng l now (ms.take k))).length:=List.length_map _
    have e3:(zu 6 ad po (yng l now (ms.take (k+1)))).map Mp.enc=(zu 6 ad po (yng l now (ms.take k))).map Mp.enc++[[.v (.int .i64 m.pr),.v (.int .u32 m.ad),.v (.int .i64 m.po),.v (.int .i64 m.ou),.v (.int .i64 m.tm)]]:=by rw [e1,List.map_append];rfl
    have e4:(zu 6 ad po (yng l now (ms.take (k+1)))).length=((zu 6 ad po (yng l now (ms.take k))).map Mp.enc).length+1:=by rw [e1,hxs];simp
    repeat' first|refine auS ?_|(simp only [hwk,hws])|refine auD ?_|(refine auW ?_ ?_<;>intro h<;>try exact auH)|(first|(simp only [Int.toNat_natCast,ex])|(refine z7 ⟨by trivial,by unfold zZ maxLen;rw [hxs];simp;omega⟩ ?_)|fail)
    all_goals try exact auP
    all_goals first
     |(exfalso;simp_all;done)
     |skip
    all_goals (refine za ⟨(k+1,gn+2,gn+3),hlt,Nat.sub_lt_sub_left hlt (Nat.lt_succ_self k),?_⟩;dsimp only;rw [e2,e3,e4];(refine zb ?_ ?_ (Nat.le_refl _));(all_goals first|refine auE ?_|exact zi);(all_goals (repeat' (first|exact trivial|exact rfl|apply And.intro))))
  ·have hyk:=o5 hm hy
   repeat' first|refine auS ?_|(simp only [hwk,hws])|refine auD ?_|(refine auW ?_ ?_<;>intro h<;>try exact auH)|(first|(simp only [Int.toNat_natCast,ex])|fail)
   all_goals try exact auP
   all_goals first
    |(exfalso;simp_all;done)
    |skip
   refine za ⟨(k+1,nm,gn+1),hlt,Nat.sub_lt_sub_left hlt (Nat.lt_succ_self k),?_⟩
   dsimp only
   rw [hyk]
   refine zb ?_ ?_ (Nat.le_refl _)
   all_goals first|refine auE ?_|exact zi
   all_goals repeat' first|exact trivial|exact rfl|apply And.intro
 obtain rfl:k=ms.length:=by omega
 rw [List.take_length]
 have hZl:(zu 6 ad po (yng l now ms)).length≤ms.length:=Nat.le_trans (List.length_filter_le _ _) (List.length_filter_le _ _)
 rw [ho]
 generalize zu 6 ad po (yng l now ms)=Z at *
 clear hg
 generalize yng l now ms=Y at *
 have h7:True:=trivial
 have h8:True:=trivial
 have h9:True:=trivial
 have hxs:(Z.map Mp.enc).length=Z.length:=List.length_map _
 have hcat:Z.map Mp.enc++[[.v (.int .i64 6),.v (.int .u32 ad),.v (.int .i64 po),.v (.int .i64 o),.v (.int .i64 now)]]=(Z++[(⟨6,ad,po,o,now⟩:Mp)]).map Mp.enc:=by rw [List.map_append];rfl
 have h5:=yK b1 t1 17 (Z++[(⟨6,ad,po,o,now⟩:Mp)]) false (by unfold maxLen;simp;omega) hbr1 hr1 hnd
 have h6:=yK b2 t2 6 (Z++[(⟨6,ad,po,o,now⟩:Mp)]) false (by unfold maxLen;simp;omega) hbr2 hr2 hnd
 have nf1:=fun g=>wi g (Z++[(⟨6,ad,po,o,now⟩:Mp)])
 repeat' first|refine auS ?_|(first|(refine zD 9 rfl h5 ⟨⟨rfl,rfl,rfl⟩,.inl ⟨rfl,rfl,by simp,by rw [yN (by simp)];exact congrArg (fun q=>DV.snap 5 q false) hcat.symm⟩,rfl,rfl⟩ rfl ?_)|(refine zD 9 rfl h6 ⟨⟨rfl,rfl,rfl⟩,.inl ⟨rfl,rfl,by simp,by rw [yN (by simp)];exact congrArg (fun q=>DV.snap 5 q false) hcat.symm⟩,rfl,rfl⟩ rfl ?_)|(refine zD 5 rfl h7 ⟨⟨rfl,rfl,rfl⟩,.inl ⟨rfl,rfl,by simp,by rw [yN (by simp)]⟩,rfl,rfl⟩ rfl ?_)|(refine zD 5 rfl h8 ⟨⟨rfl,rfl,rfl⟩,.inl ⟨rfl,rfl,by simp,by rw [yN (by simp)]⟩,rfl,rfl⟩ rfl ?_)|(with_reducible refine z0 h9 ?_))|refine auD ?_|(refine auW ?_ ?_<;>intro h<;>try exact auH)|(first|(refine z7 ⟨by trivial,by unfold zZ maxLen;rw [hxs];simp;omega⟩ ?_)|fail)
 all_goals try exact auP
 all_goals first
  |(exfalso;simp at h;done)
  |skip
 rw [hcat]
 refine zt (yS hW 1 9 (by decide) (ys:=[[.v (.int .i64 l),.v (.int .i64 b1),.v (.int .u64 (bs b1 17 (Z++[(⟨6,ad,po,o,now⟩:Mp)]):Nat)),.v (.int .i64 b2),.v (.int .u64 (bs b2 6 (Z++[(⟨6,ad,po,o,now⟩:Mp)]):Nat)),.snap 5 ((Z++[(⟨6,ad,po,o,now⟩:Mp)]).map Mp.enc) false]]) rfl rfl ⟨⟨rfl,rfl,rfl,rfl,rfl,Or.inl ⟨rfl,rfl,by simp,by rw [yN (by simp)]⟩,rfl⟩,rfl⟩) ?_
 all_goals with_reducible refine yd (by (try first|refine auR ?_|exact z8);(repeat' (first|exact trivial|exact rfl|exact zn (fun x=>by simp [nfL,nfD,nfD,nfL,nf1])|decide|apply And.intro))) ?_
 all_goals (try first|refine auR ?_|exact z8)
 all_goals (try simp only [hsM] at *)
 all_goals rfl
set_option maxHeartbeats 8000000 in
theorem jG (he:zI l b1 t1 b2 t2 ms=0) (ha:((0≤po∧po≤65535)∧zJ ms≤now∧now≤1099511627776)) {o:Int} (ho:ut 17 ad po (yng l now ms) (-1)=o) (ho0:0≤o) (hr1:inR b1 17 (zu 17 ad po (yng l now ms)++[⟨17,ad,po,o,now⟩])) (hr2:inR b2 6 (zu 17 ad po (yng l now ms)++[⟨17,ad,po,o,now⟩])) (hnd:((zu 17 ad po (yng l now ms)++[(⟨17,ad,po,o,now⟩:Mp)]).map yq).Nodup) :
  zd Tryz.prog 86 [dNt l b1 t1 b2 t2 ms,.v (.int .i64 17),.v (.int .u32 ad),.v (.int .i64 po),.v (.int .i64 now)] (rb l b1 (bs b1 17 (zu 17 ad po (yng l now ms)++[⟨17,ad,po,o,now⟩])) b2 (bs b2 6 (zu 17 ad po (yng l now ms)++[⟨17,ad,po,o,now⟩])) (zu 17 ad po (yng l now ms)++[⟨17,ad,po,o,now⟩]) o 0):=by
 have hml:ms.length≤maxLen:=by unfold maxLen;omega
 have h2:=yu l b1 t1 b2 t2 ms hml h10 h20
 rw [he] at h2
 obtain ⟨hlf,hb,hg,-,-⟩:=xP h10 h20 he
 have hbr1:=(yj hb.1).1
 have hbr2:=(yj hb.2).1
 have hlen:(ms.map Mp.enc).length=ms.length:=List.length_map _
 have h3:=z6 po 0 65535
 have h4:=z6 now (zJ ms) 1099511627776
 rw [decide_eq_true ha.1] at h3
 rw [decide_eq_true ha.2] at h4
 obtain ⟨hpo,hn1,hn2⟩:=ha
 have hl0:0≤zJ ms:=by
  unfold zJ
  split
  ·rename_i m hm
   exact (hg.tm m (List.mem_of_getElem? hm)).1
  ·exact Int.le_refl _
 have hyl:(yng l now ms).length≤ms.length:=List.length_filter_le _ _
 refine z4 {} 0 Tryz.func86 fun Γ hW=>auC ?_
 repeat' first|refine auS ?_|(first|(with_reducible refine z0 h2 ?_))|refine auD ?_|(refine auW ?_ ?_<;>intro h<;>try exact auH)|fail
 all_goals try exact auP
 all_goals first
  |(exfalso;simp at h;done)
  |skip
 refine ze (α:=Nat×Nat) (fun p=>[(⟨.d0,.d5,.d0⟩,.v (.int .i64 (p.1:Nat))),(⟨.d0,.d1,.d6⟩,.v (.int .i64 (uL ms p.1)))]) (fun p=>[(2,none)]) (fun p=>p.2) (fun p=>ms.length-p.1) (fun p=>p.1≤ms.length) (0,Γ.g0+2) (Nat.zero_le _) ?_ ?_
 ·skip
  refine zb ?_ ?_ (Nat.le_refl _)
  all_goals first|refine auE ?_|exact zi
  all_goals repeat' first|exact trivial|exact rfl|apply And.intro
 rintro ⟨k,gn⟩ hk
 dsimp only at hk ⊢
 refine auL ?_
 by_cases hlt:k<ms.length
 ·obtain ⟨m,hm⟩:∃m,ms[k]?=some m:=⟨_,List.getElem?_eq_getElem hlt⟩
  have ex:=y7 hm
  have hwk:IntKind.i64.wrap ((k:Int)+1)=((k+1:Nat):Int):=(IntWalk.i64_in _ (by omega)).trans (by omega)
  have hlk:=xm hm
  repeat' first|refine auS ?_|(simp only [hwk])|refine auD ?_|(refine auW ?_ ?_<;>intro h<;>try exact auH)|(first|(simp only [Int.toNat_natCast,ex])|fail)
  all_goals try exact auP
  refine za ⟨(k+1,gn+1),hlt,Nat.sub_lt_sub_left hlt (Nat.lt_succ_self k),?_⟩
  dsimp only
  rw [hlk]
  refine zb ?_ ?_ (Nat.le_refl _)
  all_goals first|refine auE ?_|exact zi
  all_goals repeat' first|exact trivial|exact rfl|apply And.intro
 obtain rfl:k=ms.length:=by omega
 rw [xT]
 clear hk
 repeat' first|refine auS ?_|(first|(with_reducible refine z0 h3 ?_)|(with_reducible refine z0 h4 ?_))|refine auD ?_|(refine auW ?_ ?_<;>intro h<;>try exact auH)|fail
 all_goals try exact auP
 all_goals first
  |(exfalso;simp at h;done)
  |skip
 refine sd (yW ⟨.d0,.d2,.d1⟩ 5 5 rfl rfl) ?_
 refine auL ?_
 refine ze (α:=Nat×Nat×Nat) (fun p=>[(⟨.d0,.d7,.d4⟩,.v (.int .i64 (p.1:Nat))),(⟨.d0,.d2,.d1⟩,.sl 5 p.2.1 5 0 (zu 17 ad po (yng l now (ms.take p.1))).length false),(⟨.d0,.d2,.d2⟩,.v (.int .i64 (ut 17 ad po (yng l now (ms.take p.1)) (-1))))]) (fun p=>[(3,none),(4,none),(5,some ⟨p.2.1,5,(zu 17 ad po (yng l now (ms.take p.1))).map Mp.enc⟩)]) (fun p=>p.2.2) (fun p=>ms.length-p.1) (fun p=>p.1≤ms.length) (0,gn,gn+1) (Nat.zero_le _) ?_ ?_
 ·skip
  refine zb ?_ ?_ (Nat.le_refl _)
  all_goals first|refine auE ?_|exact zi
  all_goals repeat' first|exact trivial|exact rfl|apply And.intro
 rintro ⟨k,nm,gn⟩ hk
 dsimp only at hk ⊢
 refine auL ?_
 by_cases hlt:k<ms.length
 ·obtain ⟨m,hm⟩:∃m,ms[k]?=some m:=⟨_,List.getElem?_eq_getElem hlt⟩
  have ex:=y7 hm
  have htm:=hg.tm m (List.mem_of_getElem? hm)
  have hwk:IntKind.i64.wrap ((k:Int)+1)=((k+1:Nat):Int):=(IntWalk.i64_in _ (by omega)).trans (by omega)
  have hws:IntKind.i64.wrap (now-m.tm)=now-m.tm:=IntWalk.i64_in _ (by omega)
  by_cases hy:now≤m.tm+l
  ·have hyk:=qg hm hy
   by_cases hp:m.pr=17∧m.ad=ad∧m.po=po
   ·have e1:=qb hp (yng l now (ms.take k))
    have e2:=xh 17 ad po (yng l now (ms.take k)) m (-1)
    rw [show isP 17 ad po m=true from decide_eq_true hp,if_pos rfl] at e2
    rw [←hyk] at e1 e2
    obtain ⟨p1,p2,p3⟩:=hp
    repeat' first|refine auS ?_|(simp only [hwk,hws])|refine auD ?_|(refine auW ?_ ?_<;>intro h<;>try exact auH)|(first|(simp only [Int.toNat_natCast,ex])|fail)
    all_goals try exact auP
    all_goals first
     |(exfalso;simp_all;done)
     |skip
    all_goals (refine za ⟨(k+1,nm,gn+1),hlt,Nat.sub_lt_sub_left hlt (Nat.lt_succ_self k),?_⟩;dsimp only;rw [e1,e2];(refine zb ?_ ?_ (Nat.le_refl _));(all_goals first|refine auE ?_|exact zi);(all_goals (repeat' (first|exact trivial|exact rfl|apply And.intro))))
   ·have e1:=oz hp (yng l now (ms.take k))
    have e2:=xh 17 ad po (yng l now (ms.take k)) m (-1)
    rw [show isP 17 ad po m=false from decide_eq_false hp,if_neg (by decide)] at e2
    rw [←hyk] at e1 e2
    have hbl:(zu 17 ad po (yng l now (ms.take k))).length≤k:=Nat.le_trans (List.length_filter_le _ _) (Nat.le_trans (List.length_filter_le _ _) (by rw [List.length_take];omega))
    have hxs:((zu 17 ad po (yng l now (ms.take k))).map Mp.enc).length=(zu 17 ad po (yng l now (ms.take k))).length:=List.length_map _
    have e3:(zu 17 ad po (yng l now (ms.take (k+1)))).map Mp.enc=(zu 17 ad po (yng l now (ms.take k))).map Mp.enc++[[.v (.int .i64 m.pr),.v (.int .u32 m.ad),.v (.int .i64 m.po),.v (.int .i64 m.ou),.v (.int .i64 m.tm)]]:=by rw [e1,List.map_append];rfl
    have e4:(zu 17 ad po (yng l now (ms.take (k+1)))).length=((zu 17 ad po (yng l now (ms.take k))).map Mp.enc).length+1:=by rw [e1,hxs];simp
    repeat' first|refine auS ?_|(simp only [hwk,hws])|refine auD ?_|(refine auW ?_ ?_<;>intro h<;>try exact auH)|(first|(simp only [Int.toNat_natCast,ex])|(refine z7 ⟨by trivial,by unfold zZ maxLen;rw [hxs];simp;omega⟩ ?_)|fail)
    all_goals try exact auP
    all_goals first
     |(exfalso;simp_all;done)
     |skip
    all_goals (refine za ⟨(k+1,gn+2,gn+3),hlt,Nat.sub_lt_sub_left hlt (Nat.lt_succ_self k),?_⟩;dsimp only;rw [e2,e3,e4];(refine zb ?_ ?_ (Nat.le_refl _));(all_goals first|refine auE ?_|exact zi);(all_goals (repeat' (first|exact trivial|exact rfl|apply And.intro))))
  ·have hyk:=o5 hm hy
   repeat' first|refine auS ?_|(simp only [hwk,hws])|refine auD ?_|(refine auW ?_ ?_<;>intro h<;>try exact auH)|(first|(simp only [Int.toNat_natCast,ex])|fail)
   all_goals try exact auP
   all_goals first
    |(exfalso;simp_all;done)
    |skip
   refine za ⟨(k+1,nm,gn+1),hlt,Nat.sub_lt_sub_left hlt (Nat.lt_succ_self k),?_⟩
   dsimp only
   rw [hyk]
   refine zb ?_ ?_ (Nat.le_refl _)
   all_goals first|refine auE ?_|exact zi
   all_goals repeat' first|exact trivial|exact rfl|apply And.intro
 obtain rfl:k=ms.length:=by omega
 rw [List.take_length]
 have hZl:(zu 17 ad po (yng l now ms)).length≤ms.length:=Nat.le_trans (List.length_filter_le _ _) (List.length_filter_le _ _)
 rw [ho]
 generalize zu 17 ad po (yng l now ms)=Z at *
 clear hg
 generalize yng l now ms=Y at *
 have h7:True:=trivial
 have h8:True:=trivial
 have h9:True:=trivial
 have hxs:(Z.map Mp.enc).length=Z.length:=List.length_map _
 have hcat:Z.map Mp.enc++[[.v (.int .i64 17),.v (.int .u32 ad),.v (.int .i64 po),.v (.int .i64 o),.v (.int .i64 now)]]=(Z++[(⟨17,ad,po,o,now⟩:Mp)]).map Mp.enc:=by rw [List.map_append];rfl
 have h5:=yK b1 t1 17 (Z++[(⟨17,ad,po,o,now⟩:Mp)]) false (by unfold maxLen;simp;omega) hbr1 hr1 hnd
 have h6:=yK b2 t2 6 (Z++[(⟨17,ad,po,o,now⟩:Mp)]) false (by unfold maxLen;simp;omega) hbr2 hr2 hnd
 have nf1:=fun g=>wi g (Z++[(⟨17,ad,po,o,now⟩:Mp)])
 repeat' first|refine auS ?_|(first|(refine zD 9 rfl h5 ⟨⟨rfl,rfl,rfl⟩,.inl ⟨rfl,rfl,by simp,by rw [yN (by simp)];exact congrArg (fun q=>DV.snap 5 q false) hcat.symm⟩,rfl,rfl⟩ rfl ?_)|(refine zD 9 rfl h6 ⟨⟨rfl,rfl,rfl⟩,.inl ⟨rfl,rfl,by simp,by rw [yN (by simp)];exact congrArg (fun q=>DV.snap 5 q false) hcat.symm⟩,rfl,rfl⟩ rfl ?_)|(refine zD 5 rfl h7 ⟨⟨rfl,rfl,rfl⟩,.inl ⟨rfl,rfl,by simp,by rw [yN (by simp)]⟩,rfl,rfl⟩ rfl ?_)|(refine zD 5 rfl h8 ⟨⟨rfl,rfl,rfl⟩,.inl ⟨rfl,rfl,by simp,by rw [yN (by simp)]⟩,rfl,rfl⟩ rfl ?_)|(with_reducible refine z0 h9 ?_))|refine auD ?_|(refine auW ?_ ?_<;>intro h<;>try exact auH)|(first|(refine z7 ⟨by trivial,by unfold zZ maxLen;rw [hxs];simp;omega⟩ ?_)|fail)
 all_goals try exact auP
 all_goals first
  |(exfalso;simp at h;done)
  |skip
 rw [hcat]
 refine zt (yS hW 1 9 (by decide) (ys:=[[.v (.int .i64 l),.v (.int .i64 b1),.v (.int .u64 (bs b1 17 (Z++[(⟨17,ad,po,o,now⟩:Mp)]):Nat)),.v (.int .i64 b2),.v (.int .u64 (bs b2 6 (Z++[(⟨17,ad,po,o,now⟩:Mp)]):Nat)),.snap 5 ((Z++[(⟨17,ad,po,o,now⟩:Mp)]).map Mp.enc) false]]) rfl rfl ⟨⟨rfl,rfl,rfl,rfl,rfl,Or.inl ⟨rfl,rfl,by simp,by rw [yN (by simp)]⟩,rfl⟩,rfl⟩) ?_
 all_goals with_reducible refine yd (by (try first|refine auR ?_|exact z8);(repeat' (first|exact trivial|exact rfl|exact zn (fun x=>by simp [nfL,nfD,nfD,nfL,nf1])|decide|apply And.intro))) ?_
 all_goals (try first|refine auR ?_|exact z8)
 all_goals (try simp only [hsM] at *)
 all_goals rfl
end
end Go.Proofs.YtmibknbmhcnemaaGreatDoor.A
