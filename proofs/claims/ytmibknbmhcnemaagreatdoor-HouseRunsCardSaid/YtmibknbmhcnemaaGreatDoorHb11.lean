import Derived.Test.YtmibknbmhcnemaaGreatDoorHb10
import Derived.Test.YtmibknbmhcnemaaGreatDoorHb09
set_option linter.unusedVariables false
set_option linter.unusedSimpArgs false
namespace Go.Proofs.YtmibknbmhcnemaaGreatDoor.A
attribute [local irreducible] zF Go
set_option maxRecDepth 100000
set_option maxHeartbeats 1000000 in
theorem qr {g:FuncId} {caps:List DV} (p:Int→Bool) (l:List Int) (c:Bool) (hl:l.length≤maxLen) (hg:∀t∈l,zd Tryz.prog g (.v (.int .i64 t)::caps) (.v (.bool (p t)))):zd Tryz.prog 176 [.snap 1 (l.map wv) c,.fn (.func g) [] caps] (.v (.int .i64 (zl p l 0))):=by
 unfold maxLen at hl
 refine z4 {} 0 Tryz.func176 fun Γ hW=>auC ?_
 repeat' first|refine auS ?_|fail|refine auD ?_|(refine auW ?_ ?_<;>intro h<;>try exact auH)|fail
 refine ze (α:=Nat) (fun k=>[(⟨.d0,.d1,.d0⟩,.v (.int .i64 (k:Nat)))]) (fun _=>[]) (fun _=>Γ.g0) (fun k=>l.length-k) (fun k=>k≤l.length∧zl p l 0=zl p (l.drop k) k) 0 ⟨Nat.zero_le _,rfl⟩ ?_ ?_
 ·skip
  refine zb ?_ ?_ (Nat.le_refl _)
  all_goals first|refine auE ?_|exact zi
  all_goals repeat' first|exact trivial|exact rfl|apply And.intro
 ·rintro k ⟨hk,hp⟩
  refine auL ?_
  by_cases hlt:k<l.length
  ·obtain ⟨t,ht⟩:∃t,l[k]?=some t:=⟨_,List.getElem?_eq_getElem hlt⟩
   have ex:=zT wv l k t ht
   have hgt:=hg t (List.mem_of_getElem? ht)
   rw [List.drop_eq_getElem_cons hlt,show l[k]=t from Option.some.inj ((List.getElem?_eq_getElem hlt).symm.trans ht)] at hp
   repeat' first|refine auS ?_|(with_reducible refine z0 hgt ?_)|refine auD ?_|(refine auW ?_ ?_<;>intro h<;>try exact auH)|(simp only [Int.toNat_natCast,ex])
   all_goals try exact auP
   ·skip
    all_goals refine auV ?_
    all_goals try exact z8
    all_goals try simp only [hsM] at *
    rw [hp]
    simp [zl, *]
   ·refine za ?_
    refine ⟨k+1,⟨Nat.succ_le_of_lt hlt,by rw [hp];simp [zl, *]⟩,Nat.sub_lt_sub_left hlt (Nat.lt_succ_self k),?_⟩
    refine zb ?_ ?_ (Nat.le_refl _)
    all_goals first|refine auE ?_|exact zi
    all_goals repeat' first|exact trivial|exact rfl|apply And.intro
    exact zB ((IntWalk.i64_in _ (by omega)).trans (by omega))
  ·skip
   repeat' first|refine auS ?_|fail|refine auD ?_|(refine auW ?_ ?_<;>intro h<;>try exact auH)|fail
   all_goals try exact auP
   all_goals refine auV ?_
   all_goals try exact z8
   all_goals try simp only [hsM] at *
   obtain rfl:k=l.length:=by omega
   rw [hp,List.drop_length]
   rfl
theorem jd (n want:Int):zd Tryz.prog 177 [.v (.int .i64 n),.rptr [.v (.int .i64 want)]] (.v (.bool (decide (n.tmod 2=want.tmod 2)))):=by
 refine z4 {} 0 Tryz.func177 fun Γ hW=>auC ?_
 repeat' first|refine auS ?_|fail|refine auD ?_|(refine auW ?_ ?_<;>intro h<;>try exact auH)|fail
 all_goals refine auV ?_
 all_goals try exact z8
 all_goals try simp only [hsM] at *
theorem rt {α:Type} (p:α→Bool) (l:List α):(zl p l 0 = -1∧l.find? p=none)∨∃ (i:Nat) (t:α),l[i]?=some t∧zl p l 0=(i:Int)∧l.find? p=some t:=by
 rcases yD p l 0 with ⟨h1,h2⟩|⟨i,t,h1,h2,h3,h4⟩
 ·exact .inl ⟨h1,List.find?_eq_none.2 (fun x hx=>by simp [h2 x hx])⟩
 ·refine .inr ⟨i,t,h1,by rw [h4];simp,?_⟩
  have hi:i<l.length:=(List.getElem?_eq_some_iff.1 h1).1
  have e:l=l.take i++t::l.drop (i+1):=by
   have:l.drop i=t::l.drop (i+1):=by rw [List.drop_eq_getElem_cons hi,show l[i]=t from Option.some.inj ((List.getElem?_eq_getElem hi).symm.trans h1)]
   rw [←this,List.take_append_drop]
  rw [e,List.find?_append,List.find?_eq_none.2 (fun x hx=>by simp [h3 x hx])]
  simp [h2]
theorem af (b:Int) (t:Nat) (p:Int→Bool):(y6 b t 64).find? p=((List.range 64).find? (fun k=>decide (frB t k=true∧p (b+(k:Int))=true))).map (fun (k:Nat)=>b+(k:Int)):=by
 unfold y6
 rw [List.find?_map,List.find?_filter]
 rfl
theorem ai (b:Int) (t:Nat):(y6 b t 64)[0]?=((List.range 64).find? (frB t)).map (fun (k:Nat)=>b+(k:Int)):=by
 unfold y6
 rw [←List.head?_eq_getElem?,List.head?_map,List.head?_filter]
 rfl
theorem U1 {b want:Int} (hb:b % 64=0) (h1:64≤b) (h2:0≤want) (k:Nat):decide ((b+(k:Int)).tmod 2=want.tmod 2)=nn want k:=by
 unfold nn
 refine decide_eq_decide.2 ?_
 rw [Int.tmod_eq_emod_of_nonneg (by omega),Int.tmod_eq_emod_of_nonneg h2]
 omega
abbrev gW (want:Int):Int→Bool:=fun n=>decide (n.tmod 2=want.tmod 2)
theorem iV {b:Int} {t:Nat} {want:Int} (ht:t<18446744073709551616) (hb:pOk b=true) (hw:0≤want) (hne:¬t=18446744073709551615) :
  ∃k0:Nat,k0<64∧(y6 b t 64)[0]?=some (b+(k0:Int))∧((zl (gW want) (y6 b t 64) 0 = -1∧yx t want=k0)∨∃i:Nat,zl (gW want) (y6 b t 64) 0=(i:Int)∧(y6 b t 64)[i]?=some (b+(yx t want:Nat))):=by
 obtain ⟨hbr,hbm⟩:=yj hb
 obtain ⟨k0,g1,g2,g3⟩:=oH ht hne
 refine ⟨k0,g1,by rw [ai,g2];rfl,?_⟩
 have hf:=af b t (gW want)
 have hp:(fun k:Nat=>decide (frB t k=true∧gW want (b+(k:Int))=true))=fun k=>decide (frB t k=true∧nn want k=true):=by
  funext k
  rw [show gW want (b+(k:Int))=nn want k from U1 hbm hbr.1 hw k]
 rw [hp] at hf
 rcases rt (gW want) (y6 b t 64) with ⟨q1,q2⟩|⟨i,x,q1,q2,q3⟩
 ·refine .inl ⟨q1,?_⟩
  rw [q2] at hf
  unfold yx
  cases hh:(List.range 64).find? (fun k=>decide (frB t k=true∧nn want k=true)) with
  |some k=>rw [hh] at hf;cases hf
  |none=>rw [g2]
 ·refine .inr ⟨i,q2,?_⟩
  rw [q3] at hf
  unfold yx
  cases hh:(List.range 64).find? (fun k=>decide (frB t k=true∧nn want k=true)) with
  |none=>rw [hh] at hf;cases hf
  |some k=>
   rw [hh] at hf
   rw [q1,Option.some.inj hf]
theorem aq {b:Int} {t:Nat} (ht:t<18446744073709551616) (h:t=18446744073709551615):y6 b t 64=[]:=by
 unfold y6
 rw [List.filter_eq_nil_iff.2 (fun k hk=>by rw [(kE ht).1 h k (List.mem_range.1 hk)];decide)]
 rfl
set_option maxHeartbeats 2000000 in
theorem iX (b:Int) (t:Nat) (want:Int) (ht:t<18446744073709551616) (hne:¬ux b t want=0):zd Tryz.prog 137 [.agg [.v (.int .i64 b),.v (.int .u64 (t:Int))],.v (.int .i64 want)] (tz 0 0 0 (ux b t want)):=by
 have h1:=xL b t
 have h2:=z6 want 0 65535
 unfold ux at hne ⊢
 unfold pE at h1
 cases hb:pOk b with
 |false=>
  rw [hb] at h1
  rw [if_neg (by decide)] at h1 ⊢
  have h3:=h1
  have hlen:True:=trivial
  refine z4 {} 0 Tryz.func137 fun Γ hW=>auC ?_
  repeat' first|refine auS ?_|(first|(with_reducible refine z0 h1 ?_)|(with_reducible refine z0 h2 ?_)|(with_reducible refine z0 h3 ?_)|(simp only [hlen]))|refine auD ?_|(refine auW ?_ ?_<;>intro h<;>try exact auH)|fail
  all_goals try exact auP
  all_goals first
   |(exfalso;simp at h;done)
   |skip
  all_goals refine auV ?_
  all_goals try exact z8
  all_goals try simp only [hsM] at *
  all_goals rfl
 |true=>
  rw [hb] at h1 hne
  rw [if_pos rfl] at h1 hne ⊢
  have h3:=qf b t (yj hb).1 ht
  have hlen:((y6 b t 64).map wv).length=(y6 b t 64).length:=List.length_map _
  by_cases hw:0≤want∧want≤65535
  ·rw [if_pos hw] at hne ⊢
   rw [decide_eq_true hw] at h2
   by_cases hf:t=18446744073709551615
   ·rw [if_pos hf]
    clear hne
    have hl0:(y6 b t 64).length=0:=by rw [aq ht hf];rfl
    generalize y6 b t 64=L at *
    generalize (t:Int)=T at *
    refine z4 {} 0 Tryz.func137 fun Γ hW=>auC ?_
    repeat' first|refine auS ?_|(first|(with_reducible refine z0 h1 ?_)|(with_reducible refine z0 h2 ?_)|(with_reducible refine z0 h3 ?_)|(simp only [hlen]))|refine auD ?_|(refine auW ?_ ?_<;>intro h<;>try exact auH)|fail
    all_goals try exact auP
    all_goals first
     |(exfalso;simp at h;done)
     |skip
    all_goals refine auV ?_
    all_goals try exact z8
    all_goals try simp only [hsM] at *
    all_goals rfl
   ·rw [if_neg hf] at hne
    exact absurd rfl hne
  ·rw [if_neg hw]
   rw [decide_eq_false hw] at h2
   refine z4 {} 0 Tryz.func137 fun Γ hW=>auC ?_
   repeat' first|refine auS ?_|(first|(with_reducible refine z0 h1 ?_)|(with_reducible refine z0 h2 ?_)|(with_reducible refine z0 h3 ?_)|(simp only [hlen]))|refine auD ?_|(refine auW ?_ ?_<;>intro h<;>try exact auH)|fail
   all_goals try exact auP
   all_goals first
    |(exfalso;simp at h;done)
    |skip
   all_goals refine auV ?_
   all_goals try exact z8
   all_goals try simp only [hsM] at *
   all_goals rfl
set_option maxHeartbeats 4000000 in
theorem k8 (b:Int) (t:Nat) (want:Int) (ht:t<18446744073709551616) (h0:ux b t want=0) (hc:tkd b t want=false∧b≤want∧want≤b+63):zd Tryz.prog 137 [.agg [.v (.int .i64 b),.v (.int .u64 (t:Int))],.v (.int .i64 want)] (tz b (t+2 ^ yM b t want) (b+yM b t want) 0):=by
 obtain ⟨hb,hw,hne⟩:=v8 h0
 obtain ⟨hbr,hbm⟩:=yj hb
 have h1:=xL b t
 unfold pE at h1
 rw [if_pos hb] at h1
 have h2:=z6 want 0 65535
 rw [decide_eq_true hw] at h2
 have h3:=qf b t hbr ht
 have hll:=q8 b t 64
 have h4:=wF (y6 b t 64) want false (by unfold maxLen;omega)
 have h5:=qr (g:=177) (caps:=[.rptr [.v (.int .i64 want)]]) (gW want) (y6 b t 64) false (by unfold maxLen;omega) (fun n _=>jd n want)
 have hlen:((y6 b t 64).map wv).length=(y6 b t 64).length:=List.length_map _
 obtain ⟨k0,hk0,hhd,hbest⟩:=iV (want:=want) ht hb hw.1 hne
 have hl0:0<(y6 b t 64).length:=(List.getElem?_eq_some_iff.1 hhd).1
 have ex0:=sB hhd
 have hlk:=ve (b:=b) ht hne want
 have hK:yM b t want=(want-b).toNat:=by unfold yM;rw [if_pos hc]
 rw [hK] at hlk ⊢
 obtain ⟨c1,c2,c3⟩:=hc
 rw [show b+(((want-b).toNat:Nat):Int)=want by omega]
 have hany:(y6 b t 64).any (fun x:Int=>decide (want=x))=true:=by
  have:=hU (b:=b) (t:=t) hlk.1
  rw [show b+(((want-b).toNat:Nat):Int)=want by omega,hlk.2] at this
  exact this
 rw [hany] at h4
 unfold tz
 have hsub:IntKind.i64.wrap (want-b)=want-b:=IntWalk.i64_in _ (by omega)
 have hadd:=mg ht hlk.1 hlk.2
 rcases hbest with ⟨e1,e2⟩|⟨i,e1,e2⟩
 ·rw [e1] at h5
  have exi:True:=trivial
  generalize y6 b t 64=L at *
  generalize ((t+2 ^ (want-b).toNat:Nat):Int)=T2 at *
  generalize (t:Int)=T at *
  refine z4 {} 0 Tryz.func137 fun Γ hW=>auC ?_
  repeat' first|refine auS ?_|(first|(with_reducible refine z0 h1 ?_)|(with_reducible refine z0 h2 ?_)|(with_reducible refine z0 h3 ?_)|(with_reducible refine z0 h4 ?_)|(refine zD 1 rfl h5 ⟨rfl,⟨rfl,rfl,⟨.inl ⟨rfl,rfl,Nat.zero_lt_one,rfl⟩,rfl⟩⟩,rfl⟩ rfl ?_)|(simp only [hlen,hsub,hadd]))|refine auD ?_|(refine auW ?_ ?_<;>intro h<;>try exact auH)|(first|(simp only [Int.toNat_natCast,Int.toNat_zero,ex0,exi])|fail)
  all_goals try exact auP
  all_goals first
   |(exfalso;simp at h;done)
   |skip
  all_goals refine auV ?_
  all_goals try exact z8
  all_goals try simp only [hsM] at *
 ·rw [e1] at h5
  have exi:=sB e2
  have hil:i<(y6 b t 64).length:=(List.getElem?_eq_some_iff.1 e2).1
  generalize y6 b t 64=L at *
  generalize ((t+2 ^ (want-b).toNat:Nat):Int)=T2 at *
  generalize (t:Int)=T at *
  refine z4 {} 0 Tryz.func137 fun Γ hW=>auC ?_
  repeat' first|refine auS ?_|(first|(with_reducible refine z0 h1 ?_)|(with_reducible refine z0 h2 ?_)|(with_reducible refine z0 h3 ?_)|(with_reducible refine z0 h4 ?_)|(refine zD 1 rfl h5 ⟨rfl,⟨rfl,rfl,⟨.inl ⟨rfl,rfl,Nat.zero_lt_one,rfl⟩,rfl⟩⟩,rfl⟩ rfl ?_)|(simp only [hlen,hsub,hadd]))|refine auD ?_|(refine auW ?_ ?_<;>intro h<;>try exact auH)|(first|(simp only [Int.toNat_natCast,Int.toNat_zero,ex0,exi])|fail)
  all_goals try exact auP
  all_goals first
   |(exfalso;simp at h;done)
   |skip
  all_goals refine auV ?_
  all_goals try exact z8
  all_goals try simp only [hsM] at *
set_option maxHeartbeats 4000000 in
theorem lz (b:Int) (t:Nat) (want:Int) (ht:t<18446744073709551616) (h0:ux b t want=0) (hc:¬(tkd b t want=false∧b≤want∧want≤b+63)):zd Tryz.prog 137 [.agg [.v (.int .i64 b),.v (.int .u64 (t:Int))],.v (.int .i64 want)] (tz b (t+2 ^ yM b t want) (b+yM b t want) 0):=by
 obtain ⟨hb,hw,hne⟩:=v8 h0
 obtain ⟨hbr,hbm⟩:=yj hb
 have h1:=xL b t
 unfold pE at h1
 rw [if_pos hb] at h1
 have h2:=z6 want 0 65535
 rw [decide_eq_true hw] at h2
 have h3:=qf b t hbr ht
 have hll:=q8 b t 64
 have h4:=wF (y6 b t 64) want false (by unfold maxLen;omega)
 have h5:=qr (g:=177) (caps:=[.rptr [.v (.int .i64 want)]]) (gW want) (y6 b t 64) false (by unfold maxLen;omega) (fun n _=>jd n want)
 have hlen:((y6 b t 64).map wv).length=(y6 b t 64).length:=List.length_map _
 obtain ⟨k0,hk0,hhd,hbest⟩:=iV (want:=want) ht hb hw.1 hne
 have hl0:0<(y6 b t 64).length:=(List.getElem?_eq_some_iff.1 hhd).1
 have ex0:=sB hhd
 have hlk:=ve (b:=b) ht hne want
 have hK:yM b t want=yx t want:=by unfold yM;rw [if_neg hc]
 rw [hK] at hlk ⊢
 have hany:(y6 b t 64).any (fun x:Int=>decide (want=x))=false:=by
  rw [List.any_eq_false]
  intro x hx
  unfold y6 at hx
  obtain ⟨k,hk1,rfl⟩:=List.mem_map.1 hx
  obtain ⟨hk2,hk3⟩:=List.mem_filter.1 hk1
  have hk4:=List.mem_range.1 hk2
  simp only [decide_eq_true_eq]
  intro e
  refine hc ⟨?_,by omega,by omega⟩
  unfold tkd
  rw [show (want-b).toNat=k by omega,show t.testBit k=false by simpa using hk3,Bool.and_false]
 rw [hany] at h4
 unfold tz
 have hsub:IntKind.i64.wrap (b+(yx t want:Nat)-b)=(yx t want:Nat):=(IntWalk.i64_in _ (by omega)).trans (by omega)
 have hadd:=mg ht hlk.1 hlk.2
 rcases hbest with ⟨e1,e2⟩|⟨i,e1,e2⟩
 ·rw [e1] at h5
  rw [←e2] at ex0
  have exi:True:=trivial
  generalize y6 b t 64=L at *
  generalize ((t+2 ^ yx t want:Nat):Int)=T2 at *
  generalize yx t want=K at *
  generalize (t:Int)=T at *
  refine z4 {} 0 Tryz.func137 fun Γ hW=>auC ?_
  repeat' first|refine auS ?_|(first|(with_reducible refine z0 h1 ?_)|(with_reducible refine z0 h2 ?_)|(with_reducible refine z0 h3 ?_)|(with_reducible refine z0 h4 ?_)|(refine zD 1 rfl h5 ⟨rfl,⟨rfl,rfl,⟨.inl ⟨rfl,rfl,Nat.zero_lt_one,rfl⟩,rfl⟩⟩,rfl⟩ rfl ?_)|(simp only [hlen,hsub,hadd]))|refine auD ?_|(refine auW ?_ ?_<;>intro h<;>try exact auH)|(first|(simp only [Int.toNat_natCast,Int.toNat_zero,ex0,exi])|fail)
  all_goals try exact auP
  all_goals first
   |(exfalso;simp at h;done)
   |skip
  all_goals refine auV ?_
  all_goals try exact z8
  all_goals try simp only [hsM] at *
 ·rw [e1] at h5
  have exi:=sB e2
  have hil:i<(y6 b t 64).length:=(List.getElem?_eq_some_iff.1 e2).1
  generalize y6 b t 64=L at *
  generalize ((t+2 ^ yx t want:Nat):Int)=T2 at *
  generalize yx t want=K at *
  generalize (t:Int)=T at *
  refine z4 {} 0 Tryz.func137 fun Γ hW=>auC ?_
  repeat' first|refine auS ?_|(first|(with_reducible refine z0 h1 ?_)|(with_reducible refine z0 h2 ?_)|(with_reducible refine z0 h3 ?_)|(with_reducible refine z0 h4 ?_)|(refine zD 1 rfl h5 ⟨rfl,⟨rfl,rfl,⟨.inl ⟨rfl,rfl,Nat.zero_lt_one,rfl⟩,rfl⟩⟩,rfl⟩ rfl ?_)|(simp only [hlen,hsub,hadd]))|refine auD ?_|(refine auW ?_ ?_<;>intro h<;>try exact auH)|(first|(simp only [Int.toNat_natCast,Int.toNat_zero,ex0,exi])|fail)
  all_goals try exact auP
  all_goals first
   |(exfalso;simp at h;done)
   |skip
  all_goals refine auV ?_
  all_goals try exact z8
  all_goals try simp only [hsM] at *
end Go.Proofs.YtmibknbmhcnemaaGreatDoor.A
namespace Go.Proofs.YtmibknbmhcnemaaGreatDoor.A
def wM (b pr:Int) (m:Mp):Nat:=if m.pr=pr then 2 ^ (m.ou-b).toNat else 0
def bs (b pr:Int):List Mp→Nat
 |[]=>0
 |m::r=>wM b pr m+bs b pr r
theorem qA (b pr:Int):∀(l r:List Mp),bs b pr (l++r)=bs b pr l+bs b pr r
 |[],r=>by simp [bs]
 |m::l,r=>by simp only [List.cons_append,bs,qA b pr l r];omega
def inR (b pr:Int) (ms:List Mp):Prop:=∀m∈ms,m.pr=pr→b≤m.ou∧m.ou≤b+63
theorem vi (b pr:Int):∀(ms:List Mp),inR b pr ms→(ms.map yq).Nodup→bs b pr ms<18446744073709551616∧∀j,(bs b pr ms).testBit j=ms.any (fun m=>decide (m.pr=pr∧(m.ou-b).toNat=j))
 |[],_,_=>⟨by simp [bs],fun j=>by simp [bs]⟩
 |m::r,hr,hn=>by
  simp only [List.map_cons,List.nodup_cons] at hn
  obtain ⟨h1,h2⟩:=vi b pr r (fun y hy=>hr y (List.mem_cons_of_mem _ hy)) hn.2
  by_cases hp:m.pr=pr
  ·obtain ⟨r1,r2⟩:=hr m (by simp) hp
   have hc:(bs b pr r).testBit (m.ou-b).toNat=false:=by
    rw [h2,List.any_eq_false]
    intro y hy
    simp only [decide_eq_true_eq,not_and]
    intro e1 e2
    obtain ⟨q1,q2⟩:=hr y (List.mem_cons_of_mem _ hy) e1
    exact hn.1 (List.mem_map.2 ⟨y,hy,by simp only [yq,Prod.mk.injEq];exact ⟨e1.trans hp.symm,by omega⟩⟩)
   have e:bs b pr (m::r)=bs b pr r+2 ^ (m.ou-b).toNat:=by
    simp only [bs,wM]
    rw [if_pos hp,Nat.add_comm]
   rw [e]
   refine ⟨jF h1 (by omega) hc,fun j=>?_⟩
   rw [pz hc,Nat.testBit_or,h2,Nat.testBit_two_pow,List.any_cons,Bool.or_comm]
   congr 1
   simp [hp]
  ·have e:bs b pr (m::r)=bs b pr r:=by
    simp only [bs,wM]
    rw [if_neg hp,Nat.zero_add]
   rw [e]
   exact ⟨h1,fun j=>by rw [h2,List.any_cons];simp [hp]⟩
theorem Yu {b pr:Int} {ms:List Mp} (hr:inR b pr ms) (hn:(ms.map yq).Nodup) (o:Int) (h0:b≤o∧o≤b+63):tkd b (bs b pr ms) o=wV pr ms o:=by
 unfold tkd wV
 rw [decide_eq_true h0,Bool.true_and,(vi b pr ms hr hn).2,Bool.eq_iff_iff,List.any_eq_true,List.any_eq_true]
 constructor
 ·rintro ⟨m,hm,h⟩
  have h:=of_decide_eq_true h
  have:=hr m hm h.1
  exact ⟨m,hm,decide_eq_true ⟨h.1,by omega⟩⟩
 ·rintro ⟨m,hm,h⟩
  have h:=of_decide_eq_true h
  exact ⟨m,hm,decide_eq_true ⟨h.1,by rw [h.2]⟩⟩
theorem Vi {b pr:Int} {t:Nat} {ms:List Mp} (ht:t<18446744073709551616) (hr:inR b pr ms) (hn:(ms.map yq).Nodup) (h:∀o,tkd b t o=wV pr ms o):t=bs b pr ms:=by
 obtain ⟨h1,h2⟩:=vi b pr ms hr hn
 refine Nat.eq_of_testBit_eq fun j=>?_
 rcases Nat.lt_or_ge j 64 with hj|hj
 ·have e:=h (b+(j:Int))
  rw [←Yu hr hn _ (by omega)] at e
  unfold tkd at e
  rw [decide_eq_true (by omega),Bool.true_and,Bool.true_and,show (b+(j:Int)-b).toNat=j by omega] at e
  exact e
 ·have hp:18446744073709551616≤2 ^ j:=Nat.pow_le_pow_right (n:=2) (by decide) hj
  rw [Nat.testBit_lt_two_pow (by omega),Nat.testBit_lt_two_pow (by omega)]
structure vY (b1 b2:Int) (ms:List Mp):Prop where
 pr:∀m∈ms,m.pr=17∨m.pr=6
 tm:∀m∈ms,0≤m.tm∧m.tm≤1099511627776
 r1:inR b1 17 ms
 r2:inR b2 6 ms
 pw:ms.Pairwise (fun o m=>wP o m=false)
theorem vY.sub {b1 b2:Int} {ms l:List Mp} (h:vY b1 b2 ms) (hs:l.Sublist ms):vY b1 b2 l:=
 ⟨fun m hm=>h.pr m (hs.subset hm),fun m hm=>h.tm m (hs.subset hm),fun m hm=>h.r1 m (hs.subset hm),fun m hm=>h.r2 m (hs.subset hm),h.pw.sublist hs⟩
theorem vY.nd {b1 b2:Int} {ms:List Mp} (h:vY b1 b2 ms):(ms.map yq).Nodup:=by
 rw [List.nodup_iff_pairwise_ne,List.pairwise_map]
 refine h.pw.imp ?_
 intro o m hc e
 simp only [yq,Prod.mk.injEq] at e
 unfold wP at hc
 rw [decide_eq_false_iff_not] at hc
 exact hc (.inr ⟨e.1,.inl e.2⟩)
theorem Xj {ms:List Mp} (h:yb uN [] ms=true):ms.Pairwise (fun o m=>wP o m=false):=by
 rw [List.pairwise_iff_getElem]
 intro i j hi hj hij
 have:=rk h (List.getElem?_eq_getElem hj)
 unfold uN at this
 simp only [Bool.and_eq_true,List.all_eq_true,Bool.not_eq_true'] at this
 refine this.2 _ ?_
 rw [List.nil_append,List.mem_take_iff_getElem]
 exact ⟨i,by omega,rfl⟩
theorem xP {l b1:Int} {t1:Nat} {b2:Int} {t2:Nat} {ms:List Mp} (h1:t1<18446744073709551616) (h2:t2<18446744073709551616) (h:zI l b1 t1 b2 t2 ms=0):(1≤l∧l≤1000000)∧(pOk b1=true∧pOk b2=true)∧vY b1 b2 ms∧t1=bs b1 17 ms∧t2=bs b2 6 ms:=by
 unfold zI at h
 split at h
 ·rename_i hc
  split at h
  ·rename_i hr
   simp only [Bool.and_eq_true,decide_eq_true_eq] at hc
   refine ⟨hc.1,hc.2,?_⟩
   have hr':=hr
   rw [nT b1 b2 ms [] t1 t2 0 h1 h2] at hr'
   obtain ⟨_,hn,hk⟩:=hr'
   rw [←rU b1 b2 t1 t2 ms h1 h2,Bool.and_eq_true] at hr
   have hg:=hr.1
   have hat:∀m∈ms,(m.pr=17∨m.pr=6)∧(0≤m.tm∧m.tm≤1099511627776):=fun m hm=>by
    obtain ⟨j,hj⟩:=List.mem_iff_getElem?.1 hm
    have:=rk hg hj
    unfold uN at this
    simp only [Bool.and_eq_true,decide_eq_true_eq] at this
    exact ⟨this.1.1.1,this.1.2⟩
   have k1:∀o,tkd b1 t1 o=wV 17 ms o:=fun o=>by
    rw [Bool.eq_iff_iff,←s8,←hk (17,o)]
    simp [tkB]
   have k2:∀o,tkd b2 t2 o=wV 6 ms o:=fun o=>by
    rw [Bool.eq_iff_iff,←s8,←hk (6,o)]
    simp [tkB]
   have hR:∀(b pr:Int) (t:Nat),(∀o,tkd b t o=wV pr ms o)→inR b pr ms:=fun b pr t hk m hm hp=>by
    have:wV pr ms m.ou=true:=List.any_eq_true.2 ⟨m,hm,by simp [hp]⟩
    rw [←hk] at this
    exact ⟨(iD this).1,(iD this).2.1⟩
   have r1:=hR b1 17 t1 k1
   have r2:=hR b2 6 t2 k2
   exact ⟨⟨fun m hm=>(hat m hm).1,fun m hm=>(hat m hm).2,r1,r2,Xj hg⟩,Vi h1 r1 hn k1,Vi h2 r2 hn k2⟩
  ·omega
 ·omega
theorem iJ {b pr:Int} {m:Mp} {r:List Mp} (hr:inR b pr (m::r)) (hn:((m::r).map yq).Nodup) (hp:m.pr=pr):tkd b (bs b pr (m::r)) m.ou=true∧clr b (bs b pr (m::r)) m.ou=bs b pr r:=by
 obtain ⟨r1,r2⟩:=hr m (by simp) hp
 have hn':=hn
 simp only [List.map_cons,List.nodup_cons] at hn
 obtain ⟨h1,h2⟩:=vi b pr r (fun y hy=>hr y (List.mem_cons_of_mem _ hy)) hn.2
 have hc:(bs b pr r).testBit (m.ou-b).toNat=false:=by
  rw [h2,List.any_eq_false]
  intro y hy
  simp only [decide_eq_true_eq,not_and]
  intro e1 e2
  obtain ⟨q1,q2⟩:=hr y (List.mem_cons_of_mem _ hy) e1
  exact hn.1 (List.mem_map.2 ⟨y,hy,by simp only [yq,Prod.mk.injEq];exact ⟨e1.trans hp.symm,by omega⟩⟩)
 have e:bs b pr (m::r)=bs b pr r ||| 2 ^ (m.ou-b).toNat:=by
  simp only [bs,wM]
  rw [if_pos hp,Nat.add_comm,pz hc]
 refine ⟨?_,?_⟩
 ·rw [Yu hr hn' _ ⟨r1,r2⟩]
  exact List.any_eq_true.2 ⟨m,by simp,by simp [hp]⟩
 ·unfold clr
  rw [e]
  refine Nat.eq_of_testBit_eq fun i=>?_
  rw [Nat.testBit_xor,Nat.testBit_or,Nat.testBit_two_pow]
  by_cases hi:(m.ou-b).toNat=i
  ·rw [←hi,hc,decide_eq_true rfl]
   rfl
  ·rw [decide_eq_false hi]
   simp
theorem cZ {b pr:Int} {m:Mp} {r:List Mp} (hp:¬m.pr=pr):bs b pr (m::r)=bs b pr r:=by simp only [bs,wM];rw [if_neg hp,Nat.zero_add]
def vq (l now:Int) (m:Mp):Bool:=decide (now≤m.tm+l)
def yng (l now:Int) (ms:List Mp):List Mp:=ms.filter (vq l now)
theorem l7 {b1 b2 l now:Int} {ms:List Mp} (h:vY b1 b2 ms) (k:Nat) (h1:∀m∈ms.take k,vq l now m=false) (h2:∀m,ms[k]?=some m→vq l now m=true):yng l now ms=ms.drop k:=by
 have e:ms=ms.take k++ms.drop k:=(List.take_append_drop k ms).symm
 unfold yng
 rw [e,List.filter_append,List.filter_eq_nil_iff.2 (fun m hm=>by rw [h1 m hm];decide),List.nil_append,←e,List.filter_eq_self]
 intro m hm
 obtain ⟨i,hi,rfl⟩:=List.mem_iff_getElem.1 hm
 rw [List.length_drop] at hi
 rw [List.getElem_drop]
 have hk:k<ms.length:=by omega
 have hy:=h2 ms[k] (List.getElem?_eq_getElem hk)
 rcases Nat.eq_zero_or_pos i with rfl|hp
 ·exact hy
 ·have hc:=List.pairwise_iff_getElem.1 h.pw k (k+i) hk (by omega) (by omega)
  unfold wP at hc
  rw [decide_eq_false_iff_not] at hc
  unfold vq at hy ⊢
  have:=of_decide_eq_true hy
  exact decide_eq_true (by omega)
abbrev isP (pr ad po:Int):Mp→Bool:=fun m=>decide (m.pr=pr∧m.ad=ad∧m.po=po)
def zu (pr ad po:Int) (ms:List Mp):List Mp:=ms.filter (fun m=>!isP pr ad po m)
theorem Yd {b1 b2 pr ad po:Int} {ms:List Mp} (h:vY b1 b2 ms) {i:Nat} {m:Mp} (hi:ms[i]?=some m) (hm:isP pr ad po m=true):zu pr ad po ms=ms.take i++ms.drop (i+1):=by
 have hlt:i<ms.length:=(List.getElem?_eq_some_iff.1 hi).1
 have hmi:ms[i]=m:=Option.some.inj ((List.getElem?_eq_getElem hlt).symm.trans hi)
 have e:ms=ms.take i++m::ms.drop (i+1):=by
  have:ms.drop i=m::ms.drop (i+1):=by rw [List.drop_eq_getElem_cons hlt,hmi]
  rw [←this,List.take_append_drop]
 have hm':=of_decide_eq_true hm
 have hne:∀j (hj:j<ms.length),j≠i→isP pr ad po ms[j]=false:=fun j hj hji=>by
  unfold isP
  rw [decide_eq_false_iff_not]
  rintro ⟨e1,e2,e3⟩
  rcases Nat.lt_or_gt_of_ne hji with hlt'|hgt
  ·have hc:=List.pairwise_iff_getElem.1 h.pw j i hj hlt hlt'
   unfold wP at hc
   rw [decide_eq_false_iff_not,hmi] at hc
   exact hc (.inr ⟨by rw [e1,hm'.1],.inr ⟨by rw [e2,hm'.2.1],by rw [e3,hm'.2.2]⟩⟩)
  ·have hc:=List.pairwise_iff_getElem.1 h.pw i j hlt hj hgt
   unfold wP at hc
   rw [decide_eq_false_iff_not,hmi] at hc
   exact hc (.inr ⟨by rw [e1,hm'.1],.inr ⟨by rw [e2,hm'.2.1],by rw [e3,hm'.2.2]⟩⟩)
 have q1:(ms.take i).filter (fun m=>!isP pr ad po m)=ms.take i:=List.filter_eq_self.2 fun y hy=>by
  obtain ⟨j,hj,rfl⟩:=List.mem_take_iff_getElem.1 hy
  rw [hne j (by omega) (by omega)]
  rfl
 have q2:(ms.drop (i+1)).filter (fun m=>!isP pr ad po m)=ms.drop (i+1):=List.filter_eq_self.2 fun y hy=>by
  obtain ⟨j,hj,rfl⟩:=List.mem_iff_getElem.1 hy
  rw [List.length_drop] at hj
  rw [List.getElem_drop,hne (i+1+j) (by omega) (by omega)]
  rfl
 unfold zu
 rw [e,List.filter_append,List.filter_cons]
 rw [←e]
 rw [q1,q2,hm]
 rfl
theorem Zt {pr ad po:Int} {ms:List Mp} (h:∀m∈ms,isP pr ad po m=false):zu pr ad po ms=ms:=List.filter_eq_self.2 fun m hm=>by rw [h m hm];rfl
end Go.Proofs.YtmibknbmhcnemaaGreatDoor.A
