import Derived.Lib.ItoaMem
import Derived.BigCall
import Derived.BigGuard
import Derived.Test.YtaiileiodjicpaaGreatDoorTt42
import Derived.Lib.ParseIntBCases
import Derived.Test.YtaiileiodjicpaaGreatDoorTt36
import Derived.Test.YtaiileiodjicpaaGreatDoorTt15
set_option linter.unusedVariables false
set_option linter.unusedSimpArgs false
namespace Go.Proofs.YtaiileiodjicpaaGreatDoor.R
attribute [local irreducible] zF Go
set_option maxRecDepth 100000
theorem bU (c:UInt8) (l:W8) (hl:l.length≤1048576):zi Tryz.prog 156 [.v (.string (mkS l)),.v (.string (mkS [c]))] (.tup [.v (.string (mkS (xX c l).1)),.v (.string (mkS (xX c l).2.1)),.v (.bool (xX c l).2.2)]):=by
 have hi:=oz c l
 have hge:=Lib.indexByte_ge l c
 have e1:(mkS [c]).size=1:=rfl
 have e2:(ByteArray.mk #[]:ByteArray)=mkS []:=rfl
 by_cases hm:Lib.indexByte l c = -1
 ·have hc:=j5 hm
  rw [hm] at hi
  rw [hc]
  refine z7 {} 0 Tryz.func156 fun Γ hW=>auC ?_
  repeat' first|refine auS ?_|(first|(with_reducible refine z6 hi ?_))|refine auD ?_|(refine auW ?_ ?_<;>intro h<;>try exact auH)|fail
  all_goals try exact auP
  all_goals refine auV ?_
  all_goals try exact zc
  all_goals try simp only [hsM] at *
  all_goals rfl
 ·obtain ⟨i,h0⟩:∃i:Nat,Lib.indexByte l c=(i:Int):=⟨(Lib.indexByte l c).toNat,by omega⟩
  obtain ⟨hc,hlt⟩:=iX h0
  rw [h0] at hi
  rw [hc]
  have w1:IntKind.i64.wrap ((i:Int)+1)=((i+1:Nat):Int):=by rw [IntWalk.i64_in _ (by omega)];omega
  have w2:IntKind.i64.wrap ((i:Int)+((1:Nat):Int))=((i+1:Nat):Int):=w1
  have ea:(mkS l).extract 0 i=mkS (l.take i):=by rw [yW];simp
  have eb:(mkS l).extract (i+1) l.length=mkS (l.drop (i+1)):=by rw [yW,List.take_of_length_le (by simp)]
  have hz:(mkS l).size=l.length:=za l
  refine z7 {} 0 Tryz.func156 fun Γ hW=>auC ?_
  repeat' first|refine auS ?_|(first|(simp only [e1,hz,w1,w2,ea,eb,Int.toNat_natCast])|(with_reducible refine z6 hi ?_))|refine auD ?_|(refine auW ?_ ?_<;>intro h<;>try exact auH)|(first|(simp only [w1,w2,ea,eb,Int.toNat_natCast])|fail)
  all_goals try exact auP
  all_goals refine auV ?_
  all_goals try exact zc
  all_goals try simp only [hsM] at *
  all_goals first
   |rfl
   |fail
theorem Z6 (c:UInt8) (l:W8) (hl:l.length≤1048576):zi Tryz.prog 119 [.v (.string (mkS l)),.v (.string (mkS [c]))] (.tup [.v (.string (mkS (xX c l).1)),.v (.string (mkS (xX c l).2.1)),.v (.bool (xX c l).2.2)]):=by
 have h:=bU c l hl
 generalize (xX c l).1=A at *
 generalize (xX c l).2.1=B at *
 generalize (xX c l).2.2=C at *
 refine z7 {} 0 Tryz.func119 fun Γ hW=>auC ?_
 repeat' first|refine auS ?_|(first|(with_reducible refine z6 h ?_))|refine auD ?_|(refine auW ?_ ?_<;>intro h<;>try exact auH)|fail
 all_goals try exact auP
 all_goals refine auV ?_
 all_goals try exact zc
 all_goals try simp only [hsM] at *
theorem mC {l:List W8} {k:Nat} {t:W8} (ht:l[k]?=some t):yo (zM (l.map mkS)) k=[.v (.string (mkS t))]:=by
 rw [yV,zM,List.map_map,List.getElem?_map,ht]
 rfl
theorem gC (H:List W8) (w:W8) (c:Bool) (hl:H.length≤maxLen):zi Tryz.prog 50 [.snap 1 (zM (H.map mkS)) c,.v (.string (mkS w))] (.v (.int .i64 (zk (fun y=>decide (w=y)) H 0))):=by
 unfold maxLen at hl
 have hrl:(zM (H.map mkS)).length=H.length:=by simp [zM]
 refine z7 {} 0 Tryz.func50 fun Γ hW=>auC ?_
 repeat' first|refine auS ?_|fail|refine auD ?_|(refine auW ?_ ?_<;>intro h<;>try exact auH)|(simp only [hrl])
 refine zw (α:=Nat) (fun k=>[(⟨.d0,.d1,.d0⟩,.v (.int .i64 (k:Nat)))]) (fun _=>[]) (fun _=>Γ.g0) (fun k=>H.length-k) (fun k=>k≤H.length∧zk (fun y=>decide (w=y)) H 0=zk (fun y=>decide (w=y)) (H.drop k) k) 0 ⟨Nat.zero_le _,rfl⟩ ?_ ?_
 ·skip
  refine zo ?_ ?_ (Nat.le_refl _)
  all_goals first|refine auE ?_|exact zK
  all_goals repeat' first|exact trivial|exact rfl|apply And.intro
 rintro k ⟨hk,hp⟩
 dsimp only at hk hp ⊢
 refine auL ?_
 by_cases hlt:k<H.length
 ·obtain ⟨t,ht⟩:∃t,H[k]?=some t:=⟨_,List.getElem?_eq_getElem hlt⟩
  have hx:=mC ht
  rw [List.drop_eq_getElem_cons hlt,show H[k]=t from Option.some.inj ((List.getElem?_eq_getElem hlt).symm.trans ht),zk] at hp
  by_cases hw:w=t
  ·subst hw
   rw [if_pos (decide_eq_true rfl)] at hp
   rw [hp]
   repeat' first|refine auS ?_|(first|(simp only [eq_self,decide_true]))|refine auD ?_|(refine auW ?_ ?_<;>intro h<;>try exact auH)|(simp only [Int.toNat_natCast,hx,hrl])
   all_goals try exact auP
   all_goals refine auV ?_
   all_goals try exact zc
   all_goals try simp only [hsM] at *
   all_goals first
    |rfl
    |fail
  ·have hw2:decide (mkS w=mkS t)=false:=decide_eq_false (fun q=>hw (zg.1 q))
   rw [if_neg (by simp [hw])] at hp
   repeat' first|refine auS ?_|(first|(simp only [hw2]))|refine auD ?_|(refine auW ?_ ?_<;>intro h<;>try exact auH)|(simp only [Int.toNat_natCast,hx,hrl])
   all_goals try exact auP
   refine zn ⟨k+1,⟨hlt,hp⟩,Nat.sub_lt_sub_left hlt (Nat.lt_succ_self k),?_⟩
   refine zo ?_ ?_ (Nat.le_refl _)
   all_goals first|refine auE ?_|exact zK
   all_goals repeat' first|exact trivial|exact rfl|apply And.intro
   all_goals exact yd ((IntWalk.i64_in _ (by omega)).trans (by omega))
 ·obtain rfl:k=H.length:=by omega
  rw [List.drop_length,zk] at hp
  rw [hp]
  repeat' first|refine auS ?_|fail|refine auD ?_|(refine auW ?_ ?_<;>intro h<;>try exact auH)|(simp only [hrl])
  all_goals try exact auP
  all_goals refine auV ?_
  all_goals try exact zc
  all_goals try simp only [hsM] at *
theorem nU (H:List W8) (w:W8) (c:Bool) (hl:H.length≤maxLen):zi Tryz.prog 26 [.snap 1 (zM (H.map mkS)) c,.v (.string (mkS w))] (.v (.bool (decide (w∈H)))):=by
 have h:=gC H w c hl
 have e:decide (0≤zk (fun y=>decide (w=y)) H 0)=decide (w∈H):=by
  rcases xl (fun y=>decide (w=y)) H 0 with ⟨h1,h2⟩|⟨i,t,h1,h2,h3,h4⟩
  ·rw [h1]
   have:w∉H:=fun q=>by have:=h2 w q;simp at this
   simp [this]
  ·rw [h4]
   have e2:w=t:=of_decide_eq_true h2
   have:=List.mem_of_getElem? h1
   rw [←e2] at this
   simp [this]
 rw [←e]
 generalize zk (fun y=>decide (w=y)) H 0=I at *
 refine z7 {} 0 Tryz.func26 fun Γ hW=>auC ?_
 repeat' first|refine auS ?_|(first|(with_reducible refine z6 h ?_))|refine auD ?_|(refine auW ?_ ?_<;>intro h<;>try exact auH)|fail
 all_goals try exact auP
 all_goals refine auV ?_
 all_goals try exact zc
 all_goals try simp only [hsM] at *
def Ub (w:W8):DV:=match Lib.parseUintB 64 w with
 |.ok n=>.tup [.v (.int .u64 (n:Nat)),.v .nilIface]
 |.range=>.tup [.v (.int .u64 18446744073709551615),.ifc]
 |_=>.tup [.v (.int .u64 0),.ifc]
theorem i6 (l:W8) (hl:l.length≤1048576):zi Tryz.prog 117 [.v (.string (mkS l)),.v (.int .i64 10),.v (.int .i64 64)] (Ub l):=by
 have hd:(mkS l).data.toList=l:=by simp [mkS]
 have hz:(mkS l).size=l.length:=za l
 refine xZ (by kernel_rfl) fun K w vs g0 hI ha=>?_
 obtain ⟨v1,v2,v3,rfl,r1,r2,r3⟩:=Vf ha
 cases r1
 cases r2
 cases r3
 unfold Ub
 have tup:∀ {w':World} (a:Value) (b:Value) (d:DV),ze (K.cut w) w' d b→ze (K.cut w) w' (.tup [.v a,d]) (.tuple #[a,b]):=fun a b d hd=>.tup rfl fun i x c hx hc=>by
  match i,hx,hc with
  |0,hx,hc=>
   obtain rfl:=Option.some.inj hx
   obtain rfl:=Option.some.inj hc
   exact .v _
  |1,hx,hc=>
   obtain rfl:=Option.some.inj hx
   obtain rfl:=Option.some.inj hc
   exact hd
  |i+2,hx,hc=>simp at hx
 cases hp:Lib.parseUintB 64 l with
 |ok n=>
  refine (Tryz.strconv_ParseUint_10_at64_ok (mkS l) (by omega) n (by rw [hd];exact hp) w).mono fun e w' ⟨he,hw⟩=>⟨_,he,?_,tup _ _ _ (.v _)⟩
  rcases hw with rfl|rfl
  ·exact Ext.refl _ _
  ·exact um _ _ _
 |range=>
  obtain ⟨ev,h1,h2⟩:=jw hI (g:=7) (by unfold qJ;simp)
  exact (Tryz.strconv_ParseUint_10_at64_range (mkS l) (by omega) (by rw [hd];exact hp) ev w h1 h2).mono fun e w' ⟨N,he,_,_,hb⟩=>⟨_,he,v_ hb,tup _ _ _ (.ifc _ _)⟩
 |_=>
  obtain ⟨ev,h1,h2⟩:=jw hI (g:=6) (by unfold qJ;simp)
  exact (Tryz.strconv_ParseUint_10_at64_syntax (mkS l) (by omega) (by rw [hd];exact hp) ev w h1 h2).mono fun e w' ⟨N,he,_,_,hb⟩=>⟨_,he,v_ hb,tup _ _ _ (.ifc _ _)⟩
end Go.Proofs.YtaiileiodjicpaaGreatDoor.R
namespace Go.Proofs.YtaiileiodjicpaaGreatDoor
open Go.RowKit Go.Sort Go.Lib
theorem VE (w:World) (T:TypeId) (nd:Nat) (hs:nd≤24):Holds (fun (b:UInt8)=>Value.int .u8 (b.toNat:Int)) (w.alloc (.cells zeros24 T)) w.heap.size 0 (Array.replicate nd (0:UInt8)):=fun j hj=>by
 have hj':j<nd:=by simpa using hj
 refine ⟨?_,World.frozen?_alloc_new _ _ _ _⟩
 rw [World.cell?_alloc_new,zeros24_at _ (by omega),getElem!_pos _ j hj]
 simp
theorem US (w:World) (o:Obj) (dk:Array UInt8) (k:Nat):∃os,(putRow (fun (b:UInt8)=>Value.int .u8 (b.toNat:Int)) (w.alloc o) w.heap.size 0 dk).drewN k=grow (w.drewN k) os:=by
 rw [alloc_eq_grow]
 obtain ⟨os',_,e⟩:=putRow_grow_new (fun (b:UInt8)=>Value.int .u8 (b.toNat:Int)) w #[o] w.heap.size 0 dk (Nat.le_refl _)
 exact ⟨os',by rw [e];rfl⟩
set_option maxHeartbeats 6400000 in
set_option maxRecDepth 100000 in
theorem UP (u:Nat) (hu64:u<18446744073709551616) (w:World) (htab:Lib.TabIs Tryz.prog w "internal/strconv.uint64pow10" .u64 Lib.pow10Tab) :
  Calls Tryz.prog 155 #[.int .u64 u,.int .i64 10] w fun e w'=>e=.returned (.string ⟨(Lib.decDigits u).toArray⟩)∧∃k os,w'=grow (w.drewN k) os:=by
 by_cases hs:u<100
 ·have hw:IntKind.i64.wrap ((u:Nat):Int)=(u:Int):=IntWalk.i64_in _ (by omega)
  go_enter Tryz.func155,Tryz.ntmps155
  go_wp2_with (go_at_call 85;refine (Any.internal_strconv_small { Tryz.laysM171 with } u hs _).mono ?_;rintro e w' ⟨rfl,rfl⟩)
  go_ret
  exact ⟨rfl,0,#[],by simp [World.drewN_zero]⟩
 ·have hu1:1≤u:=by omega
  have hnd20:Lib.nDigits u≤20:=by have:=Lib.numDigits_eq u hu1 hu64;split at this<;>omega
  have hb3:Lib.nDigits u≤24:=by omega
  have hal:Tryz.prog.arrayLen 166=24:=by kernel_rfl
  have hsl1:∀W,(Instr.sliceAt 166 (.pointer (some ⟨w.heap.size,0,none⟩)) none (some (.int .i64 (Lib.nDigits u:Int))) none).run Tryz.prog W=.ok (.slice (some ⟨w.heap.size,0,none⟩) (Lib.nDigits u) 24) W:=fun W=>by
   rw [run_sliceAt_array_h W 166 ⟨w.heap.size,0,none⟩ (by kernel_rfl) .i64 (Lib.nDigits u:Int) (by omega) (by rw [hal];omega)]
   go_simp
  have hH0:=VE w 166 (Lib.nDigits u) (by omega)
  have hfmt:=Any.internal_strconv_formatBase10 { Tryz.laysM171 with } w.heap.size 0 24 u (Array.replicate (Lib.nDigits u) 0) (w.alloc (.cells Lib.zeros24 166)) hH0 (by rw [Array.size_replicate];exact Lib.lt_pow_nDigits u) hu64 (by rw [Array.size_replicate];omega)
  rw [Array.size_replicate] at hfmt
  have HH0:=Lib.hid hH0
  clear hH0 hal
  go_enter Tryz.func155,Tryz.ntmps155
  go_wp2_with (go_at_call 86;refine (Any.internal_strconv_numDigits { Tryz.laysM171 with } u hu1 hu64 _ (Lib.tabIs_alloc htab _)).mono ?_;rintro e w' ⟨rfl,rfl⟩)
  go_at_call 87
  refine hfmt.mono ?_
  rintro e w' ⟨rfl,k,v',dk,rfl,hF⟩
  have hcv:(convert 56 9 (.slice (some ⟨w.heap.size,0,none⟩) (Lib.nDigits u) 24)).run Tryz.prog ((putRow (fun (b:UInt8)=>Value.int .u8 (b.toNat:Int)) (w.alloc (.cells Lib.zeros24 166)) w.heap.size 0 dk).drewN k)=.ok (.string ⟨(Lib.decDigits u).toArray⟩) ((putRow (fun (b:UInt8)=>Value.int .u8 (b.toNat:Int)) (w.alloc (.cells Lib.zeros24 166)) w.heap.size 0 dk).drewN k):=by
   have h:=run_convert_bytes_back (P:=Tryz.prog) ((putRow (fun (b:UInt8)=>Value.int .u8 (b.toNat:Int)) (w.alloc (.cells Lib.zeros24 166)) w.heap.size 0 dk).drewN k) 56 9 5 ⟨w.heap.size,0,none⟩ 24 (Lib.decDigits u) Tryz.underlying56 Tryz.underlying5 Tryz.underlying9 (fun j hj=>by
    rw [Lib.row_is_numeral hF j hj,Lib.add_plain,World.cell?_drewN]
    exact cell?_putRow (fun (b:UInt8)=>Value.int .u8 (b.toNat:Int)) _ w.heap.size 0 _ dk HH0.out (by rw [hF.size,Array.size_replicate]) j (by rw [hF.size];rw [Lib.decDigits_length] at hj;exact hj))
   rw [Lib.decDigits_length] at h
   exact h
  go_wp2
  go_ret
  obtain ⟨os,eo⟩:=US w (.cells Lib.zeros24 166) dk k
  exact ⟨rfl,k,os,eo⟩
theorem T0 (u:Nat) (hu64:u<18446744073709551616) (w:World) (htab:Lib.TabIs Tryz.prog w "internal/strconv.uint64pow10" .u64 Lib.pow10Tab) :
  Calls Tryz.prog 118 #[.int .u64 u,.int .i64 10] w fun e w'=>e=.returned (.string ⟨(Lib.decDigits u).toArray⟩)∧∃k os,w'=grow (w.drewN k) os:=by
 go_enter Tryz.func118,Tryz.ntmps118
 go_wp2_with (go_at_call 155;refine (UP u hu64 _ htab).mono ?_;rintro e w' ⟨rfl,k,os,rfl⟩)
 go_ret
 exact ⟨rfl,k,os,rfl⟩
theorem ph (u:Nat) (hu64:u<18446744073709551616):zi Tryz.prog 118 [.v (.int .u64 (u:Nat)),.v (.int .i64 10)] (.v (.string (mkS (Lib.decDigits u)))):=
 xZ (by kernel_rfl) fun K w vs g0 hI ha=>by
  obtain ⟨v1,v2,rfl,h1,h2⟩:=UG ha
  cases h1
  cases h2
  obtain ⟨-,-,q3⟩:=hI.glob (g:=1) (cs:=Lib.pow10Tab.map (Value.int .u64)) (by unfold qJ;simp)
  have htab:Lib.TabIs Tryz.prog w "internal/strconv.uint64pow10" .u64 Lib.pow10Tab:=sR (by kernel_rfl) (by decide) q3
  refine (T0 u hu64 w htab).mono fun e w' ⟨he,k,os,hw⟩=>⟨_,he,v_ (hw▸mf w k os),.v _⟩
end Go.Proofs.YtaiileiodjicpaaGreatDoor
namespace Go.Proofs.YtaiileiodjicpaaGreatDoor
end Go.Proofs.YtaiileiodjicpaaGreatDoor
namespace Go.Proofs.YtaiileiodjicpaaGreatDoor
end Go.Proofs.YtaiileiodjicpaaGreatDoor
namespace Go.Proofs.YtaiileiodjicpaaGreatDoor
attribute [local irreducible] zF Go
set_option maxRecDepth 100000
theorem cW (n:Int):IntKind.u32.wrap n=n % 4294967296:=rfl
def dNE (r:Nat×Int):DV:=.tup [.v (.int .u32 (r.1:Nat)),.v (.int .i64 r.2)]
theorem wq (c:UInt8):∀(l:List UInt8) (p:List UInt8),p∈spl c l→p.length≤l.length
 |[],p,h=>by
  simp [spl] at h
  subst h
  simp
 |b::l,p,h=>by
  by_cases hb:b=c
  ·subst hb
   rw [lx] at h
   rcases List.mem_cons.1 h with rfl|h
   ·simp
   ·have:=wq b l p h
    simp
    omega
  ·cases hq:spl c l with
   |nil=>exact absurd hq (pJ c l)
   |cons p0 ps=>
    rw [th hb hq] at h
    rcases List.mem_cons.1 h with rfl|h
    ·have:=wq c l p0 (by rw [hq];simp)
     simp
     omega
    ·have:=wq c l p (by rw [hq];simp [h])
     simp
     omega
theorem Yx {ps:List (List UInt8)} {i:Nat} {p:List UInt8} (hp:ps[i]?=some p):yo (zM (ps.map mkS)) i=[.v (.string (mkS p))]:=by
 rw [yV,zM,List.map_map,List.getElem?_map,hp]
 rfl
theorem iB:∀(ps:List (List UInt8)) (a b:Nat),a<4294967296→tc a ps=some b→b<4294967296
 |[],a,b,h,e=>by
  obtain rfl:=Option.some.inj e
  exact h
 |w::r,a,b,h,e=>by
  unfold tc at e
  split at e
  ·exact iB r _ b (Nat.mod_lt _ (by decide)) e
  ·cases e
set_option maxHeartbeats 2000000 in
theorem fH (l:List UInt8) (hl:l.length≤1048576):zi Tryz.prog 79 [.v (.string (mkS l))] (dNE (lM l)):=by
 have hs:zi Tryz.prog 24 [.v (.string (mkS l)),.v (.string (ByteArray.mk #[46]))] (.snap 1 (zM ((spl 46 l).map mkS)) false):=qi 46 l hl
 have hml:∀p∈spl 46 l,p.length≤1048576:=fun p hp=>Nat.le_trans (wq 46 l p hp) hl
 have hcount:=jD 46 l
 unfold lM
 generalize spl 46 l=ps at hs hml hcount ⊢
 have hrl:(zM (ps.map mkS)).length=ps.length:=by simp [zM]
 refine z7 {} 0 Tryz.func79 fun Γ hW=>auC ?_
 repeat' first|refine auS ?_|(first|(simp only [hrl])|(with_reducible refine z6 hs ?_))|refine auD ?_|(refine auW ?_ ?_<;>intro h<;>try exact auH)|fail
 all_goals try exact auP
 refine zw (α:=Nat×Nat) (fun x=>[(⟨.d0,.d0,.d4⟩,.v (.int .u32 (x.2:Nat))),(⟨.d0,.d1,.d6⟩,.v (.int .i64 (x.1:Nat)))]) (fun i=>[]) (fun _=>Γ.g0) (fun x=>ps.length-x.1) (fun x=>x.1≤ps.length∧x.2<4294967296∧tc 0 ps=tc x.2 (ps.drop x.1)) (0,0) ⟨Nat.zero_le _,by decide,rfl⟩ ?_ ?_
 ·skip
  refine zo ?_ ?_ (Nat.le_refl _)
  all_goals first|refine auE ?_|exact zK
  all_goals repeat' first|exact trivial|exact rfl|apply And.intro
 rintro ⟨i,a⟩ ⟨hi,ha,hf⟩
 dsimp only at hi ha hf ⊢
 refine auL ?_
 by_cases hlt:i<ps.length
 ·obtain ⟨p,hp⟩:∃p,ps[i]?=some p:=⟨_,List.getElem?_eq_getElem hlt⟩
  have hx:=Yx hp
  have hpm:p∈ps:=List.mem_of_getElem? hp
  have hr:=gy p (hml p hpm)
  rw [List.drop_eq_getElem_cons hlt,show ps[i]=p from Option.some.inj ((List.getElem?_eq_getElem hlt).symm.trans hp),tc] at hf
  have w1:IntKind.i64.wrap ((i:Int)+1)=((i+1:Nat):Int):=by rw [IntWalk.i64_in _ (by omega)];omega
  unfold pu8 at hr
  cases hq:Lib.parseUintB 8 p with
  |ok n=>
   rw [hq] at hr hf
   dsimp only at hr hf
   have hn:=Lib.parseUintB_le hq
   have hn2:n≤255:=hn
   have w2:IntKind.u32.wrap ((n:Nat):Int)=(n:Nat):=by rw [cW];omega
   have w3:bits .or .u32 (IntKind.u32.wrap ((a:Nat)*2 ^ min 8 IntKind.u32.bits)) (n:Nat)=(((a*256+n) % 4294967296:Nat):Int):=by
    have e:min 8 IntKind.u32.bits=8:=rfl
    rw [e,cW,qg 8 _ _ (by omega) (by omega) (by omega) (by omega) (by omega) (by omega)]
    omega
   repeat' first|refine auS ?_|(first|(simp only [hrl,hx,w1,w2,w3,Int.toNat_natCast])|(with_reducible refine z6 hr ?_))|refine auD ?_|(refine auW ?_ ?_<;>intro h<;>try exact auH)|fail
   all_goals try exact auP
   refine zn ⟨(i+1,(a*256+n) % 4294967296),⟨hlt,Nat.mod_lt _ (by decide),hf⟩,Nat.sub_lt_sub_left hlt (Nat.lt_succ_self i),?_⟩
   refine zo ?_ ?_ (Nat.le_refl _)
   all_goals first|refine auE ?_|exact zK
   all_goals repeat' first|exact trivial|exact rfl|apply And.intro
  |range=>
   rw [hq] at hr hf
   dsimp only at hr hf
   rw [hf]
   dsimp only
   repeat' first|refine auS ?_|(first|(simp only [hrl,hx,w1,Int.toNat_natCast])|(with_reducible refine z6 hr ?_))|refine auD ?_|(refine auW ?_ ?_<;>intro h<;>try exact auH)|fail
   all_goals try exact auP
   all_goals refine auV ?_
   all_goals try exact zc
   all_goals try simp only [hsM] at *
   all_goals rfl
  |_=>
   rw [hq] at hr hf
   dsimp only at hr hf
   rw [hf]
   dsimp only
   repeat' first|refine auS ?_|(first|(simp only [hrl,hx,w1,Int.toNat_natCast])|(with_reducible refine z6 hr ?_))|refine auD ?_|(refine auW ?_ ?_<;>intro h<;>try exact auH)|fail
   all_goals try exact auP
   all_goals refine auV ?_
   all_goals try exact zc
   all_goals try simp only [hsM] at *
   all_goals rfl
 ·obtain rfl:i=ps.length:=by omega
  rw [List.drop_length,tc] at hf
  rw [hf]
  dsimp only
  have hsh:=kB a ha
  by_cases he:xh a=l
  ·rw [if_pos he]
   rw [he] at hsh
   repeat' first|refine auS ?_|(first|(simp only [hrl])|(with_reducible refine z6 hsh ?_))|refine auD ?_|(refine auW ?_ ?_<;>intro h<;>try exact auH)|fail
   all_goals try exact auP
   all_goals refine auV ?_
   all_goals try exact zc
   all_goals try simp only [hsM] at *
   all_goals rfl
  ·rw [if_neg he]
   have he2:decide (mkS (xh a)=mkS l)=false:=decide_eq_false fun q=>he (zg.1 q)
   repeat' first|refine auS ?_|(first|(simp only [hrl,he2])|(with_reducible refine z6 hsh ?_))|refine auD ?_|(refine auW ?_ ?_<;>intro h<;>try exact auH)|fail
   all_goals try exact auP
   all_goals refine auV ?_
   all_goals try exact zc
   all_goals try simp only [hsM] at *
   all_goals rfl
end Go.Proofs.YtaiileiodjicpaaGreatDoor
namespace Go.Proofs.YtaiileiodjicpaaGreatDoor.R
attribute [local irreducible] zF Go
set_option maxRecDepth 100000
abbrev wO (n:Nat) (t:WS):zj:=⟨n,2,[[.snap 1 (zM (t.1.map mkS)) false,.v (.bool t.2)]]⟩
def xG (m:Nat) (t:WS):Prop:=∀w∈t.1,w.length≤m
theorem sB {m:Nat} {t:WS} (h:xG m t):(nx t).1.length≤m∧xG m (nx t).2:=by
 unfold nx
 split
 ·exact ⟨Nat.zero_le _,fun w hw=>by simp at hw⟩
 ·rename_i s r e
  exact ⟨h s (by simp [e]),fun w hw=>h w (by rw [e];exact List.mem_cons_of_mem _ hw)⟩
theorem tf (n:Nat) (t:WS):zE Tryz.prog 44 [.ptr 0 n 2 0 0] [some (wO n t)] (fun d H=>d=.v (.string (mkS (nx t).1))∧H=[some (wO n (nx t).2)]):=by
 obtain ⟨l,b⟩:=t
 cases l with
 |nil=>
  refine zp {} 0 Tryz.func44 fun Γ hN0 hL0=>auC ?_
  have hn:n<Γ.g0:=hN0 0 _ rfl
  dsimp only [wO,List.map,zM]
  repeat' first|refine auS ?_|fail|refine auD ?_|(refine auW ?_ ?_<;>intro h<;>try exact auH)|fail
  all_goals try exact auP
  exact zU trivial trivial rfl rfl hn ⟨⟨trivial,trivial,trivial⟩,trivial⟩ rfl
 |cons s r=>
  have e:zM ((s::r).map mkS)=[.v (.string (mkS s))]::zM (r.map mkS):=rfl
  have hnf:∀g,yA g (zM (r.map mkS)):=fun g=>zl (fun x=>by simp [nfL,nfD])
  show zE Tryz.prog _ [.ptr 0 n 2 0 0] [some ⟨n,2,[[.snap 1 (zM ((s::r).map mkS)) false,.v (.bool b)]]⟩] (fun d H=>d=.v (.string (mkS s))∧H=[some ⟨n,2,[[.snap 1 (zM (r.map mkS)) false,.v (.bool b)]]⟩])
  rw [e]
  generalize zM (r.map mkS)=X at *
  have hx:zN (zV X 0) (((X.length+1:Nat):Int)-1).toNat=X:=tH (by omega)
  refine zp {} 0 Tryz.func44 fun Γ hN0 hL0=>auC ?_
  have hn:n<Γ.g0:=hN0 0 _ rfl
  repeat' first|refine auS ?_|(first|(simp only [hx]))|refine auD ?_|(refine auW ?_ ?_<;>intro h<;>try exact auH)|fail
  all_goals try exact auP
  exact zU trivial trivial rfl rfl hn ⟨⟨hnf _,trivial,trivial⟩,trivial⟩ rfl
theorem xj (l:List W8) (g:Nat):yA g (zM (l.map mkS)):=zl (fun x=>by simp [nfL,nfD])
set_option maxHeartbeats 2000000 in
theorem tZ (n:Nat) (t:WS) (s:W8) (hs:s.length≤1048576):zE Tryz.prog 80 [.ptr 0 n 2 0 0,.v (.string (mkS s))] [some (wO n t)] (fun d H=>d=.v (.int .i64 (vl s t).1)∧H=[some (wO n (vl s t).2)]):=by
 obtain ⟨l,b⟩:=t
 have hnf:=xj l
 have hp:=i6 s hs
 unfold wO vl
 dsimp only
 generalize zM (l.map mkS)=X at *
 unfold Ub at hp
 cases hq:Lib.parseUintB 64 s with
 |ok u=>
  have hle:=Lib.parseUintB_le hq
  have hf:=ph u (by have e:(2:Nat) ^ 64-1=18446744073709551615:=(by decide);omega)
  have e1:vN s=IntKind.i64.wrap (u:Nat):=by unfold vN;rw [hq]
  have e2:vOk s=(decide (s.length≤10)&&decide (Lib.decDigits u=s)):=by unfold vOk;rw [hq]
  rw [hq] at hp
  dsimp only at hp
  rw [e1,e2]
  cases b with
  |true=>
   refine zp {} 0 Tryz.func80 fun Γ hN0 hL0=>auC ?_
   have hn:n<Γ.g0:=hN0 0 _ rfl
   repeat' first|refine auS ?_|(first|(simp only [za,eq_self])|(with_reducible refine z6 hp ?_)|(with_reducible refine z6 hf ?_))|refine auD ?_|(refine auW ?_ ?_<;>intro h<;>try exact auH)|fail
   all_goals try exact auP
   all_goals exact zU trivial trivial rfl rfl hn ⟨⟨hnf _,trivial,trivial⟩,trivial⟩ rfl
  |false=>
   by_cases h10:s.length≤10
   ·have h10':decide ((10:Int)<(s.length:Nat))=false:=decide_eq_false (by omega)
    by_cases hd:Lib.decDigits u=s
    ·have hd':decide (mkS (Lib.decDigits u)=mkS s)=true:=decide_eq_true (congrArg mkS hd)
     rw [decide_eq_true h10,decide_eq_true hd]
     refine zp {} 0 Tryz.func80 fun Γ hN0 hL0=>auC ?_
     have hn:n<Γ.g0:=hN0 0 _ rfl
     repeat' first|refine auS ?_|(first|(simp only [za,h10',hd'])|(with_reducible refine z6 hp ?_)|(with_reducible refine z6 hf ?_))|refine auD ?_|(refine auW ?_ ?_<;>intro h<;>try exact auH)|fail
     all_goals try exact auP
     all_goals exact zU trivial trivial rfl rfl hn ⟨⟨hnf _,trivial,trivial⟩,trivial⟩ rfl
    ·have hd':decide (mkS (Lib.decDigits u)=mkS s)=false:=decide_eq_false (fun q=>hd (zg.1 q))
     rw [decide_eq_true h10,decide_eq_false hd]
     refine zp {} 0 Tryz.func80 fun Γ hN0 hL0=>auC ?_
     have hn:n<Γ.g0:=hN0 0 _ rfl
     repeat' first|refine auS ?_|(first|(simp only [za,h10',hd'])|(with_reducible refine z6 hp ?_)|(with_reducible refine z6 hf ?_))|refine auD ?_|(refine auW ?_ ?_<;>intro h<;>try exact auH)|fail
     all_goals try exact auP
     all_goals exact zU trivial trivial rfl rfl hn ⟨⟨hnf _,trivial,trivial⟩,trivial⟩ rfl
   ·have h10':decide ((10:Int)<(s.length:Nat))=true:=decide_eq_true (by omega)
    rw [decide_eq_false h10,Bool.false_and]
    refine zp {} 0 Tryz.func80 fun Γ hN0 hL0=>auC ?_
    have hn:n<Γ.g0:=hN0 0 _ rfl
    repeat' first|refine auS ?_|(first|(simp only [za,h10'])|(with_reducible refine z6 hp ?_)|(with_reducible refine z6 hf ?_))|refine auD ?_|(refine auW ?_ ?_<;>intro h<;>try exact auH)|fail
    all_goals try exact auP
    all_goals exact zU trivial trivial rfl rfl hn ⟨⟨hnf _,trivial,trivial⟩,trivial⟩ rfl
 |range=>
  have e1:vN s = -1:=by unfold vN;rw [hq]
  have e2:vOk s=false:=by unfold vOk;rw [hq]
  have hf:=ph 0 (by decide)
  have w1:IntKind.i64.wrap 18446744073709551615 = -1:=by decide
  rw [hq] at hp
  dsimp only at hp
  rw [e1,e2]
  cases b with
  |true=>
   refine zp {} 0 Tryz.func80 fun Γ hN0 hL0=>auC ?_
   have hn:n<Γ.g0:=hN0 0 _ rfl
   repeat' first|refine auS ?_|(first|(simp only [za,w1])|(with_reducible refine z6 hp ?_)|(with_reducible refine z6 hf ?_))|refine auD ?_|(refine auW ?_ ?_<;>intro h<;>try exact auH)|fail
   all_goals try exact auP
   all_goals exact zU trivial trivial rfl rfl hn ⟨⟨hnf _,trivial,trivial⟩,trivial⟩ rfl
  |false=>
   refine zp {} 0 Tryz.func80 fun Γ hN0 hL0=>auC ?_
   have hn:n<Γ.g0:=hN0 0 _ rfl
   repeat' first|refine auS ?_|(first|(simp only [za,w1])|(with_reducible refine z6 hp ?_)|(with_reducible refine z6 hf ?_))|refine auD ?_|(refine auW ?_ ?_<;>intro h<;>try exact auH)|fail
   all_goals try exact auP
   all_goals exact zU trivial trivial rfl rfl hn ⟨⟨hnf _,trivial,trivial⟩,trivial⟩ rfl
 |_=>
  have e1:vN s=0:=by unfold vN;rw [hq]
  have e2:vOk s=false:=by unfold vOk;rw [hq]
  have hf:=ph 0 (by decide)
  have w1:IntKind.i64.wrap 0=0:=by decide
  rw [hq] at hp
  dsimp only at hp
  rw [e1,e2]
  cases b with
  |true=>
   refine zp {} 0 Tryz.func80 fun Γ hN0 hL0=>auC ?_
   have hn:n<Γ.g0:=hN0 0 _ rfl
   repeat' first|refine auS ?_|(first|(simp only [za,w1])|(with_reducible refine z6 hp ?_)|(with_reducible refine z6 hf ?_))|refine auD ?_|(refine auW ?_ ?_<;>intro h<;>try exact auH)|fail
   all_goals try exact auP
   all_goals exact zU trivial trivial rfl rfl hn ⟨⟨hnf _,trivial,trivial⟩,trivial⟩ rfl
  |false=>
   refine zp {} 0 Tryz.func80 fun Γ hN0 hL0=>auC ?_
   have hn:n<Γ.g0:=hN0 0 _ rfl
   repeat' first|refine auS ?_|(first|(simp only [za,w1])|(with_reducible refine z6 hp ?_)|(with_reducible refine z6 hf ?_))|refine auD ?_|(refine auW ?_ ?_<;>intro h<;>try exact auH)|fail
   all_goals try exact auP
   all_goals exact zU trivial trivial rfl rfl hn ⟨⟨hnf _,trivial,trivial⟩,trivial⟩ rfl
end Go.Proofs.YtaiileiodjicpaaGreatDoor.R
