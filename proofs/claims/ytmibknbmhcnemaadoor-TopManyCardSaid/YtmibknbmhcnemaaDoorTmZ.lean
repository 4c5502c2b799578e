import Derived.Test.YtmibknbmhcnemaaDoorTm46
import Derived.Test.YtmibknbmhcnemaaDoorTm48
set_option linter.unusedVariables false
set_option linter.unusedSimpArgs false
namespace Go.Proofs.YtmibknbmhcnemaaDoor
attribute [local irreducible] zz Go
set_option maxRecDepth 100000
abbrev enO (x:Int):List DV:=[.v (.int .i64 x)]
theorem bT (g:Nat) (l:List Int):yL g (l.map enO):=zj (fun x=>by simp [nfL,nfD])
set_option maxHeartbeats 1000000 in
theorem ZX (l:List Int) (len:Nat) (fu:Bool) (x:Int) (hl:len≤l.length) (hm:l.length≤maxLen) (n:Nat) (hx:∀(i:Nat) (y:Int),i<len→l[i]?=some y→¬x=y):zy Tryd.prog 22 [.sl 0 n 1 0 len fu,.v (.int .i64 x)] [some ⟨n,1,l.map enO⟩] (fun d H=>d=.v (.int .i64 (-1))∧H=[some ⟨n,1,l.map enO⟩]):=by
 unfold maxLen at hm
 refine zv {} 0 Tryd.func22 fun Γ hN0 hL0=>auC ?_
 have hn:n<Γ.g0:=hN0 0 _ rfl
 repeat' first|refine auS ?_|fail|refine auD ?_|(refine auW ?_ ?_<;>intro h<;>try exact auH)|fail
 refine zE (α:=Nat) (fun k=>[(⟨.d0,.d1,.d0⟩,.v (.int .i64 (k:Nat)))]) (fun _=>[]) (fun _=>Γ.g0) (fun k=>len-k) (fun k=>k≤len) 0 (Nat.zero_le _) ?_ ?_
 ·skip
  refine zt ?_ ?_ (Nat.le_refl _)
  all_goals first|refine auE ?_|exact zR
  all_goals repeat' first|exact trivial|exact rfl|apply And.intro
 ·rintro k hk
  refine auL ?_
  by_cases hlt:k<len
  ·obtain ⟨t,ht⟩:∃t,l[k]?=some t:=⟨_,List.getElem?_eq_getElem (by omega)⟩
   have ex:=ye enO l k t ht
   have hne:=hx k t hlt ht
   have hkl:k<(l.map enO).length:=by rw [List.length_map];omega
   repeat' first|refine auS ?_|fail|refine auD ?_|(refine auW ?_ ?_<;>intro h<;>try exact auH)|(first|simp only [Int.toNat_natCast,ex,Nat.zero_add]|(refine za ⟨by simpa using hkl,by trivial⟩ ?_)|(refine za ⟨by trivial,by trivial,by trivial,by (rw [List.length_map];omega),by trivial⟩ ?_)|fail)
   all_goals try exact auP
   all_goals try (exfalso;simp_all;done)
   refine zp ⟨k+1,Nat.succ_le_of_lt hlt,Nat.sub_lt_sub_left hlt (Nat.lt_succ_self k),?_⟩
   refine zt ?_ ?_ (Nat.le_refl _)
   all_goals first|refine auE ?_|exact zR
   all_goals repeat' first|exact trivial|exact rfl|apply And.intro
   exact y8 ((IntWalk.i64_in _ (by omega)).trans (by omega))
  ·skip
   repeat' first|refine auS ?_|fail|refine auD ?_|(refine auW ?_ ?_<;>intro h<;>try exact auH)|fail
   all_goals try exact auP
   exact yI trivial trivial rfl rfl hn (bT _ _) rfl
theorem fP (l:List Int) (len:Nat) (fu:Bool) (x:Int) (hl:len≤l.length) (hm:l.length≤maxLen) (n:Nat) (hx:∀(i:Nat) (y:Int),i<len→l[i]?=some y→¬x=y):zy Tryd.prog 10 [.sl 0 n 1 0 len fu,.v (.int .i64 x)] [some ⟨n,1,l.map enO⟩] (fun d H=>d=.v (.bool false)∧H=[some ⟨n,1,l.map enO⟩]):=by
 have h:=ZX l len fu x hl hm n hx
 refine zv {} 0 Tryd.func10 fun Γ hN0 hL0=>auC ?_
 have hn:n<Γ.g0:=hN0 0 _ rfl
 repeat' first|refine auS ?_|(refine zg [0] (by decide) rfl rfl h ?_)|refine auD ?_|(refine auW ?_ ?_<;>intro h<;>try exact auH)|fail
 all_goals try exact auP
 exact yI trivial trivial rfl rfl hn (bT _ _) rfl
theorem kY (k:Nat) (l:List Int) (len:Nat) (fu:Bool) (x:Int) (hl:len≤l.length) (hm:l.length≤maxLen) (n:Nat) (hx:∀(i:Nat) (y:Int),i<len→l[i]?=some y→¬x=y):zy Tryd.prog 10 [.sl k n 1 0 len fu,.v (.int .i64 x)] [some ⟨n,1,l.map enO⟩] (fun d H=>d=.v (.bool false)∧H=[some ⟨n,1,l.map enO⟩]):=
 zL k (fP l len fu x hl hm n hx)
end Go.Proofs.YtmibknbmhcnemaaDoor
namespace Go.Proofs.YtmibknbmhcnemaaDoor
attribute [local irreducible] zz Go
set_option maxRecDepth 100000
open Go.ChangeShapes Go.WideShapes Go.ChangeAt Go.RowKit
def vC:List Sh:=[.int .i64,.int .i64,.int .i64,.slice 8 1 (.int .i64)]
theorem cF (n:Nat):vM [DV.v (.int .i64 0)] n=(v_ [] n).map enO:=by
 unfold v_
 simp only [List.map_nil,List.nil_append,List.length_nil,Nat.sub_zero]
 induction n with
 |zero=>rfl
 |succ n ih=>rw [List.replicate_succ,List.map_cons,←ih];rfl
theorem dk (l:List Int) (k:Nat) (x:Int):vU (l.map enO) k (enO x)=(l.set k x).map enO:=by
 rw [s8,List.map_set]
set_option maxHeartbeats 4000000 in
theorem bP (n port to:Int) (ord:List Int) (hb:¬((1≤n∧n≤64)∧(0≤port∧port≤65535)∧(0≤to∧to≤65535))):zf Tryd.prog 3 [.v (.int .i64 n),.v (.int .i64 port),.v (.int .i64 to),.snap 1 (ord.map enO) false] (.v (.bool true)):=by
 have h1:=pU
 refine z4 {} 0 Tryd.func3 fun Γ hW=>auC ?_
 repeat' first|refine auS ?_|(with_reducible refine z0 h1 ?_)|refine auD ?_|(refine auW ?_ ?_<;>intro h<;>try exact auH)|fail
 all_goals try exact auP
 all_goals try (exfalso;simp_all;done)
 all_goals try (exfalso;simp_all;omega)
 all_goals refine auV ?_
 all_goals try exact z_
 all_goals try simp only [hsM] at *
set_option maxHeartbeats 8000000 in
theorem a_ (n:Nat) (port to:Int) (ord:List Int) (hl:ord.length≤maxLen) (hn:1≤n∧n≤64) (hp:0≤port∧port≤65535) (ht:0≤to∧to≤65535):zf Tryd.prog 3 [.v (.int .i64 (n:Nat)),.v (.int .i64 port),.v (.int .i64 to),.snap 1 (ord.map enO) false] (.v (.bool true)):=by
 have h1:=pU
 have h2:=sq
 have h3:=kQ plO ln (by unfold y7 maxLen;decide)
 rw [lN,aC] at h3
 have hrep:=cF n
 unfold maxLen at hl
 refine z4 {} 0 Tryd.func3 fun Γ hW=>auC ?_
 repeat' first|refine auS ?_|(first|(with_reducible refine z0 h1 ?_)|(with_reducible refine z0 h2 ?_)|(with_reducible refine z0 h3 ?_))|refine auD ?_|(refine auW ?_ ?_<;>intro h<;>try exact auH)|(first|(refine za ⟨by omega,by omega,by unfold y7 maxLen;simp;omega⟩ ?_)|fail)
 all_goals try exact auP
 all_goals try (exfalso;simp_all;done)
 all_goals try (exfalso;simp_all;omega)
 refine zE (α:=Nat×List A.Mp×Nat) (fun x=>[(⟨.d1,.d0,.d2⟩,.v (.int .i64 (x.1:Nat)))]) (fun x=>[(0,some ⟨Γ.g0,16,[(yW x.2.1 (yJ x.1)).row (msD (yJ x.1))]⟩),(1,some ⟨Γ.g0+1,1,(v_ x.2.1 n).map enO⟩),(2,none),(3,none)]) (fun x=>x.2.2) (fun x=>n-x.1) (fun x=>x.1≤n∧MI port x.1 x.2.1∧Γ.g0+2≤x.2.2) (0,[],Γ.g0+2) ⟨Nat.zero_le _,MI.nil hp,Nat.le_refl _⟩ ?_ ?_
 ·skip
  refine zt ?_ ?_ (Nat.le_refl _)
  all_goals first|refine auE ?_|exact zR
  all_goals repeat' first|exact trivial|exact rfl|apply And.intro
  rw [Int.toNat_natCast,hrep]
 rintro ⟨k,ms,g⟩ ⟨hk,hM,hg⟩
 dsimp only at hk hM hg ⊢
 refine auL ?_
 by_cases hlt:k<n
 ·obtain ⟨s,o,st⟩:=a9 ht hM (by omega)
  have hol:=mj (n:=n) (show ms.length≤n by rw [hM.len];exact hk)
  have hgl:=tw port to [113] (100+(k:Int)) 7 (by omega) (by decide) (by decide)
  rw [st.l] at hgl
  have hgh:=uD (yW ms (yJ k)) (bU hM (by rw [vI];omega)) true s (by rw [st.ls];decide) (k:Int)
  rw [st.h] at hgh
  have hge:=uB o (by rw [st.lo];decide)
  rw [st.e] at hge
  have hgc:=fun q m=>kY q (v_ ms n) k false (xW ms port) (by omega) (by unfold maxLen;omega) m (fun i y hi hy e=>by
   obtain ⟨z,hz⟩:∃z,ms[i]?=some z:=⟨_,List.getElem?_eq_getElem (by rw [hM.len];exact hi)⟩
   rw [kX hz] at hy
   exact st.n z (List.mem_of_getElem? hz) ((Option.some.inj hy).trans e.symm))
  have w1:IntKind.i64.wrap (100+((k:Nat):Int))=100+(k:Int):=IntWalk.i64_in _ (by omega)
  have w2:IntKind.u32.wrap (100+((k:Nat):Int))=100+(k:Int):=IntWalk.u32_in _ (by omega)
  have hso:vU ((v_ ms n).map enO) k [.v (.int .i64 (xW ms port))]=(v_ (dZ ms k port) n).map enO:=by
   rw [dk]
   conv=>lhs;rw [←hM.len]
   rw [fU (by rw [hM.len];exact hlt) ⟨17,100+(k:Int),port,xW ms port,(k:Int)⟩]
  obtain ⟨yo,hyo⟩:∃y,(v_ ms n)[k]?=some y:=⟨_,List.getElem?_eq_getElem (by omega)⟩
  have hxg:=ye enO (v_ ms n) k yo hyo
  have hm2:=st.m
  clear st
  change zf _ _ [.agg [.v (.int .i64 port),.v (.int .i64 to),.v (.string ⟨#[113]⟩)],.v (.int .u32 (100+(k:Int))),.v (.int .u32 7)] _ at hgl
  generalize hv:yW (dZ ms k port) (yJ (k+1))=v at *
  generalize hu:yW ms (yJ k)=u at *
  dsimp only [gv] at hgh hge hgl
  have hum:u.ms=yJ k:=by rw [←hu]
  rw [←hum]
  repeat' first|refine auS ?_|(first|(simp only [w1,w2])|(with_reducible refine z0 hgl ?_)|(with_reducible refine z0 hgh ?_)|(with_reducible refine z0 hge ?_)|(refine zg [1] (by decide) rfl rfl (hgc _ _) ?_))|refine auD ?_|(refine auW ?_ ?_<;>intro h<;>try exact auH)|(first|(simp only [Int.toNat_natCast,Nat.zero_add,hso])|(refine za ⟨by trivial,by trivial,by trivial,by trivial,by omega⟩ ?_)|(refine za ⟨by trivial,by (simp only [List.length_map];omega)⟩ ?_)|(refine za ⟨by (simp only [List.length_map];omega),by trivial⟩ ?_)|fail)
  all_goals try exact auP
  all_goals try (exfalso;simp_all;done)
  all_goals try (exfalso;simp_all;omega)
  have hvm:v.ms=yJ (k+1):=by rw [←hv]
  refine zp ⟨(k+1,dZ ms k port,g+2),⟨hlt,hm2,Nat.le_add_right_of_le hg⟩,Nat.sub_lt_sub_left hlt (Nat.lt_succ_self k),?_⟩
  dsimp only
  rw [hv,←hvm]
  refine zt ?_ ?_ (Nat.le_refl _)
  all_goals first|refine auE ?_|exact zR
  all_goals repeat' first|exact trivial|exact rfl|apply And.intro
  all_goals first
   |exact y8 ((IntWalk.i64_in _ (by omega)).trans (by omega))
   |(rw [hxg];exact congrArg (fun q=>some (⟨Γ.g0+1,1,q⟩:zc)) hso)
 ·obtain rfl:k=n:=by omega
  clear h1 h2 h3 hlt hk hrep
  repeat' first|refine auS ?_|fail|refine auD ?_|(refine auW ?_ ?_<;>intro h<;>try exact auH)|fail
  all_goals try exact auP
  refine zE (α:=Nat×List Mt×Nat) (fun x=>[(⟨.d1,.d7,.d0⟩,.v (.int .i64 (x.1:Nat)))]) (fun x=>[(0,some ⟨Γ.g0,16,[(yW ms x.2.1).row (msD x.2.1)]⟩),(4,none),(5,none)]) (fun x=>x.2.2) (fun x=>ord.length-x.1) (fun x=>x.1≤ord.length∧PM k (min x.1 51) x.2.1∧Γ.g0+2≤x.2.2) (0,yJ k,g) ⟨Nat.zero_le _,.inl rfl,hg⟩ ?_ ?_
  ·skip
   refine zt ?_ ?_ (Nat.le_refl _)
   all_goals first|refine auE ?_|exact zR
   all_goals repeat' first|exact trivial|exact rfl|apply And.intro
  rintro ⟨i,M,g2⟩ ⟨hi,hP,hg2⟩
  dsimp only at hi hP hg2 ⊢
  refine auL ?_
  by_cases hlt:i<ord.length
  ·obtain ⟨t,hto⟩:∃t,ord[i]?=some t:=⟨_,List.getElem?_eq_getElem hlt⟩
   have ex:=ye enO ord i t hto
   by_cases hq:(0≤t∧t<k)∧i≤50
   ·obtain ⟨q,rfl⟩:=Int.eq_ofNat_of_zero_le hq.1.1
    have hqk:q<k:=by omega
    obtain ⟨m,hm⟩:∃m,ms[q]?=some m:=⟨_,List.getElem?_eq_getElem (by rw [hM.len];exact hqk)⟩
    rw [Nat.min_eq_left (by omega)] at hP
    obtain ⟨M',s,o,st⟩:=az ht hM hm hP (by omega)
    have hmo:=(hM.at' q m hm).2
    have eo:=ye enO (v_ ms k) q m.ou (kX hm)
    have hol:=mj (n:=k) (show ms.length≤k by rw [hM.len];exact Nat.le_refl _)
    have hgl:=tw to m.ou [97] 7 3325256705 (by decide) (by decide) (by decide)
    rw [st.l] at hgl
    have hgh:=uD (yW ms M) (bU hM (hP.ok hM.k64 (by omega)).len) false s (by rw [st.ls];decide) (k:Int)
    rw [st.h] at hgh
    have hge:=uB o (by rw [st.lo];decide)
    rw [st.e] at hge
    have w1:IntKind.i64.wrap (100+((q:Nat):Int))=100+(q:Int):=IntWalk.i64_in _ (by omega)
    have w2:IntKind.u32.wrap (100+((q:Nat):Int))=100+(q:Int):=IntWalk.u32_in _ (by omega)
    have hp2:=st.p
    clear st
    change zf _ _ [.agg [.v (.int .i64 to),.v (.int .i64 m.ou),.v (.string ⟨#[97]⟩)],.v (.int .u32 7),.v (.int .u32 3325256705)] _ at hgl
    generalize hv:yW ms M'=v at *
    generalize hu:yW ms M=u at *
    dsimp only [gv] at hgh hge hgl
    have hum:u.ms=M:=by rw [←hu]
    rw [←hum]
    repeat' first|refine auS ?_|(first|(simp only [w1,w2])|(with_reducible refine z0 hgl ?_)|(with_reducible refine z0 hgh ?_)|(with_reducible refine z0 hge ?_))|refine auD ?_|(refine auW ?_ ?_<;>intro h<;>try exact auH)|(first|(simp only [Int.toNat_natCast,Nat.zero_add,ex,eo])|(refine za ⟨by (simp only [List.length_map];omega),by trivial⟩ ?_)|fail)
    all_goals try exact auP
    all_goals try (exfalso;simp_all;done)
    all_goals try (exfalso;simp_all;omega)
    have hvm:v.ms=M':=by rw [←hv]
    refine zp ⟨(i+1,M',g2+2),⟨hlt,by rw [Nat.min_eq_left (by omega)];exact hp2,Nat.le_add_right_of_le hg2⟩,Nat.sub_lt_sub_left hlt (Nat.lt_succ_self i),?_⟩
    dsimp only
    rw [hv,←hvm]
    refine zt ?_ ?_ (Nat.le_refl _)
    all_goals first|refine auE ?_|exact zR
    all_goals repeat' first|exact trivial|exact rfl|apply And.intro
    all_goals exact y8 ((IntWalk.i64_in _ (by omega)).trans (by omega))
   ·skip
    repeat' first|refine auS ?_|fail|refine auD ?_|(refine auW ?_ ?_<;>intro h<;>try exact auH)|(simp only [Int.toNat_natCast,Nat.zero_add,ex])
    all_goals try exact auP
    all_goals try (exfalso;simp_all;done)
    all_goals try (exfalso;simp_all;omega)
    all_goals
     refine zp ⟨(i+1,M,g2),⟨hlt,hP.mono (by omega),hg2⟩,Nat.sub_lt_sub_left hlt (Nat.lt_succ_self i),?_⟩
     refine zt ?_ ?_ (Nat.le_refl _)
     all_goals first|refine auE ?_|exact zR
     all_goals repeat' first|exact trivial|exact rfl|apply And.intro
     all_goals exact y8 ((IntWalk.i64_in _ (by omega)).trans (by omega))
  ·obtain rfl:i=ord.length:=by omega
   repeat' first|refine auS ?_|fail|refine auD ?_|(refine auW ?_ ?_<;>intro h<;>try exact auH)|fail
   all_goals try exact auP
   all_goals refine auV ?_
   all_goals try exact z_
   all_goals try simp only [hsM] at *
theorem bg (n port to:Int) (ord:List Int) (hl:ord.length≤maxLen):zf Tryd.prog 3 [.v (.int .i64 n),.v (.int .i64 port),.v (.int .i64 to),.snap 1 (ord.map enO) false] (.v (.bool true)):=by
 by_cases hb:(1≤n∧n≤64)∧(0≤port∧port≤65535)∧(0≤to∧to≤65535)
 ·obtain ⟨m,rfl⟩:=Int.eq_ofNat_of_zero_le (show 0≤n by omega)
  exact a_ m port to ord hl (by omega) hb.2.1 hb.2.2
 ·exact bP n port to ord hb
theorem jJ (n port to:Int) (ord:List Int) (u:Unit):ry vC (n,port,to,ord,u)=[.v (.int .i64 n),.v (.int .i64 port),.v (.int .i64 to),.snap 1 (ord.map enO) false]:=rfl
theorem lI (W:World) (args:Array Value) (hL:laidMetH Tryd.prog Rows.topManyRow.laid W) (hsh:W.ShapedOpen Tryd.prog) (h:qw W W.heap.size vC args.toList) :
  Calls Tryd.prog 3 args W fun e W'=>e=.returned (.bool true)∧Below W.heap.size W W':=by
 refine bZ rfl h (fun x hx=>?_) (fM (List.mem_of_getElem? (i:=0) rfl) (fun h=>by rw [MakeChecks.laidMetH_plain _ _ _ (by kernel_rfl)] at h;exact h) hL)
 obtain ⟨n,port,to,ord,u⟩:=x
 obtain ⟨-,-,-,⟨-,hl,-⟩,-⟩:=hx
 exact Eq.mpr (congrArg (fun l=>zf Tryd.prog 3 l (.v (.bool true))) (jJ n port to ord u)) (bg n port to ord hl)
theorem jN:ownKnob Tryd.prog.godebug=none:=by kernel_rfl
theorem iL:(List.range vC.length).all (fun i=>match vC[i]?,Tryd.f3.params.toList[i]? with|some s,some t=>s.fit Tryd.prog none t|_,_=>false)=true:=by kernel_rfl
theorem kJ:laidOutB Tryd.prog=true:=by kernel_rfl
theorem j3:Tryd.f3.params.toList.all (fun t=>Tryd.prog.readableRec t&&decide (t<Tryd.prog.types.size))=true:=by kernel_rfl
theorem jO (os:Os) (args:Array Value):laidMetH Tryd.prog Rows.topManyRow.laid ((World.laidAll Tryd.prog os Rows.topManyRow.laid).forCall (fun _ _=>0) ⟨#[],args,[]⟩).memory:=
 (MakeChecks.laidMetH_plain _ _ _ (by kernel_rfl)).mpr (laidMet_laidAll _ (by kernel_rfl) (by kernel_rfl))
theorem nD (os:Os) (started:os.Started) (H:Type) (enc:TypeId×Value→H) :
  ReturnsInHanded {} Tryd.checked os 3 .any (fun w args=>(Rows.topManySpec.pre enc Tryd.prog Tryd.f3 [] false w args∧laidMetH Tryd.prog Rows.topManyRow.laid w)∧sizedMet enc Tryd.prog Tryd.f3 (OpenSpec.ofChange Rows.topManySpec) false w args) (Rows.topManySpec.post enc Tryd.prog Tryd.f3 false true false false):=
 qj (C:=Tryd.checked) (enc:=enc) jN started (by kernel_rfl) Tryd.func3
  (ChangeSpec.witness_shaped (enc:=enc) (C:=Tryd.checked) (os:=os) (X:=fun w _=>laidMetH Tryd.prog Rows.topManyRow.laid w) false (World.laidAll Tryd.prog os Rows.topManyRow.laid) #[.int .i64 0,.int .i64 0,.int .i64 0,.slice none 0 0] 8 rfl (World.shaped_of_ZipB (by kernel_rfl) (by kernel_rfl)) (by kernel_rfl) (by kernel_rfl) (by kernel_rfl) (jO os _))
  vC (by kernel_rfl) iL rfl (fun ds h=>by
   match ds,h with
   |[d0,d1,d2,d3],_=>exact ⟨rfl,rfl,rfl⟩) 4 (by kernel_rfl) Tryd.underlying4 kJ j3 lI
theorem lZ:Rows.topManyRow.holds Tryd.pinned (OpenSpec.ofChange Rows.topManySpec):=
 OpenClaim.holds_of_wide 3 Tryd.f3 rfl rfl rfl rfl rfl rfl rfl ⟨rfl,rfl,rfl,rfl,rfl⟩ rfl rfl rfl rfl rfl (by kernel_rfl) Tryd.func3 (by kernel_rfl)
  (of_decide_eq_true (by kernel_rfl)) (by unfold Func.isWrapper;rw [if_neg (of_decide_eq_false (by kernel_rfl))];exact ⟨rfl,rfl⟩)
  (fun os started H enc _=>nD os started H enc)
theorem provedTopMany:Rows.TopManyCardSaid:=
 Claim7.holds_tied_plain_at .later [] [.data] true (true, "4737ed9c6dba41dd2fc96df98e943c2872c4e1f214f46fa247b361bcf9b94c3f") false
  lZ (fun _ h=>by cases h) (by kernel_rfl) (fun _ h=>by cases h) topMany_row_tie rfl ⟨rfl,rfl⟩ (by kernel_rfl) rfl
  (fun f fn hf hfn=>by
   obtain rfl:f=3:=Option.some.inj ((show Tryd.prog.funcNamed Rows.topManyRow.func=some 3 by kernel_rfl).symm.trans hf) |>.symm
   obtain rfl:fn=Tryd.f3:=(Option.some.inj (Tryd.func3.symm.trans hfn)).symm
   exact ⟨by kernel_rfl,fun j t ht=>by
    have hall:(Tryd.f3.params.toList.all fun u=>!Tryd.prog.wantsStandIn u)=true:=by kernel_rfl
    have hm:t∈Tryd.f3.params.toList:=by simpa using Array.mem_of_getElem? ht
    exact (show Tryd.prog.wantsStandIn t=false by simpa using List.all_eq_true.1 hall t hm)⟩)
  (by kernel_rfl)
#print axioms provedTopMany
end Go.Proofs.YtmibknbmhcnemaaDoor
