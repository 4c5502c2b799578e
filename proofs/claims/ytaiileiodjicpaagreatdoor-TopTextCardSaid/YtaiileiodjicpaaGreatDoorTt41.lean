import Derived.Test.YtaiileiodjicpaaGreatDoorTt34
import Derived.Test.YtaiileiodjicpaaGreatDoorTt38
import Derived.Test.YtaiileiodjicpaaGreatDoorTt39
import Derived.Test.YtaiileiodjicpaaGreatDoorTt40
import Derived.Test.YtaiileiodjicpaaGreatDoorTt19
set_option linter.unusedVariables false
set_option linter.unusedSimpArgs false
namespace Go.Proofs.YtaiileiodjicpaaGreatDoor
attribute [local irreducible] zF Go
set_option maxRecDepth 100000
theorem fR (c:UInt8) (l:List UInt8):zi Tryz.prog 77 [.v (.string (mkS l)),.v (.string (mkS [c]))] (.v (.int .i64 (Lib.countByte l c:Nat))):=by
 have e1:(mkS l).data.toList=l:=by simp [mkS]
 have e2:(mkS [c]).size=1:=rfl
 have e3:nK (mkS [c]) 0=((c.toNat:Nat):Int):=rfl
 have e4:((c.toNat:Nat):Int).toNat.toUInt8=c:=UInt8.ofNat_toNat
 refine z7 {ext:=true,xk:=1} 0 Tryz.func77 fun Γ hW=>auC ?_
 repeat' first|refine auS ?_|(simp only [e1,e2,e3,e4])|refine auD ?_|(refine auW ?_ ?_<;>intro h<;>try exact auH)|fail
 all_goals try exact auP
 all_goals refine auV ?_
 all_goals try exact zc
 all_goals try simp only [hsM] at *
 all_goals rfl
theorem eL (l:List UInt8) (b:Int):zi Tryz.prog 149 [.v (.string (mkS l)),.v (.int .u8 b)] (.v (.int .i64 (Lib.indexByte l b.toNat.toUInt8))):=by
 have e1:(mkS l).data.toList=l:=by simp [mkS]
 refine z7 {ext:=true} 0 Tryz.func149 fun Γ hW=>auC ?_
 repeat' first|refine auS ?_|(simp only [e1])|refine auD ?_|(refine auW ?_ ?_<;>intro h<;>try exact auH)|fail
 all_goals try exact auP
 all_goals refine auV ?_
 all_goals try exact zc
 all_goals try simp only [hsM] at *
theorem oz (c:UInt8) (l:List UInt8):zi Tryz.prog 116 [.v (.string (mkS l)),.v (.string (mkS [c]))] (.v (.int .i64 (Lib.indexByte l c))):=by
 have e4:((c.toNat:Nat):Int).toNat.toUInt8=c:=UInt8.ofNat_toNat
 have hcal:=eL l (c.toNat:Nat)
 rw [e4] at hcal
 have e2:(mkS [c]).size=1:=rfl
 have e3:nK (mkS [c]) 0=((c.toNat:Nat):Int):=rfl
 by_cases he:mkS [c]=mkS l
 ·have hl:[c]=l:=zg.1 he
  subst hl
  refine z7 {} 0 Tryz.func116 fun Γ hW=>auC ?_
  repeat' first|refine auS ?_|(first|(simp only [e2,e3])|(with_reducible refine z6 hcal ?_))|refine auD ?_|(refine auW ?_ ?_<;>intro h<;>try exact auH)|fail
  all_goals try exact auP
  all_goals refine auV ?_
  all_goals try exact zc
  all_goals try simp only [hsM] at *
  all_goals first
   |rfl
   |(rw [show Lib.indexByte [c] c=0 by simp [Lib.indexByte]])
 ·skip
  refine z7 {} 0 Tryz.func116 fun Γ hW=>auC ?_
  repeat' first|refine auS ?_|(first|(simp only [e2,e3])|(simp only [he])|(with_reducible refine z6 hcal ?_))|refine auD ?_|(refine auW ?_ ?_<;>intro h<;>try exact auH)|fail
  all_goals try exact auP
  all_goals refine auV ?_
  all_goals try exact zc
  all_goals try simp only [hsM] at *
  all_goals rfl
theorem fM (c:UInt8) (l:List UInt8):zi Tryz.prog 78 [.v (.string (mkS l)),.v (.string (mkS [c]))] (.v (.int .i64 (Lib.indexByte l c))):=by
 have hcal:=oz c l
 refine z7 {} 0 Tryz.func78 fun Γ hW=>auC ?_
 repeat' first|refine auS ?_|(with_reducible refine z6 hcal ?_)|refine auD ?_|(refine auW ?_ ?_<;>intro h<;>try exact auH)|fail
 all_goals try exact auP
 all_goals refine auV ?_
 all_goals try exact zc
 all_goals try simp only [hsM] at *
end Go.Proofs.YtaiileiodjicpaaGreatDoor
namespace Go.Proofs.YtaiileiodjicpaaGreatDoor
attribute [local irreducible] zF Go
set_option maxRecDepth 100000
def zM (l:List ByteArray):List (List DV):=l.map fun x=>[.v (.string x)]
theorem pG (c:UInt8):∀l:List UInt8,(spl c l).length=Lib.countByte l c+1
 |[]=>rfl
 |b::l=>by
  have ih:=pG c l
  unfold Lib.countByte at ih ⊢
  by_cases h:b=c
  ·subst h
   rw [lx,List.length_cons,ih,List.count_cons_self]
  ·cases hq:spl c l with
   |nil=>exact absurd hq (pJ c l)
   |cons p ps=>
    rw [th h hq,List.count_cons_of_ne h,←ih,hq]
    rfl
theorem jD (c:UInt8) (l:List UInt8):(spl c l).length≤l.length+1:=by
 rw [pG]
 unfold Lib.countByte
 have:=List.count_le_length (a:=c) (l:=l)
 omega
theorem Ya {c:UInt8}:∀ {p:List UInt8} (r:List UInt8),c∉p→Lib.indexByte (p++c::r) c=p.length
 |[],r,_=>by simp [Lib.indexByte]
 |b::p,r,h=>by
  have hb:¬b=c:=fun e=>h (by simp [e])
  have ih:=Ya (p:=p) r (fun q=>h (List.mem_cons_of_mem _ q))
  simp only [List.cons_append,Lib.indexByte,beq_iff_eq,if_neg hb,ih,List.length_cons]
  rw [if_neg (by omega)]
  omega
def blk:List DV:=[.v (.string ⟨#[]⟩)]
theorem iL (x:List DV) (k:Nat) (A:List (List DV)) (y:List DV):ux (A++xz x (k+1)) A.length y=A++[y]++xz x k:=by
 have:=mt x y [] (xz x k) A
 simpa [xz] using this
theorem ip (x:List DV):∀k,(xz x k).length=k
 |0=>rfl
 |k+1=>by simp [xz,ip x k]
theorem dM (dn:List (List UInt8)) (k:Nat):(zM (dn.map mkS)++xz blk k).length=dn.length+k:=by simp [zM,ip]
theorem cM (dn:List (List UInt8)) (k:Nat) (y:DV):ux (zM (dn.map mkS)++xz blk (k+1)) dn.length (yK (yo (zM (dn.map mkS)++xz blk (k+1)) dn.length) 0 [y])=zM (dn.map mkS)++[[y]]++xz blk k:=by
 have hl:(zM (dn.map mkS)).length=dn.length:=by simp [zM]
 have hg:yo (zM (dn.map mkS)++xz blk (k+1)) dn.length=blk:=by
  rw [yV,List.getElem?_append_right (by omega),hl,Nat.sub_self]
  rfl
 rw [hg]
 have:=iL blk k (zM (dn.map mkS)) [y]
 rw [hl] at this
 exact this
set_option maxHeartbeats 2000000 in
theorem lR (c:UInt8) (l:List UInt8) (hl:l.length≤1048576):zi Tryz.prog 43 [.v (.string (mkS l)),.v (.string (mkS [c])),.v (.int .i64 0),.v (.int .i64 (-1))] (.snap 1 (zM ((spl c l).map mkS)) false):=by
 have hc:=fR c l
 have hle:=jD c l
 have hcn:=pG c l
 have hpos:0<(spl c l).length:=by rw [hcn];omega
 have w1:IntKind.i64.wrap ((Lib.countByte l c:Nat)+1)=((spl c l).length:Nat):=by rw [hcn,IntWalk.i64_in _ (by omega)];omega
 have w2:IntKind.i64.wrap ((l.length:Nat)+1)=((l.length+1:Nat):Int):=by rw [IntWalk.i64_in _ (by omega)];omega
 have w3:min ((spl c l).length:Int) ((l.length+1:Nat):Int)=((spl c l).length:Nat):=by omega
 have w4:IntKind.i64.wrap (((spl c l).length:Nat)-1)=(((spl c l).length-1:Nat):Int):=by rw [IntWalk.i64_in _ (by omega)];omega
 have e1:(mkS [c]=⟨#[]⟩)=False:=by
  refine eq_false ?_
  show ¬mkS [c]=mkS []
  rw [zg]
  simp
 generalize hn:(spl c l).length=n at *
 refine z7 {} 0 Tryz.func43 fun Γ hW=>auC ?_
 repeat' first|refine auS ?_|(first|(simp only [e1])|(simp only [za,w1,w2,w3,w4,Int.toNat_natCast])|(with_reducible refine z6 hc ?_))|refine auD ?_|(refine auW ?_ ?_<;>intro h<;>try exact auH)|(refine zf ⟨by omega,by omega,by (unfold y8 maxLen;omega)⟩ ?_)
 all_goals try exact auP
 refine zw (α:=List (List UInt8)×List UInt8) (fun x=>[(⟨.d0,.d0,.d0⟩,.v (.string (mkS x.2))),(⟨.d0,.d1,.d2⟩,.v (.int .i64 (x.1.length:Nat)))]) (fun x=>[(0,some ⟨Γ.g0,1,zM (x.1.map mkS)++xz blk (n-x.1.length)⟩)]) (fun _=>Γ.g0+1) (fun x=>n-x.1.length) (fun x=>spl c l=x.1++spl c x.2∧x.2.length≤1048576) ([],l) ⟨rfl,hl⟩ ?_ ?_
 ·skip
  refine zo ?_ ?_ (Nat.le_refl _)
  all_goals first|refine auE ?_|exact zK
  all_goals repeat' first|exact trivial|exact rfl|apply And.intro
 rintro ⟨dn,rest⟩ ⟨hsp,hrl⟩
 dsimp only at hsp hrl ⊢
 refine auL ?_
 have hlen:dn.length+(spl c rest).length=n:=by rw [←hn,hsp,List.length_append]
 cases hq:spl c rest with
 |nil=>exact absurd hq (pJ _ _)
 |cons p ps=>
 rw [hq] at hlen hsp
 rw [List.length_cons] at hlen
 obtain ⟨hp1,hp2⟩:=jS hq
 rcases hp2 with ⟨rfl,rfl⟩|⟨r,rfl,hr⟩
 ·have hd:dn.length=n-1:=by simp at hlen;omega
  have w5:IntKind.i64.wrap ((dn.length:Int)+1)=((n:Nat):Int):=by rw [IntWalk.i64_in _ (by omega)];omega
  have hs:=cM dn 0
  have hlx:=dM dn (0+1)
  rw [show n-dn.length=0+1 by omega]
  have hfin:zM (dn.map mkS)++xz blk 0=zM (dn.map mkS):=List.append_nil _
  generalize zM (dn.map mkS)++xz blk (0+1)=X at hs hlx ⊢
  repeat' first|refine auS ?_|(simp only [w5,hs,Nat.zero_add,Int.toNat_natCast])|refine auD ?_|(refine auW ?_ ?_<;>intro h<;>try exact auH)|(refine zf ⟨by omega,Nat.le_refl _,rfl⟩ ?_)
  all_goals try exact auP
  refine zL (zr hW ⟨.d0,.d1,.d0⟩ rfl rfl ⟨rfl,rfl,?_⟩) ?_
  ·simp [zM]
   omega
  ·rw [hsp,List.map_append,List.append_nil,show (n:Int)-0=((n:Nat):Int) by omega,Int.toNat_natCast]
   rw [tH (l:=zM (dn.map mkS)++[[DV.v (.string (mkS rest))]]) (by simp [zM];omega)]
   rw [show zM (dn.map mkS)++[[DV.v (.string (mkS rest))]]=zM (List.map mkS dn++List.map mkS [rest]) by simp [zM]]
   have hnf:yA Γ.g0 (zM (List.map mkS dn++List.map mkS [rest])):=zl (fun x=>by simp [nfL,nfD])
   all_goals refine auV ?_
   all_goals try exact zc
   all_goals try simp only [hsM] at *
   all_goals rfl
 ·have hd:dn.length<n-1:=by
   have:0<ps.length:=by rw [←hr];exact List.length_pos_iff.2 (pJ _ _)
   omega
  have hidx:=fM c (p++c::r)
  rw [Ya r hp1] at hidx
  have hpl:p.length+1+r.length≤1048576:=by simp at hrl;omega
  have ea:(mkS (p++c::r)).extract 0 p.length=mkS p:=by rw [yW];simp
  have eb:(mkS (p++c::r)).extract (p.length+1) (p++c::r).length=mkS r:=by
   have hd2:(p++c::r).drop (p.length+1)=r:=by
    rw [show p++c::r=(p++[c])++r by simp]
    exact List.drop_left' (by simp)
   rw [yW,hd2,List.take_of_length_le (by simp;omega)]
  have w5:IntKind.i64.wrap ((p.length:Int)+0)=((p.length:Nat):Int):=by rw [IntWalk.i64_in _ (by omega)];omega
  have w6:IntKind.i64.wrap ((p.length:Int)+1)=((p.length+1:Nat):Int):=by rw [IntWalk.i64_in _ (by omega)];omega
  have w7:IntKind.i64.wrap ((dn.length:Int)+1)=((dn.length+1:Nat):Int):=by rw [IntWalk.i64_in _ (by omega)];omega
  have hsz1:((mkS [c]).size:Int)=1:=rfl
  obtain ⟨k,hk⟩:∃k,n-dn.length=k+1:=⟨n-dn.length-1,by omega⟩
  rw [hk]
  have hs:=cM dn k
  have hlx:=dM dn (k+1)
  generalize zM (dn.map mkS)++xz blk (k+1)=X at hs hlx ⊢
  repeat' first|refine auS ?_|(first|(simp only [hsz1,w5,w6,w7,Int.toNat_natCast,ea,eb,hs,Nat.zero_add])|(simp only [za])|(with_reducible refine z6 hidx ?_))|refine auD ?_|(refine auW ?_ ?_<;>intro h<;>try exact auH)|(refine zf ⟨by omega,Nat.le_refl _,rfl⟩ ?_)
  all_goals try exact auP
  refine zn ⟨(dn++[p],r),⟨by dsimp only;rw [hsp,hr];simp,by dsimp only;omega⟩,by simp;omega,?_⟩
  have hlp:(dn++[p]).length=dn.length+1:=by simp
  have hk2:n-(dn.length+1)=k:=by omega
  refine zo ?_ ?_ (Nat.le_refl _)
  all_goals first|refine auE ?_|exact zK
  all_goals repeat' first|exact trivial|exact rfl|apply And.intro
  ·rw [hlp]
  ·rw [hlp,hk2]
   simp [zM]
theorem qi (c:UInt8) (l:List UInt8) (hl:l.length≤1048576):zi Tryz.prog 24 [.v (.string (mkS l)),.v (.string (mkS [c]))] (.snap 1 (zM ((spl c l).map mkS)) false):=by
 have hcal:=lR c l hl
 have hnf:∀g,yA g (zM ((spl c l).map mkS)):=fun g=>zl (fun x=>by simp [nfL,nfD])
 refine z7 {} 0 Tryz.func24 fun Γ hW=>auC ?_
 repeat' first|refine auS ?_|(with_reducible refine z6 hcal ?_)|refine auD ?_|(refine auW ?_ ?_<;>intro h<;>try exact auH)|fail
 all_goals try exact auP
 have hnf:=hnf Γ.g0
 all_goals refine auV ?_
 all_goals try exact zc
 all_goals try simp only [hsM] at *
end Go.Proofs.YtaiileiodjicpaaGreatDoor
namespace Go.Proofs.YtaiileiodjicpaaGreatDoor
theorem mf (w:World) (k:Nat) (os:Array Obj):RowKit.Below w.heap.size w (Sort.grow (w.drewN k) os):=by
 have h:=hZ (RowKit.Below.refl w.heap.size w) k
 exact ⟨h.os,h.tape,h.output,by simp [Sort.grow],fun g hg=>by
  show ((w.drewN k).heap++os)[g]?=_
  rw [dh,Array.getElem?_append_left hg]⟩
theorem t_ (n:Nat) (hn:n<1000000000000):zi Tryz.prog 16 [.v (.int .i64 (n:Nat))] (.v (.string (mkS (Lib.decDigits n)))):=
 xZ (by kernel_rfl) fun K w vs g0 hI ha=>by
  obtain ⟨v,rfl,hv⟩:=cS ha
  cases hv
  obtain ⟨-,-,q3⟩:=hI.glob (g:=1) (cs:=Lib.pow10Tab.map (Value.int .u64)) (by unfold qJ;simp)
  have htab:Lib.TabIs Tryz.prog w "internal/strconv.uint64pow10" .u64 Lib.pow10Tab:=sR (by kernel_rfl) (by decide) q3
  refine (Tryz.strconv_Itoa n (by omega) (by omega) w htab).mono fun e w' ⟨he,k,os,hw⟩=>⟨_,?_,v_ (hw▸mf w k os),.v _⟩
  rw [he]
  have e1:Lib.itoa (n:Int)=Lib.decDigits n:=by
   unfold Lib.itoa
   rw [if_neg (by omega),Int.toNat_natCast]
  rw [e1]
  rfl
theorem jw {K:Kr} {w:World} {Γ:Gm} {H:Nat→Option zj} (hI:Inv Γ K H w) {g:Nat} (hg:(g,[Value.tuple #[]])∈qJ):∃ev,w.cell? ⟨g,0,none⟩=some ev∧(ev=.nilIface∨∃te pe,ev=.iface te pe):=
 er ((hI.glob hg).2.2.1 0 _ rfl) rfl
def pu8 (w:List UInt8):DV:=match Lib.parseUintB 8 w with
 |.ok n=>.tup [.v (.int .u64 (n:Nat)),.v .nilIface]
 |.range=>.tup [.v (.int .u64 255),.ifc]
 |_=>.tup [.v (.int .u64 0),.ifc]
theorem gy (l:List UInt8) (hl:l.length≤1048576):zi Tryz.prog 117 [.v (.string (mkS l)),.v (.int .i64 10),.v (.int .i64 8)] (pu8 l):=by
 have hd:(mkS l).data.toList=l:=by simp [mkS]
 have hz:(mkS l).size=l.length:=za l
 refine xZ (by kernel_rfl) fun K w vs g0 hI ha=>?_
 obtain ⟨v1,v2,v3,rfl,r1,r2,r3⟩:=Vf ha
 cases r1
 cases r2
 cases r3
 unfold pu8
 have tup:∀ {w':World} (a:Value) (b:Value) (d:DV),ze (K.cut w) w' d b→ze (K.cut w) w' (.tup [.v a,d]) (.tuple #[a,b]):=fun a b d hd=>.tup rfl fun i x c hx hc=>by
  match i,hx,hc with
  |0,hx,hc=>
   obtain rfl:=Option.some.inj hx
   obtain rfl:=Option.some.inj hc
   exact .v _
  |1,hx,hc=>
   obtain rfl:=Option.some.inj hx
   obtain rfl:=Option.some.inj hc
   exact hd
  |i+2,hx,hc=>simp at hx
 cases hp:Lib.parseUintB 8 l with
 |ok n=>
  refine (Tryz.strconv_ParseUint_10_at8_ok (mkS l) (by omega) n (by rw [hd];exact hp) w).mono fun e w' ⟨he,hw⟩=>⟨_,he,?_,tup _ _ _ (.v _)⟩
  rcases hw with rfl|rfl
  ·exact Ext.refl _ _
  ·exact um _ _ _
 |range=>
  obtain ⟨ev,h1,h2⟩:=jw hI (g:=7) (by unfold qJ;simp)
  exact (Tryz.strconv_ParseUint_10_at8_range (mkS l) (by omega) (by rw [hd];exact hp) ev w h1 h2).mono fun e w' ⟨N,he,_,_,hb⟩=>⟨_,he,v_ hb,tup _ _ _ (.ifc _ _)⟩
 |_=>
  obtain ⟨ev,h1,h2⟩:=jw hI (g:=6) (by unfold qJ;simp)
  exact (Tryz.strconv_ParseUint_10_at8_syntax (mkS l) (by omega) (by rw [hd];exact hp) ev w h1 h2).mono fun e w' ⟨N,he,_,_,hb⟩=>⟨_,he,v_ hb,tup _ _ _ (.ifc _ _)⟩
theorem WP:∀n:Nat,(Lib.decDigits n).length≤n+1:=fun n=>by
 induction n using Nat.strongRecOn with
 |_ n ih=>
  rw [Lib.decDigits]
  split
  ·simp
  ·have:=ih (n / 10) (by omega)
   simp
   omega
end Go.Proofs.YtaiileiodjicpaaGreatDoor
