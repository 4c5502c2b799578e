import Derived.Test.YtmibknbmhcnemaaDoorTm45
set_option linter.unusedVariables false
set_option linter.unusedSimpArgs false
namespace Go.Proofs.YtmibknbmhcnemaaDoor
open A (Mp bs wM zF)
abbrev yW (ms:List Mp) (M:List Mt):Hs:=⟨plO,M,[],X0 ms⟩
structure MOK (now:Int) (M:List Mt):Prop where
 len:M.length≤64
 at':∀(i:Nat) (m:Mt),M[i]?=some m→(m.ra=100000∧m.mo=1000000)∧(0≤m.hs∧m.hs≤1000000)∧0≤m.tm∧m.tm≤now
 pw:∀(i j:Nat) (x y:Mt),i<j→M[i]?=some x→M[j]?=some y→x.tm≤y.tm∧x.ad≠y.ad
theorem MOK.good {now:Int} {M:List Mt} (h:MOK now M) (hn:now≤64):y9 (vS 100000 1000000) [] M=true:=tB M [] fun i m hm=>by
 obtain ⟨⟨p1,p2⟩,p3,p4⟩:=h.at' i m hm
 rw [List.nil_append]
 unfold vS
 simp only [Bool.and_eq_true,decide_eq_true_eq,List.all_eq_true,Bool.not_eq_true',decide_eq_false_iff_not]
 refine ⟨?_,p1,p2,fun y hy=>?_⟩
 ·unfold B.vW
  rw [if_neg (by omega),if_neg (by omega)]
 ·obtain ⟨j,hj,hy⟩:=lH hy
  have:=h.pw j i y m hj hy hm
  exact ⟨by omega,this.2⟩
theorem iX {port:Int} {k:Nat} {ms:List Mp} (h:MI port k ms) {now:Int} {M:List Mt} (hM:MOK now M) (hn:now≤64):oT (yW ms M)=0:=by
 unfold oT
 have h1:R.plE (yW ms M).p=0:=lN
 have h2:T.zV (yW ms M).tr=0:=rfl
 have h3:jK (yW ms M).n=0:=h.err
 have h4:qZ (yW ms M)=true:=by
  unfold qZ
  rw [decide_eq_true hM.len]
  show (true&&(decide ((100:Int)=100)&&(decide ((1024:Int)=1024)&&decide ((2048:Int)=2048))))=true
  decide
 have h5:y9 (vS (yW ms M).p.ra (yW ms M).p.mo) [] (yW ms M).ms=true:=hM.good hn
 rw [if_neg (not_not_intro h1),if_neg (not_not_intro h2),if_neg (not_not_intro h3),h4,h5]
 rfl
theorem kG {port:Int} {k:Nat} {ms:List Mp} (h:MI port k ms) {now:Int} {M:List Mt} (hM:MOK now M) (hk:(k:Int)≤now):tM (yW ms M)≤now:=by
 have h1:=h.last
 have h2:va M≤now:=by
  unfold va
  split
  ·rename_i m hm
   exact (hM.at' _ m hm).2.2.2
  ·omega
 have h3:T.xO []=0:=rfl
 unfold tM
 show max (max (va M) (T.xO [])) (A.yq ms)≤now
 rw [h3]
 omega
theorem ba (f:R.Fl) (h:R.fOk f=true):(R.sD plO.rs f plO.el).1=true:=by
 unfold R.sD
 rw [if_neg (by decide),if_neg (by rw [h];decide)]
 rfl
theorem Yg {a b f t:Int} (hf:w16 f) (ht:w16 t):R.fOk (toR ⟨a,b,17,f,t⟩)=true:=by
 unfold R.fOk
 simp only [Bool.and_eq_true,decide_eq_true_eq]
 exact ⟨by decide,hf,ht⟩
theorem YA {port:Int} {k:Nat} {ms:List Mp} (h:MI port k ms) (hk:k<64) (M:List Mt) {q:Cp} (hq:q.ok) (b t:Int) (ht:w16 t) :
  um (yW ms M) ⟨100+(k:Int),b,17,port,t⟩ q.txt (k:Int)=([],X0 (ms++[⟨17,100+(k:Int),port,xW ms port,(k:Int)⟩]),(q.from 3325256705 (xW ms port)).txt,0):=by
 obtain ⟨o1,-,-,o4⟩:=h.out hk
 have hd:(R.sD (yW ms M).p.rs (toR ⟨100+(k:Int),b,17,port,t⟩) (yW ms M).p.el).1=true:=ba _ (Yg h.po ht)
 have hr:=aw hq (a:=3325256705) (f:=xW ms port) (by unfold w16;omega)
 have o2:oG (yW ms M).n 17 (100+(k:Int)) port (k:Int)=_:=o1
 unfold um
 rw [hd]
 dsimp only
 rw [o2]
 have hr2:rnR q.txt (yW ms M).p.ou (xW ms port) 12 0=((q.from 3325256705 (xW ms port)).txt,0):=hr
 rw [hr2]
 exact (lf4 (p6:=decide ((17:Int)=6)) (.inr rfl) (.inl rfl) rfl).trans rfl
theorem ZW {port:Int} {k:Nat} {ms:List Mp} (h:MI port k ms) (M:List Mt) {q:Cp} (hq:q.ok) (a b f:Int) {i:Nat} {m:Mp} (hm:ms[i]?=some m) {now:Int} (hn:0≤now∧now≤64) :
  uN (yW ms M) ⟨a,b,17,f,m.ou⟩ q.txt now=([],(q.to' (100+(i:Int)) port).txt,0):=by
 have o2:rh (yW ms M).n 17 m.ou now=_:=h.into hm hn
 have hr:=YF hq (b:=100+(i:Int)) (t:=port) h.po
 unfold uN
 dsimp only
 rw [o2]
 dsimp only
 rw [hr]
 exact (ef4 (p6:=decide ((17:Int)=6)) rfl (.inl rfl)).trans rfl
theorem Zc {port:Int} {k:Nat} {ms:List Mp} (h:MI port k ms) (hk:k<64) {M M':List Mt} (hM:MOK (k:Int) M) {p:Cp} (hp:p.ok) (h3:3≤p.lf) (hpa:p.a=100+(k:Int)) (hpf:p.f=port) (hm:r6 (yW ms M) (100+(k:Int)) (k:Int) 29=(M',true)) :
  tv (yW ms M) true p.txt (k:Int)=(yW (ms++[⟨17,100+(k:Int),port,xW ms port,(k:Int)⟩]) M',(p.hop.from 3325256705 (xW ms port)).txt,0,0):=by
 obtain ⟨c1,c2⟩:=l6 hp h3
 have hl:p.hop.txt.length=29:=rfl
 have he:=mE hp
 have ht:=hp.t
 have hlv:=YA h hk M c2 p.b p.t hp.t
 rw [hpa,hpf] at he
 unfold tv
 rw [if_neg (not_not_intro (iX h hM (by omega))),if_neg (by have:=kG h hM (Int.le_refl _);omega)]
 unfold goR
 rw [he,c1]
 dsimp only
 rw [if_neg (not_not_intro rfl),if_neg (by simp),if_neg (not_not_intro rfl),hl]
 have hm2:r6 (yW ms M) (100+(k:Int)) (k:Int) ((29:Nat):Int)=(M',true):=hm
 rw [hm2]
 dsimp only
 rw [if_neg (by decide),if_pos rfl,hlv]
theorem Zv {port:Int} {k:Nat} {ms:List Mp} (h:MI port k ms) {M M':List Mt} (hM:MOK (k:Int) M) {p:Cp} (hp:p.ok) (h3:3≤p.lf) (hpb:p.b=3325256705) {i:Nat} {m:Mp} (hi:ms[i]?=some m) (hpt:p.t=m.ou) (hm:r6 (yW ms M) p.a (k:Int) 29=(M',true)) :
  tv (yW ms M) false p.txt (k:Int)=(yW ms M',(p.hop.to' (100+(i:Int)) port).txt,0,0):=by
 obtain ⟨c1,c2⟩:=l6 hp h3
 have hl:p.hop.txt.length=29:=rfl
 have he:=mE hp
 have hk:=h.k64
 have hen:=ZW h M c2 p.a p.b p.f hi (now:=(k:Int)) (by omega)
 rw [hpt] at he
 rw [hpb] at he hen
 unfold tv
 rw [if_neg (not_not_intro (iX h hM (by omega))),if_neg (by have:=kG h hM (Int.le_refl _);omega)]
 unfold goR
 rw [he,c1]
 dsimp only
 rw [if_neg (not_not_intro rfl),if_neg (by intro q;exact q.2 rfl),if_neg (not_not_intro rfl),hl]
 have hm2:r6 (yW ms M) p.a (k:Int) ((29:Nat):Int)=(M',true):=hm
 rw [hm2]
 dsimp only
 rw [if_neg (by decide),if_neg (by decide),hen]
def mtA (j:Nat):Mt:=⟨100+(j:Int),100000,1000000,999971,(j:Int)⟩
def yJ (k:Nat):List Mt:=(List.range k).map mtA
theorem uF {k i:Nat} {m:Mt} (h:(yJ k)[i]?=some m):i<k∧m=mtA i:=by
 unfold yJ at h
 rw [List.getElem?_map] at h
 obtain ⟨a,ha,rfl⟩:=Option.map_eq_some_iff.1 h
 have:=List.getElem?_eq_some_iff.1 ha
 obtain ⟨h1,h2⟩:=this
 rw [List.getElem_range] at h2
 rw [List.length_range] at h1
 exact ⟨h1,by rw [h2]⟩
theorem vI (k:Nat):(yJ k).length=k:=by unfold yJ;simp
theorem gD {k:Nat} (hk:k≤64):MOK (k:Int) (yJ k):=by
 refine ⟨by rw [vI];exact hk,fun i m hm=>?_,fun i j x y hij hx hy=>?_⟩
 ·obtain ⟨h1,rfl⟩:=uF hm
  unfold mtA
  dsimp only
  omega
 ·obtain ⟨h1,rfl⟩:=uF hx
  obtain ⟨h2,rfl⟩:=uF hy
  unfold mtA
  dsimp only
  omega
theorem Yf (ms:List Mp) {k:Nat} (hk:k<64):r6 (yW ms (yJ k)) (100+(k:Int)) (k:Int) 29=(yJ (k+1),true):=by
 have hf:(yJ k).find? (fun m=>decide (m.ad=100+(k:Int)))=none:=List.find?_eq_none.2 fun m hm q=>by
  obtain ⟨i,hi⟩:=List.mem_iff_getElem?.1 hm
  obtain ⟨h1,rfl⟩:=uF hi
  have:=of_decide_eq_true q
  unfold mtA at this
  dsimp only at this
  omega
 unfold r6
 show (match (yJ k).find? (fun m=>decide (m.ad=100+(k:Int))) with|some m0=>_|none=>_)=_
 rw [hf]
 show ((yJ k).drop ((yJ k).length-63)++[_],_)=_
 have hb:B.zS 100000 1000000 1000000 (k:Int) (k:Int)=1000000:=by
  unfold B.zS
  omega
 rw [vI,show k-63=0 by omega,List.drop_zero]
 unfold rF rG
 show (yJ k++[⟨100+(k:Int),100000,1000000,B.wi 100000 1000000 1000000 (k:Int) (k:Int) 29,(k:Int)⟩],decide ((29:Int)≤B.zS 100000 1000000 1000000 (k:Int) (k:Int)))=_
 unfold B.wi
 rw [hb,if_neg (by decide)]
 have e:yJ (k+1)=yJ k++[mtA k]:=by unfold yJ;rw [List.range_succ,List.map_append];rfl
 rw [e]
 rfl
def PM (n:Nat) (j:Nat) (M:List Mt):Prop:=M=yJ n∨∃x:Int,M=(yJ n).drop (n-63)++[⟨7,100000,1000000,x,(n:Int)⟩]∧1000000-29*(j:Int)≤x∧x≤1000000
theorem PM.mono {n j j':Nat} {M:List Mt} (h:PM n j M) (hj:j≤j'):PM n j' M:=by
 rcases h with h|⟨x,h1,h2,h3⟩
 ·exact .inl h
 ·exact .inr ⟨x,h1,by omega,h3⟩
theorem PM.ok {n j:Nat} {M:List Mt} (h:PM n j M) (hn:n≤64) (hj:j≤1000):MOK (n:Int) M:=by
 rcases h with rfl|⟨x,rfl,h2,h3⟩
 ·exact gD hn
 ·have hd:∀(i:Nat) (m:Mt),((yJ n).drop (n-63)++[(⟨7,100000,1000000,x,(n:Int)⟩:Mt)])[i]?=some m→(n-63+i<n∧m=mtA (n-63+i))∨(n-63+i=n∧m=⟨7,100000,1000000,x,(n:Int)⟩):=fun i m hm=>by
   rw [List.getElem?_append] at hm
   split at hm
   ·rw [List.getElem?_drop] at hm
    exact .inl (uF hm)
   ·rename_i q
    have:=(List.getElem?_eq_some_iff.1 hm).1
    rw [List.length_drop,vI] at this q
    rw [List.length_drop,vI] at hm
    simp only [List.length_cons,List.length_nil] at this
    have hi:i-(n-(n-63))=0:=by omega
    rw [hi] at hm
    exact .inr ⟨by omega,(Option.some.inj hm).symm⟩
  refine ⟨by rw [List.length_append,List.length_drop,vI,List.length_singleton];omega,fun i m hm=>?_,fun i j' y z hij hy hz=>?_⟩
  ·rcases hd i m hm with ⟨q,rfl⟩|⟨q,rfl⟩
   ·unfold mtA
    dsimp only
    omega
   ·dsimp only
    omega
  ·rcases hd i y hy with ⟨q,rfl⟩|⟨q,rfl⟩<;>rcases hd j' z hz with ⟨q',rfl⟩|⟨q',rfl⟩
   ·unfold mtA
    dsimp only
    omega
   ·unfold mtA
    dsimp only
    omega
   ·omega
   ·omega
theorem Y9 (ms:List Mp) {n j:Nat} (hn:n≤64) {M:List Mt} (h:PM n j M) (hj:j≤1000):∃M',r6 (yW ms M) 7 (n:Int) 29=(M',true)∧PM n (j+1) M':=by
 have hne:∀l:List Mt,l.Sublist (yJ n)→∀m∈l,¬m.ad=7:=fun l hl m hm=>by
  obtain ⟨i,hi⟩:=List.mem_iff_getElem?.1 (hl.subset hm)
  obtain ⟨h1,rfl⟩:=uF hi
  unfold mtA
  dsimp only
  omega
 rcases h with rfl|⟨x,rfl,h2,h3⟩
 ·have hf:(yJ n).find? (fun m=>decide (m.ad=7))=none:=List.find?_eq_none.2 fun m hm q=>hne _ (List.Sublist.refl _) m hm (of_decide_eq_true q)
  have hb:B.zS 100000 1000000 1000000 (n:Int) (n:Int)=1000000:=by
   unfold B.zS
   omega
  refine ⟨(yJ n).drop (n-63)++[⟨7,100000,1000000,999971,(n:Int)⟩],?_,.inr ⟨999971,rfl,by omega,by omega⟩⟩
  unfold r6
  show (match (yJ n).find? (fun m=>decide (m.ad=7)) with|some m0=>_|none=>_)=_
  rw [hf]
  show ((yJ n).drop ((yJ n).length-63)++[⟨7,100000,1000000,B.wi 100000 1000000 1000000 (n:Int) (n:Int) 29,(n:Int)⟩],decide ((29:Int)≤B.zS 100000 1000000 1000000 (n:Int) (n:Int)))=_
  unfold B.wi
  rw [hb,if_neg (by decide),vI]
  rfl
 ·have hb:B.zS 100000 1000000 x (n:Int) (n:Int)=x:=by
   unfold B.zS
   omega
  have hl:=hne ((yJ n).drop (n-63)) (List.drop_sublist _ _)
  have hf:((yJ n).drop (n-63)++[(⟨7,100000,1000000,x,(n:Int)⟩:Mt)]).find? (fun m=>decide (m.ad=7))=some ⟨7,100000,1000000,x,(n:Int)⟩:=by
   rw [List.find?_append,List.find?_eq_none.2 fun m hm q=>hl m hm (of_decide_eq_true q)]
   rfl
  have hg:((yJ n).drop (n-63)++[(⟨7,100000,1000000,x,(n:Int)⟩:Mt)]).filter (fun m=>!decide (m.ad=7))=(yJ n).drop (n-63):=by
   rw [List.filter_append,List.filter_eq_self.2 fun m hm=>by rw [decide_eq_false (hl m hm)];rfl]
   simp
  refine ⟨(yJ n).drop (n-63)++[⟨7,100000,1000000,x-29,(n:Int)⟩],?_,.inr ⟨x-29,rfl,by omega,by omega⟩⟩
  unfold r6
  show (match ((yJ n).drop (n-63)++[(⟨7,100000,1000000,x,(n:Int)⟩:Mt)]).find? (fun m=>decide (m.ad=7)) with|some m0=>_|none=>_)=_
  rw [hf]
  show (((yJ n).drop (n-63)++[(⟨7,100000,1000000,x,(n:Int)⟩:Mt)]).filter (fun m=>!decide (m.ad=7))++[⟨7,100000,1000000,B.wi 100000 1000000 x (n:Int) (n:Int) 29,(n:Int)⟩],decide ((29:Int)≤B.zS 100000 1000000 x (n:Int) (n:Int)))=_
  unfold B.wi
  rw [hb,hg,if_neg (by omega),decide_eq_true (by omega)]
end Go.Proofs.YtmibknbmhcnemaaDoor
namespace Go.Proofs.YtmibknbmhcnemaaDoor
open A (Mp)
theorem bU {port:Int} {k:Nat} {ms:List Mp} (h:MI port k ms) {M:List Mt} (hM:M.length≤64):(yW ms M).wf:=by
 have h0:y7 0 40∧y7 0 48∧y7 0 80:=by unfold y7 maxLen;omega
 have hl:=h.len
 have hk:=h.k64
 refine ⟨ln,h0.2.2,?_,h0.2.1,⟨h.bsl,(by decide:0<18446744073709551616),?_,fun m hm=>?_⟩⟩
 ·show y7 M.length 40
  unfold y7 maxLen
  omega
 ·show ms.length*40≤140737488351232
  omega
 ·obtain ⟨i,hi⟩:=List.mem_iff_getElem?.1 hm
  have:=(h.at' i m hi).1.2.1
  have:=h.lt hi
  omega
theorem MI.nil {port:Int} (hp:0≤port∧port≤65535):MI port 0 []:=⟨rfl,hp,by decide,fun i m h=>by simp at h,fun i j x y h=>by simp at h⟩
theorem db (p:Cp):p.hop.k2=p.k2:=rfl
abbrev dZ (ms:List Mp) (k:Nat) (port:Int):List Mp:=ms++[⟨17,100+(k:Int),port,xW ms port,(k:Int)⟩]
theorem aC:ox plO=yW [] (yJ 0):=by
 unfold ox
 rw [if_pos lN]
 rfl
structure YO (port to:Int) (ms:List Mp) (k:Nat) (s o:List UInt8):Prop where
 l:mF port to [113] (100+(k:Int)) 7=(s,true)
 h:tv (yW ms (yJ k)) true s (k:Int)=(yW (dZ ms k port) (yJ (k+1)),o,0,0)
 e:edR o=(⟨3325256705,7,17,xW ms port,to⟩,0)
 ls:s.length=29
 lo:o.length=29
 m:MI port (k+1) (dZ ms k port)
 n:∀m∈ms,m.ou≠xW ms port
theorem a9 {port to:Int} (hto:0≤to∧to≤65535) {ms:List Mp} {k:Nat} (h:MI port k ms) (hk:k<64):∃s o,YO port to ms k s o:=by
 obtain ⟨h1,h2,h3⟩:=dQ (f:=port) (t:=to) 113 (a:=100+(k:Int)) (b:=7) h.po hto (by omega) (by omega)
 obtain ⟨o1,o2,o3,o4⟩:=h.out hk
 have h9:(3:Int)≤9:=by decide
 have ha:(0:Int)≤3325256705∧(3325256705:Int)<4294967296:=by omega
 have hw:w16 (xW ms port):=by unfold w16;omega
 have h4:=Zc h hk (gD (by omega)) h2 h9 rfl rfl (Yf ms hk)
 obtain ⟨c1,c2⟩:=l6 h2 h9
 have h3':0<(cpL port to 113 (100+(k:Int)) 7).hop.k2:=(db _).symm▸h3
 have h5:=mE (Zx c2 h3' ha hw)
 exact ⟨_,_,h1,h4,h5,rfl,rfl,o2,o3⟩
structure YH (port to:Int) (ms:List Mp) (n j i:Nat) (m:Mp) (M M':List Mt) (s o:List UInt8):Prop where
 l:mF to m.ou [97] 7 3325256705=(s,true)
 h:tv (yW ms M) false s (n:Int)=(yW ms M',o,0,0)
 e:edR o=(⟨7,100+(i:Int),17,to,port⟩,0)
 ls:s.length=29
 lo:o.length=29
 p:PM n (j+1) M'
theorem az {port to:Int} (hto:0≤to∧to≤65535) {ms:List Mp} {n:Nat} (h:MI port n ms) {i:Nat} {m:Mp} (hi:ms[i]?=some m) {j:Nat} {M:List Mt} (hM:PM n j M) (hj:j≤1000):∃M' s o,YH port to ms n j i m M M' s o:=by
 have hb:=(h.at' i m hi).2
 have hil:=h.lt hi
 have hk:=h.k64
 obtain ⟨h1,h2,h3⟩:=dQ (f:=to) (t:=m.ou) 97 (a:=7) (b:=3325256705) hto (by unfold w16;omega) (by omega) (by omega)
 obtain ⟨M',m1,m2⟩:=Y9 ms h.k64 hM hj
 have h9:(3:Int)≤9:=by decide
 have ha:(0:Int)≤100+(i:Int)∧100+(i:Int)<4294967296:=by omega
 have h4:=Zv h (hM.ok h.k64 hj) h2 h9 rfl hi rfl m1
 obtain ⟨c1,c2⟩:=l6 h2 h9
 have h3':0<(cpL to m.ou 97 7 3325256705).hop.k2:=(db _).symm▸h3
 have h5:=mE (X1 c2 h3' ha h.po)
 exact ⟨M',_,_,h1,h4,h5,rfl,rfl,m2⟩
def v_ (ms:List Mp) (n:Nat):List Int:=ms.map (·.ou)++List.replicate (n-ms.length) 0
theorem mj {ms:List Mp} {n:Nat} (h:ms.length≤n):(v_ ms n).length=n:=by
 unfold v_
 simp
 omega
theorem kX {ms:List Mp} {n i:Nat} {m:Mp} (h:ms[i]?=some m):(v_ ms n)[i]?=some m.ou:=by
 have:=(List.getElem?_eq_some_iff.1 h).1
 unfold v_
 rw [List.getElem?_append_left (by simpa using this),List.getElem?_map,h]
 rfl
theorem fU {ms:List Mp} {n:Nat} (h:ms.length<n) (m:Mp):(v_ ms n).set ms.length m.ou=v_ (ms++[m]) n:=by
 unfold v_
 obtain ⟨q,hq⟩:∃q,n-ms.length=q+1:=⟨n-ms.length-1,by omega⟩
 rw [hq,List.replicate_succ,List.set_append]
 rw [if_neg (by simp),List.length_map,Nat.sub_self,List.set_cons_zero,List.map_append,List.length_append]
 have:n-(ms.length+[m].length)=q:=by simp;omega
 rw [this]
 simp
end Go.Proofs.YtmibknbmhcnemaaDoor
