import Derived.Test.YtaiileiodjicpaaGreatDoorTt44
set_option linter.unusedVariables false
set_option linter.unusedSimpArgs false
namespace Go.Proofs.YtaiileiodjicpaaGreatDoor.R
attribute [local irreducible] zF Go
set_option maxRecDepth 100000
theorem Uz {st:St} {np:Nat} {a1 a2 a3 a4 a5 a6 b:DV} (hp:zd st.H 1=some ⟨np,8,[[a1,a2,a3,a4,a5,a6,.v (.slice none 0 0),b]]⟩):Le st ⟨st.tm,y4 (y4 st.H 1 (some ⟨np,8,[[a1,a2,a3,a4,a5,a6,.sl 1 st.gen 10 0 0 false,b]]⟩)) 9 (some ⟨st.gen,10,[]⟩),st.gen+1⟩:=
 co 1 9 10 8 (by decide) hp rfl (fun i d d' h1 h2=>by
  match i,h1,h2 with
  |6,h1,h2=>exact .inr ⟨(Option.some.inj h1).symm,_,(Option.some.inj h2).symm⟩
  |0,h1,h2=>exact .inl ((Option.some.inj h2).symm.trans (Option.some.inj h1))
  |1,h1,h2=>exact .inl ((Option.some.inj h2).symm.trans (Option.some.inj h1))
  |2,h1,h2=>exact .inl ((Option.some.inj h2).symm.trans (Option.some.inj h1))
  |3,h1,h2=>exact .inl ((Option.some.inj h2).symm.trans (Option.some.inj h1))
  |4,h1,h2=>exact .inl ((Option.some.inj h2).symm.trans (Option.some.inj h1))
  |5,h1,h2=>exact .inl ((Option.some.inj h2).symm.trans (Option.some.inj h1))
  |7,h1,h2=>exact .inl ((Option.some.inj h2).symm.trans (Option.some.inj h1))
  |i+8,h1,h2=>simp at h1) (by decide)
theorem UI {st:St} {nw:Nat} {b:DV} (hp:zd st.H 2=some ⟨nw,2,[[.v (.slice none 0 0),b]]⟩):Le st ⟨st.tm,y4 (y4 st.H 2 (some ⟨nw,2,[[.sl 4 st.gen 1 0 0 false,b]]⟩)) 4 (some ⟨st.gen,1,[]⟩),st.gen+1⟩:=
 co 2 4 1 2 (by decide) hp rfl (fun i d d' h1 h2=>by
  match i,h1,h2 with
  |0,h1,h2=>exact .inr ⟨(Option.some.inj h1).symm,_,(Option.some.inj h2).symm⟩
  |1,h1,h2=>exact .inl ((Option.some.inj h2).symm.trans (Option.some.inj h1))
  |i+2,h1,h2=>simp at h1) (by decide)
def pl0:Pl:=⟨0,0,0,0,0,0,[],false⟩
def Xq:Pl×List W8 ⊕ Int×Int→Pl×Int×Int
 |.inr x=>(pl0,x.1,x.2)
 |.inl x=>if x.2.length<5 then (pl0,0,7) else if plE x.1=0 then (x.1,0,0) else (pl0,0,plE x.1)
def lA (s:W8):Pl×Int×Int:=if 20000<s.length then (pl0,0,2) else Xq (goP 0 pl0 [] (spl 10 s))
def pn (R:Pl×Int×Int):DV:=if R.2.2=0 then dPl R.1 false else .agg (pl0.enc (.v (.slice none 0 0)))
def km (R:Pl×Int×Int):DV:=.tup [pn R,.v (.int .i64 R.2.1),.v (.int .i64 R.2.2)]
theorem tP {R:Pl×Int×Int} (h:¬R.2.2=0):km R=.tup [.agg (pl0.enc (.v (.slice none 0 0))),.v (.int .i64 R.2.1),.v (.int .i64 R.2.2)]:=by
 unfold km pn
 rw [if_neg h]
def fW (ps:List W8) (j:Nat):List W8:=(ps.take j).filter (fun w=>decide (¬w=[]))
theorem VN {ps:List W8} {j:Nat} {w:W8} (h:ps[j]?=some w) (hw:¬w=[]):fW ps (j+1)=fW ps j++[w]:=by
 unfold fW
 rw [rh h,List.filter_append]
 simp [hw]
theorem Up {ps:List W8} {j:Nat} {w:W8} (h:ps[j]?=some w) (hw:w=[]):fW ps (j+1)=fW ps j:=by
 unfold fW
 rw [rh h,List.filter_append]
 simp [hw]
theorem U7 (ps:List W8) (j:Nat):(fW ps j).length≤ps.length:=Nat.le_trans (List.length_filter_le _ _) (by rw [List.length_take];omega)
theorem ld:∀l:List W8,zQ (zM (l.map mkS))=true
 |[]=>rfl
 |b::l=>ld l
theorem kN (l:List W8) (w:W8):zM (l.map mkS)++[[.v (.string (mkS w))]]=zM ((l++[w]).map mkS):=by simp [zM]
theorem Wi (s:W8):(lM s).1<4294967296:=by
 unfold lM
 split
 ·rename_i a ha
  have:=iB _ _ _ (by decide) ha
  split
  ·exact this
  ·exact Nat.zero_lt_succ _
 ·exact Nat.zero_lt_succ _
theorem Yr (s:W8) (t:WS):0≤(ad s t).1∧(ad s t).1<4294967296:=by
 have:=Wi s
 unfold ad
 dsimp only
 omega
theorem Ys {p:Pl} (h:p.wf) (w0:W8) (t:WS):(yg p w0 t).1.wf:=by
 unfold yg
 split
 ·exact ⟨Yr _ ([],false),h.2⟩
 ·split
  ·exact h
  ·split
   ·exact h
   ·split
    ·exact h
    ·split
     ·exact h
     ·refine ⟨h.1,fun r hr=>?_⟩
      rcases List.mem_append.1 hr with hr|hr
      ·exact h.2 r hr
      ·rw [List.mem_singleton.1 hr]
       exact ⟨Yr _ ([],false),Yr _ ([],false)⟩
theorem VX:pl0.wf:=⟨by decide,fun r hr=>by cases hr⟩
theorem VG {w:W8} (h:w≠[]):decide (((bN w 0:Nat):Int)=35)=decide (w.head?=some 35):=by
 cases w with
 |nil=>exact absurd rfl h
 |cons b t=>
  have e:bN (b::t) 0=b.toNat:=rfl
  rw [e,decide_eq_decide]
  constructor
  ·intro q
   have:b=35:=UInt8.toNat_inj.1 (by show b.toNat=35;omega)
   rw [this]
   rfl
  ·intro q
   obtain rfl:=Option.some.inj q
   rfl
set_option maxHeartbeats 8000000 in
theorem aL (s:W8) (hmax:s.length≤140737488355328):zi Tryz.prog 6 [.v (.string (mkS s))] (km (lA s)):=by
 by_cases hlen:20000<s.length
 ·have e:lA s=(pl0,0,2):=by unfold lA;rw [if_pos hlen]
  rw [e,tP (by decide)]
  refine z7 {} 0 Tryz.func6 fun Γ hW=>auC ?_
  repeat' first|refine auS ?_|(simp only [za])|refine auD ?_|(refine auW ?_ ?_<;>intro h<;>try exact auH)|fail
  all_goals try exact auP
  all_goals refine auV ?_
  all_goals try exact zc
  all_goals try simp only [hsM] at *
  all_goals rfl
 have hs:zi Tryz.prog 24 [.v (.string (mkS s)),.v (.string (ByteArray.mk #[10]))] (.snap 1 (zM ((spl 10 s).map mkS)) false):=qi 10 s (by omega)
 have hml:∀p∈spl 10 s,p.length≤20000:=fun p hp=>Nat.le_trans (wq 10 s p hp) (by omega)
 have hcn:=jD 10 s
 have hR:lA s=Xq (goP 0 pl0 [] (spl 10 s)):=by unfold lA;rw [if_neg hlen]
 rw [hR]
 generalize spl 10 s=ls at *
 have hrl:=zI ls
 refine z7 {} 0 Tryz.func6 fun Γ hW=>auC ?_
 repeat' first|((with_reducible refine pk ?_);first|(refine vD (Uz rfl) ?_)|(refine vD (vA ⟨.d0,.d0,.d6⟩ 6 1 rfl rfl) ?_))|refine auS ?_|(first|(simp only [za,hrl])|(with_reducible refine z6 hs ?_))|refine auD ?_|(refine auW ?_ ?_<;>intro h<;>try exact auH)|fail
 all_goals try exact auP
 refine zw (α:=Nat×Pl×List W8×Nat×Nat×Nat) (fun x=>[(⟨.d0,.d2,.d5⟩,.v (.int .i64 (x.1:Nat))),(⟨.d0,.d0,.d6⟩,.sl 6 x.2.2.2.2.1 1 0 x.2.2.1.length false)]) (fun x=>[(1,some (pO (Γ.g0+1) x.2.2.2.1 x.2.1)),(2,none),(3,none),(4,none),(5,none),(6,some ⟨x.2.2.2.2.1,1,zM (x.2.2.1.map mkS)⟩),(9,some (rO x.2.2.2.1 x.2.1)),(10,none)]) (fun x=>x.2.2.2.2.2) (fun x=>ls.length-x.1) (fun x=>x.1≤ls.length∧x.2.1.rs.length≤x.1∧x.2.2.1.length≤x.1∧x.2.1.wf∧goP 0 pl0 [] ls=goP x.1 x.2.1 x.2.2.1 (ls.drop x.1)) (0,pl0,[],Γ.g0+2,Γ.g0+3,Γ.g0+4) ⟨Nat.zero_le _,Nat.zero_le _,Nat.zero_le _,VX,rfl⟩ ?_ ?_
 ·skip
  refine zo ?_ ?_ (Nat.le_refl _)
  all_goals first|refine auE ?_|exact zK
  all_goals repeat' first|exact trivial|exact rfl|apply And.intro
 rintro ⟨i,p,had,rn,hn,gn⟩ ⟨hi,hpl,hhl,hwf,hgo⟩
 dsimp only at hi hpl hhl hwf hgo ⊢
 refine auL ?_
 by_cases hlt:i<ls.length
 ·obtain ⟨l,hl⟩:∃l,ls[i]?=some l:=⟨_,List.getElem?_eq_getElem hlt⟩
  have hx:=mC hl
  have hll:=hml l (List.mem_of_getElem? hl)
  rw [List.drop_eq_getElem_cons hlt,show ls[i]=l from Option.some.inj ((List.getElem?_eq_getElem hlt).symm.trans hl)] at hgo
  have hs2:zi Tryz.prog 24 [.v (.string (mkS l)),.v (.string (ByteArray.mk #[32]))] (.snap 1 (zM ((spl 32 l).map mkS)) false):=qi 32 l (by omega)
  have hcn2:=jD 32 l
  have hml2:∀p∈spl 32 l,p.length≤20000:=fun p hp=>Nat.le_trans (wq 32 l p hp) hll
  have hwl:xw l=fW (spl 32 l) (spl 32 l).length:=by
   unfold xw fW
   rw [List.take_length]
  have hpn:=zI (spl 32 l)
  generalize hps:spl 32 l=ps at *
  repeat' first|((with_reducible refine pk ?_);(refine vD (UI rfl) ?_))|refine auS ?_|(first|(simp only [hrl,hpn])|(with_reducible refine z6 hs2 ?_))|refine auD ?_|(refine auW ?_ ?_<;>intro h<;>try exact auH)|(simp only [Int.toNat_natCast,hx])
  all_goals try exact auP
  refine zw (α:=Nat×Nat×Nat) (fun x=>[(⟨.d0,.d3,.d5⟩,.v (.int .i64 (x.1:Nat)))]) (fun x=>[(2,some ⟨gn,2,[[.sl 4 x.2.1 1 0 (fW ps x.1).length false,.v (.bool false)]]⟩),(3,none),(4,some ⟨x.2.1,1,zM ((fW ps x.1).map mkS)⟩)]) (fun x=>x.2.2) (fun x=>ps.length-x.1) (fun x=>x.1≤ps.length) (0,gn+1,gn+2) (Nat.zero_le _) ?_ ?_
  ·skip
   refine zo ?_ ?_ (Nat.le_refl _)
   all_goals first|refine auE ?_|exact zK
   all_goals repeat' first|exact trivial|exact rfl|apply And.intro
  rintro ⟨j,nm,gm⟩ hj
  dsimp only at hj ⊢
  refine auL ?_
  by_cases hlt2:j<ps.length
  ·obtain ⟨w,hw⟩:∃w,ps[j]?=some w:=⟨_,List.getElem?_eq_getElem hlt2⟩
   have hx2:=mC hw
   have em:(ByteArray.mk #[]:ByteArray)=mkS []:=rfl
   have hfl:=U7 ps j
   have hf1:=ld (fW ps j)
   have hf2:=zI (fW ps j)
   by_cases hw0:w=[]
   ·have hno:=Up hw hw0
    have hd:decide (mkS w=mkS [])=true:=decide_eq_true (congrArg mkS hw0)
    repeat' first|refine auS ?_|(first|(simp only [em,hd,hpn]))|refine auD ?_|(refine auW ?_ ?_<;>intro h<;>try exact auH)|(simp only [Int.toNat_natCast,hx2,hpn])
    all_goals try exact auP
    refine zn ⟨(j+1,nm,gm),hlt2,Nat.sub_lt_sub_left hlt2 (Nat.lt_succ_self j),?_⟩
    rw [hno]
    refine zo ?_ ?_ (Nat.le_refl _)
    all_goals first|refine auE ?_|exact zK
    all_goals repeat' first|exact trivial|exact rfl|apply And.intro
    all_goals exact yd ((IntWalk.i64_in _ (by omega)).trans (by omega))
   ·have hyes:=VN hw hw0
    have hsn:=kN (fW ps j) w
    have hd:decide (mkS w=mkS [])=false:=decide_eq_false (fun q=>hw0 (zg.1 q))
    have hyl:(fW ps (j+1)).length=(fW ps j).length+1:=by rw [hyes];simp
    rw [←hyes] at hsn
    generalize zM ((fW ps j).map mkS)=X at *
    repeat' first|refine auS ?_|(first|(simp only [em,hd,hpn]))|refine auD ?_|(refine auW ?_ ?_<;>intro h<;>try exact auH)|(first|(simp only [Int.toNat_natCast,hx2,hpn,hf2])|(refine zf ⟨by trivial,by trivial,by trivial,by trivial,hf2.symm⟩ ?_)|(refine zf ⟨by trivial,by rw [hf2];unfold y8 maxLen;simp only [List.length_cons,List.length_nil];omega⟩ ?_)|fail)
    all_goals try exact auP
    refine zn ⟨(j+1,gm+1,gm+2),hlt2,Nat.sub_lt_sub_left hlt2 (Nat.lt_succ_self j),?_⟩
    rw [hyl,←hsn]
    refine zo ?_ ?_ (Nat.le_refl _)
    all_goals first|refine auE ?_|exact zK
    all_goals repeat' first|exact trivial|exact rfl|apply And.intro
    all_goals exact yd ((IntWalk.i64_in _ (by omega)).trans (by omega))
  ·obtain rfl:j=ps.length:=by omega
   rw [←hwl]
   have hfz:u_ ⟨nm,1,zM ((xw l).map mkS)⟩ [[.sl 4 nm 1 0 (xw l).length false,.v (.bool false)]] [[.snap 1 (zM ((xw l).map mkS)) false,.v (.bool false)]]:=by
    refine ⟨⟨.inl ⟨rfl,rfl,?_,?_⟩,rfl,rfl⟩,rfl⟩
    ·show 0+_≤_
     rw [zI]
     omega
    ·show DV.snap _ _ _=DV.snap _ _ _
     rw [tH (by rw [zI])]
   have hwm:∀w∈xw l,w.length≤1048576:=fun w hw=>by
    have h1:w∈ps:=by
     unfold xw at hw
     rw [hps] at hw
     exact (List.mem_filter.1 hw).1
    exact Nat.le_trans (hml2 w h1) (by decide)
   have hwne:∀w∈xw l,w≠[]:=fun w hw=>(eJ hw).1
   have w1:IntKind.i64.wrap ((i:Int)+1)=((i+1:Nat):Int):=by rw [IntWalk.i64_in _ (by omega)];omega
   clear hwl hs2
   cases hwd:xw l with
   |nil=>
    rw [aD hwd] at hgo
    rw [hwd] at hfz
    have hz0:decide ((((zM (([]:List W8).map mkS)).length:Nat):Int)=0)=true:=by decide
    repeat' first|((with_reducible refine pk ?_);(refine zP (zT hW 2 4 (by decide) rfl rfl hfz) ?_))|refine auS ?_|(first|(simp only [w1,hz0]))|refine auD ?_|(refine auW ?_ ?_<;>intro h<;>try exact auH)|fail
    all_goals try exact auP
    refine zn ⟨(i+1,p,had,rn,hn,gm),⟨hlt,Nat.le_succ_of_le hpl,Nat.le_succ_of_le hhl,hwf,hgo⟩,Nat.sub_lt_sub_left hlt (Nat.lt_succ_self i),?_⟩
    refine zo ?_ ?_ (Nat.le_refl _)
    all_goals first|refine auE ?_|exact zK
    all_goals repeat' first|exact trivial|exact rfl|apply And.intro
   |cons w0 r=>
    rw [mr hwd] at hgo
    rw [hwd] at hfz hwm hwne
    have hw0:w0≠[]:=hwne w0 (by simp)
    have hw0l:0<w0.length:=List.length_pos_iff.2 hw0
    have hx0:yo (zM ((w0::r).map mkS)) 0=[.v (.string (mkS w0))]:=rfl
    have hb:=VG hw0
    have hz:∀n:Nat,decide (((n+1:Nat):Int)=0)=false:=fun n=>decide_eq_false (by omega)
    by_cases h35:w0.head?=some 35
    ·rw [if_pos h35] at hgo
     rw [decide_eq_true h35] at hb
     repeat' first|((with_reducible refine pk ?_);(refine zP (zT hW 2 4 (by decide) rfl rfl hfz) ?_))|refine auS ?_|(first|(simp only [w1,zI,hz,hb,zW,za]))|refine auD ?_|(refine auW ?_ ?_<;>intro h<;>try exact auH)|(simp only [hx0])
     all_goals try exact auP
     refine zn ⟨(i+1,p,had,rn,hn,gm),⟨hlt,Nat.le_succ_of_le hpl,Nat.le_succ_of_le hhl,hwf,hgo⟩,Nat.sub_lt_sub_left hlt (Nat.lt_succ_self i),?_⟩
     refine zo ?_ ?_ (Nat.le_refl _)
     all_goals first|refine auE ?_|exact zK
     all_goals repeat' first|exact trivial|exact rfl|apply And.intro
    rw [if_neg h35] at hgo
    rw [decide_eq_false h35] at hb
    have hline:=fun np rn nw=>Ur 1 np rn nw p w0 r (fun w hw=>hwm w (List.mem_cons_of_mem _ hw)) (by omega)
    have hpl2:(yg p w0 (r,false)).1.rs.length≤i+1:=by
     have:(yg p w0 (r,false)).1.rs.length≤p.rs.length+1:=by
      unfold yg
      split
      ·exact Nat.le_succ _
      ·split
       ·exact Nat.le_succ _
       ·split
        ·exact Nat.le_succ _
        ·split
         ·exact Nat.le_succ _
         ·split
          ·exact Nat.le_succ _
          ·simp
     omega
    have hwf2:=Ys hwf w0 (r,false)
    generalize (yg p w0 (r,false)).1=p' at *
    generalize (yg p w0 (r,false)).2=t' at *
    have hfb:(U6 t').2=iG t':=rfl
    have hcs:=nU had w0 false (by unfold maxLen;omega)
    have hf:uQ ⟨hn,1,zM (had.map mkS)⟩ [.sl 6 hn 1 0 had.length false,.v (.string (mkS w0))] [.snap 1 (zM (had.map mkS)) false,.v (.string (mkS w0))]:=by
     refine ⟨?_,rfl,rfl⟩
     simp only [vO]
     exact .inl ⟨trivial,trivial,by rw [zI];omega,by rw [tH (by rw [zI])]⟩
    have c1:(ByteArray.mk #[112,97,115,115]:ByteArray)=mkS vB:=rfl
    have c2:(ByteArray.mk #[100,114,111,112]:ByteArray)=mkS ug:=rfl
    by_cases hbad:iG t'=true
    ·rw [if_pos hbad] at hgo
     rw [hgo,tP (by show ¬(10:Int)=0;decide)]
     rw [hbad] at hfb
     repeat' first|((with_reducible refine pk ?_);first|(refine zP (zT hW 2 4 (by decide) rfl rfl hfz) ?_)|(refine vD (vn 10 9 rfl (fun _=>rfl)) ?_))|refine auS ?_|(first|(simp only [w1,zI,hz,hb,zW,za,hfb,c1,c2,eq_self])|((with_reducible refine zy 25 ?_);(refine zx [1,9,2] [10] [1,9,2,10] rfl (by decide) rfl rfl (hline _ _ _) ?_))|((with_reducible refine xp 6 ?_ hcs hf ?_ ?_);(exact rfl);(exact rfl)))|refine auD ?_|(refine auW ?_ ?_<;>intro h<;>try exact auH)|(first|(simp only [hx0])|((with_reducible refine atN ?_);first|(refine zf ⟨by trivial,by trivial,by trivial,by trivial,(zI had).symm⟩ ?_)|(refine zf ⟨by trivial,by rw [zI];unfold y8 maxLen;simp only [List.length_cons,List.length_nil];omega⟩ ?_))|fail)
     all_goals try exact auP
     all_goals refine auV ?_
     all_goals try exact zc
     all_goals try simp only [hsM] at *
     all_goals rfl
    rw [if_neg hbad] at hgo
    have hbad':iG t'=false:=by simpa using hbad
    rw [hbad'] at hfb
    by_cases hpd:w0=vB∨w0=ug
    ·rw [if_pos hpd] at hgo
     rcases hpd with rfl|rfl
     ·have d1:decide (mkS vB=mkS vB)=true:=decide_eq_true rfl
      repeat' first|((with_reducible refine pk ?_);first|(refine zP (zT hW 2 4 (by decide) rfl rfl hfz) ?_)|(refine vD (vn 10 9 rfl (fun _=>rfl)) ?_))|refine auS ?_|(first|(simp only [w1,zI,hz,hb,zW,za,hfb,c1,c2,d1])|((with_reducible refine zy 25 ?_);(refine zx [1,9,2] [10] [1,9,2,10] rfl (by decide) rfl rfl (hline _ _ _) ?_))|((with_reducible refine xp 6 ?_ hcs hf ?_ ?_);(exact rfl);(exact rfl)))|refine auD ?_|(refine auW ?_ ?_<;>intro h<;>try exact auH)|(first|(simp only [hx0])|((with_reducible refine atN ?_);first|(refine zf ⟨by trivial,by trivial,by trivial,by trivial,(zI had).symm⟩ ?_)|(refine zf ⟨by trivial,by rw [zI];unfold y8 maxLen;simp only [List.length_cons,List.length_nil];omega⟩ ?_))|fail)
      all_goals try exact auP
      refine zn ⟨(i+1,p',had,gm,hn,gm+1),⟨hlt,hpl2,Nat.le_succ_of_le hhl,hwf2,hgo⟩,Nat.sub_lt_sub_left hlt (Nat.lt_succ_self i),?_⟩
      refine zo ?_ ?_ (Nat.le_refl _)
      all_goals first|refine auE ?_|exact zK
      all_goals repeat' first|exact trivial|exact rfl|apply And.intro
     ·have d1:decide (mkS ug=mkS vB)=false:=decide_eq_false (by rw [zg];decide)
      have d2:decide (mkS ug=mkS ug)=true:=decide_eq_true rfl
      repeat' first|((with_reducible refine pk ?_);first|(refine zP (zT hW 2 4 (by decide) rfl rfl hfz) ?_)|(refine vD (vn 10 9 rfl (fun _=>rfl)) ?_))|refine auS ?_|(first|(simp only [w1,zI,hz,hb,zW,za,hfb,c1,c2,d1,d2])|((with_reducible refine zy 25 ?_);(refine zx [1,9,2] [10] [1,9,2,10] rfl (by decide) rfl rfl (hline _ _ _) ?_))|((with_reducible refine xp 6 ?_ hcs hf ?_ ?_);(exact rfl);(exact rfl)))|refine auD ?_|(refine auW ?_ ?_<;>intro h<;>try exact auH)|(first|(simp only [hx0])|((with_reducible refine atN ?_);first|(refine zf ⟨by trivial,by trivial,by trivial,by trivial,(zI had).symm⟩ ?_)|(refine zf ⟨by trivial,by rw [zI];unfold y8 maxLen;simp only [List.length_cons,List.length_nil];omega⟩ ?_))|fail)
      all_goals try exact auP
      refine zn ⟨(i+1,p',had,gm,hn,gm+1),⟨hlt,hpl2,Nat.le_succ_of_le hhl,hwf2,hgo⟩,Nat.sub_lt_sub_left hlt (Nat.lt_succ_self i),?_⟩
      refine zo ?_ ?_ (Nat.le_refl _)
      all_goals first|refine auE ?_|exact zK
      all_goals repeat' first|exact trivial|exact rfl|apply And.intro
    rw [if_neg hpd] at hgo
    have d1:decide (mkS w0=mkS vB)=false:=decide_eq_false (fun q=>hpd (.inl (zg.1 q)))
    have d2:decide (mkS w0=mkS ug)=false:=decide_eq_false (fun q=>hpd (.inr (zg.1 q)))
    by_cases hin:w0∈had
    ·rw [if_pos hin] at hgo
     rw [hgo,tP (by show ¬(8:Int)=0;decide)]
     rw [decide_eq_true hin] at hcs
     repeat' first|((with_reducible refine pk ?_);first|(refine zP (zT hW 2 4 (by decide) rfl rfl hfz) ?_)|(refine vD (vn 10 9 rfl (fun _=>rfl)) ?_))|refine auS ?_|(first|(simp only [w1,zI,hz,hb,zW,za,hfb,c1,c2,d1,d2])|((with_reducible refine zy 25 ?_);(refine zx [1,9,2] [10] [1,9,2,10] rfl (by decide) rfl rfl (hline _ _ _) ?_))|((with_reducible refine xp 6 ?_ hcs hf ?_ ?_);(exact rfl);(exact rfl)))|refine auD ?_|(refine auW ?_ ?_<;>intro h<;>try exact auH)|(first|(simp only [hx0])|((with_reducible refine atN ?_);first|(refine zf ⟨by trivial,by trivial,by trivial,by trivial,(zI had).symm⟩ ?_)|(refine zf ⟨by trivial,by rw [zI];unfold y8 maxLen;simp only [List.length_cons,List.length_nil];omega⟩ ?_))|fail)
     all_goals try exact auP
     all_goals refine auV ?_
     all_goals try exact zc
     all_goals try simp only [hsM] at *
     all_goals rfl
    ·rw [if_neg hin] at hgo
     rw [decide_eq_false hin] at hcs
     have hsn:=kN had w0
     have hhl2:(had++[w0]).length=had.length+1:=by simp
     have hone:=ld had
     repeat' first|((with_reducible refine pk ?_);first|(refine zP (zT hW 2 4 (by decide) rfl rfl hfz) ?_)|(refine vD (vn 10 9 rfl (fun _=>rfl)) ?_))|refine auS ?_|(first|(simp only [w1,zI,hz,hb,zW,za,hfb,c1,c2,d1,d2,hsn])|((with_reducible refine zy 25 ?_);(refine zx [1,9,2] [10] [1,9,2,10] rfl (by decide) rfl rfl (hline _ _ _) ?_))|((with_reducible refine xp 6 ?_ hcs hf ?_ ?_);(exact rfl);(exact rfl)))|refine auD ?_|(refine auW ?_ ?_<;>intro h<;>try exact auH)|(first|(simp only [hx0])|((with_reducible refine atN ?_);first|(refine zf ⟨by trivial,by trivial,by trivial,by trivial,(zI had).symm⟩ ?_)|(refine zf ⟨by trivial,by rw [zI];unfold y8 maxLen;simp only [List.length_cons,List.length_nil];omega⟩ ?_))|fail)
     all_goals try exact auP
     refine zn ⟨(i+1,p',had++[w0],gm,gm+2,gm+3),⟨hlt,hpl2,by show (had++[w0]).length≤i+1;omega,hwf2,hgo⟩,Nat.sub_lt_sub_left hlt (Nat.lt_succ_self i),?_⟩
     refine zo ?_ ?_ (Nat.le_refl _)
     all_goals first|refine auE ?_|exact zK
     all_goals repeat' first|exact trivial|exact rfl|apply And.intro
     all_goals rw [hhl2]
 ·obtain rfl:i=ls.length:=by omega
  rw [List.drop_length,goP] at hgo
  have hchk:=xJ p false hwf (by unfold maxLen;omega)
  have hml3:(p.rs.map Rl.enc).length=p.rs.length:=by simp
  have hnf:yA Γ.g0 (p.rs.map Rl.enc):=zl (fun x=>by simp [nfL,nfD])
  have hfz:u_ ⟨rn,10,p.rs.map Rl.enc⟩ [p.enc (.sl 1 rn 10 0 p.rs.length false)] [p.enc (.snap 10 (p.rs.map Rl.enc) false)]:=by
   refine ⟨⟨rfl,rfl,rfl,rfl,rfl,rfl,.inl ⟨rfl,rfl,?_,?_⟩,rfl,rfl⟩,rfl⟩
   ·show 0+_≤_
    rw [hml3]
    omega
   ·show DV.snap _ _ _=DV.snap _ _ _
    rw [tH (by rw [hml3])]
  rw [hgo]
  unfold Xq
  dsimp only
  by_cases h5:had.length<5
  ·rw [if_pos h5,tP (by show ¬(7:Int)=0;decide)]
   repeat' first|((with_reducible refine pk ?_);(refine zP (zT hW 1 9 (by decide) rfl rfl hfz) ?_))|refine auS ?_|(first|(with_reducible refine z6 hchk ?_))|refine auD ?_|(refine auW ?_ ?_<;>intro h<;>try exact auH)|(first|(simp only [hrl])|fail)
   all_goals try exact auP
   all_goals refine auV ?_
   all_goals try exact zc
   all_goals try simp only [hsM] at *
   all_goals rfl
  rw [if_neg h5]
  by_cases hE:plE p=0
  ·rw [if_pos hE]
   rw [hE] at hchk
   have e:km (p,0,0)=.tup [dPl p false,.v (.int .i64 0),.v (.int .i64 0)]:=by
    unfold km pn
    rw [if_pos rfl]
   rw [e]
   repeat' first|((with_reducible refine pk ?_);(refine zP (zT hW 1 9 (by decide) rfl rfl hfz) ?_))|refine auS ?_|(first|(with_reducible refine z6 hchk ?_))|refine auD ?_|(refine auW ?_ ?_<;>intro h<;>try exact auH)|(first|(simp only [hrl])|fail)
   all_goals try exact auP
   all_goals refine auV ?_
   all_goals try exact zc
   all_goals try simp only [hsM] at *
   all_goals rfl
  ·rw [if_neg hE,tP hE]
   generalize plE p=E at *
   repeat' first|((with_reducible refine pk ?_);(refine zP (zT hW 1 9 (by decide) rfl rfl hfz) ?_))|refine auS ?_|(first|(with_reducible refine z6 hchk ?_))|refine auD ?_|(refine auW ?_ ?_<;>intro h<;>try exact auH)|(first|(simp only [hrl])|fail)
   all_goals try exact auP
   all_goals refine auV ?_
   all_goals try exact zc
   all_goals try simp only [hsM] at *
   all_goals rfl
end Go.Proofs.YtaiileiodjicpaaGreatDoor.R
