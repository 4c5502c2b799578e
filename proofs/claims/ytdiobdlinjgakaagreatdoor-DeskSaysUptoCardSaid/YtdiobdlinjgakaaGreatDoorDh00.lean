import Derived.Test.YtdiobdlinjgakaaGreatDoorProg
import Derived.Carry
import Derived.IntWalk
import Derived.KernelRfl
import Derived.OpenShut
import Derived.Orders
import Derived.ProofKit
import Derived.WalkKit
import Derived.Tactics2
import Derived.Laws.Rows
import Derived.LaidLaws
set_option linter.unusedVariables false
set_option linter.unusedSimpArgs false
set_option maxHeartbeats 8000000
set_option maxRecDepth 100000
namespace Go.Proofs.YtdiobdlinjgakaaGreatDoor
variable {p:Prop}
theorem J{q c:Prop}(a:c)(h:q)(e:c->q->p:=by intro a b;with_reducible exact fS a b):p:=e a h
theorem bs(e:p:=by
 refine dB ?_ ?_ (Nat.le_refl _);all_goals first|refine dD ?_|exact dE
 all_goals repeat' first|exact trivial|exact rfl|apply And.intro):p:=e
theorem b0(e:p:=by
 all_goals(refine cI ?_;first|exact cc|try simp only[cE]at *)
 all_goals rfl):p:=e
theorem G(e:p:=by omega):p:=e
theorem bM(e:p:=by all_goals(refine cI ?_;first|exact cc|try simp only[cE]at *)):p:=e
theorem ae(e:p:=by decide):p:=e
theorem tw(e:p:=by
 all_goals with_reducible refine zf (by(try first|refine kM ?_|exact cc);(repeat' (first|exact trivial|exact rfl|exact eS (fun x=>by simp[eV,dn,dn,eV,r3])|decide|apply And.intro))) ?_
 all_goals (try first|refine kM ?_|exact cc)
 all_goals (try simp only[cE]at *)
 all_goals rfl):p:=e
theorem Rw(e:p:=by simp only[dt,aU,List.length_append,List.length_cons,List.length_nil,mb,ns,iB,alj,afr,List.length_take,List.length_drop];omega):p:=e
theorem Qw(e:p:=by simp only[dt,aU,List.length_append,mb,ns,iB,mP,List.length_take,List.length_drop];omega):p:=e
theorem Y7(e:p:=by
 repeat' first|refine af ?_|simp only[lB,CW]|refine ag ?_|refine ab ?_ ?_<;>intro h<;>try exact aa|simp only[Int.toNat_natCast,dU]|refine aK ⟨by trivial,by unfold cx maxLen;rw[s6];simp;omega⟩ ?_|exact al|fail
 all_goals try exfalso;simp_all;done
 all_goals (refine br ⟨(k+1,bR+2,bR+3),aN,Nat.sub_lt_sub_left aN (Nat.lt_succ_self k),?_⟩;dsimp only;rw[a8,dk,gn];(refine dB ?_ ?_ (Nat.le_refl _));(all_goals first|refine dD ?_|exact dE);(all_goals (repeat' (first|exact trivial|exact rfl|apply And.intro))))):p:=e
theorem aaf(e:p:=by
 rw[<-sc]at a_ a8;obtain⟨lM,lF,amt⟩:=a6;repeat' first|refine af ?_|simp only[lB,CW]|refine ag ?_|refine ab ?_ ?_<;>intro h<;>try exact aa|simp only[Int.toNat_natCast,dU]|exact al|fail
 all_goals try exfalso;simp_all;done
 all_goals (refine br ⟨(k+1,n8,bR+1),aN,Nat.sub_lt_sub_left aN (Nat.lt_succ_self k),?_⟩;dsimp only;rw[a_,a8];(refine dB ?_ ?_ (Nat.le_refl _));(all_goals first|refine dD ?_|exact dE);(all_goals (repeat' (first|exact trivial|exact rfl|apply And.intro))))):p:=e
theorem aH(e:p:=by trivial):p:=e
theorem tY(e:p:=by simp only[dt,aU,List.length_append,mb,ns,iB,List.length_cons,List.length_nil,List.length_replicate];omega):p:=e
theorem YD(e:p:=by all_goals first|exact trivial|simp at ek;subst ek;exact⟨1,_,rfl,rfl⟩|simp only[fo,dn];(repeat' (first|exact trivial|exact rfl|apply And.intro));done|refine⟨⟨.inr ⟨GB,rfl⟩,rfl,?_⟩,⟨.inr ⟨nr,rfl⟩,rfl,gK _ ⟨⟨Hr _ _,trivial,trivial⟩,trivial⟩⟩,⟨.inl ⟨0,rfl,rfl⟩,rfl,gK _ (eS (fun x=>by simp[eV,dn]))⟩,rfl⟩;refine⟨?_,rfl⟩;simp only[jX,fo,dn];(repeat' (first|exact trivial|exact rfl|exact⟨_,_,.inl ⟨0,rfl,rfl⟩,rfl⟩|apply And.intro))):p:=e
theorem yg(e:p:=by all_goals exact iT (by(try first|refine kM ?_|exact cc);repeat' (first|exact trivial|exact rfl|decide|apply And.intro)) (by(try first|refine kM ?_|exact cc);repeat' (first|exact trivial|exact rfl|decide|apply And.intro)) rfl rfl bd ⟨⟨Hr _ _,trivial,trivial⟩,trivial⟩ rfl):p:=e
theorem aF(e:p:=by simp):p:=e
theorem Sh(e:p:=by
 repeat' first|refine af ?_|refine ag ?_|refine ab ?_ ?_<;>intro h<;>try exact aa|simp only[lB]|exact al|fail
 all_goals try (exfalso;simp_all;done)
 refine br ⟨(j+1,rl),⟨aN,Nat.sub_lt_sub_left aN (Nat.lt_succ_self j),?_⟩⟩;refine dB ?_ ?_ (Nat.le_refl _);all_goals first|refine dD ?_|exact dE
 all_goals repeat' first|exact trivial|exact rfl|apply And.intro
 all_goals (refine fA ?_;rw[H9,kg,<-Bool.and_assoc,eX];generalize (aC.ms.take j).all (nV t)=amq at *;clear kg H9;simp_all)):p:=e
theorem DX(e:p:=by
 unfold py at aj;cases da<;>cases op
 all_goals (simp only[if_true,if_false,Bool.false_eq_true]at tj)
 all_goals
 refine az {} 0 func239 fun Γ an=>ar ?_
 repeat' first|refine af ?_|refine ag ?_|refine ab ?_ ?_<;>intro h<;>try exact aa|simp only[fr,tj,bg]|exact al|fail
 all_goals(refine cI ?_;first|exact cc|try simp only[cE]at *)
 all_goals (rcases aj with⟨rfl,rfl⟩|⟨rfl,rfl⟩|⟨rfl,rfl|rfl|rfl⟩|⟨rfl,rfl⟩<;>first|rfl|exfalso;simp_all [bl,bD,eO];done|simp only[abf,ahX,ajP,acL];rfl)):p:=e
theorem S1(e:p:=by
 have bF:i<ho.length:=by rw[h1];exact(List.getElem?_eq_some_iff.1 bf).1
 exact js i ho[i] c (List.getElem?_eq_getElem bF) bn d (h2 i _ _ (List.getElem?_eq_getElem bF) bf)):p:=e
theorem x8(e:p:=by all_goals exact iT (by(try first|refine kM ?_|exact cc);repeat' (first|exact trivial|exact rfl|decide|apply And.intro)) (by(try first|refine kM ?_|exact cc);repeat' (first|exact trivial|exact rfl|decide|apply And.intro)) rfl rfl bd ⟨⟨p5 _ _,trivial⟩,trivial⟩ rfl):p:=e
theorem n9(e:p:=by simp only[aU,List.length_append,List.length_cons,List.length_nil];omega):p:=e
theorem dw(e:p:=by rw[dF];decide):p:=e
theorem TZ(e:p:=by
 all_goals try (exfalso;simp_all;done)
 all_goals
  refine br ⟨(j+1,rl+1),Ez,Nat.sub_lt_sub_left Ez (Nat.lt_succ_self j),?_⟩;refine dB ?_ ?_ (Nat.le_refl _);all_goals first|refine dD ?_|exact dE
  all_goals repeat' first|exact trivial|exact rfl|apply And.intro
 all_goals (refine fA ?_;rw[IG,pV,<-Bool.and_assoc,IN];clear IG pV IN kg eX H9;simp_all;try omega)):p:=e
theorem abN(e:p:=by simp only[aU,List.length_take,List.length_drop];omega):p:=e
theorem ZE(e:p:=by
 refine ej {} 0 func243 fun Γ cT eg=>ar ?_
 have bd:n<Γ.g0:=cT 0 _ rfl;repeat' first|refine af ?_|simp only[aU,bl]|refine J a6 ?_|refine J bV ?_|refine ag ?_|refine ab ?_ ?_<;>intro h<;>try exact aa|exact al|fail
 all_goals exact iT trivial trivial rfl rfl bd ⟨⟨kZ _,trivial,trivial⟩,trivial⟩ rfl):p:=e
theorem LK(e:p:=by
 refine⟨aI,sB,Nat.le_refl _,by simp[A6.1];omega,rfl,?_⟩;refine HP ho gP eH (fun s=>by rw[CD];exact .any _) (fun i d s bf aj=>?_);have e:=aau i s aj;have bF:i<lH.size:=by rw[A6.1];exact(List.getElem?_eq_some_iff.1 bf).1
 have:(lH++Array.replicate (fn.ntmps-lH.size) undef).getD s.nat undef=lH[i]:=by
  rw[e,Array.getD_eq_getD_getElem?,Array.getElem?_append_left bF,Array.getElem?_eq_getElem bF];rfl
 rw[this];exact A6.2 i d _ bf (Array.getElem?_eq_getElem bF)):p:=e
theorem CV(e:p:=by
 refine az {} 0 func60 fun Γ an=>ar ?_
 repeat' first|refine af ?_|refine ag ?_|refine ab ?_ ?_<;>intro h<;>try exact aa|fail
 all_goals(refine cI ?_;first|exact cc|try simp only[cE]at *)
 .exact fA (by simp[h])
 exact fA (by simp[h])):p:=e
theorem uE(e:p:=by
 refine⟨by simp[h1],fun i a b ek bO=>?_⟩;cases i with
 |zero=>simp at ek bO;rw[<-ek,<-bO];exact h.1
 |succ i=>exact h2 i a b (by simpa using ek) (by simpa using bO)):p:=e
theorem b4(e:p:=by kernel_rfl):p:=e
theorem aiv(e:p:=by
 show aJ cH w ((st.tm.set s _).get q) _;rw[bQ.iP];by_cases e:q=s
 .subst e;rw[if_pos rfl];generalize a.tmps.getD q.nat undef=v at eX;cases eX with
  |ptr dm=>
   have aP:o.xs[i]?=some (cf o.xs i):=by rw[lZ,List.getElem?_eq_getElem yA];rfl
   have bn:∀(t:Nat)(d:O),(fT (cf o.xs i) j)[t]?=some d->∃c,eC[i*sz+(j+t)]?=some c/\aJ cH w d c:=by
    intro t d bf;rw[oc,List.getElem?_drop]at bf;obtain⟨c,ez,cR⟩:=oQ i (cf o.xs i) (j+t) d aP bf;rw[ic]at ez;exact⟨c,ez,cR.mono bg⟩
   refine .bY (fun t=>(eC[i*sz+(j+t)]?).getD undef) rfl ?_ ?_ (fun t d bf=>?_) (fun t d bf=>?_)
   .show K.aD n<_;rw[<-fc];exact aI.lt _ bp
   .rintro⟨_,h2⟩;exact h2 (by rw[fc])
   .obtain⟨c,ez,_⟩:=bn t d bf;rw[addr_add,cell_of_row w _ _ eC u6 oD (by rw[<-fc];exact e8),Nat.add_assoc,ez];rfl
   obtain⟨c,ez,cR⟩:=bn t d bf;simp only[ez,Option.getD_some];exact cR
 rw[if_neg e];exact(e2.tm q).mono bg):p:=e
theorem LD(e:p:=by
 rw[e];refine ej {} 2 func249 fun Γ cT eg=>ar ?_
 have bd:=cT 0 _ rfl;repeat' first|refine af ?_|refine ag ?_|refine ab ?_ ?_<;>intro h<;>try exact aa|exact al|fail
 refine iT trivial ?_ rfl rfl bd ?_ rfl
 .first|exact trivial|exact bd|simp[fB,hp,dn,eV];done|show _<_;exact bd|show dn _ _;simp[dn,bd]
 refine⟨⟨trivial,trivial,trivial,trivial,trivial,?_,trivial⟩,trivial⟩;show c1 _ _;exact eS (fun x=>by simp[Mp.enc,eV,dn])):p:=e
theorem ZM(e:p:=by simp only[aU,List.length_append,List.length_take,List.length_drop,iB,ns];omega):p:=e
theorem alC(e:p:=by simp only[aU,List.length_append,mb];omega):p:=e
theorem fg(e:p:=by unfold maxLen;omega):p:=e
theorem sQ(e:p:=by exact .inl ((Option.some.inj h2).symm.trans (Option.some.inj h1))):p:=e
theorem acn(e:p:=by
 obtain⟨bp,en,e8⟩:=cw.1 eY;first
  |(have ma:=en ff (by(simp only[gu,reduceCtorEq]at *<;>omega)) b3;(try simp only[decide_eq_true_eq]at *);omega)
  |(rw[e8]at h;simp at h;done)
  |(rw[show pO t.a t.b t.c t.d t.s t.o t.x=true from bp]at h;cases h)):p:=e
theorem Oy(e:p:=by
 have h2:=adP h1 Hu sT;refine⟨K.ud st.gen,?_,fun aq h=>?_,Nat.le_succ_of_le e2.g0,e2.size,e2.defers,fun q=>(e2.tm q).mono bg⟩
 .have e:aB (cl (cl st.H j (some ⟨n,s,[y]⟩)) k (some ⟨st.gen,sz,[]⟩))=fun q=>if q=j then some (⟨n,s,[y]⟩:aR)else(fun q=>if q=k then some (⟨st.gen,sz,[]⟩:aR)else aB st.H q) q:=by
   funext q;rw[lS,lS];by_cases a_:q=k
   .rw[if_pos a_,if_neg (fun a8=>qg (a8.symm.trans a_))];exact(if_pos a_).symm
   rw[if_neg a_];by_cases a8:q=j
   .rw[if_pos a8,if_pos a8]
   rw[if_neg a8,if_neg a8];exact(if_neg a_).symm
  show Inv Γ _ (aB (cl (cl st.H j _) k _)) w;rw[e];exact h2
 rcases h with h|h
 .have:=e2.fresh aq h;show aq<st.gen+1;omega
 show aq<st.gen+1;omega):p:=e
theorem acP(e:p:=by
 repeat' first|refine af ?_|refine ag ?_|refine ab ?_ ?_<;>intro h<;>try exact aa|simp only[List.length_map,cy,Int.toNat_natCast,alg]|exact al|fail
 refine br ⟨(),trivial,?_⟩;refine dB ?_ ?_ (Nat.le_refl _);all_goals first|refine dD ?_|exact dE
 all_goals repeat' first|exact trivial|exact rfl|apply And.intro
 exact eG (b3 gf).2.symm):p:=e
theorem kF(e:p:=by rw[List.length_take];omega):p:=e
theorem aez(e:p:=by
 refine ev (j1 (ach ⟨.d0,.d0,.d6⟩ rfl)) (ev (j1 (UI 0 (i+(l.length-j)) rfl)) (iT trivial bd ?_ rfl bd (eS (fun x=>by simp[eV,dn])) ?_))
 .have e:(l.take i++l.drop j).length=i+(l.length-j):=by simp;omega
  rw[e];rfl
 refine(alo (by rw[hh];simp;omega)).trans ?_;rw[hh,List.map_append,List.map_take]):p:=e
theorem so(e:p:=by
 unfold dh;split
 .rename_i aq bg;exact(b8.tm aq (List.mem_of_getElem? bg)).1
 exact Int.le_refl _):p:=e
theorem Hg(e:p:=by
 cases i with
 |zero=>
  simp at ay;subst ay;rw[Nat.add_zero,h1]at ez;rw[Nat.add_zero,h2]at cR;obtain rfl:=Option.some.inj ez;obtain rfl:=Option.some.inj cR;rw[bI,bO]
 |succ i=>simp at ay):p:=e
theorem fY(e:p:=by simp[eV,dn]):p:=e
theorem c7(e:p:=by simp;omega):p:=e
theorem AT(e:p:=by
 refine dB ?_ ?_ (Nat.le_refl _);all_goals first|refine dD ?_|exact dE
 all_goals repeat' first|exact trivial|exact rfl|apply And.intro
 all_goals first|rfl):p:=e
theorem ts(e:p:=by rw[km];unfold cx maxLen;simp only[List.length_cons,List.length_nil];omega):p:=e
theorem R9(e:p:=by
 all_goals(refine cI ?_;first|exact cc|try simp only[cE]at *)
 rw[a6];simp[bU, *]):p:=e
theorem vU(e:p:=by simp only[aU,Int.toNat_natCast];omega):p:=e
theorem O9(e:p:=by
 refine dB ?_ ?_ (Nat.le_refl _);all_goals first|refine dD ?_|exact dE
 all_goals repeat' first|exact trivial|exact rfl|apply And.intro
 all_goals (refine fA ?_;simp)):p:=e
theorem sZ(e:p:=by intro x aP;simp only[List.mem_cons,List.not_mem_nil,or_false]at aP;omega):p:=e
theorem JK(e:p:=by all_goals exact iT trivial trivial rfl rfl bd ⟨⟨kZ _,trivial,trivial⟩,trivial⟩ rfl):p:=e
theorem qP(e:p:=by unfold cx maxLen;simp[i_];omega):p:=e
theorem Pt(e:p:=by
 dsimp only[List.map];repeat' first|refine af ?_|with_reducible refine hZ ?_|refine ag ?_|refine ab ?_ ?_<;>intro h<;>try exact aa|fail
 .refine Wz (j1 (gU ⟨.d0,.d0,.d2⟩ 1 5 rfl rfl)) ?_;exact ua 1 (fun n=>.aG 1 n 5 0 0 false) trivial rfl (Nat.le_refl _) trivial (fun n=>.inl ⟨rfl,rfl⟩) (fun n=>⟨rfl,rfl⟩)
 exact ua 1 (fun n=>.aG 1 n 5 0 0 false) trivial rfl (by show Γ.g0<=Γ.g0+1;omega) trivial (fun n=>.inl ⟨rfl,rfl⟩) (fun n=>⟨rfl,rfl⟩)):p:=e
theorem ahv(e:p:=by
 rw[ay]at bV;unfold pQ at ay;rw[decide_eq_false_iff_not]at ay;repeat' first|refine af ?_|simp only[cy,lB]|refine ag ?_|refine ab ?_ ?_<;>intro h<;>try exact aa|simp only[Int.toNat_natCast,dU]|exact al|fail
 all_goals (refine br ⟨(k+1,bR+1),⟨aN,bV⟩,Nat.sub_lt_sub_left aN (Nat.lt_succ_self k),?_⟩;(refine dB ?_ ?_ (Nat.le_refl _));(all_goals first|refine dD ?_|exact dE);(all_goals (repeat' (first|exact trivial|exact rfl|apply And.intro))))):p:=e
theorem ahs(e:p:=by
 have bn:=vE;unfold mR at bn;rw[decide_eq_true_eq]at bn;have rV:eb jM [] ms=false:=JJ bg BQ (by unfold jM;rw[List.all_eq_false.2 ⟨y,LJ,by simp[vE]⟩,Bool.and_false]);repeat' first|refine af ?_|refine ag ?_|refine ab ?_ ?_<;>intro h<;>try exact aa|simp only[Int.toNat_natCast,yQ]|exact al|fail
 all_goals(refine cI ?_;first|exact cc|try simp only[cE]at *)
 all_goals (rw[rV];rfl)):p:=e
theorem M1(e:p:=by
 have q:=B.adh t0.ra t0.mo t0.aj t0.tm now (t.length:Nat);rw[show B.pT t0.ra t0.mo t0.aj t0.tm now (t.length:Nat)=B.hX t0.ra t0.mo (B.mB t0.ra t0.mo t0.aj t0.tm now (t.length:Nat)) now by unfold B.pT;rw[if_pos bu],bu]at q;exact q):p:=e
theorem ajT(e:p:=by
 all_goals first
  |exact trivial
  |(simp at ek;subst ek;exact⟨4,_,rfl,rfl⟩)
  |(simp only[fo,jX];(repeat' (first|exact trivial|exact rfl|apply And.intro));done)
  |(refine⟨⟨.inr ⟨BO,rfl⟩,rfl,?_⟩,⟨.inr ⟨EE,rfl⟩,rfl,gK _ ⟨⟨trivial,trivial⟩,trivial⟩⟩,⟨.inl ⟨0,rfl,rfl⟩,rfl,gK _ (N4 _ _)⟩,rfl⟩
    refine⟨?_,rfl⟩;simp only[jX,fo,dn];exact⟨⟨1,aq,.inl ⟨0,rfl,rfl⟩,by rw[gh]⟩,trivial⟩)):p:=e
theorem Nd(e:p:=by
 match i,aP,bn with
 |0,aP,bn=>
  obtain rfl:=Option.some.inj aP;obtain rfl:=Option.some.inj bn;exact .v _
 |1,aP,bn=>
  obtain rfl:=Option.some.inj aP;obtain rfl:=Option.some.inj bn;exact bf
 |i+2,aP,bn=>simp at aP):p:=e
theorem zl(e:p:=by rw[hh,kH,<-List.map_drop,<-List.map_take,List.take_of_length_le (by rw[List.length_drop];omega)]):p:=e
theorem X4(e:p:=by
 rw[e];refine ej {} 2 func249 fun Γ cT eg=>ar ?_
 have bd:=cT 0 _ rfl;have bg:=cT 1 _ rfl;repeat' first|refine af ?_|refine ag ?_|refine ab ?_ ?_<;>intro h<;>try exact aa|exact al|fail
 refine AK trivial ?_ rfl rfl bd ?_ bg (kl _ _)
 .first|exact trivial|exact bd|simp[fB,hp,dn,eV];done|show _<_;exact bd|show dn _ _;simp[dn,bd]
 exact⟨⟨trivial,trivial,trivial,trivial,trivial,bg,trivial⟩,trivial⟩):p:=e
theorem L9(e:p:=by
 repeat' first|refine af ?_|refine ag ?_|refine ab ?_ ?_<;>intro h<;>try exact aa|exact al|fail
 all_goals(refine cI ?_;first|exact cc|try simp only[cE]at *)
 all_goals (refine fA ?_;first|simp_all;done|simp_all;omega)):p:=e
theorem LH(e:p:=by
 rintro e je gO ⟨hI,cH,ky,ay⟩;cases e with
 |normal=>exact iG je gO hI cH ky ay
 |ret=>exact iG je gO hI cH ky ay
 |exit i=>exact ay.elim
 |goto l=>exact ay.elim
 |panic ams=>exact ay.elim
 |outgrown=>exact ay.elim):p:=e
theorem hc(e:p:=by simpa using h):p:=e
theorem alY(e:p:=by
 repeat' first|refine af ?_|refine ag ?_|refine ab ?_ ?_<;>intro h<;>try exact aa|simp only[Int.toNat_natCast,yQ]|exact al|fail
 all_goals (simp only[Aa];refine br ⟨(j+1,cR+1),⟨qg,aik⟩,Nat.sub_lt_sub_left qg (Nat.lt_succ_self j),?_⟩;(refine dB ?_ ?_ (Nat.le_refl _));(all_goals first|refine dD ?_|exact dE);(all_goals (repeat' (first|exact trivial|exact rfl|apply And.intro))))):p:=e
theorem Jz(e:p:=by
 rw[<-aI.ext.keep g b8 an];refine eI.ext.keep g (Nat.lt_of_lt_of_le b8 aI.ext.size) (fun hl=>?_);obtain⟨k,o,_,h,aT,bu⟩:=r0 g hl;rcases(aI.own k o h aT).2 with h1|h1
 .omega
 exact an (bu▸h1)):p:=e
theorem LG(e:p:=by
 rintro g ⟨i,o,h,aT,bu⟩;rw[KH]at h;cases bq:ks[i]? with
 |none=>rw[bq]at h;cases h
 |some k=>rw[bq]at h;exact⟨k,o,List.mem_of_getElem? bq,(bT k (List.mem_of_getElem? bq)).trans h,aT,bu⟩):p:=e
theorem Pk(e:p:=by
 have eX:=aT s (List.mem_append.2 (.inr (by rw[b8];simp[Kl])));rw[bT]at eX;have e:=cQ eX;have a8:a.tmps[s.nat]?=some (.bool t):=by
  rw[Array.getD_eq_getD_getElem?]at e;cases ay:a.tmps[s.nat]? with
  |none=>rw[ay]at e;simp[undef]at e
  |some q=>rw[ay]at e;simp at e;rw[e]
 simp only[Region.wanted,cB,yielded,IS,Option.bind_some,a8];cases t<;>cases b<;>rfl):p:=e
theorem aic(e:p:=by
 all_goals (clear cT eg CR eE bf bX aj)
 all_goals first|rw[Ku];rotate_left;iterate 2 (focus (simp_all;done))|rw[aaD];rotate_left;iterate 3 (focus (simp_all;done))|rw[Mt];rotate_left;iterate 3 (focus (simp_all;done))|rw[MR];rotate_left;iterate 3 (focus (simp_all;done))|exfalso;simp_all;done
 all_goals refine A.AK trivial ⟨trivial,trivial,trivial⟩ rfl rfl bd (J9 _ _ _ _ bg) bg (px _ _)):p:=e
theorem fE(e:p:=by simp at h):p:=e
theorem ab8(e:p:=by
 all_goals (clear cT eg CR eE bF aj)
 all_goals first|rw[FV];rotate_left;iterate 1 (focus (simp_all;done))|rw[Pz];rotate_left;iterate 3 (focus (simp_all;done))|rw[Uw];rotate_left;iterate 4 (focus (simp_all;done))|rw[Lc];rotate_left;iterate 2 (focus (simp_all;done))|exfalso;simp_all;done
 all_goals refine A.AK trivial ⟨trivial,trivial,trivial⟩ rfl rfl bd (J9 _ _ _ _ bg) bg (px _ _)):p:=e
theorem aaN(e:p:=by
 cases Yk:h6 nD.toList nC 0 with
 |none=>
  rw[Yk]at bV;simp[execOp,iw,bB,a8,Instr.lookup,run_underlying cG,MapKept.run_getObj_map bO,yT Bv e0,bV,V6 b3]
 |some amm=>
  rw[Yk]at bV;simp[execOp,iw,bB,a8,Instr.lookup,run_underlying cG,MapKept.run_getObj_map bO,yT Bv e0,bV]):p:=e
theorem hT(e:p:=by exact Nat.le_refl _):p:=e
theorem Mz(e:p:=by
 all_goals(refine cI ?_;first|exact cc|try simp only[cE]at *)
 all_goals (refine fA ?_;first|simp_all;done|simp_all;omega|simp_all [decide_eq_decide];omega|simp_all;rw[Bool.eq_iff_iff];simp;omega)):p:=e
theorem aae(e:p:=by
 obtain⟨bF,_⟩:=Ko i x aP;obtain⟨c,ez,_⟩:=JP i x j d aP bf;rcases h with h|⟨dm,Rg,ue⟩
 .omega
 rw[b5]at Rg;obtain rfl:=Option.some.inj Rg;rw[addr_add,cell_of_row w _ _ eC u6 oD (by rw[<-fc];exact e8)];have a_:jB*sz+(i*sz+j)=(jB+i)*sz+j:=by rw[Nat.add_mul];omega
 rw[a_,ez];rfl):p:=e
theorem yz(e:p:=by simp only[cx,maxLen,List.length_map,List.length_cons]at hl⊢;omega):p:=e
theorem Fv(e:p:=by unfold cx maxLen;rw[s6];simp;omega):p:=e
theorem Vo(e:p:=by
 refine dB ?_ ?_ (Nat.le_refl _);all_goals first|refine dD ?_|exact dE
 all_goals repeat' first|exact trivial|exact rfl|apply And.intro
 all_goals exact aaz _):p:=e
theorem l0(e:p:=by exact base (fun eC e=>by cases e)):p:=e
theorem Zv(e:p:=by
 refine az {} 0 func214 fun Γ an=>ar ?_
 repeat' first|refine af ?_|refine J dV ?_|refine J e0 ?_|simp only[zW]|refine ag ?_|refine ab ?_ ?_<;>intro h<;>try exact aa|exact al|fail
 all_goals try exfalso;simp at h;done
 all_goals(refine cI ?_;first|exact cc|try simp only[cE]at *)
 all_goals first|rfl|exfalso;omega):p:=e
theorem BE(e:p:=by rw[fM];unfold cx maxLen;simp only[List.length_cons,List.length_nil];omega):p:=e
theorem Ji(e:p:=by
 intro j p a6;rw[lS]at a6;by_cases e:j=k
 .rw[if_pos e]at a6;cases a6
 rw[if_neg e]at a6;exact⟨e,a6⟩):p:=e
theorem iS(e:p:=by dsimp only;omega):p:=e
theorem ahF(e:p:=by
 simp only[List.map_cons,List.map_nil,List.sum_cons,List.sum_nil,List.length_cons,List.length_nil,hB]at *;omega):p:=e
theorem Kb(e:p:=by
 all_goals(refine cI ?_;first|exact cc|try simp only[cE]at *)
 all_goals first|rfl|exfalso;omega):p:=e
theorem PY(e:p:=by
 refine az {} 0 func251 fun Γ an=>ar ?_
 repeat' first|refine af ?_|refine J h1 ?_|simp only[o0,ahf,aj,aP]|refine ag ?_|refine ab ?_ ?_<;>intro h<;>try exact aa|exact al|fail
 all_goals(refine cI ?_;first|exact cc|try simp only[cE]at *)
 all_goals first|rfl|exfalso;simp at h;done):p:=e
theorem Rj(e:p:=by
 have:(eU p w0 (r,false)).1.rs.length<=p.rs.length+1:=by
  unfold eU;split
  .exact Nat.le_succ _
  split
  .exact Nat.le_succ _
  split
  .exact Nat.le_succ _
  split
  .exact Nat.le_succ _
  split
  .exact Nat.le_succ _
  simp
 omega):p:=e
theorem alF(e:p:=by
 unfold ke at eY;simp only[Bool.and_eq_true,List.all_eq_true,Bool.not_eq_true',decide_eq_false_iff_not]at eY;have q:=eY.2 y LJ;first
  |(have bp:=q.1;rw[decide_eq_true_eq]at h;exact bp h)
  |(rw[show qL y.a y.b y.c y.d t.a t.b t.c t.d=false from q.2]at h;cases h)):p:=e
theorem aa1(e:p:=by exact congrArg (fun q=>O.snap 5 q false) kQ.symm):p:=e
theorem Vs(e:p:=by
 funext q;have:∀n,mz S st (ea (Array.replicate ops.size false)) n q=aB st.H q:=by
  intro n;induction n with
  |zero=>rfl
  |succ n js=>
   show(if ea _ n=true/\uq S n q then _ else mz S st _ n q)=_;rw[if_neg (by rw[b3];simp)];exact js
 exact this _):p:=e
theorem PT(e:p:=by
 intro s;have:∀n,nH S st (ea (Array.replicate ops.size false)) n s=st.tm.get s:=by
  intro n;induction n with
  |zero=>rfl
  |succ n js=>
   show(if ea _ n=true/\ti S n s then _ else nH S st _ n s)=_;rw[if_neg (by rw[b3];simp)];exact js
 exact this _):p:=e
theorem uo(e:p:=by show tC.length+(i+1)<=s.length;omega):p:=e
theorem yi(e:p:=by rw[List.length_drop];omega):p:=e
theorem wJ(e:p:=by simp only[cv,List.length_take,List.length_drop];omega):p:=e
theorem nu(e:p:=by rw[List.map_append];rfl):p:=e
theorem BB(e:p:=by unfold cx maxLen;simp only[List.length_cons,List.length_nil];omega):p:=e
theorem Ow(e:p:=by
 subst xP;simp only[execOp,iw,a_,a8,Sem.run_bind,b8,Result.andThen_ok,binOp,bO,Sem.run_pure,ih]):p:=e
theorem kO(e:p:=by dsimp only;decide):p:=e
theorem SM(e:p:=by
 rw[z6]at h;exact vg h (fun K w lH eX=>⟨eX.1,fun i x v aP bB=>by
  match i,aP with
  |0,aP=>
   obtain rfl:=Option.some.inj aP;exact Ix (eX.2 0 _ v rfl bB) _ ⟨.inl rfl,.inl rfl,.inl rfl,.inl rfl,.inl rfl,.inl rfl,.inr ⟨rfl,_,rfl⟩,.inl rfl,rfl⟩⟩)):p:=e
theorem Eh(e:p:=by rw[List.getElem?_take,if_pos qg];exact bB):p:=e
theorem IB(e:p:=by
 obtain⟨dV,aci,h1,a_⟩:=aI.ext.shape g eC t ax eY;obtain⟨e0,ag4,h2,a8⟩:=bg.ext.shape g dV t aci h1;exact⟨e0,ag4,h2,a8.trans a_⟩):p:=e
theorem W6(e:p:=by
 all_goals(refine cI ?_;first|exact cc|try simp only[cE]at *)
 all_goals first|rfl|exfalso;simp at h;done):p:=e
theorem Ub(e:p:=by
 unfold Dx at bI;split at bI
 .simp_all
 .rename_i j Xc ae0 EJ cJ aP;simp only[Option.some.injEq,Prod.mk.injEq]at aP;obtain⟨rfl,rfl⟩:=aP;simp only[Bool.and_eq_true,decide_eq_true_eq,beq_iff_eq]at bI;exact⟨j,by rw[cJ,bI.1],bI.2⟩
 cases bI):p:=e
theorem Ep(e:p:=by simp only[part,Sem.run_bind,mi,u5,Result.andThen_ok,if_true,mD qj,Z8,Sem.run_pure]):p:=e
theorem Qo(e:p:=by
 have:=dm _ bp kZ.1;refine .inr (.inl ⟨this.1,eC,t,oD,Gy,by rw[this.2];exact en,e8,ma,fun i x j d aP bf=>?_⟩);obtain⟨EJ,h1,h2⟩:=nd i x j d aP bf;exact⟨EJ,h1,zk dm oV h2 (sN (F_.1 kZ.2 x (List.mem_of_getElem? aP)) bf)⟩):p:=e
theorem aaW(e:p:=by
 match i,aP with
 |0,aP=>
  obtain rfl:=Option.some.inj aP;exact Ix (eX.2 0 _ v rfl bB) _ ⟨.inl rfl,.inl rfl,.inl rfl,.inl rfl,.inl rfl,.inl rfl,.inl rfl,.inr ⟨rfl,_,rfl⟩,.inl rfl,rfl⟩
 |1,aP=>exact eX.2 1 x v aP bB
 |2,aP=>exact eX.2 2 x v aP bB):p:=e
theorem G_(e:p:=by
 rw[lS]at a6;by_cases e:j=k
 .rw[if_pos e]at a6;cases a6
 rw[if_neg e]at a6;exact a6):p:=e
theorem WU(e:p:=by simp at ek;subst ek;exact⟨4,_,rfl,rfl⟩):p:=e
theorem sf(e:p:=by simp only[fo];exact⟨trivial,h⟩):p:=e
theorem rJ(e:p:=by intro c bn;simp at bn<;>omega):p:=e
theorem Cm(e:p:=by simp only[fo,dn]at h⊢;exact⟨k,aq,.inr ⟨h,rfl⟩,rfl⟩):p:=e
theorem F1(e:p:=by first|omega|(simp only[List.length_map,List.length_drop,List.length_take];omega)):p:=e
theorem ob(e:p:=by simpa[dn]using bd):p:=e
theorem D3(e:p:=by exact .inr ⟨(Option.some.inj h1).symm,_,(Option.some.inj h2).symm⟩):p:=e
theorem aaL(e:p:=by
 obtain⟨cB,Ud⟩:=bq j p a6;have:=aI.own j p Ud aT;exact⟨⟨this.1,fun e=>cB (aI.inj j k p o Ud bX aT bp e)⟩,this.2⟩):p:=e
theorem xq(e:p:=by
 rw[Nat.add_mul,Nat.one_mul]at this;omega):p:=e
theorem OS(e:p:=by
 intro i o j mc h1 aw h2 bI aY bu;have M6:=v7 j mc bI aY;rw[(tJ _ M6).2]at bu;rcases My i o h1 aw with h|⟨C1,nn,Df,tM,zL,IY⟩
 .have:=aI.lt _ M6;omega
 exact h2 ((aI.inj C1 j nn mc tM bI zL M6 (IY.trans bu))▸Df)):p:=e
theorem SS(e:p:=by
 refine .aS rfl fun i d c h1 h2=>?_
 match i with
 |0=>
  cases h1;cases h2;exact .agg rfl fun i d c h1 h2=>by
   match i with
   |0=>cases h1;cases h2;exact .v _
   |i+1=>cases h1
 |1=>cases h1;cases h2;exact .v _
 |i+2=>cases h1):p:=e
theorem ahO(e:p:=by
 intro ay;obtain⟨y,bB,e⟩:=List.mem_map.1 ay;have:=DM y bB;unfold mR at this;rw[decide_eq_false_iff_not]at this;simp only[dd,Prod.mk.injEq]at e;exact this (.inr ⟨e.1,.inl e.2⟩)):p:=e
theorem S9(e:p:=by
 refine dB ?_ ?_ (Nat.le_refl _);all_goals first|refine dD ?_|exact dE
 all_goals repeat' first|exact trivial|exact rfl|apply And.intro
 all_goals first|simp;done|refine congrArg some (congrArg (aR.mk _ 2) ?_);simp;done|rfl):p:=e
theorem sR(e:p:=by first|exact yo _|rfl|trivial):p:=e
theorem C4(e:p:=by simp[cm,Lib.join,List.intercalate,List.intersperse]):p:=e
theorem Vf(e:p:=by
 rw[nU bT]at bB;rcases List.mem_append.1 bB with bB|bB
 .exact a6 y bB
 simp at bB;rw[bB];exact ay):p:=e
theorem k4(e:p:=by simp at aP):p:=e
theorem acm(e:p:=by
 unfold av;rw[eE,List.filter_append];have:t.cn now=false:=by unfold aE.cn;simpa using h
 simp[this]):p:=e
theorem wm(e:p:=by simp only[aO.add,if_true];exact DU w _):p:=e
theorem ha(e:p:=by cases h):p:=e
theorem VC(e:p:=by
 refine(aI.obj j o bF).mono bg (fun h1 h2=>h1 (v7 j o bF h2)) (fun aT=>eI.ext.keep _ (aI.lt _ aT) (fun hl=>?_));obtain⟨C1,nn,Df,tM,zL,bu⟩:=r0 _ hl;exact bq ((aI.inj C1 j nn o tM bF zL aT bu)▸Df)):p:=e
theorem al6(e:p:=by
 unfold av;rw[eE,List.filter_append];have:t.cn now=true:=by unfold aE.cn;simpa using h
 simp[this]):p:=e
theorem VS(e:p:=by
 intro a w ad k v a_ a8 dk gn;simp only[execOp,iw,a_,a8,Instr.indexAt,Instr.sureAddr,asIntOf,Sem.run_bind,Sem.run_pure,Result.andThen_ok,run_underlying cG];rw[if_pos ⟨dk,gn⟩];simp[mD qj,bd]):p:=e
theorem IK(e:p:=by
 obtain⟨q,ay,alm⟩:=List.mem_flatMap.1 aj;exact List.mem_flatMap.2 ⟨q,List.mem_cons_of_mem _ ay,alm⟩):p:=e
theorem PB(e:p:=by
 repeat' first|refine af ?_|refine J bF ?_|refine ag ?_|refine ab ?_ ?_<;>intro h<;>try exact aa|exact al|fail
 all_goals(refine cI ?_;first|exact cc|try simp only[cE]at *)
 all_goals exact fA Z4):p:=e
theorem Rb(e:p:=by
 refine dB ?_ ?_ (Nat.le_refl _);all_goals first|refine dD ?_|exact dE
 all_goals repeat' first|exact trivial|exact rfl|apply And.intro
 exact congrArg (fun ff=>some (⟨bR+1,1,ff⟩:aR)) Zq):p:=e
theorem aiV(e:p:=by exact⟨⟨trivial,trivial,trivial,trivial,trivial,bg,trivial⟩,trivial⟩):p:=e
theorem S4(e:p:=by
 refine⟨(eI.own i o bF aT).1,?_⟩;rcases My i o bF aT with h1|⟨C1,nn,Df,tM,zL,IY⟩
 .exact .inl (Nat.le_trans aI.ext.size h1)
 have:=(aI.own C1 nn tM zL).2;rw[IY]at this;exact this):p:=e
theorem XX(e:p:=by
 match r with
 |[]=>simp[fN,cg,cj,fl]
 |[x]=>simp[fN,cg,cj,fl]
 |[x,y]=>
  simp[fN,cg,cj,fl,jE,k_,iq,jc,I9];intro a b;exact⟨qb a,qb b⟩
 |x::y::ff::r=>simp[fN,cg,cj,fl]):p:=e
theorem ahG(e:p:=by rw[List.getElem?_take,if_pos (Nat.lt_succ_self k)];exact bT):p:=e
theorem sa(e:p:=by unfold maxLen;simp;omega):p:=e
theorem ajr(e:p:=by
 unfold jM;rw[List.all_eq_true.2 (fun y bB=>by rw[DM y bB];rfl)];simp only[Bool.and_true,Bool.and_eq_true,decide_eq_true_eq];refine⟨⟨?_,ajV⟩,HF⟩;omega):p:=e
theorem zw(e:p:=by have:=(gX bu).1;unfold maxLen;omega):p:=e
theorem mT(e:p:=by simp[aB]at h):p:=e
theorem yJ(e:p:=by simpa using bO):p:=e
theorem Qh(e:p:=by exact .inr ⟨this.1,by rw[this.2];exact b5,by rw[this.2];exact ue⟩):p:=e
theorem Ew(e:p:=by cases da<;>cases bo<;>cases fw<;>cases nt<;>simp_all):p:=e
theorem H4(e:p:=by
 cases A with
 |none=>simp[Op.equalIn,run_underlying cG]
 |some ad=>simp[Op.equalIn,run_underlying cG]):p:=e
theorem abY(e:p:=by unfold cx maxLen;decide):p:=e
theorem NN(e:p:=by
 intro i x aP;have bF:i<len:=by have:=(List.getElem?_eq_some_iff.1 aP).1;rw[fa]at this;exact this
 rw[List.getElem?_take_of_lt bF,List.getElem?_drop]at aP;exact⟨bF,aP⟩):p:=e
theorem SQ(e:p:=by
 all_goals(refine cI ?_;first|exact cc|try simp only[cE]at *)
 all_goals (refine eG ?_)
 all_goals (rw[if_neg];intro e;rw[aT,Bool.and_eq_true,Bool.and_eq_true,cw]at e;have b3:=hf e.1.2;omega)):p:=e
theorem ZP(e:p:=by
 refine⟨⟨rfl,rfl,rfl,rfl,rfl,rfl,.inl ⟨rfl,rfl,?_,?_⟩,rfl,rfl⟩,rfl⟩
 .show 0+_<=_;rw[xV];omega
 show O.snap _ _ _=O.snap _ _ _;rw[e1 (by rw[xV])]):p:=e
theorem MO(e:p:=by rw[List.length_map,List.length_take];omega):p:=e
theorem Ia(e:p:=by simp at ek;subst ek;exact⟨9,_,rfl,rfl⟩):p:=e
theorem agI(e:p:=by
 simp only[pJ];all_goals(refine cI ?_;first|exact cc|try simp only[cE]at *)
 all_goals (cases da<;>cases bo<;>cases fw<;>cases nt<;>first|rfl|exfalso;simp_all;done)):p:=e
theorem kX(e:p:=by rw[ace];rfl):p:=e
theorem qt(e:p:=by unfold rS;simp):p:=e
theorem agK(e:p:=by
 have e:j0 r aq x a now n=gV r aq x a:=by unfold j0;rw[if_pos rB]
 exact FE (by unfold pT;rw[e,if_neg rB]) (fA (by rw[e,decide_eq_false rB];rfl)) (eG e.symm)):p:=e
theorem yP(e:p:=by unfold Addr.add;split<;>simp_all):p:=e
theorem PW(e:p:=by
 unfold nz lv;simp only[List.map_cons,List.map_nil,List.sum_cons,List.sum_nil,List.length_append,List.length_singleton,List.length_cons,List.length_nil]at Cn⊢;omega):p:=e
theorem IE(e:p:=by
 simp only[ez,Option.getD_some];exact cR):p:=e
theorem Ol(e:p:=by
 intro l;induction l with
 |nil=>intro i q h;cases h
 |cons x r js=>
  intro i q h;cases i with
  |zero=>simp
  |succ i=>have:=js i q h;simp;omega):p:=e
theorem Qz(e:p:=by
 rcases xN eP Jj h1 with⟨_,rfl⟩|h1
 .exact absurd aw Af
 rcases xN e3 mc h2 with⟨_,rfl⟩|h2
 .exact absurd aY Af
 exact aI.inj eP e3 Jj mc h1 h2 aw aY bu):p:=e
theorem YA(e:p:=by
 show cm [hB,_,_,_,_,_]=_;rw[pZ,pZ,pZ,pZ,pZ,F5];simp[hB]):p:=e
theorem PN(e:p:=by
 obtain⟨bp,a_,a8,_⟩:=bq Lw lM h1;obtain⟨en,f1,f2,_⟩:=bq Cz lF h2;exact aI.inj Lw Cz bp en a_ f1 (by rw[a8];exact aw) (by rw[f2];exact aY) (by rw[a8,f2];exact bu)):p:=e
theorem B3(e:p:=by rw[<-fc];exact e8):p:=e
theorem aaT(e:p:=by
 refine dB ?_ ?_ (Nat.le_refl _);all_goals first|refine dD ?_|exact dE
 all_goals repeat' first|exact trivial|exact rfl|apply And.intro
 all_goals rw[ak_]):p:=e
theorem SJ(e:p:=by
 refine dB ?_ ?_ (Nat.le_refl _);all_goals first|refine dD ?_|exact dE
 all_goals repeat' first|exact trivial|exact rfl|apply And.intro
 all_goals trace_state):p:=e
theorem Y1(e:p:=by rw[a6];simp[bU, *]):p:=e
theorem TY(e:p:=by
 cases i with
 |zero=>simp[j3]at bf bn;rw[<-bf,<-bn];exact .v _
 |succ i=>simp at bn):p:=e
theorem Gi(e:p:=by
 rw[List.range_succ,List.filter_append,List.map_append];simp[h]):p:=e
theorem R_(e:p:=by simp[execOp,iw,resolve,bn,ek,Wv,a_,invoke,builtin,Builtin.clear_,run_underlying cG]):p:=e
theorem Tk(e:p:=by exact Nat.lt_of_lt_of_le h (p_ (st:=st) (S:=S) _ 0 (Nat.zero_le _) (Nat.le_refl _))):p:=e
theorem Jc(e:p:=by
 obtain⟨bp,en,e8⟩:=ay;have:=nC st B7 oo eO sJ en e8;rw[bp]at this;exact this):p:=e
theorem pj(e:p:=by simp[jZ]at h):p:=e
theorem n7(e:p:=by decide +kernel):p:=e
theorem M8(e:p:=by
 unfold j7 pM at bO;simp only[Bool.and_eq_true,decide_eq_true_eq]at bO;exact bO):p:=e
theorem TD(e:p:=by
 refine⟨h.1,fun K w lH g0 a b c=>(h.2 K w lH g0 a b c).mono ?_⟩;rintro e gO ⟨v,d,amo,bp,⟨rfl,rfl⟩,e8,ma⟩;exact⟨v,D',_,bp,⟨rfl,rfl⟩,e8,ec _ _ _ ma⟩):p:=e
theorem BN(e:p:=by rw[List.length_take];have:=h.aj;omega):p:=e
theorem agE(e:p:=by
 rw[List.take_add_one,bB]at b3;rcases List.mem_append.1 b3 with b3|b3
 .exact DM ff b3
 rw[List.mem_singleton.1 b3];exact vE):p:=e
theorem ZR(e:p:=by
 split at aP
 .cases aP
 split at aP
 .cases aP
 rename_i amu aY h2;have:=J4 h2;repeat' split at aP
 all_goals first|cases aP;exact this|cases aP):p:=e
theorem DF(e:p:=by unfold cx maxLen;rw[List.length_map];simp;omega):p:=e
theorem QY(e:p:=by
 intro i x j d aP bf;obtain⟨_,ajE⟩:=Ko i x aP;obtain⟨c,ez,cR⟩:=oQ (jB+i) x j d ajE bf;rw[ic]at ez;exact⟨c,ez,cR.mono bg⟩):p:=e
theorem LB(e:p:=by unfold kU;rw[a_];dsimp only;rw[a8];dsimp only;rw[dk];dsimp only;rw[gn]):p:=e
theorem Xd(e:p:=by
 rw[a6,List.drop_length];rfl):p:=e
theorem Gh(e:p:=by show Γ.g0<=Γ.g0+1;omega):p:=e
theorem pU(e:p:=by simpa using ay):p:=e
theorem UE(e:p:=by
 have:aJ (K.add gen w.heap.size) (w.alloc (.map #[] 0)) (.mp k gen) (.map (some ((K.add gen w.heap.size).aD gen))):=.mp (.inr rfl);simpa[aO.add]using this):p:=e
theorem VP(e:p:=by
 rw[uW,<-bI]at bu;have aku:ff.cells.toList[j]?=some c:=by rw[Array.getElem?_toList];exact bn
 rw[aku]at bu;simp at bu;rw[<-bu];exact .v c):p:=e
theorem TQ(e:p:=by
 subst xP;simp only[execOp,iw,a_,a8,Sem.run_bind,b8,Result.andThen_ok,binOp,Op.equal,Op.maxDepth,run_equalIn_bool' w 9999 t ah ai cG,Sem.run_pure,ih]):p:=e
theorem ZS(e:p:=by
 rcases h with h|⟨dm,b5,ue⟩
 .exact .inl h
 obtain⟨bp,en⟩:=Ch aq lG h1 dm;exact .inr ⟨bp,by rw[en];exact b5,by rw[en];exact ue⟩):p:=e
theorem q3(e:p:=by rw[bf];exact a6):p:=e
theorem FN(e:p:=by show(0:Int)<=0/\(0:Int)<4294967296;decide):p:=e
theorem Uf(e:p:=by
 all_goals(refine cI ?_;first|exact cc|try simp only[cE]at *)
 refine eG ?_;unfold et;rw[if_pos (by simp only[List.length_map]at h;omega)]):p:=e
theorem wL(e:p:=by rw[hl];unfold th;rw[iy]):p:=e
theorem lD(e:p:=by simp[bk]):p:=e
theorem UU(e:p:=by rw[List.getElem?_take,if_pos Ez];exact bB):p:=e
theorem Ok(e:p:=by
 have bp:=v7 eP lM a_ aw;have en:=v7 e3 lF a8 aY;exact aI.inj eP e3 lM lF a_ a8 bp en ((tJ _ bp).2.symm.trans (bu.trans (tJ _ en).2))):p:=e
theorem xj(e:p:=by show fH.length<=_;omega):p:=e
theorem Bt(e:p:=by exact Int.le_refl _):p:=e
theorem VL(e:p:=by
 generalize a.tmps.getD s.nat undef=v at eX;cases eX with
 |ptr _ MN=>
  obtain⟨_,_,_,MN⟩:=MN;exact bg.out (by rw[fc];exact MN)):p:=e
theorem St(e:p:=by rw[a_,List.map_append];rfl):p:=e
theorem RX(e:p:=by
 rw[<-aI.base.M g b8];refine⟨fun h=>h.1,fun h=>⟨h,fun q=>?_⟩⟩;have:=((aI.own k o bX q.1).2).resolve_right (an _ _ _ _ e2 q.1);omega):p:=e
theorem YF(e:p:=by
 unfold mR at bn;rw[decide_eq_false_iff_not,T_]at bn;exact bn (.inr ⟨by rw[a_,Nj.1],.inr ⟨by rw[a8,Nj.2.1],by rw[dk,Nj.2.2]⟩⟩)):p:=e
theorem vI(e:p:=by injection this):p:=e
theorem Ik(e:p:=by
 obtain⟨k,o,_,h,aT,bu⟩:=r0 g an;rw[<-bu];exact(aI.own k o h aT).1):p:=e
theorem T8(e:p:=by simp at ek;subst ek;exact⟨1,_,rfl,rfl⟩):p:=e
theorem J0(e:p:=by refine A.AK trivial trivial rfl rfl bd (J9 _ _ _ _ bg) bg (px _ _)):p:=e
theorem Yg(e:p:=by
 unfold wpOps;have JH:Region.wanted o (yielded ops a.tmps)=true:=by simp[Region.wanted,cy]
 simp only[bF,JH,Oper.wp,aT,if_true];exact .inl h):p:=e
theorem Im(e:p:=by
 rcases cy with rfl|rfl
 .exact cN.refl _ _
 exact PK _ _ _):p:=e
theorem WY(e:p:=by rw[<-Option.some.inj ((List.getElem?_eq_getElem bq).symm.trans bT),<-List.drop_eq_getElem_cons bq,List.take_append_drop]):p:=e
theorem Mk(e:p:=by rw[<-mU zs];exact(List.getElem?_eq_some_iff.1 bf).1):p:=e
theorem KX(e:p:=by simp only[aU,List.length_cons,List.length_nil];omega):p:=e
theorem L5(e:p:=by first|intro h;cases h;done|assumption):p:=e
theorem Jr(e:p:=by
 all_goals(refine cI ?_;first|exact cc|try simp only[cE]at *)
 all_goals first|rfl):p:=e
theorem H6(e:p:=by rintro⟨amB,ae0,amf,F2,_⟩;rw[F2]at dV;simp[pP]at dV):p:=e
theorem Gm(e:p:=by rw[List.length_append,ek];rfl):p:=e
theorem w9(e:p:=by simp only[jV];omega):p:=e
theorem oT(e:p:=by simp[aP]):p:=e
theorem GZ(e:p:=by rw[Array.getElem?_toList];exact bX):p:=e
theorem Wy(e:p:=by
 unfold mn at cy;simp only[List.mem_cons,List.not_mem_nil,or_false]at cy;rcases cy with rfl|rfl|rfl|rfl|rfl<;>simp<;>omega):p:=e
theorem P1(e:p:=by
 refine⟨?_,rfl⟩;simp only[jX,fo];exact⟨⟨_,.inr ⟨Eb,rfl⟩,rfl⟩,⟨_,_,.inl ⟨0,rfl,rfl⟩,rfl⟩,trivial⟩):p:=e
theorem y9(e:p:=by rw[hl];unfold tv;rw[iy]):p:=e
theorem CO(e:p:=by rw[hl];unfold tt;rw[iy]):p:=e
theorem Cf(e:p:=by unfold Addr.add;split<;>rfl):p:=e
theorem Ms(e:p:=by unfold mS;rw[a_];dsimp only;rw[a8];dsimp only;rw[dk]):p:=e
theorem Ng(e:p:=by unfold mw;rw[a_];dsimp only;rw[a8];dsimp only;rw[dk]):p:=e
theorem Hb(e:p:=by rw[List.length_eq_zero_iff.1 q];rfl):p:=e
theorem r9(e:p:=by rw[fK];rfl):p:=e
theorem LX(e:p:=by dsimp only;(simp only[gu,reduceCtorEq]at *<;>omega)):p:=e
theorem UN(e:p:=by show pO t.a t.b t.c t.d t.s t.o t.x=true;simp_all):p:=e
theorem X0(e:p:=by
 split
 .rename_i cy;rw[if_pos cy]at cJ;exact .inl cJ
 rename_i cy;rw[if_neg cy]at cJ;exact cJ):p:=e
theorem Dw(e:p:=by
 rw[Int.toNat_of_nonneg h.1]at this;exact this):p:=e
theorem yN(e:p:=by rw[jV];omega):p:=e
theorem PR(e:p:=by
 intro a w A n wK L xO M a_ a8;simp[execOp,iw,a_,Instr.sliceAt,Instr.slice,run_underlying cG,a8,mD qj,bd]):p:=e
theorem WR(e:p:=by unfold gF gB;simp only[List.length_append,List.length_cons,List.length_nil,ns,iB];omega):p:=e
theorem agX(e:p:=by
 refine⟨aY,by simpa using pd,?_⟩;rw[r2,aaI];exact⟨fun eY=>⟨gn.1 rfl,eY⟩,fun eY=>eY.2⟩):p:=e
theorem PC(e:p:=by
 rw[vc aq h];have:=bO.keep aq h;have e:cH.aD aq=K.aD aq:=this.2;rw[<-e];exact jr.lt aq this.1):p:=e
theorem XS(e:p:=by
 by_cases e:j=k
 .rw[if_pos e]at bX;exact .inl ⟨e,(Option.some.inj bX).symm⟩
 rw[if_neg e]at bX;exact .inr bX):p:=e
theorem yh(e:p:=by have:=sY rfl;omega):p:=e
theorem Hy(e:p:=by
 intro op w;unfold eqGuard;split<;>rfl):p:=e
theorem nY(e:p:=by simp[I]):p:=e
theorem Ua(e:p:=by
 all_goals(refine cI ?_;first|exact cc|try simp only[cE]at *)
 all_goals (refine eG ?_;simp only[gV];split<;>(try split)<;>omega)):p:=e
theorem aaw(e:p:=by
 have q:=v7 j o bF aT;rw[(tJ _ q).2];exact⟨(zd _ (aI.lt _ q)).2 (aI.own j o bF q).1,(aI.own j o bF q).2⟩):p:=e
theorem aaG(e:p:=by
 simp only[List.size_toArray,List.length_append,List.length_take,List.length_drop,Array.length_toList];omega):p:=e
theorem QS(e:p:=by
 obtain⟨s,bp,en⟩:=h2;exact⟨s,fun N K a w h=>by
  obtain⟨cH,tM⟩:=h1 N K a w h;exact bp N cH a w tM,en⟩):p:=e
theorem te(e:p:=by exact⟨e,bu,.inl rfl⟩):p:=e
theorem UA(e:p:=by
 first|refine kM ?_|exact cc
 simp only[fo,jX];repeat' (first|exact trivial|exact rfl|apply And.intro)):p:=e
theorem FP(e:p:=by rw[hh,kH];simp;omega):p:=e
theorem wW(e:p:=by simp[h1]):p:=e
theorem uZ(e:p:=by simpa using bn):p:=e
theorem y0(e:p:=by unfold cK;split<;>omega):p:=e
theorem Aw(e:p:=by unfold cx maxLen;omega):p:=e
theorem Ya(e:p:=by
 cases ay:P.info? t with
 |some rO=>exact⟨rO,rfl⟩
 |none=>simp[Program.underlying,ay]at cG):p:=e
theorem aal(e:p:=by
 rcases xN j o bX with⟨_,rfl⟩|h
 .exact .inl ⟨Af,rfl⟩
 exact(aI.obj j o h).mono bg id (fun _=>rfl)):p:=e
theorem GH(e:p:=by
 rw[bI]at this;exact Option.some.inj this):p:=e
theorem Dj(e:p:=by
 rintro rfl g ⟨k,o,h,_⟩;simp[aB]at h):p:=e
theorem JF(e:p:=by
 exact absurd kZ.1 (by
  have tM:g0<=o.n:=h;omega)):p:=e
theorem Qe(e:p:=by
 rw[if_pos bq]at h;obtain⟨i,bF⟩:=QT bq;rw[bF]at h;exact .inl ⟨bq,i,Z1 bF,h⟩):p:=e
theorem Ky(e:p:=by rw[f1];exact(List.getElem?_eq_some_iff.1 bf).1):p:=e
theorem ED(e:p:=by rw[<-bf,List.getElem?_drop]):p:=e
theorem pf(e:p:=by exact Nat.zero_le _):p:=e
theorem afU(e:p:=by exact congrArg (fun q=>some (aR.mk _ 7 q)) (As _ t)):p:=e
theorem TN(e:p:=by
 intro j;unfold ea;simp only[Array.getD_eq_getD_getElem?,Array.getElem?_replicate];split<;>rfl):p:=e
theorem Uz(e:p:=by
 show cm [hB,_]=_;rw[pZ,F5];simp[hB]):p:=e
theorem aac(e:p:=by
 simp only[Rows.uptoBulk]at aha;have:=I5 (List.mem_map.2 ⟨x,aP,rfl⟩:x.1∈xs.map (·.1));omega):p:=e
theorem zh(e:p:=by first|rfl|assumption):p:=e
theorem qC(e:p:=by simp at hl):p:=e
theorem yy(e:p:=by simp[kK]at cw):p:=e
theorem Sd(e:p:=by rw[<-hl];exact Nat.lt_of_le_of_lt (Nat.zero_le i) (List.getElem?_eq_some_iff.1 aP).1):p:=e
theorem aiu(e:p:=by simp only[aU,List.length_take,List.length_drop,List.length_append,iB];omega):p:=e
theorem Sj(e:p:=by unfold qL;rw[Bool.eq_iff_iff];simp only[Bool.and_eq_true,decide_eq_true_eq];omega):p:=e
theorem Aj(e:p:=by have:=q.2.1;cases this):p:=e
theorem ET(e:p:=by rw[b5.size];exact f2 w rfl):p:=e
theorem Yo(e:p:=by rw[w1];simp only[List.length_append,List.length_cons,List.length_nil]at fa⊢;omega):p:=e
theorem aj7(e:p:=by
 cases ek:l.all jv with
 |false=>rfl
 |true=>rw[List.all_eq_true.1 ek t GD]at ay;cases ay):p:=e
theorem QD(e:p:=by
 obtain⟨bp,a_,a8,_⟩:=bq j p h;have:=aI.own j bp a_ (by rw[a8];exact aT);rw[a8]at this;exact this):p:=e
theorem OE(e:p:=by rw[List.take_add_one,bT];rfl):p:=e
theorem aap(e:p:=by
 have:=Ac (qS hf).2.2.2.2;have:ix aC.ms<=h4 aC:=by unfold h4;omega
 omega):p:=e
theorem XN(e:p:=by
 intro i o h aT;rcases(eI.own i o h aT).2 with h1|h1
 .exact .inl h1
 exact .inr (r0 _ h1)):p:=e
theorem vP(e:p:=by simpa using bf):p:=e
theorem yn(e:p:=by simpa using hl):p:=e
theorem xJ(e:p:=by simpa using eX):p:=e
theorem WJ(e:p:=by
 rw[List.length_append,List.length_append,List.length_cons,List.length_nil,Nat.succ_mul];omega):p:=e
theorem Il(e:p:=by rw[Array.getElem?_toList]at f5;exact f5):p:=e
theorem r6(e:p:=by simp at bB):p:=e
theorem ql(e:p:=by simp_all):p:=e
theorem xZ(e:p:=by simpa using aP):p:=e
theorem yG(e:p:=by rw[i_]):p:=e
theorem ML(e:p:=by
 simp only[aO.add,if_true];exact DU w.drew _):p:=e
theorem X1(e:p:=by
 have bI:K.real aq:=bO.cn aq h1 h2;exact⟨.inl bI,(vc aq bI).trans (bO.keep aq bI).2.symm⟩):p:=e
theorem Wi(e:p:=by
 have:=dm _ bp kZ.1;exact .inr (.inr ⟨this.1,en,nD,F9,by rw[this.2];exact e8,ma⟩)):p:=e
theorem ae1(e:p:=by
 obtain rfl:=Option.some.inj (b3.symm.trans JH);(simp only[gu,reduceCtorEq]at *<;>omega)):p:=e
theorem ZK(e:p:=by rw[List.getElem?_append_left (List.getElem?_eq_some_iff.1 ay).1];exact ay):p:=e
theorem wR(e:p:=by simpa using aN):p:=e
theorem oe(e:p:=by simpa using this):p:=e
theorem MD(e:p:=by intro q;rw[q.1,q.2]at h1;simp at h1):p:=e
theorem aeO(e:p:=by rintro⟨bp,en,e8⟩;have ma:=of_decide_eq_true bp;have nd:=of_decide_eq_true en;omega):p:=e
theorem OR(e:p:=by rw[mJ];unfold cx maxLen;simp only[List.length_cons,List.length_nil];omega):p:=e
theorem Kt(e:p:=by rw[De];unfold la;rw[if_neg qw]):p:=e
theorem HD(e:p:=by rw[De];unfold la;rw[if_pos qw]):p:=e
theorem W4(e:p:=by rw[xn];unfold cx maxLen;simp only[List.length_cons,List.length_nil];omega):p:=e
theorem OQ(e:p:=by rw[CB];unfold cx maxLen;simp only[List.length_cons,List.length_nil];omega):p:=e
theorem CU(e:p:=by cases neg<;>rfl):p:=e
theorem tu(e:p:=by exact⟨s,cH,h1,h2⟩):p:=e
theorem ZJ(e:p:=by rw[Array.getElem?_append_left (Array.getElem?_eq_some_iff.1 a_).1];exact a_):p:=e
theorem T2(e:p:=by rw[a_,s6];simp):p:=e
theorem ND(e:p:=by
 rintro⟨_,h2⟩;exact h2 ⟨bp,by rw[fc]⟩):p:=e
theorem Ic(e:p:=by have:=bg.2.1;simp only at this;omega):p:=e
theorem QJ(e:p:=by by_cases q:(bC s).2=0;exact .inr (fun r=>h ⟨q,r⟩);exact .inl q):p:=e
theorem YQ(e:p:=by
 first|refine kM ?_|exact cc
 repeat' (first|exact trivial|exact rfl|apply And.intro)):p:=e
theorem Vm(e:p:=by simp only[aU,iB];omega):p:=e
theorem RH(e:p:=by rw[adv];exact GI):p:=e
theorem OZ(e:p:=by all_goals simp(disch:=omega) only[if_pos,if_neg]):p:=e
theorem uV(e:p:=by assumption):p:=e
theorem Zj(e:p:=by
 rcases xN j o bX with⟨_,rfl⟩|h
 .exact .inr rfl
 exact .inl (aI.dz j o h)):p:=e
theorem Ed(e:p:=by rw[l1];exact p0.ka):p:=e
theorem EH(e:p:=by rw[l1];exact p0.aw):p:=e
theorem Dr(e:p:=by rw[l1];exact p0.aY):p:=e
theorem BC(e:p:=by rw[bg.2];exact h1):p:=e
theorem FD(e:p:=by simp only[yW];omega):p:=e
theorem Ci(e:p:=by simp[cu.fit]at bV):p:=e
theorem Wu(e:p:=by
 have h1:=aI.base.keep aq h;have h2:=tJ aq h1.1;exact⟨h2.1,h2.2.trans h1.2⟩):p:=e
theorem Wp(e:p:=by
 rw[<-lk,<-sq,<-oq]at hK;exact⟨_,iM _ _ _ _ _ _ _ _ bB hK,.any _⟩):p:=e
theorem Hs(e:p:=by exact Nat.zero_lt_succ _):p:=e
theorem Tf(e:p:=by
 rcases xN j o bX with⟨_,rfl⟩|h
 .exact absurd aT Af
 exact aI.own j o h aT):p:=e
theorem Pf(e:p:=by simp only[aU];simp;omega):p:=e
theorem WE(e:p:=by unfold fW;rw[if_neg (not_not_intro h1),if_neg (not_not_intro bI)]):p:=e
theorem Pq(e:p:=by have:=(List.getElem?_eq_some_iff.1 bF).1;rwa[MI]at this):p:=e
theorem X6(e:p:=by rw[oX];unfold jP jK;dsimp only;rw[if_neg uY,if_neg uY]):p:=e
theorem SY(e:p:=by
 all_goals(refine cI ?_;first|exact cc|try simp only[cE]at *)
 all_goals (refine fA ?_;simp_all)):p:=e
theorem YW(e:p:=by simp only[List.length_append,mb,List.length_take];omega):p:=e
theorem zn(e:p:=by exact D6 bX yL r _ _ h):p:=e
theorem Qr(e:p:=by
 rw[mr,<-fc];have:=cy.2;rw[ic]at this;exact this):p:=e
theorem Sp(e:p:=by
 simp only[cl,aB]at this⊢;rw[this];simp only[Nat.add_right_cancel_iff]):p:=e
theorem TT(e:p:=by
 obtain⟨gf,h1,h2,bI,fr,vp,n1,Q8⟩:=h;rename_i q;cases q<;>assumption):p:=e
theorem Dc(e:p:=by rw[this.2];exact h):p:=e
theorem HU(e:p:=by rw[<- (AE cw).1];simp):p:=e
theorem aaQ(e:p:=by simp only[aU,List.length_append,ns,iB];omega):p:=e
theorem u7(e:p:=by simp[bB]):p:=e
theorem Gf(e:p:=by simp[iB];omega):p:=e
theorem y8(e:p:=by simpa using h1):p:=e
theorem zF(e:p:=by simpa using cB):p:=e
theorem BK(e:p:=by simpa using aj):p:=e
theorem aar(e:p:=by
 have:=eI.base.M g b8;exact⟨fun h=>(this.1 h).1,fun h=>this.2 ⟨h,b8⟩⟩):p:=e
theorem P6(e:p:=by have:=dF.1 (show I (a::b::jl)=I []from e);cases this):p:=e
theorem L8(e:p:=by
 repeat' split
 all_goals (dsimp only;decide)):p:=e
theorem X9(e:p:=by
 split
 .simp
 split
 .simp
 split
 .simp
 split
 .simp
 split
 .simp
 simp):p:=e
theorem MY(e:p:=by rw[H3,pc,pc];rfl):p:=e
theorem FR(e:p:=by rw[cQ Ld,cQ IX];exact ay):p:=e
theorem wT(e:p:=by simp[iX]):p:=e
theorem RA(e:p:=by unfold gx;rw[if_neg (not_not_intro ⟨bV,bT⟩),if_neg hl]):p:=e
theorem NG(e:p:=by obtain⟨x,_,h2⟩:=zU.1 bn;cases h2):p:=e
theorem UG(e:p:=by
 simp only[World.setRow,Array.getElem?_modify];rw[if_neg (fun e=>bq e.symm)]):p:=e
theorem HQ(e:p:=by
 show K.aD n<_;rw[<-fc];exact aN bp):p:=e
theorem OA(e:p:=by simp only[oF,List.length_cons,List.length_nil];omega):p:=e
theorem KG(e:p:=by simp only[bP]at bV;omega):p:=e
theorem Of(e:p:=by simp(disch:=(first|omega|simp only[jV];omega)) only[tg,qB]):p:=e
theorem Pw(e:p:=by simp[execOp,iw,Instr.alloc,zeroValue,typeInfo,h1,h2,newVar,newRow]):p:=e
theorem Ay(e:p:=by simpa using cR):p:=e
theorem Ly(e:p:=by exact gU ⟨.d0,.d0,.d3⟩ 2 1 rfl rfl):p:=e
theorem Ie(e:p:=by exact gU ⟨.d0,.d0,.d4⟩ 2 1 rfl rfl):p:=e
theorem Xr(e:p:=by
 rcases h with h|⟨h,_⟩
 .exact h
 have amk:aq<n:=aN;omega):p:=e
theorem P3(e:p:=by rw[List.getElem?_eq_none (Nat.le_refl _)]at yp;cases yp):p:=e
theorem Wg(e:p:=by
 rw[<-lk]at hK;exact⟨_,iM _ _ _ _ _ _ _ _ (cQ aw) hK,.v _⟩):p:=e
theorem Ou(e:p:=by
 simp only[qO,Bool.and_eq_true,decide_eq_true_eq]at bp;exact bp.1.1.1):p:=e
theorem aaU(e:p:=by
 simp only[qO,Bool.and_eq_true,decide_eq_true_eq]at bp;exact bp.1.2.1):p:=e
theorem Xw(e:p:=by unfold oS;simp only[Bool.and_eq_true,decide_eq_true_eq]):p:=e
theorem Yz(e:p:=by
 unfold kq at bB;obtain⟨c,_,rfl⟩:=List.mem_map.1 bB;rfl):p:=e
theorem yq(e:p:=by exact .inr ⟨_,rfl⟩):p:=e
theorem YN(e:p:=by obtain rfl:=Option.some.inj (yp.symm.trans bT);exact bB):p:=e
theorem Wf(e:p:=by rw[List.take_add_one,bg];rfl):p:=e
theorem Ex(e:p:=by rw[bO];exact aN):p:=e
theorem al7(e:p:=by exact FE (by unfold pT;rw[e];rfl) (fA (by rw[e];rfl)) (eG e.symm)):p:=e
theorem Mv(e:p:=by rw[List.length_map];omega):p:=e
theorem Q3(e:p:=by
 rw[<-aI.base.M g b8];exact zd g (Nat.lt_of_lt_of_le b8 aI.ext.size)):p:=e
theorem Kq(e:p:=by show i+1<=l.length+1;omega):p:=e
theorem aj2(e:p:=by show Γ.g0<=cR+1+1+1;omega):p:=e
theorem X8(e:p:=by simp only[List.length_append,mb,iB];omega):p:=e
theorem J6(e:p:=by have:=IH l now;omega):p:=e
theorem GC(e:p:=by rw[bO];exact oV):p:=e
theorem Z3(e:p:=by
 simp only[List.cons_append,List.length_cons,hv]at this⊢;rw[this]):p:=e
theorem Zu(e:p:=by
 obtain⟨bp,a_,a8,_⟩:=bq j p h;rw[<-a8];exact aI.dz j bp a_):p:=e
theorem G5(e:p:=by rw[E_];exact cB):p:=e
theorem Ki(e:p:=by rw[hh,kH];simp):p:=e
theorem Jo(e:p:=by show i<l.length+1;omega):p:=e
theorem LP(e:p:=by show r.toNat<=64;omega):p:=e
theorem Lk(e:p:=by simp[i_]):p:=e
theorem YS(e:p:=by unfold iY;rw[if_neg (not_not_intro gf),if_pos vk]):p:=e
theorem NA(e:p:=by unfold rF;rw[a6,eE];rfl):p:=e
theorem HR(e:p:=by unfold ng;rw[a6,eE];rfl):p:=e
theorem Mo(e:p:=by unfold rm;rw[a6,eE];rfl):p:=e
theorem Yh(e:p:=by
 all_goals(refine cI ?_;first|exact cc|try simp only[cE]at *)
 all_goals exact eG aP):p:=e
theorem DR(e:p:=by exact aI.base.bG aq h):p:=e
theorem Zk(e:p:=by exact⟨v,by simp[execOp,iw,bB,Instr.loadAt,Instr.sureAddr,a_],a8⟩):p:=e
theorem ZI(e:p:=by
 have:=(List.getElem?_eq_some_iff.1 bf).1;simp at this;omega):p:=e
theorem Wm(e:p:=by rw[<-ic];exact nd x (List.mem_of_mem_drop (List.mem_of_mem_take aP))):p:=e
theorem I6(e:p:=by rw[IntKind.wrap_u8];omega):p:=e
theorem alq(e:p:=by show N.1.length<=2*(j+1);dsimp only at fa;omega):p:=e
theorem aeI(e:p:=by show Γ.g0<=cR+1+1;omega):p:=e
theorem Ny(e:p:=by show¬(7:Int)=0;decide):p:=e
theorem RJ(e:p:=by simp[c1,eV,dn];try (split<;>simp[eV,dn])):p:=e
theorem Xk(e:p:=by unfold jA;rw[if_neg (not_not_intro h1),if_neg h2]):p:=e
theorem Ob(e:p:=by unfold fW;rw[if_neg (not_not_intro h1),if_pos bI]):p:=e
theorem Vi(e:p:=by unfold fz;rw[if_neg (not_not_intro b5),if_pos wo]):p:=e
theorem tG(e:p:=by cases q):p:=e
theorem WD(e:p:=by rw[<-hl];exact(List.getElem?_eq_some_iff.1 cB).1):p:=e
theorem Q4(e:p:=by
 simp only[aO.qv,if_true];exact setRow_heap w _ _ _ _ _ z_):p:=e
theorem D9(e:p:=by unfold aA;omega):p:=e
theorem Vn(e:p:=by
 obtain rfl:=List.mem_singleton.1 h;dsimp only at a6⊢;omega):p:=e
theorem E2(e:p:=by simp[qc]at h):p:=e
theorem EU(e:p:=by simp[kK]at h):p:=e
theorem SI(e:p:=by have:=(gX h1).1;unfold maxLen;omega):p:=e
theorem Wt(e:p:=by
 rcases Nat.eq_zero_or_pos k with rfl|h
 .simp at bB
 exact h):p:=e
theorem aab(e:p:=by rintro⟨bp,en⟩;rw[bp,en]at h1;simp at h1):p:=e
theorem acz(e:p:=by unfold pT mB;rw[e,if_pos rfl,if_pos bd]):p:=e
theorem J3(e:p:=by cases st.H<;>trivial):p:=e
theorem age(e:p:=by rw[uL,eL]<;>first|rfl|exact Bool.false_and _):p:=e
theorem akC(e:p:=by show Γ.g0<=cR+1;omega):p:=e
theorem YV(e:p:=by simp only[fo,dn]at h⊢;exact NC eC h):p:=e
theorem Pe(e:p:=by simp[IntKind.wrap,IntKind.bits,IntKind.signed]):p:=e
theorem Yu(e:p:=by unfold cx maxLen;(try rw[QW]);simp;omega):p:=e
theorem DG(e:p:=by simp[cl,aB]):p:=e
theorem FI(e:p:=by unfold dJ;omega):p:=e
theorem RR(e:p:=by rw[if_neg e,Array.getElem?_setIfInBounds_ne (fun q=>e q.symm)]):p:=e
theorem Km(e:p:=by rw[this.2];exact bn):p:=e
theorem Za(e:p:=by
 show bm 32 (b::(CP++w++32::ur))=_;exact oZ bO e):p:=e
theorem EP(e:p:=by simpa using h2):p:=e
theorem FY(e:p:=by simpa using bp):p:=e
theorem Le(e:p:=by exact⟨_,iM a w _ _ _ bB,.v _⟩):p:=e
theorem NY(e:p:=by
 rw[e]at this⊢;simp only[fo]at this;rw[this.1]):p:=e
theorem RD(e:p:=by rw[h]at e;exact ay (Option.some.inj e▸h2)):p:=e
theorem Jd(e:p:=by rw[e1 (by rw[fM])]):p:=e
theorem Fo(e:p:=by cases a<;>simp):p:=e
theorem VQ(e:p:=by
 repeat' split
 all_goals (dsimp only[List.length_nil];omega)):p:=e
theorem Em(e:p:=by rw[<-Lt];rfl):p:=e
theorem N5(e:p:=by simp at ek;subst ek;exact⟨2,_,rfl,rfl⟩):p:=e
theorem JZ(e:p:=by simp at fa;omega):p:=e
theorem BT(e:p:=by simp[h8]):p:=e
theorem Gl(e:p:=by simpa using bg):p:=e
theorem LZ(e:p:=by unfold gj;rw[Bs];rfl):p:=e
theorem H_(e:p:=by unfold o7;rw[bd];rfl):p:=e
theorem JC(e:p:=by exact .inr ⟨q,trivial,trivial⟩):p:=e
theorem S6(e:p:=by
 rcases h with h|h
 .exact aI.base.cn aq h aN
 omega):p:=e
theorem Fq(e:p:=by simp[kq]):p:=e
theorem I0(e:p:=by rw[q9,if_pos rfl]):p:=e
theorem OX(e:p:=by rw[hh,kH,List.map_take];simp):p:=e
theorem If(e:p:=by rw[<-bf];exact .v _):p:=e
theorem VR(e:p:=by
 show(if j=k then _ else _)=_;rw[if_neg qg];exact a6):p:=e
theorem OH(e:p:=by
 simp only[Rows.uptoBulk]at cy;simp at cy;omega):p:=e
theorem S0(e:p:=by simpa using Array.mem_of_getElem? bp):p:=e
theorem G3(e:p:=by exact Oc uc _ _ _ _ h):p:=e
theorem D1(e:p:=by exact VG uc _ _ _ _ h):p:=e
theorem R8(e:p:=by intro q;rw[q.1,q.2]at h2;simp at h2):p:=e
theorem aaA(e:p:=by
 rcases h with h|h
 .exact .inl h
 exact .inr h.1):p:=e
theorem Xp(e:p:=by
 rw[GW cB]at this;omega):p:=e
theorem Sc(e:p:=by rw[Fw];unfold jK;rw[if_neg cd]):p:=e
theorem YM(e:p:=by rw[<-xM];simp only[jV];exact Qf):p:=e
theorem L1(e:p:=by rw[<-this,List.take_append_drop]):p:=e
theorem TI(e:p:=by show(fH++[_]).length<=_;simp;omega):p:=e
theorem Xj(e:p:=by unfold cx maxLen;simp at qq⊢;omega):p:=e
theorem Yy(e:p:=by rw[Array.getElem?_toList];exact dk):p:=e
theorem GM(e:p:=by rw[hl];rfl):p:=e
theorem W9(e:p:=by rw[fC,List.filter_append];simp[Zw]):p:=e
theorem Nk(e:p:=by rw[lZ,aP];rfl):p:=e
theorem HT(e:p:=by
 rw[<-this.2];exact .mp this.1):p:=e
theorem IV(e:p:=by simp at Cn;omega):p:=e
theorem Kz(e:p:=by simp only[List.append_assoc]):p:=e
theorem Oq(e:p:=by unfold gx;rw[if_pos (fun q=>bV q.1)]):p:=e
theorem Pg(e:p:=by unfold gx;rw[if_pos (fun q=>bT q.2)]):p:=e
theorem U1(e:p:=by unfold iL;rw[if_neg pD,if_neg n1]):p:=e
theorem ZW(e:p:=by
 cases t with
 |true=>exact h1 rfl
 |false=>exact h2 rfl):p:=e
theorem Xm(e:p:=by rw[D4,List.all_append,nB];simp[eI]):p:=e
theorem Xl(e:p:=by
 unfold hG;rw[nU h,List.filter_append];simp[cy]):p:=e
theorem Hm(e:p:=by
 repeat' first|refine af ?_|simp only[aU,b_,Int.toNat_natCast]|simp only[sd,DL,fR,Y8,SD,eC]|simp only[dV,Tv,Zm]|simp only[X5,Qb]|simp only[Yx,Vu]|simp only[f15]|simp only[f14,f13]|simp only[W1,NT,cR,jT]|simp only[aeV,aeD]|simp only[ez]|simp only[gh,h_,kd]|refine J (cA _ _ _) ?_|refine J h2 ?_|refine J fr ?_|refine J n1 ?_|refine J Z0 ?_|refine J Qx ?_|refine J aT ?_|refine J aj ?_|refine ag ?_|refine ab ?_ ?_<;>intro h<;>try exact aa|refine aK abN ?_|refine aK G ?_|exact al|fail
 all_goals exact b0):p:=e
theorem oy(e:p:=by
 refine az {} 0 func72 fun Γ an=>ar ?_
 repeat' first|refine af ?_|simp only[dt,aU,NV,Int.toNat_natCast]|simp only[a_]|simp only[a8]|simp only[dk]|simp only[vR]|simp only[gh]|simp only[h_]|refine J (cA _ _ _) ?_|with_reducible refine fS (iJ _ G) ?_|refine J Dp ?_|refine J oX ?_|refine J aj ?_|(with_reducible first|refine nF rfl (tH _ _ _ _ _) ?_|refine nF rfl (ak4 _ _ _ _ _ _ _) ?_)|refine ag ?_|refine ab ?_ ?_<;>intro h<;>try exact aa|refine aK Rw ?_|exact al|fail
 all_goals exact b0):p:=e
theorem D0(e:p:=by
 rw[<-kQ,<-List.append_assoc,<-List.append_assoc]at iG;rw[JD,<-iG];clear JD iG kQ;refine az {} 0 func133 fun Γ an=>ar ?_
 repeat' first|refine af ?_|simp only[aU,b_,dt,Int.toNat_natCast]|simp only[sd,fR,eC]|simp only[gh,h_]|simp only[eP,e3,kf,mN,mH,oG]|simp only[D2]|simp only[Sm]|simp only[kd]|simp only[b5]|simp only[eI]|simp only[JN,wz]|simp only[List.cons_append,List.nil_append]|with_reducible refine hZ ?_|refine J (cA _ _ _) ?_|refine J bu ?_|refine J h2 ?_|refine J zX ?_|refine J bT ?_|refine J ay ?_|refine J ek ?_|refine J BY ?_|refine J bn ?_|(with_reducible refine bE 1 ?_ (zK _) (fun _ _ _ h=>h) ?_);(exact rfl)|(with_reducible refine bE 3 ?_ (mJ _ _) (fun _ _ _ h=>h) ?_);(exact rfl)|refine ag ?_|refine ab ?_ ?_<;>intro h<;>try exact aa|refine aK ZM ?_|refine aK G ?_|refine aK ⟨.inl ae,trivial,trivial,abY⟩ ?_|exact al|fail
 all_goals try exfalso;simp_all;done
 all_goals exact b0):p:=e
theorem UO(e:p:=by
 repeat' first|refine af ?_|simp only[aU,b_,dt,Int.toNat_natCast]|simp only[VU,SL,t1,t2,t3,t4,t5,t6]|simp only[gh,h_]|refine J a6 ?_|refine J cG ?_|refine J qF ?_|refine J aj ?_|refine J gf ?_|refine J h2 ?_|refine J Tm ?_|refine J tj ?_|refine J fr ?_|refine J h8 ?_|refine ag ?_|refine ab ?_ ?_<;>intro h<;>try exact aa|refine aK alC ?_|exact al|fail
 all_goals try exfalso;simp_all;done
 all_goals exact b0):p:=e
theorem yH(e:p:=by
 refine az {own:=true} 0 func279 fun Γ an=>ar ?_
 repeat' first|refine dv (fG an ⟨.d0,.d2,.d1⟩ rfl rfl ⟨rfl,rfl,Nat.le_refl 2⟩) ?_|refine af ?_|simp only[aU,Hj,Int.sub_zero,Int.toNat_natCast,Nat.zero_add]|simp only[ahw]|simp only[sd,DL,eC,d16,d6]|simp only[eP,e3,kf,mN,mH]|simp only[acY,f16]|simp only[abr]|refine J bu ?_|(with_reducible refine bE 1 ?_ (h2 _) (fun _ _ _ h=>h) ?_);(exact rfl)|(with_reducible refine bE 1 ?_ (cy _) (fun _ _ _ h=>h) ?_);(exact rfl)|(with_reducible refine bE 1 ?_ (ez _ _) (fun _ _ _ h=>h) ?_);(exact rfl)|(with_reducible refine bE 1 ?_ (cR _ _) (fun _ _ _ h=>h) ?_);(exact rfl)|(with_reducible refine bE 1 ?_ (rl _ _) (fun _ _ _ h=>h) ?_);(exact rfl)|(with_reducible refine bE 1 ?_ (b3 _) (fun _ _ _ h=>h) ?_);(exact rfl)|(with_reducible refine bE 1 ?_ (a6 _) (fun _ _ _ h=>h) ?_);(exact rfl)|refine ag ?_|refine ab ?_ ?_<;>intro h<;>try exact aa|refine aK G ?_|exact al|fail
 all_goals exact b0):p:=e
theorem jJ(e:p:=by
 refine dB ?_ ?_ (Nat.le_refl _);all_goals first|refine dD ?_|exact dE
 all_goals repeat' first|exact trivial|exact rfl|apply And.intro
 all_goals exact eG ((IntWalk.i64_in _ G).trans G)):p:=e
theorem aaO(e:p:=by
 repeat' first|refine af ?_|simp only[dt,aU]|simp only[gh]|simp only[h_]|refine J (cA _ _ _) ?_|refine J gf ?_|refine J h2 ?_|refine J fr ?_|refine J n1 ?_|refine J cG ?_|refine J aj ?_|refine ag ?_|refine ab ?_ ?_<;>intro h<;>try exact aa|refine aK Qw ?_|exact al|fail
 all_goals try exfalso;simp_all;done
 all_goals exact b0):p:=e
theorem Qq(e:p:=by
 repeat' first|refine af ?_|refine J aT ?_|refine J bT ?_|refine J hl ?_|refine J w0 ?_|refine J bD ?_|refine ag ?_|refine ab ?_ ?_<;>intro h<;>try exact aa|exact al|fail
 all_goals try exfalso;simp_all;done
 all_goals exact b0):p:=e
theorem vy(e:p:=by
 obtain⟨aq,bg⟩:∃aq,ms[k]?=some aq:=⟨_,List.getElem?_eq_getElem aN⟩;have dU:=kW bg;have lB:IntKind.i64.wrap ((k:Int)+1)=((k+1:Nat):Int):=(IntWalk.i64_in _ G).trans G;have Iy:=ahZ bg;repeat' first|refine af ?_|simp only[lB]|refine ag ?_|refine ab ?_ ?_<;>intro h<;>try exact aa|simp only[Int.toNat_natCast,dU]|exact al|fail
 refine br ⟨(k+1,bR+1),aN,Nat.sub_lt_sub_left aN (Nat.lt_succ_self k),?_⟩;dsimp only;rw[Iy];exact bs):p:=e
theorem QG(e:p:=by
 obtain⟨T,Fu⟩:=P;dsimp only at *;by_cases n0:Fu=0;rotate_left
 .rw[if_neg n0];have lN:=hM Fu ⟨CH.1,Int.le_trans CH.2 ae⟩;have ahb:=dW Fu ⟨CH.1,Int.le_trans CH.2 ae⟩;have d0:decide (Fu=0)=false:=decide_eq_false n0;have nr:=lN;have iM:=lN;have ib:=lN;unfold iN;refine az {} 0 func13 fun Γ an=>ar ?_
  repeat' first|refine af ?_|refine J h ?_|simp only[cL,cO,cS,cZ,cW,ss,jq,d0,eP,e3,kf,mN,mH,oG,td,vo,r5,dt,aU,Int.reduceToNat]|refine J CJ ?_|refine J lN ?_|refine J nr ?_|(with_reducible refine bE 3 ?_ (iM _) (fun _ _ _ h=>h) ?_);(exact rfl)|refine J ib ?_|refine ag ?_|refine ab ?_ ?_<;>intro h<;>try exact aa|refine aK G ?_|refine aK (by(try simp only[oF,List.length_append,List.length_cons,List.length_nil]);omega) ?_|exact al|fail
  all_goals exact b0
 rw[if_pos n0];subst n0;have iM:=Vr aC cG i T t PJ;have bF:=TL i;have Yv:=Ba aC i T t;have hf:=JT aC i T t;unfold la;generalize cb aC i T t=aiU at *;obtain⟨x,o,gN,e⟩:=aiU;dsimp only at *;have nr:=hM gN Yv.1;have lN:=hM e ⟨hf.1,Int.le_trans hf.2 ae⟩;have amg:=dW gN Yv.1;have ahb:=dW e ⟨hf.1,Int.le_trans hf.2 ae⟩;have ib:=x1 o G;by_cases gf:e=0;rotate_left
 .rw[if_neg gf];have d0:decide (e=0)=false:=decide_eq_false gf;unfold iN;refine az {} 0 func13 fun Γ an=>ar ?_
  repeat' first|refine af ?_|refine J h ?_|simp only[cL,cO,cS,cZ,cW,ss,jq,d0,bF,eP,e3,kf,mN,mH,oG,td,vo,r5,dt,aU,Int.reduceToNat]|refine J CJ ?_|refine J lN ?_|refine J nr ?_|(with_reducible refine bE 3 ?_ (iM _) (fun _ _ _ h=>h) ?_);(exact rfl)|refine J ib ?_|refine ag ?_|refine ab ?_ ?_<;>intro h<;>try exact aa|refine aK G ?_|refine aK (by(try simp only[oF,List.length_append,List.length_cons,List.length_nil]);omega) ?_|exact al|fail
  all_goals exact b0
 rw[if_pos gf];subst gf;unfold kr;by_cases b3:(bC o).2=0;rotate_left
 .rw[if_neg b3];have iy:kv (.inl [bt gN])=[111,107,32]++bt gN:=by
   exact Uz
  have d0:decide ((bC o).2=0)=false:=decide_eq_false b3;unfold iN;rw[iy];unfold sx at ib;generalize (bC o).1=VJ at *;generalize (bC o).2=amr at *;refine az {} 0 func13 fun Γ an=>ar ?_
  repeat' first|refine af ?_|refine J h ?_|simp only[cL,cO,cS,cZ,cW,ss,jq,d0,bF,eP,e3,kf,mN,mH,oG,td,vo,r5,dt,aU,Int.reduceToNat]|refine J CJ ?_|refine J lN ?_|refine J nr ?_|(with_reducible refine bE 3 ?_ (iM _) (fun _ _ _ h=>h) ?_);(exact rfl)|refine J ib ?_|refine ag ?_|refine ab ?_ ?_<;>intro h<;>try exact aa|refine aK G ?_|refine aK (by(try simp only[oF,List.length_append,List.length_cons,List.length_nil]);omega) ?_|exact al|fail
  all_goals exact b0
 rw[if_pos b3];obtain⟨ah,ai,R5,vC⟩:=Et b3;unfold sx at ib;rw[b3]at ib;clear b3;generalize (bC o).1=VJ at *;obtain⟨f1,f2,f3,f4,f5⟩:=VJ;dsimp only at *;have ahB:=vd _ ah;have afT:=vd _ ai;have oo:=hM _ R5;have ahk:=hM _ vC;have rf:=nI f1.toNat;have ry:=nI f2.toNat;have amF:=dW _ R5;have amD:=dW _ vC;have iy:kv (.inl [bt gN,eF f1.toNat,bt f4,eF f2.toNat,bt f5])=[111,107,32]++bt gN++([32]++eF f1.toNat++[32]++bt f4++[32]++eF f2.toNat++[32]++bt f5):=by
  exact YA
 unfold iN;rw[iy];refine az {} 0 func13 fun Γ an=>ar ?_
 repeat' first|refine af ?_|refine J h ?_|simp only[cL,cO,cS,cZ,cW,ss,jq,bF,eP,e3,kf,mN,mH,oG,td,vo,r5,dt,aU,Int.reduceToNat]|refine J CJ ?_|refine J ahB ?_|refine J afT ?_|refine J oo ?_|refine J ahk ?_|refine J lN ?_|refine J nr ?_|(with_reducible refine bE 3 ?_ (iM _) (fun _ _ _ h=>h) ?_);(exact rfl)|refine J ib ?_|refine ag ?_|refine ab ?_ ?_<;>intro h<;>try exact aa|refine aK G ?_|refine aK (by(try simp only[oF,List.length_append,List.length_cons,List.length_nil]);omega) ?_|exact al|fail
 all_goals exact b0):p:=e
theorem xD(e:p:=by
 have ah8:=b8 t (List.mem_of_getElem? bT);rw[List.drop_eq_getElem_cons aN,show l[k]=t from Option.some.inj ((List.getElem?_eq_getElem aN).symm.trans bT)]at a6;repeat' first|refine af ?_|refine J ah8 ?_|refine ag ?_|refine ab ?_ ?_<;>intro h<;>try exact aa|simp only[Int.toNat_natCast,dU]|exact al|fail
 .exact R9
 refine br ?_;refine⟨k+1,⟨Nat.succ_le_of_lt aN,Y1⟩,Nat.sub_lt_sub_left aN (Nat.lt_succ_self k),?_⟩;refine dB ?_ ?_ (Nat.le_refl _);all_goals first|refine dD ?_|exact dE
 all_goals repeat' first|exact trivial|exact rfl|apply And.intro
 exact eG ((IntWalk.i64_in _ G).trans G)):p:=e
theorem aas(e:p:=by
 repeat' first|refine af ?_|simp only[dt,aU]|simp only[a_]|simp only[a8]|simp only[dk]|refine J (Ll _) ?_|refine J (cA _ _ _) ?_|refine J cG ?_|refine J eX ?_|refine J aj ?_|refine J bX ?_|refine J (Ct _) ?_|with_reducible refine fS (iJ _ G) ?_|refine ag ?_|refine ab ?_ ?_<;>intro h<;>try exact aa|refine aK Qw ?_|exact al|fail
 all_goals exact b0):p:=e
theorem JA(e:p:=by
 obtain⟨aq,bg⟩:∃aq,ms[k]?=some aq:=⟨_,List.getElem?_eq_getElem aN⟩;have dU:=kW bg;have HF:=b8.tm aq (List.mem_of_getElem? bg);have lB:IntKind.i64.wrap ((k:Int)+1)=((k+1:Nat):Int):=(IntWalk.i64_in _ G).trans G;have CW:IntKind.i64.wrap (now-aq.tm)=now-aq.tm:=IntWalk.i64_in _ G;by_cases bB:now<=aq.tm+l
 .have sc:=aad bg bB;by_cases a6:aq.pr=17/\aq.ad=ad/\aq.po=po
  .have a_:=Sk a6 (av l now (ms.take k));have a8:=GY 17 ad po (av l now (ms.take k)) aq (-1);rw[show gH 17 ad po aq=true from decide_eq_true a6,if_pos rfl]at a8;exact aaf
  have a_:=Zd a6 (av l now (ms.take k));have a8:=GY 17 ad po (av l now (ms.take k)) aq (-1);rw[show gH 17 ad po aq=false from decide_eq_false a6,if_neg ae]at a8;rw[<-sc]at a_ a8;have adA:(bH 17 ad po (av l now (ms.take k))).length<=k:=Nat.le_trans (List.length_filter_le _ _) (Nat.le_trans (List.length_filter_le _ _) kF);have s6:((bH 17 ad po (av l now (ms.take k))).map Mp.enc).length=(bH 17 ad po (av l now (ms.take k))).length:=List.length_map _;have dk:(bH 17 ad po (av l now (ms.take (k+1)))).map Mp.enc=(bH 17 ad po (av l now (ms.take k))).map Mp.enc++[[.v (.int .i64 aq.pr),.v (.int .u32 aq.ad),.v (.int .i64 aq.po),.v (.int .i64 aq.ou),.v (.int .i64 aq.tm)]]:=St;have gn:(bH 17 ad po (av l now (ms.take (k+1)))).length=((bH 17 ad po (av l now (ms.take k))).map Mp.enc).length+1:=T2;exact Y7
 have sc:=Px bg bB;repeat' first|refine af ?_|simp only[lB,CW]|refine ag ?_|refine ab ?_ ?_<;>intro h<;>try exact aa|simp only[Int.toNat_natCast,dU]|exact al|fail
 all_goals try exfalso;simp_all;done
 refine br ⟨(k+1,n8,bR+1),aN,Nat.sub_lt_sub_left aN (Nat.lt_succ_self k),?_⟩;dsimp only;rw[sc];exact bs):p:=e
theorem NB(e:p:=by
 obtain⟨aq,bg⟩:∃aq,ms[k]?=some aq:=⟨_,List.getElem?_eq_getElem aN⟩;have dU:=kW bg;have HF:=b8.tm aq (List.mem_of_getElem? bg);have lB:IntKind.i64.wrap ((k:Int)+1)=((k+1:Nat):Int):=(IntWalk.i64_in _ G).trans G;have CW:IntKind.i64.wrap (now-aq.tm)=now-aq.tm:=IntWalk.i64_in _ G;by_cases bB:now<=aq.tm+l
 .have sc:=aad bg bB;by_cases a6:aq.pr=6/\aq.ad=ad/\aq.po=po
  .have a_:=Sk a6 (av l now (ms.take k));have a8:=GY 6 ad po (av l now (ms.take k)) aq (-1);rw[show gH 6 ad po aq=true from decide_eq_true a6,if_pos rfl]at a8;exact aaf
  have a_:=Zd a6 (av l now (ms.take k));have a8:=GY 6 ad po (av l now (ms.take k)) aq (-1);rw[show gH 6 ad po aq=false from decide_eq_false a6,if_neg ae]at a8;rw[<-sc]at a_ a8;have adA:(bH 6 ad po (av l now (ms.take k))).length<=k:=Nat.le_trans (List.length_filter_le _ _) (Nat.le_trans (List.length_filter_le _ _) kF);have s6:((bH 6 ad po (av l now (ms.take k))).map Mp.enc).length=(bH 6 ad po (av l now (ms.take k))).length:=List.length_map _;have dk:(bH 6 ad po (av l now (ms.take (k+1)))).map Mp.enc=(bH 6 ad po (av l now (ms.take k))).map Mp.enc++[[.v (.int .i64 aq.pr),.v (.int .u32 aq.ad),.v (.int .i64 aq.po),.v (.int .i64 aq.ou),.v (.int .i64 aq.tm)]]:=St;have gn:(bH 6 ad po (av l now (ms.take (k+1)))).length=((bH 6 ad po (av l now (ms.take k))).map Mp.enc).length+1:=T2;exact Y7
 have sc:=Px bg bB;repeat' first|refine af ?_|simp only[lB,CW]|refine ag ?_|refine ab ?_ ?_<;>intro h<;>try exact aa|simp only[Int.toNat_natCast,dU]|exact al|fail
 all_goals try exfalso;simp_all;done
 refine br ⟨(k+1,n8,bR+1),aN,Nat.sub_lt_sub_left aN (Nat.lt_succ_self k),?_⟩;dsimp only;rw[sc];exact bs):p:=e
theorem V0(e:p:=by
 rcases Int.emod_two_eq b7 with GI|GI
 .have AW:bits .and .u64 ((me t:Nat):Int) ((nJ 0:Nat):Int)=((lL t 0:Nat):Int):=Go.u64_and_nat _ _ (yE bT) (IM _);have iZ:=ajl;have Ce:bits .and .i64 b7 1=0:=RH;rcases ZQ bT lN (w:=0) ae GI with⟨eP,e3⟩|⟨eP,e3⟩
  .have h2:=Gd _ _ (yE bT) e3;have Ig:((lL t 0:Nat):Int)=0:=by rw[eP];rfl
   clear Bo;generalize ((lL t 0:Nat):Int)=Ks at *;generalize ((me t:Nat):Int)=F at *;generalize ((nJ 0:Nat):Int)=M at *;generalize ((t+2 ^ hb t b7:Nat):Int)=kG at *;generalize hb t b7=K at *;generalize (t:Int)=T at *;refine az {} 0 func278 fun Γ an=>ar ?_
   repeat' first|refine af ?_|refine J h1 ?_|refine J h2 ?_|simp only[Bd]|simp only[sB,GS,Ce,iZ,AW,sT,FW,Bz]|refine ag ?_|refine ab ?_ ?_<;>intro h<;>try exact aa|simp only[Int.toNat_natCast]|exact al|fail
   all_goals try exfalso;simp at h;done
   all_goals exact bM
  have h2:=Gd _ _ (JV bT) e3;have Ig:=Sg eP;clear Bo;generalize ((lL t 0:Nat):Int)=Ks at *;generalize ((me t:Nat):Int)=F at *;generalize ((nJ 0:Nat):Int)=M at *;generalize ((t+2 ^ hb t b7:Nat):Int)=kG at *;generalize hb t b7=K at *;generalize (t:Int)=T at *;refine az {} 0 func278 fun Γ an=>ar ?_
  repeat' first|refine af ?_|refine J h1 ?_|refine J h2 ?_|simp only[Bd]|simp only[sB,GS,Ce,iZ,AW,sT,FW,Bz]|refine ag ?_|refine ab ?_ ?_<;>intro h<;>try exact aa|simp only[Int.toNat_natCast]|exact al|fail
  all_goals try exfalso;simp at h;done
  all_goals exact bM
 have AW:bits .and .u64 ((me t:Nat):Int) ((nJ 1:Nat):Int)=((lL t 1:Nat):Int):=Go.u64_and_nat _ _ (yE bT) (IM _);have iZ:=agM;have Ce:bits .and .i64 b7 1=1:=RH;rcases ZQ bT lN (w:=1) ae GI with⟨eP,e3⟩|⟨eP,e3⟩
 .have h2:=Gd _ _ (yE bT) e3;have Ig:((lL t 1:Nat):Int)=0:=by rw[eP];rfl
  clear Bo;generalize ((lL t 1:Nat):Int)=Ks at *;generalize ((me t:Nat):Int)=F at *;generalize ((nJ 1:Nat):Int)=M at *;generalize ((t+2 ^ hb t b7:Nat):Int)=kG at *;generalize hb t b7=K at *;generalize (t:Int)=T at *;refine az {} 0 func278 fun Γ an=>ar ?_
  repeat' first|refine af ?_|refine J h1 ?_|refine J h2 ?_|simp only[Bd]|simp only[sB,GS,Ce,iZ,AW,sT,FW,Bz]|refine ag ?_|refine ab ?_ ?_<;>intro h<;>try exact aa|simp only[Int.toNat_natCast]|exact al|fail
  all_goals try exfalso;simp at h;done
  all_goals exact bM
 have h2:=Gd _ _ (JV bT) e3;have Ig:=Sg eP;clear Bo;generalize ((lL t 1:Nat):Int)=Ks at *;generalize ((me t:Nat):Int)=F at *;generalize ((nJ 1:Nat):Int)=M at *;generalize ((t+2 ^ hb t b7:Nat):Int)=kG at *;generalize hb t b7=K at *;generalize (t:Int)=T at *;refine az {} 0 func278 fun Γ an=>ar ?_
 repeat' first|refine af ?_|refine J h1 ?_|refine J h2 ?_|simp only[Bd]|simp only[sB,GS,Ce,iZ,AW,sT,FW,Bz]|refine ag ?_|refine ab ?_ ?_<;>intro h<;>try exact aa|simp only[Int.toNat_natCast]|exact al|fail
 all_goals try exfalso;simp at h;done
 all_goals exact bM):p:=e
theorem K6(e:p:=by
 obtain⟨t,bT⟩:∃t,l[k]?=some t:=⟨_,List.getElem?_eq_getElem aN⟩;have dU:=oj bT;have Gj:=tK (qu (gX bu).2 (List.mem_of_getElem? bT));have uF:(List.filter (fun t=>!t.cn now) (List.take k l)).length<=64:=Nat.le_trans (List.length_filter_le _ _) kF;have Is:(av (List.take k l) now).length<=64:=uF;have eE:l.take (k+1)=l.take k++[t]:=OE;repeat' first|refine af ?_|refine J (RM _ _ _ _ _ _ _ _ Gj.1 Gj.2 Ni) ?_|refine ag ?_|refine ab ?_ ?_<;>intro h<;>try exact aa|simp only[Int.toNat_natCast,dU]|refine aK ⟨aH,aH,aH,aH,aF⟩ ?_|refine aK ⟨aH,by(unfold cx maxLen;simp only[List.length_map,List.length_cons,List.length_nil];omega)⟩ ?_|fail
 .have Fa:av (l.take (k+1)) now=av (l.take k) now++[t]:=by
   exact acm
  refine br ⟨(k+1,cR+1+1+1,cR+1+1),⟨aN,aeI,aj2⟩,Nat.sub_lt_sub_left aN (Nat.lt_succ_self k),?_⟩;refine dB ?_ ?_ (Nat.le_refl _);all_goals first|refine dD ?_|exact dE
  all_goals repeat' first|exact trivial|exact rfl|apply And.intro
  all_goals first|exact eG ((IntWalk.i64_in _ G).trans G)|rw[Fa,List.length_append,List.length_map];rfl|rw[Fa];exact afU|skip
 have Fa:av (l.take (k+1)) now=av (l.take k) now:=by
  exact al6
 refine br ⟨(k+1,cR+1,N),⟨aN,aA,akC⟩,Nat.sub_lt_sub_left aN (Nat.lt_succ_self k),?_⟩;refine dB ?_ ?_ (Nat.le_refl _);all_goals first|refine dD ?_|exact dE
 all_goals repeat' first|exact trivial|exact rfl|apply And.intro
 all_goals first|exact eG ((IntWalk.i64_in _ G).trans G)|rw[Fa]|skip):p:=e
theorem H8(e:p:=by
 refine az {} 0 func75 fun Γ an=>ar ?_
 repeat' first|refine af ?_|refine J bu ?_|refine J eY ?_|refine J h3 ?_|refine J bf ?_|refine J bq ?_|refine J eE ?_|refine J bX ?_|refine J l6 ?_|simp only[e0,c3,fR,dV,c5,aU,b_]|refine ag ?_|refine ab ?_ ?_<;>intro h<;>try exact aa|simp only[aU,b_,Int.toNat_natCast]|refine aK vU ?_|exact al|fail
 all_goals try (exfalso;simp_all;done)
 all_goals exact b0):p:=e
theorem Hq(e:p:=by
 all_goals try exfalso;simp_all;done
 all_goals exact b0):p:=e
theorem pH(e:p:=by
 refine az {} 0 func166 fun Γ an=>ar ?_
 repeat' first|refine af ?_|simp only[aU,NV,a_]|refine J (aeB _) ?_|refine ag ?_|refine ab ?_ ?_<;>intro h<;>try exact aa|exact al|fail
 all_goals exact bM):p:=e
theorem uX(e:p:=by
 refine dB ?_ ?_ (Nat.le_refl _);all_goals first|refine dD ?_|exact dE
 all_goals repeat' first|exact trivial|exact rfl|apply And.intro
 exact eG ((IntWalk.i64_in _ G).trans G)):p:=e
theorem Fg(e:p:=by
 refine h0 {} 2 func162 fun Γ cT eg=>ar ?_
 have bd:n<Γ.g0:=cT 0 _ rfl;have bg:aq<Γ.g0:=cT 1 _ rfl;repeat' first|refine af ?_|(with_reducible refine aL 218 ?_);(refine gb [0,1] [4] [0,1,4] rfl ae rfl rfl h3 ?_)|(with_reducible refine aL 219 ?_);(refine aX [0,4] ae rfl rfl (sy _) ?_)|(with_reducible refine aL 220 ?_);(refine aX [0,4] ae rfl rfl (ib _) ?_)|refine J bu ?_|refine J eY ?_|refine ag ?_|refine ab ?_ ?_<;>intro h<;>try exact aa|exact al|fail
 all_goals try (exfalso;simp_all;done)
 exact kh [0,1,4] [Γ.g0] trivial ae rfl (fun a ek=>WU) (fun q=>⟨⟨rfl,trivial⟩,⟨rfl,trivial⟩,rfl⟩) (fun q=>⟨⟨.inr ⟨bd,rfl⟩,rfl,Ft _ _ _ now (.inl ⟨0,rfl,rfl⟩),rfl⟩,⟨.inl ⟨0,rfl,rfl⟩,rfl,gK _ (px _ _)⟩,rfl⟩)):p:=e
theorem Kx(e:p:=by
 simp only[Ef,QF];refine bS (α:=Nat×Nat) (fun y=>[(⟨.d1,.d4,.d4⟩,.v (.int .i64 (y.1:Nat))),(⟨.d0,.d0,.d6⟩,.v (.bool (false&&(aC.ms.take y.1).all (nV t))))]) (fun _=>[(2,none)]) (fun y=>y.2) (fun y=>k-y.1) (fun y=>y.1<=k) (0,cR+1) (Nat.zero_le _) ?_ ?_
 .exact O9
 rintro⟨j,rl⟩ cB;dsimp only at cB⊢;refine bz ?_;by_cases Ez:j<k
 .obtain⟨y,bB⟩:∃y,aC.ms[j]?=some y:=⟨_,List.getElem?_eq_getElem G⟩;have yQ:cf ((aC.ms.take k).map aZ.enc) j=y.enc:=vs UU;have pV:=To (p:=nV t) bB;rw[YB]at pV;have Aa:IntKind.i64.wrap ((j:Int)+1)=((j+1:Nat):Int):=(IntWalk.i64_in _ G).trans G;generalize IG:(aC.ms.take (j+1)).all (nV t)=afG at *;generalize (aC.ms.take j).all (nV t)=Mg at *;cases IN:(false&&Mg)
  all_goals
   repeat' first|refine af ?_|refine ag ?_|refine ab ?_ ?_<;>intro h<;>try exact aa|simp only[Int.toNat_natCast,yQ,Aa]|refine aK ⟨MO,aH⟩ ?_|exact al|fail
   all_goals exact TZ
 obtain rfl:j=k:=G;exact Sh):p:=e
theorem Cl(e:p:=by
 refine az {} 0 func121 fun Γ an=>ar ?_
 repeat' first|refine af ?_|simp only[aU,dt,lp,dF]|simp only[a_]|refine J (cA _ _ _) ?_|(with_reducible first|refine nF rfl (Z2 1 _ _ _) ?_|refine nF rfl (tH o.k ((o.d.length:Int)+2) _ _ _) ?_)|refine ag ?_|refine ab ?_ ?_<;>intro h<;>try exact aa|refine aK n9 ?_|exact al|fail
 all_goals first|exfalso;simp_all;done|exfalso;simp_all;omega|skip
 all_goals exact b0):p:=e
theorem G2(e:p:=by
 obtain⟨t,bT⟩:∃t,l[k]?=some t:=⟨_,List.getElem?_eq_getElem aN⟩;have dU:=oj bT;have acu:fV (l.take (k+1))=t.x:=tZ _ k t ahG kF;repeat' first|refine af ?_|refine ag ?_|refine ab ?_ ?_<;>intro h<;>try exact aa|simp only[Int.toNat_natCast,dU]|exact al|fail
 refine br ⟨(k+1,bR+1),⟨aN,Nat.le_succ_of_le kg⟩,Nat.sub_lt_sub_left aN (Nat.lt_succ_self k),?_⟩;refine dB ?_ ?_ (Nat.le_refl _);all_goals first|refine dD ?_|exact dE
 all_goals repeat' first|exact trivial|exact rfl|apply And.intro
 all_goals first|exact eG acu.symm|exact eG ((IntWalk.i64_in _ G).trans G)):p:=e
theorem QI(e:p:=by
 have dV:(ByteArray.mk #[111,117,116,115,105,100,101]:ByteArray)=I cV:=rfl;have e0:(ByteArray.mk #[112,111,114,116,115]:ByteArray)=I cX:=rfl;have c3:(ByteArray.mk #[108,105,102,101]:ByteArray)=I cU:=rfl;have fR:(ByteArray.mk #[114,97,116,101]:ByteArray)=I c0:=rfl;have c5:(ByteArray.mk #[101,108,115,101]:ByteArray)=I cM:=rfl;have n21:decide (I cX=I cV)=false:=decide_eq_false dw;have n31:decide (I cU=I cV)=false:=decide_eq_false dw;have n32:decide (I cU=I cX)=false:=decide_eq_false dw;have amn:decide (I c0=I cV)=false:=decide_eq_false dw;have aml:decide (I c0=I cX)=false:=decide_eq_false dw;have amv:decide (I c0=I cU)=false:=decide_eq_false dw;have amy:decide (I cM=I cV)=false:=decide_eq_false dw;have amp:decide (I cM=I cX)=false:=decide_eq_false dw;have amx:decide (I cM=I cU)=false:=decide_eq_false dw;have ami:decide (I cM=I c0)=false:=decide_eq_false dw;have oW:∀x:ByteArray,decide (x=x)=true:=fun x=>decide_eq_true rfl
 obtain⟨amC,Xc⟩:=T;cases Xc
 all_goals
  refine h0 {} 3 func150 fun Γ cT eg=>ar ?_
  have GB:du<Γ.g0:=cT 0 _ rfl;have nr:pK<Γ.g0:=cT 2 _ rfl;repeat' first|refine af ?_|simp only[dV,e0,c3,fR,c5,oW,n21,fM,AB]|(with_reducible refine bE 2 ?_ (dN 2 gf) (fun _ _ _ h=>h) ?_);(exact rfl)|(with_reducible refine bE 2 ?_ (dN 2 h1) (fun _ _ _ h=>h) ?_);(exact rfl)|(with_reducible refine bE 2 ?_ (dN 2 h2) (fun _ _ _ h=>h) ?_);(exact rfl)|refine ag ?_|refine ab ?_ ?_<;>intro h<;>try exact aa|exact al|fail
  all_goals refine BF (j1 Zl) ?_
  all_goals refine kh [0,6,2,1] [Γ.g0] ?_ ae rfl (fun a ek=>?_) (fun aq=>?_) (fun aq=>?_)
  any_goals (first|refine kM ?_|exact cc)
  all_goals exact YD):p:=e
theorem QM(e:p:=by
 refine az {} 0 func262 fun Γ an=>ar ?_
 repeat' first|refine af ?_|refine J c ?_|refine ag ?_|refine ab ?_ ?_<;>intro h<;>try exact aa|exact al|fail
 all_goals first|exfalso;simp at h;done|exfalso;simp_all;done|skip
 refine bS (α:=Nat×Nat) (fun p=>[(⟨.d0,.d4,.d2⟩,.v (.int .i64 (p.1:Nat)))]) (fun p=>[(1,none)]) (fun p=>p.2) (fun p=>ms.length-p.1) (fun p=>p.1<=ms.length/\ms.find? (pQ l pr out now)=(ms.drop p.1).find? (pQ l pr out now)) (0,Γ.g0+1) ⟨Nat.zero_le _,rfl⟩ ?_ ?_
 .exact bs
 rintro⟨k,bR⟩ ⟨bq,bV⟩;dsimp only at bq bV⊢;refine bz ?_;by_cases aN:k<ms.length
 .obtain⟨aq,bg⟩:∃aq,ms[k]?=some aq:=⟨_,List.getElem?_eq_getElem aN⟩;have dU:=kW bg;have amh:=oV aq (List.mem_of_getElem? bg);have cy:IntKind.i64.wrap (now-aq.tm)=now-aq.tm:=IntWalk.i64_in _ G;have lB:IntKind.i64.wrap ((k:Int)+1)=((k+1:Nat):Int):=(IntWalk.i64_in _ G).trans G;rw[List.drop_eq_getElem_cons aN,show ms[k]=aq from Option.some.inj ((List.getElem?_eq_getElem aN).symm.trans bg),List.find?_cons]at bV;cases ay:pQ l pr out now aq with
  |true=>
   rw[ay]at bV;have ek:jS l pr out now ms=(aq.ad,aq.po,0):=by unfold jS;rw[bV]
   rw[ek];unfold pQ at ay;rw[decide_eq_true_eq]at ay;repeat' first|refine af ?_|simp only[cy,lB]|refine ag ?_|refine ab ?_ ?_<;>intro h<;>try exact aa|simp only[Int.toNat_natCast,dU]|exact al|fail
   all_goals exact bM
  |false=>
   exact ahv
 obtain rfl:k=ms.length:=G;rw[List.drop_length]at bV;have ek:jS l pr out now ms=(0,0,7):=by unfold jS;rw[bV];rfl
 rw[ek];repeat' first|refine af ?_|refine ag ?_|refine ab ?_ ?_<;>intro h<;>try exact aa|exact al|fail
 all_goals exact bM):p:=e
theorem O5(e:p:=by
 refine eu {} 1 func21 fun Γ cT eg cd=>ep ?_
 have eB:=fun st h=>cd st h ⟨⟨eg 0 _ rfl,fL _ _⟩,trivial⟩
 clear cd;repeat' first|(with_reducible refine eN 5 _ rfl ?_);(repeat' first|refine af ?_|(with_reducible refine aL 41 ?_);(refine aX [1] ae rfl rfl (gD _) ?_)|simp only[cL,cO,cZ,cW,dp,cS]|refine J cw ?_|refine J fe ?_|simp only[d1,d2,d3,d4]|(with_reducible refine aL 49 ?_);(refine aX [1] ae rfl rfl (h1 _) ?_)|(with_reducible refine aL 50 ?_);(refine aX [1] ae rfl rfl (h2 _) ?_)|(with_reducible refine aL 51 ?_);(refine aX [1] ae rfl rfl (bI _) ?_)|(with_reducible refine aL 51 ?_);(refine aX [1] ae rfl rfl (tV _) ?_)|(with_reducible refine aL 45 ?_);(refine aX [1] ae rfl rfl (fr _) ?_)|refine aL 55 (fS iZ ?_)|refine eR ?_|refine ab ?_ ?_<;>intro h<;>try exact aa);(all_goals exact eT [] ae rfl rfl a6 (eB _ ⟨rfl,trivial⟩));done|refine af ?_|(with_reducible refine aL 41 ?_);(refine aX [1] ae rfl rfl (gD _) ?_)|simp only[cL,cO,cZ,cW,dp,cS]|refine J cw ?_|refine J fe ?_|simp only[d1,d2,d3,d4]|(with_reducible refine aL 49 ?_);(refine aX [1] ae rfl rfl (h1 _) ?_)|(with_reducible refine aL 50 ?_);(refine aX [1] ae rfl rfl (h2 _) ?_)|(with_reducible refine aL 51 ?_);(refine aX [1] ae rfl rfl (bI _) ?_)|(with_reducible refine aL 51 ?_);(refine aX [1] ae rfl rfl (tV _) ?_)|(with_reducible refine aL 45 ?_);(refine aX [1] ae rfl rfl (fr _) ?_)|refine aL 55 (fS iZ ?_)|refine ag ?_|refine ab ?_ ?_<;>intro h<;>try exact aa):p:=e
theorem El(e:p:=by
 refine az {} 0 func137 fun Γ an=>ar ?_
 repeat' first|refine af ?_|simp only[aU,b_,q7,Int.toNat_natCast]|simp only[w0]|simp only[bl]|simp only[gh]|simp only[h_,kd]|refine J r7 ?_|refine J (cA _ _ _) ?_|refine J aT ?_|refine ag ?_|refine ab ?_ ?_<;>intro h<;>try exact aa|exact al|fail
 all_goals first|exfalso;simp_all;done|exfalso;simp_all;omega|skip
 all_goals exact bM):p:=e
theorem nR(e:p:=by exact eG ((IntWalk.i64_in _ G).trans G)):p:=e
theorem Zn(e:p:=by
 refine eu {} 1 func21 fun Γ cT eg cd=>ep ?_
 have eB:=fun st h=>cd st h ⟨⟨eg 0 _ rfl,fL _ _⟩,trivial⟩
 clear cd;repeat' first|(with_reducible refine eN 5 _ rfl ?_);(repeat' first|refine af ?_|(with_reducible refine aL 41 ?_);(refine aX [1] ae rfl rfl (gD _) ?_)|simp only[cL,cO,cZ,cW,dp,cS]|refine J cw ?_|refine J fe ?_|simp only[d1,d2,d3]|(with_reducible refine aL 49 ?_);(refine aX [1] ae rfl rfl (h1 _) ?_)|(with_reducible refine aL 50 ?_);(refine aX [1] ae rfl rfl (h2 _) ?_)|(with_reducible refine aL 51 ?_);(refine aX [1] ae rfl rfl (bI _) ?_)|(with_reducible refine aL 45 ?_);(refine aX [1] ae rfl rfl (fr _) ?_)|refine aL 52 (fS iZ ?_)|refine eR ?_|refine ab ?_ ?_<;>intro h<;>try exact aa);(all_goals exact eT [] ae rfl rfl a6 (eB _ ⟨rfl,trivial⟩));done|refine af ?_|(with_reducible refine aL 41 ?_);(refine aX [1] ae rfl rfl (gD _) ?_)|simp only[cL,cO,cZ,cW,dp,cS]|refine J cw ?_|refine J fe ?_|simp only[d1,d2,d3]|(with_reducible refine aL 49 ?_);(refine aX [1] ae rfl rfl (h1 _) ?_)|(with_reducible refine aL 50 ?_);(refine aX [1] ae rfl rfl (h2 _) ?_)|(with_reducible refine aL 51 ?_);(refine aX [1] ae rfl rfl (bI _) ?_)|(with_reducible refine aL 45 ?_);(refine aX [1] ae rfl rfl (fr _) ?_)|refine aL 52 (fS iZ ?_)|refine ag ?_|refine ab ?_ ?_<;>intro h<;>try exact aa):p:=e
theorem Tp(e:p:=by
 generalize (t:Int)=T at *;refine az {} 0 func185 fun Γ an=>ar ?_
 repeat' first|refine af ?_|refine J h1 ?_|refine J h2 ?_|refine J bI ?_|refine J fr ?_|refine gC 1 rfl vp ⟨rfl,⟨rfl,rfl,⟨.inl ⟨rfl,rfl,Nat.zero_lt_one,rfl⟩,rfl⟩⟩,rfl⟩ rfl ?_|simp only[fa,X_,Yn]|refine ag ?_|refine ab ?_ ?_<;>intro h<;>try exact aa|simp only[Int.toNat_natCast,Int.toNat_zero,K4,Gb]|exact al|fail
 all_goals try exfalso;simp at h;done
 all_goals exact bM):p:=e
theorem vq(e:p:=by
 repeat' first|refine af ?_|refine ag ?_|refine ab ?_ ?_<;>intro h<;>try exact aa|exact al|fail
 all_goals(refine cI ?_;first|exact cc|try simp only[cE]at *)
 obtain rfl:k=l.length:=G;exact Xd):p:=e
theorem o3(e:p:=by
 repeat' first|refine af ?_|refine ag ?_|refine ab ?_ ?_<;>intro h<;>try exact aa|exact al|fail
 all_goals exact bM):p:=e
theorem er(e:p:=by rw[IntWalk.i64_in _ G];omega):p:=e
theorem z1(e:p:=by
 repeat' first|refine af ?_|refine J bO ?_|refine J (cA _ _ _) ?_|simp only[lA]|refine ag ?_|refine ab ?_ ?_<;>intro h<;>try exact aa|exact al|fail
 all_goals try exfalso;simp_all;done
 all_goals(refine cI ?_;first|exact cc|try simp only[cE]at *)
 all_goals rw[acN ae bn]):p:=e
theorem E0(e:p:=by
 refine az {} 0 func105 fun Γ an=>ar ?_
 repeat' first|refine af ?_|simp only[dt,aU]|simp only[a_,a8,dk]|simp only[vR]|simp only[akh]|simp only[gn]|refine J aT ?_|refine J (Ls _) ?_|refine J Dp ?_|refine J oX ?_|refine J aj ?_|refine ag ?_|refine ab ?_ ?_<;>intro h<;>try exact aa|refine aK Rw ?_|exact al|fail
 all_goals exact b0):p:=e
theorem Nf(e:p:=by
 by_cases gf:0<l.length
 .have alg:=oj (b3 gf).1;have cy:IntKind.i64.wrap ((l.length:Int)-1)=((l.length-1:Nat):Int):=(IntWalk.i64_in _ G).trans G;exact acP
 repeat' first|refine af ?_|refine ag ?_|refine ab ?_ ?_<;>intro h<;>try exact aa|exact al|fail
 all_goals (refine br ⟨(),trivial,?_⟩)
 all_goals ((refine dB ?_ ?_ (Nat.le_refl _));(all_goals first|refine dD ?_|exact dE);(all_goals (repeat' (first|exact trivial|exact rfl|apply And.intro))))
 all_goals (rw[List.eq_nil_of_length_eq_zero (show l.length=0 from G)];rfl)):p:=e
theorem HV(e:p:=by
 have bd:n<Γ.g0:=cT 0 _ rfl;repeat' first|refine af ?_|refine ag ?_|refine ab ?_ ?_<;>intro h<;>try exact aa|simp only[Int.toNat_natCast,Nat.zero_add,JB,List.length_map,List.length_drop]|refine aK ⟨aH,aH,aH,G,yo _⟩ ?_|refine aK ⟨aH,aH,aH,G,G,G,by(rw[fa];omega)⟩ ?_|refine aK ⟨aH,aH,aH,by(rw[fa];omega),aH⟩ ?_|fail
 .have af9:i=j:=by(simp only[gu,reduceCtorEq]at *<;>omega)
  subst af9;rw[List.take_append_drop];exact iT trivial bd rfl rfl bd (eS (fun x=>fY)) rfl
 exact aez):p:=e
theorem Ux(e:p:=by
 rw[if_pos bI];have h3:True:=trivial;have sy:Nat->True:=fun _=>trivial
 have ib:Nat->True:=fun _=>trivial
 refine h0 {} 2 func162 fun Γ cT eg=>ar ?_
 have bd:n<Γ.g0:=cT 0 _ rfl;have bg:aq<Γ.g0:=cT 1 _ rfl;repeat' first|refine af ?_|(with_reducible refine aL 218 ?_);(refine gb [0,1] [4] [0,1,4] rfl ae rfl rfl h3 ?_)|(with_reducible refine aL 219 ?_);(refine aX [0,4] ae rfl rfl (sy _) ?_)|(with_reducible refine aL 220 ?_);(refine aX [0,4] ae rfl rfl (ib _) ?_)|refine J bu ?_|refine J eY ?_|refine ag ?_|refine ab ?_ ?_<;>intro h<;>try exact aa|exact al|fail
 all_goals try (exfalso;simp_all;done)
 refine BF (j1 (X7 aC ⟨ax,to,bx,bZ,b2⟩ t now _)) ?_;exact kh [0,2,1] [Γ.g0] trivial ae rfl (fun a ek=>T8) (fun q=>⟨⟨rfl,trivial⟩,⟨rfl,trivial⟩,rfl⟩) (fun q=>⟨⟨.inr ⟨bd,rfl⟩,rfl,Ft aC _ _ now (.inl ⟨0,rfl,rfl⟩),rfl⟩,⟨.inl ⟨0,rfl,rfl⟩,rfl,gK _ (px _ _)⟩,rfl⟩)):p:=e
theorem PM(e:p:=by
 have h3:True:=trivial;have sy:Nat->True:=fun _=>trivial
 have ib:Nat->True:=fun _=>trivial
 refine h0 {} 2 func162 fun Γ cT eg=>ar ?_
 have bd:n<Γ.g0:=cT 0 _ rfl;have bg:aq<Γ.g0:=cT 1 _ rfl;repeat' first|refine af ?_|(with_reducible refine aL 218 ?_);(refine gb [0,1] [4] [0,1,4] rfl ae rfl rfl h3 ?_)|(with_reducible refine aL 219 ?_);(refine aX [0,4] ae rfl rfl (sy _) ?_)|(with_reducible refine aL 220 ?_);(refine aX [0,4] ae rfl rfl (ib _) ?_)|refine J bu ?_|refine J eY ?_|refine ag ?_|refine ab ?_ ?_<;>intro h<;>try exact aa|exact al|fail
 all_goals try (exfalso;simp_all;done)
 refine BF (j1 (X7 aC ⟨ax,to,bx,bZ,b2⟩ [] now _)) ?_;exact kh [0,2,1] [Γ.g0] trivial ae rfl (fun a ek=>T8) (fun q=>⟨⟨rfl,trivial⟩,⟨rfl,trivial⟩,rfl⟩) (fun q=>⟨⟨.inr ⟨bd,rfl⟩,rfl,Ft aC _ _ now (.inl ⟨0,rfl,rfl⟩),rfl⟩,⟨.inl ⟨0,rfl,rfl⟩,rfl,gK _ (px _ _)⟩,rfl⟩)):p:=e
theorem Xs(e:p:=by
 all_goals(refine cI ?_;first|exact cc|try simp only[cE]at *)
 all_goals first
  |(have e:j0 r aq x a now n=1:=by unfold j0;rw[if_neg G,if_pos G]
    exact al7)
  |(have rB:gV r aq x a≠0:=by assumption
    exact agK)
  |(have rB:gV r aq x a=0:=by assumption
    have hl:=Q6 (now:=now) rB G;have bq:=rq rB;have e:j0 r aq x a now n=0:=by unfold j0;rw[if_neg G,if_neg G]
    have bd:gI r aq x a now<n:=G;exact FE acz (fA (by rw[e];first|rfl|rw[decide_eq_false (show¬n<=gI r aq x a now from G)];rfl)) (eG e.symm))
  |(have rB:gV r aq x a=0:=by assumption
    have hl:=Q6 (now:=now) rB G;have bq:=rq rB;have e:j0 r aq x a now n=0:=by unfold j0;rw[if_neg G,if_neg G]
    have bd:¬gI r aq x a now<n:=G;exact FE (by unfold pT mB;rw[e,if_pos rfl,if_neg bd,IntWalk.i64_in (gI r aq x a now-n) G]) (fA (by rw[e];first|rfl|rw[decide_eq_true (show n<=gI r aq x a now from G)];rfl)) (eG e.symm))):p:=e
theorem DH(e:p:=by
 have eB:=fun st=>cd st (mm _) trivial
 clear cd;repeat' first|(with_reducible refine eN 1 _ rfl ?_);(repeat' first|refine af ?_|refine eR ?_|refine ab ?_ ?_<;>intro h<;>try exact aa);(all_goals exact eT [0] ae rfl rfl h1 (eB _));done|refine af ?_|refine ag ?_|refine ab ?_ ?_<;>intro h<;>try exact aa):p:=e
theorem LI(e:p:=by
 repeat' first|refine af ?_|simp only[Int.toNat_natCast,dU,List.length_map,aU,lp,dF,Gr,a_,Hj]|simp only[qp]|simp only[i_]|refine ag ?_|refine ab ?_ ?_<;>intro h<;>try exact aa|refine aK ⟨aH,aH,aH,aH,yG⟩ ?_|refine aK ⟨aH,aH,aH,aH,Lk⟩ ?_|refine aK ⟨aH,qP⟩ ?_|refine aK ⟨Ah _,qP⟩ ?_|exact al|fail
 all_goals try exfalso;simp_all;done
 all_goals exact bM):p:=e
theorem tB(e:p:=by
 all_goals try exfalso;simp at h;done
 all_goals exact bM):p:=e
theorem KU(e:p:=by
 all_goals refine BF (j1 Zl) ?_
 all_goals refine kh [0,6,2,1] [Γ.g0] ?_ ae rfl (fun a ek=>?_) (fun aq=>?_) (fun aq=>?_)
 any_goals (first|refine kM ?_|exact cc)
 all_goals exact YD):p:=e
theorem A0(e:p:=by
 repeat' first|refine af ?_|refine ag ?_|refine ab ?_ ?_<;>intro h<;>try exact aa|exact al|fail
 all_goals exact b0):p:=e
theorem akc(e:p:=by
 obtain rfl:k=ms.length:=G;rw[tW];clear bq;repeat' first|refine af ?_|refine J bI ?_|refine J fr ?_|refine ag ?_|refine ab ?_ ?_<;>intro h<;>try exact aa|exact al|fail
 all_goals try exfalso;simp at h;done
 all_goals exact tw):p:=e
theorem Nl(e:p:=by
 all_goals(refine cI ?_;first|exact cc|try simp only[cE]at *)
 exact eG (by unfold et;rw[if_neg G,rV];rfl)):p:=e
theorem Nq(e:p:=by
 have r3:=fun g=>kl g ms
 refine az {} 2 func260 fun Γ an=>ar ?_
 repeat' first|refine af ?_|refine J h1 ?_|refine J h2 ?_|simp only[fa,o0]|refine ag ?_|refine ab ?_ ?_<;>intro h<;>try exact aa|simp only[Bl,Cv]|exact al|fail
 all_goals try exfalso;simp at h;done
 all_goals exact tw):p:=e
theorem oN(e:p:=by
 intro aq bg;rcases bg with h|h
 .exact .inl h
 exact .inr G):p:=e
theorem agx(e:p:=by
 obtain⟨y,bB⟩:∃y,ms[j]?=some y:=⟨_,List.getElem?_eq_getElem G⟩;have yQ:=kW (l:=ms.take k) (k:=j) (t:=y) Eh;have LJ:y∈ms.take k:=List.mem_iff_getElem?.2 ⟨j,Eh⟩;cases vE:mR y aq with
 |true=>
  exact ahs
 |false=>
  have bn:=vE;unfold mR at bn;rw[decide_eq_false_iff_not]at bn;have aik:∀ff∈ms.take (j+1),mR ff aq=false:=fun ff b3=>by
   exact agE
  have Aa:IntKind.i64.wrap ((j:Int)+1)=((j+1:Nat):Int):=(IntWalk.i64_in _ G).trans G;exact alY):p:=e
theorem Iq(e:p:=by
 refine dB ?_ ?_ (Nat.le_refl _);all_goals first|refine dD ?_|exact dE
 all_goals repeat' first|exact trivial|exact rfl|apply And.intro
 all_goals try exact eG ((IntWalk.i64_in _ G).trans G)):p:=e
theorem K_(e:p:=by
 repeat' first|refine af ?_|refine J h1 ?_|refine J h2 ?_|refine ag ?_|refine ab ?_ ?_<;>intro h<;>try exact aa|exact al|fail
 all_goals exact bM):p:=e
theorem Vp(e:p:=by
 clear b8;generalize av l now ms=amw at *;have Q8:=mW ah t1 17 MX false fg W5 eP kf;have h8:=mW ai t2 6 MX false fg Xb e3 kf;have r3:=fun g=>kl g ms
 repeat' first|refine af ?_|refine gC 5 rfl Q8 ⟨⟨rfl,rfl,rfl⟩,.inl ⟨rfl,rfl,aF,by rw[e1 aF]⟩,rfl,rfl⟩ rfl ?_|refine gC 5 rfl h8 ⟨⟨rfl,rfl,rfl⟩,.inl ⟨rfl,rfl,aF,by rw[e1 aF]⟩,rfl,rfl⟩ rfl ?_|refine J n0 ?_|refine ag ?_|refine ab ?_ ?_<;>intro h<;>try exact aa|exact al|fail
 all_goals try exfalso;simp at h;done
 all_goals exact tw):p:=e
theorem Mi(e:p:=by
 refine az {} 0 func185 fun Γ an=>ar ?_
 repeat' first|refine af ?_|refine J h1 ?_|refine J h2 ?_|refine J bI ?_|simp only[fa]|refine ag ?_|refine ab ?_ ?_<;>intro h<;>try exact aa|exact al|fail
 all_goals try exfalso;simp at h;done
 all_goals exact b0):p:=e
theorem XL(e:p:=by
 refine az {} 0 func13 fun Γ an=>ar ?_
 repeat' first|refine af ?_|refine J h ?_|simp only[cL,cO,cS,cZ,cW,ss,jq,d0,bF,eP,e3,kf,mN,mH,oG,td,vo,r5,dt,aU,Int.reduceToNat]|refine J lN ?_|refine J nr ?_|(with_reducible refine bE 3 ?_ (iM _) (fun _ _ _ h=>h) ?_);(exact rfl)|refine J ib ?_|refine ag ?_|refine ab ?_ ?_<;>intro h<;>try exact aa|refine aK G ?_|refine aK (by(try simp only[oF,List.length_append,List.length_cons,List.length_nil]);omega) ?_|exact al|fail
 all_goals exact b0):p:=e
theorem PE(e:p:=by
 refine az {} 0 func103 fun Γ an=>ar ?_
 repeat' first|(with_reducible refine EF ⟨.d0,.d2,.d2⟩ ?_);(refine dv (j_ an 0 10 ae (o:=⟨Γ.g0+2,5,aC.ms.map aZ.enc⟩) (ys:=[aC.row (om aC.ms)]) rfl rfl (acI aC aC.ms 1 _)) ?_)|refine af ?_|(with_reducible refine aL 159 ?_);(refine gb [] [10] [10] rfl ae rfl rfl Xn ?_)|refine J fe ?_|refine J Jv ?_|refine ag ?_|refine ab ?_ ?_<;>intro h<;>try exact aa|exact al|fail
 all_goals try (exfalso;simp_all;done)
 all_goals exact b0):p:=e
theorem HG(e:p:=by
 repeat' first|(with_reducible refine gJ ?_);(refine dv (j_ an 2 4 ae rfl rfl nQ) ?_)|refine af ?_|simp only[ox,bf,aU,VH]|refine J zc ?_|refine ag ?_|refine ab ?_ ?_<;>intro h<;>try exact aa|exact al|fail
 all_goals exact b0):p:=e
theorem IW(e:p:=by
 rw[a_,a8];exact kh [0,1,4] [Γ.g0+2] trivial ae rfl (fun a ek=>WU) (fun q=>⟨rfl,trivial⟩) (fun q=>⟨⟨.inr ⟨bd,rfl⟩,rfl,Ft aC f t now (.inl ⟨0,rfl,rfl⟩),rfl⟩,⟨.inl ⟨0,rfl,rfl⟩,rfl,gK _ (px _ _)⟩,rfl⟩)):p:=e
theorem SH(e:p:=by
 rw[OO]at mM⊢;repeat' first|refine af ?_|refine Ax 0 1 ae rfl rfl mM (fun _ _ _ h=>h) ?_|refine J Ca ?_|simp only[o0,lB,fa]|refine ag ?_|refine ab ?_ ?_<;>intro h<;>try exact aa|simp only[Int.toNat_natCast,Nat.zero_add,dU]|refine aK ⟨by(try rw[fa]);omega,aH⟩ ?_|exact al|fail
 all_goals try exfalso;simp at h;done
 refine br ⟨(k+1,bR),⟨aN,abF⟩,Nat.sub_lt_sub_left aN (Nat.lt_succ_self k),?_⟩;exact bs):p:=e
theorem I_(e:p:=by
 repeat' first|(with_reducible refine gJ ?_);(refine dv (j_ an 1 9 ae rfl rfl nQ) ?_)|refine af ?_|refine J zc ?_|refine ag ?_|refine ab ?_ ?_<;>intro h<;>try exact aa|simp only[iR]|exact al|fail
 all_goals exact b0):p:=e
theorem Np(e:p:=by
 rcases Nat.eq_zero_or_pos l.length with h|h
 .exact⟨⟨0,0,0,0,0,0,0⟩,fun q=>G⟩
 obtain⟨ff,b3⟩:∃ff,l[l.length-1]?=some ff:=⟨_,List.getElem?_eq_getElem G⟩;exact⟨ff,fun _=>⟨b3,tZ l (l.length-1) ff b3 G⟩⟩):p:=e
theorem Lv(e:p:=by
 refine az {} 0 func278 fun Γ an=>ar ?_
 repeat' first|refine af ?_|refine J h1 ?_|refine ag ?_|refine ab ?_ ?_<;>intro h<;>try exact aa|exact al|fail
 all_goals try exfalso;simp at h;done
 all_goals exact b0):p:=e
theorem Si(e:p:=by
 refine ej {} 2 func219 fun Γ cT eg=>ar ?_
 have bd:n<Γ.g0:=cT 0 _ rfl;have bg:q<Γ.g0:=cT 1 _ rfl;repeat' first|refine af ?_|(with_reducible refine aL 257 ?_);(refine aX [0,1] ae rfl rfl CR ?_)|(with_reducible refine aL 259 ?_);(refine aX [0,1] ae rfl rfl eE ?_)|refine J bf ?_|refine J bX ?_|refine J aj ?_|refine ag ?_|refine ab ?_ ?_<;>intro h<;>try exact aa|exact al|fail
 all_goals exact aic):p:=e
theorem Nz(e:p:=by exact kh [0,9] [_] trivial ae rfl (fun a ek=>Ia) (fun q=>⟨L7,q,.inl ⟨0,rfl,rfl⟩,rfl⟩) (fun q=>⟨⟨.inr ⟨bd,rfl⟩,rfl,gK _ (fL v _)⟩,⟨.inl ⟨0,rfl,rfl⟩,rfl,gK _ (p5 L _)⟩,rfl⟩)):p:=e
theorem Oo(e:p:=by
 refine ej {} 2 func220 fun Γ cT eg=>ar ?_
 have bd:n<Γ.g0:=cT 0 _ rfl;have bg:q<Γ.g0:=cT 1 _ rfl;repeat' first|refine af ?_|(with_reducible refine aL 257 ?_);(refine aX [0,1] ae rfl rfl CR ?_)|(with_reducible refine aL 259 ?_);(refine aX [0,1] ae rfl rfl eE ?_)|refine J bF ?_|refine J aj ?_|refine ag ?_|refine ab ?_ ?_<;>intro h<;>try exact aa|exact al|fail
 all_goals exact ab8):p:=e
theorem Pl(e:p:=by
 have bq:∀j p,aB (cl st.H k none) j=some p->j≠k/\aB st.H j=some p:=by
  exact Ji
 refine⟨cH,⟨Ad.ext,⟨aI.base.bG,aI.base.cn,aI.base.keep,fun g b8=>?_⟩,fun j p a6=>(Ad.obj j p a6).mono bg id (fun _=>rfl),Ad.inj,aI.db,aI.lt,Ad.dz,fun j p a6 aT=>?_,aI.ga⟩,e2.fresh,e2.g0,e2.size,e2.defers,fun q=>?_⟩
 .rw[<-aI.base.M g b8];exact⟨fun h=>h.1,fun h=>⟨h,G⟩⟩
 .exact aaL
 exact aiv):p:=e
theorem Uc(e:p:=by
 have eB:=fun st h=>cd st h ⟨⟨eg 0 _ rfl,fL _ _⟩,trivial⟩
 clear cd;repeat' first|(with_reducible refine eN 1 _ rfl ?_);(repeat' first|refine af ?_|refine J aT ?_|refine eR ?_|refine ab ?_ ?_<;>intro h<;>try exact aa);(all_goals exact eT [] ae rfl rfl bn (eB _ ⟨rfl,trivial⟩));done|refine af ?_|refine J aT ?_|refine ag ?_|refine ab ?_ ?_<;>intro h<;>try exact aa):p:=e
theorem N9(e:p:=by
 refine List.ext_getElem? fun k=>?_
 repeat rw[qn]
 all_goals first|omega|simp only[jV];omega|skip
 rcases(G:k=h+cK p\/k=h+cK p+1\/k=10\/k=11\/k=12\/k=12+1\/k=12+2\/k=12+3\/k=h+0\/k=h+0+1\/(k≠h+cK p/\k≠h+cK p+1/\k≠10/\k≠11/\k≠12/\k≠12+1/\k≠12+2/\k≠12+3/\k≠h+0/\k≠h+0+1))with bq|bq|bq|bq|bq|bq|bq|bq|bq|bq|bq;all_goals exact OZ):p:=e
theorem PD(e:p:=by
 repeat' first|refine af ?_|refine J aT ?_|refine ag ?_|refine ab ?_ ?_<;>intro h<;>try exact aa|exact al|fail
 all_goals exact b0):p:=e
theorem S7(e:p:=by
 refine List.ext_getElem? fun k=>?_
 repeat rw[qn]
 all_goals first|omega|simp only[jV];omega|skip
 rcases(G:k=h+cK p\/k=h+cK p+1\/k=10\/k=11\/k=16\/k=16+1\/k=16+2\/k=16+3\/k=h+2\/k=h+2+1\/(k≠h+cK p/\k≠h+cK p+1/\k≠10/\k≠11/\k≠16/\k≠16+1/\k≠16+2/\k≠16+3/\k≠h+2/\k≠h+2+1))with bq|bq|bq|bq|bq|bq|bq|bq|bq|bq|bq;all_goals exact OZ):p:=e
theorem T6(e:p:=by
 rw[eY]at Ap eL;rw[Bool.false_and]at eL;have BO:(p2.all (gR 17 ms)&&kG.all (gR 6 ms))=false:=age;rw[BO];clear BO;repeat' first|refine af ?_|simp only[Ap,Nv]|refine ag ?_|refine ab ?_ ?_<;>intro h<;>try exact aa|simp only[Int.toNat_natCast,L2]|exact al|fail
 all_goals try exfalso;simp at h;done
 all_goals exact b0):p:=e
theorem Fz(e:p:=by
 repeat' first|refine af ?_|refine J h ?_|refine ag ?_|refine ab ?_ ?_<;>intro h<;>try exact aa|exact al|fail
 all_goals exact bM):p:=e
theorem Pr(e:p:=by
 have bd:n<Γ.g0:=cT 0 _ rfl;repeat' first|refine af ?_|simp only[e]|(with_reducible refine bE 0 ?_ h1 (fun _ _ _ h=>h) ?_);(exact rfl)|(with_reducible refine bE 0 ?_ h2 (fun _ _ _ h=>h) ?_);(exact rfl)|(with_reducible refine bE 0 ?_ bI (fun _ _ _ h=>h) ?_);(exact rfl)|refine ag ?_|refine ab ?_ ?_<;>intro h<;>try exact aa|exact al|fail
 all_goals exact yg):p:=e
theorem Yi(e:p:=by
 rw[bO]at bd;rw[if_neg L5];repeat' first|refine af ?_|simp only[iR,b_,aU,Int.toNat_natCast,t0,t1,t2,t3]|refine J bd ?_|refine ag ?_|refine ab ?_ ?_<;>intro h<;>try exact aa|simp only[Int.toNat_natCast,aP,km]|refine aK ⟨aH,aH,aH,aH,km.symm⟩ ?_|refine aK ⟨aH,ts⟩ ?_|refine aK G ?_|exact al|fail
 all_goals exact b0):p:=e
theorem Vy(e:p:=by
 rw[eY]at Ap eL;rw[Bool.true_and]at eL;repeat' first|refine af ?_|simp only[Ap,Nv]|refine ag ?_|refine ab ?_ ?_<;>intro h<;>try exact aa|simp only[Int.toNat_natCast,L2]|exact al|fail
 all_goals try exfalso;simp at h;done
 refine br ⟨q+1,⟨qq,by rw[uL,eL]⟩,Nat.sub_lt_sub_left qq (Nat.lt_succ_self q),?_⟩;exact bs):p:=e
theorem qy(e:p:=by rw[fK,List.take_of_length_le aF]):p:=e
theorem MC(e:p:=by
 refine dB ?_ ?_ (Nat.le_refl _);all_goals first|refine dD ?_|exact dE
 all_goals repeat' first|exact trivial|exact rfl|apply And.intro
 all_goals exact eG (aek _ ae)):p:=e
theorem Xe(e:p:=by
 have aa7:ms.length<=maxLen:=fg;have r3:=fun g=>kl g ms
 have h2:=o5 l ah t1 ai t2 ms aa7 h10 cr;rw[bu]at h2;refine az {} 0 func132 fun Γ an=>ar ?_
 repeat' first|refine af ?_|refine J h2 ?_|refine ag ?_|refine ab ?_ ?_<;>intro h<;>try exact aa|exact al|fail
 all_goals try exfalso;simp at h;done
 all_goals exact tw):p:=e
theorem MP(e:p:=by
 repeat' first|refine af ?_|simp only[aU,b_,XD,a_,a8,dk,pd,Int.toNat_natCast]|refine ag ?_|refine ab ?_ ?_<;>intro h<;>try exact aa|exact al|fail
 all_goals exact bM):p:=e
theorem Z9(e:p:=by
 repeat' first|refine af ?_|simp only[dt,wz,PO,bl,bD,eO,qk,tO,oP,Sv]|refine J aT ?_|refine J bp ?_|refine J en ?_|refine J e8 ?_|refine J ma ?_|refine J nd ?_|refine J oQ ?_|refine J Jh ?_|refine ag ?_|refine ab ?_ ?_<;>intro h<;>try exact aa|refine aK aiu ?_|refine aK G ?_|exact al|fail
 all_goals exact bM):p:=e
theorem JR(e:p:=by
 refine ev (fG an ⟨.d0,.d0,.d2⟩ rfl rfl ⟨rfl,rfl,hT⟩) ?_;rw[show cp (cC (([]:List (List O))++[]) 0) 0=[]from rfl];all_goals exact bM):p:=e
theorem V7(e:p:=by
 refine ej {} 0 func243 fun Γ cT eg=>ar ?_
 have bd:n<Γ.g0:=cT 0 _ rfl;repeat' first|refine af ?_|simp only[aU,Kc,WW]|refine J a6 ?_|refine J bV ?_|refine ag ?_|refine ab ?_ ?_<;>intro h<;>try exact aa|exact al|fail
 all_goals exact JK):p:=e
theorem Vl(e:p:=by
 rw[e,e1 aF];rw[show List.map aE.enc (av l now)++[[.v (.int .u32 a),.v (.int .u32 b),.v (.int .i64 c),.v (.int .i64 d),.v (.int .i64 1),.v (.int .i64 0),.v (.int .i64 now)]]=List.map aE.enc (av l now++[⟨a,b,c,d,1,0,now⟩])from As _ ⟨a,b,c,d,1,0,now⟩];all_goals exact bM):p:=e
theorem Jm(e:p:=by
 repeat' first|refine af ?_|refine ag ?_|refine ab ?_ ?_<;>intro h<;>try exact aa|simp only[List.length_map]|exact al|fail
 all_goals exact bM):p:=e
theorem Zf(e:p:=by
 have e:jn l a b c d now da bo fw false i t=(av l now,false,0):=by
  unfold jn;rw[if_neg aF,if_pos hc]
 refine ev (fG an ⟨.d0,.d1,.d0⟩ rfl rfl ⟨rfl,rfl,by(simp;try omega)⟩) ?_;rw[e];simp only[pJ];all_goals exact bM):p:=e
theorem kP(e:p:=by rw[e1 aF]):p:=e
theorem Kn(e:p:=by
 repeat' first|refine af ?_|simp only[XD,h1,aj]|refine ag ?_|refine ab ?_ ?_<;>intro h<;>try exact aa|exact al|fail
 all_goals exact bM):p:=e
theorem Wh(e:p:=by
 all_goals first|exfalso;simp_all;done|exfalso;simp_all;omega|skip
 refine ev (fG an ⟨.d0,.d0,.d2⟩ rfl rfl ⟨rfl,rfl,hT⟩) (ev (j1 (Vb ⟨.d0,.d0,.d2⟩ rfl)) ?_);dsimp only[cp,cC];all_goals exact b0):p:=e
theorem P4(e:p:=by
 repeat' first|refine af ?_|refine ag ?_|refine ab ?_ ?_<;>intro h<;>try exact aa|exact al|fail
 all_goals(refine cI ?_;first|exact cc|try simp only[cE]at *)
 obtain rfl:k=l.length:=G;rw[List.drop_length]at b8;exact eG (by unfold et;rw[if_neg G,b8];rfl)):p:=e
theorem ZZ(e:p:=by
 rw[h2,List.any_eq_false];intro y bB;simp only[decide_eq_true_eq,not_and];intro a_ a8;obtain⟨bp,en⟩:=aT y (List.mem_cons_of_mem _ bB) a_;exact bd.1 (List.mem_map.2 ⟨y,bB,by simp only[dd,Prod.mk.injEq];exact⟨a_.trans a6.symm,G⟩⟩)):p:=e
theorem DJ(e:p:=by
 refine iT trivial trivial ?_ rfl bd (eS (fun x=>fY)) rfl;rfl):p:=e
theorem zb(e:p:=by rw[Int.tdiv_eq_ediv_of_nonneg G,IntWalk.i64_in _ G];omega):p:=e
theorem UT(e:p:=by
 obtain rfl:k=l.length:=G;rw[List.take_length]at a6;have nB:l.all jv=true:=List.all_eq_true.2 a6;rw[nB];repeat' first|refine af ?_|refine ag ?_|refine ab ?_ ?_<;>intro h<;>try exact aa|simp only[List.length_map]|exact al|fail
 all_goals exact b0):p:=e
theorem TO(e:p:=by
 rw[ay]at aT bV;dsimp only at aT bV;rw[bV];dsimp only;repeat' first|refine af ?_|simp only[iR,aP,bl,Int.toNat_natCast]|refine J aT ?_|refine ag ?_|refine ab ?_ ?_<;>intro h<;>try exact aa|exact al|fail
 all_goals exact b0):p:=e
theorem S8(e:p:=by
 repeat' first|refine af ?_|simp only[ox,bf,qa,bl,q4,b3,bO,b_,aU]|refine J oO ?_|refine J oB ?_|refine J jf ?_|refine ag ?_|refine ab ?_ ?_<;>intro h<;>try exact aa|simp only[jq]|exact al|fail
 all_goals exact b0):p:=e
theorem Rv(e:p:=by
 cases A with
 |inl q=>exact o4.2
 |inr e=>
  have:=dW e ⟨o4.1,Int.le_trans o4.2 ae⟩;show(oF++bt e).length<=100000;rw[List.length_append];exact Nat.le_trans (Nat.add_le_add_left this _) ae):p:=e
theorem RN(e:p:=by
 match i,h1,h2 with
 |6,h1,h2=>exact D3
 |0,h1,h2=>exact sQ
 |1,h1,h2=>exact sQ
 |2,h1,h2=>exact sQ
 |3,h1,h2=>exact sQ
 |4,h1,h2=>exact sQ
 |5,h1,h2=>exact sQ
 |7,h1,h2=>exact sQ
 |i+8,h1,h2=>simp at h1):p:=e
theorem P7(e:p:=by
 refine ej {} 0 func197 fun Γ cT eg=>ar ?_
 have bd:n<Γ.g0:=cT 0 _ rfl;repeat' first|refine af ?_|refine J a6 ?_|refine ag ?_|refine ab ?_ ?_<;>intro h<;>try exact aa|exact al|fail
 all_goals exact yg):p:=e
theorem DS(e:p:=by
 all_goals try exfalso;simp_all;done
 all_goals exact bM):p:=e
theorem Rc(e:p:=by
 all_goals(refine cI ?_;first|exact cc|try simp only[cE]at *)
 all_goals (refine eG ?_;subst a_;subst a8)
 all_goals first|rw[if_pos (show _ by refine⟨decide_eq_true G,decide_eq_true G,?_⟩;omega)];done|rw[if_neg (show¬_ from aeO)];done):p:=e
theorem Rr(e:p:=by
 refine az {} 0 func114 fun Γ an=>ar ?_
 repeat' first|refine af ?_|simp only[dV,e0,c3,fR,c5,tS,vH,d,f1,f2,f3,f4,f5,f6,f7]|refine ag ?_|refine ab ?_ ?_<;>intro h<;>try exact aa|fail
 all_goals exact b0):p:=e
theorem xK(e:p:=by unfold aA;rw[IntWalk.i64_in _ G];omega):p:=e
theorem y7(e:p:=by
 refine .agg (hl.trans h1) fun i d c bf bn=>?_
 exact S1):p:=e
theorem Bb(e:p:=by
 refine .aS (hl.trans h1) fun i d c bf bn=>?_
 exact S1):p:=e
theorem Ma(e:p:=by
 repeat' first|refine af ?_|refine ag ?_|refine ab ?_ ?_<;>intro h<;>try exact aa|fail
 all_goals exact bM):p:=e
theorem Wk(e:p:=by
 refine az {ext:=true,xk:=1} 0 func34 fun Γ an=>ar ?_
 repeat' first|refine af ?_|simp only[a_,a8,dk,gn]|refine ag ?_|refine ab ?_ ?_<;>intro h<;>try exact aa|exact al|fail
 all_goals exact b0):p:=e
theorem TC(e:p:=by
 rcases aI.names n bd with h|⟨j,s,cB,_,h1,h2⟩
 .exact Tk
 have aN:=(List.getElem?_eq_some_iff.1 cB).1;have:=p_ (st:=st) (S:=S) S.length (j+1) G (Nat.le_refl _);exact Xp):p:=e
theorem SA(e:p:=by
 repeat' first|refine af ?_|simp only[oW,a_,dk,gn,dt]|refine J bl ?_|refine J bD ?_|refine ag ?_|refine ab ?_ ?_<;>intro h<;>try exact aa|refine aK Vm ?_|exact al|fail
 all_goals exact b0):p:=e
theorem uB(e:p:=by
 subst h;exact⟨rfl,fun i d e h=>fE⟩):p:=e
theorem Vq(e:p:=by
 refine az {} 0 func271 fun Γ an=>ar ?_
 repeat' first|refine af ?_|refine J (o8 l) ?_|refine ag ?_|refine ab ?_ ?_<;>intro h<;>try exact aa|exact al|fail
 all_goals exact bM):p:=e
theorem N0(e:p:=by
 refine ev (fG an ⟨.d0,.d0,.d2⟩ rfl rfl ⟨rfl,rfl,aF⟩) ?_;rw[e1 (List.length_map _).symm];have kZ:c1 Γ.g0 (out.map dr.enc):=eS (fun x=>fY);all_goals exact bM):p:=e
theorem ZT(e:p:=by
 repeat' first|refine af ?_|simp only[e,dt]|refine J h1 ?_|refine J h2 ?_|refine ag ?_|refine ab ?_ ?_<;>intro h<;>try exact aa|refine aK Pf ?_|exact al|fail
 all_goals exact bM):p:=e
theorem SE(e:p:=by
 refine az {} 0 func12 fun Γ an=>ar ?_
 repeat' first|refine af ?_|refine J h2 ?_|refine ag ?_|refine ab ?_ ?_<;>intro h<;>try exact aa|exact al|fail
 all_goals exact bM):p:=e
theorem Tt(e:p:=by
 rcases Nat.lt_or_ge lq i with aN|amA
 .have:(lq+1)*sz<=i*sz:=Nat.mul_le_mul_right _ aN;exact xq
 have:(i+1)*sz<=lq*sz:=Nat.mul_le_mul_right _ G;exact xq):p:=e
theorem sE(e:p:=by rw[e1 aF];exact aa1):p:=e
theorem Gu(e:p:=by rw[Int.tdiv_eq_ediv_of_nonneg G,IntWalk.i64_in _ G]):p:=e
theorem SZ(e:p:=by
 repeat' first|refine af ?_|simp only[Q0,oW,a_,a8,dk]|refine J h1 ?_|refine J h2 ?_|refine ag ?_|refine ab ?_ ?_<;>intro h<;>try exact aa|exact al|fail
 all_goals exact bM):p:=e
theorem Xz(e:p:=by
 refine dB ?_ ?_ (Nat.le_refl _);all_goals first|refine dD ?_|exact dE
 all_goals repeat' first|exact trivial|exact rfl|apply And.intro
 all_goals exact eG G):p:=e
theorem VB(e:p:=by
 refine br ⟨(i+1,p,eL,mj,bd,jT),⟨aN,Nat.le_succ_of_le mM,Nat.le_succ_of_le sY,rp,cJ⟩,Nat.sub_lt_sub_left aN (Nat.lt_succ_self i),?_⟩;exact bs):p:=e
theorem SN(e:p:=by
 cases r with
 |false=>exact⟨false,rfl,(fun eY=>by cases eY),(fun eY=>by rw[aaI]at eY;exact absurd (gn.2 eY.1) aF)⟩
 |true=>
  exact agX):p:=e
theorem Y9(e:p:=by
 all_goals refine kh [0,1,2,4] [Γ.g0+1] ?_ ae rfl (fun a ek=>?_) (fun aq=>?_) (fun aq=>?_)
 any_goals (first|refine kM ?_|exact cc)
 all_goals exact ajT):p:=e
theorem YH(e:p:=by
 all_goals(refine cI ?_;first|exact cc|try simp only[cE]at *)
 all_goals (unfold gj dG;generalize b.tmod 64=q at *)
 all_goals first|rw[if_neg c7];done|rw[if_pos c7];done):p:=e
theorem Vx(e:p:=by
 refine br ⟨(i+1,aam,eL,jT,bd,jT+1),⟨aN,aaH,Nat.le_succ_of_le sY,SF,cJ⟩,Nat.sub_lt_sub_left aN (Nat.lt_succ_self i),?_⟩;exact bs):p:=e
theorem Xa(e:p:=by
 subst CN;exact .snap (fun _ _=>undef) aF r_ (fun h=>ha) (fun x aP=>k4) (fun h=>G) (fun ad i x j d _ aP _=>k4) (fun i x j d aP=>k4)):p:=e
theorem V9(e:p:=by
 subst CN;refine .snap (fun _ _=>undef) aF r_ bV (fun x aP=>k4) (fun h=>G) (fun ad i x j d _ aP _=>k4) (fun i x j d aP=>k4)):p:=e
theorem HZ(e:p:=by simp[Instr.sliceBounds,kz (P:=P) (w:=w) (k:=eP) (i:=a) (y:=len) G G]):p:=e
theorem Xo(e:p:=by
 repeat' first|refine af ?_|simp only[aU]|refine ag ?_|refine ab ?_ ?_<;>intro h<;>try exact aa|exact al|fail
 all_goals exact b0):p:=e
theorem SC(e:p:=by
 repeat' first|refine af ?_|refine J QU ?_|refine ag ?_|refine ab ?_ ?_<;>intro h<;>try exact aa|exact al|fail
 all_goals exact bM):p:=e
theorem Wn(e:p:=by
 repeat' first|refine af ?_|refine J h1 ?_|refine ag ?_|refine ab ?_ ?_<;>intro h<;>try exact aa|exact al|fail
 all_goals exact bM):p:=e
theorem UF(e:p:=by
 repeat' first|refine af ?_|refine J c ?_|refine ag ?_|refine ab ?_ ?_<;>intro h<;>try exact aa|exact al|fail
 all_goals exact bM):p:=e
theorem LN(e:p:=by
 rw[List.length_map];exact Nat.le_trans (List.length_filter_le _ _) aF):p:=e
theorem XM(e:p:=by simp[Instr.sliceBounds,kz (P:=P) (w:=w) (k:=e3) (i:=b) (y:=cap) G G,kz (P:=P) (w:=w) (k:=eP) (i:=a) (y:=b.toNat) G G]):p:=e
theorem Us(e:p:=by
 refine br ⟨(i+1,aC,hr,Fx,jT),⟨aN,cG,ah4,rfl⟩,Nat.sub_lt_sub_left aN (Nat.lt_succ_self i),?_⟩;exact Vo):p:=e
theorem T7(e:p:=by
 unfold e9;split
 .rename_i a ek;have:=QZ _ _ _ ae ek;split
  .exact this
  exact Hs
 exact Hs):p:=e
theorem xb(e:p:=by exact decide_eq_true G):p:=e
theorem VM(e:p:=by
 all_goals try exfalso;simp at h;done
 refine AK trivial trivial rfl rfl bd ?_ bg (kl _ _);exact aiV):p:=e
theorem UB(e:p:=by
 rw[ay]at a6;dsimp only at a6;rw[a_,a8];cases b with
 |true=>
  exact ZE
 |false=>
  exact ZE):p:=e
theorem Sf(e:p:=by
 refine br ⟨(i+1,p,eL,tC,mj,bR),⟨uo,Nat.le_succ_of_le mM,xQ,rp,cJ⟩,q0,?_⟩;exact bs):p:=e
theorem Od(e:p:=by unfold dM;rw[if_neg G,if_neg (not_not_intro ⟨q5,u1⟩),if_neg fR,rn];exact if_pos c5):p:=e
theorem WO(e:p:=by unfold dc;rw[if_neg G,if_neg G,if_neg (not_not_intro hf),if_neg (not_not_intro si)]):p:=e
theorem NJ(e:p:=by rw[Int.tdiv_eq_ediv_of_nonneg G,IntWalk.i64_in _ G,Int.tmod_eq_emod_of_nonneg G]):p:=e
theorem Mc(e:p:=by rw[List.getElem?_take,if_pos G];exact bF):p:=e
theorem Jk(e:p:=by unfold dh;rw[List.getElem?_eq_none G]):p:=e
theorem Wr(e:p:=by
 have:=kc (65535-ao s 10+(65535-ao s 8)+(ao s 8-256)) G;unfold ju;omega):p:=e
theorem Tb(e:p:=by
 refine br ⟨(t2,L++[a],n8,bR),⟨rfl,iS⟩,qp,?_⟩;dsimp only;rw[nT];exact bs):p:=e
theorem T0(e:p:=by
 have e:=of_decide_eq_true bX;subst e;exact .fn rfl rfl (fun i d c h=>fE) (fun i d c h=>fE)):p:=e
theorem Pu(e:p:=by
 unfold gi;exact Nat.le_trans (List.length_filter_le _ _) (by rw[List.length_map];exact hT)):p:=e
theorem MA(e:p:=by
 rw[e,b3]at bF;rw[Option.some.inj bF];exact Bt):p:=e
theorem U7(e:p:=by rw[a_,IntWalk.i64_in (now-a) G,IntWalk.i64_in (r*(now-a)) G,IntWalk.i64_in (x+r*(now-a)) G]):p:=e
theorem S_(e:p:=by rw[fK,Int.toNat_natCast];exact congrArg I (List.take_of_length_le aF)):p:=e
theorem LS(e:p:=by
 rcases h with h|h
 .exact DR
 exact .inr G):p:=e
theorem Ut(e:p:=by unfold dM;rw[if_neg G,if_neg (not_not_intro ⟨q5,u1⟩),if_neg fR,rn]):p:=e
theorem Pm(e:p:=by
 rcases h with h|⟨dm,b5,ue⟩
 .exact .inl h
 have:=aT n dm ob;exact Qh):p:=e
theorem U9(e:p:=by
 simp only[Sem.run_pure,Result.ok.injEq,true_and]at a8;subst a8;exact R_):p:=e
theorem X2(e:p:=by
 refine ev (fG an ⟨.d0,.d1,.d0⟩ rfl rfl ⟨rfl,rfl,aF⟩) ?_;exact agI):p:=e
theorem Rh(e:p:=by rw[<-Int.tmod_eq_emod_of_nonneg (G:0<=-p),Int.neg_tmod,Int.neg_neg]):p:=e
theorem aaV(e:p:=by
 rcases h with h|⟨dm,b5,ue⟩
 .exact .inl h
 have:=aT n dm;exact Qh):p:=e
theorem Rq(e:p:=by
 rw[IntWalk.u32_in _ G,QN 16 _ _ G G G G G G];unfold eh;omega):p:=e
theorem Kd(e:p:=by rw[Ii,IntWalk.i64_in _ G];omega):p:=e
theorem Io(e:p:=by
 dsimp only[cp,cC];all_goals exact bM):p:=e
theorem aah(e:p:=by
 obtain⟨n,rfl,cy⟩:=h;refine⟨n,rfl,cy,fun i d c bf bn=>?_⟩;exact TY):p:=e
theorem Da(e:p:=by
 refine⟨aF,?_⟩;exact ahF):p:=e
theorem OJ(e:p:=by
 have:ih neg (none:Option Addr).isNone = !neg:=CU;rw[this];exact .v _):p:=e
theorem Up(e:p:=by unfold cD;rw[if_neg G,if_neg (not_not_intro bV),if_pos bq]):p:=e
theorem NW(e:p:=by
 unfold ao;rw[List.getElem?_take,List.getElem?_take,if_pos G,if_pos G]):p:=e
theorem R6(e:p:=by
 first|rw[e]|rw[oW]at e;rw[e]
 simp only[pJ];all_goals exact bM):p:=e
theorem Na(e:p:=by
 have amj:=kZ Γ.g0;all_goals exact b0):p:=e
theorem ZV(e:p:=by simp[Instr.sliceBounds,kz (P:=P) (w:=w) (k:=e3) (i:=b) (y:=cap) G G]):p:=e
theorem JU(e:p:=by rw[u8_and15 _ G G];omega):p:=e
theorem Uk(e:p:=by rw[List.getElem?_append_right G];simpa using ay):p:=e
theorem Xf(e:p:=by
 obtain⟨⟩:=fn;dsimp only at h bX;subst h bX;exact⟨b4,b4⟩):p:=e
theorem TP(e:p:=by unfold qL;rw[decide_eq_true (Or.inl G)]):p:=e
theorem FZ(e:p:=by exact eS (fun x=>fY)):p:=e
theorem KB(e:p:=by rw[ahr G];simp):p:=e
theorem S3(e:p:=by
 have:=Gp 0 ae l hl;rw[Int.zero_add]at this;exact this):p:=e
theorem Wo(e:p:=by
 rw[IntWalk.i64_in _ G,Int.tmod_eq_emod_of_nonneg G];omega):p:=e
theorem OD(e:p:=by rw[<-sF,qB _ _ _ _ G G,Hp _ G]):p:=e
theorem Ys(e:p:=by rw[Int.fdiv_eq_ediv_of_nonneg _ ae];omega):p:=e
theorem Qu(e:p:=by rw[List.getElem?_take,if_pos G];exact b3):p:=e
theorem XT(e:p:=by
 cases op<;>simp[l4]at xP
 .exact Ow
 exact Ow):p:=e
theorem aag(e:p:=by
 have:=Option.some.inj e8;exact⟨vI,vI,vI⟩):p:=e
theorem Qi(e:p:=by rw[Int.tmod_eq_emod_of_nonneg G];omega):p:=e
theorem Tn(e:p:=by rw[if_neg ae,if_neg ae,if_neg ae,if_neg ae,if_pos rfl]):p:=e
theorem OB(e:p:=by unfold dJ;rw[IntWalk.i64_in _ G];omega):p:=e
theorem QE(e:p:=by
 obtain⟨c,ez,cR⟩:=JP i x j d aP bf;exact IE):p:=e
theorem Ri(e:p:=by
 repeat' first|refine af ?_|simp only[dt,aU,lp,q7,Int.toNat_natCast]|simp only[pd]|simp only[r2]|simp only[a8,dk,gn,xH]|with_reducible refine nF rfl (cy _ _) ?_|refine J bX ?_|refine J cG ?_|refine J aj ?_|refine J rf ?_|refine J ry ?_|refine J (An _) ?_|refine ag ?_|refine ab ?_ ?_<;>intro h<;>try exact aa|refine aK tY ?_|exact al|fail
 all_goals exact Hq):p:=e
theorem Gv(e:p:=by
 subst a6;refine az {} 0 func132 fun Γ an=>ar ?_
 repeat' first|refine af ?_|refine J h2 ?_|refine ag ?_|refine ab ?_ ?_<;>intro h<;>try exact aa|exact al|fail
 all_goals try exfalso;simp at h;done
 refine bS (α:=Nat×Nat) (fun p=>[(⟨.d0,.d5,.d0⟩,.v (.int .i64 (p.1:Nat))),(⟨.d0,.d1,.d6⟩,.v (.int .i64 (oh ms p.1)))]) (fun p=>[(2,none)]) (fun p=>p.2) (fun p=>ms.length-p.1) (fun p=>p.1<=ms.length) (0,Γ.g0+2) (Nat.zero_le _) ?_ ?_
 .exact bs
 rintro⟨k,bR⟩ bq;dsimp only at bq⊢;refine bz ?_;by_cases aN:k<ms.length
 .exact vy
 exact akc):p:=e
theorem Hv(e:p:=by
 repeat' first|refine af ?_|simp only[dt,aU,lp,Hw,List.length_map,Int.toNat_natCast]|simp only[dU]|simp only[t1,t2,t3,gh]|simp only[a8,dk]|simp only[kd,Du,gn]|refine J (cA _ _ _) ?_|refine J vf ?_|refine J zA ?_|with_reducible refine nF rfl (tH _ _ _ _ _) ?_|refine J cG ?_|refine J aj ?_|refine J rf ?_|refine J ry ?_|refine J bl ?_|refine J bD ?_|refine J eO ?_|refine J qk ?_|refine J tO ?_|refine J oP ?_|refine ag ?_|refine ab ?_ ?_<;>intro h<;>try exact aa|refine aK tY ?_|exact al|fail
 all_goals exact Hq):p:=e
theorem Ww(e:p:=by
 repeat' first|refine af ?_|refine J (cA _ _ _) ?_|refine ag ?_|refine ab ?_ ?_<;>intro h<;>try exact aa|simp only[Int.toNat_natCast,dU]|exact al|fail
 simp only[oO,Iy];refine bS (α:=Nat×Nat) (fun p=>[(⟨.d1,.d0,.d0⟩,.v (.int .i64 (p.1:Nat)))]) (fun p=>[(3,none)]) (fun p=>p.2) (fun p=>k-p.1) (fun p=>p.1<=k/\∀y∈ms.take p.1,mR y aq=false) (0,bR+1) ⟨Nat.zero_le _,fun y bB=>r6⟩ ?_ ?_
 .exact bs
 rintro⟨j,cR⟩ ⟨cB,DM⟩;dsimp only at cB DM⊢;refine bz ?_;by_cases qg:j<k
 .exact agx
 obtain rfl:j=k:=G;have afn:jM (ms.take j) aq=true:=by
  exact ajr
 have EE:dd aq∉(ms.take j).map dd:=by
  exact ahO
 have UW:=SW (ms.take j) aq EE;have eE:ms.take j++[aq]=ms.take (j+1):=Wf;rw[eE]at UW;have nT:=ZU (ms.take j);repeat' first|refine af ?_|refine ag ?_|refine ab ?_ ?_<;>intro h<;>try exact aa|refine aK ⟨nT,rfl⟩ ?_|exact al|fail
 simp only[UW];refine br ⟨(j+1,cR),⟨aN,QX bg BQ afn⟩,Nat.sub_lt_sub_left aN (Nat.lt_succ_self j),?_⟩;dsimp only;exact jJ):p:=e
theorem Y3(e:p:=by
 rcases a6 with rfl|rfl
 .have bq:cK 6=16:=rfl;rw[bq]at jt fe iG KQ mJ ub;have BY:=hk B 16 G G 16 rfl;rw[jt]at BY;rw[if_pos (.inl rfl),LQ G]at iG;have bn:=iJ w7 G;have kQ:=pC B 16 w7 G;exact D0
 have bq:cK 17=6:=rfl;rw[bq]at jt fe iG KQ mJ ub;have BY:=hk B 6 G G 6 rfl;rw[jt]at BY;generalize ao s (aA s+6)=w at *;by_cases cy:w=0
 .subst cy;rw[if_neg G]at iG;have bn:=iJ 0 G;have kQ:=pC B 6 0 G;exact D0
 rw[if_pos G]at iG;by_cases b3:w7=0
 .subst b3;rw[WK ⟨rfl,rfl⟩]at iG;have bn:=iJ 65535 G;have kQ:=pC B 6 65535 G;exact D0
 rw[LQ G]at iG;have bn:=iJ w7 G;have kQ:=pC B 6 w7 G;exact D0):p:=e
theorem N1(e:p:=by
 refine az {} 0 func133 fun Γ an=>ar ?_
 repeat' first|refine af ?_|simp only[aU,b_,dt,Int.toNat_natCast]|simp only[sd,fR,eC]|simp only[gh,h_]|simp only[eP,e3,kf,mN,mH,oG]|simp only[D2]|simp only[Sm]|simp only[kd]|simp only[b5]|simp only[eI]|simp only[JN,wz]|refine J (cA _ _ _) ?_|refine J bu ?_|refine J h2 ?_|refine J zX ?_|refine J bT ?_|refine J ay ?_|refine J ek ?_|refine J BY ?_|refine J bn ?_|(with_reducible refine bE 1 ?_ (zK _) (fun _ _ _ h=>h) ?_);(exact rfl)|(with_reducible refine bE 3 ?_ (mJ _ _) (fun _ _ _ h=>h) ?_);(exact rfl)|refine ag ?_|refine ab ?_ ?_<;>intro h<;>try exact aa|refine aK ZM ?_|refine aK G ?_|exact al|fail
 all_goals exact Hq):p:=e
theorem Dg(e:p:=by
 have h3:True:=trivial;have bf:True:=trivial;have bq:True:=trivial;have eE:True:=trivial;have bX:True:=trivial;have l6:True:=trivial;have dV:True:=trivial;have e0:True:=trivial;have c3:True:=trivial;have fR:True:=trivial;have c5:True:=trivial
 exact H8):p:=e
theorem ZH(e:p:=by
 repeat' first|refine af ?_|simp only[dt,aU,lp,Hw,List.length_map,Int.toNat_natCast]|simp only[dU]|simp only[t1,t2,t3,gh]|simp only[a8,dk]|simp only[kd,Du,gn]|refine J (cA _ _ _) ?_|refine J vf ?_|refine J zA ?_|with_reducible refine nF rfl (tH _ _ _ _ _) ?_|refine J cG ?_|refine J aj ?_|refine J rf ?_|refine J ry ?_|refine J bl ?_|refine J bD ?_|refine J eO ?_|refine J qk ?_|refine J tO ?_|refine J oP ?_|refine ag ?_|refine ab ?_ ?_<;>intro h<;>try exact aa|refine aK tY ?_|exact al|fail
 all_goals try exfalso;simp_all;done
 refine br ⟨(k+1,bR+1),⟨aN,ajS⟩,Nat.sub_lt_sub_left aN (Nat.lt_succ_self k),?_⟩;dsimp only;rw[pV];exact jJ):p:=e
theorem GR(e:p:=by
 generalize aA s=n at *;generalize ao s 2=J8 at *;generalize ao s 6=F at *;refine az {} 0 func163 fun Γ an=>ar ?_
 exact Hm):p:=e
theorem EA(e:p:=by
 generalize aA s=n at *;generalize ao s 2=J8 at *;generalize ao s 6=F at *;refine az {} 0 func76 fun Γ an=>ar ?_
 exact Hm):p:=e
theorem QP(e:p:=by
 cases ay:jv t with
 |false=>
  rw[ay]at aT;have rV:l.all jv=false:=by
   exact aj7
  rw[rV];repeat' first|refine af ?_|refine J aT ?_|refine ag ?_|refine ab ?_ ?_<;>intro h<;>try exact aa|simp only[Int.toNat_natCast,dU,List.length_map]|exact al|fail
  all_goals exact Hq
 |true=>
  rw[ay]at aT;repeat' first|refine af ?_|refine J aT ?_|refine ag ?_|refine ab ?_ ?_<;>intro h<;>try exact aa|simp only[Int.toNat_natCast,dU,List.length_map]|exact al|fail
  all_goals try exfalso;simp_all;done
  refine br ⟨(k+1,bR+1),⟨aN,fun y bB=>?_⟩,Nat.sub_lt_sub_left aN (Nat.lt_succ_self k),?_⟩
  .exact Vf
  exact jJ):p:=e
theorem J5(e:p:=by
 refine br ⟨(k+1,g+3,g+4),aN,Nat.sub_lt_sub_left aN (Nat.lt_succ_self k),?_⟩;dsimp only;rw[xH];unfold sO;dsimp only;rw[Ea];refine dB ?_ ?_ (Nat.le_refl _);all_goals first|refine dD ?_|exact dE
 all_goals repeat' first|exact trivial|exact rfl|apply And.intro
 all_goals first|exact nR|rfl):p:=e
theorem Ps(e:p:=by
 intro x jq;dsimp only at jq⊢;refine bz ?_;by_cases Ij:x<(jU p).length
 .obtain⟨y,tq,ph,y3⟩:=iG x Ij;have y4:=eE (x+1);rw[y3]at y4;simp only[List.length_append,List.length_cons,List.length_nil]at y4;repeat' first|refine af ?_|simp only[vC,dt,<-y3]|refine ag ?_|refine ab ?_ ?_<;>intro h<;>try exact aa|simp only[Int.toNat_natCast,Nat.zero_add,ph,RF]|refine aK n9 ?_|exact al|fail
  refine br ⟨x+1,Ij,Nat.sub_lt_sub_left Ij (Nat.lt_succ_self x),?_⟩;exact jJ
 obtain rfl:x=(jU p).length:=G;rw[List.take_length];exact A0):p:=e
theorem YR(e:p:=by
 unfold maxLen at hl;refine az {} 0 func229 fun Γ an=>ar ?_
 repeat' first|refine af ?_|refine ag ?_|refine ab ?_ ?_<;>intro h<;>try exact aa|fail
 refine bS (α:=Nat) (fun k=>[(⟨.d0,.d1,.d0⟩,.v (.int .i64 (k:Nat)))]) (fun _=>[]) (fun _=>Γ.g0) (fun k=>l.length-k) (fun k=>k<=l.length/\bU p l 0=bU p (l.drop k) k) 0 ⟨Nat.zero_le _,rfl⟩ ?_ ?_
 .exact bs
 rintro k ⟨bq,a6⟩;refine bz ?_;by_cases aN:k<l.length
 .obtain⟨t,bT⟩:∃t,l[k]?=some t:=⟨_,List.getElem?_eq_getElem aN⟩;have dU:=h7 fx l k t bT;exact xD
 exact vq):p:=e
theorem MW(e:p:=by
 refine dB ?_ ?_ (Nat.le_refl _);all_goals first|refine dD ?_|exact dE
 all_goals repeat' first|exact trivial|exact rfl|apply And.intro
 all_goals first|exact nR|fail):p:=e
theorem tp(e:p:=by
 refine az {} 0 func104 fun Γ an=>ar ?_
 exact Qq):p:=e
theorem sM(e:p:=by
 refine az {} 0 func31 fun Γ an=>ar ?_
 exact Qq):p:=e
theorem J7(e:p:=by
 refine az {} 0 func125 fun Γ an=>ar ?_
 repeat' first|refine af ?_|refine J (cA _ _ _) ?_|refine J dV ?_|refine J e0 ?_|refine ag ?_|refine ab ?_ ?_<;>intro h<;>try exact aa|exact al|fail
 all_goals exact tB):p:=e
theorem Uu(e:p:=by
 refine az {} 0 func163 fun Γ an=>ar ?_
 exact Hm):p:=e
theorem O3(e:p:=by
 refine az {} 0 func76 fun Γ an=>ar ?_
 exact Hm):p:=e
theorem FB(e:p:=by
 refine az {} 0 func164 fun Γ an=>ar ?_
 exact UO):p:=e
theorem FU(e:p:=by
 refine az {} 0 func77 fun Γ an=>ar ?_
 exact UO):p:=e
theorem IC(e:p:=by
 refine dB ?_ ?_ (Nat.le_refl _);all_goals first|refine dD ?_|exact dE
 all_goals repeat' first|exact trivial|exact rfl|apply And.intro
 all_goals first|exact nR|exact eG aj.symm):p:=e
theorem uR(e:p:=by
 refine az {} 0 func165 fun Γ an=>ar ?_
 exact aaO):p:=e
theorem tR(e:p:=by
 refine az {} 0 func78 fun Γ an=>ar ?_
 exact aaO):p:=e
theorem Py(e:p:=by
 have PA:ke (l.take k) t=true:=cw.2 ⟨UN,fun w gf JH=>by
  exact ae1,by(simp only[gu,reduceCtorEq]at *<;>omega)⟩
 refine br ?_;refine⟨(k+1,g+1),⟨Nat.succ_le_of_lt aN,Ul bT b8 PA,ah5 bT aj PA⟩,Nat.sub_lt_sub_left aN (Nat.lt_succ_self k),?_⟩;exact uX):p:=e
theorem E1(e:p:=by
 have rV:gM [] l=false:=Lg bT b8 (fun eY=>by
  exact acn)
 exact Nl):p:=e
theorem Bm(e:p:=by
 refine az {} 0 func52 fun Γ an=>ar ?_
 exact aas):p:=e
theorem Bw(e:p:=by
 refine az {} 0 func70 fun Γ an=>ar ?_
 exact aas):p:=e
theorem Sy(e:p:=by
 refine az {} 0 func134 fun Γ an=>ar ?_
 repeat' first|refine af ?_|refine J c ?_|refine J (cA _ _ _) ?_|refine ag ?_|refine ab ?_ ?_<;>intro h<;>try exact aa|exact al|fail
 all_goals exact tB):p:=e
theorem SP(e:p:=by
 refine dB ?_ ?_ (Nat.le_refl _);all_goals first|refine dD ?_|exact dE
 all_goals repeat' first|exact trivial|exact rfl|apply And.intro
 all_goals first|exact aaz _|exact nR):p:=e
theorem V8(e:p:=by
 refine az {} 0 func262 fun Γ an=>ar ?_
 repeat' first|refine af ?_|refine J c ?_|refine ag ?_|refine ab ?_ ?_<;>intro h<;>try exact aa|exact al|fail
 all_goals exact tB):p:=e
theorem O1(e:p:=by
 refine br ⟨(i+1,hr++[(n:Int)],d,bR+1,bR+2),⟨aN,Gm,rfl⟩,Nat.sub_lt_sub_left aN (Nat.lt_succ_self i),?_⟩;rw[<-NK,List.length_append];exact jJ):p:=e
theorem T1(e:p:=by
 simp only[List.length_map];refine br ⟨(k+1,bR+1,bR+2),aN,Nat.sub_lt_sub_left aN (Nat.lt_succ_self k),?_⟩;dsimp only;rw[<-kQ,<-vE];exact Iq):p:=e
theorem K3(e:p:=by
 rw[<-NK,List.length_append];exact jJ):p:=e
theorem Pp(e:p:=by
 have LJ:y∈l.take k:=List.mem_iff_getElem?.2 ⟨j,Eh⟩;have rV:gM [] l=false:=Lg bT b8 (fun eY=>by
  exact alF)
 exact Nl):p:=e
theorem UK(e:p:=by
 dsimp only[List.map,EI]at ez cR rl;simp only[Zc]at ez cR;have alL:=i_ s;have akq:=i_ t3;have oq:=Mf t3 (dL s);exact yH):p:=e
theorem XA(e:p:=by
 generalize dA b t 64=L at *;generalize ((t+2 ^ hb t b7:Nat):Int)=kG at *;generalize hb t b7=K at *;exact Tp):p:=e
theorem QL(e:p:=by
 rw[if_pos rfl];rcases Fp with rfl|rfl
 .have p1:=(p1 rfl).1;exact H8
 clear p1;exact H8):p:=e
theorem aaq(e:p:=by
 by_cases n0:65515<data.length+opt.length
 .rw[if_pos n0];exact pH
 rw[if_neg n0];exact pH):p:=e
theorem RS(e:p:=by
 repeat' first|refine af ?_|refine ag ?_|refine ab ?_ ?_<;>intro h<;>try exact aa|exact al|fail
 exact DJ):p:=e
theorem VY(e:p:=by
 rw[(P2 s).2 b3]at r7;rw[rM (G4 b3)];refine nh ?_ (BJ _);exact El):p:=e
theorem TE(e:p:=by
 generalize dA b t 64=L at *;generalize ((t+2 ^ (b7-b).toNat:Nat):Int)=kG at *;exact Tp):p:=e
theorem XW(e:p:=by
 rw[fr,List.any_eq_true.2 ⟨t,List.mem_of_getElem? h1,h2⟩];exact xb):p:=e
theorem KS(e:p:=by
 clear nC kI za FJ Un;exact oy):p:=e
theorem ON(e:p:=by
 rw[Int.tmod_eq_emod_of_nonneg (Int.natCast_nonneg _)];exact xb):p:=e
theorem S5(e:p:=by
 refine az {} 0 func127 fun Γ an=>ar ?_
 exact PD):p:=e
theorem aai(e:p:=by
 refine az {} 0 func217 fun Γ an=>ar ?_
 exact PD):p:=e
theorem Qt(e:p:=by
 refine az {} 0 func236 fun Γ an=>ar ?_
 exact K_):p:=e
theorem U2(e:p:=by
 refine az {} 0 func69 fun Γ an=>ar ?_
 exact A0):p:=e
theorem Rz(e:p:=by
 refine az {} 0 func7 fun Γ an=>ar ?_
 exact K_):p:=e
theorem XR(e:p:=by
 refine az {} 0 func92 fun Γ an=>ar ?_
 exact A0):p:=e
theorem zM(e:p:=by
 refine az {} 0 func55 fun Γ an=>ar ?_
 exact Ri):p:=e
theorem C3(e:p:=by
 refine nh ?_ (EL _);exact FB):p:=e
theorem zo(e:p:=by
 refine nh ?_ (EL _);exact FU):p:=e
theorem Qy(e:p:=by
 refine br ⟨(j+1,N,bR+1,bR+2),⟨aN,alq,cJ⟩,Nat.sub_lt_sub_left aN (Nat.lt_succ_self j),?_⟩;exact MW):p:=e
theorem O2(e:p:=by
 rw[qh aT ae];clear aT;generalize aA s=n at *;generalize ao s 2=J8 at *;exact Uu):p:=e
theorem Sz(e:p:=by
 rw[qh aT ae];clear aT;generalize aA s=n at *;generalize ao s 2=J8 at *;exact O3):p:=e
theorem Jy(e:p:=by
 rw[qh aT ae];clear aT;exact GR):p:=e
theorem MF(e:p:=by
 rw[qh aT ae];clear aT;exact EA):p:=e
theorem Va(e:p:=by
 clear h2;rcases h1 with rfl|rfl
 .exact tp
 exact tp):p:=e
theorem PX(e:p:=by
 clear h2;rcases h1 with rfl|rfl
 .exact sM
 exact sM):p:=e
end Go.Proofs.YtdiobdlinjgakaaGreatDoor
