import Derived.Test.YtdiobdlinjgakaaGreatDoorDh29
import Derived.Test.YtdiobdlinjgakaaGreatDoorDh28
set_option linter.unusedVariables false
set_option linter.unusedSimpArgs false
set_option maxHeartbeats 8000000
set_option maxRecDepth 100000
open Go.Proofs.Tryz
open List renaming length_filter_le->_a,length_map->_c,mem_append->_e,getElem?_eq_some_iff->_f,take_length->_g,mem_singleton->_h,map_append->_j,drop_eq_getElem_cons->_k,map_cons->_l,getElem?_eq_getElem->_m,map_nil->_n,find?_eq_none->_o
open Nat renaming succ_pos->_b,zero_le->_d,le_trans->_i,add_zero->_p
namespace Go.Proofs.YtdiobdlinjgakaaGreatDoor.A
attribute [local irreducible] bc Go
section
variable (l ah:Int) (t1:Nat) (ai:Int) (t2:Nat) (ms:List Mp) (ad po now:Int) (hl:ms.length*40<=140737488351232) (h10:t1<18446744073709551616) (cr:t2<18446744073709551616)
include hl h10 cr
theorem agV(j:dQ l ah t1 ai t2 ms=0)(f:((0<=po/\po<=65535)/\dh ms<=now/\now<=1099511627776))(z:hW 17 ad po (av l now ms) (-1) = -1)(eP:gw ah 17 (bH 17 ad po (av l now ms)))(e3:gw ai 6 (bH 17 ad po (av l now ms)))(kf:((bH 17 ad po (av l now ms)).map dd).Nodup){B:Int}{T:Nat}{p e:Int}(n0:Spec prog 185 [.agg [.v (.int .i64 ah),.v (.int .u64 (aQ ah 17 (bH 17 ad po (av l now ms)):Nat))],.v (.int .i64 po)] (iF B T p e))(I:¬e=0):
 Spec prog 132 [eK l ah t1 ai t2 ms,.v (.int .i64 17),.v (.int .u32 ad),.v (.int .i64 po),.v (.int .i64 now)] (hJ l ah t1 ai t2 ms 0 e):=by
 have C:ms.length<=maxLen:=fg;have h2:=o5 l ah t1 ai t2 ms C h10 cr;rw[j]at h2;obtain⟨M,m,b8,-,-⟩:=oU h10 cr j;have W5:=(ji m.1).1;have Xb:=(ji m.2).1;have O:(ms.map Mp.enc).length=ms.length:=_c _;have q:=cA po 0 65535;have u:=cA now (dh ms) 1099511627776;rw[decide_eq_true f.1]at q;rw[decide_eq_true f.2]at u;obtain⟨Q,U,X⟩:=f;have Y:0<=dh ms:=by exact so
 have Z:(av l now ms).length<=ms.length:=_a _ _;unfold iF at n0;refine az {} 0 func132 fun Γ an=>ar ?_
 repeat' first|refine af ?_|refine J h2 ?_|refine ag ?_|refine ab ?_ ?_<;>intro h<;>try exact aa|exact al|fail
 all_goals try exfalso;simp at h;done
 refine bS (α:=Nat×Nat) (fun p=>[(⟨.d0,.d5,.d0⟩,.v (.int .i64 (p.1:Nat))),(⟨.d0,.d1,.d6⟩,.v (.int .i64 (oh ms p.1)))]) (fun p=>[(2,none)]) (fun p=>p.2) (fun p=>ms.length-p.1) (fun p=>p.1<=ms.length) (0,Γ.g0+2) (_d _) ?_ ?_
 .exact bs
 rintro⟨k,bR⟩ c;dsimp only at c⊢;refine bz ?_;by_cases aN:k<ms.length
 .exact vy
 obtain rfl:k=ms.length:=G;rw[tW];clear c;repeat' first|refine af ?_|refine J q ?_|refine J u ?_|refine ag ?_|refine ab ?_ ?_<;>intro h<;>try exact aa|exact al|fail
 all_goals try exfalso;simp at h;done
 refine eJ (gU ⟨.d0,.d2,.d1⟩ 5 5 rfl rfl) ?_;refine bz ?_;refine bS (α:=Nat×Nat×Nat) (fun p=>[(⟨.d0,.d7,.d4⟩,.v (.int .i64 (p.1:Nat))),(⟨.d0,.d2,.d1⟩,.aG 5 p.2.1 5 0 (bH 17 ad po (av l now (ms.take p.1))).length false),(⟨.d0,.d2,.d2⟩,.v (.int .i64 (hW 17 ad po (av l now (ms.take p.1)) (-1))))]) (fun p=>[(3,none),(4,none),(5,some ⟨p.2.1,5,(bH 17 ad po (av l now (ms.take p.1))).map Mp.enc⟩)]) (fun p=>p.2.2) (fun p=>ms.length-p.1) (fun p=>p.1<=ms.length) (0,bR,bR+1) (_d _) ?_ ?_
 .exact bs
 rintro⟨k,n8,bR⟩ c;dsimp only at c⊢;refine bz ?_;by_cases aN:k<ms.length
 .exact JA
 obtain rfl:k=ms.length:=G;rw[_g];have ac:(bH 17 ad po (av l now ms)).length<=ms.length:=_i (_a _ _) (_a _ _);rw[z];generalize bH 17 ad po (av l now ms)=MX at *;exact Vp
theorem abQ(m:dQ l ah t1 ai t2 ms=0)(j:((0<=po/\po<=65535)/\dh ms<=now/\now<=1099511627776))(Y:hW 17 ad po (av l now ms) (-1) = -1)(Z:gw ah 17 (bH 17 ad po (av l now ms)))(ac:gw ai 6 (bH 17 ad po (av l now ms)))(u:((bH 17 ad po (av l now ms)).map dd).Nodup){B:Int}{T:Nat}{p e:Int}(z:Spec prog 185 [.agg [.v (.int .i64 ah),.v (.int .u64 (aQ ah 17 (bH 17 ad po (av l now ms)):Nat))],.v (.int .i64 po)] (iF B T p e))(aj:e=0)(ak:gw ah 17 (bH 17 ad po (av l now ms)++[⟨17,ad,po,p,now⟩]))(am:gw ai 6 (bH 17 ad po (av l now ms)++[⟨17,ad,po,p,now⟩]))(C:((bH 17 ad po (av l now ms)++[(⟨17,ad,po,p,now⟩:Mp)]).map dd).Nodup):
 Spec prog 132 [eK l ah t1 ai t2 ms,.v (.int .i64 17),.v (.int .u32 ad),.v (.int .i64 po),.v (.int .i64 now)] (hJ l ah (aQ ah 17 (bH 17 ad po (av l now ms)++[⟨17,ad,po,p,now⟩])) ai (aQ ai 6 (bH 17 ad po (av l now ms)++[⟨17,ad,po,p,now⟩])) (bH 17 ad po (av l now ms)++[⟨17,ad,po,p,now⟩]) p 0):=by
 have ao:ms.length<=maxLen:=fg;have h2:=o5 l ah t1 ai t2 ms ao h10 cr;rw[m]at h2;obtain⟨ax,I,b8,-,-⟩:=oU h10 cr m;have M:=(ji I.1).1;have Q:=(ji I.2).1;have aA:(ms.map Mp.enc).length=ms.length:=_c _;have U:=cA po 0 65535;have X:=cA now (dh ms) 1099511627776;rw[decide_eq_true j.1]at U;rw[decide_eq_true j.2]at X;obtain⟨aC,aD,aE⟩:=j;have aI:0<=dh ms:=by exact so
 have aJ:(av l now ms).length<=ms.length:=_a _ _;unfold iF at z;refine az {} 0 func132 fun Γ an=>ar ?_
 repeat' first|refine af ?_|refine J h2 ?_|refine ag ?_|refine ab ?_ ?_<;>intro h<;>try exact aa|exact al|fail
 all_goals try exfalso;simp at h;done
 refine bS (α:=Nat×Nat) (fun p=>[(⟨.d0,.d5,.d0⟩,.v (.int .i64 (p.1:Nat))),(⟨.d0,.d1,.d6⟩,.v (.int .i64 (oh ms p.1)))]) (fun p=>[(2,none)]) (fun p=>p.2) (fun p=>ms.length-p.1) (fun p=>p.1<=ms.length) (0,Γ.g0+2) (_d _) ?_ ?_
 .exact bs
 rintro⟨k,bR⟩ f;dsimp only at f⊢;refine bz ?_;by_cases aN:k<ms.length
 .exact vy
 obtain rfl:k=ms.length:=G;rw[tW];clear f;repeat' first|refine af ?_|refine J U ?_|refine J X ?_|refine ag ?_|refine ab ?_ ?_<;>intro h<;>try exact aa|exact al|fail
 all_goals try exfalso;simp at h;done
 refine eJ (gU ⟨.d0,.d2,.d1⟩ 5 5 rfl rfl) ?_;refine bz ?_;refine bS (α:=Nat×Nat×Nat) (fun p=>[(⟨.d0,.d7,.d4⟩,.v (.int .i64 (p.1:Nat))),(⟨.d0,.d2,.d1⟩,.aG 5 p.2.1 5 0 (bH 17 ad po (av l now (ms.take p.1))).length false),(⟨.d0,.d2,.d2⟩,.v (.int .i64 (hW 17 ad po (av l now (ms.take p.1)) (-1))))]) (fun p=>[(3,none),(4,none),(5,some ⟨p.2.1,5,(bH 17 ad po (av l now (ms.take p.1))).map Mp.enc⟩)]) (fun p=>p.2.2) (fun p=>ms.length-p.1) (fun p=>p.1<=ms.length) (0,bR,bR+1) (_d _) ?_ ?_
 .exact bs
 rintro⟨k,n8,bR⟩ f;dsimp only at f⊢;refine bz ?_;by_cases aN:k<ms.length
 .exact JA
 obtain rfl:k=ms.length:=G;rw[_g];have aL:(bH 17 ad po (av l now ms)).length<=ms.length:=_i (_a _ _) (_a _ _);rw[Y];generalize bH 17 ad po (av l now ms)=c at *;clear b8;generalize av l now ms=aM at *;have ap:=mW ah t1 17 c false fg M Z u;have h8:=mW ai t2 6 c false fg Q ac u;subst aj;have s6:(c.map Mp.enc).length=c.length:=_c _;have kQ:c.map Mp.enc++[[.v (.int .i64 17),.v (.int .u32 ad),.v (.int .i64 po),.v (.int .i64 p),.v (.int .i64 now)]]=(c++[(⟨17,ad,po,p,now⟩:Mp)]).map Mp.enc:=nu;have au:=mW ah t1 17 (c++[(⟨17,ad,po,p,now⟩:Mp)]) false sa M ak C;have aw:=mW ai t2 6 (c++[(⟨17,ad,po,p,now⟩:Mp)]) false sa Q am C;have r3:=fun g=>kl g (c++[(⟨17,ad,po,p,now⟩:Mp)])
 repeat' first|refine af ?_|refine gC 9 rfl au ⟨⟨rfl,rfl,rfl⟩,.inl ⟨rfl,rfl,aF,sE⟩,rfl,rfl⟩ rfl ?_|refine gC 9 rfl aw ⟨⟨rfl,rfl,rfl⟩,.inl ⟨rfl,rfl,aF,sE⟩,rfl,rfl⟩ rfl ?_|refine gC 5 rfl ap ⟨⟨rfl,rfl,rfl⟩,.inl ⟨rfl,rfl,aF,kP⟩,rfl,rfl⟩ rfl ?_|refine gC 5 rfl h8 ⟨⟨rfl,rfl,rfl⟩,.inl ⟨rfl,rfl,aF,kP⟩,rfl,rfl⟩ rfl ?_|refine J z ?_|refine ag ?_|refine ab ?_ ?_<;>intro h<;>try exact aa|refine aK ⟨aH,Fv⟩ ?_|exact al|fail
 all_goals try exfalso;simp at h;done
 rw[kQ];refine ev (j_ an 1 9 ae (ys:=[[.v (.int .i64 l),.v (.int .i64 ah),.v (.int .u64 (aQ ah 17 (c++[(⟨17,ad,po,p,now⟩:Mp)]):Nat)),.v (.int .i64 ai),.v (.int .u64 (aQ ai 6 (c++[(⟨17,ad,po,p,now⟩:Mp)]):Nat)),.snap 5 ((c++[(⟨17,ad,po,p,now⟩:Mp)]).map Mp.enc) false]]) rfl rfl ⟨⟨rfl,rfl,rfl,rfl,rfl,Or.inl ⟨rfl,rfl,aF,kP⟩,rfl⟩,rfl⟩) ?_;all_goals exact tw
end
section
variable (l ah:Int) (t1:Nat) (ai:Int) (t2:Nat) (ms:List Mp) (ad po now:Int) (hl:ms.length*40<=140737488351232) (h10:t1<18446744073709551616) (cr:t2<18446744073709551616)
include hl h10 cr
theorem akl(j:dQ l ah t1 ai t2 ms=0)(f:((0<=po/\po<=65535)/\dh ms<=now/\now<=1099511627776))(z:hW 6 ad po (av l now ms) (-1) = -1)(eP:gw ah 17 (bH 6 ad po (av l now ms)))(e3:gw ai 6 (bH 6 ad po (av l now ms)))(kf:((bH 6 ad po (av l now ms)).map dd).Nodup){B:Int}{T:Nat}{p e:Int}(n0:Spec prog 185 [.agg [.v (.int .i64 ai),.v (.int .u64 (aQ ai 6 (bH 6 ad po (av l now ms)):Nat))],.v (.int .i64 po)] (iF B T p e))(I:¬e=0):
 Spec prog 132 [eK l ah t1 ai t2 ms,.v (.int .i64 6),.v (.int .u32 ad),.v (.int .i64 po),.v (.int .i64 now)] (hJ l ah t1 ai t2 ms 0 e):=by
 have C:ms.length<=maxLen:=fg;have h2:=o5 l ah t1 ai t2 ms C h10 cr;rw[j]at h2;obtain⟨M,m,b8,-,-⟩:=oU h10 cr j;have W5:=(ji m.1).1;have Xb:=(ji m.2).1;have O:(ms.map Mp.enc).length=ms.length:=_c _;have q:=cA po 0 65535;have u:=cA now (dh ms) 1099511627776;rw[decide_eq_true f.1]at q;rw[decide_eq_true f.2]at u;obtain⟨Q,U,X⟩:=f;have Y:0<=dh ms:=by exact so
 have Z:(av l now ms).length<=ms.length:=_a _ _;unfold iF at n0;refine az {} 0 func132 fun Γ an=>ar ?_
 repeat' first|refine af ?_|refine J h2 ?_|refine ag ?_|refine ab ?_ ?_<;>intro h<;>try exact aa|exact al|fail
 all_goals try exfalso;simp at h;done
 refine bS (α:=Nat×Nat) (fun p=>[(⟨.d0,.d5,.d0⟩,.v (.int .i64 (p.1:Nat))),(⟨.d0,.d1,.d6⟩,.v (.int .i64 (oh ms p.1)))]) (fun p=>[(2,none)]) (fun p=>p.2) (fun p=>ms.length-p.1) (fun p=>p.1<=ms.length) (0,Γ.g0+2) (_d _) ?_ ?_
 .exact bs
 rintro⟨k,bR⟩ c;dsimp only at c⊢;refine bz ?_;by_cases aN:k<ms.length
 .exact vy
 obtain rfl:k=ms.length:=G;rw[tW];clear c;repeat' first|refine af ?_|refine J q ?_|refine J u ?_|refine ag ?_|refine ab ?_ ?_<;>intro h<;>try exact aa|exact al|fail
 all_goals try exfalso;simp at h;done
 refine eJ (gU ⟨.d0,.d2,.d1⟩ 5 5 rfl rfl) ?_;refine bz ?_;refine bS (α:=Nat×Nat×Nat) (fun p=>[(⟨.d0,.d7,.d4⟩,.v (.int .i64 (p.1:Nat))),(⟨.d0,.d2,.d1⟩,.aG 5 p.2.1 5 0 (bH 6 ad po (av l now (ms.take p.1))).length false),(⟨.d0,.d2,.d2⟩,.v (.int .i64 (hW 6 ad po (av l now (ms.take p.1)) (-1))))]) (fun p=>[(3,none),(4,none),(5,some ⟨p.2.1,5,(bH 6 ad po (av l now (ms.take p.1))).map Mp.enc⟩)]) (fun p=>p.2.2) (fun p=>ms.length-p.1) (fun p=>p.1<=ms.length) (0,bR,bR+1) (_d _) ?_ ?_
 .exact bs
 rintro⟨k,n8,bR⟩ c;dsimp only at c⊢;refine bz ?_;by_cases aN:k<ms.length
 .exact NB
 obtain rfl:k=ms.length:=G;rw[_g];have ac:(bH 6 ad po (av l now ms)).length<=ms.length:=_i (_a _ _) (_a _ _);rw[z];generalize bH 6 ad po (av l now ms)=MX at *;exact Vp
theorem aeE(m:dQ l ah t1 ai t2 ms=0)(j:((0<=po/\po<=65535)/\dh ms<=now/\now<=1099511627776))(Y:hW 6 ad po (av l now ms) (-1) = -1)(Z:gw ah 17 (bH 6 ad po (av l now ms)))(ac:gw ai 6 (bH 6 ad po (av l now ms)))(u:((bH 6 ad po (av l now ms)).map dd).Nodup){B:Int}{T:Nat}{p e:Int}(z:Spec prog 185 [.agg [.v (.int .i64 ai),.v (.int .u64 (aQ ai 6 (bH 6 ad po (av l now ms)):Nat))],.v (.int .i64 po)] (iF B T p e))(aj:e=0)(ak:gw ah 17 (bH 6 ad po (av l now ms)++[⟨6,ad,po,p,now⟩]))(am:gw ai 6 (bH 6 ad po (av l now ms)++[⟨6,ad,po,p,now⟩]))(C:((bH 6 ad po (av l now ms)++[(⟨6,ad,po,p,now⟩:Mp)]).map dd).Nodup):
 Spec prog 132 [eK l ah t1 ai t2 ms,.v (.int .i64 6),.v (.int .u32 ad),.v (.int .i64 po),.v (.int .i64 now)] (hJ l ah (aQ ah 17 (bH 6 ad po (av l now ms)++[⟨6,ad,po,p,now⟩])) ai (aQ ai 6 (bH 6 ad po (av l now ms)++[⟨6,ad,po,p,now⟩])) (bH 6 ad po (av l now ms)++[⟨6,ad,po,p,now⟩]) p 0):=by
 have ao:ms.length<=maxLen:=fg;have h2:=o5 l ah t1 ai t2 ms ao h10 cr;rw[m]at h2;obtain⟨ax,I,b8,-,-⟩:=oU h10 cr m;have M:=(ji I.1).1;have Q:=(ji I.2).1;have aA:(ms.map Mp.enc).length=ms.length:=_c _;have U:=cA po 0 65535;have X:=cA now (dh ms) 1099511627776;rw[decide_eq_true j.1]at U;rw[decide_eq_true j.2]at X;obtain⟨aC,aD,aE⟩:=j;have aI:0<=dh ms:=by exact so
 have aJ:(av l now ms).length<=ms.length:=_a _ _;unfold iF at z;refine az {} 0 func132 fun Γ an=>ar ?_
 repeat' first|refine af ?_|refine J h2 ?_|refine ag ?_|refine ab ?_ ?_<;>intro h<;>try exact aa|exact al|fail
 all_goals try exfalso;simp at h;done
 refine bS (α:=Nat×Nat) (fun p=>[(⟨.d0,.d5,.d0⟩,.v (.int .i64 (p.1:Nat))),(⟨.d0,.d1,.d6⟩,.v (.int .i64 (oh ms p.1)))]) (fun p=>[(2,none)]) (fun p=>p.2) (fun p=>ms.length-p.1) (fun p=>p.1<=ms.length) (0,Γ.g0+2) (_d _) ?_ ?_
 .exact bs
 rintro⟨k,bR⟩ f;dsimp only at f⊢;refine bz ?_;by_cases aN:k<ms.length
 .exact vy
 obtain rfl:k=ms.length:=G;rw[tW];clear f;repeat' first|refine af ?_|refine J U ?_|refine J X ?_|refine ag ?_|refine ab ?_ ?_<;>intro h<;>try exact aa|exact al|fail
 all_goals try exfalso;simp at h;done
 refine eJ (gU ⟨.d0,.d2,.d1⟩ 5 5 rfl rfl) ?_;refine bz ?_;refine bS (α:=Nat×Nat×Nat) (fun p=>[(⟨.d0,.d7,.d4⟩,.v (.int .i64 (p.1:Nat))),(⟨.d0,.d2,.d1⟩,.aG 5 p.2.1 5 0 (bH 6 ad po (av l now (ms.take p.1))).length false),(⟨.d0,.d2,.d2⟩,.v (.int .i64 (hW 6 ad po (av l now (ms.take p.1)) (-1))))]) (fun p=>[(3,none),(4,none),(5,some ⟨p.2.1,5,(bH 6 ad po (av l now (ms.take p.1))).map Mp.enc⟩)]) (fun p=>p.2.2) (fun p=>ms.length-p.1) (fun p=>p.1<=ms.length) (0,bR,bR+1) (_d _) ?_ ?_
 .exact bs
 rintro⟨k,n8,bR⟩ f;dsimp only at f⊢;refine bz ?_;by_cases aN:k<ms.length
 .exact NB
 obtain rfl:k=ms.length:=G;rw[_g];have aL:(bH 6 ad po (av l now ms)).length<=ms.length:=_i (_a _ _) (_a _ _);rw[Y];generalize bH 6 ad po (av l now ms)=c at *;clear b8;generalize av l now ms=aM at *;have ap:=mW ah t1 17 c false fg M Z u;have h8:=mW ai t2 6 c false fg Q ac u;subst aj;have s6:(c.map Mp.enc).length=c.length:=_c _;have kQ:c.map Mp.enc++[[.v (.int .i64 6),.v (.int .u32 ad),.v (.int .i64 po),.v (.int .i64 p),.v (.int .i64 now)]]=(c++[(⟨6,ad,po,p,now⟩:Mp)]).map Mp.enc:=nu;have au:=mW ah t1 17 (c++[(⟨6,ad,po,p,now⟩:Mp)]) false sa M ak C;have aw:=mW ai t2 6 (c++[(⟨6,ad,po,p,now⟩:Mp)]) false sa Q am C;have r3:=fun g=>kl g (c++[(⟨6,ad,po,p,now⟩:Mp)])
 repeat' first|refine af ?_|refine gC 9 rfl au ⟨⟨rfl,rfl,rfl⟩,.inl ⟨rfl,rfl,aF,sE⟩,rfl,rfl⟩ rfl ?_|refine gC 9 rfl aw ⟨⟨rfl,rfl,rfl⟩,.inl ⟨rfl,rfl,aF,sE⟩,rfl,rfl⟩ rfl ?_|refine gC 5 rfl ap ⟨⟨rfl,rfl,rfl⟩,.inl ⟨rfl,rfl,aF,kP⟩,rfl,rfl⟩ rfl ?_|refine gC 5 rfl h8 ⟨⟨rfl,rfl,rfl⟩,.inl ⟨rfl,rfl,aF,kP⟩,rfl,rfl⟩ rfl ?_|refine J z ?_|refine ag ?_|refine ab ?_ ?_<;>intro h<;>try exact aa|refine aK ⟨aH,Fv⟩ ?_|exact al|fail
 all_goals try exfalso;simp at h;done
 rw[kQ];refine ev (j_ an 1 9 ae (ys:=[[.v (.int .i64 l),.v (.int .i64 ah),.v (.int .u64 (aQ ah 17 (c++[(⟨6,ad,po,p,now⟩:Mp)]):Nat)),.v (.int .i64 ai),.v (.int .u64 (aQ ai 6 (c++[(⟨6,ad,po,p,now⟩:Mp)]):Nat)),.snap 5 ((c++[(⟨6,ad,po,p,now⟩:Mp)]).map Mp.enc) false]]) rfl rfl ⟨⟨rfl,rfl,rfl,rfl,rfl,Or.inl ⟨rfl,rfl,aF,kP⟩,rfl⟩,rfl⟩) ?_;all_goals exact tw
end
theorem aiH{α:Type}(p:α->Bool)(l:List α):(bU p l 0 = -1/\l.find? p=none)\/∃(i:Nat)(t:α),l[i]?=some t/\bU p l 0=(i:Int)/\l.find? p=some t:=by
 rcases oz p l 0 with⟨h1,h2⟩|⟨i,t,h1,h2,c,f⟩
 .exact .inl ⟨h1,_o.2 (fun t g=>by simp[h2 t g])⟩
 refine .inr ⟨i,t,h1,by rw[f];omega,?_⟩;have b:i<l.length:=(_f.1 h1).1;have e:l=l.take i++t::l.drop (i+1):=by conv=>lhs;rw[<-List.take_append_drop i l,_k b,show l[i]=t from Option.some.inj ((_m b).symm.trans h1)]
 rw[e,List.find?_append,_o.2 (fun y j=>by simp[c y j])];simp[h2]
theorem acB(b:Mp)(l ah:Int)(t1:Nat)(ai:Int)(t2:Nat)(ms:List Mp)(pr out now:Int)(hl:1<=l/\l<=1000000)(f:0<=b.tm/\b.tm<=1099511627776):Spec prog 188 [.agg b.enc,.bY [.v (.int .i64 pr)],.bY [.v (.int .i64 out)],.bY [.v (.int .i64 now)],.bY (ru l ah t1 ai t2 ms)] (.v (.bool (pQ l pr out now b))):=by
 have c:IntKind.i64.wrap (b.tm+l)=b.tm+l:=IntWalk.i64_in _ G;refine az {} 0 func188 fun Γ an=>ar ?_
 repeat' first|refine af ?_|simp only[c]|refine ag ?_|refine ab ?_ ?_<;>intro h<;>try exact aa|exact al|fail
 all_goals(refine cI ?_;first|exact cc|try simp only[cE]at *)
 all_goals (refine fA ?_;unfold pQ;simp_all)
section
variable (l ah:Int) (t1:Nat) (ai:Int) (t2:Nat) (ms:List Mp) (pr out now:Int) (hl:ms.length<=maxLen) (h1:t1<18446744073709551616) (h2:t2<18446744073709551616)
include hl h1 h2
theorem ai6{e:Int}(f:dQ l ah t1 ai t2 ms=e)(g:¬e=0):Spec prog 134 [eK l ah t1 ai t2 ms,.v (.int .i64 pr),.v (.int .i64 out),.v (.int .i64 now)] (n2 0 0 e):=by
 have c:=o5 l ah t1 ai t2 ms hl h1 h2;rw[f]at c;refine az {} 0 func134 fun Γ an=>ar ?_
 exact UF
theorem ab_(j:dQ l ah t1 ai t2 ms=0):Spec prog 134 [eK l ah t1 ai t2 ms,.v (.int .i64 pr),.v (.int .i64 out),.v (.int .i64 now)] (if pr=6\/pr=17 then(if 0<=now/\now<=1099511627776 then n2 (jS l pr out now ms).1 (jS l pr out now ms).2.1 (jS l pr out now ms).2.2 else n2 0 0 1)else n2 0 0 7):=by
 have c:=o5 l ah t1 ai t2 ms hl h1 h2;obtain⟨z,C⟩:=TG h1 h2 j;rw[j]at c;have f:=RZ (g:=188) (caps:=[.bY [.v (.int .i64 pr)],.bY [.v (.int .i64 out)],.bY [.v (.int .i64 now)],.bY (ru l ah t1 ai t2 ms)]) (pQ l pr out now) ms false hl (fun m I=>acB m l ah t1 ai t2 ms pr out now z (C m I));by_cases q:pr=6\/pr=17
 .rw[if_pos q];by_cases u:0<=now/\now<=1099511627776
  .rw[if_pos u];rcases aiH (pQ l pr out now) ms with⟨f1,f2⟩|⟨i,t,f0,f1,f2⟩
   .rw[f1]at f;have g:jS l pr out now ms=(0,0,7):=by unfold jS;rw[f2]
    rw[g];refine az {} 0 func134 fun Γ an=>ar ?_
    repeat' first|refine dv (hn an ⟨.d0,.d0,.d5⟩ rfl rfl ⟨rfl,rfl,_b _⟩) ?_|refine dv (hn an ⟨.d0,.d0,.d6⟩ rfl rfl ⟨rfl,rfl,_b _⟩) ?_|refine dv (hn an ⟨.d0,.d0,.d7⟩ rfl rfl ⟨rfl,rfl,_b _⟩) ?_|refine dv (hn an ⟨.d0,.d0,.d4⟩ rfl rfl ⟨rfl,rfl,_b _⟩) ?_|refine af ?_|refine J c ?_|refine J (cA _ _ _) ?_|refine J f ?_|refine ag ?_|refine ab ?_ ?_<;>intro h<;>try exact aa|exact al|fail
    all_goals exact tB
   rw[f1]at f;have M:=kW f0;have O:i<ms.length:=(_f.1 f0).1;have g:jS l pr out now ms=(t.ad,t.po,0):=by unfold jS;rw[f2]
   rw[g];refine az {} 0 func134 fun Γ an=>ar ?_
   repeat' first|refine dv (hn an ⟨.d0,.d0,.d5⟩ rfl rfl ⟨rfl,rfl,_b _⟩) ?_|refine dv (hn an ⟨.d0,.d0,.d6⟩ rfl rfl ⟨rfl,rfl,_b _⟩) ?_|refine dv (hn an ⟨.d0,.d0,.d7⟩ rfl rfl ⟨rfl,rfl,_b _⟩) ?_|refine dv (hn an ⟨.d0,.d0,.d4⟩ rfl rfl ⟨rfl,rfl,_b _⟩) ?_|refine af ?_|refine J c ?_|refine J (cA _ _ _) ?_|refine J f ?_|refine ag ?_|refine ab ?_ ?_<;>intro h<;>try exact aa|simp only[Int.toNat_natCast,M]|refine aK ⟨G,Mv⟩ ?_|exact al|fail
   all_goals exact tB
  rw[if_neg u];exact Sy
 rw[if_neg q];exact Sy
theorem akF:Spec prog 134 [eK l ah t1 ai t2 ms,.v (.int .i64 pr),.v (.int .i64 out),.v (.int .i64 now)] (zN (ta l ah t1 ai t2 ms pr out now)):=by
 by_cases b:dQ l ah t1 ai t2 ms=0
 .rw[<-Ye b];exact ab_ l ah t1 ai t2 ms pr out now hl h1 h2 b
 unfold ta;rw[if_pos b];exact ai6 l ah t1 ai t2 ms pr out now hl h1 h2 rfl b
end
theorem I3{pr ad po:Int}{ms:List Mp}{b:Mp}(h:b∈bH pr ad po ms):b∈ms/\gH pr ad po b=false:=by
 obtain⟨h1,h2⟩:=List.mem_filter.1 h;refine⟨h1,?_⟩;cases c:gH pr ad po b with
 |false=>rfl
 |true=>rw[c]at h2;cases h2
theorem alG{ah ai pr ad po now:Int}{c:List Mp}(g:kE ah ai c){i:Nat}{f:Mp}(u:c[i]?=some f)(z:gH pr ad po f=true)(Q:64<=ah)(U:64<=ai):
 hW pr ad po c (-1)=f.ou/\0<=f.ou/\gw ah 17 (bH pr ad po c++[⟨pr,ad,po,f.ou,now⟩])/\gw ai 6 (bH pr ad po c++[⟨pr,ad,po,f.ou,now⟩])/\((bH pr ad po c++[(⟨pr,ad,po,f.ou,now⟩:Mp)]).map dd).Nodup/\
  aQ ah 17 (bH pr ad po c++[⟨pr,ad,po,f.ou,now⟩])=aQ ah 17 c/\aQ ai 6 (bH pr ad po c++[⟨pr,ad,po,f.ou,now⟩])=aQ ai 6 c:=by
 have C:i<c.length:=(_f.1 u).1;have e:c=c.take i++f::c.drop (i+1):=by
  have:c.drop i=f::c.drop (i+1):=by rw[_k C,show c[i]=f from Option.some.inj ((_m C).symm.trans u)]
  exact L1
 have v:=SK g u z;have q:f∈c:=List.mem_of_getElem? u;have x:=(of_decide_eq_true z).1;have J:∀j∈c.take i++c.drop (i+1),gH pr ad po j=false:=fun j h=>(I3 (by rw[v];exact h)).2
 have M:dd (⟨pr,ad,po,f.ou,now⟩:Mp)=dd f:=by simp[dd,x]
 have O:∀b p,kB b p (⟨pr,ad,po,f.ou,now⟩:Mp)=kB b p f:=fun b p=>by simp[kB,x]
 have G:∀b p,aQ b p (c.take i++c.drop (i+1)++[⟨pr,ad,po,f.ou,now⟩])=aQ b p c:=fun b p=>by
  conv=>rhs;rw[e]
  simp only[uu,aQ,O];omega
 refine⟨?_,?_,?_,?_,?_,by rw[v];exact G _ _,by rw[v];exact G _ _⟩
 .rw[e,Lm,hW,z,if_pos rfl];exact KN _ (fun j h=>J j (_e.2 (.inr h)))
 .rcases g.pr f q with h|h
  .have:=g.aw f q h;omega
  have:=g.aY f q h;omega
 .intro j h m;rcases _e.1 h with h|h
  .exact g.aw j (I3 h).1 m
  obtain rfl:=_h.1 h;exact g.aw f q (x.trans m)
 .intro j h m;rcases _e.1 h with h|h
  .exact g.aY j (I3 h).1 m
  obtain rfl:=_h.1 h;exact g.aY f q (x.trans m)
 rw[v];have I:=g.ka;rw[e]at I;have m:(c.take i++f::c.drop (i+1)).Perm (c.take i++c.drop (i+1)++[f]):=List.perm_middle.trans (List.perm_append_singleton f _).symm;have h2:=(m.map dd).nodup_iff.1 I;rw[_j,_l,_n,M];rw[_j,_l,_n]at h2;exact h2
theorem Td{ah ai ad po now b pr:Int}{f:List Mp}(g:kE ah ai f){K:Nat}(I:K<64)(v:(pr=17/\b=ah)\/(pr=6/\b=ai))(m:(aQ b pr f).testBit K=false):
 gw ah 17 (f++[⟨pr,ad,po,b+K,now⟩])/\gw ai 6 (f++[⟨pr,ad,po,b+K,now⟩])/\((f++[(⟨pr,ad,po,b+K,now⟩:Mp)]).map dd).Nodup:=by
 refine⟨?_,?_,?_⟩
 .intro j h a6;rcases _e.1 h with h|h
  .exact g.aw j h a6
  exact Vn
 .intro j h a6;rcases _e.1 h with h|h
  .exact g.aY j h a6
  exact Vn
 rw[_j,List.nodup_append];refine⟨g.ka,aF,fun a x c q=>?_⟩;simp only[_l,_n,_h]at q;subst q;rintro rfl;obtain⟨j,z,u⟩:=List.mem_map.1 x;simp only[dd,Prod.mk.injEq]at u;have C:gw b pr f:=by
  rcases v with⟨rfl,rfl⟩|⟨rfl,rfl⟩
  .exact g.aw
  exact g.aY
 rw[(l9 b pr f C g.ka).2,List.any_eq_false]at m;have:=m j z;simp only[decide_eq_true_eq,not_and]at this;exact this u.1 G
section
variable (l ah:Int) (t1:Nat) (ai:Int) (t2:Nat) (ms:List Mp) (pr ad po now:Int) (hl:ms.length*40<=140737488351232) (h10:t1<18446744073709551616) (cr:t2<18446744073709551616)
include hl h10 cr
theorem af7:Spec prog 132 [eK l ah t1 ai t2 ms,.v (.int .i64 pr),.v (.int .u32 ad),.v (.int .i64 po),.v (.int .i64 now)] (x9 l ah ai (Cy l ah t1 ai t2 ms pr ad po now)):=by
 refine Mm l ah t1 ai t2 ms pr ad po now (Q:=fun r=>Spec prog 132 [eK l ah t1 ai t2 ms,.v (.int .i64 pr),.v (.int .u32 ad),.v (.int .i64 po),.v (.int .i64 now)] (x9 l ah ai r)) (fun h=>aiF l ah t1 ai t2 ms pr ad po now hl h10 cr rfl h) (fun h m=>abU l ah t1 ai t2 ms pr ad po now hl h10 cr h m)
  (fun h m f=>aeP l ah t1 ai t2 ms pr ad po now hl h10 cr h m f) (fun g m f i am Q an ag=>?_) (fun g f Q U=>?_)
 all_goals
  obtain⟨ao,X,aj,-,-⟩:=oU h10 cr g;have ak:=(ji X.1).1;have al:=(ji X.2).1;have p0:kE ah ai (av l now ms):=aj.sub (List.filter_sublist (p:=jN l now) (l:=ms))
 .obtain⟨Y,Z,aa,ab,ac,ae,af⟩:=alG (now:=now) p0 Q ag ak.1 al.1;rcases m with rfl|rfl
  .have b:=acO l ah t1 ai t2 ms ad po now hl h10 cr g f Y Z aa ab ac;rw[ae,af]at b;exact b
  have b:=akU l ah t1 ai t2 ms ad po now hl h10 cr g f Y Z aa ab ac;rw[ae,af]at b;exact b
 have l1:=ajt U;have x:=KN (-1) U;have z:=(l9 ai 6 _ p0.aY p0.ka).1;have C:=(l9 ah 17 _ p0.aw p0.ka).1;refine⟨fun I c=>?_,fun J c=>?_,fun I c=>?_,fun J c=>?_⟩
 .subst I;exact akl l ah t1 ai t2 ms ad po now hl h10 cr g f x EH Dr Ed (by rw[l1];exact YL _ _ po z c) c
 .subst J;exact agV l ah t1 ai t2 ms ad po now hl h10 cr g f x EH Dr Ed (by rw[l1];exact YL _ _ po C c) c
 .subst I;have q:=sD (b:=ai) z (sH c).2.2 po;have j:=Td (ad:=ad) (po:=po) (now:=now) p0 q.1 (.inr ⟨rfl,rfl⟩) q.2;have bD:Spec prog 185 [.agg [.v (.int .i64 ai),.v (.int .u64 (aQ ai 6 (av l now ms):Nat))],.v (.int .i64 po)] (iF ai (aQ ai 6 (av l now ms)+2 ^ dO ai (aQ ai 6 (av l now ms)) po) (ai+dO ai (aQ ai 6 (av l now ms)) po) 0):=by
   by_cases u:dx ai (aQ ai 6 (av l now ms)) po=false/\ai<=po/\po<=ai+63
   .exact UD _ _ po z c u
   exact Vw _ _ po z c u
  have b:=aeE l ah t1 ai t2 ms ad po now hl h10 cr g f x EH Dr Ed (by rw[l1];exact bD) rfl (by rw[l1];exact j.1) (by rw[l1];exact j.2.1) (by rw[l1];exact j.2.2);rw[l1]at b;have M:aQ ah 17 (av l now ms++[⟨6,ad,po,ai+dO ai (aQ ai 6 (av l now ms)) po,now⟩])=aQ ah 17 (av l now ms):=by rw[uu];simp[aQ,kB]
  have O:aQ ai 6 (av l now ms++[⟨6,ad,po,ai+dO ai (aQ ai 6 (av l now ms)) po,now⟩])=aQ ai 6 (av l now ms)+2 ^ dO ai (aQ ai 6 (av l now ms)) po:=by
   rw[uu];simp only[aQ,kB,if_true,_p];rw[show(ai+(dO ai (aQ ai 6 (av l now ms)) po:Int)-ai).toNat=dO ai (aQ ai 6 (av l now ms)) po from G]
  rw[M,O]at b;exact b
 subst J;have q:=sD (b:=ah) C (sH c).2.2 po;have j:=Td (ad:=ad) (po:=po) (now:=now) p0 q.1 (.inl ⟨rfl,rfl⟩) q.2;have bD:Spec prog 185 [.agg [.v (.int .i64 ah),.v (.int .u64 (aQ ah 17 (av l now ms):Nat))],.v (.int .i64 po)] (iF ah (aQ ah 17 (av l now ms)+2 ^ dO ah (aQ ah 17 (av l now ms)) po) (ah+dO ah (aQ ah 17 (av l now ms)) po) 0):=by
  by_cases u:dx ah (aQ ah 17 (av l now ms)) po=false/\ah<=po/\po<=ah+63
  .exact UD _ _ po C c u
  exact Vw _ _ po C c u
 have b:=abQ l ah t1 ai t2 ms ad po now hl h10 cr g f x EH Dr Ed (by rw[l1];exact bD) rfl (by rw[l1];exact j.1) (by rw[l1];exact j.2.1) (by rw[l1];exact j.2.2);rw[l1]at b;have M:aQ ai 6 (av l now ms++[⟨17,ad,po,ah+dO ah (aQ ah 17 (av l now ms)) po,now⟩])=aQ ai 6 (av l now ms):=by rw[uu];simp[aQ,kB]
 have O:aQ ah 17 (av l now ms++[⟨17,ad,po,ah+dO ah (aQ ah 17 (av l now ms)) po,now⟩])=aQ ah 17 (av l now ms)+2 ^ dO ah (aQ ah 17 (av l now ms)) po:=by
  rw[uu];simp only[aQ,kB,if_true,_p];rw[show(ah+(dO ah (aQ ah 17 (av l now ms)) po:Int)-ah).toNat=dO ah (aQ ah 17 (av l now ms)) po from G]
 rw[M,O]at b;exact b
end
end Go.Proofs.YtdiobdlinjgakaaGreatDoor.A
