import Derived.Test.YtmibknbmhcnemaaGreatDoorHb27
set_option linter.unusedVariables false
set_option linter.unusedSimpArgs false
namespace Go.Proofs.YtmibknbmhcnemaaGreatDoor
theorem uJ (l:List UInt8) (n i:Nat) (h:i+1<n):z3 (l.take n) i=z3 l i:=by
 unfold z3
 rw [List.getElem?_take,List.getElem?_take,if_pos (by omega),if_pos (by omega)]
def pL (s:List UInt8):Nat:=(z3 s 2).toNat
theorem ZL {s:List UInt8} (he:(edR s).2=0):(20≤hN s∧hN s≤60)∧pL s≤s.length∧((bN s 9:Nat):Int)=(edR s).1.proto∧(((bN s 9:Nat):Int)=6∨((bN s 9:Nat):Int)=17)∧hN s+ckI (bN s 9:Nat)+2≤pL s∧(edR s).1=⟨yZ s 12,yZ s 16,(bN s 9:Nat),z3 s (hN s),z3 s (hN s+2)⟩∧hN s=4*(bN s 0 % 16):=by
 have h0:zU s=0:=by
  refine Decidable.byContradiction fun h=>?_
  unfold edR at he
  rw [if_neg h] at he
  exact h he
 have he':(edP (rdP s)).2=0:=by
  unfold edR at he
  rwa [if_pos h0] at he
 have e2:edR s=edP (rdP s):=by unfold edR;rw [if_pos h0]
 rw [e2]
 clear he e2
 unfold zU at h0
 split at h0
 ·cases h0
 rename_i h1
 split at h0
 ·cases h0
 rename_i h2
 clear h0
 have b2:=zh s 2
 have hL:pL s=(z3 s 2).toNat:=rfl
 have hNe:hN s=4*(bN s 0 % 16):=rfl
 have hd:(rdP s).data=(s.drop (hN s)).take (pL s-hN s):=rfl
 have hdl:(rdP s).data.length=pL s-hN s:=by rw [hd];simp;omega
 have hp:(rdP s).proto=(bN s 9:Nat):=rfl
 have hf:(rdP s).fr=yZ s 12:=rfl
 have ht:(rdP s).to=yZ s 16:=rfl
 have hw:4≤pL s-hN s→z3 (rdP s).data 0=z3 s (hN s)∧z3 (rdP s).data 2=z3 s (hN s+2):=fun q=>by
  rw [hd,uJ _ _ _ (by omega),uJ _ _ _ (by omega),uv,uv]
  exact ⟨rfl,rfl⟩
 generalize rdP s=p at *
 obtain ⟨tos,id,wh,mo,start,life,proto,fr,to,opt,data⟩:=p
 dsimp only at hd hdl hp hf ht hw
 subst hp hf ht
 unfold edP at he' ⊢
 dsimp only at he' ⊢
 split at he'
 ·cases he'
 rename_i h3
 rw [if_neg h3]
 split at he'
 ·cases he'
 rename_i h4
 rw [if_neg h4]
 have h3':=Decidable.not_not.1 h3
 split at he'
 ·rename_i h5
  rw [if_pos h5]
  split at he'
  ·rename_i h6
   rw [if_pos h6]
   have q:=(i_ h6).2.2
   obtain ⟨q1,q2⟩:=hw (by omega)
   dsimp only
   rw [h5,q1,q2]
   exact ⟨by omega,by omega,rfl,.inl rfl,by unfold ckI;rw [if_neg (by decide)];omega,rfl,hNe⟩
  ·rename_i h6
   exact (h6 he').elim
 ·rename_i h5
  have h7:((bN s 9:Nat):Int)=17:=h3'.resolve_left h5
  rw [if_neg h5]
  split at he'
  ·rename_i h6
   rw [if_pos h6]
   have q:=(dI h6).2.2
   obtain ⟨q1,q2⟩:=hw (by omega)
   dsimp only
   rw [h7,q1,q2]
   exact ⟨by omega,by omega,rfl,.inr rfl,by unfold ckI;rw [if_pos rfl];omega,rfl,hNe⟩
  ·rename_i h6
   exact (h6 he').elim
theorem o9 (A B:List UInt8) (i:Nat) (n:Int) (h:i+1<A.length):yo (A++B) i n=yo A i n++B:=by
 unfold yo
 rw [List.set_append_left _ _ (by omega),List.set_append_left _ _ (by simp;omega)]
theorem pT (A B:List UInt8) (i j:Nat) (n:Int) (h:j=A.length+i):yo (A++B) j n=A++yo B i n:=by
 subst h
 unfold yo
 rw [List.set_append_right _ _ (by omega),Nat.add_assoc,List.set_append_right _ _ (by omega)]
 simp
theorem iC (P Q:List UInt8) (i:Nat) (n:Int) (h:P.length=i) (hq:2≤Q.length):yo (P++Q) i n=P++wd n++Q.drop 2:=by
 rw [pT P Q 0 i n (by omega),←x6 Q 0 n (by omega)]
 simp
theorem VQ (A:List UInt8) (c a:Int) (h:20≤A.length):A.take 10++wd c++lg a++A.drop 16=yo (yo (yo A 10 c) 12 (a / 65536)) 14 (a % 65536):=by
 rw [←x6 A 10 c (by omega),iC (A.take 10++wd c) (A.drop (10+2)) 12 _ (by simp [zE];omega) (by simp;omega),iC (A.take 10++wd c++wd (a / 65536)) ((A.drop (10+2)).drop 2) 14 _ (by simp [zE];omega) (by simp;omega),jt,List.drop_drop,List.drop_drop]
 unfold lg
 simp only [List.append_assoc]
theorem VV (A:List UInt8) (c a:Int) (h:20≤A.length):A.take 10++wd c++(A.drop 12).take 4++lg a++A.drop 20=yo (yo (yo A 10 c) 16 (a / 65536)) 18 (a % 65536):=by
 have e:A.drop (10+2)=(A.drop 12).take 4++A.drop 16:=by
  conv=>lhs;rw [←List.take_append_drop 4 (A.drop (10+2)),List.drop_drop]
 conv=>rhs;rw [←x6 A 10 c (by omega),e,←List.append_assoc,iC (A.take 10++wd c++(A.drop 12).take 4) (A.drop 16) 16 _ (by simp [zE];omega) (by simp;omega),iC (A.take 10++wd c++(A.drop 12).take 4++wd (a / 65536)) ((A.drop 16).drop 2) 18 _ (by simp [zE];omega) (by simp;omega),jt,List.drop_drop,List.drop_drop]
 unfold lg
 simp only [List.append_assoc]
theorem ZC (s:List UInt8) (h ck:Nat) (p a port:Int) (at' off L:Nat) (hd bd:List UInt8) (hhd:hd=s.take h) (hbd:bd=(s.drop h).take (L-h)) (hck:ck=ckI p) (hh:20≤h) (hl:h+ckI p+2≤L) (hL:L≤s.length) (hao:(at'=12∧off=0)∨(at'=16∧off=2)) :
  yo (yo (yo hd 10 (rnT s a at')) at' (a / 65536)) (at'+2) (a % 65536)++yo (yo bd off port) ck (rnC s h p a port at' off)=(rnW s h p a port at' off).take L:=by
 have hc:6≤ckI p:=by unfold ckI;split<;>omega
 have ld:hd.length=h:=by rw [hhd];simp;omega
 have es:s.take L=hd++bd:=by
  rw [hhd,hbd]
  conv=>lhs;rw [show L=h+(L-h) by omega,List.take_add]
 unfold rnW
 simp only [aj]
 rw [es,o9 hd bd 10 _ (by omega),o9 _ bd at' _ (by simp only [zG];omega),o9 _ bd (at'+2) _ (by simp only [zG];omega),pT _ bd off _ _ (by simp only [zG];omega),pT _ _ (ckI p) _ _ (by simp only [zG];omega),hck]
end Go.Proofs.YtmibknbmhcnemaaGreatDoor
