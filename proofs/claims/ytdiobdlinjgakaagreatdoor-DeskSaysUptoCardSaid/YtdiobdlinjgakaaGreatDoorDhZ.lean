import Derived.Test.YtdiobdlinjgakaaGreatDoorDh43
set_option linter.unusedVariables false
set_option linter.unusedSimpArgs false
set_option maxHeartbeats 8000000
set_option maxRecDepth 100000
open Go.Proofs.Tryz
open Option.some renaming inj->_a
open List renaming mem_of_getElem?->_b,mem_append->_c,getElem?_map->_e,range->_f,mem_range->_g,mem_flatMap->_k,length_cons->_l,getElem?_eq_getElem->_n,mem_map->_p,all_eq_true->_u,mem_filter->_v,foldl_cons->_w,mem_cons->_x,map_cons->_y
open Prod.mk renaming injEq->_d
open Go.Proofs.Tryz renaming f3->_h,checked->_q,underlying52->_t
open Go.DataW renaming TrodAll->_i,trod->_j,trod_string->_s
open Bool renaming and_eq_true->_m
open Go.Input renaming okWide_of_okWideB->_o,okWide->_z
open Nat renaming zero_le->_r,le_trans->_A
namespace Go.Proofs.YtdiobdlinjgakaaGreatDoor.R
open Go.ChangeShapes Go.WideShapes Go.ChangeAt Go.RowKit
def zj:List cu:=[.str]
def U3:List cu:=[.str]
theorem abB(s:ByteArray)(b:Unit):pz U3 (s,b)=[.v (.string (I s.data.toList))]:=by
 rw[ag8];rfl
theorem aeX(s:ByteArray):s.data.toList.length=s.size:=by
 cases s;simp[ByteArray.size]
theorem alI {W:World} (h:laidMetH prog Rows.deskSaysUptoRow.laid W) (c:W.ShapedOpen prog):Wx W:=by
 rw[MakeChecks.laidMetH_plain _ _ _ b4]at h;intro g f b;unfold rS at b;simp only[_x,List.not_mem_nil,or_false,_d]at b;rcases b with⟨rfl,rfl⟩|⟨rfl,rfl⟩|⟨rfl,rfl⟩|⟨rfl,rfl⟩|⟨rfl,rfl⟩
 .exact XE h (name := "math/bits.deBruijn64tab") (k:=.u8) (zs:=I7.map fun(n:Nat)=>(n:Int)) (n:=64) (e:=5) (t:=318) (_b (i:=1) rfl) b4 b4 Tryz.underlying318 Tryz.underlying5 b4 b4
 .exact XE h (name := "internal/strconv.uint64pow10") (k:=.u64) (zs:=Lib.pow10Tab) (n:=20) (e:=33) (t:=265) (_b (i:=2) rfl) b4 b4 Tryz.underlying265 Tryz.underlying33 b4 b4
 .exact Z6 h (name := "strconv.ErrRange") (_b (i:=4) rfl) (t:=52) b4 b4 _t
 .exact Z6 h (name := "strconv.ErrSyntax") (_b (i:=5) rfl) (t:=52) b4 b4 _t
 exact aiA (t:=3) c (of_decide_eq_true b4) b4 b4 b4 Tryz.underlying3
theorem abu(W:World)(args:Array Value)(c:laidMetH prog Rows.deskSaysUptoRow.laid W)(f:W.ShapedOpen prog)(g:M7 zj args.toList)(h:vv W W.heap.size (zj.map cu.wide) args.toList):
 Calls prog 3 args W fun e j=>e=.returned (.bool true)/\Below W.heap.size W j:=by
 have m:vv W W.heap.size U3 args.toList:=h;refine abz rfl m (fun x q b=>?_) (alI c f);obtain⟨s,u⟩:=x;obtain⟨aj,-⟩:=q;have z:args.size=1:=b.1;have C:s.size<=1048576:=by
  refine g 0 s rfl ?_;obtain⟨l⟩:=args;match l,z with
  |[v0],_=>
   have G:=b.2 0 (.v (.string s)) v0 rfl rfl;cases G;rfl
 exact Eq.mpr (congrArg (fun l=>Spec prog 3 l (.v (.bool true))) (abB s u)) (R.alw _ (_A (Nat.le_of_eq (aeX s)) C))
theorem ad1:ownKnob prog.godebug=none:=b4
theorem ae_:(_f zj.length).all (fun i=>match zj[i]?,_h.params.toList[i]? with|some s,some t=>s.fit prog none t|_,_=>false)=true:=b4
theorem ail:laidOutB prog=true:=b4
theorem agP:_h.params.toList.all (fun t=>prog.readableRec t&&decide (t<prog.types.size))=true:=b4
theorem abT(os:Os)(args:Array Value):laidMetH prog Rows.deskSaysUptoRow.laid ((World.laidAll prog os Rows.deskSaysUptoRow.laid).forCall (fun _ _=>0) ⟨#[],args,[]⟩).memory:=
 (MakeChecks.laidMetH_plain _ _ _ b4).mpr (laidMet_laidAll _ b4 b4)
set_option maxRecDepth 100000 in
theorem alA(os:Os)(b:os.Started)(H:Type)(enc:TypeId×Value->H)(F:Stop.Interp):
 ReturnsInHanded {} _q os 3 .any ((Rows.OpenSpec.upto Rows.deskSaysSpec).preRow enc prog _h Rows.deskSaysUptoRow.domain false Rows.deskSaysUptoRow.laid) (((Rows.OpenSpec.upto Rows.deskSaysSpec).at F).post enc prog _h false true false false):=
 afk (C:=_q) (enc:=enc) ad1 b b4 func3
  (al0 (enc:=enc) (C:=_q) (World.laidAll prog os Rows.deskSaysUptoRow.laid) #[.string ByteArray.empty] rfl (World.shaped_of_ZipB b4 b4) b4
    (OpenSpec.preRow_of_cond 8 (x:=([.lit (.string [])],[],[])) b4 rfl (fun k c=>by cases c;kernel_rfl) b4 (abT os _)))
  zj b4 ae_ rfl (fun f h=>by
   match f,h with
   |[d0],_=>exact⟨rfl,rfl,rfl⟩) 4 b4 Tryz.underlying4 ail agP abu
theorem aeK:Rows.deskSaysUptoRow.holds Tryz.pinned (Rows.OpenSpec.upto Rows.deskSaysSpec):=
 OpenClaim.holds_of_cond 3 _h rfl rfl rfl rfl rfl rfl rfl ⟨rfl,rfl,rfl,rfl,rfl⟩ rfl rfl rfl rfl rfl b4 func3 b4
  (of_decide_eq_true b4) (by unfold Func.isWrapper;rw[if_neg (of_decide_eq_false b4)];exact⟨rfl,rfl⟩)
  (fun os b H enc _ F=>by rw[OpenClaim.pre_eq_preRow];exact alA os b H enc F)
theorem ajp:Rows.DeskSaysUptoCardSaid:=
 Claim7.holds_tied_plain_at .later [] [.data,.data,.data,.data,.sentinel,.sentinel,.pinned] true (true, "cf950833cd3f5422f1df48f2e7e9cfe7bd61ad3aa04c7d05beec28120731c357") true
  aeK (fun _ h=>ha) b4 (fun _ h=>ha) deskSaysUpto_row_tie rfl ⟨rfl,rfl⟩ b4 rfl
  (fun f fn b c=>by
    obtain rfl:f=3:=_a ((show prog.funcNamed Rows.deskSaysUptoRow.func=some 3 from b4).symm.trans b) |>.symm;obtain rfl:fn=_h:=(_a (func3.symm.trans c)).symm;exact⟨b4,fun j t g=>by
     have m:(_h.params.toList.all fun q=>!prog.wantsStandIn q)=true:=b4;have u:t∈_h.params.toList:=by simpa using Array.mem_of_getElem? g
     exact(show prog.wantsStandIn t=false by simpa using _u.1 m t u)⟩)
  b4
end Go.Proofs.YtdiobdlinjgakaaGreatDoor.R
namespace Go.Proofs.YtdiobdlinjgakaaGreatDoor
theorem provedDeskSaysUpto:Rows.DeskSaysUptoCardSaid:=R.ajp
#print axioms provedDeskSaysUpto
end Go.Proofs.YtdiobdlinjgakaaGreatDoor
