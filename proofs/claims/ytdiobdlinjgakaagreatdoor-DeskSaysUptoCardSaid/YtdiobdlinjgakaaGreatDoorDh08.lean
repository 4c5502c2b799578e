import Derived.Shelf.Strings.Builder1
import Derived.Shelf.Strings.Builder2
import Derived.Shelf.Strings.OnBuilder
import Derived.Shelf.Strconv.Itoa3
import Derived.Ground.MpProg
import Derived.Shelf.Pu.ParseUintPublic10
import Derived.Shelf.Strings.Search3
import Derived.Shelf.Strings.Cut
import Derived.Shelf.Strings.Replace
import Derived.Test.YtdiobdlinjgakaaGreatDoorDh00
set_option linter.unusedVariables false
set_option linter.unusedSimpArgs false
set_option maxHeartbeats 8000000
set_option maxRecDepth 100000
open Go.Proofs.Tryz
open Go.Proofs.Tryz renaming prog->_a,underlying5->_c,zeroValue5->_d,underlying9->_e,underlying4->_f,underlying3->_g,zeroValue9->_h,zeroValue4->_i,zeroValue3->_j,sizeOf5->_k,underlying176->_l,zeroValue176->_m,underlying47->_n,underlying26->_o,underlying20->_p,isAgg5->_q,zeroValue47->_s,zeroValue26->_t,zeroValue20->_u,underlying0->_v,sizeOf9->_w,sizeOf4->_x,sizeOf3->_y,zeroValue0->_z,sizeOf176->_A,isAgg9->_B,isAgg4->_C,isAgg3->_D,sizeOf47->_E,sizeOf26->_F,sizeOf20->_G,isAgg176->_H,underlying76->_I,underlying52->_J,sizeOf0->_K,isAgg47->_L,isAgg26->_M,isAgg20->_N,zeroValue76->_O,zeroValue52->_P,isAgg0->_Q,sizeOf76->_S,sizeOf52->_T,isAgg76->_U,isAgg52->_V,underlying318->_W,underlying317->_X,underlying266->_Y,underlying265->_Z,underlying262->_0,underlying220->_1,underlying217->_2,underlying105->_3,zeroValue318->_4,zeroValue317->_5,zeroValue265->_6,zeroValue262->_7,zeroValue220->_8,zeroValue217->_9
open Go.Lib renaming parseUintB->_b,bytesWorld->_R
open Go.Shelf renaming Ren->_r
namespace Go.Proofs
open Go.Shelf
def Tryz.Yd:_r:=⟨fun|156=>20|165=>40|166=>8|169=>10|240=>17|241=>87|276=>38|277=>149|n=>n,fun|31=>24|9=>9|3=>3|4=>4|0=>0|20=>20|72=>49|76=>53|70=>46|37=>47|75=>52|127=>76|164=>105|5=>5|80=>56|n=>n,fun|n=>n⟩
theorem Tryz.aiz:Go.Proofs.Lays.n156 _a Tryz.Yd:={
 mixed:=by kernel_rfl
 f156:=Tryz.func20.trans (congrArg some (by kernel_rfl))
 f165:=Tryz.func40.trans (congrArg some (by kernel_rfl))
 f166:=Tryz.func8.trans (congrArg some (by kernel_rfl))
 f169:=Tryz.func10.trans (congrArg some (by kernel_rfl))
 f240:=Tryz.func17.trans (congrArg some (by kernel_rfl))
 f241:=Tryz.func87.trans (congrArg some (by kernel_rfl))
 f276:=Tryz.func38.trans (congrArg some (by kernel_rfl))
 f277:=Tryz.func149.trans (congrArg some (by kernel_rfl))
 t0:=_v
 a0:=_Q
 z0:=_K
 v0:=_z
 t3:=_g
 a3:=_D
 z3:=_y
 v3:=_j
 t4:=_f
 a4:=_C
 z4:=_x
 v4:=_i
 t9:=_e
 a9:=_B
 z9:=_w
 v9:=_h
 t20:=_p
 a20:=_N
 z20:=_G
 v20:=_u
 t31:=Tryz.underlying24
 a31:=Tryz.isAgg24
 z31:=Tryz.sizeOf24
 v31:=Tryz.zeroValue24
 t37:=_n
 a37:=_L
 z37:=_E
 v37:=_s
 t70:=Tryz.underlying46
 a70:=Tryz.isAgg46
 z70:=Tryz.sizeOf46
 v70:=Tryz.zeroValue46
 t72:=Tryz.underlying49
 a72:=Tryz.isAgg49
 z72:=Tryz.sizeOf49
 v72:=Tryz.zeroValue49
 t75:=_J
 a75:=_V
 z75:=_T
 v75:=_P
 t76:=Tryz.underlying53
 a76:=Tryz.isAgg53
 z76:=Tryz.sizeOf53
 v76:=Tryz.zeroValue53
 t127:=_I
 a127:=_U
 z127:=_S
 v127:=_O
 t164:=_3
 a164:=Tryz.isAgg105
 z164:=Tryz.sizeOf105
 v164:=Tryz.zeroValue105}
theorem Tryz.aim:Builder.Extra _a Tryz.Yd:={
 sizeBuilder:=by kernel_rfl
 liesBuilder:=by kernel_rfl
 t5:=_c
 a5:=_q
 z5:=_k
 v5:=_d
 infoByte:=by kernel_rfl
 cellsByte:=by kernel_rfl
 sizeByte:=by kernel_rfl
 neB5:=by decide}
open Go.RowKit in
theorem Tryz.strings_Join(b o c:Nat)(xs:List ByteArray)(f:ByteArray)(w:World)(g:∀(j:Nat) x,xs[j]?=some x->w.cell? ⟨b,o+j,none⟩=some (.string x))(m:b<w.heap.size)(aA:xs.length<=140737488355328)(q:xs.length<=c)(u:(Lib.join (xs.map (·.data.toList)) f.data.toList).length<=140737488355328):
 Calls _a 20 #[.slice (some ⟨b,o,none⟩) xs.length c,.string f] w fun e v=>e=.returned (.string ⟨(Lib.join (xs.map (·.data.toList)) f.data.toList).toArray⟩)/\Below w.heap.size w v:=Any.strings_Join Tryz.aiz Tryz.aim b o c xs f w g m aA q u
def Tryz.ads:_r:=⟨fun|171=>19|243=>39|246=>86|283=>145|284=>146|285=>147|286=>148|129=>192|317=>191|318=>193|319=>194|320=>195|337=>241|338=>242|n=>n,fun|3=>3|9=>9|2=>2|4=>4|171=>217|0=>0|53=>33|37=>47|5=>5|173=>220|212=>265|51=>26|20=>20|213=>266|46=>176|232=>317|233=>318|n=>n,fun|17=>3|18=>6|19=>7|n=>n⟩
theorem Tryz.Ee:Go.Proofs.LaysM.n171 _a Tryz.ads:={
 mixed:=by kernel_rfl
 f129:=Tryz.func192.trans (congrArg some (by kernel_rfl))
 f171:=Tryz.func19.trans (congrArg some (by kernel_rfl))
 f243:=Tryz.func39.trans (congrArg some (by kernel_rfl))
 f246:=Tryz.func86.trans (congrArg some (by kernel_rfl))
 f283:=Tryz.func145.trans (congrArg some (by kernel_rfl))
 f284:=Tryz.func146.trans (congrArg some (by kernel_rfl))
 f285:=Tryz.func147.trans (congrArg some (by kernel_rfl))
 f286:=Tryz.func148.trans (congrArg some (by kernel_rfl))
 f317:=Tryz.func191.trans (congrArg some (by kernel_rfl))
 f318:=Tryz.func193.trans (congrArg some (by kernel_rfl))
 f319:=Tryz.func194.trans (congrArg some (by kernel_rfl))
 f320:=Tryz.func195.trans (congrArg some (by kernel_rfl))
 f337:=Tryz.func241.trans (congrArg some (by kernel_rfl))
 f338:=Tryz.func242.trans (congrArg some (by kernel_rfl))
 t0:=_v
 a0:=_Q
 z0:=_K
 v0:=_z
 t2:=Tryz.underlying2
 a2:=Tryz.isAgg2
 z2:=Tryz.sizeOf2
 v2:=Tryz.zeroValue2
 t3:=_g
 a3:=_D
 z3:=_y
 v3:=_j
 t4:=_f
 a4:=_C
 z4:=_x
 v4:=_i
 t5:=_c
 a5:=_q
 z5:=_k
 v5:=_d
 t9:=_e
 a9:=_B
 z9:=_w
 v9:=_h
 t20:=_p
 a20:=_N
 z20:=_G
 v20:=_u
 t37:=_n
 a37:=_L
 z37:=_E
 v37:=_s
 t46:=_l
 a46:=_H
 z46:=_A
 v46:=_m
 t51:=_o
 a51:=_M
 z51:=_F
 v51:=_t
 t53:=Tryz.underlying33
 a53:=Tryz.isAgg33
 z53:=Tryz.sizeOf33
 v53:=Tryz.zeroValue33
 t171:=_2
 a171:=Tryz.isAgg217
 z171:=Tryz.sizeOf217
 v171:=_9
 t173:=_1
 a173:=Tryz.isAgg220
 z173:=Tryz.sizeOf220
 v173:=_8
 t212:=_Z
 a212:=Tryz.isAgg265
 z212:=Tryz.sizeOf265
 v212:=_6
 t213:=_Y
 a213:=Tryz.isAgg266
 z213:=Tryz.sizeOf266
 t232:=_X
 a232:=Tryz.isAgg317
 z232:=Tryz.sizeOf317
 v232:=_5
 t233:=_W
 a233:=Tryz.isAgg318
 z233:=Tryz.sizeOf318
 v233:=_4
 g17:=by kernel_rfl
 g18:=by kernel_rfl
 g19:=by kernel_rfl
 i0:=by kernel_rfl
 i2:=by kernel_rfl
 i3:=by kernel_rfl
 i4:=by kernel_rfl
 i5:=by kernel_rfl
 i9:=by kernel_rfl
 i20:=by kernel_rfl
 i37:=by kernel_rfl
 i46:=by kernel_rfl
 i51:=by kernel_rfl
 i53:=by kernel_rfl
 i171:=by kernel_rfl
 i173:=by kernel_rfl
 i212:=by kernel_rfl
 i232:=by kernel_rfl
 i233:=by kernel_rfl
 m17:=by kernel_rfl
 m18:=by kernel_rfl
 m19:=by kernel_rfl}
open Go.RowKit Go.Sort Go.Lib in
theorem Tryz.strconv_Itoa (n:Int) (b : -9223372036854775808<=n) (h1:n<=9223372036854775807) (w:World) (c:Lib.TabIs _a w "internal/strconv.uint64pow10" .u64 Lib.pow10Tab) :
 Calls _a 19 #[.int .i64 n] w fun e f=>e=.returned (.string ⟨(Lib.itoa n).toArray⟩)/\∃k os,f=grow (w.drewN k) os:=Any.strconv_Itoa Tryz.Ee n b h1 w c
def Tryz.aer:_r:=⟨fun|14=>97|16=>154|17=>155|19=>203|20=>204|21=>205|22=>206|23=>207|24=>208|25=>245|27=>19|26=>246|28=>39|29=>86|30=>145|31=>146|32=>147|33=>148|35=>192|34=>191|36=>193|37=>194|38=>195|39=>241|40=>242|n=>n,fun|9=>9|3=>3|22=>33|24=>52|25=>164|4=>4|34=>273|5=>5|36=>176|37=>47|0=>0|39=>274|21=>21|44=>301|47=>76|50=>321|48=>319|2=>2|52=>217|55=>220|59=>265|60=>26|20=>20|61=>266|65=>317|66=>318|67=>56|n=>n,fun|0=>4|1=>5|2=>3|3=>6|4=>7|n=>n⟩
theorem Tryz.rW:Go.Proofs.LaysPu.n14 _a Tryz.aer:={
 mixed:=by kernel_rfl
 f14:=Tryz.func97.trans (congrArg some (by kernel_rfl))
 f16:=Tryz.func154.trans (congrArg some (by kernel_rfl))
 f17:=Tryz.func155.trans (congrArg some (by kernel_rfl))
 f19:=Tryz.func203.trans (congrArg some (by kernel_rfl))
 f20:=Tryz.func204.trans (congrArg some (by kernel_rfl))
 f21:=Tryz.func205.trans (congrArg some (by kernel_rfl))
 f22:=Tryz.func206.trans (congrArg some (by kernel_rfl))
 f23:=Tryz.func207.trans (congrArg some (by kernel_rfl))
 f24:=Tryz.func208.trans (congrArg some (by kernel_rfl))
 f25:=Tryz.func245.trans (congrArg some (by kernel_rfl))
 f26:=Tryz.func246.trans (congrArg some (by kernel_rfl))
 f27:=Tryz.func19.trans (congrArg some (by kernel_rfl))
 f28:=Tryz.func39.trans (congrArg some (by kernel_rfl))
 f29:=Tryz.func86.trans (congrArg some (by kernel_rfl))
 f30:=Tryz.func145.trans (congrArg some (by kernel_rfl))
 f31:=Tryz.func146.trans (congrArg some (by kernel_rfl))
 f32:=Tryz.func147.trans (congrArg some (by kernel_rfl))
 f33:=Tryz.func148.trans (congrArg some (by kernel_rfl))
 f34:=Tryz.func191.trans (congrArg some (by kernel_rfl))
 f35:=Tryz.func192.trans (congrArg some (by kernel_rfl))
 f36:=Tryz.func193.trans (congrArg some (by kernel_rfl))
 f37:=Tryz.func194.trans (congrArg some (by kernel_rfl))
 f38:=Tryz.func195.trans (congrArg some (by kernel_rfl))
 f39:=Tryz.func241.trans (congrArg some (by kernel_rfl))
 f40:=Tryz.func242.trans (congrArg some (by kernel_rfl))
 t0:=_v
 a0:=_Q
 z0:=_K
 v0:=_z
 i0:=by kernel_rfl
 t2:=Tryz.underlying2
 a2:=Tryz.isAgg2
 z2:=Tryz.sizeOf2
 v2:=Tryz.zeroValue2
 i2:=by kernel_rfl
 t3:=_g
 a3:=_D
 z3:=_y
 v3:=_j
 i3:=by kernel_rfl
 t4:=_f
 a4:=_C
 z4:=_x
 v4:=_i
 i4:=by kernel_rfl
 t5:=_c
 a5:=_q
 z5:=_k
 v5:=_d
 i5:=by kernel_rfl
 t9:=_e
 a9:=_B
 z9:=_w
 v9:=_h
 i9:=by kernel_rfl
 t20:=_p
 a20:=_N
 z20:=_G
 v20:=_u
 i20:=by kernel_rfl
 t21:=Tryz.underlying21
 a21:=Tryz.isAgg21
 z21:=Tryz.sizeOf21
 v21:=Tryz.zeroValue21
 i21:=by kernel_rfl
 t22:=Tryz.underlying33
 a22:=Tryz.isAgg33
 z22:=Tryz.sizeOf33
 v22:=Tryz.zeroValue33
 i22:=by kernel_rfl
 t24:=_J
 a24:=_V
 z24:=_T
 v24:=_P
 i24:=by kernel_rfl
 t25:=Tryz.underlying164
 a25:=Tryz.isAgg164
 z25:=Tryz.sizeOf164
 v25:=Tryz.zeroValue164
 i25:=by kernel_rfl
 t34:=Tryz.underlying273
 a34:=Tryz.isAgg273
 z34:=Tryz.sizeOf273
 v34:=Tryz.zeroValue273
 i34:=by kernel_rfl
 c34:=by kernel_rfl
 t36:=_l
 a36:=_H
 z36:=_A
 v36:=_m
 i36:=by kernel_rfl
 t37:=_n
 a37:=_L
 z37:=_E
 v37:=_s
 i37:=by kernel_rfl
 t39:=Tryz.underlying274
 a39:=Tryz.isAgg274
 z39:=Tryz.sizeOf274
 v39:=Tryz.zeroValue274
 i39:=by kernel_rfl
 t44:=Tryz.underlying301
 a44:=Tryz.isAgg301
 z44:=Tryz.sizeOf301
 v44:=Tryz.zeroValue301
 i44:=by kernel_rfl
 t47:=_I
 a47:=_U
 z47:=_S
 v47:=_O
 i47:=by kernel_rfl
 t48:=Tryz.underlying319
 a48:=Tryz.isAgg319
 z48:=Tryz.sizeOf319
 v48:=Tryz.zeroValue319
 i48:=by kernel_rfl
 t50:=Tryz.underlying321
 a50:=Tryz.isAgg321
 z50:=Tryz.sizeOf321
 v50:=Tryz.zeroValue321
 i50:=by kernel_rfl
 t52:=_2
 a52:=Tryz.isAgg217
 z52:=Tryz.sizeOf217
 v52:=_9
 i52:=by kernel_rfl
 t55:=_1
 a55:=Tryz.isAgg220
 z55:=Tryz.sizeOf220
 v55:=_8
 i55:=by kernel_rfl
 t59:=_Z
 a59:=Tryz.isAgg265
 z59:=Tryz.sizeOf265
 v59:=_6
 i59:=by kernel_rfl
 t60:=_o
 a60:=_M
 z60:=_F
 v60:=_t
 i60:=by kernel_rfl
 t61:=_Y
 a61:=Tryz.isAgg266
 z61:=Tryz.sizeOf266
 t65:=_X
 a65:=Tryz.isAgg317
 z65:=Tryz.sizeOf317
 v65:=_5
 i65:=by kernel_rfl
 t66:=_W
 a66:=Tryz.isAgg318
 z66:=Tryz.sizeOf318
 v66:=_4
 i66:=by kernel_rfl
 t67:=Tryz.underlying56
 a67:=Tryz.isAgg56
 z67:=Tryz.sizeOf56
 v67:=Tryz.zeroValue56
 i67:=by kernel_rfl
 g0:=by kernel_rfl
 m0:=by kernel_rfl
 g1:=by kernel_rfl
 m1:=by kernel_rfl
 g2:=by kernel_rfl
 m2:=by kernel_rfl
 g3:=by kernel_rfl
 m3:=by kernel_rfl
 g4:=by kernel_rfl
 m4:=by kernel_rfl}
open Go.RowKit in
theorem Tryz.strconv_ParseUint_10_at64_ok(s:ByteArray)(f:s.size<=9223372036854775806)(b:Nat)(h:_b 64 s.data.toList=.ok b)(w:World):
 Calls _a 97 #[.string s,.int .i64 10,.int .i64 64] w fun e c=>e=.returned (.tuple #[.int .u64 b,.nilIface])/\(c=w\/c=_R w 5 s):=Any.strconv_ParseUint_10_at64_ok Tryz.rW s f b h w
open Go.RowKit in
theorem Tryz.strconv_ParseUint_10_at64_syntax(s:ByteArray)(f:s.size<=281474976710656)(h:_b 64 s.data.toList=Lib.NumEnd.syntax)(b:Value)(w:World)(g:w.cell? ⟨4,0,none⟩=some b)(j:b=.nilIface\/∃m ki,b=.iface m ki):
 Calls _a 97 #[.string s,.int .i64 10,.int .i64 64] w fun e c=>∃N,e=.returned (.tuple #[.int .u64 0,.iface 274 (.pointer (some ⟨N,0,none⟩))])/\w.heap.size<=N/\c.heap[N]?=some (.cells #[.string ⟨#[80,97,114,115,101,85,105,110,116]⟩,.string s,b] 301 (0,0))/\Below w.heap.size w c:=Any.strconv_ParseUint_10_at64_syntax Tryz.rW s f h b w g j
open Go.RowKit in
theorem Tryz.strconv_ParseUint_10_at64_range(s:ByteArray)(f:s.size<=281474976710656)(h:_b 64 s.data.toList=.range)(b:Value)(w:World)(g:w.cell? ⟨5,0,none⟩=some b)(j:b=.nilIface\/∃m ki,b=.iface m ki):
 Calls _a 97 #[.string s,.int .i64 10,.int .i64 64] w fun e c=>∃N,e=.returned (.tuple #[.int .u64 18446744073709551615,.iface 274 (.pointer (some ⟨N,0,none⟩))])/\w.heap.size<=N/\c.heap[N]?=some (.cells #[.string ⟨#[80,97,114,115,101,85,105,110,116]⟩,.string s,b] 301 (0,0))/\Below w.heap.size w c:=Any.strconv_ParseUint_10_at64_range Tryz.rW s f h b w g j
open Go.RowKit in
theorem Tryz.strconv_ParseUint_10_at32_ok(s:ByteArray)(f:s.size<=9223372036854775806)(b:Nat)(h:_b 32 s.data.toList=.ok b)(w:World):
 Calls _a 97 #[.string s,.int .i64 10,.int .i64 32] w fun e c=>e=.returned (.tuple #[.int .u64 b,.nilIface])/\(c=w\/c=_R w 5 s):=Any.strconv_ParseUint_10_at32_ok Tryz.rW s f b h w
open Go.RowKit in
theorem Tryz.strconv_ParseUint_10_at32_syntax(s:ByteArray)(f:s.size<=281474976710656)(h:_b 32 s.data.toList=Lib.NumEnd.syntax)(b:Value)(w:World)(g:w.cell? ⟨4,0,none⟩=some b)(j:b=.nilIface\/∃m ki,b=.iface m ki):
 Calls _a 97 #[.string s,.int .i64 10,.int .i64 32] w fun e c=>∃N,e=.returned (.tuple #[.int .u64 0,.iface 274 (.pointer (some ⟨N,0,none⟩))])/\w.heap.size<=N/\c.heap[N]?=some (.cells #[.string ⟨#[80,97,114,115,101,85,105,110,116]⟩,.string s,b] 301 (0,0))/\Below w.heap.size w c:=Any.strconv_ParseUint_10_at32_syntax Tryz.rW s f h b w g j
open Go.RowKit in
theorem Tryz.strconv_ParseUint_10_at32_range(s:ByteArray)(f:s.size<=281474976710656)(h:_b 32 s.data.toList=.range)(b:Value)(w:World)(g:w.cell? ⟨5,0,none⟩=some b)(j:b=.nilIface\/∃m ki,b=.iface m ki):
 Calls _a 97 #[.string s,.int .i64 10,.int .i64 32] w fun e c=>∃N,e=.returned (.tuple #[.int .u64 4294967295,.iface 274 (.pointer (some ⟨N,0,none⟩))])/\w.heap.size<=N/\c.heap[N]?=some (.cells #[.string ⟨#[80,97,114,115,101,85,105,110,116]⟩,.string s,b] 301 (0,0))/\Below w.heap.size w c:=Any.strconv_ParseUint_10_at32_range Tryz.rW s f h b w g j
open Go.RowKit in
theorem Tryz.strconv_ParseUint_10_at8_ok(s:ByteArray)(f:s.size<=9223372036854775806)(b:Nat)(h:_b 8 s.data.toList=.ok b)(w:World):
 Calls _a 97 #[.string s,.int .i64 10,.int .i64 8] w fun e c=>e=.returned (.tuple #[.int .u64 b,.nilIface])/\(c=w\/c=_R w 5 s):=Any.strconv_ParseUint_10_at8_ok Tryz.rW s f b h w
open Go.RowKit in
theorem Tryz.strconv_ParseUint_10_at8_syntax(s:ByteArray)(f:s.size<=281474976710656)(h:_b 8 s.data.toList=Lib.NumEnd.syntax)(b:Value)(w:World)(g:w.cell? ⟨4,0,none⟩=some b)(j:b=.nilIface\/∃m ki,b=.iface m ki):
 Calls _a 97 #[.string s,.int .i64 10,.int .i64 8] w fun e c=>∃N,e=.returned (.tuple #[.int .u64 0,.iface 274 (.pointer (some ⟨N,0,none⟩))])/\w.heap.size<=N/\c.heap[N]?=some (.cells #[.string ⟨#[80,97,114,115,101,85,105,110,116]⟩,.string s,b] 301 (0,0))/\Below w.heap.size w c:=Any.strconv_ParseUint_10_at8_syntax Tryz.rW s f h b w g j
open Go.RowKit in
theorem Tryz.strconv_ParseUint_10_at8_range(s:ByteArray)(f:s.size<=281474976710656)(h:_b 8 s.data.toList=.range)(b:Value)(w:World)(g:w.cell? ⟨5,0,none⟩=some b)(j:b=.nilIface\/∃m ki,b=.iface m ki):
 Calls _a 97 #[.string s,.int .i64 10,.int .i64 8] w fun e c=>∃N,e=.returned (.tuple #[.int .u64 255,.iface 274 (.pointer (some ⟨N,0,none⟩))])/\w.heap.size<=N/\c.heap[N]?=some (.cells #[.string ⟨#[80,97,114,115,101,85,105,110,116]⟩,.string s,b] 301 (0,0))/\Below w.heap.size w c:=Any.strconv_ParseUint_10_at8_range Tryz.rW s f h b w g j
def Tryz.afO:_r:=⟨fun|144=>67|143=>35|219=>84|217=>139|225=>140|224=>141|267=>142|266=>189|314=>190|n=>n,fun|9=>9|4=>4|3=>3|5=>5|46=>176|146=>262|51=>26|n=>n,fun|1=>0|n=>n⟩
theorem Tryz.acS:Go.Proofs.Lays.n144 _a Tryz.afO:={
 mixed:=by kernel_rfl
 f143:=Tryz.func35.trans (congrArg some (by kernel_rfl))
 f144:=Tryz.func67.trans (congrArg some (by kernel_rfl))
 f217:=Tryz.func139.trans (congrArg some (by kernel_rfl))
 f219:=Tryz.func84.trans (congrArg some (by kernel_rfl))
 f224:=Tryz.func141.trans (congrArg some (by kernel_rfl))
 f225:=Tryz.func140.trans (congrArg some (by kernel_rfl))
 f266:=Tryz.func189.trans (congrArg some (by kernel_rfl))
 f267:=Tryz.func142.trans (congrArg some (by kernel_rfl))
 f314:=Tryz.func190.trans (congrArg some (by kernel_rfl))
 t3:=_g
 a3:=_D
 z3:=_y
 v3:=_j
 t4:=_f
 a4:=_C
 z4:=_x
 v4:=_i
 t5:=_c
 a5:=_q
 z5:=_k
 v5:=_d
 t9:=_e
 a9:=_B
 z9:=_w
 v9:=_h
 t46:=_l
 a46:=_H
 z46:=_A
 v46:=_m
 t51:=_o
 a51:=_M
 z51:=_F
 v51:=_t
 t146:=_0
 a146:=Tryz.isAgg262
 z146:=Tryz.sizeOf262
 v146:=_7
 g1:=by kernel_rfl}
open Go.RowKit Go.Lib in
theorem Tryz.strings_Contains(s b:ByteArray)(c:Int)(w:World)(aj:s.size<4294967281)(f:w.cell? ⟨0,0,none⟩=some (.int .i64 c)):
 Calls _a 67 #[.string s,.string b] w fun e g=>e=.returned (.bool (Lib.contains s.data.toList b.data.toList))/\g=w:=Any.strings_Contains Tryz.acS s b c w aj f
def Tryz.Pj:_r:=⟨fun|155=>44|154=>89|138=>34|165=>40|143=>35|166=>8|197=>82|169=>10|195=>81|218=>83|240=>17|241=>87|219=>84|260=>138|276=>38|277=>149|217=>139|225=>140|224=>141|267=>142|266=>189|314=>190|n=>n,fun|9=>9|3=>3|4=>4|72=>49|0=>0|76=>53|105=>153|21=>21|5=>5|70=>46|20=>20|37=>47|75=>52|127=>76|164=>105|46=>176|119=>258|139=>261|138=>260|146=>262|51=>26|80=>56|n=>n,fun|1=>0|3=>1|4=>2|n=>n⟩
theorem Tryz.ak5:Go.Proofs.Lays.n155 _a Tryz.Pj:={
 mixed:=by kernel_rfl
 f138:=Tryz.func34.trans (congrArg some (by kernel_rfl))
 f143:=Tryz.func35.trans (congrArg some (by kernel_rfl))
 f154:=Tryz.func89.trans (congrArg some (by kernel_rfl))
 f155:=Tryz.func44.trans (congrArg some (by kernel_rfl))
 f165:=Tryz.func40.trans (congrArg some (by kernel_rfl))
 f166:=Tryz.func8.trans (congrArg some (by kernel_rfl))
 f169:=Tryz.func10.trans (congrArg some (by kernel_rfl))
 f195:=Tryz.func81.trans (congrArg some (by kernel_rfl))
 f197:=Tryz.func82.trans (congrArg some (by kernel_rfl))
 f217:=Tryz.func139.trans (congrArg some (by kernel_rfl))
 f218:=Tryz.func83.trans (congrArg some (by kernel_rfl))
 f219:=Tryz.func84.trans (congrArg some (by kernel_rfl))
 f224:=Tryz.func141.trans (congrArg some (by kernel_rfl))
 f225:=Tryz.func140.trans (congrArg some (by kernel_rfl))
 f240:=Tryz.func17.trans (congrArg some (by kernel_rfl))
 f241:=Tryz.func87.trans (congrArg some (by kernel_rfl))
 f260:=Tryz.func138.trans (congrArg some (by kernel_rfl))
 f266:=Tryz.func189.trans (congrArg some (by kernel_rfl))
 f267:=Tryz.func142.trans (congrArg some (by kernel_rfl))
 f276:=Tryz.func38.trans (congrArg some (by kernel_rfl))
 f277:=Tryz.func149.trans (congrArg some (by kernel_rfl))
 f314:=Tryz.func190.trans (congrArg some (by kernel_rfl))
 t0:=_v
 a0:=_Q
 z0:=_K
 v0:=_z
 t3:=_g
 a3:=_D
 z3:=_y
 v3:=_j
 t4:=_f
 a4:=_C
 z4:=_x
 v4:=_i
 t5:=_c
 a5:=_q
 z5:=_k
 v5:=_d
 t9:=_e
 a9:=_B
 z9:=_w
 v9:=_h
 t20:=_p
 a20:=_N
 z20:=_G
 v20:=_u
 t21:=Tryz.underlying21
 a21:=Tryz.isAgg21
 z21:=Tryz.sizeOf21
 v21:=Tryz.zeroValue21
 t37:=_n
 a37:=_L
 z37:=_E
 v37:=_s
 t46:=_l
 a46:=_H
 z46:=_A
 v46:=_m
 t51:=_o
 a51:=_M
 z51:=_F
 v51:=_t
 t70:=Tryz.underlying46
 a70:=Tryz.isAgg46
 z70:=Tryz.sizeOf46
 v70:=Tryz.zeroValue46
 t72:=Tryz.underlying49
 a72:=Tryz.isAgg49
 z72:=Tryz.sizeOf49
 v72:=Tryz.zeroValue49
 t75:=_J
 a75:=_V
 z75:=_T
 v75:=_P
 t76:=Tryz.underlying53
 a76:=Tryz.isAgg53
 z76:=Tryz.sizeOf53
 v76:=Tryz.zeroValue53
 t105:=Tryz.underlying153
 a105:=Tryz.isAgg153
 z105:=Tryz.sizeOf153
 v105:=Tryz.zeroValue153
 t119:=Tryz.underlying258
 a119:=Tryz.isAgg258
 z119:=Tryz.sizeOf258
 t127:=_I
 a127:=_U
 z127:=_S
 v127:=_O
 t138:=Tryz.underlying260
 a138:=Tryz.isAgg260
 z138:=Tryz.sizeOf260
 v138:=Tryz.zeroValue260
 t139:=Tryz.underlying261
 a139:=Tryz.isAgg261
 z139:=Tryz.sizeOf261
 v139:=Tryz.zeroValue261
 t146:=_0
 a146:=Tryz.isAgg262
 z146:=Tryz.sizeOf262
 v146:=_7
 t164:=_3
 a164:=Tryz.isAgg105
 z164:=Tryz.sizeOf105
 v164:=Tryz.zeroValue105
 g1:=by kernel_rfl
 g3:=by kernel_rfl
 g4:=by kernel_rfl}
theorem Tryz.ac4:Builder.Extra _a Tryz.Pj:={
 sizeBuilder:=by kernel_rfl
 liesBuilder:=by kernel_rfl
 t5:=_c
 a5:=_q
 z5:=_k
 v5:=_d
 infoByte:=by kernel_rfl
 cellsByte:=by kernel_rfl
 sizeByte:=by kernel_rfl
 neB5:=by decide}
open Go.RowKit Go.Lib in
theorem Tryz.strings_ReplaceAll(s cn b:ByteArray)(c:Int)(w:World)(aj:s.size<4294967281)(f:w.cell? ⟨0,0,none⟩=some (.int .i64 c))(h1:1<=cn.size)(g:s.size+Lib.countB s cn*b.size<=140737488355328):
 Calls _a 44 #[.string s,.string cn,.string b] w fun e j=>e=.returned (.string ⟨(Lib.replaceAll s.data.toList cn.data.toList b.data.toList).toArray⟩)/\Below w.heap.size w j:=Any.strings_ReplaceAll Tryz.ak5 Tryz.ac4 s cn b c w aj f h1 g
end Go.Proofs
