/-
  Texts of the proof, put together: ShelfN, FwG, Row, IdA, PlB, IdB, PlC, IdC, ShelfV, PlD, PlE, FwJ, IdR, QG, QO, RowQ, QOb, PQB, WQB, PVa, WVa, PVb, WVb, PVc.
-/
import Derived.Test.YtfobhhegpkinaaaGreatDoorOT1
import Derived.Shelf.Strconv.Itoa3
import Derived.Shelf.LaysM
import Derived.Shelf.LaysC
import Derived.Shelf.Strconv.AtoiAll
import Derived.Shelf.Strconv.ErrVarAll
import Derived.Test.YtfobhhegpkinaaaGreatDoorProg
import Derived.Lib.SmallJoins
import Derived.Lib.AppendIntMem
import Derived.Lib.TrailingZeros
import Derived.Lib.LaidTab
import Derived.Test.YtfobhhegpkinaaaGreatDoorCards
import Derived.Test.YtfobhhegpkinaaaGreatDoorTie
import Derived.Carry
import Derived.ChangeSame
import Derived.ProofKit
import Derived.OpenShut
import Derived.Deep.DeepHandedRow
import Derived.Deep.DeepWitnessRowRef
import Derived.Lib.LaidIn
import Derived.Stop.LaidErr
import Derived.Lib.Bytealg
import Derived.Lib.AtoiAllCases
import Derived.Lib.ItoaNum
import Derived.Lib.ItoaLen
import Derived.Shelf.Strings.Builder1
import Derived.Shelf.Strings.Count
import Derived.Shelf.Strings.Search1
import Derived.Shelf.Strings.Search2
import Derived.Shelf.Strings.Search3
import Derived.Shelf.Small.Strs
import Derived.Lib.ItoaMem
import Derived.Deep.Slices
import Derived.ChangeArms
import Derived.DataReads
import Derived.Test.YtfobhhegpkinaaaGreatDoorRows
import Derived.Laws.Tables
namespace Go.Proofs
open Go.Shelf
def Tryz.laysM171_ren:Go.Shelf.Ren:=⟨fun | 171=>79 | 243=>109 | 246=>141 | 283=>170 | 284=>171 | 285=>172 | 286=>173 | 129=>140 | 317=>193 | 318=>194 | 319=>195 | 320=>196 | 337=>203 | 338=>204 | n=>n,fun | 3=>3 | 9=>9 | 2=>2 | 4=>4 | 171=>204 | 0=>0 | 53=>179 | 37=>144 | 5=>5 | 173=>206 | 212=>225 | 51=>158 | 20=>20 | 213=>226 | 46=>134 | 232=>238 | 233=>239 | n=>n,fun | 17=>0 | 18=>4 | 19=>5 | n=>n⟩
theorem Tryz.laysM171:Go.Proofs.LaysM.n171 Tryz.prog Tryz.laysM171_ren:={
 mixed:=by kernel_rfl
 f129:=Tryz.func140.trans (congrArg some (by kernel_rfl))
 f171:=Tryz.func79.trans (congrArg some (by kernel_rfl))
 f243:=Tryz.func109.trans (congrArg some (by kernel_rfl))
 f246:=Tryz.func141.trans (congrArg some (by kernel_rfl))
 f283:=Tryz.func170.trans (congrArg some (by kernel_rfl))
 f284:=Tryz.func171.trans (congrArg some (by kernel_rfl))
 f285:=Tryz.func172.trans (congrArg some (by kernel_rfl))
 f286:=Tryz.func173.trans (congrArg some (by kernel_rfl))
 f317:=Tryz.func193.trans (congrArg some (by kernel_rfl))
 f318:=Tryz.func194.trans (congrArg some (by kernel_rfl))
 f319:=Tryz.func195.trans (congrArg some (by kernel_rfl))
 f320:=Tryz.func196.trans (congrArg some (by kernel_rfl))
 f337:=Tryz.func203.trans (congrArg some (by kernel_rfl))
 f338:=Tryz.func204.trans (congrArg some (by kernel_rfl))
 t0:=Tryz.underlying0
 a0:=Tryz.isAgg0
 z0:=Tryz.sizeOf0
 v0:=Tryz.zeroValue0
 t2:=Tryz.underlying2
 a2:=Tryz.isAgg2
 z2:=Tryz.sizeOf2
 v2:=Tryz.zeroValue2
 t3:=Tryz.underlying3
 a3:=Tryz.isAgg3
 z3:=Tryz.sizeOf3
 v3:=Tryz.zeroValue3
 t4:=Tryz.underlying4
 a4:=Tryz.isAgg4
 z4:=Tryz.sizeOf4
 v4:=Tryz.zeroValue4
 t5:=Tryz.underlying5
 a5:=Tryz.isAgg5
 z5:=Tryz.sizeOf5
 v5:=Tryz.zeroValue5
 t9:=Tryz.underlying9
 a9:=Tryz.isAgg9
 z9:=Tryz.sizeOf9
 v9:=Tryz.zeroValue9
 t20:=Tryz.underlying20
 a20:=Tryz.isAgg20
 z20:=Tryz.sizeOf20
 v20:=Tryz.zeroValue20
 t37:=Tryz.underlying144
 a37:=Tryz.isAgg144
 z37:=Tryz.sizeOf144
 v37:=Tryz.zeroValue144
 t46:=Tryz.underlying134
 a46:=Tryz.isAgg134
 z46:=Tryz.sizeOf134
 v46:=Tryz.zeroValue134
 t51:=Tryz.underlying158
 a51:=Tryz.isAgg158
 z51:=Tryz.sizeOf158
 v51:=Tryz.zeroValue158
 t53:=Tryz.underlying179
 a53:=Tryz.isAgg179
 z53:=Tryz.sizeOf179
 v53:=Tryz.zeroValue179
 t171:=Tryz.underlying204
 a171:=Tryz.isAgg204
 z171:=Tryz.sizeOf204
 v171:=Tryz.zeroValue204
 t173:=Tryz.underlying206
 a173:=Tryz.isAgg206
 z173:=Tryz.sizeOf206
 v173:=Tryz.zeroValue206
 t212:=Tryz.underlying225
 a212:=Tryz.isAgg225
 z212:=Tryz.sizeOf225
 v212:=Tryz.zeroValue225
 t213:=Tryz.underlying226
 a213:=Tryz.isAgg226
 z213:=Tryz.sizeOf226
 t232:=Tryz.underlying238
 a232:=Tryz.isAgg238
 z232:=Tryz.sizeOf238
 v232:=Tryz.zeroValue238
 t233:=Tryz.underlying239
 a233:=Tryz.isAgg239
 z233:=Tryz.sizeOf239
 v233:=Tryz.zeroValue239
 g17:=by kernel_rfl
 g18:=by kernel_rfl
 g19:=by kernel_rfl
 i0:=by kernel_rfl
 i2:=by kernel_rfl
 i3:=by kernel_rfl
 i4:=by kernel_rfl
 i5:=by kernel_rfl
 i9:=by kernel_rfl
 i20:=by kernel_rfl
 i37:=by kernel_rfl
 i46:=by kernel_rfl
 i51:=by kernel_rfl
 i53:=by kernel_rfl
 i171:=by kernel_rfl
 i173:=by kernel_rfl
 i212:=by kernel_rfl
 i232:=by kernel_rfl
 i233:=by kernel_rfl
 m17:=by kernel_rfl
 m18:=by kernel_rfl
 m19:=by kernel_rfl }
open Go.RowKit Go.Sort Go.Lib in
theorem Tryz.strconv_Itoa (n : Int) (h0 : -9223372036854775808 ≤ n) (h1 : n ≤ 9223372036854775807) (w : World) (htab : Lib.TabIs Tryz.prog w "internal/strconv.uint64pow10" .u64 Lib.pow10Tab) :
  Calls Tryz.prog 79 #[.int .i64 n] w λe w'=>e = .returned (.string ⟨(Lib.itoa n).toArray⟩)∧∃k os,w'=grow (w.drewN k) os:=Any.strconv_Itoa Tryz.laysM171 n h0 h1 w htab
def Tryz.laysC172_ren:Go.Shelf.Ren:=⟨fun | 172=>124 | 244=>157 | 245=>158 | 247=>179 | 279=>180 | 280=>181 | 281=>182 | 282=>183 | 287=>199 | 316=>200 | 171=>79 | 205=>201 | 321=>209 | 322=>210 | 243=>109 | 246=>141 | 283=>170 | 284=>171 | 285=>172 | 286=>173 | 129=>140 | 317=>193 | 318=>194 | 319=>195 | 320=>196 | 337=>203 | 338=>204 | n=>n,fun | 9=>9 | 3=>3 | 75=>161 | 76=>162 | 4=>4 | 5=>5 | 167=>209 | 37=>144 | 0=>0 | 85=>210 | 2=>2 | 168=>212 | 53=>179 | 175=>229 | 46=>134 | 210=>232 | 127=>185 | 145=>237 | 143=>235 | 21=>21 | 171=>204 | 173=>206 | 212=>225 | 51=>158 | 20=>20 | 213=>226 | 232=>238 | 233=>239 | 80=>148 | n=>n,fun | 15=>2 | 16=>3 | 17=>0 | 18=>4 | 19=>5 | n=>n⟩
theorem Tryz.laysC172:Go.Proofs.LaysC.n172 Tryz.prog Tryz.laysC172_ren:={
 mixed:=by kernel_rfl
 f129:=Tryz.func140.trans (congrArg some (by kernel_rfl))
 f171:=Tryz.func79.trans (congrArg some (by kernel_rfl))
 f172:=Tryz.func124.trans (congrArg some (by kernel_rfl))
 f205:=Tryz.func201.trans (congrArg some (by kernel_rfl))
 f243:=Tryz.func109.trans (congrArg some (by kernel_rfl))
 f244:=Tryz.func157.trans (congrArg some (by kernel_rfl))
 f245:=Tryz.func158.trans (congrArg some (by kernel_rfl))
 f246:=Tryz.func141.trans (congrArg some (by kernel_rfl))
 f247:=Tryz.func179.trans (congrArg some (by kernel_rfl))
 f279:=Tryz.func180.trans (congrArg some (by kernel_rfl))
 f280:=Tryz.func181.trans (congrArg some (by kernel_rfl))
 f281:=Tryz.func182.trans (congrArg some (by kernel_rfl))
 f282:=Tryz.func183.trans (congrArg some (by kernel_rfl))
 f283:=Tryz.func170.trans (congrArg some (by kernel_rfl))
 f284:=Tryz.func171.trans (congrArg some (by kernel_rfl))
 f285:=Tryz.func172.trans (congrArg some (by kernel_rfl))
 f286:=Tryz.func173.trans (congrArg some (by kernel_rfl))
 f287:=Tryz.func199.trans (congrArg some (by kernel_rfl))
 f316:=Tryz.func200.trans (congrArg some (by kernel_rfl))
 f317:=Tryz.func193.trans (congrArg some (by kernel_rfl))
 f318:=Tryz.func194.trans (congrArg some (by kernel_rfl))
 f319:=Tryz.func195.trans (congrArg some (by kernel_rfl))
 f320:=Tryz.func196.trans (congrArg some (by kernel_rfl))
 f321:=Tryz.func209.trans (congrArg some (by kernel_rfl))
 f322:=Tryz.func210.trans (congrArg some (by kernel_rfl))
 f337:=Tryz.func203.trans (congrArg some (by kernel_rfl))
 f338:=Tryz.func204.trans (congrArg some (by kernel_rfl))
 t0:=Tryz.underlying0
 a0:=Tryz.isAgg0
 z0:=Tryz.sizeOf0
 v0:=Tryz.zeroValue0
 t2:=Tryz.underlying2
 a2:=Tryz.isAgg2
 z2:=Tryz.sizeOf2
 v2:=Tryz.zeroValue2
 t3:=Tryz.underlying3
 a3:=Tryz.isAgg3
 z3:=Tryz.sizeOf3
 v3:=Tryz.zeroValue3
 t4:=Tryz.underlying4
 a4:=Tryz.isAgg4
 z4:=Tryz.sizeOf4
 v4:=Tryz.zeroValue4
 t5:=Tryz.underlying5
 a5:=Tryz.isAgg5
 z5:=Tryz.sizeOf5
 v5:=Tryz.zeroValue5
 t9:=Tryz.underlying9
 a9:=Tryz.isAgg9
 z9:=Tryz.sizeOf9
 v9:=Tryz.zeroValue9
 t20:=Tryz.underlying20
 a20:=Tryz.isAgg20
 z20:=Tryz.sizeOf20
 v20:=Tryz.zeroValue20
 t21:=Tryz.underlying21
 a21:=Tryz.isAgg21
 z21:=Tryz.sizeOf21
 v21:=Tryz.zeroValue21
 t37:=Tryz.underlying144
 a37:=Tryz.isAgg144
 z37:=Tryz.sizeOf144
 v37:=Tryz.zeroValue144
 t46:=Tryz.underlying134
 a46:=Tryz.isAgg134
 z46:=Tryz.sizeOf134
 v46:=Tryz.zeroValue134
 t51:=Tryz.underlying158
 a51:=Tryz.isAgg158
 z51:=Tryz.sizeOf158
 v51:=Tryz.zeroValue158
 t53:=Tryz.underlying179
 a53:=Tryz.isAgg179
 z53:=Tryz.sizeOf179
 v53:=Tryz.zeroValue179
 t75:=Tryz.underlying161
 a75:=Tryz.isAgg161
 z75:=Tryz.sizeOf161
 v75:=Tryz.zeroValue161
 t76:=Tryz.underlying162
 a76:=Tryz.isAgg162
 z76:=Tryz.sizeOf162
 v76:=Tryz.zeroValue162
 t85:=Tryz.underlying210
 a85:=Tryz.isAgg210
 z85:=Tryz.sizeOf210
 v85:=Tryz.zeroValue210
 t127:=Tryz.underlying185
 a127:=Tryz.isAgg185
 z127:=Tryz.sizeOf185
 v127:=Tryz.zeroValue185
 t143:=Tryz.underlying235
 a143:=Tryz.isAgg235
 z143:=Tryz.sizeOf235
 v143:=Tryz.zeroValue235
 t145:=Tryz.underlying237
 a145:=Tryz.isAgg237
 z145:=Tryz.sizeOf237
 v145:=Tryz.zeroValue237
 t167:=Tryz.underlying209
 a167:=Tryz.isAgg209
 z167:=Tryz.sizeOf209
 v167:=Tryz.zeroValue209
 t168:=Tryz.underlying212
 a168:=Tryz.isAgg212
 z168:=Tryz.sizeOf212
 v168:=Tryz.zeroValue212
 t171:=Tryz.underlying204
 a171:=Tryz.isAgg204
 z171:=Tryz.sizeOf204
 v171:=Tryz.zeroValue204
 t173:=Tryz.underlying206
 a173:=Tryz.isAgg206
 z173:=Tryz.sizeOf206
 v173:=Tryz.zeroValue206
 t175:=Tryz.underlying229
 a175:=Tryz.isAgg229
 z175:=Tryz.sizeOf229
 v175:=Tryz.zeroValue229
 t210:=Tryz.underlying232
 a210:=Tryz.isAgg232
 z210:=Tryz.sizeOf232
 v210:=Tryz.zeroValue232
 t212:=Tryz.underlying225
 a212:=Tryz.isAgg225
 z212:=Tryz.sizeOf225
 v212:=Tryz.zeroValue225
 t213:=Tryz.underlying226
 a213:=Tryz.isAgg226
 z213:=Tryz.sizeOf226
 t232:=Tryz.underlying238
 a232:=Tryz.isAgg238
 z232:=Tryz.sizeOf238
 v232:=Tryz.zeroValue238
 t233:=Tryz.underlying239
 a233:=Tryz.isAgg239
 z233:=Tryz.sizeOf239
 v233:=Tryz.zeroValue239
 g15:=by kernel_rfl
 g16:=by kernel_rfl
 g17:=by kernel_rfl
 g18:=by kernel_rfl
 g19:=by kernel_rfl
 t80:=Tryz.underlying148
 a80:=Tryz.isAgg148
 z80:=Tryz.sizeOf148
 v80:=Tryz.zeroValue148
 i0:=by kernel_rfl
 i2:=by kernel_rfl
 i3:=by kernel_rfl
 i4:=by kernel_rfl
 i5:=by kernel_rfl
 i9:=by kernel_rfl
 i20:=by kernel_rfl
 i21:=by kernel_rfl
 i37:=by kernel_rfl
 i46:=by kernel_rfl
 i51:=by kernel_rfl
 i53:=by kernel_rfl
 i75:=by kernel_rfl
 i76:=by kernel_rfl
 i80:=by kernel_rfl
 i85:=by kernel_rfl
 i127:=by kernel_rfl
 i143:=by kernel_rfl
 i145:=by kernel_rfl
 i167:=by kernel_rfl
 i168:=by kernel_rfl
 i171:=by kernel_rfl
 i173:=by kernel_rfl
 i175:=by kernel_rfl
 i210:=by kernel_rfl
 i212:=by kernel_rfl
 i232:=by kernel_rfl
 i233:=by kernel_rfl
 m15:=by kernel_rfl
 m16:=by kernel_rfl
 m17:=by kernel_rfl
 m18:=by kernel_rfl
 m19:=by kernel_rfl
 c0:=by kernel_rfl
 c2:=by kernel_rfl
 c3:=by kernel_rfl
 c4:=by kernel_rfl
 c5:=by kernel_rfl
 c9:=by kernel_rfl
 c20:=by kernel_rfl
 c21:=by kernel_rfl
 c37:=by kernel_rfl
 c46:=by kernel_rfl
 c51:=by kernel_rfl
 c53:=by kernel_rfl
 c75:=by kernel_rfl
 c76:=by kernel_rfl
 c80:=by kernel_rfl
 c85:=by kernel_rfl
 c127:=by kernel_rfl
 c143:=by kernel_rfl
 c145:=by kernel_rfl
 c167:=by kernel_rfl
 c168:=by kernel_rfl
 c171:=by kernel_rfl
 c173:=by kernel_rfl
 c175:=by kernel_rfl
 c210:=by kernel_rfl
 c212:=by kernel_rfl
 c213:=by kernel_rfl
 c232:=by kernel_rfl
 c233:=by kernel_rfl }
open Go.RowKit in
theorem Tryz.strconv_Atoi_ok (s:ByteArray)(hmax:s.size≤9223372036854775806)(v:Int)(h:Lib.atoiAll s.data.toList = .ok v)(w:World) :
  Calls Tryz.prog 124 #[.string s] w λe w'=>e = .returned (.tuple #[.int .i64 v,.nilIface])∧(w'=w∨∃t,w'=Lib.bytesWorld w 5 t):=Any.strconv_Atoi_ok Tryz.laysC172 s hmax v h w
open Go.RowKit in
theorem Tryz.strconv_Atoi_range_var (s : ByteArray) (hlim : s.size ≤ 281474976710656) (h : Lib.atoiAll s.data.toList = .range) (tp : TypeId) (p : Value) (w : World) (hvar : w.var? Tryz.prog "strconv.ErrRange" = some #[.iface tp p]) :
  Calls Tryz.prog 124 #[.string s] w λe w'=>∃N,e = .returned (.tuple #[.int .i64 (Lib.atoiSat s.data.toList),.iface 212 (.pointer (some ⟨N,0,none⟩))])∧w.heap.size≤N∧w'.heap[N]? =some (.cells #[.string ⟨#[65,116,111,105]⟩,.string s,.iface tp p] 232 (0,0))∧Below w.heap.size w w':=Any.strconv_Atoi_range_var Tryz.laysC172 s hlim h tp p w hvar
end Go.Proofs
namespace Go.Proofs.YtfobhhegpkinaaaGreatDoor
open Go Go.RowKit
set_option linter.unusedVariables false
noncomputable def KW:Nat:=Nat.max (Nat.max 0 3) 5+1
def Zc:List Int:=Lib.deBruijn64tab.map Int.ofNat
structure QX (w:World):Prop where
 pow : Lib.TabIs Tryz.prog w "internal/strconv.uint64pow10" .u64 Lib.pow10Tab
 tz : Lib.TabIs Tryz.prog w "math/bits.deBruijn64tab" .u8 Zc
 rng : ∃ tp p, w.var? Tryz.prog "strconv.ErrRange" = some #[.iface tp p]
theorem ZJ : Tryz.prog.globalNamed "internal/strconv.uint64pow10" = some 0 := by kernel_rfl
theorem ZI : Tryz.prog.globalNamed "strconv.ErrRange" = some 3 := by kernel_rfl
theorem gTz : Tryz.prog.globalNamed "math/bits.deBruijn64tab" = some 5 := by kernel_rfl
theorem WX:5<KW:=by decide +kernel
theorem Vk:0<KW:=by decide +kernel
theorem Vj:3<KW:=by decide +kernel
theorem QX.block (w w':World)(h:∀k,k<KW→w'.heap[k]? =w.heap[k]?)(hT:QX w):QX w':=by
 obtain⟨tp,p,hr⟩:=hT.rng;have hp:=hT.pow;have hz:=hT.tz;unfold Lib.TabIs at hp hz;refine⟨?_,?_,tp,p,?_⟩
 ·unfold Lib.TabIs;unfold World.var? at hp ⊢;rw[ZJ] at hp ⊢;simp only[Option.bind_some] at hp ⊢;rw[h _ Vk];exact hp
 ·unfold Lib.TabIs;unfold World.var? at hz ⊢;rw[gTz] at hz ⊢;simp only[Option.bind_some] at hz ⊢;rw[h _ WX];exact hz
 ·unfold World.var? at hr ⊢;rw[ZI] at hr ⊢;simp only[Option.bind_some] at hr ⊢;rw[h _ Vj];exact hr
def XI (w:World)(M:List Nat):Prop:=KW≤w.heap.size∧∀k∈M,KW≤k
theorem QX.st {w0 w:World}{M:List Nat}{H:List Ent}(hT:QX w0)(hG:XI w0 M)(hw:St w0 M H w):QX w:=
 QX.block w0 w (λk hk=>hw.old k (Nat.lt_of_lt_of_le hk hG.1) (λhm=>by have:=hG.2 k hm;omega)) hT
theorem XI.nil {w:World}(h:KW≤w.heap.size):XI w []:=⟨h,by simp⟩
theorem XI.st {w0 w:World}{M:List Nat}{H:List Ent}(hG:XI w0 M)(hw:St w0 M H w):KW≤w.heap.size:=Nat.le_trans hG.1 hw.size
structure Ty (w:World):Prop where
 tabs:QX w
 size:KW≤w.heap.size
theorem Ty.st {w0 w:World}{M:List Nat}{H:List Ent}(hE:Ty w0)(hM:∀k∈M,KW≤k)(hw:St w0 M H w):Ty w:=
 ⟨hE.tabs.st ⟨hE.size,hM⟩ hw,Nat.le_trans hE.size hw.size⟩
theorem Ty.st0 {w0 w:World}{H:List Ent}(hE:Ty w0)(hw:St w0 [] H w):Ty w:=hE.st (by simp) hw
theorem T0 (p:List UInt8):(B p).data.toList=p:=by simp[B]
theorem Xl (m:Int)(h0 : -9223372036854775808≤m)(h1:m≤9223372036854775807)(w:World)(hE:Ty w):Calls Tryz.prog 79 [.int .i64 m].toArray w (HB w (.string (B (Lib.itoa m)))):=
 (Tryz.strconv_Itoa m h0 h1 w hE.tabs.pow).mono λe w' ⟨he,k,os,hw⟩=>⟨he,by rw[hw];exact St.of_below (Lib.below_grow _ _ (AbI _) _ _)⟩
theorem YV (p:List UInt8)(hp:p.length≤281474976710656)(v:Int)(h:Lib.atoiAll p = .ok v)(w:World):Calls Tryz.prog 124 [.string (B p)].toArray w (HB w (.tuple #[.int .i64 v,.nilIface])):=
 (Tryz.strconv_Atoi_ok (B p) (by rw[DB];omega) v (by rw[T0];exact h) w).mono λe w' ⟨he,hw⟩=>⟨he,by
  rcases hw with rfl | ⟨t,rfl⟩
  ·exact St.refl _ _
  ·exact St.of_below (Joins.below_bytesWorld _ _ _ _ (AbI _))⟩
theorem Tx (p:List UInt8)(hp:p.length≤281474976710656)(h:Lib.atoiAll p = .range)(w:World)(hE:Ty w) :
  Calls Tryz.prog 124 [.string (B p)].toArray w (VJ w [] (λv H=>∃m t b,v = .tuple #[.int .i64 m,.iface t b]∧H=[])):=by
 obtain⟨tp,q,hr⟩:=hE.tabs.rng;exact(Tryz.strconv_Atoi_range_var (B p) (by rw[DB];omega) (by rw[T0];exact h) tp q w hr).mono λe w' ⟨N,he,_,_,hb⟩=>⟨_,_,he,St.of_below hb,_,_,_,rfl,rfl⟩
open Go Go.ChangeShapes Go.WideShapes Go.ChangeAt Go.RowKit Go.WideElems
theorem own:ownKnob Tryz.prog.godebug=none:=by kernel_rfl
theorem Y6:laidOutB Tryz.prog=true:=by kernel_rfl
section
variable {H : Type} {enc : TypeId × Value → H} {P : Program}
theorem KP (hl:laidOutB P=true){W W':World}(hb:Below W.heap.size W W'){sp:Nat→Bool}:∀{ts:List TypeId} {vs:List Value} {ds:List (DataW H)} {ps:List MemPlace},ts.all (λt=>P.readableRec t&&decide (t<P.types.size))=true→
  DataW.TrodAll enc P W 0 (λ_=>true) true ts vs ds ps→(∀p∈ps,p.block<W.heap.size)→(∀p∈ps,sp p.block=true)→DataW.TrodAll enc P W' 0 sp true ts vs ds ps
 | [],[],[],_,_,h,_,_=>h
 | [],_::_,_,_,_,h,_,_=>h.elim
 | [],[],_::_,_,_,h,_,_=>h.elim
 | _::_,[],_,_,_,h,_,_=>h.elim
 | _::_,_::_,[],_,_,h,_,_=>h.elim
 | t::ts,v::vs,d::ds,ps,ht,⟨p,q,h1,h2,e⟩,hlt,hs=>by
  simp only[List.all_cons,Abv,Abo] at ht;refine⟨p,q,?_,KP hl hb ht.2 h2 (λx hx=>hlt x (by rw[e];exact List.mem_append_right _ hx)) (λx hx=>hs x (by rw[e];exact List.mem_append_right _ hx)),e⟩;exact Trod_stays hl ht.1.1 ht.1.2 h1 (λx hx=>hb.same (hlt x (by rw[e];exact List.mem_append_left _ hx))) (λx hx=>hs x (by rw[e];exact List.mem_append_left _ hx))
theorem UV (hl:laidOutB P=true){f:Func}{s:ChangeSpec}{apart fresh handsOn:Bool}{W W':World}{args:Array Value}{ds gs:List (DataW H)}{before:List MemPlace}{tb:TypeId}(hp:f.params.toList.all (λt=>P.readableRec t&&decide (t<P.types.size))=true)
  (hv:s.vars=[]) (hr:f.resultTypes = #[tb]) (hb4:P.underlying tb=some .bool) (hW:DataW.Whole enc P f.params.toList s.vars apart W args.toList ds gs before)
  (h1:(s.fn H (ds++gs)).results=[.lit (.bool true)]) (h2:(s.fn H (ds++gs)).args=ds) (h3:(s.fn H (ds++gs)).vars=[]) (hb:Below W.heap.size W W') :
  s.post enc P f apart fresh handsOn false W args (.bool true) W':=by
 have hlt:∀p∈before,p.block<W.heap.size:=λp hp=>hW.lt p hp;have hW':=hW;obtain⟨p,q,hA,hV,hbf,_,_⟩:=hW';have hq:q=[]:=by
  rw[hv] at hV
  cases gs with
  | nil=>exact hV
  | cons _ _=>exact hV.elim
 subst hq;rw[AbZ] at hbf;subst hbf;refine⟨ds,gs,before,[],before,[],hW,?_,?_,?_,World.keptBut_mono (λp hp=>⟨hp,.inr (.inl hp)⟩) (hb.frame (·∈before)),λh=>by cases h⟩
 ·rw[h1,hr];exact trodAll_mk1 (shut_bool hb4 true)
 ·rw[h2];exact KP hl hb hp hA hlt (λx hx=>by simpa using hlt x hx)
 ·rw[hv,h3];exact rfl
end
theorem Tu:Tryz.prog.underlying 4=some .bool:=Tryz.underlying4
def O5 : List (String × DataW Unit) := [("math/bits.deBruijn32tab", Rows.laid_math_bits_deBruijn32tab), ("math/bits.deBruijn64tab", Rows.laid_math_bits_deBruijn64tab), ("internal/strconv.uint64pow10", Rows.laid_internal_strconv_uint64pow10), ("strconv.ErrRange", Rows.laid_strconv_ErrRange), ("strconv.ErrSyntax", Rows.laid_strconv_ErrSyntax)]
theorem Xu:(Tryz.prog.globals[0]?).map (·.type)=some 225:=by kernel_rfl
theorem Xt:(Tryz.prog.globals[3]?).map (·.type)=some 161:=by kernel_rfl
theorem V8:Tryz.prog.cellsOf 179=1:=by kernel_rfl
theorem V9:Tryz.prog.cellsOf 225=20:=by kernel_rfl
theorem YE:(Tryz.prog.globals[5]?).map (·.type)=some 239:=by kernel_rfl
theorem X7:Tryz.prog.cellsOf 5=1:=by kernel_rfl
theorem Sz:Tryz.prog.cellsOf 239=64:=by kernel_rfl
theorem VA:Tryz.prog.cellsOf 9=1:=by kernel_rfl
theorem X8:Tryz.prog.cellsOf 237=1:=by kernel_rfl
theorem Ug : "*" ++ "errors.errorString" = "*errors.errorString" := by decide
theorem ZL (u : TypeId) (h : Tryz.prog.typeName? 3 u = some "*errors.errorString") : u = 235 :=
 typeName_ptr_named (nm := "errors.errorString") (by rw [Ug]; kernel_rfl) (by kernel_rfl) (by decide) u (by rw [Ug]; exact h)
theorem QH {W:World}{n:String}{g:Nat}{cs:Array Value}(hg:Tryz.prog.globalNamed n=some g)(h:W.var? Tryz.prog n=some cs):g<W.heap.size:=by
 unfold World.var? at h;rw[hg] at h;simp only[Option.bind_some] at h
 cases hh:W.heap[g]? with
 | none=>rw[hh] at h;cases h
 | some o=>exact(Array.getElem?_eq_some_iff.1 hh).1
theorem ZM {W:World}(h:laidMet Tryz.prog O5 W):Ty W:=by
 have h2:=laidMet.tail h;have hz : Lib.TabIs Tryz.prog W "math/bits.deBruijn64tab" .u8 Zc := Lib.tabIs_of_head gTz YE Tryz.underlying239 Tryz.underlying5 X7 Sz h2
 have h3:=laidMet.tail h2;have h4:=laidMet.tail h3;have hp : Lib.TabIs Tryz.prog W "internal/strconv.uint64pow10" .u64 Lib.pow10Tab := Lib.tabIs_of_head ZJ Xu Tryz.underlying225 Tryz.underlying179 V8 V9 h3
 obtain⟨a,s,hv,_,_,_⟩:=laid_sentinel h4 ZI Xt Tryz.underlying161 ZL Tryz.underlying235 Tryz.underlying237 rfl rfl Tryz.underlying9 X8 VA;refine⟨⟨hp,hz,_,_,hv⟩,?_⟩;have h1:=QH ZJ hp;have h5:=QH ZI hv;exact Nat.max_lt.2 ⟨Nat.max_lt.2 ⟨h1,h5⟩,QH gTz hz⟩
noncomputable def K2 (os:Os):World:=
 let w0:=World.holding Tryz.prog os ⟨#[],#[],[]⟩
 let put (h:Array Obj) (g:Nat) (cs:Array Value):Array Obj:=h.modify g fun
  | .cells _ t frozen=>.cells cs t frozen
  | o=>o
 let nums (d:DataW Unit):Array Value:=match d with
  | .agg ds=>(ds.map fun | .lit (.int k n)=>Value.int k n | _=>undef).toArray
  | _=>#[]
 let n:=w0.heap.size
 let h1:=put w0.heap 4 (nums Rows.laid_math_bits_deBruijn32tab)
 let h2:=put h1 5 (nums Rows.laid_math_bits_deBruijn64tab)
 let h3:=put h2 0 (nums Rows.laid_internal_strconv_uint64pow10)
 let h4:=put h3 3 #[.iface 235 (.pointer (some ⟨n,0,none⟩))]
 let h5:=put h4 2 #[.iface 235 (.pointer (some ⟨n+1,0,none⟩))]
 let h6:=h5.push (.cells #[.string ⟨#[118,97,108,117,101,32,111,117,116,32,111,102,32,114,97,110,103,101]⟩] 237 (0,0))
 let h7:=h6.push (.cells #[.string ⟨#[105,110,118,97,108,105,100,32,115,121,110,116,97,120]⟩] 237 (0,0))
 { w0 with heap:=h7 }
set_option maxRecDepth 100000 in
theorem Xj (os:Os)(args:Array Value):laidMet Tryz.prog O5 ((K2 os).forCall (λ_ _=>0) ⟨#[],args,[]⟩).memory:=
 laidMet_of_run' 8 (by kernel_rfl) (by kernel_rfl)
set_option linter.unusedSimpArgs false
set_option maxRecDepth 100000
theorem TC (c:Int)(w:World):Calls Tryz.prog 87 [.int .i32 (c)].toArray w (HB w (.bool (Cj c))):=by
 refine DY (n:=9) Tryz.func87 rfl Tryz.ntmps87 rfl (An (Ai (Ax (Az rfl) rfl (Am (Aw (AQ ?_))))));refine AH [(2,.bool (((decide ((97)≤(c)))&&(decide ((c)≤(122))))))] [] (φ:=True) ?_ (λhm1=>?_)
 ·refine Ai (Ax (Aq rfl) rfl (Ax (GH rfl rfl) rfl (Ax (Aq rfl) rfl (AO (decide ((97)≤(c))) (λh1=>?_) (λh1=>?_)))))
  ·have g1:=h1;try simp only[Abo,Abn] at g1
   refine AE rfl rfl h1 (Ax (Aq rfl) rfl (AE rfl rfl h1 (Ax (KL rfl rfl) rfl (Ax (A2 rfl h1 rfl) rfl (Ax (Az rfl) rfl (Am ?_))))));exact Aw (Bt trivial ⟨fb (by simp[h1]),trivial⟩ .slnil)
  ·have g1:=h1;try simp only[Abo,Abn] at g1
   refine A7 rfl rfl h1 rfl (A7 rfl rfl h1 rfl (Ax (A8 rfl h1 rfl) rfl (Ax (Az rfl) rfl (Am ?_))));exact Aw (Bt trivial ⟨fb (by simp[h1]),trivial⟩ .slnil)
 refine A1 (A0 (BJ rfl rfl) ?_);exact Eh (by first | rfl | simp[])
theorem Uh (c:Int)(w:World):Calls Tryz.prog 88 [.int .i32 (c)].toArray w (HB w (.bool (CH c))):=by
 refine DY (n:=9) Tryz.func88 rfl Tryz.ntmps88 rfl (An (Ai (Ax (Az rfl) rfl (Am (Aw (AQ ?_))))));refine AH [(2,.bool (((decide ((48)≤(c)))&&(decide ((c)≤(57))))))] [] (φ:=True) ?_ (λhm3=>?_)
 ·refine Ai (Ax (Aq rfl) rfl (Ax (GH rfl rfl) rfl (Ax (Aq rfl) rfl (AO (decide ((48)≤(c))) (λh3=>?_) (λh3=>?_)))))
  ·have g3:=h3;try simp only[Abo,Abn] at g3
   refine AE rfl rfl h3 (Ax (Aq rfl) rfl (AE rfl rfl h3 (Ax (KL rfl rfl) rfl (Ax (A2 rfl h3 rfl) rfl (Ax (Az rfl) rfl (Am ?_))))));exact Aw (Bt trivial ⟨fb (by simp[h3]),trivial⟩ .slnil)
  ·have g3:=h3;try simp only[Abo,Abn] at g3
   refine A7 rfl rfl h3 rfl (A7 rfl rfl h3 rfl (Ax (A8 rfl h3 rfl) rfl (Ax (Az rfl) rfl (Am ?_))));exact Aw (Bt trivial ⟨fb (by simp[h3]),trivial⟩ .slnil)
 refine A1 (A0 (BJ rfl rfl) ?_);exact Eh (by first | rfl | simp[])
theorem Xi (c:Int)(w:World):Calls Tryz.prog 86 [.int .i32 (c)].toArray w (HB w (.bool (DU c))):=by
 refine DY (n:=37) Tryz.func86 rfl Tryz.ntmps86 rfl (An (Ai (Ax (Az rfl) rfl (Am (Aw (AQ ?_))))));refine AH [(2,.bool (((Cj c)||((CH c)||(bif decide ((65)≤(c)) then((decide ((c)≤(90)))||((decide ((c)=(45)))||((decide ((c)=(95)))||((decide ((c)=(46)))||((decide ((c)=(58)))||(decide ((c)=(47)))))))) else((decide ((c)=(45)))||((decide ((c)=(95)))||((decide ((c)=(46)))||((decide ((c)=(58)))||(decide ((c)=(47))))))))))))] [] (φ:=True) ?_ (λhn=>?_)
 ·refine Ai (Ax (Aq rfl) rfl (Cm Tryz.call87 rfl (λw hw=>TC c w) rfl (Ax (Aq rfl) rfl (AO (Cj c) (λh5=>?_) (λh5=>?_)))))
  ·have g5:=h5;try simp only[Abo,Abn] at g5
   refine A7 rfl rfl h5 rfl (A7 rfl rfl h5 rfl (Ax (A2 rfl h5 rfl) rfl (Ax (Aq rfl) rfl (A7 rfl rfl rfl rfl (A7 rfl rfl rfl rfl (A7 rfl rfl rfl rfl (Cs rfl rfl rfl (Cs rfl rfl rfl (A7 rfl rfl rfl rfl (Ax (A2 rfl rfl rfl) rfl (Ax (Aq rfl) rfl (A7 rfl rfl rfl rfl (A7 rfl rfl rfl rfl (Ax (A2 rfl rfl rfl) rfl (Ax (Aq rfl) rfl (A7 rfl rfl rfl rfl (A7 rfl rfl rfl rfl (Ax (A2 rfl rfl rfl) rfl (Ax (Aq rfl) rfl (A7 rfl rfl rfl rfl (A7 rfl rfl rfl rfl (Ax (A2 rfl rfl rfl) rfl (Ax (Aq rfl) rfl ?_)))))))))))))))))))))));refine A7 rfl rfl rfl rfl (A7 rfl rfl rfl rfl (Ax (A2 rfl rfl rfl) rfl (Ax (Aq rfl) rfl (A7 rfl rfl rfl rfl (A7 rfl rfl rfl rfl (Ax (A2 rfl rfl rfl) rfl (Ax (Az rfl) rfl (Am ?_))))))));exact Aw (Bt trivial ⟨fb (by simp[h5]),trivial⟩ .slnil)
  ·have g5:=h5;try simp only[Abo,Abn] at g5
   refine AE rfl rfl h5 (Ax (Aq rfl) rfl (AE rfl rfl h5 (Cm Tryz.call88 rfl (λw hw=>Uh c w) rfl (Ax (A8 rfl h5 rfl) rfl (Ax (Aq rfl) rfl (AO (CH c) (λh6=>?_) (λh6=>?_)))))))
   ·have g6:=h6;try simp only[Abo,Abn] at g6
    refine A7 rfl rfl h6 rfl (A7 rfl rfl h6 rfl (A7 rfl rfl h6 rfl (Cs rfl rfl rfl (Cs rfl rfl rfl (A7 rfl rfl h6 rfl (Ax (A2 rfl h6 rfl) rfl (Ax (Aq rfl) rfl (A7 rfl rfl rfl rfl (A7 rfl rfl rfl rfl (Ax (A2 rfl rfl rfl) rfl (Ax (Aq rfl) rfl (A7 rfl rfl rfl rfl (A7 rfl rfl rfl rfl (Ax (A2 rfl rfl rfl) rfl (Ax (Aq rfl) rfl (A7 rfl rfl rfl rfl (A7 rfl rfl rfl rfl (Ax (A2 rfl rfl rfl) rfl (Ax (Aq rfl) rfl (A7 rfl rfl rfl rfl (A7 rfl rfl rfl rfl (Ax (A2 rfl rfl rfl) rfl (Ax (Aq rfl) rfl ?_)))))))))))))))))))))));refine A7 rfl rfl rfl rfl (A7 rfl rfl rfl rfl (Ax (A2 rfl rfl rfl) rfl (Ax (Az rfl) rfl (Am ?_))));exact Aw (Bt trivial ⟨fb (by simp[h5,h6]),trivial⟩ .slnil)
   ·have g6:=h6;try simp only[Abo,Abn] at g6
    refine AE rfl rfl h6 (Ax (Aq rfl) rfl (AE rfl rfl h6 (Ax (GH rfl rfl) rfl (AE rfl rfl h6 (Ax (Aq rfl) rfl (AO (decide ((65)≤(c))) (λh7=>?_) (λh7=>?_)))))))
    ·have g7:=h7;try simp only[Abo,Abn] at g7
     refine AE rfl rfl h7 (Ax (Aq rfl) rfl (AE rfl rfl h7 (Ax (KL rfl rfl) rfl (AE rfl rfl h6 (Ax (A2 rfl h7 rfl) rfl (Ax (A8 rfl h6 rfl) rfl (Ax (Aq rfl) rfl (AO (decide ((c)≤(90))) (λh8=>?_) (λh8=>?_)))))))))
     ·have g8:=h8;try simp only[Abo,Abn] at g8
      refine A7 rfl rfl h8 rfl (A7 rfl rfl h8 rfl (Ax (A2 rfl h8 rfl) rfl (Ax (Aq rfl) rfl (A7 rfl rfl rfl rfl (A7 rfl rfl rfl rfl (Ax (A2 rfl rfl rfl) rfl (Ax (Aq rfl) rfl (A7 rfl rfl rfl rfl (A7 rfl rfl rfl rfl (Ax (A2 rfl rfl rfl) rfl (Ax (Aq rfl) rfl (A7 rfl rfl rfl rfl (A7 rfl rfl rfl rfl (Ax (A2 rfl rfl rfl) rfl (Ax (Aq rfl) rfl (A7 rfl rfl rfl rfl (A7 rfl rfl rfl rfl (Ax (A2 rfl rfl rfl) rfl (Ax (Az rfl) rfl (Am ?_))))))))))))))))))));exact Aw (Bt trivial ⟨fb (by simp[h5,h6,h7,h8]),trivial⟩ .slnil)
     ·have g8:=h8;try simp only[Abo,Abn] at g8
      refine AE rfl rfl h8 (Ax (Aq rfl) rfl (AE rfl rfl h8 (Ax (B5 rfl rfl) rfl (Ax (A8 rfl h8 rfl) rfl (Ax (Aq rfl) rfl (AO (decide ((c)=(45))) (λh9=>?_) (λh9=>?_)))))))
      ·have g9:=h9;try simp only[Abo,Abn] at g9
       refine A7 rfl rfl h9 rfl (A7 rfl rfl h9 rfl (Ax (A2 rfl h9 rfl) rfl (Ax (Aq rfl) rfl (A7 rfl rfl rfl rfl (A7 rfl rfl rfl rfl (Ax (A2 rfl rfl rfl) rfl (Ax (Aq rfl) rfl (A7 rfl rfl rfl rfl (A7 rfl rfl rfl rfl (Ax (A2 rfl rfl rfl) rfl (Ax (Aq rfl) rfl (A7 rfl rfl rfl rfl (A7 rfl rfl rfl rfl (Ax (A2 rfl rfl rfl) rfl (Ax (Az rfl) rfl (Am ?_))))))))))))))));exact Aw (Bt trivial ⟨fb (by simp[h5,h6,h7,h8,h9]),trivial⟩ .slnil)
      ·have g9:=h9;try simp only[Abo,Abn] at g9
       refine AE rfl rfl h9 (Ax (Aq rfl) rfl (AE rfl rfl h9 (Ax (B5 rfl rfl) rfl (Ax (A8 rfl h9 rfl) rfl (Ax (Aq rfl) rfl (AO (decide ((c)=(95))) (λhb=>?_) (λhb=>?_)))))))
       ·have hi:=hb;try simp only[Abo,Abn] at hi
        refine A7 rfl rfl hb rfl (A7 rfl rfl hb rfl (Ax (A2 rfl hb rfl) rfl (Ax (Aq rfl) rfl (A7 rfl rfl rfl rfl (A7 rfl rfl rfl rfl (Ax (A2 rfl rfl rfl) rfl (Ax (Aq rfl) rfl (A7 rfl rfl rfl rfl (A7 rfl rfl rfl rfl (Ax (A2 rfl rfl rfl) rfl (Ax (Az rfl) rfl (Am ?_))))))))))));exact Aw (Bt trivial ⟨fb (by simp[h5,h6,h7,h8,h9,hb]),trivial⟩ .slnil)
       ·have hi:=hb;try simp only[Abo,Abn] at hi
        refine AE rfl rfl hb (Ax (Aq rfl) rfl (AE rfl rfl hb (Ax (B5 rfl rfl) rfl (Ax (A8 rfl hb rfl) rfl (Ax (Aq rfl) rfl (AO (decide ((c)=(46))) (λhe=>?_) (λhe=>?_)))))))
        ·have hj:=he;try simp only[Abo,Abn] at hj
         refine A7 rfl rfl he rfl (A7 rfl rfl he rfl (Ax (A2 rfl he rfl) rfl (Ax (Aq rfl) rfl (A7 rfl rfl rfl rfl (A7 rfl rfl rfl rfl (Ax (A2 rfl rfl rfl) rfl (Ax (Az rfl) rfl (Am ?_))))))));exact Aw (Bt trivial ⟨fb (by simp[h5,h6,h7,h8,h9,hb,he]),trivial⟩ .slnil)
        ·have hj:=he;try simp only[Abo,Abn] at hj
         refine AE rfl rfl he (Ax (Aq rfl) rfl (AE rfl rfl he (Ax (B5 rfl rfl) rfl (Ax (A8 rfl he rfl) rfl (Ax (Aq rfl) rfl (AO (decide ((c)=(58))) (λhg=>?_) (λhg=>?_)))))))
         ·have hk:=hg;try simp only[Abo,Abn] at hk
          refine A7 rfl rfl hg rfl (A7 rfl rfl hg rfl (Ax (A2 rfl hg rfl) rfl (Ax (Az rfl) rfl (Am ?_))));exact Aw (Bt trivial ⟨fb (by simp[h5,h6,h7,h8,h9,hb,he,hg]),trivial⟩ .slnil)
         ·have hk:=hg;try simp only[Abo,Abn] at hk
          refine AE rfl rfl hg (Ax (Aq rfl) rfl (AE rfl rfl hg (Ax (B5 rfl rfl) rfl (Ax (A8 rfl hg rfl) rfl (Ax (Az rfl) rfl (Am ?_))))));exact Aw (Bt trivial ⟨fb (by simp[h5,h6,h7,h8,h9,hb,he,hg]),trivial⟩ .slnil)
    ·have g7:=h7;try simp only[Abo,Abn] at g7
     refine A7 rfl rfl h7 rfl (A7 rfl rfl h7 rfl (AE rfl rfl h6 (Ax (A8 rfl h7 rfl) rfl (Ax (A8 rfl h6 rfl) rfl (Ax (Aq rfl) rfl (AE rfl rfl rfl (Ax (Aq rfl) rfl (AE rfl rfl rfl (Ax (B5 rfl rfl) rfl (Ax (A8 rfl rfl rfl) rfl (Ax (Aq rfl) rfl (AO (decide ((c)=(45))) (λha=>?_) (λha=>?_)))))))))))))
     ·have hl:=ha;try simp only[Abo,Abn] at hl
      refine A7 rfl rfl ha rfl (A7 rfl rfl ha rfl (Ax (A2 rfl ha rfl) rfl (Ax (Aq rfl) rfl (A7 rfl rfl rfl rfl (A7 rfl rfl rfl rfl (Ax (A2 rfl rfl rfl) rfl (Ax (Aq rfl) rfl (A7 rfl rfl rfl rfl (A7 rfl rfl rfl rfl (Ax (A2 rfl rfl rfl) rfl (Ax (Aq rfl) rfl (A7 rfl rfl rfl rfl (A7 rfl rfl rfl rfl (Ax (A2 rfl rfl rfl) rfl (Ax (Az rfl) rfl (Am ?_))))))))))))))));exact Aw (Bt trivial ⟨fb (by simp[h5,h6,h7,ha]),trivial⟩ .slnil)
     ·have hl:=ha;try simp only[Abo,Abn] at hl
      refine AE rfl rfl ha (Ax (Aq rfl) rfl (AE rfl rfl ha (Ax (B5 rfl rfl) rfl (Ax (A8 rfl ha rfl) rfl (Ax (Aq rfl) rfl (AO (decide ((c)=(95))) (λhd=>?_) (λhd=>?_)))))))
      ·have hm:=hd;try simp only[Abo,Abn] at hm
       refine A7 rfl rfl hd rfl (A7 rfl rfl hd rfl (Ax (A2 rfl hd rfl) rfl (Ax (Aq rfl) rfl (A7 rfl rfl rfl rfl (A7 rfl rfl rfl rfl (Ax (A2 rfl rfl rfl) rfl (Ax (Aq rfl) rfl (A7 rfl rfl rfl rfl (A7 rfl rfl rfl rfl (Ax (A2 rfl rfl rfl) rfl (Ax (Az rfl) rfl (Am ?_))))))))))));exact Aw (Bt trivial ⟨fb (by simp[h5,h6,h7,ha,hd]),trivial⟩ .slnil)
      ·have hm:=hd;try simp only[Abo,Abn] at hm
       refine AE rfl rfl hd (Ax (Aq rfl) rfl (AE rfl rfl hd (Ax (B5 rfl rfl) rfl (Ax (A8 rfl hd rfl) rfl (Ax (Aq rfl) rfl (AO (decide ((c)=(46))) (λhf=>?_) (λhf=>?_)))))))
       ·have g15:=hf;try simp only[Abo,Abn] at g15
        refine A7 rfl rfl hf rfl (A7 rfl rfl hf rfl (Ax (A2 rfl hf rfl) rfl (Ax (Aq rfl) rfl (A7 rfl rfl rfl rfl (A7 rfl rfl rfl rfl (Ax (A2 rfl rfl rfl) rfl (Ax (Az rfl) rfl (Am ?_))))))));exact Aw (Bt trivial ⟨fb (by simp[h5,h6,h7,ha,hd,hf]),trivial⟩ .slnil)
       ·have g15:=hf;try simp only[Abo,Abn] at g15
        refine AE rfl rfl hf (Ax (Aq rfl) rfl (AE rfl rfl hf (Ax (B5 rfl rfl) rfl (Ax (A8 rfl hf rfl) rfl (Ax (Aq rfl) rfl (AO (decide ((c)=(58))) (λhh=>?_) (λhh=>?_)))))))
        ·have g16:=hh;try simp only[Abo,Abn] at g16
         refine A7 rfl rfl hh rfl (A7 rfl rfl hh rfl (Ax (A2 rfl hh rfl) rfl (Ax (Az rfl) rfl (Am ?_))));exact Aw (Bt trivial ⟨fb (by simp[h5,h6,h7,ha,hd,hf,hh]),trivial⟩ .slnil)
        ·have g16:=hh;try simp only[Abo,Abn] at g16
         refine AE rfl rfl hh (Ax (Aq rfl) rfl (AE rfl rfl hh (Ax (B5 rfl rfl) rfl (Ax (A8 rfl hh rfl) rfl (Ax (Az rfl) rfl (Am ?_))))));exact Aw (Bt trivial ⟨fb (by simp[h5,h6,h7,ha,hd,hf,hh]),trivial⟩ .slnil)
 refine A1 (A0 (BJ rfl rfl) ?_);exact Eh (by simp only[DU];by_cases h:65≤c<;>simp[h,Bool.or_assoc])
theorem Qg (c:Int)(w:World):Calls Tryz.prog 93 [.int .u8 (c)].toArray w (HB w (.bool (Cj c))):=by
 refine DY (n:=9) Tryz.func93 rfl Tryz.ntmps93 rfl (An (Ai (Ax (Az rfl) rfl (Am (Aw (AQ ?_))))));refine AH [(2,.bool (((decide ((97)≤(c)))&&(decide ((c)≤(122))))))] [] (φ:=True) ?_ (λhb=>?_)
 ·refine Ai (Ax (Aq rfl) rfl (Ax (GH rfl rfl) rfl (Ax (Aq rfl) rfl (AO (decide ((97)≤(c))) (λha=>?_) (λha=>?_)))))
  ·have g18:=ha;try simp only[Abo,Abn] at g18
   refine AE rfl rfl ha (Ax (Aq rfl) rfl (AE rfl rfl ha (Ax (KL rfl rfl) rfl (Ax (A2 rfl ha rfl) rfl (Ax (Az rfl) rfl (Am ?_))))));exact Aw (Bt trivial ⟨fb (by simp[ha]),trivial⟩ .slnil)
  ·have g18:=ha;try simp only[Abo,Abn] at g18
   refine A7 rfl rfl ha rfl (A7 rfl rfl ha rfl (Ax (A8 rfl ha rfl) rfl (Ax (Az rfl) rfl (Am ?_))));exact Aw (Bt trivial ⟨fb (by simp[ha]),trivial⟩ .slnil)
 refine A1 (A0 (BJ rfl rfl) ?_);exact Eh (by first | rfl | simp[])
theorem QM (c:Int)(w:World):Calls Tryz.prog 94 [.int .u8 (c)].toArray w (HB w (.bool (CH c))):=by
 refine DY (n:=9) Tryz.func94 rfl Tryz.ntmps94 rfl (An (Ai (Ax (Az rfl) rfl (Am (Aw (AQ ?_))))));refine AH [(2,.bool (((decide ((48)≤(c)))&&(decide ((c)≤(57))))))] [] (φ:=True) ?_ (λhd=>?_)
 ·refine Ai (Ax (Aq rfl) rfl (Ax (GH rfl rfl) rfl (Ax (Aq rfl) rfl (AO (decide ((48)≤(c))) (λha=>?_) (λha=>?_)))))
  ·have hb:=ha;try simp only[Abo,Abn] at hb
   refine AE rfl rfl ha (Ax (Aq rfl) rfl (AE rfl rfl ha (Ax (KL rfl rfl) rfl (Ax (A2 rfl ha rfl) rfl (Ax (Az rfl) rfl (Am ?_))))));exact Aw (Bt trivial ⟨fb (by simp[ha]),trivial⟩ .slnil)
  ·have hb:=ha;try simp only[Abo,Abn] at hb
   refine A7 rfl rfl ha rfl (A7 rfl rfl ha rfl (Ax (A8 rfl ha rfl) rfl (Ax (Az rfl) rfl (Am ?_))));exact Aw (Bt trivial ⟨fb (by simp[ha]),trivial⟩ .slnil)
 refine A1 (A0 (BJ rfl rfl) ?_);exact Eh (by first | rfl | simp[])
theorem Zu (c:Int)(w:World):Calls Tryz.prog 92 [.int .u8 (c)].toArray w (HB w (.bool (DU c))):=by
 refine DY (n:=37) Tryz.func92 rfl Tryz.ntmps92 rfl (An (Ai (Ax (Az rfl) rfl (Am (Aw (AQ ?_))))));refine AH [(2,.bool (((Cj c)||(bif decide ((65)≤(c)) then((decide ((c)≤(90)))||((CH c)||((decide ((c)=(45)))||((decide ((c)=(95)))||((decide ((c)=(46)))||((decide ((c)=(58)))||(decide ((c)=(47))))))))) else((CH c)||((decide ((c)=(45)))||((decide ((c)=(95)))||((decide ((c)=(46)))||((decide ((c)=(58)))||(decide ((c)=(47))))))))))))] [] (φ:=True) ?_ (λh3=>?_)
 ·refine Ai (Ax (Aq rfl) rfl (Cm Tryz.call93 rfl (λw hw=>Qg c w) rfl (Ax (Aq rfl) rfl (AO (Cj c) (λha=>?_) (λha=>?_)))))
  ·have ho:=ha;try simp only[Abo,Abn] at ho
   refine A7 rfl rfl ha rfl (A7 rfl rfl ha rfl (A7 rfl rfl ha rfl (Cs rfl rfl rfl (Cs rfl rfl rfl (A7 rfl rfl ha rfl (Ax (A2 rfl ha rfl) rfl (Ax (Aq rfl) rfl (A7 rfl rfl rfl rfl (A7 rfl rfl rfl rfl (Ax (A2 rfl rfl rfl) rfl (Ax (Aq rfl) rfl (A7 rfl rfl rfl rfl (A7 rfl rfl rfl rfl (Ax (A2 rfl rfl rfl) rfl (Ax (Aq rfl) rfl (A7 rfl rfl rfl rfl (A7 rfl rfl rfl rfl (Ax (A2 rfl rfl rfl) rfl (Ax (Aq rfl) rfl (A7 rfl rfl rfl rfl (A7 rfl rfl rfl rfl (Ax (A2 rfl rfl rfl) rfl (Ax (Aq rfl) rfl ?_)))))))))))))))))))))));refine A7 rfl rfl rfl rfl (A7 rfl rfl rfl rfl (Ax (A2 rfl rfl rfl) rfl (Ax (Aq rfl) rfl (A7 rfl rfl rfl rfl (A7 rfl rfl rfl rfl (Ax (A2 rfl rfl rfl) rfl (Ax (Az rfl) rfl (Am ?_))))))));exact Aw (Bt trivial ⟨fb (by simp[ha]),trivial⟩ .slnil)
  ·have ho:=ha;try simp only[Abo,Abn] at ho
   refine AE rfl rfl ha (Ax (Aq rfl) rfl (AE rfl rfl ha (Ax (GH rfl rfl) rfl (AE rfl rfl ha (Ax (Aq rfl) rfl (AO (decide ((65)≤(c))) (λhb=>?_) (λhb=>?_)))))))
   ·have hp:=hb;try simp only[Abo,Abn] at hp
    refine AE rfl rfl hb (Ax (Aq rfl) rfl (AE rfl rfl hb (Ax (KL rfl rfl) rfl (AE rfl rfl ha (Ax (A2 rfl hb rfl) rfl (Ax (A8 rfl ha rfl) rfl (Ax (Aq rfl) rfl (AO (decide ((c)≤(90))) (λhd=>?_) (λhd=>?_)))))))))
    ·have hq:=hd;try simp only[Abo,Abn] at hq
     refine A7 rfl rfl hd rfl (A7 rfl rfl hd rfl (Ax (A2 rfl hd rfl) rfl (Ax (Aq rfl) rfl (A7 rfl rfl rfl rfl (A7 rfl rfl rfl rfl (Ax (A2 rfl rfl rfl) rfl (Ax (Aq rfl) rfl (A7 rfl rfl rfl rfl (A7 rfl rfl rfl rfl (Ax (A2 rfl rfl rfl) rfl (Ax (Aq rfl) rfl (A7 rfl rfl rfl rfl (A7 rfl rfl rfl rfl (Ax (A2 rfl rfl rfl) rfl (Ax (Aq rfl) rfl (A7 rfl rfl rfl rfl (A7 rfl rfl rfl rfl (Ax (A2 rfl rfl rfl) rfl (Ax (Aq rfl) rfl (A7 rfl rfl rfl rfl (A7 rfl rfl rfl rfl (Ax (A2 rfl rfl rfl) rfl (Ax (Az rfl) rfl ?_)))))))))))))))))))))));refine Am ?_;exact Aw (Bt trivial ⟨fb (by simp[ha,hb,hd]),trivial⟩ .slnil)
    ·have hq:=hd;try simp only[Abo,Abn] at hq
     refine AE rfl rfl hd (Ax (Aq rfl) rfl (AE rfl rfl hd (Cm Tryz.call94 rfl (λw hw=>QM c w) rfl (Ax (A8 rfl hd rfl) rfl (Ax (Aq rfl) rfl (AO (CH c) (λhe=>?_) (λhe=>?_)))))))
     ·have hr:=he;try simp only[Abo,Abn] at hr
      refine A7 rfl rfl he rfl (A7 rfl rfl he rfl (Ax (A2 rfl he rfl) rfl (Ax (Aq rfl) rfl (A7 rfl rfl rfl rfl (A7 rfl rfl rfl rfl (Ax (A2 rfl rfl rfl) rfl (Ax (Aq rfl) rfl (A7 rfl rfl rfl rfl (A7 rfl rfl rfl rfl (Ax (A2 rfl rfl rfl) rfl (Ax (Aq rfl) rfl (A7 rfl rfl rfl rfl (A7 rfl rfl rfl rfl (Ax (A2 rfl rfl rfl) rfl (Ax (Aq rfl) rfl (A7 rfl rfl rfl rfl (A7 rfl rfl rfl rfl (Ax (A2 rfl rfl rfl) rfl (Ax (Az rfl) rfl (Am ?_))))))))))))))))))));exact Aw (Bt trivial ⟨fb (by simp[ha,hb,hd,he]),trivial⟩ .slnil)
     ·have hr:=he;try simp only[Abo,Abn] at hr
      refine AE rfl rfl he (Ax (Aq rfl) rfl (AE rfl rfl he (Ax (B5 rfl rfl) rfl (Ax (A8 rfl he rfl) rfl (Ax (Aq rfl) rfl (AO (decide ((c)=(45))) (λhg=>?_) (λhg=>?_)))))))
      ·have hs:=hg;try simp only[Abo,Abn] at hs
       refine A7 rfl rfl hg rfl (A7 rfl rfl hg rfl (Ax (A2 rfl hg rfl) rfl (Ax (Aq rfl) rfl (A7 rfl rfl rfl rfl (A7 rfl rfl rfl rfl (Ax (A2 rfl rfl rfl) rfl (Ax (Aq rfl) rfl (A7 rfl rfl rfl rfl (A7 rfl rfl rfl rfl (Ax (A2 rfl rfl rfl) rfl (Ax (Aq rfl) rfl (A7 rfl rfl rfl rfl (A7 rfl rfl rfl rfl (Ax (A2 rfl rfl rfl) rfl (Ax (Az rfl) rfl (Am ?_))))))))))))))));exact Aw (Bt trivial ⟨fb (by simp[ha,hb,hd,he,hg]),trivial⟩ .slnil)
      ·have hs:=hg;try simp only[Abo,Abn] at hs
       refine AE rfl rfl hg (Ax (Aq rfl) rfl (AE rfl rfl hg (Ax (B5 rfl rfl) rfl (Ax (A8 rfl hg rfl) rfl (Ax (Aq rfl) rfl (AO (decide ((c)=(95))) (λhi=>?_) (λhi=>?_)))))))
       ·have ht:=hi;try simp only[Abo,Abn] at ht
        refine A7 rfl rfl hi rfl (A7 rfl rfl hi rfl (Ax (A2 rfl hi rfl) rfl (Ax (Aq rfl) rfl (A7 rfl rfl rfl rfl (A7 rfl rfl rfl rfl (Ax (A2 rfl rfl rfl) rfl (Ax (Aq rfl) rfl (A7 rfl rfl rfl rfl (A7 rfl rfl rfl rfl (Ax (A2 rfl rfl rfl) rfl (Ax (Az rfl) rfl (Am ?_))))))))))));exact Aw (Bt trivial ⟨fb (by simp[ha,hb,hd,he,hg,hi]),trivial⟩ .slnil)
       ·have ht:=hi;try simp only[Abo,Abn] at ht
        refine AE rfl rfl hi (Ax (Aq rfl) rfl (AE rfl rfl hi (Ax (B5 rfl rfl) rfl (Ax (A8 rfl hi rfl) rfl (Ax (Aq rfl) rfl (AO (decide ((c)=(46))) (λhk=>?_) (λhk=>?_)))))))
        ·have hu:=hk;try simp only[Abo,Abn] at hu
         refine A7 rfl rfl hk rfl (A7 rfl rfl hk rfl (Ax (A2 rfl hk rfl) rfl (Ax (Aq rfl) rfl (A7 rfl rfl rfl rfl (A7 rfl rfl rfl rfl (Ax (A2 rfl rfl rfl) rfl (Ax (Az rfl) rfl (Am ?_))))))));exact Aw (Bt trivial ⟨fb (by simp[ha,hb,hd,he,hg,hi,hk]),trivial⟩ .slnil)
        ·have hu:=hk;try simp only[Abo,Abn] at hu
         refine AE rfl rfl hk (Ax (Aq rfl) rfl (AE rfl rfl hk (Ax (B5 rfl rfl) rfl (Ax (A8 rfl hk rfl) rfl (Ax (Aq rfl) rfl (AO (decide ((c)=(58))) (λhm=>?_) (λhm=>?_)))))))
         ·have hx:=hm;try simp only[Abo,Abn] at hx
          refine A7 rfl rfl hm rfl (A7 rfl rfl hm rfl (Ax (A2 rfl hm rfl) rfl (Ax (Az rfl) rfl (Am ?_))));exact Aw (Bt trivial ⟨fb (by simp[ha,hb,hd,he,hg,hi,hk,hm]),trivial⟩ .slnil)
         ·have hx:=hm;try simp only[Abo,Abn] at hx
          refine AE rfl rfl hm (Ax (Aq rfl) rfl (AE rfl rfl hm (Ax (B5 rfl rfl) rfl (Ax (A8 rfl hm rfl) rfl (Ax (Az rfl) rfl (Am ?_))))));exact Aw (Bt trivial ⟨fb (by simp[ha,hb,hd,he,hg,hi,hk,hm]),trivial⟩ .slnil)
   ·have hp:=hb;try simp only[Abo,Abn] at hp
    refine A7 rfl rfl hb rfl (A7 rfl rfl hb rfl (AE rfl rfl ha (Ax (A8 rfl hb rfl) rfl (Ax (A8 rfl ha rfl) rfl (Ax (Aq rfl) rfl (AE rfl rfl rfl (Ax (Aq rfl) rfl (AE rfl rfl rfl (Cm Tryz.call94 rfl (λw hw=>QM c w) rfl (Ax (A8 rfl rfl rfl) rfl (Ax (Aq rfl) rfl (AO (CH c) (λhf=>?_) (λhf=>?_)))))))))))))
    ·have hy:=hf;try simp only[Abo,Abn] at hy
     refine A7 rfl rfl hf rfl (A7 rfl rfl hf rfl (Ax (A2 rfl hf rfl) rfl (Ax (Aq rfl) rfl (A7 rfl rfl rfl rfl (A7 rfl rfl rfl rfl (Ax (A2 rfl rfl rfl) rfl (Ax (Aq rfl) rfl (A7 rfl rfl rfl rfl (A7 rfl rfl rfl rfl (Ax (A2 rfl rfl rfl) rfl (Ax (Aq rfl) rfl (A7 rfl rfl rfl rfl (A7 rfl rfl rfl rfl (Ax (A2 rfl rfl rfl) rfl (Ax (Aq rfl) rfl (A7 rfl rfl rfl rfl (A7 rfl rfl rfl rfl (Ax (A2 rfl rfl rfl) rfl (Ax (Az rfl) rfl (Am ?_))))))))))))))))))));exact Aw (Bt trivial ⟨fb (by simp[ha,hb,hf]),trivial⟩ .slnil)
    ·have hy:=hf;try simp only[Abo,Abn] at hy
     refine AE rfl rfl hf (Ax (Aq rfl) rfl (AE rfl rfl hf (Ax (B5 rfl rfl) rfl (Ax (A8 rfl hf rfl) rfl (Ax (Aq rfl) rfl (AO (decide ((c)=(45))) (λhh=>?_) (λhh=>?_)))))))
     ·have hz:=hh;try simp only[Abo,Abn] at hz
      refine A7 rfl rfl hh rfl (A7 rfl rfl hh rfl (Ax (A2 rfl hh rfl) rfl (Ax (Aq rfl) rfl (A7 rfl rfl rfl rfl (A7 rfl rfl rfl rfl (Ax (A2 rfl rfl rfl) rfl (Ax (Aq rfl) rfl (A7 rfl rfl rfl rfl (A7 rfl rfl rfl rfl (Ax (A2 rfl rfl rfl) rfl (Ax (Aq rfl) rfl (A7 rfl rfl rfl rfl (A7 rfl rfl rfl rfl (Ax (A2 rfl rfl rfl) rfl (Ax (Az rfl) rfl (Am ?_))))))))))))))));exact Aw (Bt trivial ⟨fb (by simp[ha,hb,hf,hh]),trivial⟩ .slnil)
     ·have hz:=hh;try simp only[Abo,Abn] at hz
      refine AE rfl rfl hh (Ax (Aq rfl) rfl (AE rfl rfl hh (Ax (B5 rfl rfl) rfl (Ax (A8 rfl hh rfl) rfl (Ax (Aq rfl) rfl (AO (decide ((c)=(95))) (λhj=>?_) (λhj=>?_)))))))
      ·have h0:=hj;try simp only[Abo,Abn] at h0
       refine A7 rfl rfl hj rfl (A7 rfl rfl hj rfl (Ax (A2 rfl hj rfl) rfl (Ax (Aq rfl) rfl (A7 rfl rfl rfl rfl (A7 rfl rfl rfl rfl (Ax (A2 rfl rfl rfl) rfl (Ax (Aq rfl) rfl (A7 rfl rfl rfl rfl (A7 rfl rfl rfl rfl (Ax (A2 rfl rfl rfl) rfl (Ax (Az rfl) rfl (Am ?_))))))))))));exact Aw (Bt trivial ⟨fb (by simp[ha,hb,hf,hh,hj]),trivial⟩ .slnil)
      ·have h0:=hj;try simp only[Abo,Abn] at h0
       refine AE rfl rfl hj (Ax (Aq rfl) rfl (AE rfl rfl hj (Ax (B5 rfl rfl) rfl (Ax (A8 rfl hj rfl) rfl (Ax (Aq rfl) rfl (AO (decide ((c)=(46))) (λhl=>?_) (λhl=>?_)))))))
       ·have h1:=hl;try simp only[Abo,Abn] at h1
        refine A7 rfl rfl hl rfl (A7 rfl rfl hl rfl (Ax (A2 rfl hl rfl) rfl (Ax (Aq rfl) rfl (A7 rfl rfl rfl rfl (A7 rfl rfl rfl rfl (Ax (A2 rfl rfl rfl) rfl (Ax (Az rfl) rfl (Am ?_))))))));exact Aw (Bt trivial ⟨fb (by simp[ha,hb,hf,hh,hj,hl]),trivial⟩ .slnil)
       ·have h1:=hl;try simp only[Abo,Abn] at h1
        refine AE rfl rfl hl (Ax (Aq rfl) rfl (AE rfl rfl hl (Ax (B5 rfl rfl) rfl (Ax (A8 rfl hl rfl) rfl (Ax (Aq rfl) rfl (AO (decide ((c)=(58))) (λhn=>?_) (λhn=>?_)))))))
        ·have h2:=hn;try simp only[Abo,Abn] at h2
         refine A7 rfl rfl hn rfl (A7 rfl rfl hn rfl (Ax (A2 rfl hn rfl) rfl (Ax (Az rfl) rfl (Am ?_))));exact Aw (Bt trivial ⟨fb (by simp[ha,hb,hf,hh,hj,hl,hn]),trivial⟩ .slnil)
        ·have h2:=hn;try simp only[Abo,Abn] at h2
         refine AE rfl rfl hn (Ax (Aq rfl) rfl (AE rfl rfl hn (Ax (B5 rfl rfl) rfl (Ax (A8 rfl hn rfl) rfl (Ax (Az rfl) rfl (Am ?_))))));exact Aw (Bt trivial ⟨fb (by simp[ha,hb,hf,hh,hj,hl,hn]),trivial⟩ .slnil)
 refine A1 (A0 (BJ rfl rfl) ?_);exact Eh (by simp[DU];grind)
theorem XY (m:Int)(w:World):Calls Tryz.prog 117 [.int .i64 (m)].toArray w (HB w (.bool (NL m))):=by
 refine DY (n:=9) Tryz.func117 rfl Tryz.ntmps117 rfl (An (Ai (Ax (Az rfl) rfl (Am (Aw (AQ ?_))))));refine AH [(2,.bool (((decide ((-1000000000000)≤(m)))&&(decide ((m)≤(1000000000000))))))] [] (φ:=True) ?_ (λhd=>?_)
 ·refine Ai (Ax (Aq rfl) rfl (Ax (KL rfl rfl) rfl (Ax (Aq rfl) rfl (AO (decide ((-1000000000000)≤(m))) (λha=>?_) (λha=>?_)))))
  ·have hb:=ha;try simp only[Abo,Abn] at hb
   refine AE rfl rfl ha (Ax (Aq rfl) rfl (AE rfl rfl ha (Ax (KL rfl rfl) rfl (Ax (A2 rfl ha rfl) rfl (Ax (Az rfl) rfl (Am ?_))))));exact Aw (Bt trivial ⟨fb (by first | (simp only[ha,Ab1,Ab6,AbD,Ab2,Ab8,Ab7,AbC,Ab9,Abw,Ab5,Ab0,Abu,AbL,AbH,reduceIte,Abx];done) | simp[ha]),trivial⟩ .slnil)
  ·have hb:=ha;try simp only[Abo,Abn] at hb
   refine A7 rfl rfl ha rfl (A7 rfl rfl ha rfl (Ax (A8 rfl ha rfl) rfl (Ax (Az rfl) rfl (Am ?_))));exact Aw (Bt trivial ⟨fb (by first | (simp only[ha,Ab1,Ab6,AbD,Ab2,Ab8,Ab7,AbC,Ab9,Abw,Ab5,Ab0,Abu,AbL,AbH,reduceIte,Abx];done) | simp[ha]),trivial⟩ .slnil)
 refine A1 (A0 (BJ rfl rfl) ?_);exact Eh (by first | rfl | simp[])
theorem Z6 (p:List UInt8)(w:World):Calls Tryz.prog 53 [.string (B p)].toArray w (HB w (.bool (Dx p))):=by
 refine DY (n:=39) Tryz.func53 rfl Tryz.ntmps53 rfl (An (Ai (Ax (Az rfl) rfl (Am (Aw (AQ ?_))))));refine An (An (Ai (Ax (Aq rfl) rfl (Pp Cu rfl rfl (λhh=>?_)))));refine Am (Aw (AQ ?_));refine AJ (HC (S:=Nat) (λ(k:Nat)=>k≤p.length∧Bn DA 0 p=Bn DA k (p.drop k)) (λ(k:Nat)=>[(0,.string (B (p))),(2,.bool (false)),(6,.pointer (some ⟨hh,0,none⟩))]) (λ(k:Nat)=>[.blk hh (.stringIter (B p) (k))]) (λ(k:Nat)=>p.length-k) (0) ?_ ⟨rfl,rfl,rfl,trivial⟩ (.cons_cons _ (.slnil)) ?_)
 ·exact⟨AbW _,by simp⟩
 rintro k hi0;refine An (Ai (Rm (i:=0) rfl rfl rfl (λhend=>?_) (λhr hd hp hq hlu39 hhu39 hwu39=>?_)))
 ·refine Ax (AA rfl rfl) rfl (Am (Aw (AQ ?_)));refine An (D2 rfl rfl (Bx (A6 (A6 (Bc (Aw (AQ ?_)))))));refine AH [(2,.bool (((decide ((1)≤((p.length:Int))))&&(decide (((p.length:Int))≤(24))))))] [.blk hh (.stringIter (B p) (k))] (φ:=True) ?_ (λhs=>?_)
  ·refine Ai (Ax (Aq rfl) rfl (Ax (Bv Cu rfl) rfl (Ax (GH rfl rfl) rfl (Ax (Aq rfl) rfl (AO (decide ((1)≤((p.length:Int)))) (λhe=>?_) (λhe=>?_))))))
   ·have hj:=he;try simp only[Abo,Abn] at hj
    refine AE rfl rfl he (Ax (Aq rfl) rfl (AE rfl rfl he (Ax (Bv Cu rfl) rfl (AE rfl rfl he (Ax (KL rfl rfl) rfl (Ax (A2 rfl he rfl) rfl (Ax (Az rfl) rfl (Am ?_))))))));exact Aw (Bt trivial ⟨fb (by first | (simp only[he,Ab1,Ab6,AbD,Ab2,Ab8,Ab7,AbC,Ab9,Abw,Ab5,Ab0,Abu,AbL,AbH,reduceIte,Abx];done) | simp[he]),trivial⟩ (.cons_cons _ (.slnil)))
   ·have hj:=he;try simp only[Abo,Abn] at hj
    refine A7 rfl rfl he rfl (A7 rfl rfl he rfl (A7 rfl rfl he rfl (Ax (A8 rfl he rfl) rfl (Ax (Az rfl) rfl (Am ?_)))));exact Aw (Bt trivial ⟨fb (by first | (simp only[he,Ab1,Ab6,AbD,Ab2,Ab8,Ab7,AbC,Ab9,Abw,Ab5,Ab0,Abu,AbL,AbH,reduceIte,Abx];done) | simp[he]),trivial⟩ (.cons_cons _ (.slnil)))
  refine A1 (A0 (BJ rfl rfl) ?_);exact Eh (by rw[WU hi0 hend])
 ·refine Ax (AA rfl rfl) rfl (Am (Aw (AQ ?_)));refine An (DH rfl rfl (Ay (Aw (AQ ?_))));refine AJ (An (Ai (Ax (AA rfl rfl) rfl (Ax (AA rfl rfl) rfl (Ax (Az rfl) rfl (Ax (Az rfl) rfl (Am (Aw (AQ ?_)))))))));refine AH [(0,.string (B (p))),(2,.bool (false)),(3,.int .i64 ((k:Int))),(4,.int .i32 ((hd:Int))),(6,.pointer (some ⟨hh,0,none⟩)),(7,.tuple #[.bool (true),.int .i64 ((k:Int)),.int .i32 ((hd:Int))]),(8,.bool (true)),(9,.int .i64 ((k:Int))),(10,.int .i32 ((hd:Int))),(11,.int .i32 ((hd:Int))),(12,.bool (Cj (hd:Int))),(13,.bool (!(Cj (hd:Int)))),(14,.bool (!(Cj (hd:Int)))),(30,.bool (((!(Cj (hd:Int)))&&((decide (((k:Int))=(0)))||((!(CH (hd:Int)))&&((!(decide (((hd:Int))=(45))))&&(!(decide (((hd:Int))=(95))))))))))] [.blk hh (.stringIter (B p) (k+hp))] (φ:=True) ?_ (λht=>?_)
  ·refine Ai (Ax (Aq rfl) rfl (Cm Tryz.call87 rfl (λw hw=>TC (hd:Int) w) rfl (Ax (BE rfl) rfl (Ax (Aq rfl) rfl (AO (!(Cj (hd:Int))) (λhb=>?_) (λhb=>?_))))))
   ·have hk:=hb;try simp only[Abo,Abn] at hk
    refine AE rfl rfl hb (Ax (Aq rfl) rfl (AE rfl rfl hb (Ax (B5 rfl rfl) rfl (AE rfl rfl hb (Ax (Aq rfl) rfl (AO (decide (((k:Int))=(0))) (λha=>?_) (λha=>?_)))))))
    ·have hl:=ha;try simp only[Abo,Abn] at hl
     refine A7 rfl rfl ha rfl (A7 rfl rfl ha rfl (A7 rfl rfl ha rfl (A7 rfl rfl ha rfl (Cs rfl rfl rfl (Cs rfl rfl rfl (A7 rfl rfl ha rfl (A7 rfl rfl ha rfl (Cs rfl rfl rfl (Cs rfl rfl rfl (A7 rfl rfl ha rfl (AE rfl rfl hb (Ax (A2 rfl ha rfl) rfl (Ax (A2 rfl hb rfl) rfl (Am ?_))))))))))))));exact Aw (Bt trivial ⟨rfl,rfl,rfl,rfl,rfl,rfl,rfl,rfl,rfl,rfl,rfl,rfl,rfl,fb (by first | (simp only[hb,ha,Ab1,Ab6,AbD,Ab2,Ab8,Ab7,AbC,Ab9,Abw,Ab5,Ab0,Abu,AbL,AbH,reduceIte,Abx];done) | simp[hb,ha]),trivial⟩ (.cons_cons _ (.slnil)))
    ·have hl:=ha;try simp only[Abo,Abn] at hl
     refine AE rfl rfl ha (Ax (Aq rfl) rfl (AE rfl rfl ha (Cm Tryz.call88 rfl (λw hw=>Uh (hd:Int) w) rfl (AE rfl rfl ha (Ax (BE rfl) rfl (AE rfl rfl ha (Ax (Aq rfl) rfl (AO (!(CH (hd:Int))) (λhf=>?_) (λhf=>?_)))))))))
     ·have hm:=hf;try simp only[Abo,Abn] at hm
      refine AE rfl rfl hf (Ax (Aq rfl) rfl (AE rfl rfl hf (Ax (BT rfl rfl) rfl (AE rfl rfl ha (Ax (A2 rfl hf rfl) rfl (AE rfl rfl ha (Ax (Aq rfl) rfl (AO (!(decide (((hd:Int))=(45)))) (λhg=>?_) (λhg=>?_)))))))))
      ·have hn:=hg;try simp only[Abo,Abn] at hn
       refine AE rfl rfl hg (Ax (Aq rfl) rfl (AE rfl rfl hg (Ax (BT rfl rfl) rfl (AE rfl rfl ha (Ax (A2 rfl hg rfl) rfl (AE rfl rfl hb (Ax (A8 rfl ha rfl) rfl (Ax (A2 rfl hb rfl) rfl (Am ?_)))))))));exact Aw (Bt trivial ⟨rfl,rfl,rfl,rfl,rfl,rfl,rfl,rfl,rfl,rfl,rfl,rfl,rfl,fb (by first | (simp only[hb,ha,hf,hg,Ab1,Ab6,AbD,Ab2,Ab8,Ab7,AbC,Ab9,Abw,Ab5,Ab0,Abu,AbL,AbH,reduceIte,Abx];done) | simp[hb,ha,hf,hg]),trivial⟩ (.cons_cons _ (.slnil)))
      ·have hn:=hg;try simp only[Abo,Abn] at hn
       refine A7 rfl rfl hg rfl (A7 rfl rfl hg rfl (AE rfl rfl ha (Ax (A8 rfl hg rfl) rfl (AE rfl rfl hb (Ax (A8 rfl ha rfl) rfl (Ax (A2 rfl hb rfl) rfl (Am ?_)))))));exact Aw (Bt trivial ⟨rfl,rfl,rfl,rfl,rfl,rfl,rfl,rfl,rfl,rfl,rfl,rfl,rfl,fb (by first | (simp only[hb,ha,hf,hg,Ab1,Ab6,AbD,Ab2,Ab8,Ab7,AbC,Ab9,Abw,Ab5,Ab0,Abu,AbL,AbH,reduceIte,Abx];done) | simp[hb,ha,hf,hg]),trivial⟩ (.cons_cons _ (.slnil)))
     ·have hm:=hf;try simp only[Abo,Abn] at hm
      refine A7 rfl rfl hf rfl (A7 rfl rfl hf rfl (AE rfl rfl ha (Ax (A8 rfl hf rfl) rfl (AE rfl rfl ha (Ax (Aq rfl) rfl (A7 rfl rfl rfl rfl (A7 rfl rfl rfl rfl (AE rfl rfl ha (Ax (A8 rfl rfl rfl) rfl (AE rfl rfl hb (Ax (A8 rfl ha rfl) rfl (Ax (A2 rfl hb rfl) rfl (Am ?_)))))))))))));exact Aw (Bt trivial ⟨rfl,rfl,rfl,rfl,rfl,rfl,rfl,rfl,rfl,rfl,rfl,rfl,rfl,fb (by first | (simp only[hb,ha,hf,Ab1,Ab6,AbD,Ab2,Ab8,Ab7,AbC,Ab9,Abw,Ab5,Ab0,Abu,AbL,AbH,reduceIte,Abx];done) | simp[hb,ha,hf]),trivial⟩ (.cons_cons _ (.slnil)))
   ·have hk:=hb;try simp only[Abo,Abn] at hk
    refine A7 rfl rfl hb rfl (A7 rfl rfl hb rfl (A7 rfl rfl hb rfl (Cs rfl rfl rfl (Cs rfl rfl rfl (Cs rfl rfl rfl (Cs rfl rfl rfl (Cs rfl rfl rfl (Cs rfl rfl rfl (Cs rfl rfl rfl (Cs rfl rfl rfl (Cs rfl rfl rfl (Cs rfl rfl rfl (Cs rfl rfl rfl (A7 rfl rfl hb rfl (Ax (A8 rfl hb rfl) rfl (Am ?_))))))))))))))));exact Aw (Bt trivial ⟨rfl,rfl,rfl,rfl,rfl,rfl,rfl,rfl,rfl,rfl,rfl,rfl,rfl,fb (by first | (simp only[hb,Ab1,Ab6,AbD,Ab2,Ab8,Ab7,AbC,Ab9,Abw,Ab5,Ab0,Abu,AbL,AbH,reduceIte,Abx];done) | simp[hb]),trivial⟩ (.cons_cons _ (.slnil)))
  refine C8 (b:=((!(Cj (hd:Int)))&&((decide (((k:Int))=(0)))||((!(CH (hd:Int)))&&((!(decide (((hd:Int))=(45))))&&(!(decide (((hd:Int))=(95))))))))) rfl (λhi=>?_) (λhi=>?_)
  ·have ho:=hi;try simp only[Abo,Abn] at ho
   refine An (Ai (Ax (Az rfl) rfl (Am (Aw (AQ ?_)))));refine A1 (AC (Ae (AC (Ae (A0 (BJ rfl rfl) ?_)))));exact Eh (by rw[Yz hi0 hq hlu39 hhu39 hi])
  ·have ho:=hi;try simp only[Abo,Abn] at ho
   refine Ay (AG (Aw (AI (k+hp) ?_ ⟨rfl,rfl,rfl,trivial⟩ (.cons_cons _ (.slnil)))));exact Vi hi0 hq hlu39 hhu39 hi
theorem Aa4 (p:List UInt8)(w:World):Calls Tryz.prog 52 [.string (B p)].toArray w (HB w (.bool (HR p))):=by
 refine DY (n:=21) Tryz.func52 rfl Tryz.ntmps52 rfl (An (Ai (Ax (Az rfl) rfl (Am (Aw (AQ ?_))))));refine An (An (Ai (Ax (Aq rfl) rfl (Pp Cu rfl rfl (λhd=>?_)))));refine Am (Aw (AQ ?_));refine AJ (HC (S:=Nat) (λ(k:Nat)=>k≤p.length∧Bn Lo 0 p=Bn Lo k (p.drop k)) (λ(k:Nat)=>[(0,.string (B (p))),(2,.bool (false)),(6,.pointer (some ⟨hd,0,none⟩))]) (λ(k:Nat)=>[.blk hd (.stringIter (B p) (k))]) (λ(k:Nat)=>p.length-k) (0) ?_ ⟨rfl,rfl,rfl,trivial⟩ (.cons_cons _ (.slnil)) ?_)
 ·exact⟨AbW _,by simp⟩
 rintro k hi0;refine An (Ai (Rm (i:=0) rfl rfl rfl (λhend=>?_) (λhj hg hi hh hlu51 hhu51 hwu51=>?_)))
 ·refine Ax (AA rfl rfl) rfl (Am (Aw (AQ ?_)));refine An (D2 rfl rfl (Bx (A6 (A6 (Bc (Aw (AQ ?_)))))));refine AH [(2,.bool (((decide ((1)≤((p.length:Int))))&&(decide (((p.length:Int))≤(64))))))] [.blk hd (.stringIter (B p) (k))] (φ:=True) ?_ (λhk=>?_)
  ·refine Ai (Ax (Aq rfl) rfl (Ax (Bv Cu rfl) rfl (Ax (GH rfl rfl) rfl (Ax (Aq rfl) rfl (AO (decide ((1)≤((p.length:Int)))) (λha=>?_) (λha=>?_))))))
   ·have he:=ha;try simp only[Abo,Abn] at he
    refine AE rfl rfl ha (Ax (Aq rfl) rfl (AE rfl rfl ha (Ax (Bv Cu rfl) rfl (AE rfl rfl ha (Ax (KL rfl rfl) rfl (Ax (A2 rfl ha rfl) rfl (Ax (Az rfl) rfl (Am ?_))))))));exact Aw (Bt trivial ⟨fb (by first | (simp only[ha,Ab1,Ab6,AbD,Ab2,Ab8,Ab7,AbC,Ab9,Abw,Ab5,Ab0,Abu,AbL,AbH,reduceIte,Abx];done) | simp[ha]),trivial⟩ (.cons_cons _ (.slnil)))
   ·have he:=ha;try simp only[Abo,Abn] at he
    refine A7 rfl rfl ha rfl (A7 rfl rfl ha rfl (A7 rfl rfl ha rfl (Ax (A8 rfl ha rfl) rfl (Ax (Az rfl) rfl (Am ?_)))));exact Aw (Bt trivial ⟨fb (by first | (simp only[ha,Ab1,Ab6,AbD,Ab2,Ab8,Ab7,AbC,Ab9,Abw,Ab5,Ab0,Abu,AbL,AbH,reduceIte,Abx];done) | simp[ha]),trivial⟩ (.cons_cons _ (.slnil)))
  refine A1 (A0 (BJ rfl rfl) ?_);exact Eh (by rw[ZG hi0 hend])
 ·refine Ax (AA rfl rfl) rfl (Am (Aw (AQ ?_)));refine An (DH rfl rfl (Ay (Aw (AQ ?_))));refine AJ (An (Ai (Ax (AA rfl rfl) rfl (Ax (Az rfl) rfl (Am (Aw (AQ ?_)))))));refine An (Ai (Ax (Aq rfl) rfl (Cm Tryz.call86 rfl (λw hw=>Xi (hg:Int) w) rfl (Ax (BE rfl) rfl (Am (Aw (AQ ?_)))))));refine C8 (b:=!(DU (hg:Int))) rfl (λhb=>?_) (λhb=>?_)
  ·have hf:=hb;try simp only[Abo,Abn] at hf
   refine An (Ai (Ax (Az rfl) rfl (Am (Aw (AQ ?_)))));refine A1 (AC (Ae (AC (Ae (A0 (BJ rfl rfl) ?_)))));exact Eh (by rw[Aa3 hi0 hh hlu51 hhu51 hb])
  ·have hf:=hb;try simp only[Abo,Abn] at hf
   refine Ay (AG (Aw (AI (k+hi) ?_ ⟨rfl,rfl,rfl,trivial⟩ (.cons_cons _ (.slnil)))));exact YB hi0 hh hlu51 hhu51 hb
open Go
def Yf (p:List UInt8):Bool:=decide ((0:Int)<p.length)&&decide (B1 p 0=45)
def OE (p:List UInt8):List UInt8:=if Yf p=true then p.drop 1 else p
theorem X3 (p:List UInt8):(OE p).length≤p.length:=by unfold OE;split<;>simp
def Ge (_:Nat)(u:UInt8):Bool:=!(decide ((u.toNat:Int)<48)||decide (57<(u.toNat:Int)))
def QO (p:List UInt8):Bool:=!(decide (OE p=[])||(decide (B1 (OE p) 0=48)&&!decide (p=[48])))&&Bn Ge 0 (OE p)
theorem HP {p:List UInt8}(h : ¬ p=[]):(0:Int)<p.length:=by
 cases p with
 | nil=>exact absurd rfl h
 | cons a r=>simp
theorem KA {p:List UInt8}{k:Nat}(h:(k:Int)<p.length):∃u,p[k]? =some u:=⟨p[k]'(by omega),Abz (by omega)⟩
theorem X4 {p:List UInt8}{k:Nat}(hi:k≤p.length∧Bn Ge 0 p=Bn Ge k (p.drop k))(h:(k:Int)<p.length)(ht:(decide (B1 p k<48)||decide (57<B1 p k))=false) :
  (k+1≤p.length∧Bn Ge 0 p=Bn Ge (k+1) (p.drop (k+1)))∧p.length-(k+1)<p.length-k:=by
 obtain⟨u,hu⟩:=KA h;rw[QU hu] at ht;exact Oe hi hu (by simp only[Ge,ht];rfl)
theorem ZO {p:List UInt8}{k:Nat}(hi:k≤p.length∧Bn Ge 0 p=Bn Ge k (p.drop k))(h:(k:Int)<p.length)(ht:(decide (B1 p k<48)||decide (57<B1 p k))=true):Bn Ge 0 p=false:=by
 obtain⟨u,hu⟩:=KA h;rw[QU hu] at ht;exact SQ hi hu (by simp only[Ge,ht];rfl)
theorem YM {p:List UInt8}{k:Nat}(hi:k≤p.length∧Bn Ge 0 p=Bn Ge k (p.drop k))(h : ¬ (k:Int)<p.length):Bn Ge 0 p=true:=Qp hi (by omega)
def C2 (p:List UInt8):Int:=if QO p=true then(match Lib.atoiAll p with | .ok v=>if NL v=true then 0 else 2 | _=>2) else 1
def AX (p:List UInt8):Int:=if QO p=true then(match Lib.atoiAll p with | .ok v=>if NL v=true then v else 0 | _=>0) else 0
theorem OF:∀(l:List UInt8) (i acc:Nat),Bn Ge i l=true→(∃u,Lib.parseUint10 acc l = .ok u)∨Lib.parseUint10 acc l = .range
 | [],_,acc,_=>.inl ⟨acc,rfl⟩
 | c::r,i,acc,h=>by
  simp only[Bn,Abv] at h;have hc:48≤c.toNat∧c.toNat≤57:=by have:=h.1;simp[Ge] at this;omega
  unfold Lib.parseUint10;rw[Aci hc]
  split
  ·exact .inr rfl
  ·split
   ·exact .inr rfl
   ·exact OF r _ _ h.2
theorem TX {l:List UInt8}(hne:l≠[])(h:Bn Ge 0 l=true):(∃u,Lib.parseMag l = .ok u)∨Lib.parseMag l = .range:=by
 unfold Lib.parseMag;rw[Aca hne];exact OF l 0 0 h
theorem Qj {e:Lib.NumEnd Nat}(h:(∃u,e = .ok u)∨e = .range):(∃v,Lib.signless e = .ok v)∨Lib.signless e = .range:=by
 rcases h with⟨u,rfl⟩ | rfl
 ·unfold Lib.signless
  by_cases h:9223372036854775808≤u
  ·exact .inr (by simp[h])
  ·exact .inl ⟨_,by simp[h];rfl⟩
 ·exact .inr rfl
theorem SP {e:Lib.NumEnd Nat}(h:(∃u,e = .ok u)∨e = .range):(∃v,Lib.signed e = .ok v)∨Lib.signed e = .range:=by
 rcases h with⟨u,rfl⟩ | rfl
 ·unfold Lib.signed
  by_cases h:9223372036854775808<u
  ·exact .inr (by simp[h])
  ·exact .inl ⟨_,by simp[h];rfl⟩
 ·exact .inr rfl
theorem XF {p:List UInt8}(h:QO p=true):(∃v,Lib.atoiAll p = .ok v∧-9223372036854775808≤v∧v≤9223372036854775807)∨Lib.atoiAll p = .range:=by
 have key:(∃v,Lib.atoiAll p = .ok v)∨Lib.atoiAll p = .range:=by
  simp only[QO,Abv,AbE,AbT,Abn] at h;obtain⟨⟨hne,_⟩,hall⟩:=h
  cases p with
  | nil=>simp[OE,Yf] at hne
  | cons c r=>
   by_cases hc:c=45
   ·subst hc;have hd:OE (45::r)=r:=by simp[OE,Yf,B1]
    rw[hd] at hne hall;rw[Lib.atoiAll_minus];exact SP (TX hne hall)
   ·have hb : ¬ B1 (c::r) 0=45:=by
     simp only[B1,Int.toNat_zero,List.getElem?_cons_zero,AbO];intro e;exact hc (UInt8.toNat_inj.1 (by simpa using(by omega:c.toNat=45)))
    have hd:OE (c::r)=c::r:=by simp[OE,Yf,hb]
    rw[hd] at hne hall;have ha:48≤c.toNat:=by
     simp only[Bn,Abv] at hall;have:=hall.1;simp[Ge] at this;omega
    rw[Lib.atoiAll_plain c r (by omega) (by omega)];exact Qj (TX hne hall)
 rcases key with⟨v,hv⟩ | h
 ·exact .inl ⟨v,hv,Lib.atoiAll_bounds hv⟩
 ·exact .inr h
theorem O7 (m:Int)(h0 : -9223372036854775808≤m)(h1:m≤9223372036854775807):(Lib.itoa m).length≤21:=Lib.itoa_length_le m h0 h1
def DZ (id:List UInt8)(m:Int):List UInt8:=id++[46]++Lib.itoa m
def Cg (id:List UInt8)(m:Int):Int:=if HR id=true then(if 0≤m∧m≤1000000000000 then(if (DZ id m).length≤64 then 0 else 3) else 2) else 4
def BY (id:List UInt8)(m:Int):List UInt8:=if Cg id m=0 then DZ id m else[]
theorem V3 (p:List UInt8)(hp:p.length≤281474976710656)(w:World):Calls Tryz.prog 123 [.string (B (p))].toArray w (HB w (.bool (QO p))):=by
 refine DY (n:=43) Tryz.func123 rfl Tryz.ntmps123 rfl (An (Ai (Ax (Az rfl) rfl (Am (Aw (AQ ?_))))));refine An (Ai (Ax (Aq rfl) rfl (Ax (Az rfl) rfl (Am (Aw (AQ ?_))))));refine AH [(0,.string (B (p))),(2,.bool (false)),(3,.string (B ((if ((decide ((0)<((p.length:Int))))&&(decide ((B1 p 0)=(45))))=true then List.drop (Int.toNat (1)) p else p))))] [] (φ:=True) ?_ (λh1=>?_)
 ·refine AH [(0,.string (B (p))),(2,.bool (false)),(3,.string (B (p))),(13,.bool (((decide ((0)<((p.length:Int))))&&(decide ((B1 p 0)=(45))))))] [] (φ:=True) ?_ (λh2=>?_)
  ·refine Ai (Ax (Aq rfl) rfl (Ax (Bv Cu rfl) rfl (Ax (CI rfl rfl) rfl (Ax (Aq rfl) rfl (AO (decide ((0)<((p.length:Int)))) (λhd=>?_) (λhd=>?_))))))
   ·have hk:=hd;try simp only[Abo,Abn] at hk
    have hl:=hd;try simp at hl
    refine AE rfl rfl hd (Ax (Aq rfl) rfl (AE rfl rfl hd (Ax (Bw Cu rfl rfl (by first | omega | exact HP (by assumption)) (by first | omega | exact HP (by assumption))) rfl (AE rfl rfl hd (Ax (B5 rfl rfl) rfl (Ax (A2 rfl hd rfl) rfl (Am ?_)))))));exact Aw (Bt trivial ⟨rfl,rfl,rfl,fb (by first | (simp only[hd,Ab1,Ab6,AbD,Ab2,Ab8,Ab7,AbC,Ab9,Abw,Ab5,Ab0,Abu,AbL,AbH,reduceIte,Abx];done) | simp[hd]),trivial⟩ .slnil)
   ·have hk:=hd;try simp only[Abo,Abn] at hk
    have hl:=hd;try simp at hl
    refine A7 rfl rfl hd rfl (A7 rfl rfl hd rfl (A7 rfl rfl hd rfl (Ax (A8 rfl hd rfl) rfl (Am ?_))));exact Aw (Bt trivial ⟨rfl,rfl,rfl,fb (by first | (simp only[hd,Ab1,Ab6,AbD,Ab2,Ab8,Ab7,AbC,Ab9,Abw,Ab5,Ab0,Abu,AbL,AbH,reduceIte,Abx];done) | simp[hd]),trivial⟩ .slnil)
  refine C8 (b:=((decide ((0)<((p.length:Int))))&&(decide ((B1 p 0)=(45))))) rfl (λhg=>?_) (λhg=>?_)
  ·have hm:=hg;try simp only[Abo,Abn] at hm
   have hn:=hg;try simp at hn
   refine Ai (Ax (Aq rfl) rfl (Ax (DT Cu rfl rfl (by first | omega | (simp;omega)) (by first | omega | (simp;omega))) rfl (Ax (Az rfl) rfl (Am ?_))));exact Aw (Bt trivial ⟨rfl,rfl,fs (by first | (simp only[hg,Ab1,Ab6,AbD,Ab2,Ab8,Ab7,AbC,Ab9,Abw,Ab5,Ab0,Abu,AbL,AbH,reduceIte,Abx];done) | simp[hg]),trivial⟩ .slnil)
  ·have hm:=hg;try simp only[Abo,Abn] at hm
   have hn:=hg;try simp at hn
   refine Ay ?_;exact Aw (Bt trivial ⟨rfl,rfl,fs (by first | (simp only[hg,Ab1,Ab6,AbD,Ab2,Ab8,Ab7,AbC,Ab9,Abw,Ab5,Ab0,Abu,AbL,AbH,reduceIte,Abx];done) | simp[hg]),trivial⟩ .slnil)
 have hdg:OE p=(if ((decide ((0)<((p.length:Int))))&&(decide ((B1 p 0)=(45))))=true then List.drop (Int.toNat (1)) p else p):=rfl;have hdl:=X3 p;rw[hdg] at hdl;generalize(if ((decide ((0)<((p.length:Int))))&&(decide ((B1 p 0)=(45))))=true then List.drop (Int.toNat (1)) p else p)=dg at hdg hdl ⊢;refine An (AH [(2,.bool (false)),(3,.string (B (dg))),(26,.bool (((decide ((dg)=(([]:List UInt8))))||((decide ((B1 dg 0)=(48)))&&(!(decide ((p)=(([48]:List UInt8)))))))))] [] (φ:=True) ?_ (λh3=>?_))
 ·refine Ai (Ax (Aq rfl) rfl (Ax (EZ rfl rfl) rfl (Ax (Aq rfl) rfl (AO (decide ((dg)=(([]:List UInt8)))) (λha=>?_) (λha=>?_)))))
  ·have ho:=ha;try simp only[Abo,Abn] at ho
   have hq:=ha;try simp at hq
   refine A7 rfl rfl ha rfl (A7 rfl rfl ha rfl (A7 rfl rfl ha rfl (A7 rfl rfl ha rfl (Cs rfl rfl rfl (Cs rfl rfl rfl (A7 rfl rfl ha rfl (Ax (A2 rfl ha rfl) rfl (Am ?_))))))));exact Aw (Bt trivial ⟨rfl,rfl,fb (by first | (simp only[ha,Ab1,Ab6,AbD,Ab2,Ab8,Ab7,AbC,Ab9,Abw,Ab5,Ab0,Abu,AbL,AbH,reduceIte,Abx];done) | simp[ha]),trivial⟩ .slnil)
  ·have ho:=ha;try simp only[Abo,Abn] at ho
   have hq:=ha;try simp at hq
   refine AE rfl rfl ha (Ax (Aq rfl) rfl (AE rfl rfl ha (Ax (Bw Cu rfl rfl (by first | omega | exact HP (by assumption)) (by first | omega | exact HP (by assumption))) rfl (AE rfl rfl ha (Ax (B5 rfl rfl) rfl (AE rfl rfl ha (Ax (Aq rfl) rfl (AO (decide ((B1 dg 0)=(48))) (λhe=>?_) (λhe=>?_)))))))))
   ·have hr:=he;try simp only[Abo,Abn] at hr
    have hs:=he;try simp at hs
    refine AE rfl rfl he (Ax (Aq rfl) rfl (AE rfl rfl he (Ax (I0 rfl rfl) rfl (AE rfl rfl ha (Ax (A2 rfl he rfl) rfl (Ax (A8 rfl ha rfl) rfl (Am ?_)))))));exact Aw (Bt trivial ⟨rfl,rfl,fb (by first | (simp only[ha,he,Ab1,Ab6,AbD,Ab2,Ab8,Ab7,AbC,Ab9,Abw,Ab5,Ab0,Abu,AbL,AbH,reduceIte,Abx];done) | simp[ha,he]),trivial⟩ .slnil)
   ·have hr:=he;try simp only[Abo,Abn] at hr
    have hs:=he;try simp at hs
    refine A7 rfl rfl he rfl (A7 rfl rfl he rfl (AE rfl rfl ha (Ax (A8 rfl he rfl) rfl (Ax (A8 rfl ha rfl) rfl (Am ?_)))));exact Aw (Bt trivial ⟨rfl,rfl,fb (by first | (simp only[ha,he,Ab1,Ab6,AbD,Ab2,Ab8,Ab7,AbC,Ab9,Abw,Ab5,Ab0,Abu,AbL,AbH,reduceIte,Abx];done) | simp[ha,he]),trivial⟩ .slnil)
 refine C8 (b:=((decide ((dg)=(([]:List UInt8))))||((decide ((B1 dg 0)=(48)))&&(!(decide ((p)=(([48]:List UInt8)))))))) rfl (λhf=>?_) (λhf=>?_)
 ·have ht:=hf;try simp only[Abo,Abn] at ht
  have hu:=hf;try simp at hu
  refine An (Ai (Ax (Az rfl) rfl (Am (Aw (AQ ?_)))));refine A1 (Ae (A0 (BJ rfl rfl) ?_));exact Eh (by simp only[QO,hdg,hf];rfl)
 ·have ht:=hf;try simp only[Abo,Abn] at ht
  have hu:=hf;try simp at hu
  refine Ay (Aw (AQ ?_));refine An (An (Ai (Ax (Aq rfl) rfl (Ax (Bv Cu rfl) rfl (Ax (Aq rfl) rfl (Am (Aw (AQ ?_))))))));refine AJ (HC (S:=Nat) (λ(k:Nat)=>k≤dg.length∧Bn Ge 0 dg=Bn Ge k (dg.drop k)) (λ(k:Nat)=>[(29,.int .i64 ((k:Int))),(3,.string (B (dg))),(28,.int .i64 ((dg.length:Int)))]) (λ(k:Nat)=>[]) (λ(k:Nat)=>dg.length-k) (0) ?_ ⟨fi (by first | rfl | (simp;done) | omega | (simp;omega)),rfl,rfl,trivial⟩ .slnil ?_)
  ·exact⟨AbW _,by simp⟩
  rintro k hi0;refine An (Ai (Ax (C0 rfl rfl) rfl (Am (Aw (AQ ?_)))));refine An (C8 (b:=decide (((k:Int))<((dg.length:Int)))) rfl (λhh=>?_) (λhh=>?_))
  ·have hj:=hh;try simp only[Abo,Abn] at hj
   have hw:=hh;try simp at hw
   refine Ay (Aw (AQ ?_));refine An (AJ (An (Ai (Ax (Aq rfl) rfl (Ax (Az rfl) rfl (Am (Aw (AQ ?_))))))));refine AH [(3,.string (B (dg))),(4,.int .i64 ((k:Int))),(28,.int .i64 ((dg.length:Int))),(29,.int .i64 ((k:Int))),(30,.bool (decide (((k:Int))<((dg.length:Int))))),(31,.int .i64 ((k:Int))),(32,.string (B (dg))),(33,.int .i64 ((k:Int))),(34,.int .u8 (B1 dg (k:Int))),(35,.bool (decide ((B1 dg (k:Int))<(48)))),(36,.bool (decide ((B1 dg (k:Int))<(48)))),(41,.bool (((decide ((B1 dg (k:Int))<(48)))||(decide ((57)<(B1 dg (k:Int)))))))] [] (φ:=True) ?_ (λh4=>?_)
   ·refine Ai (Ax (Aq rfl) rfl (Ax (Aq rfl) rfl (Ax (Bw Cu rfl rfl (by first | omega | exact HP (by assumption)) (by first | omega | exact HP (by assumption))) rfl (Ax (C0 rfl rfl) rfl (Ax (Aq rfl) rfl (AO (decide ((B1 dg (k:Int))<(48))) (λhb=>?_) (λhb=>?_)))))))
    ·have hx:=hb;try simp only[Abo,Abn] at hx
     have hy:=hb;try simp at hy
     refine A7 rfl rfl hb rfl (A7 rfl rfl hb rfl (A7 rfl rfl hb rfl (A7 rfl rfl hb rfl (Ax (A2 rfl hb rfl) rfl (Am ?_)))));exact Aw (Bt trivial ⟨rfl,rfl,rfl,rfl,rfl,rfl,rfl,rfl,rfl,rfl,rfl,fb (by first | (simp only[hf,hh,hb,Ab1,Ab6,AbD,Ab2,Ab8,Ab7,AbC,Ab9,Abw,Ab5,Ab0,Abu,AbL,AbH,reduceIte,Abx];done) | simp[hf,hh,hb]),trivial⟩ .slnil)
    ·have hx:=hb;try simp only[Abo,Abn] at hx
     have hy:=hb;try simp at hy
     refine AE rfl rfl hb (Ax (Aq rfl) rfl (AE rfl rfl hb (Ax (Aq rfl) rfl (AE rfl rfl hb (Ax (Bw Cu rfl rfl (by first | omega | exact HP (by assumption)) (by first | omega | exact HP (by assumption))) rfl (AE rfl rfl hb (Ax (CI rfl rfl) rfl (Ax (A8 rfl hb rfl) rfl (Am ?_)))))))));exact Aw (Bt trivial ⟨rfl,rfl,rfl,rfl,rfl,rfl,rfl,rfl,rfl,rfl,rfl,fb (by first | (simp only[hf,hh,hb,Ab1,Ab6,AbD,Ab2,Ab8,Ab7,AbC,Ab9,Abw,Ab5,Ab0,Abu,AbL,AbH,reduceIte,Abx];done) | simp[hf,hh,hb]),trivial⟩ .slnil)
   refine C8 (b:=((decide ((B1 dg (k:Int))<(48)))||(decide ((57)<(B1 dg (k:Int)))))) rfl (λhi=>?_) (λhi=>?_)
   ·have hz:=hi;try simp only[Abo,Abn] at hz
    have h0:=hi;try simp at h0
    refine An (Ai (Ax (Az rfl) rfl (Am (Aw (AQ ?_)))));refine A1 (AC (Ae (Ae (AC (Ae (A0 (BJ rfl rfl) ?_))))));exact Eh (by simp[QO,hdg,ZO hi0 hj hi])
   ·have hz:=hi;try simp only[Abo,Abn] at hz
    have h0:=hi;try simp at h0
    refine Ay (AG (Aw (AQ ?_)));refine Ai (Ax (Bz rfl rfl (IntWalk.i64_in _ (by omega))) rfl (Ax (Aq rfl) rfl (Am (Aw (AI (k+1) ?_ ⟨fi (by first | rfl | (simp;done) | omega | (simp;omega)),rfl,rfl,trivial⟩ .slnil)))));exact X4 hi0 hj hi
  ·have hj:=hh;try simp only[Abo,Abn] at hj
   have hw:=hh;try simp at hw
   refine Bx (A6 (A6 (Bc (Aw (AQ ?_)))));refine An (Ai (Ax (Az rfl) rfl (Am (Aw (AQ ?_)))));refine A1 (A0 (BJ rfl rfl) ?_);exact Eh (by simp only[QO,hdg,hf,YM hi0 hj];rfl)
theorem Sg (m:Int)(h0 : -9223372036854775808≤m)(h1:m≤9223372036854775807)(w:World)(hE:Ty w):Calls Tryz.prog 46 [.int .i64 (m)].toArray w (HB w (.string (B (Lib.itoa m)))):=by
 refine DY (n:=5) Tryz.func46 rfl Tryz.ntmps46 rfl (An (Ai (Ax (Az rfl) rfl (Am (Aw (AQ ?_))))));refine An (Ai (Ax (Aq rfl) rfl (Cm Tryz.call79 rfl (λw hw=>Xl m (by omega) (by omega) w (hE.st0 hw)) rfl (Ax (Az rfl) rfl (Am (Aw (AQ ?_)))))));refine A1 (A0 (BJ rfl rfl) ?_);exact Eh (by first | rfl | simp[])
theorem Yq (p:List UInt8)(hp:p.length≤281474976710656)(w:World)(hE:Ty w):Calls Tryz.prog 99 [.string (B (p))].toArray w (HB w (.tuple #[.int .i64 (AX p),.int .i64 (C2 p)])):=by
 refine DY (n:=22) Tryz.func99 rfl Tryz.ntmps99 rfl (An (Ai (Ax (Az rfl) rfl (Ax (Az rfl) rfl (Am (Aw (AQ ?_)))))));refine An (An (Ai (Ax (Aq rfl) rfl (Cm Tryz.call123 rfl (λw hw=>V3 p (by first | omega | (simp;done) | (simp;omega) | (simp at *;omega)) w) rfl (Ax (BE rfl) rfl (Am (Aw (AQ ?_))))))));refine C8 (b:=!(QO p)) rfl (λhb=>?_) (λhb=>?_)
 ·have hf:=hb;try simp only[Abo,Abn] at hf
  have ha:=hb;try simp only[Abo,Abn,Abv,AbR,AbE,Acc,Acd,AbT,not_or,Int.not_lt,Int.not_le] at ha
  refine An (Ai (Ax (Az rfl) rfl (Ax (Az rfl) rfl (Am (Aw (AQ ?_))))));refine A1 (Ae (A0 (DJ rfl rfl rfl) ?_));exact Eh (by simp[AX,C2,ha])
 ·have hf:=hb;try simp only[Abo,Abn] at hf
  have ha:=hb;try simp only[Abo,Abn,Abv,AbR,AbE,Acc,Acd,AbT,not_or,Int.not_lt,Int.not_le] at ha
  refine Ay (Aw (AQ ?_));refine An (Ai (Ax (Aq rfl) rfl ?_));rcases XF (p:=p) (by assumption) with⟨av,hav,hal,hah⟩ | hav
  ·refine Cm Tryz.call124 rfl (λw _=>YV p (by first | omega | (simp;done) | (simp;omega) | (simp at *;omega)) av hav w) rfl (Ax (Aq rfl) rfl (Ax (AA rfl rfl) rfl (Ax (AA rfl rfl) rfl (Ax (Az rfl) rfl (Ax (Az rfl) rfl (Am (Aw (AQ ?_))))))));refine An (AH [(2,.int .i64 (0)),(3,.int .i64 (0)),(4,.int .i64 (av)),(20,.bool (!(NL av)))] [] (φ:=True) ?_ (λhh=>?_))
   ·exact Ai (Ax (Aq rfl) rfl (Ax (RI Tryz.underlying161 rfl) rfl (Ax (Aq rfl) rfl (AE rfl rfl rfl (Ax (Aq rfl) rfl (AE rfl rfl rfl (Cm Tryz.call117 rfl (λw hw=>XY av w) rfl (AE rfl rfl rfl (Ax (BE rfl) rfl (Ax (A8 rfl rfl rfl) rfl (Am (Aw (Bt trivial ⟨rfl,rfl,rfl,rfl,trivial⟩ .slnil)))))))))))))
   refine C8 (b:=!(NL av)) rfl (λhd=>?_) (λhd=>?_)
   ·have hg:=hd;try simp only[Abo,Abn] at hg
    have he:=hd;try simp only[Abo,Abn,Abv,AbR,AbE,Acc,Acd,AbT,not_or,Int.not_lt,Int.not_le] at he
    refine An (Ai (Ax (Az rfl) rfl (Ax (Az rfl) rfl (Am (Aw (AQ ?_))))));refine A1 (Ae (A0 (DJ rfl rfl rfl) ?_));exact Eh (by simp[AX,C2,hav,ha,he])
   ·have hg:=hd;try simp only[Abo,Abn] at hg
    have he:=hd;try simp only[Abo,Abn,Abv,AbR,AbE,Acc,Acd,AbT,not_or,Int.not_lt,Int.not_le] at he
    refine Ay (Aw (AQ ?_));refine An (Ai (Ax (Aq rfl) rfl (Ax (Az rfl) rfl (Ax (Az rfl) rfl (Am (Aw (AQ ?_)))))));refine A1 (A0 (DJ rfl rfl rfl) ?_);exact Eh (by simp[AX,C2,hav,ha,he])
  ·refine T6 Tryz.call124 rfl (λw hw=>Tx p (by first | omega | (simp;done) | (simp;omega) | (simp at *;omega)) hav w (hE.st0 hw)) rfl ?_;rintro _ _ ⟨am,at_,ab,rfl,rfl⟩;refine Ax (Aq rfl) rfl (Ax (AA rfl rfl) rfl (Ax (AA rfl rfl) rfl (Ax (Az rfl) rfl (Ax (Az rfl) rfl (Am (Aw (AQ ?_)))))));refine An (AH [(2,.int .i64 (0)),(3,.int .i64 (0)),(4,.int .i64 (am)),(20,.bool (true))] [] (φ:=True) ?_ (λhi=>?_))
   ·exact Ai (Ax (Aq rfl) rfl (Ax (Yw Tryz.underlying161 rfl) rfl (Ax (Aq rfl) rfl (A7 rfl rfl rfl rfl (A7 rfl rfl rfl rfl (A7 rfl rfl rfl rfl (Ax (A2 rfl rfl rfl) rfl (Am (Aw (Bt trivial ⟨rfl,rfl,rfl,rfl,trivial⟩ .slnil))))))))))
   refine DH rfl rfl (An (Ai (Ax (Az rfl) rfl (Ax (Az rfl) rfl (Am (Aw (AQ ?_)))))));refine A1 (Ae (A0 (DJ rfl rfl rfl) ?_));exact Eh (by simp[AX,C2,hav,ha])
theorem YP (p:List UInt8)(m:Int)(hp:p.length≤281474976710656)(w:World)(hE:Ty w):Calls Tryz.prog 67 [.string (B (p)),.int .i64 (m)].toArray w (HB w (.tuple #[.string (B (BY p m)),.int .i64 (Cg p m)])):=by
 refine DY (n:=25) Tryz.func67 rfl Tryz.ntmps67 rfl (An (Ai (Ax (Az rfl) rfl (Ax (Az rfl) rfl (Am (Aw (AQ ?_)))))));refine An (An (Ai (Ax (Aq rfl) rfl (Cm VT rfl (λw hw=>Aa4 p w) rfl (Ax (BE rfl) rfl (Am (Aw (AQ ?_))))))));refine C8 (b:=!(HR p)) rfl (λhb=>?_) (λhb=>?_)
 ·have hf:=hb;try simp only[Abo,Abn] at hf
  have hg:=hb;try simp at hg
  refine An (Ai (Ax (Az rfl) rfl (Ax (Az rfl) rfl (Am (Aw (AQ ?_))))));refine A1 (Ae (A0 (DJ rfl rfl rfl) ?_));have e:Cg p m=4:=by simp only[Cg,DZ];grind
  exact Eh (by simp[BY,e,DZ,B])
 ·have hf:=hb;try simp only[Abo,Abn] at hf
  have hg:=hb;try simp at hg
  refine Ay (Aw (AQ ?_));refine An (AH [(0,.string (B (p))),(1,.int .i64 (m)),(4,.string (B ([]))),(5,.int .i64 (0)),(15,.bool (((decide ((m)<(0)))||(decide ((1000000000000)<(m))))))] [] (φ:=True) ?_ (λhn=>?_))
  ·refine Ai (Ax (Aq rfl) rfl (Ax (C0 rfl rfl) rfl (Ax (Aq rfl) rfl (AO (decide ((m)<(0))) (λha=>?_) (λha=>?_)))))
   ·have hh:=ha;try simp only[Abo,Abn] at hh
    have hi:=ha;try simp at hi
    refine A7 rfl rfl ha rfl (A7 rfl rfl ha rfl (Ax (A2 rfl ha rfl) rfl (Am ?_)));exact Aw (Bt trivial ⟨rfl,rfl,rfl,rfl,fb (by first | (simp only[hb,ha,Ab1,Ab6,AbD,Ab2,Ab8,Ab7,AbC,Ab9,Abw,Ab5,Ab0,Abu,AbL,AbH,reduceIte,Abx];done) | simp[hb,ha]),trivial⟩ .slnil)
   ·have hh:=ha;try simp only[Abo,Abn] at hh
    have hi:=ha;try simp at hi
    refine AE rfl rfl ha (Ax (Aq rfl) rfl (AE rfl rfl ha (Ax (CI rfl rfl) rfl (Ax (A8 rfl ha rfl) rfl (Am ?_)))));exact Aw (Bt trivial ⟨rfl,rfl,rfl,rfl,fb (by first | (simp only[hb,ha,Ab1,Ab6,AbD,Ab2,Ab8,Ab7,AbC,Ab9,Abw,Ab5,Ab0,Abu,AbL,AbH,reduceIte,Abx];done) | simp[hb,ha]),trivial⟩ .slnil)
  refine C8 (b:=((decide ((m)<(0)))||(decide ((1000000000000)<(m))))) rfl (λhd=>?_) (λhd=>?_)
  ·have hj:=hd;try simp only[Abo,Abn] at hj
   have hk:=hd;try simp at hk
   refine An (Ai (Ax (Az rfl) rfl (Ax (Az rfl) rfl (Am (Aw (AQ ?_))))));refine A1 (Ae (A0 (DJ rfl rfl rfl) ?_));have e:Cg p m=2:=by simp only[Cg,DZ];grind
   exact Eh (by simp[BY,e,DZ,B])
  ·have hj:=hd;try simp only[Abo,Abn] at hj
   have hk:=hd;try simp at hk
   refine Ay (Aw (AQ ?_));refine An (Ai (Ax (Aq rfl) rfl (Ax (CU rfl rfl (by simp;omega)) rfl (Ax (Aq rfl) rfl (Cm NE rfl (λw hw=>Sg m (by omega) (by omega) w (hE.st0 hw)) rfl ?_)))));have ho:=O7 m (by omega) (by omega);refine Ax (CU rfl rfl (by simp;omega)) rfl (Ax (Az rfl) rfl (Am (Aw (AQ ?_))));refine An (An (Ai (Ax (Aq rfl) rfl (Ax (Bv Cu rfl) rfl (Ax (CI rfl rfl) rfl (Am (Aw (AQ ?_))))))));refine C8 (b:=decide ((64)<((((p++[46])++(Lib.itoa m)).length:Int)))) rfl (λhe=>?_) (λhe=>?_)
   ·have hl:=he;try simp only[Abo,Abn] at hl
    have hm:=he;try simp at hm
    refine An (Ai (Ax (Az rfl) rfl (Ax (Az rfl) rfl (Am (Aw (AQ ?_))))));refine A1 (Ae (A0 (DJ rfl rfl rfl) ?_));have e:Cg p m=3:=by simp only[Cg,DZ];grind
    exact Eh (by simp[BY,e,DZ,B])
   ·have hl:=he;try simp only[Abo,Abn] at hl
    have hm:=he;try simp at hm
    refine Ay (Aw (AQ ?_));refine An (Ai (Ax (Aq rfl) rfl (Ax (Az rfl) rfl (Ax (Az rfl) rfl (Am (Aw (AQ ?_)))))));refine A1 (A0 (DJ rfl rfl rfl) ?_);have e:Cg p m=0:=by simp only[Cg,DZ];grind
    exact Eh (by simp[BY,e,DZ,B])
end Go.Proofs.YtfobhhegpkinaaaGreatDoor
namespace Go.Proofs
open Go.Shelf
def Tryz.lays169_ren:Go.Shelf.Ren:=⟨fun | 169=>111 | n=>n,fun | 70=>143 | 9=>9 | 0=>0 | 72=>146 | 37=>144 | 127=>185 | 3=>3 | 5=>5 | n=>n,fun | n=>n⟩
theorem Tryz.lays169:Go.Proofs.Lays.n169 Tryz.prog Tryz.lays169_ren:={
 mixed:=by kernel_rfl
 f169:=Tryz.func111.trans (congrArg some (by kernel_rfl))
 t0:=Tryz.underlying0
 a0:=Tryz.isAgg0
 z0:=Tryz.sizeOf0
 v0:=Tryz.zeroValue0
 t3:=Tryz.underlying3
 a3:=Tryz.isAgg3
 z3:=Tryz.sizeOf3
 v3:=Tryz.zeroValue3
 t9:=Tryz.underlying9
 a9:=Tryz.isAgg9
 z9:=Tryz.sizeOf9
 v9:=Tryz.zeroValue9
 t37:=Tryz.underlying144
 a37:=Tryz.isAgg144
 z37:=Tryz.sizeOf144
 v37:=Tryz.zeroValue144
 t70:=Tryz.underlying143
 a70:=Tryz.isAgg143
 z70:=Tryz.sizeOf143
 v70:=Tryz.zeroValue143
 t72:=Tryz.underlying146
 a72:=Tryz.isAgg146
 z72:=Tryz.sizeOf146
 v72:=Tryz.zeroValue146
 t127:=Tryz.underlying185
 a127:=Tryz.isAgg185
 z127:=Tryz.sizeOf185
 v127:=Tryz.zeroValue185 }
theorem Tryz.Builder_Extra_169:Builder.Extra Tryz.prog Tryz.lays169_ren:={
 sizeBuilder:=by kernel_rfl
 liesBuilder:=by kernel_rfl
 t5:=Tryz.underlying5
 a5:=Tryz.isAgg5
 z5:=Tryz.sizeOf5
 v5:=Tryz.zeroValue5
 infoByte:=by kernel_rfl
 cellsByte:=by kernel_rfl
 sizeByte:=by kernel_rfl
 neB5:=by decide }
open Go.RowKit in
theorem Tryz.Builder_String_any (B b:Nat)(l:List UInt8)(w:World)(h:Lib.IsBuilder 146 5 B b (Lib.byteCells l) w)(hBw:B≤w.heap.size) :
  Calls Tryz.prog 111 #[.pointer (some ⟨b,0,none⟩)] w λe w'=>e = .returned (.string ⟨l.toArray⟩)∧Below B w w':=Any.Builder_String_any Tryz.lays169 Tryz.Builder_Extra_169 B b l w h hBw
def Tryz.lays138_ren:Go.Shelf.Ren:=⟨fun | 138=>151 | 195=>175 | 218=>176 | 143=>177 | 219=>198 | 217=>205 | 225=>206 | 224=>207 | 267=>208 | 266=>211 | 314=>212 | n=>n,fun | 9=>9 | 3=>3 | 4=>4 | 5=>5 | 0=>0 | 46=>134 | 146=>240 | 51=>158 | n=>n,fun | 1=>1 | n=>n⟩
theorem Tryz.lays138:Go.Proofs.Lays.n138 Tryz.prog Tryz.lays138_ren:={
 mixed:=by kernel_rfl
 f138:=Tryz.func151.trans (congrArg some (by kernel_rfl))
 f143:=Tryz.func177.trans (congrArg some (by kernel_rfl))
 f195:=Tryz.func175.trans (congrArg some (by kernel_rfl))
 f217:=Tryz.func205.trans (congrArg some (by kernel_rfl))
 f218:=Tryz.func176.trans (congrArg some (by kernel_rfl))
 f219:=Tryz.func198.trans (congrArg some (by kernel_rfl))
 f224:=Tryz.func207.trans (congrArg some (by kernel_rfl))
 f225:=Tryz.func206.trans (congrArg some (by kernel_rfl))
 f266:=Tryz.func211.trans (congrArg some (by kernel_rfl))
 f267:=Tryz.func208.trans (congrArg some (by kernel_rfl))
 f314:=Tryz.func212.trans (congrArg some (by kernel_rfl))
 t0:=Tryz.underlying0
 a0:=Tryz.isAgg0
 z0:=Tryz.sizeOf0
 v0:=Tryz.zeroValue0
 t3:=Tryz.underlying3
 a3:=Tryz.isAgg3
 z3:=Tryz.sizeOf3
 v3:=Tryz.zeroValue3
 t4:=Tryz.underlying4
 a4:=Tryz.isAgg4
 z4:=Tryz.sizeOf4
 v4:=Tryz.zeroValue4
 t5:=Tryz.underlying5
 a5:=Tryz.isAgg5
 z5:=Tryz.sizeOf5
 v5:=Tryz.zeroValue5
 t9:=Tryz.underlying9
 a9:=Tryz.isAgg9
 z9:=Tryz.sizeOf9
 v9:=Tryz.zeroValue9
 t46:=Tryz.underlying134
 a46:=Tryz.isAgg134
 z46:=Tryz.sizeOf134
 v46:=Tryz.zeroValue134
 t51:=Tryz.underlying158
 a51:=Tryz.isAgg158
 z51:=Tryz.sizeOf158
 v51:=Tryz.zeroValue158
 t146:=Tryz.underlying240
 a146:=Tryz.isAgg240
 z146:=Tryz.sizeOf240
 v146:=Tryz.zeroValue240
 g1:=by kernel_rfl }
open Go.RowKit Go.Lib in
theorem Tryz.strings_Count_one (s:ByteArray)(c:UInt8)(w:World) :
  Calls Tryz.prog 151 #[.string s,.string ⟨#[c]⟩] w λe w'=>e = .returned (.int .i64 (Lib.countByte s.data.toList c))∧w'=w:=Any.strings_Count_one Tryz.lays138 s c w
end Go.Proofs
namespace Go.Proofs.YtfobhhegpkinaaaGreatDoor
open Go
set_option linter.unusedVariables false
set_option linter.unusedSimpArgs false
theorem Uk {f:Nat→UInt8→Bool}{t:Int→Bool}{p:List UInt8}{k:Nat}(hf:∀u:UInt8,f k u=t u.toNat){c:Bool}(hi:k≤p.length∧c=Bn f k (p.drop k))(h:(k:Int)<p.length)(ht:t (B1 p k)=true) :
  k+1≤p.length∧c=Bn f (k+1) (p.drop (k+1)):=by
 obtain⟨u,hu⟩:=KA h;rw[QU hu] at ht;have hk:k<p.length:=by omega
 refine⟨by omega,?_⟩;rw[hi.2,KF hu];simp[Bn,hf,ht]
theorem Zj {f:Nat→UInt8→Bool}{t:Int→Bool}{p:List UInt8}{k:Nat}(hf:∀u:UInt8,f k u=t u.toNat){c:Bool}(hi:k≤p.length∧c=Bn f k (p.drop k))(h:(k:Int)<p.length)(ht:t (B1 p k)=false):c=false:=by
 obtain⟨u,hu⟩:=KA h;rw[QU hu] at ht;rw[hi.2,KF hu];simp[Bn,hf,ht]
theorem XG {f:Nat→UInt8→Bool}{p:List UInt8}{k:Nat}{c:Bool}(hi:k≤p.length∧c=Bn f k (p.drop k))(h : ¬ (k:Int)<p.length):c=true:=by
 rw[hi.2,List.drop_of_length_le (by omega)];rfl
def QC (c:Int):Bool:=Cj c||(CH c||(decide (c=45)||decide (c=95)))
theorem O2 {k:Nat}(hk:1≤k)(u:UInt8):DA k u=QC u.toNat:=by
 have:decide (k=0)=false:=by simp;omega
 simp only[DA,QC,this]
 cases Cj u.toNat<;>cases CH u.toNat<;>simp
theorem Y0 {p:List UInt8}(h:(!(decide ((p.length:Int)<1)||(decide ((24:Int)<p.length)||!Cj (B1 p 0))))=true):1≤p.length∧Dx p=Bn DA 1 (p.drop 1):=by
 simp only[AbE,AbT,Abn,Acc] at h;obtain⟨h1,h2,h3⟩:=h
 cases p with
 | nil=>simp at h1
 | cons u r=>
  have h4:Cj u.toNat=true:=h3;refine⟨by simp,?_⟩;have h5:r.length+1≤24:=by simp at h2;omega
  simp[Dx,Bn,DA,h4,h5]
theorem WV {p:List UInt8}(h:(decide ((p.length:Int)<1)||(decide ((24:Int)<p.length)||!Cj (B1 p 0)))=true):Dx p=false:=by
 simp only[AbR,Abo,AbE] at h;rcases h with h | h | h
 ·simp[Dx];omega
 ·simp[Dx];omega
 ·cases p with
  | nil=>rfl
  | cons u r=>
   have h4:Cj u.toNat=false:=h;simp[Dx,Bn,DA,h4]
theorem Sc (k:Nat)(u:UInt8):Lo k u=DU u.toNat:=rfl
theorem Aa5 {p:List UInt8}(h:(decide ((p.length:Int)<1)||decide ((64:Int)<p.length))=false):HR p=Bn Lo 0 p:=by
 simp only[AbT,Abn] at h;have h1:1≤p.length:=by omega
 have h2:p.length≤64:=by omega
 simp[HR,h1,h2]
theorem ZH {p:List UInt8}(h:(decide ((p.length:Int)<1)||decide ((64:Int)<p.length))=true):HR p=false:=by
 simp only[AbR,Abo] at h;simp[HR];omega
def Xy (n m:Int)(s:List UInt8):Prop:=(s=[]∧m=n)∨(s≠[]∧Lib.decDigits n.natAbs=(if m=0 then[] else Lib.decDigits m.natAbs)++s)
theorem PN (m:Int):∃d1:Nat,(if decide (m.tmod 10<0)=true then -(m.tmod 10) else m.tmod 10)=(d1:Int)∧d1=m.natAbs % 10∧d1<10:=by
 refine⟨m.natAbs % 10,?_,rfl,by omega⟩
 by_cases h:0≤m
 ·have:=Int.tmod_eq_emod_of_nonneg (a:=m) (b:=10) h;rw[this,Aca (by simp;omega)];omega
 ·have:=Int.tmod_eq_emod_of_nonneg (a:=-m) (b:=10) (by omega);rw[Int.neg_tmod] at this
  by_cases hz:m.tmod 10=0
  ·rw[hz];simp;omega
  ·rw[Aci (by simp;omega)];omega
theorem Vx {d:Nat}(h:d<10):List.take (Int.toNat ((d:Int)+1)-Int.toNat (d:Int)) (List.drop (Int.toNat (d:Int)) [48,49,50,51,52,53,54,55,56,57])=[UInt8.ofNat (48+d)]:=by
 have key:∀d:Nat,d<10→List.take (Int.toNat ((d:Int)+1)-Int.toNat (d:Int)) (List.drop (Int.toNat (d:Int)) ([48,49,50,51,52,53,54,55,56,57]:List UInt8))=[UInt8.ofNat (48+d)]:=by decide
 exact key d h
theorem NX (m:Int):(m.tdiv 10).natAbs=m.natAbs/10:=by
 rw[Int.natAbs_tdiv];rfl
theorem Vw (m:Int)(d1:Nat)(h:d1=m.natAbs % 10):Lib.decDigits m.natAbs=(if m.tdiv 10=0 then[] else Lib.decDigits (m.tdiv 10).natAbs)++[UInt8.ofNat (48+d1)]:=by
 have hz:m.tdiv 10=0↔m.natAbs<10:=by
  rw[← Int.natAbs_eq_zero,NX];omega
 rw[NX,Lib.decDigits]
 by_cases hs:m.natAbs<10
 ·rw[dif_pos hs,Aci (hz.2 hs),h,Nat.mod_eq_of_lt hs];rfl
 ·rw[dif_neg hs,Aca (λe=>hs (hz.1 e)),h]
theorem YH {n m:Int}{s:List UInt8}(h0 : -9223372036854775808≤n)(h1:n≤9223372036854775807)(hi:Xy n m s):s.length≤21:=by
 rcases hi with⟨rfl,_⟩ | ⟨_,h⟩
 ·simp
 ·have hl:(Lib.decDigits n.natAbs).length≤21:=by
   have:=O7 n h0 h1;unfold Lib.itoa at this
   split at this
   ·simp at this;omega
   ·rwa [show n.toNat=n.natAbs from by omega] at this
  rw[h] at hl;simp at hl;omega
theorem Xx {n m:Int}{s:List UInt8}{d1:Nat}(hi:Xy n m s)(hc:(!decide (m=0)||decide (s=[]))=true)(hd:d1=m.natAbs % 10) :
  Xy n (m.tdiv 10) (List.take (Int.toNat ((d1:Int)+1)-Int.toNat (d1:Int)) (List.drop (Int.toNat (d1:Int)) [48,49,50,51,52,53,54,55,56,57])++s)∧
  (m.tdiv 10).natAbs+(if List.take (Int.toNat ((d1:Int)+1)-Int.toNat (d1:Int)) (List.drop (Int.toNat (d1:Int)) [48,49,50,51,52,53,54,55,56,57])++s=[] then 1 else 0)<m.natAbs+(if s=[] then 1 else 0):=by
 rw[Vx (by omega)];have hs:=Vw m d1 hd;refine⟨.inr ⟨by simp,?_⟩,?_⟩
 ·rcases hi with⟨rfl,rfl⟩ | ⟨h1,h2⟩
  ·rw[hs];simp
  ·have hm:m≠0:=by simpa[h1] using hc
   rw[h2,Aca hm,hs];simp
 ·rw[Aca (by simp),NX]
  by_cases hm:m=0
  ·subst hm;have:s=[]:=by simpa using hc
   simp[this]
  ·have:0<m.natAbs:=by omega
   split<;>omega
theorem Ue {n m:Int}{s:List UInt8}(hi:Xy n m s)(hc:(!decide (m=0)||decide (s=[]))=false):Lib.decDigits n.natAbs=s:=by
 simp only[AbT,Acc,Abo,Abn] at hc;rcases hi with⟨h,_⟩ | ⟨_,h⟩
 ·exact absurd h hc.2
 ·rw[h,Aci hc.1];rfl
theorem YG {n:Int}{s:List UInt8}(h:Lib.decDigits n.natAbs=s)(hn:n<0):[45]++s=Lib.itoa n:=by
 unfold Lib.itoa;rw[Aci hn,h];rfl
theorem YF {n:Int}{s:List UInt8}(h:Lib.decDigits n.natAbs=s)(hn : ¬ n<0):s=Lib.itoa n:=by
 unfold Lib.itoa;rw[Aca hn,show n.toNat=n.natAbs from by omega,h]
open Go Go.RowKit
section
variable {P : Program} {n : Nat} {w0 : World} {M : List Nat} {l : Fr} {H : List Ent} {d : Option Nat} {x y : Operand} {ty t t' : TypeId} {pos : String} {af : Array Edge} {g : Option (Nat × Bool)} {k : IntKind} {p q z : Int}
theorem WA (hx:ev l x=some (.int k p))(hy:ev l y=some (.int k q))(hq:q≠0)(hz:k.wrap (p.tdiv q)=z):B0 P n w0 M l H { dst:=d,op:=.binOp .quo t x y t',type:=ty,pos:=pos,after:=af,guard:=g } (.int k z):=λa w ha _=>by
 simp[execOp,ha.eval hx,ha.eval hy,B8,binOp,Op.intDiv,hq,hz]
theorem W9 (hx:ev l x=some (.int k p))(hy:ev l y=some (.int k q))(hq:q≠0):B0 P n w0 M l H { dst:=d,op:=.binOp .rem t x y t',type:=ty,pos:=pos,after:=af,guard:=g } (.int k (p.tmod q)):=λa w ha _=>by
 simp[execOp,ha.eval hx,ha.eval hy,B8,binOp,Op.intDiv,hq]
end
theorem UD {m:Int}(h0 : -9223372036854775808≤m)(h1:m≤9223372036854775807) : -9223372036854775808≤m.tdiv 10∧m.tdiv 10≤9223372036854775807:=by
 have e:m.tdiv 10=if 0≤m then m/10 else -((-m)/10):=by
  split
  ·rename_i h;exact Int.tdiv_eq_ediv_of_nonneg h
  ·rename_i h
   have:=Int.tdiv_eq_ediv_of_nonneg (a:=-m) (b:=10) (by omega);rw[Int.neg_tdiv] at this;omega
 rw[e];split<;>omega
theorem UC (m:Int) : -10<m.tmod 10∧m.tmod 10<10:=by
 by_cases h:0≤m
 ·have:=Int.tmod_eq_emod_of_nonneg (a:=m) (b:=10) h;omega
 ·have:=Int.tmod_eq_emod_of_nonneg (a:=-m) (b:=10) (by omega);rw[Int.neg_tmod] at this;omega
set_option maxRecDepth 100000
theorem Z5 (p:List UInt8)(hp:p.length≤281474976710656)(w:World):Calls Tryz.prog 58 [.string (B (p))].toArray w (HB w (.bool (Dx p))):=by
 refine DY (n:=48) Tryz.func58 rfl Tryz.ntmps58 rfl (An (Ai (Ax (Az rfl) rfl (Am (Aw (AQ ?_))))));refine An (AH [(0,.string (B (p))),(2,.bool (false)),(17,.bool (((decide (((p.length:Int))<(1)))||((decide ((24)<((p.length:Int))))||(!(Cj (B1 p 0)))))))] [] (φ:=True) ?_ (λh2=>?_))
 ·refine Ai (Ax (Aq rfl) rfl (Ax (Bv Cu rfl) rfl (Ax (C0 rfl rfl) rfl (Ax (Aq rfl) rfl (AO (decide (((p.length:Int))<(1))) (λhg=>?_) (λhg=>?_))))))
  ·have hk:=hg;try simp only[Abo,Abn] at hk
   have hl:=hg;try simp at hl
   refine A7 rfl rfl hg rfl (A7 rfl rfl hg rfl (A7 rfl rfl hg rfl (Ax (A2 rfl hg rfl) rfl (Ax (Aq rfl) rfl (A7 rfl rfl rfl rfl (A7 rfl rfl rfl rfl (A7 rfl rfl rfl rfl (A7 rfl rfl rfl rfl (Ax (A2 rfl rfl rfl) rfl (Am ?_))))))))));exact Aw (Bt trivial ⟨rfl,rfl,fb (by first | (simp only[hg,Ab1,Ab6,AbD,Ab2,Ab8,Ab7,AbC,Ab9,Abw,Ab5,Ab0,Abu,AbL,AbH,reduceIte,Abx];done) | simp[hg]),trivial⟩ .slnil)
  ·have hk:=hg;try simp only[Abo,Abn] at hk
   have hl:=hg;try simp at hl
   refine AE rfl rfl hg (Ax (Aq rfl) rfl (AE rfl rfl hg (Ax (Bv Cu rfl) rfl (AE rfl rfl hg (Ax (CI rfl rfl) rfl (Ax (A8 rfl hg rfl) rfl (Ax (Aq rfl) rfl (AO (decide ((24)<((p.length:Int)))) (λhh=>?_) (λhh=>?_)))))))))
   ·have hm:=hh;try simp only[Abo,Abn] at hm
    have hn:=hh;try simp at hn
    refine A7 rfl rfl hh rfl (A7 rfl rfl hh rfl (A7 rfl rfl hh rfl (A7 rfl rfl hh rfl (Ax (A2 rfl hh rfl) rfl (Am ?_)))));exact Aw (Bt trivial ⟨rfl,rfl,fb (by first | (simp only[hg,hh,Ab1,Ab6,AbD,Ab2,Ab8,Ab7,AbC,Ab9,Abw,Ab5,Ab0,Abu,AbL,AbH,reduceIte,Abx];done) | simp[hg,hh]),trivial⟩ .slnil)
   ·have hm:=hh;try simp only[Abo,Abn] at hm
    have hn:=hh;try simp at hn
    refine AE rfl rfl hh (Ax (Aq rfl) rfl (AE rfl rfl hh (Ax (Bw Cu rfl rfl (by first | omega | (simp;omega) | (simp at *;omega)) (by first | omega | (simp;omega) | (simp at *;omega))) rfl (AE rfl rfl hh (Cm Tryz.call93 rfl (λw hw=>Qg (B1 p 0) w) rfl (AE rfl rfl hh (Ax (BE rfl) rfl (Ax (A8 rfl hh rfl) rfl (Am ?_)))))))));exact Aw (Bt trivial ⟨rfl,rfl,fb (by first | (simp only[hg,hh,Ab1,Ab6,AbD,Ab2,Ab8,Ab7,AbC,Ab9,Abw,Ab5,Ab0,Abu,AbL,AbH,reduceIte,Abx];done) | simp[hg,hh]),trivial⟩ .slnil)
 refine C8 (b:=((decide (((p.length:Int))<(1)))||((decide ((24)<((p.length:Int))))||(!(Cj (B1 p 0)))))) rfl (λhb=>?_) (λhb=>?_)
 ·have ho:=hb;try simp only[Abo,Abn] at ho
  have hq:=hb;try simp at hq
  refine An (Ai (Ax (Az rfl) rfl (Am (Aw (AQ ?_)))));refine A1 (Ae (A0 (BJ rfl rfl) ?_));exact Eh (by rw[WV hb])
 ·have ho:=hb;try simp only[Abo,Abn] at ho
  have hq:=hb;try simp at hq
  refine Ay (Aw (AQ ?_));refine An (An (Ai (Ax (Az rfl) rfl (Am (Aw (AQ ?_))))));refine AJ (HC (S:=Nat) (λ(k:Nat)=>1≤k∧(k≤p.length∧Dx p=Bn DA k (p.drop k))) (λ(k:Nat)=>[(3,.int .i64 ((k:Int))),(0,.string (B (p)))]) (λ(k:Nat)=>[]) (λ(k:Nat)=>p.length-k) (1) ?_ ⟨fi (by first | rfl | (simp;done) | omega | (simp;omega)),rfl,trivial⟩ .slnil ?_)
  ·exact⟨AbI _,Y0 (by simp[hb])⟩
  rintro k hi0;have hk1:=hi0.1;refine An (An (Ai (Ax (Aq rfl) rfl (Ax (Aq rfl) rfl (Ax (Bv Cu rfl) rfl (Ax (C0 rfl rfl) rfl (Am (Aw (AQ ?_)))))))));refine C8 (b:=decide (((k:Int))<((p.length:Int)))) rfl (λhd=>?_) (λhd=>?_)
  ·have hj:=hd;try simp only[Abo,Abn] at hj
   have hr:=hd;try simp at hr
   refine Ay (Aw (AQ ?_));refine An (AJ (AH [(0,.string (B (p))),(3,.int .i64 ((k:Int))),(18,.int .i64 ((k:Int))),(19,.string (B (p))),(20,.int .i64 ((p.length:Int))),(21,.bool (decide (((k:Int))<((p.length:Int))))),(24,.string (B (p))),(25,.int .i64 ((k:Int))),(26,.int .u8 (B1 p (k:Int))),(27,.bool (Cj (B1 p (k:Int)))),(28,.bool (!(Cj (B1 p (k:Int))))),(29,.bool (!(Cj (B1 p (k:Int))))),(35,.bool (((!(Cj (B1 p (k:Int))))&&(!(CH (B1 p (k:Int))))))),(36,.bool (((!(Cj (B1 p (k:Int))))&&(!(CH (B1 p (k:Int))))))),(41,.bool (((!(Cj (B1 p (k:Int))))&&((!(CH (B1 p (k:Int))))&&(!(decide ((B1 p (k:Int))=(45)))))))),(42,.bool (((!(Cj (B1 p (k:Int))))&&((!(CH (B1 p (k:Int))))&&(!(decide ((B1 p (k:Int))=(45)))))))),(47,.bool (((!(Cj (B1 p (k:Int))))&&((!(CH (B1 p (k:Int))))&&((!(decide ((B1 p (k:Int))=(45))))&&(!(decide ((B1 p (k:Int))=(95)))))))))] [] (φ:=True) ?_ (λh3=>?_)))
   ·refine Ai (Ax (Aq rfl) rfl (Ax (Aq rfl) rfl (Ax (Bw Cu rfl rfl (by first | omega | (simp;omega) | (simp at *;omega)) (by first | omega | (simp;omega) | (simp at *;omega))) rfl (Cm Tryz.call93 rfl (λw hw=>Qg (B1 p (k:Int)) w) rfl (Ax (BE rfl) rfl (Ax (Aq rfl) rfl (AO (!(Cj (B1 p (k:Int)))) (λha=>?_) (λha=>?_))))))))
    ·have hs:=ha;try simp only[Abo,Abn] at hs
     have ht:=ha;try simp at ht
     refine AE rfl rfl ha (Ax (Aq rfl) rfl (AE rfl rfl ha (Ax (Aq rfl) rfl (AE rfl rfl ha (Ax (Bw Cu rfl rfl (by first | omega | (simp;omega) | (simp at *;omega)) (by first | omega | (simp;omega) | (simp at *;omega))) rfl (AE rfl rfl ha (Cm Tryz.call94 rfl (λw hw=>QM (B1 p (k:Int)) w) rfl (AE rfl rfl ha (Ax (BE rfl) rfl (Ax (A2 rfl ha rfl) rfl (Ax (Aq rfl) rfl (AO (!(CH (B1 p (k:Int)))) (λhe=>?_) (λhe=>?_)))))))))))))
     ·have hu:=he;try simp only[Abo,Abn] at hu
      have hx:=he;try simp at hx
      refine AE rfl rfl he (Ax (Aq rfl) rfl (AE rfl rfl he (Ax (Aq rfl) rfl (AE rfl rfl he (Ax (Bw Cu rfl rfl (by first | omega | (simp;omega) | (simp at *;omega)) (by first | omega | (simp;omega) | (simp at *;omega))) rfl (AE rfl rfl he (Ax (BT rfl rfl) rfl (Ax (A2 rfl he rfl) rfl (Ax (Aq rfl) rfl (AO (!(decide ((B1 p (k:Int))=(45)))) (λhf=>?_) (λhf=>?_)))))))))))
      ·have hy:=hf;try simp only[Abo,Abn] at hy
       have hz:=hf;try simp at hz
       refine AE rfl rfl hf (Ax (Aq rfl) rfl (AE rfl rfl hf (Ax (Aq rfl) rfl (AE rfl rfl hf (Ax (Bw Cu rfl rfl (by first | omega | (simp;omega) | (simp at *;omega)) (by first | omega | (simp;omega) | (simp at *;omega))) rfl (AE rfl rfl hf (Ax (BT rfl rfl) rfl (Ax (A2 rfl hf rfl) rfl (Am ?_)))))))));exact Aw (Bt trivial ⟨rfl,rfl,rfl,rfl,rfl,rfl,rfl,rfl,rfl,rfl,rfl,rfl,fb (by first | (simp only[hb,hd,ha,he,hf,Ab1,Ab6,AbD,Ab2,Ab8,Ab7,AbC,Ab9,Abw,Ab5,Ab0,Abu,AbL,AbH,reduceIte,Abx];done) | simp[hb,hd,ha,he,hf]),fb (by first | (simp only[hb,hd,ha,he,hf,Ab1,Ab6,AbD,Ab2,Ab8,Ab7,AbC,Ab9,Abw,Ab5,Ab0,Abu,AbL,AbH,reduceIte,Abx];done) | simp[hb,hd,ha,he,hf]),fb (by first | (simp only[hb,hd,ha,he,hf,Ab1,Ab6,AbD,Ab2,Ab8,Ab7,AbC,Ab9,Abw,Ab5,Ab0,Abu,AbL,AbH,reduceIte,Abx];done) | simp[hb,hd,ha,he,hf]),fb (by first | (simp only[hb,hd,ha,he,hf,Ab1,Ab6,AbD,Ab2,Ab8,Ab7,AbC,Ab9,Abw,Ab5,Ab0,Abu,AbL,AbH,reduceIte,Abx];done) | simp[hb,hd,ha,he,hf]),fb (by first | (simp only[hb,hd,ha,he,hf,Ab1,Ab6,AbD,Ab2,Ab8,Ab7,AbC,Ab9,Abw,Ab5,Ab0,Abu,AbL,AbH,reduceIte,Abx];done) | simp[hb,hd,ha,he,hf]),trivial⟩ .slnil)
      ·have hy:=hf;try simp only[Abo,Abn] at hy
       have hz:=hf;try simp at hz
       refine A7 rfl rfl hf rfl (A7 rfl rfl hf rfl (A7 rfl rfl hf rfl (A7 rfl rfl hf rfl (Ax (A8 rfl hf rfl) rfl (Am ?_)))));exact Aw (Bt trivial ⟨rfl,rfl,rfl,rfl,rfl,rfl,rfl,rfl,rfl,rfl,rfl,rfl,fb (by first | (simp only[hb,hd,ha,he,hf,Ab1,Ab6,AbD,Ab2,Ab8,Ab7,AbC,Ab9,Abw,Ab5,Ab0,Abu,AbL,AbH,reduceIte,Abx];done) | simp[hb,hd,ha,he,hf]),fb (by first | (simp only[hb,hd,ha,he,hf,Ab1,Ab6,AbD,Ab2,Ab8,Ab7,AbC,Ab9,Abw,Ab5,Ab0,Abu,AbL,AbH,reduceIte,Abx];done) | simp[hb,hd,ha,he,hf]),fb (by first | (simp only[hb,hd,ha,he,hf,Ab1,Ab6,AbD,Ab2,Ab8,Ab7,AbC,Ab9,Abw,Ab5,Ab0,Abu,AbL,AbH,reduceIte,Abx];done) | simp[hb,hd,ha,he,hf]),fb (by first | (simp only[hb,hd,ha,he,hf,Ab1,Ab6,AbD,Ab2,Ab8,Ab7,AbC,Ab9,Abw,Ab5,Ab0,Abu,AbL,AbH,reduceIte,Abx];done) | simp[hb,hd,ha,he,hf]),fb (by first | (simp only[hb,hd,ha,he,hf,Ab1,Ab6,AbD,Ab2,Ab8,Ab7,AbC,Ab9,Abw,Ab5,Ab0,Abu,AbL,AbH,reduceIte,Abx];done) | simp[hb,hd,ha,he,hf]),trivial⟩ .slnil)
     ·have hu:=he;try simp only[Abo,Abn] at hu
      have hx:=he;try simp at hx
      refine A7 rfl rfl he rfl (A7 rfl rfl he rfl (A7 rfl rfl he rfl (A7 rfl rfl he rfl (Ax (A8 rfl he rfl) rfl (Ax (Aq rfl) rfl (A7 rfl rfl rfl rfl (A7 rfl rfl rfl rfl (A7 rfl rfl rfl rfl (A7 rfl rfl rfl rfl (Ax (A8 rfl rfl rfl) rfl (Am ?_)))))))))));exact Aw (Bt trivial ⟨rfl,rfl,rfl,rfl,rfl,rfl,rfl,rfl,rfl,rfl,rfl,rfl,fb (by first | (simp only[hb,hd,ha,he,Ab1,Ab6,AbD,Ab2,Ab8,Ab7,AbC,Ab9,Abw,Ab5,Ab0,Abu,AbL,AbH,reduceIte,Abx];done) | simp[hb,hd,ha,he]),fb (by first | (simp only[hb,hd,ha,he,Ab1,Ab6,AbD,Ab2,Ab8,Ab7,AbC,Ab9,Abw,Ab5,Ab0,Abu,AbL,AbH,reduceIte,Abx];done) | simp[hb,hd,ha,he]),fb (by first | (simp only[hb,hd,ha,he,Ab1,Ab6,AbD,Ab2,Ab8,Ab7,AbC,Ab9,Abw,Ab5,Ab0,Abu,AbL,AbH,reduceIte,Abx];done) | simp[hb,hd,ha,he]),fb (by first | (simp only[hb,hd,ha,he,Ab1,Ab6,AbD,Ab2,Ab8,Ab7,AbC,Ab9,Abw,Ab5,Ab0,Abu,AbL,AbH,reduceIte,Abx];done) | simp[hb,hd,ha,he]),fb (by first | (simp only[hb,hd,ha,he,Ab1,Ab6,AbD,Ab2,Ab8,Ab7,AbC,Ab9,Abw,Ab5,Ab0,Abu,AbL,AbH,reduceIte,Abx];done) | simp[hb,hd,ha,he]),trivial⟩ .slnil)
    ·have hs:=ha;try simp only[Abo,Abn] at hs
     have ht:=ha;try simp at ht
     refine A7 rfl rfl ha rfl (A7 rfl rfl ha rfl (A7 rfl rfl ha rfl (A7 rfl rfl ha rfl (A7 rfl rfl ha rfl (Ax (A8 rfl ha rfl) rfl (Ax (Aq rfl) rfl (A7 rfl rfl rfl rfl (A7 rfl rfl rfl rfl (A7 rfl rfl rfl rfl (A7 rfl rfl rfl rfl (Ax (A8 rfl rfl rfl) rfl (Ax (Aq rfl) rfl (A7 rfl rfl rfl rfl (A7 rfl rfl rfl rfl (A7 rfl rfl rfl rfl (A7 rfl rfl rfl rfl (Ax (A8 rfl rfl rfl) rfl (Am ?_))))))))))))))))));exact Aw (Bt trivial ⟨rfl,rfl,rfl,rfl,rfl,rfl,rfl,rfl,rfl,rfl,rfl,rfl,fb (by first | (simp only[hb,hd,ha,Ab1,Ab6,AbD,Ab2,Ab8,Ab7,AbC,Ab9,Abw,Ab5,Ab0,Abu,AbL,AbH,reduceIte,Abx];done) | simp[hb,hd,ha]),fb (by first | (simp only[hb,hd,ha,Ab1,Ab6,AbD,Ab2,Ab8,Ab7,AbC,Ab9,Abw,Ab5,Ab0,Abu,AbL,AbH,reduceIte,Abx];done) | simp[hb,hd,ha]),fb (by first | (simp only[hb,hd,ha,Ab1,Ab6,AbD,Ab2,Ab8,Ab7,AbC,Ab9,Abw,Ab5,Ab0,Abu,AbL,AbH,reduceIte,Abx];done) | simp[hb,hd,ha]),fb (by first | (simp only[hb,hd,ha,Ab1,Ab6,AbD,Ab2,Ab8,Ab7,AbC,Ab9,Abw,Ab5,Ab0,Abu,AbL,AbH,reduceIte,Abx];done) | simp[hb,hd,ha]),fb (by first | (simp only[hb,hd,ha,Ab1,Ab6,AbD,Ab2,Ab8,Ab7,AbC,Ab9,Abw,Ab5,Ab0,Abu,AbL,AbH,reduceIte,Abx];done) | simp[hb,hd,ha]),trivial⟩ .slnil)
   refine C8 (b:=((!(Cj (B1 p (k:Int))))&&((!(CH (B1 p (k:Int))))&&((!(decide ((B1 p (k:Int))=(45))))&&(!(decide ((B1 p (k:Int))=(95)))))))) rfl (λhi=>?_) (λhi=>?_)
   ·have h0:=hi;try simp only[Abo,Abn] at h0
    have h1:=hi;try simp at h1
    refine An (Ai (Ax (Az rfl) rfl (Am (Aw (AQ ?_)))));refine A1 (AC (Ae (Ae (AC (Ae (A0 (BJ rfl rfl) ?_))))));exact Eh (by rw[Zj (O2 hi0.1) hi0.2 hj (by simp only[QC];revert hi;cases Cj (B1 p ↑k)<;>cases CH (B1 p ↑k)<;>simp)])
   ·have h0:=hi;try simp only[Abo,Abn] at h0
    have h1:=hi;try simp at h1
    refine Ay (AG (Aw (AQ ?_)));refine Ai (Ax (Aq rfl) rfl (Ax (Bz rfl rfl (IntWalk.i64_in _ (by omega))) rfl (Ax (Az rfl) rfl (Am (Aw (AI (k+1) ?_ ⟨fi (by first | rfl | (simp;done) | omega | (simp;omega)),rfl,trivial⟩ .slnil))))));exact⟨⟨by omega,Uk (O2 hi0.1) hi0.2 hj (by simp only[QC];revert hi;cases Cj (B1 p ↑k)<;>cases CH (B1 p ↑k)<;>simp<;>omega)⟩,by omega⟩
  ·have hj:=hd;try simp only[Abo,Abn] at hj
   have hr:=hd;try simp at hr
   refine Bx (A6 (A6 (Bc (Aw (AQ ?_)))));refine An (Ai (Ax (Az rfl) rfl (Am (Aw (AQ ?_)))));refine A1 (A0 (BJ rfl rfl) ?_);exact Eh (by rw[XG hi0.2 hj])
theorem Aa2 (p:List UInt8)(hp:p.length≤281474976710656)(w:World):Calls Tryz.prog 57 [.string (B (p))].toArray w (HB w (.bool (HR p))):=by
 refine DY (n:=23) Tryz.func57 rfl Tryz.ntmps57 rfl (An (Ai (Ax (Az rfl) rfl (Am (Aw (AQ ?_))))));refine An (AH [(0,.string (B (p))),(2,.bool (false)),(11,.bool (((decide (((p.length:Int))<(1)))||(decide ((64)<((p.length:Int)))))))] [] (φ:=True) ?_ (λhn=>?_))
 ·refine Ai (Ax (Aq rfl) rfl (Ax (Bv Cu rfl) rfl (Ax (C0 rfl rfl) rfl (Ax (Aq rfl) rfl (AO (decide (((p.length:Int))<(1))) (λha=>?_) (λha=>?_))))))
  ·have hh:=ha;try simp only[Abo,Abn] at hh
   have hi:=ha;try simp at hi
   refine A7 rfl rfl ha rfl (A7 rfl rfl ha rfl (A7 rfl rfl ha rfl (Ax (A2 rfl ha rfl) rfl (Am ?_))));exact Aw (Bt trivial ⟨rfl,rfl,fb (by first | (simp only[ha,Ab1,Ab6,AbD,Ab2,Ab8,Ab7,AbC,Ab9,Abw,Ab5,Ab0,Abu,AbL,AbH,reduceIte,Abx];done) | simp[ha]),trivial⟩ .slnil)
  ·have hh:=ha;try simp only[Abo,Abn] at hh
   have hi:=ha;try simp at hi
   refine AE rfl rfl ha (Ax (Aq rfl) rfl (AE rfl rfl ha (Ax (Bv Cu rfl) rfl (AE rfl rfl ha (Ax (CI rfl rfl) rfl (Ax (A8 rfl ha rfl) rfl (Am ?_)))))));exact Aw (Bt trivial ⟨rfl,rfl,fb (by first | (simp only[ha,Ab1,Ab6,AbD,Ab2,Ab8,Ab7,AbC,Ab9,Abw,Ab5,Ab0,Abu,AbL,AbH,reduceIte,Abx];done) | simp[ha]),trivial⟩ .slnil)
 refine C8 (b:=((decide (((p.length:Int))<(1)))||(decide ((64)<((p.length:Int)))))) rfl (λhb=>?_) (λhb=>?_)
 ·have hj:=hb;try simp only[Abo,Abn] at hj
  have hk:=hb;try simp at hk
  refine An (Ai (Ax (Az rfl) rfl (Am (Aw (AQ ?_)))));refine A1 (Ae (A0 (BJ rfl rfl) ?_));exact Eh (by rw[ZH hb])
 ·have hj:=hb;try simp only[Abo,Abn] at hj
  have hk:=hb;try simp at hk
  refine Ay (Aw (AQ ?_));refine An (An (Ai (Ax (Az rfl) rfl (Am (Aw (AQ ?_))))));refine AJ (HC (S:=Nat) (λ(k:Nat)=>k≤p.length∧HR p=Bn Lo k (p.drop k)) (λ(k:Nat)=>[(3,.int .i64 ((k:Int))),(0,.string (B (p)))]) (λ(k:Nat)=>[]) (λ(k:Nat)=>p.length-k) (0) ?_ ⟨fi (by first | rfl | (simp;done) | omega | (simp;omega)),rfl,trivial⟩ .slnil ?_)
  ·exact⟨AbW _,Aa5 hb⟩
  rintro k hi0;refine An (An (Ai (Ax (Aq rfl) rfl (Ax (Aq rfl) rfl (Ax (Bv Cu rfl) rfl (Ax (C0 rfl rfl) rfl (Am (Aw (AQ ?_)))))))));refine C8 (b:=decide (((k:Int))<((p.length:Int)))) rfl (λhe=>?_) (λhe=>?_)
  ·have hd:=he;try simp only[Abo,Abn] at hd
   have hl:=he;try simp at hl
   refine Ay (Aw (AQ ?_));refine An (AJ (An (Ai (Ax (Aq rfl) rfl (Ax (Aq rfl) rfl (Ax (Bw Cu rfl rfl (by first | omega | (simp;omega) | (simp at *;omega)) (by first | omega | (simp;omega) | (simp at *;omega))) rfl (Cm Tryz.call92 rfl (λw hw=>Zu (B1 p (k:Int)) w) rfl (Ax (BE rfl) rfl (Am (Aw (AQ ?_)))))))))));refine C8 (b:=!(DU (B1 p (k:Int)))) rfl (λhf=>?_) (λhf=>?_)
   ·have hm:=hf;try simp only[Abo,Abn] at hm
    have hg:=hf;try simp only[Abo,Abn,Abv,AbR,AbE,Acc,Acd,AbT,not_or,Int.not_lt,Int.not_le] at hg
    refine An (Ai (Ax (Az rfl) rfl (Am (Aw (AQ ?_)))));refine A1 (AC (Ae (Ae (AC (Ae (A0 (BJ rfl rfl) ?_))))));exact Eh (by rw[Zj (Sc k) hi0 hd hg])
   ·have hm:=hf;try simp only[Abo,Abn] at hm
    have hg:=hf;try simp only[Abo,Abn,Abv,AbR,AbE,Acc,Acd,AbT,not_or,Int.not_lt,Int.not_le] at hg
    refine Ay (AG (Aw (AQ ?_)));refine Ai (Ax (Aq rfl) rfl (Ax (Bz rfl rfl (IntWalk.i64_in _ (by omega))) rfl (Ax (Az rfl) rfl (Am (Aw (AI (k+1) ?_ ⟨fi (by first | rfl | (simp;done) | omega | (simp;omega)),rfl,trivial⟩ .slnil))))));exact⟨Uk (Sc k) hi0 hd hg,by omega⟩
  ·have hd:=he;try simp only[Abo,Abn] at hd
   have hl:=he;try simp at hl
   refine Bx (A6 (A6 (Bc (Aw (AQ ?_)))));refine An (Ai (Ax (Az rfl) rfl (Am (Aw (AQ ?_)))));refine A1 (A0 (BJ rfl rfl) ?_);exact Eh (by rw[XG hi0 hd])
theorem Sf (n:Int)(h0 : -9223372036854775808≤n)(h1:n≤9223372036854775807)(w:World):Calls Tryz.prog 49 [.int .i64 (n)].toArray w (HB w (.string (B (Lib.itoa n)))):=by
 refine DY (n:=34) Tryz.func49 rfl Tryz.ntmps49 rfl (An (Ai (Ax (Az rfl) rfl (Am (Aw (AQ ?_))))));refine An (Ai (Ax (Az rfl) rfl (Am (Aw (AQ ?_)))));refine An (Ai (Ax (Az rfl) rfl (Am (Aw (AQ ?_)))));refine An (An (Ai (Ax (Aq rfl) rfl (Ax (Az rfl) rfl (Am (Aw (AQ ?_)))))));refine AJ (HC (S:=Int×List UInt8) (λ(x:Int×List UInt8)=>match x with | ⟨m,s⟩=>(-9223372036854775808≤m∧m≤9223372036854775807)∧Xy n m s) (λ(x:Int×List UInt8)=>match x with | ⟨m,s⟩=>[(5,.int .i64 (m)),(4,.string (B (s))),(0,.int .i64 (n)),(2,.string (B ([]))),(3,.string (B ([48,49,50,51,52,53,54,55,56,57])))]) (λ(x:Int×List UInt8)=>match x with | ⟨m,s⟩=>[]) (λ(x:Int×List UInt8)=>match x with | ⟨m,s⟩=>m.natAbs+(if s=[] then 1 else 0)) (n,[]) ?_ ⟨fi (by first | rfl | (simp;done) | omega | (simp;omega)),fs (by first | rfl | simp),rfl,rfl,rfl,trivial⟩ .slnil ?_)
 ·exact⟨⟨h0,h1⟩,.inl ⟨rfl,rfl⟩⟩
 rintro⟨m,s⟩ hi0;have hb:=hi0.1;have hsl:=YH h0 h1 hi0.2;have htd:=UD hi0.1.1 hi0.1.2;have htm:=UC m;refine An (AH [(0,.int .i64 (n)),(2,.string (B ([]))),(3,.string (B ([48,49,50,51,52,53,54,55,56,57]))),(4,.string (B (s))),(5,.int .i64 (m)),(8,.int .i64 (m)),(9,.bool (!(decide ((m)=(0))))),(10,.bool (!(decide ((m)=(0))))),(13,.bool (((!(decide ((m)=(0))))||(decide ((s)=(([]:List UInt8)))))))] [] (φ:=True) ?_ (λhn=>?_))
 ·refine Ai (Ax (Aq rfl) rfl (Ax (BT rfl rfl) rfl (Ax (Aq rfl) rfl (AO (!(decide ((m)=(0)))) (λha=>?_) (λha=>?_)))))
  ·have hh:=ha;try simp only[Abo,Abn] at hh
   have hi:=ha;try simp at hi
   refine A7 rfl rfl ha rfl (A7 rfl rfl ha rfl (Ax (A2 rfl ha rfl) rfl (Am ?_)));exact Aw (Bt trivial ⟨rfl,rfl,rfl,rfl,rfl,rfl,rfl,rfl,fb (by first | (simp only[ha,Ab1,Ab6,AbD,Ab2,Ab8,Ab7,AbC,Ab9,Abw,Ab5,Ab0,Abu,AbL,AbH,reduceIte,Abx];done) | simp[ha]),trivial⟩ .slnil)
  ·have hh:=ha;try simp only[Abo,Abn] at hh
   have hi:=ha;try simp at hi
   refine AE rfl rfl ha (Ax (Aq rfl) rfl (AE rfl rfl ha (Ax (EZ rfl rfl) rfl (Ax (A8 rfl ha rfl) rfl (Am ?_)))));exact Aw (Bt trivial ⟨rfl,rfl,rfl,rfl,rfl,rfl,rfl,rfl,fb (by first | (simp only[ha,Ab1,Ab6,AbD,Ab2,Ab8,Ab7,AbC,Ab9,Abw,Ab5,Ab0,Abu,AbL,AbH,reduceIte,Abx];done) | simp[ha]),trivial⟩ .slnil)
 refine C8 (b:=((!(decide ((m)=(0))))||(decide ((s)=(([]:List UInt8)))))) rfl (λhd=>?_) (λhd=>?_)
 ·have hj:=hd;try simp only[Abo,Abn] at hj
  have hk:=hd;try simp at hk
  refine Ay (Aw (AQ ?_));refine An (AJ (An (Ai (Ax (Aq rfl) rfl (Ax (W9 rfl rfl (by decide)) rfl (Ax (Az rfl) rfl (Am (Aw (AQ ?_)))))))));refine AH [(0,.int .i64 (n)),(2,.string (B ([]))),(3,.string (B ([48,49,50,51,52,53,54,55,56,57]))),(4,.string (B (s))),(5,.int .i64 (m)),(6,.int .i64 ((if decide ((Int.tmod m 10)<(0))=true then -(Int.tmod m 10) else Int.tmod m 10))),(8,.int .i64 (m)),(9,.bool (!(decide ((m)=(0))))),(10,.bool (!(decide ((m)=(0))))),(13,.bool (((!(decide ((m)=(0))))||(decide ((s)=(([]:List UInt8))))))),(16,.int .i64 (m)),(17,.int .i64 (Int.tmod m 10)),(18,.int .i64 (Int.tmod m 10)),(19,.bool (decide ((Int.tmod m 10)<(0))))] [] (φ:=True) ?_ (λho=>?_)
  ·refine An (Ai (Ax (Aq rfl) rfl (Ax (C0 rfl rfl) rfl (Am (Aw (AQ ?_))))));refine C8 (b:=decide ((Int.tmod m 10)<(0))) rfl (λhe=>?_) (λhe=>?_)
   ·have hl:=he;try simp only[Abo,Abn] at hl
    have hm:=he;try simp at hm
    refine Ai (Ax (Aq rfl) rfl (Ax (Zd rfl (IntWalk.i64_in _ (by omega))) rfl (Ax (Az rfl) rfl (Am ?_))));exact Aw (Bt trivial ⟨rfl,rfl,rfl,rfl,rfl,fi (by first | (simp only[hd,he,Ab1,Ab6,AbD,Ab2,Ab8,Ab7,AbC,Ab9,Abw,Ab5,Ab0,Abu,AbL,AbH,reduceIte,Abx];done) | simp[hd,he]),rfl,rfl,rfl,rfl,rfl,rfl,rfl,rfl,trivial⟩ .slnil)
   ·have hl:=he;try simp only[Abo,Abn] at hl
    have hm:=he;try simp at hm
    refine Ay ?_;exact Aw (Bt trivial ⟨rfl,rfl,rfl,rfl,rfl,fi (by first | (simp only[hd,he,Ab1,Ab6,AbD,Ab2,Ab8,Ab7,AbC,Ab9,Abw,Ab5,Ab0,Abu,AbL,AbH,reduceIte,Abx];done) | simp[hd,he]),rfl,rfl,rfl,rfl,rfl,rfl,rfl,rfl,trivial⟩ .slnil)
  obtain⟨d1,hd1,hd2,hd3⟩:=PN m;rw[hd1];refine Ai (Ax (Aq rfl) rfl (Ax (Aq rfl) rfl (Ax (Aq rfl) rfl (Ax (Bz rfl rfl (IntWalk.i64_in _ (by first | omega | (have:=PN m;obtain⟨d1,hd1,hd2,hd3⟩:=this;split at hd1<;>omega)))) rfl (Ax (Gs Cu rfl rfl rfl (by first | omega | (simp;omega)) (by first | omega | (simp;omega)) (by first | omega | (simp;omega))) rfl (Ax (Aq rfl) rfl (Ax (CU rfl rfl (by simp;omega)) rfl (Ax (Az rfl) rfl (Am (AG (Aw (AQ ?_))))))))))));refine Ai (Ax (Aq rfl) rfl (Ax (WA rfl rfl (by decide) (IntWalk.i64_in _ (by omega))) rfl (Ax (Az rfl) rfl (Am (Aw (AI (Int.tdiv m 10,(List.take (Int.toNat ((d1:Int)+1)-Int.toNat ((d1:Int))) (List.drop (Int.toNat ((d1:Int))) [48,49,50,51,52,53,54,55,56,57]))++s) ?_ ⟨fi (by first | rfl | (simp;done) | omega | (simp;omega)),fs (by first | rfl | simp),rfl,rfl,rfl,trivial⟩ .slnil))))));have hx:=Xx hi0.2 hd hd2;exact⟨⟨htd,hx.1⟩,hx.2⟩
 ·have hj:=hd;try simp only[Abo,Abn] at hj
  have hk:=hd;try simp at hk
  refine Bx (A6 (A6 (Bc (Aw (AQ ?_)))));refine An (An (Ai (Ax (Aq rfl) rfl (Ax (C0 rfl rfl) rfl (Am (Aw (AQ ?_)))))));refine C8 (b:=decide ((n)<(0))) rfl (λhf=>?_) (λhf=>?_)
  ·have hg:=hf;try simp only[Abo,Abn] at hg
   have f138:=hf;try simp at f138
   refine An (Ai (Ax (Aq rfl) rfl (Ax (CU rfl rfl (by simp;omega)) rfl (Ax (Az rfl) rfl (Am (Aw (AQ ?_)))))));refine A1 (Ae (A0 (BJ rfl rfl) ?_));exact Eh (by rw[YG (Ue hi0.2 hd) hg])
  ·have hg:=hf;try simp only[Abo,Abn] at hg
   have f138:=hf;try simp at f138
   refine Ay (Aw (AQ ?_));refine An (Ai (Ax (Aq rfl) rfl (Ax (Az rfl) rfl (Am (Aw (AQ ?_))))));refine A1 (A0 (BJ rfl rfl) ?_);exact Eh (by rw[← YF (Ue hi0.2 hd) hg])
theorem YO (p:List UInt8)(m:Int)(hp:p.length≤281474976710656)(w:World):Calls Tryz.prog 74 [.string (B (p)),.int .i64 (m)].toArray w (HB w (.tuple #[.string (B (BY p m)),.int .i64 (Cg p m)])):=by
 refine DY (n:=25) Tryz.func74 rfl Tryz.ntmps74 rfl (An (Ai (Ax (Az rfl) rfl (Ax (Az rfl) rfl (Am (Aw (AQ ?_)))))));refine An (An (Ai (Ax (Aq rfl) rfl (Cm Tryz.call57 rfl (λw hw=>Aa2 p (by first | omega | (simp;done) | (simp;omega) | (simp at *;omega) | (split<;>first | omega | (simp;omega))) w) rfl (Ax (BE rfl) rfl (Am (Aw (AQ ?_))))))));refine C8 (b:=!(HR p)) rfl (λhb=>?_) (λhb=>?_)
 ·have hf:=hb;try simp only[Abo,Abn] at hf
  have hg:=hb;try simp at hg
  refine An (Ai (Ax (Az rfl) rfl (Ax (Az rfl) rfl (Am (Aw (AQ ?_))))));refine A1 (Ae (A0 (DJ rfl rfl rfl) ?_));have e:Cg p m=4:=by simp only[Cg,DZ];grind
  exact Eh (by simp[BY,e,DZ,B])
 ·have hf:=hb;try simp only[Abo,Abn] at hf
  have hg:=hb;try simp at hg
  refine Ay (Aw (AQ ?_));refine An (AH [(0,.string (B (p))),(1,.int .i64 (m)),(4,.string (B ([]))),(5,.int .i64 (0)),(15,.bool (((decide ((m)<(0)))||(decide ((1000000000000)<(m))))))] [] (φ:=True) ?_ (λhn=>?_))
  ·refine Ai (Ax (Aq rfl) rfl (Ax (C0 rfl rfl) rfl (Ax (Aq rfl) rfl (AO (decide ((m)<(0))) (λha=>?_) (λha=>?_)))))
   ·have hh:=ha;try simp only[Abo,Abn] at hh
    have hi:=ha;try simp at hi
    refine A7 rfl rfl ha rfl (A7 rfl rfl ha rfl (Ax (A2 rfl ha rfl) rfl (Am ?_)));exact Aw (Bt trivial ⟨rfl,rfl,rfl,rfl,fb (by first | (simp only[hb,ha,Ab1,Ab6,AbD,Ab2,Ab8,Ab7,AbC,Ab9,Abw,Ab5,Ab0,Abu,AbL,AbH,reduceIte,Abx];done) | simp[hb,ha]),trivial⟩ .slnil)
   ·have hh:=ha;try simp only[Abo,Abn] at hh
    have hi:=ha;try simp at hi
    refine AE rfl rfl ha (Ax (Aq rfl) rfl (AE rfl rfl ha (Ax (CI rfl rfl) rfl (Ax (A8 rfl ha rfl) rfl (Am ?_)))));exact Aw (Bt trivial ⟨rfl,rfl,rfl,rfl,fb (by first | (simp only[hb,ha,Ab1,Ab6,AbD,Ab2,Ab8,Ab7,AbC,Ab9,Abw,Ab5,Ab0,Abu,AbL,AbH,reduceIte,Abx];done) | simp[hb,ha]),trivial⟩ .slnil)
  refine C8 (b:=((decide ((m)<(0)))||(decide ((1000000000000)<(m))))) rfl (λhd=>?_) (λhd=>?_)
  ·have hj:=hd;try simp only[Abo,Abn] at hj
   have hk:=hd;try simp at hk
   refine An (Ai (Ax (Az rfl) rfl (Ax (Az rfl) rfl (Am (Aw (AQ ?_))))));refine A1 (Ae (A0 (DJ rfl rfl rfl) ?_));have e:Cg p m=2:=by simp only[Cg,DZ];grind
   exact Eh (by simp[BY,e,DZ,B])
  ·have hj:=hd;try simp only[Abo,Abn] at hj
   have hk:=hd;try simp at hk
   refine Ay (Aw (AQ ?_));refine An (Ai (Ax (Aq rfl) rfl (Ax (CU rfl rfl (by simp;omega)) rfl (Ax (Aq rfl) rfl (Cm VU rfl (λw hw=>Sf m (by omega) (by omega) w) rfl ?_)))));have ho:=O7 m (by omega) (by omega);refine Ax (CU rfl rfl (by simp;omega)) rfl (Ax (Az rfl) rfl (Am (Aw (AQ ?_))));refine An (An (Ai (Ax (Aq rfl) rfl (Ax (Bv Cu rfl) rfl (Ax (CI rfl rfl) rfl (Am (Aw (AQ ?_))))))));refine C8 (b:=decide ((64)<((((p++[46])++(Lib.itoa m)).length:Int)))) rfl (λhe=>?_) (λhe=>?_)
   ·have hl:=he;try simp only[Abo,Abn] at hl
    have hm:=he;try simp at hm
    refine An (Ai (Ax (Az rfl) rfl (Ax (Az rfl) rfl (Am (Aw (AQ ?_))))));refine A1 (Ae (A0 (DJ rfl rfl rfl) ?_));have e:Cg p m=3:=by simp only[Cg,DZ];grind
    exact Eh (by simp[BY,e,DZ,B])
   ·have hl:=he;try simp only[Abo,Abn] at hl
    have hm:=he;try simp at hm
    refine Ay (Aw (AQ ?_));refine An (Ai (Ax (Aq rfl) rfl (Ax (Az rfl) rfl (Ax (Az rfl) rfl (Am (Aw (AQ ?_)))))));refine A1 (A0 (DJ rfl rfl rfl) ?_);have e:Cg p m=0:=by simp only[Cg,DZ];grind
    exact Eh (by simp[BY,e,DZ,B])
end Go.Proofs.YtfobhhegpkinaaaGreatDoor
namespace Go.Proofs.YtfobhhegpkinaaaGreatDoor.Q
open Go Go.RowKit
set_option linter.unusedVariables false
def GE (Z:Fz):Prop:=∀w,Uq Z w→Ty w
theorem GE.mono {Z Z':Fz}(h:Fz.le Z Z')(hg:GE Z):GE Z':=λw hw=>hg w ⟨λb o e=>hw b o (h b o e),λk i b e=>hw.nm k i b (h.nm k i b e)⟩
theorem KJ.rle {P:Program}{E:Fz→Prop}{f:FuncId}{args:List Rp}{r r':Rp}(h:KJ P E f args r)(hr:KZ r r'):KJ P E f args r':=λw Z vs hv hs=>
 (h w Z vs hv hs).mono λe w' ⟨q,v,H,Z',he,⟨hq,hH⟩,hp,ht⟩=>⟨r',v,H,Z',he,⟨rfl,hH⟩,hr Z' v (hq▸hp),ht⟩
theorem KZ.tup2 {a b:Value}:KZ (rv (.tuple #[a,b])) (C7 [rv a,rv b]):=λZ v h=>⟨[a,b],h,rfl,rfl,trivial⟩
theorem KJ.of_id {P:Program}{E:Fz→Prop}{f:FuncId}{vs:List Value}{v:Value}(h:∀w,Calls P f vs.toArray w (λe w'=>e = .returned v∧w'=w)):KJ P E f (vs.map rv) (rv v):=
 KJ.of_old λw Z _ _=>(h w).mono λe w' ⟨he,hw⟩=>⟨he,by rw[hw];exact Proofs.YtfobhhegpkinaaaGreatDoor.St.refl w []⟩
theorem E6 (m:Int)(g:BF .i64 m=true):KJ Tryz.prog GE 46 [rI .i64 m] (rS (Lib.itoa m)):=KJ.of_old (vs:=[.int .i64 m]) λw Z hf he=>Sg m (G2 g).1 (G2 g).2 w (he w hf)
theorem ZE (m:Int)(g:BF .i64 m=true):KJ Tryz.prog GE 79 [rI .i64 m] (rS (Lib.itoa m)):=KJ.of_old (vs:=[.int .i64 m]) λw Z hf he=>Xl m (G2 g).1 (G2 g).2 w (he w hf)
theorem LL (s:Al)(g:CX 1 s.length=true):KJ Tryz.prog GE 99 [rS s] (C7 [rI .i64 (AX s),rI .i64 (C2 s)]):=(KJ.of_old (vs:=[.string (B s)]) λw Z hf he=>Yq s (by simp[CX] at g;omega) w (he w hf)).rle KZ.tup2
theorem Ui (s:Al)(c:UInt8):KJ Tryz.prog GE 151 [rS s,rS [c]] (rI .i64 (Lib.countByte s c)):=KJ.of_id (vs:=[.string (B s),.string (B [c])]) λw=>by have:=Tryz.strings_Count_one (B s) c w;rwa [T0] at this
theorem YA (s:Al):KJ Tryz.prog GE 52 [rS s] (rB (HR s)):=KJ.of_old (vs:=[.string (B s)]) λw Z hf he=>Aa4 s w
theorem Th (s:Al):KJ Tryz.prog GE 53 [rS s] (rB (Dx s)):=KJ.of_old (vs:=[.string (B s)]) λw Z hf he=>Z6 s w
theorem N8 (s:Al)(m:Int)(g:CX 1 s.length=true)(gm:BF .i64 m=true):KJ Tryz.prog GE 67 [rS s,rI .i64 m] (C7 [rS (BY s m),rI .i64 (Cg s m)]):=(KJ.of_old (vs:=[.string (B s),.int .i64 m]) λw Z hf he=>YP s m (by simp[CX] at g;omega) w (he w hf)).rle KZ.tup2
theorem Xo (s:Al)(g:CX 1 s.length=true):KJ Tryz.prog GE 57 [rS s] (rB (HR s)):=KJ.of_old (vs:=[.string (B s)]) λw Z hf he=>Aa2 s (by simp[CX] at g;omega) w
theorem TU (s:Al)(g:CX 1 s.length=true):KJ Tryz.prog GE 58 [rS s] (rB (Dx s)):=KJ.of_old (vs:=[.string (B s)]) λw Z hf he=>Z5 s (by simp[CX] at g;omega) w
theorem KB (m:Int)(g:BF .i64 m=true):KJ Tryz.prog GE 49 [rI .i64 m] (rS (Lib.itoa m)):=KJ.of_old (vs:=[.int .i64 m]) λw Z hf he=>Sf m (G2 g).1 (G2 g).2 w
theorem Md (s:Al)(m:Int)(g:CX 1 s.length=true)(gm:BF .i64 m=true):KJ Tryz.prog GE 74 [rS s,rI .i64 m] (C7 [rS (BY s m),rI .i64 (Cg s m)]):=(KJ.of_old (vs:=[.string (B s),.int .i64 m]) λw Z hf he=>YO s m (by simp[CX] at g;omega) w).rle KZ.tup2
open Go Go.RowKit Go.ChangeShapes Go.Deep
set_option linter.unusedSimpArgs false
def ZW (W:World):Fz:=⟨λb=>W.heap[b]?,λ_ _=>none⟩
theorem ZW.frz (W:World):Uq (ZW W) W:=⟨λ_ _ h=>h,λ_ _ _ h=>by cases h⟩
def QY (P:Program)(e:TypeId){α:Type}(enc:α→List Rp)(ok:α→Bool):Prop:=
 ∀{H:Type} {encH:TypeId×Value→H} {W:World} {sp:Nat→Bool} {held:Bool} {n:Nat} {cs:List Value} {x:DataW H×List MemPlace},DataW.trod encH P W 0 sp held n e cs=some x→∃y:α,ok y=true∧Bo (ZW W) (enc y) cs
section
variable {P : Program} {e t : TypeId}
theorem QY.int {k:IntKind}{enc:Int→List Rp}(ht:P.underlying e=some (.int k))(he:∀n,enc n=[rI k n]):QY P e enc (BF k):=λh=>by
 obtain⟨n,rfl,_,hwf⟩:=DataW.trod_int ht h;exact⟨n,hwf,by rw[he];exact⟨rfl,trivial⟩⟩
theorem QY.str {enc:Al→List Rp}(ht:P.underlying e=some .string)(he:∀n,enc n=[rS n]):QY P e enc okS:=λh=>by
 obtain⟨s,rfl,_,hl⟩:=DataW.trod_string ht h;exact⟨s.data.toList,Abt (by rw[Array.length_toList];exact hl),by rw[he];exact⟨congrArg Value.string (AaJ s),trivial⟩⟩
theorem QY.bool {enc:Bool→List Rp}(ht:P.underlying e=some .bool)(he:∀n,enc n=[rB n]):QY P e enc (λ_=>true):=λh=>by
 obtain⟨b,rfl,_⟩:=DataW.trod_bool ht h;exact⟨b,rfl,by rw[he];exact⟨rfl,trivial⟩⟩
theorem KG {W:World}{a:Addr}{v:Value}(h:W.cell? a=some v):a.spot=none∧Jn (ZW W) a.block a.off=some v:=by
 unfold World.cell? at h;unfold Jn ZW;dsimp only
 cases hh:W.heap[a.block]? with
 | none=>rw[hh] at h;cases h
 | some o=>
  rw[hh] at h
  cases o with
  | cells cs t fz=>
   cases hs:a.spot with
   | none=>simp[hs] at h;exact⟨rfl,h⟩
   | some _=>simp[hs] at h
  | _=>simp at h
theorem QY.slice {α:Type}[Inhabited α]{enc:α→List Rp}{ok:α→Bool}{sz:Nat}(ht:P.underlying t=some (.slice e))(hc:P.cellsOf e=sz)(hsz:0<sz)(h:QY P e enc ok)(hlen:∀y,(enc y).length=sz){enc':List α→List Rp}(he:∀ys,enc' ys=[AY sz (ys.map enc)]) :
  QY P t enc' (λys=>ys.all ok&&decide (ys.length≤9223372036854775807)):=fun {H encH W sp held n cs x} hx=>by
 rcases open_slice ht hx with⟨rfl,_⟩ | ⟨a,len,cap,m,n',D,Pl,rfl,hb,hl,hm,hmm,_,hel⟩
 ·exact⟨[],by simp,by rw[he];exact⟨Rb.nil sz _,trivial⟩⟩
 ·have hlm:len≤m:=by rw[hmm];split<;>omega
  have each:∀i,i<len→∃y:α,ok y=true∧∃cs',W.cells? 0 (a.add (i*sz)) sz=some cs'∧Bo (ZW W) (enc y) cs':=λi hi=>by
   obtain⟨cs',h1,h2⟩:=hel i (by omega);obtain⟨y,hy,hr⟩:=h h2;rw[hc] at h1;exact⟨y,hy,cs',h1,hr⟩
  obtain⟨f,hf⟩:=choose_lt each;refine⟨(List.range len).map f,?_,?_⟩
  ·simp only[Abv,AbV,List.mem_map,List.mem_range,Abo];refine⟨?_,by simp;simp only[maxLen] at hm;omega⟩;rintro _ ⟨i,hi,rfl⟩;exact(hf i hi).1
  ·rw[he];refine⟨⟨some a,cap,by simp,by simpa using hl,hm,(λh=>by cases h),λi c hi=>?_⟩,trivial⟩;rw[Acm,AbQ] at hi;have hil:i<len:=by
    cases hq:(List.range len)[i]? with
    | none=>rw[hq] at hi;cases hi
    | some _=>have:=(List.getElem?_eq_some_iff.1 hq).1;simpa using this
   rw[List.getElem?_range hil] at hi;simp only[Option.map_some,Option.some.injEq,Function.comp] at hi;subst hi;obtain⟨_,cs',h1,hr⟩:=hf i hil;obtain⟨_,hcl,hcell⟩:=World.cells?_some h1;have hsp:a.spot=none:=by
    obtain⟨_,cs0,g1,_⟩:=hf 0 (by omega);obtain⟨_,gcl,gcell⟩:=World.cells?_some g1;have h0:=gcell 0 hsz;rw[Abz (by omega)] at h0;have:=(KG h0).1;simpa[Addr.add] using this
   refine⟨hlen _,a,rfl,hsp,λj r hj=>?_⟩;obtain⟨u,hu,hp⟩:=hr.at hj;have hjs:j<sz:=by have:=(List.getElem?_eq_some_iff.1 hj).1;rw[hlen] at this;exact this
   have h3:=hcell j hjs;rw[hu] at h3;have h4:=(KG h3).2;refine⟨u,?_,hp⟩;have e1:((a.add (i*sz)).add j).block=a.block:=by simp only[Addr.add];split<;>split<;>rfl
   have e2:((a.add (i*sz)).add j).off=a.off+(i*sz+j):=by simp only[Addr.add];split<;>split<;>simp_all<;>omega
   rw[e1,e2] at h4;exact h4
theorem Ql {Z:Fz}{cs:List Value}{o:Nat}(h:cs.length=o):Bo Z [] (cs.drop o):=by rw[List.drop_of_length_le (by omega)];trivial
theorem D6 {Z:Fz}{cs:List Value}{o s o':Nat}{rs rs':List Rp}(h:Bo Z rs ((cs.drop o).take s))(ho:o+s=o')(h2:Bo Z rs' (cs.drop o')):Bo Z (rs++rs') (cs.drop o):=by
 rw[← Acl s (cs.drop o),List.drop_drop];subst ho;exact h.append h2
theorem QY.val {α:Type}{enc:α→List Rp}{ok:α→Bool}(h:QY P e enc ok){r:α→Rp}(he:∀y,enc y=[r y]){H:Type}{encH:TypeId×Value→H}{W:World}{sp:Nat→Bool}{held:Bool}{v:Value}{d:DataW H}{ps:List MemPlace}
  (hone:v.cells = #[v]) (ht:DataW.Trod encH P W 0 sp held e v d ps):∃y:α,ok y=true∧(r y).p (ZW W) v:=by
 obtain⟨fuel,hf⟩:=ht;rw[hone] at hf;obtain⟨y,hy,hr⟩:=h hf;rw[he] at hr;exact⟨y,hy,hr.1⟩
theorem QY.valAgg {α:Type}{enc:α→List Rp}{ok:α→Bool}(h:QY P e enc ok){H:Type}{encH:TypeId×Value→H}{W:World}{sp:Nat→Bool}{held:Bool}{cs:Array Value}{d:DataW H}{ps:List MemPlace}
  (ht:DataW.Trod encH P W 0 sp held e (.agg cs) d ps):∃y:α,ok y=true∧(BQ (enc y)).p (ZW W) (.agg cs):=by
 obtain⟨fuel,hf⟩:=ht;obtain⟨y,hy,hr⟩:=h hf;exact⟨y,hy,cs.toList,by simp,hr⟩
end
theorem Xv {W w:World}(hw:Uq (ZW W) w):W.heap.size≤w.heap.size:=by
 rcases Nat.eq_zero_or_pos W.heap.size with h | h
 ·omega
 ·have h1:W.heap[W.heap.size-1]? =some (W.heap[W.heap.size-1]'(by omega)):=Array.getElem?_eq_getElem (by omega);have:=(Array.getElem?_eq_some_iff.1 (hw _ _ h1)).1;omega
theorem Vv {W:World}(hE:Ty W):GE (ZW W):=λw hw=>by
 have hb:Below W.heap.size W { w with os:=W.os,tape:=W.tape,output:=W.output }:=⟨rfl,rfl,rfl,(show W.heap.size≤w.heap.size from Xv hw),λk hk=>by
  have h1:W.heap[k]? =some (W.heap[k]'hk):=Array.getElem?_eq_getElem hk;rw[h1];exact hw k _ h1⟩
 have hE2:=hE.st0 (St.of_below hb);exact⟨QX.block { w with os:=W.os,tape:=W.tape,output:=W.output } w (λ_ _=>rfl) hE2.tabs,hE2.size⟩
theorem Wj {W:World}(hE:Ty W):St ⟨W,ZW W,[],GE,[]⟩ [] (ZW W) W where
 os:=rfl
 tape:=rfl
 output:=rfl
 size:=AbI _
 old:=λ_ _ _=>rfl
 has:=λ_ h=>by cases h
 own:=λ_ h=>by cases h
 dis:=.nil
 frz:=ZW.frz W
 le:=Fz.le.refl _
 new:=λ_ _ h=>.inl h
 zdis:=λ_ h=>by cases h
 env:=Vv hE
 emono:=λh hg=>GE.mono h hg
 gst:=Mh.none rfl
theorem Wk {W W':World}{Z Z':Fz}{E:Fz→Prop}{H:List Ent}(h:St ⟨W,Z,[],E,[]⟩ H Z' W'):Below W.heap.size W W':=⟨h.os,h.tape,h.output,h.size,λk hk=>h.old k hk (by simp)⟩
def EI (P:Program)(e:TypeId){α:Type}(enc:α→List Rp)(ok:α→Bool):Prop:=
 ∀{H:Type} {encH:TypeId×Value→H} {W:World} {sp:Nat→Bool} {held:Bool} {n:Nat} {cs:List Value} {x:DataW H×List MemPlace},DataW.trod encH P W 0 sp held n e cs=some x→Rows.uptoBulk x.1≤1048576→∃y:α,ok y=true∧Bo (ZW W) (enc y) cs
theorem XB {H:Type}(d:DataW H):1≤Rows.uptoBulk d:=by
 cases d with
 | lit l=>cases l<;>simp[Rows.uptoBulk]
 | _=>simp[Rows.uptoBulk]
theorem JU {H:Type}:∀{ds:List (DataW H)} {d:DataW H},d∈ds→Rows.uptoBulk d≤Rows.uptoBulkAll ds
 | [],_,h=>by cases h
 | x::r,d,h=>by
  rw[Rows.uptoBulkAll];rcases List.mem_cons.1 h with rfl | h
  ·omega
  ·have:=JU h;omega
theorem S2 {H:Type}:∀(ds:List (DataW H)),ds.length≤Rows.uptoBulkAll ds
 | []=>AbW _
 | x::r=>by
  rw[Rows.uptoBulkAll];have:=S2 r;have:=XB x;simp only[AbB];omega
section
variable {P : Program} {e t : TypeId}
theorem QY.toB {α:Type}{enc:α→List Rp}{ok:α→Bool}(h:QY P e enc ok):EI P e enc ok:=λhx _=>h hx
theorem EI.int {k:IntKind}{enc:Int→List Rp}(ht:P.underlying e=some (.int k))(he:∀n,enc n=[rI k n]):EI P e enc (BF k):=QY.toB (QY.int ht he)
theorem EI.bool {enc:Bool→List Rp}(ht:P.underlying e=some .bool)(he:∀n,enc n=[rB n]):EI P e enc (λ_=>true):=QY.toB (QY.bool ht he)
theorem EI.str {enc:Al→List Rp}(ht:P.underlying e=some .string)(he:∀n,enc n=[rS n]):EI P e enc Mw:=λh hb=>by
 obtain⟨s,rfl,hx,hl⟩:=DataW.trod_string ht h;subst hx;simp only[Rows.uptoBulk] at hb;exact⟨s.data.toList,Abt (by omega),by rw[he];exact⟨congrArg Value.string (AaJ s),trivial⟩⟩
theorem EI.slice {α:Type}[Inhabited α]{enc:α→List Rp}{ok:α→Bool}{sz:Nat}(ht:P.underlying t=some (.slice e))(hc:P.cellsOf e=sz)(hsz:0<sz)(h:EI P e enc ok)(hlen:∀y,(enc y).length=sz){enc':List α→List Rp}(he:∀ys,enc' ys=[AY sz (ys.map enc)]) :
  EI P t enc' (λys=>ys.all ok&&decide (ys.length≤1048576)):=fun {H encH W sp held n cs x} hx hB=>by
 rcases open_slice ht hx with⟨rfl,_⟩ | ⟨a,len,cap,m,n',D,Pl,rfl,hb,hl,hm,hmm,hxe,hel⟩
 ·exact⟨[],by simp,by rw[he];exact⟨Rb.nil sz _,trivial⟩⟩
 ·have hlm:len≤m:=by rw[hmm];split<;>omega
  subst hxe;simp only[Rows.uptoBulk] at hB;have hlb:len≤1048576:=by
   have:=S2 ((List.range len).map D);rw[Ab3,List.length_range] at this;omega
  have each:∀i,i<len→∃y:α,ok y=true∧∃cs',W.cells? 0 (a.add (i*sz)) sz=some cs'∧Bo (ZW W) (enc y) cs':=λi hi=>by
   obtain⟨cs',h1,h2⟩:=hel i (by omega);obtain⟨y,hy,hr⟩:=h h2 (by
    have:=JU (List.mem_map.2 ⟨i,List.mem_range.2 hi,rfl⟩:D i∈(List.range len).map D);show Rows.uptoBulk (D i)≤1048576;omega)
   rw[hc] at h1;exact⟨y,hy,cs',h1,hr⟩
  obtain⟨f,hf⟩:=choose_lt each;refine⟨(List.range len).map f,?_,?_⟩
  ·simp only[Abv,AbV,List.mem_map,List.mem_range,Abo];refine⟨?_,by simpa using hlb⟩;rintro _ ⟨i,hi,rfl⟩;exact(hf i hi).1
  ·rw[he];refine⟨⟨some a,cap,by simp,by simpa using hl,hm,(λh=>by cases h),λi c hi=>?_⟩,trivial⟩;rw[Acm,AbQ] at hi;have hil:i<len:=by
    cases hq:(List.range len)[i]? with
    | none=>rw[hq] at hi;cases hi
    | some _=>have:=(List.getElem?_eq_some_iff.1 hq).1;simpa using this
   rw[List.getElem?_range hil] at hi;simp only[Option.map_some,Option.some.injEq,Function.comp] at hi;subst hi;obtain⟨_,cs',h1,hr⟩:=hf i hil;obtain⟨_,hcl,hcell⟩:=World.cells?_some h1;have hsp:a.spot=none:=by
    obtain⟨_,cs0,g1,_⟩:=hf 0 (by omega);obtain⟨_,gcl,gcell⟩:=World.cells?_some g1;have h0:=gcell 0 hsz;rw[Abz (by omega)] at h0;have:=(KG h0).1;simpa[Addr.add] using this
   refine⟨hlen _,a,rfl,hsp,λj r hj=>?_⟩;obtain⟨u,hu,hp⟩:=hr.at hj;have hjs:j<sz:=by have:=(List.getElem?_eq_some_iff.1 hj).1;rw[hlen] at this;exact this
   have h3:=hcell j hjs;rw[hu] at h3;have h4:=(KG h3).2;refine⟨u,?_,hp⟩;have e1:((a.add (i*sz)).add j).block=a.block:=by simp only[Addr.add];split<;>split<;>rfl
   have e2:((a.add (i*sz)).add j).off=a.off+(i*sz+j):=by simp only[Addr.add];split<;>split<;>simp_all<;>omega
   rw[e1,e2] at h4;exact h4
theorem Dk {H:Type}{xs:List (DataW H×List MemPlace)}{i:Nat}(hi:i<xs.length)(h:Rows.uptoBulk (DataW.agg (xs.map (·.1)))≤1048576):Rows.uptoBulk (xs[i]).1≤1048576:=by
 rw[Rows.uptoBulk] at h;have:=JU (List.mem_map.2 ⟨xs[i],List.getElem_mem hi,rfl⟩:(xs[i]).1∈xs.map (·.1));omega
theorem EI.val {α:Type}{enc:α→List Rp}{ok:α→Bool}(h:EI P e enc ok){r:α→Rp}(he:∀y,enc y=[r y]){H:Type}{encH:TypeId×Value→H}{W:World}{sp:Nat→Bool}{held:Bool}{v:Value}{d:DataW H}{ps:List MemPlace}
  (hone:v.cells = #[v]) (ht:DataW.Trod encH P W 0 sp held e v d ps) (hb:Rows.uptoBulk d≤1048576):∃y:α,ok y=true∧(r y).p (ZW W) v:=by
 obtain⟨fuel,hf⟩:=ht;rw[hone] at hf;obtain⟨y,hy,hr⟩:=h hf hb;rw[he] at hr;exact⟨y,hy,hr.1⟩
theorem EI.valAgg {α:Type}{enc:α→List Rp}{ok:α→Bool}(h:EI P e enc ok){H:Type}{encH:TypeId×Value→H}{W:World}{sp:Nat→Bool}{held:Bool}{cs:Array Value}{d:DataW H}{ps:List MemPlace}
  (ht:DataW.Trod encH P W 0 sp held e (.agg cs) d ps) (hb:Rows.uptoBulk d≤1048576):∃y:α,ok y=true∧(BQ (enc y)).p (ZW W) (.agg cs):=by
 obtain⟨fuel,hf⟩:=ht;obtain⟨y,hy,hr⟩:=h hf hb;exact⟨y,hy,cs.toList,by simp,hr⟩
end
open Go
def MA (l:(List Int)):Option ((List Int)):=
 some l
def JX (l:(List Int))(c:Int):Option (Unit×(List Int)):=
 B3 (MA l) λr1=>Ba (CX 1 (r1.length+([c]:List Int).length))<|some ((),r1++([c]:List Int))
def Ie (l:(List Int))(s:Al):Option (Int×Unit×(List Int)):=
 B3 (MA l) λr1=>Ba (CX 1 (r1.length+s.length))<|some ((s.length:Int),(),r1++Du s)
def ON (l:Al):Option (Al):=
 Ba (decide (0<(Du l).length))<|some l
def M9 (l:(List Int)):Option ((List Int)):=
 some l
def JW (l:(List Int))(c:Int):Option (Unit×(List Int)):=
 B3 (M9 l) λr1=>Ba (CX 1 (r1.length+([c]:List Int).length))<|some ((),r1++([c]:List Int))
def Id (l:(List Int))(s:Al):Option (Int×Unit×(List Int)):=
 B3 (M9 l) λr1=>Ba (CX 1 (r1.length+s.length))<|some ((s.length:Int),(),r1++Du s)
def OM (l:Al):Option (Al):=
 Ba (decide (0<(Du l).length))<|some l
set_option maxRecDepth 100000
set_option maxHeartbeats 4000000
theorem Jw:∃inf,Tryz.prog.info? 5=some inf∧inf.zero=some (.int .u8 0)∧inf.size=1∧inf.bytes=1:=by
  have key:(Tryz.prog.info? 5).map (λi=>(i.zero,i.size,i.bytes))=some (some (.int .u8 0),1,1):=by kernel_rfl
  obtain⟨inf,h1,h2⟩:=Option.map_eq_some_iff.1 key;simp only[Prod.mk.injEq] at h2;exact⟨inf,h1,h2.1,h2.2.1,h2.2.2⟩
theorem RZ:∃j,Tryz.prog.info? 146=some j∧j.size≠0:=by
  have key:(Tryz.prog.info? 146).map (λi=>i.size)=some 2:=by kernel_rfl
  obtain⟨j,h1,h2⟩:=Option.map_eq_some_iff.1 key;exact⟨j,h1,by rw[h2];decide⟩
theorem Sb:∃j,Tryz.prog.info? 146=some j:=RZ.imp λ_ h=>h.1
theorem S5 (ha:Nat)(hb:Value)(l:(List Int))(r:(List Int))(h:MA l=some r):Fn Tryz.prog GE 174 [rP ha 0] [.blk ha [rv (.pointer none),rv hb] 146,.row hb 5 1 (A4 Bp l)] (λR H=>∃w0:Value,R=rv (.tuple #[])∧H=[.blk ha [rP ha 0,rv w0] 146,.row w0 5 1 (A4 Bp r)]):=by
 refine enter (n:=20) Tryz.func174 Aa Tryz.ntmps174 Aa (λw Z=>?_);unfold MA at h;refine Ak (wm Aa (wv (AB Aa) (vF GI Aa Rh (vL 0 EK Aa (wv (r:=rB true) (WB ⟨_,Rf⟩ Aa) (Av (DH Aa Aa (Ai (wm Aa (wm Aa (wv (r:=rP ha 0) (RF (i:=0) Rf Tryz.underlying227 RZ Aa Aa Aa) (Ax (r:=rP ha 0) (Yu Tryz.func197 (by kernel_rfl) (by kernel_rfl) (by kernel_rfl) (by kernel_rfl) Aa) Aa (wv (r:=rP ha 0) (Pc (i:=0) Tryz.underlying227 Rf Sb Aa Aa (by kernel_rfl)) (wv (AB Aa) (vF GI Aa Rh (BA (i:=0) Rh Aa Aa (BD Aa) Aa Aa (cs':=[rP ha 0,rv hb]) Aa (H':=[.blk ha [rP ha 0,rv hb] 146,.row hb 5 1 (A4 Bp l)]) Aa (Am ?_)))))))))))))))));obtain rfl:=A5 h;exact Hj (UH Tryz.results174) (sC (sC sN)) ⟨hb,Aa,Aa⟩
theorem Pn (ha:Nat)(hb:Value)(l:(List Int))(c:Int)(r:Unit×(List Int))(h:JX l c=some r):Fn Tryz.prog GE 144 [rP ha 0,rI .u8 c] [.blk ha [rv (.pointer none),rv hb] 146,.row hb 5 1 (A4 Bp l)] (λR H=>∃w0:Value,R=rv (.nilIface)∧H=[.blk ha [rP ha 0,rv w0] 146,.row w0 5 1 (A4 Bp r.2)]):=by
 refine enter (n:=17) Tryz.func144 Aa Tryz.ntmps144 Aa (λw Z=>?_);unfold JX at h;refine Ak (wa Aa (Bs (wm Aa (ob h λr1 e3 h2=>DX (Hr:=[]) Tryz.call174 (S5 ha hb l r1 e3) Aa (Abq _) Aa ?_))));rintro _ _ ⟨v4,rfl,rfl⟩;refine Bs (wm Aa (wm Aa (wv (AB Aa) (vF GI Aa GJ (vL 0 MF Aa (wm Aa (Bb (ys:=([c]:List Int)) (enc:=Bp) (css:=[[rI .u8 c]]) (xs:=[.tmp 12]) Dq XQ XN Aa Aa Aa ⟨D1.one Aa (Up.refl _),trivial⟩ Aa Dj Aa Aa Aa (λb5=>?_))))))));refine ck h2 λg7 h8=>Exists.elim Jw λinf hinf=>Cb (xs:=r1) (ys:=([c]:List Int)) (enc:=Bp) (i:=2) Dq hinf.1 hinf.2.1 hinf.2.2.1 hinf.2.2.2 Aa Aa Aa Aa Aa (If.w (i:=0) Aa Aa) Dj I6 g7 Aa (λv6=>?_);refine wv (AB Aa) (vF GI Aa GJ (BA (i:=2) GJ Aa Aa (CB (i:=0) Aa) Aa Aa (cs':=[rP ha 0,rv v6]) Aa (H':=[.row v6 5 1 (A4 Bp (r1++([c]:List Int))),.row (.slice (some ⟨b5,0,none⟩) 1 1) 5 1 (A4 Bp ([c]:List Int)),.blk ha [rP ha 0,rv v6] 146]) Aa (Bs (wa Aa (Av (A1 (BU (H2:=[.blk ha [rP ha 0,rv v6] 146,.row v6 5 1 (A4 Bp (r1++([c]:List Int))),.row (.slice (some ⟨b5,0,none⟩) 1 1) 5 1 (A4 Bp ([c]:List Int))]) ((As (i:=2) Aa).trans (Abp _ (Abq _))) ?_)))))));obtain rfl:=A5 h8;exact A0 (BJ Tryz.results144 (AM Aa)) (sC (sC (sS sN))) ⟨v6,Aa,Aa⟩
theorem Np (ha:Nat)(hb:Value)(l:(List Int))(s:Al)(r:Int×Unit×(List Int))(h:Ie l s=some r):Fn Tryz.prog GE 142 [rP ha 0,rS s] [.blk ha [rv (.pointer none),rv hb] 146,.row hb 5 1 (A4 Bp l)] (λR H=>∃w0:Value,R=C7 [At r.1,rv (.nilIface)]∧H=[.blk ha [rP ha 0,rv w0] 146,.row w0 5 1 (A4 Bp r.2.2)]):=by
 refine enter (n:=19) Tryz.func142 Aa Tryz.ntmps142 Aa (λw Z=>?_);unfold Ie at h;refine Ak (wa Aa (wa Aa (Bs (wm Aa (ob h λr1 e3 h2=>DX (Hr:=[]) Tryz.call174 (S5 ha hb l r1 e3) Aa (Abq _) Aa ?_)))));rintro _ _ ⟨v4,rfl,rfl⟩;refine Bs (wm Aa (wm Aa (wv (AB Aa) (vF GI Aa GJ (vL 0 MF Aa (wm Aa (ck h2 λg6 h7=>Exists.elim Jw λinf hinf=>Es (xs:=r1) (i:=1) Dq Cu hinf.1 hinf.2.1 hinf.2.2.1 hinf.2.2.2 Aa Aa Aa g6 Aa (λv5=>?_))))))));refine wv (AB Aa) (vF GI Aa GJ (BA (i:=1) GJ Aa Aa (CB (i:=0) Aa) Aa Aa (cs':=[rP ha 0,rv v5]) Aa (H':=[.row v5 5 1 (A4 Bp (r1++Du s)),.blk ha [rP ha 0,rv v5] 146]) Aa (Bs (wm Aa (wv (Bv Cu Aa) (wa Aa (wa Aa (Av (A1 (BU (H2:=[.blk ha [rP ha 0,rv v5] 146,.row v5 5 1 (A4 Bp (r1++Du s))]) ((As (i:=1) Aa).trans (Abp _ (Abq _))) ?_))))))))));obtain rfl:=A5 h7;exact A0 (DJ Tryz.results142 (AM Aa) (AM Aa)) (sC (sC sN)) ⟨v5,Aa,Aa⟩
theorem Tw (ha:Nat)(hb:Value)(l:Al)(r:Al)(h:ON l=some r):Fn Tryz.prog GE 111 [rP ha 0] [.blk ha [rv (.pointer none),rv hb] 146,.row hb 5 1 (A4 Bp (Du l))] (λR H=>R=rS r∧H=[]):=by
 refine enter (n:=14) Tryz.func111 Aa Tryz.ntmps111 Aa (λw Z=>?_);unfold ON at h;refine Ak (wv (r:=rS ([]:Al)) (Az Aa) (Av (An (ck h λg1 h2=>Hk (H1:=[.blk ha [rv (.pointer none),rv hb] 146]) [0] [⟨[],rP ha 0,0⟩,⟨[0],rP ha 0,0⟩,⟨[1],rP ha 1,0⟩,⟨[2],rv hb,1⟩,⟨[3],rv (slp hb),1⟩,⟨[],rP ha 0,0⟩,⟨[5],rP ha 0,0⟩,⟨[6],rP ha 1,0⟩,⟨[7],rv hb,1⟩,⟨[8],At ((Du l).length:Int),1⟩,⟨[4,9],rS l,2⟩,⟨[10],rS l,0⟩] (rle [(11,_),(2,[.blk ha [rv (.pointer none),rv hb] 146])]) [2] ?_ ?_))))
 ·refine oq (Aq Aa) (oq (AB Aa) (oq (A9 GI Aa GJ Aa Aa) (of (AT (i:=0) MF Aa Aa Aa) (of (MR (i:=1) Aa Aa (Ny g1)) (oq (Aq Aa) (oq (AB Aa) (oq (A9 GI Aa GJ Aa Aa) (of (AT (i:=0) MF Aa Aa Aa) (of (Ch (ys:=Du l) (enc:=Bp) (i:=1) Dq Aa Aa) (JM Aa (Aap (JZ (i:=1) Tryz.underlying185 (by kernel_rfl) Aa Aa Aa (Ny g1) Aa)) ?_))))))))));refine oq (Az Aa) ?_;exact CN
 refine AP (A1 ?_);obtain rfl:=A5 h2;exact A0 (BJ Tryz.results111 (AM Aa)) (sS sN) ⟨Aa,Aa⟩
theorem S4 (ha:Nat)(hb:Value)(l:(List Int))(r:(List Int))(h:M9 l=some r):Fn Tryz.prog GE 174 [rP ha 0] [.blk ha [rP ha 0,rv hb] 146,.row hb 5 1 (A4 Bp l)] (λR H=>∃w0:Value,R=rv (.tuple #[])∧H=[.blk ha [rP ha 0,rv w0] 146,.row w0 5 1 (A4 Bp r)]):=by
 refine enter (n:=20) Tryz.func174 Aa Tryz.ntmps174 Aa (λw Z=>?_);unfold M9 at h;refine Ak (wm Aa (wv (AB Aa) (vF GI Aa Rh (vL 0 EK Aa (wv (r:=rB false) (Z3 ⟨_,Rf⟩ Aa) (Av (D2 Aa Aa (Ak (wm Aa (wv (AB Aa) (vF GI Aa Rh (vL 0 EK Aa (wm Aa (wv (r:=rB false) (SY Rf Sb Aa Aa) (Av (D2 Aa Aa (Ay ?_)))))))))))))))));obtain rfl:=A5 h;exact Hj (UH Tryz.results174) (sC (sC sN)) ⟨hb,Aa,Aa⟩
theorem Pm (ha:Nat)(hb:Value)(l:(List Int))(c:Int)(r:Unit×(List Int))(h:JW l c=some r):Fn Tryz.prog GE 144 [rP ha 0,rI .u8 c] [.blk ha [rP ha 0,rv hb] 146,.row hb 5 1 (A4 Bp l)] (λR H=>∃w0:Value,R=rv (.nilIface)∧H=[.blk ha [rP ha 0,rv w0] 146,.row w0 5 1 (A4 Bp r.2)]):=by
 refine enter (n:=17) Tryz.func144 Aa Tryz.ntmps144 Aa (λw Z=>?_);unfold JW at h;refine Ak (wa Aa (Bs (wm Aa (ob h λr1 e3 h2=>DX (Hr:=[]) Tryz.call174 (S4 ha hb l r1 e3) Aa (Abq _) Aa ?_))));rintro _ _ ⟨v4,rfl,rfl⟩;refine Bs (wm Aa (wm Aa (wv (AB Aa) (vF GI Aa GJ (vL 0 MF Aa (wm Aa (Bb (ys:=([c]:List Int)) (enc:=Bp) (css:=[[rI .u8 c]]) (xs:=[.tmp 12]) Dq XQ XN Aa Aa Aa ⟨D1.one Aa (Up.refl _),trivial⟩ Aa Dj Aa Aa Aa (λb5=>?_))))))));refine ck h2 λg7 h8=>Exists.elim Jw λinf hinf=>Cb (xs:=r1) (ys:=([c]:List Int)) (enc:=Bp) (i:=2) Dq hinf.1 hinf.2.1 hinf.2.2.1 hinf.2.2.2 Aa Aa Aa Aa Aa (If.w (i:=0) Aa Aa) Dj I6 g7 Aa (λv6=>?_);refine wv (AB Aa) (vF GI Aa GJ (BA (i:=2) GJ Aa Aa (CB (i:=0) Aa) Aa Aa (cs':=[rP ha 0,rv v6]) Aa (H':=[.row v6 5 1 (A4 Bp (r1++([c]:List Int))),.row (.slice (some ⟨b5,0,none⟩) 1 1) 5 1 (A4 Bp ([c]:List Int)),.blk ha [rP ha 0,rv v6] 146]) Aa (Bs (wa Aa (Av (A1 (BU (H2:=[.blk ha [rP ha 0,rv v6] 146,.row v6 5 1 (A4 Bp (r1++([c]:List Int))),.row (.slice (some ⟨b5,0,none⟩) 1 1) 5 1 (A4 Bp ([c]:List Int))]) ((As (i:=2) Aa).trans (Abp _ (Abq _))) ?_)))))));obtain rfl:=A5 h8;exact A0 (BJ Tryz.results144 (AM Aa)) (sC (sC (sS sN))) ⟨v6,Aa,Aa⟩
theorem No (ha:Nat)(hb:Value)(l:(List Int))(s:Al)(r:Int×Unit×(List Int))(h:Id l s=some r):Fn Tryz.prog GE 142 [rP ha 0,rS s] [.blk ha [rP ha 0,rv hb] 146,.row hb 5 1 (A4 Bp l)] (λR H=>∃w0:Value,R=C7 [At r.1,rv (.nilIface)]∧H=[.blk ha [rP ha 0,rv w0] 146,.row w0 5 1 (A4 Bp r.2.2)]):=by
 refine enter (n:=19) Tryz.func142 Aa Tryz.ntmps142 Aa (λw Z=>?_);unfold Id at h;refine Ak (wa Aa (wa Aa (Bs (wm Aa (ob h λr1 e3 h2=>DX (Hr:=[]) Tryz.call174 (S4 ha hb l r1 e3) Aa (Abq _) Aa ?_)))));rintro _ _ ⟨v4,rfl,rfl⟩;refine Bs (wm Aa (wm Aa (wv (AB Aa) (vF GI Aa GJ (vL 0 MF Aa (wm Aa (ck h2 λg6 h7=>Exists.elim Jw λinf hinf=>Es (xs:=r1) (i:=1) Dq Cu hinf.1 hinf.2.1 hinf.2.2.1 hinf.2.2.2 Aa Aa Aa g6 Aa (λv5=>?_))))))));refine wv (AB Aa) (vF GI Aa GJ (BA (i:=1) GJ Aa Aa (CB (i:=0) Aa) Aa Aa (cs':=[rP ha 0,rv v5]) Aa (H':=[.row v5 5 1 (A4 Bp (r1++Du s)),.blk ha [rP ha 0,rv v5] 146]) Aa (Bs (wm Aa (wv (Bv Cu Aa) (wa Aa (wa Aa (Av (A1 (BU (H2:=[.blk ha [rP ha 0,rv v5] 146,.row v5 5 1 (A4 Bp (r1++Du s))]) ((As (i:=1) Aa).trans (Abp _ (Abq _))) ?_))))))))));obtain rfl:=A5 h7;exact A0 (DJ Tryz.results142 (AM Aa) (AM Aa)) (sC (sC sN)) ⟨v5,Aa,Aa⟩
theorem Tv (ha:Nat)(hb:Value)(l:Al)(r:Al)(h:OM l=some r):Fn Tryz.prog GE 111 [rP ha 0] [.blk ha [rP ha 0,rv hb] 146,.row hb 5 1 (A4 Bp (Du l))] (λR H=>R=rS r∧H=[]):=by
 refine enter (n:=14) Tryz.func111 Aa Tryz.ntmps111 Aa (λw Z=>?_);unfold OM at h;refine Ak (wv (r:=rS ([]:Al)) (Az Aa) (Av (An (ck h λg1 h2=>Hk (H1:=[.blk ha [rP ha 0,rv hb] 146]) [0] [⟨[],rP ha 0,0⟩,⟨[0],rP ha 0,0⟩,⟨[1],rP ha 1,0⟩,⟨[2],rv hb,1⟩,⟨[3],rv (slp hb),1⟩,⟨[],rP ha 0,0⟩,⟨[5],rP ha 0,0⟩,⟨[6],rP ha 1,0⟩,⟨[7],rv hb,1⟩,⟨[8],At ((Du l).length:Int),1⟩,⟨[4,9],rS l,2⟩,⟨[10],rS l,0⟩] (rle [(11,_),(2,[.blk ha [rP ha 0,rv hb] 146])]) [2] ?_ ?_))))
 ·refine oq (Aq Aa) (oq (AB Aa) (oq (A9 GI Aa GJ Aa Aa) (of (AT (i:=0) MF Aa Aa Aa) (of (MR (i:=1) Aa Aa (Ny g1)) (oq (Aq Aa) (oq (AB Aa) (oq (A9 GI Aa GJ Aa Aa) (of (AT (i:=0) MF Aa Aa Aa) (of (Ch (ys:=Du l) (enc:=Bp) (i:=1) Dq Aa Aa) (JM Aa (Aap (JZ (i:=1) Tryz.underlying185 (by kernel_rfl) Aa Aa Aa (Ny g1) Aa)) ?_))))))))));refine oq (Az Aa) ?_;exact CN
 refine AP (A1 ?_);obtain rfl:=A5 h2;exact A0 (BJ Tryz.results111 (AM Aa)) (sS sN) ⟨Aa,Aa⟩
theorem CT (b:Nat)(v:Value)(l:Al)(c:Int)(g1:CX 1 (l.length+1)=true)(g2:BF .u8 c=true):Fn Tryz.prog GE 144 [rP b 0,rI .u8 c] [.bld 146 5 b v l] (λR H=>∃w0:Value,R=rv .nilIface∧H=[.bld 146 5 b w0 (l++[UInt8.ofNat c.toNat])]):=by
  have hc:Du (l++[UInt8.ofNat c.toNat])=Du l++[c]:=by
    have:=(by simpa[BF,IntKind.min,IntKind.max,IntKind.signed,IntKind.bits] using g2:0≤c∧c≤255)
    simp only[Du,Ack,Ace,List.map_nil]
    congr 2
    simp;omega
  refine Fn.bld (res:=rv .nilIface) λp hp=>?_;rw[hc];rcases hp with rfl | rfl
  · refine(Pn b v (Du l) c (((),Du l++[c])) ?_).sub (H7.refl _) (λr H h=>by obtain⟨w0,h1,h2⟩:=h;exact⟨w0,h1,h2⟩)
    simp only[JX,MA,B3,Dc];simp[Ba,g1]
  · refine(Pm b v (Du l) c (((),Du l++[c])) ?_).sub (H7.refl _) (λr H h=>by obtain⟨w0,h1,h2⟩:=h;exact⟨w0,h1,h2⟩)
    simp only[JW,M9,B3,Dc];simp[Ba,g1]
theorem HW (b:Nat)(v:Value)(l s:Al)(g1:CX 1 (l.length+s.length)=true):Fn Tryz.prog GE 142 [rP b 0,rS s] [.bld 146 5 b v l] (λR H=>∃w0:Value,R=C7 [At (s.length:Int),rv .nilIface]∧H=[.bld 146 5 b w0 (l++s)]):=by
  have hc:Du (l++s)=Du l++Du s:=by simp[Du]
  refine Fn.bld (res:=C7 [At (s.length:Int),rv .nilIface]) λp hp=>?_;rw[hc];rcases hp with rfl | rfl
  · refine(Np b v (Du l) s (((s.length:Int),(),Du l++Du s)) ?_).sub (H7.refl _) (λr H h=>by obtain⟨w0,h1,h2⟩:=h;exact⟨w0,h1,h2⟩)
    simp only[Ie,MA,B3,Dc];simp[Ba,g1]
  · refine(No b v (Du l) s (((s.length:Int),(),Du l++Du s)) ?_).sub (H7.refl _) (λr H h=>by obtain⟨w0,h1,h2⟩:=h;exact⟨w0,h1,h2⟩)
    simp only[Id,M9,B3,Dc];simp[Ba,g1]
theorem VB (b:Nat)(v:Value)(l:Al)(g1:decide (0<l.length)=true):Fn Tryz.prog GE 111 [rP b 0] [.bld 146 5 b v l] (λR H=>R=rS l∧H=[]):=by
  refine Fn.bldS (res:=rS l) λp hp=>?_;rcases hp with rfl | rfl
  · exact Tw b v l l (by simp only[ON,Dc];simp[Ba,g1])
  · exact Tv b v l l (by simp only[OM,Dc];simp[Ba,g1])
end Go.Proofs.YtfobhhegpkinaaaGreatDoor.Q
namespace Go.Proofs.YtfobhhegpkinaaaGreatDoor
open Go
set_option linter.unusedVariables false
structure Ac where
 fKind:Int
 fInt:Int
 fStr:Al
 fN:Int
 deriving DecidableEq,Inhabited
def Km (s:Al)(ha:Int):Option (Stp (Int) (Out (Bool) (Unit))):=
 B2 (decide (ha<(s.length:Int))) (Ba (CP ha (s.length:Int))<|B2 (((decide ((B1 s ha)<32))||(decide (126<(B1 s ha))))) (some (.out (.ret false))) (Ba (BF .i64 (ha+1))<|some (.next (ha+1)))) (some (.out (.go ())))
def Kl :Option (Bool):=
 some true
def JJ (F:Nat)(s:Al):Option (Bool):=
 B3 (Ci (λσ=>Km s σ) F 0) (BS λν=>Kl )
def Cd (ok:Bool)(i:Int):Option (Int):=
 B2 (ok) (Ba (BF .i64 (i+1))<|some (i+1)) (some (-1))
def Pa (F:Nat)(c:Ac):Option (Bool):=
 Ba (imp (decide (c.fKind=4)) (imp (decide (c.fInt=0)) (imp (decide (c.fN=0)) ((JJ F c.fStr).isSome))))<|some ((decide (c.fKind=4))&&((decide (c.fInt=0))&&((decide (c.fN=0))&&(ov (JJ F c.fStr)))))
def Qt (F:Nat)(ha:(List Ac)→Int→Int→Option (Int))(hb:(List Ac)→Int→Int→Option (Int))(v:(List Ac))(i:Int):Option (Int):=
 B2 (((decide (i<0))||(decide ((v.length:Int)≤i)))) (some (-1)) (Ba (CP i (v.length:Int))<|B2 (decide (((Ap v i).fKind)=1)) (Ba (imp (decide (((Ap v i).fInt)=0)) (imp (decide (((Ap v i).fStr)=([]:Al))) ((Cd (decide (((Ap v i).fN)=0)) i).isSome)))<|Ba (imp (decide (((Ap v i).fInt)=0)) (imp (!(decide (((Ap v i).fStr)=([]:Al)))) ((Cd false i).isSome)))<|Ba (imp (!(decide (((Ap v i).fInt)=0))) ((Cd false i).isSome))<|some (bif decide (((Ap v i).fInt)=0) then(bif decide (((Ap v i).fStr)=([]:Al)) then(ov (Cd (decide (((Ap v i).fN)=0)) i)) else(ov (Cd false i))) else(ov (Cd false i)))) (B2 (decide (((Ap v i).fKind)=2)) (Ba (imp (decide (((Ap v i).fInt)=0)) (imp (decide (((Ap v i).fStr)=([]:Al))) ((Cd (decide (((Ap v i).fN)=0)) i).isSome)))<|Ba (imp (decide (((Ap v i).fInt)=0)) (imp (!(decide (((Ap v i).fStr)=([]:Al)))) ((Cd false i).isSome)))<|Ba (imp (!(decide (((Ap v i).fInt)=0))) (imp (decide (((Ap v i).fInt)=1)) (imp (decide (((Ap v i).fStr)=([]:Al))) ((Cd (decide (((Ap v i).fN)=0)) i).isSome))))<|Ba (imp (!(decide (((Ap v i).fInt)=0))) (imp (decide (((Ap v i).fInt)=1)) (imp (!(decide (((Ap v i).fStr)=([]:Al)))) ((Cd false i).isSome))))<|Ba (imp (!(decide (((Ap v i).fInt)=0))) (imp (!(decide (((Ap v i).fInt)=1))) ((Cd false i).isSome)))<|some (bif decide (((Ap v i).fInt)=0) then(bif decide (((Ap v i).fStr)=([]:Al)) then(ov (Cd (decide (((Ap v i).fN)=0)) i)) else(ov (Cd false i))) else(bif decide (((Ap v i).fInt)=1) then(bif decide (((Ap v i).fStr)=([]:Al)) then(ov (Cd (decide (((Ap v i).fN)=0)) i)) else(ov (Cd false i))) else(ov (Cd false i))))) (B2 (decide (((Ap v i).fKind)=3)) (Ba (imp (decide (((Ap v i).fStr)=([]:Al))) ((Cd (decide (((Ap v i).fN)=0)) i).isSome))<|Ba (imp (!(decide (((Ap v i).fStr)=([]:Al)))) ((Cd false i).isSome))<|some (bif decide (((Ap v i).fStr)=([]:Al)) then(ov (Cd (decide (((Ap v i).fN)=0)) i)) else(ov (Cd false i)))) (B2 (decide (((Ap v i).fKind)=4)) (B3 (Pa F (Ap v i)) λhd=>B3 (Cd hd i) λhe=>some he) (B2 (((decide (((Ap v i).fKind)=5))&&((decide (((Ap v i).fInt)=0))&&((decide (((Ap v i).fStr)=([]:Al)))&&(decide (0≤((Ap v i).fN))))))) (Ba (BF .i64 (i+1))<|B3 (ha v (i+1) ((Ap v i).fN)) λhf=>some hf) (B2 (((decide (((Ap v i).fKind)=6))&&((decide (((Ap v i).fInt)=0))&&((decide (((Ap v i).fStr)=([]:Al)))&&(decide (0≤((Ap v i).fN))))))) (Ba (BF .i64 (i+1))<|B3 (hb v (i+1) ((Ap v i).fN)) λhg=>some hg) (some (-1))))))))
def Dp (v:(List Ac))(n:Int)(he:(List Ac)→Int→Option (Int))(hb:Int)(ha:Int):Option (Stp (Int×Int) (Out (Int) (Int))):=
 B2 (decide (ha<n)) (B3 (he v hb) λhd=>B2 (decide (hd<0)) (some (.out (.ret (-1)))) (Ba (BF .i64 (ha+1))<|some (.next (hd,ha+1)))) (some (.out (.go hb)))
def Et (ha:Int):Option (Int):=
 some ha
def IK (F:Nat)(ha:(List Ac)→Int→Option (Int))(v:(List Ac))(i:Int)(n:Int):Option (Int):=
 B3 (Ci (λσ=>Dp v n ha σ.1 σ.2) F (i,0)) (BS λν=>Et ν)
def DK (F:Nat)(v:(List Ac))(n:Int)(hf:(List Ac)→Int→Option (Int))(ha:Int)(hd:Al)(hb:Int):Option (Stp (Int×Al×Int) (Out (Int) (Int))):=
 B2 (decide (hb<n)) (Ba (imp (!(decide ((v.length:Int)≤ha))) (CP ha (v.length:Int)))<|Ba (imp (!(decide ((v.length:Int)≤ha))) ((Pa F (Ap v ha)).isSome))<|B2 (((decide ((v.length:Int)≤ha))||((!(ov (Pa F (Ap v ha))))||((decide (0<hb))&&(CA ((Ap v ha).fStr) hd||decide (((Ap v ha).fStr)=hd)))))) (some (.out (.ret (-1)))) (Ba (CP ha (v.length:Int))<|Ba (BF .i64 (ha+1))<|B3 (hf v (ha+1)) λhe=>B2 (decide (he<0)) (some (.out (.ret (-1)))) (Ba (BF .i64 (hb+1))<|some (.next (he,(Ap v ha).fStr,hb+1))))) (some (.out (.go ha)))
def GX (ha:Int):Option (Int):=
 some ha
def Nv (F:Nat)(ha:(List Ac)→Int→Option (Int))(v:(List Ac))(i:Int)(n:Int):Option (Int):=
 B3 (Ci (λσ=>DK F v n ha σ.1 σ.2.1 σ.2.2) F (i,([]:Al),0)) (BS λν=>GX ν)
mutual
def DL:Nat→(List Ac)→Int→Option (Int)
 | 0,_,_=>none
 | nn+1,v,i=>Qt nn (GZ nn) (Mq nn) v i
def GZ:Nat→(List Ac)→Int→Int→Option (Int)
 | 0,_,_,_=>none
 | nn+1,v,i,n=>IK nn (DL nn) v i n
def Mq:Nat→(List Ac)→Int→Int→Option (Int)
 | 0,_,_,_=>none
 | nn+1,v,i,n=>Nv nn (DL nn) v i n
end
def LD (F:Nat)(v:(List Ac)):Option (Bool):=
 Ba (imp (decide (0<(v.length:Int))) ((DL F v 0).isSome))<|some ((decide (0<(v.length:Int)))&&(decide ((ov (DL F v 0))=(v.length:Int))))
def Dn (F:Nat)(v:(List Ac))(i:Int)(he:(List Ac)→Int→Option (Int))(hd:Int)(hb:Int)(ha:Int):Option (Stp (Int×Int×Int) (Out (Int) (Int))):=
 B2 (decide (ha<((Ap v i).fN))) (B2 (decide (((Ap v i).fKind)=6)) (Ba (BF .i64 (hb+1))<|B3 (he v (hb+1)) λhf=>B2 (decide (hd<hf)) (B3 (DL F v (hb+1)) λhh=>Ba (BF .i64 (ha+1))<|some (.next (hf,hh,ha+1))) (B3 (DL F v (hb+1)) λhi=>Ba (BF .i64 (ha+1))<|some (.next (hd,hi,ha+1)))) (B3 (he v hb) λhg=>B2 (decide (hd<hg)) (B3 (DL F v hb) λhj=>Ba (BF .i64 (ha+1))<|some (.next (hg,hj,ha+1))) (B3 (DL F v hb) λhk=>Ba (BF .i64 (ha+1))<|some (.next (hd,hk,ha+1))))) (some (.out (.go hd)))
def Ej (ha:Int):Option (Int):=
 Ba (BF .i64 (ha+1))<|some (ha+1)
def Iq (F:Nat)(ha:(List Ac)→Int→Option (Int))(v:(List Ac))(i:Int):Option (Int):=
 Ba (CP i (v.length:Int))<|B2 (((!decide (((Ap v i).fKind)=5))&&(!decide (((Ap v i).fKind)=6)))) (some 1) (Ba (BF .i64 (i+1))<|B3 (Ci (λσ=>Dn F v i ha σ.1 σ.2.1 σ.2.2) F (0,i+1,0)) (BS λν=>Ej ν))
def Dz:Nat→(List Ac)→Int→Option (Int)
 | 0,_,_=>none
 | nn+1,v,i=>Iq nn (Dz nn) v i
def Dv (s:Al)(hb:Al)(ha:Int):Option (Stp (Al×Int) (Out (Al) (Al))):=
 B2 (decide (ha<(s.length:Int))) (Ba (CP ha (s.length:Int))<|B2 (((decide ((B1 s ha)=34))||(decide ((B1 s ha)=92)))) (Ba (BF .i64 ((hb.length:Int)+(([92]:Al).length:Int)))<|Ba (BF .i64 (ha+1))<|Ba (E5 ha (ha+1))<|Ba (E5 (ha+1) (s.length:Int))<|Ba (BF .i64 (((hb++([92]:Al)).length:Int)+((List.take (Int.toNat (ha+1)-Int.toNat ha) (List.drop (Int.toNat ha) s)).length:Int)))<|some (.next ((hb++([92]:Al))++(List.take (Int.toNat (ha+1)-Int.toNat ha) (List.drop (Int.toNat ha) s)),ha+1))) (Ba (BF .i64 (ha+1))<|Ba (E5 ha (ha+1))<|Ba (E5 (ha+1) (s.length:Int))<|Ba (BF .i64 ((hb.length:Int)+((List.take (Int.toNat (ha+1)-Int.toNat ha) (List.drop (Int.toNat ha) s)).length:Int)))<|some (.next (hb++(List.take (Int.toNat (ha+1)-Int.toNat ha) (List.drop (Int.toNat ha) s)),ha+1)))) (some (.out (.go hb)))
def DR (ha:Al):Option (Al):=
 Ba (BF .i64 ((ha.length:Int)+(([34]:Al).length:Int)))<|some (ha++([34]:Al))
def IJ (F:Nat)(s:Al):Option (Al):=
 B3 (Ci (λσ=>Dv s σ.1 σ.2) F (([34]:Al),0)) (BS λν=>DR ν)
def Ei (F:Nat)(v:(List Ac))(i:Int)(he:(List Ac)→Int→Option (Al))(ha:Al)(hb:Int)(hd:Int):Option (Stp (Al×Int×Int) (Out (Al) (Al))):=
 B2 (decide (hd<((Ap v i).fN))) (B2 (decide (0<hd)) (Ba (BF .i64 ((ha.length:Int)+(([44]:Al).length:Int)))<|B2 (decide (((Ap v i).fKind)=6)) (Ba (CP hb (v.length:Int))<|B3 (IJ F ((Ap v hb).fStr)) λhf=>Ba (BF .i64 (((ha++([44]:Al)).length:Int)+(hf.length:Int)))<|Ba (BF .i64 ((((ha++([44]:Al))++hf).length:Int)+(([58]:Al).length:Int)))<|Ba (BF .i64 (hb+1))<|B3 (he v (hb+1)) λhh=>Ba (BF .i64 (((((ha++([44]:Al))++hf)++([58]:Al)).length:Int)+(hh.length:Int)))<|B3 (DL F v (hb+1)) λhl=>Ba (BF .i64 (hd+1))<|some (.next ((((ha++([44]:Al))++hf)++([58]:Al))++hh,hl,hd+1))) (B3 (he v hb) λhi=>Ba (BF .i64 (((ha++([44]:Al)).length:Int)+(hi.length:Int)))<|B3 (DL F v hb) λhm=>Ba (BF .i64 (hd+1))<|some (.next ((ha++([44]:Al))++hi,hm,hd+1)))) (B2 (decide (((Ap v i).fKind)=6)) (Ba (CP hb (v.length:Int))<|B3 (IJ F ((Ap v hb).fStr)) λhg=>Ba (BF .i64 ((ha.length:Int)+(hg.length:Int)))<|Ba (BF .i64 (((ha++hg).length:Int)+(([58]:Al).length:Int)))<|Ba (BF .i64 (hb+1))<|B3 (he v (hb+1)) λhj=>Ba (BF .i64 ((((ha++hg)++([58]:Al)).length:Int)+(hj.length:Int)))<|B3 (DL F v (hb+1)) λhn=>Ba (BF .i64 (hd+1))<|some (.next (((ha++hg)++([58]:Al))++hj,hn,hd+1))) (B3 (he v hb) λhk=>Ba (BF .i64 ((ha.length:Int)+(hk.length:Int)))<|B3 (DL F v hb) λho=>Ba (BF .i64 (hd+1))<|some (.next (ha++hk,ho,hd+1))))) (some (.out (.go ha)))
def Hq (v:(List Ac))(i:Int)(ha:Al):Option (Al):=
 B2 (decide (((Ap v i).fKind)=6)) (Ba (BF .i64 ((([123]:Al).length:Int)+(ha.length:Int)))<|Ba (BF .i64 (((([123]:Al)++ha).length:Int)+(([125]:Al).length:Int)))<|some ((([123]:Al)++ha)++([125]:Al))) (Ba (BF .i64 ((([91]:Al).length:Int)+(ha.length:Int)))<|Ba (BF .i64 (((([91]:Al)++ha).length:Int)+(([93]:Al).length:Int)))<|some ((([91]:Al)++ha)++([93]:Al)))
def Mo (F:Nat)(ha:(List Ac)→Int→Option (Al))(v:(List Ac))(i:Int):Option (Al):=
 Ba (CP i (v.length:Int))<|B2 (decide (((Ap v i).fKind)=1)) (some ([110,117,108,108]:Al)) (B2 (decide (((Ap v i).fKind)=2)) (B2 (decide (((Ap v i).fInt)=1)) (some ([116,114,117,101]:Al)) (some ([102,97,108,115,101]:Al))) (B2 (decide (((Ap v i).fKind)=3)) (Ba (BF .i64 ((Ap v i).fInt))<|some (Lib.itoa ((Ap v i).fInt))) (B2 (decide (((Ap v i).fKind)=4)) (B3 (IJ F ((Ap v i).fStr)) λhb=>some hb) (Ba (BF .i64 (i+1))<|B3 (Ci (λσ=>Ei F v i ha σ.1 σ.2.1 σ.2.2) F (([]:Al),i+1,0)) (BS λν=>Hq v i ν)))))
def G4:Nat→(List Ac)→Int→Option (Al)
 | 0,_,_=>none
 | nn+1,v,i=>Mo nn (G4 nn) v i
def Eu (v:(List Ac))(ha:Int):Option (Stp (Int) (Out (Int) (Unit))):=
 B2 (decide (ha<(v.length:Int))) (Ba (CP ha (v.length:Int))<|B2 (decide (200<(((Ap v ha).fStr).length:Int))) (some (.out (.ret 3))) (Ba (BF .i64 (ha+1))<|some (.next (ha+1)))) (some (.out (.go ())))
def Ir (F:Nat)(v:(List Ac)):Option (Int):=
 B3 (G4 F v 0) λha=>B2 (decide (4000<(ha.length:Int))) (some 3) (some 0)
def Ev (v:(List Ac))(ha:Int):Option (Stp (Int) (Out (Int) (Unit))):=
 B2 (decide (ha<(v.length:Int))) (Ba (CP ha (v.length:Int))<|B2 (((decide (((Ap v ha).fKind)=3))&&((decide (((Ap v ha).fInt)<(-1000000000000)))||(decide (1000000000000<((Ap v ha).fInt)))))) (some (.out (.ret 2))) (Ba (BF .i64 (ha+1))<|some (.next (ha+1)))) (some (.out (.go ())))
def Is (F:Nat)(v:(List Ac)):Option (Int):=
 Ba (imp (!(decide (200<(v.length:Int)))) ((Dz F v 0).isSome))<|B2 (((decide (200<(v.length:Int)))||(decide (8<(ov (Dz F v 0)))))) (some 3) (B3 (Ci (λσ=>Eu v σ) F 0) (BS λν=>Ir F v ))
def JK (F:Nat)(v:(List Ac)):Option (Int):=
 B3 (LD F v) λr1=>B2 (!r1) (some 1) (B3 (Ci (λσ=>Ev v σ) F 0) (BS λν=>Is F v ))
def LE (F:Nat)(v:(List Ac)):Option (Al×Int):=
 B3 (JK F v) λr1=>B2 (!decide (r1=0)) (some (([]:Al),r1)) (B3 (G4 F v 0) λr7=>some (r7,0))
end Go.Proofs.YtfobhhegpkinaaaGreatDoor
namespace Go.Proofs.YtfobhhegpkinaaaGreatDoor.Q
open Go Go.RowKit
set_option linter.unusedVariables false
set_option linter.unusedSimpArgs false
set_option maxRecDepth 100000
set_option maxHeartbeats 4000000
@[reducible] def Ab (x:Ac):List Rp:=[At x.fKind,At x.fInt,rS x.fStr,At x.fN]
theorem BG (x:Ac):(Ab x).length=4:=rfl
theorem Df (x:Ac):(Ab x).all (·.one)=true:=rfl
theorem Wu (F:Nat)(s:Al)(r:Bool)(h:JJ F s=some r):Fn Tryz.prog GE 178 [rS s] [] (λR H=>R=rB r∧H=[]):=by
 refine enter (n:=20) Tryz.func178 Aa Tryz.ntmps178 Aa (λw Z=>?_);unfold JJ at h;refine Ak (wa Aa (Av (An (Ak (wa Aa (Av (AJ (ob h λhi hj hg=>Bu (S:=Nat×(Int)×(Unit)) (V:=(Unit)×(Unit)) 0 (λσ=>Ci (λσ=>Km s σ) σ.1 σ.2.1=some hi) (λσ=>[(0,rS s),(3,At σ.2.1)]) (λσ=>[]) (λσ=>σ.1) (F,0,()) hj (AL.c Aa (AL.c Aa AL.nil)) sN (λσ=>Kl =some r) (λσ=>[]) (λσ=>[]) ?_ ?_))))))))
 ·rintro⟨hz,hb,⟨⟩⟩ hk;refine BW (l':=[(0,rS s),(3,At hb)]) (H':=[]) Aa Aa ?_;obtain⟨hl,rfl,t37,hd,hf⟩:=C4 hk;replace hd:Km s hb=some t37:=hd;unfold Km at hd;refine An (Ak (wm Aa (wm Aa (wv (Bv Cu Aa) (wv (C0 Aa Aa) (Av (cz hd Aa (λhm hn=>?_) (λhm ho=>?_))))))))
  ·refine Ay (AP (An (AJ (ck hn λhh hp=>AH [(0,rS s),(3,At hb),(19,rB ((decide ((B1 s hb)<32))||(decide (126<(B1 s hb)))))] [] ?_ ?_))))
   ·refine Ai (wm Aa (wm Aa (wv (Bw Cu Aa Aa hh) (wv (C0 Aa Aa) (wm Aa (AO (decide ((B1 s hb)<32)) (λha=>?_) (λha=>?_)))))))
    ·refine wf ha (wf ha (wf ha (wf ha (wv (r:=rB true) (A2 Aa ha Aa) (Am ?_)))));exact BV ha
    ·refine wo ha (wm Aa (wo ha (wm Aa (wo ha (wv (Bw Cu Aa Aa hh) (wo ha (wv (CI Aa Aa) (E2 Aa ha Aa (Am ?_)))))))));exact BV ha
   refine cz hp Aa (λhq hr=>?_) (λhq hs=>?_)
   ·refine Ak (wa Aa (Av (A1 (AC (Ae (Ae (Bj ?_)))))));have ht:=BB hr hf hg;refine AC (Ae ?_);obtain rfl:=A5 ht;exact A0 (BJ Tryz.results178 (AM Aa)) sN ⟨Aa,Aa⟩
   ·refine Ay (AG (AP (Ai (wm Aa (ck hs λhu hw=>wv (Bz Aa Aa hu) (wa Aa (Am ?_)))))));have hx:=Bk hw hf;exact Aw (AI (hl,hb+1,()) ⟨hx,Aby _⟩ (AL.c Aa (AL.c Aa AL.nil)) sN)
  ·refine Bx (A6 ?_);have hy:=BX ho hf hg;exact A6 (Be (AI ((),()) hy AL.nil sN))
 ·rintro⟨⟨⟩,⟨⟩⟩ he;refine Cy (l':=[]) (H':=[]) Aa Aa ?_;replace he:Kl =some r:=he;unfold Kl at he;refine Bc (AP (Ak (wa Aa (Av (A1 ?_)))));obtain rfl:=A5 he;exact A0 (BJ Tryz.results178 (AM Aa)) sN ⟨Aa,Aa⟩
theorem El (ok:Bool)(i:Int)(r:Int)(h:Cd ok i=some r):Fn Tryz.prog GE 152 [rB ok,At i] [] (λR H=>R=At r∧H=[]):=by
 refine enter (n:=8) Tryz.func152 Aa Tryz.ntmps152 Aa (λw Z=>?_);unfold Cd at h;refine Ak (wa Aa (Av (An (Ak (wm Aa (Av (cz h Aa (λc1 h2=>?_) (λc1 h5=>?_))))))))
 ·refine Ak (wm Aa (ck h2 λg3 h4=>wv (Bz Aa Aa g3) (wa Aa (Av (A1 (Ae ?_))))));obtain rfl:=A5 h4;exact A0 (BJ Tryz.results152 (AM Aa)) sN ⟨Aa,Aa⟩
 ·refine Ay (AP (Ak (wv (r:=At (-1)) (Az Aa) (Av (A1 ?_)))));obtain rfl:=A5 h5;exact A0 (BJ Tryz.results152 (AM Aa)) sN ⟨Aa,Aa⟩
theorem Ww (F:Nat)(c:Ac)(r:Bool)(h:Pa F c=some r):Fn Tryz.prog GE 153 [BQ (Ab c)] [] (λR H=>R=rB r∧H=[]):=by
 refine enter (n:=21) Tryz.func153 Aa Tryz.ntmps153 Aa (λw Z=>?_);unfold Pa at h;refine Ak (C3 Aa Aa (λb1=>?_));refine wa Aa (Av (ck h λg2 h3=>AH [(2,rB ((decide (c.fKind=4))&&((decide (c.fInt=0))&&((decide (c.fN=0))&&(ov (JJ F c.fStr))))))] [] ?_ ?_))
 ·refine Ai (vF B9 Aa DC (vL 0 DD Aa (wv (B5 Aa Aa) (wm Aa (AO (decide (c.fKind=4)) (λc4=>?_) (λc4=>?_))))))
  ·refine wo c4 (vF B9 Aa C6 (wo c4 (vL 0 CM Aa (wo c4 (wv (B5 Aa Aa) (Er Aa c4 Aa (wm Aa (AO (decide (c.fInt=0)) (λc5=>?_) (λc5=>?_)))))))))
   ·refine wo c5 (vF B9 Aa C6 (wo c5 (vL 0 CM Aa (wo c5 (wv (B5 Aa Aa) (Er Aa c5 Aa (wm Aa (AO (decide (c.fN=0)) (λc6=>?_) (λc6=>?_)))))))))
    ·refine wo c6 (vF B9 Aa Cv (wo c6 (vL 0 CD Aa (wo c6 (CG Tryz.call178 (Wu F c.fStr (ov (JJ F c.fStr)) (E4 (Cr (Cr (Cr g2 c4) c5) c6))) Aa (Er Aa c6 Aa (wa Aa (Am ?_))))))));exact BV (And.intro c4 (And.intro c5 c6))
    ·refine wf c6 (wf c6 (wf c6 (wv (r:=rB false) (A8 Aa c6 Aa) (wa Aa (Am ?_)))));exact BV (And.intro c4 (And.intro c5 c6))
   ·refine wf c5 (wf c5 (wf c5 (wv (r:=rB false) (A8 Aa c5 Aa) (wm Aa (wz Aa Aa (wz Aa Aa (wz Aa Aa (wv (r:=rB false) (A8 (b:=false) Aa Aa Aa) (wa Aa (Am ?_))))))))));exact BV (And.intro c4 c5)
  ·refine wf c4 (wf c4 (wf c4 (wv (r:=rB false) (A8 Aa c4 Aa) (wm Aa (wz Aa Aa (wz Aa Aa (wz Aa Aa (wv (r:=rB false) (A8 (b:=false) Aa Aa Aa) (wm Aa (wz Aa Aa (wz Aa Aa (wz Aa Aa (wv (r:=rB false) (A8 (b:=false) Aa Aa Aa) (wa Aa (Am ?_)))))))))))))));exact BV c4
 refine A1 ?_;obtain rfl:=A5 h3;exact A0 (BJ Tryz.results153 (AM Aa)) sN ⟨Aa,Aa⟩
theorem Wv (F:Nat)(hn:(List Ac)→Int→Int→Option (Int))(ho:(List Ac)→Int→Int→Option (Int))(hq:(∀(v:(List Ac)) (i:Int) (n:Int) (r:Int),hn v i n=some r→Fn Tryz.prog GE 154 [AY 4 (A4 Ab v),At i,At n] [] (λR H=>R=At r∧H=[])))(hr:(∀(v:(List Ac)) (i:Int) (n:Int) (r:Int),ho v i n=some r→Fn Tryz.prog GE 155 [AY 4 (A4 Ab v),At i,At n] [] (λR H=>R=At r∧H=[])))(v:(List Ac))(i:Int)(r:Int)(h:Qt F hn ho v i=some r):Fn Tryz.prog GE 119 [AY 4 (A4 Ab v),At i] [] (λR H=>R=At r∧H=[]):=by
 refine enter (n:=127) Tryz.func119 Aa Tryz.ntmps119 Aa (λw Z=>?_);unfold Qt at h;refine Ak (wa Aa (Av (An (AH [(0,AY 4 (A4 Ab v)),(1,At i),(13,rB ((decide (i<0))||(decide ((v.length:Int)≤i))))] [] ?_ ?_))))
 ·refine Ai (wm Aa (wv (C0 Aa Aa) (wm Aa (AO (decide (i<0)) (λc1=>?_) (λc1=>?_)))))
  ·refine wf c1 (wf c1 (wf c1 (wf c1 (wv (r:=rB true) (A2 Aa c1 Aa) (Am ?_)))));exact BV c1
  ·refine wo c1 (wm Aa (wo c1 (wm Aa (wo c1 (wv (Bq (ys:=v) (enc:=Ab) Co Aa) (wo c1 (wv (GH Aa Aa) (E2 Aa c1 Aa (Am ?_)))))))));exact BV c1
 refine cz h Aa (λc2 h3=>?_) (λc2 h4=>?_)
 ·refine Ak (wv (r:=At (-1)) (Az Aa) (Av (A1 (Ae ?_))));obtain rfl:=A5 h3;exact A0 (BJ ME (AM Aa)) sN ⟨Aa,Aa⟩
 ·refine Ay (AP (Ak (wm Aa (wm Aa (ck h4 λg5 h6=>wv (By (enc:=Ab) (ys:=v) Co CC Aa Aa g5) (wv (Di NF CC Aa Aa Aa) (Cc (cs:=[At 0,At 0,rS ([]:Al),At 0]) Lc Aa Aa (λb7=>?_))))))));refine Br (i:=0) CC Aa Aa Aa (Cq.c Aa) Aa Aa (cs':=[At ((Ap v i).fKind),At ((Ap v i).fInt),rS ((Ap v i).fStr),At ((Ap v i).fN)]) Aa (H':=[.blk b7 (Ab (Ap v i)) 83]) Aa (Av (An (Ak (vF B9 Aa DC (vL 0 DD Aa (wv (B5 Aa Aa) (Av (cz h6 Aa (λc8 h9=>?_) (λc8 hs=>?_)))))))))
  ·refine ck h9 λht hu=>ck hu λhw hx=>ck hx λhy hz=>AH [(4,At (bif decide (((Ap v i).fInt)=0) then(bif decide (((Ap v i).fStr)=([]:Al)) then(ov (Cd (decide (((Ap v i).fN)=0)) i)) else(ov (Cd false i))) else(ov (Cd false i))))] [] ?_ ?_
   ·refine Ai (vF B9 Aa C6 (vL 0 CM Aa (wv (B5 Aa Aa) (wm Aa (AO (decide (((Ap v i).fInt)=0)) (λhb=>?_) (λhb=>?_))))))
    ·refine wo hb (vF B9 Aa Cv (wo hb (vL 0 CD Aa (wo hb (wv (EZ Aa Aa) (Er Aa hb Aa (wm Aa (AO (decide (((Ap v i).fStr)=([]:Al))) (λhe=>?_) (λhe=>?_)))))))))
     ·refine wo he (vF B9 Aa C6 (wo he (vL 0 CM Aa (wo he (wv (B5 Aa Aa) (Er Aa he Aa (wm Aa (CG JA (El (decide (((Ap v i).fN)=0)) i (ov (Cd (decide (((Ap v i).fN)=0)) i)) (E4 (Cr (Cr ht hb) he))) Aa (wa Aa (Am ?_))))))))));exact BV (And.intro hb he)
     ·refine wf he (wf he (wf he (wv (r:=rB false) (A8 Aa he Aa) (wm Aa (CG JA (El false i (ov (Cd false i)) (E4 (CE (Cr hw hb) he))) Aa (wa Aa (Am ?_)))))));exact BV (And.intro hb he)
    ·refine wf hb (wf hb (wf hb (wv (r:=rB false) (A8 Aa hb Aa) (wm Aa (wz Aa Aa (wz Aa Aa (wz Aa Aa (wv (r:=rB false) (A8 (b:=false) Aa Aa Aa) (wm Aa (CG JA (El false i (ov (Cd false i)) (E4 (CE hy hb))) Aa (wa Aa (Am ?_))))))))))));exact BV hb
   refine A1 (Ae ?_);obtain rfl:=A5 hz;exact A0 (BJ ME (AM Aa)) sN ⟨Aa,Aa⟩
  ·refine Ay (AP (An (Ak (vF B9 Aa DC (vL 0 DD Aa (wv (B5 Aa Aa) (Av (cz hs Aa (λh0 h1=>?_) (λh0 h2=>?_)))))))))
   ·refine ck h1 λh5 h7=>ck h7 λh8 hA=>ck hA λhB hC=>ck hC λhD hE=>ck hE λhG hH=>AH [(4,At (bif decide (((Ap v i).fInt)=0) then(bif decide (((Ap v i).fStr)=([]:Al)) then(ov (Cd (decide (((Ap v i).fN)=0)) i)) else(ov (Cd false i))) else(bif decide (((Ap v i).fInt)=1) then(bif decide (((Ap v i).fStr)=([]:Al)) then(ov (Cd (decide (((Ap v i).fN)=0)) i)) else(ov (Cd false i))) else(ov (Cd false i)))))] [] ?_ ?_
    ·refine Ai (vF B9 Aa C6 (vL 0 CM Aa (wv (B5 Aa Aa) (wm Aa (AO (decide (((Ap v i).fInt)=0)) (λha=>?_) (λha=>?_))))))
     ·refine wf ha (wf ha (wf ha (wv (r:=rB true) (A2 Aa ha Aa) (wm Aa (AE (b:=true) Aa Aa Aa (vF B9 Aa Cv (AE (b:=true) Aa Aa Aa (vL 0 CD Aa (AE (b:=true) Aa Aa Aa (wv (EZ Aa Aa) (wv (r:=rB (decide (((Ap v i).fStr)=([]:Al)))) (A2 (b:=true) Aa Aa Aa) (wm Aa (AO (decide (((Ap v i).fStr)=([]:Al))) (λhf=>?_) (λhf=>?_))))))))))))))
      ·refine wo hf (vF B9 Aa C6 (wo hf (vL 0 CM Aa (wo hf (wv (B5 Aa Aa) (Er Aa hf Aa (wm Aa (CG JA (El (decide (((Ap v i).fN)=0)) i (ov (Cd (decide (((Ap v i).fN)=0)) i)) (E4 (Cr (Cr h5 ha) hf))) Aa (wa Aa (Am ?_))))))))));exact BV (And.intro ha hf)
      ·refine wf hf (wf hf (wf hf (wv (r:=rB false) (A8 Aa hf Aa) (wm Aa (CG JA (El false i (ov (Cd false i)) (E4 (CE (Cr h8 ha) hf))) Aa (wa Aa (Am ?_)))))));exact BV (And.intro ha hf)
     ·refine wo ha (vF B9 Aa C6 (wo ha (vL 0 CM Aa (wo ha (wv (B5 Aa Aa) (E2 Aa ha Aa (wm Aa (AO (decide (((Ap v i).fInt)=1)) (λhd=>?_) (λhd=>?_)))))))))
      ·refine wo hd (vF B9 Aa Cv (wo hd (vL 0 CD Aa (wo hd (wv (EZ Aa Aa) (Er Aa hd Aa (wm Aa (AO (decide (((Ap v i).fStr)=([]:Al))) (λhg=>?_) (λhg=>?_)))))))))
       ·refine wo hg (vF B9 Aa C6 (wo hg (vL 0 CM Aa (wo hg (wv (B5 Aa Aa) (Er Aa hg Aa (wm Aa (CG JA (El (decide (((Ap v i).fN)=0)) i (ov (Cd (decide (((Ap v i).fN)=0)) i)) (E4 (Cr (Cr (CE hB ha) hd) hg))) Aa (wa Aa (Am ?_))))))))));exact BV (And.intro ha (And.intro hd hg))
       ·refine wf hg (wf hg (wf hg (wv (r:=rB false) (A8 Aa hg Aa) (wm Aa (CG JA (El false i (ov (Cd false i)) (E4 (CE (Cr (CE hD ha) hd) hg))) Aa (wa Aa (Am ?_)))))));exact BV (And.intro ha (And.intro hd hg))
      ·refine wf hd (wf hd (wf hd (wv (r:=rB false) (A8 Aa hd Aa) (wm Aa (wz Aa Aa (wz Aa Aa (wz Aa Aa (wv (r:=rB false) (A8 (b:=false) Aa Aa Aa) (wm Aa (CG JA (El false i (ov (Cd false i)) (E4 (CE (CE hG ha) hd))) Aa (wa Aa (Am ?_))))))))))));exact BV (And.intro ha hd)
    refine A1 (Ae ?_);obtain rfl:=A5 hH;exact A0 (BJ ME (AM Aa)) sN ⟨Aa,Aa⟩
   ·refine Ay (AP (An (Ak (vF B9 Aa DC (vL 0 DD Aa (wv (B5 Aa Aa) (Av (cz h2 Aa (λhI hJ=>?_) (λhI hK=>?_)))))))))
    ·refine ck hJ λhL hN=>ck hN λhO hP=>AH [(4,At (bif decide (((Ap v i).fStr)=([]:Al)) then(ov (Cd (decide (((Ap v i).fN)=0)) i)) else(ov (Cd false i))))] [] ?_ ?_
     ·refine Ai (vF B9 Aa Cv (vL 0 CD Aa (wv (EZ Aa Aa) (wm Aa (AO (decide (((Ap v i).fStr)=([]:Al))) (λhh=>?_) (λhh=>?_))))))
      ·refine wo hh (vF B9 Aa C6 (wo hh (vL 0 CM Aa (wo hh (wv (B5 Aa Aa) (Er Aa hh Aa (wm Aa (CG JA (El (decide (((Ap v i).fN)=0)) i (ov (Cd (decide (((Ap v i).fN)=0)) i)) (E4 (Cr hL hh))) Aa (wa Aa (Am ?_))))))))));exact BV hh
      ·refine wf hh (wf hh (wf hh (wv (r:=rB false) (A8 Aa hh Aa) (wm Aa (CG JA (El false i (ov (Cd false i)) (E4 (CE hO hh))) Aa (wa Aa (Am ?_)))))));exact BV hh
     refine A1 (Ae ?_);obtain rfl:=A5 hP;exact A0 (BJ ME (AM Aa)) sN ⟨Aa,Aa⟩
    ·refine Ay (AP (An (Ak (vF B9 Aa DC (vL 0 DD Aa (wv (B5 Aa Aa) (Av (cz hK Aa (λhQ hR=>?_) (λhQ hS=>?_)))))))))
     ·refine Ak (wv (Bf (i:=0) NF CC Aa Aa Aa Aa) (ob hR λhp hT hU=>CG Tryz.call153 (Ww F (Ap v i) hp hT) Aa (wm Aa (ob hU λhV hW hX=>CG JA (El hp i hV hW) Aa (wa Aa (Av (A1 (Ae ?_))))))));obtain rfl:=A5 hX;exact A0 (BJ ME (AM Aa)) (sS sN) ⟨Aa,Aa⟩
     ·refine Ay (AP (An (AH [(0,AY 4 (A4 Ab v)),(1,At i),(5,rP b7 0),(96,rB ((decide (((Ap v i).fKind)=5))&&((decide (((Ap v i).fInt)=0))&&((decide (((Ap v i).fStr)=([]:Al)))&&(decide (0≤((Ap v i).fN)))))))] [.blk b7 (Ab (Ap v i)) 83] ?_ ?_)))
      ·refine Ai (vF B9 Aa DC (vL 0 DD Aa (wv (B5 Aa Aa) (wm Aa (AO (decide (((Ap v i).fKind)=5)) (λc53=>?_) (λc53=>?_))))))
       ·refine wo c53 (vF B9 Aa C6 (wo c53 (vL 0 CM Aa (wo c53 (wv (B5 Aa Aa) (Er Aa c53 Aa (wm Aa (AO (decide (((Ap v i).fInt)=0)) (λhj=>?_) (λhj=>?_)))))))))
        ·refine wo hj (vF B9 Aa Cv (wo hj (vL 0 CD Aa (wo hj (wv (EZ Aa Aa) (Er Aa hj Aa (wm Aa (AO (decide (((Ap v i).fStr)=([]:Al))) (λhl=>?_) (λhl=>?_)))))))))
         ·refine wo hl (vF B9 Aa C6 (wo hl (vL 0 CM Aa (wo hl (wv (GH Aa Aa) (Er Aa hl Aa (Am ?_)))))));exact BV (And.intro c53 (And.intro hj hl))
         ·refine wf hl (wf hl (wf hl (wv (r:=rB false) (A8 Aa hl Aa) (Am ?_))));exact BV (And.intro c53 (And.intro hj hl))
        ·refine wf hj (wf hj (wf hj (wv (r:=rB false) (A8 Aa hj Aa) (wm Aa (wz Aa Aa (wz Aa Aa (wz Aa Aa (wv (r:=rB false) (A8 (b:=false) Aa Aa Aa) (Am ?_)))))))));exact BV (And.intro c53 hj)
       ·refine wf c53 (wf c53 (wf c53 (wv (r:=rB false) (A8 Aa c53 Aa) (wm Aa (wz Aa Aa (wz Aa Aa (wz Aa Aa (wv (r:=rB false) (A8 (b:=false) Aa Aa Aa) (wm Aa (wz Aa Aa (wz Aa Aa (wz Aa Aa (wv (r:=rB false) (A8 (b:=false) Aa Aa Aa) (Am ?_))))))))))))));exact BV c53
      refine cz hS Aa (λhY hZ=>?_) (λhY ga=>?_)
      ·refine Ak (wm Aa (wm Aa (ck hZ λgb gc=>wv (Bz Aa Aa gb) (vF B9 Aa C6 (vL 0 CM Aa (ob gc λgd ge gf=>CG Tryz.call154 (hq v (i+1) ((Ap v i).fN) gd ge) Aa (wa Aa (Av (A1 (Ae ?_))))))))));obtain rfl:=A5 gf;exact A0 (BJ ME (AM Aa)) (sS sN) ⟨Aa,Aa⟩
      ·refine Ay (AP (An (AH [(0,AY 4 (A4 Ab v)),(1,At i),(5,rP b7 0),(120,rB ((decide (((Ap v i).fKind)=6))&&((decide (((Ap v i).fInt)=0))&&((decide (((Ap v i).fStr)=([]:Al)))&&(decide (0≤((Ap v i).fN)))))))] [.blk b7 (Ab (Ap v i)) 83] ?_ ?_)))
       ·refine Ai (vF B9 Aa DC (vL 0 DD Aa (wv (B5 Aa Aa) (wm Aa (AO (decide (((Ap v i).fKind)=6)) (λhi=>?_) (λhi=>?_))))))
        ·refine wo hi (vF B9 Aa C6 (wo hi (vL 0 CM Aa (wo hi (wv (B5 Aa Aa) (Er Aa hi Aa (wm Aa (AO (decide (((Ap v i).fInt)=0)) (λhk=>?_) (λhk=>?_)))))))))
         ·refine wo hk (vF B9 Aa Cv (wo hk (vL 0 CD Aa (wo hk (wv (EZ Aa Aa) (Er Aa hk Aa (wm Aa (AO (decide (((Ap v i).fStr)=([]:Al))) (λhm=>?_) (λhm=>?_)))))))))
          ·refine wo hm (vF B9 Aa C6 (wo hm (vL 0 CM Aa (wo hm (wv (GH Aa Aa) (Er Aa hm Aa (Am ?_)))))));exact BV (And.intro hi (And.intro hk hm))
          ·refine wf hm (wf hm (wf hm (wv (r:=rB false) (A8 Aa hm Aa) (Am ?_))));exact BV (And.intro hi (And.intro hk hm))
         ·refine wf hk (wf hk (wf hk (wv (r:=rB false) (A8 Aa hk Aa) (wm Aa (wz Aa Aa (wz Aa Aa (wz Aa Aa (wv (r:=rB false) (A8 (b:=false) Aa Aa Aa) (Am ?_)))))))));exact BV (And.intro hi hk)
        ·refine wf hi (wf hi (wf hi (wv (r:=rB false) (A8 Aa hi Aa) (wm Aa (wz Aa Aa (wz Aa Aa (wz Aa Aa (wv (r:=rB false) (A8 (b:=false) Aa Aa Aa) (wm Aa (wz Aa Aa (wz Aa Aa (wz Aa Aa (wv (r:=rB false) (A8 (b:=false) Aa Aa Aa) (Am ?_))))))))))))));exact BV hi
       refine cz ga Aa (λgg gh=>?_) (λgg gi=>?_)
       ·refine Ak (wm Aa (wm Aa (ck gh λgj gl=>wv (Bz Aa Aa gj) (vF B9 Aa C6 (vL 0 CM Aa (ob gl λgm gp gq=>CG Tryz.call155 (hr v (i+1) ((Ap v i).fN) gm gp) Aa (wa Aa (Av (A1 (Ae ?_))))))))));obtain rfl:=A5 gq;exact A0 (BJ ME (AM Aa)) (sS sN) ⟨Aa,Aa⟩
       ·refine Ay (AP (Ak (wv (r:=At (-1)) (Az Aa) (Av (A1 ?_)))));obtain rfl:=A5 gi;exact A0 (BJ ME (AM Aa)) (sS sN) ⟨Aa,Aa⟩
theorem Qv (F:Nat)(ha:(List Ac)→Int→Option (Int))(hk:(∀(v:(List Ac)) (i:Int) (r:Int),ha v i=some r→Fn Tryz.prog GE 119 [AY 4 (A4 Ab v),At i] [] (λR H=>R=At r∧H=[])))(v:(List Ac))(i:Int)(n:Int)(r:Int)(h:IK F ha v i n=some r):Fn Tryz.prog GE 154 [AY 4 (A4 Ab v),At i,At n] [] (λR H=>R=At r∧H=[]):=by
 refine enter (n:=19) Tryz.func154 Aa Tryz.ntmps154 Aa (λw Z=>?_);unfold IK at h;refine Ak (wa Aa (Av (An (Ak (wa Aa (Av (AJ (ob h λhl hm hh=>Bu (S:=Nat×(Int×Int)×(Unit)) (V:=(Int)×(Unit)) 0 (λσ=>Ci (λσ=>Dp v n ha σ.1 σ.2) σ.1 σ.2.1=some hl) (λσ=>[(0,AY 4 (A4 Ab v)),(1,At σ.2.1.1),(2,At n),(6,At 0),(7,At σ.2.1.2)]) (λσ=>[]) (λσ=>σ.1) (F,(i,0),()) hm (AL.c5 Aa Aa Aa Aa Aa AL.nil) sN (λσ=>Et σ.1=some r) (λσ=>[(1,At σ.1),(6,At 0)]) (λσ=>[]) ?_ ?_))))))))
 ·rintro⟨h2,⟨hb,hf⟩,⟨⟩⟩ hn;refine BW (l':=[(0,AY 4 (A4 Ab v)),(1,At hb),(2,At n),(6,At 0),(7,At hf)]) (H':=[]) Aa Aa ?_;obtain⟨ho,rfl,hp,hd,hg⟩:=C4 hn;replace hd:Dp v n ha hb hf=some hp:=hd;unfold Dp at hd;refine An (Ak (wm Aa (wm Aa (wv (C0 Aa Aa) (Av (cz hd Aa (λc46 hq=>?_) (λc46 hr=>?_)))))))
  ·refine Ay (AP (An (AJ (Ak (wm Aa (wm Aa (ob hq λhi hs ht=>CG JB (hk v hb hi hs) Aa (wa Aa (Bs (wm Aa (wv (C0 Aa Aa) (Av (cz ht Aa (λc51 hu=>?_) (λc51 hw=>?_))))))))))))))
   ·refine Ak (wv (r:=At (-1)) (Az Aa) (Av (A1 (AC (Ae (Ae (Bj ?_)))))));have hx:=BB hu hg hh;refine AC (Ae ?_);obtain rfl:=A5 hx;exact A0 (BJ Tryz.results154 (AM Aa)) sN ⟨Aa,Aa⟩
   ·refine Ay (AG (AP (Ai (wm Aa (ck hw λhy hz=>wv (Bz Aa Aa hy) (wa Aa (Am ?_)))))));have h0:=Bk hz hg;exact Aw (AI (ho,(hi,hf+1),()) ⟨h0,Aby _⟩ (AL.c5 Aa Aa Aa Aa Aa AL.nil) sN)
  ·refine Bx (A6 ?_);have h1:=BX hr hg hh;exact A6 (Be (AI (hb,()) h1 (AL.c Aa (AL.c Aa AL.nil)) sN))
 ·rintro⟨hj,⟨⟩⟩ he;refine Cy (l':=[(1,At hj),(6,At 0)]) (H':=[]) Aa Aa ?_;replace he:Et hj=some r:=he;unfold Et at he;refine Bc (AP (Ak (wm Aa (wa Aa (Av (A1 ?_))))));obtain rfl:=A5 he;exact A0 (BJ Tryz.results154 (AM Aa)) sN ⟨Aa,Aa⟩
theorem UK (F:Nat)(hg:(List Ac)→Int→Option (Int))(hp:(∀(v:(List Ac)) (i:Int) (r:Int),hg v i=some r→Fn Tryz.prog GE 119 [AY 4 (A4 Ab v),At i] [] (λR H=>R=At r∧H=[])))(v:(List Ac))(i:Int)(n:Int)(r:Int)(h:Nv F hg v i n=some r):Fn Tryz.prog GE 155 [AY 4 (A4 Ab v),At i,At n] [] (λR H=>R=At r∧H=[]):=by
 refine enter (n:=51) Tryz.func155 Aa Tryz.ntmps155 Aa (λw Z=>?_);unfold Nv at h;refine Ak (wa Aa (Bs (wv (r:=rS ([]:Al)) (Az Aa) (Av (An (Ak (wa Aa (Av (AJ (ob h λhq hr hl=>Bu (S:=Nat×(Int×Al×Int)×(Unit)) (V:=(Int)×(Unit)) 0 (λσ=>Ci (λσ=>DK F v n hg σ.1 σ.2.1 σ.2.2) σ.1 σ.2.1=some hq) (λσ=>[(0,AY 4 (A4 Ab v)),(1,At σ.2.1.1),(2,At n),(7,rS σ.2.1.2.1),(8,At σ.2.1.2.2)]) (λσ=>[]) (λσ=>σ.1) (F,(i,([]:Al),0),()) hr (AL.c5 Aa Aa Aa Aa Aa AL.nil) sN (λσ=>GX σ.1=some r) (λσ=>[(1,At σ.1)]) (λσ=>[]) ?_ ?_))))))))))
 ·rintro⟨hL,⟨he,hh,hf⟩,⟨⟩⟩ hs;refine BW (l':=[(0,AY 4 (A4 Ab v)),(1,At he),(2,At n),(7,rS hh),(8,At hf)]) (H':=[]) Aa Aa ?_;obtain⟨ht,rfl,hu,hi,hj⟩:=C4 hs;replace hi:DK F v n hg he hh hf=some hu:=hi;unfold DK at hi;refine An (Ak (wm Aa (wm Aa (wv (C0 Aa Aa) (Av (cz hi Aa (λhw hx=>?_) (λhw hy=>?_)))))))
  ·refine Ay (AP (An (AJ (An (ck hx λhm hz=>ck hz λh0 h1=>AH [(0,AY 4 (A4 Ab v)),(1,At he),(2,At n),(8,At hf),(38,rB ((decide ((v.length:Int)≤he))||((!(ov (Pa F (Ap v he))))||((decide (0<hf))&&(CA ((Ap v he).fStr) hh||decide (((Ap v he).fStr)=hh))))))] [] ?_ ?_)))))
   ·refine Ai (wm Aa (wm Aa (wv (Bq (ys:=v) (enc:=Ab) Co Aa) (wv (GH Aa Aa) (wm Aa (AO (decide ((v.length:Int)≤he)) (λha=>?_) (λha=>?_)))))))
    ·refine wf ha (wf ha (wf ha (wf ha (wf ha (wf ha (wv (r:=rB true) (A2 Aa ha Aa) (wm Aa (wz Aa Aa (wz Aa Aa (wz Aa Aa (wu (wu (wu (wu (wu (wu (wu (wz Aa Aa (wv (r:=rB true) (A2 (b:=true) Aa Aa Aa) (Am ?_))))))))))))))))))));exact BV ha
    ·refine wo ha (wm Aa (wo ha (wm Aa (wo ha (wv (By (enc:=Ab) (ys:=v) Co CC Aa Aa (CE hm ha)) (wo ha (wv (Di NF CC Aa Aa Aa) (wo ha (CG Tryz.call153 (Ww F (Ap v he) (ov (Pa F (Ap v he))) (E4 (CE h0 ha))) Aa (wo ha (wv (BE Aa) (E2 Aa ha Aa (wm Aa (AO (!(ov (Pa F (Ap v he)))) (λhd=>?_) (λhd=>?_)))))))))))))))
     ·refine wf hd (wf hd (wf hd (wu (wu (wu (wu (wu (wu (wu (wf hd (wv (r:=rB true) (A2 Aa hd Aa) (Am ?_))))))))))));exact BV (And.intro ha hd)
     ·refine wo hd (wm Aa (wo hd (wv (CI Aa Aa) (wo hd (wm Aa (AO (decide (0<hf)) (λhb=>?_) (λhb=>?_)))))))
      ·refine wo hb (wm Aa (wo hb (wm Aa (wo hb (wv (By (enc:=Ab) (ys:=v) Co CC Aa Aa (CE hm ha)) (wo hb (wv (Bi B9 Aa Cv Aa Aa) (wo hb (wv (Bg CD Aa Aa) (wo hb (wm Aa (wo hb (wv (TO Aa Aa) (wo hd (Er Aa hb Aa (E2 Aa hd Aa (Am ?_)))))))))))))))));exact BV (And.intro ha (And.intro hd hb))
      ·refine wf hb (wf hb (wf hb (wf hb (wf hb (wf hb (wf hb (wo hd (wv (r:=rB false) (A8 Aa hb Aa) (E2 Aa hd Aa (Am ?_))))))))));exact BV (And.intro ha (And.intro hd hb))
   refine cz h1 Aa (λh2 h3=>?_) (λh2 h4=>?_)
   ·refine Ak (wv (r:=At (-1)) (Az Aa) (Av (A1 (Ae (AC (Ae (Ae (Bj ?_))))))));have h5:=BB h3 hj hl;refine AC (Ae ?_);obtain rfl:=A5 h5;exact A0 (BJ Tryz.results155 (AM Aa)) sN ⟨Aa,Aa⟩
   ·refine Ay (AP (Ak (wm Aa (wm Aa (ck h4 λh6 h7=>wv (By (enc:=Ab) (ys:=v) Co CC Aa Aa h6) (wv (Bi B9 Aa Cv Aa Aa) (wv (Bg CD Aa Aa) (wa Aa (Bs (wm Aa (wm Aa (ck h7 λh8 h9=>wv (Bz Aa Aa h8) (ob h9 λhn hA hB=>CG JB (hp v (he+1) hn hA) Aa (wa Aa (Bs (wm Aa (wv (C0 Aa Aa) (Av (cz hB Aa (λhC hD=>?_) (λhC hE=>?_))))))))))))))))))))
    ·refine Ak (wv (r:=At (-1)) (Az Aa) (Av (A1 (AC (Ae (Ae (Bj ?_)))))));have hG:=BB hD hj hl;refine AC (Ae ?_);obtain rfl:=A5 hG;exact A0 (BJ Tryz.results155 (AM Aa)) sN ⟨Aa,Aa⟩
    ·refine Ay (AG (AP (Ai (wm Aa (ck hE λhH hI=>wv (Bz Aa Aa hH) (wa Aa (Am ?_)))))));have hJ:=Bk hI hj;exact Aw (AI (ht,(hn,(Ap v he).fStr,hf+1),()) ⟨hJ,Aby _⟩ (AL.c5 Aa Aa Aa Aa Aa AL.nil) sN)
  ·refine Bx (A6 ?_);have hK:=BX hy hj hl;exact A6 (Be (AI (he,()) hK (AL.c Aa AL.nil) sN))
 ·rintro⟨ho,⟨⟩⟩ hk;refine Cy (l':=[(1,At ho)]) (H':=[]) Aa Aa ?_;replace hk:GX ho=some r:=hk;unfold GX at hk;refine Bc (AP (Ak (wm Aa (wa Aa (Av (A1 ?_))))));obtain rfl:=A5 hk;exact A0 (BJ Tryz.results155 (AM Aa)) sN ⟨Aa,Aa⟩
theorem Ip:∀F:Nat,(∀(v:(List Ac)) (i:Int) (r:Int),DL F v i=some r→Fn Tryz.prog GE 119 [AY 4 (A4 Ab v),At i] [] (λR H=>R=At r∧H=[]))∧(∀(v:(List Ac)) (i:Int) (n:Int) (r:Int),GZ F v i n=some r→Fn Tryz.prog GE 154 [AY 4 (A4 Ab v),At i,At n] [] (λR H=>R=At r∧H=[]))∧(∀(v:(List Ac)) (i:Int) (n:Int) (r:Int),Mq F v i n=some r→Fn Tryz.prog GE 155 [AY 4 (A4 Ab v),At i,At n] [] (λR H=>R=At r∧H=[]))
  | 0=>⟨(λ_ _ _ h=>by simp[DL] at h),(λ_ _ _ _ h=>by simp[GZ] at h),(λ_ _ _ _ h=>by simp[Mq] at h)⟩
  | nn+1=>⟨(λv i r h=>Wv nn (GZ nn) (Mq nn) (Ip nn).2.1 (Ip nn).2.2 v i r (by rw[DL] at h;exact h)),(λv i n r h=>Qv nn (DL nn) (Ip nn).1 v i n r (by rw[GZ] at h;exact h)),(λv i n r h=>UK nn (DL nn) (Ip nn).1 v i n r (by rw[Mq] at h;exact h))⟩
theorem GR (F:Nat)(v:(List Ac))(i:Int)(r:Int)(h:DL F v i=some r):Fn Tryz.prog GE 119 [AY 4 (A4 Ab v),At i] [] (λR H=>R=At r∧H=[]):=(Ip F).1 v i r h
theorem UM (F:Nat)(v:(List Ac))(r:Bool)(h:LD F v=some r):Fn Tryz.prog GE 95 [AY 4 (A4 Ab v)] [] (λR H=>R=rB r∧H=[]):=by
 refine enter (n:=13) Tryz.func95 Aa Tryz.ntmps95 Aa (λw Z=>?_);unfold LD at h;refine Ak (wa Aa (Av (ck h λg1 h2=>AH [(2,rB ((decide (0<(v.length:Int)))&&(decide ((ov (DL F v 0))=(v.length:Int)))))] [] ?_ ?_)))
 ·refine Ai (wm Aa (wv (Bq (ys:=v) (enc:=Ab) Co Aa) (wv (CI Aa Aa) (wm Aa (AO (decide (0<(v.length:Int))) (λc3=>?_) (λc3=>?_))))))
  ·refine wo c3 (wm Aa (wo c3 (CG JB (GR F v 0 (ov (DL F v 0)) (E4 (Cr g1 c3))) Aa (wo c3 (wm Aa (wo c3 (wv (Bq (ys:=v) (enc:=Ab) Co Aa) (wo c3 (wv (B5 Aa Aa) (Er Aa c3 Aa (wa Aa (Am ?_))))))))))));exact BV c3
  ·refine wf c3 (wf c3 (wf c3 (wf c3 (wf c3 (wv (r:=rB false) (A8 Aa c3 Aa) (wa Aa (Am ?_)))))));exact BV c3
 refine A1 ?_;obtain rfl:=A5 h2;exact A0 (BJ Tryz.results95 (AM Aa)) sN ⟨Aa,Aa⟩
theorem SR (F:Nat)(hf:(List Ac)→Int→Option (Int))(hj:(∀(v:(List Ac)) (i:Int) (r:Int),hf v i=some r→Fn Tryz.prog GE 96 [AY 4 (A4 Ab v),At i] [] (λR H=>R=At r∧H=[])))(v:(List Ac))(i:Int)(r:Int)(h:Iq F hf v i=some r):Fn Tryz.prog GE 96 [AY 4 (A4 Ab v),At i] [] (λR H=>R=At r∧H=[]):=by
 refine enter (n:=47) Tryz.func96 Aa Tryz.ntmps96 Aa (λw Z=>?_);unfold Iq at h;refine Ak (wa Aa (Bs (wm Aa (wm Aa (ck h λg1 h2=>wv (By (enc:=Ab) (ys:=v) Co CC Aa Aa g1) (wv (Di NF CC Aa Aa Aa) (Cc (cs:=[At 0,At 0,rS ([]:Al),At 0]) Lc Aa Aa (λb3=>?_))))))));refine Br (i:=0) CC Aa Aa Aa (Cq.c Aa) Aa Aa (cs':=[At ((Ap v i).fKind),At ((Ap v i).fInt),rS ((Ap v i).fStr),At ((Ap v i).fN)]) Aa (H':=[.blk b3 (Ab (Ap v i)) 83]) Aa (Av (An (AH [(0,AY 4 (A4 Ab v)),(1,At i),(5,rP b3 0),(21,rB ((!decide (((Ap v i).fKind)=5))&&(!decide (((Ap v i).fKind)=6))))] [.blk b3 (Ab (Ap v i)) 83] ?_ ?_)))
 ·refine Ai (vF B9 Aa DC (vL 0 DD Aa (wv (BT Aa Aa) (wm Aa (AO (!decide (((Ap v i).fKind)=5)) (λc4=>?_) (λc4=>?_))))))
  ·refine wo c4 (vF B9 Aa DC (wo c4 (vL 0 DD Aa (wo c4 (wv (BT Aa Aa) (Er Aa c4 Aa (Am ?_)))))));exact BV c4
  ·refine wf c4 (wf c4 (wf c4 (wv (r:=rB false) (A8 Aa c4 Aa) (Am ?_))));exact BV c4
 refine cz h2 Aa (λc5 h6=>?_) (λc5 h7=>?_)
 ·refine Ak (wa Aa (Av (A1 (Ae ?_))));obtain rfl:=A5 h6;exact A0 (BJ Tryz.results96 (AM Aa)) (sS sN) ⟨Aa,Aa⟩
 ·refine Ay (AP (Ak (wa Aa (Bs (wm Aa (ck h7 λg8 h9=>wv (Bz Aa Aa g8) (wa Aa (Av (An (Ak (wa Aa (Av (AJ (ob h9 λhr hs ht=>Bu (S:=Nat×(Int×Int×Int)×(Unit)) (V:=(Int)×(Unit)) 0 (λσ=>Ci (λσ=>Dn F v i hf σ.1 σ.2.1 σ.2.2) σ.1 σ.2.1=some hr) (λσ=>[(0,AY 4 (A4 Ab v)),(5,rP b3 0),(6,At σ.2.1.1),(7,At σ.2.1.2.1),(8,At σ.2.1.2.2)]) (λσ=>[.blk b3 (Ab (Ap v i)) 83]) (λσ=>σ.1) (F,(0,i+1,0),()) hs (AL.c5 Aa Aa Aa Aa Aa AL.nil) (sC sN) (λσ=>Ej σ.1=some r) (λσ=>[(6,At σ.1)]) (λσ=>[]) ?_ ?_))))))))))))))
  ·rintro⟨gi,⟨hd,ha,hb⟩,⟨⟩⟩ hu;refine BW (l':=[(0,AY 4 (A4 Ab v)),(5,rP b3 0),(6,At hd),(7,At ha),(8,At hb)]) (H':=[.blk b3 (Ab (Ap v i)) 83]) Aa Aa ?_;obtain⟨hg,rfl,hw,hh,he⟩:=C4 hu;replace hh:Dn F v i hf hd ha hb=some hw:=hh;unfold Dn at hh;refine An (Ak (wm Aa (vF B9 Aa C6 (vL 0 CM Aa (wv (C0 Aa Aa) (Av (cz hh Aa (λhx hy=>?_) (λhx hz=>?_))))))))
   ·refine Ay (AP (An (AJ (An (Ak (vF B9 Aa DC (vL 0 DD Aa (wv (B5 Aa Aa) (Av (cz hy Aa (λh0 h1=>?_) (λh0 h3=>?_)))))))))))
    ·refine Ai (wm Aa (ck h1 λh4 h5=>wv (Bz Aa Aa h4) (wa Aa (Bs (wm Aa (wm Aa (ob h5 λhk h8 hA=>CG Tryz.call96 (hj v (ha+1) hk h8) Aa (wa Aa (Av (An (Ak (wm Aa (wm Aa (wv (CI Aa Aa) (Av (cz hA Aa (λhB hC=>?_) (λhB hD=>?_)))))))))))))))))
     ·refine Ai (wm Aa (wa Aa (Av (Ai (wm Aa (wm Aa (ob hC λhl hE hG=>CG JB (GR F v (ha+1) hl hE) Aa (wa Aa (Am (AG (AP (Ai (wm Aa (ck hG λhH hI=>wv (Bz Aa Aa hH) (wa Aa (Am ?_))))))))))))))));have hJ:=Bk hI he;exact Aw (AI (hg,(hk,hl,hb+1),()) ⟨hJ,Aby _⟩ (AL.c5 Aa Aa Aa Aa Aa AL.nil) (sC sN))
     ·refine Ay (AP (Ai (wm Aa (wm Aa (ob hD λhm hK hL=>CG JB (GR F v (ha+1) hm hK) Aa (wa Aa (Am (AG (AP (Ai (wm Aa (ck hL λhN hO=>wv (Bz Aa Aa hN) (wa Aa (Am ?_))))))))))))));have hP:=Bk hO he;exact Aw (AI (hg,(hd,hm,hb+1),()) ⟨hP,Aby _⟩ (AL.c5 Aa Aa Aa Aa Aa AL.nil) (sC sN))
    ·refine Ay (AP (Ak (wm Aa (wm Aa (ob h3 λhn hQ hR=>CG Tryz.call96 (hj v ha hn hQ) Aa (wa Aa (Av (An (Ak (wm Aa (wm Aa (wv (CI Aa Aa) (Av (cz hR Aa (λhS hT=>?_) (λhS hU=>?_)))))))))))))))
     ·refine Ai (wm Aa (wa Aa (Av (Ai (wm Aa (wm Aa (ob hT λho hV hW=>CG JB (GR F v ha ho hV) Aa (wa Aa (Am (AG (AP (Ai (wm Aa (ck hW λhX hY=>wv (Bz Aa Aa hX) (wa Aa (Am ?_))))))))))))))));have hZ:=Bk hY he;exact Aw (AI (hg,(hn,ho,hb+1),()) ⟨hZ,Aby _⟩ (AL.c5 Aa Aa Aa Aa Aa AL.nil) (sC sN))
     ·refine Ay (AP (Ai (wm Aa (wm Aa (ob hU λhp ga gb=>CG JB (GR F v ha hp ga) Aa (wa Aa (Am (AG (AP (Ai (wm Aa (ck gb λgc gd=>wv (Bz Aa Aa gc) (wa Aa (Am ?_))))))))))))));have ge:=Bk gd he;exact Aw (AI (hg,(hd,hp,hb+1),()) ⟨ge,Aby _⟩ (AL.c5 Aa Aa Aa Aa Aa AL.nil) (sC sN))
   ·refine Bx (A6 ?_);have gf:=BX hz he ht;exact A6 (Be (AI (hd,()) gf (AL.c Aa AL.nil) (sS sN)))
  ·rintro⟨hq,⟨⟩⟩ hi;refine Cy (l':=[(6,At hq)]) (H':=[]) Aa Aa ?_;replace hi:Ej hq=some r:=hi;unfold Ej at hi;refine Bc (AP (Ak (wm Aa (ck hi λgg gh=>wv (Bz Aa Aa gg) (wa Aa (Av (A1 ?_)))))));obtain rfl:=A5 gh;exact A0 (BJ Tryz.results96 (AM Aa)) sN ⟨Aa,Aa⟩
theorem MO:∀F:Nat,(∀(v:(List Ac)) (i:Int) (r:Int),Dz F v i=some r→Fn Tryz.prog GE 96 [AY 4 (A4 Ab v),At i] [] (λR H=>R=At r∧H=[]))
  | 0=>(λ_ _ _ h=>by simp[Dz] at h)
  | nn+1=>(λv i r h=>SR nn (Dz nn) (MO nn) v i r (by rw[Dz] at h;exact h))
theorem UL (F:Nat)(v:(List Ac))(i:Int)(r:Int)(h:Dz F v i=some r):Fn Tryz.prog GE 96 [AY 4 (A4 Ab v),At i] [] (λR H=>R=At r∧H=[]):=(MO F) v i r h
theorem Mp (F:Nat)(s:Al)(r:Al)(h:IJ F s=some r):Fn Tryz.prog GE 120 [rS s] [] (λR H=>R=rS r∧H=[]):=by
 refine enter (n:=32) Tryz.func120 Aa Tryz.ntmps120 Aa (λw Z=>?_);unfold IJ at h;refine Ak (wv (r:=rS ([]:Al)) (Az Aa) (Bs (wv (r:=rS ([34]:Al)) (Az Aa) (Av (An (Ak (wa Aa (Av (AJ (ob h λhm hn ho=>Bu (S:=Nat×(Al×Int)×(Unit)) (V:=(Al)×(Unit)) 0 (λσ=>Ci (λσ=>Dv s σ.1 σ.2) σ.1 σ.2.1=some hm) (λσ=>[(0,rS s),(3,rS σ.2.1.1),(4,At σ.2.1.2)]) (λσ=>[]) (λσ=>σ.1) (F,(([34]:Al),0),()) hn (AL.c Aa (AL.c Aa (AL.c Aa AL.nil))) sN (λσ=>DR σ.1=some r) (λσ=>[(3,rS σ.1)]) (λσ=>[]) ?_ ?_))))))))))
 ·rintro⟨hL,⟨hd,ha⟩,⟨⟩⟩ hp;refine BW (l':=[(0,rS s),(3,rS hd),(4,At ha)]) (H':=[]) Aa Aa ?_;obtain⟨hh,rfl,hq,he,hg⟩:=C4 hp;replace he:Dv s hd ha=some hq:=he;unfold Dv at he;refine An (Ak (wm Aa (wm Aa (wv (Bv Cu Aa) (wv (C0 Aa Aa) (Av (cz he Aa (λhr hs=>?_) (λhr ht=>?_))))))))
  ·refine Ay (AP (An (AJ (An (ck hs λhi hu=>AH [(0,rS s),(3,rS hd),(4,At ha),(20,rB ((decide ((B1 s ha)=34))||(decide ((B1 s ha)=92))))] [] ?_ ?_)))))
   ·refine Ai (wm Aa (wm Aa (wv (Bw Cu Aa Aa hi) (wv (B5 Aa Aa) (wm Aa (AO (decide ((B1 s ha)=34)) (λhb=>?_) (λhb=>?_)))))))
    ·refine wf hb (wf hb (wf hb (wf hb (wv (r:=rB true) (A2 Aa hb Aa) (Am ?_)))));exact BV hb
    ·refine wo hb (wm Aa (wo hb (wm Aa (wo hb (wv (Bw Cu Aa Aa hi) (wo hb (wv (B5 Aa Aa) (E2 Aa hb Aa (Am ?_)))))))));exact BV hb
   refine cz hu Aa (λhw hx=>?_) (λhw hy=>?_)
   ·refine Ai (wm Aa (ck hx λhz h0=>wv (CU Aa Aa hz) (wa Aa (Av (Ai (wm Aa (wm Aa (wm Aa (wm Aa (ck h0 λhj h1=>wv (Bz Aa Aa hj) (ck h1 λh2 h3=>ck h3 λh4 h5=>wv (Gs Cu Aa Aa Aa h2 h4) (ck h5 λh6 h7=>wv (CU Aa Aa h6) (wa Aa (Am (AG (AP (Ai (wm Aa ?_))))))))))))))))));refine wv (Bz Aa Aa hj) (wa Aa (Am ?_));have h8:=Bk h7 hg;exact Aw (AI (hh,((hd++([92]:Al))++(List.take (B4 (ha+1)-B4 ha) (List.drop (B4 ha) s)),ha+1),()) ⟨h8,Aby _⟩ (AL.c Aa (AL.c Aa (AL.c Aa AL.nil))) sN)
   ·refine Ay (AP (Ai (wm Aa (wm Aa (wm Aa (wm Aa (ck hy λhk h9=>wv (Bz Aa Aa hk) (ck h9 λhA hB=>ck hB λhC hD=>wv (Gs Cu Aa Aa Aa hA hC) (ck hD λhE hG=>wv (CU Aa Aa hE) (wa Aa (Am (AG (AP (Ai (wm Aa (wv (Bz Aa Aa hk) (wa Aa (Am ?_))))))))))))))))));have hH:=Bk hG hg;exact Aw (AI (hh,(hd++(List.take (B4 (ha+1)-B4 ha) (List.drop (B4 ha) s)),ha+1),()) ⟨hH,Aby _⟩ (AL.c Aa (AL.c Aa (AL.c Aa AL.nil))) sN)
  ·refine Bx (A6 ?_);have hI:=BX ht hg ho;exact A6 (Be (AI (hd,()) hI (AL.c Aa AL.nil) sN))
 ·rintro⟨hl,⟨⟩⟩ hf;refine Cy (l':=[(3,rS hl)]) (H':=[]) Aa Aa ?_;replace hf:DR hl=some r:=hf;unfold DR at hf;refine Bc (AP (Ak (wm Aa (ck hf λhJ hK=>wv (CU Aa Aa hJ) (wa Aa (Av (A1 ?_)))))));obtain rfl:=A5 hK;exact A0 (BJ Tryz.results120 (AM Aa)) sN ⟨Aa,Aa⟩
theorem Ws (F:Nat)(hf:(List Ac)→Int→Option (Al))(hg:(∀(v:(List Ac)) (i:Int) (r:Al),hf v i=some r→Fn Tryz.prog GE 97 [AY 4 (A4 Ab v),At i] [] (λR H=>R=rS r∧H=[])))(v:(List Ac))(i:Int)(r:Al)(h:Mo F hf v i=some r):Fn Tryz.prog GE 97 [AY 4 (A4 Ab v),At i] [] (λR H=>R=rS r∧H=[]):=by
 refine enter (n:=77) Tryz.func97 Aa Tryz.ntmps97 Aa (λw Z=>?_);unfold Mo at h;refine Ak (wv (r:=rS ([]:Al)) (Az Aa) (Bs (wm Aa (wm Aa (ck h λg1 h2=>wv (By (enc:=Ab) (ys:=v) Co CC Aa Aa g1) (wv (Di NF CC Aa Aa Aa) (Cc (cs:=[At 0,At 0,rS ([]:Al),At 0]) Lc Aa Aa (λb3=>?_))))))));refine Br (i:=0) CC Aa Aa Aa (Cq.c Aa) Aa Aa (cs':=[At ((Ap v i).fKind),At ((Ap v i).fInt),rS ((Ap v i).fStr),At ((Ap v i).fN)]) Aa (H':=[.blk b3 (Ab (Ap v i)) 83]) Aa (Av (An (Ak (vF B9 Aa DC (vL 0 DD Aa (wv (B5 Aa Aa) (Av (cz h2 Aa (λc4 h5=>?_) (λc4 h6=>?_)))))))))
 ·refine Ak (wv (r:=rS ([110,117,108,108]:Al)) (Az Aa) (Av (A1 (Ae ?_))));obtain rfl:=A5 h5;exact A0 (BJ SC (AM Aa)) (sS sN) ⟨Aa,Aa⟩
 ·refine Ay (AP (An (Ak (vF B9 Aa DC (vL 0 DD Aa (wv (B5 Aa Aa) (Av (cz h6 Aa (λc7 h8=>?_) (λc7 hw=>?_)))))))))
  ·refine An (Ak (vF B9 Aa C6 (vL 0 CM Aa (wv (B5 Aa Aa) (Av (cz h8 Aa (λc9 hx=>?_) (λc9 hy=>?_)))))))
   ·refine Ak (wv (r:=rS ([116,114,117,101]:Al)) (Az Aa) (Av (A1 (Ae (Ae ?_)))));obtain rfl:=A5 hx;exact A0 (BJ SC (AM Aa)) (sS sN) ⟨Aa,Aa⟩
   ·refine Ay (AP (Ak (wv (r:=rS ([102,97,108,115,101]:Al)) (Az Aa) (Av (A1 (Ae ?_))))));obtain rfl:=A5 hy;exact A0 (BJ SC (AM Aa)) (sS sN) ⟨Aa,Aa⟩
  ·refine Ay (AP (An (Ak (vF B9 Aa DC (vL 0 DD Aa (wv (B5 Aa Aa) (Av (cz hw Aa (λhz h0=>?_) (λhz h1=>?_)))))))))
   ·refine Ak (vF B9 Aa C6 (vL 0 CM Aa (ck h0 λg15 h3=>Cz (rs:=[At ((Ap v i).fInt)]) (r:=rS (Lib.itoa ((Ap v i).fInt))) Tryz.call79 Aa (ZE ((Ap v i).fInt) g15) Aa Aa (wa Aa (Av (A1 (Ae ?_)))))));obtain rfl:=A5 h3;exact A0 (BJ SC (AM Aa)) (sS sN) ⟨Aa,Aa⟩
   ·refine Ay (AP (An (Ak (vF B9 Aa DC (vL 0 DD Aa (wv (B5 Aa Aa) (Av (cz h1 Aa (λh4 h7=>?_) (λh4 h9=>?_)))))))))
    ·refine Ak (vF B9 Aa Cv (vL 0 CD Aa (ob h7 λhA hB hC=>CG Tryz.call120 (Mp F ((Ap v i).fStr) hA hB) Aa (wa Aa (Av (A1 (Ae ?_)))))));obtain rfl:=A5 hC;exact A0 (BJ SC (AM Aa)) (sS sN) ⟨Aa,Aa⟩
    ·refine Ay (AP (Ak (wv (r:=rS ([]:Al)) (Az Aa) (Bs (wm Aa (ck h9 λhD hE=>wv (Bz Aa Aa hD) (wa Aa (Av (An (Ak (wa Aa (Av (AJ (ob hE λhG hH hI=>Bu (S:=Nat×(Al×Int×Int)×(Unit)) (V:=(Al)×(Unit)) 0 (λσ=>Ci (λσ=>Ei F v i hf σ.1 σ.2.1 σ.2.2) σ.1 σ.2.1=some hG) (λσ=>[(0,AY 4 (A4 Ab v)),(4,rS ([]:Al)),(5,rP b3 0),(6,rS σ.2.1.1),(7,At σ.2.1.2.1),(8,At σ.2.1.2.2)]) (λσ=>[.blk b3 (Ab (Ap v i)) 83]) (λσ=>σ.1) (F,(([]:Al),i+1,0),()) hH (AL.c Aa (AL.c5 Aa Aa Aa Aa Aa AL.nil)) (sC sN) (λσ=>Hq v i σ.1=some r) (λσ=>[(4,rS ([]:Al)),(5,rP b3 0),(6,rS σ.1)]) (λσ=>[.blk b3 (Ab (Ap v i)) 83]) ?_ ?_))))))))))))))
     ·rintro⟨cj,⟨hb,ha,hd⟩,⟨⟩⟩ hJ;refine BW (l':=[(0,AY 4 (A4 Ab v)),(4,rS ([]:Al)),(5,rP b3 0),(6,rS hb),(7,At ha),(8,At hd)]) (H':=[.blk b3 (Ab (Ap v i)) 83]) Aa Aa ?_;obtain⟨hh,rfl,hK,hi,he⟩:=C4 hJ;replace hi:Ei F v i hf hb ha hd=some hK:=hi;unfold Ei at hi;refine An (Ak (wm Aa (vF B9 Aa C6 (vL 0 CM Aa (wv (C0 Aa Aa) (Av (cz hi Aa (λhL hN=>?_) (λhL hO=>?_))))))))
      ·refine Ay (AP (An (AJ (An (Ak (wm Aa (wv (CI Aa Aa) (Av (cz hN Aa (λhP hQ=>?_) (λhP hR=>?_))))))))))
       ·refine Ai (wm Aa (ck hQ λhS hT=>wv (CU Aa Aa hS) (wa Aa (Av (An (Ak (vF B9 Aa DC (vL 0 DD Aa (wv (B5 Aa Aa) (Av (cz hT Aa (λc233 hU=>?_) (λc233 hV=>?_))))))))))))
        ·refine Ak (wm Aa (wm Aa (wm Aa (ck hU λhW hX=>wv (By (enc:=Ab) (ys:=v) Co CC Aa Aa hW) (wv (Bi B9 Aa Cv Aa Aa) (wv (Bg CD Aa Aa) (ob hX λhk hY hZ=>CG Tryz.call120 (Mp F ((Ap v ha).fStr) hk hY) Aa (ck hZ λga gb=>wv (CU Aa Aa ga) (ck gb λgc gd=>wv (CU Aa Aa gc) (wa Aa (Av (Ai (wm Aa (ck gd λge gf=>wv (Bz Aa Aa ge) (wa Aa (Bs (wm Aa (wm Aa ?_))))))))))))))))));refine wm Aa (ob gf λhl gg gh=>CG U0 (hg v (ha+1) hl gg) Aa (ck gh λgi gj=>wv (CU Aa Aa gi) (wa Aa (Av (Ai (wm Aa (wm Aa (ob gj λhm gl gm=>CG JB (GR F v (ha+1) hm gl) Aa (wa Aa (Am (AG (AP (Ai (wm Aa (ck gm λgp gq=>wv (Bz Aa Aa gp) (wa Aa (Am ?_)))))))))))))))));have gr:=Bk gq he;exact Aw (AI (hh,((((hb++([44]:Al))++hk)++([58]:Al))++hl,hm,hd+1),()) ⟨gr,Aby _⟩ (AL.c Aa (AL.c5 Aa Aa Aa Aa Aa AL.nil)) (sC sN))
        ·refine Ay (AP (Ak (wm Aa (wm Aa (wm Aa (ob hV λhn gs gt=>CG U0 (hg v ha hn gs) Aa (ck gt λgu gv=>wv (CU Aa Aa gu) (wa Aa (Av (Ai (wm Aa (wm Aa (ob gv λho gw gx=>CG JB (GR F v ha ho gw) Aa (wa Aa (Am (AG (AP (Ai (wm Aa (ck gx λgy gz=>?_))))))))))))))))))));refine wv (Bz Aa Aa gy) (wa Aa (Am ?_));have g0:=Bk gz he;exact Aw (AI (hh,((hb++([44]:Al))++hn,ho,hd+1),()) ⟨g0,Aby _⟩ (AL.c Aa (AL.c5 Aa Aa Aa Aa Aa AL.nil)) (sC sN))
       ·refine Ay (AP (An (Ak (vF B9 Aa DC (vL 0 DD Aa (wv (B5 Aa Aa) (Av (cz hR Aa (λg2 g3=>?_) (λg2 g4=>?_)))))))))
        ·refine Ak (wm Aa (wm Aa (wm Aa (ck g3 λg5 g6=>wv (By (enc:=Ab) (ys:=v) Co CC Aa Aa g5) (wv (Bi B9 Aa Cv Aa Aa) (wv (Bg CD Aa Aa) (ob g6 λhp g7 g8=>CG Tryz.call120 (Mp F ((Ap v ha).fStr) hp g7) Aa (ck g8 λg9 gA=>wv (CU Aa Aa g9) (ck gA λgB gC=>wv (CU Aa Aa gB) (wa Aa (Av (Ai (wm Aa (ck gC λgD gE=>wv (Bz Aa Aa gD) (wa Aa (Bs (wm Aa (wm Aa ?_))))))))))))))))));refine wm Aa (ob gE λhq gF gG=>CG U0 (hg v (ha+1) hq gF) Aa (ck gG λgH gI=>wv (CU Aa Aa gH) (wa Aa (Av (Ai (wm Aa (wm Aa (ob gI λhr gJ gK=>CG JB (GR F v (ha+1) hr gJ) Aa (wa Aa (Am (AG (AP (Ai (wm Aa (ck gK λgL gM=>wv (Bz Aa Aa gL) (wa Aa (Am ?_)))))))))))))))));have gN:=Bk gM he;exact Aw (AI (hh,(((hb++hp)++([58]:Al))++hq,hr,hd+1),()) ⟨gN,Aby _⟩ (AL.c Aa (AL.c5 Aa Aa Aa Aa Aa AL.nil)) (sC sN))
        ·refine Ay (AP (Ak (wm Aa (wm Aa (wm Aa (ob g4 λhs gO gP=>CG U0 (hg v ha hs gO) Aa (ck gP λgQ gR=>wv (CU Aa Aa gQ) (wa Aa (Av (Ai (wm Aa (wm Aa (ob gR λht gS gT=>CG JB (GR F v ha ht gS) Aa (wa Aa (Am (AG (AP (Ai (wm Aa (ck gT λgU gV=>?_))))))))))))))))))));refine wv (Bz Aa Aa gU) (wa Aa (Am ?_));have gW:=Bk gV he;exact Aw (AI (hh,(hb++hs,ht,hd+1),()) ⟨gW,Aby _⟩ (AL.c Aa (AL.c5 Aa Aa Aa Aa Aa AL.nil)) (sC sN))
      ·refine Bx (A6 ?_);have gX:=BX hO he hI;exact A6 (Be (AI (hb,()) gX (AL.c Aa (AL.c Aa (AL.c Aa AL.nil))) (sC sN)))
     ·rintro⟨hu,⟨⟩⟩ hj;refine Cy (l':=[(4,rS ([]:Al)),(5,rP b3 0),(6,rS hu)]) (H':=[.blk b3 (Ab (Ap v i)) 83]) Aa Aa ?_;replace hj:Hq v i hu=some r:=hj;unfold Hq at hj;refine Bc (AP (An (Ak (vF B9 Aa DC (vL 0 DD Aa (wv (B5 Aa Aa) (Av (cz hj Aa (λgY gZ=>?_) (λgY ca=>?_)))))))))
      ·refine Ak (wm Aa (ck gZ λcb cc=>wv (CU Aa Aa cb) (ck cc λcd ce=>wv (CU Aa Aa cd) (wa Aa (Av (A1 (Ae ?_)))))));obtain rfl:=A5 ce;exact A0 (BJ SC (AM Aa)) (sS sN) ⟨Aa,Aa⟩
      ·refine Ay (AP (Ak (wm Aa (ck ca λcf cg=>wv (CU Aa Aa cf) (ck cg λch ci=>wv (CU Aa Aa ch) (wa Aa (Av (A1 ?_))))))));obtain rfl:=A5 ci;exact A0 (BJ SC (AM Aa)) (sS sN) ⟨Aa,Aa⟩
theorem P0:∀F:Nat,(∀(v:(List Ac)) (i:Int) (r:Al),G4 F v i=some r→Fn Tryz.prog GE 97 [AY 4 (A4 Ab v),At i] [] (λR H=>R=rS r∧H=[]))
  | 0=>(λ_ _ _ h=>by simp[G4] at h)
  | nn+1=>(λv i r h=>Ws nn (G4 nn) (P0 nn) v i r (by rw[G4] at h;exact h))
theorem TF (F:Nat)(v:(List Ac))(i:Int)(r:Al)(h:G4 F v i=some r):Fn Tryz.prog GE 97 [AY 4 (A4 Ab v),At i] [] (λR H=>R=rS r∧H=[]):=(P0 F) v i r h
theorem LG (F:Nat)(v:(List Ac))(r:Int)(h:JK F v=some r):Fn Tryz.prog GE 60 [AY 4 (A4 Ab v)] [] (λR H=>R=At r∧H=[]):=by
 refine enter (n:=61) Tryz.func60 Aa Tryz.ntmps60 Aa (λw Z=>?_);unfold JK at h;refine Ak (wa Aa (Av (An (Ak (wm Aa (ob h λr1 e3 h2=>CG Tryz.call95 (UM F v r1 e3) Aa (wv (BE Aa) (Av (cz h2 Aa (λc4 h5=>?_) (λc4 h6=>?_))))))))))
 ·refine Ak (wa Aa (Av (A1 (Ae ?_))));obtain rfl:=A5 h5;exact A0 (BJ Uw (AM Aa)) sN ⟨Aa,Aa⟩
 ·refine Ay (AP (An (Ak (wa Aa (Av (AJ (ob h6 λhp hq hn=>Bu (S:=Nat×(Int)×(Unit)) (V:=(Unit)×(Unit)) 0 (λσ=>Ci (λσ=>Ev v σ) σ.1 σ.2.1=some hp) (λσ=>[(0,AY 4 (A4 Ab v)),(3,At σ.2.1)]) (λσ=>[]) (λσ=>σ.1) (F,0,()) hq (AL.c Aa (AL.c Aa AL.nil)) sN (λσ=>Is F v =some r) (λσ=>[(0,AY 4 (A4 Ab v))]) (λσ=>[]) ?_ ?_)))))))
  ·rintro⟨ge,he,⟨⟩⟩ hr;refine BW (l':=[(0,AY 4 (A4 Ab v)),(3,At he)]) (H':=[]) Aa Aa ?_;obtain⟨hs,rfl,t46,hf,hj⟩:=C4 hr;replace hf:Ev v he=some t46:=hf;unfold Ev at hf;refine An (Ak (wm Aa (wm Aa (wv (Bq (ys:=v) (enc:=Ab) Co Aa) (wv (C0 Aa Aa) (Av (cz hf Aa (λht hu=>?_) (λht hw=>?_))))))))
   ·refine Ay (AP (An (AJ (ck hu λhk hx=>AH [(0,AY 4 (A4 Ab v)),(3,At he),(35,rB ((decide (((Ap v he).fKind)=3))&&((decide (((Ap v he).fInt)<(-1000000000000)))||(decide (1000000000000<((Ap v he).fInt))))))] [] ?_ ?_))))
    ·refine Ai (wm Aa (wm Aa (wv (By (enc:=Ab) (ys:=v) Co CC Aa Aa hk) (wv (Bi B9 Aa DC Aa Aa) (wv (Bg DD Aa Aa) (wv (B5 Aa Aa) (wm Aa (AO (decide (((Ap v he).fKind)=3)) (λha=>?_) (λha=>?_)))))))))
     ·refine wo ha (wm Aa (wo ha (wm Aa (wo ha (wv (By (enc:=Ab) (ys:=v) Co CC Aa Aa hk) (wo ha (wv (Bi B9 Aa C6 Aa Aa) (wo ha (wv (Bg CM Aa Aa) (wo ha (wv (C0 Aa Aa) (wo ha (wm Aa (AO (decide (((Ap v he).fInt)<(-1000000000000))) (λhb=>?_) (λhb=>?_)))))))))))))))
      ·refine wf hb (wf hb (wf hb (wf hb (wf hb (wf hb (wo ha (wv (r:=rB true) (A2 Aa hb Aa) (Er Aa ha Aa (Am ?_)))))))));exact BV (And.intro ha hb)
      ·refine wo hb (wm Aa (wo hb (wm Aa (wo hb (wv (By (enc:=Ab) (ys:=v) Co CC Aa Aa hk) (wo hb (wv (Bi B9 Aa C6 Aa Aa) (wo hb (wv (Bg CM Aa Aa) (wo hb (wv (CI Aa Aa) (wo ha (E2 Aa hb Aa (Er Aa ha Aa (Am ?_)))))))))))))));exact BV (And.intro ha hb)
     ·refine wf ha (wf ha (wf ha (wf ha (wf ha (wf ha (wf ha (wu (wu (wu (wu (wu (wu (wf ha (wv (r:=rB false) (A8 Aa ha Aa) (Am ?_)))))))))))))));exact BV ha
    refine cz hx Aa (λhy hz=>?_) (λhy h0=>?_)
    ·refine Ak (wa Aa (Av (A1 (AC (Ae (Ae (Bj ?_)))))));have h1:=BB hz hj hn;refine AC (Ae ?_);obtain rfl:=A5 h1;exact A0 (BJ Uw (AM Aa)) sN ⟨Aa,Aa⟩
    ·refine Ay (AG (AP (Ai (wm Aa (ck h0 λh3 h4=>wv (Bz Aa Aa h3) (wa Aa (Am ?_)))))));have h7:=Bk h4 hj;exact Aw (AI (hs,he+1,()) ⟨h7,Aby _⟩ (AL.c Aa (AL.c Aa AL.nil)) sN)
   ·refine Bx (A6 ?_);have h8:=BX hw hj hn;exact A6 (Be (AI ((),()) h8 (AL.c Aa AL.nil) sN))
  ·rintro⟨⟨⟩,⟨⟩⟩ hg;refine Cy (l':=[(0,AY 4 (A4 Ab v))]) (H':=[]) Aa Aa ?_;replace hg:Is F v =some r:=hg;unfold Is at hg;refine Bc (AP (An (ck hg λh9 hA=>AH [(0,AY 4 (A4 Ab v)),(43,rB ((decide (200<(v.length:Int)))||(decide (8<(ov (Dz F v 0))))))] [] ?_ ?_)))
   ·refine Ai (wm Aa (wv (Bq (ys:=v) (enc:=Ab) Co Aa) (wv (CI Aa Aa) (wm Aa (AO (decide (200<(v.length:Int))) (λhd=>?_) (λhd=>?_))))))
    ·refine wf hd (wf hd (wf hd (wv (r:=rB true) (A2 Aa hd Aa) (Am ?_))));exact BV hd
    ·refine wo hd (wm Aa (wo hd (CG Tryz.call96 (UL F v 0 (ov (Dz F v 0)) (E4 (CE h9 hd))) Aa (wo hd (wv (CI Aa Aa) (E2 Aa hd Aa (Am ?_)))))));exact BV hd
   refine cz hA Aa (λhB hC=>?_) (λhB hD=>?_)
   ·refine Ak (wa Aa (Av (A1 (Ae ?_))));obtain rfl:=A5 hC;exact A0 (BJ Uw (AM Aa)) sN ⟨Aa,Aa⟩
   ·refine Ay (AP (An (Ak (wa Aa (Av (AJ (ob hD λhE hG ho=>Bu (S:=Nat×(Int)×(Unit)) (V:=(Unit)×(Unit)) 2 (λσ=>Ci (λσ=>Eu v σ) σ.1 σ.2.1=some hE) (λσ=>[(0,AY 4 (A4 Ab v)),(4,At σ.2.1)]) (λσ=>[]) (λσ=>σ.1) (F,0,()) hG (AL.c Aa (AL.c Aa AL.nil)) sN (λσ=>Ir F v =some r) (λσ=>[(0,AY 4 (A4 Ab v))]) (λσ=>[]) ?_ ?_)))))))
    ·rintro⟨gf,hl,⟨⟩⟩ hH;refine BW (l':=[(0,AY 4 (A4 Ab v)),(4,At hl)]) (H':=[]) Aa Aa ?_;obtain⟨hI,rfl,hJ,hh,hm⟩:=C4 hH;replace hh:Eu v hl=some hJ:=hh;unfold Eu at hh;refine An (Ak (wm Aa (wm Aa (wv (Bq (ys:=v) (enc:=Ab) Co Aa) (wv (C0 Aa Aa) (Av (cz hh Aa (λhK hL=>?_) (λhK hN=>?_))))))))
     ·refine Ay (AP (An (AJ (Ak (wm Aa (wm Aa (ck hL λhO hP=>wv (By (enc:=Ab) (ys:=v) Co CC Aa Aa hO) (wv (Bi B9 Aa Cv Aa Aa) (wv (Bg CD Aa Aa) (wv (Bv Cu Aa) (wv (CI Aa Aa) (Av (cz hP Aa (λhQ hR=>?_) (λhQ hS=>?_))))))))))))))
      ·refine Ak (wa Aa (Av (A1 (AC (Ae (Ae (Bj ?_)))))));have hT:=BB hR hm ho;refine AC (Ae ?_);obtain rfl:=A5 hT;exact A0 (BJ Uw (AM Aa)) sN ⟨Aa,Aa⟩
      ·refine Ay (AG (AP (Ai (wm Aa (ck hS λhU hV=>wv (Bz Aa Aa hU) (wa Aa (Am ?_)))))));have hW:=Bk hV hm;exact Aw (AI (hI,hl+1,()) ⟨hW,Aby _⟩ (AL.c Aa (AL.c Aa AL.nil)) sN)
     ·refine Bx (A6 ?_);have hX:=BX hN hm ho;exact A6 (Be (AI ((),()) hX (AL.c Aa AL.nil) sN))
    ·rintro⟨⟨⟩,⟨⟩⟩ hi;refine Cy (l':=[(0,AY 4 (A4 Ab v))]) (H':=[]) Aa Aa ?_;replace hi:Ir F v =some r:=hi;unfold Ir at hi;refine Bc (AP (An (Ak (wm Aa (ob hi λhY hZ ga=>CG U0 (TF F v 0 hY hZ) Aa (wv (Bv Cu Aa) (wv (CI Aa Aa) (Av (cz ga Aa (λgb gc=>?_) (λgb gd=>?_))))))))))
     ·refine Ak (wa Aa (Av (A1 (Ae ?_))));obtain rfl:=A5 gc;exact A0 (BJ Uw (AM Aa)) sN ⟨Aa,Aa⟩
     ·refine Ay (AP (Ak (wa Aa (Av (A1 ?_)))));obtain rfl:=A5 gd;exact A0 (BJ Uw (AM Aa)) sN ⟨Aa,Aa⟩
theorem UN (F:Nat)(v:(List Ac))(r:Al×Int)(h:LE F v=some r):Fn Tryz.prog GE 83 [AY 4 (A4 Ab v)] [] (λR H=>R=C7 [rS r.1,At r.2]∧H=[]):=by
 refine enter (n:=12) Tryz.func83 Aa Tryz.ntmps83 Aa (λw Z=>?_);unfold LE at h;refine Ak (wv (r:=rS ([]:Al)) (Az Aa) (wa Aa (Bs (wm Aa (ob h λr1 e3 h2=>CG Tryz.call60 (LG F v r1 e3) Aa (wa Aa (Av (An (Ak (wm Aa (wv (BT Aa Aa) (Av (cz h2 Aa (λc4 h5=>?_) (λc4 h6=>?_))))))))))))))
 ·refine Ak (wm Aa (wv (r:=rS ([]:Al)) (Az Aa) (wa Aa (Av (A1 (Ae ?_))))));obtain rfl:=A5 h5;exact A0 (DJ Tryz.results83 (AM Aa) (AM Aa)) sN ⟨Aa,Aa⟩
 ·refine Ay (AP (Ak (wm Aa (ob h6 λr7 e9 h8=>CG U0 (TF F v 0 r7 e9) Aa (wa Aa (wa Aa (Av (A1 ?_))))))));obtain rfl:=A5 h8;exact A0 (DJ Tryz.results83 (AM Aa) (AM Aa)) sN ⟨Aa,Aa⟩
end Go.Proofs.YtfobhhegpkinaaaGreatDoor.Q
namespace Go.Proofs.YtfobhhegpkinaaaGreatDoor
open Go
set_option linter.unusedVariables false
structure AN where
 fPairs:Bool
 fLeft:Int
 fKey:Bool
 fLast:Al
 fStarted:Bool
 deriving DecidableEq,Inhabited
structure AU where
 fDepth:Int
 fBytes:Int
 fOutside:Bool
 fLong:Bool
 deriving DecidableEq,Inhabited
def Ca (n:Int):Option (Bool):=
 some ((decide ((-1000000000000)≤n))&&(decide (n≤1000000000000)))
def Ij (s:Al)(ha:Int):Option (Stp (Int) (Out (Bool) (Unit))):=
 B2 (decide (ha<(s.length:Int))) (Ba (CP ha (s.length:Int))<|B2 (((decide ((B1 s ha)<32))||(decide (126<(B1 s ha))))) (some (.out (.ret false))) (Ba (BF .i64 (ha+1))<|some (.next (ha+1)))) (some (.out (.go ())))
def Ii :Option (Bool):=
 some true
def Lx (F:Nat)(s:Al):Option (Bool):=
 B3 (Ci (λσ=>Ij s σ) F 0) (BS λν=>Ii )
def Ki (s:Al):Option (Int):=
 Ba (BF .i64 ((s.length:Int)+2))<|Ba (BF .i64 (((s.length:Int)+2)+(Lib.countByte s 34:Int)))<|Ba (BF .i64 ((((s.length:Int)+2)+(Lib.countByte s 34:Int))+(Lib.countByte s 92:Int)))<|some ((((s.length:Int)+2)+(Lib.countByte s 34:Int))+(Lib.countByte s 92:Int))
def NT (F:Nat)(c:Ac):Option (Bool):=
 B2 (decide (c.fKind=1)) (some ((decide (c.fInt=0))&&((decide (c.fStr=([]:Al)))&&(decide (c.fN=0))))) (B2 (decide (c.fKind=2)) (some (bif decide (c.fInt=0) then((decide (c.fStr=([]:Al)))&&(decide (c.fN=0))) else((decide (c.fInt=1))&&((decide (c.fStr=([]:Al)))&&(decide (c.fN=0)))))) (B2 (decide (c.fKind=3)) (some ((decide (c.fStr=([]:Al)))&&(decide (c.fN=0)))) (B2 (decide (c.fKind=4)) (Ba (imp (decide (c.fInt=0)) (imp (decide (c.fN=0)) ((Lx F c.fStr).isSome)))<|some ((decide (c.fInt=0))&&((decide (c.fN=0))&&(ov (Lx F c.fStr))))) (B2 (decide (c.fKind=5)) (some ((decide (c.fInt=0))&&((decide (c.fStr=([]:Al)))&&(decide (0≤c.fN))))) (B2 (decide (c.fKind=6)) (some ((decide (c.fInt=0))&&((decide (c.fStr=([]:Al)))&&(decide (0≤c.fN))))) (some false))))))
def Rq (c:Ac):Option (Int):=
 B2 (decide (c.fKind=1)) (some 4) (B2 (decide (c.fKind=2)) (some (IntKind.wrap .i64 (5-c.fInt))) (B2 (decide (c.fKind=3)) (Ba (BF .i64 c.fInt)<|some ((Lib.itoa c.fInt).length:Int)) (B2 (decide (c.fKind=4)) (B3 (Ki c.fStr) λha=>some ha) (some (IntKind.wrap .i64 (2+(max 0 (IntKind.wrap .i64 (c.fN-1)))))))))
def Ef (ha:(List AN)):Option (Stp ((List AN)) (Out ((List AN)) ((List AN)))):=
 B2 (decide (0<(ha.length:Int))) (Ba (BF .i64 ((ha.length:Int)-1))<|Ba (CP ((ha.length:Int)-1) (ha.length:Int))<|Ba (BF .i64 (((Ap ha ((ha.length:Int)-1)).fLeft)-1))<|Ls (List.set ha (Int.toNat ((ha.length:Int)-1)) (AN.mk ((Ap ha ((ha.length:Int)-1)).fPairs) (((Ap ha ((ha.length:Int)-1)).fLeft)-1) ((Ap ha ((ha.length:Int)-1)).fKey) ((Ap ha ((ha.length:Int)-1)).fLast) ((Ap ha ((ha.length:Int)-1)).fStarted))) λhb=>B2 (decide (0<((Ap hb ((ha.length:Int)-1)).fLeft))) (Ls (List.set hb (Int.toNat ((ha.length:Int)-1)) (AN.mk ((Ap hb ((ha.length:Int)-1)).fPairs) ((Ap hb ((ha.length:Int)-1)).fLeft) ((Ap hb ((ha.length:Int)-1)).fPairs) ((Ap hb ((ha.length:Int)-1)).fLast) ((Ap hb ((ha.length:Int)-1)).fStarted))) λhd=>some (.out (.ret hd))) (Ba (BF .i64 ((hb.length:Int)-1))<|Ba (E5 ((hb.length:Int)-1) (hb.length:Int))<|some (.next (List.take (Int.toNat ((hb.length:Int)-1)) hb)))) (some (.out (.go ha)))
def ED (ha:(List AN)):Option ((List AN)):=
 some ha
def L5 (F:Nat)(stack:(List AN)):Option ((List AN)):=
 B3 (Ci (λσ=>Ef σ) F stack) (BS λν=>ED ν)
def E3 (ha:Int)(hb:(List AN))(hd:AU):Option (Stp ((List AN)×Int×AU) (Out (Int×AU×Bool) (AU))):=
 Ba (BF .i64 (ha+1))<|some (.next (hb,ha+1,hd))
def Ee (F:Nat)(v:(List Ac))(ha:(List AN))(hb:Int)(hd:AU):Option (Stp ((List AN)×Int×AU) (Out (Int×AU×Bool) (AU))):=
 B2 (decide (hb<(v.length:Int))) (Ba (CP hb (v.length:Int))<|B3 (NT F (Ap v hb)) λhj=>B2 (!hj) (some (.out (.ret (0,hd,false)))) (Ba (imp (decide (0<(ha.length:Int))) (BF .i64 ((ha.length:Int)-1)))<|Ba (imp (decide (0<(ha.length:Int))) (CP ((ha.length:Int)-1) (ha.length:Int)))<|B2 (((decide (0<(ha.length:Int)))&&((Ap ha ((ha.length:Int)-1)).fKey))) (Ba (BF .i64 ((ha.length:Int)-1))<|Ba (CP ((ha.length:Int)-1) (ha.length:Int))<|B2 (((!decide (((Ap v hb).fKind)=4))||(((Ap ha ((ha.length:Int)-1)).fStarted)&&(CA ((Ap v hb).fStr) ((Ap ha ((ha.length:Int)-1)).fLast)||decide (((Ap v hb).fStr)=((Ap ha ((ha.length:Int)-1)).fLast)))))) (some (.out (.ret (0,hd,false)))) (Ls (List.set ha (Int.toNat ((ha.length:Int)-1)) (AN.mk ((Ap ha ((ha.length:Int)-1)).fPairs) ((Ap ha ((ha.length:Int)-1)).fLeft) ((Ap ha ((ha.length:Int)-1)).fKey) ((Ap v hb).fStr) ((Ap ha ((ha.length:Int)-1)).fStarted))) λhe=>Ls (List.set he (Int.toNat ((ha.length:Int)-1)) (AN.mk ((Ap he ((ha.length:Int)-1)).fPairs) ((Ap he ((ha.length:Int)-1)).fLeft) ((Ap he ((ha.length:Int)-1)).fKey) ((Ap he ((ha.length:Int)-1)).fLast) true)) λhf=>Ls (List.set hf (Int.toNat ((ha.length:Int)-1)) (AN.mk ((Ap hf ((ha.length:Int)-1)).fPairs) ((Ap hf ((ha.length:Int)-1)).fLeft) false ((Ap hf ((ha.length:Int)-1)).fLast) ((Ap hf ((ha.length:Int)-1)).fStarted))) λhk=>B3 (Ki ((Ap v hb).fStr)) λhh=>Ba (BF .i64 (hh+1))<|E3 hb hk (AU.mk hd.fDepth (IntKind.wrap .i64 (hd.fBytes+(hh+1))) hd.fOutside (hd.fLong||(decide (200<(((Ap v hb).fStr).length:Int))))))) (Ba (BF .i64 ((ha.length:Int)+1))<|B3 (Rq (Ap v hb)) λhg=>Ba (imp (!hd.fOutside) (imp (decide (((Ap v hb).fKind)=3)) ((Ca ((Ap v hb).fInt)).isSome)))<|B2 (decide (0<((Ap v hb).fN))) (B2 (decide ((v.length:Int)<((Ap v hb).fN))) (some (.out (.ret (0,(AU.mk (max hd.fDepth ((ha.length:Int)+1)) (IntKind.wrap .i64 (hd.fBytes+hg)) (hd.fOutside||((decide (((Ap v hb).fKind)=3))&&(!(ov (Ca ((Ap v hb).fInt)))))) (hd.fLong||(decide (200<(((Ap v hb).fStr).length:Int))))),false)))) (Ba (CX 48 (ha.length+([(AN.mk (decide (((Ap v hb).fKind)=6)) ((Ap v hb).fN) (decide (((Ap v hb).fKind)=6)) ([]:Al) false)]:List AN).length))<|E3 hb (ha++([(AN.mk (decide (((Ap v hb).fKind)=6)) ((Ap v hb).fN) (decide (((Ap v hb).fKind)=6)) ([]:Al) false)]:List AN)) (AU.mk (max hd.fDepth ((ha.length:Int)+1)) (IntKind.wrap .i64 (hd.fBytes+hg)) (hd.fOutside||((decide (((Ap v hb).fKind)=3))&&(!(ov (Ca ((Ap v hb).fInt)))))) (hd.fLong||(decide (200<(((Ap v hb).fStr).length:Int))))))) (B3 (L5 F ha) λhi=>B2 (decide ((hi.length:Int)=0)) (Ba (BF .i64 (hb+1))<|some (.out (.ret (hb+1,(AU.mk (max hd.fDepth ((ha.length:Int)+1)) (IntKind.wrap .i64 (hd.fBytes+hg)) (hd.fOutside||((decide (((Ap v hb).fKind)=3))&&(!(ov (Ca ((Ap v hb).fInt)))))) (hd.fLong||(decide (200<(((Ap v hb).fStr).length:Int))))),true)))) (E3 hb hi (AU.mk (max hd.fDepth ((ha.length:Int)+1)) (IntKind.wrap .i64 (hd.fBytes+hg)) (hd.fOutside||((decide (((Ap v hb).fKind)=3))&&(!(ov (Ca ((Ap v hb).fInt)))))) (hd.fLong||(decide (200<(((Ap v hb).fStr).length:Int)))))))))) (some (.out (.go hd)))
def L3 (ha:AU):Option (Int×AU×Bool):=
 some (0,ha,false)
def Jr (F:Nat)(v:(List Ac)):Option (Int×AU×Bool):=
 B3 (Ci (λσ=>Ee F v σ.1 σ.2.1 σ.2.2) F (([]:List AN),0,(AU.mk 0 0 false false))) (BS λν=>L3 ν)
def IG (F:Nat)(v:(List Ac)):Option (Int):=
 B3 (Jr F v) λr1=>B2 (((!r1.2.2)||(!decide (r1.1=(v.length:Int))))) (some 1) (B2 (r1.2.1.fOutside) (some 2) (B2 ((r1.2.1.fLong||((decide (200<(v.length:Int)))||((decide (8<r1.2.1.fDepth))||(decide (4000<r1.2.1.fBytes)))))) (some 3) (some 0)))
def NW (F:Nat)(v:(List Ac)):Option ((List Ac)×Int):=
 B3 (IG F v) λr1=>B2 (!decide (r1=0)) (some (([]:List Ac),r1)) (some (v,0))
end Go.Proofs.YtfobhhegpkinaaaGreatDoor
namespace Go.Proofs.YtfobhhegpkinaaaGreatDoor.Q
open Go Go.RowKit
set_option linter.unusedVariables false
set_option linter.unusedSimpArgs false
set_option maxRecDepth 100000
set_option maxHeartbeats 4000000
@[reducible] def AK (x:AN):List Rp:=[rB x.fPairs,At x.fLeft,rB x.fKey,rS x.fLast,rB x.fStarted]
theorem Jx (x:AN):(AK x).length=5:=rfl
theorem Nn (x:AN):(AK x).all (·.one)=true:=rfl
@[reducible] def Bd (x:AU):List Rp:=[At x.fDepth,At x.fBytes,rB x.fOutside,rB x.fLong]
theorem Y8:∃inf,Tryz.prog.info? 152=some inf∧inf.zero=some (.agg #[(.bool false),(.int .i64 0),(.bool false),(.string ⟨#[]⟩),(.bool false)])∧inf.size=5∧inf.bytes=48:=by
  have key:(Tryz.prog.info? 152).map (λi=>(i.zero,i.size,i.bytes))=some (some (.agg #[(.bool false),(.int .i64 0),(.bool false),(.string ⟨#[]⟩),(.bool false)]),5,48):=by kernel_rfl
  obtain⟨inf,h1,h2⟩:=Option.map_eq_some_iff.1 key;simp only[Prod.mk.injEq] at h2;exact⟨inf,h1,h2.1,h2.2.1,h2.2.2⟩
theorem XD (parts:List (Nat×Value)):Tryz.prog.built 152 parts=Instr.fill (λi=>(#[(0,1),(1,1),(2,1),(3,1),(4,1)]:Array (Nat×Nat))[i]?) #[(.bool false),(.int .i64 0),(.bool false),(.string ⟨#[]⟩),(.bool false)] parts:=by kernel_rfl
theorem My {n:Nat}{c:Cx}{l:Fr}{H:List Ent}{d:Option Nat}{ty:TypeId}{pos:String}{af:Array Edge}{g:Option (Nat×Bool)}{x0:Operand}{r0:Rp}(h0:ev l x0=some r0)(u0:r0.one=true){x1:Operand}{r1:Rp}(h1:ev l x1=some r1)(u1:r1.one=true){x2:Operand}{r2:Rp}(h2:ev l x2=some r2)(u2:r2.one=true):B0 Tryz.prog n c l H { dst:=d,op:=.build 152 #[(0,x0),(1,x1),(2,x2)],type:=ty,pos:=pos,after:=af,guard:=g } (BQ [r0,r1,r2,rS ([]:Al),rB false]):=λa w Z ha _=>by
  have p0:=ha.ev h0;have c0:=B6 (r0.hone u0 Z _ p0);have p1:=ha.ev h1;have c1:=B6 (r1.hone u1 Z _ p1);have p2:=ha.ev h2;have c2:=B6 (r2.hone u2 Z _ p2);have hb:Tryz.prog.built 152 [(0,a.eval x0),(1,a.eval x1),(2,a.eval x2)]=some #[a.eval x0,a.eval x1,a.eval x2,(.string ⟨#[]⟩),(.bool false)]:=by
    rw[XD];generalize a.eval x0=v0 at *;generalize a.eval x1=v1 at *;generalize a.eval x2=v2 at *;simp[Instr.fill,c0,c1,c2]
  refine⟨.agg #[a.eval x0,a.eval x1,a.eval x2,(.string ⟨#[]⟩),(.bool false)],⟨[a.eval x0,a.eval x1,a.eval x2,(.string ⟨#[]⟩),(.bool false)],rfl,p0,p1,p2,rfl,rfl,trivial⟩,?_⟩;have:=run_build w 152 #[(0,a.eval x0),(1,a.eval x1),(2,a.eval x2)] _ (by simpa using hb);simp[execOp,this]
theorem WW (n:Int)(r:Bool)(h:Ca n=some r):Fn Tryz.prog GE 117 [At n] [] (λR H=>R=rB r∧H=[]):=by
 refine enter (n:=9) Tryz.func117 Aa Tryz.ntmps117 Aa (λw Z=>?_);unfold Ca at h;refine Ak (wa Aa (Av (AH [(2,rB ((decide ((-1000000000000)≤n))&&(decide (n≤1000000000000))))] [] ?_ ?_)))
 ·refine Ai (wm Aa (wv (KL Aa Aa) (wm Aa (AO (decide ((-1000000000000)≤n)) (λc1=>?_) (λc1=>?_)))))
  ·refine wo c1 (wm Aa (wo c1 (wv (KL Aa Aa) (Er Aa c1 Aa (wa Aa (Am ?_))))));exact BV c1
  ·refine wf c1 (wf c1 (wv (r:=rB false) (A8 Aa c1 Aa) (wa Aa (Am ?_))));exact BV c1
 refine A1 ?_;obtain rfl:=A5 h;exact A0 (BJ Tryz.results117 (AM Aa)) sN ⟨Aa,Aa⟩
theorem XZ (F:Nat)(s:Al)(r:Bool)(h:Lx F s=some r):Fn Tryz.prog GE 150 [rS s] [] (λR H=>R=rB r∧H=[]):=by
 refine enter (n:=20) Tryz.func150 Aa Tryz.ntmps150 Aa (λw Z=>?_);unfold Lx at h;refine Ak (wa Aa (Av (An (Ak (wm Aa (wv (Bv Cu Aa) (wv (r:=At 0) (Aq Aa) (Av (AJ (ob h λhi hj hg=>Bu (S:=Nat×(Int)×(Unit)) (V:=(Unit)×(Unit)) 0 (λσ=>Ci (λσ=>Ij s σ) σ.1 σ.2.1=some hi) (λσ=>[(0,rS s),(5,At (s.length:Int)),(6,At σ.2.1)]) (λσ=>[]) (λσ=>σ.1) (F,0,()) hj (AL.c Aa (AL.c Aa (AL.c Aa AL.nil))) sN (λσ=>Ii =some r) (λσ=>[]) (λσ=>[]) ?_ ?_))))))))))
 ·rintro⟨hz,hb,⟨⟩⟩ hk;refine BW (l':=[(0,rS s),(5,At (s.length:Int)),(6,At hb)]) (H':=[]) Aa Aa ?_;obtain⟨hl,rfl,t37,hd,hf⟩:=C4 hk;replace hd:Ij s hb=some t37:=hd;unfold Ij at hd;refine Ak (wv (C0 Aa Aa) (Av (An (cz hd Aa (λhm hn=>?_) (λhm ho=>?_)))))
  ·refine Ay (AP (An (AJ (Ak (wm Aa (wa Aa (Av (ck hn λhh hp=>AH [(0,rS s),(5,At (s.length:Int)),(6,At hb),(18,rB ((decide ((B1 s hb)<32))||(decide (126<(B1 s hb)))))] [] ?_ ?_))))))))
   ·refine Ai (wm Aa (wm Aa (wv (Bw Cu Aa Aa hh) (wv (C0 Aa Aa) (wm Aa (AO (decide ((B1 s hb)<32)) (λha=>?_) (λha=>?_)))))))
    ·refine wf ha (wf ha (wf ha (wf ha (wv (r:=rB true) (A2 Aa ha Aa) (Am ?_)))));exact BV ha
    ·refine wo ha (wm Aa (wo ha (wm Aa (wo ha (wv (Bw Cu Aa Aa hh) (wo ha (wv (CI Aa Aa) (E2 Aa ha Aa (Am ?_)))))))));exact BV ha
   refine cz hp Aa (λhq hr=>?_) (λhq hs=>?_)
   ·refine Ak (wa Aa (Av (A1 (AC (Ae (Ae (Bj ?_)))))));have ht:=BB hr hf hg;refine AC (Ae ?_);obtain rfl:=A5 ht;exact A0 (BJ Tryz.results150 (AM Aa)) sN ⟨Aa,Aa⟩
   ·refine Ay (AG (AP (Ai (ck hs λhu hw=>wv (Bz Aa Aa hu) (wm Aa (Am ?_))))));have hx:=Bk hw hf;exact Aw (AI (hl,hb+1,()) ⟨hx,Aby _⟩ (AL.c Aa (AL.c Aa (AL.c Aa AL.nil))) sN)
  ·refine Bx (A6 ?_);have hy:=BX ho hf hg;exact A6 (Be (AI ((),()) hy AL.nil sN))
 ·rintro⟨⟨⟩,⟨⟩⟩ he;refine Cy (l':=[]) (H':=[]) Aa Aa ?_;replace he:Ii =some r:=he;unfold Ii at he;refine Bc (AP (Ak (wa Aa (Av (A1 ?_)))));obtain rfl:=A5 he;exact A0 (BJ Tryz.results150 (AM Aa)) sN ⟨Aa,Aa⟩
theorem Pq (s:Al)(r:Int)(h:Ki s=some r):Fn Tryz.prog GE 115 [rS s] [] (λR H=>R=At r∧H=[]):=by
 refine enter (n:=12) Tryz.func115 Aa Tryz.ntmps115 Aa (λw Z=>?_);unfold Ki at h;refine Ak (wa Aa (Bs (wm Aa (wv (Bv Cu Aa) (ck h λg1 h2=>wv (Bz Aa Aa g1) (wm Aa (Cz (rs:=[rS s,rS ([34]:Al)]) (r:=At (Lib.countByte s 34:Int)) Tryz.call151 Aa (Ui s 34) Aa Aa (ck h2 λg3 h4=>wv (Bz Aa Aa g3) (wm Aa (Cz (rs:=[rS s,rS ([92]:Al)]) (r:=At (Lib.countByte s 92:Int)) Tryz.call151 Aa (Ui s 92) Aa Aa (ck h4 λg5 h6=>wv (Bz Aa Aa g5) (wa Aa (Av (A1 ?_))))))))))))));obtain rfl:=A5 h6;exact A0 (BJ Tryz.results115 (AM Aa)) sN ⟨Aa,Aa⟩
theorem Wd (F:Nat)(c:Ac)(r:Bool)(h:NT F c=some r):Fn Tryz.prog GE 114 [BQ (Ab c)] [] (λR H=>R=rB r∧H=[]):=by
 refine enter (n:=81) Tryz.func114 Aa Tryz.ntmps114 Aa (λw Z=>?_);unfold NT at h;refine Ak (C3 Aa Aa (λb1=>?_));refine wa Aa (Av (An (Ak (vF B9 Aa DC (vL 0 DD Aa (Av (AJ (Ak (wv (B5 Aa Aa) (wa Aa (Av (cz h Aa (λc2 h3=>?_) (λc2 h6=>?_)))))))))))))
 ·refine AH [(2,rB ((decide (c.fInt=0))&&((decide (c.fStr=([]:Al)))&&(decide (c.fN=0)))))] [] ?_ ?_
  ·refine Ai (vF B9 Aa C6 (vL 0 CM Aa (wv (B5 Aa Aa) (wm Aa (AO (decide (c.fInt=0)) (λc4=>?_) (λc4=>?_))))))
   ·refine wo c4 (vF B9 Aa Cv (wo c4 (vL 0 CD Aa (wo c4 (wv (EZ Aa Aa) (Er Aa c4 Aa (wm Aa (AO (decide (c.fStr=([]:Al))) (λc5=>?_) (λc5=>?_)))))))))
    ·refine wo c5 (vF B9 Aa C6 (wo c5 (vL 0 CM Aa (wo c5 (wv (B5 Aa Aa) (Er Aa c5 Aa (wa Aa (Am ?_))))))));exact BV (And.intro c4 c5)
    ·refine wf c5 (wf c5 (wf c5 (wv (r:=rB false) (A8 Aa c5 Aa) (wa Aa (Am ?_)))));exact BV (And.intro c4 c5)
   ·refine wf c4 (wf c4 (wf c4 (wv (r:=rB false) (A8 Aa c4 Aa) (wm Aa (wz Aa Aa (wz Aa Aa (wz Aa Aa (wv (r:=rB false) (A8 (b:=false) Aa Aa Aa) (wa Aa (Am ?_))))))))));exact BV c4
  refine A1 (AC (Ae ?_));obtain rfl:=A5 h3;exact A0 (BJ ND (AM Aa)) sN ⟨Aa,Aa⟩
 ·refine Ak (wv (B5 Aa Aa) (wa Aa (Av (cz h6 Aa (λc7 h8=>?_) (λc7 hm=>?_)))))
  ·refine AH [(2,rB (bif decide (c.fInt=0) then((decide (c.fStr=([]:Al)))&&(decide (c.fN=0))) else((decide (c.fInt=1))&&((decide (c.fStr=([]:Al)))&&(decide (c.fN=0))))))] [] ?_ ?_
   ·refine Ai (vF B9 Aa C6 (vL 0 CM Aa (wv (B5 Aa Aa) (wm Aa (AO (decide (c.fInt=0)) (λc9=>?_) (λc9=>?_))))))
    ·refine wf c9 (wf c9 (wf c9 (wv (r:=rB true) (A2 Aa c9 Aa) (wm Aa (AE (b:=true) Aa Aa Aa (vF B9 Aa Cv (AE (b:=true) Aa Aa Aa (vL 0 CD Aa (AE (b:=true) Aa Aa Aa (wv (EZ Aa Aa) (wv (r:=rB (decide (c.fStr=([]:Al)))) (A2 (b:=true) Aa Aa Aa) (wm Aa (AO (decide (c.fStr=([]:Al))) (λhg=>?_) (λhg=>?_))))))))))))))
     ·refine wo hg (vF B9 Aa C6 (wo hg (vL 0 CM Aa (wo hg (wv (B5 Aa Aa) (Er Aa hg Aa (wa Aa (Am ?_))))))));exact BV (And.intro c9 hg)
     ·refine wf hg (wf hg (wf hg (wv (r:=rB false) (A8 Aa hg Aa) (wa Aa (Am ?_)))));exact BV (And.intro c9 hg)
    ·refine wo c9 (vF B9 Aa C6 (wo c9 (vL 0 CM Aa (wo c9 (wv (B5 Aa Aa) (E2 Aa c9 Aa (wm Aa (AO (decide (c.fInt=1)) (λhb=>?_) (λhb=>?_)))))))))
     ·refine wo hb (vF B9 Aa Cv (wo hb (vL 0 CD Aa (wo hb (wv (EZ Aa Aa) (Er Aa hb Aa (wm Aa (AO (decide (c.fStr=([]:Al))) (λhh=>?_) (λhh=>?_)))))))))
      ·refine wo hh (vF B9 Aa C6 (wo hh (vL 0 CM Aa (wo hh (wv (B5 Aa Aa) (Er Aa hh Aa (wa Aa (Am ?_))))))));exact BV (And.intro c9 (And.intro hb hh))
      ·refine wf hh (wf hh (wf hh (wv (r:=rB false) (A8 Aa hh Aa) (wa Aa (Am ?_)))));exact BV (And.intro c9 (And.intro hb hh))
     ·refine wf hb (wf hb (wf hb (wv (r:=rB false) (A8 Aa hb Aa) (wm Aa (wz Aa Aa (wz Aa Aa (wz Aa Aa (wv (r:=rB false) (A8 (b:=false) Aa Aa Aa) (wa Aa (Am ?_))))))))));exact BV (And.intro c9 hb)
   refine A1 (AC (Ae ?_));obtain rfl:=A5 h8;exact A0 (BJ ND (AM Aa)) sN ⟨Aa,Aa⟩
  ·refine Ak (wv (B5 Aa Aa) (wa Aa (Av (cz hm Aa (λhn ho=>?_) (λhn hp=>?_)))))
   ·refine AH [(2,rB ((decide (c.fStr=([]:Al)))&&(decide (c.fN=0))))] [] ?_ ?_
    ·refine Ai (vF B9 Aa Cv (vL 0 CD Aa (wv (EZ Aa Aa) (wm Aa (AO (decide (c.fStr=([]:Al))) (λhi=>?_) (λhi=>?_))))))
     ·refine wo hi (vF B9 Aa C6 (wo hi (vL 0 CM Aa (wo hi (wv (B5 Aa Aa) (Er Aa hi Aa (wa Aa (Am ?_))))))));exact BV hi
     ·refine wf hi (wf hi (wf hi (wv (r:=rB false) (A8 Aa hi Aa) (wa Aa (Am ?_)))));exact BV hi
    refine A1 (AC (Ae ?_));obtain rfl:=A5 ho;exact A0 (BJ ND (AM Aa)) sN ⟨Aa,Aa⟩
   ·refine Ak (wv (B5 Aa Aa) (wa Aa (Av (cz hp Aa (λhq hr=>?_) (λhq hs=>?_)))))
    ·refine ck hr λht hu=>AH [(2,rB ((decide (c.fInt=0))&&((decide (c.fN=0))&&(ov (Lx F c.fStr)))))] [] ?_ ?_
     ·refine Ai (vF B9 Aa C6 (vL 0 CM Aa (wv (B5 Aa Aa) (wm Aa (AO (decide (c.fInt=0)) (λha=>?_) (λha=>?_))))))
      ·refine wo ha (vF B9 Aa C6 (wo ha (vL 0 CM Aa (wo ha (wv (B5 Aa Aa) (Er Aa ha Aa (wm Aa (AO (decide (c.fN=0)) (λhd=>?_) (λhd=>?_)))))))))
       ·refine wo hd (vF B9 Aa Cv (wo hd (vL 0 CD Aa (wo hd (CG Tryz.call150 (XZ F c.fStr (ov (Lx F c.fStr)) (E4 (Cr (Cr ht ha) hd))) Aa (Er Aa hd Aa (wa Aa (Am ?_))))))));exact BV (And.intro ha hd)
       ·refine wf hd (wf hd (wf hd (wv (r:=rB false) (A8 Aa hd Aa) (wa Aa (Am ?_)))));exact BV (And.intro ha hd)
      ·refine wf ha (wf ha (wf ha (wv (r:=rB false) (A8 Aa ha Aa) (wm Aa (wz Aa Aa (wz Aa Aa (wz Aa Aa (wv (r:=rB false) (A8 (b:=false) Aa Aa Aa) (wa Aa (Am ?_))))))))));exact BV ha
     refine A1 (AC (Ae ?_));obtain rfl:=A5 hu;exact A0 (BJ ND (AM Aa)) sN ⟨Aa,Aa⟩
    ·refine An (Ak (wv (B5 Aa Aa) (wa Aa (Av (cz hs Aa (λhl hw=>?_) (λhl hx=>?_))))))
     ·refine Ay (AP (DH Aa hl (AH [(2,rB ((decide (c.fInt=0))&&((decide (c.fStr=([]:Al)))&&(decide (0≤c.fN)))))] [] ?_ ?_)))
      ·refine Ai (vF B9 Aa C6 (vL 0 CM Aa (wv (B5 Aa Aa) (wm Aa (AO (decide (c.fInt=0)) (λhe=>?_) (λhe=>?_))))))
       ·refine wo he (vF B9 Aa Cv (wo he (vL 0 CD Aa (wo he (wv (EZ Aa Aa) (Er Aa he Aa (wm Aa (AO (decide (c.fStr=([]:Al))) (λhj=>?_) (λhj=>?_)))))))))
        ·refine wo hj (vF B9 Aa C6 (wo hj (vL 0 CM Aa (wo hj (wv (GH Aa Aa) (Er Aa hj Aa (wa Aa (Am ?_))))))));exact BV (And.intro he hj)
        ·refine wf hj (wf hj (wf hj (wv (r:=rB false) (A8 Aa hj Aa) (wa Aa (Am ?_)))));exact BV (And.intro he hj)
       ·refine wf he (wf he (wf he (wv (r:=rB false) (A8 Aa he Aa) (wm Aa (wz Aa Aa (wz Aa Aa (wz Aa Aa (wv (r:=rB false) (A8 (b:=false) Aa Aa Aa) (wa Aa (Am ?_))))))))));exact BV he
      refine A1 (AC (Ae ?_));obtain rfl:=A5 hw;exact A0 (BJ ND (AM Aa)) sN ⟨Aa,Aa⟩
     ·refine Ai (wv (B5 Aa Aa) (wa Aa (Av (cz hx Aa (λhy hz=>?_) (λhy h0=>?_)))))
      ·refine AH [(2,rB ((decide (c.fInt=0))&&((decide (c.fStr=([]:Al)))&&(decide (0≤c.fN)))))] [] ?_ ?_
       ·refine Ai (vF B9 Aa C6 (vL 0 CM Aa (wv (B5 Aa Aa) (wm Aa (AO (decide (c.fInt=0)) (λhf=>?_) (λhf=>?_))))))
        ·refine wo hf (vF B9 Aa Cv (wo hf (vL 0 CD Aa (wo hf (wv (EZ Aa Aa) (Er Aa hf Aa (wm Aa (AO (decide (c.fStr=([]:Al))) (λhk=>?_) (λhk=>?_)))))))))
         ·refine wo hk (vF B9 Aa C6 (wo hk (vL 0 CM Aa (wo hk (wv (GH Aa Aa) (Er Aa hk Aa (wa Aa (Am ?_))))))));exact BV (And.intro hf hk)
         ·refine wf hk (wf hk (wf hk (wv (r:=rB false) (A8 Aa hk Aa) (wa Aa (Am ?_)))));exact BV (And.intro hf hk)
        ·refine wf hf (wf hf (wf hf (wv (r:=rB false) (A8 Aa hf Aa) (wm Aa (wz Aa Aa (wz Aa Aa (wz Aa Aa (wv (r:=rB false) (A8 (b:=false) Aa Aa Aa) (wa Aa (Am ?_))))))))));exact BV hf
       refine A1 (AC (Ae ?_));obtain rfl:=A5 hz;exact A0 (BJ ND (AM Aa)) sN ⟨Aa,Aa⟩
      ·refine Ay (AG (AP (Ak (wa Aa (Av (A1 ?_))))));obtain rfl:=A5 h0;exact A0 (BJ ND (AM Aa)) (sS sN) ⟨Aa,Aa⟩
theorem Ya (c:Ac)(r:Int)(h:Rq c=some r):Fn Tryz.prog GE 116 [BQ (Ab c)] [] (λR H=>R=At r∧H=[]):=by
 refine enter (n:=28) Tryz.func116 Aa Tryz.ntmps116 Aa (λw Z=>?_);unfold Rq at h;refine Ak (C3 Aa Aa (λb1=>?_));refine wa Aa (Av (An (Ak (vF B9 Aa DC (vL 0 DD Aa (Av (AJ (Ak (wv (B5 Aa Aa) (wa Aa (Av (cz h Aa (λc2 h3=>?_) (λc2 h4=>?_)))))))))))))
 ·refine Ak (wa Aa (Av (A1 (AC (Ae ?_)))));obtain rfl:=A5 h3;exact A0 (BJ Rj (AM Aa)) (sS sN) ⟨Aa,Aa⟩
 ·refine Ak (wv (B5 Aa Aa) (wa Aa (Av (cz h4 Aa (λc5 h6=>?_) (λc5 h7=>?_)))))
  ·refine Ak (vF B9 Aa C6 (vL 0 CM Aa (wv (r:=At (IntKind.wrap .i64 (5-c.fInt))) (W8 Aa Aa) (wa Aa (Av (A1 (AC (Ae ?_))))))));obtain rfl:=A5 h6;exact A0 (BJ Rj (AM Aa)) (sS sN) ⟨Aa,Aa⟩
  ·refine Ak (wv (B5 Aa Aa) (wa Aa (Av (cz h7 Aa (λc8 h9=>?_) (λc8 ha=>?_)))))
   ·refine Ak (vF B9 Aa C6 (vL 0 CM Aa (ck h9 λhb hd=>Cz (rs:=[At c.fInt]) (r:=rS (Lib.itoa c.fInt)) NE Aa (E6 c.fInt hb) Aa Aa (wv (Bv Cu Aa) (wa Aa (Av (A1 (AC (Ae ?_)))))))));obtain rfl:=A5 hd;exact A0 (BJ Rj (AM Aa)) (sS sN) ⟨Aa,Aa⟩
   ·refine Ak (wv (B5 Aa Aa) (wa Aa (Av (cz ha Aa (λhe hf=>?_) (λhe hg=>?_)))))
    ·refine Ak (vF B9 Aa Cv (vL 0 CD Aa (ob hf λhh hi hj=>CG Tryz.call115 (Pq c.fStr hh hi) Aa (wa Aa (Av (A1 (AC (Ae ?_))))))));obtain rfl:=A5 hj;exact A0 (BJ Rj (AM Aa)) (sS sN) ⟨Aa,Aa⟩
    ·refine Ay (AG (AP (Ak (vF B9 Aa C6 (vL 0 CM Aa (wv (r:=At (IntKind.wrap .i64 (c.fN-1))) (W8 Aa Aa) (wv (Ze S8 Aa Aa) (wv (r:=At (IntKind.wrap .i64 (2+(max 0 (IntKind.wrap .i64 (c.fN-1)))))) (Ta Aa Aa) (wa Aa (Av (A1 ?_)))))))))));obtain rfl:=A5 hg;exact A0 (BJ Rj (AM Aa)) (sS sN) ⟨Aa,Aa⟩
theorem UA (F:Nat)(hi:Value)(stack:(List AN))(r:(List AN))(h:L5 F stack=some r):Fn Tryz.prog GE 118 [rv hi] [.row hi 152 5 (A4 AK stack)] (λR H=>∃u0:Value,R=rv u0∧H=[.row u0 152 5 (A4 AK r)]):=by
 refine enter (n:=38) Tryz.func118 Aa Tryz.ntmps118 Aa (λw Z=>?_);unfold L5 at h;refine Ak (wa Aa (Av (An (AJ (ob h λhn ho hl=>Bu (S:=Nat×((List AN))×(Value)) (V:=((List AN))×(Value)) 0 (λσ=>Ci (λσ=>Ef σ) σ.1 σ.2.1=some hn) (λσ=>[(0,rv σ.2.2),(2,rv (.slice none 0 0))]) (λσ=>[.row σ.2.2 152 5 (A4 AK σ.2.1)]) (λσ=>σ.1) (F,stack,hi) ho (AL.c Aa (AL.c Aa AL.nil)) (sC sN) (λσ=>ED σ.1=some r) (λσ=>[(0,rv σ.2),(2,rv (.slice none 0 0))]) (λσ=>[.row σ.2 152 5 (A4 AK σ.1)]) ?_ ?_)))))
 ·rintro⟨n194,ha,hd⟩ hp;refine BW (l':=[(0,rv hd),(2,rv (.slice none 0 0))]) (H':=[.row hd 152 5 (A4 AK ha)]) Aa Aa ?_;obtain⟨hq,rfl,hr,hg,hj⟩:=C4 hp;replace hg:Ef ha=some hr:=hg;unfold Ef at hg;refine An (Ak (wm Aa (wv (Ch (ys:=ha) (enc:=AK) (i:=0) Jp Aa Aa) (wv (CI Aa Aa) (Av (cz hg Aa (λhs ht=>?_) (λhs hu=>?_)))))))
  ·refine Ay (AP (AJ (Ak (wm Aa (wm Aa (wv (Ch (ys:=ha) (enc:=AK) (i:=0) Jp Aa Aa) (ck ht λhw hx=>wv (Oq Aa Aa hw) (ck hx λhe hy=>wv (r:=rv (E1 5 hd (B4 ((ha.length:Int)-1)) 0)) (En (i:=0) Jp Rg Aa Aa Aa (BO he)) (wa Aa (Bs (wm Aa (wv (r:=rv (E1 5 hd (B4 ((ha.length:Int)-1)) 0)) (CR (k:=0) Aa (BO he) Aa Aa) (wv (r:=rv (E1 5 hd (B4 ((ha.length:Int)-1)) 1)) (EF (k:=0) Jo Aa C6 Aa (BO he) Aa Aa Aa) (wv (r:=At ((Ap ha ((ha.length:Int)-1)).fLeft)) (GG (enc:=AK) (ys:=ha) (i:=0) (j:=(ha.length:Int)-1) CM Aa Aa he Aa) (ck hy λhz h0=>wv (Oq Aa Aa hz) (wv (r:=rv (E1 5 hd (B4 ((ha.length:Int)-1)) 0)) (CR (k:=0) Aa (BO he) Aa Aa) (wv (r:=rv (E1 5 hd (B4 ((ha.length:Int)-1)) 1)) (EF (k:=0) Jo Aa C6 Aa (BO he) Aa Aa Aa) (IH (enc:=AK) (ys:=ha) (y':=(AN.mk ((Ap ha ((ha.length:Int)-1)).fPairs) (((Ap ha ((ha.length:Int)-1)).fLeft)-1) ((Ap ha ((ha.length:Int)-1)).fKey) ((Ap ha ((ha.length:Int)-1)).fLast) ((Ap ha ((ha.length:Int)-1)).fStarted))) (i:=0) (j:=(ha.length:Int)-1) C6 Aa Aa (BD Aa) Aa he Aa Aa (H':=[.row hd 152 5 (A4 AK (List.set ha (B4 ((ha.length:Int)-1)) (AN.mk ((Ap ha ((ha.length:Int)-1)).fPairs) (((Ap ha ((ha.length:Int)-1)).fLeft)-1) ((Ap ha ((ha.length:Int)-1)).fKey) ((Ap ha ((ha.length:Int)-1)).fLast) ((Ap ha ((ha.length:Int)-1)).fStarted))))]) Aa (bd h0 λhb hf h1=>?_)))))))))))))))))));rw[← hf];refine Av (An (Ak (wm Aa (wv (r:=rv (E1 5 hd (B4 ((ha.length:Int)-1)) 0)) (CR (k:=0) Aa (BO (D0 he hf)) Aa Aa) (wv (r:=rv (E1 5 hd (B4 ((ha.length:Int)-1)) 1)) (EF (k:=0) Jo Aa C6 Aa (BO (D0 he hf)) Aa Aa Aa) (wv (r:=At ((Ap hb ((ha.length:Int)-1)).fLeft)) (GG (enc:=AK) (ys:=hb) (i:=0) (j:=(ha.length:Int)-1) CM Aa Aa (D0 he hf) Aa) (wv (CI Aa Aa) (Av (cz h1 Aa (λh2 h3=>?_) (λh2 h4=>?_))))))))))
   ·refine Ak (wm Aa (wm Aa (wv (r:=rv (E1 5 hd (B4 ((ha.length:Int)-1)) 0)) (CR (k:=0) Aa (BO (D0 he hf)) Aa Aa) (wv (r:=rv (E1 5 hd (B4 ((ha.length:Int)-1)) 0)) (EF (k:=0) Jo Aa I9 Aa (BO (D0 he hf)) Aa Aa Aa) (wv (r:=rB ((Ap hb ((ha.length:Int)-1)).fPairs)) (GG (enc:=AK) (ys:=hb) (i:=0) (j:=(ha.length:Int)-1) U4 Aa Aa (D0 he hf) Aa) (wv (r:=rv (E1 5 hd (B4 ((ha.length:Int)-1)) 0)) (CR (k:=0) Aa (BO (D0 he hf)) Aa Aa) (wv (r:=rv (E1 5 hd (B4 ((ha.length:Int)-1)) 2)) (EF (k:=0) Jo Aa I9 Aa (BO (D0 he hf)) Aa Aa Aa) (IH (enc:=AK) (ys:=hb) (y':=(AN.mk ((Ap hb ((ha.length:Int)-1)).fPairs) ((Ap hb ((ha.length:Int)-1)).fLeft) ((Ap hb ((ha.length:Int)-1)).fPairs) ((Ap hb ((ha.length:Int)-1)).fLast) ((Ap hb ((ha.length:Int)-1)).fStarted))) (i:=0) (j:=(ha.length:Int)-1) I9 Aa Aa (BD Aa) Aa (D0 he hf) Aa Aa (H':=[.row hd 152 5 (A4 AK (List.set hb (B4 ((ha.length:Int)-1)) (AN.mk ((Ap hb ((ha.length:Int)-1)).fPairs) ((Ap hb ((ha.length:Int)-1)).fLeft) ((Ap hb ((ha.length:Int)-1)).fPairs) ((Ap hb ((ha.length:Int)-1)).fLast) ((Ap hb ((ha.length:Int)-1)).fStarted))))]) Aa (bd h3 λhG h5 h6=>?_)))))))));rw[← h5];refine Bs (wm Aa (wa Aa (Av (A1 (Ae (AC (Ae (Bj ?_))))))));have h7:=BB h6 hj hl;refine AC (Ae ?_);obtain rfl:=A5 h7;exact A0 (BJ Tryz.results118 (AM Aa)) (sC sN) ⟨hd,Aa,Aa⟩
   ·refine Ay (AP (Ai (wm Aa (wm Aa (wv (Ch (ys:=hb) (enc:=AK) (i:=0) Jp Aa Aa) (ck h4 λh8 h9=>wv (Oq Aa Aa h8) (ck h9 λhA hB=>Aaf (i:=0) Jp Rg Aa Aa Aa hA Aa (λhC=>?_))))))));refine wa Aa (Am (AG ?_));have hD:=Bk hB hj;exact Aw (AI (hq,List.take (B4 ((hb.length:Int)-1)) hb,hC) ⟨hD,Aby _⟩ (AL.c Aa (AL.c Aa AL.nil)) (sC sN))
  ·refine Bx (A6 ?_);have hE:=BX hu hj hl;exact A6 (Be (AI (ha,hd) hE (AL.c Aa (AL.c Aa AL.nil)) (sC sN)))
 ·rintro⟨hm,hk⟩ hh;refine Cy (l':=[(0,rv hk),(2,rv (.slice none 0 0))]) (H':=[.row hk 152 5 (A4 AK hm)]) Aa Aa ?_;replace hh:ED hm=some r:=hh;unfold ED at hh;refine Bc (AP (Ak (wm Aa (wa Aa (Av (A1 ?_))))));obtain rfl:=A5 hh;exact A0 (BJ Tryz.results118 (AM Aa)) (sC sN) ⟨hk,Aa,Aa⟩
theorem Qd (F:Nat)(v:(List Ac))(r:Int×AU×Bool)(h:Jr F v=some r):Fn Tryz.prog GE 89 [AY 4 (A4 Ab v)] [] (λR H=>R=C7 [At r.1,BQ (Bd r.2.1),rB r.2.2]∧H=[]):=by
 refine enter (n:=152) Tryz.func89 Aa Tryz.ntmps89 Aa (λw Z=>?_);unfold Jr at h;refine Ak (wa Aa (Cc (cs:=[At 0,At 0,rB false,rB false]) Re Aa Aa (λb1=>?_)));refine wa Aa (Av (VX (Ak (Cc (cs:=[At 0,At 0,rB false,rB false]) Re Aa Aa (λb2=>?_)))));refine Bs (wa Aa (Av (An (VY (AP (An (Ak (wm Aa (wv (Bq (ys:=v) (enc:=Ab) Co Aa) (wv (r:=At 0) (Aq Aa) (Av (AJ (WC.nilrow (e:=152) (sz:=5) (GO (H2:=[.blk b2 [At 0,At 0,rB false,rB false] 124,.blk b1 [At 0,At 0,rB false,rB false] 124,.row (.slice none 0 0                                                                                                                                                        ) 152 5 (A4 AK ([]:List AN))]) ((As (i:=1) Aa).trans (Abp _ ((As (i:=1) Aa).trans (Abp _ (Abq _))))) (ob h λhA hB hy=>Bu (S:=Nat×((List AN)×Int×AU)×(Value)) (V:=(AU)×(Unit)) 0 (λσ=>Ci (λσ=>Ee F v σ.1 σ.2.1 σ.2.2) σ.1 σ.2.1=some hA) (λσ=>[(0,AY 4 (A4 Ab v)),(3,rP b1 0),(5,rP b2 0),(6,rv σ.2.2),(11,AY 4 (A4 Ab v)),(12,At (v.length:Int)),(13,At σ.2.1.2.1)]) (λσ=>[.blk b2 (Bd σ.2.1.2.2) 124,.blk b1 [At 0,At 0,rB false,rB false] 124,.row σ.2.2 152 5 (A4 AK σ.2.1.1)]) (λσ=>σ.1) (F,(([]:List AN),0,(AU.mk 0 0 false false)),(.slice none 0 0                                                                                                                                                        )) hB (AL.c Aa (AL.c Aa (AL.c5 Aa Aa Aa Aa Aa AL.nil))) (sC (sC (sC sN))) (λσ=>L3 σ.1=some r) (λσ=>[(3,rP b1 0),(5,rP b2 0)]) (λσ=>[.blk b2 (Bd σ.1) 124,.blk b1 [At 0,At 0,rB false,rB false] 124]) ?_ ?_)))))))))))))))
 ·rintro⟨gI,⟨hd,hb,ha⟩,he⟩ hC;refine BW (l':=[(0,AY 4 (A4 Ab v)),(3,rP b1 0),(5,rP b2 0),(6,rv he),(11,AY 4 (A4 Ab v)),(12,At (v.length:Int)),(13,At hb)]) (H':=[.blk b2 (Bd ha) 124,.blk b1 [At 0,At 0,rB false,rB false] 124,.row he 152 5 (A4 AK hd)]) Aa Aa ?_;obtain⟨hD,rfl,h4,h0,hx⟩:=C4 hC;replace h0:Ee F v hd hb ha=some h4:=h0;unfold Ee at h0;refine Ak (wv (C0 Aa Aa) (Av (An (cz h0 Aa (λhE hG=>?_) (λhE hH=>?_)))))
  ·refine Ay (AP (Dm (S:=((List AN)×AU)×(Value)) (λσ=>E3 hb σ.1.1 σ.1.2=some h4) (λσ=>[(0,AY 4 (A4 Ab v)),(3,rP b1 0),(5,rP b2 0),(6,rv σ.2),(11,AY 4 (A4 Ab v)),(12,At (v.length:Int)),(13,At hb)]) (λσ=>[.blk b2 (Bd σ.1.2) 124,.blk b1 [At 0,At 0,rB false,rB false] 124,.row σ.2 152 5 (A4 AK σ.1.1)]) ?_ ?_))
   ·refine AJ (Ak (wm Aa (ck hG λhI hJ=>wv (By (enc:=Ab) (ys:=v) Co CC Aa Aa hI) (wv (Di NF CC Aa Aa Aa) (Cc (cs:=[At 0,At 0,rS ([]:Al),At 0]) Lc Aa Aa (λhf=>?_))))));refine wa Aa (Br (i:=0) CC Aa Aa Aa (Cq.c Aa) Aa Aa (cs':=[At ((Ap v hb).fKind),At ((Ap v hb).fInt),rS ((Ap v hb).fStr),At ((Ap v hb).fN)]) Aa (H':=[.blk hf (Ab (Ap v hb)) 83,.blk b2 (Bd ha) 124,.blk b1 [At 0,At 0,rB false,rB false] 124,.row he 152 5 (A4 AK hd)]) Aa (Av (An (Ak (wv (Bf (i:=0) NF CC Aa Aa Aa Aa) (ob hJ λhK hL hN=>CG Tryz.call114 (Wd F (Ap v hb) hK hL) Aa (wv (BE Aa) (Av (cz hN Aa (λhO hP=>?_) (λhO hQ=>?_))))))))))
    ·refine An (Hk (H1:=[.blk hf (Ab (Ap v hb)) 83,.blk b2 (Bd ha) 124,.blk b1 (Bd ha) 124,.row he 152 5 (A4 AK hd)]) [3,5] [⟨[],BQ (Bd ha),1⟩,⟨[],At 0,0⟩,⟨[0],rv undef,2⟩,⟨[],rB false,0⟩] (rle [(3,_),(2,[.blk hf (Ab (Ap v hb)) 83,.blk b2 (Bd ha) 124,.blk b1 (Bd ha) 124,.row he 152 5 (A4 AK hd)])]) [2,4,3] ?_ ?_)
     ·refine of (Bf (i:=1) KN Gl Aa Aa Aa Aa) (oq (Az Aa) (JM Aa (Qz (E8 (i:=2) Gl Aa Aa Aa (Cq.c Aa) Aa Aa (cs':=[At ha.fDepth,At ha.fBytes,rB ha.fOutside,rB ha.fLong]) Aa (H':=[.blk hf (Ab (Ap v hb)) 83,.blk b2 (Bd ha) 124,.blk b1 (Bd ha) 124,.row he 152 5 (A4 AK hd)]) Aa)) ?_));refine oq (Az Aa) ?_;exact CN
     refine AP (A1 (Ae (AC (Ae (Ae (Bj ?_))))));have hR:=BB hP hx hy;refine AC (Ae (Kc ?_));obtain rfl:=A5 hR;exact A0 (Wr VP (AM Aa) (Io (i:=2) KN Gl Aa Aa Aa) (AM Aa)) (sS (sS (sS (sS sN)))) ⟨Aa,Aa⟩
    ·refine Ay (AP (An (Ak (wm Aa (wv (Ch (ys:=hd) (enc:=AK) (i:=3) Jp Aa Aa) (wa Aa (Av (ck hQ λhS hT=>ck hT λh5 hU=>AH [(0,AY 4 (A4 Ab v)),(3,rP b1 0),(5,rP b2 0),(6,rv he),(7,At hb),(8,rP hf 0),(9,At (hd.length:Int)),(11,AY 4 (A4 Ab v)),(12,At (v.length:Int)),(13,At hb),(33,rB ((decide (0<(hd.length:Int)))&&((Ap hd ((hd.length:Int)-1)).fKey)))] [.blk hf (Ab (Ap v hb)) 83,.blk b2 (Bd ha) 124,.blk b1 [At 0,At 0,rB false,rB false] 124,.row he 152 5 (A4 AK hd)] ?_ ?_))))))))
     ·refine Ai (wm Aa (wv (CI Aa Aa) (wm Aa (AO (decide (0<(hd.length:Int))) (λhi=>?_) (λhi=>?_)))))
      ·refine wo hi (wm Aa (wo hi (wm Aa (wo hi (wv (Oq Aa Aa (Cr hS hi)) (wo hi (wv (r:=rv (E1 5 he (B4 ((hd.length:Int)-1)) 0)) (En (i:=3) Jp Rg Aa Aa Aa (BO (Cr h5 hi))) (wo hi (wv (r:=rv (E1 5 he (B4 ((hd.length:Int)-1)) 2)) (EF (k:=3) Jo Aa I9 Aa (BO (Cr h5 hi)) Aa Aa Aa) (wo hi (wv (r:=rB ((Ap hd ((hd.length:Int)-1)).fKey)) (GG (enc:=AK) (ys:=hd) (i:=3) (j:=(hd.length:Int)-1) U4 Aa Aa (Cr h5 hi) Aa) (Er Aa hi Aa (Am ?_)))))))))))));exact BV hi
      ·refine wf hi (wf hi (wf hi (wf hi (wf hi (wf hi (wv (r:=rB false) (A8 Aa hi Aa) (Am ?_)))))));exact BV hi
     refine cz hU Aa (λhV hW=>?_) (λhV hX=>?_)
     ·refine Ak (wm Aa (wm Aa (ck hW λhY hZ=>wv (Oq Aa Aa hY) (ck hZ λhj ga=>wv (r:=rv (E1 5 he (B4 ((hd.length:Int)-1)) 0)) (En (i:=3) Jp Rg Aa Aa Aa (BO hj)) (wa Aa (Av (An (AH [(0,AY 4 (A4 Ab v)),(3,rP b1 0),(5,rP b2 0),(6,rv he),(8,rP hf 0),(10,rv (E1 5 he (B4 ((hd.length:Int)-1)) 0)),(11,AY 4 (A4 Ab v)),(12,At (v.length:Int)),(13,At hb),(38,rP hf 0),(39,At ((Ap v hb).fKind)),(40,rB (!decide (((Ap v hb).fKind)=4))),(41,rB (!decide (((Ap v hb).fKind)=4))),(55,rB ((!decide (((Ap v hb).fKind)=4))||(((Ap hd ((hd.length:Int)-1)).fStarted)&&(CA ((Ap v hb).fStr) ((Ap hd ((hd.length:Int)-1)).fLast)||decide (((Ap v hb).fStr)=((Ap hd ((hd.length:Int)-1)).fLast))))))] [.blk hf (Ab (Ap v hb)) 83,.blk b2 (Bd ha) 124,.blk b1 [At 0,At 0,rB false,rB false] 124,.row he 152 5 (A4 AK hd)] ?_ ?_))))))))
      ·refine AO (!decide (((Ap v hb).fKind)=4)) (λhh=>?_) (λhh=>?_)
       ·refine Do [0,3,5,6,8,10,11,12,13] [⟨[],rP hf 0,0⟩,⟨[0],At ((Ap v hb).fKind),1⟩,⟨[1],rB (!decide (((Ap v hb).fKind)=4)),0⟩,⟨[2],rB (!decide (((Ap v hb).fKind)=4)),0⟩,⟨[3],rv undef,0⟩,⟨[4,3],rv undef,0⟩,⟨[5,3],rv undef,0⟩,⟨[6,3],rv undef,0⟩,⟨[7,3],rv undef,0⟩,⟨[8],rv undef,0⟩,⟨[9,8],rv undef,0⟩,⟨[8],rv undef,0⟩,⟨[11,8],rv undef,0⟩,⟨[12,8],rv undef,0⟩,⟨[13,8],rv undef,0⟩,⟨[10,14,8],rv undef,0⟩,⟨[8,15,3],rv undef,0⟩,⟨[3,16],rB true,0⟩] [38,39,40,41,42,43,44,45,46,47,48,49,50,51,52,53,54,55,0,3,5,6,8,10,11,12,13] ?_ ?_
        ·refine oq (A9 B9 Aa DC Aa Aa) (of (AT (i:=0) DD Aa Aa Aa) (oq (BT Aa Aa) (oq (Aq Aa) (oz hh (oz hh (oz hh (oz hh (oz hh (ou (ou (ou (ou (ou (ou (ou (oz hh (oq (A2 (b:=!decide (((Ap v hb).fKind)=4)) Aa hh Aa) ?_)))))))))))))))));exact CN
        exact BV hh
       ·refine AO ((Ap hd ((hd.length:Int)-1)).fStarted) (λhk=>?_) (λhk=>?_)
        ·refine Do [0,3,5,6,8,10,11,12,13] [⟨[],rP hf 0,0⟩,⟨[0],At ((Ap v hb).fKind),1⟩,⟨[1],rB (!decide (((Ap v hb).fKind)=4)),0⟩,⟨[2],rB (!decide (((Ap v hb).fKind)=4)),0⟩,⟨[3],rv (E1 5 he (B4 ((hd.length:Int)-1)) 0),0⟩,⟨[4,3],rv (E1 5 he (B4 ((hd.length:Int)-1)) 0),1⟩,⟨[5,3],rv (E1 5 he (B4 ((hd.length:Int)-1)) 4),1⟩,⟨[6,3],rB ((Ap hd ((hd.length:Int)-1)).fStarted),1⟩,⟨[7,3],rB ((Ap hd ((hd.length:Int)-1)).fStarted),0⟩,⟨[8],rP hf 2,0⟩,⟨[9,8],rS ((Ap v hb).fStr),1⟩,⟨[8],rv (E1 5 he (B4 ((hd.length:Int)-1)) 0),0⟩,⟨[11,8],rv (E1 5 he (B4 ((hd.length:Int)-1)) 0),1⟩,⟨[12,8],rv (E1 5 he (B4 ((hd.length:Int)-1)) 3),1⟩,⟨[13,8],rS ((Ap hd ((hd.length:Int)-1)).fLast),1⟩,⟨[10,14,8],rB (CA ((Ap v hb).fStr) ((Ap hd ((hd.length:Int)-1)).fLast)||decide (((Ap v hb).fStr)=((Ap hd ((hd.length:Int)-1)).fLast))),0⟩,⟨[8,15,3],rB (CA ((Ap v hb).fStr) ((Ap hd ((hd.length:Int)-1)).fLast)||decide (((Ap v hb).fStr)=((Ap hd ((hd.length:Int)-1)).fLast))),0⟩,⟨[3,16],rB (CA ((Ap v hb).fStr) ((Ap hd ((hd.length:Int)-1)).fLast)||decide (((Ap v hb).fStr)=((Ap hd ((hd.length:Int)-1)).fLast))),0⟩] [38,39,40,41,42,43,44,45,46,47,48,49,50,51,52,53,54,55,0,3,5,6,8,10,11,12,13] ?_ ?_
         ·refine oq (A9 B9 Aa DC Aa Aa) (of (AT (i:=0) DD Aa Aa Aa) (oq (BT Aa Aa) (oq (Aq Aa) (on hh (oq (Aq Aa) (on hh (of (CR (k:=3) Aa (BO hj) Aa Aa) (on hh (of (EF (k:=3) Jo Aa I9 Aa (BO hj) Aa Aa Aa) (on hh (of (GG (enc:=AK) (ys:=hd) (i:=3) (j:=(hd.length:Int)-1) U4 Aa Aa hj Aa) (on hh (oq (Aq Aa) (on hk (oq (A9 B9 Aa Cv Aa Aa) (on hk (of (AT (i:=0) CD Aa Aa Aa) (on hk (oq (Aq Aa) (on hk (of (CR (k:=3) Aa (BO hj) Aa Aa) (on hk (of (EF (k:=3) Jo Aa Cv Aa (BO hj) Aa Aa Aa) ?_)))))))))))))))))))))));refine on hk (of (GG (enc:=AK) (ys:=hd) (i:=3) (j:=(hd.length:Int)-1) CD Aa Aa hj Aa) (on hk (oq (TO Aa Aa) (on hh (oq (A2 Aa hk Aa) (oq (A8 Aa hh Aa) ?_))))));exact CN
         exact BV (And.intro hh hk)
        ·refine Do [0,3,5,6,8,10,11,12,13] [⟨[],rP hf 0,0⟩,⟨[0],At ((Ap v hb).fKind),1⟩,⟨[1],rB (!decide (((Ap v hb).fKind)=4)),0⟩,⟨[2],rB (!decide (((Ap v hb).fKind)=4)),0⟩,⟨[3],rv (E1 5 he (B4 ((hd.length:Int)-1)) 0),0⟩,⟨[4,3],rv (E1 5 he (B4 ((hd.length:Int)-1)) 0),1⟩,⟨[5,3],rv (E1 5 he (B4 ((hd.length:Int)-1)) 4),1⟩,⟨[6,3],rB ((Ap hd ((hd.length:Int)-1)).fStarted),1⟩,⟨[7,3],rB ((Ap hd ((hd.length:Int)-1)).fStarted),0⟩,⟨[8],rv undef,0⟩,⟨[9,8],rv undef,0⟩,⟨[8],rv undef,0⟩,⟨[11,8],rv undef,0⟩,⟨[12,8],rv undef,0⟩,⟨[13,8],rv undef,0⟩,⟨[10,14,8],rv undef,0⟩,⟨[8,15,3],rB false,0⟩,⟨[3,16],rB false,0⟩] [38,39,40,41,42,43,44,45,46,47,48,49,50,51,52,53,54,55,0,3,5,6,8,10,11,12,13] ?_ ?_
         ·refine oq (A9 B9 Aa DC Aa Aa) (of (AT (i:=0) DD Aa Aa Aa) (oq (BT Aa Aa) (oq (Aq Aa) (on hh (oq (Aq Aa) (on hh (of (CR (k:=3) Aa (BO hj) Aa Aa) (on hh (of (EF (k:=3) Jo Aa I9 Aa (BO hj) Aa Aa Aa) (on hh (of (GG (enc:=AK) (ys:=hd) (i:=3) (j:=(hd.length:Int)-1) U4 Aa Aa hj Aa) (on hh (oq (Aq Aa) (oz hk (oz hk (oz hk (oz hk (oz hk (oz hk (oz hk (on hh (oq (A8 (b:=(Ap hd ((hd.length:Int)-1)).fStarted) Aa hk Aa) (oq (A8 Aa hh Aa) ?_)))))))))))))))))))))));exact CN
         exact BV (And.intro hh hk)
      refine cz ga Aa (λgb gc=>?_) (λgb gd=>?_)
      ·refine An (Hk (H1:=[.blk hf (Ab (Ap v hb)) 83,.blk b2 (Bd ha) 124,.blk b1 (Bd ha) 124,.row he 152 5 (A4 AK hd)]) [3,5] [⟨[],BQ (Bd ha),1⟩,⟨[],At 0,0⟩,⟨[0],rv undef,2⟩,⟨[],rB false,0⟩] (rle [(3,_),(2,[.blk hf (Ab (Ap v hb)) 83,.blk b2 (Bd ha) 124,.blk b1 (Bd ha) 124,.row he 152 5 (A4 AK hd)])]) [2,4,3] ?_ ?_)
       ·refine of (Bf (i:=1) KN Gl Aa Aa Aa Aa) (oq (Az Aa) (JM Aa (Qz (E8 (i:=2) Gl Aa Aa Aa (Cq.c Aa) Aa Aa (cs':=[At ha.fDepth,At ha.fBytes,rB ha.fOutside,rB ha.fLong]) Aa (H':=[.blk hf (Ab (Ap v hb)) 83,.blk b2 (Bd ha) 124,.blk b1 (Bd ha) 124,.row he 152 5 (A4 AK hd)]) Aa)) ?_));refine oq (Az Aa) ?_;exact CN
       refine AP (A1 (Ae (Ae (AC (Ae (Ae (Bj ?_)))))));have ge:=BB gc hx hy;refine AC (Ae (Kc ?_));obtain rfl:=A5 ge;exact A0 (Wr VP (AM Aa) (Io (i:=2) KN Gl Aa Aa Aa) (AM Aa)) (sS (sS (sS (sS sN)))) ⟨Aa,Aa⟩
      ·refine Ay (AP (Ak (wm Aa (wm Aa (wm Aa (vF B9 Aa Cv (vL 0 CD Aa (wv (r:=rv (E1 5 he (B4 ((hd.length:Int)-1)) 0)) (CR (k:=3) Aa (BO hj) Aa Aa) (wv (r:=rv (E1 5 he (B4 ((hd.length:Int)-1)) 3)) (EF (k:=3) Jo Aa Cv Aa (BO hj) Aa Aa Aa) (IH (enc:=AK) (ys:=hd) (y':=(AN.mk ((Ap hd ((hd.length:Int)-1)).fPairs) ((Ap hd ((hd.length:Int)-1)).fLeft) ((Ap hd ((hd.length:Int)-1)).fKey) ((Ap v hb).fStr) ((Ap hd ((hd.length:Int)-1)).fStarted))) (i:=3) (j:=(hd.length:Int)-1) Cv Aa Aa (BD Aa) Aa hj Aa Aa (H':=[.blk hf (Ab (Ap v hb)) 83,.blk b2 (Bd ha) 124,.blk b1 [At 0,At 0,rB false,rB false] 124,.row he 152 5 (A4 AK (List.set hd (B4 ((hd.length:Int)-1)) (AN.mk ((Ap hd ((hd.length:Int)-1)).fPairs) ((Ap hd ((hd.length:Int)-1)).fLeft) ((Ap hd ((hd.length:Int)-1)).fKey) ((Ap v hb).fStr) ((Ap hd ((hd.length:Int)-1)).fStarted))))]) Aa (bd gd λhr hu gf=>?_)))))))))));rw[← hu];refine wv (r:=rv (E1 5 he (B4 ((hd.length:Int)-1)) 0)) (CR (k:=3) Aa (BO (D0 hj hu)) Aa Aa) (wv (r:=rv (E1 5 he (B4 ((hd.length:Int)-1)) 4)) (EF (k:=3) Jo Aa I9 Aa (BO (D0 hj hu)) Aa Aa Aa) (IH (enc:=AK) (ys:=hr) (y':=(AN.mk ((Ap hr ((hd.length:Int)-1)).fPairs) ((Ap hr ((hd.length:Int)-1)).fLeft) ((Ap hr ((hd.length:Int)-1)).fKey) ((Ap hr ((hd.length:Int)-1)).fLast) true)) (i:=3) (j:=(hd.length:Int)-1) I9 Aa Aa (BD Aa) Aa (D0 hj hu) Aa Aa (H':=[.blk hf (Ab (Ap v hb)) 83,.blk b2 (Bd ha) 124,.blk b1 [At 0,At 0,rB false,rB false] 124,.row he 152 5 (A4 AK (List.set hr (B4 ((hd.length:Int)-1)) (AN.mk ((Ap hr ((hd.length:Int)-1)).fPairs) ((Ap hr ((hd.length:Int)-1)).fLeft) ((Ap hr ((hd.length:Int)-1)).fKey) ((Ap hr ((hd.length:Int)-1)).fLast) true)))]) Aa (bd gf λhs h1 gg=>?_)));rw[← h1];refine wv (r:=rv (E1 5 he (B4 ((hd.length:Int)-1)) 0)) (CR (k:=3) Aa (BO (D0 (D0 hj hu) h1)) Aa Aa) (wv (r:=rv (E1 5 he (B4 ((hd.length:Int)-1)) 2)) (EF (k:=3) Jo Aa I9 Aa (BO (D0 (D0 hj hu) h1)) Aa Aa Aa) (IH (enc:=AK) (ys:=hs) (y':=(AN.mk ((Ap hs ((hd.length:Int)-1)).fPairs) ((Ap hs ((hd.length:Int)-1)).fLeft) false ((Ap hs ((hd.length:Int)-1)).fLast) ((Ap hs ((hd.length:Int)-1)).fStarted))) (i:=3) (j:=(hd.length:Int)-1) I9 Aa Aa (BD Aa) Aa (D0 (D0 hj hu) h1) Aa Aa (H':=[.blk hf (Ab (Ap v hb)) 83,.blk b2 (Bd ha) 124,.blk b1 [At 0,At 0,rB false,rB false] 124,.row he 152 5 (A4 AK (List.set hs (B4 ((hd.length:Int)-1)) (AN.mk ((Ap hs ((hd.length:Int)-1)).fPairs) ((Ap hs ((hd.length:Int)-1)).fLeft) false ((Ap hs ((hd.length:Int)-1)).fLast) ((Ap hs ((hd.length:Int)-1)).fStarted))))]) Aa (bd gg λht gh gi=>?_)));rw[← gh];refine Av (An (ob gi λhl gj gl=>ck gl λgm gp=>Hk (H1:=[.blk hf (Ab (Ap v hb)) 83,.blk b2 [At ha.fDepth,At (IntKind.wrap .i64 (ha.fBytes+(hl+1))),rB ha.fOutside,rB ha.fLong] 124,.blk b1 [At 0,At 0,rB false,rB false] 124,.row he 152 5 (A4 AK ht)]) [0,3,5,6,8,11,12,13,38,39,40,41] [⟨[],rP b2 1,0⟩,⟨[0],At ha.fBytes,1⟩,⟨[],rP hf 2,0⟩,⟨[2],rS ((Ap v hb).fStr),1⟩,⟨[3],At hl,0⟩,⟨[4],At (hl+1),0⟩,⟨[1,5],At (IntKind.wrap .i64 (ha.fBytes+(hl+1))),0⟩,⟨[],rP b2 1,0⟩,⟨[7,6],rv undef,2⟩] (rle [(9,_),(1,[.blk hf (Ab (Ap v hb)) 83,.blk b2 [At ha.fDepth,At (IntKind.wrap .i64 (ha.fBytes+(hl+1))),rB ha.fOutside,rB ha.fLong] 124,.blk b1 [At 0,At 0,rB false,rB false] 124,.row he 152 5 (A4 AK ht)])]) [68,69,70,71,72,73,74,75,0,3,5,6,8,11,12,13,38,39,40,41] ?_ ?_))
       ·refine oq (A9 EJ Aa C6 Aa Aa) (of (AT (i:=1) CM Aa Aa Aa) (oq (A9 B9 Aa Cv Aa Aa) (of (AT (i:=0) CD Aa Aa Aa) (Hu Aa (λH=>Em Tryz.call115 (Pq ((Ap v hb).fStr) hl gj) Aa) ?_))));refine oq (Bz Aa Aa gm) (oq (Ta Aa Aa) (oq (A9 EJ Aa C6 Aa Aa) (JM Aa (Qz (KI (i:=1) C6 Aa Aa (BD Aa) Aa Aa (cs':=[At ha.fDepth,At (IntKind.wrap .i64 (ha.fBytes+(hl+1))),rB ha.fOutside,rB ha.fLong]) Aa (H':=[.blk hf (Ab (Ap v hb)) 83,.blk b2 [At ha.fDepth,At (IntKind.wrap .i64 (ha.fBytes+(hl+1))),rB ha.fOutside,rB ha.fLong] 124,.blk b1 [At 0,At 0,rB false,rB false] 124,.row he 152 5 (A4 AK ht)]) Aa)) ?_)));exact CN
       refine AP (AH [(0,AY 4 (A4 Ab v)),(3,rP b1 0),(5,rP b2 0),(6,rv he),(11,AY 4 (A4 Ab v)),(12,At (v.length:Int)),(13,At hb),(38,rP hf 0),(39,At ((Ap v hb).fKind)),(40,rB (!decide (((Ap v hb).fKind)=4))),(41,rB (!decide (((Ap v hb).fKind)=4))),(68,rP b2 1),(69,At ha.fBytes),(70,rP hf 2),(71,rS ((Ap v hb).fStr)),(72,At hl),(73,At (hl+1)),(74,At (IntKind.wrap .i64 (ha.fBytes+(hl+1)))),(75,rP b2 1)] [.blk hf (Ab (Ap v hb)) 83,.blk b2 [At ha.fDepth,At (IntKind.wrap .i64 (ha.fBytes+(hl+1))),rB ha.fOutside,rB (ha.fLong||(decide (200<(((Ap v hb).fStr).length:Int))))] 124,.blk b1 [At 0,At 0,rB false,rB false] 124,.row he 152 5 (A4 AK ht)] ?_ ?_)
       ·refine Ai (vF EJ Aa I9 (vL 1 U4 Aa (wm Aa (AO (ha.fLong) (λho=>?_) (λho=>?_)))))
        ·refine wf ho (wf ho (wf ho (wf ho (wv (r:=rB true) (A2 rfl ho rfl) (vF EJ rfl I9 (BA (i:=1) I9 rfl rfl (BD rfl) rfl rfl (cs':=[At ha.fDepth,At (IntKind.wrap .i64 (ha.fBytes+(hl+1))),rB ha.fOutside,rB true]) rfl (H':=[.blk hf (Ab (Ap v hb)) 83,.blk b2 [At ha.fDepth,At (IntKind.wrap .i64 (ha.fBytes+(hl+1))),rB ha.fOutside,rB true] 124,.blk b1 [At 0,At 0,rB false,rB false] 124,.row he 152 5 (A4 AK ht)]) rfl (Am (IB (H':=[.blk hf (Ab (Ap v hb)) 83,.blk b2 [At ha.fDepth,At (IntKind.wrap .i64 (ha.fBytes+(hl+1))),rB ha.fOutside,rB (ha.fLong||(decide (200<(((Ap v hb).fStr).length:Int))))] 124,.blk b1 [At 0,At 0,rB false,rB false] 124,.row he 152 5 (A4 AK ht)]) (by simp only[ho,Ab1,Ab6,AbD,Ab2,Ab8,Ab7,AbC,Ab9,Abw,Ab5,Ab0,Abu]) ?_))))))));exact wt
        ·refine wo ho (vF B9 rfl Cv (wo ho (vL 0 CD rfl (wo ho (wv (Bv Cu rfl) (wo ho (wv (CI rfl rfl) (E2 rfl ho rfl (vF EJ rfl I9 (BA (i:=1) I9 rfl rfl (BD rfl) rfl rfl (cs':=[At ha.fDepth,At (IntKind.wrap .i64 (ha.fBytes+(hl+1))),rB ha.fOutside,rB (decide (200<(((Ap v hb).fStr).length:Int)))]) rfl (H':=[.blk hf (Ab (Ap v hb)) 83,.blk b2 [At ha.fDepth,At (IntKind.wrap .i64 (ha.fBytes+(hl+1))),rB ha.fOutside,rB (decide (200<(((Ap v hb).fStr).length:Int)))] 124,.blk b1 [At 0,At 0,rB false,rB false] 124,.row he 152 5 (A4 AK ht)]) rfl (Am (IB (H':=[.blk hf (Ab (Ap v hb)) 83,.blk b2 [At ha.fDepth,At (IntKind.wrap .i64 (ha.fBytes+(hl+1))),rB ha.fOutside,rB (ha.fLong||(decide (200<(((Ap v hb).fStr).length:Int))))] 124,.blk b1 [At 0,At 0,rB false,rB false] 124,.row he 152 5 (A4 AK ht)]) (by simp only[ho,Ab1,Ab6,AbD,Ab2,Ab8,Ab7,AbC,Ab9,Abw,Ab5,Ab0,Abu]) ?_))))))))))));exact wt
       exact Bx (A6 (Bc (Aw (AI ((ht,(AU.mk ha.fDepth (IntKind.wrap .i64 (ha.fBytes+(hl+1))) ha.fOutside (ha.fLong||(decide (200<(((Ap v hb).fStr).length:Int)))))),he) gp (AL.c Aa (AL.c Aa (AL.c5 Aa Aa Aa Aa Aa AL.nil))) (sS (sC (sC (sC sN))))))))
     ·refine Ay (AP (Ak (vF EJ Aa C6 (vL 1 CM Aa (wm Aa (wv (Ch (ys:=hd) (enc:=AK) (i:=3) Jp Aa Aa) (ck hX λgq gr=>wv (Bz Aa Aa gq) (wv (Ze S8 Aa Aa) (vF EJ Aa C6 (BA (i:=1) C6 Aa Aa (BD Aa) Aa Aa (cs':=[At (max ha.fDepth ((hd.length:Int)+1)),At ha.fBytes,rB ha.fOutside,rB ha.fLong]) Aa (H':=[.blk hf (Ab (Ap v hb)) 83,.blk b2 [At (max ha.fDepth ((hd.length:Int)+1)),At ha.fBytes,rB ha.fOutside,rB ha.fLong] 124,.blk b1 [At 0,At 0,rB false,rB false] 124,.row he 152 5 (A4 AK hd)]) Aa (Av (An (ob gr λhg gs gt=>Hk (H1:=[.blk hf (Ab (Ap v hb)) 83,.blk b2 [At (max ha.fDepth ((hd.length:Int)+1)),At (IntKind.wrap .i64 (ha.fBytes+hg)),rB ha.fOutside,rB ha.fLong] 124,.blk b1 [At 0,At 0,rB false,rB false] 124,.row he 152 5 (A4 AK hd)]) [0,3,5,6,7,8,11,12,13] [⟨[],rP b2 1,0⟩,⟨[0],At ha.fBytes,1⟩,⟨[],BQ (Ab (Ap v hb)),1⟩,⟨[2],At hg,0⟩,⟨[1,3],At (IntKind.wrap .i64 (ha.fBytes+hg)),0⟩,⟨[],rP b2 1,0⟩,⟨[5,4],rv undef,2⟩] (rle [(7,_),(1,[.blk hf (Ab (Ap v hb)) 83,.blk b2 [At (max ha.fDepth ((hd.length:Int)+1)),At (IntKind.wrap .i64 (ha.fBytes+hg)),rB ha.fOutside,rB ha.fLong] 124,.blk b1 [At 0,At 0,rB false,rB false] 124,.row he 152 5 (A4 AK hd)])]) [92,93,94,95,96,97,0,3,5,6,7,8,11,12,13] ?_ ?_)))))))))))))
      ·refine oq (A9 EJ Aa C6 Aa Aa) (of (AT (i:=1) CM Aa Aa Aa) (of (Bf (i:=0) NF CC Aa Aa Aa Aa) (Hu Aa (λH=>Em Tryz.call116 (Ya (Ap v hb) hg gs) Aa) ?_)));refine oq (Ta Aa Aa) (oq (A9 EJ Aa C6 Aa Aa) (JM Aa (Qz (KI (i:=1) C6 Aa Aa (BD Aa) Aa Aa (cs':=[At (max ha.fDepth ((hd.length:Int)+1)),At (IntKind.wrap .i64 (ha.fBytes+hg)),rB ha.fOutside,rB ha.fLong]) Aa (H':=[.blk hf (Ab (Ap v hb)) 83,.blk b2 [At (max ha.fDepth ((hd.length:Int)+1)),At (IntKind.wrap .i64 (ha.fBytes+hg)),rB ha.fOutside,rB ha.fLong] 124,.blk b1 [At 0,At 0,rB false,rB false] 124,.row he 152 5 (A4 AK hd)]) Aa)) ?_));exact CN
      refine AP (ck gt λgu gv=>AH [(0,AY 4 (A4 Ab v)),(3,rP b1 0),(5,rP b2 0),(6,rv he),(7,At hb),(8,rP hf 0),(11,AY 4 (A4 Ab v)),(12,At (v.length:Int)),(13,At hb),(92,rP b2 1),(93,At ha.fBytes),(94,BQ (Ab (Ap v hb))),(95,At hg),(96,At (IntKind.wrap .i64 (ha.fBytes+hg))),(97,rP b2 1)] [.blk hf (Ab (Ap v hb)) 83,.blk b2 [At (max ha.fDepth ((hd.length:Int)+1)),At (IntKind.wrap .i64 (ha.fBytes+hg)),rB (ha.fOutside||((decide (((Ap v hb).fKind)=3))&&(!(ov (Ca ((Ap v hb).fInt)))))),rB ha.fLong] 124,.blk b1 [At 0,At 0,rB false,rB false] 124,.row he 152 5 (A4 AK hd)] ?_ ?_)
      ·refine Ai (vF EJ Aa I9 (vL 1 U4 Aa (wm Aa (AO (ha.fOutside) (λhm=>?_) (λhm=>?_)))))
       ·refine wf hm (wf hm (wf hm (wf hm (wu (wu (wu (wu (wf hm (wv (r:=rB true) (A2 rfl hm rfl) (vF EJ rfl I9 (BA (i:=1) I9 rfl rfl (BD rfl) rfl rfl (cs':=[At (max ha.fDepth ((hd.length:Int)+1)),At (IntKind.wrap .i64 (ha.fBytes+hg)),rB true,rB ha.fLong]) rfl (H':=[.blk hf (Ab (Ap v hb)) 83,.blk b2 [At (max ha.fDepth ((hd.length:Int)+1)),At (IntKind.wrap .i64 (ha.fBytes+hg)),rB true,rB ha.fLong] 124,.blk b1 [At 0,At 0,rB false,rB false] 124,.row he 152 5 (A4 AK hd)]) rfl (Am (IB (H':=[.blk hf (Ab (Ap v hb)) 83,.blk b2 [At (max ha.fDepth ((hd.length:Int)+1)),At (IntKind.wrap .i64 (ha.fBytes+hg)),rB (ha.fOutside||((decide (((Ap v hb).fKind)=3))&&(!(ov (Ca ((Ap v hb).fInt)))))),rB ha.fLong] 124,.blk b1 [At 0,At 0,rB false,rB false] 124,.row he 152 5 (A4 AK hd)]) (by simp only[hm,Ab1,Ab6,AbD,Ab2,Ab8,Ab7,AbC,Ab9,Abw,Ab5,Ab0,Abu]) ?_)))))))))))));exact wt
       ·refine wo hm (vF B9 Aa DC (wo hm (vL 0 DD Aa (wo hm (wv (B5 Aa Aa) (wo hm (wm Aa (AO (decide (((Ap v hb).fKind)=3)) (λhn=>?_) (λhn=>?_)))))))))
        ·refine wo hn (vF B9 rfl C6 (wo hn (vL 0 CM rfl (wo hn (CG Tryz.call117 (WW ((Ap v hb).fInt) (ov (Ca ((Ap v hb).fInt))) (E4 (Cr (CE gu hm) hn))) rfl (wo hn (wv (BE rfl) (wo hm (Er rfl hn rfl (E2 rfl hm rfl (vF EJ rfl I9 (BA (i:=1) I9 rfl rfl (BD rfl) rfl rfl (cs':=[At (max ha.fDepth ((hd.length:Int)+1)),At (IntKind.wrap .i64 (ha.fBytes+hg)),rB (!(ov (Ca ((Ap v hb).fInt)))),rB ha.fLong]) rfl (H':=[.blk hf (Ab (Ap v hb)) 83,.blk b2 [At (max ha.fDepth ((hd.length:Int)+1)),At (IntKind.wrap .i64 (ha.fBytes+hg)),rB (!(ov (Ca ((Ap v hb).fInt)))),rB ha.fLong] 124,.blk b1 [At 0,At 0,rB false,rB false] 124,.row he 152 5 (A4 AK hd)]) rfl (Am (IB (H':=[.blk hf (Ab (Ap v hb)) 83,.blk b2 [At (max ha.fDepth ((hd.length:Int)+1)),At (IntKind.wrap .i64 (ha.fBytes+hg)),rB (ha.fOutside||((decide (((Ap v hb).fKind)=3))&&(!(ov (Ca ((Ap v hb).fInt)))))),rB ha.fLong] 124,.blk b1 [At 0,At 0,rB false,rB false] 124,.row he 152 5 (A4 AK hd)]) (by simp only[hm,hn,Ab1,Ab6,AbD,Ab2,Ab8,Ab7,AbC,Ab9,Abw,Ab5,Ab0,Abu]) ?_))))))))))))));exact wt
        ·refine wf hn (wf hn (wf hn (wf hn (wo hm (wv (r:=rB false) (A8 rfl hn rfl) (E2 rfl hm rfl (vF EJ rfl I9 (BA (i:=1) I9 rfl rfl (BD rfl) rfl rfl (cs':=[At (max ha.fDepth ((hd.length:Int)+1)),At (IntKind.wrap .i64 (ha.fBytes+hg)),rB false,rB ha.fLong]) rfl (H':=[.blk hf (Ab (Ap v hb)) 83,.blk b2 [At (max ha.fDepth ((hd.length:Int)+1)),At (IntKind.wrap .i64 (ha.fBytes+hg)),rB false,rB ha.fLong] 124,.blk b1 [At 0,At 0,rB false,rB false] 124,.row he 152 5 (A4 AK hd)]) rfl (Am (IB (H':=[.blk hf (Ab (Ap v hb)) 83,.blk b2 [At (max ha.fDepth ((hd.length:Int)+1)),At (IntKind.wrap .i64 (ha.fBytes+hg)),rB (ha.fOutside||((decide (((Ap v hb).fKind)=3))&&(!(ov (Ca ((Ap v hb).fInt)))))),rB ha.fLong] 124,.blk b1 [At 0,At 0,rB false,rB false] 124,.row he 152 5 (A4 AK hd)]) (by simp only[hm,hn,Ab1,Ab6,AbD,Ab2,Ab8,Ab7,AbC,Ab9,Abw,Ab5,Ab0,Abu]) ?_))))))))));exact wt
      refine AH [(0,AY 4 (A4 Ab v)),(3,rP b1 0),(5,rP b2 0),(6,rv he),(7,At hb),(8,rP hf 0),(11,AY 4 (A4 Ab v)),(12,At (v.length:Int)),(13,At hb),(92,rP b2 1),(93,At ha.fBytes),(94,BQ (Ab (Ap v hb))),(95,At hg),(96,At (IntKind.wrap .i64 (ha.fBytes+hg))),(97,rP b2 1)] [.blk hf (Ab (Ap v hb)) 83,.blk b2 [At (max ha.fDepth ((hd.length:Int)+1)),At (IntKind.wrap .i64 (ha.fBytes+hg)),rB (ha.fOutside||((decide (((Ap v hb).fKind)=3))&&(!(ov (Ca ((Ap v hb).fInt)))))),rB (ha.fLong||(decide (200<(((Ap v hb).fStr).length:Int))))] 124,.blk b1 [At 0,At 0,rB false,rB false] 124,.row he 152 5 (A4 AK hd)] ?_ ?_
      ·refine Ai (vF EJ Aa I9 (vL 1 U4 Aa (wm Aa (AO (ha.fLong) (λhp=>?_) (λhp=>?_)))))
       ·refine wf hp (wf hp (wf hp (wf hp (wv (r:=rB true) (A2 rfl hp rfl) (vF EJ rfl I9 (BA (i:=1) I9 rfl rfl (BD rfl) rfl rfl (cs':=[At (max ha.fDepth ((hd.length:Int)+1)),At (IntKind.wrap .i64 (ha.fBytes+hg)),rB (ha.fOutside||((decide (((Ap v hb).fKind)=3))&&(!(ov (Ca ((Ap v hb).fInt)))))),rB true]) rfl (H':=[.blk hf (Ab (Ap v hb)) 83,.blk b2 [At (max ha.fDepth ((hd.length:Int)+1)),At (IntKind.wrap .i64 (ha.fBytes+hg)),rB (ha.fOutside||((decide (((Ap v hb).fKind)=3))&&(!(ov (Ca ((Ap v hb).fInt)))))),rB true] 124,.blk b1 [At 0,At 0,rB false,rB false] 124,.row he 152 5 (A4 AK hd)]) rfl (Am (IB (H':=[.blk hf (Ab (Ap v hb)) 83,.blk b2 [At (max ha.fDepth ((hd.length:Int)+1)),At (IntKind.wrap .i64 (ha.fBytes+hg)),rB (ha.fOutside||((decide (((Ap v hb).fKind)=3))&&(!(ov (Ca ((Ap v hb).fInt)))))),rB (ha.fLong||(decide (200<(((Ap v hb).fStr).length:Int))))] 124,.blk b1 [At 0,At 0,rB false,rB false] 124,.row he 152 5 (A4 AK hd)]) (by simp only[hp,Ab1,Ab6,AbD,Ab2,Ab8,Ab7,AbC,Ab9,Abw,Ab5,Ab0,Abu]) ?_))))))));exact wt
       ·refine wo hp (vF B9 rfl Cv (wo hp (vL 0 CD rfl (wo hp (wv (Bv Cu rfl) (wo hp (wv (CI rfl rfl) (E2 rfl hp rfl (vF EJ rfl I9 (BA (i:=1) I9 rfl rfl (BD rfl) rfl rfl (cs':=[At (max ha.fDepth ((hd.length:Int)+1)),At (IntKind.wrap .i64 (ha.fBytes+hg)),rB (ha.fOutside||((decide (((Ap v hb).fKind)=3))&&(!(ov (Ca ((Ap v hb).fInt)))))),rB (decide (200<(((Ap v hb).fStr).length:Int)))]) rfl (H':=[.blk hf (Ab (Ap v hb)) 83,.blk b2 [At (max ha.fDepth ((hd.length:Int)+1)),At (IntKind.wrap .i64 (ha.fBytes+hg)),rB (ha.fOutside||((decide (((Ap v hb).fKind)=3))&&(!(ov (Ca ((Ap v hb).fInt)))))),rB (decide (200<(((Ap v hb).fStr).length:Int)))] 124,.blk b1 [At 0,At 0,rB false,rB false] 124,.row he 152 5 (A4 AK hd)]) rfl (Am (IB (H':=[.blk hf (Ab (Ap v hb)) 83,.blk b2 [At (max ha.fDepth ((hd.length:Int)+1)),At (IntKind.wrap .i64 (ha.fBytes+hg)),rB (ha.fOutside||((decide (((Ap v hb).fKind)=3))&&(!(ov (Ca ((Ap v hb).fInt)))))),rB (ha.fLong||(decide (200<(((Ap v hb).fStr).length:Int))))] 124,.blk b1 [At 0,At 0,rB false,rB false] 124,.row he 152 5 (A4 AK hd)]) (by simp only[hp,Ab1,Ab6,AbD,Ab2,Ab8,Ab7,AbC,Ab9,Abw,Ab5,Ab0,Abu]) ?_))))))))))));exact wt
      refine An (Ak (vF B9 Aa C6 (vL 0 CM Aa (wv (CI Aa Aa) (Av (cz gv Aa (λgw gx=>?_) (λgw gy=>?_)))))))
      ·refine An (Ak (vF B9 Aa C6 (vL 0 CM Aa (wm Aa (wv (Bq (ys:=v) (enc:=Ab) Co Aa) (wv (CI Aa Aa) (Av (cz gx Aa (λgz g0=>?_) (λgz g1=>?_)))))))))
       ·refine An (Hk (H1:=[.blk hf (Ab (Ap v hb)) 83,.blk b2 [At (max ha.fDepth ((hd.length:Int)+1)),At (IntKind.wrap .i64 (ha.fBytes+hg)),rB (ha.fOutside||((decide (((Ap v hb).fKind)=3))&&(!(ov (Ca ((Ap v hb).fInt)))))),rB (ha.fLong||(decide (200<(((Ap v hb).fStr).length:Int))))] 124,.blk b1 [At (max ha.fDepth ((hd.length:Int)+1)),At (IntKind.wrap .i64 (ha.fBytes+hg)),rB (ha.fOutside||((decide (((Ap v hb).fKind)=3))&&(!(ov (Ca ((Ap v hb).fInt)))))),rB (ha.fLong||(decide (200<(((Ap v hb).fStr).length:Int))))] 124,.row he 152 5 (A4 AK hd)]) [3,5] [⟨[],BQ [At (max ha.fDepth ((hd.length:Int)+1)),At (IntKind.wrap .i64 (ha.fBytes+hg)),rB (ha.fOutside||((decide (((Ap v hb).fKind)=3))&&(!(ov (Ca ((Ap v hb).fInt)))))),rB (ha.fLong||(decide (200<(((Ap v hb).fStr).length:Int))))],1⟩,⟨[],At 0,0⟩,⟨[0],rv undef,2⟩,⟨[],rB false,0⟩] (rle [(3,_),(2,[.blk hf (Ab (Ap v hb)) 83,.blk b2 [At (max ha.fDepth ((hd.length:Int)+1)),At (IntKind.wrap .i64 (ha.fBytes+hg)),rB (ha.fOutside||((decide (((Ap v hb).fKind)=3))&&(!(ov (Ca ((Ap v hb).fInt)))))),rB (ha.fLong||(decide (200<(((Ap v hb).fStr).length:Int))))] 124,.blk b1 [At (max ha.fDepth ((hd.length:Int)+1)),At (IntKind.wrap .i64 (ha.fBytes+hg)),rB (ha.fOutside||((decide (((Ap v hb).fKind)=3))&&(!(ov (Ca ((Ap v hb).fInt)))))),rB (ha.fLong||(decide (200<(((Ap v hb).fStr).length:Int))))] 124,.row he 152 5 (A4 AK hd)])]) [2,4,3] ?_ ?_)
        ·refine of (Bf (i:=1) KN Gl Aa Aa Aa Aa) (oq (Az Aa) (JM Aa (Qz (E8 (i:=2) Gl Aa Aa Aa (Cq.c Aa) Aa Aa (cs':=[At (max ha.fDepth ((hd.length:Int)+1)),At (IntKind.wrap .i64 (ha.fBytes+hg)),rB (ha.fOutside||((decide (((Ap v hb).fKind)=3))&&(!(ov (Ca ((Ap v hb).fInt)))))),rB (ha.fLong||(decide (200<(((Ap v hb).fStr).length:Int))))]) Aa (H':=[.blk hf (Ab (Ap v hb)) 83,.blk b2 [At (max ha.fDepth ((hd.length:Int)+1)),At (IntKind.wrap .i64 (ha.fBytes+hg)),rB (ha.fOutside||((decide (((Ap v hb).fKind)=3))&&(!(ov (Ca ((Ap v hb).fInt)))))),rB (ha.fLong||(decide (200<(((Ap v hb).fStr).length:Int))))] 124,.blk b1 [At (max ha.fDepth ((hd.length:Int)+1)),At (IntKind.wrap .i64 (ha.fBytes+hg)),rB (ha.fOutside||((decide (((Ap v hb).fKind)=3))&&(!(ov (Ca ((Ap v hb).fInt)))))),rB (ha.fLong||(decide (200<(((Ap v hb).fStr).length:Int))))] 124,.row he 152 5 (A4 AK hd)]) Aa)) ?_));refine oq (Az Aa) ?_;exact CN
        refine AP (A1 (Ae (Ae (AC (Ae (Ae (Bj ?_)))))));have g2:=BB g0 hx hy;refine AC (Ae (Kc ?_));obtain rfl:=A5 g2;exact A0 (Wr VP (AM Aa) (Io (i:=2) KN Gl Aa Aa Aa) (AM Aa)) (sS (sS (sS (sS sN)))) ⟨Aa,Aa⟩
       ·refine Ay (AP (Ak (wm Aa (vF B9 Aa DC (vL 0 DD Aa (wv (B5 Aa Aa) (vF B9 Aa C6 (vL 0 CM Aa (vF B9 Aa DC (vL 0 DD Aa (wv (B5 Aa Aa) (wv (r:=BQ [rB (decide (((Ap v hb).fKind)=6)),At ((Ap v hb).fN),rB (decide (((Ap v hb).fKind)=6)),rS ([]:Al),rB false]) (My Aa Aa Aa Aa Aa Aa) (Bb (ys:=([(AN.mk (decide (((Ap v hb).fKind)=6)) ((Ap v hb).fN) (decide (((Ap v hb).fKind)=6)) ([]:Al) false)]:List AN)) (enc:=AK) (css:=[[rB (decide (((Ap v hb).fKind)=6)),At ((Ap v hb).fN),rB (decide (((Ap v hb).fKind)=6)),rS ([]:Al),rB false]]) (xs:=[.tmp 139]) Jp Rg Tryz.zeroValue152 Aa Aa Aa ⟨D1.agg ⟨Up.refl _,Up.refl _,Up.refl _,Up.refl _,Up.refl _,trivial⟩,trivial⟩ Aa Jx Aa Aa Aa (λg3=>?_))))))))))))));refine ck g1 λg4 g5=>Exists.elim Y8 λinf hinf=>Cb (xs:=hd) (ys:=([(AN.mk (decide (((Ap v hb).fKind)=6)) ((Ap v hb).fN) (decide (((Ap v hb).fKind)=6)) ([]:Al) false)]:List AN)) (enc:=AK) (i:=4) Jp hinf.1 hinf.2.1 hinf.2.2.1 hinf.2.2.2 Aa Aa Aa Aa Aa (If.w (i:=0) Aa Aa) Jx Nn g4 Aa (λh9=>?_);exact wa Aa (Av (Bx (A6 (Bc (BU (H2:=[.blk b2 [At (max ha.fDepth ((hd.length:Int)+1)),At (IntKind.wrap .i64 (ha.fBytes+hg)),rB (ha.fOutside||((decide (((Ap v hb).fKind)=3))&&(!(ov (Ca ((Ap v hb).fInt)))))),rB (ha.fLong||(decide (200<(((Ap v hb).fStr).length:Int))))] 124,.blk b1 [At 0,At 0,rB false,rB false] 124,.row h9 152 5 (A4 AK (hd++([(AN.mk (decide (((Ap v hb).fKind)=6)) ((Ap v hb).fN) (decide (((Ap v hb).fKind)=6)) ([]:Al) false)]:List AN))),.row (.slice (some ⟨g3,0,none⟩) 1 1) 152 5 (A4 AK ([(AN.mk (decide (((Ap v hb).fKind)=6)) ((Ap v hb).fN) (decide (((Ap v hb).fKind)=6)) ([]:Al) false)]:List AN)),.blk hf (Ab (Ap v hb)) 83]) ((As (i:=3) Aa).trans (Abp _ ((As (i:=3) Aa).trans (Abp _ (Abq _))))) (Aw (AI ((hd++([(AN.mk (decide (((Ap v hb).fKind)=6)) ((Ap v hb).fN) (decide (((Ap v hb).fKind)=6)) ([]:Al) false)]:List AN),(AU.mk (max ha.fDepth ((hd.length:Int)+1)) (IntKind.wrap .i64 (ha.fBytes+hg)) (ha.fOutside||((decide (((Ap v hb).fKind)=3))&&(!(ov (Ca ((Ap v hb).fInt)))))) (ha.fLong||(decide (200<(((Ap v hb).fStr).length:Int)))))),h9) g5 (AL.c Aa (AL.c Aa (AL.c5 Aa Aa Aa Aa Aa AL.nil))) (sC (sC (sC (sS (sS sN))))))))))))
      ·refine Ay (AP (Ak (wm Aa (ob gy λhw g6 g7=>DX (Hr:=[.blk hf (Ab (Ap v hb)) 83,.blk b2 [At (max ha.fDepth ((hd.length:Int)+1)),At (IntKind.wrap .i64 (ha.fBytes+hg)),rB (ha.fOutside||((decide (((Ap v hb).fKind)=3))&&(!(ov (Ca ((Ap v hb).fInt)))))),rB (ha.fLong||(decide (200<(((Ap v hb).fStr).length:Int))))] 124,.blk b1 [At 0,At 0,rB false,rB false] 124]) Tryz.call118 (UA F he hd hw g6) Aa ((As (i:=3) Aa).trans (Abp _ (Abq _))) Aa ?_))));rintro _ _ ⟨hz,rfl,rfl⟩;refine wa Aa (Bs (wm Aa (wv (Ch (ys:=hw) (enc:=AK) (i:=0) Jp Aa Aa) (wv (B5 Aa Aa) (Av (cz g7 Aa (λg8 g9=>?_) (λg8 gA=>?_)))))))
       ·refine An (ck g9 λgB gC=>Hk (H1:=[.row hz 152 5 (A4 AK hw),.blk hf (Ab (Ap v hb)) 83,.blk b2 [At (max ha.fDepth ((hd.length:Int)+1)),At (IntKind.wrap .i64 (ha.fBytes+hg)),rB (ha.fOutside||((decide (((Ap v hb).fKind)=3))&&(!(ov (Ca ((Ap v hb).fInt)))))),rB (ha.fLong||(decide (200<(((Ap v hb).fStr).length:Int))))] 124,.blk b1 [At (max ha.fDepth ((hd.length:Int)+1)),At (IntKind.wrap .i64 (ha.fBytes+hg)),rB (ha.fOutside||((decide (((Ap v hb).fKind)=3))&&(!(ov (Ca ((Ap v hb).fInt)))))),rB (ha.fLong||(decide (200<(((Ap v hb).fStr).length:Int))))] 124]) [3,5,7] [⟨[],At hb,0⟩,⟨[0],At (hb+1),0⟩,⟨[],BQ [At (max ha.fDepth ((hd.length:Int)+1)),At (IntKind.wrap .i64 (ha.fBytes+hg)),rB (ha.fOutside||((decide (((Ap v hb).fKind)=3))&&(!(ov (Ca ((Ap v hb).fInt)))))),rB (ha.fLong||(decide (200<(((Ap v hb).fStr).length:Int))))],1⟩,⟨[1],At (hb+1),0⟩,⟨[2],rv undef,2⟩,⟨[],rB true,0⟩] (rle [(5,_),(2,[.row hz 152 5 (A4 AK hw),.blk hf (Ab (Ap v hb)) 83,.blk b2 [At (max ha.fDepth ((hd.length:Int)+1)),At (IntKind.wrap .i64 (ha.fBytes+hg)),rB (ha.fOutside||((decide (((Ap v hb).fKind)=3))&&(!(ov (Ca ((Ap v hb).fInt)))))),rB (ha.fLong||(decide (200<(((Ap v hb).fStr).length:Int))))] 124,.blk b1 [At (max ha.fDepth ((hd.length:Int)+1)),At (IntKind.wrap .i64 (ha.fBytes+hg)),rB (ha.fOutside||((decide (((Ap v hb).fKind)=3))&&(!(ov (Ca ((Ap v hb).fInt)))))),rB (ha.fLong||(decide (200<(((Ap v hb).fStr).length:Int))))] 124])]) [2,4,3] ?_ ?_)
        ·refine oq (Aq Aa) (oq (Bz Aa Aa gB) (of (Bf (i:=2) KN Gl Aa Aa Aa Aa) (oq (Az Aa) (JM Aa (Qz (E8 (i:=3) Gl Aa Aa Aa (Cq.c Aa) Aa Aa (cs':=[At (max ha.fDepth ((hd.length:Int)+1)),At (IntKind.wrap .i64 (ha.fBytes+hg)),rB (ha.fOutside||((decide (((Ap v hb).fKind)=3))&&(!(ov (Ca ((Ap v hb).fInt)))))),rB (ha.fLong||(decide (200<(((Ap v hb).fStr).length:Int))))]) Aa (H':=[.row hz 152 5 (A4 AK hw),.blk hf (Ab (Ap v hb)) 83,.blk b2 [At (max ha.fDepth ((hd.length:Int)+1)),At (IntKind.wrap .i64 (ha.fBytes+hg)),rB (ha.fOutside||((decide (((Ap v hb).fKind)=3))&&(!(ov (Ca ((Ap v hb).fInt)))))),rB (ha.fLong||(decide (200<(((Ap v hb).fStr).length:Int))))] 124,.blk b1 [At (max ha.fDepth ((hd.length:Int)+1)),At (IntKind.wrap .i64 (ha.fBytes+hg)),rB (ha.fOutside||((decide (((Ap v hb).fKind)=3))&&(!(ov (Ca ((Ap v hb).fInt)))))),rB (ha.fLong||(decide (200<(((Ap v hb).fStr).length:Int))))] 124]) Aa)) ?_))));refine oq (Az Aa) ?_;exact CN
        refine AP (A1 (AC (Ae (Ae (Bj ?_)))));have gD:=BB gC hx hy;refine AC (Ae (Kc ?_));obtain rfl:=A5 gD;exact A0 (Wr VP (AM Aa) (Io (i:=3) KN Gl Aa Aa Aa) (AM Aa)) (sS (sS (sS (sS sN)))) ⟨Aa,Aa⟩
       ·exact Ay (AG (BU (H2:=[.blk b2 [At (max ha.fDepth ((hd.length:Int)+1)),At (IntKind.wrap .i64 (ha.fBytes+hg)),rB (ha.fOutside||((decide (((Ap v hb).fKind)=3))&&(!(ov (Ca ((Ap v hb).fInt)))))),rB (ha.fLong||(decide (200<(((Ap v hb).fStr).length:Int))))] 124,.blk b1 [At 0,At 0,rB false,rB false] 124,.row hz 152 5 (A4 AK hw),.blk hf (Ab (Ap v hb)) 83]) ((As (i:=2) Aa).trans (Abp _ ((As (i:=2) Aa).trans (Abp _ (Abq _))))) (Aw (AI ((hw,(AU.mk (max ha.fDepth ((hd.length:Int)+1)) (IntKind.wrap .i64 (ha.fBytes+hg)) (ha.fOutside||((decide (((Ap v hb).fKind)=3))&&(!(ov (Ca ((Ap v hb).fInt)))))) (ha.fLong||(decide (200<(((Ap v hb).fStr).length:Int)))))),hz) gA (AL.c Aa (AL.c Aa (AL.c5 Aa Aa Aa Aa Aa AL.nil))) (sC (sC (sC (sS sN))))))))
   ·rintro⟨⟨h6,h7⟩,h8⟩ h2;refine BW (l':=[(0,AY 4 (A4 Ab v)),(3,rP b1 0),(5,rP b2 0),(6,rv h8),(11,AY 4 (A4 Ab v)),(12,At (v.length:Int)),(13,At hb)]) (H':=[.blk b2 (Bd h7) 124,.blk b1 [At 0,At 0,rB false,rB false] 124,.row h8 152 5 (A4 AK h6)]) Aa Aa ?_;replace h2:E3 hb h6 h7=some h4:=h2;unfold E3 at h2;refine Ai (ck h2 λgE gF=>wv (Bz Aa Aa gE) (wm Aa (Am ?_)));have gG:=Bk gF hx;exact Aw (AI (hD,(h6,hb+1,h7),h8) ⟨gG,Aby _⟩ (AL.c Aa (AL.c Aa (AL.c5 Aa Aa Aa Aa Aa AL.nil))) (sC (sC (sC sN))))
  ·refine Bx (A6 ?_);have gH:=BX hH hx hy;exact A6 (Be (AI (ha,()) gH (AL.c Aa (AL.c Aa AL.nil)) (sC (sC (sS sN)))))
 ·rintro⟨hq,⟨⟩⟩ h3;refine Cy (l':=[(3,rP b1 0),(5,rP b2 0)]) (H':=[.blk b2 (Bd hq) 124,.blk b1 [At 0,At 0,rB false,rB false] 124]) Aa Aa ?_;replace h3:L3 hq=some r:=h3;unfold L3 at h3;refine Bc (AP (An (Hk (H1:=[.blk b2 (Bd hq) 124,.blk b1 (Bd hq) 124]) [3,5] [⟨[],BQ (Bd hq),1⟩,⟨[],At 0,0⟩,⟨[0],rv undef,2⟩,⟨[],rB false,0⟩] (rle [(3,_),(2,[.blk b2 (Bd hq) 124,.blk b1 (Bd hq) 124])]) [2,4,3] ?_ ?_)))
  ·refine of (Bf (i:=0) KN Gl Aa Aa Aa Aa) (oq (Az Aa) (JM Aa (Qz (E8 (i:=1) Gl Aa Aa Aa (Cq.c Aa) Aa Aa (cs':=[At hq.fDepth,At hq.fBytes,rB hq.fOutside,rB hq.fLong]) Aa (H':=[.blk b2 (Bd hq) 124,.blk b1 (Bd hq) 124]) Aa)) ?_));refine oq (Az Aa) ?_;exact CN
  refine AP (A1 (Kc ?_));obtain rfl:=A5 h3;exact A0 (Wr VP (AM Aa) (Io (i:=1) KN Gl Aa Aa Aa) (AM Aa)) (sS (sS sN)) ⟨Aa,Aa⟩
theorem JF (F:Nat)(v:(List Ac))(r:Int)(h:IG F v=some r):Fn Tryz.prog GE 55 [AY 4 (A4 Ab v)] [] (λR H=>R=At r∧H=[]):=by
 refine enter (n:=42) Tryz.func55 Aa Tryz.ntmps55 Aa (λw Z=>?_);unfold IG at h;refine Ak (wa Aa (Bs (wm Aa (ob h λr1 e3 h2=>CG Tryz.call89 (Qd F v r1 e3) Aa (wm Aa (wv (AA Aa Aa) (wv (AA Aa Aa) (wv (AA Aa Aa) (Cc (cs:=[At 0,At 0,rB false,rB false]) Re Aa Aa (λb4=>?_))))))))));refine wa Aa (Br (i:=0) Gl Aa Aa Aa (Cq.c Aa) Aa Aa (cs':=[At r1.2.1.fDepth,At r1.2.1.fBytes,rB r1.2.1.fOutside,rB r1.2.1.fLong]) Aa (H':=[.blk b4 (Bd r1.2.1) 124]) Aa (wa Aa (Av (An (AJ (AH [(0,AY 4 (A4 Ab v)),(4,rP b4 0),(12,rB ((!r1.2.2)||(!decide (r1.1=(v.length:Int)))))] [.blk b4 (Bd r1.2.1) 124] ?_ ?_))))))
 ·refine Ai (wm Aa (wv (BE Aa) (wm Aa (AO (!r1.2.2) (λc5=>?_) (λc5=>?_)))))
  ·refine wf c5 (wf c5 (wf c5 (wf c5 (wv (r:=rB true) (A2 Aa c5 Aa) (wa Aa (Am ?_))))));exact BV c5
  ·refine wo c5 (wm Aa (wo c5 (wm Aa (wo c5 (wv (Bq (ys:=v) (enc:=Ab) Co Aa) (wo c5 (wv (BT Aa Aa) (E2 Aa c5 Aa (wa Aa (Am ?_))))))))));exact BV c5
 refine cz h2 Aa (λc6 h7=>?_) (λc6 h8=>?_)
 ·refine Ak (wa Aa (Av (A1 (AC (Ae ?_)))));obtain rfl:=A5 h7;exact A0 (BJ XS (AM Aa)) (sS sN) ⟨Aa,Aa⟩
 ·refine Ak (vF EJ Aa I9 (vL 0 U4 Aa (wa Aa (Av (cz h8 Aa (λc9 he=>?_) (λc9 hf=>?_))))))
  ·refine Ak (wa Aa (Av (A1 (AC (Ae ?_)))));obtain rfl:=A5 he;exact A0 (BJ XS (AM Aa)) (sS sN) ⟨Aa,Aa⟩
  ·refine AH [(24,rB (r1.2.1.fLong||((decide (200<(v.length:Int)))||((decide (8<r1.2.1.fDepth))||(decide (4000<r1.2.1.fBytes))))))] [] ?_ ?_
   ·refine Ai (vF EJ Aa I9 (vL 0 U4 Aa (wm Aa (AO (r1.2.1.fLong) (λha=>?_) (λha=>?_)))))
    ·refine wf ha (wf ha (wf ha (wv (r:=rB true) (A2 Aa ha Aa) (wm Aa (wz Aa Aa (wz Aa Aa (wz Aa Aa (wv (r:=rB true) (A2 (b:=true) Aa Aa Aa) (wm Aa (wz Aa Aa (wz Aa Aa (wz Aa Aa (wv (r:=rB true) (A2 (b:=true) Aa Aa Aa) (wa Aa (Am ?_)))))))))))))));exact BV ha
    ·refine wo ha (wm Aa (wo ha (wv (Bq (ys:=v) (enc:=Ab) Co Aa) (wo ha (wv (CI Aa Aa) (E2 Aa ha Aa (wm Aa (AO (decide (200<(v.length:Int))) (λhb=>?_) (λhb=>?_)))))))))
     ·refine wf hb (wf hb (wf hb (wv (r:=rB true) (A2 Aa hb Aa) (wm Aa (wz Aa Aa (wz Aa Aa (wz Aa Aa (wv (r:=rB true) (A2 (b:=true) Aa Aa Aa) (wa Aa (Am ?_))))))))));exact BV (And.intro ha hb)
     ·refine wo hb (vF EJ Aa C6 (wo hb (vL 0 CM Aa (wo hb (wv (CI Aa Aa) (E2 Aa hb Aa (wm Aa (AO (decide (8<r1.2.1.fDepth)) (λhd=>?_) (λhd=>?_)))))))))
      ·refine wf hd (wf hd (wf hd (wv (r:=rB true) (A2 Aa hd Aa) (wa Aa (Am ?_)))));exact BV (And.intro ha (And.intro hb hd))
      ·refine wo hd (vF EJ Aa C6 (wo hd (vL 0 CM Aa (wo hd (wv (CI Aa Aa) (E2 Aa hd Aa (wa Aa (Am ?_))))))));exact BV (And.intro ha (And.intro hb hd))
   refine cz hf Aa (λhg hh=>?_) (λhg hi=>?_)
   ·refine Ak (wa Aa (Av (A1 (AC (Ae ?_)))));obtain rfl:=A5 hh;exact A0 (BJ XS (AM Aa)) sN ⟨Aa,Aa⟩
   ·refine Ay (AG (AP (Ak (wa Aa (Av (A1 ?_))))));obtain rfl:=A5 hi;exact A0 (BJ XS (AM Aa)) sN ⟨Aa,Aa⟩
theorem SM (F:Nat)(v:(List Ac))(r:(List Ac)×Int)(h:NW F v=some r):Fn Tryz.prog GE 126 [AY 4 (A4 Ab v)] [] (λR H=>R=C7 [AY 4 (A4 Ab r.1),At r.2]∧H=[]):=by
 refine enter (n:=11) Tryz.func126 Aa Tryz.ntmps126 Aa (λw Z=>?_);unfold NW at h;refine Ak (wa Aa (wa Aa (Av (An (Ak (wm Aa (ob h λr1 e3 h2=>CG VS (JF F v r1 e3) Aa (wa Aa (Bs (wm Aa (wv (BT Aa Aa) (Av (cz h2 Aa (λc4 h5=>?_) (λc4 h6=>?_))))))))))))))
 ·refine Ak (wm Aa (wa Aa (wa Aa (Av (A1 (Ae (WK.up (d:=2) (r:=AY 4 (A4 Ab ([]:List Ac))) Aa (Up.le (KZ.nil _)) ?_)))))));obtain rfl:=A5 h5;exact A0 (DJ Tryz.results126 (AM Aa) (AM Aa)) sN ⟨Aa,Aa⟩
 ·refine Ay (AP (Ak (wm Aa (wa Aa (wa Aa (Av (A1 ?_)))))));obtain rfl:=A5 h6;exact A0 (DJ Tryz.results126 (AM Aa) (AM Aa)) sN ⟨Aa,Aa⟩
end Go.Proofs.YtfobhhegpkinaaaGreatDoor.Q
namespace Go.Proofs.YtfobhhegpkinaaaGreatDoor
open Go
set_option linter.unusedVariables false
def DI (s:Al)(ha:Int)(hb:Al):Option (Stp (Int×Al) (Out (Al) (Al))):=
 B2 (decide (ha<(s.length:Int))) (Ba (CP ha (s.length:Int))<|B2 (((decide ((B1 s ha)=34))||(decide ((B1 s ha)=92)))) (Ba (CX 1 (hb.length+1))<|Ba (BF .u8 92)<|Ls (hb++[UInt8.ofNat (Int.toNat 92)]) λhd=>Ba (CX 1 (hd.length+1))<|Ba (BF .u8 (B1 s ha))<|Ls (hd++[UInt8.ofNat (Int.toNat (B1 s ha))]) λhe=>Ba (BF .i64 (ha+1))<|some (.next (ha+1,he))) (Ba (CX 1 (hb.length+1))<|Ba (BF .u8 (B1 s ha))<|Ls (hb++[UInt8.ofNat (Int.toNat (B1 s ha))]) λhf=>Ba (BF .i64 (ha+1))<|some (.next (ha+1,hf)))) (some (.out (.go hb)))
def EL (ha:Al):Option (Al):=
 Ba (CX 1 (ha.length+1))<|Ls (ha++[UInt8.ofNat (Int.toNat 34)]) λhb=>some hb
def Lf (F:Nat)(l:Al)(s:Al):Option (Al):=
 Ba (CX 1 (l.length+1))<|Ba (BF .u8 34)<|Ls (l++[UInt8.ofNat (Int.toNat 34)]) λr6=>B3 (Ci (λσ=>DI s σ.1 σ.2) F (0,r6)) (BS λν=>EL ν)
def Kh (F:Nat)(hm:Al→(List Ac)→Bool→Al→Ac→Option (Bool×Bool×Al))(ha:(List Ac)→Bool→Al→Ac→Option (Bool×Al))(l:Al)(v:(List Ac)):Option (Al):=
 Ba (CP 0 (v.length:Int))<|B2 (decide (((Ap v 0).fKind)=1)) (Ba (CX 1 (l.length+([110,117,108,108]:Al).length))<|Ls (l++([110,117,108,108]:Al)) λhe=>some he) (B2 (decide (((Ap v 0).fKind)=2)) (Ba (CP ((Ap v 0).fInt) (([([102,97,108,115,101]:Al),([116,114,117,101]:Al)]:List Al).length:Int))<|Ba (CX 1 (l.length+(Ap ([([102,97,108,115,101]:Al),([116,114,117,101]:Al)]:List Al) ((Ap v 0).fInt)).length))<|Ls (l++(Ap ([([102,97,108,115,101]:Al),([116,114,117,101]:Al)]:List Al) ((Ap v 0).fInt))) λhf=>some hf) (B2 (decide (((Ap v 0).fKind)=3)) (Ba (BF .i64 ((Ap v 0).fInt))<|Ba (CX 1 (l.length+(Lib.itoa ((Ap v 0).fInt)).length))<|Ls (l++(Lib.itoa ((Ap v 0).fInt))) λhg=>some hg) (B2 (decide (((Ap v 0).fKind)=4)) (B3 (Lf F l ((Ap v 0).fStr)) λhh=>some hh) (B2 (decide (((Ap v 0).fKind)=6)) (Ba (CP 0 (([123,125]:Al).length:Int))<|Ba (CX 1 (l.length+1))<|Ba (BF .u8 (B1 ([123,125]:Al) 0))<|Ls (l++[UInt8.ofNat (Int.toNat (B1 ([123,125]:Al) 0))]) λhi=>B3 (ha v true hi (Ap v 0)) λhb=>Ba (CP 1 (([123,125]:Al).length:Int))<|Ba (CX 1 (hb.2.length+1))<|Ba (BF .u8 (B1 ([123,125]:Al) 1))<|Ls (hb.2++[UInt8.ofNat (Int.toNat (B1 ([123,125]:Al) 1))]) λhj=>some hj) (Ba (CP 0 (([91,93]:Al).length:Int))<|Ba (CX 1 (l.length+1))<|Ba (BF .u8 (B1 ([91,93]:Al) 0))<|Ls (l++[UInt8.ofNat (Int.toNat (B1 ([91,93]:Al) 0))]) λhk=>B3 (ha v true hk (Ap v 0)) λhd=>Ba (CP 1 (([91,93]:Al).length:Int))<|Ba (CX 1 (hd.2.length+1))<|Ba (BF .u8 (B1 ([91,93]:Al) 1))<|Ls (hd.2++[UInt8.ofNat (Int.toNat (B1 ([91,93]:Al) 1))]) λhl=>some hl)))))
def Lw (F:Nat)(ha:Al→(List Ac)→Option (Al))(key:Al)(x:(List Ac))(first:Bool)(l:Al)(c:Ac):Option (Bool×Bool×Al):=
 B2 (!first) (Ba (CX 1 (l.length+1))<|Ba (BF .u8 44)<|Ls (l++[UInt8.ofNat (Int.toNat 44)]) λr8=>B2 (decide (c.fKind=6)) (B3 (Lf F r8 key) λhb=>Ba (CX 1 (hb.length+1))<|Ba (BF .u8 58)<|Ls (hb++[UInt8.ofNat (Int.toNat 58)]) λhe=>B3 (ha he x) λhf=>some (true,false,hf)) (B3 (ha r8 x) λhg=>some (true,false,hg))) (B2 (decide (c.fKind=6)) (B3 (Lf F l key) λhd=>Ba (CX 1 (hd.length+1))<|Ba (BF .u8 58)<|Ls (hd++[UInt8.ofNat (Int.toNat 58)]) λhh=>B3 (ha hh x) λhi=>some (true,false,hi)) (B3 (ha l x) λhj=>some (true,false,hj)))
def DP (F:Nat)(v:(List Ac))(c:Ac)(hj:Al→(List Ac)→Bool→Al→Ac→Option (Bool×Bool×Al))(ha:Int)(hb:Int)(hh:Bool)(hi:Al):Option (Stp (Int×Int×Bool×Al) (Out (Bool×Al) (Bool×Al))):=
 B2 (decide (hb<((Ap v 0).fN))) (B2 (decide (((Ap v 0).fKind)=6)) (Ba (CP ha (v.length:Int))<|Ba (BF .i64 (ha+1))<|Ba (E5 (ha+1) (v.length:Int))<|B3 (Jr F (List.drop (Int.toNat (ha+1)) v)) λhd=>Ba (BF .i64 ((ha+1)+hd.1))<|Ba (E5 (ha+1) ((ha+1)+hd.1))<|Ba (E5 ((ha+1)+hd.1) (v.length:Int))<|B3 (hj ((Ap v ha).fStr) (List.take (Int.toNat ((ha+1)+hd.1)-Int.toNat (ha+1)) (List.drop (Int.toNat (ha+1)) v)) hh hi c) λhe=>B2 (!he.1) (some (.out (.ret (he.2.1,he.2.2)))) (Ba (BF .i64 (hb+1))<|some (.next ((ha+1)+hd.1,hb+1,he.2.1,he.2.2)))) (Ba (E5 ha (v.length:Int))<|B3 (Jr F (List.drop (Int.toNat ha) v)) λhf=>Ba (BF .i64 (ha+hf.1))<|Ba (E5 ha (ha+hf.1))<|Ba (E5 (ha+hf.1) (v.length:Int))<|B3 (hj ([]:Al) (List.take (Int.toNat (ha+hf.1)-Int.toNat ha) (List.drop (Int.toNat ha) v)) hh hi c) λhg=>B2 (!hg.1) (some (.out (.ret (hg.2.1,hg.2.2)))) (Ba (BF .i64 (hb+1))<|some (.next (ha+hf.1,hb+1,hg.2.1,hg.2.2))))) (some (.out (.go (hh,hi))))
def Hm (ha:Bool)(hb:Al):Option (Bool×Al):=
 some (ha,hb)
def Ih (F:Nat)(ha:Al→(List Ac)→Bool→Al→Ac→Option (Bool×Bool×Al))(v:(List Ac))(first:Bool)(l:Al)(c:Ac):Option (Bool×Al):=
 Ba (CP 0 (v.length:Int))<|B3 (Ci (λσ=>DP F v c ha σ.1 σ.2.1 σ.2.2.1 σ.2.2.2) F (1,0,first,l)) (BS λν=>Hm ν.1 ν.2)
mutual
def Gq:Nat→Al→(List Ac)→Option (Al)
 | 0,_,_=>none
 | nn+1,l,v=>Kh nn (EB nn) (GP nn) l v
def EB:Nat→Al→(List Ac)→Bool→Al→Ac→Option (Bool×Bool×Al)
 | 0,_,_,_,_,_=>none
 | nn+1,key,x,first,l,c=>Lw nn (Gq nn) key x first l c
def GP:Nat→(List Ac)→Bool→Al→Ac→Option (Bool×Al)
 | 0,_,_,_,_=>none
 | nn+1,v,first,l,c=>Ih nn (EB nn) v first l c
end
def L4 (F:Nat)(v:(List Ac)):Option (Al×Int):=
 B3 (IG F v) λr1=>B2 (!decide (r1=0)) (some (([]:Al),r1)) (B3 (Gq F ([]:Al) v) λr8=>Ba (decide (0<r8.length))<|some (r8,0))
end Go.Proofs.YtfobhhegpkinaaaGreatDoor
