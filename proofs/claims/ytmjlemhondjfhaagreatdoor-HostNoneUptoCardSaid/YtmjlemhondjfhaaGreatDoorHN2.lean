/-
  Texts of the proof, put together: ShelfN, FwG, Row, IdA, PlB, IdB, PlC, IdC, ShelfV, PlD, PlE, FwJ, IdR, TzL, QG, QO, RowQ, QOb, Q0, PQB, WQB, PVa, WVa, PVb, WVb, PVc, WVc, PVd, WVd, PVe, WVe, PVf, WVf, PM, PH, PHa, QH, QY, Q7, QU, QT, QN.
-/
import Derived.Test.YtmjlemhondjfhaaGreatDoorHN1
import Derived.Shelf.Strconv.Itoa3
import Derived.Shelf.LaysM
import Derived.Shelf.LaysC
import Derived.Shelf.Strconv.AtoiAll
import Derived.Shelf.Strconv.ErrVarAll
import Derived.Test.YtmjlemhondjfhaaGreatDoorProg
import Derived.Lib.SmallJoins
import Derived.Lib.AppendIntMem
import Derived.Lib.TrailingZeros
import Derived.Lib.LaidTab
import Derived.Test.YtmjlemhondjfhaaGreatDoorCards
import Derived.Test.YtmjlemhondjfhaaGreatDoorTie
import Derived.Carry
import Derived.ChangeSame
import Derived.ProofKit
import Derived.OpenShut
import Derived.Deep.DeepHandedRow
import Derived.Deep.DeepWitnessRowRef
import Derived.Lib.LaidIn
import Derived.Stop.LaidErr
import Derived.Lib.Bytealg
import Derived.Lib.AtoiAllCases
import Derived.Lib.ItoaNum
import Derived.Lib.ItoaLen
import Derived.Shelf.Strings.Builder1
import Derived.Shelf.Strings.Count
import Derived.Shelf.Strings.Search1
import Derived.Shelf.Strings.Search2
import Derived.Shelf.Strings.Search3
import Derived.Shelf.Small.Strs
import Derived.Lib.ItoaMem
import Derived.Shelf.Lays7
import Derived.Shelf.Spec.TrailingZeros
import Derived.Deep.Slices
import Derived.ChangeArms
import Derived.DataReads
import Derived.Test.YtmjlemhondjfhaaGreatDoorRows
import Derived.Laws.Tables
import Derived.Laws.StructEq
import GoSem.Op.IntBits
import GoSem.Op.Shift
import Derived.Laws.Cover3
namespace Go.Proofs
open Go.Shelf
def Tryz.laysM171_ren:Go.Shelf.Ren:=⟨fun | 171=>122 | 243=>172 | 246=>200 | 283=>225 | 284=>226 | 285=>227 | 286=>228 | 129=>197 | 317=>240 | 318=>241 | 319=>242 | 320=>243 | 337=>247 | 338=>248 | n=>n,fun | 3=>3 | 9=>9 | 2=>2 | 4=>4 | 171=>250 | 0=>0 | 53=>231 | 37=>175 | 5=>5 | 173=>252 | 212=>266 | 51=>229 | 20=>20 | 213=>267 | 46=>196 | 232=>276 | 233=>277 | n=>n,fun | 17=>3 | 18=>6 | 19=>7 | n=>n⟩
theorem Tryz.laysM171:Go.Proofs.LaysM.n171 Tryz.prog Tryz.laysM171_ren:={
 mixed:=by kernel_rfl
 f129:=Tryz.func197.trans (congrArg some (by kernel_rfl))
 f171:=Tryz.func122.trans (congrArg some (by kernel_rfl))
 f243:=Tryz.func172.trans (congrArg some (by kernel_rfl))
 f246:=Tryz.func200.trans (congrArg some (by kernel_rfl))
 f283:=Tryz.func225.trans (congrArg some (by kernel_rfl))
 f284:=Tryz.func226.trans (congrArg some (by kernel_rfl))
 f285:=Tryz.func227.trans (congrArg some (by kernel_rfl))
 f286:=Tryz.func228.trans (congrArg some (by kernel_rfl))
 f317:=Tryz.func240.trans (congrArg some (by kernel_rfl))
 f318:=Tryz.func241.trans (congrArg some (by kernel_rfl))
 f319:=Tryz.func242.trans (congrArg some (by kernel_rfl))
 f320:=Tryz.func243.trans (congrArg some (by kernel_rfl))
 f337:=Tryz.func247.trans (congrArg some (by kernel_rfl))
 f338:=Tryz.func248.trans (congrArg some (by kernel_rfl))
 t0:=Tryz.underlying0
 a0:=Tryz.isAgg0
 z0:=Tryz.sizeOf0
 v0:=Tryz.zeroValue0
 t2:=Tryz.underlying2
 a2:=Tryz.isAgg2
 z2:=Tryz.sizeOf2
 v2:=Tryz.zeroValue2
 t3:=Tryz.underlying3
 a3:=Tryz.isAgg3
 z3:=Tryz.sizeOf3
 v3:=Tryz.zeroValue3
 t4:=Tryz.underlying4
 a4:=Tryz.isAgg4
 z4:=Tryz.sizeOf4
 v4:=Tryz.zeroValue4
 t5:=Tryz.underlying5
 a5:=Tryz.isAgg5
 z5:=Tryz.sizeOf5
 v5:=Tryz.zeroValue5
 t9:=Tryz.underlying9
 a9:=Tryz.isAgg9
 z9:=Tryz.sizeOf9
 v9:=Tryz.zeroValue9
 t20:=Tryz.underlying20
 a20:=Tryz.isAgg20
 z20:=Tryz.sizeOf20
 v20:=Tryz.zeroValue20
 t37:=Tryz.underlying175
 a37:=Tryz.isAgg175
 z37:=Tryz.sizeOf175
 v37:=Tryz.zeroValue175
 t46:=Tryz.underlying196
 a46:=Tryz.isAgg196
 z46:=Tryz.sizeOf196
 v46:=Tryz.zeroValue196
 t51:=Tryz.underlying229
 a51:=Tryz.isAgg229
 z51:=Tryz.sizeOf229
 v51:=Tryz.zeroValue229
 t53:=Tryz.underlying231
 a53:=Tryz.isAgg231
 z53:=Tryz.sizeOf231
 v53:=Tryz.zeroValue231
 t171:=Tryz.underlying250
 a171:=Tryz.isAgg250
 z171:=Tryz.sizeOf250
 v171:=Tryz.zeroValue250
 t173:=Tryz.underlying252
 a173:=Tryz.isAgg252
 z173:=Tryz.sizeOf252
 v173:=Tryz.zeroValue252
 t212:=Tryz.underlying266
 a212:=Tryz.isAgg266
 z212:=Tryz.sizeOf266
 v212:=Tryz.zeroValue266
 t213:=Tryz.underlying267
 a213:=Tryz.isAgg267
 z213:=Tryz.sizeOf267
 t232:=Tryz.underlying276
 a232:=Tryz.isAgg276
 z232:=Tryz.sizeOf276
 v232:=Tryz.zeroValue276
 t233:=Tryz.underlying277
 a233:=Tryz.isAgg277
 z233:=Tryz.sizeOf277
 v233:=Tryz.zeroValue277
 g17:=by kernel_rfl
 g18:=by kernel_rfl
 g19:=by kernel_rfl
 i0:=by kernel_rfl
 i2:=by kernel_rfl
 i3:=by kernel_rfl
 i4:=by kernel_rfl
 i5:=by kernel_rfl
 i9:=by kernel_rfl
 i20:=by kernel_rfl
 i37:=by kernel_rfl
 i46:=by kernel_rfl
 i51:=by kernel_rfl
 i53:=by kernel_rfl
 i171:=by kernel_rfl
 i173:=by kernel_rfl
 i212:=by kernel_rfl
 i232:=by kernel_rfl
 i233:=by kernel_rfl
 m17:=by kernel_rfl
 m18:=by kernel_rfl
 m19:=by kernel_rfl }
open Go.RowKit Go.Sort Go.Lib in
theorem Tryz.strconv_Itoa (n : Int) (h0 : -9223372036854775808 ≤ n) (h1 : n ≤ 9223372036854775807) (w : World) (htab : Lib.TabIs Tryz.prog w "internal/strconv.uint64pow10" .u64 Lib.pow10Tab) :
  Calls Tryz.prog 122 #[.int .i64 n] w λe w'=>e = .returned (.string ⟨(Lib.itoa n).toArray⟩)∧∃k os,w'=grow (w.drewN k) os:=Any.strconv_Itoa Tryz.laysM171 n h0 h1 w htab
def Tryz.laysC172_ren:Go.Shelf.Ren:=⟨fun | 172=>147 | 244=>182 | 245=>183 | 247=>212 | 279=>213 | 280=>214 | 281=>215 | 282=>216 | 287=>234 | 316=>235 | 171=>122 | 205=>236 | 321=>245 | 322=>246 | 243=>172 | 246=>200 | 283=>225 | 284=>226 | 285=>227 | 286=>228 | 129=>197 | 317=>240 | 318=>241 | 319=>242 | 320=>243 | 337=>247 | 338=>248 | n=>n,fun | 9=>9 | 3=>3 | 75=>198 | 76=>199 | 4=>4 | 5=>5 | 167=>236 | 37=>175 | 0=>0 | 85=>237 | 2=>2 | 168=>239 | 53=>231 | 175=>258 | 46=>196 | 210=>261 | 127=>213 | 145=>271 | 143=>269 | 21=>21 | 171=>250 | 173=>252 | 212=>266 | 51=>229 | 20=>20 | 213=>267 | 232=>276 | 233=>277 | 80=>179 | n=>n,fun | 15=>1 | 16=>2 | 17=>3 | 18=>6 | 19=>7 | n=>n⟩
theorem Tryz.laysC172:Go.Proofs.LaysC.n172 Tryz.prog Tryz.laysC172_ren:={
 mixed:=by kernel_rfl
 f129:=Tryz.func197.trans (congrArg some (by kernel_rfl))
 f171:=Tryz.func122.trans (congrArg some (by kernel_rfl))
 f172:=Tryz.func147.trans (congrArg some (by kernel_rfl))
 f205:=Tryz.func236.trans (congrArg some (by kernel_rfl))
 f243:=Tryz.func172.trans (congrArg some (by kernel_rfl))
 f244:=Tryz.func182.trans (congrArg some (by kernel_rfl))
 f245:=Tryz.func183.trans (congrArg some (by kernel_rfl))
 f246:=Tryz.func200.trans (congrArg some (by kernel_rfl))
 f247:=Tryz.func212.trans (congrArg some (by kernel_rfl))
 f279:=Tryz.func213.trans (congrArg some (by kernel_rfl))
 f280:=Tryz.func214.trans (congrArg some (by kernel_rfl))
 f281:=Tryz.func215.trans (congrArg some (by kernel_rfl))
 f282:=Tryz.func216.trans (congrArg some (by kernel_rfl))
 f283:=Tryz.func225.trans (congrArg some (by kernel_rfl))
 f284:=Tryz.func226.trans (congrArg some (by kernel_rfl))
 f285:=Tryz.func227.trans (congrArg some (by kernel_rfl))
 f286:=Tryz.func228.trans (congrArg some (by kernel_rfl))
 f287:=Tryz.func234.trans (congrArg some (by kernel_rfl))
 f316:=Tryz.func235.trans (congrArg some (by kernel_rfl))
 f317:=Tryz.func240.trans (congrArg some (by kernel_rfl))
 f318:=Tryz.func241.trans (congrArg some (by kernel_rfl))
 f319:=Tryz.func242.trans (congrArg some (by kernel_rfl))
 f320:=Tryz.func243.trans (congrArg some (by kernel_rfl))
 f321:=Tryz.func245.trans (congrArg some (by kernel_rfl))
 f322:=Tryz.func246.trans (congrArg some (by kernel_rfl))
 f337:=Tryz.func247.trans (congrArg some (by kernel_rfl))
 f338:=Tryz.func248.trans (congrArg some (by kernel_rfl))
 t0:=Tryz.underlying0
 a0:=Tryz.isAgg0
 z0:=Tryz.sizeOf0
 v0:=Tryz.zeroValue0
 t2:=Tryz.underlying2
 a2:=Tryz.isAgg2
 z2:=Tryz.sizeOf2
 v2:=Tryz.zeroValue2
 t3:=Tryz.underlying3
 a3:=Tryz.isAgg3
 z3:=Tryz.sizeOf3
 v3:=Tryz.zeroValue3
 t4:=Tryz.underlying4
 a4:=Tryz.isAgg4
 z4:=Tryz.sizeOf4
 v4:=Tryz.zeroValue4
 t5:=Tryz.underlying5
 a5:=Tryz.isAgg5
 z5:=Tryz.sizeOf5
 v5:=Tryz.zeroValue5
 t9:=Tryz.underlying9
 a9:=Tryz.isAgg9
 z9:=Tryz.sizeOf9
 v9:=Tryz.zeroValue9
 t20:=Tryz.underlying20
 a20:=Tryz.isAgg20
 z20:=Tryz.sizeOf20
 v20:=Tryz.zeroValue20
 t21:=Tryz.underlying21
 a21:=Tryz.isAgg21
 z21:=Tryz.sizeOf21
 v21:=Tryz.zeroValue21
 t37:=Tryz.underlying175
 a37:=Tryz.isAgg175
 z37:=Tryz.sizeOf175
 v37:=Tryz.zeroValue175
 t46:=Tryz.underlying196
 a46:=Tryz.isAgg196
 z46:=Tryz.sizeOf196
 v46:=Tryz.zeroValue196
 t51:=Tryz.underlying229
 a51:=Tryz.isAgg229
 z51:=Tryz.sizeOf229
 v51:=Tryz.zeroValue229
 t53:=Tryz.underlying231
 a53:=Tryz.isAgg231
 z53:=Tryz.sizeOf231
 v53:=Tryz.zeroValue231
 t75:=Tryz.underlying198
 a75:=Tryz.isAgg198
 z75:=Tryz.sizeOf198
 v75:=Tryz.zeroValue198
 t76:=Tryz.underlying199
 a76:=Tryz.isAgg199
 z76:=Tryz.sizeOf199
 v76:=Tryz.zeroValue199
 t85:=Tryz.underlying237
 a85:=Tryz.isAgg237
 z85:=Tryz.sizeOf237
 v85:=Tryz.zeroValue237
 t127:=Tryz.underlying213
 a127:=Tryz.isAgg213
 z127:=Tryz.sizeOf213
 v127:=Tryz.zeroValue213
 t143:=Tryz.underlying269
 a143:=Tryz.isAgg269
 z143:=Tryz.sizeOf269
 v143:=Tryz.zeroValue269
 t145:=Tryz.underlying271
 a145:=Tryz.isAgg271
 z145:=Tryz.sizeOf271
 v145:=Tryz.zeroValue271
 t167:=Tryz.underlying236
 a167:=Tryz.isAgg236
 z167:=Tryz.sizeOf236
 v167:=Tryz.zeroValue236
 t168:=Tryz.underlying239
 a168:=Tryz.isAgg239
 z168:=Tryz.sizeOf239
 v168:=Tryz.zeroValue239
 t171:=Tryz.underlying250
 a171:=Tryz.isAgg250
 z171:=Tryz.sizeOf250
 v171:=Tryz.zeroValue250
 t173:=Tryz.underlying252
 a173:=Tryz.isAgg252
 z173:=Tryz.sizeOf252
 v173:=Tryz.zeroValue252
 t175:=Tryz.underlying258
 a175:=Tryz.isAgg258
 z175:=Tryz.sizeOf258
 v175:=Tryz.zeroValue258
 t210:=Tryz.underlying261
 a210:=Tryz.isAgg261
 z210:=Tryz.sizeOf261
 v210:=Tryz.zeroValue261
 t212:=Tryz.underlying266
 a212:=Tryz.isAgg266
 z212:=Tryz.sizeOf266
 v212:=Tryz.zeroValue266
 t213:=Tryz.underlying267
 a213:=Tryz.isAgg267
 z213:=Tryz.sizeOf267
 t232:=Tryz.underlying276
 a232:=Tryz.isAgg276
 z232:=Tryz.sizeOf276
 v232:=Tryz.zeroValue276
 t233:=Tryz.underlying277
 a233:=Tryz.isAgg277
 z233:=Tryz.sizeOf277
 v233:=Tryz.zeroValue277
 g15:=by kernel_rfl
 g16:=by kernel_rfl
 g17:=by kernel_rfl
 g18:=by kernel_rfl
 g19:=by kernel_rfl
 t80:=Tryz.underlying179
 a80:=Tryz.isAgg179
 z80:=Tryz.sizeOf179
 v80:=Tryz.zeroValue179
 i0:=by kernel_rfl
 i2:=by kernel_rfl
 i3:=by kernel_rfl
 i4:=by kernel_rfl
 i5:=by kernel_rfl
 i9:=by kernel_rfl
 i20:=by kernel_rfl
 i21:=by kernel_rfl
 i37:=by kernel_rfl
 i46:=by kernel_rfl
 i51:=by kernel_rfl
 i53:=by kernel_rfl
 i75:=by kernel_rfl
 i76:=by kernel_rfl
 i80:=by kernel_rfl
 i85:=by kernel_rfl
 i127:=by kernel_rfl
 i143:=by kernel_rfl
 i145:=by kernel_rfl
 i167:=by kernel_rfl
 i168:=by kernel_rfl
 i171:=by kernel_rfl
 i173:=by kernel_rfl
 i175:=by kernel_rfl
 i210:=by kernel_rfl
 i212:=by kernel_rfl
 i232:=by kernel_rfl
 i233:=by kernel_rfl
 m15:=by kernel_rfl
 m16:=by kernel_rfl
 m17:=by kernel_rfl
 m18:=by kernel_rfl
 m19:=by kernel_rfl
 c0:=by kernel_rfl
 c2:=by kernel_rfl
 c3:=by kernel_rfl
 c4:=by kernel_rfl
 c5:=by kernel_rfl
 c9:=by kernel_rfl
 c20:=by kernel_rfl
 c21:=by kernel_rfl
 c37:=by kernel_rfl
 c46:=by kernel_rfl
 c51:=by kernel_rfl
 c53:=by kernel_rfl
 c75:=by kernel_rfl
 c76:=by kernel_rfl
 c80:=by kernel_rfl
 c85:=by kernel_rfl
 c127:=by kernel_rfl
 c143:=by kernel_rfl
 c145:=by kernel_rfl
 c167:=by kernel_rfl
 c168:=by kernel_rfl
 c171:=by kernel_rfl
 c173:=by kernel_rfl
 c175:=by kernel_rfl
 c210:=by kernel_rfl
 c212:=by kernel_rfl
 c213:=by kernel_rfl
 c232:=by kernel_rfl
 c233:=by kernel_rfl }
open Go.RowKit in
theorem Tryz.strconv_Atoi_ok (s:ByteArray)(hmax:s.size≤9223372036854775806)(v:Int)(h:Lib.atoiAll s.data.toList = .ok v)(w:World) :
  Calls Tryz.prog 147 #[.string s] w λe w'=>e = .returned (.tuple #[.int .i64 v,.nilIface])∧(w'=w∨∃t,w'=Lib.bytesWorld w 5 t):=Any.strconv_Atoi_ok Tryz.laysC172 s hmax v h w
open Go.RowKit in
theorem Tryz.strconv_Atoi_range_var (s : ByteArray) (hlim : s.size ≤ 281474976710656) (h : Lib.atoiAll s.data.toList = .range) (tp : TypeId) (p : Value) (w : World) (hvar : w.var? Tryz.prog "strconv.ErrRange" = some #[.iface tp p]) :
  Calls Tryz.prog 147 #[.string s] w λe w'=>∃N,e = .returned (.tuple #[.int .i64 (Lib.atoiSat s.data.toList),.iface 239 (.pointer (some ⟨N,0,none⟩))])∧w.heap.size≤N∧w'.heap[N]? =some (.cells #[.string ⟨#[65,116,111,105]⟩,.string s,.iface tp p] 261 (0,0))∧Below w.heap.size w w':=Any.strconv_Atoi_range_var Tryz.laysC172 s hlim h tp p w hvar
end Go.Proofs
namespace Go.Proofs.YtmjlemhondjfhaaGreatDoor
open Go Go.RowKit
set_option linter.unusedVariables false
noncomputable def HO:Nat:=Nat.max (Nat.max 3 2) 7+1
def SV:List Int:=Lib.deBruijn64tab.map Int.ofNat
structure M7 (w:World):Prop where
 pow : Lib.TabIs Tryz.prog w "internal/strconv.uint64pow10" .u64 Lib.pow10Tab
 tz : Lib.TabIs Tryz.prog w "math/bits.deBruijn64tab" .u8 SV
 rng : ∃ tp p, w.var? Tryz.prog "strconv.ErrRange" = some #[.iface tp p]
theorem TE : Tryz.prog.globalNamed "internal/strconv.uint64pow10" = some 3 := by kernel_rfl
theorem TD : Tryz.prog.globalNamed "strconv.ErrRange" = some 2 := by kernel_rfl
theorem UO : Tryz.prog.globalNamed "math/bits.deBruijn64tab" = some 7 := by kernel_rfl
theorem QY:7<HO:=by decide +kernel
theorem PS:3<HO:=by decide +kernel
theorem PR:2<HO:=by decide +kernel
theorem M7.block (w w':World)(h:∀k,k<HO→w'.heap[k]? =w.heap[k]?)(hT:M7 w):M7 w':=by
 obtain⟨tp,p,hr⟩:=hT.rng;have hp:=hT.pow;have hz:=hT.tz;unfold Lib.TabIs at hp hz;refine⟨?_,?_,tp,p,?_⟩
 ·unfold Lib.TabIs;unfold World.var? at hp ⊢;rw[TE] at hp ⊢;simp only[Option.bind_some] at hp ⊢;rw[h _ PS];exact hp
 ·unfold Lib.TabIs;unfold World.var? at hz ⊢;rw[UO] at hz ⊢;simp only[Option.bind_some] at hz ⊢;rw[h _ QY];exact hz
 ·unfold World.var? at hr ⊢;rw[TD] at hr ⊢;simp only[Option.bind_some] at hr ⊢;rw[h _ PR];exact hr
def RD (w:World)(M:List Nat):Prop:=HO≤w.heap.size∧∀k∈M,HO≤k
theorem M7.st {w0 w:World}{M:List Nat}{H:List Ent}(hT:M7 w0)(hG:RD w0 M)(hw:St w0 M H w):M7 w:=
 M7.block w0 w (λk hk=>hw.old k (Nat.lt_of_lt_of_le hk hG.1) (λhm=>by have:=hG.2 k hm;omega)) hT
theorem RD.nil {w:World}(h:HO≤w.heap.size):RD w []:=⟨h,by simp⟩
theorem RD.st {w0 w:World}{M:List Nat}{H:List Ent}(hG:RD w0 M)(hw:St w0 M H w):HO≤w.heap.size:=Nat.le_trans hG.1 hw.size
structure P2 (w:World):Prop where
 tabs:M7 w
 size:HO≤w.heap.size
theorem P2.st {w0 w:World}{M:List Nat}{H:List Ent}(hE:P2 w0)(hM:∀k∈M,HO≤k)(hw:St w0 M H w):P2 w:=
 ⟨hE.tabs.st ⟨hE.size,hM⟩ hw,Nat.le_trans hE.size hw.size⟩
theorem P2.st0 {w0 w:World}{H:List Ent}(hE:P2 w0)(hw:St w0 [] H w):P2 w:=hE.st (by simp) hw
theorem OE (p:List UInt8):(B p).data.toList=p:=by simp[B]
theorem T5 (m:Int)(h0 : -9223372036854775808≤m)(h1:m≤9223372036854775807)(w:World)(hE:P2 w):Calls Tryz.prog 122 [.int .i64 m].toArray w (Ig w (.string (B (Lib.itoa m)))):=
 (Tryz.strconv_Itoa m h0 h1 w hE.tabs.pow).mono λe w' ⟨he,k,os,hw⟩=>⟨he,by rw[hw];exact St.of_below (Lib.below_grow _ _ (Vp _) _ _)⟩
theorem SN (p:List UInt8)(hp:p.length≤281474976710656)(v:Int)(h:Lib.atoiAll p = .ok v)(w:World):Calls Tryz.prog 147 [.string (B p)].toArray w (Ig w (.tuple #[.int .i64 v,.nilIface])):=
 (Tryz.strconv_Atoi_ok (B p) (by rw[CB];omega) v (by rw[OE];exact h) w).mono λe w' ⟨he,hw⟩=>⟨he,by
  rcases hw with rfl | ⟨t,rfl⟩
  ·exact St.refl _ _
  ·exact St.of_below (Joins.below_bytesWorld _ _ _ _ (Vp _))⟩
theorem OB (p:List UInt8)(hp:p.length≤281474976710656)(h:Lib.atoiAll p = .range)(w:World)(hE:P2 w) :
  Calls Tryz.prog 147 [.string (B p)].toArray w (Qt w [] (λv H=>∃m t b,v = .tuple #[.int .i64 m,.iface t b]∧H=[])):=by
 obtain⟨tp,q,hr⟩:=hE.tabs.rng;exact(Tryz.strconv_Atoi_range_var (B p) (by rw[CB];omega) (by rw[OE];exact h) tp q w hr).mono λe w' ⟨N,he,_,_,hb⟩=>⟨_,_,he,St.of_below hb,_,_,_,rfl,rfl⟩
open Go Go.ChangeShapes Go.WideShapes Go.ChangeAt Go.RowKit Go.WideElems
theorem own:ownKnob Tryz.prog.godebug=none:=by kernel_rfl
theorem S2:laidOutB Tryz.prog=true:=by kernel_rfl
section
variable {H : Type} {enc : TypeId × Value → H} {P : Program}
theorem HH (hl:laidOutB P=true){W W':World}(hb:Below W.heap.size W W'){sp:Nat→Bool}:∀{ts:List TypeId} {vs:List Value} {ds:List (DataW H)} {ps:List MemPlace},ts.all (λt=>P.readableRec t&&decide (t<P.types.size))=true→
  DataW.TrodAll enc P W 0 (λ_=>true) true ts vs ds ps→(∀p∈ps,p.block<W.heap.size)→(∀p∈ps,sp p.block=true)→DataW.TrodAll enc P W' 0 sp true ts vs ds ps
 | [],[],[],_,_,h,_,_=>h
 | [],_::_,_,_,_,h,_,_=>h.elim
 | [],[],_::_,_,_,h,_,_=>h.elim
 | _::_,[],_,_,_,h,_,_=>h.elim
 | _::_,_::_,[],_,_,h,_,_=>h.elim
 | t::ts,v::vs,d::ds,ps,ht,⟨p,q,h1,h2,e⟩,hlt,hs=>by
  simp only[List.all_cons,Vm,Vf] at ht;refine⟨p,q,?_,HH hl hb ht.2 h2 (λx hx=>hlt x (by rw[e];exact List.mem_append_right _ hx)) (λx hx=>hs x (by rw[e];exact List.mem_append_right _ hx)),e⟩;exact Trod_stays hl ht.1.1 ht.1.2 h1 (λx hx=>hb.same (hlt x (by rw[e];exact List.mem_append_left _ hx))) (λx hx=>hs x (by rw[e];exact List.mem_append_left _ hx))
theorem PL (hl:laidOutB P=true){f:Func}{s:ChangeSpec}{apart fresh handsOn:Bool}{W W':World}{args:Array Value}{ds gs:List (DataW H)}{before:List MemPlace}{tb:TypeId}(hp:f.params.toList.all (λt=>P.readableRec t&&decide (t<P.types.size))=true)
  (hv:s.vars=[]) (hr:f.resultTypes = #[tb]) (hb4:P.underlying tb=some .bool) (hW:DataW.Whole enc P f.params.toList s.vars apart W args.toList ds gs before)
  (h1:(s.fn H (ds++gs)).results=[.lit (.bool true)]) (h2:(s.fn H (ds++gs)).args=ds) (h3:(s.fn H (ds++gs)).vars=[]) (hb:Below W.heap.size W W') :
  s.post enc P f apart fresh handsOn false W args (.bool true) W':=by
 have hlt:∀p∈before,p.block<W.heap.size:=λp hp=>hW.lt p hp;have hW':=hW;obtain⟨p,q,hA,hV,hbf,_,_⟩:=hW';have hq:q=[]:=by
  rw[hv] at hV
  cases gs with
  | nil=>exact hV
  | cons _ _=>exact hV.elim
 subst hq;rw[List.append_nil] at hbf;subst hbf;refine⟨ds,gs,before,[],before,[],hW,?_,?_,?_,World.keptBut_mono (λp hp=>⟨hp,.inr (.inl hp)⟩) (hb.frame (·∈before)),λh=>by cases h⟩
 ·rw[h1,hr];exact trodAll_mk1 (shut_bool hb4 true)
 ·rw[h2];exact HH hl hb hp hA hlt (λx hx=>by simpa using hlt x hx)
 ·rw[hv,h3];exact rfl
end
theorem O8:Tryz.prog.underlying 4=some .bool:=Tryz.underlying4
def KM : List (String × DataW Unit) := [("math/bits.deBruijn32tab", Rows.laid_math_bits_deBruijn32tab), ("math/bits.deBruijn64tab", Rows.laid_math_bits_deBruijn64tab), ("internal/strconv.uint64pow10", Rows.laid_internal_strconv_uint64pow10), ("unicode/utf8.acceptRanges", Rows.laid_unicode_utf8_acceptRanges), ("strconv.ErrRange", Rows.laid_strconv_ErrRange), ("strconv.ErrSyntax", Rows.laid_strconv_ErrSyntax), ("unicode/utf8.first", Rows.laid_unicode_utf8_first)]
theorem Rw:(Tryz.prog.globals[3]?).map (·.type)=some 266:=by kernel_rfl
theorem Rv:(Tryz.prog.globals[2]?).map (·.type)=some 198:=by kernel_rfl
theorem Qj:Tryz.prog.cellsOf 231=1:=by kernel_rfl
theorem Qk:Tryz.prog.cellsOf 266=20:=by kernel_rfl
theorem SH:(Tryz.prog.globals[7]?).map (·.type)=some 277:=by kernel_rfl
theorem R3:Tryz.prog.cellsOf 5=1:=by kernel_rfl
theorem NJ:Tryz.prog.cellsOf 277=64:=by kernel_rfl
theorem Ql:Tryz.prog.cellsOf 9=1:=by kernel_rfl
theorem R4:Tryz.prog.cellsOf 271=1:=by kernel_rfl
theorem Pr : "*" ++ "errors.errorString" = "*errors.errorString" := by decide
theorem TF (u : TypeId) (h : Tryz.prog.typeName? 3 u = some "*errors.errorString") : u = 269 :=
 typeName_ptr_named (nm := "errors.errorString") (by rw [Pr]; kernel_rfl) (by kernel_rfl) (by decide) u (by rw [Pr]; exact h)
theorem Mz {W:World}{n:String}{g:Nat}{cs:Array Value}(hg:Tryz.prog.globalNamed n=some g)(h:W.var? Tryz.prog n=some cs):g<W.heap.size:=by
 unfold World.var? at h;rw[hg] at h;simp only[Option.bind_some] at h
 cases hh:W.heap[g]? with
 | none=>rw[hh] at h;cases h
 | some o=>exact(Array.getElem?_eq_some_iff.1 hh).1
theorem TG {W:World}(h:laidMet Tryz.prog KM W):P2 W:=by
 have h2:=laidMet.tail h;have hz : Lib.TabIs Tryz.prog W "math/bits.deBruijn64tab" .u8 SV := Lib.tabIs_of_head UO SH Tryz.underlying277 Tryz.underlying5 R3 NJ h2
 have h3:=laidMet.tail h2;have h4:=laidMet.tail h3;have hp : Lib.TabIs Tryz.prog W "internal/strconv.uint64pow10" .u64 Lib.pow10Tab := Lib.tabIs_of_head TE Rw Tryz.underlying266 Tryz.underlying231 Qj Qk h3
 obtain⟨a,s,hv,_,_,_⟩:=laid_sentinel (laidMet.tail h4) TD Rv Tryz.underlying198 TF Tryz.underlying269 Tryz.underlying271 rfl rfl Tryz.underlying9 R4 Ql;refine⟨⟨hp,hz,_,_,hv⟩,?_⟩;have h1:=Mz TE hp;have h5:=Mz TD hv;exact Nat.max_lt.2 ⟨Nat.max_lt.2 ⟨h1,h5⟩,Mz UO hz⟩
noncomputable def Hp (os:Os):World:=
 let w0:=World.holding Tryz.prog os ⟨#[],#[],[]⟩
 let put (h:Array Obj) (g:Nat) (cs:Array Value):Array Obj:=h.modify g fun
  | .cells _ t frozen=>.cells cs t frozen
  | o=>o
 let nums (d:DataW Unit):Array Value:=match d with
  | .agg ds=>(ds.map fun | .lit (.int k n)=>Value.int k n | _=>undef).toArray
  | _=>#[]
 let nums2 (d:DataW Unit):Array Value:=match d with
  | .agg ds=>(ds.flatMap fun
   | .agg es=>es.map fun | .lit (.int k n)=>Value.int k n | _=>undef
   | _=>[]).toArray
  | _=>#[]
 let n:=w0.heap.size
 let h1:=put w0.heap 6 (nums Rows.laid_math_bits_deBruijn32tab)
 let h2:=put h1 7 (nums Rows.laid_math_bits_deBruijn64tab)
 let h3:=put h2 3 (nums Rows.laid_internal_strconv_uint64pow10)
 let h4:=put h3 2 #[.iface 269 (.pointer (some ⟨n,0,none⟩))]
 let h5:=put h4 1 #[.iface 269 (.pointer (some ⟨n+1,0,none⟩))]
 let h5a:=put h5 5 (nums2 Rows.laid_unicode_utf8_acceptRanges)
 let h5b:=put h5a 4 (nums Rows.laid_unicode_utf8_first)
 let h6:=h5b.push (.cells #[.string ⟨#[118,97,108,117,101,32,111,117,116,32,111,102,32,114,97,110,103,101]⟩] 271 (0,0))
 let h7:=h6.push (.cells #[.string ⟨#[105,110,118,97,108,105,100,32,115,121,110,116,97,120]⟩] 271 (0,0))
 { w0 with heap:=h7 }
set_option maxRecDepth 100000 in
theorem Rd (os:Os)(args:Array Value):laidMet Tryz.prog KM ((Hp os).forCall (λ_ _=>0) ⟨#[],args,[]⟩).memory:=
 laidMet_of_run' 8 (by kernel_rfl) (by kernel_rfl)
set_option linter.unusedSimpArgs false
set_option maxRecDepth 100000
theorem OQ (c:Int)(w:World):Calls Tryz.prog 135 [.int .i32 (c)].toArray w (Ig w (.bool (CH c))):=by
 refine E3 (n:=9) Tryz.func135 rfl Tryz.ntmps135 rfl (Ak (Al (A5 (A3 rfl) rfl (Ar (A2 (AX ?_))))));refine AG [(2,.bool (((decide ((97)≤(c)))&&(decide ((c)≤(122))))))] [] (φ:=True) ?_ (λhm1=>?_)
 ·refine Al (A5 (Am rfl) rfl (A5 (DZ rfl rfl) rfl (A5 (Am rfl) rfl (AT (decide ((97)≤(c))) (λh1=>?_) (λh1=>?_)))))
  ·have g1:=h1;try simp only[Vf,Ve] at g1
   refine AU rfl rfl h1 (A5 (Am rfl) rfl (AU rfl rfl h1 (A5 (HY rfl rfl) rfl (A5 (A8 rfl h1 rfl) rfl (A5 (A3 rfl) rfl (Ar ?_))))));exact A2 (B7 trivial ⟨fb (by simp[h1]),trivial⟩ .slnil)
  ·have g1:=h1;try simp only[Vf,Ve] at g1
   refine AD rfl rfl h1 rfl (AD rfl rfl h1 rfl (A5 (Ay rfl h1 rfl) rfl (A5 (A3 rfl) rfl (Ar ?_))));exact A2 (B7 trivial ⟨fb (by simp[h1]),trivial⟩ .slnil)
 refine Ao (Ap (B1 rfl rfl) ?_);exact GU (by first | rfl | simp[])
theorem Ps (c:Int)(w:World):Calls Tryz.prog 136 [.int .i32 (c)].toArray w (Ig w (.bool (Dv c))):=by
 refine E3 (n:=9) Tryz.func136 rfl Tryz.ntmps136 rfl (Ak (Al (A5 (A3 rfl) rfl (Ar (A2 (AX ?_))))));refine AG [(2,.bool (((decide ((48)≤(c)))&&(decide ((c)≤(57))))))] [] (φ:=True) ?_ (λhm3=>?_)
 ·refine Al (A5 (Am rfl) rfl (A5 (DZ rfl rfl) rfl (A5 (Am rfl) rfl (AT (decide ((48)≤(c))) (λh3=>?_) (λh3=>?_)))))
  ·have g3:=h3;try simp only[Vf,Ve] at g3
   refine AU rfl rfl h3 (A5 (Am rfl) rfl (AU rfl rfl h3 (A5 (HY rfl rfl) rfl (A5 (A8 rfl h3 rfl) rfl (A5 (A3 rfl) rfl (Ar ?_))))));exact A2 (B7 trivial ⟨fb (by simp[h3]),trivial⟩ .slnil)
  ·have g3:=h3;try simp only[Vf,Ve] at g3
   refine AD rfl rfl h3 rfl (AD rfl rfl h3 rfl (A5 (Ay rfl h3 rfl) rfl (A5 (A3 rfl) rfl (Ar ?_))));exact A2 (B7 trivial ⟨fb (by simp[h3]),trivial⟩ .slnil)
 refine Ao (Ap (B1 rfl rfl) ?_);exact GU (by first | rfl | simp[])
theorem Rc (c:Int)(w:World):Calls Tryz.prog 159 [.int .i32 (c)].toArray w (Ig w (.bool (DB c))):=by
 refine E3 (n:=37) Tryz.func159 rfl Tryz.ntmps159 rfl (Ak (Al (A5 (A3 rfl) rfl (Ar (A2 (AX ?_))))));refine AG [(2,.bool (((CH c)||((Dv c)||(bif decide ((65)≤(c)) then((decide ((c)≤(90)))||((decide ((c)=(45)))||((decide ((c)=(95)))||((decide ((c)=(46)))||((decide ((c)=(58)))||(decide ((c)=(47)))))))) else((decide ((c)=(45)))||((decide ((c)=(95)))||((decide ((c)=(46)))||((decide ((c)=(58)))||(decide ((c)=(47))))))))))))] [] (φ:=True) ?_ (λhm=>?_)
 ·refine Al (A5 (Am rfl) rfl (BL Tryz.call135 rfl (λw hw=>OQ c w) rfl (A5 (Am rfl) rfl (AT (CH c) (λh5=>?_) (λh5=>?_)))))
  ·have g5:=h5;try simp only[Vf,Ve] at g5
   refine AD rfl rfl h5 rfl (AD rfl rfl h5 rfl (A5 (A8 rfl h5 rfl) rfl (A5 (Am rfl) rfl (AD rfl rfl rfl rfl (AD rfl rfl rfl rfl (AD rfl rfl rfl rfl (BI rfl rfl rfl (BI rfl rfl rfl (AD rfl rfl rfl rfl (A5 (A8 rfl rfl rfl) rfl (A5 (Am rfl) rfl (AD rfl rfl rfl rfl (AD rfl rfl rfl rfl (A5 (A8 rfl rfl rfl) rfl (A5 (Am rfl) rfl (AD rfl rfl rfl rfl (AD rfl rfl rfl rfl (A5 (A8 rfl rfl rfl) rfl (A5 (Am rfl) rfl (AD rfl rfl rfl rfl (AD rfl rfl rfl rfl (A5 (A8 rfl rfl rfl) rfl (A5 (Am rfl) rfl ?_)))))))))))))))))))))));refine AD rfl rfl rfl rfl (AD rfl rfl rfl rfl (A5 (A8 rfl rfl rfl) rfl (A5 (Am rfl) rfl (AD rfl rfl rfl rfl (AD rfl rfl rfl rfl (A5 (A8 rfl rfl rfl) rfl (A5 (A3 rfl) rfl (Ar ?_))))))));exact A2 (B7 trivial ⟨fb (by simp[h5]),trivial⟩ .slnil)
  ·have g5:=h5;try simp only[Vf,Ve] at g5
   refine AU rfl rfl h5 (A5 (Am rfl) rfl (AU rfl rfl h5 (BL Tryz.call136 rfl (λw hw=>Ps c w) rfl (A5 (Ay rfl h5 rfl) rfl (A5 (Am rfl) rfl (AT (Dv c) (λh6=>?_) (λh6=>?_)))))))
   ·have g6:=h6;try simp only[Vf,Ve] at g6
    refine AD rfl rfl h6 rfl (AD rfl rfl h6 rfl (AD rfl rfl h6 rfl (BI rfl rfl rfl (BI rfl rfl rfl (AD rfl rfl h6 rfl (A5 (A8 rfl h6 rfl) rfl (A5 (Am rfl) rfl (AD rfl rfl rfl rfl (AD rfl rfl rfl rfl (A5 (A8 rfl rfl rfl) rfl (A5 (Am rfl) rfl (AD rfl rfl rfl rfl (AD rfl rfl rfl rfl (A5 (A8 rfl rfl rfl) rfl (A5 (Am rfl) rfl (AD rfl rfl rfl rfl (AD rfl rfl rfl rfl (A5 (A8 rfl rfl rfl) rfl (A5 (Am rfl) rfl (AD rfl rfl rfl rfl (AD rfl rfl rfl rfl (A5 (A8 rfl rfl rfl) rfl (A5 (Am rfl) rfl ?_)))))))))))))))))))))));refine AD rfl rfl rfl rfl (AD rfl rfl rfl rfl (A5 (A8 rfl rfl rfl) rfl (A5 (A3 rfl) rfl (Ar ?_))));exact A2 (B7 trivial ⟨fb (by simp[h5,h6]),trivial⟩ .slnil)
   ·have g6:=h6;try simp only[Vf,Ve] at g6
    refine AU rfl rfl h6 (A5 (Am rfl) rfl (AU rfl rfl h6 (A5 (DZ rfl rfl) rfl (AU rfl rfl h6 (A5 (Am rfl) rfl (AT (decide ((65)≤(c))) (λh7=>?_) (λh7=>?_)))))))
    ·have g7:=h7;try simp only[Vf,Ve] at g7
     refine AU rfl rfl h7 (A5 (Am rfl) rfl (AU rfl rfl h7 (A5 (HY rfl rfl) rfl (AU rfl rfl h6 (A5 (A8 rfl h7 rfl) rfl (A5 (Ay rfl h6 rfl) rfl (A5 (Am rfl) rfl (AT (decide ((c)≤(90))) (λh8=>?_) (λh8=>?_)))))))))
     ·have g8:=h8;try simp only[Vf,Ve] at g8
      refine AD rfl rfl h8 rfl (AD rfl rfl h8 rfl (A5 (A8 rfl h8 rfl) rfl (A5 (Am rfl) rfl (AD rfl rfl rfl rfl (AD rfl rfl rfl rfl (A5 (A8 rfl rfl rfl) rfl (A5 (Am rfl) rfl (AD rfl rfl rfl rfl (AD rfl rfl rfl rfl (A5 (A8 rfl rfl rfl) rfl (A5 (Am rfl) rfl (AD rfl rfl rfl rfl (AD rfl rfl rfl rfl (A5 (A8 rfl rfl rfl) rfl (A5 (Am rfl) rfl (AD rfl rfl rfl rfl (AD rfl rfl rfl rfl (A5 (A8 rfl rfl rfl) rfl (A5 (A3 rfl) rfl (Ar ?_))))))))))))))))))));exact A2 (B7 trivial ⟨fb (by simp[h5,h6,h7,h8]),trivial⟩ .slnil)
     ·have g8:=h8;try simp only[Vf,Ve] at g8
      refine AU rfl rfl h8 (A5 (Am rfl) rfl (AU rfl rfl h8 (A5 (BD rfl rfl) rfl (A5 (Ay rfl h8 rfl) rfl (A5 (Am rfl) rfl (AT (decide ((c)=(45))) (λh9=>?_) (λh9=>?_)))))))
      ·have g9:=h9;try simp only[Vf,Ve] at g9
       refine AD rfl rfl h9 rfl (AD rfl rfl h9 rfl (A5 (A8 rfl h9 rfl) rfl (A5 (Am rfl) rfl (AD rfl rfl rfl rfl (AD rfl rfl rfl rfl (A5 (A8 rfl rfl rfl) rfl (A5 (Am rfl) rfl (AD rfl rfl rfl rfl (AD rfl rfl rfl rfl (A5 (A8 rfl rfl rfl) rfl (A5 (Am rfl) rfl (AD rfl rfl rfl rfl (AD rfl rfl rfl rfl (A5 (A8 rfl rfl rfl) rfl (A5 (A3 rfl) rfl (Ar ?_))))))))))))))));exact A2 (B7 trivial ⟨fb (by simp[h5,h6,h7,h8,h9]),trivial⟩ .slnil)
      ·have g9:=h9;try simp only[Vf,Ve] at g9
       refine AU rfl rfl h9 (A5 (Am rfl) rfl (AU rfl rfl h9 (A5 (BD rfl rfl) rfl (A5 (Ay rfl h9 rfl) rfl (A5 (Am rfl) rfl (AT (decide ((c)=(95))) (λhb=>?_) (λhb=>?_)))))))
       ·have hh:=hb;try simp only[Vf,Ve] at hh
        refine AD rfl rfl hb rfl (AD rfl rfl hb rfl (A5 (A8 rfl hb rfl) rfl (A5 (Am rfl) rfl (AD rfl rfl rfl rfl (AD rfl rfl rfl rfl (A5 (A8 rfl rfl rfl) rfl (A5 (Am rfl) rfl (AD rfl rfl rfl rfl (AD rfl rfl rfl rfl (A5 (A8 rfl rfl rfl) rfl (A5 (A3 rfl) rfl (Ar ?_))))))))))));exact A2 (B7 trivial ⟨fb (by simp[h5,h6,h7,h8,h9,hb]),trivial⟩ .slnil)
       ·have hh:=hb;try simp only[Vf,Ve] at hh
        refine AU rfl rfl hb (A5 (Am rfl) rfl (AU rfl rfl hb (A5 (BD rfl rfl) rfl (A5 (Ay rfl hb rfl) rfl (A5 (Am rfl) rfl (AT (decide ((c)=(46))) (λhd=>?_) (λhd=>?_)))))))
        ·have hi:=hd;try simp only[Vf,Ve] at hi
         refine AD rfl rfl hd rfl (AD rfl rfl hd rfl (A5 (A8 rfl hd rfl) rfl (A5 (Am rfl) rfl (AD rfl rfl rfl rfl (AD rfl rfl rfl rfl (A5 (A8 rfl rfl rfl) rfl (A5 (A3 rfl) rfl (Ar ?_))))))));exact A2 (B7 trivial ⟨fb (by simp[h5,h6,h7,h8,h9,hb,hd]),trivial⟩ .slnil)
        ·have hi:=hd;try simp only[Vf,Ve] at hi
         refine AU rfl rfl hd (A5 (Am rfl) rfl (AU rfl rfl hd (A5 (BD rfl rfl) rfl (A5 (Ay rfl hd rfl) rfl (A5 (Am rfl) rfl (AT (decide ((c)=(58))) (λhf=>?_) (λhf=>?_)))))))
         ·have hj:=hf;try simp only[Vf,Ve] at hj
          refine AD rfl rfl hf rfl (AD rfl rfl hf rfl (A5 (A8 rfl hf rfl) rfl (A5 (A3 rfl) rfl (Ar ?_))));exact A2 (B7 trivial ⟨fb (by simp[h5,h6,h7,h8,h9,hb,hd,hf]),trivial⟩ .slnil)
         ·have hj:=hf;try simp only[Vf,Ve] at hj
          refine AU rfl rfl hf (A5 (Am rfl) rfl (AU rfl rfl hf (A5 (BD rfl rfl) rfl (A5 (Ay rfl hf rfl) rfl (A5 (A3 rfl) rfl (Ar ?_))))));exact A2 (B7 trivial ⟨fb (by simp[h5,h6,h7,h8,h9,hb,hd,hf]),trivial⟩ .slnil)
    ·have g7:=h7;try simp only[Vf,Ve] at g7
     refine AD rfl rfl h7 rfl (AD rfl rfl h7 rfl (AU rfl rfl h6 (A5 (Ay rfl h7 rfl) rfl (A5 (Ay rfl h6 rfl) rfl (A5 (Am rfl) rfl (AU rfl rfl rfl (A5 (Am rfl) rfl (AU rfl rfl rfl (A5 (BD rfl rfl) rfl (A5 (Ay rfl rfl rfl) rfl (A5 (Am rfl) rfl (AT (decide ((c)=(45))) (λha=>?_) (λha=>?_)))))))))))))
     ·have hk:=ha;try simp only[Vf,Ve] at hk
      refine AD rfl rfl ha rfl (AD rfl rfl ha rfl (A5 (A8 rfl ha rfl) rfl (A5 (Am rfl) rfl (AD rfl rfl rfl rfl (AD rfl rfl rfl rfl (A5 (A8 rfl rfl rfl) rfl (A5 (Am rfl) rfl (AD rfl rfl rfl rfl (AD rfl rfl rfl rfl (A5 (A8 rfl rfl rfl) rfl (A5 (Am rfl) rfl (AD rfl rfl rfl rfl (AD rfl rfl rfl rfl (A5 (A8 rfl rfl rfl) rfl (A5 (A3 rfl) rfl (Ar ?_))))))))))))))));exact A2 (B7 trivial ⟨fb (by simp[h5,h6,h7,ha]),trivial⟩ .slnil)
     ·have hk:=ha;try simp only[Vf,Ve] at hk
      refine AU rfl rfl ha (A5 (Am rfl) rfl (AU rfl rfl ha (A5 (BD rfl rfl) rfl (A5 (Ay rfl ha rfl) rfl (A5 (Am rfl) rfl (AT (decide ((c)=(95))) (λhc=>?_) (λhc=>?_)))))))
      ·have hl:=hc;try simp only[Vf,Ve] at hl
       refine AD rfl rfl hc rfl (AD rfl rfl hc rfl (A5 (A8 rfl hc rfl) rfl (A5 (Am rfl) rfl (AD rfl rfl rfl rfl (AD rfl rfl rfl rfl (A5 (A8 rfl rfl rfl) rfl (A5 (Am rfl) rfl (AD rfl rfl rfl rfl (AD rfl rfl rfl rfl (A5 (A8 rfl rfl rfl) rfl (A5 (A3 rfl) rfl (Ar ?_))))))))))));exact A2 (B7 trivial ⟨fb (by simp[h5,h6,h7,ha,hc]),trivial⟩ .slnil)
      ·have hl:=hc;try simp only[Vf,Ve] at hl
       refine AU rfl rfl hc (A5 (Am rfl) rfl (AU rfl rfl hc (A5 (BD rfl rfl) rfl (A5 (Ay rfl hc rfl) rfl (A5 (Am rfl) rfl (AT (decide ((c)=(46))) (λhe=>?_) (λhe=>?_)))))))
       ·have g15:=he;try simp only[Vf,Ve] at g15
        refine AD rfl rfl he rfl (AD rfl rfl he rfl (A5 (A8 rfl he rfl) rfl (A5 (Am rfl) rfl (AD rfl rfl rfl rfl (AD rfl rfl rfl rfl (A5 (A8 rfl rfl rfl) rfl (A5 (A3 rfl) rfl (Ar ?_))))))));exact A2 (B7 trivial ⟨fb (by simp[h5,h6,h7,ha,hc,he]),trivial⟩ .slnil)
       ·have g15:=he;try simp only[Vf,Ve] at g15
        refine AU rfl rfl he (A5 (Am rfl) rfl (AU rfl rfl he (A5 (BD rfl rfl) rfl (A5 (Ay rfl he rfl) rfl (A5 (Am rfl) rfl (AT (decide ((c)=(58))) (λhg=>?_) (λhg=>?_)))))))
        ·have g16:=hg;try simp only[Vf,Ve] at g16
         refine AD rfl rfl hg rfl (AD rfl rfl hg rfl (A5 (A8 rfl hg rfl) rfl (A5 (A3 rfl) rfl (Ar ?_))));exact A2 (B7 trivial ⟨fb (by simp[h5,h6,h7,ha,hc,he,hg]),trivial⟩ .slnil)
        ·have g16:=hg;try simp only[Vf,Ve] at g16
         refine AU rfl rfl hg (A5 (Am rfl) rfl (AU rfl rfl hg (A5 (BD rfl rfl) rfl (A5 (Ay rfl hg rfl) rfl (A5 (A3 rfl) rfl (Ar ?_))))));exact A2 (B7 trivial ⟨fb (by simp[h5,h6,h7,ha,hc,he,hg]),trivial⟩ .slnil)
 refine Ao (Ap (B1 rfl rfl) ?_);exact GU (by simp only[DB];by_cases h:65≤c<;>simp[h,Bool.or_assoc])
theorem RU (m:Int)(w:World):Calls Tryz.prog 142 [.int .i64 (m)].toArray w (Ig w (.bool (Kv m))):=by
 refine E3 (n:=9) Tryz.func142 rfl Tryz.ntmps142 rfl (Ak (Al (A5 (A3 rfl) rfl (Ar (A2 (AX ?_))))));refine AG [(2,.bool (((decide ((-1000000000000)≤(m)))&&(decide ((m)≤(1000000000000))))))] [] (φ:=True) ?_ (λhc=>?_)
 ·refine Al (A5 (Am rfl) rfl (A5 (HY rfl rfl) rfl (A5 (Am rfl) rfl (AT (decide ((-1000000000000)≤(m))) (λha=>?_) (λha=>?_)))))
  ·have hb:=ha;try simp only[Vf,Ve] at hb
   refine AU rfl rfl ha (A5 (Am rfl) rfl (AU rfl rfl ha (A5 (HY rfl rfl) rfl (A5 (A8 rfl ha rfl) rfl (A5 (A3 rfl) rfl (Ar ?_))))));exact A2 (B7 trivial ⟨fb (by first | (simp only[ha,Vy,Vv,V1,Vo,V0,Vw,V2,Vz,Vx,Vu,VB,V7,VH,VC,reduceIte,Vr];done) | simp[ha]),trivial⟩ .slnil)
  ·have hb:=ha;try simp only[Vf,Ve] at hb
   refine AD rfl rfl ha rfl (AD rfl rfl ha rfl (A5 (Ay rfl ha rfl) rfl (A5 (A3 rfl) rfl (Ar ?_))));exact A2 (B7 trivial ⟨fb (by first | (simp only[ha,Vy,Vv,V1,Vo,V0,Vw,V2,Vz,Vx,Vu,VB,V7,VH,VC,reduceIte,Vr];done) | simp[ha]),trivial⟩ .slnil)
 refine Ao (Ap (B1 rfl rfl) ?_);exact GU (by first | rfl | simp[])
theorem Tw (p:List UInt8)(w:World):Calls Tryz.prog 85 [.string (B p)].toArray w (Ig w (.bool (D0 p))):=by
 refine E3 (n:=39) Tryz.func85 rfl Tryz.ntmps85 rfl (Ak (Al (A5 (A3 rfl) rfl (Ar (A2 (AX ?_))))));refine Ak (Ak (Al (A5 (Am rfl) rfl (L9 CN rfl rfl (λhg=>?_)))));refine Ar (A2 (AX ?_));refine AE (Ip (S:=Nat) (λ(k:Nat)=>k≤p.length∧Bk Dt 0 p=Bk Dt k (p.drop k)) (λ(k:Nat)=>[(0,.string (B (p))),(2,.bool (false)),(6,.pointer (some ⟨hg,0,none⟩))]) (λ(k:Nat)=>[.blk hg (.stringIter (B p) (k))]) (λ(k:Nat)=>p.length-k) (0) ?_ ⟨rfl,rfl,rfl,trivial⟩ (.cons_cons _ (.slnil)) ?_)
 ·exact⟨V9 _,by simp⟩
 rintro k hi0;refine Ak (Al (MZ (i:=0) rfl rfl rfl (λhend=>?_) (λhq hc ho hp hlu39 hhu39 hwu39=>?_)))
 ·refine A5 (A4 rfl rfl) rfl (Ar (A2 (AX ?_)));refine Ak (BG rfl rfl (Bt (Aw (Aw (Bb (A2 (AX ?_)))))));refine AG [(2,.bool (((decide ((1)≤((p.length:Int))))&&(decide (((p.length:Int))≤(24))))))] [.blk hg (.stringIter (B p) (k))] (φ:=True) ?_ (λhr=>?_)
  ·refine Al (A5 (Am rfl) rfl (A5 (B9 CN rfl) rfl (A5 (DZ rfl rfl) rfl (A5 (Am rfl) rfl (AT (decide ((1)≤((p.length:Int)))) (λhd=>?_) (λhd=>?_))))))
   ·have hi:=hd;try simp only[Vf,Ve] at hi
    refine AU rfl rfl hd (A5 (Am rfl) rfl (AU rfl rfl hd (A5 (B9 CN rfl) rfl (AU rfl rfl hd (A5 (HY rfl rfl) rfl (A5 (A8 rfl hd rfl) rfl (A5 (A3 rfl) rfl (Ar ?_))))))));exact A2 (B7 trivial ⟨fb (by first | (simp only[hd,Vy,Vv,V1,Vo,V0,Vw,V2,Vz,Vx,Vu,VB,V7,VH,VC,reduceIte,Vr];done) | simp[hd]),trivial⟩ (.cons_cons _ (.slnil)))
   ·have hi:=hd;try simp only[Vf,Ve] at hi
    refine AD rfl rfl hd rfl (AD rfl rfl hd rfl (AD rfl rfl hd rfl (A5 (Ay rfl hd rfl) rfl (A5 (A3 rfl) rfl (Ar ?_)))));exact A2 (B7 trivial ⟨fb (by first | (simp only[hd,Vy,Vv,V1,Vo,V0,Vw,V2,Vz,Vx,Vu,VB,V7,VH,VC,reduceIte,Vr];done) | simp[hd]),trivial⟩ (.cons_cons _ (.slnil)))
  refine Ao (Ap (B1 rfl rfl) ?_);exact GU (by rw[QW hi0 hend])
 ·refine A5 (A4 rfl rfl) rfl (Ar (A2 (AX ?_)));refine Ak (BZ rfl rfl (A0 (A2 (AX ?_))));refine AE (Ak (Al (A5 (A4 rfl rfl) rfl (A5 (A4 rfl rfl) rfl (A5 (A3 rfl) rfl (A5 (A3 rfl) rfl (Ar (A2 (AX ?_)))))))));refine AG [(0,.string (B (p))),(2,.bool (false)),(3,.int .i64 ((k:Int))),(4,.int .i32 ((hc:Int))),(6,.pointer (some ⟨hg,0,none⟩)),(7,.tuple #[.bool (true),.int .i64 ((k:Int)),.int .i32 ((hc:Int))]),(8,.bool (true)),(9,.int .i64 ((k:Int))),(10,.int .i32 ((hc:Int))),(11,.int .i32 ((hc:Int))),(12,.bool (CH (hc:Int))),(13,.bool (!(CH (hc:Int)))),(14,.bool (!(CH (hc:Int)))),(30,.bool (((!(CH (hc:Int)))&&((decide (((k:Int))=(0)))||((!(Dv (hc:Int)))&&((!(decide (((hc:Int))=(45))))&&(!(decide (((hc:Int))=(95))))))))))] [.blk hg (.stringIter (B p) (k+ho))] (φ:=True) ?_ (λhs=>?_)
  ·refine Al (A5 (Am rfl) rfl (BL Tryz.call135 rfl (λw hw=>OQ (hc:Int) w) rfl (A5 (BT rfl) rfl (A5 (Am rfl) rfl (AT (!(CH (hc:Int))) (λhb=>?_) (λhb=>?_))))))
   ·have hj:=hb;try simp only[Vf,Ve] at hj
    refine AU rfl rfl hb (A5 (Am rfl) rfl (AU rfl rfl hb (A5 (BD rfl rfl) rfl (AU rfl rfl hb (A5 (Am rfl) rfl (AT (decide (((k:Int))=(0))) (λha=>?_) (λha=>?_)))))))
    ·have hk:=ha;try simp only[Vf,Ve] at hk
     refine AD rfl rfl ha rfl (AD rfl rfl ha rfl (AD rfl rfl ha rfl (AD rfl rfl ha rfl (BI rfl rfl rfl (BI rfl rfl rfl (AD rfl rfl ha rfl (AD rfl rfl ha rfl (BI rfl rfl rfl (BI rfl rfl rfl (AD rfl rfl ha rfl (AU rfl rfl hb (A5 (A8 rfl ha rfl) rfl (A5 (A8 rfl hb rfl) rfl (Ar ?_))))))))))))));exact A2 (B7 trivial ⟨rfl,rfl,rfl,rfl,rfl,rfl,rfl,rfl,rfl,rfl,rfl,rfl,rfl,fb (by first | (simp only[hb,ha,Vy,Vv,V1,Vo,V0,Vw,V2,Vz,Vx,Vu,VB,V7,VH,VC,reduceIte,Vr];done) | simp[hb,ha]),trivial⟩ (.cons_cons _ (.slnil)))
    ·have hk:=ha;try simp only[Vf,Ve] at hk
     refine AU rfl rfl ha (A5 (Am rfl) rfl (AU rfl rfl ha (BL Tryz.call136 rfl (λw hw=>Ps (hc:Int) w) rfl (AU rfl rfl ha (A5 (BT rfl) rfl (AU rfl rfl ha (A5 (Am rfl) rfl (AT (!(Dv (hc:Int))) (λhe=>?_) (λhe=>?_)))))))))
     ·have hl:=he;try simp only[Vf,Ve] at hl
      refine AU rfl rfl he (A5 (Am rfl) rfl (AU rfl rfl he (A5 (Cs rfl rfl) rfl (AU rfl rfl ha (A5 (A8 rfl he rfl) rfl (AU rfl rfl ha (A5 (Am rfl) rfl (AT (!(decide (((hc:Int))=(45)))) (λhf=>?_) (λhf=>?_)))))))))
      ·have hm:=hf;try simp only[Vf,Ve] at hm
       refine AU rfl rfl hf (A5 (Am rfl) rfl (AU rfl rfl hf (A5 (Cs rfl rfl) rfl (AU rfl rfl ha (A5 (A8 rfl hf rfl) rfl (AU rfl rfl hb (A5 (Ay rfl ha rfl) rfl (A5 (A8 rfl hb rfl) rfl (Ar ?_)))))))));exact A2 (B7 trivial ⟨rfl,rfl,rfl,rfl,rfl,rfl,rfl,rfl,rfl,rfl,rfl,rfl,rfl,fb (by first | (simp only[hb,ha,he,hf,Vy,Vv,V1,Vo,V0,Vw,V2,Vz,Vx,Vu,VB,V7,VH,VC,reduceIte,Vr];done) | simp[hb,ha,he,hf]),trivial⟩ (.cons_cons _ (.slnil)))
      ·have hm:=hf;try simp only[Vf,Ve] at hm
       refine AD rfl rfl hf rfl (AD rfl rfl hf rfl (AU rfl rfl ha (A5 (Ay rfl hf rfl) rfl (AU rfl rfl hb (A5 (Ay rfl ha rfl) rfl (A5 (A8 rfl hb rfl) rfl (Ar ?_)))))));exact A2 (B7 trivial ⟨rfl,rfl,rfl,rfl,rfl,rfl,rfl,rfl,rfl,rfl,rfl,rfl,rfl,fb (by first | (simp only[hb,ha,he,hf,Vy,Vv,V1,Vo,V0,Vw,V2,Vz,Vx,Vu,VB,V7,VH,VC,reduceIte,Vr];done) | simp[hb,ha,he,hf]),trivial⟩ (.cons_cons _ (.slnil)))
     ·have hl:=he;try simp only[Vf,Ve] at hl
      refine AD rfl rfl he rfl (AD rfl rfl he rfl (AU rfl rfl ha (A5 (Ay rfl he rfl) rfl (AU rfl rfl ha (A5 (Am rfl) rfl (AD rfl rfl rfl rfl (AD rfl rfl rfl rfl (AU rfl rfl ha (A5 (Ay rfl rfl rfl) rfl (AU rfl rfl hb (A5 (Ay rfl ha rfl) rfl (A5 (A8 rfl hb rfl) rfl (Ar ?_)))))))))))));exact A2 (B7 trivial ⟨rfl,rfl,rfl,rfl,rfl,rfl,rfl,rfl,rfl,rfl,rfl,rfl,rfl,fb (by first | (simp only[hb,ha,he,Vy,Vv,V1,Vo,V0,Vw,V2,Vz,Vx,Vu,VB,V7,VH,VC,reduceIte,Vr];done) | simp[hb,ha,he]),trivial⟩ (.cons_cons _ (.slnil)))
   ·have hj:=hb;try simp only[Vf,Ve] at hj
    refine AD rfl rfl hb rfl (AD rfl rfl hb rfl (AD rfl rfl hb rfl (BI rfl rfl rfl (BI rfl rfl rfl (BI rfl rfl rfl (BI rfl rfl rfl (BI rfl rfl rfl (BI rfl rfl rfl (BI rfl rfl rfl (BI rfl rfl rfl (BI rfl rfl rfl (BI rfl rfl rfl (BI rfl rfl rfl (AD rfl rfl hb rfl (A5 (Ay rfl hb rfl) rfl (Ar ?_))))))))))))))));exact A2 (B7 trivial ⟨rfl,rfl,rfl,rfl,rfl,rfl,rfl,rfl,rfl,rfl,rfl,rfl,rfl,fb (by first | (simp only[hb,Vy,Vv,V1,Vo,V0,Vw,V2,Vz,Vx,Vu,VB,V7,VH,VC,reduceIte,Vr];done) | simp[hb]),trivial⟩ (.cons_cons _ (.slnil)))
  refine D9 (b:=((!(CH (hc:Int)))&&((decide (((k:Int))=(0)))||((!(Dv (hc:Int)))&&((!(decide (((hc:Int))=(45))))&&(!(decide (((hc:Int))=(95))))))))) rfl (λhh=>?_) (λhh=>?_)
  ·have hn:=hh;try simp only[Vf,Ve] at hn
   refine Ak (Al (A5 (A3 rfl) rfl (Ar (A2 (AX ?_)))));refine Ao (Ax (Ab (Ax (Ab (Ap (B1 rfl rfl) ?_)))));exact GU (by rw[Ss hi0 hp hlu39 hhu39 hh])
  ·have hn:=hh;try simp only[Vf,Ve] at hn
   refine A0 (AH (A2 (AN (k+ho) ?_ ⟨rfl,rfl,rfl,trivial⟩ (.cons_cons _ (.slnil)))));exact PQ hi0 hp hlu39 hhu39 hh
theorem UN (p:List UInt8)(w:World):Calls Tryz.prog 115 [.string (B p)].toArray w (Ig w (.bool (Lm p))):=by
 refine E3 (n:=21) Tryz.func115 rfl Tryz.ntmps115 rfl (Ak (Al (A5 (A3 rfl) rfl (Ar (A2 (AX ?_))))));refine Ak (Ak (Al (A5 (Am rfl) rfl (L9 CN rfl rfl (λhc=>?_)))));refine Ar (A2 (AX ?_));refine AE (Ip (S:=Nat) (λ(k:Nat)=>k≤p.length∧Bk JO 0 p=Bk JO k (p.drop k)) (λ(k:Nat)=>[(0,.string (B (p))),(2,.bool (false)),(6,.pointer (some ⟨hc,0,none⟩))]) (λ(k:Nat)=>[.blk hc (.stringIter (B p) (k))]) (λ(k:Nat)=>p.length-k) (0) ?_ ⟨rfl,rfl,rfl,trivial⟩ (.cons_cons _ (.slnil)) ?_)
 ·exact⟨V9 _,by simp⟩
 rintro k hi0;refine Ak (Al (MZ (i:=0) rfl rfl rfl (λhend=>?_) (λhi hf hh hg hlu51 hhu51 hwu51=>?_)))
 ·refine A5 (A4 rfl rfl) rfl (Ar (A2 (AX ?_)));refine Ak (BG rfl rfl (Bt (Aw (Aw (Bb (A2 (AX ?_)))))));refine AG [(2,.bool (((decide ((1)≤((p.length:Int))))&&(decide (((p.length:Int))≤(64))))))] [.blk hc (.stringIter (B p) (k))] (φ:=True) ?_ (λhj=>?_)
  ·refine Al (A5 (Am rfl) rfl (A5 (B9 CN rfl) rfl (A5 (DZ rfl rfl) rfl (A5 (Am rfl) rfl (AT (decide ((1)≤((p.length:Int)))) (λha=>?_) (λha=>?_))))))
   ·have hd:=ha;try simp only[Vf,Ve] at hd
    refine AU rfl rfl ha (A5 (Am rfl) rfl (AU rfl rfl ha (A5 (B9 CN rfl) rfl (AU rfl rfl ha (A5 (HY rfl rfl) rfl (A5 (A8 rfl ha rfl) rfl (A5 (A3 rfl) rfl (Ar ?_))))))));exact A2 (B7 trivial ⟨fb (by first | (simp only[ha,Vy,Vv,V1,Vo,V0,Vw,V2,Vz,Vx,Vu,VB,V7,VH,VC,reduceIte,Vr];done) | simp[ha]),trivial⟩ (.cons_cons _ (.slnil)))
   ·have hd:=ha;try simp only[Vf,Ve] at hd
    refine AD rfl rfl ha rfl (AD rfl rfl ha rfl (AD rfl rfl ha rfl (A5 (Ay rfl ha rfl) rfl (A5 (A3 rfl) rfl (Ar ?_)))));exact A2 (B7 trivial ⟨fb (by first | (simp only[ha,Vy,Vv,V1,Vo,V0,Vw,V2,Vz,Vx,Vu,VB,V7,VH,VC,reduceIte,Vr];done) | simp[ha]),trivial⟩ (.cons_cons _ (.slnil)))
  refine Ao (Ap (B1 rfl rfl) ?_);exact GU (by rw[T7 hi0 hend])
 ·refine A5 (A4 rfl rfl) rfl (Ar (A2 (AX ?_)));refine Ak (BZ rfl rfl (A0 (A2 (AX ?_))));refine AE (Ak (Al (A5 (A4 rfl rfl) rfl (A5 (A3 rfl) rfl (Ar (A2 (AX ?_)))))));refine Ak (Al (A5 (Am rfl) rfl (BL Tryz.call159 rfl (λw hw=>Rc (hf:Int) w) rfl (A5 (BT rfl) rfl (Ar (A2 (AX ?_)))))));refine D9 (b:=!(DB (hf:Int))) rfl (λhb=>?_) (λhb=>?_)
  ·have he:=hb;try simp only[Vf,Ve] at he
   refine Ak (Al (A5 (A3 rfl) rfl (Ar (A2 (AX ?_)))));refine Ao (Ax (Ab (Ax (Ab (Ap (B1 rfl rfl) ?_)))));exact GU (by rw[Uo hi0 hg hlu51 hhu51 hb])
  ·have he:=hb;try simp only[Vf,Ve] at he
   refine A0 (AH (A2 (AN (k+hh) ?_ ⟨rfl,rfl,rfl,trivial⟩ (.cons_cons _ (.slnil)))));exact SC hi0 hg hlu51 hhu51 hb
open Go
theorem N0 (p:List UInt8)(m:Int)(w:World):Calls Tryz.prog 207 [.string (B (p)),.int .u8 (m)].toArray w (Ig w (.int .i64 (Lib.indexByte p (Int.toNat m).toUInt8))):=by
 refine E3 (n:=8) Tryz.func207 rfl Tryz.ntmps207 rfl (Ak (Al (A5 (A3 rfl) rfl (Ar (A2 (AX ?_))))));refine Ak (Al (A5 (Am rfl) rfl (A5 (Am rfl) rfl (A5 (v:=.int .i64 (Lib.indexByte p (Int.toNat (m)).toUInt8)) (Ue rfl (Lu Tryz.func231 (by kernel_rfl) (by kernel_rfl) (by kernel_rfl) (by kernel_rfl) p (m))) rfl (A5 (A3 rfl) rfl (Ar (A2 (AX ?_))))))));refine Ao (Ap (B1 rfl rfl) ?_);exact GU (by first | rfl | simp[])
def Sc (p:List UInt8):Bool:=decide ((0:Int)<p.length)&&decide (C2 p 0=45)
def KY (p:List UInt8):List UInt8:=if Sc p=true then p.drop 1 else p
theorem R1 (p:List UInt8):(KY p).length≤p.length:=by unfold KY;split<;>simp
def DE (_:Nat)(u:UInt8):Bool:=!(decide ((u.toNat:Int)<48)||decide (57<(u.toNat:Int)))
def M0 (p:List UInt8):Bool:=!(decide (KY p=[])||(decide (C2 (KY p) 0=48)&&!decide (p=[48])))&&Bk DE 0 (KY p)
theorem EJ {p:List UInt8}(h : ¬ p=[]):(0:Int)<p.length:=by
 cases p with
 | nil=>exact absurd rfl h
 | cons a r=>simp
theorem LO {p:List UInt8}{k:Nat}(h:(k:Int)<p.length):∃u,p[k]? =some u:=⟨p[k]'(by omega),Vh (by omega)⟩
theorem R2 {p:List UInt8}{k:Nat}(hi:k≤p.length∧Bk DE 0 p=Bk DE k (p.drop k))(h:(k:Int)<p.length)(ht:(decide (C2 p k<48)||decide (57<C2 p k))=false) :
  (k+1≤p.length∧Bk DE 0 p=Bk DE (k+1) (p.drop (k+1)))∧p.length-(k+1)<p.length-k:=by
 obtain⟨u,hu⟩:=LO h;rw[RA hu] at ht;exact KA hi hu (by simp only[DE,ht];rfl)
theorem TI {p:List UInt8}{k:Nat}(hi:k≤p.length∧Bk DE 0 p=Bk DE k (p.drop k))(h:(k:Int)<p.length)(ht:(decide (C2 p k<48)||decide (57<C2 p k))=true):Bk DE 0 p=false:=by
 obtain⟨u,hu⟩:=LO h;rw[RA hu] at ht;exact Oj hi hu (by simp only[DE,ht];rfl)
theorem SJ {p:List UInt8}{k:Nat}(hi:k≤p.length∧Bk DE 0 p=Bk DE k (p.drop k))(h : ¬ (k:Int)<p.length):Bk DE 0 p=true:=Ml hi (by omega)
def Dr (p:List UInt8):Int:=if M0 p=true then(match Lib.atoiAll p with | .ok v=>if Kv v=true then 0 else 2 | _=>2) else 1
def Ci (p:List UInt8):Int:=if M0 p=true then(match Lib.atoiAll p with | .ok v=>if Kv v=true then v else 0 | _=>0) else 0
theorem KZ:∀(l:List UInt8) (i acc:Nat),Bk DE i l=true→(∃u,Lib.parseUint10 acc l = .ok u)∨Lib.parseUint10 acc l = .range
 | [],_,acc,_=>.inl ⟨acc,rfl⟩
 | c::r,i,acc,h=>by
  simp only[Bk,Vm] at h;have hc:48≤c.toNat∧c.toNat≤57:=by have:=h.1;simp[DE] at this;omega
  unfold Lib.parseUint10;rw[VP hc]
  split
  ·exact .inr rfl
  ·split
   ·exact .inr rfl
   ·exact KZ r _ _ h.2
theorem Pd {l:List UInt8}(hne:l≠[])(h:Bk DE 0 l=true):(∃u,Lib.parseMag l = .ok u)∨Lib.parseMag l = .range:=by
 unfold Lib.parseMag;rw[VF hne];exact KZ l 0 0 h
theorem Mi {e:Lib.NumEnd Nat}(h:(∃u,e = .ok u)∨e = .range):(∃v,Lib.signless e = .ok v)∨Lib.signless e = .range:=by
 rcases h with⟨u,rfl⟩ | rfl
 ·unfold Lib.signless
  by_cases h:9223372036854775808≤u
  ·exact .inr (by simp[h])
  ·exact .inl ⟨_,by simp[h];rfl⟩
 ·exact .inr rfl
theorem Od {e:Lib.NumEnd Nat}(h:(∃u,e = .ok u)∨e = .range):(∃v,Lib.signed e = .ok v)∨Lib.signed e = .range:=by
 rcases h with⟨u,rfl⟩ | rfl
 ·unfold Lib.signed
  by_cases h:9223372036854775808<u
  ·exact .inr (by simp[h])
  ·exact .inl ⟨_,by simp[h];rfl⟩
 ·exact .inr rfl
theorem RB {p:List UInt8}(h:M0 p=true):(∃v,Lib.atoiAll p = .ok v∧-9223372036854775808≤v∧v≤9223372036854775807)∨Lib.atoiAll p = .range:=by
 have key:(∃v,Lib.atoiAll p = .ok v)∨Lib.atoiAll p = .range:=by
  simp only[M0,Vm,VG,VN,Ve] at h;obtain⟨⟨hne,_⟩,hall⟩:=h
  cases p with
  | nil=>simp[KY,Sc] at hne
  | cons c r=>
   by_cases hc:c=45
   ·subst hc;have hd:KY (45::r)=r:=by simp[KY,Sc,C2]
    rw[hd] at hne hall;rw[Lib.atoiAll_minus];exact Od (Pd hne hall)
   ·have hb : ¬ C2 (c::r) 0=45:=by
     simp only[C2,Int.toNat_zero,List.getElem?_cons_zero,V4];intro e;exact hc (UInt8.toNat_inj.1 (by simpa using(by omega:c.toNat=45)))
    have hd:KY (c::r)=c::r:=by simp[KY,Sc,hb]
    rw[hd] at hne hall;have ha:48≤c.toNat:=by
     simp only[Bk,Vm] at hall;have:=hall.1;simp[DE] at this;omega
    rw[Lib.atoiAll_plain c r (by omega) (by omega)];exact Mi (Pd hne hall)
 rcases key with⟨v,hv⟩ | h
 ·exact .inl ⟨v,hv,Lib.atoiAll_bounds hv⟩
 ·exact .inr h
theorem Qh (p:List UInt8)(hp:p.length≤281474976710656)(w:World):Calls Tryz.prog 146 [.string (B (p))].toArray w (Ig w (.bool (M0 p))):=by
 refine E3 (n:=43) Tryz.func146 rfl Tryz.ntmps146 rfl (Ak (Al (A5 (A3 rfl) rfl (Ar (A2 (AX ?_))))));refine Ak (Al (A5 (Am rfl) rfl (A5 (A3 rfl) rfl (Ar (A2 (AX ?_))))));refine AG [(0,.string (B (p))),(2,.bool (false)),(3,.string (B ((if ((decide ((0)<((p.length:Int))))&&(decide ((C2 p 0)=(45))))=true then List.drop (Int.toNat (1)) p else p))))] [] (φ:=True) ?_ (λhz=>?_)
 ·refine AG [(0,.string (B (p))),(2,.bool (false)),(3,.string (B (p))),(13,.bool (((decide ((0)<((p.length:Int))))&&(decide ((C2 p 0)=(45))))))] [] (φ:=True) ?_ (λh0=>?_)
  ·refine Al (A5 (Am rfl) rfl (A5 (B9 CN rfl) rfl (A5 (Ei rfl rfl) rfl (A5 (Am rfl) rfl (AT (decide ((0)<((p.length:Int)))) (λhc=>?_) (λhc=>?_))))))
   ·have hj:=hc;try simp only[Vf,Ve] at hj
    have hk:=hc;try simp at hk
    refine AU rfl rfl hc (A5 (Am rfl) rfl (AU rfl rfl hc (A5 (BO CN rfl rfl (by first | omega | exact EJ (by assumption)) (by first | omega | exact EJ (by assumption))) rfl (AU rfl rfl hc (A5 (BD rfl rfl) rfl (A5 (A8 rfl hc rfl) rfl (Ar ?_)))))));exact A2 (B7 trivial ⟨rfl,rfl,rfl,fb (by first | (simp only[hc,Vy,Vv,V1,Vo,V0,Vw,V2,Vz,Vx,Vu,VB,V7,VH,VC,reduceIte,Vr];done) | simp[hc]),trivial⟩ .slnil)
   ·have hj:=hc;try simp only[Vf,Ve] at hj
    have hk:=hc;try simp at hk
    refine AD rfl rfl hc rfl (AD rfl rfl hc rfl (AD rfl rfl hc rfl (A5 (Ay rfl hc rfl) rfl (Ar ?_))));exact A2 (B7 trivial ⟨rfl,rfl,rfl,fb (by first | (simp only[hc,Vy,Vv,V1,Vo,V0,Vw,V2,Vz,Vx,Vu,VB,V7,VH,VC,reduceIte,Vr];done) | simp[hc]),trivial⟩ .slnil)
  refine D9 (b:=((decide ((0)<((p.length:Int))))&&(decide ((C2 p 0)=(45))))) rfl (λhf=>?_) (λhf=>?_)
  ·have hl:=hf;try simp only[Vf,Ve] at hl
   have hm:=hf;try simp at hm
   refine Al (A5 (Am rfl) rfl (A5 (Ds CN rfl rfl (by first | omega | (simp;omega)) (by first | omega | (simp;omega))) rfl (A5 (A3 rfl) rfl (Ar ?_))));exact A2 (B7 trivial ⟨rfl,rfl,fs (by first | (simp only[hf,Vy,Vv,V1,Vo,V0,Vw,V2,Vz,Vx,Vu,VB,V7,VH,VC,reduceIte,Vr];done) | simp[hf]),trivial⟩ .slnil)
  ·have hl:=hf;try simp only[Vf,Ve] at hl
   have hm:=hf;try simp at hm
   refine A0 ?_;exact A2 (B7 trivial ⟨rfl,rfl,fs (by first | (simp only[hf,Vy,Vv,V1,Vo,V0,Vw,V2,Vz,Vx,Vu,VB,V7,VH,VC,reduceIte,Vr];done) | simp[hf]),trivial⟩ .slnil)
 have hdg:KY p=(if ((decide ((0)<((p.length:Int))))&&(decide ((C2 p 0)=(45))))=true then List.drop (Int.toNat (1)) p else p):=rfl;have hdl:=R1 p;rw[hdg] at hdl;generalize(if ((decide ((0)<((p.length:Int))))&&(decide ((C2 p 0)=(45))))=true then List.drop (Int.toNat (1)) p else p)=dg at hdg hdl ⊢;refine Ak (AG [(2,.bool (false)),(3,.string (B (dg))),(26,.bool (((decide ((dg)=(([]:List UInt8))))||((decide ((C2 dg 0)=(48)))&&(!(decide ((p)=(([48]:List UInt8)))))))))] [] (φ:=True) ?_ (λh1=>?_))
 ·refine Al (A5 (Am rfl) rfl (A5 (Cc rfl rfl) rfl (A5 (Am rfl) rfl (AT (decide ((dg)=(([]:List UInt8)))) (λha=>?_) (λha=>?_)))))
  ·have hn:=ha;try simp only[Vf,Ve] at hn
   have ho:=ha;try simp at ho
   refine AD rfl rfl ha rfl (AD rfl rfl ha rfl (AD rfl rfl ha rfl (AD rfl rfl ha rfl (BI rfl rfl rfl (BI rfl rfl rfl (AD rfl rfl ha rfl (A5 (A8 rfl ha rfl) rfl (Ar ?_))))))));exact A2 (B7 trivial ⟨rfl,rfl,fb (by first | (simp only[ha,Vy,Vv,V1,Vo,V0,Vw,V2,Vz,Vx,Vu,VB,V7,VH,VC,reduceIte,Vr];done) | simp[ha]),trivial⟩ .slnil)
  ·have hn:=ha;try simp only[Vf,Ve] at hn
   have ho:=ha;try simp at ho
   refine AU rfl rfl ha (A5 (Am rfl) rfl (AU rfl rfl ha (A5 (BO CN rfl rfl (by first | omega | exact EJ (by assumption)) (by first | omega | exact EJ (by assumption))) rfl (AU rfl rfl ha (A5 (BD rfl rfl) rfl (AU rfl rfl ha (A5 (Am rfl) rfl (AT (decide ((C2 dg 0)=(48))) (λhd=>?_) (λhd=>?_)))))))))
   ·have hq:=hd;try simp only[Vf,Ve] at hq
    have hr:=hd;try simp at hr
    refine AU rfl rfl hd (A5 (Am rfl) rfl (AU rfl rfl hd (A5 (J8 rfl rfl) rfl (AU rfl rfl ha (A5 (A8 rfl hd rfl) rfl (A5 (Ay rfl ha rfl) rfl (Ar ?_)))))));exact A2 (B7 trivial ⟨rfl,rfl,fb (by first | (simp only[ha,hd,Vy,Vv,V1,Vo,V0,Vw,V2,Vz,Vx,Vu,VB,V7,VH,VC,reduceIte,Vr];done) | simp[ha,hd]),trivial⟩ .slnil)
   ·have hq:=hd;try simp only[Vf,Ve] at hq
    have hr:=hd;try simp at hr
    refine AD rfl rfl hd rfl (AD rfl rfl hd rfl (AU rfl rfl ha (A5 (Ay rfl hd rfl) rfl (A5 (Ay rfl ha rfl) rfl (Ar ?_)))));exact A2 (B7 trivial ⟨rfl,rfl,fb (by first | (simp only[ha,hd,Vy,Vv,V1,Vo,V0,Vw,V2,Vz,Vx,Vu,VB,V7,VH,VC,reduceIte,Vr];done) | simp[ha,hd]),trivial⟩ .slnil)
 refine D9 (b:=((decide ((dg)=(([]:List UInt8))))||((decide ((C2 dg 0)=(48)))&&(!(decide ((p)=(([48]:List UInt8)))))))) rfl (λhe=>?_) (λhe=>?_)
 ·have hs:=he;try simp only[Vf,Ve] at hs
  have ht:=he;try simp at ht
  refine Ak (Al (A5 (A3 rfl) rfl (Ar (A2 (AX ?_)))));refine Ao (Ab (Ap (B1 rfl rfl) ?_));exact GU (by simp only[M0,hdg,he];rfl)
 ·have hs:=he;try simp only[Vf,Ve] at hs
  have ht:=he;try simp at ht
  refine A0 (A2 (AX ?_));refine Ak (Ak (Al (A5 (Am rfl) rfl (A5 (B9 CN rfl) rfl (A5 (Am rfl) rfl (Ar (A2 (AX ?_))))))));refine AE (Ip (S:=Nat) (λ(k:Nat)=>k≤dg.length∧Bk DE 0 dg=Bk DE k (dg.drop k)) (λ(k:Nat)=>[(29,.int .i64 ((k:Int))),(3,.string (B (dg))),(28,.int .i64 ((dg.length:Int)))]) (λ(k:Nat)=>[]) (λ(k:Nat)=>dg.length-k) (0) ?_ ⟨fi (by first | rfl | (simp;done) | omega | (simp;omega)),rfl,rfl,trivial⟩ .slnil ?_)
  ·exact⟨V9 _,by simp⟩
  rintro k hi0;refine Ak (Al (A5 (C9 rfl rfl) rfl (Ar (A2 (AX ?_)))));refine Ak (D9 (b:=decide (((k:Int))<((dg.length:Int)))) rfl (λhg=>?_) (λhg=>?_))
  ·have hi:=hg;try simp only[Vf,Ve] at hi
   have hu:=hg;try simp at hu
   refine A0 (A2 (AX ?_));refine Ak (AE (Ak (Al (A5 (Am rfl) rfl (A5 (A3 rfl) rfl (Ar (A2 (AX ?_))))))));refine AG [(3,.string (B (dg))),(4,.int .i64 ((k:Int))),(28,.int .i64 ((dg.length:Int))),(29,.int .i64 ((k:Int))),(30,.bool (decide (((k:Int))<((dg.length:Int))))),(31,.int .i64 ((k:Int))),(32,.string (B (dg))),(33,.int .i64 ((k:Int))),(34,.int .u8 (C2 dg (k:Int))),(35,.bool (decide ((C2 dg (k:Int))<(48)))),(36,.bool (decide ((C2 dg (k:Int))<(48)))),(41,.bool (((decide ((C2 dg (k:Int))<(48)))||(decide ((57)<(C2 dg (k:Int)))))))] [] (φ:=True) ?_ (λh2=>?_)
   ·refine Al (A5 (Am rfl) rfl (A5 (Am rfl) rfl (A5 (BO CN rfl rfl (by first | omega | exact EJ (by assumption)) (by first | omega | exact EJ (by assumption))) rfl (A5 (C9 rfl rfl) rfl (A5 (Am rfl) rfl (AT (decide ((C2 dg (k:Int))<(48))) (λhb=>?_) (λhb=>?_)))))))
    ·have hv:=hb;try simp only[Vf,Ve] at hv
     have hw:=hb;try simp at hw
     refine AD rfl rfl hb rfl (AD rfl rfl hb rfl (AD rfl rfl hb rfl (AD rfl rfl hb rfl (A5 (A8 rfl hb rfl) rfl (Ar ?_)))));exact A2 (B7 trivial ⟨rfl,rfl,rfl,rfl,rfl,rfl,rfl,rfl,rfl,rfl,rfl,fb (by first | (simp only[he,hg,hb,Vy,Vv,V1,Vo,V0,Vw,V2,Vz,Vx,Vu,VB,V7,VH,VC,reduceIte,Vr];done) | simp[he,hg,hb]),trivial⟩ .slnil)
    ·have hv:=hb;try simp only[Vf,Ve] at hv
     have hw:=hb;try simp at hw
     refine AU rfl rfl hb (A5 (Am rfl) rfl (AU rfl rfl hb (A5 (Am rfl) rfl (AU rfl rfl hb (A5 (BO CN rfl rfl (by first | omega | exact EJ (by assumption)) (by first | omega | exact EJ (by assumption))) rfl (AU rfl rfl hb (A5 (Ei rfl rfl) rfl (A5 (Ay rfl hb rfl) rfl (Ar ?_)))))))));exact A2 (B7 trivial ⟨rfl,rfl,rfl,rfl,rfl,rfl,rfl,rfl,rfl,rfl,rfl,fb (by first | (simp only[he,hg,hb,Vy,Vv,V1,Vo,V0,Vw,V2,Vz,Vx,Vu,VB,V7,VH,VC,reduceIte,Vr];done) | simp[he,hg,hb]),trivial⟩ .slnil)
   refine D9 (b:=((decide ((C2 dg (k:Int))<(48)))||(decide ((57)<(C2 dg (k:Int)))))) rfl (λhh=>?_) (λhh=>?_)
   ·have hx:=hh;try simp only[Vf,Ve] at hx
    have hy:=hh;try simp at hy
    refine Ak (Al (A5 (A3 rfl) rfl (Ar (A2 (AX ?_)))));refine Ao (Ax (Ab (Ab (Ax (Ab (Ap (B1 rfl rfl) ?_))))));exact GU (by simp[M0,hdg,TI hi0 hi hh])
   ·have hx:=hh;try simp only[Vf,Ve] at hx
    have hy:=hh;try simp at hy
    refine A0 (AH (A2 (AX ?_)));refine Al (A5 (B3 rfl rfl (IntWalk.i64_in _ (by omega))) rfl (A5 (Am rfl) rfl (Ar (A2 (AN (k+1) ?_ ⟨fi (by first | rfl | (simp;done) | omega | (simp;omega)),rfl,rfl,trivial⟩ .slnil)))));exact R2 hi0 hi hh
  ·have hi:=hg;try simp only[Vf,Ve] at hi
   have hu:=hg;try simp at hu
   refine Bt (Aw (Aw (Bb (A2 (AX ?_)))));refine Ak (Al (A5 (A3 rfl) rfl (Ar (A2 (AX ?_)))));refine Ao (Ap (B1 rfl rfl) ?_);exact GU (by simp only[M0,hdg,he,SJ hi0 hi];rfl)
theorem Rz (m:Int)(h0 : -9223372036854775808≤m)(h1:m≤9223372036854775807)(w:World)(hE:P2 w):Calls Tryz.prog 163 [.int .i64 (m)].toArray w (Ig w (.string (B (Lib.itoa m)))):=by
 refine E3 (n:=5) Tryz.func163 rfl Tryz.ntmps163 rfl (Ak (Al (A5 (A3 rfl) rfl (Ar (A2 (AX ?_))))));refine Ak (Al (A5 (Am rfl) rfl (BL Tryz.call122 rfl (λw hw=>T5 m (by omega) (by omega) w (hE.st0 hw)) rfl (A5 (A3 rfl) rfl (Ar (A2 (AX ?_)))))));refine Ao (Ap (B1 rfl rfl) ?_);exact GU (by first | rfl | simp[])
theorem Sl (p:List UInt8)(hp:p.length≤281474976710656)(w:World)(hE:P2 w):Calls Tryz.prog 98 [.string (B (p))].toArray w (Ig w (.tuple #[.int .i64 (Ci p),.int .i64 (Dr p)])):=by
 refine E3 (n:=22) Tryz.func98 rfl Tryz.ntmps98 rfl (Ak (Al (A5 (A3 rfl) rfl (A5 (A3 rfl) rfl (Ar (A2 (AX ?_)))))));refine Ak (Ak (Al (A5 (Am rfl) rfl (BL Tryz.call146 rfl (λw hw=>Qh p (by first | omega | (simp;done) | (simp;omega) | (simp at *;omega)) w) rfl (A5 (BT rfl) rfl (Ar (A2 (AX ?_))))))));refine D9 (b:=!(M0 p)) rfl (λhb=>?_) (λhb=>?_)
 ·have he:=hb;try simp only[Vf,Ve] at he
  have ha:=hb;try simp only[Vf,Ve,Vm,V6,VG,Bool.not_eq_false',Bool.and_eq_false_iff,VN,not_or,Int.not_lt,Int.not_le] at ha
  refine Ak (Al (A5 (A3 rfl) rfl (A5 (A3 rfl) rfl (Ar (A2 (AX ?_))))));refine Ao (Ab (Ap (Gs rfl rfl rfl) ?_));exact GU (by simp[Ci,Dr,ha])
 ·have he:=hb;try simp only[Vf,Ve] at he
  have ha:=hb;try simp only[Vf,Ve,Vm,V6,VG,Bool.not_eq_false',Bool.and_eq_false_iff,VN,not_or,Int.not_lt,Int.not_le] at ha
  refine A0 (A2 (AX ?_));refine Ak (Al (A5 (Am rfl) rfl ?_));rcases RB (p:=p) (by assumption) with⟨av,hav,hal,hah⟩ | hav
  ·refine BL Tryz.call147 rfl (λw _=>SN p (by first | omega | (simp;done) | (simp;omega) | (simp at *;omega)) av hav w) rfl (A5 (Am rfl) rfl (A5 (A4 rfl rfl) rfl (A5 (A4 rfl rfl) rfl (A5 (A3 rfl) rfl (A5 (A3 rfl) rfl (Ar (A2 (AX ?_))))))));refine Ak (AG [(2,.int .i64 (0)),(3,.int .i64 (0)),(4,.int .i64 (av)),(20,.bool (!(Kv av)))] [] (φ:=True) ?_ (λhg=>?_))
   ·exact Al (A5 (Am rfl) rfl (A5 (Nl Tryz.underlying198 rfl) rfl (A5 (Am rfl) rfl (AU rfl rfl rfl (A5 (Am rfl) rfl (AU rfl rfl rfl (BL Tryz.call142 rfl (λw hw=>RU av w) rfl (AU rfl rfl rfl (A5 (BT rfl) rfl (A5 (Ay rfl rfl rfl) rfl (Ar (A2 (B7 trivial ⟨rfl,rfl,rfl,rfl,trivial⟩ .slnil)))))))))))))
   refine D9 (b:=!(Kv av)) rfl (λhc=>?_) (λhc=>?_)
   ·have hf:=hc;try simp only[Vf,Ve] at hf
    have hd:=hc;try simp only[Vf,Ve,Vm,V6,VG,Bool.not_eq_false',Bool.and_eq_false_iff,VN,not_or,Int.not_lt,Int.not_le] at hd
    refine Ak (Al (A5 (A3 rfl) rfl (A5 (A3 rfl) rfl (Ar (A2 (AX ?_))))));refine Ao (Ab (Ap (Gs rfl rfl rfl) ?_));exact GU (by simp[Ci,Dr,hav,ha,hd])
   ·have hf:=hc;try simp only[Vf,Ve] at hf
    have hd:=hc;try simp only[Vf,Ve,Vm,V6,VG,Bool.not_eq_false',Bool.and_eq_false_iff,VN,not_or,Int.not_lt,Int.not_le] at hd
    refine A0 (A2 (AX ?_));refine Ak (Al (A5 (Am rfl) rfl (A5 (A3 rfl) rfl (A5 (A3 rfl) rfl (Ar (A2 (AX ?_)))))));refine Ao (Ap (Gs rfl rfl rfl) ?_);exact GU (by simp[Ci,Dr,hav,ha,hd])
  ·refine OM Tryz.call147 rfl (λw hw=>OB p (by first | omega | (simp;done) | (simp;omega) | (simp at *;omega)) hav w (hE.st0 hw)) rfl ?_;rintro _ _ ⟨am,at_,ab,rfl,rfl⟩;refine A5 (Am rfl) rfl (A5 (A4 rfl rfl) rfl (A5 (A4 rfl rfl) rfl (A5 (A3 rfl) rfl (A5 (A3 rfl) rfl (Ar (A2 (AX ?_)))))));refine Ak (AG [(2,.int .i64 (0)),(3,.int .i64 (0)),(4,.int .i64 (am)),(20,.bool (true))] [] (φ:=True) ?_ (λhh=>?_))
   ·exact Al (A5 (Am rfl) rfl (A5 (Sq Tryz.underlying198 rfl) rfl (A5 (Am rfl) rfl (AD rfl rfl rfl rfl (AD rfl rfl rfl rfl (AD rfl rfl rfl rfl (A5 (A8 rfl rfl rfl) rfl (Ar (A2 (B7 trivial ⟨rfl,rfl,rfl,rfl,trivial⟩ .slnil))))))))))
   refine BZ rfl rfl (Ak (Al (A5 (A3 rfl) rfl (A5 (A3 rfl) rfl (Ar (A2 (AX ?_)))))));refine Ao (Ab (Ap (Gs rfl rfl rfl) ?_));exact GU (by simp[Ci,Dr,hav,ha])
end Go.Proofs.YtmjlemhondjfhaaGreatDoor
namespace Go.Proofs
open Go.Shelf
def Tryz.lays169_ren:Go.Shelf.Ren:=⟨fun | 169=>120 | n=>n,fun | 70=>174 | 9=>9 | 0=>0 | 72=>177 | 37=>175 | 127=>213 | 3=>3 | 5=>5 | n=>n,fun | n=>n⟩
theorem Tryz.lays169:Go.Proofs.Lays.n169 Tryz.prog Tryz.lays169_ren:={
 mixed:=by kernel_rfl
 f169:=Tryz.func120.trans (congrArg some (by kernel_rfl))
 t0:=Tryz.underlying0
 a0:=Tryz.isAgg0
 z0:=Tryz.sizeOf0
 v0:=Tryz.zeroValue0
 t3:=Tryz.underlying3
 a3:=Tryz.isAgg3
 z3:=Tryz.sizeOf3
 v3:=Tryz.zeroValue3
 t9:=Tryz.underlying9
 a9:=Tryz.isAgg9
 z9:=Tryz.sizeOf9
 v9:=Tryz.zeroValue9
 t37:=Tryz.underlying175
 a37:=Tryz.isAgg175
 z37:=Tryz.sizeOf175
 v37:=Tryz.zeroValue175
 t70:=Tryz.underlying174
 a70:=Tryz.isAgg174
 z70:=Tryz.sizeOf174
 v70:=Tryz.zeroValue174
 t72:=Tryz.underlying177
 a72:=Tryz.isAgg177
 z72:=Tryz.sizeOf177
 v72:=Tryz.zeroValue177
 t127:=Tryz.underlying213
 a127:=Tryz.isAgg213
 z127:=Tryz.sizeOf213
 v127:=Tryz.zeroValue213 }
theorem Tryz.Builder_Extra_169:Builder.Extra Tryz.prog Tryz.lays169_ren:={
 sizeBuilder:=by kernel_rfl
 liesBuilder:=by kernel_rfl
 t5:=Tryz.underlying5
 a5:=Tryz.isAgg5
 z5:=Tryz.sizeOf5
 v5:=Tryz.zeroValue5
 infoByte:=by kernel_rfl
 cellsByte:=by kernel_rfl
 sizeByte:=by kernel_rfl
 neB5:=by decide }
open Go.RowKit in
theorem Tryz.Builder_String_any (B b:Nat)(l:List UInt8)(w:World)(h:Lib.IsBuilder 177 5 B b (Lib.byteCells l) w)(hBw:B≤w.heap.size) :
  Calls Tryz.prog 120 #[.pointer (some ⟨b,0,none⟩)] w λe w'=>e = .returned (.string ⟨l.toArray⟩)∧Below B w w':=Any.Builder_String_any Tryz.lays169 Tryz.Builder_Extra_169 B b l w h hBw
def Tryz.lays138_ren:Go.Shelf.Ren:=⟨fun | 138=>179 | 195=>204 | 218=>205 | 143=>206 | 219=>180 | 217=>207 | 225=>208 | 224=>209 | 267=>210 | 266=>231 | 314=>232 | n=>n,fun | 9=>9 | 3=>3 | 4=>4 | 5=>5 | 0=>0 | 46=>196 | 146=>254 | 51=>229 | n=>n,fun | 1=>0 | n=>n⟩
theorem Tryz.lays138:Go.Proofs.Lays.n138 Tryz.prog Tryz.lays138_ren:={
 mixed:=by kernel_rfl
 f138:=Tryz.func179.trans (congrArg some (by kernel_rfl))
 f143:=Tryz.func206.trans (congrArg some (by kernel_rfl))
 f195:=Tryz.func204.trans (congrArg some (by kernel_rfl))
 f217:=Tryz.func207.trans (congrArg some (by kernel_rfl))
 f218:=Tryz.func205.trans (congrArg some (by kernel_rfl))
 f219:=Tryz.func180.trans (congrArg some (by kernel_rfl))
 f224:=Tryz.func209.trans (congrArg some (by kernel_rfl))
 f225:=Tryz.func208.trans (congrArg some (by kernel_rfl))
 f266:=Tryz.func231.trans (congrArg some (by kernel_rfl))
 f267:=Tryz.func210.trans (congrArg some (by kernel_rfl))
 f314:=Tryz.func232.trans (congrArg some (by kernel_rfl))
 t0:=Tryz.underlying0
 a0:=Tryz.isAgg0
 z0:=Tryz.sizeOf0
 v0:=Tryz.zeroValue0
 t3:=Tryz.underlying3
 a3:=Tryz.isAgg3
 z3:=Tryz.sizeOf3
 v3:=Tryz.zeroValue3
 t4:=Tryz.underlying4
 a4:=Tryz.isAgg4
 z4:=Tryz.sizeOf4
 v4:=Tryz.zeroValue4
 t5:=Tryz.underlying5
 a5:=Tryz.isAgg5
 z5:=Tryz.sizeOf5
 v5:=Tryz.zeroValue5
 t9:=Tryz.underlying9
 a9:=Tryz.isAgg9
 z9:=Tryz.sizeOf9
 v9:=Tryz.zeroValue9
 t46:=Tryz.underlying196
 a46:=Tryz.isAgg196
 z46:=Tryz.sizeOf196
 v46:=Tryz.zeroValue196
 t51:=Tryz.underlying229
 a51:=Tryz.isAgg229
 z51:=Tryz.sizeOf229
 v51:=Tryz.zeroValue229
 t146:=Tryz.underlying254
 a146:=Tryz.isAgg254
 z146:=Tryz.sizeOf254
 v146:=Tryz.zeroValue254
 g1:=by kernel_rfl }
open Go.RowKit Go.Lib in
theorem Tryz.strings_Count_one (s:ByteArray)(c:UInt8)(w:World) :
  Calls Tryz.prog 179 #[.string s,.string ⟨#[c]⟩] w λe w'=>e = .returned (.int .i64 (Lib.countByte s.data.toList c))∧w'=w:=Any.strings_Count_one Tryz.lays138 s c w
end Go.Proofs
namespace Go.Proofs.YtmjlemhondjfhaaGreatDoor
open Go
set_option linter.unusedVariables false
set_option linter.unusedSimpArgs false
open Go Go.RowKit
section
variable {P : Program} {n : Nat} {w0 : World} {M : List Nat} {l : Fr} {H : List Ent} {d : Option Nat} {x y : Operand} {ty t t' : TypeId} {pos : String} {af : Array Edge} {g : Option (Nat × Bool)} {k : IntKind} {p q z : Int}
end
set_option maxRecDepth 100000
end Go.Proofs.YtmjlemhondjfhaaGreatDoor
namespace Go.Proofs
open Go.Shelf
end Go.Proofs
namespace Go.Proofs.YtmjlemhondjfhaaGreatDoor.Q
open Go Go.RowKit
set_option linter.unusedVariables false
def GE (Z:Fz):Prop:=∀w,P1 Z w→P2 w
theorem GE.mono {Z Z':Fz}(h:Fz.le Z Z')(hg:GE Z):GE Z':=λw hw=>hg w ⟨λb o e=>hw b o (h b o e),λk i b e=>hw.nm k i b (h.nm k i b e)⟩
theorem Jz.rle {P:Program}{E:Fz→Prop}{f:FuncId}{args:List Rp}{r r':Rp}(h:Jz P E f args r)(hr:DL r r'):Jz P E f args r':=λw Z vs hv hs=>
 (h w Z vs hv hs).mono λe w' ⟨q,v,H,Z',he,⟨hq,hH⟩,hp,ht⟩=>⟨r',v,H,Z',he,⟨rfl,hH⟩,hr Z' v (hq▸hp),ht⟩
theorem DL.tup2 {a b:Value}:DL (rv (.tuple #[a,b])) (C0 [rv a,rv b]):=λZ v h=>⟨[a,b],h,rfl,rfl,trivial⟩
theorem Jz.of_id {P:Program}{E:Fz→Prop}{f:FuncId}{vs:List Value}{v:Value}(h:∀w,Calls P f vs.toArray w (λe w'=>e = .returned v∧w'=w)):Jz P E f (vs.map rv) (rv v):=
 Jz.of_old λw Z _ _=>(h w).mono λe w' ⟨he,hw⟩=>⟨he,by rw[hw];exact Proofs.YtmjlemhondjfhaaGreatDoor.St.refl w []⟩
theorem NB (m:Int)(g:Cf .i64 m=true):Jz Tryz.prog GE 163 [rI .i64 m] (rS (Lib.itoa m)):=Jz.of_old (vs:=[.int .i64 m]) λw Z hf he=>Rz m (Mr g).1 (Mr g).2 w (he w hf)
theorem OV (s:Ai)(g:DV 1 s.length=true):Jz Tryz.prog GE 98 [rS s] (C0 [rI .i64 (Ci s),rI .i64 (Dr s)]):=(Jz.of_old (vs:=[.string (B s)]) λw Z hf he=>Sl s (by simp[DV] at g;omega) w (he w hf)).rle DL.tup2
theorem M1 (s:Ai)(c:UInt8):Jz Tryz.prog GE 179 [rS s,rS [c]] (rI .i64 (Lib.countByte s c)):=Jz.of_id (vs:=[.string (B s),.string (B [c])]) λw=>by have:=Tryz.strings_Count_one (B s) c w;rwa [OE] at this
theorem SZ (s:Ai)(m:Int):Jz Tryz.prog GE 207 [rS s,rI .u8 m] (rI .i64 (Lib.indexByte s (Int.toNat m).toUInt8)):=Jz.of_old (vs:=[.string (B s),.int .u8 m]) λw Z hf he=>N0 s m w
theorem SB (s:Ai):Jz Tryz.prog GE 115 [rS s] (rB (Lm s)):=Jz.of_old (vs:=[.string (B s)]) λw Z hf he=>UN s w
theorem KJ (s:Ai):Jz Tryz.prog GE 85 [rS s] (rB (D0 s)):=Jz.of_old (vs:=[.string (B s)]) λw Z hf he=>Tw s w
open Go Go.RowKit Go.ChangeShapes Go.Deep
set_option linter.unusedSimpArgs false
def ZW (W:World):Fz:=⟨λb=>W.heap[b]?,λ_ _=>none⟩
theorem ZW.frz (W:World):P1 (ZW W) W:=⟨λ_ _ h=>h,λ_ _ _ h=>by cases h⟩
def M9 (P:Program)(e:TypeId){α:Type}(enc:α→List Rp)(ok:α→Bool):Prop:=
 ∀{H:Type} {encH:TypeId×Value→H} {W:World} {sp:Nat→Bool} {held:Bool} {n:Nat} {cs:List Value} {x:DataW H×List MemPlace},DataW.trod encH P W 0 sp held n e cs=some x→∃y:α,ok y=true∧Ba (ZW W) (enc y) cs
section
variable {P : Program} {e t : TypeId}
theorem M9.int {k:IntKind}{enc:Int→List Rp}(ht:P.underlying e=some (.int k))(he:∀n,enc n=[rI k n]):M9 P e enc (Cf k):=λh=>by
 obtain⟨n,rfl,_,hwf⟩:=DataW.trod_int ht h;exact⟨n,hwf,by rw[he];exact⟨rfl,trivial⟩⟩
theorem M9.str {enc:Ai→List Rp}(ht:P.underlying e=some .string)(he:∀n,enc n=[rS n]):M9 P e enc Vb:=λh=>by
 obtain⟨s,rfl,_,hl⟩:=DataW.trod_string ht h;exact⟨s.data.toList,VM (by rw[Array.length_toList];exact hl),by rw[he];exact⟨congrArg Value.string (U3 s),trivial⟩⟩
theorem M9.bool {enc:Bool→List Rp}(ht:P.underlying e=some .bool)(he:∀n,enc n=[rB n]):M9 P e enc (λ_=>true):=λh=>by
 obtain⟨b,rfl,_⟩:=DataW.trod_bool ht h;exact⟨b,rfl,by rw[he];exact⟨rfl,trivial⟩⟩
theorem H9 {W:World}{a:Addr}{v:Value}(h:W.cell? a=some v):a.spot=none∧EW (ZW W) a.block a.off=some v:=by
 unfold World.cell? at h;unfold EW ZW;dsimp only
 cases hh:W.heap[a.block]? with
 | none=>rw[hh] at h;cases h
 | some o=>
  rw[hh] at h
  cases o with
  | cells cs t fz=>
   cases hs:a.spot with
   | none=>simp[hs] at h;exact⟨rfl,h⟩
   | some _=>simp[hs] at h
  | _=>simp at h
theorem M9.slice {α:Type}[Inhabited α]{enc:α→List Rp}{ok:α→Bool}{sz:Nat}(ht:P.underlying t=some (.slice e))(hc:P.cellsOf e=sz)(hsz:0<sz)(h:M9 P e enc ok)(hlen:∀y,(enc y).length=sz){enc':List α→List Rp}(he:∀ys,enc' ys=[AC sz (ys.map enc)]) :
  M9 P t enc' (λys=>ys.all ok&&decide (ys.length≤9223372036854775807)):=fun {H encH W sp held n cs x} hx=>by
 rcases open_slice ht hx with⟨rfl,_⟩ | ⟨a,len,cap,m,n',D,Pl,rfl,hb,hl,hm,hmm,_,hel⟩
 ·exact⟨[],by simp,by rw[he];exact⟨NR.nil sz _,trivial⟩⟩
 ·have hlm:len≤m:=by rw[hmm];split<;>omega
  have each:∀i,i<len→∃y:α,ok y=true∧∃cs',W.cells? 0 (a.add (i*sz)) sz=some cs'∧Ba (ZW W) (enc y) cs':=λi hi=>by
   obtain⟨cs',h1,h2⟩:=hel i (by omega);obtain⟨y,hy,hr⟩:=h h2;rw[hc] at h1;exact⟨y,hy,cs',h1,hr⟩
  obtain⟨f,hf⟩:=choose_lt each;refine⟨(List.range len).map f,?_,?_⟩
  ·simp only[Vm,V8,List.mem_map,List.mem_range,Vf];refine⟨?_,by simp;simp only[maxLen] at hm;omega⟩;rintro _ ⟨i,hi,rfl⟩;exact(hf i hi).1
  ·rw[he];refine⟨⟨some a,cap,by simp,by simpa using hl,hm,(λh=>by cases h),λi c hi=>?_⟩,trivial⟩;rw[VL,Vs] at hi;have hil:i<len:=by
    cases hq:(List.range len)[i]? with
    | none=>rw[hq] at hi;cases hi
    | some _=>have:=(List.getElem?_eq_some_iff.1 hq).1;simpa using this
   rw[List.getElem?_range hil] at hi;simp only[Option.map_some,Option.some.injEq,Function.comp] at hi;subst hi;obtain⟨_,cs',h1,hr⟩:=hf i hil;obtain⟨_,hcl,hcell⟩:=World.cells?_some h1;have hsp:a.spot=none:=by
    obtain⟨_,cs0,g1,_⟩:=hf 0 (by omega);obtain⟨_,gcl,gcell⟩:=World.cells?_some g1;have h0:=gcell 0 hsz;rw[Vh (by omega)] at h0;have:=(H9 h0).1;simpa[Addr.add] using this
   refine⟨hlen _,a,rfl,hsp,λj r hj=>?_⟩;obtain⟨u,hu,hp⟩:=hr.at hj;have hjs:j<sz:=by have:=(List.getElem?_eq_some_iff.1 hj).1;rw[hlen] at this;exact this
   have h3:=hcell j hjs;rw[hu] at h3;have h4:=(H9 h3).2;refine⟨u,?_,hp⟩;have e1:((a.add (i*sz)).add j).block=a.block:=by simp only[Addr.add];split<;>split<;>rfl
   have e2:((a.add (i*sz)).add j).off=a.off+(i*sz+j):=by simp only[Addr.add];split<;>split<;>simp_all<;>omega
   rw[e1,e2] at h4;exact h4
theorem OR {Z:Fz}{cs:List Value}{o:Nat}(h:cs.length=o):Ba Z [] (cs.drop o):=by rw[List.drop_of_length_le (by omega)];trivial
theorem Gc {Z:Fz}{cs:List Value}{o s o':Nat}{rs rs':List Rp}(h:Ba Z rs ((cs.drop o).take s))(ho:o+s=o')(h2:Ba Z rs' (cs.drop o')):Ba Z (rs++rs') (cs.drop o):=by
 rw[← VO s (cs.drop o),List.drop_drop];subst ho;exact h.append h2
theorem M9.val {α:Type}{enc:α→List Rp}{ok:α→Bool}(h:M9 P e enc ok){r:α→Rp}(he:∀y,enc y=[r y]){H:Type}{encH:TypeId×Value→H}{W:World}{sp:Nat→Bool}{held:Bool}{v:Value}{d:DataW H}{ps:List MemPlace}
  (hone:v.cells = #[v]) (ht:DataW.Trod encH P W 0 sp held e v d ps):∃y:α,ok y=true∧(r y).p (ZW W) v:=by
 obtain⟨fuel,hf⟩:=ht;rw[hone] at hf;obtain⟨y,hy,hr⟩:=h hf;rw[he] at hr;exact⟨y,hy,hr.1⟩
theorem M9.valAgg {α:Type}{enc:α→List Rp}{ok:α→Bool}(h:M9 P e enc ok){H:Type}{encH:TypeId×Value→H}{W:World}{sp:Nat→Bool}{held:Bool}{cs:Array Value}{d:DataW H}{ps:List MemPlace}
  (ht:DataW.Trod encH P W 0 sp held e (.agg cs) d ps):∃y:α,ok y=true∧(Bm (enc y)).p (ZW W) (.agg cs):=by
 obtain⟨fuel,hf⟩:=ht;obtain⟨y,hy,hr⟩:=h hf;exact⟨y,hy,cs.toList,by simp,hr⟩
end
theorem Rx {W w:World}(hw:P1 (ZW W) w):W.heap.size≤w.heap.size:=by
 rcases Nat.eq_zero_or_pos W.heap.size with h | h
 ·omega
 ·have h1:W.heap[W.heap.size-1]? =some (W.heap[W.heap.size-1]'(by omega)):=Array.getElem?_eq_getElem (by omega);have:=(Array.getElem?_eq_some_iff.1 (hw _ _ h1)).1;omega
theorem Qd {W:World}(hE:P2 W):GE (ZW W):=λw hw=>by
 have hb:Below W.heap.size W { w with os:=W.os,tape:=W.tape,output:=W.output }:=⟨rfl,rfl,rfl,(show W.heap.size≤w.heap.size from Rx hw),λk hk=>by
  have h1:W.heap[k]? =some (W.heap[k]'hk):=Array.getElem?_eq_getElem hk;rw[h1];exact hw k _ h1⟩
 have hE2:=hE.st0 (St.of_below hb);exact⟨M7.block { w with os:=W.os,tape:=W.tape,output:=W.output } w (λ_ _=>rfl) hE2.tabs,hE2.size⟩
theorem Q6 {W:World}(hE:P2 W):St ⟨W,ZW W,[],GE,[]⟩ [] (ZW W) W where
 os:=rfl
 tape:=rfl
 output:=rfl
 size:=Vp _
 old:=λ_ _ _=>rfl
 has:=λ_ h=>by cases h
 own:=λ_ h=>by cases h
 dis:=.nil
 frz:=ZW.frz W
 le:=Fz.le.refl _
 new:=λ_ _ h=>.inl h
 zdis:=λ_ h=>by cases h
 env:=Qd hE
 emono:=λh hg=>GE.mono h hg
 gst:=Ja.none rfl
theorem Q7 {W W':World}{Z Z':Fz}{E:Fz→Prop}{H:List Ent}(h:St ⟨W,Z,[],E,[]⟩ H Z' W'):Below W.heap.size W W':=⟨h.os,h.tape,h.output,h.size,λk hk=>h.old k hk (by simp)⟩
def DM (P:Program)(e:TypeId){α:Type}(enc:α→List Rp)(ok:α→Bool):Prop:=
 ∀{H:Type} {encH:TypeId×Value→H} {W:World} {sp:Nat→Bool} {held:Bool} {n:Nat} {cs:List Value} {x:DataW H×List MemPlace},DataW.trod encH P W 0 sp held n e cs=some x→Rows.uptoBulk x.1≤1048576→∃y:α,ok y=true∧Ba (ZW W) (enc y) cs
theorem R5 {H:Type}(d:DataW H):1≤Rows.uptoBulk d:=by
 cases d with
 | lit l=>cases l<;>simp[Rows.uptoBulk]
 | _=>simp[Rows.uptoBulk]
theorem IW {H:Type}:∀{ds:List (DataW H)} {d:DataW H},d∈ds→Rows.uptoBulk d≤Rows.uptoBulkAll ds
 | [],_,h=>by cases h
 | x::r,d,h=>by
  rw[Rows.uptoBulkAll];rcases List.mem_cons.1 h with rfl | h
  ·omega
  ·have:=IW h;omega
theorem NL {H:Type}:∀(ds:List (DataW H)),ds.length≤Rows.uptoBulkAll ds
 | []=>V9 _
 | x::r=>by
  rw[Rows.uptoBulkAll];have:=NL r;have:=R5 x;simp only[VA];omega
section
variable {P : Program} {e t : TypeId}
theorem M9.toB {α:Type}{enc:α→List Rp}{ok:α→Bool}(h:M9 P e enc ok):DM P e enc ok:=λhx _=>h hx
theorem DM.int {k:IntKind}{enc:Int→List Rp}(ht:P.underlying e=some (.int k))(he:∀n,enc n=[rI k n]):DM P e enc (Cf k):=M9.toB (M9.int ht he)
theorem DM.bool {enc:Bool→List Rp}(ht:P.underlying e=some .bool)(he:∀n,enc n=[rB n]):DM P e enc (λ_=>true):=M9.toB (M9.bool ht he)
theorem DM.str {enc:Ai→List Rp}(ht:P.underlying e=some .string)(he:∀n,enc n=[rS n]):DM P e enc Sm:=λh hb=>by
 obtain⟨s,rfl,hx,hl⟩:=DataW.trod_string ht h;subst hx;simp only[Rows.uptoBulk] at hb;exact⟨s.data.toList,VM (by omega),by rw[he];exact⟨congrArg Value.string (U3 s),trivial⟩⟩
theorem DM.slice {α:Type}[Inhabited α]{enc:α→List Rp}{ok:α→Bool}{sz:Nat}(ht:P.underlying t=some (.slice e))(hc:P.cellsOf e=sz)(hsz:0<sz)(h:DM P e enc ok)(hlen:∀y,(enc y).length=sz){enc':List α→List Rp}(he:∀ys,enc' ys=[AC sz (ys.map enc)]) :
  DM P t enc' (λys=>ys.all ok&&decide (ys.length≤1048576)):=fun {H encH W sp held n cs x} hx hB=>by
 rcases open_slice ht hx with⟨rfl,_⟩ | ⟨a,len,cap,m,n',D,Pl,rfl,hb,hl,hm,hmm,hxe,hel⟩
 ·exact⟨[],by simp,by rw[he];exact⟨NR.nil sz _,trivial⟩⟩
 ·have hlm:len≤m:=by rw[hmm];split<;>omega
  subst hxe;simp only[Rows.uptoBulk] at hB;have hlb:len≤1048576:=by
   have:=NL ((List.range len).map D);rw[Vl,List.length_range] at this;omega
  have each:∀i,i<len→∃y:α,ok y=true∧∃cs',W.cells? 0 (a.add (i*sz)) sz=some cs'∧Ba (ZW W) (enc y) cs':=λi hi=>by
   obtain⟨cs',h1,h2⟩:=hel i (by omega);obtain⟨y,hy,hr⟩:=h h2 (by
    have:=IW (List.mem_map.2 ⟨i,List.mem_range.2 hi,rfl⟩:D i∈(List.range len).map D);show Rows.uptoBulk (D i)≤1048576;omega)
   rw[hc] at h1;exact⟨y,hy,cs',h1,hr⟩
  obtain⟨f,hf⟩:=choose_lt each;refine⟨(List.range len).map f,?_,?_⟩
  ·simp only[Vm,V8,List.mem_map,List.mem_range,Vf];refine⟨?_,by simpa using hlb⟩;rintro _ ⟨i,hi,rfl⟩;exact(hf i hi).1
  ·rw[he];refine⟨⟨some a,cap,by simp,by simpa using hl,hm,(λh=>by cases h),λi c hi=>?_⟩,trivial⟩;rw[VL,Vs] at hi;have hil:i<len:=by
    cases hq:(List.range len)[i]? with
    | none=>rw[hq] at hi;cases hi
    | some _=>have:=(List.getElem?_eq_some_iff.1 hq).1;simpa using this
   rw[List.getElem?_range hil] at hi;simp only[Option.map_some,Option.some.injEq,Function.comp] at hi;subst hi;obtain⟨_,cs',h1,hr⟩:=hf i hil;obtain⟨_,hcl,hcell⟩:=World.cells?_some h1;have hsp:a.spot=none:=by
    obtain⟨_,cs0,g1,_⟩:=hf 0 (by omega);obtain⟨_,gcl,gcell⟩:=World.cells?_some g1;have h0:=gcell 0 hsz;rw[Vh (by omega)] at h0;have:=(H9 h0).1;simpa[Addr.add] using this
   refine⟨hlen _,a,rfl,hsp,λj r hj=>?_⟩;obtain⟨u,hu,hp⟩:=hr.at hj;have hjs:j<sz:=by have:=(List.getElem?_eq_some_iff.1 hj).1;rw[hlen] at this;exact this
   have h3:=hcell j hjs;rw[hu] at h3;have h4:=(H9 h3).2;refine⟨u,?_,hp⟩;have e1:((a.add (i*sz)).add j).block=a.block:=by simp only[Addr.add];split<;>split<;>rfl
   have e2:((a.add (i*sz)).add j).off=a.off+(i*sz+j):=by simp only[Addr.add];split<;>split<;>simp_all<;>omega
   rw[e1,e2] at h4;exact h4
theorem Er {H:Type}{xs:List (DataW H×List MemPlace)}{i:Nat}(hi:i<xs.length)(h:Rows.uptoBulk (DataW.agg (xs.map (·.1)))≤1048576):Rows.uptoBulk (xs[i]).1≤1048576:=by
 rw[Rows.uptoBulk] at h;have:=IW (List.mem_map.2 ⟨xs[i],List.getElem_mem hi,rfl⟩:(xs[i]).1∈xs.map (·.1));omega
theorem DM.val {α:Type}{enc:α→List Rp}{ok:α→Bool}(h:DM P e enc ok){r:α→Rp}(he:∀y,enc y=[r y]){H:Type}{encH:TypeId×Value→H}{W:World}{sp:Nat→Bool}{held:Bool}{v:Value}{d:DataW H}{ps:List MemPlace}
  (hone:v.cells = #[v]) (ht:DataW.Trod encH P W 0 sp held e v d ps) (hb:Rows.uptoBulk d≤1048576):∃y:α,ok y=true∧(r y).p (ZW W) v:=by
 obtain⟨fuel,hf⟩:=ht;rw[hone] at hf;obtain⟨y,hy,hr⟩:=h hf hb;rw[he] at hr;exact⟨y,hy,hr.1⟩
theorem DM.valAgg {α:Type}{enc:α→List Rp}{ok:α→Bool}(h:DM P e enc ok){H:Type}{encH:TypeId×Value→H}{W:World}{sp:Nat→Bool}{held:Bool}{cs:Array Value}{d:DataW H}{ps:List MemPlace}
  (ht:DataW.Trod encH P W 0 sp held e (.agg cs) d ps) (hb:Rows.uptoBulk d≤1048576):∃y:α,ok y=true∧(Bm (enc y)).p (ZW W) (.agg cs):=by
 obtain⟨fuel,hf⟩:=ht;obtain⟨y,hy,hr⟩:=h hf hb;exact⟨y,hy,cs.toList,by simp,hr⟩
end
structure At {α:Type} (i:Nat) (l:List α) (e:α) (l':List α):Prop where
 go:l.Perm (e::l')
theorem Uu {α:Type}{e:α}{l:List α}:At 0 (e::l) e l:=⟨Vi _⟩
theorem Ut {α:Type}{i:Nat}{x e:α}{l l':List α}(h:At i l e l'):At (i+1) (x::l) e (x::l'):=⟨(h.go.cons x).trans (List.Perm.swap e x l')⟩
structure Pk {α:Type} (is:List Nat) (l l':List α):Prop where
 go:l.Perm l'
theorem TX {α:Type}{l:List α}:Pk [] l l:=⟨Vi _⟩
theorem TW {α:Type}{i:Nat}{r:List Nat}{l l1 l2:List α}{e:α}(h:At i l e l1)(t:Pk r l1 l2):Pk (i::r) l (e::l2):=⟨h.go.trans (t.go.cons e)⟩
structure Qn {α:Type} (i:Nat) (l:List α) (x:α) (l':List α):Prop where
 go:l.set i x=l'
theorem Tp {α:Type}{a x:α}{l:List α}:Qn 0 (a::l) x (x::l):=⟨rfl⟩
theorem To {α:Type}{i:Nat}{a x:α}{l l':List α}(h:Qn i l x l'):Qn (i+1) (a::l) x (a::l'):=⟨by rw[List.set_cons_succ,h.go]⟩
structure Qo {α:Type} (i:Nat) (rs l l':List α):Prop where
 go:l.take i++rs++l.drop (i+rs.length)=l'
theorem UH {α:Type}{l:List α}:Qo 0 [] l l:=⟨by simp⟩
theorem UG {α:Type}{r a:α}{rs l l':List α}(h:Qo 0 rs l l'):Qo 0 (r::rs) (a::l) (r::l'):=⟨by
 have:=h.go;simp only[List.take_zero,List.nil_append,V3] at this ⊢;rw[VA,List.drop_succ_cons,List.cons_append,this]⟩
theorem UF {α:Type}{i:Nat}{a:α}{rs l l':List α}(h:Qo i rs l l'):Qo (i+1) rs (a::l) (a::l'):=⟨by
 have:=h.go;rw[List.take_succ_cons,show i+1+rs.length=(i+rs.length)+1 from by omega,List.drop_succ_cons,List.cons_append,List.cons_append,this]⟩
section
variable {P : Program} {n : Nat} {c : Cx} {ops opsA : Array Oper} {Q : Exit → Act → World → Prop} {rest : List Oper} {l l' : Fr} {H H' H2 Hr : List Ent} {x : Code} {K : Act → World → Prop} {d : Nat} {ty t e : TypeId} {pos : String} {af : Array Edge} {y z : Operand} {r : Rp} {sz : Nat}
theorem J5 (is:List Nat)(h:WK n c K l H2)(hp:Pk is H H2:=by repeat (first | exact TX | apply TW | exact Uu | apply Ut)):WK n c K l H:=RP hp.go h
theorem EP (is:List Nat){f:FuncId}{args:List Operand}{ats:Array TypeId}{rs:List Rp}{Hin:List Ent}{Φ:Rp→List Ent→Prop}(hcall:∀(as1:Array Value) (w:World),(callFunc f as1).run P w = .ok (.enter f as1) w)(hc:Fn P c.E f rs Hin Φ)
  (h:∀r Ho,Φ r Ho→WL P n c ops Q rest ((d,r)::l) (Ho++Hr)) (hv:IU l args=some rs:=by rfl) (hp:Pk is H (Hin++Hr):=by repeat (first | exact TX | apply TW | exact Uu | apply Ut)) (hn:Nat.blt d n=true:=by rfl) :
  WL P n c ops Q ({ dst:=some d,op:=.call { callee:=.value (.func f),args:=args.toArray,argTypes:=ats },type:=ty,pos:=pos,after:=af,guard:=none }::rest) l H:=BL hcall hv hp.go hc hn h
theorem GL (h:WC P n c x Q l' H')(hl:l=l':=by first | (dsimp only;done) | (dsimp only;exact rfl) | exact rfl)(hH:H=H':=by first | (dsimp only;done) | (dsimp only;exact rfl) | exact rfl):WC P n c x Q l H:=ST hl hH h
theorem Hi (h:WK n c K l' H')(hl:l=l':=by first | (dsimp only;done) | (dsimp only;exact rfl) | exact rfl)(hH:H=H':=by first | (dsimp only;done) | (dsimp only;exact rfl) | exact rfl):WK n c K l H:=TS hl hH h
theorem us {i b off:Nat}{cs cs':List Rp}(hag:∀w,(sizeOf t).run P w = .ok 1 w)(hx:ev l z=some (rv (.pointer (some ⟨b,off,none⟩))))(hy:ev l y=some r)(hv:L2 H r)(hi:H[i]? =some (.blk b cs e))(hlt:Nat.blt off cs.length=true)
  (h:WL P n c ops Q rest l H') (hcs:Qn off cs r cs':=by repeat (first | exact Tp | apply To)) (hH:Qn i H (.blk b cs' e) H':=by repeat (first | exact Tp | apply To)) :
  WL P n c ops Q ({ dst:=none,op:=.store t z y,type:=ty,pos:=pos,after:=af,guard:=none }::rest) l H:=Mf hag hx hy hv hi hlt hcs.go hH.go h
theorem DW {i b off:Nat}{cs cs' rs:List Rp}(hsz:∀w,(sizeOf t).run P w = .ok sz w)(hx:ev l z=some (rv (.pointer (some ⟨b,off,none⟩))))(hy:ev l y=some (Bm rs))(hl:rs.length=sz)(hv:Bn H rs)(hi:H[i]? =some (.blk b cs e))(hlt:Nat.ble (off+sz) cs.length=true)
  (h:WL P n c ops Q rest l H') (hcs:Qo off rs cs cs':=by repeat (first | exact UH | apply UG | apply UF)) (hH:Qn i H (.blk b cs' e) H':=by repeat (first | exact Tp | apply To)) :
  WL P n c ops Q ({ dst:=none,op:=.store t z y,type:=ty,pos:=pos,after:=af,guard:=none }::rest) l H:=J7 hsz hx hy hl hv hi hlt (by rw[← hl];exact hcs.go) hH.go h
def Po (os:List Oper)(acc:List Rp)(t:Nat)(l0:Fr):List Nat→Fr
 | []=>l0
 | j::r=>match BF os j with
  | some d=>(d,acc.getD (t-1-j) (rv undef))::Po os acc t l0 r
  | none=>Po os acc t l0 r
def NQ:List Oper→List Rp→List Sp
 | o::os,r::rs=>⟨Cg o,r,1⟩::NQ os rs
 | _,_=>[]
theorem OP:∀{os:List Oper} {rs:List Rp},os.length=rs.length→(NQ os rs).length=os.length
 | [],[],_=>rfl
 | o::os,r::rs,h=>by rw[NQ,VA,VA,OP (by simpa using h)]
 | [],_::_,h=>by simp at h
 | _::_,[],h=>by simp at h
theorem Ob:∀{os:List Oper} {rs:List Rp} {i:Nat} {o:Oper} {r:Rp},os[i]? =some o→rs[i]? =some r→(NQ os rs)[i]? =some ⟨Cg o,r,1⟩
 | o::os,r::rs,0,o',r',h1,h2=>by simp at h1 h2;subst h1;subst h2;rfl
 | o::os,r::rs,i+1,o',r',h1,h2=>by rw[NQ,List.getElem?_cons_succ];exact Ob (by simpa using h1) (by simpa using h2)
 | [],_,i,_,_,h1,_=>by simp at h1
 | _::_,[],i,_,_,_,h2=>by simp at h2
def U8 (P:Program)(n:Nat)(c:Cx)(Q:Exit→Act→World→Prop)(os:List Oper)(l0:Fr)(H:List Ent)(acc:List Rp):Prop:=
 ∀(i:Nat) o r,os[i]? =some o→acc.reverse[i]? =some r→Cz P n c os.toArray Q (Po os (acc.drop (acc.length-i)) i l0 (Cg o)) H o r H
def P0 (P:Program)(n:Nat)(c:Cx)(Q:Exit→Act→World→Prop)(os:List Oper)(l0:Fr)(H:List Ent)(G:Prop)(t:Nat)(acc:List Rp)(rest:List Oper):Prop:=
 rest=os.drop t→t=acc.length→U8 P n c Q os l0 H acc→G
theorem U8.cons {os:List Oper}{l0:Fr}{acc:List Rp}{o:Oper}{r:Rp}(h:U8 P n c Q os l0 H acc)(ho:os[acc.length]? =some o)(hr:Cz P n c os.toArray Q (Po os acc acc.length l0 (Cg o)) H o r H):U8 P n c Q os l0 H (r::acc):=λi o' r' h1 h2=>by
 rw[List.reverse_cons] at h2
 by_cases hi:i<acc.length
 ·rw[VD (by simpa using hi)] at h2;have:=h i o' r' h1 h2;rw[VA,show acc.length+1-i=(acc.length-i)+1 from by omega,List.drop_succ_cons];exact this
 ·have hlt:=(List.getElem?_eq_some_iff.1 h2).1;simp at hlt;have e:i=acc.length:=by omega
  subst e;rw[List.getElem?_append_right (by simp)] at h2;simp at h2;subst h2;rw[ho] at h1;obtain rfl:=Option.some.inj h1;rw[VA,show acc.length+1-acc.length=1 from by omega,List.drop_succ_cons,List.drop_zero];exact hr
theorem Ry {os:List Oper}{acc:List Rp}{l0:Fr}{i:Nat}(hl:acc.length=os.length)(hi:i≤acc.length):∀{js:List Nat},(∀j∈js,j<i)→Po os (acc.drop (acc.length-i)) i l0 js=B8 os (NQ os acc.reverse) js l0
 | [],_=>rfl
 | j::js,h=>by
  have hj:=h j (by simp);have ih:=Ry (l0:=l0) hl hi (js:=js) λj' hj'=>h j' (by simp[hj']);unfold Po B8;have ho:os[j]? =some (os[j]'(by omega)):=Vh (by omega);have hr:acc.reverse[j]? =some (acc.reverse[j]'(by simp;omega)):=Vh (by simp;omega);have e:(acc.drop (acc.length-i)).getD (i-1-j) (rv undef)=(CF (NQ os acc.reverse) j).r:=by
   unfold CF;rw[Vg,Vg,Ob ho hr,List.getElem?_drop,V4];rw[Vh (by omega),V4];show _=acc.reverse[j]'(by simp;omega);rw[List.getElem_reverse]
   congr 1
   omega
  rw[e,ih]
  cases BF os j<;>rfl
theorem CR {id:Nat}{os:List Oper}{l0:Fr}(ks0:List Nat)(h:P0 P n c Q os l0 H (Kp ks0 l l0→WC P n c (.region id os.toArray true) Q l H) 0 [] os)(h0:Kp ks0 l l0:=by repeat (first | exact JM | (apply HZ;rfl) | (apply I6;rfl))):WC P n c (.region id os.toArray true) Q l H:=
 h (by simp) rfl (λi o r _ h2=>by simp at h2) h0
theorem HD {os:List Oper}{l0:Fr}{G:Prop}{t:Nat}{acc:List Rp}{o:Oper}{r:Rp}{rest:List Oper}(hr:Cz P n c os.toArray Q (Po os acc t l0 (Cg o)) H o r H)(h:P0 P n c Q os l0 H G (t+1) (r::acc) rest):P0 P n c Q os l0 H G t acc (o::rest):=λh1 h2 h3=>by
 subst h2;have ho:os[acc.length]? =some o:=by have:=congrArg (·[0]?) h1;simp at this;exact this.symm
 exact h (by have:=congrArg List.tail h1;simpa using this) rfl (h3.cons ho hr)
section
variable {os : List Oper} {l0 : Fr} {G : Prop} {t : Nat} {acc : List Rp} {r : Rp} {rest : List Oper} {op : Op} {j dj : Nat} {want b : Bool} {dd : Option Nat}
theorem rq (hr:Bj P n c (Po os acc t l0 (Cg { dst:=some d,op:=op,type:=ty,pos:=pos,after:=af,guard:=none })) H { dst:=some d,op:=op,type:=ty,pos:=pos,after:=af,guard:=none } r)(h:P0 P n c Q os l0 H G (t+1) (r::acc) rest) :
  P0 P n c Q os l0 H G t acc ({ dst:=some d,op:=op,type:=ty,pos:=pos,after:=af,guard:=none }::rest):=HD (C8 hr) h
theorem rg (hb:b=want)(hr:Bj P n c (Po os acc t l0 (Cg { dst:=some d,op:=op,type:=ty,pos:=pos,after:=af,guard:=some (j,want) })) H { dst:=some d,op:=op,type:=ty,pos:=pos,after:=af,guard:=none } r)(h:P0 P n c Q os l0 H G (t+1) (r::acc) rest)
  (hj:C4 os.toArray j=some dj:=by rfl) (hv:look (Po os acc t l0 (Cg { dst:=some d,op:=op,type:=ty,pos:=pos,after:=af,guard:=some (j,want) })) dj=some (rB b):=by rfl) :
  P0 P n c Q os l0 H G t acc ({ dst:=some d,op:=op,type:=ty,pos:=pos,after:=af,guard:=some (j,want) }::rest):=HD (LH hj hv hb (C8 hr)) h
theorem ro (hb:b=want)(hr:Cz P n c os.toArray Q (Po os acc t l0 (Cg { dst:=dd,op:=op,type:=ty,pos:=pos,after:=af,guard:=some (j,want) })) H { dst:=dd,op:=op,type:=ty,pos:=pos,after:=af,guard:=none } r H)(h:P0 P n c Q os l0 H G (t+1) (r::acc) rest)
  (hj:C4 os.toArray j=some dj:=by rfl) (hv:look (Po os acc t l0 (Cg { dst:=dd,op:=op,type:=ty,pos:=pos,after:=af,guard:=some (j,want) })) dj=some (rB b):=by rfl) :
  P0 P n c Q os l0 H G t acc ({ dst:=dd,op:=op,type:=ty,pos:=pos,after:=af,guard:=some (j,want) }::rest):=HD (LH hj hv hb hr) h
theorem rz (hb:b = !want)(h:P0 P n c Q os l0 H G (t+1) (rv undef::acc) rest)
  (hj:C4 os.toArray j=some dj:=by rfl) (hv:look (Po os acc t l0 (Cg { dst:=dd,op:=op,type:=ty,pos:=pos,after:=af,guard:=some (j,want) })) dj=some (rB b):=by rfl) :
  P0 P n c Q os l0 H G t acc ({ dst:=dd,op:=op,type:=ty,pos:=pos,after:=af,guard:=some (j,want) }::rest):=HD (Tt hj hv hb) h
theorem ru (h:P0 P n c Q os l0 H G (t+1) (rv undef::acc) rest)
  (hj:C4 os.toArray j=some dj:=by rfl) (hv:look (Po os acc t l0 (Cg { dst:=dd,op:=op,type:=ty,pos:=pos,after:=af,guard:=some (j,want) })) dj=some (rv undef):=by rfl) :
  P0 P n c Q os l0 H G t acc ({ dst:=dd,op:=op,type:=ty,pos:=pos,after:=af,guard:=some (j,want) }::rest):=HD (QL hj hv) h
end
theorem re {id:Nat}{os:List Oper}{l0 l1:Fr}{ks0:List Nat}{t:Nat}{acc:List Rp}(ks:List Nat)(h:WK n c (Q .normal) l1 H)
  (hz:Kz ks os (NQ os acc.reverse) l0 l1:=by repeat (first | (apply T1;rfl) | (apply T3;rfl) | apply T2 | apply T4 | exact JM | (apply HZ;rfl) | (apply I6;rfl)))
  (hm:P.follows .mixedOrders=true:=by kernel_rfl) (hB:TN n os os.length (CY l0) (os.map Cg) (os.map λ_=>1)=true:=by kernel_rfl) (ht:t=os.length:=by rfl) :
  P0 P n c Q os l0 H (Kp ks0 l l0→WC P n c (.region id os.toArray true) Q l H) t acc []:=λ_ hl hob h0=>by
 have hlen:acc.length=os.length:=by omega
 have hsp:(NQ os acc.reverse).length=os.length:=OP (by simpa using hlen.symm);have key:∀{os:List Oper} {rs:List Rp},os.length=rs.length→(NQ os rs).map (·.deps)=os.map Cg∧(NQ os rs).map (·.kd)=os.map λ_=>1:=by
  intro os
  induction os with
  | nil=>intro rs h;cases rs with
   | nil=>exact⟨rfl,rfl⟩
   | cons _ _=>simp at h
  | cons o os ih=>intro rs h;cases rs with
   | nil=>simp at h
   | cons r rs=>obtain⟨h1,h2⟩:=ih (rs:=rs) (by simpa using h);exact⟨by simp[NQ,h1],by simp[NQ,h2]⟩
 obtain⟨k1,k2⟩:=key (os:=os) (rs:=acc.reverse) (by simpa using hlen.symm);have hlt:∀(i:Nat) o,os[i]? =some o→∀j∈Cg o,j<i:=by
  have hB':=hB;unfold TN at hB';simp only[Vm] at hB';have h1:=hB'.1.1.1.1.1.1;intro i o ho j hj;have hi:=(List.getElem?_eq_some_iff.1 ho).1;have h2:=List.all_eq_true.1 h1 i (List.mem_range.2 hi);have e:os.getD i default=o:=by rw[Vg,ho];rfl
  rw[e] at h2;exact of_decide_eq_true (List.all_eq_true.1 h2 j hj)
 have hobl:∀(k:Nat) (rest:List Oper),rest=os.drop k→Lj P n c os.toArray Q os (NQ os acc.reverse) l0 (List.replicate (os.length+1) H) k rest (List.replicate (rest.length+1) H):=by
  intro k rest
  induction rest generalizing k with
  | nil=>intro _;exact trivial
  | cons o rest ih=>
   intro hr;have ho:os[k]? =some o:=by have:=congrArg (·[0]?) hr;simp at this;exact this.symm
   have hk:=(List.getElem?_eq_some_iff.1 ho).1;have hrr:acc.reverse[k]? =some (acc.reverse[k]'(by simp;omega)):=Vh (by simp;omega);have hs:CF (NQ os acc.reverse) k=⟨Cg o,acc.reverse[k]'(by simp;omega),1⟩:=by
    unfold CF;rw[Vg,Ob ho hrr];rfl
   have ih:=ih (k+1) (by have:=congrArg List.tail hr;simpa using this);have hop:=hob k o _ ho hrr;rw[Ry hlen (by omega) (hlt k o ho)] at hop;rw[VA,List.replicate_succ,List.replicate_succ];refine⟨?_,by rw[← List.replicate_succ];exact ih⟩;rw[hs];exact⟨rfl,hop⟩
 refine CG (l0:=l0) (l1:=l1) ks0 (NQ os acc.reverse) (List.replicate (os.length+1) H) ks (hobl 0 os (by simp)) h h0 hz hm (by rw[k1,k2];exact hB) hsp (by simp) (by simp[Vg,List.getElem?_replicate])
end
open Go
def Jv (l:(List Int)):Option ((List Int)):=
 some l
def Hf (l:(List Int))(c:Int):Option (Unit×(List Int)):=
 Bq (Jv l) λr1=>Bg (DV 1 (r1.length+([c]:List Int).length))<|some ((),r1++([c]:List Int))
def EV (l:(List Int))(s:Ai):Option (Int×Unit×(List Int)):=
 Bq (Jv l) λr1=>Bg (DV 1 (r1.length+s.length))<|some ((s.length:Int),(),r1++D6 s)
def Lf (l:Ai):Option (Ai):=
 Bg (decide (0<(D6 l).length))<|some l
def Ju (l:(List Int)):Option ((List Int)):=
 some l
def He (l:(List Int))(c:Int):Option (Unit×(List Int)):=
 Bq (Ju l) λr1=>Bg (DV 1 (r1.length+([c]:List Int).length))<|some ((),r1++([c]:List Int))
def EU (l:(List Int))(s:Ai):Option (Int×Unit×(List Int)):=
 Bq (Ju l) λr1=>Bg (DV 1 (r1.length+s.length))<|some ((s.length:Int),(),r1++D6 s)
def Le (l:Ai):Option (Ai):=
 Bg (decide (0<(D6 l).length))<|some l
set_option maxRecDepth 100000
set_option maxHeartbeats 4000000
theorem Pf:∃inf,Tryz.prog.info? 5=some inf∧inf.zero=some (.int .u8 0)∧inf.size=1∧inf.bytes=1:=by
  have key:(Tryz.prog.info? 5).map (λi=>(i.zero,i.size,i.bytes))=some (some (.int .u8 0),1,1):=by kernel_rfl
  obtain⟨inf,h1,h2⟩:=Option.map_eq_some_iff.1 key;simp only[Prod.mk.injEq] at h2;exact⟨inf,h1,h2.1,h2.2.1,h2.2.2⟩
theorem Ny:∃j,Tryz.prog.info? 177=some j∧j.size≠0:=by
  have key:(Tryz.prog.info? 177).map (λi=>i.size)=some 2:=by kernel_rfl
  obtain⟨j,h1,h2⟩:=Option.map_eq_some_iff.1 key;exact⟨j,h1,by rw[h2];decide⟩
theorem Nz:∃j,Tryz.prog.info? 177=some j:=Ny.imp λ_ h=>h.1
theorem NN (ha:Nat)(hb:Value)(l:(List Int))(r:(List Int))(h:Jv l=some r):Fn Tryz.prog GE 198 [rP ha 0] [.blk ha [rv (.pointer none),rv hb] 177,.row hb 5 1 (A1 BE l)] (λR H=>∃w0:Value,R=rv (.tuple #[])∧H=[.blk ha [rP ha 0,rv w0] 177,.row w0 5 1 (A1 BE r)]):=by
 refine enter (n:=20) Tryz.func198 Aa Tryz.ntmps198 Aa (λw Z=>?_);unfold Jv at h;refine Ae (wm Aa (wv (AA Aa) (vF Eb Aa MP (vL 0 Dy Aa (wv (r:=rB true) (GV ⟨_,MM⟩ Aa) (Aj (BZ Aa Aa (Al (wm Aa (wm Aa (wv (r:=rP ha 0) (Nj (i:=0) MM Tryz.underlying248 Ny Aa Aa Aa) (A5 (r:=rP ha 0) (Sn Tryz.func224 (by kernel_rfl) (by kernel_rfl) (by kernel_rfl) (by kernel_rfl) Aa) Aa (wv (r:=rP ha 0) (Lt (i:=0) Tryz.underlying248 MM Nz Aa Aa (by kernel_rfl)) (wv (AA Aa) (vF Eb Aa MP (us (i:=0) MP Aa Aa (B2 Aa) Aa Aa ?_))))))))))))))));refine Ar ?_;obtain rfl:=Aq h;exact Eu (PI Tryz.results198) (sC (sC sN)) ⟨hb,Aa,Aa⟩
theorem L0 (ha:Nat)(hb:Value)(l:(List Int))(c:Int)(r:Unit×(List Int))(h:Hf l c=some r):Fn Tryz.prog GE 165 [rP ha 0,rI .u8 c] [.blk ha [rv (.pointer none),rv hb] 177,.row hb 5 1 (A1 BE l)] (λR H=>∃w0:Value,R=rv (.nilIface)∧H=[.blk ha [rP ha 0,rv w0] 177,.row w0 5 1 (A1 BE r.2)]):=by
 refine enter (n:=17) Tryz.func165 Aa Tryz.ntmps165 Aa (λw Z=>?_);unfold Hf at h;refine Ae (wa Aa (Bc (wm Aa (ob h λr1 e3 h2=>EP [0,0] Tryz.call198 (NN ha hb l r1 e3) ?_))));rintro _ _ ⟨v4,rfl,rfl⟩;refine Bc (wm Aa (wm Aa (wv (AA Aa) (vF Eb Aa Ed (vL 0 J3 Aa (wm Aa (AQ (ys:=([c]:List Int)) (enc:=BE) (css:=[[rI .u8 c]]) (xs:=[.tmp 12]) GP Tryz.sizeOf5 Tryz.zeroValue5 Aa Aa Aa ⟨Dw.one Aa (Up.refl _),trivial⟩ Aa H8 Aa Aa Aa (λb5=>?_))))))));refine ck h2 λg7 h8=>Exists.elim Pf λinf hinf=>Di (xs:=r1) (ys:=([c]:List Int)) (enc:=BE) (i:=2) GP hinf.1 hinf.2.1 hinf.2.2.1 hinf.2.2.2 Aa Aa Aa Aa Aa (M8.w (i:=0) Aa Aa) H8 LR g7 Aa (λv6=>?_);refine wv (AA Aa) (vF Eb Aa Ed (us (i:=2) Ed Aa Aa (DA (i:=0) Aa) Aa Aa ?_));refine Bc (wa Aa (Aj (Ao (J5 [2] ?_))));obtain rfl:=Aq h8;exact Ap (B1 Tryz.results165 (AF Aa)) (sC (sC (sS sN))) ⟨v6,Aa,Aa⟩
theorem JR (ha:Nat)(hb:Value)(l:(List Int))(s:Ai)(r:Int×Unit×(List Int))(h:EV l s=some r):Fn Tryz.prog GE 162 [rP ha 0,rS s] [.blk ha [rv (.pointer none),rv hb] 177,.row hb 5 1 (A1 BE l)] (λR H=>∃w0:Value,R=C0 [Av r.1,rv (.nilIface)]∧H=[.blk ha [rP ha 0,rv w0] 177,.row w0 5 1 (A1 BE r.2.2)]):=by
 refine enter (n:=19) Tryz.func162 Aa Tryz.ntmps162 Aa (λw Z=>?_);unfold EV at h;refine Ae (wa Aa (wa Aa (Bc (wm Aa (ob h λr1 e3 h2=>EP [0,0] Tryz.call198 (NN ha hb l r1 e3) ?_)))));rintro _ _ ⟨v4,rfl,rfl⟩;refine Bc (wm Aa (wm Aa (wv (AA Aa) (vF Eb Aa Ed (vL 0 J3 Aa (wm Aa (ck h2 λg6 h7=>Exists.elim Pf λinf hinf=>Ir (xs:=r1) (i:=1) GP CN hinf.1 hinf.2.1 hinf.2.2.1 hinf.2.2.2 Aa Aa Aa g6 Aa (λv5=>?_))))))));refine wv (AA Aa) (vF Eb Aa Ed (us (i:=1) Ed Aa Aa (DA (i:=0) Aa) Aa Aa ?_));refine Bc (wm Aa (wv (B9 CN Aa) (wa Aa (wa Aa (Aj (Ao (J5 [1] ?_)))))));obtain rfl:=Aq h7;exact Ap (Gs Tryz.results162 (AF Aa) (AF Aa)) (sC (sC sN)) ⟨v5,Aa,Aa⟩
theorem OA (ha:Nat)(hb:Value)(l:Ai)(r:Ai)(h:Lf l=some r):Fn Tryz.prog GE 120 [rP ha 0] [.blk ha [rv (.pointer none),rv hb] 177,.row hb 5 1 (A1 BE (D6 l))] (λR H=>R=rS r∧H=[]):=by
 refine enter (n:=14) Tryz.func120 Aa Tryz.ntmps120 Aa (λw Z=>?_);unfold Lf at h;refine Ae (wv (r:=rS ([]:Ai)) (A3 Aa) (Aj (Ak (ck h λg1 h2=>CG (H1:=[.blk ha [rv (.pointer none),rv hb] 177]) [0] [⟨[],rP ha 0,0⟩,⟨[0],rP ha 0,0⟩,⟨[1],rP ha 1,0⟩,⟨[2],rv hb,1⟩,⟨[3],rv (TM hb),1⟩,⟨[],rP ha 0,0⟩,⟨[5],rP ha 0,0⟩,⟨[6],rP ha 1,0⟩,⟨[7],rv hb,1⟩,⟨[8],Av ((D6 l).length:Int),1⟩,⟨[4,9],rS l,2⟩,⟨[10],rS l,0⟩] (rle [(11,_),(2,[.blk ha [rv (.pointer none),rv hb] 177])]) [2] ?_ ?_))))
 ·refine oq (Am Aa) (oq (AA Aa) (oq (As Eb Aa Ed Aa Aa) (of (AP (i:=0) J3 Aa Aa Aa) (of (J9 (i:=1) Aa Aa (JY g1)) (oq (Am Aa) (oq (AA Aa) (oq (As Eb Aa Ed Aa Aa) (of (AP (i:=0) J3 Aa Aa Aa) (of (Cn (ys:=D6 l) (enc:=BE) (i:=1) GP Aa Aa) (C3 Aa (TZ (Hg (i:=1) Tryz.underlying213 (by kernel_rfl) Aa Aa Aa (JY g1) Aa)) ?_))))))))));refine oq (A3 Aa) ?_;exact CT
 refine AO (Ao ?_);obtain rfl:=Aq h2;exact Ap (B1 Tryz.results120 (AF Aa)) (sS sN) ⟨Aa,Aa⟩
theorem NM (ha:Nat)(hb:Value)(l:(List Int))(r:(List Int))(h:Ju l=some r):Fn Tryz.prog GE 198 [rP ha 0] [.blk ha [rP ha 0,rv hb] 177,.row hb 5 1 (A1 BE l)] (λR H=>∃w0:Value,R=rv (.tuple #[])∧H=[.blk ha [rP ha 0,rv w0] 177,.row w0 5 1 (A1 BE r)]):=by
 refine enter (n:=20) Tryz.func198 Aa Tryz.ntmps198 Aa (λw Z=>?_);unfold Ju at h;refine Ae (wm Aa (wv (AA Aa) (vF Eb Aa MP (vL 0 Dy Aa (wv (r:=rB false) (ER ⟨_,MM⟩ Aa) (Aj (BG Aa Aa (Ae (wm Aa (wv (AA Aa) (vF Eb Aa MP (vL 0 Dy Aa (wm Aa (wv (r:=rB false) (On MM Nz Aa Aa) (Aj (BG Aa Aa (A0 ?_)))))))))))))))));obtain rfl:=Aq h;exact Eu (PI Tryz.results198) (sC (sC sN)) ⟨hb,Aa,Aa⟩
theorem Lz (ha:Nat)(hb:Value)(l:(List Int))(c:Int)(r:Unit×(List Int))(h:He l c=some r):Fn Tryz.prog GE 165 [rP ha 0,rI .u8 c] [.blk ha [rP ha 0,rv hb] 177,.row hb 5 1 (A1 BE l)] (λR H=>∃w0:Value,R=rv (.nilIface)∧H=[.blk ha [rP ha 0,rv w0] 177,.row w0 5 1 (A1 BE r.2)]):=by
 refine enter (n:=17) Tryz.func165 Aa Tryz.ntmps165 Aa (λw Z=>?_);unfold He at h;refine Ae (wa Aa (Bc (wm Aa (ob h λr1 e3 h2=>EP [0,0] Tryz.call198 (NM ha hb l r1 e3) ?_))));rintro _ _ ⟨v4,rfl,rfl⟩;refine Bc (wm Aa (wm Aa (wv (AA Aa) (vF Eb Aa Ed (vL 0 J3 Aa (wm Aa (AQ (ys:=([c]:List Int)) (enc:=BE) (css:=[[rI .u8 c]]) (xs:=[.tmp 12]) GP Tryz.sizeOf5 Tryz.zeroValue5 Aa Aa Aa ⟨Dw.one Aa (Up.refl _),trivial⟩ Aa H8 Aa Aa Aa (λb5=>?_))))))));refine ck h2 λg7 h8=>Exists.elim Pf λinf hinf=>Di (xs:=r1) (ys:=([c]:List Int)) (enc:=BE) (i:=2) GP hinf.1 hinf.2.1 hinf.2.2.1 hinf.2.2.2 Aa Aa Aa Aa Aa (M8.w (i:=0) Aa Aa) H8 LR g7 Aa (λv6=>?_);refine wv (AA Aa) (vF Eb Aa Ed (us (i:=2) Ed Aa Aa (DA (i:=0) Aa) Aa Aa ?_));refine Bc (wa Aa (Aj (Ao (J5 [2] ?_))));obtain rfl:=Aq h8;exact Ap (B1 Tryz.results165 (AF Aa)) (sC (sC (sS sN))) ⟨v6,Aa,Aa⟩
theorem JQ (ha:Nat)(hb:Value)(l:(List Int))(s:Ai)(r:Int×Unit×(List Int))(h:EU l s=some r):Fn Tryz.prog GE 162 [rP ha 0,rS s] [.blk ha [rP ha 0,rv hb] 177,.row hb 5 1 (A1 BE l)] (λR H=>∃w0:Value,R=C0 [Av r.1,rv (.nilIface)]∧H=[.blk ha [rP ha 0,rv w0] 177,.row w0 5 1 (A1 BE r.2.2)]):=by
 refine enter (n:=19) Tryz.func162 Aa Tryz.ntmps162 Aa (λw Z=>?_);unfold EU at h;refine Ae (wa Aa (wa Aa (Bc (wm Aa (ob h λr1 e3 h2=>EP [0,0] Tryz.call198 (NM ha hb l r1 e3) ?_)))));rintro _ _ ⟨v4,rfl,rfl⟩;refine Bc (wm Aa (wm Aa (wv (AA Aa) (vF Eb Aa Ed (vL 0 J3 Aa (wm Aa (ck h2 λg6 h7=>Exists.elim Pf λinf hinf=>Ir (xs:=r1) (i:=1) GP CN hinf.1 hinf.2.1 hinf.2.2.1 hinf.2.2.2 Aa Aa Aa g6 Aa (λv5=>?_))))))));refine wv (AA Aa) (vF Eb Aa Ed (us (i:=1) Ed Aa Aa (DA (i:=0) Aa) Aa Aa ?_));refine Bc (wm Aa (wv (B9 CN Aa) (wa Aa (wa Aa (Aj (Ao (J5 [1] ?_)))))));obtain rfl:=Aq h7;exact Ap (Gs Tryz.results162 (AF Aa) (AF Aa)) (sC (sC sN)) ⟨v5,Aa,Aa⟩
theorem O9 (ha:Nat)(hb:Value)(l:Ai)(r:Ai)(h:Le l=some r):Fn Tryz.prog GE 120 [rP ha 0] [.blk ha [rP ha 0,rv hb] 177,.row hb 5 1 (A1 BE (D6 l))] (λR H=>R=rS r∧H=[]):=by
 refine enter (n:=14) Tryz.func120 Aa Tryz.ntmps120 Aa (λw Z=>?_);unfold Le at h;refine Ae (wv (r:=rS ([]:Ai)) (A3 Aa) (Aj (Ak (ck h λg1 h2=>CG (H1:=[.blk ha [rP ha 0,rv hb] 177]) [0] [⟨[],rP ha 0,0⟩,⟨[0],rP ha 0,0⟩,⟨[1],rP ha 1,0⟩,⟨[2],rv hb,1⟩,⟨[3],rv (TM hb),1⟩,⟨[],rP ha 0,0⟩,⟨[5],rP ha 0,0⟩,⟨[6],rP ha 1,0⟩,⟨[7],rv hb,1⟩,⟨[8],Av ((D6 l).length:Int),1⟩,⟨[4,9],rS l,2⟩,⟨[10],rS l,0⟩] (rle [(11,_),(2,[.blk ha [rP ha 0,rv hb] 177])]) [2] ?_ ?_))))
 ·refine oq (Am Aa) (oq (AA Aa) (oq (As Eb Aa Ed Aa Aa) (of (AP (i:=0) J3 Aa Aa Aa) (of (J9 (i:=1) Aa Aa (JY g1)) (oq (Am Aa) (oq (AA Aa) (oq (As Eb Aa Ed Aa Aa) (of (AP (i:=0) J3 Aa Aa Aa) (of (Cn (ys:=D6 l) (enc:=BE) (i:=1) GP Aa Aa) (C3 Aa (TZ (Hg (i:=1) Tryz.underlying213 (by kernel_rfl) Aa Aa Aa (JY g1) Aa)) ?_))))))))));refine oq (A3 Aa) ?_;exact CT
 refine AO (Ao ?_);obtain rfl:=Aq h2;exact Ap (B1 Tryz.results120 (AF Aa)) (sS sN) ⟨Aa,Aa⟩
theorem BS (b:Nat)(v:Value)(l:Ai)(c:Int)(g1:DV 1 (l.length+1)=true)(g2:Cf .u8 c=true):Fn Tryz.prog GE 165 [rP b 0,rI .u8 c] [.bld 177 5 b v l] (λR H=>∃w0:Value,R=rv .nilIface∧H=[.bld 177 5 b w0 (l++[UInt8.ofNat c.toNat])]):=by
  have hc:D6 (l++[UInt8.ofNat c.toNat])=D6 l++[c]:=by
    have:=(by simpa[Cf,IntKind.min,IntKind.max,IntKind.signed,IntKind.bits] using g2:0≤c∧c≤255)
    simp only[D6,List.map_append,VI,List.map_nil]
    congr 2
    simp;omega
  refine Fn.bld (res:=rv .nilIface) λp hp=>?_;rw[hc];rcases hp with rfl | rfl
  · refine(L0 b v (D6 l) c (((),D6 l++[c])) ?_).sub (E6.refl _) (λr H h=>by obtain⟨w0,h1,h2⟩:=h;exact⟨w0,h1,h2⟩)
    simp only[Hf,Jv,Bq,CI];simp[Bg,g1]
  · refine(Lz b v (D6 l) c (((),D6 l++[c])) ?_).sub (E6.refl _) (λr H h=>by obtain⟨w0,h1,h2⟩:=h;exact⟨w0,h1,h2⟩)
    simp only[He,Ju,Bq,CI];simp[Bg,g1]
theorem DP (b:Nat)(v:Value)(l s:Ai)(g1:DV 1 (l.length+s.length)=true):Fn Tryz.prog GE 162 [rP b 0,rS s] [.bld 177 5 b v l] (λR H=>∃w0:Value,R=C0 [Av (s.length:Int),rv .nilIface]∧H=[.bld 177 5 b w0 (l++s)]):=by
  have hc:D6 (l++s)=D6 l++D6 s:=by simp[D6]
  refine Fn.bld (res:=C0 [Av (s.length:Int),rv .nilIface]) λp hp=>?_;rw[hc];rcases hp with rfl | rfl
  · refine(JR b v (D6 l) s (((s.length:Int),(),D6 l++D6 s)) ?_).sub (E6.refl _) (λr H h=>by obtain⟨w0,h1,h2⟩:=h;exact⟨w0,h1,h2⟩)
    simp only[EV,Jv,Bq,CI];simp[Bg,g1]
  · refine(JQ b v (D6 l) s (((s.length:Int),(),D6 l++D6 s)) ?_).sub (E6.refl _) (λr H h=>by obtain⟨w0,h1,h2⟩:=h;exact⟨w0,h1,h2⟩)
    simp only[EU,Ju,Bq,CI];simp[Bg,g1]
theorem LX (b:Nat)(v:Value)(l:Ai)(g1:decide (0<l.length)=true):Fn Tryz.prog GE 120 [rP b 0] [.bld 177 5 b v l] (λR H=>R=rS l∧H=[]):=by
  refine Fn.bldS (res:=rS l) λp hp=>?_;rcases hp with rfl | rfl
  · exact OA b v l l (by simp only[Lf,CI];simp[Bg,g1])
  · exact O9 b v l l (by simp only[Le,CI];simp[Bg,g1])
end Go.Proofs.YtmjlemhondjfhaaGreatDoor.Q
namespace Go.Proofs.YtmjlemhondjfhaaGreatDoor
open Go
set_option linter.unusedVariables false
structure Ac where
 fKind:Int
 fInt:Int
 fStr:Ai
 fN:Int
 deriving DecidableEq,Inhabited
end Go.Proofs.YtmjlemhondjfhaaGreatDoor
namespace Go.Proofs.YtmjlemhondjfhaaGreatDoor.Q
open Go Go.RowKit
set_option linter.unusedVariables false
set_option linter.unusedSimpArgs false
set_option maxRecDepth 100000
set_option maxHeartbeats 4000000
@[reducible] def Ad (x:Ac):List Rp:=[Av x.fKind,Av x.fInt,rS x.fStr,Av x.fN]
theorem Cm (x:Ac):(Ad x).length=4:=rfl
theorem Ly (x:Ac):(Ad x).all (·.one)=true:=rfl
end Go.Proofs.YtmjlemhondjfhaaGreatDoor.Q
namespace Go.Proofs.YtmjlemhondjfhaaGreatDoor
open Go
set_option linter.unusedVariables false
structure AR where
 fPairs:Bool
 fLeft:Int
 fKey:Bool
 fLast:Ai
 fStarted:Bool
 deriving DecidableEq,Inhabited
structure Bp where
 fDepth:Int
 fBytes:Int
 fOutside:Bool
 fLong:Bool
 deriving DecidableEq,Inhabited
def BM (n:Int):Option (Bool):=
 some ((decide ((-1000000000000)≤n))&&(decide (n≤1000000000000)))
def Iu (s:Ai)(ha:Int):Option (Stp (Int) (Out (Bool) (Unit))):=
 B4 (decide (ha<(s.length:Int))) (Bg (Ca ha (s.length:Int))<|B4 (((decide ((C2 s ha)<32))||(decide (126<(C2 s ha))))) (some (.out (.ret false))) (Bg (Cf .i64 (ha+1))<|some (.next (ha+1)))) (some (.out (.go ())))
def It :Option (Bool):=
 some true
def LA (F:Nat)(s:Ai):Option (Bool):=
 Bq (CW (λσ=>Iu s σ) F 0) (Cv λν=>It )
def JT (s:Ai):Option (Int):=
 Bg (Cf .i64 ((s.length:Int)+2))<|Bg (Cf .i64 (((s.length:Int)+2)+(Lib.countByte s 34:Int)))<|Bg (Cf .i64 ((((s.length:Int)+2)+(Lib.countByte s 34:Int))+(Lib.countByte s 92:Int)))<|some ((((s.length:Int)+2)+(Lib.countByte s 34:Int))+(Lib.countByte s 92:Int))
def Oa (F:Nat)(c:Ac):Option (Bool):=
 B4 (decide (c.fKind=1)) (some ((decide (c.fInt=0))&&((decide (c.fStr=([]:Ai)))&&(decide (c.fN=0))))) (B4 (decide (c.fKind=2)) (some (bif decide (c.fInt=0) then((decide (c.fStr=([]:Ai)))&&(decide (c.fN=0))) else((decide (c.fInt=1))&&((decide (c.fStr=([]:Ai)))&&(decide (c.fN=0)))))) (B4 (decide (c.fKind=3)) (some ((decide (c.fStr=([]:Ai)))&&(decide (c.fN=0)))) (B4 (decide (c.fKind=4)) (Bg (imp (decide (c.fInt=0)) (imp (decide (c.fN=0)) ((LA F c.fStr).isSome)))<|some ((decide (c.fInt=0))&&((decide (c.fN=0))&&(ov (LA F c.fStr))))) (B4 (decide (c.fKind=5)) (some ((decide (c.fInt=0))&&((decide (c.fStr=([]:Ai)))&&(decide (0≤c.fN))))) (B4 (decide (c.fKind=6)) (some ((decide (c.fInt=0))&&((decide (c.fStr=([]:Ai)))&&(decide (0≤c.fN))))) (some false))))))
def Q3 (c:Ac):Option (Int):=
 B4 (decide (c.fKind=1)) (some 4) (B4 (decide (c.fKind=2)) (some (IntKind.wrap .i64 (5-c.fInt))) (B4 (decide (c.fKind=3)) (Bg (Cf .i64 c.fInt)<|some ((Lib.itoa c.fInt).length:Int)) (B4 (decide (c.fKind=4)) (Bq (JT c.fStr) λha=>some ha) (some (IntKind.wrap .i64 (2+(max 0 (IntKind.wrap .i64 (c.fN-1)))))))))
def Gp (ha:(List AR)):Option (Stp ((List AR)) (Out ((List AR)) ((List AR)))):=
 B4 (decide (0<(ha.length:Int))) (Bg (Cf .i64 ((ha.length:Int)-1))<|Bg (Ca ((ha.length:Int)-1) (ha.length:Int))<|Bg (Cf .i64 (((Au ha ((ha.length:Int)-1)).fLeft)-1))<|IX (List.set ha (Int.toNat ((ha.length:Int)-1)) (AR.mk ((Au ha ((ha.length:Int)-1)).fPairs) (((Au ha ((ha.length:Int)-1)).fLeft)-1) ((Au ha ((ha.length:Int)-1)).fKey) ((Au ha ((ha.length:Int)-1)).fLast) ((Au ha ((ha.length:Int)-1)).fStarted))) λhb=>B4 (decide (0<((Au hb ((ha.length:Int)-1)).fLeft))) (IX (List.set hb (Int.toNat ((ha.length:Int)-1)) (AR.mk ((Au hb ((ha.length:Int)-1)).fPairs) ((Au hb ((ha.length:Int)-1)).fLeft) ((Au hb ((ha.length:Int)-1)).fPairs) ((Au hb ((ha.length:Int)-1)).fLast) ((Au hb ((ha.length:Int)-1)).fStarted))) λhc=>some (.out (.ret hc))) (Bg (Cf .i64 ((hb.length:Int)-1))<|Bg (JN ((hb.length:Int)-1) (hb.length:Int))<|some (.next (List.take (Int.toNat ((hb.length:Int)-1)) hb)))) (some (.out (.go ha)))
def Gn (ha:(List AR)):Option ((List AR)):=
 some ha
def Me (F:Nat)(stack:(List AR)):Option ((List AR)):=
 Bq (CW (λσ=>Gp σ) F stack) (Cv λν=>Gn ν)
def EZ (ha:Int)(hb:(List AR))(hc:Bp):Option (Stp ((List AR)×Int×Bp) (Out (Int×Bp×Bool) (Bp))):=
 Bg (Cf .i64 (ha+1))<|some (.next (hb,ha+1,hc))
def Iw (F:Nat)(v:(List Ac))(ha:(List AR))(hb:Int)(hc:Bp):Option (Stp ((List AR)×Int×Bp) (Out (Int×Bp×Bool) (Bp))):=
 B4 (decide (hb<(v.length:Int))) (Bg (Ca hb (v.length:Int))<|Bq (Oa F (Au v hb)) λhi=>B4 (!hi) (some (.out (.ret (0,hc,false)))) (Bg (imp (decide (0<(ha.length:Int))) (Cf .i64 ((ha.length:Int)-1)))<|Bg (imp (decide (0<(ha.length:Int))) (Ca ((ha.length:Int)-1) (ha.length:Int)))<|B4 (((decide (0<(ha.length:Int)))&&((Au ha ((ha.length:Int)-1)).fKey))) (Bg (Cf .i64 ((ha.length:Int)-1))<|Bg (Ca ((ha.length:Int)-1) (ha.length:Int))<|B4 (((!decide (((Au v hb).fKind)=4))||(((Au ha ((ha.length:Int)-1)).fStarted)&&(GT ((Au v hb).fStr) ((Au ha ((ha.length:Int)-1)).fLast)||decide (((Au v hb).fStr)=((Au ha ((ha.length:Int)-1)).fLast)))))) (some (.out (.ret (0,hc,false)))) (IX (List.set ha (Int.toNat ((ha.length:Int)-1)) (AR.mk ((Au ha ((ha.length:Int)-1)).fPairs) ((Au ha ((ha.length:Int)-1)).fLeft) ((Au ha ((ha.length:Int)-1)).fKey) ((Au v hb).fStr) ((Au ha ((ha.length:Int)-1)).fStarted))) λhd=>IX (List.set hd (Int.toNat ((ha.length:Int)-1)) (AR.mk ((Au hd ((ha.length:Int)-1)).fPairs) ((Au hd ((ha.length:Int)-1)).fLeft) ((Au hd ((ha.length:Int)-1)).fKey) ((Au hd ((ha.length:Int)-1)).fLast) true)) λhe=>IX (List.set he (Int.toNat ((ha.length:Int)-1)) (AR.mk ((Au he ((ha.length:Int)-1)).fPairs) ((Au he ((ha.length:Int)-1)).fLeft) false ((Au he ((ha.length:Int)-1)).fLast) ((Au he ((ha.length:Int)-1)).fStarted))) λhj=>Bq (JT ((Au v hb).fStr)) λhg=>Bg (Cf .i64 (hg+1))<|EZ hb hj (Bp.mk hc.fDepth (IntKind.wrap .i64 (hc.fBytes+(hg+1))) hc.fOutside (hc.fLong||(decide (200<(((Au v hb).fStr).length:Int))))))) (Bg (Cf .i64 ((ha.length:Int)+1))<|Bq (Q3 (Au v hb)) λhf=>Bg (imp (!hc.fOutside) (imp (decide (((Au v hb).fKind)=3)) ((BM ((Au v hb).fInt)).isSome)))<|B4 (decide (0<((Au v hb).fN))) (B4 (decide ((v.length:Int)<((Au v hb).fN))) (some (.out (.ret (0,(Bp.mk (max hc.fDepth ((ha.length:Int)+1)) (IntKind.wrap .i64 (hc.fBytes+hf)) (hc.fOutside||((decide (((Au v hb).fKind)=3))&&(!(ov (BM ((Au v hb).fInt)))))) (hc.fLong||(decide (200<(((Au v hb).fStr).length:Int))))),false)))) (Bg (DV 48 (ha.length+([(AR.mk (decide (((Au v hb).fKind)=6)) ((Au v hb).fN) (decide (((Au v hb).fKind)=6)) ([]:Ai) false)]:List AR).length))<|EZ hb (ha++([(AR.mk (decide (((Au v hb).fKind)=6)) ((Au v hb).fN) (decide (((Au v hb).fKind)=6)) ([]:Ai) false)]:List AR)) (Bp.mk (max hc.fDepth ((ha.length:Int)+1)) (IntKind.wrap .i64 (hc.fBytes+hf)) (hc.fOutside||((decide (((Au v hb).fKind)=3))&&(!(ov (BM ((Au v hb).fInt)))))) (hc.fLong||(decide (200<(((Au v hb).fStr).length:Int))))))) (Bq (Me F ha) λhh=>B4 (decide ((hh.length:Int)=0)) (Bg (Cf .i64 (hb+1))<|some (.out (.ret (hb+1,(Bp.mk (max hc.fDepth ((ha.length:Int)+1)) (IntKind.wrap .i64 (hc.fBytes+hf)) (hc.fOutside||((decide (((Au v hb).fKind)=3))&&(!(ov (BM ((Au v hb).fInt)))))) (hc.fLong||(decide (200<(((Au v hb).fStr).length:Int))))),true)))) (EZ hb hh (Bp.mk (max hc.fDepth ((ha.length:Int)+1)) (IntKind.wrap .i64 (hc.fBytes+hf)) (hc.fOutside||((decide (((Au v hb).fKind)=3))&&(!(ov (BM ((Au v hb).fInt)))))) (hc.fLong||(decide (200<(((Au v hb).fStr).length:Int)))))))))) (some (.out (.go hc)))
def Iv (ha:Bp):Option (Int×Bp×Bool):=
 some (0,ha,false)
def Na (F:Nat)(v:(List Ac)):Option (Int×Bp×Bool):=
 Bq (CW (λσ=>Iw F v σ.1 σ.2.1 σ.2.2) F (([]:List AR),0,(Bp.mk 0 0 false false))) (Cv λν=>Iv ν)
def Jd (F:Nat)(v:(List Ac)):Option (Int):=
 Bq (Na F v) λr1=>B4 (((!r1.2.2)||(!decide (r1.1=(v.length:Int))))) (some 1) (B4 (r1.2.1.fOutside) (some 2) (B4 ((r1.2.1.fLong||((decide (200<(v.length:Int)))||((decide (8<r1.2.1.fDepth))||(decide (4000<r1.2.1.fBytes)))))) (some 3) (some 0)))
def Ix (F:Nat)(v:(List Ac)):Option ((List Ac)×Int):=
 Bq (Jd F v) λr1=>B4 (!decide (r1=0)) (some (([]:List Ac),r1)) (some (v,0))
def LC :Option ((List Ac)):=
 some ([(Ac.mk 1 0 ([]:Ai) 0)]:List Ac)
def Tm (F:Nat)(n:Int):Option ((List Ac)×Int):=
 Bq (Ix F ([(Ac.mk 3 n ([]:Ai) 0)]:List Ac)) λr2=>some (r2.1,r2.2)
def Tk (F:Nat)(s:Ai):Option ((List Ac)×Int):=
 Bq (Ix F ([(Ac.mk 4 0 s 0)]:List Ac)) λr2=>some (r2.1,r2.2)
end Go.Proofs.YtmjlemhondjfhaaGreatDoor
namespace Go.Proofs.YtmjlemhondjfhaaGreatDoor.Q
open Go Go.RowKit
set_option linter.unusedVariables false
set_option linter.unusedSimpArgs false
set_option maxRecDepth 100000
set_option maxHeartbeats 4000000
@[reducible] def A9 (x:AR):List Rp:=[rB x.fPairs,Av x.fLeft,rB x.fKey,rS x.fLast,rB x.fStarted]
theorem GD (x:AR):(A9 x).length=5:=rfl
theorem JP (x:AR):(A9 x).all (·.one)=true:=rfl
@[reducible] def AW (x:Bp):List Rp:=[Av x.fDepth,Av x.fBytes,rB x.fOutside,rB x.fLong]
theorem S8:∃inf,Tryz.prog.info? 190=some inf∧inf.zero=some (.agg #[(.bool false),(.int .i64 0),(.bool false),(.string ⟨#[]⟩),(.bool false)])∧inf.size=5∧inf.bytes=48:=by
  have key:(Tryz.prog.info? 190).map (λi=>(i.zero,i.size,i.bytes))=some (some (.agg #[(.bool false),(.int .i64 0),(.bool false),(.string ⟨#[]⟩),(.bool false)]),5,48):=by kernel_rfl
  obtain⟨inf,h1,h2⟩:=Option.map_eq_some_iff.1 key;simp only[Prod.mk.injEq] at h2;exact⟨inf,h1,h2.1,h2.2.1,h2.2.2⟩
theorem M5 (parts:List (Nat×Value)):Tryz.prog.built 70 parts=Instr.fill (λi=>(#[(0,1),(1,1),(2,1),(3,1)]:Array (Nat×Nat))[i]?) #[(.int .i64 0),(.int .i64 0),(.string ⟨#[]⟩),(.int .i64 0)] parts:=by kernel_rfl
theorem Nm {n:Nat}{c:Cx}{l:Fr}{H:List Ent}{d:Option Nat}{ty:TypeId}{pos:String}{af:Array Edge}{g:Option (Nat×Bool)}{x0:Operand}{r0:Rp}(h0:ev l x0=some r0)(u0:r0.one=true):Bj Tryz.prog n c l H { dst:=d,op:=.build 70 #[(0,x0)],type:=ty,pos:=pos,after:=af,guard:=g } (Bm [r0,Av 0,rS ([]:Ai),Av 0]):=λa w Z ha _=>by
  have p0:=ha.ev h0;have c0:=AZ (r0.hone u0 Z _ p0);have hb:Tryz.prog.built 70 [(0,a.eval x0)]=some #[a.eval x0,(.int .i64 0),(.string ⟨#[]⟩),(.int .i64 0)]:=by
    rw[M5];generalize a.eval x0=v0 at *;simp[Instr.fill,c0]
  refine⟨.agg #[a.eval x0,(.int .i64 0),(.string ⟨#[]⟩),(.int .i64 0)],⟨[a.eval x0,(.int .i64 0),(.string ⟨#[]⟩),(.int .i64 0)],rfl,p0,rfl,rfl,rfl,trivial⟩,?_⟩;have:=run_build w 70 #[(0,a.eval x0)] _ (by simpa using hb);simp[execOp,this]
theorem HL {n:Nat}{c:Cx}{l:Fr}{H:List Ent}{d:Option Nat}{ty:TypeId}{pos:String}{af:Array Edge}{g:Option (Nat×Bool)}{x0:Operand}{r0:Rp}(h0:ev l x0=some r0)(u0:r0.one=true){x1:Operand}{r1:Rp}(h1:ev l x1=some r1)(u1:r1.one=true):Bj Tryz.prog n c l H { dst:=d,op:=.build 70 #[(0,x0),(1,x1)],type:=ty,pos:=pos,after:=af,guard:=g } (Bm [r0,r1,rS ([]:Ai),Av 0]):=λa w Z ha _=>by
  have p0:=ha.ev h0;have c0:=AZ (r0.hone u0 Z _ p0);have p1:=ha.ev h1;have c1:=AZ (r1.hone u1 Z _ p1);have hb:Tryz.prog.built 70 [(0,a.eval x0),(1,a.eval x1)]=some #[a.eval x0,a.eval x1,(.string ⟨#[]⟩),(.int .i64 0)]:=by
    rw[M5];generalize a.eval x0=v0 at *;generalize a.eval x1=v1 at *;simp[Instr.fill,c0,c1]
  refine⟨.agg #[a.eval x0,a.eval x1,(.string ⟨#[]⟩),(.int .i64 0)],⟨[a.eval x0,a.eval x1,(.string ⟨#[]⟩),(.int .i64 0)],rfl,p0,p1,rfl,rfl,trivial⟩,?_⟩;have:=run_build w 70 #[(0,a.eval x0),(1,a.eval x1)] _ (by simpa using hb);simp[execOp,this]
theorem HK {n:Nat}{c:Cx}{l:Fr}{H:List Ent}{d:Option Nat}{ty:TypeId}{pos:String}{af:Array Edge}{g:Option (Nat×Bool)}{x0:Operand}{r0:Rp}(h0:ev l x0=some r0)(u0:r0.one=true){x2:Operand}{r2:Rp}(h2:ev l x2=some r2)(u2:r2.one=true):Bj Tryz.prog n c l H { dst:=d,op:=.build 70 #[(0,x0),(2,x2)],type:=ty,pos:=pos,after:=af,guard:=g } (Bm [r0,Av 0,r2,Av 0]):=λa w Z ha _=>by
  have p0:=ha.ev h0;have c0:=AZ (r0.hone u0 Z _ p0);have p2:=ha.ev h2;have c2:=AZ (r2.hone u2 Z _ p2);have hb:Tryz.prog.built 70 [(0,a.eval x0),(2,a.eval x2)]=some #[a.eval x0,(.int .i64 0),a.eval x2,(.int .i64 0)]:=by
    rw[M5];generalize a.eval x0=v0 at *;generalize a.eval x2=v2 at *;simp[Instr.fill,c0,c2]
  refine⟨.agg #[a.eval x0,(.int .i64 0),a.eval x2,(.int .i64 0)],⟨[a.eval x0,(.int .i64 0),a.eval x2,(.int .i64 0)],rfl,p0,rfl,p2,rfl,trivial⟩,?_⟩;have:=run_build w 70 #[(0,a.eval x0),(2,a.eval x2)] _ (by simpa using hb);simp[execOp,this]
theorem R6 (parts:List (Nat×Value)):Tryz.prog.built 190 parts=Instr.fill (λi=>(#[(0,1),(1,1),(2,1),(3,1),(4,1)]:Array (Nat×Nat))[i]?) #[(.bool false),(.int .i64 0),(.bool false),(.string ⟨#[]⟩),(.bool false)] parts:=by kernel_rfl
theorem Jf {n:Nat}{c:Cx}{l:Fr}{H:List Ent}{d:Option Nat}{ty:TypeId}{pos:String}{af:Array Edge}{g:Option (Nat×Bool)}{x0:Operand}{r0:Rp}(h0:ev l x0=some r0)(u0:r0.one=true){x1:Operand}{r1:Rp}(h1:ev l x1=some r1)(u1:r1.one=true){x2:Operand}{r2:Rp}(h2:ev l x2=some r2)(u2:r2.one=true):Bj Tryz.prog n c l H { dst:=d,op:=.build 190 #[(0,x0),(1,x1),(2,x2)],type:=ty,pos:=pos,after:=af,guard:=g } (Bm [r0,r1,r2,rS ([]:Ai),rB false]):=λa w Z ha _=>by
  have p0:=ha.ev h0;have c0:=AZ (r0.hone u0 Z _ p0);have p1:=ha.ev h1;have c1:=AZ (r1.hone u1 Z _ p1);have p2:=ha.ev h2;have c2:=AZ (r2.hone u2 Z _ p2);have hb:Tryz.prog.built 190 [(0,a.eval x0),(1,a.eval x1),(2,a.eval x2)]=some #[a.eval x0,a.eval x1,a.eval x2,(.string ⟨#[]⟩),(.bool false)]:=by
    rw[R6];generalize a.eval x0=v0 at *;generalize a.eval x1=v1 at *;generalize a.eval x2=v2 at *;simp[Instr.fill,c0,c1,c2]
  refine⟨.agg #[a.eval x0,a.eval x1,a.eval x2,(.string ⟨#[]⟩),(.bool false)],⟨[a.eval x0,a.eval x1,a.eval x2,(.string ⟨#[]⟩),(.bool false)],rfl,p0,p1,p2,rfl,rfl,trivial⟩,?_⟩;have:=run_build w 190 #[(0,a.eval x0),(1,a.eval x1),(2,a.eval x2)] _ (by simpa using hb);simp[execOp,this]
theorem QX (n:Int)(r:Bool)(h:BM n=some r):Fn Tryz.prog GE 142 [Av n] [] (λR H=>R=rB r∧H=[]):=by
 refine enter (n:=9) Tryz.func142 Aa Tryz.ntmps142 Aa (λw Z=>?_);unfold BM at h;refine Ae (wa Aa (Aj (AG [(2,rB ((decide ((-1000000000000)≤n))&&(decide (n≤1000000000000))))] [] ?_ ?_)))
 ·refine Al (wm Aa (wv (HY Aa Aa) (wm Aa (AT (decide ((-1000000000000)≤n)) (λc1=>?_) (λc1=>?_)))))
  ·refine wo c1 (wm Aa (wo c1 (wv (HY Aa Aa) (E7 Aa c1 Aa (wa Aa (Ar ?_))))));exact Cl c1
  refine wf c1 (wf c1 (wv (r:=rB false) (Ay Aa c1 Aa) (wa Aa (Ar ?_))));exact Cl c1
 refine Ao ?_;obtain rfl:=Aq h;exact Ap (B1 Tryz.results142 (AF Aa)) sN ⟨Aa,Aa⟩
theorem RW (F:Nat)(s:Ai)(r:Bool)(h:LA F s=some r):Fn Tryz.prog GE 178 [rS s] [] (λR H=>R=rB r∧H=[]):=by
 refine enter (n:=20) Tryz.func178 Aa Tryz.ntmps178 Aa (λw Z=>?_);unfold LA at h;refine Ae (wa Aa (Aj (Ak (Ae (wm Aa (wv (B9 CN Aa) (wv (r:=Av 0) (Am Aa) (Aj (AE (ob h λhh hi hf=>Bx (S:=Nat×(Int)×(Unit)) (V:=(Unit)×(Unit)) 0 (λσ=>CW (λσ=>Iu s σ) σ.1 σ.2.1=some hh) (λσ=>[(0,rS s),(5,Av (s.length:Int)),(6,Av σ.2.1)]) (λσ=>[]) (λσ=>σ.1) (F,0,()) hi (AL.c Aa (AL.c Aa (AL.c Aa AL.nil))) sN (λσ=>It =some r) (λσ=>[]) (λσ=>[]) ?_ ?_))))))))))
 ·rintro⟨hx,hb,⟨⟩⟩ hj;refine GL ?_;obtain⟨hk,rfl,t37,hc,he⟩:=Ck hj;replace hc:Iu s hb=some t37:=hc;unfold Iu at hc;refine Ae (wv (C9 Aa Aa) (Aj (Ak (cz hc Aa (λhl hm=>?_) (λhl hn=>?_)))))
  ·refine A0 (AO (Ak (AE (Ae (wm Aa (wa Aa (Aj (ck hm λhg ho=>AG [(0,rS s),(5,Av (s.length:Int)),(6,Av hb),(18,rB ((decide ((C2 s hb)<32))||(decide (126<(C2 s hb)))))] [] ?_ ?_))))))))
   ·refine Al (wm Aa (wm Aa (wv (BO CN Aa Aa hg) (wv (C9 Aa Aa) (wm Aa (AT (decide ((C2 s hb)<32)) (λha=>?_) (λha=>?_)))))))
    ·refine wf ha (wf ha (wf ha (wf ha (wv (r:=rB true) (A8 Aa ha Aa) (Ar ?_)))));exact Cl ha
    refine wo ha (wm Aa (wo ha (wm Aa (wo ha (wv (BO CN Aa Aa hg) (wo ha (wv (Ei Aa Aa) (Ks Aa ha Aa (Ar ?_)))))))));exact Cl ha
   refine cz ho Aa (λhp hq=>?_) (λhp hr=>?_)
   ·refine Ae (wa Aa (Aj (Ao (Ax (Ab (Ab (Bo ?_)))))));have hs:=BB hq he hf;refine Ax (Ab ?_);obtain rfl:=Aq hs;exact Ap (B1 Tryz.results178 (AF Aa)) sN ⟨Aa,Aa⟩
   refine A0 (AH (AO (Al (ck hr λht hu=>wv (B3 Aa Aa ht) (wm Aa (Ar ?_))))));have hv:=Bw hu he;exact A2 (AN (hk,hb+1,()) ⟨hv,Vk _⟩ (AL.c Aa (AL.c Aa (AL.c Aa AL.nil))) sN)
  refine Bt (Aw ?_);have hw:=BJ hn he hf;exact Aw (Bf (AN ((),()) hw AL.nil sN))
 rintro⟨⟨⟩,⟨⟩⟩ hd;refine Hi ?_;replace hd:It =some r:=hd;unfold It at hd;refine Bb (AO (Ae (wa Aa (Aj (Ao ?_)))));obtain rfl:=Aq hd;exact Ap (B1 Tryz.results178 (AF Aa)) sN ⟨Aa,Aa⟩
theorem LB (s:Ai)(r:Int)(h:JT s=some r):Fn Tryz.prog GE 140 [rS s] [] (λR H=>R=Av r∧H=[]):=by
 refine enter (n:=12) Tryz.func140 Aa Tryz.ntmps140 Aa (λw Z=>?_);unfold JT at h;refine Ae (wa Aa (Bc (wm Aa (wv (B9 CN Aa) (ck h λg1 h2=>wv (B3 Aa Aa g1) (wm Aa (BQ (rs:=[rS s,rS ([34]:Ai)]) (r:=Av (Lib.countByte s 34:Int)) Tryz.call179 Aa (M1 s 34) Aa Aa (ck h2 λg3 h4=>wv (B3 Aa Aa g3) (wm Aa (BQ (rs:=[rS s,rS ([92]:Ai)]) (r:=Av (Lib.countByte s 92:Int)) Tryz.call179 Aa (M1 s 92) Aa Aa (ck h4 λg5 h6=>wv (B3 Aa Aa g5) (wa Aa (Aj (Ao ?_))))))))))))));obtain rfl:=Aq h6;exact Ap (B1 Tryz.results140 (AF Aa)) sN ⟨Aa,Aa⟩
theorem Q4 (F:Nat)(c:Ac)(r:Bool)(h:Oa F c=some r):Fn Tryz.prog GE 139 [Bm (Ad c)] [] (λR H=>R=rB r∧H=[]):=by
 refine enter (n:=81) Tryz.func139 Aa Tryz.ntmps139 Aa (λw Z=>?_);unfold Oa at h;refine Ae (BC Aa Aa (λb1=>?_));refine wa Aa (Aj (Ak (Ae (vF BW Aa GI (vL 0 GK Aa (Aj (AE (Ae (wv (BD Aa Aa) (wa Aa (Aj (cz h Aa (λc2 h3=>?_) (λc2 h6=>?_)))))))))))))
 ·refine AG [(2,rB ((decide (c.fInt=0))&&((decide (c.fStr=([]:Ai)))&&(decide (c.fN=0)))))] [] ?_ ?_
  ·refine Al (vF BW Aa CM (vL 0 D8 Aa (wv (BD Aa Aa) (wm Aa (AT (decide (c.fInt=0)) (λc4=>?_) (λc4=>?_))))))
   ·refine wo c4 (vF BW Aa CC (wo c4 (vL 0 DO Aa (wo c4 (wv (Cc Aa Aa) (E7 Aa c4 Aa (wm Aa (AT (decide (c.fStr=([]:Ai))) (λc5=>?_) (λc5=>?_)))))))))
    ·refine wo c5 (vF BW Aa CM (wo c5 (vL 0 D8 Aa (wo c5 (wv (BD Aa Aa) (E7 Aa c5 Aa (wa Aa (Ar ?_))))))));exact Cl (And.intro c4 c5)
    refine wf c5 (wf c5 (wf c5 (wv (r:=rB false) (Ay Aa c5 Aa) (wa Aa (Ar ?_)))));exact Cl (And.intro c4 c5)
   refine wf c4 (wf c4 (wf c4 (wv (r:=rB false) (Ay Aa c4 Aa) (wm Aa (wz Aa Aa (wz Aa Aa (wz Aa Aa (wv (r:=rB false) (Ay (b:=false) Aa Aa Aa) (wa Aa (Ar ?_))))))))));exact Cl c4
  refine Ao (Ax (Ab ?_));obtain rfl:=Aq h3;exact Ap (B1 Km (AF Aa)) sN ⟨Aa,Aa⟩
 refine Ae (wv (BD Aa Aa) (wa Aa (Aj (cz h6 Aa (λc7 h8=>?_) (λc7 hl=>?_)))))
 ·refine AG [(2,rB (bif decide (c.fInt=0) then((decide (c.fStr=([]:Ai)))&&(decide (c.fN=0))) else((decide (c.fInt=1))&&((decide (c.fStr=([]:Ai)))&&(decide (c.fN=0))))))] [] ?_ ?_
  ·refine Al (vF BW Aa CM (vL 0 D8 Aa (wv (BD Aa Aa) (wm Aa (AT (decide (c.fInt=0)) (λc9=>?_) (λc9=>?_))))))
   ·refine wf c9 (wf c9 (wf c9 (wv (r:=rB true) (A8 Aa c9 Aa) (wm Aa (AU (b:=true) Aa Aa Aa (vF BW Aa CC (AU (b:=true) Aa Aa Aa (vL 0 DO Aa (AU (b:=true) Aa Aa Aa (wv (Cc Aa Aa) (wv (r:=rB (decide (c.fStr=([]:Ai)))) (A8 (b:=true) Aa Aa Aa) (wm Aa (AT (decide (c.fStr=([]:Ai))) (λhf=>?_) (λhf=>?_))))))))))))))
    ·refine wo hf (vF BW Aa CM (wo hf (vL 0 D8 Aa (wo hf (wv (BD Aa Aa) (E7 Aa hf Aa (wa Aa (Ar ?_))))))));exact Cl (And.intro c9 hf)
    refine wf hf (wf hf (wf hf (wv (r:=rB false) (Ay Aa hf Aa) (wa Aa (Ar ?_)))));exact Cl (And.intro c9 hf)
   refine wo c9 (vF BW Aa CM (wo c9 (vL 0 D8 Aa (wo c9 (wv (BD Aa Aa) (Ks Aa c9 Aa (wm Aa (AT (decide (c.fInt=1)) (λhb=>?_) (λhb=>?_)))))))))
   ·refine wo hb (vF BW Aa CC (wo hb (vL 0 DO Aa (wo hb (wv (Cc Aa Aa) (E7 Aa hb Aa (wm Aa (AT (decide (c.fStr=([]:Ai))) (λhg=>?_) (λhg=>?_)))))))))
    ·refine wo hg (vF BW Aa CM (wo hg (vL 0 D8 Aa (wo hg (wv (BD Aa Aa) (E7 Aa hg Aa (wa Aa (Ar ?_))))))));exact Cl (And.intro c9 (And.intro hb hg))
    refine wf hg (wf hg (wf hg (wv (r:=rB false) (Ay Aa hg Aa) (wa Aa (Ar ?_)))));exact Cl (And.intro c9 (And.intro hb hg))
   refine wf hb (wf hb (wf hb (wv (r:=rB false) (Ay Aa hb Aa) (wm Aa (wz Aa Aa (wz Aa Aa (wz Aa Aa (wv (r:=rB false) (Ay (b:=false) Aa Aa Aa) (wa Aa (Ar ?_))))))))));exact Cl (And.intro c9 hb)
  refine Ao (Ax (Ab ?_));obtain rfl:=Aq h8;exact Ap (B1 Km (AF Aa)) sN ⟨Aa,Aa⟩
 refine Ae (wv (BD Aa Aa) (wa Aa (Aj (cz hl Aa (λhm hn=>?_) (λhm ho=>?_)))))
 ·refine AG [(2,rB ((decide (c.fStr=([]:Ai)))&&(decide (c.fN=0))))] [] ?_ ?_
  ·refine Al (vF BW Aa CC (vL 0 DO Aa (wv (Cc Aa Aa) (wm Aa (AT (decide (c.fStr=([]:Ai))) (λhh=>?_) (λhh=>?_))))))
   ·refine wo hh (vF BW Aa CM (wo hh (vL 0 D8 Aa (wo hh (wv (BD Aa Aa) (E7 Aa hh Aa (wa Aa (Ar ?_))))))));exact Cl hh
   refine wf hh (wf hh (wf hh (wv (r:=rB false) (Ay Aa hh Aa) (wa Aa (Ar ?_)))));exact Cl hh
  refine Ao (Ax (Ab ?_));obtain rfl:=Aq hn;exact Ap (B1 Km (AF Aa)) sN ⟨Aa,Aa⟩
 refine Ae (wv (BD Aa Aa) (wa Aa (Aj (cz ho Aa (λhp hq=>?_) (λhp hr=>?_)))))
 ·refine ck hq λhs ht=>AG [(2,rB ((decide (c.fInt=0))&&((decide (c.fN=0))&&(ov (LA F c.fStr)))))] [] ?_ ?_
  ·refine Al (vF BW Aa CM (vL 0 D8 Aa (wv (BD Aa Aa) (wm Aa (AT (decide (c.fInt=0)) (λha=>?_) (λha=>?_))))))
   ·refine wo ha (vF BW Aa CM (wo ha (vL 0 D8 Aa (wo ha (wv (BD Aa Aa) (E7 Aa ha Aa (wm Aa (AT (decide (c.fN=0)) (λhc=>?_) (λhc=>?_)))))))))
    ·refine wo hc (vF BW Aa CC (wo hc (vL 0 DO Aa (wo hc (BU Tryz.call178 (RW F c.fStr (ov (LA F c.fStr)) (D5 (BV (BV hs ha) hc))) Aa (E7 Aa hc Aa (wa Aa (Ar ?_))))))));exact Cl (And.intro ha hc)
    refine wf hc (wf hc (wf hc (wv (r:=rB false) (Ay Aa hc Aa) (wa Aa (Ar ?_)))));exact Cl (And.intro ha hc)
   refine wf ha (wf ha (wf ha (wv (r:=rB false) (Ay Aa ha Aa) (wm Aa (wz Aa Aa (wz Aa Aa (wz Aa Aa (wv (r:=rB false) (Ay (b:=false) Aa Aa Aa) (wa Aa (Ar ?_))))))))));exact Cl ha
  refine Ao (Ax (Ab ?_));obtain rfl:=Aq ht;exact Ap (B1 Km (AF Aa)) sN ⟨Aa,Aa⟩
 refine Ak (Ae (wv (BD Aa Aa) (wa Aa (Aj (cz hr Aa (λhk hu=>?_) (λhk hv=>?_))))))
 ·refine A0 (AO (BZ Aa hk (AG [(2,rB ((decide (c.fInt=0))&&((decide (c.fStr=([]:Ai)))&&(decide (0≤c.fN)))))] [] ?_ ?_)))
  ·refine Al (vF BW Aa CM (vL 0 D8 Aa (wv (BD Aa Aa) (wm Aa (AT (decide (c.fInt=0)) (λhd=>?_) (λhd=>?_))))))
   ·refine wo hd (vF BW Aa CC (wo hd (vL 0 DO Aa (wo hd (wv (Cc Aa Aa) (E7 Aa hd Aa (wm Aa (AT (decide (c.fStr=([]:Ai))) (λhi=>?_) (λhi=>?_)))))))))
    ·refine wo hi (vF BW Aa CM (wo hi (vL 0 D8 Aa (wo hi (wv (DZ Aa Aa) (E7 Aa hi Aa (wa Aa (Ar ?_))))))));exact Cl (And.intro hd hi)
    refine wf hi (wf hi (wf hi (wv (r:=rB false) (Ay Aa hi Aa) (wa Aa (Ar ?_)))));exact Cl (And.intro hd hi)
   refine wf hd (wf hd (wf hd (wv (r:=rB false) (Ay Aa hd Aa) (wm Aa (wz Aa Aa (wz Aa Aa (wz Aa Aa (wv (r:=rB false) (Ay (b:=false) Aa Aa Aa) (wa Aa (Ar ?_))))))))));exact Cl hd
  refine Ao (Ax (Ab ?_));obtain rfl:=Aq hu;exact Ap (B1 Km (AF Aa)) sN ⟨Aa,Aa⟩
 refine Al (wv (BD Aa Aa) (wa Aa (Aj (cz hv Aa (λhw hx=>?_) (λhw hy=>?_)))))
 ·refine AG [(2,rB ((decide (c.fInt=0))&&((decide (c.fStr=([]:Ai)))&&(decide (0≤c.fN)))))] [] ?_ ?_
  ·refine Al (vF BW Aa CM (vL 0 D8 Aa (wv (BD Aa Aa) (wm Aa (AT (decide (c.fInt=0)) (λhe=>?_) (λhe=>?_))))))
   ·refine wo he (vF BW Aa CC (wo he (vL 0 DO Aa (wo he (wv (Cc Aa Aa) (E7 Aa he Aa (wm Aa (AT (decide (c.fStr=([]:Ai))) (λhj=>?_) (λhj=>?_)))))))))
    ·refine wo hj (vF BW Aa CM (wo hj (vL 0 D8 Aa (wo hj (wv (DZ Aa Aa) (E7 Aa hj Aa (wa Aa (Ar ?_))))))));exact Cl (And.intro he hj)
    refine wf hj (wf hj (wf hj (wv (r:=rB false) (Ay Aa hj Aa) (wa Aa (Ar ?_)))));exact Cl (And.intro he hj)
   refine wf he (wf he (wf he (wv (r:=rB false) (Ay Aa he Aa) (wm Aa (wz Aa Aa (wz Aa Aa (wz Aa Aa (wv (r:=rB false) (Ay (b:=false) Aa Aa Aa) (wa Aa (Ar ?_))))))))));exact Cl he
  refine Ao (Ax (Ab ?_));obtain rfl:=Aq hx;exact Ap (B1 Km (AF Aa)) sN ⟨Aa,Aa⟩
 refine A0 (AH (AO (Ae (wa Aa (Aj (Ao ?_))))));obtain rfl:=Aq hy;exact Ap (B1 Km (AF Aa)) (sS sN) ⟨Aa,Aa⟩
theorem RX (c:Ac)(r:Int)(h:Q3 c=some r):Fn Tryz.prog GE 141 [Bm (Ad c)] [] (λR H=>R=Av r∧H=[]):=by
 refine enter (n:=28) Tryz.func141 Aa Tryz.ntmps141 Aa (λw Z=>?_);unfold Q3 at h;refine Ae (BC Aa Aa (λb1=>?_));refine wa Aa (Aj (Ak (Ae (vF BW Aa GI (vL 0 GK Aa (Aj (AE (Ae (wv (BD Aa Aa) (wa Aa (Aj (cz h Aa (λc2 h3=>?_) (λc2 h4=>?_)))))))))))))
 ·refine Ae (wa Aa (Aj (Ao (Ax (Ab ?_)))));obtain rfl:=Aq h3;exact Ap (B1 MR (AF Aa)) (sS sN) ⟨Aa,Aa⟩
 refine Ae (wv (BD Aa Aa) (wa Aa (Aj (cz h4 Aa (λc5 h6=>?_) (λc5 h7=>?_)))))
 ·refine Ae (vF BW Aa CM (vL 0 D8 Aa (wv (r:=Av (IntKind.wrap .i64 (5-c.fInt))) (QQ Aa Aa) (wa Aa (Aj (Ao (Ax (Ab ?_))))))));obtain rfl:=Aq h6;exact Ap (B1 MR (AF Aa)) (sS sN) ⟨Aa,Aa⟩
 refine Ae (wv (BD Aa Aa) (wa Aa (Aj (cz h7 Aa (λc8 h9=>?_) (λc8 ha=>?_)))))
 ·refine Ae (vF BW Aa CM (vL 0 D8 Aa (ck h9 λhb hc=>BQ (rs:=[Av c.fInt]) (r:=rS (Lib.itoa c.fInt)) Tryz.call163 Aa (NB c.fInt hb) Aa Aa (wv (B9 CN Aa) (wa Aa (Aj (Ao (Ax (Ab ?_)))))))));obtain rfl:=Aq hc;exact Ap (B1 MR (AF Aa)) (sS sN) ⟨Aa,Aa⟩
 refine Ae (wv (BD Aa Aa) (wa Aa (Aj (cz ha Aa (λhd he=>?_) (λhd hf=>?_)))))
 ·refine Ae (vF BW Aa CC (vL 0 DO Aa (ob he λhg hh hi=>BU Tryz.call140 (LB c.fStr hg hh) Aa (wa Aa (Aj (Ao (Ax (Ab ?_))))))));obtain rfl:=Aq hi;exact Ap (B1 MR (AF Aa)) (sS sN) ⟨Aa,Aa⟩
 refine A0 (AH (AO (Ae (vF BW Aa CM (vL 0 D8 Aa (wv (r:=Av (IntKind.wrap .i64 (c.fN-1))) (QQ Aa Aa) (wv (QU TR Aa Aa) (wv (r:=Av (IntKind.wrap .i64 (2+(max 0 (IntKind.wrap .i64 (c.fN-1)))))) (Oq Aa Aa) (wa Aa (Aj (Ao ?_)))))))))));obtain rfl:=Aq hf;exact Ap (B1 MR (AF Aa)) (sS sN) ⟨Aa,Aa⟩
theorem PB (F:Nat)(hh:Value)(stack:(List AR))(r:(List AR))(h:Me F stack=some r):Fn Tryz.prog GE 143 [rv hh] [.row hh 190 5 (A1 A9 stack)] (λR H=>∃u0:Value,R=rv u0∧H=[.row u0 190 5 (A1 A9 r)]):=by
 refine enter (n:=38) Tryz.func143 Aa Tryz.ntmps143 Aa (λw Z=>?_);unfold Me at h;refine Ae (wa Aa (Aj (Ak (AE (ob h λhk hl hj=>Bx (S:=Nat×((List AR))×(Value)) (V:=((List AR))×(Value)) 0 (λσ=>CW (λσ=>Gp σ) σ.1 σ.2.1=some hk) (λσ=>[(0,rv σ.2.2),(2,rv (.slice none 0 0))]) (λσ=>[.row σ.2.2 190 5 (A1 A9 σ.2.1)]) (λσ=>σ.1) (F,stack,hh) hl (AL.c Aa (AL.c Aa AL.nil)) (sC sN) (λσ=>Gn σ.1=some r) (λσ=>[(0,rv σ.2),(2,rv (.slice none 0 0))]) (λσ=>[.row σ.2 190 5 (A1 A9 σ.1)]) ?_ ?_)))))
 ·rintro⟨n194,ha,hd⟩ hm;refine GL ?_;obtain⟨hn,rfl,ho,hf,hi⟩:=Ck hm;replace hf:Gp ha=some ho:=hf;unfold Gp at hf;refine Ak (Ae (wm Aa (wv (Cn (ys:=ha) (enc:=A9) (i:=0) GB Aa Aa) (wv (Ei Aa Aa) (Aj (cz hf Aa (λhp hq=>?_) (λhp hr=>?_)))))))
  ·refine A0 (AO (AE (Ae (wm Aa (wm Aa (wv (Cn (ys:=ha) (enc:=A9) (i:=0) GB Aa Aa) (ck hq λhs ht=>wv (Ew Aa Aa hs) (ck ht λhc hu=>wv (r:=rv (Dg 5 hd (BK ((ha.length:Int)-1)) 0)) (CU (i:=0) GB MO Aa Aa Aa (Bu hc)) (wa Aa (Bc (wm Aa (wv (r:=rv (Dg 5 hd (BK ((ha.length:Int)-1)) 0)) (BX (k:=0) Aa (Bu hc) Aa Aa) (wv (r:=rv (Dg 5 hd (BK ((ha.length:Int)-1)) 1)) (De (k:=0) GA Aa CM Aa (Bu hc) Aa Aa Aa) (wv (r:=Av ((Au ha ((ha.length:Int)-1)).fLeft)) (Ez (enc:=A9) (ys:=ha) (i:=0) (j:=(ha.length:Int)-1) D8 Aa Aa hc Aa) (ck hu λhv hw=>wv (Ew Aa Aa hv) (wv (r:=rv (Dg 5 hd (BK ((ha.length:Int)-1)) 0)) (BX (k:=0) Aa (Bu hc) Aa Aa) (wv (r:=rv (Dg 5 hd (BK ((ha.length:Int)-1)) 1)) (De (k:=0) GA Aa CM Aa (Bu hc) Aa Aa Aa) (GR (enc:=A9) (ys:=ha) (y':=(AR.mk ((Au ha ((ha.length:Int)-1)).fPairs) (((Au ha ((ha.length:Int)-1)).fLeft)-1) ((Au ha ((ha.length:Int)-1)).fKey) ((Au ha ((ha.length:Int)-1)).fLast) ((Au ha ((ha.length:Int)-1)).fStarted))) (i:=0) (j:=(ha.length:Int)-1) CM Aa Aa (B2 Aa) Aa hc Aa Aa (H':=[.row hd 190 5 (A1 A9 (List.set ha (BK ((ha.length:Int)-1)) (AR.mk ((Au ha ((ha.length:Int)-1)).fPairs) (((Au ha ((ha.length:Int)-1)).fLeft)-1) ((Au ha ((ha.length:Int)-1)).fKey) ((Au ha ((ha.length:Int)-1)).fLast) ((Au ha ((ha.length:Int)-1)).fStarted))))]) Aa (bd hw λhb he hx=>?_)))))))))))))))))));rw[← he];refine Aj (Ak (Ae (wm Aa (wv (r:=rv (Dg 5 hd (BK ((ha.length:Int)-1)) 0)) (BX (k:=0) Aa (Bu (Co hc he)) Aa Aa) (wv (r:=rv (Dg 5 hd (BK ((ha.length:Int)-1)) 1)) (De (k:=0) GA Aa CM Aa (Bu (Co hc he)) Aa Aa Aa) (wv (r:=Av ((Au hb ((ha.length:Int)-1)).fLeft)) (Ez (enc:=A9) (ys:=hb) (i:=0) (j:=(ha.length:Int)-1) D8 Aa Aa (Co hc he) Aa) (wv (Ei Aa Aa) (Aj (cz hx Aa (λhy hz=>?_) (λhy h0=>?_))))))))))
   ·refine Ae (wm Aa (wm Aa (wv (r:=rv (Dg 5 hd (BK ((ha.length:Int)-1)) 0)) (BX (k:=0) Aa (Bu (Co hc he)) Aa Aa) (wv (r:=rv (Dg 5 hd (BK ((ha.length:Int)-1)) 0)) (De (k:=0) GA Aa GJ Aa (Bu (Co hc he)) Aa Aa Aa) (wv (r:=rB ((Au hb ((ha.length:Int)-1)).fPairs)) (Ez (enc:=A9) (ys:=hb) (i:=0) (j:=(ha.length:Int)-1) MB Aa Aa (Co hc he) Aa) (wv (r:=rv (Dg 5 hd (BK ((ha.length:Int)-1)) 0)) (BX (k:=0) Aa (Bu (Co hc he)) Aa Aa) (wv (r:=rv (Dg 5 hd (BK ((ha.length:Int)-1)) 2)) (De (k:=0) GA Aa GJ Aa (Bu (Co hc he)) Aa Aa Aa) (GR (enc:=A9) (ys:=hb) (y':=(AR.mk ((Au hb ((ha.length:Int)-1)).fPairs) ((Au hb ((ha.length:Int)-1)).fLeft) ((Au hb ((ha.length:Int)-1)).fPairs) ((Au hb ((ha.length:Int)-1)).fLast) ((Au hb ((ha.length:Int)-1)).fStarted))) (i:=0) (j:=(ha.length:Int)-1) GJ Aa Aa (B2 Aa) Aa (Co hc he) Aa Aa (H':=[.row hd 190 5 (A1 A9 (List.set hb (BK ((ha.length:Int)-1)) (AR.mk ((Au hb ((ha.length:Int)-1)).fPairs) ((Au hb ((ha.length:Int)-1)).fLeft) ((Au hb ((ha.length:Int)-1)).fPairs) ((Au hb ((ha.length:Int)-1)).fLast) ((Au hb ((ha.length:Int)-1)).fStarted))))]) Aa (bd hz λhD h1 h2=>?_)))))))));rw[← h1];refine Bc (wm Aa (wa Aa (Aj (Ao (Ab (Ax (Ab (Bo ?_))))))));have h3:=BB h2 hi hj;refine Ax (Ab ?_);obtain rfl:=Aq h3;exact Ap (B1 Tryz.results143 (AF Aa)) (sC sN) ⟨hd,Aa,Aa⟩
   refine A0 (AO (Al (wm Aa (wm Aa (wv (Cn (ys:=hb) (enc:=A9) (i:=0) GB Aa Aa) (ck h0 λh4 h5=>wv (Ew Aa Aa h4) (ck h5 λh6 h7=>SU (i:=0) GB MO Aa Aa Aa h6 Aa (λh8=>?_))))))));refine wa Aa (Ar (AH ?_));have h9:=Bw h7 hi;exact A2 (AN (hn,List.take (BK ((hb.length:Int)-1)) hb,h8) ⟨h9,Vk _⟩ (AL.c Aa (AL.c Aa AL.nil)) (sC sN))
  refine Bt (Aw ?_);have hA:=BJ hr hi hj;exact Aw (Bf (AN (ha,hd) hA (AL.c Aa (AL.c Aa AL.nil)) (sC sN)))
 rintro⟨hB,hC⟩ hg;refine Hi ?_;replace hg:Gn hB=some r:=hg;unfold Gn at hg;refine Bb (AO (Ae (wm Aa (wa Aa (Aj (Ao ?_))))));obtain rfl:=Aq hg;exact Ap (B1 Tryz.results143 (AF Aa)) (sC sN) ⟨hC,Aa,Aa⟩
theorem Mc (F:Nat)(v:(List Ac))(r:Int×Bp×Bool)(h:Na F v=some r):Fn Tryz.prog GE 95 [AC 4 (A1 Ad v)] [] (λR H=>R=C0 [Av r.1,Bm (AW r.2.1),rB r.2.2]∧H=[]):=by
 refine enter (n:=152) Tryz.func95 Aa Tryz.ntmps95 Aa (λw Z=>?_);unfold Na at h;refine Ae (wa Aa (Bz (cs:=[Av 0,Av 0,rB false,rB false]) MH Aa Aa (λb1=>?_)));refine wa Aa (Aj (Qz (Ae (Bz (cs:=[Av 0,Av 0,rB false,rB false]) MH Aa Aa (λb2=>?_)))));refine Bc (wa Aa (Aj (Ak (Q1 (AO (Ak (Ae (wm Aa (wv (Bi (ys:=v) (enc:=Ad) CK Aa) (wv (r:=Av 0) (Am Aa) (Aj (AE (WC.nilrow (e:=190) (sz:=5) (OL (H2:=[.blk b2 [Av 0,Av 0,rB false,rB false] 143,.blk b1 [Av 0,Av 0,rB false,rB false] 143,.row (.slice none 0 0                                                                                                                                                                                              ) 190 5 (A1 A9 ([]:List AR))]) ((AI (i:=1) Aa).trans (Vj _ ((AI (i:=1) Aa).trans (Vj _ (Vi _))))) (ob h λh6 h7 hw=>Bx (S:=Nat×((List AR)×Int×Bp)×(Value)) (V:=(Bp)×(Unit)) 0 (λσ=>CW (λσ=>Iw F v σ.1 σ.2.1 σ.2.2) σ.1 σ.2.1=some h6) (λσ=>[(0,AC 4 (A1 Ad v)),(3,rP b1 0),(5,rP b2 0),(6,rv σ.2.2),(11,AC 4 (A1 Ad v)),(12,Av (v.length:Int)),(13,Av σ.2.1.2.1)]) (λσ=>[.blk b2 (AW σ.2.1.2.2) 143,.blk b1 [Av 0,Av 0,rB false,rB false] 143,.row σ.2.2 190 5 (A1 A9 σ.2.1.1)]) (λσ=>σ.1) (F,(([]:List AR),0,(Bp.mk 0 0 false false)),(.slice none 0 0                                                                                                                                                                                              )) h7 (AL.c Aa (AL.c Aa (AL.c5 Aa Aa Aa Aa Aa AL.nil))) (sC (sC (sC sN))) (λσ=>Iv σ.1=some r) (λσ=>[(3,rP b1 0),(5,rP b2 0)]) (λσ=>[.blk b2 (AW σ.1) 143,.blk b1 [Av 0,Av 0,rB false,rB false] 143]) ?_ ?_)))))))))))))))
 ·rintro⟨gD,⟨hc,hb,ha⟩,hd⟩ h8;refine GL ?_;obtain⟨h9,rfl,h2,hx,hu⟩:=Ck h8;replace hx:Iw F v hc hb ha=some h2:=hx;unfold Iw at hx;refine Ae (wv (C9 Aa Aa) (Aj (Ak (cz hx Aa (λhA hB=>?_) (λhA hC=>?_)))))
  ·refine A0 (AO (Gj (S:=((List AR)×Bp)×(Value)) (λσ=>EZ hb σ.1.1 σ.1.2=some h2) (λσ=>[(0,AC 4 (A1 Ad v)),(3,rP b1 0),(5,rP b2 0),(6,rv σ.2),(11,AC 4 (A1 Ad v)),(12,Av (v.length:Int)),(13,Av hb)]) (λσ=>[.blk b2 (AW σ.1.2) 143,.blk b1 [Av 0,Av 0,rB false,rB false] 143,.row σ.2 190 5 (A1 A9 σ.1.1)]) ?_ ?_))
   ·refine AE (Ae (wm Aa (ck hB λhD hE=>wv (Bs (enc:=Ad) (ys:=v) CK Dh Aa Aa hD) (wv (C1 P6 Dh Aa Aa Aa) (Bz (cs:=[Av 0,Av 0,rS ([]:Ai),Av 0]) MF Aa Aa (λhe=>?_))))));refine wa Aa (DW (i:=0) Dh Aa Aa Aa (Bn.c Aa) Aa Aa ?_);refine Aj (Ak (Ae (wv (Bd (i:=0) P6 Dh Aa Aa Aa Aa) (ob hE λhF hG hH=>BU Tryz.call139 (Q4 F (Au v hb) hF hG) Aa (wv (BT Aa) (Aj (cz hH Aa (λhI hJ=>?_) (λhI hK=>?_))))))))
    ·refine Ak (CG (H1:=[.blk he (Ad (Au v hb)) 70,.blk b2 (AW ha) 143,.blk b1 (AW ha) 143,.row hd 190 5 (A1 A9 hc)]) [3,5] [⟨[],Bm (AW ha),1⟩,⟨[],Av 0,0⟩,⟨[0],rv undef,2⟩,⟨[],rB false,0⟩] (rle [(3,_),(2,[.blk he (Ad (Au v hb)) 70,.blk b2 (AW ha) 143,.blk b1 (AW ha) 143,.row hd 190 5 (A1 A9 hc)])]) [2,4,3] ?_ ?_)
     ·refine of (Bd (i:=1) HG DG Aa Aa Aa Aa) (oq (A3 Aa) (C3 Aa (Eh (Dl (i:=2) DG Aa Aa Aa (Bn.c Aa) Aa Aa (cs':=[Av ha.fDepth,Av ha.fBytes,rB ha.fOutside,rB ha.fLong]) Aa (H':=[.blk he (Ad (Au v hb)) 70,.blk b2 (AW ha) 143,.blk b1 (AW ha) 143,.row hd 190 5 (A1 A9 hc)]) Aa)) ?_));refine oq (A3 Aa) ?_;exact CT
     refine AO (Ao (Ab (Ax (Ab (Ab (Bo ?_))))));have hL:=BB hJ hu hw;refine Ax (Ab (Io ?_));obtain rfl:=Aq hL;exact Ap (PH Qv (AF Aa) (Cr (i:=2) HG DG Aa Aa Aa) (AF Aa)) (sS (sS (sS (sS sN)))) ⟨Aa,Aa⟩
    refine A0 (AO (Ak (Ae (wm Aa (wv (Cn (ys:=hc) (enc:=A9) (i:=3) GB Aa Aa) (wa Aa (Aj (ck hK λhM hN=>ck hN λh3 hO=>AG [(0,AC 4 (A1 Ad v)),(3,rP b1 0),(5,rP b2 0),(6,rv hd),(7,Av hb),(8,rP he 0),(9,Av (hc.length:Int)),(11,AC 4 (A1 Ad v)),(12,Av (v.length:Int)),(13,Av hb),(33,rB ((decide (0<(hc.length:Int)))&&((Au hc ((hc.length:Int)-1)).fKey)))] [.blk he (Ad (Au v hb)) 70,.blk b2 (AW ha) 143,.blk b1 [Av 0,Av 0,rB false,rB false] 143,.row hd 190 5 (A1 A9 hc)] ?_ ?_))))))))
    ·refine Al (wm Aa (wv (Ei Aa Aa) (wm Aa (AT (decide (0<(hc.length:Int))) (λhh=>?_) (λhh=>?_)))))
     ·refine wo hh (wm Aa (wo hh (wm Aa (wo hh (wv (Ew Aa Aa (BV hM hh)) (wo hh (wv (r:=rv (Dg 5 hd (BK ((hc.length:Int)-1)) 0)) (CU (i:=3) GB MO Aa Aa Aa (Bu (BV h3 hh))) (wo hh (wv (r:=rv (Dg 5 hd (BK ((hc.length:Int)-1)) 2)) (De (k:=3) GA Aa GJ Aa (Bu (BV h3 hh)) Aa Aa Aa) (wo hh (wv (r:=rB ((Au hc ((hc.length:Int)-1)).fKey)) (Ez (enc:=A9) (ys:=hc) (i:=3) (j:=(hc.length:Int)-1) MB Aa Aa (BV h3 hh) Aa) (E7 Aa hh Aa (Ar ?_)))))))))))));exact Cl hh
     refine wf hh (wf hh (wf hh (wf hh (wf hh (wf hh (wv (r:=rB false) (Ay Aa hh Aa) (Ar ?_)))))));exact Cl hh
    refine cz hO Aa (λhP hQ=>?_) (λhP hR=>?_)
    ·refine Ae (wm Aa (wm Aa (ck hQ λhS hT=>wv (Ew Aa Aa hS) (ck hT λhi hU=>wv (r:=rv (Dg 5 hd (BK ((hc.length:Int)-1)) 0)) (CU (i:=3) GB MO Aa Aa Aa (Bu hi)) (wa Aa (Aj (Ak (AG [(0,AC 4 (A1 Ad v)),(3,rP b1 0),(5,rP b2 0),(6,rv hd),(8,rP he 0),(10,rv (Dg 5 hd (BK ((hc.length:Int)-1)) 0)),(11,AC 4 (A1 Ad v)),(12,Av (v.length:Int)),(13,Av hb),(38,rP he 0),(39,Av ((Au v hb).fKind)),(40,rB (!decide (((Au v hb).fKind)=4))),(41,rB (!decide (((Au v hb).fKind)=4))),(55,rB ((!decide (((Au v hb).fKind)=4))||(((Au hc ((hc.length:Int)-1)).fStarted)&&(GT ((Au v hb).fStr) ((Au hc ((hc.length:Int)-1)).fLast)||decide (((Au v hb).fStr)=((Au hc ((hc.length:Int)-1)).fLast))))))] [.blk he (Ad (Au v hb)) 70,.blk b2 (AW ha) 143,.blk b1 [Av 0,Av 0,rB false,rB false] 143,.row hd 190 5 (A1 A9 hc)] ?_ ?_))))))))
     ·refine AT (!decide (((Au v hb).fKind)=4)) (λhg=>?_) (λhg=>?_)
      ·refine CR [0,3,5,6,8,10,11,12,13] ?_;refine rq (As BW Aa GI Aa Aa) (rq (AP (i:=0) GK Aa Aa Aa) (rq (Cs Aa Aa) (rq (Am Aa) (rz hg (rz hg (rz hg (rz hg (rz hg (ru (ru (ru (ru (ru (ru (ru (rz hg (rq (r:=rB true) (A8 (b:=!decide (((Au v hb).fKind)=4)) Aa hg Aa) (re [38,39,40,41,42,43,44,45,46,47,48,49,50,51,52,53,54,55,0,3,5,6,8,10,11,12,13] ?_))))))))))))))))));exact Cl hg
      refine AT ((Au hc ((hc.length:Int)-1)).fStarted) (λhj=>?_) (λhj=>?_)
      ·refine CR [0,3,5,6,8,10,11,12,13] ?_;refine rq (As BW Aa GI Aa Aa) (rq (AP (i:=0) GK Aa Aa Aa) (rq (Cs Aa Aa) (rq (Am Aa) (rg hg (Am Aa) (rg hg (r:=rv (Dg 5 hd (BK ((hc.length:Int)-1)) 0)) (BX (k:=3) Aa (Bu hi) Aa Aa) (rg hg (r:=rv (Dg 5 hd (BK ((hc.length:Int)-1)) 4)) (De (k:=3) GA Aa GJ Aa (Bu hi) Aa Aa Aa) (rg hg (r:=rB ((Au hc ((hc.length:Int)-1)).fStarted)) (Ez (enc:=A9) (ys:=hc) (i:=3) (j:=(hc.length:Int)-1) MB Aa Aa hi Aa) (rg hg (Am Aa) (rg hj (As BW Aa CC Aa Aa) (rg hj (AP (i:=0) DO Aa Aa Aa) (rg hj (Am Aa) (rg hj (r:=rv (Dg 5 hd (BK ((hc.length:Int)-1)) 0)) (BX (k:=3) Aa (Bu hi) Aa Aa) (rg hj (r:=rv (Dg 5 hd (BK ((hc.length:Int)-1)) 3)) (De (k:=3) GA Aa CC Aa (Bu hi) Aa Aa Aa) (rg hj (r:=rS ((Au hc ((hc.length:Int)-1)).fLast)) (Ez (enc:=A9) (ys:=hc) (i:=3) (j:=(hc.length:Int)-1) DO Aa Aa hi Aa) (rg hj (OW Aa Aa) (rg hg (A8 Aa hj Aa) (rq (Ay Aa hg Aa) (re [38,39,40,41,42,43,44,45,46,47,48,49,50,51,52,53,54,55,0,3,5,6,8,10,11,12,13] ?_))))))))))))))))));exact Cl (And.intro hg hj)
      refine CR [0,3,5,6,8,10,11,12,13] ?_;refine rq (As BW Aa GI Aa Aa) (rq (AP (i:=0) GK Aa Aa Aa) (rq (Cs Aa Aa) (rq (Am Aa) (rg hg (Am Aa) (rg hg (r:=rv (Dg 5 hd (BK ((hc.length:Int)-1)) 0)) (BX (k:=3) Aa (Bu hi) Aa Aa) (rg hg (r:=rv (Dg 5 hd (BK ((hc.length:Int)-1)) 4)) (De (k:=3) GA Aa GJ Aa (Bu hi) Aa Aa Aa) (rg hg (r:=rB ((Au hc ((hc.length:Int)-1)).fStarted)) (Ez (enc:=A9) (ys:=hc) (i:=3) (j:=(hc.length:Int)-1) MB Aa Aa hi Aa) (rg hg (Am Aa) (rz hj (rz hj (rz hj (rz hj (rz hj (rz hj (rz hj (rg hg (r:=rB false) (Ay (b:=(Au hc ((hc.length:Int)-1)).fStarted) Aa hj Aa) (rq (Ay Aa hg Aa) (re [38,39,40,41,42,43,44,45,46,47,48,49,50,51,52,53,54,55,0,3,5,6,8,10,11,12,13] ?_))))))))))))))))));exact Cl (And.intro hg hj)
     refine cz hU Aa (λhV hW=>?_) (λhV hX=>?_)
     ·refine Ak (CG (H1:=[.blk he (Ad (Au v hb)) 70,.blk b2 (AW ha) 143,.blk b1 (AW ha) 143,.row hd 190 5 (A1 A9 hc)]) [3,5] [⟨[],Bm (AW ha),1⟩,⟨[],Av 0,0⟩,⟨[0],rv undef,2⟩,⟨[],rB false,0⟩] (rle [(3,_),(2,[.blk he (Ad (Au v hb)) 70,.blk b2 (AW ha) 143,.blk b1 (AW ha) 143,.row hd 190 5 (A1 A9 hc)])]) [2,4,3] ?_ ?_)
      ·refine of (Bd (i:=1) HG DG Aa Aa Aa Aa) (oq (A3 Aa) (C3 Aa (Eh (Dl (i:=2) DG Aa Aa Aa (Bn.c Aa) Aa Aa (cs':=[Av ha.fDepth,Av ha.fBytes,rB ha.fOutside,rB ha.fLong]) Aa (H':=[.blk he (Ad (Au v hb)) 70,.blk b2 (AW ha) 143,.blk b1 (AW ha) 143,.row hd 190 5 (A1 A9 hc)]) Aa)) ?_));refine oq (A3 Aa) ?_;exact CT
      refine AO (Ao (Ab (Ab (Ax (Ab (Ab (Bo ?_)))))));have hY:=BB hW hu hw;refine Ax (Ab (Io ?_));obtain rfl:=Aq hY;exact Ap (PH Qv (AF Aa) (Cr (i:=2) HG DG Aa Aa Aa) (AF Aa)) (sS (sS (sS (sS sN)))) ⟨Aa,Aa⟩
     refine A0 (AO (Ae (wm Aa (wm Aa (wm Aa (vF BW Aa CC (vL 0 DO Aa (wv (r:=rv (Dg 5 hd (BK ((hc.length:Int)-1)) 0)) (BX (k:=3) Aa (Bu hi) Aa Aa) (wv (r:=rv (Dg 5 hd (BK ((hc.length:Int)-1)) 3)) (De (k:=3) GA Aa CC Aa (Bu hi) Aa Aa Aa) (GR (enc:=A9) (ys:=hc) (y':=(AR.mk ((Au hc ((hc.length:Int)-1)).fPairs) ((Au hc ((hc.length:Int)-1)).fLeft) ((Au hc ((hc.length:Int)-1)).fKey) ((Au v hb).fStr) ((Au hc ((hc.length:Int)-1)).fStarted))) (i:=3) (j:=(hc.length:Int)-1) CC Aa Aa (B2 Aa) Aa hi Aa Aa (H':=[.blk he (Ad (Au v hb)) 70,.blk b2 (AW ha) 143,.blk b1 [Av 0,Av 0,rB false,rB false] 143,.row hd 190 5 (A1 A9 (List.set hc (BK ((hc.length:Int)-1)) (AR.mk ((Au hc ((hc.length:Int)-1)).fPairs) ((Au hc ((hc.length:Int)-1)).fLeft) ((Au hc ((hc.length:Int)-1)).fKey) ((Au v hb).fStr) ((Au hc ((hc.length:Int)-1)).fStarted))))]) Aa (bd hX λhq hs hZ=>?_)))))))))));rw[← hs];refine wv (r:=rv (Dg 5 hd (BK ((hc.length:Int)-1)) 0)) (BX (k:=3) Aa (Bu (Co hi hs)) Aa Aa) (wv (r:=rv (Dg 5 hd (BK ((hc.length:Int)-1)) 4)) (De (k:=3) GA Aa GJ Aa (Bu (Co hi hs)) Aa Aa Aa) (GR (enc:=A9) (ys:=hq) (y':=(AR.mk ((Au hq ((hc.length:Int)-1)).fPairs) ((Au hq ((hc.length:Int)-1)).fLeft) ((Au hq ((hc.length:Int)-1)).fKey) ((Au hq ((hc.length:Int)-1)).fLast) true)) (i:=3) (j:=(hc.length:Int)-1) GJ Aa Aa (B2 Aa) Aa (Co hi hs) Aa Aa (H':=[.blk he (Ad (Au v hb)) 70,.blk b2 (AW ha) 143,.blk b1 [Av 0,Av 0,rB false,rB false] 143,.row hd 190 5 (A1 A9 (List.set hq (BK ((hc.length:Int)-1)) (AR.mk ((Au hq ((hc.length:Int)-1)).fPairs) ((Au hq ((hc.length:Int)-1)).fLeft) ((Au hq ((hc.length:Int)-1)).fKey) ((Au hq ((hc.length:Int)-1)).fLast) true)))]) Aa (bd hZ λhr hy ga=>?_)));rw[← hy];refine wv (r:=rv (Dg 5 hd (BK ((hc.length:Int)-1)) 0)) (BX (k:=3) Aa (Bu (Co (Co hi hs) hy)) Aa Aa) (wv (r:=rv (Dg 5 hd (BK ((hc.length:Int)-1)) 2)) (De (k:=3) GA Aa GJ Aa (Bu (Co (Co hi hs) hy)) Aa Aa Aa) (GR (enc:=A9) (ys:=hr) (y':=(AR.mk ((Au hr ((hc.length:Int)-1)).fPairs) ((Au hr ((hc.length:Int)-1)).fLeft) false ((Au hr ((hc.length:Int)-1)).fLast) ((Au hr ((hc.length:Int)-1)).fStarted))) (i:=3) (j:=(hc.length:Int)-1) GJ Aa Aa (B2 Aa) Aa (Co (Co hi hs) hy) Aa Aa (H':=[.blk he (Ad (Au v hb)) 70,.blk b2 (AW ha) 143,.blk b1 [Av 0,Av 0,rB false,rB false] 143,.row hd 190 5 (A1 A9 (List.set hr (BK ((hc.length:Int)-1)) (AR.mk ((Au hr ((hc.length:Int)-1)).fPairs) ((Au hr ((hc.length:Int)-1)).fLeft) false ((Au hr ((hc.length:Int)-1)).fLast) ((Au hr ((hc.length:Int)-1)).fStarted))))]) Aa (bd ga λht gb gc=>?_)));rw[← gb];refine Aj (Ak (ob gc λhl gd ge=>ck ge λgf gg=>CG (H1:=[.blk he (Ad (Au v hb)) 70,.blk b2 [Av ha.fDepth,Av (IntKind.wrap .i64 (ha.fBytes+(hl+1))),rB ha.fOutside,rB ha.fLong] 143,.blk b1 [Av 0,Av 0,rB false,rB false] 143,.row hd 190 5 (A1 A9 ht)]) [0,3,5,6,8,11,12,13,38,39,40,41] [⟨[],rP b2 1,0⟩,⟨[0],Av ha.fBytes,1⟩,⟨[],rP he 2,0⟩,⟨[2],rS ((Au v hb).fStr),1⟩,⟨[3],Av hl,0⟩,⟨[4],Av (hl+1),0⟩,⟨[1,5],Av (IntKind.wrap .i64 (ha.fBytes+(hl+1))),0⟩,⟨[],rP b2 1,0⟩,⟨[7,6],rv undef,2⟩] (rle [(9,_),(1,[.blk he (Ad (Au v hb)) 70,.blk b2 [Av ha.fDepth,Av (IntKind.wrap .i64 (ha.fBytes+(hl+1))),rB ha.fOutside,rB ha.fLong] 143,.blk b1 [Av 0,Av 0,rB false,rB false] 143,.row hd 190 5 (A1 A9 ht)])]) [68,69,70,71,72,73,74,75,0,3,5,6,8,11,12,13,38,39,40,41] ?_ ?_))
     ·refine oq (As Dx Aa CM Aa Aa) (of (AP (i:=1) D8 Aa Aa Aa) (oq (As BW Aa CC Aa Aa) (of (AP (i:=0) DO Aa Aa Aa) (Gd Aa (λH=>Cj Tryz.call140 (LB ((Au v hb).fStr) hl gd) Aa) ?_))));refine oq (B3 Aa Aa gf) (oq (Oq Aa Aa) (oq (As Dx Aa CM Aa Aa) (C3 Aa (Eh (Cd (i:=1) CM Aa Aa (B2 Aa) Aa Aa (cs':=[Av ha.fDepth,Av (IntKind.wrap .i64 (ha.fBytes+(hl+1))),rB ha.fOutside,rB ha.fLong]) Aa (H':=[.blk he (Ad (Au v hb)) 70,.blk b2 [Av ha.fDepth,Av (IntKind.wrap .i64 (ha.fBytes+(hl+1))),rB ha.fOutside,rB ha.fLong] 143,.blk b1 [Av 0,Av 0,rB false,rB false] 143,.row hd 190 5 (A1 A9 ht)]) Aa)) ?_)));exact CT
     refine AO (AG [(0,AC 4 (A1 Ad v)),(3,rP b1 0),(5,rP b2 0),(6,rv hd),(11,AC 4 (A1 Ad v)),(12,Av (v.length:Int)),(13,Av hb),(38,rP he 0),(39,Av ((Au v hb).fKind)),(40,rB (!decide (((Au v hb).fKind)=4))),(41,rB (!decide (((Au v hb).fKind)=4))),(68,rP b2 1),(69,Av ha.fBytes),(70,rP he 2),(71,rS ((Au v hb).fStr)),(72,Av hl),(73,Av (hl+1)),(74,Av (IntKind.wrap .i64 (ha.fBytes+(hl+1)))),(75,rP b2 1)] [.blk he (Ad (Au v hb)) 70,.blk b2 [Av ha.fDepth,Av (IntKind.wrap .i64 (ha.fBytes+(hl+1))),rB ha.fOutside,rB (ha.fLong||(decide (200<(((Au v hb).fStr).length:Int))))] 143,.blk b1 [Av 0,Av 0,rB false,rB false] 143,.row hd 190 5 (A1 A9 ht)] ?_ ?_)
     ·refine Al (vF Dx Aa GJ (vL 1 MB Aa (wm Aa (AT (ha.fLong) (λhn=>?_) (λhn=>?_)))))
      ·refine wf hn (wf hn (wf hn (wf hn (wv (r:=rB true) (A8 Aa hn Aa) (vF Dx Aa GJ (us (i:=1) GJ Aa Aa (B2 Aa) Aa Aa ?_))))));refine Ar (HT (H':=[.blk he (Ad (Au v hb)) 70,.blk b2 [Av ha.fDepth,Av (IntKind.wrap .i64 (ha.fBytes+(hl+1))),rB ha.fOutside,rB (ha.fLong||(decide (200<(((Au v hb).fStr).length:Int))))] 143,.blk b1 [Av 0,Av 0,rB false,rB false] 143,.row hd 190 5 (A1 A9 ht)]) (by simp only[hn,Vy,Vv,V1,Vo,V0,Vw,V2,Vz,Vx,Vu,VB,V7]) ?_);exact wt
      refine wo hn (vF BW Aa CC (wo hn (vL 0 DO Aa (wo hn (wv (B9 CN Aa) (wo hn (wv (Ei Aa Aa) (Ks Aa hn Aa (vF Dx Aa GJ (us (i:=1) GJ Aa Aa (B2 Aa) Aa Aa ?_))))))))));refine Ar (HT (H':=[.blk he (Ad (Au v hb)) 70,.blk b2 [Av ha.fDepth,Av (IntKind.wrap .i64 (ha.fBytes+(hl+1))),rB ha.fOutside,rB (ha.fLong||(decide (200<(((Au v hb).fStr).length:Int))))] 143,.blk b1 [Av 0,Av 0,rB false,rB false] 143,.row hd 190 5 (A1 A9 ht)]) (by simp only[hn,Vy,Vv,V1,Vo,V0,Vw,V2,Vz,Vx,Vu,VB,V7]) ?_);exact wt
     exact Bt (Aw (Bb (A2 (AN ((ht,(Bp.mk ha.fDepth (IntKind.wrap .i64 (ha.fBytes+(hl+1))) ha.fOutside (ha.fLong||(decide (200<(((Au v hb).fStr).length:Int)))))),hd) gg (AL.c Aa (AL.c Aa (AL.c5 Aa Aa Aa Aa Aa AL.nil))) (sS (sC (sC (sC sN))))))))
    refine A0 (AO (Ae (vF Dx Aa CM (vL 1 D8 Aa (wm Aa (wv (Cn (ys:=hc) (enc:=A9) (i:=3) GB Aa Aa) (ck hR λgh gi=>wv (B3 Aa Aa gh) (wv (QU TR Aa Aa) (vF Dx Aa CM (us (i:=1) CM Aa Aa (B2 Aa) Aa Aa ?_))))))))));refine Aj (Ak (ob gi λhf gj gl=>CG (H1:=[.blk he (Ad (Au v hb)) 70,.blk b2 [Av (max ha.fDepth ((hc.length:Int)+1)),Av (IntKind.wrap .i64 (ha.fBytes+hf)),rB ha.fOutside,rB ha.fLong] 143,.blk b1 [Av 0,Av 0,rB false,rB false] 143,.row hd 190 5 (A1 A9 hc)]) [0,3,5,6,7,8,11,12,13] [⟨[],rP b2 1,0⟩,⟨[0],Av ha.fBytes,1⟩,⟨[],Bm (Ad (Au v hb)),1⟩,⟨[2],Av hf,0⟩,⟨[1,3],Av (IntKind.wrap .i64 (ha.fBytes+hf)),0⟩,⟨[],rP b2 1,0⟩,⟨[5,4],rv undef,2⟩] (rle [(7,_),(1,[.blk he (Ad (Au v hb)) 70,.blk b2 [Av (max ha.fDepth ((hc.length:Int)+1)),Av (IntKind.wrap .i64 (ha.fBytes+hf)),rB ha.fOutside,rB ha.fLong] 143,.blk b1 [Av 0,Av 0,rB false,rB false] 143,.row hd 190 5 (A1 A9 hc)])]) [92,93,94,95,96,97,0,3,5,6,7,8,11,12,13] ?_ ?_))
    ·refine oq (As Dx Aa CM Aa Aa) (of (AP (i:=1) D8 Aa Aa Aa) (of (Bd (i:=0) P6 Dh Aa Aa Aa Aa) (Gd Aa (λH=>Cj Tryz.call141 (RX (Au v hb) hf gj) Aa) ?_)));refine oq (Oq Aa Aa) (oq (As Dx Aa CM Aa Aa) (C3 Aa (Eh (Cd (i:=1) CM Aa Aa (B2 Aa) Aa Aa (cs':=[Av (max ha.fDepth ((hc.length:Int)+1)),Av (IntKind.wrap .i64 (ha.fBytes+hf)),rB ha.fOutside,rB ha.fLong]) Aa (H':=[.blk he (Ad (Au v hb)) 70,.blk b2 [Av (max ha.fDepth ((hc.length:Int)+1)),Av (IntKind.wrap .i64 (ha.fBytes+hf)),rB ha.fOutside,rB ha.fLong] 143,.blk b1 [Av 0,Av 0,rB false,rB false] 143,.row hd 190 5 (A1 A9 hc)]) Aa)) ?_));exact CT
    refine AO (ck gl λgm gp=>AG [(0,AC 4 (A1 Ad v)),(3,rP b1 0),(5,rP b2 0),(6,rv hd),(7,Av hb),(8,rP he 0),(11,AC 4 (A1 Ad v)),(12,Av (v.length:Int)),(13,Av hb),(92,rP b2 1),(93,Av ha.fBytes),(94,Bm (Ad (Au v hb))),(95,Av hf),(96,Av (IntKind.wrap .i64 (ha.fBytes+hf))),(97,rP b2 1)] [.blk he (Ad (Au v hb)) 70,.blk b2 [Av (max ha.fDepth ((hc.length:Int)+1)),Av (IntKind.wrap .i64 (ha.fBytes+hf)),rB (ha.fOutside||((decide (((Au v hb).fKind)=3))&&(!(ov (BM ((Au v hb).fInt)))))),rB ha.fLong] 143,.blk b1 [Av 0,Av 0,rB false,rB false] 143,.row hd 190 5 (A1 A9 hc)] ?_ ?_)
    ·refine Al (vF Dx Aa GJ (vL 1 MB Aa (wm Aa (AT (ha.fOutside) (λhk=>?_) (λhk=>?_)))))
     ·refine wf hk (wf hk (wf hk (wf hk (wu (wu (wu (wu (wf hk (wv (r:=rB true) (A8 Aa hk Aa) (vF Dx Aa GJ (us (i:=1) GJ Aa Aa (B2 Aa) Aa Aa ?_)))))))))));refine Ar (HT (H':=[.blk he (Ad (Au v hb)) 70,.blk b2 [Av (max ha.fDepth ((hc.length:Int)+1)),Av (IntKind.wrap .i64 (ha.fBytes+hf)),rB (ha.fOutside||((decide (((Au v hb).fKind)=3))&&(!(ov (BM ((Au v hb).fInt)))))),rB ha.fLong] 143,.blk b1 [Av 0,Av 0,rB false,rB false] 143,.row hd 190 5 (A1 A9 hc)]) (by simp only[hk,Vy,Vv,V1,Vo,V0,Vw,V2,Vz,Vx,Vu,VB,V7]) ?_);exact wt
     refine wo hk (vF BW Aa GI (wo hk (vL 0 GK Aa (wo hk (wv (BD Aa Aa) (wo hk (wm Aa (AT (decide (((Au v hb).fKind)=3)) (λhm=>?_) (λhm=>?_)))))))))
     ·refine wo hm (vF BW Aa CM (wo hm (vL 0 D8 Aa (wo hm (BU Tryz.call142 (QX ((Au v hb).fInt) (ov (BM ((Au v hb).fInt))) (D5 (BV (Ee gm hk) hm))) Aa (wo hm (wv (BT Aa) (wo hk (E7 Aa hm Aa (Ks Aa hk Aa (vF Dx Aa GJ (us (i:=1) GJ Aa Aa (B2 Aa) Aa Aa ?_))))))))))));refine Ar (HT (H':=[.blk he (Ad (Au v hb)) 70,.blk b2 [Av (max ha.fDepth ((hc.length:Int)+1)),Av (IntKind.wrap .i64 (ha.fBytes+hf)),rB (ha.fOutside||((decide (((Au v hb).fKind)=3))&&(!(ov (BM ((Au v hb).fInt)))))),rB ha.fLong] 143,.blk b1 [Av 0,Av 0,rB false,rB false] 143,.row hd 190 5 (A1 A9 hc)]) (by simp only[hk,hm,Vy,Vv,V1,Vo,V0,Vw,V2,Vz,Vx,Vu,VB,V7]) ?_);exact wt
     refine wf hm (wf hm (wf hm (wf hm (wo hk (wv (r:=rB false) (Ay Aa hm Aa) (Ks Aa hk Aa (vF Dx Aa GJ (us (i:=1) GJ Aa Aa (B2 Aa) Aa Aa ?_))))))));refine Ar (HT (H':=[.blk he (Ad (Au v hb)) 70,.blk b2 [Av (max ha.fDepth ((hc.length:Int)+1)),Av (IntKind.wrap .i64 (ha.fBytes+hf)),rB (ha.fOutside||((decide (((Au v hb).fKind)=3))&&(!(ov (BM ((Au v hb).fInt)))))),rB ha.fLong] 143,.blk b1 [Av 0,Av 0,rB false,rB false] 143,.row hd 190 5 (A1 A9 hc)]) (by simp only[hk,hm,Vy,Vv,V1,Vo,V0,Vw,V2,Vz,Vx,Vu,VB,V7]) ?_);exact wt
    refine AG [(0,AC 4 (A1 Ad v)),(3,rP b1 0),(5,rP b2 0),(6,rv hd),(7,Av hb),(8,rP he 0),(11,AC 4 (A1 Ad v)),(12,Av (v.length:Int)),(13,Av hb),(92,rP b2 1),(93,Av ha.fBytes),(94,Bm (Ad (Au v hb))),(95,Av hf),(96,Av (IntKind.wrap .i64 (ha.fBytes+hf))),(97,rP b2 1)] [.blk he (Ad (Au v hb)) 70,.blk b2 [Av (max ha.fDepth ((hc.length:Int)+1)),Av (IntKind.wrap .i64 (ha.fBytes+hf)),rB (ha.fOutside||((decide (((Au v hb).fKind)=3))&&(!(ov (BM ((Au v hb).fInt)))))),rB (ha.fLong||(decide (200<(((Au v hb).fStr).length:Int))))] 143,.blk b1 [Av 0,Av 0,rB false,rB false] 143,.row hd 190 5 (A1 A9 hc)] ?_ ?_
    ·refine Al (vF Dx Aa GJ (vL 1 MB Aa (wm Aa (AT (ha.fLong) (λho=>?_) (λho=>?_)))))
     ·refine wf ho (wf ho (wf ho (wf ho (wv (r:=rB true) (A8 Aa ho Aa) (vF Dx Aa GJ (us (i:=1) GJ Aa Aa (B2 Aa) Aa Aa ?_))))));refine Ar (HT (H':=[.blk he (Ad (Au v hb)) 70,.blk b2 [Av (max ha.fDepth ((hc.length:Int)+1)),Av (IntKind.wrap .i64 (ha.fBytes+hf)),rB (ha.fOutside||((decide (((Au v hb).fKind)=3))&&(!(ov (BM ((Au v hb).fInt)))))),rB (ha.fLong||(decide (200<(((Au v hb).fStr).length:Int))))] 143,.blk b1 [Av 0,Av 0,rB false,rB false] 143,.row hd 190 5 (A1 A9 hc)]) (by simp only[ho,Vy,Vv,V1,Vo,V0,Vw,V2,Vz,Vx,Vu,VB,V7]) ?_);exact wt
     refine wo ho (vF BW Aa CC (wo ho (vL 0 DO Aa (wo ho (wv (B9 CN Aa) (wo ho (wv (Ei Aa Aa) (Ks Aa ho Aa (vF Dx Aa GJ (us (i:=1) GJ Aa Aa (B2 Aa) Aa Aa ?_))))))))));refine Ar (HT (H':=[.blk he (Ad (Au v hb)) 70,.blk b2 [Av (max ha.fDepth ((hc.length:Int)+1)),Av (IntKind.wrap .i64 (ha.fBytes+hf)),rB (ha.fOutside||((decide (((Au v hb).fKind)=3))&&(!(ov (BM ((Au v hb).fInt)))))),rB (ha.fLong||(decide (200<(((Au v hb).fStr).length:Int))))] 143,.blk b1 [Av 0,Av 0,rB false,rB false] 143,.row hd 190 5 (A1 A9 hc)]) (by simp only[ho,Vy,Vv,V1,Vo,V0,Vw,V2,Vz,Vx,Vu,VB,V7]) ?_);exact wt
    refine Ak (Ae (vF BW Aa CM (vL 0 D8 Aa (wv (Ei Aa Aa) (Aj (cz gp Aa (λgq gr=>?_) (λgq gs=>?_)))))))
    ·refine Ak (Ae (vF BW Aa CM (vL 0 D8 Aa (wm Aa (wv (Bi (ys:=v) (enc:=Ad) CK Aa) (wv (Ei Aa Aa) (Aj (cz gr Aa (λgt gu=>?_) (λgt gv=>?_)))))))))
     ·refine Ak (CG (H1:=[.blk he (Ad (Au v hb)) 70,.blk b2 [Av (max ha.fDepth ((hc.length:Int)+1)),Av (IntKind.wrap .i64 (ha.fBytes+hf)),rB (ha.fOutside||((decide (((Au v hb).fKind)=3))&&(!(ov (BM ((Au v hb).fInt)))))),rB (ha.fLong||(decide (200<(((Au v hb).fStr).length:Int))))] 143,.blk b1 [Av (max ha.fDepth ((hc.length:Int)+1)),Av (IntKind.wrap .i64 (ha.fBytes+hf)),rB (ha.fOutside||((decide (((Au v hb).fKind)=3))&&(!(ov (BM ((Au v hb).fInt)))))),rB (ha.fLong||(decide (200<(((Au v hb).fStr).length:Int))))] 143,.row hd 190 5 (A1 A9 hc)]) [3,5] [⟨[],Bm [Av (max ha.fDepth ((hc.length:Int)+1)),Av (IntKind.wrap .i64 (ha.fBytes+hf)),rB (ha.fOutside||((decide (((Au v hb).fKind)=3))&&(!(ov (BM ((Au v hb).fInt)))))),rB (ha.fLong||(decide (200<(((Au v hb).fStr).length:Int))))],1⟩,⟨[],Av 0,0⟩,⟨[0],rv undef,2⟩,⟨[],rB false,0⟩] (rle [(3,_),(2,[.blk he (Ad (Au v hb)) 70,.blk b2 [Av (max ha.fDepth ((hc.length:Int)+1)),Av (IntKind.wrap .i64 (ha.fBytes+hf)),rB (ha.fOutside||((decide (((Au v hb).fKind)=3))&&(!(ov (BM ((Au v hb).fInt)))))),rB (ha.fLong||(decide (200<(((Au v hb).fStr).length:Int))))] 143,.blk b1 [Av (max ha.fDepth ((hc.length:Int)+1)),Av (IntKind.wrap .i64 (ha.fBytes+hf)),rB (ha.fOutside||((decide (((Au v hb).fKind)=3))&&(!(ov (BM ((Au v hb).fInt)))))),rB (ha.fLong||(decide (200<(((Au v hb).fStr).length:Int))))] 143,.row hd 190 5 (A1 A9 hc)])]) [2,4,3] ?_ ?_)
      ·refine of (Bd (i:=1) HG DG Aa Aa Aa Aa) (oq (A3 Aa) (C3 Aa (Eh (Dl (i:=2) DG Aa Aa Aa (Bn.c Aa) Aa Aa (cs':=[Av (max ha.fDepth ((hc.length:Int)+1)),Av (IntKind.wrap .i64 (ha.fBytes+hf)),rB (ha.fOutside||((decide (((Au v hb).fKind)=3))&&(!(ov (BM ((Au v hb).fInt)))))),rB (ha.fLong||(decide (200<(((Au v hb).fStr).length:Int))))]) Aa (H':=[.blk he (Ad (Au v hb)) 70,.blk b2 [Av (max ha.fDepth ((hc.length:Int)+1)),Av (IntKind.wrap .i64 (ha.fBytes+hf)),rB (ha.fOutside||((decide (((Au v hb).fKind)=3))&&(!(ov (BM ((Au v hb).fInt)))))),rB (ha.fLong||(decide (200<(((Au v hb).fStr).length:Int))))] 143,.blk b1 [Av (max ha.fDepth ((hc.length:Int)+1)),Av (IntKind.wrap .i64 (ha.fBytes+hf)),rB (ha.fOutside||((decide (((Au v hb).fKind)=3))&&(!(ov (BM ((Au v hb).fInt)))))),rB (ha.fLong||(decide (200<(((Au v hb).fStr).length:Int))))] 143,.row hd 190 5 (A1 A9 hc)]) Aa)) ?_));refine oq (A3 Aa) ?_;exact CT
      refine AO (Ao (Ab (Ab (Ax (Ab (Ab (Bo ?_)))))));have gw:=BB gu hu hw;refine Ax (Ab (Io ?_));obtain rfl:=Aq gw;exact Ap (PH Qv (AF Aa) (Cr (i:=2) HG DG Aa Aa Aa) (AF Aa)) (sS (sS (sS (sS sN)))) ⟨Aa,Aa⟩
     refine A0 (AO (Ae (wm Aa (vF BW Aa GI (vL 0 GK Aa (wv (BD Aa Aa) (vF BW Aa CM (vL 0 D8 Aa (vF BW Aa GI (vL 0 GK Aa (wv (BD Aa Aa) (wv (r:=Bm [rB (decide (((Au v hb).fKind)=6)),Av ((Au v hb).fN),rB (decide (((Au v hb).fKind)=6)),rS ([]:Ai),rB false]) (Jf Aa Aa Aa Aa Aa Aa) (AQ (ys:=([(AR.mk (decide (((Au v hb).fKind)=6)) ((Au v hb).fN) (decide (((Au v hb).fKind)=6)) ([]:Ai) false)]:List AR)) (enc:=A9) (css:=[[rB (decide (((Au v hb).fKind)=6)),Av ((Au v hb).fN),rB (decide (((Au v hb).fKind)=6)),rS ([]:Ai),rB false]]) (xs:=[.tmp 139]) GB MO Tryz.zeroValue190 Aa Aa Aa ⟨Dw.agg ⟨Up.refl _,Up.refl _,Up.refl _,Up.refl _,Up.refl _,trivial⟩,trivial⟩ Aa GD Aa Aa Aa (λgE=>?_))))))))))))));refine ck gv λgx gy=>Exists.elim S8 λinf hinf=>Di (xs:=hc) (ys:=([(AR.mk (decide (((Au v hb).fKind)=6)) ((Au v hb).fN) (decide (((Au v hb).fKind)=6)) ([]:Ai) false)]:List AR)) (enc:=A9) (i:=4) GB hinf.1 hinf.2.1 hinf.2.2.1 hinf.2.2.2 Aa Aa Aa Aa Aa (M8.w (i:=0) Aa Aa) GD JP gx Aa (λgz=>?_);refine wa Aa (Aj (Bt (Aw (Bb (J5 [3,3] ?_)))));exact A2 (AN ((hc++([(AR.mk (decide (((Au v hb).fKind)=6)) ((Au v hb).fN) (decide (((Au v hb).fKind)=6)) ([]:Ai) false)]:List AR),(Bp.mk (max ha.fDepth ((hc.length:Int)+1)) (IntKind.wrap .i64 (ha.fBytes+hf)) (ha.fOutside||((decide (((Au v hb).fKind)=3))&&(!(ov (BM ((Au v hb).fInt)))))) (ha.fLong||(decide (200<(((Au v hb).fStr).length:Int)))))),gz) gy (AL.c Aa (AL.c Aa (AL.c5 Aa Aa Aa Aa Aa AL.nil))) (sC (sC (sC (sS (sS sN))))))
    refine A0 (AO (Ae (wm Aa (ob gs λhv g0 g1=>EP [3] Tryz.call143 (PB F hd hc hv g0) ?_))));rintro _ _ ⟨hz,rfl,rfl⟩;refine wa Aa (Bc (wm Aa (wv (Cn (ys:=hv) (enc:=A9) (i:=0) GB Aa Aa) (wv (BD Aa Aa) (Aj (cz g1 Aa (λg2 g3=>?_) (λg2 g4=>?_)))))))
    ·refine Ak (ck g3 λg5 g6=>CG (H1:=[.row hz 190 5 (A1 A9 hv),.blk he (Ad (Au v hb)) 70,.blk b2 [Av (max ha.fDepth ((hc.length:Int)+1)),Av (IntKind.wrap .i64 (ha.fBytes+hf)),rB (ha.fOutside||((decide (((Au v hb).fKind)=3))&&(!(ov (BM ((Au v hb).fInt)))))),rB (ha.fLong||(decide (200<(((Au v hb).fStr).length:Int))))] 143,.blk b1 [Av (max ha.fDepth ((hc.length:Int)+1)),Av (IntKind.wrap .i64 (ha.fBytes+hf)),rB (ha.fOutside||((decide (((Au v hb).fKind)=3))&&(!(ov (BM ((Au v hb).fInt)))))),rB (ha.fLong||(decide (200<(((Au v hb).fStr).length:Int))))] 143]) [3,5,7] [⟨[],Av hb,0⟩,⟨[0],Av (hb+1),0⟩,⟨[],Bm [Av (max ha.fDepth ((hc.length:Int)+1)),Av (IntKind.wrap .i64 (ha.fBytes+hf)),rB (ha.fOutside||((decide (((Au v hb).fKind)=3))&&(!(ov (BM ((Au v hb).fInt)))))),rB (ha.fLong||(decide (200<(((Au v hb).fStr).length:Int))))],1⟩,⟨[1],Av (hb+1),0⟩,⟨[2],rv undef,2⟩,⟨[],rB true,0⟩] (rle [(5,_),(2,[.row hz 190 5 (A1 A9 hv),.blk he (Ad (Au v hb)) 70,.blk b2 [Av (max ha.fDepth ((hc.length:Int)+1)),Av (IntKind.wrap .i64 (ha.fBytes+hf)),rB (ha.fOutside||((decide (((Au v hb).fKind)=3))&&(!(ov (BM ((Au v hb).fInt)))))),rB (ha.fLong||(decide (200<(((Au v hb).fStr).length:Int))))] 143,.blk b1 [Av (max ha.fDepth ((hc.length:Int)+1)),Av (IntKind.wrap .i64 (ha.fBytes+hf)),rB (ha.fOutside||((decide (((Au v hb).fKind)=3))&&(!(ov (BM ((Au v hb).fInt)))))),rB (ha.fLong||(decide (200<(((Au v hb).fStr).length:Int))))] 143])]) [2,4,3] ?_ ?_)
     ·refine oq (Am Aa) (oq (B3 Aa Aa g5) (of (Bd (i:=2) HG DG Aa Aa Aa Aa) (oq (A3 Aa) (C3 Aa (Eh (Dl (i:=3) DG Aa Aa Aa (Bn.c Aa) Aa Aa (cs':=[Av (max ha.fDepth ((hc.length:Int)+1)),Av (IntKind.wrap .i64 (ha.fBytes+hf)),rB (ha.fOutside||((decide (((Au v hb).fKind)=3))&&(!(ov (BM ((Au v hb).fInt)))))),rB (ha.fLong||(decide (200<(((Au v hb).fStr).length:Int))))]) Aa (H':=[.row hz 190 5 (A1 A9 hv),.blk he (Ad (Au v hb)) 70,.blk b2 [Av (max ha.fDepth ((hc.length:Int)+1)),Av (IntKind.wrap .i64 (ha.fBytes+hf)),rB (ha.fOutside||((decide (((Au v hb).fKind)=3))&&(!(ov (BM ((Au v hb).fInt)))))),rB (ha.fLong||(decide (200<(((Au v hb).fStr).length:Int))))] 143,.blk b1 [Av (max ha.fDepth ((hc.length:Int)+1)),Av (IntKind.wrap .i64 (ha.fBytes+hf)),rB (ha.fOutside||((decide (((Au v hb).fKind)=3))&&(!(ov (BM ((Au v hb).fInt)))))),rB (ha.fLong||(decide (200<(((Au v hb).fStr).length:Int))))] 143]) Aa)) ?_))));refine oq (A3 Aa) ?_;exact CT
     refine AO (Ao (Ax (Ab (Ab (Bo ?_)))));have g7:=BB g6 hu hw;refine Ax (Ab (Io ?_));obtain rfl:=Aq g7;exact Ap (PH Qv (AF Aa) (Cr (i:=3) HG DG Aa Aa Aa) (AF Aa)) (sS (sS (sS (sS sN)))) ⟨Aa,Aa⟩
    refine A0 (AH (J5 [2,2] ?_));exact A2 (AN ((hv,(Bp.mk (max ha.fDepth ((hc.length:Int)+1)) (IntKind.wrap .i64 (ha.fBytes+hf)) (ha.fOutside||((decide (((Au v hb).fKind)=3))&&(!(ov (BM ((Au v hb).fInt)))))) (ha.fLong||(decide (200<(((Au v hb).fStr).length:Int)))))),hz) g4 (AL.c Aa (AL.c Aa (AL.c5 Aa Aa Aa Aa Aa AL.nil))) (sC (sC (sC (sS sN)))))
   rintro⟨⟨h4,h5⟩,g8⟩ h0;refine GL ?_;replace h0:EZ hb h4 h5=some h2:=h0;unfold EZ at h0;refine Al (ck h0 λg9 gA=>wv (B3 Aa Aa g9) (wm Aa (Ar ?_)));have gB:=Bw gA hu;exact A2 (AN (h9,(h4,hb+1,h5),g8) ⟨gB,Vk _⟩ (AL.c Aa (AL.c Aa (AL.c5 Aa Aa Aa Aa Aa AL.nil))) (sC (sC (sC sN))))
  refine Bt (Aw ?_);have gC:=BJ hC hu hw;exact Aw (Bf (AN (ha,()) gC (AL.c Aa (AL.c Aa AL.nil)) (sC (sC (sS sN)))))
 rintro⟨hp,⟨⟩⟩ h1;refine Hi ?_;replace h1:Iv hp=some r:=h1;unfold Iv at h1;refine Bb (AO (Ak (CG (H1:=[.blk b2 (AW hp) 143,.blk b1 (AW hp) 143]) [3,5] [⟨[],Bm (AW hp),1⟩,⟨[],Av 0,0⟩,⟨[0],rv undef,2⟩,⟨[],rB false,0⟩] (rle [(3,_),(2,[.blk b2 (AW hp) 143,.blk b1 (AW hp) 143])]) [2,4,3] ?_ ?_)))
 ·refine of (Bd (i:=0) HG DG Aa Aa Aa Aa) (oq (A3 Aa) (C3 Aa (Eh (Dl (i:=1) DG Aa Aa Aa (Bn.c Aa) Aa Aa (cs':=[Av hp.fDepth,Av hp.fBytes,rB hp.fOutside,rB hp.fLong]) Aa (H':=[.blk b2 (AW hp) 143,.blk b1 (AW hp) 143]) Aa)) ?_));refine oq (A3 Aa) ?_;exact CT
 refine AO (Ao (Io ?_));obtain rfl:=Aq h1;exact Ap (PH Qv (AF Aa) (Cr (i:=1) HG DG Aa Aa Aa) (AF Aa)) (sS (sS sN)) ⟨Aa,Aa⟩
theorem Iy (F:Nat)(v:(List Ac))(r:Int)(h:Jd F v=some r):Fn Tryz.prog GE 36 [AC 4 (A1 Ad v)] [] (λR H=>R=Av r∧H=[]):=by
 refine enter (n:=42) Tryz.func36 Aa Tryz.ntmps36 Aa (λw Z=>?_);unfold Jd at h;refine Ae (wa Aa (Bc (wm Aa (ob h λr1 e3 h2=>BU Tryz.call95 (Mc F v r1 e3) Aa (wm Aa (wv (A4 Aa Aa) (wv (A4 Aa Aa) (wv (A4 Aa Aa) (Bz (cs:=[Av 0,Av 0,rB false,rB false]) MH Aa Aa (λb4=>?_))))))))));refine wa Aa (DW (i:=0) DG Aa Aa Aa (Bn.c Aa) Aa Aa ?_);refine wa Aa (Aj (Ak (AE (AG [(0,AC 4 (A1 Ad v)),(4,rP b4 0),(12,rB ((!r1.2.2)||(!decide (r1.1=(v.length:Int)))))] [.blk b4 (AW r1.2.1) 143] ?_ ?_))))
 ·refine Al (wm Aa (wv (BT Aa) (wm Aa (AT (!r1.2.2) (λc5=>?_) (λc5=>?_)))))
  ·refine wf c5 (wf c5 (wf c5 (wf c5 (wv (r:=rB true) (A8 Aa c5 Aa) (wa Aa (Ar ?_))))));exact Cl c5
  refine wo c5 (wm Aa (wo c5 (wm Aa (wo c5 (wv (Bi (ys:=v) (enc:=Ad) CK Aa) (wo c5 (wv (Cs Aa Aa) (Ks Aa c5 Aa (wa Aa (Ar ?_))))))))));exact Cl c5
 refine cz h2 Aa (λc6 h7=>?_) (λc6 h8=>?_)
 ·refine Ae (wa Aa (Aj (Ao (Ax (Ab ?_)))));obtain rfl:=Aq h7;exact Ap (B1 RM (AF Aa)) (sS sN) ⟨Aa,Aa⟩
 refine Ae (vF Dx Aa GJ (vL 0 MB Aa (wa Aa (Aj (cz h8 Aa (λc9 hd=>?_) (λc9 he=>?_))))))
 ·refine Ae (wa Aa (Aj (Ao (Ax (Ab ?_)))));obtain rfl:=Aq hd;exact Ap (B1 RM (AF Aa)) (sS sN) ⟨Aa,Aa⟩
 refine AG [(24,rB (r1.2.1.fLong||((decide (200<(v.length:Int)))||((decide (8<r1.2.1.fDepth))||(decide (4000<r1.2.1.fBytes))))))] [] ?_ ?_
 ·refine Al (vF Dx Aa GJ (vL 0 MB Aa (wm Aa (AT (r1.2.1.fLong) (λha=>?_) (λha=>?_)))))
  ·refine wf ha (wf ha (wf ha (wv (r:=rB true) (A8 Aa ha Aa) (wm Aa (wz Aa Aa (wz Aa Aa (wz Aa Aa (wv (r:=rB true) (A8 (b:=true) Aa Aa Aa) (wm Aa (wz Aa Aa (wz Aa Aa (wz Aa Aa (wv (r:=rB true) (A8 (b:=true) Aa Aa Aa) (wa Aa (Ar ?_)))))))))))))));exact Cl ha
  refine wo ha (wm Aa (wo ha (wv (Bi (ys:=v) (enc:=Ad) CK Aa) (wo ha (wv (Ei Aa Aa) (Ks Aa ha Aa (wm Aa (AT (decide (200<(v.length:Int))) (λhb=>?_) (λhb=>?_)))))))))
  ·refine wf hb (wf hb (wf hb (wv (r:=rB true) (A8 Aa hb Aa) (wm Aa (wz Aa Aa (wz Aa Aa (wz Aa Aa (wv (r:=rB true) (A8 (b:=true) Aa Aa Aa) (wa Aa (Ar ?_))))))))));exact Cl (And.intro ha hb)
  refine wo hb (vF Dx Aa CM (wo hb (vL 0 D8 Aa (wo hb (wv (Ei Aa Aa) (Ks Aa hb Aa (wm Aa (AT (decide (8<r1.2.1.fDepth)) (λhc=>?_) (λhc=>?_)))))))))
  ·refine wf hc (wf hc (wf hc (wv (r:=rB true) (A8 Aa hc Aa) (wa Aa (Ar ?_)))));exact Cl (And.intro ha (And.intro hb hc))
  refine wo hc (vF Dx Aa CM (wo hc (vL 0 D8 Aa (wo hc (wv (Ei Aa Aa) (Ks Aa hc Aa (wa Aa (Ar ?_))))))));exact Cl (And.intro ha (And.intro hb hc))
 refine cz he Aa (λhf hg=>?_) (λhf hh=>?_)
 ·refine Ae (wa Aa (Aj (Ao (Ax (Ab ?_)))));obtain rfl:=Aq hg;exact Ap (B1 RM (AF Aa)) sN ⟨Aa,Aa⟩
 refine A0 (AH (AO (Ae (wa Aa (Aj (Ao ?_))))));obtain rfl:=Aq hh;exact Ap (B1 RM (AF Aa)) sN ⟨Aa,Aa⟩
theorem K2 (F:Nat)(v:(List Ac))(r:(List Ac)×Int)(h:Ix F v=some r):Fn Tryz.prog GE 118 [AC 4 (A1 Ad v)] [] (λR H=>R=C0 [AC 4 (A1 Ad r.1),Av r.2]∧H=[]):=by
 refine enter (n:=11) Tryz.func118 Aa Tryz.ntmps118 Aa (λw Z=>?_);unfold Ix at h;refine Ae (wa Aa (wa Aa (Aj (Ak (Ae (wm Aa (ob h λr1 e3 h2=>BU Tryz.call36 (Iy F v r1 e3) Aa (wa Aa (Bc (wm Aa (wv (Cs Aa Aa) (Aj (cz h2 Aa (λc4 h5=>?_) (λc4 h6=>?_))))))))))))))
 ·refine Ae (wm Aa (wa Aa (wa Aa (Aj (Ao (Ab (WK.up (d:=2) (r:=AC 4 (A1 Ad ([]:List Ac))) Aa (Up.le (DL.nil _)) ?_)))))));obtain rfl:=Aq h5;exact Ap (Gs Tryz.results118 (AF Aa) (AF Aa)) sN ⟨Aa,Aa⟩
 refine A0 (AO (Ae (wm Aa (wa Aa (wa Aa (Aj (Ao ?_)))))));obtain rfl:=Aq h6;exact Ap (Gs Tryz.results118 (AF Aa) (AF Aa)) sN ⟨Aa,Aa⟩
theorem JU  (r:(List Ac))(h:LC=some r):Fn Tryz.prog GE 63 [] [] (λR H=>R=AC 4 (A1 Ad r)∧H=[]):=by
 refine enter (n:=3) Tryz.func63 Aa Tryz.ntmps63 Aa (λw Z=>?_);unfold LC at h;refine Ae (wa Aa (Bc (wv (r:=Bm [Av 1,Av 0,rS ([]:Ai),Av 0]) (Nm Aa Aa) (AQ (ys:=([(Ac.mk 1 0 ([]:Ai) 0)]:List Ac)) (enc:=Ad) (css:=[[Av 1,Av 0,rS ([]:Ai),Av 0]]) (xs:=[.tmp 1]) CK Dh MF Aa Aa Aa ⟨Dw.agg ⟨Up.refl _,Up.refl _,Up.refl _,Up.refl _,trivial⟩,trivial⟩ Aa Cm Aa Aa Aa (λb1=>?_)))));refine wa Aa (Aj (Ao (WK.freeze (i:=0) Aa (WK.up (d:=0) (r:=AC 4 (A1 Ad ([(Ac.mk 1 0 ([]:Ai) 0)]:List Ac))) Aa (Up.fact (i:=0) Aa) ?_))));obtain rfl:=Aq h;exact Ap (B1 Tryz.results63 (AF Aa)) (sS sN) ⟨Aa,Aa⟩
theorem Tl (F:Nat)(n:Int)(r:(List Ac)×Int)(h:Tm F n=some r):Fn Tryz.prog GE 66 [Av n] [] (λR H=>R=C0 [AC 4 (A1 Ad r.1),Av r.2]∧H=[]):=by
 refine enter (n:=10) Tryz.func66 Aa Tryz.ntmps66 Aa (λw Z=>?_);unfold Tm at h;refine Ae (wa Aa (wa Aa (Bc (wm Aa (wv (r:=Bm [Av 3,Av n,rS ([]:Ai),Av 0]) (HL Aa Aa Aa Aa) (AQ (ys:=([(Ac.mk 3 n ([]:Ai) 0)]:List Ac)) (enc:=Ad) (css:=[[Av 3,Av n,rS ([]:Ai),Av 0]]) (xs:=[.tmp 5]) CK Dh MF Aa Aa Aa ⟨Dw.agg ⟨Up.refl _,Up.refl _,Up.refl _,Up.refl _,trivial⟩,trivial⟩ Aa Cm Aa Aa Aa (λb1=>?_)))))));refine WL.freeze (i:=0) Aa (WL.up (d:=6) (r:=AC 4 (A1 Ad ([(Ac.mk 3 n ([]:Ai) 0)]:List Ac))) Aa (Up.fact (i:=0) Aa) (ob h λr2 e4 h3=>BU Tryz.call118 (K2 F ([(Ac.mk 3 n ([]:Ai) 0)]:List Ac) r2 e4) Aa (wv (A4 Aa Aa) (wv (A4 Aa Aa) (wa Aa (wa Aa (Aj (Ao ?_))))))));obtain rfl:=Aq h3;exact Ap (Gs Tryz.results66 (AF Aa) (AF Aa)) (sS sN) ⟨Aa,Aa⟩
theorem Tj (F:Nat)(s:Ai)(r:(List Ac)×Int)(h:Tk F s=some r):Fn Tryz.prog GE 65 [rS s] [] (λR H=>R=C0 [AC 4 (A1 Ad r.1),Av r.2]∧H=[]):=by
 refine enter (n:=10) Tryz.func65 Aa Tryz.ntmps65 Aa (λw Z=>?_);unfold Tk at h;refine Ae (wa Aa (wa Aa (Bc (wm Aa (wv (r:=Bm [Av 4,Av 0,rS s,Av 0]) (HK Aa Aa Aa Aa) (AQ (ys:=([(Ac.mk 4 0 s 0)]:List Ac)) (enc:=Ad) (css:=[[Av 4,Av 0,rS s,Av 0]]) (xs:=[.tmp 5]) CK Dh MF Aa Aa Aa ⟨Dw.agg ⟨Up.refl _,Up.refl _,Up.refl _,Up.refl _,trivial⟩,trivial⟩ Aa Cm Aa Aa Aa (λb1=>?_)))))));refine WL.freeze (i:=0) Aa (WL.up (d:=6) (r:=AC 4 (A1 Ad ([(Ac.mk 4 0 s 0)]:List Ac))) Aa (Up.fact (i:=0) Aa) (ob h λr2 e4 h3=>BU Tryz.call118 (K2 F ([(Ac.mk 4 0 s 0)]:List Ac) r2 e4) Aa (wv (A4 Aa Aa) (wv (A4 Aa Aa) (wa Aa (wa Aa (Aj (Ao ?_))))))));obtain rfl:=Aq h3;exact Ap (Gs Tryz.results65 (AF Aa) (AF Aa)) (sS sN) ⟨Aa,Aa⟩
end Go.Proofs.YtmjlemhondjfhaaGreatDoor.Q
namespace Go.Proofs.YtmjlemhondjfhaaGreatDoor
open Go
set_option linter.unusedVariables false
def Hl (s:Ai)(ha:Int)(hb:Ai):Option (Stp (Int×Ai) (Out (Ai) (Ai))):=
 B4 (decide (ha<(s.length:Int))) (Bg (Ca ha (s.length:Int))<|B4 (((decide ((C2 s ha)=34))||(decide ((C2 s ha)=92)))) (Bg (DV 1 (hb.length+1))<|Bg (Cf .u8 92)<|IX (hb++[UInt8.ofNat (Int.toNat 92)]) λhc=>Bg (DV 1 (hc.length+1))<|Bg (Cf .u8 (C2 s ha))<|IX (hc++[UInt8.ofNat (Int.toNat (C2 s ha))]) λhd=>Bg (Cf .i64 (ha+1))<|some (.next (ha+1,hd))) (Bg (DV 1 (hb.length+1))<|Bg (Cf .u8 (C2 s ha))<|IX (hb++[UInt8.ofNat (Int.toNat (C2 s ha))]) λhe=>Bg (Cf .i64 (ha+1))<|some (.next (ha+1,he)))) (some (.out (.go hb)))
def Hk (ha:Ai):Option (Ai):=
 Bg (DV 1 (ha.length+1))<|IX (ha++[UInt8.ofNat (Int.toNat 34)]) λhb=>some hb
def K1 (F:Nat)(l:Ai)(s:Ai):Option (Ai):=
 Bg (DV 1 (l.length+1))<|Bg (Cf .u8 34)<|IX (l++[UInt8.ofNat (Int.toNat 34)]) λr6=>Bq (CW (λσ=>Hl s σ.1 σ.2) F (0,r6)) (Cv λν=>Hk ν)
def Mb (F:Nat)(hl:Ai→(List Ac)→Bool→Ai→Ac→Option (Bool×Bool×Ai))(ha:(List Ac)→Bool→Ai→Ac→Option (Bool×Ai))(l:Ai)(v:(List Ac)):Option (Ai):=
 Bg (Ca 0 (v.length:Int))<|B4 (decide (((Au v 0).fKind)=1)) (Bg (DV 1 (l.length+([110,117,108,108]:Ai).length))<|IX (l++([110,117,108,108]:Ai)) λhd=>some hd) (B4 (decide (((Au v 0).fKind)=2)) (Bg (Ca ((Au v 0).fInt) (([([102,97,108,115,101]:Ai),([116,114,117,101]:Ai)]:List Ai).length:Int))<|Bg (DV 1 (l.length+(Au ([([102,97,108,115,101]:Ai),([116,114,117,101]:Ai)]:List Ai) ((Au v 0).fInt)).length))<|IX (l++(Au ([([102,97,108,115,101]:Ai),([116,114,117,101]:Ai)]:List Ai) ((Au v 0).fInt))) λhe=>some he) (B4 (decide (((Au v 0).fKind)=3)) (Bg (Cf .i64 ((Au v 0).fInt))<|Bg (DV 1 (l.length+(Lib.itoa ((Au v 0).fInt)).length))<|IX (l++(Lib.itoa ((Au v 0).fInt))) λhf=>some hf) (B4 (decide (((Au v 0).fKind)=4)) (Bq (K1 F l ((Au v 0).fStr)) λhg=>some hg) (B4 (decide (((Au v 0).fKind)=6)) (Bg (Ca 0 (([123,125]:Ai).length:Int))<|Bg (DV 1 (l.length+1))<|Bg (Cf .u8 (C2 ([123,125]:Ai) 0))<|IX (l++[UInt8.ofNat (Int.toNat (C2 ([123,125]:Ai) 0))]) λhh=>Bq (ha v true hh (Au v 0)) λhb=>Bg (Ca 1 (([123,125]:Ai).length:Int))<|Bg (DV 1 (hb.2.length+1))<|Bg (Cf .u8 (C2 ([123,125]:Ai) 1))<|IX (hb.2++[UInt8.ofNat (Int.toNat (C2 ([123,125]:Ai) 1))]) λhi=>some hi) (Bg (Ca 0 (([91,93]:Ai).length:Int))<|Bg (DV 1 (l.length+1))<|Bg (Cf .u8 (C2 ([91,93]:Ai) 0))<|IX (l++[UInt8.ofNat (Int.toNat (C2 ([91,93]:Ai) 0))]) λhj=>Bq (ha v true hj (Au v 0)) λhc=>Bg (Ca 1 (([91,93]:Ai).length:Int))<|Bg (DV 1 (hc.2.length+1))<|Bg (Cf .u8 (C2 ([91,93]:Ai) 1))<|IX (hc.2++[UInt8.ofNat (Int.toNat (C2 ([91,93]:Ai) 1))]) λhk=>some hk)))))
def Kx (F:Nat)(ha:Ai→(List Ac)→Option (Ai))(key:Ai)(x:(List Ac))(first:Bool)(l:Ai)(c:Ac):Option (Bool×Bool×Ai):=
 B4 (!first) (Bg (DV 1 (l.length+1))<|Bg (Cf .u8 44)<|IX (l++[UInt8.ofNat (Int.toNat 44)]) λr8=>B4 (decide (c.fKind=6)) (Bq (K1 F r8 key) λhb=>Bg (DV 1 (hb.length+1))<|Bg (Cf .u8 58)<|IX (hb++[UInt8.ofNat (Int.toNat 58)]) λhd=>Bq (ha hd x) λhe=>some (true,false,he)) (Bq (ha r8 x) λhf=>some (true,false,hf))) (B4 (decide (c.fKind=6)) (Bq (K1 F l key) λhc=>Bg (DV 1 (hc.length+1))<|Bg (Cf .u8 58)<|IX (hc++[UInt8.ofNat (Int.toNat 58)]) λhg=>Bq (ha hg x) λhh=>some (true,false,hh)) (Bq (ha l x) λhi=>some (true,false,hi)))
def Gl (F:Nat)(v:(List Ac))(c:Ac)(hi:Ai→(List Ac)→Bool→Ai→Ac→Option (Bool×Bool×Ai))(ha:Int)(hb:Int)(hg:Bool)(hh:Ai):Option (Stp (Int×Int×Bool×Ai) (Out (Bool×Ai) (Bool×Ai))):=
 B4 (decide (hb<((Au v 0).fN))) (B4 (decide (((Au v 0).fKind)=6)) (Bg (Ca ha (v.length:Int))<|Bg (Cf .i64 (ha+1))<|Bg (JN (ha+1) (v.length:Int))<|Bq (Na F (List.drop (Int.toNat (ha+1)) v)) λhc=>Bg (Cf .i64 ((ha+1)+hc.1))<|Bg (JN (ha+1) ((ha+1)+hc.1))<|Bg (JN ((ha+1)+hc.1) (v.length:Int))<|Bq (hi ((Au v ha).fStr) (List.take (Int.toNat ((ha+1)+hc.1)-Int.toNat (ha+1)) (List.drop (Int.toNat (ha+1)) v)) hg hh c) λhd=>B4 (!hd.1) (some (.out (.ret (hd.2.1,hd.2.2)))) (Bg (Cf .i64 (hb+1))<|some (.next ((ha+1)+hc.1,hb+1,hd.2.1,hd.2.2)))) (Bg (JN ha (v.length:Int))<|Bq (Na F (List.drop (Int.toNat ha) v)) λhe=>Bg (Cf .i64 (ha+he.1))<|Bg (JN ha (ha+he.1))<|Bg (JN (ha+he.1) (v.length:Int))<|Bq (hi ([]:Ai) (List.take (Int.toNat (ha+he.1)-Int.toNat ha) (List.drop (Int.toNat ha) v)) hg hh c) λhf=>B4 (!hf.1) (some (.out (.ret (hf.2.1,hf.2.2)))) (Bg (Cf .i64 (hb+1))<|some (.next (ha+he.1,hb+1,hf.2.1,hf.2.2))))) (some (.out (.go (hg,hh))))
def Gk (ha:Bool)(hb:Ai):Option (Bool×Ai):=
 some (ha,hb)
def Kw (F:Nat)(ha:Ai→(List Ac)→Bool→Ai→Ac→Option (Bool×Bool×Ai))(v:(List Ac))(first:Bool)(l:Ai)(c:Ac):Option (Bool×Ai):=
 Bg (Ca 0 (v.length:Int))<|Bq (CW (λσ=>Gl F v c ha σ.1 σ.2.1 σ.2.2.1 σ.2.2.2) F (1,0,first,l)) (Cv λν=>Gk ν.1 ν.2)
mutual
def HU:Nat→Ai→(List Ac)→Option (Ai)
 | 0,_,_=>none
 | nn+1,l,v=>Mb nn (Gm nn) (Is nn) l v
def Gm:Nat→Ai→(List Ac)→Bool→Ai→Ac→Option (Bool×Bool×Ai)
 | 0,_,_,_,_,_=>none
 | nn+1,key,x,first,l,c=>Kx nn (HU nn) key x first l c
def Is:Nat→(List Ac)→Bool→Ai→Ac→Option (Bool×Ai)
 | 0,_,_,_,_=>none
 | nn+1,v,first,l,c=>Kw nn (Gm nn) v first l c
end
def Md (F:Nat)(v:(List Ac)):Option (Ai×Int):=
 Bq (Jd F v) λr1=>B4 (!decide (r1=0)) (some (([]:Ai),r1)) (Bq (HU F ([]:Ai) v) λr8=>Bg (decide (0<r8.length))<|some (r8,0))
end Go.Proofs.YtmjlemhondjfhaaGreatDoor
namespace Go.Proofs.YtmjlemhondjfhaaGreatDoor.Q
open Go Go.RowKit
set_option linter.unusedVariables false
set_option linter.unusedSimpArgs false
set_option maxRecDepth 100000
set_option maxHeartbeats 4000000
theorem Ky (F:Nat)(ha:Nat)(hi:Value)(l:Ai)(s:Ai)(r:Ai)(h:K1 F l s=some r):Fn Tryz.prog GE 164 [rP ha 0,rS s] [.bld 177 5 ha hi l] (λR H=>∃w0b:Value,R=rv (.tuple #[])∧H=[.bld 177 5 ha w0b r]):=by
 refine enter (n:=32) Tryz.func164 Aa Tryz.ntmps164 Aa (λw Z=>?_);unfold K1 at h;refine Ae (wm Aa (ck h λg1 h2=>ck h2 λg3 h4=>BL (rs:=[rP ha 0,rI .u8 34]) (Hin:=[.bld 177 5 ha hi l]) (Hr:=[]) EY Aa (Vi _) (BS ha hi l 34 g1 g3) Aa ?_));rintro _ _ ⟨v5,rfl,rfl⟩;refine bd h4 λr6 e8 h7=>?_;rw[← e8];refine Aj (Ak (Ae (wm Aa (wv (B9 CN Aa) (wv (r:=Av 0) (Am Aa) (Aj (AE (ob h7 λhp hq hr=>Bx (S:=Nat×(Int×Ai)×(Value)) (V:=(Ai)×(Value)) 0 (λσ=>CW (λσ=>Hl s σ.1 σ.2) σ.1 σ.2.1=some hp) (λσ=>[(0,rP ha 0),(1,rS s),(8,Av (s.length:Int)),(9,Av σ.2.1.1)]) (λσ=>[.bld 177 5 ha σ.2.2 σ.2.1.2]) (λσ=>σ.1) (F,(0,r6),v5) hq (AL.c Aa (AL.c Aa (AL.c Aa (AL.c Aa AL.nil)))) (sC sN) (λσ=>Hk σ.1=some r) (λσ=>[(0,rP ha 0)]) (λσ=>[.bld 177 5 ha σ.2 σ.1]) ?_ ?_))))))))
 ·rintro⟨gb,⟨hc,hd⟩,he⟩ hs;refine GL ?_;obtain⟨hl,rfl,t127,hf,hj⟩:=Ck hs;replace hf:Hl s hc hd=some t127:=hf;unfold Hl at hf;refine Ae (wv (C9 Aa Aa) (Aj (Ak (cz hf Aa (λht hu=>?_) (λht hv=>?_)))))
  ·refine A0 (AO (Ak (AE (Ae (wm Aa (wa Aa (Aj (Ak (ck hu λhg hw=>AG [(0,rP ha 0),(1,rS s),(4,Av hc),(8,Av (s.length:Int)),(9,Av hc),(21,rB ((decide ((C2 s hc)=34))||(decide ((C2 s hc)=92))))] [.bld 177 5 ha he hd] ?_ ?_)))))))))
   ·refine Al (wm Aa (wm Aa (wv (BO CN Aa Aa hg) (wv (BD Aa Aa) (wm Aa (AT (decide ((C2 s hc)=34)) (λhb=>?_) (λhb=>?_)))))))
    ·refine wf hb (wf hb (wf hb (wf hb (wv (r:=rB true) (A8 Aa hb Aa) (Ar ?_)))));exact Cl hb
    refine wo hb (wm Aa (wo hb (wm Aa (wo hb (wv (BO CN Aa Aa hg) (wo hb (wv (BD Aa Aa) (Ks Aa hb Aa (Ar ?_)))))))));exact Cl hb
   refine cz hw Aa (λhx hy=>?_) (λhx hz=>?_)
   ·refine Al (wm Aa (ck hy λh0 h1=>ck h1 λh3 h5=>BL (rs:=[rP ha 0,rI .u8 92]) (Hin:=[.bld 177 5 ha he hd]) (Hr:=[]) EY Aa (Vi _) (BS ha he hd 92 h0 h3) Aa ?_));rintro _ _ ⟨hm,rfl,rfl⟩;refine bd h5 λhn h6 h8=>?_;rw[← h6];refine Aj (Al (wm Aa (wm Aa (wm Aa (wv (BO CN Aa Aa hg) (ck h8 λh9 hA=>ck hA λhB hC=>BL (rs:=[rP ha 0,rI .u8 (C2 s hc)]) (Hin:=[.bld 177 5 ha hm hn]) (Hr:=[]) EY Aa (Vi _) (BS ha hm hn (C2 s hc) h9 hB) Aa ?_))))));rintro _ _ ⟨hD,rfl,rfl⟩;refine bd hC λhE hF hG=>?_;rw[← hF];refine Ar (AH (AO (Al (ck hG λhH hI=>wv (B3 Aa Aa hH) (wm Aa (Ar ?_))))));have hJ:=Bw hI hj;exact A2 (AN (hl,(hc+1,hE),hD) ⟨hJ,Vk _⟩ (AL.c Aa (AL.c Aa (AL.c Aa (AL.c Aa AL.nil)))) (sC sN))
   refine A0 (AO (Al (wm Aa (wm Aa (wm Aa (wv (BO CN Aa Aa hg) (ck hz λhK hL=>ck hL λhM hN=>BL (rs:=[rP ha 0,rI .u8 (C2 s hc)]) (Hin:=[.bld 177 5 ha he hd]) (Hr:=[]) EY Aa (Vi _) (BS ha he hd (C2 s hc) hK hM) Aa ?_)))))));rintro _ _ ⟨hO,rfl,rfl⟩;refine bd hN λhP hQ hR=>?_;rw[← hQ];refine Ar (AH (AO (Al (ck hR λhS hT=>wv (B3 Aa Aa hS) (wm Aa (Ar ?_))))));have hU:=Bw hT hj;exact A2 (AN (hl,(hc+1,hP),hO) ⟨hU,Vk _⟩ (AL.c Aa (AL.c Aa (AL.c Aa (AL.c Aa AL.nil)))) (sC sN))
  refine Bt (Aw ?_);have hV:=BJ hv hj hr;exact Aw (Bf (AN (hd,he) hV (AL.c Aa AL.nil) (sC sN)))
 rintro⟨hk,ho⟩ hh;refine Hi ?_;replace hh:Hk hk=some r:=hh;unfold Hk at hh;refine Bb (AO (Al (wm Aa (ck hh λhW hX=>BL (rs:=[rP ha 0,rI .u8 34]) (Hin:=[.bld 177 5 ha ho hk]) (Hr:=[]) EY Aa (Vi _) (BS ha ho hk 34 hW g3) Aa ?_))));rintro _ _ ⟨hY,rfl,rfl⟩;refine bd hX λgc hZ ga=>?_;rw[← hZ];refine Ar ?_;obtain rfl:=Aq ga;exact Eu (PI Tryz.results164) (sC sN) ⟨hY,Aa,Aa⟩
theorem P9 (F:Nat)(hk:Ai→(List Ac)→Bool→Ai→Ac→Option (Bool×Bool×Ai))(hl:(List Ac)→Bool→Ai→Ac→Option (Bool×Ai))(g1:(∀(hc:Nat) (hd:Nat) (ha:Nat) (hb:Value) (he:Nat) (key:Ai) (x:(List Ac)) (first:Bool) (l:Ai) (c:Ac) (r:Bool×Bool×Ai),hk key x first l c=some r→Fn Tryz.prog GE 167 [rS key,AC 4 (A1 Ad x),rP hc 0,rP hd 0,rP he 0] [.blk hc [rB first] 4,.blk hd [rP ha 0] 174,.bld 177 5 ha hb l,.blk he (Ad c) 70] (λR H=>∃w3b:Value,R=rB r.1∧H=[.blk hc [rB r.2.1] 4,.blk hd [rP ha 0] 174,.bld 177 5 ha w3b r.2.2,.blk he (Ad c) 70])))(hm:(∀(hc:Nat) (hd:Nat) (ha:Nat) (hb:Value) (he:Nat) (v:(List Ac)) (first:Bool) (l:Ai) (c:Ac) (r:Bool×Ai),hl v first l c=some r→Fn Tryz.prog GE 166 [AC 4 (A1 Ad v),rv (.func (.func 167) #[] #[(.pointer (some ⟨hc,0,none⟩)),(.pointer (some ⟨hd,0,none⟩)),(.pointer (some ⟨he,0,none⟩))])] [.blk hc [rB first] 4,.blk hd [rP ha 0] 174,.bld 177 5 ha hb l,.blk he (Ad c) 70] (λR H=>∃w1_1b:Value,R=rv (.tuple #[])∧H=[.blk hc [rB r.1] 4,.blk hd [rP ha 0] 174,.bld 177 5 ha w1_1b r.2,.blk he (Ad c) 70])))(ha:Nat)(hb:Value)(l:Ai)(v:(List Ac))(r:Ai)(h:Mb F hk hl l v=some r):Fn Tryz.prog GE 119 [rP ha 0,AC 4 (A1 Ad v)] [.bld 177 5 ha hb l] (λR H=>∃w0b:Value,R=rv (.tuple #[])∧H=[.bld 177 5 ha w0b r]):=by
 refine enter (n:=52) Tryz.func119 Aa Tryz.ntmps119 Aa (λw Z=>?_);unfold Mb at h;refine Ae (Ku Aa (B2 Aa) Aa (λb1=>?_));refine Bc (wm Aa (ck h λg2 h3=>wv (Bs (enc:=Ad) (ys:=v) CK Dh Aa Aa g2) (wv (C1 P6 Dh Aa Aa Aa) (Bz (cs:=[Av 0,Av 0,rS ([]:Ai),Av 0]) MF Aa Aa (λb4=>?_)))));refine DW (i:=0) Dh Aa Aa Aa (Bn.c Aa) Aa Aa ?_;refine Bc (vF BW Aa GI (vL 0 GK Aa (Aj (AE (Ae (wv (BD Aa Aa) (wa Aa (Aj (cz h3 Aa (λc5 h6=>?_) (λc5 hn=>?_))))))))))
 ·refine Al (vL 1 Dy Aa (ck h6 λg7 h8=>BL (rs:=[rP ha 0,rS ([110,117,108,108]:Ai)]) (Hin:=[.bld 177 5 ha hb l]) (Hr:=[.blk b4 (Ad (Au v 0)) 70,.blk b1 [rP ha 0] 174]) Tryz.call162 Aa ((AI (i:=2) Aa).trans (Vj _ (Vi _))) (DP ha hb l ([110,117,108,108]:Ai) g7) Aa ?_));rintro _ _ ⟨v9,rfl,rfl⟩;refine bd h8 λg3 ho hp=>?_;rw[← ho];refine Ar (AH ?_);obtain rfl:=Aq hp;exact Eu (PI L6) (sC (sS (sS sN))) ⟨v9,Aa,Aa⟩
 refine Ae (wv (BD Aa Aa) (wa Aa (Aj (cz hn Aa (λhq hr=>?_) (λhq hs=>?_)))))
 ·refine ck hr λg16 ht=>Hj (H1:=[.blk b4 (Ad (Au v 0)) 70,.blk b1 [rP ha 0] 174,.bld 177 5 ha hb l]) 6 [2,4] [⟨[],rP ha 0,1⟩,⟨[],AC 1 (A1 eS ([([102,97,108,115,101]:Ai),([116,114,117,101]:Ai)]:List Ai)),0⟩,⟨[],rP b4 1,0⟩,⟨[2],Av ((Au v 0).fInt),1⟩,⟨[1,3],PK [rS (Au ([([102,97,108,115,101]:Ai),([116,114,117,101]:Ai)]:List Ai) ((Au v 0).fInt))],0⟩,⟨[4],rS (Au ([([102,97,108,115,101]:Ai),([116,114,117,101]:Ai)]:List Ai) ((Au v 0).fInt)),0⟩] (rle [(7,_)]) [32,33,34,35,36,37,2,4] ?_ ?_
  ·refine of (AP (i:=1) Dy Aa Aa Aa) (Gd Aa (λH=>Dk (ys:=([([102,97,108,115,101]:Ai),([116,114,117,101]:Ai)]:List Ai)) (enc:=eS) (css:=[[rS ([102,97,108,115,101]:Ai)],[rS ([116,114,117,101]:Ai)]]) (xs:=[.const (.string ⟨#[102,97,108,115,101]⟩),.const (.string ⟨#[116,114,117,101]⟩)]) Cp CC RE Aa Aa Aa ⟨Dw.one Aa (Up.refl _),Dw.one Aa (Up.refl _),trivial⟩ Aa DI Aa Aa) ?_);refine oq (As BW Aa CM Aa Aa) (of (AP (i:=0) D8 Aa Aa Aa) (oq (Bs (enc:=eS) (ys:=([([102,97,108,115,101]:Ai),([116,114,117,101]:Ai)]:List Ai)) Cp CC Aa Aa g16) (oq (Bh DO Aa Aa) ?_)));exact CT
  refine ck ht λg18 hu=>BL (rs:=[rP ha 0,rS (Au ([([102,97,108,115,101]:Ai),([116,114,117,101]:Ai)]:List Ai) ((Au v 0).fInt))]) (Hin:=[.bld 177 5 ha hb l]) (Hr:=[.blk b4 (Ad (Au v 0)) 70,.blk b1 [rP ha 0] 174]) Tryz.call162 Aa ((AI (i:=2) Aa).trans (Vj _ (Vi _))) (DP ha hb l (Au ([([102,97,108,115,101]:Ai),([116,114,117,101]:Ai)]:List Ai) ((Au v 0).fInt)) g18) Aa ?_;rintro _ _ ⟨v20,rfl,rfl⟩;refine bd hu λg4 hv hw=>?_;rw[← hv];refine Ar (AH ?_);obtain rfl:=Aq hw;exact Eu (PI L6) (sC (sS (sS sN))) ⟨v20,Aa,Aa⟩
 refine Ae (wv (BD Aa Aa) (wa Aa (Aj (cz hs Aa (λhx hy=>?_) (λhx hz=>?_)))))
 ·refine ck hy λh0 h1=>Hj (H1:=[.blk b4 (Ad (Au v 0)) 70,.blk b1 [rP ha 0] 174,.bld 177 5 ha hb l]) 4 [2,4] [⟨[],rP ha 0,1⟩,⟨[],rP b4 1,0⟩,⟨[1],Av ((Au v 0).fInt),1⟩,⟨[2],rS (Lib.itoa ((Au v 0).fInt)),0⟩] (rle [(5,_)]) [41,42,43,44,2,4] ?_ ?_
  ·refine of (AP (i:=1) Dy Aa Aa Aa) (oq (As BW Aa CM Aa Aa) (of (AP (i:=0) D8 Aa Aa Aa) (Gd Aa (λH=>Nh (rs:=[Av ((Au v 0).fInt)]) (r:=rS (Lib.itoa ((Au v 0).fInt))) Tryz.call163 Aa (NB ((Au v 0).fInt) h0) Aa) ?_)));exact CT
  refine ck h1 λh2 h4=>BL (rs:=[rP ha 0,rS (Lib.itoa ((Au v 0).fInt))]) (Hin:=[.bld 177 5 ha hb l]) (Hr:=[.blk b4 (Ad (Au v 0)) 70,.blk b1 [rP ha 0] 174]) Tryz.call162 Aa ((AI (i:=2) Aa).trans (Vj _ (Vi _))) (DP ha hb l (Lib.itoa ((Au v 0).fInt)) h2) Aa ?_;rintro _ _ ⟨v31,rfl,rfl⟩;refine bd h4 λg5 h5 h7=>?_;rw[← h5];refine Ar (AH ?_);obtain rfl:=Aq h7;exact Eu (PI L6) (sC (sS (sS sN))) ⟨v31,Aa,Aa⟩
 refine Ae (wv (BD Aa Aa) (wa Aa (Aj (cz hz Aa (λh9 hA=>?_) (λh9 hB=>?_)))))
 ·refine Al (vL 1 Dy Aa (vF BW Aa CC (vL 0 DO Aa (ob hA λhC hD hE=>EP [2] Tryz.call164 (Ky F ha hb l ((Au v 0).fStr) hC hD) ?_))));rintro _ _ ⟨hF,rfl,rfl⟩;refine Ar (AH ?_);obtain rfl:=Aq hE;exact Eu (PI L6) (sC (sS (sS sN))) ⟨hF,Aa,Aa⟩
 refine Ae (wv (r:=rS ([91,93]:Ai)) (A3 Aa) (Aj (Ak (Ae (vF BW Aa GI (vL 0 GK Aa (wv (BD Aa Aa) (Aj (cz hB Aa (λhG hH=>?_) (λhG hI=>?_))))))))))
 ·refine Al (wv (r:=rS ([123,125]:Ai)) (A3 Aa) (Aj (Ak (ck hH λhJ hK=>Hj (H1:=[.blk b4 (Ad (Au v 0)) 70,.blk b1 [rP ha 0] 174,.bld 177 5 ha hb l]) 3 [1,2,4,5] [⟨[],rP ha 0,1⟩,⟨[],rS ([123,125]:Ai),0⟩,⟨[1],rI .u8 (C2 ([123,125]:Ai) 0),0⟩] (rle [(4,_)]) [15,16,17,1,2,4,5] ?_ ?_))))
  ·refine of (AP (i:=1) Dy Aa Aa Aa) (oq (Am Aa) (oq (BO CN Aa Aa hJ) ?_));exact CT
  refine ck hK λhL hM=>ck hM λhN hO=>BL (rs:=[rP ha 0,rI .u8 (C2 ([123,125]:Ai) 0)]) (Hin:=[.bld 177 5 ha hb l]) (Hr:=[.blk b4 (Ad (Au v 0)) 70,.blk b1 [rP ha 0] 174]) EY Aa ((AI (i:=2) Aa).trans (Vj _ (Vi _))) (BS ha hb l (C2 ([123,125]:Ai) 0) hL hN) Aa ?_;rintro _ _ ⟨v51,rfl,rfl⟩;refine bd hO λhP hQ hR=>?_;rw[← hQ];refine Bc (Bz (cs:=[rB false]) U5 Aa Aa (λhh=>?_));refine us (i:=0) GJ Aa Aa (B2 Aa) Aa Aa ?_;refine Bc (wm Aa (wv (r:=rv (.func (.func 167) #[] #[(.pointer (some ⟨hh,0,none⟩)),(.pointer (some ⟨b1,0,none⟩)),(.pointer (some ⟨b4,0,none⟩))])) (Ey Aa) (ob hR λhf hS hT=>EP [0,2,0,0] Tryz.call166 (hm hh b1 ha v51 b4 v true hP (Au v 0) hf hS) ?_)));rintro _ _ ⟨hj,rfl,rfl⟩;refine Aj (ck hT λhU hV=>Hj (H1:=[.blk hh [rB hf.1] 4,.blk b1 [rP ha 0] 174,.bld 177 5 ha hj hf.2,.blk b4 (Ad (Au v 0)) 70]) 3 [2,5] [⟨[],rP ha 0,1⟩,⟨[],rS ([123,125]:Ai),0⟩,⟨[1],rI .u8 (C2 ([123,125]:Ai) 1),0⟩] (rle [(4,_)]) [22,23,24,2,5] ?_ ?_)
  ·refine of (AP (i:=1) Dy Aa Aa Aa) (oq (Am Aa) (oq (BO CN Aa Aa hU) ?_));exact CT
  refine ck hV λhW hX=>ck hX λhY hZ=>BL (rs:=[rP ha 0,rI .u8 (C2 ([123,125]:Ai) 1)]) (Hin:=[.bld 177 5 ha hj hf.2]) (Hr:=[.blk hh [rB hf.1] 4,.blk b1 [rP ha 0] 174,.blk b4 (Ad (Au v 0)) 70]) EY Aa ((AI (i:=2) Aa).trans (Vj _ (Vi _))) (BS ha hj hf.2 (C2 ([123,125]:Ai) 1) hW hY) Aa ?_;rintro _ _ ⟨ga,rfl,rfl⟩;refine bd hZ λg6 gb gc=>?_;rw[← gb];refine Ar (AH ?_);obtain rfl:=Aq gc;exact Eu (PI L6) (sC (sS (sS (sS sN)))) ⟨ga,Aa,Aa⟩
 refine A0 (AO (Ak (ck hI λgd ge=>Hj (H1:=[.blk b4 (Ad (Au v 0)) 70,.blk b1 [rP ha 0] 174,.bld 177 5 ha hb l]) 3 [1,2,4,5] [⟨[],rP ha 0,1⟩,⟨[],rS ([91,93]:Ai),0⟩,⟨[1],rI .u8 (C2 ([91,93]:Ai) 0),0⟩] (rle [(4,_)]) [15,16,17,1,2,4,5] ?_ ?_)))
 ·refine of (AP (i:=1) Dy Aa Aa Aa) (oq (Am Aa) (oq (BO CN Aa Aa gd) ?_));exact CT
 refine ck ge λgf gg=>ck gg λgh gi=>BL (rs:=[rP ha 0,rI .u8 (C2 ([91,93]:Ai) 0)]) (Hin:=[.bld 177 5 ha hb l]) (Hr:=[.blk b4 (Ad (Au v 0)) 70,.blk b1 [rP ha 0] 174]) EY Aa ((AI (i:=2) Aa).trans (Vj _ (Vi _))) (BS ha hb l (C2 ([91,93]:Ai) 0) gf gh) Aa ?_;rintro _ _ ⟨gj,rfl,rfl⟩;refine bd gi λgl gm gp=>?_;rw[← gm];refine Bc (Bz (cs:=[rB false]) U5 Aa Aa (λhi=>?_));refine us (i:=0) GJ Aa Aa (B2 Aa) Aa Aa ?_;refine Bc (wm Aa (wv (r:=rv (.func (.func 167) #[] #[(.pointer (some ⟨hi,0,none⟩)),(.pointer (some ⟨b1,0,none⟩)),(.pointer (some ⟨b4,0,none⟩))])) (Ey Aa) (ob gp λhg gq gr=>EP [0,2,0,0] Tryz.call166 (hm hi b1 ha gj b4 v true gl (Au v 0) hg gq) ?_)));rintro _ _ ⟨v85,rfl,rfl⟩;refine Aj (ck gr λgs gt=>Hj (H1:=[.blk hi [rB hg.1] 4,.blk b1 [rP ha 0] 174,.bld 177 5 ha v85 hg.2,.blk b4 (Ad (Au v 0)) 70]) 3 [2,5] [⟨[],rP ha 0,1⟩,⟨[],rS ([91,93]:Ai),0⟩,⟨[1],rI .u8 (C2 ([91,93]:Ai) 1),0⟩] (rle [(4,_)]) [22,23,24,2,5] ?_ ?_)
 ·refine of (AP (i:=1) Dy Aa Aa Aa) (oq (Am Aa) (oq (BO CN Aa Aa gs) ?_));exact CT
 refine ck gt λgu gv=>ck gv λgw gx=>BL (rs:=[rP ha 0,rI .u8 (C2 ([91,93]:Ai) 1)]) (Hin:=[.bld 177 5 ha v85 hg.2]) (Hr:=[.blk hi [rB hg.1] 4,.blk b1 [rP ha 0] 174,.blk b4 (Ad (Au v 0)) 70]) EY Aa ((AI (i:=2) Aa).trans (Vj _ (Vi _))) (BS ha v85 hg.2 (C2 ([91,93]:Ai) 1) gu gw) Aa ?_;rintro _ _ ⟨gy,rfl,rfl⟩;refine bd gx λg8 gz g0=>?_;rw[← gz];refine Ar (AH ?_);obtain rfl:=Aq g0;exact Eu (PI L6) (sC (sS (sS (sS sN)))) ⟨gy,Aa,Aa⟩
theorem NZ (F:Nat)(hi:Ai→(List Ac)→Option (Ai))(hf:(∀(ha:Nat) (hb:Value) (l:Ai) (v:(List Ac)) (r:Ai),hi l v=some r→Fn Tryz.prog GE 119 [rP ha 0,AC 4 (A1 Ad v)] [.bld 177 5 ha hb l] (λR H=>∃w0b:Value,R=rv (.tuple #[])∧H=[.bld 177 5 ha w0b r])))(hc:Nat)(hd:Nat)(ha:Nat)(hb:Value)(he:Nat)(key:Ai)(x:(List Ac))(first:Bool)(l:Ai)(c:Ac)(r:Bool×Bool×Ai)(h:Kx F hi key x first l c=some r):Fn Tryz.prog GE 167 [rS key,AC 4 (A1 Ad x),rP hc 0,rP hd 0,rP he 0] [.blk hc [rB first] 4,.blk hd [rP ha 0] 174,.bld 177 5 ha hb l,.blk he (Ad c) 70] (λR H=>∃w3b:Value,R=rB r.1∧H=[.blk hc [rB r.2.1] 4,.blk hd [rP ha 0] 174,.bld 177 5 ha w3b r.2.2,.blk he (Ad c) 70]):=by
 refine enter (n:=23) Tryz.func167 Aa Tryz.ntmps167 Aa (λw Z=>?_);unfold Kx at h;refine Ae (wa Aa (Aj (Ak (Ae (vL 0 MB Aa (wv (BT Aa) (Aj (cz h Aa (λc1 h2=>?_) (λc1 hl=>?_)))))))))
 ·refine Al (vL 1 Dy Aa (ck h2 λg3 h4=>ck h4 λg5 h6=>BL (rs:=[rP ha 0,rI .u8 44]) (Hin:=[.bld 177 5 ha hb l]) (Hr:=[.blk hc [rB first] 4,.blk hd [rP ha 0] 174,.blk he (Ad c) 70]) EY Aa ((AI (i:=2) Aa).trans (Vj _ (Vi _))) (BS ha hb l 44 g3 g5) Aa ?_));rintro _ _ ⟨v7,rfl,rfl⟩;refine bd h6 λr8 hm h9=>?_;rw[← hm];refine Bc (us (i:=1) GJ Aa Aa (B2 Aa) Aa Aa ?_);refine Aj (Ak (Ae (vF BW Aa GI (vL 3 GK Aa (wv (BD Aa Aa) (Aj (cz h9 Aa (λhn ho=>?_) (λhn hp=>?_))))))))
  ·refine Ae (vL 2 Dy Aa (wm Aa (ob ho λhg hq hr=>EP [0] Tryz.call164 (Ky F ha v7 r8 key hg hq) ?_)));rintro _ _ ⟨hj,rfl,rfl⟩;refine Aj (Al (vL 2 Dy Aa (ck hr λg17 hs=>ck hs λg19 ht=>BL (rs:=[rP ha 0,rI .u8 58]) (Hin:=[.bld 177 5 ha hj hg]) (Hr:=[.blk hc [rB false] 4,.blk hd [rP ha 0] 174,.blk he (Ad c) 70]) EY Aa (Vi _) (BS ha hj hg 58 g17 g19) Aa ?_)));rintro _ _ ⟨v21,rfl,rfl⟩;refine bd ht λhu hv hw=>?_;rw[← hv];refine Bc (vL 2 Dy Aa (wm Aa (ob hw λhx hy hz=>EP [0] MU (hf ha v21 hu x hx hy) ?_)));rintro _ _ ⟨h0,rfl,rfl⟩;refine Bc (wa Aa (Aj (Ao (J5 [1,1] ?_))));obtain rfl:=Aq hz;exact Ap (B1 OJ (AF Aa)) (sC (sC (sC (sC sN)))) ⟨h0,Aa,Aa⟩
  refine A0 (AO (Ae (vL 2 Dy Aa (wm Aa (ob hp λh1 h3 h5=>EP [0] MU (hf ha v7 r8 x h1 h3) ?_)))));rintro _ _ ⟨h7,rfl,rfl⟩;refine Bc (wa Aa (Aj (Ao (J5 [1,1] ?_))));obtain rfl:=Aq h5;exact Ap (B1 OJ (AF Aa)) (sC (sC (sC (sC sN)))) ⟨h7,Aa,Aa⟩
 refine A0 (AO (Ae (us (i:=0) GJ Aa Aa (B2 Aa) Aa Aa ?_)));refine Aj (Ak (Ae (vF BW Aa GI (vL 3 GK Aa (wv (BD Aa Aa) (Aj (cz hl Aa (λh8 hA=>?_) (λh8 hB=>?_))))))))
 ·refine Ae (vL 1 Dy Aa (wm Aa (ob hA λhh hC hD=>EP [2] Tryz.call164 (Ky F ha hb l key hh hC) ?_)));rintro _ _ ⟨hk,rfl,rfl⟩;refine Aj (Al (vL 2 Dy Aa (ck hD λhE hF=>ck hF λhG hH=>BL (rs:=[rP ha 0,rI .u8 58]) (Hin:=[.bld 177 5 ha hk hh]) (Hr:=[.blk hc [rB false] 4,.blk hd [rP ha 0] 174,.blk he (Ad c) 70]) EY Aa (Vi _) (BS ha hk hh 58 hE hG) Aa ?_)));rintro _ _ ⟨hI,rfl,rfl⟩;refine bd hH λhJ hK hL=>?_;rw[← hK];refine Bc (vL 2 Dy Aa (wm Aa (ob hL λhM hN hO=>EP [0] MU (hf ha hI hJ x hM hN) ?_)));rintro _ _ ⟨hP,rfl,rfl⟩;refine Bc (wa Aa (Aj (Ao (J5 [1,1] ?_))));obtain rfl:=Aq hO;exact Ap (B1 OJ (AF Aa)) (sC (sC (sC (sC sN)))) ⟨hP,Aa,Aa⟩
 refine A0 (AO (Ae (vL 1 Dy Aa (wm Aa (ob hB λhQ hR hS=>EP [2] MU (hf ha hb l x hQ hR) ?_)))));rintro _ _ ⟨hT,rfl,rfl⟩;refine Bc (wa Aa (Aj (Ao (J5 [1,1] ?_))));obtain rfl:=Aq hS;exact Ap (B1 OJ (AF Aa)) (sC (sC (sC (sC sN)))) ⟨hT,Aa,Aa⟩
theorem NY (F:Nat)(hl:Ai→(List Ac)→Bool→Ai→Ac→Option (Bool×Bool×Ai))(hv:(∀(hc:Nat) (hd:Nat) (hb:Nat) (hm:Value) (he:Nat) (key:Ai) (x:(List Ac)) (first:Bool) (l:Ai) (c:Ac) (r:Bool×Bool×Ai),hl key x first l c=some r→Fn Tryz.prog GE 167 [rS key,AC 4 (A1 Ad x),rP hc 0,rP hd 0,rP he 0] [.blk hc [rB first] 4,.blk hd [rP hb 0] 174,.bld 177 5 hb hm l,.blk he (Ad c) 70] (λR H=>∃w3b:Value,R=rB r.1∧H=[.blk hc [rB r.2.1] 4,.blk hd [rP hb 0] 174,.bld 177 5 hb w3b r.2.2,.blk he (Ad c) 70])))(hc:Nat)(hd:Nat)(hb:Nat)(hm:Value)(he:Nat)(v:(List Ac))(first:Bool)(l:Ai)(c:Ac)(r:Bool×Ai)(h:Kw F hl v first l c=some r):Fn Tryz.prog GE 166 [AC 4 (A1 Ad v),rv (.func (.func 167) #[] #[(.pointer (some ⟨hc,0,none⟩)),(.pointer (some ⟨hd,0,none⟩)),(.pointer (some ⟨he,0,none⟩))])] [.blk hc [rB first] 4,.blk hd [rP hb 0] 174,.bld 177 5 hb hm l,.blk he (Ad c) 70] (λR H=>∃w1_1b:Value,R=rv (.tuple #[])∧H=[.blk hc [rB r.1] 4,.blk hd [rP hb 0] 174,.bld 177 5 hb w1_1b r.2,.blk he (Ad c) 70]):=by
 refine enter (n:=52) Tryz.func166 Aa Tryz.ntmps166 Aa (λw Z=>?_);unfold Kw at h;refine Ae (wa Aa (Bc (wm Aa (ck h λg1 h2=>wv (Bs (enc:=Ad) (ys:=v) CK Dh Aa Aa g1) (wv (B5 BW Aa CM Aa Aa) (wv (Bh D8 Aa Aa) (wv (r:=Av 0) (Am Aa) (Aj (AE (ob h2 λhy hz hp=>Bx (S:=Nat×(Int×Int×Bool×Ai)×(Value)) (V:=(Bool×Ai)×(Value)) 0 (λσ=>CW (λσ=>Gl F v c hl σ.1 σ.2.1 σ.2.2.1 σ.2.2.2) σ.1 σ.2.1=some hy) (λσ=>[(0,AC 4 (A1 Ad v)),(1,rv (.func (.func 167) #[] #[(.pointer (some ⟨hc,0,none⟩)),(.pointer (some ⟨hd,0,none⟩)),(.pointer (some ⟨he,0,none⟩))])),(4,Av σ.2.1.1),(12,Av ((Au v 0).fN)),(13,Av σ.2.1.2.1)]) (λσ=>[.blk hc [rB σ.2.1.2.2.1] 4,.blk hd [rP hb 0] 174,.bld 177 5 hb σ.2.2 σ.2.1.2.2.2,.blk he (Ad c) 70]) (λσ=>σ.1) (F,(1,0,first,l),hm) hz (AL.c5 Aa Aa Aa Aa Aa AL.nil) (sC (sC (sC (sC sN)))) (λσ=>Gk σ.1.1 σ.1.2=some r) (λσ=>[]) (λσ=>[.blk hc [rB σ.1.1] 4,.blk hd [rP hb 0] 174,.bld 177 5 hb σ.2 σ.1.2,.blk he (Ad c) 70]) ?_ ?_))))))))))
 ·rintro⟨gv,⟨ha,hq,hf,hg⟩,hj⟩ h0;refine GL ?_;obtain⟨hw,rfl,h1,hn,hk⟩:=Ck h0;replace hn:Gl F v c hl ha hq hf hg=some h1:=hn;unfold Gl at hn;refine Ae (wv (C9 Aa Aa) (Aj (Ak (cz hn Aa (λc175 h3=>?_) (λc175 h4=>?_)))))
  ·refine A0 (AO (Ak (AE (Ae (wv (r:=rS ([]:Ai)) (A3 Aa) (Aj (Ak (Ae (wm Aa (wv (Bs (enc:=Ad) (ys:=v) CK Dh Aa Aa g1) (wv (B5 BW Aa GI Aa Aa) (wv (Bh GK Aa Aa) (wv (BD Aa Aa) (Aj (cz h3 Aa (λh5 h6=>?_) (λh5 h7=>?_))))))))))))))))
   ·refine Ae (wm Aa (wm Aa (ck h6 λh8 h9=>wv (Bs (enc:=Ad) (ys:=v) CK Dh Aa Aa h8) (wv (B5 BW Aa CC Aa Aa) (wv (Bh DO Aa Aa) (wa Aa (Aj (Al (wm Aa (ck h9 λhA hB=>wv (B3 Aa Aa hA) (wa Aa (Bc (wm Aa (wm Aa (ck hB λhC hD=>wv (r:=AC 4 (A1 Ad (List.drop (BK (ha+1)) v))) (KE CK Dh Aa Aa hC) (ob hD λhh hE hF=>BU Tryz.call95 (Mc F (List.drop (BK (ha+1)) v) hh hE) Aa (wm Aa (wv (A4 Aa Aa) (wv (A4 Aa Aa) ?_)))))))))))))))))));refine wv (A4 Aa Aa) (Bz (cs:=[Av 0,Av 0,rB false,rB false]) MH Aa Aa (λhG=>?_));refine wa Aa (DW (i:=0) DG Aa Aa Aa (Bn.c Aa) Aa Aa ?_);refine wa Aa (Aj (Ak (Ae (wm Aa (wm Aa (wm Aa (wm Aa (wm Aa (wm Aa (ck hF λhr hH=>wv (B3 Aa Aa hr) (wm Aa (wm Aa (wv (B3 Aa Aa hr) (ck hH λhI hJ=>ck hJ λhK hL=>wv (r:=AC 4 (A1 Ad (List.take (BK ((ha+1)+hh.1)-BK (ha+1)) (List.drop (BK (ha+1)) v)))) (KD CK Dh Aa Aa Aa Aa hI hK) (ob hL λhs hM hN=>DQ (rs:=[rS ((Au v ha).fStr),AC 4 (A1 Ad (List.take (BK ((ha+1)+hh.1)-BK (ha+1)) (List.drop (BK (ha+1)) v)))]) (Hin:=[.blk hc [rB hf] 4,.blk hd [rP hb 0] 174,.bld 177 5 hb hj hg,.blk he (Ad c) 70]) (Hr:=[.blk hG (AW hh.2.1) 143]) Tryz.call167 Aa Aa ((AI (i:=1) Aa).trans (Vj _ ((AI (i:=1) Aa).trans (Vj _ ((AI (i:=1) Aa).trans (Vj _ ((AI (i:=1) Aa).trans (Vj _ (Vi _))))))))) (hv hc hd hb hj he ((Au v ha).fStr) (List.take (BK ((ha+1)+hh.1)-BK (ha+1)) (List.drop (BK (ha+1)) v)) hf hg c hs hM) Aa ?_)))))))))))))));rintro _ _ ⟨hx,rfl,rfl⟩;refine wv (BT Aa) (Aj (cz hN Aa (λhO hP=>?_) (λhO hQ=>?_)))
    ·refine Ao (Ab (Ax (Ab (Ab (Bo ?_)))));have hR:=BB hP hk hp;refine Ax ?_;obtain rfl:=Aq hR;exact Ap (PI Tryz.results166) (sC (sC (sC (sC (sS sN))))) ⟨hx,Aa,Aa⟩
    refine A0 (AO (Al (wm Aa (wm Aa (wv (B3 Aa Aa hr) (wa Aa (Ar (AH (AO (Al (ck hQ λhS hT=>wv (B3 Aa Aa hS) (wm Aa (Ar ?_)))))))))))));have hU:=Bw hT hk;exact A2 (AN (hw,((ha+1)+hh.1,hq+1,hs.2.1,hs.2.2),hx) ⟨hU,Vk _⟩ (AL.c5 Aa Aa Aa Aa Aa AL.nil) (sC (sC (sC (sC (sS sN))))))
   refine A0 (AO (Ae (wm Aa (wm Aa (ck h7 λhV hW=>wv (r:=AC 4 (A1 Ad (List.drop (BK ha) v))) (KE CK Dh Aa Aa hV) (ob hW λhi hX hY=>BU Tryz.call95 (Mc F (List.drop (BK ha) v) hi hX) Aa (wm Aa (wv (A4 Aa Aa) (wv (A4 Aa Aa) (wv (A4 Aa Aa) (Bz (cs:=[Av 0,Av 0,rB false,rB false]) MH Aa Aa (λhZ=>?_))))))))))));refine wa Aa (DW (i:=0) DG Aa Aa Aa (Bn.c Aa) Aa Aa ?_);refine wa Aa (Aj (Ak (Ae (wm Aa (wm Aa (wm Aa (wm Aa (wm Aa (wm Aa (ck hY λht ga=>wv (B3 Aa Aa ht) (wm Aa (wm Aa (wv (B3 Aa Aa ht) (ck ga λgb gc=>ck gc λgd ge=>wv (r:=AC 4 (A1 Ad (List.take (BK (ha+hi.1)-BK ha) (List.drop (BK ha) v)))) (KD CK Dh Aa Aa Aa Aa gb gd) (ob ge λhu gf gg=>DQ (rs:=[rS ([]:Ai),AC 4 (A1 Ad (List.take (BK (ha+hi.1)-BK ha) (List.drop (BK ha) v)))]) (Hin:=[.blk hc [rB hf] 4,.blk hd [rP hb 0] 174,.bld 177 5 hb hj hg,.blk he (Ad c) 70]) (Hr:=[.blk hZ (AW hi.2.1) 143]) Tryz.call167 Aa Aa ((AI (i:=1) Aa).trans (Vj _ ((AI (i:=1) Aa).trans (Vj _ ((AI (i:=1) Aa).trans (Vj _ ((AI (i:=1) Aa).trans (Vj _ (Vi _))))))))) (hv hc hd hb hj he ([]:Ai) (List.take (BK (ha+hi.1)-BK ha) (List.drop (BK ha) v)) hf hg c hu gf) Aa ?_)))))))))))))));rintro _ _ ⟨v222,rfl,rfl⟩;refine wv (BT Aa) (Aj (cz gg Aa (λgh gi=>?_) (λgh gj=>?_)))
   ·refine Ao (Ab (Ax (Ab (Ab (Bo ?_)))));have gl:=BB gi hk hp;refine Ax ?_;obtain rfl:=Aq gl;exact Ap (PI Tryz.results166) (sC (sC (sC (sC (sS sN))))) ⟨v222,Aa,Aa⟩
   refine A0 (AO (Al (wm Aa (wm Aa (wv (B3 Aa Aa ht) (wa Aa (Ar (AH (AO (Al (ck gj λgm gp=>wv (B3 Aa Aa gm) (wm Aa (Ar ?_)))))))))))));have gq:=Bw gp hk;exact A2 (AN (hw,(ha+hi.1,hq+1,hu.2.1,hu.2.2),v222) ⟨gq,Vk _⟩ (AL.c5 Aa Aa Aa Aa Aa AL.nil) (sC (sC (sC (sC (sS sN))))))
  refine Bt (Aw ?_);have gr:=BJ h4 hk hp;exact Aw (Bf (AN ((hf,hg),hj) gr AL.nil (sC (sC (sC (sC sN))))))
 rintro⟨⟨gs,gt⟩,gu⟩ ho;refine Hi ?_;replace ho:Gk gs gt=some r:=ho;unfold Gk at ho;refine Bb ?_;obtain rfl:=Aq ho;exact Eu (PI Tryz.results166) (sC (sC (sC (sC sN)))) ⟨gu,Aa,Aa⟩
theorem Ev:∀F:Nat,(∀(ha:Nat) (hb:Value) (l:Ai) (v:(List Ac)) (r:Ai),HU F l v=some r→Fn Tryz.prog GE 119 [rP ha 0,AC 4 (A1 Ad v)] [.bld 177 5 ha hb l] (λR H=>∃w0b:Value,R=rv (.tuple #[])∧H=[.bld 177 5 ha w0b r]))∧(∀(hc:Nat) (hd:Nat) (ha:Nat) (hb:Value) (he:Nat) (key:Ai) (x:(List Ac)) (first:Bool) (l:Ai) (c:Ac) (r:Bool×Bool×Ai),Gm F key x first l c=some r→Fn Tryz.prog GE 167 [rS key,AC 4 (A1 Ad x),rP hc 0,rP hd 0,rP he 0] [.blk hc [rB first] 4,.blk hd [rP ha 0] 174,.bld 177 5 ha hb l,.blk he (Ad c) 70] (λR H=>∃w3b:Value,R=rB r.1∧H=[.blk hc [rB r.2.1] 4,.blk hd [rP ha 0] 174,.bld 177 5 ha w3b r.2.2,.blk he (Ad c) 70]))∧(∀(hc:Nat) (hd:Nat) (ha:Nat) (hb:Value) (he:Nat) (v:(List Ac)) (first:Bool) (l:Ai) (c:Ac) (r:Bool×Ai),Is F v first l c=some r→Fn Tryz.prog GE 166 [AC 4 (A1 Ad v),rv (.func (.func 167) #[] #[(.pointer (some ⟨hc,0,none⟩)),(.pointer (some ⟨hd,0,none⟩)),(.pointer (some ⟨he,0,none⟩))])] [.blk hc [rB first] 4,.blk hd [rP ha 0] 174,.bld 177 5 ha hb l,.blk he (Ad c) 70] (λR H=>∃w1_1b:Value,R=rv (.tuple #[])∧H=[.blk hc [rB r.1] 4,.blk hd [rP ha 0] 174,.bld 177 5 ha w1_1b r.2,.blk he (Ad c) 70]))
  | 0=>⟨(λ_ _ _ _ _ h=>by simp[HU] at h),(λ_ _ _ _ _ _ _ _ _ _ _ h=>by simp[Gm] at h),(λ_ _ _ _ _ _ _ _ _ _ h=>by simp[Is] at h)⟩
  | nn+1=>⟨(λha hb l v r h=>P9 nn (Gm nn) (Is nn) (Ev nn).2.1 (Ev nn).2.2 ha hb l v r (by rw[HU] at h;exact h)),(λhc hd ha hb he key x first l c r h=>NZ nn (HU nn) (Ev nn).1 hc hd ha hb he key x first l c r (by rw[Gm] at h;exact h)),(λhc hd ha hb he v first l c r h=>NY nn (Gm nn) (Ev nn).2.1 hc hd ha hb he v first l c r (by rw[Is] at h;exact h))⟩
theorem Q2 (F:Nat)(ha:Nat)(hb:Value)(l:Ai)(v:(List Ac))(r:Ai)(h:HU F l v=some r):Fn Tryz.prog GE 119 [rP ha 0,AC 4 (A1 Ad v)] [.bld 177 5 ha hb l] (λR H=>∃w0b:Value,R=rv (.tuple #[])∧H=[.bld 177 5 ha w0b r]):=(Ev F).1 ha hb l v r h
theorem PA (F:Nat)(v:(List Ac))(r:Ai×Int)(h:Md F v=some r):Fn Tryz.prog GE 67 [AC 4 (A1 Ad v)] [] (λR H=>R=C0 [rS r.1,Av r.2]∧H=[]):=by
 refine enter (n:=14) Tryz.func67 Aa Tryz.ntmps67 Aa (λw Z=>?_);unfold Md at h;refine Ae (wv (r:=rS ([]:Ai)) (A3 Aa) (wa Aa (Aj (Ak (Ae (wm Aa (ob h λr1 e3 h2=>BU Tryz.call36 (Iy F v r1 e3) Aa (wa Aa (Bc (wm Aa (wv (Cs Aa Aa) (Aj (cz h2 Aa (λc4 h5=>?_) (λc4 h6=>?_))))))))))))))
 ·refine Ae (wm Aa (wv (r:=rS ([]:Ai)) (A3 Aa) (wa Aa (Aj (Ao (Ab ?_))))));obtain rfl:=Aq h5;exact Ap (Gs Tryz.results67 (AF Aa) (AF Aa)) sN ⟨Aa,Aa⟩
 refine A0 (AO (Ae (Bz (cs:=[rv (.pointer none),rv (.slice none 0 0)]) Tryz.zeroValue177 Aa Aa (λb7=>?_))));refine Bc (wm Aa (WL.tobld (te:=5) (i:=0) Aa (ob h6 λr8 hb h9=>EP [0] MU (Q2 F b7 (.slice none 0 0) ([]:Ai) v r8 hb) ?_)));rintro _ _ ⟨ha,rfl,rfl⟩;refine Bc (ck h9 λhc hd=>BL (rs:=[rP b7 0]) (Hin:=[.bld 177 5 b7 ha r8]) (Hr:=[]) Tryz.call120 Aa (Vi _) (LX b7 ha r8  hc) Aa ?_);rintro _ _ ⟨rfl,rfl⟩;refine wa Aa (wa Aa (Aj (Ao ?_)));obtain rfl:=Aq hd;exact Ap (Gs Tryz.results67 (AF Aa) (AF Aa)) sN ⟨Aa,Aa⟩
end Go.Proofs.YtmjlemhondjfhaaGreatDoor.Q
namespace Go.Proofs.YtmjlemhondjfhaaGreatDoor
open Go
set_option linter.unusedVariables false
def GS (s:Ai)(p:Ai):Option (Bool):=
 Bg (imp (decide ((p.length:Int)≤(s.length:Int))) (JN (p.length:Int) (s.length:Int)))<|some ((decide ((p.length:Int)≤(s.length:Int)))&&(decide ((List.take (Int.toNat (p.length:Int)) s)=p)))
def Dd (s:Ai)(p:Ai):Option (Bool):=
 Bq (GS s p) λr1=>some r1
end Go.Proofs.YtmjlemhondjfhaaGreatDoor
namespace Go.Proofs.YtmjlemhondjfhaaGreatDoor.Q
open Go Go.RowKit
set_option linter.unusedVariables false
set_option linter.unusedSimpArgs false
set_option maxRecDepth 100000
set_option maxHeartbeats 4000000
theorem Lq (s:Ai)(p:Ai)(r:Bool)(h:GS s p=some r):Fn Tryz.prog GE 203 [rS s,rS p] [] (λR H=>R=rB r∧H=[]):=by
 refine enter (n:=18) Tryz.func203 Aa Tryz.ntmps203 Aa (λw Z=>?_);unfold GS at h;refine Ae (wa Aa (Aj (ck h λg1 h2=>AG [(4,rB ((decide ((p.length:Int)≤(s.length:Int)))&&(decide ((List.take (BK (p.length:Int)) s)=p))))] [] ?_ ?_)))
 ·refine Al (wm Aa (wv (B9 CN Aa) (wm Aa (wv (B9 CN Aa) (wv (DZ Aa Aa) (wm Aa (AT (decide ((p.length:Int)≤(s.length:Int))) (λc3=>?_) (λc3=>?_))))))))
  ·refine wo c3 (wm Aa (wo c3 (wm Aa (wo c3 (wv (B9 CN Aa) (wo c3 (wv (Ex CN Aa Aa (BV g1 c3)) (wo c3 (wm Aa (wo c3 (wv (Cc Aa Aa) (E7 Aa c3 Aa (wa Aa (Ar ?_))))))))))))));exact Cl c3
  refine wf c3 (wf c3 (wf c3 (wf c3 (wf c3 (wf c3 (wv (r:=rB false) (Ay Aa c3 Aa) (wa Aa (Ar ?_))))))));exact Cl c3
 refine Ao ?_;obtain rfl:=Aq h2;exact Ap (B1 Tryz.results203 (AF Aa)) sN ⟨Aa,Aa⟩
theorem JD (s:Ai)(p:Ai)(r:Bool)(h:Dd s p=some r):Fn Tryz.prog GE 176 [rS s,rS p] [] (λR H=>R=rB r∧H=[]):=by
 refine enter (n:=8) Tryz.func176 Aa Tryz.ntmps176 Aa (λw Z=>?_);unfold Dd at h;refine Ae (wa Aa (Bc (wm Aa (wm Aa (ob h λr1 e3 h2=>BU Tryz.call203 (Lq s p r1 e3) Aa (wa Aa (Aj (Ao ?_))))))));obtain rfl:=Aq h2;exact Ap (B1 Tryz.results176 (AF Aa)) sN ⟨Aa,Aa⟩
end Go.Proofs.YtmjlemhondjfhaaGreatDoor.Q
namespace Go.Proofs.YtmjlemhondjfhaaGreatDoor
open Go
set_option linter.unusedVariables false
def I1 (a:(List Ac))(b:(List Ac))(ha:Int):Option (Stp (Int) (Out (Bool) (Unit))):=
 B4 (decide (ha<(a.length:Int))) (Bg (Ca ha (a.length:Int))<|Bg (Ca ha (b.length:Int))<|B4 (!(decide (((Au a ha).fKind)=((Au b ha).fKind))&&decide (((Au a ha).fInt)=((Au b ha).fInt))&&decide (((Au a ha).fStr)=((Au b ha).fStr))&&decide (((Au a ha).fN)=((Au b ha).fN)))) (some (.out (.ret false))) (Bg (Cf .i64 (ha+1))<|some (.next (ha+1)))) (some (.out (.go ())))
def I0 :Option (Bool):=
 some true
def LE (F:Nat)(a:(List Ac))(b:(List Ac)):Option (Bool):=
 B4 (!decide ((a.length:Int)=(b.length:Int))) (some false) (Bq (CW (λσ=>I1 a b σ) F 0) (Cv λν=>I0 ))
end Go.Proofs.YtmjlemhondjfhaaGreatDoor
namespace Go.Proofs.YtmjlemhondjfhaaGreatDoor.Q
open Go Go.RowKit
set_option linter.unusedVariables false
set_option linter.unusedSimpArgs false
set_option maxRecDepth 100000
set_option maxHeartbeats 4000000
theorem RC {a0 b0:Int}{a1 b1:Int}{a2 b2:Ai}{a3 b3:Int}(w:World):(Op.equalIn 10000 70 (.agg #[.int .i64 a0,.int .i64 a1,.string (B a2),.int .i64 a3]) (.agg #[.int .i64 b0,.int .i64 b1,.string (B b2),.int .i64 b3])).run Tryz.prog w = .ok (decide (a0=b0)&&decide (a1=b1)&&decide (a2=b2)&&decide (a3=b3)) w:=by
  have hS:Tryz.prog.underlying 70=some (.struct (Tryz.prog.fieldsOf 70)):=by kernel_rfl
  have hp:Tryz.prog.stoodInHeld 70=false:=by kernel_rfl
  have u3:=TR;have ia3:=D8;have so3:=CM;have u9:=CN;have ia9:=DO;have so9:=CC;have ha:=Tryz.underlying68;have hb:=GK;have hc:=GI;rw[show(10000:Nat)=9999+1 from rfl,run_equalIn_agg w 9999 70 _ _ hS hp];simp only[Program.fieldsOf,BW]
  go_simp
  simp only[DF]
  by_cases h0:a0=b0<;>by_cases h1:a1=b1<;>by_cases h2:a2=b2<;>by_cases h3:a3=b3<;>simp[h0,h1,h2,h3]
theorem Np {n:Nat}{c:Cx}{l:Fr}{H:List Ent}{d:Option Nat}{ty rty:TypeId}{pos:String}{af:Array Edge}{g:Option (Nat×Bool)}{x y:Operand}{a0 b0:Int}{a1 b1:Int}{a2 b2:Ai}{a3 b3:Int}(hx:ev l x=some (Bm [Av a0,Av a1,rS a2,Av a3]))(hy:ev l y=some (Bm [Av b0,Av b1,rS b2,Av b3])):Bj Tryz.prog n c l H { dst:=d,op:=.binOp .neq 70 x y rty,type:=ty,pos:=pos,after:=af,guard:=g } (rB (!(decide (a0=b0)&&decide (a1=b1)&&decide (a2=b2)&&decide (a3=b3)))):=λa w Z ha hw=>by
  obtain⟨us,e1,q1⟩:=ha.ev hx;obtain⟨vs,e2,q2⟩:=ha.ev hy;have k1:=Ba.eq_rv (us:=[.int .i64 a0,.int .i64 a1,.string (B a2),.int .i64 a3]) q1;have k2:=Ba.eq_rv (us:=[.int .i64 b0,.int .i64 b1,.string (B b2),.int .i64 b3]) q2;subst k1;subst k2;have hm:Tryz.prog.eqGuardType Tryz.prog.depth 70=false:=by kernel_rfl
  have hb:=RC (a0:=a0) (a1:=a1) (a2:=a2) (a3:=a3) (b0:=b0) (b1:=b1) (b2:=b2) (b3:=b3) w;refine⟨.bool (!(decide (a0=b0)&&decide (a1=b1)&&decide (a2=b2)&&decide (a3=b3))),rfl,?_⟩;have hg:=run_eqGuard_agg (P:=Tryz.prog) w .neq 70 x y #[.int .i64 a0,.int .i64 a1,.string (B a2),.int .i64 a3] #[.int .i64 b0,.int .i64 b1,.string (B b2),.int .i64 b3] hm;simp only[execOp,e1,e2,Sem.run_bind,hg,Result.andThen_ok,run_neq_struct,hb,Sem.run_pure]
theorem JX (F:Nat)(a:(List Ac))(b:(List Ac))(r:Bool)(h:LE F a b=some r):Fn Tryz.prog GE 24 [AC 4 (A1 Ad a),AC 4 (A1 Ad b)] [] (λR H=>R=rB r∧H=[]):=by
 refine enter (n:=26) Tryz.func24 Aa Tryz.ntmps24 Aa (λw Z=>?_);unfold LE at h;refine Ae (wa Aa (Aj (Ak (Ae (wm Aa (wv (Bi (ys:=a) (enc:=Ad) CK Aa) (wm Aa (wv (Bi (ys:=b) (enc:=Ad) CK Aa) (wv (Cs Aa Aa) (Aj (cz h Aa (λc1 h2=>?_) (λc1 h3=>?_))))))))))))
 ·refine Ae (wa Aa (Aj (Ao (Ab ?_))));obtain rfl:=Aq h2;exact Ap (B1 Tryz.results24 (AF Aa)) sN ⟨Aa,Aa⟩
 refine A0 (AO (Ak (Ae (wa Aa (Aj (AE (ob h3 λhf hg he=>Bx (S:=Nat×(Int)×(Unit)) (V:=(Unit)×(Unit)) 0 (λσ=>CW (λσ=>I1 a b σ) σ.1 σ.2.1=some hf) (λσ=>[(0,AC 4 (A1 Ad a)),(1,AC 4 (A1 Ad b)),(5,Av σ.2.1)]) (λσ=>[]) (λσ=>σ.1) (F,0,()) hg (AL.c Aa (AL.c Aa (AL.c Aa AL.nil))) sN (λσ=>I0 =some r) (λσ=>[]) (λσ=>[]) ?_ ?_)))))))
 ·rintro⟨hz,ha,⟨⟩⟩ hh;refine GL ?_;obtain⟨hi,rfl,hj,hb,hd⟩:=Ck hh;replace hb:I1 a b ha=some hj:=hb;unfold I1 at hb;refine Ak (Ae (wm Aa (wm Aa (wv (Bi (ys:=a) (enc:=Ad) CK Aa) (wv (C9 Aa Aa) (Aj (cz hb Aa (λhk hl=>?_) (λhk hm=>?_))))))))
  ·refine A0 (AO (Ak (AE (Ak (ck hl λhn ho=>ck ho λhp hq=>CR [0,1,5] ?_)))));refine rq (Am Aa) (rq (Am Aa) (rq (Bs (enc:=Ad) (ys:=a) CK Dh Aa Aa hn) (rq (C1 P6 Dh Aa Aa Aa) (rq (Am Aa) (rq (Am Aa) (rq (Bs (enc:=Ad) (ys:=b) CK Dh Aa Aa hp) (rq (C1 P6 Dh Aa Aa Aa) (rq (r:=rB (!(decide (((Au a ha).fKind)=((Au b ha).fKind))&&decide (((Au a ha).fInt)=((Au b ha).fInt))&&decide (((Au a ha).fStr)=((Au b ha).fStr))&&decide (((Au a ha).fN)=((Au b ha).fN))))) (Np Aa Aa) (re [17,18,19,20,21,22,23,24,25,0,1,5] ?_)))))))));refine AO (cz hq Aa (λhr hs=>?_) (λhr ht=>?_))
   ·refine Ae (wa Aa (Aj (Ao (Ax (Ab (Ab (Bo ?_)))))));have hu:=BB hs hd he;refine Ax (Ab ?_);obtain rfl:=Aq hu;exact Ap (B1 Tryz.results24 (AF Aa)) sN ⟨Aa,Aa⟩
   refine A0 (AH (AO (Al (wm Aa (ck ht λhv hw=>wv (B3 Aa Aa hv) (wa Aa (Ar ?_)))))));have hx:=Bw hw hd;exact A2 (AN (hi,ha+1,()) ⟨hx,Vk _⟩ (AL.c Aa (AL.c Aa (AL.c Aa AL.nil))) sN)
  refine Bt (Aw ?_);have hy:=BJ hm hd he;exact Aw (Bf (AN ((),()) hy AL.nil sN))
 rintro⟨⟨⟩,⟨⟩⟩ hc;refine Hi ?_;replace hc:I0 =some r:=hc;unfold I0 at hc;refine Bb (AO (Ae (wa Aa (Aj (Ao ?_)))));obtain rfl:=Aq hc;exact Ap (B1 Tryz.results24 (AF Aa)) sN ⟨Aa,Aa⟩
end Go.Proofs.YtmjlemhondjfhaaGreatDoor.Q
namespace Go.Proofs.YtmjlemhondjfhaaGreatDoor
open Go
set_option linter.unusedVariables false
end Go.Proofs.YtmjlemhondjfhaaGreatDoor
namespace Go.Proofs.YtmjlemhondjfhaaGreatDoor.Q
open Go Go.RowKit
set_option linter.unusedVariables false
set_option linter.unusedSimpArgs false
set_option maxRecDepth 100000
set_option maxHeartbeats 4000000
end Go.Proofs.YtmjlemhondjfhaaGreatDoor.Q
namespace Go.Proofs.YtmjlemhondjfhaaGreatDoor
open Go
set_option linter.unusedVariables false
set_option linter.unusedSimpArgs false
section
variable {T S : Type}
def El:List (Ai×T)→Ai→Option T
 | [],_=>none
 | p::r,k=>bif decide (p.1=k) then some p.2 else El r k
def Jk (xs:List (Ai×T))(k:Ai)(z:T):T:=(El xs k).getD z
def GM (xs:List (Ai×T))(k:Ai):Bool:=(El xs k).isSome
def Nt (k:Ai)(v:T):List (Ai×T)→List (Ai×T)
 | []=>[(k,v)]
 | p::r=>bif GT k p.1 then(k,v)::p::r else p::Nt k v r
def Jl (xs:List (Ai×T))(k:Ai)(v:T):List (Ai×T):=xs.map λp=>bif decide (p.1=k) then(k,v) else p
def Ge (xs:List (Ai×T))(k:Ai)(v:T):List (Ai×T):=bif GM xs k then Jl xs k v else Nt k v xs
def AY (f:T→S)(xs:List (Ai×T)):List (Ai×S):=xs.map λp=>(p.1,f p.2)
theorem I4 (f:T→S):∀(xs:List (Ai×T)) (k:Ai),El (AY f xs) k=(El xs k).map f
 | [],k=>rfl
 | p::r,k=>by
  show(bif decide (p.1=k) then some (f p.2) else El (AY f r) k)=_;rw[El,I4 f r k]
  cases decide (p.1=k)<;>rfl
theorem Ra (f:T→S)(xs:List (Ai×T))(k:Ai):GM (AY f xs) k=GM xs k:=by
 unfold GM;rw[I4];cases El xs k<;>rfl
theorem Ns (f:T→S)(k:Ai)(v:T):∀xs:List (Ai×T),AY f (Nt k v xs)=Nt k (f v) (AY f xs)
 | []=>rfl
 | p::r=>by
  show AY f (bif GT k p.1 then(k,v)::p::r else p::Nt k v r)=(bif GT k p.1 then(k,f v)::(p.1,f p.2)::AY f r else(p.1,f p.2)::Nt k (f v) (AY f r));rw[← Ns f k v r]
  cases GT k p.1<;>rfl
theorem QZ (f:T→S)(xs:List (Ai×T))(k:Ai)(v:T):AY f (Ge xs k v)=Ge (AY f xs) k (f v):=by
 unfold Ge;rw[Ra]
 cases GM xs k with
 | false=>exact Ns f k v xs
 | true=>
  show AY f (Jl xs k v)=Jl (AY f xs) k (f v);unfold AY Jl;rw[VL,VL];refine List.map_congr_left λp _=>?_;show _=(bif decide (p.1=k) then(k,f v) else(p.1,f p.2));simp only[Function.comp]
  cases decide (p.1=k)<;>rfl
theorem Ha (f:T→S)(xs:List (Ai×T)):(AY f xs).length=xs.length:=by simp[AY]
theorem LJ (k:Ai)(v:T):∀xs:List (Ai×T),(Nt k v xs).Perm ((k,v)::xs)
 | []=>Vi _
 | p::r=>by
  rw[Nt]
  cases GT k p.1 with
  | true=>exact Vi _
  | false=>exact((LJ k v r).cons p).trans (List.Perm.swap _ _ _)
def Hw (x:T):List T→List (List T)
 | []=>[[x]]
 | y::r=>(x::y::r)::(Hw x r).map (y::·)
def LG:List T→List (List T)
 | []=>[[]]
 | x::r=>(LG r).flatMap (Hw x)
theorem JB (x:T):∀(a b:List T),a++x::b∈Hw x (a++b)
 | [],[]=>by simp[Hw]
 | [],y::b=>by simp[Hw]
 | y::a,b=>by
  simp only[List.cons_append,Hw,VE,List.mem_map];exact .inr ⟨_,JB x a b,rfl⟩
theorem LL:∀(xs ys:List T),ys.Perm xs→ys∈LG xs
 | [],ys,h=>by rw[h.eq_nil];simp[LG]
 | x::r,ys,h=>by
  have hx:x∈ys:=h.symm.subset (List.mem_cons_self ..);obtain⟨a,b,rfl⟩:=List.append_of_mem hx;have h2:(a++b).Perm r:=(List.perm_middle.symm.trans h).cons_inv;simp only[LG,List.mem_flatMap];exact⟨a++b,LL r _ h2,JB x a b⟩
def Ty {R:Type}[DecidableEq R](xs:List T)(K:List T→Option R):Option R:=match K xs with
 | none=>none
 | some r=>bif (LG xs).all (λp=>decide (K p=some r)) then some r else none
theorem Tx {R:Type}[DecidableEq R]{xs:List T}{K:List T→Option R}{r:R}(h:Ty xs K=some r):∀p:List T,p.Perm xs→K p=some r:=λp hp=>by
 unfold Ty at h
 cases hk:K xs with
 | none=>rw[hk] at h;cases h
 | some q=>
  rw[hk] at h;simp only at h
  cases ha:(LG xs).all (λp=>decide (K p=some q)) with
  | false=>rw[ha] at h;cases h
  | true=>
   rw[ha] at h;cases h;exact of_decide_eq_true (List.all_eq_true.1 ha p (LL xs p hp))
def Rb {St O:Type}(body:T→St→Option (Stp St (Out O St))):List T→St→Option (Out O St)
 | [],s=>some (.go s)
 | x::r,s=>match body x s with
  | none=>none
  | some (.next s')=>Rb body r s'
  | some (.out o)=>some o
def U1 {St R:Type}(body:T→St→Option (Stp St (Out R St)))(ys:List T)(K:St→Option R)(r:R):Stp St (Out R St)→Prop
 | .next s'=>∀q:List T,q.Perm ys→Bq (Rb body q s') (Cv K)=some r
 | .out o=>Cv K o=some r
theorem Ui {St R:Type}{body:T→St→Option (Stp St (Out R St))}{ys ys':List T}{p:T}{s:St}{K:St→Option R}{r:R}(h:∀q:List T,q.Perm ys→Bq (Rb body q s) (Cv K)=some r)(hp:ys.Perm (p::ys')):∃t,body p s=some t∧U1 body ys' K r t:=by
 have h1:∀q:List T,q.Perm ys'→Bq (Rb body (p::q) s) (Cv K)=some r:=λq hq=>h _ ((hq.cons p).trans hp.symm)
 cases hb:body p s with
 | none=>
  have:=h1 ys' (Vi _);rw[Rb,hb] at this;cases this
 | some t=>
  refine⟨t,rfl,?_⟩
  cases t with
  | next s'=>
   intro q hq;have:=h1 q hq;rw[Rb,hb] at this;exact this
  | out o=>
   have:=h1 ys' (Vi _);rw[Rb,hb] at this;exact this
theorem S0 {St R:Type}{body:T→St→Option (Stp St (Out R St))}{ys:List T}{s:St}{K:St→Option R}{r:R}(h:∀q:List T,q.Perm ys→Bq (Rb body q s) (Cv K)=some r)(hy:ys=[]):K s=some r:=by
 subst hy;exact h [] (Vi _)
theorem PW {St R:Type}{body:T→St→Option (Stp St (Out R St))}{ys:List T}{s':St}{K:St→Option R}{r:R}{t:Stp St (Out R St)}(h:some (Stp.next s')=some t)(ht:U1 body ys K r t):∀q:List T,q.Perm ys→Bq (Rb body q s') (Cv K)=some r:=by cases h;exact ht
theorem Sk {ys ys':List T}{p:T}(h:ys.Perm (p::ys')):ys'.length<ys.length:=by rw[h.length_eq];exact Vk _
end
def SD (k:IntKind)(x y:Int):Int:=k.wrap ((BitVec.ofInt k.bits x&&& BitVec.ofInt k.bits y).toNat:Int)
def Rn (k:IntKind)(x y:Int):Int:=k.wrap ((BitVec.ofInt k.bits x||| BitVec.ofInt k.bits y).toNat:Int)
def Gz (k:IntKind)(x n:Int):Int:=k.wrap (x*2 ^ (min n.toNat k.bits))
structure Af where
 fAllow:Bool
 fActions:(List Ai)
 fResources:(List Ai)
 deriving DecidableEq,Inhabited
structure BY where
 fAllowed:Bool
 fIndex:Int
 deriving DecidableEq,Inhabited
structure AS where
 fAllow:Bool
 fAddr:Int
 fBits:Int
 fLow:Int
 fHigh:Int
 deriving DecidableEq,Inhabited
def EA (s:Ai)(x:Ai):Option (Bool):=
 Bg (imp (decide ((x.length:Int)≤(s.length:Int))) (Cf .i64 ((s.length:Int)-(x.length:Int))))<|Bg (imp (decide ((x.length:Int)≤(s.length:Int))) (JN ((s.length:Int)-(x.length:Int)) (s.length:Int)))<|some ((decide ((x.length:Int)≤(s.length:Int)))&&(decide ((List.drop (Int.toNat ((s.length:Int)-(x.length:Int))) s)=x)))
def Gr (s:Ai)(x:Ai):Option (Ai):=
 Bq (EA s x) λr1=>B4 (r1) (Bg (Cf .i64 ((s.length:Int)-(x.length:Int)))<|Bg (JN ((s.length:Int)-(x.length:Int)) (s.length:Int))<|some (List.take (Int.toNat ((s.length:Int)-(x.length:Int))) s)) (some s)
def Jn (s:Ai)(x:Ai):Option (Bool):=
 Bq (EA s x) λr1=>some r1
def HV (s:Ai)(x:Ai):Option (Ai):=
 Bq (Gr s x) λr1=>some r1
def Dm (s:Ai):Option (Ai):=
 Bq (HV s ([42]:Ai)) λr1=>some r1
def JC (s:Ai):Option (Bool):=
 Bq (Jn s ([42]:Ai)) λr1=>some r1
def ID (s:Ai):Option (Bool):=
 Bg (imp (!(Lm s)) (imp (!(decide (s=([42]:Ai)))) ((Dm s).isSome)))<|Bg (imp (!(Lm s)) (imp (!(decide (s=([42]:Ai)))) (imp (Lm (ov (Dm s))) ((JC s).isSome))))<|some ((Lm s)||((decide (s=([42]:Ai)))||((Lm (ov (Dm s)))&&((ov (JC s))&&(decide ((s.length:Int)≤64))))))
def KP (q:Ai)(s:Ai):Option (Bool):=
 Bq (ID q) λr1=>B4 (!r1) (some false) (Bq (JC q) λr7=>B4 (r7) (Bq (Dm q) λha=>Bq (Dd s ha) λhb=>some hb) (some (decide (q=s))))
def Hy (a:(List Ai))(b:(List Ai))(ha:Int):Option (Stp (Int) (Out (Bool) (Unit))):=
 B4 (decide (ha<(a.length:Int))) (Bg (Ca ha (a.length:Int))<|Bg (Ca ha (b.length:Int))<|B4 (!decide ((Au a ha)=(Au b ha))) (some (.out (.ret false))) (Bg (Cf .i64 (ha+1))<|some (.next (ha+1)))) (some (.out (.go ())))
def Hx :Option (Bool):=
 some true
def Oz (F:Nat)(a:(List Ai))(b:(List Ai)):Option (Bool):=
 B4 (!decide ((a.length:Int)=(b.length:Int))) (some false) (Bq (CW (λσ=>Hy a b σ) F 0) (Cv λν=>Hx ))
def KC (x:Ai):Option (Bool):=
 Bq (ID x) λr1=>some (!r1)
def Mm (x:Ai)(s:Ai):Option (Bool):=
 Bq (KP x s) λr1=>some r1
def IA (ys:(List Ai))(ha:Int):Option (Stp (Int) (Out (Int) (Unit))):=
 B4 (decide (ha<(ys.length:Int))) (Bg (Ca ha (ys.length:Int))<|Bq (KC (Au ys ha)) λhb=>B4 (hb) (some (.out (.ret ha))) (Bg (Cf .i64 (ha+1))<|some (.next (ha+1)))) (some (.out (.go ())))
def I9 :Option (Int):=
 some (-1)
def Rj (F:Nat)(ys:(List Ai)):Option (Int):=
 Bq (CW (λσ=>IA ys σ) F 0) (Cv λν=>I9 )
def O0 (F:Nat)(ys:(List Ai)):Option (Bool):=
 Bq (Rj F ys) λr1=>some (decide (0≤r1))
def Ht (ys:(List Ai))(s:Ai)(ha:Int):Option (Stp (Int) (Out (Int) (Unit))):=
 B4 (decide (ha<(ys.length:Int))) (Bg (Ca ha (ys.length:Int))<|Bq (Mm (Au ys ha) s) λhb=>B4 (hb) (some (.out (.ret ha))) (Bg (Cf .i64 (ha+1))<|some (.next (ha+1)))) (some (.out (.go ())))
def Hq :Option (Int):=
 some (-1)
def Ov (F:Nat)(ys:(List Ai))(s:Ai):Option (Int):=
 Bq (CW (λσ=>Ht ys s σ) F 0) (Cv λν=>Hq )
def Ms (F:Nat)(ys:(List Ai))(s:Ai):Option (Bool):=
 Bq (Ov F ys s) λr1=>some (decide (0≤r1))
def Gv (F:Nat)(s:Af)(ha:Int):Option (Stp (Int) (Out (Int) (Unit))):=
 B4 (decide (ha<(([s.fActions,s.fResources]:List (List Ai)).length:Int))) (Bg (Ca ha (([s.fActions,s.fResources]:List (List Ai)).length:Int))<|Bq (O0 F (Au ([s.fActions,s.fResources]:List (List Ai)) ha)) λhb=>B4 (hb) (some (.out (.ret 4))) (Bg (Cf .i64 (ha+1))<|some (.next (ha+1)))) (some (.out (.go ())))
def Gt :Option (Int):=
 some 0
def Gw (s:Af)(ha:Int):Option (Stp (Int) (Out (Int) (Unit))):=
 B4 (decide (ha<(([s.fActions,s.fResources]:List (List Ai)).length:Int))) (Bg (Ca ha (([s.fActions,s.fResources]:List (List Ai)).length:Int))<|B4 (((decide (((Au ([s.fActions,s.fResources]:List (List Ai)) ha).length:Int)<1))||(decide (8<((Au ([s.fActions,s.fResources]:List (List Ai)) ha).length:Int))))) (some (.out (.ret 3))) (Bg (Cf .i64 (ha+1))<|some (.next (ha+1)))) (some (.out (.go ())))
def Gu (F:Nat)(s:Af):Option (Int):=
 Bq (CW (λσ=>Gv F s σ) F 0) (Cv λν=>Gt )
def DS (F:Nat)(s:Af):Option (Int):=
 Bq (CW (λσ=>Gw s σ) F 0) (Cv λν=>Gu F s )
def DX (F:Nat)(l:(List Ai))(s:Ai):Option (Bool):=
 Bq (Ms F l s) λr2=>some r2
def Mn (F:Nat)(x:Af)(allow:Bool)(action:Ai)(resource:Ai):Option (Bool):=
 Bg (imp (x.fAllow ==allow) ((DS F x).isSome))<|Bg (imp (x.fAllow ==allow) (imp (decide ((ov (DS F x))=0)) ((DX F x.fActions action).isSome)))<|Bg (imp (x.fAllow ==allow) (imp (decide ((ov (DS F x))=0)) (imp ((ov (DX F x.fActions action))) ((DX F x.fResources resource).isSome))))<|some ((x.fAllow ==allow)&&((decide ((ov (DS F x))=0))&&((ov (DX F x.fActions action))&&(ov (DX F x.fResources resource)))))
def I8 (F:Nat)(ys:(List Af))(allow:Bool)(action:Ai)(resource:Ai)(ha:Int):Option (Stp (Int) (Out (Int) (Unit))):=
 B4 (decide (ha<(ys.length:Int))) (Bg (Ca ha (ys.length:Int))<|Bq (Mn F (Au ys ha) allow action resource) λhb=>B4 (hb) (some (.out (.ret ha))) (Bg (Cf .i64 (ha+1))<|some (.next (ha+1)))) (some (.out (.go ())))
def I7 :Option (Int):=
 some (-1)
def Rh (F:Nat)(ys:(List Af))(allow:Bool)(action:Ai)(resource:Ai):Option (Int):=
 Bq (CW (λσ=>I8 F ys allow action resource σ) F 0) (Cv λν=>I7 )
def Mo (F:Nat)(allow:Bool)(l:(List Af))(action:Ai)(resource:Ai):Option (Int):=
 Bq (Rh F l allow action resource) λr2=>some r2
def KB (F:Nat)(l:(List Af))(action:Ai)(resource:Ai):Option (BY):=
 Bq (Mo F false l action resource) λr5=>B4 (decide (0≤r5)) (some (BY.mk false r5)) (Bq (Mo F true l action resource) λha=>some (BY.mk (decide (0≤ha)) ha))
def Cy (n:Int)(low:Int)(high:Int):Option (Bool):=
 some ((decide (low≤n))&&(decide (n≤high)))
def CV (bits:Int):Option (Int):=
 Bg (Cf .i64 (32-bits))<|Bg (decide (0≤(32-bits)))<|Bg (Cf .i64 ((Gz .i64 1 (32-bits))-1))<|some ((Gz .i64 1 (32-bits))-1)
def CA (q:AS):Option (Int):=
 Bg ((Cy q.fAddr 0 4294967295).isSome)<|Bg (imp (!(!(ov (Cy q.fAddr 0 4294967295)))) ((Cy q.fBits 0 32).isSome))<|Bg (imp (!(!(ov (Cy q.fAddr 0 4294967295)))) (imp (!(!(ov (Cy q.fBits 0 32)))) ((Cy q.fLow 1 65535).isSome)))<|Bg (imp (!(!(ov (Cy q.fAddr 0 4294967295)))) (imp (!(!(ov (Cy q.fBits 0 32)))) (imp (!(!(ov (Cy q.fLow 1 65535)))) ((Cy q.fHigh q.fLow 65535).isSome))))<|B4 (((!(ov (Cy q.fAddr 0 4294967295)))||((!(ov (Cy q.fBits 0 32)))||((!(ov (Cy q.fLow 1 65535)))||(!(ov (Cy q.fHigh q.fLow 65535))))))) (some 2) (Bq (CV q.fBits) λha=>B4 (!decide ((SD .i64 q.fAddr ha)=0)) (some 1) (some 0))
def Rg (s:Ai):Option (Int):=
 B4 (decide (([46]:Ai)=s)) (some 0) (Bg (Ca 0 (([46]:Ai).length:Int))<|some (Lib.indexByte s (Int.toNat (C2 ([46]:Ai) 0)).toUInt8))
def Ri (s:Ai):Option (Int):=
 B4 (decide (([58]:Ai)=s)) (some 0) (Bg (Ca 0 (([58]:Ai).length:Int))<|some (Lib.indexByte s (Int.toNat (C2 ([58]:Ai) 0)).toUInt8))
def Oi (s:Ai):Option (Int):=
 Bq (Rg s) λr1=>some r1
def EO (s:Ai)(ha:Ai)(hb:Int)(hd:(List Ai)):Option (Stp (Ai×Int×(List Ai)) (Out ((List Ai)) (Ai×Int×(List Ai)))):=
 B4 (decide (hb<((min ((Lib.countByte s 46:Int)+1) ((s.length:Int)+1))-1))) (Bq (Oi ha) λhc=>B4 (decide (hc<0)) (some (.out (.go (ha,hb,hd)))) (Bg (Cf .i64 (hc+0))<|Bg (JN (hc+0) (ha.length:Int))<|Bg (Ca hb (hd.length:Int))<|IX (List.set hd (Int.toNat hb) (List.take (Int.toNat (hc+0)) ha)) λhe=>Bg (Cf .i64 (hc+1))<|Bg (JN (hc+1) (ha.length:Int))<|Bg (Cf .i64 (hb+1))<|some (.next (List.drop (Int.toNat (hc+1)) ha,hb+1,he)))) (some (.out (.go (ha,hb,hd))))
def EN (hd:Ai)(ha:Int)(hb:(List Ai)):Option ((List Ai)):=
 Bg (Ca ha (hb.length:Int))<|IX (List.set hb (Int.toNat ha) hd) λhc=>Bg (Cf .i64 (ha+1))<|Bg (JN (ha+1) (hc.length:Int))<|some (List.take (Int.toNat (ha+1)) hc)
def KX (F:Nat)(s:Ai):Option ((List Ai)):=
 Bg (Cf .i64 ((Lib.countByte s 46:Int)+1))<|Bg (Cf .i64 ((s.length:Int)+1))<|Bg (DV 16 (Int.toNat (min ((Lib.countByte s 46:Int)+1) ((s.length:Int)+1))))<|Bg (decide (0≤(min ((Lib.countByte s 46:Int)+1) ((s.length:Int)+1))))<|Bg (Cf .i64 ((min ((Lib.countByte s 46:Int)+1) ((s.length:Int)+1))-1))<|Bq (CW (λσ=>EO s σ.1 σ.2.1 σ.2.2) F (s,0,List.replicate (Int.toNat (min ((Lib.countByte s 46:Int)+1) ((s.length:Int)+1))) ([]:Ai))) (Cv λν=>EN ν.1 ν.2.1 ν.2.2)
def Oh (F:Nat)(s:Ai):Option ((List Ai)):=
 Bq (KX F s) λr1=>some r1
def QA (s:Ai):Option (Ai×Ai×Bool):=
 Bq (Ri s) λr1=>B4 (decide (0≤r1)) (Bg (JN r1 (s.length:Int))<|Bg (Cf .i64 (r1+1))<|Bg (JN (r1+1) (s.length:Int))<|some (List.take (Int.toNat r1) s,List.drop (Int.toNat (r1+1)) s,true)) (some (s,([]:Ai),false))
def Ts (s:Ai):Option (Ai×Ai×Bool):=
 Bq (QA s) λr1=>some (r1.1,r1.2.1,r1.2.2)
def Ek (r1:(List Ai))(ha:Int)(hb:(List Int)):Option (Stp (Int×(List Int)) (Out (Int×Int) ((List Int)))):=
 B4 (decide (ha<4)) (Bg (Ca ha (r1.length:Int))<|Bg (DV 1 (Au r1 ha).length)<|Bg (imp (!(!decide ((Dr (Au r1 ha))=0))) ((Cy (Ci (Au r1 ha)) 0 255).isSome))<|B4 (((!decide ((Dr (Au r1 ha))=0))||(!(ov (Cy (Ci (Au r1 ha)) 0 255))))) (some (.out (.ret (0,1)))) (Bg (Ca ha 4)<|Bg (Ca ha (hb.length:Int))<|Bg (Cf .i64 (ha+1))<|some (.next (ha+1,List.set hb (Int.toNat ha) (Ci (Au r1 ha)))))) (some (.out (.go hb)))
def Ej (ha:(List Int)):Option (Int×Int):=
 Bg (Ca 0 4)<|Bg (Ca 0 (ha.length:Int))<|Bg (Ca 1 4)<|Bg (Ca 1 (ha.length:Int))<|Bg (Ca 2 4)<|Bg (Ca 2 (ha.length:Int))<|Bg (Ca 3 4)<|Bg (Ca 3 (ha.length:Int))<|some (Rn .i64 (Rn .i64 (Rn .i64 (Gz .i64 (Au ha 0) 24) (Gz .i64 (Au ha 1) 16)) (Gz .i64 (Au ha 2) 8)) (Au ha 3),0)
def Jj (F:Nat)(s:Ai):Option (Int×Int):=
 Bq (Oh F s) λr1=>B4 (!decide ((r1.length:Int)=4)) (some (0,1)) (Bq (CW (λσ=>Ek r1 σ.1 σ.2) F (0,List.replicate 4 (0:Int))) (Cv λν=>Ej ν))
def Ji (q:AS)(addr:Int)(port:Int):Option (Bool):=
 Bg ((CA q).isSome)<|Bg (imp (decide ((ov (CA q))=0)) ((CV q.fBits).isSome))<|Bg (imp (decide ((ov (CA q))=0)) (Cf .i64 (q.fAddr+(ov (CV q.fBits)))))<|Bg (imp (decide ((ov (CA q))=0)) ((Cy addr q.fAddr (q.fAddr+(ov (CV q.fBits)))).isSome))<|Bg (imp (decide ((ov (CA q))=0)) (imp ((ov (Cy addr q.fAddr (q.fAddr+(ov (CV q.fBits)))))) ((Cy port q.fLow q.fHigh).isSome)))<|some ((decide ((ov (CA q))=0))&&((ov (Cy addr q.fAddr (q.fAddr+(ov (CV q.fBits)))))&&(ov (Cy port q.fLow q.fHigh))))
def EI (l:(List AS))(addr:Int)(port:Int)(ha:Int):Option (Stp (Int) (Out (BY) (Unit))):=
 B4 (decide (ha<(l.length:Int))) (Bg (Ca ha (l.length:Int))<|Bq (Ji (Au l ha) addr port) λhb=>B4 (hb) (some (.out (.ret (BY.mk ((Au l ha).fAllow) ha)))) (Bg (Cf .i64 (ha+1))<|some (.next (ha+1)))) (some (.out (.go ())))
def EH :Option (BY):=
 some (BY.mk false (-1))
def I3 (F:Nat)(l:(List AS))(addr:Int)(port:Int):Option (BY):=
 Bq (CW (λσ=>EI l addr port σ) F 0) (Cv λν=>EH )
end Go.Proofs.YtmjlemhondjfhaaGreatDoor
namespace Go.Proofs.YtmjlemhondjfhaaGreatDoor.Q
open Go Go.RowKit
set_option linter.unusedVariables false
set_option linter.unusedSimpArgs false
section
variable {P : Program} {n : Nat} {c : Cx} {l : Fr} {H : List Ent} {d : Option Nat} {x y : Operand} {t t' ty : TypeId} {pos : String} {af : Array Edge} {g : Option (Nat × Bool)} {k k' : IntKind} {p q : Int}
theorem Uf (hx:ev l x=some (rI k p))(hy:ev l y=some (rI k q)):Bj P n c l H { dst:=d,op:=.binOp .and t x y t',type:=ty,pos:=pos,after:=af,guard:=g } (rI k (SD k p q)):=λa w Z ha _=>Ct<|by
 simp[execOp,ha.eval hx,ha.eval hy,B0,binOp,Op.intBits,SD]
theorem Tv (hx:ev l x=some (rI k p))(hy:ev l y=some (rI k q)):Bj P n c l H { dst:=d,op:=.binOp .or t x y t',type:=ty,pos:=pos,after:=af,guard:=g } (rI k (Rn k p q)):=λa w Z ha _=>Ct<|by
 simp[execOp,ha.eval hx,ha.eval hy,B0,binOp,Op.intBits,Rn]
theorem OX (hx:ev l x=some (rI k p))(hy:ev l y=some (rI k' q))(h0:decide (0≤q)=true):Bj P n c l H { dst:=d,op:=.binOp .shl t x y t',type:=ty,pos:=pos,after:=af,guard:=g } (rI k (Gz k p q)):=λa w Z ha _=>Ct<|by
 have h1 : ¬ q<0:=by have:=of_decide_eq_true h0;omega
 simp[execOp,ha.eval hx,ha.eval hy,B0,binOp,Op.shift,Gz,h1]
end
theorem T0 {α:Type}[Inhabited α]{enc:α→Rp}{ys:List α}{j:Int}(hg:Ca j (ys.length:Int)=true):(List.map enc ys)[j.toNat]? =some (enc (Au ys j)):=by
 have h0:=(BA hg).1;have h1:=(BA hg).2;have hl:j.toNat<ys.length:=by omega
 simp[Au,Vh hl]
theorem Sz {α:Type}{enc:α→Rp}{ys:List α}{j:Int}(hg:Ca j (ys.length:Int)=true):Nat.blt j.toNat (List.map enc ys).length=true:=by
 have h0:=(BA hg).1;have h1:=(BA hg).2;simp;omega
section
variable {P : Program} {n : Nat} {c : Cx} {ops : Array Oper} {Q : Exit → Act → World → Prop} {rest : List Oper} {l : Fr} {H H' : List Ent} {d : Nat} {d' : Option Nat} {x y : Operand} {t ty e : TypeId} {pos : String} {af : Array Edge} {g : Option (Nat × Bool)} {k : IntKind} {b i len : Nat} {j : Int}
theorem KG (ht:P.underlying t=some (.array len e))(hz:∀w,(sizeOf e).run P w = .ok 1 w)(hx:ev l x=some (rv (.pointer (some ⟨b,0,none⟩))))(hy:ev l y=some (rI k j))(hg:Ca j (len:Int)=true) :
  Bj P n c l H { dst:=d',op:=.indexAddr t x y,type:=ty,pos:=pos,after:=af,guard:=g } (rv (.pointer (some ⟨b,j.toNat,none⟩))):=λa w Z ha hw=>Ct<|by
 have h0:=(BA hg).1;have h1:=(BA hg).2;simp[execOp,ha.eval hx,ha.eval hy,Instr.indexAt,Instr.sureAddr,asIntOf,run_underlying ht,h0,h1,hz,GN]
theorem I2 {α:Type}[Inhabited α]{enc:α→Rp}{ys:List α}(hag:∀w,(isAgg t).run P w = .ok false w)(hx:ev l x=some (rv (.pointer (some ⟨b,j.toNat,none⟩))))(hi:H[i]? =some (.blk b (List.map enc ys) e))(hg:Ca j (ys.length:Int)=true) :
  Bj P n c l H { dst:=d',op:=.load t x,type:=ty,pos:=pos,after:=af,guard:=g } (enc (Au ys j)):=AP hag hx hi (T0 hg)
theorem PC {α:Type}[Inhabited α]{enc:α→Rp}{ys:List α}{v:α}(hag:∀w,(sizeOf t).run P w = .ok 1 w)(hx:ev l x=some (rv (.pointer (some ⟨b,j.toNat,none⟩))))(hy:ev l y=some (enc v))(hv:L2 H (enc v))
  (hi:H[i]? =some (.blk b (List.map enc ys) e)) (hg:Ca j (ys.length:Int)=true) (hH:H.set i (.blk b (List.map enc (List.set ys j.toNat v)) e)=H')
  (h:WL P n c ops Q rest l H'):WL P n c ops Q ({ dst:=none,op:=.store t x y,type:=ty,pos:=pos,after:=af,guard:=none }::rest) l H:=
 Mf hag hx hy hv hi (Sz hg) (cs':=List.map enc (List.set ys j.toNat v)) (by rw[List.map_set]) hH h
end
section
variable {P : Program} {n : Nat} {c : Cx} {l : Fr} {H : List Ent} {d' : Option Nat} {x y : Operand} {t t' ty e te : TypeId} {pos : String} {af : Array Edge} {g : Option (Nat × Bool)} {k : IntKind} {b i len : Nat} {j : Int}
end
def Ld (ops:List Oper)(N:Nat):Bool:=
 let cl:=Ie ops []
 (List.range ops.length).all (λi=>(Cg (ops.getD i default)).all (·<i))&&
 (List.range ops.length).all (λi=>i<N||(List.range i).all (λj=>(cl.getD i 0).testBit j))
section
variable {P : Program} {Q : Exit → Act → World → Prop}
theorem NG {listed:Array Bool}{len m:Nat}(hs:listed.size=len)(hm:m≤len)(h:∀j,j<len→(listed.getD j true=true↔j<m)):listed.toList.count false=len-m:=by
 have:listed.toList=List.replicate m true++List.replicate (len-m) false:=by
  apply List.ext_getElem
  ·simp[hs];omega
  ·intro j h1 h2;have hj:j<len:=by simpa[hs] using h1
   have:=h j hj;rw[Array.getD_eq_getD_getElem?,Array.getElem?_eq_getElem (by omega)] at this;simp only[V4] at this;rw[Array.getElem_toList,List.getElem_append]
   split
   ·rename_i h3
    simp at h3;simp[this.2 h3]
   ·rename_i h3
    simp at h3;simp only[List.getElem_replicate]
    cases hb:listed[j] with
    | false=>rfl
    | true=>have:=this.1 hb;omega
 rw[this];simp[List.count_append,List.count_replicate]
theorem Pi {listed:Array Bool}{j:Nat}(h:j<listed.size)(d d':Bool):listed.getD j d=listed.getD j d':=by
 simp[Array.getD_eq_getD_getElem?,Array.getElem?_eq_getElem h]
theorem Lg {ops:List Oper}{listed:Array Bool}{i:Nat}{o:Oper}(ho:ops[i]? =some o)(hb:∀e∈Cg o,listed.getD e true=true)
  (hcl:∀j o,ops[j]? =some o→listed.getD j true=true→∀e∈Cg o,listed.getD e true=true) (j:Nat) (h:((Ie ops []).getD i 0).testBit j=true):j=i∨listed.getD j true=true:=
 DK ops (λk=>k=i∨listed.getD k true=true) ops [] (λt o' ht e he hF=>by
  rcases hF with hF | hF
  ·simp at hF;subst hF;rw[ho] at ht;simp at ht;subst ht;exact .inr (hb e he)
  ·exact .inr (hcl t o' ht (by simpa using hF) e he)) (λj i hb=>by simp at hb) i j h (.inl rfl)
theorem HX {ops:List Oper}{listed:Array Bool}{i:Nat}(hsz:listed.size=ops.length)(hlt:∀i,i<ops.length→∀e∈Cg (ops.getD i default),e<i)(h:i∈Region.ready .any ops.toArray listed) :
  listed.getD i true=false∧i<ops.length∧∃o,ops[i]? =some o∧∀e∈Cg o,listed.getD e true=true:=by
 obtain⟨h1,o,ho,h2⟩:=mem_ready.1 h;have ho':ops[i]? =some o:=by simpa using ho
 have hil:=(List.getElem?_eq_some_iff.1 ho').1;refine⟨h1,hil,o,ho',λe he=>?_⟩;have hei:=hlt i hil e (by rw[Vg,ho'];exact he);simp only[Cg,List.mem_map,List.mem_filter] at he;obtain⟨x,⟨hx1,hx2⟩,rfl⟩:=he;have h3:=h2 x (by simpa using hx1) hx2;rw[Pi (by omega) true false];exact h3
theorem HN {ops:List Oper}{listed:Array Bool}(hsz:listed.size=ops.length)(hlt:∀i,i<ops.length→∀e∈Cg (ops.getD i default),e<i)(h:Region.ready .any ops.toArray listed=[]) :
  ∀j,j<ops.length→listed.getD j true=true:=by
 intro j
 induction j using Nat.strongRecOn with
 | ind j ih=>
  intro hj
  cases hb:listed.getD j true with
  | true=>rfl
  | false=>
   have:j∈Region.ready .any ops.toArray listed:=mem_ready.2 ⟨hb,ops[j],by simp[hj],λe he hbn=>by
    have hel:e.on<j:=hlt j hj e.on (by
     rw[Vg,Vh hj];simp only[Cg,V4,List.mem_map,List.mem_filter];exact⟨e,⟨by simpa using he,hbn⟩,rfl⟩)
    rw[Pi (by omega) false true];exact ih e.on hel (by omega)⟩
   rw[h] at this;cases this
theorem JW {listed:Array Bool}{i j:Nat}(hi:i<listed.size):(listed.setIfInBounds i true).getD j true=true↔(j=i∨listed.getD j true=true):=by
 by_cases hj:i=j
 ·subst hj;simp[hi]
 ·rw[getD_set_ne true hj];exact⟨.inr,λh=>h.elim (λh=>absurd h.symm hj) id⟩
theorem PF {listed:Array Bool}{i fuel:Nat}(hi:i<listed.size)(hun:listed.getD i true=false)(hc:listed.toList.count false=fuel+1):(listed.setIfInBounds i true).toList.count false=fuel:=by
 have hfi:listed.toList[i]? =some false:=by
  rw[Array.getD_eq_getD_getElem?,Array.getElem?_eq_getElem hi] at hun;simp at hun;simp[hi,hun]
 rw[Array.toList_setIfInBounds];have h1:=List.count_set (a:=true) (b:=false) (l:=listed.toList) (i:=i) (by simpa using hi);have h2:listed.toList[i]'(by simpa using hi)=false:=by
  have:=List.getElem?_eq_some_iff.1 hfi;exact this.2
 rw[h1,h2,hc];rfl
theorem J4 {ops:List Oper}{N:Nat}(hlt:∀i,i<ops.length→∀e∈Cg (ops.getD i default),e<i)
  (hch:∀i,N≤i→i<ops.length→∀j,j<i→((Ie ops []).getD i 0).testBit j=true):∀(k m:Nat) (listed:Array Bool) (a:Act) (w:World),m+k=ops.length→N≤m→listed.size=ops.length→
   (∀j,j<ops.length→(listed.getD j true=true↔j<m))→(∀j o,ops[j]? =some o→listed.getD j true=true→∀e∈Cg o,listed.getD e true=true)→wpList P ops.toArray Q (ops.drop m) a w→wpAny P .any ops.toArray Q k listed a w
 | 0,m,listed,a,w,hk,hN,hsz,hl,hcl,h=>by
  refine⟨?_,?_⟩
  ·cases hr:Region.ready .any ops.toArray listed with
   | nil=>rfl
   | cons i r=>
    obtain⟨h1,h2,_⟩:=HX hsz hlt (i:=i) (by rw[hr];simp);rw[(hl i h2).2 (by omega)] at h1;cases h1
  ·rw[List.drop_of_length_le (by omega)] at h;exact h
 | k+1,m,listed,a,w,hk,hN,hsz,hl,hcl,h=>by
  refine⟨λhr=>?_,λi hi=>?_⟩
  ·have:=(hl m (by omega)).1 (HN hsz hlt hr m (by omega));omega
  ·obtain⟨h1,h2,o,ho,hb⟩:=HX hsz hlt hi;have him:i=m:=by
    have hmi : ¬ i<m:=λh'=>by rw[(hl i h2).2 h'] at h1;cases h1
    by_cases e:i=m
    ·exact e
    ·rcases Lg ho hb hcl m (hch i (by omega) h2 m (by omega)) with h3 | h3
     ·exact h3.symm
     ·have:=(hl m (by omega)).1 h3;omega
   subst him;have hd:ops.drop i=o::ops.drop (i+1):=by
    rw[List.drop_eq_getElem_cons h2]
    congr 1
    exact(List.getElem?_eq_some_iff.1 ho).2
   rw[hd] at h;have ih:∀a' w',wpList P ops.toArray Q (ops.drop (i+1)) a' w'→wpAny P .any ops.toArray Q k (listed.setIfInBounds i true) a' w':=λa' w' h'=>by
    refine J4 hlt hch k (i+1) _ a' w' (by omega) (by omega) (by simpa using hsz) (λj hj=>?_) (λj o' hj hlj e he=>?_) h'
    ·rw[JW (by omega),hl j hj];omega
    ·rw[JW (by omega)] at hlj ⊢;rcases hlj with rfl | hlj
     ·rw[ho] at hj;simp at hj;subst hj;exact .inr (hb e he)
     ·exact .inr (hcl j o' hj hlj e he)
   unfold wpOp;have hoA:ops.toArray[i]? =some o:=by simpa using ho
   simp only[hoA];simp only[wpList] at h
   split
   ·rename_i hw'
    rw[VP hw'] at h;exact h.imp (λh=>Oper.wp_mono ih h) (λh=>h)
   ·rename_i hw'
    rw[VF hw'] at h;exact ih _ _ h
theorem NW {id:Nat}{ops:List Oper}{N:Nat}(hm:P.follows .mixedOrders=true)(hB:Ld ops N=true)(hN:N≤ops.length)(I:(Nat→Bool)→Act→World→Prop)
  (hext:∀S S' a w,(∀j,j<N→S j=S' j)→I S a w→I S' a w) {a:Act} {w:World} (h0:I (λ_=>false) a { w with drawn:=w.drawn+1 })
  (step:∀S i o a w,i<N→S i=false→ops[i]? =some o→(∀e∈Cg o,e<i∧S e=true)→I S a w→∀K:Act→World→Prop,(∀a' w',I (λj=>j ==i||S j) a' w'→K a' w')→
   (Region.wanted o (yielded ops.toArray a.tmps)=true→o.wp P a w K Q)∧(Region.wanted o (yielded ops.toArray a.tmps)=false→K (a.put o.dst undef) w))
  (fin:∀a w,I (λ_=>true) a w→wpList P ops.toArray Q (ops.drop N) a w):(Code.region id ops.toArray true).wp P Q a w:=by
 simp only[Ld,Vm,V8,List.mem_range,Vf,V6] at hB;obtain⟨hlt,hch0⟩:=hB;have hch:∀i,N≤i→i<ops.length→∀j,j<i→((Ie ops []).getD i 0).testBit j=true:=λi h1 h2 j hj=>by
  rcases hch0 i h2 with h3 | h3
  ·omega
  ·exact h3 j hj
 refine wp_region_any hm ?_;have main:∀(fuel:Nat) (listed:Array Bool) (a:Act) (w:World),listed.size=ops.length→listed.toList.count false=fuel→I (λj=>listed.getD j true) a w→
   (∀j o,ops[j]? =some o→listed.getD j true=true→∀e∈Cg o,listed.getD e true=true)→(∀j,N≤j→j<ops.length→listed.getD j true=false)→wpAny P .any ops.toArray Q fuel listed a w:=by
  intro fuel;have allin:∀(fuel:Nat) (listed:Array Bool) (a:Act) (w:World),listed.size=ops.length→listed.toList.count false=fuel→I (λj=>listed.getD j true) a w→
   (∀j o,ops[j]? =some o→listed.getD j true=true→∀e∈Cg o,listed.getD e true=true)→(∀j,N≤j→j<ops.length→listed.getD j true=false)→(∀j,j<N→listed.getD j true=true)→wpAny P .any ops.toArray Q fuel listed a w:=by
   intro fuel listed a w hsz hc hI hcl hlast hall;have hl:∀j,j<ops.length→(listed.getD j true=true↔j<N):=λj hj=>by
    constructor
    ·intro h
     by_cases hjN:j<N
     ·exact hjN
     ·rw[hlast j (by omega) hj] at h;cases h
    ·exact hall j
   have:=NG hsz hN hl;refine J4 hlt hch fuel N listed a w (by omega) (Vp _) hsz hl hcl (fin a w (hext _ _ a w (λj hj=>hall j hj) hI))
  induction fuel with
  | zero=>
   intro listed a w hsz hc hI hcl hlast;refine allin 0 listed a w hsz hc hI hcl hlast (λj hj=>?_)
   cases hb:listed.getD j true with
   | true=>rfl
   | false=>
    have:false∈listed.toList:=by
     rw[Array.getD_eq_getD_getElem?,Array.getElem?_eq_getElem (by omega)] at hb;simp at hb;rw[← hb];simp
    have:=List.count_pos_iff.2 this;omega
  | succ fuel ih=>
   intro listed a w hsz hc hI hcl hlast
   by_cases hall:∀j,j<N→listed.getD j true=true
   ·exact allin (fuel+1) listed a w hsz hc hI hcl hlast hall
   ·refine⟨λhr=>absurd (λj hj=>HN hsz hlt hr j (by omega)) hall,λi hi=>?_⟩;obtain⟨h1,h2,o,ho,hb⟩:=HX hsz hlt hi;have hiN:i<N:=by
     by_cases h:i<N
     ·exact h
     ·refine absurd (λj hj=>?_) hall;rcases Lg ho hb hcl j (hch i (by omega) h2 j (by omega)) with h3 | h3
      ·omega
      ·exact h3
    have K':∀a' w',I (λj=>j ==i||listed.getD j true) a' w'→wpAny P .any ops.toArray Q fuel (listed.setIfInBounds i true) a' w':=λa' w' hI'=>by
     refine ih _ a' w' (by simpa using hsz) (PF (by omega) h1 hc) (hext _ _ a' w' (λj hj=>?_) hI') (λj o' hj hlj e he=>?_) (λj h3 h4=>?_)
     ·have:=JW (listed:=listed) (i:=i) (j:=j) (by omega)
      cases hq:(listed.setIfInBounds i true).getD j true with
      | true=>
       rw[hq] at this;rcases this.1 rfl with h | h
       ·simp[h]
       ·simp[h]
      | false=>
       rw[hq] at this;have h5 : ¬ (j=i∨listed.getD j true=true):=λh=>by have:=this.2 h;cases this
       cases hz:listed.getD j true with
       | true=>exact absurd (.inr hz) h5
       | false=>
        have:j≠i:=λh=>h5 (.inl h);simp[this]
     ·rw[JW (by omega)] at hlj ⊢;rcases hlj with rfl | hlj
      ·rw[ho] at hj;simp at hj;subst hj;exact .inr (hb e he)
      ·exact .inr (hcl j o' hj hlj e he)
     ·rw[getD_set_ne true (by omega)];exact hlast j h3 h4
    obtain⟨k1,k2⟩:=step _ i o a w hiN h1 ho (λe he=>⟨hlt i h2 e (by rw[Vg,ho];exact he),hb e he⟩) hI _ K';unfold wpOp;have hoA:ops.toArray[i]? =some o:=by simpa using ho
    simp only[hoA]
    split
    ·rename_i hw';exact .inl (k1 hw')
    ·rename_i hw';exact k2 (by simpa using hw')
 have e0:∀j,j<ops.length→(Array.replicate ops.length false).getD j true=false:=λj hj=>by simp[hj]
 have hsz0:ops.toArray.size=ops.length:=by simp
 rw[hsz0];refine main ops.length (Array.replicate ops.length false) a _ (by simp) (by simp) (hext _ _ _ _ (λj hj=>(e0 j (by omega)).symm) h0) (λj o hj hl=>?_) (λj _ h2=>e0 j h2);rw[e0 j (List.getElem?_eq_some_iff.1 hj).1] at hl;cases hl
end
structure Sa where
 deps:List Nat
 r:Rp
 al:Option (List Rp×TypeId):=none
 late:Option (Nat×List Rp):=none
 sto:Option Nat:=none
def Eg (sp:List Sa)(i:Nat):Sa:=sp.getD i { deps:=[],r:=rv undef }
def RF (sp:List Sa):List Sp:=sp.map λs=>⟨s.deps,s.r,0⟩
def Je (β:Nat→Nat)(s:Sa)(i:Nat):Rp:=match s.al with
 | none=>s.r
 | some _=>rv (.pointer (some ⟨β i,0,none⟩))
def Jt (S:Nat→Bool)(late:Option (Nat×List Rp))(cs:List Rp):List Rp:=match late with
 | none=>cs
 | some q=>if S q.1 then q.2 else cs
def En (S:Nat→Bool)(β:Nat→Nat):List Sa→Nat→List Ent
 | [],_=>[]
 | s::r,t=>match s.al with
  | some p=>if S t then .blk (β t) (Jt S s.late p.1) p.2::En S β r (t+1) else En S β r (t+1)
  | none=>En S β r (t+1)
def Qg (β:Nat→Nat):List Sa→Nat→List Ent
 | [],_=>[]
 | s::r,t=>match s.al with
  | some p=>.blk (β t) (match s.late with | none=>p.1 | some q=>q.2) p.2::Qg β r (t+1)
  | none=>Qg β r (t+1)
def Ik (β:Nat→Nat):List Oper→List Sa→Nat→Fr→Fr
 | o::os,s::sp,i,l=>match o.dst with
  | some d=>(d,Je β s i)::Ik β os sp (i+1) l
  | none=>Ik β os sp (i+1) l
 | _,_,_,l=>l
theorem Id {S S':Nat→Bool}{late:Option (Nat×List Rp)}{cs:List Rp}(h:∀q,late=some q→S q.1=S' q.1):Jt S late cs=Jt S' late cs:=by
 unfold Jt
 cases late with
 | none=>rfl
 | some q=>simp only[];rw[h q rfl]
theorem D3 (S:Nat→Bool)(β:Nat→Nat)(s:Sa)(r:List Sa)(t:Nat):En S β (s::r) t=match s.al with
  | some p=>if S t then .blk (β t) (Jt S s.late p.1) p.2::En S β r (t+1) else En S β r (t+1)
  | none=>En S β r (t+1):=rfl
theorem E4 {S S':Nat→Bool}{β β':Nat→Nat}:∀(r:List Sa) (t0:Nat),(∀(t:Nat) (s:Sa),r[t]? =some s→s.al≠none→S (t0+t)=S' (t0+t)∧(S (t0+t)=true→β (t0+t)=β' (t0+t)∧∀q,s.late=some q→S q.1=S' q.1))→En S β r t0=En S' β' r t0
 | [],_,_=>rfl
 | s::r,t0,h=>by
  have ih:=E4 r (t0+1) (λt s hs hn=>by
   have:=h (t+1) s (by simpa using hs) hn;rw[show t0+1+t=t0+(t+1) from by omega];exact this)
  unfold En;rw[ih]
  cases ha:s.al with
  | none=>rfl
  | some p=>
   obtain⟨h1,h2⟩:=h 0 s rfl (by rw[ha];exact nofun);simp only[Nat.add_zero] at h1 h2;simp only[];rw[← h1]
   split
   ·rename_i hS;rw[(h2 hS).1,Id (h2 hS).2]
   ·rfl
theorem NF (β:Nat→Nat):∀(r:List Sa) (t0:Nat),En (λ_=>true) β r t0=Qg β r t0
 | [],_=>rfl
 | s::r,t0=>by
  unfold En Qg;rw[NF β r (t0+1)]
  cases s.al with
  | none=>rfl
  | some p=>cases hl:s.late<;>simp[Jt,hl]
theorem LQ (β:Nat→Nat):∀(r:List Sa) (t0:Nat),En (λ_=>false) β r t0=[]
 | [],_=>rfl
 | s::r,t0=>by
  unfold En;rw[LQ β r (t0+1)]
  cases s.al<;>simp
theorem NE {S:Nat→Bool}{β:Nat→Nat}{i b:Nat}{p:List Rp×TypeId}:∀(r:List Sa) (t0 k:Nat) (s:Sa),i=t0+k→r[k]? =some s→s.al=some p→S i=false→(∀(t:Nat) (s:Sa) (q:Nat×List Rp),r[t]? =some s→s.al≠none→s.late=some q→q.1≠i)→(∀q,s.late=some q→S q.1=false∧q.1≠i)→
  (En (λj=>j ==i||S j) (λj=>if j=i then b else β j) r t0).Perm (.blk b p.1 p.2::En S β r t0)
 | [],_,_,_,_,h,_,_,_,_=>by simp at h
 | s'::r,t0,0,s,hi,h,ha,hS,hne,hl=>by
  simp at h hi;subst h;subst hi;have e:=E4 (S:=λj=>j ==i||S j) (S':=S) (β:=λj=>if j=i then b else β j) (β':=β) r (i+1) (λt s hs hn=>by
   have:i+1+t≠i:=by omega
   refine⟨by simp[this],λ_=>⟨by simp[this],λq hq=>?_⟩⟩;have:=hne (t+1) s q (by simpa using hs) hn hq;simp[this])
  have ec:Jt (λj=>j ==i||S j) s'.late p.1=p.1:=by
   unfold Jt
   cases hq:s'.late with
   | none=>rfl
   | some q=>
    obtain⟨h1,h2⟩:=hl q hq;simp[h1,h2]
  unfold En;rw[e,ha];simp only[hS,BEq.rfl,V1,VH,ec];simp
 | s'::r,t0,k+1,s,hi,h,ha,hS,hne,hl=>by
  have ih:=NE (S:=S) (β:=β) (i:=i) (b:=b) (p:=p) r (t0+1) k s (by omega) (by simpa using h) ha hS (λt s q hs=>hne (t+1) s q (by simpa using hs)) hl;have hne0:t0≠i:=by omega
  have hne':(t0 ==i)=false:=by simpa using hne0
  unfold En
  cases ha':s'.al with
  | none=>exact ih
  | some q=>
   simp only[hne',Vo,VF hne0];rw[Id (S:=λj=>j ==i||S j) (S':=S) (λq hq=>by
    have:=hne 0 s' q rfl (by rw[ha'];exact nofun) hq;simp[this])]
   cases hS':S t0 with
   | true=>simpa using(Vj _ ih).trans (List.Perm.swap _ _ _)
   | false=>simpa using ih
theorem ND {S:Nat→Bool}{β:Nat→Nat}{i j:Nat}{p:List Rp×TypeId}{ncs:List Rp}:∀(r:List Sa) (t0 k:Nat) (s:Sa),j=t0+k→r[k]? =some s→s.al=some p→s.late=some (i,ncs)→S j=true→S i=false→(∀(t:Nat) (s:Sa) (q:Nat×List Rp),r[t]? =some s→s.al≠none→s.late=some q→t0+t≠j→q.1≠i)→(∀(t:Nat) (s:Sa),r[t]? =some s→s.al≠none→t0+t≠i)→
  ∃H',(En S β r t0).Perm (.blk (β j) p.1 p.2::H')∧(En (λj=>j ==i||S j) β r t0).Perm (.blk (β j) ncs p.2::H')
 | [],_,_,_,_,h,_,_,_,_,_,_=>by simp at h
 | s'::r,t0,0,s,hj,h,ha,hl,hSj,hSi,hne,hni=>by
  simp at h hj;subst h;subst hj;have e:=E4 (S:=λx=>x ==i||S x) (S':=S) (β:=β) (β':=β) r (j+1) (λt s hs hn=>by
   have h1:=hni (t+1) s (by simpa using hs) hn;have h1':j+1+t≠i:=by omega
   refine⟨by simp[h1'],λ_=>⟨rfl,λq hq=>?_⟩⟩;have:=hne (t+1) s q (by simpa using hs) hn hq (by omega);simp[this])
  refine⟨En S β r (j+1),?_,?_⟩
  ·rw[D3];rw[ha];simp[hSj,Jt,hl,hSi]
  ·rw[D3];rw[ha,e];simp[hSj,Jt,hl]
 | s'::r,t0,k+1,s,hj,h,ha,hl,hSj,hSi,hne,hni=>by
  obtain⟨H',h1,h2⟩:=ND (S:=S) (β:=β) (i:=i) (j:=j) (p:=p) (ncs:=ncs) r (t0+1) k s (by omega) (by simpa using h) ha hl hSj hSi (λt s q hs hn hq hx=>hne (t+1) s q (by simpa using hs) hn hq (by omega)) (λt s hs hn=>by
   have:=hni (t+1) s (by simpa using hs) hn;omega)
  cases ha':s'.al with
  | none=>exact⟨H',by rw[D3,ha'];exact h1,by rw[D3,ha'];exact h2⟩
  | some q=>
   have hi0:=hni 0 s' rfl (by rw[ha'];exact nofun);have hi0':(t0 ==i)=false:=by simpa using hi0
   have ec:Jt (λx=>x ==i||S x) s'.late q.1=Jt S s'.late q.1:=Id (λq hq=>by
    have:=hne 0 s' q rfl (by rw[ha'];exact nofun) hq (by omega);simp[this])
   cases hS':S t0 with
   | true=>
    refine⟨.blk (β t0) (Jt S s'.late q.1) q.2::H',?_,?_⟩
    ·rw[D3];rw[ha'];simpa[hS'] using(Vj _ h1).trans (List.Perm.swap _ _ _)
    ·rw[D3];rw[ha'];simp only[hi0',Vo,hS',VH,ec];exact(Vj _ h2).trans (List.Perm.swap _ _ _)
   | false=>
    refine⟨H',?_,?_⟩
    ·rw[D3];rw[ha'];simpa[hS'] using h1
    ·rw[D3];rw[ha'];simp only[hi0',Vo,hS'];simpa using h2
def UK (n:Nat)(ops:List Oper)(N:Nat)(keys:List Nat)(deps:List (List Nat))(als:List Bool)(lates stos:List (Option Nat)):Bool:=
 Ld ops N&&decide (N≤ops.length)&&
 (List.range N).all (λi=>match BF ops i with
  | some d=>decide (d<n)&&!keys.contains d&&(List.range N).all (λj=>j ==i||BF ops j !=some d)
  | none=>true)&&
 (List.range N).all (λi=>(deps.getD i []).all (λj=>decide (j<N)&&(Cg (ops.getD i default)).contains j&&!als.getD j true))&&
 (List.range N).all (λi=>match stos.getD i none with
  | some j=>decide (j<N)&&(Cg (ops.getD i default)).contains j&&als.getD j false&&!als.getD i true
  | none=>true)&&
 (List.range N).all (λj=>match lates.getD j none with
  | some k=>decide (k<N)&&als.getD j false&&stos.getD k none ==some j
  | none=>true)
def UQ (P:Program)(n:Nat)(c:Cx)(opsA:Array Oper)(Q:Exit→Act→World→Prop)(l:Fr)(o:Oper)(p:List Rp×TypeId):Prop:=
 ∀H a w Z (K:Act→World→Prop),Ch n l a Z→St c H Z w→(∀b w',St c (.blk b p.1 p.2::H) Z w'→K (a.put o.dst (.pointer (some ⟨b,0,none⟩))) w')→
  Region.wanted o (yielded opsA a.tmps)=true∧o.wp P a w K Q
def TQ (P:Program)(n:Nat)(c:Cx)(opsA:Array Oper)(Q:Exit→Act→World→Prop)(ops:List Oper)(sp:List Sa)(l0:Fr)(H:List Ent)(i:Nat)(o:Oper):Prop:=
 match (Eg sp i).sto with
 | some j=>o.dst=none∧∃d p ncs,BF ops j=some d∧(Eg sp j).al=some p∧(Eg sp j).late=some (i,ncs)∧
   ∀b H,Cz P n c opsA Q ((d,rv (.pointer (some ⟨b,0,none⟩)))::B8 ops (RF sp) (Eg sp i).deps l0) (.blk b p.1 p.2::H) o (rv undef) (.blk b ncs p.2::H)
 | none=>match (Eg sp i).al with
  | none=>∀E,Cz P n c opsA Q (B8 ops (RF sp) (Eg sp i).deps l0) (H++E) o (Eg sp i).r (H++E)
  | some p=>UQ P n c opsA Q (B8 ops (RF sp) (Eg sp i).deps l0) o p
def Jy (P:Program)(n:Nat)(c:Cx)(opsA:Array Oper)(Q:Exit→Act→World→Prop)(ops:List Oper)(sp:List Sa)(l0:Fr)(H:List Ent):Nat→List Oper→Prop
 | i,o::rest=>TQ P n c opsA Q ops sp l0 H i o∧Jy P n c opsA Q ops sp l0 H (i+1) rest
 | _,[]=>True
section
variable {P : Program} {n : Nat} {c : Cx} {opsA : Array Oper} {Q : Exit → Act → World → Prop} {l l0 : Fr} {H : List Ent} {sp : List Sa}
theorem Jy.at {ops:List Oper}:∀{k:Nat} {rest:List Oper},Jy P n c opsA Q ops sp l0 H k rest→∀(t:Nat) o,rest[t]? =some o→TQ P n c opsA Q ops sp l0 H (k+t) o
 | k,o::rest,⟨h1,h2⟩,t,o',ht=>by
  cases t with
  | zero=>simp at ht;subst ht;exact h1
  | succ t=>
   have:=Jy.at h2 t o' (by simpa using ht);rw[show k+(t+1)=k+1+t from by omega];exact this
 | _,[],_,t,o,h=>by simp at h
theorem Kg {β:Nat→Nat}{a:Act}{Z:Fz}(h0:Ch n l0 a Z):∀(os:List Oper) (ss:List Sa) (k:Nat),(∀(t:Nat) o s d,os[t]? =some o→ss[t]? =some s→o.dst=some d→∃v,a.tmps[d]? =some v∧(Je β s (k+t)).p Z v)→Ch n (Ik β os ss k l0) a Z
 | [],_,_,_=>by unfold Ik;exact h0
 | _::_,[],_,_=>by unfold Ik;exact h0
 | o::os,s::ss,k,h=>by
  have ih:=Kg h0 os ss (k+1) (λt o' s' d h1 h2 h3=>by
   have:=h (t+1) o' s' d (by simpa using h1) (by simpa using h2) h3;rw[show k+1+t=k+(t+1) from by omega];exact this)
  unfold Ik
  cases hd:o.dst with
  | none=>exact ih
  | some d=>
   refine⟨ih.size,ih.defers,λi r hi=>?_⟩;rw[BH] at hi
   split at hi
   ·rename_i e;subst e;simp at hi;subst hi;exact h 0 o s d rfl rfl hd
   ·exact ih.tm i r hi
theorem Tg {id:Nat}{ops:List Oper}(N:Nat)(sp:List Sa)(hm:P.follows .mixedOrders=true)(hB:UK n ops N (CY l0) (sp.map (·.deps)) (sp.map (·.al.isSome)) (sp.map (·.late.map (·.1))) (sp.map (·.sto))=true)(hl0:NO l0 l)(hsp:sp.length=N)
  (hob:Jy P n c ops.toArray Q ops sp l0 H 0 (ops.take N)) (h:∀β,WL P n c ops.toArray Q (ops.drop N) (Ik β (ops.take N) sp 0 l0) (H++Qg β sp 0)):WC P n c (.region id ops.toArray true) Q l H:=by
 intro a w Z ha hw;simp only[UK,Vm,V8,List.mem_range,Vf] at hB;obtain⟨⟨⟨⟨⟨b1,bN⟩,b2⟩,b3⟩,b4⟩,b5⟩:=hB;have hget:∀i,i<N→(ops.take N)[i]? =ops[i]?:=λi hi=>by rw[V5,VP hi]
 have hsa:∀i,i<N→sp[i]? =some (Eg sp i):=λi hi=>by
  simp[Eg,Vg,Vh (show i<sp.length by omega)]
 have hspq:∀i,i<N→(CF (RF sp) i)=⟨(Eg sp i).deps,(Eg sp i).r,0⟩:=λi hi=>by
  simp[CF,RF,Vg,Vs,hsa i hi]
 have hals:∀j b,j<N→(sp.map (·.al.isSome)).getD j b=(Eg sp j).al.isSome:=λj b hj=>by simp[Vg,Vs,hsa j hj]
 have hstos:∀j,j<N→(sp.map (·.sto)).getD j none=(Eg sp j).sto:=λj hj=>by simp[Vg,Vs,hsa j hj]
 have hlates:∀j,j<N→(sp.map (·.late.map (·.1))).getD j none=(Eg sp j).late.map (·.1):=λj hj=>by simp[Vg,Vs,hsa j hj]
 have S1:∀i o j,i<N→ops[i]? =some o→(Eg sp i).sto=some j→j<N∧j∈Cg o∧(Eg sp j).al≠none∧(Eg sp i).al=none:=λi o j hi ho hs=>by
  have h1:=b4 i hi;rw[hstos i hi,hs] at h1;simp only[Vm,VG,Vf] at h1;obtain⟨⟨⟨h2,h3⟩,h4⟩,h5⟩:=h1;rw[hals j _ h2] at h4;rw[hals i _ hi] at h5;rw[Vg,ho,V4,List.contains_iff_mem] at h3;exact⟨h2,h3,λe=>(by rw[e] at h4;cases h4),(by simpa using h5)⟩
 have L1:∀t q,t<N→(Eg sp t).late=some q→q.1<N∧(Eg sp q.1).sto=some t:=λt q ht hq=>by
  have h1:=b5 t ht;rw[hlates t ht,hq] at h1;simp only[Option.map_some,Vm,Vf,beq_iff_eq] at h1;obtain⟨⟨h2,h3⟩,h4⟩:=h1;rw[hstos _ h2] at h4;exact⟨h2,h4⟩
 have hops:∀j,j<N→∃o,ops[j]? =some o:=λj hj=>⟨ops[j]'(by omega),Vh (by omega)⟩
 have lt_of:∀(t:Nat) (s:Sa),sp[t]? =some s→t<N∧s=Eg sp t:=λt s hs=>by
  have h1:t<N:=by have:=(List.getElem?_eq_some_iff.1 hs).1;omega
  refine⟨h1,?_⟩;rw[hsa t h1] at hs;simpa using hs.symm
 have hdst:∀i o d,i<N→ops[i]? =some o→o.dst=some d→(d<n∧d ∉ CY l0)∧∀j,j<N→j≠i→BF ops j≠some d:=λi o d hi ho hd=>by
  have h3:=b2 i hi;have:BF ops i=some d:=by simp[BF,ho,hd]
  rw[this] at h3;simp only[Vm,VG,V8,List.mem_range,Vf] at h3;refine⟨⟨h3.1.1,λhmem=>by rw[← List.contains_iff_mem] at hmem;rw[hmem] at h3;cases h3.1.2⟩,λj hj hne he=>?_⟩;have:=h3.2 j hj;simp[hne,he] at this
 refine NW (N:=N) hm b1 bN (λS a w=>∃ (β:Nat→Nat) (Z:Fz),St c (H++En S β sp 0) Z w∧Ch n l0 a Z∧(∀j o d,j<N→S j=true→ops[j]? =some o→o.dst=some d→∃v,a.tmps[d]? =some v∧(Je β (Eg sp j) j).p Z v)∧
   ∀k j,k<N→(Eg sp k).sto=some j→S k=true→S j=true)
  (λS S' a w hS hI=>?_) ⟨λ_=>0,Z,?_,ha.subL hl0,λj o d _ hS=>(by cases hS),λk j _ _ hS=>(by cases hS)⟩ (λS i o a w hi hun ho hb hI K hK=>?_) (λa w hI=>?_)
 ·obtain⟨β,Z,h1,h2,h3,h4⟩:=hI;refine⟨β,Z,?_,h2,λj o d hj hS'=>h3 j o d hj (by rw[hS j hj];exact hS'),λk j hk hs hSk=>?_⟩
  ·rw[← E4 (S:=S) (β:=β) (β':=β) sp 0 (λt s hs _=>by
    obtain⟨ht,rfl⟩:=lt_of t s hs;exact⟨hS _ (by omega),λ_=>⟨rfl,λq hq=>hS _ (L1 t q ht hq).1⟩⟩)]
   exact h1
  ·obtain⟨o,ho⟩:=hops k hk;rw[← hS j (S1 k o j hk ho hs).1];exact h4 k j hk hs (by rw[hS k hk];exact hSk)
 ·rw[LQ,List.append_nil];exact hw.drawn _
 ·obtain⟨β,Z,h1,h2,h3,hx⟩:=hI;have hput:∀k u v,a.tmps[k]? =some u→o.dst≠some k→(a.put o.dst v).tmps[k]? =some u:=λk u v hk hne=>by
   cases hd:o.dst with
   | none=>simpa[Act.put] using hk
   | some d=>
    simp only[Act.put,Array.getElem?_setIfInBounds];rw[VF (λe=>hne (by rw[hd,e]))];exact hk
  have hagr:∀v Z',Fz.le Z Z'→Ch n l0 (a.put o.dst v) Z':=λv Z' hz=>by
   refine⟨?_,?_,λk r hk=>?_⟩
   ·cases o.dst<;>simp[Act.put,h2.size]
   ·cases o.dst<;>simp[Act.put,h2.defers]
   ·obtain⟨u,hu,hpu⟩:=h2.tm k r hk;exact⟨u,hput k u v hu (λe=>((hdst i o k hi ho e).1).2 (Hb hk)),r.mono hz hpu⟩
  have hvals:∀(v:Value) (Z':Fz) (β':Nat→Nat),Fz.le Z Z'→(∀j,j≠i→β' j=β j)→(o.dst≠none→(Je β' (Eg sp i) i).p Z' v)→∀j o' d,j<N→(j ==i||S j)=true→ops[j]? =some o'→o'.dst=some d→∃u,(a.put o.dst v).tmps[d]? =some u∧(Je β' (Eg sp j) j).p Z' u:=by
   intro v Z' β' hz hβ hp j o' d hj hS' ho' hd
   by_cases hji:j=i
   ·subst hji;rw[ho] at ho';simp at ho';subst ho';refine⟨v,?_,hp (by simp[hd])⟩;have hdn:d<a.tmps.size:=by rw[h2.size];exact(hdst j o d hi ho hd).1.1
    simp[Act.put,hd,hdn]
   ·have hSj:S j=true:=by simpa[hji] using hS'
    obtain⟨u,hu,hpu⟩:=h3 j o' d hj hSj ho' hd;refine⟨u,hput d u v hu (λe=>(hdst i o d hi ho e).2 j hj hji (by simp[BF,ho',hd])),?_⟩;have:Je β' (Eg sp j) j=Je β (Eg sp j) j:=by unfold Je;rw[hβ j hji]
    rw[this];exact(Je β (Eg sp j) j).mono hz hpu
  have hx':∀k j,k<N→(Eg sp k).sto=some j→(k ==i||S k)=true→(j ==i||S j)=true:=λk j hk hs hSk=>by
   by_cases hki:k=i
   ·subst hki;have:=(hb j (S1 k o j hk ho hs).2.1).2;simp[this]
   ·have:S j=true:=hx k j hk hs (by simpa[hki] using hSk);simp[this]
  have hat:=hob.at i o (by rw[hget i hi];exact ho);rw[V3] at hat;unfold TQ at hat;have hag':Ch n (B8 ops (RF sp) (Eg sp i).deps l0) a Z:=HA h2 (λj hj d hd=>by
    have h4:=b3 i hi j (by simpa[Vg,Vs,hsa i hi] using hj);simp only[Vm,VG,Vf] at h4;obtain⟨⟨h5,h6⟩,h7⟩:=h4;rw[Vg,ho,V4,List.contains_iff_mem] at h6;have hjal:(Eg sp j).al=none:=by
     rw[hals j _ h5] at h7;simpa using h7
    obtain⟨o2,ho2⟩:=hops j h5;obtain⟨v,hv1,hv2⟩:=h3 j o2 d h5 (hb j h6).2 ho2 (by simpa[BF,ho2] using hd);refine⟨v,hv1,?_⟩;rw[hspq j h5];simpa[Je,hjal] using hv2)
  cases hst:(Eg sp i).sto with
  | some j=>
   rw[hst] at hat;obtain⟨hod,d,p,ncs,hd,hal,hlate,hok⟩:=hat;obtain⟨hjN,hjb,_,hial⟩:=S1 i o j hi ho hst;have hSj:=(hb j hjb).2;obtain⟨H',p1,p2⟩:=ND (S:=S) (β:=β) (i:=i) (j:=j) (p:=p) (ncs:=ncs) sp 0 j (Eg sp j) (by omega) (hsa j hjN) hal hlate hSj hun (λt s q hs _ hq hne he=>by
     obtain⟨ht,rfl⟩:=lt_of t s hs;have:=(L1 t q ht hq).2;rw[he,hst] at this;simp at this;omega) (λt s hs hn he=>by
     obtain⟨ht,rfl⟩:=lt_of t s hs;rw[V3] at he;subst he;exact hn hial)
   obtain⟨o2,ho2⟩:=hops j hjN;obtain⟨v,hv1,hv2⟩:=h3 j o2 d hjN hSj ho2 (by simpa[BF,ho2] using hd);have hag2:Ch n ((d,rv (.pointer (some ⟨β j,0,none⟩)))::B8 ops (RF sp) (Eg sp i).deps l0) a Z:=⟨hag'.size,hag'.defers,λk r hk=>by
    rw[BH] at hk
    split at hk
    ·rename_i e;subst e;simp at hk;subst hk
     exact⟨v,hv1,by simpa[Je,hal] using hv2⟩
    ·exact hag'.tm k r hk⟩
   refine hok (β j) (H++H') a w Z K hag2 (h1.perm ((List.Perm.append_left H p1).trans List.perm_middle)) (λv w' Z' hz _ hs'=>hK _ _ ⟨β,Z',?_,hagr v Z' hz,hvals v Z' β hz (λ_ _=>rfl) (λhne=>absurd hod hne),hx'⟩);exact hs'.perm (List.perm_middle.symm.trans (List.Perm.append_left H p2.symm))
  | none=>
   rw[hst] at hat;have latene:∀t q,t<N→(Eg sp t).late=some q→q.1≠i:=λt q ht hq he=>by
    have:=(L1 t q ht hq).2;rw[he,hst] at this;cases this
   cases hal:(Eg sp i).al with
   | none=>
    rw[hal] at hat;refine hat _ a w Z K hag' h1 (λv w' Z' hz hp hst'=>hK _ _ ⟨β,Z',?_,hagr v Z' hz,hvals v Z' β hz (λ_ _=>rfl) (λ_=>by unfold Je;rw[hal];exact hp),hx'⟩);rw[E4 (S':=S) (β':=β) sp 0 (λt s hs hn=>by
     obtain⟨ht,rfl⟩:=lt_of t s hs;have:t≠i:=λe=>by subst e;exact hn hal
     refine⟨by simp[this],λ_=>⟨rfl,λq hq=>?_⟩⟩;have:=latene t q ht hq;simp[this])]
    exact hst'
   | some p=>
    rw[hal] at hat;have key:=λK' hK'=>hat (H++En S β sp 0) a w Z K' hag' h1 hK';have h5:∀b w',St c (.blk b p.1 p.2::(H++En S β sp 0)) Z w'→K (a.put o.dst (.pointer (some ⟨b,0,none⟩))) w':=λb w' hst'=>by
     refine hK _ _ ⟨λj=>if j=i then b else β j,Z,?_,hagr _ Z (Fz.le.refl _),hvals _ Z _ (Fz.le.refl _) (λj hj=>by simp[hj]) (λ_=>by simp[Je,hal,rv]),hx'⟩;have hp:=NE (S:=S) (β:=β) (i:=i) (b:=b) (p:=p) sp 0 i (Eg sp i) (by omega) (hsa i hi) hal hun (λt s q hs _ hq=>by
      obtain⟨ht,rfl⟩:=lt_of t s hs;exact latene t q ht hq) (λq hq=>by
       refine⟨?_,latene i q hi hq⟩
       cases hS:S q.1 with
       | false=>rfl
       | true=>
        obtain⟨h6,h7⟩:=L1 i q hi hq;have:=hx q.1 i h6 h7 hS;rw[this] at hun;cases hun)
     exact hst'.perm ((List.perm_middle.symm).trans (List.Perm.append_left H hp.symm))
    refine⟨λ_=>(key K h5).2,λhw'=>?_⟩;rw[(key K h5).1] at hw';cases hw'
 ·obtain⟨β,Z,h1,h2,h3,_⟩:=hI;refine h β a w Z (Kg h2 _ _ 0 (λt o s d ht hs hd=>?_)) (by rw[← NF];exact h1);obtain⟨htN,rfl⟩:=lt_of t s hs;rw[V3];exact h3 t o d htN rfl (by rw[← hget t htN];exact ht) hd
end
section
variable {P : Program} {n : Nat} {c : Cx} {opsA : Array Oper} {Q : Exit → Act → World → Prop} {l l0 : Fr} {H : List Ent} {sp : List Sa}
theorem JS {id:Nat}{ops:List Oper}(N:Nat)(ks0:List Nat)(sp:List Sa)(hob:Jy P n c ops.toArray Q ops sp l0 H 0 (ops.take N))(h:∀β,WL P n c ops.toArray Q (ops.drop N) (Ik β (ops.take N) sp 0 l0) (H++Qg β sp 0))
  (h0:Kp ks0 l l0:=by repeat (first | exact JM | (apply HZ;rfl) | (apply I6;rfl))) (hm:P.follows .mixedOrders=true:=by kernel_rfl) (hB:UK n ops N (CY l0) (sp.map (·.deps)) (sp.map (·.al.isSome)) (sp.map (·.late.map (·.1))) (sp.map (·.sto))=true:=by kernel_rfl)
  (hsp:sp.length=N:=by rfl):WC P n c (.region id ops.toArray true) Q l H:=Tg N sp hm hB h0.one hsp hob h
theorem MC {all rest:List Oper}{d:Nat}{op:Op}{ty:TypeId}{pos:String}{af:Array Edge}{i:Nat}
  (hr:∀{H},Bj P n c (B8 all (RF sp) (Eg sp i).deps l0) H { dst:=some d,op:=op,type:=ty,pos:=pos,after:=af,guard:=none } (Eg sp i).r) (h:Jy P n c opsA Q all sp l0 H (i+1) rest) (ha:(Eg sp i).al=none:=by rfl) (hs:(Eg sp i).sto=none:=by rfl) :
  Jy P n c opsA Q all sp l0 H i ({ dst:=some d,op:=op,type:=ty,pos:=pos,after:=af,guard:=none }::rest):=by
 refine⟨?_,h⟩;unfold TQ;rw[hs,ha];exact λ_=>C8 hr
theorem Qs {all rest:List Oper}{d:Nat}{op:Op}{ty:TypeId}{pos:String}{af:Array Edge}{i:Nat}
  (hr:∀{E},Bj P n c (B8 all (RF sp) (Eg sp i).deps l0) (H++E) { dst:=some d,op:=op,type:=ty,pos:=pos,after:=af,guard:=none } (Eg sp i).r) (h:Jy P n c opsA Q all sp l0 H (i+1) rest) (ha:(Eg sp i).al=none:=by rfl) (hs:(Eg sp i).sto=none:=by rfl) :
  Jy P n c opsA Q all sp l0 H i ({ dst:=some d,op:=op,type:=ty,pos:=pos,after:=af,guard:=none }::rest):=by
 refine⟨?_,h⟩;unfold TQ;rw[hs,ha];exact λ_=>C8 hr
theorem U6 {all:List Oper}{i:Nat}:Jy P n c opsA Q all sp l0 H i []:=trivial
end
structure RH (ks:List Nat) (β:Nat→Nat) (os:List Oper) (sp:List Sa) (i:Nat) (l0 l1:Fr):Prop where
 go:Kp ks (Ik β os sp i l0) l1
section
variable {ks : List Nat} {β : Nat → Nat} {os : List Oper} {sp : List Sa} {i d : Nat} {l0 l1 : Fr} {ds : List Nat} {r : Rp} {p : List Rp × TypeId} {lt : Option (Nat × List Rp)} {so : Option Nat} {op : Op} {ty : TypeId} {pos : String} {af : Array Edge} {g : Option (Nat × Bool)}
theorem Uj (h:ks.contains d=true)(t:RH ks β os sp (i+1) l0 l1):RH ks β ({ dst:=some d,op:=op,type:=ty,pos:=pos,after:=af,guard:=g }::os) ({ deps:=ds,r:=r,sto:=so }::sp) i l0 ((d,r)::l1):=⟨HZ h t.go⟩
theorem Um (h:ks.contains d=true)(t:RH ks β os sp (i+1) l0 l1):RH ks β ({ dst:=some d,op:=op,type:=ty,pos:=pos,after:=af,guard:=g }::os) ({ deps:=ds,r:=r,al:=some p,late:=lt,sto:=so }::sp) i l0 ((d,rv (.pointer (some ⟨β i,0,none⟩)))::l1):=⟨HZ h t.go⟩
theorem Ul {s:Sa}(h:ks.contains d=false)(t:RH ks β os sp (i+1) l0 l1):RH ks β ({ dst:=some d,op:=op,type:=ty,pos:=pos,after:=af,guard:=g }::os) (s::sp) i l0 l1:=⟨I6 h t.go⟩
theorem Uk {s:Sa}(t:RH ks β os sp (i+1) l0 l1):RH ks β ({ dst:=none,op:=op,type:=ty,pos:=pos,after:=af,guard:=g }::os) (s::sp) i l0 l1:=⟨t.go⟩
theorem Un (t:Kp ks l0 l1):RH ks β [] [] i l0 l1:=⟨t⟩
theorem HS {P:Program}{n:Nat}{c:Cx}{opsA:Array Oper}{Q:Exit→Act→World→Prop}{rest:List Oper}{H H1:List Ent}(ks:List Nat)(h:WL P n c opsA Q rest l1 H1)
  (hz:RH ks β os sp i l0 l1:=by repeat (first | (apply Uj;rfl) | (apply Um;rfl) | (apply Ul;rfl) | apply Uk | apply Un | exact JM | (apply HZ;rfl) | (apply I6;rfl))) (hH:H=H1:=by rfl) :
  WL P n c opsA Q rest (Ik β os sp i l0) H:=λa w Z ha hw=>h a w Z (ha.subL hz.go.one) (hH▸hw)
end
section
variable {P : Program} {n : Nat} {c : Cx} {opsA : Array Oper} {Q : Exit → Act → World → Prop} {l l0 : Fr} {H : List Ent} {sp : List Sa}
theorem UL {all rest:List Oper}{o:Oper}{i:Nat}(hr:∀{E},Cz P n c opsA Q (B8 all (RF sp) (Eg sp i).deps l0) (H++E) o (Eg sp i).r (H++E))(h:Jy P n c opsA Q all sp l0 H (i+1) rest)(ha:(Eg sp i).al=none:=by rfl)(hs:(Eg sp i).sto=none:=by rfl):Jy P n c opsA Q all sp l0 H i (o::rest):=by
 refine⟨?_,h⟩;unfold TQ;rw[hs,ha];exact λ_=>hr
end
def UR (p:Bool→Prop):Rp:=⟨λ_ v=>∃b,v = .bool b∧p b,λ_ h=>h,true,λ_ Z v ⟨b,e,_⟩=>by rw[e];rfl⟩
section
variable {P : Program} {n : Nat} {c : Cx} {ops : Array Oper} {Q : Exit → Act → World → Prop} {rest : List Oper} {l : Fr} {H : List Ent} {d : Option Nat} {ty rty t e : TypeId} {pos : String} {af : Array Edge} {g : Option (Nat × Bool)} {r : Rp} {x : Operand} {cx cy : Code} {sz : Nat} {xs : List (List Rp)}
theorem Iq {o:Operand}{p:Bool→Prop}(ho:ev l o=some (UR p))(h1:p true→WC P n c cx Q l H)(h2:p false→WC P n c cy Q l H):WC P n c (.cond o cx cy) Q l H:=λa w Z ha hw=>by
 obtain⟨b,e,hp⟩:=ha.ev ho;exact wp_cond_split e (λe=>h1 (e▸hp) a w Z ha hw) (λe=>h2 (e▸hp) a w Z ha hw)
theorem Hm (ht:P.underlying t=some (.slice e))(h:ev l x=some (AC sz xs)):Bj P n c l H { dst:=d,op:=.binOp .eql t x (.const (.slice none 0 0)) rty,type:=ty,pos:=pos,after:=af,guard:=g } (UR (λb=>b=true→xs=[])):=λa w Z ha hw=>by
 obtain⟨A,cap,e1,h1,h2,h3,h4⟩:=ha.ev h;refine⟨.bool A.isNone,⟨_,rfl,λhb=>?_⟩,?_⟩
 ·cases A with
  | some a=>cases hb
  | none=>
   have:=h3 rfl;exact List.length_eq_zero_iff.1 (by omega)
 ·have:=run_equal_slice_nil (P:=P) w t e A xs.length cap ht;have e2:a.eval (.const (.slice none 0 0)) = .slice none 0 0:=rfl;simp[execOp,e1,e2,binOp,this,eqGuard]
end
section
variable {P : Program} {n : Nat} {c : Cx} {l : Fr} {H : List Ent} {d : Option Nat} {ty rty t e : TypeId} {pos : String} {af : Array Edge} {g : Option (Nat × Bool)} {x : Operand} {sz : Nat}
end
end Go.Proofs.YtmjlemhondjfhaaGreatDoor.Q
