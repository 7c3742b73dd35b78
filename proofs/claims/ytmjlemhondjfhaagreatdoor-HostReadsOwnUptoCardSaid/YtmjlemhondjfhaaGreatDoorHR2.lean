/-
  Texts of the proof, put together: ShelfN, FwG, Row, IdA, PlB, IdB, PlC, IdC, ShelfV, PlD, PlE, FwJ, IdR, TzL, QG, QO, RowQ, QOb, Q0, PQB, WQB, PVa, WVa, PVb, WVb, PVc, WVc, PVd, WVd, PVe, WVe, PVf, WVf, PM, PH, PHa, QH, QY, Q7.
-/
import Derived.Test.YtmjlemhondjfhaaGreatDoorHR1
import Derived.Shelf.Strconv.Itoa3
import Derived.Shelf.LaysM
import Derived.Shelf.LaysC
import Derived.Shelf.Strconv.AtoiAll
import Derived.Shelf.Strconv.ErrVarAll
import Derived.Test.YtmjlemhondjfhaaGreatDoorProg
import Derived.Lib.SmallJoins
import Derived.Lib.AppendIntMem
import Derived.Lib.TrailingZeros
import Derived.Lib.LaidTab
import Derived.Test.YtmjlemhondjfhaaGreatDoorCards
import Derived.Test.YtmjlemhondjfhaaGreatDoorTie
import Derived.Carry
import Derived.ChangeSame
import Derived.ProofKit
import Derived.OpenShut
import Derived.Deep.DeepHandedRow
import Derived.Deep.DeepWitnessRowRef
import Derived.Lib.LaidIn
import Derived.Stop.LaidErr
import Derived.Lib.Bytealg
import Derived.Lib.AtoiAllCases
import Derived.Lib.ItoaNum
import Derived.Lib.ItoaLen
import Derived.Shelf.Strings.Builder1
import Derived.Shelf.Strings.Count
import Derived.Shelf.Strings.Search1
import Derived.Shelf.Strings.Search2
import Derived.Shelf.Strings.Search3
import Derived.Shelf.Small.Strs
import Derived.Lib.ItoaMem
import Derived.Shelf.Lays7
import Derived.Shelf.Spec.TrailingZeros
import Derived.Deep.Slices
import Derived.ChangeArms
import Derived.DataReads
import Derived.Test.YtmjlemhondjfhaaGreatDoorRows
import Derived.Laws.Tables
import Derived.Laws.StructEq
import GoSem.Op.IntBits
import GoSem.Op.Shift
namespace Go.Proofs
open Go.Shelf
def Tryz.laysM171_ren:Go.Shelf.Ren:=⟨fun | 171=>122 | 243=>172 | 246=>200 | 283=>225 | 284=>226 | 285=>227 | 286=>228 | 129=>197 | 317=>240 | 318=>241 | 319=>242 | 320=>243 | 337=>247 | 338=>248 | n=>n,fun | 3=>3 | 9=>9 | 2=>2 | 4=>4 | 171=>250 | 0=>0 | 53=>231 | 37=>175 | 5=>5 | 173=>252 | 212=>266 | 51=>229 | 20=>20 | 213=>267 | 46=>196 | 232=>276 | 233=>277 | n=>n,fun | 17=>3 | 18=>6 | 19=>7 | n=>n⟩
theorem Tryz.laysM171:Go.Proofs.LaysM.n171 Tryz.prog Tryz.laysM171_ren:={
 mixed:=by kernel_rfl
 f129:=Tryz.func197.trans (congrArg some (by kernel_rfl))
 f171:=Tryz.func122.trans (congrArg some (by kernel_rfl))
 f243:=Tryz.func172.trans (congrArg some (by kernel_rfl))
 f246:=Tryz.func200.trans (congrArg some (by kernel_rfl))
 f283:=Tryz.func225.trans (congrArg some (by kernel_rfl))
 f284:=Tryz.func226.trans (congrArg some (by kernel_rfl))
 f285:=Tryz.func227.trans (congrArg some (by kernel_rfl))
 f286:=Tryz.func228.trans (congrArg some (by kernel_rfl))
 f317:=Tryz.func240.trans (congrArg some (by kernel_rfl))
 f318:=Tryz.func241.trans (congrArg some (by kernel_rfl))
 f319:=Tryz.func242.trans (congrArg some (by kernel_rfl))
 f320:=Tryz.func243.trans (congrArg some (by kernel_rfl))
 f337:=Tryz.func247.trans (congrArg some (by kernel_rfl))
 f338:=Tryz.func248.trans (congrArg some (by kernel_rfl))
 t0:=Tryz.underlying0
 a0:=Tryz.isAgg0
 z0:=Tryz.sizeOf0
 v0:=Tryz.zeroValue0
 t2:=Tryz.underlying2
 a2:=Tryz.isAgg2
 z2:=Tryz.sizeOf2
 v2:=Tryz.zeroValue2
 t3:=Tryz.underlying3
 a3:=Tryz.isAgg3
 z3:=Tryz.sizeOf3
 v3:=Tryz.zeroValue3
 t4:=Tryz.underlying4
 a4:=Tryz.isAgg4
 z4:=Tryz.sizeOf4
 v4:=Tryz.zeroValue4
 t5:=Tryz.underlying5
 a5:=Tryz.isAgg5
 z5:=Tryz.sizeOf5
 v5:=Tryz.zeroValue5
 t9:=Tryz.underlying9
 a9:=Tryz.isAgg9
 z9:=Tryz.sizeOf9
 v9:=Tryz.zeroValue9
 t20:=Tryz.underlying20
 a20:=Tryz.isAgg20
 z20:=Tryz.sizeOf20
 v20:=Tryz.zeroValue20
 t37:=Tryz.underlying175
 a37:=Tryz.isAgg175
 z37:=Tryz.sizeOf175
 v37:=Tryz.zeroValue175
 t46:=Tryz.underlying196
 a46:=Tryz.isAgg196
 z46:=Tryz.sizeOf196
 v46:=Tryz.zeroValue196
 t51:=Tryz.underlying229
 a51:=Tryz.isAgg229
 z51:=Tryz.sizeOf229
 v51:=Tryz.zeroValue229
 t53:=Tryz.underlying231
 a53:=Tryz.isAgg231
 z53:=Tryz.sizeOf231
 v53:=Tryz.zeroValue231
 t171:=Tryz.underlying250
 a171:=Tryz.isAgg250
 z171:=Tryz.sizeOf250
 v171:=Tryz.zeroValue250
 t173:=Tryz.underlying252
 a173:=Tryz.isAgg252
 z173:=Tryz.sizeOf252
 v173:=Tryz.zeroValue252
 t212:=Tryz.underlying266
 a212:=Tryz.isAgg266
 z212:=Tryz.sizeOf266
 v212:=Tryz.zeroValue266
 t213:=Tryz.underlying267
 a213:=Tryz.isAgg267
 z213:=Tryz.sizeOf267
 t232:=Tryz.underlying276
 a232:=Tryz.isAgg276
 z232:=Tryz.sizeOf276
 v232:=Tryz.zeroValue276
 t233:=Tryz.underlying277
 a233:=Tryz.isAgg277
 z233:=Tryz.sizeOf277
 v233:=Tryz.zeroValue277
 g17:=by kernel_rfl
 g18:=by kernel_rfl
 g19:=by kernel_rfl
 i0:=by kernel_rfl
 i2:=by kernel_rfl
 i3:=by kernel_rfl
 i4:=by kernel_rfl
 i5:=by kernel_rfl
 i9:=by kernel_rfl
 i20:=by kernel_rfl
 i37:=by kernel_rfl
 i46:=by kernel_rfl
 i51:=by kernel_rfl
 i53:=by kernel_rfl
 i171:=by kernel_rfl
 i173:=by kernel_rfl
 i212:=by kernel_rfl
 i232:=by kernel_rfl
 i233:=by kernel_rfl
 m17:=by kernel_rfl
 m18:=by kernel_rfl
 m19:=by kernel_rfl }
open Go.RowKit Go.Sort Go.Lib in
theorem Tryz.strconv_Itoa (n : Int) (h0 : -9223372036854775808 ≤ n) (h1 : n ≤ 9223372036854775807) (w : World) (htab : Lib.TabIs Tryz.prog w "internal/strconv.uint64pow10" .u64 Lib.pow10Tab) :
  Calls Tryz.prog 122 #[.int .i64 n] w λe w'=>e = .returned (.string ⟨(Lib.itoa n).toArray⟩)∧∃k os,w'=grow (w.drewN k) os:=Any.strconv_Itoa Tryz.laysM171 n h0 h1 w htab
def Tryz.laysC172_ren:Go.Shelf.Ren:=⟨fun | 172=>147 | 244=>182 | 245=>183 | 247=>212 | 279=>213 | 280=>214 | 281=>215 | 282=>216 | 287=>234 | 316=>235 | 171=>122 | 205=>236 | 321=>245 | 322=>246 | 243=>172 | 246=>200 | 283=>225 | 284=>226 | 285=>227 | 286=>228 | 129=>197 | 317=>240 | 318=>241 | 319=>242 | 320=>243 | 337=>247 | 338=>248 | n=>n,fun | 9=>9 | 3=>3 | 75=>198 | 76=>199 | 4=>4 | 5=>5 | 167=>236 | 37=>175 | 0=>0 | 85=>237 | 2=>2 | 168=>239 | 53=>231 | 175=>258 | 46=>196 | 210=>261 | 127=>213 | 145=>271 | 143=>269 | 21=>21 | 171=>250 | 173=>252 | 212=>266 | 51=>229 | 20=>20 | 213=>267 | 232=>276 | 233=>277 | 80=>179 | n=>n,fun | 15=>1 | 16=>2 | 17=>3 | 18=>6 | 19=>7 | n=>n⟩
theorem Tryz.laysC172:Go.Proofs.LaysC.n172 Tryz.prog Tryz.laysC172_ren:={
 mixed:=by kernel_rfl
 f129:=Tryz.func197.trans (congrArg some (by kernel_rfl))
 f171:=Tryz.func122.trans (congrArg some (by kernel_rfl))
 f172:=Tryz.func147.trans (congrArg some (by kernel_rfl))
 f205:=Tryz.func236.trans (congrArg some (by kernel_rfl))
 f243:=Tryz.func172.trans (congrArg some (by kernel_rfl))
 f244:=Tryz.func182.trans (congrArg some (by kernel_rfl))
 f245:=Tryz.func183.trans (congrArg some (by kernel_rfl))
 f246:=Tryz.func200.trans (congrArg some (by kernel_rfl))
 f247:=Tryz.func212.trans (congrArg some (by kernel_rfl))
 f279:=Tryz.func213.trans (congrArg some (by kernel_rfl))
 f280:=Tryz.func214.trans (congrArg some (by kernel_rfl))
 f281:=Tryz.func215.trans (congrArg some (by kernel_rfl))
 f282:=Tryz.func216.trans (congrArg some (by kernel_rfl))
 f283:=Tryz.func225.trans (congrArg some (by kernel_rfl))
 f284:=Tryz.func226.trans (congrArg some (by kernel_rfl))
 f285:=Tryz.func227.trans (congrArg some (by kernel_rfl))
 f286:=Tryz.func228.trans (congrArg some (by kernel_rfl))
 f287:=Tryz.func234.trans (congrArg some (by kernel_rfl))
 f316:=Tryz.func235.trans (congrArg some (by kernel_rfl))
 f317:=Tryz.func240.trans (congrArg some (by kernel_rfl))
 f318:=Tryz.func241.trans (congrArg some (by kernel_rfl))
 f319:=Tryz.func242.trans (congrArg some (by kernel_rfl))
 f320:=Tryz.func243.trans (congrArg some (by kernel_rfl))
 f321:=Tryz.func245.trans (congrArg some (by kernel_rfl))
 f322:=Tryz.func246.trans (congrArg some (by kernel_rfl))
 f337:=Tryz.func247.trans (congrArg some (by kernel_rfl))
 f338:=Tryz.func248.trans (congrArg some (by kernel_rfl))
 t0:=Tryz.underlying0
 a0:=Tryz.isAgg0
 z0:=Tryz.sizeOf0
 v0:=Tryz.zeroValue0
 t2:=Tryz.underlying2
 a2:=Tryz.isAgg2
 z2:=Tryz.sizeOf2
 v2:=Tryz.zeroValue2
 t3:=Tryz.underlying3
 a3:=Tryz.isAgg3
 z3:=Tryz.sizeOf3
 v3:=Tryz.zeroValue3
 t4:=Tryz.underlying4
 a4:=Tryz.isAgg4
 z4:=Tryz.sizeOf4
 v4:=Tryz.zeroValue4
 t5:=Tryz.underlying5
 a5:=Tryz.isAgg5
 z5:=Tryz.sizeOf5
 v5:=Tryz.zeroValue5
 t9:=Tryz.underlying9
 a9:=Tryz.isAgg9
 z9:=Tryz.sizeOf9
 v9:=Tryz.zeroValue9
 t20:=Tryz.underlying20
 a20:=Tryz.isAgg20
 z20:=Tryz.sizeOf20
 v20:=Tryz.zeroValue20
 t21:=Tryz.underlying21
 a21:=Tryz.isAgg21
 z21:=Tryz.sizeOf21
 v21:=Tryz.zeroValue21
 t37:=Tryz.underlying175
 a37:=Tryz.isAgg175
 z37:=Tryz.sizeOf175
 v37:=Tryz.zeroValue175
 t46:=Tryz.underlying196
 a46:=Tryz.isAgg196
 z46:=Tryz.sizeOf196
 v46:=Tryz.zeroValue196
 t51:=Tryz.underlying229
 a51:=Tryz.isAgg229
 z51:=Tryz.sizeOf229
 v51:=Tryz.zeroValue229
 t53:=Tryz.underlying231
 a53:=Tryz.isAgg231
 z53:=Tryz.sizeOf231
 v53:=Tryz.zeroValue231
 t75:=Tryz.underlying198
 a75:=Tryz.isAgg198
 z75:=Tryz.sizeOf198
 v75:=Tryz.zeroValue198
 t76:=Tryz.underlying199
 a76:=Tryz.isAgg199
 z76:=Tryz.sizeOf199
 v76:=Tryz.zeroValue199
 t85:=Tryz.underlying237
 a85:=Tryz.isAgg237
 z85:=Tryz.sizeOf237
 v85:=Tryz.zeroValue237
 t127:=Tryz.underlying213
 a127:=Tryz.isAgg213
 z127:=Tryz.sizeOf213
 v127:=Tryz.zeroValue213
 t143:=Tryz.underlying269
 a143:=Tryz.isAgg269
 z143:=Tryz.sizeOf269
 v143:=Tryz.zeroValue269
 t145:=Tryz.underlying271
 a145:=Tryz.isAgg271
 z145:=Tryz.sizeOf271
 v145:=Tryz.zeroValue271
 t167:=Tryz.underlying236
 a167:=Tryz.isAgg236
 z167:=Tryz.sizeOf236
 v167:=Tryz.zeroValue236
 t168:=Tryz.underlying239
 a168:=Tryz.isAgg239
 z168:=Tryz.sizeOf239
 v168:=Tryz.zeroValue239
 t171:=Tryz.underlying250
 a171:=Tryz.isAgg250
 z171:=Tryz.sizeOf250
 v171:=Tryz.zeroValue250
 t173:=Tryz.underlying252
 a173:=Tryz.isAgg252
 z173:=Tryz.sizeOf252
 v173:=Tryz.zeroValue252
 t175:=Tryz.underlying258
 a175:=Tryz.isAgg258
 z175:=Tryz.sizeOf258
 v175:=Tryz.zeroValue258
 t210:=Tryz.underlying261
 a210:=Tryz.isAgg261
 z210:=Tryz.sizeOf261
 v210:=Tryz.zeroValue261
 t212:=Tryz.underlying266
 a212:=Tryz.isAgg266
 z212:=Tryz.sizeOf266
 v212:=Tryz.zeroValue266
 t213:=Tryz.underlying267
 a213:=Tryz.isAgg267
 z213:=Tryz.sizeOf267
 t232:=Tryz.underlying276
 a232:=Tryz.isAgg276
 z232:=Tryz.sizeOf276
 v232:=Tryz.zeroValue276
 t233:=Tryz.underlying277
 a233:=Tryz.isAgg277
 z233:=Tryz.sizeOf277
 v233:=Tryz.zeroValue277
 g15:=by kernel_rfl
 g16:=by kernel_rfl
 g17:=by kernel_rfl
 g18:=by kernel_rfl
 g19:=by kernel_rfl
 t80:=Tryz.underlying179
 a80:=Tryz.isAgg179
 z80:=Tryz.sizeOf179
 v80:=Tryz.zeroValue179
 i0:=by kernel_rfl
 i2:=by kernel_rfl
 i3:=by kernel_rfl
 i4:=by kernel_rfl
 i5:=by kernel_rfl
 i9:=by kernel_rfl
 i20:=by kernel_rfl
 i21:=by kernel_rfl
 i37:=by kernel_rfl
 i46:=by kernel_rfl
 i51:=by kernel_rfl
 i53:=by kernel_rfl
 i75:=by kernel_rfl
 i76:=by kernel_rfl
 i80:=by kernel_rfl
 i85:=by kernel_rfl
 i127:=by kernel_rfl
 i143:=by kernel_rfl
 i145:=by kernel_rfl
 i167:=by kernel_rfl
 i168:=by kernel_rfl
 i171:=by kernel_rfl
 i173:=by kernel_rfl
 i175:=by kernel_rfl
 i210:=by kernel_rfl
 i212:=by kernel_rfl
 i232:=by kernel_rfl
 i233:=by kernel_rfl
 m15:=by kernel_rfl
 m16:=by kernel_rfl
 m17:=by kernel_rfl
 m18:=by kernel_rfl
 m19:=by kernel_rfl
 c0:=by kernel_rfl
 c2:=by kernel_rfl
 c3:=by kernel_rfl
 c4:=by kernel_rfl
 c5:=by kernel_rfl
 c9:=by kernel_rfl
 c20:=by kernel_rfl
 c21:=by kernel_rfl
 c37:=by kernel_rfl
 c46:=by kernel_rfl
 c51:=by kernel_rfl
 c53:=by kernel_rfl
 c75:=by kernel_rfl
 c76:=by kernel_rfl
 c80:=by kernel_rfl
 c85:=by kernel_rfl
 c127:=by kernel_rfl
 c143:=by kernel_rfl
 c145:=by kernel_rfl
 c167:=by kernel_rfl
 c168:=by kernel_rfl
 c171:=by kernel_rfl
 c173:=by kernel_rfl
 c175:=by kernel_rfl
 c210:=by kernel_rfl
 c212:=by kernel_rfl
 c213:=by kernel_rfl
 c232:=by kernel_rfl
 c233:=by kernel_rfl }
open Go.RowKit in
theorem Tryz.strconv_Atoi_ok (s:ByteArray)(hmax:s.size≤9223372036854775806)(v:Int)(h:Lib.atoiAll s.data.toList = .ok v)(w:World) :
  Calls Tryz.prog 147 #[.string s] w λe w'=>e = .returned (.tuple #[.int .i64 v,.nilIface])∧(w'=w∨∃t,w'=Lib.bytesWorld w 5 t):=Any.strconv_Atoi_ok Tryz.laysC172 s hmax v h w
open Go.RowKit in
theorem Tryz.strconv_Atoi_range_var (s : ByteArray) (hlim : s.size ≤ 281474976710656) (h : Lib.atoiAll s.data.toList = .range) (tp : TypeId) (p : Value) (w : World) (hvar : w.var? Tryz.prog "strconv.ErrRange" = some #[.iface tp p]) :
  Calls Tryz.prog 147 #[.string s] w λe w'=>∃N,e = .returned (.tuple #[.int .i64 (Lib.atoiSat s.data.toList),.iface 239 (.pointer (some ⟨N,0,none⟩))])∧w.heap.size≤N∧w'.heap[N]? =some (.cells #[.string ⟨#[65,116,111,105]⟩,.string s,.iface tp p] 261 (0,0))∧Below w.heap.size w w':=Any.strconv_Atoi_range_var Tryz.laysC172 s hlim h tp p w hvar
end Go.Proofs
namespace Go.Proofs.YtmjlemhondjfhaaGreatDoor
open Go Go.RowKit
set_option linter.unusedVariables false
noncomputable def Lu:Nat:=Nat.max (Nat.max 3 2) 7+1
def Abr:List Int:=Lib.deBruijn64tab.map Int.ofNat
structure Se (w:World):Prop where
 pow : Lib.TabIs Tryz.prog w "internal/strconv.uint64pow10" .u64 Lib.pow10Tab
 tz : Lib.TabIs Tryz.prog w "math/bits.deBruijn64tab" .u8 Abr
 rng : ∃ tp p, w.var? Tryz.prog "strconv.ErrRange" = some #[.iface tp p]
theorem Aco : Tryz.prog.globalNamed "internal/strconv.uint64pow10" = some 3 := by kernel_rfl
theorem Acn : Tryz.prog.globalNamed "strconv.ErrRange" = some 2 := by kernel_rfl
theorem gTz : Tryz.prog.globalNamed "math/bits.deBruijn64tab" = some 7 := by kernel_rfl
theorem YK:7<Lu:=by decide +kernel
theorem Xj:3<Lu:=by decide +kernel
theorem Xi:2<Lu:=by decide +kernel
theorem Se.block (w w':World)(h:∀k,k<Lu→w'.heap[k]? =w.heap[k]?)(hT:Se w):Se w':=by
 obtain⟨tp,p,hr⟩:=hT.rng;have hp:=hT.pow;have hz:=hT.tz;unfold Lib.TabIs at hp hz;refine⟨?_,?_,tp,p,?_⟩
 ·unfold Lib.TabIs;unfold World.var? at hp ⊢;rw[Aco] at hp ⊢;simp only[Option.bind_some] at hp ⊢;rw[h _ Xj];exact hp
 ·unfold Lib.TabIs;unfold World.var? at hz ⊢;rw[gTz] at hz ⊢;simp only[Option.bind_some] at hz ⊢;rw[h _ YK];exact hz
 ·unfold World.var? at hr ⊢;rw[Acn] at hr ⊢;simp only[Option.bind_some] at hr ⊢;rw[h _ Xi];exact hr
def ZF (w:World)(M:List Nat):Prop:=Lu≤w.heap.size∧∀k∈M,Lu≤k
theorem Se.st {w0 w:World}{M:List Nat}{H:List Ent}(hT:Se w0)(hG:ZF w0 M)(hw:St w0 M H w):Se w:=
 Se.block w0 w (λk hk=>hw.old k (Nat.lt_of_lt_of_le hk hG.1) (λhm=>by have:=hG.2 k hm;omega)) hT
theorem ZF.nil {w:World}(h:Lu≤w.heap.size):ZF w []:=⟨h,by simp⟩
theorem ZF.st {w0 w:World}{M:List Nat}{H:List Ent}(hG:ZF w0 M)(hw:St w0 M H w):Lu≤w.heap.size:=Nat.le_trans hG.1 hw.size
structure Wt (w:World):Prop where
 tabs:Se w
 size:Lu≤w.heap.size
theorem Wt.st {w0 w:World}{M:List Nat}{H:List Ent}(hE:Wt w0)(hM:∀k∈M,Lu≤k)(hw:St w0 M H w):Wt w:=
 ⟨hE.tabs.st ⟨hE.size,hM⟩ hw,Nat.le_trans hE.size hw.size⟩
theorem Wt.st0 {w0 w:World}{H:List Ent}(hE:Wt w0)(hw:St w0 [] H w):Wt w:=hE.st (by simp) hw
theorem Vb (p:List UInt8):(B p).data.toList=p:=by simp[B]
theorem Acf (m:Int)(h0 : -9223372036854775808≤m)(h1:m≤9223372036854775807)(w:World)(hE:Wt w):Calls Tryz.prog 122 [.int .i64 m].toArray w (JS w (.string (B (Lib.itoa m)))):=
 (Tryz.strconv_Itoa m h0 h1 w hE.tabs.pow).mono λe w' ⟨he,k,os,hw⟩=>⟨he,by rw[hw];exact St.of_below (Lib.below_grow _ _ (Ae9 _) _ _)⟩
theorem Abh (p:List UInt8)(hp:p.length≤281474976710656)(v:Int)(h:Lib.atoiAll p = .ok v)(w:World):Calls Tryz.prog 147 [.string (B p)].toArray w (JS w (.tuple #[.int .i64 v,.nilIface])):=
 (Tryz.strconv_Atoi_ok (B p) (by rw[Ed];omega) v (by rw[Vb];exact h) w).mono λe w' ⟨he,hw⟩=>⟨he,by
  rcases hw with rfl | ⟨t,rfl⟩
  ·exact St.refl _ _
  ·exact St.of_below (Joins.below_bytesWorld _ _ _ _ (Ae9 _))⟩
theorem UX (p:List UInt8)(hp:p.length≤281474976710656)(h:Lib.atoiAll p = .range)(w:World)(hE:Wt w) :
  Calls Tryz.prog 147 [.string (B p)].toArray w (XO w [] (λv H=>∃m t b,v = .tuple #[.int .i64 m,.iface t b]∧H=[])):=by
 obtain⟨tp,q,hr⟩:=hE.tabs.rng;exact(Tryz.strconv_Atoi_range_var (B p) (by rw[Ed];omega) (by rw[Vb];exact h) tp q w hr).mono λe w' ⟨N,he,_,_,hb⟩=>⟨_,_,he,St.of_below hb,_,_,_,rfl,rfl⟩
open Go Go.ChangeShapes Go.WideShapes Go.ChangeAt Go.RowKit Go.WideElems
theorem own:ownKnob Tryz.prog.godebug=none:=by kernel_rfl
theorem AaD:laidOutB Tryz.prog=true:=by kernel_rfl
section
variable {H : Type} {enc : TypeId × Value → H} {P : Program}
theorem Lj (hl:laidOutB P=true){W W':World}(hb:Below W.heap.size W W'){sp:Nat→Bool}:∀{ts:List TypeId} {vs:List Value} {ds:List (DataW H)} {ps:List MemPlace},ts.all (λt=>P.readableRec t&&decide (t<P.types.size))=true→
  DataW.TrodAll enc P W 0 (λ_=>true) true ts vs ds ps→(∀p∈ps,p.block<W.heap.size)→(∀p∈ps,sp p.block=true)→DataW.TrodAll enc P W' 0 sp true ts vs ds ps
 | [],[],[],_,_,h,_,_=>h
 | [],_::_,_,_,_,h,_,_=>h.elim
 | [],[],_::_,_,_,h,_,_=>h.elim
 | _::_,[],_,_,_,h,_,_=>h.elim
 | _::_,_::_,[],_,_,h,_,_=>h.elim
 | t::ts,v::vs,d::ds,ps,ht,⟨p,q,h1,h2,e⟩,hlt,hs=>by
  simp only[List.all_cons,Ael,Aeh] at ht;refine⟨p,q,?_,Lj hl hb ht.2 h2 (λx hx=>hlt x (by rw[e];exact List.mem_append_right _ hx)) (λx hx=>hs x (by rw[e];exact List.mem_append_right _ hx)),e⟩;exact Trod_stays hl ht.1.1 ht.1.2 h1 (λx hx=>hb.same (hlt x (by rw[e];exact List.mem_append_left _ hx))) (λx hx=>hs x (by rw[e];exact List.mem_append_left _ hx))
theorem Xb (hl:laidOutB P=true){f:Func}{s:ChangeSpec}{apart fresh handsOn:Bool}{W W':World}{args:Array Value}{ds gs:List (DataW H)}{before:List MemPlace}{tb:TypeId}(hp:f.params.toList.all (λt=>P.readableRec t&&decide (t<P.types.size))=true)
  (hv:s.vars=[]) (hr:f.resultTypes = #[tb]) (hb4:P.underlying tb=some .bool) (hW:DataW.Whole enc P f.params.toList s.vars apart W args.toList ds gs before)
  (h1:(s.fn H (ds++gs)).results=[.lit (.bool true)]) (h2:(s.fn H (ds++gs)).args=ds) (h3:(s.fn H (ds++gs)).vars=[]) (hb:Below W.heap.size W W') :
  s.post enc P f apart fresh handsOn false W args (.bool true) W':=by
 have hlt:∀p∈before,p.block<W.heap.size:=λp hp=>hW.lt p hp;have hW':=hW;obtain⟨p,q,hA,hV,hbf,_,_⟩:=hW';have hq:q=[]:=by
  rw[hv] at hV
  cases gs with
  | nil=>exact hV
  | cons _ _=>exact hV.elim
 subst hq;rw[List.append_nil] at hbf;subst hbf;refine⟨ds,gs,before,[],before,[],hW,?_,?_,?_,World.keptBut_mono (λp hp=>⟨hp,.inr (.inl hp)⟩) (hb.frame (·∈before)),λh=>by cases h⟩
 ·rw[h1,hr];exact trodAll_mk1 (shut_bool hb4 true)
 ·rw[h2];exact Lj hl hb hp hA hlt (λx hx=>by simpa using hlt x hx)
 ·rw[hv,h3];exact rfl
end
theorem UU:Tryz.prog.underlying 4=some .bool:=Tryz.underlying4
def P6 : List (String × DataW Unit) := [("math/bits.deBruijn32tab", Rows.laid_math_bits_deBruijn32tab), ("math/bits.deBruijn64tab", Rows.laid_math_bits_deBruijn64tab), ("internal/strconv.uint64pow10", Rows.laid_internal_strconv_uint64pow10), ("unicode/utf8.acceptRanges", Rows.laid_unicode_utf8_acceptRanges), ("strconv.ErrRange", Rows.laid_strconv_ErrRange), ("strconv.ErrSyntax", Rows.laid_strconv_ErrSyntax), ("unicode/utf8.first", Rows.laid_unicode_utf8_first)]
theorem Zr:(Tryz.prog.globals[3]?).map (·.type)=some 266:=by kernel_rfl
theorem Zq:(Tryz.prog.globals[2]?).map (·.type)=some 198:=by kernel_rfl
theorem X9:Tryz.prog.cellsOf 231=1:=by kernel_rfl
theorem XA:Tryz.prog.cellsOf 266=20:=by kernel_rfl
theorem AaW:(Tryz.prog.globals[7]?).map (·.type)=some 277:=by kernel_rfl
theorem Z1:Tryz.prog.cellsOf 5=1:=by kernel_rfl
theorem TT:Tryz.prog.cellsOf 277=64:=by kernel_rfl
theorem XB:Tryz.prog.cellsOf 9=1:=by kernel_rfl
theorem Z2:Tryz.prog.cellsOf 271=1:=by kernel_rfl
theorem Wh : "*" ++ "errors.errorString" = "*errors.errorString" := by decide
theorem Acp (u : TypeId) (h : Tryz.prog.typeName? 3 u = some "*errors.errorString") : u = 269 :=
 typeName_ptr_named (nm := "errors.errorString") (by rw [Wh]; kernel_rfl) (by kernel_rfl) (by decide) u (by rw [Wh]; exact h)
theorem RT {W:World}{n:String}{g:Nat}{cs:Array Value}(hg:Tryz.prog.globalNamed n=some g)(h:W.var? Tryz.prog n=some cs):g<W.heap.size:=by
 unfold World.var? at h;rw[hg] at h;simp only[Option.bind_some] at h
 cases hh:W.heap[g]? with
 | none=>rw[hh] at h;cases h
 | some o=>exact(Array.getElem?_eq_some_iff.1 hh).1
theorem Acq {W:World}(h:laidMet Tryz.prog P6 W):Wt W:=by
 have h2:=laidMet.tail h;have hz : Lib.TabIs Tryz.prog W "math/bits.deBruijn64tab" .u8 Abr := Lib.tabIs_of_head gTz AaW Tryz.underlying277 Tryz.underlying5 Z1 TT h2
 have h3:=laidMet.tail h2;have h4:=laidMet.tail h3;have hp : Lib.TabIs Tryz.prog W "internal/strconv.uint64pow10" .u64 Lib.pow10Tab := Lib.tabIs_of_head Aco Zr Tryz.underlying266 Tryz.underlying231 X9 XA h3
 obtain⟨a,s,hv,_,_,_⟩:=laid_sentinel (laidMet.tail h4) Acn Zq Tryz.underlying198 Acp Tryz.underlying269 Tryz.underlying271 rfl rfl Tryz.underlying9 Z2 XB;refine⟨⟨hp,hz,_,_,hv⟩,?_⟩;have h1:=RT Aco hp;have h5:=RT Acn hv;exact Nat.max_lt.2 ⟨Nat.max_lt.2 ⟨h1,h5⟩,RT gTz hz⟩
noncomputable def KN (os:Os):World:=
 let w0:=World.holding Tryz.prog os ⟨#[],#[],[]⟩
 let put (h:Array Obj) (g:Nat) (cs:Array Value):Array Obj:=h.modify g fun
  | .cells _ t frozen=>.cells cs t frozen
  | o=>o
 let nums (d:DataW Unit):Array Value:=match d with
  | .agg ds=>(ds.map fun | .lit (.int k n)=>Value.int k n | _=>undef).toArray
  | _=>#[]
 let nums2 (d:DataW Unit):Array Value:=match d with
  | .agg ds=>(ds.flatMap fun
   | .agg es=>es.map fun | .lit (.int k n)=>Value.int k n | _=>undef
   | _=>[]).toArray
  | _=>#[]
 let n:=w0.heap.size
 let h1:=put w0.heap 6 (nums Rows.laid_math_bits_deBruijn32tab)
 let h2:=put h1 7 (nums Rows.laid_math_bits_deBruijn64tab)
 let h3:=put h2 3 (nums Rows.laid_internal_strconv_uint64pow10)
 let h4:=put h3 2 #[.iface 269 (.pointer (some ⟨n,0,none⟩))]
 let h5:=put h4 1 #[.iface 269 (.pointer (some ⟨n+1,0,none⟩))]
 let h5a:=put h5 5 (nums2 Rows.laid_unicode_utf8_acceptRanges)
 let h5b:=put h5a 4 (nums Rows.laid_unicode_utf8_first)
 let h6:=h5b.push (.cells #[.string ⟨#[118,97,108,117,101,32,111,117,116,32,111,102,32,114,97,110,103,101]⟩] 271 (0,0))
 let h7:=h6.push (.cells #[.string ⟨#[105,110,118,97,108,105,100,32,115,121,110,116,97,120]⟩] 271 (0,0))
 { w0 with heap:=h7 }
set_option maxRecDepth 100000 in
theorem YW (os:Os)(args:Array Value):laidMet Tryz.prog P6 ((KN os).forCall (λ_ _=>0) ⟨#[],args,[]⟩).memory:=
 laidMet_of_run' 8 (by kernel_rfl) (by kernel_rfl)
set_option linter.unusedSimpArgs false
set_option maxRecDepth 100000
theorem Vu (c:Int)(w:World):Calls Tryz.prog 135 [.int .i32 (c)].toArray w (JS w (.bool (Cm c))):=by
 refine G5 (n:=9) Tryz.func135 rfl Tryz.ntmps135 rfl (Al (Ak (AA (A4 rfl) rfl (Aq (A9 (Bm ?_))))));refine AC [(2,.bool (((decide ((97)≤(c)))&&(decide ((c)≤(122))))))] [] (φ:=True) ?_ (λhm1=>?_)
 ·refine Ak (AA (Aj rfl) rfl (AA (EL rfl rfl) rfl (AA (Aj rfl) rfl (Bd (decide ((97)≤(c))) (λh1=>?_) (λh1=>?_)))))
  ·have g1:=h1;try simp only[Aeh,Aei] at g1
   refine Bf rfl rfl h1 (AA (Aj rfl) rfl (Bf rfl rfl h1 (AA (JQ rfl rfl) rfl (AA (AF rfl h1 rfl) rfl (AA (A4 rfl) rfl (Aq ?_))))));exact A9 (BK trivial ⟨fb (by simp[h1]),trivial⟩ .slnil)
  ·have g1:=h1;try simp only[Aeh,Aei] at g1
   refine AJ rfl rfl h1 rfl (AJ rfl rfl h1 rfl (AA (A3 rfl h1 rfl) rfl (AA (A4 rfl) rfl (Aq ?_))));exact A9 (BK trivial ⟨fb (by simp[h1]),trivial⟩ .slnil)
 refine Ar (As (BH rfl rfl) ?_);exact Is (by first | rfl | simp[])
theorem Wi (c:Int)(w:World):Calls Tryz.prog 136 [.int .i32 (c)].toArray w (JS w (.bool (Da c))):=by
 refine G5 (n:=9) Tryz.func136 rfl Tryz.ntmps136 rfl (Al (Ak (AA (A4 rfl) rfl (Aq (A9 (Bm ?_))))));refine AC [(2,.bool (((decide ((48)≤(c)))&&(decide ((c)≤(57))))))] [] (φ:=True) ?_ (λhm3=>?_)
 ·refine Ak (AA (Aj rfl) rfl (AA (EL rfl rfl) rfl (AA (Aj rfl) rfl (Bd (decide ((48)≤(c))) (λh3=>?_) (λh3=>?_)))))
  ·have g3:=h3;try simp only[Aeh,Aei] at g3
   refine Bf rfl rfl h3 (AA (Aj rfl) rfl (Bf rfl rfl h3 (AA (JQ rfl rfl) rfl (AA (AF rfl h3 rfl) rfl (AA (A4 rfl) rfl (Aq ?_))))));exact A9 (BK trivial ⟨fb (by simp[h3]),trivial⟩ .slnil)
  ·have g3:=h3;try simp only[Aeh,Aei] at g3
   refine AJ rfl rfl h3 rfl (AJ rfl rfl h3 rfl (AA (A3 rfl h3 rfl) rfl (AA (A4 rfl) rfl (Aq ?_))));exact A9 (BK trivial ⟨fb (by simp[h3]),trivial⟩ .slnil)
 refine Ar (As (BH rfl rfl) ?_);exact Is (by first | rfl | simp[])
theorem YU (c:Int)(w:World):Calls Tryz.prog 159 [.int .i32 (c)].toArray w (JS w (.bool (G3 c))):=by
 refine G5 (n:=37) Tryz.func159 rfl Tryz.ntmps159 rfl (Al (Ak (AA (A4 rfl) rfl (Aq (A9 (Bm ?_))))));refine AC [(2,.bool (((Cm c)||((Da c)||(bif decide ((65)≤(c)) then((decide ((c)≤(90)))||((decide ((c)=(45)))||((decide ((c)=(95)))||((decide ((c)=(46)))||((decide ((c)=(58)))||(decide ((c)=(47)))))))) else((decide ((c)=(45)))||((decide ((c)=(95)))||((decide ((c)=(46)))||((decide ((c)=(58)))||(decide ((c)=(47))))))))))))] [] (φ:=True) ?_ (λhp=>?_)
 ·refine Ak (AA (Aj rfl) rfl (C5 Tryz.call135 rfl (λw hw=>Vu c w) rfl (AA (Aj rfl) rfl (Bd (Cm c) (λh5=>?_) (λh5=>?_)))))
  ·have g5:=h5;try simp only[Aeh,Aei] at g5
   refine AJ rfl rfl h5 rfl (AJ rfl rfl h5 rfl (AA (AF rfl h5 rfl) rfl (AA (Aj rfl) rfl (AJ rfl rfl rfl rfl (AJ rfl rfl rfl rfl (AJ rfl rfl rfl rfl (C4 rfl rfl rfl (C4 rfl rfl rfl (AJ rfl rfl rfl rfl (AA (AF rfl rfl rfl) rfl (AA (Aj rfl) rfl (AJ rfl rfl rfl rfl (AJ rfl rfl rfl rfl (AA (AF rfl rfl rfl) rfl (AA (Aj rfl) rfl (AJ rfl rfl rfl rfl (AJ rfl rfl rfl rfl (AA (AF rfl rfl rfl) rfl (AA (Aj rfl) rfl (AJ rfl rfl rfl rfl (AJ rfl rfl rfl rfl (AA (AF rfl rfl rfl) rfl (AA (Aj rfl) rfl ?_)))))))))))))))))))))));refine AJ rfl rfl rfl rfl (AJ rfl rfl rfl rfl (AA (AF rfl rfl rfl) rfl (AA (Aj rfl) rfl (AJ rfl rfl rfl rfl (AJ rfl rfl rfl rfl (AA (AF rfl rfl rfl) rfl (AA (A4 rfl) rfl (Aq ?_))))))));exact A9 (BK trivial ⟨fb (by simp[h5]),trivial⟩ .slnil)
  ·have g5:=h5;try simp only[Aeh,Aei] at g5
   refine Bf rfl rfl h5 (AA (Aj rfl) rfl (Bf rfl rfl h5 (C5 Tryz.call136 rfl (λw hw=>Wi c w) rfl (AA (A3 rfl h5 rfl) rfl (AA (Aj rfl) rfl (Bd (Da c) (λh6=>?_) (λh6=>?_)))))))
   ·have g6:=h6;try simp only[Aeh,Aei] at g6
    refine AJ rfl rfl h6 rfl (AJ rfl rfl h6 rfl (AJ rfl rfl h6 rfl (C4 rfl rfl rfl (C4 rfl rfl rfl (AJ rfl rfl h6 rfl (AA (AF rfl h6 rfl) rfl (AA (Aj rfl) rfl (AJ rfl rfl rfl rfl (AJ rfl rfl rfl rfl (AA (AF rfl rfl rfl) rfl (AA (Aj rfl) rfl (AJ rfl rfl rfl rfl (AJ rfl rfl rfl rfl (AA (AF rfl rfl rfl) rfl (AA (Aj rfl) rfl (AJ rfl rfl rfl rfl (AJ rfl rfl rfl rfl (AA (AF rfl rfl rfl) rfl (AA (Aj rfl) rfl (AJ rfl rfl rfl rfl (AJ rfl rfl rfl rfl (AA (AF rfl rfl rfl) rfl (AA (Aj rfl) rfl ?_)))))))))))))))))))))));refine AJ rfl rfl rfl rfl (AJ rfl rfl rfl rfl (AA (AF rfl rfl rfl) rfl (AA (A4 rfl) rfl (Aq ?_))));exact A9 (BK trivial ⟨fb (by simp[h5,h6]),trivial⟩ .slnil)
   ·have g6:=h6;try simp only[Aeh,Aei] at g6
    refine Bf rfl rfl h6 (AA (Aj rfl) rfl (Bf rfl rfl h6 (AA (EL rfl rfl) rfl (Bf rfl rfl h6 (AA (Aj rfl) rfl (Bd (decide ((65)≤(c))) (λh7=>?_) (λh7=>?_)))))))
    ·have g7:=h7;try simp only[Aeh,Aei] at g7
     refine Bf rfl rfl h7 (AA (Aj rfl) rfl (Bf rfl rfl h7 (AA (JQ rfl rfl) rfl (Bf rfl rfl h6 (AA (AF rfl h7 rfl) rfl (AA (A3 rfl h6 rfl) rfl (AA (Aj rfl) rfl (Bd (decide ((c)≤(90))) (λh8=>?_) (λh8=>?_)))))))))
     ·have g8:=h8;try simp only[Aeh,Aei] at g8
      refine AJ rfl rfl h8 rfl (AJ rfl rfl h8 rfl (AA (AF rfl h8 rfl) rfl (AA (Aj rfl) rfl (AJ rfl rfl rfl rfl (AJ rfl rfl rfl rfl (AA (AF rfl rfl rfl) rfl (AA (Aj rfl) rfl (AJ rfl rfl rfl rfl (AJ rfl rfl rfl rfl (AA (AF rfl rfl rfl) rfl (AA (Aj rfl) rfl (AJ rfl rfl rfl rfl (AJ rfl rfl rfl rfl (AA (AF rfl rfl rfl) rfl (AA (Aj rfl) rfl (AJ rfl rfl rfl rfl (AJ rfl rfl rfl rfl (AA (AF rfl rfl rfl) rfl (AA (A4 rfl) rfl (Aq ?_))))))))))))))))))));exact A9 (BK trivial ⟨fb (by simp[h5,h6,h7,h8]),trivial⟩ .slnil)
     ·have g8:=h8;try simp only[Aeh,Aei] at g8
      refine Bf rfl rfl h8 (AA (Aj rfl) rfl (Bf rfl rfl h8 (AA (Ce rfl rfl) rfl (AA (A3 rfl h8 rfl) rfl (AA (Aj rfl) rfl (Bd (decide ((c)=(45))) (λh9=>?_) (λh9=>?_)))))))
      ·have g9:=h9;try simp only[Aeh,Aei] at g9
       refine AJ rfl rfl h9 rfl (AJ rfl rfl h9 rfl (AA (AF rfl h9 rfl) rfl (AA (Aj rfl) rfl (AJ rfl rfl rfl rfl (AJ rfl rfl rfl rfl (AA (AF rfl rfl rfl) rfl (AA (Aj rfl) rfl (AJ rfl rfl rfl rfl (AJ rfl rfl rfl rfl (AA (AF rfl rfl rfl) rfl (AA (Aj rfl) rfl (AJ rfl rfl rfl rfl (AJ rfl rfl rfl rfl (AA (AF rfl rfl rfl) rfl (AA (A4 rfl) rfl (Aq ?_))))))))))))))));exact A9 (BK trivial ⟨fb (by simp[h5,h6,h7,h8,h9]),trivial⟩ .slnil)
      ·have g9:=h9;try simp only[Aeh,Aei] at g9
       refine Bf rfl rfl h9 (AA (Aj rfl) rfl (Bf rfl rfl h9 (AA (Ce rfl rfl) rfl (AA (A3 rfl h9 rfl) rfl (AA (Aj rfl) rfl (Bd (decide ((c)=(95))) (λhd=>?_) (λhd=>?_)))))))
       ·have hj:=hd;try simp only[Aeh,Aei] at hj
        refine AJ rfl rfl hd rfl (AJ rfl rfl hd rfl (AA (AF rfl hd rfl) rfl (AA (Aj rfl) rfl (AJ rfl rfl rfl rfl (AJ rfl rfl rfl rfl (AA (AF rfl rfl rfl) rfl (AA (Aj rfl) rfl (AJ rfl rfl rfl rfl (AJ rfl rfl rfl rfl (AA (AF rfl rfl rfl) rfl (AA (A4 rfl) rfl (Aq ?_))))))))))));exact A9 (BK trivial ⟨fb (by simp[h5,h6,h7,h8,h9,hd]),trivial⟩ .slnil)
       ·have hj:=hd;try simp only[Aeh,Aei] at hj
        refine Bf rfl rfl hd (AA (Aj rfl) rfl (Bf rfl rfl hd (AA (Ce rfl rfl) rfl (AA (A3 rfl hd rfl) rfl (AA (Aj rfl) rfl (Bd (decide ((c)=(46))) (λhf=>?_) (λhf=>?_)))))))
        ·have hk:=hf;try simp only[Aeh,Aei] at hk
         refine AJ rfl rfl hf rfl (AJ rfl rfl hf rfl (AA (AF rfl hf rfl) rfl (AA (Aj rfl) rfl (AJ rfl rfl rfl rfl (AJ rfl rfl rfl rfl (AA (AF rfl rfl rfl) rfl (AA (A4 rfl) rfl (Aq ?_))))))));exact A9 (BK trivial ⟨fb (by simp[h5,h6,h7,h8,h9,hd,hf]),trivial⟩ .slnil)
        ·have hk:=hf;try simp only[Aeh,Aei] at hk
         refine Bf rfl rfl hf (AA (Aj rfl) rfl (Bf rfl rfl hf (AA (Ce rfl rfl) rfl (AA (A3 rfl hf rfl) rfl (AA (Aj rfl) rfl (Bd (decide ((c)=(58))) (λhh=>?_) (λhh=>?_)))))))
         ·have hl:=hh;try simp only[Aeh,Aei] at hl
          refine AJ rfl rfl hh rfl (AJ rfl rfl hh rfl (AA (AF rfl hh rfl) rfl (AA (A4 rfl) rfl (Aq ?_))));exact A9 (BK trivial ⟨fb (by simp[h5,h6,h7,h8,h9,hd,hf,hh]),trivial⟩ .slnil)
         ·have hl:=hh;try simp only[Aeh,Aei] at hl
          refine Bf rfl rfl hh (AA (Aj rfl) rfl (Bf rfl rfl hh (AA (Ce rfl rfl) rfl (AA (A3 rfl hh rfl) rfl (AA (A4 rfl) rfl (Aq ?_))))));exact A9 (BK trivial ⟨fb (by simp[h5,h6,h7,h8,h9,hd,hf,hh]),trivial⟩ .slnil)
    ·have g7:=h7;try simp only[Aeh,Aei] at g7
     refine AJ rfl rfl h7 rfl (AJ rfl rfl h7 rfl (Bf rfl rfl h6 (AA (A3 rfl h7 rfl) rfl (AA (A3 rfl h6 rfl) rfl (AA (Aj rfl) rfl (Bf rfl rfl rfl (AA (Aj rfl) rfl (Bf rfl rfl rfl (AA (Ce rfl rfl) rfl (AA (A3 rfl rfl rfl) rfl (AA (Aj rfl) rfl (Bd (decide ((c)=(45))) (λhb=>?_) (λhb=>?_)))))))))))))
     ·have hm:=hb;try simp only[Aeh,Aei] at hm
      refine AJ rfl rfl hb rfl (AJ rfl rfl hb rfl (AA (AF rfl hb rfl) rfl (AA (Aj rfl) rfl (AJ rfl rfl rfl rfl (AJ rfl rfl rfl rfl (AA (AF rfl rfl rfl) rfl (AA (Aj rfl) rfl (AJ rfl rfl rfl rfl (AJ rfl rfl rfl rfl (AA (AF rfl rfl rfl) rfl (AA (Aj rfl) rfl (AJ rfl rfl rfl rfl (AJ rfl rfl rfl rfl (AA (AF rfl rfl rfl) rfl (AA (A4 rfl) rfl (Aq ?_))))))))))))))));exact A9 (BK trivial ⟨fb (by simp[h5,h6,h7,hb]),trivial⟩ .slnil)
     ·have hm:=hb;try simp only[Aeh,Aei] at hm
      refine Bf rfl rfl hb (AA (Aj rfl) rfl (Bf rfl rfl hb (AA (Ce rfl rfl) rfl (AA (A3 rfl hb rfl) rfl (AA (Aj rfl) rfl (Bd (decide ((c)=(95))) (λhe=>?_) (λhe=>?_)))))))
      ·have hn:=he;try simp only[Aeh,Aei] at hn
       refine AJ rfl rfl he rfl (AJ rfl rfl he rfl (AA (AF rfl he rfl) rfl (AA (Aj rfl) rfl (AJ rfl rfl rfl rfl (AJ rfl rfl rfl rfl (AA (AF rfl rfl rfl) rfl (AA (Aj rfl) rfl (AJ rfl rfl rfl rfl (AJ rfl rfl rfl rfl (AA (AF rfl rfl rfl) rfl (AA (A4 rfl) rfl (Aq ?_))))))))))));exact A9 (BK trivial ⟨fb (by simp[h5,h6,h7,hb,he]),trivial⟩ .slnil)
      ·have hn:=he;try simp only[Aeh,Aei] at hn
       refine Bf rfl rfl he (AA (Aj rfl) rfl (Bf rfl rfl he (AA (Ce rfl rfl) rfl (AA (A3 rfl he rfl) rfl (AA (Aj rfl) rfl (Bd (decide ((c)=(46))) (λhg=>?_) (λhg=>?_)))))))
       ·have g15:=hg;try simp only[Aeh,Aei] at g15
        refine AJ rfl rfl hg rfl (AJ rfl rfl hg rfl (AA (AF rfl hg rfl) rfl (AA (Aj rfl) rfl (AJ rfl rfl rfl rfl (AJ rfl rfl rfl rfl (AA (AF rfl rfl rfl) rfl (AA (A4 rfl) rfl (Aq ?_))))))));exact A9 (BK trivial ⟨fb (by simp[h5,h6,h7,hb,he,hg]),trivial⟩ .slnil)
       ·have g15:=hg;try simp only[Aeh,Aei] at g15
        refine Bf rfl rfl hg (AA (Aj rfl) rfl (Bf rfl rfl hg (AA (Ce rfl rfl) rfl (AA (A3 rfl hg rfl) rfl (AA (Aj rfl) rfl (Bd (decide ((c)=(58))) (λhi=>?_) (λhi=>?_)))))))
        ·have g16:=hi;try simp only[Aeh,Aei] at g16
         refine AJ rfl rfl hi rfl (AJ rfl rfl hi rfl (AA (AF rfl hi rfl) rfl (AA (A4 rfl) rfl (Aq ?_))));exact A9 (BK trivial ⟨fb (by simp[h5,h6,h7,hb,he,hg,hi]),trivial⟩ .slnil)
        ·have g16:=hi;try simp only[Aeh,Aei] at g16
         refine Bf rfl rfl hi (AA (Aj rfl) rfl (Bf rfl rfl hi (AA (Ce rfl rfl) rfl (AA (A3 rfl hi rfl) rfl (AA (A4 rfl) rfl (Aq ?_))))));exact A9 (BK trivial ⟨fb (by simp[h5,h6,h7,hb,he,hg,hi]),trivial⟩ .slnil)
 refine Ar (As (BH rfl rfl) ?_);exact Is (by simp only[G3];by_cases h:65≤c<;>simp[h,Bool.or_assoc])
theorem Vt (c:Int)(w:World):Calls Tryz.prog 148 [.int .u8 (c)].toArray w (JS w (.bool (Cm c))):=by
 refine G5 (n:=9) Tryz.func148 rfl Tryz.ntmps148 rfl (Al (Ak (AA (A4 rfl) rfl (Aq (A9 (Bm ?_))))));refine AC [(2,.bool (((decide ((97)≤(c)))&&(decide ((c)≤(122))))))] [] (φ:=True) ?_ (λhd=>?_)
 ·refine Ak (AA (Aj rfl) rfl (AA (EL rfl rfl) rfl (AA (Aj rfl) rfl (Bd (decide ((97)≤(c))) (λhb=>?_) (λhb=>?_)))))
  ·have g18:=hb;try simp only[Aeh,Aei] at g18
   refine Bf rfl rfl hb (AA (Aj rfl) rfl (Bf rfl rfl hb (AA (JQ rfl rfl) rfl (AA (AF rfl hb rfl) rfl (AA (A4 rfl) rfl (Aq ?_))))));exact A9 (BK trivial ⟨fb (by simp[hb]),trivial⟩ .slnil)
  ·have g18:=hb;try simp only[Aeh,Aei] at g18
   refine AJ rfl rfl hb rfl (AJ rfl rfl hb rfl (AA (A3 rfl hb rfl) rfl (AA (A4 rfl) rfl (Aq ?_))));exact A9 (BK trivial ⟨fb (by simp[hb]),trivial⟩ .slnil)
 refine Ar (As (BH rfl rfl) ?_);exact Is (by first | rfl | simp[])
theorem AaZ (c:Int)(w:World):Calls Tryz.prog 149 [.int .u8 (c)].toArray w (JS w (.bool (Da c))):=by
 refine G5 (n:=9) Tryz.func149 rfl Tryz.ntmps149 rfl (Al (Ak (AA (A4 rfl) rfl (Aq (A9 (Bm ?_))))));refine AC [(2,.bool (((decide ((48)≤(c)))&&(decide ((c)≤(57))))))] [] (φ:=True) ?_ (λhe=>?_)
 ·refine Ak (AA (Aj rfl) rfl (AA (EL rfl rfl) rfl (AA (Aj rfl) rfl (Bd (decide ((48)≤(c))) (λhb=>?_) (λhb=>?_)))))
  ·have hd:=hb;try simp only[Aeh,Aei] at hd
   refine Bf rfl rfl hb (AA (Aj rfl) rfl (Bf rfl rfl hb (AA (JQ rfl rfl) rfl (AA (AF rfl hb rfl) rfl (AA (A4 rfl) rfl (Aq ?_))))));exact A9 (BK trivial ⟨fb (by simp[hb]),trivial⟩ .slnil)
  ·have hd:=hb;try simp only[Aeh,Aei] at hd
   refine AJ rfl rfl hb rfl (AJ rfl rfl hb rfl (AA (A3 rfl hb rfl) rfl (AA (A4 rfl) rfl (Aq ?_))));exact A9 (BK trivial ⟨fb (by simp[hb]),trivial⟩ .slnil)
 refine Ar (As (BH rfl rfl) ?_);exact Is (by first | rfl | simp[])
theorem ZX (m:Int)(w:World):Calls Tryz.prog 142 [.int .i64 (m)].toArray w (JS w (.bool (OL m))):=by
 refine G5 (n:=9) Tryz.func142 rfl Tryz.ntmps142 rfl (Al (Ak (AA (A4 rfl) rfl (Aq (A9 (Bm ?_))))));refine AC [(2,.bool (((decide ((-1000000000000)≤(m)))&&(decide ((m)≤(1000000000000))))))] [] (φ:=True) ?_ (λhe=>?_)
 ·refine Ak (AA (Aj rfl) rfl (AA (JQ rfl rfl) rfl (AA (Aj rfl) rfl (Bd (decide ((-1000000000000)≤(m))) (λhb=>?_) (λhb=>?_)))))
  ·have hd:=hb;try simp only[Aeh,Aei] at hd
   refine Bf rfl rfl hb (AA (Aj rfl) rfl (Bf rfl rfl hb (AA (JQ rfl rfl) rfl (AA (AF rfl hb rfl) rfl (AA (A4 rfl) rfl (Aq ?_))))));exact A9 (BK trivial ⟨fb (by first | (simp only[hb,Aex,Aez,Ae7,Aey,Ae2,Ae1,Ae5,Ae3,Aeo,Aev,Aeq,Aem,AeJ,AeB,reduceIte,Aeu];done) | simp[hb]),trivial⟩ .slnil)
  ·have hd:=hb;try simp only[Aeh,Aei] at hd
   refine AJ rfl rfl hb rfl (AJ rfl rfl hb rfl (AA (A3 rfl hb rfl) rfl (AA (A4 rfl) rfl (Aq ?_))));exact A9 (BK trivial ⟨fb (by first | (simp only[hb,Aex,Aez,Ae7,Aey,Ae2,Ae1,Ae5,Ae3,Aeo,Aev,Aeq,Aem,AeJ,AeB,reduceIte,Aeu];done) | simp[hb]),trivial⟩ .slnil)
 refine Ar (As (BH rfl rfl) ?_);exact Is (by first | rfl | simp[])
theorem AbV (p:List UInt8)(w:World):Calls Tryz.prog 85 [.string (B p)].toArray w (JS w (.bool (CK p))):=by
 refine G5 (n:=39) Tryz.func85 rfl Tryz.ntmps85 rfl (Al (Ak (AA (A4 rfl) rfl (Aq (A9 (Bm ?_))))));refine Al (Al (Ak (AA (Aj rfl) rfl (Q8 DH rfl rfl (λhi=>?_)))));refine Aq (A9 (Bm ?_));refine AH (KC (S:=Nat) (λ(k:Nat)=>k≤p.length∧B1 DE 0 p=B1 DE k (p.drop k)) (λ(k:Nat)=>[(0,.string (B (p))),(2,.bool (false)),(6,.pointer (some ⟨hi,0,none⟩))]) (λ(k:Nat)=>[.blk hi (.stringIter (B p) (k))]) (λ(k:Nat)=>p.length-k) (0) ?_ ⟨rfl,rfl,rfl,trivial⟩ (.cons_cons _ (.slnil)) ?_)
 ·exact⟨AeO _,by simp⟩
 rintro k hi0;refine Al (Ak (S8 (i:=0) rfl rfl rfl (λhend=>?_) (λht he hr hs hlu39 hhu39 hwu39=>?_)))
 ·refine AA (A5 rfl rfl) rfl (Aq (A9 (Bm ?_)));refine Al (CS rfl rfl (BE (Ay (Ay (Bo (A9 (Bm ?_)))))));refine AC [(2,.bool (((decide ((1)≤((p.length:Int))))&&(decide (((p.length:Int))≤(24))))))] [.blk hi (.stringIter (B p) (k))] (φ:=True) ?_ (λhu=>?_)
  ·refine Ak (AA (Aj rfl) rfl (AA (BS DH rfl) rfl (AA (EL rfl rfl) rfl (AA (Aj rfl) rfl (Bd (decide ((1)≤((p.length:Int)))) (λhf=>?_) (λhf=>?_))))))
   ·have hk:=hf;try simp only[Aeh,Aei] at hk
    refine Bf rfl rfl hf (AA (Aj rfl) rfl (Bf rfl rfl hf (AA (BS DH rfl) rfl (Bf rfl rfl hf (AA (JQ rfl rfl) rfl (AA (AF rfl hf rfl) rfl (AA (A4 rfl) rfl (Aq ?_))))))));exact A9 (BK trivial ⟨fb (by first | (simp only[hf,Aex,Aez,Ae7,Aey,Ae2,Ae1,Ae5,Ae3,Aeo,Aev,Aeq,Aem,AeJ,AeB,reduceIte,Aeu];done) | simp[hf]),trivial⟩ (.cons_cons _ (.slnil)))
   ·have hk:=hf;try simp only[Aeh,Aei] at hk
    refine AJ rfl rfl hf rfl (AJ rfl rfl hf rfl (AJ rfl rfl hf rfl (AA (A3 rfl hf rfl) rfl (AA (A4 rfl) rfl (Aq ?_)))));exact A9 (BK trivial ⟨fb (by first | (simp only[hf,Aex,Aez,Ae7,Aey,Ae2,Ae1,Ae5,Ae3,Aeo,Aev,Aeq,Aem,AeJ,AeB,reduceIte,Aeu];done) | simp[hf]),trivial⟩ (.cons_cons _ (.slnil)))
  refine Ar (As (BH rfl rfl) ?_);exact Is (by rw[YH hi0 hend])
 ·refine AA (A5 rfl rfl) rfl (Aq (A9 (Bm ?_)));refine Al (CG rfl rfl (A0 (A9 (Bm ?_))));refine AH (Al (Ak (AA (A5 rfl rfl) rfl (AA (A5 rfl rfl) rfl (AA (A4 rfl) rfl (AA (A4 rfl) rfl (Aq (A9 (Bm ?_)))))))));refine AC [(0,.string (B (p))),(2,.bool (false)),(3,.int .i64 ((k:Int))),(4,.int .i32 ((he:Int))),(6,.pointer (some ⟨hi,0,none⟩)),(7,.tuple #[.bool (true),.int .i64 ((k:Int)),.int .i32 ((he:Int))]),(8,.bool (true)),(9,.int .i64 ((k:Int))),(10,.int .i32 ((he:Int))),(11,.int .i32 ((he:Int))),(12,.bool (Cm (he:Int))),(13,.bool (!(Cm (he:Int)))),(14,.bool (!(Cm (he:Int)))),(30,.bool (((!(Cm (he:Int)))&&((decide (((k:Int))=(0)))||((!(Da (he:Int)))&&((!(decide (((he:Int))=(45))))&&(!(decide (((he:Int))=(95))))))))))] [.blk hi (.stringIter (B p) (k+hr))] (φ:=True) ?_ (λhx=>?_)
  ·refine Ak (AA (Aj rfl) rfl (C5 Tryz.call135 rfl (λw hw=>Vu (he:Int) w) rfl (AA (Cn rfl) rfl (AA (Aj rfl) rfl (Bd (!(Cm (he:Int))) (λhd=>?_) (λhd=>?_))))))
   ·have hl:=hd;try simp only[Aeh,Aei] at hl
    refine Bf rfl rfl hd (AA (Aj rfl) rfl (Bf rfl rfl hd (AA (Ce rfl rfl) rfl (Bf rfl rfl hd (AA (Aj rfl) rfl (Bd (decide (((k:Int))=(0))) (λhb=>?_) (λhb=>?_)))))))
    ·have hm:=hb;try simp only[Aeh,Aei] at hm
     refine AJ rfl rfl hb rfl (AJ rfl rfl hb rfl (AJ rfl rfl hb rfl (AJ rfl rfl hb rfl (C4 rfl rfl rfl (C4 rfl rfl rfl (AJ rfl rfl hb rfl (AJ rfl rfl hb rfl (C4 rfl rfl rfl (C4 rfl rfl rfl (AJ rfl rfl hb rfl (Bf rfl rfl hd (AA (AF rfl hb rfl) rfl (AA (AF rfl hd rfl) rfl (Aq ?_))))))))))))));exact A9 (BK trivial ⟨rfl,rfl,rfl,rfl,rfl,rfl,rfl,rfl,rfl,rfl,rfl,rfl,rfl,fb (by first | (simp only[hd,hb,Aex,Aez,Ae7,Aey,Ae2,Ae1,Ae5,Ae3,Aeo,Aev,Aeq,Aem,AeJ,AeB,reduceIte,Aeu];done) | simp[hd,hb]),trivial⟩ (.cons_cons _ (.slnil)))
    ·have hm:=hb;try simp only[Aeh,Aei] at hm
     refine Bf rfl rfl hb (AA (Aj rfl) rfl (Bf rfl rfl hb (C5 Tryz.call136 rfl (λw hw=>Wi (he:Int) w) rfl (Bf rfl rfl hb (AA (Cn rfl) rfl (Bf rfl rfl hb (AA (Aj rfl) rfl (Bd (!(Da (he:Int))) (λhg=>?_) (λhg=>?_)))))))))
     ·have hn:=hg;try simp only[Aeh,Aei] at hn
      refine Bf rfl rfl hg (AA (Aj rfl) rfl (Bf rfl rfl hg (AA (CZ rfl rfl) rfl (Bf rfl rfl hb (AA (AF rfl hg rfl) rfl (Bf rfl rfl hb (AA (Aj rfl) rfl (Bd (!(decide (((he:Int))=(45)))) (λhh=>?_) (λhh=>?_)))))))))
      ·have hp:=hh;try simp only[Aeh,Aei] at hp
       refine Bf rfl rfl hh (AA (Aj rfl) rfl (Bf rfl rfl hh (AA (CZ rfl rfl) rfl (Bf rfl rfl hb (AA (AF rfl hh rfl) rfl (Bf rfl rfl hd (AA (A3 rfl hb rfl) rfl (AA (AF rfl hd rfl) rfl (Aq ?_)))))))));exact A9 (BK trivial ⟨rfl,rfl,rfl,rfl,rfl,rfl,rfl,rfl,rfl,rfl,rfl,rfl,rfl,fb (by first | (simp only[hd,hb,hg,hh,Aex,Aez,Ae7,Aey,Ae2,Ae1,Ae5,Ae3,Aeo,Aev,Aeq,Aem,AeJ,AeB,reduceIte,Aeu];done) | simp[hd,hb,hg,hh]),trivial⟩ (.cons_cons _ (.slnil)))
      ·have hp:=hh;try simp only[Aeh,Aei] at hp
       refine AJ rfl rfl hh rfl (AJ rfl rfl hh rfl (Bf rfl rfl hb (AA (A3 rfl hh rfl) rfl (Bf rfl rfl hd (AA (A3 rfl hb rfl) rfl (AA (AF rfl hd rfl) rfl (Aq ?_)))))));exact A9 (BK trivial ⟨rfl,rfl,rfl,rfl,rfl,rfl,rfl,rfl,rfl,rfl,rfl,rfl,rfl,fb (by first | (simp only[hd,hb,hg,hh,Aex,Aez,Ae7,Aey,Ae2,Ae1,Ae5,Ae3,Aeo,Aev,Aeq,Aem,AeJ,AeB,reduceIte,Aeu];done) | simp[hd,hb,hg,hh]),trivial⟩ (.cons_cons _ (.slnil)))
     ·have hn:=hg;try simp only[Aeh,Aei] at hn
      refine AJ rfl rfl hg rfl (AJ rfl rfl hg rfl (Bf rfl rfl hb (AA (A3 rfl hg rfl) rfl (Bf rfl rfl hb (AA (Aj rfl) rfl (AJ rfl rfl rfl rfl (AJ rfl rfl rfl rfl (Bf rfl rfl hb (AA (A3 rfl rfl rfl) rfl (Bf rfl rfl hd (AA (A3 rfl hb rfl) rfl (AA (AF rfl hd rfl) rfl (Aq ?_)))))))))))));exact A9 (BK trivial ⟨rfl,rfl,rfl,rfl,rfl,rfl,rfl,rfl,rfl,rfl,rfl,rfl,rfl,fb (by first | (simp only[hd,hb,hg,Aex,Aez,Ae7,Aey,Ae2,Ae1,Ae5,Ae3,Aeo,Aev,Aeq,Aem,AeJ,AeB,reduceIte,Aeu];done) | simp[hd,hb,hg]),trivial⟩ (.cons_cons _ (.slnil)))
   ·have hl:=hd;try simp only[Aeh,Aei] at hl
    refine AJ rfl rfl hd rfl (AJ rfl rfl hd rfl (AJ rfl rfl hd rfl (C4 rfl rfl rfl (C4 rfl rfl rfl (C4 rfl rfl rfl (C4 rfl rfl rfl (C4 rfl rfl rfl (C4 rfl rfl rfl (C4 rfl rfl rfl (C4 rfl rfl rfl (C4 rfl rfl rfl (C4 rfl rfl rfl (C4 rfl rfl rfl (AJ rfl rfl hd rfl (AA (A3 rfl hd rfl) rfl (Aq ?_))))))))))))))));exact A9 (BK trivial ⟨rfl,rfl,rfl,rfl,rfl,rfl,rfl,rfl,rfl,rfl,rfl,rfl,rfl,fb (by first | (simp only[hd,Aex,Aez,Ae7,Aey,Ae2,Ae1,Ae5,Ae3,Aeo,Aev,Aeq,Aem,AeJ,AeB,reduceIte,Aeu];done) | simp[hd]),trivial⟩ (.cons_cons _ (.slnil)))
  refine Eu (b:=((!(Cm (he:Int)))&&((decide (((k:Int))=(0)))||((!(Da (he:Int)))&&((!(decide (((he:Int))=(45))))&&(!(decide (((he:Int))=(95))))))))) rfl (λhj=>?_) (λhj=>?_)
  ·have hq:=hj;try simp only[Aeh,Aei] at hq
   refine Al (Ak (AA (A4 rfl) rfl (Aq (A9 (Bm ?_)))));refine Ar (A8 (Ac (A8 (Ac (As (BH rfl rfl) ?_)))));exact Is (by rw[Aa2 hi0 hs hlu39 hhu39 hj])
  ·have hq:=hj;try simp only[Aeh,Aei] at hq
   refine A0 (AN (A9 (AZ (k+hr) ?_ ⟨rfl,rfl,rfl,trivial⟩ (.cons_cons _ (.slnil)))));exact Xh hi0 hs hlu39 hhu39 hj
theorem AdM (p:List UInt8)(w:World):Calls Tryz.prog 115 [.string (B p)].toArray w (JS w (.bool (LV p))):=by
 refine G5 (n:=21) Tryz.func115 rfl Tryz.ntmps115 rfl (Al (Ak (AA (A4 rfl) rfl (Aq (A9 (Bm ?_))))));refine Al (Al (Ak (AA (Aj rfl) rfl (Q8 DH rfl rfl (λhe=>?_)))));refine Aq (A9 (Bm ?_));refine AH (KC (S:=Nat) (λ(k:Nat)=>k≤p.length∧B1 Oo 0 p=B1 Oo k (p.drop k)) (λ(k:Nat)=>[(0,.string (B (p))),(2,.bool (false)),(6,.pointer (some ⟨he,0,none⟩))]) (λ(k:Nat)=>[.blk he (.stringIter (B p) (k))]) (λ(k:Nat)=>p.length-k) (0) ?_ ⟨rfl,rfl,rfl,trivial⟩ (.cons_cons _ (.slnil)) ?_)
 ·exact⟨AeO _,by simp⟩
 rintro k hi0;refine Al (Ak (S8 (i:=0) rfl rfl rfl (λhend=>?_) (λhk hh hj hi hlu51 hhu51 hwu51=>?_)))
 ·refine AA (A5 rfl rfl) rfl (Aq (A9 (Bm ?_)));refine Al (CS rfl rfl (BE (Ay (Ay (Bo (A9 (Bm ?_)))))));refine AC [(2,.bool (((decide ((1)≤((p.length:Int))))&&(decide (((p.length:Int))≤(64))))))] [.blk he (.stringIter (B p) (k))] (φ:=True) ?_ (λhl=>?_)
  ·refine Ak (AA (Aj rfl) rfl (AA (BS DH rfl) rfl (AA (EL rfl rfl) rfl (AA (Aj rfl) rfl (Bd (decide ((1)≤((p.length:Int)))) (λhb=>?_) (λhb=>?_))))))
   ·have hf:=hb;try simp only[Aeh,Aei] at hf
    refine Bf rfl rfl hb (AA (Aj rfl) rfl (Bf rfl rfl hb (AA (BS DH rfl) rfl (Bf rfl rfl hb (AA (JQ rfl rfl) rfl (AA (AF rfl hb rfl) rfl (AA (A4 rfl) rfl (Aq ?_))))))));exact A9 (BK trivial ⟨fb (by first | (simp only[hb,Aex,Aez,Ae7,Aey,Ae2,Ae1,Ae5,Ae3,Aeo,Aev,Aeq,Aem,AeJ,AeB,reduceIte,Aeu];done) | simp[hb]),trivial⟩ (.cons_cons _ (.slnil)))
   ·have hf:=hb;try simp only[Aeh,Aei] at hf
    refine AJ rfl rfl hb rfl (AJ rfl rfl hb rfl (AJ rfl rfl hb rfl (AA (A3 rfl hb rfl) rfl (AA (A4 rfl) rfl (Aq ?_)))));exact A9 (BK trivial ⟨fb (by first | (simp only[hb,Aex,Aez,Ae7,Aey,Ae2,Ae1,Ae5,Ae3,Aeo,Aev,Aeq,Aem,AeJ,AeB,reduceIte,Aeu];done) | simp[hb]),trivial⟩ (.cons_cons _ (.slnil)))
  refine Ar (As (BH rfl rfl) ?_);exact Is (by rw[Aci hi0 hend])
 ·refine AA (A5 rfl rfl) rfl (Aq (A9 (Bm ?_)));refine Al (CG rfl rfl (A0 (A9 (Bm ?_))));refine AH (Al (Ak (AA (A5 rfl rfl) rfl (AA (A4 rfl) rfl (Aq (A9 (Bm ?_)))))));refine Al (Ak (AA (Aj rfl) rfl (C5 Tryz.call159 rfl (λw hw=>YU (hh:Int) w) rfl (AA (Cn rfl) rfl (Aq (A9 (Bm ?_)))))));refine Eu (b:=!(G3 (hh:Int))) rfl (λhd=>?_) (λhd=>?_)
  ·have hg:=hd;try simp only[Aeh,Aei] at hg
   refine Al (Ak (AA (A4 rfl) rfl (Aq (A9 (Bm ?_)))));refine Ar (A8 (Ac (A8 (Ac (As (BH rfl rfl) ?_)))));exact Is (by rw[Adg hi0 hi hlu51 hhu51 hd])
  ·have hg:=hd;try simp only[Aeh,Aei] at hg
   refine A0 (AN (A9 (AZ (k+hj) ?_ ⟨rfl,rfl,rfl,trivial⟩ (.cons_cons _ (.slnil)))));exact AaQ hi0 hi hlu51 hhu51 hd
open Go
def Kv (p q:List UInt8):Bool:=decide (q.length≤p.length)&&decide (p.take q.length=q)
def IG (p q:List UInt8):Bool:=decide (q.length≤p.length)&&decide (p.drop (p.length-q.length)=q)
def Ox (p q:List UInt8):List UInt8:=if IG p q=true then p.take (p.length-q.length) else p
theorem UJ {p q:List UInt8}(h:IG p q=true):q.length≤p.length:=by
 simp[IG] at h;exact h.1
theorem RM (p:List UInt8)(c:UInt8) : -1≤Lib.indexByte p c∧Lib.indexByte p c<p.length:=by
 induction p with
 | nil=>simp[Lib.indexByte]
 | cons b r ih=>
  unfold Lib.indexByte;simp only[Ae0]
  split
  ·omega
  ·split<;>omega
def X5 (p:List UInt8)(c:UInt8):List UInt8:=if 0≤Lib.indexByte p c then p.take (Lib.indexByte p c).toNat else p
def TP (p:List UInt8)(c:UInt8):List UInt8:=if 0≤Lib.indexByte p c then p.drop (Lib.indexByte p c+1).toNat else[]
def Acu (p:List UInt8)(c:UInt8):Bool:=decide (0≤Lib.indexByte p c)
theorem T3 (p:List UInt8)(m:Int)(w:World):Calls Tryz.prog 207 [.string (B (p)),.int .u8 (m)].toArray w (JS w (.int .i64 (Lib.indexByte p (Int.toNat m).toUInt8))):=by
 refine G5 (n:=8) Tryz.func207 rfl Tryz.ntmps207 rfl (Al (Ak (AA (A4 rfl) rfl (Aq (A9 (Bm ?_))))));refine Al (Ak (AA (Aj rfl) rfl (AA (Aj rfl) rfl (AA (v:=.int .i64 (Lib.indexByte p (Int.toNat (m)).toUInt8)) (AcU rfl (Qt Tryz.func231 (by kernel_rfl) (by kernel_rfl) (by kernel_rfl) (by kernel_rfl) p (m))) rfl (AA (A4 rfl) rfl (Aq (A9 (Bm ?_))))))));refine Ar (As (BH rfl rfl) ?_);exact Is (by first | rfl | simp[])
def Aaf (p:List UInt8):Bool:=decide ((0:Int)<p.length)&&decide (Cw p 0=45)
def PN (p:List UInt8):List UInt8:=if Aaf p=true then p.drop 1 else p
theorem Zy (p:List UInt8):(PN p).length≤p.length:=by unfold PN;split<;>simp
def G7 (_:Nat)(u:UInt8):Bool:=!(decide ((u.toNat:Int)<48)||decide (57<(u.toNat:Int)))
def RU (p:List UInt8):Bool:=!(decide (PN p=[])||(decide (Cw (PN p) 0=48)&&!decide (p=[48])))&&B1 G7 0 (PN p)
theorem I1 {p:List UInt8}(h : ¬ p=[]):(0:Int)<p.length:=by
 cases p with
 | nil=>exact absurd rfl h
 | cons a r=>simp
theorem KU {p:List UInt8}{k:Nat}(h:(k:Int)<p.length):∃u,p[k]? =some u:=⟨p[k]'(by omega),Aep (by omega)⟩
theorem Zz {p:List UInt8}{k:Nat}(hi:k≤p.length∧B1 G7 0 p=B1 G7 k (p.drop k))(h:(k:Int)<p.length)(ht:(decide (Cw p k<48)||decide (57<Cw p k))=false) :
  (k+1≤p.length∧B1 G7 0 p=B1 G7 (k+1) (p.drop (k+1)))∧p.length-(k+1)<p.length-k:=by
 obtain⟨u,hu⟩:=KU h;rw[RZ hu] at ht;exact Pi hi hu (by simp only[G7,ht];rfl)
theorem Acs {p:List UInt8}{k:Nat}(hi:k≤p.length∧B1 G7 0 p=B1 G7 k (p.drop k))(h:(k:Int)<p.length)(ht:(decide (Cw p k<48)||decide (57<Cw p k))=true):B1 G7 0 p=false:=by
 obtain⟨u,hu⟩:=KU h;rw[RZ hu] at ht;exact Uz hi hu (by simp only[G7,ht];rfl)
theorem Aba {p:List UInt8}{k:Nat}(hi:k≤p.length∧B1 G7 0 p=B1 G7 k (p.drop k))(h : ¬ (k:Int)<p.length):B1 G7 0 p=true:=R1 hi (by omega)
def Ep (p:List UInt8):Int:=if RU p=true then(match Lib.atoiAll p with | .ok v=>if OL v=true then 0 else 2 | _=>2) else 1
def C7 (p:List UInt8):Int:=if RU p=true then(match Lib.atoiAll p with | .ok v=>if OL v=true then v else 0 | _=>0) else 0
theorem PO:∀(l:List UInt8) (i acc:Nat),B1 G7 i l=true→(∃u,Lib.parseUint10 acc l = .ok u)∨Lib.parseUint10 acc l = .range
 | [],_,acc,_=>.inl ⟨acc,rfl⟩
 | c::r,i,acc,h=>by
  simp only[B1,Ael] at h;have hc:48≤c.toNat∧c.toNat≤57:=by have:=h.1;simp[G7] at this;omega
  unfold Lib.parseUint10;rw[AeW hc]
  split
  ·exact .inr rfl
  ·split
   ·exact .inr rfl
   ·exact PO r _ _ h.2
theorem VL {l:List UInt8}(hne:l≠[])(h:B1 G7 0 l=true):(∃u,Lib.parseMag l = .ok u)∨Lib.parseMag l = .range:=by
 unfold Lib.parseMag;rw[AeR hne];exact PO l 0 0 h
theorem Rv {e:Lib.NumEnd Nat}(h:(∃u,e = .ok u)∨e = .range):(∃v,Lib.signless e = .ok v)∨Lib.signless e = .range:=by
 rcases h with⟨u,rfl⟩ | rfl
 ·unfold Lib.signless
  by_cases h:9223372036854775808≤u
  ·exact .inr (by simp[h])
  ·exact .inl ⟨_,by simp[h];rfl⟩
 ·exact .inr rfl
theorem Uv {e:Lib.NumEnd Nat}(h:(∃u,e = .ok u)∨e = .range):(∃v,Lib.signed e = .ok v)∨Lib.signed e = .range:=by
 rcases h with⟨u,rfl⟩ | rfl
 ·unfold Lib.signed
  by_cases h:9223372036854775808<u
  ·exact .inr (by simp[h])
  ·exact .inl ⟨_,by simp[h];rfl⟩
 ·exact .inr rfl
theorem ZB {p:List UInt8}(h:RU p=true):(∃v,Lib.atoiAll p = .ok v∧-9223372036854775808≤v∧v≤9223372036854775807)∨Lib.atoiAll p = .range:=by
 have key:(∃v,Lib.atoiAll p = .ok v)∨Lib.atoiAll p = .range:=by
  simp only[RU,Ael,AeF,AeN,Aei] at h;obtain⟨⟨hne,_⟩,hall⟩:=h
  cases p with
  | nil=>simp[PN,Aaf] at hne
  | cons c r=>
   by_cases hc:c=45
   ·subst hc;have hd:PN (45::r)=r:=by simp[PN,Aaf,Cw]
    rw[hd] at hne hall;rw[Lib.atoiAll_minus];exact Uv (VL hne hall)
   ·have hb : ¬ Cw (c::r) 0=45:=by
     simp only[Cw,Int.toNat_zero,List.getElem?_cons_zero,AeE];intro e;exact hc (UInt8.toNat_inj.1 (by simpa using(by omega:c.toNat=45)))
    have hd:PN (c::r)=c::r:=by simp[PN,Aaf,hb]
    rw[hd] at hne hall;have he:48≤c.toNat:=by
     simp only[B1,Ael] at hall;have:=hall.1;simp[G7] at this;omega
    rw[Lib.atoiAll_plain c r (by omega) (by omega)];exact Rv (VL hne hall)
 rcases key with⟨v,hv⟩ | h
 ·exact .inl ⟨v,hv,Lib.atoiAll_bounds hv⟩
 ·exact .inr h
def Ps (s:List UInt8):Bool:=LV s||(decide (s=[42])||(LV (Ox s [42])&&(IG s [42]&&decide ((s.length:Int)≤64))))
def U9 (p s:List UInt8):Bool:=Ps p&&(bif IG p [42] then Kv s (Ox p [42]) else decide (p=s))
theorem X4 (p:List UInt8)(hp:p.length≤281474976710656)(w:World):Calls Tryz.prog 146 [.string (B (p))].toArray w (JS w (.bool (RU p))):=by
 refine G5 (n:=43) Tryz.func146 rfl Tryz.ntmps146 rfl (Al (Ak (AA (A4 rfl) rfl (Aq (A9 (Bm ?_))))));refine Al (Ak (AA (Aj rfl) rfl (AA (A4 rfl) rfl (Aq (A9 (Bm ?_))))));refine AC [(0,.string (B (p))),(2,.bool (false)),(3,.string (B ((if ((decide ((0)<((p.length:Int))))&&(decide ((Cw p 0)=(45))))=true then List.drop (Int.toNat (1)) p else p))))] [] (φ:=True) ?_ (λh3=>?_)
 ·refine AC [(0,.string (B (p))),(2,.bool (false)),(3,.string (B (p))),(13,.bool (((decide ((0)<((p.length:Int))))&&(decide ((Cw p 0)=(45))))))] [] (φ:=True) ?_ (λh4=>?_)
  ·refine Ak (AA (Aj rfl) rfl (AA (BS DH rfl) rfl (AA (Gy rfl rfl) rfl (AA (Aj rfl) rfl (Bd (decide ((0)<((p.length:Int)))) (λhe=>?_) (λhe=>?_))))))
   ·have hl:=he;try simp only[Aeh,Aei] at hl
    have hm:=he;try simp at hm
    refine Bf rfl rfl he (AA (Aj rfl) rfl (Bf rfl rfl he (AA (BZ DH rfl rfl (by first | omega | exact I1 (by assumption)) (by first | omega | exact I1 (by assumption))) rfl (Bf rfl rfl he (AA (Ce rfl rfl) rfl (AA (AF rfl he rfl) rfl (Aq ?_)))))));exact A9 (BK trivial ⟨rfl,rfl,rfl,fb (by first | (simp only[he,Aex,Aez,Ae7,Aey,Ae2,Ae1,Ae5,Ae3,Aeo,Aev,Aeq,Aem,AeJ,AeB,reduceIte,Aeu];done) | simp[he]),trivial⟩ .slnil)
   ·have hl:=he;try simp only[Aeh,Aei] at hl
    have hm:=he;try simp at hm
    refine AJ rfl rfl he rfl (AJ rfl rfl he rfl (AJ rfl rfl he rfl (AA (A3 rfl he rfl) rfl (Aq ?_))));exact A9 (BK trivial ⟨rfl,rfl,rfl,fb (by first | (simp only[he,Aex,Aez,Ae7,Aey,Ae2,Ae1,Ae5,Ae3,Aeo,Aev,Aeq,Aem,AeJ,AeB,reduceIte,Aeu];done) | simp[he]),trivial⟩ .slnil)
  refine Eu (b:=((decide ((0)<((p.length:Int))))&&(decide ((Cw p 0)=(45))))) rfl (λhh=>?_) (λhh=>?_)
  ·have hn:=hh;try simp only[Aeh,Aei] at hn
   have hq:=hh;try simp at hq
   refine Ak (AA (Aj rfl) rfl (AA (Gg DH rfl rfl (by first | omega | (simp;omega)) (by first | omega | (simp;omega))) rfl (AA (A4 rfl) rfl (Aq ?_))));exact A9 (BK trivial ⟨rfl,rfl,fs (by first | (simp only[hh,Aex,Aez,Ae7,Aey,Ae2,Ae1,Ae5,Ae3,Aeo,Aev,Aeq,Aem,AeJ,AeB,reduceIte,Aeu];done) | simp[hh]),trivial⟩ .slnil)
  ·have hn:=hh;try simp only[Aeh,Aei] at hn
   have hq:=hh;try simp at hq
   refine A0 ?_;exact A9 (BK trivial ⟨rfl,rfl,fs (by first | (simp only[hh,Aex,Aez,Ae7,Aey,Ae2,Ae1,Ae5,Ae3,Aeo,Aev,Aeq,Aem,AeJ,AeB,reduceIte,Aeu];done) | simp[hh]),trivial⟩ .slnil)
 have hdg:PN p=(if ((decide ((0)<((p.length:Int))))&&(decide ((Cw p 0)=(45))))=true then List.drop (Int.toNat (1)) p else p):=rfl;have hdl:=Zy p;rw[hdg] at hdl;generalize(if ((decide ((0)<((p.length:Int))))&&(decide ((Cw p 0)=(45))))=true then List.drop (Int.toNat (1)) p else p)=dg at hdg hdl ⊢;refine Al (AC [(2,.bool (false)),(3,.string (B (dg))),(26,.bool (((decide ((dg)=(([]:List UInt8))))||((decide ((Cw dg 0)=(48)))&&(!(decide ((p)=(([48]:List UInt8)))))))))] [] (φ:=True) ?_ (λh5=>?_))
 ·refine Ak (AA (Aj rfl) rfl (AA (C2 rfl rfl) rfl (AA (Aj rfl) rfl (Bd (decide ((dg)=(([]:List UInt8)))) (λhb=>?_) (λhb=>?_)))))
  ·have hr:=hb;try simp only[Aeh,Aei] at hr
   have hs:=hb;try simp at hs
   refine AJ rfl rfl hb rfl (AJ rfl rfl hb rfl (AJ rfl rfl hb rfl (AJ rfl rfl hb rfl (C4 rfl rfl rfl (C4 rfl rfl rfl (AJ rfl rfl hb rfl (AA (AF rfl hb rfl) rfl (Aq ?_))))))));exact A9 (BK trivial ⟨rfl,rfl,fb (by first | (simp only[hb,Aex,Aez,Ae7,Aey,Ae2,Ae1,Ae5,Ae3,Aeo,Aev,Aeq,Aem,AeJ,AeB,reduceIte,Aeu];done) | simp[hb]),trivial⟩ .slnil)
  ·have hr:=hb;try simp only[Aeh,Aei] at hr
   have hs:=hb;try simp at hs
   refine Bf rfl rfl hb (AA (Aj rfl) rfl (Bf rfl rfl hb (AA (BZ DH rfl rfl (by first | omega | exact I1 (by assumption)) (by first | omega | exact I1 (by assumption))) rfl (Bf rfl rfl hb (AA (Ce rfl rfl) rfl (Bf rfl rfl hb (AA (Aj rfl) rfl (Bd (decide ((Cw dg 0)=(48))) (λhf=>?_) (λhf=>?_)))))))))
   ·have ht:=hf;try simp only[Aeh,Aei] at ht
    have hu:=hf;try simp at hu
    refine Bf rfl rfl hf (AA (Aj rfl) rfl (Bf rfl rfl hf (AA (NQ rfl rfl) rfl (Bf rfl rfl hb (AA (AF rfl hf rfl) rfl (AA (A3 rfl hb rfl) rfl (Aq ?_)))))));exact A9 (BK trivial ⟨rfl,rfl,fb (by first | (simp only[hb,hf,Aex,Aez,Ae7,Aey,Ae2,Ae1,Ae5,Ae3,Aeo,Aev,Aeq,Aem,AeJ,AeB,reduceIte,Aeu];done) | simp[hb,hf]),trivial⟩ .slnil)
   ·have ht:=hf;try simp only[Aeh,Aei] at ht
    have hu:=hf;try simp at hu
    refine AJ rfl rfl hf rfl (AJ rfl rfl hf rfl (Bf rfl rfl hb (AA (A3 rfl hf rfl) rfl (AA (A3 rfl hb rfl) rfl (Aq ?_)))));exact A9 (BK trivial ⟨rfl,rfl,fb (by first | (simp only[hb,hf,Aex,Aez,Ae7,Aey,Ae2,Ae1,Ae5,Ae3,Aeo,Aev,Aeq,Aem,AeJ,AeB,reduceIte,Aeu];done) | simp[hb,hf]),trivial⟩ .slnil)
 refine Eu (b:=((decide ((dg)=(([]:List UInt8))))||((decide ((Cw dg 0)=(48)))&&(!(decide ((p)=(([48]:List UInt8)))))))) rfl (λhg=>?_) (λhg=>?_)
 ·have hw:=hg;try simp only[Aeh,Aei] at hw
  have hx:=hg;try simp at hx
  refine Al (Ak (AA (A4 rfl) rfl (Aq (A9 (Bm ?_)))));refine Ar (Ac (As (BH rfl rfl) ?_));exact Is (by simp only[RU,hdg,hg];rfl)
 ·have hw:=hg;try simp only[Aeh,Aei] at hw
  have hx:=hg;try simp at hx
  refine A0 (A9 (Bm ?_));refine Al (Al (Ak (AA (Aj rfl) rfl (AA (BS DH rfl) rfl (AA (Aj rfl) rfl (Aq (A9 (Bm ?_))))))));refine AH (KC (S:=Nat) (λ(k:Nat)=>k≤dg.length∧B1 G7 0 dg=B1 G7 k (dg.drop k)) (λ(k:Nat)=>[(29,.int .i64 ((k:Int))),(3,.string (B (dg))),(28,.int .i64 ((dg.length:Int)))]) (λ(k:Nat)=>[]) (λ(k:Nat)=>dg.length-k) (0) ?_ ⟨fi (by first | rfl | (simp;done) | omega | (simp;omega)),rfl,rfl,trivial⟩ .slnil ?_)
  ·exact⟨AeO _,by simp⟩
  rintro k hi0;refine Al (Ak (AA (CP rfl rfl) rfl (Aq (A9 (Bm ?_)))));refine Al (Eu (b:=decide (((k:Int))<((dg.length:Int)))) rfl (λhi=>?_) (λhi=>?_))
  ·have hk:=hi;try simp only[Aeh,Aei] at hk
   have hy:=hi;try simp at hy
   refine A0 (A9 (Bm ?_));refine Al (AH (Al (Ak (AA (Aj rfl) rfl (AA (A4 rfl) rfl (Aq (A9 (Bm ?_))))))));refine AC [(3,.string (B (dg))),(4,.int .i64 ((k:Int))),(28,.int .i64 ((dg.length:Int))),(29,.int .i64 ((k:Int))),(30,.bool (decide (((k:Int))<((dg.length:Int))))),(31,.int .i64 ((k:Int))),(32,.string (B (dg))),(33,.int .i64 ((k:Int))),(34,.int .u8 (Cw dg (k:Int))),(35,.bool (decide ((Cw dg (k:Int))<(48)))),(36,.bool (decide ((Cw dg (k:Int))<(48)))),(41,.bool (((decide ((Cw dg (k:Int))<(48)))||(decide ((57)<(Cw dg (k:Int)))))))] [] (φ:=True) ?_ (λh6=>?_)
   ·refine Ak (AA (Aj rfl) rfl (AA (Aj rfl) rfl (AA (BZ DH rfl rfl (by first | omega | exact I1 (by assumption)) (by first | omega | exact I1 (by assumption))) rfl (AA (CP rfl rfl) rfl (AA (Aj rfl) rfl (Bd (decide ((Cw dg (k:Int))<(48))) (λhd=>?_) (λhd=>?_)))))))
    ·have hz:=hd;try simp only[Aeh,Aei] at hz
     have h0:=hd;try simp at h0
     refine AJ rfl rfl hd rfl (AJ rfl rfl hd rfl (AJ rfl rfl hd rfl (AJ rfl rfl hd rfl (AA (AF rfl hd rfl) rfl (Aq ?_)))));exact A9 (BK trivial ⟨rfl,rfl,rfl,rfl,rfl,rfl,rfl,rfl,rfl,rfl,rfl,fb (by first | (simp only[hg,hi,hd,Aex,Aez,Ae7,Aey,Ae2,Ae1,Ae5,Ae3,Aeo,Aev,Aeq,Aem,AeJ,AeB,reduceIte,Aeu];done) | simp[hg,hi,hd]),trivial⟩ .slnil)
    ·have hz:=hd;try simp only[Aeh,Aei] at hz
     have h0:=hd;try simp at h0
     refine Bf rfl rfl hd (AA (Aj rfl) rfl (Bf rfl rfl hd (AA (Aj rfl) rfl (Bf rfl rfl hd (AA (BZ DH rfl rfl (by first | omega | exact I1 (by assumption)) (by first | omega | exact I1 (by assumption))) rfl (Bf rfl rfl hd (AA (Gy rfl rfl) rfl (AA (A3 rfl hd rfl) rfl (Aq ?_)))))))));exact A9 (BK trivial ⟨rfl,rfl,rfl,rfl,rfl,rfl,rfl,rfl,rfl,rfl,rfl,fb (by first | (simp only[hg,hi,hd,Aex,Aez,Ae7,Aey,Ae2,Ae1,Ae5,Ae3,Aeo,Aev,Aeq,Aem,AeJ,AeB,reduceIte,Aeu];done) | simp[hg,hi,hd]),trivial⟩ .slnil)
   refine Eu (b:=((decide ((Cw dg (k:Int))<(48)))||(decide ((57)<(Cw dg (k:Int)))))) rfl (λhj=>?_) (λhj=>?_)
   ·have h1:=hj;try simp only[Aeh,Aei] at h1
    have h2:=hj;try simp at h2
    refine Al (Ak (AA (A4 rfl) rfl (Aq (A9 (Bm ?_)))));refine Ar (A8 (Ac (Ac (A8 (Ac (As (BH rfl rfl) ?_))))));exact Is (by simp[RU,hdg,Acs hi0 hk hj])
   ·have h1:=hj;try simp only[Aeh,Aei] at h1
    have h2:=hj;try simp at h2
    refine A0 (AN (A9 (Bm ?_)));refine Ak (AA (BM rfl rfl (IntWalk.i64_in _ (by omega))) rfl (AA (Aj rfl) rfl (Aq (A9 (AZ (k+1) ?_ ⟨fi (by first | rfl | (simp;done) | omega | (simp;omega)),rfl,rfl,trivial⟩ .slnil)))));exact Zz hi0 hk hj
  ·have hk:=hi;try simp only[Aeh,Aei] at hk
   have hy:=hi;try simp at hy
   refine BE (Ay (Ay (Bo (A9 (Bm ?_)))));refine Al (Ak (AA (A4 rfl) rfl (Aq (A9 (Bm ?_)))));refine Ar (As (BH rfl rfl) ?_);exact Is (by simp only[RU,hdg,hg,Aba hi0 hk];rfl)
theorem Zu (m:Int)(h0 : -9223372036854775808≤m)(h1:m≤9223372036854775807)(w:World)(hE:Wt w):Calls Tryz.prog 163 [.int .i64 (m)].toArray w (JS w (.string (B (Lib.itoa m)))):=by
 refine G5 (n:=5) Tryz.func163 rfl Tryz.ntmps163 rfl (Al (Ak (AA (A4 rfl) rfl (Aq (A9 (Bm ?_))))));refine Al (Ak (AA (Aj rfl) rfl (C5 Tryz.call122 rfl (λw hw=>Acf m (by omega) (by omega) w (hE.st0 hw)) rfl (AA (A4 rfl) rfl (Aq (A9 (Bm ?_)))))));refine Ar (As (BH rfl rfl) ?_);exact Is (by first | rfl | simp[])
theorem Aar (p:List UInt8)(hp:p.length≤281474976710656)(w:World)(hE:Wt w):Calls Tryz.prog 98 [.string (B (p))].toArray w (JS w (.tuple #[.int .i64 (C7 p),.int .i64 (Ep p)])):=by
 refine G5 (n:=22) Tryz.func98 rfl Tryz.ntmps98 rfl (Al (Ak (AA (A4 rfl) rfl (AA (A4 rfl) rfl (Aq (A9 (Bm ?_)))))));refine Al (Al (Ak (AA (Aj rfl) rfl (C5 Tryz.call146 rfl (λw hw=>X4 p (by first | omega | (simp;done) | (simp;omega) | (simp at *;omega)) w) rfl (AA (Cn rfl) rfl (Aq (A9 (Bm ?_))))))));refine Eu (b:=!(RU p)) rfl (λhd=>?_) (λhd=>?_)
 ·have hg:=hd;try simp only[Aeh,Aei] at hg
  have hb:=hd;try simp only[Aeh,Aei,Ael,AeH,AeF,AeY,Bool.and_eq_false_iff,AeN,not_or,Int.not_lt,Int.not_le] at hb
  refine Al (Ak (AA (A4 rfl) rfl (AA (A4 rfl) rfl (Aq (A9 (Bm ?_))))));refine Ar (Ac (As (Iy rfl rfl rfl) ?_));exact Is (by simp[C7,Ep,hb])
 ·have hg:=hd;try simp only[Aeh,Aei] at hg
  have hb:=hd;try simp only[Aeh,Aei,Ael,AeH,AeF,AeY,Bool.and_eq_false_iff,AeN,not_or,Int.not_lt,Int.not_le] at hb
  refine A0 (A9 (Bm ?_));refine Al (Ak (AA (Aj rfl) rfl ?_));rcases ZB (p:=p) (by assumption) with⟨av,hav,hal,hah⟩ | hav
  ·refine C5 Tryz.call147 rfl (λw _=>Abh p (by first | omega | (simp;done) | (simp;omega) | (simp at *;omega)) av hav w) rfl (AA (Aj rfl) rfl (AA (A5 rfl rfl) rfl (AA (A5 rfl rfl) rfl (AA (A4 rfl) rfl (AA (A4 rfl) rfl (Aq (A9 (Bm ?_))))))));refine Al (AC [(2,.int .i64 (0)),(3,.int .i64 (0)),(4,.int .i64 (av)),(20,.bool (!(OL av)))] [] (φ:=True) ?_ (λhi=>?_))
   ·exact Ak (AA (Aj rfl) rfl (AA (Tc Tryz.underlying198 rfl) rfl (AA (Aj rfl) rfl (Bf rfl rfl rfl (AA (Aj rfl) rfl (Bf rfl rfl rfl (C5 Tryz.call142 rfl (λw hw=>ZX av w) rfl (Bf rfl rfl rfl (AA (Cn rfl) rfl (AA (A3 rfl rfl rfl) rfl (Aq (A9 (BK trivial ⟨rfl,rfl,rfl,rfl,trivial⟩ .slnil)))))))))))))
   refine Eu (b:=!(OL av)) rfl (λhe=>?_) (λhe=>?_)
   ·have hh:=he;try simp only[Aeh,Aei] at hh
    have hf:=he;try simp only[Aeh,Aei,Ael,AeH,AeF,AeY,Bool.and_eq_false_iff,AeN,not_or,Int.not_lt,Int.not_le] at hf
    refine Al (Ak (AA (A4 rfl) rfl (AA (A4 rfl) rfl (Aq (A9 (Bm ?_))))));refine Ar (Ac (As (Iy rfl rfl rfl) ?_));exact Is (by simp[C7,Ep,hav,hb,hf])
   ·have hh:=he;try simp only[Aeh,Aei] at hh
    have hf:=he;try simp only[Aeh,Aei,Ael,AeH,AeF,AeY,Bool.and_eq_false_iff,AeN,not_or,Int.not_lt,Int.not_le] at hf
    refine A0 (A9 (Bm ?_));refine Al (Ak (AA (Aj rfl) rfl (AA (A4 rfl) rfl (AA (A4 rfl) rfl (Aq (A9 (Bm ?_)))))));refine Ar (As (Iy rfl rfl rfl) ?_);exact Is (by simp[C7,Ep,hav,hb,hf])
  ·refine Vk Tryz.call147 rfl (λw hw=>UX p (by first | omega | (simp;done) | (simp;omega) | (simp at *;omega)) hav w (hE.st0 hw)) rfl ?_;rintro _ _ ⟨am,at_,ab,rfl,rfl⟩;refine AA (Aj rfl) rfl (AA (A5 rfl rfl) rfl (AA (A5 rfl rfl) rfl (AA (A4 rfl) rfl (AA (A4 rfl) rfl (Aq (A9 (Bm ?_)))))));refine Al (AC [(2,.int .i64 (0)),(3,.int .i64 (0)),(4,.int .i64 (am)),(20,.bool (true))] [] (φ:=True) ?_ (λhj=>?_))
   ·exact Ak (AA (Aj rfl) rfl (AA (Aa0 Tryz.underlying198 rfl) rfl (AA (Aj rfl) rfl (AJ rfl rfl rfl rfl (AJ rfl rfl rfl rfl (AJ rfl rfl rfl rfl (AA (AF rfl rfl rfl) rfl (Aq (A9 (BK trivial ⟨rfl,rfl,rfl,rfl,trivial⟩ .slnil))))))))))
   refine CG rfl rfl (Al (Ak (AA (A4 rfl) rfl (AA (A4 rfl) rfl (Aq (A9 (Bm ?_)))))));refine Ar (Ac (As (Iy rfl rfl rfl) ?_));exact Is (by simp[C7,Ep,hav,hb])
end Go.Proofs.YtmjlemhondjfhaaGreatDoor
namespace Go.Proofs
open Go.Shelf
def Tryz.lays169_ren:Go.Shelf.Ren:=⟨fun | 169=>120 | n=>n,fun | 70=>174 | 9=>9 | 0=>0 | 72=>177 | 37=>175 | 127=>213 | 3=>3 | 5=>5 | n=>n,fun | n=>n⟩
theorem Tryz.lays169:Go.Proofs.Lays.n169 Tryz.prog Tryz.lays169_ren:={
 mixed:=by kernel_rfl
 f169:=Tryz.func120.trans (congrArg some (by kernel_rfl))
 t0:=Tryz.underlying0
 a0:=Tryz.isAgg0
 z0:=Tryz.sizeOf0
 v0:=Tryz.zeroValue0
 t3:=Tryz.underlying3
 a3:=Tryz.isAgg3
 z3:=Tryz.sizeOf3
 v3:=Tryz.zeroValue3
 t9:=Tryz.underlying9
 a9:=Tryz.isAgg9
 z9:=Tryz.sizeOf9
 v9:=Tryz.zeroValue9
 t37:=Tryz.underlying175
 a37:=Tryz.isAgg175
 z37:=Tryz.sizeOf175
 v37:=Tryz.zeroValue175
 t70:=Tryz.underlying174
 a70:=Tryz.isAgg174
 z70:=Tryz.sizeOf174
 v70:=Tryz.zeroValue174
 t72:=Tryz.underlying177
 a72:=Tryz.isAgg177
 z72:=Tryz.sizeOf177
 v72:=Tryz.zeroValue177
 t127:=Tryz.underlying213
 a127:=Tryz.isAgg213
 z127:=Tryz.sizeOf213
 v127:=Tryz.zeroValue213 }
theorem Tryz.Builder_Extra_169:Builder.Extra Tryz.prog Tryz.lays169_ren:={
 sizeBuilder:=by kernel_rfl
 liesBuilder:=by kernel_rfl
 t5:=Tryz.underlying5
 a5:=Tryz.isAgg5
 z5:=Tryz.sizeOf5
 v5:=Tryz.zeroValue5
 infoByte:=by kernel_rfl
 cellsByte:=by kernel_rfl
 sizeByte:=by kernel_rfl
 neB5:=by decide }
open Go.RowKit in
theorem Tryz.Builder_String_any (B b:Nat)(l:List UInt8)(w:World)(h:Lib.IsBuilder 177 5 B b (Lib.byteCells l) w)(hBw:B≤w.heap.size) :
  Calls Tryz.prog 120 #[.pointer (some ⟨b,0,none⟩)] w λe w'=>e = .returned (.string ⟨l.toArray⟩)∧Below B w w':=Any.Builder_String_any Tryz.lays169 Tryz.Builder_Extra_169 B b l w h hBw
def Tryz.lays138_ren:Go.Shelf.Ren:=⟨fun | 138=>179 | 195=>204 | 218=>205 | 143=>206 | 219=>180 | 217=>207 | 225=>208 | 224=>209 | 267=>210 | 266=>231 | 314=>232 | n=>n,fun | 9=>9 | 3=>3 | 4=>4 | 5=>5 | 0=>0 | 46=>196 | 146=>254 | 51=>229 | n=>n,fun | 1=>0 | n=>n⟩
theorem Tryz.lays138:Go.Proofs.Lays.n138 Tryz.prog Tryz.lays138_ren:={
 mixed:=by kernel_rfl
 f138:=Tryz.func179.trans (congrArg some (by kernel_rfl))
 f143:=Tryz.func206.trans (congrArg some (by kernel_rfl))
 f195:=Tryz.func204.trans (congrArg some (by kernel_rfl))
 f217:=Tryz.func207.trans (congrArg some (by kernel_rfl))
 f218:=Tryz.func205.trans (congrArg some (by kernel_rfl))
 f219:=Tryz.func180.trans (congrArg some (by kernel_rfl))
 f224:=Tryz.func209.trans (congrArg some (by kernel_rfl))
 f225:=Tryz.func208.trans (congrArg some (by kernel_rfl))
 f266:=Tryz.func231.trans (congrArg some (by kernel_rfl))
 f267:=Tryz.func210.trans (congrArg some (by kernel_rfl))
 f314:=Tryz.func232.trans (congrArg some (by kernel_rfl))
 t0:=Tryz.underlying0
 a0:=Tryz.isAgg0
 z0:=Tryz.sizeOf0
 v0:=Tryz.zeroValue0
 t3:=Tryz.underlying3
 a3:=Tryz.isAgg3
 z3:=Tryz.sizeOf3
 v3:=Tryz.zeroValue3
 t4:=Tryz.underlying4
 a4:=Tryz.isAgg4
 z4:=Tryz.sizeOf4
 v4:=Tryz.zeroValue4
 t5:=Tryz.underlying5
 a5:=Tryz.isAgg5
 z5:=Tryz.sizeOf5
 v5:=Tryz.zeroValue5
 t9:=Tryz.underlying9
 a9:=Tryz.isAgg9
 z9:=Tryz.sizeOf9
 v9:=Tryz.zeroValue9
 t46:=Tryz.underlying196
 a46:=Tryz.isAgg196
 z46:=Tryz.sizeOf196
 v46:=Tryz.zeroValue196
 t51:=Tryz.underlying229
 a51:=Tryz.isAgg229
 z51:=Tryz.sizeOf229
 v51:=Tryz.zeroValue229
 t146:=Tryz.underlying254
 a146:=Tryz.isAgg254
 z146:=Tryz.sizeOf254
 v146:=Tryz.zeroValue254
 g1:=by kernel_rfl }
open Go.RowKit Go.Lib in
theorem Tryz.strings_Count_one (s:ByteArray)(c:UInt8)(w:World) :
  Calls Tryz.prog 179 #[.string s,.string ⟨#[c]⟩] w λe w'=>e = .returned (.int .i64 (Lib.countByte s.data.toList c))∧w'=w:=Any.strings_Count_one Tryz.lays138 s c w
end Go.Proofs
namespace Go.Proofs.YtmjlemhondjfhaaGreatDoor
open Go
set_option linter.unusedVariables false
set_option linter.unusedSimpArgs false
theorem Abi {f:Nat→UInt8→Bool}{t:Int→Bool}{p:List UInt8}{k:Nat}(hf:∀u:UInt8,f k u=t u.toNat){c:Bool}(hi:k≤p.length∧c=B1 f k (p.drop k))(h:(k:Int)<p.length)(ht:t (Cw p k)=true) :
  k+1≤p.length∧c=B1 f (k+1) (p.drop (k+1)):=by
 obtain⟨u,hu⟩:=KU h;rw[RZ hu] at ht;have hk:k<p.length:=by omega
 refine⟨by omega,?_⟩;rw[hi.2,KX hu];simp[B1,hf,ht]
theorem Adn {f:Nat→UInt8→Bool}{t:Int→Bool}{p:List UInt8}{k:Nat}(hf:∀u:UInt8,f k u=t u.toNat){c:Bool}(hi:k≤p.length∧c=B1 f k (p.drop k))(h:(k:Int)<p.length)(ht:t (Cw p k)=false):c=false:=by
 obtain⟨u,hu⟩:=KU h;rw[RZ hu] at ht;rw[hi.2,KX hu];simp[B1,hf,ht]
theorem Acx {f:Nat→UInt8→Bool}{p:List UInt8}{k:Nat}{c:Bool}(hi:k≤p.length∧c=B1 f k (p.drop k))(h : ¬ (k:Int)<p.length):c=true:=by
 rw[hi.2,List.drop_of_length_le (by omega)];rfl
def RF (c:Int):Bool:=Cm c||(Da c||(decide (c=45)||decide (c=95)))
theorem P3 {k:Nat}(hk:1≤k)(u:UInt8):DE k u=RF u.toNat:=by
 have:decide (k=0)=false:=by simp;omega
 simp only[DE,RF,this]
 cases Cm u.toNat<;>cases Da u.toNat<;>simp
theorem Aa3 {p:List UInt8}(h:(!(decide ((p.length:Int)<1)||(decide ((24:Int)<p.length)||!Cm (Cw p 0))))=true):1≤p.length∧CK p=B1 DE 1 (p.drop 1):=by
 simp only[AeF,AeN,Aei,AeY] at h;obtain⟨h1,h2,h3⟩:=h
 cases p with
 | nil=>simp at h1
 | cons u r=>
  have h4:Cm u.toNat=true:=h3;refine⟨by simp,?_⟩;have h5:r.length+1≤24:=by simp at h2;omega
  simp[CK,B1,DE,h4,h5]
theorem YI {p:List UInt8}(h:(decide ((p.length:Int)<1)||(decide ((24:Int)<p.length)||!Cm (Cw p 0)))=true):CK p=false:=by
 simp only[AeH,Aeh,AeF] at h;rcases h with h | h | h
 ·simp[CK];omega
 ·simp[CK];omega
 ·cases p with
  | nil=>rfl
  | cons u r=>
   have h4:Cm u.toNat=false:=h;simp[CK,B1,DE,h4]
open Go Go.RowKit
section
variable {P : Program} {n : Nat} {w0 : World} {M : List Nat} {l : Fr} {H : List Ent} {d : Option Nat} {x y : Operand} {ty t t' : TypeId} {pos : String} {af : Array Edge} {g : Option (Nat × Bool)} {k : IntKind} {p q z : Int}
end
set_option maxRecDepth 100000
theorem AbU (p:List UInt8)(hp:p.length≤281474976710656)(w:World):Calls Tryz.prog 100 [.string (B (p))].toArray w (JS w (.bool (CK p))):=by
 refine G5 (n:=48) Tryz.func100 rfl Tryz.ntmps100 rfl (Al (Ak (AA (A4 rfl) rfl (Aq (A9 (Bm ?_))))));refine Al (AC [(0,.string (B (p))),(2,.bool (false)),(17,.bool (((decide (((p.length:Int))<(1)))||((decide ((24)<((p.length:Int))))||(!(Cm (Cw p 0)))))))] [] (φ:=True) ?_ (λh4=>?_))
 ·refine Ak (AA (Aj rfl) rfl (AA (BS DH rfl) rfl (AA (CP rfl rfl) rfl (AA (Aj rfl) rfl (Bd (decide (((p.length:Int))<(1))) (λhh=>?_) (λhh=>?_))))))
  ·have hl:=hh;try simp only[Aeh,Aei] at hl
   have hm:=hh;try simp at hm
   refine AJ rfl rfl hh rfl (AJ rfl rfl hh rfl (AJ rfl rfl hh rfl (AA (AF rfl hh rfl) rfl (AA (Aj rfl) rfl (AJ rfl rfl rfl rfl (AJ rfl rfl rfl rfl (AJ rfl rfl rfl rfl (AJ rfl rfl rfl rfl (AA (AF rfl rfl rfl) rfl (Aq ?_))))))))));exact A9 (BK trivial ⟨rfl,rfl,fb (by first | (simp only[hh,Aex,Aez,Ae7,Aey,Ae2,Ae1,Ae5,Ae3,Aeo,Aev,Aeq,Aem,AeJ,AeB,reduceIte,Aeu];done) | simp[hh]),trivial⟩ .slnil)
  ·have hl:=hh;try simp only[Aeh,Aei] at hl
   have hm:=hh;try simp at hm
   refine Bf rfl rfl hh (AA (Aj rfl) rfl (Bf rfl rfl hh (AA (BS DH rfl) rfl (Bf rfl rfl hh (AA (Gy rfl rfl) rfl (AA (A3 rfl hh rfl) rfl (AA (Aj rfl) rfl (Bd (decide ((24)<((p.length:Int)))) (λhi=>?_) (λhi=>?_)))))))))
   ·have hn:=hi;try simp only[Aeh,Aei] at hn
    have hq:=hi;try simp at hq
    refine AJ rfl rfl hi rfl (AJ rfl rfl hi rfl (AJ rfl rfl hi rfl (AJ rfl rfl hi rfl (AA (AF rfl hi rfl) rfl (Aq ?_)))));exact A9 (BK trivial ⟨rfl,rfl,fb (by first | (simp only[hh,hi,Aex,Aez,Ae7,Aey,Ae2,Ae1,Ae5,Ae3,Aeo,Aev,Aeq,Aem,AeJ,AeB,reduceIte,Aeu];done) | simp[hh,hi]),trivial⟩ .slnil)
   ·have hn:=hi;try simp only[Aeh,Aei] at hn
    have hq:=hi;try simp at hq
    refine Bf rfl rfl hi (AA (Aj rfl) rfl (Bf rfl rfl hi (AA (BZ DH rfl rfl (by first | omega | (simp;omega) | (simp at *;omega)) (by first | omega | (simp;omega) | (simp at *;omega))) rfl (Bf rfl rfl hi (C5 Tryz.call148 rfl (λw hw=>Vt (Cw p 0) w) rfl (Bf rfl rfl hi (AA (Cn rfl) rfl (AA (A3 rfl hi rfl) rfl (Aq ?_)))))))));exact A9 (BK trivial ⟨rfl,rfl,fb (by first | (simp only[hh,hi,Aex,Aez,Ae7,Aey,Ae2,Ae1,Ae5,Ae3,Aeo,Aev,Aeq,Aem,AeJ,AeB,reduceIte,Aeu];done) | simp[hh,hi]),trivial⟩ .slnil)
 refine Eu (b:=((decide (((p.length:Int))<(1)))||((decide ((24)<((p.length:Int))))||(!(Cm (Cw p 0)))))) rfl (λhd=>?_) (λhd=>?_)
 ·have hr:=hd;try simp only[Aeh,Aei] at hr
  have hs:=hd;try simp at hs
  refine Al (Ak (AA (A4 rfl) rfl (Aq (A9 (Bm ?_)))));refine Ar (Ac (As (BH rfl rfl) ?_));exact Is (by rw[YI hd])
 ·have hr:=hd;try simp only[Aeh,Aei] at hr
  have hs:=hd;try simp at hs
  refine A0 (A9 (Bm ?_));refine Al (Al (Ak (AA (A4 rfl) rfl (Aq (A9 (Bm ?_))))));refine AH (KC (S:=Nat) (λ(k:Nat)=>1≤k∧(k≤p.length∧CK p=B1 DE k (p.drop k))) (λ(k:Nat)=>[(3,.int .i64 ((k:Int))),(0,.string (B (p)))]) (λ(k:Nat)=>[]) (λ(k:Nat)=>p.length-k) (1) ?_ ⟨fi (by first | rfl | (simp;done) | omega | (simp;omega)),rfl,trivial⟩ .slnil ?_)
  ·exact⟨Ae9 _,Aa3 (by simp[hd])⟩
  rintro k hi0;have hk1:=hi0.1;refine Al (Al (Ak (AA (Aj rfl) rfl (AA (Aj rfl) rfl (AA (BS DH rfl) rfl (AA (CP rfl rfl) rfl (Aq (A9 (Bm ?_)))))))));refine Eu (b:=decide (((k:Int))<((p.length:Int)))) rfl (λhe=>?_) (λhe=>?_)
  ·have hk:=he;try simp only[Aeh,Aei] at hk
   have ht:=he;try simp at ht
   refine A0 (A9 (Bm ?_));refine Al (AH (AC [(0,.string (B (p))),(3,.int .i64 ((k:Int))),(18,.int .i64 ((k:Int))),(19,.string (B (p))),(20,.int .i64 ((p.length:Int))),(21,.bool (decide (((k:Int))<((p.length:Int))))),(24,.string (B (p))),(25,.int .i64 ((k:Int))),(26,.int .u8 (Cw p (k:Int))),(27,.bool (Cm (Cw p (k:Int)))),(28,.bool (!(Cm (Cw p (k:Int))))),(29,.bool (!(Cm (Cw p (k:Int))))),(35,.bool (((!(Cm (Cw p (k:Int))))&&(!(Da (Cw p (k:Int))))))),(36,.bool (((!(Cm (Cw p (k:Int))))&&(!(Da (Cw p (k:Int))))))),(41,.bool (((!(Cm (Cw p (k:Int))))&&((!(Da (Cw p (k:Int))))&&(!(decide ((Cw p (k:Int))=(45)))))))),(42,.bool (((!(Cm (Cw p (k:Int))))&&((!(Da (Cw p (k:Int))))&&(!(decide ((Cw p (k:Int))=(45)))))))),(47,.bool (((!(Cm (Cw p (k:Int))))&&((!(Da (Cw p (k:Int))))&&((!(decide ((Cw p (k:Int))=(45))))&&(!(decide ((Cw p (k:Int))=(95)))))))))] [] (φ:=True) ?_ (λh5=>?_)))
   ·refine Ak (AA (Aj rfl) rfl (AA (Aj rfl) rfl (AA (BZ DH rfl rfl (by first | omega | (simp;omega) | (simp at *;omega)) (by first | omega | (simp;omega) | (simp at *;omega))) rfl (C5 Tryz.call148 rfl (λw hw=>Vt (Cw p (k:Int)) w) rfl (AA (Cn rfl) rfl (AA (Aj rfl) rfl (Bd (!(Cm (Cw p (k:Int)))) (λhb=>?_) (λhb=>?_))))))))
    ·have hu:=hb;try simp only[Aeh,Aei] at hu
     have hx:=hb;try simp at hx
     refine Bf rfl rfl hb (AA (Aj rfl) rfl (Bf rfl rfl hb (AA (Aj rfl) rfl (Bf rfl rfl hb (AA (BZ DH rfl rfl (by first | omega | (simp;omega) | (simp at *;omega)) (by first | omega | (simp;omega) | (simp at *;omega))) rfl (Bf rfl rfl hb (C5 Tryz.call149 rfl (λw hw=>AaZ (Cw p (k:Int)) w) rfl (Bf rfl rfl hb (AA (Cn rfl) rfl (AA (AF rfl hb rfl) rfl (AA (Aj rfl) rfl (Bd (!(Da (Cw p (k:Int)))) (λhf=>?_) (λhf=>?_)))))))))))))
     ·have hy:=hf;try simp only[Aeh,Aei] at hy
      have hz:=hf;try simp at hz
      refine Bf rfl rfl hf (AA (Aj rfl) rfl (Bf rfl rfl hf (AA (Aj rfl) rfl (Bf rfl rfl hf (AA (BZ DH rfl rfl (by first | omega | (simp;omega) | (simp at *;omega)) (by first | omega | (simp;omega) | (simp at *;omega))) rfl (Bf rfl rfl hf (AA (CZ rfl rfl) rfl (AA (AF rfl hf rfl) rfl (AA (Aj rfl) rfl (Bd (!(decide ((Cw p (k:Int))=(45)))) (λhg=>?_) (λhg=>?_)))))))))))
      ·have h0:=hg;try simp only[Aeh,Aei] at h0
       have h1:=hg;try simp at h1
       refine Bf rfl rfl hg (AA (Aj rfl) rfl (Bf rfl rfl hg (AA (Aj rfl) rfl (Bf rfl rfl hg (AA (BZ DH rfl rfl (by first | omega | (simp;omega) | (simp at *;omega)) (by first | omega | (simp;omega) | (simp at *;omega))) rfl (Bf rfl rfl hg (AA (CZ rfl rfl) rfl (AA (AF rfl hg rfl) rfl (Aq ?_)))))))));exact A9 (BK trivial ⟨rfl,rfl,rfl,rfl,rfl,rfl,rfl,rfl,rfl,rfl,rfl,rfl,fb (by first | (simp only[hd,he,hb,hf,hg,Aex,Aez,Ae7,Aey,Ae2,Ae1,Ae5,Ae3,Aeo,Aev,Aeq,Aem,AeJ,AeB,reduceIte,Aeu];done) | simp[hd,he,hb,hf,hg]),fb (by first | (simp only[hd,he,hb,hf,hg,Aex,Aez,Ae7,Aey,Ae2,Ae1,Ae5,Ae3,Aeo,Aev,Aeq,Aem,AeJ,AeB,reduceIte,Aeu];done) | simp[hd,he,hb,hf,hg]),fb (by first | (simp only[hd,he,hb,hf,hg,Aex,Aez,Ae7,Aey,Ae2,Ae1,Ae5,Ae3,Aeo,Aev,Aeq,Aem,AeJ,AeB,reduceIte,Aeu];done) | simp[hd,he,hb,hf,hg]),fb (by first | (simp only[hd,he,hb,hf,hg,Aex,Aez,Ae7,Aey,Ae2,Ae1,Ae5,Ae3,Aeo,Aev,Aeq,Aem,AeJ,AeB,reduceIte,Aeu];done) | simp[hd,he,hb,hf,hg]),fb (by first | (simp only[hd,he,hb,hf,hg,Aex,Aez,Ae7,Aey,Ae2,Ae1,Ae5,Ae3,Aeo,Aev,Aeq,Aem,AeJ,AeB,reduceIte,Aeu];done) | simp[hd,he,hb,hf,hg]),trivial⟩ .slnil)
      ·have h0:=hg;try simp only[Aeh,Aei] at h0
       have h1:=hg;try simp at h1
       refine AJ rfl rfl hg rfl (AJ rfl rfl hg rfl (AJ rfl rfl hg rfl (AJ rfl rfl hg rfl (AA (A3 rfl hg rfl) rfl (Aq ?_)))));exact A9 (BK trivial ⟨rfl,rfl,rfl,rfl,rfl,rfl,rfl,rfl,rfl,rfl,rfl,rfl,fb (by first | (simp only[hd,he,hb,hf,hg,Aex,Aez,Ae7,Aey,Ae2,Ae1,Ae5,Ae3,Aeo,Aev,Aeq,Aem,AeJ,AeB,reduceIte,Aeu];done) | simp[hd,he,hb,hf,hg]),fb (by first | (simp only[hd,he,hb,hf,hg,Aex,Aez,Ae7,Aey,Ae2,Ae1,Ae5,Ae3,Aeo,Aev,Aeq,Aem,AeJ,AeB,reduceIte,Aeu];done) | simp[hd,he,hb,hf,hg]),fb (by first | (simp only[hd,he,hb,hf,hg,Aex,Aez,Ae7,Aey,Ae2,Ae1,Ae5,Ae3,Aeo,Aev,Aeq,Aem,AeJ,AeB,reduceIte,Aeu];done) | simp[hd,he,hb,hf,hg]),fb (by first | (simp only[hd,he,hb,hf,hg,Aex,Aez,Ae7,Aey,Ae2,Ae1,Ae5,Ae3,Aeo,Aev,Aeq,Aem,AeJ,AeB,reduceIte,Aeu];done) | simp[hd,he,hb,hf,hg]),fb (by first | (simp only[hd,he,hb,hf,hg,Aex,Aez,Ae7,Aey,Ae2,Ae1,Ae5,Ae3,Aeo,Aev,Aeq,Aem,AeJ,AeB,reduceIte,Aeu];done) | simp[hd,he,hb,hf,hg]),trivial⟩ .slnil)
     ·have hy:=hf;try simp only[Aeh,Aei] at hy
      have hz:=hf;try simp at hz
      refine AJ rfl rfl hf rfl (AJ rfl rfl hf rfl (AJ rfl rfl hf rfl (AJ rfl rfl hf rfl (AA (A3 rfl hf rfl) rfl (AA (Aj rfl) rfl (AJ rfl rfl rfl rfl (AJ rfl rfl rfl rfl (AJ rfl rfl rfl rfl (AJ rfl rfl rfl rfl (AA (A3 rfl rfl rfl) rfl (Aq ?_)))))))))));exact A9 (BK trivial ⟨rfl,rfl,rfl,rfl,rfl,rfl,rfl,rfl,rfl,rfl,rfl,rfl,fb (by first | (simp only[hd,he,hb,hf,Aex,Aez,Ae7,Aey,Ae2,Ae1,Ae5,Ae3,Aeo,Aev,Aeq,Aem,AeJ,AeB,reduceIte,Aeu];done) | simp[hd,he,hb,hf]),fb (by first | (simp only[hd,he,hb,hf,Aex,Aez,Ae7,Aey,Ae2,Ae1,Ae5,Ae3,Aeo,Aev,Aeq,Aem,AeJ,AeB,reduceIte,Aeu];done) | simp[hd,he,hb,hf]),fb (by first | (simp only[hd,he,hb,hf,Aex,Aez,Ae7,Aey,Ae2,Ae1,Ae5,Ae3,Aeo,Aev,Aeq,Aem,AeJ,AeB,reduceIte,Aeu];done) | simp[hd,he,hb,hf]),fb (by first | (simp only[hd,he,hb,hf,Aex,Aez,Ae7,Aey,Ae2,Ae1,Ae5,Ae3,Aeo,Aev,Aeq,Aem,AeJ,AeB,reduceIte,Aeu];done) | simp[hd,he,hb,hf]),fb (by first | (simp only[hd,he,hb,hf,Aex,Aez,Ae7,Aey,Ae2,Ae1,Ae5,Ae3,Aeo,Aev,Aeq,Aem,AeJ,AeB,reduceIte,Aeu];done) | simp[hd,he,hb,hf]),trivial⟩ .slnil)
    ·have hu:=hb;try simp only[Aeh,Aei] at hu
     have hx:=hb;try simp at hx
     refine AJ rfl rfl hb rfl (AJ rfl rfl hb rfl (AJ rfl rfl hb rfl (AJ rfl rfl hb rfl (AJ rfl rfl hb rfl (AA (A3 rfl hb rfl) rfl (AA (Aj rfl) rfl (AJ rfl rfl rfl rfl (AJ rfl rfl rfl rfl (AJ rfl rfl rfl rfl (AJ rfl rfl rfl rfl (AA (A3 rfl rfl rfl) rfl (AA (Aj rfl) rfl (AJ rfl rfl rfl rfl (AJ rfl rfl rfl rfl (AJ rfl rfl rfl rfl (AJ rfl rfl rfl rfl (AA (A3 rfl rfl rfl) rfl (Aq ?_))))))))))))))))));exact A9 (BK trivial ⟨rfl,rfl,rfl,rfl,rfl,rfl,rfl,rfl,rfl,rfl,rfl,rfl,fb (by first | (simp only[hd,he,hb,Aex,Aez,Ae7,Aey,Ae2,Ae1,Ae5,Ae3,Aeo,Aev,Aeq,Aem,AeJ,AeB,reduceIte,Aeu];done) | simp[hd,he,hb]),fb (by first | (simp only[hd,he,hb,Aex,Aez,Ae7,Aey,Ae2,Ae1,Ae5,Ae3,Aeo,Aev,Aeq,Aem,AeJ,AeB,reduceIte,Aeu];done) | simp[hd,he,hb]),fb (by first | (simp only[hd,he,hb,Aex,Aez,Ae7,Aey,Ae2,Ae1,Ae5,Ae3,Aeo,Aev,Aeq,Aem,AeJ,AeB,reduceIte,Aeu];done) | simp[hd,he,hb]),fb (by first | (simp only[hd,he,hb,Aex,Aez,Ae7,Aey,Ae2,Ae1,Ae5,Ae3,Aeo,Aev,Aeq,Aem,AeJ,AeB,reduceIte,Aeu];done) | simp[hd,he,hb]),fb (by first | (simp only[hd,he,hb,Aex,Aez,Ae7,Aey,Ae2,Ae1,Ae5,Ae3,Aeo,Aev,Aeq,Aem,AeJ,AeB,reduceIte,Aeu];done) | simp[hd,he,hb]),trivial⟩ .slnil)
   refine Eu (b:=((!(Cm (Cw p (k:Int))))&&((!(Da (Cw p (k:Int))))&&((!(decide ((Cw p (k:Int))=(45))))&&(!(decide ((Cw p (k:Int))=(95)))))))) rfl (λhj=>?_) (λhj=>?_)
   ·have h2:=hj;try simp only[Aeh,Aei] at h2
    have h3:=hj;try simp at h3
    refine Al (Ak (AA (A4 rfl) rfl (Aq (A9 (Bm ?_)))));refine Ar (A8 (Ac (Ac (A8 (Ac (As (BH rfl rfl) ?_))))));exact Is (by rw[Adn (P3 hi0.1) hi0.2 hk (by simp only[RF];revert hj;cases Cm (Cw p ↑k)<;>cases Da (Cw p ↑k)<;>simp)])
   ·have h2:=hj;try simp only[Aeh,Aei] at h2
    have h3:=hj;try simp at h3
    refine A0 (AN (A9 (Bm ?_)));refine Ak (AA (Aj rfl) rfl (AA (BM rfl rfl (IntWalk.i64_in _ (by omega))) rfl (AA (A4 rfl) rfl (Aq (A9 (AZ (k+1) ?_ ⟨fi (by first | rfl | (simp;done) | omega | (simp;omega)),rfl,trivial⟩ .slnil))))));exact⟨⟨by omega,Abi (P3 hi0.1) hi0.2 hk (by simp only[RF];revert hj;cases Cm (Cw p ↑k)<;>cases Da (Cw p ↑k)<;>simp<;>omega)⟩,by omega⟩
  ·have hk:=he;try simp only[Aeh,Aei] at hk
   have ht:=he;try simp at ht
   refine BE (Ay (Ay (Bo (A9 (Bm ?_)))));refine Al (Ak (AA (A4 rfl) rfl (Aq (A9 (Bm ?_)))));refine Ar (As (BH rfl rfl) ?_);exact Is (by rw[Acx hi0.2 hk])
end Go.Proofs.YtmjlemhondjfhaaGreatDoor
namespace Go.Proofs
open Go.Shelf
end Go.Proofs
namespace Go.Proofs.YtmjlemhondjfhaaGreatDoor.Q
open Go Go.RowKit
set_option linter.unusedVariables false
def GE (Z:Fz):Prop:=∀w,Ws Z w→Wt w
theorem GE.mono {Z Z':Fz}(h:Fz.le Z Z')(hg:GE Z):GE Z':=λw hw=>hg w ⟨λb o e=>hw b o (h b o e),λk i b e=>hw.nm k i b (h.nm k i b e)⟩
theorem LY.rle {P:Program}{E:Fz→Prop}{f:FuncId}{args:List Rp}{r r':Rp}(h:LY P E f args r)(hr:GA r r'):LY P E f args r':=λw Z vs hv hs=>
 (h w Z vs hv hs).mono λe w' ⟨q,v,H,Z',he,⟨hq,hH⟩,hp,ht⟩=>⟨r',v,H,Z',he,⟨rfl,hH⟩,hr Z' v (hq▸hp),ht⟩
theorem GA.tup2 {a b:Value}:GA (rv (.tuple #[a,b])) (Dr [rv a,rv b]):=λZ v h=>⟨[a,b],h,rfl,rfl,trivial⟩
theorem LY.of_id {P:Program}{E:Fz→Prop}{f:FuncId}{vs:List Value}{v:Value}(h:∀w,Calls P f vs.toArray w (λe w'=>e = .returned v∧w'=w)):LY P E f (vs.map rv) (rv v):=
 LY.of_old λw Z _ _=>(h w).mono λe w' ⟨he,hw⟩=>⟨he,by rw[hw];exact Proofs.YtmjlemhondjfhaaGreatDoor.St.refl w []⟩
theorem TI (m:Int)(g:Cb .i64 m=true):LY Tryz.prog GE 163 [rI .i64 m] (rS (Lib.itoa m)):=LY.of_old (vs:=[.int .i64 m]) λw Z hf he=>Zu m (KO g).1 (KO g).2 w (he w hf)
theorem V6 (s:Ae)(g:D2 1 s.length=true):LY Tryz.prog GE 98 [rS s] (Dr [rI .i64 (C7 s),rI .i64 (Ep s)]):=(LY.of_old (vs:=[.string (B s)]) λw Z hf he=>Aar s (by simp[D2] at g;omega) w (he w hf)).rle GA.tup2
theorem RW (s:Ae)(c:UInt8):LY Tryz.prog GE 179 [rS s,rS [c]] (rI .i64 (Lib.countByte s c)):=LY.of_id (vs:=[.string (B s),.string (B [c])]) λw=>by have:=Tryz.strings_Count_one (B s) c w;rwa [Vb] at this
theorem Abx (s:Ae)(m:Int):LY Tryz.prog GE 207 [rS s,rI .u8 m] (rI .i64 (Lib.indexByte s (Int.toNat m).toUInt8)):=LY.of_old (vs:=[.string (B s),.int .u8 m]) λw Z hf he=>T3 s m w
theorem AaP (s:Ae):LY Tryz.prog GE 115 [rS s] (rB (LV s)):=LY.of_old (vs:=[.string (B s)]) λw Z hf he=>AdM s w
theorem P1 (s:Ae):LY Tryz.prog GE 85 [rS s] (rB (CK s)):=LY.of_old (vs:=[.string (B s)]) λw Z hf he=>AbV s w
theorem VI (s:Ae)(g:D2 1 s.length=true):LY Tryz.prog GE 100 [rS s] (rB (CK s)):=LY.of_old (vs:=[.string (B s)]) λw Z hf he=>AbU s (by simp[D2] at g;omega) w
open Go Go.RowKit Go.ChangeShapes Go.Deep
set_option linter.unusedSimpArgs false
def ZW (W:World):Fz:=⟨λb=>W.heap[b]?,λ_ _=>none⟩
theorem ZW.frz (W:World):Ws (ZW W) W:=⟨λ_ _ h=>h,λ_ _ _ h=>by cases h⟩
def Sf (P:Program)(e:TypeId){α:Type}(enc:α→List Rp)(ok:α→Bool):Prop:=
 ∀{H:Type} {encH:TypeId×Value→H} {W:World} {sp:Nat→Bool} {held:Bool} {n:Nat} {cs:List Value} {x:DataW H×List MemPlace},DataW.trod encH P W 0 sp held n e cs=some x→∃y:α,ok y=true∧B2 (ZW W) (enc y) cs
section
variable {P : Program} {e t : TypeId}
theorem Sf.int {k:IntKind}{enc:Int→List Rp}(ht:P.underlying e=some (.int k))(he:∀n,enc n=[rI k n]):Sf P e enc (Cb k):=λh=>by
 obtain⟨n,rfl,_,hwf⟩:=DataW.trod_int ht h;exact⟨n,hwf,by rw[he];exact⟨rfl,trivial⟩⟩
theorem Sf.str {enc:Ae→List Rp}(ht:P.underlying e=some .string)(he:∀n,enc n=[rS n]):Sf P e enc okS:=λh=>by
 obtain⟨s,rfl,_,hl⟩:=DataW.trod_string ht h;exact⟨s.data.toList,Aek (by rw[Array.length_toList];exact hl),by rw[he];exact⟨congrArg Value.string (Adw s),trivial⟩⟩
theorem Sf.bool {enc:Bool→List Rp}(ht:P.underlying e=some .bool)(he:∀n,enc n=[rB n]):Sf P e enc (λ_=>true):=λh=>by
 obtain⟨b,rfl,_⟩:=DataW.trod_bool ht h;exact⟨b,rfl,by rw[he];exact⟨rfl,trivial⟩⟩
theorem KY {W:World}{a:Addr}{v:Value}(h:W.cell? a=some v):a.spot=none∧IN (ZW W) a.block a.off=some v:=by
 unfold World.cell? at h;unfold IN ZW;dsimp only
 cases hh:W.heap[a.block]? with
 | none=>rw[hh] at h;cases h
 | some o=>
  rw[hh] at h
  cases o with
  | cells cs t fz=>
   cases hs:a.spot with
   | none=>simp[hs] at h;exact⟨rfl,h⟩
   | some _=>simp[hs] at h
  | _=>simp at h
theorem Sf.slice {α:Type}[Inhabited α]{enc:α→List Rp}{ok:α→Bool}{sz:Nat}(ht:P.underlying t=some (.slice e))(hc:P.cellsOf e=sz)(hsz:0<sz)(h:Sf P e enc ok)(hlen:∀y,(enc y).length=sz){enc':List α→List Rp}(he:∀ys,enc' ys=[AK sz (ys.map enc)]) :
  Sf P t enc' (λys=>ys.all ok&&decide (ys.length≤9223372036854775807)):=fun {H encH W sp held n cs x} hx=>by
 rcases open_slice ht hx with⟨rfl,_⟩ | ⟨a,len,cap,m,n',D,Pl,rfl,hb,hl,hm,hmm,_,hel⟩
 ·exact⟨[],by simp,by rw[he];exact⟨Uf.nil sz _,trivial⟩⟩
 ·have hlm:len≤m:=by rw[hmm];split<;>omega
  have each:∀i,i<len→∃y:α,ok y=true∧∃cs',W.cells? 0 (a.add (i*sz)) sz=some cs'∧B2 (ZW W) (enc y) cs':=λi hi=>by
   obtain⟨cs',h1,h2⟩:=hel i (by omega);obtain⟨y,hy,hr⟩:=h h2;rw[hc] at h1;exact⟨y,hy,cs',h1,hr⟩
  obtain⟨f,hf⟩:=choose_lt each;refine⟨(List.range len).map f,?_,?_⟩
  ·simp only[Ael,AeI,List.mem_map,List.mem_range,Aeh];refine⟨?_,by simp;simp only[maxLen] at hm;omega⟩;rintro _ ⟨i,hi,rfl⟩;exact(hf i hi).1
  ·rw[he];refine⟨⟨some a,cap,by simp,by simpa using hl,hm,(λh=>by cases h),λi c hi=>?_⟩,trivial⟩;rw[AeZ,AeC] at hi;have hil:i<len:=by
    cases hq:(List.range len)[i]? with
    | none=>rw[hq] at hi;cases hi
    | some _=>have:=(List.getElem?_eq_some_iff.1 hq).1;simpa using this
   rw[List.getElem?_range hil] at hi;simp only[Option.map_some,Option.some.injEq,Function.comp] at hi;subst hi;obtain⟨_,cs',h1,hr⟩:=hf i hil;obtain⟨_,hcl,hcell⟩:=World.cells?_some h1;have hsp:a.spot=none:=by
    obtain⟨_,cs0,g1,_⟩:=hf 0 (by omega);obtain⟨_,gcl,gcell⟩:=World.cells?_some g1;have h0:=gcell 0 hsz;rw[Aep (by omega)] at h0;have:=(KY h0).1;simpa[Addr.add] using this
   refine⟨hlen _,a,rfl,hsp,λj r hj=>?_⟩;obtain⟨u,hu,hp⟩:=hr.at hj;have hjs:j<sz:=by have:=(List.getElem?_eq_some_iff.1 hj).1;rw[hlen] at this;exact this
   have h3:=hcell j hjs;rw[hu] at h3;have h4:=(KY h3).2;refine⟨u,?_,hp⟩;have e1:((a.add (i*sz)).add j).block=a.block:=by simp only[Addr.add];split<;>split<;>rfl
   have e2:((a.add (i*sz)).add j).off=a.off+(i*sz+j):=by simp only[Addr.add];split<;>split<;>simp_all<;>omega
   rw[e1,e2] at h4;exact h4
theorem Iw {Z:Fz}{cs:List Value}{o:Nat}(h:cs.length=o):B2 Z [] (cs.drop o):=by rw[List.drop_of_length_le (by omega)];trivial
theorem BV {Z:Fz}{cs:List Value}{o s o':Nat}{rs rs':List Rp}(h:B2 Z rs ((cs.drop o).take s))(ho:o+s=o')(h2:B2 Z rs' (cs.drop o')):B2 Z (rs++rs') (cs.drop o):=by
 rw[← AeX s (cs.drop o),List.drop_drop];subst ho;exact h.append h2
theorem Sf.val {α:Type}{enc:α→List Rp}{ok:α→Bool}(h:Sf P e enc ok){r:α→Rp}(he:∀y,enc y=[r y]){H:Type}{encH:TypeId×Value→H}{W:World}{sp:Nat→Bool}{held:Bool}{v:Value}{d:DataW H}{ps:List MemPlace}
  (hone:v.cells = #[v]) (ht:DataW.Trod encH P W 0 sp held e v d ps):∃y:α,ok y=true∧(r y).p (ZW W) v:=by
 obtain⟨fuel,hf⟩:=ht;rw[hone] at hf;obtain⟨y,hy,hr⟩:=h hf;rw[he] at hr;exact⟨y,hy,hr.1⟩
theorem Sf.valAgg {α:Type}{enc:α→List Rp}{ok:α→Bool}(h:Sf P e enc ok){H:Type}{encH:TypeId×Value→H}{W:World}{sp:Nat→Bool}{held:Bool}{cs:Array Value}{d:DataW H}{ps:List MemPlace}
  (ht:DataW.Trod encH P W 0 sp held e (.agg cs) d ps):∃y:α,ok y=true∧(B3 (enc y)).p (ZW W) (.agg cs):=by
 obtain⟨fuel,hf⟩:=ht;obtain⟨y,hy,hr⟩:=h hf;exact⟨y,hy,cs.toList,by simp,hr⟩
end
theorem Zs {W w:World}(hw:Ws (ZW W) w):W.heap.size≤w.heap.size:=by
 rcases Nat.eq_zero_or_pos W.heap.size with h | h
 ·omega
 ·have h1:W.heap[W.heap.size-1]? =some (W.heap[W.heap.size-1]'(by omega)):=Array.getElem?_eq_getElem (by omega);have:=(Array.getElem?_eq_some_iff.1 (hw _ _ h1)).1;omega
theorem X0 {W:World}(hE:Wt W):GE (ZW W):=λw hw=>by
 have hb:Below W.heap.size W { w with os:=W.os,tape:=W.tape,output:=W.output }:=⟨rfl,rfl,rfl,(show W.heap.size≤w.heap.size from Zs hw),λk hk=>by
  have h1:W.heap[k]? =some (W.heap[k]'hk):=Array.getElem?_eq_getElem hk;rw[h1];exact hw k _ h1⟩
 have hE2:=hE.st0 (St.of_below hb);exact⟨Se.block { w with os:=W.os,tape:=W.tape,output:=W.output } w (λ_ _=>rfl) hE2.tabs,hE2.size⟩
theorem Yk {W:World}(hE:Wt W):St ⟨W,ZW W,[],GE,[]⟩ [] (ZW W) W where
 os:=rfl
 tape:=rfl
 output:=rfl
 size:=Ae9 _
 old:=λ_ _ _=>rfl
 has:=λ_ h=>by cases h
 own:=λ_ h=>by cases h
 dis:=.nil
 frz:=ZW.frz W
 le:=Fz.le.refl _
 new:=λ_ _ h=>.inl h
 zdis:=λ_ h=>by cases h
 env:=X0 hE
 emono:=λh hg=>GE.mono h hg
 gst:=MZ.none rfl
theorem Yl {W W':World}{Z Z':Fz}{E:Fz→Prop}{H:List Ent}(h:St ⟨W,Z,[],E,[]⟩ H Z' W'):Below W.heap.size W W':=⟨h.os,h.tape,h.output,h.size,λk hk=>h.old k hk (by simp)⟩
def Dp (P:Program)(e:TypeId){α:Type}(enc:α→List Rp)(ok:α→Bool):Prop:=
 ∀{H:Type} {encH:TypeId×Value→H} {W:World} {sp:Nat→Bool} {held:Bool} {n:Nat} {cs:List Value} {x:DataW H×List MemPlace},DataW.trod encH P W 0 sp held n e cs=some x→Rows.uptoBulk x.1≤1048576→∃y:α,ok y=true∧B2 (ZW W) (enc y) cs
theorem Z3 {H:Type}(d:DataW H):1≤Rows.uptoBulk d:=by
 cases d with
 | lit l=>cases l<;>simp[Rows.uptoBulk]
 | _=>simp[Rows.uptoBulk]
theorem K5 {H:Type}:∀{ds:List (DataW H)} {d:DataW H},d∈ds→Rows.uptoBulk d≤Rows.uptoBulkAll ds
 | [],_,h=>by cases h
 | x::r,d,h=>by
  rw[Rows.uptoBulkAll];rcases List.mem_cons.1 h with rfl | h
  ·omega
  ·have:=K5 h;omega
theorem TV {H:Type}:∀(ds:List (DataW H)),ds.length≤Rows.uptoBulkAll ds
 | []=>AeO _
 | x::r=>by
  rw[Rows.uptoBulkAll];have:=TV r;have:=Z3 x;simp only[Ae0];omega
section
variable {P : Program} {e t : TypeId}
theorem Sf.toB {α:Type}{enc:α→List Rp}{ok:α→Bool}(h:Sf P e enc ok):Dp P e enc ok:=λhx _=>h hx
theorem Dp.int {k:IntKind}{enc:Int→List Rp}(ht:P.underlying e=some (.int k))(he:∀n,enc n=[rI k n]):Dp P e enc (Cb k):=Sf.toB (Sf.int ht he)
theorem Dp.bool {enc:Bool→List Rp}(ht:P.underlying e=some .bool)(he:∀n,enc n=[rB n]):Dp P e enc (λ_=>true):=Sf.toB (Sf.bool ht he)
theorem Dp.str {enc:Ae→List Rp}(ht:P.underlying e=some .string)(he:∀n,enc n=[rS n]):Dp P e enc G9:=λh hb=>by
 obtain⟨s,rfl,hx,hl⟩:=DataW.trod_string ht h;subst hx;simp only[Rows.uptoBulk] at hb;exact⟨s.data.toList,Aek (by omega),by rw[he];exact⟨congrArg Value.string (Adw s),trivial⟩⟩
theorem Dp.slice {α:Type}[Inhabited α]{enc:α→List Rp}{ok:α→Bool}{sz:Nat}(ht:P.underlying t=some (.slice e))(hc:P.cellsOf e=sz)(hsz:0<sz)(h:Dp P e enc ok)(hlen:∀y,(enc y).length=sz){enc':List α→List Rp}(he:∀ys,enc' ys=[AK sz (ys.map enc)]) :
  Dp P t enc' (λys=>ys.all ok&&decide (ys.length≤1048576)):=fun {H encH W sp held n cs x} hx hB=>by
 rcases open_slice ht hx with⟨rfl,_⟩ | ⟨a,len,cap,m,n',D,Pl,rfl,hb,hl,hm,hmm,hxe,hel⟩
 ·exact⟨[],by simp,by rw[he];exact⟨Uf.nil sz _,trivial⟩⟩
 ·have hlm:len≤m:=by rw[hmm];split<;>omega
  subst hxe;simp only[Rows.uptoBulk] at hB;have hlb:len≤1048576:=by
   have:=TV ((List.range len).map D);rw[Ae6,List.length_range] at this;omega
  have each:∀i,i<len→∃y:α,ok y=true∧∃cs',W.cells? 0 (a.add (i*sz)) sz=some cs'∧B2 (ZW W) (enc y) cs':=λi hi=>by
   obtain⟨cs',h1,h2⟩:=hel i (by omega);obtain⟨y,hy,hr⟩:=h h2 (by
    have:=K5 (List.mem_map.2 ⟨i,List.mem_range.2 hi,rfl⟩:D i∈(List.range len).map D);show Rows.uptoBulk (D i)≤1048576;omega)
   rw[hc] at h1;exact⟨y,hy,cs',h1,hr⟩
  obtain⟨f,hf⟩:=choose_lt each;refine⟨(List.range len).map f,?_,?_⟩
  ·simp only[Ael,AeI,List.mem_map,List.mem_range,Aeh];refine⟨?_,by simpa using hlb⟩;rintro _ ⟨i,hi,rfl⟩;exact(hf i hi).1
  ·rw[he];refine⟨⟨some a,cap,by simp,by simpa using hl,hm,(λh=>by cases h),λi c hi=>?_⟩,trivial⟩;rw[AeZ,AeC] at hi;have hil:i<len:=by
    cases hq:(List.range len)[i]? with
    | none=>rw[hq] at hi;cases hi
    | some _=>have:=(List.getElem?_eq_some_iff.1 hq).1;simpa using this
   rw[List.getElem?_range hil] at hi;simp only[Option.map_some,Option.some.injEq,Function.comp] at hi;subst hi;obtain⟨_,cs',h1,hr⟩:=hf i hil;obtain⟨_,hcl,hcell⟩:=World.cells?_some h1;have hsp:a.spot=none:=by
    obtain⟨_,cs0,g1,_⟩:=hf 0 (by omega);obtain⟨_,gcl,gcell⟩:=World.cells?_some g1;have h0:=gcell 0 hsz;rw[Aep (by omega)] at h0;have:=(KY h0).1;simpa[Addr.add] using this
   refine⟨hlen _,a,rfl,hsp,λj r hj=>?_⟩;obtain⟨u,hu,hp⟩:=hr.at hj;have hjs:j<sz:=by have:=(List.getElem?_eq_some_iff.1 hj).1;rw[hlen] at this;exact this
   have h3:=hcell j hjs;rw[hu] at h3;have h4:=(KY h3).2;refine⟨u,?_,hp⟩;have e1:((a.add (i*sz)).add j).block=a.block:=by simp only[Addr.add];split<;>split<;>rfl
   have e2:((a.add (i*sz)).add j).off=a.off+(i*sz+j):=by simp only[Addr.add];split<;>split<;>simp_all<;>omega
   rw[e1,e2] at h4;exact h4
theorem BI {H:Type}{xs:List (DataW H×List MemPlace)}{i:Nat}(hi:i<xs.length)(h:Rows.uptoBulk (DataW.agg (xs.map (·.1)))≤1048576):Rows.uptoBulk (xs[i]).1≤1048576:=by
 rw[Rows.uptoBulk] at h;have:=K5 (List.mem_map.2 ⟨xs[i],List.getElem_mem hi,rfl⟩:(xs[i]).1∈xs.map (·.1));omega
theorem Dp.val {α:Type}{enc:α→List Rp}{ok:α→Bool}(h:Dp P e enc ok){r:α→Rp}(he:∀y,enc y=[r y]){H:Type}{encH:TypeId×Value→H}{W:World}{sp:Nat→Bool}{held:Bool}{v:Value}{d:DataW H}{ps:List MemPlace}
  (hone:v.cells = #[v]) (ht:DataW.Trod encH P W 0 sp held e v d ps) (hb:Rows.uptoBulk d≤1048576):∃y:α,ok y=true∧(r y).p (ZW W) v:=by
 obtain⟨fuel,hf⟩:=ht;rw[hone] at hf;obtain⟨y,hy,hr⟩:=h hf hb;rw[he] at hr;exact⟨y,hy,hr.1⟩
theorem Dp.valAgg {α:Type}{enc:α→List Rp}{ok:α→Bool}(h:Dp P e enc ok){H:Type}{encH:TypeId×Value→H}{W:World}{sp:Nat→Bool}{held:Bool}{cs:Array Value}{d:DataW H}{ps:List MemPlace}
  (ht:DataW.Trod encH P W 0 sp held e (.agg cs) d ps) (hb:Rows.uptoBulk d≤1048576):∃y:α,ok y=true∧(B3 (enc y)).p (ZW W) (.agg cs):=by
 obtain⟨fuel,hf⟩:=ht;obtain⟨y,hy,hr⟩:=h hf hb;exact⟨y,hy,cs.toList,by simp,hr⟩
end
structure At {α:Type} (i:Nat) (l:List α) (e:α) (l':List α):Prop where
 go:l.Perm (e::l')
theorem Ado {α:Type}{e:α}{l:List α}:At 0 (e::l) e l:=⟨Aet _⟩
theorem Adm {α:Type}{i:Nat}{x e:α}{l l':List α}(h:At i l e l'):At (i+1) (x::l) e (x::l'):=⟨(h.go.cons x).trans (List.Perm.swap e x l')⟩
structure Pk {α:Type} (is:List Nat) (l l':List α):Prop where
 go:l.Perm l'
theorem AcG {α:Type}{l:List α}:Pk [] l l:=⟨Aet _⟩
theorem AcF {α:Type}{i:Nat}{r:List Nat}{l l1 l2:List α}{e:α}(h:At i l e l1)(t:Pk r l1 l2):Pk (i::r) l (e::l2):=⟨h.go.trans (t.go.cons e)⟩
structure XG {α:Type} (i:Nat) (l:List α) (x:α) (l':List α):Prop where
 go:l.set i x=l'
theorem AbC {α:Type}{a x:α}{l:List α}:XG 0 (a::l) x (x::l):=⟨rfl⟩
theorem AbB {α:Type}{i:Nat}{a x:α}{l l':List α}(h:XG i l x l'):XG (i+1) (a::l) x (a::l'):=⟨by rw[List.set_cons_succ,h.go]⟩
structure XI {α:Type} (i:Nat) (rs l l':List α):Prop where
 go:l.take i++rs++l.drop (i+rs.length)=l'
theorem AdC {α:Type}{l:List α}:XI 0 [] l l:=⟨by simp⟩
theorem AdB {α:Type}{r a:α}{rs l l':List α}(h:XI 0 rs l l'):XI 0 (r::rs) (a::l) (r::l'):=⟨by
 have:=h.go;simp only[List.take_zero,List.nil_append,AeK] at this ⊢;rw[Ae0,List.drop_succ_cons,List.cons_append,this]⟩
theorem AdA {α:Type}{i:Nat}{a:α}{rs l l':List α}(h:XI i rs l l'):XI (i+1) rs (a::l) (a::l'):=⟨by
 have:=h.go;rw[List.take_succ_cons,show i+1+rs.length=(i+rs.length)+1 from by omega,List.drop_succ_cons,List.cons_append,List.cons_append,this]⟩
section
variable {P : Program} {n : Nat} {c : Cx} {ops opsA : Array Oper} {Q : Exit → Act → World → Prop} {rest : List Oper} {l l' : Fr} {H H' H2 Hr : List Ent} {x : Code} {K : Act → World → Prop} {d : Nat} {ty t e : TypeId} {pos : String} {af : Array Edge} {y z : Operand} {r : Rp} {sz : Nat}
theorem JY (is:List Nat)(h:WK n c K l H2)(hp:Pk is H H2:=by repeat (first | exact AcG | apply AcF | exact Ado | apply Adm)):WK n c K l H:=ZP hp.go h
theorem EN (is:List Nat){f:FuncId}{args:List Operand}{ats:Array TypeId}{rs:List Rp}{Hin:List Ent}{Φ:Rp→List Ent→Prop}(hcall:∀(as1:Array Value) (w:World),(callFunc f as1).run P w = .ok (.enter f as1) w)(hc:Fn P c.E f rs Hin Φ)
  (h:∀r Ho,Φ r Ho→WL P n c ops Q rest ((d,r)::l) (Ho++Hr)) (hv:LW l args=some rs:=by rfl) (hp:Pk is H (Hin++Hr):=by repeat (first | exact AcG | apply AcF | exact Ado | apply Adm)) (hn:Nat.blt d n=true:=by rfl) :
  WL P n c ops Q ({ dst:=some d,op:=.call { callee:=.value (.func f),args:=args.toArray,argTypes:=ats },type:=ty,pos:=pos,after:=af,guard:=none }::rest) l H:=C5 hcall hv hp.go hc hn h
theorem H6 (h:WC P n c x Q l' H')(hl:l=l':=by first | (dsimp only;done) | (dsimp only;exact rfl) | exact rfl)(hH:H=H':=by first | (dsimp only;done) | (dsimp only;exact rfl) | exact rfl):WC P n c x Q l H:=Abp hl hH h
theorem Ir (h:WK n c K l' H')(hl:l=l':=by first | (dsimp only;done) | (dsimp only;exact rfl) | exact rfl)(hH:H=H':=by first | (dsimp only;done) | (dsimp only;exact rfl) | exact rfl):WK n c K l H:=Ac9 hl hH h
theorem us {i b off:Nat}{cs cs':List Rp}(hag:∀w,(sizeOf t).run P w = .ok 1 w)(hx:ev l z=some (rv (.pointer (some ⟨b,off,none⟩))))(hy:ev l y=some r)(hv:Q1 H r)(hi:H[i]? =some (.blk b cs e))(hlt:Nat.blt off cs.length=true)
  (h:WL P n c ops Q rest l H') (hcs:XG off cs r cs':=by repeat (first | exact AbC | apply AbB)) (hH:XG i H (.blk b cs' e) H':=by repeat (first | exact AbC | apply AbB)) :
  WL P n c ops Q ({ dst:=none,op:=.store t z y,type:=ty,pos:=pos,after:=af,guard:=none }::rest) l H:=Rs hag hx hy hv hi hlt hcs.go hH.go h
theorem Gx {i b off:Nat}{cs cs' rs:List Rp}(hsz:∀w,(sizeOf t).run P w = .ok sz w)(hx:ev l z=some (rv (.pointer (some ⟨b,off,none⟩))))(hy:ev l y=some (B3 rs))(hl:rs.length=sz)(hv:B5 H rs)(hi:H[i]? =some (.blk b cs e))(hlt:Nat.ble (off+sz) cs.length=true)
  (h:WL P n c ops Q rest l H') (hcs:XI off rs cs cs':=by repeat (first | exact AdC | apply AdB | apply AdA)) (hH:XG i H (.blk b cs' e) H':=by repeat (first | exact AbC | apply AbB)) :
  WL P n c ops Q ({ dst:=none,op:=.store t z y,type:=ty,pos:=pos,after:=af,guard:=none }::rest) l H:=NO hsz hx hy hl hv hi hlt (by rw[← hl];exact hcs.go) hH.go h
def We (os:List Oper)(acc:List Rp)(t:Nat)(l0:Fr):List Nat→Fr
 | []=>l0
 | j::r=>match Cu os j with
  | some d=>(d,acc.getD (t-1-j) (rv undef))::We os acc t l0 r
  | none=>We os acc t l0 r
def Ub:List Oper→List Rp→List Sp
 | o::os,r::rs=>⟨Dd o,r,1⟩::Ub os rs
 | _,_=>[]
theorem Vs:∀{os:List Oper} {rs:List Rp},os.length=rs.length→(Ub os rs).length=os.length
 | [],[],_=>rfl
 | o::os,r::rs,h=>by rw[Ub,Ae0,Ae0,Vs (by simpa using h)]
 | [],_::_,h=>by simp at h
 | _::_,[],h=>by simp at h
theorem Us:∀{os:List Oper} {rs:List Rp} {i:Nat} {o:Oper} {r:Rp},os[i]? =some o→rs[i]? =some r→(Ub os rs)[i]? =some ⟨Dd o,r,1⟩
 | o::os,r::rs,0,o',r',h1,h2=>by simp at h1 h2;subst h1;subst h2;rfl
 | o::os,r::rs,i+1,o',r',h1,h2=>by rw[Ub,List.getElem?_cons_succ];exact Us (by simpa using h1) (by simpa using h2)
 | [],_,i,_,_,h1,_=>by simp at h1
 | _::_,[],i,_,_,_,h2=>by simp at h2
def RdH (P:Program)(n:Nat)(c:Cx)(Q:Exit→Act→World→Prop)(os:List Oper)(l0:Fr)(H:List Ent)(acc:List Rp):Prop:=
 ∀(i:Nat) o r,os[i]? =some o→acc.reverse[i]? =some r→DD P n c os.toArray Q (We os (acc.drop (acc.length-i)) i l0 (Dd o)) H o r H
def Wq (P:Program)(n:Nat)(c:Cx)(Q:Exit→Act→World→Prop)(os:List Oper)(l0:Fr)(H:List Ent)(G:Prop)(t:Nat)(acc:List Rp)(rest:List Oper):Prop:=
 rest=os.drop t→t=acc.length→RdH P n c Q os l0 H acc→G
theorem RdH.cons {os:List Oper}{l0:Fr}{acc:List Rp}{o:Oper}{r:Rp}(h:RdH P n c Q os l0 H acc)(ho:os[acc.length]? =some o)(hr:DD P n c os.toArray Q (We os acc acc.length l0 (Dd o)) H o r H):RdH P n c Q os l0 H (r::acc):=λi o' r' h1 h2=>by
 rw[List.reverse_cons] at h2
 by_cases hi:i<acc.length
 ·rw[AeS (by simpa using hi)] at h2;have:=h i o' r' h1 h2;rw[Ae0,show acc.length+1-i=(acc.length-i)+1 from by omega,List.drop_succ_cons];exact this
 ·have hlt:=(List.getElem?_eq_some_iff.1 h2).1;simp at hlt;have e:i=acc.length:=by omega
  subst e;rw[List.getElem?_append_right (by simp)] at h2;simp at h2;subst h2;rw[ho] at h1;obtain rfl:=Option.some.inj h1;rw[Ae0,show acc.length+1-acc.length=1 from by omega,List.drop_succ_cons,List.drop_zero];exact hr
theorem Zt {os:List Oper}{acc:List Rp}{l0:Fr}{i:Nat}(hl:acc.length=os.length)(hi:i≤acc.length):∀{js:List Nat},(∀j∈js,j<i)→We os (acc.drop (acc.length-i)) i l0 js=Cd os (Ub os acc.reverse) js l0
 | [],_=>rfl
 | j::js,h=>by
  have hj:=h j (by simp);have ih:=Zt (l0:=l0) hl hi (js:=js) λj' hj'=>h j' (by simp[hj']);unfold We Cd;have ho:os[j]? =some (os[j]'(by omega)):=Aep (by omega);have hr:acc.reverse[j]? =some (acc.reverse[j]'(by simp;omega)):=Aep (by simp;omega);have e:(acc.drop (acc.length-i)).getD (i-1-j) (rv undef)=(Eh (Ub os acc.reverse) j).r:=by
   unfold Eh;rw[Aen,Aen,Us ho hr,List.getElem?_drop,AeE];rw[Aep (by omega),AeE];show _=acc.reverse[j]'(by simp;omega);rw[List.getElem_reverse]
   congr 1
   omega
  rw[e,ih]
  cases Cu os j<;>rfl
theorem CJ {id:Nat}{os:List Oper}{l0:Fr}(ks0:List Nat)(h:Wq P n c Q os l0 H (Kp ks0 l l0→WC P n c (.region id os.toArray true) Q l H) 0 [] os)(h0:Kp ks0 l l0:=by repeat (first | exact Om | (apply LI;rfl) | (apply MF;rfl))):WC P n c (.region id os.toArray true) Q l H:=
 h (by simp) rfl (λi o r _ h2=>by simp at h2) h0
theorem Eo {os:List Oper}{l0:Fr}{G:Prop}{t:Nat}{acc:List Rp}{o:Oper}{r:Rp}{rest:List Oper}(hr:DD P n c os.toArray Q (We os acc t l0 (Dd o)) H o r H)(h:Wq P n c Q os l0 H G (t+1) (r::acc) rest):Wq P n c Q os l0 H G t acc (o::rest):=λh1 h2 h3=>by
 subst h2;have ho:os[acc.length]? =some o:=by have:=congrArg (·[0]?) h1;simp at this;exact this.symm
 exact h (by have:=congrArg List.tail h1;simpa using this) rfl (h3.cons ho hr)
section
variable {os : List Oper} {l0 : Fr} {G : Prop} {t : Nat} {acc : List Rp} {r : Rp} {rest : List Oper} {op : Op} {j dj : Nat} {want b : Bool} {dd : Option Nat}
theorem rq (hr:BD P n c (We os acc t l0 (Dd { dst:=some d,op:=op,type:=ty,pos:=pos,after:=af,guard:=none })) H { dst:=some d,op:=op,type:=ty,pos:=pos,after:=af,guard:=none } r)(h:Wq P n c Q os l0 H G (t+1) (r::acc) rest) :
  Wq P n c Q os l0 H G t acc ({ dst:=some d,op:=op,type:=ty,pos:=pos,after:=af,guard:=none }::rest):=Eo (Dt hr) h
theorem rg (hb:b=want)(hr:BD P n c (We os acc t l0 (Dd { dst:=some d,op:=op,type:=ty,pos:=pos,after:=af,guard:=some (j,want) })) H { dst:=some d,op:=op,type:=ty,pos:=pos,after:=af,guard:=none } r)(h:Wq P n c Q os l0 H G (t+1) (r::acc) rest)
  (hj:DU os.toArray j=some dj:=by rfl) (hv:look (We os acc t l0 (Dd { dst:=some d,op:=op,type:=ty,pos:=pos,after:=af,guard:=some (j,want) })) dj=some (rB b):=by rfl) :
  Wq P n c Q os l0 H G t acc ({ dst:=some d,op:=op,type:=ty,pos:=pos,after:=af,guard:=some (j,want) }::rest):=Eo (QN hj hv hb (Dt hr)) h
theorem ro (hb:b=want)(hr:DD P n c os.toArray Q (We os acc t l0 (Dd { dst:=dd,op:=op,type:=ty,pos:=pos,after:=af,guard:=some (j,want) })) H { dst:=dd,op:=op,type:=ty,pos:=pos,after:=af,guard:=none } r H)(h:Wq P n c Q os l0 H G (t+1) (r::acc) rest)
  (hj:DU os.toArray j=some dj:=by rfl) (hv:look (We os acc t l0 (Dd { dst:=dd,op:=op,type:=ty,pos:=pos,after:=af,guard:=some (j,want) })) dj=some (rB b):=by rfl) :
  Wq P n c Q os l0 H G t acc ({ dst:=dd,op:=op,type:=ty,pos:=pos,after:=af,guard:=some (j,want) }::rest):=Eo (QN hj hv hb hr) h
theorem rz (hb:b = !want)(h:Wq P n c Q os l0 H G (t+1) (rv undef::acc) rest)
  (hj:DU os.toArray j=some dj:=by rfl) (hv:look (We os acc t l0 (Dd { dst:=dd,op:=op,type:=ty,pos:=pos,after:=af,guard:=some (j,want) })) dj=some (rB b):=by rfl) :
  Wq P n c Q os l0 H G t acc ({ dst:=dd,op:=op,type:=ty,pos:=pos,after:=af,guard:=some (j,want) }::rest):=Eo (AbL hj hv hb) h
theorem ru (h:Wq P n c Q os l0 H G (t+1) (rv undef::acc) rest)
  (hj:DU os.toArray j=some dj:=by rfl) (hv:look (We os acc t l0 (Dd { dst:=dd,op:=op,type:=ty,pos:=pos,after:=af,guard:=some (j,want) })) dj=some (rv undef):=by rfl) :
  Wq P n c Q os l0 H G t acc ({ dst:=dd,op:=op,type:=ty,pos:=pos,after:=af,guard:=some (j,want) }::rest):=Eo (Y6 hj hv) h
end
theorem re {id:Nat}{os:List Oper}{l0 l1:Fr}{ks0:List Nat}{t:Nat}{acc:List Rp}(ks:List Nat)(h:WK n c (Q .normal) l1 H)
  (hz:Kz ks os (Ub os acc.reverse) l0 l1:=by repeat (first | (apply Acb;rfl) | (apply Acd;rfl) | apply Acc | apply Ace | exact Om | (apply LI;rfl) | (apply MF;rfl)))
  (hm:P.follows .mixedOrders=true:=by kernel_rfl) (hB:okB n os os.length (EC l0) (os.map Dd) (os.map λ_=>1)=true:=by kernel_rfl) (ht:t=os.length:=by rfl) :
  Wq P n c Q os l0 H (Kp ks0 l l0→WC P n c (.region id os.toArray true) Q l H) t acc []:=λ_ hl hob h0=>by
 have hlen:acc.length=os.length:=by omega
 have hsp:(Ub os acc.reverse).length=os.length:=Vs (by simpa using hlen.symm);have key:∀{os:List Oper} {rs:List Rp},os.length=rs.length→(Ub os rs).map (·.deps)=os.map Dd∧(Ub os rs).map (·.kd)=os.map λ_=>1:=by
  intro os
  induction os with
  | nil=>intro rs h;cases rs with
   | nil=>exact⟨rfl,rfl⟩
   | cons _ _=>simp at h
  | cons o os ih=>intro rs h;cases rs with
   | nil=>simp at h
   | cons r rs=>obtain⟨h1,h2⟩:=ih (rs:=rs) (by simpa using h);exact⟨by simp[Ub,h1],by simp[Ub,h2]⟩
 obtain⟨k1,k2⟩:=key (os:=os) (rs:=acc.reverse) (by simpa using hlen.symm);have hlt:∀(i:Nat) o,os[i]? =some o→∀j∈Dd o,j<i:=by
  have hB':=hB;unfold okB at hB';simp only[Ael] at hB';have h1:=hB'.1.1.1.1.1.1;intro i o ho j hj;have hi:=(List.getElem?_eq_some_iff.1 ho).1;have h2:=List.all_eq_true.1 h1 i (List.mem_range.2 hi);have e:os.getD i default=o:=by rw[Aen,ho];rfl
  rw[e] at h2;exact AeL (List.all_eq_true.1 h2 j hj)
 have hobl:∀(k:Nat) (rest:List Oper),rest=os.drop k→PZ P n c os.toArray Q os (Ub os acc.reverse) l0 (List.replicate (os.length+1) H) k rest (List.replicate (rest.length+1) H):=by
  intro k rest
  induction rest generalizing k with
  | nil=>intro _;exact trivial
  | cons o rest ih=>
   intro hr;have ho:os[k]? =some o:=by have:=congrArg (·[0]?) hr;simp at this;exact this.symm
   have hk:=(List.getElem?_eq_some_iff.1 ho).1;have hrr:acc.reverse[k]? =some (acc.reverse[k]'(by simp;omega)):=Aep (by simp;omega);have hs:Eh (Ub os acc.reverse) k=⟨Dd o,acc.reverse[k]'(by simp;omega),1⟩:=by
    unfold Eh;rw[Aen,Us ho hrr];rfl
   have ih:=ih (k+1) (by have:=congrArg List.tail hr;simpa using this);have hop:=hob k o _ ho hrr;rw[Zt hlen (by omega) (hlt k o ho)] at hop;rw[Ae0,List.replicate_succ,List.replicate_succ];refine⟨?_,by rw[← List.replicate_succ];exact ih⟩;rw[hs];exact⟨rfl,hop⟩
 refine En (l0:=l0) (l1:=l1) ks0 (Ub os acc.reverse) (List.replicate (os.length+1) H) ks (hobl 0 os (by simp)) h h0 hz hm (by rw[k1,k2];exact hB) hsp (by simp) (by simp[Aen,List.getElem?_replicate])
end
open Go
def NA (l:(List Int)):Option ((List Int)):=
 some l
def K7 (l:(List Int))(c:Int):Option (Unit×(List Int)):=
 Bs (NA l) λr1=>Bk (D2 1 (r1.length+([c]:List Int).length))<|some ((),r1++([c]:List Int))
def IL (l:(List Int))(s:Ae):Option (Int×Unit×(List Int)):=
 Bs (NA l) λr1=>Bk (D2 1 (r1.length+s.length))<|some ((s.length:Int),(),r1++EK s)
def PU (l:Ae):Option (Ae):=
 Bk (decide (0<(EK l).length))<|some l
def N9 (l:(List Int)):Option ((List Int)):=
 some l
def K6 (l:(List Int))(c:Int):Option (Unit×(List Int)):=
 Bs (N9 l) λr1=>Bk (D2 1 (r1.length+([c]:List Int).length))<|some ((),r1++([c]:List Int))
def IK (l:(List Int))(s:Ae):Option (Int×Unit×(List Int)):=
 Bs (N9 l) λr1=>Bk (D2 1 (r1.length+s.length))<|some ((s.length:Int),(),r1++EK s)
def PT (l:Ae):Option (Ae):=
 Bk (decide (0<(EK l).length))<|some l
set_option maxRecDepth 100000
set_option maxHeartbeats 4000000
theorem VT:∃inf,Tryz.prog.info? 5=some inf∧inf.zero=some (.int .u8 0)∧inf.size=1∧inf.bytes=1:=by
  have key:(Tryz.prog.info? 5).map (λi=>(i.zero,i.size,i.bytes))=some (some (.int .u8 0),1,1):=by kernel_rfl
  obtain⟨inf,h1,h2⟩:=Option.map_eq_some_iff.1 key;simp only[Prod.mk.injEq] at h2;exact⟨inf,h1,h2.1,h2.2.1,h2.2.2⟩
theorem T1:∃j,Tryz.prog.info? 177=some j∧j.size≠0:=by
  have key:(Tryz.prog.info? 177).map (λi=>i.size)=some 2:=by kernel_rfl
  obtain⟨j,h1,h2⟩:=Option.map_eq_some_iff.1 key;exact⟨j,h1,by rw[h2];decide⟩
theorem T2:∃j,Tryz.prog.info? 177=some j:=T1.imp λ_ h=>h.1
theorem TX (hb:Nat)(hd:Value)(l:(List Int))(r:(List Int))(h:NA l=some r):Fn Tryz.prog GE 198 [rP hb 0] [.blk hb [rv (.pointer none),rv hd] 177,.row hd 5 1 (Az Ct l)] (λR H=>∃w0:Value,R=rv (.tuple #[])∧H=[.blk hb [rP hb 0,rv w0] 177,.row w0 5 1 (Az Ct r)]):=by
 refine enter (n:=20) Tryz.func198 Aa Tryz.ntmps198 Aa (λw Z=>?_);unfold NA at h;refine Ah (wm Aa (wv (AD Aa) (vF Hu Aa S2 (vL 0 Gp Aa (wv (r:=rB true) (M7 ⟨_,Su⟩ Aa) (Ap (CG Aa Aa (Ak (wm Aa (wm Aa (wv (r:=rP hb 0) (Ta (i:=0) Su Tryz.underlying248 T1 Aa Aa Aa) (AA (r:=rP hb 0) (Aay Tryz.func224 (by kernel_rfl) (by kernel_rfl) (by kernel_rfl) (by kernel_rfl) Aa) Aa (wv (r:=rP hb 0) (Qs (i:=0) Tryz.underlying248 Su T2 Aa Aa (by kernel_rfl)) (wv (AD Aa) (vF Hu Aa S2 (us (i:=0) S2 Aa Aa (BP Aa) Aa Aa ?_))))))))))))))));refine Aq ?_;obtain rfl:=Av h;exact HO (WV Tryz.results198) (sC (sC sN)) ⟨hd,Aa,Aa⟩
theorem Qz (hb:Nat)(hd:Value)(l:(List Int))(c:Int)(r:Unit×(List Int))(h:K7 l c=some r):Fn Tryz.prog GE 165 [rP hb 0,rI .u8 c] [.blk hb [rv (.pointer none),rv hd] 177,.row hd 5 1 (Az Ct l)] (λR H=>∃w0:Value,R=rv (.nilIface)∧H=[.blk hb [rP hb 0,rv w0] 177,.row w0 5 1 (Az Ct r.2)]):=by
 refine enter (n:=17) Tryz.func165 Aa Tryz.ntmps165 Aa (λw Z=>?_);unfold K7 at h;refine Ah (wa Aa (Bu (wm Aa (ob h λr1 e3 h2=>EN [0,0] Tryz.call198 (TX hb hd l r1 e3) ?_))));rintro _ _ ⟨v4,rfl,rfl⟩;refine Bu (wm Aa (wm Aa (wv (AD Aa) (vF Hu Aa Hy (vL 0 NI Aa (wm Aa (Bg (ys:=([c]:List Int)) (enc:=Ct) (css:=[[rI .u8 c]]) (xs:=[.tmp 12]) JW Tryz.sizeOf5 Tryz.zeroValue5 Aa Aa Aa ⟨Ek.one Aa (Up.refl _),trivial⟩ Aa KW Aa Aa Aa (λb5=>?_))))))));refine ck h2 λg7 h8=>Exists.elim VT λinf hinf=>Di (xs:=r1) (ys:=([c]:List Int)) (enc:=Ct) (i:=2) JW hinf.1 hinf.2.1 hinf.2.2.1 hinf.2.2.2 Aa Aa Aa Aa Aa (NC.w (i:=0) Aa Aa) KW Rd g7 Aa (λv6=>?_);refine wv (AD Aa) (vF Hu Aa Hy (us (i:=2) Hy Aa Aa (Ex (i:=0) Aa) Aa Aa ?_));refine Bu (wa Aa (Ap (Ar (JY [2] ?_))));obtain rfl:=Av h8;exact As (BH Tryz.results165 (AQ Aa)) (sC (sC (sS sN))) ⟨v6,Aa,Aa⟩
theorem Ou (hb:Nat)(hd:Value)(l:(List Int))(s:Ae)(r:Int×Unit×(List Int))(h:IL l s=some r):Fn Tryz.prog GE 162 [rP hb 0,rS s] [.blk hb [rv (.pointer none),rv hd] 177,.row hd 5 1 (Az Ct l)] (λR H=>∃w0:Value,R=Dr [A2 r.1,rv (.nilIface)]∧H=[.blk hb [rP hb 0,rv w0] 177,.row w0 5 1 (Az Ct r.2.2)]):=by
 refine enter (n:=19) Tryz.func162 Aa Tryz.ntmps162 Aa (λw Z=>?_);unfold IL at h;refine Ah (wa Aa (wa Aa (Bu (wm Aa (ob h λr1 e3 h2=>EN [0,0] Tryz.call198 (TX hb hd l r1 e3) ?_)))));rintro _ _ ⟨v4,rfl,rfl⟩;refine Bu (wm Aa (wm Aa (wv (AD Aa) (vF Hu Aa Hy (vL 0 NI Aa (wm Aa (ck h2 λg6 h7=>Exists.elim VT λinf hinf=>Mh (xs:=r1) (i:=1) JW DH hinf.1 hinf.2.1 hinf.2.2.1 hinf.2.2.2 Aa Aa Aa g6 Aa (λv5=>?_))))))));refine wv (AD Aa) (vF Hu Aa Hy (us (i:=1) Hy Aa Aa (Ex (i:=0) Aa) Aa Aa ?_));refine Bu (wm Aa (wv (BS DH Aa) (wa Aa (wa Aa (Ap (Ar (JY [1] ?_)))))));obtain rfl:=Av h7;exact As (Iy Tryz.results162 (AQ Aa) (AQ Aa)) (sC (sC sN)) ⟨v5,Aa,Aa⟩
theorem UW (hb:Nat)(hd:Value)(l:Ae)(r:Ae)(h:PU l=some r):Fn Tryz.prog GE 120 [rP hb 0] [.blk hb [rv (.pointer none),rv hd] 177,.row hd 5 1 (Az Ct (EK l))] (λR H=>R=rS r∧H=[]):=by
 refine enter (n:=14) Tryz.func120 Aa Tryz.ntmps120 Aa (λw Z=>?_);unfold PU at h;refine Ah (wv (r:=rS ([]:Ae)) (A4 Aa) (Ap (Al (ck h λg1 h2=>En (H1:=[.blk hb [rv (.pointer none),rv hd] 177]) [0] [⟨[],rP hb 0,0⟩,⟨[0],rP hb 0,0⟩,⟨[1],rP hb 1,0⟩,⟨[2],rv hd,1⟩,⟨[3],rv (slp hd),1⟩,⟨[],rP hb 0,0⟩,⟨[5],rP hb 0,0⟩,⟨[6],rP hb 1,0⟩,⟨[7],rv hd,1⟩,⟨[8],A2 ((EK l).length:Int),1⟩,⟨[4,9],rS l,2⟩,⟨[10],rS l,0⟩] (rle [(11,_),(2,[.blk hb [rv (.pointer none),rv hd] 177])]) [2] ?_ ?_))))
 ·refine oq (Aj Aa) (oq (AD Aa) (oq (Am Hu Aa Hy Aa Aa) (of (AU (i:=0) NI Aa Aa Aa) (of (NR (i:=1) Aa Aa (O1 g1)) (oq (Aj Aa) (oq (AD Aa) (oq (Am Hu Aa Hy Aa Aa) (of (AU (i:=0) NI Aa Aa Aa) (of (CQ (ys:=EK l) (enc:=Ct) (i:=1) JW Aa Aa) (DS Aa (AcL (K8 (i:=1) Tryz.underlying213 (by kernel_rfl) Aa Aa Aa (O1 g1) Aa)) ?_))))))))));refine oq (A4 Aa) ?_;exact Du
 refine Bb (Ar ?_);obtain rfl:=Av h2;exact As (BH Tryz.results120 (AQ Aa)) (sS sN) ⟨Aa,Aa⟩
theorem TW (hb:Nat)(hd:Value)(l:(List Int))(r:(List Int))(h:N9 l=some r):Fn Tryz.prog GE 198 [rP hb 0] [.blk hb [rP hb 0,rv hd] 177,.row hd 5 1 (Az Ct l)] (λR H=>∃w0:Value,R=rv (.tuple #[])∧H=[.blk hb [rP hb 0,rv w0] 177,.row w0 5 1 (Az Ct r)]):=by
 refine enter (n:=20) Tryz.func198 Aa Tryz.ntmps198 Aa (λw Z=>?_);unfold N9 at h;refine Ah (wm Aa (wv (AD Aa) (vF Hu Aa S2 (vL 0 Gp Aa (wv (r:=rB false) (J4 ⟨_,Su⟩ Aa) (Ap (CS Aa Aa (Ah (wm Aa (wv (AD Aa) (vF Hu Aa S2 (vL 0 Gp Aa (wm Aa (wv (r:=rB false) (U7 Su T2 Aa Aa) (Ap (CS Aa Aa (A0 ?_)))))))))))))))));obtain rfl:=Av h;exact HO (WV Tryz.results198) (sC (sC sN)) ⟨hd,Aa,Aa⟩
theorem Qy (hb:Nat)(hd:Value)(l:(List Int))(c:Int)(r:Unit×(List Int))(h:K6 l c=some r):Fn Tryz.prog GE 165 [rP hb 0,rI .u8 c] [.blk hb [rP hb 0,rv hd] 177,.row hd 5 1 (Az Ct l)] (λR H=>∃w0:Value,R=rv (.nilIface)∧H=[.blk hb [rP hb 0,rv w0] 177,.row w0 5 1 (Az Ct r.2)]):=by
 refine enter (n:=17) Tryz.func165 Aa Tryz.ntmps165 Aa (λw Z=>?_);unfold K6 at h;refine Ah (wa Aa (Bu (wm Aa (ob h λr1 e3 h2=>EN [0,0] Tryz.call198 (TW hb hd l r1 e3) ?_))));rintro _ _ ⟨v4,rfl,rfl⟩;refine Bu (wm Aa (wm Aa (wv (AD Aa) (vF Hu Aa Hy (vL 0 NI Aa (wm Aa (Bg (ys:=([c]:List Int)) (enc:=Ct) (css:=[[rI .u8 c]]) (xs:=[.tmp 12]) JW Tryz.sizeOf5 Tryz.zeroValue5 Aa Aa Aa ⟨Ek.one Aa (Up.refl _),trivial⟩ Aa KW Aa Aa Aa (λb5=>?_))))))));refine ck h2 λg7 h8=>Exists.elim VT λinf hinf=>Di (xs:=r1) (ys:=([c]:List Int)) (enc:=Ct) (i:=2) JW hinf.1 hinf.2.1 hinf.2.2.1 hinf.2.2.2 Aa Aa Aa Aa Aa (NC.w (i:=0) Aa Aa) KW Rd g7 Aa (λv6=>?_);refine wv (AD Aa) (vF Hu Aa Hy (us (i:=2) Hy Aa Aa (Ex (i:=0) Aa) Aa Aa ?_));refine Bu (wa Aa (Ap (Ar (JY [2] ?_))));obtain rfl:=Av h8;exact As (BH Tryz.results165 (AQ Aa)) (sC (sC (sS sN))) ⟨v6,Aa,Aa⟩
theorem Ot (hb:Nat)(hd:Value)(l:(List Int))(s:Ae)(r:Int×Unit×(List Int))(h:IK l s=some r):Fn Tryz.prog GE 162 [rP hb 0,rS s] [.blk hb [rP hb 0,rv hd] 177,.row hd 5 1 (Az Ct l)] (λR H=>∃w0:Value,R=Dr [A2 r.1,rv (.nilIface)]∧H=[.blk hb [rP hb 0,rv w0] 177,.row w0 5 1 (Az Ct r.2.2)]):=by
 refine enter (n:=19) Tryz.func162 Aa Tryz.ntmps162 Aa (λw Z=>?_);unfold IK at h;refine Ah (wa Aa (wa Aa (Bu (wm Aa (ob h λr1 e3 h2=>EN [0,0] Tryz.call198 (TW hb hd l r1 e3) ?_)))));rintro _ _ ⟨v4,rfl,rfl⟩;refine Bu (wm Aa (wm Aa (wv (AD Aa) (vF Hu Aa Hy (vL 0 NI Aa (wm Aa (ck h2 λg6 h7=>Exists.elim VT λinf hinf=>Mh (xs:=r1) (i:=1) JW DH hinf.1 hinf.2.1 hinf.2.2.1 hinf.2.2.2 Aa Aa Aa g6 Aa (λv5=>?_))))))));refine wv (AD Aa) (vF Hu Aa Hy (us (i:=1) Hy Aa Aa (Ex (i:=0) Aa) Aa Aa ?_));refine Bu (wm Aa (wv (BS DH Aa) (wa Aa (wa Aa (Ap (Ar (JY [1] ?_)))))));obtain rfl:=Av h7;exact As (Iy Tryz.results162 (AQ Aa) (AQ Aa)) (sC (sC sN)) ⟨v5,Aa,Aa⟩
theorem UV (hb:Nat)(hd:Value)(l:Ae)(r:Ae)(h:PT l=some r):Fn Tryz.prog GE 120 [rP hb 0] [.blk hb [rP hb 0,rv hd] 177,.row hd 5 1 (Az Ct (EK l))] (λR H=>R=rS r∧H=[]):=by
 refine enter (n:=14) Tryz.func120 Aa Tryz.ntmps120 Aa (λw Z=>?_);unfold PT at h;refine Ah (wv (r:=rS ([]:Ae)) (A4 Aa) (Ap (Al (ck h λg1 h2=>En (H1:=[.blk hb [rP hb 0,rv hd] 177]) [0] [⟨[],rP hb 0,0⟩,⟨[0],rP hb 0,0⟩,⟨[1],rP hb 1,0⟩,⟨[2],rv hd,1⟩,⟨[3],rv (slp hd),1⟩,⟨[],rP hb 0,0⟩,⟨[5],rP hb 0,0⟩,⟨[6],rP hb 1,0⟩,⟨[7],rv hd,1⟩,⟨[8],A2 ((EK l).length:Int),1⟩,⟨[4,9],rS l,2⟩,⟨[10],rS l,0⟩] (rle [(11,_),(2,[.blk hb [rP hb 0,rv hd] 177])]) [2] ?_ ?_))))
 ·refine oq (Aj Aa) (oq (AD Aa) (oq (Am Hu Aa Hy Aa Aa) (of (AU (i:=0) NI Aa Aa Aa) (of (NR (i:=1) Aa Aa (O1 g1)) (oq (Aj Aa) (oq (AD Aa) (oq (Am Hu Aa Hy Aa Aa) (of (AU (i:=0) NI Aa Aa Aa) (of (CQ (ys:=EK l) (enc:=Ct) (i:=1) JW Aa Aa) (DS Aa (AcL (K8 (i:=1) Tryz.underlying213 (by kernel_rfl) Aa Aa Aa (O1 g1) Aa)) ?_))))))))));refine oq (A4 Aa) ?_;exact Du
 refine Bb (Ar ?_);obtain rfl:=Av h2;exact As (BH Tryz.results120 (AQ Aa)) (sS sN) ⟨Aa,Aa⟩
theorem CF (b:Nat)(v:Value)(l:Ae)(c:Int)(g1:D2 1 (l.length+1)=true)(g2:Cb .u8 c=true):Fn Tryz.prog GE 165 [rP b 0,rI .u8 c] [.bld 177 5 b v l] (λR H=>∃w0:Value,R=rv .nilIface∧H=[.bld 177 5 b w0 (l++[UInt8.ofNat c.toNat])]):=by
  have hc:EK (l++[UInt8.ofNat c.toNat])=EK l++[c]:=by
    have:=(by simpa[Cb,IntKind.min,IntKind.max,IntKind.signed,IntKind.bits] using g2:0≤c∧c≤255)
    simp only[EK,List.map_append,AeV,List.map_nil]
    congr 2
    simp;omega
  refine Fn.bld (res:=rv .nilIface) λp hp=>?_;rw[hc];rcases hp with rfl | rfl
  · refine(Qz b v (EK l) c (((),EK l++[c])) ?_).sub (Iq.refl _) (λr H h=>by obtain⟨w0,h1,h2⟩:=h;exact⟨w0,h1,h2⟩)
    simp only[K7,NA,Bs,Ev];simp[Bk,g1]
  · refine(Qy b v (EK l) c (((),EK l++[c])) ?_).sub (Iq.refl _) (λr H h=>by obtain⟨w0,h1,h2⟩:=h;exact⟨w0,h1,h2⟩)
    simp only[K6,N9,Bs,Ev];simp[Bk,g1]
theorem GU (b:Nat)(v:Value)(l s:Ae)(g1:D2 1 (l.length+s.length)=true):Fn Tryz.prog GE 162 [rP b 0,rS s] [.bld 177 5 b v l] (λR H=>∃w0:Value,R=Dr [A2 (s.length:Int),rv .nilIface]∧H=[.bld 177 5 b w0 (l++s)]):=by
  have hc:EK (l++s)=EK l++EK s:=by simp[EK]
  refine Fn.bld (res:=Dr [A2 (s.length:Int),rv .nilIface]) λp hp=>?_;rw[hc];rcases hp with rfl | rfl
  · refine(Ou b v (EK l) s (((s.length:Int),(),EK l++EK s)) ?_).sub (Iq.refl _) (λr H h=>by obtain⟨w0,h1,h2⟩:=h;exact⟨w0,h1,h2⟩)
    simp only[IL,NA,Bs,Ev];simp[Bk,g1]
  · refine(Ot b v (EK l) s (((s.length:Int),(),EK l++EK s)) ?_).sub (Iq.refl _) (λr H h=>by obtain⟨w0,h1,h2⟩:=h;exact⟨w0,h1,h2⟩)
    simp only[IK,N9,Bs,Ev];simp[Bk,g1]
theorem Rk (b:Nat)(v:Value)(l:Ae)(g1:decide (0<l.length)=true):Fn Tryz.prog GE 120 [rP b 0] [.bld 177 5 b v l] (λR H=>R=rS l∧H=[]):=by
  refine Fn.bldS (res:=rS l) λp hp=>?_;rcases hp with rfl | rfl
  · exact UW b v l l (by simp only[PU,Ev];simp[Bk,g1])
  · exact UV b v l l (by simp only[PT,Ev];simp[Bk,g1])
end Go.Proofs.YtmjlemhondjfhaaGreatDoor.Q
namespace Go.Proofs.YtmjlemhondjfhaaGreatDoor
open Go
set_option linter.unusedVariables false
structure Ab where
 fKind:Int
 fInt:Int
 fStr:Ae
 fN:Int
 deriving DecidableEq,Inhabited
def WY (s:Ae)(hb:Int):Option (Stp (Int) (Out (Bool) (Unit))):=
 BB (decide (hb<(s.length:Int))) (Bk (Ck hb (s.length:Int))<|BB (((decide ((Cw s hb)<32))||(decide (126<(Cw s hb))))) (some (.out (.ret false))) (Bk (Cb .i64 (hb+1))<|some (.next (hb+1)))) (some (.out (.go ())))
def WW :Option (Bool):=
 some true
def R3 (F:Nat)(s:Ae):Option (Bool):=
 Bs (Cl (λσ=>WY s σ) F 0) (Co λν=>WW )
def Ds (ok:Bool)(i:Int):Option (Int):=
 BB (ok) (Bk (Cb .i64 (i+1))<|some (i+1)) (some (-1))
def Yz (F:Nat)(c:Ab):Option (Bool):=
 Bk (imp (decide (c.fKind=4)) (imp (decide (c.fInt=0)) (imp (decide (c.fN=0)) ((R3 F c.fStr).isSome))))<|some ((decide (c.fKind=4))&&((decide (c.fInt=0))&&((decide (c.fN=0))&&(ov (R3 F c.fStr)))))
def Yx (F:Nat)(hb:(List Ab)→Int→Int→Option (Int))(hd:(List Ab)→Int→Int→Option (Int))(v:(List Ab))(i:Int):Option (Int):=
 BB (((decide (i<0))||(decide ((v.length:Int)≤i)))) (some (-1)) (Bk (Ck i (v.length:Int))<|BB (decide (((An v i).fKind)=1)) (Bk (imp (decide (((An v i).fInt)=0)) (imp (decide (((An v i).fStr)=([]:Ae))) ((Ds (decide (((An v i).fN)=0)) i).isSome)))<|Bk (imp (decide (((An v i).fInt)=0)) (imp (!(decide (((An v i).fStr)=([]:Ae)))) ((Ds false i).isSome)))<|Bk (imp (!(decide (((An v i).fInt)=0))) ((Ds false i).isSome))<|some (bif decide (((An v i).fInt)=0) then(bif decide (((An v i).fStr)=([]:Ae)) then(ov (Ds (decide (((An v i).fN)=0)) i)) else(ov (Ds false i))) else(ov (Ds false i)))) (BB (decide (((An v i).fKind)=2)) (Bk (imp (decide (((An v i).fInt)=0)) (imp (decide (((An v i).fStr)=([]:Ae))) ((Ds (decide (((An v i).fN)=0)) i).isSome)))<|Bk (imp (decide (((An v i).fInt)=0)) (imp (!(decide (((An v i).fStr)=([]:Ae)))) ((Ds false i).isSome)))<|Bk (imp (!(decide (((An v i).fInt)=0))) (imp (decide (((An v i).fInt)=1)) (imp (decide (((An v i).fStr)=([]:Ae))) ((Ds (decide (((An v i).fN)=0)) i).isSome))))<|Bk (imp (!(decide (((An v i).fInt)=0))) (imp (decide (((An v i).fInt)=1)) (imp (!(decide (((An v i).fStr)=([]:Ae)))) ((Ds false i).isSome))))<|Bk (imp (!(decide (((An v i).fInt)=0))) (imp (!(decide (((An v i).fInt)=1))) ((Ds false i).isSome)))<|some (bif decide (((An v i).fInt)=0) then(bif decide (((An v i).fStr)=([]:Ae)) then(ov (Ds (decide (((An v i).fN)=0)) i)) else(ov (Ds false i))) else(bif decide (((An v i).fInt)=1) then(bif decide (((An v i).fStr)=([]:Ae)) then(ov (Ds (decide (((An v i).fN)=0)) i)) else(ov (Ds false i))) else(ov (Ds false i))))) (BB (decide (((An v i).fKind)=3)) (Bk (imp (decide (((An v i).fStr)=([]:Ae))) ((Ds (decide (((An v i).fN)=0)) i).isSome))<|Bk (imp (!(decide (((An v i).fStr)=([]:Ae)))) ((Ds false i).isSome))<|some (bif decide (((An v i).fStr)=([]:Ae)) then(ov (Ds (decide (((An v i).fN)=0)) i)) else(ov (Ds false i)))) (BB (decide (((An v i).fKind)=4)) (Bs (Yz F (An v i)) λhe=>Bs (Ds he i) λhf=>some hf) (BB (((decide (((An v i).fKind)=5))&&((decide (((An v i).fInt)=0))&&((decide (((An v i).fStr)=([]:Ae)))&&(decide (0≤((An v i).fN))))))) (Bk (Cb .i64 (i+1))<|Bs (hb v (i+1) ((An v i).fN)) λhg=>some hg) (BB (((decide (((An v i).fKind)=6))&&((decide (((An v i).fInt)=0))&&((decide (((An v i).fStr)=([]:Ae)))&&(decide (0≤((An v i).fN))))))) (Bk (Cb .i64 (i+1))<|Bs (hd v (i+1) ((An v i).fN)) λhh=>some hh) (some (-1))))))))
def EF (v:(List Ab))(n:Int)(hf:(List Ab)→Int→Option (Int))(hd:Int)(hb:Int):Option (Stp (Int×Int) (Out (Int) (Int))):=
 BB (decide (hb<n)) (Bs (hf v hd) λhe=>BB (decide (he<0)) (some (.out (.ret (-1)))) (Bk (Cb .i64 (hb+1))<|some (.next (he,hb+1)))) (some (.out (.go hd)))
def J1 (hb:Int):Option (Int):=
 some hb
def Po (F:Nat)(hb:(List Ab)→Int→Option (Int))(v:(List Ab))(i:Int)(n:Int):Option (Int):=
 Bs (Cl (λσ=>EF v n hb σ.1 σ.2) F (i,0)) (Co λν=>J1 ν)
def Gu (F:Nat)(v:(List Ab))(n:Int)(hg:(List Ab)→Int→Option (Int))(hb:Int)(he:Ae)(hd:Int):Option (Stp (Int×Ae×Int) (Out (Int) (Int))):=
 BB (decide (hd<n)) (Bk (imp (!(decide ((v.length:Int)≤hb))) (Ck hb (v.length:Int)))<|Bk (imp (!(decide ((v.length:Int)≤hb))) ((Yz F (An v hb)).isSome))<|BB (((decide ((v.length:Int)≤hb))||((!(ov (Yz F (An v hb))))||((decide (0<hd))&&(Cz ((An v hb).fStr) he||decide (((An v hb).fStr)=he)))))) (some (.out (.ret (-1)))) (Bk (Ck hb (v.length:Int))<|Bk (Cb .i64 (hb+1))<|Bs (hg v (hb+1)) λhf=>BB (decide (hf<0)) (some (.out (.ret (-1)))) (Bk (Cb .i64 (hd+1))<|some (.next (hf,(An v hb).fStr,hd+1))))) (some (.out (.go hb)))
def Nk (hb:Int):Option (Int):=
 some hb
def V2 (F:Nat)(hb:(List Ab)→Int→Option (Int))(v:(List Ab))(i:Int)(n:Int):Option (Int):=
 Bs (Cl (λσ=>Gu F v n hb σ.1 σ.2.1 σ.2.2) F (i,([]:Ae),0)) (Co λν=>Nk ν)
mutual
def QJ:Nat→(List Ab)→Int→Option (Int)
 | 0,_,_=>none
 | nn+1,v,i=>Yx nn (QK nn) (Yw nn) v i
def QK:Nat→(List Ab)→Int→Int→Option (Int)
 | 0,_,_,_=>none
 | nn+1,v,i,n=>Po nn (QJ nn) v i n
def Yw:Nat→(List Ab)→Int→Int→Option (Int)
 | 0,_,_,_=>none
 | nn+1,v,i,n=>V2 nn (QJ nn) v i n
end
end Go.Proofs.YtmjlemhondjfhaaGreatDoor
namespace Go.Proofs.YtmjlemhondjfhaaGreatDoor.Q
open Go Go.RowKit
set_option linter.unusedVariables false
set_option linter.unusedSimpArgs false
set_option maxRecDepth 100000
set_option maxHeartbeats 4000000
@[reducible] def Ai (x:Ab):List Rp:=[A2 x.fKind,A2 x.fInt,rS x.fStr,A2 x.fN]
theorem C9 (x:Ab):(Ai x).length=4:=rfl
theorem Qx (x:Ab):(Ai x).all (·.one)=true:=rfl
end Go.Proofs.YtmjlemhondjfhaaGreatDoor.Q
namespace Go.Proofs.YtmjlemhondjfhaaGreatDoor
open Go
set_option linter.unusedVariables false
structure AM where
 fPairs:Bool
 fLeft:Int
 fKey:Bool
 fLast:Ae
 fStarted:Bool
 deriving DecidableEq,Inhabited
structure Ba where
 fDepth:Int
 fBytes:Int
 fOutside:Bool
 fLong:Bool
 deriving DecidableEq,Inhabited
def Cv (n:Int):Option (Bool):=
 some ((decide ((-1000000000000)≤n))&&(decide (n≤1000000000000)))
def IU (s:Ae)(hb:Int):Option (Stp (Int) (Out (Bool) (Unit))):=
 BB (decide (hb<(s.length:Int))) (Bk (Ck hb (s.length:Int))<|BB (((decide ((Cw s hb)<32))||(decide (126<(Cw s hb))))) (some (.out (.ret false))) (Bk (Cb .i64 (hb+1))<|some (.next (hb+1)))) (some (.out (.go ())))
def IT :Option (Bool):=
 some true
def Mj (F:Nat)(s:Ae):Option (Bool):=
 Bs (Cl (λσ=>IU s σ) F 0) (Co λν=>IT )
def KE (s:Ae):Option (Int):=
 Bk (Cb .i64 ((s.length:Int)+2))<|Bk (Cb .i64 (((s.length:Int)+2)+(Lib.countByte s 34:Int)))<|Bk (Cb .i64 ((((s.length:Int)+2)+(Lib.countByte s 34:Int))+(Lib.countByte s 92:Int)))<|some ((((s.length:Int)+2)+(Lib.countByte s 34:Int))+(Lib.countByte s 92:Int))
def OP (F:Nat)(c:Ab):Option (Bool):=
 BB (decide (c.fKind=1)) (some ((decide (c.fInt=0))&&((decide (c.fStr=([]:Ae)))&&(decide (c.fN=0))))) (BB (decide (c.fKind=2)) (some (bif decide (c.fInt=0) then((decide (c.fStr=([]:Ae)))&&(decide (c.fN=0))) else((decide (c.fInt=1))&&((decide (c.fStr=([]:Ae)))&&(decide (c.fN=0)))))) (BB (decide (c.fKind=3)) (some ((decide (c.fStr=([]:Ae)))&&(decide (c.fN=0)))) (BB (decide (c.fKind=4)) (Bk (imp (decide (c.fInt=0)) (imp (decide (c.fN=0)) ((Mj F c.fStr).isSome)))<|some ((decide (c.fInt=0))&&((decide (c.fN=0))&&(ov (Mj F c.fStr))))) (BB (decide (c.fKind=5)) (some ((decide (c.fInt=0))&&((decide (c.fStr=([]:Ae)))&&(decide (0≤c.fN))))) (BB (decide (c.fKind=6)) (some ((decide (c.fInt=0))&&((decide (c.fStr=([]:Ae)))&&(decide (0≤c.fN))))) (some false))))))
def SB (c:Ab):Option (Int):=
 BB (decide (c.fKind=1)) (some 4) (BB (decide (c.fKind=2)) (some (IntKind.wrap .i64 (5-c.fInt))) (BB (decide (c.fKind=3)) (Bk (Cb .i64 c.fInt)<|some ((Lib.itoa c.fInt).length:Int)) (BB (decide (c.fKind=4)) (Bs (KE c.fStr) λhb=>some hb) (some (IntKind.wrap .i64 (2+(max 0 (IntKind.wrap .i64 (c.fN-1)))))))))
def E3 (hb:(List AM)):Option (Stp ((List AM)) (Out ((List AM)) ((List AM)))):=
 BB (decide (0<(hb.length:Int))) (Bk (Cb .i64 ((hb.length:Int)-1))<|Bk (Ck ((hb.length:Int)-1) (hb.length:Int))<|Bk (Cb .i64 (((An hb ((hb.length:Int)-1)).fLeft)-1))<|JT (List.set hb (Int.toNat ((hb.length:Int)-1)) (AM.mk ((An hb ((hb.length:Int)-1)).fPairs) (((An hb ((hb.length:Int)-1)).fLeft)-1) ((An hb ((hb.length:Int)-1)).fKey) ((An hb ((hb.length:Int)-1)).fLast) ((An hb ((hb.length:Int)-1)).fStarted))) λhd=>BB (decide (0<((An hd ((hb.length:Int)-1)).fLeft))) (JT (List.set hd (Int.toNat ((hb.length:Int)-1)) (AM.mk ((An hd ((hb.length:Int)-1)).fPairs) ((An hd ((hb.length:Int)-1)).fLeft) ((An hd ((hb.length:Int)-1)).fPairs) ((An hd ((hb.length:Int)-1)).fLast) ((An hd ((hb.length:Int)-1)).fStarted))) λhe=>some (.out (.ret he))) (Bk (Cb .i64 ((hd.length:Int)-1))<|Bk (Lw ((hd.length:Int)-1) (hd.length:Int))<|some (.next (List.take (Int.toNat ((hd.length:Int)-1)) hd)))) (some (.out (.go hb)))
def Gc (hb:(List AM)):Option ((List AM)):=
 some hb
def Mm (F:Nat)(stack:(List AM)):Option ((List AM)):=
 Bs (Cl (λσ=>E3 σ) F stack) (Co λν=>Gc ν)
def EO (hb:Int)(hd:(List AM))(he:Ba):Option (Stp ((List AM)×Int×Ba) (Out (Int×Ba×Bool) (Ba))):=
 Bk (Cb .i64 (hb+1))<|some (.next (hd,hb+1,he))
def E2 (F:Nat)(v:(List Ab))(hb:(List AM))(hd:Int)(he:Ba):Option (Stp ((List AM)×Int×Ba) (Out (Int×Ba×Bool) (Ba))):=
 BB (decide (hd<(v.length:Int))) (Bk (Ck hd (v.length:Int))<|Bs (OP F (An v hd)) λhk=>BB (!hk) (some (.out (.ret (0,he,false)))) (Bk (imp (decide (0<(hb.length:Int))) (Cb .i64 ((hb.length:Int)-1)))<|Bk (imp (decide (0<(hb.length:Int))) (Ck ((hb.length:Int)-1) (hb.length:Int)))<|BB (((decide (0<(hb.length:Int)))&&((An hb ((hb.length:Int)-1)).fKey))) (Bk (Cb .i64 ((hb.length:Int)-1))<|Bk (Ck ((hb.length:Int)-1) (hb.length:Int))<|BB (((!decide (((An v hd).fKind)=4))||(((An hb ((hb.length:Int)-1)).fStarted)&&(Cz ((An v hd).fStr) ((An hb ((hb.length:Int)-1)).fLast)||decide (((An v hd).fStr)=((An hb ((hb.length:Int)-1)).fLast)))))) (some (.out (.ret (0,he,false)))) (JT (List.set hb (Int.toNat ((hb.length:Int)-1)) (AM.mk ((An hb ((hb.length:Int)-1)).fPairs) ((An hb ((hb.length:Int)-1)).fLeft) ((An hb ((hb.length:Int)-1)).fKey) ((An v hd).fStr) ((An hb ((hb.length:Int)-1)).fStarted))) λhf=>JT (List.set hf (Int.toNat ((hb.length:Int)-1)) (AM.mk ((An hf ((hb.length:Int)-1)).fPairs) ((An hf ((hb.length:Int)-1)).fLeft) ((An hf ((hb.length:Int)-1)).fKey) ((An hf ((hb.length:Int)-1)).fLast) true)) λhg=>JT (List.set hg (Int.toNat ((hb.length:Int)-1)) (AM.mk ((An hg ((hb.length:Int)-1)).fPairs) ((An hg ((hb.length:Int)-1)).fLeft) false ((An hg ((hb.length:Int)-1)).fLast) ((An hg ((hb.length:Int)-1)).fStarted))) λhl=>Bs (KE ((An v hd).fStr)) λhi=>Bk (Cb .i64 (hi+1))<|EO hd hl (Ba.mk he.fDepth (IntKind.wrap .i64 (he.fBytes+(hi+1))) he.fOutside (he.fLong||(decide (200<(((An v hd).fStr).length:Int))))))) (Bk (Cb .i64 ((hb.length:Int)+1))<|Bs (SB (An v hd)) λhh=>Bk (imp (!he.fOutside) (imp (decide (((An v hd).fKind)=3)) ((Cv ((An v hd).fInt)).isSome)))<|BB (decide (0<((An v hd).fN))) (BB (decide ((v.length:Int)<((An v hd).fN))) (some (.out (.ret (0,(Ba.mk (max he.fDepth ((hb.length:Int)+1)) (IntKind.wrap .i64 (he.fBytes+hh)) (he.fOutside||((decide (((An v hd).fKind)=3))&&(!(ov (Cv ((An v hd).fInt)))))) (he.fLong||(decide (200<(((An v hd).fStr).length:Int))))),false)))) (Bk (D2 48 (hb.length+([(AM.mk (decide (((An v hd).fKind)=6)) ((An v hd).fN) (decide (((An v hd).fKind)=6)) ([]:Ae) false)]:List AM).length))<|EO hd (hb++([(AM.mk (decide (((An v hd).fKind)=6)) ((An v hd).fN) (decide (((An v hd).fKind)=6)) ([]:Ae) false)]:List AM)) (Ba.mk (max he.fDepth ((hb.length:Int)+1)) (IntKind.wrap .i64 (he.fBytes+hh)) (he.fOutside||((decide (((An v hd).fKind)=3))&&(!(ov (Cv ((An v hd).fInt)))))) (he.fLong||(decide (200<(((An v hd).fStr).length:Int))))))) (Bs (Mm F hb) λhj=>BB (decide ((hj.length:Int)=0)) (Bk (Cb .i64 (hd+1))<|some (.out (.ret (hd+1,(Ba.mk (max he.fDepth ((hb.length:Int)+1)) (IntKind.wrap .i64 (he.fBytes+hh)) (he.fOutside||((decide (((An v hd).fKind)=3))&&(!(ov (Cv ((An v hd).fInt)))))) (he.fLong||(decide (200<(((An v hd).fStr).length:Int))))),true)))) (EO hd hj (Ba.mk (max he.fDepth ((hb.length:Int)+1)) (IntKind.wrap .i64 (he.fBytes+hh)) (he.fOutside||((decide (((An v hd).fKind)=3))&&(!(ov (Cv ((An v hd).fInt)))))) (he.fLong||(decide (200<(((An v hd).fStr).length:Int)))))))))) (some (.out (.go he)))
def Ml (hb:Ba):Option (Int×Ba×Bool):=
 some (0,hb,false)
def JE (F:Nat)(v:(List Ab)):Option (Int×Ba×Bool):=
 Bs (Cl (λσ=>E2 F v σ.1 σ.2.1 σ.2.2) F (([]:List AM),0,(Ba.mk 0 0 false false))) (Co λν=>Ml ν)
def Jv (F:Nat)(v:(List Ab)):Option (Int):=
 Bs (JE F v) λr1=>BB (((!r1.2.2)||(!decide (r1.1=(v.length:Int))))) (some 1) (BB (r1.2.1.fOutside) (some 2) (BB ((r1.2.1.fLong||((decide (200<(v.length:Int)))||((decide (8<r1.2.1.fDepth))||(decide (4000<r1.2.1.fBytes)))))) (some 3) (some 0)))
def Hg (F:Nat)(v:(List Ab)):Option ((List Ab)×Int):=
 Bs (Jv F v) λr1=>BB (!decide (r1=0)) (some (([]:List Ab),r1)) (some (v,0))
def JZ :Option ((List Ab)):=
 some ([(Ab.mk 1 0 ([]:Ae) 0)]:List Ab)
def WD (F:Nat)(n:Int):Option ((List Ab)×Int):=
 Bs (Hg F ([(Ab.mk 3 n ([]:Ae) 0)]:List Ab)) λr2=>some (r2.1,r2.2)
def W8 (F:Nat)(s:Ae):Option ((List Ab)×Int):=
 Bs (Hg F ([(Ab.mk 4 0 s 0)]:List Ab)) λr2=>some (r2.1,r2.2)
end Go.Proofs.YtmjlemhondjfhaaGreatDoor
namespace Go.Proofs.YtmjlemhondjfhaaGreatDoor.Q
open Go Go.RowKit
set_option linter.unusedVariables false
set_option linter.unusedSimpArgs false
set_option maxRecDepth 100000
set_option maxHeartbeats 4000000
@[reducible] def AT (x:AM):List Rp:=[rB x.fPairs,A2 x.fLeft,rB x.fKey,rS x.fLast,rB x.fStarted]
theorem JF (x:AM):(AT x).length=5:=rfl
theorem Oq (x:AM):(AT x).all (·.one)=true:=rfl
@[reducible] def Bw (x:Ba):List Rp:=[A2 x.fDepth,A2 x.fBytes,rB x.fOutside,rB x.fLong]
theorem AaL:∃inf,Tryz.prog.info? 190=some inf∧inf.zero=some (.agg #[(.bool false),(.int .i64 0),(.bool false),(.string ⟨#[]⟩),(.bool false)])∧inf.size=5∧inf.bytes=48:=by
  have key:(Tryz.prog.info? 190).map (λi=>(i.zero,i.size,i.bytes))=some (some (.agg #[(.bool false),(.int .i64 0),(.bool false),(.string ⟨#[]⟩),(.bool false)]),5,48):=by kernel_rfl
  obtain⟨inf,h1,h2⟩:=Option.map_eq_some_iff.1 key;simp only[Prod.mk.injEq] at h2;exact⟨inf,h1,h2.1,h2.2.1,h2.2.2⟩
theorem RY (parts:List (Nat×Value)):Tryz.prog.built 70 parts=Instr.fill (λi=>(#[(0,1),(1,1),(2,1),(3,1)]:Array (Nat×Nat))[i]?) #[(.int .i64 0),(.int .i64 0),(.string ⟨#[]⟩),(.int .i64 0)] parts:=by kernel_rfl
theorem Hi {n:Nat}{c:Cx}{l:Fr}{H:List Ent}{d:Option Nat}{ty:TypeId}{pos:String}{af:Array Edge}{g:Option (Nat×Bool)}{x0:Operand}{r0:Rp}(h0:ev l x0=some r0)(u0:r0.one=true):BD Tryz.prog n c l H { dst:=d,op:=.build 70 #[(0,x0)],type:=ty,pos:=pos,after:=af,guard:=g } (B3 [r0,A2 0,rS ([]:Ae),A2 0]):=λa w Z ha _=>by
  have p0:=ha.ev h0;have c0:=B0 (r0.hone u0 Z _ p0);have hb:Tryz.prog.built 70 [(0,a.eval x0)]=some #[a.eval x0,(.int .i64 0),(.string ⟨#[]⟩),(.int .i64 0)]:=by
    rw[RY];generalize a.eval x0=v0 at *;simp[Instr.fill,c0]
  refine⟨.agg #[a.eval x0,(.int .i64 0),(.string ⟨#[]⟩),(.int .i64 0)],⟨[a.eval x0,(.int .i64 0),(.string ⟨#[]⟩),(.int .i64 0)],rfl,p0,rfl,rfl,rfl,trivial⟩,?_⟩;have:=run_build w 70 #[(0,a.eval x0)] _ (by simpa using hb);simp[execOp,this]
theorem Lq {n:Nat}{c:Cx}{l:Fr}{H:List Ent}{d:Option Nat}{ty:TypeId}{pos:String}{af:Array Edge}{g:Option (Nat×Bool)}{x0:Operand}{r0:Rp}(h0:ev l x0=some r0)(u0:r0.one=true){x1:Operand}{r1:Rp}(h1:ev l x1=some r1)(u1:r1.one=true):BD Tryz.prog n c l H { dst:=d,op:=.build 70 #[(0,x0),(1,x1)],type:=ty,pos:=pos,after:=af,guard:=g } (B3 [r0,r1,rS ([]:Ae),A2 0]):=λa w Z ha _=>by
  have p0:=ha.ev h0;have c0:=B0 (r0.hone u0 Z _ p0);have p1:=ha.ev h1;have c1:=B0 (r1.hone u1 Z _ p1);have hb:Tryz.prog.built 70 [(0,a.eval x0),(1,a.eval x1)]=some #[a.eval x0,a.eval x1,(.string ⟨#[]⟩),(.int .i64 0)]:=by
    rw[RY];generalize a.eval x0=v0 at *;generalize a.eval x1=v1 at *;simp[Instr.fill,c0,c1]
  refine⟨.agg #[a.eval x0,a.eval x1,(.string ⟨#[]⟩),(.int .i64 0)],⟨[a.eval x0,a.eval x1,(.string ⟨#[]⟩),(.int .i64 0)],rfl,p0,p1,rfl,rfl,trivial⟩,?_⟩;have:=run_build w 70 #[(0,a.eval x0),(1,a.eval x1)] _ (by simpa using hb);simp[execOp,this]
theorem Lp {n:Nat}{c:Cx}{l:Fr}{H:List Ent}{d:Option Nat}{ty:TypeId}{pos:String}{af:Array Edge}{g:Option (Nat×Bool)}{x0:Operand}{r0:Rp}(h0:ev l x0=some r0)(u0:r0.one=true){x2:Operand}{r2:Rp}(h2:ev l x2=some r2)(u2:r2.one=true):BD Tryz.prog n c l H { dst:=d,op:=.build 70 #[(0,x0),(2,x2)],type:=ty,pos:=pos,after:=af,guard:=g } (B3 [r0,A2 0,r2,A2 0]):=λa w Z ha _=>by
  have p0:=ha.ev h0;have c0:=B0 (r0.hone u0 Z _ p0);have p2:=ha.ev h2;have c2:=B0 (r2.hone u2 Z _ p2);have hb:Tryz.prog.built 70 [(0,a.eval x0),(2,a.eval x2)]=some #[a.eval x0,(.int .i64 0),a.eval x2,(.int .i64 0)]:=by
    rw[RY];generalize a.eval x0=v0 at *;generalize a.eval x2=v2 at *;simp[Instr.fill,c0,c2]
  refine⟨.agg #[a.eval x0,(.int .i64 0),a.eval x2,(.int .i64 0)],⟨[a.eval x0,(.int .i64 0),a.eval x2,(.int .i64 0)],rfl,p0,rfl,p2,rfl,trivial⟩,?_⟩;have:=run_build w 70 #[(0,a.eval x0),(2,a.eval x2)] _ (by simpa using hb);simp[execOp,this]
theorem Z4 (parts:List (Nat×Value)):Tryz.prog.built 190 parts=Instr.fill (λi=>(#[(0,1),(1,1),(2,1),(3,1),(4,1)]:Array (Nat×Nat))[i]?) #[(.bool false),(.int .i64 0),(.bool false),(.string ⟨#[]⟩),(.bool false)] parts:=by kernel_rfl
theorem No {n:Nat}{c:Cx}{l:Fr}{H:List Ent}{d:Option Nat}{ty:TypeId}{pos:String}{af:Array Edge}{g:Option (Nat×Bool)}{x0:Operand}{r0:Rp}(h0:ev l x0=some r0)(u0:r0.one=true){x1:Operand}{r1:Rp}(h1:ev l x1=some r1)(u1:r1.one=true){x2:Operand}{r2:Rp}(h2:ev l x2=some r2)(u2:r2.one=true):BD Tryz.prog n c l H { dst:=d,op:=.build 190 #[(0,x0),(1,x1),(2,x2)],type:=ty,pos:=pos,after:=af,guard:=g } (B3 [r0,r1,r2,rS ([]:Ae),rB false]):=λa w Z ha _=>by
  have p0:=ha.ev h0;have c0:=B0 (r0.hone u0 Z _ p0);have p1:=ha.ev h1;have c1:=B0 (r1.hone u1 Z _ p1);have p2:=ha.ev h2;have c2:=B0 (r2.hone u2 Z _ p2);have hb:Tryz.prog.built 190 [(0,a.eval x0),(1,a.eval x1),(2,a.eval x2)]=some #[a.eval x0,a.eval x1,a.eval x2,(.string ⟨#[]⟩),(.bool false)]:=by
    rw[Z4];generalize a.eval x0=v0 at *;generalize a.eval x1=v1 at *;generalize a.eval x2=v2 at *;simp[Instr.fill,c0,c1,c2]
  refine⟨.agg #[a.eval x0,a.eval x1,a.eval x2,(.string ⟨#[]⟩),(.bool false)],⟨[a.eval x0,a.eval x1,a.eval x2,(.string ⟨#[]⟩),(.bool false)],rfl,p0,p1,p2,rfl,rfl,trivial⟩,?_⟩;have:=run_build w 190 #[(0,a.eval x0),(1,a.eval x1),(2,a.eval x2)] _ (by simpa using hb);simp[execOp,this]
theorem YJ (n:Int)(r:Bool)(h:Cv n=some r):Fn Tryz.prog GE 142 [A2 n] [] (λR H=>R=rB r∧H=[]):=by
 refine enter (n:=9) Tryz.func142 Aa Tryz.ntmps142 Aa (λw Z=>?_);unfold Cv at h;refine Ah (wa Aa (Ap (AC [(2,rB ((decide ((-1000000000000)≤n))&&(decide (n≤1000000000000))))] [] ?_ ?_)))
 ·refine Ak (wm Aa (wv (JQ Aa Aa) (wm Aa (Bd (decide ((-1000000000000)≤n)) (λc1=>?_) (λc1=>?_)))))
  ·refine wo c1 (wm Aa (wo c1 (wv (JQ Aa Aa) (GG Aa c1 Aa (wa Aa (Aq ?_))))));exact Cy c1
  refine wf c1 (wf c1 (wv (r:=rB false) (A3 Aa c1 Aa) (wa Aa (Aq ?_))));exact Cy c1
 refine Ar ?_;obtain rfl:=Av h;exact As (BH Tryz.results142 (AQ Aa)) sN ⟨Aa,Aa⟩
theorem ZY (F:Nat)(s:Ae)(r:Bool)(h:Mj F s=some r):Fn Tryz.prog GE 178 [rS s] [] (λR H=>R=rB r∧H=[]):=by
 refine enter (n:=20) Tryz.func178 Aa Tryz.ntmps178 Aa (λw Z=>?_);unfold Mj at h;refine Ah (wa Aa (Ap (Al (Ah (wm Aa (wv (BS DH Aa) (wv (r:=A2 0) (Aj Aa) (Ap (AH (ob h λhj hk hh=>BG (S:=Nat×(Int)×(Unit)) (V:=(Unit)×(Unit)) 0 (λσ=>Cl (λσ=>IU s σ) σ.1 σ.2.1=some hj) (λσ=>[(0,rS s),(5,A2 (s.length:Int)),(6,A2 σ.2.1)]) (λσ=>[]) (λσ=>σ.1) (F,0,()) hk (AV.c Aa (AV.c Aa (AV.c Aa AV.nil))) sN (λσ=>IT =some r) (λσ=>[]) (λσ=>[]) ?_ ?_))))))))))
 ·rintro⟨h1,hd,⟨⟩⟩ hl;refine H6 ?_;obtain⟨hm,rfl,t37,he,hg⟩:=CD hl;replace he:IU s hd=some t37:=he;unfold IU at he;refine Ah (wv (CP Aa Aa) (Ap (Al (cz he Aa (λhn hp=>?_) (λhn hq=>?_)))))
  ·refine A0 (Bb (Al (AH (Ah (wm Aa (wa Aa (Ap (ck hp λhi hr=>AC [(0,rS s),(5,A2 (s.length:Int)),(6,A2 hd),(18,rB ((decide ((Cw s hd)<32))||(decide (126<(Cw s hd)))))] [] ?_ ?_))))))))
   ·refine Ak (wm Aa (wm Aa (wv (BZ DH Aa Aa hi) (wv (CP Aa Aa) (wm Aa (Bd (decide ((Cw s hd)<32)) (λhb=>?_) (λhb=>?_)))))))
    ·refine wf hb (wf hb (wf hb (wf hb (wv (r:=rB true) (AF Aa hb Aa) (Aq ?_)))));exact Cy hb
    refine wo hb (wm Aa (wo hb (wm Aa (wo hb (wv (BZ DH Aa Aa hi) (wo hb (wv (Gy Aa Aa) (MY Aa hb Aa (Aq ?_)))))))));exact Cy hb
   refine cz hr Aa (λhs ht=>?_) (λhs hu=>?_)
   ·refine Ah (wa Aa (Ap (Ar (A8 (Ac (Ac (B7 ?_)))))));have hw:=Ca ht hg hh;refine A8 (Ac ?_);obtain rfl:=Av hw;exact As (BH Tryz.results178 (AQ Aa)) sN ⟨Aa,Aa⟩
   refine A0 (AN (Bb (Ak (ck hu λhx hy=>wv (BM Aa Aa hx) (wm Aa (Aq ?_))))));have hz:=B8 hy hg;exact A9 (AZ (hm,hd+1,()) ⟨hz,Aew _⟩ (AV.c Aa (AV.c Aa (AV.c Aa AV.nil))) sN)
  refine BE (Ay ?_);have h0:=BW hq hg hh;exact Ay (Bq (AZ ((),()) h0 AV.nil sN))
 rintro⟨⟨⟩,⟨⟩⟩ hf;refine Ir ?_;replace hf:IT =some r:=hf;unfold IT at hf;refine Bo (Bb (Ah (wa Aa (Ap (Ar ?_)))));obtain rfl:=Av hf;exact As (BH Tryz.results178 (AQ Aa)) sN ⟨Aa,Aa⟩
theorem Q9 (s:Ae)(r:Int)(h:KE s=some r):Fn Tryz.prog GE 140 [rS s] [] (λR H=>R=A2 r∧H=[]):=by
 refine enter (n:=12) Tryz.func140 Aa Tryz.ntmps140 Aa (λw Z=>?_);unfold KE at h;refine Ah (wa Aa (Bu (wm Aa (wv (BS DH Aa) (ck h λg1 h2=>wv (BM Aa Aa g1) (wm Aa (Cq (rs:=[rS s,rS ([34]:Ae)]) (r:=A2 (Lib.countByte s 34:Int)) Tryz.call179 Aa (RW s 34) Aa Aa (ck h2 λg3 h4=>wv (BM Aa Aa g3) (wm Aa (Cq (rs:=[rS s,rS ([92]:Ae)]) (r:=A2 (Lib.countByte s 92:Int)) Tryz.call179 Aa (RW s 92) Aa Aa (ck h4 λg5 h6=>wv (BM Aa Aa g5) (wa Aa (Ap (Ar ?_))))))))))))));obtain rfl:=Av h6;exact As (BH Tryz.results140 (AQ Aa)) sN ⟨Aa,Aa⟩
theorem Yc (F:Nat)(c:Ab)(r:Bool)(h:OP F c=some r):Fn Tryz.prog GE 139 [B3 (Ai c)] [] (λR H=>R=rB r∧H=[]):=by
 refine enter (n:=81) Tryz.func139 Aa Tryz.ntmps139 Aa (λw Z=>?_);unfold OP at h;refine Ah (Cf Aa Aa (λb1=>?_));refine wa Aa (Ap (Al (Ah (vF CN Aa JJ (vL 0 JL Aa (Ap (AH (Ah (wv (Ce Aa Aa) (wa Aa (Ap (cz h Aa (λc2 h3=>?_) (λc2 h6=>?_)))))))))))))
 ·refine AC [(2,rB ((decide (c.fInt=0))&&((decide (c.fStr=([]:Ae)))&&(decide (c.fN=0)))))] [] ?_ ?_
  ·refine Ak (vF CN Aa Ee (vL 0 Gn Aa (wv (Ce Aa Aa) (wm Aa (Bd (decide (c.fInt=0)) (λc4=>?_) (λc4=>?_))))))
   ·refine wo c4 (vF CN Aa Dc (wo c4 (vL 0 DQ Aa (wo c4 (wv (C2 Aa Aa) (GG Aa c4 Aa (wm Aa (Bd (decide (c.fStr=([]:Ae))) (λc5=>?_) (λc5=>?_)))))))))
    ·refine wo c5 (vF CN Aa Ee (wo c5 (vL 0 Gn Aa (wo c5 (wv (Ce Aa Aa) (GG Aa c5 Aa (wa Aa (Aq ?_))))))));exact Cy (And.intro c4 c5)
    refine wf c5 (wf c5 (wf c5 (wv (r:=rB false) (A3 Aa c5 Aa) (wa Aa (Aq ?_)))));exact Cy (And.intro c4 c5)
   refine wf c4 (wf c4 (wf c4 (wv (r:=rB false) (A3 Aa c4 Aa) (wm Aa (wz Aa Aa (wz Aa Aa (wz Aa Aa (wv (r:=rB false) (A3 (b:=false) Aa Aa Aa) (wa Aa (Aq ?_))))))))));exact Cy c4
  refine Ar (A8 (Ac ?_));obtain rfl:=Av h3;exact As (BH OG (AQ Aa)) sN ⟨Aa,Aa⟩
 refine Ah (wv (Ce Aa Aa) (wa Aa (Ap (cz h6 Aa (λc7 h8=>?_) (λc7 hn=>?_)))))
 ·refine AC [(2,rB (bif decide (c.fInt=0) then((decide (c.fStr=([]:Ae)))&&(decide (c.fN=0))) else((decide (c.fInt=1))&&((decide (c.fStr=([]:Ae)))&&(decide (c.fN=0))))))] [] ?_ ?_
  ·refine Ak (vF CN Aa Ee (vL 0 Gn Aa (wv (Ce Aa Aa) (wm Aa (Bd (decide (c.fInt=0)) (λc9=>?_) (λc9=>?_))))))
   ·refine wf c9 (wf c9 (wf c9 (wv (r:=rB true) (AF Aa c9 Aa) (wm Aa (Bf (b:=true) Aa Aa Aa (vF CN Aa Dc (Bf (b:=true) Aa Aa Aa (vL 0 DQ Aa (Bf (b:=true) Aa Aa Aa (wv (C2 Aa Aa) (wv (r:=rB (decide (c.fStr=([]:Ae)))) (AF (b:=true) Aa Aa Aa) (wm Aa (Bd (decide (c.fStr=([]:Ae))) (λhh=>?_) (λhh=>?_))))))))))))))
    ·refine wo hh (vF CN Aa Ee (wo hh (vL 0 Gn Aa (wo hh (wv (Ce Aa Aa) (GG Aa hh Aa (wa Aa (Aq ?_))))))));exact Cy (And.intro c9 hh)
    refine wf hh (wf hh (wf hh (wv (r:=rB false) (A3 Aa hh Aa) (wa Aa (Aq ?_)))));exact Cy (And.intro c9 hh)
   refine wo c9 (vF CN Aa Ee (wo c9 (vL 0 Gn Aa (wo c9 (wv (Ce Aa Aa) (MY Aa c9 Aa (wm Aa (Bd (decide (c.fInt=1)) (λhd=>?_) (λhd=>?_)))))))))
   ·refine wo hd (vF CN Aa Dc (wo hd (vL 0 DQ Aa (wo hd (wv (C2 Aa Aa) (GG Aa hd Aa (wm Aa (Bd (decide (c.fStr=([]:Ae))) (λhi=>?_) (λhi=>?_)))))))))
    ·refine wo hi (vF CN Aa Ee (wo hi (vL 0 Gn Aa (wo hi (wv (Ce Aa Aa) (GG Aa hi Aa (wa Aa (Aq ?_))))))));exact Cy (And.intro c9 (And.intro hd hi))
    refine wf hi (wf hi (wf hi (wv (r:=rB false) (A3 Aa hi Aa) (wa Aa (Aq ?_)))));exact Cy (And.intro c9 (And.intro hd hi))
   refine wf hd (wf hd (wf hd (wv (r:=rB false) (A3 Aa hd Aa) (wm Aa (wz Aa Aa (wz Aa Aa (wz Aa Aa (wv (r:=rB false) (A3 (b:=false) Aa Aa Aa) (wa Aa (Aq ?_))))))))));exact Cy (And.intro c9 hd)
  refine Ar (A8 (Ac ?_));obtain rfl:=Av h8;exact As (BH OG (AQ Aa)) sN ⟨Aa,Aa⟩
 refine Ah (wv (Ce Aa Aa) (wa Aa (Ap (cz hn Aa (λhp hq=>?_) (λhp hr=>?_)))))
 ·refine AC [(2,rB ((decide (c.fStr=([]:Ae)))&&(decide (c.fN=0))))] [] ?_ ?_
  ·refine Ak (vF CN Aa Dc (vL 0 DQ Aa (wv (C2 Aa Aa) (wm Aa (Bd (decide (c.fStr=([]:Ae))) (λhj=>?_) (λhj=>?_))))))
   ·refine wo hj (vF CN Aa Ee (wo hj (vL 0 Gn Aa (wo hj (wv (Ce Aa Aa) (GG Aa hj Aa (wa Aa (Aq ?_))))))));exact Cy hj
   refine wf hj (wf hj (wf hj (wv (r:=rB false) (A3 Aa hj Aa) (wa Aa (Aq ?_)))));exact Cy hj
  refine Ar (A8 (Ac ?_));obtain rfl:=Av hq;exact As (BH OG (AQ Aa)) sN ⟨Aa,Aa⟩
 refine Ah (wv (Ce Aa Aa) (wa Aa (Ap (cz hr Aa (λhs ht=>?_) (λhs hu=>?_)))))
 ·refine ck ht λhw hx=>AC [(2,rB ((decide (c.fInt=0))&&((decide (c.fN=0))&&(ov (Mj F c.fStr)))))] [] ?_ ?_
  ·refine Ak (vF CN Aa Ee (vL 0 Gn Aa (wv (Ce Aa Aa) (wm Aa (Bd (decide (c.fInt=0)) (λhb=>?_) (λhb=>?_))))))
   ·refine wo hb (vF CN Aa Ee (wo hb (vL 0 Gn Aa (wo hb (wv (Ce Aa Aa) (GG Aa hb Aa (wm Aa (Bd (decide (c.fN=0)) (λhe=>?_) (λhe=>?_)))))))))
    ·refine wo he (vF CN Aa Dc (wo he (vL 0 DQ Aa (wo he (Cp Tryz.call178 (ZY F c.fStr (ov (Mj F c.fStr)) (CL (BX (BX hw hb) he))) Aa (GG Aa he Aa (wa Aa (Aq ?_))))))));exact Cy (And.intro hb he)
    refine wf he (wf he (wf he (wv (r:=rB false) (A3 Aa he Aa) (wa Aa (Aq ?_)))));exact Cy (And.intro hb he)
   refine wf hb (wf hb (wf hb (wv (r:=rB false) (A3 Aa hb Aa) (wm Aa (wz Aa Aa (wz Aa Aa (wz Aa Aa (wv (r:=rB false) (A3 (b:=false) Aa Aa Aa) (wa Aa (Aq ?_))))))))));exact Cy hb
  refine Ar (A8 (Ac ?_));obtain rfl:=Av hx;exact As (BH OG (AQ Aa)) sN ⟨Aa,Aa⟩
 refine Al (Ah (wv (Ce Aa Aa) (wa Aa (Ap (cz hu Aa (λhm hy=>?_) (λhm hz=>?_))))))
 ·refine A0 (Bb (CG Aa hm (AC [(2,rB ((decide (c.fInt=0))&&((decide (c.fStr=([]:Ae)))&&(decide (0≤c.fN)))))] [] ?_ ?_)))
  ·refine Ak (vF CN Aa Ee (vL 0 Gn Aa (wv (Ce Aa Aa) (wm Aa (Bd (decide (c.fInt=0)) (λhf=>?_) (λhf=>?_))))))
   ·refine wo hf (vF CN Aa Dc (wo hf (vL 0 DQ Aa (wo hf (wv (C2 Aa Aa) (GG Aa hf Aa (wm Aa (Bd (decide (c.fStr=([]:Ae))) (λhk=>?_) (λhk=>?_)))))))))
    ·refine wo hk (vF CN Aa Ee (wo hk (vL 0 Gn Aa (wo hk (wv (EL Aa Aa) (GG Aa hk Aa (wa Aa (Aq ?_))))))));exact Cy (And.intro hf hk)
    refine wf hk (wf hk (wf hk (wv (r:=rB false) (A3 Aa hk Aa) (wa Aa (Aq ?_)))));exact Cy (And.intro hf hk)
   refine wf hf (wf hf (wf hf (wv (r:=rB false) (A3 Aa hf Aa) (wm Aa (wz Aa Aa (wz Aa Aa (wz Aa Aa (wv (r:=rB false) (A3 (b:=false) Aa Aa Aa) (wa Aa (Aq ?_))))))))));exact Cy hf
  refine Ar (A8 (Ac ?_));obtain rfl:=Av hy;exact As (BH OG (AQ Aa)) sN ⟨Aa,Aa⟩
 refine Ak (wv (Ce Aa Aa) (wa Aa (Ap (cz hz Aa (λh0 h1=>?_) (λh0 h2=>?_)))))
 ·refine AC [(2,rB ((decide (c.fInt=0))&&((decide (c.fStr=([]:Ae)))&&(decide (0≤c.fN)))))] [] ?_ ?_
  ·refine Ak (vF CN Aa Ee (vL 0 Gn Aa (wv (Ce Aa Aa) (wm Aa (Bd (decide (c.fInt=0)) (λhg=>?_) (λhg=>?_))))))
   ·refine wo hg (vF CN Aa Dc (wo hg (vL 0 DQ Aa (wo hg (wv (C2 Aa Aa) (GG Aa hg Aa (wm Aa (Bd (decide (c.fStr=([]:Ae))) (λhl=>?_) (λhl=>?_)))))))))
    ·refine wo hl (vF CN Aa Ee (wo hl (vL 0 Gn Aa (wo hl (wv (EL Aa Aa) (GG Aa hl Aa (wa Aa (Aq ?_))))))));exact Cy (And.intro hg hl)
    refine wf hl (wf hl (wf hl (wv (r:=rB false) (A3 Aa hl Aa) (wa Aa (Aq ?_)))));exact Cy (And.intro hg hl)
   refine wf hg (wf hg (wf hg (wv (r:=rB false) (A3 Aa hg Aa) (wm Aa (wz Aa Aa (wz Aa Aa (wz Aa Aa (wv (r:=rB false) (A3 (b:=false) Aa Aa Aa) (wa Aa (Aq ?_))))))))));exact Cy hg
  refine Ar (A8 (Ac ?_));obtain rfl:=Av h1;exact As (BH OG (AQ Aa)) sN ⟨Aa,Aa⟩
 refine A0 (AN (Bb (Ah (wa Aa (Ap (Ar ?_))))));obtain rfl:=Av h2;exact As (BH OG (AQ Aa)) (sS sN) ⟨Aa,Aa⟩
theorem ZZ (c:Ab)(r:Int)(h:SB c=some r):Fn Tryz.prog GE 141 [B3 (Ai c)] [] (λR H=>R=A2 r∧H=[]):=by
 refine enter (n:=28) Tryz.func141 Aa Tryz.ntmps141 Aa (λw Z=>?_);unfold SB at h;refine Ah (Cf Aa Aa (λb1=>?_));refine wa Aa (Ap (Al (Ah (vF CN Aa JJ (vL 0 JL Aa (Ap (AH (Ah (wv (Ce Aa Aa) (wa Aa (Ap (cz h Aa (λc2 h3=>?_) (λc2 h4=>?_)))))))))))))
 ·refine Ah (wa Aa (Ap (Ar (A8 (Ac ?_)))));obtain rfl:=Av h3;exact As (BH S4 (AQ Aa)) (sS sN) ⟨Aa,Aa⟩
 refine Ah (wv (Ce Aa Aa) (wa Aa (Ap (cz h4 Aa (λc5 h6=>?_) (λc5 h7=>?_)))))
 ·refine Ah (vF CN Aa Ee (vL 0 Gn Aa (wv (r:=A2 (IntKind.wrap .i64 (5-c.fInt))) (YA Aa Aa) (wa Aa (Ap (Ar (A8 (Ac ?_))))))));obtain rfl:=Av h6;exact As (BH S4 (AQ Aa)) (sS sN) ⟨Aa,Aa⟩
 refine Ah (wv (Ce Aa Aa) (wa Aa (Ap (cz h7 Aa (λc8 h9=>?_) (λc8 hb=>?_)))))
 ·refine Ah (vF CN Aa Ee (vL 0 Gn Aa (ck h9 λhd he=>Cq (rs:=[A2 c.fInt]) (r:=rS (Lib.itoa c.fInt)) Tryz.call163 Aa (TI c.fInt hd) Aa Aa (wv (BS DH Aa) (wa Aa (Ap (Ar (A8 (Ac ?_)))))))));obtain rfl:=Av he;exact As (BH S4 (AQ Aa)) (sS sN) ⟨Aa,Aa⟩
 refine Ah (wv (Ce Aa Aa) (wa Aa (Ap (cz hb Aa (λhf hg=>?_) (λhf hh=>?_)))))
 ·refine Ah (vF CN Aa Dc (vL 0 DQ Aa (ob hg λhi hj hk=>Cp Tryz.call140 (Q9 c.fStr hi hj) Aa (wa Aa (Ap (Ar (A8 (Ac ?_))))))));obtain rfl:=Av hk;exact As (BH S4 (AQ Aa)) (sS sN) ⟨Aa,Aa⟩
 refine A0 (AN (Bb (Ah (vF CN Aa Ee (vL 0 Gn Aa (wv (r:=A2 (IntKind.wrap .i64 (c.fN-1))) (YA Aa Aa) (wv (YF yu3 Aa Aa) (wv (r:=A2 (IntKind.wrap .i64 (2+(max 0 (IntKind.wrap .i64 (c.fN-1)))))) (U8 Aa Aa) (wa Aa (Ap (Ar ?_)))))))))));obtain rfl:=Av hh;exact As (BH S4 (AQ Aa)) (sS sN) ⟨Aa,Aa⟩
theorem WE (F:Nat)(hj:Value)(stack:(List AM))(r:(List AM))(h:Mm F stack=some r):Fn Tryz.prog GE 143 [rv hj] [.row hj 190 5 (Az AT stack)] (λR H=>∃u0:Value,R=rv u0∧H=[.row u0 190 5 (Az AT r)]):=by
 refine enter (n:=38) Tryz.func143 Aa Tryz.ntmps143 Aa (λw Z=>?_);unfold Mm at h;refine Ah (wa Aa (Ap (Al (AH (ob h λhm hn hl=>BG (S:=Nat×((List AM))×(Value)) (V:=((List AM))×(Value)) 0 (λσ=>Cl (λσ=>E3 σ) σ.1 σ.2.1=some hm) (λσ=>[(0,rv σ.2.2),(2,rv (.slice none 0 0))]) (λσ=>[.row σ.2.2 190 5 (Az AT σ.2.1)]) (λσ=>σ.1) (F,stack,hj) hn (AV.c Aa (AV.c Aa AV.nil)) (sC sN) (λσ=>Gc σ.1=some r) (λσ=>[(0,rv σ.2),(2,rv (.slice none 0 0))]) (λσ=>[.row σ.2 190 5 (Az AT σ.1)]) ?_ ?_)))))
 ·rintro⟨n194,hb,hf⟩ hp;refine H6 ?_;obtain⟨hq,rfl,hr,hh,hk⟩:=CD hp;replace hh:E3 hb=some hr:=hh;unfold E3 at hh;refine Al (Ah (wm Aa (wv (CQ (ys:=hb) (enc:=AT) (i:=0) JC Aa Aa) (wv (Gy Aa Aa) (Ap (cz hh Aa (λhs ht=>?_) (λhs hu=>?_)))))))
  ·refine A0 (Bb (AH (Ah (wm Aa (wm Aa (wv (CQ (ys:=hb) (enc:=AT) (i:=0) JC Aa Aa) (ck ht λhw hx=>wv (HZ Aa Aa hw) (ck hx λhe hy=>wv (r:=rv (DW 5 hf (Cc ((hb.length:Int)-1)) 0)) (Dj (i:=0) JC S0 Aa Aa Aa (B6 he)) (wa Aa (Bu (wm Aa (wv (r:=rv (DW 5 hf (Cc ((hb.length:Int)-1)) 0)) (CO (k:=0) Aa (B6 he) Aa Aa) (wv (r:=rv (DW 5 hf (Cc ((hb.length:Int)-1)) 1)) (Dv (k:=0) JB Aa Ee Aa (B6 he) Aa Aa Aa) (wv (r:=A2 ((An hb ((hb.length:Int)-1)).fLeft)) (E7 (enc:=AT) (ys:=hb) (i:=0) (j:=(hb.length:Int)-1) Gn Aa Aa he Aa) (ck hy λhz h0=>wv (HZ Aa Aa hz) (wv (r:=rv (DW 5 hf (Cc ((hb.length:Int)-1)) 0)) (CO (k:=0) Aa (B6 he) Aa Aa) (wv (r:=rv (DW 5 hf (Cc ((hb.length:Int)-1)) 1)) (Dv (k:=0) JB Aa Ee Aa (B6 he) Aa Aa Aa) (Jx (enc:=AT) (ys:=hb) (y':=(AM.mk ((An hb ((hb.length:Int)-1)).fPairs) (((An hb ((hb.length:Int)-1)).fLeft)-1) ((An hb ((hb.length:Int)-1)).fKey) ((An hb ((hb.length:Int)-1)).fLast) ((An hb ((hb.length:Int)-1)).fStarted))) (i:=0) (j:=(hb.length:Int)-1) Ee Aa Aa (BP Aa) Aa he Aa Aa (H':=[.row hf 190 5 (Az AT (List.set hb (Cc ((hb.length:Int)-1)) (AM.mk ((An hb ((hb.length:Int)-1)).fPairs) (((An hb ((hb.length:Int)-1)).fLeft)-1) ((An hb ((hb.length:Int)-1)).fKey) ((An hb ((hb.length:Int)-1)).fLast) ((An hb ((hb.length:Int)-1)).fStarted))))]) Aa (bd h0 λhd hg h1=>?_)))))))))))))))))));rw[← hg];refine Ap (Al (Ah (wm Aa (wv (r:=rv (DW 5 hf (Cc ((hb.length:Int)-1)) 0)) (CO (k:=0) Aa (B6 (Dy he hg)) Aa Aa) (wv (r:=rv (DW 5 hf (Cc ((hb.length:Int)-1)) 1)) (Dv (k:=0) JB Aa Ee Aa (B6 (Dy he hg)) Aa Aa Aa) (wv (r:=A2 ((An hd ((hb.length:Int)-1)).fLeft)) (E7 (enc:=AT) (ys:=hd) (i:=0) (j:=(hb.length:Int)-1) Gn Aa Aa (Dy he hg) Aa) (wv (Gy Aa Aa) (Ap (cz h1 Aa (λh2 h3=>?_) (λh2 h4=>?_))))))))))
   ·refine Ah (wm Aa (wm Aa (wv (r:=rv (DW 5 hf (Cc ((hb.length:Int)-1)) 0)) (CO (k:=0) Aa (B6 (Dy he hg)) Aa Aa) (wv (r:=rv (DW 5 hf (Cc ((hb.length:Int)-1)) 0)) (Dv (k:=0) JB Aa IP Aa (B6 (Dy he hg)) Aa Aa Aa) (wv (r:=rB ((An hd ((hb.length:Int)-1)).fPairs)) (E7 (enc:=AT) (ys:=hd) (i:=0) (j:=(hb.length:Int)-1) Qc Aa Aa (Dy he hg) Aa) (wv (r:=rv (DW 5 hf (Cc ((hb.length:Int)-1)) 0)) (CO (k:=0) Aa (B6 (Dy he hg)) Aa Aa) (wv (r:=rv (DW 5 hf (Cc ((hb.length:Int)-1)) 2)) (Dv (k:=0) JB Aa IP Aa (B6 (Dy he hg)) Aa Aa Aa) (Jx (enc:=AT) (ys:=hd) (y':=(AM.mk ((An hd ((hb.length:Int)-1)).fPairs) ((An hd ((hb.length:Int)-1)).fLeft) ((An hd ((hb.length:Int)-1)).fPairs) ((An hd ((hb.length:Int)-1)).fLast) ((An hd ((hb.length:Int)-1)).fStarted))) (i:=0) (j:=(hb.length:Int)-1) IP Aa Aa (BP Aa) Aa (Dy he hg) Aa Aa (H':=[.row hf 190 5 (Az AT (List.set hd (Cc ((hb.length:Int)-1)) (AM.mk ((An hd ((hb.length:Int)-1)).fPairs) ((An hd ((hb.length:Int)-1)).fLeft) ((An hd ((hb.length:Int)-1)).fPairs) ((An hd ((hb.length:Int)-1)).fLast) ((An hd ((hb.length:Int)-1)).fStarted))))]) Aa (bd h3 λhI h5 h6=>?_)))))))));rw[← h5];refine Bu (wm Aa (wa Aa (Ap (Ar (Ac (A8 (Ac (B7 ?_))))))));have h7:=Ca h6 hk hl;refine A8 (Ac ?_);obtain rfl:=Av h7;exact As (BH Tryz.results143 (AQ Aa)) (sC sN) ⟨hf,Aa,Aa⟩
   refine A0 (Bb (Ak (wm Aa (wm Aa (wv (CQ (ys:=hd) (enc:=AT) (i:=0) JC Aa Aa) (ck h4 λh8 h9=>wv (HZ Aa Aa h8) (ck h9 λhA hB=>Abq (i:=0) JC S0 Aa Aa Aa hA Aa (λhC=>?_))))))));refine wa Aa (Aq (AN ?_));have hD:=B8 hB hk;exact A9 (AZ (hq,List.take (Cc ((hd.length:Int)-1)) hd,hC) ⟨hD,Aew _⟩ (AV.c Aa (AV.c Aa AV.nil)) (sC sN))
  refine BE (Ay ?_);have hE:=BW hu hk hl;exact Ay (Bq (AZ (hb,hf) hE (AV.c Aa (AV.c Aa AV.nil)) (sC sN)))
 rintro⟨hG,hH⟩ hi;refine Ir ?_;replace hi:Gc hG=some r:=hi;unfold Gc at hi;refine Bo (Bb (Ah (wm Aa (wa Aa (Ap (Ar ?_))))));obtain rfl:=Av hi;exact As (BH Tryz.results143 (AQ Aa)) (sC sN) ⟨hH,Aa,Aa⟩
theorem Rr (F:Nat)(v:(List Ab))(r:Int×Ba×Bool)(h:JE F v=some r):Fn Tryz.prog GE 95 [AK 4 (Az Ai v)] [] (λR H=>R=Dr [A2 r.1,B3 (Bw r.2.1),rB r.2.2]∧H=[]):=by
 refine enter (n:=152) Tryz.func95 Aa Tryz.ntmps95 Aa (λw Z=>?_);unfold JE at h;refine Ah (wa Aa (BO (cs:=[A2 0,A2 0,rB false,rB false]) Sm Aa Aa (λb1=>?_)));refine wa Aa (Ap (XV (Ah (BO (cs:=[A2 0,A2 0,rB false,rB false]) Sm Aa Aa (λb2=>?_)))));refine Bu (wa Aa (Ap (Al (XW (Bb (Al (Ah (wm Aa (wv (By (ys:=v) (enc:=Ai) Ef Aa) (wv (r:=A2 0) (Aj Aa) (Ap (AH (WC.nilrow (e:=190) (sz:=5) (KB (H2:=[.blk b2 [A2 0,A2 0,rB false,rB false] 143,.blk b1 [A2 0,A2 0,rB false,rB false] 143,.row (.slice none 0 0                                                                                                                                                                                              ) 190 5 (Az AT ([]:List AM))]) ((AO (i:=1) Aa).trans (Aer _ ((AO (i:=1) Aa).trans (Aer _ (Aet _))))) (ob h λhA hB h0=>BG (S:=Nat×((List AM)×Int×Ba)×(Value)) (V:=(Ba)×(Unit)) 0 (λσ=>Cl (λσ=>E2 F v σ.1 σ.2.1 σ.2.2) σ.1 σ.2.1=some hA) (λσ=>[(0,AK 4 (Az Ai v)),(3,rP b1 0),(5,rP b2 0),(6,rv σ.2.2),(11,AK 4 (Az Ai v)),(12,A2 (v.length:Int)),(13,A2 σ.2.1.2.1)]) (λσ=>[.blk b2 (Bw σ.2.1.2.2) 143,.blk b1 [A2 0,A2 0,rB false,rB false] 143,.row σ.2.2 190 5 (Az AT σ.2.1.1)]) (λσ=>σ.1) (F,(([]:List AM),0,(Ba.mk 0 0 false false)),(.slice none 0 0                                                                                                                                                                                              )) hB (AV.c Aa (AV.c Aa (AV.c5 Aa Aa Aa Aa Aa AV.nil))) (sC (sC (sC sN))) (λσ=>Ml σ.1=some r) (λσ=>[(3,rP b1 0),(5,rP b2 0)]) (λσ=>[.blk b2 (Bw σ.1) 143,.blk b1 [A2 0,A2 0,rB false,rB false] 143]) ?_ ?_)))))))))))))))
 ·rintro⟨gL,⟨he,hd,hb⟩,hf⟩ hC;refine H6 ?_;obtain⟨hD,rfl,h6,h1,hy⟩:=CD hC;replace h1:E2 F v he hd hb=some h6:=h1;unfold E2 at h1;refine Ah (wv (CP Aa Aa) (Ap (Al (cz h1 Aa (λhE hG=>?_) (λhE hH=>?_)))))
  ·refine A0 (Bb (HP (S:=((List AM)×Ba)×(Value)) (λσ=>EO hd σ.1.1 σ.1.2=some h6) (λσ=>[(0,AK 4 (Az Ai v)),(3,rP b1 0),(5,rP b2 0),(6,rv σ.2),(11,AK 4 (Az Ai v)),(12,A2 (v.length:Int)),(13,A2 hd)]) (λσ=>[.blk b2 (Bw σ.1.2) 143,.blk b1 [A2 0,A2 0,rB false,rB false] 143,.row σ.2 190 5 (Az AT σ.1.1)]) ?_ ?_))
   ·refine AH (Ah (wm Aa (ck hG λhI hJ=>wv (Bl (enc:=Ai) (ys:=v) Ef E0 Aa Aa hI) (wv (Do W3 E0 Aa Aa Aa) (BO (cs:=[A2 0,A2 0,rS ([]:Ae),A2 0]) Oe Aa Aa (λhg=>?_))))));refine wa Aa (Gx (i:=0) E0 Aa Aa Aa (B5.c Aa) Aa Aa ?_);refine Ap (Al (Ah (wv (Br (i:=0) W3 E0 Aa Aa Aa Aa) (ob hJ λhK hL hN=>Cp Tryz.call139 (Yc F (An v hd) hK hL) Aa (wv (Cn Aa) (Ap (cz hN Aa (λhO hP=>?_) (λhO hQ=>?_))))))))
    ·refine Al (En (H1:=[.blk hg (Ai (An v hd)) 70,.blk b2 (Bw hb) 143,.blk b1 (Bw hb) 143,.row hf 190 5 (Az AT he)]) [3,5] [⟨[],B3 (Bw hb),1⟩,⟨[],A2 0,0⟩,⟨[0],rv undef,2⟩,⟨[],rB false,0⟩] (rle [(3,_),(2,[.blk hg (Ai (An v hd)) 70,.blk b2 (Bw hb) 143,.blk b1 (Bw hb) 143,.row hf 190 5 (Az AT he)])]) [2,4,3] ?_ ?_)
     ·refine of (Br (i:=1) Li GB Aa Aa Aa Aa) (oq (A4 Aa) (DS Aa (HA (EV (i:=2) GB Aa Aa Aa (B5.c Aa) Aa Aa (cs':=[A2 hb.fDepth,A2 hb.fBytes,rB hb.fOutside,rB hb.fLong]) Aa (H':=[.blk hg (Ai (An v hd)) 70,.blk b2 (Bw hb) 143,.blk b1 (Bw hb) 143,.row hf 190 5 (Az AT he)]) Aa)) ?_));refine oq (A4 Aa) ?_;exact Du
     refine Bb (Ar (Ac (A8 (Ac (Ac (B7 ?_))))));have hR:=Ca hP hy h0;refine A8 (Ac (Me ?_));obtain rfl:=Av hR;exact As (V1 XR (AQ Aa) (CV (i:=2) Li GB Aa Aa Aa) (AQ Aa)) (sS (sS (sS (sS sN)))) ⟨Aa,Aa⟩
    refine A0 (Bb (Al (Ah (wm Aa (wv (CQ (ys:=he) (enc:=AT) (i:=3) JC Aa Aa) (wa Aa (Ap (ck hQ λhS hT=>ck hT λh7 hU=>AC [(0,AK 4 (Az Ai v)),(3,rP b1 0),(5,rP b2 0),(6,rv hf),(7,A2 hd),(8,rP hg 0),(9,A2 (he.length:Int)),(11,AK 4 (Az Ai v)),(12,A2 (v.length:Int)),(13,A2 hd),(33,rB ((decide (0<(he.length:Int)))&&((An he ((he.length:Int)-1)).fKey)))] [.blk hg (Ai (An v hd)) 70,.blk b2 (Bw hb) 143,.blk b1 [A2 0,A2 0,rB false,rB false] 143,.row hf 190 5 (Az AT he)] ?_ ?_))))))))
    ·refine Ak (wm Aa (wv (Gy Aa Aa) (wm Aa (Bd (decide (0<(he.length:Int))) (λhj=>?_) (λhj=>?_)))))
     ·refine wo hj (wm Aa (wo hj (wm Aa (wo hj (wv (HZ Aa Aa (BX hS hj)) (wo hj (wv (r:=rv (DW 5 hf (Cc ((he.length:Int)-1)) 0)) (Dj (i:=3) JC S0 Aa Aa Aa (B6 (BX h7 hj))) (wo hj (wv (r:=rv (DW 5 hf (Cc ((he.length:Int)-1)) 2)) (Dv (k:=3) JB Aa IP Aa (B6 (BX h7 hj)) Aa Aa Aa) (wo hj (wv (r:=rB ((An he ((he.length:Int)-1)).fKey)) (E7 (enc:=AT) (ys:=he) (i:=3) (j:=(he.length:Int)-1) Qc Aa Aa (BX h7 hj) Aa) (GG Aa hj Aa (Aq ?_)))))))))))));exact Cy hj
     refine wf hj (wf hj (wf hj (wf hj (wf hj (wf hj (wv (r:=rB false) (A3 Aa hj Aa) (Aq ?_)))))));exact Cy hj
    refine cz hU Aa (λhV hW=>?_) (λhV hX=>?_)
    ·refine Ah (wm Aa (wm Aa (ck hW λhY hZ=>wv (HZ Aa Aa hY) (ck hZ λhk ga=>wv (r:=rv (DW 5 hf (Cc ((he.length:Int)-1)) 0)) (Dj (i:=3) JC S0 Aa Aa Aa (B6 hk)) (wa Aa (Ap (Al (AC [(0,AK 4 (Az Ai v)),(3,rP b1 0),(5,rP b2 0),(6,rv hf),(8,rP hg 0),(10,rv (DW 5 hf (Cc ((he.length:Int)-1)) 0)),(11,AK 4 (Az Ai v)),(12,A2 (v.length:Int)),(13,A2 hd),(38,rP hg 0),(39,A2 ((An v hd).fKind)),(40,rB (!decide (((An v hd).fKind)=4))),(41,rB (!decide (((An v hd).fKind)=4))),(55,rB ((!decide (((An v hd).fKind)=4))||(((An he ((he.length:Int)-1)).fStarted)&&(Cz ((An v hd).fStr) ((An he ((he.length:Int)-1)).fLast)||decide (((An v hd).fStr)=((An he ((he.length:Int)-1)).fLast))))))] [.blk hg (Ai (An v hd)) 70,.blk b2 (Bw hb) 143,.blk b1 [A2 0,A2 0,rB false,rB false] 143,.row hf 190 5 (Az AT he)] ?_ ?_))))))))
     ·refine Bd (!decide (((An v hd).fKind)=4)) (λhi=>?_) (λhi=>?_)
      ·refine CJ [0,3,5,6,8,10,11,12,13] ?_;refine rq (Am CN Aa JJ Aa Aa) (rq (AU (i:=0) JL Aa Aa Aa) (rq (CZ Aa Aa) (rq (Aj Aa) (rz hi (rz hi (rz hi (rz hi (rz hi (ru (ru (ru (ru (ru (ru (ru (rz hi (rq (r:=rB true) (AF (b:=!decide (((An v hd).fKind)=4)) Aa hi Aa) (re [38,39,40,41,42,43,44,45,46,47,48,49,50,51,52,53,54,55,0,3,5,6,8,10,11,12,13] ?_))))))))))))))))));exact Cy hi
      refine Bd ((An he ((he.length:Int)-1)).fStarted) (λhl=>?_) (λhl=>?_)
      ·refine CJ [0,3,5,6,8,10,11,12,13] ?_;refine rq (Am CN Aa JJ Aa Aa) (rq (AU (i:=0) JL Aa Aa Aa) (rq (CZ Aa Aa) (rq (Aj Aa) (rg hi (Aj Aa) (rg hi (r:=rv (DW 5 hf (Cc ((he.length:Int)-1)) 0)) (CO (k:=3) Aa (B6 hk) Aa Aa) (rg hi (r:=rv (DW 5 hf (Cc ((he.length:Int)-1)) 4)) (Dv (k:=3) JB Aa IP Aa (B6 hk) Aa Aa Aa) (rg hi (r:=rB ((An he ((he.length:Int)-1)).fStarted)) (E7 (enc:=AT) (ys:=he) (i:=3) (j:=(he.length:Int)-1) Qc Aa Aa hk Aa) (rg hi (Aj Aa) (rg hl (Am CN Aa Dc Aa Aa) (rg hl (AU (i:=0) DQ Aa Aa Aa) (rg hl (Aj Aa) (rg hl (r:=rv (DW 5 hf (Cc ((he.length:Int)-1)) 0)) (CO (k:=3) Aa (B6 hk) Aa Aa) (rg hl (r:=rv (DW 5 hf (Cc ((he.length:Int)-1)) 3)) (Dv (k:=3) JB Aa Dc Aa (B6 hk) Aa Aa Aa) (rg hl (r:=rS ((An he ((he.length:Int)-1)).fLast)) (E7 (enc:=AT) (ys:=he) (i:=3) (j:=(he.length:Int)-1) DQ Aa Aa hk Aa) (rg hl (VD Aa Aa) (rg hi (AF Aa hl Aa) (rq (A3 Aa hi Aa) (re [38,39,40,41,42,43,44,45,46,47,48,49,50,51,52,53,54,55,0,3,5,6,8,10,11,12,13] ?_))))))))))))))))));exact Cy (And.intro hi hl)
      refine CJ [0,3,5,6,8,10,11,12,13] ?_;refine rq (Am CN Aa JJ Aa Aa) (rq (AU (i:=0) JL Aa Aa Aa) (rq (CZ Aa Aa) (rq (Aj Aa) (rg hi (Aj Aa) (rg hi (r:=rv (DW 5 hf (Cc ((he.length:Int)-1)) 0)) (CO (k:=3) Aa (B6 hk) Aa Aa) (rg hi (r:=rv (DW 5 hf (Cc ((he.length:Int)-1)) 4)) (Dv (k:=3) JB Aa IP Aa (B6 hk) Aa Aa Aa) (rg hi (r:=rB ((An he ((he.length:Int)-1)).fStarted)) (E7 (enc:=AT) (ys:=he) (i:=3) (j:=(he.length:Int)-1) Qc Aa Aa hk Aa) (rg hi (Aj Aa) (rz hl (rz hl (rz hl (rz hl (rz hl (rz hl (rz hl (rg hi (r:=rB false) (A3 (b:=(An he ((he.length:Int)-1)).fStarted) Aa hl Aa) (rq (A3 Aa hi Aa) (re [38,39,40,41,42,43,44,45,46,47,48,49,50,51,52,53,54,55,0,3,5,6,8,10,11,12,13] ?_))))))))))))))))));exact Cy (And.intro hi hl)
     refine cz ga Aa (λgb gc=>?_) (λgb gd=>?_)
     ·refine Al (En (H1:=[.blk hg (Ai (An v hd)) 70,.blk b2 (Bw hb) 143,.blk b1 (Bw hb) 143,.row hf 190 5 (Az AT he)]) [3,5] [⟨[],B3 (Bw hb),1⟩,⟨[],A2 0,0⟩,⟨[0],rv undef,2⟩,⟨[],rB false,0⟩] (rle [(3,_),(2,[.blk hg (Ai (An v hd)) 70,.blk b2 (Bw hb) 143,.blk b1 (Bw hb) 143,.row hf 190 5 (Az AT he)])]) [2,4,3] ?_ ?_)
      ·refine of (Br (i:=1) Li GB Aa Aa Aa Aa) (oq (A4 Aa) (DS Aa (HA (EV (i:=2) GB Aa Aa Aa (B5.c Aa) Aa Aa (cs':=[A2 hb.fDepth,A2 hb.fBytes,rB hb.fOutside,rB hb.fLong]) Aa (H':=[.blk hg (Ai (An v hd)) 70,.blk b2 (Bw hb) 143,.blk b1 (Bw hb) 143,.row hf 190 5 (Az AT he)]) Aa)) ?_));refine oq (A4 Aa) ?_;exact Du
      refine Bb (Ar (Ac (Ac (A8 (Ac (Ac (B7 ?_)))))));have gf:=Ca gc hy h0;refine A8 (Ac (Me ?_));obtain rfl:=Av gf;exact As (V1 XR (AQ Aa) (CV (i:=2) Li GB Aa Aa Aa) (AQ Aa)) (sS (sS (sS (sS sN)))) ⟨Aa,Aa⟩
     refine A0 (Bb (Ah (wm Aa (wm Aa (wm Aa (vF CN Aa Dc (vL 0 DQ Aa (wv (r:=rv (DW 5 hf (Cc ((he.length:Int)-1)) 0)) (CO (k:=3) Aa (B6 hk) Aa Aa) (wv (r:=rv (DW 5 hf (Cc ((he.length:Int)-1)) 3)) (Dv (k:=3) JB Aa Dc Aa (B6 hk) Aa Aa Aa) (Jx (enc:=AT) (ys:=he) (y':=(AM.mk ((An he ((he.length:Int)-1)).fPairs) ((An he ((he.length:Int)-1)).fLeft) ((An he ((he.length:Int)-1)).fKey) ((An v hd).fStr) ((An he ((he.length:Int)-1)).fStarted))) (i:=3) (j:=(he.length:Int)-1) Dc Aa Aa (BP Aa) Aa hk Aa Aa (H':=[.blk hg (Ai (An v hd)) 70,.blk b2 (Bw hb) 143,.blk b1 [A2 0,A2 0,rB false,rB false] 143,.row hf 190 5 (Az AT (List.set he (Cc ((he.length:Int)-1)) (AM.mk ((An he ((he.length:Int)-1)).fPairs) ((An he ((he.length:Int)-1)).fLeft) ((An he ((he.length:Int)-1)).fKey) ((An v hd).fStr) ((An he ((he.length:Int)-1)).fStarted))))]) Aa (bd gd λht hw gg=>?_)))))))))));rw[← hw];refine wv (r:=rv (DW 5 hf (Cc ((he.length:Int)-1)) 0)) (CO (k:=3) Aa (B6 (Dy hk hw)) Aa Aa) (wv (r:=rv (DW 5 hf (Cc ((he.length:Int)-1)) 4)) (Dv (k:=3) JB Aa IP Aa (B6 (Dy hk hw)) Aa Aa Aa) (Jx (enc:=AT) (ys:=ht) (y':=(AM.mk ((An ht ((he.length:Int)-1)).fPairs) ((An ht ((he.length:Int)-1)).fLeft) ((An ht ((he.length:Int)-1)).fKey) ((An ht ((he.length:Int)-1)).fLast) true)) (i:=3) (j:=(he.length:Int)-1) IP Aa Aa (BP Aa) Aa (Dy hk hw) Aa Aa (H':=[.blk hg (Ai (An v hd)) 70,.blk b2 (Bw hb) 143,.blk b1 [A2 0,A2 0,rB false,rB false] 143,.row hf 190 5 (Az AT (List.set ht (Cc ((he.length:Int)-1)) (AM.mk ((An ht ((he.length:Int)-1)).fPairs) ((An ht ((he.length:Int)-1)).fLeft) ((An ht ((he.length:Int)-1)).fKey) ((An ht ((he.length:Int)-1)).fLast) true)))]) Aa (bd gg λhu h2 gh=>?_)));rw[← h2];refine wv (r:=rv (DW 5 hf (Cc ((he.length:Int)-1)) 0)) (CO (k:=3) Aa (B6 (Dy (Dy hk hw) h2)) Aa Aa) (wv (r:=rv (DW 5 hf (Cc ((he.length:Int)-1)) 2)) (Dv (k:=3) JB Aa IP Aa (B6 (Dy (Dy hk hw) h2)) Aa Aa Aa) (Jx (enc:=AT) (ys:=hu) (y':=(AM.mk ((An hu ((he.length:Int)-1)).fPairs) ((An hu ((he.length:Int)-1)).fLeft) false ((An hu ((he.length:Int)-1)).fLast) ((An hu ((he.length:Int)-1)).fStarted))) (i:=3) (j:=(he.length:Int)-1) IP Aa Aa (BP Aa) Aa (Dy (Dy hk hw) h2) Aa Aa (H':=[.blk hg (Ai (An v hd)) 70,.blk b2 (Bw hb) 143,.blk b1 [A2 0,A2 0,rB false,rB false] 143,.row hf 190 5 (Az AT (List.set hu (Cc ((he.length:Int)-1)) (AM.mk ((An hu ((he.length:Int)-1)).fPairs) ((An hu ((he.length:Int)-1)).fLeft) false ((An hu ((he.length:Int)-1)).fLast) ((An hu ((he.length:Int)-1)).fStarted))))]) Aa (bd gh λhx gi gj=>?_)));rw[← gi];refine Ap (Al (ob gj λhn gl gm=>ck gm λgp gq=>En (H1:=[.blk hg (Ai (An v hd)) 70,.blk b2 [A2 hb.fDepth,A2 (IntKind.wrap .i64 (hb.fBytes+(hn+1))),rB hb.fOutside,rB hb.fLong] 143,.blk b1 [A2 0,A2 0,rB false,rB false] 143,.row hf 190 5 (Az AT hx)]) [0,3,5,6,8,11,12,13,38,39,40,41] [⟨[],rP b2 1,0⟩,⟨[0],A2 hb.fBytes,1⟩,⟨[],rP hg 2,0⟩,⟨[2],rS ((An v hd).fStr),1⟩,⟨[3],A2 hn,0⟩,⟨[4],A2 (hn+1),0⟩,⟨[1,5],A2 (IntKind.wrap .i64 (hb.fBytes+(hn+1))),0⟩,⟨[],rP b2 1,0⟩,⟨[7,6],rv undef,2⟩] (rle [(9,_),(1,[.blk hg (Ai (An v hd)) 70,.blk b2 [A2 hb.fDepth,A2 (IntKind.wrap .i64 (hb.fBytes+(hn+1))),rB hb.fOutside,rB hb.fLong] 143,.blk b1 [A2 0,A2 0,rB false,rB false] 143,.row hf 190 5 (Az AT hx)])]) [68,69,70,71,72,73,74,75,0,3,5,6,8,11,12,13,38,39,40,41] ?_ ?_))
     ·refine oq (Am Gm Aa Ee Aa Aa) (of (AU (i:=1) Gn Aa Aa Aa) (oq (Am CN Aa Dc Aa Aa) (of (AU (i:=0) DQ Aa Aa Aa) (Jb Aa (λH=>Cg Tryz.call140 (Q9 ((An v hd).fStr) hn gl) Aa) ?_))));refine oq (BM Aa Aa gp) (oq (U8 Aa Aa) (oq (Am Gm Aa Ee Aa Aa) (DS Aa (HA (Db (i:=1) Ee Aa Aa (BP Aa) Aa Aa (cs':=[A2 hb.fDepth,A2 (IntKind.wrap .i64 (hb.fBytes+(hn+1))),rB hb.fOutside,rB hb.fLong]) Aa (H':=[.blk hg (Ai (An v hd)) 70,.blk b2 [A2 hb.fDepth,A2 (IntKind.wrap .i64 (hb.fBytes+(hn+1))),rB hb.fOutside,rB hb.fLong] 143,.blk b1 [A2 0,A2 0,rB false,rB false] 143,.row hf 190 5 (Az AT hx)]) Aa)) ?_)));exact Du
     refine Bb (AC [(0,AK 4 (Az Ai v)),(3,rP b1 0),(5,rP b2 0),(6,rv hf),(11,AK 4 (Az Ai v)),(12,A2 (v.length:Int)),(13,A2 hd),(38,rP hg 0),(39,A2 ((An v hd).fKind)),(40,rB (!decide (((An v hd).fKind)=4))),(41,rB (!decide (((An v hd).fKind)=4))),(68,rP b2 1),(69,A2 hb.fBytes),(70,rP hg 2),(71,rS ((An v hd).fStr)),(72,A2 hn),(73,A2 (hn+1)),(74,A2 (IntKind.wrap .i64 (hb.fBytes+(hn+1)))),(75,rP b2 1)] [.blk hg (Ai (An v hd)) 70,.blk b2 [A2 hb.fDepth,A2 (IntKind.wrap .i64 (hb.fBytes+(hn+1))),rB hb.fOutside,rB (hb.fLong||(decide (200<(((An v hd).fStr).length:Int))))] 143,.blk b1 [A2 0,A2 0,rB false,rB false] 143,.row hf 190 5 (Az AT hx)] ?_ ?_)
     ·refine Ak (vF Gm Aa IP (vL 1 Qc Aa (wm Aa (Bd (hb.fLong) (λhq=>?_) (λhq=>?_)))))
      ·refine wf hq (wf hq (wf hq (wf hq (wv (r:=rB true) (AF Aa hq Aa) (vF Gm Aa IP (us (i:=1) IP Aa Aa (BP Aa) Aa Aa ?_))))));refine Aq (L7 (H':=[.blk hg (Ai (An v hd)) 70,.blk b2 [A2 hb.fDepth,A2 (IntKind.wrap .i64 (hb.fBytes+(hn+1))),rB hb.fOutside,rB (hb.fLong||(decide (200<(((An v hd).fStr).length:Int))))] 143,.blk b1 [A2 0,A2 0,rB false,rB false] 143,.row hf 190 5 (Az AT hx)]) (by simp only[hq,Aex,Aez,Ae7,Aey,Ae2,Ae1,Ae5,Ae3,Aeo,Aev,Aeq,Aem]) ?_);exact wt
      refine wo hq (vF CN Aa Dc (wo hq (vL 0 DQ Aa (wo hq (wv (BS DH Aa) (wo hq (wv (Gy Aa Aa) (MY Aa hq Aa (vF Gm Aa IP (us (i:=1) IP Aa Aa (BP Aa) Aa Aa ?_))))))))));refine Aq (L7 (H':=[.blk hg (Ai (An v hd)) 70,.blk b2 [A2 hb.fDepth,A2 (IntKind.wrap .i64 (hb.fBytes+(hn+1))),rB hb.fOutside,rB (hb.fLong||(decide (200<(((An v hd).fStr).length:Int))))] 143,.blk b1 [A2 0,A2 0,rB false,rB false] 143,.row hf 190 5 (Az AT hx)]) (by simp only[hq,Aex,Aez,Ae7,Aey,Ae2,Ae1,Ae5,Ae3,Aeo,Aev,Aeq,Aem]) ?_);exact wt
     exact BE (Ay (Bo (A9 (AZ ((hx,(Ba.mk hb.fDepth (IntKind.wrap .i64 (hb.fBytes+(hn+1))) hb.fOutside (hb.fLong||(decide (200<(((An v hd).fStr).length:Int)))))),hf) gq (AV.c Aa (AV.c Aa (AV.c5 Aa Aa Aa Aa Aa AV.nil))) (sS (sC (sC (sC sN))))))))
    refine A0 (Bb (Ah (vF Gm Aa Ee (vL 1 Gn Aa (wm Aa (wv (CQ (ys:=he) (enc:=AT) (i:=3) JC Aa Aa) (ck hX λgr gs=>wv (BM Aa Aa gr) (wv (YF yu3 Aa Aa) (vF Gm Aa Ee (us (i:=1) Ee Aa Aa (BP Aa) Aa Aa ?_))))))))));refine Ap (Al (ob gs λhh gu gv=>En (H1:=[.blk hg (Ai (An v hd)) 70,.blk b2 [A2 (max hb.fDepth ((he.length:Int)+1)),A2 (IntKind.wrap .i64 (hb.fBytes+hh)),rB hb.fOutside,rB hb.fLong] 143,.blk b1 [A2 0,A2 0,rB false,rB false] 143,.row hf 190 5 (Az AT he)]) [0,3,5,6,7,8,11,12,13] [⟨[],rP b2 1,0⟩,⟨[0],A2 hb.fBytes,1⟩,⟨[],B3 (Ai (An v hd)),1⟩,⟨[2],A2 hh,0⟩,⟨[1,3],A2 (IntKind.wrap .i64 (hb.fBytes+hh)),0⟩,⟨[],rP b2 1,0⟩,⟨[5,4],rv undef,2⟩] (rle [(7,_),(1,[.blk hg (Ai (An v hd)) 70,.blk b2 [A2 (max hb.fDepth ((he.length:Int)+1)),A2 (IntKind.wrap .i64 (hb.fBytes+hh)),rB hb.fOutside,rB hb.fLong] 143,.blk b1 [A2 0,A2 0,rB false,rB false] 143,.row hf 190 5 (Az AT he)])]) [92,93,94,95,96,97,0,3,5,6,7,8,11,12,13] ?_ ?_))
    ·refine oq (Am Gm Aa Ee Aa Aa) (of (AU (i:=1) Gn Aa Aa Aa) (of (Br (i:=0) W3 E0 Aa Aa Aa Aa) (Jb Aa (λH=>Cg Tryz.call141 (ZZ (An v hd) hh gu) Aa) ?_)));refine oq (U8 Aa Aa) (oq (Am Gm Aa Ee Aa Aa) (DS Aa (HA (Db (i:=1) Ee Aa Aa (BP Aa) Aa Aa (cs':=[A2 (max hb.fDepth ((he.length:Int)+1)),A2 (IntKind.wrap .i64 (hb.fBytes+hh)),rB hb.fOutside,rB hb.fLong]) Aa (H':=[.blk hg (Ai (An v hd)) 70,.blk b2 [A2 (max hb.fDepth ((he.length:Int)+1)),A2 (IntKind.wrap .i64 (hb.fBytes+hh)),rB hb.fOutside,rB hb.fLong] 143,.blk b1 [A2 0,A2 0,rB false,rB false] 143,.row hf 190 5 (Az AT he)]) Aa)) ?_));exact Du
    refine Bb (ck gv λgw gx=>AC [(0,AK 4 (Az Ai v)),(3,rP b1 0),(5,rP b2 0),(6,rv hf),(7,A2 hd),(8,rP hg 0),(11,AK 4 (Az Ai v)),(12,A2 (v.length:Int)),(13,A2 hd),(92,rP b2 1),(93,A2 hb.fBytes),(94,B3 (Ai (An v hd))),(95,A2 hh),(96,A2 (IntKind.wrap .i64 (hb.fBytes+hh))),(97,rP b2 1)] [.blk hg (Ai (An v hd)) 70,.blk b2 [A2 (max hb.fDepth ((he.length:Int)+1)),A2 (IntKind.wrap .i64 (hb.fBytes+hh)),rB (hb.fOutside||((decide (((An v hd).fKind)=3))&&(!(ov (Cv ((An v hd).fInt)))))),rB hb.fLong] 143,.blk b1 [A2 0,A2 0,rB false,rB false] 143,.row hf 190 5 (Az AT he)] ?_ ?_)
    ·refine Ak (vF Gm Aa IP (vL 1 Qc Aa (wm Aa (Bd (hb.fOutside) (λhm=>?_) (λhm=>?_)))))
     ·refine wf hm (wf hm (wf hm (wf hm (wu (wu (wu (wu (wf hm (wv (r:=rB true) (AF Aa hm Aa) (vF Gm Aa IP (us (i:=1) IP Aa Aa (BP Aa) Aa Aa ?_)))))))))));refine Aq (L7 (H':=[.blk hg (Ai (An v hd)) 70,.blk b2 [A2 (max hb.fDepth ((he.length:Int)+1)),A2 (IntKind.wrap .i64 (hb.fBytes+hh)),rB (hb.fOutside||((decide (((An v hd).fKind)=3))&&(!(ov (Cv ((An v hd).fInt)))))),rB hb.fLong] 143,.blk b1 [A2 0,A2 0,rB false,rB false] 143,.row hf 190 5 (Az AT he)]) (by simp only[hm,Aex,Aez,Ae7,Aey,Ae2,Ae1,Ae5,Ae3,Aeo,Aev,Aeq,Aem]) ?_);exact wt
     refine wo hm (vF CN Aa JJ (wo hm (vL 0 JL Aa (wo hm (wv (Ce Aa Aa) (wo hm (wm Aa (Bd (decide (((An v hd).fKind)=3)) (λhp=>?_) (λhp=>?_)))))))))
     ·refine wo hp (vF CN Aa Ee (wo hp (vL 0 Gn Aa (wo hp (Cp Tryz.call142 (YJ ((An v hd).fInt) (ov (Cv ((An v hd).fInt))) (CL (BX (H3 gw hm) hp))) Aa (wo hp (wv (Cn Aa) (wo hm (GG Aa hp Aa (MY Aa hm Aa (vF Gm Aa IP (us (i:=1) IP Aa Aa (BP Aa) Aa Aa ?_))))))))))));refine Aq (L7 (H':=[.blk hg (Ai (An v hd)) 70,.blk b2 [A2 (max hb.fDepth ((he.length:Int)+1)),A2 (IntKind.wrap .i64 (hb.fBytes+hh)),rB (hb.fOutside||((decide (((An v hd).fKind)=3))&&(!(ov (Cv ((An v hd).fInt)))))),rB hb.fLong] 143,.blk b1 [A2 0,A2 0,rB false,rB false] 143,.row hf 190 5 (Az AT he)]) (by simp only[hm,hp,Aex,Aez,Ae7,Aey,Ae2,Ae1,Ae5,Ae3,Aeo,Aev,Aeq,Aem]) ?_);exact wt
     refine wf hp (wf hp (wf hp (wf hp (wo hm (wv (r:=rB false) (A3 Aa hp Aa) (MY Aa hm Aa (vF Gm Aa IP (us (i:=1) IP Aa Aa (BP Aa) Aa Aa ?_))))))));refine Aq (L7 (H':=[.blk hg (Ai (An v hd)) 70,.blk b2 [A2 (max hb.fDepth ((he.length:Int)+1)),A2 (IntKind.wrap .i64 (hb.fBytes+hh)),rB (hb.fOutside||((decide (((An v hd).fKind)=3))&&(!(ov (Cv ((An v hd).fInt)))))),rB hb.fLong] 143,.blk b1 [A2 0,A2 0,rB false,rB false] 143,.row hf 190 5 (Az AT he)]) (by simp only[hm,hp,Aex,Aez,Ae7,Aey,Ae2,Ae1,Ae5,Ae3,Aeo,Aev,Aeq,Aem]) ?_);exact wt
    refine AC [(0,AK 4 (Az Ai v)),(3,rP b1 0),(5,rP b2 0),(6,rv hf),(7,A2 hd),(8,rP hg 0),(11,AK 4 (Az Ai v)),(12,A2 (v.length:Int)),(13,A2 hd),(92,rP b2 1),(93,A2 hb.fBytes),(94,B3 (Ai (An v hd))),(95,A2 hh),(96,A2 (IntKind.wrap .i64 (hb.fBytes+hh))),(97,rP b2 1)] [.blk hg (Ai (An v hd)) 70,.blk b2 [A2 (max hb.fDepth ((he.length:Int)+1)),A2 (IntKind.wrap .i64 (hb.fBytes+hh)),rB (hb.fOutside||((decide (((An v hd).fKind)=3))&&(!(ov (Cv ((An v hd).fInt)))))),rB (hb.fLong||(decide (200<(((An v hd).fStr).length:Int))))] 143,.blk b1 [A2 0,A2 0,rB false,rB false] 143,.row hf 190 5 (Az AT he)] ?_ ?_
    ·refine Ak (vF Gm Aa IP (vL 1 Qc Aa (wm Aa (Bd (hb.fLong) (λhr=>?_) (λhr=>?_)))))
     ·refine wf hr (wf hr (wf hr (wf hr (wv (r:=rB true) (AF Aa hr Aa) (vF Gm Aa IP (us (i:=1) IP Aa Aa (BP Aa) Aa Aa ?_))))));refine Aq (L7 (H':=[.blk hg (Ai (An v hd)) 70,.blk b2 [A2 (max hb.fDepth ((he.length:Int)+1)),A2 (IntKind.wrap .i64 (hb.fBytes+hh)),rB (hb.fOutside||((decide (((An v hd).fKind)=3))&&(!(ov (Cv ((An v hd).fInt)))))),rB (hb.fLong||(decide (200<(((An v hd).fStr).length:Int))))] 143,.blk b1 [A2 0,A2 0,rB false,rB false] 143,.row hf 190 5 (Az AT he)]) (by simp only[hr,Aex,Aez,Ae7,Aey,Ae2,Ae1,Ae5,Ae3,Aeo,Aev,Aeq,Aem]) ?_);exact wt
     refine wo hr (vF CN Aa Dc (wo hr (vL 0 DQ Aa (wo hr (wv (BS DH Aa) (wo hr (wv (Gy Aa Aa) (MY Aa hr Aa (vF Gm Aa IP (us (i:=1) IP Aa Aa (BP Aa) Aa Aa ?_))))))))));refine Aq (L7 (H':=[.blk hg (Ai (An v hd)) 70,.blk b2 [A2 (max hb.fDepth ((he.length:Int)+1)),A2 (IntKind.wrap .i64 (hb.fBytes+hh)),rB (hb.fOutside||((decide (((An v hd).fKind)=3))&&(!(ov (Cv ((An v hd).fInt)))))),rB (hb.fLong||(decide (200<(((An v hd).fStr).length:Int))))] 143,.blk b1 [A2 0,A2 0,rB false,rB false] 143,.row hf 190 5 (Az AT he)]) (by simp only[hr,Aex,Aez,Ae7,Aey,Ae2,Ae1,Ae5,Ae3,Aeo,Aev,Aeq,Aem]) ?_);exact wt
    refine Al (Ah (vF CN Aa Ee (vL 0 Gn Aa (wv (Gy Aa Aa) (Ap (cz gx Aa (λgy gz=>?_) (λgy g0=>?_)))))))
    ·refine Al (Ah (vF CN Aa Ee (vL 0 Gn Aa (wm Aa (wv (By (ys:=v) (enc:=Ai) Ef Aa) (wv (Gy Aa Aa) (Ap (cz gz Aa (λg1 g2=>?_) (λg1 g3=>?_)))))))))
     ·refine Al (En (H1:=[.blk hg (Ai (An v hd)) 70,.blk b2 [A2 (max hb.fDepth ((he.length:Int)+1)),A2 (IntKind.wrap .i64 (hb.fBytes+hh)),rB (hb.fOutside||((decide (((An v hd).fKind)=3))&&(!(ov (Cv ((An v hd).fInt)))))),rB (hb.fLong||(decide (200<(((An v hd).fStr).length:Int))))] 143,.blk b1 [A2 (max hb.fDepth ((he.length:Int)+1)),A2 (IntKind.wrap .i64 (hb.fBytes+hh)),rB (hb.fOutside||((decide (((An v hd).fKind)=3))&&(!(ov (Cv ((An v hd).fInt)))))),rB (hb.fLong||(decide (200<(((An v hd).fStr).length:Int))))] 143,.row hf 190 5 (Az AT he)]) [3,5] [⟨[],B3 [A2 (max hb.fDepth ((he.length:Int)+1)),A2 (IntKind.wrap .i64 (hb.fBytes+hh)),rB (hb.fOutside||((decide (((An v hd).fKind)=3))&&(!(ov (Cv ((An v hd).fInt)))))),rB (hb.fLong||(decide (200<(((An v hd).fStr).length:Int))))],1⟩,⟨[],A2 0,0⟩,⟨[0],rv undef,2⟩,⟨[],rB false,0⟩] (rle [(3,_),(2,[.blk hg (Ai (An v hd)) 70,.blk b2 [A2 (max hb.fDepth ((he.length:Int)+1)),A2 (IntKind.wrap .i64 (hb.fBytes+hh)),rB (hb.fOutside||((decide (((An v hd).fKind)=3))&&(!(ov (Cv ((An v hd).fInt)))))),rB (hb.fLong||(decide (200<(((An v hd).fStr).length:Int))))] 143,.blk b1 [A2 (max hb.fDepth ((he.length:Int)+1)),A2 (IntKind.wrap .i64 (hb.fBytes+hh)),rB (hb.fOutside||((decide (((An v hd).fKind)=3))&&(!(ov (Cv ((An v hd).fInt)))))),rB (hb.fLong||(decide (200<(((An v hd).fStr).length:Int))))] 143,.row hf 190 5 (Az AT he)])]) [2,4,3] ?_ ?_)
      ·refine of (Br (i:=1) Li GB Aa Aa Aa Aa) (oq (A4 Aa) (DS Aa (HA (EV (i:=2) GB Aa Aa Aa (B5.c Aa) Aa Aa (cs':=[A2 (max hb.fDepth ((he.length:Int)+1)),A2 (IntKind.wrap .i64 (hb.fBytes+hh)),rB (hb.fOutside||((decide (((An v hd).fKind)=3))&&(!(ov (Cv ((An v hd).fInt)))))),rB (hb.fLong||(decide (200<(((An v hd).fStr).length:Int))))]) Aa (H':=[.blk hg (Ai (An v hd)) 70,.blk b2 [A2 (max hb.fDepth ((he.length:Int)+1)),A2 (IntKind.wrap .i64 (hb.fBytes+hh)),rB (hb.fOutside||((decide (((An v hd).fKind)=3))&&(!(ov (Cv ((An v hd).fInt)))))),rB (hb.fLong||(decide (200<(((An v hd).fStr).length:Int))))] 143,.blk b1 [A2 (max hb.fDepth ((he.length:Int)+1)),A2 (IntKind.wrap .i64 (hb.fBytes+hh)),rB (hb.fOutside||((decide (((An v hd).fKind)=3))&&(!(ov (Cv ((An v hd).fInt)))))),rB (hb.fLong||(decide (200<(((An v hd).fStr).length:Int))))] 143,.row hf 190 5 (Az AT he)]) Aa)) ?_));refine oq (A4 Aa) ?_;exact Du
      refine Bb (Ar (Ac (Ac (A8 (Ac (Ac (B7 ?_)))))));have g4:=Ca g2 hy h0;refine A8 (Ac (Me ?_));obtain rfl:=Av g4;exact As (V1 XR (AQ Aa) (CV (i:=2) Li GB Aa Aa Aa) (AQ Aa)) (sS (sS (sS (sS sN)))) ⟨Aa,Aa⟩
     refine A0 (Bb (Ah (wm Aa (vF CN Aa JJ (vL 0 JL Aa (wv (Ce Aa Aa) (vF CN Aa Ee (vL 0 Gn Aa (vF CN Aa JJ (vL 0 JL Aa (wv (Ce Aa Aa) (wv (r:=B3 [rB (decide (((An v hd).fKind)=6)),A2 ((An v hd).fN),rB (decide (((An v hd).fKind)=6)),rS ([]:Ae),rB false]) (No Aa Aa Aa Aa Aa Aa) (Bg (ys:=([(AM.mk (decide (((An v hd).fKind)=6)) ((An v hd).fN) (decide (((An v hd).fKind)=6)) ([]:Ae) false)]:List AM)) (enc:=AT) (css:=[[rB (decide (((An v hd).fKind)=6)),A2 ((An v hd).fN),rB (decide (((An v hd).fKind)=6)),rS ([]:Ae),rB false]]) (xs:=[.tmp 139]) JC S0 Tryz.zeroValue190 Aa Aa Aa ⟨Ek.agg ⟨Up.refl _,Up.refl _,Up.refl _,Up.refl _,Up.refl _,trivial⟩,trivial⟩ Aa JF Aa Aa Aa (λgM=>?_))))))))))))));refine ck g3 λg5 g6=>Exists.elim AaL λinf hinf=>Di (xs:=he) (ys:=([(AM.mk (decide (((An v hd).fKind)=6)) ((An v hd).fN) (decide (((An v hd).fKind)=6)) ([]:Ae) false)]:List AM)) (enc:=AT) (i:=4) JC hinf.1 hinf.2.1 hinf.2.2.1 hinf.2.2.2 Aa Aa Aa Aa Aa (NC.w (i:=0) Aa Aa) JF Oq g5 Aa (λg7=>?_);refine wa Aa (Ap (BE (Ay (Bo (JY [3,3] ?_)))));exact A9 (AZ ((he++([(AM.mk (decide (((An v hd).fKind)=6)) ((An v hd).fN) (decide (((An v hd).fKind)=6)) ([]:Ae) false)]:List AM),(Ba.mk (max hb.fDepth ((he.length:Int)+1)) (IntKind.wrap .i64 (hb.fBytes+hh)) (hb.fOutside||((decide (((An v hd).fKind)=3))&&(!(ov (Cv ((An v hd).fInt)))))) (hb.fLong||(decide (200<(((An v hd).fStr).length:Int)))))),g7) g6 (AV.c Aa (AV.c Aa (AV.c5 Aa Aa Aa Aa Aa AV.nil))) (sC (sC (sC (sS (sS sN))))))
    refine A0 (Bb (Ah (wm Aa (ob g0 λhz g8 g9=>EN [3] Tryz.call143 (WE F hf he hz g8) ?_))));rintro _ _ ⟨h3,rfl,rfl⟩;refine wa Aa (Bu (wm Aa (wv (CQ (ys:=hz) (enc:=AT) (i:=0) JC Aa Aa) (wv (Ce Aa Aa) (Ap (cz g9 Aa (λgA gB=>?_) (λgA gC=>?_)))))))
    ·refine Al (ck gB λgD gE=>En (H1:=[.row h3 190 5 (Az AT hz),.blk hg (Ai (An v hd)) 70,.blk b2 [A2 (max hb.fDepth ((he.length:Int)+1)),A2 (IntKind.wrap .i64 (hb.fBytes+hh)),rB (hb.fOutside||((decide (((An v hd).fKind)=3))&&(!(ov (Cv ((An v hd).fInt)))))),rB (hb.fLong||(decide (200<(((An v hd).fStr).length:Int))))] 143,.blk b1 [A2 (max hb.fDepth ((he.length:Int)+1)),A2 (IntKind.wrap .i64 (hb.fBytes+hh)),rB (hb.fOutside||((decide (((An v hd).fKind)=3))&&(!(ov (Cv ((An v hd).fInt)))))),rB (hb.fLong||(decide (200<(((An v hd).fStr).length:Int))))] 143]) [3,5,7] [⟨[],A2 hd,0⟩,⟨[0],A2 (hd+1),0⟩,⟨[],B3 [A2 (max hb.fDepth ((he.length:Int)+1)),A2 (IntKind.wrap .i64 (hb.fBytes+hh)),rB (hb.fOutside||((decide (((An v hd).fKind)=3))&&(!(ov (Cv ((An v hd).fInt)))))),rB (hb.fLong||(decide (200<(((An v hd).fStr).length:Int))))],1⟩,⟨[1],A2 (hd+1),0⟩,⟨[2],rv undef,2⟩,⟨[],rB true,0⟩] (rle [(5,_),(2,[.row h3 190 5 (Az AT hz),.blk hg (Ai (An v hd)) 70,.blk b2 [A2 (max hb.fDepth ((he.length:Int)+1)),A2 (IntKind.wrap .i64 (hb.fBytes+hh)),rB (hb.fOutside||((decide (((An v hd).fKind)=3))&&(!(ov (Cv ((An v hd).fInt)))))),rB (hb.fLong||(decide (200<(((An v hd).fStr).length:Int))))] 143,.blk b1 [A2 (max hb.fDepth ((he.length:Int)+1)),A2 (IntKind.wrap .i64 (hb.fBytes+hh)),rB (hb.fOutside||((decide (((An v hd).fKind)=3))&&(!(ov (Cv ((An v hd).fInt)))))),rB (hb.fLong||(decide (200<(((An v hd).fStr).length:Int))))] 143])]) [2,4,3] ?_ ?_)
     ·refine oq (Aj Aa) (oq (BM Aa Aa gD) (of (Br (i:=2) Li GB Aa Aa Aa Aa) (oq (A4 Aa) (DS Aa (HA (EV (i:=3) GB Aa Aa Aa (B5.c Aa) Aa Aa (cs':=[A2 (max hb.fDepth ((he.length:Int)+1)),A2 (IntKind.wrap .i64 (hb.fBytes+hh)),rB (hb.fOutside||((decide (((An v hd).fKind)=3))&&(!(ov (Cv ((An v hd).fInt)))))),rB (hb.fLong||(decide (200<(((An v hd).fStr).length:Int))))]) Aa (H':=[.row h3 190 5 (Az AT hz),.blk hg (Ai (An v hd)) 70,.blk b2 [A2 (max hb.fDepth ((he.length:Int)+1)),A2 (IntKind.wrap .i64 (hb.fBytes+hh)),rB (hb.fOutside||((decide (((An v hd).fKind)=3))&&(!(ov (Cv ((An v hd).fInt)))))),rB (hb.fLong||(decide (200<(((An v hd).fStr).length:Int))))] 143,.blk b1 [A2 (max hb.fDepth ((he.length:Int)+1)),A2 (IntKind.wrap .i64 (hb.fBytes+hh)),rB (hb.fOutside||((decide (((An v hd).fKind)=3))&&(!(ov (Cv ((An v hd).fInt)))))),rB (hb.fLong||(decide (200<(((An v hd).fStr).length:Int))))] 143]) Aa)) ?_))));refine oq (A4 Aa) ?_;exact Du
     refine Bb (Ar (A8 (Ac (Ac (B7 ?_)))));have gF:=Ca gE hy h0;refine A8 (Ac (Me ?_));obtain rfl:=Av gF;exact As (V1 XR (AQ Aa) (CV (i:=3) Li GB Aa Aa Aa) (AQ Aa)) (sS (sS (sS (sS sN)))) ⟨Aa,Aa⟩
    refine A0 (AN (JY [2,2] ?_));exact A9 (AZ ((hz,(Ba.mk (max hb.fDepth ((he.length:Int)+1)) (IntKind.wrap .i64 (hb.fBytes+hh)) (hb.fOutside||((decide (((An v hd).fKind)=3))&&(!(ov (Cv ((An v hd).fInt)))))) (hb.fLong||(decide (200<(((An v hd).fStr).length:Int)))))),h3) gC (AV.c Aa (AV.c Aa (AV.c5 Aa Aa Aa Aa Aa AV.nil))) (sC (sC (sC (sS sN)))))
   rintro⟨⟨h8,h9⟩,gG⟩ h4;refine H6 ?_;replace h4:EO hd h8 h9=some h6:=h4;unfold EO at h4;refine Ak (ck h4 λgH gI=>wv (BM Aa Aa gH) (wm Aa (Aq ?_)));have gJ:=B8 gI hy;exact A9 (AZ (hD,(h8,hd+1,h9),gG) ⟨gJ,Aew _⟩ (AV.c Aa (AV.c Aa (AV.c5 Aa Aa Aa Aa Aa AV.nil))) (sC (sC (sC sN))))
  refine BE (Ay ?_);have gK:=BW hH hy h0;exact Ay (Bq (AZ (hb,()) gK (AV.c Aa (AV.c Aa AV.nil)) (sC (sC (sS sN)))))
 rintro⟨hs,⟨⟩⟩ h5;refine Ir ?_;replace h5:Ml hs=some r:=h5;unfold Ml at h5;refine Bo (Bb (Al (En (H1:=[.blk b2 (Bw hs) 143,.blk b1 (Bw hs) 143]) [3,5] [⟨[],B3 (Bw hs),1⟩,⟨[],A2 0,0⟩,⟨[0],rv undef,2⟩,⟨[],rB false,0⟩] (rle [(3,_),(2,[.blk b2 (Bw hs) 143,.blk b1 (Bw hs) 143])]) [2,4,3] ?_ ?_)))
 ·refine of (Br (i:=0) Li GB Aa Aa Aa Aa) (oq (A4 Aa) (DS Aa (HA (EV (i:=1) GB Aa Aa Aa (B5.c Aa) Aa Aa (cs':=[A2 hs.fDepth,A2 hs.fBytes,rB hs.fOutside,rB hs.fLong]) Aa (H':=[.blk b2 (Bw hs) 143,.blk b1 (Bw hs) 143]) Aa)) ?_));refine oq (A4 Aa) ?_;exact Du
 refine Bb (Ar (Me ?_));obtain rfl:=Av h5;exact As (V1 XR (AQ Aa) (CV (i:=1) Li GB Aa Aa Aa) (AQ Aa)) (sS (sS sN)) ⟨Aa,Aa⟩
theorem Mn (F:Nat)(v:(List Ab))(r:Int)(h:Jv F v=some r):Fn Tryz.prog GE 36 [AK 4 (Az Ai v)] [] (λR H=>R=A2 r∧H=[]):=by
 refine enter (n:=42) Tryz.func36 Aa Tryz.ntmps36 Aa (λw Z=>?_);unfold Jv at h;refine Ah (wa Aa (Bu (wm Aa (ob h λr1 e3 h2=>Cp Tryz.call95 (Rr F v r1 e3) Aa (wm Aa (wv (A5 Aa Aa) (wv (A5 Aa Aa) (wv (A5 Aa Aa) (BO (cs:=[A2 0,A2 0,rB false,rB false]) Sm Aa Aa (λb4=>?_))))))))));refine wa Aa (Gx (i:=0) GB Aa Aa Aa (B5.c Aa) Aa Aa ?_);refine wa Aa (Ap (Al (AH (AC [(0,AK 4 (Az Ai v)),(4,rP b4 0),(12,rB ((!r1.2.2)||(!decide (r1.1=(v.length:Int)))))] [.blk b4 (Bw r1.2.1) 143] ?_ ?_))))
 ·refine Ak (wm Aa (wv (Cn Aa) (wm Aa (Bd (!r1.2.2) (λc5=>?_) (λc5=>?_)))))
  ·refine wf c5 (wf c5 (wf c5 (wf c5 (wv (r:=rB true) (AF Aa c5 Aa) (wa Aa (Aq ?_))))));exact Cy c5
  refine wo c5 (wm Aa (wo c5 (wm Aa (wo c5 (wv (By (ys:=v) (enc:=Ai) Ef Aa) (wo c5 (wv (CZ Aa Aa) (MY Aa c5 Aa (wa Aa (Aq ?_))))))))));exact Cy c5
 refine cz h2 Aa (λc6 h7=>?_) (λc6 h8=>?_)
 ·refine Ah (wa Aa (Ap (Ar (A8 (Ac ?_)))));obtain rfl:=Av h7;exact As (BH ZN (AQ Aa)) (sS sN) ⟨Aa,Aa⟩
 refine Ah (vF Gm Aa IP (vL 0 Qc Aa (wa Aa (Ap (cz h8 Aa (λc9 hf=>?_) (λc9 hg=>?_))))))
 ·refine Ah (wa Aa (Ap (Ar (A8 (Ac ?_)))));obtain rfl:=Av hf;exact As (BH ZN (AQ Aa)) (sS sN) ⟨Aa,Aa⟩
 refine AC [(24,rB (r1.2.1.fLong||((decide (200<(v.length:Int)))||((decide (8<r1.2.1.fDepth))||(decide (4000<r1.2.1.fBytes))))))] [] ?_ ?_
 ·refine Ak (vF Gm Aa IP (vL 0 Qc Aa (wm Aa (Bd (r1.2.1.fLong) (λhb=>?_) (λhb=>?_)))))
  ·refine wf hb (wf hb (wf hb (wv (r:=rB true) (AF Aa hb Aa) (wm Aa (wz Aa Aa (wz Aa Aa (wz Aa Aa (wv (r:=rB true) (AF (b:=true) Aa Aa Aa) (wm Aa (wz Aa Aa (wz Aa Aa (wz Aa Aa (wv (r:=rB true) (AF (b:=true) Aa Aa Aa) (wa Aa (Aq ?_)))))))))))))));exact Cy hb
  refine wo hb (wm Aa (wo hb (wv (By (ys:=v) (enc:=Ai) Ef Aa) (wo hb (wv (Gy Aa Aa) (MY Aa hb Aa (wm Aa (Bd (decide (200<(v.length:Int))) (λhd=>?_) (λhd=>?_)))))))))
  ·refine wf hd (wf hd (wf hd (wv (r:=rB true) (AF Aa hd Aa) (wm Aa (wz Aa Aa (wz Aa Aa (wz Aa Aa (wv (r:=rB true) (AF (b:=true) Aa Aa Aa) (wa Aa (Aq ?_))))))))));exact Cy (And.intro hb hd)
  refine wo hd (vF Gm Aa Ee (wo hd (vL 0 Gn Aa (wo hd (wv (Gy Aa Aa) (MY Aa hd Aa (wm Aa (Bd (decide (8<r1.2.1.fDepth)) (λhe=>?_) (λhe=>?_)))))))))
  ·refine wf he (wf he (wf he (wv (r:=rB true) (AF Aa he Aa) (wa Aa (Aq ?_)))));exact Cy (And.intro hb (And.intro hd he))
  refine wo he (vF Gm Aa Ee (wo he (vL 0 Gn Aa (wo he (wv (Gy Aa Aa) (MY Aa he Aa (wa Aa (Aq ?_))))))));exact Cy (And.intro hb (And.intro hd he))
 refine cz hg Aa (λhh hi=>?_) (λhh hj=>?_)
 ·refine Ah (wa Aa (Ap (Ar (A8 (Ac ?_)))));obtain rfl:=Av hi;exact As (BH ZN (AQ Aa)) sN ⟨Aa,Aa⟩
 refine A0 (AN (Bb (Ah (wa Aa (Ap (Ar ?_))))));obtain rfl:=Av hj;exact As (BH ZN (AQ Aa)) sN ⟨Aa,Aa⟩
theorem OT (F:Nat)(v:(List Ab))(r:(List Ab)×Int)(h:Hg F v=some r):Fn Tryz.prog GE 118 [AK 4 (Az Ai v)] [] (λR H=>R=Dr [AK 4 (Az Ai r.1),A2 r.2]∧H=[]):=by
 refine enter (n:=11) Tryz.func118 Aa Tryz.ntmps118 Aa (λw Z=>?_);unfold Hg at h;refine Ah (wa Aa (wa Aa (Ap (Al (Ah (wm Aa (ob h λr1 e3 h2=>Cp Tryz.call36 (Mn F v r1 e3) Aa (wa Aa (Bu (wm Aa (wv (CZ Aa Aa) (Ap (cz h2 Aa (λc4 h5=>?_) (λc4 h6=>?_))))))))))))))
 ·refine Ah (wm Aa (wa Aa (wa Aa (Ap (Ar (Ac (WK.up (d:=2) (r:=AK 4 (Az Ai ([]:List Ab))) Aa (Up.le (GA.nil _)) ?_)))))));obtain rfl:=Av h5;exact As (Iy Tryz.results118 (AQ Aa) (AQ Aa)) sN ⟨Aa,Aa⟩
 refine A0 (Bb (Ah (wm Aa (wa Aa (wa Aa (Ap (Ar ?_)))))));obtain rfl:=Av h6;exact As (Iy Tryz.results118 (AQ Aa) (AQ Aa)) sN ⟨Aa,Aa⟩
theorem KF  (r:(List Ab))(h:JZ=some r):Fn Tryz.prog GE 63 [] [] (λR H=>R=AK 4 (Az Ai r)∧H=[]):=by
 refine enter (n:=3) Tryz.func63 Aa Tryz.ntmps63 Aa (λw Z=>?_);unfold JZ at h;refine Ah (wa Aa (Bu (wv (r:=B3 [A2 1,A2 0,rS ([]:Ae),A2 0]) (Hi Aa Aa) (Bg (ys:=([(Ab.mk 1 0 ([]:Ae) 0)]:List Ab)) (enc:=Ai) (css:=[[A2 1,A2 0,rS ([]:Ae),A2 0]]) (xs:=[.tmp 1]) Ef E0 Oe Aa Aa Aa ⟨Ek.agg ⟨Up.refl _,Up.refl _,Up.refl _,Up.refl _,trivial⟩,trivial⟩ Aa C9 Aa Aa Aa (λb1=>?_)))));refine wa Aa (Ap (Ar (WK.freeze (i:=0) Aa (WK.up (d:=0) (r:=AK 4 (Az Ai ([(Ab.mk 1 0 ([]:Ae) 0)]:List Ab))) Aa (Up.fact (i:=0) Aa) ?_))));obtain rfl:=Av h;exact As (BH Tryz.results63 (AQ Aa)) (sS sN) ⟨Aa,Aa⟩
theorem Yf (F:Nat)(n:Int)(r:(List Ab)×Int)(h:WD F n=some r):Fn Tryz.prog GE 66 [A2 n] [] (λR H=>R=Dr [AK 4 (Az Ai r.1),A2 r.2]∧H=[]):=by
 refine enter (n:=10) Tryz.func66 Aa Tryz.ntmps66 Aa (λw Z=>?_);unfold WD at h;refine Ah (wa Aa (wa Aa (Bu (wm Aa (wv (r:=B3 [A2 3,A2 n,rS ([]:Ae),A2 0]) (Lq Aa Aa Aa Aa) (Bg (ys:=([(Ab.mk 3 n ([]:Ae) 0)]:List Ab)) (enc:=Ai) (css:=[[A2 3,A2 n,rS ([]:Ae),A2 0]]) (xs:=[.tmp 5]) Ef E0 Oe Aa Aa Aa ⟨Ek.agg ⟨Up.refl _,Up.refl _,Up.refl _,Up.refl _,trivial⟩,trivial⟩ Aa C9 Aa Aa Aa (λb1=>?_)))))));refine WL.freeze (i:=0) Aa (WL.up (d:=6) (r:=AK 4 (Az Ai ([(Ab.mk 3 n ([]:Ae) 0)]:List Ab))) Aa (Up.fact (i:=0) Aa) (ob h λr2 e4 h3=>Cp Tryz.call118 (OT F ([(Ab.mk 3 n ([]:Ae) 0)]:List Ab) r2 e4) Aa (wv (A5 Aa Aa) (wv (A5 Aa Aa) (wa Aa (wa Aa (Ap (Ar ?_))))))));obtain rfl:=Av h3;exact As (Iy Tryz.results66 (AQ Aa) (AQ Aa)) (sS sN) ⟨Aa,Aa⟩
theorem XZ (F:Nat)(s:Ae)(r:(List Ab)×Int)(h:W8 F s=some r):Fn Tryz.prog GE 65 [rS s] [] (λR H=>R=Dr [AK 4 (Az Ai r.1),A2 r.2]∧H=[]):=by
 refine enter (n:=10) Tryz.func65 Aa Tryz.ntmps65 Aa (λw Z=>?_);unfold W8 at h;refine Ah (wa Aa (wa Aa (Bu (wm Aa (wv (r:=B3 [A2 4,A2 0,rS s,A2 0]) (Lp Aa Aa Aa Aa) (Bg (ys:=([(Ab.mk 4 0 s 0)]:List Ab)) (enc:=Ai) (css:=[[A2 4,A2 0,rS s,A2 0]]) (xs:=[.tmp 5]) Ef E0 Oe Aa Aa Aa ⟨Ek.agg ⟨Up.refl _,Up.refl _,Up.refl _,Up.refl _,trivial⟩,trivial⟩ Aa C9 Aa Aa Aa (λb1=>?_)))))));refine WL.freeze (i:=0) Aa (WL.up (d:=6) (r:=AK 4 (Az Ai ([(Ab.mk 4 0 s 0)]:List Ab))) Aa (Up.fact (i:=0) Aa) (ob h λr2 e4 h3=>Cp Tryz.call118 (OT F ([(Ab.mk 4 0 s 0)]:List Ab) r2 e4) Aa (wv (A5 Aa Aa) (wv (A5 Aa Aa) (wa Aa (wa Aa (Ap (Ar ?_))))))));obtain rfl:=Av h3;exact As (Iy Tryz.results65 (AQ Aa) (AQ Aa)) (sS sN) ⟨Aa,Aa⟩
end Go.Proofs.YtmjlemhondjfhaaGreatDoor.Q
namespace Go.Proofs.YtmjlemhondjfhaaGreatDoor
open Go
set_option linter.unusedVariables false
def DK (s:Ae)(hb:Int)(hd:Ae):Option (Stp (Int×Ae) (Out (Ae) (Ae))):=
 BB (decide (hb<(s.length:Int))) (Bk (Ck hb (s.length:Int))<|BB (((decide ((Cw s hb)=34))||(decide ((Cw s hb)=92)))) (Bk (D2 1 (hd.length+1))<|Bk (Cb .u8 92)<|JT (hd++[UInt8.ofNat (Int.toNat 92)]) λhe=>Bk (D2 1 (he.length+1))<|Bk (Cb .u8 (Cw s hb))<|JT (he++[UInt8.ofNat (Int.toNat (Cw s hb))]) λhf=>Bk (Cb .i64 (hb+1))<|some (.next (hb+1,hf))) (Bk (D2 1 (hd.length+1))<|Bk (Cb .u8 (Cw s hb))<|JT (hd++[UInt8.ofNat (Int.toNat (Cw s hb))]) λhg=>Bk (Cb .i64 (hb+1))<|some (.next (hb+1,hg)))) (some (.out (.go hd)))
def Gq (hb:Ae):Option (Ae):=
 Bk (D2 1 (hb.length+1))<|JT (hb++[UInt8.ofNat (Int.toNat 34)]) λhd=>some hd
def L9 (F:Nat)(l:Ae)(s:Ae):Option (Ae):=
 Bk (D2 1 (l.length+1))<|Bk (Cb .u8 34)<|JT (l++[UInt8.ofNat (Int.toNat 34)]) λr6=>Bs (Cl (λσ=>DK s σ.1 σ.2) F (0,r6)) (Co λν=>Gq ν)
def KD (F:Nat)(hn:Ae→(List Ab)→Bool→Ae→Ab→Option (Bool×Bool×Ae))(hb:(List Ab)→Bool→Ae→Ab→Option (Bool×Ae))(l:Ae)(v:(List Ab)):Option (Ae):=
 Bk (Ck 0 (v.length:Int))<|BB (decide (((An v 0).fKind)=1)) (Bk (D2 1 (l.length+([110,117,108,108]:Ae).length))<|JT (l++([110,117,108,108]:Ae)) λhf=>some hf) (BB (decide (((An v 0).fKind)=2)) (Bk (Ck ((An v 0).fInt) (([([102,97,108,115,101]:Ae),([116,114,117,101]:Ae)]:List Ae).length:Int))<|Bk (D2 1 (l.length+(An ([([102,97,108,115,101]:Ae),([116,114,117,101]:Ae)]:List Ae) ((An v 0).fInt)).length))<|JT (l++(An ([([102,97,108,115,101]:Ae),([116,114,117,101]:Ae)]:List Ae) ((An v 0).fInt))) λhg=>some hg) (BB (decide (((An v 0).fKind)=3)) (Bk (Cb .i64 ((An v 0).fInt))<|Bk (D2 1 (l.length+(Lib.itoa ((An v 0).fInt)).length))<|JT (l++(Lib.itoa ((An v 0).fInt))) λhh=>some hh) (BB (decide (((An v 0).fKind)=4)) (Bs (L9 F l ((An v 0).fStr)) λhi=>some hi) (BB (decide (((An v 0).fKind)=6)) (Bk (Ck 0 (([123,125]:Ae).length:Int))<|Bk (D2 1 (l.length+1))<|Bk (Cb .u8 (Cw ([123,125]:Ae) 0))<|JT (l++[UInt8.ofNat (Int.toNat (Cw ([123,125]:Ae) 0))]) λhj=>Bs (hb v true hj (An v 0)) λhd=>Bk (Ck 1 (([123,125]:Ae).length:Int))<|Bk (D2 1 (hd.2.length+1))<|Bk (Cb .u8 (Cw ([123,125]:Ae) 1))<|JT (hd.2++[UInt8.ofNat (Int.toNat (Cw ([123,125]:Ae) 1))]) λhk=>some hk) (Bk (Ck 0 (([91,93]:Ae).length:Int))<|Bk (D2 1 (l.length+1))<|Bk (Cb .u8 (Cw ([91,93]:Ae) 0))<|JT (l++[UInt8.ofNat (Int.toNat (Cw ([91,93]:Ae) 0))]) λhl=>Bs (hb v true hl (An v 0)) λhe=>Bk (Ck 1 (([91,93]:Ae).length:Int))<|Bk (D2 1 (he.2.length+1))<|Bk (Cb .u8 (Cw ([91,93]:Ae) 1))<|JT (he.2++[UInt8.ofNat (Int.toNat (Cw ([91,93]:Ae) 1))]) λhm=>some hm)))))
def Mi (F:Nat)(hb:Ae→(List Ab)→Option (Ae))(key:Ae)(x:(List Ab))(first:Bool)(l:Ae)(c:Ab):Option (Bool×Bool×Ae):=
 BB (!first) (Bk (D2 1 (l.length+1))<|Bk (Cb .u8 44)<|JT (l++[UInt8.ofNat (Int.toNat 44)]) λr8=>BB (decide (c.fKind=6)) (Bs (L9 F r8 key) λhd=>Bk (D2 1 (hd.length+1))<|Bk (Cb .u8 58)<|JT (hd++[UInt8.ofNat (Int.toNat 58)]) λhf=>Bs (hb hf x) λhg=>some (true,false,hg)) (Bs (hb r8 x) λhh=>some (true,false,hh))) (BB (decide (c.fKind=6)) (Bs (L9 F l key) λhe=>Bk (D2 1 (he.length+1))<|Bk (Cb .u8 58)<|JT (he++[UInt8.ofNat (Int.toNat 58)]) λhi=>Bs (hb hi x) λhj=>some (true,false,hj)) (Bs (hb l x) λhk=>some (true,false,hk)))
def DZ (F:Nat)(v:(List Ab))(c:Ab)(hk:Ae→(List Ab)→Bool→Ae→Ab→Option (Bool×Bool×Ae))(hb:Int)(hd:Int)(hi:Bool)(hj:Ae):Option (Stp (Int×Int×Bool×Ae) (Out (Bool×Ae) (Bool×Ae))):=
 BB (decide (hd<((An v 0).fN))) (BB (decide (((An v 0).fKind)=6)) (Bk (Ck hb (v.length:Int))<|Bk (Cb .i64 (hb+1))<|Bk (Lw (hb+1) (v.length:Int))<|Bs (JE F (List.drop (Int.toNat (hb+1)) v)) λhe=>Bk (Cb .i64 ((hb+1)+he.1))<|Bk (Lw (hb+1) ((hb+1)+he.1))<|Bk (Lw ((hb+1)+he.1) (v.length:Int))<|Bs (hk ((An v hb).fStr) (List.take (Int.toNat ((hb+1)+he.1)-Int.toNat (hb+1)) (List.drop (Int.toNat (hb+1)) v)) hi hj c) λhf=>BB (!hf.1) (some (.out (.ret (hf.2.1,hf.2.2)))) (Bk (Cb .i64 (hd+1))<|some (.next ((hb+1)+he.1,hd+1,hf.2.1,hf.2.2)))) (Bk (Lw hb (v.length:Int))<|Bs (JE F (List.drop (Int.toNat hb) v)) λhg=>Bk (Cb .i64 (hb+hg.1))<|Bk (Lw hb (hb+hg.1))<|Bk (Lw (hb+hg.1) (v.length:Int))<|Bs (hk ([]:Ae) (List.take (Int.toNat (hb+hg.1)-Int.toNat hb) (List.drop (Int.toNat hb) v)) hi hj c) λhh=>BB (!hh.1) (some (.out (.ret (hh.2.1,hh.2.2)))) (Bk (Cb .i64 (hd+1))<|some (.next (hb+hg.1,hd+1,hh.2.1,hh.2.2))))) (some (.out (.go (hi,hj))))
def HR (hb:Bool)(hd:Ae):Option (Bool×Ae):=
 some (hb,hd)
def IS (F:Nat)(hb:Ae→(List Ab)→Bool→Ae→Ab→Option (Bool×Bool×Ae))(v:(List Ab))(first:Bool)(l:Ae)(c:Ab):Option (Bool×Ae):=
 Bk (Ck 0 (v.length:Int))<|Bs (Cl (λσ=>DZ F v c hb σ.1 σ.2.1 σ.2.2.1 σ.2.2.2) F (1,0,first,l)) (Co λν=>HR ν.1 ν.2)
mutual
def GH:Nat→Ae→(List Ab)→Option (Ae)
 | 0,_,_=>none
 | nn+1,l,v=>KD nn (EX nn) (H7 nn) l v
def EX:Nat→Ae→(List Ab)→Bool→Ae→Ab→Option (Bool×Bool×Ae)
 | 0,_,_,_,_,_=>none
 | nn+1,key,x,first,l,c=>Mi nn (GH nn) key x first l c
def H7:Nat→(List Ab)→Bool→Ae→Ab→Option (Bool×Ae)
 | 0,_,_,_,_=>none
 | nn+1,v,first,l,c=>IS nn (EX nn) v first l c
end
def Ju (F:Nat)(v:(List Ab)):Option (Ae×Int):=
 Bs (Jv F v) λr1=>BB (!decide (r1=0)) (some (([]:Ae),r1)) (Bs (GH F ([]:Ae) v) λr8=>Bk (decide (0<r8.length))<|some (r8,0))
end Go.Proofs.YtmjlemhondjfhaaGreatDoor
namespace Go.Proofs.YtmjlemhondjfhaaGreatDoor.Q
open Go Go.RowKit
set_option linter.unusedVariables false
set_option linter.unusedSimpArgs false
set_option maxRecDepth 100000
set_option maxHeartbeats 4000000
theorem OO (F:Nat)(hb:Nat)(hk:Value)(l:Ae)(s:Ae)(r:Ae)(h:L9 F l s=some r):Fn Tryz.prog GE 164 [rP hb 0,rS s] [.bld 177 5 hb hk l] (λR H=>∃w0b:Value,R=rv (.tuple #[])∧H=[.bld 177 5 hb w0b r]):=by
 refine enter (n:=32) Tryz.func164 Aa Tryz.ntmps164 Aa (λw Z=>?_);unfold L9 at h;refine Ah (wm Aa (ck h λg1 h2=>ck h2 λg3 h4=>C5 (rs:=[rP hb 0,rI .u8 34]) (Hin:=[.bld 177 5 hb hk l]) (Hr:=[]) IQ Aa (Aet _) (CF hb hk l 34 g1 g3) Aa ?_));rintro _ _ ⟨v5,rfl,rfl⟩;refine bd h4 λr6 e8 h7=>?_;rw[← e8];refine Ap (Al (Ah (wm Aa (wv (BS DH Aa) (wv (r:=A2 0) (Aj Aa) (Ap (AH (ob h7 λhs ht hu=>BG (S:=Nat×(Int×Ae)×(Value)) (V:=(Ae)×(Value)) 0 (λσ=>Cl (λσ=>DK s σ.1 σ.2) σ.1 σ.2.1=some hs) (λσ=>[(0,rP hb 0),(1,rS s),(8,A2 (s.length:Int)),(9,A2 σ.2.1.1)]) (λσ=>[.bld 177 5 hb σ.2.2 σ.2.1.2]) (λσ=>σ.1) (F,(0,r6),v5) ht (AV.c Aa (AV.c Aa (AV.c Aa (AV.c Aa AV.nil)))) (sC sN) (λσ=>Gq σ.1=some r) (λσ=>[(0,rP hb 0)]) (λσ=>[.bld 177 5 hb σ.2 σ.1]) ?_ ?_))))))))
 ·rintro⟨gi,⟨he,hf⟩,hg⟩ hw;refine H6 ?_;obtain⟨hn,rfl,t127,hh,hl⟩:=CD hw;replace hh:DK s he hf=some t127:=hh;unfold DK at hh;refine Ah (wv (CP Aa Aa) (Ap (Al (cz hh Aa (λhx hy=>?_) (λhx hz=>?_)))))
  ·refine A0 (Bb (Al (AH (Ah (wm Aa (wa Aa (Ap (Al (ck hy λhi h0=>AC [(0,rP hb 0),(1,rS s),(4,A2 he),(8,A2 (s.length:Int)),(9,A2 he),(21,rB ((decide ((Cw s he)=34))||(decide ((Cw s he)=92))))] [.bld 177 5 hb hg hf] ?_ ?_)))))))))
   ·refine Ak (wm Aa (wm Aa (wv (BZ DH Aa Aa hi) (wv (Ce Aa Aa) (wm Aa (Bd (decide ((Cw s he)=34)) (λhd=>?_) (λhd=>?_)))))))
    ·refine wf hd (wf hd (wf hd (wf hd (wv (r:=rB true) (AF Aa hd Aa) (Aq ?_)))));exact Cy hd
    refine wo hd (wm Aa (wo hd (wm Aa (wo hd (wv (BZ DH Aa Aa hi) (wo hd (wv (Ce Aa Aa) (MY Aa hd Aa (Aq ?_)))))))));exact Cy hd
   refine cz h0 Aa (λh1 h3=>?_) (λh1 h5=>?_)
   ·refine Ak (wm Aa (ck h3 λh6 h8=>ck h8 λh9 hA=>C5 (rs:=[rP hb 0,rI .u8 92]) (Hin:=[.bld 177 5 hb hg hf]) (Hr:=[]) IQ Aa (Aet _) (CF hb hg hf 92 h6 h9) Aa ?_));rintro _ _ ⟨hp,rfl,rfl⟩;refine bd hA λhq hB hC=>?_;rw[← hB];refine Ap (Ak (wm Aa (wm Aa (wm Aa (wv (BZ DH Aa Aa hi) (ck hC λhD hE=>ck hE λhG hH=>C5 (rs:=[rP hb 0,rI .u8 (Cw s he)]) (Hin:=[.bld 177 5 hb hp hq]) (Hr:=[]) IQ Aa (Aet _) (CF hb hp hq (Cw s he) hD hG) Aa ?_))))));rintro _ _ ⟨hI,rfl,rfl⟩;refine bd hH λhJ hK hL=>?_;rw[← hK];refine Aq (AN (Bb (Ak (ck hL λhN hO=>wv (BM Aa Aa hN) (wm Aa (Aq ?_))))));have hP:=B8 hO hl;exact A9 (AZ (hn,(he+1,hJ),hI) ⟨hP,Aew _⟩ (AV.c Aa (AV.c Aa (AV.c Aa (AV.c Aa AV.nil)))) (sC sN))
   refine A0 (Bb (Ak (wm Aa (wm Aa (wm Aa (wv (BZ DH Aa Aa hi) (ck h5 λhQ hR=>ck hR λhS hT=>C5 (rs:=[rP hb 0,rI .u8 (Cw s he)]) (Hin:=[.bld 177 5 hb hg hf]) (Hr:=[]) IQ Aa (Aet _) (CF hb hg hf (Cw s he) hQ hS) Aa ?_)))))));rintro _ _ ⟨hU,rfl,rfl⟩;refine bd hT λhV hW hX=>?_;rw[← hW];refine Aq (AN (Bb (Ak (ck hX λhY hZ=>wv (BM Aa Aa hY) (wm Aa (Aq ?_))))));have ga:=B8 hZ hl;exact A9 (AZ (hn,(he+1,hV),hU) ⟨ga,Aew _⟩ (AV.c Aa (AV.c Aa (AV.c Aa (AV.c Aa AV.nil)))) (sC sN))
  refine BE (Ay ?_);have gb:=BW hz hl hu;exact Ay (Bq (AZ (hf,hg) gb (AV.c Aa AV.nil) (sC sN)))
 rintro⟨hm,hr⟩ hj;refine Ir ?_;replace hj:Gq hm=some r:=hj;unfold Gq at hj;refine Bo (Bb (Ak (wm Aa (ck hj λgc gd=>C5 (rs:=[rP hb 0,rI .u8 34]) (Hin:=[.bld 177 5 hb hr hm]) (Hr:=[]) IQ Aa (Aet _) (CF hb hr hm 34 gc g3) Aa ?_))));rintro _ _ ⟨gf,rfl,rfl⟩;refine bd gd λgj gg gh=>?_;rw[← gg];refine Aq ?_;obtain rfl:=Av gh;exact HO (WV Tryz.results164) (sC sN) ⟨gf,Aa,Aa⟩
theorem W6 (F:Nat)(hm:Ae→(List Ab)→Bool→Ae→Ab→Option (Bool×Bool×Ae))(hn:(List Ab)→Bool→Ae→Ab→Option (Bool×Ae))(gB:(∀(he:Nat) (hf:Nat) (hb:Nat) (hd:Value) (hg:Nat) (key:Ae) (x:(List Ab)) (first:Bool) (l:Ae) (c:Ab) (r:Bool×Bool×Ae),hm key x first l c=some r→Fn Tryz.prog GE 167 [rS key,AK 4 (Az Ai x),rP he 0,rP hf 0,rP hg 0] [.blk he [rB first] 4,.blk hf [rP hb 0] 174,.bld 177 5 hb hd l,.blk hg (Ai c) 70] (λR H=>∃w3b:Value,R=rB r.1∧H=[.blk he [rB r.2.1] 4,.blk hf [rP hb 0] 174,.bld 177 5 hb w3b r.2.2,.blk hg (Ai c) 70])))(hp:(∀(he:Nat) (hf:Nat) (hb:Nat) (hd:Value) (hg:Nat) (v:(List Ab)) (first:Bool) (l:Ae) (c:Ab) (r:Bool×Ae),hn v first l c=some r→Fn Tryz.prog GE 166 [AK 4 (Az Ai v),rv (.func (.func 167) #[] #[(.pointer (some ⟨he,0,none⟩)),(.pointer (some ⟨hf,0,none⟩)),(.pointer (some ⟨hg,0,none⟩))])] [.blk he [rB first] 4,.blk hf [rP hb 0] 174,.bld 177 5 hb hd l,.blk hg (Ai c) 70] (λR H=>∃w1_1b:Value,R=rv (.tuple #[])∧H=[.blk he [rB r.1] 4,.blk hf [rP hb 0] 174,.bld 177 5 hb w1_1b r.2,.blk hg (Ai c) 70])))(hb:Nat)(hd:Value)(l:Ae)(v:(List Ab))(r:Ae)(h:KD F hm hn l v=some r):Fn Tryz.prog GE 119 [rP hb 0,AK 4 (Az Ai v)] [.bld 177 5 hb hd l] (λR H=>∃w0b:Value,R=rv (.tuple #[])∧H=[.bld 177 5 hb w0b r]):=by
 refine enter (n:=52) Tryz.func119 Aa Tryz.ntmps119 Aa (λw Z=>?_);unfold KD at h;refine Ah (OK Aa (BP Aa) Aa (λb1=>?_));refine Bu (wm Aa (ck h λg2 h3=>wv (Bl (enc:=Ai) (ys:=v) Ef E0 Aa Aa g2) (wv (Do W3 E0 Aa Aa Aa) (BO (cs:=[A2 0,A2 0,rS ([]:Ae),A2 0]) Oe Aa Aa (λb4=>?_)))));refine Gx (i:=0) E0 Aa Aa Aa (B5.c Aa) Aa Aa ?_;refine Bu (vF CN Aa JJ (vL 0 JL Aa (Ap (AH (Ah (wv (Ce Aa Aa) (wa Aa (Ap (cz h3 Aa (λc5 h6=>?_) (λc5 hq=>?_))))))))))
 ·refine Ak (vL 1 Gp Aa (ck h6 λg7 h8=>C5 (rs:=[rP hb 0,rS ([110,117,108,108]:Ae)]) (Hin:=[.bld 177 5 hb hd l]) (Hr:=[.blk b4 (Ai (An v 0)) 70,.blk b1 [rP hb 0] 174]) Tryz.call162 Aa ((AO (i:=2) Aa).trans (Aer _ (Aet _))) (GU hb hd l ([110,117,108,108]:Ae) g7) Aa ?_));rintro _ _ ⟨v9,rfl,rfl⟩;refine bd h8 λgC hr hs=>?_;rw[← hr];refine Aq (AN ?_);obtain rfl:=Av hs;exact HO (WV Q5) (sC (sS (sS sN))) ⟨v9,Aa,Aa⟩
 refine Ah (wv (Ce Aa Aa) (wa Aa (Ap (cz hq Aa (λht hu=>?_) (λht hw=>?_)))))
 ·refine ck hu λg16 hx=>Et (H1:=[.blk b4 (Ai (An v 0)) 70,.blk b1 [rP hb 0] 174,.bld 177 5 hb hd l]) 6 [2,4] [⟨[],rP hb 0,1⟩,⟨[],AK 1 (Az eS ([([102,97,108,115,101]:Ae),([116,114,117,101]:Ae)]:List Ae)),0⟩,⟨[],rP b4 1,0⟩,⟨[2],A2 ((An v 0).fInt),1⟩,⟨[1,3],It [rS (An ([([102,97,108,115,101]:Ae),([116,114,117,101]:Ae)]:List Ae) ((An v 0).fInt))],0⟩,⟨[4],rS (An ([([102,97,108,115,101]:Ae),([116,114,117,101]:Ae)]:List Ae) ((An v 0).fInt)),0⟩] (rle [(7,_)]) [32,33,34,35,36,37,2,4] ?_ ?_
  ·refine of (AU (i:=1) Gp Aa Aa Aa) (Jb Aa (λH=>CE (ys:=([([102,97,108,115,101]:Ae),([116,114,117,101]:Ae)]:List Ae)) (enc:=eS) (css:=[[rS ([102,97,108,115,101]:Ae)],[rS ([116,114,117,101]:Ae)]]) (xs:=[.const (.string ⟨#[102,97,108,115,101]⟩),.const (.string ⟨#[116,114,117,101]⟩)]) CT Dc XL Aa Aa Aa ⟨Ek.one Aa (Up.refl _),Ek.one Aa (Up.refl _),trivial⟩ Aa DN Aa Aa) ?_);refine oq (Am CN Aa Ee Aa Aa) (of (AU (i:=0) Gn Aa Aa Aa) (oq (Bl (enc:=eS) (ys:=([([102,97,108,115,101]:Ae),([116,114,117,101]:Ae)]:List Ae)) CT Dc Aa Aa g16) (oq (Bc DQ Aa Aa) ?_)));exact Du
  refine ck hx λg18 hy=>C5 (rs:=[rP hb 0,rS (An ([([102,97,108,115,101]:Ae),([116,114,117,101]:Ae)]:List Ae) ((An v 0).fInt))]) (Hin:=[.bld 177 5 hb hd l]) (Hr:=[.blk b4 (Ai (An v 0)) 70,.blk b1 [rP hb 0] 174]) Tryz.call162 Aa ((AO (i:=2) Aa).trans (Aer _ (Aet _))) (GU hb hd l (An ([([102,97,108,115,101]:Ae),([116,114,117,101]:Ae)]:List Ae) ((An v 0).fInt)) g18) Aa ?_;rintro _ _ ⟨v20,rfl,rfl⟩;refine bd hy λgD hz h0=>?_;rw[← hz];refine Aq (AN ?_);obtain rfl:=Av h0;exact HO (WV Q5) (sC (sS (sS sN))) ⟨v20,Aa,Aa⟩
 refine Ah (wv (Ce Aa Aa) (wa Aa (Ap (cz hw Aa (λh1 h2=>?_) (λh1 h4=>?_)))))
 ·refine ck h2 λh5 h7=>Et (H1:=[.blk b4 (Ai (An v 0)) 70,.blk b1 [rP hb 0] 174,.bld 177 5 hb hd l]) 4 [2,4] [⟨[],rP hb 0,1⟩,⟨[],rP b4 1,0⟩,⟨[1],A2 ((An v 0).fInt),1⟩,⟨[2],rS (Lib.itoa ((An v 0).fInt)),0⟩] (rle [(5,_)]) [41,42,43,44,2,4] ?_ ?_
  ·refine of (AU (i:=1) Gp Aa Aa Aa) (oq (Am CN Aa Ee Aa Aa) (of (AU (i:=0) Gn Aa Aa Aa) (Jb Aa (λH=>SX (rs:=[A2 ((An v 0).fInt)]) (r:=rS (Lib.itoa ((An v 0).fInt))) Tryz.call163 Aa (TI ((An v 0).fInt) h5) Aa) ?_)));exact Du
  refine ck h7 λh9 hA=>C5 (rs:=[rP hb 0,rS (Lib.itoa ((An v 0).fInt))]) (Hin:=[.bld 177 5 hb hd l]) (Hr:=[.blk b4 (Ai (An v 0)) 70,.blk b1 [rP hb 0] 174]) Tryz.call162 Aa ((AO (i:=2) Aa).trans (Aer _ (Aet _))) (GU hb hd l (Lib.itoa ((An v 0).fInt)) h9) Aa ?_;rintro _ _ ⟨v31,rfl,rfl⟩;refine bd hA λgE hB hC=>?_;rw[← hB];refine Aq (AN ?_);obtain rfl:=Av hC;exact HO (WV Q5) (sC (sS (sS sN))) ⟨v31,Aa,Aa⟩
 refine Ah (wv (Ce Aa Aa) (wa Aa (Ap (cz h4 Aa (λhD hE=>?_) (λhD hG=>?_)))))
 ·refine Ak (vL 1 Gp Aa (vF CN Aa Dc (vL 0 DQ Aa (ob hE λhH hI hJ=>EN [2] Tryz.call164 (OO F hb hd l ((An v 0).fStr) hH hI) ?_))));rintro _ _ ⟨hK,rfl,rfl⟩;refine Aq (AN ?_);obtain rfl:=Av hJ;exact HO (WV Q5) (sC (sS (sS sN))) ⟨hK,Aa,Aa⟩
 refine Ah (wv (r:=rS ([91,93]:Ae)) (A4 Aa) (Ap (Al (Ah (vF CN Aa JJ (vL 0 JL Aa (wv (Ce Aa Aa) (Ap (cz hG Aa (λhL hN=>?_) (λhL hO=>?_))))))))))
 ·refine Ak (wv (r:=rS ([123,125]:Ae)) (A4 Aa) (Ap (Al (ck hN λhP hQ=>Et (H1:=[.blk b4 (Ai (An v 0)) 70,.blk b1 [rP hb 0] 174,.bld 177 5 hb hd l]) 3 [1,2,4,5] [⟨[],rP hb 0,1⟩,⟨[],rS ([123,125]:Ae),0⟩,⟨[1],rI .u8 (Cw ([123,125]:Ae) 0),0⟩] (rle [(4,_)]) [15,16,17,1,2,4,5] ?_ ?_))))
  ·refine of (AU (i:=1) Gp Aa Aa Aa) (oq (Aj Aa) (oq (BZ DH Aa Aa hP) ?_));exact Du
  refine ck hQ λhR hS=>ck hS λhT hU=>C5 (rs:=[rP hb 0,rI .u8 (Cw ([123,125]:Ae) 0)]) (Hin:=[.bld 177 5 hb hd l]) (Hr:=[.blk b4 (Ai (An v 0)) 70,.blk b1 [rP hb 0] 174]) IQ Aa ((AO (i:=2) Aa).trans (Aer _ (Aet _))) (CF hb hd l (Cw ([123,125]:Ae) 0) hR hT) Aa ?_;rintro _ _ ⟨v51,rfl,rfl⟩;refine bd hU λhV hW hX=>?_;rw[← hW];refine Bu (BO (cs:=[rB false]) yz4 Aa Aa (λhj=>?_));refine us (i:=0) IP Aa Aa (BP Aa) Aa Aa ?_;refine Bu (wm Aa (wv (r:=rv (.func (.func 167) #[] #[(.pointer (some ⟨hj,0,none⟩)),(.pointer (some ⟨b1,0,none⟩)),(.pointer (some ⟨b4,0,none⟩))])) (Ib Aa) (ob hX λhh hY hZ=>EN [0,2,0,0] Tryz.call166 (hp hj b1 hb v51 b4 v true hV (An v 0) hh hY) ?_)));rintro _ _ ⟨hl,rfl,rfl⟩;refine Ap (ck hZ λga gb=>Et (H1:=[.blk hj [rB hh.1] 4,.blk b1 [rP hb 0] 174,.bld 177 5 hb hl hh.2,.blk b4 (Ai (An v 0)) 70]) 3 [2,5] [⟨[],rP hb 0,1⟩,⟨[],rS ([123,125]:Ae),0⟩,⟨[1],rI .u8 (Cw ([123,125]:Ae) 1),0⟩] (rle [(4,_)]) [22,23,24,2,5] ?_ ?_)
  ·refine of (AU (i:=1) Gp Aa Aa Aa) (oq (Aj Aa) (oq (BZ DH Aa Aa ga) ?_));exact Du
  refine ck gb λgc gd=>ck gd λgf gg=>C5 (rs:=[rP hb 0,rI .u8 (Cw ([123,125]:Ae) 1)]) (Hin:=[.bld 177 5 hb hl hh.2]) (Hr:=[.blk hj [rB hh.1] 4,.blk b1 [rP hb 0] 174,.blk b4 (Ai (An v 0)) 70]) IQ Aa ((AO (i:=2) Aa).trans (Aer _ (Aet _))) (CF hb hl hh.2 (Cw ([123,125]:Ae) 1) gc gf) Aa ?_;rintro _ _ ⟨gh,rfl,rfl⟩;refine bd gg λgF gi gj=>?_;rw[← gi];refine Aq (AN ?_);obtain rfl:=Av gj;exact HO (WV Q5) (sC (sS (sS (sS sN)))) ⟨gh,Aa,Aa⟩
 refine A0 (Bb (Al (ck hO λgl gm=>Et (H1:=[.blk b4 (Ai (An v 0)) 70,.blk b1 [rP hb 0] 174,.bld 177 5 hb hd l]) 3 [1,2,4,5] [⟨[],rP hb 0,1⟩,⟨[],rS ([91,93]:Ae),0⟩,⟨[1],rI .u8 (Cw ([91,93]:Ae) 0),0⟩] (rle [(4,_)]) [15,16,17,1,2,4,5] ?_ ?_)))
 ·refine of (AU (i:=1) Gp Aa Aa Aa) (oq (Aj Aa) (oq (BZ DH Aa Aa gl) ?_));exact Du
 refine ck gm λgp gq=>ck gq λgr gs=>C5 (rs:=[rP hb 0,rI .u8 (Cw ([91,93]:Ae) 0)]) (Hin:=[.bld 177 5 hb hd l]) (Hr:=[.blk b4 (Ai (An v 0)) 70,.blk b1 [rP hb 0] 174]) IQ Aa ((AO (i:=2) Aa).trans (Aer _ (Aet _))) (CF hb hd l (Cw ([91,93]:Ae) 0) gp gr) Aa ?_;rintro _ _ ⟨gu,rfl,rfl⟩;refine bd gs λgv gw gx=>?_;rw[← gw];refine Bu (BO (cs:=[rB false]) yz4 Aa Aa (λhk=>?_));refine us (i:=0) IP Aa Aa (BP Aa) Aa Aa ?_;refine Bu (wm Aa (wv (r:=rv (.func (.func 167) #[] #[(.pointer (some ⟨hk,0,none⟩)),(.pointer (some ⟨b1,0,none⟩)),(.pointer (some ⟨b4,0,none⟩))])) (Ib Aa) (ob gx λhi gy gz=>EN [0,2,0,0] Tryz.call166 (hp hk b1 hb gu b4 v true gv (An v 0) hi gy) ?_)));rintro _ _ ⟨v85,rfl,rfl⟩;refine Ap (ck gz λg0 g1=>Et (H1:=[.blk hk [rB hi.1] 4,.blk b1 [rP hb 0] 174,.bld 177 5 hb v85 hi.2,.blk b4 (Ai (An v 0)) 70]) 3 [2,5] [⟨[],rP hb 0,1⟩,⟨[],rS ([91,93]:Ae),0⟩,⟨[1],rI .u8 (Cw ([91,93]:Ae) 1),0⟩] (rle [(4,_)]) [22,23,24,2,5] ?_ ?_)
 ·refine of (AU (i:=1) Gp Aa Aa Aa) (oq (Aj Aa) (oq (BZ DH Aa Aa g0) ?_));exact Du
 refine ck g1 λg3 g4=>ck g4 λg5 g6=>C5 (rs:=[rP hb 0,rI .u8 (Cw ([91,93]:Ae) 1)]) (Hin:=[.bld 177 5 hb v85 hi.2]) (Hr:=[.blk hk [rB hi.1] 4,.blk b1 [rP hb 0] 174,.blk b4 (Ai (An v 0)) 70]) IQ Aa ((AO (i:=2) Aa).trans (Aer _ (Aet _))) (CF hb v85 hi.2 (Cw ([91,93]:Ae) 1) g3 g5) Aa ?_;rintro _ _ ⟨g8,rfl,rfl⟩;refine bd g6 λgG g9 gA=>?_;rw[← g9];refine Aq (AN ?_);obtain rfl:=Av gA;exact HO (WV Q5) (sC (sS (sS (sS sN)))) ⟨g8,Aa,Aa⟩
theorem Um (F:Nat)(hk:Ae→(List Ab)→Option (Ae))(hh:(∀(hb:Nat) (hd:Value) (l:Ae) (v:(List Ab)) (r:Ae),hk l v=some r→Fn Tryz.prog GE 119 [rP hb 0,AK 4 (Az Ai v)] [.bld 177 5 hb hd l] (λR H=>∃w0b:Value,R=rv (.tuple #[])∧H=[.bld 177 5 hb w0b r])))(he:Nat)(hf:Nat)(hb:Nat)(hd:Value)(hg:Nat)(key:Ae)(x:(List Ab))(first:Bool)(l:Ae)(c:Ab)(r:Bool×Bool×Ae)(h:Mi F hk key x first l c=some r):Fn Tryz.prog GE 167 [rS key,AK 4 (Az Ai x),rP he 0,rP hf 0,rP hg 0] [.blk he [rB first] 4,.blk hf [rP hb 0] 174,.bld 177 5 hb hd l,.blk hg (Ai c) 70] (λR H=>∃w3b:Value,R=rB r.1∧H=[.blk he [rB r.2.1] 4,.blk hf [rP hb 0] 174,.bld 177 5 hb w3b r.2.2,.blk hg (Ai c) 70]):=by
 refine enter (n:=23) Tryz.func167 Aa Tryz.ntmps167 Aa (λw Z=>?_);unfold Mi at h;refine Ah (wa Aa (Ap (Al (Ah (vL 0 Qc Aa (wv (Cn Aa) (Ap (cz h Aa (λc1 h2=>?_) (λc1 hn=>?_)))))))))
 ·refine Ak (vL 1 Gp Aa (ck h2 λg3 h4=>ck h4 λg5 h6=>C5 (rs:=[rP hb 0,rI .u8 44]) (Hin:=[.bld 177 5 hb hd l]) (Hr:=[.blk he [rB first] 4,.blk hf [rP hb 0] 174,.blk hg (Ai c) 70]) IQ Aa ((AO (i:=2) Aa).trans (Aer _ (Aet _))) (CF hb hd l 44 g3 g5) Aa ?_));rintro _ _ ⟨v7,rfl,rfl⟩;refine bd h6 λr8 hp h9=>?_;rw[← hp];refine Bu (us (i:=1) IP Aa Aa (BP Aa) Aa Aa ?_);refine Ap (Al (Ah (vF CN Aa JJ (vL 3 JL Aa (wv (Ce Aa Aa) (Ap (cz h9 Aa (λhq hr=>?_) (λhq hs=>?_))))))))
  ·refine Ah (vL 2 Gp Aa (wm Aa (ob hr λhi ht hu=>EN [0] Tryz.call164 (OO F hb v7 r8 key hi ht) ?_)));rintro _ _ ⟨hl,rfl,rfl⟩;refine Ap (Ak (vL 2 Gp Aa (ck hu λg17 hw=>ck hw λg19 hx=>C5 (rs:=[rP hb 0,rI .u8 58]) (Hin:=[.bld 177 5 hb hl hi]) (Hr:=[.blk he [rB false] 4,.blk hf [rP hb 0] 174,.blk hg (Ai c) 70]) IQ Aa (Aet _) (CF hb hl hi 58 g17 g19) Aa ?_)));rintro _ _ ⟨v21,rfl,rfl⟩;refine bd hx λhy hz h0=>?_;rw[← hz];refine Bu (vL 2 Gp Aa (wm Aa (ob h0 λh1 h3 h5=>EN [0] S5 (hh hb v21 hy x h1 h3) ?_)));rintro _ _ ⟨h7,rfl,rfl⟩;refine Bu (wa Aa (Ap (Ar (JY [1,1] ?_))));obtain rfl:=Av h5;exact As (BH Vh (AQ Aa)) (sC (sC (sC (sC sN)))) ⟨h7,Aa,Aa⟩
  refine A0 (Bb (Ah (vL 2 Gp Aa (wm Aa (ob hs λh8 hA hB=>EN [0] S5 (hh hb v7 r8 x h8 hA) ?_)))));rintro _ _ ⟨hC,rfl,rfl⟩;refine Bu (wa Aa (Ap (Ar (JY [1,1] ?_))));obtain rfl:=Av hB;exact As (BH Vh (AQ Aa)) (sC (sC (sC (sC sN)))) ⟨hC,Aa,Aa⟩
 refine A0 (Bb (Ah (us (i:=0) IP Aa Aa (BP Aa) Aa Aa ?_)));refine Ap (Al (Ah (vF CN Aa JJ (vL 3 JL Aa (wv (Ce Aa Aa) (Ap (cz hn Aa (λhD hE=>?_) (λhD hG=>?_))))))))
 ·refine Ah (vL 1 Gp Aa (wm Aa (ob hE λhj hH hI=>EN [2] Tryz.call164 (OO F hb hd l key hj hH) ?_)));rintro _ _ ⟨hm,rfl,rfl⟩;refine Ap (Ak (vL 2 Gp Aa (ck hI λhJ hK=>ck hK λhL hN=>C5 (rs:=[rP hb 0,rI .u8 58]) (Hin:=[.bld 177 5 hb hm hj]) (Hr:=[.blk he [rB false] 4,.blk hf [rP hb 0] 174,.blk hg (Ai c) 70]) IQ Aa (Aet _) (CF hb hm hj 58 hJ hL) Aa ?_)));rintro _ _ ⟨hO,rfl,rfl⟩;refine bd hN λhP hQ hR=>?_;rw[← hQ];refine Bu (vL 2 Gp Aa (wm Aa (ob hR λhS hT hU=>EN [0] S5 (hh hb hO hP x hS hT) ?_)));rintro _ _ ⟨hV,rfl,rfl⟩;refine Bu (wa Aa (Ap (Ar (JY [1,1] ?_))));obtain rfl:=Av hU;exact As (BH Vh (AQ Aa)) (sC (sC (sC (sC sN)))) ⟨hV,Aa,Aa⟩
 refine A0 (Bb (Ah (vL 1 Gp Aa (wm Aa (ob hG λhW hX hY=>EN [2] S5 (hh hb hd l x hW hX) ?_)))));rintro _ _ ⟨hZ,rfl,rfl⟩;refine Bu (wa Aa (Ap (Ar (JY [1,1] ?_))));obtain rfl:=Av hY;exact As (BH Vh (AQ Aa)) (sC (sC (sC (sC sN)))) ⟨hZ,Aa,Aa⟩
theorem Ul (F:Nat)(hn:Ae→(List Ab)→Bool→Ae→Ab→Option (Bool×Bool×Ae))(hz:(∀(he:Nat) (hf:Nat) (hd:Nat) (hp:Value) (hg:Nat) (key:Ae) (x:(List Ab)) (first:Bool) (l:Ae) (c:Ab) (r:Bool×Bool×Ae),hn key x first l c=some r→Fn Tryz.prog GE 167 [rS key,AK 4 (Az Ai x),rP he 0,rP hf 0,rP hg 0] [.blk he [rB first] 4,.blk hf [rP hd 0] 174,.bld 177 5 hd hp l,.blk hg (Ai c) 70] (λR H=>∃w3b:Value,R=rB r.1∧H=[.blk he [rB r.2.1] 4,.blk hf [rP hd 0] 174,.bld 177 5 hd w3b r.2.2,.blk hg (Ai c) 70])))(he:Nat)(hf:Nat)(hd:Nat)(hp:Value)(hg:Nat)(v:(List Ab))(first:Bool)(l:Ae)(c:Ab)(r:Bool×Ae)(h:IS F hn v first l c=some r):Fn Tryz.prog GE 166 [AK 4 (Az Ai v),rv (.func (.func 167) #[] #[(.pointer (some ⟨he,0,none⟩)),(.pointer (some ⟨hf,0,none⟩)),(.pointer (some ⟨hg,0,none⟩))])] [.blk he [rB first] 4,.blk hf [rP hd 0] 174,.bld 177 5 hd hp l,.blk hg (Ai c) 70] (λR H=>∃w1_1b:Value,R=rv (.tuple #[])∧H=[.blk he [rB r.1] 4,.blk hf [rP hd 0] 174,.bld 177 5 hd w1_1b r.2,.blk hg (Ai c) 70]):=by
 refine enter (n:=52) Tryz.func166 Aa Tryz.ntmps166 Aa (λw Z=>?_);unfold IS at h;refine Ah (wa Aa (Bu (wm Aa (ck h λg1 h2=>wv (Bl (enc:=Ai) (ys:=v) Ef E0 Aa Aa g1) (wv (AY CN Aa Ee Aa Aa) (wv (Bc Gn Aa Aa) (wv (r:=A2 0) (Aj Aa) (Ap (AH (ob h2 λh3 h4 hs=>BG (S:=Nat×(Int×Int×Bool×Ae)×(Value)) (V:=(Bool×Ae)×(Value)) 0 (λσ=>Cl (λσ=>DZ F v c hn σ.1 σ.2.1 σ.2.2.1 σ.2.2.2) σ.1 σ.2.1=some h3) (λσ=>[(0,AK 4 (Az Ai v)),(1,rv (.func (.func 167) #[] #[(.pointer (some ⟨he,0,none⟩)),(.pointer (some ⟨hf,0,none⟩)),(.pointer (some ⟨hg,0,none⟩))])),(4,A2 σ.2.1.1),(12,A2 ((An v 0).fN)),(13,A2 σ.2.1.2.1)]) (λσ=>[.blk he [rB σ.2.1.2.2.1] 4,.blk hf [rP hd 0] 174,.bld 177 5 hd σ.2.2 σ.2.1.2.2.2,.blk hg (Ai c) 70]) (λσ=>σ.1) (F,(1,0,first,l),hp) h4 (AV.c5 Aa Aa Aa Aa Aa AV.nil) (sC (sC (sC (sC sN)))) (λσ=>HR σ.1.1 σ.1.2=some r) (λσ=>[]) (λσ=>[.blk he [rB σ.1.1] 4,.blk hf [rP hd 0] 174,.bld 177 5 hd σ.2 σ.1.2,.blk hg (Ai c) 70]) ?_ ?_))))))))))
 ·rintro⟨g4,⟨hb,ht,hh,hi⟩,hl⟩ h5;refine H6 ?_;obtain⟨h0,rfl,h6,hq,hm⟩:=CD h5;replace hq:DZ F v c hn hb ht hh hi=some h6:=hq;unfold DZ at hq;refine Ah (wv (CP Aa Aa) (Ap (Al (cz hq Aa (λc175 h7=>?_) (λc175 h8=>?_)))))
  ·refine A0 (Bb (Al (AH (Ah (wv (r:=rS ([]:Ae)) (A4 Aa) (Ap (Al (Ah (wm Aa (wv (Bl (enc:=Ai) (ys:=v) Ef E0 Aa Aa g1) (wv (AY CN Aa JJ Aa Aa) (wv (Bc JL Aa Aa) (wv (Ce Aa Aa) (Ap (cz h7 Aa (λh9 hA=>?_) (λh9 hB=>?_))))))))))))))))
   ·refine Ah (wm Aa (wm Aa (ck hA λhC hD=>wv (Bl (enc:=Ai) (ys:=v) Ef E0 Aa Aa hC) (wv (AY CN Aa Dc Aa Aa) (wv (Bc DQ Aa Aa) (wa Aa (Ap (Ak (wm Aa (ck hD λhE hG=>wv (BM Aa Aa hE) (wa Aa (Bu (wm Aa (wm Aa (ck hG λhH hI=>wv (r:=AK 4 (Az Ai (List.drop (Cc (hb+1)) v))) (J3 Ef E0 Aa Aa hH) (ob hI λhj hJ hK=>Cp Tryz.call95 (Rr F (List.drop (Cc (hb+1)) v) hj hJ) Aa (wm Aa (wv (A5 Aa Aa) (wv (A5 Aa Aa) ?_)))))))))))))))))));refine wv (A5 Aa Aa) (BO (cs:=[A2 0,A2 0,rB false,rB false]) Sm Aa Aa (λhL=>?_));refine wa Aa (Gx (i:=0) GB Aa Aa Aa (B5.c Aa) Aa Aa ?_);refine wa Aa (Ap (Al (Ah (wm Aa (wm Aa (wm Aa (wm Aa (wm Aa (wm Aa (ck hK λhu hN=>wv (BM Aa Aa hu) (wm Aa (wm Aa (wv (BM Aa Aa hu) (ck hN λhO hP=>ck hP λhQ hR=>wv (r:=AK 4 (Az Ai (List.take (Cc ((hb+1)+hj.1)-Cc (hb+1)) (List.drop (Cc (hb+1)) v)))) (Pu Ef E0 Aa Aa Aa Aa hO hQ) (ob hR λhw hS hT=>GV (rs:=[rS ((An v hb).fStr),AK 4 (Az Ai (List.take (Cc ((hb+1)+hj.1)-Cc (hb+1)) (List.drop (Cc (hb+1)) v)))]) (Hin:=[.blk he [rB hh] 4,.blk hf [rP hd 0] 174,.bld 177 5 hd hl hi,.blk hg (Ai c) 70]) (Hr:=[.blk hL (Bw hj.2.1) 143]) Tryz.call167 Aa Aa ((AO (i:=1) Aa).trans (Aer _ ((AO (i:=1) Aa).trans (Aer _ ((AO (i:=1) Aa).trans (Aer _ ((AO (i:=1) Aa).trans (Aer _ (Aet _))))))))) (hz he hf hd hl hg ((An v hb).fStr) (List.take (Cc ((hb+1)+hj.1)-Cc (hb+1)) (List.drop (Cc (hb+1)) v)) hh hi c hw hS) Aa ?_)))))))))))))));rintro _ _ ⟨h1,rfl,rfl⟩;refine wv (Cn Aa) (Ap (cz hT Aa (λhU hV=>?_) (λhU hW=>?_)))
    ·refine Ar (Ac (A8 (Ac (Ac (B7 ?_)))));have hX:=Ca hV hm hs;refine A8 ?_;obtain rfl:=Av hX;exact As (WV Tryz.results166) (sC (sC (sC (sC (sS sN))))) ⟨h1,Aa,Aa⟩
    refine A0 (Bb (Ak (wm Aa (wm Aa (wv (BM Aa Aa hu) (wa Aa (Aq (AN (Bb (Ak (ck hW λhY hZ=>wv (BM Aa Aa hY) (wm Aa (Aq ?_)))))))))))));have ga:=B8 hZ hm;exact A9 (AZ (h0,((hb+1)+hj.1,ht+1,hw.2.1,hw.2.2),h1) ⟨ga,Aew _⟩ (AV.c5 Aa Aa Aa Aa Aa AV.nil) (sC (sC (sC (sC (sS sN))))))
   refine A0 (Bb (Ah (wm Aa (wm Aa (ck hB λgb gc=>wv (r:=AK 4 (Az Ai (List.drop (Cc hb) v))) (J3 Ef E0 Aa Aa gb) (ob gc λhk gd gf=>Cp Tryz.call95 (Rr F (List.drop (Cc hb) v) hk gd) Aa (wm Aa (wv (A5 Aa Aa) (wv (A5 Aa Aa) (wv (A5 Aa Aa) (BO (cs:=[A2 0,A2 0,rB false,rB false]) Sm Aa Aa (λgg=>?_))))))))))));refine wa Aa (Gx (i:=0) GB Aa Aa Aa (B5.c Aa) Aa Aa ?_);refine wa Aa (Ap (Al (Ah (wm Aa (wm Aa (wm Aa (wm Aa (wm Aa (wm Aa (ck gf λhx gh=>wv (BM Aa Aa hx) (wm Aa (wm Aa (wv (BM Aa Aa hx) (ck gh λgi gj=>ck gj λgl gm=>wv (r:=AK 4 (Az Ai (List.take (Cc (hb+hk.1)-Cc hb) (List.drop (Cc hb) v)))) (Pu Ef E0 Aa Aa Aa Aa gi gl) (ob gm λhy gp gq=>GV (rs:=[rS ([]:Ae),AK 4 (Az Ai (List.take (Cc (hb+hk.1)-Cc hb) (List.drop (Cc hb) v)))]) (Hin:=[.blk he [rB hh] 4,.blk hf [rP hd 0] 174,.bld 177 5 hd hl hi,.blk hg (Ai c) 70]) (Hr:=[.blk gg (Bw hk.2.1) 143]) Tryz.call167 Aa Aa ((AO (i:=1) Aa).trans (Aer _ ((AO (i:=1) Aa).trans (Aer _ ((AO (i:=1) Aa).trans (Aer _ ((AO (i:=1) Aa).trans (Aer _ (Aet _))))))))) (hz he hf hd hl hg ([]:Ae) (List.take (Cc (hb+hk.1)-Cc hb) (List.drop (Cc hb) v)) hh hi c hy gp) Aa ?_)))))))))))))));rintro _ _ ⟨v222,rfl,rfl⟩;refine wv (Cn Aa) (Ap (cz gq Aa (λgr gs=>?_) (λgr gu=>?_)))
   ·refine Ar (Ac (A8 (Ac (Ac (B7 ?_)))));have gv:=Ca gs hm hs;refine A8 ?_;obtain rfl:=Av gv;exact As (WV Tryz.results166) (sC (sC (sC (sC (sS sN))))) ⟨v222,Aa,Aa⟩
   refine A0 (Bb (Ak (wm Aa (wm Aa (wv (BM Aa Aa hx) (wa Aa (Aq (AN (Bb (Ak (ck gu λgw gx=>wv (BM Aa Aa gw) (wm Aa (Aq ?_)))))))))))));have gy:=B8 gx hm;exact A9 (AZ (h0,(hb+hk.1,ht+1,hy.2.1,hy.2.2),v222) ⟨gy,Aew _⟩ (AV.c5 Aa Aa Aa Aa Aa AV.nil) (sC (sC (sC (sC (sS sN))))))
  refine BE (Ay ?_);have gz:=BW h8 hm hs;exact Ay (Bq (AZ ((hh,hi),hl) gz AV.nil (sC (sC (sC (sC sN))))))
 rintro⟨⟨g0,g2⟩,g3⟩ hr;refine Ir ?_;replace hr:HR g0 g2=some r:=hr;unfold HR at hr;refine Bo ?_;obtain rfl:=Av hr;exact HO (WV Tryz.results166) (sC (sC (sC (sC sN)))) ⟨g3,Aa,Aa⟩
theorem HQ:∀F:Nat,(∀(hb:Nat) (hd:Value) (l:Ae) (v:(List Ab)) (r:Ae),GH F l v=some r→Fn Tryz.prog GE 119 [rP hb 0,AK 4 (Az Ai v)] [.bld 177 5 hb hd l] (λR H=>∃w0b:Value,R=rv (.tuple #[])∧H=[.bld 177 5 hb w0b r]))∧(∀(he:Nat) (hf:Nat) (hb:Nat) (hd:Value) (hg:Nat) (key:Ae) (x:(List Ab)) (first:Bool) (l:Ae) (c:Ab) (r:Bool×Bool×Ae),EX F key x first l c=some r→Fn Tryz.prog GE 167 [rS key,AK 4 (Az Ai x),rP he 0,rP hf 0,rP hg 0] [.blk he [rB first] 4,.blk hf [rP hb 0] 174,.bld 177 5 hb hd l,.blk hg (Ai c) 70] (λR H=>∃w3b:Value,R=rB r.1∧H=[.blk he [rB r.2.1] 4,.blk hf [rP hb 0] 174,.bld 177 5 hb w3b r.2.2,.blk hg (Ai c) 70]))∧(∀(he:Nat) (hf:Nat) (hb:Nat) (hd:Value) (hg:Nat) (v:(List Ab)) (first:Bool) (l:Ae) (c:Ab) (r:Bool×Ae),H7 F v first l c=some r→Fn Tryz.prog GE 166 [AK 4 (Az Ai v),rv (.func (.func 167) #[] #[(.pointer (some ⟨he,0,none⟩)),(.pointer (some ⟨hf,0,none⟩)),(.pointer (some ⟨hg,0,none⟩))])] [.blk he [rB first] 4,.blk hf [rP hb 0] 174,.bld 177 5 hb hd l,.blk hg (Ai c) 70] (λR H=>∃w1_1b:Value,R=rv (.tuple #[])∧H=[.blk he [rB r.1] 4,.blk hf [rP hb 0] 174,.bld 177 5 hb w1_1b r.2,.blk hg (Ai c) 70]))
  | 0=>⟨(λ_ _ _ _ _ h=>by simp[GH] at h),(λ_ _ _ _ _ _ _ _ _ _ _ h=>by simp[EX] at h),(λ_ _ _ _ _ _ _ _ _ _ h=>by simp[H7] at h)⟩
  | nn+1=>⟨(λhb hd l v r h=>W6 nn (EX nn) (H7 nn) (HQ nn).2.1 (HQ nn).2.2 hb hd l v r (by rw[GH] at h;exact h)),(λhe hf hb hd hg key x first l c r h=>Um nn (GH nn) (HQ nn).1 he hf hb hd hg key x first l c r (by rw[EX] at h;exact h)),(λhe hf hb hd hg v first l c r h=>Ul nn (EX nn) (HQ nn).2.1 he hf hb hd hg v first l c r (by rw[H7] at h;exact h))⟩
theorem XY (F:Nat)(hb:Nat)(hd:Value)(l:Ae)(v:(List Ab))(r:Ae)(h:GH F l v=some r):Fn Tryz.prog GE 119 [rP hb 0,AK 4 (Az Ai v)] [.bld 177 5 hb hd l] (λR H=>∃w0b:Value,R=rv (.tuple #[])∧H=[.bld 177 5 hb w0b r]):=(HQ F).1 hb hd l v r h
theorem QB (F:Nat)(v:(List Ab))(r:Ae×Int)(h:Ju F v=some r):Fn Tryz.prog GE 67 [AK 4 (Az Ai v)] [] (λR H=>R=Dr [rS r.1,A2 r.2]∧H=[]):=by
 refine enter (n:=14) Tryz.func67 Aa Tryz.ntmps67 Aa (λw Z=>?_);unfold Ju at h;refine Ah (wv (r:=rS ([]:Ae)) (A4 Aa) (wa Aa (Ap (Al (Ah (wm Aa (ob h λr1 e3 h2=>Cp Tryz.call36 (Mn F v r1 e3) Aa (wa Aa (Bu (wm Aa (wv (CZ Aa Aa) (Ap (cz h2 Aa (λc4 h5=>?_) (λc4 h6=>?_))))))))))))))
 ·refine Ah (wm Aa (wv (r:=rS ([]:Ae)) (A4 Aa) (wa Aa (Ap (Ar (Ac ?_))))));obtain rfl:=Av h5;exact As (Iy Tryz.results67 (AQ Aa) (AQ Aa)) sN ⟨Aa,Aa⟩
 refine A0 (Bb (Ah (BO (cs:=[rv (.pointer none),rv (.slice none 0 0)]) Tryz.zeroValue177 Aa Aa (λb7=>?_))));refine Bu (wm Aa (WL.tobld (te:=5) (i:=0) Aa (ob h6 λr8 hd h9=>EN [0] S5 (XY F b7 (.slice none 0 0) ([]:Ae) v r8 hd) ?_)));rintro _ _ ⟨hb,rfl,rfl⟩;refine Bu (ck h9 λhe hf=>C5 (rs:=[rP b7 0]) (Hin:=[.bld 177 5 b7 hb r8]) (Hr:=[]) Tryz.call120 Aa (Aet _) (Rk b7 hb r8  he) Aa ?_);rintro _ _ ⟨rfl,rfl⟩;refine wa Aa (wa Aa (Ap (Ar ?_)));obtain rfl:=Av hf;exact As (Iy Tryz.results67 (AQ Aa) (AQ Aa)) sN ⟨Aa,Aa⟩
end Go.Proofs.YtmjlemhondjfhaaGreatDoor.Q
namespace Go.Proofs.YtmjlemhondjfhaaGreatDoor
open Go
set_option linter.unusedVariables false
def Iv (s:Ae)(p:Ae):Option (Bool):=
 Bk (imp (decide ((p.length:Int)≤(s.length:Int))) (Lw (p.length:Int) (s.length:Int)))<|some ((decide ((p.length:Int)≤(s.length:Int)))&&(decide ((List.take (Int.toNat (p.length:Int)) s)=p)))
def DM (s:Ae)(p:Ae):Option (Bool):=
 Bs (Iv s p) λr1=>some r1
end Go.Proofs.YtmjlemhondjfhaaGreatDoor
namespace Go.Proofs.YtmjlemhondjfhaaGreatDoor.Q
open Go Go.RowKit
set_option linter.unusedVariables false
set_option linter.unusedSimpArgs false
set_option maxRecDepth 100000
set_option maxHeartbeats 4000000
theorem Qm (s:Ae)(p:Ae)(r:Bool)(h:Iv s p=some r):Fn Tryz.prog GE 203 [rS s,rS p] [] (λR H=>R=rB r∧H=[]):=by
 refine enter (n:=18) Tryz.func203 Aa Tryz.ntmps203 Aa (λw Z=>?_);unfold Iv at h;refine Ah (wa Aa (Ap (ck h λg1 h2=>AC [(4,rB ((decide ((p.length:Int)≤(s.length:Int)))&&(decide ((List.take (Cc (p.length:Int)) s)=p))))] [] ?_ ?_)))
 ·refine Ak (wm Aa (wv (BS DH Aa) (wm Aa (wv (BS DH Aa) (wv (EL Aa Aa) (wm Aa (Bd (decide ((p.length:Int)≤(s.length:Int))) (λc3=>?_) (λc3=>?_))))))))
  ·refine wo c3 (wm Aa (wo c3 (wm Aa (wo c3 (wv (BS DH Aa) (wo c3 (wv (Ia DH Aa Aa (BX g1 c3)) (wo c3 (wm Aa (wo c3 (wv (C2 Aa Aa) (GG Aa c3 Aa (wa Aa (Aq ?_))))))))))))));exact Cy c3
  refine wf c3 (wf c3 (wf c3 (wf c3 (wf c3 (wf c3 (wv (r:=rB false) (A3 Aa c3 Aa) (wa Aa (Aq ?_))))))));exact Cy c3
 refine Ar ?_;obtain rfl:=Av h2;exact As (BH Tryz.results203 (AQ Aa)) sN ⟨Aa,Aa⟩
theorem NX (s:Ae)(p:Ae)(r:Bool)(h:DM s p=some r):Fn Tryz.prog GE 176 [rS s,rS p] [] (λR H=>R=rB r∧H=[]):=by
 refine enter (n:=8) Tryz.func176 Aa Tryz.ntmps176 Aa (λw Z=>?_);unfold DM at h;refine Ah (wa Aa (Bu (wm Aa (wm Aa (ob h λr1 e3 h2=>Cp Tryz.call203 (Qm s p r1 e3) Aa (wa Aa (Ap (Ar ?_))))))));obtain rfl:=Av h2;exact As (BH Tryz.results176 (AQ Aa)) sN ⟨Aa,Aa⟩
end Go.Proofs.YtmjlemhondjfhaaGreatDoor.Q
namespace Go.Proofs.YtmjlemhondjfhaaGreatDoor
open Go
set_option linter.unusedVariables false
def HV (a:(List Ab))(b:(List Ab))(hb:Int):Option (Stp (Int) (Out (Bool) (Unit))):=
 BB (decide (hb<(a.length:Int))) (Bk (Ck hb (a.length:Int))<|Bk (Ck hb (b.length:Int))<|BB (!(decide (((An a hb).fKind)=((An b hb).fKind))&&decide (((An a hb).fInt)=((An b hb).fInt))&&decide (((An a hb).fStr)=((An b hb).fStr))&&decide (((An a hb).fN)=((An b hb).fN)))) (some (.out (.ret false))) (Bk (Cb .i64 (hb+1))<|some (.next (hb+1)))) (some (.out (.go ())))
def Kb :Option (Bool):=
 some true
def BJ (F:Nat)(a:(List Ab))(b:(List Ab)):Option (Bool):=
 BB (!decide ((a.length:Int)=(b.length:Int))) (some false) (Bs (Cl (λσ=>HV a b σ) F 0) (Co λν=>Kb ))
end Go.Proofs.YtmjlemhondjfhaaGreatDoor
namespace Go.Proofs.YtmjlemhondjfhaaGreatDoor.Q
open Go Go.RowKit
set_option linter.unusedVariables false
set_option linter.unusedSimpArgs false
set_option maxRecDepth 100000
set_option maxHeartbeats 4000000
theorem ZC {a0 b0:Int}{a1 b1:Int}{a2 b2:Ae}{a3 b3:Int}(w:World):(Op.equalIn 10000 70 (.agg #[.int .i64 a0,.int .i64 a1,.string (B a2),.int .i64 a3]) (.agg #[.int .i64 b0,.int .i64 b1,.string (B b2),.int .i64 b3])).run Tryz.prog w = .ok (decide (a0=b0)&&decide (a1=b1)&&decide (a2=b2)&&decide (a3=b3)) w:=by
  have hS:Tryz.prog.underlying 70=some (.struct (Tryz.prog.fieldsOf 70)):=by kernel_rfl
  have hp:Tryz.prog.stoodInHeld 70=false:=by kernel_rfl
  have u3:=yu3;have ia3:=Gn;have so3:=Ee;have u9:=DH;have ia9:=DQ;have so9:=Dc;have hb:=Tryz.underlying68;have hd:=JL;have he:=JJ;rw[show(10000:Nat)=9999+1 from rfl,run_equalIn_agg w 9999 70 _ _ hS hp];simp only[Program.fieldsOf,CN]
  go_simp
  simp only[EE]
  by_cases h0:a0=b0<;>by_cases h1:a1=b1<;>by_cases h2:a2=b2<;>by_cases h3:a3=b3<;>simp[h0,h1,h2,h3]
theorem Tf {n:Nat}{c:Cx}{l:Fr}{H:List Ent}{d:Option Nat}{ty rty:TypeId}{pos:String}{af:Array Edge}{g:Option (Nat×Bool)}{x y:Operand}{a0 b0:Int}{a1 b1:Int}{a2 b2:Ae}{a3 b3:Int}(hx:ev l x=some (B3 [A2 a0,A2 a1,rS a2,A2 a3]))(hy:ev l y=some (B3 [A2 b0,A2 b1,rS b2,A2 b3])):BD Tryz.prog n c l H { dst:=d,op:=.binOp .neq 70 x y rty,type:=ty,pos:=pos,after:=af,guard:=g } (rB (!(decide (a0=b0)&&decide (a1=b1)&&decide (a2=b2)&&decide (a3=b3)))):=λa w Z ha hw=>by
  obtain⟨us,e1,q1⟩:=ha.ev hx;obtain⟨vs,e2,q2⟩:=ha.ev hy;have k1:=B2.eq_rv (us:=[.int .i64 a0,.int .i64 a1,.string (B a2),.int .i64 a3]) q1;have k2:=B2.eq_rv (us:=[.int .i64 b0,.int .i64 b1,.string (B b2),.int .i64 b3]) q2;subst k1;subst k2;have hm:Tryz.prog.eqGuardType Tryz.prog.depth 70=false:=by kernel_rfl
  have hb:=ZC (a0:=a0) (a1:=a1) (a2:=a2) (a3:=a3) (b0:=b0) (b1:=b1) (b2:=b2) (b3:=b3) w;refine⟨.bool (!(decide (a0=b0)&&decide (a1=b1)&&decide (a2=b2)&&decide (a3=b3))),rfl,?_⟩;have hg:=run_eqGuard_agg (P:=Tryz.prog) w .neq 70 x y #[.int .i64 a0,.int .i64 a1,.string (B a2),.int .i64 a3] #[.int .i64 b0,.int .i64 b1,.string (B b2),.int .i64 b3] hm;simp only[execOp,e1,e2,Sem.run_bind,hg,Result.andThen_ok,run_neq_struct,hb,Sem.run_pure]
theorem DI (F:Nat)(a:(List Ab))(b:(List Ab))(r:Bool)(h:BJ F a b=some r):Fn Tryz.prog GE 24 [AK 4 (Az Ai a),AK 4 (Az Ai b)] [] (λR H=>R=rB r∧H=[]):=by
 refine enter (n:=26) Tryz.func24 Aa Tryz.ntmps24 Aa (λw Z=>?_);unfold BJ at h;refine Ah (wa Aa (Ap (Al (Ah (wm Aa (wv (By (ys:=a) (enc:=Ai) Ef Aa) (wm Aa (wv (By (ys:=b) (enc:=Ai) Ef Aa) (wv (CZ Aa Aa) (Ap (cz h Aa (λc1 h2=>?_) (λc1 h3=>?_))))))))))))
 ·refine Ah (wa Aa (Ap (Ar (Ac ?_))));obtain rfl:=Av h2;exact As (BH Tryz.results24 (AQ Aa)) sN ⟨Aa,Aa⟩
 refine A0 (Bb (Al (Ah (wa Aa (Ap (AH (ob h3 λhh hi hg=>BG (S:=Nat×(Int)×(Unit)) (V:=(Unit)×(Unit)) 0 (λσ=>Cl (λσ=>HV a b σ) σ.1 σ.2.1=some hh) (λσ=>[(0,AK 4 (Az Ai a)),(1,AK 4 (Az Ai b)),(5,A2 σ.2.1)]) (λσ=>[]) (λσ=>σ.1) (F,0,()) hi (AV.c Aa (AV.c Aa (AV.c Aa AV.nil))) sN (λσ=>Kb =some r) (λσ=>[]) (λσ=>[]) ?_ ?_)))))))
 ·rintro⟨h5,hb,⟨⟩⟩ hj;refine H6 ?_;obtain⟨hk,rfl,hl,hd,hf⟩:=CD hj;replace hd:HV a b hb=some hl:=hd;unfold HV at hd;refine Al (Ah (wm Aa (wm Aa (wv (By (ys:=a) (enc:=Ai) Ef Aa) (wv (CP Aa Aa) (Ap (cz hd Aa (λhm hn=>?_) (λhm hp=>?_))))))))
  ·refine A0 (Bb (Al (AH (Al (ck hn λhq hr=>ck hr λhs ht=>CJ [0,1,5] ?_)))));refine rq (Aj Aa) (rq (Aj Aa) (rq (Bl (enc:=Ai) (ys:=a) Ef E0 Aa Aa hq) (rq (Do W3 E0 Aa Aa Aa) (rq (Aj Aa) (rq (Aj Aa) (rq (Bl (enc:=Ai) (ys:=b) Ef E0 Aa Aa hs) (rq (Do W3 E0 Aa Aa Aa) (rq (r:=rB (!(decide (((An a hb).fKind)=((An b hb).fKind))&&decide (((An a hb).fInt)=((An b hb).fInt))&&decide (((An a hb).fStr)=((An b hb).fStr))&&decide (((An a hb).fN)=((An b hb).fN))))) (Tf Aa Aa) (re [17,18,19,20,21,22,23,24,25,0,1,5] ?_)))))))));refine Bb (cz ht Aa (λhu hw=>?_) (λhu hx=>?_))
   ·refine Ah (wa Aa (Ap (Ar (A8 (Ac (Ac (B7 ?_)))))));have hy:=Ca hw hf hg;refine A8 (Ac ?_);obtain rfl:=Av hy;exact As (BH Tryz.results24 (AQ Aa)) sN ⟨Aa,Aa⟩
   refine A0 (AN (Bb (Ak (wm Aa (ck hx λhz h0=>wv (BM Aa Aa hz) (wa Aa (Aq ?_)))))));have h1:=B8 h0 hf;exact A9 (AZ (hk,hb+1,()) ⟨h1,Aew _⟩ (AV.c Aa (AV.c Aa (AV.c Aa AV.nil))) sN)
  refine BE (Ay ?_);have h4:=BW hp hf hg;exact Ay (Bq (AZ ((),()) h4 AV.nil sN))
 rintro⟨⟨⟩,⟨⟩⟩ he;refine Ir ?_;replace he:Kb =some r:=he;unfold Kb at he;refine Bo (Bb (Ah (wa Aa (Ap (Ar ?_)))));obtain rfl:=Av he;exact As (BH Tryz.results24 (AQ Aa)) sN ⟨Aa,Aa⟩
end Go.Proofs.YtmjlemhondjfhaaGreatDoor.Q
namespace Go.Proofs.YtmjlemhondjfhaaGreatDoor
open Go
set_option linter.unusedVariables false
end Go.Proofs.YtmjlemhondjfhaaGreatDoor
namespace Go.Proofs.YtmjlemhondjfhaaGreatDoor.Q
open Go Go.RowKit
set_option linter.unusedVariables false
set_option linter.unusedSimpArgs false
set_option maxRecDepth 100000
set_option maxHeartbeats 4000000
end Go.Proofs.YtmjlemhondjfhaaGreatDoor.Q
namespace Go.Proofs.YtmjlemhondjfhaaGreatDoor
open Go
set_option linter.unusedVariables false
set_option linter.unusedSimpArgs false
section
variable {T S : Type}
def CA:List (Ae×T)→Ae→Option T
 | [],_=>none
 | p::r,k=>bif decide (p.1=k) then some p.2 else CA r k
def E9 (xs:List (Ae×T))(k:Ae)(z:T):T:=(CA xs k).getD z
def DL (xs:List (Ae×T))(k:Ae):Bool:=(CA xs k).isSome
def mins (k:Ae)(v:T):List (Ae×T)→List (Ae×T)
 | []=>[(k,v)]
 | p::r=>bif Cz k p.1 then(k,v)::p::r else p::mins k v r
def mput (xs:List (Ae×T))(k:Ae)(v:T):List (Ae×T):=xs.map λp=>bif decide (p.1=k) then(k,v) else p
def mset (xs:List (Ae×T))(k:Ae)(v:T):List (Ae×T):=bif DL xs k then mput xs k v else mins k v xs
def Bj (f:T→S)(xs:List (Ae×T)):List (Ae×S):=xs.map λp=>(p.1,f p.2)
theorem MC (f:T→S):∀(xs:List (Ae×T)) (k:Ae),CA (Bj f xs) k=(CA xs k).map f
 | [],k=>rfl
 | p::r,k=>by
  show(bif decide (p.1=k) then some (f p.2) else CA (Bj f r) k)=_;rw[CA,MC f r k]
  cases decide (p.1=k)<;>rfl
theorem YO (f:T→S)(xs:List (Ae×T))(k:Ae):DL (Bj f xs) k=DL xs k:=by
 unfold DL;rw[MC];cases CA xs k<;>rfl
theorem Tm (f:T→S)(k:Ae)(v:T):∀xs:List (Ae×T),Bj f (mins k v xs)=mins k (f v) (Bj f xs)
 | []=>rfl
 | p::r=>by
  show Bj f (bif Cz k p.1 then(k,v)::p::r else p::mins k v r)=(bif Cz k p.1 then(k,f v)::(p.1,f p.2)::Bj f r else(p.1,f p.2)::mins k (f v) (Bj f r));rw[← Tm f k v r]
  cases Cz k p.1<;>rfl
theorem YM (f:T→S)(xs:List (Ae×T))(k:Ae)(v:T):Bj f (mset xs k v)=mset (Bj f xs) k (f v):=by
 unfold mset;rw[YO]
 cases DL xs k with
 | false=>exact Tm f k v xs
 | true=>
  show Bj f (mput xs k v)=mput (Bj f xs) k (f v);unfold Bj mput;rw[AeZ,AeZ];refine List.map_congr_left λp _=>?_;show _=(bif decide (p.1=k) then(k,f v) else(p.1,f p.2));simp only[Function.comp]
  cases decide (p.1=k)<;>rfl
theorem Kj (f:T→S)(xs:List (Ae×T)):(Bj f xs).length=xs.length:=by simp[Bj]
theorem Nt (k:Ae)(v:T):∀xs:List (Ae×T),(mins k v xs).Perm ((k,v)::xs)
 | []=>Aet _
 | p::r=>by
  rw[mins]
  cases Cz k p.1 with
  | true=>exact Aet _
  | false=>exact((Nt k v r).cons p).trans (List.Perm.swap _ _ _)
def HC (x:T):List T→List (List T)
 | []=>[[x]]
 | y::r=>(x::y::r)::(HC x r).map (y::·)
def Ln:List T→List (List T)
 | []=>[[]]
 | x::r=>(Ln r).flatMap (HC x)
theorem NT (x:T):∀(a b:List T),a++x::b∈HC x (a++b)
 | [],[]=>by simp[HC]
 | [],y::b=>by simp[HC]
 | y::a,b=>by
  simp only[List.cons_append,HC,AeQ,List.mem_map];exact .inr ⟨_,NT x a b,rfl⟩
theorem QT:∀(xs ys:List T),ys.Perm xs→ys∈Ln xs
 | [],ys,h=>by rw[h.eq_nil];simp[Ln]
 | x::r,ys,h=>by
  have hx:x∈ys:=h.symm.subset (List.mem_cons_self ..);obtain⟨a,b,rfl⟩:=List.append_of_mem hx;have h2:(a++b).Perm r:=(List.perm_middle.symm.trans h).cons_inv;simp only[Ln,List.mem_flatMap];exact⟨a++b,QT r _ h2,NT x a b⟩
def YN {R:Type}[DecidableEq R](xs:List T)(K:List T→Option R):Option R:=match K xs with
 | none=>none
 | some r=>bif (Ln xs).all (λp=>decide (K p=some r)) then some r else none
theorem AbX {R:Type}[DecidableEq R]{xs:List T}{K:List T→Option R}{r:R}(h:YN xs K=some r):∀p:List T,p.Perm xs→K p=some r:=λp hp=>by
 unfold YN at h
 cases hk:K xs with
 | none=>rw[hk] at h;cases h
 | some q=>
  rw[hk] at h;simp only at h
  cases ha:(Ln xs).all (λp=>decide (K p=some q)) with
  | false=>rw[ha] at h;cases h
  | true=>
   rw[ha] at h;cases h;exact AeL (List.all_eq_true.1 ha p (QT xs p hp))
theorem Jf (x:T):∀(xs ys:List T),ys∈HC x xs→ys.Perm (x::xs)
 | [],ys,h=>by simp[HC] at h;rw[h]
 | y::r,ys,h=>by
  simp only[HC,AeQ,List.mem_map] at h;rcases h with rfl | ⟨z,hz,rfl⟩
  ·exact Aet _
  ·exact((Jf x r z hz).cons y).trans (List.Perm.swap _ _ _)
theorem Pr:∀(xs ys:List T),ys∈Ln xs→ys.Perm xs
 | [],ys,h=>by simp[Ln] at h;rw[h]
 | x::r,ys,h=>by
  simp only[Ln,List.mem_flatMap] at h;obtain⟨z,hz,hy⟩:=h;exact(Jf x z ys hy).trans ((Pr r z hz).cons x)
theorem AbW {R:Type}[DecidableEq R]{xs:List T}{K:List T→Option R}{r:R}(h:∀p:List T,p.Perm xs→K p=some r):YN xs K=some r:=by
 unfold YN;rw[h xs (Aet _)];have:(Ln xs).all (λp=>decide (K p=some r))=true:=List.all_eq_true.2 λp hp=>Aek (h p (Pr xs p hp));simp only[this];rfl
def Xs {St O:Type}(body:T→St→Option (Stp St (Out O St))):List T→St→Option (Out O St)
 | [],s=>some (.go s)
 | x::r,s=>match body x s with
  | none=>none
  | some (.next s')=>Xs body r s'
  | some (.out o)=>some o
def Adu {St R:Type}(body:T→St→Option (Stp St (Out R St)))(ys:List T)(K:St→Option R)(r:R):Stp St (Out R St)→Prop
 | .next s'=>∀q:List T,q.Perm ys→Bs (Xs body q s') (Co K)=some r
 | .out o=>Co K o=some r
theorem AcZ {St R:Type}{body:T→St→Option (Stp St (Out R St))}{ys ys':List T}{p:T}{s:St}{K:St→Option R}{r:R}(h:∀q:List T,q.Perm ys→Bs (Xs body q s) (Co K)=some r)(hp:ys.Perm (p::ys')):∃t,body p s=some t∧Adu body ys' K r t:=by
 have h1:∀q:List T,q.Perm ys'→Bs (Xs body (p::q) s) (Co K)=some r:=λq hq=>h _ ((hq.cons p).trans hp.symm)
 cases hb:body p s with
 | none=>
  have:=h1 ys' (Aet _);rw[Xs,hb] at this;cases this
 | some t=>
  refine⟨t,rfl,?_⟩
  cases t with
  | next s'=>
   intro q hq;have:=h1 q hq;rw[Xs,hb] at this;exact this
  | out o=>
   have:=h1 ys' (Aet _);rw[Xs,hb] at this;exact this
theorem AaC {St R:Type}{body:T→St→Option (Stp St (Out R St))}{ys:List T}{s:St}{K:St→Option R}{r:R}(h:∀q:List T,q.Perm ys→Bs (Xs body q s) (Co K)=some r)(hy:ys=[]):K s=some r:=by
 subst hy;exact h [] (Aet _)
theorem Xq {St R:Type}{body:T→St→Option (Stp St (Out R St))}{ys:List T}{s':St}{K:St→Option R}{r:R}{t:Stp St (Out R St)}(h:some (Stp.next s')=some t)(ht:Adu body ys K r t):∀q:List T,q.Perm ys→Bs (Xs body q s') (Co K)=some r:=by cases h;exact ht
theorem Aaq {ys ys':List T}{p:T}(h:ys.Perm (p::ys')):ys'.length<ys.length:=by rw[h.length_eq];exact Aew _
end
def Ze (k:IntKind)(x y:Int):Int:=k.wrap ((BitVec.ofInt k.bits x&&& BitVec.ofInt k.bits y).toNat:Int)
def Ud (k:IntKind)(x y:Int):Int:=k.wrap ((BitVec.ofInt k.bits x||| BitVec.ofInt k.bits y).toNat:Int)
def Hm (k:IntKind)(x n:Int):Int:=k.wrap (x*2 ^ (min n.toNat k.bits))
structure Ad where
 fAllow:Bool
 fActions:(List Ae)
 fResources:(List Ae)
 deriving DecidableEq,Inhabited
structure C1 where
 fAllowed:Bool
 fIndex:Int
 deriving DecidableEq,Inhabited
structure AG where
 fAllow:Bool
 fAddr:Int
 fBits:Int
 fLow:Int
 fHigh:Int
 deriving DecidableEq,Inhabited
def Gr (s:Ae)(x:Ae):Option (Bool):=
 Bk (imp (decide ((x.length:Int)≤(s.length:Int))) (Cb .i64 ((s.length:Int)-(x.length:Int))))<|Bk (imp (decide ((x.length:Int)≤(s.length:Int))) (Lw ((s.length:Int)-(x.length:Int)) (s.length:Int)))<|some ((decide ((x.length:Int)≤(s.length:Int)))&&(decide ((List.drop (Int.toNat ((s.length:Int)-(x.length:Int))) s)=x)))
def H8 (s:Ae)(x:Ae):Option (Ae):=
 Bs (Gr s x) λr1=>BB (r1) (Bk (Cb .i64 ((s.length:Int)-(x.length:Int)))<|Bk (Lw ((s.length:Int)-(x.length:Int)) (s.length:Int))<|some (List.take (Int.toNat ((s.length:Int)-(x.length:Int))) s)) (some s)
def KR (s:Ae)(x:Ae):Option (Bool):=
 Bs (Gr s x) λr1=>some r1
def Jy (s:Ae)(x:Ae):Option (Ae):=
 Bs (H8 s x) λr1=>some r1
def Ey (s:Ae):Option (Ae):=
 Bs (Jy s ([42]:Ae)) λr1=>some r1
def Lx (s:Ae):Option (Bool):=
 Bs (KR s ([42]:Ae)) λr1=>some r1
def Jj (s:Ae):Option (Bool):=
 Bk (imp (!(LV s)) (imp (!(decide (s=([42]:Ae)))) ((Ey s).isSome)))<|Bk (imp (!(LV s)) (imp (!(decide (s=([42]:Ae)))) (imp (LV (ov (Ey s))) ((Lx s).isSome))))<|some ((LV s)||((decide (s=([42]:Ae)))||((LV (ov (Ey s)))&&((ov (Lx s))&&(decide ((s.length:Int)≤64))))))
def Kt (q:Ae)(s:Ae):Option (Bool):=
 Bs (Jj q) λr1=>BB (!r1) (some false) (Bs (Lx q) λr7=>BB (r7) (Bs (Ey q) λhb=>Bs (DM s hb) λhd=>some hd) (some (decide (q=s))))
def Ij (l:(List Ae))(s:Ae)(hb:Int):Option (Stp (Int) (Out (Bool) (Unit))):=
 BB (decide (hb<(l.length:Int))) (Bk (Ck hb (l.length:Int))<|BB (decide ((An l hb)=s)) (some (.out (.ret true))) (Bk (Cb .i64 (hb+1))<|some (.next (hb+1)))) (some (.out (.go ())))
def Ku :Option (Bool):=
 some false
def PE (F:Nat)(l:(List Ae))(s:Ae):Option (Bool):=
 Bs (Cl (λσ=>Ij l s σ) F 0) (Co λν=>Ku )
def KQ (a:(List Ae))(b:(List Ae))(hb:Int):Option (Stp (Int) (Out (Bool) (Unit))):=
 BB (decide (hb<(a.length:Int))) (Bk (Ck hb (a.length:Int))<|Bk (Ck hb (b.length:Int))<|BB (!decide ((An a hb)=(An b hb))) (some (.out (.ret false))) (Bk (Cb .i64 (hb+1))<|some (.next (hb+1)))) (some (.out (.go ())))
def KP :Option (Bool):=
 some true
def UI (F:Nat)(a:(List Ae))(b:(List Ae)):Option (Bool):=
 BB (!decide ((a.length:Int)=(b.length:Int))) (some false) (Bs (Cl (λσ=>KQ a b σ) F 0) (Co λν=>KP ))
def M5 (x:Ae):Option (Bool):=
 Bs (Jj x) λr1=>some (!r1)
def O2 (x:Ae)(s:Ae):Option (Bool):=
 Bs (Kt x s) λr1=>some r1
def Ih (ys:(List Ae))(hb:Int):Option (Stp (Int) (Out (Int) (Unit))):=
 BB (decide (hb<(ys.length:Int))) (Bk (Ck hb (ys.length:Int))<|Bs (M5 (An ys hb)) λhd=>BB (hd) (some (.out (.ret hb))) (Bk (Cb .i64 (hb+1))<|some (.next (hb+1)))) (some (.out (.go ())))
def Kr :Option (Int):=
 some (-1)
def VQ (F:Nat)(ys:(List Ae)):Option (Int):=
 Bs (Cl (λσ=>Ih ys σ) F 0) (Co λν=>Kr )
def Nz (F:Nat)(ys:(List Ae)):Option (Bool):=
 Bs (VQ F ys) λr1=>some (decide (0≤r1))
def GI (ys:(List Ae))(s:Ae)(hb:Int):Option (Stp (Int) (Out (Int) (Unit))):=
 BB (decide (hb<(ys.length:Int))) (Bk (Ck hb (ys.length:Int))<|Bs (O2 (An ys hb) s) λhd=>BB (hd) (some (.out (.ret hb))) (Bk (Cb .i64 (hb+1))<|some (.next (hb+1)))) (some (.out (.go ())))
def Jg :Option (Int):=
 some (-1)
def RJ (F:Nat)(ys:(List Ae))(s:Ae):Option (Int):=
 Bs (Cl (λσ=>GI ys s σ) F 0) (Co λν=>Jg )
def MG (F:Nat)(ys:(List Ae))(s:Ae):Option (Bool):=
 Bs (RJ F ys s) λr1=>some (decide (0≤r1))
def Ge (F:Nat)(s:Ad)(hb:Int):Option (Stp (Int) (Out (Int) (Unit))):=
 BB (decide (hb<(([s.fActions,s.fResources]:List (List Ae)).length:Int))) (Bk (Ck hb (([s.fActions,s.fResources]:List (List Ae)).length:Int))<|Bs (Nz F (An ([s.fActions,s.fResources]:List (List Ae)) hb)) λhd=>BB (hd) (some (.out (.ret 4))) (Bk (Cb .i64 (hb+1))<|some (.next (hb+1)))) (some (.out (.go ())))
def HW :Option (Int):=
 some 0
def Gf (s:Ad)(hb:Int):Option (Stp (Int) (Out (Int) (Unit))):=
 BB (decide (hb<(([s.fActions,s.fResources]:List (List Ae)).length:Int))) (Bk (Ck hb (([s.fActions,s.fResources]:List (List Ae)).length:Int))<|BB (((decide (((An ([s.fActions,s.fResources]:List (List Ae)) hb).length:Int)<1))||(decide (8<((An ([s.fActions,s.fResources]:List (List Ae)) hb).length:Int))))) (some (.out (.ret 3))) (Bk (Cb .i64 (hb+1))<|some (.next (hb+1)))) (some (.out (.go ())))
def HX (F:Nat)(s:Ad):Option (Int):=
 Bs (Cl (λσ=>Ge F s σ) F 0) (Co λν=>HW )
def EY (F:Nat)(s:Ad):Option (Int):=
 Bs (Cl (λσ=>Gf s σ) F 0) (Co λν=>HX F s )
def G2 (F:Nat)(l:(List Ae))(s:Ae):Option (Bool):=
 Bs (MG F l s) λr2=>some r2
def M4 (F:Nat)(x:Ad)(allow:Bool)(action:Ae)(resource:Ae):Option (Bool):=
 Bk (imp (x.fAllow ==allow) ((EY F x).isSome))<|Bk (imp (x.fAllow ==allow) (imp (decide ((ov (EY F x))=0)) ((G2 F x.fActions action).isSome)))<|Bk (imp (x.fAllow ==allow) (imp (decide ((ov (EY F x))=0)) (imp ((ov (G2 F x.fActions action))) ((G2 F x.fResources resource).isSome))))<|some ((x.fAllow ==allow)&&((decide ((ov (EY F x))=0))&&((ov (G2 F x.fActions action))&&(ov (G2 F x.fResources resource)))))
def Ig (F:Nat)(ys:(List Ad))(allow:Bool)(action:Ae)(resource:Ae)(hb:Int):Option (Stp (Int) (Out (Int) (Unit))):=
 BB (decide (hb<(ys.length:Int))) (Bk (Ck hb (ys.length:Int))<|Bs (M4 F (An ys hb) allow action resource) λhd=>BB (hd) (some (.out (.ret hb))) (Bk (Cb .i64 (hb+1))<|some (.next (hb+1)))) (some (.out (.go ())))
def Kq :Option (Int):=
 some (-1)
def Tz (F:Nat)(ys:(List Ad))(allow:Bool)(action:Ae)(resource:Ae):Option (Int):=
 Bs (Cl (λσ=>Ig F ys allow action resource σ) F 0) (Co λν=>Kq )
def Pp (F:Nat)(allow:Bool)(l:(List Ad))(action:Ae)(resource:Ae):Option (Int):=
 Bs (Tz F l allow action resource) λr2=>some r2
def Kc (F:Nat)(l:(List Ad))(action:Ae)(resource:Ae):Option (C1):=
 Bs (Pp F false l action resource) λr5=>BB (decide (0≤r5)) (some (C1.mk false r5)) (Bs (Pp F true l action resource) λhb=>some (C1.mk (decide (0≤hb)) hb))
def D7 (n:Int)(low:Int)(high:Int):Option (Bool):=
 some ((decide (low≤n))&&(decide (n≤high)))
def Ea (bits:Int):Option (Int):=
 Bk (Cb .i64 (32-bits))<|Bk (decide (0≤(32-bits)))<|Bk (Cb .i64 ((Hm .i64 1 (32-bits))-1))<|some ((Hm .i64 1 (32-bits))-1)
def D8 (q:AG):Option (Int):=
 Bk ((D7 q.fAddr 0 4294967295).isSome)<|Bk (imp (!(!(ov (D7 q.fAddr 0 4294967295)))) ((D7 q.fBits 0 32).isSome))<|Bk (imp (!(!(ov (D7 q.fAddr 0 4294967295)))) (imp (!(!(ov (D7 q.fBits 0 32)))) ((D7 q.fLow 1 65535).isSome)))<|Bk (imp (!(!(ov (D7 q.fAddr 0 4294967295)))) (imp (!(!(ov (D7 q.fBits 0 32)))) (imp (!(!(ov (D7 q.fLow 1 65535)))) ((D7 q.fHigh q.fLow 65535).isSome))))<|BB (((!(ov (D7 q.fAddr 0 4294967295)))||((!(ov (D7 q.fBits 0 32)))||((!(ov (D7 q.fLow 1 65535)))||(!(ov (D7 q.fHigh q.fLow 65535))))))) (some 2) (Bs (Ea q.fBits) λhb=>BB (!decide ((Ze .i64 q.fAddr hb)=0)) (some 1) (some 0))
def VP (s:Ae):Option (Int):=
 BB (decide (([46]:Ae)=s)) (some 0) (Bk (Ck 0 (([46]:Ae).length:Int))<|some (Lib.indexByte s (Int.toNat (Cw ([46]:Ae) 0)).toUInt8))
def T0 (s:Ae):Option (Int):=
 BB (decide (([58]:Ae)=s)) (some 0) (Bk (Ck 0 (([58]:Ae).length:Int))<|some (Lib.indexByte s (Int.toNat (Cw ([58]:Ae) 0)).toUInt8))
def Ph (s:Ae):Option (Int):=
 Bs (VP s) λr1=>some r1
def CW (s:Ae)(hb:Ae)(hd:Int)(hf:(List Ae)):Option (Stp (Ae×Int×(List Ae)) (Out ((List Ae)) (Ae×Int×(List Ae)))):=
 BB (decide (hd<((min ((Lib.countByte s 46:Int)+1) ((s.length:Int)+1))-1))) (Bs (Ph hb) λhe=>BB (decide (he<0)) (some (.out (.go (hb,hd,hf)))) (Bk (Cb .i64 (he+0))<|Bk (Lw (he+0) (hb.length:Int))<|Bk (Ck hd (hf.length:Int))<|JT (List.set hf (Int.toNat hd) (List.take (Int.toNat (he+0)) hb)) λhg=>Bk (Cb .i64 (he+1))<|Bk (Lw (he+1) (hb.length:Int))<|Bk (Cb .i64 (hd+1))<|some (.next (List.drop (Int.toNat (he+1)) hb,hd+1,hg)))) (some (.out (.go (hb,hd,hf))))
def DV (hf:Ae)(hb:Int)(hd:(List Ae)):Option ((List Ae)):=
 Bk (Ck hb (hd.length:Int))<|JT (List.set hd (Int.toNat hb) hf) λhe=>Bk (Cb .i64 (hb+1))<|Bk (Lw (hb+1) (he.length:Int))<|some (List.take (Int.toNat (hb+1)) he)
def MP (F:Nat)(s:Ae):Option ((List Ae)):=
 Bk (Cb .i64 ((Lib.countByte s 46:Int)+1))<|Bk (Cb .i64 ((s.length:Int)+1))<|Bk (D2 16 (Int.toNat (min ((Lib.countByte s 46:Int)+1) ((s.length:Int)+1))))<|Bk (decide (0≤(min ((Lib.countByte s 46:Int)+1) ((s.length:Int)+1))))<|Bk (Cb .i64 ((min ((Lib.countByte s 46:Int)+1) ((s.length:Int)+1))-1))<|Bs (Cl (λσ=>CW s σ.1 σ.2.1 σ.2.2) F (s,0,List.replicate (Int.toNat (min ((Lib.countByte s 46:Int)+1) ((s.length:Int)+1))) ([]:Ae))) (Co λν=>DV ν.1 ν.2.1 ν.2.2)
def Pg (F:Nat)(s:Ae):Option ((List Ae)):=
 Bs (MP F s) λr1=>some r1
def Vv (s:Ae):Option (Ae×Ae×Bool):=
 Bs (T0 s) λr1=>BB (decide (0≤r1)) (Bk (Lw r1 (s.length:Int))<|Bk (Cb .i64 (r1+1))<|Bk (Lw (r1+1) (s.length:Int))<|some (List.take (Int.toNat r1) s,List.drop (Int.toNat (r1+1)) s,true)) (some (s,([]:Ae),false))
def Yu (s:Ae):Option (Ae×Ae×Bool):=
 Bs (Vv s) λr1=>some (r1.1,r1.2.1,r1.2.2)
def D9 (r1:(List Ae))(hb:Int)(hd:(List Int)):Option (Stp (Int×(List Int)) (Out (Int×Int) ((List Int)))):=
 BB (decide (hb<4)) (Bk (Ck hb (r1.length:Int))<|Bk (D2 1 (An r1 hb).length)<|Bk (imp (!(!decide ((Ep (An r1 hb))=0))) ((D7 (C7 (An r1 hb)) 0 255).isSome))<|BB (((!decide ((Ep (An r1 hb))=0))||(!(ov (D7 (C7 (An r1 hb)) 0 255))))) (some (.out (.ret (0,1)))) (Bk (Ck hb 4)<|Bk (Ck hb (hd.length:Int))<|Bk (Cb .i64 (hb+1))<|some (.next (hb+1,List.set hd (Int.toNat hb) (C7 (An r1 hb)))))) (some (.out (.go hd)))
def EG (hb:(List Int)):Option (Int×Int):=
 Bk (Ck 0 4)<|Bk (Ck 0 (hb.length:Int))<|Bk (Ck 1 4)<|Bk (Ck 1 (hb.length:Int))<|Bk (Ck 2 4)<|Bk (Ck 2 (hb.length:Int))<|Bk (Ck 3 4)<|Bk (Ck 3 (hb.length:Int))<|some (Ud .i64 (Ud .i64 (Ud .i64 (Hm .i64 (An hb 0) 24) (Hm .i64 (An hb 1) 16)) (Hm .i64 (An hb 2) 8)) (An hb 3),0)
def Je (F:Nat)(s:Ae):Option (Int×Int):=
 Bs (Pg F s) λr1=>BB (!decide ((r1.length:Int)=4)) (some (0,1)) (Bs (Cl (λσ=>D9 r1 σ.1 σ.2) F (0,List.replicate 4 (0:Int))) (Co λν=>EG ν))
def Jd (q:AG)(addr:Int)(port:Int):Option (Bool):=
 Bk ((D8 q).isSome)<|Bk (imp (decide ((ov (D8 q))=0)) ((Ea q.fBits).isSome))<|Bk (imp (decide ((ov (D8 q))=0)) (Cb .i64 (q.fAddr+(ov (Ea q.fBits)))))<|Bk (imp (decide ((ov (D8 q))=0)) ((D7 addr q.fAddr (q.fAddr+(ov (Ea q.fBits)))).isSome))<|Bk (imp (decide ((ov (D8 q))=0)) (imp ((ov (D7 addr q.fAddr (q.fAddr+(ov (Ea q.fBits)))))) ((D7 port q.fLow q.fHigh).isSome)))<|some ((decide ((ov (D8 q))=0))&&((ov (D7 addr q.fAddr (q.fAddr+(ov (Ea q.fBits)))))&&(ov (D7 port q.fLow q.fHigh))))
def E8 (l:(List AG))(addr:Int)(port:Int)(hb:Int):Option (Stp (Int) (Out (C1) (Unit))):=
 BB (decide (hb<(l.length:Int))) (Bk (Ck hb (l.length:Int))<|Bs (Jd (An l hb) addr port) λhd=>BB (hd) (some (.out (.ret (C1.mk ((An l hb).fAllow) hb)))) (Bk (Cb .i64 (hb+1))<|some (.next (hb+1)))) (some (.out (.go ())))
def I0 :Option (C1):=
 some (C1.mk false (-1))
def Hj (F:Nat)(l:(List AG))(addr:Int)(port:Int):Option (C1):=
 Bs (Cl (λσ=>E8 l addr port σ) F 0) (Co λν=>I0 )
end Go.Proofs.YtmjlemhondjfhaaGreatDoor
namespace Go.Proofs.YtmjlemhondjfhaaGreatDoor.Q
open Go Go.RowKit
set_option linter.unusedVariables false
set_option linter.unusedSimpArgs false
section
variable {P : Program} {n : Nat} {c : Cx} {l : Fr} {H : List Ent} {d : Option Nat} {x y : Operand} {t t' ty : TypeId} {pos : String} {af : Array Edge} {g : Option (Nat × Bool)} {k k' : IntKind} {p q : Int}
theorem AcV (hx:ev l x=some (rI k p))(hy:ev l y=some (rI k q)):BD P n c l H { dst:=d,op:=.binOp .and t x y t',type:=ty,pos:=pos,after:=af,guard:=g } (rI k (Ze k p q)):=λa w Z ha _=>D6<|by
 simp[execOp,ha.eval hx,ha.eval hy,BQ,binOp,Op.intBits,Ze]
theorem AbR (hx:ev l x=some (rI k p))(hy:ev l y=some (rI k q)):BD P n c l H { dst:=d,op:=.binOp .or t x y t',type:=ty,pos:=pos,after:=af,guard:=g } (rI k (Ud k p q)):=λa w Z ha _=>D6<|by
 simp[execOp,ha.eval hx,ha.eval hy,BQ,binOp,Op.intBits,Ud]
theorem VE (hx:ev l x=some (rI k p))(hy:ev l y=some (rI k' q))(h0:decide (0≤q)=true):BD P n c l H { dst:=d,op:=.binOp .shl t x y t',type:=ty,pos:=pos,after:=af,guard:=g } (rI k (Hm k p q)):=λa w Z ha _=>D6<|by
 have h1 : ¬ q<0:=by have:=AeL h0;omega
 simp[execOp,ha.eval hx,ha.eval hy,BQ,binOp,Op.shift,Hm,h1]
end
theorem AbZ {α:Type}[Inhabited α]{enc:α→Rp}{ys:List α}{j:Int}(hg:Ck j (ys.length:Int)=true):(List.map enc ys)[j.toNat]? =some (enc (An ys j)):=by
 have h0:=(Cj hg).1;have h1:=(Cj hg).2;have hl:j.toNat<ys.length:=by omega
 simp[An,Aep hl]
theorem Aa9 {α:Type}{enc:α→Rp}{ys:List α}{j:Int}(hg:Ck j (ys.length:Int)=true):Nat.blt j.toNat (List.map enc ys).length=true:=by
 have h0:=(Cj hg).1;have h1:=(Cj hg).2;simp;omega
section
variable {P : Program} {n : Nat} {c : Cx} {ops : Array Oper} {Q : Exit → Act → World → Prop} {rest : List Oper} {l : Fr} {H H' : List Ent} {d : Nat} {d' : Option Nat} {x y : Operand} {t ty e : TypeId} {pos : String} {af : Array Edge} {g : Option (Nat × Bool)} {k : IntKind} {b i len : Nat} {j : Int}
theorem Px (ht:P.underlying t=some (.array len e))(hz:∀w,(sizeOf e).run P w = .ok 1 w)(hx:ev l x=some (rv (.pointer (some ⟨b,0,none⟩))))(hy:ev l y=some (rI k j))(hg:Ck j (len:Int)=true) :
  BD P n c l H { dst:=d',op:=.indexAddr t x y,type:=ty,pos:=pos,after:=af,guard:=g } (rv (.pointer (some ⟨b,j.toNat,none⟩))):=λa w Z ha hw=>D6<|by
 have h0:=(Cj hg).1;have h1:=(Cj hg).2;simp[execOp,ha.eval hx,ha.eval hy,Instr.indexAt,Instr.sureAddr,asIntOf,run_underlying ht,h0,h1,hz,JA]
theorem M8 {α:Type}[Inhabited α]{enc:α→Rp}{ys:List α}(hag:∀w,(isAgg t).run P w = .ok false w)(hx:ev l x=some (rv (.pointer (some ⟨b,j.toNat,none⟩))))(hi:H[i]? =some (.blk b (List.map enc ys) e))(hg:Ck j (ys.length:Int)=true) :
  BD P n c l H { dst:=d',op:=.load t x,type:=ty,pos:=pos,after:=af,guard:=g } (enc (An ys j)):=AU hag hx hi (AbZ hg)
theorem WG {α:Type}[Inhabited α]{enc:α→Rp}{ys:List α}{v:α}(hag:∀w,(sizeOf t).run P w = .ok 1 w)(hx:ev l x=some (rv (.pointer (some ⟨b,j.toNat,none⟩))))(hy:ev l y=some (enc v))(hv:Q1 H (enc v))
  (hi:H[i]? =some (.blk b (List.map enc ys) e)) (hg:Ck j (ys.length:Int)=true) (hH:H.set i (.blk b (List.map enc (List.set ys j.toNat v)) e)=H')
  (h:WL P n c ops Q rest l H'):WL P n c ops Q ({ dst:=none,op:=.store t x y,type:=ty,pos:=pos,after:=af,guard:=none }::rest) l H:=
 Rs hag hx hy hv hi (Aa9 hg) (cs':=List.map enc (List.set ys j.toNat v)) (by rw[List.map_set]) hH h
end
section
variable {P : Program} {n : Nat} {c : Cx} {l : Fr} {H : List Ent} {d' : Option Nat} {x y : Operand} {t t' ty e te : TypeId} {pos : String} {af : Array Edge} {g : Option (Nat × Bool)} {k : IntKind} {b i len : Nat} {j : Int}
end
end Go.Proofs.YtmjlemhondjfhaaGreatDoor.Q
