/-
  Texts of the proof, put together: ShelfN, FwG, Row, IdA, PlB, IdB, PlC, IdC, ShelfV, PlD, PlE, FwJ, IdR, TzL, QG, QO, RowQ, QOb, Q0, PQB, WQB, PVa, WVa, PVb.
-/
import Derived.Test.YtmjlemhondjfhaaGreatDoorHA1
import Derived.Shelf.Strconv.Itoa3
import Derived.Shelf.LaysM
import Derived.Shelf.LaysC
import Derived.Shelf.Strconv.AtoiAll
import Derived.Shelf.Strconv.ErrVarAll
import Derived.Test.YtmjlemhondjfhaaGreatDoorProg
import Derived.Lib.SmallJoins
import Derived.Lib.AppendIntMem
import Derived.Lib.TrailingZeros
import Derived.Lib.LaidTab
import Derived.Test.YtmjlemhondjfhaaGreatDoorCards
import Derived.Test.YtmjlemhondjfhaaGreatDoorTie
import Derived.Carry
import Derived.ChangeSame
import Derived.ProofKit
import Derived.OpenShut
import Derived.Deep.DeepHandedRow
import Derived.Deep.DeepWitnessRowRef
import Derived.Lib.LaidIn
import Derived.Stop.LaidErr
import Derived.Lib.Bytealg
import Derived.Lib.AtoiAllCases
import Derived.Lib.ItoaNum
import Derived.Lib.ItoaLen
import Derived.Shelf.Strings.Builder1
import Derived.Shelf.Strings.Count
import Derived.Shelf.Strings.Search1
import Derived.Shelf.Strings.Search2
import Derived.Shelf.Strings.Search3
import Derived.Shelf.Small.Strs
import Derived.Lib.ItoaMem
import Derived.Shelf.Lays7
import Derived.Shelf.Spec.TrailingZeros
import Derived.Deep.Slices
import Derived.ChangeArms
import Derived.DataReads
import Derived.Test.YtmjlemhondjfhaaGreatDoorRows
import Derived.Laws.Tables
namespace Go.Proofs
open Go.Shelf
def Tryz.laysM171_ren:Go.Shelf.Ren:=⟨fun | 171=>122 | 243=>172 | 246=>200 | 283=>225 | 284=>226 | 285=>227 | 286=>228 | 129=>197 | 317=>240 | 318=>241 | 319=>242 | 320=>243 | 337=>247 | 338=>248 | n=>n,fun | 3=>3 | 9=>9 | 2=>2 | 4=>4 | 171=>250 | 0=>0 | 53=>231 | 37=>175 | 5=>5 | 173=>252 | 212=>266 | 51=>229 | 20=>20 | 213=>267 | 46=>196 | 232=>276 | 233=>277 | n=>n,fun | 17=>3 | 18=>6 | 19=>7 | n=>n⟩
theorem Tryz.laysM171:Go.Proofs.LaysM.n171 Tryz.prog Tryz.laysM171_ren:={
 mixed:=by kernel_rfl
 f129:=Tryz.func197.trans (congrArg some (by kernel_rfl))
 f171:=Tryz.func122.trans (congrArg some (by kernel_rfl))
 f243:=Tryz.func172.trans (congrArg some (by kernel_rfl))
 f246:=Tryz.func200.trans (congrArg some (by kernel_rfl))
 f283:=Tryz.func225.trans (congrArg some (by kernel_rfl))
 f284:=Tryz.func226.trans (congrArg some (by kernel_rfl))
 f285:=Tryz.func227.trans (congrArg some (by kernel_rfl))
 f286:=Tryz.func228.trans (congrArg some (by kernel_rfl))
 f317:=Tryz.func240.trans (congrArg some (by kernel_rfl))
 f318:=Tryz.func241.trans (congrArg some (by kernel_rfl))
 f319:=Tryz.func242.trans (congrArg some (by kernel_rfl))
 f320:=Tryz.func243.trans (congrArg some (by kernel_rfl))
 f337:=Tryz.func247.trans (congrArg some (by kernel_rfl))
 f338:=Tryz.func248.trans (congrArg some (by kernel_rfl))
 t0:=Tryz.underlying0
 a0:=Tryz.isAgg0
 z0:=Tryz.sizeOf0
 v0:=Tryz.zeroValue0
 t2:=Tryz.underlying2
 a2:=Tryz.isAgg2
 z2:=Tryz.sizeOf2
 v2:=Tryz.zeroValue2
 t3:=Tryz.underlying3
 a3:=Tryz.isAgg3
 z3:=Tryz.sizeOf3
 v3:=Tryz.zeroValue3
 t4:=Tryz.underlying4
 a4:=Tryz.isAgg4
 z4:=Tryz.sizeOf4
 v4:=Tryz.zeroValue4
 t5:=Tryz.underlying5
 a5:=Tryz.isAgg5
 z5:=Tryz.sizeOf5
 v5:=Tryz.zeroValue5
 t9:=Tryz.underlying9
 a9:=Tryz.isAgg9
 z9:=Tryz.sizeOf9
 v9:=Tryz.zeroValue9
 t20:=Tryz.underlying20
 a20:=Tryz.isAgg20
 z20:=Tryz.sizeOf20
 v20:=Tryz.zeroValue20
 t37:=Tryz.underlying175
 a37:=Tryz.isAgg175
 z37:=Tryz.sizeOf175
 v37:=Tryz.zeroValue175
 t46:=Tryz.underlying196
 a46:=Tryz.isAgg196
 z46:=Tryz.sizeOf196
 v46:=Tryz.zeroValue196
 t51:=Tryz.underlying229
 a51:=Tryz.isAgg229
 z51:=Tryz.sizeOf229
 v51:=Tryz.zeroValue229
 t53:=Tryz.underlying231
 a53:=Tryz.isAgg231
 z53:=Tryz.sizeOf231
 v53:=Tryz.zeroValue231
 t171:=Tryz.underlying250
 a171:=Tryz.isAgg250
 z171:=Tryz.sizeOf250
 v171:=Tryz.zeroValue250
 t173:=Tryz.underlying252
 a173:=Tryz.isAgg252
 z173:=Tryz.sizeOf252
 v173:=Tryz.zeroValue252
 t212:=Tryz.underlying266
 a212:=Tryz.isAgg266
 z212:=Tryz.sizeOf266
 v212:=Tryz.zeroValue266
 t213:=Tryz.underlying267
 a213:=Tryz.isAgg267
 z213:=Tryz.sizeOf267
 t232:=Tryz.underlying276
 a232:=Tryz.isAgg276
 z232:=Tryz.sizeOf276
 v232:=Tryz.zeroValue276
 t233:=Tryz.underlying277
 a233:=Tryz.isAgg277
 z233:=Tryz.sizeOf277
 v233:=Tryz.zeroValue277
 g17:=by kernel_rfl
 g18:=by kernel_rfl
 g19:=by kernel_rfl
 i0:=by kernel_rfl
 i2:=by kernel_rfl
 i3:=by kernel_rfl
 i4:=by kernel_rfl
 i5:=by kernel_rfl
 i9:=by kernel_rfl
 i20:=by kernel_rfl
 i37:=by kernel_rfl
 i46:=by kernel_rfl
 i51:=by kernel_rfl
 i53:=by kernel_rfl
 i171:=by kernel_rfl
 i173:=by kernel_rfl
 i212:=by kernel_rfl
 i232:=by kernel_rfl
 i233:=by kernel_rfl
 m17:=by kernel_rfl
 m18:=by kernel_rfl
 m19:=by kernel_rfl }
open Go.RowKit Go.Sort Go.Lib in
theorem Tryz.strconv_Itoa (n : Int) (h0 : -9223372036854775808 ≤ n) (h1 : n ≤ 9223372036854775807) (w : World) (htab : Lib.TabIs Tryz.prog w "internal/strconv.uint64pow10" .u64 Lib.pow10Tab) :
  Calls Tryz.prog 122 #[.int .i64 n] w λe w'=>e = .returned (.string ⟨(Lib.itoa n).toArray⟩)∧∃k os,w'=grow (w.drewN k) os:=Any.strconv_Itoa Tryz.laysM171 n h0 h1 w htab
def Tryz.laysC172_ren:Go.Shelf.Ren:=⟨fun | 172=>147 | 244=>182 | 245=>183 | 247=>212 | 279=>213 | 280=>214 | 281=>215 | 282=>216 | 287=>234 | 316=>235 | 171=>122 | 205=>236 | 321=>245 | 322=>246 | 243=>172 | 246=>200 | 283=>225 | 284=>226 | 285=>227 | 286=>228 | 129=>197 | 317=>240 | 318=>241 | 319=>242 | 320=>243 | 337=>247 | 338=>248 | n=>n,fun | 9=>9 | 3=>3 | 75=>198 | 76=>199 | 4=>4 | 5=>5 | 167=>236 | 37=>175 | 0=>0 | 85=>237 | 2=>2 | 168=>239 | 53=>231 | 175=>258 | 46=>196 | 210=>261 | 127=>213 | 145=>271 | 143=>269 | 21=>21 | 171=>250 | 173=>252 | 212=>266 | 51=>229 | 20=>20 | 213=>267 | 232=>276 | 233=>277 | 80=>179 | n=>n,fun | 15=>1 | 16=>2 | 17=>3 | 18=>6 | 19=>7 | n=>n⟩
theorem Tryz.laysC172:Go.Proofs.LaysC.n172 Tryz.prog Tryz.laysC172_ren:={
 mixed:=by kernel_rfl
 f129:=Tryz.func197.trans (congrArg some (by kernel_rfl))
 f171:=Tryz.func122.trans (congrArg some (by kernel_rfl))
 f172:=Tryz.func147.trans (congrArg some (by kernel_rfl))
 f205:=Tryz.func236.trans (congrArg some (by kernel_rfl))
 f243:=Tryz.func172.trans (congrArg some (by kernel_rfl))
 f244:=Tryz.func182.trans (congrArg some (by kernel_rfl))
 f245:=Tryz.func183.trans (congrArg some (by kernel_rfl))
 f246:=Tryz.func200.trans (congrArg some (by kernel_rfl))
 f247:=Tryz.func212.trans (congrArg some (by kernel_rfl))
 f279:=Tryz.func213.trans (congrArg some (by kernel_rfl))
 f280:=Tryz.func214.trans (congrArg some (by kernel_rfl))
 f281:=Tryz.func215.trans (congrArg some (by kernel_rfl))
 f282:=Tryz.func216.trans (congrArg some (by kernel_rfl))
 f283:=Tryz.func225.trans (congrArg some (by kernel_rfl))
 f284:=Tryz.func226.trans (congrArg some (by kernel_rfl))
 f285:=Tryz.func227.trans (congrArg some (by kernel_rfl))
 f286:=Tryz.func228.trans (congrArg some (by kernel_rfl))
 f287:=Tryz.func234.trans (congrArg some (by kernel_rfl))
 f316:=Tryz.func235.trans (congrArg some (by kernel_rfl))
 f317:=Tryz.func240.trans (congrArg some (by kernel_rfl))
 f318:=Tryz.func241.trans (congrArg some (by kernel_rfl))
 f319:=Tryz.func242.trans (congrArg some (by kernel_rfl))
 f320:=Tryz.func243.trans (congrArg some (by kernel_rfl))
 f321:=Tryz.func245.trans (congrArg some (by kernel_rfl))
 f322:=Tryz.func246.trans (congrArg some (by kernel_rfl))
 f337:=Tryz.func247.trans (congrArg some (by kernel_rfl))
 f338:=Tryz.func248.trans (congrArg some (by kernel_rfl))
 t0:=Tryz.underlying0
 a0:=Tryz.isAgg0
 z0:=Tryz.sizeOf0
 v0:=Tryz.zeroValue0
 t2:=Tryz.underlying2
 a2:=Tryz.isAgg2
 z2:=Tryz.sizeOf2
 v2:=Tryz.zeroValue2
 t3:=Tryz.underlying3
 a3:=Tryz.isAgg3
 z3:=Tryz.sizeOf3
 v3:=Tryz.zeroValue3
 t4:=Tryz.underlying4
 a4:=Tryz.isAgg4
 z4:=Tryz.sizeOf4
 v4:=Tryz.zeroValue4
 t5:=Tryz.underlying5
 a5:=Tryz.isAgg5
 z5:=Tryz.sizeOf5
 v5:=Tryz.zeroValue5
 t9:=Tryz.underlying9
 a9:=Tryz.isAgg9
 z9:=Tryz.sizeOf9
 v9:=Tryz.zeroValue9
 t20:=Tryz.underlying20
 a20:=Tryz.isAgg20
 z20:=Tryz.sizeOf20
 v20:=Tryz.zeroValue20
 t21:=Tryz.underlying21
 a21:=Tryz.isAgg21
 z21:=Tryz.sizeOf21
 v21:=Tryz.zeroValue21
 t37:=Tryz.underlying175
 a37:=Tryz.isAgg175
 z37:=Tryz.sizeOf175
 v37:=Tryz.zeroValue175
 t46:=Tryz.underlying196
 a46:=Tryz.isAgg196
 z46:=Tryz.sizeOf196
 v46:=Tryz.zeroValue196
 t51:=Tryz.underlying229
 a51:=Tryz.isAgg229
 z51:=Tryz.sizeOf229
 v51:=Tryz.zeroValue229
 t53:=Tryz.underlying231
 a53:=Tryz.isAgg231
 z53:=Tryz.sizeOf231
 v53:=Tryz.zeroValue231
 t75:=Tryz.underlying198
 a75:=Tryz.isAgg198
 z75:=Tryz.sizeOf198
 v75:=Tryz.zeroValue198
 t76:=Tryz.underlying199
 a76:=Tryz.isAgg199
 z76:=Tryz.sizeOf199
 v76:=Tryz.zeroValue199
 t85:=Tryz.underlying237
 a85:=Tryz.isAgg237
 z85:=Tryz.sizeOf237
 v85:=Tryz.zeroValue237
 t127:=Tryz.underlying213
 a127:=Tryz.isAgg213
 z127:=Tryz.sizeOf213
 v127:=Tryz.zeroValue213
 t143:=Tryz.underlying269
 a143:=Tryz.isAgg269
 z143:=Tryz.sizeOf269
 v143:=Tryz.zeroValue269
 t145:=Tryz.underlying271
 a145:=Tryz.isAgg271
 z145:=Tryz.sizeOf271
 v145:=Tryz.zeroValue271
 t167:=Tryz.underlying236
 a167:=Tryz.isAgg236
 z167:=Tryz.sizeOf236
 v167:=Tryz.zeroValue236
 t168:=Tryz.underlying239
 a168:=Tryz.isAgg239
 z168:=Tryz.sizeOf239
 v168:=Tryz.zeroValue239
 t171:=Tryz.underlying250
 a171:=Tryz.isAgg250
 z171:=Tryz.sizeOf250
 v171:=Tryz.zeroValue250
 t173:=Tryz.underlying252
 a173:=Tryz.isAgg252
 z173:=Tryz.sizeOf252
 v173:=Tryz.zeroValue252
 t175:=Tryz.underlying258
 a175:=Tryz.isAgg258
 z175:=Tryz.sizeOf258
 v175:=Tryz.zeroValue258
 t210:=Tryz.underlying261
 a210:=Tryz.isAgg261
 z210:=Tryz.sizeOf261
 v210:=Tryz.zeroValue261
 t212:=Tryz.underlying266
 a212:=Tryz.isAgg266
 z212:=Tryz.sizeOf266
 v212:=Tryz.zeroValue266
 t213:=Tryz.underlying267
 a213:=Tryz.isAgg267
 z213:=Tryz.sizeOf267
 t232:=Tryz.underlying276
 a232:=Tryz.isAgg276
 z232:=Tryz.sizeOf276
 v232:=Tryz.zeroValue276
 t233:=Tryz.underlying277
 a233:=Tryz.isAgg277
 z233:=Tryz.sizeOf277
 v233:=Tryz.zeroValue277
 g15:=by kernel_rfl
 g16:=by kernel_rfl
 g17:=by kernel_rfl
 g18:=by kernel_rfl
 g19:=by kernel_rfl
 t80:=Tryz.underlying179
 a80:=Tryz.isAgg179
 z80:=Tryz.sizeOf179
 v80:=Tryz.zeroValue179
 i0:=by kernel_rfl
 i2:=by kernel_rfl
 i3:=by kernel_rfl
 i4:=by kernel_rfl
 i5:=by kernel_rfl
 i9:=by kernel_rfl
 i20:=by kernel_rfl
 i21:=by kernel_rfl
 i37:=by kernel_rfl
 i46:=by kernel_rfl
 i51:=by kernel_rfl
 i53:=by kernel_rfl
 i75:=by kernel_rfl
 i76:=by kernel_rfl
 i80:=by kernel_rfl
 i85:=by kernel_rfl
 i127:=by kernel_rfl
 i143:=by kernel_rfl
 i145:=by kernel_rfl
 i167:=by kernel_rfl
 i168:=by kernel_rfl
 i171:=by kernel_rfl
 i173:=by kernel_rfl
 i175:=by kernel_rfl
 i210:=by kernel_rfl
 i212:=by kernel_rfl
 i232:=by kernel_rfl
 i233:=by kernel_rfl
 m15:=by kernel_rfl
 m16:=by kernel_rfl
 m17:=by kernel_rfl
 m18:=by kernel_rfl
 m19:=by kernel_rfl
 c0:=by kernel_rfl
 c2:=by kernel_rfl
 c3:=by kernel_rfl
 c4:=by kernel_rfl
 c5:=by kernel_rfl
 c9:=by kernel_rfl
 c20:=by kernel_rfl
 c21:=by kernel_rfl
 c37:=by kernel_rfl
 c46:=by kernel_rfl
 c51:=by kernel_rfl
 c53:=by kernel_rfl
 c75:=by kernel_rfl
 c76:=by kernel_rfl
 c80:=by kernel_rfl
 c85:=by kernel_rfl
 c127:=by kernel_rfl
 c143:=by kernel_rfl
 c145:=by kernel_rfl
 c167:=by kernel_rfl
 c168:=by kernel_rfl
 c171:=by kernel_rfl
 c173:=by kernel_rfl
 c175:=by kernel_rfl
 c210:=by kernel_rfl
 c212:=by kernel_rfl
 c213:=by kernel_rfl
 c232:=by kernel_rfl
 c233:=by kernel_rfl }
open Go.RowKit in
theorem Tryz.strconv_Atoi_ok (s:ByteArray)(hmax:s.size≤9223372036854775806)(v:Int)(h:Lib.atoiAll s.data.toList = .ok v)(w:World) :
  Calls Tryz.prog 147 #[.string s] w λe w'=>e = .returned (.tuple #[.int .i64 v,.nilIface])∧(w'=w∨∃t,w'=Lib.bytesWorld w 5 t):=Any.strconv_Atoi_ok Tryz.laysC172 s hmax v h w
open Go.RowKit in
theorem Tryz.strconv_Atoi_range_var (s : ByteArray) (hlim : s.size ≤ 281474976710656) (h : Lib.atoiAll s.data.toList = .range) (tp : TypeId) (p : Value) (w : World) (hvar : w.var? Tryz.prog "strconv.ErrRange" = some #[.iface tp p]) :
  Calls Tryz.prog 147 #[.string s] w λe w'=>∃N,e = .returned (.tuple #[.int .i64 (Lib.atoiSat s.data.toList),.iface 239 (.pointer (some ⟨N,0,none⟩))])∧w.heap.size≤N∧w'.heap[N]? =some (.cells #[.string ⟨#[65,116,111,105]⟩,.string s,.iface tp p] 261 (0,0))∧Below w.heap.size w w':=Any.strconv_Atoi_range_var Tryz.laysC172 s hlim h tp p w hvar
end Go.Proofs
namespace Go.Proofs.YtmjlemhondjfhaaGreatDoor
open Go Go.RowKit
set_option linter.unusedVariables false
noncomputable def L8:Nat:=Nat.max (Nat.max 3 2) 7+1
def AbQ:List Int:=Lib.deBruijn64tab.map Int.ofNat
structure S8 (w:World):Prop where
 pow : Lib.TabIs Tryz.prog w "internal/strconv.uint64pow10" .u64 Lib.pow10Tab
 tz : Lib.TabIs Tryz.prog w "math/bits.deBruijn64tab" .u8 AbQ
 rng : ∃ tp p, w.var? Tryz.prog "strconv.ErrRange" = some #[.iface tp p]
theorem AcU : Tryz.prog.globalNamed "internal/strconv.uint64pow10" = some 3 := by kernel_rfl
theorem AcT : Tryz.prog.globalNamed "strconv.ErrRange" = some 2 := by kernel_rfl
theorem gTz : Tryz.prog.globalNamed "math/bits.deBruijn64tab" = some 7 := by kernel_rfl
theorem Zv:7<L8:=by decide +kernel
theorem XD:3<L8:=by decide +kernel
theorem XC:2<L8:=by decide +kernel
theorem S8.block (w w':World)(h:∀k,k<L8→w'.heap[k]? =w.heap[k]?)(hT:S8 w):S8 w':=by
 obtain⟨tp,p,hr⟩:=hT.rng;have hp:=hT.pow;have hz:=hT.tz;unfold Lib.TabIs at hp hz;refine⟨?_,?_,tp,p,?_⟩
 ·unfold Lib.TabIs;unfold World.var? at hp ⊢;rw[AcU] at hp ⊢;simp only[Option.bind_some] at hp ⊢;rw[h _ XD];exact hp
 ·unfold Lib.TabIs;unfold World.var? at hz ⊢;rw[gTz] at hz ⊢;simp only[Option.bind_some] at hz ⊢;rw[h _ Zv];exact hz
 ·unfold World.var? at hr ⊢;rw[AcT] at hr ⊢;simp only[Option.bind_some] at hr ⊢;rw[h _ XC];exact hr
def Aaq (w:World)(M:List Nat):Prop:=L8≤w.heap.size∧∀k∈M,L8≤k
theorem S8.st {w0 w:World}{M:List Nat}{H:List Ent}(hT:S8 w0)(hG:Aaq w0 M)(hw:St w0 M H w):S8 w:=
 S8.block w0 w (λk hk=>hw.old k (Nat.lt_of_lt_of_le hk hG.1) (λhm=>by have:=hG.2 k hm;omega)) hT
theorem Aaq.nil {w:World}(h:L8≤w.heap.size):Aaq w []:=⟨h,by simp⟩
theorem Aaq.st {w0 w:World}{M:List Nat}{H:List Ent}(hG:Aaq w0 M)(hw:St w0 M H w):L8≤w.heap.size:=Nat.le_trans hG.1 hw.size
structure WU (w:World):Prop where
 tabs:S8 w
 size:L8≤w.heap.size
theorem WU.st {w0 w:World}{M:List Nat}{H:List Ent}(hE:WU w0)(hM:∀k∈M,L8≤k)(hw:St w0 M H w):WU w:=
 ⟨hE.tabs.st ⟨hE.size,hM⟩ hw,Nat.le_trans hE.size hw.size⟩
theorem WU.st0 {w0 w:World}{H:List Ent}(hE:WU w0)(hw:St w0 [] H w):WU w:=hE.st (by simp) hw
theorem VG (p:List UInt8):(B p).data.toList=p:=by simp[B]
theorem ZC (m:Int)(h0 : -9223372036854775808≤m)(h1:m≤9223372036854775807)(w:World)(hE:WU w):Calls Tryz.prog 122 [.int .i64 m].toArray w (I5 w (.string (B (Lib.itoa m)))):=
 (Tryz.strconv_Itoa m h0 h1 w hE.tabs.pow).mono λe w' ⟨he,k,os,hw⟩=>⟨he,by rw[hw];exact St.of_below (Lib.below_grow _ _ (Afm _) _ _)⟩
theorem AbH (p:List UInt8)(hp:p.length≤281474976710656)(v:Int)(h:Lib.atoiAll p = .ok v)(w:World):Calls Tryz.prog 147 [.string (B p)].toArray w (I5 w (.tuple #[.int .i64 v,.nilIface])):=
 (Tryz.strconv_Atoi_ok (B p) (by rw[DK];omega) v (by rw[VG];exact h) w).mono λe w' ⟨he,hw⟩=>⟨he,by
  rcases hw with rfl | ⟨t,rfl⟩
  ·exact St.refl _ _
  ·exact St.of_below (Joins.below_bytesWorld _ _ _ _ (Afm _))⟩
theorem VB (p:List UInt8)(hp:p.length≤281474976710656)(h:Lib.atoiAll p = .range)(w:World)(hE:WU w) :
  Calls Tryz.prog 147 [.string (B p)].toArray w (Ym w [] (λv H=>∃m t b,v = .tuple #[.int .i64 m,.iface t b]∧H=[])):=by
 obtain⟨tp,q,hr⟩:=hE.tabs.rng;exact(Tryz.strconv_Atoi_range_var (B p) (by rw[DK];omega) (by rw[VG];exact h) tp q w hr).mono λe w' ⟨N,he,_,_,hb⟩=>⟨_,_,he,St.of_below hb,_,_,_,rfl,rfl⟩
open Go Go.ChangeShapes Go.WideShapes Go.ChangeAt Go.RowKit Go.WideElems
theorem own:ownKnob Tryz.prog.godebug=none:=by kernel_rfl
theorem Abo:laidOutB Tryz.prog=true:=by kernel_rfl
section
variable {H : Type} {enc : TypeId × Value → H} {P : Program}
theorem Lx (hl:laidOutB P=true){W W':World}(hb:Below W.heap.size W W'){sp:Nat→Bool}:∀{ts:List TypeId} {vs:List Value} {ds:List (DataW H)} {ps:List MemPlace},ts.all (λt=>P.readableRec t&&decide (t<P.types.size))=true→
  DataW.TrodAll enc P W 0 (λ_=>true) true ts vs ds ps→(∀p∈ps,p.block<W.heap.size)→(∀p∈ps,sp p.block=true)→DataW.TrodAll enc P W' 0 sp true ts vs ds ps
 | [],[],[],_,_,h,_,_=>h
 | [],_::_,_,_,_,h,_,_=>h.elim
 | [],[],_::_,_,_,h,_,_=>h.elim
 | _::_,[],_,_,_,h,_,_=>h.elim
 | _::_,_::_,[],_,_,h,_,_=>h.elim
 | t::ts,v::vs,d::ds,ps,ht,⟨p,q,h1,h2,e⟩,hlt,hs=>by
  simp only[List.all_cons,AeI,AeH] at ht;refine⟨p,q,?_,Lx hl hb ht.2 h2 (λx hx=>hlt x (by rw[e];exact List.mem_append_right _ hx)) (λx hx=>hs x (by rw[e];exact List.mem_append_right _ hx)),e⟩;exact Trod_stays hl ht.1.1 ht.1.2 h1 (λx hx=>hb.same (hlt x (by rw[e];exact List.mem_append_left _ hx))) (λx hx=>hs x (by rw[e];exact List.mem_append_left _ hx))
theorem X5 (hl:laidOutB P=true){f:Func}{s:ChangeSpec}{apart fresh handsOn:Bool}{W W':World}{args:Array Value}{ds gs:List (DataW H)}{before:List MemPlace}{tb:TypeId}(hp:f.params.toList.all (λt=>P.readableRec t&&decide (t<P.types.size))=true)
  (hv:s.vars=[]) (hr:f.resultTypes = #[tb]) (hb4:P.underlying tb=some .bool) (hW:DataW.Whole enc P f.params.toList s.vars apart W args.toList ds gs before)
  (h1:(s.fn H (ds++gs)).results=[.lit (.bool true)]) (h2:(s.fn H (ds++gs)).args=ds) (h3:(s.fn H (ds++gs)).vars=[]) (hb:Below W.heap.size W W') :
  s.post enc P f apart fresh handsOn false W args (.bool true) W':=by
 have hlt:∀p∈before,p.block<W.heap.size:=λp hp=>hW.lt p hp;have hW':=hW;obtain⟨p,q,hA,hV,hbf,_,_⟩:=hW';have hq:q=[]:=by
  rw[hv] at hV
  cases gs with
  | nil=>exact hV
  | cons _ _=>exact hV.elim
 subst hq;rw[AfD] at hbf;subst hbf;refine⟨ds,gs,before,[],before,[],hW,?_,?_,?_,World.keptBut_mono (λp hp=>⟨hp,.inr (.inl hp)⟩) (hb.frame (·∈before)),λh=>by cases h⟩
 ·rw[h1,hr];exact trodAll_mk1 (shut_bool hb4 true)
 ·rw[h2];exact Lx hl hb hp hA hlt (λx hx=>by simpa using hlt x hx)
 ·rw[hv,h3];exact rfl
end
theorem V8:Tryz.prog.underlying 4=some .bool:=Tryz.underlying4
def PB : List (String × DataW Unit) := [("math/bits.deBruijn32tab", Rows.laid_math_bits_deBruijn32tab), ("math/bits.deBruijn64tab", Rows.laid_math_bits_deBruijn64tab), ("internal/strconv.uint64pow10", Rows.laid_internal_strconv_uint64pow10), ("unicode/utf8.acceptRanges", Rows.laid_unicode_utf8_acceptRanges), ("strconv.ErrRange", Rows.laid_strconv_ErrRange), ("strconv.ErrSyntax", Rows.laid_strconv_ErrSyntax), ("unicode/utf8.first", Rows.laid_unicode_utf8_first)]
theorem ZO:(Tryz.prog.globals[3]?).map (·.type)=some 266:=by kernel_rfl
theorem ZN:(Tryz.prog.globals[2]?).map (·.type)=some 198:=by kernel_rfl
theorem Yb:Tryz.prog.cellsOf 231=1:=by kernel_rfl
theorem Yc:Tryz.prog.cellsOf 266=20:=by kernel_rfl
theorem Ab4:(Tryz.prog.globals[7]?).map (·.type)=some 277:=by kernel_rfl
theorem Aab:Tryz.prog.cellsOf 5=1:=by kernel_rfl
theorem Uz:Tryz.prog.cellsOf 277=64:=by kernel_rfl
theorem Yd:Tryz.prog.cellsOf 9=1:=by kernel_rfl
theorem Aac:Tryz.prog.cellsOf 271=1:=by kernel_rfl
theorem WA : "*" ++ "errors.errorString" = "*errors.errorString" := by decide
theorem AcW (u : TypeId) (h : Tryz.prog.typeName? 3 u = some "*errors.errorString") : u = 269 :=
 typeName_ptr_named (nm := "errors.errorString") (by rw [WA]; kernel_rfl) (by kernel_rfl) (by decide) u (by rw [WA]; exact h)
theorem Sq {W:World}{n:String}{g:Nat}{cs:Array Value}(hg:Tryz.prog.globalNamed n=some g)(h:W.var? Tryz.prog n=some cs):g<W.heap.size:=by
 unfold World.var? at h;rw[hg] at h;simp only[Option.bind_some] at h
 cases hh:W.heap[g]? with
 | none=>rw[hh] at h;cases h
 | some o=>exact(Array.getElem?_eq_some_iff.1 hh).1
theorem AcX {W:World}(h:laidMet Tryz.prog PB W):WU W:=by
 have h2:=laidMet.tail h;have hz : Lib.TabIs Tryz.prog W "math/bits.deBruijn64tab" .u8 AbQ := Lib.tabIs_of_head gTz Ab4 Tryz.underlying277 Tryz.underlying5 Aab Uz h2
 have h3:=laidMet.tail h2;have h4:=laidMet.tail h3;have hp : Lib.TabIs Tryz.prog W "internal/strconv.uint64pow10" .u64 Lib.pow10Tab := Lib.tabIs_of_head AcU ZO Tryz.underlying266 Tryz.underlying231 Yb Yc h3
 obtain⟨a,s,hv,_,_,_⟩:=laid_sentinel (laidMet.tail h4) AcT ZN Tryz.underlying198 AcW Tryz.underlying269 Tryz.underlying271 rfl rfl Tryz.underlying9 Aac Yd;refine⟨⟨hp,hz,_,_,hv⟩,?_⟩;have h1:=Sq AcU hp;have h5:=Sq AcT hv;exact Nat.max_lt.2 ⟨Nat.max_lt.2 ⟨h1,h5⟩,Sq gTz hz⟩
noncomputable def La (os:Os):World:=
 let w0:=World.holding Tryz.prog os ⟨#[],#[],[]⟩
 let put (h:Array Obj) (g:Nat) (cs:Array Value):Array Obj:=h.modify g fun
  | .cells _ t frozen=>.cells cs t frozen
  | o=>o
 let nums (d:DataW Unit):Array Value:=match d with
  | .agg ds=>(ds.map fun | .lit (.int k n)=>Value.int k n | _=>undef).toArray
  | _=>#[]
 let nums2 (d:DataW Unit):Array Value:=match d with
  | .agg ds=>(ds.flatMap fun
   | .agg es=>es.map fun | .lit (.int k n)=>Value.int k n | _=>undef
   | _=>[]).toArray
  | _=>#[]
 let n:=w0.heap.size
 let h1:=put w0.heap 6 (nums Rows.laid_math_bits_deBruijn32tab)
 let h2:=put h1 7 (nums Rows.laid_math_bits_deBruijn64tab)
 let h3:=put h2 3 (nums Rows.laid_internal_strconv_uint64pow10)
 let h4:=put h3 2 #[.iface 269 (.pointer (some ⟨n,0,none⟩))]
 let h5:=put h4 1 #[.iface 269 (.pointer (some ⟨n+1,0,none⟩))]
 let h5a:=put h5 5 (nums2 Rows.laid_unicode_utf8_acceptRanges)
 let h5b:=put h5a 4 (nums Rows.laid_unicode_utf8_first)
 let h6:=h5b.push (.cells #[.string ⟨#[118,97,108,117,101,32,111,117,116,32,111,102,32,114,97,110,103,101]⟩] 271 (0,0))
 let h7:=h6.push (.cells #[.string ⟨#[105,110,118,97,108,105,100,32,115,121,110,116,97,120]⟩] 271 (0,0))
 { w0 with heap:=h7 }
set_option maxRecDepth 100000 in
theorem Z6 (os:Os)(args:Array Value):laidMet Tryz.prog PB ((La os).forCall (λ_ _=>0) ⟨#[],args,[]⟩).memory:=
 laidMet_of_run' 8 (by kernel_rfl) (by kernel_rfl)
set_option linter.unusedSimpArgs false
set_option maxRecDepth 100000
theorem VW (c:Int)(w:World):Calls Tryz.prog 135 [.int .i32 (c)].toArray w (I5 w (.bool (Cb c))):=by
 refine Ey (n:=9) Tryz.func135 rfl Tryz.ntmps135 rfl (Ak (Af (As (A0 rfl) rfl (Ah (Ar (AG ?_))))));refine A5 [(2,.bool (((decide ((97)≤(c)))&&(decide ((c)≤(122))))))] [] (φ:=True) ?_ (λhm1=>?_)
 ·refine Af (As (Am rfl) rfl (As (DP rfl rfl) rfl (As (Am rfl) rfl (AA (decide ((97)≤(c))) (λh1=>?_) (λh1=>?_)))))
  ·have g1:=h1;try simp only[AeH,AeG] at g1
   refine AL rfl rfl h1 (As (Am rfl) rfl (AL rfl rfl h1 (As (Hf rfl rfl) rfl (As (An rfl h1 rfl) rfl (As (A0 rfl) rfl (Ah ?_))))));exact Ar (Bt trivial ⟨fb (by simp[h1]),trivial⟩ .slnil)
  ·have g1:=h1;try simp only[AeH,AeG] at g1
   refine A2 rfl rfl h1 rfl (A2 rfl rfl h1 rfl (As (Ay rfl h1 rfl) rfl (As (A0 rfl) rfl (Ah ?_))));exact Ar (Bt trivial ⟨fb (by simp[h1]),trivial⟩ .slnil)
 refine Ap (Aq (B2 rfl rfl) ?_);exact EY (by first | rfl | simp[])
theorem WD (c:Int)(w:World):Calls Tryz.prog 136 [.int .i32 (c)].toArray w (I5 w (.bool (CC c))):=by
 refine Ey (n:=9) Tryz.func136 rfl Tryz.ntmps136 rfl (Ak (Af (As (A0 rfl) rfl (Ah (Ar (AG ?_))))));refine A5 [(2,.bool (((decide ((48)≤(c)))&&(decide ((c)≤(57))))))] [] (φ:=True) ?_ (λhm3=>?_)
 ·refine Af (As (Am rfl) rfl (As (DP rfl rfl) rfl (As (Am rfl) rfl (AA (decide ((48)≤(c))) (λh3=>?_) (λh3=>?_)))))
  ·have g3:=h3;try simp only[AeH,AeG] at g3
   refine AL rfl rfl h3 (As (Am rfl) rfl (AL rfl rfl h3 (As (Hf rfl rfl) rfl (As (An rfl h3 rfl) rfl (As (A0 rfl) rfl (Ah ?_))))));exact Ar (Bt trivial ⟨fb (by simp[h3]),trivial⟩ .slnil)
  ·have g3:=h3;try simp only[AeH,AeG] at g3
   refine A2 rfl rfl h3 rfl (A2 rfl rfl h3 rfl (As (Ay rfl h3 rfl) rfl (As (A0 rfl) rfl (Ah ?_))));exact Ar (Bt trivial ⟨fb (by simp[h3]),trivial⟩ .slnil)
 refine Ap (Aq (B2 rfl rfl) ?_);exact EY (by first | rfl | simp[])
theorem Z5 (c:Int)(w:World):Calls Tryz.prog 159 [.int .i32 (c)].toArray w (I5 w (.bool (CY c))):=by
 refine Ey (n:=37) Tryz.func159 rfl Tryz.ntmps159 rfl (Ak (Af (As (A0 rfl) rfl (Ah (Ar (AG ?_))))));refine A5 [(2,.bool (((Cb c)||((CC c)||(bif decide ((65)≤(c)) then((decide ((c)≤(90)))||((decide ((c)=(45)))||((decide ((c)=(95)))||((decide ((c)=(46)))||((decide ((c)=(58)))||(decide ((c)=(47)))))))) else((decide ((c)=(45)))||((decide ((c)=(95)))||((decide ((c)=(46)))||((decide ((c)=(58)))||(decide ((c)=(47))))))))))))] [] (φ:=True) ?_ (λhn=>?_)
 ·refine Af (As (Am rfl) rfl (Cf Tryz.call135 rfl (λw hw=>VW c w) rfl (As (Am rfl) rfl (AA (Cb c) (λh5=>?_) (λh5=>?_)))))
  ·have g5:=h5;try simp only[AeH,AeG] at g5
   refine A2 rfl rfl h5 rfl (A2 rfl rfl h5 rfl (As (An rfl h5 rfl) rfl (As (Am rfl) rfl (A2 rfl rfl rfl rfl (A2 rfl rfl rfl rfl (A2 rfl rfl rfl rfl (BY rfl rfl rfl (BY rfl rfl rfl (A2 rfl rfl rfl rfl (As (An rfl rfl rfl) rfl (As (Am rfl) rfl (A2 rfl rfl rfl rfl (A2 rfl rfl rfl rfl (As (An rfl rfl rfl) rfl (As (Am rfl) rfl (A2 rfl rfl rfl rfl (A2 rfl rfl rfl rfl (As (An rfl rfl rfl) rfl (As (Am rfl) rfl (A2 rfl rfl rfl rfl (A2 rfl rfl rfl rfl (As (An rfl rfl rfl) rfl (As (Am rfl) rfl ?_)))))))))))))))))))))));refine A2 rfl rfl rfl rfl (A2 rfl rfl rfl rfl (As (An rfl rfl rfl) rfl (As (Am rfl) rfl (A2 rfl rfl rfl rfl (A2 rfl rfl rfl rfl (As (An rfl rfl rfl) rfl (As (A0 rfl) rfl (Ah ?_))))))));exact Ar (Bt trivial ⟨fb (by simp[h5]),trivial⟩ .slnil)
  ·have g5:=h5;try simp only[AeH,AeG] at g5
   refine AL rfl rfl h5 (As (Am rfl) rfl (AL rfl rfl h5 (Cf Tryz.call136 rfl (λw hw=>WD c w) rfl (As (Ay rfl h5 rfl) rfl (As (Am rfl) rfl (AA (CC c) (λh6=>?_) (λh6=>?_)))))))
   ·have g6:=h6;try simp only[AeH,AeG] at g6
    refine A2 rfl rfl h6 rfl (A2 rfl rfl h6 rfl (A2 rfl rfl h6 rfl (BY rfl rfl rfl (BY rfl rfl rfl (A2 rfl rfl h6 rfl (As (An rfl h6 rfl) rfl (As (Am rfl) rfl (A2 rfl rfl rfl rfl (A2 rfl rfl rfl rfl (As (An rfl rfl rfl) rfl (As (Am rfl) rfl (A2 rfl rfl rfl rfl (A2 rfl rfl rfl rfl (As (An rfl rfl rfl) rfl (As (Am rfl) rfl (A2 rfl rfl rfl rfl (A2 rfl rfl rfl rfl (As (An rfl rfl rfl) rfl (As (Am rfl) rfl (A2 rfl rfl rfl rfl (A2 rfl rfl rfl rfl (As (An rfl rfl rfl) rfl (As (Am rfl) rfl ?_)))))))))))))))))))))));refine A2 rfl rfl rfl rfl (A2 rfl rfl rfl rfl (As (An rfl rfl rfl) rfl (As (A0 rfl) rfl (Ah ?_))));exact Ar (Bt trivial ⟨fb (by simp[h5,h6]),trivial⟩ .slnil)
   ·have g6:=h6;try simp only[AeH,AeG] at g6
    refine AL rfl rfl h6 (As (Am rfl) rfl (AL rfl rfl h6 (As (DP rfl rfl) rfl (AL rfl rfl h6 (As (Am rfl) rfl (AA (decide ((65)≤(c))) (λh7=>?_) (λh7=>?_)))))))
    ·have g7:=h7;try simp only[AeH,AeG] at g7
     refine AL rfl rfl h7 (As (Am rfl) rfl (AL rfl rfl h7 (As (Hf rfl rfl) rfl (AL rfl rfl h6 (As (An rfl h7 rfl) rfl (As (Ay rfl h6 rfl) rfl (As (Am rfl) rfl (AA (decide ((c)≤(90))) (λh8=>?_) (λh8=>?_)))))))))
     ·have g8:=h8;try simp only[AeH,AeG] at g8
      refine A2 rfl rfl h8 rfl (A2 rfl rfl h8 rfl (As (An rfl h8 rfl) rfl (As (Am rfl) rfl (A2 rfl rfl rfl rfl (A2 rfl rfl rfl rfl (As (An rfl rfl rfl) rfl (As (Am rfl) rfl (A2 rfl rfl rfl rfl (A2 rfl rfl rfl rfl (As (An rfl rfl rfl) rfl (As (Am rfl) rfl (A2 rfl rfl rfl rfl (A2 rfl rfl rfl rfl (As (An rfl rfl rfl) rfl (As (Am rfl) rfl (A2 rfl rfl rfl rfl (A2 rfl rfl rfl rfl (As (An rfl rfl rfl) rfl (As (A0 rfl) rfl (Ah ?_))))))))))))))))))));exact Ar (Bt trivial ⟨fb (by simp[h5,h6,h7,h8]),trivial⟩ .slnil)
     ·have g8:=h8;try simp only[AeH,AeG] at g8
      refine AL rfl rfl h8 (As (Am rfl) rfl (AL rfl rfl h8 (As (B7 rfl rfl) rfl (As (Ay rfl h8 rfl) rfl (As (Am rfl) rfl (AA (decide ((c)=(45))) (λh9=>?_) (λh9=>?_)))))))
      ·have g9:=h9;try simp only[AeH,AeG] at g9
       refine A2 rfl rfl h9 rfl (A2 rfl rfl h9 rfl (As (An rfl h9 rfl) rfl (As (Am rfl) rfl (A2 rfl rfl rfl rfl (A2 rfl rfl rfl rfl (As (An rfl rfl rfl) rfl (As (Am rfl) rfl (A2 rfl rfl rfl rfl (A2 rfl rfl rfl rfl (As (An rfl rfl rfl) rfl (As (Am rfl) rfl (A2 rfl rfl rfl rfl (A2 rfl rfl rfl rfl (As (An rfl rfl rfl) rfl (As (A0 rfl) rfl (Ah ?_))))))))))))))));exact Ar (Bt trivial ⟨fb (by simp[h5,h6,h7,h8,h9]),trivial⟩ .slnil)
      ·have g9:=h9;try simp only[AeH,AeG] at g9
       refine AL rfl rfl h9 (As (Am rfl) rfl (AL rfl rfl h9 (As (B7 rfl rfl) rfl (As (Ay rfl h9 rfl) rfl (As (Am rfl) rfl (AA (decide ((c)=(95))) (λhb=>?_) (λhb=>?_)))))))
       ·have hi:=hb;try simp only[AeH,AeG] at hi
        refine A2 rfl rfl hb rfl (A2 rfl rfl hb rfl (As (An rfl hb rfl) rfl (As (Am rfl) rfl (A2 rfl rfl rfl rfl (A2 rfl rfl rfl rfl (As (An rfl rfl rfl) rfl (As (Am rfl) rfl (A2 rfl rfl rfl rfl (A2 rfl rfl rfl rfl (As (An rfl rfl rfl) rfl (As (A0 rfl) rfl (Ah ?_))))))))))));exact Ar (Bt trivial ⟨fb (by simp[h5,h6,h7,h8,h9,hb]),trivial⟩ .slnil)
       ·have hi:=hb;try simp only[AeH,AeG] at hi
        refine AL rfl rfl hb (As (Am rfl) rfl (AL rfl rfl hb (As (B7 rfl rfl) rfl (As (Ay rfl hb rfl) rfl (As (Am rfl) rfl (AA (decide ((c)=(46))) (λhe=>?_) (λhe=>?_)))))))
        ·have hj:=he;try simp only[AeH,AeG] at hj
         refine A2 rfl rfl he rfl (A2 rfl rfl he rfl (As (An rfl he rfl) rfl (As (Am rfl) rfl (A2 rfl rfl rfl rfl (A2 rfl rfl rfl rfl (As (An rfl rfl rfl) rfl (As (A0 rfl) rfl (Ah ?_))))))));exact Ar (Bt trivial ⟨fb (by simp[h5,h6,h7,h8,h9,hb,he]),trivial⟩ .slnil)
        ·have hj:=he;try simp only[AeH,AeG] at hj
         refine AL rfl rfl he (As (Am rfl) rfl (AL rfl rfl he (As (B7 rfl rfl) rfl (As (Ay rfl he rfl) rfl (As (Am rfl) rfl (AA (decide ((c)=(58))) (λhg=>?_) (λhg=>?_)))))))
         ·have hk:=hg;try simp only[AeH,AeG] at hk
          refine A2 rfl rfl hg rfl (A2 rfl rfl hg rfl (As (An rfl hg rfl) rfl (As (A0 rfl) rfl (Ah ?_))));exact Ar (Bt trivial ⟨fb (by simp[h5,h6,h7,h8,h9,hb,he,hg]),trivial⟩ .slnil)
         ·have hk:=hg;try simp only[AeH,AeG] at hk
          refine AL rfl rfl hg (As (Am rfl) rfl (AL rfl rfl hg (As (B7 rfl rfl) rfl (As (Ay rfl hg rfl) rfl (As (A0 rfl) rfl (Ah ?_))))));exact Ar (Bt trivial ⟨fb (by simp[h5,h6,h7,h8,h9,hb,he,hg]),trivial⟩ .slnil)
    ·have g7:=h7;try simp only[AeH,AeG] at g7
     refine A2 rfl rfl h7 rfl (A2 rfl rfl h7 rfl (AL rfl rfl h6 (As (Ay rfl h7 rfl) rfl (As (Ay rfl h6 rfl) rfl (As (Am rfl) rfl (AL rfl rfl rfl (As (Am rfl) rfl (AL rfl rfl rfl (As (B7 rfl rfl) rfl (As (Ay rfl rfl rfl) rfl (As (Am rfl) rfl (AA (decide ((c)=(45))) (λha=>?_) (λha=>?_)))))))))))))
     ·have hl:=ha;try simp only[AeH,AeG] at hl
      refine A2 rfl rfl ha rfl (A2 rfl rfl ha rfl (As (An rfl ha rfl) rfl (As (Am rfl) rfl (A2 rfl rfl rfl rfl (A2 rfl rfl rfl rfl (As (An rfl rfl rfl) rfl (As (Am rfl) rfl (A2 rfl rfl rfl rfl (A2 rfl rfl rfl rfl (As (An rfl rfl rfl) rfl (As (Am rfl) rfl (A2 rfl rfl rfl rfl (A2 rfl rfl rfl rfl (As (An rfl rfl rfl) rfl (As (A0 rfl) rfl (Ah ?_))))))))))))))));exact Ar (Bt trivial ⟨fb (by simp[h5,h6,h7,ha]),trivial⟩ .slnil)
     ·have hl:=ha;try simp only[AeH,AeG] at hl
      refine AL rfl rfl ha (As (Am rfl) rfl (AL rfl rfl ha (As (B7 rfl rfl) rfl (As (Ay rfl ha rfl) rfl (As (Am rfl) rfl (AA (decide ((c)=(95))) (λhd=>?_) (λhd=>?_)))))))
      ·have hm:=hd;try simp only[AeH,AeG] at hm
       refine A2 rfl rfl hd rfl (A2 rfl rfl hd rfl (As (An rfl hd rfl) rfl (As (Am rfl) rfl (A2 rfl rfl rfl rfl (A2 rfl rfl rfl rfl (As (An rfl rfl rfl) rfl (As (Am rfl) rfl (A2 rfl rfl rfl rfl (A2 rfl rfl rfl rfl (As (An rfl rfl rfl) rfl (As (A0 rfl) rfl (Ah ?_))))))))))));exact Ar (Bt trivial ⟨fb (by simp[h5,h6,h7,ha,hd]),trivial⟩ .slnil)
      ·have hm:=hd;try simp only[AeH,AeG] at hm
       refine AL rfl rfl hd (As (Am rfl) rfl (AL rfl rfl hd (As (B7 rfl rfl) rfl (As (Ay rfl hd rfl) rfl (As (Am rfl) rfl (AA (decide ((c)=(46))) (λhf=>?_) (λhf=>?_)))))))
       ·have g15:=hf;try simp only[AeH,AeG] at g15
        refine A2 rfl rfl hf rfl (A2 rfl rfl hf rfl (As (An rfl hf rfl) rfl (As (Am rfl) rfl (A2 rfl rfl rfl rfl (A2 rfl rfl rfl rfl (As (An rfl rfl rfl) rfl (As (A0 rfl) rfl (Ah ?_))))))));exact Ar (Bt trivial ⟨fb (by simp[h5,h6,h7,ha,hd,hf]),trivial⟩ .slnil)
       ·have g15:=hf;try simp only[AeH,AeG] at g15
        refine AL rfl rfl hf (As (Am rfl) rfl (AL rfl rfl hf (As (B7 rfl rfl) rfl (As (Ay rfl hf rfl) rfl (As (Am rfl) rfl (AA (decide ((c)=(58))) (λhh=>?_) (λhh=>?_)))))))
        ·have g16:=hh;try simp only[AeH,AeG] at g16
         refine A2 rfl rfl hh rfl (A2 rfl rfl hh rfl (As (An rfl hh rfl) rfl (As (A0 rfl) rfl (Ah ?_))));exact Ar (Bt trivial ⟨fb (by simp[h5,h6,h7,ha,hd,hf,hh]),trivial⟩ .slnil)
        ·have g16:=hh;try simp only[AeH,AeG] at g16
         refine AL rfl rfl hh (As (Am rfl) rfl (AL rfl rfl hh (As (B7 rfl rfl) rfl (As (Ay rfl hh rfl) rfl (As (A0 rfl) rfl (Ah ?_))))));exact Ar (Bt trivial ⟨fb (by simp[h5,h6,h7,ha,hd,hf,hh]),trivial⟩ .slnil)
 refine Ap (Aq (B2 rfl rfl) ?_);exact EY (by simp only[CY];by_cases h:65≤c<;>simp[h,Bool.or_assoc])
theorem R4 (c:Int)(w:World):Calls Tryz.prog 148 [.int .u8 (c)].toArray w (I5 w (.bool (Cb c))):=by
 refine Ey (n:=9) Tryz.func148 rfl Tryz.ntmps148 rfl (Ak (Af (As (A0 rfl) rfl (Ah (Ar (AG ?_))))));refine A5 [(2,.bool (((decide ((97)≤(c)))&&(decide ((c)≤(122))))))] [] (φ:=True) ?_ (λhb=>?_)
 ·refine Af (As (Am rfl) rfl (As (DP rfl rfl) rfl (As (Am rfl) rfl (AA (decide ((97)≤(c))) (λha=>?_) (λha=>?_)))))
  ·have g18:=ha;try simp only[AeH,AeG] at g18
   refine AL rfl rfl ha (As (Am rfl) rfl (AL rfl rfl ha (As (Hf rfl rfl) rfl (As (An rfl ha rfl) rfl (As (A0 rfl) rfl (Ah ?_))))));exact Ar (Bt trivial ⟨fb (by simp[ha]),trivial⟩ .slnil)
  ·have g18:=ha;try simp only[AeH,AeG] at g18
   refine A2 rfl rfl ha rfl (A2 rfl rfl ha rfl (As (Ay rfl ha rfl) rfl (As (A0 rfl) rfl (Ah ?_))));exact Ar (Bt trivial ⟨fb (by simp[ha]),trivial⟩ .slnil)
 refine Ap (Aq (B2 rfl rfl) ?_);exact EY (by first | rfl | simp[])
theorem Ss (c:Int)(w:World):Calls Tryz.prog 149 [.int .u8 (c)].toArray w (I5 w (.bool (CC c))):=by
 refine Ey (n:=9) Tryz.func149 rfl Tryz.ntmps149 rfl (Ak (Af (As (A0 rfl) rfl (Ah (Ar (AG ?_))))));refine A5 [(2,.bool (((decide ((48)≤(c)))&&(decide ((c)≤(57))))))] [] (φ:=True) ?_ (λhd=>?_)
 ·refine Af (As (Am rfl) rfl (As (DP rfl rfl) rfl (As (Am rfl) rfl (AA (decide ((48)≤(c))) (λha=>?_) (λha=>?_)))))
  ·have hb:=ha;try simp only[AeH,AeG] at hb
   refine AL rfl rfl ha (As (Am rfl) rfl (AL rfl rfl ha (As (Hf rfl rfl) rfl (As (An rfl ha rfl) rfl (As (A0 rfl) rfl (Ah ?_))))));exact Ar (Bt trivial ⟨fb (by simp[ha]),trivial⟩ .slnil)
  ·have hb:=ha;try simp only[AeH,AeG] at hb
   refine A2 rfl rfl ha rfl (A2 rfl rfl ha rfl (As (Ay rfl ha rfl) rfl (As (A0 rfl) rfl (Ah ?_))));exact Ar (Bt trivial ⟨fb (by simp[ha]),trivial⟩ .slnil)
 refine Ap (Aq (B2 rfl rfl) ?_);exact EY (by first | rfl | simp[])
theorem Ac1 (c:Int)(w:World):Calls Tryz.prog 177 [.int .u8 (c)].toArray w (I5 w (.bool (CY c))):=by
 refine Ey (n:=37) Tryz.func177 rfl Tryz.ntmps177 rfl (Ak (Af (As (A0 rfl) rfl (Ah (Ar (AG ?_))))));refine A5 [(2,.bool (((Cb c)||(bif decide ((65)≤(c)) then((decide ((c)≤(90)))||((CC c)||((decide ((c)=(45)))||((decide ((c)=(95)))||((decide ((c)=(46)))||((decide ((c)=(58)))||(decide ((c)=(47))))))))) else((CC c)||((decide ((c)=(45)))||((decide ((c)=(95)))||((decide ((c)=(46)))||((decide ((c)=(58)))||(decide ((c)=(47))))))))))))] [] (φ:=True) ?_ (λh3=>?_)
 ·refine Af (As (Am rfl) rfl (Cf Tryz.call148 rfl (λw hw=>R4 c w) rfl (As (Am rfl) rfl (AA (Cb c) (λha=>?_) (λha=>?_)))))
  ·have ho:=ha;try simp only[AeH,AeG] at ho
   refine A2 rfl rfl ha rfl (A2 rfl rfl ha rfl (A2 rfl rfl ha rfl (BY rfl rfl rfl (BY rfl rfl rfl (A2 rfl rfl ha rfl (As (An rfl ha rfl) rfl (As (Am rfl) rfl (A2 rfl rfl rfl rfl (A2 rfl rfl rfl rfl (As (An rfl rfl rfl) rfl (As (Am rfl) rfl (A2 rfl rfl rfl rfl (A2 rfl rfl rfl rfl (As (An rfl rfl rfl) rfl (As (Am rfl) rfl (A2 rfl rfl rfl rfl (A2 rfl rfl rfl rfl (As (An rfl rfl rfl) rfl (As (Am rfl) rfl (A2 rfl rfl rfl rfl (A2 rfl rfl rfl rfl (As (An rfl rfl rfl) rfl (As (Am rfl) rfl ?_)))))))))))))))))))))));refine A2 rfl rfl rfl rfl (A2 rfl rfl rfl rfl (As (An rfl rfl rfl) rfl (As (Am rfl) rfl (A2 rfl rfl rfl rfl (A2 rfl rfl rfl rfl (As (An rfl rfl rfl) rfl (As (A0 rfl) rfl (Ah ?_))))))));exact Ar (Bt trivial ⟨fb (by simp[ha]),trivial⟩ .slnil)
  ·have ho:=ha;try simp only[AeH,AeG] at ho
   refine AL rfl rfl ha (As (Am rfl) rfl (AL rfl rfl ha (As (DP rfl rfl) rfl (AL rfl rfl ha (As (Am rfl) rfl (AA (decide ((65)≤(c))) (λhb=>?_) (λhb=>?_)))))))
   ·have hp:=hb;try simp only[AeH,AeG] at hp
    refine AL rfl rfl hb (As (Am rfl) rfl (AL rfl rfl hb (As (Hf rfl rfl) rfl (AL rfl rfl ha (As (An rfl hb rfl) rfl (As (Ay rfl ha rfl) rfl (As (Am rfl) rfl (AA (decide ((c)≤(90))) (λhd=>?_) (λhd=>?_)))))))))
    ·have hq:=hd;try simp only[AeH,AeG] at hq
     refine A2 rfl rfl hd rfl (A2 rfl rfl hd rfl (As (An rfl hd rfl) rfl (As (Am rfl) rfl (A2 rfl rfl rfl rfl (A2 rfl rfl rfl rfl (As (An rfl rfl rfl) rfl (As (Am rfl) rfl (A2 rfl rfl rfl rfl (A2 rfl rfl rfl rfl (As (An rfl rfl rfl) rfl (As (Am rfl) rfl (A2 rfl rfl rfl rfl (A2 rfl rfl rfl rfl (As (An rfl rfl rfl) rfl (As (Am rfl) rfl (A2 rfl rfl rfl rfl (A2 rfl rfl rfl rfl (As (An rfl rfl rfl) rfl (As (Am rfl) rfl (A2 rfl rfl rfl rfl (A2 rfl rfl rfl rfl (As (An rfl rfl rfl) rfl (As (A0 rfl) rfl ?_)))))))))))))))))))))));refine Ah ?_;exact Ar (Bt trivial ⟨fb (by simp[ha,hb,hd]),trivial⟩ .slnil)
    ·have hq:=hd;try simp only[AeH,AeG] at hq
     refine AL rfl rfl hd (As (Am rfl) rfl (AL rfl rfl hd (Cf SR rfl (λw hw=>Ss c w) rfl (As (Ay rfl hd rfl) rfl (As (Am rfl) rfl (AA (CC c) (λhe=>?_) (λhe=>?_)))))))
     ·have hr:=he;try simp only[AeH,AeG] at hr
      refine A2 rfl rfl he rfl (A2 rfl rfl he rfl (As (An rfl he rfl) rfl (As (Am rfl) rfl (A2 rfl rfl rfl rfl (A2 rfl rfl rfl rfl (As (An rfl rfl rfl) rfl (As (Am rfl) rfl (A2 rfl rfl rfl rfl (A2 rfl rfl rfl rfl (As (An rfl rfl rfl) rfl (As (Am rfl) rfl (A2 rfl rfl rfl rfl (A2 rfl rfl rfl rfl (As (An rfl rfl rfl) rfl (As (Am rfl) rfl (A2 rfl rfl rfl rfl (A2 rfl rfl rfl rfl (As (An rfl rfl rfl) rfl (As (A0 rfl) rfl (Ah ?_))))))))))))))))))));exact Ar (Bt trivial ⟨fb (by simp[ha,hb,hd,he]),trivial⟩ .slnil)
     ·have hr:=he;try simp only[AeH,AeG] at hr
      refine AL rfl rfl he (As (Am rfl) rfl (AL rfl rfl he (As (B7 rfl rfl) rfl (As (Ay rfl he rfl) rfl (As (Am rfl) rfl (AA (decide ((c)=(45))) (λhg=>?_) (λhg=>?_)))))))
      ·have hs:=hg;try simp only[AeH,AeG] at hs
       refine A2 rfl rfl hg rfl (A2 rfl rfl hg rfl (As (An rfl hg rfl) rfl (As (Am rfl) rfl (A2 rfl rfl rfl rfl (A2 rfl rfl rfl rfl (As (An rfl rfl rfl) rfl (As (Am rfl) rfl (A2 rfl rfl rfl rfl (A2 rfl rfl rfl rfl (As (An rfl rfl rfl) rfl (As (Am rfl) rfl (A2 rfl rfl rfl rfl (A2 rfl rfl rfl rfl (As (An rfl rfl rfl) rfl (As (A0 rfl) rfl (Ah ?_))))))))))))))));exact Ar (Bt trivial ⟨fb (by simp[ha,hb,hd,he,hg]),trivial⟩ .slnil)
      ·have hs:=hg;try simp only[AeH,AeG] at hs
       refine AL rfl rfl hg (As (Am rfl) rfl (AL rfl rfl hg (As (B7 rfl rfl) rfl (As (Ay rfl hg rfl) rfl (As (Am rfl) rfl (AA (decide ((c)=(95))) (λhi=>?_) (λhi=>?_)))))))
       ·have ht:=hi;try simp only[AeH,AeG] at ht
        refine A2 rfl rfl hi rfl (A2 rfl rfl hi rfl (As (An rfl hi rfl) rfl (As (Am rfl) rfl (A2 rfl rfl rfl rfl (A2 rfl rfl rfl rfl (As (An rfl rfl rfl) rfl (As (Am rfl) rfl (A2 rfl rfl rfl rfl (A2 rfl rfl rfl rfl (As (An rfl rfl rfl) rfl (As (A0 rfl) rfl (Ah ?_))))))))))));exact Ar (Bt trivial ⟨fb (by simp[ha,hb,hd,he,hg,hi]),trivial⟩ .slnil)
       ·have ht:=hi;try simp only[AeH,AeG] at ht
        refine AL rfl rfl hi (As (Am rfl) rfl (AL rfl rfl hi (As (B7 rfl rfl) rfl (As (Ay rfl hi rfl) rfl (As (Am rfl) rfl (AA (decide ((c)=(46))) (λhk=>?_) (λhk=>?_)))))))
        ·have hu:=hk;try simp only[AeH,AeG] at hu
         refine A2 rfl rfl hk rfl (A2 rfl rfl hk rfl (As (An rfl hk rfl) rfl (As (Am rfl) rfl (A2 rfl rfl rfl rfl (A2 rfl rfl rfl rfl (As (An rfl rfl rfl) rfl (As (A0 rfl) rfl (Ah ?_))))))));exact Ar (Bt trivial ⟨fb (by simp[ha,hb,hd,he,hg,hi,hk]),trivial⟩ .slnil)
        ·have hu:=hk;try simp only[AeH,AeG] at hu
         refine AL rfl rfl hk (As (Am rfl) rfl (AL rfl rfl hk (As (B7 rfl rfl) rfl (As (Ay rfl hk rfl) rfl (As (Am rfl) rfl (AA (decide ((c)=(58))) (λhm=>?_) (λhm=>?_)))))))
         ·have hx:=hm;try simp only[AeH,AeG] at hx
          refine A2 rfl rfl hm rfl (A2 rfl rfl hm rfl (As (An rfl hm rfl) rfl (As (A0 rfl) rfl (Ah ?_))));exact Ar (Bt trivial ⟨fb (by simp[ha,hb,hd,he,hg,hi,hk,hm]),trivial⟩ .slnil)
         ·have hx:=hm;try simp only[AeH,AeG] at hx
          refine AL rfl rfl hm (As (Am rfl) rfl (AL rfl rfl hm (As (B7 rfl rfl) rfl (As (Ay rfl hm rfl) rfl (As (A0 rfl) rfl (Ah ?_))))));exact Ar (Bt trivial ⟨fb (by simp[ha,hb,hd,he,hg,hi,hk,hm]),trivial⟩ .slnil)
   ·have hp:=hb;try simp only[AeH,AeG] at hp
    refine A2 rfl rfl hb rfl (A2 rfl rfl hb rfl (AL rfl rfl ha (As (Ay rfl hb rfl) rfl (As (Ay rfl ha rfl) rfl (As (Am rfl) rfl (AL rfl rfl rfl (As (Am rfl) rfl (AL rfl rfl rfl (Cf SR rfl (λw hw=>Ss c w) rfl (As (Ay rfl rfl rfl) rfl (As (Am rfl) rfl (AA (CC c) (λhf=>?_) (λhf=>?_)))))))))))))
    ·have hy:=hf;try simp only[AeH,AeG] at hy
     refine A2 rfl rfl hf rfl (A2 rfl rfl hf rfl (As (An rfl hf rfl) rfl (As (Am rfl) rfl (A2 rfl rfl rfl rfl (A2 rfl rfl rfl rfl (As (An rfl rfl rfl) rfl (As (Am rfl) rfl (A2 rfl rfl rfl rfl (A2 rfl rfl rfl rfl (As (An rfl rfl rfl) rfl (As (Am rfl) rfl (A2 rfl rfl rfl rfl (A2 rfl rfl rfl rfl (As (An rfl rfl rfl) rfl (As (Am rfl) rfl (A2 rfl rfl rfl rfl (A2 rfl rfl rfl rfl (As (An rfl rfl rfl) rfl (As (A0 rfl) rfl (Ah ?_))))))))))))))))))));exact Ar (Bt trivial ⟨fb (by simp[ha,hb,hf]),trivial⟩ .slnil)
    ·have hy:=hf;try simp only[AeH,AeG] at hy
     refine AL rfl rfl hf (As (Am rfl) rfl (AL rfl rfl hf (As (B7 rfl rfl) rfl (As (Ay rfl hf rfl) rfl (As (Am rfl) rfl (AA (decide ((c)=(45))) (λhh=>?_) (λhh=>?_)))))))
     ·have hz:=hh;try simp only[AeH,AeG] at hz
      refine A2 rfl rfl hh rfl (A2 rfl rfl hh rfl (As (An rfl hh rfl) rfl (As (Am rfl) rfl (A2 rfl rfl rfl rfl (A2 rfl rfl rfl rfl (As (An rfl rfl rfl) rfl (As (Am rfl) rfl (A2 rfl rfl rfl rfl (A2 rfl rfl rfl rfl (As (An rfl rfl rfl) rfl (As (Am rfl) rfl (A2 rfl rfl rfl rfl (A2 rfl rfl rfl rfl (As (An rfl rfl rfl) rfl (As (A0 rfl) rfl (Ah ?_))))))))))))))));exact Ar (Bt trivial ⟨fb (by simp[ha,hb,hf,hh]),trivial⟩ .slnil)
     ·have hz:=hh;try simp only[AeH,AeG] at hz
      refine AL rfl rfl hh (As (Am rfl) rfl (AL rfl rfl hh (As (B7 rfl rfl) rfl (As (Ay rfl hh rfl) rfl (As (Am rfl) rfl (AA (decide ((c)=(95))) (λhj=>?_) (λhj=>?_)))))))
      ·have h0:=hj;try simp only[AeH,AeG] at h0
       refine A2 rfl rfl hj rfl (A2 rfl rfl hj rfl (As (An rfl hj rfl) rfl (As (Am rfl) rfl (A2 rfl rfl rfl rfl (A2 rfl rfl rfl rfl (As (An rfl rfl rfl) rfl (As (Am rfl) rfl (A2 rfl rfl rfl rfl (A2 rfl rfl rfl rfl (As (An rfl rfl rfl) rfl (As (A0 rfl) rfl (Ah ?_))))))))))));exact Ar (Bt trivial ⟨fb (by simp[ha,hb,hf,hh,hj]),trivial⟩ .slnil)
      ·have h0:=hj;try simp only[AeH,AeG] at h0
       refine AL rfl rfl hj (As (Am rfl) rfl (AL rfl rfl hj (As (B7 rfl rfl) rfl (As (Ay rfl hj rfl) rfl (As (Am rfl) rfl (AA (decide ((c)=(46))) (λhl=>?_) (λhl=>?_)))))))
       ·have h1:=hl;try simp only[AeH,AeG] at h1
        refine A2 rfl rfl hl rfl (A2 rfl rfl hl rfl (As (An rfl hl rfl) rfl (As (Am rfl) rfl (A2 rfl rfl rfl rfl (A2 rfl rfl rfl rfl (As (An rfl rfl rfl) rfl (As (A0 rfl) rfl (Ah ?_))))))));exact Ar (Bt trivial ⟨fb (by simp[ha,hb,hf,hh,hj,hl]),trivial⟩ .slnil)
       ·have h1:=hl;try simp only[AeH,AeG] at h1
        refine AL rfl rfl hl (As (Am rfl) rfl (AL rfl rfl hl (As (B7 rfl rfl) rfl (As (Ay rfl hl rfl) rfl (As (Am rfl) rfl (AA (decide ((c)=(58))) (λhn=>?_) (λhn=>?_)))))))
        ·have h2:=hn;try simp only[AeH,AeG] at h2
         refine A2 rfl rfl hn rfl (A2 rfl rfl hn rfl (As (An rfl hn rfl) rfl (As (A0 rfl) rfl (Ah ?_))));exact Ar (Bt trivial ⟨fb (by simp[ha,hb,hf,hh,hj,hl,hn]),trivial⟩ .slnil)
        ·have h2:=hn;try simp only[AeH,AeG] at h2
         refine AL rfl rfl hn (As (Am rfl) rfl (AL rfl rfl hn (As (B7 rfl rfl) rfl (As (Ay rfl hn rfl) rfl (As (A0 rfl) rfl (Ah ?_))))));exact Ar (Bt trivial ⟨fb (by simp[ha,hb,hf,hh,hj,hl,hn]),trivial⟩ .slnil)
 refine Ap (Aq (B2 rfl rfl) ?_);exact EY (by simp[CY];grind)
theorem Aa7 (m:Int)(w:World):Calls Tryz.prog 142 [.int .i64 (m)].toArray w (I5 w (.bool (Ig m))):=by
 refine Ey (n:=9) Tryz.func142 rfl Tryz.ntmps142 rfl (Ak (Af (As (A0 rfl) rfl (Ah (Ar (AG ?_))))));refine A5 [(2,.bool (((decide ((-1000000000000)≤(m)))&&(decide ((m)≤(1000000000000))))))] [] (φ:=True) ?_ (λhd=>?_)
 ·refine Af (As (Am rfl) rfl (As (Hf rfl rfl) rfl (As (Am rfl) rfl (AA (decide ((-1000000000000)≤(m))) (λha=>?_) (λha=>?_)))))
  ·have hb:=ha;try simp only[AeH,AeG] at hb
   refine AL rfl rfl ha (As (Am rfl) rfl (AL rfl rfl ha (As (Hf rfl rfl) rfl (As (An rfl ha rfl) rfl (As (A0 rfl) rfl (Ah ?_))))));exact Ar (Bt trivial ⟨fb (by first | (simp only[ha,AeP,AeT,Afb,AeS,AeX,AeV,Afa,AeY,AeL,AeU,AeW,AeM,Afn,Afh,reduceIte,AeK];done) | simp[ha]),trivial⟩ .slnil)
  ·have hb:=ha;try simp only[AeH,AeG] at hb
   refine A2 rfl rfl ha rfl (A2 rfl rfl ha rfl (As (Ay rfl ha rfl) rfl (As (A0 rfl) rfl (Ah ?_))));exact Ar (Bt trivial ⟨fb (by first | (simp only[ha,AeP,AeT,Afb,AeS,AeX,AeV,Afa,AeY,AeL,AeU,AeW,AeM,Afn,Afh,reduceIte,AeK];done) | simp[ha]),trivial⟩ .slnil)
 refine Ap (Aq (B2 rfl rfl) ?_);exact EY (by first | rfl | simp[])
theorem Ac8 (p:List UInt8)(w:World):Calls Tryz.prog 85 [.string (B p)].toArray w (I5 w (.bool (Cv p))):=by
 refine Ey (n:=39) Tryz.func85 rfl Tryz.ntmps85 rfl (Ak (Af (As (A0 rfl) rfl (Ah (Ar (AG ?_))))));refine Ak (Ak (Af (As (Am rfl) rfl (QA C4 rfl rfl (λhh=>?_)))));refine Ah (Ar (AG ?_));refine A6 (HK (S:=Nat) (λ(k:Nat)=>k≤p.length∧Bh DI 0 p=Bh DI k (p.drop k)) (λ(k:Nat)=>[(0,.string (B (p))),(2,.bool (false)),(6,.pointer (some ⟨hh,0,none⟩))]) (λ(k:Nat)=>[.blk hh (.stringIter (B p) (k))]) (λ(k:Nat)=>p.length-k) (0) ?_ ⟨rfl,rfl,rfl,trivial⟩ (.cons_cons _ (.slnil)) ?_)
 ·exact⟨Afv _,by simp⟩
 rintro k hi0;refine Ak (Af (SW (i:=0) rfl rfl rfl (λhend=>?_) (λhr hd hp hq hlu39 hhu39 hwu39=>?_)))
 ·refine As (A7 rfl rfl) rfl (Ah (Ar (AG ?_)));refine Ak (CS rfl rfl (Bn (Av (Av (AW (Ar (AG ?_)))))));refine A5 [(2,.bool (((decide ((1)≤((p.length:Int))))&&(decide (((p.length:Int))≤(24))))))] [.blk hh (.stringIter (B p) (k))] (φ:=True) ?_ (λhs=>?_)
  ·refine Af (As (Am rfl) rfl (As (B0 C4 rfl) rfl (As (DP rfl rfl) rfl (As (Am rfl) rfl (AA (decide ((1)≤((p.length:Int)))) (λhe=>?_) (λhe=>?_))))))
   ·have hj:=he;try simp only[AeH,AeG] at hj
    refine AL rfl rfl he (As (Am rfl) rfl (AL rfl rfl he (As (B0 C4 rfl) rfl (AL rfl rfl he (As (Hf rfl rfl) rfl (As (An rfl he rfl) rfl (As (A0 rfl) rfl (Ah ?_))))))));exact Ar (Bt trivial ⟨fb (by first | (simp only[he,AeP,AeT,Afb,AeS,AeX,AeV,Afa,AeY,AeL,AeU,AeW,AeM,Afn,Afh,reduceIte,AeK];done) | simp[he]),trivial⟩ (.cons_cons _ (.slnil)))
   ·have hj:=he;try simp only[AeH,AeG] at hj
    refine A2 rfl rfl he rfl (A2 rfl rfl he rfl (A2 rfl rfl he rfl (As (Ay rfl he rfl) rfl (As (A0 rfl) rfl (Ah ?_)))));exact Ar (Bt trivial ⟨fb (by first | (simp only[he,AeP,AeT,Afb,AeS,AeX,AeV,Afa,AeY,AeL,AeU,AeW,AeM,Afn,Afh,reduceIte,AeK];done) | simp[he]),trivial⟩ (.cons_cons _ (.slnil)))
  refine Ap (Aq (B2 rfl rfl) ?_);exact EY (by rw[Zs hi0 hend])
 ·refine As (A7 rfl rfl) rfl (Ah (Ar (AG ?_)));refine Ak (D7 rfl rfl (Aw (Ar (AG ?_))));refine A6 (Ak (Af (As (A7 rfl rfl) rfl (As (A7 rfl rfl) rfl (As (A0 rfl) rfl (As (A0 rfl) rfl (Ah (Ar (AG ?_)))))))));refine A5 [(0,.string (B (p))),(2,.bool (false)),(3,.int .i64 ((k:Int))),(4,.int .i32 ((hd:Int))),(6,.pointer (some ⟨hh,0,none⟩)),(7,.tuple #[.bool (true),.int .i64 ((k:Int)),.int .i32 ((hd:Int))]),(8,.bool (true)),(9,.int .i64 ((k:Int))),(10,.int .i32 ((hd:Int))),(11,.int .i32 ((hd:Int))),(12,.bool (Cb (hd:Int))),(13,.bool (!(Cb (hd:Int)))),(14,.bool (!(Cb (hd:Int)))),(30,.bool (((!(Cb (hd:Int)))&&((decide (((k:Int))=(0)))||((!(CC (hd:Int)))&&((!(decide (((hd:Int))=(45))))&&(!(decide (((hd:Int))=(95))))))))))] [.blk hh (.stringIter (B p) (k+hp))] (φ:=True) ?_ (λht=>?_)
  ·refine Af (As (Am rfl) rfl (Cf Tryz.call135 rfl (λw hw=>VW (hd:Int) w) rfl (As (BO rfl) rfl (As (Am rfl) rfl (AA (!(Cb (hd:Int))) (λhb=>?_) (λhb=>?_))))))
   ·have hk:=hb;try simp only[AeH,AeG] at hk
    refine AL rfl rfl hb (As (Am rfl) rfl (AL rfl rfl hb (As (B7 rfl rfl) rfl (AL rfl rfl hb (As (Am rfl) rfl (AA (decide (((k:Int))=(0))) (λha=>?_) (λha=>?_)))))))
    ·have hl:=ha;try simp only[AeH,AeG] at hl
     refine A2 rfl rfl ha rfl (A2 rfl rfl ha rfl (A2 rfl rfl ha rfl (A2 rfl rfl ha rfl (BY rfl rfl rfl (BY rfl rfl rfl (A2 rfl rfl ha rfl (A2 rfl rfl ha rfl (BY rfl rfl rfl (BY rfl rfl rfl (A2 rfl rfl ha rfl (AL rfl rfl hb (As (An rfl ha rfl) rfl (As (An rfl hb rfl) rfl (Ah ?_))))))))))))));exact Ar (Bt trivial ⟨rfl,rfl,rfl,rfl,rfl,rfl,rfl,rfl,rfl,rfl,rfl,rfl,rfl,fb (by first | (simp only[hb,ha,AeP,AeT,Afb,AeS,AeX,AeV,Afa,AeY,AeL,AeU,AeW,AeM,Afn,Afh,reduceIte,AeK];done) | simp[hb,ha]),trivial⟩ (.cons_cons _ (.slnil)))
    ·have hl:=ha;try simp only[AeH,AeG] at hl
     refine AL rfl rfl ha (As (Am rfl) rfl (AL rfl rfl ha (Cf Tryz.call136 rfl (λw hw=>WD (hd:Int) w) rfl (AL rfl rfl ha (As (BO rfl) rfl (AL rfl rfl ha (As (Am rfl) rfl (AA (!(CC (hd:Int))) (λhf=>?_) (λhf=>?_)))))))))
     ·have hm:=hf;try simp only[AeH,AeG] at hm
      refine AL rfl rfl hf (As (Am rfl) rfl (AL rfl rfl hf (As (CH rfl rfl) rfl (AL rfl rfl ha (As (An rfl hf rfl) rfl (AL rfl rfl ha (As (Am rfl) rfl (AA (!(decide (((hd:Int))=(45)))) (λhg=>?_) (λhg=>?_)))))))))
      ·have hn:=hg;try simp only[AeH,AeG] at hn
       refine AL rfl rfl hg (As (Am rfl) rfl (AL rfl rfl hg (As (CH rfl rfl) rfl (AL rfl rfl ha (As (An rfl hg rfl) rfl (AL rfl rfl hb (As (Ay rfl ha rfl) rfl (As (An rfl hb rfl) rfl (Ah ?_)))))))));exact Ar (Bt trivial ⟨rfl,rfl,rfl,rfl,rfl,rfl,rfl,rfl,rfl,rfl,rfl,rfl,rfl,fb (by first | (simp only[hb,ha,hf,hg,AeP,AeT,Afb,AeS,AeX,AeV,Afa,AeY,AeL,AeU,AeW,AeM,Afn,Afh,reduceIte,AeK];done) | simp[hb,ha,hf,hg]),trivial⟩ (.cons_cons _ (.slnil)))
      ·have hn:=hg;try simp only[AeH,AeG] at hn
       refine A2 rfl rfl hg rfl (A2 rfl rfl hg rfl (AL rfl rfl ha (As (Ay rfl hg rfl) rfl (AL rfl rfl hb (As (Ay rfl ha rfl) rfl (As (An rfl hb rfl) rfl (Ah ?_)))))));exact Ar (Bt trivial ⟨rfl,rfl,rfl,rfl,rfl,rfl,rfl,rfl,rfl,rfl,rfl,rfl,rfl,fb (by first | (simp only[hb,ha,hf,hg,AeP,AeT,Afb,AeS,AeX,AeV,Afa,AeY,AeL,AeU,AeW,AeM,Afn,Afh,reduceIte,AeK];done) | simp[hb,ha,hf,hg]),trivial⟩ (.cons_cons _ (.slnil)))
     ·have hm:=hf;try simp only[AeH,AeG] at hm
      refine A2 rfl rfl hf rfl (A2 rfl rfl hf rfl (AL rfl rfl ha (As (Ay rfl hf rfl) rfl (AL rfl rfl ha (As (Am rfl) rfl (A2 rfl rfl rfl rfl (A2 rfl rfl rfl rfl (AL rfl rfl ha (As (Ay rfl rfl rfl) rfl (AL rfl rfl hb (As (Ay rfl ha rfl) rfl (As (An rfl hb rfl) rfl (Ah ?_)))))))))))));exact Ar (Bt trivial ⟨rfl,rfl,rfl,rfl,rfl,rfl,rfl,rfl,rfl,rfl,rfl,rfl,rfl,fb (by first | (simp only[hb,ha,hf,AeP,AeT,Afb,AeS,AeX,AeV,Afa,AeY,AeL,AeU,AeW,AeM,Afn,Afh,reduceIte,AeK];done) | simp[hb,ha,hf]),trivial⟩ (.cons_cons _ (.slnil)))
   ·have hk:=hb;try simp only[AeH,AeG] at hk
    refine A2 rfl rfl hb rfl (A2 rfl rfl hb rfl (A2 rfl rfl hb rfl (BY rfl rfl rfl (BY rfl rfl rfl (BY rfl rfl rfl (BY rfl rfl rfl (BY rfl rfl rfl (BY rfl rfl rfl (BY rfl rfl rfl (BY rfl rfl rfl (BY rfl rfl rfl (BY rfl rfl rfl (BY rfl rfl rfl (A2 rfl rfl hb rfl (As (Ay rfl hb rfl) rfl (Ah ?_))))))))))))))));exact Ar (Bt trivial ⟨rfl,rfl,rfl,rfl,rfl,rfl,rfl,rfl,rfl,rfl,rfl,rfl,rfl,fb (by first | (simp only[hb,AeP,AeT,Afb,AeS,AeX,AeV,Afa,AeY,AeL,AeU,AeW,AeM,Afn,Afh,reduceIte,AeK];done) | simp[hb]),trivial⟩ (.cons_cons _ (.slnil)))
  refine C1 (b:=((!(Cb (hd:Int)))&&((decide (((k:Int))=(0)))||((!(CC (hd:Int)))&&((!(decide (((hd:Int))=(45))))&&(!(decide (((hd:Int))=(95))))))))) rfl (λhi=>?_) (λhi=>?_)
  ·have ho:=hi;try simp only[AeH,AeG] at ho
   refine Ak (Af (As (A0 rfl) rfl (Ah (Ar (AG ?_)))));refine Ap (A3 (Ab (A3 (Ab (Aq (B2 rfl rfl) ?_)))));exact EY (by rw[Abd hi0 hq hlu39 hhu39 hi])
  ·have ho:=hi;try simp only[AeH,AeG] at ho
   refine Aw (AB (Ar (AC (k+hp) ?_ ⟨rfl,rfl,rfl,trivial⟩ (.cons_cons _ (.slnil)))));exact XB hi0 hq hlu39 hhu39 hi
theorem Aet (p:List UInt8)(w:World):Calls Tryz.prog 115 [.string (B p)].toArray w (I5 w (.bool (Jq p))):=by
 refine Ey (n:=21) Tryz.func115 rfl Tryz.ntmps115 rfl (Ak (Af (As (A0 rfl) rfl (Ah (Ar (AG ?_))))));refine Ak (Ak (Af (As (Am rfl) rfl (QA C4 rfl rfl (λhd=>?_)))));refine Ah (Ar (AG ?_));refine A6 (HK (S:=Nat) (λ(k:Nat)=>k≤p.length∧Bh Jr 0 p=Bh Jr k (p.drop k)) (λ(k:Nat)=>[(0,.string (B (p))),(2,.bool (false)),(6,.pointer (some ⟨hd,0,none⟩))]) (λ(k:Nat)=>[.blk hd (.stringIter (B p) (k))]) (λ(k:Nat)=>p.length-k) (0) ?_ ⟨rfl,rfl,rfl,trivial⟩ (.cons_cons _ (.slnil)) ?_)
 ·exact⟨Afv _,by simp⟩
 rintro k hi0;refine Ak (Af (SW (i:=0) rfl rfl rfl (λhend=>?_) (λhj hg hi hh hlu51 hhu51 hwu51=>?_)))
 ·refine As (A7 rfl rfl) rfl (Ah (Ar (AG ?_)));refine Ak (CS rfl rfl (Bn (Av (Av (AW (Ar (AG ?_)))))));refine A5 [(2,.bool (((decide ((1)≤((p.length:Int))))&&(decide (((p.length:Int))≤(64))))))] [.blk hd (.stringIter (B p) (k))] (φ:=True) ?_ (λhk=>?_)
  ·refine Af (As (Am rfl) rfl (As (B0 C4 rfl) rfl (As (DP rfl rfl) rfl (As (Am rfl) rfl (AA (decide ((1)≤((p.length:Int)))) (λha=>?_) (λha=>?_))))))
   ·have he:=ha;try simp only[AeH,AeG] at he
    refine AL rfl rfl ha (As (Am rfl) rfl (AL rfl rfl ha (As (B0 C4 rfl) rfl (AL rfl rfl ha (As (Hf rfl rfl) rfl (As (An rfl ha rfl) rfl (As (A0 rfl) rfl (Ah ?_))))))));exact Ar (Bt trivial ⟨fb (by first | (simp only[ha,AeP,AeT,Afb,AeS,AeX,AeV,Afa,AeY,AeL,AeU,AeW,AeM,Afn,Afh,reduceIte,AeK];done) | simp[ha]),trivial⟩ (.cons_cons _ (.slnil)))
   ·have he:=ha;try simp only[AeH,AeG] at he
    refine A2 rfl rfl ha rfl (A2 rfl rfl ha rfl (A2 rfl rfl ha rfl (As (Ay rfl ha rfl) rfl (As (A0 rfl) rfl (Ah ?_)))));exact Ar (Bt trivial ⟨fb (by first | (simp only[ha,AeP,AeT,Afb,AeS,AeX,AeV,Afa,AeY,AeL,AeU,AeW,AeM,Afn,Afh,reduceIte,AeK];done) | simp[ha]),trivial⟩ (.cons_cons _ (.slnil)))
  refine Ap (Aq (B2 rfl rfl) ?_);exact EY (by rw[AcO hi0 hend])
 ·refine As (A7 rfl rfl) rfl (Ah (Ar (AG ?_)));refine Ak (D7 rfl rfl (Aw (Ar (AG ?_))));refine A6 (Ak (Af (As (A7 rfl rfl) rfl (As (A0 rfl) rfl (Ah (Ar (AG ?_)))))));refine Ak (Af (As (Am rfl) rfl (Cf Tryz.call159 rfl (λw hw=>Z5 (hg:Int) w) rfl (As (BO rfl) rfl (Ah (Ar (AG ?_)))))));refine C1 (b:=!(CY (hg:Int))) rfl (λhb=>?_) (λhb=>?_)
  ·have hf:=hb;try simp only[AeH,AeG] at hf
   refine Ak (Af (As (A0 rfl) rfl (Ah (Ar (AG ?_)))));refine Ap (A3 (Ab (A3 (Ab (Aq (B2 rfl rfl) ?_)))));exact EY (by rw[AdH hi0 hh hlu51 hhu51 hb])
  ·have hf:=hb;try simp only[AeH,AeG] at hf
   refine Aw (AB (Ar (AC (k+hi) ?_ ⟨rfl,rfl,rfl,trivial⟩ (.cons_cons _ (.slnil)))));exact Abz hi0 hh hlu51 hhu51 hb
open Go
def N2 (p q:List UInt8):Bool:=decide (q.length≤p.length)&&decide (p.take q.length=q)
def D4 (p q:List UInt8):Bool:=decide (q.length≤p.length)&&decide (p.drop (p.length-q.length)=q)
def J9 (p q:List UInt8):List UInt8:=if D4 p q=true then p.take (p.length-q.length) else p
theorem Vw {p q:List UInt8}(h:D4 p q=true):q.length≤p.length:=by
 simp[D4] at h;exact h.1
theorem N1 (p:List UInt8)(c:UInt8) : -1≤Lib.indexByte p c∧Lib.indexByte p c<p.length:=by
 induction p with
 | nil=>simp[Lib.indexByte]
 | cons b r ih=>
  unfold Lib.indexByte;simp only[AeZ]
  split
  ·omega
  ·split<;>omega
def V6 (p:List UInt8)(c:UInt8):List UInt8:=if 0≤Lib.indexByte p c then p.take (Lib.indexByte p c).toNat else p
def Su (p:List UInt8)(c:UInt8):List UInt8:=if 0≤Lib.indexByte p c then p.drop (Lib.indexByte p c+1).toNat else[]
def AbB (p:List UInt8)(c:UInt8):Bool:=decide (0≤Lib.indexByte p c)
theorem TV (p:List UInt8)(m:Int)(w:World):Calls Tryz.prog 207 [.string (B (p)),.int .u8 (m)].toArray w (I5 w (.int .i64 (Lib.indexByte p (Int.toNat m).toUInt8))):=by
 refine Ey (n:=8) Tryz.func207 rfl Tryz.ntmps207 rfl (Ak (Af (As (A0 rfl) rfl (Ah (Ar (AG ?_))))));refine Ak (Af (As (Am rfl) rfl (As (Am rfl) rfl (As (v:=.int .i64 (Lib.indexByte p (Int.toNat (m)).toUInt8)) (Ad4 rfl (Qv Tryz.func231 (by kernel_rfl) (by kernel_rfl) (by kernel_rfl) (by kernel_rfl) p (m))) rfl (As (A0 rfl) rfl (Ah (Ar (AG ?_))))))));refine Ap (Aq (B2 rfl rfl) ?_);exact EY (by first | rfl | simp[])
def I4 (p:List UInt8):Bool:=decide ((0:Int)<p.length)&&decide (BK p 0=45)
def ES (p:List UInt8):List UInt8:=if I4 p=true then p.drop 1 else p
theorem PP (p:List UInt8):(ES p).length≤p.length:=by unfold ES;split<;>simp
def Eu (_:Nat)(u:UInt8):Bool:=!(decide ((u.toNat:Int)<48)||decide (57<(u.toNat:Int)))
def H9 (p:List UInt8):Bool:=!(decide (ES p=[])||(decide (BK (ES p) 0=48)&&!decide (p=[48])))&&Bh Eu 0 (ES p)
theorem Dt {p:List UInt8}(h : ¬ p=[]):(0:Int)<p.length:=by
 cases p with
 | nil=>exact absurd rfl h
 | cons a r=>simp
theorem GC {p:List UInt8}{k:Nat}(h:(k:Int)<p.length):∃u,p[k]? =some u:=⟨p[k]'(by omega),AeN (by omega)⟩
theorem Uu {p:List UInt8}{k:Nat}(hi:k≤p.length∧Bh Eu 0 p=Bh Eu k (p.drop k))(h:(k:Int)<p.length)(ht:(decide (BK p k<48)||decide (57<BK p k))=false) :
  (k+1≤p.length∧Bh Eu 0 p=Bh Eu (k+1) (p.drop (k+1)))∧p.length-(k+1)<p.length-k:=by
 obtain⟨u,hu⟩:=GC h;rw[JQ hu] at ht;exact Pj hi hu (by simp only[Eu,ht];rfl)
theorem ZZ {p:List UInt8}{k:Nat}(hi:k≤p.length∧Bh Eu 0 p=Bh Eu k (p.drop k))(h:(k:Int)<p.length)(ht:(decide (BK p k<48)||decide (57<BK p k))=true):Bh Eu 0 p=false:=by
 obtain⟨u,hu⟩:=GC h;rw[JQ hu] at ht;exact UX hi hu (by simp only[Eu,ht];rfl)
theorem WE {p:List UInt8}{k:Nat}(hi:k≤p.length∧Bh Eu 0 p=Bh Eu k (p.drop k))(h : ¬ (k:Int)<p.length):Bh Eu 0 p=true:=RA hi (by omega)
def Cq (p:List UInt8):Int:=if H9 p=true then(match Lib.atoiAll p with | .ok v=>if Ig v=true then 0 else 2 | _=>2) else 1
def B6 (p:List UInt8):Int:=if H9 p=true then(match Lib.atoiAll p with | .ok v=>if Ig v=true then v else 0 | _=>0) else 0
theorem PQ:∀(l:List UInt8) (i acc:Nat),Bh Eu i l=true→(∃u,Lib.parseUint10 acc l = .ok u)∨Lib.parseUint10 acc l = .range
 | [],_,acc,_=>.inl ⟨acc,rfl⟩
 | c::r,i,acc,h=>by
  simp only[Bh,AeI] at h;have hc:48≤c.toNat∧c.toNat≤57:=by have:=h.1;simp[Eu] at this;omega
  unfold Lib.parseUint10;rw[Af6 hc]
  split
  ·exact .inr rfl
  ·split
   ·exact .inr rfl
   ·exact PQ r _ _ h.2
theorem Ws {l:List UInt8}(hne:l≠[])(h:Bh Eu 0 l=true):(∃u,Lib.parseMag l = .ok u)∨Lib.parseMag l = .range:=by
 unfold Lib.parseMag;rw[Afz hne];exact PQ l 0 0 h
theorem R5 {e:Lib.NumEnd Nat}(h:(∃u,e = .ok u)∨e = .range):(∃v,Lib.signless e = .ok v)∨Lib.signless e = .range:=by
 rcases h with⟨u,rfl⟩ | rfl
 ·unfold Lib.signless
  by_cases h:9223372036854775808≤u
  ·exact .inr (by simp[h])
  ·exact .inl ⟨_,by simp[h];rfl⟩
 ·exact .inr rfl
theorem UT {e:Lib.NumEnd Nat}(h:(∃u,e = .ok u)∨e = .range):(∃v,Lib.signed e = .ok v)∨Lib.signed e = .range:=by
 rcases h with⟨u,rfl⟩ | rfl
 ·unfold Lib.signed
  by_cases h:9223372036854775808<u
  ·exact .inr (by simp[h])
  ·exact .inl ⟨_,by simp[h];rfl⟩
 ·exact .inr rfl
theorem Aal {p:List UInt8}(h:H9 p=true):(∃v,Lib.atoiAll p = .ok v∧-9223372036854775808≤v∧v≤9223372036854775807)∨Lib.atoiAll p = .range:=by
 have key:(∃v,Lib.atoiAll p = .ok v)∨Lib.atoiAll p = .range:=by
  simp only[H9,AeI,Afe,Afg,AeG] at h;obtain⟨⟨hne,_⟩,hall⟩:=h
  cases p with
  | nil=>simp[ES,I4] at hne
  | cons c r=>
   by_cases hc:c=45
   ·subst hc;have hd:ES (45::r)=r:=by simp[ES,I4,BK]
    rw[hd] at hne hall;rw[Lib.atoiAll_minus];exact UT (Ws hne hall)
   ·have hb : ¬ BK (c::r) 0=45:=by
     simp only[BK,Int.toNat_zero,List.getElem?_cons_zero,Afq];intro e;exact hc (UInt8.toNat_inj.1 (by simpa using(by omega:c.toNat=45)))
    have hd:ES (c::r)=c::r:=by simp[ES,I4,hb]
    rw[hd] at hne hall;have ha:48≤c.toNat:=by
     simp only[Bh,AeI] at hall;have:=hall.1;simp[Eu] at this;omega
    rw[Lib.atoiAll_plain c r (by omega) (by omega)];exact R5 (Ws hne hall)
 rcases key with⟨v,hv⟩ | h
 ·exact .inl ⟨v,hv,Lib.atoiAll_bounds hv⟩
 ·exact .inr h
def HN (s:List UInt8):Bool:=Jq s||(decide (s=[42])||(Jq (J9 s [42])&&(D4 s [42]&&decide ((s.length:Int)≤64))))
def JK (p s:List UInt8):Bool:=HN p&&(bif D4 p [42] then N2 s (J9 p [42]) else decide (p=s))
theorem XZ (p:List UInt8)(hp:p.length≤281474976710656)(w:World):Calls Tryz.prog 146 [.string (B (p))].toArray w (I5 w (.bool (H9 p))):=by
 refine Ey (n:=43) Tryz.func146 rfl Tryz.ntmps146 rfl (Ak (Af (As (A0 rfl) rfl (Ah (Ar (AG ?_))))));refine Ak (Af (As (Am rfl) rfl (As (A0 rfl) rfl (Ah (Ar (AG ?_))))));refine A5 [(0,.string (B (p))),(2,.bool (false)),(3,.string (B ((if ((decide ((0)<((p.length:Int))))&&(decide ((BK p 0)=(45))))=true then List.drop (Int.toNat (1)) p else p))))] [] (φ:=True) ?_ (λh1=>?_)
 ·refine A5 [(0,.string (B (p))),(2,.bool (false)),(3,.string (B (p))),(13,.bool (((decide ((0)<((p.length:Int))))&&(decide ((BK p 0)=(45))))))] [] (φ:=True) ?_ (λh2=>?_)
  ·refine Af (As (Am rfl) rfl (As (B0 C4 rfl) rfl (As (Dc rfl rfl) rfl (As (Am rfl) rfl (AA (decide ((0)<((p.length:Int)))) (λhd=>?_) (λhd=>?_))))))
   ·have hk:=hd;try simp only[AeH,AeG] at hk
    have hl:=hd;try simp at hl
    refine AL rfl rfl hd (As (Am rfl) rfl (AL rfl rfl hd (As (B3 C4 rfl rfl (by first | omega | exact Dt (by assumption)) (by first | omega | exact Dt (by assumption))) rfl (AL rfl rfl hd (As (B7 rfl rfl) rfl (As (An rfl hd rfl) rfl (Ah ?_)))))));exact Ar (Bt trivial ⟨rfl,rfl,rfl,fb (by first | (simp only[hd,AeP,AeT,Afb,AeS,AeX,AeV,Afa,AeY,AeL,AeU,AeW,AeM,Afn,Afh,reduceIte,AeK];done) | simp[hd]),trivial⟩ .slnil)
   ·have hk:=hd;try simp only[AeH,AeG] at hk
    have hl:=hd;try simp at hl
    refine A2 rfl rfl hd rfl (A2 rfl rfl hd rfl (A2 rfl rfl hd rfl (As (Ay rfl hd rfl) rfl (Ah ?_))));exact Ar (Bt trivial ⟨rfl,rfl,rfl,fb (by first | (simp only[hd,AeP,AeT,Afb,AeS,AeX,AeV,Afa,AeY,AeL,AeU,AeW,AeM,Afn,Afh,reduceIte,AeK];done) | simp[hd]),trivial⟩ .slnil)
  refine C1 (b:=((decide ((0)<((p.length:Int))))&&(decide ((BK p 0)=(45))))) rfl (λhg=>?_) (λhg=>?_)
  ·have hm:=hg;try simp only[AeH,AeG] at hm
   have hn:=hg;try simp at hn
   refine Af (As (Am rfl) rfl (As (DG C4 rfl rfl (by first | omega | (simp;omega)) (by first | omega | (simp;omega))) rfl (As (A0 rfl) rfl (Ah ?_))));exact Ar (Bt trivial ⟨rfl,rfl,fs (by first | (simp only[hg,AeP,AeT,Afb,AeS,AeX,AeV,Afa,AeY,AeL,AeU,AeW,AeM,Afn,Afh,reduceIte,AeK];done) | simp[hg]),trivial⟩ .slnil)
  ·have hm:=hg;try simp only[AeH,AeG] at hm
   have hn:=hg;try simp at hn
   refine Aw ?_;exact Ar (Bt trivial ⟨rfl,rfl,fs (by first | (simp only[hg,AeP,AeT,Afb,AeS,AeX,AeV,Afa,AeY,AeL,AeU,AeW,AeM,Afn,Afh,reduceIte,AeK];done) | simp[hg]),trivial⟩ .slnil)
 have hdg:ES p=(if ((decide ((0)<((p.length:Int))))&&(decide ((BK p 0)=(45))))=true then List.drop (Int.toNat (1)) p else p):=rfl;have hdl:=PP p;rw[hdg] at hdl;generalize(if ((decide ((0)<((p.length:Int))))&&(decide ((BK p 0)=(45))))=true then List.drop (Int.toNat (1)) p else p)=dg at hdg hdl ⊢;refine Ak (A5 [(2,.bool (false)),(3,.string (B (dg))),(26,.bool (((decide ((dg)=(([]:List UInt8))))||((decide ((BK dg 0)=(48)))&&(!(decide ((p)=(([48]:List UInt8)))))))))] [] (φ:=True) ?_ (λh3=>?_))
 ·refine Af (As (Am rfl) rfl (As (BQ rfl rfl) rfl (As (Am rfl) rfl (AA (decide ((dg)=(([]:List UInt8)))) (λha=>?_) (λha=>?_)))))
  ·have ho:=ha;try simp only[AeH,AeG] at ho
   have hq:=ha;try simp at hq
   refine A2 rfl rfl ha rfl (A2 rfl rfl ha rfl (A2 rfl rfl ha rfl (A2 rfl rfl ha rfl (BY rfl rfl rfl (BY rfl rfl rfl (A2 rfl rfl ha rfl (As (An rfl ha rfl) rfl (Ah ?_))))))));exact Ar (Bt trivial ⟨rfl,rfl,fb (by first | (simp only[ha,AeP,AeT,Afb,AeS,AeX,AeV,Afa,AeY,AeL,AeU,AeW,AeM,Afn,Afh,reduceIte,AeK];done) | simp[ha]),trivial⟩ .slnil)
  ·have ho:=ha;try simp only[AeH,AeG] at ho
   have hq:=ha;try simp at hq
   refine AL rfl rfl ha (As (Am rfl) rfl (AL rfl rfl ha (As (B3 C4 rfl rfl (by first | omega | exact Dt (by assumption)) (by first | omega | exact Dt (by assumption))) rfl (AL rfl rfl ha (As (B7 rfl rfl) rfl (AL rfl rfl ha (As (Am rfl) rfl (AA (decide ((BK dg 0)=(48))) (λhe=>?_) (λhe=>?_)))))))))
   ·have hr:=he;try simp only[AeH,AeG] at hr
    have hs:=he;try simp at hs
    refine AL rfl rfl he (As (Am rfl) rfl (AL rfl rfl he (As (M4 rfl rfl) rfl (AL rfl rfl ha (As (An rfl he rfl) rfl (As (Ay rfl ha rfl) rfl (Ah ?_)))))));exact Ar (Bt trivial ⟨rfl,rfl,fb (by first | (simp only[ha,he,AeP,AeT,Afb,AeS,AeX,AeV,Afa,AeY,AeL,AeU,AeW,AeM,Afn,Afh,reduceIte,AeK];done) | simp[ha,he]),trivial⟩ .slnil)
   ·have hr:=he;try simp only[AeH,AeG] at hr
    have hs:=he;try simp at hs
    refine A2 rfl rfl he rfl (A2 rfl rfl he rfl (AL rfl rfl ha (As (Ay rfl he rfl) rfl (As (Ay rfl ha rfl) rfl (Ah ?_)))));exact Ar (Bt trivial ⟨rfl,rfl,fb (by first | (simp only[ha,he,AeP,AeT,Afb,AeS,AeX,AeV,Afa,AeY,AeL,AeU,AeW,AeM,Afn,Afh,reduceIte,AeK];done) | simp[ha,he]),trivial⟩ .slnil)
 refine C1 (b:=((decide ((dg)=(([]:List UInt8))))||((decide ((BK dg 0)=(48)))&&(!(decide ((p)=(([48]:List UInt8)))))))) rfl (λhf=>?_) (λhf=>?_)
 ·have ht:=hf;try simp only[AeH,AeG] at ht
  have hu:=hf;try simp at hu
  refine Ak (Af (As (A0 rfl) rfl (Ah (Ar (AG ?_)))));refine Ap (Ab (Aq (B2 rfl rfl) ?_));exact EY (by simp only[H9,hdg,hf];rfl)
 ·have ht:=hf;try simp only[AeH,AeG] at ht
  have hu:=hf;try simp at hu
  refine Aw (Ar (AG ?_));refine Ak (Ak (Af (As (Am rfl) rfl (As (B0 C4 rfl) rfl (As (Am rfl) rfl (Ah (Ar (AG ?_))))))));refine A6 (HK (S:=Nat) (λ(k:Nat)=>k≤dg.length∧Bh Eu 0 dg=Bh Eu k (dg.drop k)) (λ(k:Nat)=>[(29,.int .i64 ((k:Int))),(3,.string (B (dg))),(28,.int .i64 ((dg.length:Int)))]) (λ(k:Nat)=>[]) (λ(k:Nat)=>dg.length-k) (0) ?_ ⟨fi (by first | rfl | (simp;done) | omega | (simp;omega)),rfl,rfl,trivial⟩ .slnil ?_)
  ·exact⟨Afv _,by simp⟩
  rintro k hi0;refine Ak (Af (As (Ci rfl rfl) rfl (Ah (Ar (AG ?_)))));refine Ak (C1 (b:=decide (((k:Int))<((dg.length:Int)))) rfl (λhh=>?_) (λhh=>?_))
  ·have hj:=hh;try simp only[AeH,AeG] at hj
   have hw:=hh;try simp at hw
   refine Aw (Ar (AG ?_));refine Ak (A6 (Ak (Af (As (Am rfl) rfl (As (A0 rfl) rfl (Ah (Ar (AG ?_))))))));refine A5 [(3,.string (B (dg))),(4,.int .i64 ((k:Int))),(28,.int .i64 ((dg.length:Int))),(29,.int .i64 ((k:Int))),(30,.bool (decide (((k:Int))<((dg.length:Int))))),(31,.int .i64 ((k:Int))),(32,.string (B (dg))),(33,.int .i64 ((k:Int))),(34,.int .u8 (BK dg (k:Int))),(35,.bool (decide ((BK dg (k:Int))<(48)))),(36,.bool (decide ((BK dg (k:Int))<(48)))),(41,.bool (((decide ((BK dg (k:Int))<(48)))||(decide ((57)<(BK dg (k:Int)))))))] [] (φ:=True) ?_ (λh4=>?_)
   ·refine Af (As (Am rfl) rfl (As (Am rfl) rfl (As (B3 C4 rfl rfl (by first | omega | exact Dt (by assumption)) (by first | omega | exact Dt (by assumption))) rfl (As (Ci rfl rfl) rfl (As (Am rfl) rfl (AA (decide ((BK dg (k:Int))<(48))) (λhb=>?_) (λhb=>?_)))))))
    ·have hx:=hb;try simp only[AeH,AeG] at hx
     have hy:=hb;try simp at hy
     refine A2 rfl rfl hb rfl (A2 rfl rfl hb rfl (A2 rfl rfl hb rfl (A2 rfl rfl hb rfl (As (An rfl hb rfl) rfl (Ah ?_)))));exact Ar (Bt trivial ⟨rfl,rfl,rfl,rfl,rfl,rfl,rfl,rfl,rfl,rfl,rfl,fb (by first | (simp only[hf,hh,hb,AeP,AeT,Afb,AeS,AeX,AeV,Afa,AeY,AeL,AeU,AeW,AeM,Afn,Afh,reduceIte,AeK];done) | simp[hf,hh,hb]),trivial⟩ .slnil)
    ·have hx:=hb;try simp only[AeH,AeG] at hx
     have hy:=hb;try simp at hy
     refine AL rfl rfl hb (As (Am rfl) rfl (AL rfl rfl hb (As (Am rfl) rfl (AL rfl rfl hb (As (B3 C4 rfl rfl (by first | omega | exact Dt (by assumption)) (by first | omega | exact Dt (by assumption))) rfl (AL rfl rfl hb (As (Dc rfl rfl) rfl (As (Ay rfl hb rfl) rfl (Ah ?_)))))))));exact Ar (Bt trivial ⟨rfl,rfl,rfl,rfl,rfl,rfl,rfl,rfl,rfl,rfl,rfl,fb (by first | (simp only[hf,hh,hb,AeP,AeT,Afb,AeS,AeX,AeV,Afa,AeY,AeL,AeU,AeW,AeM,Afn,Afh,reduceIte,AeK];done) | simp[hf,hh,hb]),trivial⟩ .slnil)
   refine C1 (b:=((decide ((BK dg (k:Int))<(48)))||(decide ((57)<(BK dg (k:Int)))))) rfl (λhi=>?_) (λhi=>?_)
   ·have hz:=hi;try simp only[AeH,AeG] at hz
    have h0:=hi;try simp at h0
    refine Ak (Af (As (A0 rfl) rfl (Ah (Ar (AG ?_)))));refine Ap (A3 (Ab (Ab (A3 (Ab (Aq (B2 rfl rfl) ?_))))));exact EY (by simp[H9,hdg,ZZ hi0 hj hi])
   ·have hz:=hi;try simp only[AeH,AeG] at hz
    have h0:=hi;try simp at h0
    refine Aw (AB (Ar (AG ?_)));refine Af (As (By rfl rfl (IntWalk.i64_in _ (by omega))) rfl (As (Am rfl) rfl (Ah (Ar (AC (k+1) ?_ ⟨fi (by first | rfl | (simp;done) | omega | (simp;omega)),rfl,rfl,trivial⟩ .slnil)))));exact Uu hi0 hj hi
  ·have hj:=hh;try simp only[AeH,AeG] at hj
   have hw:=hh;try simp at hw
   refine Bn (Av (Av (AW (Ar (AG ?_)))));refine Ak (Af (As (A0 rfl) rfl (Ah (Ar (AG ?_)))));refine Ap (Aq (B2 rfl rfl) ?_);exact EY (by simp only[H9,hdg,hf,WE hi0 hj];rfl)
theorem ZR (m:Int)(h0 : -9223372036854775808≤m)(h1:m≤9223372036854775807)(w:World)(hE:WU w):Calls Tryz.prog 163 [.int .i64 (m)].toArray w (I5 w (.string (B (Lib.itoa m)))):=by
 refine Ey (n:=5) Tryz.func163 rfl Tryz.ntmps163 rfl (Ak (Af (As (A0 rfl) rfl (Ah (Ar (AG ?_))))));refine Ak (Af (As (Am rfl) rfl (Cf Tryz.call122 rfl (λw hw=>ZC m (by omega) (by omega) w (hE.st0 hw)) rfl (As (A0 rfl) rfl (Ah (Ar (AG ?_)))))));refine Ap (Aq (B2 rfl rfl) ?_);exact EY (by first | rfl | simp[])
theorem AaT (p:List UInt8)(hp:p.length≤281474976710656)(w:World)(hE:WU w):Calls Tryz.prog 98 [.string (B (p))].toArray w (I5 w (.tuple #[.int .i64 (B6 p),.int .i64 (Cq p)])):=by
 refine Ey (n:=22) Tryz.func98 rfl Tryz.ntmps98 rfl (Ak (Af (As (A0 rfl) rfl (As (A0 rfl) rfl (Ah (Ar (AG ?_)))))));refine Ak (Ak (Af (As (Am rfl) rfl (Cf Tryz.call146 rfl (λw hw=>XZ p (by first | omega | (simp;done) | (simp;omega) | (simp at *;omega)) w) rfl (As (BO rfl) rfl (Ah (Ar (AG ?_))))))));refine C1 (b:=!(H9 p)) rfl (λhb=>?_) (λhb=>?_)
 ·have hf:=hb;try simp only[AeH,AeG] at hf
  have ha:=hb;try simp only[AeH,AeG,AeI,Afj,Afe,Aft,Afk,Afg,not_or,Int.not_lt,Int.not_le] at ha
  refine Ak (Af (As (A0 rfl) rfl (As (A0 rfl) rfl (Ah (Ar (AG ?_))))));refine Ap (Ab (Aq (HW rfl rfl rfl) ?_));exact EY (by simp[B6,Cq,ha])
 ·have hf:=hb;try simp only[AeH,AeG] at hf
  have ha:=hb;try simp only[AeH,AeG,AeI,Afj,Afe,Aft,Afk,Afg,not_or,Int.not_lt,Int.not_le] at ha
  refine Aw (Ar (AG ?_));refine Ak (Af (As (Am rfl) rfl ?_));rcases Aal (p:=p) (by assumption) with⟨av,hav,hal,hah⟩ | hav
  ·refine Cf Tryz.call147 rfl (λw _=>AbH p (by first | omega | (simp;done) | (simp;omega) | (simp at *;omega)) av hav w) rfl (As (Am rfl) rfl (As (A7 rfl rfl) rfl (As (A7 rfl rfl) rfl (As (A0 rfl) rfl (As (A0 rfl) rfl (Ah (Ar (AG ?_))))))));refine Ak (A5 [(2,.int .i64 (0)),(3,.int .i64 (0)),(4,.int .i64 (av)),(20,.bool (!(Ig av)))] [] (φ:=True) ?_ (λhh=>?_))
   ·exact Af (As (Am rfl) rfl (As (T7 Tryz.underlying198 rfl) rfl (As (Am rfl) rfl (AL rfl rfl rfl (As (Am rfl) rfl (AL rfl rfl rfl (Cf Tryz.call142 rfl (λw hw=>Aa7 av w) rfl (AL rfl rfl rfl (As (BO rfl) rfl (As (Ay rfl rfl rfl) rfl (Ah (Ar (Bt trivial ⟨rfl,rfl,rfl,rfl,trivial⟩ .slnil)))))))))))))
   refine C1 (b:=!(Ig av)) rfl (λhd=>?_) (λhd=>?_)
   ·have hg:=hd;try simp only[AeH,AeG] at hg
    have he:=hd;try simp only[AeH,AeG,AeI,Afj,Afe,Aft,Afk,Afg,not_or,Int.not_lt,Int.not_le] at he
    refine Ak (Af (As (A0 rfl) rfl (As (A0 rfl) rfl (Ah (Ar (AG ?_))))));refine Ap (Ab (Aq (HW rfl rfl rfl) ?_));exact EY (by simp[B6,Cq,hav,ha,he])
   ·have hg:=hd;try simp only[AeH,AeG] at hg
    have he:=hd;try simp only[AeH,AeG,AeI,Afj,Afe,Aft,Afk,Afg,not_or,Int.not_lt,Int.not_le] at he
    refine Aw (Ar (AG ?_));refine Ak (Af (As (Am rfl) rfl (As (A0 rfl) rfl (As (A0 rfl) rfl (Ah (Ar (AG ?_)))))));refine Ap (Aq (HW rfl rfl rfl) ?_);exact EY (by simp[B6,Cq,hav,ha,he])
  ·refine VR Tryz.call147 rfl (λw hw=>VB p (by first | omega | (simp;done) | (simp;omega) | (simp at *;omega)) hav w (hE.st0 hw)) rfl ?_;rintro _ _ ⟨am,at_,ab,rfl,rfl⟩;refine As (Am rfl) rfl (As (A7 rfl rfl) rfl (As (A7 rfl rfl) rfl (As (A0 rfl) rfl (As (A0 rfl) rfl (Ah (Ar (AG ?_)))))));refine Ak (A5 [(2,.int .i64 (0)),(3,.int .i64 (0)),(4,.int .i64 (am)),(20,.bool (true))] [] (φ:=True) ?_ (λhi=>?_))
   ·exact Af (As (Am rfl) rfl (As (Aba Tryz.underlying198 rfl) rfl (As (Am rfl) rfl (A2 rfl rfl rfl rfl (A2 rfl rfl rfl rfl (A2 rfl rfl rfl rfl (As (An rfl rfl rfl) rfl (Ah (Ar (Bt trivial ⟨rfl,rfl,rfl,rfl,trivial⟩ .slnil))))))))))
   refine D7 rfl rfl (Ak (Af (As (A0 rfl) rfl (As (A0 rfl) rfl (Ah (Ar (AG ?_)))))));refine Ap (Ab (Aq (HW rfl rfl rfl) ?_));exact EY (by simp[B6,Cq,hav,ha])
end Go.Proofs.YtmjlemhondjfhaaGreatDoor
namespace Go.Proofs
open Go.Shelf
def Tryz.lays169_ren:Go.Shelf.Ren:=⟨fun | 169=>120 | n=>n,fun | 70=>174 | 9=>9 | 0=>0 | 72=>177 | 37=>175 | 127=>213 | 3=>3 | 5=>5 | n=>n,fun | n=>n⟩
theorem Tryz.lays169:Go.Proofs.Lays.n169 Tryz.prog Tryz.lays169_ren:={
 mixed:=by kernel_rfl
 f169:=Tryz.func120.trans (congrArg some (by kernel_rfl))
 t0:=Tryz.underlying0
 a0:=Tryz.isAgg0
 z0:=Tryz.sizeOf0
 v0:=Tryz.zeroValue0
 t3:=Tryz.underlying3
 a3:=Tryz.isAgg3
 z3:=Tryz.sizeOf3
 v3:=Tryz.zeroValue3
 t9:=Tryz.underlying9
 a9:=Tryz.isAgg9
 z9:=Tryz.sizeOf9
 v9:=Tryz.zeroValue9
 t37:=Tryz.underlying175
 a37:=Tryz.isAgg175
 z37:=Tryz.sizeOf175
 v37:=Tryz.zeroValue175
 t70:=Tryz.underlying174
 a70:=Tryz.isAgg174
 z70:=Tryz.sizeOf174
 v70:=Tryz.zeroValue174
 t72:=Tryz.underlying177
 a72:=Tryz.isAgg177
 z72:=Tryz.sizeOf177
 v72:=Tryz.zeroValue177
 t127:=Tryz.underlying213
 a127:=Tryz.isAgg213
 z127:=Tryz.sizeOf213
 v127:=Tryz.zeroValue213 }
theorem Tryz.Builder_Extra_169:Builder.Extra Tryz.prog Tryz.lays169_ren:={
 sizeBuilder:=by kernel_rfl
 liesBuilder:=by kernel_rfl
 t5:=Tryz.underlying5
 a5:=Tryz.isAgg5
 z5:=Tryz.sizeOf5
 v5:=Tryz.zeroValue5
 infoByte:=by kernel_rfl
 cellsByte:=by kernel_rfl
 sizeByte:=by kernel_rfl
 neB5:=by decide }
open Go.RowKit in
theorem Tryz.Builder_String_any (B b:Nat)(l:List UInt8)(w:World)(h:Lib.IsBuilder 177 5 B b (Lib.byteCells l) w)(hBw:B≤w.heap.size) :
  Calls Tryz.prog 120 #[.pointer (some ⟨b,0,none⟩)] w λe w'=>e = .returned (.string ⟨l.toArray⟩)∧Below B w w':=Any.Builder_String_any Tryz.lays169 Tryz.Builder_Extra_169 B b l w h hBw
def Tryz.lays138_ren:Go.Shelf.Ren:=⟨fun | 138=>179 | 195=>204 | 218=>205 | 143=>206 | 219=>180 | 217=>207 | 225=>208 | 224=>209 | 267=>210 | 266=>231 | 314=>232 | n=>n,fun | 9=>9 | 3=>3 | 4=>4 | 5=>5 | 0=>0 | 46=>196 | 146=>254 | 51=>229 | n=>n,fun | 1=>0 | n=>n⟩
theorem Tryz.lays138:Go.Proofs.Lays.n138 Tryz.prog Tryz.lays138_ren:={
 mixed:=by kernel_rfl
 f138:=Tryz.func179.trans (congrArg some (by kernel_rfl))
 f143:=Tryz.func206.trans (congrArg some (by kernel_rfl))
 f195:=Tryz.func204.trans (congrArg some (by kernel_rfl))
 f217:=Tryz.func207.trans (congrArg some (by kernel_rfl))
 f218:=Tryz.func205.trans (congrArg some (by kernel_rfl))
 f219:=Tryz.func180.trans (congrArg some (by kernel_rfl))
 f224:=Tryz.func209.trans (congrArg some (by kernel_rfl))
 f225:=Tryz.func208.trans (congrArg some (by kernel_rfl))
 f266:=Tryz.func231.trans (congrArg some (by kernel_rfl))
 f267:=Tryz.func210.trans (congrArg some (by kernel_rfl))
 f314:=Tryz.func232.trans (congrArg some (by kernel_rfl))
 t0:=Tryz.underlying0
 a0:=Tryz.isAgg0
 z0:=Tryz.sizeOf0
 v0:=Tryz.zeroValue0
 t3:=Tryz.underlying3
 a3:=Tryz.isAgg3
 z3:=Tryz.sizeOf3
 v3:=Tryz.zeroValue3
 t4:=Tryz.underlying4
 a4:=Tryz.isAgg4
 z4:=Tryz.sizeOf4
 v4:=Tryz.zeroValue4
 t5:=Tryz.underlying5
 a5:=Tryz.isAgg5
 z5:=Tryz.sizeOf5
 v5:=Tryz.zeroValue5
 t9:=Tryz.underlying9
 a9:=Tryz.isAgg9
 z9:=Tryz.sizeOf9
 v9:=Tryz.zeroValue9
 t46:=Tryz.underlying196
 a46:=Tryz.isAgg196
 z46:=Tryz.sizeOf196
 v46:=Tryz.zeroValue196
 t51:=Tryz.underlying229
 a51:=Tryz.isAgg229
 z51:=Tryz.sizeOf229
 v51:=Tryz.zeroValue229
 t146:=Tryz.underlying254
 a146:=Tryz.isAgg254
 z146:=Tryz.sizeOf254
 v146:=Tryz.zeroValue254
 g1:=by kernel_rfl }
open Go.RowKit Go.Lib in
theorem Tryz.strings_Count_one (s:ByteArray)(c:UInt8)(w:World) :
  Calls Tryz.prog 179 #[.string s,.string ⟨#[c]⟩] w λe w'=>e = .returned (.int .i64 (Lib.countByte s.data.toList c))∧w'=w:=Any.strings_Count_one Tryz.lays138 s c w
end Go.Proofs
namespace Go.Proofs.YtmjlemhondjfhaaGreatDoor
open Go
set_option linter.unusedVariables false
set_option linter.unusedSimpArgs false
theorem S5 {f:Nat→UInt8→Bool}:∀{l:List UInt8} {i:Nat},Bh f i l=true→∀u∈l,∃j,f j u=true
 | [],_,_,u,hu=>by simp at hu
 | x::r,i,h,u,hu=>by
  simp only[Bh,AeI] at h;rcases List.mem_cons.1 hu with rfl | hu
  ·exact⟨i,h.1⟩
  ·exact S5 h.2 u hu
theorem Ot {p:List UInt8}{c:UInt8}:D4 p [c]=true↔∃r,p=r++[c]:=by
 simp only[D4,AeI,AeH];constructor
 ·rintro⟨_,h⟩;refine⟨p.take (p.length-1),?_⟩;rw[show(p.length-[c].length)=p.length-1 from rfl] at h;have:=AfB (p.length-1) p;rw[h] at this;exact this.symm
 ·rintro⟨r,rfl⟩;simp
theorem VT (r:List UInt8)(c:UInt8):J9 (r++[c]) [c]=r:=by
 have:D4 (r++[c]) [c]=true:=Ot.2 ⟨r,rfl⟩;simp[J9,this]
theorem Zd {q:List UInt8}(h:1≤q.length):BK q ((q.length:Int)-1)=42↔D4 q [42]=true:=by
 have e:((q.length:Int)-1).toNat=q.length-1:=by omega
 have h1:q.length-1<q.length:=by omega
 unfold BK;rw[e,AeN h1,Afq];have hd:q.drop (q.length-1)=[q[q.length-1]]:=by rw[List.drop_eq_getElem_cons h1,List.drop_of_length_le (by omega)]
 simp only[D4,AeZ,Af7,Afu,hd,AeI,AeH,h,true_and,List.cons.injEq,and_true];constructor
 ·intro hx;exact UInt8.toNat_inj.1 (by simpa using(by omega:q[q.length-1].toNat=42))
 ·intro hx;rw[hx];rfl
theorem Ac2 {q:List UInt8}(ho:D4 q [42]=true):q.take ((q.length:Int)-1).toNat=J9 q [42]:=by
 obtain⟨r,rfl⟩:=Ot.1 ho;rw[VT];simp
theorem WN {f:Nat→UInt8→Bool}{t:Int→Bool}{p:List UInt8}{k:Nat}(hf:∀u:UInt8,f k u=t u.toNat){c:Bool}(hi:k≤p.length∧c=Bh f k (p.drop k))(h:(k:Int)<p.length)(ht:t (BK p k)=true) :
  k+1≤p.length∧c=Bh f (k+1) (p.drop (k+1)):=by
 obtain⟨u,hu⟩:=GC h;rw[JQ hu] at ht;have hk:k<p.length:=by omega
 refine⟨by omega,?_⟩;rw[hi.2,Hp hu];simp[Bh,hf,ht]
theorem Acd {f:Nat→UInt8→Bool}{t:Int→Bool}{p:List UInt8}{k:Nat}(hf:∀u:UInt8,f k u=t u.toNat){c:Bool}(hi:k≤p.length∧c=Bh f k (p.drop k))(h:(k:Int)<p.length)(ht:t (BK p k)=false):c=false:=by
 obtain⟨u,hu⟩:=GC h;rw[JQ hu] at ht;rw[hi.2,Hp hu];simp[Bh,hf,ht]
theorem Aam {f:Nat→UInt8→Bool}{p:List UInt8}{k:Nat}{c:Bool}(hi:k≤p.length∧c=Bh f k (p.drop k))(h : ¬ (k:Int)<p.length):c=true:=by
 rw[hi.2,List.drop_of_length_le (by omega)];rfl
def RU (c:Int):Bool:=Cb c||(CC c||(decide (c=45)||decide (c=95)))
theorem P8 {k:Nat}(hk:1≤k)(u:UInt8):DI k u=RU u.toNat:=by
 have:decide (k=0)=false:=by simp;omega
 simp only[DI,RU,this]
 cases Cb u.toNat<;>cases CC u.toNat<;>simp
theorem Abe {p:List UInt8}(h:(!(decide ((p.length:Int)<1)||(decide ((24:Int)<p.length)||!Cb (BK p 0))))=true):1≤p.length∧Cv p=Bh DI 1 (p.drop 1):=by
 simp only[Afe,Afg,AeG,Aft] at h;obtain⟨h1,h2,h3⟩:=h
 cases p with
 | nil=>simp at h1
 | cons u r=>
  have h4:Cb u.toNat=true:=h3;refine⟨by simp,?_⟩;have h5:r.length+1≤24:=by simp at h2;omega
  simp[Cv,Bh,DI,h4,h5]
theorem Zt {p:List UInt8}(h:(decide ((p.length:Int)<1)||(decide ((24:Int)<p.length)||!Cb (BK p 0)))=true):Cv p=false:=by
 simp only[Afj,AeH,Afe] at h;rcases h with h | h | h
 ·simp[Cv];omega
 ·simp[Cv];omega
 ·cases p with
  | nil=>rfl
  | cons u r=>
   have h4:Cb u.toNat=false:=h;simp[Cv,Bh,DI,h4]
theorem PD (k:Nat)(u:UInt8):Jr k u=CY u.toNat:=rfl
theorem AbY {p:List UInt8}(h:(decide ((p.length:Int)<1)||decide ((64:Int)<p.length))=false):Jq p=Bh Jr 0 p:=by
 simp only[Afg,AeG] at h;have h1:1≤p.length:=by omega
 have h2:p.length≤64:=by omega
 simp[Jq,h1,h2]
theorem ZE {p:List UInt8}(h:(decide ((p.length:Int)<1)||decide ((64:Int)<p.length))=true):Jq p=false:=by
 simp only[Afj,AeH] at h;simp[Jq];omega
theorem Wg {p:List UInt8}(h:(decide ((p.length:Int)<1)||decide ((64:Int)<p.length))=true):HN p=false:=by
 have h1:=ZE h;simp only[Afj,AeH] at h;have h2:p≠[42]:=by rintro rfl;simp at h
 rcases h with h | h
 ·cases p with
  | nil=>decide
  | cons a r=>simp at h;omega
 ·have h3:decide ((p.length:Int)≤64)=false:=by simp;omega
  simp[HN,h1,h2,h3]
theorem Ob {f:Nat→UInt8→Bool}:∀(r:List UInt8) (i:Nat) (u:UInt8),Bh f i (r++[u])=(Bh f i r&&f (i+r.length) u)
 | [],i,u=>by simp[Bh]
 | x::r,i,u=>by
  have:=Ob (f:=f) r (i+1) u;simp only[Af3,Bh,this,AeZ];rw[show i+1+r.length=i+(r.length+1) from by omega,Bool.and_assoc]
theorem Aak (r:List UInt8)(u:UInt8):BK (r++[u]) (((r++[u]).length:Int)-1)=u.toNat:=by
 have e:(((r++[u]).length:Int)-1).toNat=r.length:=by simp
 unfold BK;rw[e];simp
theorem Aen {p:List UInt8}(h:(decide ((p.length:Int)<1)||decide ((64:Int)<p.length))=false) :
  HN p=(Bh Jr 0 (p.take (p.length-1))&&(CY (BK p ((p.length:Int)-1))||decide (BK p ((p.length:Int)-1)=42))):=by
 have hid:=AbY h;simp only[Afg,AeG] at h;obtain⟨h1,h2⟩:=h;obtain⟨r,u,rfl⟩:∃r u,p=r++[u]:=by
  rcases List.eq_nil_or_concat p with rfl | ⟨r,u,rfl⟩
  ·simp at h1
  ·exact⟨r,u,by simp⟩
 have ht:(r++[u]).take ((r++[u]).length-1)=r:=by simp
 rw[ht,Aak];unfold HN;rw[hid,Ob];have hlen:r.length+1≤64:=by simp at h2;omega
 have hd:decide (((r++[u]).length:Int)≤64)=true:=by simp;omega
 rw[hd]
 by_cases hu:u=42
 ·subst hu;have hl:Jr (0+r.length) 42=false:=by simp[Jr];decide
  have hs:D4 (r++[42]) [42]=true:=Ot.2 ⟨r,rfl⟩;rw[hl,hs,VT];have hx:Jq r=(Bh Jr 0 r&&decide (1≤r.length)):=by
   have:decide (r.length≤64)=true:=by simp;omega
   simp[Jq,this]
  cases r with
  | nil=>simp[Bh]
  | cons a r'=>
   rw[hx];simp
 ·have hne : ¬ ((u.toNat:Int)=42):=λe=>hu (UInt8.toNat_inj.1 (by simpa using(by omega:u.toNat=42)));have hs:D4 (r++[u]) [42]=false:=by
   cases hx:D4 (r++[u]) [42] with
   | false=>rfl
   | true=>
    obtain⟨r',e⟩:=Ot.1 hx;exact absurd (List.append_inj_right' e rfl) (by simpa using hu)
  have ha:decide (r++[u]=[42])=false:=by
   rw[AeG];intro e;have e2:r++[u]=[]++[42]:=e;have:=List.append_inj_right' e2 rfl;exact hu (by simpa using this)
  rw[hs,ha];simp[Jr,hne]
theorem Adt {p:List UInt8}(h:1≤p.length):decide (BK p ((p.length:Int)-1)=42)=D4 p [42]:=by
 rw[Afs,AeH];exact Zd h
theorem AbF (p q:List UInt8):(decide ((q.length:Int)≤p.length)&&decide (List.take (Int.toNat (q.length:Int)) p=q))=N2 p q:=by
 simp[N2]
theorem Abi {p s:List UInt8}(h:HN p=false):JK p s=false:=by simp[JK,h]
theorem XI {p s:List UInt8}(hp:HN p=true)(ho:D4 p [42]=true):N2 s (List.take (Int.toNat ((p.length:Int)-1)) p)=JK p s:=by
 rw[Ac2 ho];simp[JK,hp,ho]
theorem XH {p s:List UInt8}(hp:HN p=true)(ho:D4 p [42]=false):decide (s=p)=JK p s:=by
 simp[JK,hp,ho,eq_comm]
theorem ZU {p:List UInt8}(h:I4 p=true)(h2:BK (p.drop 1) 0=48):H9 p=false:=by
 have hd:ES p=p.drop 1:=by simp[ES,h]
 have hp:p≠[48]:=by rintro rfl;revert h;decide
 unfold H9;rw[hd,h2];simp[hp]
theorem ZT {p dg:List UInt8}(hdg:ES p=dg)(h:(decide ((dg.length:Int)=0)||(decide ((1:Int)<dg.length)&&decide (BK dg 0=48)))=true):H9 p=false:=by
 simp only[Afj,AeH,AeI] at h;rcases h with h | ⟨h,h2⟩
 ·have:dg=[]:=Afp (by omega);simp[H9,hdg,this]
 ·have hp:p≠[48]:=by rintro rfl;have:=PP [48];rw[hdg] at this;simp at this;omega
  simp[H9,hdg,h2,hp]
theorem ZS {p dg:List UInt8}(hdg:ES p=dg)(h0:I4 p=true→¬ ((0:Int)<dg.length∧BK dg 0=48))(h:(decide ((dg.length:Int)=0)||(decide ((1:Int)<dg.length)&&decide (BK dg 0=48)))=false)(ha:Bh Eu 0 dg=true):H9 p=true:=by
 simp only[Afg,AeG,Afk] at h;have hne:dg≠[]:=by rintro rfl;exact h.1 rfl
 have hpos:=Dt hne;simp only[H9,hdg,ha,AeX,Afe,Afg,AeG,hne,not_false_eq_true,true_and,Afk,Aft,AeH]
 by_cases hb:BK dg 0=48
 ·right
  cases hs:I4 p
  ·have hd:dg=p:=by rw[← hdg];simp[ES,hs]
   subst hd;have hl:dg.length=1:=by rcases h.2 with h | h<;>omega
   match dg,hl with
   | [u],_=>
    have:(u.toNat:Int)=48:=hb;rw[show u=48 from UInt8.toNat_inj.1 (by simpa using(by omega:u.toNat=48))]
  ·exact absurd ⟨hpos,hb⟩ (h0 hs)
 ·exact .inl hb
def EA:Nat→List UInt8→Option Nat
 | n,[]=>some n
 | n,u::r=>if u.toNat=45 then EA n r else if 1000000000000<10*n+(u.toNat-48) then none else EA (10*n+(u.toNat-48)) r
theorem I2 {p:List UInt8}(h:H9 p=true){k:Nat}(hk:(k:Int)<p.length)(ha : ¬ BK p k=45):48≤BK p k∧BK p k≤57:=by
 simp only[H9,AeI] at h;obtain⟨u,hu⟩:=GC hk;rw[JQ hu] at ha ⊢;have key:u∈ES p:=by
  have hm:=Afc hu;unfold ES
  split
  ·rename_i hs
   cases p with
   | nil=>simp at hm
   | cons c r=>
    rcases List.mem_cons.1 hm with rfl | hm
    ·simp only[I4,AeI,AeH] at hs;exact absurd hs.2 ha
    ·simpa using hm
  ·exact hm
 obtain⟨j,hj⟩:=S5 h.2 u key;simp[Eu] at hj;omega
def Ab8 (l:List UInt8):Prop:=∀u∈l,48≤u.toNat∧u.toNat≤57
theorem WF {l:List UInt8}(h:Bh Eu 0 l=true):Ab8 l:=λu hu=>by
 obtain⟨j,hj⟩:=S5 h u hu;simp[Eu] at hj;omega
theorem YV:∀(l:List UInt8) (acc:Nat),Ab8 l→1000000000000<acc→Lib.parseUint10 acc l = .range∨∃u,Lib.parseUint10 acc l = .ok u∧1000000000000<u
 | [],acc,_,h=>.inr ⟨acc,rfl,h⟩
 | c::r,acc,hd,h=>by
  have hc:=hd c (by simp);unfold Lib.parseUint10;rw[Af6 hc]
  split
  ·exact .inl rfl
  ·split
   ·exact .inl rfl
   ·exact YV r _ (λu hu=>hd u (by simp[hu])) (by omega)
theorem YU:∀(l:List UInt8) (acc:Nat),Ab8 l→acc≤1000000000000→(∃u,EA acc l=some u∧Lib.parseUint10 acc l = .ok u∧u≤1000000000000)∨(EA acc l=none∧(Lib.parseUint10 acc l = .range∨∃u,Lib.parseUint10 acc l = .ok u∧1000000000000<u))
 | [],acc,_,h=>.inl ⟨acc,rfl,rfl,h⟩
 | c::r,acc,hd,h=>by
  have hc:=hd c (by simp);have hr:Ab8 r:=λu hu=>hd u (by simp[hu]);have e1:Lib.parseUint10 acc (c::r)=Lib.parseUint10 (acc*10+(c.toNat-48)) r:=by
   conv=>lhs;unfold Lib.parseUint10
   rw[Af6 hc,Afz (by omega),Afz (by omega)]
  have e2:EA acc (c::r)=if 1000000000000<acc*10+(c.toNat-48) then none else EA (acc*10+(c.toNat-48)) r:=by
   conv=>lhs;unfold EA
   rw[Afz (by omega),show 10*acc+(c.toNat-48)=acc*10+(c.toNat-48) from by omega]
  rw[e1,e2]
  by_cases hb:1000000000000<acc*10+(c.toNat-48)
  ·rw[Af6 hb];exact .inr ⟨rfl,YV r _ hr hb⟩
  ·rw[Afz hb];exact YU r _ hr (by omega)
theorem YM {p:List UInt8}:EA 0 p=EA 0 (ES p):=by
 unfold ES
 split
 ·rename_i hs
  cases p with
  | nil=>rfl
  | cons c r=>
   simp only[I4,AeI,AeH] at hs;have:c.toNat=45:=by have:=hs.2;simp[BK] at this;omega
   simp[EA,this]
 ·rfl
theorem Np {p:List UInt8}(h:H9 p=true):(∀u,EA 0 p=some u→Cq p=0∧B6 p=if I4 p=true then -(u:Int) else u)∧(EA 0 p=none→Cq p=2∧B6 p=0):=by
 have h':=h;simp only[H9,AeI,Afe,Afg,AeG] at h';obtain⟨⟨hne,_⟩,hall⟩:=h';have hrun:=YU (ES p) 0 (WF hall) (by omega);have hmag:Lib.parseMag (ES p)=Lib.parseUint10 0 (ES p):=by unfold Lib.parseMag;rw[Afz hne]
 have hat:Lib.atoiAll p=if I4 p=true then Lib.signed (Lib.parseUint10 0 (ES p)) else Lib.signless (Lib.parseUint10 0 (ES p)):=by
  cases p with
  | nil=>simp[ES,I4] at hne
  | cons c r=>
   cases hs:I4 (c::r)
   ·have hd:ES (c::r)=c::r:=by simp[ES,hs]
    rw[hd] at hall hmag ⊢;have hc:=WF hall c (by simp);rw[Lib.atoiAll_plain c r (by omega) (by omega),hmag];simp
   ·have hc:c=45:=by
     simp only[I4,AeI,AeH] at hs;exact UInt8.toNat_inj.1 (by have:=hs.2;simp[BK] at this;simpa using(by omega:c.toNat=45))
    subst hc;have hd:ES (45::r)=r:=by simp[ES,hs]
    rw[hd] at hmag ⊢;rw[Lib.atoiAll_minus,hmag];simp
 rw[YM];have hbig:∀u:Nat,1000000000000<u→∀v:Int,(v=u∨v = -(u:Int))→Ig v=false:=λu hu v hv=>by
  rcases hv with rfl | rfl<;>simp[Ig]<;>omega
 constructor
 ·intro u hu;rcases hrun with⟨u',h1,h2,h3⟩ | ⟨h1,_⟩
  ·rw[hu] at h1;cases h1;rw[h2] at hat;simp only[Cq,B6,h,Afn,hat]
   cases I4 p
   ·have hv:Ig (u:Int)=true:=by simp[Ig];omega
    simp only[AeK,Afh,Lib.signless];rw[Afz (by omega)];simp[hv]
   ·have hv:Ig (-(u:Int))=true:=by simp[Ig];omega
    simp only[Afn,Lib.signed];rw[Afz (by omega)];simp[hv]
  ·rw[hu] at h1;cases h1
 ·intro hn;rcases hrun with⟨u',h1,h2,h3⟩ | ⟨_,h1⟩
  ·rw[hn] at h1;cases h1
  ·simp only[Cq,B6,h,Afn,hat];rcases h1 with h1 | ⟨u,h1,h2⟩
   ·rw[h1];cases I4 p<;>simp[Lib.signed,Lib.signless]
   ·rw[h1]
    cases I4 p
    ·simp only[AeK,Afh,Lib.signless]
     by_cases h9:9223372036854775808≤u<;>simp[h9,hbig u h2 _ (.inl rfl)]
    ·simp only[Afn,Lib.signed]
     by_cases h9:9223372036854775808<u<;>simp[h9,hbig u h2 _ (.inr rfl)]
theorem YK {p:List UInt8}{k n:Nat}(hk:(k:Int)<p.length)(hi:EA 0 p=EA n (p.drop k))(h:BK p k=45):EA 0 p=EA n (p.drop (k+1)):=by
 obtain⟨u,hu⟩:=GC hk;rw[JQ hu] at h;rw[hi,Hp hu,EA,Af6 (by omega)]
theorem Acx {p:List UInt8}{k n:Nat}(hd:H9 p=true)(hk:(k:Int)<p.length)(hi:EA 0 p=EA n (p.drop k))(h : ¬ BK p k=45)(hle : ¬ (1000000000000:Int)<10*(n:Int)+(BK p k-48)) :
  (10*(n:Int)+(BK p k-48))=((10*n+(BK p k-48).toNat:Nat):Int)∧EA 0 p=EA (10*n+(BK p k-48).toNat) (p.drop (k+1))∧10*n+(BK p k-48).toNat≤1000000000000:=by
 have hb:=I2 hd hk h;obtain⟨u,hu⟩:=GC hk;rw[JQ hu] at h hle hb ⊢;have e:((u.toNat:Int)-48).toNat=u.toNat-48:=by omega
 refine⟨by omega,?_,by omega⟩;rw[hi,Hp hu,EA,Afz (by omega),Afz (by omega),e]
theorem YJ {p:List UInt8}{k n:Nat}(hd:H9 p=true)(hk:(k:Int)<p.length)(hi:EA 0 p=EA n (p.drop k))(h : ¬ BK p k=45)(hle:(1000000000000:Int)<10*(n:Int)+(BK p k-48)):EA 0 p=none:=by
 have hb:=I2 hd hk h;obtain⟨u,hu⟩:=GC hk;rw[JQ hu] at h hle hb;rw[hi,Hp hu,EA,Afz (by omega),Af6 (by omega)]
theorem YL {p:List UInt8}{k n:Nat}(hd:H9 p=true)(hk:(k:Int)<p.length)(hi:EA 0 p=EA n (p.drop k))(hn:n≤1000000000000)(h:BK p k=45∨¬ (1000000000000:Int)<10*(n:Int)+(BK p k-48)) :
  ∃n1:Nat,(if decide (BK p k=45)=true then(n:Int) else 10*(n:Int)+(BK p k-48))=(n1:Int)∧EA 0 p=EA n1 (p.drop (k+1))∧n1≤1000000000000:=by
 by_cases ha:BK p k=45
 ·exact⟨n,by simp[ha],YK hk hi ha,hn⟩
 ·have hle:=h.resolve_left ha;obtain⟨a,b,c⟩:=Acx hd hk hi ha hle;exact⟨_,by rw[Afz (by simpa using ha)];exact a,b,c⟩
theorem VZ {p:List UInt8}{k n:Nat}(hi:EA 0 p=EA n (p.drop k))(h : ¬ (k:Int)<p.length):EA 0 p=some n:=by
 rw[hi,List.drop_of_length_le (by omega)];rfl
open Go Go.RowKit
section
variable {P : Program} {n : Nat} {w0 : World} {M : List Nat} {l : Fr} {H : List Ent} {d : Option Nat} {x y : Operand} {ty t t' : TypeId} {pos : String} {af : Array Edge} {g : Option (Nat × Bool)} {k : IntKind} {p q z : Int}
theorem P0 (hx:ev l x=some (.int k p))(hy:ev l y=some (.int k q))(hq:q≠0)(hz:k.wrap (p.tdiv q)=z):B4 P n w0 M l H { dst:=d,op:=.binOp .quo t x y t',type:=ty,pos:=pos,after:=af,guard:=g } (.int k z):=λa w ha _=>by
 simp[execOp,ha.eval hx,ha.eval hy,BB,binOp,Op.intDiv,hq,hz]
theorem AbV (hx:ev l x=some (.int k p))(hy:ev l y=some (.int k q))(hq:q≠0):B4 P n w0 M l H { dst:=d,op:=.binOp .rem t x y t',type:=ty,pos:=pos,after:=af,guard:=g } (.int k (p.tmod q)):=λa w ha _=>by
 simp[execOp,ha.eval hx,ha.eval hy,BB,binOp,Op.intDiv,hq]
end
set_option maxRecDepth 100000
theorem Ac7 (p:List UInt8)(hp:p.length≤281474976710656)(w:World):Calls Tryz.prog 100 [.string (B (p))].toArray w (I5 w (.bool (Cv p))):=by
 refine Ey (n:=48) Tryz.func100 rfl Tryz.ntmps100 rfl (Ak (Af (As (A0 rfl) rfl (Ah (Ar (AG ?_))))));refine Ak (A5 [(0,.string (B (p))),(2,.bool (false)),(17,.bool (((decide (((p.length:Int))<(1)))||((decide ((24)<((p.length:Int))))||(!(Cb (BK p 0)))))))] [] (φ:=True) ?_ (λh2=>?_))
 ·refine Af (As (Am rfl) rfl (As (B0 C4 rfl) rfl (As (Ci rfl rfl) rfl (As (Am rfl) rfl (AA (decide (((p.length:Int))<(1))) (λhg=>?_) (λhg=>?_))))))
  ·have hk:=hg;try simp only[AeH,AeG] at hk
   have hl:=hg;try simp at hl
   refine A2 rfl rfl hg rfl (A2 rfl rfl hg rfl (A2 rfl rfl hg rfl (As (An rfl hg rfl) rfl (As (Am rfl) rfl (A2 rfl rfl rfl rfl (A2 rfl rfl rfl rfl (A2 rfl rfl rfl rfl (A2 rfl rfl rfl rfl (As (An rfl rfl rfl) rfl (Ah ?_))))))))));exact Ar (Bt trivial ⟨rfl,rfl,fb (by first | (simp only[hg,AeP,AeT,Afb,AeS,AeX,AeV,Afa,AeY,AeL,AeU,AeW,AeM,Afn,Afh,reduceIte,AeK];done) | simp[hg]),trivial⟩ .slnil)
  ·have hk:=hg;try simp only[AeH,AeG] at hk
   have hl:=hg;try simp at hl
   refine AL rfl rfl hg (As (Am rfl) rfl (AL rfl rfl hg (As (B0 C4 rfl) rfl (AL rfl rfl hg (As (Dc rfl rfl) rfl (As (Ay rfl hg rfl) rfl (As (Am rfl) rfl (AA (decide ((24)<((p.length:Int)))) (λhh=>?_) (λhh=>?_)))))))))
   ·have hm:=hh;try simp only[AeH,AeG] at hm
    have hn:=hh;try simp at hn
    refine A2 rfl rfl hh rfl (A2 rfl rfl hh rfl (A2 rfl rfl hh rfl (A2 rfl rfl hh rfl (As (An rfl hh rfl) rfl (Ah ?_)))));exact Ar (Bt trivial ⟨rfl,rfl,fb (by first | (simp only[hg,hh,AeP,AeT,Afb,AeS,AeX,AeV,Afa,AeY,AeL,AeU,AeW,AeM,Afn,Afh,reduceIte,AeK];done) | simp[hg,hh]),trivial⟩ .slnil)
   ·have hm:=hh;try simp only[AeH,AeG] at hm
    have hn:=hh;try simp at hn
    refine AL rfl rfl hh (As (Am rfl) rfl (AL rfl rfl hh (As (B3 C4 rfl rfl (by first | omega | (simp;omega) | (simp at *;omega)) (by first | omega | (simp;omega) | (simp at *;omega))) rfl (AL rfl rfl hh (Cf Tryz.call148 rfl (λw hw=>R4 (BK p 0) w) rfl (AL rfl rfl hh (As (BO rfl) rfl (As (Ay rfl hh rfl) rfl (Ah ?_)))))))));exact Ar (Bt trivial ⟨rfl,rfl,fb (by first | (simp only[hg,hh,AeP,AeT,Afb,AeS,AeX,AeV,Afa,AeY,AeL,AeU,AeW,AeM,Afn,Afh,reduceIte,AeK];done) | simp[hg,hh]),trivial⟩ .slnil)
 refine C1 (b:=((decide (((p.length:Int))<(1)))||((decide ((24)<((p.length:Int))))||(!(Cb (BK p 0)))))) rfl (λhb=>?_) (λhb=>?_)
 ·have ho:=hb;try simp only[AeH,AeG] at ho
  have hq:=hb;try simp at hq
  refine Ak (Af (As (A0 rfl) rfl (Ah (Ar (AG ?_)))));refine Ap (Ab (Aq (B2 rfl rfl) ?_));exact EY (by rw[Zt hb])
 ·have ho:=hb;try simp only[AeH,AeG] at ho
  have hq:=hb;try simp at hq
  refine Aw (Ar (AG ?_));refine Ak (Ak (Af (As (A0 rfl) rfl (Ah (Ar (AG ?_))))));refine A6 (HK (S:=Nat) (λ(k:Nat)=>1≤k∧(k≤p.length∧Cv p=Bh DI k (p.drop k))) (λ(k:Nat)=>[(3,.int .i64 ((k:Int))),(0,.string (B (p)))]) (λ(k:Nat)=>[]) (λ(k:Nat)=>p.length-k) (1) ?_ ⟨fi (by first | rfl | (simp;done) | omega | (simp;omega)),rfl,trivial⟩ .slnil ?_)
  ·exact⟨Afm _,Abe (by simp[hb])⟩
  rintro k hi0;have hk1:=hi0.1;refine Ak (Ak (Af (As (Am rfl) rfl (As (Am rfl) rfl (As (B0 C4 rfl) rfl (As (Ci rfl rfl) rfl (Ah (Ar (AG ?_)))))))));refine C1 (b:=decide (((k:Int))<((p.length:Int)))) rfl (λhd=>?_) (λhd=>?_)
  ·have hj:=hd;try simp only[AeH,AeG] at hj
   have hr:=hd;try simp at hr
   refine Aw (Ar (AG ?_));refine Ak (A6 (A5 [(0,.string (B (p))),(3,.int .i64 ((k:Int))),(18,.int .i64 ((k:Int))),(19,.string (B (p))),(20,.int .i64 ((p.length:Int))),(21,.bool (decide (((k:Int))<((p.length:Int))))),(24,.string (B (p))),(25,.int .i64 ((k:Int))),(26,.int .u8 (BK p (k:Int))),(27,.bool (Cb (BK p (k:Int)))),(28,.bool (!(Cb (BK p (k:Int))))),(29,.bool (!(Cb (BK p (k:Int))))),(35,.bool (((!(Cb (BK p (k:Int))))&&(!(CC (BK p (k:Int))))))),(36,.bool (((!(Cb (BK p (k:Int))))&&(!(CC (BK p (k:Int))))))),(41,.bool (((!(Cb (BK p (k:Int))))&&((!(CC (BK p (k:Int))))&&(!(decide ((BK p (k:Int))=(45)))))))),(42,.bool (((!(Cb (BK p (k:Int))))&&((!(CC (BK p (k:Int))))&&(!(decide ((BK p (k:Int))=(45)))))))),(47,.bool (((!(Cb (BK p (k:Int))))&&((!(CC (BK p (k:Int))))&&((!(decide ((BK p (k:Int))=(45))))&&(!(decide ((BK p (k:Int))=(95)))))))))] [] (φ:=True) ?_ (λh3=>?_)))
   ·refine Af (As (Am rfl) rfl (As (Am rfl) rfl (As (B3 C4 rfl rfl (by first | omega | (simp;omega) | (simp at *;omega)) (by first | omega | (simp;omega) | (simp at *;omega))) rfl (Cf Tryz.call148 rfl (λw hw=>R4 (BK p (k:Int)) w) rfl (As (BO rfl) rfl (As (Am rfl) rfl (AA (!(Cb (BK p (k:Int)))) (λha=>?_) (λha=>?_))))))))
    ·have hs:=ha;try simp only[AeH,AeG] at hs
     have ht:=ha;try simp at ht
     refine AL rfl rfl ha (As (Am rfl) rfl (AL rfl rfl ha (As (Am rfl) rfl (AL rfl rfl ha (As (B3 C4 rfl rfl (by first | omega | (simp;omega) | (simp at *;omega)) (by first | omega | (simp;omega) | (simp at *;omega))) rfl (AL rfl rfl ha (Cf SR rfl (λw hw=>Ss (BK p (k:Int)) w) rfl (AL rfl rfl ha (As (BO rfl) rfl (As (An rfl ha rfl) rfl (As (Am rfl) rfl (AA (!(CC (BK p (k:Int)))) (λhe=>?_) (λhe=>?_)))))))))))))
     ·have hu:=he;try simp only[AeH,AeG] at hu
      have hx:=he;try simp at hx
      refine AL rfl rfl he (As (Am rfl) rfl (AL rfl rfl he (As (Am rfl) rfl (AL rfl rfl he (As (B3 C4 rfl rfl (by first | omega | (simp;omega) | (simp at *;omega)) (by first | omega | (simp;omega) | (simp at *;omega))) rfl (AL rfl rfl he (As (CH rfl rfl) rfl (As (An rfl he rfl) rfl (As (Am rfl) rfl (AA (!(decide ((BK p (k:Int))=(45)))) (λhf=>?_) (λhf=>?_)))))))))))
      ·have hy:=hf;try simp only[AeH,AeG] at hy
       have hz:=hf;try simp at hz
       refine AL rfl rfl hf (As (Am rfl) rfl (AL rfl rfl hf (As (Am rfl) rfl (AL rfl rfl hf (As (B3 C4 rfl rfl (by first | omega | (simp;omega) | (simp at *;omega)) (by first | omega | (simp;omega) | (simp at *;omega))) rfl (AL rfl rfl hf (As (CH rfl rfl) rfl (As (An rfl hf rfl) rfl (Ah ?_)))))))));exact Ar (Bt trivial ⟨rfl,rfl,rfl,rfl,rfl,rfl,rfl,rfl,rfl,rfl,rfl,rfl,fb (by first | (simp only[hb,hd,ha,he,hf,AeP,AeT,Afb,AeS,AeX,AeV,Afa,AeY,AeL,AeU,AeW,AeM,Afn,Afh,reduceIte,AeK];done) | simp[hb,hd,ha,he,hf]),fb (by first | (simp only[hb,hd,ha,he,hf,AeP,AeT,Afb,AeS,AeX,AeV,Afa,AeY,AeL,AeU,AeW,AeM,Afn,Afh,reduceIte,AeK];done) | simp[hb,hd,ha,he,hf]),fb (by first | (simp only[hb,hd,ha,he,hf,AeP,AeT,Afb,AeS,AeX,AeV,Afa,AeY,AeL,AeU,AeW,AeM,Afn,Afh,reduceIte,AeK];done) | simp[hb,hd,ha,he,hf]),fb (by first | (simp only[hb,hd,ha,he,hf,AeP,AeT,Afb,AeS,AeX,AeV,Afa,AeY,AeL,AeU,AeW,AeM,Afn,Afh,reduceIte,AeK];done) | simp[hb,hd,ha,he,hf]),fb (by first | (simp only[hb,hd,ha,he,hf,AeP,AeT,Afb,AeS,AeX,AeV,Afa,AeY,AeL,AeU,AeW,AeM,Afn,Afh,reduceIte,AeK];done) | simp[hb,hd,ha,he,hf]),trivial⟩ .slnil)
      ·have hy:=hf;try simp only[AeH,AeG] at hy
       have hz:=hf;try simp at hz
       refine A2 rfl rfl hf rfl (A2 rfl rfl hf rfl (A2 rfl rfl hf rfl (A2 rfl rfl hf rfl (As (Ay rfl hf rfl) rfl (Ah ?_)))));exact Ar (Bt trivial ⟨rfl,rfl,rfl,rfl,rfl,rfl,rfl,rfl,rfl,rfl,rfl,rfl,fb (by first | (simp only[hb,hd,ha,he,hf,AeP,AeT,Afb,AeS,AeX,AeV,Afa,AeY,AeL,AeU,AeW,AeM,Afn,Afh,reduceIte,AeK];done) | simp[hb,hd,ha,he,hf]),fb (by first | (simp only[hb,hd,ha,he,hf,AeP,AeT,Afb,AeS,AeX,AeV,Afa,AeY,AeL,AeU,AeW,AeM,Afn,Afh,reduceIte,AeK];done) | simp[hb,hd,ha,he,hf]),fb (by first | (simp only[hb,hd,ha,he,hf,AeP,AeT,Afb,AeS,AeX,AeV,Afa,AeY,AeL,AeU,AeW,AeM,Afn,Afh,reduceIte,AeK];done) | simp[hb,hd,ha,he,hf]),fb (by first | (simp only[hb,hd,ha,he,hf,AeP,AeT,Afb,AeS,AeX,AeV,Afa,AeY,AeL,AeU,AeW,AeM,Afn,Afh,reduceIte,AeK];done) | simp[hb,hd,ha,he,hf]),fb (by first | (simp only[hb,hd,ha,he,hf,AeP,AeT,Afb,AeS,AeX,AeV,Afa,AeY,AeL,AeU,AeW,AeM,Afn,Afh,reduceIte,AeK];done) | simp[hb,hd,ha,he,hf]),trivial⟩ .slnil)
     ·have hu:=he;try simp only[AeH,AeG] at hu
      have hx:=he;try simp at hx
      refine A2 rfl rfl he rfl (A2 rfl rfl he rfl (A2 rfl rfl he rfl (A2 rfl rfl he rfl (As (Ay rfl he rfl) rfl (As (Am rfl) rfl (A2 rfl rfl rfl rfl (A2 rfl rfl rfl rfl (A2 rfl rfl rfl rfl (A2 rfl rfl rfl rfl (As (Ay rfl rfl rfl) rfl (Ah ?_)))))))))));exact Ar (Bt trivial ⟨rfl,rfl,rfl,rfl,rfl,rfl,rfl,rfl,rfl,rfl,rfl,rfl,fb (by first | (simp only[hb,hd,ha,he,AeP,AeT,Afb,AeS,AeX,AeV,Afa,AeY,AeL,AeU,AeW,AeM,Afn,Afh,reduceIte,AeK];done) | simp[hb,hd,ha,he]),fb (by first | (simp only[hb,hd,ha,he,AeP,AeT,Afb,AeS,AeX,AeV,Afa,AeY,AeL,AeU,AeW,AeM,Afn,Afh,reduceIte,AeK];done) | simp[hb,hd,ha,he]),fb (by first | (simp only[hb,hd,ha,he,AeP,AeT,Afb,AeS,AeX,AeV,Afa,AeY,AeL,AeU,AeW,AeM,Afn,Afh,reduceIte,AeK];done) | simp[hb,hd,ha,he]),fb (by first | (simp only[hb,hd,ha,he,AeP,AeT,Afb,AeS,AeX,AeV,Afa,AeY,AeL,AeU,AeW,AeM,Afn,Afh,reduceIte,AeK];done) | simp[hb,hd,ha,he]),fb (by first | (simp only[hb,hd,ha,he,AeP,AeT,Afb,AeS,AeX,AeV,Afa,AeY,AeL,AeU,AeW,AeM,Afn,Afh,reduceIte,AeK];done) | simp[hb,hd,ha,he]),trivial⟩ .slnil)
    ·have hs:=ha;try simp only[AeH,AeG] at hs
     have ht:=ha;try simp at ht
     refine A2 rfl rfl ha rfl (A2 rfl rfl ha rfl (A2 rfl rfl ha rfl (A2 rfl rfl ha rfl (A2 rfl rfl ha rfl (As (Ay rfl ha rfl) rfl (As (Am rfl) rfl (A2 rfl rfl rfl rfl (A2 rfl rfl rfl rfl (A2 rfl rfl rfl rfl (A2 rfl rfl rfl rfl (As (Ay rfl rfl rfl) rfl (As (Am rfl) rfl (A2 rfl rfl rfl rfl (A2 rfl rfl rfl rfl (A2 rfl rfl rfl rfl (A2 rfl rfl rfl rfl (As (Ay rfl rfl rfl) rfl (Ah ?_))))))))))))))))));exact Ar (Bt trivial ⟨rfl,rfl,rfl,rfl,rfl,rfl,rfl,rfl,rfl,rfl,rfl,rfl,fb (by first | (simp only[hb,hd,ha,AeP,AeT,Afb,AeS,AeX,AeV,Afa,AeY,AeL,AeU,AeW,AeM,Afn,Afh,reduceIte,AeK];done) | simp[hb,hd,ha]),fb (by first | (simp only[hb,hd,ha,AeP,AeT,Afb,AeS,AeX,AeV,Afa,AeY,AeL,AeU,AeW,AeM,Afn,Afh,reduceIte,AeK];done) | simp[hb,hd,ha]),fb (by first | (simp only[hb,hd,ha,AeP,AeT,Afb,AeS,AeX,AeV,Afa,AeY,AeL,AeU,AeW,AeM,Afn,Afh,reduceIte,AeK];done) | simp[hb,hd,ha]),fb (by first | (simp only[hb,hd,ha,AeP,AeT,Afb,AeS,AeX,AeV,Afa,AeY,AeL,AeU,AeW,AeM,Afn,Afh,reduceIte,AeK];done) | simp[hb,hd,ha]),fb (by first | (simp only[hb,hd,ha,AeP,AeT,Afb,AeS,AeX,AeV,Afa,AeY,AeL,AeU,AeW,AeM,Afn,Afh,reduceIte,AeK];done) | simp[hb,hd,ha]),trivial⟩ .slnil)
   refine C1 (b:=((!(Cb (BK p (k:Int))))&&((!(CC (BK p (k:Int))))&&((!(decide ((BK p (k:Int))=(45))))&&(!(decide ((BK p (k:Int))=(95)))))))) rfl (λhi=>?_) (λhi=>?_)
   ·have h0:=hi;try simp only[AeH,AeG] at h0
    have h1:=hi;try simp at h1
    refine Ak (Af (As (A0 rfl) rfl (Ah (Ar (AG ?_)))));refine Ap (A3 (Ab (Ab (A3 (Ab (Aq (B2 rfl rfl) ?_))))));exact EY (by rw[Acd (P8 hi0.1) hi0.2 hj (by simp only[RU];revert hi;cases Cb (BK p ↑k)<;>cases CC (BK p ↑k)<;>simp)])
   ·have h0:=hi;try simp only[AeH,AeG] at h0
    have h1:=hi;try simp at h1
    refine Aw (AB (Ar (AG ?_)));refine Af (As (Am rfl) rfl (As (By rfl rfl (IntWalk.i64_in _ (by omega))) rfl (As (A0 rfl) rfl (Ah (Ar (AC (k+1) ?_ ⟨fi (by first | rfl | (simp;done) | omega | (simp;omega)),rfl,trivial⟩ .slnil))))));exact⟨⟨by omega,WN (P8 hi0.1) hi0.2 hj (by simp only[RU];revert hi;cases Cb (BK p ↑k)<;>cases CC (BK p ↑k)<;>simp<;>omega)⟩,by omega⟩
  ·have hj:=hd;try simp only[AeH,AeG] at hj
   have hr:=hd;try simp at hr
   refine Bn (Av (Av (AW (Ar (AG ?_)))));refine Ak (Af (As (A0 rfl) rfl (Ah (Ar (AG ?_)))));refine Ap (Aq (B2 rfl rfl) ?_);exact EY (by rw[Aam hi0.2 hj])
theorem Aes (p:List UInt8)(hp:p.length≤281474976710656)(w:World):Calls Tryz.prog 129 [.string (B (p))].toArray w (I5 w (.bool (Jq p))):=by
 refine Ey (n:=23) Tryz.func129 rfl Tryz.ntmps129 rfl (Ak (Af (As (A0 rfl) rfl (Ah (Ar (AG ?_))))));refine Ak (A5 [(0,.string (B (p))),(2,.bool (false)),(11,.bool (((decide (((p.length:Int))<(1)))||(decide ((64)<((p.length:Int)))))))] [] (φ:=True) ?_ (λhn=>?_))
 ·refine Af (As (Am rfl) rfl (As (B0 C4 rfl) rfl (As (Ci rfl rfl) rfl (As (Am rfl) rfl (AA (decide (((p.length:Int))<(1))) (λha=>?_) (λha=>?_))))))
  ·have hh:=ha;try simp only[AeH,AeG] at hh
   have hi:=ha;try simp at hi
   refine A2 rfl rfl ha rfl (A2 rfl rfl ha rfl (A2 rfl rfl ha rfl (As (An rfl ha rfl) rfl (Ah ?_))));exact Ar (Bt trivial ⟨rfl,rfl,fb (by first | (simp only[ha,AeP,AeT,Afb,AeS,AeX,AeV,Afa,AeY,AeL,AeU,AeW,AeM,Afn,Afh,reduceIte,AeK];done) | simp[ha]),trivial⟩ .slnil)
  ·have hh:=ha;try simp only[AeH,AeG] at hh
   have hi:=ha;try simp at hi
   refine AL rfl rfl ha (As (Am rfl) rfl (AL rfl rfl ha (As (B0 C4 rfl) rfl (AL rfl rfl ha (As (Dc rfl rfl) rfl (As (Ay rfl ha rfl) rfl (Ah ?_)))))));exact Ar (Bt trivial ⟨rfl,rfl,fb (by first | (simp only[ha,AeP,AeT,Afb,AeS,AeX,AeV,Afa,AeY,AeL,AeU,AeW,AeM,Afn,Afh,reduceIte,AeK];done) | simp[ha]),trivial⟩ .slnil)
 refine C1 (b:=((decide (((p.length:Int))<(1)))||(decide ((64)<((p.length:Int)))))) rfl (λhb=>?_) (λhb=>?_)
 ·have hj:=hb;try simp only[AeH,AeG] at hj
  have hk:=hb;try simp at hk
  refine Ak (Af (As (A0 rfl) rfl (Ah (Ar (AG ?_)))));refine Ap (Ab (Aq (B2 rfl rfl) ?_));exact EY (by rw[ZE hb])
 ·have hj:=hb;try simp only[AeH,AeG] at hj
  have hk:=hb;try simp at hk
  refine Aw (Ar (AG ?_));refine Ak (Ak (Af (As (A0 rfl) rfl (Ah (Ar (AG ?_))))));refine A6 (HK (S:=Nat) (λ(k:Nat)=>k≤p.length∧Jq p=Bh Jr k (p.drop k)) (λ(k:Nat)=>[(3,.int .i64 ((k:Int))),(0,.string (B (p)))]) (λ(k:Nat)=>[]) (λ(k:Nat)=>p.length-k) (0) ?_ ⟨fi (by first | rfl | (simp;done) | omega | (simp;omega)),rfl,trivial⟩ .slnil ?_)
  ·exact⟨Afv _,AbY hb⟩
  rintro k hi0;refine Ak (Ak (Af (As (Am rfl) rfl (As (Am rfl) rfl (As (B0 C4 rfl) rfl (As (Ci rfl rfl) rfl (Ah (Ar (AG ?_)))))))));refine C1 (b:=decide (((k:Int))<((p.length:Int)))) rfl (λhe=>?_) (λhe=>?_)
  ·have hd:=he;try simp only[AeH,AeG] at hd
   have hl:=he;try simp at hl
   refine Aw (Ar (AG ?_));refine Ak (A6 (Ak (Af (As (Am rfl) rfl (As (Am rfl) rfl (As (B3 C4 rfl rfl (by first | omega | (simp;omega) | (simp at *;omega)) (by first | omega | (simp;omega) | (simp at *;omega))) rfl (Cf Tryz.call177 rfl (λw hw=>Ac1 (BK p (k:Int)) w) rfl (As (BO rfl) rfl (Ah (Ar (AG ?_)))))))))));refine C1 (b:=!(CY (BK p (k:Int)))) rfl (λhf=>?_) (λhf=>?_)
   ·have hm:=hf;try simp only[AeH,AeG] at hm
    have hg:=hf;try simp only[AeH,AeG,AeI,Afj,Afe,Aft,Afk,Afg,not_or,Int.not_lt,Int.not_le] at hg
    refine Ak (Af (As (A0 rfl) rfl (Ah (Ar (AG ?_)))));refine Ap (A3 (Ab (Ab (A3 (Ab (Aq (B2 rfl rfl) ?_))))));exact EY (by rw[Acd (PD k) hi0 hd hg])
   ·have hm:=hf;try simp only[AeH,AeG] at hm
    have hg:=hf;try simp only[AeH,AeG,AeI,Afj,Afe,Aft,Afk,Afg,not_or,Int.not_lt,Int.not_le] at hg
    refine Aw (AB (Ar (AG ?_)));refine Af (As (Am rfl) rfl (As (By rfl rfl (IntWalk.i64_in _ (by omega))) rfl (As (A0 rfl) rfl (Ah (Ar (AC (k+1) ?_ ⟨fi (by first | rfl | (simp;done) | omega | (simp;omega)),rfl,trivial⟩ .slnil))))));exact⟨WN (PD k) hi0 hd hg,by omega⟩
  ·have hd:=he;try simp only[AeH,AeG] at hd
   have hl:=he;try simp at hl
   refine Bn (Av (Av (AW (Ar (AG ?_)))));refine Ak (Af (As (A0 rfl) rfl (Ah (Ar (AG ?_)))));refine Ap (Aq (B2 rfl rfl) ?_);exact EY (by rw[Aam hi0 hd])
theorem AcV (p:List UInt8)(hp:p.length≤281474976710656)(w:World):Calls Tryz.prog 156 [.string (B (p))].toArray w (I5 w (.bool (H9 p))):=by
 refine Ey (n:=53) Tryz.func156 rfl Tryz.ntmps156 rfl (Ak (Af (As (A0 rfl) rfl (Ah (Ar (AG ?_))))));refine Ak (Af (As (Am rfl) rfl (As (A0 rfl) rfl (Ah (Ar (AG ?_))))));refine A5 [(2,.bool (false)),(3,.string (B ((if ((decide ((0)<((p.length:Int))))&&(decide ((BK p 0)=(45))))=true then List.drop (Int.toNat (1)) p else p))))] [] (φ:=(!((decide ((0)<((p.length:Int))))&&(decide ((BK p 0)=(45))))||(!(((decide ((0)<(((List.drop (Int.toNat (1)) p).length:Int))))&&(decide ((BK (List.drop (Int.toNat (1)) p) 0)=(48)))))))=true) ?_ (λhn=>?_)
 ·refine A5 [(2,.bool (false)),(3,.string (B (p))),(13,.bool (((decide ((0)<((p.length:Int))))&&(decide ((BK p 0)=(45))))))] [] (φ:=True) ?_ (λh8=>?_)
  ·refine Af (As (Am rfl) rfl (As (B0 C4 rfl) rfl (As (Dc rfl rfl) rfl (As (Am rfl) rfl (AA (decide ((0)<((p.length:Int)))) (λhe=>?_) (λhe=>?_))))))
   ·have ho:=he;try simp only[AeH,AeG] at ho
    have hq:=he;try simp at hq
    refine AL rfl rfl he (As (Am rfl) rfl (AL rfl rfl he (As (B3 C4 rfl rfl (by first | omega | (simp;omega) | (simp at *;omega) | exact Dt (by assumption)) (by first | omega | (simp;omega) | (simp at *;omega) | exact Dt (by assumption))) rfl (AL rfl rfl he (As (B7 rfl rfl) rfl (As (An rfl he rfl) rfl (Ah ?_)))))));exact Ar (Bt trivial ⟨rfl,rfl,fb (by first | (simp only[he,AeP,AeT,Afb,AeS,AeX,AeV,Afa,AeY,AeL,AeU,AeW,AeM,Afn,Afh,reduceIte,AeK];done) | simp[he]),trivial⟩ .slnil)
   ·have ho:=he;try simp only[AeH,AeG] at ho
    have hq:=he;try simp at hq
    refine A2 rfl rfl he rfl (A2 rfl rfl he rfl (A2 rfl rfl he rfl (As (Ay rfl he rfl) rfl (Ah ?_))));exact Ar (Bt trivial ⟨rfl,rfl,fb (by first | (simp only[he,AeP,AeT,Afb,AeS,AeX,AeV,Afa,AeY,AeL,AeU,AeW,AeM,Afn,Afh,reduceIte,AeK];done) | simp[he]),trivial⟩ .slnil)
  refine C1 (b:=((decide ((0)<((p.length:Int))))&&(decide ((BK p 0)=(45))))) rfl (λhd=>?_) (λhd=>?_)
  ·have hr:=hd;try simp only[AeH,AeG] at hr
   have ht:=hd;try simp at ht
   refine Ak (Af (As (Am rfl) rfl (As (DG C4 rfl rfl (by first | omega | (simp;omega)) (by first | omega | (simp;omega))) rfl (As (A0 rfl) rfl (Ah (Ar (AG ?_)))))));refine A5 [(2,.bool (false)),(3,.string (B (List.drop (Int.toNat (1)) p))),(23,.bool (((decide ((0)<(((List.drop (Int.toNat (1)) p).length:Int))))&&(decide ((BK (List.drop (Int.toNat (1)) p) 0)=(48))))))] [] (φ:=True) ?_ (λh9=>?_)
   ·refine Af (As (Am rfl) rfl (As (B0 C4 rfl) rfl (As (Dc rfl rfl) rfl (As (Am rfl) rfl (AA (decide ((0)<(((List.drop (Int.toNat (1)) p).length:Int)))) (λhf=>?_) (λhf=>?_))))))
    ·have hu:=hf;try simp only[AeH,AeG] at hu
     have hw:=hf;try simp at hw
     refine AL rfl rfl hf (As (Am rfl) rfl (AL rfl rfl hf (As (B3 C4 rfl rfl (by first | omega | (simp;omega) | (simp at *;omega) | exact Dt (by assumption)) (by first | omega | (simp;omega) | (simp at *;omega) | exact Dt (by assumption))) rfl (AL rfl rfl hf (As (B7 rfl rfl) rfl (As (An rfl hf rfl) rfl (Ah ?_)))))));exact Ar (Bt trivial ⟨rfl,rfl,fb (by first | (simp only[hd,hf,AeP,AeT,Afb,AeS,AeX,AeV,Afa,AeY,AeL,AeU,AeW,AeM,Afn,Afh,reduceIte,AeK];done) | simp[hd,hf]),trivial⟩ .slnil)
    ·have hu:=hf;try simp only[AeH,AeG] at hu
     have hw:=hf;try simp at hw
     refine A2 rfl rfl hf rfl (A2 rfl rfl hf rfl (A2 rfl rfl hf rfl (As (Ay rfl hf rfl) rfl (Ah ?_))));exact Ar (Bt trivial ⟨rfl,rfl,fb (by first | (simp only[hd,hf,AeP,AeT,Afb,AeS,AeX,AeV,Afa,AeY,AeL,AeU,AeW,AeM,Afn,Afh,reduceIte,AeK];done) | simp[hd,hf]),trivial⟩ .slnil)
   refine C1 (b:=((decide ((0)<(((List.drop (Int.toNat (1)) p).length:Int))))&&(decide ((BK (List.drop (Int.toNat (1)) p) 0)=(48))))) rfl (λhi=>?_) (λhi=>?_)
   ·have hl:=hi;try simp only[AeH,AeG] at hl
    have f125:=hi;try simp only[AeH,AeG,AeI,Afj,Afe,Aft,Afk,Afg,not_or,Int.not_lt,Int.not_le] at f125
    refine Ak (Af (As (A0 rfl) rfl (Ah (Ar (AG ?_)))));refine Ap (Ab (Aq (B2 rfl rfl) ?_));exact EY (by rw[ZU (by simp only[I4];exact hd) (f125).2])
   ·have hl:=hi;try simp only[AeH,AeG] at hl
    have f125:=hi;try simp only[AeH,AeG,AeI,Afj,Afe,Aft,Afk,Afg,not_or,Int.not_lt,Int.not_le] at f125
    refine Aw ?_;exact Ar (Bt (by first | (simp only[hd,hi,AeP,AeT,Afb,AeS,AeX,AeV,Afa,AeY,AeL,AeU,AeW,AeM,Afn,Afh,reduceIte,AeK];done) | simp[hd,hi]) ⟨rfl,fs (by first | (simp only[hd,hi,AeP,AeT,Afb,AeS,AeX,AeV,Afa,AeY,AeL,AeU,AeW,AeM,Afn,Afh,reduceIte,AeK];done) | simp[hd,hi]),trivial⟩ .slnil)
  ·have hr:=hd;try simp only[AeH,AeG] at hr
   have ht:=hd;try simp at ht
   refine Aw ?_;exact Ar (Bt (by first | (simp only[hd,AeP,AeT,Afb,AeS,AeX,AeV,Afa,AeY,AeL,AeU,AeW,AeM,Afn,Afh,reduceIte,AeK];done) | simp[hd]) ⟨rfl,fs (by first | (simp only[hd,AeP,AeT,Afb,AeS,AeX,AeV,Afa,AeY,AeL,AeU,AeW,AeM,Afn,Afh,reduceIte,AeK];done) | simp[hd]),trivial⟩ .slnil)
 have hl:=hn;try simp only[AeH,AeG] at hl
 have f125:=hn;try simp only[AeH,AeG,AeI,Afj,Afe,Aft,Afk,Afg,not_or,Int.not_lt,Int.not_le] at f125
 have hdg:ES p=(if ((decide ((0)<((p.length:Int))))&&(decide ((BK p 0)=(45))))=true then List.drop (Int.toNat (1)) p else p):=rfl;have hdl:=PP p;have hform:I4 p=true→¬ ((0:Int)<(ES p).length∧BK (ES p) 0=48):=by intro hs;rw[show ES p=List.drop 1 p from by simp[ES,hs]];simp only[I4] at hs;intro hx;simp_all;grind
 rw[hdg] at hdl hform;clear hn hl f125;generalize(if ((decide ((0)<((p.length:Int))))&&(decide ((BK p 0)=(45))))=true then List.drop (Int.toNat (1)) p else p)=dg at hdg hdl hform ⊢;refine Ak (A5 [(2,.bool (false)),(3,.string (B (dg))),(36,.bool (((decide (((dg.length:Int))=(0)))||((decide ((1)<((dg.length:Int))))&&(decide ((BK dg 0)=(48)))))))] [] (φ:=True) ?_ (λhA=>?_))
 ·refine Af (As (Am rfl) rfl (As (B0 C4 rfl) rfl (As (B7 rfl rfl) rfl (As (Am rfl) rfl (AA (decide (((dg.length:Int))=(0))) (λha=>?_) (λha=>?_))))))
  ·have hy:=ha;try simp only[AeH,AeG] at hy
   have hz:=ha;try simp at hz
   refine A2 rfl rfl ha rfl (A2 rfl rfl ha rfl (A2 rfl rfl ha rfl (A2 rfl rfl ha rfl (BY rfl rfl rfl (BY rfl rfl rfl (BY rfl rfl rfl (A2 rfl rfl ha rfl (As (An rfl ha rfl) rfl (Ah ?_)))))))));exact Ar (Bt trivial ⟨rfl,rfl,fb (by first | (simp only[ha,AeP,AeT,Afb,AeS,AeX,AeV,Afa,AeY,AeL,AeU,AeW,AeM,Afn,Afh,reduceIte,AeK];done) | simp[ha]),trivial⟩ .slnil)
  ·have hy:=ha;try simp only[AeH,AeG] at hy
   have hz:=ha;try simp at hz
   refine AL rfl rfl ha (As (Am rfl) rfl (AL rfl rfl ha (As (B0 C4 rfl) rfl (AL rfl rfl ha (As (Dc rfl rfl) rfl (AL rfl rfl ha (As (Am rfl) rfl (AA (decide ((1)<((dg.length:Int)))) (λhg=>?_) (λhg=>?_)))))))))
   ·have h0:=hg;try simp only[AeH,AeG] at h0
    have f128:=hg;try simp at f128
    refine AL rfl rfl hg (As (Am rfl) rfl (AL rfl rfl hg (As (B3 C4 rfl rfl (by first | omega | (simp;omega) | (simp at *;omega) | exact Dt (by assumption)) (by first | omega | (simp;omega) | (simp at *;omega) | exact Dt (by assumption))) rfl (AL rfl rfl hg (As (B7 rfl rfl) rfl (AL rfl rfl ha (As (An rfl hg rfl) rfl (As (Ay rfl ha rfl) rfl (Ah ?_)))))))));exact Ar (Bt trivial ⟨rfl,rfl,fb (by first | (simp only[ha,hg,AeP,AeT,Afb,AeS,AeX,AeV,Afa,AeY,AeL,AeU,AeW,AeM,Afn,Afh,reduceIte,AeK];done) | simp[ha,hg]),trivial⟩ .slnil)
   ·have h0:=hg;try simp only[AeH,AeG] at h0
    have f128:=hg;try simp at f128
    refine A2 rfl rfl hg rfl (A2 rfl rfl hg rfl (A2 rfl rfl hg rfl (AL rfl rfl ha (As (Ay rfl hg rfl) rfl (As (Ay rfl ha rfl) rfl (Ah ?_))))));exact Ar (Bt trivial ⟨rfl,rfl,fb (by first | (simp only[ha,hg,AeP,AeT,Afb,AeS,AeX,AeV,Afa,AeY,AeL,AeU,AeW,AeM,Afn,Afh,reduceIte,AeK];done) | simp[ha,hg]),trivial⟩ .slnil)
 refine C1 (b:=((decide (((dg.length:Int))=(0)))||((decide ((1)<((dg.length:Int))))&&(decide ((BK dg 0)=(48)))))) rfl (λhh=>?_) (λhh=>?_)
 ·have h1:=hh;try simp only[AeH,AeG] at h1
  have h2:=hh;try simp at h2
  refine Ak (Af (As (A0 rfl) rfl (Ah (Ar (AG ?_)))));refine Ap (Ab (Aq (B2 rfl rfl) ?_));exact EY (by rw[ZT hdg hh])
 ·have h1:=hh;try simp only[AeH,AeG] at h1
  have h2:=hh;try simp at h2
  refine Aw (Ar (AG ?_));refine Ak (Ak (Af (As (Am rfl) rfl (As (B0 C4 rfl) rfl (As (Am rfl) rfl (Ah (Ar (AG ?_))))))));refine A6 (HK (S:=Nat) (λ(k:Nat)=>k≤dg.length∧Bh Eu 0 dg=Bh Eu k (dg.drop k)) (λ(k:Nat)=>[(39,.int .i64 ((k:Int))),(3,.string (B (dg))),(38,.int .i64 ((dg.length:Int)))]) (λ(k:Nat)=>[]) (λ(k:Nat)=>dg.length-k) (0) ?_ ⟨fi (by first | rfl | (simp;done) | omega | (simp;omega)),rfl,rfl,trivial⟩ .slnil ?_)
  ·exact⟨Afv _,by simp⟩
  rintro k hi0;refine Ak (Af (As (Ci rfl rfl) rfl (Ah (Ar (AG ?_)))));refine Ak (C1 (b:=decide (((k:Int))<((dg.length:Int)))) rfl (λhj=>?_) (λhj=>?_))
  ·have hm:=hj;try simp only[AeH,AeG] at hm
   have h3:=hj;try simp at h3
   refine Aw (Ar (AG ?_));refine Ak (A6 (Ak (Af (As (Am rfl) rfl (As (A0 rfl) rfl (Ah (Ar (AG ?_))))))));refine A5 [(3,.string (B (dg))),(4,.int .i64 ((k:Int))),(38,.int .i64 ((dg.length:Int))),(39,.int .i64 ((k:Int))),(40,.bool (decide (((k:Int))<((dg.length:Int))))),(41,.int .i64 ((k:Int))),(42,.string (B (dg))),(43,.int .i64 ((k:Int))),(44,.int .u8 (BK dg (k:Int))),(45,.bool (decide ((BK dg (k:Int))<(48)))),(46,.bool (decide ((BK dg (k:Int))<(48)))),(51,.bool (((decide ((BK dg (k:Int))<(48)))||(decide ((57)<(BK dg (k:Int)))))))] [] (φ:=True) ?_ (λhB=>?_)
   ·refine Af (As (Am rfl) rfl (As (Am rfl) rfl (As (B3 C4 rfl rfl (by first | omega | (simp;omega) | (simp at *;omega) | exact Dt (by assumption)) (by first | omega | (simp;omega) | (simp at *;omega) | exact Dt (by assumption))) rfl (As (Ci rfl rfl) rfl (As (Am rfl) rfl (AA (decide ((BK dg (k:Int))<(48))) (λhb=>?_) (λhb=>?_)))))))
    ·have h4:=hb;try simp only[AeH,AeG] at h4
     have h5:=hb;try simp at h5
     refine A2 rfl rfl hb rfl (A2 rfl rfl hb rfl (A2 rfl rfl hb rfl (A2 rfl rfl hb rfl (As (An rfl hb rfl) rfl (Ah ?_)))));exact Ar (Bt trivial ⟨rfl,rfl,rfl,rfl,rfl,rfl,rfl,rfl,rfl,rfl,rfl,fb (by first | (simp only[hh,hj,hb,AeP,AeT,Afb,AeS,AeX,AeV,Afa,AeY,AeL,AeU,AeW,AeM,Afn,Afh,reduceIte,AeK];done) | simp[hh,hj,hb]),trivial⟩ .slnil)
    ·have h4:=hb;try simp only[AeH,AeG] at h4
     have h5:=hb;try simp at h5
     refine AL rfl rfl hb (As (Am rfl) rfl (AL rfl rfl hb (As (Am rfl) rfl (AL rfl rfl hb (As (B3 C4 rfl rfl (by first | omega | (simp;omega) | (simp at *;omega) | exact Dt (by assumption)) (by first | omega | (simp;omega) | (simp at *;omega) | exact Dt (by assumption))) rfl (AL rfl rfl hb (As (Dc rfl rfl) rfl (As (Ay rfl hb rfl) rfl (Ah ?_)))))))));exact Ar (Bt trivial ⟨rfl,rfl,rfl,rfl,rfl,rfl,rfl,rfl,rfl,rfl,rfl,fb (by first | (simp only[hh,hj,hb,AeP,AeT,Afb,AeS,AeX,AeV,Afa,AeY,AeL,AeU,AeW,AeM,Afn,Afh,reduceIte,AeK];done) | simp[hh,hj,hb]),trivial⟩ .slnil)
   refine C1 (b:=((decide ((BK dg (k:Int))<(48)))||(decide ((57)<(BK dg (k:Int)))))) rfl (λhk=>?_) (λhk=>?_)
   ·have h6:=hk;try simp only[AeH,AeG] at h6
    have h7:=hk;try simp at h7
    refine Ak (Af (As (A0 rfl) rfl (Ah (Ar (AG ?_)))));refine Ap (A3 (Ab (Ab (A3 (Ab (Aq (B2 rfl rfl) ?_))))));exact EY (by simp[H9,hdg,ZZ hi0 hm hk])
   ·have h6:=hk;try simp only[AeH,AeG] at h6
    have h7:=hk;try simp at h7
    refine Aw (AB (Ar (AG ?_)));refine Af (As (By rfl rfl (IntWalk.i64_in _ (by omega))) rfl (As (Am rfl) rfl (Ah (Ar (AC (k+1) ?_ ⟨fi (by first | rfl | (simp;done) | omega | (simp;omega)),rfl,rfl,trivial⟩ .slnil)))));exact Uu hi0 hm hk
  ·have hm:=hj;try simp only[AeH,AeG] at hm
   have h3:=hj;try simp at h3
   refine Bn (Av (Av (AW (Ar (AG ?_)))));refine Ak (Af (As (A0 rfl) rfl (Ah (Ar (AG ?_)))));refine Ap (Aq (B2 rfl rfl) ?_);exact EY (by rw[ZS hdg hform hh (WE hi0 hm)])
theorem AaS (p:List UInt8)(hp:p.length≤281474976710656)(w:World):Calls Tryz.prog 108 [.string (B (p))].toArray w (I5 w (.tuple #[.int .i64 (B6 p),.int .i64 (Cq p)])):=by
 refine Ey (n:=42) Tryz.func108 rfl Tryz.ntmps108 rfl (Ak (Af (As (A0 rfl) rfl (As (A0 rfl) rfl (Ah (Ar (AG ?_)))))));refine A5 [(0,.string (B (p))),(2,.int .i64 (0)),(3,.int .i64 (0)),(4,.bool (((decide ((0)<((p.length:Int))))&&(decide ((BK p 0)=(45))))))] [] (φ:=True) ?_ (λhu=>?_)
 ·refine Af (As (Am rfl) rfl (As (B0 C4 rfl) rfl (As (Dc rfl rfl) rfl (As (Am rfl) rfl (AA (decide ((0)<((p.length:Int)))) (λha=>?_) (λha=>?_))))))
  ·have hm:=ha;try simp only[AeH,AeG] at hm
   have hn:=ha;try simp at hn
   refine AL rfl rfl ha (As (Am rfl) rfl (AL rfl rfl ha (As (B3 C4 rfl rfl (by first | omega | (simp;omega) | (simp at *;omega)) (by first | omega | (simp;omega) | (simp at *;omega))) rfl (AL rfl rfl ha (As (B7 rfl rfl) rfl (As (An rfl ha rfl) rfl (As (A0 rfl) rfl (Ah ?_))))))));exact Ar (Bt trivial ⟨rfl,rfl,rfl,fb (by first | (simp only[ha,AeP,AeT,Afb,AeS,AeX,AeV,Afa,AeY,AeL,AeU,AeW,AeM,Afn,Afh,reduceIte,AeK];done) | simp[ha]),trivial⟩ .slnil)
  ·have hm:=ha;try simp only[AeH,AeG] at hm
   have hn:=ha;try simp at hn
   refine A2 rfl rfl ha rfl (A2 rfl rfl ha rfl (A2 rfl rfl ha rfl (As (Ay rfl ha rfl) rfl (As (A0 rfl) rfl (Ah ?_)))));exact Ar (Bt trivial ⟨rfl,rfl,rfl,fb (by first | (simp only[ha,AeP,AeT,Afb,AeS,AeX,AeV,Afa,AeY,AeL,AeU,AeW,AeM,Afn,Afh,reduceIte,AeK];done) | simp[ha]),trivial⟩ .slnil)
 refine Ak (Ak (Af (As (Am rfl) rfl (Cf Tryz.call156 rfl (λw hw=>AcV p (by first | omega | (simp;done) | (simp;omega) | (simp at *;omega) | (split<;>first | omega | (simp;omega))) w) rfl (As (BO rfl) rfl (Ah (Ar (AG ?_))))))));refine C1 (b:=!(H9 p)) rfl (λhb=>?_) (λhb=>?_)
 ·have ho:=hb;try simp only[AeH,AeG] at ho
  have hf:=hb;try simp only[AeH,AeG,AeI,Afj,Afe,Aft,Afk,Afg,not_or,Int.not_lt,Int.not_le] at hf
  refine Ak (Af (As (A0 rfl) rfl (As (A0 rfl) rfl (Ah (Ar (AG ?_))))));refine Ap (Ab (Aq (HW rfl rfl rfl) ?_));exact EY (by simp[B6,Cq,hf])
 ·have ho:=hb;try simp only[AeH,AeG] at ho
  have hf:=hb;try simp only[AeH,AeG,AeI,Afj,Afe,Aft,Afk,Afg,not_or,Int.not_lt,Int.not_le] at hf
  refine Aw (Ar (AG ?_));refine Ak (Af (As (A0 rfl) rfl (Ah (Ar (AG ?_)))));refine Ak (Ak (Af (As (Am rfl) rfl (As (B0 C4 rfl) rfl (As (Am rfl) rfl (Ah (Ar (AG ?_))))))));refine A6 (HK (S:=Nat×Nat) (λ(x:Nat×Nat)=>match x with | ⟨k,n⟩=>k≤p.length∧n≤1000000000000∧EA 0 p=EA n (p.drop k)) (λ(x:Nat×Nat)=>match x with | ⟨k,n⟩=>[(20,.int .i64 ((k:Int))),(5,.int .i64 ((n:Int))),(0,.string (B (p))),(4,.bool (((decide ((0)<((p.length:Int))))&&(decide ((BK p 0)=(45)))))),(19,.int .i64 ((p.length:Int)))]) (λ(x:Nat×Nat)=>match x with | ⟨k,n⟩=>[]) (λ(x:Nat×Nat)=>match x with | ⟨k,n⟩=>p.length-k) (0,0) ?_ ⟨fi (by first | rfl | (simp;done) | omega | (simp;omega)),fi (by first | rfl | (simp;done) | omega | (simp;omega)),rfl,rfl,rfl,trivial⟩ .slnil ?_)
  ·exact⟨Afv _,Afv _,by simp⟩
  rintro⟨k,n⟩ hi0;have hk1:=hi0.1;have hk2:=hi0.2.1;refine Ak (Af (As (Ci rfl rfl) rfl (Ah (Ar (AG ?_)))));refine Ak (C1 (b:=decide (((k:Int))<((p.length:Int)))) rfl (λhd=>?_) (λhd=>?_))
  ·have hh:=hd;try simp only[AeH,AeG] at hh
   have f138:=hd;try simp at f138
   refine Aw (Ar (AG ?_));refine A5 [(0,.string (B (p))),(4,.bool (((decide ((0)<((p.length:Int))))&&(decide ((BK p 0)=(45)))))),(5,.int .i64 ((if decide ((BK p (k:Int))=(45))=true then(n:Int) else(10*(n:Int))+((BK p (k:Int))-48)))),(6,.int .i64 ((k:Int))),(19,.int .i64 ((p.length:Int))),(20,.int .i64 ((k:Int))),(21,.bool (decide (((k:Int))<((p.length:Int))))),(22,.int .i64 ((k:Int))),(23,.string (B (p))),(24,.int .i64 ((k:Int))),(25,.int .u8 (BK p (k:Int))),(26,.bool (decide ((BK p (k:Int))=(45))))] [] (φ:=((decide ((BK p (k:Int))=(45)))||(!(decide ((1000000000000)<((10*(n:Int))+((BK p (k:Int))-48))))))=true) ?_ (λht=>?_)
   ·refine A6 (Ak (Af (As (Am rfl) rfl (As (A0 rfl) rfl (Ah (Ar (AG ?_)))))));refine Ak (Ak (Af (As (Am rfl) rfl (As (Am rfl) rfl (As (B3 C4 rfl rfl (by first | omega | (simp;omega) | (simp at *;omega)) (by first | omega | (simp;omega) | (simp at *;omega))) rfl (As (B7 rfl rfl) rfl (Ah (Ar (AG ?_)))))))));refine C1 (b:=decide ((BK p (k:Int))=(45))) rfl (λhe=>?_) (λhe=>?_)
    ·have hl:=he;try simp only[AeH,AeG] at hl
     have hq:=he;try simp at hq
     refine Bn (Av (AW ?_));exact Ar (Bt (by first | (simp only[hb,hd,he,AeP,AeT,Afb,AeS,AeX,AeV,Afa,AeY,AeL,AeU,AeW,AeM,Afn,Afh,reduceIte,AeK];done) | simp[hb,hd,he]) ⟨rfl,rfl,fi (by first | (simp only[hb,hd,he,AeP,AeT,Afb,AeS,AeX,AeV,Afa,AeY,AeL,AeU,AeW,AeM,Afn,Afh,reduceIte,AeK];done) | simp[hb,hd,he]),rfl,rfl,rfl,rfl,rfl,rfl,rfl,rfl,rfl,trivial⟩ .slnil)
    ·have hl:=he;try simp only[AeH,AeG] at hl
     have hq:=he;try simp at hq
     refine Aw (Ar (AG ?_));refine Ak (Af (As (Am rfl) rfl (As (Wm rfl rfl (IntWalk.i64_in _ (by first | omega | (have:=I2 (p:=p) (k:=k) (by simp_all) (by omega) (by simp_all);omega)))) rfl (As (Am rfl) rfl (As (Am rfl) rfl (As (B3 C4 rfl rfl (by first | omega | (simp;omega) | (simp at *;omega)) (by first | omega | (simp;omega) | (simp at *;omega))) rfl (As (Gi rfl rfl (IntWalk.u8_in _ (by first | omega | (have:=I2 (p:=p) (k:=k) (by simp_all) (by omega) (by simp_all);omega)))) rfl (As (P2 ⟨_,Tryz.underlying5⟩ yu3 rfl (IntWalk.i64_in _ (by first | omega | (have:=I2 (p:=p) (k:=k) (by simp_all) (by omega) (by simp_all);omega)))) rfl (As (By rfl rfl (IntWalk.i64_in _ (by first | omega | (have:=I2 (p:=p) (k:=k) (by simp_all) (by omega) (by simp_all);omega)))) rfl (As (A0 rfl) rfl (Ah (Ar (AG ?_)))))))))))));refine Ak (Af (As (Am rfl) rfl (As (Dc rfl rfl) rfl (Ah (Ar (AG ?_))))));refine C1 (b:=decide ((1000000000000)<((10*(n:Int))+((BK p (k:Int))-48)))) rfl (λhg=>?_) (λhg=>?_)
     ·have hi:=hg;try simp only[AeH,AeG] at hi
      have hk:=hg;try simp at hk
      refine Ak (Af (As (A0 rfl) rfl (As (A0 rfl) rfl (Ah (Ar (AG ?_))))));refine Ap (A3 (Ab (Ab (A3 (Ab (Aq (HW rfl rfl rfl) ?_))))));have hx:=(Np hf).2 (YJ hf hh hi0.2.2 hl hi);exact EY (by rw[hx.1,hx.2])
     ·have hi:=hg;try simp only[AeH,AeG] at hi
      have hk:=hg;try simp at hk
      refine Aw (AB ?_);exact Ar (Bt (by first | (simp only[hb,hd,he,hg,AeP,AeT,Afb,AeS,AeX,AeV,Afa,AeY,AeL,AeU,AeW,AeM,Afn,Afh,reduceIte,AeK];done) | simp[hb,hd,he,hg]) ⟨rfl,rfl,fi (by first | (simp only[hb,hd,he,hg,AeP,AeT,Afb,AeS,AeX,AeV,Afa,AeY,AeL,AeU,AeW,AeM,Afn,Afh,reduceIte,AeK];done) | simp[hb,hd,he,hg]),rfl,rfl,rfl,rfl,rfl,rfl,rfl,rfl,rfl,trivial⟩ .slnil)
   have hi:=ht;try simp only[AeH,AeG] at hi
   have hk:=ht;try simp only[AeH,AeG,AeI,Afj,Afe,Aft,Afk,Afg,not_or,Int.not_lt,Int.not_le] at hk
   obtain⟨n1,hn1,hn2,hn3⟩:=YL (p:=p) (k:=k) (n:=n) hf hh hi0.2.2 hk2 (by simpa using hi);rw[hn1];refine Af (As (By rfl rfl (IntWalk.i64_in _ (by first | omega | (have:=I2 (p:=p) (k:=k) (by simp_all) (by omega) (by simp_all);omega)))) rfl (As (Am rfl) rfl (Ah (Ar (AC (k+1,n1) ?_ ⟨fi (by first | rfl | (simp;done) | omega | (simp;omega)),fi (by first | rfl | (simp;done) | omega | (simp;omega)),rfl,rfl,rfl,trivial⟩ .slnil)))));exact⟨⟨by omega,hn3,hn2⟩,by show p.length-(k+1)<p.length-k;omega⟩
  ·have hh:=hd;try simp only[AeH,AeG] at hh
   have f138:=hd;try simp at f138
   refine Bn (Av (Av (AW (Ar (AG ?_)))));refine Ak (Ak (Af (As (Am rfl) rfl (Ah (Ar (AG ?_))))));refine C1 (b:=((decide ((0)<((p.length:Int))))&&(decide ((BK p 0)=(45))))) rfl (λhj=>?_) (λhj=>?_)
   ·have hr:=hj;try simp only[AeH,AeG] at hr
    have hs:=hj;try simp at hs
    refine Ak (Af (As (Am rfl) rfl (As (AbW rfl (IntWalk.i64_in _ (by omega))) rfl (As (A0 rfl) rfl (As (A0 rfl) rfl (Ah (Ar (AG ?_))))))));refine Ap (Ab (Aq (HW rfl rfl rfl) ?_));have hx:=(Np hf).1 n (VZ hi0.2.2 hh);exact EY (by rw[hx.1,hx.2];simp only[I4];simp only[hj];simp)
   ·have hr:=hj;try simp only[AeH,AeG] at hr
    have hs:=hj;try simp at hs
    refine Aw (Ar (AG ?_));refine Ak (Af (As (Am rfl) rfl (As (A0 rfl) rfl (As (A0 rfl) rfl (Ah (Ar (AG ?_)))))));refine Ap (Aq (HW rfl rfl rfl) ?_);have hx:=(Np hf).1 n (VZ hi0.2.2 hh);exact EY (by rw[hx.1,hx.2];simp only[I4];simp only[hj];simp)
end Go.Proofs.YtmjlemhondjfhaaGreatDoor
namespace Go.Proofs
open Go.Shelf
end Go.Proofs
namespace Go.Proofs.YtmjlemhondjfhaaGreatDoor.Q
open Go Go.RowKit
set_option linter.unusedVariables false
def GE (Z:Fz):Prop:=∀w,WT Z w→WU w
theorem GE.mono {Z Z':Fz}(h:Fz.le Z Z')(hg:GE Z):GE Z':=λw hw=>hg w ⟨λb o e=>hw b o (h b o e),λk i b e=>hw.nm k i b (h.nm k i b e)⟩
theorem KL.rle {P:Program}{E:Fz→Prop}{f:FuncId}{args:List Rp}{r r':Rp}(h:KL P E f args r)(hr:HS r r'):KL P E f args r':=λw Z vs hv hs=>
 (h w Z vs hv hs).mono λe w' ⟨q,v,H,Z',he,⟨hq,hH⟩,hp,ht⟩=>⟨r',v,H,Z',he,⟨rfl,hH⟩,hr Z' v (hq▸hp),ht⟩
theorem HS.tup2 {a b:Value}:HS (rv (.tuple #[a,b])) (Dy [rv a,rv b]):=λZ v h=>⟨[a,b],h,rfl,rfl,trivial⟩
theorem KL.of_id {P:Program}{E:Fz→Prop}{f:FuncId}{vs:List Value}{v:Value}(h:∀w,Calls P f vs.toArray w (λe w'=>e = .returned v∧w'=w)):KL P E f (vs.map rv) (rv v):=
 KL.of_old λw Z _ _=>(h w).mono λe w' ⟨he,hw⟩=>⟨he,by rw[hw];exact Proofs.YtmjlemhondjfhaaGreatDoor.St.refl w []⟩
theorem Um (m:Int)(g:BG .i64 m=true):KL Tryz.prog GE 163 [rI .i64 m] (rS (Lib.itoa m)):=KL.of_old (vs:=[.int .i64 m]) λw Z hf he=>ZR m (IF g).1 (IF g).2 w (he w hf)
theorem AcM (m:Int)(g:BG .i64 m=true):KL Tryz.prog GE 122 [rI .i64 m] (rS (Lib.itoa m)):=KL.of_old (vs:=[.int .i64 m]) λw Z hf he=>ZC m (IF g).1 (IF g).2 w (he w hf)
theorem Wh (s:Ai)(g:Eh 1 s.length=true):KL Tryz.prog GE 98 [rS s] (Dy [rI .i64 (B6 s),rI .i64 (Cq s)]):=(KL.of_old (vs:=[.string (B s)]) λw Z hf he=>AaT s (by simp[Eh] at g;omega) w (he w hf)).rle HS.tup2
theorem Sv (s:Ai)(c:UInt8):KL Tryz.prog GE 179 [rS s,rS [c]] (rI .i64 (Lib.countByte s c)):=KL.of_id (vs:=[.string (B s),.string (B [c])]) λw=>by have:=Tryz.strings_Count_one (B s) c w;rwa [VG] at this
theorem AbX (s:Ai)(m:Int):KL Tryz.prog GE 207 [rS s,rI .u8 m] (rI .i64 (Lib.indexByte s (Int.toNat m).toUInt8)):=KL.of_old (vs:=[.string (B s),.int .u8 m]) λw Z hf he=>TV s m w
theorem Aby (s:Ai):KL Tryz.prog GE 115 [rS s] (rB (Jq s)):=KL.of_old (vs:=[.string (B s)]) λw Z hf he=>Aet s w
theorem P6 (s:Ai):KL Tryz.prog GE 85 [rS s] (rB (Cv s)):=KL.of_old (vs:=[.string (B s)]) λw Z hf he=>Ac8 s w
theorem AdG (s:Ai)(g:Eh 1 s.length=true):KL Tryz.prog GE 129 [rS s] (rB (Jq s)):=KL.of_old (vs:=[.string (B s)]) λw Z hf he=>Aes s (by simp[Eh] at g;omega) w
theorem RT (s:Ai)(g:Eh 1 s.length=true):KL Tryz.prog GE 100 [rS s] (rB (Cv s)):=KL.of_old (vs:=[.string (B s)]) λw Z hf he=>Ac7 s (by simp[Eh] at g;omega) w
theorem T0 (s:Ai)(g:Eh 1 s.length=true):KL Tryz.prog GE 108 [rS s] (Dy [rI .i64 (B6 s),rI .i64 (Cq s)]):=(KL.of_old (vs:=[.string (B s)]) λw Z hf he=>AaS s (by simp[Eh] at g;omega) w).rle HS.tup2
open Go Go.RowKit Go.ChangeShapes Go.Deep
set_option linter.unusedSimpArgs false
def ZW (W:World):Fz:=⟨λb=>W.heap[b]?,λ_ _=>none⟩
theorem ZW.frz (W:World):WT (ZW W) W:=⟨λ_ _ h=>h,λ_ _ _ h=>by cases h⟩
def S9 (P:Program)(e:TypeId){α:Type}(enc:α→List Rp)(ok:α→Bool):Prop:=
 ∀{H:Type} {encH:TypeId×Value→H} {W:World} {sp:Nat→Bool} {held:Bool} {n:Nat} {cs:List Value} {x:DataW H×List MemPlace},DataW.trod encH P W 0 sp held n e cs=some x→∃y:α,ok y=true∧Bw (ZW W) (enc y) cs
section
variable {P : Program} {e t : TypeId}
theorem S9.int {k:IntKind}{enc:Int→List Rp}(ht:P.underlying e=some (.int k))(he:∀n,enc n=[rI k n]):S9 P e enc (BG k):=λh=>by
 obtain⟨n,rfl,_,hwf⟩:=DataW.trod_int ht h;exact⟨n,hwf,by rw[he];exact⟨rfl,trivial⟩⟩
theorem S9.str {enc:Ai→List Rp}(ht:P.underlying e=some .string)(he:∀n,enc n=[rS n]):S9 P e enc okS:=λh=>by
 obtain⟨s,rfl,_,hl⟩:=DataW.trod_string ht h;exact⟨s.data.toList,AeQ (by rw[Array.length_toList];exact hl),by rw[he];exact⟨congrArg Value.string (AdY s),trivial⟩⟩
theorem S9.bool {enc:Bool→List Rp}(ht:P.underlying e=some .bool)(he:∀n,enc n=[rB n]):S9 P e enc (λ_=>true):=λh=>by
 obtain⟨b,rfl,_⟩:=DataW.trod_bool ht h;exact⟨b,rfl,by rw[he];exact⟨rfl,trivial⟩⟩
theorem Lm {W:World}{a:Addr}{v:Value}(h:W.cell? a=some v):a.spot=none∧IS (ZW W) a.block a.off=some v:=by
 unfold World.cell? at h;unfold IS ZW;dsimp only
 cases hh:W.heap[a.block]? with
 | none=>rw[hh] at h;cases h
 | some o=>
  rw[hh] at h
  cases o with
  | cells cs t fz=>
   cases hs:a.spot with
   | none=>simp[hs] at h;exact⟨rfl,h⟩
   | some _=>simp[hs] at h
  | _=>simp at h
theorem S9.slice {α:Type}[Inhabited α]{enc:α→List Rp}{ok:α→Bool}{sz:Nat}(ht:P.underlying t=some (.slice e))(hc:P.cellsOf e=sz)(hsz:0<sz)(h:S9 P e enc ok)(hlen:∀y,(enc y).length=sz){enc':List α→List Rp}(he:∀ys,enc' ys=[AO sz (ys.map enc)]) :
  S9 P t enc' (λys=>ys.all ok&&decide (ys.length≤9223372036854775807)):=fun {H encH W sp held n cs x} hx=>by
 rcases open_slice ht hx with⟨rfl,_⟩ | ⟨a,len,cap,m,n',D,Pl,rfl,hb,hl,hm,hmm,_,hel⟩
 ·exact⟨[],by simp,by rw[he];exact⟨UB.nil sz _,trivial⟩⟩
 ·have hlm:len≤m:=by rw[hmm];split<;>omega
  have each:∀i,i<len→∃y:α,ok y=true∧∃cs',W.cells? 0 (a.add (i*sz)) sz=some cs'∧Bw (ZW W) (enc y) cs':=λi hi=>by
   obtain⟨cs',h1,h2⟩:=hel i (by omega);obtain⟨y,hy,hr⟩:=h h2;rw[hc] at h1;exact⟨y,hy,cs',h1,hr⟩
  obtain⟨f,hf⟩:=choose_lt each;refine⟨(List.range len).map f,?_,?_⟩
  ·simp only[AeI,Afw,List.mem_map,List.mem_range,AeH];refine⟨?_,by simp;simp only[maxLen] at hm;omega⟩;rintro _ ⟨i,hi,rfl⟩;exact(hf i hi).1
  ·rw[he];refine⟨⟨some a,cap,by simp,by simpa using hl,hm,(λh=>by cases h),λi c hi=>?_⟩,trivial⟩;rw[AfC,Afr] at hi;have hil:i<len:=by
    cases hq:(List.range len)[i]? with
    | none=>rw[hq] at hi;cases hi
    | some _=>have:=(List.getElem?_eq_some_iff.1 hq).1;simpa using this
   rw[List.getElem?_range hil] at hi;simp only[Option.map_some,Option.some.injEq,Function.comp] at hi;subst hi;obtain⟨_,cs',h1,hr⟩:=hf i hil;obtain⟨_,hcl,hcell⟩:=World.cells?_some h1;have hsp:a.spot=none:=by
    obtain⟨_,cs0,g1,_⟩:=hf 0 (by omega);obtain⟨_,gcl,gcell⟩:=World.cells?_some g1;have h0:=gcell 0 hsz;rw[AeN (by omega)] at h0;have:=(Lm h0).1;simpa[Addr.add] using this
   refine⟨hlen _,a,rfl,hsp,λj r hj=>?_⟩;obtain⟨u,hu,hp⟩:=hr.at hj;have hjs:j<sz:=by have:=(List.getElem?_eq_some_iff.1 hj).1;rw[hlen] at this;exact this
   have h3:=hcell j hjs;rw[hu] at h3;have h4:=(Lm h3).2;refine⟨u,?_,hp⟩;have e1:((a.add (i*sz)).add j).block=a.block:=by simp only[Addr.add];split<;>split<;>rfl
   have e2:((a.add (i*sz)).add j).off=a.off+(i*sz+j):=by simp only[Addr.add];split<;>split<;>simp_all<;>omega
   rw[e1,e2] at h4;exact h4
theorem Mr {Z:Fz}{cs:List Value}{o:Nat}(h:cs.length=o):Bw Z [] (cs.drop o):=by rw[List.drop_of_length_le (by omega)];trivial
theorem CG {Z:Fz}{cs:List Value}{o s o':Nat}{rs rs':List Rp}(h:Bw Z rs ((cs.drop o).take s))(ho:o+s=o')(h2:Bw Z rs' (cs.drop o')):Bw Z (rs++rs') (cs.drop o):=by
 rw[← AfB s (cs.drop o),List.drop_drop];subst ho;exact h.append h2
theorem S9.val {α:Type}{enc:α→List Rp}{ok:α→Bool}(h:S9 P e enc ok){r:α→Rp}(he:∀y,enc y=[r y]){H:Type}{encH:TypeId×Value→H}{W:World}{sp:Nat→Bool}{held:Bool}{v:Value}{d:DataW H}{ps:List MemPlace}
  (hone:v.cells = #[v]) (ht:DataW.Trod encH P W 0 sp held e v d ps):∃y:α,ok y=true∧(r y).p (ZW W) v:=by
 obtain⟨fuel,hf⟩:=ht;rw[hone] at hf;obtain⟨y,hy,hr⟩:=h hf;rw[he] at hr;exact⟨y,hy,hr.1⟩
theorem S9.valAgg {α:Type}{enc:α→List Rp}{ok:α→Bool}(h:S9 P e enc ok){H:Type}{encH:TypeId×Value→H}{W:World}{sp:Nat→Bool}{held:Bool}{cs:Array Value}{d:DataW H}{ps:List MemPlace}
  (ht:DataW.Trod encH P W 0 sp held e (.agg cs) d ps):∃y:α,ok y=true∧(B9 (enc y)).p (ZW W) (.agg cs):=by
 obtain⟨fuel,hf⟩:=ht;obtain⟨y,hy,hr⟩:=h hf;exact⟨y,hy,cs.toList,by simp,hr⟩
end
theorem ZP {W w:World}(hw:WT (ZW W) w):W.heap.size≤w.heap.size:=by
 rcases Nat.eq_zero_or_pos W.heap.size with h | h
 ·omega
 ·have h1:W.heap[W.heap.size-1]? =some (W.heap[W.heap.size-1]'(by omega)):=Array.getElem?_eq_getElem (by omega);have:=(Array.getElem?_eq_some_iff.1 (hw _ _ h1)).1;omega
theorem XU {W:World}(hE:WU W):GE (ZW W):=λw hw=>by
 have hb:Below W.heap.size W { w with os:=W.os,tape:=W.tape,output:=W.output }:=⟨rfl,rfl,rfl,(show W.heap.size≤w.heap.size from ZP hw),λk hk=>by
  have h1:W.heap[k]? =some (W.heap[k]'hk):=Array.getElem?_eq_getElem hk;rw[h1];exact hw k _ h1⟩
 have hE2:=hE.st0 (St.of_below hb);exact⟨S8.block { w with os:=W.os,tape:=W.tape,output:=W.output } w (λ_ _=>rfl) hE2.tabs,hE2.size⟩
theorem Y6 {W:World}(hE:WU W):St ⟨W,ZW W,[],GE,[]⟩ [] (ZW W) W where
 os:=rfl
 tape:=rfl
 output:=rfl
 size:=Afm _
 old:=λ_ _ _=>rfl
 has:=λ_ h=>by cases h
 own:=λ_ h=>by cases h
 dis:=.nil
 frz:=ZW.frz W
 le:=Fz.le.refl _
 new:=λ_ _ h=>.inl h
 zdis:=λ_ h=>by cases h
 env:=XU hE
 emono:=λh hg=>GE.mono h hg
 gst:=MY.none rfl
theorem Y7 {W W':World}{Z Z':Fz}{E:Fz→Prop}{H:List Ent}(h:St ⟨W,Z,[],E,[]⟩ H Z' W'):Below W.heap.size W W':=⟨h.os,h.tape,h.output,h.size,λk hk=>h.old k hk (by simp)⟩
def DW (P:Program)(e:TypeId){α:Type}(enc:α→List Rp)(ok:α→Bool):Prop:=
 ∀{H:Type} {encH:TypeId×Value→H} {W:World} {sp:Nat→Bool} {held:Bool} {n:Nat} {cs:List Value} {x:DataW H×List MemPlace},DataW.trod encH P W 0 sp held n e cs=some x→Rows.uptoBulk x.1≤1048576→∃y:α,ok y=true∧Bw (ZW W) (enc y) cs
theorem Aae {H:Type}(d:DataW H):1≤Rows.uptoBulk d:=by
 cases d with
 | lit l=>cases l<;>simp[Rows.uptoBulk]
 | _=>simp[Rows.uptoBulk]
theorem Jy {H:Type}:∀{ds:List (DataW H)} {d:DataW H},d∈ds→Rows.uptoBulk d≤Rows.uptoBulkAll ds
 | [],_,h=>by cases h
 | x::r,d,h=>by
  rw[Rows.uptoBulkAll];rcases List.mem_cons.1 h with rfl | h
  ·omega
  ·have:=Jy h;omega
theorem U1 {H:Type}:∀(ds:List (DataW H)),ds.length≤Rows.uptoBulkAll ds
 | []=>Afv _
 | x::r=>by
  rw[Rows.uptoBulkAll];have:=U1 r;have:=Aae x;simp only[AeZ];omega
section
variable {P : Program} {e t : TypeId}
theorem S9.toB {α:Type}{enc:α→List Rp}{ok:α→Bool}(h:S9 P e enc ok):DW P e enc ok:=λhx _=>h hx
theorem DW.int {k:IntKind}{enc:Int→List Rp}(ht:P.underlying e=some (.int k))(he:∀n,enc n=[rI k n]):DW P e enc (BG k):=S9.toB (S9.int ht he)
theorem DW.bool {enc:Bool→List Rp}(ht:P.underlying e=some .bool)(he:∀n,enc n=[rB n]):DW P e enc (λ_=>true):=S9.toB (S9.bool ht he)
theorem DW.str {enc:Ai→List Rp}(ht:P.underlying e=some .string)(he:∀n,enc n=[rS n]):DW P e enc IL:=λh hb=>by
 obtain⟨s,rfl,hx,hl⟩:=DataW.trod_string ht h;subst hx;simp only[Rows.uptoBulk] at hb;exact⟨s.data.toList,AeQ (by omega),by rw[he];exact⟨congrArg Value.string (AdY s),trivial⟩⟩
theorem DW.slice {α:Type}[Inhabited α]{enc:α→List Rp}{ok:α→Bool}{sz:Nat}(ht:P.underlying t=some (.slice e))(hc:P.cellsOf e=sz)(hsz:0<sz)(h:DW P e enc ok)(hlen:∀y,(enc y).length=sz){enc':List α→List Rp}(he:∀ys,enc' ys=[AO sz (ys.map enc)]) :
  DW P t enc' (λys=>ys.all ok&&decide (ys.length≤1048576)):=fun {H encH W sp held n cs x} hx hB=>by
 rcases open_slice ht hx with⟨rfl,_⟩ | ⟨a,len,cap,m,n',D,Pl,rfl,hb,hl,hm,hmm,hxe,hel⟩
 ·exact⟨[],by simp,by rw[he];exact⟨UB.nil sz _,trivial⟩⟩
 ·have hlm:len≤m:=by rw[hmm];split<;>omega
  subst hxe;simp only[Rows.uptoBulk] at hB;have hlb:len≤1048576:=by
   have:=U1 ((List.range len).map D);rw[Afi,List.length_range] at this;omega
  have each:∀i,i<len→∃y:α,ok y=true∧∃cs',W.cells? 0 (a.add (i*sz)) sz=some cs'∧Bw (ZW W) (enc y) cs':=λi hi=>by
   obtain⟨cs',h1,h2⟩:=hel i (by omega);obtain⟨y,hy,hr⟩:=h h2 (by
    have:=Jy (List.mem_map.2 ⟨i,List.mem_range.2 hi,rfl⟩:D i∈(List.range len).map D);show Rows.uptoBulk (D i)≤1048576;omega)
   rw[hc] at h1;exact⟨y,hy,cs',h1,hr⟩
  obtain⟨f,hf⟩:=choose_lt each;refine⟨(List.range len).map f,?_,?_⟩
  ·simp only[AeI,Afw,List.mem_map,List.mem_range,AeH];refine⟨?_,by simpa using hlb⟩;rintro _ ⟨i,hi,rfl⟩;exact(hf i hi).1
  ·rw[he];refine⟨⟨some a,cap,by simp,by simpa using hl,hm,(λh=>by cases h),λi c hi=>?_⟩,trivial⟩;rw[AfC,Afr] at hi;have hil:i<len:=by
    cases hq:(List.range len)[i]? with
    | none=>rw[hq] at hi;cases hi
    | some _=>have:=(List.getElem?_eq_some_iff.1 hq).1;simpa using this
   rw[List.getElem?_range hil] at hi;simp only[Option.map_some,Option.some.injEq,Function.comp] at hi;subst hi;obtain⟨_,cs',h1,hr⟩:=hf i hil;obtain⟨_,hcl,hcell⟩:=World.cells?_some h1;have hsp:a.spot=none:=by
    obtain⟨_,cs0,g1,_⟩:=hf 0 (by omega);obtain⟨_,gcl,gcell⟩:=World.cells?_some g1;have h0:=gcell 0 hsz;rw[AeN (by omega)] at h0;have:=(Lm h0).1;simpa[Addr.add] using this
   refine⟨hlen _,a,rfl,hsp,λj r hj=>?_⟩;obtain⟨u,hu,hp⟩:=hr.at hj;have hjs:j<sz:=by have:=(List.getElem?_eq_some_iff.1 hj).1;rw[hlen] at this;exact this
   have h3:=hcell j hjs;rw[hu] at h3;have h4:=(Lm h3).2;refine⟨u,?_,hp⟩;have e1:((a.add (i*sz)).add j).block=a.block:=by simp only[Addr.add];split<;>split<;>rfl
   have e2:((a.add (i*sz)).add j).off=a.off+(i*sz+j):=by simp only[Addr.add];split<;>split<;>simp_all<;>omega
   rw[e1,e2] at h4;exact h4
theorem Cy {H:Type}{xs:List (DataW H×List MemPlace)}{i:Nat}(hi:i<xs.length)(h:Rows.uptoBulk (DataW.agg (xs.map (·.1)))≤1048576):Rows.uptoBulk (xs[i]).1≤1048576:=by
 rw[Rows.uptoBulk] at h;have:=Jy (List.mem_map.2 ⟨xs[i],List.getElem_mem hi,rfl⟩:(xs[i]).1∈xs.map (·.1));omega
theorem DW.val {α:Type}{enc:α→List Rp}{ok:α→Bool}(h:DW P e enc ok){r:α→Rp}(he:∀y,enc y=[r y]){H:Type}{encH:TypeId×Value→H}{W:World}{sp:Nat→Bool}{held:Bool}{v:Value}{d:DataW H}{ps:List MemPlace}
  (hone:v.cells = #[v]) (ht:DataW.Trod encH P W 0 sp held e v d ps) (hb:Rows.uptoBulk d≤1048576):∃y:α,ok y=true∧(r y).p (ZW W) v:=by
 obtain⟨fuel,hf⟩:=ht;rw[hone] at hf;obtain⟨y,hy,hr⟩:=h hf hb;rw[he] at hr;exact⟨y,hy,hr.1⟩
theorem DW.valAgg {α:Type}{enc:α→List Rp}{ok:α→Bool}(h:DW P e enc ok){H:Type}{encH:TypeId×Value→H}{W:World}{sp:Nat→Bool}{held:Bool}{cs:Array Value}{d:DataW H}{ps:List MemPlace}
  (ht:DataW.Trod encH P W 0 sp held e (.agg cs) d ps) (hb:Rows.uptoBulk d≤1048576):∃y:α,ok y=true∧(B9 (enc y)).p (ZW W) (.agg cs):=by
 obtain⟨fuel,hf⟩:=ht;obtain⟨y,hy,hr⟩:=h hf hb;exact⟨y,hy,cs.toList,by simp,hr⟩
end
structure At {α:Type} (i:Nat) (l:List α) (e:α) (l':List α):Prop where
 go:l.Perm (e::l')
theorem AdO {α:Type}{e:α}{l:List α}:At 0 (e::l) e l:=⟨Afd _⟩
theorem AdN {α:Type}{i:Nat}{x e:α}{l l':List α}(h:At i l e l'):At (i+1) (x::l) e (x::l'):=⟨(h.go.cons x).trans (List.Perm.swap e x l')⟩
structure Pk {α:Type} (is:List Nat) (l l':List α):Prop where
 go:l.Perm l'
theorem Adr {α:Type}{l:List α}:Pk [] l l:=⟨Afd _⟩
theorem Adq {α:Type}{i:Nat}{r:List Nat}{l l1 l2:List α}{e:α}(h:At i l e l1)(t:Pk r l1 l2):Pk (i::r) l (e::l2):=⟨h.go.trans (t.go.cons e)⟩
structure Yg {α:Type} (i:Nat) (l:List α) (x:α) (l':List α):Prop where
 go:l.set i x=l'
theorem Acu {α:Type}{a x:α}{l:List α}:Yg 0 (a::l) x (x::l):=⟨rfl⟩
theorem Acs {α:Type}{i:Nat}{a x:α}{l l':List α}(h:Yg i l x l'):Yg (i+1) (a::l) x (a::l'):=⟨by rw[List.set_cons_succ,h.go]⟩
structure Yh {α:Type} (i:Nat) (rs l l':List α):Prop where
 go:l.take i++rs++l.drop (i+rs.length)=l'
theorem Ael {α:Type}{l:List α}:Yh 0 [] l l:=⟨by simp⟩
theorem Aek {α:Type}{r a:α}{rs l l':List α}(h:Yh 0 rs l l'):Yh 0 (r::rs) (a::l) (r::l'):=⟨by
 have:=h.go;simp only[List.take_zero,AfF,Afu] at this ⊢;rw[AeZ,List.drop_succ_cons,Af3,this]⟩
theorem Aej {α:Type}{i:Nat}{a:α}{rs l l':List α}(h:Yh i rs l l'):Yh (i+1) rs (a::l) (a::l'):=⟨by
 have:=h.go;rw[List.take_succ_cons,show i+1+rs.length=(i+rs.length)+1 from by omega,List.drop_succ_cons,Af3,Af3,this]⟩
section
variable {P : Program} {n : Nat} {c : Cx} {ops opsA : Array Oper} {Q : Exit → Act → World → Prop} {rest : List Oper} {l l' : Fr} {H H' H2 Hr : List Ent} {x : Code} {K : Act → World → Prop} {d : Nat} {ty t e : TypeId} {pos : String} {af : Array Edge} {y z : Operand} {r : Rp} {sz : Nat}
theorem NH (is:List Nat)(h:WK n c K l H2)(hp:Pk is H H2:=by repeat (first | exact Adr | apply Adq | exact AdO | apply AdN)):WK n c K l H:=Aa2 hp.go h
theorem J3 (is:List Nat){f:FuncId}{args:List Operand}{ats:Array TypeId}{rs:List Rp}{Hin:List Ent}{Φ:Rp→List Ent→Prop}(hcall:∀(as1:Array Value) (w:World),(callFunc f as1).run P w = .ok (.enter f as1) w)(hc:Fn P c.E f rs Hin Φ)
  (h:∀r Ho,Φ r Ho→WL P n c ops Q rest ((d,r)::l) (Ho++Hr)) (hv:MT l args=some rs:=by rfl) (hp:Pk is H (Hin++Hr):=by repeat (first | exact Adr | apply Adq | exact AdO | apply AdN)) (hn:Nat.blt d n=true:=by rfl) :
  WL P n c ops Q ({ dst:=some d,op:=.call { callee:=.value (.func f),args:=args.toArray,argTypes:=ats },type:=ty,pos:=pos,after:=af,guard:=none }::rest) l H:=Cf hcall hv hp.go hc hn h
theorem GI (h:WC P n c x Q l' H')(hl:l=l':=by first | (dsimp only;done) | (dsimp only;exact rfl) | exact rfl)(hH:H=H':=by first | (dsimp only;done) | (dsimp only;exact rfl) | exact rfl):WC P n c x Q l H:=AbO hl hH h
theorem GX (h:WK n c K l' H')(hl:l=l':=by first | (dsimp only;done) | (dsimp only;exact rfl) | exact rfl)(hH:H=H':=by first | (dsimp only;done) | (dsimp only;exact rfl) | exact rfl):WK n c K l H:=Adl hl hH h
theorem us {i b off:Nat}{cs cs':List Rp}(hag:∀w,(sizeOf t).run P w = .ok 1 w)(hx:ev l z=some (rv (.pointer (some ⟨b,off,none⟩))))(hy:ev l y=some r)(hv:Q4 H r)(hi:H[i]? =some (.blk b cs e))(hlt:Nat.blt off cs.length=true)
  (h:WL P n c ops Q rest l H') (hcs:Yg off cs r cs':=by repeat (first | exact Acu | apply Acs)) (hH:Yg i H (.blk b cs' e) H':=by repeat (first | exact Acu | apply Acs)) :
  WL P n c ops Q ({ dst:=none,op:=.store t z y,type:=ty,pos:=pos,after:=af,guard:=none }::rest) l H:=R2 hag hx hy hv hi hlt hcs.go hH.go h
theorem GU {i b off:Nat}{cs cs' rs:List Rp}(hsz:∀w,(sizeOf t).run P w = .ok sz w)(hx:ev l z=some (rv (.pointer (some ⟨b,off,none⟩))))(hy:ev l y=some (B9 rs))(hl:rs.length=sz)(hv:B8 H rs)(hi:H[i]? =some (.blk b cs e))(hlt:Nat.ble (off+sz) cs.length=true)
  (h:WL P n c ops Q rest l H') (hcs:Yh off rs cs cs':=by repeat (first | exact Ael | apply Aek | apply Aej)) (hH:Yg i H (.blk b cs' e) H':=by repeat (first | exact Acu | apply Acs)) :
  WL P n c ops Q ({ dst:=none,op:=.store t z y,type:=ty,pos:=pos,after:=af,guard:=none }::rest) l H:=NK hsz hx hy hl hv hi hlt (by rw[← hl];exact hcs.go) hH.go h
def W7 (os:List Oper)(acc:List Rp)(t:Nat)(l0:Fr):List Nat→Fr
 | []=>l0
 | j::r=>match Co os j with
  | some d=>(d,acc.getD (t-1-j) (rv undef))::W7 os acc t l0 r
  | none=>W7 os acc t l0 r
def U6:List Oper→List Rp→List Sp
 | o::os,r::rs=>⟨De o,r,1⟩::U6 os rs
 | _,_=>[]
theorem VV:∀{os:List Oper} {rs:List Rp},os.length=rs.length→(U6 os rs).length=os.length
 | [],[],_=>rfl
 | o::os,r::rs,h=>by rw[U6,AeZ,AeZ,VV (by simpa using h)]
 | [],_::_,h=>by simp at h
 | _::_,[],h=>by simp at h
theorem UQ:∀{os:List Oper} {rs:List Rp} {i:Nat} {o:Oper} {r:Rp},os[i]? =some o→rs[i]? =some r→(U6 os rs)[i]? =some ⟨De o,r,1⟩
 | o::os,r::rs,0,o',r',h1,h2=>by simp at h1 h2;subst h1;subst h2;rfl
 | o::os,r::rs,i+1,o',r',h1,h2=>by rw[U6,List.getElem?_cons_succ];exact UQ (by simpa using h1) (by simpa using h2)
 | [],_,i,_,_,h1,_=>by simp at h1
 | _::_,[],i,_,_,_,h2=>by simp at h2
def RdH (P:Program)(n:Nat)(c:Cx)(Q:Exit→Act→World→Prop)(os:List Oper)(l0:Fr)(H:List Ent)(acc:List Rp):Prop:=
 ∀(i:Nat) o r,os[i]? =some o→acc.reverse[i]? =some r→DJ P n c os.toArray Q (W7 os (acc.drop (acc.length-i)) i l0 (De o)) H o r H
def WR (P:Program)(n:Nat)(c:Cx)(Q:Exit→Act→World→Prop)(os:List Oper)(l0:Fr)(H:List Ent)(G:Prop)(t:Nat)(acc:List Rp)(rest:List Oper):Prop:=
 rest=os.drop t→t=acc.length→RdH P n c Q os l0 H acc→G
theorem RdH.cons {os:List Oper}{l0:Fr}{acc:List Rp}{o:Oper}{r:Rp}(h:RdH P n c Q os l0 H acc)(ho:os[acc.length]? =some o)(hr:DJ P n c os.toArray Q (W7 os acc acc.length l0 (De o)) H o r H):RdH P n c Q os l0 H (r::acc):=λi o' r' h1 h2=>by
 rw[List.reverse_cons] at h2
 by_cases hi:i<acc.length
 ·rw[Af5 (by simpa using hi)] at h2;have:=h i o' r' h1 h2;rw[AeZ,show acc.length+1-i=(acc.length-i)+1 from by omega,List.drop_succ_cons];exact this
 ·have hlt:=(List.getElem?_eq_some_iff.1 h2).1;simp at hlt;have e:i=acc.length:=by omega
  subst e;rw[List.getElem?_append_right (by simp)] at h2;simp at h2;subst h2;rw[ho] at h1;obtain rfl:=Option.some.inj h1;rw[AeZ,show acc.length+1-acc.length=1 from by omega,List.drop_succ_cons,List.drop_zero];exact hr
theorem ZQ {os:List Oper}{acc:List Rp}{l0:Fr}{i:Nat}(hl:acc.length=os.length)(hi:i≤acc.length):∀{js:List Nat},(∀j∈js,j<i)→W7 os (acc.drop (acc.length-i)) i l0 js=BZ os (U6 os acc.reverse) js l0
 | [],_=>rfl
 | j::js,h=>by
  have hj:=h j (by simp);have ih:=ZQ (l0:=l0) hl hi (js:=js) λj' hj'=>h j' (by simp[hj']);unfold W7 BZ;have ho:os[j]? =some (os[j]'(by omega)):=AeN (by omega);have hr:acc.reverse[j]? =some (acc.reverse[j]'(by simp;omega)):=AeN (by simp;omega);have e:(acc.drop (acc.length-i)).getD (i-1-j) (rv undef)=(Es (U6 os acc.reverse) j).r:=by
   unfold Es;rw[AeO,AeO,UQ ho hr,List.getElem?_drop,Afq];rw[AeN (by omega),Afq];show _=acc.reverse[j]'(by simp;omega);rw[List.getElem_reverse]
   congr 1
   omega
  rw[e,ih]
  cases Co os j<;>rfl
theorem Du {id:Nat}{os:List Oper}{l0:Fr}(ks0:List Nat)(h:WR P n c Q os l0 H (Kp ks0 l l0→WC P n c (.region id os.toArray true) Q l H) 0 [] os)(h0:Kp ks0 l l0:=by repeat (first | exact Oi | (apply LL;rfl) | (apply M9;rfl))):WC P n c (.region id os.toArray true) Q l H:=
 h (by simp) rfl (λi o r _ h2=>by simp at h2) h0
theorem GG {os:List Oper}{l0:Fr}{G:Prop}{t:Nat}{acc:List Rp}{o:Oper}{r:Rp}{rest:List Oper}(hr:DJ P n c os.toArray Q (W7 os acc t l0 (De o)) H o r H)(h:WR P n c Q os l0 H G (t+1) (r::acc) rest):WR P n c Q os l0 H G t acc (o::rest):=λh1 h2 h3=>by
 subst h2;have ho:os[acc.length]? =some o:=by have:=congrArg (·[0]?) h1;simp at this;exact this.symm
 exact h (by have:=congrArg List.tail h1;simpa using this) rfl (h3.cons ho hr)
section
variable {os : List Oper} {l0 : Fr} {G : Prop} {t : Nat} {acc : List Rp} {r : Rp} {rest : List Oper} {op : Op} {j dj : Nat} {want b : Bool} {dd : Option Nat}
theorem rq (hr:B4 P n c (W7 os acc t l0 (De { dst:=some d,op:=op,type:=ty,pos:=pos,after:=af,guard:=none })) H { dst:=some d,op:=op,type:=ty,pos:=pos,after:=af,guard:=none } r)(h:WR P n c Q os l0 H G (t+1) (r::acc) rest) :
  WR P n c Q os l0 H G t acc ({ dst:=some d,op:=op,type:=ty,pos:=pos,after:=af,guard:=none }::rest):=GG (Ef hr) h
theorem rg (hb:b=want)(hr:B4 P n c (W7 os acc t l0 (De { dst:=some d,op:=op,type:=ty,pos:=pos,after:=af,guard:=some (j,want) })) H { dst:=some d,op:=op,type:=ty,pos:=pos,after:=af,guard:=none } r)(h:WR P n c Q os l0 H G (t+1) (r::acc) rest)
  (hj:Ea os.toArray j=some dj:=by rfl) (hv:look (W7 os acc t l0 (De { dst:=some d,op:=op,type:=ty,pos:=pos,after:=af,guard:=some (j,want) })) dj=some (rB b):=by rfl) :
  WR P n c Q os l0 H G t acc ({ dst:=some d,op:=op,type:=ty,pos:=pos,after:=af,guard:=some (j,want) }::rest):=GG (QP hj hv hb (Ef hr)) h
theorem ro (hb:b=want)(hr:DJ P n c os.toArray Q (W7 os acc t l0 (De { dst:=dd,op:=op,type:=ty,pos:=pos,after:=af,guard:=some (j,want) })) H { dst:=dd,op:=op,type:=ty,pos:=pos,after:=af,guard:=none } r H)(h:WR P n c Q os l0 H G (t+1) (r::acc) rest)
  (hj:Ea os.toArray j=some dj:=by rfl) (hv:look (W7 os acc t l0 (De { dst:=dd,op:=op,type:=ty,pos:=pos,after:=af,guard:=some (j,want) })) dj=some (rB b):=by rfl) :
  WR P n c Q os l0 H G t acc ({ dst:=dd,op:=op,type:=ty,pos:=pos,after:=af,guard:=some (j,want) }::rest):=GG (QP hj hv hb hr) h
theorem rz (hb:b = !want)(h:WR P n c Q os l0 H G (t+1) (rv undef::acc) rest)
  (hj:Ea os.toArray j=some dj:=by rfl) (hv:look (W7 os acc t l0 (De { dst:=dd,op:=op,type:=ty,pos:=pos,after:=af,guard:=some (j,want) })) dj=some (rB b):=by rfl) :
  WR P n c Q os l0 H G t acc ({ dst:=dd,op:=op,type:=ty,pos:=pos,after:=af,guard:=some (j,want) }::rest):=GG (Ac3 hj hv hb) h
theorem ru (h:WR P n c Q os l0 H G (t+1) (rv undef::acc) rest)
  (hj:Ea os.toArray j=some dj:=by rfl) (hv:look (W7 os acc t l0 (De { dst:=dd,op:=op,type:=ty,pos:=pos,after:=af,guard:=some (j,want) })) dj=some (rv undef):=by rfl) :
  WR P n c Q os l0 H G t acc ({ dst:=dd,op:=op,type:=ty,pos:=pos,after:=af,guard:=some (j,want) }::rest):=GG (Zf hj hv) h
end
theorem re {id:Nat}{os:List Oper}{l0 l1:Fr}{ks0:List Nat}{t:Nat}{acc:List Rp}(ks:List Nat)(h:WK n c (Q .normal) l1 H)
  (hz:Kz ks os (U6 os acc.reverse) l0 l1:=by repeat (first | (apply AcH;rfl) | (apply AcJ;rfl) | apply AcI | apply AcK | exact Oi | (apply LL;rfl) | (apply M9;rfl)))
  (hm:P.follows .mixedOrders=true:=by kernel_rfl) (hB:okB n os os.length (EQ l0) (os.map De) (os.map λ_=>1)=true:=by kernel_rfl) (ht:t=os.length:=by rfl) :
  WR P n c Q os l0 H (Kp ks0 l l0→WC P n c (.region id os.toArray true) Q l H) t acc []:=λ_ hl hob h0=>by
 have hlen:acc.length=os.length:=by omega
 have hsp:(U6 os acc.reverse).length=os.length:=VV (by simpa using hlen.symm);have key:∀{os:List Oper} {rs:List Rp},os.length=rs.length→(U6 os rs).map (·.deps)=os.map De∧(U6 os rs).map (·.kd)=os.map λ_=>1:=by
  intro os
  induction os with
  | nil=>intro rs h;cases rs with
   | nil=>exact⟨rfl,rfl⟩
   | cons _ _=>simp at h
  | cons o os ih=>intro rs h;cases rs with
   | nil=>simp at h
   | cons r rs=>obtain⟨h1,h2⟩:=ih (rs:=rs) (by simpa using h);exact⟨by simp[U6,h1],by simp[U6,h2]⟩
 obtain⟨k1,k2⟩:=key (os:=os) (rs:=acc.reverse) (by simpa using hlen.symm);have hlt:∀(i:Nat) o,os[i]? =some o→∀j∈De o,j<i:=by
  have hB':=hB;unfold okB at hB';simp only[AeI] at hB';have h1:=hB'.1.1.1.1.1.1;intro i o ho j hj;have hi:=(List.getElem?_eq_some_iff.1 ho).1;have h2:=List.all_eq_true.1 h1 i (List.mem_range.2 hi);have e:os.getD i default=o:=by rw[AeO,ho];rfl
  rw[e] at h2;exact Afy (List.all_eq_true.1 h2 j hj)
 have hobl:∀(k:Nat) (rest:List Oper),rest=os.drop k→PZ P n c os.toArray Q os (U6 os acc.reverse) l0 (List.replicate (os.length+1) H) k rest (List.replicate (rest.length+1) H):=by
  intro k rest
  induction rest generalizing k with
  | nil=>intro _;exact trivial
  | cons o rest ih=>
   intro hr;have ho:os[k]? =some o:=by have:=congrArg (·[0]?) hr;simp at this;exact this.symm
   have hk:=(List.getElem?_eq_some_iff.1 ho).1;have hrr:acc.reverse[k]? =some (acc.reverse[k]'(by simp;omega)):=AeN (by simp;omega);have hs:Es (U6 os acc.reverse) k=⟨De o,acc.reverse[k]'(by simp;omega),1⟩:=by
    unfold Es;rw[AeO,UQ ho hrr];rfl
   have ih:=ih (k+1) (by have:=congrArg List.tail hr;simpa using this);have hop:=hob k o _ ho hrr;rw[ZQ hlen (by omega) (hlt k o ho)] at hop;rw[AeZ,List.replicate_succ,List.replicate_succ];refine⟨?_,by rw[← List.replicate_succ];exact ih⟩;rw[hs];exact⟨rfl,hop⟩
 refine Ex (l0:=l0) (l1:=l1) ks0 (U6 os acc.reverse) (List.replicate (os.length+1) H) ks (hobl 0 os (by simp)) h h0 hz hm (by rw[k1,k2];exact hB) hsp (by simp) (by simp[AeO,List.getElem?_replicate])
end
open Go
def N8 (l:(List Int)):Option ((List Int)):=
 some l
def KJ (l:(List Int))(c:Int):Option (Unit×(List Int)):=
 Bv (N8 l) λr1=>AX (Eh 1 (r1.length+([c]:List Int).length))<|some ((),r1++([c]:List Int))
def IP (l:(List Int))(s:Ai):Option (Int×Unit×(List Int)):=
 Bv (N8 l) λr1=>AX (Eh 1 (r1.length+s.length))<|some ((s.length:Int),(),r1++GJ s)
def PV (l:Ai):Option (Ai):=
 AX (decide (0<(GJ l).length))<|some l
def N7 (l:(List Int)):Option ((List Int)):=
 some l
def KI (l:(List Int))(c:Int):Option (Unit×(List Int)):=
 Bv (N7 l) λr1=>AX (Eh 1 (r1.length+([c]:List Int).length))<|some ((),r1++([c]:List Int))
def IO (l:(List Int))(s:Ai):Option (Int×Unit×(List Int)):=
 Bv (N7 l) λr1=>AX (Eh 1 (r1.length+s.length))<|some ((s.length:Int),(),r1++GJ s)
def PU (l:Ai):Option (Ai):=
 AX (decide (0<(GJ l).length))<|some l
set_option maxRecDepth 100000
set_option maxHeartbeats 4000000
theorem Wz:∃inf,Tryz.prog.info? 5=some inf∧inf.zero=some (.int .u8 0)∧inf.size=1∧inf.bytes=1:=by
  have key:(Tryz.prog.info? 5).map (λi=>(i.zero,i.size,i.bytes))=some (some (.int .u8 0),1,1):=by kernel_rfl
  obtain⟨inf,h1,h2⟩:=Option.map_eq_some_iff.1 key;simp only[Prod.mk.injEq] at h2;exact⟨inf,h1,h2.1,h2.2.1,h2.2.2⟩
theorem TT:∃j,Tryz.prog.info? 177=some j∧j.size≠0:=by
  have key:(Tryz.prog.info? 177).map (λi=>i.size)=some 2:=by kernel_rfl
  obtain⟨j,h1,h2⟩:=Option.map_eq_some_iff.1 key;exact⟨j,h1,by rw[h2];decide⟩
theorem TU:∃j,Tryz.prog.info? 177=some j:=TT.imp λ_ h=>h.1
theorem U3 (ha:Nat)(hb:Value)(l:(List Int))(r:(List Int))(h:N8 l=some r):Fn Tryz.prog GE 198 [rP ha 0] [.blk ha [rv (.pointer none),rv hb] 177,.row hb 5 1 (A8 Cn l)] (λR H=>∃w0:Value,R=rv (.tuple #[])∧H=[.blk ha [rP ha 0,rv w0] 177,.row w0 5 1 (A8 Cn r)]):=by
 refine enter (n:=20) Tryz.func198 Aa Tryz.ntmps198 Aa (λw Z=>?_);unfold N8 at h;refine Ad (wm Aa (wv (AS Aa) (vF HG Aa SM (vL 0 G8 Aa (wv (r:=rB true) (T5 ⟨_,SK⟩ Aa) (Ao (D7 Aa Aa (Af (wm Aa (wm Aa (wv (r:=rP ha 0) (T4 (i:=0) SK Tryz.underlying248 TT Aa Aa Aa) (As (r:=rP ha 0) (AaY Tryz.func224 (by kernel_rfl) (by kernel_rfl) (by kernel_rfl) (by kernel_rfl) Aa) Aa (wv (r:=rP ha 0) (Qu (i:=0) Tryz.underlying248 SK TU Aa Aa (by kernel_rfl)) (wv (AS Aa) (vF HG Aa SM (us (i:=0) SM Aa Aa (BR Aa) Aa Aa ?_))))))))))))))));refine Ah ?_;obtain rfl:=Au h;exact Ie (Xp Tryz.results198) (sC (sC sN)) ⟨hb,Aa,Aa⟩
theorem Q2 (ha:Nat)(hb:Value)(l:(List Int))(c:Int)(r:Unit×(List Int))(h:KJ l c=some r):Fn Tryz.prog GE 165 [rP ha 0,rI .u8 c] [.blk ha [rv (.pointer none),rv hb] 177,.row hb 5 1 (A8 Cn l)] (λR H=>∃w0:Value,R=rv (.nilIface)∧H=[.blk ha [rP ha 0,rv w0] 177,.row w0 5 1 (A8 Cn r.2)]):=by
 refine enter (n:=17) Tryz.func165 Aa Tryz.ntmps165 Aa (λw Z=>?_);unfold KJ at h;refine Ad (wa Aa (Bp (wm Aa (ob h λr1 e3 h2=>J3 [0,0] Tryz.call198 (U3 ha hb l r1 e3) ?_))));rintro _ _ ⟨v4,rfl,rfl⟩;refine Bp (wm Aa (wm Aa (wv (AS Aa) (vF HG Aa HH (vL 0 NF Aa (wm Aa (Bc (ys:=([c]:List Int)) (enc:=Cn) (css:=[[rI .u8 c]]) (xs:=[.tmp 12]) Ki Tryz.sizeOf5 Tryz.zeroValue5 Aa Aa Aa ⟨Ez.one Aa (Up.refl _),trivial⟩ Aa Ll Aa Aa Aa (λb5=>?_))))))));refine ck h2 λg7 h8=>Exists.elim Wz λinf hinf=>Er (xs:=r1) (ys:=([c]:List Int)) (enc:=Cn) (i:=2) Ki hinf.1 hinf.2.1 hinf.2.2.1 hinf.2.2.2 Aa Aa Aa Aa Aa (Q3.w (i:=0) Aa Aa) Ll Rj g7 Aa (λv6=>?_);refine wv (AS Aa) (vF HG Aa HH (us (i:=2) HH Aa Aa (GN (i:=0) Aa) Aa Aa ?_));refine Bp (wa Aa (Ao (Ap (NH [2] ?_))));obtain rfl:=Au h8;exact Aq (B2 Tryz.results165 (AD Aa)) (sC (sC (sS sN))) ⟨v6,Aa,Aa⟩
theorem On (ha:Nat)(hb:Value)(l:(List Int))(s:Ai)(r:Int×Unit×(List Int))(h:IP l s=some r):Fn Tryz.prog GE 162 [rP ha 0,rS s] [.blk ha [rv (.pointer none),rv hb] 177,.row hb 5 1 (A8 Cn l)] (λR H=>∃w0:Value,R=Dy [A4 r.1,rv (.nilIface)]∧H=[.blk ha [rP ha 0,rv w0] 177,.row w0 5 1 (A8 Cn r.2.2)]):=by
 refine enter (n:=19) Tryz.func162 Aa Tryz.ntmps162 Aa (λw Z=>?_);unfold IP at h;refine Ad (wa Aa (wa Aa (Bp (wm Aa (ob h λr1 e3 h2=>J3 [0,0] Tryz.call198 (U3 ha hb l r1 e3) ?_)))));rintro _ _ ⟨v4,rfl,rfl⟩;refine Bp (wm Aa (wm Aa (wv (AS Aa) (vF HG Aa HH (vL 0 NF Aa (wm Aa (ck h2 λg6 h7=>Exists.elim Wz λinf hinf=>Md (xs:=r1) (i:=1) Ki C4 hinf.1 hinf.2.1 hinf.2.2.1 hinf.2.2.2 Aa Aa Aa g6 Aa (λv5=>?_))))))));refine wv (AS Aa) (vF HG Aa HH (us (i:=1) HH Aa Aa (GN (i:=0) Aa) Aa Aa ?_));refine Bp (wm Aa (wv (B0 C4 Aa) (wa Aa (wa Aa (Ao (Ap (NH [1] ?_)))))));obtain rfl:=Au h7;exact Aq (HW Tryz.results162 (AD Aa) (AD Aa)) (sC (sC sN)) ⟨v5,Aa,Aa⟩
theorem VA (ha:Nat)(hb:Value)(l:Ai)(r:Ai)(h:PV l=some r):Fn Tryz.prog GE 120 [rP ha 0] [.blk ha [rv (.pointer none),rv hb] 177,.row hb 5 1 (A8 Cn (GJ l))] (λR H=>R=rS r∧H=[]):=by
 refine enter (n:=14) Tryz.func120 Aa Tryz.ntmps120 Aa (λw Z=>?_);unfold PV at h;refine Ad (wv (r:=rS ([]:Ai)) (A0 Aa) (Ao (Ak (ck h λg1 h2=>Ex (H1:=[.blk ha [rv (.pointer none),rv hb] 177]) [0] [⟨[],rP ha 0,0⟩,⟨[0],rP ha 0,0⟩,⟨[1],rP ha 1,0⟩,⟨[2],rv hb,1⟩,⟨[3],rv (slp hb),1⟩,⟨[],rP ha 0,0⟩,⟨[5],rP ha 0,0⟩,⟨[6],rP ha 1,0⟩,⟨[7],rv hb,1⟩,⟨[8],A4 ((GJ l).length:Int),1⟩,⟨[4,9],rS l,2⟩,⟨[10],rS l,0⟩] (rle [(11,_),(2,[.blk ha [rv (.pointer none),rv hb] 177])]) [2] ?_ ?_))))
 ·refine oq (Am Aa) (oq (AS Aa) (oq (Az HG Aa HH Aa Aa) (of (AT (i:=0) NF Aa Aa Aa) (of (NR (i:=1) Aa Aa (O1 g1)) (oq (Am Aa) (oq (AS Aa) (oq (Az HG Aa HH Aa Aa) (of (AT (i:=0) NF Aa Aa Aa) (of (D3 (ys:=GJ l) (enc:=Cn) (i:=1) Ki Aa Aa) (DZ Aa (Adv (KK (i:=1) Tryz.underlying213 (by kernel_rfl) Aa Aa Aa (O1 g1) Aa)) ?_))))))))));refine oq (A0 Aa) ?_;exact EK
 refine AE (Ap ?_);obtain rfl:=Au h2;exact Aq (B2 Tryz.results120 (AD Aa)) (sS sN) ⟨Aa,Aa⟩
theorem U2 (ha:Nat)(hb:Value)(l:(List Int))(r:(List Int))(h:N7 l=some r):Fn Tryz.prog GE 198 [rP ha 0] [.blk ha [rP ha 0,rv hb] 177,.row hb 5 1 (A8 Cn l)] (λR H=>∃w0:Value,R=rv (.tuple #[])∧H=[.blk ha [rP ha 0,rv w0] 177,.row w0 5 1 (A8 Cn r)]):=by
 refine enter (n:=20) Tryz.func198 Aa Tryz.ntmps198 Aa (λw Z=>?_);unfold N7 at h;refine Ad (wm Aa (wv (AS Aa) (vF HG Aa SM (vL 0 G8 Aa (wv (r:=rB false) (Nq ⟨_,SK⟩ Aa) (Ao (CS Aa Aa (Ad (wm Aa (wv (AS Aa) (vF HG Aa SM (vL 0 G8 Aa (wm Aa (wv (r:=rB false) (Vi SK TU Aa Aa) (Ao (CS Aa Aa (Aw ?_)))))))))))))))));obtain rfl:=Au h;exact Ie (Xp Tryz.results198) (sC (sC sN)) ⟨hb,Aa,Aa⟩
theorem Q1 (ha:Nat)(hb:Value)(l:(List Int))(c:Int)(r:Unit×(List Int))(h:KI l c=some r):Fn Tryz.prog GE 165 [rP ha 0,rI .u8 c] [.blk ha [rP ha 0,rv hb] 177,.row hb 5 1 (A8 Cn l)] (λR H=>∃w0:Value,R=rv (.nilIface)∧H=[.blk ha [rP ha 0,rv w0] 177,.row w0 5 1 (A8 Cn r.2)]):=by
 refine enter (n:=17) Tryz.func165 Aa Tryz.ntmps165 Aa (λw Z=>?_);unfold KI at h;refine Ad (wa Aa (Bp (wm Aa (ob h λr1 e3 h2=>J3 [0,0] Tryz.call198 (U2 ha hb l r1 e3) ?_))));rintro _ _ ⟨v4,rfl,rfl⟩;refine Bp (wm Aa (wm Aa (wv (AS Aa) (vF HG Aa HH (vL 0 NF Aa (wm Aa (Bc (ys:=([c]:List Int)) (enc:=Cn) (css:=[[rI .u8 c]]) (xs:=[.tmp 12]) Ki Tryz.sizeOf5 Tryz.zeroValue5 Aa Aa Aa ⟨Ez.one Aa (Up.refl _),trivial⟩ Aa Ll Aa Aa Aa (λb5=>?_))))))));refine ck h2 λg7 h8=>Exists.elim Wz λinf hinf=>Er (xs:=r1) (ys:=([c]:List Int)) (enc:=Cn) (i:=2) Ki hinf.1 hinf.2.1 hinf.2.2.1 hinf.2.2.2 Aa Aa Aa Aa Aa (Q3.w (i:=0) Aa Aa) Ll Rj g7 Aa (λv6=>?_);refine wv (AS Aa) (vF HG Aa HH (us (i:=2) HH Aa Aa (GN (i:=0) Aa) Aa Aa ?_));refine Bp (wa Aa (Ao (Ap (NH [2] ?_))));obtain rfl:=Au h8;exact Aq (B2 Tryz.results165 (AD Aa)) (sC (sC (sS sN))) ⟨v6,Aa,Aa⟩
theorem Om (ha:Nat)(hb:Value)(l:(List Int))(s:Ai)(r:Int×Unit×(List Int))(h:IO l s=some r):Fn Tryz.prog GE 162 [rP ha 0,rS s] [.blk ha [rP ha 0,rv hb] 177,.row hb 5 1 (A8 Cn l)] (λR H=>∃w0:Value,R=Dy [A4 r.1,rv (.nilIface)]∧H=[.blk ha [rP ha 0,rv w0] 177,.row w0 5 1 (A8 Cn r.2.2)]):=by
 refine enter (n:=19) Tryz.func162 Aa Tryz.ntmps162 Aa (λw Z=>?_);unfold IO at h;refine Ad (wa Aa (wa Aa (Bp (wm Aa (ob h λr1 e3 h2=>J3 [0,0] Tryz.call198 (U2 ha hb l r1 e3) ?_)))));rintro _ _ ⟨v4,rfl,rfl⟩;refine Bp (wm Aa (wm Aa (wv (AS Aa) (vF HG Aa HH (vL 0 NF Aa (wm Aa (ck h2 λg6 h7=>Exists.elim Wz λinf hinf=>Md (xs:=r1) (i:=1) Ki C4 hinf.1 hinf.2.1 hinf.2.2.1 hinf.2.2.2 Aa Aa Aa g6 Aa (λv5=>?_))))))));refine wv (AS Aa) (vF HG Aa HH (us (i:=1) HH Aa Aa (GN (i:=0) Aa) Aa Aa ?_));refine Bp (wm Aa (wv (B0 C4 Aa) (wa Aa (wa Aa (Ao (Ap (NH [1] ?_)))))));obtain rfl:=Au h7;exact Aq (HW Tryz.results162 (AD Aa) (AD Aa)) (sC (sC sN)) ⟨v5,Aa,Aa⟩
theorem V9 (ha:Nat)(hb:Value)(l:Ai)(r:Ai)(h:PU l=some r):Fn Tryz.prog GE 120 [rP ha 0] [.blk ha [rP ha 0,rv hb] 177,.row hb 5 1 (A8 Cn (GJ l))] (λR H=>R=rS r∧H=[]):=by
 refine enter (n:=14) Tryz.func120 Aa Tryz.ntmps120 Aa (λw Z=>?_);unfold PU at h;refine Ad (wv (r:=rS ([]:Ai)) (A0 Aa) (Ao (Ak (ck h λg1 h2=>Ex (H1:=[.blk ha [rP ha 0,rv hb] 177]) [0] [⟨[],rP ha 0,0⟩,⟨[0],rP ha 0,0⟩,⟨[1],rP ha 1,0⟩,⟨[2],rv hb,1⟩,⟨[3],rv (slp hb),1⟩,⟨[],rP ha 0,0⟩,⟨[5],rP ha 0,0⟩,⟨[6],rP ha 1,0⟩,⟨[7],rv hb,1⟩,⟨[8],A4 ((GJ l).length:Int),1⟩,⟨[4,9],rS l,2⟩,⟨[10],rS l,0⟩] (rle [(11,_),(2,[.blk ha [rP ha 0,rv hb] 177])]) [2] ?_ ?_))))
 ·refine oq (Am Aa) (oq (AS Aa) (oq (Az HG Aa HH Aa Aa) (of (AT (i:=0) NF Aa Aa Aa) (of (NR (i:=1) Aa Aa (O1 g1)) (oq (Am Aa) (oq (AS Aa) (oq (Az HG Aa HH Aa Aa) (of (AT (i:=0) NF Aa Aa Aa) (of (D3 (ys:=GJ l) (enc:=Cn) (i:=1) Ki Aa Aa) (DZ Aa (Adv (KK (i:=1) Tryz.underlying213 (by kernel_rfl) Aa Aa Aa (O1 g1) Aa)) ?_))))))))));refine oq (A0 Aa) ?_;exact EK
 refine AE (Ap ?_);obtain rfl:=Au h2;exact Aq (B2 Tryz.results120 (AD Aa)) (sS sN) ⟨Aa,Aa⟩
theorem CF (b:Nat)(v:Value)(l:Ai)(c:Int)(g1:Eh 1 (l.length+1)=true)(g2:BG .u8 c=true):Fn Tryz.prog GE 165 [rP b 0,rI .u8 c] [.bld 177 5 b v l] (λR H=>∃w0:Value,R=rv .nilIface∧H=[.bld 177 5 b w0 (l++[UInt8.ofNat c.toNat])]):=by
  have hc:GJ (l++[UInt8.ofNat c.toNat])=GJ l++[c]:=by
    have:=(by simpa[BG,IntKind.min,IntKind.max,IntKind.signed,IntKind.bits] using g2:0≤c∧c≤255)
    simp only[GJ,List.map_append,AfA,List.map_nil]
    congr 2
    simp;omega
  refine Fn.bld (res:=rv .nilIface) λp hp=>?_;rw[hc];rcases hp with rfl | rfl
  · refine(Q2 b v (GJ l) c (((),GJ l++[c])) ?_).sub (I3.refl _) (λr H h=>by obtain⟨w0,h1,h2⟩:=h;exact⟨w0,h1,h2⟩)
    simp only[KJ,N8,Bv,E1];simp[AX,g1]
  · refine(Q1 b v (GJ l) c (((),GJ l++[c])) ?_).sub (I3.refl _) (λr H h=>by obtain⟨w0,h1,h2⟩:=h;exact⟨w0,h1,h2⟩)
    simp only[KI,N7,Bv,E1];simp[AX,g1]
theorem Hv (b:Nat)(v:Value)(l s:Ai)(g1:Eh 1 (l.length+s.length)=true):Fn Tryz.prog GE 162 [rP b 0,rS s] [.bld 177 5 b v l] (λR H=>∃w0:Value,R=Dy [A4 (s.length:Int),rv .nilIface]∧H=[.bld 177 5 b w0 (l++s)]):=by
  have hc:GJ (l++s)=GJ l++GJ s:=by simp[GJ]
  refine Fn.bld (res:=Dy [A4 (s.length:Int),rv .nilIface]) λp hp=>?_;rw[hc];rcases hp with rfl | rfl
  · refine(On b v (GJ l) s (((s.length:Int),(),GJ l++GJ s)) ?_).sub (I3.refl _) (λr H h=>by obtain⟨w0,h1,h2⟩:=h;exact⟨w0,h1,h2⟩)
    simp only[IP,N8,Bv,E1];simp[AX,g1]
  · refine(Om b v (GJ l) s (((s.length:Int),(),GJ l++GJ s)) ?_).sub (I3.refl _) (λr H h=>by obtain⟨w0,h1,h2⟩:=h;exact⟨w0,h1,h2⟩)
    simp only[IO,N7,Bv,E1];simp[AX,g1]
theorem Rr (b:Nat)(v:Value)(l:Ai)(g1:decide (0<l.length)=true):Fn Tryz.prog GE 120 [rP b 0] [.bld 177 5 b v l] (λR H=>R=rS l∧H=[]):=by
  refine Fn.bldS (res:=rS l) λp hp=>?_;rcases hp with rfl | rfl
  · exact VA b v l l (by simp only[PV,E1];simp[AX,g1])
  · exact V9 b v l l (by simp only[PU,E1];simp[AX,g1])
end Go.Proofs.YtmjlemhondjfhaaGreatDoor.Q
namespace Go.Proofs.YtmjlemhondjfhaaGreatDoor
open Go
set_option linter.unusedVariables false
structure Ac where
 fKind:Int
 fInt:Int
 fStr:Ai
 fN:Int
 deriving DecidableEq,Inhabited
def KU (s:Ai)(ha:Int):Option (Stp (Int) (Out (Bool) (Unit))):=
 Bz (decide (ha<(s.length:Int))) (AX (Ch ha (s.length:Int))<|Bz (((decide ((BK s ha)<32))||(decide (126<(BK s ha))))) (some (.out (.ret false))) (AX (BG .i64 (ha+1))<|some (.next (ha+1)))) (some (.out (.go ())))
def KT :Option (Bool):=
 some true
def Kr (F:Nat)(s:Ai):Option (Bool):=
 Bv (BX (λσ=>KU s σ) F 0) (BT λν=>KT )
def BU (ok:Bool)(i:Int):Option (Int):=
 Bz (ok) (AX (BG .i64 (i+1))<|some (i+1)) (some (-1))
def Qk (F:Nat)(c:Ac):Option (Bool):=
 AX (imp (decide (c.fKind=4)) (imp (decide (c.fInt=0)) (imp (decide (c.fN=0)) ((Kr F c.fStr).isSome))))<|some ((decide (c.fKind=4))&&((decide (c.fInt=0))&&((decide (c.fN=0))&&(ov (Kr F c.fStr)))))
def RE (F:Nat)(ha:(List Ac)→Int→Int→Option (Int))(hb:(List Ac)→Int→Int→Option (Int))(v:(List Ac))(i:Int):Option (Int):=
 Bz (((decide (i<0))||(decide ((v.length:Int)≤i)))) (some (-1)) (AX (Ch i (v.length:Int))<|Bz (decide (((Ax v i).fKind)=1)) (AX (imp (decide (((Ax v i).fInt)=0)) (imp (decide (((Ax v i).fStr)=([]:Ai))) ((BU (decide (((Ax v i).fN)=0)) i).isSome)))<|AX (imp (decide (((Ax v i).fInt)=0)) (imp (!(decide (((Ax v i).fStr)=([]:Ai)))) ((BU false i).isSome)))<|AX (imp (!(decide (((Ax v i).fInt)=0))) ((BU false i).isSome))<|some (bif decide (((Ax v i).fInt)=0) then(bif decide (((Ax v i).fStr)=([]:Ai)) then(ov (BU (decide (((Ax v i).fN)=0)) i)) else(ov (BU false i))) else(ov (BU false i)))) (Bz (decide (((Ax v i).fKind)=2)) (AX (imp (decide (((Ax v i).fInt)=0)) (imp (decide (((Ax v i).fStr)=([]:Ai))) ((BU (decide (((Ax v i).fN)=0)) i).isSome)))<|AX (imp (decide (((Ax v i).fInt)=0)) (imp (!(decide (((Ax v i).fStr)=([]:Ai)))) ((BU false i).isSome)))<|AX (imp (!(decide (((Ax v i).fInt)=0))) (imp (decide (((Ax v i).fInt)=1)) (imp (decide (((Ax v i).fStr)=([]:Ai))) ((BU (decide (((Ax v i).fN)=0)) i).isSome))))<|AX (imp (!(decide (((Ax v i).fInt)=0))) (imp (decide (((Ax v i).fInt)=1)) (imp (!(decide (((Ax v i).fStr)=([]:Ai)))) ((BU false i).isSome))))<|AX (imp (!(decide (((Ax v i).fInt)=0))) (imp (!(decide (((Ax v i).fInt)=1))) ((BU false i).isSome)))<|some (bif decide (((Ax v i).fInt)=0) then(bif decide (((Ax v i).fStr)=([]:Ai)) then(ov (BU (decide (((Ax v i).fN)=0)) i)) else(ov (BU false i))) else(bif decide (((Ax v i).fInt)=1) then(bif decide (((Ax v i).fStr)=([]:Ai)) then(ov (BU (decide (((Ax v i).fN)=0)) i)) else(ov (BU false i))) else(ov (BU false i))))) (Bz (decide (((Ax v i).fKind)=3)) (AX (imp (decide (((Ax v i).fStr)=([]:Ai))) ((BU (decide (((Ax v i).fN)=0)) i).isSome))<|AX (imp (!(decide (((Ax v i).fStr)=([]:Ai)))) ((BU false i).isSome))<|some (bif decide (((Ax v i).fStr)=([]:Ai)) then(ov (BU (decide (((Ax v i).fN)=0)) i)) else(ov (BU false i)))) (Bz (decide (((Ax v i).fKind)=4)) (Bv (Qk F (Ax v i)) λhd=>Bv (BU hd i) λhe=>some he) (Bz (((decide (((Ax v i).fKind)=5))&&((decide (((Ax v i).fInt)=0))&&((decide (((Ax v i).fStr)=([]:Ai)))&&(decide (0≤((Ax v i).fN))))))) (AX (BG .i64 (i+1))<|Bv (ha v (i+1) ((Ax v i).fN)) λhf=>some hf) (Bz (((decide (((Ax v i).fKind)=6))&&((decide (((Ax v i).fInt)=0))&&((decide (((Ax v i).fStr)=([]:Ai)))&&(decide (0≤((Ax v i).fN))))))) (AX (BG .i64 (i+1))<|Bv (hb v (i+1) ((Ax v i).fN)) λhg=>some hg) (some (-1))))))))
def Dq (v:(List Ac))(n:Int)(he:(List Ac)→Int→Option (Int))(hb:Int)(ha:Int):Option (Stp (Int×Int) (Out (Int) (Int))):=
 Bz (decide (ha<n)) (Bv (he v hb) λhd=>Bz (decide (hd<0)) (some (.out (.ret (-1)))) (AX (BG .i64 (ha+1))<|some (.next (hd,ha+1)))) (some (.out (.go hb)))
def EZ (ha:Int):Option (Int):=
 some ha
def JC (F:Nat)(ha:(List Ac)→Int→Option (Int))(v:(List Ac))(i:Int)(n:Int):Option (Int):=
 Bv (BX (λσ=>Dq v n ha σ.1 σ.2) F (i,0)) (BT λν=>EZ ν)
def DN (F:Nat)(v:(List Ac))(n:Int)(hf:(List Ac)→Int→Option (Int))(ha:Int)(hd:Ai)(hb:Int):Option (Stp (Int×Ai×Int) (Out (Int) (Int))):=
 Bz (decide (hb<n)) (AX (imp (!(decide ((v.length:Int)≤ha))) (Ch ha (v.length:Int)))<|AX (imp (!(decide ((v.length:Int)≤ha))) ((Qk F (Ax v ha)).isSome))<|Bz (((decide ((v.length:Int)≤ha))||((!(ov (Qk F (Ax v ha))))||((decide (0<hb))&&(DX ((Ax v ha).fStr) hd||decide (((Ax v ha).fStr)=hd)))))) (some (.out (.ret (-1)))) (AX (Ch ha (v.length:Int))<|AX (BG .i64 (ha+1))<|Bv (hf v (ha+1)) λhe=>Bz (decide (he<0)) (some (.out (.ret (-1)))) (AX (BG .i64 (hb+1))<|some (.next (he,(Ax v ha).fStr,hb+1))))) (some (.out (.go ha)))
def HX (ha:Int):Option (Int):=
 some ha
def Ox (F:Nat)(ha:(List Ac)→Int→Option (Int))(v:(List Ac))(i:Int)(n:Int):Option (Int):=
 Bv (BX (λσ=>DN F v n ha σ.1 σ.2.1 σ.2.2) F (i,([]:Ai),0)) (BT λν=>HX ν)
mutual
def DY:Nat→(List Ac)→Int→Option (Int)
 | 0,_,_=>none
 | nn+1,v,i=>RE nn (HY nn) (Ni nn) v i
def HY:Nat→(List Ac)→Int→Int→Option (Int)
 | 0,_,_,_=>none
 | nn+1,v,i,n=>JC nn (DY nn) v i n
def Ni:Nat→(List Ac)→Int→Int→Option (Int)
 | 0,_,_,_=>none
 | nn+1,v,i,n=>Ox nn (DY nn) v i n
end
def Mw (F:Nat)(v:(List Ac)):Option (Bool):=
 AX (imp (decide (0<(v.length:Int))) ((DY F v 0).isSome))<|some ((decide (0<(v.length:Int)))&&(decide ((ov (DY F v 0))=(v.length:Int))))
def Do (F:Nat)(v:(List Ac))(i:Int)(he:(List Ac)→Int→Option (Int))(hd:Int)(hb:Int)(ha:Int):Option (Stp (Int×Int×Int) (Out (Int) (Int))):=
 Bz (decide (ha<((Ax v i).fN))) (Bz (decide (((Ax v i).fKind)=6)) (AX (BG .i64 (hb+1))<|Bv (he v (hb+1)) λhf=>Bz (decide (hd<hf)) (Bv (DY F v (hb+1)) λhh=>AX (BG .i64 (ha+1))<|some (.next (hf,hh,ha+1))) (Bv (DY F v (hb+1)) λhi=>AX (BG .i64 (ha+1))<|some (.next (hd,hi,ha+1)))) (Bv (he v hb) λhg=>Bz (decide (hd<hg)) (Bv (DY F v hb) λhj=>AX (BG .i64 (ha+1))<|some (.next (hg,hj,ha+1))) (Bv (DY F v hb) λhk=>AX (BG .i64 (ha+1))<|some (.next (hd,hk,ha+1))))) (some (.out (.go hd)))
def EC (ha:Int):Option (Int):=
 AX (BG .i64 (ha+1))<|some (ha+1)
def Ja (F:Nat)(ha:(List Ac)→Int→Option (Int))(v:(List Ac))(i:Int):Option (Int):=
 AX (Ch i (v.length:Int))<|Bz (((!decide (((Ax v i).fKind)=5))&&(!decide (((Ax v i).fKind)=6)))) (some 1) (AX (BG .i64 (i+1))<|Bv (BX (λσ=>Do F v i ha σ.1 σ.2.1 σ.2.2) F (0,i+1,0)) (BT λν=>EC ν))
def D5:Nat→(List Ac)→Int→Option (Int)
 | 0,_,_=>none
 | nn+1,v,i=>Ja nn (D5 nn) v i
def Dz (s:Ai)(hb:Ai)(ha:Int):Option (Stp (Ai×Int) (Out (Ai) (Ai))):=
 Bz (decide (ha<(s.length:Int))) (AX (Ch ha (s.length:Int))<|Bz (((decide ((BK s ha)=34))||(decide ((BK s ha)=92)))) (AX (BG .i64 ((hb.length:Int)+(([92]:Ai).length:Int)))<|AX (BG .i64 (ha+1))<|AX (IR ha (ha+1))<|AX (IR (ha+1) (s.length:Int))<|AX (BG .i64 (((hb++([92]:Ai)).length:Int)+((List.take (Int.toNat (ha+1)-Int.toNat ha) (List.drop (Int.toNat ha) s)).length:Int)))<|some (.next ((hb++([92]:Ai))++(List.take (Int.toNat (ha+1)-Int.toNat ha) (List.drop (Int.toNat ha) s)),ha+1))) (AX (BG .i64 (ha+1))<|AX (IR ha (ha+1))<|AX (IR (ha+1) (s.length:Int))<|AX (BG .i64 ((hb.length:Int)+((List.take (Int.toNat (ha+1)-Int.toNat ha) (List.drop (Int.toNat ha) s)).length:Int)))<|some (.next (hb++(List.take (Int.toNat (ha+1)-Int.toNat ha) (List.drop (Int.toNat ha) s)),ha+1)))) (some (.out (.go hb)))
def Ee (ha:Ai):Option (Ai):=
 AX (BG .i64 ((ha.length:Int)+(([34]:Ai).length:Int)))<|some (ha++([34]:Ai))
def JB (F:Nat)(s:Ai):Option (Ai):=
 Bv (BX (λσ=>Dz s σ.1 σ.2) F (([34]:Ai),0)) (BT λν=>Ee ν)
def EB (F:Nat)(v:(List Ac))(i:Int)(he:(List Ac)→Int→Option (Ai))(ha:Ai)(hb:Int)(hd:Int):Option (Stp (Ai×Int×Int) (Out (Ai) (Ai))):=
 Bz (decide (hd<((Ax v i).fN))) (Bz (decide (0<hd)) (AX (BG .i64 ((ha.length:Int)+(([44]:Ai).length:Int)))<|Bz (decide (((Ax v i).fKind)=6)) (AX (Ch hb (v.length:Int))<|Bv (JB F ((Ax v hb).fStr)) λhf=>AX (BG .i64 (((ha++([44]:Ai)).length:Int)+(hf.length:Int)))<|AX (BG .i64 ((((ha++([44]:Ai))++hf).length:Int)+(([58]:Ai).length:Int)))<|AX (BG .i64 (hb+1))<|Bv (he v (hb+1)) λhh=>AX (BG .i64 (((((ha++([44]:Ai))++hf)++([58]:Ai)).length:Int)+(hh.length:Int)))<|Bv (DY F v (hb+1)) λhl=>AX (BG .i64 (hd+1))<|some (.next ((((ha++([44]:Ai))++hf)++([58]:Ai))++hh,hl,hd+1))) (Bv (he v hb) λhi=>AX (BG .i64 (((ha++([44]:Ai)).length:Int)+(hi.length:Int)))<|Bv (DY F v hb) λhm=>AX (BG .i64 (hd+1))<|some (.next ((ha++([44]:Ai))++hi,hm,hd+1)))) (Bz (decide (((Ax v i).fKind)=6)) (AX (Ch hb (v.length:Int))<|Bv (JB F ((Ax v hb).fStr)) λhg=>AX (BG .i64 ((ha.length:Int)+(hg.length:Int)))<|AX (BG .i64 (((ha++hg).length:Int)+(([58]:Ai).length:Int)))<|AX (BG .i64 (hb+1))<|Bv (he v (hb+1)) λhj=>AX (BG .i64 ((((ha++hg)++([58]:Ai)).length:Int)+(hj.length:Int)))<|Bv (DY F v (hb+1)) λhn=>AX (BG .i64 (hd+1))<|some (.next (((ha++hg)++([58]:Ai))++hj,hn,hd+1))) (Bv (he v hb) λhk=>AX (BG .i64 ((ha.length:Int)+(hk.length:Int)))<|Bv (DY F v hb) λho=>AX (BG .i64 (hd+1))<|some (.next (ha++hk,ho,hd+1))))) (some (.out (.go ha)))
def Ij (v:(List Ac))(i:Int)(ha:Ai):Option (Ai):=
 Bz (decide (((Ax v i).fKind)=6)) (AX (BG .i64 ((([123]:Ai).length:Int)+(ha.length:Int)))<|AX (BG .i64 (((([123]:Ai)++ha).length:Int)+(([125]:Ai).length:Int)))<|some ((([123]:Ai)++ha)++([125]:Ai))) (AX (BG .i64 ((([91]:Ai).length:Int)+(ha.length:Int)))<|AX (BG .i64 (((([91]:Ai)++ha).length:Int)+(([93]:Ai).length:Int)))<|some ((([91]:Ai)++ha)++([93]:Ai)))
def Ng (F:Nat)(ha:(List Ac)→Int→Option (Ai))(v:(List Ac))(i:Int):Option (Ai):=
 AX (Ch i (v.length:Int))<|Bz (decide (((Ax v i).fKind)=1)) (some ([110,117,108,108]:Ai)) (Bz (decide (((Ax v i).fKind)=2)) (Bz (decide (((Ax v i).fInt)=1)) (some ([116,114,117,101]:Ai)) (some ([102,97,108,115,101]:Ai))) (Bz (decide (((Ax v i).fKind)=3)) (AX (BG .i64 ((Ax v i).fInt))<|some (Lib.itoa ((Ax v i).fInt))) (Bz (decide (((Ax v i).fKind)=4)) (Bv (JB F ((Ax v i).fStr)) λhb=>some hb) (AX (BG .i64 (i+1))<|Bv (BX (λσ=>EB F v i ha σ.1 σ.2.1 σ.2.2) F (([]:Ai),i+1,0)) (BT λν=>Ij v i ν)))))
def HI:Nat→(List Ac)→Int→Option (Ai)
 | 0,_,_=>none
 | nn+1,v,i=>Ng nn (HI nn) v i
def Ga (v:(List Ac))(ha:Int):Option (Stp (Int) (Out (Int) (Unit))):=
 Bz (decide (ha<(v.length:Int))) (AX (Ch ha (v.length:Int))<|Bz (decide (200<(((Ax v ha).fStr).length:Int))) (some (.out (.ret 3))) (AX (BG .i64 (ha+1))<|some (.next (ha+1)))) (some (.out (.go ())))
def Jb (F:Nat)(v:(List Ac)):Option (Int):=
 Bv (HI F v 0) λha=>Bz (decide (4000<(ha.length:Int))) (some 3) (some 0)
def Gb (v:(List Ac))(ha:Int):Option (Stp (Int) (Out (Int) (Unit))):=
 Bz (decide (ha<(v.length:Int))) (AX (Ch ha (v.length:Int))<|Bz (((decide (((Ax v ha).fKind)=3))&&((decide (((Ax v ha).fInt)<(-1000000000000)))||(decide (1000000000000<((Ax v ha).fInt)))))) (some (.out (.ret 2))) (AX (BG .i64 (ha+1))<|some (.next (ha+1)))) (some (.out (.go ())))
def Jc (F:Nat)(v:(List Ac)):Option (Int):=
 AX (imp (!(decide (200<(v.length:Int)))) ((D5 F v 0).isSome))<|Bz (((decide (200<(v.length:Int)))||(decide (8<(ov (D5 F v 0)))))) (some 3) (Bv (BX (λσ=>Ga v σ) F 0) (BT λν=>Jb F v ))
def HC (F:Nat)(v:(List Ac)):Option (Int):=
 Bv (Mw F v) λr1=>Bz (!r1) (some 1) (Bv (BX (λσ=>Gb v σ) F 0) (BT λν=>Jc F v ))
end Go.Proofs.YtmjlemhondjfhaaGreatDoor
namespace Go.Proofs.YtmjlemhondjfhaaGreatDoor.Q
open Go Go.RowKit
set_option linter.unusedVariables false
set_option linter.unusedSimpArgs false
set_option maxRecDepth 100000
set_option maxHeartbeats 4000000
@[reducible] def Ae (x:Ac):List Rp:=[A4 x.fKind,A4 x.fInt,rS x.fStr,A4 x.fN]
theorem Dx (x:Ac):(Ae x).length=4:=rfl
theorem Qz (x:Ac):(Ae x).all (·.one)=true:=rfl
theorem YQ (F:Nat)(s:Ai)(r:Bool)(h:Kr F s=some r):Fn Tryz.prog GE 199 [rS s] [] (λR H=>R=rB r∧H=[]):=by
 refine enter (n:=20) Tryz.func199 Aa Tryz.ntmps199 Aa (λw Z=>?_);unfold Kr at h;refine Ad (wa Aa (Ao (Ak (Ad (wa Aa (Ao (A6 (ob h λhi hj hg=>Br (S:=Nat×(Int)×(Unit)) (V:=(Unit)×(Unit)) 0 (λσ=>BX (λσ=>KU s σ) σ.1 σ.2.1=some hi) (λσ=>[(0,rS s),(3,A4 σ.2.1)]) (λσ=>[]) (λσ=>σ.1) (F,0,()) hj (AH.c Aa (AH.c Aa AH.nil)) sN (λσ=>KT =some r) (λσ=>[]) (λσ=>[]) ?_ ?_))))))))
 ·rintro⟨hz,hb,⟨⟩⟩ hk;refine GI ?_;obtain⟨hl,rfl,t37,hd,hf⟩:=Cc hk;replace hd:KU s hb=some t37:=hd;unfold KU at hd;refine Ak (Ad (wm Aa (wm Aa (wv (B0 C4 Aa) (wv (Ci Aa Aa) (Ao (cz hd Aa (λhm hn=>?_) (λhm ho=>?_))))))))
  ·refine Aw (AE (Ak (A6 (ck hn λhh hp=>A5 [(0,rS s),(3,A4 hb),(19,rB ((decide ((BK s hb)<32))||(decide (126<(BK s hb)))))] [] ?_ ?_))))
   ·refine Af (wm Aa (wm Aa (wv (B3 C4 Aa Aa hh) (wv (Ci Aa Aa) (wm Aa (AA (decide ((BK s hb)<32)) (λha=>?_) (λha=>?_)))))))
    ·refine wf ha (wf ha (wf ha (wf ha (wv (r:=rB true) (An Aa ha Aa) (Ah ?_)))));exact BH ha
    refine wo ha (wm Aa (wo ha (wm Aa (wo ha (wv (B3 C4 Aa Aa hh) (wo ha (wv (Dc Aa Aa) (Ep Aa ha Aa (Ah ?_)))))))));exact BH ha
   refine cz hp Aa (λhq hr=>?_) (λhq hs=>?_)
   ·refine Ad (wa Aa (Ao (Ap (A3 (Ab (Ab (Bg ?_)))))));have ht:=BC hr hf hg;refine A3 (Ab ?_);obtain rfl:=Au ht;exact Aq (B2 Tryz.results199 (AD Aa)) sN ⟨Aa,Aa⟩
   refine Aw (AB (AE (Af (wm Aa (ck hs λhu hw=>wv (By Aa Aa hu) (wa Aa (Ah ?_)))))));have hx:=Bi hw hf;exact Ar (AC (hl,hb+1,()) ⟨hx,AeR _⟩ (AH.c Aa (AH.c Aa AH.nil)) sN)
  refine Bn (Av ?_);have hy:=BE ho hf hg;exact Av (AY (AC ((),()) hy AH.nil sN))
 rintro⟨⟨⟩,⟨⟩⟩ he;refine GX ?_;replace he:KT =some r:=he;unfold KT at he;refine AW (AE (Ad (wa Aa (Ao (Ap ?_)))));obtain rfl:=Au he;exact Aq (B2 Tryz.results199 (AD Aa)) sN ⟨Aa,Aa⟩
theorem ED (ok:Bool)(i:Int)(r:Int)(h:BU ok i=some r):Fn Tryz.prog GE 168 [rB ok,A4 i] [] (λR H=>R=A4 r∧H=[]):=by
 refine enter (n:=8) Tryz.func168 Aa Tryz.ntmps168 Aa (λw Z=>?_);unfold BU at h;refine Ad (wa Aa (Ao (Ak (Ad (wm Aa (Ao (cz h Aa (λc1 h2=>?_) (λc1 h5=>?_))))))))
 ·refine Ad (wm Aa (ck h2 λg3 h4=>wv (By Aa Aa g3) (wa Aa (Ao (Ap (Ab ?_))))));obtain rfl:=Au h4;exact Aq (B2 Tryz.results168 (AD Aa)) sN ⟨Aa,Aa⟩
 refine Aw (AE (Ad (wv (r:=A4 (-1)) (A0 Aa) (Ao (Ap ?_)))));obtain rfl:=Au h5;exact Aq (B2 Tryz.results168 (AD Aa)) sN ⟨Aa,Aa⟩
theorem YS (F:Nat)(c:Ac)(r:Bool)(h:Qk F c=some r):Fn Tryz.prog GE 169 [B9 (Ae c)] [] (λR H=>R=rB r∧H=[]):=by
 refine enter (n:=21) Tryz.func169 Aa Tryz.ntmps169 Aa (λw Z=>?_);unfold Qk at h;refine Ad (BM Aa Aa (λb1=>?_));refine wa Aa (Ao (ck h λg2 h3=>A5 [(2,rB ((decide (c.fKind=4))&&((decide (c.fInt=0))&&((decide (c.fN=0))&&(ov (Kr F c.fStr))))))] [] ?_ ?_))
 ·refine Af (vF BD Aa DU (vL 0 DV Aa (wv (B7 Aa Aa) (wm Aa (AA (decide (c.fKind=4)) (λc4=>?_) (λc4=>?_))))))
  ·refine wo c4 (vF BD Aa CK (wo c4 (vL 0 Df Aa (wo c4 (wv (B7 Aa Aa) (E0 Aa c4 Aa (wm Aa (AA (decide (c.fInt=0)) (λc5=>?_) (λc5=>?_)))))))))
   ·refine wo c5 (vF BD Aa CK (wo c5 (vL 0 Df Aa (wo c5 (wv (B7 Aa Aa) (E0 Aa c5 Aa (wm Aa (AA (decide (c.fN=0)) (λc6=>?_) (λc6=>?_)))))))))
    ·refine wo c6 (vF BD Aa CE (wo c6 (vL 0 Dp Aa (wo c6 (BP Tryz.call199 (YQ F c.fStr (ov (Kr F c.fStr)) (Cr (BF (BF (BF g2 c4) c5) c6))) Aa (E0 Aa c6 Aa (wa Aa (Ah ?_))))))));exact BH (And.intro c4 (And.intro c5 c6))
    refine wf c6 (wf c6 (wf c6 (wv (r:=rB false) (Ay Aa c6 Aa) (wa Aa (Ah ?_)))));exact BH (And.intro c4 (And.intro c5 c6))
   refine wf c5 (wf c5 (wf c5 (wv (r:=rB false) (Ay Aa c5 Aa) (wm Aa (wz Aa Aa (wz Aa Aa (wz Aa Aa (wv (r:=rB false) (Ay (b:=false) Aa Aa Aa) (wa Aa (Ah ?_))))))))));exact BH (And.intro c4 c5)
  refine wf c4 (wf c4 (wf c4 (wv (r:=rB false) (Ay Aa c4 Aa) (wm Aa (wz Aa Aa (wz Aa Aa (wz Aa Aa (wv (r:=rB false) (Ay (b:=false) Aa Aa Aa) (wm Aa (wz Aa Aa (wz Aa Aa (wz Aa Aa (wv (r:=rB false) (Ay (b:=false) Aa Aa Aa) (wa Aa (Ah ?_)))))))))))))));exact BH c4
 refine Ap ?_;obtain rfl:=Au h3;exact Aq (B2 Tryz.results169 (AD Aa)) sN ⟨Aa,Aa⟩
theorem YR (F:Nat)(hn:(List Ac)→Int→Int→Option (Int))(ho:(List Ac)→Int→Int→Option (Int))(hq:(∀(v:(List Ac)) (i:Int) (n:Int) (r:Int),hn v i n=some r→Fn Tryz.prog GE 170 [AO 4 (A8 Ae v),A4 i,A4 n] [] (λR H=>R=A4 r∧H=[])))(hr:(∀(v:(List Ac)) (i:Int) (n:Int) (r:Int),ho v i n=some r→Fn Tryz.prog GE 171 [AO 4 (A8 Ae v),A4 i,A4 n] [] (λR H=>R=A4 r∧H=[])))(v:(List Ac))(i:Int)(r:Int)(h:RE F hn ho v i=some r):Fn Tryz.prog GE 121 [AO 4 (A8 Ae v),A4 i] [] (λR H=>R=A4 r∧H=[]):=by
 refine enter (n:=127) Tryz.func121 Aa Tryz.ntmps121 Aa (λw Z=>?_);unfold RE at h;refine Ad (wa Aa (Ao (Ak (A5 [(0,AO 4 (A8 Ae v)),(1,A4 i),(13,rB ((decide (i<0))||(decide ((v.length:Int)≤i))))] [] ?_ ?_))))
 ·refine Af (wm Aa (wv (Ci Aa Aa) (wm Aa (AA (decide (i<0)) (λc1=>?_) (λc1=>?_)))))
  ·refine wf c1 (wf c1 (wf c1 (wf c1 (wv (r:=rB true) (An Aa c1 Aa) (Ah ?_)))));exact BH c1
  refine wo c1 (wm Aa (wo c1 (wm Aa (wo c1 (wv (Bj (ys:=v) (enc:=Ae) CL Aa) (wo c1 (wv (DP Aa Aa) (Ep Aa c1 Aa (Ah ?_)))))))));exact BH c1
 refine cz h Aa (λc2 h3=>?_) (λc2 h4=>?_)
 ·refine Ad (wv (r:=A4 (-1)) (A0 Aa) (Ao (Ap (Ab ?_))));obtain rfl:=Au h3;exact Aq (B2 ND (AD Aa)) sN ⟨Aa,Aa⟩
 refine Aw (AE (Ad (wm Aa (wm Aa (ck h4 λg5 h6=>wv (Bk (enc:=Ae) (ys:=v) CL CJ Aa Aa g5) (wv (Cu Od CJ Aa Aa Aa) (BL (cs:=[A4 0,A4 0,rS ([]:Ai),A4 0]) Oc Aa Aa (λb7=>?_))))))));refine GU (i:=0) CJ Aa Aa Aa (B8.c Aa) Aa Aa ?_;refine Ao (Ak (Ad (vF BD Aa DU (vL 0 DV Aa (wv (B7 Aa Aa) (Ao (cz h6 Aa (λc8 h9=>?_) (λc8 hs=>?_))))))))
 ·refine ck h9 λht hu=>ck hu λhw hx=>ck hx λhy hz=>A5 [(4,A4 (bif decide (((Ax v i).fInt)=0) then(bif decide (((Ax v i).fStr)=([]:Ai)) then(ov (BU (decide (((Ax v i).fN)=0)) i)) else(ov (BU false i))) else(ov (BU false i))))] [] ?_ ?_
  ·refine Af (vF BD Aa CK (vL 0 Df Aa (wv (B7 Aa Aa) (wm Aa (AA (decide (((Ax v i).fInt)=0)) (λhb=>?_) (λhb=>?_))))))
   ·refine wo hb (vF BD Aa CE (wo hb (vL 0 Dp Aa (wo hb (wv (BQ Aa Aa) (E0 Aa hb Aa (wm Aa (AA (decide (((Ax v i).fStr)=([]:Ai))) (λhe=>?_) (λhe=>?_)))))))))
    ·refine wo he (vF BD Aa CK (wo he (vL 0 Df Aa (wo he (wv (B7 Aa Aa) (E0 Aa he Aa (wm Aa (BP Kj (ED (decide (((Ax v i).fN)=0)) i (ov (BU (decide (((Ax v i).fN)=0)) i)) (Cr (BF (BF ht hb) he))) Aa (wa Aa (Ah ?_))))))))));exact BH (And.intro hb he)
    refine wf he (wf he (wf he (wv (r:=rB false) (Ay Aa he Aa) (wm Aa (BP Kj (ED false i (ov (BU false i)) (Cr (C3 (BF hw hb) he))) Aa (wa Aa (Ah ?_)))))));exact BH (And.intro hb he)
   refine wf hb (wf hb (wf hb (wv (r:=rB false) (Ay Aa hb Aa) (wm Aa (wz Aa Aa (wz Aa Aa (wz Aa Aa (wv (r:=rB false) (Ay (b:=false) Aa Aa Aa) (wm Aa (BP Kj (ED false i (ov (BU false i)) (Cr (C3 hy hb))) Aa (wa Aa (Ah ?_))))))))))));exact BH hb
  refine Ap (Ab ?_);obtain rfl:=Au hz;exact Aq (B2 ND (AD Aa)) sN ⟨Aa,Aa⟩
 refine Aw (AE (Ak (Ad (vF BD Aa DU (vL 0 DV Aa (wv (B7 Aa Aa) (Ao (cz hs Aa (λh0 h1=>?_) (λh0 h2=>?_)))))))))
 ·refine ck h1 λh5 h7=>ck h7 λh8 hA=>ck hA λhB hC=>ck hC λhD hE=>ck hE λhG hH=>A5 [(4,A4 (bif decide (((Ax v i).fInt)=0) then(bif decide (((Ax v i).fStr)=([]:Ai)) then(ov (BU (decide (((Ax v i).fN)=0)) i)) else(ov (BU false i))) else(bif decide (((Ax v i).fInt)=1) then(bif decide (((Ax v i).fStr)=([]:Ai)) then(ov (BU (decide (((Ax v i).fN)=0)) i)) else(ov (BU false i))) else(ov (BU false i)))))] [] ?_ ?_
  ·refine Af (vF BD Aa CK (vL 0 Df Aa (wv (B7 Aa Aa) (wm Aa (AA (decide (((Ax v i).fInt)=0)) (λha=>?_) (λha=>?_))))))
   ·refine wf ha (wf ha (wf ha (wv (r:=rB true) (An Aa ha Aa) (wm Aa (AL (b:=true) Aa Aa Aa (vF BD Aa CE (AL (b:=true) Aa Aa Aa (vL 0 Dp Aa (AL (b:=true) Aa Aa Aa (wv (BQ Aa Aa) (wv (r:=rB (decide (((Ax v i).fStr)=([]:Ai)))) (An (b:=true) Aa Aa Aa) (wm Aa (AA (decide (((Ax v i).fStr)=([]:Ai))) (λhf=>?_) (λhf=>?_))))))))))))))
    ·refine wo hf (vF BD Aa CK (wo hf (vL 0 Df Aa (wo hf (wv (B7 Aa Aa) (E0 Aa hf Aa (wm Aa (BP Kj (ED (decide (((Ax v i).fN)=0)) i (ov (BU (decide (((Ax v i).fN)=0)) i)) (Cr (BF (BF h5 ha) hf))) Aa (wa Aa (Ah ?_))))))))));exact BH (And.intro ha hf)
    refine wf hf (wf hf (wf hf (wv (r:=rB false) (Ay Aa hf Aa) (wm Aa (BP Kj (ED false i (ov (BU false i)) (Cr (C3 (BF h8 ha) hf))) Aa (wa Aa (Ah ?_)))))));exact BH (And.intro ha hf)
   refine wo ha (vF BD Aa CK (wo ha (vL 0 Df Aa (wo ha (wv (B7 Aa Aa) (Ep Aa ha Aa (wm Aa (AA (decide (((Ax v i).fInt)=1)) (λhd=>?_) (λhd=>?_)))))))))
   ·refine wo hd (vF BD Aa CE (wo hd (vL 0 Dp Aa (wo hd (wv (BQ Aa Aa) (E0 Aa hd Aa (wm Aa (AA (decide (((Ax v i).fStr)=([]:Ai))) (λhg=>?_) (λhg=>?_)))))))))
    ·refine wo hg (vF BD Aa CK (wo hg (vL 0 Df Aa (wo hg (wv (B7 Aa Aa) (E0 Aa hg Aa (wm Aa (BP Kj (ED (decide (((Ax v i).fN)=0)) i (ov (BU (decide (((Ax v i).fN)=0)) i)) (Cr (BF (BF (C3 hB ha) hd) hg))) Aa (wa Aa (Ah ?_))))))))));exact BH (And.intro ha (And.intro hd hg))
    refine wf hg (wf hg (wf hg (wv (r:=rB false) (Ay Aa hg Aa) (wm Aa (BP Kj (ED false i (ov (BU false i)) (Cr (C3 (BF (C3 hD ha) hd) hg))) Aa (wa Aa (Ah ?_)))))));exact BH (And.intro ha (And.intro hd hg))
   refine wf hd (wf hd (wf hd (wv (r:=rB false) (Ay Aa hd Aa) (wm Aa (wz Aa Aa (wz Aa Aa (wz Aa Aa (wv (r:=rB false) (Ay (b:=false) Aa Aa Aa) (wm Aa (BP Kj (ED false i (ov (BU false i)) (Cr (C3 (C3 hG ha) hd))) Aa (wa Aa (Ah ?_))))))))))));exact BH (And.intro ha hd)
  refine Ap (Ab ?_);obtain rfl:=Au hH;exact Aq (B2 ND (AD Aa)) sN ⟨Aa,Aa⟩
 refine Aw (AE (Ak (Ad (vF BD Aa DU (vL 0 DV Aa (wv (B7 Aa Aa) (Ao (cz h2 Aa (λhI hJ=>?_) (λhI hK=>?_)))))))))
 ·refine ck hJ λhL hN=>ck hN λhO hP=>A5 [(4,A4 (bif decide (((Ax v i).fStr)=([]:Ai)) then(ov (BU (decide (((Ax v i).fN)=0)) i)) else(ov (BU false i))))] [] ?_ ?_
  ·refine Af (vF BD Aa CE (vL 0 Dp Aa (wv (BQ Aa Aa) (wm Aa (AA (decide (((Ax v i).fStr)=([]:Ai))) (λhh=>?_) (λhh=>?_))))))
   ·refine wo hh (vF BD Aa CK (wo hh (vL 0 Df Aa (wo hh (wv (B7 Aa Aa) (E0 Aa hh Aa (wm Aa (BP Kj (ED (decide (((Ax v i).fN)=0)) i (ov (BU (decide (((Ax v i).fN)=0)) i)) (Cr (BF hL hh))) Aa (wa Aa (Ah ?_))))))))));exact BH hh
   refine wf hh (wf hh (wf hh (wv (r:=rB false) (Ay Aa hh Aa) (wm Aa (BP Kj (ED false i (ov (BU false i)) (Cr (C3 hO hh))) Aa (wa Aa (Ah ?_)))))));exact BH hh
  refine Ap (Ab ?_);obtain rfl:=Au hP;exact Aq (B2 ND (AD Aa)) sN ⟨Aa,Aa⟩
 refine Aw (AE (Ak (Ad (vF BD Aa DU (vL 0 DV Aa (wv (B7 Aa Aa) (Ao (cz hK Aa (λhQ hR=>?_) (λhQ hS=>?_)))))))))
 ·refine Ad (wv (Be (i:=0) Od CJ Aa Aa Aa Aa) (ob hR λhp hT hU=>BP Tryz.call169 (YS F (Ax v i) hp hT) Aa (wm Aa (ob hU λhV hW hX=>BP Kj (ED hp i hV hW) Aa (wa Aa (Ao (Ap (Ab ?_))))))));obtain rfl:=Au hX;exact Aq (B2 ND (AD Aa)) (sS sN) ⟨Aa,Aa⟩
 refine Aw (AE (Ak (A5 [(0,AO 4 (A8 Ae v)),(1,A4 i),(5,rP b7 0),(96,rB ((decide (((Ax v i).fKind)=5))&&((decide (((Ax v i).fInt)=0))&&((decide (((Ax v i).fStr)=([]:Ai)))&&(decide (0≤((Ax v i).fN)))))))] [.blk b7 (Ae (Ax v i)) 70] ?_ ?_)))
 ·refine Af (vF BD Aa DU (vL 0 DV Aa (wv (B7 Aa Aa) (wm Aa (AA (decide (((Ax v i).fKind)=5)) (λc53=>?_) (λc53=>?_))))))
  ·refine wo c53 (vF BD Aa CK (wo c53 (vL 0 Df Aa (wo c53 (wv (B7 Aa Aa) (E0 Aa c53 Aa (wm Aa (AA (decide (((Ax v i).fInt)=0)) (λhj=>?_) (λhj=>?_)))))))))
   ·refine wo hj (vF BD Aa CE (wo hj (vL 0 Dp Aa (wo hj (wv (BQ Aa Aa) (E0 Aa hj Aa (wm Aa (AA (decide (((Ax v i).fStr)=([]:Ai))) (λhl=>?_) (λhl=>?_)))))))))
    ·refine wo hl (vF BD Aa CK (wo hl (vL 0 Df Aa (wo hl (wv (DP Aa Aa) (E0 Aa hl Aa (Ah ?_)))))));exact BH (And.intro c53 (And.intro hj hl))
    refine wf hl (wf hl (wf hl (wv (r:=rB false) (Ay Aa hl Aa) (Ah ?_))));exact BH (And.intro c53 (And.intro hj hl))
   refine wf hj (wf hj (wf hj (wv (r:=rB false) (Ay Aa hj Aa) (wm Aa (wz Aa Aa (wz Aa Aa (wz Aa Aa (wv (r:=rB false) (Ay (b:=false) Aa Aa Aa) (Ah ?_)))))))));exact BH (And.intro c53 hj)
  refine wf c53 (wf c53 (wf c53 (wv (r:=rB false) (Ay Aa c53 Aa) (wm Aa (wz Aa Aa (wz Aa Aa (wz Aa Aa (wv (r:=rB false) (Ay (b:=false) Aa Aa Aa) (wm Aa (wz Aa Aa (wz Aa Aa (wz Aa Aa (wv (r:=rB false) (Ay (b:=false) Aa Aa Aa) (Ah ?_))))))))))))));exact BH c53
 refine cz hS Aa (λhY hZ=>?_) (λhY ga=>?_)
 ·refine Ad (wm Aa (wm Aa (ck hZ λgb gc=>wv (By Aa Aa gb) (vF BD Aa CK (vL 0 Df Aa (ob gc λgd gf gg=>BP Tryz.call170 (hq v (i+1) ((Ax v i).fN) gd gf) Aa (wa Aa (Ao (Ap (Ab ?_))))))))));obtain rfl:=Au gg;exact Aq (B2 ND (AD Aa)) (sS sN) ⟨Aa,Aa⟩
 refine Aw (AE (Ak (A5 [(0,AO 4 (A8 Ae v)),(1,A4 i),(5,rP b7 0),(120,rB ((decide (((Ax v i).fKind)=6))&&((decide (((Ax v i).fInt)=0))&&((decide (((Ax v i).fStr)=([]:Ai)))&&(decide (0≤((Ax v i).fN)))))))] [.blk b7 (Ae (Ax v i)) 70] ?_ ?_)))
 ·refine Af (vF BD Aa DU (vL 0 DV Aa (wv (B7 Aa Aa) (wm Aa (AA (decide (((Ax v i).fKind)=6)) (λhi=>?_) (λhi=>?_))))))
  ·refine wo hi (vF BD Aa CK (wo hi (vL 0 Df Aa (wo hi (wv (B7 Aa Aa) (E0 Aa hi Aa (wm Aa (AA (decide (((Ax v i).fInt)=0)) (λhk=>?_) (λhk=>?_)))))))))
   ·refine wo hk (vF BD Aa CE (wo hk (vL 0 Dp Aa (wo hk (wv (BQ Aa Aa) (E0 Aa hk Aa (wm Aa (AA (decide (((Ax v i).fStr)=([]:Ai))) (λhm=>?_) (λhm=>?_)))))))))
    ·refine wo hm (vF BD Aa CK (wo hm (vL 0 Df Aa (wo hm (wv (DP Aa Aa) (E0 Aa hm Aa (Ah ?_)))))));exact BH (And.intro hi (And.intro hk hm))
    refine wf hm (wf hm (wf hm (wv (r:=rB false) (Ay Aa hm Aa) (Ah ?_))));exact BH (And.intro hi (And.intro hk hm))
   refine wf hk (wf hk (wf hk (wv (r:=rB false) (Ay Aa hk Aa) (wm Aa (wz Aa Aa (wz Aa Aa (wz Aa Aa (wv (r:=rB false) (Ay (b:=false) Aa Aa Aa) (Ah ?_)))))))));exact BH (And.intro hi hk)
  refine wf hi (wf hi (wf hi (wv (r:=rB false) (Ay Aa hi Aa) (wm Aa (wz Aa Aa (wz Aa Aa (wz Aa Aa (wv (r:=rB false) (Ay (b:=false) Aa Aa Aa) (wm Aa (wz Aa Aa (wz Aa Aa (wz Aa Aa (wv (r:=rB false) (Ay (b:=false) Aa Aa Aa) (Ah ?_))))))))))))));exact BH hi
 refine cz ga Aa (λgh gi=>?_) (λgh gj=>?_)
 ·refine Ad (wm Aa (wm Aa (ck gi λgl gm=>wv (By Aa Aa gl) (vF BD Aa CK (vL 0 Df Aa (ob gm λgp gq gr=>BP Tryz.call171 (hr v (i+1) ((Ax v i).fN) gp gq) Aa (wa Aa (Ao (Ap (Ab ?_))))))))));obtain rfl:=Au gr;exact Aq (B2 ND (AD Aa)) (sS sN) ⟨Aa,Aa⟩
 refine Aw (AE (Ad (wv (r:=A4 (-1)) (A0 Aa) (Ao (Ap ?_)))));obtain rfl:=Au gj;exact Aq (B2 ND (AD Aa)) (sS sN) ⟨Aa,Aa⟩
theorem RF (F:Nat)(ha:(List Ac)→Int→Option (Int))(hj:(∀(v:(List Ac)) (i:Int) (r:Int),ha v i=some r→Fn Tryz.prog GE 121 [AO 4 (A8 Ae v),A4 i] [] (λR H=>R=A4 r∧H=[])))(v:(List Ac))(i:Int)(n:Int)(r:Int)(h:JC F ha v i n=some r):Fn Tryz.prog GE 170 [AO 4 (A8 Ae v),A4 i,A4 n] [] (λR H=>R=A4 r∧H=[]):=by
 refine enter (n:=19) Tryz.func170 Aa Tryz.ntmps170 Aa (λw Z=>?_);unfold JC at h;refine Ad (wa Aa (Ao (Ak (Ad (wa Aa (Ao (A6 (ob h λhk hl hg=>Br (S:=Nat×(Int×Int)×(Unit)) (V:=(Int)×(Unit)) 0 (λσ=>BX (λσ=>Dq v n ha σ.1 σ.2) σ.1 σ.2.1=some hk) (λσ=>[(0,AO 4 (A8 Ae v)),(1,A4 σ.2.1.1),(2,A4 n),(6,A4 0),(7,A4 σ.2.1.2)]) (λσ=>[]) (λσ=>σ.1) (F,(i,0),()) hl (AH.c5 Aa Aa Aa Aa Aa AH.nil) sN (λσ=>EZ σ.1=some r) (λσ=>[(1,A4 σ.1),(6,A4 0)]) (λσ=>[]) ?_ ?_))))))))
 ·rintro⟨h2,⟨he,hh⟩,⟨⟩⟩ hm;refine GI ?_;obtain⟨hn,rfl,ho,hb,hf⟩:=Cc hm;replace hb:Dq v n ha he hh=some ho:=hb;unfold Dq at hb;refine Ak (Ad (wm Aa (wm Aa (wv (Ci Aa Aa) (Ao (cz hb Aa (λc46 hp=>?_) (λc46 hq=>?_)))))))
  ·refine Aw (AE (Ak (A6 (Ad (wm Aa (wm Aa (ob hp λhi hr hs=>BP Kk (hj v he hi hr) Aa (wa Aa (Bp (wm Aa (wv (Ci Aa Aa) (Ao (cz hs Aa (λc51 ht=>?_) (λc51 hu=>?_))))))))))))))
   ·refine Ad (wv (r:=A4 (-1)) (A0 Aa) (Ao (Ap (A3 (Ab (Ab (Bg ?_)))))));have hw:=BC ht hf hg;refine A3 (Ab ?_);obtain rfl:=Au hw;exact Aq (B2 Tryz.results170 (AD Aa)) sN ⟨Aa,Aa⟩
   refine Aw (AB (AE (Af (wm Aa (ck hu λhx hy=>wv (By Aa Aa hx) (wa Aa (Ah ?_)))))));have hz:=Bi hy hf;exact Ar (AC (hn,(hi,hh+1),()) ⟨hz,AeR _⟩ (AH.c5 Aa Aa Aa Aa Aa AH.nil) sN)
  refine Bn (Av ?_);have h0:=BE hq hf hg;exact Av (AY (AC (he,()) h0 (AH.c Aa (AH.c Aa AH.nil)) sN))
 rintro⟨h1,⟨⟩⟩ hd;refine GX ?_;replace hd:EZ h1=some r:=hd;unfold EZ at hd;refine AW (AE (Ad (wm Aa (wa Aa (Ao (Ap ?_))))));obtain rfl:=Au hd;exact Aq (B2 Tryz.results170 (AD Aa)) sN ⟨Aa,Aa⟩
theorem Xs (F:Nat)(hg:(List Ac)→Int→Option (Int))(ho:(∀(v:(List Ac)) (i:Int) (r:Int),hg v i=some r→Fn Tryz.prog GE 121 [AO 4 (A8 Ae v),A4 i] [] (λR H=>R=A4 r∧H=[])))(v:(List Ac))(i:Int)(n:Int)(r:Int)(h:Ox F hg v i n=some r):Fn Tryz.prog GE 171 [AO 4 (A8 Ae v),A4 i,A4 n] [] (λR H=>R=A4 r∧H=[]):=by
 refine enter (n:=51) Tryz.func171 Aa Tryz.ntmps171 Aa (λw Z=>?_);unfold Ox at h;refine Ad (wa Aa (Bp (wv (r:=rS ([]:Ai)) (A0 Aa) (Ao (Ak (Ad (wa Aa (Ao (A6 (ob h λhp hq hk=>Br (S:=Nat×(Int×Ai×Int)×(Unit)) (V:=(Int)×(Unit)) 0 (λσ=>BX (λσ=>DN F v n hg σ.1 σ.2.1 σ.2.2) σ.1 σ.2.1=some hp) (λσ=>[(0,AO 4 (A8 Ae v)),(1,A4 σ.2.1.1),(2,A4 n),(7,rS σ.2.1.2.1),(8,A4 σ.2.1.2.2)]) (λσ=>[]) (λσ=>σ.1) (F,(i,([]:Ai),0),()) hq (AH.c5 Aa Aa Aa Aa Aa AH.nil) sN (λσ=>HX σ.1=some r) (λσ=>[(1,A4 σ.1)]) (λσ=>[]) ?_ ?_))))))))))
 ·rintro⟨hL,⟨he,hl,hf⟩,⟨⟩⟩ hr;refine GI ?_;obtain⟨hs,rfl,ht,hh,hi⟩:=Cc hr;replace hh:DN F v n hg he hl hf=some ht:=hh;unfold DN at hh;refine Ak (Ad (wm Aa (wm Aa (wv (Ci Aa Aa) (Ao (cz hh Aa (λhu hw=>?_) (λhu hx=>?_)))))))
  ·refine Aw (AE (Ak (A6 (Ak (ck hw λhm hy=>ck hy λhz h0=>A5 [(0,AO 4 (A8 Ae v)),(1,A4 he),(2,A4 n),(8,A4 hf),(38,rB ((decide ((v.length:Int)≤he))||((!(ov (Qk F (Ax v he))))||((decide (0<hf))&&(DX ((Ax v he).fStr) hl||decide (((Ax v he).fStr)=hl))))))] [] ?_ ?_)))))
   ·refine Af (wm Aa (wm Aa (wv (Bj (ys:=v) (enc:=Ae) CL Aa) (wv (DP Aa Aa) (wm Aa (AA (decide ((v.length:Int)≤he)) (λha=>?_) (λha=>?_)))))))
    ·refine wf ha (wf ha (wf ha (wf ha (wf ha (wf ha (wv (r:=rB true) (An Aa ha Aa) (wm Aa (wz Aa Aa (wz Aa Aa (wz Aa Aa (wu (wu (wu (wu (wu (wu (wu (wz Aa Aa (wv (r:=rB true) (An (b:=true) Aa Aa Aa) (Ah ?_))))))))))))))))))));exact BH ha
    refine wo ha (wm Aa (wo ha (wm Aa (wo ha (wv (Bk (enc:=Ae) (ys:=v) CL CJ Aa Aa (C3 hm ha)) (wo ha (wv (Cu Od CJ Aa Aa Aa) (wo ha (BP Tryz.call169 (YS F (Ax v he) (ov (Qk F (Ax v he))) (Cr (C3 hz ha))) Aa (wo ha (wv (BO Aa) (Ep Aa ha Aa (wm Aa (AA (!(ov (Qk F (Ax v he)))) (λhd=>?_) (λhd=>?_)))))))))))))))
    ·refine wf hd (wf hd (wf hd (wu (wu (wu (wu (wu (wu (wu (wf hd (wv (r:=rB true) (An Aa hd Aa) (Ah ?_))))))))))));exact BH (And.intro ha hd)
    refine wo hd (wm Aa (wo hd (wv (Dc Aa Aa) (wo hd (wm Aa (AA (decide (0<hf)) (λhb=>?_) (λhb=>?_)))))))
    ·refine wo hb (wm Aa (wo hb (wm Aa (wo hb (wv (Bk (enc:=Ae) (ys:=v) CL CJ Aa Aa (C3 hm ha)) (wo hb (wv (Bs BD Aa CE Aa Aa) (wo hb (wv (Bb Dp Aa Aa) (wo hb (wm Aa (wo hb (wv (QQ Aa Aa) (wo hd (E0 Aa hb Aa (Ep Aa hd Aa (Ah ?_)))))))))))))))));exact BH (And.intro ha (And.intro hd hb))
    refine wf hb (wf hb (wf hb (wf hb (wf hb (wf hb (wf hb (wo hd (wv (r:=rB false) (Ay Aa hb Aa) (Ep Aa hd Aa (Ah ?_))))))))));exact BH (And.intro ha (And.intro hd hb))
   refine cz h0 Aa (λh1 h2=>?_) (λh1 h3=>?_)
   ·refine Ad (wv (r:=A4 (-1)) (A0 Aa) (Ao (Ap (Ab (A3 (Ab (Ab (Bg ?_))))))));have h4:=BC h2 hi hk;refine A3 (Ab ?_);obtain rfl:=Au h4;exact Aq (B2 Tryz.results171 (AD Aa)) sN ⟨Aa,Aa⟩
   refine Aw (AE (Ad (wm Aa (wm Aa (ck h3 λh5 h6=>wv (Bk (enc:=Ae) (ys:=v) CL CJ Aa Aa h5) (wv (Bs BD Aa CE Aa Aa) (wv (Bb Dp Aa Aa) (wa Aa (Bp (wm Aa (wm Aa (ck h6 λh7 h8=>wv (By Aa Aa h7) (ob h8 λhn h9 hA=>BP Kk (ho v (he+1) hn h9) Aa (wa Aa (Bp (wm Aa (wv (Ci Aa Aa) (Ao (cz hA Aa (λhB hC=>?_) (λhB hD=>?_))))))))))))))))))))
   ·refine Ad (wv (r:=A4 (-1)) (A0 Aa) (Ao (Ap (A3 (Ab (Ab (Bg ?_)))))));have hE:=BC hC hi hk;refine A3 (Ab ?_);obtain rfl:=Au hE;exact Aq (B2 Tryz.results171 (AD Aa)) sN ⟨Aa,Aa⟩
   refine Aw (AB (AE (Af (wm Aa (ck hD λhG hH=>wv (By Aa Aa hG) (wa Aa (Ah ?_)))))));have hI:=Bi hH hi;exact Ar (AC (hs,(hn,(Ax v he).fStr,hf+1),()) ⟨hI,AeR _⟩ (AH.c5 Aa Aa Aa Aa Aa AH.nil) sN)
  refine Bn (Av ?_);have hJ:=BE hx hi hk;exact Av (AY (AC (he,()) hJ (AH.c Aa AH.nil) sN))
 rintro⟨hK,⟨⟩⟩ hj;refine GX ?_;replace hj:HX hK=some r:=hj;unfold HX at hj;refine AW (AE (Ad (wm Aa (wa Aa (Ao (Ap ?_))))));obtain rfl:=Au hj;exact Aq (B2 Tryz.results171 (AD Aa)) sN ⟨Aa,Aa⟩
theorem IZ:∀F:Nat,(∀(v:(List Ac)) (i:Int) (r:Int),DY F v i=some r→Fn Tryz.prog GE 121 [AO 4 (A8 Ae v),A4 i] [] (λR H=>R=A4 r∧H=[]))∧(∀(v:(List Ac)) (i:Int) (n:Int) (r:Int),HY F v i n=some r→Fn Tryz.prog GE 170 [AO 4 (A8 Ae v),A4 i,A4 n] [] (λR H=>R=A4 r∧H=[]))∧(∀(v:(List Ac)) (i:Int) (n:Int) (r:Int),Ni F v i n=some r→Fn Tryz.prog GE 171 [AO 4 (A8 Ae v),A4 i,A4 n] [] (λR H=>R=A4 r∧H=[]))
  | 0=>⟨(λ_ _ _ h=>by simp[DY] at h),(λ_ _ _ _ h=>by simp[HY] at h),(λ_ _ _ _ h=>by simp[Ni] at h)⟩
  | nn+1=>⟨(λv i r h=>YR nn (HY nn) (Ni nn) (IZ nn).2.1 (IZ nn).2.2 v i r (by rw[DY] at h;exact h)),(λv i n r h=>RF nn (DY nn) (IZ nn).1 v i n r (by rw[HY] at h;exact h)),(λv i n r h=>Xs nn (DY nn) (IZ nn).1 v i n r (by rw[Ni] at h;exact h))⟩
theorem HM (F:Nat)(v:(List Ac))(i:Int)(r:Int)(h:DY F v i=some r):Fn Tryz.prog GE 121 [AO 4 (A8 Ae v),A4 i] [] (λR H=>R=A4 r∧H=[]):=(IZ F).1 v i r h
theorem Xv (F:Nat)(v:(List Ac))(r:Bool)(h:Mw F v=some r):Fn Tryz.prog GE 68 [AO 4 (A8 Ae v)] [] (λR H=>R=rB r∧H=[]):=by
 refine enter (n:=13) Tryz.func68 Aa Tryz.ntmps68 Aa (λw Z=>?_);unfold Mw at h;refine Ad (wa Aa (Ao (ck h λg1 h2=>A5 [(2,rB ((decide (0<(v.length:Int)))&&(decide ((ov (DY F v 0))=(v.length:Int)))))] [] ?_ ?_)))
 ·refine Af (wm Aa (wv (Bj (ys:=v) (enc:=Ae) CL Aa) (wv (Dc Aa Aa) (wm Aa (AA (decide (0<(v.length:Int))) (λc3=>?_) (λc3=>?_))))))
  ·refine wo c3 (wm Aa (wo c3 (BP Kk (HM F v 0 (ov (DY F v 0)) (Cr (BF g1 c3))) Aa (wo c3 (wm Aa (wo c3 (wv (Bj (ys:=v) (enc:=Ae) CL Aa) (wo c3 (wv (B7 Aa Aa) (E0 Aa c3 Aa (wa Aa (Ah ?_))))))))))));exact BH c3
  refine wf c3 (wf c3 (wf c3 (wf c3 (wf c3 (wv (r:=rB false) (Ay Aa c3 Aa) (wa Aa (Ah ?_)))))));exact BH c3
 refine Ap ?_;obtain rfl:=Au h2;exact Aq (B2 Tryz.results68 (AD Aa)) sN ⟨Aa,Aa⟩
theorem UY (F:Nat)(he:(List Ac)→Int→Option (Int))(hj:(∀(v:(List Ac)) (i:Int) (r:Int),he v i=some r→Fn Tryz.prog GE 69 [AO 4 (A8 Ae v),A4 i] [] (λR H=>R=A4 r∧H=[])))(v:(List Ac))(i:Int)(r:Int)(h:Ja F he v i=some r):Fn Tryz.prog GE 69 [AO 4 (A8 Ae v),A4 i] [] (λR H=>R=A4 r∧H=[]):=by
 refine enter (n:=47) Tryz.func69 Aa Tryz.ntmps69 Aa (λw Z=>?_);unfold Ja at h;refine Ad (wa Aa (Bp (wm Aa (wm Aa (ck h λg1 h2=>wv (Bk (enc:=Ae) (ys:=v) CL CJ Aa Aa g1) (wv (Cu Od CJ Aa Aa Aa) (BL (cs:=[A4 0,A4 0,rS ([]:Ai),A4 0]) Oc Aa Aa (λb3=>?_))))))));refine GU (i:=0) CJ Aa Aa Aa (B8.c Aa) Aa Aa ?_;refine Ao (Ak (A5 [(0,AO 4 (A8 Ae v)),(1,A4 i),(5,rP b3 0),(21,rB ((!decide (((Ax v i).fKind)=5))&&(!decide (((Ax v i).fKind)=6))))] [.blk b3 (Ae (Ax v i)) 70] ?_ ?_))
 ·refine Af (vF BD Aa DU (vL 0 DV Aa (wv (CH Aa Aa) (wm Aa (AA (!decide (((Ax v i).fKind)=5)) (λc4=>?_) (λc4=>?_))))))
  ·refine wo c4 (vF BD Aa DU (wo c4 (vL 0 DV Aa (wo c4 (wv (CH Aa Aa) (E0 Aa c4 Aa (Ah ?_)))))));exact BH c4
  refine wf c4 (wf c4 (wf c4 (wv (r:=rB false) (Ay Aa c4 Aa) (Ah ?_))));exact BH c4
 refine cz h2 Aa (λc5 h6=>?_) (λc5 h7=>?_)
 ·refine Ad (wa Aa (Ao (Ap (Ab ?_))));obtain rfl:=Au h6;exact Aq (B2 Tryz.results69 (AD Aa)) (sS sN) ⟨Aa,Aa⟩
 refine Aw (AE (Ad (wa Aa (Bp (wm Aa (ck h7 λg8 h9=>wv (By Aa Aa g8) (wa Aa (Ao (Ak (Ad (wa Aa (Ao (A6 (ob h9 λhq hr hs=>Br (S:=Nat×(Int×Int×Int)×(Unit)) (V:=(Int)×(Unit)) 0 (λσ=>BX (λσ=>Do F v i he σ.1 σ.2.1 σ.2.2) σ.1 σ.2.1=some hq) (λσ=>[(0,AO 4 (A8 Ae v)),(5,rP b3 0),(6,A4 σ.2.1.1),(7,A4 σ.2.1.2.1),(8,A4 σ.2.1.2.2)]) (λσ=>[.blk b3 (Ae (Ax v i)) 70]) (λσ=>σ.1) (F,(0,i+1,0),()) hr (AH.c5 Aa Aa Aa Aa Aa AH.nil) (sC sN) (λσ=>EC σ.1=some r) (λσ=>[(6,A4 σ.1)]) (λσ=>[]) ?_ ?_))))))))))))))
 ·rintro⟨gj,⟨hf,ha,hb⟩,⟨⟩⟩ ht;refine GI ?_;obtain⟨hg,rfl,hu,hh,hd⟩:=Cc ht;replace hh:Do F v i he hf ha hb=some hu:=hh;unfold Do at hh;refine Ak (Ad (wm Aa (vF BD Aa CK (vL 0 Df Aa (wv (Ci Aa Aa) (Ao (cz hh Aa (λhw hx=>?_) (λhw hy=>?_))))))))
  ·refine Aw (AE (Ak (A6 (Ak (Ad (vF BD Aa DU (vL 0 DV Aa (wv (B7 Aa Aa) (Ao (cz hx Aa (λhz h0=>?_) (λhz h1=>?_)))))))))))
   ·refine Af (wm Aa (ck h0 λh3 h4=>wv (By Aa Aa h3) (wa Aa (Bp (wm Aa (wm Aa (ob h4 λhk h5 h8=>BP Tryz.call69 (hj v (ha+1) hk h5) Aa (wa Aa (Ao (Ak (Ad (wm Aa (wm Aa (wv (Dc Aa Aa) (Ao (cz h8 Aa (λhA hB=>?_) (λhA hC=>?_)))))))))))))))))
    ·refine Af (wm Aa (wa Aa (Ao (Af (wm Aa (wm Aa (ob hB λhl hD hE=>BP Kk (HM F v (ha+1) hl hD) Aa (wa Aa (Ah (AB (AE (Af (wm Aa (ck hE λhG hH=>wv (By Aa Aa hG) (wa Aa (Ah ?_))))))))))))))));have hI:=Bi hH hd;exact Ar (AC (hg,(hk,hl,hb+1),()) ⟨hI,AeR _⟩ (AH.c5 Aa Aa Aa Aa Aa AH.nil) (sC sN))
    refine Aw (AE (Af (wm Aa (wm Aa (ob hC λhm hJ hK=>BP Kk (HM F v (ha+1) hm hJ) Aa (wa Aa (Ah (AB (AE (Af (wm Aa (ck hK λhL hN=>wv (By Aa Aa hL) (wa Aa (Ah ?_))))))))))))));have hO:=Bi hN hd;exact Ar (AC (hg,(hf,hm,hb+1),()) ⟨hO,AeR _⟩ (AH.c5 Aa Aa Aa Aa Aa AH.nil) (sC sN))
   refine Aw (AE (Ad (wm Aa (wm Aa (ob h1 λhn hP hQ=>BP Tryz.call69 (hj v ha hn hP) Aa (wa Aa (Ao (Ak (Ad (wm Aa (wm Aa (wv (Dc Aa Aa) (Ao (cz hQ Aa (λhR hS=>?_) (λhR hT=>?_)))))))))))))))
   ·refine Af (wm Aa (wa Aa (Ao (Af (wm Aa (wm Aa (ob hS λho hU hV=>BP Kk (HM F v ha ho hU) Aa (wa Aa (Ah (AB (AE (Af (wm Aa (ck hV λhW hX=>wv (By Aa Aa hW) (wa Aa (Ah ?_))))))))))))))));have hY:=Bi hX hd;exact Ar (AC (hg,(hn,ho,hb+1),()) ⟨hY,AeR _⟩ (AH.c5 Aa Aa Aa Aa Aa AH.nil) (sC sN))
   refine Aw (AE (Af (wm Aa (wm Aa (ob hT λhp hZ ga=>BP Kk (HM F v ha hp hZ) Aa (wa Aa (Ah (AB (AE (Af (wm Aa (ck ga λgb gc=>wv (By Aa Aa gb) (wa Aa (Ah ?_))))))))))))));have gd:=Bi gc hd;exact Ar (AC (hg,(hf,hp,hb+1),()) ⟨gd,AeR _⟩ (AH.c5 Aa Aa Aa Aa Aa AH.nil) (sC sN))
  refine Bn (Av ?_);have gf:=BE hy hd hs;exact Av (AY (AC (hf,()) gf (AH.c Aa AH.nil) (sS sN)))
 rintro⟨gg,⟨⟩⟩ hi;refine GX ?_;replace hi:EC gg=some r:=hi;unfold EC at hi;refine AW (AE (Ad (wm Aa (ck hi λgh gi=>wv (By Aa Aa gh) (wa Aa (Ao (Ap ?_)))))));obtain rfl:=Au gi;exact Aq (B2 Tryz.results69 (AD Aa)) sN ⟨Aa,Aa⟩
theorem NM:∀F:Nat,(∀(v:(List Ac)) (i:Int) (r:Int),D5 F v i=some r→Fn Tryz.prog GE 69 [AO 4 (A8 Ae v),A4 i] [] (λR H=>R=A4 r∧H=[]))
  | 0=>(λ_ _ _ h=>by simp[D5] at h)
  | nn+1=>(λv i r h=>UY nn (D5 nn) (NM nn) v i r (by rw[D5] at h;exact h))
theorem Xt (F:Nat)(v:(List Ac))(i:Int)(r:Int)(h:D5 F v i=some r):Fn Tryz.prog GE 69 [AO 4 (A8 Ae v),A4 i] [] (λR H=>R=A4 r∧H=[]):=(NM F) v i r h
theorem Nh (F:Nat)(s:Ai)(r:Ai)(h:JB F s=some r):Fn Tryz.prog GE 123 [rS s] [] (λR H=>R=rS r∧H=[]):=by
 refine enter (n:=32) Tryz.func123 Aa Tryz.ntmps123 Aa (λw Z=>?_);unfold JB at h;refine Ad (wv (r:=rS ([]:Ai)) (A0 Aa) (Bp (wv (r:=rS ([34]:Ai)) (A0 Aa) (Ao (Ak (Ad (wa Aa (Ao (A6 (ob h λhl hm hn=>Br (S:=Nat×(Ai×Int)×(Unit)) (V:=(Ai)×(Unit)) 0 (λσ=>BX (λσ=>Dz s σ.1 σ.2) σ.1 σ.2.1=some hl) (λσ=>[(0,rS s),(3,rS σ.2.1.1),(4,A4 σ.2.1.2)]) (λσ=>[]) (λσ=>σ.1) (F,(([34]:Ai),0),()) hm (AH.c Aa (AH.c Aa (AH.c Aa AH.nil))) sN (λσ=>Ee σ.1=some r) (λσ=>[(3,rS σ.1)]) (λσ=>[]) ?_ ?_))))))))))
 ·rintro⟨hL,⟨hd,ha⟩,⟨⟩⟩ ho;refine GI ?_;obtain⟨hh,rfl,hp,he,hg⟩:=Cc ho;replace he:Dz s hd ha=some hp:=he;unfold Dz at he;refine Ak (Ad (wm Aa (wm Aa (wv (B0 C4 Aa) (wv (Ci Aa Aa) (Ao (cz he Aa (λhq hr=>?_) (λhq hs=>?_))))))))
  ·refine Aw (AE (Ak (A6 (Ak (ck hr λhi ht=>A5 [(0,rS s),(3,rS hd),(4,A4 ha),(20,rB ((decide ((BK s ha)=34))||(decide ((BK s ha)=92))))] [] ?_ ?_)))))
   ·refine Af (wm Aa (wm Aa (wv (B3 C4 Aa Aa hi) (wv (B7 Aa Aa) (wm Aa (AA (decide ((BK s ha)=34)) (λhb=>?_) (λhb=>?_)))))))
    ·refine wf hb (wf hb (wf hb (wf hb (wv (r:=rB true) (An Aa hb Aa) (Ah ?_)))));exact BH hb
    refine wo hb (wm Aa (wo hb (wm Aa (wo hb (wv (B3 C4 Aa Aa hi) (wo hb (wv (B7 Aa Aa) (Ep Aa hb Aa (Ah ?_)))))))));exact BH hb
   refine cz ht Aa (λhu hw=>?_) (λhu hx=>?_)
   ·refine Af (wm Aa (ck hw λhy hz=>wv (C2 Aa Aa hy) (wa Aa (Ao (Af (wm Aa (wm Aa (wm Aa (wm Aa (ck hz λhj h0=>wv (By Aa Aa hj) (ck h0 λh1 h2=>ck h2 λh3 h4=>wv (JJ C4 Aa Aa Aa h1 h3) (ck h4 λh5 h6=>wv (C2 Aa Aa h5) (wa Aa (Ah (AB (AE (Af (wm Aa ?_))))))))))))))))));refine wv (By Aa Aa hj) (wa Aa (Ah ?_));have h7:=Bi h6 hg;exact Ar (AC (hh,((hd++([92]:Ai))++(List.take (Ca (ha+1)-Ca ha) (List.drop (Ca ha) s)),ha+1),()) ⟨h7,AeR _⟩ (AH.c Aa (AH.c Aa (AH.c Aa AH.nil))) sN)
   refine Aw (AE (Af (wm Aa (wm Aa (wm Aa (wm Aa (ck hx λhk h8=>wv (By Aa Aa hk) (ck h8 λh9 hA=>ck hA λhB hC=>wv (JJ C4 Aa Aa Aa h9 hB) (ck hC λhD hE=>wv (C2 Aa Aa hD) (wa Aa (Ah (AB (AE (Af (wm Aa (wv (By Aa Aa hk) (wa Aa (Ah ?_))))))))))))))))));have hG:=Bi hE hg;exact Ar (AC (hh,(hd++(List.take (Ca (ha+1)-Ca ha) (List.drop (Ca ha) s)),ha+1),()) ⟨hG,AeR _⟩ (AH.c Aa (AH.c Aa (AH.c Aa AH.nil))) sN)
  refine Bn (Av ?_);have hH:=BE hs hg hn;exact Av (AY (AC (hd,()) hH (AH.c Aa AH.nil) sN))
 rintro⟨hI,⟨⟩⟩ hf;refine GX ?_;replace hf:Ee hI=some r:=hf;unfold Ee at hf;refine AW (AE (Ad (wm Aa (ck hf λhJ hK=>wv (C2 Aa Aa hJ) (wa Aa (Ao (Ap ?_)))))));obtain rfl:=Au hK;exact Aq (B2 Tryz.results123 (AD Aa)) sN ⟨Aa,Aa⟩
theorem YO (F:Nat)(hf:(List Ac)→Int→Option (Ai))(hg:(∀(v:(List Ac)) (i:Int) (r:Ai),hf v i=some r→Fn Tryz.prog GE 70 [AO 4 (A8 Ae v),A4 i] [] (λR H=>R=rS r∧H=[])))(v:(List Ac))(i:Int)(r:Ai)(h:Ng F hf v i=some r):Fn Tryz.prog GE 70 [AO 4 (A8 Ae v),A4 i] [] (λR H=>R=rS r∧H=[]):=by
 refine enter (n:=77) Tryz.func70 Aa Tryz.ntmps70 Aa (λw Z=>?_);unfold Ng at h;refine Ad (wv (r:=rS ([]:Ai)) (A0 Aa) (Bp (wm Aa (wm Aa (ck h λg1 h2=>wv (Bk (enc:=Ae) (ys:=v) CL CJ Aa Aa g1) (wv (Cu Od CJ Aa Aa Aa) (BL (cs:=[A4 0,A4 0,rS ([]:Ai),A4 0]) Oc Aa Aa (λb3=>?_))))))));refine GU (i:=0) CJ Aa Aa Aa (B8.c Aa) Aa Aa ?_;refine Ao (Ak (Ad (vF BD Aa DU (vL 0 DV Aa (wv (B7 Aa Aa) (Ao (cz h2 Aa (λc4 h5=>?_) (λc4 h6=>?_))))))))
 ·refine Ad (wv (r:=rS ([110,117,108,108]:Ai)) (A0 Aa) (Ao (Ap (Ab ?_))));obtain rfl:=Au h5;exact Aq (B2 UE (AD Aa)) (sS sN) ⟨Aa,Aa⟩
 refine Aw (AE (Ak (Ad (vF BD Aa DU (vL 0 DV Aa (wv (B7 Aa Aa) (Ao (cz h6 Aa (λc7 h8=>?_) (λc7 hu=>?_)))))))))
 ·refine Ak (Ad (vF BD Aa CK (vL 0 Df Aa (wv (B7 Aa Aa) (Ao (cz h8 Aa (λc9 hw=>?_) (λc9 hx=>?_)))))))
  ·refine Ad (wv (r:=rS ([116,114,117,101]:Ai)) (A0 Aa) (Ao (Ap (Ab (Ab ?_)))));obtain rfl:=Au hw;exact Aq (B2 UE (AD Aa)) (sS sN) ⟨Aa,Aa⟩
  refine Aw (AE (Ad (wv (r:=rS ([102,97,108,115,101]:Ai)) (A0 Aa) (Ao (Ap (Ab ?_))))));obtain rfl:=Au hx;exact Aq (B2 UE (AD Aa)) (sS sN) ⟨Aa,Aa⟩
 refine Aw (AE (Ak (Ad (vF BD Aa DU (vL 0 DV Aa (wv (B7 Aa Aa) (Ao (cz hu Aa (λhy hz=>?_) (λhy h0=>?_)))))))))
 ·refine Ad (vF BD Aa CK (vL 0 Df Aa (ck hz λg15 h1=>Ck (rs:=[A4 ((Ax v i).fInt)]) (r:=rS (Lib.itoa ((Ax v i).fInt))) Tryz.call122 Aa (AcM ((Ax v i).fInt) g15) Aa Aa (wa Aa (Ao (Ap (Ab ?_)))))));obtain rfl:=Au h1;exact Aq (B2 UE (AD Aa)) (sS sN) ⟨Aa,Aa⟩
 refine Aw (AE (Ak (Ad (vF BD Aa DU (vL 0 DV Aa (wv (B7 Aa Aa) (Ao (cz h0 Aa (λh3 h4=>?_) (λh3 h7=>?_)))))))))
 ·refine Ad (vF BD Aa CE (vL 0 Dp Aa (ob h4 λh9 hA hB=>BP Tryz.call123 (Nh F ((Ax v i).fStr) h9 hA) Aa (wa Aa (Ao (Ap (Ab ?_)))))));obtain rfl:=Au hB;exact Aq (B2 UE (AD Aa)) (sS sN) ⟨Aa,Aa⟩
 refine Aw (AE (Ad (wv (r:=rS ([]:Ai)) (A0 Aa) (Bp (wm Aa (ck h7 λhC hD=>wv (By Aa Aa hC) (wa Aa (Ao (Ak (Ad (wa Aa (Ao (A6 (ob hD λhE hG hH=>Br (S:=Nat×(Ai×Int×Int)×(Unit)) (V:=(Ai)×(Unit)) 0 (λσ=>BX (λσ=>EB F v i hf σ.1 σ.2.1 σ.2.2) σ.1 σ.2.1=some hE) (λσ=>[(0,AO 4 (A8 Ae v)),(4,rS ([]:Ai)),(5,rP b3 0),(6,rS σ.2.1.1),(7,A4 σ.2.1.2.1),(8,A4 σ.2.1.2.2)]) (λσ=>[.blk b3 (Ae (Ax v i)) 70]) (λσ=>σ.1) (F,(([]:Ai),i+1,0),()) hG (AH.c Aa (AH.c5 Aa Aa Aa Aa Aa AH.nil)) (sC sN) (λσ=>Ij v i σ.1=some r) (λσ=>[(4,rS ([]:Ai)),(5,rP b3 0),(6,rS σ.1)]) (λσ=>[.blk b3 (Ae (Ax v i)) 70]) ?_ ?_))))))))))))))
 ·rintro⟨cm,⟨hb,ha,hd⟩,⟨⟩⟩ hI;refine GI ?_;obtain⟨hh,rfl,hJ,hi,he⟩:=Cc hI;replace hi:EB F v i hf hb ha hd=some hJ:=hi;unfold EB at hi;refine Ak (Ad (wm Aa (vF BD Aa CK (vL 0 Df Aa (wv (Ci Aa Aa) (Ao (cz hi Aa (λhK hL=>?_) (λhK hN=>?_))))))))
  ·refine Aw (AE (Ak (A6 (Ak (Ad (wm Aa (wv (Dc Aa Aa) (Ao (cz hL Aa (λhO hP=>?_) (λhO hQ=>?_))))))))))
   ·refine Af (wm Aa (ck hP λhR hS=>wv (C2 Aa Aa hR) (wa Aa (Ao (Ak (Ad (vF BD Aa DU (vL 0 DV Aa (wv (B7 Aa Aa) (Ao (cz hS Aa (λc233 hT=>?_) (λc233 hU=>?_))))))))))))
    ·refine Ad (wm Aa (wm Aa (wm Aa (ck hT λhV hW=>wv (Bk (enc:=Ae) (ys:=v) CL CJ Aa Aa hV) (wv (Bs BD Aa CE Aa Aa) (wv (Bb Dp Aa Aa) (ob hW λhk hX hY=>BP Tryz.call123 (Nh F ((Ax v ha).fStr) hk hX) Aa (ck hY λhZ ga=>wv (C2 Aa Aa hZ) (ck ga λgb gc=>wv (C2 Aa Aa gb) (wa Aa (Ao (Af (wm Aa (ck gc λgd gf=>wv (By Aa Aa gd) (wa Aa (Bp (wm Aa (wm Aa ?_))))))))))))))))));refine wm Aa (ob gf λhl gg gh=>BP Yv (hg v (ha+1) hl gg) Aa (ck gh λgi gj=>wv (C2 Aa Aa gi) (wa Aa (Ao (Af (wm Aa (wm Aa (ob gj λhm gl gm=>BP Kk (HM F v (ha+1) hm gl) Aa (wa Aa (Ah (AB (AE (Af (wm Aa (ck gm λgp gq=>wv (By Aa Aa gp) (wa Aa (Ah ?_)))))))))))))))));have gr:=Bi gq he;exact Ar (AC (hh,((((hb++([44]:Ai))++hk)++([58]:Ai))++hl,hm,hd+1),()) ⟨gr,AeR _⟩ (AH.c Aa (AH.c5 Aa Aa Aa Aa Aa AH.nil)) (sC sN))
    refine Aw (AE (Ad (wm Aa (wm Aa (wm Aa (ob hU λhn gs gu=>BP Yv (hg v ha hn gs) Aa (ck gu λgv gw=>wv (C2 Aa Aa gv) (wa Aa (Ao (Af (wm Aa (wm Aa (ob gw λho gx gy=>BP Kk (HM F v ha ho gx) Aa (wa Aa (Ah (AB (AE (Af (wm Aa (ck gy λgz g0=>?_))))))))))))))))))));refine wv (By Aa Aa gz) (wa Aa (Ah ?_));have g2:=Bi g0 he;exact Ar (AC (hh,((hb++([44]:Ai))++hn,ho,hd+1),()) ⟨g2,AeR _⟩ (AH.c Aa (AH.c5 Aa Aa Aa Aa Aa AH.nil)) (sC sN))
   refine Aw (AE (Ak (Ad (vF BD Aa DU (vL 0 DV Aa (wv (B7 Aa Aa) (Ao (cz hQ Aa (λg3 g4=>?_) (λg3 g5=>?_)))))))))
   ·refine Ad (wm Aa (wm Aa (wm Aa (ck g4 λg6 g7=>wv (Bk (enc:=Ae) (ys:=v) CL CJ Aa Aa g6) (wv (Bs BD Aa CE Aa Aa) (wv (Bb Dp Aa Aa) (ob g7 λhp g8 g9=>BP Tryz.call123 (Nh F ((Ax v ha).fStr) hp g8) Aa (ck g9 λgA gB=>wv (C2 Aa Aa gA) (ck gB λgC gD=>wv (C2 Aa Aa gC) (wa Aa (Ao (Af (wm Aa (ck gD λgE gF=>wv (By Aa Aa gE) (wa Aa (Bp (wm Aa (wm Aa ?_))))))))))))))))));refine wm Aa (ob gF λhq gG gH=>BP Yv (hg v (ha+1) hq gG) Aa (ck gH λgI gJ=>wv (C2 Aa Aa gI) (wa Aa (Ao (Af (wm Aa (wm Aa (ob gJ λhr gK gL=>BP Kk (HM F v (ha+1) hr gK) Aa (wa Aa (Ah (AB (AE (Af (wm Aa (ck gL λgM gN=>wv (By Aa Aa gM) (wa Aa (Ah ?_)))))))))))))))));have gO:=Bi gN he;exact Ar (AC (hh,(((hb++hp)++([58]:Ai))++hq,hr,hd+1),()) ⟨gO,AeR _⟩ (AH.c Aa (AH.c5 Aa Aa Aa Aa Aa AH.nil)) (sC sN))
   refine Aw (AE (Ad (wm Aa (wm Aa (wm Aa (ob g5 λhs gP gQ=>BP Yv (hg v ha hs gP) Aa (ck gQ λgR gS=>wv (C2 Aa Aa gR) (wa Aa (Ao (Af (wm Aa (wm Aa (ob gS λht gT gU=>BP Kk (HM F v ha ht gT) Aa (wa Aa (Ah (AB (AE (Af (wm Aa (ck gU λgV gW=>?_))))))))))))))))))));refine wv (By Aa Aa gV) (wa Aa (Ah ?_));have gX:=Bi gW he;exact Ar (AC (hh,(hb++hs,ht,hd+1),()) ⟨gX,AeR _⟩ (AH.c Aa (AH.c5 Aa Aa Aa Aa Aa AH.nil)) (sC sN))
  refine Bn (Av ?_);have gY:=BE hN he hH;exact Av (AY (AC (hb,()) gY (AH.c Aa (AH.c Aa (AH.c Aa AH.nil))) (sC sN)))
 rintro⟨gZ,⟨⟩⟩ hj;refine GX ?_;replace hj:Ij v i gZ=some r:=hj;unfold Ij at hj;refine AW (AE (Ak (Ad (vF BD Aa DU (vL 0 DV Aa (wv (B7 Aa Aa) (Ao (cz hj Aa (λca cb=>?_) (λca cc=>?_)))))))))
 ·refine Ad (wm Aa (ck cb λcd ce=>wv (C2 Aa Aa cd) (ck ce λcf cg=>wv (C2 Aa Aa cf) (wa Aa (Ao (Ap (Ab ?_)))))));obtain rfl:=Au cg;exact Aq (B2 UE (AD Aa)) (sS sN) ⟨Aa,Aa⟩
 refine Aw (AE (Ad (wm Aa (ck cc λch ci=>wv (C2 Aa Aa ch) (ck ci λcj cl=>wv (C2 Aa Aa cj) (wa Aa (Ao (Ap ?_))))))));obtain rfl:=Au cl;exact Aq (B2 UE (AD Aa)) (sS sN) ⟨Aa,Aa⟩
theorem QH:∀F:Nat,(∀(v:(List Ac)) (i:Int) (r:Ai),HI F v i=some r→Fn Tryz.prog GE 70 [AO 4 (A8 Ae v),A4 i] [] (λR H=>R=rS r∧H=[]))
  | 0=>(λ_ _ _ h=>by simp[HI] at h)
  | nn+1=>(λv i r h=>YO nn (HI nn) (QH nn) v i r (by rw[HI] at h;exact h))
theorem AaN (F:Nat)(v:(List Ac))(i:Int)(r:Ai)(h:HI F v i=some r):Fn Tryz.prog GE 70 [AO 4 (A8 Ae v),A4 i] [] (λR H=>R=rS r∧H=[]):=(QH F) v i r h
theorem To (F:Nat)(v:(List Ac))(r:Int)(h:HC F v=some r):Fn Tryz.prog GE 19 [AO 4 (A8 Ae v)] [] (λR H=>R=A4 r∧H=[]):=by
 refine enter (n:=61) Tryz.func19 Aa Tryz.ntmps19 Aa (λw Z=>?_);unfold HC at h;refine Ad (wa Aa (Ao (Ak (Ad (wm Aa (ob h λr1 e3 h2=>BP Tryz.call68 (Xv F v r1 e3) Aa (wv (BO Aa) (Ao (cz h2 Aa (λc4 h5=>?_) (λc4 h6=>?_))))))))))
 ·refine Ad (wa Aa (Ao (Ap (Ab ?_))));obtain rfl:=Au h5;exact Aq (B2 Xa (AD Aa)) sN ⟨Aa,Aa⟩
 refine Aw (AE (Ak (Ad (wa Aa (Ao (A6 (ob h6 λhp hq hm=>Br (S:=Nat×(Int)×(Unit)) (V:=(Unit)×(Unit)) 0 (λσ=>BX (λσ=>Gb v σ) σ.1 σ.2.1=some hp) (λσ=>[(0,AO 4 (A8 Ae v)),(3,A4 σ.2.1)]) (λσ=>[]) (λσ=>σ.1) (F,0,()) hq (AH.c Aa (AH.c Aa AH.nil)) sN (λσ=>Jc F v =some r) (λσ=>[(0,AO 4 (A8 Ae v))]) (λσ=>[]) ?_ ?_)))))))
 ·rintro⟨gf,he,⟨⟩⟩ hr;refine GI ?_;obtain⟨hs,rfl,t46,hf,hj⟩:=Cc hr;replace hf:Gb v he=some t46:=hf;unfold Gb at hf;refine Ak (Ad (wm Aa (wm Aa (wv (Bj (ys:=v) (enc:=Ae) CL Aa) (wv (Ci Aa Aa) (Ao (cz hf Aa (λht hu=>?_) (λht hw=>?_))))))))
  ·refine Aw (AE (Ak (A6 (ck hu λhk hx=>A5 [(0,AO 4 (A8 Ae v)),(3,A4 he),(35,rB ((decide (((Ax v he).fKind)=3))&&((decide (((Ax v he).fInt)<(-1000000000000)))||(decide (1000000000000<((Ax v he).fInt))))))] [] ?_ ?_))))
   ·refine Af (wm Aa (wm Aa (wv (Bk (enc:=Ae) (ys:=v) CL CJ Aa Aa hk) (wv (Bs BD Aa DU Aa Aa) (wv (Bb DV Aa Aa) (wv (B7 Aa Aa) (wm Aa (AA (decide (((Ax v he).fKind)=3)) (λha=>?_) (λha=>?_)))))))))
    ·refine wo ha (wm Aa (wo ha (wm Aa (wo ha (wv (Bk (enc:=Ae) (ys:=v) CL CJ Aa Aa hk) (wo ha (wv (Bs BD Aa CK Aa Aa) (wo ha (wv (Bb Df Aa Aa) (wo ha (wv (Ci Aa Aa) (wo ha (wm Aa (AA (decide (((Ax v he).fInt)<(-1000000000000))) (λhb=>?_) (λhb=>?_)))))))))))))))
     ·refine wf hb (wf hb (wf hb (wf hb (wf hb (wf hb (wo ha (wv (r:=rB true) (An Aa hb Aa) (E0 Aa ha Aa (Ah ?_)))))))));exact BH (And.intro ha hb)
     refine wo hb (wm Aa (wo hb (wm Aa (wo hb (wv (Bk (enc:=Ae) (ys:=v) CL CJ Aa Aa hk) (wo hb (wv (Bs BD Aa CK Aa Aa) (wo hb (wv (Bb Df Aa Aa) (wo hb (wv (Dc Aa Aa) (wo ha (Ep Aa hb Aa (E0 Aa ha Aa (Ah ?_)))))))))))))));exact BH (And.intro ha hb)
    refine wf ha (wf ha (wf ha (wf ha (wf ha (wf ha (wf ha (wu (wu (wu (wu (wu (wu (wf ha (wv (r:=rB false) (Ay Aa ha Aa) (Ah ?_)))))))))))))));exact BH ha
   refine cz hx Aa (λhy hz=>?_) (λhy h0=>?_)
   ·refine Ad (wa Aa (Ao (Ap (A3 (Ab (Ab (Bg ?_)))))));have h1:=BC hz hj hm;refine A3 (Ab ?_);obtain rfl:=Au h1;exact Aq (B2 Xa (AD Aa)) sN ⟨Aa,Aa⟩
   refine Aw (AB (AE (Af (wm Aa (ck h0 λh3 h4=>wv (By Aa Aa h3) (wa Aa (Ah ?_)))))));have h7:=Bi h4 hj;exact Ar (AC (hs,he+1,()) ⟨h7,AeR _⟩ (AH.c Aa (AH.c Aa AH.nil)) sN)
  refine Bn (Av ?_);have h8:=BE hw hj hm;exact Av (AY (AC ((),()) h8 (AH.c Aa AH.nil) sN))
 rintro⟨⟨⟩,⟨⟩⟩ hg;refine GX ?_;replace hg:Jc F v =some r:=hg;unfold Jc at hg;refine AW (AE (Ak (ck hg λh9 hA=>A5 [(0,AO 4 (A8 Ae v)),(43,rB ((decide (200<(v.length:Int)))||(decide (8<(ov (D5 F v 0))))))] [] ?_ ?_)))
 ·refine Af (wm Aa (wv (Bj (ys:=v) (enc:=Ae) CL Aa) (wv (Dc Aa Aa) (wm Aa (AA (decide (200<(v.length:Int))) (λhd=>?_) (λhd=>?_))))))
  ·refine wf hd (wf hd (wf hd (wv (r:=rB true) (An Aa hd Aa) (Ah ?_))));exact BH hd
  refine wo hd (wm Aa (wo hd (BP Tryz.call69 (Xt F v 0 (ov (D5 F v 0)) (Cr (C3 h9 hd))) Aa (wo hd (wv (Dc Aa Aa) (Ep Aa hd Aa (Ah ?_)))))));exact BH hd
 refine cz hA Aa (λhB hC=>?_) (λhB hD=>?_)
 ·refine Ad (wa Aa (Ao (Ap (Ab ?_))));obtain rfl:=Au hC;exact Aq (B2 Xa (AD Aa)) sN ⟨Aa,Aa⟩
 refine Aw (AE (Ak (Ad (wa Aa (Ao (A6 (ob hD λhE hG hn=>Br (S:=Nat×(Int)×(Unit)) (V:=(Unit)×(Unit)) 2 (λσ=>BX (λσ=>Ga v σ) σ.1 σ.2.1=some hE) (λσ=>[(0,AO 4 (A8 Ae v)),(4,A4 σ.2.1)]) (λσ=>[]) (λσ=>σ.1) (F,0,()) hG (AH.c Aa (AH.c Aa AH.nil)) sN (λσ=>Jb F v =some r) (λσ=>[(0,AO 4 (A8 Ae v))]) (λσ=>[]) ?_ ?_)))))))
 ·rintro⟨gg,ho,⟨⟩⟩ hH;refine GI ?_;obtain⟨hI,rfl,hJ,hh,hl⟩:=Cc hH;replace hh:Ga v ho=some hJ:=hh;unfold Ga at hh;refine Ak (Ad (wm Aa (wm Aa (wv (Bj (ys:=v) (enc:=Ae) CL Aa) (wv (Ci Aa Aa) (Ao (cz hh Aa (λhK hL=>?_) (λhK hN=>?_))))))))
  ·refine Aw (AE (Ak (A6 (Ad (wm Aa (wm Aa (ck hL λhO hP=>wv (Bk (enc:=Ae) (ys:=v) CL CJ Aa Aa hO) (wv (Bs BD Aa CE Aa Aa) (wv (Bb Dp Aa Aa) (wv (B0 C4 Aa) (wv (Dc Aa Aa) (Ao (cz hP Aa (λhQ hR=>?_) (λhQ hS=>?_))))))))))))))
   ·refine Ad (wa Aa (Ao (Ap (A3 (Ab (Ab (Bg ?_)))))));have hT:=BC hR hl hn;refine A3 (Ab ?_);obtain rfl:=Au hT;exact Aq (B2 Xa (AD Aa)) sN ⟨Aa,Aa⟩
   refine Aw (AB (AE (Af (wm Aa (ck hS λhU hV=>wv (By Aa Aa hU) (wa Aa (Ah ?_)))))));have hW:=Bi hV hl;exact Ar (AC (hI,ho+1,()) ⟨hW,AeR _⟩ (AH.c Aa (AH.c Aa AH.nil)) sN)
  refine Bn (Av ?_);have hX:=BE hN hl hn;exact Av (AY (AC ((),()) hX (AH.c Aa AH.nil) sN))
 rintro⟨⟨⟩,⟨⟩⟩ hi;refine GX ?_;replace hi:Jb F v =some r:=hi;unfold Jb at hi;refine AW (AE (Ak (Ad (wm Aa (ob hi λhY hZ ga=>BP Yv (AaN F v 0 hY hZ) Aa (wv (B0 C4 Aa) (wv (Dc Aa Aa) (Ao (cz ga Aa (λgb gc=>?_) (λgb gd=>?_))))))))))
 ·refine Ad (wa Aa (Ao (Ap (Ab ?_))));obtain rfl:=Au gc;exact Aq (B2 Xa (AD Aa)) sN ⟨Aa,Aa⟩
 refine Aw (AE (Ad (wa Aa (Ao (Ap ?_)))));obtain rfl:=Au gd;exact Aq (B2 Xa (AD Aa)) sN ⟨Aa,Aa⟩
end Go.Proofs.YtmjlemhondjfhaaGreatDoor.Q
namespace Go.Proofs.YtmjlemhondjfhaaGreatDoor
open Go
set_option linter.unusedVariables false
structure AF where
 fPairs:Bool
 fLeft:Int
 fKey:Bool
 fLast:Ai
 fStarted:Bool
 deriving DecidableEq,Inhabited
structure AR where
 fDepth:Int
 fBytes:Int
 fOutside:Bool
 fLong:Bool
 deriving DecidableEq,Inhabited
def Cs (n:Int):Option (Bool):=
 some ((decide ((-1000000000000)≤n))&&(decide (n≤1000000000000)))
def IV (s:Ai)(ha:Int):Option (Stp (Int) (Out (Bool) (Unit))):=
 Bz (decide (ha<(s.length:Int))) (AX (Ch ha (s.length:Int))<|Bz (((decide ((BK s ha)<32))||(decide (126<(BK s ha))))) (some (.out (.ret false))) (AX (BG .i64 (ha+1))<|some (.next (ha+1)))) (some (.out (.go ())))
def IU :Option (Bool):=
 some true
def Mf (F:Nat)(s:Ai):Option (Bool):=
 Bv (BX (λσ=>IV s σ) F 0) (BT λν=>IU )
def KQ (s:Ai):Option (Int):=
 AX (BG .i64 ((s.length:Int)+2))<|AX (BG .i64 (((s.length:Int)+2)+(Lib.countByte s 34:Int)))<|AX (BG .i64 ((((s.length:Int)+2)+(Lib.countByte s 34:Int))+(Lib.countByte s 92:Int)))<|some ((((s.length:Int)+2)+(Lib.countByte s 34:Int))+(Lib.countByte s 92:Int))
def OW (F:Nat)(c:Ac):Option (Bool):=
 Bz (decide (c.fKind=1)) (some ((decide (c.fInt=0))&&((decide (c.fStr=([]:Ai)))&&(decide (c.fN=0))))) (Bz (decide (c.fKind=2)) (some (bif decide (c.fInt=0) then((decide (c.fStr=([]:Ai)))&&(decide (c.fN=0))) else((decide (c.fInt=1))&&((decide (c.fStr=([]:Ai)))&&(decide (c.fN=0)))))) (Bz (decide (c.fKind=3)) (some ((decide (c.fStr=([]:Ai)))&&(decide (c.fN=0)))) (Bz (decide (c.fKind=4)) (AX (imp (decide (c.fInt=0)) (imp (decide (c.fN=0)) ((Mf F c.fStr).isSome)))<|some ((decide (c.fInt=0))&&((decide (c.fN=0))&&(ov (Mf F c.fStr))))) (Bz (decide (c.fKind=5)) (some ((decide (c.fInt=0))&&((decide (c.fStr=([]:Ai)))&&(decide (0≤c.fN))))) (Bz (decide (c.fKind=6)) (some ((decide (c.fInt=0))&&((decide (c.fStr=([]:Ai)))&&(decide (0≤c.fN))))) (some false))))))
def SZ (c:Ac):Option (Int):=
 Bz (decide (c.fKind=1)) (some 4) (Bz (decide (c.fKind=2)) (some (IntKind.wrap .i64 (5-c.fInt))) (Bz (decide (c.fKind=3)) (AX (BG .i64 c.fInt)<|some ((Lib.itoa c.fInt).length:Int)) (Bz (decide (c.fKind=4)) (Bv (KQ c.fStr) λha=>some ha) (some (IntKind.wrap .i64 (2+(max 0 (IntKind.wrap .i64 (c.fN-1)))))))))
def E7 (ha:(List AF)):Option (Stp ((List AF)) (Out ((List AF)) ((List AF)))):=
 Bz (decide (0<(ha.length:Int))) (AX (BG .i64 ((ha.length:Int)-1))<|AX (Ch ((ha.length:Int)-1) (ha.length:Int))<|AX (BG .i64 (((Ax ha ((ha.length:Int)-1)).fLeft)-1))<|Ln (List.set ha (Int.toNat ((ha.length:Int)-1)) (AF.mk ((Ax ha ((ha.length:Int)-1)).fPairs) (((Ax ha ((ha.length:Int)-1)).fLeft)-1) ((Ax ha ((ha.length:Int)-1)).fKey) ((Ax ha ((ha.length:Int)-1)).fLast) ((Ax ha ((ha.length:Int)-1)).fStarted))) λhb=>Bz (decide (0<((Ax hb ((ha.length:Int)-1)).fLeft))) (Ln (List.set hb (Int.toNat ((ha.length:Int)-1)) (AF.mk ((Ax hb ((ha.length:Int)-1)).fPairs) ((Ax hb ((ha.length:Int)-1)).fLeft) ((Ax hb ((ha.length:Int)-1)).fPairs) ((Ax hb ((ha.length:Int)-1)).fLast) ((Ax hb ((ha.length:Int)-1)).fStarted))) λhd=>some (.out (.ret hd))) (AX (BG .i64 ((hb.length:Int)-1))<|AX (IR ((hb.length:Int)-1) (hb.length:Int))<|some (.next (List.take (Int.toNat ((hb.length:Int)-1)) hb)))) (some (.out (.go ha)))
def Gz (ha:(List AF)):Option ((List AF)):=
 some ha
def Mh (F:Nat)(stack:(List AF)):Option ((List AF)):=
 Bv (BX (λσ=>E7 σ) F stack) (BT λν=>Gz ν)
def Gm (ha:Int)(hb:(List AF))(hd:AR):Option (Stp ((List AF)×Int×AR) (Out (Int×AR×Bool) (AR))):=
 AX (BG .i64 (ha+1))<|some (.next (hb,ha+1,hd))
def E6 (F:Nat)(v:(List Ac))(ha:(List AF))(hb:Int)(hd:AR):Option (Stp ((List AF)×Int×AR) (Out (Int×AR×Bool) (AR))):=
 Bz (decide (hb<(v.length:Int))) (AX (Ch hb (v.length:Int))<|Bv (OW F (Ax v hb)) λhj=>Bz (!hj) (some (.out (.ret (0,hd,false)))) (AX (imp (decide (0<(ha.length:Int))) (BG .i64 ((ha.length:Int)-1)))<|AX (imp (decide (0<(ha.length:Int))) (Ch ((ha.length:Int)-1) (ha.length:Int)))<|Bz (((decide (0<(ha.length:Int)))&&((Ax ha ((ha.length:Int)-1)).fKey))) (AX (BG .i64 ((ha.length:Int)-1))<|AX (Ch ((ha.length:Int)-1) (ha.length:Int))<|Bz (((!decide (((Ax v hb).fKind)=4))||(((Ax ha ((ha.length:Int)-1)).fStarted)&&(DX ((Ax v hb).fStr) ((Ax ha ((ha.length:Int)-1)).fLast)||decide (((Ax v hb).fStr)=((Ax ha ((ha.length:Int)-1)).fLast)))))) (some (.out (.ret (0,hd,false)))) (Ln (List.set ha (Int.toNat ((ha.length:Int)-1)) (AF.mk ((Ax ha ((ha.length:Int)-1)).fPairs) ((Ax ha ((ha.length:Int)-1)).fLeft) ((Ax ha ((ha.length:Int)-1)).fKey) ((Ax v hb).fStr) ((Ax ha ((ha.length:Int)-1)).fStarted))) λhe=>Ln (List.set he (Int.toNat ((ha.length:Int)-1)) (AF.mk ((Ax he ((ha.length:Int)-1)).fPairs) ((Ax he ((ha.length:Int)-1)).fLeft) ((Ax he ((ha.length:Int)-1)).fKey) ((Ax he ((ha.length:Int)-1)).fLast) true)) λhf=>Ln (List.set hf (Int.toNat ((ha.length:Int)-1)) (AF.mk ((Ax hf ((ha.length:Int)-1)).fPairs) ((Ax hf ((ha.length:Int)-1)).fLeft) false ((Ax hf ((ha.length:Int)-1)).fLast) ((Ax hf ((ha.length:Int)-1)).fStarted))) λhk=>Bv (KQ ((Ax v hb).fStr)) λhh=>AX (BG .i64 (hh+1))<|Gm hb hk (AR.mk hd.fDepth (IntKind.wrap .i64 (hd.fBytes+(hh+1))) hd.fOutside (hd.fLong||(decide (200<(((Ax v hb).fStr).length:Int))))))) (AX (BG .i64 ((ha.length:Int)+1))<|Bv (SZ (Ax v hb)) λhg=>AX (imp (!hd.fOutside) (imp (decide (((Ax v hb).fKind)=3)) ((Cs ((Ax v hb).fInt)).isSome)))<|Bz (decide (0<((Ax v hb).fN))) (Bz (decide ((v.length:Int)<((Ax v hb).fN))) (some (.out (.ret (0,(AR.mk (max hd.fDepth ((ha.length:Int)+1)) (IntKind.wrap .i64 (hd.fBytes+hg)) (hd.fOutside||((decide (((Ax v hb).fKind)=3))&&(!(ov (Cs ((Ax v hb).fInt)))))) (hd.fLong||(decide (200<(((Ax v hb).fStr).length:Int))))),false)))) (AX (Eh 48 (ha.length+([(AF.mk (decide (((Ax v hb).fKind)=6)) ((Ax v hb).fN) (decide (((Ax v hb).fKind)=6)) ([]:Ai) false)]:List AF).length))<|Gm hb (ha++([(AF.mk (decide (((Ax v hb).fKind)=6)) ((Ax v hb).fN) (decide (((Ax v hb).fKind)=6)) ([]:Ai) false)]:List AF)) (AR.mk (max hd.fDepth ((ha.length:Int)+1)) (IntKind.wrap .i64 (hd.fBytes+hg)) (hd.fOutside||((decide (((Ax v hb).fKind)=3))&&(!(ov (Cs ((Ax v hb).fInt)))))) (hd.fLong||(decide (200<(((Ax v hb).fStr).length:Int))))))) (Bv (Mh F ha) λhi=>Bz (decide ((hi.length:Int)=0)) (AX (BG .i64 (hb+1))<|some (.out (.ret (hb+1,(AR.mk (max hd.fDepth ((ha.length:Int)+1)) (IntKind.wrap .i64 (hd.fBytes+hg)) (hd.fOutside||((decide (((Ax v hb).fKind)=3))&&(!(ov (Cs ((Ax v hb).fInt)))))) (hd.fLong||(decide (200<(((Ax v hb).fStr).length:Int))))),true)))) (Gm hb hi (AR.mk (max hd.fDepth ((ha.length:Int)+1)) (IntKind.wrap .i64 (hd.fBytes+hg)) (hd.fOutside||((decide (((Ax v hb).fKind)=3))&&(!(ov (Cs ((Ax v hb).fInt)))))) (hd.fLong||(decide (200<(((Ax v hb).fStr).length:Int)))))))))) (some (.out (.go hd)))
def Mg (ha:AR):Option (Int×AR×Bool):=
 some (0,ha,false)
def Kn (F:Nat)(v:(List Ac)):Option (Int×AR×Bool):=
 Bv (BX (λσ=>E6 F v σ.1 σ.2.1 σ.2.2) F (([]:List AF),0,(AR.mk 0 0 false false))) (BT λν=>Mg ν)
def J7 (F:Nat)(v:(List Ac)):Option (Int):=
 Bv (Kn F v) λr1=>Bz (((!r1.2.2)||(!decide (r1.1=(v.length:Int))))) (some 1) (Bz (r1.2.1.fOutside) (some 2) (Bz ((r1.2.1.fLong||((decide (200<(v.length:Int)))||((decide (8<r1.2.1.fDepth))||(decide (4000<r1.2.1.fBytes)))))) (some 3) (some 0)))
def Mi (F:Nat)(v:(List Ac)):Option ((List Ac)×Int):=
 Bv (J7 F v) λr1=>Bz (!decide (r1=0)) (some (([]:List Ac),r1)) (some (v,0))
def QC :Option ((List Ac)):=
 some ([(Ac.mk 1 0 ([]:Ai) 0)]:List Ac)
def Acp (F:Nat)(n:Int):Option ((List Ac)×Int):=
 Bv (Mi F ([(Ac.mk 3 n ([]:Ai) 0)]:List Ac)) λr2=>some (r2.1,r2.2)
def Acn (F:Nat)(s:Ai):Option ((List Ac)×Int):=
 Bv (Mi F ([(Ac.mk 4 0 s 0)]:List Ac)) λr2=>some (r2.1,r2.2)
end Go.Proofs.YtmjlemhondjfhaaGreatDoor
