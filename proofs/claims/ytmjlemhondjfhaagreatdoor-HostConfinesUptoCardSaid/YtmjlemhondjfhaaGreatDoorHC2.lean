/-
  Texts of the proof, put together: ShelfN, FwG, Row, IdA, PlB, IdB, PlC, IdC, ShelfV, PlD, PlE, FwJ, IdR, TzL, QG, QO, RowQ, QOb, Q0, PQB, WQB, PVa, WVa, PVb, WVb, PVc.
-/
import Derived.Test.YtmjlemhondjfhaaGreatDoorHC1
import Derived.Shelf.Strconv.Itoa3
import Derived.Shelf.LaysM
import Derived.Shelf.LaysC
import Derived.Shelf.Strconv.AtoiAll
import Derived.Shelf.Strconv.ErrVarAll
import Derived.Test.YtmjlemhondjfhaaGreatDoorProg
import Derived.Lib.SmallJoins
import Derived.Lib.AppendIntMem
import Derived.Lib.TrailingZeros
import Derived.Lib.LaidTab
import Derived.Test.YtmjlemhondjfhaaGreatDoorCards
import Derived.Test.YtmjlemhondjfhaaGreatDoorTie
import Derived.Carry
import Derived.ChangeSame
import Derived.ProofKit
import Derived.OpenShut
import Derived.Deep.DeepHandedRow
import Derived.Deep.DeepWitnessRowRef
import Derived.Lib.LaidIn
import Derived.Stop.LaidErr
import Derived.Lib.Bytealg
import Derived.Lib.AtoiAllCases
import Derived.Lib.ItoaNum
import Derived.Lib.ItoaLen
import Derived.Shelf.Strings.Builder1
import Derived.Shelf.Strings.Count
import Derived.Shelf.Strings.Search1
import Derived.Shelf.Strings.Search2
import Derived.Shelf.Strings.Search3
import Derived.Shelf.Small.Strs
import Derived.Lib.ItoaMem
import Derived.Shelf.Lays7
import Derived.Shelf.Spec.TrailingZeros
import Derived.Deep.Slices
import Derived.ChangeArms
import Derived.DataReads
import Derived.Test.YtmjlemhondjfhaaGreatDoorRows
import Derived.Laws.Tables
namespace Go.Proofs
open Go.Shelf
def Tryz.laysM171_ren:Go.Shelf.Ren:=⟨fun | 171=>122 | 243=>172 | 246=>200 | 283=>225 | 284=>226 | 285=>227 | 286=>228 | 129=>197 | 317=>240 | 318=>241 | 319=>242 | 320=>243 | 337=>247 | 338=>248 | n=>n,fun | 3=>3 | 9=>9 | 2=>2 | 4=>4 | 171=>250 | 0=>0 | 53=>231 | 37=>175 | 5=>5 | 173=>252 | 212=>266 | 51=>229 | 20=>20 | 213=>267 | 46=>196 | 232=>276 | 233=>277 | n=>n,fun | 17=>3 | 18=>6 | 19=>7 | n=>n⟩
theorem Tryz.laysM171:Go.Proofs.LaysM.n171 Tryz.prog Tryz.laysM171_ren:={
 mixed:=by kernel_rfl
 f129:=Tryz.func197.trans (congrArg some (by kernel_rfl))
 f171:=Tryz.func122.trans (congrArg some (by kernel_rfl))
 f243:=Tryz.func172.trans (congrArg some (by kernel_rfl))
 f246:=Tryz.func200.trans (congrArg some (by kernel_rfl))
 f283:=Tryz.func225.trans (congrArg some (by kernel_rfl))
 f284:=Tryz.func226.trans (congrArg some (by kernel_rfl))
 f285:=Tryz.func227.trans (congrArg some (by kernel_rfl))
 f286:=Tryz.func228.trans (congrArg some (by kernel_rfl))
 f317:=Tryz.func240.trans (congrArg some (by kernel_rfl))
 f318:=Tryz.func241.trans (congrArg some (by kernel_rfl))
 f319:=Tryz.func242.trans (congrArg some (by kernel_rfl))
 f320:=Tryz.func243.trans (congrArg some (by kernel_rfl))
 f337:=Tryz.func247.trans (congrArg some (by kernel_rfl))
 f338:=Tryz.func248.trans (congrArg some (by kernel_rfl))
 t0:=Tryz.underlying0
 a0:=Tryz.isAgg0
 z0:=Tryz.sizeOf0
 v0:=Tryz.zeroValue0
 t2:=Tryz.underlying2
 a2:=Tryz.isAgg2
 z2:=Tryz.sizeOf2
 v2:=Tryz.zeroValue2
 t3:=Tryz.underlying3
 a3:=Tryz.isAgg3
 z3:=Tryz.sizeOf3
 v3:=Tryz.zeroValue3
 t4:=Tryz.underlying4
 a4:=Tryz.isAgg4
 z4:=Tryz.sizeOf4
 v4:=Tryz.zeroValue4
 t5:=Tryz.underlying5
 a5:=Tryz.isAgg5
 z5:=Tryz.sizeOf5
 v5:=Tryz.zeroValue5
 t9:=Tryz.underlying9
 a9:=Tryz.isAgg9
 z9:=Tryz.sizeOf9
 v9:=Tryz.zeroValue9
 t20:=Tryz.underlying20
 a20:=Tryz.isAgg20
 z20:=Tryz.sizeOf20
 v20:=Tryz.zeroValue20
 t37:=Tryz.underlying175
 a37:=Tryz.isAgg175
 z37:=Tryz.sizeOf175
 v37:=Tryz.zeroValue175
 t46:=Tryz.underlying196
 a46:=Tryz.isAgg196
 z46:=Tryz.sizeOf196
 v46:=Tryz.zeroValue196
 t51:=Tryz.underlying229
 a51:=Tryz.isAgg229
 z51:=Tryz.sizeOf229
 v51:=Tryz.zeroValue229
 t53:=Tryz.underlying231
 a53:=Tryz.isAgg231
 z53:=Tryz.sizeOf231
 v53:=Tryz.zeroValue231
 t171:=Tryz.underlying250
 a171:=Tryz.isAgg250
 z171:=Tryz.sizeOf250
 v171:=Tryz.zeroValue250
 t173:=Tryz.underlying252
 a173:=Tryz.isAgg252
 z173:=Tryz.sizeOf252
 v173:=Tryz.zeroValue252
 t212:=Tryz.underlying266
 a212:=Tryz.isAgg266
 z212:=Tryz.sizeOf266
 v212:=Tryz.zeroValue266
 t213:=Tryz.underlying267
 a213:=Tryz.isAgg267
 z213:=Tryz.sizeOf267
 t232:=Tryz.underlying276
 a232:=Tryz.isAgg276
 z232:=Tryz.sizeOf276
 v232:=Tryz.zeroValue276
 t233:=Tryz.underlying277
 a233:=Tryz.isAgg277
 z233:=Tryz.sizeOf277
 v233:=Tryz.zeroValue277
 g17:=by kernel_rfl
 g18:=by kernel_rfl
 g19:=by kernel_rfl
 i0:=by kernel_rfl
 i2:=by kernel_rfl
 i3:=by kernel_rfl
 i4:=by kernel_rfl
 i5:=by kernel_rfl
 i9:=by kernel_rfl
 i20:=by kernel_rfl
 i37:=by kernel_rfl
 i46:=by kernel_rfl
 i51:=by kernel_rfl
 i53:=by kernel_rfl
 i171:=by kernel_rfl
 i173:=by kernel_rfl
 i212:=by kernel_rfl
 i232:=by kernel_rfl
 i233:=by kernel_rfl
 m17:=by kernel_rfl
 m18:=by kernel_rfl
 m19:=by kernel_rfl }
open Go.RowKit Go.Sort Go.Lib in
theorem Tryz.strconv_Itoa (n : Int) (h0 : -9223372036854775808 ≤ n) (h1 : n ≤ 9223372036854775807) (w : World) (htab : Lib.TabIs Tryz.prog w "internal/strconv.uint64pow10" .u64 Lib.pow10Tab) :
  Calls Tryz.prog 122 #[.int .i64 n] w λe w'=>e = .returned (.string ⟨(Lib.itoa n).toArray⟩)∧∃k os,w'=grow (w.drewN k) os:=Any.strconv_Itoa Tryz.laysM171 n h0 h1 w htab
def Tryz.laysC172_ren:Go.Shelf.Ren:=⟨fun | 172=>147 | 244=>182 | 245=>183 | 247=>212 | 279=>213 | 280=>214 | 281=>215 | 282=>216 | 287=>234 | 316=>235 | 171=>122 | 205=>236 | 321=>245 | 322=>246 | 243=>172 | 246=>200 | 283=>225 | 284=>226 | 285=>227 | 286=>228 | 129=>197 | 317=>240 | 318=>241 | 319=>242 | 320=>243 | 337=>247 | 338=>248 | n=>n,fun | 9=>9 | 3=>3 | 75=>198 | 76=>199 | 4=>4 | 5=>5 | 167=>236 | 37=>175 | 0=>0 | 85=>237 | 2=>2 | 168=>239 | 53=>231 | 175=>258 | 46=>196 | 210=>261 | 127=>213 | 145=>271 | 143=>269 | 21=>21 | 171=>250 | 173=>252 | 212=>266 | 51=>229 | 20=>20 | 213=>267 | 232=>276 | 233=>277 | 80=>179 | n=>n,fun | 15=>1 | 16=>2 | 17=>3 | 18=>6 | 19=>7 | n=>n⟩
theorem Tryz.laysC172:Go.Proofs.LaysC.n172 Tryz.prog Tryz.laysC172_ren:={
 mixed:=by kernel_rfl
 f129:=Tryz.func197.trans (congrArg some (by kernel_rfl))
 f171:=Tryz.func122.trans (congrArg some (by kernel_rfl))
 f172:=Tryz.func147.trans (congrArg some (by kernel_rfl))
 f205:=Tryz.func236.trans (congrArg some (by kernel_rfl))
 f243:=Tryz.func172.trans (congrArg some (by kernel_rfl))
 f244:=Tryz.func182.trans (congrArg some (by kernel_rfl))
 f245:=Tryz.func183.trans (congrArg some (by kernel_rfl))
 f246:=Tryz.func200.trans (congrArg some (by kernel_rfl))
 f247:=Tryz.func212.trans (congrArg some (by kernel_rfl))
 f279:=Tryz.func213.trans (congrArg some (by kernel_rfl))
 f280:=Tryz.func214.trans (congrArg some (by kernel_rfl))
 f281:=Tryz.func215.trans (congrArg some (by kernel_rfl))
 f282:=Tryz.func216.trans (congrArg some (by kernel_rfl))
 f283:=Tryz.func225.trans (congrArg some (by kernel_rfl))
 f284:=Tryz.func226.trans (congrArg some (by kernel_rfl))
 f285:=Tryz.func227.trans (congrArg some (by kernel_rfl))
 f286:=Tryz.func228.trans (congrArg some (by kernel_rfl))
 f287:=Tryz.func234.trans (congrArg some (by kernel_rfl))
 f316:=Tryz.func235.trans (congrArg some (by kernel_rfl))
 f317:=Tryz.func240.trans (congrArg some (by kernel_rfl))
 f318:=Tryz.func241.trans (congrArg some (by kernel_rfl))
 f319:=Tryz.func242.trans (congrArg some (by kernel_rfl))
 f320:=Tryz.func243.trans (congrArg some (by kernel_rfl))
 f321:=Tryz.func245.trans (congrArg some (by kernel_rfl))
 f322:=Tryz.func246.trans (congrArg some (by kernel_rfl))
 f337:=Tryz.func247.trans (congrArg some (by kernel_rfl))
 f338:=Tryz.func248.trans (congrArg some (by kernel_rfl))
 t0:=Tryz.underlying0
 a0:=Tryz.isAgg0
 z0:=Tryz.sizeOf0
 v0:=Tryz.zeroValue0
 t2:=Tryz.underlying2
 a2:=Tryz.isAgg2
 z2:=Tryz.sizeOf2
 v2:=Tryz.zeroValue2
 t3:=Tryz.underlying3
 a3:=Tryz.isAgg3
 z3:=Tryz.sizeOf3
 v3:=Tryz.zeroValue3
 t4:=Tryz.underlying4
 a4:=Tryz.isAgg4
 z4:=Tryz.sizeOf4
 v4:=Tryz.zeroValue4
 t5:=Tryz.underlying5
 a5:=Tryz.isAgg5
 z5:=Tryz.sizeOf5
 v5:=Tryz.zeroValue5
 t9:=Tryz.underlying9
 a9:=Tryz.isAgg9
 z9:=Tryz.sizeOf9
 v9:=Tryz.zeroValue9
 t20:=Tryz.underlying20
 a20:=Tryz.isAgg20
 z20:=Tryz.sizeOf20
 v20:=Tryz.zeroValue20
 t21:=Tryz.underlying21
 a21:=Tryz.isAgg21
 z21:=Tryz.sizeOf21
 v21:=Tryz.zeroValue21
 t37:=Tryz.underlying175
 a37:=Tryz.isAgg175
 z37:=Tryz.sizeOf175
 v37:=Tryz.zeroValue175
 t46:=Tryz.underlying196
 a46:=Tryz.isAgg196
 z46:=Tryz.sizeOf196
 v46:=Tryz.zeroValue196
 t51:=Tryz.underlying229
 a51:=Tryz.isAgg229
 z51:=Tryz.sizeOf229
 v51:=Tryz.zeroValue229
 t53:=Tryz.underlying231
 a53:=Tryz.isAgg231
 z53:=Tryz.sizeOf231
 v53:=Tryz.zeroValue231
 t75:=Tryz.underlying198
 a75:=Tryz.isAgg198
 z75:=Tryz.sizeOf198
 v75:=Tryz.zeroValue198
 t76:=Tryz.underlying199
 a76:=Tryz.isAgg199
 z76:=Tryz.sizeOf199
 v76:=Tryz.zeroValue199
 t85:=Tryz.underlying237
 a85:=Tryz.isAgg237
 z85:=Tryz.sizeOf237
 v85:=Tryz.zeroValue237
 t127:=Tryz.underlying213
 a127:=Tryz.isAgg213
 z127:=Tryz.sizeOf213
 v127:=Tryz.zeroValue213
 t143:=Tryz.underlying269
 a143:=Tryz.isAgg269
 z143:=Tryz.sizeOf269
 v143:=Tryz.zeroValue269
 t145:=Tryz.underlying271
 a145:=Tryz.isAgg271
 z145:=Tryz.sizeOf271
 v145:=Tryz.zeroValue271
 t167:=Tryz.underlying236
 a167:=Tryz.isAgg236
 z167:=Tryz.sizeOf236
 v167:=Tryz.zeroValue236
 t168:=Tryz.underlying239
 a168:=Tryz.isAgg239
 z168:=Tryz.sizeOf239
 v168:=Tryz.zeroValue239
 t171:=Tryz.underlying250
 a171:=Tryz.isAgg250
 z171:=Tryz.sizeOf250
 v171:=Tryz.zeroValue250
 t173:=Tryz.underlying252
 a173:=Tryz.isAgg252
 z173:=Tryz.sizeOf252
 v173:=Tryz.zeroValue252
 t175:=Tryz.underlying258
 a175:=Tryz.isAgg258
 z175:=Tryz.sizeOf258
 v175:=Tryz.zeroValue258
 t210:=Tryz.underlying261
 a210:=Tryz.isAgg261
 z210:=Tryz.sizeOf261
 v210:=Tryz.zeroValue261
 t212:=Tryz.underlying266
 a212:=Tryz.isAgg266
 z212:=Tryz.sizeOf266
 v212:=Tryz.zeroValue266
 t213:=Tryz.underlying267
 a213:=Tryz.isAgg267
 z213:=Tryz.sizeOf267
 t232:=Tryz.underlying276
 a232:=Tryz.isAgg276
 z232:=Tryz.sizeOf276
 v232:=Tryz.zeroValue276
 t233:=Tryz.underlying277
 a233:=Tryz.isAgg277
 z233:=Tryz.sizeOf277
 v233:=Tryz.zeroValue277
 g15:=by kernel_rfl
 g16:=by kernel_rfl
 g17:=by kernel_rfl
 g18:=by kernel_rfl
 g19:=by kernel_rfl
 t80:=Tryz.underlying179
 a80:=Tryz.isAgg179
 z80:=Tryz.sizeOf179
 v80:=Tryz.zeroValue179
 i0:=by kernel_rfl
 i2:=by kernel_rfl
 i3:=by kernel_rfl
 i4:=by kernel_rfl
 i5:=by kernel_rfl
 i9:=by kernel_rfl
 i20:=by kernel_rfl
 i21:=by kernel_rfl
 i37:=by kernel_rfl
 i46:=by kernel_rfl
 i51:=by kernel_rfl
 i53:=by kernel_rfl
 i75:=by kernel_rfl
 i76:=by kernel_rfl
 i80:=by kernel_rfl
 i85:=by kernel_rfl
 i127:=by kernel_rfl
 i143:=by kernel_rfl
 i145:=by kernel_rfl
 i167:=by kernel_rfl
 i168:=by kernel_rfl
 i171:=by kernel_rfl
 i173:=by kernel_rfl
 i175:=by kernel_rfl
 i210:=by kernel_rfl
 i212:=by kernel_rfl
 i232:=by kernel_rfl
 i233:=by kernel_rfl
 m15:=by kernel_rfl
 m16:=by kernel_rfl
 m17:=by kernel_rfl
 m18:=by kernel_rfl
 m19:=by kernel_rfl
 c0:=by kernel_rfl
 c2:=by kernel_rfl
 c3:=by kernel_rfl
 c4:=by kernel_rfl
 c5:=by kernel_rfl
 c9:=by kernel_rfl
 c20:=by kernel_rfl
 c21:=by kernel_rfl
 c37:=by kernel_rfl
 c46:=by kernel_rfl
 c51:=by kernel_rfl
 c53:=by kernel_rfl
 c75:=by kernel_rfl
 c76:=by kernel_rfl
 c80:=by kernel_rfl
 c85:=by kernel_rfl
 c127:=by kernel_rfl
 c143:=by kernel_rfl
 c145:=by kernel_rfl
 c167:=by kernel_rfl
 c168:=by kernel_rfl
 c171:=by kernel_rfl
 c173:=by kernel_rfl
 c175:=by kernel_rfl
 c210:=by kernel_rfl
 c212:=by kernel_rfl
 c213:=by kernel_rfl
 c232:=by kernel_rfl
 c233:=by kernel_rfl }
open Go.RowKit in
theorem Tryz.strconv_Atoi_ok (s:ByteArray)(hmax:s.size≤9223372036854775806)(v:Int)(h:Lib.atoiAll s.data.toList = .ok v)(w:World) :
  Calls Tryz.prog 147 #[.string s] w λe w'=>e = .returned (.tuple #[.int .i64 v,.nilIface])∧(w'=w∨∃t,w'=Lib.bytesWorld w 5 t):=Any.strconv_Atoi_ok Tryz.laysC172 s hmax v h w
open Go.RowKit in
theorem Tryz.strconv_Atoi_range_var (s : ByteArray) (hlim : s.size ≤ 281474976710656) (h : Lib.atoiAll s.data.toList = .range) (tp : TypeId) (p : Value) (w : World) (hvar : w.var? Tryz.prog "strconv.ErrRange" = some #[.iface tp p]) :
  Calls Tryz.prog 147 #[.string s] w λe w'=>∃N,e = .returned (.tuple #[.int .i64 (Lib.atoiSat s.data.toList),.iface 239 (.pointer (some ⟨N,0,none⟩))])∧w.heap.size≤N∧w'.heap[N]? =some (.cells #[.string ⟨#[65,116,111,105]⟩,.string s,.iface tp p] 261 (0,0))∧Below w.heap.size w w':=Any.strconv_Atoi_range_var Tryz.laysC172 s hlim h tp p w hvar
end Go.Proofs
namespace Go.Proofs.YtmjlemhondjfhaaGreatDoor
open Go Go.RowKit
set_option linter.unusedVariables false
noncomputable def Ma:Nat:=Nat.max (Nat.max 3 2) 7+1
def Acl:List Int:=Lib.deBruijn64tab.map Int.ofNat
structure SS (w:World):Prop where
 pow : Lib.TabIs Tryz.prog w "internal/strconv.uint64pow10" .u64 Lib.pow10Tab
 tz : Lib.TabIs Tryz.prog w "math/bits.deBruijn64tab" .u8 Acl
 rng : ∃ tp p, w.var? Tryz.prog "strconv.ErrRange" = some #[.iface tp p]
theorem Adl : Tryz.prog.globalNamed "internal/strconv.uint64pow10" = some 3 := by kernel_rfl
theorem Adk : Tryz.prog.globalNamed "strconv.ErrRange" = some 2 := by kernel_rfl
theorem gTz : Tryz.prog.globalNamed "math/bits.deBruijn64tab" = some 7 := by kernel_rfl
theorem ZA:7<Ma:=by decide +kernel
theorem Yb:3<Ma:=by decide +kernel
theorem Ya:2<Ma:=by decide +kernel
theorem SS.block (w w':World)(h:∀k,k<Ma→w'.heap[k]? =w.heap[k]?)(hT:SS w):SS w':=by
 obtain⟨tp,p,hr⟩:=hT.rng;have hp:=hT.pow;have hz:=hT.tz;unfold Lib.TabIs at hp hz;refine⟨?_,?_,tp,p,?_⟩
 ·unfold Lib.TabIs;unfold World.var? at hp ⊢;rw[Adl] at hp ⊢;simp only[Option.bind_some] at hp ⊢;rw[h _ Yb];exact hp
 ·unfold Lib.TabIs;unfold World.var? at hz ⊢;rw[gTz] at hz ⊢;simp only[Option.bind_some] at hz ⊢;rw[h _ ZA];exact hz
 ·unfold World.var? at hr ⊢;rw[Adk] at hr ⊢;simp only[Option.bind_some] at hr ⊢;rw[h _ Ya];exact hr
def Aa7 (w:World)(M:List Nat):Prop:=Ma≤w.heap.size∧∀k∈M,Ma≤k
theorem SS.st {w0 w:World}{M:List Nat}{H:List Ent}(hT:SS w0)(hG:Aa7 w0 M)(hw:St w0 M H w):SS w:=
 SS.block w0 w (λk hk=>hw.old k (Nat.lt_of_lt_of_le hk hG.1) (λhm=>by have:=hG.2 k hm;omega)) hT
theorem Aa7.nil {w:World}(h:Ma≤w.heap.size):Aa7 w []:=⟨h,by simp⟩
theorem Aa7.st {w0 w:World}{M:List Nat}{H:List Ent}(hG:Aa7 w0 M)(hw:St w0 M H w):Ma≤w.heap.size:=Nat.le_trans hG.1 hw.size
structure Xm (w:World):Prop where
 tabs:SS w
 size:Ma≤w.heap.size
theorem Xm.st {w0 w:World}{M:List Nat}{H:List Ent}(hE:Xm w0)(hM:∀k∈M,Ma≤k)(hw:St w0 M H w):Xm w:=
 ⟨hE.tabs.st ⟨hE.size,hM⟩ hw,Nat.le_trans hE.size hw.size⟩
theorem Xm.st0 {w0 w:World}{H:List Ent}(hE:Xm w0)(hw:St w0 [] H w):Xm w:=hE.st (by simp) hw
theorem VX (p:List UInt8):(B p).data.toList=p:=by simp[B]
theorem ZQ (m:Int)(h0 : -9223372036854775808≤m)(h1:m≤9223372036854775807)(w:World)(hE:Xm w):Calls Tryz.prog 122 [.int .i64 m].toArray w (KD w (.string (B (Lib.itoa m)))):=
 (Tryz.strconv_Itoa m h0 h1 w hE.tabs.pow).mono λe w' ⟨he,k,os,hw⟩=>⟨he,by rw[hw];exact St.of_below (Lib.below_grow _ _ (Afy _) _ _)⟩
theorem Aca (p:List UInt8)(hp:p.length≤281474976710656)(v:Int)(h:Lib.atoiAll p = .ok v)(w:World):Calls Tryz.prog 147 [.string (B p)].toArray w (KD w (.tuple #[.int .i64 v,.nilIface])):=
 (Tryz.strconv_Atoi_ok (B p) (by rw[DY];omega) v (by rw[VX];exact h) w).mono λe w' ⟨he,hw⟩=>⟨he,by
  rcases hw with rfl | ⟨t,rfl⟩
  ·exact St.refl _ _
  ·exact St.of_below (Joins.below_bytesWorld _ _ _ _ (Afy _))⟩
theorem VT (p:List UInt8)(hp:p.length≤281474976710656)(h:Lib.atoiAll p = .range)(w:World)(hE:Xm w) :
  Calls Tryz.prog 147 [.string (B p)].toArray w (YA w [] (λv H=>∃m t b,v = .tuple #[.int .i64 m,.iface t b]∧H=[])):=by
 obtain⟨tp,q,hr⟩:=hE.tabs.rng;exact(Tryz.strconv_Atoi_range_var (B p) (by rw[DY];omega) (by rw[VX];exact h) tp q w hr).mono λe w' ⟨N,he,_,_,hb⟩=>⟨_,_,he,St.of_below hb,_,_,_,rfl,rfl⟩
open Go Go.ChangeShapes Go.WideShapes Go.ChangeAt Go.RowKit Go.WideElems
theorem own:ownKnob Tryz.prog.godebug=none:=by kernel_rfl
theorem Ab4:laidOutB Tryz.prog=true:=by kernel_rfl
section
variable {H : Type} {enc : TypeId × Value → H} {P : Program}
theorem LQ (hl:laidOutB P=true){W W':World}(hb:Below W.heap.size W W'){sp:Nat→Bool}:∀{ts:List TypeId} {vs:List Value} {ds:List (DataW H)} {ps:List MemPlace},ts.all (λt=>P.readableRec t&&decide (t<P.types.size))=true→
  DataW.TrodAll enc P W 0 (λ_=>true) true ts vs ds ps→(∀p∈ps,p.block<W.heap.size)→(∀p∈ps,sp p.block=true)→DataW.TrodAll enc P W' 0 sp true ts vs ds ps
 | [],[],[],_,_,h,_,_=>h
 | [],_::_,_,_,_,h,_,_=>h.elim
 | [],[],_::_,_,_,h,_,_=>h.elim
 | _::_,[],_,_,_,h,_,_=>h.elim
 | _::_,_::_,[],_,_,h,_,_=>h.elim
 | t::ts,v::vs,d::ds,ps,ht,⟨p,q,h1,h2,e⟩,hlt,hs=>by
  simp only[List.all_cons,Afb,AeX] at ht;refine⟨p,q,?_,LQ hl hb ht.2 h2 (λx hx=>hlt x (by rw[e];exact List.mem_append_right _ hx)) (λx hx=>hs x (by rw[e];exact List.mem_append_right _ hx)),e⟩;exact Trod_stays hl ht.1.1 ht.1.2 h1 (λx hx=>hb.same (hlt x (by rw[e];exact List.mem_append_left _ hx))) (λx hx=>hs x (by rw[e];exact List.mem_append_left _ hx))
theorem XT (hl:laidOutB P=true){f:Func}{s:ChangeSpec}{apart fresh handsOn:Bool}{W W':World}{args:Array Value}{ds gs:List (DataW H)}{before:List MemPlace}{tb:TypeId}(hp:f.params.toList.all (λt=>P.readableRec t&&decide (t<P.types.size))=true)
  (hv:s.vars=[]) (hr:f.resultTypes = #[tb]) (hb4:P.underlying tb=some .bool) (hW:DataW.Whole enc P f.params.toList s.vars apart W args.toList ds gs before)
  (h1:(s.fn H (ds++gs)).results=[.lit (.bool true)]) (h2:(s.fn H (ds++gs)).args=ds) (h3:(s.fn H (ds++gs)).vars=[]) (hb:Below W.heap.size W W') :
  s.post enc P f apart fresh handsOn false W args (.bool true) W':=by
 have hlt:∀p∈before,p.block<W.heap.size:=λp hp=>hW.lt p hp;have hW':=hW;obtain⟨p,q,hA,hV,hbf,_,_⟩:=hW';have hq:q=[]:=by
  rw[hv] at hV
  cases gs with
  | nil=>exact hV
  | cons _ _=>exact hV.elim
 subst hq;rw[AfO] at hbf;subst hbf;refine⟨ds,gs,before,[],before,[],hW,?_,?_,?_,World.keptBut_mono (λp hp=>⟨hp,.inr (.inl hp)⟩) (hb.frame (·∈before)),λh=>by cases h⟩
 ·rw[h1,hr];exact trodAll_mk1 (shut_bool hb4 true)
 ·rw[h2];exact LQ hl hb hp hA hlt (λx hx=>by simpa using hlt x hx)
 ·rw[hv,h3];exact rfl
end
theorem VQ:Tryz.prog.underlying 4=some .bool:=Tryz.underlying4
def Qt : List (String × DataW Unit) := [("math/bits.deBruijn32tab", Rows.laid_math_bits_deBruijn32tab), ("math/bits.deBruijn64tab", Rows.laid_math_bits_deBruijn64tab), ("internal/strconv.uint64pow10", Rows.laid_internal_strconv_uint64pow10), ("unicode/utf8.acceptRanges", Rows.laid_unicode_utf8_acceptRanges), ("strconv.ErrRange", Rows.laid_strconv_ErrRange), ("strconv.ErrSyntax", Rows.laid_strconv_ErrSyntax), ("unicode/utf8.first", Rows.laid_unicode_utf8_first)]
theorem Aai:(Tryz.prog.globals[3]?).map (·.type)=some 266:=by kernel_rfl
theorem Aah:(Tryz.prog.globals[2]?).map (·.type)=some 198:=by kernel_rfl
theorem Yw:Tryz.prog.cellsOf 231=1:=by kernel_rfl
theorem Yx:Tryz.prog.cellsOf 266=20:=by kernel_rfl
theorem AbO:(Tryz.prog.globals[7]?).map (·.type)=some 277:=by kernel_rfl
theorem Aat:Tryz.prog.cellsOf 5=1:=by kernel_rfl
theorem UP:Tryz.prog.cellsOf 277=64:=by kernel_rfl
theorem Yy:Tryz.prog.cellsOf 9=1:=by kernel_rfl
theorem Aau:Tryz.prog.cellsOf 271=1:=by kernel_rfl
theorem Xa : "*" ++ "errors.errorString" = "*errors.errorString" := by decide
theorem Adm (u : TypeId) (h : Tryz.prog.typeName? 3 u = some "*errors.errorString") : u = 269 :=
 typeName_ptr_named (nm := "errors.errorString") (by rw [Xa]; kernel_rfl) (by kernel_rfl) (by decide) u (by rw [Xa]; exact h)
theorem SJ {W:World}{n:String}{g:Nat}{cs:Array Value}(hg:Tryz.prog.globalNamed n=some g)(h:W.var? Tryz.prog n=some cs):g<W.heap.size:=by
 unfold World.var? at h;rw[hg] at h;simp only[Option.bind_some] at h
 cases hh:W.heap[g]? with
 | none=>rw[hh] at h;cases h
 | some o=>exact(Array.getElem?_eq_some_iff.1 hh).1
theorem Adn {W:World}(h:laidMet Tryz.prog Qt W):Xm W:=by
 have h2:=laidMet.tail h;have hz : Lib.TabIs Tryz.prog W "math/bits.deBruijn64tab" .u8 Acl := Lib.tabIs_of_head gTz AbO Tryz.underlying277 Tryz.underlying5 Aat UP h2
 have h3:=laidMet.tail h2;have h4:=laidMet.tail h3;have hp : Lib.TabIs Tryz.prog W "internal/strconv.uint64pow10" .u64 Lib.pow10Tab := Lib.tabIs_of_head Adl Aai Tryz.underlying266 Tryz.underlying231 Yw Yx h3
 obtain⟨a,s,hv,_,_,_⟩:=laid_sentinel (laidMet.tail h4) Adk Aah Tryz.underlying198 Adm Tryz.underlying269 Tryz.underlying271 rfl rfl Tryz.underlying9 Aau Yy;refine⟨⟨hp,hz,_,_,hv⟩,?_⟩;have h1:=SJ Adl hp;have h5:=SJ Adk hv;exact Nat.max_lt.2 ⟨Nat.max_lt.2 ⟨h1,h5⟩,SJ gTz hz⟩
noncomputable def LA (os:Os):World:=
 let w0:=World.holding Tryz.prog os ⟨#[],#[],[]⟩
 let put (h:Array Obj) (g:Nat) (cs:Array Value):Array Obj:=h.modify g fun
  | .cells _ t frozen=>.cells cs t frozen
  | o=>o
 let nums (d:DataW Unit):Array Value:=match d with
  | .agg ds=>(ds.map fun | .lit (.int k n)=>Value.int k n | _=>undef).toArray
  | _=>#[]
 let nums2 (d:DataW Unit):Array Value:=match d with
  | .agg ds=>(ds.flatMap fun
   | .agg es=>es.map fun | .lit (.int k n)=>Value.int k n | _=>undef
   | _=>[]).toArray
  | _=>#[]
 let n:=w0.heap.size
 let h1:=put w0.heap 6 (nums Rows.laid_math_bits_deBruijn32tab)
 let h2:=put h1 7 (nums Rows.laid_math_bits_deBruijn64tab)
 let h3:=put h2 3 (nums Rows.laid_internal_strconv_uint64pow10)
 let h4:=put h3 2 #[.iface 269 (.pointer (some ⟨n,0,none⟩))]
 let h5:=put h4 1 #[.iface 269 (.pointer (some ⟨n+1,0,none⟩))]
 let h5a:=put h5 5 (nums2 Rows.laid_unicode_utf8_acceptRanges)
 let h5b:=put h5a 4 (nums Rows.laid_unicode_utf8_first)
 let h6:=h5b.push (.cells #[.string ⟨#[118,97,108,117,101,32,111,117,116,32,111,102,32,114,97,110,103,101]⟩] 271 (0,0))
 let h7:=h6.push (.cells #[.string ⟨#[105,110,118,97,108,105,100,32,115,121,110,116,97,120]⟩] 271 (0,0))
 { w0 with heap:=h7 }
set_option maxRecDepth 100000 in
theorem ZK (os:Os)(args:Array Value):laidMet Tryz.prog Qt ((LA os).forCall (λ_ _=>0) ⟨#[],args,[]⟩).memory:=
 laidMet_of_run' 8 (by kernel_rfl) (by kernel_rfl)
set_option linter.unusedSimpArgs false
set_option maxRecDepth 100000
theorem Wq (c:Int)(w:World):Calls Tryz.prog 135 [.int .i32 (c)].toArray w (KD w (.bool (Cq c))):=by
 refine GX (n:=9) Tryz.func135 rfl Tryz.ntmps135 rfl (Al (Aj (AA (A5 rfl) rfl (Am (A4 (Bt ?_))))));refine AC [(2,.bool (((decide ((97)≤(c)))&&(decide ((c)≤(122))))))] [] (φ:=True) ?_ (λhm1=>?_)
 ·refine Aj (AA (Ak rfl) rfl (AA (EN rfl rfl) rfl (AA (Ak rfl) rfl (AU (decide ((97)≤(c))) (λh1=>?_) (λh1=>?_)))))
  ·have g1:=h1;try simp only[AeX,AeY] at g1
   refine Bd rfl rfl h1 (AA (Ak rfl) rfl (Bd rfl rfl h1 (AA (J9 rfl rfl) rfl (AA (AB rfl h1 rfl) rfl (AA (A5 rfl) rfl (Am ?_))))));exact A4 (BL trivial ⟨fb (by simp[h1]),trivial⟩ .slnil)
  ·have g1:=h1;try simp only[AeX,AeY] at g1
   refine AL rfl rfl h1 rfl (AL rfl rfl h1 rfl (AA (Av rfl h1 rfl) rfl (AA (A5 rfl) rfl (Am ?_))));exact A4 (BL trivial ⟨fb (by simp[h1]),trivial⟩ .slnil)
 refine Ap (Ar (BE rfl rfl) ?_);exact IJ (by first | rfl | simp[])
theorem Xb (c:Int)(w:World):Calls Tryz.prog 136 [.int .i32 (c)].toArray w (KD w (.bool (Da c))):=by
 refine GX (n:=9) Tryz.func136 rfl Tryz.ntmps136 rfl (Al (Aj (AA (A5 rfl) rfl (Am (A4 (Bt ?_))))));refine AC [(2,.bool (((decide ((48)≤(c)))&&(decide ((c)≤(57))))))] [] (φ:=True) ?_ (λhm3=>?_)
 ·refine Aj (AA (Ak rfl) rfl (AA (EN rfl rfl) rfl (AA (Ak rfl) rfl (AU (decide ((48)≤(c))) (λh3=>?_) (λh3=>?_)))))
  ·have g3:=h3;try simp only[AeX,AeY] at g3
   refine Bd rfl rfl h3 (AA (Ak rfl) rfl (Bd rfl rfl h3 (AA (J9 rfl rfl) rfl (AA (AB rfl h3 rfl) rfl (AA (A5 rfl) rfl (Am ?_))))));exact A4 (BL trivial ⟨fb (by simp[h3]),trivial⟩ .slnil)
  ·have g3:=h3;try simp only[AeX,AeY] at g3
   refine AL rfl rfl h3 rfl (AL rfl rfl h3 rfl (AA (Av rfl h3 rfl) rfl (AA (A5 rfl) rfl (Am ?_))));exact A4 (BL trivial ⟨fb (by simp[h3]),trivial⟩ .slnil)
 refine Ap (Ar (BE rfl rfl) ?_);exact IJ (by first | rfl | simp[])
theorem ZI (c:Int)(w:World):Calls Tryz.prog 159 [.int .i32 (c)].toArray w (KD w (.bool (GT c))):=by
 refine GX (n:=37) Tryz.func159 rfl Tryz.ntmps159 rfl (Al (Aj (AA (A5 rfl) rfl (Am (A4 (Bt ?_))))));refine AC [(2,.bool (((Cq c)||((Da c)||(bif decide ((65)≤(c)) then((decide ((c)≤(90)))||((decide ((c)=(45)))||((decide ((c)=(95)))||((decide ((c)=(46)))||((decide ((c)=(58)))||(decide ((c)=(47)))))))) else((decide ((c)=(45)))||((decide ((c)=(95)))||((decide ((c)=(46)))||((decide ((c)=(58)))||(decide ((c)=(47))))))))))))] [] (φ:=True) ?_ (λhp=>?_)
 ·refine Aj (AA (Ak rfl) rfl (C6 Tryz.call135 rfl (λw hw=>Wq c w) rfl (AA (Ak rfl) rfl (AU (Cq c) (λh5=>?_) (λh5=>?_)))))
  ·have g5:=h5;try simp only[AeX,AeY] at g5
   refine AL rfl rfl h5 rfl (AL rfl rfl h5 rfl (AA (AB rfl h5 rfl) rfl (AA (Ak rfl) rfl (AL rfl rfl rfl rfl (AL rfl rfl rfl rfl (AL rfl rfl rfl rfl (C5 rfl rfl rfl (C5 rfl rfl rfl (AL rfl rfl rfl rfl (AA (AB rfl rfl rfl) rfl (AA (Ak rfl) rfl (AL rfl rfl rfl rfl (AL rfl rfl rfl rfl (AA (AB rfl rfl rfl) rfl (AA (Ak rfl) rfl (AL rfl rfl rfl rfl (AL rfl rfl rfl rfl (AA (AB rfl rfl rfl) rfl (AA (Ak rfl) rfl (AL rfl rfl rfl rfl (AL rfl rfl rfl rfl (AA (AB rfl rfl rfl) rfl (AA (Ak rfl) rfl ?_)))))))))))))))))))))));refine AL rfl rfl rfl rfl (AL rfl rfl rfl rfl (AA (AB rfl rfl rfl) rfl (AA (Ak rfl) rfl (AL rfl rfl rfl rfl (AL rfl rfl rfl rfl (AA (AB rfl rfl rfl) rfl (AA (A5 rfl) rfl (Am ?_))))))));exact A4 (BL trivial ⟨fb (by simp[h5]),trivial⟩ .slnil)
  ·have g5:=h5;try simp only[AeX,AeY] at g5
   refine Bd rfl rfl h5 (AA (Ak rfl) rfl (Bd rfl rfl h5 (C6 Tryz.call136 rfl (λw hw=>Xb c w) rfl (AA (Av rfl h5 rfl) rfl (AA (Ak rfl) rfl (AU (Da c) (λh6=>?_) (λh6=>?_)))))))
   ·have g6:=h6;try simp only[AeX,AeY] at g6
    refine AL rfl rfl h6 rfl (AL rfl rfl h6 rfl (AL rfl rfl h6 rfl (C5 rfl rfl rfl (C5 rfl rfl rfl (AL rfl rfl h6 rfl (AA (AB rfl h6 rfl) rfl (AA (Ak rfl) rfl (AL rfl rfl rfl rfl (AL rfl rfl rfl rfl (AA (AB rfl rfl rfl) rfl (AA (Ak rfl) rfl (AL rfl rfl rfl rfl (AL rfl rfl rfl rfl (AA (AB rfl rfl rfl) rfl (AA (Ak rfl) rfl (AL rfl rfl rfl rfl (AL rfl rfl rfl rfl (AA (AB rfl rfl rfl) rfl (AA (Ak rfl) rfl (AL rfl rfl rfl rfl (AL rfl rfl rfl rfl (AA (AB rfl rfl rfl) rfl (AA (Ak rfl) rfl ?_)))))))))))))))))))))));refine AL rfl rfl rfl rfl (AL rfl rfl rfl rfl (AA (AB rfl rfl rfl) rfl (AA (A5 rfl) rfl (Am ?_))));exact A4 (BL trivial ⟨fb (by simp[h5,h6]),trivial⟩ .slnil)
   ·have g6:=h6;try simp only[AeX,AeY] at g6
    refine Bd rfl rfl h6 (AA (Ak rfl) rfl (Bd rfl rfl h6 (AA (EN rfl rfl) rfl (Bd rfl rfl h6 (AA (Ak rfl) rfl (AU (decide ((65)≤(c))) (λh7=>?_) (λh7=>?_)))))))
    ·have g7:=h7;try simp only[AeX,AeY] at g7
     refine Bd rfl rfl h7 (AA (Ak rfl) rfl (Bd rfl rfl h7 (AA (J9 rfl rfl) rfl (Bd rfl rfl h6 (AA (AB rfl h7 rfl) rfl (AA (Av rfl h6 rfl) rfl (AA (Ak rfl) rfl (AU (decide ((c)≤(90))) (λh8=>?_) (λh8=>?_)))))))))
     ·have g8:=h8;try simp only[AeX,AeY] at g8
      refine AL rfl rfl h8 rfl (AL rfl rfl h8 rfl (AA (AB rfl h8 rfl) rfl (AA (Ak rfl) rfl (AL rfl rfl rfl rfl (AL rfl rfl rfl rfl (AA (AB rfl rfl rfl) rfl (AA (Ak rfl) rfl (AL rfl rfl rfl rfl (AL rfl rfl rfl rfl (AA (AB rfl rfl rfl) rfl (AA (Ak rfl) rfl (AL rfl rfl rfl rfl (AL rfl rfl rfl rfl (AA (AB rfl rfl rfl) rfl (AA (Ak rfl) rfl (AL rfl rfl rfl rfl (AL rfl rfl rfl rfl (AA (AB rfl rfl rfl) rfl (AA (A5 rfl) rfl (Am ?_))))))))))))))))))));exact A4 (BL trivial ⟨fb (by simp[h5,h6,h7,h8]),trivial⟩ .slnil)
     ·have g8:=h8;try simp only[AeX,AeY] at g8
      refine Bd rfl rfl h8 (AA (Ak rfl) rfl (Bd rfl rfl h8 (AA (BI rfl rfl) rfl (AA (Av rfl h8 rfl) rfl (AA (Ak rfl) rfl (AU (decide ((c)=(45))) (λh9=>?_) (λh9=>?_)))))))
      ·have g9:=h9;try simp only[AeX,AeY] at g9
       refine AL rfl rfl h9 rfl (AL rfl rfl h9 rfl (AA (AB rfl h9 rfl) rfl (AA (Ak rfl) rfl (AL rfl rfl rfl rfl (AL rfl rfl rfl rfl (AA (AB rfl rfl rfl) rfl (AA (Ak rfl) rfl (AL rfl rfl rfl rfl (AL rfl rfl rfl rfl (AA (AB rfl rfl rfl) rfl (AA (Ak rfl) rfl (AL rfl rfl rfl rfl (AL rfl rfl rfl rfl (AA (AB rfl rfl rfl) rfl (AA (A5 rfl) rfl (Am ?_))))))))))))))));exact A4 (BL trivial ⟨fb (by simp[h5,h6,h7,h8,h9]),trivial⟩ .slnil)
      ·have g9:=h9;try simp only[AeX,AeY] at g9
       refine Bd rfl rfl h9 (AA (Ak rfl) rfl (Bd rfl rfl h9 (AA (BI rfl rfl) rfl (AA (Av rfl h9 rfl) rfl (AA (Ak rfl) rfl (AU (decide ((c)=(95))) (λhd=>?_) (λhd=>?_)))))))
       ·have hj:=hd;try simp only[AeX,AeY] at hj
        refine AL rfl rfl hd rfl (AL rfl rfl hd rfl (AA (AB rfl hd rfl) rfl (AA (Ak rfl) rfl (AL rfl rfl rfl rfl (AL rfl rfl rfl rfl (AA (AB rfl rfl rfl) rfl (AA (Ak rfl) rfl (AL rfl rfl rfl rfl (AL rfl rfl rfl rfl (AA (AB rfl rfl rfl) rfl (AA (A5 rfl) rfl (Am ?_))))))))))));exact A4 (BL trivial ⟨fb (by simp[h5,h6,h7,h8,h9,hd]),trivial⟩ .slnil)
       ·have hj:=hd;try simp only[AeX,AeY] at hj
        refine Bd rfl rfl hd (AA (Ak rfl) rfl (Bd rfl rfl hd (AA (BI rfl rfl) rfl (AA (Av rfl hd rfl) rfl (AA (Ak rfl) rfl (AU (decide ((c)=(46))) (λhf=>?_) (λhf=>?_)))))))
        ·have hk:=hf;try simp only[AeX,AeY] at hk
         refine AL rfl rfl hf rfl (AL rfl rfl hf rfl (AA (AB rfl hf rfl) rfl (AA (Ak rfl) rfl (AL rfl rfl rfl rfl (AL rfl rfl rfl rfl (AA (AB rfl rfl rfl) rfl (AA (A5 rfl) rfl (Am ?_))))))));exact A4 (BL trivial ⟨fb (by simp[h5,h6,h7,h8,h9,hd,hf]),trivial⟩ .slnil)
        ·have hk:=hf;try simp only[AeX,AeY] at hk
         refine Bd rfl rfl hf (AA (Ak rfl) rfl (Bd rfl rfl hf (AA (BI rfl rfl) rfl (AA (Av rfl hf rfl) rfl (AA (Ak rfl) rfl (AU (decide ((c)=(58))) (λhh=>?_) (λhh=>?_)))))))
         ·have hl:=hh;try simp only[AeX,AeY] at hl
          refine AL rfl rfl hh rfl (AL rfl rfl hh rfl (AA (AB rfl hh rfl) rfl (AA (A5 rfl) rfl (Am ?_))));exact A4 (BL trivial ⟨fb (by simp[h5,h6,h7,h8,h9,hd,hf,hh]),trivial⟩ .slnil)
         ·have hl:=hh;try simp only[AeX,AeY] at hl
          refine Bd rfl rfl hh (AA (Ak rfl) rfl (Bd rfl rfl hh (AA (BI rfl rfl) rfl (AA (Av rfl hh rfl) rfl (AA (A5 rfl) rfl (Am ?_))))));exact A4 (BL trivial ⟨fb (by simp[h5,h6,h7,h8,h9,hd,hf,hh]),trivial⟩ .slnil)
    ·have g7:=h7;try simp only[AeX,AeY] at g7
     refine AL rfl rfl h7 rfl (AL rfl rfl h7 rfl (Bd rfl rfl h6 (AA (Av rfl h7 rfl) rfl (AA (Av rfl h6 rfl) rfl (AA (Ak rfl) rfl (Bd rfl rfl rfl (AA (Ak rfl) rfl (Bd rfl rfl rfl (AA (BI rfl rfl) rfl (AA (Av rfl rfl rfl) rfl (AA (Ak rfl) rfl (AU (decide ((c)=(45))) (λhb=>?_) (λhb=>?_)))))))))))))
     ·have hm:=hb;try simp only[AeX,AeY] at hm
      refine AL rfl rfl hb rfl (AL rfl rfl hb rfl (AA (AB rfl hb rfl) rfl (AA (Ak rfl) rfl (AL rfl rfl rfl rfl (AL rfl rfl rfl rfl (AA (AB rfl rfl rfl) rfl (AA (Ak rfl) rfl (AL rfl rfl rfl rfl (AL rfl rfl rfl rfl (AA (AB rfl rfl rfl) rfl (AA (Ak rfl) rfl (AL rfl rfl rfl rfl (AL rfl rfl rfl rfl (AA (AB rfl rfl rfl) rfl (AA (A5 rfl) rfl (Am ?_))))))))))))))));exact A4 (BL trivial ⟨fb (by simp[h5,h6,h7,hb]),trivial⟩ .slnil)
     ·have hm:=hb;try simp only[AeX,AeY] at hm
      refine Bd rfl rfl hb (AA (Ak rfl) rfl (Bd rfl rfl hb (AA (BI rfl rfl) rfl (AA (Av rfl hb rfl) rfl (AA (Ak rfl) rfl (AU (decide ((c)=(95))) (λhe=>?_) (λhe=>?_)))))))
      ·have hn:=he;try simp only[AeX,AeY] at hn
       refine AL rfl rfl he rfl (AL rfl rfl he rfl (AA (AB rfl he rfl) rfl (AA (Ak rfl) rfl (AL rfl rfl rfl rfl (AL rfl rfl rfl rfl (AA (AB rfl rfl rfl) rfl (AA (Ak rfl) rfl (AL rfl rfl rfl rfl (AL rfl rfl rfl rfl (AA (AB rfl rfl rfl) rfl (AA (A5 rfl) rfl (Am ?_))))))))))));exact A4 (BL trivial ⟨fb (by simp[h5,h6,h7,hb,he]),trivial⟩ .slnil)
      ·have hn:=he;try simp only[AeX,AeY] at hn
       refine Bd rfl rfl he (AA (Ak rfl) rfl (Bd rfl rfl he (AA (BI rfl rfl) rfl (AA (Av rfl he rfl) rfl (AA (Ak rfl) rfl (AU (decide ((c)=(46))) (λhg=>?_) (λhg=>?_)))))))
       ·have g15:=hg;try simp only[AeX,AeY] at g15
        refine AL rfl rfl hg rfl (AL rfl rfl hg rfl (AA (AB rfl hg rfl) rfl (AA (Ak rfl) rfl (AL rfl rfl rfl rfl (AL rfl rfl rfl rfl (AA (AB rfl rfl rfl) rfl (AA (A5 rfl) rfl (Am ?_))))))));exact A4 (BL trivial ⟨fb (by simp[h5,h6,h7,hb,he,hg]),trivial⟩ .slnil)
       ·have g15:=hg;try simp only[AeX,AeY] at g15
        refine Bd rfl rfl hg (AA (Ak rfl) rfl (Bd rfl rfl hg (AA (BI rfl rfl) rfl (AA (Av rfl hg rfl) rfl (AA (Ak rfl) rfl (AU (decide ((c)=(58))) (λhi=>?_) (λhi=>?_)))))))
        ·have g16:=hi;try simp only[AeX,AeY] at g16
         refine AL rfl rfl hi rfl (AL rfl rfl hi rfl (AA (AB rfl hi rfl) rfl (AA (A5 rfl) rfl (Am ?_))));exact A4 (BL trivial ⟨fb (by simp[h5,h6,h7,hb,he,hg,hi]),trivial⟩ .slnil)
        ·have g16:=hi;try simp only[AeX,AeY] at g16
         refine Bd rfl rfl hi (AA (Ak rfl) rfl (Bd rfl rfl hi (AA (BI rfl rfl) rfl (AA (Av rfl hi rfl) rfl (AA (A5 rfl) rfl (Am ?_))))));exact A4 (BL trivial ⟨fb (by simp[h5,h6,h7,hb,he,hg,hi]),trivial⟩ .slnil)
 refine Ap (Ar (BE rfl rfl) ?_);exact IJ (by simp only[GT];by_cases h:65≤c<;>simp[h,Bool.or_assoc])
theorem Wp (c:Int)(w:World):Calls Tryz.prog 148 [.int .u8 (c)].toArray w (KD w (.bool (Cq c))):=by
 refine GX (n:=9) Tryz.func148 rfl Tryz.ntmps148 rfl (Al (Aj (AA (A5 rfl) rfl (Am (A4 (Bt ?_))))));refine AC [(2,.bool (((decide ((97)≤(c)))&&(decide ((c)≤(122))))))] [] (φ:=True) ?_ (λhd=>?_)
 ·refine Aj (AA (Ak rfl) rfl (AA (EN rfl rfl) rfl (AA (Ak rfl) rfl (AU (decide ((97)≤(c))) (λhb=>?_) (λhb=>?_)))))
  ·have g18:=hb;try simp only[AeX,AeY] at g18
   refine Bd rfl rfl hb (AA (Ak rfl) rfl (Bd rfl rfl hb (AA (J9 rfl rfl) rfl (AA (AB rfl hb rfl) rfl (AA (A5 rfl) rfl (Am ?_))))));exact A4 (BL trivial ⟨fb (by simp[hb]),trivial⟩ .slnil)
  ·have g18:=hb;try simp only[AeX,AeY] at g18
   refine AL rfl rfl hb rfl (AL rfl rfl hb rfl (AA (Av rfl hb rfl) rfl (AA (A5 rfl) rfl (Am ?_))));exact A4 (BL trivial ⟨fb (by simp[hb]),trivial⟩ .slnil)
 refine Ap (Ar (BE rfl rfl) ?_);exact IJ (by first | rfl | simp[])
theorem AbR (c:Int)(w:World):Calls Tryz.prog 149 [.int .u8 (c)].toArray w (KD w (.bool (Da c))):=by
 refine GX (n:=9) Tryz.func149 rfl Tryz.ntmps149 rfl (Al (Aj (AA (A5 rfl) rfl (Am (A4 (Bt ?_))))));refine AC [(2,.bool (((decide ((48)≤(c)))&&(decide ((c)≤(57))))))] [] (φ:=True) ?_ (λhe=>?_)
 ·refine Aj (AA (Ak rfl) rfl (AA (EN rfl rfl) rfl (AA (Ak rfl) rfl (AU (decide ((48)≤(c))) (λhb=>?_) (λhb=>?_)))))
  ·have hd:=hb;try simp only[AeX,AeY] at hd
   refine Bd rfl rfl hb (AA (Ak rfl) rfl (Bd rfl rfl hb (AA (J9 rfl rfl) rfl (AA (AB rfl hb rfl) rfl (AA (A5 rfl) rfl (Am ?_))))));exact A4 (BL trivial ⟨fb (by simp[hb]),trivial⟩ .slnil)
  ·have hd:=hb;try simp only[AeX,AeY] at hd
   refine AL rfl rfl hb rfl (AL rfl rfl hb rfl (AA (Av rfl hb rfl) rfl (AA (A5 rfl) rfl (Am ?_))));exact A4 (BL trivial ⟨fb (by simp[hb]),trivial⟩ .slnil)
 refine Ap (Ar (BE rfl rfl) ?_);exact IJ (by first | rfl | simp[])
theorem AaM (m:Int)(w:World):Calls Tryz.prog 142 [.int .i64 (m)].toArray w (KD w (.bool (PB m))):=by
 refine GX (n:=9) Tryz.func142 rfl Tryz.ntmps142 rfl (Al (Aj (AA (A5 rfl) rfl (Am (A4 (Bt ?_))))));refine AC [(2,.bool (((decide ((-1000000000000)≤(m)))&&(decide ((m)≤(1000000000000))))))] [] (φ:=True) ?_ (λhe=>?_)
 ·refine Aj (AA (Ak rfl) rfl (AA (J9 rfl rfl) rfl (AA (Ak rfl) rfl (AU (decide ((-1000000000000)≤(m))) (λhb=>?_) (λhb=>?_)))))
  ·have hd:=hb;try simp only[AeX,AeY] at hd
   refine Bd rfl rfl hb (AA (Ak rfl) rfl (Bd rfl rfl hb (AA (J9 rfl rfl) rfl (AA (AB rfl hb rfl) rfl (AA (A5 rfl) rfl (Am ?_))))));exact A4 (BL trivial ⟨fb (by first | (simp only[hb,Afo,Afr,Afx,Afq,Aft,Afs,Afv,Afu,Afe,Afn,Afi,Afc,Af9,Af3,reduceIte,Afm];done) | simp[hb]),trivial⟩ .slnil)
  ·have hd:=hb;try simp only[AeX,AeY] at hd
   refine AL rfl rfl hb rfl (AL rfl rfl hb rfl (AA (Av rfl hb rfl) rfl (AA (A5 rfl) rfl (Am ?_))));exact A4 (BL trivial ⟨fb (by first | (simp only[hb,Afo,Afr,Afx,Afq,Aft,Afs,Afv,Afu,Afe,Afn,Afi,Afc,Af9,Af3,reduceIte,Afm];done) | simp[hb]),trivial⟩ .slnil)
 refine Ap (Ar (BE rfl rfl) ?_);exact IJ (by first | rfl | simp[])
theorem AcR (p:List UInt8)(w:World):Calls Tryz.prog 85 [.string (B p)].toArray w (KD w (.bool (CK p))):=by
 refine GX (n:=39) Tryz.func85 rfl Tryz.ntmps85 rfl (Al (Aj (AA (A5 rfl) rfl (Am (A4 (Bt ?_))))));refine Al (Al (Aj (AA (Ak rfl) rfl (Ro Dx rfl rfl (λhi=>?_)))));refine Am (A4 (Bt ?_));refine AF (Lx (S:=Nat) (λ(k:Nat)=>k≤p.length∧B5 DT 0 p=B5 DT k (p.drop k)) (λ(k:Nat)=>[(0,.string (B (p))),(2,.bool (false)),(6,.pointer (some ⟨hi,0,none⟩))]) (λ(k:Nat)=>[.blk hi (.stringIter (B p) (k))]) (λ(k:Nat)=>p.length-k) (0) ?_ ⟨rfl,rfl,rfl,trivial⟩ (.cons_cons _ (.slnil)) ?_)
 ·exact⟨AfE _,by simp⟩
 rintro k hi0;refine Al (Aj (Tr (i:=0) rfl rfl rfl (λhend=>?_) (λht he hr hs hlu39 hhu39 hwu39=>?_)))
 ·refine AA (A6 rfl rfl) rfl (Am (A4 (Bt ?_)));refine Al (CO rfl rfl (B4 (Ay (Ay (Bm (A4 (Bt ?_)))))));refine AC [(2,.bool (((decide ((1)≤((p.length:Int))))&&(decide (((p.length:Int))≤(24))))))] [.blk hi (.stringIter (B p) (k))] (φ:=True) ?_ (λhu=>?_)
  ·refine Aj (AA (Ak rfl) rfl (AA (BO Dx rfl) rfl (AA (EN rfl rfl) rfl (AA (Ak rfl) rfl (AU (decide ((1)≤((p.length:Int)))) (λhf=>?_) (λhf=>?_))))))
   ·have hk:=hf;try simp only[AeX,AeY] at hk
    refine Bd rfl rfl hf (AA (Ak rfl) rfl (Bd rfl rfl hf (AA (BO Dx rfl) rfl (Bd rfl rfl hf (AA (J9 rfl rfl) rfl (AA (AB rfl hf rfl) rfl (AA (A5 rfl) rfl (Am ?_))))))));exact A4 (BL trivial ⟨fb (by first | (simp only[hf,Afo,Afr,Afx,Afq,Aft,Afs,Afv,Afu,Afe,Afn,Afi,Afc,Af9,Af3,reduceIte,Afm];done) | simp[hf]),trivial⟩ (.cons_cons _ (.slnil)))
   ·have hk:=hf;try simp only[AeX,AeY] at hk
    refine AL rfl rfl hf rfl (AL rfl rfl hf rfl (AL rfl rfl hf rfl (AA (Av rfl hf rfl) rfl (AA (A5 rfl) rfl (Am ?_)))));exact A4 (BL trivial ⟨fb (by first | (simp only[hf,Afo,Afr,Afx,Afq,Aft,Afs,Afv,Afu,Afe,Afn,Afi,Afc,Af9,Af3,reduceIte,Afm];done) | simp[hf]),trivial⟩ (.cons_cons _ (.slnil)))
  refine Ap (Ar (BE rfl rfl) ?_);exact IJ (by rw[Z7 hi0 hend])
 ·refine AA (A6 rfl rfl) rfl (Am (A4 (Bt ?_)));refine Al (CG rfl rfl (Ax (A4 (Bt ?_))));refine AF (Al (Aj (AA (A6 rfl rfl) rfl (AA (A6 rfl rfl) rfl (AA (A5 rfl) rfl (AA (A5 rfl) rfl (Am (A4 (Bt ?_)))))))));refine AC [(0,.string (B (p))),(2,.bool (false)),(3,.int .i64 ((k:Int))),(4,.int .i32 ((he:Int))),(6,.pointer (some ⟨hi,0,none⟩)),(7,.tuple #[.bool (true),.int .i64 ((k:Int)),.int .i32 ((he:Int))]),(8,.bool (true)),(9,.int .i64 ((k:Int))),(10,.int .i32 ((he:Int))),(11,.int .i32 ((he:Int))),(12,.bool (Cq (he:Int))),(13,.bool (!(Cq (he:Int)))),(14,.bool (!(Cq (he:Int)))),(30,.bool (((!(Cq (he:Int)))&&((decide (((k:Int))=(0)))||((!(Da (he:Int)))&&((!(decide (((he:Int))=(45))))&&(!(decide (((he:Int))=(95))))))))))] [.blk hi (.stringIter (B p) (k+hr))] (φ:=True) ?_ (λhx=>?_)
  ·refine Aj (AA (Ak rfl) rfl (C6 Tryz.call135 rfl (λw hw=>Wq (he:Int) w) rfl (AA (Cc rfl) rfl (AA (Ak rfl) rfl (AU (!(Cq (he:Int))) (λhd=>?_) (λhd=>?_))))))
   ·have hl:=hd;try simp only[AeX,AeY] at hl
    refine Bd rfl rfl hd (AA (Ak rfl) rfl (Bd rfl rfl hd (AA (BI rfl rfl) rfl (Bd rfl rfl hd (AA (Ak rfl) rfl (AU (decide (((k:Int))=(0))) (λhb=>?_) (λhb=>?_)))))))
    ·have hm:=hb;try simp only[AeX,AeY] at hm
     refine AL rfl rfl hb rfl (AL rfl rfl hb rfl (AL rfl rfl hb rfl (AL rfl rfl hb rfl (C5 rfl rfl rfl (C5 rfl rfl rfl (AL rfl rfl hb rfl (AL rfl rfl hb rfl (C5 rfl rfl rfl (C5 rfl rfl rfl (AL rfl rfl hb rfl (Bd rfl rfl hd (AA (AB rfl hb rfl) rfl (AA (AB rfl hd rfl) rfl (Am ?_))))))))))))));exact A4 (BL trivial ⟨rfl,rfl,rfl,rfl,rfl,rfl,rfl,rfl,rfl,rfl,rfl,rfl,rfl,fb (by first | (simp only[hd,hb,Afo,Afr,Afx,Afq,Aft,Afs,Afv,Afu,Afe,Afn,Afi,Afc,Af9,Af3,reduceIte,Afm];done) | simp[hd,hb]),trivial⟩ (.cons_cons _ (.slnil)))
    ·have hm:=hb;try simp only[AeX,AeY] at hm
     refine Bd rfl rfl hb (AA (Ak rfl) rfl (Bd rfl rfl hb (C6 Tryz.call136 rfl (λw hw=>Xb (he:Int) w) rfl (Bd rfl rfl hb (AA (Cc rfl) rfl (Bd rfl rfl hb (AA (Ak rfl) rfl (AU (!(Da (he:Int))) (λhg=>?_) (λhg=>?_)))))))))
     ·have hn:=hg;try simp only[AeX,AeY] at hn
      refine Bd rfl rfl hg (AA (Ak rfl) rfl (Bd rfl rfl hg (AA (Ct rfl rfl) rfl (Bd rfl rfl hb (AA (AB rfl hg rfl) rfl (Bd rfl rfl hb (AA (Ak rfl) rfl (AU (!(decide (((he:Int))=(45)))) (λhh=>?_) (λhh=>?_)))))))))
      ·have hp:=hh;try simp only[AeX,AeY] at hp
       refine Bd rfl rfl hh (AA (Ak rfl) rfl (Bd rfl rfl hh (AA (Ct rfl rfl) rfl (Bd rfl rfl hb (AA (AB rfl hh rfl) rfl (Bd rfl rfl hd (AA (Av rfl hb rfl) rfl (AA (AB rfl hd rfl) rfl (Am ?_)))))))));exact A4 (BL trivial ⟨rfl,rfl,rfl,rfl,rfl,rfl,rfl,rfl,rfl,rfl,rfl,rfl,rfl,fb (by first | (simp only[hd,hb,hg,hh,Afo,Afr,Afx,Afq,Aft,Afs,Afv,Afu,Afe,Afn,Afi,Afc,Af9,Af3,reduceIte,Afm];done) | simp[hd,hb,hg,hh]),trivial⟩ (.cons_cons _ (.slnil)))
      ·have hp:=hh;try simp only[AeX,AeY] at hp
       refine AL rfl rfl hh rfl (AL rfl rfl hh rfl (Bd rfl rfl hb (AA (Av rfl hh rfl) rfl (Bd rfl rfl hd (AA (Av rfl hb rfl) rfl (AA (AB rfl hd rfl) rfl (Am ?_)))))));exact A4 (BL trivial ⟨rfl,rfl,rfl,rfl,rfl,rfl,rfl,rfl,rfl,rfl,rfl,rfl,rfl,fb (by first | (simp only[hd,hb,hg,hh,Afo,Afr,Afx,Afq,Aft,Afs,Afv,Afu,Afe,Afn,Afi,Afc,Af9,Af3,reduceIte,Afm];done) | simp[hd,hb,hg,hh]),trivial⟩ (.cons_cons _ (.slnil)))
     ·have hn:=hg;try simp only[AeX,AeY] at hn
      refine AL rfl rfl hg rfl (AL rfl rfl hg rfl (Bd rfl rfl hb (AA (Av rfl hg rfl) rfl (Bd rfl rfl hb (AA (Ak rfl) rfl (AL rfl rfl rfl rfl (AL rfl rfl rfl rfl (Bd rfl rfl hb (AA (Av rfl rfl rfl) rfl (Bd rfl rfl hd (AA (Av rfl hb rfl) rfl (AA (AB rfl hd rfl) rfl (Am ?_)))))))))))));exact A4 (BL trivial ⟨rfl,rfl,rfl,rfl,rfl,rfl,rfl,rfl,rfl,rfl,rfl,rfl,rfl,fb (by first | (simp only[hd,hb,hg,Afo,Afr,Afx,Afq,Aft,Afs,Afv,Afu,Afe,Afn,Afi,Afc,Af9,Af3,reduceIte,Afm];done) | simp[hd,hb,hg]),trivial⟩ (.cons_cons _ (.slnil)))
   ·have hl:=hd;try simp only[AeX,AeY] at hl
    refine AL rfl rfl hd rfl (AL rfl rfl hd rfl (AL rfl rfl hd rfl (C5 rfl rfl rfl (C5 rfl rfl rfl (C5 rfl rfl rfl (C5 rfl rfl rfl (C5 rfl rfl rfl (C5 rfl rfl rfl (C5 rfl rfl rfl (C5 rfl rfl rfl (C5 rfl rfl rfl (C5 rfl rfl rfl (C5 rfl rfl rfl (AL rfl rfl hd rfl (AA (Av rfl hd rfl) rfl (Am ?_))))))))))))))));exact A4 (BL trivial ⟨rfl,rfl,rfl,rfl,rfl,rfl,rfl,rfl,rfl,rfl,rfl,rfl,rfl,fb (by first | (simp only[hd,Afo,Afr,Afx,Afq,Aft,Afs,Afv,Afu,Afe,Afn,Afi,Afc,Af9,Af3,reduceIte,Afm];done) | simp[hd]),trivial⟩ (.cons_cons _ (.slnil)))
  refine E5 (b:=((!(Cq (he:Int)))&&((decide (((k:Int))=(0)))||((!(Da (he:Int)))&&((!(decide (((he:Int))=(45))))&&(!(decide (((he:Int))=(95))))))))) rfl (λhj=>?_) (λhj=>?_)
  ·have hq:=hj;try simp only[AeX,AeY] at hq
   refine Al (Aj (AA (A5 rfl) rfl (Am (A4 (Bt ?_)))));refine Ap (A0 (Ac (A0 (Ac (Ar (BE rfl rfl) ?_)))));exact IJ (by rw[Abt hi0 hs hlu39 hhu39 hj])
  ·have hq:=hj;try simp only[AeX,AeY] at hq
   refine Ax (AH (A4 (AK (k+hr) ?_ ⟨rfl,rfl,rfl,trivial⟩ (.cons_cons _ (.slnil)))));exact XZ hi0 hs hlu39 hhu39 hj
theorem AeF (p:List UInt8)(w:World):Calls Tryz.prog 115 [.string (B p)].toArray w (KD w (.bool (Nu p))):=by
 refine GX (n:=21) Tryz.func115 rfl Tryz.ntmps115 rfl (Al (Aj (AA (A5 rfl) rfl (Am (A4 (Bt ?_))))));refine Al (Al (Aj (AA (Ak rfl) rfl (Ro Dx rfl rfl (λhe=>?_)))));refine Am (A4 (Bt ?_));refine AF (Lx (S:=Nat) (λ(k:Nat)=>k≤p.length∧B5 OY 0 p=B5 OY k (p.drop k)) (λ(k:Nat)=>[(0,.string (B (p))),(2,.bool (false)),(6,.pointer (some ⟨he,0,none⟩))]) (λ(k:Nat)=>[.blk he (.stringIter (B p) (k))]) (λ(k:Nat)=>p.length-k) (0) ?_ ⟨rfl,rfl,rfl,trivial⟩ (.cons_cons _ (.slnil)) ?_)
 ·exact⟨AfE _,by simp⟩
 rintro k hi0;refine Al (Aj (Tr (i:=0) rfl rfl rfl (λhend=>?_) (λhk hh hj hi hlu51 hhu51 hwu51=>?_)))
 ·refine AA (A6 rfl rfl) rfl (Am (A4 (Bt ?_)));refine Al (CO rfl rfl (B4 (Ay (Ay (Bm (A4 (Bt ?_)))))));refine AC [(2,.bool (((decide ((1)≤((p.length:Int))))&&(decide (((p.length:Int))≤(64))))))] [.blk he (.stringIter (B p) (k))] (φ:=True) ?_ (λhl=>?_)
  ·refine Aj (AA (Ak rfl) rfl (AA (BO Dx rfl) rfl (AA (EN rfl rfl) rfl (AA (Ak rfl) rfl (AU (decide ((1)≤((p.length:Int)))) (λhb=>?_) (λhb=>?_))))))
   ·have hf:=hb;try simp only[AeX,AeY] at hf
    refine Bd rfl rfl hb (AA (Ak rfl) rfl (Bd rfl rfl hb (AA (BO Dx rfl) rfl (Bd rfl rfl hb (AA (J9 rfl rfl) rfl (AA (AB rfl hb rfl) rfl (AA (A5 rfl) rfl (Am ?_))))))));exact A4 (BL trivial ⟨fb (by first | (simp only[hb,Afo,Afr,Afx,Afq,Aft,Afs,Afv,Afu,Afe,Afn,Afi,Afc,Af9,Af3,reduceIte,Afm];done) | simp[hb]),trivial⟩ (.cons_cons _ (.slnil)))
   ·have hf:=hb;try simp only[AeX,AeY] at hf
    refine AL rfl rfl hb rfl (AL rfl rfl hb rfl (AL rfl rfl hb rfl (AA (Av rfl hb rfl) rfl (AA (A5 rfl) rfl (Am ?_)))));exact A4 (BL trivial ⟨fb (by first | (simp only[hb,Afo,Afr,Afx,Afq,Aft,Afs,Afv,Afu,Afe,Afn,Afi,Afc,Af9,Af3,reduceIte,Afm];done) | simp[hb]),trivial⟩ (.cons_cons _ (.slnil)))
  refine Ap (Ar (BE rfl rfl) ?_);exact IJ (by rw[Ade hi0 hend])
 ·refine AA (A6 rfl rfl) rfl (Am (A4 (Bt ?_)));refine Al (CG rfl rfl (Ax (A4 (Bt ?_))));refine AF (Al (Aj (AA (A6 rfl rfl) rfl (AA (A5 rfl) rfl (Am (A4 (Bt ?_)))))));refine Al (Aj (AA (Ak rfl) rfl (C6 Tryz.call159 rfl (λw hw=>ZI (hh:Int) w) rfl (AA (Cc rfl) rfl (Am (A4 (Bt ?_)))))));refine E5 (b:=!(GT (hh:Int))) rfl (λhd=>?_) (λhd=>?_)
  ·have hg:=hd;try simp only[AeX,AeY] at hg
   refine Al (Aj (AA (A5 rfl) rfl (Am (A4 (Bt ?_)))));refine Ap (A0 (Ac (A0 (Ac (Ar (BE rfl rfl) ?_)))));exact IJ (by rw[Aea hi0 hi hlu51 hhu51 hd])
  ·have hg:=hd;try simp only[AeX,AeY] at hg
   refine Ax (AH (A4 (AK (k+hj) ?_ ⟨rfl,rfl,rfl,trivial⟩ (.cons_cons _ (.slnil)))));exact AbG hi0 hi hlu51 hhu51 hd
open Go
def Li (p q:List UInt8):Bool:=decide (q.length≤p.length)&&decide (p.take q.length=q)
def Ji (p q:List UInt8):Bool:=decide (q.length≤p.length)&&decide (p.drop (p.length-q.length)=q)
def Ph (p q:List UInt8):List UInt8:=if Ji p q=true then p.take (p.length-q.length) else p
theorem VF {p q:List UInt8}(h:Ji p q=true):q.length≤p.length:=by
 simp[Ji] at h;exact h.1
theorem SD (p:List UInt8)(c:UInt8) : -1≤Lib.indexByte p c∧Lib.indexByte p c<p.length:=by
 induction p with
 | nil=>simp[Lib.indexByte]
 | cons b r ih=>
  unfold Lib.indexByte;simp only[Afk]
  split
  ·omega
  ·split<;>omega
def Ys (p:List UInt8)(c:UInt8):List UInt8:=if 0≤Lib.indexByte p c then p.take (Lib.indexByte p c).toNat else p
def UK (p:List UInt8)(c:UInt8):List UInt8:=if 0≤Lib.indexByte p c then p.drop (Lib.indexByte p c+1).toNat else[]
def Adq (p:List UInt8)(c:UInt8):Bool:=decide (0≤Lib.indexByte p c)
theorem Uy (p:List UInt8)(m:Int)(w:World):Calls Tryz.prog 207 [.string (B (p)),.int .u8 (m)].toArray w (KD w (.int .i64 (Lib.indexByte p (Int.toNat m).toUInt8))):=by
 refine GX (n:=8) Tryz.func207 rfl Tryz.ntmps207 rfl (Al (Aj (AA (A5 rfl) rfl (Am (A4 (Bt ?_))))));refine Al (Aj (AA (Ak rfl) rfl (AA (Ak rfl) rfl (AA (v:=.int .i64 (Lib.indexByte p (Int.toNat (m)).toUInt8)) (AdO rfl (Rb Tryz.func231 (by kernel_rfl) (by kernel_rfl) (by kernel_rfl) (by kernel_rfl) p (m))) rfl (AA (A5 rfl) rfl (Am (A4 (Bt ?_))))))));refine Ap (Ar (BE rfl rfl) ?_);exact IJ (by first | rfl | simp[])
def AaU (p:List UInt8):Bool:=decide ((0:Int)<p.length)&&decide (Cs p 0=45)
def Q8 (p:List UInt8):List UInt8:=if AaU p=true then p.drop 1 else p
theorem Aap (p:List UInt8):(Q8 p).length≤p.length:=by unfold Q8;split<;>simp
def GY (_:Nat)(u:UInt8):Bool:=!(decide ((u.toNat:Int)<48)||decide (57<(u.toNat:Int)))
def SL (p:List UInt8):Bool:=!(decide (Q8 p=[])||(decide (Cs (Q8 p) 0=48)&&!decide (p=[48])))&&B5 GY 0 (Q8 p)
theorem IS {p:List UInt8}(h : ¬ p=[]):(0:Int)<p.length:=by
 cases p with
 | nil=>exact absurd rfl h
 | cons a r=>simp
theorem LE {p:List UInt8}{k:Nat}(h:(k:Int)<p.length):∃u,p[k]? =some u:=⟨p[k]'(by omega),Aff (by omega)⟩
theorem Aaq {p:List UInt8}{k:Nat}(hi:k≤p.length∧B5 GY 0 p=B5 GY k (p.drop k))(h:(k:Int)<p.length)(ht:(decide (Cs p k<48)||decide (57<Cs p k))=false) :
  (k+1≤p.length∧B5 GY 0 p=B5 GY (k+1) (p.drop (k+1)))∧p.length-(k+1)<p.length-k:=by
 obtain⟨u,hu⟩:=LE h;rw[SP hu] at ht;exact PW hi hu (by simp only[GY,ht];rfl)
theorem Adp {p:List UInt8}{k:Nat}(hi:k≤p.length∧B5 GY 0 p=B5 GY k (p.drop k))(h:(k:Int)<p.length)(ht:(decide (Cs p k<48)||decide (57<Cs p k))=true):B5 GY 0 p=false:=by
 obtain⟨u,hu⟩:=LE h;rw[SP hu] at ht;exact Vu hi hu (by simp only[GY,ht];rfl)
theorem AbS {p:List UInt8}{k:Nat}(hi:k≤p.length∧B5 GY 0 p=B5 GY k (p.drop k))(h : ¬ (k:Int)<p.length):B5 GY 0 p=true:=Sl hi (by omega)
def E1 (p:List UInt8):Int:=if SL p=true then(match Lib.atoiAll p with | .ok v=>if PB v=true then 0 else 2 | _=>2) else 1
def C7 (p:List UInt8):Int:=if SL p=true then(match Lib.atoiAll p with | .ok v=>if PB v=true then v else 0 | _=>0) else 0
theorem Q9:∀(l:List UInt8) (i acc:Nat),B5 GY i l=true→(∃u,Lib.parseUint10 acc l = .ok u)∨Lib.parseUint10 acc l = .range
 | [],_,acc,_=>.inl ⟨acc,rfl⟩
 | c::r,i,acc,h=>by
  simp only[B5,Afb] at h;have hc:48≤c.toNat∧c.toNat≤57:=by have:=h.1;simp[GY] at this;omega
  unfold Lib.parseUint10;rw[AfP hc]
  split
  ·exact .inr rfl
  ·split
   ·exact .inr rfl
   ·exact Q9 r _ _ h.2
theorem WF {l:List UInt8}(hne:l≠[])(h:B5 GY 0 l=true):(∃u,Lib.parseMag l = .ok u)∨Lib.parseMag l = .range:=by
 unfold Lib.parseMag;rw[AfI hne];exact Q9 l 0 0 h
theorem Sf {e:Lib.NumEnd Nat}(h:(∃u,e = .ok u)∨e = .range):(∃v,Lib.signless e = .ok v)∨Lib.signless e = .range:=by
 rcases h with⟨u,rfl⟩ | rfl
 ·unfold Lib.signless
  by_cases h:9223372036854775808≤u
  ·exact .inr (by simp[h])
  ·exact .inl ⟨_,by simp[h];rfl⟩
 ·exact .inr rfl
theorem Vr {e:Lib.NumEnd Nat}(h:(∃u,e = .ok u)∨e = .range):(∃v,Lib.signed e = .ok v)∨Lib.signed e = .range:=by
 rcases h with⟨u,rfl⟩ | rfl
 ·unfold Lib.signed
  by_cases h:9223372036854775808<u
  ·exact .inr (by simp[h])
  ·exact .inl ⟨_,by simp[h];rfl⟩
 ·exact .inr rfl
theorem Aa3 {p:List UInt8}(h:SL p=true):(∃v,Lib.atoiAll p = .ok v∧-9223372036854775808≤v∧v≤9223372036854775807)∨Lib.atoiAll p = .range:=by
 have key:(∃v,Lib.atoiAll p = .ok v)∨Lib.atoiAll p = .range:=by
  simp only[SL,Afb,Af0,AfF,AeY] at h;obtain⟨⟨hne,_⟩,hall⟩:=h
  cases p with
  | nil=>simp[Q8,AaU] at hne
  | cons c r=>
   by_cases hc:c=45
   ·subst hc;have hd:Q8 (45::r)=r:=by simp[Q8,AaU,Cs]
    rw[hd] at hne hall;rw[Lib.atoiAll_minus];exact Vr (WF hne hall)
   ·have hb : ¬ Cs (c::r) 0=45:=by
     simp only[Cs,Int.toNat_zero,List.getElem?_cons_zero,Af5];intro e;exact hc (UInt8.toNat_inj.1 (by simpa using(by omega:c.toNat=45)))
    have hd:Q8 (c::r)=c::r:=by simp[Q8,AaU,hb]
    rw[hd] at hne hall;have he:48≤c.toNat:=by
     simp only[B5,Afb] at hall;have:=hall.1;simp[GY] at this;omega
    rw[Lib.atoiAll_plain c r (by omega) (by omega)];exact Sf (WF hne hall)
 rcases key with⟨v,hv⟩ | h
 ·exact .inl ⟨v,hv,Lib.atoiAll_bounds hv⟩
 ·exact .inr h
def Qe (s:List UInt8):Bool:=Nu s||(decide (s=[42])||(Nu (Ph s [42])&&(Ji s [42]&&decide ((s.length:Int)≤64))))
def V6 (p s:List UInt8):Bool:=Qe p&&(bif Ji p [42] then Li s (Ph p [42]) else decide (p=s))
theorem Yr (p:List UInt8)(hp:p.length≤281474976710656)(w:World):Calls Tryz.prog 146 [.string (B (p))].toArray w (KD w (.bool (SL p))):=by
 refine GX (n:=43) Tryz.func146 rfl Tryz.ntmps146 rfl (Al (Aj (AA (A5 rfl) rfl (Am (A4 (Bt ?_))))));refine Al (Aj (AA (Ak rfl) rfl (AA (A5 rfl) rfl (Am (A4 (Bt ?_))))));refine AC [(0,.string (B (p))),(2,.bool (false)),(3,.string (B ((if ((decide ((0)<((p.length:Int))))&&(decide ((Cs p 0)=(45))))=true then List.drop (Int.toNat (1)) p else p))))] [] (φ:=True) ?_ (λh3=>?_)
 ·refine AC [(0,.string (B (p))),(2,.bool (false)),(3,.string (B (p))),(13,.bool (((decide ((0)<((p.length:Int))))&&(decide ((Cs p 0)=(45))))))] [] (φ:=True) ?_ (λh4=>?_)
  ·refine Aj (AA (Ak rfl) rfl (AA (BO Dx rfl) rfl (AA (Ee rfl rfl) rfl (AA (Ak rfl) rfl (AU (decide ((0)<((p.length:Int)))) (λhe=>?_) (λhe=>?_))))))
   ·have hl:=he;try simp only[AeX,AeY] at hl
    have hm:=he;try simp at hm
    refine Bd rfl rfl he (AA (Ak rfl) rfl (Bd rfl rfl he (AA (BR Dx rfl rfl (by first | omega | exact IS (by assumption)) (by first | omega | exact IS (by assumption))) rfl (Bd rfl rfl he (AA (BI rfl rfl) rfl (AA (AB rfl he rfl) rfl (Am ?_)))))));exact A4 (BL trivial ⟨rfl,rfl,rfl,fb (by first | (simp only[he,Afo,Afr,Afx,Afq,Aft,Afs,Afv,Afu,Afe,Afn,Afi,Afc,Af9,Af3,reduceIte,Afm];done) | simp[he]),trivial⟩ .slnil)
   ·have hl:=he;try simp only[AeX,AeY] at hl
    have hm:=he;try simp at hm
    refine AL rfl rfl he rfl (AL rfl rfl he rfl (AL rfl rfl he rfl (AA (Av rfl he rfl) rfl (Am ?_))));exact A4 (BL trivial ⟨rfl,rfl,rfl,fb (by first | (simp only[he,Afo,Afr,Afx,Afq,Aft,Afs,Afv,Afu,Afe,Afn,Afi,Afc,Af9,Af3,reduceIte,Afm];done) | simp[he]),trivial⟩ .slnil)
  refine E5 (b:=((decide ((0)<((p.length:Int))))&&(decide ((Cs p 0)=(45))))) rfl (λhh=>?_) (λhh=>?_)
  ·have hn:=hh;try simp only[AeX,AeY] at hn
   have hq:=hh;try simp at hq
   refine Aj (AA (Ak rfl) rfl (AA (G9 Dx rfl rfl (by first | omega | (simp;omega)) (by first | omega | (simp;omega))) rfl (AA (A5 rfl) rfl (Am ?_))));exact A4 (BL trivial ⟨rfl,rfl,fs (by first | (simp only[hh,Afo,Afr,Afx,Afq,Aft,Afs,Afv,Afu,Afe,Afn,Afi,Afc,Af9,Af3,reduceIte,Afm];done) | simp[hh]),trivial⟩ .slnil)
  ·have hn:=hh;try simp only[AeX,AeY] at hn
   have hq:=hh;try simp at hq
   refine Ax ?_;exact A4 (BL trivial ⟨rfl,rfl,fs (by first | (simp only[hh,Afo,Afr,Afx,Afq,Aft,Afs,Afv,Afu,Afe,Afn,Afi,Afc,Af9,Af3,reduceIte,Afm];done) | simp[hh]),trivial⟩ .slnil)
 have hdg:Q8 p=(if ((decide ((0)<((p.length:Int))))&&(decide ((Cs p 0)=(45))))=true then List.drop (Int.toNat (1)) p else p):=rfl;have hdl:=Aap p;rw[hdg] at hdl;generalize(if ((decide ((0)<((p.length:Int))))&&(decide ((Cs p 0)=(45))))=true then List.drop (Int.toNat (1)) p else p)=dg at hdg hdl ⊢;refine Al (AC [(2,.bool (false)),(3,.string (B (dg))),(26,.bool (((decide ((dg)=(([]:List UInt8))))||((decide ((Cs dg 0)=(48)))&&(!(decide ((p)=(([48]:List UInt8)))))))))] [] (φ:=True) ?_ (λh5=>?_))
 ·refine Aj (AA (Ak rfl) rfl (AA (Cy rfl rfl) rfl (AA (Ak rfl) rfl (AU (decide ((dg)=(([]:List UInt8)))) (λhb=>?_) (λhb=>?_)))))
  ·have hr:=hb;try simp only[AeX,AeY] at hr
   have hs:=hb;try simp at hs
   refine AL rfl rfl hb rfl (AL rfl rfl hb rfl (AL rfl rfl hb rfl (AL rfl rfl hb rfl (C5 rfl rfl rfl (C5 rfl rfl rfl (AL rfl rfl hb rfl (AA (AB rfl hb rfl) rfl (Am ?_))))))));exact A4 (BL trivial ⟨rfl,rfl,fb (by first | (simp only[hb,Afo,Afr,Afx,Afq,Aft,Afs,Afv,Afu,Afe,Afn,Afi,Afc,Af9,Af3,reduceIte,Afm];done) | simp[hb]),trivial⟩ .slnil)
  ·have hr:=hb;try simp only[AeX,AeY] at hr
   have hs:=hb;try simp at hs
   refine Bd rfl rfl hb (AA (Ak rfl) rfl (Bd rfl rfl hb (AA (BR Dx rfl rfl (by first | omega | exact IS (by assumption)) (by first | omega | exact IS (by assumption))) rfl (Bd rfl rfl hb (AA (BI rfl rfl) rfl (Bd rfl rfl hb (AA (Ak rfl) rfl (AU (decide ((Cs dg 0)=(48))) (λhf=>?_) (λhf=>?_)))))))))
   ·have ht:=hf;try simp only[AeX,AeY] at ht
    have hu:=hf;try simp at hu
    refine Bd rfl rfl hf (AA (Ak rfl) rfl (Bd rfl rfl hf (AA (KQ rfl rfl) rfl (Bd rfl rfl hb (AA (AB rfl hf rfl) rfl (AA (Av rfl hb rfl) rfl (Am ?_)))))));exact A4 (BL trivial ⟨rfl,rfl,fb (by first | (simp only[hb,hf,Afo,Afr,Afx,Afq,Aft,Afs,Afv,Afu,Afe,Afn,Afi,Afc,Af9,Af3,reduceIte,Afm];done) | simp[hb,hf]),trivial⟩ .slnil)
   ·have ht:=hf;try simp only[AeX,AeY] at ht
    have hu:=hf;try simp at hu
    refine AL rfl rfl hf rfl (AL rfl rfl hf rfl (Bd rfl rfl hb (AA (Av rfl hf rfl) rfl (AA (Av rfl hb rfl) rfl (Am ?_)))));exact A4 (BL trivial ⟨rfl,rfl,fb (by first | (simp only[hb,hf,Afo,Afr,Afx,Afq,Aft,Afs,Afv,Afu,Afe,Afn,Afi,Afc,Af9,Af3,reduceIte,Afm];done) | simp[hb,hf]),trivial⟩ .slnil)
 refine E5 (b:=((decide ((dg)=(([]:List UInt8))))||((decide ((Cs dg 0)=(48)))&&(!(decide ((p)=(([48]:List UInt8)))))))) rfl (λhg=>?_) (λhg=>?_)
 ·have hw:=hg;try simp only[AeX,AeY] at hw
  have hx:=hg;try simp at hx
  refine Al (Aj (AA (A5 rfl) rfl (Am (A4 (Bt ?_)))));refine Ap (Ac (Ar (BE rfl rfl) ?_));exact IJ (by simp only[SL,hdg,hg];rfl)
 ·have hw:=hg;try simp only[AeX,AeY] at hw
  have hx:=hg;try simp at hx
  refine Ax (A4 (Bt ?_));refine Al (Al (Aj (AA (Ak rfl) rfl (AA (BO Dx rfl) rfl (AA (Ak rfl) rfl (Am (A4 (Bt ?_))))))));refine AF (Lx (S:=Nat) (λ(k:Nat)=>k≤dg.length∧B5 GY 0 dg=B5 GY k (dg.drop k)) (λ(k:Nat)=>[(29,.int .i64 ((k:Int))),(3,.string (B (dg))),(28,.int .i64 ((dg.length:Int)))]) (λ(k:Nat)=>[]) (λ(k:Nat)=>dg.length-k) (0) ?_ ⟨fi (by first | rfl | (simp;done) | omega | (simp;omega)),rfl,rfl,trivial⟩ .slnil ?_)
  ·exact⟨AfE _,by simp⟩
  rintro k hi0;refine Al (Aj (AA (C1 rfl rfl) rfl (Am (A4 (Bt ?_)))));refine Al (E5 (b:=decide (((k:Int))<((dg.length:Int)))) rfl (λhi=>?_) (λhi=>?_))
  ·have hk:=hi;try simp only[AeX,AeY] at hk
   have hy:=hi;try simp at hy
   refine Ax (A4 (Bt ?_));refine Al (AF (Al (Aj (AA (Ak rfl) rfl (AA (A5 rfl) rfl (Am (A4 (Bt ?_))))))));refine AC [(3,.string (B (dg))),(4,.int .i64 ((k:Int))),(28,.int .i64 ((dg.length:Int))),(29,.int .i64 ((k:Int))),(30,.bool (decide (((k:Int))<((dg.length:Int))))),(31,.int .i64 ((k:Int))),(32,.string (B (dg))),(33,.int .i64 ((k:Int))),(34,.int .u8 (Cs dg (k:Int))),(35,.bool (decide ((Cs dg (k:Int))<(48)))),(36,.bool (decide ((Cs dg (k:Int))<(48)))),(41,.bool (((decide ((Cs dg (k:Int))<(48)))||(decide ((57)<(Cs dg (k:Int)))))))] [] (φ:=True) ?_ (λh6=>?_)
   ·refine Aj (AA (Ak rfl) rfl (AA (Ak rfl) rfl (AA (BR Dx rfl rfl (by first | omega | exact IS (by assumption)) (by first | omega | exact IS (by assumption))) rfl (AA (C1 rfl rfl) rfl (AA (Ak rfl) rfl (AU (decide ((Cs dg (k:Int))<(48))) (λhd=>?_) (λhd=>?_)))))))
    ·have hz:=hd;try simp only[AeX,AeY] at hz
     have h0:=hd;try simp at h0
     refine AL rfl rfl hd rfl (AL rfl rfl hd rfl (AL rfl rfl hd rfl (AL rfl rfl hd rfl (AA (AB rfl hd rfl) rfl (Am ?_)))));exact A4 (BL trivial ⟨rfl,rfl,rfl,rfl,rfl,rfl,rfl,rfl,rfl,rfl,rfl,fb (by first | (simp only[hg,hi,hd,Afo,Afr,Afx,Afq,Aft,Afs,Afv,Afu,Afe,Afn,Afi,Afc,Af9,Af3,reduceIte,Afm];done) | simp[hg,hi,hd]),trivial⟩ .slnil)
    ·have hz:=hd;try simp only[AeX,AeY] at hz
     have h0:=hd;try simp at h0
     refine Bd rfl rfl hd (AA (Ak rfl) rfl (Bd rfl rfl hd (AA (Ak rfl) rfl (Bd rfl rfl hd (AA (BR Dx rfl rfl (by first | omega | exact IS (by assumption)) (by first | omega | exact IS (by assumption))) rfl (Bd rfl rfl hd (AA (Ee rfl rfl) rfl (AA (Av rfl hd rfl) rfl (Am ?_)))))))));exact A4 (BL trivial ⟨rfl,rfl,rfl,rfl,rfl,rfl,rfl,rfl,rfl,rfl,rfl,fb (by first | (simp only[hg,hi,hd,Afo,Afr,Afx,Afq,Aft,Afs,Afv,Afu,Afe,Afn,Afi,Afc,Af9,Af3,reduceIte,Afm];done) | simp[hg,hi,hd]),trivial⟩ .slnil)
   refine E5 (b:=((decide ((Cs dg (k:Int))<(48)))||(decide ((57)<(Cs dg (k:Int)))))) rfl (λhj=>?_) (λhj=>?_)
   ·have h1:=hj;try simp only[AeX,AeY] at h1
    have h2:=hj;try simp at h2
    refine Al (Aj (AA (A5 rfl) rfl (Am (A4 (Bt ?_)))));refine Ap (A0 (Ac (Ac (A0 (Ac (Ar (BE rfl rfl) ?_))))));exact IJ (by simp[SL,hdg,Adp hi0 hk hj])
   ·have h1:=hj;try simp only[AeX,AeY] at h1
    have h2:=hj;try simp at h2
    refine Ax (AH (A4 (Bt ?_)));refine Aj (AA (BA rfl rfl (IntWalk.i64_in _ (by omega))) rfl (AA (Ak rfl) rfl (Am (A4 (AK (k+1) ?_ ⟨fi (by first | rfl | (simp;done) | omega | (simp;omega)),rfl,rfl,trivial⟩ .slnil)))));exact Aaq hi0 hk hj
  ·have hk:=hi;try simp only[AeX,AeY] at hk
   have hy:=hi;try simp at hy
   refine B4 (Ay (Ay (Bm (A4 (Bt ?_)))));refine Al (Aj (AA (A5 rfl) rfl (Am (A4 (Bt ?_)))));refine Ap (Ar (BE rfl rfl) ?_);exact IJ (by simp only[SL,hdg,hg,AbS hi0 hk];rfl)
theorem Aal (m:Int)(h0 : -9223372036854775808≤m)(h1:m≤9223372036854775807)(w:World)(hE:Xm w):Calls Tryz.prog 163 [.int .i64 (m)].toArray w (KD w (.string (B (Lib.itoa m)))):=by
 refine GX (n:=5) Tryz.func163 rfl Tryz.ntmps163 rfl (Al (Aj (AA (A5 rfl) rfl (Am (A4 (Bt ?_))))));refine Al (Aj (AA (Ak rfl) rfl (C6 Tryz.call122 rfl (λw hw=>ZQ m (by omega) (by omega) w (hE.st0 hw)) rfl (AA (A5 rfl) rfl (Am (A4 (Bt ?_)))))));refine Ap (Ar (BE rfl rfl) ?_);exact IJ (by first | rfl | simp[])
theorem Abi (p:List UInt8)(hp:p.length≤281474976710656)(w:World)(hE:Xm w):Calls Tryz.prog 98 [.string (B (p))].toArray w (KD w (.tuple #[.int .i64 (C7 p),.int .i64 (E1 p)])):=by
 refine GX (n:=22) Tryz.func98 rfl Tryz.ntmps98 rfl (Al (Aj (AA (A5 rfl) rfl (AA (A5 rfl) rfl (Am (A4 (Bt ?_)))))));refine Al (Al (Aj (AA (Ak rfl) rfl (C6 Tryz.call146 rfl (λw hw=>Yr p (by first | omega | (simp;done) | (simp;omega) | (simp at *;omega)) w) rfl (AA (Cc rfl) rfl (Am (A4 (Bt ?_))))))));refine E5 (b:=!(SL p)) rfl (λhd=>?_) (λhd=>?_)
 ·have hg:=hd;try simp only[AeX,AeY] at hg
  have hb:=hd;try simp only[AeX,AeY,Afb,Af7,Af0,AfT,AfW,AfF,not_or,Int.not_lt,Int.not_le] at hb
  refine Al (Aj (AA (A5 rfl) rfl (AA (A5 rfl) rfl (Am (A4 (Bt ?_))))));refine Ap (Ac (Ar (IO rfl rfl rfl) ?_));exact IJ (by simp[C7,E1,hb])
 ·have hg:=hd;try simp only[AeX,AeY] at hg
  have hb:=hd;try simp only[AeX,AeY,Afb,Af7,Af0,AfT,AfW,AfF,not_or,Int.not_lt,Int.not_le] at hb
  refine Ax (A4 (Bt ?_));refine Al (Aj (AA (Ak rfl) rfl ?_));rcases Aa3 (p:=p) (by assumption) with⟨av,hav,hal,hah⟩ | hav
  ·refine C6 Tryz.call147 rfl (λw _=>Aca p (by first | omega | (simp;done) | (simp;omega) | (simp at *;omega)) av hav w) rfl (AA (Ak rfl) rfl (AA (A6 rfl rfl) rfl (AA (A6 rfl rfl) rfl (AA (A5 rfl) rfl (AA (A5 rfl) rfl (Am (A4 (Bt ?_))))))));refine Al (AC [(2,.int .i64 (0)),(3,.int .i64 (0)),(4,.int .i64 (av)),(20,.bool (!(PB av)))] [] (φ:=True) ?_ (λhi=>?_))
   ·exact Aj (AA (Ak rfl) rfl (AA (TT Tryz.underlying198 rfl) rfl (AA (Ak rfl) rfl (Bd rfl rfl rfl (AA (Ak rfl) rfl (Bd rfl rfl rfl (C6 Tryz.call142 rfl (λw hw=>AaM av w) rfl (Bd rfl rfl rfl (AA (Cc rfl) rfl (AA (Av rfl rfl rfl) rfl (Am (A4 (BL trivial ⟨rfl,rfl,rfl,rfl,trivial⟩ .slnil)))))))))))))
   refine E5 (b:=!(PB av)) rfl (λhe=>?_) (λhe=>?_)
   ·have hh:=he;try simp only[AeX,AeY] at hh
    have hf:=he;try simp only[AeX,AeY,Afb,Af7,Af0,AfT,AfW,AfF,not_or,Int.not_lt,Int.not_le] at hf
    refine Al (Aj (AA (A5 rfl) rfl (AA (A5 rfl) rfl (Am (A4 (Bt ?_))))));refine Ap (Ac (Ar (IO rfl rfl rfl) ?_));exact IJ (by simp[C7,E1,hav,hb,hf])
   ·have hh:=he;try simp only[AeX,AeY] at hh
    have hf:=he;try simp only[AeX,AeY,Afb,Af7,Af0,AfT,AfW,AfF,not_or,Int.not_lt,Int.not_le] at hf
    refine Ax (A4 (Bt ?_));refine Al (Aj (AA (Ak rfl) rfl (AA (A5 rfl) rfl (AA (A5 rfl) rfl (Am (A4 (Bt ?_)))))));refine Ap (Ar (IO rfl rfl rfl) ?_);exact IJ (by simp[C7,E1,hav,hb,hf])
  ·refine Wh Tryz.call147 rfl (λw hw=>VT p (by first | omega | (simp;done) | (simp;omega) | (simp at *;omega)) hav w (hE.st0 hw)) rfl ?_;rintro _ _ ⟨am,at_,ab,rfl,rfl⟩;refine AA (Ak rfl) rfl (AA (A6 rfl rfl) rfl (AA (A6 rfl rfl) rfl (AA (A5 rfl) rfl (AA (A5 rfl) rfl (Am (A4 (Bt ?_)))))));refine Al (AC [(2,.int .i64 (0)),(3,.int .i64 (0)),(4,.int .i64 (am)),(20,.bool (true))] [] (φ:=True) ?_ (λhj=>?_))
   ·exact Aj (AA (Ak rfl) rfl (AA (Abr Tryz.underlying198 rfl) rfl (AA (Ak rfl) rfl (AL rfl rfl rfl rfl (AL rfl rfl rfl rfl (AL rfl rfl rfl rfl (AA (AB rfl rfl rfl) rfl (Am (A4 (BL trivial ⟨rfl,rfl,rfl,rfl,trivial⟩ .slnil))))))))))
   refine CG rfl rfl (Al (Aj (AA (A5 rfl) rfl (AA (A5 rfl) rfl (Am (A4 (Bt ?_)))))));refine Ap (Ac (Ar (IO rfl rfl rfl) ?_));exact IJ (by simp[C7,E1,hav,hb])
end Go.Proofs.YtmjlemhondjfhaaGreatDoor
namespace Go.Proofs
open Go.Shelf
def Tryz.lays169_ren:Go.Shelf.Ren:=⟨fun | 169=>120 | n=>n,fun | 70=>174 | 9=>9 | 0=>0 | 72=>177 | 37=>175 | 127=>213 | 3=>3 | 5=>5 | n=>n,fun | n=>n⟩
theorem Tryz.lays169:Go.Proofs.Lays.n169 Tryz.prog Tryz.lays169_ren:={
 mixed:=by kernel_rfl
 f169:=Tryz.func120.trans (congrArg some (by kernel_rfl))
 t0:=Tryz.underlying0
 a0:=Tryz.isAgg0
 z0:=Tryz.sizeOf0
 v0:=Tryz.zeroValue0
 t3:=Tryz.underlying3
 a3:=Tryz.isAgg3
 z3:=Tryz.sizeOf3
 v3:=Tryz.zeroValue3
 t9:=Tryz.underlying9
 a9:=Tryz.isAgg9
 z9:=Tryz.sizeOf9
 v9:=Tryz.zeroValue9
 t37:=Tryz.underlying175
 a37:=Tryz.isAgg175
 z37:=Tryz.sizeOf175
 v37:=Tryz.zeroValue175
 t70:=Tryz.underlying174
 a70:=Tryz.isAgg174
 z70:=Tryz.sizeOf174
 v70:=Tryz.zeroValue174
 t72:=Tryz.underlying177
 a72:=Tryz.isAgg177
 z72:=Tryz.sizeOf177
 v72:=Tryz.zeroValue177
 t127:=Tryz.underlying213
 a127:=Tryz.isAgg213
 z127:=Tryz.sizeOf213
 v127:=Tryz.zeroValue213 }
theorem Tryz.Builder_Extra_169:Builder.Extra Tryz.prog Tryz.lays169_ren:={
 sizeBuilder:=by kernel_rfl
 liesBuilder:=by kernel_rfl
 t5:=Tryz.underlying5
 a5:=Tryz.isAgg5
 z5:=Tryz.sizeOf5
 v5:=Tryz.zeroValue5
 infoByte:=by kernel_rfl
 cellsByte:=by kernel_rfl
 sizeByte:=by kernel_rfl
 neB5:=by decide }
open Go.RowKit in
theorem Tryz.Builder_String_any (B b:Nat)(l:List UInt8)(w:World)(h:Lib.IsBuilder 177 5 B b (Lib.byteCells l) w)(hBw:B≤w.heap.size) :
  Calls Tryz.prog 120 #[.pointer (some ⟨b,0,none⟩)] w λe w'=>e = .returned (.string ⟨l.toArray⟩)∧Below B w w':=Any.Builder_String_any Tryz.lays169 Tryz.Builder_Extra_169 B b l w h hBw
def Tryz.lays138_ren:Go.Shelf.Ren:=⟨fun | 138=>179 | 195=>204 | 218=>205 | 143=>206 | 219=>180 | 217=>207 | 225=>208 | 224=>209 | 267=>210 | 266=>231 | 314=>232 | n=>n,fun | 9=>9 | 3=>3 | 4=>4 | 5=>5 | 0=>0 | 46=>196 | 146=>254 | 51=>229 | n=>n,fun | 1=>0 | n=>n⟩
theorem Tryz.lays138:Go.Proofs.Lays.n138 Tryz.prog Tryz.lays138_ren:={
 mixed:=by kernel_rfl
 f138:=Tryz.func179.trans (congrArg some (by kernel_rfl))
 f143:=Tryz.func206.trans (congrArg some (by kernel_rfl))
 f195:=Tryz.func204.trans (congrArg some (by kernel_rfl))
 f217:=Tryz.func207.trans (congrArg some (by kernel_rfl))
 f218:=Tryz.func205.trans (congrArg some (by kernel_rfl))
 f219:=Tryz.func180.trans (congrArg some (by kernel_rfl))
 f224:=Tryz.func209.trans (congrArg some (by kernel_rfl))
 f225:=Tryz.func208.trans (congrArg some (by kernel_rfl))
 f266:=Tryz.func231.trans (congrArg some (by kernel_rfl))
 f267:=Tryz.func210.trans (congrArg some (by kernel_rfl))
 f314:=Tryz.func232.trans (congrArg some (by kernel_rfl))
 t0:=Tryz.underlying0
 a0:=Tryz.isAgg0
 z0:=Tryz.sizeOf0
 v0:=Tryz.zeroValue0
 t3:=Tryz.underlying3
 a3:=Tryz.isAgg3
 z3:=Tryz.sizeOf3
 v3:=Tryz.zeroValue3
 t4:=Tryz.underlying4
 a4:=Tryz.isAgg4
 z4:=Tryz.sizeOf4
 v4:=Tryz.zeroValue4
 t5:=Tryz.underlying5
 a5:=Tryz.isAgg5
 z5:=Tryz.sizeOf5
 v5:=Tryz.zeroValue5
 t9:=Tryz.underlying9
 a9:=Tryz.isAgg9
 z9:=Tryz.sizeOf9
 v9:=Tryz.zeroValue9
 t46:=Tryz.underlying196
 a46:=Tryz.isAgg196
 z46:=Tryz.sizeOf196
 v46:=Tryz.zeroValue196
 t51:=Tryz.underlying229
 a51:=Tryz.isAgg229
 z51:=Tryz.sizeOf229
 v51:=Tryz.zeroValue229
 t146:=Tryz.underlying254
 a146:=Tryz.isAgg254
 z146:=Tryz.sizeOf254
 v146:=Tryz.zeroValue254
 g1:=by kernel_rfl }
open Go.RowKit Go.Lib in
theorem Tryz.strings_Count_one (s:ByteArray)(c:UInt8)(w:World) :
  Calls Tryz.prog 179 #[.string s,.string ⟨#[c]⟩] w λe w'=>e = .returned (.int .i64 (Lib.countByte s.data.toList c))∧w'=w:=Any.strings_Count_one Tryz.lays138 s c w
end Go.Proofs
namespace Go.Proofs.YtmjlemhondjfhaaGreatDoor
open Go
set_option linter.unusedVariables false
set_option linter.unusedSimpArgs false
theorem Acb {f:Nat→UInt8→Bool}{t:Int→Bool}{p:List UInt8}{k:Nat}(hf:∀u:UInt8,f k u=t u.toNat){c:Bool}(hi:k≤p.length∧c=B5 f k (p.drop k))(h:(k:Int)<p.length)(ht:t (Cs p k)=true) :
  k+1≤p.length∧c=B5 f (k+1) (p.drop (k+1)):=by
 obtain⟨u,hu⟩:=LE h;rw[SP hu] at ht;have hk:k<p.length:=by omega
 refine⟨by omega,?_⟩;rw[hi.2,LH hu];simp[B5,hf,ht]
theorem Aej {f:Nat→UInt8→Bool}{t:Int→Bool}{p:List UInt8}{k:Nat}(hf:∀u:UInt8,f k u=t u.toNat){c:Bool}(hi:k≤p.length∧c=B5 f k (p.drop k))(h:(k:Int)<p.length)(ht:t (Cs p k)=false):c=false:=by
 obtain⟨u,hu⟩:=LE h;rw[SP hu] at ht;rw[hi.2,LH hu];simp[B5,hf,ht]
theorem Adt {f:Nat→UInt8→Bool}{p:List UInt8}{k:Nat}{c:Bool}(hi:k≤p.length∧c=B5 f k (p.drop k))(h : ¬ (k:Int)<p.length):c=true:=by
 rw[hi.2,List.drop_of_length_le (by omega)];rfl
def S6 (c:Int):Bool:=Cq c||(Da c||(decide (c=45)||decide (c=95)))
theorem Qq {k:Nat}(hk:1≤k)(u:UInt8):DT k u=S6 u.toNat:=by
 have:decide (k=0)=false:=by simp;omega
 simp only[DT,S6,this]
 cases Cq u.toNat<;>cases Da u.toNat<;>simp
theorem Abu {p:List UInt8}(h:(!(decide ((p.length:Int)<1)||(decide ((24:Int)<p.length)||!Cq (Cs p 0))))=true):1≤p.length∧CK p=B5 DT 1 (p.drop 1):=by
 simp only[Af0,AfF,AeY,AfT] at h;obtain⟨h1,h2,h3⟩:=h
 cases p with
 | nil=>simp at h1
 | cons u r=>
  have h4:Cq u.toNat=true:=h3;refine⟨by simp,?_⟩;have h5:r.length+1≤24:=by simp at h2;omega
  simp[CK,B5,DT,h4,h5]
theorem Z8 {p:List UInt8}(h:(decide ((p.length:Int)<1)||(decide ((24:Int)<p.length)||!Cq (Cs p 0)))=true):CK p=false:=by
 simp only[Af7,AeX,Af0] at h;rcases h with h | h | h
 ·simp[CK];omega
 ·simp[CK];omega
 ·cases p with
  | nil=>rfl
  | cons u r=>
   have h4:Cq u.toNat=false:=h;simp[CK,B5,DT,h4]
open Go Go.RowKit
section
variable {P : Program} {n : Nat} {w0 : World} {M : List Nat} {l : Fr} {H : List Ent} {d : Option Nat} {x y : Operand} {ty t t' : TypeId} {pos : String} {af : Array Edge} {g : Option (Nat × Bool)} {k : IntKind} {p q z : Int}
end
set_option maxRecDepth 100000
theorem AcQ (p:List UInt8)(hp:p.length≤281474976710656)(w:World):Calls Tryz.prog 100 [.string (B (p))].toArray w (KD w (.bool (CK p))):=by
 refine GX (n:=48) Tryz.func100 rfl Tryz.ntmps100 rfl (Al (Aj (AA (A5 rfl) rfl (Am (A4 (Bt ?_))))));refine Al (AC [(0,.string (B (p))),(2,.bool (false)),(17,.bool (((decide (((p.length:Int))<(1)))||((decide ((24)<((p.length:Int))))||(!(Cq (Cs p 0)))))))] [] (φ:=True) ?_ (λh4=>?_))
 ·refine Aj (AA (Ak rfl) rfl (AA (BO Dx rfl) rfl (AA (C1 rfl rfl) rfl (AA (Ak rfl) rfl (AU (decide (((p.length:Int))<(1))) (λhh=>?_) (λhh=>?_))))))
  ·have hl:=hh;try simp only[AeX,AeY] at hl
   have hm:=hh;try simp at hm
   refine AL rfl rfl hh rfl (AL rfl rfl hh rfl (AL rfl rfl hh rfl (AA (AB rfl hh rfl) rfl (AA (Ak rfl) rfl (AL rfl rfl rfl rfl (AL rfl rfl rfl rfl (AL rfl rfl rfl rfl (AL rfl rfl rfl rfl (AA (AB rfl rfl rfl) rfl (Am ?_))))))))));exact A4 (BL trivial ⟨rfl,rfl,fb (by first | (simp only[hh,Afo,Afr,Afx,Afq,Aft,Afs,Afv,Afu,Afe,Afn,Afi,Afc,Af9,Af3,reduceIte,Afm];done) | simp[hh]),trivial⟩ .slnil)
  ·have hl:=hh;try simp only[AeX,AeY] at hl
   have hm:=hh;try simp at hm
   refine Bd rfl rfl hh (AA (Ak rfl) rfl (Bd rfl rfl hh (AA (BO Dx rfl) rfl (Bd rfl rfl hh (AA (Ee rfl rfl) rfl (AA (Av rfl hh rfl) rfl (AA (Ak rfl) rfl (AU (decide ((24)<((p.length:Int)))) (λhi=>?_) (λhi=>?_)))))))))
   ·have hn:=hi;try simp only[AeX,AeY] at hn
    have hq:=hi;try simp at hq
    refine AL rfl rfl hi rfl (AL rfl rfl hi rfl (AL rfl rfl hi rfl (AL rfl rfl hi rfl (AA (AB rfl hi rfl) rfl (Am ?_)))));exact A4 (BL trivial ⟨rfl,rfl,fb (by first | (simp only[hh,hi,Afo,Afr,Afx,Afq,Aft,Afs,Afv,Afu,Afe,Afn,Afi,Afc,Af9,Af3,reduceIte,Afm];done) | simp[hh,hi]),trivial⟩ .slnil)
   ·have hn:=hi;try simp only[AeX,AeY] at hn
    have hq:=hi;try simp at hq
    refine Bd rfl rfl hi (AA (Ak rfl) rfl (Bd rfl rfl hi (AA (BR Dx rfl rfl (by first | omega | (simp;omega) | (simp at *;omega)) (by first | omega | (simp;omega) | (simp at *;omega))) rfl (Bd rfl rfl hi (C6 Tryz.call148 rfl (λw hw=>Wp (Cs p 0) w) rfl (Bd rfl rfl hi (AA (Cc rfl) rfl (AA (Av rfl hi rfl) rfl (Am ?_)))))))));exact A4 (BL trivial ⟨rfl,rfl,fb (by first | (simp only[hh,hi,Afo,Afr,Afx,Afq,Aft,Afs,Afv,Afu,Afe,Afn,Afi,Afc,Af9,Af3,reduceIte,Afm];done) | simp[hh,hi]),trivial⟩ .slnil)
 refine E5 (b:=((decide (((p.length:Int))<(1)))||((decide ((24)<((p.length:Int))))||(!(Cq (Cs p 0)))))) rfl (λhd=>?_) (λhd=>?_)
 ·have hr:=hd;try simp only[AeX,AeY] at hr
  have hs:=hd;try simp at hs
  refine Al (Aj (AA (A5 rfl) rfl (Am (A4 (Bt ?_)))));refine Ap (Ac (Ar (BE rfl rfl) ?_));exact IJ (by rw[Z8 hd])
 ·have hr:=hd;try simp only[AeX,AeY] at hr
  have hs:=hd;try simp at hs
  refine Ax (A4 (Bt ?_));refine Al (Al (Aj (AA (A5 rfl) rfl (Am (A4 (Bt ?_))))));refine AF (Lx (S:=Nat) (λ(k:Nat)=>1≤k∧(k≤p.length∧CK p=B5 DT k (p.drop k))) (λ(k:Nat)=>[(3,.int .i64 ((k:Int))),(0,.string (B (p)))]) (λ(k:Nat)=>[]) (λ(k:Nat)=>p.length-k) (1) ?_ ⟨fi (by first | rfl | (simp;done) | omega | (simp;omega)),rfl,trivial⟩ .slnil ?_)
  ·exact⟨Afy _,Abu (by simp[hd])⟩
  rintro k hi0;have hk1:=hi0.1;refine Al (Al (Aj (AA (Ak rfl) rfl (AA (Ak rfl) rfl (AA (BO Dx rfl) rfl (AA (C1 rfl rfl) rfl (Am (A4 (Bt ?_)))))))));refine E5 (b:=decide (((k:Int))<((p.length:Int)))) rfl (λhe=>?_) (λhe=>?_)
  ·have hk:=he;try simp only[AeX,AeY] at hk
   have ht:=he;try simp at ht
   refine Ax (A4 (Bt ?_));refine Al (AF (AC [(0,.string (B (p))),(3,.int .i64 ((k:Int))),(18,.int .i64 ((k:Int))),(19,.string (B (p))),(20,.int .i64 ((p.length:Int))),(21,.bool (decide (((k:Int))<((p.length:Int))))),(24,.string (B (p))),(25,.int .i64 ((k:Int))),(26,.int .u8 (Cs p (k:Int))),(27,.bool (Cq (Cs p (k:Int)))),(28,.bool (!(Cq (Cs p (k:Int))))),(29,.bool (!(Cq (Cs p (k:Int))))),(35,.bool (((!(Cq (Cs p (k:Int))))&&(!(Da (Cs p (k:Int))))))),(36,.bool (((!(Cq (Cs p (k:Int))))&&(!(Da (Cs p (k:Int))))))),(41,.bool (((!(Cq (Cs p (k:Int))))&&((!(Da (Cs p (k:Int))))&&(!(decide ((Cs p (k:Int))=(45)))))))),(42,.bool (((!(Cq (Cs p (k:Int))))&&((!(Da (Cs p (k:Int))))&&(!(decide ((Cs p (k:Int))=(45)))))))),(47,.bool (((!(Cq (Cs p (k:Int))))&&((!(Da (Cs p (k:Int))))&&((!(decide ((Cs p (k:Int))=(45))))&&(!(decide ((Cs p (k:Int))=(95)))))))))] [] (φ:=True) ?_ (λh5=>?_)))
   ·refine Aj (AA (Ak rfl) rfl (AA (Ak rfl) rfl (AA (BR Dx rfl rfl (by first | omega | (simp;omega) | (simp at *;omega)) (by first | omega | (simp;omega) | (simp at *;omega))) rfl (C6 Tryz.call148 rfl (λw hw=>Wp (Cs p (k:Int)) w) rfl (AA (Cc rfl) rfl (AA (Ak rfl) rfl (AU (!(Cq (Cs p (k:Int)))) (λhb=>?_) (λhb=>?_))))))))
    ·have hu:=hb;try simp only[AeX,AeY] at hu
     have hx:=hb;try simp at hx
     refine Bd rfl rfl hb (AA (Ak rfl) rfl (Bd rfl rfl hb (AA (Ak rfl) rfl (Bd rfl rfl hb (AA (BR Dx rfl rfl (by first | omega | (simp;omega) | (simp at *;omega)) (by first | omega | (simp;omega) | (simp at *;omega))) rfl (Bd rfl rfl hb (C6 Tryz.call149 rfl (λw hw=>AbR (Cs p (k:Int)) w) rfl (Bd rfl rfl hb (AA (Cc rfl) rfl (AA (AB rfl hb rfl) rfl (AA (Ak rfl) rfl (AU (!(Da (Cs p (k:Int)))) (λhf=>?_) (λhf=>?_)))))))))))))
     ·have hy:=hf;try simp only[AeX,AeY] at hy
      have hz:=hf;try simp at hz
      refine Bd rfl rfl hf (AA (Ak rfl) rfl (Bd rfl rfl hf (AA (Ak rfl) rfl (Bd rfl rfl hf (AA (BR Dx rfl rfl (by first | omega | (simp;omega) | (simp at *;omega)) (by first | omega | (simp;omega) | (simp at *;omega))) rfl (Bd rfl rfl hf (AA (Ct rfl rfl) rfl (AA (AB rfl hf rfl) rfl (AA (Ak rfl) rfl (AU (!(decide ((Cs p (k:Int))=(45)))) (λhg=>?_) (λhg=>?_)))))))))))
      ·have h0:=hg;try simp only[AeX,AeY] at h0
       have h1:=hg;try simp at h1
       refine Bd rfl rfl hg (AA (Ak rfl) rfl (Bd rfl rfl hg (AA (Ak rfl) rfl (Bd rfl rfl hg (AA (BR Dx rfl rfl (by first | omega | (simp;omega) | (simp at *;omega)) (by first | omega | (simp;omega) | (simp at *;omega))) rfl (Bd rfl rfl hg (AA (Ct rfl rfl) rfl (AA (AB rfl hg rfl) rfl (Am ?_)))))))));exact A4 (BL trivial ⟨rfl,rfl,rfl,rfl,rfl,rfl,rfl,rfl,rfl,rfl,rfl,rfl,fb (by first | (simp only[hd,he,hb,hf,hg,Afo,Afr,Afx,Afq,Aft,Afs,Afv,Afu,Afe,Afn,Afi,Afc,Af9,Af3,reduceIte,Afm];done) | simp[hd,he,hb,hf,hg]),fb (by first | (simp only[hd,he,hb,hf,hg,Afo,Afr,Afx,Afq,Aft,Afs,Afv,Afu,Afe,Afn,Afi,Afc,Af9,Af3,reduceIte,Afm];done) | simp[hd,he,hb,hf,hg]),fb (by first | (simp only[hd,he,hb,hf,hg,Afo,Afr,Afx,Afq,Aft,Afs,Afv,Afu,Afe,Afn,Afi,Afc,Af9,Af3,reduceIte,Afm];done) | simp[hd,he,hb,hf,hg]),fb (by first | (simp only[hd,he,hb,hf,hg,Afo,Afr,Afx,Afq,Aft,Afs,Afv,Afu,Afe,Afn,Afi,Afc,Af9,Af3,reduceIte,Afm];done) | simp[hd,he,hb,hf,hg]),fb (by first | (simp only[hd,he,hb,hf,hg,Afo,Afr,Afx,Afq,Aft,Afs,Afv,Afu,Afe,Afn,Afi,Afc,Af9,Af3,reduceIte,Afm];done) | simp[hd,he,hb,hf,hg]),trivial⟩ .slnil)
      ·have h0:=hg;try simp only[AeX,AeY] at h0
       have h1:=hg;try simp at h1
       refine AL rfl rfl hg rfl (AL rfl rfl hg rfl (AL rfl rfl hg rfl (AL rfl rfl hg rfl (AA (Av rfl hg rfl) rfl (Am ?_)))));exact A4 (BL trivial ⟨rfl,rfl,rfl,rfl,rfl,rfl,rfl,rfl,rfl,rfl,rfl,rfl,fb (by first | (simp only[hd,he,hb,hf,hg,Afo,Afr,Afx,Afq,Aft,Afs,Afv,Afu,Afe,Afn,Afi,Afc,Af9,Af3,reduceIte,Afm];done) | simp[hd,he,hb,hf,hg]),fb (by first | (simp only[hd,he,hb,hf,hg,Afo,Afr,Afx,Afq,Aft,Afs,Afv,Afu,Afe,Afn,Afi,Afc,Af9,Af3,reduceIte,Afm];done) | simp[hd,he,hb,hf,hg]),fb (by first | (simp only[hd,he,hb,hf,hg,Afo,Afr,Afx,Afq,Aft,Afs,Afv,Afu,Afe,Afn,Afi,Afc,Af9,Af3,reduceIte,Afm];done) | simp[hd,he,hb,hf,hg]),fb (by first | (simp only[hd,he,hb,hf,hg,Afo,Afr,Afx,Afq,Aft,Afs,Afv,Afu,Afe,Afn,Afi,Afc,Af9,Af3,reduceIte,Afm];done) | simp[hd,he,hb,hf,hg]),fb (by first | (simp only[hd,he,hb,hf,hg,Afo,Afr,Afx,Afq,Aft,Afs,Afv,Afu,Afe,Afn,Afi,Afc,Af9,Af3,reduceIte,Afm];done) | simp[hd,he,hb,hf,hg]),trivial⟩ .slnil)
     ·have hy:=hf;try simp only[AeX,AeY] at hy
      have hz:=hf;try simp at hz
      refine AL rfl rfl hf rfl (AL rfl rfl hf rfl (AL rfl rfl hf rfl (AL rfl rfl hf rfl (AA (Av rfl hf rfl) rfl (AA (Ak rfl) rfl (AL rfl rfl rfl rfl (AL rfl rfl rfl rfl (AL rfl rfl rfl rfl (AL rfl rfl rfl rfl (AA (Av rfl rfl rfl) rfl (Am ?_)))))))))));exact A4 (BL trivial ⟨rfl,rfl,rfl,rfl,rfl,rfl,rfl,rfl,rfl,rfl,rfl,rfl,fb (by first | (simp only[hd,he,hb,hf,Afo,Afr,Afx,Afq,Aft,Afs,Afv,Afu,Afe,Afn,Afi,Afc,Af9,Af3,reduceIte,Afm];done) | simp[hd,he,hb,hf]),fb (by first | (simp only[hd,he,hb,hf,Afo,Afr,Afx,Afq,Aft,Afs,Afv,Afu,Afe,Afn,Afi,Afc,Af9,Af3,reduceIte,Afm];done) | simp[hd,he,hb,hf]),fb (by first | (simp only[hd,he,hb,hf,Afo,Afr,Afx,Afq,Aft,Afs,Afv,Afu,Afe,Afn,Afi,Afc,Af9,Af3,reduceIte,Afm];done) | simp[hd,he,hb,hf]),fb (by first | (simp only[hd,he,hb,hf,Afo,Afr,Afx,Afq,Aft,Afs,Afv,Afu,Afe,Afn,Afi,Afc,Af9,Af3,reduceIte,Afm];done) | simp[hd,he,hb,hf]),fb (by first | (simp only[hd,he,hb,hf,Afo,Afr,Afx,Afq,Aft,Afs,Afv,Afu,Afe,Afn,Afi,Afc,Af9,Af3,reduceIte,Afm];done) | simp[hd,he,hb,hf]),trivial⟩ .slnil)
    ·have hu:=hb;try simp only[AeX,AeY] at hu
     have hx:=hb;try simp at hx
     refine AL rfl rfl hb rfl (AL rfl rfl hb rfl (AL rfl rfl hb rfl (AL rfl rfl hb rfl (AL rfl rfl hb rfl (AA (Av rfl hb rfl) rfl (AA (Ak rfl) rfl (AL rfl rfl rfl rfl (AL rfl rfl rfl rfl (AL rfl rfl rfl rfl (AL rfl rfl rfl rfl (AA (Av rfl rfl rfl) rfl (AA (Ak rfl) rfl (AL rfl rfl rfl rfl (AL rfl rfl rfl rfl (AL rfl rfl rfl rfl (AL rfl rfl rfl rfl (AA (Av rfl rfl rfl) rfl (Am ?_))))))))))))))))));exact A4 (BL trivial ⟨rfl,rfl,rfl,rfl,rfl,rfl,rfl,rfl,rfl,rfl,rfl,rfl,fb (by first | (simp only[hd,he,hb,Afo,Afr,Afx,Afq,Aft,Afs,Afv,Afu,Afe,Afn,Afi,Afc,Af9,Af3,reduceIte,Afm];done) | simp[hd,he,hb]),fb (by first | (simp only[hd,he,hb,Afo,Afr,Afx,Afq,Aft,Afs,Afv,Afu,Afe,Afn,Afi,Afc,Af9,Af3,reduceIte,Afm];done) | simp[hd,he,hb]),fb (by first | (simp only[hd,he,hb,Afo,Afr,Afx,Afq,Aft,Afs,Afv,Afu,Afe,Afn,Afi,Afc,Af9,Af3,reduceIte,Afm];done) | simp[hd,he,hb]),fb (by first | (simp only[hd,he,hb,Afo,Afr,Afx,Afq,Aft,Afs,Afv,Afu,Afe,Afn,Afi,Afc,Af9,Af3,reduceIte,Afm];done) | simp[hd,he,hb]),fb (by first | (simp only[hd,he,hb,Afo,Afr,Afx,Afq,Aft,Afs,Afv,Afu,Afe,Afn,Afi,Afc,Af9,Af3,reduceIte,Afm];done) | simp[hd,he,hb]),trivial⟩ .slnil)
   refine E5 (b:=((!(Cq (Cs p (k:Int))))&&((!(Da (Cs p (k:Int))))&&((!(decide ((Cs p (k:Int))=(45))))&&(!(decide ((Cs p (k:Int))=(95)))))))) rfl (λhj=>?_) (λhj=>?_)
   ·have h2:=hj;try simp only[AeX,AeY] at h2
    have h3:=hj;try simp at h3
    refine Al (Aj (AA (A5 rfl) rfl (Am (A4 (Bt ?_)))));refine Ap (A0 (Ac (Ac (A0 (Ac (Ar (BE rfl rfl) ?_))))));exact IJ (by rw[Aej (Qq hi0.1) hi0.2 hk (by simp only[S6];revert hj;cases Cq (Cs p ↑k)<;>cases Da (Cs p ↑k)<;>simp)])
   ·have h2:=hj;try simp only[AeX,AeY] at h2
    have h3:=hj;try simp at h3
    refine Ax (AH (A4 (Bt ?_)));refine Aj (AA (Ak rfl) rfl (AA (BA rfl rfl (IntWalk.i64_in _ (by omega))) rfl (AA (A5 rfl) rfl (Am (A4 (AK (k+1) ?_ ⟨fi (by first | rfl | (simp;done) | omega | (simp;omega)),rfl,trivial⟩ .slnil))))));exact⟨⟨by omega,Acb (Qq hi0.1) hi0.2 hk (by simp only[S6];revert hj;cases Cq (Cs p ↑k)<;>cases Da (Cs p ↑k)<;>simp<;>omega)⟩,by omega⟩
  ·have hk:=he;try simp only[AeX,AeY] at hk
   have ht:=he;try simp at ht
   refine B4 (Ay (Ay (Bm (A4 (Bt ?_)))));refine Al (Aj (AA (A5 rfl) rfl (Am (A4 (Bt ?_)))));refine Ap (Ar (BE rfl rfl) ?_);exact IJ (by rw[Adt hi0.2 hk])
end Go.Proofs.YtmjlemhondjfhaaGreatDoor
namespace Go.Proofs
open Go.Shelf
end Go.Proofs
namespace Go.Proofs.YtmjlemhondjfhaaGreatDoor.Q
open Go Go.RowKit
set_option linter.unusedVariables false
def GE (Z:Fz):Prop:=∀w,Xl Z w→Xm w
theorem GE.mono {Z Z':Fz}(h:Fz.le Z Z')(hg:GE Z):GE Z':=λw hw=>hg w ⟨λb o e=>hw b o (h b o e),λk i b e=>hw.nm k i b (h.nm k i b e)⟩
theorem Mf.rle {P:Program}{E:Fz→Prop}{f:FuncId}{args:List Rp}{r r':Rp}(h:Mf P E f args r)(hr:Hb r r'):Mf P E f args r':=λw Z vs hv hs=>
 (h w Z vs hv hs).mono λe w' ⟨q,v,H,Z',he,⟨hq,hH⟩,hp,ht⟩=>⟨r',v,H,Z',he,⟨rfl,hH⟩,hr Z' v (hq▸hp),ht⟩
theorem Hb.tup2 {a b:Value}:Hb (rv (.tuple #[a,b])) (Dz [rv a,rv b]):=λZ v h=>⟨[a,b],h,rfl,rfl,trivial⟩
theorem Mf.of_id {P:Program}{E:Fz→Prop}{f:FuncId}{vs:List Value}{v:Value}(h:∀w,Calls P f vs.toArray w (λe w'=>e = .returned v∧w'=w)):Mf P E f (vs.map rv) (rv v):=
 Mf.of_old λw Z _ _=>(h w).mono λe w' ⟨he,hw⟩=>⟨he,by rw[hw];exact Proofs.YtmjlemhondjfhaaGreatDoor.St.refl w []⟩
theorem UD (m:Int)(g:BM .i64 m=true):Mf Tryz.prog GE 163 [rI .i64 m] (rS (Lib.itoa m)):=Mf.of_old (vs:=[.int .i64 m]) λw Z hf he=>Aal m (IW g).1 (IW g).2 w (he w hf)
theorem Adb (m:Int)(g:BM .i64 m=true):Mf Tryz.prog GE 122 [rI .i64 m] (rS (Lib.itoa m)):=Mf.of_old (vs:=[.int .i64 m]) λw Z hf he=>ZQ m (IW g).1 (IW g).2 w (he w hf)
theorem W2 (s:Ah)(g:DE 1 s.length=true):Mf Tryz.prog GE 98 [rS s] (Dz [rI .i64 (C7 s),rI .i64 (E1 s)]):=(Mf.of_old (vs:=[.string (B s)]) λw Z hf he=>Abi s (by simp[DE] at g;omega) w (he w hf)).rle Hb.tup2
theorem SM (s:Ah)(c:UInt8):Mf Tryz.prog GE 179 [rS s,rS [c]] (rI .i64 (Lib.countByte s c)):=Mf.of_id (vs:=[.string (B s),.string (B [c])]) λw=>by have:=Tryz.strings_Count_one (B s) c w;rwa [VX] at this
theorem Acq (s:Ah)(m:Int):Mf Tryz.prog GE 207 [rS s,rI .u8 m] (rI .i64 (Lib.indexByte s (Int.toNat m).toUInt8)):=Mf.of_old (vs:=[.string (B s),.int .u8 m]) λw Z hf he=>Uy s m w
theorem AbF (s:Ah):Mf Tryz.prog GE 115 [rS s] (rB (Nu s)):=Mf.of_old (vs:=[.string (B s)]) λw Z hf he=>AeF s w
theorem Qn (s:Ah):Mf Tryz.prog GE 85 [rS s] (rB (CK s)):=Mf.of_old (vs:=[.string (B s)]) λw Z hf he=>AcR s w
theorem WB (s:Ah)(g:DE 1 s.length=true):Mf Tryz.prog GE 100 [rS s] (rB (CK s)):=Mf.of_old (vs:=[.string (B s)]) λw Z hf he=>AcQ s (by simp[DE] at g;omega) w
open Go Go.RowKit Go.ChangeShapes Go.Deep
set_option linter.unusedSimpArgs false
def ZW (W:World):Fz:=⟨λb=>W.heap[b]?,λ_ _=>none⟩
theorem ZW.frz (W:World):Xl (ZW W) W:=⟨λ_ _ h=>h,λ_ _ _ h=>by cases h⟩
def ST (P:Program)(e:TypeId){α:Type}(enc:α→List Rp)(ok:α→Bool):Prop:=
 ∀{H:Type} {encH:TypeId×Value→H} {W:World} {sp:Nat→Bool} {held:Bool} {n:Nat} {cs:List Value} {x:DataW H×List MemPlace},DataW.trod encH P W 0 sp held n e cs=some x→∃y:α,ok y=true∧B8 (ZW W) (enc y) cs
section
variable {P : Program} {e t : TypeId}
theorem ST.int {k:IntKind}{enc:Int→List Rp}(ht:P.underlying e=some (.int k))(he:∀n,enc n=[rI k n]):ST P e enc (BM k):=λh=>by
 obtain⟨n,rfl,_,hwf⟩:=DataW.trod_int ht h;exact⟨n,hwf,by rw[he];exact⟨rfl,trivial⟩⟩
theorem ST.str {enc:Ah→List Rp}(ht:P.underlying e=some .string)(he:∀n,enc n=[rS n]):ST P e enc okS:=λh=>by
 obtain⟨s,rfl,_,hl⟩:=DataW.trod_string ht h;exact⟨s.data.toList,Afa (by rw[Array.length_toList];exact hl),by rw[he];exact⟨congrArg Value.string (Aeu s),trivial⟩⟩
theorem ST.bool {enc:Bool→List Rp}(ht:P.underlying e=some .bool)(he:∀n,enc n=[rB n]):ST P e enc (λ_=>true):=λh=>by
 obtain⟨b,rfl,_⟩:=DataW.trod_bool ht h;exact⟨b,rfl,by rw[he];exact⟨rfl,trivial⟩⟩
theorem LI {W:World}{a:Addr}{v:Value}(h:W.cell? a=some v):a.spot=none∧Jn (ZW W) a.block a.off=some v:=by
 unfold World.cell? at h;unfold Jn ZW;dsimp only
 cases hh:W.heap[a.block]? with
 | none=>rw[hh] at h;cases h
 | some o=>
  rw[hh] at h
  cases o with
  | cells cs t fz=>
   cases hs:a.spot with
   | none=>simp[hs] at h;exact⟨rfl,h⟩
   | some _=>simp[hs] at h
  | _=>simp at h
theorem ST.slice {α:Type}[Inhabited α]{enc:α→List Rp}{ok:α→Bool}{sz:Nat}(ht:P.underlying t=some (.slice e))(hc:P.cellsOf e=sz)(hsz:0<sz)(h:ST P e enc ok)(hlen:∀y,(enc y).length=sz){enc':List α→List Rp}(he:∀ys,enc' ys=[AJ sz (ys.map enc)]) :
  ST P t enc' (λys=>ys.all ok&&decide (ys.length≤9223372036854775807)):=fun {H encH W sp held n cs x} hx=>by
 rcases open_slice ht hx with⟨rfl,_⟩ | ⟨a,len,cap,m,n',D,Pl,rfl,hb,hl,hm,hmm,_,hel⟩
 ·exact⟨[],by simp,by rw[he];exact⟨UZ.nil sz _,trivial⟩⟩
 ·have hlm:len≤m:=by rw[hmm];split<;>omega
  have each:∀i,i<len→∃y:α,ok y=true∧∃cs',W.cells? 0 (a.add (i*sz)) sz=some cs'∧B8 (ZW W) (enc y) cs':=λi hi=>by
   obtain⟨cs',h1,h2⟩:=hel i (by omega);obtain⟨y,hy,hr⟩:=h h2;rw[hc] at h1;exact⟨y,hy,cs',h1,hr⟩
  obtain⟨f,hf⟩:=choose_lt each;refine⟨(List.range len).map f,?_,?_⟩
  ·simp only[Afb,Af8,List.mem_map,List.mem_range,AeX];refine⟨?_,by simp;simp only[maxLen] at hm;omega⟩;rintro _ ⟨i,hi,rfl⟩;exact(hf i hi).1
  ·rw[he];refine⟨⟨some a,cap,by simp,by simpa using hl,hm,(λh=>by cases h),λi c hi=>?_⟩,trivial⟩;rw[AfU,Af4] at hi;have hil:i<len:=by
    cases hq:(List.range len)[i]? with
    | none=>rw[hq] at hi;cases hi
    | some _=>have:=(List.getElem?_eq_some_iff.1 hq).1;simpa using this
   rw[List.getElem?_range hil] at hi;simp only[Option.map_some,Option.some.injEq,Function.comp] at hi;subst hi;obtain⟨_,cs',h1,hr⟩:=hf i hil;obtain⟨_,hcl,hcell⟩:=World.cells?_some h1;have hsp:a.spot=none:=by
    obtain⟨_,cs0,g1,_⟩:=hf 0 (by omega);obtain⟨_,gcl,gcell⟩:=World.cells?_some g1;have h0:=gcell 0 hsz;rw[Aff (by omega)] at h0;have:=(LI h0).1;simpa[Addr.add] using this
   refine⟨hlen _,a,rfl,hsp,λj r hj=>?_⟩;obtain⟨u,hu,hp⟩:=hr.at hj;have hjs:j<sz:=by have:=(List.getElem?_eq_some_iff.1 hj).1;rw[hlen] at this;exact this
   have h3:=hcell j hjs;rw[hu] at h3;have h4:=(LI h3).2;refine⟨u,?_,hp⟩;have e1:((a.add (i*sz)).add j).block=a.block:=by simp only[Addr.add];split<;>split<;>rfl
   have e2:((a.add (i*sz)).add j).off=a.off+(i*sz+j):=by simp only[Addr.add];split<;>split<;>simp_all<;>omega
   rw[e1,e2] at h4;exact h4
theorem IM {Z:Fz}{cs:List Value}{o:Nat}(h:cs.length=o):B8 Z [] (cs.drop o):=by rw[List.drop_of_length_le (by omega)];trivial
theorem Ca {Z:Fz}{cs:List Value}{o s o':Nat}{rs rs':List Rp}(h:B8 Z rs ((cs.drop o).take s))(ho:o+s=o')(h2:B8 Z rs' (cs.drop o')):B8 Z (rs++rs') (cs.drop o):=by
 rw[← AfQ s (cs.drop o),List.drop_drop];subst ho;exact h.append h2
theorem ST.val {α:Type}{enc:α→List Rp}{ok:α→Bool}(h:ST P e enc ok){r:α→Rp}(he:∀y,enc y=[r y]){H:Type}{encH:TypeId×Value→H}{W:World}{sp:Nat→Bool}{held:Bool}{v:Value}{d:DataW H}{ps:List MemPlace}
  (hone:v.cells = #[v]) (ht:DataW.Trod encH P W 0 sp held e v d ps):∃y:α,ok y=true∧(r y).p (ZW W) v:=by
 obtain⟨fuel,hf⟩:=ht;rw[hone] at hf;obtain⟨y,hy,hr⟩:=h hf;rw[he] at hr;exact⟨y,hy,hr.1⟩
theorem ST.valAgg {α:Type}{enc:α→List Rp}{ok:α→Bool}(h:ST P e enc ok){H:Type}{encH:TypeId×Value→H}{W:World}{sp:Nat→Bool}{held:Bool}{cs:Array Value}{d:DataW H}{ps:List MemPlace}
  (ht:DataW.Trod encH P W 0 sp held e (.agg cs) d ps):∃y:α,ok y=true∧(BB (enc y)).p (ZW W) (.agg cs):=by
 obtain⟨fuel,hf⟩:=ht;obtain⟨y,hy,hr⟩:=h hf;exact⟨y,hy,cs.toList,by simp,hr⟩
end
theorem Aaj {W w:World}(hw:Xl (ZW W) w):W.heap.size≤w.heap.size:=by
 rcases Nat.eq_zero_or_pos W.heap.size with h | h
 ·omega
 ·have h1:W.heap[W.heap.size-1]? =some (W.heap[W.heap.size-1]'(by omega)):=Array.getElem?_eq_getElem (by omega);have:=(Array.getElem?_eq_some_iff.1 (hw _ _ h1)).1;omega
theorem Yo {W:World}(hE:Xm W):GE (ZW W):=λw hw=>by
 have hb:Below W.heap.size W { w with os:=W.os,tape:=W.tape,output:=W.output }:=⟨rfl,rfl,rfl,(show W.heap.size≤w.heap.size from Aaj hw),λk hk=>by
  have h1:W.heap[k]? =some (W.heap[k]'hk):=Array.getElem?_eq_getElem hk;rw[h1];exact hw k _ h1⟩
 have hE2:=hE.st0 (St.of_below hb);exact⟨SS.block { w with os:=W.os,tape:=W.tape,output:=W.output } w (λ_ _=>rfl) hE2.tabs,hE2.size⟩
theorem Za {W:World}(hE:Xm W):St ⟨W,ZW W,[],GE,[]⟩ [] (ZW W) W where
 os:=rfl
 tape:=rfl
 output:=rfl
 size:=Afy _
 old:=λ_ _ _=>rfl
 has:=λ_ h=>by cases h
 own:=λ_ h=>by cases h
 dis:=.nil
 frz:=ZW.frz W
 le:=Fz.le.refl _
 new:=λ_ _ h=>.inl h
 zdis:=λ_ h=>by cases h
 env:=Yo hE
 emono:=λh hg=>GE.mono h hg
 gst:=NE.none rfl
theorem Zb {W W':World}{Z Z':Fz}{E:Fz→Prop}{H:List Ent}(h:St ⟨W,Z,[],E,[]⟩ H Z' W'):Below W.heap.size W W':=⟨h.os,h.tape,h.output,h.size,λk hk=>h.old k hk (by simp)⟩
def D6 (P:Program)(e:TypeId){α:Type}(enc:α→List Rp)(ok:α→Bool):Prop:=
 ∀{H:Type} {encH:TypeId×Value→H} {W:World} {sp:Nat→Bool} {held:Bool} {n:Nat} {cs:List Value} {x:DataW H×List MemPlace},DataW.trod encH P W 0 sp held n e cs=some x→Rows.uptoBulk x.1≤1048576→∃y:α,ok y=true∧B8 (ZW W) (enc y) cs
theorem Aav {H:Type}(d:DataW H):1≤Rows.uptoBulk d:=by
 cases d with
 | lit l=>cases l<;>simp[Rows.uptoBulk]
 | _=>simp[Rows.uptoBulk]
theorem NA {H:Type}:∀{ds:List (DataW H)} {d:DataW H},d∈ds→Rows.uptoBulk d≤Rows.uptoBulkAll ds
 | [],_,h=>by cases h
 | x::r,d,h=>by
  rw[Rows.uptoBulkAll];rcases List.mem_cons.1 h with rfl | h
  ·omega
  ·have:=NA h;omega
theorem UR {H:Type}:∀(ds:List (DataW H)),ds.length≤Rows.uptoBulkAll ds
 | []=>AfE _
 | x::r=>by
  rw[Rows.uptoBulkAll];have:=UR r;have:=Aav x;simp only[Afk];omega
section
variable {P : Program} {e t : TypeId}
theorem ST.toB {α:Type}{enc:α→List Rp}{ok:α→Bool}(h:ST P e enc ok):D6 P e enc ok:=λhx _=>h hx
theorem D6.int {k:IntKind}{enc:Int→List Rp}(ht:P.underlying e=some (.int k))(he:∀n,enc n=[rI k n]):D6 P e enc (BM k):=ST.toB (ST.int ht he)
theorem D6.bool {enc:Bool→List Rp}(ht:P.underlying e=some .bool)(he:∀n,enc n=[rB n]):D6 P e enc (λ_=>true):=ST.toB (ST.bool ht he)
theorem D6.str {enc:Ah→List Rp}(ht:P.underlying e=some .string)(he:∀n,enc n=[rS n]):D6 P e enc Hg:=λh hb=>by
 obtain⟨s,rfl,hx,hl⟩:=DataW.trod_string ht h;subst hx;simp only[Rows.uptoBulk] at hb;exact⟨s.data.toList,Afa (by omega),by rw[he];exact⟨congrArg Value.string (Aeu s),trivial⟩⟩
theorem D6.slice {α:Type}[Inhabited α]{enc:α→List Rp}{ok:α→Bool}{sz:Nat}(ht:P.underlying t=some (.slice e))(hc:P.cellsOf e=sz)(hsz:0<sz)(h:D6 P e enc ok)(hlen:∀y,(enc y).length=sz){enc':List α→List Rp}(he:∀ys,enc' ys=[AJ sz (ys.map enc)]) :
  D6 P t enc' (λys=>ys.all ok&&decide (ys.length≤1048576)):=fun {H encH W sp held n cs x} hx hB=>by
 rcases open_slice ht hx with⟨rfl,_⟩ | ⟨a,len,cap,m,n',D,Pl,rfl,hb,hl,hm,hmm,hxe,hel⟩
 ·exact⟨[],by simp,by rw[he];exact⟨UZ.nil sz _,trivial⟩⟩
 ·have hlm:len≤m:=by rw[hmm];split<;>omega
  subst hxe;simp only[Rows.uptoBulk] at hB;have hlb:len≤1048576:=by
   have:=UR ((List.range len).map D);rw[Afw,List.length_range] at this;omega
  have each:∀i,i<len→∃y:α,ok y=true∧∃cs',W.cells? 0 (a.add (i*sz)) sz=some cs'∧B8 (ZW W) (enc y) cs':=λi hi=>by
   obtain⟨cs',h1,h2⟩:=hel i (by omega);obtain⟨y,hy,hr⟩:=h h2 (by
    have:=NA (List.mem_map.2 ⟨i,List.mem_range.2 hi,rfl⟩:D i∈(List.range len).map D);show Rows.uptoBulk (D i)≤1048576;omega)
   rw[hc] at h1;exact⟨y,hy,cs',h1,hr⟩
  obtain⟨f,hf⟩:=choose_lt each;refine⟨(List.range len).map f,?_,?_⟩
  ·simp only[Afb,Af8,List.mem_map,List.mem_range,AeX];refine⟨?_,by simpa using hlb⟩;rintro _ ⟨i,hi,rfl⟩;exact(hf i hi).1
  ·rw[he];refine⟨⟨some a,cap,by simp,by simpa using hl,hm,(λh=>by cases h),λi c hi=>?_⟩,trivial⟩;rw[AfU,Af4] at hi;have hil:i<len:=by
    cases hq:(List.range len)[i]? with
    | none=>rw[hq] at hi;cases hi
    | some _=>have:=(List.getElem?_eq_some_iff.1 hq).1;simpa using this
   rw[List.getElem?_range hil] at hi;simp only[Option.map_some,Option.some.injEq,Function.comp] at hi;subst hi;obtain⟨_,cs',h1,hr⟩:=hf i hil;obtain⟨_,hcl,hcell⟩:=World.cells?_some h1;have hsp:a.spot=none:=by
    obtain⟨_,cs0,g1,_⟩:=hf 0 (by omega);obtain⟨_,gcl,gcell⟩:=World.cells?_some g1;have h0:=gcell 0 hsz;rw[Aff (by omega)] at h0;have:=(LI h0).1;simpa[Addr.add] using this
   refine⟨hlen _,a,rfl,hsp,λj r hj=>?_⟩;obtain⟨u,hu,hp⟩:=hr.at hj;have hjs:j<sz:=by have:=(List.getElem?_eq_some_iff.1 hj).1;rw[hlen] at this;exact this
   have h3:=hcell j hjs;rw[hu] at h3;have h4:=(LI h3).2;refine⟨u,?_,hp⟩;have e1:((a.add (i*sz)).add j).block=a.block:=by simp only[Addr.add];split<;>split<;>rfl
   have e2:((a.add (i*sz)).add j).off=a.off+(i*sz+j):=by simp only[Addr.add];split<;>split<;>simp_all<;>omega
   rw[e1,e2] at h4;exact h4
theorem BJ {H:Type}{xs:List (DataW H×List MemPlace)}{i:Nat}(hi:i<xs.length)(h:Rows.uptoBulk (DataW.agg (xs.map (·.1)))≤1048576):Rows.uptoBulk (xs[i]).1≤1048576:=by
 rw[Rows.uptoBulk] at h;have:=NA (List.mem_map.2 ⟨xs[i],List.getElem_mem hi,rfl⟩:(xs[i]).1∈xs.map (·.1));omega
theorem D6.val {α:Type}{enc:α→List Rp}{ok:α→Bool}(h:D6 P e enc ok){r:α→Rp}(he:∀y,enc y=[r y]){H:Type}{encH:TypeId×Value→H}{W:World}{sp:Nat→Bool}{held:Bool}{v:Value}{d:DataW H}{ps:List MemPlace}
  (hone:v.cells = #[v]) (ht:DataW.Trod encH P W 0 sp held e v d ps) (hb:Rows.uptoBulk d≤1048576):∃y:α,ok y=true∧(r y).p (ZW W) v:=by
 obtain⟨fuel,hf⟩:=ht;rw[hone] at hf;obtain⟨y,hy,hr⟩:=h hf hb;rw[he] at hr;exact⟨y,hy,hr.1⟩
theorem D6.valAgg {α:Type}{enc:α→List Rp}{ok:α→Bool}(h:D6 P e enc ok){H:Type}{encH:TypeId×Value→H}{W:World}{sp:Nat→Bool}{held:Bool}{cs:Array Value}{d:DataW H}{ps:List MemPlace}
  (ht:DataW.Trod encH P W 0 sp held e (.agg cs) d ps) (hb:Rows.uptoBulk d≤1048576):∃y:α,ok y=true∧(BB (enc y)).p (ZW W) (.agg cs):=by
 obtain⟨fuel,hf⟩:=ht;obtain⟨y,hy,hr⟩:=h hf hb;exact⟨y,hy,cs.toList,by simp,hr⟩
end
structure At {α:Type} (i:Nat) (l:List α) (e:α) (l':List α):Prop where
 go:l.Perm (e::l')
theorem Aek {α:Type}{e:α}{l:List α}:At 0 (e::l) e l:=⟨Afl _⟩
theorem Aei {α:Type}{i:Nat}{x e:α}{l l':List α}(h:At i l e l'):At (i+1) (x::l) e (x::l'):=⟨(h.go.cons x).trans (List.Perm.swap e x l')⟩
structure Pk {α:Type} (is:List Nat) (l l':List α):Prop where
 go:l.Perm l'
theorem AdB {α:Type}{l:List α}:Pk [] l l:=⟨Afl _⟩
theorem AdA {α:Type}{i:Nat}{r:List Nat}{l l1 l2:List α}{e:α}(h:At i l e l1)(t:Pk r l1 l2):Pk (i::r) l (e::l2):=⟨h.go.trans (t.go.cons e)⟩
structure Y3 {α:Type} (i:Nat) (l:List α) (x:α) (l':List α):Prop where
 go:l.set i x=l'
theorem Ac7 {α:Type}{a x:α}{l:List α}:Y3 0 (a::l) x (x::l):=⟨rfl⟩
theorem Ac6 {α:Type}{i:Nat}{a x:α}{l l':List α}(h:Y3 i l x l'):Y3 (i+1) (a::l) x (a::l'):=⟨by rw[List.set_cons_succ,h.go]⟩
structure Y4 {α:Type} (i:Nat) (rs l l':List α):Prop where
 go:l.take i++rs++l.drop (i+rs.length)=l'
theorem Ae9 {α:Type}{l:List α}:Y4 0 [] l l:=⟨by simp⟩
theorem Ae8 {α:Type}{r a:α}{rs l l':List α}(h:Y4 0 rs l l'):Y4 0 (r::rs) (a::l) (r::l'):=⟨by
 have:=h.go;simp only[List.take_zero,AfV,AfA] at this ⊢;rw[Afk,List.drop_succ_cons,AfL,this]⟩
theorem Ae7 {α:Type}{i:Nat}{a:α}{rs l l':List α}(h:Y4 i rs l l'):Y4 (i+1) rs (a::l) (a::l'):=⟨by
 have:=h.go;rw[List.take_succ_cons,show i+1+rs.length=(i+rs.length)+1 from by omega,List.drop_succ_cons,AfL,AfL,this]⟩
section
variable {P : Program} {n : Nat} {c : Cx} {ops opsA : Array Oper} {Q : Exit → Act → World → Prop} {rest : List Oper} {l l' : Fr} {H H' H2 Hr : List Ent} {x : Code} {K : Act → World → Prop} {d : Nat} {ty t e : TypeId} {pos : String} {af : Array Edge} {y z : Operand} {r : Rp} {sz : Nat}
theorem Js (is:List Nat)(h:WK n c K l H2)(hp:Pk is H H2:=by repeat (first | exact AdB | apply AdA | exact Aek | apply Aei)):WK n c K l H:=AaH hp.go h
theorem EX (is:List Nat){f:FuncId}{args:List Operand}{ats:Array TypeId}{rs:List Rp}{Hin:List Ent}{Φ:Rp→List Ent→Prop}(hcall:∀(as1:Array Value) (w:World),(callFunc f as1).run P w = .ok (.enter f as1) w)(hc:Fn P c.E f rs Hin Φ)
  (h:∀r Ho,Φ r Ho→WL P n c ops Q rest ((d,r)::l) (Ho++Hr)) (hv:MD l args=some rs:=by rfl) (hp:Pk is H (Hin++Hr):=by repeat (first | exact AdB | apply AdA | exact Aek | apply Aei)) (hn:Nat.blt d n=true:=by rfl) :
  WL P n c ops Q ({ dst:=some d,op:=.call { callee:=.value (.func f),args:=args.toArray,argTypes:=ats },type:=ty,pos:=pos,after:=af,guard:=none }::rest) l H:=C6 hcall hv hp.go hc hn h
theorem GZ (h:WC P n c x Q l' H')(hl:l=l':=by first | (dsimp only;done) | (dsimp only;exact rfl) | exact rfl)(hH:H=H':=by first | (dsimp only;done) | (dsimp only;exact rfl) | exact rfl):WC P n c x Q l H:=Acj hl hH h
theorem HE (h:WK n c K l' H')(hl:l=l':=by first | (dsimp only;done) | (dsimp only;exact rfl) | exact rfl)(hH:H=H':=by first | (dsimp only;done) | (dsimp only;exact rfl) | exact rfl):WK n c K l H:=Ad5 hl hH h
theorem us {i b off:Nat}{cs cs':List Rp}(hag:∀w,(sizeOf t).run P w = .ok 1 w)(hx:ev l z=some (rv (.pointer (some ⟨b,off,none⟩))))(hy:ev l y=some r)(hv:Rh H r)(hi:H[i]? =some (.blk b cs e))(hlt:Nat.blt off cs.length=true)
  (h:WL P n c ops Q rest l H') (hcs:Y3 off cs r cs':=by repeat (first | exact Ac7 | apply Ac6)) (hH:Y3 i H (.blk b cs' e) H':=by repeat (first | exact Ac7 | apply Ac6)) :
  WL P n c ops Q ({ dst:=none,op:=.store t z y,type:=ty,pos:=pos,after:=af,guard:=none }::rest) l H:=Sd hag hx hy hv hi hlt hcs.go hH.go h
theorem Gy {i b off:Nat}{cs cs' rs:List Rp}(hsz:∀w,(sizeOf t).run P w = .ok sz w)(hx:ev l z=some (rv (.pointer (some ⟨b,off,none⟩))))(hy:ev l y=some (BB rs))(hl:rs.length=sz)(hv:B6 H rs)(hi:H[i]? =some (.blk b cs e))(hlt:Nat.ble (off+sz) cs.length=true)
  (h:WL P n c ops Q rest l H') (hcs:Y4 off rs cs cs':=by repeat (first | exact Ae9 | apply Ae8 | apply Ae7)) (hH:Y3 i H (.blk b cs' e) H':=by repeat (first | exact Ac7 | apply Ac6)) :
  WL P n c ops Q ({ dst:=none,op:=.store t z y,type:=ty,pos:=pos,after:=af,guard:=none }::rest) l H:=OA hsz hx hy hl hv hi hlt (by rw[← hl];exact hcs.go) hH.go h
def WX (os:List Oper)(acc:List Rp)(t:Nat)(l0:Fr):List Nat→Fr
 | []=>l0
 | j::r=>match C0 os j with
  | some d=>(d,acc.getD (t-1-j) (rv undef))::WX os acc t l0 r
  | none=>WX os acc t l0 r
def UW:List Oper→List Rp→List Sp
 | o::os,r::rs=>⟨Dg o,r,1⟩::UW os rs
 | _,_=>[]
theorem Wo:∀{os:List Oper} {rs:List Rp},os.length=rs.length→(UW os rs).length=os.length
 | [],[],_=>rfl
 | o::os,r::rs,h=>by rw[UW,Afk,Afk,Wo (by simpa using h)]
 | [],_::_,h=>by simp at h
 | _::_,[],h=>by simp at h
theorem Vo:∀{os:List Oper} {rs:List Rp} {i:Nat} {o:Oper} {r:Rp},os[i]? =some o→rs[i]? =some r→(UW os rs)[i]? =some ⟨Dg o,r,1⟩
 | o::os,r::rs,0,o',r',h1,h2=>by simp at h1 h2;subst h1;subst h2;rfl
 | o::os,r::rs,i+1,o',r',h1,h2=>by rw[UW,List.getElem?_cons_succ];exact Vo (by simpa using h1) (by simpa using h2)
 | [],_,i,_,_,h1,_=>by simp at h1
 | _::_,[],i,_,_,_,h2=>by simp at h2
def RdH (P:Program)(n:Nat)(c:Cx)(Q:Exit→Act→World→Prop)(os:List Oper)(l0:Fr)(H:List Ent)(acc:List Rp):Prop:=
 ∀(i:Nat) o r,os[i]? =some o→acc.reverse[i]? =some r→DO P n c os.toArray Q (WX os (acc.drop (acc.length-i)) i l0 (Dg o)) H o r H
def Xj (P:Program)(n:Nat)(c:Cx)(Q:Exit→Act→World→Prop)(os:List Oper)(l0:Fr)(H:List Ent)(G:Prop)(t:Nat)(acc:List Rp)(rest:List Oper):Prop:=
 rest=os.drop t→t=acc.length→RdH P n c Q os l0 H acc→G
theorem RdH.cons {os:List Oper}{l0:Fr}{acc:List Rp}{o:Oper}{r:Rp}(h:RdH P n c Q os l0 H acc)(ho:os[acc.length]? =some o)(hr:DO P n c os.toArray Q (WX os acc acc.length l0 (Dg o)) H o r H):RdH P n c Q os l0 H (r::acc):=λi o' r' h1 h2=>by
 rw[List.reverse_cons] at h2
 by_cases hi:i<acc.length
 ·rw[AfK (by simpa using hi)] at h2;have:=h i o' r' h1 h2;rw[Afk,show acc.length+1-i=(acc.length-i)+1 from by omega,List.drop_succ_cons];exact this
 ·have hlt:=(List.getElem?_eq_some_iff.1 h2).1;simp at hlt;have e:i=acc.length:=by omega
  subst e;rw[List.getElem?_append_right (by simp)] at h2;simp at h2;subst h2;rw[ho] at h1;obtain rfl:=Option.some.inj h1;rw[Afk,show acc.length+1-acc.length=1 from by omega,List.drop_succ_cons,List.drop_zero];exact hr
theorem Aak {os:List Oper}{acc:List Rp}{l0:Fr}{i:Nat}(hl:acc.length=os.length)(hi:i≤acc.length):∀{js:List Nat},(∀j∈js,j<i)→WX os (acc.drop (acc.length-i)) i l0 js=Ck os (UW os acc.reverse) js l0
 | [],_=>rfl
 | j::js,h=>by
  have hj:=h j (by simp);have ih:=Aak (l0:=l0) hl hi (js:=js) λj' hj'=>h j' (by simp[hj']);unfold WX Ck;have ho:os[j]? =some (os[j]'(by omega)):=Aff (by omega);have hr:acc.reverse[j]? =some (acc.reverse[j]'(by simp;omega)):=Aff (by simp;omega);have e:(acc.drop (acc.length-i)).getD (i-1-j) (rv undef)=(Ev (UW os acc.reverse) j).r:=by
   unfold Ev;rw[Afd,Afd,Vo ho hr,List.getElem?_drop,Af5];rw[Aff (by omega),Af5];show _=acc.reverse[j]'(by simp;omega);rw[List.getElem_reverse]
   congr 1
   omega
  rw[e,ih]
  cases C0 os j<;>rfl
theorem Dc {id:Nat}{os:List Oper}{l0:Fr}(ks0:List Nat)(h:Xj P n c Q os l0 H (Kp ks0 l l0→WC P n c (.region id os.toArray true) Q l H) 0 [] os)(h0:Kp ks0 l l0:=by repeat (first | exact OX | (apply M0;rfl) | (apply Ns;rfl))):WC P n c (.region id os.toArray true) Q l H:=
 h (by simp) rfl (λi o r _ h2=>by simp at h2) h0
theorem Jf {os:List Oper}{l0:Fr}{G:Prop}{t:Nat}{acc:List Rp}{o:Oper}{r:Rp}{rest:List Oper}(hr:DO P n c os.toArray Q (WX os acc t l0 (Dg o)) H o r H)(h:Xj P n c Q os l0 H G (t+1) (r::acc) rest):Xj P n c Q os l0 H G t acc (o::rest):=λh1 h2 h3=>by
 subst h2;have ho:os[acc.length]? =some o:=by have:=congrArg (·[0]?) h1;simp at this;exact this.symm
 exact h (by have:=congrArg List.tail h1;simpa using this) rfl (h3.cons ho hr)
section
variable {os : List Oper} {l0 : Fr} {G : Prop} {t : Nat} {acc : List Rp} {r : Rp} {rest : List Oper} {op : Op} {j dj : Nat} {want b : Bool} {dd : Option Nat}
theorem rq (hr:BD P n c (WX os acc t l0 (Dg { dst:=some d,op:=op,type:=ty,pos:=pos,after:=af,guard:=none })) H { dst:=some d,op:=op,type:=ty,pos:=pos,after:=af,guard:=none } r)(h:Xj P n c Q os l0 H G (t+1) (r::acc) rest) :
  Xj P n c Q os l0 H G t acc ({ dst:=some d,op:=op,type:=ty,pos:=pos,after:=af,guard:=none }::rest):=Jf (D2 hr) h
theorem rg (hb:b=want)(hr:BD P n c (WX os acc t l0 (Dg { dst:=some d,op:=op,type:=ty,pos:=pos,after:=af,guard:=some (j,want) })) H { dst:=some d,op:=op,type:=ty,pos:=pos,after:=af,guard:=none } r)(h:Xj P n c Q os l0 H G (t+1) (r::acc) rest)
  (hj:El os.toArray j=some dj:=by rfl) (hv:look (WX os acc t l0 (Dg { dst:=some d,op:=op,type:=ty,pos:=pos,after:=af,guard:=some (j,want) })) dj=some (rB b):=by rfl) :
  Xj P n c Q os l0 H G t acc ({ dst:=some d,op:=op,type:=ty,pos:=pos,after:=af,guard:=some (j,want) }::rest):=Jf (R4 hj hv hb (D2 hr)) h
theorem ro (hb:b=want)(hr:DO P n c os.toArray Q (WX os acc t l0 (Dg { dst:=dd,op:=op,type:=ty,pos:=pos,after:=af,guard:=some (j,want) })) H { dst:=dd,op:=op,type:=ty,pos:=pos,after:=af,guard:=none } r H)(h:Xj P n c Q os l0 H G (t+1) (r::acc) rest)
  (hj:El os.toArray j=some dj:=by rfl) (hv:look (WX os acc t l0 (Dg { dst:=dd,op:=op,type:=ty,pos:=pos,after:=af,guard:=some (j,want) })) dj=some (rB b):=by rfl) :
  Xj P n c Q os l0 H G t acc ({ dst:=dd,op:=op,type:=ty,pos:=pos,after:=af,guard:=some (j,want) }::rest):=Jf (R4 hj hv hb hr) h
theorem rz (hb:b = !want)(h:Xj P n c Q os l0 H G (t+1) (rv undef::acc) rest)
  (hj:El os.toArray j=some dj:=by rfl) (hv:look (WX os acc t l0 (Dg { dst:=dd,op:=op,type:=ty,pos:=pos,after:=af,guard:=some (j,want) })) dj=some (rB b):=by rfl) :
  Xj P n c Q os l0 H G t acc ({ dst:=dd,op:=op,type:=ty,pos:=pos,after:=af,guard:=some (j,want) }::rest):=Jf (AcG hj hv hb) h
theorem ru (h:Xj P n c Q os l0 H G (t+1) (rv undef::acc) rest)
  (hj:El os.toArray j=some dj:=by rfl) (hv:look (WX os acc t l0 (Dg { dst:=dd,op:=op,type:=ty,pos:=pos,after:=af,guard:=some (j,want) })) dj=some (rv undef):=by rfl) :
  Xj P n c Q os l0 H G t acc ({ dst:=dd,op:=op,type:=ty,pos:=pos,after:=af,guard:=some (j,want) }::rest):=Jf (Zv hj hv) h
end
theorem re {id:Nat}{os:List Oper}{l0 l1:Fr}{ks0:List Nat}{t:Nat}{acc:List Rp}(ks:List Nat)(h:WK n c (Q .normal) l1 H)
  (hz:Kz ks os (UW os acc.reverse) l0 l1:=by repeat (first | (apply AcX;rfl) | (apply AcZ;rfl) | apply AcY | apply Ada | exact OX | (apply M0;rfl) | (apply Ns;rfl)))
  (hm:P.follows .mixedOrders=true:=by kernel_rfl) (hB:okB n os os.length (ER l0) (os.map Dg) (os.map λ_=>1)=true:=by kernel_rfl) (ht:t=os.length:=by rfl) :
  Xj P n c Q os l0 H (Kp ks0 l l0→WC P n c (.region id os.toArray true) Q l H) t acc []:=λ_ hl hob h0=>by
 have hlen:acc.length=os.length:=by omega
 have hsp:(UW os acc.reverse).length=os.length:=Wo (by simpa using hlen.symm);have key:∀{os:List Oper} {rs:List Rp},os.length=rs.length→(UW os rs).map (·.deps)=os.map Dg∧(UW os rs).map (·.kd)=os.map λ_=>1:=by
  intro os
  induction os with
  | nil=>intro rs h;cases rs with
   | nil=>exact⟨rfl,rfl⟩
   | cons _ _=>simp at h
  | cons o os ih=>intro rs h;cases rs with
   | nil=>simp at h
   | cons r rs=>obtain⟨h1,h2⟩:=ih (rs:=rs) (by simpa using h);exact⟨by simp[UW,h1],by simp[UW,h2]⟩
 obtain⟨k1,k2⟩:=key (os:=os) (rs:=acc.reverse) (by simpa using hlen.symm);have hlt:∀(i:Nat) o,os[i]? =some o→∀j∈Dg o,j<i:=by
  have hB':=hB;unfold okB at hB';simp only[Afb] at hB';have h1:=hB'.1.1.1.1.1.1;intro i o ho j hj;have hi:=(List.getElem?_eq_some_iff.1 ho).1;have h2:=List.all_eq_true.1 h1 i (List.mem_range.2 hi);have e:os.getD i default=o:=by rw[Afd,ho];rfl
  rw[e] at h2;exact AfC (List.all_eq_true.1 h2 j hj)
 have hobl:∀(k:Nat) (rest:List Oper),rest=os.drop k→QJ P n c os.toArray Q os (UW os acc.reverse) l0 (List.replicate (os.length+1) H) k rest (List.replicate (rest.length+1) H):=by
  intro k rest
  induction rest generalizing k with
  | nil=>intro _;exact trivial
  | cons o rest ih=>
   intro hr;have ho:os[k]? =some o:=by have:=congrArg (·[0]?) hr;simp at this;exact this.symm
   have hk:=(List.getElem?_eq_some_iff.1 ho).1;have hrr:acc.reverse[k]? =some (acc.reverse[k]'(by simp;omega)):=Aff (by simp;omega);have hs:Ev (UW os acc.reverse) k=⟨Dg o,acc.reverse[k]'(by simp;omega),1⟩:=by
    unfold Ev;rw[Afd,Vo ho hrr];rfl
   have ih:=ih (k+1) (by have:=congrArg List.tail hr;simpa using this);have hop:=hob k o _ ho hrr;rw[Aak hlen (by omega) (hlt k o ho)] at hop;rw[Afk,List.replicate_succ,List.replicate_succ];refine⟨?_,by rw[← List.replicate_succ];exact ih⟩;rw[hs];exact⟨rfl,hop⟩
 refine E0 (l0:=l0) (l1:=l1) ks0 (UW os acc.reverse) (List.replicate (os.length+1) H) ks (hobl 0 os (by simp)) h h0 hz hm (by rw[k1,k2];exact hB) hsp (by simp) (by simp[Afd,List.getElem?_replicate])
end
open Go
def Ov (l:(List Int)):Option ((List Int)):=
 some l
def Ls (l:(List Int))(c:Int):Option (Unit×(List Int)):=
 Bs (Ov l) λr1=>Bl (DE 1 (r1.length+([c]:List Int).length))<|some ((),r1++([c]:List Int))
def Jl (l:(List Int))(s:Ah):Option (Int×Unit×(List Int)):=
 Bs (Ov l) λr1=>Bl (DE 1 (r1.length+s.length))<|some ((s.length:Int),(),r1++Gi s)
def QF (l:Ah):Option (Ah):=
 Bl (decide (0<(Gi l).length))<|some l
def Ou (l:(List Int)):Option ((List Int)):=
 some l
def Lr (l:(List Int))(c:Int):Option (Unit×(List Int)):=
 Bs (Ou l) λr1=>Bl (DE 1 (r1.length+([c]:List Int).length))<|some ((),r1++([c]:List Int))
def Jk (l:(List Int))(s:Ah):Option (Int×Unit×(List Int)):=
 Bs (Ou l) λr1=>Bl (DE 1 (r1.length+s.length))<|some ((s.length:Int),(),r1++Gi s)
def QE (l:Ah):Option (Ah):=
 Bl (decide (0<(Gi l).length))<|some l
set_option maxRecDepth 100000
set_option maxHeartbeats 4000000
theorem WN:∃inf,Tryz.prog.info? 5=some inf∧inf.zero=some (.int .u8 0)∧inf.size=1∧inf.bytes=1:=by
  have key:(Tryz.prog.info? 5).map (λi=>(i.zero,i.size,i.bytes))=some (some (.int .u8 0),1,1):=by kernel_rfl
  obtain⟨inf,h1,h2⟩:=Option.map_eq_some_iff.1 key;simp only[Prod.mk.injEq] at h2;exact⟨inf,h1,h2.1,h2.2.1,h2.2.2⟩
theorem Uv:∃j,Tryz.prog.info? 177=some j∧j.size≠0:=by
  have key:(Tryz.prog.info? 177).map (λi=>i.size)=some 2:=by kernel_rfl
  obtain⟨j,h1,h2⟩:=Option.map_eq_some_iff.1 key;exact⟨j,h1,by rw[h2];decide⟩
theorem Uw:∃j,Tryz.prog.info? 177=some j:=Uv.imp λ_ h=>h.1
theorem UT (hb:Nat)(hd:Value)(l:(List Int))(r:(List Int))(h:Ov l=some r):Fn Tryz.prog GE 198 [rP hb 0] [.blk hb [rv (.pointer none),rv hd] 177,.row hd 5 1 (A3 Cz l)] (λR H=>∃w0:Value,R=rv (.tuple #[])∧H=[.blk hb [rP hb 0,rv w0] 177,.row w0 5 1 (A3 Cz r)]):=by
 refine enter (n:=20) Tryz.func198 Aa Tryz.ntmps198 Aa (λw Z=>?_);unfold Ov at h;refine Ae (wm Aa (wv (AG Aa) (vF HM Aa Tk (vL 0 GI Aa (wv (r:=rB true) (Nj ⟨_,Th⟩ Aa) (An (CG Aa Aa (Aj (wm Aa (wm Aa (wv (r:=rP hb 0) (TQ (i:=0) Th Tryz.underlying248 Uv Aa Aa Aa) (AA (r:=rP hb 0) (Abp Tryz.func224 (by kernel_rfl) (by kernel_rfl) (by kernel_rfl) (by kernel_rfl) Aa) Aa (wv (r:=rP hb 0) (Ra (i:=0) Tryz.underlying248 Th Uw Aa Aa (by kernel_rfl)) (wv (AG Aa) (vF HM Aa Tk (us (i:=0) Tk Aa Aa (BT Aa) Aa Aa ?_))))))))))))))));refine Am ?_;obtain rfl:=As h;exact Is (XI Tryz.results198) (sC (sC sN)) ⟨hd,Aa,Aa⟩
theorem Rf (hb:Nat)(hd:Value)(l:(List Int))(c:Int)(r:Unit×(List Int))(h:Ls l c=some r):Fn Tryz.prog GE 165 [rP hb 0,rI .u8 c] [.blk hb [rv (.pointer none),rv hd] 177,.row hd 5 1 (A3 Cz l)] (λR H=>∃w0:Value,R=rv (.nilIface)∧H=[.blk hb [rP hb 0,rv w0] 177,.row w0 5 1 (A3 Cz r.2)]):=by
 refine enter (n:=17) Tryz.func165 Aa Tryz.ntmps165 Aa (λw Z=>?_);unfold Ls at h;refine Ae (wa Aa (Bv (wm Aa (ob h λr1 e3 h2=>EX [0,0] Tryz.call198 (UT hb hd l r1 e3) ?_))));rintro _ _ ⟨v4,rfl,rfl⟩;refine Bv (wm Aa (wm Aa (wv (AG Aa) (vF HM Aa HQ (vL 0 O4 Aa (wm Aa (Bp (ys:=([c]:List Int)) (enc:=Cz) (css:=[[rI .u8 c]]) (xs:=[.tmp 12]) KH Tryz.sizeOf5 Tryz.zeroValue5 Aa Aa Aa ⟨Gl.one Aa (Up.refl _),trivial⟩ Aa LG Aa Aa Aa (λb5=>?_))))))));refine ck h2 λg7 h8=>Exists.elim WN λinf hinf=>Dn (xs:=r1) (ys:=([c]:List Int)) (enc:=Cz) (i:=2) KH hinf.1 hinf.2.1 hinf.2.2.1 hinf.2.2.2 Aa Aa Aa Aa Aa (Ox.w (i:=0) Aa Aa) LG RJ g7 Aa (λv6=>?_);refine wv (AG Aa) (vF HM Aa HQ (us (i:=2) HQ Aa Aa (E7 (i:=0) Aa) Aa Aa ?_));refine Bv (wa Aa (An (Ap (Js [2] ?_))));obtain rfl:=As h8;exact Ar (BE Tryz.results165 (AO Aa)) (sC (sC (sS sN))) ⟨v6,Aa,Aa⟩
theorem Pd (hb:Nat)(hd:Value)(l:(List Int))(s:Ah)(r:Int×Unit×(List Int))(h:Jl l s=some r):Fn Tryz.prog GE 162 [rP hb 0,rS s] [.blk hb [rv (.pointer none),rv hd] 177,.row hd 5 1 (A3 Cz l)] (λR H=>∃w0:Value,R=Dz [A2 r.1,rv (.nilIface)]∧H=[.blk hb [rP hb 0,rv w0] 177,.row w0 5 1 (A3 Cz r.2.2)]):=by
 refine enter (n:=19) Tryz.func162 Aa Tryz.ntmps162 Aa (λw Z=>?_);unfold Jl at h;refine Ae (wa Aa (wa Aa (Bv (wm Aa (ob h λr1 e3 h2=>EX [0,0] Tryz.call198 (UT hb hd l r1 e3) ?_)))));rintro _ _ ⟨v4,rfl,rfl⟩;refine Bv (wm Aa (wm Aa (wv (AG Aa) (vF HM Aa HQ (vL 0 O4 Aa (wm Aa (ck h2 λg6 h7=>Exists.elim WN λinf hinf=>MK (xs:=r1) (i:=1) KH Dx hinf.1 hinf.2.1 hinf.2.2.1 hinf.2.2.2 Aa Aa Aa g6 Aa (λv5=>?_))))))));refine wv (AG Aa) (vF HM Aa HQ (us (i:=1) HQ Aa Aa (E7 (i:=0) Aa) Aa Aa ?_));refine Bv (wm Aa (wv (BO Dx Aa) (wa Aa (wa Aa (An (Ap (Js [1] ?_)))))));obtain rfl:=As h7;exact Ar (IO Tryz.results162 (AO Aa) (AO Aa)) (sC (sC sN)) ⟨v5,Aa,Aa⟩
theorem VS (hb:Nat)(hd:Value)(l:Ah)(r:Ah)(h:QF l=some r):Fn Tryz.prog GE 120 [rP hb 0] [.blk hb [rv (.pointer none),rv hd] 177,.row hd 5 1 (A3 Cz (Gi l))] (λR H=>R=rS r∧H=[]):=by
 refine enter (n:=14) Tryz.func120 Aa Tryz.ntmps120 Aa (λw Z=>?_);unfold QF at h;refine Ae (wv (r:=rS ([]:Ah)) (A5 Aa) (An (Al (ck h λg1 h2=>E0 (H1:=[.blk hb [rv (.pointer none),rv hd] 177]) [0] [⟨[],rP hb 0,0⟩,⟨[0],rP hb 0,0⟩,⟨[1],rP hb 1,0⟩,⟨[2],rv hd,1⟩,⟨[3],rv (slp hd),1⟩,⟨[],rP hb 0,0⟩,⟨[5],rP hb 0,0⟩,⟨[6],rP hb 1,0⟩,⟨[7],rv hd,1⟩,⟨[8],A2 ((Gi l).length:Int),1⟩,⟨[4,9],rS l,2⟩,⟨[10],rS l,0⟩] (rle [(11,_),(2,[.blk hb [rv (.pointer none),rv hd] 177])]) [2] ?_ ?_))))
 ·refine oq (Ak Aa) (oq (AG Aa) (oq (Aq HM Aa HQ Aa Aa) (of (Bc (i:=0) O4 Aa Aa Aa) (of (OE (i:=1) Aa Aa (Pp g1)) (oq (Ak Aa) (oq (AG Aa) (oq (Aq HM Aa HQ Aa Aa) (of (Bc (i:=0) O4 Aa Aa Aa) (of (CN (ys:=Gi l) (enc:=Cz) (i:=1) KH Aa Aa) (Ej Aa (AdG (Lt (i:=1) Tryz.underlying213 (by kernel_rfl) Aa Aa Aa (Pp g1) Aa)) ?_))))))))));refine oq (A5 Aa) ?_;exact D3
 refine AS (Ap ?_);obtain rfl:=As h2;exact Ar (BE Tryz.results120 (AO Aa)) (sS sN) ⟨Aa,Aa⟩
theorem US (hb:Nat)(hd:Value)(l:(List Int))(r:(List Int))(h:Ou l=some r):Fn Tryz.prog GE 198 [rP hb 0] [.blk hb [rP hb 0,rv hd] 177,.row hd 5 1 (A3 Cz l)] (λR H=>∃w0:Value,R=rv (.tuple #[])∧H=[.blk hb [rP hb 0,rv w0] 177,.row w0 5 1 (A3 Cz r)]):=by
 refine enter (n:=20) Tryz.func198 Aa Tryz.ntmps198 Aa (λw Z=>?_);unfold Ou at h;refine Ae (wm Aa (wv (AG Aa) (vF HM Aa Tk (vL 0 GI Aa (wv (r:=rB false) (Kj ⟨_,Th⟩ Aa) (An (CO Aa Aa (Ae (wm Aa (wv (AG Aa) (vF HM Aa Tk (vL 0 GI Aa (wm Aa (wv (r:=rB false) (V4 Th Uw Aa Aa) (An (CO Aa Aa (Ax ?_)))))))))))))))));obtain rfl:=As h;exact Is (XI Tryz.results198) (sC (sC sN)) ⟨hd,Aa,Aa⟩
theorem Re (hb:Nat)(hd:Value)(l:(List Int))(c:Int)(r:Unit×(List Int))(h:Lr l c=some r):Fn Tryz.prog GE 165 [rP hb 0,rI .u8 c] [.blk hb [rP hb 0,rv hd] 177,.row hd 5 1 (A3 Cz l)] (λR H=>∃w0:Value,R=rv (.nilIface)∧H=[.blk hb [rP hb 0,rv w0] 177,.row w0 5 1 (A3 Cz r.2)]):=by
 refine enter (n:=17) Tryz.func165 Aa Tryz.ntmps165 Aa (λw Z=>?_);unfold Lr at h;refine Ae (wa Aa (Bv (wm Aa (ob h λr1 e3 h2=>EX [0,0] Tryz.call198 (US hb hd l r1 e3) ?_))));rintro _ _ ⟨v4,rfl,rfl⟩;refine Bv (wm Aa (wm Aa (wv (AG Aa) (vF HM Aa HQ (vL 0 O4 Aa (wm Aa (Bp (ys:=([c]:List Int)) (enc:=Cz) (css:=[[rI .u8 c]]) (xs:=[.tmp 12]) KH Tryz.sizeOf5 Tryz.zeroValue5 Aa Aa Aa ⟨Gl.one Aa (Up.refl _),trivial⟩ Aa LG Aa Aa Aa (λb5=>?_))))))));refine ck h2 λg7 h8=>Exists.elim WN λinf hinf=>Dn (xs:=r1) (ys:=([c]:List Int)) (enc:=Cz) (i:=2) KH hinf.1 hinf.2.1 hinf.2.2.1 hinf.2.2.2 Aa Aa Aa Aa Aa (Ox.w (i:=0) Aa Aa) LG RJ g7 Aa (λv6=>?_);refine wv (AG Aa) (vF HM Aa HQ (us (i:=2) HQ Aa Aa (E7 (i:=0) Aa) Aa Aa ?_));refine Bv (wa Aa (An (Ap (Js [2] ?_))));obtain rfl:=As h8;exact Ar (BE Tryz.results165 (AO Aa)) (sC (sC (sS sN))) ⟨v6,Aa,Aa⟩
theorem Pc (hb:Nat)(hd:Value)(l:(List Int))(s:Ah)(r:Int×Unit×(List Int))(h:Jk l s=some r):Fn Tryz.prog GE 162 [rP hb 0,rS s] [.blk hb [rP hb 0,rv hd] 177,.row hd 5 1 (A3 Cz l)] (λR H=>∃w0:Value,R=Dz [A2 r.1,rv (.nilIface)]∧H=[.blk hb [rP hb 0,rv w0] 177,.row w0 5 1 (A3 Cz r.2.2)]):=by
 refine enter (n:=19) Tryz.func162 Aa Tryz.ntmps162 Aa (λw Z=>?_);unfold Jk at h;refine Ae (wa Aa (wa Aa (Bv (wm Aa (ob h λr1 e3 h2=>EX [0,0] Tryz.call198 (US hb hd l r1 e3) ?_)))));rintro _ _ ⟨v4,rfl,rfl⟩;refine Bv (wm Aa (wm Aa (wv (AG Aa) (vF HM Aa HQ (vL 0 O4 Aa (wm Aa (ck h2 λg6 h7=>Exists.elim WN λinf hinf=>MK (xs:=r1) (i:=1) KH Dx hinf.1 hinf.2.1 hinf.2.2.1 hinf.2.2.2 Aa Aa Aa g6 Aa (λv5=>?_))))))));refine wv (AG Aa) (vF HM Aa HQ (us (i:=1) HQ Aa Aa (E7 (i:=0) Aa) Aa Aa ?_));refine Bv (wm Aa (wv (BO Dx Aa) (wa Aa (wa Aa (An (Ap (Js [1] ?_)))))));obtain rfl:=As h7;exact Ar (IO Tryz.results162 (AO Aa) (AO Aa)) (sC (sC sN)) ⟨v5,Aa,Aa⟩
theorem VR (hb:Nat)(hd:Value)(l:Ah)(r:Ah)(h:QE l=some r):Fn Tryz.prog GE 120 [rP hb 0] [.blk hb [rP hb 0,rv hd] 177,.row hd 5 1 (A3 Cz (Gi l))] (λR H=>R=rS r∧H=[]):=by
 refine enter (n:=14) Tryz.func120 Aa Tryz.ntmps120 Aa (λw Z=>?_);unfold QE at h;refine Ae (wv (r:=rS ([]:Ah)) (A5 Aa) (An (Al (ck h λg1 h2=>E0 (H1:=[.blk hb [rP hb 0,rv hd] 177]) [0] [⟨[],rP hb 0,0⟩,⟨[0],rP hb 0,0⟩,⟨[1],rP hb 1,0⟩,⟨[2],rv hd,1⟩,⟨[3],rv (slp hd),1⟩,⟨[],rP hb 0,0⟩,⟨[5],rP hb 0,0⟩,⟨[6],rP hb 1,0⟩,⟨[7],rv hd,1⟩,⟨[8],A2 ((Gi l).length:Int),1⟩,⟨[4,9],rS l,2⟩,⟨[10],rS l,0⟩] (rle [(11,_),(2,[.blk hb [rP hb 0,rv hd] 177])]) [2] ?_ ?_))))
 ·refine oq (Ak Aa) (oq (AG Aa) (oq (Aq HM Aa HQ Aa Aa) (of (Bc (i:=0) O4 Aa Aa Aa) (of (OE (i:=1) Aa Aa (Pp g1)) (oq (Ak Aa) (oq (AG Aa) (oq (Aq HM Aa HQ Aa Aa) (of (Bc (i:=0) O4 Aa Aa Aa) (of (CN (ys:=Gi l) (enc:=Cz) (i:=1) KH Aa Aa) (Ej Aa (AdG (Lt (i:=1) Tryz.underlying213 (by kernel_rfl) Aa Aa Aa (Pp g1) Aa)) ?_))))))))));refine oq (A5 Aa) ?_;exact D3
 refine AS (Ap ?_);obtain rfl:=As h2;exact Ar (BE Tryz.results120 (AO Aa)) (sS sN) ⟨Aa,Aa⟩
theorem CF (b:Nat)(v:Value)(l:Ah)(c:Int)(g1:DE 1 (l.length+1)=true)(g2:BM .u8 c=true):Fn Tryz.prog GE 165 [rP b 0,rI .u8 c] [.bld 177 5 b v l] (λR H=>∃w0:Value,R=rv .nilIface∧H=[.bld 177 5 b w0 (l++[UInt8.ofNat c.toNat])]):=by
  have hc:Gi (l++[UInt8.ofNat c.toNat])=Gi l++[c]:=by
    have:=(by simpa[BM,IntKind.min,IntKind.max,IntKind.signed,IntKind.bits] using g2:0≤c∧c≤255)
    simp only[Gi,List.map_append,AfN,List.map_nil]
    congr 2
    simp;omega
  refine Fn.bld (res:=rv .nilIface) λp hp=>?_;rw[hc];rcases hp with rfl | rfl
  · refine(Rf b v (Gi l) c (((),Gi l++[c])) ?_).sub (IH.refl _) (λr H h=>by obtain⟨w0,h1,h2⟩:=h;exact⟨w0,h1,h2⟩)
    simp only[Ls,Ov,Bs,E6];simp[Bl,g1]
  · refine(Re b v (Gi l) c (((),Gi l++[c])) ?_).sub (IH.refl _) (λr H h=>by obtain⟨w0,h1,h2⟩:=h;exact⟨w0,h1,h2⟩)
    simp only[Lr,Ou,Bs,E6];simp[Bl,g1]
theorem Hy (b:Nat)(v:Value)(l s:Ah)(g1:DE 1 (l.length+s.length)=true):Fn Tryz.prog GE 162 [rP b 0,rS s] [.bld 177 5 b v l] (λR H=>∃w0:Value,R=Dz [A2 (s.length:Int),rv .nilIface]∧H=[.bld 177 5 b w0 (l++s)]):=by
  have hc:Gi (l++s)=Gi l++Gi s:=by simp[Gi]
  refine Fn.bld (res:=Dz [A2 (s.length:Int),rv .nilIface]) λp hp=>?_;rw[hc];rcases hp with rfl | rfl
  · refine(Pd b v (Gi l) s (((s.length:Int),(),Gi l++Gi s)) ?_).sub (IH.refl _) (λr H h=>by obtain⟨w0,h1,h2⟩:=h;exact⟨w0,h1,h2⟩)
    simp only[Jl,Ov,Bs,E6];simp[Bl,g1]
  · refine(Pc b v (Gi l) s (((s.length:Int),(),Gi l++Gi s)) ?_).sub (IH.refl _) (λr H h=>by obtain⟨w0,h1,h2⟩:=h;exact⟨w0,h1,h2⟩)
    simp only[Jk,Ou,Bs,E6];simp[Bl,g1]
theorem RQ (b:Nat)(v:Value)(l:Ah)(g1:decide (0<l.length)=true):Fn Tryz.prog GE 120 [rP b 0] [.bld 177 5 b v l] (λR H=>R=rS l∧H=[]):=by
  refine Fn.bldS (res:=rS l) λp hp=>?_;rcases hp with rfl | rfl
  · exact VS b v l l (by simp only[QF,E6];simp[Bl,g1])
  · exact VR b v l l (by simp only[QE,E6];simp[Bl,g1])
end Go.Proofs.YtmjlemhondjfhaaGreatDoor.Q
namespace Go.Proofs.YtmjlemhondjfhaaGreatDoor
open Go
set_option linter.unusedVariables false
structure Ab where
 fKind:Int
 fInt:Int
 fStr:Ah
 fN:Int
 deriving DecidableEq,Inhabited
def L4 (s:Ah)(hb:Int):Option (Stp (Int) (Out (Bool) (Unit))):=
 B0 (decide (hb<(s.length:Int))) (Bl (Cn hb (s.length:Int))<|B0 (((decide ((Cs s hb)<32))||(decide (126<(Cs s hb))))) (some (.out (.ret false))) (Bl (BM .i64 (hb+1))<|some (.next (hb+1)))) (some (.out (.go ())))
def L3 :Option (Bool):=
 some true
def KO (F:Nat)(s:Ah):Option (Bool):=
 Bs (Cj (λσ=>L4 s σ) F 0) (Cf λν=>L3 )
def Ce (ok:Bool)(i:Int):Option (Int):=
 B0 (ok) (Bl (BM .i64 (i+1))<|some (i+1)) (some (-1))
def QY (F:Nat)(c:Ab):Option (Bool):=
 Bl (imp (decide (c.fKind=4)) (imp (decide (c.fInt=0)) (imp (decide (c.fN=0)) ((KO F c.fStr).isSome))))<|some ((decide (c.fKind=4))&&((decide (c.fInt=0))&&((decide (c.fN=0))&&(ov (KO F c.fStr)))))
def So (F:Nat)(hb:(List Ab)→Int→Int→Option (Int))(hd:(List Ab)→Int→Int→Option (Int))(v:(List Ab))(i:Int):Option (Int):=
 B0 (((decide (i<0))||(decide ((v.length:Int)≤i)))) (some (-1)) (Bl (Cn i (v.length:Int))<|B0 (decide (((Ao v i).fKind)=1)) (Bl (imp (decide (((Ao v i).fInt)=0)) (imp (decide (((Ao v i).fStr)=([]:Ah))) ((Ce (decide (((Ao v i).fN)=0)) i).isSome)))<|Bl (imp (decide (((Ao v i).fInt)=0)) (imp (!(decide (((Ao v i).fStr)=([]:Ah)))) ((Ce false i).isSome)))<|Bl (imp (!(decide (((Ao v i).fInt)=0))) ((Ce false i).isSome))<|some (bif decide (((Ao v i).fInt)=0) then(bif decide (((Ao v i).fStr)=([]:Ah)) then(ov (Ce (decide (((Ao v i).fN)=0)) i)) else(ov (Ce false i))) else(ov (Ce false i)))) (B0 (decide (((Ao v i).fKind)=2)) (Bl (imp (decide (((Ao v i).fInt)=0)) (imp (decide (((Ao v i).fStr)=([]:Ah))) ((Ce (decide (((Ao v i).fN)=0)) i).isSome)))<|Bl (imp (decide (((Ao v i).fInt)=0)) (imp (!(decide (((Ao v i).fStr)=([]:Ah)))) ((Ce false i).isSome)))<|Bl (imp (!(decide (((Ao v i).fInt)=0))) (imp (decide (((Ao v i).fInt)=1)) (imp (decide (((Ao v i).fStr)=([]:Ah))) ((Ce (decide (((Ao v i).fN)=0)) i).isSome))))<|Bl (imp (!(decide (((Ao v i).fInt)=0))) (imp (decide (((Ao v i).fInt)=1)) (imp (!(decide (((Ao v i).fStr)=([]:Ah)))) ((Ce false i).isSome))))<|Bl (imp (!(decide (((Ao v i).fInt)=0))) (imp (!(decide (((Ao v i).fInt)=1))) ((Ce false i).isSome)))<|some (bif decide (((Ao v i).fInt)=0) then(bif decide (((Ao v i).fStr)=([]:Ah)) then(ov (Ce (decide (((Ao v i).fN)=0)) i)) else(ov (Ce false i))) else(bif decide (((Ao v i).fInt)=1) then(bif decide (((Ao v i).fStr)=([]:Ah)) then(ov (Ce (decide (((Ao v i).fN)=0)) i)) else(ov (Ce false i))) else(ov (Ce false i))))) (B0 (decide (((Ao v i).fKind)=3)) (Bl (imp (decide (((Ao v i).fStr)=([]:Ah))) ((Ce (decide (((Ao v i).fN)=0)) i).isSome))<|Bl (imp (!(decide (((Ao v i).fStr)=([]:Ah)))) ((Ce false i).isSome))<|some (bif decide (((Ao v i).fStr)=([]:Ah)) then(ov (Ce (decide (((Ao v i).fN)=0)) i)) else(ov (Ce false i)))) (B0 (decide (((Ao v i).fKind)=4)) (Bs (QY F (Ao v i)) λhe=>Bs (Ce he i) λhf=>some hf) (B0 (((decide (((Ao v i).fKind)=5))&&((decide (((Ao v i).fInt)=0))&&((decide (((Ao v i).fStr)=([]:Ah)))&&(decide (0≤((Ao v i).fN))))))) (Bl (BM .i64 (i+1))<|Bs (hb v (i+1) ((Ao v i).fN)) λhg=>some hg) (B0 (((decide (((Ao v i).fKind)=6))&&((decide (((Ao v i).fInt)=0))&&((decide (((Ao v i).fStr)=([]:Ah)))&&(decide (0≤((Ao v i).fN))))))) (Bl (BM .i64 (i+1))<|Bs (hd v (i+1) ((Ao v i).fN)) λhh=>some hh) (some (-1))))))))
def Dq (v:(List Ab))(n:Int)(hf:(List Ab)→Int→Option (Int))(hd:Int)(hb:Int):Option (Stp (Int×Int) (Out (Int) (Int))):=
 B0 (decide (hb<n)) (Bs (hf v hd) λhe=>B0 (decide (he<0)) (some (.out (.ret (-1)))) (Bl (BM .i64 (hb+1))<|some (.next (he,hb+1)))) (some (.out (.go hd)))
def EY (hb:Int):Option (Int):=
 some hb
def Ke (F:Nat)(hb:(List Ab)→Int→Option (Int))(v:(List Ab))(i:Int)(n:Int):Option (Int):=
 Bs (Cj (λσ=>Dq v n hb σ.1 σ.2) F (i,0)) (Cf λν=>EY ν)
def Ed (F:Nat)(v:(List Ab))(n:Int)(hg:(List Ab)→Int→Option (Int))(hb:Int)(he:Ah)(hd:Int):Option (Stp (Int×Ah×Int) (Out (Int) (Int))):=
 B0 (decide (hd<n)) (Bl (imp (!(decide ((v.length:Int)≤hb))) (Cn hb (v.length:Int)))<|Bl (imp (!(decide ((v.length:Int)≤hb))) ((QY F (Ao v hb)).isSome))<|B0 (((decide ((v.length:Int)≤hb))||((!(ov (QY F (Ao v hb))))||((decide (0<hd))&&(Do ((Ao v hb).fStr) he||decide (((Ao v hb).fStr)=he)))))) (some (.out (.ret (-1)))) (Bl (Cn hb (v.length:Int))<|Bl (BM .i64 (hb+1))<|Bs (hg v (hb+1)) λhf=>B0 (decide (hf<0)) (some (.out (.ret (-1)))) (Bl (BM .i64 (hd+1))<|some (.next (hf,(Ao v hb).fStr,hd+1))))) (some (.out (.go hb)))
def Ii (hb:Int):Option (Int):=
 some hb
def Pm (F:Nat)(hb:(List Ab)→Int→Option (Int))(v:(List Ab))(i:Int)(n:Int):Option (Int):=
 Bs (Cj (λσ=>Ed F v n hb σ.1 σ.2.1 σ.2.2) F (i,([]:Ah),0)) (Cf λν=>Ii ν)
mutual
def Ei:Nat→(List Ab)→Int→Option (Int)
 | 0,_,_=>none
 | nn+1,v,i=>So nn (Ij nn) (NR nn) v i
def Ij:Nat→(List Ab)→Int→Int→Option (Int)
 | 0,_,_,_=>none
 | nn+1,v,i,n=>Ke nn (Ei nn) v i n
def NR:Nat→(List Ab)→Int→Int→Option (Int)
 | 0,_,_,_=>none
 | nn+1,v,i,n=>Pm nn (Ei nn) v i n
end
def Ne (F:Nat)(v:(List Ab)):Option (Bool):=
 Bl (imp (decide (0<(v.length:Int))) ((Ei F v 0).isSome))<|some ((decide (0<(v.length:Int)))&&(decide ((ov (Ei F v 0))=(v.length:Int))))
def Dl (F:Nat)(v:(List Ab))(i:Int)(hf:(List Ab)→Int→Option (Int))(he:Int)(hd:Int)(hb:Int):Option (Stp (Int×Int×Int) (Out (Int) (Int))):=
 B0 (decide (hb<((Ao v i).fN))) (B0 (decide (((Ao v i).fKind)=6)) (Bl (BM .i64 (hd+1))<|Bs (hf v (hd+1)) λhg=>B0 (decide (he<hg)) (Bs (Ei F v (hd+1)) λhi=>Bl (BM .i64 (hb+1))<|some (.next (hg,hi,hb+1))) (Bs (Ei F v (hd+1)) λhj=>Bl (BM .i64 (hb+1))<|some (.next (he,hj,hb+1)))) (Bs (hf v hd) λhh=>B0 (decide (he<hh)) (Bs (Ei F v hd) λhk=>Bl (BM .i64 (hb+1))<|some (.next (hh,hk,hb+1))) (Bs (Ei F v hd) λhl=>Bl (BM .i64 (hb+1))<|some (.next (he,hl,hb+1))))) (some (.out (.go he)))
def EK (hb:Int):Option (Int):=
 Bl (BM .i64 (hb+1))<|some (hb+1)
def J1 (F:Nat)(hb:(List Ab)→Int→Option (Int))(v:(List Ab))(i:Int):Option (Int):=
 Bl (Cn i (v.length:Int))<|B0 (((!decide (((Ao v i).fKind)=5))&&(!decide (((Ao v i).fKind)=6)))) (some 1) (Bl (BM .i64 (i+1))<|Bs (Cj (λσ=>Dl F v i hb σ.1 σ.2.1 σ.2.2) F (0,i+1,0)) (Cf λν=>EK ν))
def D7:Nat→(List Ab)→Int→Option (Int)
 | 0,_,_=>none
 | nn+1,v,i=>J1 nn (D7 nn) v i
def D0 (s:Ah)(hd:Ah)(hb:Int):Option (Stp (Ah×Int) (Out (Ah) (Ah))):=
 B0 (decide (hb<(s.length:Int))) (Bl (Cn hb (s.length:Int))<|B0 (((decide ((Cs s hb)=34))||(decide ((Cs s hb)=92)))) (Bl (BM .i64 ((hd.length:Int)+(([92]:Ah).length:Int)))<|Bl (BM .i64 (hb+1))<|Bl (K3 hb (hb+1))<|Bl (K3 (hb+1) (s.length:Int))<|Bl (BM .i64 (((hd++([92]:Ah)).length:Int)+((List.take (Int.toNat (hb+1)-Int.toNat hb) (List.drop (Int.toNat hb) s)).length:Int)))<|some (.next ((hd++([92]:Ah))++(List.take (Int.toNat (hb+1)-Int.toNat hb) (List.drop (Int.toNat hb) s)),hb+1))) (Bl (BM .i64 (hb+1))<|Bl (K3 hb (hb+1))<|Bl (K3 (hb+1) (s.length:Int))<|Bl (BM .i64 ((hd.length:Int)+((List.take (Int.toNat (hb+1)-Int.toNat hb) (List.drop (Int.toNat hb) s)).length:Int)))<|some (.next (hd++(List.take (Int.toNat (hb+1)-Int.toNat hb) (List.drop (Int.toNat hb) s)),hb+1)))) (some (.out (.go hd)))
def Er (hb:Ah):Option (Ah):=
 Bl (BM .i64 ((hb.length:Int)+(([34]:Ah).length:Int)))<|some (hb++([34]:Ah))
def Kd (F:Nat)(s:Ah):Option (Ah):=
 Bs (Cj (λσ=>D0 s σ.1 σ.2) F (([34]:Ah),0)) (Cf λν=>Er ν)
def EJ (F:Nat)(v:(List Ab))(i:Int)(hf:(List Ab)→Int→Option (Ah))(hb:Ah)(hd:Int)(he:Int):Option (Stp (Ah×Int×Int) (Out (Ah) (Ah))):=
 B0 (decide (he<((Ao v i).fN))) (B0 (decide (0<he)) (Bl (BM .i64 ((hb.length:Int)+(([44]:Ah).length:Int)))<|B0 (decide (((Ao v i).fKind)=6)) (Bl (Cn hd (v.length:Int))<|Bs (Kd F ((Ao v hd).fStr)) λhg=>Bl (BM .i64 (((hb++([44]:Ah)).length:Int)+(hg.length:Int)))<|Bl (BM .i64 ((((hb++([44]:Ah))++hg).length:Int)+(([58]:Ah).length:Int)))<|Bl (BM .i64 (hd+1))<|Bs (hf v (hd+1)) λhi=>Bl (BM .i64 (((((hb++([44]:Ah))++hg)++([58]:Ah)).length:Int)+(hi.length:Int)))<|Bs (Ei F v (hd+1)) λhm=>Bl (BM .i64 (he+1))<|some (.next ((((hb++([44]:Ah))++hg)++([58]:Ah))++hi,hm,he+1))) (Bs (hf v hd) λhj=>Bl (BM .i64 (((hb++([44]:Ah)).length:Int)+(hj.length:Int)))<|Bs (Ei F v hd) λhn=>Bl (BM .i64 (he+1))<|some (.next ((hb++([44]:Ah))++hj,hn,he+1)))) (B0 (decide (((Ao v i).fKind)=6)) (Bl (Cn hd (v.length:Int))<|Bs (Kd F ((Ao v hd).fStr)) λhh=>Bl (BM .i64 ((hb.length:Int)+(hh.length:Int)))<|Bl (BM .i64 (((hb++hh).length:Int)+(([58]:Ah).length:Int)))<|Bl (BM .i64 (hd+1))<|Bs (hf v (hd+1)) λhk=>Bl (BM .i64 ((((hb++hh)++([58]:Ah)).length:Int)+(hk.length:Int)))<|Bs (Ei F v (hd+1)) λhp=>Bl (BM .i64 (he+1))<|some (.next (((hb++hh)++([58]:Ah))++hk,hp,he+1))) (Bs (hf v hd) λhl=>Bl (BM .i64 ((hb.length:Int)+(hl.length:Int)))<|Bs (Ei F v hd) λhq=>Bl (BM .i64 (he+1))<|some (.next (hb++hl,hq,he+1))))) (some (.out (.go hb)))
def Iy (v:(List Ab))(i:Int)(hb:Ah):Option (Ah):=
 B0 (decide (((Ao v i).fKind)=6)) (Bl (BM .i64 ((([123]:Ah).length:Int)+(hb.length:Int)))<|Bl (BM .i64 (((([123]:Ah)++hb).length:Int)+(([125]:Ah).length:Int)))<|some ((([123]:Ah)++hb)++([125]:Ah))) (Bl (BM .i64 ((([91]:Ah).length:Int)+(hb.length:Int)))<|Bl (BM .i64 (((([91]:Ah)++hb).length:Int)+(([93]:Ah).length:Int)))<|some ((([91]:Ah)++hb)++([93]:Ah)))
def NP (F:Nat)(hb:(List Ab)→Int→Option (Ah))(v:(List Ab))(i:Int):Option (Ah):=
 Bl (Cn i (v.length:Int))<|B0 (decide (((Ao v i).fKind)=1)) (some ([110,117,108,108]:Ah)) (B0 (decide (((Ao v i).fKind)=2)) (B0 (decide (((Ao v i).fInt)=1)) (some ([116,114,117,101]:Ah)) (some ([102,97,108,115,101]:Ah))) (B0 (decide (((Ao v i).fKind)=3)) (Bl (BM .i64 ((Ao v i).fInt))<|some (Lib.itoa ((Ao v i).fInt))) (B0 (decide (((Ao v i).fKind)=4)) (Bs (Kd F ((Ao v i).fStr)) λhd=>some hd) (Bl (BM .i64 (i+1))<|Bs (Cj (λσ=>EJ F v i hb σ.1 σ.2.1 σ.2.2) F (([]:Ah),i+1,0)) (Cf λν=>Iy v i ν)))))
def HS:Nat→(List Ab)→Int→Option (Ah)
 | 0,_,_=>none
 | nn+1,v,i=>NP nn (HS nn) v i
def EZ (v:(List Ab))(hb:Int):Option (Stp (Int) (Out (Int) (Unit))):=
 B0 (decide (hb<(v.length:Int))) (Bl (Cn hb (v.length:Int))<|B0 (decide (200<(((Ao v hb).fStr).length:Int))) (some (.out (.ret 3))) (Bl (BM .i64 (hb+1))<|some (.next (hb+1)))) (some (.out (.go ())))
def J2 (F:Nat)(v:(List Ab)):Option (Int):=
 Bs (HS F v 0) λhb=>B0 (decide (4000<(hb.length:Int))) (some 3) (some 0)
def Ga (v:(List Ab))(hb:Int):Option (Stp (Int) (Out (Int) (Unit))):=
 B0 (decide (hb<(v.length:Int))) (Bl (Cn hb (v.length:Int))<|B0 (((decide (((Ao v hb).fKind)=3))&&((decide (((Ao v hb).fInt)<(-1000000000000)))||(decide (1000000000000<((Ao v hb).fInt)))))) (some (.out (.ret 2))) (Bl (BM .i64 (hb+1))<|some (.next (hb+1)))) (some (.out (.go ())))
def J3 (F:Nat)(v:(List Ab)):Option (Int):=
 Bl (imp (!(decide (200<(v.length:Int)))) ((D7 F v 0).isSome))<|B0 (((decide (200<(v.length:Int)))||(decide (8<(ov (D7 F v 0)))))) (some 3) (Bs (Cj (λσ=>EZ v σ) F 0) (Cf λν=>J2 F v ))
def Mu (F:Nat)(v:(List Ab)):Option (Int):=
 Bs (Ne F v) λr1=>B0 (!r1) (some 1) (Bs (Cj (λσ=>Ga v σ) F 0) (Cf λν=>J3 F v ))
end Go.Proofs.YtmjlemhondjfhaaGreatDoor
namespace Go.Proofs.YtmjlemhondjfhaaGreatDoor.Q
open Go Go.RowKit
set_option linter.unusedVariables false
set_option linter.unusedSimpArgs false
set_option maxRecDepth 100000
set_option maxHeartbeats 4000000
@[reducible] def Af (x:Ab):List Rp:=[A2 x.fKind,A2 x.fInt,rS x.fStr,A2 x.fN]
theorem Dw (x:Ab):(Af x).length=4:=rfl
theorem Rd (x:Ab):(Af x).all (·.one)=true:=rfl
theorem Zn (F:Nat)(s:Ah)(r:Bool)(h:KO F s=some r):Fn Tryz.prog GE 199 [rS s] [] (λR H=>R=rB r∧H=[]):=by
 refine enter (n:=20) Tryz.func199 Aa Tryz.ntmps199 Aa (λw Z=>?_);unfold KO at h;refine Ae (wa Aa (An (Al (Ae (wa Aa (An (AF (ob h λhj hk hh=>B2 (S:=Nat×(Int)×(Unit)) (V:=(Unit)×(Unit)) 0 (λσ=>Cj (λσ=>L4 s σ) σ.1 σ.2.1=some hj) (λσ=>[(0,rS s),(3,A2 σ.2.1)]) (λσ=>[]) (λσ=>σ.1) (F,0,()) hk (AM.c Aa (AM.c Aa AM.nil)) sN (λσ=>L3 =some r) (λσ=>[]) (λσ=>[]) ?_ ?_))))))))
 ·rintro⟨h1,hd,⟨⟩⟩ hl;refine GZ ?_;obtain⟨hm,rfl,t37,he,hg⟩:=Cu hl;replace he:L4 s hd=some t37:=he;unfold L4 at he;refine Al (Ae (wm Aa (wm Aa (wv (BO Dx Aa) (wv (C1 Aa Aa) (An (cz he Aa (λhn hp=>?_) (λhn hq=>?_))))))))
  ·refine Ax (AS (Al (AF (ck hp λhi hr=>AC [(0,rS s),(3,A2 hd),(19,rB ((decide ((Cs s hd)<32))||(decide (126<(Cs s hd)))))] [] ?_ ?_))))
   ·refine Aj (wm Aa (wm Aa (wv (BR Dx Aa Aa hi) (wv (C1 Aa Aa) (wm Aa (AU (decide ((Cs s hd)<32)) (λhb=>?_) (λhb=>?_)))))))
    ·refine wf hb (wf hb (wf hb (wf hb (wv (r:=rB true) (AB Aa hb Aa) (Am ?_)))));exact Cd hb
    refine wo hb (wm Aa (wo hb (wm Aa (wo hb (wv (BR Dx Aa Aa hi) (wo hb (wv (Ee Aa Aa) (II Aa hb Aa (Am ?_)))))))));exact Cd hb
   refine cz hr Aa (λhs ht=>?_) (λhs hu=>?_)
   ·refine Ae (wa Aa (An (Ap (A0 (Ac (Ac (Bu ?_)))))));have hw:=BF ht hg hh;refine A0 (Ac ?_);obtain rfl:=As hw;exact Ar (BE Tryz.results199 (AO Aa)) sN ⟨Aa,Aa⟩
   refine Ax (AH (AS (Aj (wm Aa (ck hu λhx hy=>wv (BA Aa Aa hx) (wa Aa (Am ?_)))))));have hz:=Bw hy hg;exact A4 (AK (hm,hd+1,()) ⟨hz,Afh _⟩ (AM.c Aa (AM.c Aa AM.nil)) sN)
  refine B4 (Ay ?_);have h0:=BP hq hg hh;exact Ay (Bn (AK ((),()) h0 AM.nil sN))
 rintro⟨⟨⟩,⟨⟩⟩ hf;refine HE ?_;replace hf:L3 =some r:=hf;unfold L3 at hf;refine Bm (AS (Ae (wa Aa (An (Ap ?_)))));obtain rfl:=As hf;exact Ar (BE Tryz.results199 (AO Aa)) sN ⟨Aa,Aa⟩
theorem EL (ok:Bool)(i:Int)(r:Int)(h:Ce ok i=some r):Fn Tryz.prog GE 168 [rB ok,A2 i] [] (λR H=>R=A2 r∧H=[]):=by
 refine enter (n:=8) Tryz.func168 Aa Tryz.ntmps168 Aa (λw Z=>?_);unfold Ce at h;refine Ae (wa Aa (An (Al (Ae (wm Aa (An (cz h Aa (λc1 h2=>?_) (λc1 h5=>?_))))))))
 ·refine Ae (wm Aa (ck h2 λg3 h4=>wv (BA Aa Aa g3) (wa Aa (An (Ap (Ac ?_))))));obtain rfl:=As h4;exact Ar (BE Tryz.results168 (AO Aa)) sN ⟨Aa,Aa⟩
 refine Ax (AS (Ae (wv (r:=A2 (-1)) (A5 Aa) (An (Ap ?_)))));obtain rfl:=As h5;exact Ar (BE Tryz.results168 (AO Aa)) sN ⟨Aa,Aa⟩
theorem Zp (F:Nat)(c:Ab)(r:Bool)(h:QY F c=some r):Fn Tryz.prog GE 169 [BB (Af c)] [] (λR H=>R=rB r∧H=[]):=by
 refine enter (n:=21) Tryz.func169 Aa Tryz.ntmps169 Aa (λw Z=>?_);unfold QY at h;refine Ae (Ci Aa Aa (λb1=>?_));refine wa Aa (An (ck h λg2 h3=>AC [(2,rB ((decide (c.fKind=4))&&((decide (c.fInt=0))&&((decide (c.fN=0))&&(ov (KO F c.fStr))))))] [] ?_ ?_))
 ·refine Aj (vF BH Aa EA (vL 0 EB Aa (wv (BI Aa Aa) (wm Aa (AU (decide (c.fKind=4)) (λc4=>?_) (λc4=>?_))))))
  ·refine wo c4 (vF BH Aa Dj (wo c4 (vL 0 DQ Aa (wo c4 (wv (BI Aa Aa) (Eb Aa c4 Aa (wm Aa (AU (decide (c.fInt=0)) (λc5=>?_) (λc5=>?_)))))))))
   ·refine wo c5 (vF BH Aa Dj (wo c5 (vL 0 DQ Aa (wo c5 (wv (BI Aa Aa) (Eb Aa c5 Aa (wm Aa (AU (decide (c.fN=0)) (λc6=>?_) (λc6=>?_)))))))))
    ·refine wo c6 (vF BH Aa CC (wo c6 (vL 0 Dp Aa (wo c6 (BX Tryz.call199 (Zn F c.fStr (ov (KO F c.fStr)) (CY (BY (BY (BY g2 c4) c5) c6))) Aa (Eb Aa c6 Aa (wa Aa (Am ?_))))))));exact Cd (And.intro c4 (And.intro c5 c6))
    refine wf c6 (wf c6 (wf c6 (wv (r:=rB false) (Av Aa c6 Aa) (wa Aa (Am ?_)))));exact Cd (And.intro c4 (And.intro c5 c6))
   refine wf c5 (wf c5 (wf c5 (wv (r:=rB false) (Av Aa c5 Aa) (wm Aa (wz Aa Aa (wz Aa Aa (wz Aa Aa (wv (r:=rB false) (Av (b:=false) Aa Aa Aa) (wa Aa (Am ?_))))))))));exact Cd (And.intro c4 c5)
  refine wf c4 (wf c4 (wf c4 (wv (r:=rB false) (Av Aa c4 Aa) (wm Aa (wz Aa Aa (wz Aa Aa (wz Aa Aa (wv (r:=rB false) (Av (b:=false) Aa Aa Aa) (wm Aa (wz Aa Aa (wz Aa Aa (wz Aa Aa (wv (r:=rB false) (Av (b:=false) Aa Aa Aa) (wa Aa (Am ?_)))))))))))))));exact Cd c4
 refine Ap ?_;obtain rfl:=As h3;exact Ar (BE Tryz.results169 (AO Aa)) sN ⟨Aa,Aa⟩
theorem Zo (F:Nat)(hp:(List Ab)→Int→Int→Option (Int))(hq:(List Ab)→Int→Int→Option (Int))(hs:(∀(v:(List Ab)) (i:Int) (n:Int) (r:Int),hp v i n=some r→Fn Tryz.prog GE 170 [AJ 4 (A3 Af v),A2 i,A2 n] [] (λR H=>R=A2 r∧H=[])))(ht:(∀(v:(List Ab)) (i:Int) (n:Int) (r:Int),hq v i n=some r→Fn Tryz.prog GE 171 [AJ 4 (A3 Af v),A2 i,A2 n] [] (λR H=>R=A2 r∧H=[])))(v:(List Ab))(i:Int)(r:Int)(h:So F hp hq v i=some r):Fn Tryz.prog GE 121 [AJ 4 (A3 Af v),A2 i] [] (λR H=>R=A2 r∧H=[]):=by
 refine enter (n:=127) Tryz.func121 Aa Tryz.ntmps121 Aa (λw Z=>?_);unfold So at h;refine Ae (wa Aa (An (Al (AC [(0,AJ 4 (A3 Af v)),(1,A2 i),(13,rB ((decide (i<0))||(decide ((v.length:Int)≤i))))] [] ?_ ?_))))
 ·refine Aj (wm Aa (wv (C1 Aa Aa) (wm Aa (AU (decide (i<0)) (λc1=>?_) (λc1=>?_)))))
  ·refine wf c1 (wf c1 (wf c1 (wf c1 (wv (r:=rB true) (AB Aa c1 Aa) (Am ?_)))));exact Cd c1
  refine wo c1 (wm Aa (wo c1 (wm Aa (wo c1 (wv (Br (ys:=v) (enc:=Af) CX Aa) (wo c1 (wv (EN Aa Aa) (II Aa c1 Aa (Am ?_)))))))));exact Cd c1
 refine cz h Aa (λc2 h3=>?_) (λc2 h4=>?_)
 ·refine Ae (wv (r:=A2 (-1)) (A5 Aa) (An (Ap (Ac ?_))));obtain rfl:=As h3;exact Ar (BE O2 (AO Aa)) sN ⟨Aa,Aa⟩
 refine Ax (AS (Ae (wm Aa (wm Aa (ck h4 λg5 h6=>wv (Bj (enc:=Af) (ys:=v) CX Di Aa Aa g5) (wv (C9 P7 Di Aa Aa Aa) (BK (cs:=[A2 0,A2 0,rS ([]:Ah),A2 0]) P0 Aa Aa (λb7=>?_))))))));refine Gy (i:=0) Di Aa Aa Aa (B6.c Aa) Aa Aa ?_;refine An (Al (Ae (vF BH Aa EA (vL 0 EB Aa (wv (BI Aa Aa) (An (cz h6 Aa (λc8 h9=>?_) (λc8 hu=>?_))))))))
 ·refine ck h9 λhw hx=>ck hx λhy hz=>ck hz λh0 h1=>AC [(4,A2 (bif decide (((Ao v i).fInt)=0) then(bif decide (((Ao v i).fStr)=([]:Ah)) then(ov (Ce (decide (((Ao v i).fN)=0)) i)) else(ov (Ce false i))) else(ov (Ce false i))))] [] ?_ ?_
  ·refine Aj (vF BH Aa Dj (vL 0 DQ Aa (wv (BI Aa Aa) (wm Aa (AU (decide (((Ao v i).fInt)=0)) (λhd=>?_) (λhd=>?_))))))
   ·refine wo hd (vF BH Aa CC (wo hd (vL 0 Dp Aa (wo hd (wv (Cy Aa Aa) (Eb Aa hd Aa (wm Aa (AU (decide (((Ao v i).fStr)=([]:Ah))) (λhf=>?_) (λhf=>?_)))))))))
    ·refine wo hf (vF BH Aa Dj (wo hf (vL 0 DQ Aa (wo hf (wv (BI Aa Aa) (Eb Aa hf Aa (wm Aa (BX KJ (EL (decide (((Ao v i).fN)=0)) i (ov (Ce (decide (((Ao v i).fN)=0)) i)) (CY (BY (BY hw hd) hf))) Aa (wa Aa (Am ?_))))))))));exact Cd (And.intro hd hf)
    refine wf hf (wf hf (wf hf (wv (r:=rB false) (Av Aa hf Aa) (wm Aa (BX KJ (EL false i (ov (Ce false i)) (CY (Dd (BY hy hd) hf))) Aa (wa Aa (Am ?_)))))));exact Cd (And.intro hd hf)
   refine wf hd (wf hd (wf hd (wv (r:=rB false) (Av Aa hd Aa) (wm Aa (wz Aa Aa (wz Aa Aa (wz Aa Aa (wv (r:=rB false) (Av (b:=false) Aa Aa Aa) (wm Aa (BX KJ (EL false i (ov (Ce false i)) (CY (Dd h0 hd))) Aa (wa Aa (Am ?_))))))))))));exact Cd hd
  refine Ap (Ac ?_);obtain rfl:=As h1;exact Ar (BE O2 (AO Aa)) sN ⟨Aa,Aa⟩
 refine Ax (AS (Al (Ae (vF BH Aa EA (vL 0 EB Aa (wv (BI Aa Aa) (An (cz hu Aa (λh2 h5=>?_) (λh2 h7=>?_)))))))))
 ·refine ck h5 λh8 hA=>ck hA λhB hC=>ck hC λhD hE=>ck hE λhG hH=>ck hH λhI hJ=>AC [(4,A2 (bif decide (((Ao v i).fInt)=0) then(bif decide (((Ao v i).fStr)=([]:Ah)) then(ov (Ce (decide (((Ao v i).fN)=0)) i)) else(ov (Ce false i))) else(bif decide (((Ao v i).fInt)=1) then(bif decide (((Ao v i).fStr)=([]:Ah)) then(ov (Ce (decide (((Ao v i).fN)=0)) i)) else(ov (Ce false i))) else(ov (Ce false i)))))] [] ?_ ?_
  ·refine Aj (vF BH Aa Dj (vL 0 DQ Aa (wv (BI Aa Aa) (wm Aa (AU (decide (((Ao v i).fInt)=0)) (λhb=>?_) (λhb=>?_))))))
   ·refine wf hb (wf hb (wf hb (wv (r:=rB true) (AB Aa hb Aa) (wm Aa (Bd (b:=true) Aa Aa Aa (vF BH Aa CC (Bd (b:=true) Aa Aa Aa (vL 0 Dp Aa (Bd (b:=true) Aa Aa Aa (wv (Cy Aa Aa) (wv (r:=rB (decide (((Ao v i).fStr)=([]:Ah)))) (AB (b:=true) Aa Aa Aa) (wm Aa (AU (decide (((Ao v i).fStr)=([]:Ah))) (λhg=>?_) (λhg=>?_))))))))))))))
    ·refine wo hg (vF BH Aa Dj (wo hg (vL 0 DQ Aa (wo hg (wv (BI Aa Aa) (Eb Aa hg Aa (wm Aa (BX KJ (EL (decide (((Ao v i).fN)=0)) i (ov (Ce (decide (((Ao v i).fN)=0)) i)) (CY (BY (BY h8 hb) hg))) Aa (wa Aa (Am ?_))))))))));exact Cd (And.intro hb hg)
    refine wf hg (wf hg (wf hg (wv (r:=rB false) (Av Aa hg Aa) (wm Aa (BX KJ (EL false i (ov (Ce false i)) (CY (Dd (BY hB hb) hg))) Aa (wa Aa (Am ?_)))))));exact Cd (And.intro hb hg)
   refine wo hb (vF BH Aa Dj (wo hb (vL 0 DQ Aa (wo hb (wv (BI Aa Aa) (II Aa hb Aa (wm Aa (AU (decide (((Ao v i).fInt)=1)) (λhe=>?_) (λhe=>?_)))))))))
   ·refine wo he (vF BH Aa CC (wo he (vL 0 Dp Aa (wo he (wv (Cy Aa Aa) (Eb Aa he Aa (wm Aa (AU (decide (((Ao v i).fStr)=([]:Ah))) (λhh=>?_) (λhh=>?_)))))))))
    ·refine wo hh (vF BH Aa Dj (wo hh (vL 0 DQ Aa (wo hh (wv (BI Aa Aa) (Eb Aa hh Aa (wm Aa (BX KJ (EL (decide (((Ao v i).fN)=0)) i (ov (Ce (decide (((Ao v i).fN)=0)) i)) (CY (BY (BY (Dd hD hb) he) hh))) Aa (wa Aa (Am ?_))))))))));exact Cd (And.intro hb (And.intro he hh))
    refine wf hh (wf hh (wf hh (wv (r:=rB false) (Av Aa hh Aa) (wm Aa (BX KJ (EL false i (ov (Ce false i)) (CY (Dd (BY (Dd hG hb) he) hh))) Aa (wa Aa (Am ?_)))))));exact Cd (And.intro hb (And.intro he hh))
   refine wf he (wf he (wf he (wv (r:=rB false) (Av Aa he Aa) (wm Aa (wz Aa Aa (wz Aa Aa (wz Aa Aa (wv (r:=rB false) (Av (b:=false) Aa Aa Aa) (wm Aa (BX KJ (EL false i (ov (Ce false i)) (CY (Dd (Dd hI hb) he))) Aa (wa Aa (Am ?_))))))))))));exact Cd (And.intro hb he)
  refine Ap (Ac ?_);obtain rfl:=As hJ;exact Ar (BE O2 (AO Aa)) sN ⟨Aa,Aa⟩
 refine Ax (AS (Al (Ae (vF BH Aa EA (vL 0 EB Aa (wv (BI Aa Aa) (An (cz h7 Aa (λhK hL=>?_) (λhK hN=>?_)))))))))
 ·refine ck hL λhO hP=>ck hP λhQ hR=>AC [(4,A2 (bif decide (((Ao v i).fStr)=([]:Ah)) then(ov (Ce (decide (((Ao v i).fN)=0)) i)) else(ov (Ce false i))))] [] ?_ ?_
  ·refine Aj (vF BH Aa CC (vL 0 Dp Aa (wv (Cy Aa Aa) (wm Aa (AU (decide (((Ao v i).fStr)=([]:Ah))) (λhi=>?_) (λhi=>?_))))))
   ·refine wo hi (vF BH Aa Dj (wo hi (vL 0 DQ Aa (wo hi (wv (BI Aa Aa) (Eb Aa hi Aa (wm Aa (BX KJ (EL (decide (((Ao v i).fN)=0)) i (ov (Ce (decide (((Ao v i).fN)=0)) i)) (CY (BY hO hi))) Aa (wa Aa (Am ?_))))))))));exact Cd hi
   refine wf hi (wf hi (wf hi (wv (r:=rB false) (Av Aa hi Aa) (wm Aa (BX KJ (EL false i (ov (Ce false i)) (CY (Dd hQ hi))) Aa (wa Aa (Am ?_)))))));exact Cd hi
  refine Ap (Ac ?_);obtain rfl:=As hR;exact Ar (BE O2 (AO Aa)) sN ⟨Aa,Aa⟩
 refine Ax (AS (Al (Ae (vF BH Aa EA (vL 0 EB Aa (wv (BI Aa Aa) (An (cz hN Aa (λhS hT=>?_) (λhS hU=>?_)))))))))
 ·refine Ae (wv (Bx (i:=0) P7 Di Aa Aa Aa Aa) (ob hT λhr hV hW=>BX Tryz.call169 (Zp F (Ao v i) hr hV) Aa (wm Aa (ob hW λhX hY hZ=>BX KJ (EL hr i hX hY) Aa (wa Aa (An (Ap (Ac ?_))))))));obtain rfl:=As hZ;exact Ar (BE O2 (AO Aa)) (sS sN) ⟨Aa,Aa⟩
 refine Ax (AS (Al (AC [(0,AJ 4 (A3 Af v)),(1,A2 i),(5,rP b7 0),(96,rB ((decide (((Ao v i).fKind)=5))&&((decide (((Ao v i).fInt)=0))&&((decide (((Ao v i).fStr)=([]:Ah)))&&(decide (0≤((Ao v i).fN)))))))] [.blk b7 (Af (Ao v i)) 70] ?_ ?_)))
 ·refine Aj (vF BH Aa EA (vL 0 EB Aa (wv (BI Aa Aa) (wm Aa (AU (decide (((Ao v i).fKind)=5)) (λc53=>?_) (λc53=>?_))))))
  ·refine wo c53 (vF BH Aa Dj (wo c53 (vL 0 DQ Aa (wo c53 (wv (BI Aa Aa) (Eb Aa c53 Aa (wm Aa (AU (decide (((Ao v i).fInt)=0)) (λhk=>?_) (λhk=>?_)))))))))
   ·refine wo hk (vF BH Aa CC (wo hk (vL 0 Dp Aa (wo hk (wv (Cy Aa Aa) (Eb Aa hk Aa (wm Aa (AU (decide (((Ao v i).fStr)=([]:Ah))) (λhm=>?_) (λhm=>?_)))))))))
    ·refine wo hm (vF BH Aa Dj (wo hm (vL 0 DQ Aa (wo hm (wv (EN Aa Aa) (Eb Aa hm Aa (Am ?_)))))));exact Cd (And.intro c53 (And.intro hk hm))
    refine wf hm (wf hm (wf hm (wv (r:=rB false) (Av Aa hm Aa) (Am ?_))));exact Cd (And.intro c53 (And.intro hk hm))
   refine wf hk (wf hk (wf hk (wv (r:=rB false) (Av Aa hk Aa) (wm Aa (wz Aa Aa (wz Aa Aa (wz Aa Aa (wv (r:=rB false) (Av (b:=false) Aa Aa Aa) (Am ?_)))))))));exact Cd (And.intro c53 hk)
  refine wf c53 (wf c53 (wf c53 (wv (r:=rB false) (Av Aa c53 Aa) (wm Aa (wz Aa Aa (wz Aa Aa (wz Aa Aa (wv (r:=rB false) (Av (b:=false) Aa Aa Aa) (wm Aa (wz Aa Aa (wz Aa Aa (wz Aa Aa (wv (r:=rB false) (Av (b:=false) Aa Aa Aa) (Am ?_))))))))))))));exact Cd c53
 refine cz hU Aa (λga gb=>?_) (λga gc=>?_)
 ·refine Ae (wm Aa (wm Aa (ck gb λgd ge=>wv (BA Aa Aa gd) (vF BH Aa Dj (vL 0 DQ Aa (ob ge λgf gg gh=>BX Tryz.call170 (hs v (i+1) ((Ao v i).fN) gf gg) Aa (wa Aa (An (Ap (Ac ?_))))))))));obtain rfl:=As gh;exact Ar (BE O2 (AO Aa)) (sS sN) ⟨Aa,Aa⟩
 refine Ax (AS (Al (AC [(0,AJ 4 (A3 Af v)),(1,A2 i),(5,rP b7 0),(120,rB ((decide (((Ao v i).fKind)=6))&&((decide (((Ao v i).fInt)=0))&&((decide (((Ao v i).fStr)=([]:Ah)))&&(decide (0≤((Ao v i).fN)))))))] [.blk b7 (Af (Ao v i)) 70] ?_ ?_)))
 ·refine Aj (vF BH Aa EA (vL 0 EB Aa (wv (BI Aa Aa) (wm Aa (AU (decide (((Ao v i).fKind)=6)) (λhj=>?_) (λhj=>?_))))))
  ·refine wo hj (vF BH Aa Dj (wo hj (vL 0 DQ Aa (wo hj (wv (BI Aa Aa) (Eb Aa hj Aa (wm Aa (AU (decide (((Ao v i).fInt)=0)) (λhl=>?_) (λhl=>?_)))))))))
   ·refine wo hl (vF BH Aa CC (wo hl (vL 0 Dp Aa (wo hl (wv (Cy Aa Aa) (Eb Aa hl Aa (wm Aa (AU (decide (((Ao v i).fStr)=([]:Ah))) (λhn=>?_) (λhn=>?_)))))))))
    ·refine wo hn (vF BH Aa Dj (wo hn (vL 0 DQ Aa (wo hn (wv (EN Aa Aa) (Eb Aa hn Aa (Am ?_)))))));exact Cd (And.intro hj (And.intro hl hn))
    refine wf hn (wf hn (wf hn (wv (r:=rB false) (Av Aa hn Aa) (Am ?_))));exact Cd (And.intro hj (And.intro hl hn))
   refine wf hl (wf hl (wf hl (wv (r:=rB false) (Av Aa hl Aa) (wm Aa (wz Aa Aa (wz Aa Aa (wz Aa Aa (wv (r:=rB false) (Av (b:=false) Aa Aa Aa) (Am ?_)))))))));exact Cd (And.intro hj hl)
  refine wf hj (wf hj (wf hj (wv (r:=rB false) (Av Aa hj Aa) (wm Aa (wz Aa Aa (wz Aa Aa (wz Aa Aa (wv (r:=rB false) (Av (b:=false) Aa Aa Aa) (wm Aa (wz Aa Aa (wz Aa Aa (wz Aa Aa (wv (r:=rB false) (Av (b:=false) Aa Aa Aa) (Am ?_))))))))))))));exact Cd hj
 refine cz gc Aa (λgi gj=>?_) (λgi gl=>?_)
 ·refine Ae (wm Aa (wm Aa (ck gj λgm gp=>wv (BA Aa Aa gm) (vF BH Aa Dj (vL 0 DQ Aa (ob gp λgq gr gs=>BX Tryz.call171 (ht v (i+1) ((Ao v i).fN) gq gr) Aa (wa Aa (An (Ap (Ac ?_))))))))));obtain rfl:=As gs;exact Ar (BE O2 (AO Aa)) (sS sN) ⟨Aa,Aa⟩
 refine Ax (AS (Ae (wv (r:=A2 (-1)) (A5 Aa) (An (Ap ?_)))));obtain rfl:=As gl;exact Ar (BE O2 (AO Aa)) (sS sN) ⟨Aa,Aa⟩
theorem Sq (F:Nat)(hb:(List Ab)→Int→Option (Int))(hk:(∀(v:(List Ab)) (i:Int) (r:Int),hb v i=some r→Fn Tryz.prog GE 121 [AJ 4 (A3 Af v),A2 i] [] (λR H=>R=A2 r∧H=[])))(v:(List Ab))(i:Int)(n:Int)(r:Int)(h:Ke F hb v i n=some r):Fn Tryz.prog GE 170 [AJ 4 (A3 Af v),A2 i,A2 n] [] (λR H=>R=A2 r∧H=[]):=by
 refine enter (n:=19) Tryz.func170 Aa Tryz.ntmps170 Aa (λw Z=>?_);unfold Ke at h;refine Ae (wa Aa (An (Al (Ae (wa Aa (An (AF (ob h λhl hm hh=>B2 (S:=Nat×(Int×Int)×(Unit)) (V:=(Int)×(Unit)) 0 (λσ=>Cj (λσ=>Dq v n hb σ.1 σ.2) σ.1 σ.2.1=some hl) (λσ=>[(0,AJ 4 (A3 Af v)),(1,A2 σ.2.1.1),(2,A2 n),(6,A2 0),(7,A2 σ.2.1.2)]) (λσ=>[]) (λσ=>σ.1) (F,(i,0),()) hm (AM.c5 Aa Aa Aa Aa Aa AM.nil) sN (λσ=>EY σ.1=some r) (λσ=>[(1,A2 σ.1),(6,A2 0)]) (λσ=>[]) ?_ ?_))))))))
 ·rintro⟨h4,⟨hf,hi⟩,⟨⟩⟩ hn;refine GZ ?_;obtain⟨hp,rfl,hq,hd,hg⟩:=Cu hn;replace hd:Dq v n hb hf hi=some hq:=hd;unfold Dq at hd;refine Al (Ae (wm Aa (wm Aa (wv (C1 Aa Aa) (An (cz hd Aa (λc46 hr=>?_) (λc46 hs=>?_)))))))
  ·refine Ax (AS (Al (AF (Ae (wm Aa (wm Aa (ob hr λhj ht hu=>BX KK (hk v hf hj ht) Aa (wa Aa (Bv (wm Aa (wv (C1 Aa Aa) (An (cz hu Aa (λc51 hw=>?_) (λc51 hx=>?_))))))))))))))
   ·refine Ae (wv (r:=A2 (-1)) (A5 Aa) (An (Ap (A0 (Ac (Ac (Bu ?_)))))));have hy:=BF hw hg hh;refine A0 (Ac ?_);obtain rfl:=As hy;exact Ar (BE Tryz.results170 (AO Aa)) sN ⟨Aa,Aa⟩
   refine Ax (AH (AS (Aj (wm Aa (ck hx λhz h0=>wv (BA Aa Aa hz) (wa Aa (Am ?_)))))));have h1:=Bw h0 hg;exact A4 (AK (hp,(hj,hi+1),()) ⟨h1,Afh _⟩ (AM.c5 Aa Aa Aa Aa Aa AM.nil) sN)
  refine B4 (Ay ?_);have h2:=BP hs hg hh;exact Ay (Bn (AK (hf,()) h2 (AM.c Aa (AM.c Aa AM.nil)) sN))
 rintro⟨h3,⟨⟩⟩ he;refine HE ?_;replace he:EY h3=some r:=he;unfold EY at he;refine Bm (AS (Ae (wm Aa (wa Aa (An (Ap ?_))))));obtain rfl:=As he;exact Ar (BE Tryz.results170 (AO Aa)) sN ⟨Aa,Aa⟩
theorem XL (F:Nat)(hh:(List Ab)→Int→Option (Int))(hq:(∀(v:(List Ab)) (i:Int) (r:Int),hh v i=some r→Fn Tryz.prog GE 121 [AJ 4 (A3 Af v),A2 i] [] (λR H=>R=A2 r∧H=[])))(v:(List Ab))(i:Int)(n:Int)(r:Int)(h:Pm F hh v i n=some r):Fn Tryz.prog GE 171 [AJ 4 (A3 Af v),A2 i,A2 n] [] (λR H=>R=A2 r∧H=[]):=by
 refine enter (n:=51) Tryz.func171 Aa Tryz.ntmps171 Aa (λw Z=>?_);unfold Pm at h;refine Ae (wa Aa (Bv (wv (r:=rS ([]:Ah)) (A5 Aa) (An (Al (Ae (wa Aa (An (AF (ob h λhr hs hl=>B2 (S:=Nat×(Int×Ah×Int)×(Unit)) (V:=(Int)×(Unit)) 0 (λσ=>Cj (λσ=>Ed F v n hh σ.1 σ.2.1 σ.2.2) σ.1 σ.2.1=some hr) (λσ=>[(0,AJ 4 (A3 Af v)),(1,A2 σ.2.1.1),(2,A2 n),(7,rS σ.2.1.2.1),(8,A2 σ.2.1.2.2)]) (λσ=>[]) (λσ=>σ.1) (F,(i,([]:Ah),0),()) hs (AM.c5 Aa Aa Aa Aa Aa AM.nil) sN (λσ=>Ii σ.1=some r) (λσ=>[(1,A2 σ.1)]) (λσ=>[]) ?_ ?_))))))))))
 ·rintro⟨hO,⟨hf,hm,hg⟩,⟨⟩⟩ ht;refine GZ ?_;obtain⟨hu,rfl,hw,hi,hj⟩:=Cu ht;replace hi:Ed F v n hh hf hm hg=some hw:=hi;unfold Ed at hi;refine Al (Ae (wm Aa (wm Aa (wv (C1 Aa Aa) (An (cz hi Aa (λhx hy=>?_) (λhx hz=>?_)))))))
  ·refine Ax (AS (Al (AF (Al (ck hy λhn h0=>ck h0 λh1 h2=>AC [(0,AJ 4 (A3 Af v)),(1,A2 hf),(2,A2 n),(8,A2 hg),(38,rB ((decide ((v.length:Int)≤hf))||((!(ov (QY F (Ao v hf))))||((decide (0<hg))&&(Do ((Ao v hf).fStr) hm||decide (((Ao v hf).fStr)=hm))))))] [] ?_ ?_)))))
   ·refine Aj (wm Aa (wm Aa (wv (Br (ys:=v) (enc:=Af) CX Aa) (wv (EN Aa Aa) (wm Aa (AU (decide ((v.length:Int)≤hf)) (λhb=>?_) (λhb=>?_)))))))
    ·refine wf hb (wf hb (wf hb (wf hb (wf hb (wf hb (wv (r:=rB true) (AB Aa hb Aa) (wm Aa (wz Aa Aa (wz Aa Aa (wz Aa Aa (wu (wu (wu (wu (wu (wu (wu (wz Aa Aa (wv (r:=rB true) (AB (b:=true) Aa Aa Aa) (Am ?_))))))))))))))))))));exact Cd hb
    refine wo hb (wm Aa (wo hb (wm Aa (wo hb (wv (Bj (enc:=Af) (ys:=v) CX Di Aa Aa (Dd hn hb)) (wo hb (wv (C9 P7 Di Aa Aa Aa) (wo hb (BX Tryz.call169 (Zp F (Ao v hf) (ov (QY F (Ao v hf))) (CY (Dd h1 hb))) Aa (wo hb (wv (Cc Aa) (II Aa hb Aa (wm Aa (AU (!(ov (QY F (Ao v hf)))) (λhe=>?_) (λhe=>?_)))))))))))))))
    ·refine wf he (wf he (wf he (wu (wu (wu (wu (wu (wu (wu (wf he (wv (r:=rB true) (AB Aa he Aa) (Am ?_))))))))))));exact Cd (And.intro hb he)
    refine wo he (wm Aa (wo he (wv (Ee Aa Aa) (wo he (wm Aa (AU (decide (0<hg)) (λhd=>?_) (λhd=>?_)))))))
    ·refine wo hd (wm Aa (wo hd (wm Aa (wo hd (wv (Bj (enc:=Af) (ys:=v) CX Di Aa Aa (Dd hn hb)) (wo hd (wv (AI BH Aa CC Aa Aa) (wo hd (wv (AV Dp Aa Aa) (wo hd (wm Aa (wo hd (wv (TR Aa Aa) (wo he (Eb Aa hd Aa (II Aa he Aa (Am ?_)))))))))))))))));exact Cd (And.intro hb (And.intro he hd))
    refine wf hd (wf hd (wf hd (wf hd (wf hd (wf hd (wf hd (wo he (wv (r:=rB false) (Av Aa hd Aa) (II Aa he Aa (Am ?_))))))))));exact Cd (And.intro hb (And.intro he hd))
   refine cz h2 Aa (λh3 h4=>?_) (λh3 h5=>?_)
   ·refine Ae (wv (r:=A2 (-1)) (A5 Aa) (An (Ap (Ac (A0 (Ac (Ac (Bu ?_))))))));have h6:=BF h4 hj hl;refine A0 (Ac ?_);obtain rfl:=As h6;exact Ar (BE Tryz.results171 (AO Aa)) sN ⟨Aa,Aa⟩
   refine Ax (AS (Ae (wm Aa (wm Aa (ck h5 λh7 h8=>wv (Bj (enc:=Af) (ys:=v) CX Di Aa Aa h7) (wv (AI BH Aa CC Aa Aa) (wv (AV Dp Aa Aa) (wa Aa (Bv (wm Aa (wm Aa (ck h8 λh9 hA=>wv (BA Aa Aa h9) (ob hA λhp hB hC=>BX KK (hq v (hf+1) hp hB) Aa (wa Aa (Bv (wm Aa (wv (C1 Aa Aa) (An (cz hC Aa (λhD hE=>?_) (λhD hG=>?_))))))))))))))))))))
   ·refine Ae (wv (r:=A2 (-1)) (A5 Aa) (An (Ap (A0 (Ac (Ac (Bu ?_)))))));have hH:=BF hE hj hl;refine A0 (Ac ?_);obtain rfl:=As hH;exact Ar (BE Tryz.results171 (AO Aa)) sN ⟨Aa,Aa⟩
   refine Ax (AH (AS (Aj (wm Aa (ck hG λhI hJ=>wv (BA Aa Aa hI) (wa Aa (Am ?_)))))));have hK:=Bw hJ hj;exact A4 (AK (hu,(hp,(Ao v hf).fStr,hg+1),()) ⟨hK,Afh _⟩ (AM.c5 Aa Aa Aa Aa Aa AM.nil) sN)
  refine B4 (Ay ?_);have hL:=BP hz hj hl;exact Ay (Bn (AK (hf,()) hL (AM.c Aa AM.nil) sN))
 rintro⟨hN,⟨⟩⟩ hk;refine HE ?_;replace hk:Ii hN=some r:=hk;unfold Ii at hk;refine Bm (AS (Ae (wm Aa (wa Aa (An (Ap ?_))))));obtain rfl:=As hk;exact Ar (BE Tryz.results171 (AO Aa)) sN ⟨Aa,Aa⟩
theorem J0:∀F:Nat,(∀(v:(List Ab)) (i:Int) (r:Int),Ei F v i=some r→Fn Tryz.prog GE 121 [AJ 4 (A3 Af v),A2 i] [] (λR H=>R=A2 r∧H=[]))∧(∀(v:(List Ab)) (i:Int) (n:Int) (r:Int),Ij F v i n=some r→Fn Tryz.prog GE 170 [AJ 4 (A3 Af v),A2 i,A2 n] [] (λR H=>R=A2 r∧H=[]))∧(∀(v:(List Ab)) (i:Int) (n:Int) (r:Int),NR F v i n=some r→Fn Tryz.prog GE 171 [AJ 4 (A3 Af v),A2 i,A2 n] [] (λR H=>R=A2 r∧H=[]))
  | 0=>⟨(λ_ _ _ h=>by simp[Ei] at h),(λ_ _ _ _ h=>by simp[Ij] at h),(λ_ _ _ _ h=>by simp[NR] at h)⟩
  | nn+1=>⟨(λv i r h=>Zo nn (Ij nn) (NR nn) (J0 nn).2.1 (J0 nn).2.2 v i r (by rw[Ei] at h;exact h)),(λv i n r h=>Sq nn (Ei nn) (J0 nn).1 v i n r (by rw[Ij] at h;exact h)),(λv i n r h=>XL nn (Ei nn) (J0 nn).1 v i n r (by rw[NR] at h;exact h))⟩
theorem HZ (F:Nat)(v:(List Ab))(i:Int)(r:Int)(h:Ei F v i=some r):Fn Tryz.prog GE 121 [AJ 4 (A3 Af v),A2 i] [] (λR H=>R=A2 r∧H=[]):=(J0 F).1 v i r h
theorem XO (F:Nat)(v:(List Ab))(r:Bool)(h:Ne F v=some r):Fn Tryz.prog GE 68 [AJ 4 (A3 Af v)] [] (λR H=>R=rB r∧H=[]):=by
 refine enter (n:=13) Tryz.func68 Aa Tryz.ntmps68 Aa (λw Z=>?_);unfold Ne at h;refine Ae (wa Aa (An (ck h λg1 h2=>AC [(2,rB ((decide (0<(v.length:Int)))&&(decide ((ov (Ei F v 0))=(v.length:Int)))))] [] ?_ ?_)))
 ·refine Aj (wm Aa (wv (Br (ys:=v) (enc:=Af) CX Aa) (wv (Ee Aa Aa) (wm Aa (AU (decide (0<(v.length:Int))) (λc3=>?_) (λc3=>?_))))))
  ·refine wo c3 (wm Aa (wo c3 (BX KK (HZ F v 0 (ov (Ei F v 0)) (CY (BY g1 c3))) Aa (wo c3 (wm Aa (wo c3 (wv (Br (ys:=v) (enc:=Af) CX Aa) (wo c3 (wv (BI Aa Aa) (Eb Aa c3 Aa (wa Aa (Am ?_))))))))))));exact Cd c3
  refine wf c3 (wf c3 (wf c3 (wf c3 (wf c3 (wv (r:=rB false) (Av Aa c3 Aa) (wa Aa (Am ?_)))))));exact Cd c3
 refine Ap ?_;obtain rfl:=As h2;exact Ar (BE Tryz.results68 (AO Aa)) sN ⟨Aa,Aa⟩
theorem Vw (F:Nat)(hf:(List Ab)→Int→Option (Int))(hk:(∀(v:(List Ab)) (i:Int) (r:Int),hf v i=some r→Fn Tryz.prog GE 69 [AJ 4 (A3 Af v),A2 i] [] (λR H=>R=A2 r∧H=[])))(v:(List Ab))(i:Int)(r:Int)(h:J1 F hf v i=some r):Fn Tryz.prog GE 69 [AJ 4 (A3 Af v),A2 i] [] (λR H=>R=A2 r∧H=[]):=by
 refine enter (n:=47) Tryz.func69 Aa Tryz.ntmps69 Aa (λw Z=>?_);unfold J1 at h;refine Ae (wa Aa (Bv (wm Aa (wm Aa (ck h λg1 h2=>wv (Bj (enc:=Af) (ys:=v) CX Di Aa Aa g1) (wv (C9 P7 Di Aa Aa Aa) (BK (cs:=[A2 0,A2 0,rS ([]:Ah),A2 0]) P0 Aa Aa (λb3=>?_))))))));refine Gy (i:=0) Di Aa Aa Aa (B6.c Aa) Aa Aa ?_;refine An (Al (AC [(0,AJ 4 (A3 Af v)),(1,A2 i),(5,rP b3 0),(21,rB ((!decide (((Ao v i).fKind)=5))&&(!decide (((Ao v i).fKind)=6))))] [.blk b3 (Af (Ao v i)) 70] ?_ ?_))
 ·refine Aj (vF BH Aa EA (vL 0 EB Aa (wv (Ct Aa Aa) (wm Aa (AU (!decide (((Ao v i).fKind)=5)) (λc4=>?_) (λc4=>?_))))))
  ·refine wo c4 (vF BH Aa EA (wo c4 (vL 0 EB Aa (wo c4 (wv (Ct Aa Aa) (Eb Aa c4 Aa (Am ?_)))))));exact Cd c4
  refine wf c4 (wf c4 (wf c4 (wv (r:=rB false) (Av Aa c4 Aa) (Am ?_))));exact Cd c4
 refine cz h2 Aa (λc5 h6=>?_) (λc5 h7=>?_)
 ·refine Ae (wa Aa (An (Ap (Ac ?_))));obtain rfl:=As h6;exact Ar (BE Tryz.results69 (AO Aa)) (sS sN) ⟨Aa,Aa⟩
 refine Ax (AS (Ae (wa Aa (Bv (wm Aa (ck h7 λg8 h9=>wv (BA Aa Aa g8) (wa Aa (An (Al (Ae (wa Aa (An (AF (ob h9 λhs ht hu=>B2 (S:=Nat×(Int×Int×Int)×(Unit)) (V:=(Int)×(Unit)) 0 (λσ=>Cj (λσ=>Dl F v i hf σ.1 σ.2.1 σ.2.2) σ.1 σ.2.1=some hs) (λσ=>[(0,AJ 4 (A3 Af v)),(5,rP b3 0),(6,A2 σ.2.1.1),(7,A2 σ.2.1.2.1),(8,A2 σ.2.1.2.2)]) (λσ=>[.blk b3 (Af (Ao v i)) 70]) (λσ=>σ.1) (F,(0,i+1,0),()) ht (AM.c5 Aa Aa Aa Aa Aa AM.nil) (sC sN) (λσ=>EK σ.1=some r) (λσ=>[(6,A2 σ.1)]) (λσ=>[]) ?_ ?_))))))))))))))
 ·rintro⟨gl,⟨hg,hb,hd⟩,⟨⟩⟩ hw;refine GZ ?_;obtain⟨hh,rfl,hx,hi,he⟩:=Cu hw;replace hi:Dl F v i hf hg hb hd=some hx:=hi;unfold Dl at hi;refine Al (Ae (wm Aa (vF BH Aa Dj (vL 0 DQ Aa (wv (C1 Aa Aa) (An (cz hi Aa (λhy hz=>?_) (λhy h0=>?_))))))))
  ·refine Ax (AS (Al (AF (Al (Ae (vF BH Aa EA (vL 0 EB Aa (wv (BI Aa Aa) (An (cz hz Aa (λh1 h3=>?_) (λh1 h4=>?_)))))))))))
   ·refine Aj (wm Aa (ck h3 λh5 h8=>wv (BA Aa Aa h5) (wa Aa (Bv (wm Aa (wm Aa (ob h8 λhl hA hB=>BX Tryz.call69 (hk v (hb+1) hl hA) Aa (wa Aa (An (Al (Ae (wm Aa (wm Aa (wv (Ee Aa Aa) (An (cz hB Aa (λhC hD=>?_) (λhC hE=>?_)))))))))))))))))
    ·refine Aj (wm Aa (wa Aa (An (Aj (wm Aa (wm Aa (ob hD λhm hG hH=>BX KK (HZ F v (hb+1) hm hG) Aa (wa Aa (Am (AH (AS (Aj (wm Aa (ck hH λhI hJ=>wv (BA Aa Aa hI) (wa Aa (Am ?_))))))))))))))));have hK:=Bw hJ he;exact A4 (AK (hh,(hl,hm,hd+1),()) ⟨hK,Afh _⟩ (AM.c5 Aa Aa Aa Aa Aa AM.nil) (sC sN))
    refine Ax (AS (Aj (wm Aa (wm Aa (ob hE λhn hL hN=>BX KK (HZ F v (hb+1) hn hL) Aa (wa Aa (Am (AH (AS (Aj (wm Aa (ck hN λhO hP=>wv (BA Aa Aa hO) (wa Aa (Am ?_))))))))))))));have hQ:=Bw hP he;exact A4 (AK (hh,(hg,hn,hd+1),()) ⟨hQ,Afh _⟩ (AM.c5 Aa Aa Aa Aa Aa AM.nil) (sC sN))
   refine Ax (AS (Ae (wm Aa (wm Aa (ob h4 λhp hR hS=>BX Tryz.call69 (hk v hb hp hR) Aa (wa Aa (An (Al (Ae (wm Aa (wm Aa (wv (Ee Aa Aa) (An (cz hS Aa (λhT hU=>?_) (λhT hV=>?_)))))))))))))))
   ·refine Aj (wm Aa (wa Aa (An (Aj (wm Aa (wm Aa (ob hU λhq hW hX=>BX KK (HZ F v hb hq hW) Aa (wa Aa (Am (AH (AS (Aj (wm Aa (ck hX λhY hZ=>wv (BA Aa Aa hY) (wa Aa (Am ?_))))))))))))))));have ga:=Bw hZ he;exact A4 (AK (hh,(hp,hq,hd+1),()) ⟨ga,Afh _⟩ (AM.c5 Aa Aa Aa Aa Aa AM.nil) (sC sN))
   refine Ax (AS (Aj (wm Aa (wm Aa (ob hV λhr gb gc=>BX KK (HZ F v hb hr gb) Aa (wa Aa (Am (AH (AS (Aj (wm Aa (ck gc λgd ge=>wv (BA Aa Aa gd) (wa Aa (Am ?_))))))))))))));have gf:=Bw ge he;exact A4 (AK (hh,(hg,hr,hd+1),()) ⟨gf,Afh _⟩ (AM.c5 Aa Aa Aa Aa Aa AM.nil) (sC sN))
  refine B4 (Ay ?_);have gg:=BP h0 he hu;exact Ay (Bn (AK (hg,()) gg (AM.c Aa AM.nil) (sS sN)))
 rintro⟨gh,⟨⟩⟩ hj;refine HE ?_;replace hj:EK gh=some r:=hj;unfold EK at hj;refine Bm (AS (Ae (wm Aa (ck hj λgi gj=>wv (BA Aa Aa gi) (wa Aa (An (Ap ?_)))))));obtain rfl:=As gj;exact Ar (BE Tryz.results69 (AO Aa)) sN ⟨Aa,Aa⟩
theorem OC:∀F:Nat,(∀(v:(List Ab)) (i:Int) (r:Int),D7 F v i=some r→Fn Tryz.prog GE 69 [AJ 4 (A3 Af v),A2 i] [] (λR H=>R=A2 r∧H=[]))
  | 0=>(λ_ _ _ h=>by simp[D7] at h)
  | nn+1=>(λv i r h=>Vw nn (D7 nn) (OC nn) v i r (by rw[D7] at h;exact h))
theorem XM (F:Nat)(v:(List Ab))(i:Int)(r:Int)(h:D7 F v i=some r):Fn Tryz.prog GE 69 [AJ 4 (A3 Af v),A2 i] [] (λR H=>R=A2 r∧H=[]):=(OC F) v i r h
theorem NQ (F:Nat)(s:Ah)(r:Ah)(h:Kd F s=some r):Fn Tryz.prog GE 123 [rS s] [] (λR H=>R=rS r∧H=[]):=by
 refine enter (n:=32) Tryz.func123 Aa Tryz.ntmps123 Aa (λw Z=>?_);unfold Kd at h;refine Ae (wv (r:=rS ([]:Ah)) (A5 Aa) (Bv (wv (r:=rS ([34]:Ah)) (A5 Aa) (An (Al (Ae (wa Aa (An (AF (ob h λhm hn hp=>B2 (S:=Nat×(Ah×Int)×(Unit)) (V:=(Ah)×(Unit)) 0 (λσ=>Cj (λσ=>D0 s σ.1 σ.2) σ.1 σ.2.1=some hm) (λσ=>[(0,rS s),(3,rS σ.2.1.1),(4,A2 σ.2.1.2)]) (λσ=>[]) (λσ=>σ.1) (F,(([34]:Ah),0),()) hn (AM.c Aa (AM.c Aa (AM.c Aa AM.nil))) sN (λσ=>Er σ.1=some r) (λσ=>[(3,rS σ.1)]) (λσ=>[]) ?_ ?_))))))))))
 ·rintro⟨hO,⟨he,hb⟩,⟨⟩⟩ hq;refine GZ ?_;obtain⟨hi,rfl,hr,hf,hh⟩:=Cu hq;replace hf:D0 s he hb=some hr:=hf;unfold D0 at hf;refine Al (Ae (wm Aa (wm Aa (wv (BO Dx Aa) (wv (C1 Aa Aa) (An (cz hf Aa (λhs ht=>?_) (λhs hu=>?_))))))))
  ·refine Ax (AS (Al (AF (Al (ck ht λhj hw=>AC [(0,rS s),(3,rS he),(4,A2 hb),(20,rB ((decide ((Cs s hb)=34))||(decide ((Cs s hb)=92))))] [] ?_ ?_)))))
   ·refine Aj (wm Aa (wm Aa (wv (BR Dx Aa Aa hj) (wv (BI Aa Aa) (wm Aa (AU (decide ((Cs s hb)=34)) (λhd=>?_) (λhd=>?_)))))))
    ·refine wf hd (wf hd (wf hd (wf hd (wv (r:=rB true) (AB Aa hd Aa) (Am ?_)))));exact Cd hd
    refine wo hd (wm Aa (wo hd (wm Aa (wo hd (wv (BR Dx Aa Aa hj) (wo hd (wv (BI Aa Aa) (II Aa hd Aa (Am ?_)))))))));exact Cd hd
   refine cz hw Aa (λhx hy=>?_) (λhx hz=>?_)
   ·refine Aj (wm Aa (ck hy λh0 h1=>wv (DC Aa Aa h0) (wa Aa (An (Aj (wm Aa (wm Aa (wm Aa (wm Aa (ck h1 λhk h2=>wv (BA Aa Aa hk) (ck h2 λh3 h4=>ck h4 λh5 h6=>wv (Mx Dx Aa Aa Aa h3 h5) (ck h6 λh7 h8=>wv (DC Aa Aa h7) (wa Aa (Am (AH (AS (Aj (wm Aa ?_))))))))))))))))));refine wv (BA Aa Aa hk) (wa Aa (Am ?_));have h9:=Bw h8 hh;exact A4 (AK (hi,((he++([92]:Ah))++(List.take (Ch (hb+1)-Ch hb) (List.drop (Ch hb) s)),hb+1),()) ⟨h9,Afh _⟩ (AM.c Aa (AM.c Aa (AM.c Aa AM.nil))) sN)
   refine Ax (AS (Aj (wm Aa (wm Aa (wm Aa (wm Aa (ck hz λhl hA=>wv (BA Aa Aa hl) (ck hA λhB hC=>ck hC λhD hE=>wv (Mx Dx Aa Aa Aa hB hD) (ck hE λhG hH=>wv (DC Aa Aa hG) (wa Aa (Am (AH (AS (Aj (wm Aa (wv (BA Aa Aa hl) (wa Aa (Am ?_))))))))))))))))));have hI:=Bw hH hh;exact A4 (AK (hi,(he++(List.take (Ch (hb+1)-Ch hb) (List.drop (Ch hb) s)),hb+1),()) ⟨hI,Afh _⟩ (AM.c Aa (AM.c Aa (AM.c Aa AM.nil))) sN)
  refine B4 (Ay ?_);have hJ:=BP hu hh hp;exact Ay (Bn (AK (he,()) hJ (AM.c Aa AM.nil) sN))
 rintro⟨hK,⟨⟩⟩ hg;refine HE ?_;replace hg:Er hK=some r:=hg;unfold Er at hg;refine Bm (AS (Ae (wm Aa (ck hg λhL hN=>wv (DC Aa Aa hL) (wa Aa (An (Ap ?_)))))));obtain rfl:=As hN;exact Ar (BE Tryz.results123 (AO Aa)) sN ⟨Aa,Aa⟩
theorem Zl (F:Nat)(hg:(List Ab)→Int→Option (Ah))(hh:(∀(v:(List Ab)) (i:Int) (r:Ah),hg v i=some r→Fn Tryz.prog GE 70 [AJ 4 (A3 Af v),A2 i] [] (λR H=>R=rS r∧H=[])))(v:(List Ab))(i:Int)(r:Ah)(h:NP F hg v i=some r):Fn Tryz.prog GE 70 [AJ 4 (A3 Af v),A2 i] [] (λR H=>R=rS r∧H=[]):=by
 refine enter (n:=77) Tryz.func70 Aa Tryz.ntmps70 Aa (λw Z=>?_);unfold NP at h;refine Ae (wv (r:=rS ([]:Ah)) (A5 Aa) (Bv (wm Aa (wm Aa (ck h λg1 h2=>wv (Bj (enc:=Af) (ys:=v) CX Di Aa Aa g1) (wv (C9 P7 Di Aa Aa Aa) (BK (cs:=[A2 0,A2 0,rS ([]:Ah),A2 0]) P0 Aa Aa (λb3=>?_))))))));refine Gy (i:=0) Di Aa Aa Aa (B6.c Aa) Aa Aa ?_;refine An (Al (Ae (vF BH Aa EA (vL 0 EB Aa (wv (BI Aa Aa) (An (cz h2 Aa (λc4 h5=>?_) (λc4 h6=>?_))))))))
 ·refine Ae (wv (r:=rS ([110,117,108,108]:Ah)) (A5 Aa) (An (Ap (Ac ?_))));obtain rfl:=As h5;exact Ar (BE Va (AO Aa)) (sS sN) ⟨Aa,Aa⟩
 refine Ax (AS (Al (Ae (vF BH Aa EA (vL 0 EB Aa (wv (BI Aa Aa) (An (cz h6 Aa (λc7 h8=>?_) (λc7 hx=>?_)))))))))
 ·refine Al (Ae (vF BH Aa Dj (vL 0 DQ Aa (wv (BI Aa Aa) (An (cz h8 Aa (λc9 hy=>?_) (λc9 hz=>?_)))))))
  ·refine Ae (wv (r:=rS ([116,114,117,101]:Ah)) (A5 Aa) (An (Ap (Ac (Ac ?_)))));obtain rfl:=As hy;exact Ar (BE Va (AO Aa)) (sS sN) ⟨Aa,Aa⟩
  refine Ax (AS (Ae (wv (r:=rS ([102,97,108,115,101]:Ah)) (A5 Aa) (An (Ap (Ac ?_))))));obtain rfl:=As hz;exact Ar (BE Va (AO Aa)) (sS sN) ⟨Aa,Aa⟩
 refine Ax (AS (Al (Ae (vF BH Aa EA (vL 0 EB Aa (wv (BI Aa Aa) (An (cz hx Aa (λh0 h1=>?_) (λh0 h3=>?_)))))))))
 ·refine Ae (vF BH Aa Dj (vL 0 DQ Aa (ck h1 λg15 h4=>Cp (rs:=[A2 ((Ao v i).fInt)]) (r:=rS (Lib.itoa ((Ao v i).fInt))) Tryz.call122 Aa (Adb ((Ao v i).fInt) g15) Aa Aa (wa Aa (An (Ap (Ac ?_)))))));obtain rfl:=As h4;exact Ar (BE Va (AO Aa)) (sS sN) ⟨Aa,Aa⟩
 refine Ax (AS (Al (Ae (vF BH Aa EA (vL 0 EB Aa (wv (BI Aa Aa) (An (cz h3 Aa (λh7 h9=>?_) (λh7 hA=>?_)))))))))
 ·refine Ae (vF BH Aa CC (vL 0 Dp Aa (ob h9 λhB hC hD=>BX Tryz.call123 (NQ F ((Ao v i).fStr) hB hC) Aa (wa Aa (An (Ap (Ac ?_)))))));obtain rfl:=As hD;exact Ar (BE Va (AO Aa)) (sS sN) ⟨Aa,Aa⟩
 refine Ax (AS (Ae (wv (r:=rS ([]:Ah)) (A5 Aa) (Bv (wm Aa (ck hA λhE hG=>wv (BA Aa Aa hE) (wa Aa (An (Al (Ae (wa Aa (An (AF (ob hG λhH hI hJ=>B2 (S:=Nat×(Ah×Int×Int)×(Unit)) (V:=(Ah)×(Unit)) 0 (λσ=>Cj (λσ=>EJ F v i hg σ.1 σ.2.1 σ.2.2) σ.1 σ.2.1=some hH) (λσ=>[(0,AJ 4 (A3 Af v)),(4,rS ([]:Ah)),(5,rP b3 0),(6,rS σ.2.1.1),(7,A2 σ.2.1.2.1),(8,A2 σ.2.1.2.2)]) (λσ=>[.blk b3 (Af (Ao v i)) 70]) (λσ=>σ.1) (F,(([]:Ah),i+1,0),()) hI (AM.c Aa (AM.c5 Aa Aa Aa Aa Aa AM.nil)) (sC sN) (λσ=>Iy v i σ.1=some r) (λσ=>[(4,rS ([]:Ah)),(5,rP b3 0),(6,rS σ.1)]) (λσ=>[.blk b3 (Af (Ao v i)) 70]) ?_ ?_))))))))))))))
 ·rintro⟨cm,⟨hd,hb,he⟩,⟨⟩⟩ hK;refine GZ ?_;obtain⟨hi,rfl,hL,hj,hf⟩:=Cu hK;replace hj:EJ F v i hg hd hb he=some hL:=hj;unfold EJ at hj;refine Al (Ae (wm Aa (vF BH Aa Dj (vL 0 DQ Aa (wv (C1 Aa Aa) (An (cz hj Aa (λhN hO=>?_) (λhN hP=>?_))))))))
  ·refine Ax (AS (Al (AF (Al (Ae (wm Aa (wv (Ee Aa Aa) (An (cz hO Aa (λhQ hR=>?_) (λhQ hS=>?_))))))))))
   ·refine Aj (wm Aa (ck hR λhT hU=>wv (DC Aa Aa hT) (wa Aa (An (Al (Ae (vF BH Aa EA (vL 0 EB Aa (wv (BI Aa Aa) (An (cz hU Aa (λc233 hV=>?_) (λc233 hW=>?_))))))))))))
    ·refine Ae (wm Aa (wm Aa (wm Aa (ck hV λhX hY=>wv (Bj (enc:=Af) (ys:=v) CX Di Aa Aa hX) (wv (AI BH Aa CC Aa Aa) (wv (AV Dp Aa Aa) (ob hY λhl hZ ga=>BX Tryz.call123 (NQ F ((Ao v hb).fStr) hl hZ) Aa (ck ga λgb gc=>wv (DC Aa Aa gb) (ck gc λgd ge=>wv (DC Aa Aa gd) (wa Aa (An (Aj (wm Aa (ck ge λgf gg=>wv (BA Aa Aa gf) (wa Aa (Bv (wm Aa (wm Aa ?_))))))))))))))))));refine wm Aa (ob gg λhm gh gi=>BX YJ (hh v (hb+1) hm gh) Aa (ck gi λgj gl=>wv (DC Aa Aa gj) (wa Aa (An (Aj (wm Aa (wm Aa (ob gl λhn gm gp=>BX KK (HZ F v (hb+1) hn gm) Aa (wa Aa (Am (AH (AS (Aj (wm Aa (ck gp λgq gr=>wv (BA Aa Aa gq) (wa Aa (Am ?_)))))))))))))))));have gs:=Bw gr hf;exact A4 (AK (hi,((((hd++([44]:Ah))++hl)++([58]:Ah))++hm,hn,he+1),()) ⟨gs,Afh _⟩ (AM.c Aa (AM.c5 Aa Aa Aa Aa Aa AM.nil)) (sC sN))
    refine Ax (AS (Ae (wm Aa (wm Aa (wm Aa (ob hW λhp gt gu=>BX YJ (hh v hb hp gt) Aa (ck gu λgv gw=>wv (DC Aa Aa gv) (wa Aa (An (Aj (wm Aa (wm Aa (ob gw λhq gx gy=>BX KK (HZ F v hb hq gx) Aa (wa Aa (Am (AH (AS (Aj (wm Aa (ck gy λgz g0=>?_))))))))))))))))))));refine wv (BA Aa Aa gz) (wa Aa (Am ?_));have g2:=Bw g0 hf;exact A4 (AK (hi,((hd++([44]:Ah))++hp,hq,he+1),()) ⟨g2,Afh _⟩ (AM.c Aa (AM.c5 Aa Aa Aa Aa Aa AM.nil)) (sC sN))
   refine Ax (AS (Al (Ae (vF BH Aa EA (vL 0 EB Aa (wv (BI Aa Aa) (An (cz hS Aa (λg3 g4=>?_) (λg3 g5=>?_)))))))))
   ·refine Ae (wm Aa (wm Aa (wm Aa (ck g4 λg6 g7=>wv (Bj (enc:=Af) (ys:=v) CX Di Aa Aa g6) (wv (AI BH Aa CC Aa Aa) (wv (AV Dp Aa Aa) (ob g7 λhr g8 g9=>BX Tryz.call123 (NQ F ((Ao v hb).fStr) hr g8) Aa (ck g9 λgA gB=>wv (DC Aa Aa gA) (ck gB λgC gD=>wv (DC Aa Aa gC) (wa Aa (An (Aj (wm Aa (ck gD λgE gF=>wv (BA Aa Aa gE) (wa Aa (Bv (wm Aa (wm Aa ?_))))))))))))))))));refine wm Aa (ob gF λhs gG gH=>BX YJ (hh v (hb+1) hs gG) Aa (ck gH λgI gJ=>wv (DC Aa Aa gI) (wa Aa (An (Aj (wm Aa (wm Aa (ob gJ λht gK gL=>BX KK (HZ F v (hb+1) ht gK) Aa (wa Aa (Am (AH (AS (Aj (wm Aa (ck gL λgM gN=>wv (BA Aa Aa gM) (wa Aa (Am ?_)))))))))))))))));have gO:=Bw gN hf;exact A4 (AK (hi,(((hd++hr)++([58]:Ah))++hs,ht,he+1),()) ⟨gO,Afh _⟩ (AM.c Aa (AM.c5 Aa Aa Aa Aa Aa AM.nil)) (sC sN))
   refine Ax (AS (Ae (wm Aa (wm Aa (wm Aa (ob g5 λhu gP gQ=>BX YJ (hh v hb hu gP) Aa (ck gQ λgR gS=>wv (DC Aa Aa gR) (wa Aa (An (Aj (wm Aa (wm Aa (ob gS λhw gT gU=>BX KK (HZ F v hb hw gT) Aa (wa Aa (Am (AH (AS (Aj (wm Aa (ck gU λgV gW=>?_))))))))))))))))))));refine wv (BA Aa Aa gV) (wa Aa (Am ?_));have gX:=Bw gW hf;exact A4 (AK (hi,(hd++hu,hw,he+1),()) ⟨gX,Afh _⟩ (AM.c Aa (AM.c5 Aa Aa Aa Aa Aa AM.nil)) (sC sN))
  refine B4 (Ay ?_);have gY:=BP hP hf hJ;exact Ay (Bn (AK (hd,()) gY (AM.c Aa (AM.c Aa (AM.c Aa AM.nil))) (sC sN)))
 rintro⟨gZ,⟨⟩⟩ hk;refine HE ?_;replace hk:Iy v i gZ=some r:=hk;unfold Iy at hk;refine Bm (AS (Al (Ae (vF BH Aa EA (vL 0 EB Aa (wv (BI Aa Aa) (An (cz hk Aa (λca cb=>?_) (λca cc=>?_)))))))))
 ·refine Ae (wm Aa (ck cb λcd ce=>wv (DC Aa Aa cd) (ck ce λcf cg=>wv (DC Aa Aa cf) (wa Aa (An (Ap (Ac ?_)))))));obtain rfl:=As cg;exact Ar (BE Va (AO Aa)) (sS sN) ⟨Aa,Aa⟩
 refine Ax (AS (Ae (wm Aa (ck cc λch ci=>wv (DC Aa Aa ch) (ck ci λcj cl=>wv (DC Aa Aa cj) (wa Aa (An (Ap ?_))))))));obtain rfl:=As cl;exact Ar (BE Va (AO Aa)) (sS sN) ⟨Aa,Aa⟩
theorem R0:∀F:Nat,(∀(v:(List Ab)) (i:Int) (r:Ah),HS F v i=some r→Fn Tryz.prog GE 70 [AJ 4 (A3 Af v),A2 i] [] (λR H=>R=rS r∧H=[]))
  | 0=>(λ_ _ _ h=>by simp[HS] at h)
  | nn+1=>(λv i r h=>Zl nn (HS nn) (R0 nn) v i r (by rw[HS] at h;exact h))
theorem Aba (F:Nat)(v:(List Ab))(i:Int)(r:Ah)(h:HS F v i=some r):Fn Tryz.prog GE 70 [AJ 4 (A3 Af v),A2 i] [] (λR H=>R=rS r∧H=[]):=(R0 F) v i r h
theorem TF (F:Nat)(v:(List Ab))(r:Int)(h:Mu F v=some r):Fn Tryz.prog GE 19 [AJ 4 (A3 Af v)] [] (λR H=>R=A2 r∧H=[]):=by
 refine enter (n:=61) Tryz.func19 Aa Tryz.ntmps19 Aa (λw Z=>?_);unfold Mu at h;refine Ae (wa Aa (An (Al (Ae (wm Aa (ob h λr1 e3 h2=>BX Tryz.call68 (XO F v r1 e3) Aa (wv (Cc Aa) (An (cz h2 Aa (λc4 h5=>?_) (λc4 h6=>?_))))))))))
 ·refine Ae (wa Aa (An (Ap (Ac ?_))));obtain rfl:=As h5;exact Ar (BE Xt (AO Aa)) sN ⟨Aa,Aa⟩
 refine Ax (AS (Al (Ae (wa Aa (An (AF (ob h6 λhr hs hn=>B2 (S:=Nat×(Int)×(Unit)) (V:=(Unit)×(Unit)) 0 (λσ=>Cj (λσ=>Ga v σ) σ.1 σ.2.1=some hr) (λσ=>[(0,AJ 4 (A3 Af v)),(3,A2 σ.2.1)]) (λσ=>[]) (λσ=>σ.1) (F,0,()) hs (AM.c Aa (AM.c Aa AM.nil)) sN (λσ=>J3 F v =some r) (λσ=>[(0,AJ 4 (A3 Af v))]) (λσ=>[]) ?_ ?_)))))))
 ·rintro⟨gg,hf,⟨⟩⟩ ht;refine GZ ?_;obtain⟨hu,rfl,t46,hg,hk⟩:=Cu ht;replace hg:Ga v hf=some t46:=hg;unfold Ga at hg;refine Al (Ae (wm Aa (wm Aa (wv (Br (ys:=v) (enc:=Af) CX Aa) (wv (C1 Aa Aa) (An (cz hg Aa (λhw hx=>?_) (λhw hy=>?_))))))))
  ·refine Ax (AS (Al (AF (ck hx λhl hz=>AC [(0,AJ 4 (A3 Af v)),(3,A2 hf),(35,rB ((decide (((Ao v hf).fKind)=3))&&((decide (((Ao v hf).fInt)<(-1000000000000)))||(decide (1000000000000<((Ao v hf).fInt))))))] [] ?_ ?_))))
   ·refine Aj (wm Aa (wm Aa (wv (Bj (enc:=Af) (ys:=v) CX Di Aa Aa hl) (wv (AI BH Aa EA Aa Aa) (wv (AV EB Aa Aa) (wv (BI Aa Aa) (wm Aa (AU (decide (((Ao v hf).fKind)=3)) (λhb=>?_) (λhb=>?_)))))))))
    ·refine wo hb (wm Aa (wo hb (wm Aa (wo hb (wv (Bj (enc:=Af) (ys:=v) CX Di Aa Aa hl) (wo hb (wv (AI BH Aa Dj Aa Aa) (wo hb (wv (AV DQ Aa Aa) (wo hb (wv (C1 Aa Aa) (wo hb (wm Aa (AU (decide (((Ao v hf).fInt)<(-1000000000000))) (λhd=>?_) (λhd=>?_)))))))))))))))
     ·refine wf hd (wf hd (wf hd (wf hd (wf hd (wf hd (wo hb (wv (r:=rB true) (AB Aa hd Aa) (Eb Aa hb Aa (Am ?_)))))))));exact Cd (And.intro hb hd)
     refine wo hd (wm Aa (wo hd (wm Aa (wo hd (wv (Bj (enc:=Af) (ys:=v) CX Di Aa Aa hl) (wo hd (wv (AI BH Aa Dj Aa Aa) (wo hd (wv (AV DQ Aa Aa) (wo hd (wv (Ee Aa Aa) (wo hb (II Aa hd Aa (Eb Aa hb Aa (Am ?_)))))))))))))));exact Cd (And.intro hb hd)
    refine wf hb (wf hb (wf hb (wf hb (wf hb (wf hb (wf hb (wu (wu (wu (wu (wu (wu (wf hb (wv (r:=rB false) (Av Aa hb Aa) (Am ?_)))))))))))))));exact Cd hb
   refine cz hz Aa (λh0 h1=>?_) (λh0 h3=>?_)
   ·refine Ae (wa Aa (An (Ap (A0 (Ac (Ac (Bu ?_)))))));have h4:=BF h1 hk hn;refine A0 (Ac ?_);obtain rfl:=As h4;exact Ar (BE Xt (AO Aa)) sN ⟨Aa,Aa⟩
   refine Ax (AH (AS (Aj (wm Aa (ck h3 λh7 h8=>wv (BA Aa Aa h7) (wa Aa (Am ?_)))))));have h9:=Bw h8 hk;exact A4 (AK (hu,hf+1,()) ⟨h9,Afh _⟩ (AM.c Aa (AM.c Aa AM.nil)) sN)
  refine B4 (Ay ?_);have hA:=BP hy hk hn;exact Ay (Bn (AK ((),()) hA (AM.c Aa AM.nil) sN))
 rintro⟨⟨⟩,⟨⟩⟩ hh;refine HE ?_;replace hh:J3 F v =some r:=hh;unfold J3 at hh;refine Bm (AS (Al (ck hh λhB hC=>AC [(0,AJ 4 (A3 Af v)),(43,rB ((decide (200<(v.length:Int)))||(decide (8<(ov (D7 F v 0))))))] [] ?_ ?_)))
 ·refine Aj (wm Aa (wv (Br (ys:=v) (enc:=Af) CX Aa) (wv (Ee Aa Aa) (wm Aa (AU (decide (200<(v.length:Int))) (λhe=>?_) (λhe=>?_))))))
  ·refine wf he (wf he (wf he (wv (r:=rB true) (AB Aa he Aa) (Am ?_))));exact Cd he
  refine wo he (wm Aa (wo he (BX Tryz.call69 (XM F v 0 (ov (D7 F v 0)) (CY (Dd hB he))) Aa (wo he (wv (Ee Aa Aa) (II Aa he Aa (Am ?_)))))));exact Cd he
 refine cz hC Aa (λhD hE=>?_) (λhD hG=>?_)
 ·refine Ae (wa Aa (An (Ap (Ac ?_))));obtain rfl:=As hE;exact Ar (BE Xt (AO Aa)) sN ⟨Aa,Aa⟩
 refine Ax (AS (Al (Ae (wa Aa (An (AF (ob hG λhH hI hp=>B2 (S:=Nat×(Int)×(Unit)) (V:=(Unit)×(Unit)) 2 (λσ=>Cj (λσ=>EZ v σ) σ.1 σ.2.1=some hH) (λσ=>[(0,AJ 4 (A3 Af v)),(4,A2 σ.2.1)]) (λσ=>[]) (λσ=>σ.1) (F,0,()) hI (AM.c Aa (AM.c Aa AM.nil)) sN (λσ=>J2 F v =some r) (λσ=>[(0,AJ 4 (A3 Af v))]) (λσ=>[]) ?_ ?_)))))))
 ·rintro⟨gh,hq,⟨⟩⟩ hJ;refine GZ ?_;obtain⟨hK,rfl,hL,hi,hm⟩:=Cu hJ;replace hi:EZ v hq=some hL:=hi;unfold EZ at hi;refine Al (Ae (wm Aa (wm Aa (wv (Br (ys:=v) (enc:=Af) CX Aa) (wv (C1 Aa Aa) (An (cz hi Aa (λhN hO=>?_) (λhN hP=>?_))))))))
  ·refine Ax (AS (Al (AF (Ae (wm Aa (wm Aa (ck hO λhQ hR=>wv (Bj (enc:=Af) (ys:=v) CX Di Aa Aa hQ) (wv (AI BH Aa CC Aa Aa) (wv (AV Dp Aa Aa) (wv (BO Dx Aa) (wv (Ee Aa Aa) (An (cz hR Aa (λhS hT=>?_) (λhS hU=>?_))))))))))))))
   ·refine Ae (wa Aa (An (Ap (A0 (Ac (Ac (Bu ?_)))))));have hV:=BF hT hm hp;refine A0 (Ac ?_);obtain rfl:=As hV;exact Ar (BE Xt (AO Aa)) sN ⟨Aa,Aa⟩
   refine Ax (AH (AS (Aj (wm Aa (ck hU λhW hX=>wv (BA Aa Aa hW) (wa Aa (Am ?_)))))));have hY:=Bw hX hm;exact A4 (AK (hK,hq+1,()) ⟨hY,Afh _⟩ (AM.c Aa (AM.c Aa AM.nil)) sN)
  refine B4 (Ay ?_);have hZ:=BP hP hm hp;exact Ay (Bn (AK ((),()) hZ (AM.c Aa AM.nil) sN))
 rintro⟨⟨⟩,⟨⟩⟩ hj;refine HE ?_;replace hj:J2 F v =some r:=hj;unfold J2 at hj;refine Bm (AS (Al (Ae (wm Aa (ob hj λga gb gc=>BX YJ (Aba F v 0 ga gb) Aa (wv (BO Dx Aa) (wv (Ee Aa Aa) (An (cz gc Aa (λgd ge=>?_) (λgd gf=>?_))))))))))
 ·refine Ae (wa Aa (An (Ap (Ac ?_))));obtain rfl:=As ge;exact Ar (BE Xt (AO Aa)) sN ⟨Aa,Aa⟩
 refine Ax (AS (Ae (wa Aa (An (Ap ?_)))));obtain rfl:=As gf;exact Ar (BE Xt (AO Aa)) sN ⟨Aa,Aa⟩
end Go.Proofs.YtmjlemhondjfhaaGreatDoor.Q
namespace Go.Proofs.YtmjlemhondjfhaaGreatDoor
open Go
set_option linter.unusedVariables false
structure AP where
 fPairs:Bool
 fLeft:Int
 fKey:Bool
 fLast:Ah
 fStarted:Bool
 deriving DecidableEq,Inhabited
structure Bf where
 fDepth:Int
 fBytes:Int
 fOutside:Bool
 fLong:Bool
 deriving DecidableEq,Inhabited
def C2 (n:Int):Option (Bool):=
 some ((decide ((-1000000000000)≤n))&&(decide (n≤1000000000000)))
def Jv (s:Ah)(hb:Int):Option (Stp (Int) (Out (Bool) (Unit))):=
 B0 (decide (hb<(s.length:Int))) (Bl (Cn hb (s.length:Int))<|B0 (((decide ((Cs s hb)<32))||(decide (126<(Cs s hb))))) (some (.out (.ret false))) (Bl (BM .i64 (hb+1))<|some (.next (hb+1)))) (some (.out (.go ())))
def Ju :Option (Bool):=
 some true
def MM (F:Nat)(s:Ah):Option (Bool):=
 Bs (Cj (λσ=>Jv s σ) F 0) (Cf λν=>Ju )
def Lz (s:Ah):Option (Int):=
 Bl (BM .i64 ((s.length:Int)+2))<|Bl (BM .i64 (((s.length:Int)+2)+(Lib.countByte s 34:Int)))<|Bl (BM .i64 ((((s.length:Int)+2)+(Lib.countByte s 34:Int))+(Lib.countByte s 92:Int)))<|some ((((s.length:Int)+2)+(Lib.countByte s 34:Int))+(Lib.countByte s 92:Int))
def PF (F:Nat)(c:Ab):Option (Bool):=
 B0 (decide (c.fKind=1)) (some ((decide (c.fInt=0))&&((decide (c.fStr=([]:Ah)))&&(decide (c.fN=0))))) (B0 (decide (c.fKind=2)) (some (bif decide (c.fInt=0) then((decide (c.fStr=([]:Ah)))&&(decide (c.fN=0))) else((decide (c.fInt=1))&&((decide (c.fStr=([]:Ah)))&&(decide (c.fN=0)))))) (B0 (decide (c.fKind=3)) (some ((decide (c.fStr=([]:Ah)))&&(decide (c.fN=0)))) (B0 (decide (c.fKind=4)) (Bl (imp (decide (c.fInt=0)) (imp (decide (c.fN=0)) ((MM F c.fStr).isSome)))<|some ((decide (c.fInt=0))&&((decide (c.fN=0))&&(ov (MM F c.fStr))))) (B0 (decide (c.fKind=5)) (some ((decide (c.fInt=0))&&((decide (c.fStr=([]:Ah)))&&(decide (0≤c.fN))))) (B0 (decide (c.fKind=6)) (some ((decide (c.fInt=0))&&((decide (c.fStr=([]:Ah)))&&(decide (0≤c.fN))))) (some false))))))
def Tu (c:Ab):Option (Int):=
 B0 (decide (c.fKind=1)) (some 4) (B0 (decide (c.fKind=2)) (some (IntKind.wrap .i64 (5-c.fInt))) (B0 (decide (c.fKind=3)) (Bl (BM .i64 c.fInt)<|some ((Lib.itoa c.fInt).length:Int)) (B0 (decide (c.fKind=4)) (Bs (Lz c.fStr) λhb=>some hb) (some (IntKind.wrap .i64 (2+(max 0 (IntKind.wrap .i64 (c.fN-1)))))))))
def EE (hb:(List AP)):Option (Stp ((List AP)) (Out ((List AP)) ((List AP)))):=
 B0 (decide (0<(hb.length:Int))) (Bl (BM .i64 ((hb.length:Int)-1))<|Bl (Cn ((hb.length:Int)-1) (hb.length:Int))<|Bl (BM .i64 (((Ao hb ((hb.length:Int)-1)).fLeft)-1))<|KF (List.set hb (Int.toNat ((hb.length:Int)-1)) (AP.mk ((Ao hb ((hb.length:Int)-1)).fPairs) (((Ao hb ((hb.length:Int)-1)).fLeft)-1) ((Ao hb ((hb.length:Int)-1)).fKey) ((Ao hb ((hb.length:Int)-1)).fLast) ((Ao hb ((hb.length:Int)-1)).fStarted))) λhd=>B0 (decide (0<((Ao hd ((hb.length:Int)-1)).fLeft))) (KF (List.set hd (Int.toNat ((hb.length:Int)-1)) (AP.mk ((Ao hd ((hb.length:Int)-1)).fPairs) ((Ao hd ((hb.length:Int)-1)).fLeft) ((Ao hd ((hb.length:Int)-1)).fPairs) ((Ao hd ((hb.length:Int)-1)).fLast) ((Ao hd ((hb.length:Int)-1)).fStarted))) λhe=>some (.out (.ret he))) (Bl (BM .i64 ((hd.length:Int)-1))<|Bl (K3 ((hd.length:Int)-1) (hd.length:Int))<|some (.next (List.take (Int.toNat ((hd.length:Int)-1)) hd)))) (some (.out (.go hb)))
def G5 (hb:(List AP)):Option ((List AP)):=
 some hb
def MP (F:Nat)(stack:(List AP)):Option ((List AP)):=
 Bs (Cj (λσ=>EE σ) F stack) (Cf λν=>G5 ν)
def Gm (hb:Int)(hd:(List AP))(he:Bf):Option (Stp ((List AP)×Int×Bf) (Out (Int×Bf×Bool) (Bf))):=
 Bl (BM .i64 (hb+1))<|some (.next (hd,hb+1,he))
def ED (F:Nat)(v:(List Ab))(hb:(List AP))(hd:Int)(he:Bf):Option (Stp ((List AP)×Int×Bf) (Out (Int×Bf×Bool) (Bf))):=
 B0 (decide (hd<(v.length:Int))) (Bl (Cn hd (v.length:Int))<|Bs (PF F (Ao v hd)) λhk=>B0 (!hk) (some (.out (.ret (0,he,false)))) (Bl (imp (decide (0<(hb.length:Int))) (BM .i64 ((hb.length:Int)-1)))<|Bl (imp (decide (0<(hb.length:Int))) (Cn ((hb.length:Int)-1) (hb.length:Int)))<|B0 (((decide (0<(hb.length:Int)))&&((Ao hb ((hb.length:Int)-1)).fKey))) (Bl (BM .i64 ((hb.length:Int)-1))<|Bl (Cn ((hb.length:Int)-1) (hb.length:Int))<|B0 (((!decide (((Ao v hd).fKind)=4))||(((Ao hb ((hb.length:Int)-1)).fStarted)&&(Do ((Ao v hd).fStr) ((Ao hb ((hb.length:Int)-1)).fLast)||decide (((Ao v hd).fStr)=((Ao hb ((hb.length:Int)-1)).fLast)))))) (some (.out (.ret (0,he,false)))) (KF (List.set hb (Int.toNat ((hb.length:Int)-1)) (AP.mk ((Ao hb ((hb.length:Int)-1)).fPairs) ((Ao hb ((hb.length:Int)-1)).fLeft) ((Ao hb ((hb.length:Int)-1)).fKey) ((Ao v hd).fStr) ((Ao hb ((hb.length:Int)-1)).fStarted))) λhf=>KF (List.set hf (Int.toNat ((hb.length:Int)-1)) (AP.mk ((Ao hf ((hb.length:Int)-1)).fPairs) ((Ao hf ((hb.length:Int)-1)).fLeft) ((Ao hf ((hb.length:Int)-1)).fKey) ((Ao hf ((hb.length:Int)-1)).fLast) true)) λhg=>KF (List.set hg (Int.toNat ((hb.length:Int)-1)) (AP.mk ((Ao hg ((hb.length:Int)-1)).fPairs) ((Ao hg ((hb.length:Int)-1)).fLeft) false ((Ao hg ((hb.length:Int)-1)).fLast) ((Ao hg ((hb.length:Int)-1)).fStarted))) λhl=>Bs (Lz ((Ao v hd).fStr)) λhi=>Bl (BM .i64 (hi+1))<|Gm hd hl (Bf.mk he.fDepth (IntKind.wrap .i64 (he.fBytes+(hi+1))) he.fOutside (he.fLong||(decide (200<(((Ao v hd).fStr).length:Int))))))) (Bl (BM .i64 ((hb.length:Int)+1))<|Bs (Tu (Ao v hd)) λhh=>Bl (imp (!he.fOutside) (imp (decide (((Ao v hd).fKind)=3)) ((C2 ((Ao v hd).fInt)).isSome)))<|B0 (decide (0<((Ao v hd).fN))) (B0 (decide ((v.length:Int)<((Ao v hd).fN))) (some (.out (.ret (0,(Bf.mk (max he.fDepth ((hb.length:Int)+1)) (IntKind.wrap .i64 (he.fBytes+hh)) (he.fOutside||((decide (((Ao v hd).fKind)=3))&&(!(ov (C2 ((Ao v hd).fInt)))))) (he.fLong||(decide (200<(((Ao v hd).fStr).length:Int))))),false)))) (Bl (DE 48 (hb.length+([(AP.mk (decide (((Ao v hd).fKind)=6)) ((Ao v hd).fN) (decide (((Ao v hd).fKind)=6)) ([]:Ah) false)]:List AP).length))<|Gm hd (hb++([(AP.mk (decide (((Ao v hd).fKind)=6)) ((Ao v hd).fN) (decide (((Ao v hd).fKind)=6)) ([]:Ah) false)]:List AP)) (Bf.mk (max he.fDepth ((hb.length:Int)+1)) (IntKind.wrap .i64 (he.fBytes+hh)) (he.fOutside||((decide (((Ao v hd).fKind)=3))&&(!(ov (C2 ((Ao v hd).fInt)))))) (he.fLong||(decide (200<(((Ao v hd).fStr).length:Int))))))) (Bs (MP F hb) λhj=>B0 (decide ((hj.length:Int)=0)) (Bl (BM .i64 (hd+1))<|some (.out (.ret (hd+1,(Bf.mk (max he.fDepth ((hb.length:Int)+1)) (IntKind.wrap .i64 (he.fBytes+hh)) (he.fOutside||((decide (((Ao v hd).fKind)=3))&&(!(ov (C2 ((Ao v hd).fInt)))))) (he.fLong||(decide (200<(((Ao v hd).fStr).length:Int))))),true)))) (Gm hd hj (Bf.mk (max he.fDepth ((hb.length:Int)+1)) (IntKind.wrap .i64 (he.fBytes+hh)) (he.fOutside||((decide (((Ao v hd).fKind)=3))&&(!(ov (C2 ((Ao v hd).fInt)))))) (he.fLong||(decide (200<(((Ao v hd).fStr).length:Int)))))))))) (some (.out (.go he)))
def MO (hb:Bf):Option (Int×Bf×Bool):=
 some (0,hb,false)
def Kx (F:Nat)(v:(List Ab)):Option (Int×Bf×Bool):=
 Bs (Cj (λσ=>ED F v σ.1 σ.2.1 σ.2.2) F (([]:List AP),0,(Bf.mk 0 0 false false))) (Cf λν=>MO ν)
def JX (F:Nat)(v:(List Ab)):Option (Int):=
 Bs (Kx F v) λr1=>B0 (((!r1.2.2)||(!decide (r1.1=(v.length:Int))))) (some 1) (B0 (r1.2.1.fOutside) (some 2) (B0 ((r1.2.1.fLong||((decide (200<(v.length:Int)))||((decide (8<r1.2.1.fDepth))||(decide (4000<r1.2.1.fBytes)))))) (some 3) (some 0)))
def H9 (F:Nat)(v:(List Ab)):Option ((List Ab)×Int):=
 Bs (JX F v) λr1=>B0 (!decide (r1=0)) (some (([]:List Ab),r1)) (some (v,0))
def KL :Option ((List Ab)):=
 some ([(Ab.mk 1 0 ([]:Ah) 0)]:List Ab)
def X6 (F:Nat)(n:Int):Option ((List Ab)×Int):=
 Bs (H9 F ([(Ab.mk 3 n ([]:Ah) 0)]:List Ab)) λr2=>some (r2.1,r2.2)
def X2 (F:Nat)(s:Ah):Option ((List Ab)×Int):=
 Bs (H9 F ([(Ab.mk 4 0 s 0)]:List Ab)) λr2=>some (r2.1,r2.2)
end Go.Proofs.YtmjlemhondjfhaaGreatDoor
namespace Go.Proofs.YtmjlemhondjfhaaGreatDoor.Q
open Go Go.RowKit
set_option linter.unusedVariables false
set_option linter.unusedSimpArgs false
set_option maxRecDepth 100000
set_option maxHeartbeats 4000000
@[reducible] def Ba (x:AP):List Rp:=[rB x.fPairs,A2 x.fLeft,rB x.fKey,rS x.fLast,rB x.fStarted]
theorem K4 (x:AP):(Ba x).length=5:=rfl
theorem Pb (x:AP):(Ba x).all (·.one)=true:=rfl
@[reducible] def By (x:Bf):List Rp:=[A2 x.fDepth,A2 x.fBytes,rB x.fOutside,rB x.fLong]
theorem AbB:∃inf,Tryz.prog.info? 190=some inf∧inf.zero=some (.agg #[(.bool false),(.int .i64 0),(.bool false),(.string ⟨#[]⟩),(.bool false)])∧inf.size=5∧inf.bytes=48:=by
  have key:(Tryz.prog.info? 190).map (λi=>(i.zero,i.size,i.bytes))=some (some (.agg #[(.bool false),(.int .i64 0),(.bool false),(.string ⟨#[]⟩),(.bool false)]),5,48):=by kernel_rfl
  obtain⟨inf,h1,h2⟩:=Option.map_eq_some_iff.1 key;simp only[Prod.mk.injEq] at h2;exact⟨inf,h1,h2.1,h2.2.1,h2.2.2⟩
theorem SO (parts:List (Nat×Value)):Tryz.prog.built 70 parts=Instr.fill (λi=>(#[(0,1),(1,1),(2,1),(3,1)]:Array (Nat×Nat))[i]?) #[(.int .i64 0),(.int .i64 0),(.string ⟨#[]⟩),(.int .i64 0)] parts:=by kernel_rfl
theorem TU {n:Nat}{c:Cx}{l:Fr}{H:List Ent}{d:Option Nat}{ty:TypeId}{pos:String}{af:Array Edge}{g:Option (Nat×Bool)}{x0:Operand}{r0:Rp}(h0:ev l x0=some r0)(u0:r0.one=true):BD Tryz.prog n c l H { dst:=d,op:=.build 70 #[(0,x0)],type:=ty,pos:=pos,after:=af,guard:=g } (BB [r0,A2 0,rS ([]:Ah),A2 0]):=λa w Z ha _=>by
  have p0:=ha.ev h0;have c0:=Bz (r0.hone u0 Z _ p0);have hb:Tryz.prog.built 70 [(0,a.eval x0)]=some #[a.eval x0,(.int .i64 0),(.string ⟨#[]⟩),(.int .i64 0)]:=by
    rw[SO];generalize a.eval x0=v0 at *;simp[Instr.fill,c0]
  refine⟨.agg #[a.eval x0,(.int .i64 0),(.string ⟨#[]⟩),(.int .i64 0)],⟨[a.eval x0,(.int .i64 0),(.string ⟨#[]⟩),(.int .i64 0)],rfl,p0,rfl,rfl,rfl,trivial⟩,?_⟩;have:=run_build w 70 #[(0,a.eval x0)] _ (by simpa using hb);simp[execOp,this]
theorem LX {n:Nat}{c:Cx}{l:Fr}{H:List Ent}{d:Option Nat}{ty:TypeId}{pos:String}{af:Array Edge}{g:Option (Nat×Bool)}{x0:Operand}{r0:Rp}(h0:ev l x0=some r0)(u0:r0.one=true){x1:Operand}{r1:Rp}(h1:ev l x1=some r1)(u1:r1.one=true):BD Tryz.prog n c l H { dst:=d,op:=.build 70 #[(0,x0),(1,x1)],type:=ty,pos:=pos,after:=af,guard:=g } (BB [r0,r1,rS ([]:Ah),A2 0]):=λa w Z ha _=>by
  have p0:=ha.ev h0;have c0:=Bz (r0.hone u0 Z _ p0);have p1:=ha.ev h1;have c1:=Bz (r1.hone u1 Z _ p1);have hb:Tryz.prog.built 70 [(0,a.eval x0),(1,a.eval x1)]=some #[a.eval x0,a.eval x1,(.string ⟨#[]⟩),(.int .i64 0)]:=by
    rw[SO];generalize a.eval x0=v0 at *;generalize a.eval x1=v1 at *;simp[Instr.fill,c0,c1]
  refine⟨.agg #[a.eval x0,a.eval x1,(.string ⟨#[]⟩),(.int .i64 0)],⟨[a.eval x0,a.eval x1,(.string ⟨#[]⟩),(.int .i64 0)],rfl,p0,p1,rfl,rfl,trivial⟩,?_⟩;have:=run_build w 70 #[(0,a.eval x0),(1,a.eval x1)] _ (by simpa using hb);simp[execOp,this]
theorem LW {n:Nat}{c:Cx}{l:Fr}{H:List Ent}{d:Option Nat}{ty:TypeId}{pos:String}{af:Array Edge}{g:Option (Nat×Bool)}{x0:Operand}{r0:Rp}(h0:ev l x0=some r0)(u0:r0.one=true){x2:Operand}{r2:Rp}(h2:ev l x2=some r2)(u2:r2.one=true):BD Tryz.prog n c l H { dst:=d,op:=.build 70 #[(0,x0),(2,x2)],type:=ty,pos:=pos,after:=af,guard:=g } (BB [r0,A2 0,r2,A2 0]):=λa w Z ha _=>by
  have p0:=ha.ev h0;have c0:=Bz (r0.hone u0 Z _ p0);have p2:=ha.ev h2;have c2:=Bz (r2.hone u2 Z _ p2);have hb:Tryz.prog.built 70 [(0,a.eval x0),(2,a.eval x2)]=some #[a.eval x0,(.int .i64 0),a.eval x2,(.int .i64 0)]:=by
    rw[SO];generalize a.eval x0=v0 at *;generalize a.eval x2=v2 at *;simp[Instr.fill,c0,c2]
  refine⟨.agg #[a.eval x0,(.int .i64 0),a.eval x2,(.int .i64 0)],⟨[a.eval x0,(.int .i64 0),a.eval x2,(.int .i64 0)],rfl,p0,rfl,p2,rfl,trivial⟩,?_⟩;have:=run_build w 70 #[(0,a.eval x0),(2,a.eval x2)] _ (by simpa using hb);simp[execOp,this]
theorem Aaw (parts:List (Nat×Value)):Tryz.prog.built 190 parts=Instr.fill (λi=>(#[(0,1),(1,1),(2,1),(3,1),(4,1)]:Array (Nat×Nat))[i]?) #[(.bool false),(.int .i64 0),(.bool false),(.string ⟨#[]⟩),(.bool false)] parts:=by kernel_rfl
theorem NU {n:Nat}{c:Cx}{l:Fr}{H:List Ent}{d:Option Nat}{ty:TypeId}{pos:String}{af:Array Edge}{g:Option (Nat×Bool)}{x0:Operand}{r0:Rp}(h0:ev l x0=some r0)(u0:r0.one=true){x1:Operand}{r1:Rp}(h1:ev l x1=some r1)(u1:r1.one=true){x2:Operand}{r2:Rp}(h2:ev l x2=some r2)(u2:r2.one=true):BD Tryz.prog n c l H { dst:=d,op:=.build 190 #[(0,x0),(1,x1),(2,x2)],type:=ty,pos:=pos,after:=af,guard:=g } (BB [r0,r1,r2,rS ([]:Ah),rB false]):=λa w Z ha _=>by
  have p0:=ha.ev h0;have c0:=Bz (r0.hone u0 Z _ p0);have p1:=ha.ev h1;have c1:=Bz (r1.hone u1 Z _ p1);have p2:=ha.ev h2;have c2:=Bz (r2.hone u2 Z _ p2);have hb:Tryz.prog.built 190 [(0,a.eval x0),(1,a.eval x1),(2,a.eval x2)]=some #[a.eval x0,a.eval x1,a.eval x2,(.string ⟨#[]⟩),(.bool false)]:=by
    rw[Aaw];generalize a.eval x0=v0 at *;generalize a.eval x1=v1 at *;generalize a.eval x2=v2 at *;simp[Instr.fill,c0,c1,c2]
  refine⟨.agg #[a.eval x0,a.eval x1,a.eval x2,(.string ⟨#[]⟩),(.bool false)],⟨[a.eval x0,a.eval x1,a.eval x2,(.string ⟨#[]⟩),(.bool false)],rfl,p0,p1,p2,rfl,rfl,trivial⟩,?_⟩;have:=run_build w 190 #[(0,a.eval x0),(1,a.eval x1),(2,a.eval x2)] _ (by simpa using hb);simp[execOp,this]
theorem Z9 (n:Int)(r:Bool)(h:C2 n=some r):Fn Tryz.prog GE 142 [A2 n] [] (λR H=>R=rB r∧H=[]):=by
 refine enter (n:=9) Tryz.func142 Aa Tryz.ntmps142 Aa (λw Z=>?_);unfold C2 at h;refine Ae (wa Aa (An (AC [(2,rB ((decide ((-1000000000000)≤n))&&(decide (n≤1000000000000))))] [] ?_ ?_)))
 ·refine Aj (wm Aa (wv (J9 Aa Aa) (wm Aa (AU (decide ((-1000000000000)≤n)) (λc1=>?_) (λc1=>?_)))))
  ·refine wo c1 (wm Aa (wo c1 (wv (J9 Aa Aa) (Eb Aa c1 Aa (wa Aa (Am ?_))))));exact Cd c1
  refine wf c1 (wf c1 (wv (r:=rB false) (Av Aa c1 Aa) (wa Aa (Am ?_))));exact Cd c1
 refine Ap ?_;obtain rfl:=As h;exact Ar (BE Tryz.results142 (AO Aa)) sN ⟨Aa,Aa⟩
theorem AaN (F:Nat)(s:Ah)(r:Bool)(h:MM F s=some r):Fn Tryz.prog GE 178 [rS s] [] (λR H=>R=rB r∧H=[]):=by
 refine enter (n:=20) Tryz.func178 Aa Tryz.ntmps178 Aa (λw Z=>?_);unfold MM at h;refine Ae (wa Aa (An (Al (Ae (wm Aa (wv (BO Dx Aa) (wv (r:=A2 0) (Ak Aa) (An (AF (ob h λhj hk hh=>B2 (S:=Nat×(Int)×(Unit)) (V:=(Unit)×(Unit)) 0 (λσ=>Cj (λσ=>Jv s σ) σ.1 σ.2.1=some hj) (λσ=>[(0,rS s),(5,A2 (s.length:Int)),(6,A2 σ.2.1)]) (λσ=>[]) (λσ=>σ.1) (F,0,()) hk (AM.c Aa (AM.c Aa (AM.c Aa AM.nil))) sN (λσ=>Ju =some r) (λσ=>[]) (λσ=>[]) ?_ ?_))))))))))
 ·rintro⟨h1,hd,⟨⟩⟩ hl;refine GZ ?_;obtain⟨hm,rfl,t37,he,hg⟩:=Cu hl;replace he:Jv s hd=some t37:=he;unfold Jv at he;refine Ae (wv (C1 Aa Aa) (An (Al (cz he Aa (λhn hp=>?_) (λhn hq=>?_)))))
  ·refine Ax (AS (Al (AF (Ae (wm Aa (wa Aa (An (ck hp λhi hr=>AC [(0,rS s),(5,A2 (s.length:Int)),(6,A2 hd),(18,rB ((decide ((Cs s hd)<32))||(decide (126<(Cs s hd)))))] [] ?_ ?_))))))))
   ·refine Aj (wm Aa (wm Aa (wv (BR Dx Aa Aa hi) (wv (C1 Aa Aa) (wm Aa (AU (decide ((Cs s hd)<32)) (λhb=>?_) (λhb=>?_)))))))
    ·refine wf hb (wf hb (wf hb (wf hb (wv (r:=rB true) (AB Aa hb Aa) (Am ?_)))));exact Cd hb
    refine wo hb (wm Aa (wo hb (wm Aa (wo hb (wv (BR Dx Aa Aa hi) (wo hb (wv (Ee Aa Aa) (II Aa hb Aa (Am ?_)))))))));exact Cd hb
   refine cz hr Aa (λhs ht=>?_) (λhs hu=>?_)
   ·refine Ae (wa Aa (An (Ap (A0 (Ac (Ac (Bu ?_)))))));have hw:=BF ht hg hh;refine A0 (Ac ?_);obtain rfl:=As hw;exact Ar (BE Tryz.results178 (AO Aa)) sN ⟨Aa,Aa⟩
   refine Ax (AH (AS (Aj (ck hu λhx hy=>wv (BA Aa Aa hx) (wm Aa (Am ?_))))));have hz:=Bw hy hg;exact A4 (AK (hm,hd+1,()) ⟨hz,Afh _⟩ (AM.c Aa (AM.c Aa (AM.c Aa AM.nil))) sN)
  refine B4 (Ay ?_);have h0:=BP hq hg hh;exact Ay (Bn (AK ((),()) h0 AM.nil sN))
 rintro⟨⟨⟩,⟨⟩⟩ hf;refine HE ?_;replace hf:Ju =some r:=hf;unfold Ju at hf;refine Bm (AS (Ae (wa Aa (An (Ap ?_)))));obtain rfl:=As hf;exact Ar (BE Tryz.results178 (AO Aa)) sN ⟨Aa,Aa⟩
theorem Rq (s:Ah)(r:Int)(h:Lz s=some r):Fn Tryz.prog GE 140 [rS s] [] (λR H=>R=A2 r∧H=[]):=by
 refine enter (n:=12) Tryz.func140 Aa Tryz.ntmps140 Aa (λw Z=>?_);unfold Lz at h;refine Ae (wa Aa (Bv (wm Aa (wv (BO Dx Aa) (ck h λg1 h2=>wv (BA Aa Aa g1) (wm Aa (Cp (rs:=[rS s,rS ([34]:Ah)]) (r:=A2 (Lib.countByte s 34:Int)) Tryz.call179 Aa (SM s 34) Aa Aa (ck h2 λg3 h4=>wv (BA Aa Aa g3) (wm Aa (Cp (rs:=[rS s,rS ([92]:Ah)]) (r:=A2 (Lib.countByte s 92:Int)) Tryz.call179 Aa (SM s 92) Aa Aa (ck h4 λg5 h6=>wv (BA Aa Aa g5) (wa Aa (An (Ap ?_))))))))))))));obtain rfl:=As h6;exact Ar (BE Tryz.results140 (AO Aa)) sN ⟨Aa,Aa⟩
theorem YS (F:Nat)(c:Ab)(r:Bool)(h:PF F c=some r):Fn Tryz.prog GE 139 [BB (Af c)] [] (λR H=>R=rB r∧H=[]):=by
 refine enter (n:=81) Tryz.func139 Aa Tryz.ntmps139 Aa (λw Z=>?_);unfold PF at h;refine Ae (Ci Aa Aa (λb1=>?_));refine wa Aa (An (Al (Ae (vF BH Aa EA (vL 0 EB Aa (An (AF (Ae (wv (BI Aa Aa) (wa Aa (An (cz h Aa (λc2 h3=>?_) (λc2 h6=>?_)))))))))))))
 ·refine AC [(2,rB ((decide (c.fInt=0))&&((decide (c.fStr=([]:Ah)))&&(decide (c.fN=0)))))] [] ?_ ?_
  ·refine Aj (vF BH Aa Dj (vL 0 DQ Aa (wv (BI Aa Aa) (wm Aa (AU (decide (c.fInt=0)) (λc4=>?_) (λc4=>?_))))))
   ·refine wo c4 (vF BH Aa CC (wo c4 (vL 0 Dp Aa (wo c4 (wv (Cy Aa Aa) (Eb Aa c4 Aa (wm Aa (AU (decide (c.fStr=([]:Ah))) (λc5=>?_) (λc5=>?_)))))))))
    ·refine wo c5 (vF BH Aa Dj (wo c5 (vL 0 DQ Aa (wo c5 (wv (BI Aa Aa) (Eb Aa c5 Aa (wa Aa (Am ?_))))))));exact Cd (And.intro c4 c5)
    refine wf c5 (wf c5 (wf c5 (wv (r:=rB false) (Av Aa c5 Aa) (wa Aa (Am ?_)))));exact Cd (And.intro c4 c5)
   refine wf c4 (wf c4 (wf c4 (wv (r:=rB false) (Av Aa c4 Aa) (wm Aa (wz Aa Aa (wz Aa Aa (wz Aa Aa (wv (r:=rB false) (Av (b:=false) Aa Aa Aa) (wa Aa (Am ?_))))))))));exact Cd c4
  refine Ap (A0 (Ac ?_));obtain rfl:=As h3;exact Ar (BE P5 (AO Aa)) sN ⟨Aa,Aa⟩
 refine Ae (wv (BI Aa Aa) (wa Aa (An (cz h6 Aa (λc7 h8=>?_) (λc7 hn=>?_)))))
 ·refine AC [(2,rB (bif decide (c.fInt=0) then((decide (c.fStr=([]:Ah)))&&(decide (c.fN=0))) else((decide (c.fInt=1))&&((decide (c.fStr=([]:Ah)))&&(decide (c.fN=0))))))] [] ?_ ?_
  ·refine Aj (vF BH Aa Dj (vL 0 DQ Aa (wv (BI Aa Aa) (wm Aa (AU (decide (c.fInt=0)) (λc9=>?_) (λc9=>?_))))))
   ·refine wf c9 (wf c9 (wf c9 (wv (r:=rB true) (AB Aa c9 Aa) (wm Aa (Bd (b:=true) Aa Aa Aa (vF BH Aa CC (Bd (b:=true) Aa Aa Aa (vL 0 Dp Aa (Bd (b:=true) Aa Aa Aa (wv (Cy Aa Aa) (wv (r:=rB (decide (c.fStr=([]:Ah)))) (AB (b:=true) Aa Aa Aa) (wm Aa (AU (decide (c.fStr=([]:Ah))) (λhh=>?_) (λhh=>?_))))))))))))))
    ·refine wo hh (vF BH Aa Dj (wo hh (vL 0 DQ Aa (wo hh (wv (BI Aa Aa) (Eb Aa hh Aa (wa Aa (Am ?_))))))));exact Cd (And.intro c9 hh)
    refine wf hh (wf hh (wf hh (wv (r:=rB false) (Av Aa hh Aa) (wa Aa (Am ?_)))));exact Cd (And.intro c9 hh)
   refine wo c9 (vF BH Aa Dj (wo c9 (vL 0 DQ Aa (wo c9 (wv (BI Aa Aa) (II Aa c9 Aa (wm Aa (AU (decide (c.fInt=1)) (λhd=>?_) (λhd=>?_)))))))))
   ·refine wo hd (vF BH Aa CC (wo hd (vL 0 Dp Aa (wo hd (wv (Cy Aa Aa) (Eb Aa hd Aa (wm Aa (AU (decide (c.fStr=([]:Ah))) (λhi=>?_) (λhi=>?_)))))))))
    ·refine wo hi (vF BH Aa Dj (wo hi (vL 0 DQ Aa (wo hi (wv (BI Aa Aa) (Eb Aa hi Aa (wa Aa (Am ?_))))))));exact Cd (And.intro c9 (And.intro hd hi))
    refine wf hi (wf hi (wf hi (wv (r:=rB false) (Av Aa hi Aa) (wa Aa (Am ?_)))));exact Cd (And.intro c9 (And.intro hd hi))
   refine wf hd (wf hd (wf hd (wv (r:=rB false) (Av Aa hd Aa) (wm Aa (wz Aa Aa (wz Aa Aa (wz Aa Aa (wv (r:=rB false) (Av (b:=false) Aa Aa Aa) (wa Aa (Am ?_))))))))));exact Cd (And.intro c9 hd)
  refine Ap (A0 (Ac ?_));obtain rfl:=As h8;exact Ar (BE P5 (AO Aa)) sN ⟨Aa,Aa⟩
 refine Ae (wv (BI Aa Aa) (wa Aa (An (cz hn Aa (λhp hq=>?_) (λhp hr=>?_)))))
 ·refine AC [(2,rB ((decide (c.fStr=([]:Ah)))&&(decide (c.fN=0))))] [] ?_ ?_
  ·refine Aj (vF BH Aa CC (vL 0 Dp Aa (wv (Cy Aa Aa) (wm Aa (AU (decide (c.fStr=([]:Ah))) (λhj=>?_) (λhj=>?_))))))
   ·refine wo hj (vF BH Aa Dj (wo hj (vL 0 DQ Aa (wo hj (wv (BI Aa Aa) (Eb Aa hj Aa (wa Aa (Am ?_))))))));exact Cd hj
   refine wf hj (wf hj (wf hj (wv (r:=rB false) (Av Aa hj Aa) (wa Aa (Am ?_)))));exact Cd hj
  refine Ap (A0 (Ac ?_));obtain rfl:=As hq;exact Ar (BE P5 (AO Aa)) sN ⟨Aa,Aa⟩
 refine Ae (wv (BI Aa Aa) (wa Aa (An (cz hr Aa (λhs ht=>?_) (λhs hu=>?_)))))
 ·refine ck ht λhw hx=>AC [(2,rB ((decide (c.fInt=0))&&((decide (c.fN=0))&&(ov (MM F c.fStr)))))] [] ?_ ?_
  ·refine Aj (vF BH Aa Dj (vL 0 DQ Aa (wv (BI Aa Aa) (wm Aa (AU (decide (c.fInt=0)) (λhb=>?_) (λhb=>?_))))))
   ·refine wo hb (vF BH Aa Dj (wo hb (vL 0 DQ Aa (wo hb (wv (BI Aa Aa) (Eb Aa hb Aa (wm Aa (AU (decide (c.fN=0)) (λhe=>?_) (λhe=>?_)))))))))
    ·refine wo he (vF BH Aa CC (wo he (vL 0 Dp Aa (wo he (BX Tryz.call178 (AaN F c.fStr (ov (MM F c.fStr)) (CY (BY (BY hw hb) he))) Aa (Eb Aa he Aa (wa Aa (Am ?_))))))));exact Cd (And.intro hb he)
    refine wf he (wf he (wf he (wv (r:=rB false) (Av Aa he Aa) (wa Aa (Am ?_)))));exact Cd (And.intro hb he)
   refine wf hb (wf hb (wf hb (wv (r:=rB false) (Av Aa hb Aa) (wm Aa (wz Aa Aa (wz Aa Aa (wz Aa Aa (wv (r:=rB false) (Av (b:=false) Aa Aa Aa) (wa Aa (Am ?_))))))))));exact Cd hb
  refine Ap (A0 (Ac ?_));obtain rfl:=As hx;exact Ar (BE P5 (AO Aa)) sN ⟨Aa,Aa⟩
 refine Al (Ae (wv (BI Aa Aa) (wa Aa (An (cz hu Aa (λhm hy=>?_) (λhm hz=>?_))))))
 ·refine Ax (AS (CG Aa hm (AC [(2,rB ((decide (c.fInt=0))&&((decide (c.fStr=([]:Ah)))&&(decide (0≤c.fN)))))] [] ?_ ?_)))
  ·refine Aj (vF BH Aa Dj (vL 0 DQ Aa (wv (BI Aa Aa) (wm Aa (AU (decide (c.fInt=0)) (λhf=>?_) (λhf=>?_))))))
   ·refine wo hf (vF BH Aa CC (wo hf (vL 0 Dp Aa (wo hf (wv (Cy Aa Aa) (Eb Aa hf Aa (wm Aa (AU (decide (c.fStr=([]:Ah))) (λhk=>?_) (λhk=>?_)))))))))
    ·refine wo hk (vF BH Aa Dj (wo hk (vL 0 DQ Aa (wo hk (wv (EN Aa Aa) (Eb Aa hk Aa (wa Aa (Am ?_))))))));exact Cd (And.intro hf hk)
    refine wf hk (wf hk (wf hk (wv (r:=rB false) (Av Aa hk Aa) (wa Aa (Am ?_)))));exact Cd (And.intro hf hk)
   refine wf hf (wf hf (wf hf (wv (r:=rB false) (Av Aa hf Aa) (wm Aa (wz Aa Aa (wz Aa Aa (wz Aa Aa (wv (r:=rB false) (Av (b:=false) Aa Aa Aa) (wa Aa (Am ?_))))))))));exact Cd hf
  refine Ap (A0 (Ac ?_));obtain rfl:=As hy;exact Ar (BE P5 (AO Aa)) sN ⟨Aa,Aa⟩
 refine Aj (wv (BI Aa Aa) (wa Aa (An (cz hz Aa (λh0 h1=>?_) (λh0 h2=>?_)))))
 ·refine AC [(2,rB ((decide (c.fInt=0))&&((decide (c.fStr=([]:Ah)))&&(decide (0≤c.fN)))))] [] ?_ ?_
  ·refine Aj (vF BH Aa Dj (vL 0 DQ Aa (wv (BI Aa Aa) (wm Aa (AU (decide (c.fInt=0)) (λhg=>?_) (λhg=>?_))))))
   ·refine wo hg (vF BH Aa CC (wo hg (vL 0 Dp Aa (wo hg (wv (Cy Aa Aa) (Eb Aa hg Aa (wm Aa (AU (decide (c.fStr=([]:Ah))) (λhl=>?_) (λhl=>?_)))))))))
    ·refine wo hl (vF BH Aa Dj (wo hl (vL 0 DQ Aa (wo hl (wv (EN Aa Aa) (Eb Aa hl Aa (wa Aa (Am ?_))))))));exact Cd (And.intro hg hl)
    refine wf hl (wf hl (wf hl (wv (r:=rB false) (Av Aa hl Aa) (wa Aa (Am ?_)))));exact Cd (And.intro hg hl)
   refine wf hg (wf hg (wf hg (wv (r:=rB false) (Av Aa hg Aa) (wm Aa (wz Aa Aa (wz Aa Aa (wz Aa Aa (wv (r:=rB false) (Av (b:=false) Aa Aa Aa) (wa Aa (Am ?_))))))))));exact Cd hg
  refine Ap (A0 (Ac ?_));obtain rfl:=As h1;exact Ar (BE P5 (AO Aa)) sN ⟨Aa,Aa⟩
 refine Ax (AH (AS (Ae (wa Aa (An (Ap ?_))))));obtain rfl:=As h2;exact Ar (BE P5 (AO Aa)) (sS sN) ⟨Aa,Aa⟩
theorem AaO (c:Ab)(r:Int)(h:Tu c=some r):Fn Tryz.prog GE 141 [BB (Af c)] [] (λR H=>R=A2 r∧H=[]):=by
 refine enter (n:=28) Tryz.func141 Aa Tryz.ntmps141 Aa (λw Z=>?_);unfold Tu at h;refine Ae (Ci Aa Aa (λb1=>?_));refine wa Aa (An (Al (Ae (vF BH Aa EA (vL 0 EB Aa (An (AF (Ae (wv (BI Aa Aa) (wa Aa (An (cz h Aa (λc2 h3=>?_) (λc2 h4=>?_)))))))))))))
 ·refine Ae (wa Aa (An (Ap (A0 (Ac ?_)))));obtain rfl:=As h3;exact Ar (BE Tm (AO Aa)) (sS sN) ⟨Aa,Aa⟩
 refine Ae (wv (BI Aa Aa) (wa Aa (An (cz h4 Aa (λc5 h6=>?_) (λc5 h7=>?_)))))
 ·refine Ae (vF BH Aa Dj (vL 0 DQ Aa (wv (r:=A2 (IntKind.wrap .i64 (5-c.fInt))) (Zz Aa Aa) (wa Aa (An (Ap (A0 (Ac ?_))))))));obtain rfl:=As h6;exact Ar (BE Tm (AO Aa)) (sS sN) ⟨Aa,Aa⟩
 refine Ae (wv (BI Aa Aa) (wa Aa (An (cz h7 Aa (λc8 h9=>?_) (λc8 hb=>?_)))))
 ·refine Ae (vF BH Aa Dj (vL 0 DQ Aa (ck h9 λhd he=>Cp (rs:=[A2 c.fInt]) (r:=rS (Lib.itoa c.fInt)) Tryz.call163 Aa (UD c.fInt hd) Aa Aa (wv (BO Dx Aa) (wa Aa (An (Ap (A0 (Ac ?_)))))))));obtain rfl:=As he;exact Ar (BE Tm (AO Aa)) (sS sN) ⟨Aa,Aa⟩
 refine Ae (wv (BI Aa Aa) (wa Aa (An (cz hb Aa (λhf hg=>?_) (λhf hh=>?_)))))
 ·refine Ae (vF BH Aa CC (vL 0 Dp Aa (ob hg λhi hj hk=>BX Tryz.call140 (Rq c.fStr hi hj) Aa (wa Aa (An (Ap (A0 (Ac ?_))))))));obtain rfl:=As hk;exact Ar (BE Tm (AO Aa)) (sS sN) ⟨Aa,Aa⟩
 refine Ax (AH (AS (Ae (vF BH Aa Dj (vL 0 DQ Aa (wv (r:=A2 (IntKind.wrap .i64 (c.fN-1))) (Zz Aa Aa) (wv (Z5 yu3 Aa Aa) (wv (r:=A2 (IntKind.wrap .i64 (2+(max 0 (IntKind.wrap .i64 (c.fN-1)))))) (V5 Aa Aa) (wa Aa (An (Ap ?_)))))))))));obtain rfl:=As hh;exact Ar (BE Tm (AO Aa)) (sS sN) ⟨Aa,Aa⟩
theorem X7 (F:Nat)(hj:Value)(stack:(List AP))(r:(List AP))(h:MP F stack=some r):Fn Tryz.prog GE 143 [rv hj] [.row hj 190 5 (A3 Ba stack)] (λR H=>∃u0:Value,R=rv u0∧H=[.row u0 190 5 (A3 Ba r)]):=by
 refine enter (n:=38) Tryz.func143 Aa Tryz.ntmps143 Aa (λw Z=>?_);unfold MP at h;refine Ae (wa Aa (An (Al (AF (ob h λhm hn hl=>B2 (S:=Nat×((List AP))×(Value)) (V:=((List AP))×(Value)) 0 (λσ=>Cj (λσ=>EE σ) σ.1 σ.2.1=some hm) (λσ=>[(0,rv σ.2.2),(2,rv (.slice none 0 0))]) (λσ=>[.row σ.2.2 190 5 (A3 Ba σ.2.1)]) (λσ=>σ.1) (F,stack,hj) hn (AM.c Aa (AM.c Aa AM.nil)) (sC sN) (λσ=>G5 σ.1=some r) (λσ=>[(0,rv σ.2),(2,rv (.slice none 0 0))]) (λσ=>[.row σ.2 190 5 (A3 Ba σ.1)]) ?_ ?_)))))
 ·rintro⟨n194,hb,hf⟩ hp;refine GZ ?_;obtain⟨hq,rfl,hr,hh,hk⟩:=Cu hp;replace hh:EE hb=some hr:=hh;unfold EE at hh;refine Al (Ae (wm Aa (wv (CN (ys:=hb) (enc:=Ba) (i:=0) Kv Aa Aa) (wv (Ee Aa Aa) (An (cz hh Aa (λhs ht=>?_) (λhs hu=>?_)))))))
  ·refine Ax (AS (AF (Ae (wm Aa (wm Aa (wv (CN (ys:=hb) (enc:=Ba) (i:=0) Kv Aa Aa) (ck ht λhw hx=>wv (I3 Aa Aa hw) (ck hx λhe hy=>wv (r:=rv (En 5 hf (Ch ((hb.length:Int)-1)) 0)) (Dr (i:=0) Kv Tj Aa Aa Aa (BC he)) (wa Aa (Bv (wm Aa (wv (r:=rv (En 5 hf (Ch ((hb.length:Int)-1)) 0)) (CM (k:=0) Aa (BC he) Aa Aa) (wv (r:=rv (En 5 hf (Ch ((hb.length:Int)-1)) 1)) (D4 (k:=0) Ku Aa Dj Aa (BC he) Aa Aa Aa) (wv (r:=A2 ((Ao hb ((hb.length:Int)-1)).fLeft)) (EM (enc:=Ba) (ys:=hb) (i:=0) (j:=(hb.length:Int)-1) DQ Aa Aa he Aa) (ck hy λhz h0=>wv (I3 Aa Aa hz) (wv (r:=rv (En 5 hf (Ch ((hb.length:Int)-1)) 0)) (CM (k:=0) Aa (BC he) Aa Aa) (wv (r:=rv (En 5 hf (Ch ((hb.length:Int)-1)) 1)) (D4 (k:=0) Ku Aa Dj Aa (BC he) Aa Aa Aa) (JZ (enc:=Ba) (ys:=hb) (y':=(AP.mk ((Ao hb ((hb.length:Int)-1)).fPairs) (((Ao hb ((hb.length:Int)-1)).fLeft)-1) ((Ao hb ((hb.length:Int)-1)).fKey) ((Ao hb ((hb.length:Int)-1)).fLast) ((Ao hb ((hb.length:Int)-1)).fStarted))) (i:=0) (j:=(hb.length:Int)-1) Dj Aa Aa (BT Aa) Aa he Aa Aa (H':=[.row hf 190 5 (A3 Ba (List.set hb (Ch ((hb.length:Int)-1)) (AP.mk ((Ao hb ((hb.length:Int)-1)).fPairs) (((Ao hb ((hb.length:Int)-1)).fLeft)-1) ((Ao hb ((hb.length:Int)-1)).fKey) ((Ao hb ((hb.length:Int)-1)).fLast) ((Ao hb ((hb.length:Int)-1)).fStarted))))]) Aa (bd h0 λhd hg h1=>?_)))))))))))))))))));rw[← hg];refine An (Al (Ae (wm Aa (wv (r:=rv (En 5 hf (Ch ((hb.length:Int)-1)) 0)) (CM (k:=0) Aa (BC (D8 he hg)) Aa Aa) (wv (r:=rv (En 5 hf (Ch ((hb.length:Int)-1)) 1)) (D4 (k:=0) Ku Aa Dj Aa (BC (D8 he hg)) Aa Aa Aa) (wv (r:=A2 ((Ao hd ((hb.length:Int)-1)).fLeft)) (EM (enc:=Ba) (ys:=hd) (i:=0) (j:=(hb.length:Int)-1) DQ Aa Aa (D8 he hg) Aa) (wv (Ee Aa Aa) (An (cz h1 Aa (λh2 h3=>?_) (λh2 h4=>?_))))))))))
   ·refine Ae (wm Aa (wm Aa (wv (r:=rv (En 5 hf (Ch ((hb.length:Int)-1)) 0)) (CM (k:=0) Aa (BC (D8 he hg)) Aa Aa) (wv (r:=rv (En 5 hf (Ch ((hb.length:Int)-1)) 0)) (D4 (k:=0) Ku Aa Jp Aa (BC (D8 he hg)) Aa Aa Aa) (wv (r:=rB ((Ao hd ((hb.length:Int)-1)).fPairs)) (EM (enc:=Ba) (ys:=hd) (i:=0) (j:=(hb.length:Int)-1) Pe Aa Aa (D8 he hg) Aa) (wv (r:=rv (En 5 hf (Ch ((hb.length:Int)-1)) 0)) (CM (k:=0) Aa (BC (D8 he hg)) Aa Aa) (wv (r:=rv (En 5 hf (Ch ((hb.length:Int)-1)) 2)) (D4 (k:=0) Ku Aa Jp Aa (BC (D8 he hg)) Aa Aa Aa) (JZ (enc:=Ba) (ys:=hd) (y':=(AP.mk ((Ao hd ((hb.length:Int)-1)).fPairs) ((Ao hd ((hb.length:Int)-1)).fLeft) ((Ao hd ((hb.length:Int)-1)).fPairs) ((Ao hd ((hb.length:Int)-1)).fLast) ((Ao hd ((hb.length:Int)-1)).fStarted))) (i:=0) (j:=(hb.length:Int)-1) Jp Aa Aa (BT Aa) Aa (D8 he hg) Aa Aa (H':=[.row hf 190 5 (A3 Ba (List.set hd (Ch ((hb.length:Int)-1)) (AP.mk ((Ao hd ((hb.length:Int)-1)).fPairs) ((Ao hd ((hb.length:Int)-1)).fLeft) ((Ao hd ((hb.length:Int)-1)).fPairs) ((Ao hd ((hb.length:Int)-1)).fLast) ((Ao hd ((hb.length:Int)-1)).fStarted))))]) Aa (bd h3 λhI h5 h6=>?_)))))))));rw[← h5];refine Bv (wm Aa (wa Aa (An (Ap (Ac (A0 (Ac (Bu ?_))))))));have h7:=BF h6 hk hl;refine A0 (Ac ?_);obtain rfl:=As h7;exact Ar (BE Tryz.results143 (AO Aa)) (sC sN) ⟨hf,Aa,Aa⟩
   refine Ax (AS (Aj (wm Aa (wm Aa (wv (CN (ys:=hd) (enc:=Ba) (i:=0) Kv Aa Aa) (ck h4 λh8 h9=>wv (I3 Aa Aa h8) (ck h9 λhA hB=>Ack (i:=0) Kv Tj Aa Aa Aa hA Aa (λhC=>?_))))))));refine wa Aa (Am (AH ?_));have hD:=Bw hB hk;exact A4 (AK (hq,List.take (Ch ((hd.length:Int)-1)) hd,hC) ⟨hD,Afh _⟩ (AM.c Aa (AM.c Aa AM.nil)) (sC sN))
  refine B4 (Ay ?_);have hE:=BP hu hk hl;exact Ay (Bn (AK (hb,hf) hE (AM.c Aa (AM.c Aa AM.nil)) (sC sN)))
 rintro⟨hG,hH⟩ hi;refine HE ?_;replace hi:G5 hG=some r:=hi;unfold G5 at hi;refine Bm (AS (Ae (wm Aa (wa Aa (An (Ap ?_))))));obtain rfl:=As hi;exact Ar (BE Tryz.results143 (AO Aa)) (sC sN) ⟨hH,Aa,Aa⟩
theorem Sc (F:Nat)(v:(List Ab))(r:Int×Bf×Bool)(h:Kx F v=some r):Fn Tryz.prog GE 95 [AJ 4 (A3 Af v)] [] (λR H=>R=Dz [A2 r.1,BB (By r.2.1),rB r.2.2]∧H=[]):=by
 refine enter (n:=152) Tryz.func95 Aa Tryz.ntmps95 Aa (λw Z=>?_);unfold Kx at h;refine Ae (wa Aa (BK (cs:=[A2 0,A2 0,rB false,rB false]) Tc Aa Aa (λb1=>?_)));refine wa Aa (An (YL (Ae (BK (cs:=[A2 0,A2 0,rB false,rB false]) Tc Aa Aa (λb2=>?_)))));refine Bv (wa Aa (An (Al (YM (AS (Al (Ae (wm Aa (wv (Br (ys:=v) (enc:=Af) CX Aa) (wv (r:=A2 0) (Ak Aa) (An (AF (WC.nilrow (e:=190) (sz:=5) (Lw (H2:=[.blk b2 [A2 0,A2 0,rB false,rB false] 143,.blk b1 [A2 0,A2 0,rB false,rB false] 143,.row (.slice none 0 0                                                                                                                                                                                              ) 190 5 (A3 Ba ([]:List AP))]) ((AW (i:=1) Aa).trans (Afj _ ((AW (i:=1) Aa).trans (Afj _ (Afl _))))) (ob h λhA hB h0=>B2 (S:=Nat×((List AP)×Int×Bf)×(Value)) (V:=(Bf)×(Unit)) 0 (λσ=>Cj (λσ=>ED F v σ.1 σ.2.1 σ.2.2) σ.1 σ.2.1=some hA) (λσ=>[(0,AJ 4 (A3 Af v)),(3,rP b1 0),(5,rP b2 0),(6,rv σ.2.2),(11,AJ 4 (A3 Af v)),(12,A2 (v.length:Int)),(13,A2 σ.2.1.2.1)]) (λσ=>[.blk b2 (By σ.2.1.2.2) 143,.blk b1 [A2 0,A2 0,rB false,rB false] 143,.row σ.2.2 190 5 (A3 Ba σ.2.1.1)]) (λσ=>σ.1) (F,(([]:List AP),0,(Bf.mk 0 0 false false)),(.slice none 0 0                                                                                                                                                                                              )) hB (AM.c Aa (AM.c Aa (AM.c5 Aa Aa Aa Aa Aa AM.nil))) (sC (sC (sC sN))) (λσ=>MO σ.1=some r) (λσ=>[(3,rP b1 0),(5,rP b2 0)]) (λσ=>[.blk b2 (By σ.1) 143,.blk b1 [A2 0,A2 0,rB false,rB false] 143]) ?_ ?_)))))))))))))))
 ·rintro⟨gJ,⟨he,hd,hb⟩,hf⟩ hC;refine GZ ?_;obtain⟨hD,rfl,h6,h1,hy⟩:=Cu hC;replace h1:ED F v he hd hb=some h6:=h1;unfold ED at h1;refine Ae (wv (C1 Aa Aa) (An (Al (cz h1 Aa (λhE hG=>?_) (λhE hH=>?_)))))
  ·refine Ax (AS (G4 (S:=((List AP)×Bf)×(Value)) (λσ=>Gm hd σ.1.1 σ.1.2=some h6) (λσ=>[(0,AJ 4 (A3 Af v)),(3,rP b1 0),(5,rP b2 0),(6,rv σ.2),(11,AJ 4 (A3 Af v)),(12,A2 (v.length:Int)),(13,A2 hd)]) (λσ=>[.blk b2 (By σ.1.2) 143,.blk b1 [A2 0,A2 0,rB false,rB false] 143,.row σ.2 190 5 (A3 Ba σ.1.1)]) ?_ ?_))
   ·refine AF (Ae (wm Aa (ck hG λhI hJ=>wv (Bj (enc:=Af) (ys:=v) CX Di Aa Aa hI) (wv (C9 P7 Di Aa Aa Aa) (BK (cs:=[A2 0,A2 0,rS ([]:Ah),A2 0]) P0 Aa Aa (λhg=>?_))))));refine wa Aa (Gy (i:=0) Di Aa Aa Aa (B6.c Aa) Aa Aa ?_);refine An (Al (Ae (wv (Bx (i:=0) P7 Di Aa Aa Aa Aa) (ob hJ λhK hL hN=>BX Tryz.call139 (YS F (Ao v hd) hK hL) Aa (wv (Cc Aa) (An (cz hN Aa (λhO hP=>?_) (λhO hQ=>?_))))))))
    ·refine Al (E0 (H1:=[.blk hg (Af (Ao v hd)) 70,.blk b2 (By hb) 143,.blk b1 (By hb) 143,.row hf 190 5 (A3 Ba he)]) [3,5] [⟨[],BB (By hb),1⟩,⟨[],A2 0,0⟩,⟨[0],rv undef,2⟩,⟨[],rB false,0⟩] (rle [(3,_),(2,[.blk hg (Af (Ao v hd)) 70,.blk b2 (By hb) 143,.blk b1 (By hb) 143,.row hf 190 5 (A3 Ba he)])]) [2,4,3] ?_ ?_)
     ·refine of (Bx (i:=1) LP Hc Aa Aa Aa Aa) (oq (A5 Aa) (Ej Aa (Ia (Gv (i:=2) Hc Aa Aa Aa (B6.c Aa) Aa Aa (cs':=[A2 hb.fDepth,A2 hb.fBytes,rB hb.fOutside,rB hb.fLong]) Aa (H':=[.blk hg (Af (Ao v hd)) 70,.blk b2 (By hb) 143,.blk b1 (By hb) 143,.row hf 190 5 (A3 Ba he)]) Aa)) ?_));refine oq (A5 Aa) ?_;exact D3
     refine AS (Ap (Ac (A0 (Ac (Ac (Bu ?_))))));have hR:=BF hP hy h0;refine A0 (Ac (MI ?_));obtain rfl:=As hR;exact Ar (Ww YE (AO Aa) (CR (i:=2) LP Hc Aa Aa Aa) (AO Aa)) (sS (sS (sS (sS sN)))) ⟨Aa,Aa⟩
    refine Ax (AS (Al (Ae (wm Aa (wv (CN (ys:=he) (enc:=Ba) (i:=3) Kv Aa Aa) (wa Aa (An (ck hQ λhS hT=>ck hT λh7 hU=>AC [(0,AJ 4 (A3 Af v)),(3,rP b1 0),(5,rP b2 0),(6,rv hf),(7,A2 hd),(8,rP hg 0),(9,A2 (he.length:Int)),(11,AJ 4 (A3 Af v)),(12,A2 (v.length:Int)),(13,A2 hd),(33,rB ((decide (0<(he.length:Int)))&&((Ao he ((he.length:Int)-1)).fKey)))] [.blk hg (Af (Ao v hd)) 70,.blk b2 (By hb) 143,.blk b1 [A2 0,A2 0,rB false,rB false] 143,.row hf 190 5 (A3 Ba he)] ?_ ?_))))))))
    ·refine Aj (wm Aa (wv (Ee Aa Aa) (wm Aa (AU (decide (0<(he.length:Int))) (λhj=>?_) (λhj=>?_)))))
     ·refine wo hj (wm Aa (wo hj (wm Aa (wo hj (wv (I3 Aa Aa (BY hS hj)) (wo hj (wv (r:=rv (En 5 hf (Ch ((he.length:Int)-1)) 0)) (Dr (i:=3) Kv Tj Aa Aa Aa (BC (BY h7 hj))) (wo hj (wv (r:=rv (En 5 hf (Ch ((he.length:Int)-1)) 2)) (D4 (k:=3) Ku Aa Jp Aa (BC (BY h7 hj)) Aa Aa Aa) (wo hj (wv (r:=rB ((Ao he ((he.length:Int)-1)).fKey)) (EM (enc:=Ba) (ys:=he) (i:=3) (j:=(he.length:Int)-1) Pe Aa Aa (BY h7 hj) Aa) (Eb Aa hj Aa (Am ?_)))))))))))));exact Cd hj
     refine wf hj (wf hj (wf hj (wf hj (wf hj (wf hj (wv (r:=rB false) (Av Aa hj Aa) (Am ?_)))))));exact Cd hj
    refine cz hU Aa (λhV hW=>?_) (λhV hX=>?_)
    ·refine Ae (wm Aa (wm Aa (ck hW λhY hZ=>wv (I3 Aa Aa hY) (ck hZ λhk ga=>wv (r:=rv (En 5 hf (Ch ((he.length:Int)-1)) 0)) (Dr (i:=3) Kv Tj Aa Aa Aa (BC hk)) (wa Aa (An (Al (AC [(0,AJ 4 (A3 Af v)),(3,rP b1 0),(5,rP b2 0),(6,rv hf),(8,rP hg 0),(10,rv (En 5 hf (Ch ((he.length:Int)-1)) 0)),(11,AJ 4 (A3 Af v)),(12,A2 (v.length:Int)),(13,A2 hd),(38,rP hg 0),(39,A2 ((Ao v hd).fKind)),(40,rB (!decide (((Ao v hd).fKind)=4))),(41,rB (!decide (((Ao v hd).fKind)=4))),(55,rB ((!decide (((Ao v hd).fKind)=4))||(((Ao he ((he.length:Int)-1)).fStarted)&&(Do ((Ao v hd).fStr) ((Ao he ((he.length:Int)-1)).fLast)||decide (((Ao v hd).fStr)=((Ao he ((he.length:Int)-1)).fLast))))))] [.blk hg (Af (Ao v hd)) 70,.blk b2 (By hb) 143,.blk b1 [A2 0,A2 0,rB false,rB false] 143,.row hf 190 5 (A3 Ba he)] ?_ ?_))))))))
     ·refine AU (!decide (((Ao v hd).fKind)=4)) (λhi=>?_) (λhi=>?_)
      ·refine Dc [0,3,5,6,8,10,11,12,13] ?_;refine rq (Aq BH Aa EA Aa Aa) (rq (Bc (i:=0) EB Aa Aa Aa) (rq (Ct Aa Aa) (rq (Ak Aa) (rz hi (rz hi (rz hi (rz hi (rz hi (ru (ru (ru (ru (ru (ru (ru (rz hi (rq (r:=rB true) (AB (b:=!decide (((Ao v hd).fKind)=4)) Aa hi Aa) (re [38,39,40,41,42,43,44,45,46,47,48,49,50,51,52,53,54,55,0,3,5,6,8,10,11,12,13] ?_))))))))))))))))));exact Cd hi
      refine AU ((Ao he ((he.length:Int)-1)).fStarted) (λhl=>?_) (λhl=>?_)
      ·refine Dc [0,3,5,6,8,10,11,12,13] ?_;refine rq (Aq BH Aa EA Aa Aa) (rq (Bc (i:=0) EB Aa Aa Aa) (rq (Ct Aa Aa) (rq (Ak Aa) (rg hi (Ak Aa) (rg hi (r:=rv (En 5 hf (Ch ((he.length:Int)-1)) 0)) (CM (k:=3) Aa (BC hk) Aa Aa) (rg hi (r:=rv (En 5 hf (Ch ((he.length:Int)-1)) 4)) (D4 (k:=3) Ku Aa Jp Aa (BC hk) Aa Aa Aa) (rg hi (r:=rB ((Ao he ((he.length:Int)-1)).fStarted)) (EM (enc:=Ba) (ys:=he) (i:=3) (j:=(he.length:Int)-1) Pe Aa Aa hk Aa) (rg hi (Ak Aa) (rg hl (Aq BH Aa CC Aa Aa) (rg hl (Bc (i:=0) Dp Aa Aa Aa) (rg hl (Ak Aa) (rg hl (r:=rv (En 5 hf (Ch ((he.length:Int)-1)) 0)) (CM (k:=3) Aa (BC hk) Aa Aa) (rg hl (r:=rv (En 5 hf (Ch ((he.length:Int)-1)) 3)) (D4 (k:=3) Ku Aa CC Aa (BC hk) Aa Aa Aa) (rg hl (r:=rS ((Ao he ((he.length:Int)-1)).fLast)) (EM (enc:=Ba) (ys:=he) (i:=3) (j:=(he.length:Int)-1) Dp Aa Aa hk Aa) (rg hl (TR Aa Aa) (rg hi (AB Aa hl Aa) (rq (Av Aa hi Aa) (re [38,39,40,41,42,43,44,45,46,47,48,49,50,51,52,53,54,55,0,3,5,6,8,10,11,12,13] ?_))))))))))))))))));exact Cd (And.intro hi hl)
      refine Dc [0,3,5,6,8,10,11,12,13] ?_;refine rq (Aq BH Aa EA Aa Aa) (rq (Bc (i:=0) EB Aa Aa Aa) (rq (Ct Aa Aa) (rq (Ak Aa) (rg hi (Ak Aa) (rg hi (r:=rv (En 5 hf (Ch ((he.length:Int)-1)) 0)) (CM (k:=3) Aa (BC hk) Aa Aa) (rg hi (r:=rv (En 5 hf (Ch ((he.length:Int)-1)) 4)) (D4 (k:=3) Ku Aa Jp Aa (BC hk) Aa Aa Aa) (rg hi (r:=rB ((Ao he ((he.length:Int)-1)).fStarted)) (EM (enc:=Ba) (ys:=he) (i:=3) (j:=(he.length:Int)-1) Pe Aa Aa hk Aa) (rg hi (Ak Aa) (rz hl (rz hl (rz hl (rz hl (rz hl (rz hl (rz hl (rg hi (r:=rB false) (Av (b:=(Ao he ((he.length:Int)-1)).fStarted) Aa hl Aa) (rq (Av Aa hi Aa) (re [38,39,40,41,42,43,44,45,46,47,48,49,50,51,52,53,54,55,0,3,5,6,8,10,11,12,13] ?_))))))))))))))))));exact Cd (And.intro hi hl)
     refine cz ga Aa (λgb gc=>?_) (λgb gd=>?_)
     ·refine Al (E0 (H1:=[.blk hg (Af (Ao v hd)) 70,.blk b2 (By hb) 143,.blk b1 (By hb) 143,.row hf 190 5 (A3 Ba he)]) [3,5] [⟨[],BB (By hb),1⟩,⟨[],A2 0,0⟩,⟨[0],rv undef,2⟩,⟨[],rB false,0⟩] (rle [(3,_),(2,[.blk hg (Af (Ao v hd)) 70,.blk b2 (By hb) 143,.blk b1 (By hb) 143,.row hf 190 5 (A3 Ba he)])]) [2,4,3] ?_ ?_)
      ·refine of (Bx (i:=1) LP Hc Aa Aa Aa Aa) (oq (A5 Aa) (Ej Aa (Ia (Gv (i:=2) Hc Aa Aa Aa (B6.c Aa) Aa Aa (cs':=[A2 hb.fDepth,A2 hb.fBytes,rB hb.fOutside,rB hb.fLong]) Aa (H':=[.blk hg (Af (Ao v hd)) 70,.blk b2 (By hb) 143,.blk b1 (By hb) 143,.row hf 190 5 (A3 Ba he)]) Aa)) ?_));refine oq (A5 Aa) ?_;exact D3
      refine AS (Ap (Ac (Ac (A0 (Ac (Ac (Bu ?_)))))));have ge:=BF gc hy h0;refine A0 (Ac (MI ?_));obtain rfl:=As ge;exact Ar (Ww YE (AO Aa) (CR (i:=2) LP Hc Aa Aa Aa) (AO Aa)) (sS (sS (sS (sS sN)))) ⟨Aa,Aa⟩
     refine Ax (AS (Ae (wm Aa (wm Aa (wm Aa (vF BH Aa CC (vL 0 Dp Aa (wv (r:=rv (En 5 hf (Ch ((he.length:Int)-1)) 0)) (CM (k:=3) Aa (BC hk) Aa Aa) (wv (r:=rv (En 5 hf (Ch ((he.length:Int)-1)) 3)) (D4 (k:=3) Ku Aa CC Aa (BC hk) Aa Aa Aa) (JZ (enc:=Ba) (ys:=he) (y':=(AP.mk ((Ao he ((he.length:Int)-1)).fPairs) ((Ao he ((he.length:Int)-1)).fLeft) ((Ao he ((he.length:Int)-1)).fKey) ((Ao v hd).fStr) ((Ao he ((he.length:Int)-1)).fStarted))) (i:=3) (j:=(he.length:Int)-1) CC Aa Aa (BT Aa) Aa hk Aa Aa (H':=[.blk hg (Af (Ao v hd)) 70,.blk b2 (By hb) 143,.blk b1 [A2 0,A2 0,rB false,rB false] 143,.row hf 190 5 (A3 Ba (List.set he (Ch ((he.length:Int)-1)) (AP.mk ((Ao he ((he.length:Int)-1)).fPairs) ((Ao he ((he.length:Int)-1)).fLeft) ((Ao he ((he.length:Int)-1)).fKey) ((Ao v hd).fStr) ((Ao he ((he.length:Int)-1)).fStarted))))]) Aa (bd gd λht hw gf=>?_)))))))))));rw[← hw];refine wv (r:=rv (En 5 hf (Ch ((he.length:Int)-1)) 0)) (CM (k:=3) Aa (BC (D8 hk hw)) Aa Aa) (wv (r:=rv (En 5 hf (Ch ((he.length:Int)-1)) 4)) (D4 (k:=3) Ku Aa Jp Aa (BC (D8 hk hw)) Aa Aa Aa) (JZ (enc:=Ba) (ys:=ht) (y':=(AP.mk ((Ao ht ((he.length:Int)-1)).fPairs) ((Ao ht ((he.length:Int)-1)).fLeft) ((Ao ht ((he.length:Int)-1)).fKey) ((Ao ht ((he.length:Int)-1)).fLast) true)) (i:=3) (j:=(he.length:Int)-1) Jp Aa Aa (BT Aa) Aa (D8 hk hw) Aa Aa (H':=[.blk hg (Af (Ao v hd)) 70,.blk b2 (By hb) 143,.blk b1 [A2 0,A2 0,rB false,rB false] 143,.row hf 190 5 (A3 Ba (List.set ht (Ch ((he.length:Int)-1)) (AP.mk ((Ao ht ((he.length:Int)-1)).fPairs) ((Ao ht ((he.length:Int)-1)).fLeft) ((Ao ht ((he.length:Int)-1)).fKey) ((Ao ht ((he.length:Int)-1)).fLast) true)))]) Aa (bd gf λhu h2 gg=>?_)));rw[← h2];refine wv (r:=rv (En 5 hf (Ch ((he.length:Int)-1)) 0)) (CM (k:=3) Aa (BC (D8 (D8 hk hw) h2)) Aa Aa) (wv (r:=rv (En 5 hf (Ch ((he.length:Int)-1)) 2)) (D4 (k:=3) Ku Aa Jp Aa (BC (D8 (D8 hk hw) h2)) Aa Aa Aa) (JZ (enc:=Ba) (ys:=hu) (y':=(AP.mk ((Ao hu ((he.length:Int)-1)).fPairs) ((Ao hu ((he.length:Int)-1)).fLeft) false ((Ao hu ((he.length:Int)-1)).fLast) ((Ao hu ((he.length:Int)-1)).fStarted))) (i:=3) (j:=(he.length:Int)-1) Jp Aa Aa (BT Aa) Aa (D8 (D8 hk hw) h2) Aa Aa (H':=[.blk hg (Af (Ao v hd)) 70,.blk b2 (By hb) 143,.blk b1 [A2 0,A2 0,rB false,rB false] 143,.row hf 190 5 (A3 Ba (List.set hu (Ch ((he.length:Int)-1)) (AP.mk ((Ao hu ((he.length:Int)-1)).fPairs) ((Ao hu ((he.length:Int)-1)).fLeft) false ((Ao hu ((he.length:Int)-1)).fLast) ((Ao hu ((he.length:Int)-1)).fStarted))))]) Aa (bd gg λhx gh gi=>?_)));rw[← gh];refine An (Al (ob gi λhn gj gl=>ck gl λgm gp=>E0 (H1:=[.blk hg (Af (Ao v hd)) 70,.blk b2 [A2 hb.fDepth,A2 (IntKind.wrap .i64 (hb.fBytes+(hn+1))),rB hb.fOutside,rB hb.fLong] 143,.blk b1 [A2 0,A2 0,rB false,rB false] 143,.row hf 190 5 (A3 Ba hx)]) [0,3,5,6,8,11,12,13,38,39,40,41] [⟨[],rP b2 1,0⟩,⟨[0],A2 hb.fBytes,1⟩,⟨[],rP hg 2,0⟩,⟨[2],rS ((Ao v hd).fStr),1⟩,⟨[3],A2 hn,0⟩,⟨[4],A2 (hn+1),0⟩,⟨[1,5],A2 (IntKind.wrap .i64 (hb.fBytes+(hn+1))),0⟩,⟨[],rP b2 1,0⟩,⟨[7,6],rv undef,2⟩] (rle [(9,_),(1,[.blk hg (Af (Ao v hd)) 70,.blk b2 [A2 hb.fDepth,A2 (IntKind.wrap .i64 (hb.fBytes+(hn+1))),rB hb.fOutside,rB hb.fLong] 143,.blk b1 [A2 0,A2 0,rB false,rB false] 143,.row hf 190 5 (A3 Ba hx)])]) [68,69,70,71,72,73,74,75,0,3,5,6,8,11,12,13,38,39,40,41] ?_ ?_))
     ·refine oq (Aq GH Aa Dj Aa Aa) (of (Bc (i:=1) DQ Aa Aa Aa) (oq (Aq BH Aa CC Aa Aa) (of (Bc (i:=0) Dp Aa Aa Aa) (J8 Aa (λH=>CD Tryz.call140 (Rq ((Ao v hd).fStr) hn gj) Aa) ?_))));refine oq (BA Aa Aa gm) (oq (V5 Aa Aa) (oq (Aq GH Aa Dj Aa Aa) (Ej Aa (Ia (Db (i:=1) Dj Aa Aa (BT Aa) Aa Aa (cs':=[A2 hb.fDepth,A2 (IntKind.wrap .i64 (hb.fBytes+(hn+1))),rB hb.fOutside,rB hb.fLong]) Aa (H':=[.blk hg (Af (Ao v hd)) 70,.blk b2 [A2 hb.fDepth,A2 (IntKind.wrap .i64 (hb.fBytes+(hn+1))),rB hb.fOutside,rB hb.fLong] 143,.blk b1 [A2 0,A2 0,rB false,rB false] 143,.row hf 190 5 (A3 Ba hx)]) Aa)) ?_)));exact D3
     refine AS (AC [(0,AJ 4 (A3 Af v)),(3,rP b1 0),(5,rP b2 0),(6,rv hf),(11,AJ 4 (A3 Af v)),(12,A2 (v.length:Int)),(13,A2 hd),(38,rP hg 0),(39,A2 ((Ao v hd).fKind)),(40,rB (!decide (((Ao v hd).fKind)=4))),(41,rB (!decide (((Ao v hd).fKind)=4))),(68,rP b2 1),(69,A2 hb.fBytes),(70,rP hg 2),(71,rS ((Ao v hd).fStr)),(72,A2 hn),(73,A2 (hn+1)),(74,A2 (IntKind.wrap .i64 (hb.fBytes+(hn+1)))),(75,rP b2 1)] [.blk hg (Af (Ao v hd)) 70,.blk b2 [A2 hb.fDepth,A2 (IntKind.wrap .i64 (hb.fBytes+(hn+1))),rB hb.fOutside,rB (hb.fLong||(decide (200<(((Ao v hd).fStr).length:Int))))] 143,.blk b1 [A2 0,A2 0,rB false,rB false] 143,.row hf 190 5 (A3 Ba hx)] ?_ ?_)
     ·refine Aj (vF GH Aa Jp (vL 1 Pe Aa (wm Aa (AU (hb.fLong) (λhq=>?_) (λhq=>?_)))))
      ·refine wf hq (wf hq (wf hq (wf hq (wv (r:=rB true) (AB Aa hq Aa) (vF GH Aa Jp (us (i:=1) Jp Aa Aa (BT Aa) Aa Aa ?_))))));refine Am (Mi (H':=[.blk hg (Af (Ao v hd)) 70,.blk b2 [A2 hb.fDepth,A2 (IntKind.wrap .i64 (hb.fBytes+(hn+1))),rB hb.fOutside,rB (hb.fLong||(decide (200<(((Ao v hd).fStr).length:Int))))] 143,.blk b1 [A2 0,A2 0,rB false,rB false] 143,.row hf 190 5 (A3 Ba hx)]) (by simp only[hq,Afo,Afr,Afx,Afq,Aft,Afs,Afv,Afu,Afe,Afn,Afi,Afc]) ?_);exact wt
      refine wo hq (vF BH Aa CC (wo hq (vL 0 Dp Aa (wo hq (wv (BO Dx Aa) (wo hq (wv (Ee Aa Aa) (II Aa hq Aa (vF GH Aa Jp (us (i:=1) Jp Aa Aa (BT Aa) Aa Aa ?_))))))))));refine Am (Mi (H':=[.blk hg (Af (Ao v hd)) 70,.blk b2 [A2 hb.fDepth,A2 (IntKind.wrap .i64 (hb.fBytes+(hn+1))),rB hb.fOutside,rB (hb.fLong||(decide (200<(((Ao v hd).fStr).length:Int))))] 143,.blk b1 [A2 0,A2 0,rB false,rB false] 143,.row hf 190 5 (A3 Ba hx)]) (by simp only[hq,Afo,Afr,Afx,Afq,Aft,Afs,Afv,Afu,Afe,Afn,Afi,Afc]) ?_);exact wt
     exact B4 (Ay (Bm (A4 (AK ((hx,(Bf.mk hb.fDepth (IntKind.wrap .i64 (hb.fBytes+(hn+1))) hb.fOutside (hb.fLong||(decide (200<(((Ao v hd).fStr).length:Int)))))),hf) gp (AM.c Aa (AM.c Aa (AM.c5 Aa Aa Aa Aa Aa AM.nil))) (sS (sC (sC (sC sN))))))))
    refine Ax (AS (Ae (vF GH Aa Dj (vL 1 DQ Aa (wm Aa (wv (CN (ys:=he) (enc:=Ba) (i:=3) Kv Aa Aa) (ck hX λgq gr=>wv (BA Aa Aa gq) (wv (Z5 yu3 Aa Aa) (vF GH Aa Dj (us (i:=1) Dj Aa Aa (BT Aa) Aa Aa ?_))))))))));refine An (Al (ob gr λhh gs gt=>E0 (H1:=[.blk hg (Af (Ao v hd)) 70,.blk b2 [A2 (max hb.fDepth ((he.length:Int)+1)),A2 (IntKind.wrap .i64 (hb.fBytes+hh)),rB hb.fOutside,rB hb.fLong] 143,.blk b1 [A2 0,A2 0,rB false,rB false] 143,.row hf 190 5 (A3 Ba he)]) [0,3,5,6,7,8,11,12,13] [⟨[],rP b2 1,0⟩,⟨[0],A2 hb.fBytes,1⟩,⟨[],BB (Af (Ao v hd)),1⟩,⟨[2],A2 hh,0⟩,⟨[1,3],A2 (IntKind.wrap .i64 (hb.fBytes+hh)),0⟩,⟨[],rP b2 1,0⟩,⟨[5,4],rv undef,2⟩] (rle [(7,_),(1,[.blk hg (Af (Ao v hd)) 70,.blk b2 [A2 (max hb.fDepth ((he.length:Int)+1)),A2 (IntKind.wrap .i64 (hb.fBytes+hh)),rB hb.fOutside,rB hb.fLong] 143,.blk b1 [A2 0,A2 0,rB false,rB false] 143,.row hf 190 5 (A3 Ba he)])]) [92,93,94,95,96,97,0,3,5,6,7,8,11,12,13] ?_ ?_))
    ·refine oq (Aq GH Aa Dj Aa Aa) (of (Bc (i:=1) DQ Aa Aa Aa) (of (Bx (i:=0) P7 Di Aa Aa Aa Aa) (J8 Aa (λH=>CD Tryz.call141 (AaO (Ao v hd) hh gs) Aa) ?_)));refine oq (V5 Aa Aa) (oq (Aq GH Aa Dj Aa Aa) (Ej Aa (Ia (Db (i:=1) Dj Aa Aa (BT Aa) Aa Aa (cs':=[A2 (max hb.fDepth ((he.length:Int)+1)),A2 (IntKind.wrap .i64 (hb.fBytes+hh)),rB hb.fOutside,rB hb.fLong]) Aa (H':=[.blk hg (Af (Ao v hd)) 70,.blk b2 [A2 (max hb.fDepth ((he.length:Int)+1)),A2 (IntKind.wrap .i64 (hb.fBytes+hh)),rB hb.fOutside,rB hb.fLong] 143,.blk b1 [A2 0,A2 0,rB false,rB false] 143,.row hf 190 5 (A3 Ba he)]) Aa)) ?_));exact D3
    refine AS (ck gt λgu gv=>AC [(0,AJ 4 (A3 Af v)),(3,rP b1 0),(5,rP b2 0),(6,rv hf),(7,A2 hd),(8,rP hg 0),(11,AJ 4 (A3 Af v)),(12,A2 (v.length:Int)),(13,A2 hd),(92,rP b2 1),(93,A2 hb.fBytes),(94,BB (Af (Ao v hd))),(95,A2 hh),(96,A2 (IntKind.wrap .i64 (hb.fBytes+hh))),(97,rP b2 1)] [.blk hg (Af (Ao v hd)) 70,.blk b2 [A2 (max hb.fDepth ((he.length:Int)+1)),A2 (IntKind.wrap .i64 (hb.fBytes+hh)),rB (hb.fOutside||((decide (((Ao v hd).fKind)=3))&&(!(ov (C2 ((Ao v hd).fInt)))))),rB hb.fLong] 143,.blk b1 [A2 0,A2 0,rB false,rB false] 143,.row hf 190 5 (A3 Ba he)] ?_ ?_)
    ·refine Aj (vF GH Aa Jp (vL 1 Pe Aa (wm Aa (AU (hb.fOutside) (λhm=>?_) (λhm=>?_)))))
     ·refine wf hm (wf hm (wf hm (wf hm (wu (wu (wu (wu (wf hm (wv (r:=rB true) (AB Aa hm Aa) (vF GH Aa Jp (us (i:=1) Jp Aa Aa (BT Aa) Aa Aa ?_)))))))))));refine Am (Mi (H':=[.blk hg (Af (Ao v hd)) 70,.blk b2 [A2 (max hb.fDepth ((he.length:Int)+1)),A2 (IntKind.wrap .i64 (hb.fBytes+hh)),rB (hb.fOutside||((decide (((Ao v hd).fKind)=3))&&(!(ov (C2 ((Ao v hd).fInt)))))),rB hb.fLong] 143,.blk b1 [A2 0,A2 0,rB false,rB false] 143,.row hf 190 5 (A3 Ba he)]) (by simp only[hm,Afo,Afr,Afx,Afq,Aft,Afs,Afv,Afu,Afe,Afn,Afi,Afc]) ?_);exact wt
     refine wo hm (vF BH Aa EA (wo hm (vL 0 EB Aa (wo hm (wv (BI Aa Aa) (wo hm (wm Aa (AU (decide (((Ao v hd).fKind)=3)) (λhp=>?_) (λhp=>?_)))))))))
     ·refine wo hp (vF BH Aa Dj (wo hp (vL 0 DQ Aa (wo hp (BX Tryz.call142 (Z9 ((Ao v hd).fInt) (ov (C2 ((Ao v hd).fInt))) (CY (BY (Dd gu hm) hp))) Aa (wo hp (wv (Cc Aa) (wo hm (Eb Aa hp Aa (II Aa hm Aa (vF GH Aa Jp (us (i:=1) Jp Aa Aa (BT Aa) Aa Aa ?_))))))))))));refine Am (Mi (H':=[.blk hg (Af (Ao v hd)) 70,.blk b2 [A2 (max hb.fDepth ((he.length:Int)+1)),A2 (IntKind.wrap .i64 (hb.fBytes+hh)),rB (hb.fOutside||((decide (((Ao v hd).fKind)=3))&&(!(ov (C2 ((Ao v hd).fInt)))))),rB hb.fLong] 143,.blk b1 [A2 0,A2 0,rB false,rB false] 143,.row hf 190 5 (A3 Ba he)]) (by simp only[hm,hp,Afo,Afr,Afx,Afq,Aft,Afs,Afv,Afu,Afe,Afn,Afi,Afc]) ?_);exact wt
     refine wf hp (wf hp (wf hp (wf hp (wo hm (wv (r:=rB false) (Av Aa hp Aa) (II Aa hm Aa (vF GH Aa Jp (us (i:=1) Jp Aa Aa (BT Aa) Aa Aa ?_))))))));refine Am (Mi (H':=[.blk hg (Af (Ao v hd)) 70,.blk b2 [A2 (max hb.fDepth ((he.length:Int)+1)),A2 (IntKind.wrap .i64 (hb.fBytes+hh)),rB (hb.fOutside||((decide (((Ao v hd).fKind)=3))&&(!(ov (C2 ((Ao v hd).fInt)))))),rB hb.fLong] 143,.blk b1 [A2 0,A2 0,rB false,rB false] 143,.row hf 190 5 (A3 Ba he)]) (by simp only[hm,hp,Afo,Afr,Afx,Afq,Aft,Afs,Afv,Afu,Afe,Afn,Afi,Afc]) ?_);exact wt
    refine AC [(0,AJ 4 (A3 Af v)),(3,rP b1 0),(5,rP b2 0),(6,rv hf),(7,A2 hd),(8,rP hg 0),(11,AJ 4 (A3 Af v)),(12,A2 (v.length:Int)),(13,A2 hd),(92,rP b2 1),(93,A2 hb.fBytes),(94,BB (Af (Ao v hd))),(95,A2 hh),(96,A2 (IntKind.wrap .i64 (hb.fBytes+hh))),(97,rP b2 1)] [.blk hg (Af (Ao v hd)) 70,.blk b2 [A2 (max hb.fDepth ((he.length:Int)+1)),A2 (IntKind.wrap .i64 (hb.fBytes+hh)),rB (hb.fOutside||((decide (((Ao v hd).fKind)=3))&&(!(ov (C2 ((Ao v hd).fInt)))))),rB (hb.fLong||(decide (200<(((Ao v hd).fStr).length:Int))))] 143,.blk b1 [A2 0,A2 0,rB false,rB false] 143,.row hf 190 5 (A3 Ba he)] ?_ ?_
    ·refine Aj (vF GH Aa Jp (vL 1 Pe Aa (wm Aa (AU (hb.fLong) (λhr=>?_) (λhr=>?_)))))
     ·refine wf hr (wf hr (wf hr (wf hr (wv (r:=rB true) (AB Aa hr Aa) (vF GH Aa Jp (us (i:=1) Jp Aa Aa (BT Aa) Aa Aa ?_))))));refine Am (Mi (H':=[.blk hg (Af (Ao v hd)) 70,.blk b2 [A2 (max hb.fDepth ((he.length:Int)+1)),A2 (IntKind.wrap .i64 (hb.fBytes+hh)),rB (hb.fOutside||((decide (((Ao v hd).fKind)=3))&&(!(ov (C2 ((Ao v hd).fInt)))))),rB (hb.fLong||(decide (200<(((Ao v hd).fStr).length:Int))))] 143,.blk b1 [A2 0,A2 0,rB false,rB false] 143,.row hf 190 5 (A3 Ba he)]) (by simp only[hr,Afo,Afr,Afx,Afq,Aft,Afs,Afv,Afu,Afe,Afn,Afi,Afc]) ?_);exact wt
     refine wo hr (vF BH Aa CC (wo hr (vL 0 Dp Aa (wo hr (wv (BO Dx Aa) (wo hr (wv (Ee Aa Aa) (II Aa hr Aa (vF GH Aa Jp (us (i:=1) Jp Aa Aa (BT Aa) Aa Aa ?_))))))))));refine Am (Mi (H':=[.blk hg (Af (Ao v hd)) 70,.blk b2 [A2 (max hb.fDepth ((he.length:Int)+1)),A2 (IntKind.wrap .i64 (hb.fBytes+hh)),rB (hb.fOutside||((decide (((Ao v hd).fKind)=3))&&(!(ov (C2 ((Ao v hd).fInt)))))),rB (hb.fLong||(decide (200<(((Ao v hd).fStr).length:Int))))] 143,.blk b1 [A2 0,A2 0,rB false,rB false] 143,.row hf 190 5 (A3 Ba he)]) (by simp only[hr,Afo,Afr,Afx,Afq,Aft,Afs,Afv,Afu,Afe,Afn,Afi,Afc]) ?_);exact wt
    refine Al (Ae (vF BH Aa Dj (vL 0 DQ Aa (wv (Ee Aa Aa) (An (cz gv Aa (λgw gx=>?_) (λgw gy=>?_)))))))
    ·refine Al (Ae (vF BH Aa Dj (vL 0 DQ Aa (wm Aa (wv (Br (ys:=v) (enc:=Af) CX Aa) (wv (Ee Aa Aa) (An (cz gx Aa (λgz g0=>?_) (λgz g1=>?_)))))))))
     ·refine Al (E0 (H1:=[.blk hg (Af (Ao v hd)) 70,.blk b2 [A2 (max hb.fDepth ((he.length:Int)+1)),A2 (IntKind.wrap .i64 (hb.fBytes+hh)),rB (hb.fOutside||((decide (((Ao v hd).fKind)=3))&&(!(ov (C2 ((Ao v hd).fInt)))))),rB (hb.fLong||(decide (200<(((Ao v hd).fStr).length:Int))))] 143,.blk b1 [A2 (max hb.fDepth ((he.length:Int)+1)),A2 (IntKind.wrap .i64 (hb.fBytes+hh)),rB (hb.fOutside||((decide (((Ao v hd).fKind)=3))&&(!(ov (C2 ((Ao v hd).fInt)))))),rB (hb.fLong||(decide (200<(((Ao v hd).fStr).length:Int))))] 143,.row hf 190 5 (A3 Ba he)]) [3,5] [⟨[],BB [A2 (max hb.fDepth ((he.length:Int)+1)),A2 (IntKind.wrap .i64 (hb.fBytes+hh)),rB (hb.fOutside||((decide (((Ao v hd).fKind)=3))&&(!(ov (C2 ((Ao v hd).fInt)))))),rB (hb.fLong||(decide (200<(((Ao v hd).fStr).length:Int))))],1⟩,⟨[],A2 0,0⟩,⟨[0],rv undef,2⟩,⟨[],rB false,0⟩] (rle [(3,_),(2,[.blk hg (Af (Ao v hd)) 70,.blk b2 [A2 (max hb.fDepth ((he.length:Int)+1)),A2 (IntKind.wrap .i64 (hb.fBytes+hh)),rB (hb.fOutside||((decide (((Ao v hd).fKind)=3))&&(!(ov (C2 ((Ao v hd).fInt)))))),rB (hb.fLong||(decide (200<(((Ao v hd).fStr).length:Int))))] 143,.blk b1 [A2 (max hb.fDepth ((he.length:Int)+1)),A2 (IntKind.wrap .i64 (hb.fBytes+hh)),rB (hb.fOutside||((decide (((Ao v hd).fKind)=3))&&(!(ov (C2 ((Ao v hd).fInt)))))),rB (hb.fLong||(decide (200<(((Ao v hd).fStr).length:Int))))] 143,.row hf 190 5 (A3 Ba he)])]) [2,4,3] ?_ ?_)
      ·refine of (Bx (i:=1) LP Hc Aa Aa Aa Aa) (oq (A5 Aa) (Ej Aa (Ia (Gv (i:=2) Hc Aa Aa Aa (B6.c Aa) Aa Aa (cs':=[A2 (max hb.fDepth ((he.length:Int)+1)),A2 (IntKind.wrap .i64 (hb.fBytes+hh)),rB (hb.fOutside||((decide (((Ao v hd).fKind)=3))&&(!(ov (C2 ((Ao v hd).fInt)))))),rB (hb.fLong||(decide (200<(((Ao v hd).fStr).length:Int))))]) Aa (H':=[.blk hg (Af (Ao v hd)) 70,.blk b2 [A2 (max hb.fDepth ((he.length:Int)+1)),A2 (IntKind.wrap .i64 (hb.fBytes+hh)),rB (hb.fOutside||((decide (((Ao v hd).fKind)=3))&&(!(ov (C2 ((Ao v hd).fInt)))))),rB (hb.fLong||(decide (200<(((Ao v hd).fStr).length:Int))))] 143,.blk b1 [A2 (max hb.fDepth ((he.length:Int)+1)),A2 (IntKind.wrap .i64 (hb.fBytes+hh)),rB (hb.fOutside||((decide (((Ao v hd).fKind)=3))&&(!(ov (C2 ((Ao v hd).fInt)))))),rB (hb.fLong||(decide (200<(((Ao v hd).fStr).length:Int))))] 143,.row hf 190 5 (A3 Ba he)]) Aa)) ?_));refine oq (A5 Aa) ?_;exact D3
      refine AS (Ap (Ac (Ac (A0 (Ac (Ac (Bu ?_)))))));have g2:=BF g0 hy h0;refine A0 (Ac (MI ?_));obtain rfl:=As g2;exact Ar (Ww YE (AO Aa) (CR (i:=2) LP Hc Aa Aa Aa) (AO Aa)) (sS (sS (sS (sS sN)))) ⟨Aa,Aa⟩
     refine Ax (AS (Ae (wm Aa (vF BH Aa EA (vL 0 EB Aa (wv (BI Aa Aa) (vF BH Aa Dj (vL 0 DQ Aa (vF BH Aa EA (vL 0 EB Aa (wv (BI Aa Aa) (wv (r:=BB [rB (decide (((Ao v hd).fKind)=6)),A2 ((Ao v hd).fN),rB (decide (((Ao v hd).fKind)=6)),rS ([]:Ah),rB false]) (NU Aa Aa Aa Aa Aa Aa) (Bp (ys:=([(AP.mk (decide (((Ao v hd).fKind)=6)) ((Ao v hd).fN) (decide (((Ao v hd).fKind)=6)) ([]:Ah) false)]:List AP)) (enc:=Ba) (css:=[[rB (decide (((Ao v hd).fKind)=6)),A2 ((Ao v hd).fN),rB (decide (((Ao v hd).fKind)=6)),rS ([]:Ah),rB false]]) (xs:=[.tmp 139]) Kv Tj Tryz.zeroValue190 Aa Aa Aa ⟨Gl.agg ⟨Up.refl _,Up.refl _,Up.refl _,Up.refl _,Up.refl _,trivial⟩,trivial⟩ Aa K4 Aa Aa Aa (λgK=>?_))))))))))))));refine ck g1 λg3 g4=>Exists.elim AbB λinf hinf=>Dn (xs:=he) (ys:=([(AP.mk (decide (((Ao v hd).fKind)=6)) ((Ao v hd).fN) (decide (((Ao v hd).fKind)=6)) ([]:Ah) false)]:List AP)) (enc:=Ba) (i:=4) Kv hinf.1 hinf.2.1 hinf.2.2.1 hinf.2.2.2 Aa Aa Aa Aa Aa (Ox.w (i:=0) Aa Aa) K4 Pb g3 Aa (λg5=>?_);refine wa Aa (An (B4 (Ay (Bm (Js [3,3] ?_)))));exact A4 (AK ((he++([(AP.mk (decide (((Ao v hd).fKind)=6)) ((Ao v hd).fN) (decide (((Ao v hd).fKind)=6)) ([]:Ah) false)]:List AP),(Bf.mk (max hb.fDepth ((he.length:Int)+1)) (IntKind.wrap .i64 (hb.fBytes+hh)) (hb.fOutside||((decide (((Ao v hd).fKind)=3))&&(!(ov (C2 ((Ao v hd).fInt)))))) (hb.fLong||(decide (200<(((Ao v hd).fStr).length:Int)))))),g5) g4 (AM.c Aa (AM.c Aa (AM.c5 Aa Aa Aa Aa Aa AM.nil))) (sC (sC (sC (sS (sS sN))))))
    refine Ax (AS (Ae (wm Aa (ob gy λhz g6 g7=>EX [3] Tryz.call143 (X7 F hf he hz g6) ?_))));rintro _ _ ⟨h3,rfl,rfl⟩;refine wa Aa (Bv (wm Aa (wv (CN (ys:=hz) (enc:=Ba) (i:=0) Kv Aa Aa) (wv (BI Aa Aa) (An (cz g7 Aa (λg8 g9=>?_) (λg8 gA=>?_)))))))
    ·refine Al (ck g9 λgB gC=>E0 (H1:=[.row h3 190 5 (A3 Ba hz),.blk hg (Af (Ao v hd)) 70,.blk b2 [A2 (max hb.fDepth ((he.length:Int)+1)),A2 (IntKind.wrap .i64 (hb.fBytes+hh)),rB (hb.fOutside||((decide (((Ao v hd).fKind)=3))&&(!(ov (C2 ((Ao v hd).fInt)))))),rB (hb.fLong||(decide (200<(((Ao v hd).fStr).length:Int))))] 143,.blk b1 [A2 (max hb.fDepth ((he.length:Int)+1)),A2 (IntKind.wrap .i64 (hb.fBytes+hh)),rB (hb.fOutside||((decide (((Ao v hd).fKind)=3))&&(!(ov (C2 ((Ao v hd).fInt)))))),rB (hb.fLong||(decide (200<(((Ao v hd).fStr).length:Int))))] 143]) [3,5,7] [⟨[],A2 hd,0⟩,⟨[0],A2 (hd+1),0⟩,⟨[],BB [A2 (max hb.fDepth ((he.length:Int)+1)),A2 (IntKind.wrap .i64 (hb.fBytes+hh)),rB (hb.fOutside||((decide (((Ao v hd).fKind)=3))&&(!(ov (C2 ((Ao v hd).fInt)))))),rB (hb.fLong||(decide (200<(((Ao v hd).fStr).length:Int))))],1⟩,⟨[1],A2 (hd+1),0⟩,⟨[2],rv undef,2⟩,⟨[],rB true,0⟩] (rle [(5,_),(2,[.row h3 190 5 (A3 Ba hz),.blk hg (Af (Ao v hd)) 70,.blk b2 [A2 (max hb.fDepth ((he.length:Int)+1)),A2 (IntKind.wrap .i64 (hb.fBytes+hh)),rB (hb.fOutside||((decide (((Ao v hd).fKind)=3))&&(!(ov (C2 ((Ao v hd).fInt)))))),rB (hb.fLong||(decide (200<(((Ao v hd).fStr).length:Int))))] 143,.blk b1 [A2 (max hb.fDepth ((he.length:Int)+1)),A2 (IntKind.wrap .i64 (hb.fBytes+hh)),rB (hb.fOutside||((decide (((Ao v hd).fKind)=3))&&(!(ov (C2 ((Ao v hd).fInt)))))),rB (hb.fLong||(decide (200<(((Ao v hd).fStr).length:Int))))] 143])]) [2,4,3] ?_ ?_)
     ·refine oq (Ak Aa) (oq (BA Aa Aa gB) (of (Bx (i:=2) LP Hc Aa Aa Aa Aa) (oq (A5 Aa) (Ej Aa (Ia (Gv (i:=3) Hc Aa Aa Aa (B6.c Aa) Aa Aa (cs':=[A2 (max hb.fDepth ((he.length:Int)+1)),A2 (IntKind.wrap .i64 (hb.fBytes+hh)),rB (hb.fOutside||((decide (((Ao v hd).fKind)=3))&&(!(ov (C2 ((Ao v hd).fInt)))))),rB (hb.fLong||(decide (200<(((Ao v hd).fStr).length:Int))))]) Aa (H':=[.row h3 190 5 (A3 Ba hz),.blk hg (Af (Ao v hd)) 70,.blk b2 [A2 (max hb.fDepth ((he.length:Int)+1)),A2 (IntKind.wrap .i64 (hb.fBytes+hh)),rB (hb.fOutside||((decide (((Ao v hd).fKind)=3))&&(!(ov (C2 ((Ao v hd).fInt)))))),rB (hb.fLong||(decide (200<(((Ao v hd).fStr).length:Int))))] 143,.blk b1 [A2 (max hb.fDepth ((he.length:Int)+1)),A2 (IntKind.wrap .i64 (hb.fBytes+hh)),rB (hb.fOutside||((decide (((Ao v hd).fKind)=3))&&(!(ov (C2 ((Ao v hd).fInt)))))),rB (hb.fLong||(decide (200<(((Ao v hd).fStr).length:Int))))] 143]) Aa)) ?_))));refine oq (A5 Aa) ?_;exact D3
     refine AS (Ap (A0 (Ac (Ac (Bu ?_)))));have gD:=BF gC hy h0;refine A0 (Ac (MI ?_));obtain rfl:=As gD;exact Ar (Ww YE (AO Aa) (CR (i:=3) LP Hc Aa Aa Aa) (AO Aa)) (sS (sS (sS (sS sN)))) ⟨Aa,Aa⟩
    refine Ax (AH (Js [2,2] ?_));exact A4 (AK ((hz,(Bf.mk (max hb.fDepth ((he.length:Int)+1)) (IntKind.wrap .i64 (hb.fBytes+hh)) (hb.fOutside||((decide (((Ao v hd).fKind)=3))&&(!(ov (C2 ((Ao v hd).fInt)))))) (hb.fLong||(decide (200<(((Ao v hd).fStr).length:Int)))))),h3) gA (AM.c Aa (AM.c Aa (AM.c5 Aa Aa Aa Aa Aa AM.nil))) (sC (sC (sC (sS sN)))))
   rintro⟨⟨h8,h9⟩,gE⟩ h4;refine GZ ?_;replace h4:Gm hd h8 h9=some h6:=h4;unfold Gm at h4;refine Aj (ck h4 λgF gG=>wv (BA Aa Aa gF) (wm Aa (Am ?_)));have gH:=Bw gG hy;exact A4 (AK (hD,(h8,hd+1,h9),gE) ⟨gH,Afh _⟩ (AM.c Aa (AM.c Aa (AM.c5 Aa Aa Aa Aa Aa AM.nil))) (sC (sC (sC sN))))
  refine B4 (Ay ?_);have gI:=BP hH hy h0;exact Ay (Bn (AK (hb,()) gI (AM.c Aa (AM.c Aa AM.nil)) (sC (sC (sS sN)))))
 rintro⟨hs,⟨⟩⟩ h5;refine HE ?_;replace h5:MO hs=some r:=h5;unfold MO at h5;refine Bm (AS (Al (E0 (H1:=[.blk b2 (By hs) 143,.blk b1 (By hs) 143]) [3,5] [⟨[],BB (By hs),1⟩,⟨[],A2 0,0⟩,⟨[0],rv undef,2⟩,⟨[],rB false,0⟩] (rle [(3,_),(2,[.blk b2 (By hs) 143,.blk b1 (By hs) 143])]) [2,4,3] ?_ ?_)))
 ·refine of (Bx (i:=0) LP Hc Aa Aa Aa Aa) (oq (A5 Aa) (Ej Aa (Ia (Gv (i:=1) Hc Aa Aa Aa (B6.c Aa) Aa Aa (cs':=[A2 hs.fDepth,A2 hs.fBytes,rB hs.fOutside,rB hs.fLong]) Aa (H':=[.blk b2 (By hs) 143,.blk b1 (By hs) 143]) Aa)) ?_));refine oq (A5 Aa) ?_;exact D3
 refine AS (Ap (MI ?_));obtain rfl:=As h5;exact Ar (Ww YE (AO Aa) (CR (i:=1) LP Hc Aa Aa Aa) (AO Aa)) (sS (sS sN)) ⟨Aa,Aa⟩
theorem MQ (F:Nat)(v:(List Ab))(r:Int)(h:JX F v=some r):Fn Tryz.prog GE 36 [AJ 4 (A3 Af v)] [] (λR H=>R=A2 r∧H=[]):=by
 refine enter (n:=42) Tryz.func36 Aa Tryz.ntmps36 Aa (λw Z=>?_);unfold JX at h;refine Ae (wa Aa (Bv (wm Aa (ob h λr1 e3 h2=>BX Tryz.call95 (Sc F v r1 e3) Aa (wm Aa (wv (A6 Aa Aa) (wv (A6 Aa Aa) (wv (A6 Aa Aa) (BK (cs:=[A2 0,A2 0,rB false,rB false]) Tc Aa Aa (λb4=>?_))))))))));refine wa Aa (Gy (i:=0) Hc Aa Aa Aa (B6.c Aa) Aa Aa ?_);refine wa Aa (An (Al (AF (AC [(0,AJ 4 (A3 Af v)),(4,rP b4 0),(12,rB ((!r1.2.2)||(!decide (r1.1=(v.length:Int)))))] [.blk b4 (By r1.2.1) 143] ?_ ?_))))
 ·refine Aj (wm Aa (wv (Cc Aa) (wm Aa (AU (!r1.2.2) (λc5=>?_) (λc5=>?_)))))
  ·refine wf c5 (wf c5 (wf c5 (wf c5 (wv (r:=rB true) (AB Aa c5 Aa) (wa Aa (Am ?_))))));exact Cd c5
  refine wo c5 (wm Aa (wo c5 (wm Aa (wo c5 (wv (Br (ys:=v) (enc:=Af) CX Aa) (wo c5 (wv (Ct Aa Aa) (II Aa c5 Aa (wa Aa (Am ?_))))))))));exact Cd c5
 refine cz h2 Aa (λc6 h7=>?_) (λc6 h8=>?_)
 ·refine Ae (wa Aa (An (Ap (A0 (Ac ?_)))));obtain rfl:=As h7;exact Ar (BE AaF (AO Aa)) (sS sN) ⟨Aa,Aa⟩
 refine Ae (vF GH Aa Jp (vL 0 Pe Aa (wa Aa (An (cz h8 Aa (λc9 hf=>?_) (λc9 hg=>?_))))))
 ·refine Ae (wa Aa (An (Ap (A0 (Ac ?_)))));obtain rfl:=As hf;exact Ar (BE AaF (AO Aa)) (sS sN) ⟨Aa,Aa⟩
 refine AC [(24,rB (r1.2.1.fLong||((decide (200<(v.length:Int)))||((decide (8<r1.2.1.fDepth))||(decide (4000<r1.2.1.fBytes))))))] [] ?_ ?_
 ·refine Aj (vF GH Aa Jp (vL 0 Pe Aa (wm Aa (AU (r1.2.1.fLong) (λhb=>?_) (λhb=>?_)))))
  ·refine wf hb (wf hb (wf hb (wv (r:=rB true) (AB Aa hb Aa) (wm Aa (wz Aa Aa (wz Aa Aa (wz Aa Aa (wv (r:=rB true) (AB (b:=true) Aa Aa Aa) (wm Aa (wz Aa Aa (wz Aa Aa (wz Aa Aa (wv (r:=rB true) (AB (b:=true) Aa Aa Aa) (wa Aa (Am ?_)))))))))))))));exact Cd hb
  refine wo hb (wm Aa (wo hb (wv (Br (ys:=v) (enc:=Af) CX Aa) (wo hb (wv (Ee Aa Aa) (II Aa hb Aa (wm Aa (AU (decide (200<(v.length:Int))) (λhd=>?_) (λhd=>?_)))))))))
  ·refine wf hd (wf hd (wf hd (wv (r:=rB true) (AB Aa hd Aa) (wm Aa (wz Aa Aa (wz Aa Aa (wz Aa Aa (wv (r:=rB true) (AB (b:=true) Aa Aa Aa) (wa Aa (Am ?_))))))))));exact Cd (And.intro hb hd)
  refine wo hd (vF GH Aa Dj (wo hd (vL 0 DQ Aa (wo hd (wv (Ee Aa Aa) (II Aa hd Aa (wm Aa (AU (decide (8<r1.2.1.fDepth)) (λhe=>?_) (λhe=>?_)))))))))
  ·refine wf he (wf he (wf he (wv (r:=rB true) (AB Aa he Aa) (wa Aa (Am ?_)))));exact Cd (And.intro hb (And.intro hd he))
  refine wo he (vF GH Aa Dj (wo he (vL 0 DQ Aa (wo he (wv (Ee Aa Aa) (II Aa he Aa (wa Aa (Am ?_))))))));exact Cd (And.intro hb (And.intro hd he))
 refine cz hg Aa (λhh hi=>?_) (λhh hj=>?_)
 ·refine Ae (wa Aa (An (Ap (A0 (Ac ?_)))));obtain rfl:=As hi;exact Ar (BE AaF (AO Aa)) sN ⟨Aa,Aa⟩
 refine Ax (AH (AS (Ae (wa Aa (An (Ap ?_))))));obtain rfl:=As hj;exact Ar (BE AaF (AO Aa)) sN ⟨Aa,Aa⟩
theorem PJ (F:Nat)(v:(List Ab))(r:(List Ab)×Int)(h:H9 F v=some r):Fn Tryz.prog GE 118 [AJ 4 (A3 Af v)] [] (λR H=>R=Dz [AJ 4 (A3 Af r.1),A2 r.2]∧H=[]):=by
 refine enter (n:=11) Tryz.func118 Aa Tryz.ntmps118 Aa (λw Z=>?_);unfold H9 at h;refine Ae (wa Aa (wa Aa (An (Al (Ae (wm Aa (ob h λr1 e3 h2=>BX Tryz.call36 (MQ F v r1 e3) Aa (wa Aa (Bv (wm Aa (wv (Ct Aa Aa) (An (cz h2 Aa (λc4 h5=>?_) (λc4 h6=>?_))))))))))))))
 ·refine Ae (wm Aa (wa Aa (wa Aa (An (Ap (Ac (WK.up (d:=2) (r:=AJ 4 (A3 Af ([]:List Ab))) Aa (Up.le (Hb.nil _)) ?_)))))));obtain rfl:=As h5;exact Ar (IO Tryz.results118 (AO Aa) (AO Aa)) sN ⟨Aa,Aa⟩
 refine Ax (AS (Ae (wm Aa (wa Aa (wa Aa (An (Ap ?_)))))));obtain rfl:=As h6;exact Ar (IO Tryz.results118 (AO Aa) (AO Aa)) sN ⟨Aa,Aa⟩
theorem L0  (r:(List Ab))(h:KL=some r):Fn Tryz.prog GE 63 [] [] (λR H=>R=AJ 4 (A3 Af r)∧H=[]):=by
 refine enter (n:=3) Tryz.func63 Aa Tryz.ntmps63 Aa (λw Z=>?_);unfold KL at h;refine Ae (wa Aa (Bv (wv (r:=BB [A2 1,A2 0,rS ([]:Ah),A2 0]) (TU Aa Aa) (Bp (ys:=([(Ab.mk 1 0 ([]:Ah) 0)]:List Ab)) (enc:=Af) (css:=[[A2 1,A2 0,rS ([]:Ah),A2 0]]) (xs:=[.tmp 1]) CX Di P0 Aa Aa Aa ⟨Gl.agg ⟨Up.refl _,Up.refl _,Up.refl _,Up.refl _,trivial⟩,trivial⟩ Aa Dw Aa Aa Aa (λb1=>?_)))));refine wa Aa (An (Ap (WK.freeze (i:=0) Aa (WK.up (d:=0) (r:=AJ 4 (A3 Af ([(Ab.mk 1 0 ([]:Ah) 0)]:List Ab))) Aa (Up.fact (i:=0) Aa) ?_))));obtain rfl:=As h;exact Ar (BE Tryz.results63 (AO Aa)) (sS sN) ⟨Aa,Aa⟩
theorem YV (F:Nat)(n:Int)(r:(List Ab)×Int)(h:X6 F n=some r):Fn Tryz.prog GE 66 [A2 n] [] (λR H=>R=Dz [AJ 4 (A3 Af r.1),A2 r.2]∧H=[]):=by
 refine enter (n:=10) Tryz.func66 Aa Tryz.ntmps66 Aa (λw Z=>?_);unfold X6 at h;refine Ae (wa Aa (wa Aa (Bv (wm Aa (wv (r:=BB [A2 3,A2 n,rS ([]:Ah),A2 0]) (LX Aa Aa Aa Aa) (Bp (ys:=([(Ab.mk 3 n ([]:Ah) 0)]:List Ab)) (enc:=Af) (css:=[[A2 3,A2 n,rS ([]:Ah),A2 0]]) (xs:=[.tmp 5]) CX Di P0 Aa Aa Aa ⟨Gl.agg ⟨Up.refl _,Up.refl _,Up.refl _,Up.refl _,trivial⟩,trivial⟩ Aa Dw Aa Aa Aa (λb1=>?_)))))));refine WL.freeze (i:=0) Aa (WL.up (d:=6) (r:=AJ 4 (A3 Af ([(Ab.mk 3 n ([]:Ah) 0)]:List Ab))) Aa (Up.fact (i:=0) Aa) (ob h λr2 e4 h3=>BX Tryz.call118 (PJ F ([(Ab.mk 3 n ([]:Ah) 0)]:List Ab) r2 e4) Aa (wv (A6 Aa Aa) (wv (A6 Aa Aa) (wa Aa (wa Aa (An (Ap ?_))))))));obtain rfl:=As h3;exact Ar (IO Tryz.results66 (AO Aa) (AO Aa)) (sS sN) ⟨Aa,Aa⟩
theorem YP (F:Nat)(s:Ah)(r:(List Ab)×Int)(h:X2 F s=some r):Fn Tryz.prog GE 65 [rS s] [] (λR H=>R=Dz [AJ 4 (A3 Af r.1),A2 r.2]∧H=[]):=by
 refine enter (n:=10) Tryz.func65 Aa Tryz.ntmps65 Aa (λw Z=>?_);unfold X2 at h;refine Ae (wa Aa (wa Aa (Bv (wm Aa (wv (r:=BB [A2 4,A2 0,rS s,A2 0]) (LW Aa Aa Aa Aa) (Bp (ys:=([(Ab.mk 4 0 s 0)]:List Ab)) (enc:=Af) (css:=[[A2 4,A2 0,rS s,A2 0]]) (xs:=[.tmp 5]) CX Di P0 Aa Aa Aa ⟨Gl.agg ⟨Up.refl _,Up.refl _,Up.refl _,Up.refl _,trivial⟩,trivial⟩ Aa Dw Aa Aa Aa (λb1=>?_)))))));refine WL.freeze (i:=0) Aa (WL.up (d:=6) (r:=AJ 4 (A3 Af ([(Ab.mk 4 0 s 0)]:List Ab))) Aa (Up.fact (i:=0) Aa) (ob h λr2 e4 h3=>BX Tryz.call118 (PJ F ([(Ab.mk 4 0 s 0)]:List Ab) r2 e4) Aa (wv (A6 Aa Aa) (wv (A6 Aa Aa) (wa Aa (wa Aa (An (Ap ?_))))))));obtain rfl:=As h3;exact Ar (IO Tryz.results65 (AO Aa) (AO Aa)) (sS sN) ⟨Aa,Aa⟩
end Go.Proofs.YtmjlemhondjfhaaGreatDoor.Q
namespace Go.Proofs.YtmjlemhondjfhaaGreatDoor
open Go
set_option linter.unusedVariables false
def Ec (s:Ah)(hb:Int)(hd:Ah):Option (Stp (Int×Ah) (Out (Ah) (Ah))):=
 B0 (decide (hb<(s.length:Int))) (Bl (Cn hb (s.length:Int))<|B0 (((decide ((Cs s hb)=34))||(decide ((Cs s hb)=92)))) (Bl (DE 1 (hd.length+1))<|Bl (BM .u8 92)<|KF (hd++[UInt8.ofNat (Int.toNat 92)]) λhe=>Bl (DE 1 (he.length+1))<|Bl (BM .u8 (Cs s hb))<|KF (he++[UInt8.ofNat (Int.toNat (Cs s hb))]) λhf=>Bl (BM .i64 (hb+1))<|some (.next (hb+1,hf))) (Bl (DE 1 (hd.length+1))<|Bl (BM .u8 (Cs s hb))<|KF (hd++[UInt8.ofNat (Int.toNat (Cs s hb))]) λhg=>Bl (BM .i64 (hb+1))<|some (.next (hb+1,hg)))) (some (.out (.go hd)))
def GJ (hb:Ah):Option (Ah):=
 Bl (DE 1 (hb.length+1))<|KF (hb++[UInt8.ofNat (Int.toNat 34)]) λhd=>some hd
def Ml (F:Nat)(l:Ah)(s:Ah):Option (Ah):=
 Bl (DE 1 (l.length+1))<|Bl (BM .u8 34)<|KF (l++[UInt8.ofNat (Int.toNat 34)]) λr6=>Bs (Cj (λσ=>Ec s σ.1 σ.2) F (0,r6)) (Cf λν=>GJ ν)
def Ly (F:Nat)(hn:Ah→(List Ab)→Bool→Ah→Ab→Option (Bool×Bool×Ah))(hb:(List Ab)→Bool→Ah→Ab→Option (Bool×Ah))(l:Ah)(v:(List Ab)):Option (Ah):=
 Bl (Cn 0 (v.length:Int))<|B0 (decide (((Ao v 0).fKind)=1)) (Bl (DE 1 (l.length+([110,117,108,108]:Ah).length))<|KF (l++([110,117,108,108]:Ah)) λhf=>some hf) (B0 (decide (((Ao v 0).fKind)=2)) (Bl (Cn ((Ao v 0).fInt) (([([102,97,108,115,101]:Ah),([116,114,117,101]:Ah)]:List Ah).length:Int))<|Bl (DE 1 (l.length+(Ao ([([102,97,108,115,101]:Ah),([116,114,117,101]:Ah)]:List Ah) ((Ao v 0).fInt)).length))<|KF (l++(Ao ([([102,97,108,115,101]:Ah),([116,114,117,101]:Ah)]:List Ah) ((Ao v 0).fInt))) λhg=>some hg) (B0 (decide (((Ao v 0).fKind)=3)) (Bl (BM .i64 ((Ao v 0).fInt))<|Bl (DE 1 (l.length+(Lib.itoa ((Ao v 0).fInt)).length))<|KF (l++(Lib.itoa ((Ao v 0).fInt))) λhh=>some hh) (B0 (decide (((Ao v 0).fKind)=4)) (Bs (Ml F l ((Ao v 0).fStr)) λhi=>some hi) (B0 (decide (((Ao v 0).fKind)=6)) (Bl (Cn 0 (([123,125]:Ah).length:Int))<|Bl (DE 1 (l.length+1))<|Bl (BM .u8 (Cs ([123,125]:Ah) 0))<|KF (l++[UInt8.ofNat (Int.toNat (Cs ([123,125]:Ah) 0))]) λhj=>Bs (hb v true hj (Ao v 0)) λhd=>Bl (Cn 1 (([123,125]:Ah).length:Int))<|Bl (DE 1 (hd.2.length+1))<|Bl (BM .u8 (Cs ([123,125]:Ah) 1))<|KF (hd.2++[UInt8.ofNat (Int.toNat (Cs ([123,125]:Ah) 1))]) λhk=>some hk) (Bl (Cn 0 (([91,93]:Ah).length:Int))<|Bl (DE 1 (l.length+1))<|Bl (BM .u8 (Cs ([91,93]:Ah) 0))<|KF (l++[UInt8.ofNat (Int.toNat (Cs ([91,93]:Ah) 0))]) λhl=>Bs (hb v true hl (Ao v 0)) λhe=>Bl (Cn 1 (([91,93]:Ah).length:Int))<|Bl (DE 1 (he.2.length+1))<|Bl (BM .u8 (Cs ([91,93]:Ah) 1))<|KF (he.2++[UInt8.ofNat (Int.toNat (Cs ([91,93]:Ah) 1))]) λhm=>some hm)))))
def ML (F:Nat)(hb:Ah→(List Ab)→Option (Ah))(key:Ah)(x:(List Ab))(first:Bool)(l:Ah)(c:Ab):Option (Bool×Bool×Ah):=
 B0 (!first) (Bl (DE 1 (l.length+1))<|Bl (BM .u8 44)<|KF (l++[UInt8.ofNat (Int.toNat 44)]) λr8=>B0 (decide (c.fKind=6)) (Bs (Ml F r8 key) λhd=>Bl (DE 1 (hd.length+1))<|Bl (BM .u8 58)<|KF (hd++[UInt8.ofNat (Int.toNat 58)]) λhf=>Bs (hb hf x) λhg=>some (true,false,hg)) (Bs (hb r8 x) λhh=>some (true,false,hh))) (B0 (decide (c.fKind=6)) (Bs (Ml F l key) λhe=>Bl (DE 1 (he.length+1))<|Bl (BM .u8 58)<|KF (he++[UInt8.ofNat (Int.toNat 58)]) λhi=>Bs (hb hi x) λhj=>some (true,false,hj)) (Bs (hb l x) λhk=>some (true,false,hk)))
def Eq (F:Nat)(v:(List Ab))(c:Ab)(hk:Ah→(List Ab)→Bool→Ah→Ab→Option (Bool×Bool×Ah))(hb:Int)(hd:Int)(hi:Bool)(hj:Ah):Option (Stp (Int×Int×Bool×Ah) (Out (Bool×Ah) (Bool×Ah))):=
 B0 (decide (hd<((Ao v 0).fN))) (B0 (decide (((Ao v 0).fKind)=6)) (Bl (Cn hb (v.length:Int))<|Bl (BM .i64 (hb+1))<|Bl (K3 (hb+1) (v.length:Int))<|Bs (Kx F (List.drop (Int.toNat (hb+1)) v)) λhe=>Bl (BM .i64 ((hb+1)+he.1))<|Bl (K3 (hb+1) ((hb+1)+he.1))<|Bl (K3 ((hb+1)+he.1) (v.length:Int))<|Bs (hk ((Ao v hb).fStr) (List.take (Int.toNat ((hb+1)+he.1)-Int.toNat (hb+1)) (List.drop (Int.toNat (hb+1)) v)) hi hj c) λhf=>B0 (!hf.1) (some (.out (.ret (hf.2.1,hf.2.2)))) (Bl (BM .i64 (hd+1))<|some (.next ((hb+1)+he.1,hd+1,hf.2.1,hf.2.2)))) (Bl (K3 hb (v.length:Int))<|Bs (Kx F (List.drop (Int.toNat hb) v)) λhg=>Bl (BM .i64 (hb+hg.1))<|Bl (K3 hb (hb+hg.1))<|Bl (K3 (hb+hg.1) (v.length:Int))<|Bs (hk ([]:Ah) (List.take (Int.toNat (hb+hg.1)-Int.toNat hb) (List.drop (Int.toNat hb) v)) hi hj c) λhh=>B0 (!hh.1) (some (.out (.ret (hh.2.1,hh.2.2)))) (Bl (BM .i64 (hd+1))<|some (.next (hb+hg.1,hd+1,hh.2.1,hh.2.2))))) (some (.out (.go (hi,hj))))
def Iu (hb:Bool)(hd:Ah):Option (Bool×Ah):=
 some (hb,hd)
def Jt (F:Nat)(hb:Ah→(List Ab)→Bool→Ah→Ab→Option (Bool×Bool×Ah))(v:(List Ab))(first:Bool)(l:Ah)(c:Ab):Option (Bool×Ah):=
 Bl (Cn 0 (v.length:Int))<|Bs (Cj (λσ=>Eq F v c hb σ.1 σ.2.1 σ.2.2.1 σ.2.2.2) F (1,0,first,l)) (Cf λν=>Iu ν.1 ν.2)
mutual
def Hf:Nat→Ah→(List Ab)→Option (Ah)
 | 0,_,_=>none
 | nn+1,l,v=>Ly nn (Gx nn) (HW nn) l v
def Gx:Nat→Ah→(List Ab)→Bool→Ah→Ab→Option (Bool×Bool×Ah)
 | 0,_,_,_,_,_=>none
 | nn+1,key,x,first,l,c=>ML nn (Hf nn) key x first l c
def HW:Nat→(List Ab)→Bool→Ah→Ab→Option (Bool×Ah)
 | 0,_,_,_,_=>none
 | nn+1,v,first,l,c=>Jt nn (Gx nn) v first l c
end
def JW (F:Nat)(v:(List Ab)):Option (Ah×Int):=
 Bs (JX F v) λr1=>B0 (!decide (r1=0)) (some (([]:Ah),r1)) (Bs (Hf F ([]:Ah) v) λr8=>Bl (decide (0<r8.length))<|some (r8,0))
end Go.Proofs.YtmjlemhondjfhaaGreatDoor
