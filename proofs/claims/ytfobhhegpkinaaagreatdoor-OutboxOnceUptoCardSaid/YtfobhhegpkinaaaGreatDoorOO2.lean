/-
  Texts of the proof, put together: ShelfN, FwG, Row, IdA, PlB, IdB, PlC, IdC, ShelfV, PlD, PlE, FwJ, IdR, TzL, QG, QO, RowQ, QOb, Q0, PQB, WQB, PVa, WVa, PVb, WVb, PVc, WVc, PVd, WVd.
-/
import Derived.Test.YtfobhhegpkinaaaGreatDoorOO1
import Derived.Shelf.Strconv.Itoa3
import Derived.Shelf.LaysM
import Derived.Shelf.LaysC
import Derived.Shelf.Strconv.AtoiAll
import Derived.Shelf.Strconv.ErrVarAll
import Derived.Test.YtfobhhegpkinaaaGreatDoorProg
import Derived.Lib.SmallJoins
import Derived.Lib.AppendIntMem
import Derived.Lib.TrailingZeros
import Derived.Lib.LaidTab
import Derived.Test.YtfobhhegpkinaaaGreatDoorCards
import Derived.Test.YtfobhhegpkinaaaGreatDoorTie
import Derived.Carry
import Derived.ChangeSame
import Derived.ProofKit
import Derived.OpenShut
import Derived.Deep.DeepHandedRow
import Derived.Deep.DeepWitnessRowRef
import Derived.Lib.LaidIn
import Derived.Stop.LaidErr
import Derived.Lib.Bytealg
import Derived.Lib.AtoiAllCases
import Derived.Lib.ItoaNum
import Derived.Lib.ItoaLen
import Derived.Shelf.Strings.Builder1
import Derived.Shelf.Strings.Count
import Derived.Shelf.Strings.Search1
import Derived.Shelf.Strings.Search2
import Derived.Shelf.Strings.Search3
import Derived.Shelf.Small.Strs
import Derived.Lib.ItoaMem
import Derived.Shelf.Lays7
import Derived.Shelf.Spec.TrailingZeros
import Derived.Deep.Slices
import Derived.ChangeArms
import Derived.DataReads
import Derived.Test.YtfobhhegpkinaaaGreatDoorRows
import Derived.Laws.Tables
namespace Go.Proofs
open Go.Shelf
def Tryz.laysM171_ren:Go.Shelf.Ren:=⟨fun | 171=>79 | 243=>109 | 246=>141 | 283=>170 | 284=>171 | 285=>172 | 286=>173 | 129=>140 | 317=>193 | 318=>194 | 319=>195 | 320=>196 | 337=>203 | 338=>204 | n=>n,fun | 3=>3 | 9=>9 | 2=>2 | 4=>4 | 171=>204 | 0=>0 | 53=>179 | 37=>144 | 5=>5 | 173=>206 | 212=>225 | 51=>158 | 20=>20 | 213=>226 | 46=>134 | 232=>238 | 233=>239 | n=>n,fun | 17=>0 | 18=>4 | 19=>5 | n=>n⟩
theorem Tryz.laysM171:Go.Proofs.LaysM.n171 Tryz.prog Tryz.laysM171_ren:={
 mixed:=by kernel_rfl
 f129:=Tryz.func140.trans (congrArg some (by kernel_rfl))
 f171:=Tryz.func79.trans (congrArg some (by kernel_rfl))
 f243:=Tryz.func109.trans (congrArg some (by kernel_rfl))
 f246:=Tryz.func141.trans (congrArg some (by kernel_rfl))
 f283:=Tryz.func170.trans (congrArg some (by kernel_rfl))
 f284:=Tryz.func171.trans (congrArg some (by kernel_rfl))
 f285:=Tryz.func172.trans (congrArg some (by kernel_rfl))
 f286:=Tryz.func173.trans (congrArg some (by kernel_rfl))
 f317:=Tryz.func193.trans (congrArg some (by kernel_rfl))
 f318:=Tryz.func194.trans (congrArg some (by kernel_rfl))
 f319:=Tryz.func195.trans (congrArg some (by kernel_rfl))
 f320:=Tryz.func196.trans (congrArg some (by kernel_rfl))
 f337:=Tryz.func203.trans (congrArg some (by kernel_rfl))
 f338:=Tryz.func204.trans (congrArg some (by kernel_rfl))
 t0:=Tryz.underlying0
 a0:=Tryz.isAgg0
 z0:=Tryz.sizeOf0
 v0:=Tryz.zeroValue0
 t2:=Tryz.underlying2
 a2:=Tryz.isAgg2
 z2:=Tryz.sizeOf2
 v2:=Tryz.zeroValue2
 t3:=Tryz.underlying3
 a3:=Tryz.isAgg3
 z3:=Tryz.sizeOf3
 v3:=Tryz.zeroValue3
 t4:=Tryz.underlying4
 a4:=Tryz.isAgg4
 z4:=Tryz.sizeOf4
 v4:=Tryz.zeroValue4
 t5:=Tryz.underlying5
 a5:=Tryz.isAgg5
 z5:=Tryz.sizeOf5
 v5:=Tryz.zeroValue5
 t9:=Tryz.underlying9
 a9:=Tryz.isAgg9
 z9:=Tryz.sizeOf9
 v9:=Tryz.zeroValue9
 t20:=Tryz.underlying20
 a20:=Tryz.isAgg20
 z20:=Tryz.sizeOf20
 v20:=Tryz.zeroValue20
 t37:=Tryz.underlying144
 a37:=Tryz.isAgg144
 z37:=Tryz.sizeOf144
 v37:=Tryz.zeroValue144
 t46:=Tryz.underlying134
 a46:=Tryz.isAgg134
 z46:=Tryz.sizeOf134
 v46:=Tryz.zeroValue134
 t51:=Tryz.underlying158
 a51:=Tryz.isAgg158
 z51:=Tryz.sizeOf158
 v51:=Tryz.zeroValue158
 t53:=Tryz.underlying179
 a53:=Tryz.isAgg179
 z53:=Tryz.sizeOf179
 v53:=Tryz.zeroValue179
 t171:=Tryz.underlying204
 a171:=Tryz.isAgg204
 z171:=Tryz.sizeOf204
 v171:=Tryz.zeroValue204
 t173:=Tryz.underlying206
 a173:=Tryz.isAgg206
 z173:=Tryz.sizeOf206
 v173:=Tryz.zeroValue206
 t212:=Tryz.underlying225
 a212:=Tryz.isAgg225
 z212:=Tryz.sizeOf225
 v212:=Tryz.zeroValue225
 t213:=Tryz.underlying226
 a213:=Tryz.isAgg226
 z213:=Tryz.sizeOf226
 t232:=Tryz.underlying238
 a232:=Tryz.isAgg238
 z232:=Tryz.sizeOf238
 v232:=Tryz.zeroValue238
 t233:=Tryz.underlying239
 a233:=Tryz.isAgg239
 z233:=Tryz.sizeOf239
 v233:=Tryz.zeroValue239
 g17:=by kernel_rfl
 g18:=by kernel_rfl
 g19:=by kernel_rfl
 i0:=by kernel_rfl
 i2:=by kernel_rfl
 i3:=by kernel_rfl
 i4:=by kernel_rfl
 i5:=by kernel_rfl
 i9:=by kernel_rfl
 i20:=by kernel_rfl
 i37:=by kernel_rfl
 i46:=by kernel_rfl
 i51:=by kernel_rfl
 i53:=by kernel_rfl
 i171:=by kernel_rfl
 i173:=by kernel_rfl
 i212:=by kernel_rfl
 i232:=by kernel_rfl
 i233:=by kernel_rfl
 m17:=by kernel_rfl
 m18:=by kernel_rfl
 m19:=by kernel_rfl }
open Go.RowKit Go.Sort Go.Lib in
theorem Tryz.strconv_Itoa (n : Int) (h0 : -9223372036854775808 ≤ n) (h1 : n ≤ 9223372036854775807) (w : World) (htab : Lib.TabIs Tryz.prog w "internal/strconv.uint64pow10" .u64 Lib.pow10Tab) :
  Calls Tryz.prog 79 #[.int .i64 n] w λe w'=>e = .returned (.string ⟨(Lib.itoa n).toArray⟩)∧∃k os,w'=grow (w.drewN k) os:=Any.strconv_Itoa Tryz.laysM171 n h0 h1 w htab
def Tryz.laysC172_ren:Go.Shelf.Ren:=⟨fun | 172=>124 | 244=>157 | 245=>158 | 247=>179 | 279=>180 | 280=>181 | 281=>182 | 282=>183 | 287=>199 | 316=>200 | 171=>79 | 205=>201 | 321=>209 | 322=>210 | 243=>109 | 246=>141 | 283=>170 | 284=>171 | 285=>172 | 286=>173 | 129=>140 | 317=>193 | 318=>194 | 319=>195 | 320=>196 | 337=>203 | 338=>204 | n=>n,fun | 9=>9 | 3=>3 | 75=>161 | 76=>162 | 4=>4 | 5=>5 | 167=>209 | 37=>144 | 0=>0 | 85=>210 | 2=>2 | 168=>212 | 53=>179 | 175=>229 | 46=>134 | 210=>232 | 127=>185 | 145=>237 | 143=>235 | 21=>21 | 171=>204 | 173=>206 | 212=>225 | 51=>158 | 20=>20 | 213=>226 | 232=>238 | 233=>239 | 80=>148 | n=>n,fun | 15=>2 | 16=>3 | 17=>0 | 18=>4 | 19=>5 | n=>n⟩
theorem Tryz.laysC172:Go.Proofs.LaysC.n172 Tryz.prog Tryz.laysC172_ren:={
 mixed:=by kernel_rfl
 f129:=Tryz.func140.trans (congrArg some (by kernel_rfl))
 f171:=Tryz.func79.trans (congrArg some (by kernel_rfl))
 f172:=Tryz.func124.trans (congrArg some (by kernel_rfl))
 f205:=Tryz.func201.trans (congrArg some (by kernel_rfl))
 f243:=Tryz.func109.trans (congrArg some (by kernel_rfl))
 f244:=Tryz.func157.trans (congrArg some (by kernel_rfl))
 f245:=Tryz.func158.trans (congrArg some (by kernel_rfl))
 f246:=Tryz.func141.trans (congrArg some (by kernel_rfl))
 f247:=Tryz.func179.trans (congrArg some (by kernel_rfl))
 f279:=Tryz.func180.trans (congrArg some (by kernel_rfl))
 f280:=Tryz.func181.trans (congrArg some (by kernel_rfl))
 f281:=Tryz.func182.trans (congrArg some (by kernel_rfl))
 f282:=Tryz.func183.trans (congrArg some (by kernel_rfl))
 f283:=Tryz.func170.trans (congrArg some (by kernel_rfl))
 f284:=Tryz.func171.trans (congrArg some (by kernel_rfl))
 f285:=Tryz.func172.trans (congrArg some (by kernel_rfl))
 f286:=Tryz.func173.trans (congrArg some (by kernel_rfl))
 f287:=Tryz.func199.trans (congrArg some (by kernel_rfl))
 f316:=Tryz.func200.trans (congrArg some (by kernel_rfl))
 f317:=Tryz.func193.trans (congrArg some (by kernel_rfl))
 f318:=Tryz.func194.trans (congrArg some (by kernel_rfl))
 f319:=Tryz.func195.trans (congrArg some (by kernel_rfl))
 f320:=Tryz.func196.trans (congrArg some (by kernel_rfl))
 f321:=Tryz.func209.trans (congrArg some (by kernel_rfl))
 f322:=Tryz.func210.trans (congrArg some (by kernel_rfl))
 f337:=Tryz.func203.trans (congrArg some (by kernel_rfl))
 f338:=Tryz.func204.trans (congrArg some (by kernel_rfl))
 t0:=Tryz.underlying0
 a0:=Tryz.isAgg0
 z0:=Tryz.sizeOf0
 v0:=Tryz.zeroValue0
 t2:=Tryz.underlying2
 a2:=Tryz.isAgg2
 z2:=Tryz.sizeOf2
 v2:=Tryz.zeroValue2
 t3:=Tryz.underlying3
 a3:=Tryz.isAgg3
 z3:=Tryz.sizeOf3
 v3:=Tryz.zeroValue3
 t4:=Tryz.underlying4
 a4:=Tryz.isAgg4
 z4:=Tryz.sizeOf4
 v4:=Tryz.zeroValue4
 t5:=Tryz.underlying5
 a5:=Tryz.isAgg5
 z5:=Tryz.sizeOf5
 v5:=Tryz.zeroValue5
 t9:=Tryz.underlying9
 a9:=Tryz.isAgg9
 z9:=Tryz.sizeOf9
 v9:=Tryz.zeroValue9
 t20:=Tryz.underlying20
 a20:=Tryz.isAgg20
 z20:=Tryz.sizeOf20
 v20:=Tryz.zeroValue20
 t21:=Tryz.underlying21
 a21:=Tryz.isAgg21
 z21:=Tryz.sizeOf21
 v21:=Tryz.zeroValue21
 t37:=Tryz.underlying144
 a37:=Tryz.isAgg144
 z37:=Tryz.sizeOf144
 v37:=Tryz.zeroValue144
 t46:=Tryz.underlying134
 a46:=Tryz.isAgg134
 z46:=Tryz.sizeOf134
 v46:=Tryz.zeroValue134
 t51:=Tryz.underlying158
 a51:=Tryz.isAgg158
 z51:=Tryz.sizeOf158
 v51:=Tryz.zeroValue158
 t53:=Tryz.underlying179
 a53:=Tryz.isAgg179
 z53:=Tryz.sizeOf179
 v53:=Tryz.zeroValue179
 t75:=Tryz.underlying161
 a75:=Tryz.isAgg161
 z75:=Tryz.sizeOf161
 v75:=Tryz.zeroValue161
 t76:=Tryz.underlying162
 a76:=Tryz.isAgg162
 z76:=Tryz.sizeOf162
 v76:=Tryz.zeroValue162
 t85:=Tryz.underlying210
 a85:=Tryz.isAgg210
 z85:=Tryz.sizeOf210
 v85:=Tryz.zeroValue210
 t127:=Tryz.underlying185
 a127:=Tryz.isAgg185
 z127:=Tryz.sizeOf185
 v127:=Tryz.zeroValue185
 t143:=Tryz.underlying235
 a143:=Tryz.isAgg235
 z143:=Tryz.sizeOf235
 v143:=Tryz.zeroValue235
 t145:=Tryz.underlying237
 a145:=Tryz.isAgg237
 z145:=Tryz.sizeOf237
 v145:=Tryz.zeroValue237
 t167:=Tryz.underlying209
 a167:=Tryz.isAgg209
 z167:=Tryz.sizeOf209
 v167:=Tryz.zeroValue209
 t168:=Tryz.underlying212
 a168:=Tryz.isAgg212
 z168:=Tryz.sizeOf212
 v168:=Tryz.zeroValue212
 t171:=Tryz.underlying204
 a171:=Tryz.isAgg204
 z171:=Tryz.sizeOf204
 v171:=Tryz.zeroValue204
 t173:=Tryz.underlying206
 a173:=Tryz.isAgg206
 z173:=Tryz.sizeOf206
 v173:=Tryz.zeroValue206
 t175:=Tryz.underlying229
 a175:=Tryz.isAgg229
 z175:=Tryz.sizeOf229
 v175:=Tryz.zeroValue229
 t210:=Tryz.underlying232
 a210:=Tryz.isAgg232
 z210:=Tryz.sizeOf232
 v210:=Tryz.zeroValue232
 t212:=Tryz.underlying225
 a212:=Tryz.isAgg225
 z212:=Tryz.sizeOf225
 v212:=Tryz.zeroValue225
 t213:=Tryz.underlying226
 a213:=Tryz.isAgg226
 z213:=Tryz.sizeOf226
 t232:=Tryz.underlying238
 a232:=Tryz.isAgg238
 z232:=Tryz.sizeOf238
 v232:=Tryz.zeroValue238
 t233:=Tryz.underlying239
 a233:=Tryz.isAgg239
 z233:=Tryz.sizeOf239
 v233:=Tryz.zeroValue239
 g15:=by kernel_rfl
 g16:=by kernel_rfl
 g17:=by kernel_rfl
 g18:=by kernel_rfl
 g19:=by kernel_rfl
 t80:=Tryz.underlying148
 a80:=Tryz.isAgg148
 z80:=Tryz.sizeOf148
 v80:=Tryz.zeroValue148
 i0:=by kernel_rfl
 i2:=by kernel_rfl
 i3:=by kernel_rfl
 i4:=by kernel_rfl
 i5:=by kernel_rfl
 i9:=by kernel_rfl
 i20:=by kernel_rfl
 i21:=by kernel_rfl
 i37:=by kernel_rfl
 i46:=by kernel_rfl
 i51:=by kernel_rfl
 i53:=by kernel_rfl
 i75:=by kernel_rfl
 i76:=by kernel_rfl
 i80:=by kernel_rfl
 i85:=by kernel_rfl
 i127:=by kernel_rfl
 i143:=by kernel_rfl
 i145:=by kernel_rfl
 i167:=by kernel_rfl
 i168:=by kernel_rfl
 i171:=by kernel_rfl
 i173:=by kernel_rfl
 i175:=by kernel_rfl
 i210:=by kernel_rfl
 i212:=by kernel_rfl
 i232:=by kernel_rfl
 i233:=by kernel_rfl
 m15:=by kernel_rfl
 m16:=by kernel_rfl
 m17:=by kernel_rfl
 m18:=by kernel_rfl
 m19:=by kernel_rfl
 c0:=by kernel_rfl
 c2:=by kernel_rfl
 c3:=by kernel_rfl
 c4:=by kernel_rfl
 c5:=by kernel_rfl
 c9:=by kernel_rfl
 c20:=by kernel_rfl
 c21:=by kernel_rfl
 c37:=by kernel_rfl
 c46:=by kernel_rfl
 c51:=by kernel_rfl
 c53:=by kernel_rfl
 c75:=by kernel_rfl
 c76:=by kernel_rfl
 c80:=by kernel_rfl
 c85:=by kernel_rfl
 c127:=by kernel_rfl
 c143:=by kernel_rfl
 c145:=by kernel_rfl
 c167:=by kernel_rfl
 c168:=by kernel_rfl
 c171:=by kernel_rfl
 c173:=by kernel_rfl
 c175:=by kernel_rfl
 c210:=by kernel_rfl
 c212:=by kernel_rfl
 c213:=by kernel_rfl
 c232:=by kernel_rfl
 c233:=by kernel_rfl }
open Go.RowKit in
theorem Tryz.strconv_Atoi_ok (s:ByteArray)(hmax:s.size≤9223372036854775806)(v:Int)(h:Lib.atoiAll s.data.toList = .ok v)(w:World) :
  Calls Tryz.prog 124 #[.string s] w λe w'=>e = .returned (.tuple #[.int .i64 v,.nilIface])∧(w'=w∨∃t,w'=Lib.bytesWorld w 5 t):=Any.strconv_Atoi_ok Tryz.laysC172 s hmax v h w
open Go.RowKit in
theorem Tryz.strconv_Atoi_range_var (s : ByteArray) (hlim : s.size ≤ 281474976710656) (h : Lib.atoiAll s.data.toList = .range) (tp : TypeId) (p : Value) (w : World) (hvar : w.var? Tryz.prog "strconv.ErrRange" = some #[.iface tp p]) :
  Calls Tryz.prog 124 #[.string s] w λe w'=>∃N,e = .returned (.tuple #[.int .i64 (Lib.atoiSat s.data.toList),.iface 212 (.pointer (some ⟨N,0,none⟩))])∧w.heap.size≤N∧w'.heap[N]? =some (.cells #[.string ⟨#[65,116,111,105]⟩,.string s,.iface tp p] 232 (0,0))∧Below w.heap.size w w':=Any.strconv_Atoi_range_var Tryz.laysC172 s hlim h tp p w hvar
end Go.Proofs
namespace Go.Proofs.YtfobhhegpkinaaaGreatDoor
open Go Go.RowKit
set_option linter.unusedVariables false
noncomputable def LY:Nat:=Nat.max (Nat.max 0 3) 5+1
def Ado:List Int:=Lib.deBruijn64tab.map Int.ofNat
structure Td (w:World):Prop where
 pow : Lib.TabIs Tryz.prog w "internal/strconv.uint64pow10" .u64 Lib.pow10Tab
 tz : Lib.TabIs Tryz.prog w "math/bits.deBruijn64tab" .u8 Ado
 rng : ∃ tp p, w.var? Tryz.prog "strconv.ErrRange" = some #[.iface tp p]
theorem Aef : Tryz.prog.globalNamed "internal/strconv.uint64pow10" = some 0 := by kernel_rfl
theorem Aee : Tryz.prog.globalNamed "strconv.ErrRange" = some 3 := by kernel_rfl
theorem gTz : Tryz.prog.globalNamed "math/bits.deBruijn64tab" = some 5 := by kernel_rfl
theorem Aax:5<LY:=by decide +kernel
theorem XZ:0<LY:=by decide +kernel
theorem XY:3<LY:=by decide +kernel
theorem Td.block (w w':World)(h:∀k,k<LY→w'.heap[k]? =w.heap[k]?)(hT:Td w):Td w':=by
 obtain⟨tp,p,hr⟩:=hT.rng;have hp:=hT.pow;have hz:=hT.tz;unfold Lib.TabIs at hp hz;refine⟨?_,?_,tp,p,?_⟩
 ·unfold Lib.TabIs;unfold World.var? at hp ⊢;rw[Aef] at hp ⊢;simp only[Option.bind_some] at hp ⊢;rw[h _ XZ];exact hp
 ·unfold Lib.TabIs;unfold World.var? at hz ⊢;rw[gTz] at hz ⊢;simp only[Option.bind_some] at hz ⊢;rw[h _ Aax];exact hz
 ·unfold World.var? at hr ⊢;rw[Aee] at hr ⊢;simp only[Option.bind_some] at hr ⊢;rw[h _ XY];exact hr
def AbG (w:World)(M:List Nat):Prop:=LY≤w.heap.size∧∀k∈M,LY≤k
theorem Td.st {w0 w:World}{M:List Nat}{H:List Ent}(hT:Td w0)(hG:AbG w0 M)(hw:St w0 M H w):Td w:=
 Td.block w0 w (λk hk=>hw.old k (Nat.lt_of_lt_of_le hk hG.1) (λhm=>by have:=hG.2 k hm;omega)) hT
theorem AbG.nil {w:World}(h:LY≤w.heap.size):AbG w []:=⟨h,by simp⟩
theorem AbG.st {w0 w:World}{M:List Nat}{H:List Ent}(hG:AbG w0 M)(hw:St w0 M H w):LY≤w.heap.size:=Nat.le_trans hG.1 hw.size
structure VR (w:World):Prop where
 tabs:Td w
 size:LY≤w.heap.size
theorem VR.st {w0 w:World}{M:List Nat}{H:List Ent}(hE:VR w0)(hM:∀k∈M,LY≤k)(hw:St w0 M H w):VR w:=
 ⟨hE.tabs.st ⟨hE.size,hM⟩ hw,Nat.le_trans hE.size hw.size⟩
theorem VR.st0 {w0 w:World}{H:List Ent}(hE:VR w0)(hw:St w0 [] H w):VR w:=hE.st (by simp) hw
theorem VU (p:List UInt8):(B p).data.toList=p:=by simp[B]
theorem AdZ (m:Int)(h0 : -9223372036854775808≤m)(h1:m≤9223372036854775807)(w:World)(hE:VR w):Calls Tryz.prog 79 [.int .i64 m].toArray w (M3 w (.string (B (Lib.itoa m)))):=
 (Tryz.strconv_Itoa m h0 h1 w hE.tabs.pow).mono λe w' ⟨he,k,os,hw⟩=>⟨he,by rw[hw];exact St.of_below (Lib.below_grow _ _ (Agu _) _ _)⟩
theorem Adh (p:List UInt8)(hp:p.length≤281474976710656)(v:Int)(h:Lib.atoiAll p = .ok v)(w:World):Calls Tryz.prog 124 [.string (B p)].toArray w (M3 w (.tuple #[.int .i64 v,.nilIface])):=
 (Tryz.strconv_Atoi_ok (B p) (by rw[DF];omega) v (by rw[VU];exact h) w).mono λe w' ⟨he,hw⟩=>⟨he,by
  rcases hw with rfl | ⟨t,rfl⟩
  ·exact St.refl _ _
  ·exact St.of_below (Joins.below_bytesWorld _ _ _ _ (Agu _))⟩
theorem VN (p:List UInt8)(hp:p.length≤281474976710656)(h:Lib.atoiAll p = .range)(w:World)(hE:VR w) :
  Calls Tryz.prog 124 [.string (B p)].toArray w (Zc w [] (λv H=>∃m t b,v = .tuple #[.int .i64 m,.iface t b]∧H=[])):=by
 obtain⟨tp,q,hr⟩:=hE.tabs.rng;exact(Tryz.strconv_Atoi_range_var (B p) (by rw[DF];omega) (by rw[VU];exact h) tp q w hr).mono λe w' ⟨N,he,_,_,hb⟩=>⟨_,_,he,St.of_below hb,_,_,_,rfl,rfl⟩
open Go Go.ChangeShapes Go.WideShapes Go.ChangeAt Go.RowKit Go.WideElems
theorem own:ownKnob Tryz.prog.godebug=none:=by kernel_rfl
theorem AcE:laidOutB Tryz.prog=true:=by kernel_rfl
section
variable {H : Type} {enc : TypeId × Value → H} {P : Program}
theorem LP (hl:laidOutB P=true){W W':World}(hb:Below W.heap.size W W'){sp:Nat→Bool}:∀{ts:List TypeId} {vs:List Value} {ds:List (DataW H)} {ps:List MemPlace},ts.all (λt=>P.readableRec t&&decide (t<P.types.size))=true→
  DataW.TrodAll enc P W 0 (λ_=>true) true ts vs ds ps→(∀p∈ps,p.block<W.heap.size)→(∀p∈ps,sp p.block=true)→DataW.TrodAll enc P W' 0 sp true ts vs ds ps
 | [],[],[],_,_,h,_,_=>h
 | [],_::_,_,_,_,h,_,_=>h.elim
 | [],[],_::_,_,_,h,_,_=>h.elim
 | _::_,[],_,_,_,h,_,_=>h.elim
 | _::_,_::_,[],_,_,h,_,_=>h.elim
 | t::ts,v::vs,d::ds,ps,ht,⟨p,q,h1,h2,e⟩,hlt,hs=>by
  simp only[AgG,Agf,AfY] at ht;refine⟨p,q,?_,LP hl hb ht.2 h2 (λx hx=>hlt x (by rw[e];exact List.mem_append_right _ hx)) (λx hx=>hs x (by rw[e];exact List.mem_append_right _ hx)),e⟩;exact Trod_stays hl ht.1.1 ht.1.2 h1 (λx hx=>hb.same (hlt x (by rw[e];exact List.mem_append_left _ hx))) (λx hx=>hs x (by rw[e];exact List.mem_append_left _ hx))
theorem XG (hl:laidOutB P=true){f:Func}{s:ChangeSpec}{apart fresh handsOn:Bool}{W W':World}{args:Array Value}{ds gs:List (DataW H)}{before:List MemPlace}{tb:TypeId}(hp:f.params.toList.all (λt=>P.readableRec t&&decide (t<P.types.size))=true)
  (hv:s.vars=[]) (hr:f.resultTypes = #[tb]) (hb4:P.underlying tb=some .bool) (hW:DataW.Whole enc P f.params.toList s.vars apart W args.toList ds gs before)
  (h1:(s.fn H (ds++gs)).results=[.lit (.bool true)]) (h2:(s.fn H (ds++gs)).args=ds) (h3:(s.fn H (ds++gs)).vars=[]) (hb:Below W.heap.size W W') :
  s.post enc P f apart fresh handsOn false W args (.bool true) W':=by
 have hlt:∀p∈before,p.block<W.heap.size:=λp hp=>hW.lt p hp;have hW':=hW;obtain⟨p,q,hA,hV,hbf,_,_⟩:=hW';have hq:q=[]:=by
  rw[hv] at hV
  cases gs with
  | nil=>exact hV
  | cons _ _=>exact hV.elim
 subst hq;rw[AgP] at hbf;subst hbf;refine⟨ds,gs,before,[],before,[],hW,?_,?_,?_,World.keptBut_mono (λp hp=>⟨hp,.inr (.inl hp)⟩) (hb.frame (·∈before)),λh=>by cases h⟩
 ·rw[h1,hr];exact trodAll_mk1 (shut_bool hb4 true)
 ·rw[h2];exact LP hl hb hp hA hlt (λx hx=>by simpa using hlt x hx)
 ·rw[hv,h3];exact rfl
end
theorem VK:Tryz.prog.underlying 4=some .bool:=Tryz.underlying4
def PT : List (String × DataW Unit) := [("math/bits.deBruijn32tab", Rows.laid_math_bits_deBruijn32tab), ("math/bits.deBruijn64tab", Rows.laid_math_bits_deBruijn64tab), ("internal/strconv.uint64pow10", Rows.laid_internal_strconv_uint64pow10), ("strconv.ErrRange", Rows.laid_strconv_ErrRange), ("strconv.ErrSyntax", Rows.laid_strconv_ErrSyntax)]
theorem AaX:(Tryz.prog.globals[0]?).map (·.type)=some 225:=by kernel_rfl
theorem AaW:(Tryz.prog.globals[3]?).map (·.type)=some 161:=by kernel_rfl
theorem YH:Tryz.prog.cellsOf 179=1:=by kernel_rfl
theorem YI:Tryz.prog.cellsOf 225=20:=by kernel_rfl
theorem AcO:(Tryz.prog.globals[5]?).map (·.type)=some 239:=by kernel_rfl
theorem Ab1:Tryz.prog.cellsOf 5=1:=by kernel_rfl
theorem UD:Tryz.prog.cellsOf 239=64:=by kernel_rfl
theorem YJ:Tryz.prog.cellsOf 9=1:=by kernel_rfl
theorem Ab2:Tryz.prog.cellsOf 237=1:=by kernel_rfl
theorem WR : "*" ++ "errors.errorString" = "*errors.errorString" := by decide
theorem Aeg (u : TypeId) (h : Tryz.prog.typeName? 3 u = some "*errors.errorString") : u = 235 :=
 typeName_ptr_named (nm := "errors.errorString") (by rw [WR]; kernel_rfl) (by kernel_rfl) (by decide) u (by rw [WR]; exact h)
theorem ST {W:World}{n:String}{g:Nat}{cs:Array Value}(hg:Tryz.prog.globalNamed n=some g)(h:W.var? Tryz.prog n=some cs):g<W.heap.size:=by
 unfold World.var? at h;rw[hg] at h;simp only[Option.bind_some] at h
 cases hh:W.heap[g]? with
 | none=>rw[hh] at h;cases h
 | some o=>exact(Array.getElem?_eq_some_iff.1 hh).1
theorem Aeh {W:World}(h:laidMet Tryz.prog PT W):VR W:=by
 have h2:=laidMet.tail h;have hz : Lib.TabIs Tryz.prog W "math/bits.deBruijn64tab" .u8 Ado := Lib.tabIs_of_head gTz AcO Tryz.underlying239 Tryz.underlying5 Ab1 UD h2
 have h3:=laidMet.tail h2;have h4:=laidMet.tail h3;have hp : Lib.TabIs Tryz.prog W "internal/strconv.uint64pow10" .u64 Lib.pow10Tab := Lib.tabIs_of_head Aef AaX Tryz.underlying225 Tryz.underlying179 YH YI h3
 obtain⟨a,s,hv,_,_,_⟩:=laid_sentinel h4 Aee AaW Tryz.underlying161 Aeg Tryz.underlying235 Tryz.underlying237 rfl rfl Tryz.underlying9 Ab2 YJ;refine⟨⟨hp,hz,_,_,hv⟩,?_⟩;have h1:=ST Aef hp;have h5:=ST Aee hv;exact Nat.max_lt.2 ⟨Nat.max_lt.2 ⟨h1,h5⟩,ST gTz hz⟩
noncomputable def L2 (os:Os):World:=
 let w0:=World.holding Tryz.prog os ⟨#[],#[],[]⟩
 let put (h:Array Obj) (g:Nat) (cs:Array Value):Array Obj:=h.modify g fun
  | .cells _ t frozen=>.cells cs t frozen
  | o=>o
 let nums (d:DataW Unit):Array Value:=match d with
  | .agg ds=>(ds.map fun | .lit (.int k n)=>Value.int k n | _=>undef).toArray
  | _=>#[]
 let n:=w0.heap.size
 let h1:=put w0.heap 4 (nums Rows.laid_math_bits_deBruijn32tab)
 let h2:=put h1 5 (nums Rows.laid_math_bits_deBruijn64tab)
 let h3:=put h2 0 (nums Rows.laid_internal_strconv_uint64pow10)
 let h4:=put h3 3 #[.iface 235 (.pointer (some ⟨n,0,none⟩))]
 let h5:=put h4 2 #[.iface 235 (.pointer (some ⟨n+1,0,none⟩))]
 let h6:=h5.push (.cells #[.string ⟨#[118,97,108,117,101,32,111,117,116,32,111,102,32,114,97,110,103,101]⟩] 237 (0,0))
 let h7:=h6.push (.cells #[.string ⟨#[105,110,118,97,108,105,100,32,115,121,110,116,97,120]⟩] 237 (0,0))
 { w0 with heap:=h7 }
set_option maxRecDepth 100000 in
theorem AaI (os:Os)(args:Array Value):laidMet Tryz.prog PT ((L2 os).forCall (λ_ _=>0) ⟨#[],args,[]⟩).memory:=
 laidMet_of_run' 8 (by kernel_rfl) (by kernel_rfl)
set_option linter.unusedSimpArgs false
set_option maxRecDepth 100000
theorem Wk (c:Int)(w:World):Calls Tryz.prog 87 [.int .i32 (c)].toArray w (M3 w (.bool (DT c))):=by
 refine Iz (n:=9) Tryz.func87 rfl Tryz.ntmps87 rfl (Aq (Ap (AJ (AC rfl) rfl (Ar (A1 (Bh ?_))))));refine AV [(2,.bool (((decide ((97)≤(c)))&&(decide ((c)≤(122))))))] [] (φ:=True) ?_ (λhm1=>?_)
 ·refine Ap (AJ (Ah rfl) rfl (AJ (Kw rfl rfl) rfl (AJ (Ah rfl) rfl (AZ (decide ((97)≤(c))) (λh1=>?_) (λh1=>?_)))))
  ·have g1:=h1;try simp only[AfY,AfZ] at g1
   refine AM rfl rfl h1 (AJ (Ah rfl) rfl (AM rfl rfl h1 (AJ (O8 rfl rfl) rfl (AJ (A3 rfl h1 rfl) rfl (AJ (AC rfl) rfl (Ar ?_))))));exact A1 (Cb trivial ⟨fb (by simp[h1]),trivial⟩ .slnil)
  ·have g1:=h1;try simp only[AfY,AfZ] at g1
   refine AX rfl rfl h1 rfl (AX rfl rfl h1 rfl (AJ (Ay rfl h1 rfl) rfl (AJ (AC rfl) rfl (Ar ?_))));exact A1 (Cb trivial ⟨fb (by simp[h1]),trivial⟩ .slnil)
 refine A6 (A5 (Cp rfl rfl) ?_);exact Jk (by first | rfl | simp[])
theorem WU (c:Int)(w:World):Calls Tryz.prog 88 [.int .i32 (c)].toArray w (M3 w (.bool (EI c))):=by
 refine Iz (n:=9) Tryz.func88 rfl Tryz.ntmps88 rfl (Aq (Ap (AJ (AC rfl) rfl (Ar (A1 (Bh ?_))))));refine AV [(2,.bool (((decide ((48)≤(c)))&&(decide ((c)≤(57))))))] [] (φ:=True) ?_ (λhm3=>?_)
 ·refine Ap (AJ (Ah rfl) rfl (AJ (Kw rfl rfl) rfl (AJ (Ah rfl) rfl (AZ (decide ((48)≤(c))) (λh3=>?_) (λh3=>?_)))))
  ·have g3:=h3;try simp only[AfY,AfZ] at g3
   refine AM rfl rfl h3 (AJ (Ah rfl) rfl (AM rfl rfl h3 (AJ (O8 rfl rfl) rfl (AJ (A3 rfl h3 rfl) rfl (AJ (AC rfl) rfl (Ar ?_))))));exact A1 (Cb trivial ⟨fb (by simp[h3]),trivial⟩ .slnil)
  ·have g3:=h3;try simp only[AfY,AfZ] at g3
   refine AX rfl rfl h3 rfl (AX rfl rfl h3 rfl (AJ (Ay rfl h3 rfl) rfl (AJ (AC rfl) rfl (Ar ?_))));exact A1 (Cb trivial ⟨fb (by simp[h3]),trivial⟩ .slnil)
 refine A6 (A5 (Cp rfl rfl) ?_);exact Jk (by first | rfl | simp[])
theorem AaG (c:Int)(w:World):Calls Tryz.prog 86 [.int .i32 (c)].toArray w (M3 w (.bool (E6 c))):=by
 refine Iz (n:=37) Tryz.func86 rfl Tryz.ntmps86 rfl (Aq (Ap (AJ (AC rfl) rfl (Ar (A1 (Bh ?_))))));refine AV [(2,.bool (((DT c)||((EI c)||(bif decide ((65)≤(c)) then((decide ((c)≤(90)))||((decide ((c)=(45)))||((decide ((c)=(95)))||((decide ((c)=(46)))||((decide ((c)=(58)))||(decide ((c)=(47)))))))) else((decide ((c)=(45)))||((decide ((c)=(95)))||((decide ((c)=(46)))||((decide ((c)=(58)))||(decide ((c)=(47))))))))))))] [] (φ:=True) ?_ (λhn=>?_)
 ·refine Ap (AJ (Ah rfl) rfl (CJ Tryz.call87 rfl (λw hw=>Wk c w) rfl (AJ (Ah rfl) rfl (AZ (DT c) (λh5=>?_) (λh5=>?_)))))
  ·have g5:=h5;try simp only[AfY,AfZ] at g5
   refine AX rfl rfl h5 rfl (AX rfl rfl h5 rfl (AJ (A3 rfl h5 rfl) rfl (AJ (Ah rfl) rfl (AX rfl rfl rfl rfl (AX rfl rfl rfl rfl (AX rfl rfl rfl rfl (C4 rfl rfl rfl (C4 rfl rfl rfl (AX rfl rfl rfl rfl (AJ (A3 rfl rfl rfl) rfl (AJ (Ah rfl) rfl (AX rfl rfl rfl rfl (AX rfl rfl rfl rfl (AJ (A3 rfl rfl rfl) rfl (AJ (Ah rfl) rfl (AX rfl rfl rfl rfl (AX rfl rfl rfl rfl (AJ (A3 rfl rfl rfl) rfl (AJ (Ah rfl) rfl (AX rfl rfl rfl rfl (AX rfl rfl rfl rfl (AJ (A3 rfl rfl rfl) rfl (AJ (Ah rfl) rfl ?_)))))))))))))))))))))));refine AX rfl rfl rfl rfl (AX rfl rfl rfl rfl (AJ (A3 rfl rfl rfl) rfl (AJ (Ah rfl) rfl (AX rfl rfl rfl rfl (AX rfl rfl rfl rfl (AJ (A3 rfl rfl rfl) rfl (AJ (AC rfl) rfl (Ar ?_))))))));exact A1 (Cb trivial ⟨fb (by simp[h5]),trivial⟩ .slnil)
  ·have g5:=h5;try simp only[AfY,AfZ] at g5
   refine AM rfl rfl h5 (AJ (Ah rfl) rfl (AM rfl rfl h5 (CJ Tryz.call88 rfl (λw hw=>WU c w) rfl (AJ (Ay rfl h5 rfl) rfl (AJ (Ah rfl) rfl (AZ (EI c) (λh6=>?_) (λh6=>?_)))))))
   ·have g6:=h6;try simp only[AfY,AfZ] at g6
    refine AX rfl rfl h6 rfl (AX rfl rfl h6 rfl (AX rfl rfl h6 rfl (C4 rfl rfl rfl (C4 rfl rfl rfl (AX rfl rfl h6 rfl (AJ (A3 rfl h6 rfl) rfl (AJ (Ah rfl) rfl (AX rfl rfl rfl rfl (AX rfl rfl rfl rfl (AJ (A3 rfl rfl rfl) rfl (AJ (Ah rfl) rfl (AX rfl rfl rfl rfl (AX rfl rfl rfl rfl (AJ (A3 rfl rfl rfl) rfl (AJ (Ah rfl) rfl (AX rfl rfl rfl rfl (AX rfl rfl rfl rfl (AJ (A3 rfl rfl rfl) rfl (AJ (Ah rfl) rfl (AX rfl rfl rfl rfl (AX rfl rfl rfl rfl (AJ (A3 rfl rfl rfl) rfl (AJ (Ah rfl) rfl ?_)))))))))))))))))))))));refine AX rfl rfl rfl rfl (AX rfl rfl rfl rfl (AJ (A3 rfl rfl rfl) rfl (AJ (AC rfl) rfl (Ar ?_))));exact A1 (Cb trivial ⟨fb (by simp[h5,h6]),trivial⟩ .slnil)
   ·have g6:=h6;try simp only[AfY,AfZ] at g6
    refine AM rfl rfl h6 (AJ (Ah rfl) rfl (AM rfl rfl h6 (AJ (Kw rfl rfl) rfl (AM rfl rfl h6 (AJ (Ah rfl) rfl (AZ (decide ((65)≤(c))) (λh7=>?_) (λh7=>?_)))))))
    ·have g7:=h7;try simp only[AfY,AfZ] at g7
     refine AM rfl rfl h7 (AJ (Ah rfl) rfl (AM rfl rfl h7 (AJ (O8 rfl rfl) rfl (AM rfl rfl h6 (AJ (A3 rfl h7 rfl) rfl (AJ (Ay rfl h6 rfl) rfl (AJ (Ah rfl) rfl (AZ (decide ((c)≤(90))) (λh8=>?_) (λh8=>?_)))))))))
     ·have g8:=h8;try simp only[AfY,AfZ] at g8
      refine AX rfl rfl h8 rfl (AX rfl rfl h8 rfl (AJ (A3 rfl h8 rfl) rfl (AJ (Ah rfl) rfl (AX rfl rfl rfl rfl (AX rfl rfl rfl rfl (AJ (A3 rfl rfl rfl) rfl (AJ (Ah rfl) rfl (AX rfl rfl rfl rfl (AX rfl rfl rfl rfl (AJ (A3 rfl rfl rfl) rfl (AJ (Ah rfl) rfl (AX rfl rfl rfl rfl (AX rfl rfl rfl rfl (AJ (A3 rfl rfl rfl) rfl (AJ (Ah rfl) rfl (AX rfl rfl rfl rfl (AX rfl rfl rfl rfl (AJ (A3 rfl rfl rfl) rfl (AJ (AC rfl) rfl (Ar ?_))))))))))))))))))));exact A1 (Cb trivial ⟨fb (by simp[h5,h6,h7,h8]),trivial⟩ .slnil)
     ·have g8:=h8;try simp only[AfY,AfZ] at g8
      refine AM rfl rfl h8 (AJ (Ah rfl) rfl (AM rfl rfl h8 (AJ (BT rfl rfl) rfl (AJ (Ay rfl h8 rfl) rfl (AJ (Ah rfl) rfl (AZ (decide ((c)=(45))) (λh9=>?_) (λh9=>?_)))))))
      ·have g9:=h9;try simp only[AfY,AfZ] at g9
       refine AX rfl rfl h9 rfl (AX rfl rfl h9 rfl (AJ (A3 rfl h9 rfl) rfl (AJ (Ah rfl) rfl (AX rfl rfl rfl rfl (AX rfl rfl rfl rfl (AJ (A3 rfl rfl rfl) rfl (AJ (Ah rfl) rfl (AX rfl rfl rfl rfl (AX rfl rfl rfl rfl (AJ (A3 rfl rfl rfl) rfl (AJ (Ah rfl) rfl (AX rfl rfl rfl rfl (AX rfl rfl rfl rfl (AJ (A3 rfl rfl rfl) rfl (AJ (AC rfl) rfl (Ar ?_))))))))))))))));exact A1 (Cb trivial ⟨fb (by simp[h5,h6,h7,h8,h9]),trivial⟩ .slnil)
      ·have g9:=h9;try simp only[AfY,AfZ] at g9
       refine AM rfl rfl h9 (AJ (Ah rfl) rfl (AM rfl rfl h9 (AJ (BT rfl rfl) rfl (AJ (Ay rfl h9 rfl) rfl (AJ (Ah rfl) rfl (AZ (decide ((c)=(95))) (λhb=>?_) (λhb=>?_)))))))
       ·have hi:=hb;try simp only[AfY,AfZ] at hi
        refine AX rfl rfl hb rfl (AX rfl rfl hb rfl (AJ (A3 rfl hb rfl) rfl (AJ (Ah rfl) rfl (AX rfl rfl rfl rfl (AX rfl rfl rfl rfl (AJ (A3 rfl rfl rfl) rfl (AJ (Ah rfl) rfl (AX rfl rfl rfl rfl (AX rfl rfl rfl rfl (AJ (A3 rfl rfl rfl) rfl (AJ (AC rfl) rfl (Ar ?_))))))))))));exact A1 (Cb trivial ⟨fb (by simp[h5,h6,h7,h8,h9,hb]),trivial⟩ .slnil)
       ·have hi:=hb;try simp only[AfY,AfZ] at hi
        refine AM rfl rfl hb (AJ (Ah rfl) rfl (AM rfl rfl hb (AJ (BT rfl rfl) rfl (AJ (Ay rfl hb rfl) rfl (AJ (Ah rfl) rfl (AZ (decide ((c)=(46))) (λhe=>?_) (λhe=>?_)))))))
        ·have hj:=he;try simp only[AfY,AfZ] at hj
         refine AX rfl rfl he rfl (AX rfl rfl he rfl (AJ (A3 rfl he rfl) rfl (AJ (Ah rfl) rfl (AX rfl rfl rfl rfl (AX rfl rfl rfl rfl (AJ (A3 rfl rfl rfl) rfl (AJ (AC rfl) rfl (Ar ?_))))))));exact A1 (Cb trivial ⟨fb (by simp[h5,h6,h7,h8,h9,hb,he]),trivial⟩ .slnil)
        ·have hj:=he;try simp only[AfY,AfZ] at hj
         refine AM rfl rfl he (AJ (Ah rfl) rfl (AM rfl rfl he (AJ (BT rfl rfl) rfl (AJ (Ay rfl he rfl) rfl (AJ (Ah rfl) rfl (AZ (decide ((c)=(58))) (λhg=>?_) (λhg=>?_)))))))
         ·have hk:=hg;try simp only[AfY,AfZ] at hk
          refine AX rfl rfl hg rfl (AX rfl rfl hg rfl (AJ (A3 rfl hg rfl) rfl (AJ (AC rfl) rfl (Ar ?_))));exact A1 (Cb trivial ⟨fb (by simp[h5,h6,h7,h8,h9,hb,he,hg]),trivial⟩ .slnil)
         ·have hk:=hg;try simp only[AfY,AfZ] at hk
          refine AM rfl rfl hg (AJ (Ah rfl) rfl (AM rfl rfl hg (AJ (BT rfl rfl) rfl (AJ (Ay rfl hg rfl) rfl (AJ (AC rfl) rfl (Ar ?_))))));exact A1 (Cb trivial ⟨fb (by simp[h5,h6,h7,h8,h9,hb,he,hg]),trivial⟩ .slnil)
    ·have g7:=h7;try simp only[AfY,AfZ] at g7
     refine AX rfl rfl h7 rfl (AX rfl rfl h7 rfl (AM rfl rfl h6 (AJ (Ay rfl h7 rfl) rfl (AJ (Ay rfl h6 rfl) rfl (AJ (Ah rfl) rfl (AM rfl rfl rfl (AJ (Ah rfl) rfl (AM rfl rfl rfl (AJ (BT rfl rfl) rfl (AJ (Ay rfl rfl rfl) rfl (AJ (Ah rfl) rfl (AZ (decide ((c)=(45))) (λha=>?_) (λha=>?_)))))))))))))
     ·have hl:=ha;try simp only[AfY,AfZ] at hl
      refine AX rfl rfl ha rfl (AX rfl rfl ha rfl (AJ (A3 rfl ha rfl) rfl (AJ (Ah rfl) rfl (AX rfl rfl rfl rfl (AX rfl rfl rfl rfl (AJ (A3 rfl rfl rfl) rfl (AJ (Ah rfl) rfl (AX rfl rfl rfl rfl (AX rfl rfl rfl rfl (AJ (A3 rfl rfl rfl) rfl (AJ (Ah rfl) rfl (AX rfl rfl rfl rfl (AX rfl rfl rfl rfl (AJ (A3 rfl rfl rfl) rfl (AJ (AC rfl) rfl (Ar ?_))))))))))))))));exact A1 (Cb trivial ⟨fb (by simp[h5,h6,h7,ha]),trivial⟩ .slnil)
     ·have hl:=ha;try simp only[AfY,AfZ] at hl
      refine AM rfl rfl ha (AJ (Ah rfl) rfl (AM rfl rfl ha (AJ (BT rfl rfl) rfl (AJ (Ay rfl ha rfl) rfl (AJ (Ah rfl) rfl (AZ (decide ((c)=(95))) (λhd=>?_) (λhd=>?_)))))))
      ·have hm:=hd;try simp only[AfY,AfZ] at hm
       refine AX rfl rfl hd rfl (AX rfl rfl hd rfl (AJ (A3 rfl hd rfl) rfl (AJ (Ah rfl) rfl (AX rfl rfl rfl rfl (AX rfl rfl rfl rfl (AJ (A3 rfl rfl rfl) rfl (AJ (Ah rfl) rfl (AX rfl rfl rfl rfl (AX rfl rfl rfl rfl (AJ (A3 rfl rfl rfl) rfl (AJ (AC rfl) rfl (Ar ?_))))))))))));exact A1 (Cb trivial ⟨fb (by simp[h5,h6,h7,ha,hd]),trivial⟩ .slnil)
      ·have hm:=hd;try simp only[AfY,AfZ] at hm
       refine AM rfl rfl hd (AJ (Ah rfl) rfl (AM rfl rfl hd (AJ (BT rfl rfl) rfl (AJ (Ay rfl hd rfl) rfl (AJ (Ah rfl) rfl (AZ (decide ((c)=(46))) (λhf=>?_) (λhf=>?_)))))))
       ·have g15:=hf;try simp only[AfY,AfZ] at g15
        refine AX rfl rfl hf rfl (AX rfl rfl hf rfl (AJ (A3 rfl hf rfl) rfl (AJ (Ah rfl) rfl (AX rfl rfl rfl rfl (AX rfl rfl rfl rfl (AJ (A3 rfl rfl rfl) rfl (AJ (AC rfl) rfl (Ar ?_))))))));exact A1 (Cb trivial ⟨fb (by simp[h5,h6,h7,ha,hd,hf]),trivial⟩ .slnil)
       ·have g15:=hf;try simp only[AfY,AfZ] at g15
        refine AM rfl rfl hf (AJ (Ah rfl) rfl (AM rfl rfl hf (AJ (BT rfl rfl) rfl (AJ (Ay rfl hf rfl) rfl (AJ (Ah rfl) rfl (AZ (decide ((c)=(58))) (λhh=>?_) (λhh=>?_)))))))
        ·have g16:=hh;try simp only[AfY,AfZ] at g16
         refine AX rfl rfl hh rfl (AX rfl rfl hh rfl (AJ (A3 rfl hh rfl) rfl (AJ (AC rfl) rfl (Ar ?_))));exact A1 (Cb trivial ⟨fb (by simp[h5,h6,h7,ha,hd,hf,hh]),trivial⟩ .slnil)
        ·have g16:=hh;try simp only[AfY,AfZ] at g16
         refine AM rfl rfl hh (AJ (Ah rfl) rfl (AM rfl rfl hh (AJ (BT rfl rfl) rfl (AJ (Ay rfl hh rfl) rfl (AJ (AC rfl) rfl (Ar ?_))))));exact A1 (Cb trivial ⟨fb (by simp[h5,h6,h7,ha,hd,hf,hh]),trivial⟩ .slnil)
 refine A6 (A5 (Cp rfl rfl) ?_);exact Jk (by simp only[E6];by_cases h:65≤c<;>simp[h,Bool.or_assoc])
theorem AbW (m:Int)(w:World):Calls Tryz.prog 117 [.int .i64 (m)].toArray w (M3 w (.bool (Gb m))):=by
 refine Iz (n:=9) Tryz.func117 rfl Tryz.ntmps117 rfl (Aq (Ap (AJ (AC rfl) rfl (Ar (A1 (Bh ?_))))));refine AV [(2,.bool (((decide ((-1000000000000)≤(m)))&&(decide ((m)≤(1000000000000))))))] [] (φ:=True) ?_ (λhd=>?_)
 ·refine Ap (AJ (Ah rfl) rfl (AJ (O8 rfl rfl) rfl (AJ (Ah rfl) rfl (AZ (decide ((-1000000000000)≤(m))) (λha=>?_) (λha=>?_)))))
  ·have hb:=ha;try simp only[AfY,AfZ] at hb
   refine AM rfl rfl ha (AJ (Ah rfl) rfl (AM rfl rfl ha (AJ (O8 rfl rfl) rfl (AJ (A3 rfl ha rfl) rfl (AJ (AC rfl) rfl (Ar ?_))))));exact A1 (Cb trivial ⟨fb (by first | (simp only[ha,Agp,Agx,AgB,Ags,Ag1,Agz,Ag9,Ag3,Agl,Ag2,Agg,Agb,AgU,AgM,reduceIte,Agv];done) | simp[ha]),trivial⟩ .slnil)
  ·have hb:=ha;try simp only[AfY,AfZ] at hb
   refine AX rfl rfl ha rfl (AX rfl rfl ha rfl (AJ (Ay rfl ha rfl) rfl (AJ (AC rfl) rfl (Ar ?_))));exact A1 (Cb trivial ⟨fb (by first | (simp only[ha,Agp,Agx,AgB,Ags,Ag1,Agz,Ag9,Ag3,Agl,Ag2,Agg,Agb,AgU,AgM,reduceIte,Agv];done) | simp[ha]),trivial⟩ .slnil)
 refine A6 (A5 (Cp rfl rfl) ?_);exact Jk (by first | rfl | simp[])
theorem AdQ (p:List UInt8)(w:World):Calls Tryz.prog 53 [.string (B p)].toArray w (M3 w (.bool (Hx p))):=by
 refine Iz (n:=39) Tryz.func53 rfl Tryz.ntmps53 rfl (Aq (Ap (AJ (AC rfl) rfl (Ar (A1 (Bh ?_))))));refine Aq (Aq (Ap (AJ (Ah rfl) rfl (Ra CX rfl rfl (λhh=>?_)))));refine Ar (A1 (Bh ?_));refine AO (M9 (S:=Nat) (λ(k:Nat)=>k≤p.length∧Bu Gk 0 p=Bu Gk k (p.drop k)) (λ(k:Nat)=>[(0,.string (B (p))),(2,.bool (false)),(6,.pointer (some ⟨hh,0,none⟩))]) (λ(k:Nat)=>[.blk hh (.stringIter (B p) (k))]) (λ(k:Nat)=>p.length-k) (0) ?_ ⟨rfl,rfl,rfl,trivial⟩ (.cons_cons _ (.slnil)) ?_)
 ·exact⟨AgA _,by simp⟩
 rintro k hi0;refine Aq (Ap (Tt (i:=0) rfl rfl rfl (λhend=>?_) (λhr hd hp hq hlu39 hhu39 hwu39=>?_)))
 ·refine AJ (AD rfl rfl) rfl (Ar (A1 (Bh ?_)));refine Aq (DA rfl rfl (B9 (A9 (A9 (Bm (A1 (Bh ?_)))))));refine AV [(2,.bool (((decide ((1)≤((p.length:Int))))&&(decide (((p.length:Int))≤(24))))))] [.blk hh (.stringIter (B p) (k))] (φ:=True) ?_ (λhs=>?_)
  ·refine Ap (AJ (Ah rfl) rfl (AJ (BM CX rfl) rfl (AJ (Kw rfl rfl) rfl (AJ (Ah rfl) rfl (AZ (decide ((1)≤((p.length:Int)))) (λhe=>?_) (λhe=>?_))))))
   ·have hj:=he;try simp only[AfY,AfZ] at hj
    refine AM rfl rfl he (AJ (Ah rfl) rfl (AM rfl rfl he (AJ (BM CX rfl) rfl (AM rfl rfl he (AJ (O8 rfl rfl) rfl (AJ (A3 rfl he rfl) rfl (AJ (AC rfl) rfl (Ar ?_))))))));exact A1 (Cb trivial ⟨fb (by first | (simp only[he,Agp,Agx,AgB,Ags,Ag1,Agz,Ag9,Ag3,Agl,Ag2,Agg,Agb,AgU,AgM,reduceIte,Agv];done) | simp[he]),trivial⟩ (.cons_cons _ (.slnil)))
   ·have hj:=he;try simp only[AfY,AfZ] at hj
    refine AX rfl rfl he rfl (AX rfl rfl he rfl (AX rfl rfl he rfl (AJ (Ay rfl he rfl) rfl (AJ (AC rfl) rfl (Ar ?_)))));exact A1 (Cb trivial ⟨fb (by first | (simp only[he,Agp,Agx,AgB,Ags,Ag1,Agz,Ag9,Ag3,Agl,Ag2,Agg,Agb,AgU,AgM,reduceIte,Agv];done) | simp[he]),trivial⟩ (.cons_cons _ (.slnil)))
  refine A6 (A5 (Cp rfl rfl) ?_);exact Jk (by rw[Aav hi0 hend])
 ·refine AJ (AD rfl rfl) rfl (Ar (A1 (Bh ?_)));refine Aq (DG rfl rfl (A0 (A1 (Bh ?_))));refine AO (Aq (Ap (AJ (AD rfl rfl) rfl (AJ (AD rfl rfl) rfl (AJ (AC rfl) rfl (AJ (AC rfl) rfl (Ar (A1 (Bh ?_)))))))));refine AV [(0,.string (B (p))),(2,.bool (false)),(3,.int .i64 ((k:Int))),(4,.int .i32 ((hd:Int))),(6,.pointer (some ⟨hh,0,none⟩)),(7,.tuple #[.bool (true),.int .i64 ((k:Int)),.int .i32 ((hd:Int))]),(8,.bool (true)),(9,.int .i64 ((k:Int))),(10,.int .i32 ((hd:Int))),(11,.int .i32 ((hd:Int))),(12,.bool (DT (hd:Int))),(13,.bool (!(DT (hd:Int)))),(14,.bool (!(DT (hd:Int)))),(30,.bool (((!(DT (hd:Int)))&&((decide (((k:Int))=(0)))||((!(EI (hd:Int)))&&((!(decide (((hd:Int))=(45))))&&(!(decide (((hd:Int))=(95))))))))))] [.blk hh (.stringIter (B p) (k+hp))] (φ:=True) ?_ (λht=>?_)
  ·refine Ap (AJ (Ah rfl) rfl (CJ Tryz.call87 rfl (λw hw=>Wk (hd:Int) w) rfl (AJ (BJ rfl) rfl (AJ (Ah rfl) rfl (AZ (!(DT (hd:Int))) (λhb=>?_) (λhb=>?_))))))
   ·have hk:=hb;try simp only[AfY,AfZ] at hk
    refine AM rfl rfl hb (AJ (Ah rfl) rfl (AM rfl rfl hb (AJ (BT rfl rfl) rfl (AM rfl rfl hb (AJ (Ah rfl) rfl (AZ (decide (((k:Int))=(0))) (λha=>?_) (λha=>?_)))))))
    ·have hl:=ha;try simp only[AfY,AfZ] at hl
     refine AX rfl rfl ha rfl (AX rfl rfl ha rfl (AX rfl rfl ha rfl (AX rfl rfl ha rfl (C4 rfl rfl rfl (C4 rfl rfl rfl (AX rfl rfl ha rfl (AX rfl rfl ha rfl (C4 rfl rfl rfl (C4 rfl rfl rfl (AX rfl rfl ha rfl (AM rfl rfl hb (AJ (A3 rfl ha rfl) rfl (AJ (A3 rfl hb rfl) rfl (Ar ?_))))))))))))));exact A1 (Cb trivial ⟨rfl,rfl,rfl,rfl,rfl,rfl,rfl,rfl,rfl,rfl,rfl,rfl,rfl,fb (by first | (simp only[hb,ha,Agp,Agx,AgB,Ags,Ag1,Agz,Ag9,Ag3,Agl,Ag2,Agg,Agb,AgU,AgM,reduceIte,Agv];done) | simp[hb,ha]),trivial⟩ (.cons_cons _ (.slnil)))
    ·have hl:=ha;try simp only[AfY,AfZ] at hl
     refine AM rfl rfl ha (AJ (Ah rfl) rfl (AM rfl rfl ha (CJ Tryz.call88 rfl (λw hw=>WU (hd:Int) w) rfl (AM rfl rfl ha (AJ (BJ rfl) rfl (AM rfl rfl ha (AJ (Ah rfl) rfl (AZ (!(EI (hd:Int))) (λhf=>?_) (λhf=>?_)))))))))
     ·have hm:=hf;try simp only[AfY,AfZ] at hm
      refine AM rfl rfl hf (AJ (Ah rfl) rfl (AM rfl rfl hf (AJ (Cl rfl rfl) rfl (AM rfl rfl ha (AJ (A3 rfl hf rfl) rfl (AM rfl rfl ha (AJ (Ah rfl) rfl (AZ (!(decide (((hd:Int))=(45)))) (λhg=>?_) (λhg=>?_)))))))))
      ·have hn:=hg;try simp only[AfY,AfZ] at hn
       refine AM rfl rfl hg (AJ (Ah rfl) rfl (AM rfl rfl hg (AJ (Cl rfl rfl) rfl (AM rfl rfl ha (AJ (A3 rfl hg rfl) rfl (AM rfl rfl hb (AJ (Ay rfl ha rfl) rfl (AJ (A3 rfl hb rfl) rfl (Ar ?_)))))))));exact A1 (Cb trivial ⟨rfl,rfl,rfl,rfl,rfl,rfl,rfl,rfl,rfl,rfl,rfl,rfl,rfl,fb (by first | (simp only[hb,ha,hf,hg,Agp,Agx,AgB,Ags,Ag1,Agz,Ag9,Ag3,Agl,Ag2,Agg,Agb,AgU,AgM,reduceIte,Agv];done) | simp[hb,ha,hf,hg]),trivial⟩ (.cons_cons _ (.slnil)))
      ·have hn:=hg;try simp only[AfY,AfZ] at hn
       refine AX rfl rfl hg rfl (AX rfl rfl hg rfl (AM rfl rfl ha (AJ (Ay rfl hg rfl) rfl (AM rfl rfl hb (AJ (Ay rfl ha rfl) rfl (AJ (A3 rfl hb rfl) rfl (Ar ?_)))))));exact A1 (Cb trivial ⟨rfl,rfl,rfl,rfl,rfl,rfl,rfl,rfl,rfl,rfl,rfl,rfl,rfl,fb (by first | (simp only[hb,ha,hf,hg,Agp,Agx,AgB,Ags,Ag1,Agz,Ag9,Ag3,Agl,Ag2,Agg,Agb,AgU,AgM,reduceIte,Agv];done) | simp[hb,ha,hf,hg]),trivial⟩ (.cons_cons _ (.slnil)))
     ·have hm:=hf;try simp only[AfY,AfZ] at hm
      refine AX rfl rfl hf rfl (AX rfl rfl hf rfl (AM rfl rfl ha (AJ (Ay rfl hf rfl) rfl (AM rfl rfl ha (AJ (Ah rfl) rfl (AX rfl rfl rfl rfl (AX rfl rfl rfl rfl (AM rfl rfl ha (AJ (Ay rfl rfl rfl) rfl (AM rfl rfl hb (AJ (Ay rfl ha rfl) rfl (AJ (A3 rfl hb rfl) rfl (Ar ?_)))))))))))));exact A1 (Cb trivial ⟨rfl,rfl,rfl,rfl,rfl,rfl,rfl,rfl,rfl,rfl,rfl,rfl,rfl,fb (by first | (simp only[hb,ha,hf,Agp,Agx,AgB,Ags,Ag1,Agz,Ag9,Ag3,Agl,Ag2,Agg,Agb,AgU,AgM,reduceIte,Agv];done) | simp[hb,ha,hf]),trivial⟩ (.cons_cons _ (.slnil)))
   ·have hk:=hb;try simp only[AfY,AfZ] at hk
    refine AX rfl rfl hb rfl (AX rfl rfl hb rfl (AX rfl rfl hb rfl (C4 rfl rfl rfl (C4 rfl rfl rfl (C4 rfl rfl rfl (C4 rfl rfl rfl (C4 rfl rfl rfl (C4 rfl rfl rfl (C4 rfl rfl rfl (C4 rfl rfl rfl (C4 rfl rfl rfl (C4 rfl rfl rfl (C4 rfl rfl rfl (AX rfl rfl hb rfl (AJ (Ay rfl hb rfl) rfl (Ar ?_))))))))))))))));exact A1 (Cb trivial ⟨rfl,rfl,rfl,rfl,rfl,rfl,rfl,rfl,rfl,rfl,rfl,rfl,rfl,fb (by first | (simp only[hb,Agp,Agx,AgB,Ags,Ag1,Agz,Ag9,Ag3,Agl,Ag2,Agg,Agb,AgU,AgM,reduceIte,Agv];done) | simp[hb]),trivial⟩ (.cons_cons _ (.slnil)))
  refine Ek (b:=((!(DT (hd:Int)))&&((decide (((k:Int))=(0)))||((!(EI (hd:Int)))&&((!(decide (((hd:Int))=(45))))&&(!(decide (((hd:Int))=(95))))))))) rfl (λhi=>?_) (λhi=>?_)
  ·have ho:=hi;try simp only[AfY,AfZ] at ho
   refine Aq (Ap (AJ (AC rfl) rfl (Ar (A1 (Bh ?_)))));refine A6 (A7 (Ae (A7 (Ae (A5 (Cp rfl rfl) ?_)))));exact Jk (by rw[Ac6 hi0 hq hlu39 hhu39 hi])
  ·have ho:=hi;try simp only[AfY,AfZ] at ho
   refine A0 (AK (A1 (AG (k+hp) ?_ ⟨rfl,rfl,rfl,trivial⟩ (.cons_cons _ (.slnil)))));exact XX hi0 hq hlu39 hhu39 hi
theorem Afb (p:List UInt8)(w:World):Calls Tryz.prog 52 [.string (B p)].toArray w (M3 w (.bool (Mw p))):=by
 refine Iz (n:=21) Tryz.func52 rfl Tryz.ntmps52 rfl (Aq (Ap (AJ (AC rfl) rfl (Ar (A1 (Bh ?_))))));refine Aq (Aq (Ap (AJ (Ah rfl) rfl (Ra CX rfl rfl (λhd=>?_)))));refine Ar (A1 (Bh ?_));refine AO (M9 (S:=Nat) (λ(k:Nat)=>k≤p.length∧Bu NK 0 p=Bu NK k (p.drop k)) (λ(k:Nat)=>[(0,.string (B (p))),(2,.bool (false)),(6,.pointer (some ⟨hd,0,none⟩))]) (λ(k:Nat)=>[.blk hd (.stringIter (B p) (k))]) (λ(k:Nat)=>p.length-k) (0) ?_ ⟨rfl,rfl,rfl,trivial⟩ (.cons_cons _ (.slnil)) ?_)
 ·exact⟨AgA _,by simp⟩
 rintro k hi0;refine Aq (Ap (Tt (i:=0) rfl rfl rfl (λhend=>?_) (λhj hg hi hh hlu51 hhu51 hwu51=>?_)))
 ·refine AJ (AD rfl rfl) rfl (Ar (A1 (Bh ?_)));refine Aq (DA rfl rfl (B9 (A9 (A9 (Bm (A1 (Bh ?_)))))));refine AV [(2,.bool (((decide ((1)≤((p.length:Int))))&&(decide (((p.length:Int))≤(64))))))] [.blk hd (.stringIter (B p) (k))] (φ:=True) ?_ (λhk=>?_)
  ·refine Ap (AJ (Ah rfl) rfl (AJ (BM CX rfl) rfl (AJ (Kw rfl rfl) rfl (AJ (Ah rfl) rfl (AZ (decide ((1)≤((p.length:Int)))) (λha=>?_) (λha=>?_))))))
   ·have he:=ha;try simp only[AfY,AfZ] at he
    refine AM rfl rfl ha (AJ (Ah rfl) rfl (AM rfl rfl ha (AJ (BM CX rfl) rfl (AM rfl rfl ha (AJ (O8 rfl rfl) rfl (AJ (A3 rfl ha rfl) rfl (AJ (AC rfl) rfl (Ar ?_))))))));exact A1 (Cb trivial ⟨fb (by first | (simp only[ha,Agp,Agx,AgB,Ags,Ag1,Agz,Ag9,Ag3,Agl,Ag2,Agg,Agb,AgU,AgM,reduceIte,Agv];done) | simp[ha]),trivial⟩ (.cons_cons _ (.slnil)))
   ·have he:=ha;try simp only[AfY,AfZ] at he
    refine AX rfl rfl ha rfl (AX rfl rfl ha rfl (AX rfl rfl ha rfl (AJ (Ay rfl ha rfl) rfl (AJ (AC rfl) rfl (Ar ?_)))));exact A1 (Cb trivial ⟨fb (by first | (simp only[ha,Agp,Agx,AgB,Ags,Ag1,Agz,Ag9,Ag3,Agl,Ag2,Agg,Agb,AgU,AgM,reduceIte,Agv];done) | simp[ha]),trivial⟩ (.cons_cons _ (.slnil)))
  refine A6 (A5 (Cp rfl rfl) ?_);exact Jk (by rw[Aec hi0 hend])
 ·refine AJ (AD rfl rfl) rfl (Ar (A1 (Bh ?_)));refine Aq (DG rfl rfl (A0 (A1 (Bh ?_))));refine AO (Aq (Ap (AJ (AD rfl rfl) rfl (AJ (AC rfl) rfl (Ar (A1 (Bh ?_)))))));refine Aq (Ap (AJ (Ah rfl) rfl (CJ Tryz.call86 rfl (λw hw=>AaG (hg:Int) w) rfl (AJ (BJ rfl) rfl (Ar (A1 (Bh ?_)))))));refine Ek (b:=!(E6 (hg:Int))) rfl (λhb=>?_) (λhb=>?_)
  ·have hf:=hb;try simp only[AfY,AfZ] at hf
   refine Aq (Ap (AJ (AC rfl) rfl (Ar (A1 (Bh ?_)))));refine A6 (A7 (Ae (A7 (Ae (A5 (Cp rfl rfl) ?_)))));exact Jk (by rw[Afa hi0 hh hlu51 hhu51 hb])
  ·have hf:=hb;try simp only[AfY,AfZ] at hf
   refine A0 (AK (A1 (AG (k+hi) ?_ ⟨rfl,rfl,rfl,trivial⟩ (.cons_cons _ (.slnil)))));exact AcM hi0 hh hlu51 hhu51 hb
open Go
def TA (p:List UInt8):Bool:=decide ((0:Int)<p.length)&&decide (BD p 0=45)
def My (p:List UInt8):List UInt8:=if TA p=true then p.drop 1 else p
theorem Abo (p:List UInt8):(My p).length≤p.length:=by unfold My;split<;>simp
def E3 (_:Nat)(u:UInt8):Bool:=!(decide ((u.toNat:Int)<48)||decide (57<(u.toNat:Int)))
def NM (p:List UInt8):Bool:=!(decide (My p=[])||(decide (BD (My p) 0=48)&&!decide (p=[48])))&&Bu E3 0 (My p)
theorem IJ {p:List UInt8}(h : ¬ p=[]):(0:Int)<p.length:=by
 cases p with
 | nil=>exact absurd rfl h
 | cons a r=>simp
theorem RQ {p:List UInt8}{k:Nat}(h:(k:Int)<p.length):∃u,p[k]? =some u:=⟨p[k]'(by omega),Agi (by omega)⟩
theorem Abp {p:List UInt8}{k:Nat}(hi:k≤p.length∧Bu E3 0 p=Bu E3 k (p.drop k))(h:(k:Int)<p.length)(ht:(decide (BD p k<48)||decide (57<BD p k))=false) :
  (k+1≤p.length∧Bu E3 0 p=Bu E3 (k+1) (p.drop (k+1)))∧p.length-(k+1)<p.length-k:=by
 obtain⟨u,hu⟩:=RQ h;rw[Ab7 hu] at ht;exact P5 hi hu (by simp only[E3,ht];rfl)
theorem Ael {p:List UInt8}{k:Nat}(hi:k≤p.length∧Bu E3 0 p=Bu E3 k (p.drop k))(h:(k:Int)<p.length)(ht:(decide (BD p k<48)||decide (57<BD p k))=true):Bu E3 0 p=false:=by
 obtain⟨u,hu⟩:=RQ h;rw[Ab7 hu] at ht;exact Vl hi hu (by simp only[E3,ht];rfl)
theorem AcV {p:List UInt8}{k:Nat}(hi:k≤p.length∧Bu E3 0 p=Bu E3 k (p.drop k))(h : ¬ (k:Int)<p.length):Bu E3 0 p=true:=S4 hi (by omega)
def NF (p:List UInt8)(m:Int):Nat→Int
 | 0=>-1
 | k+1=>if BD p k=m then k else NF p m k
def RG (p:List UInt8)(m:Int):Int:=NF p m p.length
def BO (p:List UInt8):Int:=if NM p=true then(match Lib.atoiAll p with | .ok v=>if Gb v=true then 0 else 2 | _=>2) else 1
def Bx (p:List UInt8):Int:=if NM p=true then(match Lib.atoiAll p with | .ok v=>if Gb v=true then v else 0 | _=>0) else 0
theorem Qr:∀(l:List UInt8) (i acc:Nat),Bu E3 i l=true→(∃u,Lib.parseUint10 acc l = .ok u)∨Lib.parseUint10 acc l = .range
 | [],_,acc,_=>.inl ⟨acc,rfl⟩
 | c::r,i,acc,h=>by
  simp only[Bu,Agf] at h;have hc:48≤c.toNat∧c.toNat≤57:=by have:=h.1;simp[E3] at this;omega
  unfold Lib.parseUint10;rw[AgT hc]
  split
  ·exact .inr rfl
  ·split
   ·exact .inr rfl
   ·exact Qr r _ _ h.2
theorem W9 {l:List UInt8}(hne:l≠[])(h:Bu E3 0 l=true):(∃u,Lib.parseMag l = .ok u)∨Lib.parseMag l = .range:=by
 unfold Lib.parseMag;rw[AgF hne];exact Qr l 0 0 h
theorem Sz {e:Lib.NumEnd Nat}(h:(∃u,e = .ok u)∨e = .range):(∃v,Lib.signless e = .ok v)∨Lib.signless e = .range:=by
 rcases h with⟨u,rfl⟩ | rfl
 ·unfold Lib.signless
  by_cases h:9223372036854775808≤u
  ·exact .inr (by simp[h])
  ·exact .inl ⟨_,by simp[h];rfl⟩
 ·exact .inr rfl
theorem Vj {e:Lib.NumEnd Nat}(h:(∃u,e = .ok u)∨e = .range):(∃v,Lib.signed e = .ok v)∨Lib.signed e = .range:=by
 rcases h with⟨u,rfl⟩ | rfl
 ·unfold Lib.signed
  by_cases h:9223372036854775808<u
  ·exact .inr (by simp[h])
  ·exact .inl ⟨_,by simp[h];rfl⟩
 ·exact .inr rfl
theorem AbB {p:List UInt8}(h:NM p=true):(∃v,Lib.atoiAll p = .ok v∧-9223372036854775808≤v∧v≤9223372036854775807)∨Lib.atoiAll p = .range:=by
 have key:(∃v,Lib.atoiAll p = .ok v)∨Lib.atoiAll p = .range:=by
  simp only[NM,Agf,Agy,Ag7,AfZ] at h;obtain⟨⟨hne,_⟩,hall⟩:=h
  cases p with
  | nil=>simp[My,TA] at hne
  | cons c r=>
   by_cases hc:c=45
   ·subst hc;have hd:My (45::r)=r:=by simp[My,TA,BD]
    rw[hd] at hne hall;rw[Lib.atoiAll_minus];exact Vj (W9 hne hall)
   ·have hb : ¬ BD (c::r) 0=45:=by
     simp only[BD,Int.toNat_zero,List.getElem?_cons_zero,Ag5];intro e;exact hc (UInt8.toNat_inj.1 (by simpa using(by omega:c.toNat=45)))
    have hd:My (c::r)=c::r:=by simp[My,TA,hb]
    rw[hd] at hne hall;have ha:48≤c.toNat:=by
     simp only[Bu,Agf] at hall;have:=hall.1;simp[E3] at this;omega
    rw[Lib.atoiAll_plain c r (by omega) (by omega)];exact Sz (W9 hne hall)
 rcases key with⟨v,hv⟩ | h
 ·exact .inl ⟨v,hv,Lib.atoiAll_bounds hv⟩
 ·exact .inr h
theorem AaM (m:Int)(h0 : -9223372036854775808≤m)(h1:m≤9223372036854775807):(Lib.itoa m).length≤21:=Lib.itoa_length_le m h0 h1
def Hm (id:List UInt8)(m:Int):List UInt8:=id++[46]++Lib.itoa m
def CC (id:List UInt8)(m:Int):Int:=if Mw id=true then(if 0≤m∧m≤1000000000000 then(if (Hm id m).length≤64 then 0 else 3) else 2) else 4
def BV (id:List UInt8)(m:Int):List UInt8:=if CC id m=0 then Hm id m else[]
def ZV (s:List UInt8):List UInt8:=s.take (RG s 46).toNat
def XI (s:List UInt8):List UInt8:=s.drop (RG s 46+1).toNat
def Adq (s:List UInt8):Bool:=decide (0≤RG s 46)&&decide (BO (XI s)=0)&&decide (CC (ZV s) (Bx (XI s))=0)&&decide (BV (ZV s) (Bx (XI s))=s)
theorem Y8 (p:List UInt8)(hp:p.length≤281474976710656)(w:World):Calls Tryz.prog 123 [.string (B (p))].toArray w (M3 w (.bool (NM p))):=by
 refine Iz (n:=43) Tryz.func123 rfl Tryz.ntmps123 rfl (Aq (Ap (AJ (AC rfl) rfl (Ar (A1 (Bh ?_))))));refine Aq (Ap (AJ (Ah rfl) rfl (AJ (AC rfl) rfl (Ar (A1 (Bh ?_))))));refine AV [(0,.string (B (p))),(2,.bool (false)),(3,.string (B ((if ((decide ((0)<((p.length:Int))))&&(decide ((BD p 0)=(45))))=true then List.drop (Int.toNat (1)) p else p))))] [] (φ:=True) ?_ (λh1=>?_)
 ·refine AV [(0,.string (B (p))),(2,.bool (false)),(3,.string (B (p))),(13,.bool (((decide ((0)<((p.length:Int))))&&(decide ((BD p 0)=(45))))))] [] (φ:=True) ?_ (λh2=>?_)
  ·refine Ap (AJ (Ah rfl) rfl (AJ (BM CX rfl) rfl (AJ (Ec rfl rfl) rfl (AJ (Ah rfl) rfl (AZ (decide ((0)<((p.length:Int)))) (λhd=>?_) (λhd=>?_))))))
   ·have hk:=hd;try simp only[AfY,AfZ] at hk
    have hl:=hd;try simp at hl
    refine AM rfl rfl hd (AJ (Ah rfl) rfl (AM rfl rfl hd (AJ (BF CX rfl rfl (by first | omega | exact IJ (by assumption)) (by first | omega | exact IJ (by assumption))) rfl (AM rfl rfl hd (AJ (BT rfl rfl) rfl (AJ (A3 rfl hd rfl) rfl (Ar ?_)))))));exact A1 (Cb trivial ⟨rfl,rfl,rfl,fb (by first | (simp only[hd,Agp,Agx,AgB,Ags,Ag1,Agz,Ag9,Ag3,Agl,Ag2,Agg,Agb,AgU,AgM,reduceIte,Agv];done) | simp[hd]),trivial⟩ .slnil)
   ·have hk:=hd;try simp only[AfY,AfZ] at hk
    have hl:=hd;try simp at hl
    refine AX rfl rfl hd rfl (AX rfl rfl hd rfl (AX rfl rfl hd rfl (AJ (Ay rfl hd rfl) rfl (Ar ?_))));exact A1 (Cb trivial ⟨rfl,rfl,rfl,fb (by first | (simp only[hd,Agp,Agx,AgB,Ags,Ag1,Agz,Ag9,Ag3,Agl,Ag2,Agg,Agb,AgU,AgM,reduceIte,Agv];done) | simp[hd]),trivial⟩ .slnil)
  refine Ek (b:=((decide ((0)<((p.length:Int))))&&(decide ((BD p 0)=(45))))) rfl (λhg=>?_) (λhg=>?_)
  ·have hm:=hg;try simp only[AfY,AfZ] at hm
   have hn:=hg;try simp at hn
   refine Ap (AJ (Ah rfl) rfl (AJ (DV CX rfl rfl (by first | omega | (simp;omega)) (by first | omega | (simp;omega))) rfl (AJ (AC rfl) rfl (Ar ?_))));exact A1 (Cb trivial ⟨rfl,rfl,fs (by first | (simp only[hg,Agp,Agx,AgB,Ags,Ag1,Agz,Ag9,Ag3,Agl,Ag2,Agg,Agb,AgU,AgM,reduceIte,Agv];done) | simp[hg]),trivial⟩ .slnil)
  ·have hm:=hg;try simp only[AfY,AfZ] at hm
   have hn:=hg;try simp at hn
   refine A0 ?_;exact A1 (Cb trivial ⟨rfl,rfl,fs (by first | (simp only[hg,Agp,Agx,AgB,Ags,Ag1,Agz,Ag9,Ag3,Agl,Ag2,Agg,Agb,AgU,AgM,reduceIte,Agv];done) | simp[hg]),trivial⟩ .slnil)
 have hdg:My p=(if ((decide ((0)<((p.length:Int))))&&(decide ((BD p 0)=(45))))=true then List.drop (Int.toNat (1)) p else p):=rfl;have hdl:=Abo p;rw[hdg] at hdl;generalize(if ((decide ((0)<((p.length:Int))))&&(decide ((BD p 0)=(45))))=true then List.drop (Int.toNat (1)) p else p)=dg at hdg hdl ⊢;refine Aq (AV [(2,.bool (false)),(3,.string (B (dg))),(26,.bool (((decide ((dg)=(([]:List UInt8))))||((decide ((BD dg 0)=(48)))&&(!(decide ((p)=(([48]:List UInt8)))))))))] [] (φ:=True) ?_ (λh3=>?_))
 ·refine Ap (AJ (Ah rfl) rfl (AJ (Jq rfl rfl) rfl (AJ (Ah rfl) rfl (AZ (decide ((dg)=(([]:List UInt8)))) (λha=>?_) (λha=>?_)))))
  ·have ho:=ha;try simp only[AfY,AfZ] at ho
   have hq:=ha;try simp at hq
   refine AX rfl rfl ha rfl (AX rfl rfl ha rfl (AX rfl rfl ha rfl (AX rfl rfl ha rfl (C4 rfl rfl rfl (C4 rfl rfl rfl (AX rfl rfl ha rfl (AJ (A3 rfl ha rfl) rfl (Ar ?_))))))));exact A1 (Cb trivial ⟨rfl,rfl,fb (by first | (simp only[ha,Agp,Agx,AgB,Ags,Ag1,Agz,Ag9,Ag3,Agl,Ag2,Agg,Agb,AgU,AgM,reduceIte,Agv];done) | simp[ha]),trivial⟩ .slnil)
  ·have ho:=ha;try simp only[AfY,AfZ] at ho
   have hq:=ha;try simp at hq
   refine AM rfl rfl ha (AJ (Ah rfl) rfl (AM rfl rfl ha (AJ (BF CX rfl rfl (by first | omega | exact IJ (by assumption)) (by first | omega | exact IJ (by assumption))) rfl (AM rfl rfl ha (AJ (BT rfl rfl) rfl (AM rfl rfl ha (AJ (Ah rfl) rfl (AZ (decide ((BD dg 0)=(48))) (λhe=>?_) (λhe=>?_)))))))))
   ·have hr:=he;try simp only[AfY,AfZ] at hr
    have hs:=he;try simp at hs
    refine AM rfl rfl he (AJ (Ah rfl) rfl (AM rfl rfl he (AJ (CV rfl rfl) rfl (AM rfl rfl ha (AJ (A3 rfl he rfl) rfl (AJ (Ay rfl ha rfl) rfl (Ar ?_)))))));exact A1 (Cb trivial ⟨rfl,rfl,fb (by first | (simp only[ha,he,Agp,Agx,AgB,Ags,Ag1,Agz,Ag9,Ag3,Agl,Ag2,Agg,Agb,AgU,AgM,reduceIte,Agv];done) | simp[ha,he]),trivial⟩ .slnil)
   ·have hr:=he;try simp only[AfY,AfZ] at hr
    have hs:=he;try simp at hs
    refine AX rfl rfl he rfl (AX rfl rfl he rfl (AM rfl rfl ha (AJ (Ay rfl he rfl) rfl (AJ (Ay rfl ha rfl) rfl (Ar ?_)))));exact A1 (Cb trivial ⟨rfl,rfl,fb (by first | (simp only[ha,he,Agp,Agx,AgB,Ags,Ag1,Agz,Ag9,Ag3,Agl,Ag2,Agg,Agb,AgU,AgM,reduceIte,Agv];done) | simp[ha,he]),trivial⟩ .slnil)
 refine Ek (b:=((decide ((dg)=(([]:List UInt8))))||((decide ((BD dg 0)=(48)))&&(!(decide ((p)=(([48]:List UInt8)))))))) rfl (λhf=>?_) (λhf=>?_)
 ·have ht:=hf;try simp only[AfY,AfZ] at ht
  have hu:=hf;try simp at hu
  refine Aq (Ap (AJ (AC rfl) rfl (Ar (A1 (Bh ?_)))));refine A6 (Ae (A5 (Cp rfl rfl) ?_));exact Jk (by simp only[NM,hdg,hf];rfl)
 ·have ht:=hf;try simp only[AfY,AfZ] at ht
  have hu:=hf;try simp at hu
  refine A0 (A1 (Bh ?_));refine Aq (Aq (Ap (AJ (Ah rfl) rfl (AJ (BM CX rfl) rfl (AJ (Ah rfl) rfl (Ar (A1 (Bh ?_))))))));refine AO (M9 (S:=Nat) (λ(k:Nat)=>k≤dg.length∧Bu E3 0 dg=Bu E3 k (dg.drop k)) (λ(k:Nat)=>[(29,.int .i64 ((k:Int))),(3,.string (B (dg))),(28,.int .i64 ((dg.length:Int)))]) (λ(k:Nat)=>[]) (λ(k:Nat)=>dg.length-k) (0) ?_ ⟨fi (by first | rfl | (simp;done) | omega | (simp;omega)),rfl,rfl,trivial⟩ .slnil ?_)
  ·exact⟨AgA _,by simp⟩
  rintro k hi0;refine Aq (Ap (AJ (De rfl rfl) rfl (Ar (A1 (Bh ?_)))));refine Aq (Ek (b:=decide (((k:Int))<((dg.length:Int)))) rfl (λhh=>?_) (λhh=>?_))
  ·have hj:=hh;try simp only[AfY,AfZ] at hj
   have hw:=hh;try simp at hw
   refine A0 (A1 (Bh ?_));refine Aq (AO (Aq (Ap (AJ (Ah rfl) rfl (AJ (AC rfl) rfl (Ar (A1 (Bh ?_))))))));refine AV [(3,.string (B (dg))),(4,.int .i64 ((k:Int))),(28,.int .i64 ((dg.length:Int))),(29,.int .i64 ((k:Int))),(30,.bool (decide (((k:Int))<((dg.length:Int))))),(31,.int .i64 ((k:Int))),(32,.string (B (dg))),(33,.int .i64 ((k:Int))),(34,.int .u8 (BD dg (k:Int))),(35,.bool (decide ((BD dg (k:Int))<(48)))),(36,.bool (decide ((BD dg (k:Int))<(48)))),(41,.bool (((decide ((BD dg (k:Int))<(48)))||(decide ((57)<(BD dg (k:Int)))))))] [] (φ:=True) ?_ (λh4=>?_)
   ·refine Ap (AJ (Ah rfl) rfl (AJ (Ah rfl) rfl (AJ (BF CX rfl rfl (by first | omega | exact IJ (by assumption)) (by first | omega | exact IJ (by assumption))) rfl (AJ (De rfl rfl) rfl (AJ (Ah rfl) rfl (AZ (decide ((BD dg (k:Int))<(48))) (λhb=>?_) (λhb=>?_)))))))
    ·have hx:=hb;try simp only[AfY,AfZ] at hx
     have hy:=hb;try simp at hy
     refine AX rfl rfl hb rfl (AX rfl rfl hb rfl (AX rfl rfl hb rfl (AX rfl rfl hb rfl (AJ (A3 rfl hb rfl) rfl (Ar ?_)))));exact A1 (Cb trivial ⟨rfl,rfl,rfl,rfl,rfl,rfl,rfl,rfl,rfl,rfl,rfl,fb (by first | (simp only[hf,hh,hb,Agp,Agx,AgB,Ags,Ag1,Agz,Ag9,Ag3,Agl,Ag2,Agg,Agb,AgU,AgM,reduceIte,Agv];done) | simp[hf,hh,hb]),trivial⟩ .slnil)
    ·have hx:=hb;try simp only[AfY,AfZ] at hx
     have hy:=hb;try simp at hy
     refine AM rfl rfl hb (AJ (Ah rfl) rfl (AM rfl rfl hb (AJ (Ah rfl) rfl (AM rfl rfl hb (AJ (BF CX rfl rfl (by first | omega | exact IJ (by assumption)) (by first | omega | exact IJ (by assumption))) rfl (AM rfl rfl hb (AJ (Ec rfl rfl) rfl (AJ (Ay rfl hb rfl) rfl (Ar ?_)))))))));exact A1 (Cb trivial ⟨rfl,rfl,rfl,rfl,rfl,rfl,rfl,rfl,rfl,rfl,rfl,fb (by first | (simp only[hf,hh,hb,Agp,Agx,AgB,Ags,Ag1,Agz,Ag9,Ag3,Agl,Ag2,Agg,Agb,AgU,AgM,reduceIte,Agv];done) | simp[hf,hh,hb]),trivial⟩ .slnil)
   refine Ek (b:=((decide ((BD dg (k:Int))<(48)))||(decide ((57)<(BD dg (k:Int)))))) rfl (λhi=>?_) (λhi=>?_)
   ·have hz:=hi;try simp only[AfY,AfZ] at hz
    have h0:=hi;try simp at h0
    refine Aq (Ap (AJ (AC rfl) rfl (Ar (A1 (Bh ?_)))));refine A6 (A7 (Ae (Ae (A7 (Ae (A5 (Cp rfl rfl) ?_))))));exact Jk (by simp[NM,hdg,Ael hi0 hj hi])
   ·have hz:=hi;try simp only[AfY,AfZ] at hz
    have h0:=hi;try simp at h0
    refine A0 (AK (A1 (Bh ?_)));refine Ap (AJ (BU rfl rfl (IntWalk.i64_in _ (by omega))) rfl (AJ (Ah rfl) rfl (Ar (A1 (AG (k+1) ?_ ⟨fi (by first | rfl | (simp;done) | omega | (simp;omega)),rfl,rfl,trivial⟩ .slnil)))));exact Abp hi0 hj hi
  ·have hj:=hh;try simp only[AfY,AfZ] at hj
   have hw:=hh;try simp at hw
   refine B9 (A9 (A9 (Bm (A1 (Bh ?_)))));refine Aq (Ap (AJ (AC rfl) rfl (Ar (A1 (Bh ?_)))));refine A6 (A5 (Cp rfl rfl) ?_);exact Jk (by simp only[NM,hdg,hf,AcV hi0 hj];rfl)
theorem Uv (m:Int)(h0 : -9223372036854775808≤m)(h1:m≤9223372036854775807)(w:World)(hE:VR w):Calls Tryz.prog 46 [.int .i64 (m)].toArray w (M3 w (.string (B (Lib.itoa m)))):=by
 refine Iz (n:=5) Tryz.func46 rfl Tryz.ntmps46 rfl (Aq (Ap (AJ (AC rfl) rfl (Ar (A1 (Bh ?_))))));refine Aq (Ap (AJ (Ah rfl) rfl (CJ Tryz.call79 rfl (λw hw=>AdZ m (by omega) (by omega) w (hE.st0 hw)) rfl (AJ (AC rfl) rfl (Ar (A1 (Bh ?_)))))));refine A6 (A5 (Cp rfl rfl) ?_);exact Jk (by first | rfl | simp[])
theorem Acm (p:List UInt8)(hp:p.length≤281474976710656)(w:World)(hE:VR w):Calls Tryz.prog 99 [.string (B (p))].toArray w (M3 w (.tuple #[.int .i64 (Bx p),.int .i64 (BO p)])):=by
 refine Iz (n:=22) Tryz.func99 rfl Tryz.ntmps99 rfl (Aq (Ap (AJ (AC rfl) rfl (AJ (AC rfl) rfl (Ar (A1 (Bh ?_)))))));refine Aq (Aq (Ap (AJ (Ah rfl) rfl (CJ Tryz.call123 rfl (λw hw=>Y8 p (by first | omega | (simp;done) | (simp;omega) | (simp at *;omega)) w) rfl (AJ (BJ rfl) rfl (Ar (A1 (Bh ?_))))))));refine Ek (b:=!(NM p)) rfl (λhb=>?_) (λhb=>?_)
 ·have hf:=hb;try simp only[AfY,AfZ] at hf
  have ha:=hb;try simp only[AfY,AfZ,Agf,Ag4,Agy,Bool.not_eq_false',Aha,Ag7,not_or,Int.not_lt,Int.not_le] at ha
  refine Aq (Ap (AJ (AC rfl) rfl (AJ (AC rfl) rfl (Ar (A1 (Bh ?_))))));refine A6 (Ae (A5 (E4 rfl rfl rfl) ?_));exact Jk (by simp[Bx,BO,ha])
 ·have hf:=hb;try simp only[AfY,AfZ] at hf
  have ha:=hb;try simp only[AfY,AfZ,Agf,Ag4,Agy,Bool.not_eq_false',Aha,Ag7,not_or,Int.not_lt,Int.not_le] at ha
  refine A0 (A1 (Bh ?_));refine Aq (Ap (AJ (Ah rfl) rfl ?_));rcases AbB (p:=p) (by assumption) with⟨av,hav,hal,hah⟩ | hav
  ·refine CJ Tryz.call124 rfl (λw _=>Adh p (by first | omega | (simp;done) | (simp;omega) | (simp at *;omega)) av hav w) rfl (AJ (Ah rfl) rfl (AJ (AD rfl rfl) rfl (AJ (AD rfl rfl) rfl (AJ (AC rfl) rfl (AJ (AC rfl) rfl (Ar (A1 (Bh ?_))))))));refine Aq (AV [(2,.int .i64 (0)),(3,.int .i64 (0)),(4,.int .i64 (av)),(20,.bool (!(Gb av)))] [] (φ:=True) ?_ (λhh=>?_))
   ·exact Ap (AJ (Ah rfl) rfl (AJ (TR Tryz.underlying161 rfl) rfl (AJ (Ah rfl) rfl (AM rfl rfl rfl (AJ (Ah rfl) rfl (AM rfl rfl rfl (CJ Tryz.call117 rfl (λw hw=>AbW av w) rfl (AM rfl rfl rfl (AJ (BJ rfl) rfl (AJ (Ay rfl rfl rfl) rfl (Ar (A1 (Cb trivial ⟨rfl,rfl,rfl,rfl,trivial⟩ .slnil)))))))))))))
   refine Ek (b:=!(Gb av)) rfl (λhd=>?_) (λhd=>?_)
   ·have hg:=hd;try simp only[AfY,AfZ] at hg
    have he:=hd;try simp only[AfY,AfZ,Agf,Ag4,Agy,Bool.not_eq_false',Aha,Ag7,not_or,Int.not_lt,Int.not_le] at he
    refine Aq (Ap (AJ (AC rfl) rfl (AJ (AC rfl) rfl (Ar (A1 (Bh ?_))))));refine A6 (Ae (A5 (E4 rfl rfl rfl) ?_));exact Jk (by simp[Bx,BO,hav,ha,he])
   ·have hg:=hd;try simp only[AfY,AfZ] at hg
    have he:=hd;try simp only[AfY,AfZ,Agf,Ag4,Agy,Bool.not_eq_false',Aha,Ag7,not_or,Int.not_lt,Int.not_le] at he
    refine A0 (A1 (Bh ?_));refine Aq (Ap (AJ (Ah rfl) rfl (AJ (AC rfl) rfl (AJ (AC rfl) rfl (Ar (A1 (Bh ?_)))))));refine A6 (A5 (E4 rfl rfl rfl) ?_);exact Jk (by simp[Bx,BO,hav,ha,he])
  ·refine Wb Tryz.call124 rfl (λw hw=>VN p (by first | omega | (simp;done) | (simp;omega) | (simp at *;omega)) hav w (hE.st0 hw)) rfl ?_;rintro _ _ ⟨am,at_,ab,rfl,rfl⟩;refine AJ (Ah rfl) rfl (AJ (AD rfl rfl) rfl (AJ (AD rfl rfl) rfl (AJ (AC rfl) rfl (AJ (AC rfl) rfl (Ar (A1 (Bh ?_)))))));refine Aq (AV [(2,.int .i64 (0)),(3,.int .i64 (0)),(4,.int .i64 (am)),(20,.bool (true))] [] (φ:=True) ?_ (λhi=>?_))
   ·exact Ap (AJ (Ah rfl) rfl (AJ (Acy Tryz.underlying161 rfl) rfl (AJ (Ah rfl) rfl (AX rfl rfl rfl rfl (AX rfl rfl rfl rfl (AX rfl rfl rfl rfl (AJ (A3 rfl rfl rfl) rfl (Ar (A1 (Cb trivial ⟨rfl,rfl,rfl,rfl,trivial⟩ .slnil))))))))))
   refine DG rfl rfl (Aq (Ap (AJ (AC rfl) rfl (AJ (AC rfl) rfl (Ar (A1 (Bh ?_)))))));refine A6 (Ae (A5 (E4 rfl rfl rfl) ?_));exact Jk (by simp[Bx,BO,hav,ha])
theorem Adb (p:List UInt8)(m:Int)(hp:p.length≤281474976710656)(w:World)(hE:VR w):Calls Tryz.prog 67 [.string (B (p)),.int .i64 (m)].toArray w (M3 w (.tuple #[.string (B (BV p m)),.int .i64 (CC p m)])):=by
 refine Iz (n:=25) Tryz.func67 rfl Tryz.ntmps67 rfl (Aq (Ap (AJ (AC rfl) rfl (AJ (AC rfl) rfl (Ar (A1 (Bh ?_)))))));refine Aq (Aq (Ap (AJ (Ah rfl) rfl (CJ Zk rfl (λw hw=>Afb p w) rfl (AJ (BJ rfl) rfl (Ar (A1 (Bh ?_))))))));refine Ek (b:=!(Mw p)) rfl (λhb=>?_) (λhb=>?_)
 ·have hf:=hb;try simp only[AfY,AfZ] at hf
  have hg:=hb;try simp at hg
  refine Aq (Ap (AJ (AC rfl) rfl (AJ (AC rfl) rfl (Ar (A1 (Bh ?_))))));refine A6 (Ae (A5 (E4 rfl rfl rfl) ?_));have e:CC p m=4:=by simp only[CC,Hm];grind
  exact Jk (by simp[BV,e,Hm,B])
 ·have hf:=hb;try simp only[AfY,AfZ] at hf
  have hg:=hb;try simp at hg
  refine A0 (A1 (Bh ?_));refine Aq (AV [(0,.string (B (p))),(1,.int .i64 (m)),(4,.string (B ([]))),(5,.int .i64 (0)),(15,.bool (((decide ((m)<(0)))||(decide ((1000000000000)<(m))))))] [] (φ:=True) ?_ (λhn=>?_))
  ·refine Ap (AJ (Ah rfl) rfl (AJ (De rfl rfl) rfl (AJ (Ah rfl) rfl (AZ (decide ((m)<(0))) (λha=>?_) (λha=>?_)))))
   ·have hh:=ha;try simp only[AfY,AfZ] at hh
    have hi:=ha;try simp at hi
    refine AX rfl rfl ha rfl (AX rfl rfl ha rfl (AJ (A3 rfl ha rfl) rfl (Ar ?_)));exact A1 (Cb trivial ⟨rfl,rfl,rfl,rfl,fb (by first | (simp only[hb,ha,Agp,Agx,AgB,Ags,Ag1,Agz,Ag9,Ag3,Agl,Ag2,Agg,Agb,AgU,AgM,reduceIte,Agv];done) | simp[hb,ha]),trivial⟩ .slnil)
   ·have hh:=ha;try simp only[AfY,AfZ] at hh
    have hi:=ha;try simp at hi
    refine AM rfl rfl ha (AJ (Ah rfl) rfl (AM rfl rfl ha (AJ (Ec rfl rfl) rfl (AJ (Ay rfl ha rfl) rfl (Ar ?_)))));exact A1 (Cb trivial ⟨rfl,rfl,rfl,rfl,fb (by first | (simp only[hb,ha,Agp,Agx,AgB,Ags,Ag1,Agz,Ag9,Ag3,Agl,Ag2,Agg,Agb,AgU,AgM,reduceIte,Agv];done) | simp[hb,ha]),trivial⟩ .slnil)
  refine Ek (b:=((decide ((m)<(0)))||(decide ((1000000000000)<(m))))) rfl (λhd=>?_) (λhd=>?_)
  ·have hj:=hd;try simp only[AfY,AfZ] at hj
   have hk:=hd;try simp at hk
   refine Aq (Ap (AJ (AC rfl) rfl (AJ (AC rfl) rfl (Ar (A1 (Bh ?_))))));refine A6 (Ae (A5 (E4 rfl rfl rfl) ?_));have e:CC p m=2:=by simp only[CC,Hm];grind
   exact Jk (by simp[BV,e,Hm,B])
  ·have hj:=hd;try simp only[AfY,AfZ] at hj
   have hk:=hd;try simp at hk
   refine A0 (A1 (Bh ?_));refine Aq (Ap (AJ (Ah rfl) rfl (AJ (PF rfl rfl (by simp;omega)) rfl (AJ (Ah rfl) rfl (CJ Pf rfl (λw hw=>Uv m (by omega) (by omega) w (hE.st0 hw)) rfl ?_)))));have ho:=AaM m (by omega) (by omega);refine AJ (PF rfl rfl (by simp;omega)) rfl (AJ (AC rfl) rfl (Ar (A1 (Bh ?_))));refine Aq (Aq (Ap (AJ (Ah rfl) rfl (AJ (BM CX rfl) rfl (AJ (Ec rfl rfl) rfl (Ar (A1 (Bh ?_))))))));refine Ek (b:=decide ((64)<((((p++[46])++(Lib.itoa m)).length:Int)))) rfl (λhe=>?_) (λhe=>?_)
   ·have hl:=he;try simp only[AfY,AfZ] at hl
    have hm:=he;try simp at hm
    refine Aq (Ap (AJ (AC rfl) rfl (AJ (AC rfl) rfl (Ar (A1 (Bh ?_))))));refine A6 (Ae (A5 (E4 rfl rfl rfl) ?_));have e:CC p m=3:=by simp only[CC,Hm];grind
    exact Jk (by simp[BV,e,Hm,B])
   ·have hl:=he;try simp only[AfY,AfZ] at hl
    have hm:=he;try simp at hm
    refine A0 (A1 (Bh ?_));refine Aq (Ap (AJ (Ah rfl) rfl (AJ (AC rfl) rfl (AJ (AC rfl) rfl (Ar (A1 (Bh ?_)))))));refine A6 (A5 (E4 rfl rfl rfl) ?_);have e:CC p m=0:=by simp only[CC,Hm];grind
    exact Jk (by simp[BV,e,Hm,B])
end Go.Proofs.YtfobhhegpkinaaaGreatDoor
namespace Go.Proofs
open Go.Shelf
def Tryz.lays169_ren:Go.Shelf.Ren:=⟨fun | 169=>111 | n=>n,fun | 70=>143 | 9=>9 | 0=>0 | 72=>146 | 37=>144 | 127=>185 | 3=>3 | 5=>5 | n=>n,fun | n=>n⟩
theorem Tryz.lays169:Go.Proofs.Lays.n169 Tryz.prog Tryz.lays169_ren:={
 mixed:=by kernel_rfl
 f169:=Tryz.func111.trans (congrArg some (by kernel_rfl))
 t0:=Tryz.underlying0
 a0:=Tryz.isAgg0
 z0:=Tryz.sizeOf0
 v0:=Tryz.zeroValue0
 t3:=Tryz.underlying3
 a3:=Tryz.isAgg3
 z3:=Tryz.sizeOf3
 v3:=Tryz.zeroValue3
 t9:=Tryz.underlying9
 a9:=Tryz.isAgg9
 z9:=Tryz.sizeOf9
 v9:=Tryz.zeroValue9
 t37:=Tryz.underlying144
 a37:=Tryz.isAgg144
 z37:=Tryz.sizeOf144
 v37:=Tryz.zeroValue144
 t70:=Tryz.underlying143
 a70:=Tryz.isAgg143
 z70:=Tryz.sizeOf143
 v70:=Tryz.zeroValue143
 t72:=Tryz.underlying146
 a72:=Tryz.isAgg146
 z72:=Tryz.sizeOf146
 v72:=Tryz.zeroValue146
 t127:=Tryz.underlying185
 a127:=Tryz.isAgg185
 z127:=Tryz.sizeOf185
 v127:=Tryz.zeroValue185 }
theorem Tryz.Builder_Extra_169:Builder.Extra Tryz.prog Tryz.lays169_ren:={
 sizeBuilder:=by kernel_rfl
 liesBuilder:=by kernel_rfl
 t5:=Tryz.underlying5
 a5:=Tryz.isAgg5
 z5:=Tryz.sizeOf5
 v5:=Tryz.zeroValue5
 infoByte:=by kernel_rfl
 cellsByte:=by kernel_rfl
 sizeByte:=by kernel_rfl
 neB5:=by decide }
open Go.RowKit in
theorem Tryz.Builder_String_any (B b:Nat)(l:List UInt8)(w:World)(h:Lib.IsBuilder 146 5 B b (Lib.byteCells l) w)(hBw:B≤w.heap.size) :
  Calls Tryz.prog 111 #[.pointer (some ⟨b,0,none⟩)] w λe w'=>e = .returned (.string ⟨l.toArray⟩)∧Below B w w':=Any.Builder_String_any Tryz.lays169 Tryz.Builder_Extra_169 B b l w h hBw
def Tryz.lays138_ren:Go.Shelf.Ren:=⟨fun | 138=>151 | 195=>175 | 218=>176 | 143=>177 | 219=>198 | 217=>205 | 225=>206 | 224=>207 | 267=>208 | 266=>211 | 314=>212 | n=>n,fun | 9=>9 | 3=>3 | 4=>4 | 5=>5 | 0=>0 | 46=>134 | 146=>240 | 51=>158 | n=>n,fun | 1=>1 | n=>n⟩
theorem Tryz.lays138:Go.Proofs.Lays.n138 Tryz.prog Tryz.lays138_ren:={
 mixed:=by kernel_rfl
 f138:=Tryz.func151.trans (congrArg some (by kernel_rfl))
 f143:=Tryz.func177.trans (congrArg some (by kernel_rfl))
 f195:=Tryz.func175.trans (congrArg some (by kernel_rfl))
 f217:=Tryz.func205.trans (congrArg some (by kernel_rfl))
 f218:=Tryz.func176.trans (congrArg some (by kernel_rfl))
 f219:=Tryz.func198.trans (congrArg some (by kernel_rfl))
 f224:=Tryz.func207.trans (congrArg some (by kernel_rfl))
 f225:=Tryz.func206.trans (congrArg some (by kernel_rfl))
 f266:=Tryz.func211.trans (congrArg some (by kernel_rfl))
 f267:=Tryz.func208.trans (congrArg some (by kernel_rfl))
 f314:=Tryz.func212.trans (congrArg some (by kernel_rfl))
 t0:=Tryz.underlying0
 a0:=Tryz.isAgg0
 z0:=Tryz.sizeOf0
 v0:=Tryz.zeroValue0
 t3:=Tryz.underlying3
 a3:=Tryz.isAgg3
 z3:=Tryz.sizeOf3
 v3:=Tryz.zeroValue3
 t4:=Tryz.underlying4
 a4:=Tryz.isAgg4
 z4:=Tryz.sizeOf4
 v4:=Tryz.zeroValue4
 t5:=Tryz.underlying5
 a5:=Tryz.isAgg5
 z5:=Tryz.sizeOf5
 v5:=Tryz.zeroValue5
 t9:=Tryz.underlying9
 a9:=Tryz.isAgg9
 z9:=Tryz.sizeOf9
 v9:=Tryz.zeroValue9
 t46:=Tryz.underlying134
 a46:=Tryz.isAgg134
 z46:=Tryz.sizeOf134
 v46:=Tryz.zeroValue134
 t51:=Tryz.underlying158
 a51:=Tryz.isAgg158
 z51:=Tryz.sizeOf158
 v51:=Tryz.zeroValue158
 t146:=Tryz.underlying240
 a146:=Tryz.isAgg240
 z146:=Tryz.sizeOf240
 v146:=Tryz.zeroValue240
 g1:=by kernel_rfl }
open Go.RowKit Go.Lib in
theorem Tryz.strings_Count_one (s:ByteArray)(c:UInt8)(w:World) :
  Calls Tryz.prog 151 #[.string s,.string ⟨#[c]⟩] w λe w'=>e = .returned (.int .i64 (Lib.countByte s.data.toList c))∧w'=w:=Any.strings_Count_one Tryz.lays138 s c w
end Go.Proofs
namespace Go.Proofs.YtfobhhegpkinaaaGreatDoor
open Go
set_option linter.unusedVariables false
set_option linter.unusedSimpArgs false
theorem Xa {f:Nat→UInt8→Bool}:∀{l:List UInt8} {i:Nat},Bu f i l=true→∀u∈l,∃j,f j u=true
 | [],_,_,u,hu=>by simp at hu
 | x::r,i,h,u,hu=>by
  simp only[Bu,Agf] at h;rcases List.mem_cons.1 hu with rfl | hu
  ·exact⟨i,h.1⟩
  ·exact Xa h.2 u hu
theorem VP {f:Nat→UInt8→Bool}:∀{l:List UInt8} {i:Nat},(∀j,∀u∈l,f j u=true)→Bu f i l=true
 | [],_,_=>rfl
 | x::r,i,h=>by simp only[Bu,Agf];exact⟨h i x (by simp),VP λj u hu=>h j u (by simp[hu])⟩
theorem Wt:∀(l:List UInt8) (acc v:Nat) (c:UInt8),Lib.parseUint10 acc l = .ok v→48≤c.toNat→c.toNat≤57→v<1844674407370955161→Lib.parseUint10 acc (l++[c]) = .ok (v*10+(c.toNat-48))
 | [],acc,v,c,h,h0,h1,hv=>by
  simp only[Lib.parseUint10,Lib.NumEnd.ok.injEq] at h;subst h;simp only[AgK,Lib.parseUint10];rw[AgT ⟨h0,h1⟩,AgF (by omega),AgF (by omega)]
 | x::r,acc,v,c,h,h0,h1,hv=>by
  simp only[AgL,Lib.parseUint10] at h ⊢
  split at h
  ·rename_i hx
   rw[AgT hx]
   split at h
   ·cases h
   ·rename_i hy
    rw[AgF hy]
    split at h
    ·cases h
    ·rename_i hz
     rw[AgF hz];exact Wt r _ v c h h0 h1 hv
  ·cases h
theorem Mo {d:Nat}(h:d<10):(UInt8.ofNat (48+d)).toNat=48+d:=by
 simp[UInt8.toNat_ofNat'];omega
theorem WV (u:Nat):∀c∈Lib.decDigits u,48≤c.toNat∧c.toNat≤57:=by
 induction u using Nat.strongRecOn with
 | ind u ih=>
  intro c hc;rw[Lib.decDigits] at hc
  split at hc
  ·simp only[Agw] at hc;subst hc;rw[Mo (by omega)];omega
  ·rcases List.mem_append.1 hc with hc | hc
   ·exact ih (u/10) (by omega) c hc
   ·simp only[Agw] at hc;subst hc;rw[Mo (by omega)];omega
theorem Y9 (u:Nat):u<18446744073709551610→Lib.parseUint10 0 (Lib.decDigits u) = .ok u:=by
 induction u using Nat.strongRecOn with
 | ind u ih=>
  intro hu;rw[Lib.decDigits]
  split
  ·rename_i h
   simp only[Lib.parseUint10];rw[Mo h,AgT (by omega),AgF (by omega),AgF (by omega)]
   congr 1;omega
  ·rename_i h
   have:=Wt (Lib.decDigits (u/10)) 0 (u/10) (UInt8.ofNat (48+u % 10)) (ih (u/10) (by omega) (by omega)) (by rw[Mo (by omega)];omega) (by rw[Mo (by omega)];omega) (by omega);rw[this,Mo (by omega)]
   congr 1;omega
theorem Abr (u:Nat):Lib.decDigits u≠[]:=by
 rw[Lib.decDigits];split<;>simp
theorem YA (u:Nat):1≤u→BD (Lib.decDigits u) 0≠48:=by
 induction u using Nat.strongRecOn with
 | ind u ih=>
  intro hu;rw[Lib.decDigits]
  split
  ·rename_i h
   have:=Mo h;simp only[BD,Int.toNat_zero,List.getElem?_cons_zero,Ag5];rw[this];omega
  ·rename_i h
   have h1:=ih (u/10) (by omega) (by omega);have hne:=Abr (u/10);unfold BD at h1 ⊢;rw[show(0:Int).toNat=0 from rfl] at h1 ⊢
   rwa [AgZ (by cases hd:Lib.decDigits (u/10) with | nil=>exact absurd hd hne | cons=>simp)]
theorem AcX (u:Nat)(h:u<10):Lib.decDigits u=[UInt8.ofNat (48+u)]:=by rw[Lib.decDigits];simp[h]
theorem Un {m:Int}(h0:0≤m):Lib.itoa m=Lib.decDigits m.toNat:=by
 have:=Lib.itoa_nonneg m.toNat
 rwa [show((m.toNat:Nat):Int)=m from by omega] at this
theorem J1 {m:Int}(h0:0≤m)(h1:m≤1000000000000):BO (Lib.itoa m)=0∧Bx (Lib.itoa m)=m:=by
 rw[Un h0];generalize hu:m.toNat=u;have hub:u≤1000000000000:=by omega
 have hall:=WV u;have hne:=Abr u;have hd0:∃c r,Lib.decDigits u=c::r:=by cases h:Lib.decDigits u with | nil=>exact absurd h hne | cons c r=>exact⟨c,r,rfl⟩
 obtain⟨c,r,hcr⟩:=hd0;have hc:48≤c.toNat∧c.toNat≤57:=hall c (by simp[hcr]);have hs:TA (Lib.decDigits u)=false:=by
  rw[hcr];have e:BD (c::r) 0=c.toNat:=rfl;simp only[TA,e,Aha,AfZ]
  right;omega
 have hdg:My (Lib.decDigits u)=Lib.decDigits u:=by simp[My,hs]
 have hdec:NM (Lib.decDigits u)=true:=by
  simp only[NM,hdg];have h2:Bu E3 0 (Lib.decDigits u)=true:=VP λj x hx=>by
   have:=hall x hx;simp[E3];omega
  rw[h2];have h3:decide (Lib.decDigits u=[])=false:=by simpa using hne
  rw[h3]
  by_cases hz:u=0
  ·subst hz;rw[AcX 0 (by omega)];rfl
  ·have:=YA u (by omega);simp[this]
 have hat:Lib.atoiAll (Lib.decDigits u) = .ok (u:Int):=by
  have h4:=Y9 u (by omega);rw[hcr] at h4 ⊢;rw[Lib.atoiAll_plain c r (by omega) (by omega)];have:Lib.parseMag (c::r) = .ok u:=by unfold Lib.parseMag;rw[AgF (by simp)];exact h4
  rw[this];simp only[Lib.signless];rw[AgF (by omega)]
 have hv:Gb (u:Int)=true:=by simp[Gb];omega
 simp only[BO,Bx,hdec,AgU,hat,hv];exact⟨trivial,by omega⟩
theorem Or (p:List UInt8)(m:Int):∀(k j:Nat),(∀i,j≤i→i<k→BD p i≠m)→j≤k→NF p m k=NF p m j
  | 0,j,_,hjk=>by
                       have:j=0:=by omega
                       subst this;rfl
  | k+1,j,h,hjk=>by
    by_cases e:j=k+1
    · subst e;rfl
    · rw[NF,AgF (h k (by omega) (by omega))]
      exact Or p m k j (λi h1 h2=>h i h1 (by omega)) (by omega)
theorem AaH (a b:List UInt8)(c:UInt8)(h:c ∉ b):RG (a++[c]++b) c.toNat=a.length:=by
 unfold RG;have hb:∀i:Nat,a.length+1≤i→i<(a++[c]++b).length→BD (a++[c]++b) i≠c.toNat:=λi h1 h2 e=>by
  have hg:(a++[c]++b)[i]? =b[i-(a.length+1)]?:=by rw[Ahc (by simpa using h1)];simp
  have hlt:i-(a.length+1)<b.length:=by simp at h2;omega
  unfold BD at e;rw[show((i:Int)).toNat=i from by omega,hg,Agi hlt] at e;simp only[Ag5] at e;have:b[i-(a.length+1)]=c:=UInt8.toNat_inj.1 (by omega);exact h (this▸List.getElem_mem hlt)
 rw[Or _ _ _ (a.length+1) hb (by simp),NF,AgT];simp[BD]
theorem Q0 {id:List UInt8}{m:Int}(h:CC id m=0):Adq (BV id m)=true∧ZV (BV id m)=id∧Bx (XI (BV id m))=m∧Mw (BV id m)=true:=by
 have hk:Mw id=true∧(0≤m∧m≤1000000000000)∧(Hm id m).length≤64:=by
  unfold CC at h
  split at h
  ·split at h
   ·split at h
    ·exact⟨by assumption,by assumption,by assumption⟩
    ·omega
   ·omega
  ·omega
 obtain⟨h1,⟨h2,h3⟩,h4⟩:=hk;have hv:BV id m=id++[46]++Lib.itoa m:=by simp[BV,h,Hm]
 have hdig:∀c∈Lib.itoa m,48≤c.toNat∧c.toNat≤57:=by rw[Un h2];exact WV _
 have hl:RG (BV id m) 46=id.length:=by
  rw[hv];exact AaH id (Lib.itoa m) 46 (λhm=>by have:=hdig _ hm;simp at this)
 have e1:ZV (BV id m)=id:=by unfold ZV;rw[hl,hv];simp
 have e2:XI (BV id m)=Lib.itoa m:=by
  unfold XI;rw[hl,hv,show((id.length:Int)+1).toNat=id.length+1 from by omega];simp
 obtain⟨b1,b2⟩:=J1 h2 h3;refine⟨?_,e1,by rw[e2];exact b2,?_⟩
 ·simp only[Adq,e1,e2,b1,b2,h,hl];simp
 ·have hs:=h1;simp only[Mw,Agf] at hs ⊢;refine⟨⟨VP λj u hu=>?_,?_⟩,?_⟩
  ·rw[hv] at hu;rcases List.mem_append.1 hu with hu | hu
   ·rcases List.mem_append.1 hu with hu | hu
    ·obtain⟨i,hi⟩:=Xa hs.1.1 u hu;exact hi
    ·simp only[Agw] at hu;subst hu;show E6 46=true;decide
   ·have:=hdig u hu;simp[NK,E6,EI,DT];omega
  ·rw[hv];simp;omega
  ·rw[hv];simpa[Hm] using h4
open Go Go.RowKit
section
variable {P : Program} {n : Nat} {w0 : World} {M : List Nat} {l : Fr} {H : List Ent} {d : Option Nat} {x y : Operand} {ty t t' : TypeId} {pos : String} {af : Array Edge} {g : Option (Nat × Bool)} {k : IntKind} {p q z : Int}
end
set_option maxRecDepth 100000
end Go.Proofs.YtfobhhegpkinaaaGreatDoor
namespace Go.Proofs
open Go.Shelf
end Go.Proofs
namespace Go.Proofs.YtfobhhegpkinaaaGreatDoor.Q
open Go Go.RowKit
set_option linter.unusedVariables false
def GE (Z:Fz):Prop:=∀w,Xf Z w→VR w
theorem GE.mono {Z Z':Fz}(h:Fz.le Z Z')(hg:GE Z):GE Z':=λw hw=>hg w ⟨λb o e=>hw b o (h b o e),λk i b e=>hw.nm k i b (h.nm k i b e)⟩
theorem Pb.rle {P:Program}{E:Fz→Prop}{f:FuncId}{args:List Rp}{r r':Rp}(h:Pb P E f args r)(hr:M1 r r'):Pb P E f args r':=λw Z vs hv hs=>
 (h w Z vs hv hs).mono λe w' ⟨q,v,H,Z',he,⟨hq,hH⟩,hp,ht⟩=>⟨r',v,H,Z',he,⟨rfl,hH⟩,hr Z' v (hq▸hp),ht⟩
theorem M1.tup2 {a b:Value}:M1 (rv (.tuple #[a,b])) (Db [rv a,rv b]):=λZ v h=>⟨[a,b],h,rfl,rfl,trivial⟩
theorem Pb.of_id {P:Program}{E:Fz→Prop}{f:FuncId}{vs:List Value}{v:Value}(h:∀w,Calls P f vs.toArray w (λe w'=>e = .returned v∧w'=w)):Pb P E f (vs.map rv) (rv v):=
 Pb.of_old λw Z _ _=>(h w).mono λe w' ⟨he,hw⟩=>⟨he,by rw[hw];exact Proofs.YtfobhhegpkinaaaGreatDoor.St.refl w []⟩
theorem EQ (m:Int)(g:Ch .i64 m=true):Pb Tryz.prog GE 46 [rI .i64 m] (rS (Lib.itoa m)):=Pb.of_old (vs:=[.int .i64 m]) λw Z hf he=>Uv m (L5 g).1 (L5 g).2 w (he w hf)
theorem MQ (s:Aj)(g:Dv 1 s.length=true):Pb Tryz.prog GE 99 [rS s] (Db [rI .i64 (Bx s),rI .i64 (BO s)]):=(Pb.of_old (vs:=[.string (B s)]) λw Z hf he=>Acm s (by simp[Dv] at g;omega) w (he w hf)).rle M1.tup2
theorem WX (s:Aj)(c:UInt8):Pb Tryz.prog GE 151 [rS s,rS [c]] (rI .i64 (Lib.countByte s c)):=Pb.of_id (vs:=[.string (B s),.string (B [c])]) λw=>by have:=Tryz.strings_Count_one (B s) c w;rwa [VU] at this
theorem AcL (s:Aj):Pb Tryz.prog GE 52 [rS s] (rB (Mw s)):=Pb.of_old (vs:=[.string (B s)]) λw Z hf he=>Afb s w
theorem Vz (s:Aj):Pb Tryz.prog GE 53 [rS s] (rB (Hx s)):=Pb.of_old (vs:=[.string (B s)]) λw Z hf he=>AdQ s w
theorem OX (s:Aj)(m:Int)(g:Dv 1 s.length=true)(gm:Ch .i64 m=true):Pb Tryz.prog GE 67 [rS s,rI .i64 m] (Db [rS (BV s m),rI .i64 (CC s m)]):=(Pb.of_old (vs:=[.string (B s),.int .i64 m]) λw Z hf he=>Adb s m (by simp[Dv] at g;omega) w (he w hf)).rle M1.tup2
open Go Go.RowKit Go.ChangeShapes Go.Deep
set_option linter.unusedSimpArgs false
def ZW (W:World):Fz:=⟨λb=>W.heap[b]?,λ_ _=>none⟩
theorem ZW.frz (W:World):Xf (ZW W) W:=⟨λ_ _ h=>h,λ_ _ _ h=>by cases h⟩
def UO (P:Program)(e:TypeId){α:Type}(enc:α→List Rp)(ok:α→Bool):Prop:=
 ∀{H:Type} {encH:TypeId×Value→H} {W:World} {sp:Nat→Bool} {held:Bool} {n:Nat} {cs:List Value} {x:DataW H×List MemPlace},DataW.trod encH P W 0 sp held n e cs=some x→∃y:α,ok y=true∧Bq (ZW W) (enc y) cs
section
variable {P : Program} {e t : TypeId}
theorem UO.int {k:IntKind}{enc:Int→List Rp}(ht:P.underlying e=some (.int k))(he:∀n,enc n=[rI k n]):UO P e enc (Ch k):=λh=>by
 obtain⟨n,rfl,_,hwf⟩:=DataW.trod_int ht h;exact⟨n,hwf,by rw[he];exact⟨rfl,trivial⟩⟩
theorem UO.str {enc:Aj→List Rp}(ht:P.underlying e=some .string)(he:∀n,enc n=[rS n]):UO P e enc okS:=λh=>by
 obtain⟨s,rfl,_,hl⟩:=DataW.trod_string ht h;exact⟨s.data.toList,Agc (by rw[Array.length_toList];exact hl),by rw[he];exact⟨congrArg Value.string (Afu s),trivial⟩⟩
theorem UO.bool {enc:Bool→List Rp}(ht:P.underlying e=some .bool)(he:∀n,enc n=[rB n]):UO P e enc (λ_=>true):=λh=>by
 obtain⟨b,rfl,_⟩:=DataW.trod_bool ht h;exact⟨b,rfl,by rw[he];exact⟨rfl,trivial⟩⟩
theorem LC {W:World}{a:Addr}{v:Value}(h:W.cell? a=some v):a.spot=none∧Kh (ZW W) a.block a.off=some v:=by
 unfold World.cell? at h;unfold Kh ZW;dsimp only
 cases hh:W.heap[a.block]? with
 | none=>rw[hh] at h;cases h
 | some o=>
  rw[hh] at h
  cases o with
  | cells cs t fz=>
   cases hs:a.spot with
   | none=>simp[hs] at h;exact⟨rfl,h⟩
   | some _=>simp[hs] at h
  | _=>simp at h
theorem UO.slice {α:Type}[Inhabited α]{enc:α→List Rp}{ok:α→Bool}{sz:Nat}(ht:P.underlying t=some (.slice e))(hc:P.cellsOf e=sz)(hsz:0<sz)(h:UO P e enc ok)(hlen:∀y,(enc y).length=sz){enc':List α→List Rp}(he:∀ys,enc' ys=[Be sz (ys.map enc)]) :
  UO P t enc' (λys=>ys.all ok&&decide (ys.length≤9223372036854775807)):=fun {H encH W sp held n cs x} hx=>by
 rcases open_slice ht hx with⟨rfl,_⟩ | ⟨a,len,cap,m,n',D,Pl,rfl,hb,hl,hm,hmm,_,hel⟩
 ·exact⟨[],by simp,by rw[he];exact⟨Th.nil sz _,trivial⟩⟩
 ·have hlm:len≤m:=by rw[hmm];split<;>omega
  have each:∀i,i<len→∃y:α,ok y=true∧∃cs',W.cells? 0 (a.add (i*sz)) sz=some cs'∧Bq (ZW W) (enc y) cs':=λi hi=>by
   obtain⟨cs',h1,h2⟩:=hel i (by omega);obtain⟨y,hy,hr⟩:=h h2;rw[hc] at h1;exact⟨y,hy,cs',h1,hr⟩
  obtain⟨f,hf⟩:=choose_lt each;refine⟨(List.range len).map f,?_,?_⟩
  ·simp only[Agf,AgC,List.mem_map,List.mem_range,AfY];refine⟨?_,by simp;simp only[maxLen] at hm;omega⟩;rintro _ ⟨i,hi,rfl⟩;exact(hf i hi).1
  ·rw[he];refine⟨⟨some a,cap,by simp,by simpa using hl,hm,(λh=>by cases h),λi c hi=>?_⟩,trivial⟩;rw[AgX,Ag6] at hi;have hil:i<len:=by
    cases hq:(List.range len)[i]? with
    | none=>rw[hq] at hi;cases hi
    | some _=>have:=(List.getElem?_eq_some_iff.1 hq).1;simpa using this
   rw[List.getElem?_range hil] at hi;simp only[Option.map_some,Option.some.injEq,Function.comp] at hi;subst hi;obtain⟨_,cs',h1,hr⟩:=hf i hil;obtain⟨_,hcl,hcell⟩:=World.cells?_some h1;have hsp:a.spot=none:=by
    obtain⟨_,cs0,g1,_⟩:=hf 0 (by omega);obtain⟨_,gcl,gcell⟩:=World.cells?_some g1;have h0:=gcell 0 hsz;rw[Agi (by omega)] at h0;have:=(LC h0).1;simpa[Addr.add] using this
   refine⟨hlen _,a,rfl,hsp,λj r hj=>?_⟩;obtain⟨u,hu,hp⟩:=hr.at hj;have hjs:j<sz:=by have:=(List.getElem?_eq_some_iff.1 hj).1;rw[hlen] at this;exact this
   have h3:=hcell j hjs;rw[hu] at h3;have h4:=(LC h3).2;refine⟨u,?_,hp⟩;have e1:((a.add (i*sz)).add j).block=a.block:=by simp only[Addr.add];split<;>split<;>rfl
   have e2:((a.add (i*sz)).add j).off=a.off+(i*sz+j):=by simp only[Addr.add];split<;>split<;>simp_all<;>omega
   rw[e1,e2] at h4;exact h4
theorem OJ {Z:Fz}{cs:List Value}{o:Nat}(h:cs.length=o):Bq Z [] (cs.drop o):=by rw[List.drop_of_length_le (by omega)];trivial
theorem CZ {Z:Fz}{cs:List Value}{o s o':Nat}{rs rs':List Rp}(h:Bq Z rs ((cs.drop o).take s))(ho:o+s=o')(h2:Bq Z rs' (cs.drop o')):Bq Z (rs++rs') (cs.drop o):=by
 rw[← AgN s (cs.drop o),List.drop_drop];subst ho;exact h.append h2
theorem UO.val {α:Type}{enc:α→List Rp}{ok:α→Bool}(h:UO P e enc ok){r:α→Rp}(he:∀y,enc y=[r y]){H:Type}{encH:TypeId×Value→H}{W:World}{sp:Nat→Bool}{held:Bool}{v:Value}{d:DataW H}{ps:List MemPlace}
  (hone:v.cells = #[v]) (ht:DataW.Trod encH P W 0 sp held e v d ps):∃y:α,ok y=true∧(r y).p (ZW W) v:=by
 obtain⟨fuel,hf⟩:=ht;rw[hone] at hf;obtain⟨y,hy,hr⟩:=h hf;rw[he] at hr;exact⟨y,hy,hr.1⟩
end
theorem AaY {W w:World}(hw:Xf (ZW W) w):W.heap.size≤w.heap.size:=by
 rcases Nat.eq_zero_or_pos W.heap.size with h | h
 ·omega
 ·have h1:W.heap[W.heap.size-1]? =some (W.heap[W.heap.size-1]'(by omega)):=Array.getElem?_eq_getElem (by omega);have:=(Array.getElem?_eq_some_iff.1 (hw _ _ h1)).1;omega
theorem Y2 {W:World}(hE:VR W):GE (ZW W):=λw hw=>by
 have hb:Below W.heap.size W { w with os:=W.os,tape:=W.tape,output:=W.output }:=⟨rfl,rfl,rfl,(show W.heap.size≤w.heap.size from AaY hw),λk hk=>by
  have h1:W.heap[k]? =some (W.heap[k]'hk):=Array.getElem?_eq_getElem hk;rw[h1];exact hw k _ h1⟩
 have hE2:=hE.st0 (St.of_below hb);exact⟨Td.block { w with os:=W.os,tape:=W.tape,output:=W.output } w (λ_ _=>rfl) hE2.tabs,hE2.size⟩
theorem Z6 {W:World}(hE:VR W):St ⟨W,ZW W,[],GE,[]⟩ [] (ZW W) W where
 os:=rfl
 tape:=rfl
 output:=rfl
 size:=Agu _
 old:=λ_ _ _=>rfl
 has:=λ_ h=>by cases h
 own:=λ_ h=>by cases h
 dis:=.nil
 frz:=ZW.frz W
 le:=Fz.le.refl _
 new:=λ_ _ h=>.inl h
 zdis:=λ_ h=>by cases h
 env:=Y2 hE
 emono:=λh hg=>GE.mono h hg
 gst:=Nw.none rfl
theorem Z7 {W W':World}{Z Z':Fz}{E:Fz→Prop}{H:List Ent}(h:St ⟨W,Z,[],E,[]⟩ H Z' W'):Below W.heap.size W W':=⟨h.os,h.tape,h.output,h.size,λk hk=>h.old k hk (by simp)⟩
def EV (P:Program)(e:TypeId){α:Type}(enc:α→List Rp)(ok:α→Bool):Prop:=
 ∀{H:Type} {encH:TypeId×Value→H} {W:World} {sp:Nat→Bool} {held:Bool} {n:Nat} {cs:List Value} {x:DataW H×List MemPlace},DataW.trod encH P W 0 sp held n e cs=some x→Rows.uptoBulk x.1≤1048576→∃y:α,ok y=true∧Bq (ZW W) (enc y) cs
theorem Ab4 {H:Type}(d:DataW H):1≤Rows.uptoBulk d:=by
 cases d with
 | lit l=>cases l<;>simp[Rows.uptoBulk]
 | _=>simp[Rows.uptoBulk]
theorem KY {H:Type}:∀{ds:List (DataW H)} {d:DataW H},d∈ds→Rows.uptoBulk d≤Rows.uptoBulkAll ds
 | [],_,h=>by cases h
 | x::r,d,h=>by
  rw[Rows.uptoBulkAll];rcases List.mem_cons.1 h with rfl | h
  ·omega
  ·have:=KY h;omega
theorem UG {H:Type}:∀(ds:List (DataW H)),ds.length≤Rows.uptoBulkAll ds
 | []=>AgA _
 | x::r=>by
  rw[Rows.uptoBulkAll];have:=UG r;have:=Ab4 x;simp only[Agd];omega
section
variable {P : Program} {e t : TypeId}
theorem UO.toB {α:Type}{enc:α→List Rp}{ok:α→Bool}(h:UO P e enc ok):EV P e enc ok:=λhx _=>h hx
theorem EV.int {k:IntKind}{enc:Int→List Rp}(ht:P.underlying e=some (.int k))(he:∀n,enc n=[rI k n]):EV P e enc (Ch k):=UO.toB (UO.int ht he)
theorem EV.bool {enc:Bool→List Rp}(ht:P.underlying e=some .bool)(he:∀n,enc n=[rB n]):EV P e enc (λ_=>true):=UO.toB (UO.bool ht he)
theorem EV.str {enc:Aj→List Rp}(ht:P.underlying e=some .string)(he:∀n,enc n=[rS n]):EV P e enc MS:=λh hb=>by
 obtain⟨s,rfl,hx,hl⟩:=DataW.trod_string ht h;subst hx;simp only[Rows.uptoBulk] at hb;exact⟨s.data.toList,Agc (by omega),by rw[he];exact⟨congrArg Value.string (Afu s),trivial⟩⟩
theorem EV.slice {α:Type}[Inhabited α]{enc:α→List Rp}{ok:α→Bool}{sz:Nat}(ht:P.underlying t=some (.slice e))(hc:P.cellsOf e=sz)(hsz:0<sz)(h:EV P e enc ok)(hlen:∀y,(enc y).length=sz){enc':List α→List Rp}(he:∀ys,enc' ys=[Be sz (ys.map enc)]) :
  EV P t enc' (λys=>ys.all ok&&decide (ys.length≤1048576)):=fun {H encH W sp held n cs x} hx hB=>by
 rcases open_slice ht hx with⟨rfl,_⟩ | ⟨a,len,cap,m,n',D,Pl,rfl,hb,hl,hm,hmm,hxe,hel⟩
 ·exact⟨[],by simp,by rw[he];exact⟨Th.nil sz _,trivial⟩⟩
 ·have hlm:len≤m:=by rw[hmm];split<;>omega
  subst hxe;simp only[Rows.uptoBulk] at hB;have hlb:len≤1048576:=by
   have:=UG ((List.range len).map D);rw[Agj,List.length_range] at this;omega
  have each:∀i,i<len→∃y:α,ok y=true∧∃cs',W.cells? 0 (a.add (i*sz)) sz=some cs'∧Bq (ZW W) (enc y) cs':=λi hi=>by
   obtain⟨cs',h1,h2⟩:=hel i (by omega);obtain⟨y,hy,hr⟩:=h h2 (by
    have:=KY (List.mem_map.2 ⟨i,List.mem_range.2 hi,rfl⟩:D i∈(List.range len).map D);show Rows.uptoBulk (D i)≤1048576;omega)
   rw[hc] at h1;exact⟨y,hy,cs',h1,hr⟩
  obtain⟨f,hf⟩:=choose_lt each;refine⟨(List.range len).map f,?_,?_⟩
  ·simp only[Agf,AgC,List.mem_map,List.mem_range,AfY];refine⟨?_,by simpa using hlb⟩;rintro _ ⟨i,hi,rfl⟩;exact(hf i hi).1
  ·rw[he];refine⟨⟨some a,cap,by simp,by simpa using hl,hm,(λh=>by cases h),λi c hi=>?_⟩,trivial⟩;rw[AgX,Ag6] at hi;have hil:i<len:=by
    cases hq:(List.range len)[i]? with
    | none=>rw[hq] at hi;cases hi
    | some _=>have:=(List.getElem?_eq_some_iff.1 hq).1;simpa using this
   rw[List.getElem?_range hil] at hi;simp only[Option.map_some,Option.some.injEq,Function.comp] at hi;subst hi;obtain⟨_,cs',h1,hr⟩:=hf i hil;obtain⟨_,hcl,hcell⟩:=World.cells?_some h1;have hsp:a.spot=none:=by
    obtain⟨_,cs0,g1,_⟩:=hf 0 (by omega);obtain⟨_,gcl,gcell⟩:=World.cells?_some g1;have h0:=gcell 0 hsz;rw[Agi (by omega)] at h0;have:=(LC h0).1;simpa[Addr.add] using this
   refine⟨hlen _,a,rfl,hsp,λj r hj=>?_⟩;obtain⟨u,hu,hp⟩:=hr.at hj;have hjs:j<sz:=by have:=(List.getElem?_eq_some_iff.1 hj).1;rw[hlen] at this;exact this
   have h3:=hcell j hjs;rw[hu] at h3;have h4:=(LC h3).2;refine⟨u,?_,hp⟩;have e1:((a.add (i*sz)).add j).block=a.block:=by simp only[Addr.add];split<;>split<;>rfl
   have e2:((a.add (i*sz)).add j).off=a.off+(i*sz+j):=by simp only[Addr.add];split<;>split<;>simp_all<;>omega
   rw[e1,e2] at h4;exact h4
theorem CE {H:Type}{xs:List (DataW H×List MemPlace)}{i:Nat}(hi:i<xs.length)(h:Rows.uptoBulk (DataW.agg (xs.map (·.1)))≤1048576):Rows.uptoBulk (xs[i]).1≤1048576:=by
 rw[Rows.uptoBulk] at h;have:=KY (List.mem_map.2 ⟨xs[i],List.getElem_mem hi,rfl⟩:(xs[i]).1∈xs.map (·.1));omega
theorem EV.val {α:Type}{enc:α→List Rp}{ok:α→Bool}(h:EV P e enc ok){r:α→Rp}(he:∀y,enc y=[r y]){H:Type}{encH:TypeId×Value→H}{W:World}{sp:Nat→Bool}{held:Bool}{v:Value}{d:DataW H}{ps:List MemPlace}
  (hone:v.cells = #[v]) (ht:DataW.Trod encH P W 0 sp held e v d ps) (hb:Rows.uptoBulk d≤1048576):∃y:α,ok y=true∧(r y).p (ZW W) v:=by
 obtain⟨fuel,hf⟩:=ht;rw[hone] at hf;obtain⟨y,hy,hr⟩:=h hf hb;rw[he] at hr;exact⟨y,hy,hr.1⟩
end
structure At {α:Type} (i:Nat) (l:List α) (e:α) (l':List α):Prop where
 go:l.Perm (e::l')
theorem Afo {α:Type}{e:α}{l:List α}:At 0 (e::l) e l:=⟨Agn _⟩
theorem Afn {α:Type}{i:Nat}{x e:α}{l l':List α}(h:At i l e l'):At (i+1) (x::l) e (x::l'):=⟨(h.go.cons x).trans (List.Perm.swap e x l')⟩
structure Pk {α:Type} (is:List Nat) (l l':List α):Prop where
 go:l.Perm l'
theorem AeK {α:Type}{l:List α}:Pk [] l l:=⟨Agn _⟩
theorem AeJ {α:Type}{i:Nat}{r:List Nat}{l l1 l2:List α}{e:α}(h:At i l e l1)(t:Pk r l1 l2):Pk (i::r) l (e::l2):=⟨h.go.trans (t.go.cons e)⟩
structure YS {α:Type} (i:Nat) (l:List α) (x:α) (l':List α):Prop where
 go:l.set i x=l'
theorem AdC {α:Type}{a x:α}{l:List α}:YS 0 (a::l) x (x::l):=⟨rfl⟩
theorem AdB {α:Type}{i:Nat}{a x:α}{l l':List α}(h:YS i l x l'):YS (i+1) (a::l) x (a::l'):=⟨by rw[List.set_cons_succ,h.go]⟩
structure YT {α:Type} (i:Nat) (rs l l':List α):Prop where
 go:l.take i++rs++l.drop (i+rs.length)=l'
theorem AfB {α:Type}{l:List α}:YT 0 [] l l:=⟨by simp⟩
theorem AfA {α:Type}{r a:α}{rs l l':List α}(h:YT 0 rs l l'):YT 0 (r::rs) (a::l) (r::l'):=⟨by
 have:=h.go;simp only[List.take_zero,AgK,AgH] at this ⊢;rw[Agd,List.drop_succ_cons,AgL,this]⟩
theorem Af9 {α:Type}{i:Nat}{a:α}{rs l l':List α}(h:YT i rs l l'):YT (i+1) rs (a::l) (a::l'):=⟨by
 have:=h.go;rw[List.take_succ_cons,show i+1+rs.length=(i+rs.length)+1 from by omega,List.drop_succ_cons,AgL,AgL,this]⟩
section
variable {P : Program} {n : Nat} {c : Cx} {ops opsA : Array Oper} {Q : Exit → Act → World → Prop} {rest : List Oper} {l l' : Fr} {H H' H2 Hr : List Ent} {x : Code} {K : Act → World → Prop} {d : Nat} {ty t e : TypeId} {pos : String} {af : Array Edge} {y z : Operand} {r : Rp} {sz : Nat}
theorem Ja (is:List Nat)(h:WK n c K l H2)(hp:Pk is H H2:=by repeat (first | exact AeK | apply AeJ | exact Afo | apply Afn)):WK n c K l H:=AbR hp.go h
theorem Du (is:List Nat){f:FuncId}{args:List Operand}{ats:Array TypeId}{rs:List Rp}{Hin:List Ent}{Φ:Rp→List Ent→Prop}(hcall:∀(as1:Array Value) (w:World),(callFunc f as1).run P w = .ok (.enter f as1) w)(hc:Fn P c.E f rs Hin Φ)
  (h:∀r Ho,Φ r Ho→WL P n c ops Q rest ((d,r)::l) (Ho++Hr)) (hv:OC l args=some rs:=by rfl) (hp:Pk is H (Hin++Hr):=by repeat (first | exact AeK | apply AeJ | exact Afo | apply Afn)) (hn:Nat.blt d n=true:=by rfl) :
  WL P n c ops Q ({ dst:=some d,op:=.call { callee:=.value (.func f),args:=args.toArray,argTypes:=ats },type:=ty,pos:=pos,after:=af,guard:=none }::rest) l H:=CJ hcall hv hp.go hc hn h
theorem EL (h:WC P n c x Q l' H')(hl:l=l':=by first | (dsimp only;done) | (dsimp only;exact rfl) | exact rfl)(hH:H=H':=by first | (dsimp only;done) | (dsimp only;exact rfl) | exact rfl):WC P n c x Q l H:=AeA hl hH h
theorem IY (h:WK n c K l' H')(hl:l=l':=by first | (dsimp only;done) | (dsimp only;exact rfl) | exact rfl)(hH:H=H':=by first | (dsimp only;done) | (dsimp only;exact rfl) | exact rfl):WK n c K l H:=Ae9 hl hH h
theorem us {i b off:Nat}{cs cs':List Rp}(hag:∀w,(sizeOf t).run P w = .ok 1 w)(hx:ev l z=some (rv (.pointer (some ⟨b,off,none⟩))))(hy:ev l y=some r)(hv:Te H r)(hi:H[i]? =some (.blk b cs e))(hlt:Nat.blt off cs.length=true)
  (h:WL P n c ops Q rest l H') (hcs:YS off cs r cs':=by repeat (first | exact AdC | apply AdB)) (hH:YS i H (.blk b cs' e) H':=by repeat (first | exact AdC | apply AdB)) :
  WL P n c ops Q ({ dst:=none,op:=.store t z y,type:=ty,pos:=pos,after:=af,guard:=none }::rest) l H:=Ss hag hx hy hv hi hlt hcs.go hH.go h
theorem M5 {i b off:Nat}{cs cs' rs:List Rp}(hsz:∀w,(sizeOf t).run P w = .ok sz w)(hx:ev l z=some (rv (.pointer (some ⟨b,off,none⟩))))(hy:ev l y=some (BW rs))(hl:rs.length=sz)(hv:Cv H rs)(hi:H[i]? =some (.blk b cs e))(hlt:Nat.ble (off+sz) cs.length=true)
  (h:WL P n c ops Q rest l H') (hcs:YT off rs cs cs':=by repeat (first | exact AfB | apply AfA | apply Af9)) (hH:YS i H (.blk b cs' e) H':=by repeat (first | exact AdC | apply AdB)) :
  WL P n c ops Q ({ dst:=none,op:=.store t z y,type:=ty,pos:=pos,after:=af,guard:=none }::rest) l H:=KA hsz hx hy hl hv hi hlt (by rw[← hl];exact hcs.go) hH.go h
def WO (os:List Oper)(acc:List Rp)(t:Nat)(l0:Fr):List Nat→Fr
 | []=>l0
 | j::r=>match Cw os j with
  | some d=>(d,acc.getD (t-1-j) (rv undef))::WO os acc t l0 r
  | none=>WO os acc t l0 r
def UQ:List Oper→List Rp→List Sp
 | o::os,r::rs=>⟨Dj o,r,1⟩::UQ os rs
 | _,_=>[]
theorem Wj:∀{os:List Oper} {rs:List Rp},os.length=rs.length→(UQ os rs).length=os.length
 | [],[],_=>rfl
 | o::os,r::rs,h=>by rw[UQ,Agd,Agd,Wj (by simpa using h)]
 | [],_::_,h=>by simp at h
 | _::_,[],h=>by simp at h
theorem Vi:∀{os:List Oper} {rs:List Rp} {i:Nat} {o:Oper} {r:Rp},os[i]? =some o→rs[i]? =some r→(UQ os rs)[i]? =some ⟨Dj o,r,1⟩
 | o::os,r::rs,0,o',r',h1,h2=>by simp at h1 h2;subst h1;subst h2;rfl
 | o::os,r::rs,i+1,o',r',h1,h2=>by rw[UQ,List.getElem?_cons_succ];exact Vi (by simpa using h1) (by simpa using h2)
 | [],_,i,_,_,h1,_=>by simp at h1
 | _::_,[],i,_,_,_,h2=>by simp at h2
def RdH (P:Program)(n:Nat)(c:Cx)(Q:Exit→Act→World→Prop)(os:List Oper)(l0:Fr)(H:List Ent)(acc:List Rp):Prop:=
 ∀(i:Nat) o r,os[i]? =some o→acc.reverse[i]? =some r→DL P n c os.toArray Q (WO os (acc.drop (acc.length-i)) i l0 (Dj o)) H o r H
def Xd (P:Program)(n:Nat)(c:Cx)(Q:Exit→Act→World→Prop)(os:List Oper)(l0:Fr)(H:List Ent)(G:Prop)(t:Nat)(acc:List Rp)(rest:List Oper):Prop:=
 rest=os.drop t→t=acc.length→RdH P n c Q os l0 H acc→G
theorem RdH.cons {os:List Oper}{l0:Fr}{acc:List Rp}{o:Oper}{r:Rp}(h:RdH P n c Q os l0 H acc)(ho:os[acc.length]? =some o)(hr:DL P n c os.toArray Q (WO os acc acc.length l0 (Dj o)) H o r H):RdH P n c Q os l0 H (r::acc):=λi o' r' h1 h2=>by
 rw[List.reverse_cons] at h2
 by_cases hi:i<acc.length
 ·rw[AgZ (by simpa using hi)] at h2;have:=h i o' r' h1 h2;rw[Agd,show acc.length+1-i=(acc.length-i)+1 from by omega,List.drop_succ_cons];exact this
 ·have hlt:=(List.getElem?_eq_some_iff.1 h2).1;simp at hlt;have e:i=acc.length:=by omega
  subst e;rw[Ahc (by simp)] at h2;simp at h2;subst h2;rw[ho] at h1;obtain rfl:=Option.some.inj h1;rw[Agd,show acc.length+1-acc.length=1 from by omega,List.drop_succ_cons,List.drop_zero];exact hr
theorem AaZ {os:List Oper}{acc:List Rp}{l0:Fr}{i:Nat}(hl:acc.length=os.length)(hi:i≤acc.length):∀{js:List Nat},(∀j∈js,j<i)→WO os (acc.drop (acc.length-i)) i l0 js=Cn os (UQ os acc.reverse) js l0
 | [],_=>rfl
 | j::js,h=>by
  have hj:=h j (by simp);have ih:=AaZ (l0:=l0) hl hi (js:=js) λj' hj'=>h j' (by simp[hj']);unfold WO Cn;have ho:os[j]? =some (os[j]'(by omega)):=Agi (by omega);have hr:acc.reverse[j]? =some (acc.reverse[j]'(by simp;omega)):=Agi (by simp;omega);have e:(acc.drop (acc.length-i)).getD (i-1-j) (rv undef)=(El (UQ os acc.reverse) j).r:=by
   unfold El;rw[Agh,Agh,Vi ho hr,List.getElem?_drop,Ag5];rw[Agi (by omega),Ag5];show _=acc.reverse[j]'(by simp;omega);rw[List.getElem_reverse]
   congr 1
   omega
  rw[e,ih]
  cases Cw os j<;>rfl
theorem Dy {id:Nat}{os:List Oper}{l0:Fr}(ks0:List Nat)(h:Xd P n c Q os l0 H (Kp ks0 l l0→WC P n c (.region id os.toArray true) Q l H) 0 [] os)(h0:Kp ks0 l l0:=by repeat (first | exact OB | (apply Mt;rfl) | (apply Nd;rfl))):WC P n c (.region id os.toArray true) Q l H:=
 h (by simp) rfl (λi o r _ h2=>by simp at h2) h0
theorem TF {os:List Oper}{l0:Fr}{G:Prop}{t:Nat}{acc:List Rp}{o:Oper}{r:Rp}{rest:List Oper}(hr:DL P n c os.toArray Q (WO os acc t l0 (Dj o)) H o r H)(h:Xd P n c Q os l0 H G (t+1) (r::acc) rest):Xd P n c Q os l0 H G t acc (o::rest):=λh1 h2 h3=>by
 subst h2;have ho:os[acc.length]? =some o:=by have:=congrArg (·[0]?) h1;simp at this;exact this.symm
 exact h (by have:=congrArg List.tail h1;simpa using this) rfl (h3.cons ho hr)
section
variable {os : List Oper} {l0 : Fr} {G : Prop} {t : Nat} {acc : List Rp} {r : Rp} {rest : List Oper} {op : Op} {j dj : Nat} {want b : Bool} {dd : Option Nat}
theorem rq (hr:B1 P n c (WO os acc t l0 (Dj { dst:=some d,op:=op,type:=ty,pos:=pos,after:=af,guard:=none })) H { dst:=some d,op:=op,type:=ty,pos:=pos,after:=af,guard:=none } r)(h:Xd P n c Q os l0 H G (t+1) (r::acc) rest) :
  Xd P n c Q os l0 H G t acc ({ dst:=some d,op:=op,type:=ty,pos:=pos,after:=af,guard:=none }::rest):=TF (Bg hr) h
theorem rg (hb:b=want)(hr:B1 P n c (WO os acc t l0 (Dj { dst:=some d,op:=op,type:=ty,pos:=pos,after:=af,guard:=some (j,want) })) H { dst:=some d,op:=op,type:=ty,pos:=pos,after:=af,guard:=none } r)(h:Xd P n c Q os l0 H G (t+1) (r::acc) rest)
  (hj:DO os.toArray j=some dj:=by rfl) (hv:look (WO os acc t l0 (Dj { dst:=some d,op:=op,type:=ty,pos:=pos,after:=af,guard:=some (j,want) })) dj=some (rB b):=by rfl) :
  Xd P n c Q os l0 H G t acc ({ dst:=some d,op:=op,type:=ty,pos:=pos,after:=af,guard:=some (j,want) }::rest):=TF (Bv hj hv hb (Bg hr)) h
theorem ro (hb:b=want)(hr:DL P n c os.toArray Q (WO os acc t l0 (Dj { dst:=dd,op:=op,type:=ty,pos:=pos,after:=af,guard:=some (j,want) })) H { dst:=dd,op:=op,type:=ty,pos:=pos,after:=af,guard:=none } r H)(h:Xd P n c Q os l0 H G (t+1) (r::acc) rest)
  (hj:DO os.toArray j=some dj:=by rfl) (hv:look (WO os acc t l0 (Dj { dst:=dd,op:=op,type:=ty,pos:=pos,after:=af,guard:=some (j,want) })) dj=some (rB b):=by rfl) :
  Xd P n c Q os l0 H G t acc ({ dst:=dd,op:=op,type:=ty,pos:=pos,after:=af,guard:=some (j,want) }::rest):=TF (Bv hj hv hb hr) h
theorem rz (hb:b = !want)(h:Xd P n c Q os l0 H G (t+1) (rv undef::acc) rest)
  (hj:DO os.toArray j=some dj:=by rfl) (hv:look (WO os acc t l0 (Dj { dst:=dd,op:=op,type:=ty,pos:=pos,after:=af,guard:=some (j,want) })) dj=some (rB b):=by rfl) :
  Xd P n c Q os l0 H G t acc ({ dst:=dd,op:=op,type:=ty,pos:=pos,after:=af,guard:=some (j,want) }::rest):=TF (Br hj hv hb) h
theorem ru (h:Xd P n c Q os l0 H G (t+1) (rv undef::acc) rest)
  (hj:DO os.toArray j=some dj:=by rfl) (hv:look (WO os acc t l0 (Dj { dst:=dd,op:=op,type:=ty,pos:=pos,after:=af,guard:=some (j,want) })) dj=some (rv undef):=by rfl) :
  Xd P n c Q os l0 H G t acc ({ dst:=dd,op:=op,type:=ty,pos:=pos,after:=af,guard:=some (j,want) }::rest):=TF (Cd hj hv) h
end
theorem re {id:Nat}{os:List Oper}{l0 l1:Fr}{ks0:List Nat}{t:Nat}{acc:List Rp}(ks:List Nat)(h:WK n c (Q .normal) l1 H)
  (hz:Kz ks os (UQ os acc.reverse) l0 l1:=by repeat (first | (apply AdV;rfl) | (apply AdX;rfl) | apply AdW | apply AdY | exact OB | (apply Mt;rfl) | (apply Nd;rfl)))
  (hm:P.follows .mixedOrders=true:=by kernel_rfl) (hB:okB n os os.length (E2 l0) (os.map Dj) (os.map λ_=>1)=true:=by kernel_rfl) (ht:t=os.length:=by rfl) :
  Xd P n c Q os l0 H (Kp ks0 l l0→WC P n c (.region id os.toArray true) Q l H) t acc []:=λ_ hl hob h0=>by
 have hlen:acc.length=os.length:=by omega
 have hsp:(UQ os acc.reverse).length=os.length:=Wj (by simpa using hlen.symm);have key:∀{os:List Oper} {rs:List Rp},os.length=rs.length→(UQ os rs).map (·.deps)=os.map Dj∧(UQ os rs).map (·.kd)=os.map λ_=>1:=by
  intro os
  induction os with
  | nil=>intro rs h;cases rs with
   | nil=>exact⟨rfl,rfl⟩
   | cons _ _=>simp at h
  | cons o os ih=>intro rs h;cases rs with
   | nil=>simp at h
   | cons r rs=>obtain⟨h1,h2⟩:=ih (rs:=rs) (by simpa using h);exact⟨by simp[UQ,h1],by simp[UQ,h2]⟩
 obtain⟨k1,k2⟩:=key (os:=os) (rs:=acc.reverse) (by simpa using hlen.symm);have hlt:∀(i:Nat) o,os[i]? =some o→∀j∈Dj o,j<i:=by
  have hB':=hB;unfold okB at hB';simp only[Agf] at hB';have h1:=hB'.1.1.1.1.1.1;intro i o ho j hj;have hi:=(List.getElem?_eq_some_iff.1 ho).1;have h2:=List.all_eq_true.1 h1 i (List.mem_range.2 hi);have e:os.getD i default=o:=by rw[Agh,ho];rfl
  rw[e] at h2;exact Agm (List.all_eq_true.1 h2 j hj)
 have hobl:∀(k:Nat) (rest:List Oper),rest=os.drop k→QY P n c os.toArray Q os (UQ os acc.reverse) l0 (List.replicate (os.length+1) H) k rest (List.replicate (rest.length+1) H):=by
  intro k rest
  induction rest generalizing k with
  | nil=>intro _;exact trivial
  | cons o rest ih=>
   intro hr;have ho:os[k]? =some o:=by have:=congrArg (·[0]?) hr;simp at this;exact this.symm
   have hk:=(List.getElem?_eq_some_iff.1 ho).1;have hrr:acc.reverse[k]? =some (acc.reverse[k]'(by simp;omega)):=Agi (by simp;omega);have hs:El (UQ os acc.reverse) k=⟨Dj o,acc.reverse[k]'(by simp;omega),1⟩:=by
    unfold El;rw[Agh,Vi ho hrr];rfl
   have ih:=ih (k+1) (by have:=congrArg List.tail hr;simpa using this);have hop:=hob k o _ ho hrr;rw[AaZ hlen (by omega) (hlt k o ho)] at hop;rw[Agd,List.replicate_succ,List.replicate_succ];refine⟨?_,by rw[← List.replicate_succ];exact ih⟩;rw[hs];exact⟨rfl,hop⟩
 refine If (l0:=l0) (l1:=l1) ks0 (UQ os acc.reverse) (List.replicate (os.length+1) H) ks (hobl 0 os (by simp)) h h0 hz hm (by rw[k1,k2];exact hB) hsp (by simp) (by simp[Agh,List.getElem?_replicate])
end
open Go
def NS (l:(List Int)):Option ((List Int)):=
 some l
def Lb (l:(List Int))(c:Int):Option (Unit×(List Int)):=
 Bs (NS l) λr1=>Bi (Dv 1 (r1.length+([c]:List Int).length))<|some ((),r1++([c]:List Int))
def IW (l:(List Int))(s:Aj):Option (Int×Unit×(List Int)):=
 Bs (NS l) λr1=>Bi (Dv 1 (r1.length+s.length))<|some ((s.length:Int),(),r1++D8 s)
def Q2 (l:Aj):Option (Aj):=
 Bi (decide (0<(D8 l).length))<|some l
def NR (l:(List Int)):Option ((List Int)):=
 some l
def La (l:(List Int))(c:Int):Option (Unit×(List Int)):=
 Bs (NR l) λr1=>Bi (Dv 1 (r1.length+([c]:List Int).length))<|some ((),r1++([c]:List Int))
def IV (l:(List Int))(s:Aj):Option (Int×Unit×(List Int)):=
 Bs (NR l) λr1=>Bi (Dv 1 (r1.length+s.length))<|some ((s.length:Int),(),r1++D8 s)
def Q1 (l:Aj):Option (Aj):=
 Bi (decide (0<(D8 l).length))<|some l
set_option maxRecDepth 100000
set_option maxHeartbeats 4000000
theorem Ov:∃inf,Tryz.prog.info? 5=some inf∧inf.zero=some (.int .u8 0)∧inf.size=1∧inf.bytes=1:=by
  have key:(Tryz.prog.info? 5).map (λi=>(i.zero,i.size,i.bytes))=some (some (.int .u8 0),1,1):=by kernel_rfl
  obtain⟨inf,h1,h2⟩:=Option.map_eq_some_iff.1 key;simp only[Prod.mk.injEq] at h2;exact⟨inf,h1,h2.1,h2.2.1,h2.2.2⟩
theorem Ur:∃j,Tryz.prog.info? 146=some j∧j.size≠0:=by
  have key:(Tryz.prog.info? 146).map (λi=>i.size)=some 2:=by kernel_rfl
  obtain⟨j,h1,h2⟩:=Option.map_eq_some_iff.1 key;exact⟨j,h1,by rw[h2];decide⟩
theorem Us:∃j,Tryz.prog.info? 146=some j:=Ur.imp λ_ h=>h.1
theorem UK (ha:Nat)(hb:Value)(l:(List Int))(r:(List Int))(h:NS l=some r):Fn Tryz.prog GE 174 [rP ha 0] [.blk ha [rv (.pointer none),rv hb] 146,.row hb 5 1 (A8 BY l)] (λR H=>∃w0:Value,R=rv (.tuple #[])∧H=[.blk ha [rP ha 0,rv w0] 146,.row w0 5 1 (A8 BY r)]):=by
 refine enter (n:=20) Tryz.func174 Aa Tryz.ntmps174 Aa (λw Z=>?_);unfold NS at h;refine Am (wm Aa (wv (AB Aa) (vF HB Aa To (vL 0 Gt Aa (wv (r:=rB true) (Aaj ⟨_,Tm⟩ Aa) (Ax (DG Aa Aa (Ap (wm Aa (wm Aa (wv (r:=rP ha 0) (TO (i:=0) Tm Tryz.underlying227 Ur Aa Aa Aa) (AJ (r:=rP ha 0) (Acw Tryz.func197 (by kernel_rfl) (by kernel_rfl) (by kernel_rfl) (by kernel_rfl) Aa) Aa (wv (r:=rP ha 0) (QJ (i:=0) Tryz.underlying227 Tm Us Aa Aa (by kernel_rfl)) (wv (AB Aa) (vF HB Aa To (us (i:=0) To Aa Aa (BA Aa) Aa Aa ?_))))))))))))))));refine Ar ?_;obtain rfl:=AA h;exact Ie (XB Tryz.results174) (sC (sC sN)) ⟨hb,Aa,Aa⟩
theorem QX (ha:Nat)(hb:Value)(l:(List Int))(c:Int)(r:Unit×(List Int))(h:Lb l c=some r):Fn Tryz.prog GE 144 [rP ha 0,rI .u8 c] [.blk ha [rv (.pointer none),rv hb] 146,.row hb 5 1 (A8 BY l)] (λR H=>∃w0:Value,R=rv (.nilIface)∧H=[.blk ha [rP ha 0,rv w0] 146,.row w0 5 1 (A8 BY r.2)]):=by
 refine enter (n:=17) Tryz.func144 Aa Tryz.ntmps144 Aa (λw Z=>?_);unfold Lb at h;refine Am (wa Aa (B3 (wm Aa (ob h λr1 e3 h2=>Du [0,0] Tryz.call174 (UK ha hb l r1 e3) ?_))));rintro _ _ ⟨v4,rfl,rfl⟩;refine B3 (wm Aa (wm Aa (wv (AB Aa) (vF HB Aa HC (vL 0 NW Aa (wm Aa (Bf (ys:=([c]:List Int)) (enc:=BY) (css:=[[rI .u8 c]]) (xs:=[.tmp 12]) EK ys5 yz5 Aa Aa Aa ⟨Em.one Aa (Up.refl _),trivial⟩ Aa Ei Aa Aa Aa (λb5=>?_))))))));refine ck h2 λg7 h8=>Exists.elim Ov λinf hinf=>Cc (xs:=r1) (ys:=([c]:List Int)) (enc:=BY) (i:=2) EK hinf.1 hinf.2.1 hinf.2.2.1 hinf.2.2.2 Aa Aa Aa Aa Aa (JD.w (i:=0) Aa Aa) Ei LB g7 Aa (λv6=>?_);refine wv (AB Aa) (vF HB Aa HC (us (i:=2) HC Aa Aa (CD (i:=0) Aa) Aa Aa ?_));refine B3 (wa Aa (Ax (A6 (Ja [2] ?_))));obtain rfl:=AA h8;exact A5 (Cp Tryz.results144 (AT Aa)) (sC (sC (sS sN))) ⟨v6,Aa,Aa⟩
theorem OF (ha:Nat)(hb:Value)(l:(List Int))(s:Aj)(r:Int×Unit×(List Int))(h:IW l s=some r):Fn Tryz.prog GE 142 [rP ha 0,rS s] [.blk ha [rv (.pointer none),rv hb] 146,.row hb 5 1 (A8 BY l)] (λR H=>∃w0:Value,R=Db [A4 r.1,rv (.nilIface)]∧H=[.blk ha [rP ha 0,rv w0] 146,.row w0 5 1 (A8 BY r.2.2)]):=by
 refine enter (n:=19) Tryz.func142 Aa Tryz.ntmps142 Aa (λw Z=>?_);unfold IW at h;refine Am (wa Aa (wa Aa (B3 (wm Aa (ob h λr1 e3 h2=>Du [0,0] Tryz.call174 (UK ha hb l r1 e3) ?_)))));rintro _ _ ⟨v4,rfl,rfl⟩;refine B3 (wm Aa (wm Aa (wv (AB Aa) (vF HB Aa HC (vL 0 NW Aa (wm Aa (ck h2 λg6 h7=>Exists.elim Ov λinf hinf=>HK (xs:=r1) (i:=1) EK CX hinf.1 hinf.2.1 hinf.2.2.1 hinf.2.2.2 Aa Aa Aa g6 Aa (λv5=>?_))))))));refine wv (AB Aa) (vF HB Aa HC (us (i:=1) HC Aa Aa (CD (i:=0) Aa) Aa Aa ?_));refine B3 (wm Aa (wv (BM CX Aa) (wa Aa (wa Aa (Ax (A6 (Ja [1] ?_)))))));obtain rfl:=AA h7;exact A5 (E4 Tryz.results142 (AT Aa) (AT Aa)) (sC (sC sN)) ⟨v5,Aa,Aa⟩
theorem VM (ha:Nat)(hb:Value)(l:Aj)(r:Aj)(h:Q2 l=some r):Fn Tryz.prog GE 111 [rP ha 0] [.blk ha [rv (.pointer none),rv hb] 146,.row hb 5 1 (A8 BY (D8 l))] (λR H=>R=rS r∧H=[]):=by
 refine enter (n:=14) Tryz.func111 Aa Tryz.ntmps111 Aa (λw Z=>?_);unfold Q2 at h;refine Am (wv (r:=rS ([]:Aj)) (AC Aa) (Ax (Aq (ck h λg1 h2=>If (H1:=[.blk ha [rv (.pointer none),rv hb] 146]) [0] [⟨[],rP ha 0,0⟩,⟨[0],rP ha 0,0⟩,⟨[1],rP ha 1,0⟩,⟨[2],rv hb,1⟩,⟨[3],rv (slp hb),1⟩,⟨[],rP ha 0,0⟩,⟨[5],rP ha 0,0⟩,⟨[6],rP ha 1,0⟩,⟨[7],rv hb,1⟩,⟨[8],A4 ((D8 l).length:Int),1⟩,⟨[4,9],rS l,2⟩,⟨[10],rS l,0⟩] (rle [(11,_),(2,[.blk ha [rv (.pointer none),rv hb] 146])]) [2] ?_ ?_))))
 ·refine oq (Ah Aa) (oq (AB Aa) (oq (Aw HB Aa HC Aa Aa) (of (AQ (i:=0) NW Aa Aa Aa) (of (Ol (i:=1) Aa Aa (OM g1)) (oq (Ah Aa) (oq (AB Aa) (oq (Aw HB Aa HC Aa Aa) (of (AQ (i:=0) NW Aa Aa Aa) (of (Ce (ys:=D8 l) (enc:=BY) (i:=1) EK Aa Aa) (KG Aa (AeN (Lc (i:=1) Tryz.underlying185 (by kernel_rfl) Aa Aa Aa (OM g1) Aa)) ?_))))))))));refine oq (AC Aa) ?_;exact HD
 refine AY (A6 ?_);obtain rfl:=AA h2;exact A5 (Cp Tryz.results111 (AT Aa)) (sS sN) ⟨Aa,Aa⟩
theorem UJ (ha:Nat)(hb:Value)(l:(List Int))(r:(List Int))(h:NR l=some r):Fn Tryz.prog GE 174 [rP ha 0] [.blk ha [rP ha 0,rv hb] 146,.row hb 5 1 (A8 BY l)] (λR H=>∃w0:Value,R=rv (.tuple #[])∧H=[.blk ha [rP ha 0,rv w0] 146,.row w0 5 1 (A8 BY r)]):=by
 refine enter (n:=20) Tryz.func174 Aa Tryz.ntmps174 Aa (λw Z=>?_);unfold NR at h;refine Am (wm Aa (wv (AB Aa) (vF HB Aa To (vL 0 Gt Aa (wv (r:=rB false) (AdM ⟨_,Tm⟩ Aa) (Ax (DA Aa Aa (Am (wm Aa (wv (AB Aa) (vF HB Aa To (vL 0 Gt Aa (wm Aa (wv (r:=rB false) (Vq Tm Us Aa Aa) (Ax (DA Aa Aa (A0 ?_)))))))))))))))));obtain rfl:=AA h;exact Ie (XB Tryz.results174) (sC (sC sN)) ⟨hb,Aa,Aa⟩
theorem QW (ha:Nat)(hb:Value)(l:(List Int))(c:Int)(r:Unit×(List Int))(h:La l c=some r):Fn Tryz.prog GE 144 [rP ha 0,rI .u8 c] [.blk ha [rP ha 0,rv hb] 146,.row hb 5 1 (A8 BY l)] (λR H=>∃w0:Value,R=rv (.nilIface)∧H=[.blk ha [rP ha 0,rv w0] 146,.row w0 5 1 (A8 BY r.2)]):=by
 refine enter (n:=17) Tryz.func144 Aa Tryz.ntmps144 Aa (λw Z=>?_);unfold La at h;refine Am (wa Aa (B3 (wm Aa (ob h λr1 e3 h2=>Du [0,0] Tryz.call174 (UJ ha hb l r1 e3) ?_))));rintro _ _ ⟨v4,rfl,rfl⟩;refine B3 (wm Aa (wm Aa (wv (AB Aa) (vF HB Aa HC (vL 0 NW Aa (wm Aa (Bf (ys:=([c]:List Int)) (enc:=BY) (css:=[[rI .u8 c]]) (xs:=[.tmp 12]) EK ys5 yz5 Aa Aa Aa ⟨Em.one Aa (Up.refl _),trivial⟩ Aa Ei Aa Aa Aa (λb5=>?_))))))));refine ck h2 λg7 h8=>Exists.elim Ov λinf hinf=>Cc (xs:=r1) (ys:=([c]:List Int)) (enc:=BY) (i:=2) EK hinf.1 hinf.2.1 hinf.2.2.1 hinf.2.2.2 Aa Aa Aa Aa Aa (JD.w (i:=0) Aa Aa) Ei LB g7 Aa (λv6=>?_);refine wv (AB Aa) (vF HB Aa HC (us (i:=2) HC Aa Aa (CD (i:=0) Aa) Aa Aa ?_));refine B3 (wa Aa (Ax (A6 (Ja [2] ?_))));obtain rfl:=AA h8;exact A5 (Cp Tryz.results144 (AT Aa)) (sC (sC (sS sN))) ⟨v6,Aa,Aa⟩
theorem OE (ha:Nat)(hb:Value)(l:(List Int))(s:Aj)(r:Int×Unit×(List Int))(h:IV l s=some r):Fn Tryz.prog GE 142 [rP ha 0,rS s] [.blk ha [rP ha 0,rv hb] 146,.row hb 5 1 (A8 BY l)] (λR H=>∃w0:Value,R=Db [A4 r.1,rv (.nilIface)]∧H=[.blk ha [rP ha 0,rv w0] 146,.row w0 5 1 (A8 BY r.2.2)]):=by
 refine enter (n:=19) Tryz.func142 Aa Tryz.ntmps142 Aa (λw Z=>?_);unfold IV at h;refine Am (wa Aa (wa Aa (B3 (wm Aa (ob h λr1 e3 h2=>Du [0,0] Tryz.call174 (UJ ha hb l r1 e3) ?_)))));rintro _ _ ⟨v4,rfl,rfl⟩;refine B3 (wm Aa (wm Aa (wv (AB Aa) (vF HB Aa HC (vL 0 NW Aa (wm Aa (ck h2 λg6 h7=>Exists.elim Ov λinf hinf=>HK (xs:=r1) (i:=1) EK CX hinf.1 hinf.2.1 hinf.2.2.1 hinf.2.2.2 Aa Aa Aa g6 Aa (λv5=>?_))))))));refine wv (AB Aa) (vF HB Aa HC (us (i:=1) HC Aa Aa (CD (i:=0) Aa) Aa Aa ?_));refine B3 (wm Aa (wv (BM CX Aa) (wa Aa (wa Aa (Ax (A6 (Ja [1] ?_)))))));obtain rfl:=AA h7;exact A5 (E4 Tryz.results142 (AT Aa) (AT Aa)) (sC (sC sN)) ⟨v5,Aa,Aa⟩
theorem VL (ha:Nat)(hb:Value)(l:Aj)(r:Aj)(h:Q1 l=some r):Fn Tryz.prog GE 111 [rP ha 0] [.blk ha [rP ha 0,rv hb] 146,.row hb 5 1 (A8 BY (D8 l))] (λR H=>R=rS r∧H=[]):=by
 refine enter (n:=14) Tryz.func111 Aa Tryz.ntmps111 Aa (λw Z=>?_);unfold Q1 at h;refine Am (wv (r:=rS ([]:Aj)) (AC Aa) (Ax (Aq (ck h λg1 h2=>If (H1:=[.blk ha [rP ha 0,rv hb] 146]) [0] [⟨[],rP ha 0,0⟩,⟨[0],rP ha 0,0⟩,⟨[1],rP ha 1,0⟩,⟨[2],rv hb,1⟩,⟨[3],rv (slp hb),1⟩,⟨[],rP ha 0,0⟩,⟨[5],rP ha 0,0⟩,⟨[6],rP ha 1,0⟩,⟨[7],rv hb,1⟩,⟨[8],A4 ((D8 l).length:Int),1⟩,⟨[4,9],rS l,2⟩,⟨[10],rS l,0⟩] (rle [(11,_),(2,[.blk ha [rP ha 0,rv hb] 146])]) [2] ?_ ?_))))
 ·refine oq (Ah Aa) (oq (AB Aa) (oq (Aw HB Aa HC Aa Aa) (of (AQ (i:=0) NW Aa Aa Aa) (of (Ol (i:=1) Aa Aa (OM g1)) (oq (Ah Aa) (oq (AB Aa) (oq (Aw HB Aa HC Aa Aa) (of (AQ (i:=0) NW Aa Aa Aa) (of (Ce (ys:=D8 l) (enc:=BY) (i:=1) EK Aa Aa) (KG Aa (AeN (Lc (i:=1) Tryz.underlying185 (by kernel_rfl) Aa Aa Aa (OM g1) Aa)) ?_))))))))));refine oq (AC Aa) ?_;exact HD
 refine AY (A6 ?_);obtain rfl:=AA h2;exact A5 (Cp Tryz.results111 (AT Aa)) (sS sN) ⟨Aa,Aa⟩
theorem CU (b:Nat)(v:Value)(l:Aj)(c:Int)(g1:Dv 1 (l.length+1)=true)(g2:Ch .u8 c=true):Fn Tryz.prog GE 144 [rP b 0,rI .u8 c] [.bld 146 5 b v l] (λR H=>∃w0:Value,R=rv .nilIface∧H=[.bld 146 5 b w0 (l++[UInt8.ofNat c.toNat])]):=by
  have hc:D8 (l++[UInt8.ofNat c.toNat])=D8 l++[c]:=by
    have:=(by simpa[Ch,IntKind.min,IntKind.max,IntKind.signed,IntKind.bits] using g2:0≤c∧c≤255)
    simp only[D8,AgS,AgO,List.map_nil]
    congr 2
    simp;omega
  refine Fn.bld (res:=rv .nilIface) λp hp=>?_;rw[hc];rcases hp with rfl | rfl
  · refine(QX b v (D8 l) c (((),D8 l++[c])) ?_).sub (I3.refl _) (λr H h=>by obtain⟨w0,h1,h2⟩:=h;exact⟨w0,h1,h2⟩)
    simp only[Lb,NS,Bs,Dn];simp[Bi,g1]
  · refine(QW b v (D8 l) c (((),D8 l++[c])) ?_).sub (I3.refl _) (λr H h=>by obtain⟨w0,h1,h2⟩:=h;exact⟨w0,h1,h2⟩)
    simp only[La,NR,Bs,Dn];simp[Bi,g1]
theorem IQ (b:Nat)(v:Value)(l s:Aj)(g1:Dv 1 (l.length+s.length)=true):Fn Tryz.prog GE 142 [rP b 0,rS s] [.bld 146 5 b v l] (λR H=>∃w0:Value,R=Db [A4 (s.length:Int),rv .nilIface]∧H=[.bld 146 5 b w0 (l++s)]):=by
  have hc:D8 (l++s)=D8 l++D8 s:=by simp[D8]
  refine Fn.bld (res:=Db [A4 (s.length:Int),rv .nilIface]) λp hp=>?_;rw[hc];rcases hp with rfl | rfl
  · refine(OF b v (D8 l) s (((s.length:Int),(),D8 l++D8 s)) ?_).sub (I3.refl _) (λr H h=>by obtain⟨w0,h1,h2⟩:=h;exact⟨w0,h1,h2⟩)
    simp only[IW,NS,Bs,Dn];simp[Bi,g1]
  · refine(OE b v (D8 l) s (((s.length:Int),(),D8 l++D8 s)) ?_).sub (I3.refl _) (λr H h=>by obtain⟨w0,h1,h2⟩:=h;exact⟨w0,h1,h2⟩)
    simp only[IV,NR,Bs,Dn];simp[Bi,g1]
theorem YK (b:Nat)(v:Value)(l:Aj)(g1:decide (0<l.length)=true):Fn Tryz.prog GE 111 [rP b 0] [.bld 146 5 b v l] (λR H=>R=rS l∧H=[]):=by
  refine Fn.bldS (res:=rS l) λp hp=>?_;rcases hp with rfl | rfl
  · exact VM b v l l (by simp only[Q2,Dn];simp[Bi,g1])
  · exact VL b v l l (by simp only[Q1,Dn];simp[Bi,g1])
end Go.Proofs.YtfobhhegpkinaaaGreatDoor.Q
namespace Go.Proofs.YtfobhhegpkinaaaGreatDoor
open Go
set_option linter.unusedVariables false
structure Ac where
 fKind:Int
 fInt:Int
 fStr:Aj
 fN:Int
 deriving DecidableEq,Inhabited
def XE (s:Aj)(ha:Int):Option (Stp (Int) (Out (Bool) (Unit))):=
 B0 (decide (ha<(s.length:Int))) (Bi (Da ha (s.length:Int))<|B0 (((decide ((BD s ha)<32))||(decide (126<(BD s ha))))) (some (.out (.ret false))) (Bi (Ch .i64 (ha+1))<|some (.next (ha+1)))) (some (.out (.go ())))
def XC :Option (Bool):=
 some true
def S7 (F:Nat)(s:Aj):Option (Bool):=
 Bs (Cj (λσ=>XE s σ) F 0) (BQ λν=>XC )
def Dz (ok:Bool)(i:Int):Option (Int):=
 B0 (ok) (Bi (Ch .i64 (i+1))<|some (i+1)) (some (-1))
def ZK (F:Nat)(c:Ac):Option (Bool):=
 Bi (imp (decide (c.fKind=4)) (imp (decide (c.fInt=0)) (imp (decide (c.fN=0)) ((S7 F c.fStr).isSome))))<|some ((decide (c.fKind=4))&&((decide (c.fInt=0))&&((decide (c.fN=0))&&(ov (S7 F c.fStr)))))
def ZI (F:Nat)(ha:(List Ac)→Int→Int→Option (Int))(hb:(List Ac)→Int→Int→Option (Int))(v:(List Ac))(i:Int):Option (Int):=
 B0 (((decide (i<0))||(decide ((v.length:Int)≤i)))) (some (-1)) (Bi (Da i (v.length:Int))<|B0 (decide (((Al v i).fKind)=1)) (Bi (imp (decide (((Al v i).fInt)=0)) (imp (decide (((Al v i).fStr)=([]:Aj))) ((Dz (decide (((Al v i).fN)=0)) i).isSome)))<|Bi (imp (decide (((Al v i).fInt)=0)) (imp (!(decide (((Al v i).fStr)=([]:Aj)))) ((Dz false i).isSome)))<|Bi (imp (!(decide (((Al v i).fInt)=0))) ((Dz false i).isSome))<|some (bif decide (((Al v i).fInt)=0) then(bif decide (((Al v i).fStr)=([]:Aj)) then(ov (Dz (decide (((Al v i).fN)=0)) i)) else(ov (Dz false i))) else(ov (Dz false i)))) (B0 (decide (((Al v i).fKind)=2)) (Bi (imp (decide (((Al v i).fInt)=0)) (imp (decide (((Al v i).fStr)=([]:Aj))) ((Dz (decide (((Al v i).fN)=0)) i).isSome)))<|Bi (imp (decide (((Al v i).fInt)=0)) (imp (!(decide (((Al v i).fStr)=([]:Aj)))) ((Dz false i).isSome)))<|Bi (imp (!(decide (((Al v i).fInt)=0))) (imp (decide (((Al v i).fInt)=1)) (imp (decide (((Al v i).fStr)=([]:Aj))) ((Dz (decide (((Al v i).fN)=0)) i).isSome))))<|Bi (imp (!(decide (((Al v i).fInt)=0))) (imp (decide (((Al v i).fInt)=1)) (imp (!(decide (((Al v i).fStr)=([]:Aj)))) ((Dz false i).isSome))))<|Bi (imp (!(decide (((Al v i).fInt)=0))) (imp (!(decide (((Al v i).fInt)=1))) ((Dz false i).isSome)))<|some (bif decide (((Al v i).fInt)=0) then(bif decide (((Al v i).fStr)=([]:Aj)) then(ov (Dz (decide (((Al v i).fN)=0)) i)) else(ov (Dz false i))) else(bif decide (((Al v i).fInt)=1) then(bif decide (((Al v i).fStr)=([]:Aj)) then(ov (Dz (decide (((Al v i).fN)=0)) i)) else(ov (Dz false i))) else(ov (Dz false i))))) (B0 (decide (((Al v i).fKind)=3)) (Bi (imp (decide (((Al v i).fStr)=([]:Aj))) ((Dz (decide (((Al v i).fN)=0)) i).isSome))<|Bi (imp (!(decide (((Al v i).fStr)=([]:Aj)))) ((Dz false i).isSome))<|some (bif decide (((Al v i).fStr)=([]:Aj)) then(ov (Dz (decide (((Al v i).fN)=0)) i)) else(ov (Dz false i)))) (B0 (decide (((Al v i).fKind)=4)) (Bs (ZK F (Al v i)) λhd=>Bs (Dz hd i) λhe=>some he) (B0 (((decide (((Al v i).fKind)=5))&&((decide (((Al v i).fInt)=0))&&((decide (((Al v i).fStr)=([]:Aj)))&&(decide (0≤((Al v i).fN))))))) (Bi (Ch .i64 (i+1))<|Bs (ha v (i+1) ((Al v i).fN)) λhf=>some hf) (B0 (((decide (((Al v i).fKind)=6))&&((decide (((Al v i).fInt)=0))&&((decide (((Al v i).fStr)=([]:Aj)))&&(decide (0≤((Al v i).fN))))))) (Bi (Ch .i64 (i+1))<|Bs (hb v (i+1) ((Al v i).fN)) λhg=>some hg) (some (-1))))))))
def E5 (v:(List Ac))(n:Int)(he:(List Ac)→Int→Option (Int))(hb:Int)(ha:Int):Option (Stp (Int×Int) (Out (Int) (Int))):=
 B0 (decide (ha<n)) (Bs (he v hb) λhd=>B0 (decide (hd<0)) (some (.out (.ret (-1)))) (Bi (Ch .i64 (ha+1))<|some (.next (hd,ha+1)))) (some (.out (.go hb)))
def JM (ha:Int):Option (Int):=
 some ha
def P7 (F:Nat)(ha:(List Ac)→Int→Option (Int))(v:(List Ac))(i:Int)(n:Int):Option (Int):=
 Bs (Cj (λσ=>E5 v n ha σ.1 σ.2) F (i,0)) (BQ λν=>JM ν)
def Gv (F:Nat)(v:(List Ac))(n:Int)(hf:(List Ac)→Int→Option (Int))(ha:Int)(hd:Aj)(hb:Int):Option (Stp (Int×Aj×Int) (Out (Int) (Int))):=
 B0 (decide (hb<n)) (Bi (imp (!(decide ((v.length:Int)≤ha))) (Da ha (v.length:Int)))<|Bi (imp (!(decide ((v.length:Int)≤ha))) ((ZK F (Al v ha)).isSome))<|B0 (((decide ((v.length:Int)≤ha))||((!(ov (ZK F (Al v ha))))||((decide (0<hb))&&(C9 ((Al v ha).fStr) hd||decide (((Al v ha).fStr)=hd)))))) (some (.out (.ret (-1)))) (Bi (Da ha (v.length:Int))<|Bi (Ch .i64 (ha+1))<|Bs (hf v (ha+1)) λhe=>B0 (decide (he<0)) (some (.out (.ret (-1)))) (Bi (Ch .i64 (hb+1))<|some (.next (he,(Al v ha).fStr,hb+1))))) (some (.out (.go ha)))
def N3 (ha:Int):Option (Int):=
 some ha
def Wp (F:Nat)(ha:(List Ac)→Int→Option (Int))(v:(List Ac))(i:Int)(n:Int):Option (Int):=
 Bs (Cj (λσ=>Gv F v n ha σ.1 σ.2.1 σ.2.2) F (i,([]:Aj),0)) (BQ λν=>N3 ν)
mutual
def Ru:Nat→(List Ac)→Int→Option (Int)
 | 0,_,_=>none
 | nn+1,v,i=>ZI nn (Rv nn) (ZH nn) v i
def Rv:Nat→(List Ac)→Int→Int→Option (Int)
 | 0,_,_,_=>none
 | nn+1,v,i,n=>P7 nn (Ru nn) v i n
def ZH:Nat→(List Ac)→Int→Int→Option (Int)
 | 0,_,_,_=>none
 | nn+1,v,i,n=>Wp nn (Ru nn) v i n
end
end Go.Proofs.YtfobhhegpkinaaaGreatDoor
namespace Go.Proofs.YtfobhhegpkinaaaGreatDoor.Q
open Go Go.RowKit
set_option linter.unusedVariables false
set_option linter.unusedSimpArgs false
set_option maxRecDepth 100000
set_option maxHeartbeats 4000000
@[reducible] def Af (x:Ac):List Rp:=[A4 x.fKind,A4 x.fInt,rS x.fStr,A4 x.fN]
theorem BC (x:Ac):(Af x).length=4:=rfl
theorem Dh (x:Ac):(Af x).all (·.one)=true:=rfl
end Go.Proofs.YtfobhhegpkinaaaGreatDoor.Q
namespace Go.Proofs.YtfobhhegpkinaaaGreatDoor
open Go
set_option linter.unusedVariables false
structure AN where
 fPairs:Bool
 fLeft:Int
 fKey:Bool
 fLast:Aj
 fStarted:Bool
 deriving DecidableEq,Inhabited
structure AW where
 fDepth:Int
 fBytes:Int
 fOutside:Bool
 fLong:Bool
 deriving DecidableEq,Inhabited
def Cy (n:Int):Option (Bool):=
 some ((decide ((-1000000000000)≤n))&&(decide (n≤1000000000000)))
def Jd (s:Aj)(ha:Int):Option (Stp (Int) (Out (Bool) (Unit))):=
 B0 (decide (ha<(s.length:Int))) (Bi (Da ha (s.length:Int))<|B0 (((decide ((BD s ha)<32))||(decide (126<(BD s ha))))) (some (.out (.ret false))) (Bi (Ch .i64 (ha+1))<|some (.next (ha+1)))) (some (.out (.go ())))
def Jc :Option (Bool):=
 some true
def MB (F:Nat)(s:Aj):Option (Bool):=
 Bs (Cj (λσ=>Jd s σ) F 0) (BQ λν=>Jc )
def Lo (s:Aj):Option (Int):=
 Bi (Ch .i64 ((s.length:Int)+2))<|Bi (Ch .i64 (((s.length:Int)+2)+(Lib.countByte s 34:Int)))<|Bi (Ch .i64 ((((s.length:Int)+2)+(Lib.countByte s 34:Int))+(Lib.countByte s 92:Int)))<|some ((((s.length:Int)+2)+(Lib.countByte s 34:Int))+(Lib.countByte s 92:Int))
def Pv (F:Nat)(c:Ac):Option (Bool):=
 B0 (decide (c.fKind=1)) (some ((decide (c.fInt=0))&&((decide (c.fStr=([]:Aj)))&&(decide (c.fN=0))))) (B0 (decide (c.fKind=2)) (some (bif decide (c.fInt=0) then((decide (c.fStr=([]:Aj)))&&(decide (c.fN=0))) else((decide (c.fInt=1))&&((decide (c.fStr=([]:Aj)))&&(decide (c.fN=0)))))) (B0 (decide (c.fKind=3)) (some ((decide (c.fStr=([]:Aj)))&&(decide (c.fN=0)))) (B0 (decide (c.fKind=4)) (Bi (imp (decide (c.fInt=0)) (imp (decide (c.fN=0)) ((MB F c.fStr).isSome)))<|some ((decide (c.fInt=0))&&((decide (c.fN=0))&&(ov (MB F c.fStr))))) (B0 (decide (c.fKind=5)) (some ((decide (c.fInt=0))&&((decide (c.fStr=([]:Aj)))&&(decide (0≤c.fN))))) (B0 (decide (c.fKind=6)) (some ((decide (c.fInt=0))&&((decide (c.fStr=([]:Aj)))&&(decide (0≤c.fN))))) (some false))))))
def Tw (c:Ac):Option (Int):=
 B0 (decide (c.fKind=1)) (some 4) (B0 (decide (c.fKind=2)) (some (IntKind.wrap .i64 (5-c.fInt))) (B0 (decide (c.fKind=3)) (Bi (Ch .i64 c.fInt)<|some ((Lib.itoa c.fInt).length:Int)) (B0 (decide (c.fKind=4)) (Bs (Lo c.fStr) λha=>some ha) (some (IntKind.wrap .i64 (2+(max 0 (IntKind.wrap .i64 (c.fN-1)))))))))
def Es (ha:(List AN)):Option (Stp ((List AN)) (Out ((List AN)) ((List AN)))):=
 B0 (decide (0<(ha.length:Int))) (Bi (Ch .i64 ((ha.length:Int)-1))<|Bi (Da ((ha.length:Int)-1) (ha.length:Int))<|Bi (Ch .i64 (((Al ha ((ha.length:Int)-1)).fLeft)-1))<|LL (List.set ha (Int.toNat ((ha.length:Int)-1)) (AN.mk ((Al ha ((ha.length:Int)-1)).fPairs) (((Al ha ((ha.length:Int)-1)).fLeft)-1) ((Al ha ((ha.length:Int)-1)).fKey) ((Al ha ((ha.length:Int)-1)).fLast) ((Al ha ((ha.length:Int)-1)).fStarted))) λhb=>B0 (decide (0<((Al hb ((ha.length:Int)-1)).fLeft))) (LL (List.set hb (Int.toNat ((ha.length:Int)-1)) (AN.mk ((Al hb ((ha.length:Int)-1)).fPairs) ((Al hb ((ha.length:Int)-1)).fLeft) ((Al hb ((ha.length:Int)-1)).fPairs) ((Al hb ((ha.length:Int)-1)).fLast) ((Al hb ((ha.length:Int)-1)).fStarted))) λhd=>some (.out (.ret hd))) (Bi (Ch .i64 ((hb.length:Int)-1))<|Bi (G8 ((hb.length:Int)-1) (hb.length:Int))<|some (.next (List.take (Int.toNat ((hb.length:Int)-1)) hb)))) (some (.out (.go ha)))
def Ge (ha:(List AN)):Option ((List AN)):=
 some ha
def MF (F:Nat)(stack:(List AN)):Option ((List AN)):=
 Bs (Cj (λσ=>Es σ) F stack) (BQ λν=>Ge ν)
def EO (ha:Int)(hb:(List AN))(hd:AW):Option (Stp ((List AN)×Int×AW) (Out (Int×AW×Bool) (AW))):=
 Bi (Ch .i64 (ha+1))<|some (.next (hb,ha+1,hd))
def Er (F:Nat)(v:(List Ac))(ha:(List AN))(hb:Int)(hd:AW):Option (Stp ((List AN)×Int×AW) (Out (Int×AW×Bool) (AW))):=
 B0 (decide (hb<(v.length:Int))) (Bi (Da hb (v.length:Int))<|Bs (Pv F (Al v hb)) λhj=>B0 (!hj) (some (.out (.ret (0,hd,false)))) (Bi (imp (decide (0<(ha.length:Int))) (Ch .i64 ((ha.length:Int)-1)))<|Bi (imp (decide (0<(ha.length:Int))) (Da ((ha.length:Int)-1) (ha.length:Int)))<|B0 (((decide (0<(ha.length:Int)))&&((Al ha ((ha.length:Int)-1)).fKey))) (Bi (Ch .i64 ((ha.length:Int)-1))<|Bi (Da ((ha.length:Int)-1) (ha.length:Int))<|B0 (((!decide (((Al v hb).fKind)=4))||(((Al ha ((ha.length:Int)-1)).fStarted)&&(C9 ((Al v hb).fStr) ((Al ha ((ha.length:Int)-1)).fLast)||decide (((Al v hb).fStr)=((Al ha ((ha.length:Int)-1)).fLast)))))) (some (.out (.ret (0,hd,false)))) (LL (List.set ha (Int.toNat ((ha.length:Int)-1)) (AN.mk ((Al ha ((ha.length:Int)-1)).fPairs) ((Al ha ((ha.length:Int)-1)).fLeft) ((Al ha ((ha.length:Int)-1)).fKey) ((Al v hb).fStr) ((Al ha ((ha.length:Int)-1)).fStarted))) λhe=>LL (List.set he (Int.toNat ((ha.length:Int)-1)) (AN.mk ((Al he ((ha.length:Int)-1)).fPairs) ((Al he ((ha.length:Int)-1)).fLeft) ((Al he ((ha.length:Int)-1)).fKey) ((Al he ((ha.length:Int)-1)).fLast) true)) λhf=>LL (List.set hf (Int.toNat ((ha.length:Int)-1)) (AN.mk ((Al hf ((ha.length:Int)-1)).fPairs) ((Al hf ((ha.length:Int)-1)).fLeft) false ((Al hf ((ha.length:Int)-1)).fLast) ((Al hf ((ha.length:Int)-1)).fStarted))) λhk=>Bs (Lo ((Al v hb).fStr)) λhh=>Bi (Ch .i64 (hh+1))<|EO hb hk (AW.mk hd.fDepth (IntKind.wrap .i64 (hd.fBytes+(hh+1))) hd.fOutside (hd.fLong||(decide (200<(((Al v hb).fStr).length:Int))))))) (Bi (Ch .i64 ((ha.length:Int)+1))<|Bs (Tw (Al v hb)) λhg=>Bi (imp (!hd.fOutside) (imp (decide (((Al v hb).fKind)=3)) ((Cy ((Al v hb).fInt)).isSome)))<|B0 (decide (0<((Al v hb).fN))) (B0 (decide ((v.length:Int)<((Al v hb).fN))) (some (.out (.ret (0,(AW.mk (max hd.fDepth ((ha.length:Int)+1)) (IntKind.wrap .i64 (hd.fBytes+hg)) (hd.fOutside||((decide (((Al v hb).fKind)=3))&&(!(ov (Cy ((Al v hb).fInt)))))) (hd.fLong||(decide (200<(((Al v hb).fStr).length:Int))))),false)))) (Bi (Dv 48 (ha.length+([(AN.mk (decide (((Al v hb).fKind)=6)) ((Al v hb).fN) (decide (((Al v hb).fKind)=6)) ([]:Aj) false)]:List AN).length))<|EO hb (ha++([(AN.mk (decide (((Al v hb).fKind)=6)) ((Al v hb).fN) (decide (((Al v hb).fKind)=6)) ([]:Aj) false)]:List AN)) (AW.mk (max hd.fDepth ((ha.length:Int)+1)) (IntKind.wrap .i64 (hd.fBytes+hg)) (hd.fOutside||((decide (((Al v hb).fKind)=3))&&(!(ov (Cy ((Al v hb).fInt)))))) (hd.fLong||(decide (200<(((Al v hb).fStr).length:Int))))))) (Bs (MF F ha) λhi=>B0 (decide ((hi.length:Int)=0)) (Bi (Ch .i64 (hb+1))<|some (.out (.ret (hb+1,(AW.mk (max hd.fDepth ((ha.length:Int)+1)) (IntKind.wrap .i64 (hd.fBytes+hg)) (hd.fOutside||((decide (((Al v hb).fKind)=3))&&(!(ov (Cy ((Al v hb).fInt)))))) (hd.fLong||(decide (200<(((Al v hb).fStr).length:Int))))),true)))) (EO hb hi (AW.mk (max hd.fDepth ((ha.length:Int)+1)) (IntKind.wrap .i64 (hd.fBytes+hg)) (hd.fOutside||((decide (((Al v hb).fKind)=3))&&(!(ov (Cy ((Al v hb).fInt)))))) (hd.fLong||(decide (200<(((Al v hb).fStr).length:Int)))))))))) (some (.out (.go hd)))
def MD (ha:AW):Option (Int×AW×Bool):=
 some (0,ha,false)
def Km (F:Nat)(v:(List Ac)):Option (Int×AW×Bool):=
 Bs (Cj (λσ=>Er F v σ.1 σ.2.1 σ.2.2) F (([]:List AN),0,(AW.mk 0 0 false false))) (BQ λν=>MD ν)
def JJ (F:Nat)(v:(List Ac)):Option (Int):=
 Bs (Km F v) λr1=>B0 (((!r1.2.2)||(!decide (r1.1=(v.length:Int))))) (some 1) (B0 (r1.2.1.fOutside) (some 2) (B0 ((r1.2.1.fLong||((decide (200<(v.length:Int)))||((decide (8<r1.2.1.fDepth))||(decide (4000<r1.2.1.fBytes)))))) (some 3) (some 0)))
def MG (F:Nat)(v:(List Ac)):Option ((List Ac)×Int):=
 Bs (JJ F v) λr1=>B0 (!decide (r1=0)) (some (([]:List Ac),r1)) (some (v,0))
end Go.Proofs.YtfobhhegpkinaaaGreatDoor
namespace Go.Proofs.YtfobhhegpkinaaaGreatDoor.Q
open Go Go.RowKit
set_option linter.unusedVariables false
set_option linter.unusedSimpArgs false
set_option maxRecDepth 100000
set_option maxHeartbeats 4000000
@[reducible] def AR (x:AN):List Rp:=[rB x.fPairs,A4 x.fLeft,rB x.fKey,rS x.fLast,rB x.fStarted]
theorem Kq (x:AN):(AR x).length=5:=rfl
theorem OD (x:AN):(AR x).all (·.one)=true:=rfl
@[reducible] def Bo (x:AW):List Rp:=[A4 x.fDepth,A4 x.fBytes,rB x.fOutside,rB x.fLong]
theorem AcJ:∃inf,Tryz.prog.info? 152=some inf∧inf.zero=some (.agg #[(.bool false),(.int .i64 0),(.bool false),(.string ⟨#[]⟩),(.bool false)])∧inf.size=5∧inf.bytes=48:=by
  have key:(Tryz.prog.info? 152).map (λi=>(i.zero,i.size,i.bytes))=some (some (.agg #[(.bool false),(.int .i64 0),(.bool false),(.string ⟨#[]⟩),(.bool false)]),5,48):=by kernel_rfl
  obtain⟨inf,h1,h2⟩:=Option.map_eq_some_iff.1 key;simp only[Prod.mk.injEq] at h2;exact⟨inf,h1,h2.1,h2.2.1,h2.2.2⟩
theorem Ab6 (parts:List (Nat×Value)):Tryz.prog.built 152 parts=Instr.fill (λi=>(#[(0,1),(1,1),(2,1),(3,1),(4,1)]:Array (Nat×Nat))[i]?) #[(.bool false),(.int .i64 0),(.bool false),(.string ⟨#[]⟩),(.bool false)] parts:=by kernel_rfl
theorem N8 {n:Nat}{c:Cx}{l:Fr}{H:List Ent}{d:Option Nat}{ty:TypeId}{pos:String}{af:Array Edge}{g:Option (Nat×Bool)}{x0:Operand}{r0:Rp}(h0:ev l x0=some r0)(u0:r0.one=true){x1:Operand}{r1:Rp}(h1:ev l x1=some r1)(u1:r1.one=true){x2:Operand}{r2:Rp}(h2:ev l x2=some r2)(u2:r2.one=true):B1 Tryz.prog n c l H { dst:=d,op:=.build 152 #[(0,x0),(1,x1),(2,x2)],type:=ty,pos:=pos,after:=af,guard:=g } (BW [r0,r1,r2,rS ([]:Aj),rB false]):=λa w Z ha _=>by
  have p0:=ha.ev h0;have c0:=B7 (r0.hone u0 Z _ p0);have p1:=ha.ev h1;have c1:=B7 (r1.hone u1 Z _ p1);have p2:=ha.ev h2;have c2:=B7 (r2.hone u2 Z _ p2);have hb:Tryz.prog.built 152 [(0,a.eval x0),(1,a.eval x1),(2,a.eval x2)]=some #[a.eval x0,a.eval x1,a.eval x2,(.string ⟨#[]⟩),(.bool false)]:=by
    rw[Ab6];generalize a.eval x0=v0 at *;generalize a.eval x1=v1 at *;generalize a.eval x2=v2 at *;simp[Instr.fill,c0,c1,c2]
  refine⟨.agg #[a.eval x0,a.eval x1,a.eval x2,(.string ⟨#[]⟩),(.bool false)],⟨[a.eval x0,a.eval x1,a.eval x2,(.string ⟨#[]⟩),(.bool false)],rfl,p0,p1,p2,rfl,rfl,trivial⟩,?_⟩;have:=run_build w 152 #[(0,a.eval x0),(1,a.eval x1),(2,a.eval x2)] _ (by simpa using hb);simp[execOp,this]
theorem Aaw (n:Int)(r:Bool)(h:Cy n=some r):Fn Tryz.prog GE 117 [A4 n] [] (λR H=>R=rB r∧H=[]):=by
 refine enter (n:=9) Tryz.func117 Aa Tryz.ntmps117 Aa (λw Z=>?_);unfold Cy at h;refine Am (wa Aa (Ax (AV [(2,rB ((decide ((-1000000000000)≤n))&&(decide (n≤1000000000000))))] [] ?_ ?_)))
 ·refine Ap (wm Aa (wv (O8 Aa Aa) (wm Aa (AZ (decide ((-1000000000000)≤n)) (λc1=>?_) (λc1=>?_)))))
  ·refine wo c1 (wm Aa (wo c1 (wv (O8 Aa Aa) (GC Aa c1 Aa (wa Aa (Ar ?_))))));exact C8 c1
  refine wf c1 (wf c1 (wv (r:=rB false) (Ay Aa c1 Aa) (wa Aa (Ar ?_))));exact C8 c1
 refine A6 ?_;obtain rfl:=AA h;exact A5 (Cp Tryz.results117 (AT Aa)) sN ⟨Aa,Aa⟩
theorem AbX (F:Nat)(s:Aj)(r:Bool)(h:MB F s=some r):Fn Tryz.prog GE 150 [rS s] [] (λR H=>R=rB r∧H=[]):=by
 refine enter (n:=20) Tryz.func150 Aa Tryz.ntmps150 Aa (λw Z=>?_);unfold MB at h;refine Am (wa Aa (Ax (Aq (Am (wm Aa (wv (BM CX Aa) (wv (r:=A4 0) (Ah Aa) (Ax (AO (ob h λhi hj hg=>B5 (S:=Nat×(Int)×(Unit)) (V:=(Unit)×(Unit)) 0 (λσ=>Cj (λσ=>Jd s σ) σ.1 σ.2.1=some hi) (λσ=>[(0,rS s),(5,A4 (s.length:Int)),(6,A4 σ.2.1)]) (λσ=>[]) (λσ=>σ.1) (F,0,()) hj (AI.c Aa (AI.c Aa (AI.c Aa AI.nil))) sN (λσ=>Jc =some r) (λσ=>[]) (λσ=>[]) ?_ ?_))))))))))
 ·rintro⟨hz,hb,⟨⟩⟩ hk;refine EL ?_;obtain⟨hl,rfl,t37,hd,hf⟩:=CM hk;replace hd:Jd s hb=some t37:=hd;unfold Jd at hd;refine Am (wv (De Aa Aa) (Ax (Aq (cz hd Aa (λhm hn=>?_) (λhm ho=>?_)))))
  ·refine A0 (AY (Aq (AO (Am (wm Aa (wa Aa (Ax (ck hn λhh hp=>AV [(0,rS s),(5,A4 (s.length:Int)),(6,A4 hb),(18,rB ((decide ((BD s hb)<32))||(decide (126<(BD s hb)))))] [] ?_ ?_))))))))
   ·refine Ap (wm Aa (wm Aa (wv (BF CX Aa Aa hh) (wv (De Aa Aa) (wm Aa (AZ (decide ((BD s hb)<32)) (λha=>?_) (λha=>?_)))))))
    ·refine wf ha (wf ha (wf ha (wf ha (wv (r:=rB true) (A3 Aa ha Aa) (Ar ?_)))));exact C8 ha
    refine wo ha (wm Aa (wo ha (wm Aa (wo ha (wv (BF CX Aa Aa hh) (wo ha (wv (Ec Aa Aa) (GO Aa ha Aa (Ar ?_)))))))));exact C8 ha
   refine cz hp Aa (λhq hr=>?_) (λhq hs=>?_)
   ·refine Am (wa Aa (Ax (A6 (A7 (Ae (Ae (Bc ?_)))))));have ht:=B4 hr hf hg;refine A7 (Ae ?_);obtain rfl:=AA ht;exact A5 (Cp Tryz.results150 (AT Aa)) sN ⟨Aa,Aa⟩
   refine A0 (AK (AY (Ap (ck hs λhu hw=>wv (BU Aa Aa hu) (wm Aa (Ar ?_))))));have hx:=B8 hw hf;exact A1 (AG (hl,hb+1,()) ⟨hx,Ago _⟩ (AI.c Aa (AI.c Aa (AI.c Aa AI.nil))) sN)
  refine B9 (A9 ?_);have hy:=Co ho hf hg;exact A9 (Bj (AG ((),()) hy AI.nil sN))
 rintro⟨⟨⟩,⟨⟩⟩ he;refine IY ?_;replace he:Jc =some r:=he;unfold Jc at he;refine Bm (AY (Am (wa Aa (Ax (A6 ?_)))));obtain rfl:=AA he;exact A5 (Cp Tryz.results150 (AT Aa)) sN ⟨Aa,Aa⟩
theorem Rd (s:Aj)(r:Int)(h:Lo s=some r):Fn Tryz.prog GE 115 [rS s] [] (λR H=>R=A4 r∧H=[]):=by
 refine enter (n:=12) Tryz.func115 Aa Tryz.ntmps115 Aa (λw Z=>?_);unfold Lo at h;refine Am (wa Aa (B3 (wm Aa (wv (BM CX Aa) (ck h λg1 h2=>wv (BU Aa Aa g1) (wm Aa (Dr (rs:=[rS s,rS ([34]:Aj)]) (r:=A4 (Lib.countByte s 34:Int)) Tryz.call151 Aa (WX s 34) Aa Aa (ck h2 λg3 h4=>wv (BU Aa Aa g3) (wm Aa (Dr (rs:=[rS s,rS ([92]:Aj)]) (r:=A4 (Lib.countByte s 92:Int)) Tryz.call151 Aa (WX s 92) Aa Aa (ck h4 λg5 h6=>wv (BU Aa Aa g5) (wa Aa (Ax (A6 ?_))))))))))))));obtain rfl:=AA h6;exact A5 (Cp Tryz.results115 (AT Aa)) sN ⟨Aa,Aa⟩
theorem Zx (F:Nat)(c:Ac)(r:Bool)(h:Pv F c=some r):Fn Tryz.prog GE 114 [BW (Af c)] [] (λR H=>R=rB r∧H=[]):=by
 refine enter (n:=81) Tryz.func114 Aa Tryz.ntmps114 Aa (λw Z=>?_);unfold Pv at h;refine Am (CT Aa Aa (λb1=>?_));refine wa Aa (Ax (Aq (Am (vF CY Aa LH (vL 0 LI Aa (Ax (AO (Am (wv (BT Aa Aa) (wa Aa (Ax (cz h Aa (λc2 h3=>?_) (λc2 h6=>?_)))))))))))))
 ·refine AV [(2,rB ((decide (c.fInt=0))&&((decide (c.fStr=([]:Aj)))&&(decide (c.fN=0)))))] [] ?_ ?_
  ·refine Ap (vF CY Aa C2 (vL 0 CO Aa (wv (BT Aa Aa) (wm Aa (AZ (decide (c.fInt=0)) (λc4=>?_) (λc4=>?_))))))
   ·refine wo c4 (vF CY Aa BS (wo c4 (vL 0 Cf Aa (wo c4 (wv (Jq Aa Aa) (GC Aa c4 Aa (wm Aa (AZ (decide (c.fStr=([]:Aj))) (λc5=>?_) (λc5=>?_)))))))))
    ·refine wo c5 (vF CY Aa C2 (wo c5 (vL 0 CO Aa (wo c5 (wv (BT Aa Aa) (GC Aa c5 Aa (wa Aa (Ar ?_))))))));exact C8 (And.intro c4 c5)
    refine wf c5 (wf c5 (wf c5 (wv (r:=rB false) (Ay Aa c5 Aa) (wa Aa (Ar ?_)))));exact C8 (And.intro c4 c5)
   refine wf c4 (wf c4 (wf c4 (wv (r:=rB false) (Ay Aa c4 Aa) (wm Aa (wz Aa Aa (wz Aa Aa (wz Aa Aa (wv (r:=rB false) (Ay (b:=false) Aa Aa Aa) (wa Aa (Ar ?_))))))))));exact C8 c4
  refine A6 (A7 (Ae ?_));obtain rfl:=AA h3;exact A5 (Cp Pe (AT Aa)) sN ⟨Aa,Aa⟩
 refine Am (wv (BT Aa Aa) (wa Aa (Ax (cz h6 Aa (λc7 h8=>?_) (λc7 hm=>?_)))))
 ·refine AV [(2,rB (bif decide (c.fInt=0) then((decide (c.fStr=([]:Aj)))&&(decide (c.fN=0))) else((decide (c.fInt=1))&&((decide (c.fStr=([]:Aj)))&&(decide (c.fN=0))))))] [] ?_ ?_
  ·refine Ap (vF CY Aa C2 (vL 0 CO Aa (wv (BT Aa Aa) (wm Aa (AZ (decide (c.fInt=0)) (λc9=>?_) (λc9=>?_))))))
   ·refine wf c9 (wf c9 (wf c9 (wv (r:=rB true) (A3 Aa c9 Aa) (wm Aa (AM (b:=true) Aa Aa Aa (vF CY Aa BS (AM (b:=true) Aa Aa Aa (vL 0 Cf Aa (AM (b:=true) Aa Aa Aa (wv (Jq Aa Aa) (wv (r:=rB (decide (c.fStr=([]:Aj)))) (A3 (b:=true) Aa Aa Aa) (wm Aa (AZ (decide (c.fStr=([]:Aj))) (λhg=>?_) (λhg=>?_))))))))))))))
    ·refine wo hg (vF CY Aa C2 (wo hg (vL 0 CO Aa (wo hg (wv (BT Aa Aa) (GC Aa hg Aa (wa Aa (Ar ?_))))))));exact C8 (And.intro c9 hg)
    refine wf hg (wf hg (wf hg (wv (r:=rB false) (Ay Aa hg Aa) (wa Aa (Ar ?_)))));exact C8 (And.intro c9 hg)
   refine wo c9 (vF CY Aa C2 (wo c9 (vL 0 CO Aa (wo c9 (wv (BT Aa Aa) (GO Aa c9 Aa (wm Aa (AZ (decide (c.fInt=1)) (λhb=>?_) (λhb=>?_)))))))))
   ·refine wo hb (vF CY Aa BS (wo hb (vL 0 Cf Aa (wo hb (wv (Jq Aa Aa) (GC Aa hb Aa (wm Aa (AZ (decide (c.fStr=([]:Aj))) (λhh=>?_) (λhh=>?_)))))))))
    ·refine wo hh (vF CY Aa C2 (wo hh (vL 0 CO Aa (wo hh (wv (BT Aa Aa) (GC Aa hh Aa (wa Aa (Ar ?_))))))));exact C8 (And.intro c9 (And.intro hb hh))
    refine wf hh (wf hh (wf hh (wv (r:=rB false) (Ay Aa hh Aa) (wa Aa (Ar ?_)))));exact C8 (And.intro c9 (And.intro hb hh))
   refine wf hb (wf hb (wf hb (wv (r:=rB false) (Ay Aa hb Aa) (wm Aa (wz Aa Aa (wz Aa Aa (wz Aa Aa (wv (r:=rB false) (Ay (b:=false) Aa Aa Aa) (wa Aa (Ar ?_))))))))));exact C8 (And.intro c9 hb)
  refine A6 (A7 (Ae ?_));obtain rfl:=AA h8;exact A5 (Cp Pe (AT Aa)) sN ⟨Aa,Aa⟩
 refine Am (wv (BT Aa Aa) (wa Aa (Ax (cz hm Aa (λhn ho=>?_) (λhn hp=>?_)))))
 ·refine AV [(2,rB ((decide (c.fStr=([]:Aj)))&&(decide (c.fN=0))))] [] ?_ ?_
  ·refine Ap (vF CY Aa BS (vL 0 Cf Aa (wv (Jq Aa Aa) (wm Aa (AZ (decide (c.fStr=([]:Aj))) (λhi=>?_) (λhi=>?_))))))
   ·refine wo hi (vF CY Aa C2 (wo hi (vL 0 CO Aa (wo hi (wv (BT Aa Aa) (GC Aa hi Aa (wa Aa (Ar ?_))))))));exact C8 hi
   refine wf hi (wf hi (wf hi (wv (r:=rB false) (Ay Aa hi Aa) (wa Aa (Ar ?_)))));exact C8 hi
  refine A6 (A7 (Ae ?_));obtain rfl:=AA ho;exact A5 (Cp Pe (AT Aa)) sN ⟨Aa,Aa⟩
 refine Am (wv (BT Aa Aa) (wa Aa (Ax (cz hp Aa (λhq hr=>?_) (λhq hs=>?_)))))
 ·refine ck hr λht hu=>AV [(2,rB ((decide (c.fInt=0))&&((decide (c.fN=0))&&(ov (MB F c.fStr)))))] [] ?_ ?_
  ·refine Ap (vF CY Aa C2 (vL 0 CO Aa (wv (BT Aa Aa) (wm Aa (AZ (decide (c.fInt=0)) (λha=>?_) (λha=>?_))))))
   ·refine wo ha (vF CY Aa C2 (wo ha (vL 0 CO Aa (wo ha (wv (BT Aa Aa) (GC Aa ha Aa (wm Aa (AZ (decide (c.fN=0)) (λhd=>?_) (λhd=>?_)))))))))
    ·refine wo hd (vF CY Aa BS (wo hd (vL 0 Cf Aa (wo hd (DM Tryz.call150 (AbX F c.fStr (ov (MB F c.fStr)) (O6 (G9 (G9 ht ha) hd))) Aa (GC Aa hd Aa (wa Aa (Ar ?_))))))));exact C8 (And.intro ha hd)
    refine wf hd (wf hd (wf hd (wv (r:=rB false) (Ay Aa hd Aa) (wa Aa (Ar ?_)))));exact C8 (And.intro ha hd)
   refine wf ha (wf ha (wf ha (wv (r:=rB false) (Ay Aa ha Aa) (wm Aa (wz Aa Aa (wz Aa Aa (wz Aa Aa (wv (r:=rB false) (Ay (b:=false) Aa Aa Aa) (wa Aa (Ar ?_))))))))));exact C8 ha
  refine A6 (A7 (Ae ?_));obtain rfl:=AA hu;exact A5 (Cp Pe (AT Aa)) sN ⟨Aa,Aa⟩
 refine Aq (Am (wv (BT Aa Aa) (wa Aa (Ax (cz hs Aa (λhl hw=>?_) (λhl hx=>?_))))))
 ·refine A0 (AY (DG Aa hl (AV [(2,rB ((decide (c.fInt=0))&&((decide (c.fStr=([]:Aj)))&&(decide (0≤c.fN)))))] [] ?_ ?_)))
  ·refine Ap (vF CY Aa C2 (vL 0 CO Aa (wv (BT Aa Aa) (wm Aa (AZ (decide (c.fInt=0)) (λhe=>?_) (λhe=>?_))))))
   ·refine wo he (vF CY Aa BS (wo he (vL 0 Cf Aa (wo he (wv (Jq Aa Aa) (GC Aa he Aa (wm Aa (AZ (decide (c.fStr=([]:Aj))) (λhj=>?_) (λhj=>?_)))))))))
    ·refine wo hj (vF CY Aa C2 (wo hj (vL 0 CO Aa (wo hj (wv (Kw Aa Aa) (GC Aa hj Aa (wa Aa (Ar ?_))))))));exact C8 (And.intro he hj)
    refine wf hj (wf hj (wf hj (wv (r:=rB false) (Ay Aa hj Aa) (wa Aa (Ar ?_)))));exact C8 (And.intro he hj)
   refine wf he (wf he (wf he (wv (r:=rB false) (Ay Aa he Aa) (wm Aa (wz Aa Aa (wz Aa Aa (wz Aa Aa (wv (r:=rB false) (Ay (b:=false) Aa Aa Aa) (wa Aa (Ar ?_))))))))));exact C8 he
  refine A6 (A7 (Ae ?_));obtain rfl:=AA hw;exact A5 (Cp Pe (AT Aa)) sN ⟨Aa,Aa⟩
 refine Ap (wv (BT Aa Aa) (wa Aa (Ax (cz hx Aa (λhy hz=>?_) (λhy h0=>?_)))))
 ·refine AV [(2,rB ((decide (c.fInt=0))&&((decide (c.fStr=([]:Aj)))&&(decide (0≤c.fN)))))] [] ?_ ?_
  ·refine Ap (vF CY Aa C2 (vL 0 CO Aa (wv (BT Aa Aa) (wm Aa (AZ (decide (c.fInt=0)) (λhf=>?_) (λhf=>?_))))))
   ·refine wo hf (vF CY Aa BS (wo hf (vL 0 Cf Aa (wo hf (wv (Jq Aa Aa) (GC Aa hf Aa (wm Aa (AZ (decide (c.fStr=([]:Aj))) (λhk=>?_) (λhk=>?_)))))))))
    ·refine wo hk (vF CY Aa C2 (wo hk (vL 0 CO Aa (wo hk (wv (Kw Aa Aa) (GC Aa hk Aa (wa Aa (Ar ?_))))))));exact C8 (And.intro hf hk)
    refine wf hk (wf hk (wf hk (wv (r:=rB false) (Ay Aa hk Aa) (wa Aa (Ar ?_)))));exact C8 (And.intro hf hk)
   refine wf hf (wf hf (wf hf (wv (r:=rB false) (Ay Aa hf Aa) (wm Aa (wz Aa Aa (wz Aa Aa (wz Aa Aa (wv (r:=rB false) (Ay (b:=false) Aa Aa Aa) (wa Aa (Ar ?_))))))))));exact C8 hf
  refine A6 (A7 (Ae ?_));obtain rfl:=AA hz;exact A5 (Cp Pe (AT Aa)) sN ⟨Aa,Aa⟩
 refine A0 (AK (AY (Am (wa Aa (Ax (A6 ?_))))));obtain rfl:=AA h0;exact A5 (Cp Pe (AT Aa)) (sS sN) ⟨Aa,Aa⟩
theorem AbY (c:Ac)(r:Int)(h:Tw c=some r):Fn Tryz.prog GE 116 [BW (Af c)] [] (λR H=>R=A4 r∧H=[]):=by
 refine enter (n:=28) Tryz.func116 Aa Tryz.ntmps116 Aa (λw Z=>?_);unfold Tw at h;refine Am (CT Aa Aa (λb1=>?_));refine wa Aa (Ax (Aq (Am (vF CY Aa LH (vL 0 LI Aa (Ax (AO (Am (wv (BT Aa Aa) (wa Aa (Ax (cz h Aa (λc2 h3=>?_) (λc2 h4=>?_)))))))))))))
 ·refine Am (wa Aa (Ax (A6 (A7 (Ae ?_)))));obtain rfl:=AA h3;exact A5 (Cp Tq (AT Aa)) (sS sN) ⟨Aa,Aa⟩
 refine Am (wv (BT Aa Aa) (wa Aa (Ax (cz h4 Aa (λc5 h6=>?_) (λc5 h7=>?_)))))
 ·refine Am (vF CY Aa C2 (vL 0 CO Aa (wv (r:=A4 (IntKind.wrap .i64 (5-c.fInt))) (Aah Aa Aa) (wa Aa (Ax (A6 (A7 (Ae ?_))))))));obtain rfl:=AA h6;exact A5 (Cp Tq (AT Aa)) (sS sN) ⟨Aa,Aa⟩
 refine Am (wv (BT Aa Aa) (wa Aa (Ax (cz h7 Aa (λc8 h9=>?_) (λc8 ha=>?_)))))
 ·refine Am (vF CY Aa C2 (vL 0 CO Aa (ck h9 λhb hd=>Dr (rs:=[A4 c.fInt]) (r:=rS (Lib.itoa c.fInt)) Pf Aa (EQ c.fInt hb) Aa Aa (wv (BM CX Aa) (wa Aa (Ax (A6 (A7 (Ae ?_)))))))));obtain rfl:=AA hd;exact A5 (Cp Tq (AT Aa)) (sS sN) ⟨Aa,Aa⟩
 refine Am (wv (BT Aa Aa) (wa Aa (Ax (cz ha Aa (λhe hf=>?_) (λhe hg=>?_)))))
 ·refine Am (vF CY Aa BS (vL 0 Cf Aa (ob hf λhh hi hj=>DM Tryz.call115 (Rd c.fStr hh hi) Aa (wa Aa (Ax (A6 (A7 (Ae ?_))))))));obtain rfl:=AA hj;exact A5 (Cp Tq (AT Aa)) (sS sN) ⟨Aa,Aa⟩
 refine A0 (AK (AY (Am (vF CY Aa C2 (vL 0 CO Aa (wv (r:=A4 (IntKind.wrap .i64 (c.fN-1))) (Aah Aa Aa) (wv (Ads YW Aa Aa) (wv (r:=A4 (IntKind.wrap .i64 (2+(max 0 (IntKind.wrap .i64 (c.fN-1)))))) (Vs Aa Aa) (wa Aa (Ax (A6 ?_)))))))))));obtain rfl:=AA hg;exact A5 (Cp Tq (AT Aa)) (sS sN) ⟨Aa,Aa⟩
theorem X0 (F:Nat)(hi:Value)(stack:(List AN))(r:(List AN))(h:MF F stack=some r):Fn Tryz.prog GE 118 [rv hi] [.row hi 152 5 (A8 AR stack)] (λR H=>∃u0:Value,R=rv u0∧H=[.row u0 152 5 (A8 AR r)]):=by
 refine enter (n:=38) Tryz.func118 Aa Tryz.ntmps118 Aa (λw Z=>?_);unfold MF at h;refine Am (wa Aa (Ax (Aq (AO (ob h λhl hm hk=>B5 (S:=Nat×((List AN))×(Value)) (V:=((List AN))×(Value)) 0 (λσ=>Cj (λσ=>Es σ) σ.1 σ.2.1=some hl) (λσ=>[(0,rv σ.2.2),(2,rv (.slice none 0 0))]) (λσ=>[.row σ.2.2 152 5 (A8 AR σ.2.1)]) (λσ=>σ.1) (F,stack,hi) hm (AI.c Aa (AI.c Aa AI.nil)) (sC sN) (λσ=>Ge σ.1=some r) (λσ=>[(0,rv σ.2),(2,rv (.slice none 0 0))]) (λσ=>[.row σ.2 152 5 (A8 AR σ.1)]) ?_ ?_)))))
 ·rintro⟨n194,ha,he⟩ hn;refine EL ?_;obtain⟨ho,rfl,hp,hg,hj⟩:=CM hn;replace hg:Es ha=some hp:=hg;unfold Es at hg;refine Aq (Am (wm Aa (wv (Ce (ys:=ha) (enc:=AR) (i:=0) Kk Aa Aa) (wv (Ec Aa Aa) (Ax (cz hg Aa (λhq hr=>?_) (λhq hs=>?_)))))))
  ·refine A0 (AY (AO (Am (wm Aa (wm Aa (wv (Ce (ys:=ha) (enc:=AR) (i:=0) Kk Aa Aa) (ck hr λht hu=>wv (PC Aa Aa ht) (ck hu λhd hw=>wv (r:=rv (EZ 5 he (BH ((ha.length:Int)-1)) 0)) (Ej (i:=0) Kk Tn Aa Aa Aa (BI hd)) (wa Aa (B3 (wm Aa (wv (r:=rv (EZ 5 he (BH ((ha.length:Int)-1)) 0)) (CR (k:=0) Aa (BI hd) Aa Aa) (wv (r:=rv (EZ 5 he (BH ((ha.length:Int)-1)) 1)) (Gh (k:=0) Kj Aa C2 Aa (BI hd) Aa Aa Aa) (wv (r:=A4 ((Al ha ((ha.length:Int)-1)).fLeft)) (GX (enc:=AR) (ys:=ha) (i:=0) (j:=(ha.length:Int)-1) CO Aa Aa hd Aa) (ck hw λhx hy=>wv (PC Aa Aa hx) (wv (r:=rv (EZ 5 he (BH ((ha.length:Int)-1)) 0)) (CR (k:=0) Aa (BI hd) Aa Aa) (wv (r:=rv (EZ 5 he (BH ((ha.length:Int)-1)) 1)) (Gh (k:=0) Kj Aa C2 Aa (BI hd) Aa Aa Aa) (JK (enc:=AR) (ys:=ha) (y':=(AN.mk ((Al ha ((ha.length:Int)-1)).fPairs) (((Al ha ((ha.length:Int)-1)).fLeft)-1) ((Al ha ((ha.length:Int)-1)).fKey) ((Al ha ((ha.length:Int)-1)).fLast) ((Al ha ((ha.length:Int)-1)).fStarted))) (i:=0) (j:=(ha.length:Int)-1) C2 Aa Aa (BA Aa) Aa hd Aa Aa (H':=[.row he 152 5 (A8 AR (List.set ha (BH ((ha.length:Int)-1)) (AN.mk ((Al ha ((ha.length:Int)-1)).fPairs) (((Al ha ((ha.length:Int)-1)).fLeft)-1) ((Al ha ((ha.length:Int)-1)).fKey) ((Al ha ((ha.length:Int)-1)).fLast) ((Al ha ((ha.length:Int)-1)).fStarted))))]) Aa (bd hy λhb hf hz=>?_)))))))))))))))))));rw[← hf];refine Ax (Aq (Am (wm Aa (wv (r:=rv (EZ 5 he (BH ((ha.length:Int)-1)) 0)) (CR (k:=0) Aa (BI (D4 hd hf)) Aa Aa) (wv (r:=rv (EZ 5 he (BH ((ha.length:Int)-1)) 1)) (Gh (k:=0) Kj Aa C2 Aa (BI (D4 hd hf)) Aa Aa Aa) (wv (r:=A4 ((Al hb ((ha.length:Int)-1)).fLeft)) (GX (enc:=AR) (ys:=hb) (i:=0) (j:=(ha.length:Int)-1) CO Aa Aa (D4 hd hf) Aa) (wv (Ec Aa Aa) (Ax (cz hz Aa (λh0 h1=>?_) (λh0 h2=>?_))))))))))
   ·refine Am (wm Aa (wm Aa (wv (r:=rv (EZ 5 he (BH ((ha.length:Int)-1)) 0)) (CR (k:=0) Aa (BI (D4 hd hf)) Aa Aa) (wv (r:=rv (EZ 5 he (BH ((ha.length:Int)-1)) 0)) (Gh (k:=0) Kj Aa JE Aa (BI (D4 hd hf)) Aa Aa Aa) (wv (r:=rB ((Al hb ((ha.length:Int)-1)).fPairs)) (GX (enc:=AR) (ys:=hb) (i:=0) (j:=(ha.length:Int)-1) Xs Aa Aa (D4 hd hf) Aa) (wv (r:=rv (EZ 5 he (BH ((ha.length:Int)-1)) 0)) (CR (k:=0) Aa (BI (D4 hd hf)) Aa Aa) (wv (r:=rv (EZ 5 he (BH ((ha.length:Int)-1)) 2)) (Gh (k:=0) Kj Aa JE Aa (BI (D4 hd hf)) Aa Aa Aa) (JK (enc:=AR) (ys:=hb) (y':=(AN.mk ((Al hb ((ha.length:Int)-1)).fPairs) ((Al hb ((ha.length:Int)-1)).fLeft) ((Al hb ((ha.length:Int)-1)).fPairs) ((Al hb ((ha.length:Int)-1)).fLast) ((Al hb ((ha.length:Int)-1)).fStarted))) (i:=0) (j:=(ha.length:Int)-1) JE Aa Aa (BA Aa) Aa (D4 hd hf) Aa Aa (H':=[.row he 152 5 (A8 AR (List.set hb (BH ((ha.length:Int)-1)) (AN.mk ((Al hb ((ha.length:Int)-1)).fPairs) ((Al hb ((ha.length:Int)-1)).fLeft) ((Al hb ((ha.length:Int)-1)).fPairs) ((Al hb ((ha.length:Int)-1)).fLast) ((Al hb ((ha.length:Int)-1)).fStarted))))]) Aa (bd h1 λhG h3 h4=>?_)))))))));rw[← h3];refine B3 (wm Aa (wa Aa (Ax (A6 (Ae (A7 (Ae (Bc ?_))))))));have h5:=B4 h4 hj hk;refine A7 (Ae ?_);obtain rfl:=AA h5;exact A5 (Cp Tryz.results118 (AT Aa)) (sC sN) ⟨he,Aa,Aa⟩
   refine A0 (AY (Ap (wm Aa (wm Aa (wv (Ce (ys:=hb) (enc:=AR) (i:=0) Kk Aa Aa) (ck h2 λh6 h7=>wv (PC Aa Aa h6) (ck h7 λh8 h9=>AeB (i:=0) Kk Tn Aa Aa Aa h8 Aa (λhA=>?_))))))));refine wa Aa (Ar (AK ?_));have hB:=B8 h9 hj;exact A1 (AG (ho,List.take (BH ((hb.length:Int)-1)) hb,hA) ⟨hB,Ago _⟩ (AI.c Aa (AI.c Aa AI.nil)) (sC sN))
  refine B9 (A9 ?_);have hC:=Co hs hj hk;exact A9 (Bj (AG (ha,he) hC (AI.c Aa (AI.c Aa AI.nil)) (sC sN)))
 rintro⟨hD,hE⟩ hh;refine IY ?_;replace hh:Ge hD=some r:=hh;unfold Ge at hh;refine Bm (AY (Am (wm Aa (wa Aa (Ax (A6 ?_))))));obtain rfl:=AA hh;exact A5 (Cp Tryz.results118 (AT Aa)) (sC sN) ⟨hE,Aa,Aa⟩
theorem Sr (F:Nat)(v:(List Ac))(r:Int×AW×Bool)(h:Km F v=some r):Fn Tryz.prog GE 89 [Be 4 (A8 Af v)] [] (λR H=>R=Db [A4 r.1,BW (Bo r.2.1),rB r.2.2]∧H=[]):=by
 refine enter (n:=152) Tryz.func89 Aa Tryz.ntmps89 Aa (λw Z=>?_);unfold Km at h;refine Am (wa Aa (Ci (cs:=[A4 0,A4 0,rB false,rB false]) Tl Aa Aa (λb1=>?_)));refine wa Aa (Ax (Zq (Am (Ci (cs:=[A4 0,A4 0,rB false,rB false]) Tl Aa Aa (λb2=>?_)))));refine B3 (wa Aa (Ax (Aq (Zr (AY (Aq (Am (wm Aa (wv (By (ys:=v) (enc:=Af) D7 Aa) (wv (r:=A4 0) (Ah Aa) (Ax (AO (WC.nilrow (e:=152) (sz:=5) (HJ (H2:=[.blk b2 [A4 0,A4 0,rB false,rB false] 124,.blk b1 [A4 0,A4 0,rB false,rB false] 124,.row (.slice none 0 0                                                                                                                                                        ) 152 5 (A8 AR ([]:List AN))]) ((AS (i:=1) Aa).trans (Agk _ ((AS (i:=1) Aa).trans (Agk _ (Agn _))))) (ob h λh8 h9 hy=>B5 (S:=Nat×((List AN)×Int×AW)×(Value)) (V:=(AW)×(Unit)) 0 (λσ=>Cj (λσ=>Er F v σ.1 σ.2.1 σ.2.2) σ.1 σ.2.1=some h8) (λσ=>[(0,Be 4 (A8 Af v)),(3,rP b1 0),(5,rP b2 0),(6,rv σ.2.2),(11,Be 4 (A8 Af v)),(12,A4 (v.length:Int)),(13,A4 σ.2.1.2.1)]) (λσ=>[.blk b2 (Bo σ.2.1.2.2) 124,.blk b1 [A4 0,A4 0,rB false,rB false] 124,.row σ.2.2 152 5 (A8 AR σ.2.1.1)]) (λσ=>σ.1) (F,(([]:List AN),0,(AW.mk 0 0 false false)),(.slice none 0 0                                                                                                                                                        )) h9 (AI.c Aa (AI.c Aa (AI.c5 Aa Aa Aa Aa Aa AI.nil))) (sC (sC (sC sN))) (λσ=>MD σ.1=some r) (λσ=>[(3,rP b1 0),(5,rP b2 0)]) (λσ=>[.blk b2 (Bo σ.1) 124,.blk b1 [A4 0,A4 0,rB false,rB false] 124]) ?_ ?_)))))))))))))))
 ·rintro⟨gH,⟨hd,hb,ha⟩,he⟩ hA;refine EL ?_;obtain⟨hB,rfl,h4,hz,hw⟩:=CM hA;replace hz:Er F v hd hb ha=some h4:=hz;unfold Er at hz;refine Am (wv (De Aa Aa) (Ax (Aq (cz hz Aa (λhC hD=>?_) (λhC hE=>?_)))))
  ·refine A0 (AY (Cg (S:=((List AN)×AW)×(Value)) (λσ=>EO hb σ.1.1 σ.1.2=some h4) (λσ=>[(0,Be 4 (A8 Af v)),(3,rP b1 0),(5,rP b2 0),(6,rv σ.2),(11,Be 4 (A8 Af v)),(12,A4 (v.length:Int)),(13,A4 hb)]) (λσ=>[.blk b2 (Bo σ.1.2) 124,.blk b1 [A4 0,A4 0,rB false,rB false] 124,.row σ.2 152 5 (A8 AR σ.1.1)]) ?_ ?_))
   ·refine AO (Am (wm Aa (ck hD λhG hH=>wv (AU (enc:=Af) (ys:=v) D7 EE Aa Aa hG) (wv (DB Xq EE Aa Aa Aa) (Ci (cs:=[A4 0,A4 0,rS ([]:Aj),A4 0]) O0 Aa Aa (λhf=>?_))))));refine wa Aa (M5 (i:=0) EE Aa Aa Aa (Cv.c Aa) Aa Aa ?_);refine Ax (Aq (Am (wv (Bl (i:=0) Xq EE Aa Aa Aa Aa) (ob hH λhI hJ hK=>DM Tryz.call114 (Zx F (Al v hb) hI hJ) Aa (wv (BJ Aa) (Ax (cz hK Aa (λhL hN=>?_) (λhL hO=>?_))))))))
    ·refine Aq (If (H1:=[.blk hf (Af (Al v hb)) 83,.blk b2 (Bo ha) 124,.blk b1 (Bo ha) 124,.row he 152 5 (A8 AR hd)]) [3,5] [⟨[],BW (Bo ha),1⟩,⟨[],A4 0,0⟩,⟨[0],rv undef,2⟩,⟨[],rB false,0⟩] (rle [(3,_),(2,[.blk hf (Af (Al v hb)) 83,.blk b2 (Bo ha) 124,.blk b1 (Bo ha) 124,.row he 152 5 (A8 AR hd)])]) [2,4,3] ?_ ?_)
     ·refine of (Bl (i:=1) LO GQ Aa Aa Aa Aa) (oq (AC Aa) (KG Aa (SD (ET (i:=2) GQ Aa Aa Aa (Cv.c Aa) Aa Aa (cs':=[A4 ha.fDepth,A4 ha.fBytes,rB ha.fOutside,rB ha.fLong]) Aa (H':=[.blk hf (Af (Al v hb)) 83,.blk b2 (Bo ha) 124,.blk b1 (Bo ha) 124,.row he 152 5 (A8 AR hd)]) Aa)) ?_));refine oq (AC Aa) ?_;exact HD
     refine AY (A6 (Ae (A7 (Ae (Ae (Bc ?_))))));have hP:=B4 hN hw hy;refine A7 (Ae (Li ?_));obtain rfl:=AA hP;exact A5 (ZG Zh (AT Aa) (Jj (i:=2) LO GQ Aa Aa Aa) (AT Aa)) (sS (sS (sS (sS sN)))) ⟨Aa,Aa⟩
    refine A0 (AY (Aq (Am (wm Aa (wv (Ce (ys:=hd) (enc:=AR) (i:=3) Kk Aa Aa) (wa Aa (Ax (ck hO λhQ hR=>ck hR λh5 hS=>AV [(0,Be 4 (A8 Af v)),(3,rP b1 0),(5,rP b2 0),(6,rv he),(7,A4 hb),(8,rP hf 0),(9,A4 (hd.length:Int)),(11,Be 4 (A8 Af v)),(12,A4 (v.length:Int)),(13,A4 hb),(33,rB ((decide (0<(hd.length:Int)))&&((Al hd ((hd.length:Int)-1)).fKey)))] [.blk hf (Af (Al v hb)) 83,.blk b2 (Bo ha) 124,.blk b1 [A4 0,A4 0,rB false,rB false] 124,.row he 152 5 (A8 AR hd)] ?_ ?_))))))))
    ·refine Ap (wm Aa (wv (Ec Aa Aa) (wm Aa (AZ (decide (0<(hd.length:Int))) (λhi=>?_) (λhi=>?_)))))
     ·refine wo hi (wm Aa (wo hi (wm Aa (wo hi (wv (PC Aa Aa (G9 hQ hi)) (wo hi (wv (r:=rv (EZ 5 he (BH ((hd.length:Int)-1)) 0)) (Ej (i:=3) Kk Tn Aa Aa Aa (BI (G9 h5 hi))) (wo hi (wv (r:=rv (EZ 5 he (BH ((hd.length:Int)-1)) 2)) (Gh (k:=3) Kj Aa JE Aa (BI (G9 h5 hi)) Aa Aa Aa) (wo hi (wv (r:=rB ((Al hd ((hd.length:Int)-1)).fKey)) (GX (enc:=AR) (ys:=hd) (i:=3) (j:=(hd.length:Int)-1) Xs Aa Aa (G9 h5 hi) Aa) (GC Aa hi Aa (Ar ?_)))))))))))));exact C8 hi
     refine wf hi (wf hi (wf hi (wf hi (wf hi (wf hi (wv (r:=rB false) (Ay Aa hi Aa) (Ar ?_)))))));exact C8 hi
    refine cz hS Aa (λhT hU=>?_) (λhT hV=>?_)
    ·refine Am (wm Aa (wm Aa (ck hU λhW hX=>wv (PC Aa Aa hW) (ck hX λhj hY=>wv (r:=rv (EZ 5 he (BH ((hd.length:Int)-1)) 0)) (Ej (i:=3) Kk Tn Aa Aa Aa (BI hj)) (wa Aa (Ax (Aq (AV [(0,Be 4 (A8 Af v)),(3,rP b1 0),(5,rP b2 0),(6,rv he),(8,rP hf 0),(10,rv (EZ 5 he (BH ((hd.length:Int)-1)) 0)),(11,Be 4 (A8 Af v)),(12,A4 (v.length:Int)),(13,A4 hb),(38,rP hf 0),(39,A4 ((Al v hb).fKind)),(40,rB (!decide (((Al v hb).fKind)=4))),(41,rB (!decide (((Al v hb).fKind)=4))),(55,rB ((!decide (((Al v hb).fKind)=4))||(((Al hd ((hd.length:Int)-1)).fStarted)&&(C9 ((Al v hb).fStr) ((Al hd ((hd.length:Int)-1)).fLast)||decide (((Al v hb).fStr)=((Al hd ((hd.length:Int)-1)).fLast))))))] [.blk hf (Af (Al v hb)) 83,.blk b2 (Bo ha) 124,.blk b1 [A4 0,A4 0,rB false,rB false] 124,.row he 152 5 (A8 AR hd)] ?_ ?_))))))))
     ·refine AZ (!decide (((Al v hb).fKind)=4)) (λhh=>?_) (λhh=>?_)
      ·refine Dy [0,3,5,6,8,10,11,12,13] ?_;refine rq (Aw CY Aa LH Aa Aa) (rq (AQ (i:=0) LI Aa Aa Aa) (rq (Cl Aa Aa) (rq (Ah Aa) (rz hh (rz hh (rz hh (rz hh (rz hh (ru (ru (ru (ru (ru (ru (ru (rz hh (rq (r:=rB true) (A3 (b:=!decide (((Al v hb).fKind)=4)) Aa hh Aa) (re [38,39,40,41,42,43,44,45,46,47,48,49,50,51,52,53,54,55,0,3,5,6,8,10,11,12,13] ?_))))))))))))))))));exact C8 hh
      refine AZ ((Al hd ((hd.length:Int)-1)).fStarted) (λhk=>?_) (λhk=>?_)
      ·refine Dy [0,3,5,6,8,10,11,12,13] ?_;refine rq (Aw CY Aa LH Aa Aa) (rq (AQ (i:=0) LI Aa Aa Aa) (rq (Cl Aa Aa) (rq (Ah Aa) (rg hh (Ah Aa) (rg hh (r:=rv (EZ 5 he (BH ((hd.length:Int)-1)) 0)) (CR (k:=3) Aa (BI hj) Aa Aa) (rg hh (r:=rv (EZ 5 he (BH ((hd.length:Int)-1)) 4)) (Gh (k:=3) Kj Aa JE Aa (BI hj) Aa Aa Aa) (rg hh (r:=rB ((Al hd ((hd.length:Int)-1)).fStarted)) (GX (enc:=AR) (ys:=hd) (i:=3) (j:=(hd.length:Int)-1) Xs Aa Aa hj Aa) (rg hh (Ah Aa) (rg hk (Aw CY Aa BS Aa Aa) (rg hk (AQ (i:=0) Cf Aa Aa Aa) (rg hk (Ah Aa) (rg hk (r:=rv (EZ 5 he (BH ((hd.length:Int)-1)) 0)) (CR (k:=3) Aa (BI hj) Aa Aa) (rg hk (r:=rv (EZ 5 he (BH ((hd.length:Int)-1)) 3)) (Gh (k:=3) Kj Aa BS Aa (BI hj) Aa Aa Aa) (rg hk (r:=rS ((Al hd ((hd.length:Int)-1)).fLast)) (GX (enc:=AR) (ys:=hd) (i:=3) (j:=(hd.length:Int)-1) Cf Aa Aa hj Aa) (rg hk (Aai Aa Aa) (rg hh (A3 Aa hk Aa) (rq (Ay Aa hh Aa) (re [38,39,40,41,42,43,44,45,46,47,48,49,50,51,52,53,54,55,0,3,5,6,8,10,11,12,13] ?_))))))))))))))))));exact C8 (And.intro hh hk)
      refine Dy [0,3,5,6,8,10,11,12,13] ?_;refine rq (Aw CY Aa LH Aa Aa) (rq (AQ (i:=0) LI Aa Aa Aa) (rq (Cl Aa Aa) (rq (Ah Aa) (rg hh (Ah Aa) (rg hh (r:=rv (EZ 5 he (BH ((hd.length:Int)-1)) 0)) (CR (k:=3) Aa (BI hj) Aa Aa) (rg hh (r:=rv (EZ 5 he (BH ((hd.length:Int)-1)) 4)) (Gh (k:=3) Kj Aa JE Aa (BI hj) Aa Aa Aa) (rg hh (r:=rB ((Al hd ((hd.length:Int)-1)).fStarted)) (GX (enc:=AR) (ys:=hd) (i:=3) (j:=(hd.length:Int)-1) Xs Aa Aa hj Aa) (rg hh (Ah Aa) (rz hk (rz hk (rz hk (rz hk (rz hk (rz hk (rz hk (rg hh (r:=rB false) (Ay (b:=(Al hd ((hd.length:Int)-1)).fStarted) Aa hk Aa) (rq (Ay Aa hh Aa) (re [38,39,40,41,42,43,44,45,46,47,48,49,50,51,52,53,54,55,0,3,5,6,8,10,11,12,13] ?_))))))))))))))))));exact C8 (And.intro hh hk)
     refine cz hY Aa (λhZ ga=>?_) (λhZ gb=>?_)
     ·refine Aq (If (H1:=[.blk hf (Af (Al v hb)) 83,.blk b2 (Bo ha) 124,.blk b1 (Bo ha) 124,.row he 152 5 (A8 AR hd)]) [3,5] [⟨[],BW (Bo ha),1⟩,⟨[],A4 0,0⟩,⟨[0],rv undef,2⟩,⟨[],rB false,0⟩] (rle [(3,_),(2,[.blk hf (Af (Al v hb)) 83,.blk b2 (Bo ha) 124,.blk b1 (Bo ha) 124,.row he 152 5 (A8 AR hd)])]) [2,4,3] ?_ ?_)
      ·refine of (Bl (i:=1) LO GQ Aa Aa Aa Aa) (oq (AC Aa) (KG Aa (SD (ET (i:=2) GQ Aa Aa Aa (Cv.c Aa) Aa Aa (cs':=[A4 ha.fDepth,A4 ha.fBytes,rB ha.fOutside,rB ha.fLong]) Aa (H':=[.blk hf (Af (Al v hb)) 83,.blk b2 (Bo ha) 124,.blk b1 (Bo ha) 124,.row he 152 5 (A8 AR hd)]) Aa)) ?_));refine oq (AC Aa) ?_;exact HD
      refine AY (A6 (Ae (Ae (A7 (Ae (Ae (Bc ?_)))))));have gc:=B4 ga hw hy;refine A7 (Ae (Li ?_));obtain rfl:=AA gc;exact A5 (ZG Zh (AT Aa) (Jj (i:=2) LO GQ Aa Aa Aa) (AT Aa)) (sS (sS (sS (sS sN)))) ⟨Aa,Aa⟩
     refine A0 (AY (Am (wm Aa (wm Aa (wm Aa (vF CY Aa BS (vL 0 Cf Aa (wv (r:=rv (EZ 5 he (BH ((hd.length:Int)-1)) 0)) (CR (k:=3) Aa (BI hj) Aa Aa) (wv (r:=rv (EZ 5 he (BH ((hd.length:Int)-1)) 3)) (Gh (k:=3) Kj Aa BS Aa (BI hj) Aa Aa Aa) (JK (enc:=AR) (ys:=hd) (y':=(AN.mk ((Al hd ((hd.length:Int)-1)).fPairs) ((Al hd ((hd.length:Int)-1)).fLeft) ((Al hd ((hd.length:Int)-1)).fKey) ((Al v hb).fStr) ((Al hd ((hd.length:Int)-1)).fStarted))) (i:=3) (j:=(hd.length:Int)-1) BS Aa Aa (BA Aa) Aa hj Aa Aa (H':=[.blk hf (Af (Al v hb)) 83,.blk b2 (Bo ha) 124,.blk b1 [A4 0,A4 0,rB false,rB false] 124,.row he 152 5 (A8 AR (List.set hd (BH ((hd.length:Int)-1)) (AN.mk ((Al hd ((hd.length:Int)-1)).fPairs) ((Al hd ((hd.length:Int)-1)).fLeft) ((Al hd ((hd.length:Int)-1)).fKey) ((Al v hb).fStr) ((Al hd ((hd.length:Int)-1)).fStarted))))]) Aa (bd gb λhr ht gd=>?_)))))))))));rw[← ht];refine wv (r:=rv (EZ 5 he (BH ((hd.length:Int)-1)) 0)) (CR (k:=3) Aa (BI (D4 hj ht)) Aa Aa) (wv (r:=rv (EZ 5 he (BH ((hd.length:Int)-1)) 4)) (Gh (k:=3) Kj Aa JE Aa (BI (D4 hj ht)) Aa Aa Aa) (JK (enc:=AR) (ys:=hr) (y':=(AN.mk ((Al hr ((hd.length:Int)-1)).fPairs) ((Al hr ((hd.length:Int)-1)).fLeft) ((Al hr ((hd.length:Int)-1)).fKey) ((Al hr ((hd.length:Int)-1)).fLast) true)) (i:=3) (j:=(hd.length:Int)-1) JE Aa Aa (BA Aa) Aa (D4 hj ht) Aa Aa (H':=[.blk hf (Af (Al v hb)) 83,.blk b2 (Bo ha) 124,.blk b1 [A4 0,A4 0,rB false,rB false] 124,.row he 152 5 (A8 AR (List.set hr (BH ((hd.length:Int)-1)) (AN.mk ((Al hr ((hd.length:Int)-1)).fPairs) ((Al hr ((hd.length:Int)-1)).fLeft) ((Al hr ((hd.length:Int)-1)).fKey) ((Al hr ((hd.length:Int)-1)).fLast) true)))]) Aa (bd gd λhs h0 ge=>?_)));rw[← h0];refine wv (r:=rv (EZ 5 he (BH ((hd.length:Int)-1)) 0)) (CR (k:=3) Aa (BI (D4 (D4 hj ht) h0)) Aa Aa) (wv (r:=rv (EZ 5 he (BH ((hd.length:Int)-1)) 2)) (Gh (k:=3) Kj Aa JE Aa (BI (D4 (D4 hj ht) h0)) Aa Aa Aa) (JK (enc:=AR) (ys:=hs) (y':=(AN.mk ((Al hs ((hd.length:Int)-1)).fPairs) ((Al hs ((hd.length:Int)-1)).fLeft) false ((Al hs ((hd.length:Int)-1)).fLast) ((Al hs ((hd.length:Int)-1)).fStarted))) (i:=3) (j:=(hd.length:Int)-1) JE Aa Aa (BA Aa) Aa (D4 (D4 hj ht) h0) Aa Aa (H':=[.blk hf (Af (Al v hb)) 83,.blk b2 (Bo ha) 124,.blk b1 [A4 0,A4 0,rB false,rB false] 124,.row he 152 5 (A8 AR (List.set hs (BH ((hd.length:Int)-1)) (AN.mk ((Al hs ((hd.length:Int)-1)).fPairs) ((Al hs ((hd.length:Int)-1)).fLeft) false ((Al hs ((hd.length:Int)-1)).fLast) ((Al hs ((hd.length:Int)-1)).fStarted))))]) Aa (bd ge λhu gf gg=>?_)));rw[← gf];refine Ax (Aq (ob gg λhm gh gi=>ck gi λgj gl=>If (H1:=[.blk hf (Af (Al v hb)) 83,.blk b2 [A4 ha.fDepth,A4 (IntKind.wrap .i64 (ha.fBytes+(hm+1))),rB ha.fOutside,rB ha.fLong] 124,.blk b1 [A4 0,A4 0,rB false,rB false] 124,.row he 152 5 (A8 AR hu)]) [0,3,5,6,8,11,12,13,38,39,40,41] [⟨[],rP b2 1,0⟩,⟨[0],A4 ha.fBytes,1⟩,⟨[],rP hf 2,0⟩,⟨[2],rS ((Al v hb).fStr),1⟩,⟨[3],A4 hm,0⟩,⟨[4],A4 (hm+1),0⟩,⟨[1,5],A4 (IntKind.wrap .i64 (ha.fBytes+(hm+1))),0⟩,⟨[],rP b2 1,0⟩,⟨[7,6],rv undef,2⟩] (rle [(9,_),(1,[.blk hf (Af (Al v hb)) 83,.blk b2 [A4 ha.fDepth,A4 (IntKind.wrap .i64 (ha.fBytes+(hm+1))),rB ha.fOutside,rB ha.fLong] 124,.blk b1 [A4 0,A4 0,rB false,rB false] 124,.row he 152 5 (A8 AR hu)])]) [68,69,70,71,72,73,74,75,0,3,5,6,8,11,12,13,38,39,40,41] ?_ ?_))
     ·refine oq (Aw Gs Aa C2 Aa Aa) (of (AQ (i:=1) CO Aa Aa Aa) (oq (Aw CY Aa BS Aa Aa) (of (AQ (i:=0) Cf Aa Aa Aa) (TN Aa (λH=>GI Tryz.call115 (Rd ((Al v hb).fStr) hm gh) Aa) ?_))));refine oq (BU Aa Aa gj) (oq (Vs Aa Aa) (oq (Aw Gs Aa C2 Aa Aa) (KG Aa (SD (LF (i:=1) C2 Aa Aa (BA Aa) Aa Aa (cs':=[A4 ha.fDepth,A4 (IntKind.wrap .i64 (ha.fBytes+(hm+1))),rB ha.fOutside,rB ha.fLong]) Aa (H':=[.blk hf (Af (Al v hb)) 83,.blk b2 [A4 ha.fDepth,A4 (IntKind.wrap .i64 (ha.fBytes+(hm+1))),rB ha.fOutside,rB ha.fLong] 124,.blk b1 [A4 0,A4 0,rB false,rB false] 124,.row he 152 5 (A8 AR hu)]) Aa)) ?_)));exact HD
     refine AY (AV [(0,Be 4 (A8 Af v)),(3,rP b1 0),(5,rP b2 0),(6,rv he),(11,Be 4 (A8 Af v)),(12,A4 (v.length:Int)),(13,A4 hb),(38,rP hf 0),(39,A4 ((Al v hb).fKind)),(40,rB (!decide (((Al v hb).fKind)=4))),(41,rB (!decide (((Al v hb).fKind)=4))),(68,rP b2 1),(69,A4 ha.fBytes),(70,rP hf 2),(71,rS ((Al v hb).fStr)),(72,A4 hm),(73,A4 (hm+1)),(74,A4 (IntKind.wrap .i64 (ha.fBytes+(hm+1)))),(75,rP b2 1)] [.blk hf (Af (Al v hb)) 83,.blk b2 [A4 ha.fDepth,A4 (IntKind.wrap .i64 (ha.fBytes+(hm+1))),rB ha.fOutside,rB (ha.fLong||(decide (200<(((Al v hb).fStr).length:Int))))] 124,.blk b1 [A4 0,A4 0,rB false,rB false] 124,.row he 152 5 (A8 AR hu)] ?_ ?_)
     ·refine Ap (vF Gs Aa JE (vL 1 Xs Aa (wm Aa (AZ (ha.fLong) (λho=>?_) (λho=>?_)))))
      ·refine wf ho (wf ho (wf ho (wf ho (wv (r:=rB true) (A3 Aa ho Aa) (vF Gs Aa JE (us (i:=1) JE Aa Aa (BA Aa) Aa Aa ?_))))));refine Ar (JH (H':=[.blk hf (Af (Al v hb)) 83,.blk b2 [A4 ha.fDepth,A4 (IntKind.wrap .i64 (ha.fBytes+(hm+1))),rB ha.fOutside,rB (ha.fLong||(decide (200<(((Al v hb).fStr).length:Int))))] 124,.blk b1 [A4 0,A4 0,rB false,rB false] 124,.row he 152 5 (A8 AR hu)]) (by simp only[ho,Agp,Agx,AgB,Ags,Ag1,Agz,Ag9,Ag3,Agl,Ag2,Agg,Agb]) ?_);exact wt
      refine wo ho (vF CY Aa BS (wo ho (vL 0 Cf Aa (wo ho (wv (BM CX Aa) (wo ho (wv (Ec Aa Aa) (GO Aa ho Aa (vF Gs Aa JE (us (i:=1) JE Aa Aa (BA Aa) Aa Aa ?_))))))))));refine Ar (JH (H':=[.blk hf (Af (Al v hb)) 83,.blk b2 [A4 ha.fDepth,A4 (IntKind.wrap .i64 (ha.fBytes+(hm+1))),rB ha.fOutside,rB (ha.fLong||(decide (200<(((Al v hb).fStr).length:Int))))] 124,.blk b1 [A4 0,A4 0,rB false,rB false] 124,.row he 152 5 (A8 AR hu)]) (by simp only[ho,Agp,Agx,AgB,Ags,Ag1,Agz,Ag9,Ag3,Agl,Ag2,Agg,Agb]) ?_);exact wt
     exact B9 (A9 (Bm (A1 (AG ((hu,(AW.mk ha.fDepth (IntKind.wrap .i64 (ha.fBytes+(hm+1))) ha.fOutside (ha.fLong||(decide (200<(((Al v hb).fStr).length:Int)))))),he) gl (AI.c Aa (AI.c Aa (AI.c5 Aa Aa Aa Aa Aa AI.nil))) (sS (sC (sC (sC sN))))))))
    refine A0 (AY (Am (vF Gs Aa C2 (vL 1 CO Aa (wm Aa (wv (Ce (ys:=hd) (enc:=AR) (i:=3) Kk Aa Aa) (ck hV λgm gp=>wv (BU Aa Aa gm) (wv (Ads YW Aa Aa) (vF Gs Aa C2 (us (i:=1) C2 Aa Aa (BA Aa) Aa Aa ?_))))))))));refine Ax (Aq (ob gp λhg gq gr=>If (H1:=[.blk hf (Af (Al v hb)) 83,.blk b2 [A4 (max ha.fDepth ((hd.length:Int)+1)),A4 (IntKind.wrap .i64 (ha.fBytes+hg)),rB ha.fOutside,rB ha.fLong] 124,.blk b1 [A4 0,A4 0,rB false,rB false] 124,.row he 152 5 (A8 AR hd)]) [0,3,5,6,7,8,11,12,13] [⟨[],rP b2 1,0⟩,⟨[0],A4 ha.fBytes,1⟩,⟨[],BW (Af (Al v hb)),1⟩,⟨[2],A4 hg,0⟩,⟨[1,3],A4 (IntKind.wrap .i64 (ha.fBytes+hg)),0⟩,⟨[],rP b2 1,0⟩,⟨[5,4],rv undef,2⟩] (rle [(7,_),(1,[.blk hf (Af (Al v hb)) 83,.blk b2 [A4 (max ha.fDepth ((hd.length:Int)+1)),A4 (IntKind.wrap .i64 (ha.fBytes+hg)),rB ha.fOutside,rB ha.fLong] 124,.blk b1 [A4 0,A4 0,rB false,rB false] 124,.row he 152 5 (A8 AR hd)])]) [92,93,94,95,96,97,0,3,5,6,7,8,11,12,13] ?_ ?_))
    ·refine oq (Aw Gs Aa C2 Aa Aa) (of (AQ (i:=1) CO Aa Aa Aa) (of (Bl (i:=0) Xq EE Aa Aa Aa Aa) (TN Aa (λH=>GI Tryz.call116 (AbY (Al v hb) hg gq) Aa) ?_)));refine oq (Vs Aa Aa) (oq (Aw Gs Aa C2 Aa Aa) (KG Aa (SD (LF (i:=1) C2 Aa Aa (BA Aa) Aa Aa (cs':=[A4 (max ha.fDepth ((hd.length:Int)+1)),A4 (IntKind.wrap .i64 (ha.fBytes+hg)),rB ha.fOutside,rB ha.fLong]) Aa (H':=[.blk hf (Af (Al v hb)) 83,.blk b2 [A4 (max ha.fDepth ((hd.length:Int)+1)),A4 (IntKind.wrap .i64 (ha.fBytes+hg)),rB ha.fOutside,rB ha.fLong] 124,.blk b1 [A4 0,A4 0,rB false,rB false] 124,.row he 152 5 (A8 AR hd)]) Aa)) ?_));exact HD
    refine AY (ck gr λgs gt=>AV [(0,Be 4 (A8 Af v)),(3,rP b1 0),(5,rP b2 0),(6,rv he),(7,A4 hb),(8,rP hf 0),(11,Be 4 (A8 Af v)),(12,A4 (v.length:Int)),(13,A4 hb),(92,rP b2 1),(93,A4 ha.fBytes),(94,BW (Af (Al v hb))),(95,A4 hg),(96,A4 (IntKind.wrap .i64 (ha.fBytes+hg))),(97,rP b2 1)] [.blk hf (Af (Al v hb)) 83,.blk b2 [A4 (max ha.fDepth ((hd.length:Int)+1)),A4 (IntKind.wrap .i64 (ha.fBytes+hg)),rB (ha.fOutside||((decide (((Al v hb).fKind)=3))&&(!(ov (Cy ((Al v hb).fInt)))))),rB ha.fLong] 124,.blk b1 [A4 0,A4 0,rB false,rB false] 124,.row he 152 5 (A8 AR hd)] ?_ ?_)
    ·refine Ap (vF Gs Aa JE (vL 1 Xs Aa (wm Aa (AZ (ha.fOutside) (λhl=>?_) (λhl=>?_)))))
     ·refine wf hl (wf hl (wf hl (wf hl (wu (wu (wu (wu (wf hl (wv (r:=rB true) (A3 Aa hl Aa) (vF Gs Aa JE (us (i:=1) JE Aa Aa (BA Aa) Aa Aa ?_)))))))))));refine Ar (JH (H':=[.blk hf (Af (Al v hb)) 83,.blk b2 [A4 (max ha.fDepth ((hd.length:Int)+1)),A4 (IntKind.wrap .i64 (ha.fBytes+hg)),rB (ha.fOutside||((decide (((Al v hb).fKind)=3))&&(!(ov (Cy ((Al v hb).fInt)))))),rB ha.fLong] 124,.blk b1 [A4 0,A4 0,rB false,rB false] 124,.row he 152 5 (A8 AR hd)]) (by simp only[hl,Agp,Agx,AgB,Ags,Ag1,Agz,Ag9,Ag3,Agl,Ag2,Agg,Agb]) ?_);exact wt
     refine wo hl (vF CY Aa LH (wo hl (vL 0 LI Aa (wo hl (wv (BT Aa Aa) (wo hl (wm Aa (AZ (decide (((Al v hb).fKind)=3)) (λhn=>?_) (λhn=>?_)))))))))
     ·refine wo hn (vF CY Aa C2 (wo hn (vL 0 CO Aa (wo hn (DM Tryz.call117 (Aaw ((Al v hb).fInt) (ov (Cy ((Al v hb).fInt))) (O6 (G9 (ED gs hl) hn))) Aa (wo hn (wv (BJ Aa) (wo hl (GC Aa hn Aa (GO Aa hl Aa (vF Gs Aa JE (us (i:=1) JE Aa Aa (BA Aa) Aa Aa ?_))))))))))));refine Ar (JH (H':=[.blk hf (Af (Al v hb)) 83,.blk b2 [A4 (max ha.fDepth ((hd.length:Int)+1)),A4 (IntKind.wrap .i64 (ha.fBytes+hg)),rB (ha.fOutside||((decide (((Al v hb).fKind)=3))&&(!(ov (Cy ((Al v hb).fInt)))))),rB ha.fLong] 124,.blk b1 [A4 0,A4 0,rB false,rB false] 124,.row he 152 5 (A8 AR hd)]) (by simp only[hl,hn,Agp,Agx,AgB,Ags,Ag1,Agz,Ag9,Ag3,Agl,Ag2,Agg,Agb]) ?_);exact wt
     refine wf hn (wf hn (wf hn (wf hn (wo hl (wv (r:=rB false) (Ay Aa hn Aa) (GO Aa hl Aa (vF Gs Aa JE (us (i:=1) JE Aa Aa (BA Aa) Aa Aa ?_))))))));refine Ar (JH (H':=[.blk hf (Af (Al v hb)) 83,.blk b2 [A4 (max ha.fDepth ((hd.length:Int)+1)),A4 (IntKind.wrap .i64 (ha.fBytes+hg)),rB (ha.fOutside||((decide (((Al v hb).fKind)=3))&&(!(ov (Cy ((Al v hb).fInt)))))),rB ha.fLong] 124,.blk b1 [A4 0,A4 0,rB false,rB false] 124,.row he 152 5 (A8 AR hd)]) (by simp only[hl,hn,Agp,Agx,AgB,Ags,Ag1,Agz,Ag9,Ag3,Agl,Ag2,Agg,Agb]) ?_);exact wt
    refine AV [(0,Be 4 (A8 Af v)),(3,rP b1 0),(5,rP b2 0),(6,rv he),(7,A4 hb),(8,rP hf 0),(11,Be 4 (A8 Af v)),(12,A4 (v.length:Int)),(13,A4 hb),(92,rP b2 1),(93,A4 ha.fBytes),(94,BW (Af (Al v hb))),(95,A4 hg),(96,A4 (IntKind.wrap .i64 (ha.fBytes+hg))),(97,rP b2 1)] [.blk hf (Af (Al v hb)) 83,.blk b2 [A4 (max ha.fDepth ((hd.length:Int)+1)),A4 (IntKind.wrap .i64 (ha.fBytes+hg)),rB (ha.fOutside||((decide (((Al v hb).fKind)=3))&&(!(ov (Cy ((Al v hb).fInt)))))),rB (ha.fLong||(decide (200<(((Al v hb).fStr).length:Int))))] 124,.blk b1 [A4 0,A4 0,rB false,rB false] 124,.row he 152 5 (A8 AR hd)] ?_ ?_
    ·refine Ap (vF Gs Aa JE (vL 1 Xs Aa (wm Aa (AZ (ha.fLong) (λhp=>?_) (λhp=>?_)))))
     ·refine wf hp (wf hp (wf hp (wf hp (wv (r:=rB true) (A3 Aa hp Aa) (vF Gs Aa JE (us (i:=1) JE Aa Aa (BA Aa) Aa Aa ?_))))));refine Ar (JH (H':=[.blk hf (Af (Al v hb)) 83,.blk b2 [A4 (max ha.fDepth ((hd.length:Int)+1)),A4 (IntKind.wrap .i64 (ha.fBytes+hg)),rB (ha.fOutside||((decide (((Al v hb).fKind)=3))&&(!(ov (Cy ((Al v hb).fInt)))))),rB (ha.fLong||(decide (200<(((Al v hb).fStr).length:Int))))] 124,.blk b1 [A4 0,A4 0,rB false,rB false] 124,.row he 152 5 (A8 AR hd)]) (by simp only[hp,Agp,Agx,AgB,Ags,Ag1,Agz,Ag9,Ag3,Agl,Ag2,Agg,Agb]) ?_);exact wt
     refine wo hp (vF CY Aa BS (wo hp (vL 0 Cf Aa (wo hp (wv (BM CX Aa) (wo hp (wv (Ec Aa Aa) (GO Aa hp Aa (vF Gs Aa JE (us (i:=1) JE Aa Aa (BA Aa) Aa Aa ?_))))))))));refine Ar (JH (H':=[.blk hf (Af (Al v hb)) 83,.blk b2 [A4 (max ha.fDepth ((hd.length:Int)+1)),A4 (IntKind.wrap .i64 (ha.fBytes+hg)),rB (ha.fOutside||((decide (((Al v hb).fKind)=3))&&(!(ov (Cy ((Al v hb).fInt)))))),rB (ha.fLong||(decide (200<(((Al v hb).fStr).length:Int))))] 124,.blk b1 [A4 0,A4 0,rB false,rB false] 124,.row he 152 5 (A8 AR hd)]) (by simp only[hp,Agp,Agx,AgB,Ags,Ag1,Agz,Ag9,Ag3,Agl,Ag2,Agg,Agb]) ?_);exact wt
    refine Aq (Am (vF CY Aa C2 (vL 0 CO Aa (wv (Ec Aa Aa) (Ax (cz gt Aa (λgu gv=>?_) (λgu gw=>?_)))))))
    ·refine Aq (Am (vF CY Aa C2 (vL 0 CO Aa (wm Aa (wv (By (ys:=v) (enc:=Af) D7 Aa) (wv (Ec Aa Aa) (Ax (cz gv Aa (λgx gy=>?_) (λgx gz=>?_)))))))))
     ·refine Aq (If (H1:=[.blk hf (Af (Al v hb)) 83,.blk b2 [A4 (max ha.fDepth ((hd.length:Int)+1)),A4 (IntKind.wrap .i64 (ha.fBytes+hg)),rB (ha.fOutside||((decide (((Al v hb).fKind)=3))&&(!(ov (Cy ((Al v hb).fInt)))))),rB (ha.fLong||(decide (200<(((Al v hb).fStr).length:Int))))] 124,.blk b1 [A4 (max ha.fDepth ((hd.length:Int)+1)),A4 (IntKind.wrap .i64 (ha.fBytes+hg)),rB (ha.fOutside||((decide (((Al v hb).fKind)=3))&&(!(ov (Cy ((Al v hb).fInt)))))),rB (ha.fLong||(decide (200<(((Al v hb).fStr).length:Int))))] 124,.row he 152 5 (A8 AR hd)]) [3,5] [⟨[],BW [A4 (max ha.fDepth ((hd.length:Int)+1)),A4 (IntKind.wrap .i64 (ha.fBytes+hg)),rB (ha.fOutside||((decide (((Al v hb).fKind)=3))&&(!(ov (Cy ((Al v hb).fInt)))))),rB (ha.fLong||(decide (200<(((Al v hb).fStr).length:Int))))],1⟩,⟨[],A4 0,0⟩,⟨[0],rv undef,2⟩,⟨[],rB false,0⟩] (rle [(3,_),(2,[.blk hf (Af (Al v hb)) 83,.blk b2 [A4 (max ha.fDepth ((hd.length:Int)+1)),A4 (IntKind.wrap .i64 (ha.fBytes+hg)),rB (ha.fOutside||((decide (((Al v hb).fKind)=3))&&(!(ov (Cy ((Al v hb).fInt)))))),rB (ha.fLong||(decide (200<(((Al v hb).fStr).length:Int))))] 124,.blk b1 [A4 (max ha.fDepth ((hd.length:Int)+1)),A4 (IntKind.wrap .i64 (ha.fBytes+hg)),rB (ha.fOutside||((decide (((Al v hb).fKind)=3))&&(!(ov (Cy ((Al v hb).fInt)))))),rB (ha.fLong||(decide (200<(((Al v hb).fStr).length:Int))))] 124,.row he 152 5 (A8 AR hd)])]) [2,4,3] ?_ ?_)
      ·refine of (Bl (i:=1) LO GQ Aa Aa Aa Aa) (oq (AC Aa) (KG Aa (SD (ET (i:=2) GQ Aa Aa Aa (Cv.c Aa) Aa Aa (cs':=[A4 (max ha.fDepth ((hd.length:Int)+1)),A4 (IntKind.wrap .i64 (ha.fBytes+hg)),rB (ha.fOutside||((decide (((Al v hb).fKind)=3))&&(!(ov (Cy ((Al v hb).fInt)))))),rB (ha.fLong||(decide (200<(((Al v hb).fStr).length:Int))))]) Aa (H':=[.blk hf (Af (Al v hb)) 83,.blk b2 [A4 (max ha.fDepth ((hd.length:Int)+1)),A4 (IntKind.wrap .i64 (ha.fBytes+hg)),rB (ha.fOutside||((decide (((Al v hb).fKind)=3))&&(!(ov (Cy ((Al v hb).fInt)))))),rB (ha.fLong||(decide (200<(((Al v hb).fStr).length:Int))))] 124,.blk b1 [A4 (max ha.fDepth ((hd.length:Int)+1)),A4 (IntKind.wrap .i64 (ha.fBytes+hg)),rB (ha.fOutside||((decide (((Al v hb).fKind)=3))&&(!(ov (Cy ((Al v hb).fInt)))))),rB (ha.fLong||(decide (200<(((Al v hb).fStr).length:Int))))] 124,.row he 152 5 (A8 AR hd)]) Aa)) ?_));refine oq (AC Aa) ?_;exact HD
      refine AY (A6 (Ae (Ae (A7 (Ae (Ae (Bc ?_)))))));have g0:=B4 gy hw hy;refine A7 (Ae (Li ?_));obtain rfl:=AA g0;exact A5 (ZG Zh (AT Aa) (Jj (i:=2) LO GQ Aa Aa Aa) (AT Aa)) (sS (sS (sS (sS sN)))) ⟨Aa,Aa⟩
     refine A0 (AY (Am (wm Aa (vF CY Aa LH (vL 0 LI Aa (wv (BT Aa Aa) (vF CY Aa C2 (vL 0 CO Aa (vF CY Aa LH (vL 0 LI Aa (wv (BT Aa Aa) (wv (r:=BW [rB (decide (((Al v hb).fKind)=6)),A4 ((Al v hb).fN),rB (decide (((Al v hb).fKind)=6)),rS ([]:Aj),rB false]) (N8 Aa Aa Aa Aa Aa Aa) (Bf (ys:=([(AN.mk (decide (((Al v hb).fKind)=6)) ((Al v hb).fN) (decide (((Al v hb).fKind)=6)) ([]:Aj) false)]:List AN)) (enc:=AR) (css:=[[rB (decide (((Al v hb).fKind)=6)),A4 ((Al v hb).fN),rB (decide (((Al v hb).fKind)=6)),rS ([]:Aj),rB false]]) (xs:=[.tmp 139]) Kk Tn Tryz.zeroValue152 Aa Aa Aa ⟨Em.agg ⟨Up.refl _,Up.refl _,Up.refl _,Up.refl _,Up.refl _,trivial⟩,trivial⟩ Aa Kq Aa Aa Aa (λgI=>?_))))))))))))));refine ck gz λg1 g2=>Exists.elim AcJ λinf hinf=>Cc (xs:=hd) (ys:=([(AN.mk (decide (((Al v hb).fKind)=6)) ((Al v hb).fN) (decide (((Al v hb).fKind)=6)) ([]:Aj) false)]:List AN)) (enc:=AR) (i:=4) Kk hinf.1 hinf.2.1 hinf.2.2.1 hinf.2.2.2 Aa Aa Aa Aa Aa (JD.w (i:=0) Aa Aa) Kq OD g1 Aa (λg3=>?_);refine wa Aa (Ax (B9 (A9 (Bm (Ja [3,3] ?_)))));exact A1 (AG ((hd++([(AN.mk (decide (((Al v hb).fKind)=6)) ((Al v hb).fN) (decide (((Al v hb).fKind)=6)) ([]:Aj) false)]:List AN),(AW.mk (max ha.fDepth ((hd.length:Int)+1)) (IntKind.wrap .i64 (ha.fBytes+hg)) (ha.fOutside||((decide (((Al v hb).fKind)=3))&&(!(ov (Cy ((Al v hb).fInt)))))) (ha.fLong||(decide (200<(((Al v hb).fStr).length:Int)))))),g3) g2 (AI.c Aa (AI.c Aa (AI.c5 Aa Aa Aa Aa Aa AI.nil))) (sC (sC (sC (sS (sS sN))))))
    refine A0 (AY (Am (wm Aa (ob gw λhx g4 g5=>Du [3] Tryz.call118 (X0 F he hd hx g4) ?_))));rintro _ _ ⟨h1,rfl,rfl⟩;refine wa Aa (B3 (wm Aa (wv (Ce (ys:=hx) (enc:=AR) (i:=0) Kk Aa Aa) (wv (BT Aa Aa) (Ax (cz g5 Aa (λg6 g7=>?_) (λg6 g8=>?_)))))))
    ·refine Aq (ck g7 λg9 gA=>If (H1:=[.row h1 152 5 (A8 AR hx),.blk hf (Af (Al v hb)) 83,.blk b2 [A4 (max ha.fDepth ((hd.length:Int)+1)),A4 (IntKind.wrap .i64 (ha.fBytes+hg)),rB (ha.fOutside||((decide (((Al v hb).fKind)=3))&&(!(ov (Cy ((Al v hb).fInt)))))),rB (ha.fLong||(decide (200<(((Al v hb).fStr).length:Int))))] 124,.blk b1 [A4 (max ha.fDepth ((hd.length:Int)+1)),A4 (IntKind.wrap .i64 (ha.fBytes+hg)),rB (ha.fOutside||((decide (((Al v hb).fKind)=3))&&(!(ov (Cy ((Al v hb).fInt)))))),rB (ha.fLong||(decide (200<(((Al v hb).fStr).length:Int))))] 124]) [3,5,7] [⟨[],A4 hb,0⟩,⟨[0],A4 (hb+1),0⟩,⟨[],BW [A4 (max ha.fDepth ((hd.length:Int)+1)),A4 (IntKind.wrap .i64 (ha.fBytes+hg)),rB (ha.fOutside||((decide (((Al v hb).fKind)=3))&&(!(ov (Cy ((Al v hb).fInt)))))),rB (ha.fLong||(decide (200<(((Al v hb).fStr).length:Int))))],1⟩,⟨[1],A4 (hb+1),0⟩,⟨[2],rv undef,2⟩,⟨[],rB true,0⟩] (rle [(5,_),(2,[.row h1 152 5 (A8 AR hx),.blk hf (Af (Al v hb)) 83,.blk b2 [A4 (max ha.fDepth ((hd.length:Int)+1)),A4 (IntKind.wrap .i64 (ha.fBytes+hg)),rB (ha.fOutside||((decide (((Al v hb).fKind)=3))&&(!(ov (Cy ((Al v hb).fInt)))))),rB (ha.fLong||(decide (200<(((Al v hb).fStr).length:Int))))] 124,.blk b1 [A4 (max ha.fDepth ((hd.length:Int)+1)),A4 (IntKind.wrap .i64 (ha.fBytes+hg)),rB (ha.fOutside||((decide (((Al v hb).fKind)=3))&&(!(ov (Cy ((Al v hb).fInt)))))),rB (ha.fLong||(decide (200<(((Al v hb).fStr).length:Int))))] 124])]) [2,4,3] ?_ ?_)
     ·refine oq (Ah Aa) (oq (BU Aa Aa g9) (of (Bl (i:=2) LO GQ Aa Aa Aa Aa) (oq (AC Aa) (KG Aa (SD (ET (i:=3) GQ Aa Aa Aa (Cv.c Aa) Aa Aa (cs':=[A4 (max ha.fDepth ((hd.length:Int)+1)),A4 (IntKind.wrap .i64 (ha.fBytes+hg)),rB (ha.fOutside||((decide (((Al v hb).fKind)=3))&&(!(ov (Cy ((Al v hb).fInt)))))),rB (ha.fLong||(decide (200<(((Al v hb).fStr).length:Int))))]) Aa (H':=[.row h1 152 5 (A8 AR hx),.blk hf (Af (Al v hb)) 83,.blk b2 [A4 (max ha.fDepth ((hd.length:Int)+1)),A4 (IntKind.wrap .i64 (ha.fBytes+hg)),rB (ha.fOutside||((decide (((Al v hb).fKind)=3))&&(!(ov (Cy ((Al v hb).fInt)))))),rB (ha.fLong||(decide (200<(((Al v hb).fStr).length:Int))))] 124,.blk b1 [A4 (max ha.fDepth ((hd.length:Int)+1)),A4 (IntKind.wrap .i64 (ha.fBytes+hg)),rB (ha.fOutside||((decide (((Al v hb).fKind)=3))&&(!(ov (Cy ((Al v hb).fInt)))))),rB (ha.fLong||(decide (200<(((Al v hb).fStr).length:Int))))] 124]) Aa)) ?_))));refine oq (AC Aa) ?_;exact HD
     refine AY (A6 (A7 (Ae (Ae (Bc ?_)))));have gB:=B4 gA hw hy;refine A7 (Ae (Li ?_));obtain rfl:=AA gB;exact A5 (ZG Zh (AT Aa) (Jj (i:=3) LO GQ Aa Aa Aa) (AT Aa)) (sS (sS (sS (sS sN)))) ⟨Aa,Aa⟩
    refine A0 (AK (Ja [2,2] ?_));exact A1 (AG ((hx,(AW.mk (max ha.fDepth ((hd.length:Int)+1)) (IntKind.wrap .i64 (ha.fBytes+hg)) (ha.fOutside||((decide (((Al v hb).fKind)=3))&&(!(ov (Cy ((Al v hb).fInt)))))) (ha.fLong||(decide (200<(((Al v hb).fStr).length:Int)))))),h1) g8 (AI.c Aa (AI.c Aa (AI.c5 Aa Aa Aa Aa Aa AI.nil))) (sC (sC (sC (sS sN)))))
   rintro⟨⟨h6,h7⟩,gC⟩ h2;refine EL ?_;replace h2:EO hb h6 h7=some h4:=h2;unfold EO at h2;refine Ap (ck h2 λgD gE=>wv (BU Aa Aa gD) (wm Aa (Ar ?_)));have gF:=B8 gE hw;exact A1 (AG (hB,(h6,hb+1,h7),gC) ⟨gF,Ago _⟩ (AI.c Aa (AI.c Aa (AI.c5 Aa Aa Aa Aa Aa AI.nil))) (sC (sC (sC sN))))
  refine B9 (A9 ?_);have gG:=Co hE hw hy;exact A9 (Bj (AG (ha,()) gG (AI.c Aa (AI.c Aa AI.nil)) (sC (sC (sS sN)))))
 rintro⟨hq,⟨⟩⟩ h3;refine IY ?_;replace h3:MD hq=some r:=h3;unfold MD at h3;refine Bm (AY (Aq (If (H1:=[.blk b2 (Bo hq) 124,.blk b1 (Bo hq) 124]) [3,5] [⟨[],BW (Bo hq),1⟩,⟨[],A4 0,0⟩,⟨[0],rv undef,2⟩,⟨[],rB false,0⟩] (rle [(3,_),(2,[.blk b2 (Bo hq) 124,.blk b1 (Bo hq) 124])]) [2,4,3] ?_ ?_)))
 ·refine of (Bl (i:=0) LO GQ Aa Aa Aa Aa) (oq (AC Aa) (KG Aa (SD (ET (i:=1) GQ Aa Aa Aa (Cv.c Aa) Aa Aa (cs':=[A4 hq.fDepth,A4 hq.fBytes,rB hq.fOutside,rB hq.fLong]) Aa (H':=[.blk b2 (Bo hq) 124,.blk b1 (Bo hq) 124]) Aa)) ?_));refine oq (AC Aa) ?_;exact HD
 refine AY (A6 (Li ?_));obtain rfl:=AA h3;exact A5 (ZG Zh (AT Aa) (Jj (i:=1) LO GQ Aa Aa Aa) (AT Aa)) (sS (sS sN)) ⟨Aa,Aa⟩
theorem K8 (F:Nat)(v:(List Ac))(r:Int)(h:JJ F v=some r):Fn Tryz.prog GE 55 [Be 4 (A8 Af v)] [] (λR H=>R=A4 r∧H=[]):=by
 refine enter (n:=42) Tryz.func55 Aa Tryz.ntmps55 Aa (λw Z=>?_);unfold JJ at h;refine Am (wa Aa (B3 (wm Aa (ob h λr1 e3 h2=>DM Tryz.call89 (Sr F v r1 e3) Aa (wm Aa (wv (AD Aa Aa) (wv (AD Aa Aa) (wv (AD Aa Aa) (Ci (cs:=[A4 0,A4 0,rB false,rB false]) Tl Aa Aa (λb4=>?_))))))))));refine wa Aa (M5 (i:=0) GQ Aa Aa Aa (Cv.c Aa) Aa Aa ?_);refine wa Aa (Ax (Aq (AO (AV [(0,Be 4 (A8 Af v)),(4,rP b4 0),(12,rB ((!r1.2.2)||(!decide (r1.1=(v.length:Int)))))] [.blk b4 (Bo r1.2.1) 124] ?_ ?_))))
 ·refine Ap (wm Aa (wv (BJ Aa) (wm Aa (AZ (!r1.2.2) (λc5=>?_) (λc5=>?_)))))
  ·refine wf c5 (wf c5 (wf c5 (wf c5 (wv (r:=rB true) (A3 Aa c5 Aa) (wa Aa (Ar ?_))))));exact C8 c5
  refine wo c5 (wm Aa (wo c5 (wm Aa (wo c5 (wv (By (ys:=v) (enc:=Af) D7 Aa) (wo c5 (wv (Cl Aa Aa) (GO Aa c5 Aa (wa Aa (Ar ?_))))))))));exact C8 c5
 refine cz h2 Aa (λc6 h7=>?_) (λc6 h8=>?_)
 ·refine Am (wa Aa (Ax (A6 (A7 (Ae ?_)))));obtain rfl:=AA h7;exact A5 (Cp AbO (AT Aa)) (sS sN) ⟨Aa,Aa⟩
 refine Am (vF Gs Aa JE (vL 0 Xs Aa (wa Aa (Ax (cz h8 Aa (λc9 he=>?_) (λc9 hf=>?_))))))
 ·refine Am (wa Aa (Ax (A6 (A7 (Ae ?_)))));obtain rfl:=AA he;exact A5 (Cp AbO (AT Aa)) (sS sN) ⟨Aa,Aa⟩
 refine AV [(24,rB (r1.2.1.fLong||((decide (200<(v.length:Int)))||((decide (8<r1.2.1.fDepth))||(decide (4000<r1.2.1.fBytes))))))] [] ?_ ?_
 ·refine Ap (vF Gs Aa JE (vL 0 Xs Aa (wm Aa (AZ (r1.2.1.fLong) (λha=>?_) (λha=>?_)))))
  ·refine wf ha (wf ha (wf ha (wv (r:=rB true) (A3 Aa ha Aa) (wm Aa (wz Aa Aa (wz Aa Aa (wz Aa Aa (wv (r:=rB true) (A3 (b:=true) Aa Aa Aa) (wm Aa (wz Aa Aa (wz Aa Aa (wz Aa Aa (wv (r:=rB true) (A3 (b:=true) Aa Aa Aa) (wa Aa (Ar ?_)))))))))))))));exact C8 ha
  refine wo ha (wm Aa (wo ha (wv (By (ys:=v) (enc:=Af) D7 Aa) (wo ha (wv (Ec Aa Aa) (GO Aa ha Aa (wm Aa (AZ (decide (200<(v.length:Int))) (λhb=>?_) (λhb=>?_)))))))))
  ·refine wf hb (wf hb (wf hb (wv (r:=rB true) (A3 Aa hb Aa) (wm Aa (wz Aa Aa (wz Aa Aa (wz Aa Aa (wv (r:=rB true) (A3 (b:=true) Aa Aa Aa) (wa Aa (Ar ?_))))))))));exact C8 (And.intro ha hb)
  refine wo hb (vF Gs Aa C2 (wo hb (vL 0 CO Aa (wo hb (wv (Ec Aa Aa) (GO Aa hb Aa (wm Aa (AZ (decide (8<r1.2.1.fDepth)) (λhd=>?_) (λhd=>?_)))))))))
  ·refine wf hd (wf hd (wf hd (wv (r:=rB true) (A3 Aa hd Aa) (wa Aa (Ar ?_)))));exact C8 (And.intro ha (And.intro hb hd))
  refine wo hd (vF Gs Aa C2 (wo hd (vL 0 CO Aa (wo hd (wv (Ec Aa Aa) (GO Aa hd Aa (wa Aa (Ar ?_))))))));exact C8 (And.intro ha (And.intro hb hd))
 refine cz hf Aa (λhg hh=>?_) (λhg hi=>?_)
 ·refine Am (wa Aa (Ax (A6 (A7 (Ae ?_)))));obtain rfl:=AA hh;exact A5 (Cp AbO (AT Aa)) sN ⟨Aa,Aa⟩
 refine A0 (AK (AY (Am (wa Aa (Ax (A6 ?_))))));obtain rfl:=AA hi;exact A5 (Cp AbO (AT Aa)) sN ⟨Aa,Aa⟩
theorem Vf (F:Nat)(v:(List Ac))(r:(List Ac)×Int)(h:MG F v=some r):Fn Tryz.prog GE 126 [Be 4 (A8 Af v)] [] (λR H=>R=Db [Be 4 (A8 Af r.1),A4 r.2]∧H=[]):=by
 refine enter (n:=11) Tryz.func126 Aa Tryz.ntmps126 Aa (λw Z=>?_);unfold MG at h;refine Am (wa Aa (wa Aa (Ax (Aq (Am (wm Aa (ob h λr1 e3 h2=>DM Zj (K8 F v r1 e3) Aa (wa Aa (B3 (wm Aa (wv (Cl Aa Aa) (Ax (cz h2 Aa (λc4 h5=>?_) (λc4 h6=>?_))))))))))))))
 ·refine Am (wm Aa (wa Aa (wa Aa (Ax (A6 (Ae (WK.up (d:=2) (r:=Be 4 (A8 Af ([]:List Ac))) Aa (Up.le (M1.nil _)) ?_)))))));obtain rfl:=AA h5;exact A5 (E4 Tryz.results126 (AT Aa) (AT Aa)) sN ⟨Aa,Aa⟩
 refine A0 (AY (Am (wm Aa (wa Aa (wa Aa (Ax (A6 ?_)))))));obtain rfl:=AA h6;exact A5 (E4 Tryz.results126 (AT Aa) (AT Aa)) sN ⟨Aa,Aa⟩
end Go.Proofs.YtfobhhegpkinaaaGreatDoor.Q
namespace Go.Proofs.YtfobhhegpkinaaaGreatDoor
open Go
set_option linter.unusedVariables false
def DH (s:Aj)(ha:Int)(hb:Aj):Option (Stp (Int×Aj) (Out (Aj) (Aj))):=
 B0 (decide (ha<(s.length:Int))) (Bi (Da ha (s.length:Int))<|B0 (((decide ((BD s ha)=34))||(decide ((BD s ha)=92)))) (Bi (Dv 1 (hb.length+1))<|Bi (Ch .u8 92)<|LL (hb++[UInt8.ofNat (Int.toNat 92)]) λhd=>Bi (Dv 1 (hd.length+1))<|Bi (Ch .u8 (BD s ha))<|LL (hd++[UInt8.ofNat (Int.toNat (BD s ha))]) λhe=>Bi (Ch .i64 (ha+1))<|some (.next (ha+1,he))) (Bi (Dv 1 (hb.length+1))<|Bi (Ch .u8 (BD s ha))<|LL (hb++[UInt8.ofNat (Int.toNat (BD s ha))]) λhf=>Bi (Ch .i64 (ha+1))<|some (.next (ha+1,hf)))) (some (.out (.go hb)))
def Gu (ha:Aj):Option (Aj):=
 Bi (Dv 1 (ha.length+1))<|LL (ha++[UInt8.ofNat (Int.toNat 34)]) λhb=>some hb
def Mj (F:Nat)(l:Aj)(s:Aj):Option (Aj):=
 Bi (Dv 1 (l.length+1))<|Bi (Ch .u8 34)<|LL (l++[UInt8.ofNat (Int.toNat 34)]) λr6=>Bs (Cj (λσ=>DH s σ.1 σ.2) F (0,r6)) (BQ λν=>Gu ν)
def Ln (F:Nat)(hm:Aj→(List Ac)→Bool→Aj→Ac→Option (Bool×Bool×Aj))(ha:(List Ac)→Bool→Aj→Ac→Option (Bool×Aj))(l:Aj)(v:(List Ac)):Option (Aj):=
 Bi (Da 0 (v.length:Int))<|B0 (decide (((Al v 0).fKind)=1)) (Bi (Dv 1 (l.length+([110,117,108,108]:Aj).length))<|LL (l++([110,117,108,108]:Aj)) λhe=>some he) (B0 (decide (((Al v 0).fKind)=2)) (Bi (Da ((Al v 0).fInt) (([([102,97,108,115,101]:Aj),([116,114,117,101]:Aj)]:List Aj).length:Int))<|Bi (Dv 1 (l.length+(Al ([([102,97,108,115,101]:Aj),([116,114,117,101]:Aj)]:List Aj) ((Al v 0).fInt)).length))<|LL (l++(Al ([([102,97,108,115,101]:Aj),([116,114,117,101]:Aj)]:List Aj) ((Al v 0).fInt))) λhf=>some hf) (B0 (decide (((Al v 0).fKind)=3)) (Bi (Ch .i64 ((Al v 0).fInt))<|Bi (Dv 1 (l.length+(Lib.itoa ((Al v 0).fInt)).length))<|LL (l++(Lib.itoa ((Al v 0).fInt))) λhg=>some hg) (B0 (decide (((Al v 0).fKind)=4)) (Bs (Mj F l ((Al v 0).fStr)) λhh=>some hh) (B0 (decide (((Al v 0).fKind)=6)) (Bi (Da 0 (([123,125]:Aj).length:Int))<|Bi (Dv 1 (l.length+1))<|Bi (Ch .u8 (BD ([123,125]:Aj) 0))<|LL (l++[UInt8.ofNat (Int.toNat (BD ([123,125]:Aj) 0))]) λhi=>Bs (ha v true hi (Al v 0)) λhb=>Bi (Da 1 (([123,125]:Aj).length:Int))<|Bi (Dv 1 (hb.2.length+1))<|Bi (Ch .u8 (BD ([123,125]:Aj) 1))<|LL (hb.2++[UInt8.ofNat (Int.toNat (BD ([123,125]:Aj) 1))]) λhj=>some hj) (Bi (Da 0 (([91,93]:Aj).length:Int))<|Bi (Dv 1 (l.length+1))<|Bi (Ch .u8 (BD ([91,93]:Aj) 0))<|LL (l++[UInt8.ofNat (Int.toNat (BD ([91,93]:Aj) 0))]) λhk=>Bs (ha v true hk (Al v 0)) λhd=>Bi (Da 1 (([91,93]:Aj).length:Int))<|Bi (Dv 1 (hd.2.length+1))<|Bi (Ch .u8 (BD ([91,93]:Aj) 1))<|LL (hd.2++[UInt8.ofNat (Int.toNat (BD ([91,93]:Aj) 1))]) λhl=>some hl)))))
def MA (F:Nat)(ha:Aj→(List Ac)→Option (Aj))(key:Aj)(x:(List Ac))(first:Bool)(l:Aj)(c:Ac):Option (Bool×Bool×Aj):=
 B0 (!first) (Bi (Dv 1 (l.length+1))<|Bi (Ch .u8 44)<|LL (l++[UInt8.ofNat (Int.toNat 44)]) λr8=>B0 (decide (c.fKind=6)) (Bs (Mj F r8 key) λhb=>Bi (Dv 1 (hb.length+1))<|Bi (Ch .u8 58)<|LL (hb++[UInt8.ofNat (Int.toNat 58)]) λhe=>Bs (ha he x) λhf=>some (true,false,hf)) (Bs (ha r8 x) λhg=>some (true,false,hg))) (B0 (decide (c.fKind=6)) (Bs (Mj F l key) λhd=>Bi (Dv 1 (hd.length+1))<|Bi (Ch .u8 58)<|LL (hd++[UInt8.ofNat (Int.toNat 58)]) λhh=>Bs (ha hh x) λhi=>some (true,false,hi)) (Bs (ha l x) λhj=>some (true,false,hj)))
def DR (F:Nat)(v:(List Ac))(c:Ac)(hj:Aj→(List Ac)→Bool→Aj→Ac→Option (Bool×Bool×Aj))(ha:Int)(hb:Int)(hh:Bool)(hi:Aj):Option (Stp (Int×Int×Bool×Aj) (Out (Bool×Aj) (Bool×Aj))):=
 B0 (decide (hb<((Al v 0).fN))) (B0 (decide (((Al v 0).fKind)=6)) (Bi (Da ha (v.length:Int))<|Bi (Ch .i64 (ha+1))<|Bi (G8 (ha+1) (v.length:Int))<|Bs (Km F (List.drop (Int.toNat (ha+1)) v)) λhd=>Bi (Ch .i64 ((ha+1)+hd.1))<|Bi (G8 (ha+1) ((ha+1)+hd.1))<|Bi (G8 ((ha+1)+hd.1) (v.length:Int))<|Bs (hj ((Al v ha).fStr) (List.take (Int.toNat ((ha+1)+hd.1)-Int.toNat (ha+1)) (List.drop (Int.toNat (ha+1)) v)) hh hi c) λhe=>B0 (!he.1) (some (.out (.ret (he.2.1,he.2.2)))) (Bi (Ch .i64 (hb+1))<|some (.next ((ha+1)+hd.1,hb+1,he.2.1,he.2.2)))) (Bi (G8 ha (v.length:Int))<|Bs (Km F (List.drop (Int.toNat ha) v)) λhf=>Bi (Ch .i64 (ha+hf.1))<|Bi (G8 ha (ha+hf.1))<|Bi (G8 (ha+hf.1) (v.length:Int))<|Bs (hj ([]:Aj) (List.take (Int.toNat (ha+hf.1)-Int.toNat ha) (List.drop (Int.toNat ha) v)) hh hi c) λhg=>B0 (!hg.1) (some (.out (.ret (hg.2.1,hg.2.2)))) (Bi (Ch .i64 (hb+1))<|some (.next (ha+hf.1,hb+1,hg.2.1,hg.2.2))))) (some (.out (.go (hh,hi))))
def Ih (ha:Bool)(hb:Aj):Option (Bool×Aj):=
 some (ha,hb)
def Jb (F:Nat)(ha:Aj→(List Ac)→Bool→Aj→Ac→Option (Bool×Bool×Aj))(v:(List Ac))(first:Bool)(l:Aj)(c:Ac):Option (Bool×Aj):=
 Bi (Da 0 (v.length:Int))<|Bs (Cj (λσ=>DR F v c ha σ.1 σ.2.1 σ.2.2.1 σ.2.2.2) F (1,0,first,l)) (BQ λν=>Ih ν.1 ν.2)
mutual
def GU:Nat→Aj→(List Ac)→Option (Aj)
 | 0,_,_=>none
 | nn+1,l,v=>Ln nn (EX nn) (HL nn) l v
def EX:Nat→Aj→(List Ac)→Bool→Aj→Ac→Option (Bool×Bool×Aj)
 | 0,_,_,_,_,_=>none
 | nn+1,key,x,first,l,c=>MA nn (GU nn) key x first l c
def HL:Nat→(List Ac)→Bool→Aj→Ac→Option (Bool×Aj)
 | 0,_,_,_,_=>none
 | nn+1,v,first,l,c=>Jb nn (EX nn) v first l c
end
def ME (F:Nat)(v:(List Ac)):Option (Aj×Int):=
 Bs (JJ F v) λr1=>B0 (!decide (r1=0)) (some (([]:Aj),r1)) (Bs (GU F ([]:Aj) v) λr8=>Bi (decide (0<r8.length))<|some (r8,0))
end Go.Proofs.YtfobhhegpkinaaaGreatDoor
namespace Go.Proofs.YtfobhhegpkinaaaGreatDoor.Q
open Go Go.RowKit
set_option linter.unusedVariables false
set_option linter.unusedSimpArgs false
set_option maxRecDepth 100000
set_option maxHeartbeats 4000000
theorem Pu (F:Nat)(ha:Nat)(hj:Value)(l:Aj)(s:Aj)(r:Aj)(h:Mj F l s=some r):Fn Tryz.prog GE 143 [rP ha 0,rS s] [.bld 146 5 ha hj l] (λR H=>∃w0b:Value,R=rv (.tuple #[])∧H=[.bld 146 5 ha w0b r]):=by
 refine enter (n:=32) Tryz.func143 Aa Tryz.ntmps143 Aa (λw Z=>?_);unfold Mj at h;refine Am (wm Aa (ck h λg1 h2=>ck h2 λg3 h4=>CJ (rs:=[rP ha 0,rI .u8 34]) (Hin:=[.bld 146 5 ha hj l]) (Hr:=[]) Kl Aa (Agn _) (CU ha hj l 34 g1 g3) Aa ?_));rintro _ _ ⟨v5,rfl,rfl⟩;refine bd h4 λr6 e8 h7=>?_;rw[← e8];refine Ax (Aq (Am (wm Aa (wv (BM CX Aa) (wv (r:=A4 0) (Ah Aa) (Ax (AO (ob h7 λhq hr hs=>B5 (S:=Nat×(Int×Aj)×(Value)) (V:=(Aj)×(Value)) 0 (λσ=>Cj (λσ=>DH s σ.1 σ.2) σ.1 σ.2.1=some hq) (λσ=>[(0,rP ha 0),(1,rS s),(8,A4 (s.length:Int)),(9,A4 σ.2.1.1)]) (λσ=>[.bld 146 5 ha σ.2.2 σ.2.1.2]) (λσ=>σ.1) (F,(0,r6),v5) hr (AI.c Aa (AI.c Aa (AI.c Aa (AI.c Aa AI.nil)))) (sC sN) (λσ=>Gu σ.1=some r) (λσ=>[(0,rP ha 0)]) (λσ=>[.bld 146 5 ha σ.2 σ.1]) ?_ ?_))))))))
 ·rintro⟨gf,⟨hd,he⟩,hf⟩ ht;refine EL ?_;obtain⟨hm,rfl,t127,hg,hk⟩:=CM ht;replace hg:DH s hd he=some t127:=hg;unfold DH at hg;refine Am (wv (De Aa Aa) (Ax (Aq (cz hg Aa (λhu hw=>?_) (λhu hx=>?_)))))
  ·refine A0 (AY (Aq (AO (Am (wm Aa (wa Aa (Ax (Aq (ck hw λhh hy=>AV [(0,rP ha 0),(1,rS s),(4,A4 hd),(8,A4 (s.length:Int)),(9,A4 hd),(21,rB ((decide ((BD s hd)=34))||(decide ((BD s hd)=92))))] [.bld 146 5 ha hf he] ?_ ?_)))))))))
   ·refine Ap (wm Aa (wm Aa (wv (BF CX Aa Aa hh) (wv (BT Aa Aa) (wm Aa (AZ (decide ((BD s hd)=34)) (λhb=>?_) (λhb=>?_)))))))
    ·refine wf hb (wf hb (wf hb (wf hb (wv (r:=rB true) (A3 Aa hb Aa) (Ar ?_)))));exact C8 hb
    refine wo hb (wm Aa (wo hb (wm Aa (wo hb (wv (BF CX Aa Aa hh) (wo hb (wv (BT Aa Aa) (GO Aa hb Aa (Ar ?_)))))))));exact C8 hb
   refine cz hy Aa (λhz h0=>?_) (λhz h1=>?_)
   ·refine Ap (wm Aa (ck h0 λh3 h5=>ck h5 λh6 h8=>CJ (rs:=[rP ha 0,rI .u8 92]) (Hin:=[.bld 146 5 ha hf he]) (Hr:=[]) Kl Aa (Agn _) (CU ha hf he 92 h3 h6) Aa ?_));rintro _ _ ⟨hn,rfl,rfl⟩;refine bd h8 λho h9 hA=>?_;rw[← h9];refine Ax (Ap (wm Aa (wm Aa (wm Aa (wv (BF CX Aa Aa hh) (ck hA λhB hC=>ck hC λhD hE=>CJ (rs:=[rP ha 0,rI .u8 (BD s hd)]) (Hin:=[.bld 146 5 ha hn ho]) (Hr:=[]) Kl Aa (Agn _) (CU ha hn ho (BD s hd) hB hD) Aa ?_))))));rintro _ _ ⟨hG,rfl,rfl⟩;refine bd hE λhH hI hJ=>?_;rw[← hI];refine Ar (AK (AY (Ap (ck hJ λhK hL=>wv (BU Aa Aa hK) (wm Aa (Ar ?_))))));have hN:=B8 hL hk;exact A1 (AG (hm,(hd+1,hH),hG) ⟨hN,Ago _⟩ (AI.c Aa (AI.c Aa (AI.c Aa (AI.c Aa AI.nil)))) (sC sN))
   refine A0 (AY (Ap (wm Aa (wm Aa (wm Aa (wv (BF CX Aa Aa hh) (ck h1 λhO hP=>ck hP λhQ hR=>CJ (rs:=[rP ha 0,rI .u8 (BD s hd)]) (Hin:=[.bld 146 5 ha hf he]) (Hr:=[]) Kl Aa (Agn _) (CU ha hf he (BD s hd) hO hQ) Aa ?_)))))));rintro _ _ ⟨hS,rfl,rfl⟩;refine bd hR λhT hU hV=>?_;rw[← hU];refine Ar (AK (AY (Ap (ck hV λhW hX=>wv (BU Aa Aa hW) (wm Aa (Ar ?_))))));have hY:=B8 hX hk;exact A1 (AG (hm,(hd+1,hT),hS) ⟨hY,Ago _⟩ (AI.c Aa (AI.c Aa (AI.c Aa (AI.c Aa AI.nil)))) (sC sN))
  refine B9 (A9 ?_);have hZ:=Co hx hk hs;exact A9 (Bj (AG (he,hf) hZ (AI.c Aa AI.nil) (sC sN)))
 rintro⟨hl,hp⟩ hi;refine IY ?_;replace hi:Gu hl=some r:=hi;unfold Gu at hi;refine Bm (AY (Ap (wm Aa (ck hi λga gb=>CJ (rs:=[rP ha 0,rI .u8 34]) (Hin:=[.bld 146 5 ha hp hl]) (Hr:=[]) Kl Aa (Agn _) (CU ha hp hl 34 ga g3) Aa ?_))));rintro _ _ ⟨gc,rfl,rfl⟩;refine bd gb λgg gd ge=>?_;rw[← gd];refine Ar ?_;obtain rfl:=AA ge;exact Ie (XB Tryz.results143) (sC sN) ⟨gc,Aa,Aa⟩
theorem Xu (F:Nat)(hl:Aj→(List Ac)→Bool→Aj→Ac→Option (Bool×Bool×Aj))(hm:(List Ac)→Bool→Aj→Ac→Option (Bool×Aj))(g6:(∀(hd:Nat) (he:Nat) (ha:Nat) (hb:Value) (hf:Nat) (key:Aj) (x:(List Ac)) (first:Bool) (l:Aj) (c:Ac) (r:Bool×Bool×Aj),hl key x first l c=some r→Fn Tryz.prog GE 146 [rS key,Be 4 (A8 Af x),rP hd 0,rP he 0,rP hf 0] [.blk hd [rB first] 4,.blk he [rP ha 0] 143,.bld 146 5 ha hb l,.blk hf (Af c) 83] (λR H=>∃w3b:Value,R=rB r.1∧H=[.blk hd [rB r.2.1] 4,.blk he [rP ha 0] 143,.bld 146 5 ha w3b r.2.2,.blk hf (Af c) 83])))(hn:(∀(hd:Nat) (he:Nat) (ha:Nat) (hb:Value) (hf:Nat) (v:(List Ac)) (first:Bool) (l:Aj) (c:Ac) (r:Bool×Aj),hm v first l c=some r→Fn Tryz.prog GE 145 [Be 4 (A8 Af v),rv (.func (.func 146) #[] #[(.pointer (some ⟨hd,0,none⟩)),(.pointer (some ⟨he,0,none⟩)),(.pointer (some ⟨hf,0,none⟩))])] [.blk hd [rB first] 4,.blk he [rP ha 0] 143,.bld 146 5 ha hb l,.blk hf (Af c) 83] (λR H=>∃w1_1b:Value,R=rv (.tuple #[])∧H=[.blk hd [rB r.1] 4,.blk he [rP ha 0] 143,.bld 146 5 ha w1_1b r.2,.blk hf (Af c) 83])))(ha:Nat)(hb:Value)(l:Aj)(v:(List Ac))(r:Aj)(h:Ln F hl hm l v=some r):Fn Tryz.prog GE 110 [rP ha 0,Be 4 (A8 Af v)] [.bld 146 5 ha hb l] (λR H=>∃w0b:Value,R=rv (.tuple #[])∧H=[.bld 146 5 ha w0b r]):=by
 refine enter (n:=52) Tryz.func110 Aa Tryz.ntmps110 Aa (λw Z=>?_);unfold Ln at h;refine Am (Zs Aa (BA Aa) Aa (λb1=>?_));refine B3 (wm Aa (ck h λg2 h3=>wv (AU (enc:=Af) (ys:=v) D7 EE Aa Aa g2) (wv (DB Xq EE Aa Aa Aa) (Ci (cs:=[A4 0,A4 0,rS ([]:Aj),A4 0]) O0 Aa Aa (λb4=>?_)))));refine M5 (i:=0) EE Aa Aa Aa (Cv.c Aa) Aa Aa ?_;refine B3 (vF CY Aa LH (vL 0 LI Aa (Ax (AO (Am (wv (BT Aa Aa) (wa Aa (Ax (cz h3 Aa (λc5 h6=>?_) (λc5 ho=>?_))))))))))
 ·refine Ap (vL 1 Gt Aa (ck h6 λg7 h8=>CJ (rs:=[rP ha 0,rS ([110,117,108,108]:Aj)]) (Hin:=[.bld 146 5 ha hb l]) (Hr:=[.blk b4 (Af (Al v 0)) 83,.blk b1 [rP ha 0] 143]) Tryz.call142 Aa ((AS (i:=2) Aa).trans (Agk _ (Agn _))) (IQ ha hb l ([110,117,108,108]:Aj) g7) Aa ?_));rintro _ _ ⟨v9,rfl,rfl⟩;refine bd h8 λg8 hp hq=>?_;rw[← hp];refine Ar (AK ?_);obtain rfl:=AA hq;exact Ie (XB QZ) (sC (sS (sS sN))) ⟨v9,Aa,Aa⟩
 refine Am (wv (BT Aa Aa) (wa Aa (Ax (cz ho Aa (λhr hs=>?_) (λhr ht=>?_)))))
 ·refine ck hs λg16 hu=>Lk (H1:=[.blk b4 (Af (Al v 0)) 83,.blk b1 [rP ha 0] 143,.bld 146 5 ha hb l]) 6 [2,4] [⟨[],rP ha 0,1⟩,⟨[],Be 1 (A8 eS ([([102,97,108,115,101]:Aj),([116,114,117,101]:Aj)]:List Aj)),0⟩,⟨[],rP b4 1,0⟩,⟨[2],A4 ((Al v 0).fInt),1⟩,⟨[1,3],I4 [rS (Al ([([102,97,108,115,101]:Aj),([116,114,117,101]:Aj)]:List Aj) ((Al v 0).fInt))],0⟩,⟨[4],rS (Al ([([102,97,108,115,101]:Aj),([116,114,117,101]:Aj)]:List Aj) ((Al v 0).fInt)),0⟩] (rle [(7,_)]) [32,33,34,35,36,37,2,4] ?_ ?_
  ·refine of (AQ (i:=1) Gt Aa Aa Aa) (TN Aa (λH=>CF (ys:=([([102,97,108,115,101]:Aj),([116,114,117,101]:Aj)]:List Aj)) (enc:=eS) (css:=[[rS ([102,97,108,115,101]:Aj)],[rS ([116,114,117,101]:Aj)]]) (xs:=[.const (.string ⟨#[102,97,108,115,101]⟩),.const (.string ⟨#[116,114,117,101]⟩)]) C7 BS Tk Aa Aa Aa ⟨Em.one Aa (Up.refl _),Em.one Aa (Up.refl _),trivial⟩ Aa Di Aa Aa) ?_);refine oq (Aw CY Aa C2 Aa Aa) (of (AQ (i:=0) CO Aa Aa Aa) (oq (AU (enc:=eS) (ys:=([([102,97,108,115,101]:Aj),([116,114,117,101]:Aj)]:List Aj)) C7 BS Aa Aa g16) (oq (AH Cf Aa Aa) ?_)));exact HD
  refine ck hu λg18 hw=>CJ (rs:=[rP ha 0,rS (Al ([([102,97,108,115,101]:Aj),([116,114,117,101]:Aj)]:List Aj) ((Al v 0).fInt))]) (Hin:=[.bld 146 5 ha hb l]) (Hr:=[.blk b4 (Af (Al v 0)) 83,.blk b1 [rP ha 0] 143]) Tryz.call142 Aa ((AS (i:=2) Aa).trans (Agk _ (Agn _))) (IQ ha hb l (Al ([([102,97,108,115,101]:Aj),([116,114,117,101]:Aj)]:List Aj) ((Al v 0).fInt)) g18) Aa ?_;rintro _ _ ⟨v20,rfl,rfl⟩;refine bd hw λg9 hx hy=>?_;rw[← hx];refine Ar (AK ?_);obtain rfl:=AA hy;exact Ie (XB QZ) (sC (sS (sS sN))) ⟨v20,Aa,Aa⟩
 refine Am (wv (BT Aa Aa) (wa Aa (Ax (cz ht Aa (λhz h0=>?_) (λhz h1=>?_)))))
 ·refine ck h0 λh2 h4=>Lk (H1:=[.blk b4 (Af (Al v 0)) 83,.blk b1 [rP ha 0] 143,.bld 146 5 ha hb l]) 4 [2,4] [⟨[],rP ha 0,1⟩,⟨[],rP b4 1,0⟩,⟨[1],A4 ((Al v 0).fInt),1⟩,⟨[2],rS (Lib.itoa ((Al v 0).fInt)),0⟩] (rle [(5,_)]) [41,42,43,44,2,4] ?_ ?_
  ·refine of (AQ (i:=1) Gt Aa Aa Aa) (oq (Aw CY Aa C2 Aa Aa) (of (AQ (i:=0) CO Aa Aa Aa) (TN Aa (λH=>Et (rs:=[A4 ((Al v 0).fInt)]) (r:=rS (Lib.itoa ((Al v 0).fInt))) Pf Aa (EQ ((Al v 0).fInt) h2) Aa) ?_)));exact HD
  refine ck h4 λh5 h7=>CJ (rs:=[rP ha 0,rS (Lib.itoa ((Al v 0).fInt))]) (Hin:=[.bld 146 5 ha hb l]) (Hr:=[.blk b4 (Af (Al v 0)) 83,.blk b1 [rP ha 0] 143]) Tryz.call142 Aa ((AS (i:=2) Aa).trans (Agk _ (Agn _))) (IQ ha hb l (Lib.itoa ((Al v 0).fInt)) h5) Aa ?_;rintro _ _ ⟨v31,rfl,rfl⟩;refine bd h7 λgA h9 hA=>?_;rw[← h9];refine Ar (AK ?_);obtain rfl:=AA hA;exact Ie (XB QZ) (sC (sS (sS sN))) ⟨v31,Aa,Aa⟩
 refine Am (wv (BT Aa Aa) (wa Aa (Ax (cz h1 Aa (λhB hC=>?_) (λhB hD=>?_)))))
 ·refine Ap (vL 1 Gt Aa (vF CY Aa BS (vL 0 Cf Aa (ob hC λhE hG hH=>Du [2] Tryz.call143 (Pu F ha hb l ((Al v 0).fStr) hE hG) ?_))));rintro _ _ ⟨hI,rfl,rfl⟩;refine Ar (AK ?_);obtain rfl:=AA hH;exact Ie (XB QZ) (sC (sS (sS sN))) ⟨hI,Aa,Aa⟩
 refine Am (wv (r:=rS ([91,93]:Aj)) (AC Aa) (Ax (Aq (Am (vF CY Aa LH (vL 0 LI Aa (wv (BT Aa Aa) (Ax (cz hD Aa (λhJ hK=>?_) (λhJ hL=>?_))))))))))
 ·refine Ap (wv (r:=rS ([123,125]:Aj)) (AC Aa) (Ax (Aq (ck hK λhN hO=>Lk (H1:=[.blk b4 (Af (Al v 0)) 83,.blk b1 [rP ha 0] 143,.bld 146 5 ha hb l]) 3 [1,2,4,5] [⟨[],rP ha 0,1⟩,⟨[],rS ([123,125]:Aj),0⟩,⟨[1],rI .u8 (BD ([123,125]:Aj) 0),0⟩] (rle [(4,_)]) [15,16,17,1,2,4,5] ?_ ?_))))
  ·refine of (AQ (i:=1) Gt Aa Aa Aa) (oq (Ah Aa) (oq (BF CX Aa Aa hN) ?_));exact HD
  refine ck hO λhP hQ=>ck hQ λhR hS=>CJ (rs:=[rP ha 0,rI .u8 (BD ([123,125]:Aj) 0)]) (Hin:=[.bld 146 5 ha hb l]) (Hr:=[.blk b4 (Af (Al v 0)) 83,.blk b1 [rP ha 0] 143]) Kl Aa ((AS (i:=2) Aa).trans (Agk _ (Agn _))) (CU ha hb l (BD ([123,125]:Aj) 0) hP hR) Aa ?_;rintro _ _ ⟨v51,rfl,rfl⟩;refine bd hS λhT hU hV=>?_;rw[← hU];refine B3 (Ci (cs:=[rB false]) Tryz.zeroValue4 Aa Aa (λhi=>?_));refine us (i:=0) JE Aa Aa (BA Aa) Aa Aa ?_;refine B3 (wm Aa (wv (r:=rv (.func (.func 146) #[] #[(.pointer (some ⟨hi,0,none⟩)),(.pointer (some ⟨b1,0,none⟩)),(.pointer (some ⟨b4,0,none⟩))])) (Mr Aa) (ob hV λhg hW hX=>Du [0,2,0,0] Tryz.call145 (hn hi b1 ha v51 b4 v true hT (Al v 0) hg hW) ?_)));rintro _ _ ⟨hk,rfl,rfl⟩;refine Ax (ck hX λhY hZ=>Lk (H1:=[.blk hi [rB hg.1] 4,.blk b1 [rP ha 0] 143,.bld 146 5 ha hk hg.2,.blk b4 (Af (Al v 0)) 83]) 3 [2,5] [⟨[],rP ha 0,1⟩,⟨[],rS ([123,125]:Aj),0⟩,⟨[1],rI .u8 (BD ([123,125]:Aj) 1),0⟩] (rle [(4,_)]) [22,23,24,2,5] ?_ ?_)
  ·refine of (AQ (i:=1) Gt Aa Aa Aa) (oq (Ah Aa) (oq (BF CX Aa Aa hY) ?_));exact HD
  refine ck hZ λga gb=>ck gb λgc gd=>CJ (rs:=[rP ha 0,rI .u8 (BD ([123,125]:Aj) 1)]) (Hin:=[.bld 146 5 ha hk hg.2]) (Hr:=[.blk hi [rB hg.1] 4,.blk b1 [rP ha 0] 143,.blk b4 (Af (Al v 0)) 83]) Kl Aa ((AS (i:=2) Aa).trans (Agk _ (Agn _))) (CU ha hk hg.2 (BD ([123,125]:Aj) 1) ga gc) Aa ?_;rintro _ _ ⟨ge,rfl,rfl⟩;refine bd gd λgB gf gg=>?_;rw[← gf];refine Ar (AK ?_);obtain rfl:=AA gg;exact Ie (XB QZ) (sC (sS (sS (sS sN)))) ⟨ge,Aa,Aa⟩
 refine A0 (AY (Aq (ck hL λgh gi=>Lk (H1:=[.blk b4 (Af (Al v 0)) 83,.blk b1 [rP ha 0] 143,.bld 146 5 ha hb l]) 3 [1,2,4,5] [⟨[],rP ha 0,1⟩,⟨[],rS ([91,93]:Aj),0⟩,⟨[1],rI .u8 (BD ([91,93]:Aj) 0),0⟩] (rle [(4,_)]) [15,16,17,1,2,4,5] ?_ ?_)))
 ·refine of (AQ (i:=1) Gt Aa Aa Aa) (oq (Ah Aa) (oq (BF CX Aa Aa gh) ?_));exact HD
 refine ck gi λgj gl=>ck gl λgm gp=>CJ (rs:=[rP ha 0,rI .u8 (BD ([91,93]:Aj) 0)]) (Hin:=[.bld 146 5 ha hb l]) (Hr:=[.blk b4 (Af (Al v 0)) 83,.blk b1 [rP ha 0] 143]) Kl Aa ((AS (i:=2) Aa).trans (Agk _ (Agn _))) (CU ha hb l (BD ([91,93]:Aj) 0) gj gm) Aa ?_;rintro _ _ ⟨gq,rfl,rfl⟩;refine bd gp λgr gs gt=>?_;rw[← gs];refine B3 (Ci (cs:=[rB false]) Tryz.zeroValue4 Aa Aa (λhj=>?_));refine us (i:=0) JE Aa Aa (BA Aa) Aa Aa ?_;refine B3 (wm Aa (wv (r:=rv (.func (.func 146) #[] #[(.pointer (some ⟨hj,0,none⟩)),(.pointer (some ⟨b1,0,none⟩)),(.pointer (some ⟨b4,0,none⟩))])) (Mr Aa) (ob gt λhh gu gv=>Du [0,2,0,0] Tryz.call145 (hn hj b1 ha gq b4 v true gr (Al v 0) hh gu) ?_)));rintro _ _ ⟨v85,rfl,rfl⟩;refine Ax (ck gv λgw gx=>Lk (H1:=[.blk hj [rB hh.1] 4,.blk b1 [rP ha 0] 143,.bld 146 5 ha v85 hh.2,.blk b4 (Af (Al v 0)) 83]) 3 [2,5] [⟨[],rP ha 0,1⟩,⟨[],rS ([91,93]:Aj),0⟩,⟨[1],rI .u8 (BD ([91,93]:Aj) 1),0⟩] (rle [(4,_)]) [22,23,24,2,5] ?_ ?_)
 ·refine of (AQ (i:=1) Gt Aa Aa Aa) (oq (Ah Aa) (oq (BF CX Aa Aa gw) ?_));exact HD
 refine ck gx λgy gz=>ck gz λg0 g1=>CJ (rs:=[rP ha 0,rI .u8 (BD ([91,93]:Aj) 1)]) (Hin:=[.bld 146 5 ha v85 hh.2]) (Hr:=[.blk hj [rB hh.1] 4,.blk b1 [rP ha 0] 143,.blk b4 (Af (Al v 0)) 83]) Kl Aa ((AS (i:=2) Aa).trans (Agk _ (Agn _))) (CU ha v85 hh.2 (BD ([91,93]:Aj) 1) gy g0) Aa ?_;rintro _ _ ⟨g3,rfl,rfl⟩;refine bd g1 λgC g4 g5=>?_;rw[← g4];refine Ar (AK ?_);obtain rfl:=AA g5;exact Ie (XB QZ) (sC (sS (sS (sS sN)))) ⟨g3,Aa,Aa⟩
theorem Va (F:Nat)(hj:Aj→(List Ac)→Option (Aj))(hg:(∀(ha:Nat) (hb:Value) (l:Aj) (v:(List Ac)) (r:Aj),hj l v=some r→Fn Tryz.prog GE 110 [rP ha 0,Be 4 (A8 Af v)] [.bld 146 5 ha hb l] (λR H=>∃w0b:Value,R=rv (.tuple #[])∧H=[.bld 146 5 ha w0b r])))(hd:Nat)(he:Nat)(ha:Nat)(hb:Value)(hf:Nat)(key:Aj)(x:(List Ac))(first:Bool)(l:Aj)(c:Ac)(r:Bool×Bool×Aj)(h:MA F hj key x first l c=some r):Fn Tryz.prog GE 146 [rS key,Be 4 (A8 Af x),rP hd 0,rP he 0,rP hf 0] [.blk hd [rB first] 4,.blk he [rP ha 0] 143,.bld 146 5 ha hb l,.blk hf (Af c) 83] (λR H=>∃w3b:Value,R=rB r.1∧H=[.blk hd [rB r.2.1] 4,.blk he [rP ha 0] 143,.bld 146 5 ha w3b r.2.2,.blk hf (Af c) 83]):=by
 refine enter (n:=23) Tryz.func146 Aa Tryz.ntmps146 Aa (λw Z=>?_);unfold MA at h;refine Am (wa Aa (Ax (Aq (Am (vL 0 Xs Aa (wv (BJ Aa) (Ax (cz h Aa (λc1 h2=>?_) (λc1 hm=>?_)))))))))
 ·refine Ap (vL 1 Gt Aa (ck h2 λg3 h4=>ck h4 λg5 h6=>CJ (rs:=[rP ha 0,rI .u8 44]) (Hin:=[.bld 146 5 ha hb l]) (Hr:=[.blk hd [rB first] 4,.blk he [rP ha 0] 143,.blk hf (Af c) 83]) Kl Aa ((AS (i:=2) Aa).trans (Agk _ (Agn _))) (CU ha hb l 44 g3 g5) Aa ?_));rintro _ _ ⟨v7,rfl,rfl⟩;refine bd h6 λr8 hn h9=>?_;rw[← hn];refine B3 (us (i:=1) JE Aa Aa (BA Aa) Aa Aa ?_);refine Ax (Aq (Am (vF CY Aa LH (vL 3 LI Aa (wv (BT Aa Aa) (Ax (cz h9 Aa (λho hp=>?_) (λho hq=>?_))))))))
  ·refine Am (vL 2 Gt Aa (wm Aa (ob hp λhh hr hs=>Du [0] Tryz.call143 (Pu F ha v7 r8 key hh hr) ?_)));rintro _ _ ⟨hk,rfl,rfl⟩;refine Ax (Ap (vL 2 Gt Aa (ck hs λg17 ht=>ck ht λg19 hu=>CJ (rs:=[rP ha 0,rI .u8 58]) (Hin:=[.bld 146 5 ha hk hh]) (Hr:=[.blk hd [rB false] 4,.blk he [rP ha 0] 143,.blk hf (Af c) 83]) Kl Aa (Agn _) (CU ha hk hh 58 g17 g19) Aa ?_)));rintro _ _ ⟨v21,rfl,rfl⟩;refine bd hu λhw hx hy=>?_;rw[← hx];refine B3 (vL 2 Gt Aa (wm Aa (ob hy λhz h0 h1=>Du [0] Tr (hg ha v21 hw x hz h0) ?_)));rintro _ _ ⟨h3,rfl,rfl⟩;refine B3 (wa Aa (Ax (A6 (Ja [1,1] ?_))));obtain rfl:=AA h1;exact A5 (Cp VX (AT Aa)) (sC (sC (sC (sC sN)))) ⟨h3,Aa,Aa⟩
  refine A0 (AY (Am (vL 2 Gt Aa (wm Aa (ob hq λh5 h7 h8=>Du [0] Tr (hg ha v7 r8 x h5 h7) ?_)))));rintro _ _ ⟨hA,rfl,rfl⟩;refine B3 (wa Aa (Ax (A6 (Ja [1,1] ?_))));obtain rfl:=AA h8;exact A5 (Cp VX (AT Aa)) (sC (sC (sC (sC sN)))) ⟨hA,Aa,Aa⟩
 refine A0 (AY (Am (us (i:=0) JE Aa Aa (BA Aa) Aa Aa ?_)));refine Ax (Aq (Am (vF CY Aa LH (vL 3 LI Aa (wv (BT Aa Aa) (Ax (cz hm Aa (λhB hC=>?_) (λhB hD=>?_))))))))
 ·refine Am (vL 1 Gt Aa (wm Aa (ob hC λhi hE hG=>Du [2] Tryz.call143 (Pu F ha hb l key hi hE) ?_)));rintro _ _ ⟨hl,rfl,rfl⟩;refine Ax (Ap (vL 2 Gt Aa (ck hG λhH hI=>ck hI λhJ hK=>CJ (rs:=[rP ha 0,rI .u8 58]) (Hin:=[.bld 146 5 ha hl hi]) (Hr:=[.blk hd [rB false] 4,.blk he [rP ha 0] 143,.blk hf (Af c) 83]) Kl Aa (Agn _) (CU ha hl hi 58 hH hJ) Aa ?_)));rintro _ _ ⟨hL,rfl,rfl⟩;refine bd hK λhN hO hP=>?_;rw[← hO];refine B3 (vL 2 Gt Aa (wm Aa (ob hP λhQ hR hS=>Du [0] Tr (hg ha hL hN x hQ hR) ?_)));rintro _ _ ⟨hT,rfl,rfl⟩;refine B3 (wa Aa (Ax (A6 (Ja [1,1] ?_))));obtain rfl:=AA hS;exact A5 (Cp VX (AT Aa)) (sC (sC (sC (sC sN)))) ⟨hT,Aa,Aa⟩
 refine A0 (AY (Am (vL 1 Gt Aa (wm Aa (ob hD λhU hV hW=>Du [2] Tr (hg ha hb l x hU hV) ?_)))));rintro _ _ ⟨hX,rfl,rfl⟩;refine B3 (wa Aa (Ax (A6 (Ja [1,1] ?_))));obtain rfl:=AA hW;exact A5 (Cp VX (AT Aa)) (sC (sC (sC (sC sN)))) ⟨hX,Aa,Aa⟩
theorem UZ (F:Nat)(hm:Aj→(List Ac)→Bool→Aj→Ac→Option (Bool×Bool×Aj))(hx:(∀(hd:Nat) (he:Nat) (hb:Nat) (hn:Value) (hf:Nat) (key:Aj) (x:(List Ac)) (first:Bool) (l:Aj) (c:Ac) (r:Bool×Bool×Aj),hm key x first l c=some r→Fn Tryz.prog GE 146 [rS key,Be 4 (A8 Af x),rP hd 0,rP he 0,rP hf 0] [.blk hd [rB first] 4,.blk he [rP hb 0] 143,.bld 146 5 hb hn l,.blk hf (Af c) 83] (λR H=>∃w3b:Value,R=rB r.1∧H=[.blk hd [rB r.2.1] 4,.blk he [rP hb 0] 143,.bld 146 5 hb w3b r.2.2,.blk hf (Af c) 83])))(hd:Nat)(he:Nat)(hb:Nat)(hn:Value)(hf:Nat)(v:(List Ac))(first:Bool)(l:Aj)(c:Ac)(r:Bool×Aj)(h:Jb F hm v first l c=some r):Fn Tryz.prog GE 145 [Be 4 (A8 Af v),rv (.func (.func 146) #[] #[(.pointer (some ⟨hd,0,none⟩)),(.pointer (some ⟨he,0,none⟩)),(.pointer (some ⟨hf,0,none⟩))])] [.blk hd [rB first] 4,.blk he [rP hb 0] 143,.bld 146 5 hb hn l,.blk hf (Af c) 83] (λR H=>∃w1_1b:Value,R=rv (.tuple #[])∧H=[.blk hd [rB r.1] 4,.blk he [rP hb 0] 143,.bld 146 5 hb w1_1b r.2,.blk hf (Af c) 83]):=by
 refine enter (n:=52) Tryz.func145 Aa Tryz.ntmps145 Aa (λw Z=>?_);unfold Jb at h;refine Am (wa Aa (B3 (wm Aa (ck h λg1 h2=>wv (AU (enc:=Af) (ys:=v) D7 EE Aa Aa g1) (wv (Av CY Aa C2 Aa Aa) (wv (AH CO Aa Aa) (wv (r:=A4 0) (Ah Aa) (Ax (AO (ob h2 λh0 h1 hq=>B5 (S:=Nat×(Int×Int×Bool×Aj)×(Value)) (V:=(Bool×Aj)×(Value)) 0 (λσ=>Cj (λσ=>DR F v c hm σ.1 σ.2.1 σ.2.2.1 σ.2.2.2) σ.1 σ.2.1=some h0) (λσ=>[(0,Be 4 (A8 Af v)),(1,rv (.func (.func 146) #[] #[(.pointer (some ⟨hd,0,none⟩)),(.pointer (some ⟨he,0,none⟩)),(.pointer (some ⟨hf,0,none⟩))])),(4,A4 σ.2.1.1),(12,A4 ((Al v 0).fN)),(13,A4 σ.2.1.2.1)]) (λσ=>[.blk hd [rB σ.2.1.2.2.1] 4,.blk he [rP hb 0] 143,.bld 146 5 hb σ.2.2 σ.2.1.2.2.2,.blk hf (Af c) 83]) (λσ=>σ.1) (F,(1,0,first,l),hn) h1 (AI.c5 Aa Aa Aa Aa Aa AI.nil) (sC (sC (sC (sC sN)))) (λσ=>Ih σ.1.1 σ.1.2=some r) (λσ=>[]) (λσ=>[.blk hd [rB σ.1.1] 4,.blk he [rP hb 0] 143,.bld 146 5 hb σ.2 σ.1.2,.blk hf (Af c) 83]) ?_ ?_))))))))))
 ·rintro⟨gz,⟨ha,hr,hg,hh⟩,hk⟩ h3;refine EL ?_;obtain⟨hy,rfl,h4,ho,hl⟩:=CM h3;replace ho:DR F v c hm ha hr hg hh=some h4:=ho;unfold DR at ho;refine Am (wv (De Aa Aa) (Ax (Aq (cz ho Aa (λc175 h5=>?_) (λc175 h6=>?_)))))
  ·refine A0 (AY (Aq (AO (Am (wv (r:=rS ([]:Aj)) (AC Aa) (Ax (Aq (Am (wm Aa (wv (AU (enc:=Af) (ys:=v) D7 EE Aa Aa g1) (wv (Av CY Aa LH Aa Aa) (wv (AH LI Aa Aa) (wv (BT Aa Aa) (Ax (cz h5 Aa (λh7 h8=>?_) (λh7 h9=>?_))))))))))))))))
   ·refine Am (wm Aa (wm Aa (ck h8 λhA hB=>wv (AU (enc:=Af) (ys:=v) D7 EE Aa Aa hA) (wv (Av CY Aa BS Aa Aa) (wv (AH Cf Aa Aa) (wa Aa (Ax (Ap (wm Aa (ck hB λhC hD=>wv (BU Aa Aa hC) (wa Aa (B3 (wm Aa (wm Aa (ck hD λhE hG=>wv (r:=Be 4 (A8 Af (List.drop (BH (ha+1)) v))) (PE D7 EE Aa Aa hE) (ob hG λhi hH hI=>DM Tryz.call89 (Sr F (List.drop (BH (ha+1)) v) hi hH) Aa (wm Aa (wv (AD Aa Aa) (wv (AD Aa Aa) ?_)))))))))))))))))));refine wv (AD Aa Aa) (Ci (cs:=[A4 0,A4 0,rB false,rB false]) Tl Aa Aa (λhJ=>?_));refine wa Aa (M5 (i:=0) GQ Aa Aa Aa (Cv.c Aa) Aa Aa ?_);refine wa Aa (Ax (Aq (Am (wm Aa (wm Aa (wm Aa (wm Aa (wm Aa (wm Aa (ck hI λhs hK=>wv (BU Aa Aa hs) (wm Aa (wm Aa (wv (BU Aa Aa hs) (ck hK λhL hN=>ck hN λhO hP=>wv (r:=Be 4 (A8 Af (List.take (BH ((ha+1)+hi.1)-BH (ha+1)) (List.drop (BH (ha+1)) v)))) (PD D7 EE Aa Aa Aa Aa hL hO) (ob hP λht hQ hR=>Sq (rs:=[rS ((Al v ha).fStr),Be 4 (A8 Af (List.take (BH ((ha+1)+hi.1)-BH (ha+1)) (List.drop (BH (ha+1)) v)))]) (Hin:=[.blk hd [rB hg] 4,.blk he [rP hb 0] 143,.bld 146 5 hb hk hh,.blk hf (Af c) 83]) (Hr:=[.blk hJ (Bo hi.2.1) 124]) Tryz.call146 Aa Aa ((AS (i:=1) Aa).trans (Agk _ ((AS (i:=1) Aa).trans (Agk _ ((AS (i:=1) Aa).trans (Agk _ ((AS (i:=1) Aa).trans (Agk _ (Agn _))))))))) (hx hd he hb hk hf ((Al v ha).fStr) (List.take (BH ((ha+1)+hi.1)-BH (ha+1)) (List.drop (BH (ha+1)) v)) hg hh c ht hQ) Aa ?_)))))))))))))));rintro _ _ ⟨hz,rfl,rfl⟩;refine wv (BJ Aa) (Ax (cz hR Aa (λhS hT=>?_) (λhS hU=>?_)))
    ·refine A6 (Ae (A7 (Ae (Ae (Bc ?_)))));have hV:=B4 hT hl hq;refine A7 ?_;obtain rfl:=AA hV;exact A5 (XB Tryz.results145) (sC (sC (sC (sC (sS sN))))) ⟨hz,Aa,Aa⟩
    refine A0 (AY (Ap (wm Aa (wm Aa (wv (BU Aa Aa hs) (wa Aa (Ar (AK (AY (Ap (ck hU λhW hX=>wv (BU Aa Aa hW) (wm Aa (Ar ?_)))))))))))));have hY:=B8 hX hl;exact A1 (AG (hy,((ha+1)+hi.1,hr+1,ht.2.1,ht.2.2),hz) ⟨hY,Ago _⟩ (AI.c5 Aa Aa Aa Aa Aa AI.nil) (sC (sC (sC (sC (sS sN))))))
   refine A0 (AY (Am (wm Aa (wm Aa (ck h9 λhZ ga=>wv (r:=Be 4 (A8 Af (List.drop (BH ha) v))) (PE D7 EE Aa Aa hZ) (ob ga λhj gb gc=>DM Tryz.call89 (Sr F (List.drop (BH ha) v) hj gb) Aa (wm Aa (wv (AD Aa Aa) (wv (AD Aa Aa) (wv (AD Aa Aa) (Ci (cs:=[A4 0,A4 0,rB false,rB false]) Tl Aa Aa (λgd=>?_))))))))))));refine wa Aa (M5 (i:=0) GQ Aa Aa Aa (Cv.c Aa) Aa Aa ?_);refine wa Aa (Ax (Aq (Am (wm Aa (wm Aa (wm Aa (wm Aa (wm Aa (wm Aa (ck gc λhu ge=>wv (BU Aa Aa hu) (wm Aa (wm Aa (wv (BU Aa Aa hu) (ck ge λgf gg=>ck gg λgh gi=>wv (r:=Be 4 (A8 Af (List.take (BH (ha+hj.1)-BH ha) (List.drop (BH ha) v)))) (PD D7 EE Aa Aa Aa Aa gf gh) (ob gi λhw gj gl=>Sq (rs:=[rS ([]:Aj),Be 4 (A8 Af (List.take (BH (ha+hj.1)-BH ha) (List.drop (BH ha) v)))]) (Hin:=[.blk hd [rB hg] 4,.blk he [rP hb 0] 143,.bld 146 5 hb hk hh,.blk hf (Af c) 83]) (Hr:=[.blk gd (Bo hj.2.1) 124]) Tryz.call146 Aa Aa ((AS (i:=1) Aa).trans (Agk _ ((AS (i:=1) Aa).trans (Agk _ ((AS (i:=1) Aa).trans (Agk _ ((AS (i:=1) Aa).trans (Agk _ (Agn _))))))))) (hx hd he hb hk hf ([]:Aj) (List.take (BH (ha+hj.1)-BH ha) (List.drop (BH ha) v)) hg hh c hw gj) Aa ?_)))))))))))))));rintro _ _ ⟨v222,rfl,rfl⟩;refine wv (BJ Aa) (Ax (cz gl Aa (λgm gp=>?_) (λgm gq=>?_)))
   ·refine A6 (Ae (A7 (Ae (Ae (Bc ?_)))));have gr:=B4 gp hl hq;refine A7 ?_;obtain rfl:=AA gr;exact A5 (XB Tryz.results145) (sC (sC (sC (sC (sS sN))))) ⟨v222,Aa,Aa⟩
   refine A0 (AY (Ap (wm Aa (wm Aa (wv (BU Aa Aa hu) (wa Aa (Ar (AK (AY (Ap (ck gq λgs gt=>wv (BU Aa Aa gs) (wm Aa (Ar ?_)))))))))))));have gu:=B8 gt hl;exact A1 (AG (hy,(ha+hj.1,hr+1,hw.2.1,hw.2.2),v222) ⟨gu,Ago _⟩ (AI.c5 Aa Aa Aa Aa Aa AI.nil) (sC (sC (sC (sC (sS sN))))))
  refine B9 (A9 ?_);have gv:=Co h6 hl hq;exact A9 (Bj (AG ((hg,hh),hk) gv AI.nil (sC (sC (sC (sC sN))))))
 rintro⟨⟨gw,gx⟩,gy⟩ hp;refine IY ?_;replace hp:Ih gw gx=some r:=hp;unfold Ih at hp;refine Bm ?_;obtain rfl:=AA hp;exact Ie (XB Tryz.results145) (sC (sC (sC (sC sN)))) ⟨gy,Aa,Aa⟩
theorem Ig:∀F:Nat,(∀(ha:Nat) (hb:Value) (l:Aj) (v:(List Ac)) (r:Aj),GU F l v=some r→Fn Tryz.prog GE 110 [rP ha 0,Be 4 (A8 Af v)] [.bld 146 5 ha hb l] (λR H=>∃w0b:Value,R=rv (.tuple #[])∧H=[.bld 146 5 ha w0b r]))∧(∀(hd:Nat) (he:Nat) (ha:Nat) (hb:Value) (hf:Nat) (key:Aj) (x:(List Ac)) (first:Bool) (l:Aj) (c:Ac) (r:Bool×Bool×Aj),EX F key x first l c=some r→Fn Tryz.prog GE 146 [rS key,Be 4 (A8 Af x),rP hd 0,rP he 0,rP hf 0] [.blk hd [rB first] 4,.blk he [rP ha 0] 143,.bld 146 5 ha hb l,.blk hf (Af c) 83] (λR H=>∃w3b:Value,R=rB r.1∧H=[.blk hd [rB r.2.1] 4,.blk he [rP ha 0] 143,.bld 146 5 ha w3b r.2.2,.blk hf (Af c) 83]))∧(∀(hd:Nat) (he:Nat) (ha:Nat) (hb:Value) (hf:Nat) (v:(List Ac)) (first:Bool) (l:Aj) (c:Ac) (r:Bool×Aj),HL F v first l c=some r→Fn Tryz.prog GE 145 [Be 4 (A8 Af v),rv (.func (.func 146) #[] #[(.pointer (some ⟨hd,0,none⟩)),(.pointer (some ⟨he,0,none⟩)),(.pointer (some ⟨hf,0,none⟩))])] [.blk hd [rB first] 4,.blk he [rP ha 0] 143,.bld 146 5 ha hb l,.blk hf (Af c) 83] (λR H=>∃w1_1b:Value,R=rv (.tuple #[])∧H=[.blk hd [rB r.1] 4,.blk he [rP ha 0] 143,.bld 146 5 ha w1_1b r.2,.blk hf (Af c) 83]))
  | 0=>⟨(λ_ _ _ _ _ h=>by simp[GU] at h),(λ_ _ _ _ _ _ _ _ _ _ _ h=>by simp[EX] at h),(λ_ _ _ _ _ _ _ _ _ _ h=>by simp[HL] at h)⟩
  | nn+1=>⟨(λha hb l v r h=>Xu nn (EX nn) (HL nn) (Ig nn).2.1 (Ig nn).2.2 ha hb l v r (by rw[GU] at h;exact h)),(λhd he ha hb hf key x first l c r h=>Va nn (GU nn) (Ig nn).1 hd he ha hb hf key x first l c r (by rw[EX] at h;exact h)),(λhd he ha hb hf v first l c r h=>UZ nn (EX nn) (Ig nn).2.1 hd he ha hb hf v first l c r (by rw[HL] at h;exact h))⟩
theorem Zv (F:Nat)(ha:Nat)(hb:Value)(l:Aj)(v:(List Ac))(r:Aj)(h:GU F l v=some r):Fn Tryz.prog GE 110 [rP ha 0,Be 4 (A8 Af v)] [.bld 146 5 ha hb l] (λR H=>∃w0b:Value,R=rv (.tuple #[])∧H=[.bld 146 5 ha w0b r]):=(Ig F).1 ha hb l v r h
theorem Xz (F:Nat)(v:(List Ac))(r:Aj×Int)(h:ME F v=some r):Fn Tryz.prog GE 80 [Be 4 (A8 Af v)] [] (λR H=>R=Db [rS r.1,A4 r.2]∧H=[]):=by
 refine enter (n:=14) Tryz.func80 Aa Tryz.ntmps80 Aa (λw Z=>?_);unfold ME at h;refine Am (wv (r:=rS ([]:Aj)) (AC Aa) (wa Aa (Ax (Aq (Am (wm Aa (ob h λr1 e3 h2=>DM Zj (K8 F v r1 e3) Aa (wa Aa (B3 (wm Aa (wv (Cl Aa Aa) (Ax (cz h2 Aa (λc4 h5=>?_) (λc4 h6=>?_))))))))))))))
 ·refine Am (wm Aa (wv (r:=rS ([]:Aj)) (AC Aa) (wa Aa (Ax (A6 (Ae ?_))))));obtain rfl:=AA h5;exact A5 (E4 Tryz.results80 (AT Aa) (AT Aa)) sN ⟨Aa,Aa⟩
 refine A0 (AY (Am (Ci (cs:=[rv (.pointer none),rv (.slice none 0 0)]) Tryz.zeroValue146 Aa Aa (λb7=>?_))));refine B3 (wm Aa (WL.tobld (te:=5) (i:=0) Aa (ob h6 λr8 hb h9=>Du [0] Tr (Zv F b7 (.slice none 0 0) ([]:Aj) v r8 hb) ?_)));rintro _ _ ⟨ha,rfl,rfl⟩;refine B3 (ck h9 λhd he=>CJ (rs:=[rP b7 0]) (Hin:=[.bld 146 5 b7 ha r8]) (Hr:=[]) Tryz.call111 Aa (Agn _) (YK b7 ha r8  hd) Aa ?_);rintro _ _ ⟨rfl,rfl⟩;refine wa Aa (wa Aa (Ax (A6 ?_)));obtain rfl:=AA he;exact A5 (E4 Tryz.results80 (AT Aa) (AT Aa)) sN ⟨Aa,Aa⟩
end Go.Proofs.YtfobhhegpkinaaaGreatDoor.Q
namespace Go.Proofs.YtfobhhegpkinaaaGreatDoor
open Go
set_option linter.unusedVariables false
structure A2 where
 fS:Aj
 fAt:Int
 fCells:(List Ac)
 fGreat:Bool
 deriving DecidableEq,Inhabited
def IB (s:Aj)(p:Aj):Option (Bool):=
 Bi (imp (decide ((p.length:Int)≤(s.length:Int))) (G8 (p.length:Int) (s.length:Int)))<|some ((decide ((p.length:Int)≤(s.length:Int)))&&(decide ((List.take (Int.toNat (p.length:Int)) s)=p)))
def Ib (s:Aj)(p:Aj):Option (Bool):=
 Bs (IB s p) λr1=>some r1
def En (q:A2)(s:Aj):Option (Bool×A2):=
 Bi (G8 q.fAt (q.fS.length:Int))<|Bs (Ib (List.drop (Int.toNat q.fAt) q.fS) s) λr3=>B0 (!r3) (some (false,q)) (Bi (Ch .i64 (q.fAt+(s.length:Int)))<|some (true,(A2.mk q.fS (q.fAt+(s.length:Int)) q.fCells q.fGreat)))
def GF (ha:(List Int))(hb:Int)(hd:Int):Option (Stp ((List Int)×Int) (Out (Aj×Bool×A2) (Int))):=
 Bi (Dv 1 (ha.length+([hb]:List Int).length))<|some (.next (ha++([hb]:List Int),hd))
def EM (r1:Bool×A2)(hb:(List Int))(ha:Int):Option (Stp ((List Int)×Int) (Out (Aj×Bool×A2) (Int))):=
 B0 (decide (ha<(r1.2.fS.length:Int))) (Bi (Da ha (r1.2.fS.length:Int))<|Bi (Ch .i64 (ha+1))<|B0 (decide ((BD r1.2.fS ha)=34)) (some (.out (.ret (QI hb,true,(A2.mk r1.2.fS (ha+1) r1.2.fCells r1.2.fGreat))))) (B0 (((decide ((BD r1.2.fS ha)<32))||(decide (126<(BD r1.2.fS ha))))) (some (.out (.ret (([]:Aj),false,(A2.mk r1.2.fS (ha+1) r1.2.fCells r1.2.fGreat))))) (B0 (decide ((BD r1.2.fS ha)=92)) (Bi (imp (!(decide ((r1.2.fS.length:Int)≤(ha+1)))) (Da (ha+1) (r1.2.fS.length:Int)))<|B0 (((decide ((r1.2.fS.length:Int)≤(ha+1)))||((!decide ((BD r1.2.fS (ha+1))=34))&&(!decide ((BD r1.2.fS (ha+1))=92))))) (some (.out (.ret (([]:Aj),false,(A2.mk r1.2.fS (ha+1) r1.2.fCells r1.2.fGreat))))) (Bi (Da (ha+1) (r1.2.fS.length:Int))<|Bi (Ch .i64 ((ha+1)+1))<|GF hb (BD r1.2.fS (ha+1)) ((ha+1)+1))) (GF hb (BD r1.2.fS ha) (ha+1))))) (some (.out (.go ha)))
def Je (r1:Bool×A2)(ha:Int):Option (Aj×Bool×A2):=
 some (([]:Aj),false,(A2.mk r1.2.fS ha r1.2.fCells r1.2.fGreat))
def Pr (F:Nat)(q:A2):Option (Aj×Bool×A2):=
 Bs (En q ([34]:Aj)) λr1=>B0 (!r1.1) (some (([]:Aj),false,r1.2)) (Bs (Cj (λσ=>EM r1 σ.1 σ.2) F (([]:List Int),r1.2.fAt)) (BQ λν=>Je r1 ν))
def EN (r1:Bool×A2)(ha:Int):Option (Stp (Int) (Out (Bool×A2) (Int))):=
 Bi (imp (decide (ha<(r1.2.fS.length:Int))) (Da ha (r1.2.fS.length:Int)))<|B0 (((decide (ha<(r1.2.fS.length:Int)))&&((decide (48≤(BD r1.2.fS ha)))&&(decide ((BD r1.2.fS ha)≤57))))) (Bi (Ch .i64 (ha+1))<|some (.next (ha+1))) (some (.out (.go ha)))
def K7 (q:A2)(r1:Bool×A2)(ha:Int):Option (Bool×A2):=
 Bi (G8 q.fAt ha)<|Bi (G8 ha (r1.2.fS.length:Int))<|Bi (Dv 1 (List.take (Int.toNat ha-Int.toNat q.fAt) (List.drop (Int.toNat q.fAt) r1.2.fS)).length)<|B0 (((decide ((BO (List.take (Int.toNat ha-Int.toNat q.fAt) (List.drop (Int.toNat q.fAt) r1.2.fS)))=1))||(decide (r1.2.fAt=ha)))) (some (false,(A2.mk r1.2.fS ha r1.2.fCells r1.2.fGreat))) (Bi (Dv 40 (r1.2.fCells.length+([(Ac.mk 3 (Bx (List.take (Int.toNat ha-Int.toNat q.fAt) (List.drop (Int.toNat q.fAt) r1.2.fS))) ([]:Aj) 0)]:List Ac).length))<|some (true,(A2.mk r1.2.fS ha (r1.2.fCells++([(Ac.mk 3 (Bx (List.take (Int.toNat ha-Int.toNat q.fAt) (List.drop (Int.toNat q.fAt) r1.2.fS))) ([]:Aj) 0)]:List Ac)) (r1.2.fGreat||(!decide ((BO (List.take (Int.toNat ha-Int.toNat q.fAt) (List.drop (Int.toNat q.fAt) r1.2.fS)))=0))))))
def Ps (F:Nat)(q:A2):Option (Bool×A2):=
 Bs (En q ([45]:Aj)) λr1=>Bs (Cj (λσ=>EN r1 σ) F r1.2.fAt) (BQ λν=>K7 q r1 ν)
def Ep (ha:Aj)(hb:Int)(hd:(List Ac))(he:Bool):Option (Bool×A2):=
 some (true,(A2.mk ha hb hd he))
def Jf (F:Nat)(q:A2):Option (Bool×A2):=
 Bs (En q ([110,117,108,108]:Aj)) λhd=>B0 (hd.1) (Bi (Dv 40 (hd.2.fCells.length+([(Ac.mk 1 0 ([]:Aj) 0)]:List Ac).length))<|Ep hd.2.fS hd.2.fAt (hd.2.fCells++([(Ac.mk 1 0 ([]:Aj) 0)]:List Ac)) hd.2.fGreat) (Bs (En hd.2 ([116,114,117,101]:Aj)) λhe=>B0 (he.1) (Bi (Dv 40 (he.2.fCells.length+([(Ac.mk 2 1 ([]:Aj) 0)]:List Ac).length))<|Ep he.2.fS he.2.fAt (he.2.fCells++([(Ac.mk 2 1 ([]:Aj) 0)]:List Ac)) he.2.fGreat) (Bs (En he.2 ([102,97,108,115,101]:Aj)) λha=>B0 (ha.1) (Bi (Dv 40 (ha.2.fCells.length+([(Ac.mk 2 0 ([]:Aj) 0)]:List Ac).length))<|Ep ha.2.fS ha.2.fAt (ha.2.fCells++([(Ac.mk 2 0 ([]:Aj) 0)]:List Ac)) ha.2.fGreat) (Bi (G8 ha.2.fAt (ha.2.fS.length:Int))<|Bs (Ib (List.drop (Int.toNat ha.2.fAt) ha.2.fS) ([34]:Aj)) λhg=>B0 (hg) (Bs (Pr F ha.2) λhb=>B0 (!hb.2.1) (some (false,hb.2.2)) (Bi (Dv 40 (hb.2.2.fCells.length+([(Ac.mk 4 0 hb.1 0)]:List Ac).length))<|Ep hb.2.2.fS hb.2.2.fAt (hb.2.2.fCells++([(Ac.mk 4 0 hb.1 0)]:List Ac)) hb.2.2.fGreat)) (Bs (Ps F ha.2) λhf=>some (hf.1,hf.2)))))
def Gd (hf:A2→Option (Bool×A2))(x16:(List Ac))(hd:Int)(hg:Aj)(hh:Int)(hi:(List Ac))(hj:Bool):Option (Stp (Int×Aj×Int×(List Ac)×Bool) (Out (Bool×A2) (Unit))):=
 Bs (hf (A2.mk hg hh hi hj)) λha=>B0 (!ha.1) (some (.out (.ret (false,ha.2)))) (Bi (Da (x16.length:Int) (ha.2.fCells.length:Int))<|LL (List.set ha.2.fCells (Int.toNat (x16.length:Int)) (Ac.mk ((Al ha.2.fCells (x16.length:Int)).fKind) ((Al ha.2.fCells (x16.length:Int)).fInt) ((Al ha.2.fCells (x16.length:Int)).fStr) hd)) λhk=>Bs (En (A2.mk ha.2.fS ha.2.fAt hk ha.2.fGreat) ([93]:Aj)) λhe=>B0 (he.1) (some (.out (.ret (true,he.2)))) (Bs (En he.2 ([44]:Aj)) λhb=>B0 (!hb.1) (some (.out (.ret (false,hb.2)))) (Bi (Ch .i64 (hd+1))<|some (.next (hd+1,hb.2.fS,hb.2.fAt,hb.2.fCells,hb.2.fGreat)))))
def Ij :Option (Bool×A2):=
 none
def CK (hk:A2→Option (Bool×A2))(x16:(List Ac))(hd:Int)(he:Aj×Bool×A2)(hn:Bool)(ho:Bool)(hl:Bool)(hh:Aj)(hi:Int)(hf:(List Ac))(hj:Bool):Option (Stp (Aj×Int×Aj×Int×(List Ac)×Bool) (Out (Bool×A2) (Unit))):=
 B0 (hl) (some (.out (.ret (false,(A2.mk hh hi hf hj))))) (Bi (Dv 40 (hf.length+([(Ac.mk 4 0 he.1 0)]:List Ac).length))<|Bs (hk (A2.mk hh hi (hf++([(Ac.mk 4 0 he.1 0)]:List Ac)) hj)) λha=>B0 (!ha.1) (some (.out (.ret (false,ha.2)))) (Bi (Da (x16.length:Int) (ha.2.fCells.length:Int))<|LL (List.set ha.2.fCells (Int.toNat (x16.length:Int)) (Ac.mk ((Al ha.2.fCells (x16.length:Int)).fKind) ((Al ha.2.fCells (x16.length:Int)).fInt) ((Al ha.2.fCells (x16.length:Int)).fStr) hd)) λhm=>Bs (En (A2.mk ha.2.fS ha.2.fAt hm ha.2.fGreat) ([125]:Aj)) λhg=>B0 (hg.1) (some (.out (.ret (true,hg.2)))) (Bs (En hg.2 ([44]:Aj)) λhb=>B0 (!hb.1) (some (.out (.ret (false,hb.2)))) (Bi (Ch .i64 (hd+1))<|some (.next (he.1,hd+1,hb.2.fS,hb.2.fAt,hb.2.fCells,hb.2.fGreat))))))
def Gc (F:Nat)(hg:A2→Option (Bool×A2))(x16:(List Ac))(hb:Aj)(hd:Int)(hh:Aj)(hi:Int)(hj:(List Ac))(hk:Bool):Option (Stp (Aj×Int×Aj×Int×(List Ac)×Bool) (Out (Bool×A2) (Unit))):=
 Bs (Pr F (A2.mk hh hi hj hk)) λha=>B0 (!ha.2.1) (CK hg x16 hd ha true true true ha.2.2.fS ha.2.2.fAt ha.2.2.fCells ha.2.2.fGreat) (B0 (decide (1<hd)) (B0 (C9 ha.1 hb||decide (ha.1=hb)) (CK hg x16 hd ha (C9 ha.1 hb||decide (ha.1=hb)) (C9 ha.1 hb||decide (ha.1=hb)) true ha.2.2.fS ha.2.2.fAt ha.2.2.fCells ha.2.2.fGreat) (Bs (En ha.2.2 ([58]:Aj)) λhe=>CK hg x16 hd ha (C9 ha.1 hb||decide (ha.1=hb)) (C9 ha.1 hb||decide (ha.1=hb)) (!he.1) he.2.fS he.2.fAt he.2.fCells he.2.fGreat)) (Bs (En ha.2.2 ([58]:Aj)) λhf=>CK hg x16 hd ha false false (!hf.1) hf.2.fS hf.2.fAt hf.2.fCells hf.2.fGreat))
def Ii :Option (Bool×A2):=
 none
def Eo (F:Nat)(hg:A2→Option (Bool×A2))(r1:Bool×A2)(hi:Bool)(hd:Aj)(he:Int)(x16:(List Ac))(hf:Bool):Option (Bool×A2):=
 B0 (hi) (Bs (Jf F (A2.mk hd he x16 hf)) λhh=>some (hh.1,hh.2)) (B0 (r1.1) (Bi (Dv 40 (x16.length+([(Ac.mk 5 0 ([]:Aj) 0)]:List Ac).length))<|Bs (En (A2.mk hd he (x16++([(Ac.mk 5 0 ([]:Aj) 0)]:List Ac)) hf) ([93]:Aj)) λha=>B0 (ha.1) (some (true,ha.2)) (Bs (Cj (λσ=>Gd hg x16 σ.1 σ.2.1 σ.2.2.1 σ.2.2.2.1 σ.2.2.2.2) F (1,ha.2.fS,ha.2.fAt,ha.2.fCells,ha.2.fGreat)) (BQ λν=>Ij ))) (Bi (Dv 40 (x16.length+([(Ac.mk 6 0 ([]:Aj) 0)]:List Ac).length))<|Bs (En (A2.mk hd he (x16++([(Ac.mk 6 0 ([]:Aj) 0)]:List Ac)) hf) ([125]:Aj)) λhb=>B0 (hb.1) (some (true,hb.2)) (Bs (Cj (λσ=>Gc F hg x16 σ.1 σ.2.1 σ.2.2.1 σ.2.2.2.1 σ.2.2.2.2.1 σ.2.2.2.2.2) F (([]:Aj),1,hb.2.fS,hb.2.fAt,hb.2.fCells,hb.2.fGreat)) (BQ λν=>Ii ))))
def MC (F:Nat)(hb:A2→Option (Bool×A2))(q:A2):Option (Bool×A2):=
 Bs (En q ([91]:Aj)) λr1=>B0 (!r1.1) (Bs (En r1.2 ([123]:Aj)) λha=>Eo F hb r1 (!ha.1) ha.2.fS ha.2.fAt ha.2.fCells ha.2.fGreat) (Eo F hb r1 false r1.2.fS r1.2.fAt r1.2.fCells r1.2.fGreat)
def CQ:Nat→A2→Option (Bool×A2)
 | 0,_=>none
 | nn+1,q=>MC nn (CQ nn) q
def GV (F:Nat)(hb:Bool)(hf:Aj)(hg:Int)(hd:(List Ac))(he:Bool):Option ((List Ac)×Int):=
 B0 (hb) (some (([]:List Ac),1)) (B0 (he) (some (([]:List Ac),2)) (Bs (MG F hd) λha=>some (ha.1,ha.2)))
def JI (F:Nat)(s:Aj):Option ((List Ac)×Int):=
 B0 (decide (4000<(s.length:Int))) (some (([]:List Ac),3)) (Bs (CQ F (A2.mk s 0 ([]:List Ac) false)) λha=>B0 (!ha.1) (GV F true ha.2.fS ha.2.fAt ha.2.fCells ha.2.fGreat) (GV F (!decide (ha.2.fAt=(s.length:Int))) ha.2.fS ha.2.fAt ha.2.fCells ha.2.fGreat))
end Go.Proofs.YtfobhhegpkinaaaGreatDoor
namespace Go.Proofs.YtfobhhegpkinaaaGreatDoor.Q
open Go Go.RowKit
set_option linter.unusedVariables false
set_option linter.unusedSimpArgs false
set_option maxRecDepth 100000
set_option maxHeartbeats 4000000
theorem Kb:∃inf,Tryz.prog.info? 83=some inf∧inf.zero=some (.agg #[(.int .i64 0),(.int .i64 0),(.string ⟨#[]⟩),(.int .i64 0)])∧inf.size=4∧inf.bytes=40:=by
  have key:(Tryz.prog.info? 83).map (λi=>(i.zero,i.size,i.bytes))=some (some (.agg #[(.int .i64 0),(.int .i64 0),(.string ⟨#[]⟩),(.int .i64 0)]),4,40):=by kernel_rfl
  obtain⟨inf,h1,h2⟩:=Option.map_eq_some_iff.1 key;simp only[Prod.mk.injEq] at h2;exact⟨inf,h1,h2.1,h2.2.1,h2.2.2⟩
theorem SY (parts:List (Nat×Value)):Tryz.prog.built 83 parts=Instr.fill (λi=>(#[(0,1),(1,1),(2,1),(3,1)]:Array (Nat×Nat))[i]?) #[(.int .i64 0),(.int .i64 0),(.string ⟨#[]⟩),(.int .i64 0)] parts:=by kernel_rfl
theorem IC {n:Nat}{c:Cx}{l:Fr}{H:List Ent}{d:Option Nat}{ty:TypeId}{pos:String}{af:Array Edge}{g:Option (Nat×Bool)}{x0:Operand}{r0:Rp}(h0:ev l x0=some r0)(u0:r0.one=true):B1 Tryz.prog n c l H { dst:=d,op:=.build 83 #[(0,x0)],type:=ty,pos:=pos,after:=af,guard:=g } (BW [r0,A4 0,rS ([]:Aj),A4 0]):=λa w Z ha _=>by
  have p0:=ha.ev h0;have c0:=B7 (r0.hone u0 Z _ p0);have hb:Tryz.prog.built 83 [(0,a.eval x0)]=some #[a.eval x0,(.int .i64 0),(.string ⟨#[]⟩),(.int .i64 0)]:=by
    rw[SY];generalize a.eval x0=v0 at *;simp[Instr.fill,c0]
  refine⟨.agg #[a.eval x0,(.int .i64 0),(.string ⟨#[]⟩),(.int .i64 0)],⟨[a.eval x0,(.int .i64 0),(.string ⟨#[]⟩),(.int .i64 0)],rfl,p0,rfl,rfl,rfl,trivial⟩,?_⟩;have:=run_build w 83 #[(0,a.eval x0)] _ (by simpa using hb);simp[execOp,this]
theorem IU {n:Nat}{c:Cx}{l:Fr}{H:List Ent}{d:Option Nat}{ty:TypeId}{pos:String}{af:Array Edge}{g:Option (Nat×Bool)}{x0:Operand}{r0:Rp}(h0:ev l x0=some r0)(u0:r0.one=true){x1:Operand}{r1:Rp}(h1:ev l x1=some r1)(u1:r1.one=true):B1 Tryz.prog n c l H { dst:=d,op:=.build 83 #[(0,x0),(1,x1)],type:=ty,pos:=pos,after:=af,guard:=g } (BW [r0,r1,rS ([]:Aj),A4 0]):=λa w Z ha _=>by
  have p0:=ha.ev h0;have c0:=B7 (r0.hone u0 Z _ p0);have p1:=ha.ev h1;have c1:=B7 (r1.hone u1 Z _ p1);have hb:Tryz.prog.built 83 [(0,a.eval x0),(1,a.eval x1)]=some #[a.eval x0,a.eval x1,(.string ⟨#[]⟩),(.int .i64 0)]:=by
    rw[SY];generalize a.eval x0=v0 at *;generalize a.eval x1=v1 at *;simp[Instr.fill,c0,c1]
  refine⟨.agg #[a.eval x0,a.eval x1,(.string ⟨#[]⟩),(.int .i64 0)],⟨[a.eval x0,a.eval x1,(.string ⟨#[]⟩),(.int .i64 0)],rfl,p0,p1,rfl,rfl,trivial⟩,?_⟩;have:=run_build w 83 #[(0,a.eval x0),(1,a.eval x1)] _ (by simpa using hb);simp[execOp,this]
theorem LU {n:Nat}{c:Cx}{l:Fr}{H:List Ent}{d:Option Nat}{ty:TypeId}{pos:String}{af:Array Edge}{g:Option (Nat×Bool)}{x0:Operand}{r0:Rp}(h0:ev l x0=some r0)(u0:r0.one=true){x2:Operand}{r2:Rp}(h2:ev l x2=some r2)(u2:r2.one=true):B1 Tryz.prog n c l H { dst:=d,op:=.build 83 #[(0,x0),(2,x2)],type:=ty,pos:=pos,after:=af,guard:=g } (BW [r0,A4 0,r2,A4 0]):=λa w Z ha _=>by
  have p0:=ha.ev h0;have c0:=B7 (r0.hone u0 Z _ p0);have p2:=ha.ev h2;have c2:=B7 (r2.hone u2 Z _ p2);have hb:Tryz.prog.built 83 [(0,a.eval x0),(2,a.eval x2)]=some #[a.eval x0,(.int .i64 0),a.eval x2,(.int .i64 0)]:=by
    rw[SY];generalize a.eval x0=v0 at *;generalize a.eval x2=v2 at *;simp[Instr.fill,c0,c2]
  refine⟨.agg #[a.eval x0,(.int .i64 0),a.eval x2,(.int .i64 0)],⟨[a.eval x0,(.int .i64 0),a.eval x2,(.int .i64 0)],rfl,p0,rfl,p2,rfl,trivial⟩,?_⟩;have:=run_build w 83 #[(0,a.eval x0),(2,a.eval x2)] _ (by simpa using hb);simp[execOp,this]
theorem Ab5 (parts:List (Nat×Value)):Tryz.prog.built 166 parts=Instr.fill (λi=>(#[(0,1),(1,1),(2,1),(3,1)]:Array (Nat×Nat))[i]?) #[(.string ⟨#[]⟩),(.int .i64 0),((.slice none 0 0)),(.bool false)] parts:=by kernel_rfl
theorem SH {n:Nat}{c:Cx}{l:Fr}{H:List Ent}{d:Option Nat}{ty:TypeId}{pos:String}{af:Array Edge}{g:Option (Nat×Bool)}{x0:Operand}{r0:Rp}(h0:ev l x0=some r0)(u0:r0.one=true):B1 Tryz.prog n c l H { dst:=d,op:=.build 166 #[(0,x0)],type:=ty,pos:=pos,after:=af,guard:=g } (BW [r0,A4 0,rv (.slice none 0 0),rB false]):=λa w Z ha _=>by
  have p0:=ha.ev h0;have c0:=B7 (r0.hone u0 Z _ p0);have hb:Tryz.prog.built 166 [(0,a.eval x0)]=some #[a.eval x0,(.int .i64 0),((.slice none 0 0)),(.bool false)]:=by
    rw[Ab5];generalize a.eval x0=v0 at *;simp[Instr.fill,c0]
  refine⟨.agg #[a.eval x0,(.int .i64 0),((.slice none 0 0)),(.bool false)],⟨[a.eval x0,(.int .i64 0),((.slice none 0 0)),(.bool false)],rfl,p0,rfl,rfl,rfl,trivial⟩,?_⟩;have:=run_build w 166 #[(0,a.eval x0)] _ (by simpa using hb);simp[execOp,this]
theorem QH (s:Aj)(p:Aj)(r:Bool)(h:IB s p=some r):Fn Tryz.prog GE 202 [rS s,rS p] [] (λR H=>R=rB r∧H=[]):=by
 refine enter (n:=18) Tryz.func202 Aa Tryz.ntmps202 Aa (λw Z=>?_);unfold IB at h;refine Am (wa Aa (Ax (ck h λg1 h2=>AV [(4,rB ((decide ((p.length:Int)≤(s.length:Int)))&&(decide ((List.take (BH (p.length:Int)) s)=p))))] [] ?_ ?_)))
 ·refine Ap (wm Aa (wv (BM CX Aa) (wm Aa (wv (BM CX Aa) (wv (Kw Aa Aa) (wm Aa (AZ (decide ((p.length:Int)≤(s.length:Int))) (λc3=>?_) (λc3=>?_))))))))
  ·refine wo c3 (wm Aa (wo c3 (wm Aa (wo c3 (wv (BM CX Aa) (wo c3 (wv (Mq CX Aa Aa (G9 g1 c3)) (wo c3 (wm Aa (wo c3 (wv (Jq Aa Aa) (GC Aa c3 Aa (wa Aa (Ar ?_))))))))))))));exact C8 c3
  refine wf c3 (wf c3 (wf c3 (wf c3 (wf c3 (wf c3 (wv (r:=rB false) (Ay Aa c3 Aa) (wa Aa (Ar ?_))))))));exact C8 c3
 refine A6 ?_;obtain rfl:=AA h2;exact A5 (Cp Tryz.results202 (AT Aa)) sN ⟨Aa,Aa⟩
theorem Ow (s:Aj)(p:Aj)(r:Bool)(h:Ib s p=some r):Fn Tryz.prog GE 184 [rS s,rS p] [] (λR H=>R=rB r∧H=[]):=by
 refine enter (n:=8) Tryz.func184 Aa Tryz.ntmps184 Aa (λw Z=>?_);unfold Ib at h;refine Am (wa Aa (B3 (wm Aa (wm Aa (ob h λr1 e3 h2=>DM Tryz.call202 (QH s p r1 e3) Aa (wa Aa (Ax (A6 ?_))))))));obtain rfl:=AA h2;exact A5 (Cp Tryz.results184 (AT Aa)) sN ⟨Aa,Aa⟩
theorem DS (hb:Nat)(ha:Value)(q:A2)(s:Aj)(r:Bool×A2)(h:En q s=some r):Fn Tryz.prog GE 159 [rP hb 0,rS s] [.blk hb [rS q.fS,A4 q.fAt,rv ha,rB q.fGreat] 166,.row ha 83 4 (A8 Af q.fCells)] (λR H=>∃w0_2:Value,R=rB r.1∧H=[.blk hb [rS r.2.fS,A4 r.2.fAt,rv w0_2,rB r.2.fGreat] 166,.row w0_2 83 4 (A8 Af r.2.fCells)]):=by
 refine enter (n:=26) Tryz.func159 Aa Tryz.ntmps159 Aa (λw Z=>?_);unfold En at h;refine Am (wa Aa (Ax (Aq (Aq (ck h λg1 h2=>ob h2 λr3 e5 h4=>Dy [0,1] ?_)))));refine rq (Ah Aa) (rq (AB Aa) (rq (Aw BG Aa BS Aa Aa) (rq (AQ (i:=0) Cf Aa Aa Aa) (rq (Ah Aa) (rq (AB Aa) (rq (Aw BG Aa C2 Aa Aa) (rq (AQ (i:=0) CO Aa Aa Aa) (rq (DV CX Aa Aa g1) (rq (Ah Aa) (TF (GI Tryz.call184 (Ow (List.drop (BH q.fAt) q.fS) s r3 e5) Aa) (rq (BJ Aa) (re [16,0,1] ?_))))))))))));refine AY (cz h4 Aa (λc6 h7=>?_) (λc6 h8=>?_))
 ·refine Am (wa Aa (Ax (A6 (Ae ?_))));obtain rfl:=AA h7;exact A5 (Cp Tryz.results159 (AT Aa)) (sC (sC sN)) ⟨ha,Aa,Aa⟩
 refine A0 (AY (Am (wm Aa (wv (AB Aa) (vF BG Aa C2 (vL 0 CO Aa (wm Aa (wv (BM CX Aa) (ck h8 λg9 hd=>wv (BU Aa Aa g9) (wv (AB Aa) (vF BG Aa C2 (us (i:=0) C2 Aa Aa (BA Aa) Aa Aa ?_))))))))))));refine B3 (wa Aa (Ax (A6 ?_)));obtain rfl:=AA hd;exact A5 (Cp Tryz.results159 (AT Aa)) (sC (sC sN)) ⟨ha,Aa,Aa⟩
theorem Wd (F:Nat)(ha:Nat)(ho:Value)(q:A2)(r:Aj×Bool×A2)(h:Pr F q=some r):Fn Tryz.prog GE 161 [rP ha 0] [.blk ha [rS q.fS,A4 q.fAt,rv ho,rB q.fGreat] 166,.row ho 83 4 (A8 Af q.fCells)] (λR H=>∃w0_2:Value,R=Db [rS r.1,rB r.2.1]∧H=[.blk ha [rS r.2.2.fS,A4 r.2.2.fAt,rv w0_2,rB r.2.2.fGreat] 166,.row w0_2 83 4 (A8 Af r.2.2.fCells)]):=by
 refine enter (n:=104) Tryz.func161 Aa Tryz.ntmps161 Aa (λw Z=>?_);unfold Pr at h;refine Am (wv (r:=rS ([]:Aj)) (AC Aa) (wa Aa (Ax (Aq (Am (wm Aa (ob h λr1 e3 h2=>Du [0,0] Id (DS ha ho q ([34]:Aj) r1 e3) ?_)))))));rintro _ _ ⟨v4,rfl,rfl⟩;refine wv (BJ Aa) (Ax (cz h2 Aa (λc5 h6=>?_) (λc5 h7=>?_)))
 ·refine Am (wv (r:=rS ([]:Aj)) (AC Aa) (wa Aa (Ax (A6 (Ae ?_)))));obtain rfl:=AA h6;exact A5 (E4 Tp (AT Aa) (AT Aa)) (sC (sC sN)) ⟨v4,Aa,Aa⟩
 refine A0 (AY (Am (wa Aa (Ax (Aq (AO (WC.nilrow (e:=5) (sz:=1) (HJ (H2:=[.blk ha [rS r1.2.fS,A4 r1.2.fAt,rv v4,rB r1.2.fGreat] 166,.row v4 83 4 (A8 Af r1.2.fCells),.row (.slice none 0 0     ) 5 1 (A8 BY ([]:List Int))]) ((AS (i:=1) Aa).trans (Agk _ ((AS (i:=1) Aa).trans (Agk _ (Agn _))))) (ob h7 λhs ht hk=>B5 (S:=Nat×((List Int)×Int)×(Value)) (V:=(Int)×(Unit)) 0 (λσ=>Cj (λσ=>EM r1 σ.1 σ.2) σ.1 σ.2.1=some hs) (λσ=>[(0,rP ha 0),(4,rv σ.2.2)]) (λσ=>[.blk ha [rS r1.2.fS,A4 σ.2.1.2,rv v4,rB r1.2.fGreat] 166,.row v4 83 4 (A8 Af r1.2.fCells),.row σ.2.2 5 1 (A8 BY σ.2.1.1)]) (λσ=>σ.1) (F,(([]:List Int),r1.2.fAt),(.slice none 0 0     )) ht (AI.c Aa (AI.c Aa AI.nil)) (sC (sC (sC sN))) (λσ=>Je r1 σ.1=some r) (λσ=>[]) (λσ=>[.blk ha [rS r1.2.fS,A4 σ.1,rv v4,rB r1.2.fGreat] 166,.row v4 83 4 (A8 Af r1.2.fCells)]) ?_ ?_)))))))))
 ·rintro⟨hZ,⟨hf,hd⟩,hh⟩ hu;refine EL ?_;obtain⟨hw,rfl,hp,hl,hi⟩:=CM hu;replace hl:EM r1 hf hd=some hp:=hl;unfold EM at hl;refine Aq (Aq (Dy [0,4] ?_));refine rq (Ah Aa) (rq (AB Aa) (rq (Aw BG Aa C2 Aa Aa) (rq (AQ (i:=0) CO Aa Aa Aa) (rq (Ah Aa) (rq (AB Aa) (rq (Aw BG Aa BS Aa Aa) (rq (AQ (i:=0) Cf Aa Aa Aa) (rq (BM CX Aa) (rq (De Aa Aa) (re [9,10,11,12,13,14,15,16,17,18,0,4] ?_))))))))));refine AY (cz hl Aa (λhx hy=>?_) (λhx hz=>?_))
  ·refine A0 (AY (AO (Aq (ck hy λh0 h1=>Dy [0,4,9,10,11,12,13,14,15,16,17] ?_))));refine rq (Ah Aa) (rq (AB Aa) (rq (Aw BG Aa BS Aa Aa) (rq (AQ (i:=0) Cf Aa Aa Aa) (rq (Ah Aa) (rq (AB Aa) (rq (Aw BG Aa C2 Aa Aa) (rq (AQ (i:=0) CO Aa Aa Aa) (rq (BF CX Aa Aa h0) (rq (AC Aa) (re [19,20,21,22,23,24,25,26,27,5,0,4,9,10,11,12,13,14,15,16,17] ?_))))))))));refine AY (Am (wm Aa (wv (AB Aa) (vF BG Aa C2 (vL 0 CO Aa (ck h1 λh3 h4=>wv (BU Aa Aa h3) (wv (AB Aa) (vF BG Aa C2 (us (i:=0) C2 Aa Aa (BA Aa) Aa Aa ?_)))))))));refine Ax (Cg (S:=(Int×Int)×(Unit)) (λσ=>GF hf σ.1.1 σ.1.2=some hp) (λσ=>[(0,rP ha 0),(4,rv hh),(5,rI .u8 σ.1.1),(9,rP ha 0),(10,rP ha 0),(11,rP ha 1),(12,A4 hd),(13,rP ha 0),(14,rP ha 0),(15,rP ha 0),(16,rS r1.2.fS),(17,A4 (r1.2.fS.length:Int)),(19,rP ha 0),(20,rP ha 0),(21,rP ha 0),(22,rS r1.2.fS),(23,rP ha 0),(24,rP ha 0),(25,rP ha 1),(26,A4 hd),(27,rI .u8 (BD r1.2.fS hd))]) (λσ=>[.blk ha [rS r1.2.fS,A4 σ.1.2,rv v4,rB r1.2.fGreat] 166,.row v4 83 4 (A8 Af r1.2.fCells),.row hh 5 1 (A8 BY hf)]) ?_ ?_)
   ·refine AO (Am (wm Aa (wv (BT Aa Aa) (wa Aa (Ax (cz h4 Aa (λh5 h8=>?_) (λh5 h9=>?_)))))))
    ·refine Am (wm Aa (wv (r:=rS (QI hf)) (W3 (xs:=hf) (i:=2) EK CX Sk Aa Aa) (wa Aa (wa Aa (Ax (A6 (A7 (Ae (A7 (Ae (Bc ?_)))))))))));have hA:=B4 h8 hi hk;refine A7 (Ae ?_);obtain rfl:=AA hA;exact A5 (E4 Tp (AT Aa) (AT Aa)) (sC (sC (sS sN))) ⟨v4,Aa,Aa⟩
    refine AV [(0,rP ha 0),(4,rv hh),(5,rI .u8 (BD r1.2.fS hd)),(9,rP ha 0),(10,rP ha 0),(11,rP ha 1),(12,A4 hd),(13,rP ha 0),(14,rP ha 0),(15,rP ha 0),(16,rS r1.2.fS),(17,A4 (r1.2.fS.length:Int)),(19,rP ha 0),(20,rP ha 0),(21,rP ha 0),(22,rS r1.2.fS),(23,rP ha 0),(24,rP ha 0),(25,rP ha 1),(26,A4 hd),(27,rI .u8 (BD r1.2.fS hd)),(40,rB ((decide ((BD r1.2.fS hd)<32))||(decide (126<(BD r1.2.fS hd)))))] [.blk ha [rS r1.2.fS,A4 (hd+1),rv v4,rB r1.2.fGreat] 166,.row v4 83 4 (A8 Af r1.2.fCells),.row hh 5 1 (A8 BY hf)] ?_ ?_
    ·refine Ap (wm Aa (wv (De Aa Aa) (wm Aa (AZ (decide ((BD r1.2.fS hd)<32)) (λhg=>?_) (λhg=>?_)))))
     ·refine wf hg (wf hg (wv (r:=rB true) (A3 Aa hg Aa) (wa Aa (Ar ?_))));exact C8 hg
     refine wo hg (wm Aa (wo hg (wv (Ec Aa Aa) (GO Aa hg Aa (wa Aa (Ar ?_))))));exact C8 hg
    refine cz h9 Aa (λhB hC=>?_) (λhB hD=>?_)
    ·refine Am (wv (r:=rS ([]:Aj)) (AC Aa) (wa Aa (Ax (A6 (A7 (Ae (A7 (Ae (Bc ?_)))))))));have hE:=B4 hC hi hk;refine A7 (Ae ?_);obtain rfl:=AA hE;exact A5 (E4 Tp (AT Aa) (AT Aa)) (sC (sC (sS sN))) ⟨v4,Aa,Aa⟩
    refine Am (wm Aa (wv (BT Aa Aa) (wa Aa (Ax (cz hD Aa (λhG hH=>?_) (λhG hI=>?_))))))
    ·refine Aq (ck hH λhq hJ=>AV [(0,rP ha 0),(4,rv hh),(9,rP ha 0),(10,rP ha 0),(11,rP ha 1),(12,A4 hd),(13,rP ha 0),(14,rP ha 0),(15,rP ha 0),(16,rS r1.2.fS),(17,A4 (r1.2.fS.length:Int)),(19,rP ha 0),(20,rP ha 0),(21,rP ha 0),(22,rS r1.2.fS),(23,rP ha 0),(24,rP ha 0),(25,rP ha 1),(26,A4 hd),(27,rI .u8 (BD r1.2.fS hd)),(50,rP ha 0),(51,rP ha 0),(52,rP ha 1),(53,A4 (hd+1)),(54,rP ha 0),(55,rP ha 0),(56,rP ha 0),(57,rS r1.2.fS),(58,A4 (r1.2.fS.length:Int)),(59,rB (decide ((r1.2.fS.length:Int)≤(hd+1)))),(60,rB (decide ((r1.2.fS.length:Int)≤(hd+1)))),(83,rB ((decide ((r1.2.fS.length:Int)≤(hd+1)))||((!decide ((BD r1.2.fS (hd+1))=34))&&(!decide ((BD r1.2.fS (hd+1))=92)))))] [.blk ha [rS r1.2.fS,A4 (hd+1),rv v4,rB r1.2.fGreat] 166,.row v4 83 4 (A8 Af r1.2.fCells),.row hh 5 1 (A8 BY hf)] ?_ ?_)
     ·refine AZ (decide ((r1.2.fS.length:Int)≤(hd+1))) (λhb=>?_) (λhb=>?_)
      ·refine Dy [0,4,9,10,11,12,13,14,15,16,17,19,20,21,22,23,24,25,26,27] ?_;refine rq (Ah Aa) (rq (AB Aa) (rq (Aw BG Aa C2 Aa Aa) (rq (AQ (i:=0) CO Aa Aa Aa) (rq (Ah Aa) (rq (AB Aa) (rq (Aw BG Aa BS Aa Aa) (rq (AQ (i:=0) Cf Aa Aa Aa) (rq (BM CX Aa) (rq (Kw Aa Aa) (rq (Ah Aa) (rz hb (rz hb (rz hb (rz hb (rz hb (rz hb (rz hb (rz hb (rz hb (rz hb (rz hb (ru (ru ?_)))))))))))))))))))))));refine ru (ru (ru (ru (ru (ru (ru (ru (rz hb (rq (r:=rB true) (A3 (b:=decide ((r1.2.fS.length:Int)≤(hd+1))) Aa hb Aa) (re [50,51,52,53,54,55,56,57,58,59,60,61,62,63,64,65,66,67,68,69,70,71,72,73,74,75,76,77,78,79,80,81,82,83,0,4,9,10,11,12,13,14,15,16,17,19,20,21,22,23,24,25,26,27] ?_))))))))));exact C8 hb
      refine AZ (!decide ((BD r1.2.fS (hd+1))=34)) (λhe=>?_) (λhe=>?_)
      ·refine Dy [0,4,9,10,11,12,13,14,15,16,17,19,20,21,22,23,24,25,26,27] ?_;refine rq (Ah Aa) (rq (AB Aa) (rq (Aw BG Aa C2 Aa Aa) (rq (AQ (i:=0) CO Aa Aa Aa) (rq (Ah Aa) (rq (AB Aa) (rq (Aw BG Aa BS Aa Aa) (rq (AQ (i:=0) Cf Aa Aa Aa) (rq (BM CX Aa) (rq (Kw Aa Aa) (rq (Ah Aa) (rg hb (Ah Aa) (rg hb (AB Aa) (rg hb (Aw BG Aa BS Aa Aa) (rg hb (AQ (i:=0) Cf Aa Aa Aa) (rg hb (Ah Aa) (rg hb (AB Aa) (rg hb (Aw BG Aa C2 Aa Aa) (rg hb (AQ (i:=0) CO Aa Aa Aa) (rg hb (BF CX Aa Aa (ED hq hb)) (rg hb (Cl Aa Aa) (rg hb (Ah Aa) (rg he (Ah Aa) (rg he (AB Aa) ?_)))))))))))))))))))))));refine rg he (Aw BG Aa BS Aa Aa) (rg he (AQ (i:=0) Cf Aa Aa Aa) (rg he (Ah Aa) (rg he (AB Aa) (rg he (Aw BG Aa C2 Aa Aa) (rg he (AQ (i:=0) CO Aa Aa Aa) (rg he (BF CX Aa Aa (ED hq hb)) (rg he (Cl Aa Aa) (rg hb (A3 Aa he Aa) (rq (Ay Aa hb Aa) (re [50,51,52,53,54,55,56,57,58,59,60,61,62,63,64,65,66,67,68,69,70,71,72,73,74,75,76,77,78,79,80,81,82,83,0,4,9,10,11,12,13,14,15,16,17,19,20,21,22,23,24,25,26,27] ?_))))))))));exact C8 (And.intro hb he)
      refine Dy [0,4,9,10,11,12,13,14,15,16,17,19,20,21,22,23,24,25,26,27] ?_;refine rq (Ah Aa) (rq (AB Aa) (rq (Aw BG Aa C2 Aa Aa) (rq (AQ (i:=0) CO Aa Aa Aa) (rq (Ah Aa) (rq (AB Aa) (rq (Aw BG Aa BS Aa Aa) (rq (AQ (i:=0) Cf Aa Aa Aa) (rq (BM CX Aa) (rq (Kw Aa Aa) (rq (Ah Aa) (rg hb (Ah Aa) (rg hb (AB Aa) (rg hb (Aw BG Aa BS Aa Aa) (rg hb (AQ (i:=0) Cf Aa Aa Aa) (rg hb (Ah Aa) (rg hb (AB Aa) (rg hb (Aw BG Aa C2 Aa Aa) (rg hb (AQ (i:=0) CO Aa Aa Aa) (rg hb (BF CX Aa Aa (ED hq hb)) (rg hb (Cl Aa Aa) (rg hb (Ah Aa) (rz he (rz he ?_)))))))))))))))))))))));refine rz he (rz he (rz he (rz he (rz he (rz he (rz he (rz he (rg hb (r:=rB false) (Ay (b:=!decide ((BD r1.2.fS (hd+1))=34)) Aa he Aa) (rq (Ay Aa hb Aa) (re [50,51,52,53,54,55,56,57,58,59,60,61,62,63,64,65,66,67,68,69,70,71,72,73,74,75,76,77,78,79,80,81,82,83,0,4,9,10,11,12,13,14,15,16,17,19,20,21,22,23,24,25,26,27] ?_))))))))));exact C8 (And.intro hb he)
     refine cz hJ Aa (λhK hL=>?_) (λhK hN=>?_)
     ·refine Am (wv (r:=rS ([]:Aj)) (AC Aa) (wa Aa (Ax (A6 (Ae (A7 (Ae (A7 (Ae (Bc ?_))))))))));have hO:=B4 hL hi hk;refine A7 (Ae ?_);obtain rfl:=AA hO;exact A5 (E4 Tp (AT Aa) (AT Aa)) (sC (sC (sS sN))) ⟨v4,Aa,Aa⟩
     refine A0 (AY (Aq (ck hN λhP hQ=>Dy [0,4,9,10,11,12,13,14,15,16,17,19,20,21,22,23,24,25,26,27,50,51,52,53,54,55,56,57,58,59,60] ?_)));refine rq (Ah Aa) (rq (AB Aa) (rq (Aw BG Aa BS Aa Aa) (rq (AQ (i:=0) Cf Aa Aa Aa) (rq (Ah Aa) (rq (AB Aa) (rq (Aw BG Aa C2 Aa Aa) (rq (AQ (i:=0) CO Aa Aa Aa) (rq (BF CX Aa Aa hP) (rq (AC Aa) (re [84,85,86,87,88,89,90,91,92,5,0,4,9,10,11,12,13,14,15,16,17,19,20,21,22,23,24,25,26,27,50,51,52,53,54,55,56,57,58,59,60] ?_))))))))));refine AY (Ap (wm Aa (wv (AB Aa) (vF BG Aa C2 (vL 0 CO Aa (ck hQ λhR hS=>wv (BU Aa Aa hR) (wv (AB Aa) (vF BG Aa C2 (us (i:=0) C2 Aa Aa (BA Aa) Aa Aa ?_)))))))));exact Ar (AK (A1 (AG ((BD r1.2.fS (hd+1),(hd+1)+1),()) hS (AI.c Aa (AI.c5 Aa Aa Aa Aa Aa (AI.c5 Aa Aa Aa Aa Aa (AI.c5 Aa Aa Aa Aa Aa (AI.c5 Aa Aa Aa Aa Aa AI.nil))))) (sC (sC (sC sN))))))
    exact A0 (AK (A1 (AG ((BD r1.2.fS hd,hd+1),()) hI (AI.c Aa (AI.c5 Aa Aa Aa Aa Aa (AI.c5 Aa Aa Aa Aa Aa (AI.c5 Aa Aa Aa Aa Aa (AI.c5 Aa Aa Aa Aa Aa AI.nil))))) (sC (sC (sC sN))))))
   rintro⟨⟨hj,hr⟩,⟨⟩⟩ hm;refine EL ?_;replace hm:GF hf hj hr=some hp:=hm;unfold GF at hm;refine Ap (wm Aa (wm Aa (Bf (ys:=([hj]:List Int)) (enc:=BY) (css:=[[rI .u8 hj]]) (xs:=[.tmp 101]) EK ys5 yz5 Aa Aa Aa ⟨Em.one Aa (Up.refl _),trivial⟩ Aa Ei Aa Aa Aa (λga=>?_))));refine ck hm λhT hU=>Exists.elim Ov λinf hinf=>Cc (xs:=hf) (ys:=([hj]:List Int)) (enc:=BY) (i:=3) EK hinf.1 hinf.2.1 hinf.2.2.1 hinf.2.2.2 Aa Aa Aa Aa Aa (JD.w (i:=0) Aa Aa) Ei LB hT Aa (λhV=>?_);refine wa Aa (Ar (AK (Ja [2,2] ?_)));have hW:=B8 hU hi;exact A1 (AG (hw,(hf++([hj]:List Int),hr),hV) ⟨hW,Ago _⟩ (AI.c Aa (AI.c Aa AI.nil)) (sC (sC (sC (sS sN)))))
  refine B9 (A9 ?_);have hX:=Co hz hi hk;exact A9 (Bj (AG (hd,()) hX AI.nil (sC (sC (sS sN)))))
 rintro⟨hY,⟨⟩⟩ hn;refine IY ?_;replace hn:Je r1 hY=some r:=hn;unfold Je at hn;refine Bm (AY (Am (wv (r:=rS ([]:Aj)) (AC Aa) (wa Aa (Ax (A6 ?_))))));obtain rfl:=AA hn;exact A5 (E4 Tp (AT Aa) (AT Aa)) (sC (sC sN)) ⟨v4,Aa,Aa⟩
theorem AbZ (F:Nat)(hd:Nat)(hk:Value)(q:A2)(r:Bool×A2)(h:Ps F q=some r):Fn Tryz.prog GE 185 [rP hd 0] [.blk hd [rS q.fS,A4 q.fAt,rv hk,rB q.fGreat] 166,.row hk 83 4 (A8 Af q.fCells)] (λR H=>∃w0_2:Value,R=rB r.1∧H=[.blk hd [rS r.2.fS,A4 r.2.fAt,rv w0_2,rB r.2.fGreat] 166,.row w0_2 83 4 (A8 Af r.2.fCells)]):=by
 refine enter (n:=104) Tryz.func185 Aa Tryz.ntmps185 Aa (λw Z=>?_);unfold Ps at h;refine Am (wa Aa (B3 (wm Aa (wv (AB Aa) (vF BG Aa C2 (vL 0 CO Aa (wa Aa (B3 (wm Aa (ob h λr1 e3 h2=>Du [0,0] Id (DS hd hk q ([45]:Aj) r1 e3) ?_))))))))));rintro _ _ ⟨v4,rfl,rfl⟩;refine B3 (wm Aa (wv (AB Aa) (vF BG Aa C2 (vL 0 CO Aa (wa Aa (Ax (Aq (AO (ob h2 λhn ho hp=>B5 (S:=Nat×(Int)×(Unit)) (V:=(Int)×(Unit)) 0 (λσ=>Cj (λσ=>EN r1 σ) σ.1 σ.2.1=some hn) (λσ=>[(0,rP hd 0),(3,A4 q.fAt),(4,A4 r1.2.fAt)]) (λσ=>[.blk hd [rS r1.2.fS,A4 σ.2.1,rv v4,rB r1.2.fGreat] 166,.row v4 83 4 (A8 Af r1.2.fCells)]) (λσ=>σ.1) (F,r1.2.fAt,()) ho (AI.c Aa (AI.c Aa (AI.c Aa AI.nil))) (sC (sC sN)) (λσ=>K7 q r1 σ.1=some r) (λσ=>[(0,rP hd 0),(3,A4 q.fAt),(4,A4 r1.2.fAt)]) (λσ=>[.blk hd [rS r1.2.fS,A4 σ.1,rv v4,rB r1.2.fGreat] 166,.row v4 83 4 (A8 Af r1.2.fCells)]) ?_ ?_)))))))))
 ·rintro⟨hG,hf,⟨⟩⟩ hq;refine EL ?_;obtain⟨hr,rfl,hs,hi,hm⟩:=CM hq;replace hi:EN r1 hf=some hs:=hi;unfold EN at hi;refine Aq (ck hi λhl ht=>AV [(0,rP hd 0),(3,A4 q.fAt),(4,A4 r1.2.fAt),(17,rP hd 0),(18,rP hd 0),(19,rP hd 1),(20,A4 hf),(21,rP hd 0),(22,rP hd 0),(23,rP hd 0),(24,rS r1.2.fS),(25,A4 (r1.2.fS.length:Int)),(26,rB (decide (hf<(r1.2.fS.length:Int)))),(27,rB (decide (hf<(r1.2.fS.length:Int)))),(38,rB ((decide (hf<(r1.2.fS.length:Int)))&&(decide (48≤(BD r1.2.fS hf))))),(39,rB ((decide (hf<(r1.2.fS.length:Int)))&&(decide (48≤(BD r1.2.fS hf))))),(50,rB ((decide (hf<(r1.2.fS.length:Int)))&&((decide (48≤(BD r1.2.fS hf)))&&(decide ((BD r1.2.fS hf)≤57)))))] [.blk hd [rS r1.2.fS,A4 hf,rv v4,rB r1.2.fGreat] 166,.row v4 83 4 (A8 Af r1.2.fCells)] ?_ ?_)
  ·refine AZ (decide (hf<(r1.2.fS.length:Int))) (λha=>?_) (λha=>?_)
   ·refine AZ (decide (48≤(BD r1.2.fS hf))) (λhb=>?_) (λhb=>?_)
    ·refine Dy [0,3,4] ?_;refine rq (Ah Aa) (rq (AB Aa) (rq (Aw BG Aa C2 Aa Aa) (rq (AQ (i:=0) CO Aa Aa Aa) (rq (Ah Aa) (rq (AB Aa) (rq (Aw BG Aa BS Aa Aa) (rq (AQ (i:=0) Cf Aa Aa Aa) (rq (BM CX Aa) (rq (De Aa Aa) (rq (Ah Aa) (rg ha (Ah Aa) (rg ha (AB Aa) (rg ha (Aw BG Aa BS Aa Aa) (rg ha (AQ (i:=0) Cf Aa Aa Aa) (rg ha (Ah Aa) (rg ha (AB Aa) (rg ha (Aw BG Aa C2 Aa Aa) (rg ha (AQ (i:=0) CO Aa Aa Aa) (rg ha (BF CX Aa Aa (G9 hl ha)) (rg ha (Kw Aa Aa) (rq (A3 Aa ha Aa) (rq (Ah Aa) (rg hb (Ah Aa) ?_)))))))))))))))))))))));refine rg hb (AB Aa) (rg hb (Aw BG Aa BS Aa Aa) (rg hb (AQ (i:=0) Cf Aa Aa Aa) (rg hb (Ah Aa) (rg hb (AB Aa) (rg hb (Aw BG Aa C2 Aa Aa) (rg hb (AQ (i:=0) CO Aa Aa Aa) (rg hb (BF CX Aa Aa (G9 hl ha)) (rg hb (O8 Aa Aa) (rq (A3 Aa hb Aa) (re [17,18,19,20,21,22,23,24,25,26,27,28,29,30,31,32,33,34,35,36,37,38,39,40,41,42,43,44,45,46,47,48,49,50,0,3,4] ?_))))))))));exact C8 (And.intro ha hb)
    refine Dy [0,3,4] ?_;refine rq (Ah Aa) (rq (AB Aa) (rq (Aw BG Aa C2 Aa Aa) (rq (AQ (i:=0) CO Aa Aa Aa) (rq (Ah Aa) (rq (AB Aa) (rq (Aw BG Aa BS Aa Aa) (rq (AQ (i:=0) Cf Aa Aa Aa) (rq (BM CX Aa) (rq (De Aa Aa) (rq (Ah Aa) (rg ha (Ah Aa) (rg ha (AB Aa) (rg ha (Aw BG Aa BS Aa Aa) (rg ha (AQ (i:=0) Cf Aa Aa Aa) (rg ha (Ah Aa) (rg ha (AB Aa) (rg ha (Aw BG Aa C2 Aa Aa) (rg ha (AQ (i:=0) CO Aa Aa Aa) (rg ha (BF CX Aa Aa (G9 hl ha)) (rg ha (Kw Aa Aa) (rq (A3 Aa ha Aa) (rq (Ah Aa) (rz hb ?_)))))))))))))))))))))));refine rz hb (rz hb (rz hb (rz hb (rz hb (rz hb (rz hb (rz hb (rz hb (rq (r:=rB false) (Ay (b:=decide (48≤(BD r1.2.fS hf))) Aa hb Aa) (re [17,18,19,20,21,22,23,24,25,26,27,28,29,30,31,32,33,34,35,36,37,38,39,40,41,42,43,44,45,46,47,48,49,50,0,3,4] ?_))))))))));exact C8 (And.intro ha hb)
   refine Dy [0,3,4] ?_;refine rq (Ah Aa) (rq (AB Aa) (rq (Aw BG Aa C2 Aa Aa) (rq (AQ (i:=0) CO Aa Aa Aa) (rq (Ah Aa) (rq (AB Aa) (rq (Aw BG Aa BS Aa Aa) (rq (AQ (i:=0) Cf Aa Aa Aa) (rq (BM CX Aa) (rq (De Aa Aa) (rq (Ah Aa) (rz ha (rz ha (rz ha (rz ha (rz ha (rz ha (rz ha (rz ha (rz ha (rz ha (rq (r:=rB false) (Ay (b:=decide (hf<(r1.2.fS.length:Int))) Aa ha Aa) (rq (Ah Aa) (rz Aa ?_)))))))))))))))))))))));refine rz Aa (rz Aa (rz Aa (rz Aa (rz Aa (rz Aa (rz Aa (rz Aa (rz Aa (rq (r:=rB false) (Ay (b:=false) Aa Aa Aa) (re [17,18,19,20,21,22,23,24,25,26,27,28,29,30,31,32,33,34,35,36,37,38,39,40,41,42,43,44,45,46,47,48,49,50,0,3,4] ?_))))))))));exact C8 ha
  refine cz ht Aa (λhu hw=>?_) (λhu hx=>?_)
  ·refine A0 (AY (AO (Ap (wm Aa (wv (AB Aa) (vF BG Aa C2 (vL 0 CO Aa (ck hw λhy hz=>wv (BU Aa Aa hy) (wv (AB Aa) (vF BG Aa C2 (us (i:=0) C2 Aa Aa (BA Aa) Aa Aa ?_)))))))))));refine Ar (AK ?_);have h0:=B8 hz hm;exact A1 (AG (hr,hf+1,()) ⟨h0,Ago _⟩ (AI.c Aa (AI.c Aa (AI.c Aa AI.nil))) (sC (sC sN)))
  refine B9 (A9 ?_);have h1:=Co hx hm hp;exact A9 (Bj (AG (hf,()) h1 (AI.c Aa (AI.c Aa (AI.c Aa AI.nil))) (sC (sC sN))))
 rintro⟨he,⟨⟩⟩ hj;refine IY ?_;replace hj:K7 q r1 he=some r:=hj;unfold K7 at hj;refine Bm (AY (Aq (ck hj λh3 h4=>ck h4 λh5 h6=>ck h6 λh7 h8=>Dy [0,3,4] ?_)));refine rq (Ah Aa) (rq (AB Aa) (rq (Aw BG Aa BS Aa Aa) (rq (AQ (i:=0) Cf Aa Aa Aa) (rq (Ah Aa) (rq (Ah Aa) (rq (AB Aa) (rq (Aw BG Aa C2 Aa Aa) (rq (AQ (i:=0) CO Aa Aa Aa) (rq (Mp CX Aa Aa Aa h3 h5) (TF (Et (rs:=[rS (List.take (BH he-BH q.fAt) (List.drop (BH q.fAt) r1.2.fS))]) (r:=Db [A4 (Bx (List.take (BH he-BH q.fAt) (List.drop (BH q.fAt) r1.2.fS))),A4 (BO (List.take (BH he-BH q.fAt) (List.drop (BH q.fAt) r1.2.fS)))]) Zi Aa (MQ (List.take (BH he-BH q.fAt) (List.drop (BH q.fAt) r1.2.fS)) h7) Aa) (rq (Ah Aa) (rq (AD Aa Aa) (rq (AD Aa Aa) (rq (AC Aa) (rq (AC Aa) (re [5,6,0,4] ?_))))))))))))))));refine AY (Aq (AV [(0,rP hd 0),(5,A4 (Bx (List.take (BH he-BH q.fAt) (List.drop (BH q.fAt) r1.2.fS)))),(6,A4 (BO (List.take (BH he-BH q.fAt) (List.drop (BH q.fAt) r1.2.fS)))),(81,rB ((decide ((BO (List.take (BH he-BH q.fAt) (List.drop (BH q.fAt) r1.2.fS)))=1))||(decide (r1.2.fAt=he))))] [.blk hd [rS r1.2.fS,A4 he,rv v4,rB r1.2.fGreat] 166,.row v4 83 4 (A8 Af r1.2.fCells)] ?_ ?_))
 ·refine Ap (wm Aa (wv (BT Aa Aa) (wm Aa (AZ (decide ((BO (List.take (BH he-BH q.fAt) (List.drop (BH q.fAt) r1.2.fS)))=1)) (λhg=>?_) (λhg=>?_)))))
  ·refine wf hg (wf hg (wf hg (wf hg (wf hg (wf hg (wv (r:=rB true) (A3 Aa hg Aa) (Ar ?_)))))));exact C8 hg
  refine wo hg (wm Aa (wo hg (wm Aa (wo hg (wv (AB Aa) (wo hg (vF BG Aa C2 (wo hg (vL 0 CO Aa (wo hg (wv (BT Aa Aa) (GO Aa hg Aa (Ar ?_)))))))))))));exact C8 hg
 refine cz h8 Aa (λh9 hA=>?_) (λh9 hB=>?_)
 ·refine Am (wa Aa (Ax (A6 (Ae ?_))));obtain rfl:=AA hA;exact A5 (Cp Tryz.results185 (AT Aa)) (sC (sC sN)) ⟨v4,Aa,Aa⟩
 refine A0 (AY (AV [(0,rP hd 0),(5,A4 (Bx (List.take (BH he-BH q.fAt) (List.drop (BH q.fAt) r1.2.fS))))] [.blk hd [rS r1.2.fS,A4 he,rv v4,rB (r1.2.fGreat||(!decide ((BO (List.take (BH he-BH q.fAt) (List.drop (BH q.fAt) r1.2.fS)))=0)))] 166,.row v4 83 4 (A8 Af r1.2.fCells)] ?_ ?_))
 ·refine Ap (wm Aa (wm Aa (wv (AB Aa) (vF BG Aa JE (vL 0 Xs Aa (wm Aa (AZ (r1.2.fGreat) (λhh=>?_) (λhh=>?_))))))))
  ·refine wf hh (wf hh (wv (r:=rB true) (A3 Aa hh Aa) (wv (AB Aa) (vF BG Aa JE (us (i:=0) JE Aa Aa (BA Aa) Aa Aa ?_)))));refine Ar (JH (H':=[.blk hd [rS r1.2.fS,A4 he,rv v4,rB (r1.2.fGreat||(!decide ((BO (List.take (BH he-BH q.fAt) (List.drop (BH q.fAt) r1.2.fS)))=0)))] 166,.row v4 83 4 (A8 Af r1.2.fCells)]) (by simp only[hh,Agp,Agx,AgB,Ags,Ag1,Agz,Ag9,Ag3,Agl,Ag2,Agg,Agb]) ?_);exact wt
  refine wo hh (wm Aa (wo hh (wv (Cl Aa Aa) (GO Aa hh Aa (wv (AB Aa) (vF BG Aa JE (us (i:=0) JE Aa Aa (BA Aa) Aa Aa ?_)))))));refine Ar (JH (H':=[.blk hd [rS r1.2.fS,A4 he,rv v4,rB (r1.2.fGreat||(!decide ((BO (List.take (BH he-BH q.fAt) (List.drop (BH q.fAt) r1.2.fS)))=0)))] 166,.row v4 83 4 (A8 Af r1.2.fCells)]) (by simp only[hh,Agp,Agx,AgB,Ags,Ag1,Agz,Ag9,Ag3,Agl,Ag2,Agg,Agb]) ?_);exact wt
 refine Am (wm Aa (wm Aa (wv (AB Aa) (vF BG Aa CW (vL 0 EF Aa (wm Aa (wv (r:=BW [A4 3,A4 (Bx (List.take (BH he-BH q.fAt) (List.drop (BH q.fAt) r1.2.fS))),rS ([]:Aj),A4 0]) (IU Aa Aa Aa Aa) (Bf (ys:=([(Ac.mk 3 (Bx (List.take (BH he-BH q.fAt) (List.drop (BH q.fAt) r1.2.fS))) ([]:Aj) 0)]:List Ac)) (enc:=Af) (css:=[[A4 3,A4 (Bx (List.take (BH he-BH q.fAt) (List.drop (BH q.fAt) r1.2.fS))),rS ([]:Aj),A4 0]]) (xs:=[.tmp 99]) D7 EE O0 Aa Aa Aa ⟨Em.agg ⟨Up.refl _,Up.refl _,Up.refl _,Up.refl _,trivial⟩,trivial⟩ Aa BC Aa Aa Aa (λhH=>?_)))))))));refine ck hB λhC hD=>Exists.elim Kb λinf hinf=>Cc (xs:=r1.2.fCells) (ys:=([(Ac.mk 3 (Bx (List.take (BH he-BH q.fAt) (List.drop (BH q.fAt) r1.2.fS))) ([]:Aj) 0)]:List Ac)) (enc:=Af) (i:=2) D7 hinf.1 hinf.2.1 hinf.2.2.1 hinf.2.2.2 Aa Aa Aa Aa Aa (JD.w (i:=0) Aa Aa) BC Dh hC Aa (λhE=>?_);refine wv (AB Aa) (vF BG Aa CW (us (i:=2) CW Aa Aa (CD (i:=0) Aa) Aa Aa ?_));refine B3 (wa Aa (Ax (A6 (Ja [2] ?_))));obtain rfl:=AA hD;exact A5 (Cp Tryz.results185 (AT Aa)) (sC (sC (sS sN))) ⟨hE,Aa,Aa⟩
theorem Vd (F:Nat)(hd:Nat)(hh:Value)(q:A2)(r:Bool×A2)(h:Jf F q=some r):Fn Tryz.prog GE 160 [rP hd 0] [.blk hd [rS q.fS,A4 q.fAt,rv hh,rB q.fGreat] 166,.row hh 83 4 (A8 Af q.fCells)] (λR H=>∃w0_2:Value,R=rB r.1∧H=[.blk hd [rS r.2.fS,A4 r.2.fAt,rv w0_2,rB r.2.fGreat] 166,.row w0_2 83 4 (A8 Af r.2.fCells)]):=by
 refine enter (n:=75) Tryz.func160 Aa Tryz.ntmps160 Aa (λw Z=>?_);unfold Jf at h;refine Am (wa Aa (Ax (Cg (S:=(Aj×Int×(List Ac)×Bool)×(Value)) (λσ=>Ep σ.1.1 σ.1.2.1 σ.1.2.2.1 σ.1.2.2.2=some r) (λσ=>[]) (λσ=>[.blk hd [rS σ.1.1,A4 σ.1.2.1,rv σ.2,rB σ.1.2.2.2] 166,.row σ.2 83 4 (A8 Af σ.1.2.2.1)]) ?_ ?_)))
 ·refine AO (Am (wm Aa (ob h λhe hj hk=>Du [0,0] Id (DS hd hh q ([110,117,108,108]:Aj) he hj) ?_)));rintro _ _ ⟨hl,rfl,rfl⟩;refine wa Aa (Ax (cz hk Aa (λhm hn=>?_) (λhm ho=>?_)))
  ·refine Ap (wm Aa (wm Aa (wv (AB Aa) (vF BG Aa CW (vL 0 EF Aa (wv (r:=BW [A4 1,A4 0,rS ([]:Aj),A4 0]) (IC Aa Aa) (Bf (ys:=([(Ac.mk 1 0 ([]:Aj) 0)]:List Ac)) (enc:=Af) (css:=[[A4 1,A4 0,rS ([]:Aj),A4 0]]) (xs:=[.tmp 15]) D7 EE O0 Aa Aa Aa ⟨Em.agg ⟨Up.refl _,Up.refl _,Up.refl _,Up.refl _,trivial⟩,trivial⟩ Aa BC Aa Aa Aa (λga=>?_))))))));refine ck hn λhp hq=>Exists.elim Kb λinf hinf=>Cc (xs:=he.2.fCells) (ys:=([(Ac.mk 1 0 ([]:Aj) 0)]:List Ac)) (enc:=Af) (i:=2) D7 hinf.1 hinf.2.1 hinf.2.2.1 hinf.2.2.2 Aa Aa Aa Aa Aa (JD.w (i:=0) Aa Aa) BC Dh hp Aa (λhr=>?_);refine wv (AB Aa) (vF BG Aa CW (us (i:=2) CW Aa Aa (CD (i:=0) Aa) Aa Aa ?_));refine Ar (AK (Ja [2] ?_));exact A1 (AG ((he.2.fS,he.2.fAt,he.2.fCells++([(Ac.mk 1 0 ([]:Aj) 0)]:List Ac),he.2.fGreat),hr) hq AI.nil (sC (sC (sS sN))))
  refine Am (wm Aa (ob ho λhf hs ht=>Du [0,0] Id (DS hd hl he.2 ([116,114,117,101]:Aj) hf hs) ?_));rintro _ _ ⟨v76,rfl,rfl⟩;refine wa Aa (Ax (cz ht Aa (λhu hw=>?_) (λhu hx=>?_)))
  ·refine Ap (wm Aa (wm Aa (wv (AB Aa) (vF BG Aa CW (vL 0 EF Aa (wv (r:=BW [A4 2,A4 1,rS ([]:Aj),A4 0]) (IU Aa Aa Aa Aa) (Bf (ys:=([(Ac.mk 2 1 ([]:Aj) 0)]:List Ac)) (enc:=Af) (css:=[[A4 2,A4 1,rS ([]:Aj),A4 0]]) (xs:=[.tmp 28]) D7 EE O0 Aa Aa Aa ⟨Em.agg ⟨Up.refl _,Up.refl _,Up.refl _,Up.refl _,trivial⟩,trivial⟩ Aa BC Aa Aa Aa (λgb=>?_))))))));refine ck hw λhy hz=>Exists.elim Kb λinf hinf=>Cc (xs:=hf.2.fCells) (ys:=([(Ac.mk 2 1 ([]:Aj) 0)]:List Ac)) (enc:=Af) (i:=2) D7 hinf.1 hinf.2.1 hinf.2.2.1 hinf.2.2.2 Aa Aa Aa Aa Aa (JD.w (i:=0) Aa Aa) BC Dh hy Aa (λv80=>?_);refine wv (AB Aa) (vF BG Aa CW (us (i:=2) CW Aa Aa (CD (i:=0) Aa) Aa Aa ?_));refine Ar (AK (Ja [2] ?_));exact A1 (AG ((hf.2.fS,hf.2.fAt,hf.2.fCells++([(Ac.mk 2 1 ([]:Aj) 0)]:List Ac),hf.2.fGreat),v80) hz AI.nil (sC (sC (sS sN))))
  refine Am (wm Aa (ob hx λhb h0 h1=>Du [0,0] Id (DS hd v76 hf.2 ([102,97,108,115,101]:Aj) hb h0) ?_));rintro _ _ ⟨hi,rfl,rfl⟩;refine wa Aa (Ax (cz h1 Aa (λh2 h3=>?_) (λh2 h4=>?_)))
  ·refine Ap (wm Aa (wm Aa (wv (AB Aa) (vF BG Aa CW (vL 0 EF Aa (wv (r:=BW [A4 2,A4 0,rS ([]:Aj),A4 0]) (IC Aa Aa) (Bf (ys:=([(Ac.mk 2 0 ([]:Aj) 0)]:List Ac)) (enc:=Af) (css:=[[A4 2,A4 0,rS ([]:Aj),A4 0]]) (xs:=[.tmp 41]) D7 EE O0 Aa Aa Aa ⟨Em.agg ⟨Up.refl _,Up.refl _,Up.refl _,Up.refl _,trivial⟩,trivial⟩ Aa BC Aa Aa Aa (λgc=>?_))))))));refine ck h3 λh5 h6=>Exists.elim Kb λinf hinf=>Cc (xs:=hb.2.fCells) (ys:=([(Ac.mk 2 0 ([]:Aj) 0)]:List Ac)) (enc:=Af) (i:=2) D7 hinf.1 hinf.2.1 hinf.2.2.1 hinf.2.2.2 Aa Aa Aa Aa Aa (JD.w (i:=0) Aa Aa) BC Dh h5 Aa (λh7=>?_);refine wv (AB Aa) (vF BG Aa CW (us (i:=2) CW Aa Aa (CD (i:=0) Aa) Aa Aa ?_));refine Ar (AK (Ja [2] ?_));exact A1 (AG ((hb.2.fS,hb.2.fAt,hb.2.fCells++([(Ac.mk 2 0 ([]:Aj) 0)]:List Ac),hb.2.fGreat),h7) h6 AI.nil (sC (sC (sS sN))))
  refine Aq (ck h4 λh8 h9=>ob h9 λhA hB hC=>Dy [0] ?_);refine rq (Ah Aa) (rq (AB Aa) (rq (Aw BG Aa BS Aa Aa) (rq (AQ (i:=0) Cf Aa Aa Aa) (rq (Ah Aa) (rq (AB Aa) (rq (Aw BG Aa C2 Aa Aa) (rq (AQ (i:=0) CO Aa Aa Aa) (rq (DV CX Aa Aa h8) (TF (GI Tryz.call184 (Ow (List.drop (BH hb.2.fAt) hb.2.fS) ([34]:Aj) hA hB) Aa) (rq (AC Aa) (re [46,0] ?_)))))))))));refine AY (cz hC Aa (λhD hE=>?_) (λhD hG=>?_))
  ·refine Am (wm Aa (ob hE λha hH hI=>Du [0,0] Tryz.call161 (Wd F hd hi hb.2 ha hH) ?_));rintro _ _ ⟨hJ,rfl,rfl⟩;refine wm Aa (wv (AD Aa Aa) (wv (AD Aa Aa) (wa Aa (wa Aa (Ax (Aq (Am (wm Aa (wv (BJ Aa) (Ax (cz hI Aa (λhK hL=>?_) (λhK hN=>?_))))))))))))
   ·refine Am (wa Aa (Ax (A6 (Ae (A7 (Ae ?_))))));obtain rfl:=AA hL;exact A5 (Cp Tryz.results160 (AT Aa)) (sC (sC sN)) ⟨hJ,Aa,Aa⟩
   refine A0 (AY (Ap (wm Aa (wm Aa (wv (AB Aa) (vF BG Aa CW (vL 0 EF Aa (wm Aa (wv (r:=BW [A4 4,A4 0,rS ha.1,A4 0]) (LU Aa Aa Aa Aa) (Bf (ys:=([(Ac.mk 4 0 ha.1 0)]:List Ac)) (enc:=Af) (css:=[[A4 4,A4 0,rS ha.1,A4 0]]) (xs:=[.tmp 70]) D7 EE O0 Aa Aa Aa ⟨Em.agg ⟨Up.refl _,Up.refl _,Up.refl _,Up.refl _,trivial⟩,trivial⟩ Aa BC Aa Aa Aa (λgd=>?_)))))))))));refine ck hN λhO hP=>Exists.elim Kb λinf hinf=>Cc (xs:=ha.2.2.fCells) (ys:=([(Ac.mk 4 0 ha.1 0)]:List Ac)) (enc:=Af) (i:=2) D7 hinf.1 hinf.2.1 hinf.2.2.1 hinf.2.2.2 Aa Aa Aa Aa Aa (JD.w (i:=0) Aa Aa) BC Dh hO Aa (λhQ=>?_);refine wv (AB Aa) (vF BG Aa CW (us (i:=2) CW Aa Aa (CD (i:=0) Aa) Aa Aa ?_));refine Ar (AK (Ja [2] ?_));exact A1 (AG ((ha.2.2.fS,ha.2.2.fAt,ha.2.2.fCells++([(Ac.mk 4 0 ha.1 0)]:List Ac),ha.2.2.fGreat),hQ) hP AI.nil (sC (sC (sS sN))))
  refine Am (wm Aa (ob hG λhR hS hT=>Du [0,0] Tryz.call185 (AbZ F hd hi hb.2 hR hS) ?_));rintro _ _ ⟨hU,rfl,rfl⟩;refine wa Aa (Ax (A6 (A7 (Ae ?_))));obtain rfl:=AA hT;exact A5 (Cp Tryz.results160 (AT Aa)) (sC (sC sN)) ⟨hU,Aa,Aa⟩
 rintro⟨⟨hV,hW,hX,hY⟩,hZ⟩ hg;refine EL ?_;replace hg:Ep hV hW hX hY=some r:=hg;unfold Ep at hg;refine Am (wa Aa (Ax (A6 ?_)));obtain rfl:=AA hg;exact A5 (Cp Tryz.results160 (AT Aa)) (sC (sC sN)) ⟨hZ,Aa,Aa⟩
theorem Vb (F:Nat)(hg:A2→Option (Bool×A2))(hH:(∀(hb:Nat) (hn:Value) (q:A2) (r:Bool×A2),hg q=some r→Fn Tryz.prog GE 125 [rP hb 0] [.blk hb [rS q.fS,A4 q.fAt,rv hn,rB q.fGreat] 166,.row hn 83 4 (A8 Af q.fCells)] (λR H=>∃w0_2:Value,R=rB r.1∧H=[.blk hb [rS r.2.fS,A4 r.2.fAt,rv w0_2,rB r.2.fGreat] 166,.row w0_2 83 4 (A8 Af r.2.fCells)])))(hb:Nat)(hn:Value)(q:A2)(r:Bool×A2)(h:MC F hg q=some r):Fn Tryz.prog GE 125 [rP hb 0] [.blk hb [rS q.fS,A4 q.fAt,rv hn,rB q.fGreat] 166,.row hn 83 4 (A8 Af q.fCells)] (λR H=>∃w0_2:Value,R=rB r.1∧H=[.blk hb [rS r.2.fS,A4 r.2.fAt,rv w0_2,rB r.2.fGreat] 166,.row w0_2 83 4 (A8 Af r.2.fCells)]):=by
 refine enter (n:=96) Tryz.func125 Aa Tryz.ntmps125 Aa (λw Z=>?_);unfold MC at h;refine Am (wa Aa (B3 (wm Aa (ob h λr1 e3 h2=>Du [0,0] Id (DS hb hn q ([91]:Aj) r1 e3) ?_))));rintro _ _ ⟨v4,rfl,rfl⟩;refine wa Aa (Ax (Aq (Cg (S:=(Bool×Aj×Int×(List Ac)×Bool)×(Value)) (λσ=>Eo F hg r1 σ.1.1 σ.1.2.1 σ.1.2.2.1 σ.1.2.2.2.1 σ.1.2.2.2.2=some r) (λσ=>[(0,rP hb 0),(2,rB false),(3,rB r1.1),(19,rB σ.1.1)]) (λσ=>[.blk hb [rS σ.1.2.1,A4 σ.1.2.2.1,rv σ.2,rB σ.1.2.2.2.2] 166,.row σ.2 83 4 (A8 Af σ.1.2.2.2.1)]) ?_ ?_)))
 ·refine Ap (wm Aa (wv (BJ Aa) (wm Aa (bz h2 (λhi gc=>?_) (λhi gd=>?_)))))
  ·refine wo hi (wm Aa (wo hi (ob gc λho ge gf=>Du [0,0] Id (DS hb v4 r1.2 ([123]:Aj) ho ge) ?_)));rintro _ _ ⟨v24,rfl,rfl⟩;exact wo hi (wv (BJ Aa) (GC Aa hi Aa (Ar (A1 (AG ((!ho.1,ho.2.fS,ho.2.fAt,ho.2.fCells,ho.2.fGreat),v24) gf (AI.c Aa (AI.c Aa (AI.c Aa (AI.c Aa AI.nil)))) (sC (sC sN)))))))
  exact wf hi (wf hi (wf hi (wv (r:=rB false) (Ay Aa hi Aa) (Ar (A1 (AG ((false,r1.2.fS,r1.2.fAt,r1.2.fCells,r1.2.fGreat),v4) gd (AI.c Aa (AI.c Aa (AI.c Aa (AI.c Aa AI.nil)))) (sC (sC sN))))))))
 rintro⟨⟨gg,hy,hz,x16,h0⟩,gh⟩ h1;refine EL ?_;replace h1:Eo F hg r1 gg hy hz x16 h0=some r:=h1;unfold Eo at h1;refine cz h1 Aa (λgi gj=>?_) (λgi gl=>?_)
 ·refine Am (wm Aa (ob gj λgm gp gq=>Du [0,0] Tryz.call160 (Vd F hb gh (A2.mk hy hz x16 h0) gm gp) ?_));rintro _ _ ⟨gr,rfl,rfl⟩;refine wa Aa (Ax (A6 (Ae ?_)));obtain rfl:=AA gq;exact A5 (Cp LN (AT Aa)) (sC (sC sN)) ⟨gr,Aa,Aa⟩
 refine A0 (AY (Am (wa Aa (wv (r:=rS ([125]:Aj)) (AC Aa) (Ax (Aq (Am (wm Aa (Ax (cz gl Aa (λhA gs=>?_) (λhA gt=>?_)))))))))))
 ·refine Ap (wa Aa (wv (r:=rS ([93]:Aj)) (AC Aa) (B3 (wm Aa (wv (AB Aa) (vF BG Aa CW (vL 0 EF Aa (wv (Ce (ys:=x16) (enc:=Af) (i:=1) D7 Aa Aa) (wa Aa (B3 (wm Aa (wm Aa (wv (AB Aa) (vF BG Aa CW (vL 0 EF Aa (wm Aa (wv (r:=BW [A4 5,A4 0,rS ([]:Aj),A4 0]) (IC Aa Aa) (Bf (ys:=([(Ac.mk 5 0 ([]:Aj) 0)]:List Ac)) (enc:=Af) (css:=[[A4 5,A4 0,rS ([]:Aj),A4 0]]) (xs:=[.tmp 34]) D7 EE O0 Aa Aa Aa ⟨Em.agg ⟨Up.refl _,Up.refl _,Up.refl _,Up.refl _,trivial⟩,trivial⟩ Aa BC Aa Aa Aa (λxb=>?_)))))))))))))))))));refine ck gs λgu gv=>Exists.elim Kb λinf hinf=>Cc (xs:=x16) (ys:=([(Ac.mk 5 0 ([]:Aj) 0)]:List Ac)) (enc:=Af) (i:=2) D7 hinf.1 hinf.2.1 hinf.2.2.1 hinf.2.2.2 Aa Aa Aa Aa Aa (JD.w (i:=0) Aa Aa) BC Dh gu Aa (λv37=>?_);refine wv (AB Aa) (vF BG Aa CW (us (i:=2) CW Aa Aa (CD (i:=0) Aa) Aa Aa ?_));refine Ax (Aq (Am (wm Aa (wm Aa (ob gv λhs gw gx=>Du [2,0] Id (DS hb v37 (A2.mk hy hz (x16++([(Ac.mk 5 0 ([]:Aj) 0)]:List Ac)) h0) ([93]:Aj) hs gw) ?_)))));rintro _ _ ⟨hI,rfl,rfl⟩;refine Ax (cz gx Aa (λgy gz=>?_) (λgy g0=>?_))
  ·refine Am (wa Aa (Ax (A6 (Ae ?_))));obtain rfl:=AA gz;exact A5 (Cp LN (AT Aa)) (sC (sC (sS sN))) ⟨hI,Aa,Aa⟩
  refine A0 (AY (Am (wv (r:=rS ([]:Aj)) (AC Aa) (B3 (wa Aa (Ax (AO (ob g0 λg1 g2 hB=>B5 (S:=Nat×(Int×Aj×Int×(List Ac)×Bool)×(Value)) (V:=(Unit)×(Unit)) 0 (λσ=>Cj (λσ=>Gd hg x16 σ.1 σ.2.1 σ.2.2.1 σ.2.2.2.1 σ.2.2.2.2) σ.1 σ.2.1=some g1) (λσ=>[(0,rP hb 0),(2,rB false),(3,rB r1.1),(5,rS ([93]:Aj)),(6,A4 (x16.length:Int)),(7,rS ([]:Aj)),(8,A4 σ.2.1.1)]) (λσ=>[.blk hb [rS σ.2.1.2.1,A4 σ.2.1.2.2.1,rv σ.2.2,rB σ.2.1.2.2.2.2] 166,.row σ.2.2 83 4 (A8 Af σ.2.1.2.2.2.1)]) (λσ=>σ.1) (F,(1,hs.2.fS,hs.2.fAt,hs.2.fCells,hs.2.fGreat),hI) g2 (AI.c Aa (AI.c Aa (AI.c5 Aa Aa Aa Aa Aa AI.nil))) (sC (sC (sS sN))) (λσ=>Ij =some r) (λσ=>[]) (λσ=>[]) ?_ ?_))))))))
  ·rintro⟨xc,⟨h3,hJ,hK,hL,hN⟩,g3⟩ g4;refine EL ?_;obtain⟨g5,rfl,g6,h4,h5⟩:=CM g4;replace h4:Gd hg x16 h3 hJ hK hL hN=some g6:=h4;unfold Gd at h4;refine Aq (AO (Aq (Am (wm Aa (wv (BJ Aa) (Ax (DA Aa (AeS hA) (A0 (AY (Aq (Am (wm Aa (ob h4 λhd g7 g8=>Du [0,0] Tryz.call125 (hH hb g3 (A2.mk hJ hK hL hN) hd g7) ?_)))))))))))));rintro _ _ ⟨hp,rfl,rfl⟩;refine wv (BJ Aa) (Ax (cz g8 Aa (λg9 gA=>?_) (λg9 gB=>?_)))
   ·refine Am (wa Aa (Ax (A6 (Ae (A7 (Ae (Ae (Bc ?_))))))));have gC:=B4 gA h5 hB;refine A7 ?_;obtain rfl:=AA gC;exact A5 (Cp LN (AT Aa)) (sC (sC sN)) ⟨hp,Aa,Aa⟩
   refine A0 (AY (Am (wm Aa (wv (AB Aa) (vF BG Aa CW (vL 0 EF Aa (wm Aa (wm Aa (ck gB λhC gD=>wv (r:=rv (EZ 4 hp (BH (x16.length:Int)) 0)) (Ej (i:=1) D7 EE Aa Aa Aa (BI hC)) (wv (r:=rv (EZ 4 hp (BH (x16.length:Int)) 3)) (Gh (k:=1) CY Aa C2 Aa (BI hC) Aa Aa Aa) (JK (enc:=Af) (ys:=hd.2.fCells) (y':=(Ac.mk ((Al hd.2.fCells (x16.length:Int)).fKind) ((Al hd.2.fCells (x16.length:Int)).fInt) ((Al hd.2.fCells (x16.length:Int)).fStr) h3)) (i:=1) (j:=(x16.length:Int)) C2 Aa Aa (BA Aa) Aa hC Aa Aa (H':=[.blk hb [rS hd.2.fS,A4 hd.2.fAt,rv hp,rB hd.2.fGreat] 166,.row hp 83 4 (A8 Af (List.set hd.2.fCells (BH (x16.length:Int)) (Ac.mk ((Al hd.2.fCells (x16.length:Int)).fKind) ((Al hd.2.fCells (x16.length:Int)).fInt) ((Al hd.2.fCells (x16.length:Int)).fStr) h3)))]) Aa (bd gD λgE gF gG=>?_))))))))))));rw[← gF];refine Ax (Aq (Am (wm Aa (wm Aa (ob gG λhO gH gI=>Du [0,0] Id (DS hb hp (A2.mk hd.2.fS hd.2.fAt gE hd.2.fGreat) ([93]:Aj) hO gH) ?_)))));rintro _ _ ⟨hP,rfl,rfl⟩;refine Ax (cz gI Aa (λc167 gJ=>?_) (λc167 gK=>?_))
   ·refine Am (wa Aa (Ax (A6 (Ae (A7 (Ae (Ae (Bc ?_))))))));have gL:=B4 gJ h5 hB;refine A7 ?_;obtain rfl:=AA gL;exact A5 (Cp LN (AT Aa)) (sC (sC sN)) ⟨hP,Aa,Aa⟩
   refine A0 (AY (Am (wm Aa (ob gK λht gM gN=>Du [0,0] Id (DS hb hP hO.2 ([44]:Aj) ht gM) ?_))));rintro _ _ ⟨hQ,rfl,rfl⟩;refine wv (BJ Aa) (Ax (cz gN Aa (λc175 gO=>?_) (λc175 gP=>?_)))
   ·refine Am (wa Aa (Ax (A6 (A7 (Ae (Ae (Bc ?_)))))));have gQ:=B4 gO h5 hB;refine A7 ?_;obtain rfl:=AA gQ;exact A5 (Cp LN (AT Aa)) (sC (sC sN)) ⟨hQ,Aa,Aa⟩
   refine A0 (AK (AY (Ap (wm Aa (ck gP λgR gS=>wv (BU Aa Aa gR) (wa Aa (Ar ?_)))))));have gT:=B8 gS h5;exact A1 (AG (g5,(h3+1,ht.2.fS,ht.2.fAt,ht.2.fCells,ht.2.fGreat),hQ) ⟨gT,Ago _⟩ (AI.c Aa (AI.c Aa (AI.c5 Aa Aa Aa Aa Aa AI.nil))) (sC (sC sN)))
  rintro⟨⟨⟩,⟨⟩⟩ gU
  cases gU
 refine A0 (AY (Am (wm Aa (wv (AB Aa) (vF BG Aa CW (vL 0 EF Aa (wv (Ce (ys:=x16) (enc:=Af) (i:=1) D7 Aa Aa) (wa Aa (B3 (wm Aa (wm Aa (wv (AB Aa) (vF BG Aa CW (vL 0 EF Aa (wm Aa (wv (r:=BW [A4 6,A4 0,rS ([]:Aj),A4 0]) (IC Aa Aa) (Bf (ys:=([(Ac.mk 6 0 ([]:Aj) 0)]:List Ac)) (enc:=Af) (css:=[[A4 6,A4 0,rS ([]:Aj),A4 0]]) (xs:=[.tmp 34]) D7 EE O0 Aa Aa Aa ⟨Em.agg ⟨Up.refl _,Up.refl _,Up.refl _,Up.refl _,trivial⟩,trivial⟩ Aa BC Aa Aa Aa (λxd=>?_))))))))))))))))));refine ck gt λgV gW=>Exists.elim Kb λinf hinf=>Cc (xs:=x16) (ys:=([(Ac.mk 6 0 ([]:Aj) 0)]:List Ac)) (enc:=Af) (i:=2) D7 hinf.1 hinf.2.1 hinf.2.2.1 hinf.2.2.2 Aa Aa Aa Aa Aa (JD.w (i:=0) Aa Aa) BC Dh gV Aa (λgX=>?_);refine wv (AB Aa) (vF BG Aa CW (us (i:=2) CW Aa Aa (CD (i:=0) Aa) Aa Aa ?_));refine Ax (Aq (Am (wm Aa (wm Aa (ob gW λhu gY gZ=>Du [2,0] Id (DS hb gX (A2.mk hy hz (x16++([(Ac.mk 6 0 ([]:Aj) 0)]:List Ac)) h0) ([125]:Aj) hu gY) ?_)))));rintro _ _ ⟨hR,rfl,rfl⟩;refine Ax (cz gZ Aa (λca cb=>?_) (λca cc=>?_))
 ·refine Am (wa Aa (Ax (A6 (Ae ?_))));obtain rfl:=AA cb;exact A5 (Cp LN (AT Aa)) (sC (sC (sS sN))) ⟨hR,Aa,Aa⟩
 refine A0 (AY (Am (wv (r:=rS ([]:Aj)) (AC Aa) (B3 (wa Aa (Ax (AO (ob cc λcd ce h6=>B5 (S:=Nat×(Aj×Int×Aj×Int×(List Ac)×Bool)×(Value)) (V:=(Unit)×(Unit)) 0 (λσ=>Cj (λσ=>Gc F hg x16 σ.1 σ.2.1 σ.2.2.1 σ.2.2.2.1 σ.2.2.2.2.1 σ.2.2.2.2.2) σ.1 σ.2.1=some cd) (λσ=>[(0,rP hb 0),(2,rB false),(3,rB r1.1),(5,rS ([125]:Aj)),(6,A4 (x16.length:Int)),(7,rS σ.2.1.1),(8,A4 σ.2.1.2.1)]) (λσ=>[.blk hb [rS σ.2.1.2.2.1,A4 σ.2.1.2.2.2.1,rv σ.2.2,rB σ.2.1.2.2.2.2.2] 166,.row σ.2.2 83 4 (A8 Af σ.2.1.2.2.2.2.1)]) (λσ=>σ.1) (F,(([]:Aj),1,hu.2.fS,hu.2.fAt,hu.2.fCells,hu.2.fGreat),hR) ce (AI.c Aa (AI.c Aa (AI.c5 Aa Aa Aa Aa Aa AI.nil))) (sC (sC (sS sN))) (λσ=>Ii =some r) (λσ=>[]) (λσ=>[]) ?_ ?_))))))))
 ·rintro⟨xe,⟨hh,hl,hS,hT,hU,hV⟩,cf⟩ cg;refine EL ?_;obtain⟨ch,rfl,hD,h7,hw⟩:=CM cg;replace h7:Gc F hg x16 hh hl hS hT hU hV=some hD:=h7;unfold Gc at h7;refine Aq (AO (Aq (Am (wm Aa (wv (BJ Aa) (Ax (DG Aa (Adu hA) (Am (wm Aa (ob h7 λha ci cj=>Du [0,0] Tryz.call161 (Wd F hb cf (A2.mk hS hT hU hV) ha ci) ?_))))))))));rintro _ _ ⟨h8,rfl,rfl⟩;refine wm Aa (wv (AD Aa Aa) (wv (AD Aa Aa) (wa Aa (wa Aa (Ax (Aq (Cg (S:=(Bool×Bool×Bool×Aj×Int×(List Ac)×Bool)×(Value)) (λσ=>CK hg x16 hl ha σ.1.1 σ.1.2.1 σ.1.2.2.1 σ.1.2.2.2.1 σ.1.2.2.2.2.1 σ.1.2.2.2.2.2.1 σ.1.2.2.2.2.2.2=some hD) (λσ=>[(0,rP hb 0),(2,rB false),(3,rB r1.1),(5,rS ([125]:Aj)),(6,A4 (x16.length:Int)),(7,rS hh),(8,A4 hl),(9,rS ha.1),(10,rB ha.2.1),(44,rB r1.1),(45,rB (!r1.1)),(46,Db [rS ha.1,rB ha.2.1]),(47,rP hb 0),(48,Db [rS ha.1,rB ha.2.1]),(49,rS ha.1),(50,rB ha.2.1),(51,rB ha.2.1),(52,rB (!ha.2.1)),(53,rB (!ha.2.1)),(61,rB σ.1.1),(62,rB σ.1.2.1),(66,rB σ.1.2.2.1)]) (λσ=>[.blk hb [rS σ.1.2.2.2.1,A4 σ.1.2.2.2.2.1,rv σ.2,rB σ.1.2.2.2.2.2.2] 166,.row σ.2 83 4 (A8 Af σ.1.2.2.2.2.2.1)]) ?_ ?_)))))))
  ·refine Ap (wm Aa (wv (BJ Aa) (wm Aa (bz cj (λhf cl=>?_) (λhf cm=>?_)))))
   ·exact wf hf (wf hf (wf hf (wu (wu (wu (wf hf (wv (r:=rB true) (A3 Aa hf Aa) (wm Aa (wz Aa Aa (wz Aa Aa (wz Aa Aa (wv (r:=rB true) (A3 (b:=true) Aa Aa Aa) (Ar (A1 (AG ((true,true,true,ha.2.2.fS,ha.2.2.fAt,ha.2.2.fCells,ha.2.2.fGreat),h8) cl (AI.c Aa (AI.c Aa (AI.c5 Aa Aa Aa Aa Aa (AI.c5 Aa Aa Aa Aa Aa (AI.c5 Aa Aa Aa Aa Aa (AI.c5 Aa Aa Aa Aa Aa AI.nil)))))) (sC (sC sN)))))))))))))))))
   refine wo hf (wm Aa (wo hf (wv (Ec Aa Aa) (wo hf (wm Aa (bz cm (λhj cn=>?_) (λhj co=>?_)))))))
   ·refine wo hj (wm Aa (wo hj (wm Aa (wo hj (wv (Aai Aa Aa) (wo hf (GC Aa hj Aa (GO Aa hf Aa (wm Aa (bz cn (λhk cp=>?_) (λhk cq=>?_)))))))))))
    ·exact wf hk (wf hk (wf hk (wv (r:=rB true) (A3 Aa hk Aa) (Ar (A1 (AG ((C9 ha.1 hh||decide (ha.1=hh),C9 ha.1 hh||decide (ha.1=hh),true,ha.2.2.fS,ha.2.2.fAt,ha.2.2.fCells,ha.2.2.fGreat),h8) cp (AI.c Aa (AI.c Aa (AI.c5 Aa Aa Aa Aa Aa (AI.c5 Aa Aa Aa Aa Aa (AI.c5 Aa Aa Aa Aa Aa (AI.c5 Aa Aa Aa Aa Aa AI.nil)))))) (sC (sC sN))))))))
    refine wo hk (wm Aa (wo hk (ob cq λhq cr cs=>Du [0,0] Id (DS hb h8 ha.2.2 ([58]:Aj) hq cr) ?_)));rintro _ _ ⟨ct,rfl,rfl⟩;exact wo hk (wv (BJ Aa) (GO Aa hk Aa (Ar (A1 (AG ((C9 ha.1 hh||decide (ha.1=hh),C9 ha.1 hh||decide (ha.1=hh),!hq.1,hq.2.fS,hq.2.fAt,hq.2.fCells,hq.2.fGreat),ct) cs (AI.c Aa (AI.c Aa (AI.c5 Aa Aa Aa Aa Aa (AI.c5 Aa Aa Aa Aa Aa (AI.c5 Aa Aa Aa Aa Aa (AI.c5 Aa Aa Aa Aa Aa AI.nil)))))) (sC (sC sN)))))))
   refine wf hj (wf hj (wf hj (wo hf (wv (r:=rB false) (Ay Aa hj Aa) (GO Aa hf Aa (wm Aa (AM (b:=false) Aa Aa Aa (wm Aa (AM (b:=false) Aa Aa Aa (ob co λhm cu cv=>Du [0,0] Id (DS hb h8 ha.2.2 ([58]:Aj) hm cu) ?_))))))))));rintro _ _ ⟨cw,rfl,rfl⟩;exact AM (b:=false) Aa Aa Aa (wv (BJ Aa) (wv (r:=rB (!hm.1)) (Ay (b:=false) Aa Aa Aa) (Ar (A1 (AG ((false,false,!hm.1,hm.2.fS,hm.2.fAt,hm.2.fCells,hm.2.fGreat),cw) cv (AI.c Aa (AI.c Aa (AI.c5 Aa Aa Aa Aa Aa (AI.c5 Aa Aa Aa Aa Aa (AI.c5 Aa Aa Aa Aa Aa (AI.c5 Aa Aa Aa Aa Aa AI.nil)))))) (sC (sC sN)))))))
  rintro⟨⟨cx,cy,c0,hW,hX,hE,hY⟩,c1⟩ h9;refine EL ?_;replace h9:CK hg x16 hl ha cx cy c0 hW hX hE hY=some hD:=h9;unfold CK at h9;refine cz h9 Aa (λc2 c3=>?_) (λc2 c4=>?_)
  ·refine Am (wa Aa (Ax (A6 (Ae (Ae (A7 (Ae (Ae (Bc ?_)))))))));have c6:=B4 c3 hw h6;refine A7 ?_;obtain rfl:=AA c6;exact A5 (Cp LN (AT Aa)) (sC (sC sN)) ⟨c1,Aa,Aa⟩
  refine A0 (AY (Am (wm Aa (wa Aa (Ax (Ap (wm Aa (wm Aa (wv (AB Aa) (vF BG Aa CW (vL 0 EF Aa (wm Aa (wv (r:=BW [A4 4,A4 0,rS ha.1,A4 0]) (LU Aa Aa Aa Aa) (Bf (ys:=([(Ac.mk 4 0 ha.1 0)]:List Ac)) (enc:=Af) (css:=[[A4 4,A4 0,rS ha.1,A4 0]]) (xs:=[.tmp 74]) D7 EE O0 Aa Aa Aa ⟨Em.agg ⟨Up.refl _,Up.refl _,Up.refl _,Up.refl _,trivial⟩,trivial⟩ Aa BC Aa Aa Aa (λc7=>?_)))))))))))))));refine ck c4 λc8 c9=>Exists.elim Kb λinf hinf=>Cc (xs:=hE) (ys:=([(Ac.mk 4 0 ha.1 0)]:List Ac)) (enc:=Af) (i:=2) D7 hinf.1 hinf.2.1 hinf.2.2.1 hinf.2.2.2 Aa Aa Aa Aa Aa (JD.w (i:=0) Aa Aa) BC Dh c8 Aa (λcA=>?_);refine wv (AB Aa) (vF BG Aa CW (us (i:=2) CW Aa Aa (CD (i:=0) Aa) Aa Aa ?_));refine Ax (Aq (Am (wm Aa (ob c9 λhe cB cC=>Du [2,0] Tryz.call125 (hH hb cA (A2.mk hW hX (hE++([(Ac.mk 4 0 ha.1 0)]:List Ac)) hY) he cB) ?_))));rintro _ _ ⟨hr,rfl,rfl⟩;refine wv (BJ Aa) (Ax (cz cC Aa (λcD cE=>?_) (λcD cF=>?_)))
  ·refine Am (wa Aa (Ax (A6 (Ae (A7 (Ae (Ae (Bc ?_))))))));have cG:=B4 cE hw h6;refine A7 ?_;obtain rfl:=AA cG;exact A5 (Cp LN (AT Aa)) (sC (sC (sS sN))) ⟨hr,Aa,Aa⟩
  refine A0 (AY (Am (wm Aa (wv (AB Aa) (vF BG Aa CW (vL 0 EF Aa (wm Aa (wm Aa (ck cF λhG cH=>wv (r:=rv (EZ 4 hr (BH (x16.length:Int)) 0)) (Ej (i:=1) D7 EE Aa Aa Aa (BI hG)) (wv (r:=rv (EZ 4 hr (BH (x16.length:Int)) 3)) (Gh (k:=1) CY Aa C2 Aa (BI hG) Aa Aa Aa) (JK (enc:=Af) (ys:=he.2.fCells) (y':=(Ac.mk ((Al he.2.fCells (x16.length:Int)).fKind) ((Al he.2.fCells (x16.length:Int)).fInt) ((Al he.2.fCells (x16.length:Int)).fStr) hl)) (i:=1) (j:=(x16.length:Int)) C2 Aa Aa (BA Aa) Aa hG Aa Aa (H':=[.blk hb [rS he.2.fS,A4 he.2.fAt,rv hr,rB he.2.fGreat] 166,.row hr 83 4 (A8 Af (List.set he.2.fCells (BH (x16.length:Int)) (Ac.mk ((Al he.2.fCells (x16.length:Int)).fKind) ((Al he.2.fCells (x16.length:Int)).fInt) ((Al he.2.fCells (x16.length:Int)).fStr) hl))),.row (.slice (some ⟨c7,0,none⟩) 1 1) 83 4 (A8 Af ([(Ac.mk 4 0 ha.1 0)]:List Ac))]) Aa (bd cH λcI cJ cK=>?_))))))))))));rw[← cJ];refine Ax (Aq (Am (wm Aa (wm Aa (ob cK λhZ cL cM=>Du [0,0] Id (DS hb hr (A2.mk he.2.fS he.2.fAt cI he.2.fGreat) ([125]:Aj) hZ cL) ?_)))));rintro _ _ ⟨ga,rfl,rfl⟩;refine Ax (cz cM Aa (λcN cO=>?_) (λcN cP=>?_))
  ·refine Am (wa Aa (Ax (A6 (Ae (A7 (Ae (Ae (Bc ?_))))))));have cQ:=B4 cO hw h6;refine A7 ?_;obtain rfl:=AA cQ;exact A5 (Cp LN (AT Aa)) (sC (sC (sS sN))) ⟨ga,Aa,Aa⟩
  refine A0 (AY (Am (wm Aa (ob cP λhx cR cS=>Du [0,0] Id (DS hb ga hZ.2 ([44]:Aj) hx cR) ?_))));rintro _ _ ⟨gb,rfl,rfl⟩;refine wv (BJ Aa) (Ax (cz cS Aa (λcT cU=>?_) (λcT cV=>?_)))
  ·refine Am (wa Aa (Ax (A6 (A7 (Ae (Ae (Bc ?_)))))));have cW:=B4 cU hw h6;refine A7 ?_;obtain rfl:=AA cW;exact A5 (Cp LN (AT Aa)) (sC (sC (sS sN))) ⟨gb,Aa,Aa⟩
  refine A0 (AK (AY (Ap (wm Aa (ck cV λcX cY=>wv (BU Aa Aa cX) (wa Aa (Ar ?_)))))));have cZ:=B8 cY hw;exact A1 (AG (ch,(ha.1,hl+1,hx.2.fS,hx.2.fAt,hx.2.fCells,hx.2.fGreat),gb) ⟨cZ,Ago _⟩ (AI.c Aa (AI.c Aa (AI.c5 Aa Aa Aa Aa Aa AI.nil))) (sC (sC (sS sN))))
 rintro⟨⟨⟩,⟨⟩⟩ xa
 cases xa
theorem Ob:∀F:Nat,(∀(ha:Nat) (hb:Value) (q:A2) (r:Bool×A2),CQ F q=some r→Fn Tryz.prog GE 125 [rP ha 0] [.blk ha [rS q.fS,A4 q.fAt,rv hb,rB q.fGreat] 166,.row hb 83 4 (A8 Af q.fCells)] (λR H=>∃w0_2:Value,R=rB r.1∧H=[.blk ha [rS r.2.fS,A4 r.2.fAt,rv w0_2,rB r.2.fGreat] 166,.row w0_2 83 4 (A8 Af r.2.fCells)]))
  | 0=>(λ_ _ _ _ h=>by simp[CQ] at h)
  | nn+1=>(λha hb q r h=>Vb nn (CQ nn) (Ob nn) ha hb q r (by rw[CQ] at h;exact h))
theorem Xw (F:Nat)(ha:Nat)(hb:Value)(q:A2)(r:Bool×A2)(h:CQ F q=some r):Fn Tryz.prog GE 125 [rP ha 0] [.blk ha [rS q.fS,A4 q.fAt,rv hb,rB q.fGreat] 166,.row hb 83 4 (A8 Af q.fCells)] (λR H=>∃w0_2:Value,R=rB r.1∧H=[.blk ha [rS r.2.fS,A4 r.2.fAt,rv w0_2,rB r.2.fGreat] 166,.row w0_2 83 4 (A8 Af r.2.fCells)]):=(Ob F) ha hb q r h
theorem Re (F:Nat)(s:Aj)(r:(List Ac)×Int)(h:JI F s=some r):Fn Tryz.prog GE 100 [rS s] [] (λR H=>R=Db [Be 4 (A8 Af r.1),A4 r.2]∧H=[]):=by
 refine enter (n:=34) Tryz.func100 Aa Tryz.ntmps100 Aa (λw Z=>?_);unfold JI at h;refine Am (wa Aa (wa Aa (Ax (Aq (Am (wm Aa (wv (BM CX Aa) (wv (Ec Aa Aa) (Ax (cz h Aa (λc1 h2=>?_) (λc1 h3=>?_)))))))))))
 ·refine Am (wa Aa (wa Aa (Ax (A6 (Ae (WK.up (d:=2) (r:=Be 4 (A8 Af ([]:List Ac))) Aa (Up.le (M1.nil _)) ?_))))));obtain rfl:=AA h2;exact A5 (E4 VY (AT Aa) (AT Aa)) sN ⟨Aa,Aa⟩
 refine A0 (AY (Am (wm Aa (wv (r:=BW [rS s,A4 0,rv (.slice none 0 0),rB false]) (SH Aa Aa) (CT Aa Aa (λb4=>?_))))));refine wa Aa (Ax (Aq (Cg (S:=(Bool×Aj×Int×(List Ac)×Bool)×(Value)) (λσ=>GV F σ.1.1 σ.1.2.1 σ.1.2.2.1 σ.1.2.2.2.1 σ.1.2.2.2.2=some r) (λσ=>[(2,rv (.slice none 0 0)),(3,A4 0),(4,rP b4 0),(22,rB σ.1.1)]) (λσ=>[.blk b4 [rS σ.1.2.1,A4 σ.1.2.2.1,rv σ.2,rB σ.1.2.2.2.2] 166,.row σ.2 83 4 (A8 Af σ.1.2.2.2.1)]) ?_ ?_)))
 ·refine Ap (wm Aa (WL.nilrow (e:=83) (sz:=4) (ob h3 λhb hf hg=>Du [1,0] Tryz.call125 (Xw F b4 (.slice none 0 0                                                                                   ) (A2.mk s 0 ([]:List Ac) false) hb hf) ?_)));rintro _ _ ⟨v21,rfl,rfl⟩;refine wv (BJ Aa) (wm Aa (bz hg (λha hh=>?_) (λha hi=>?_)))
  ·exact wf ha (wf ha (wf ha (wf ha (wf ha (wf ha (wf ha (wv (r:=rB true) (A3 Aa ha Aa) (Ar (A1 (AG ((true,hb.2.fS,hb.2.fAt,hb.2.fCells,hb.2.fGreat),v21) hh (AI.c Aa (AI.c Aa (AI.c Aa (AI.c Aa AI.nil)))) (sC (sC sN))))))))))))
  exact wo ha (wm Aa (wo ha (wv (AB Aa) (wo ha (vF BG Aa C2 (wo ha (vL 0 CO Aa (wo ha (wm Aa (wo ha (wv (BM CX Aa) (wo ha (wv (Cl Aa Aa) (GO Aa ha Aa (Ar (A1 (AG ((!decide (hb.2.fAt=(s.length:Int)),hb.2.fS,hb.2.fAt,hb.2.fCells,hb.2.fGreat),v21) hi (AI.c Aa (AI.c Aa (AI.c Aa (AI.c Aa AI.nil)))) (sC (sC sN)))))))))))))))))))
 rintro⟨⟨hj,hk,hl,he,hm⟩,hx⟩ hd;refine EL ?_;replace hd:GV F hj hk hl he hm=some r:=hd;unfold GV at hd;refine cz hd Aa (λhn ho=>?_) (λhn hp=>?_)
 ·refine Am (wa Aa (wa Aa (Ax (A6 (Ae (WK.up (d:=2) (r:=Be 4 (A8 Af ([]:List Ac))) Aa (Up.le (M1.nil _)) ?_))))));obtain rfl:=AA ho;exact A5 (E4 VY (AT Aa) (AT Aa)) (sS (sS sN)) ⟨Aa,Aa⟩
 refine A0 (AY (Aq (Am (wm Aa (wv (AB Aa) (vF BG Aa JE (vL 0 Xs Aa (Ax (cz hp Aa (λhq hr=>?_) (λhq hs=>?_))))))))))
 ·refine Am (wa Aa (wa Aa (Ax (A6 (Ae (WK.up (d:=2) (r:=Be 4 (A8 Af ([]:List Ac))) Aa (Up.le (M1.nil _)) ?_))))));obtain rfl:=AA hr;exact A5 (E4 VY (AT Aa) (AT Aa)) (sS (sS sN)) ⟨Aa,Aa⟩
 refine A0 (AY (Am (wm Aa (wv (AB Aa) (vF BG Aa CW (vL 0 EF Aa (WL.freeze (i:=1) Aa (WL.up (d:=30) (r:=Be 4 (A8 Af he)) Aa (Up.fact (i:=0) Aa) (ob hs λht hu hw=>DM Tryz.call126 (Vf F he ht hu) Aa (wv (AD Aa Aa) (wv (AD Aa Aa) (wa Aa (wa Aa (Ax (A6 ?_)))))))))))))));obtain rfl:=AA hw;exact A5 (E4 VY (AT Aa) (AT Aa)) (sS (sS sN)) ⟨Aa,Aa⟩
end Go.Proofs.YtfobhhegpkinaaaGreatDoor.Q
