/-
  Texts of the proof, put together: ShelfN, FwG, Row, IdA, PlB, IdB, PlC, IdC, ShelfV, PlD, PlE, FwJ, IdR, TzL, QG, QO, RowQ, QOb, Q0, PQB, WQB, PVa, WVa, PVb, WVb, PVc, WVc, PVd, WVd.
-/
import Derived.Test.YtfobhhegpkinaaaGreatDoorOR1
import Derived.Shelf.Strconv.Itoa3
import Derived.Shelf.LaysM
import Derived.Shelf.LaysC
import Derived.Shelf.Strconv.AtoiAll
import Derived.Shelf.Strconv.ErrVarAll
import Derived.Test.YtfobhhegpkinaaaGreatDoorProg
import Derived.Lib.SmallJoins
import Derived.Lib.AppendIntMem
import Derived.Lib.TrailingZeros
import Derived.Lib.LaidTab
import Derived.Test.YtfobhhegpkinaaaGreatDoorCards
import Derived.Test.YtfobhhegpkinaaaGreatDoorTie
import Derived.Carry
import Derived.ChangeSame
import Derived.ProofKit
import Derived.OpenShut
import Derived.Deep.DeepHandedRow
import Derived.Deep.DeepWitnessRowRef
import Derived.Lib.LaidIn
import Derived.Stop.LaidErr
import Derived.Lib.Bytealg
import Derived.Lib.AtoiAllCases
import Derived.Lib.ItoaNum
import Derived.Lib.ItoaLen
import Derived.Shelf.Strings.Builder1
import Derived.Shelf.Strings.Count
import Derived.Shelf.Strings.Search1
import Derived.Shelf.Strings.Search2
import Derived.Shelf.Strings.Search3
import Derived.Shelf.Small.Strs
import Derived.Lib.ItoaMem
import Derived.Shelf.Lays7
import Derived.Shelf.Spec.TrailingZeros
import Derived.Deep.Slices
import Derived.ChangeArms
import Derived.DataReads
import Derived.Test.YtfobhhegpkinaaaGreatDoorRows
import Derived.Laws.Tables
namespace Go.Proofs
open Go.Shelf
def Tryz.laysM171_ren:Go.Shelf.Ren:=⟨fun | 171=>79 | 243=>109 | 246=>141 | 283=>170 | 284=>171 | 285=>172 | 286=>173 | 129=>140 | 317=>193 | 318=>194 | 319=>195 | 320=>196 | 337=>203 | 338=>204 | n=>n,fun | 3=>3 | 9=>9 | 2=>2 | 4=>4 | 171=>204 | 0=>0 | 53=>179 | 37=>144 | 5=>5 | 173=>206 | 212=>225 | 51=>158 | 20=>20 | 213=>226 | 46=>134 | 232=>238 | 233=>239 | n=>n,fun | 17=>0 | 18=>4 | 19=>5 | n=>n⟩
theorem Tryz.laysM171:Go.Proofs.LaysM.n171 Tryz.prog Tryz.laysM171_ren:={
 mixed:=by kernel_rfl
 f129:=Tryz.func140.trans (congrArg some (by kernel_rfl))
 f171:=Tryz.func79.trans (congrArg some (by kernel_rfl))
 f243:=Tryz.func109.trans (congrArg some (by kernel_rfl))
 f246:=Tryz.func141.trans (congrArg some (by kernel_rfl))
 f283:=Tryz.func170.trans (congrArg some (by kernel_rfl))
 f284:=Tryz.func171.trans (congrArg some (by kernel_rfl))
 f285:=Tryz.func172.trans (congrArg some (by kernel_rfl))
 f286:=Tryz.func173.trans (congrArg some (by kernel_rfl))
 f317:=Tryz.func193.trans (congrArg some (by kernel_rfl))
 f318:=Tryz.func194.trans (congrArg some (by kernel_rfl))
 f319:=Tryz.func195.trans (congrArg some (by kernel_rfl))
 f320:=Tryz.func196.trans (congrArg some (by kernel_rfl))
 f337:=Tryz.func203.trans (congrArg some (by kernel_rfl))
 f338:=Tryz.func204.trans (congrArg some (by kernel_rfl))
 t0:=Tryz.underlying0
 a0:=Tryz.isAgg0
 z0:=Tryz.sizeOf0
 v0:=Tryz.zeroValue0
 t2:=Tryz.underlying2
 a2:=Tryz.isAgg2
 z2:=Tryz.sizeOf2
 v2:=Tryz.zeroValue2
 t3:=Tryz.underlying3
 a3:=Tryz.isAgg3
 z3:=Tryz.sizeOf3
 v3:=Tryz.zeroValue3
 t4:=Tryz.underlying4
 a4:=Tryz.isAgg4
 z4:=Tryz.sizeOf4
 v4:=Tryz.zeroValue4
 t5:=Tryz.underlying5
 a5:=Tryz.isAgg5
 z5:=Tryz.sizeOf5
 v5:=Tryz.zeroValue5
 t9:=Tryz.underlying9
 a9:=Tryz.isAgg9
 z9:=Tryz.sizeOf9
 v9:=Tryz.zeroValue9
 t20:=Tryz.underlying20
 a20:=Tryz.isAgg20
 z20:=Tryz.sizeOf20
 v20:=Tryz.zeroValue20
 t37:=Tryz.underlying144
 a37:=Tryz.isAgg144
 z37:=Tryz.sizeOf144
 v37:=Tryz.zeroValue144
 t46:=Tryz.underlying134
 a46:=Tryz.isAgg134
 z46:=Tryz.sizeOf134
 v46:=Tryz.zeroValue134
 t51:=Tryz.underlying158
 a51:=Tryz.isAgg158
 z51:=Tryz.sizeOf158
 v51:=Tryz.zeroValue158
 t53:=Tryz.underlying179
 a53:=Tryz.isAgg179
 z53:=Tryz.sizeOf179
 v53:=Tryz.zeroValue179
 t171:=Tryz.underlying204
 a171:=Tryz.isAgg204
 z171:=Tryz.sizeOf204
 v171:=Tryz.zeroValue204
 t173:=Tryz.underlying206
 a173:=Tryz.isAgg206
 z173:=Tryz.sizeOf206
 v173:=Tryz.zeroValue206
 t212:=Tryz.underlying225
 a212:=Tryz.isAgg225
 z212:=Tryz.sizeOf225
 v212:=Tryz.zeroValue225
 t213:=Tryz.underlying226
 a213:=Tryz.isAgg226
 z213:=Tryz.sizeOf226
 t232:=Tryz.underlying238
 a232:=Tryz.isAgg238
 z232:=Tryz.sizeOf238
 v232:=Tryz.zeroValue238
 t233:=Tryz.underlying239
 a233:=Tryz.isAgg239
 z233:=Tryz.sizeOf239
 v233:=Tryz.zeroValue239
 g17:=by kernel_rfl
 g18:=by kernel_rfl
 g19:=by kernel_rfl
 i0:=by kernel_rfl
 i2:=by kernel_rfl
 i3:=by kernel_rfl
 i4:=by kernel_rfl
 i5:=by kernel_rfl
 i9:=by kernel_rfl
 i20:=by kernel_rfl
 i37:=by kernel_rfl
 i46:=by kernel_rfl
 i51:=by kernel_rfl
 i53:=by kernel_rfl
 i171:=by kernel_rfl
 i173:=by kernel_rfl
 i212:=by kernel_rfl
 i232:=by kernel_rfl
 i233:=by kernel_rfl
 m17:=by kernel_rfl
 m18:=by kernel_rfl
 m19:=by kernel_rfl }
open Go.RowKit Go.Sort Go.Lib in
theorem Tryz.strconv_Itoa (n : Int) (h0 : -9223372036854775808 ≤ n) (h1 : n ≤ 9223372036854775807) (w : World) (htab : Lib.TabIs Tryz.prog w "internal/strconv.uint64pow10" .u64 Lib.pow10Tab) :
  Calls Tryz.prog 79 #[.int .i64 n] w λe w'=>e = .returned (.string ⟨(Lib.itoa n).toArray⟩)∧∃k os,w'=grow (w.drewN k) os:=Any.strconv_Itoa Tryz.laysM171 n h0 h1 w htab
def Tryz.laysC172_ren:Go.Shelf.Ren:=⟨fun | 172=>124 | 244=>157 | 245=>158 | 247=>179 | 279=>180 | 280=>181 | 281=>182 | 282=>183 | 287=>199 | 316=>200 | 171=>79 | 205=>201 | 321=>209 | 322=>210 | 243=>109 | 246=>141 | 283=>170 | 284=>171 | 285=>172 | 286=>173 | 129=>140 | 317=>193 | 318=>194 | 319=>195 | 320=>196 | 337=>203 | 338=>204 | n=>n,fun | 9=>9 | 3=>3 | 75=>161 | 76=>162 | 4=>4 | 5=>5 | 167=>209 | 37=>144 | 0=>0 | 85=>210 | 2=>2 | 168=>212 | 53=>179 | 175=>229 | 46=>134 | 210=>232 | 127=>185 | 145=>237 | 143=>235 | 21=>21 | 171=>204 | 173=>206 | 212=>225 | 51=>158 | 20=>20 | 213=>226 | 232=>238 | 233=>239 | 80=>148 | n=>n,fun | 15=>2 | 16=>3 | 17=>0 | 18=>4 | 19=>5 | n=>n⟩
theorem Tryz.laysC172:Go.Proofs.LaysC.n172 Tryz.prog Tryz.laysC172_ren:={
 mixed:=by kernel_rfl
 f129:=Tryz.func140.trans (congrArg some (by kernel_rfl))
 f171:=Tryz.func79.trans (congrArg some (by kernel_rfl))
 f172:=Tryz.func124.trans (congrArg some (by kernel_rfl))
 f205:=Tryz.func201.trans (congrArg some (by kernel_rfl))
 f243:=Tryz.func109.trans (congrArg some (by kernel_rfl))
 f244:=Tryz.func157.trans (congrArg some (by kernel_rfl))
 f245:=Tryz.func158.trans (congrArg some (by kernel_rfl))
 f246:=Tryz.func141.trans (congrArg some (by kernel_rfl))
 f247:=Tryz.func179.trans (congrArg some (by kernel_rfl))
 f279:=Tryz.func180.trans (congrArg some (by kernel_rfl))
 f280:=Tryz.func181.trans (congrArg some (by kernel_rfl))
 f281:=Tryz.func182.trans (congrArg some (by kernel_rfl))
 f282:=Tryz.func183.trans (congrArg some (by kernel_rfl))
 f283:=Tryz.func170.trans (congrArg some (by kernel_rfl))
 f284:=Tryz.func171.trans (congrArg some (by kernel_rfl))
 f285:=Tryz.func172.trans (congrArg some (by kernel_rfl))
 f286:=Tryz.func173.trans (congrArg some (by kernel_rfl))
 f287:=Tryz.func199.trans (congrArg some (by kernel_rfl))
 f316:=Tryz.func200.trans (congrArg some (by kernel_rfl))
 f317:=Tryz.func193.trans (congrArg some (by kernel_rfl))
 f318:=Tryz.func194.trans (congrArg some (by kernel_rfl))
 f319:=Tryz.func195.trans (congrArg some (by kernel_rfl))
 f320:=Tryz.func196.trans (congrArg some (by kernel_rfl))
 f321:=Tryz.func209.trans (congrArg some (by kernel_rfl))
 f322:=Tryz.func210.trans (congrArg some (by kernel_rfl))
 f337:=Tryz.func203.trans (congrArg some (by kernel_rfl))
 f338:=Tryz.func204.trans (congrArg some (by kernel_rfl))
 t0:=Tryz.underlying0
 a0:=Tryz.isAgg0
 z0:=Tryz.sizeOf0
 v0:=Tryz.zeroValue0
 t2:=Tryz.underlying2
 a2:=Tryz.isAgg2
 z2:=Tryz.sizeOf2
 v2:=Tryz.zeroValue2
 t3:=Tryz.underlying3
 a3:=Tryz.isAgg3
 z3:=Tryz.sizeOf3
 v3:=Tryz.zeroValue3
 t4:=Tryz.underlying4
 a4:=Tryz.isAgg4
 z4:=Tryz.sizeOf4
 v4:=Tryz.zeroValue4
 t5:=Tryz.underlying5
 a5:=Tryz.isAgg5
 z5:=Tryz.sizeOf5
 v5:=Tryz.zeroValue5
 t9:=Tryz.underlying9
 a9:=Tryz.isAgg9
 z9:=Tryz.sizeOf9
 v9:=Tryz.zeroValue9
 t20:=Tryz.underlying20
 a20:=Tryz.isAgg20
 z20:=Tryz.sizeOf20
 v20:=Tryz.zeroValue20
 t21:=Tryz.underlying21
 a21:=Tryz.isAgg21
 z21:=Tryz.sizeOf21
 v21:=Tryz.zeroValue21
 t37:=Tryz.underlying144
 a37:=Tryz.isAgg144
 z37:=Tryz.sizeOf144
 v37:=Tryz.zeroValue144
 t46:=Tryz.underlying134
 a46:=Tryz.isAgg134
 z46:=Tryz.sizeOf134
 v46:=Tryz.zeroValue134
 t51:=Tryz.underlying158
 a51:=Tryz.isAgg158
 z51:=Tryz.sizeOf158
 v51:=Tryz.zeroValue158
 t53:=Tryz.underlying179
 a53:=Tryz.isAgg179
 z53:=Tryz.sizeOf179
 v53:=Tryz.zeroValue179
 t75:=Tryz.underlying161
 a75:=Tryz.isAgg161
 z75:=Tryz.sizeOf161
 v75:=Tryz.zeroValue161
 t76:=Tryz.underlying162
 a76:=Tryz.isAgg162
 z76:=Tryz.sizeOf162
 v76:=Tryz.zeroValue162
 t85:=Tryz.underlying210
 a85:=Tryz.isAgg210
 z85:=Tryz.sizeOf210
 v85:=Tryz.zeroValue210
 t127:=Tryz.underlying185
 a127:=Tryz.isAgg185
 z127:=Tryz.sizeOf185
 v127:=Tryz.zeroValue185
 t143:=Tryz.underlying235
 a143:=Tryz.isAgg235
 z143:=Tryz.sizeOf235
 v143:=Tryz.zeroValue235
 t145:=Tryz.underlying237
 a145:=Tryz.isAgg237
 z145:=Tryz.sizeOf237
 v145:=Tryz.zeroValue237
 t167:=Tryz.underlying209
 a167:=Tryz.isAgg209
 z167:=Tryz.sizeOf209
 v167:=Tryz.zeroValue209
 t168:=Tryz.underlying212
 a168:=Tryz.isAgg212
 z168:=Tryz.sizeOf212
 v168:=Tryz.zeroValue212
 t171:=Tryz.underlying204
 a171:=Tryz.isAgg204
 z171:=Tryz.sizeOf204
 v171:=Tryz.zeroValue204
 t173:=Tryz.underlying206
 a173:=Tryz.isAgg206
 z173:=Tryz.sizeOf206
 v173:=Tryz.zeroValue206
 t175:=Tryz.underlying229
 a175:=Tryz.isAgg229
 z175:=Tryz.sizeOf229
 v175:=Tryz.zeroValue229
 t210:=Tryz.underlying232
 a210:=Tryz.isAgg232
 z210:=Tryz.sizeOf232
 v210:=Tryz.zeroValue232
 t212:=Tryz.underlying225
 a212:=Tryz.isAgg225
 z212:=Tryz.sizeOf225
 v212:=Tryz.zeroValue225
 t213:=Tryz.underlying226
 a213:=Tryz.isAgg226
 z213:=Tryz.sizeOf226
 t232:=Tryz.underlying238
 a232:=Tryz.isAgg238
 z232:=Tryz.sizeOf238
 v232:=Tryz.zeroValue238
 t233:=Tryz.underlying239
 a233:=Tryz.isAgg239
 z233:=Tryz.sizeOf239
 v233:=Tryz.zeroValue239
 g15:=by kernel_rfl
 g16:=by kernel_rfl
 g17:=by kernel_rfl
 g18:=by kernel_rfl
 g19:=by kernel_rfl
 t80:=Tryz.underlying148
 a80:=Tryz.isAgg148
 z80:=Tryz.sizeOf148
 v80:=Tryz.zeroValue148
 i0:=by kernel_rfl
 i2:=by kernel_rfl
 i3:=by kernel_rfl
 i4:=by kernel_rfl
 i5:=by kernel_rfl
 i9:=by kernel_rfl
 i20:=by kernel_rfl
 i21:=by kernel_rfl
 i37:=by kernel_rfl
 i46:=by kernel_rfl
 i51:=by kernel_rfl
 i53:=by kernel_rfl
 i75:=by kernel_rfl
 i76:=by kernel_rfl
 i80:=by kernel_rfl
 i85:=by kernel_rfl
 i127:=by kernel_rfl
 i143:=by kernel_rfl
 i145:=by kernel_rfl
 i167:=by kernel_rfl
 i168:=by kernel_rfl
 i171:=by kernel_rfl
 i173:=by kernel_rfl
 i175:=by kernel_rfl
 i210:=by kernel_rfl
 i212:=by kernel_rfl
 i232:=by kernel_rfl
 i233:=by kernel_rfl
 m15:=by kernel_rfl
 m16:=by kernel_rfl
 m17:=by kernel_rfl
 m18:=by kernel_rfl
 m19:=by kernel_rfl
 c0:=by kernel_rfl
 c2:=by kernel_rfl
 c3:=by kernel_rfl
 c4:=by kernel_rfl
 c5:=by kernel_rfl
 c9:=by kernel_rfl
 c20:=by kernel_rfl
 c21:=by kernel_rfl
 c37:=by kernel_rfl
 c46:=by kernel_rfl
 c51:=by kernel_rfl
 c53:=by kernel_rfl
 c75:=by kernel_rfl
 c76:=by kernel_rfl
 c80:=by kernel_rfl
 c85:=by kernel_rfl
 c127:=by kernel_rfl
 c143:=by kernel_rfl
 c145:=by kernel_rfl
 c167:=by kernel_rfl
 c168:=by kernel_rfl
 c171:=by kernel_rfl
 c173:=by kernel_rfl
 c175:=by kernel_rfl
 c210:=by kernel_rfl
 c212:=by kernel_rfl
 c213:=by kernel_rfl
 c232:=by kernel_rfl
 c233:=by kernel_rfl }
open Go.RowKit in
theorem Tryz.strconv_Atoi_ok (s:ByteArray)(hmax:s.size≤9223372036854775806)(v:Int)(h:Lib.atoiAll s.data.toList = .ok v)(w:World) :
  Calls Tryz.prog 124 #[.string s] w λe w'=>e = .returned (.tuple #[.int .i64 v,.nilIface])∧(w'=w∨∃t,w'=Lib.bytesWorld w 5 t):=Any.strconv_Atoi_ok Tryz.laysC172 s hmax v h w
open Go.RowKit in
theorem Tryz.strconv_Atoi_range_var (s : ByteArray) (hlim : s.size ≤ 281474976710656) (h : Lib.atoiAll s.data.toList = .range) (tp : TypeId) (p : Value) (w : World) (hvar : w.var? Tryz.prog "strconv.ErrRange" = some #[.iface tp p]) :
  Calls Tryz.prog 124 #[.string s] w λe w'=>∃N,e = .returned (.tuple #[.int .i64 (Lib.atoiSat s.data.toList),.iface 212 (.pointer (some ⟨N,0,none⟩))])∧w.heap.size≤N∧w'.heap[N]? =some (.cells #[.string ⟨#[65,116,111,105]⟩,.string s,.iface tp p] 232 (0,0))∧Below w.heap.size w w':=Any.strconv_Atoi_range_var Tryz.laysC172 s hlim h tp p w hvar
end Go.Proofs
namespace Go.Proofs.YtfobhhegpkinaaaGreatDoor
open Go Go.RowKit
set_option linter.unusedVariables false
noncomputable def L0:Nat:=Nat.max (Nat.max 0 3) 5+1
def AcO:List Int:=Lib.deBruijn64tab.map Int.ofNat
structure SE (w:World):Prop where
 pow : Lib.TabIs Tryz.prog w "internal/strconv.uint64pow10" .u64 Lib.pow10Tab
 tz : Lib.TabIs Tryz.prog w "math/bits.deBruijn64tab" .u8 AcO
 rng : ∃ tp p, w.var? Tryz.prog "strconv.ErrRange" = some #[.iface tp p]
theorem AdG : Tryz.prog.globalNamed "internal/strconv.uint64pow10" = some 0 := by kernel_rfl
theorem AdF : Tryz.prog.globalNamed "strconv.ErrRange" = some 3 := by kernel_rfl
theorem gTz : Tryz.prog.globalNamed "math/bits.deBruijn64tab" = some 5 := by kernel_rfl
theorem Aac:5<L0:=by decide +kernel
theorem X5:0<L0:=by decide +kernel
theorem X4:3<L0:=by decide +kernel
theorem SE.block (w w':World)(h:∀k,k<L0→w'.heap[k]? =w.heap[k]?)(hT:SE w):SE w':=by
 obtain⟨tp,p,hr⟩:=hT.rng;have hp:=hT.pow;have hz:=hT.tz;unfold Lib.TabIs at hp hz;refine⟨?_,?_,tp,p,?_⟩
 ·unfold Lib.TabIs;unfold World.var? at hp ⊢;rw[AdG] at hp ⊢;simp only[Option.bind_some] at hp ⊢;rw[h _ X5];exact hp
 ·unfold Lib.TabIs;unfold World.var? at hz ⊢;rw[gTz] at hz ⊢;simp only[Option.bind_some] at hz ⊢;rw[h _ Aac];exact hz
 ·unfold World.var? at hr ⊢;rw[AdF] at hr ⊢;simp only[Option.bind_some] at hr ⊢;rw[h _ X4];exact hr
def Abr (w:World)(M:List Nat):Prop:=L0≤w.heap.size∧∀k∈M,L0≤k
theorem SE.st {w0 w:World}{M:List Nat}{H:List Ent}(hT:SE w0)(hG:Abr w0 M)(hw:St w0 M H w):SE w:=
 SE.block w0 w (λk hk=>hw.old k (Nat.lt_of_lt_of_le hk hG.1) (λhm=>by have:=hG.2 k hm;omega)) hT
theorem Abr.nil {w:World}(h:L0≤w.heap.size):Abr w []:=⟨h,by simp⟩
theorem Abr.st {w0 w:World}{M:List Nat}{H:List Ent}(hG:Abr w0 M)(hw:St w0 M H w):L0≤w.heap.size:=Nat.le_trans hG.1 hw.size
structure Vz (w:World):Prop where
 tabs:SE w
 size:L0≤w.heap.size
theorem Vz.st {w0 w:World}{M:List Nat}{H:List Ent}(hE:Vz w0)(hM:∀k∈M,L0≤k)(hw:St w0 M H w):Vz w:=
 ⟨hE.tabs.st ⟨hE.size,hM⟩ hw,Nat.le_trans hE.size hw.size⟩
theorem Vz.st0 {w0 w:World}{H:List Ent}(hE:Vz w0)(hw:St w0 [] H w):Vz w:=hE.st (by simp) hw
theorem V2 (p:List UInt8):(B p).data.toList=p:=by simp[B]
theorem AdA (m:Int)(h0 : -9223372036854775808≤m)(h1:m≤9223372036854775807)(w:World)(hE:Vz w):Calls Tryz.prog 79 [.int .i64 m].toArray w (LX w (.string (B (Lib.itoa m)))):=
 (Tryz.strconv_Itoa m h0 h1 w hE.tabs.pow).mono λe w' ⟨he,k,os,hw⟩=>⟨he,by rw[hw];exact St.of_below (Lib.below_grow _ _ (AfZ _) _ _)⟩
theorem AcH (p:List UInt8)(hp:p.length≤281474976710656)(v:Int)(h:Lib.atoiAll p = .ok v)(w:World):Calls Tryz.prog 124 [.string (B p)].toArray w (LX w (.tuple #[.int .i64 v,.nilIface])):=
 (Tryz.strconv_Atoi_ok (B p) (by rw[DD];omega) v (by rw[V2];exact h) w).mono λe w' ⟨he,hw⟩=>⟨he,by
  rcases hw with rfl | ⟨t,rfl⟩
  ·exact St.refl _ _
  ·exact St.of_below (Joins.below_bytesWorld _ _ _ _ (AfZ _))⟩
theorem Vw (p:List UInt8)(hp:p.length≤281474976710656)(h:Lib.atoiAll p = .range)(w:World)(hE:Vz w) :
  Calls Tryz.prog 124 [.string (B p)].toArray w (Y7 w [] (λv H=>∃m t b,v = .tuple #[.int .i64 m,.iface t b]∧H=[])):=by
 obtain⟨tp,q,hr⟩:=hE.tabs.rng;exact(Tryz.strconv_Atoi_range_var (B p) (by rw[DD];omega) (by rw[V2];exact h) tp q w hr).mono λe w' ⟨N,he,_,_,hb⟩=>⟨_,_,he,St.of_below hb,_,_,_,rfl,rfl⟩
open Go Go.ChangeShapes Go.WideShapes Go.ChangeAt Go.RowKit Go.WideElems
theorem own:ownKnob Tryz.prog.godebug=none:=by kernel_rfl
theorem Acn:laidOutB Tryz.prog=true:=by kernel_rfl
section
variable {H : Type} {enc : TypeId × Value → H} {P : Program}
theorem Lt (hl:laidOutB P=true){W W':World}(hb:Below W.heap.size W W'){sp:Nat→Bool}:∀{ts:List TypeId} {vs:List Value} {ds:List (DataW H)} {ps:List MemPlace},ts.all (λt=>P.readableRec t&&decide (t<P.types.size))=true→
  DataW.TrodAll enc P W 0 (λ_=>true) true ts vs ds ps→(∀p∈ps,p.block<W.heap.size)→(∀p∈ps,sp p.block=true)→DataW.TrodAll enc P W' 0 sp true ts vs ds ps
 | [],[],[],_,_,h,_,_=>h
 | [],_::_,_,_,_,h,_,_=>h.elim
 | [],[],_::_,_,_,h,_,_=>h.elim
 | _::_,[],_,_,_,h,_,_=>h.elim
 | _::_,_::_,[],_,_,h,_,_=>h.elim
 | t::ts,v::vs,d::ds,ps,ht,⟨p,q,h1,h2,e⟩,hlt,hs=>by
  simp only[Agu,AfM,AfF] at ht;refine⟨p,q,?_,Lt hl hb ht.2 h2 (λx hx=>hlt x (by rw[e];exact List.mem_append_right _ hx)) (λx hx=>hs x (by rw[e];exact List.mem_append_right _ hx)),e⟩;exact Trod_stays hl ht.1.1 ht.1.2 h1 (λx hx=>hb.same (hlt x (by rw[e];exact List.mem_append_left _ hx))) (λx hx=>hs x (by rw[e];exact List.mem_append_left _ hx))
theorem Xp (hl:laidOutB P=true){f:Func}{s:ChangeSpec}{apart fresh handsOn:Bool}{W W':World}{args:Array Value}{ds gs:List (DataW H)}{before:List MemPlace}{tb:TypeId}(hp:f.params.toList.all (λt=>P.readableRec t&&decide (t<P.types.size))=true)
  (hv:s.vars=[]) (hr:f.resultTypes = #[tb]) (hb4:P.underlying tb=some .bool) (hW:DataW.Whole enc P f.params.toList s.vars apart W args.toList ds gs before)
  (h1:(s.fn H (ds++gs)).results=[.lit (.bool true)]) (h2:(s.fn H (ds++gs)).args=ds) (h3:(s.fn H (ds++gs)).vars=[]) (hb:Below W.heap.size W W') :
  s.post enc P f apart fresh handsOn false W args (.bool true) W':=by
 have hlt:∀p∈before,p.block<W.heap.size:=λp hp=>hW.lt p hp;have hW':=hW;obtain⟨p,q,hA,hV,hbf,_,_⟩:=hW';have hq:q=[]:=by
  rw[hv] at hV
  cases gs with
  | nil=>exact hV
  | cons _ _=>exact hV.elim
 subst hq;rw[Ag4] at hbf;subst hbf;refine⟨ds,gs,before,[],before,[],hW,?_,?_,?_,World.keptBut_mono (λp hp=>⟨hp,.inr (.inl hp)⟩) (hb.frame (·∈before)),λh=>by cases h⟩
 ·rw[h1,hr];exact trodAll_mk1 (shut_bool hb4 true)
 ·rw[h2];exact Lt hl hb hp hA hlt (λx hx=>by simpa using hlt x hx)
 ·rw[hv,h3];exact rfl
end
theorem Vt:Tryz.prog.underlying 4=some .bool:=Tryz.underlying4
def P3 : List (String × DataW Unit) := [("math/bits.deBruijn32tab", Rows.laid_math_bits_deBruijn32tab), ("math/bits.deBruijn64tab", Rows.laid_math_bits_deBruijn64tab), ("internal/strconv.uint64pow10", Rows.laid_internal_strconv_uint64pow10), ("strconv.ErrRange", Rows.laid_strconv_ErrRange), ("strconv.ErrSyntax", Rows.laid_strconv_ErrSyntax)]
theorem AaA:(Tryz.prog.globals[0]?).map (·.type)=some 225:=by kernel_rfl
theorem Aa9:(Tryz.prog.globals[3]?).map (·.type)=some 161:=by kernel_rfl
theorem Yl:Tryz.prog.cellsOf 179=1:=by kernel_rfl
theorem Ym:Tryz.prog.cellsOf 225=20:=by kernel_rfl
theorem Acy:(Tryz.prog.globals[5]?).map (·.type)=some 239:=by kernel_rfl
theorem Abb:Tryz.prog.cellsOf 5=1:=by kernel_rfl
theorem Ul:Tryz.prog.cellsOf 239=64:=by kernel_rfl
theorem Yn:Tryz.prog.cellsOf 9=1:=by kernel_rfl
theorem Abc:Tryz.prog.cellsOf 237=1:=by kernel_rfl
theorem Wv : "*" ++ "errors.errorString" = "*errors.errorString" := by decide
theorem AdH (u : TypeId) (h : Tryz.prog.typeName? 3 u = some "*errors.errorString") : u = 235 :=
 typeName_ptr_named (nm := "errors.errorString") (by rw [Wv]; kernel_rfl) (by kernel_rfl) (by decide) u (by rw [Wv]; exact h)
theorem S3 {W:World}{n:String}{g:Nat}{cs:Array Value}(hg:Tryz.prog.globalNamed n=some g)(h:W.var? Tryz.prog n=some cs):g<W.heap.size:=by
 unfold World.var? at h;rw[hg] at h;simp only[Option.bind_some] at h
 cases hh:W.heap[g]? with
 | none=>rw[hh] at h;cases h
 | some o=>exact(Array.getElem?_eq_some_iff.1 hh).1
theorem AdI {W:World}(h:laidMet Tryz.prog P3 W):Vz W:=by
 have h2:=laidMet.tail h;have hz : Lib.TabIs Tryz.prog W "math/bits.deBruijn64tab" .u8 AcO := Lib.tabIs_of_head gTz Acy Tryz.underlying239 Tryz.underlying5 Abb Ul h2
 have h3:=laidMet.tail h2;have h4:=laidMet.tail h3;have hp : Lib.TabIs Tryz.prog W "internal/strconv.uint64pow10" .u64 Lib.pow10Tab := Lib.tabIs_of_head AdG AaA Tryz.underlying225 Tryz.underlying179 Yl Ym h3
 obtain⟨a,s,hv,_,_,_⟩:=laid_sentinel h4 AdF Aa9 Tryz.underlying161 AdH Tryz.underlying235 Tryz.underlying237 rfl rfl Tryz.underlying9 Abc Yn;refine⟨⟨hp,hz,_,_,hv⟩,?_⟩;have h1:=S3 AdG hp;have h5:=S3 AdF hv;exact Nat.max_lt.2 ⟨Nat.max_lt.2 ⟨h1,h5⟩,S3 gTz hz⟩
noncomputable def Lc (os:Os):World:=
 let w0:=World.holding Tryz.prog os ⟨#[],#[],[]⟩
 let put (h:Array Obj) (g:Nat) (cs:Array Value):Array Obj:=h.modify g fun
  | .cells _ t frozen=>.cells cs t frozen
  | o=>o
 let nums (d:DataW Unit):Array Value:=match d with
  | .agg ds=>(ds.map fun | .lit (.int k n)=>Value.int k n | _=>undef).toArray
  | _=>#[]
 let n:=w0.heap.size
 let h1:=put w0.heap 4 (nums Rows.laid_math_bits_deBruijn32tab)
 let h2:=put h1 5 (nums Rows.laid_math_bits_deBruijn64tab)
 let h3:=put h2 0 (nums Rows.laid_internal_strconv_uint64pow10)
 let h4:=put h3 3 #[.iface 235 (.pointer (some ⟨n,0,none⟩))]
 let h5:=put h4 2 #[.iface 235 (.pointer (some ⟨n+1,0,none⟩))]
 let h6:=h5.push (.cells #[.string ⟨#[118,97,108,117,101,32,111,117,116,32,111,102,32,114,97,110,103,101]⟩] 237 (0,0))
 let h7:=h6.push (.cells #[.string ⟨#[105,110,118,97,108,105,100,32,115,121,110,116,97,120]⟩] 237 (0,0))
 { w0 with heap:=h7 }
set_option maxRecDepth 100000 in
theorem Aav (os:Os)(args:Array Value):laidMet Tryz.prog P3 ((Lc os).forCall (λ_ _=>0) ⟨#[],args,[]⟩).memory:=
 laidMet_of_run' 8 (by kernel_rfl) (by kernel_rfl)
set_option linter.unusedSimpArgs false
set_option maxRecDepth 100000
theorem VJ (c:Int)(w:World):Calls Tryz.prog 87 [.int .i32 (c)].toArray w (LX w (.bool (DQ c))):=by
 refine Ig (n:=9) Tryz.func87 rfl Tryz.ntmps87 rfl (Ao (An (AF (AA rfl) rfl (As (Ay (Bb ?_))))));refine AV [(2,.bool (((decide ((97)≤(c)))&&(decide ((c)≤(122))))))] [] (φ:=True) ?_ (λhm1=>?_)
 ·refine An (AF (Aj rfl) rfl (AF (JV rfl rfl) rfl (AF (Aj rfl) rfl (AY (decide ((97)≤(c))) (λh1=>?_) (λh1=>?_)))))
  ·have g1:=h1;try simp only[AfF,AfE] at g1
   refine AQ rfl rfl h1 (AF (Aj rfl) rfl (AQ rfl rfl h1 (AF (Oh rfl rfl) rfl (AF (A5 rfl h1 rfl) rfl (AF (AA rfl) rfl (As ?_))))));exact Ay (BV trivial ⟨fb (by simp[h1]),trivial⟩ .slnil)
  ·have g1:=h1;try simp only[AfF,AfE] at g1
   refine AU rfl rfl h1 rfl (AU rfl rfl h1 rfl (AF (A2 rfl h1 rfl) rfl (AF (AA rfl) rfl (As ?_))));exact Ay (BV trivial ⟨fb (by simp[h1]),trivial⟩ .slnil)
 refine A4 (A3 (Ch rfl rfl) ?_);exact IX (by first | rfl | simp[])
theorem Wy (c:Int)(w:World):Calls Tryz.prog 88 [.int .i32 (c)].toArray w (LX w (.bool (EE c))):=by
 refine Ig (n:=9) Tryz.func88 rfl Tryz.ntmps88 rfl (Ao (An (AF (AA rfl) rfl (As (Ay (Bb ?_))))));refine AV [(2,.bool (((decide ((48)≤(c)))&&(decide ((c)≤(57))))))] [] (φ:=True) ?_ (λhm3=>?_)
 ·refine An (AF (Aj rfl) rfl (AF (JV rfl rfl) rfl (AF (Aj rfl) rfl (AY (decide ((48)≤(c))) (λh3=>?_) (λh3=>?_)))))
  ·have g3:=h3;try simp only[AfF,AfE] at g3
   refine AQ rfl rfl h3 (AF (Aj rfl) rfl (AQ rfl rfl h3 (AF (Oh rfl rfl) rfl (AF (A5 rfl h3 rfl) rfl (AF (AA rfl) rfl (As ?_))))));exact Ay (BV trivial ⟨fb (by simp[h3]),trivial⟩ .slnil)
  ·have g3:=h3;try simp only[AfF,AfE] at g3
   refine AU rfl rfl h3 rfl (AU rfl rfl h3 rfl (AF (A2 rfl h3 rfl) rfl (AF (AA rfl) rfl (As ?_))));exact Ay (BV trivial ⟨fb (by simp[h3]),trivial⟩ .slnil)
 refine A4 (A3 (Ch rfl rfl) ?_);exact IX (by first | rfl | simp[])
theorem Aat (c:Int)(w:World):Calls Tryz.prog 86 [.int .i32 (c)].toArray w (LX w (.bool (E7 c))):=by
 refine Ig (n:=37) Tryz.func86 rfl Tryz.ntmps86 rfl (Ao (An (AF (AA rfl) rfl (As (Ay (Bb ?_))))));refine AV [(2,.bool (((DQ c)||((EE c)||(bif decide ((65)≤(c)) then((decide ((c)≤(90)))||((decide ((c)=(45)))||((decide ((c)=(95)))||((decide ((c)=(46)))||((decide ((c)=(58)))||(decide ((c)=(47)))))))) else((decide ((c)=(45)))||((decide ((c)=(95)))||((decide ((c)=(46)))||((decide ((c)=(58)))||(decide ((c)=(47))))))))))))] [] (φ:=True) ?_ (λhn=>?_)
 ·refine An (AF (Aj rfl) rfl (C8 Tryz.call87 rfl (λw hw=>VJ c w) rfl (AF (Aj rfl) rfl (AY (DQ c) (λh5=>?_) (λh5=>?_)))))
  ·have g5:=h5;try simp only[AfF,AfE] at g5
   refine AU rfl rfl h5 rfl (AU rfl rfl h5 rfl (AF (A5 rfl h5 rfl) rfl (AF (Aj rfl) rfl (AU rfl rfl rfl rfl (AU rfl rfl rfl rfl (AU rfl rfl rfl rfl (Ct rfl rfl rfl (Ct rfl rfl rfl (AU rfl rfl rfl rfl (AF (A5 rfl rfl rfl) rfl (AF (Aj rfl) rfl (AU rfl rfl rfl rfl (AU rfl rfl rfl rfl (AF (A5 rfl rfl rfl) rfl (AF (Aj rfl) rfl (AU rfl rfl rfl rfl (AU rfl rfl rfl rfl (AF (A5 rfl rfl rfl) rfl (AF (Aj rfl) rfl (AU rfl rfl rfl rfl (AU rfl rfl rfl rfl (AF (A5 rfl rfl rfl) rfl (AF (Aj rfl) rfl ?_)))))))))))))))))))))));refine AU rfl rfl rfl rfl (AU rfl rfl rfl rfl (AF (A5 rfl rfl rfl) rfl (AF (Aj rfl) rfl (AU rfl rfl rfl rfl (AU rfl rfl rfl rfl (AF (A5 rfl rfl rfl) rfl (AF (AA rfl) rfl (As ?_))))))));exact Ay (BV trivial ⟨fb (by simp[h5]),trivial⟩ .slnil)
  ·have g5:=h5;try simp only[AfF,AfE] at g5
   refine AQ rfl rfl h5 (AF (Aj rfl) rfl (AQ rfl rfl h5 (C8 Tryz.call88 rfl (λw hw=>Wy c w) rfl (AF (A2 rfl h5 rfl) rfl (AF (Aj rfl) rfl (AY (EE c) (λh6=>?_) (λh6=>?_)))))))
   ·have g6:=h6;try simp only[AfF,AfE] at g6
    refine AU rfl rfl h6 rfl (AU rfl rfl h6 rfl (AU rfl rfl h6 rfl (Ct rfl rfl rfl (Ct rfl rfl rfl (AU rfl rfl h6 rfl (AF (A5 rfl h6 rfl) rfl (AF (Aj rfl) rfl (AU rfl rfl rfl rfl (AU rfl rfl rfl rfl (AF (A5 rfl rfl rfl) rfl (AF (Aj rfl) rfl (AU rfl rfl rfl rfl (AU rfl rfl rfl rfl (AF (A5 rfl rfl rfl) rfl (AF (Aj rfl) rfl (AU rfl rfl rfl rfl (AU rfl rfl rfl rfl (AF (A5 rfl rfl rfl) rfl (AF (Aj rfl) rfl (AU rfl rfl rfl rfl (AU rfl rfl rfl rfl (AF (A5 rfl rfl rfl) rfl (AF (Aj rfl) rfl ?_)))))))))))))))))))))));refine AU rfl rfl rfl rfl (AU rfl rfl rfl rfl (AF (A5 rfl rfl rfl) rfl (AF (AA rfl) rfl (As ?_))));exact Ay (BV trivial ⟨fb (by simp[h5,h6]),trivial⟩ .slnil)
   ·have g6:=h6;try simp only[AfF,AfE] at g6
    refine AQ rfl rfl h6 (AF (Aj rfl) rfl (AQ rfl rfl h6 (AF (JV rfl rfl) rfl (AQ rfl rfl h6 (AF (Aj rfl) rfl (AY (decide ((65)≤(c))) (λh7=>?_) (λh7=>?_)))))))
    ·have g7:=h7;try simp only[AfF,AfE] at g7
     refine AQ rfl rfl h7 (AF (Aj rfl) rfl (AQ rfl rfl h7 (AF (Oh rfl rfl) rfl (AQ rfl rfl h6 (AF (A5 rfl h7 rfl) rfl (AF (A2 rfl h6 rfl) rfl (AF (Aj rfl) rfl (AY (decide ((c)≤(90))) (λh8=>?_) (λh8=>?_)))))))))
     ·have g8:=h8;try simp only[AfF,AfE] at g8
      refine AU rfl rfl h8 rfl (AU rfl rfl h8 rfl (AF (A5 rfl h8 rfl) rfl (AF (Aj rfl) rfl (AU rfl rfl rfl rfl (AU rfl rfl rfl rfl (AF (A5 rfl rfl rfl) rfl (AF (Aj rfl) rfl (AU rfl rfl rfl rfl (AU rfl rfl rfl rfl (AF (A5 rfl rfl rfl) rfl (AF (Aj rfl) rfl (AU rfl rfl rfl rfl (AU rfl rfl rfl rfl (AF (A5 rfl rfl rfl) rfl (AF (Aj rfl) rfl (AU rfl rfl rfl rfl (AU rfl rfl rfl rfl (AF (A5 rfl rfl rfl) rfl (AF (AA rfl) rfl (As ?_))))))))))))))))))));exact Ay (BV trivial ⟨fb (by simp[h5,h6,h7,h8]),trivial⟩ .slnil)
     ·have g8:=h8;try simp only[AfF,AfE] at g8
      refine AQ rfl rfl h8 (AF (Aj rfl) rfl (AQ rfl rfl h8 (AF (BR rfl rfl) rfl (AF (A2 rfl h8 rfl) rfl (AF (Aj rfl) rfl (AY (decide ((c)=(45))) (λh9=>?_) (λh9=>?_)))))))
      ·have g9:=h9;try simp only[AfF,AfE] at g9
       refine AU rfl rfl h9 rfl (AU rfl rfl h9 rfl (AF (A5 rfl h9 rfl) rfl (AF (Aj rfl) rfl (AU rfl rfl rfl rfl (AU rfl rfl rfl rfl (AF (A5 rfl rfl rfl) rfl (AF (Aj rfl) rfl (AU rfl rfl rfl rfl (AU rfl rfl rfl rfl (AF (A5 rfl rfl rfl) rfl (AF (Aj rfl) rfl (AU rfl rfl rfl rfl (AU rfl rfl rfl rfl (AF (A5 rfl rfl rfl) rfl (AF (AA rfl) rfl (As ?_))))))))))))))));exact Ay (BV trivial ⟨fb (by simp[h5,h6,h7,h8,h9]),trivial⟩ .slnil)
      ·have g9:=h9;try simp only[AfF,AfE] at g9
       refine AQ rfl rfl h9 (AF (Aj rfl) rfl (AQ rfl rfl h9 (AF (BR rfl rfl) rfl (AF (A2 rfl h9 rfl) rfl (AF (Aj rfl) rfl (AY (decide ((c)=(95))) (λhb=>?_) (λhb=>?_)))))))
       ·have hi:=hb;try simp only[AfF,AfE] at hi
        refine AU rfl rfl hb rfl (AU rfl rfl hb rfl (AF (A5 rfl hb rfl) rfl (AF (Aj rfl) rfl (AU rfl rfl rfl rfl (AU rfl rfl rfl rfl (AF (A5 rfl rfl rfl) rfl (AF (Aj rfl) rfl (AU rfl rfl rfl rfl (AU rfl rfl rfl rfl (AF (A5 rfl rfl rfl) rfl (AF (AA rfl) rfl (As ?_))))))))))));exact Ay (BV trivial ⟨fb (by simp[h5,h6,h7,h8,h9,hb]),trivial⟩ .slnil)
       ·have hi:=hb;try simp only[AfF,AfE] at hi
        refine AQ rfl rfl hb (AF (Aj rfl) rfl (AQ rfl rfl hb (AF (BR rfl rfl) rfl (AF (A2 rfl hb rfl) rfl (AF (Aj rfl) rfl (AY (decide ((c)=(46))) (λhe=>?_) (λhe=>?_)))))))
        ·have hj:=he;try simp only[AfF,AfE] at hj
         refine AU rfl rfl he rfl (AU rfl rfl he rfl (AF (A5 rfl he rfl) rfl (AF (Aj rfl) rfl (AU rfl rfl rfl rfl (AU rfl rfl rfl rfl (AF (A5 rfl rfl rfl) rfl (AF (AA rfl) rfl (As ?_))))))));exact Ay (BV trivial ⟨fb (by simp[h5,h6,h7,h8,h9,hb,he]),trivial⟩ .slnil)
        ·have hj:=he;try simp only[AfF,AfE] at hj
         refine AQ rfl rfl he (AF (Aj rfl) rfl (AQ rfl rfl he (AF (BR rfl rfl) rfl (AF (A2 rfl he rfl) rfl (AF (Aj rfl) rfl (AY (decide ((c)=(58))) (λhg=>?_) (λhg=>?_)))))))
         ·have hk:=hg;try simp only[AfF,AfE] at hk
          refine AU rfl rfl hg rfl (AU rfl rfl hg rfl (AF (A5 rfl hg rfl) rfl (AF (AA rfl) rfl (As ?_))));exact Ay (BV trivial ⟨fb (by simp[h5,h6,h7,h8,h9,hb,he,hg]),trivial⟩ .slnil)
         ·have hk:=hg;try simp only[AfF,AfE] at hk
          refine AQ rfl rfl hg (AF (Aj rfl) rfl (AQ rfl rfl hg (AF (BR rfl rfl) rfl (AF (A2 rfl hg rfl) rfl (AF (AA rfl) rfl (As ?_))))));exact Ay (BV trivial ⟨fb (by simp[h5,h6,h7,h8,h9,hb,he,hg]),trivial⟩ .slnil)
    ·have g7:=h7;try simp only[AfF,AfE] at g7
     refine AU rfl rfl h7 rfl (AU rfl rfl h7 rfl (AQ rfl rfl h6 (AF (A2 rfl h7 rfl) rfl (AF (A2 rfl h6 rfl) rfl (AF (Aj rfl) rfl (AQ rfl rfl rfl (AF (Aj rfl) rfl (AQ rfl rfl rfl (AF (BR rfl rfl) rfl (AF (A2 rfl rfl rfl) rfl (AF (Aj rfl) rfl (AY (decide ((c)=(45))) (λha=>?_) (λha=>?_)))))))))))))
     ·have hl:=ha;try simp only[AfF,AfE] at hl
      refine AU rfl rfl ha rfl (AU rfl rfl ha rfl (AF (A5 rfl ha rfl) rfl (AF (Aj rfl) rfl (AU rfl rfl rfl rfl (AU rfl rfl rfl rfl (AF (A5 rfl rfl rfl) rfl (AF (Aj rfl) rfl (AU rfl rfl rfl rfl (AU rfl rfl rfl rfl (AF (A5 rfl rfl rfl) rfl (AF (Aj rfl) rfl (AU rfl rfl rfl rfl (AU rfl rfl rfl rfl (AF (A5 rfl rfl rfl) rfl (AF (AA rfl) rfl (As ?_))))))))))))))));exact Ay (BV trivial ⟨fb (by simp[h5,h6,h7,ha]),trivial⟩ .slnil)
     ·have hl:=ha;try simp only[AfF,AfE] at hl
      refine AQ rfl rfl ha (AF (Aj rfl) rfl (AQ rfl rfl ha (AF (BR rfl rfl) rfl (AF (A2 rfl ha rfl) rfl (AF (Aj rfl) rfl (AY (decide ((c)=(95))) (λhd=>?_) (λhd=>?_)))))))
      ·have hm:=hd;try simp only[AfF,AfE] at hm
       refine AU rfl rfl hd rfl (AU rfl rfl hd rfl (AF (A5 rfl hd rfl) rfl (AF (Aj rfl) rfl (AU rfl rfl rfl rfl (AU rfl rfl rfl rfl (AF (A5 rfl rfl rfl) rfl (AF (Aj rfl) rfl (AU rfl rfl rfl rfl (AU rfl rfl rfl rfl (AF (A5 rfl rfl rfl) rfl (AF (AA rfl) rfl (As ?_))))))))))));exact Ay (BV trivial ⟨fb (by simp[h5,h6,h7,ha,hd]),trivial⟩ .slnil)
      ·have hm:=hd;try simp only[AfF,AfE] at hm
       refine AQ rfl rfl hd (AF (Aj rfl) rfl (AQ rfl rfl hd (AF (BR rfl rfl) rfl (AF (A2 rfl hd rfl) rfl (AF (Aj rfl) rfl (AY (decide ((c)=(46))) (λhf=>?_) (λhf=>?_)))))))
       ·have g15:=hf;try simp only[AfF,AfE] at g15
        refine AU rfl rfl hf rfl (AU rfl rfl hf rfl (AF (A5 rfl hf rfl) rfl (AF (Aj rfl) rfl (AU rfl rfl rfl rfl (AU rfl rfl rfl rfl (AF (A5 rfl rfl rfl) rfl (AF (AA rfl) rfl (As ?_))))))));exact Ay (BV trivial ⟨fb (by simp[h5,h6,h7,ha,hd,hf]),trivial⟩ .slnil)
       ·have g15:=hf;try simp only[AfF,AfE] at g15
        refine AQ rfl rfl hf (AF (Aj rfl) rfl (AQ rfl rfl hf (AF (BR rfl rfl) rfl (AF (A2 rfl hf rfl) rfl (AF (Aj rfl) rfl (AY (decide ((c)=(58))) (λhh=>?_) (λhh=>?_)))))))
        ·have g16:=hh;try simp only[AfF,AfE] at g16
         refine AU rfl rfl hh rfl (AU rfl rfl hh rfl (AF (A5 rfl hh rfl) rfl (AF (AA rfl) rfl (As ?_))));exact Ay (BV trivial ⟨fb (by simp[h5,h6,h7,ha,hd,hf,hh]),trivial⟩ .slnil)
        ·have g16:=hh;try simp only[AfF,AfE] at g16
         refine AQ rfl rfl hh (AF (Aj rfl) rfl (AQ rfl rfl hh (AF (BR rfl rfl) rfl (AF (A2 rfl hh rfl) rfl (AF (AA rfl) rfl (As ?_))))));exact Ay (BV trivial ⟨fb (by simp[h5,h6,h7,ha,hd,hf,hh]),trivial⟩ .slnil)
 refine A4 (A3 (Ch rfl rfl) ?_);exact IX (by simp only[E7];by_cases h:65≤c<;>simp[h,Bool.or_assoc])
theorem Ab8 (m:Int)(w:World):Calls Tryz.prog 117 [.int .i64 (m)].toArray w (LX w (.bool (ES m))):=by
 refine Ig (n:=9) Tryz.func117 rfl Tryz.ntmps117 rfl (Ao (An (AF (AA rfl) rfl (As (Ay (Bb ?_))))));refine AV [(2,.bool (((decide ((-1000000000000)≤(m)))&&(decide ((m)≤(1000000000000))))))] [] (φ:=True) ?_ (λhd=>?_)
 ·refine An (AF (Aj rfl) rfl (AF (Oh rfl rfl) rfl (AF (Aj rfl) rfl (AY (decide ((-1000000000000)≤(m))) (λha=>?_) (λha=>?_)))))
  ·have hb:=ha;try simp only[AfF,AfE] at hb
   refine AQ rfl rfl ha (AF (Aj rfl) rfl (AQ rfl rfl ha (AF (Oh rfl rfl) rfl (AF (A5 rfl ha rfl) rfl (AF (AA rfl) rfl (As ?_))))));exact Ay (BV trivial ⟨fb (by first | (simp only[ha,AfT,Agc,Ago,AfW,Agg,Age,Agl,Agi,AfR,Agh,AfL,AfH,AgB,Ag5,reduceIte,Agb];done) | simp[ha]),trivial⟩ .slnil)
  ·have hb:=ha;try simp only[AfF,AfE] at hb
   refine AU rfl rfl ha rfl (AU rfl rfl ha rfl (AF (A2 rfl ha rfl) rfl (AF (AA rfl) rfl (As ?_))));exact Ay (BV trivial ⟨fb (by first | (simp only[ha,AfT,Agc,Ago,AfW,Agg,Age,Agl,Agi,AfR,Agh,AfL,AfH,AgB,Ag5,reduceIte,Agb];done) | simp[ha]),trivial⟩ .slnil)
 refine A4 (A3 (Ch rfl rfl) ?_);exact IX (by first | rfl | simp[])
theorem Ad1 (p:List UInt8)(w:World):Calls Tryz.prog 53 [.string (B p)].toArray w (LX w (.bool (Hf p))):=by
 refine Ig (n:=39) Tryz.func53 rfl Tryz.ntmps53 rfl (Ao (An (AF (AA rfl) rfl (As (Ay (Bb ?_))))));refine Ao (Ao (An (AF (Aj rfl) rfl (Q6 CT rfl rfl (λhh=>?_)))));refine As (Ay (Bb ?_));refine AS (Md (S:=Nat) (λ(k:Nat)=>k≤p.length∧Bp Ga 0 p=Bp Ga k (p.drop k)) (λ(k:Nat)=>[(0,.string (B (p))),(2,.bool (false)),(6,.pointer (some ⟨hh,0,none⟩))]) (λ(k:Nat)=>[.blk hh (.stringIter (B p) (k))]) (λ(k:Nat)=>p.length-k) (0) ?_ ⟨rfl,rfl,rfl,trivial⟩ (.cons_cons _ (.slnil)) ?_)
 ·exact⟨Agn _,by simp⟩
 rintro k hi0;refine Ao (An (SU (i:=0) rfl rfl rfl (λhend=>?_) (λhr hd hp hq hlu39 hhu39 hwu39=>?_)))
 ·refine AF (A8 rfl rfl) rfl (As (Ay (Bb ?_)));refine Ao (D9 rfl rfl (B3 (A9 (A9 (Bn (Ay (Bb ?_)))))));refine AV [(2,.bool (((decide ((1)≤((p.length:Int))))&&(decide (((p.length:Int))≤(24))))))] [.blk hh (.stringIter (B p) (k))] (φ:=True) ?_ (λhs=>?_)
  ·refine An (AF (Aj rfl) rfl (AF (BF CT rfl) rfl (AF (JV rfl rfl) rfl (AF (Aj rfl) rfl (AY (decide ((1)≤((p.length:Int)))) (λhe=>?_) (λhe=>?_))))))
   ·have hj:=he;try simp only[AfF,AfE] at hj
    refine AQ rfl rfl he (AF (Aj rfl) rfl (AQ rfl rfl he (AF (BF CT rfl) rfl (AQ rfl rfl he (AF (Oh rfl rfl) rfl (AF (A5 rfl he rfl) rfl (AF (AA rfl) rfl (As ?_))))))));exact Ay (BV trivial ⟨fb (by first | (simp only[he,AfT,Agc,Ago,AfW,Agg,Age,Agl,Agi,AfR,Agh,AfL,AfH,AgB,Ag5,reduceIte,Agb];done) | simp[he]),trivial⟩ (.cons_cons _ (.slnil)))
   ·have hj:=he;try simp only[AfF,AfE] at hj
    refine AU rfl rfl he rfl (AU rfl rfl he rfl (AU rfl rfl he rfl (AF (A2 rfl he rfl) rfl (AF (AA rfl) rfl (As ?_)))));exact Ay (BV trivial ⟨fb (by first | (simp only[he,AfT,Agc,Ago,AfW,Agg,Age,Agl,Agi,AfR,Agh,AfL,AfH,AgB,Ag5,reduceIte,Agb];done) | simp[he]),trivial⟩ (.cons_cons _ (.slnil)))
  refine A4 (A3 (Ch rfl rfl) ?_);exact IX (by rw[Aaa hi0 hend])
 ·refine AF (A8 rfl rfl) rfl (As (Ay (Bb ?_)));refine Ao (DE rfl rfl (A0 (Ay (Bb ?_))));refine AS (Ao (An (AF (A8 rfl rfl) rfl (AF (A8 rfl rfl) rfl (AF (AA rfl) rfl (AF (AA rfl) rfl (As (Ay (Bb ?_)))))))));refine AV [(0,.string (B (p))),(2,.bool (false)),(3,.int .i64 ((k:Int))),(4,.int .i32 ((hd:Int))),(6,.pointer (some ⟨hh,0,none⟩)),(7,.tuple #[.bool (true),.int .i64 ((k:Int)),.int .i32 ((hd:Int))]),(8,.bool (true)),(9,.int .i64 ((k:Int))),(10,.int .i32 ((hd:Int))),(11,.int .i32 ((hd:Int))),(12,.bool (DQ (hd:Int))),(13,.bool (!(DQ (hd:Int)))),(14,.bool (!(DQ (hd:Int)))),(30,.bool (((!(DQ (hd:Int)))&&((decide (((k:Int))=(0)))||((!(EE (hd:Int)))&&((!(decide (((hd:Int))=(45))))&&(!(decide (((hd:Int))=(95))))))))))] [.blk hh (.stringIter (B p) (k+hp))] (φ:=True) ?_ (λht=>?_)
  ·refine An (AF (Aj rfl) rfl (C8 Tryz.call87 rfl (λw hw=>VJ (hd:Int) w) rfl (AF (BT rfl) rfl (AF (Aj rfl) rfl (AY (!(DQ (hd:Int))) (λhb=>?_) (λhb=>?_))))))
   ·have hk:=hb;try simp only[AfF,AfE] at hk
    refine AQ rfl rfl hb (AF (Aj rfl) rfl (AQ rfl rfl hb (AF (BR rfl rfl) rfl (AQ rfl rfl hb (AF (Aj rfl) rfl (AY (decide (((k:Int))=(0))) (λha=>?_) (λha=>?_)))))))
    ·have hl:=ha;try simp only[AfF,AfE] at hl
     refine AU rfl rfl ha rfl (AU rfl rfl ha rfl (AU rfl rfl ha rfl (AU rfl rfl ha rfl (Ct rfl rfl rfl (Ct rfl rfl rfl (AU rfl rfl ha rfl (AU rfl rfl ha rfl (Ct rfl rfl rfl (Ct rfl rfl rfl (AU rfl rfl ha rfl (AQ rfl rfl hb (AF (A5 rfl ha rfl) rfl (AF (A5 rfl hb rfl) rfl (As ?_))))))))))))));exact Ay (BV trivial ⟨rfl,rfl,rfl,rfl,rfl,rfl,rfl,rfl,rfl,rfl,rfl,rfl,rfl,fb (by first | (simp only[hb,ha,AfT,Agc,Ago,AfW,Agg,Age,Agl,Agi,AfR,Agh,AfL,AfH,AgB,Ag5,reduceIte,Agb];done) | simp[hb,ha]),trivial⟩ (.cons_cons _ (.slnil)))
    ·have hl:=ha;try simp only[AfF,AfE] at hl
     refine AQ rfl rfl ha (AF (Aj rfl) rfl (AQ rfl rfl ha (C8 Tryz.call88 rfl (λw hw=>Wy (hd:Int) w) rfl (AQ rfl rfl ha (AF (BT rfl) rfl (AQ rfl rfl ha (AF (Aj rfl) rfl (AY (!(EE (hd:Int))) (λhf=>?_) (λhf=>?_)))))))))
     ·have hm:=hf;try simp only[AfF,AfE] at hm
      refine AQ rfl rfl hf (AF (Aj rfl) rfl (AQ rfl rfl hf (AF (BQ rfl rfl) rfl (AQ rfl rfl ha (AF (A5 rfl hf rfl) rfl (AQ rfl rfl ha (AF (Aj rfl) rfl (AY (!(decide (((hd:Int))=(45)))) (λhg=>?_) (λhg=>?_)))))))))
      ·have hn:=hg;try simp only[AfF,AfE] at hn
       refine AQ rfl rfl hg (AF (Aj rfl) rfl (AQ rfl rfl hg (AF (BQ rfl rfl) rfl (AQ rfl rfl ha (AF (A5 rfl hg rfl) rfl (AQ rfl rfl hb (AF (A2 rfl ha rfl) rfl (AF (A5 rfl hb rfl) rfl (As ?_)))))))));exact Ay (BV trivial ⟨rfl,rfl,rfl,rfl,rfl,rfl,rfl,rfl,rfl,rfl,rfl,rfl,rfl,fb (by first | (simp only[hb,ha,hf,hg,AfT,Agc,Ago,AfW,Agg,Age,Agl,Agi,AfR,Agh,AfL,AfH,AgB,Ag5,reduceIte,Agb];done) | simp[hb,ha,hf,hg]),trivial⟩ (.cons_cons _ (.slnil)))
      ·have hn:=hg;try simp only[AfF,AfE] at hn
       refine AU rfl rfl hg rfl (AU rfl rfl hg rfl (AQ rfl rfl ha (AF (A2 rfl hg rfl) rfl (AQ rfl rfl hb (AF (A2 rfl ha rfl) rfl (AF (A5 rfl hb rfl) rfl (As ?_)))))));exact Ay (BV trivial ⟨rfl,rfl,rfl,rfl,rfl,rfl,rfl,rfl,rfl,rfl,rfl,rfl,rfl,fb (by first | (simp only[hb,ha,hf,hg,AfT,Agc,Ago,AfW,Agg,Age,Agl,Agi,AfR,Agh,AfL,AfH,AgB,Ag5,reduceIte,Agb];done) | simp[hb,ha,hf,hg]),trivial⟩ (.cons_cons _ (.slnil)))
     ·have hm:=hf;try simp only[AfF,AfE] at hm
      refine AU rfl rfl hf rfl (AU rfl rfl hf rfl (AQ rfl rfl ha (AF (A2 rfl hf rfl) rfl (AQ rfl rfl ha (AF (Aj rfl) rfl (AU rfl rfl rfl rfl (AU rfl rfl rfl rfl (AQ rfl rfl ha (AF (A2 rfl rfl rfl) rfl (AQ rfl rfl hb (AF (A2 rfl ha rfl) rfl (AF (A5 rfl hb rfl) rfl (As ?_)))))))))))));exact Ay (BV trivial ⟨rfl,rfl,rfl,rfl,rfl,rfl,rfl,rfl,rfl,rfl,rfl,rfl,rfl,fb (by first | (simp only[hb,ha,hf,AfT,Agc,Ago,AfW,Agg,Age,Agl,Agi,AfR,Agh,AfL,AfH,AgB,Ag5,reduceIte,Agb];done) | simp[hb,ha,hf]),trivial⟩ (.cons_cons _ (.slnil)))
   ·have hk:=hb;try simp only[AfF,AfE] at hk
    refine AU rfl rfl hb rfl (AU rfl rfl hb rfl (AU rfl rfl hb rfl (Ct rfl rfl rfl (Ct rfl rfl rfl (Ct rfl rfl rfl (Ct rfl rfl rfl (Ct rfl rfl rfl (Ct rfl rfl rfl (Ct rfl rfl rfl (Ct rfl rfl rfl (Ct rfl rfl rfl (Ct rfl rfl rfl (Ct rfl rfl rfl (AU rfl rfl hb rfl (AF (A2 rfl hb rfl) rfl (As ?_))))))))))))))));exact Ay (BV trivial ⟨rfl,rfl,rfl,rfl,rfl,rfl,rfl,rfl,rfl,rfl,rfl,rfl,rfl,fb (by first | (simp only[hb,AfT,Agc,Ago,AfW,Agg,Age,Agl,Agi,AfR,Agh,AfL,AfH,AgB,Ag5,reduceIte,Agb];done) | simp[hb]),trivial⟩ (.cons_cons _ (.slnil)))
  refine Ek (b:=((!(DQ (hd:Int)))&&((decide (((k:Int))=(0)))||((!(EE (hd:Int)))&&((!(decide (((hd:Int))=(45))))&&(!(decide (((hd:Int))=(95))))))))) rfl (λhi=>?_) (λhi=>?_)
  ·have ho:=hi;try simp only[AfF,AfE] at ho
   refine Ao (An (AF (AA rfl) rfl (As (Ay (Bb ?_)))));refine A4 (AB (Ae (AB (Ae (A3 (Ch rfl rfl) ?_)))));exact IX (by rw[Acf hi0 hq hlu39 hhu39 hi])
  ·have ho:=hi;try simp only[AfF,AfE] at ho
   refine A0 (AK (Ay (AE (k+hp) ?_ ⟨rfl,rfl,rfl,trivial⟩ (.cons_cons _ (.slnil)))));exact X3 hi0 hq hlu39 hhu39 hi
theorem AeG (p:List UInt8)(w:World):Calls Tryz.prog 52 [.string (B p)].toArray w (LX w (.bool (K3 p))):=by
 refine Ig (n:=21) Tryz.func52 rfl Tryz.ntmps52 rfl (Ao (An (AF (AA rfl) rfl (As (Ay (Bb ?_))))));refine Ao (Ao (An (AF (Aj rfl) rfl (Q6 CT rfl rfl (λhd=>?_)))));refine As (Ay (Bb ?_));refine AS (Md (S:=Nat) (λ(k:Nat)=>k≤p.length∧Bp Nv 0 p=Bp Nv k (p.drop k)) (λ(k:Nat)=>[(0,.string (B (p))),(2,.bool (false)),(6,.pointer (some ⟨hd,0,none⟩))]) (λ(k:Nat)=>[.blk hd (.stringIter (B p) (k))]) (λ(k:Nat)=>p.length-k) (0) ?_ ⟨rfl,rfl,rfl,trivial⟩ (.cons_cons _ (.slnil)) ?_)
 ·exact⟨Agn _,by simp⟩
 rintro k hi0;refine Ao (An (SU (i:=0) rfl rfl rfl (λhend=>?_) (λhj hg hi hh hlu51 hhu51 hwu51=>?_)))
 ·refine AF (A8 rfl rfl) rfl (As (Ay (Bb ?_)));refine Ao (D9 rfl rfl (B3 (A9 (A9 (Bn (Ay (Bb ?_)))))));refine AV [(2,.bool (((decide ((1)≤((p.length:Int))))&&(decide (((p.length:Int))≤(64))))))] [.blk hd (.stringIter (B p) (k))] (φ:=True) ?_ (λhk=>?_)
  ·refine An (AF (Aj rfl) rfl (AF (BF CT rfl) rfl (AF (JV rfl rfl) rfl (AF (Aj rfl) rfl (AY (decide ((1)≤((p.length:Int)))) (λha=>?_) (λha=>?_))))))
   ·have he:=ha;try simp only[AfF,AfE] at he
    refine AQ rfl rfl ha (AF (Aj rfl) rfl (AQ rfl rfl ha (AF (BF CT rfl) rfl (AQ rfl rfl ha (AF (Oh rfl rfl) rfl (AF (A5 rfl ha rfl) rfl (AF (AA rfl) rfl (As ?_))))))));exact Ay (BV trivial ⟨fb (by first | (simp only[ha,AfT,Agc,Ago,AfW,Agg,Age,Agl,Agi,AfR,Agh,AfL,AfH,AgB,Ag5,reduceIte,Agb];done) | simp[ha]),trivial⟩ (.cons_cons _ (.slnil)))
   ·have he:=ha;try simp only[AfF,AfE] at he
    refine AU rfl rfl ha rfl (AU rfl rfl ha rfl (AU rfl rfl ha rfl (AF (A2 rfl ha rfl) rfl (AF (AA rfl) rfl (As ?_)))));exact Ay (BV trivial ⟨fb (by first | (simp only[ha,AfT,Agc,Ago,AfW,Agg,Age,Agl,Agi,AfR,Agh,AfL,AfH,AgB,Ag5,reduceIte,Agb];done) | simp[ha]),trivial⟩ (.cons_cons _ (.slnil)))
  refine A4 (A3 (Ch rfl rfl) ?_);exact IX (by rw[AdD hi0 hend])
 ·refine AF (A8 rfl rfl) rfl (As (Ay (Bb ?_)));refine Ao (DE rfl rfl (A0 (Ay (Bb ?_))));refine AS (Ao (An (AF (A8 rfl rfl) rfl (AF (AA rfl) rfl (As (Ay (Bb ?_)))))));refine Ao (An (AF (Aj rfl) rfl (C8 Tryz.call86 rfl (λw hw=>Aat (hg:Int) w) rfl (AF (BT rfl) rfl (As (Ay (Bb ?_)))))));refine Ek (b:=!(E7 (hg:Int))) rfl (λhb=>?_) (λhb=>?_)
  ·have hf:=hb;try simp only[AfF,AfE] at hf
   refine Ao (An (AF (AA rfl) rfl (As (Ay (Bb ?_)))));refine A4 (AB (Ae (AB (Ae (A3 (Ch rfl rfl) ?_)))));exact IX (by rw[AeF hi0 hh hlu51 hhu51 hb])
  ·have hf:=hb;try simp only[AfF,AfE] at hf
   refine A0 (AK (Ay (AE (k+hi) ?_ ⟨rfl,rfl,rfl,trivial⟩ (.cons_cons _ (.slnil)))));exact Acw hi0 hh hlu51 hhu51 hb
open Go
def Tl (p:List UInt8):Bool:=decide ((0:Int)<p.length)&&decide (B8 p 0=45)
def LT (p:List UInt8):List UInt8:=if Tl p=true then p.drop 1 else p
theorem AaO (p:List UInt8):(LT p).length≤p.length:=by unfold LT;split<;>simp
def E2 (_:Nat)(u:UInt8):Bool:=!(decide ((u.toNat:Int)<48)||decide (57<(u.toNat:Int)))
def Ny (p:List UInt8):Bool:=!(decide (LT p=[])||(decide (B8 (LT p) 0=48)&&!decide (p=[48])))&&Bp E2 0 (LT p)
theorem I8 {p:List UInt8}(h : ¬ p=[]):(0:Int)<p.length:=by
 cases p with
 | nil=>exact absurd rfl h
 | cons a r=>simp
theorem Rx {p:List UInt8}{k:Nat}(h:(k:Int)<p.length):∃u,p[k]? =some u:=⟨p[k]'(by omega),AfN (by omega)⟩
theorem AaP {p:List UInt8}{k:Nat}(hi:k≤p.length∧Bp E2 0 p=Bp E2 k (p.drop k))(h:(k:Int)<p.length)(ht:(decide (B8 p k<48)||decide (57<B8 p k))=false) :
  (k+1≤p.length∧Bp E2 0 p=Bp E2 (k+1) (p.drop (k+1)))∧p.length-(k+1)<p.length-k:=by
 obtain⟨u,hu⟩:=Rx h;rw[Abh hu] at ht;exact Pd hi hu (by simp only[E2,ht];rfl)
theorem AdO {p:List UInt8}{k:Nat}(hi:k≤p.length∧Bp E2 0 p=Bp E2 k (p.drop k))(h:(k:Int)<p.length)(ht:(decide (B8 p k<48)||decide (57<B8 p k))=true):Bp E2 0 p=false:=by
 obtain⟨u,hu⟩:=Rx h;rw[Abh hu] at ht;exact UH hi hu (by simp only[E2,ht];rfl)
theorem Ac5 {p:List UInt8}{k:Nat}(hi:k≤p.length∧Bp E2 0 p=Bp E2 k (p.drop k))(h : ¬ (k:Int)<p.length):Bp E2 0 p=true:=RU hi (by omega)
def Np (p:List UInt8)(m:Int):Nat→Int
 | 0=>-1
 | k+1=>if B8 p k=m then k else Np p m k
def Rm (p:List UInt8)(m:Int):Int:=Np p m p.length
def BH (p:List UInt8):Int:=if Ny p=true then(match Lib.atoiAll p with | .ok v=>if ES v=true then 0 else 2 | _=>2) else 1
def Bu (p:List UInt8):Int:=if Ny p=true then(match Lib.atoiAll p with | .ok v=>if ES v=true then v else 0 | _=>0) else 0
theorem PP:∀(l:List UInt8) (i acc:Nat),Bp E2 i l=true→(∃u,Lib.parseUint10 acc l = .ok u)∨Lib.parseUint10 acc l = .range
 | [],_,acc,_=>.inl ⟨acc,rfl⟩
 | c::r,i,acc,h=>by
  simp only[Bp,AfM] at h;have hc:48≤c.toNat∧c.toNat≤57:=by have:=h.1;simp[E2] at this;omega
  unfold Lib.parseUint10;rw[Ag9 hc]
  split
  ·exact .inr rfl
  ·split
   ·exact .inr rfl
   ·exact PP r _ _ h.2
theorem Wh {l:List UInt8}(hne:l≠[])(h:Bp E2 0 l=true):(∃u,Lib.parseMag l = .ok u)∨Lib.parseMag l = .range:=by
 unfold Lib.parseMag;rw[Agt hne];exact PP l 0 0 h
theorem RQ {e:Lib.NumEnd Nat}(h:(∃u,e = .ok u)∨e = .range):(∃v,Lib.signless e = .ok v)∨Lib.signless e = .range:=by
 rcases h with⟨u,rfl⟩ | rfl
 ·unfold Lib.signless
  by_cases h:9223372036854775808≤u
  ·exact .inr (by simp[h])
  ·exact .inl ⟨_,by simp[h];rfl⟩
 ·exact .inr rfl
theorem UF {e:Lib.NumEnd Nat}(h:(∃u,e = .ok u)∨e = .range):(∃v,Lib.signed e = .ok v)∨Lib.signed e = .range:=by
 rcases h with⟨u,rfl⟩ | rfl
 ·unfold Lib.signed
  by_cases h:9223372036854775808<u
  ·exact .inr (by simp[h])
  ·exact .inl ⟨_,by simp[h];rfl⟩
 ·exact .inr rfl
theorem Abl {p:List UInt8}(h:Ny p=true):(∃v,Lib.atoiAll p = .ok v∧-9223372036854775808≤v∧v≤9223372036854775807)∨Lib.atoiAll p = .range:=by
 have key:(∃v,Lib.atoiAll p = .ok v)∨Lib.atoiAll p = .range:=by
  simp only[Ny,AfM,Agd,Agj,AfE] at h;obtain⟨⟨hne,_⟩,hall⟩:=h
  cases p with
  | nil=>simp[LT,Tl] at hne
  | cons c r=>
   by_cases hc:c=45
   ·subst hc;have hd:LT (45::r)=r:=by simp[LT,Tl,B8]
    rw[hd] at hne hall;rw[Lib.atoiAll_minus];exact UF (Wh hne hall)
   ·have hb : ¬ B8 (c::r) 0=45:=by
     simp only[B8,Int.toNat_zero,List.getElem?_cons_zero,Agm];intro e;exact hc (UInt8.toNat_inj.1 (by simpa using(by omega:c.toNat=45)))
    have hd:LT (c::r)=c::r:=by simp[LT,Tl,hb]
    rw[hd] at hne hall;have ha:48≤c.toNat:=by
     simp only[Bp,AfM] at hall;have:=hall.1;simp[E2] at this;omega
    rw[Lib.atoiAll_plain c r (by omega) (by omega)];exact RQ (Wh hne hall)
 rcases key with⟨v,hv⟩ | h
 ·exact .inl ⟨v,hv,Lib.atoiAll_bounds hv⟩
 ·exact .inr h
theorem Aay (m:Int)(h0 : -9223372036854775808≤m)(h1:m≤9223372036854775807):(Lib.itoa m).length≤21:=Lib.itoa_length_le m h0 h1
def GV (id:List UInt8)(m:Int):List UInt8:=id++[46]++Lib.itoa m
def C1 (id:List UInt8)(m:Int):Int:=if K3 id=true then(if 0≤m∧m≤1000000000000 then(if (GV id m).length≤64 then 0 else 3) else 2) else 4
def BK (id:List UInt8)(m:Int):List UInt8:=if C1 id m=0 then GV id m else[]
def Z6 (s:List UInt8):List UInt8:=s.take (Rm s 46).toNat
def Xr (s:List UInt8):List UInt8:=s.drop (Rm s 46+1).toNat
def AcP (s:List UInt8):Bool:=decide (0≤Rm s 46)&&decide (BH (Xr s)=0)&&decide (C1 (Z6 s) (Bu (Xr s))=0)&&decide (BK (Z6 s) (Bu (Xr s))=s)
theorem Yc (p:List UInt8)(hp:p.length≤281474976710656)(w:World):Calls Tryz.prog 123 [.string (B (p))].toArray w (LX w (.bool (Ny p))):=by
 refine Ig (n:=43) Tryz.func123 rfl Tryz.ntmps123 rfl (Ao (An (AF (AA rfl) rfl (As (Ay (Bb ?_))))));refine Ao (An (AF (Aj rfl) rfl (AF (AA rfl) rfl (As (Ay (Bb ?_))))));refine AV [(0,.string (B (p))),(2,.bool (false)),(3,.string (B ((if ((decide ((0)<((p.length:Int))))&&(decide ((B8 p 0)=(45))))=true then List.drop (Int.toNat (1)) p else p))))] [] (φ:=True) ?_ (λh1=>?_)
 ·refine AV [(0,.string (B (p))),(2,.bool (false)),(3,.string (B (p))),(13,.bool (((decide ((0)<((p.length:Int))))&&(decide ((B8 p 0)=(45))))))] [] (φ:=True) ?_ (λh2=>?_)
  ·refine An (AF (Aj rfl) rfl (AF (BF CT rfl) rfl (AF (DT rfl rfl) rfl (AF (Aj rfl) rfl (AY (decide ((0)<((p.length:Int)))) (λhd=>?_) (λhd=>?_))))))
   ·have hk:=hd;try simp only[AfF,AfE] at hk
    have hl:=hd;try simp at hl
    refine AQ rfl rfl hd (AF (Aj rfl) rfl (AQ rfl rfl hd (AF (BA CT rfl rfl (by first | omega | exact I8 (by assumption)) (by first | omega | exact I8 (by assumption))) rfl (AQ rfl rfl hd (AF (BR rfl rfl) rfl (AF (A5 rfl hd rfl) rfl (As ?_)))))));exact Ay (BV trivial ⟨rfl,rfl,rfl,fb (by first | (simp only[hd,AfT,Agc,Ago,AfW,Agg,Age,Agl,Agi,AfR,Agh,AfL,AfH,AgB,Ag5,reduceIte,Agb];done) | simp[hd]),trivial⟩ .slnil)
   ·have hk:=hd;try simp only[AfF,AfE] at hk
    have hl:=hd;try simp at hl
    refine AU rfl rfl hd rfl (AU rfl rfl hd rfl (AU rfl rfl hd rfl (AF (A2 rfl hd rfl) rfl (As ?_))));exact Ay (BV trivial ⟨rfl,rfl,rfl,fb (by first | (simp only[hd,AfT,Agc,Ago,AfW,Agg,Age,Agl,Agi,AfR,Agh,AfL,AfH,AgB,Ag5,reduceIte,Agb];done) | simp[hd]),trivial⟩ .slnil)
  refine Ek (b:=((decide ((0)<((p.length:Int))))&&(decide ((B8 p 0)=(45))))) rfl (λhg=>?_) (λhg=>?_)
  ·have hm:=hg;try simp only[AfF,AfE] at hm
   have hn:=hg;try simp at hn
   refine An (AF (Aj rfl) rfl (AF (DS CT rfl rfl (by first | omega | (simp;omega)) (by first | omega | (simp;omega))) rfl (AF (AA rfl) rfl (As ?_))));exact Ay (BV trivial ⟨rfl,rfl,fs (by first | (simp only[hg,AfT,Agc,Ago,AfW,Agg,Age,Agl,Agi,AfR,Agh,AfL,AfH,AgB,Ag5,reduceIte,Agb];done) | simp[hg]),trivial⟩ .slnil)
  ·have hm:=hg;try simp only[AfF,AfE] at hm
   have hn:=hg;try simp at hn
   refine A0 ?_;exact Ay (BV trivial ⟨rfl,rfl,fs (by first | (simp only[hg,AfT,Agc,Ago,AfW,Agg,Age,Agl,Agi,AfR,Agh,AfL,AfH,AgB,Ag5,reduceIte,Agb];done) | simp[hg]),trivial⟩ .slnil)
 have hdg:LT p=(if ((decide ((0)<((p.length:Int))))&&(decide ((B8 p 0)=(45))))=true then List.drop (Int.toNat (1)) p else p):=rfl;have hdl:=AaO p;rw[hdg] at hdl;generalize(if ((decide ((0)<((p.length:Int))))&&(decide ((B8 p 0)=(45))))=true then List.drop (Int.toNat (1)) p else p)=dg at hdg hdl ⊢;refine Ao (AV [(2,.bool (false)),(3,.string (B (dg))),(26,.bool (((decide ((dg)=(([]:List UInt8))))||((decide ((B8 dg 0)=(48)))&&(!(decide ((p)=(([48]:List UInt8)))))))))] [] (φ:=True) ?_ (λh3=>?_))
 ·refine An (AF (Aj rfl) rfl (AF (Kr rfl rfl) rfl (AF (Aj rfl) rfl (AY (decide ((dg)=(([]:List UInt8)))) (λha=>?_) (λha=>?_)))))
  ·have ho:=ha;try simp only[AfF,AfE] at ho
   have hq:=ha;try simp at hq
   refine AU rfl rfl ha rfl (AU rfl rfl ha rfl (AU rfl rfl ha rfl (AU rfl rfl ha rfl (Ct rfl rfl rfl (Ct rfl rfl rfl (AU rfl rfl ha rfl (AF (A5 rfl ha rfl) rfl (As ?_))))))));exact Ay (BV trivial ⟨rfl,rfl,fb (by first | (simp only[ha,AfT,Agc,Ago,AfW,Agg,Age,Agl,Agi,AfR,Agh,AfL,AfH,AgB,Ag5,reduceIte,Agb];done) | simp[ha]),trivial⟩ .slnil)
  ·have ho:=ha;try simp only[AfF,AfE] at ho
   have hq:=ha;try simp at hq
   refine AQ rfl rfl ha (AF (Aj rfl) rfl (AQ rfl rfl ha (AF (BA CT rfl rfl (by first | omega | exact I8 (by assumption)) (by first | omega | exact I8 (by assumption))) rfl (AQ rfl rfl ha (AF (BR rfl rfl) rfl (AQ rfl rfl ha (AF (Aj rfl) rfl (AY (decide ((B8 dg 0)=(48))) (λhe=>?_) (λhe=>?_)))))))))
   ·have hr:=he;try simp only[AfF,AfE] at hr
    have hs:=he;try simp at hs
    refine AQ rfl rfl he (AF (Aj rfl) rfl (AQ rfl rfl he (AF (CQ rfl rfl) rfl (AQ rfl rfl ha (AF (A5 rfl he rfl) rfl (AF (A2 rfl ha rfl) rfl (As ?_)))))));exact Ay (BV trivial ⟨rfl,rfl,fb (by first | (simp only[ha,he,AfT,Agc,Ago,AfW,Agg,Age,Agl,Agi,AfR,Agh,AfL,AfH,AgB,Ag5,reduceIte,Agb];done) | simp[ha,he]),trivial⟩ .slnil)
   ·have hr:=he;try simp only[AfF,AfE] at hr
    have hs:=he;try simp at hs
    refine AU rfl rfl he rfl (AU rfl rfl he rfl (AQ rfl rfl ha (AF (A2 rfl he rfl) rfl (AF (A2 rfl ha rfl) rfl (As ?_)))));exact Ay (BV trivial ⟨rfl,rfl,fb (by first | (simp only[ha,he,AfT,Agc,Ago,AfW,Agg,Age,Agl,Agi,AfR,Agh,AfL,AfH,AgB,Ag5,reduceIte,Agb];done) | simp[ha,he]),trivial⟩ .slnil)
 refine Ek (b:=((decide ((dg)=(([]:List UInt8))))||((decide ((B8 dg 0)=(48)))&&(!(decide ((p)=(([48]:List UInt8)))))))) rfl (λhf=>?_) (λhf=>?_)
 ·have ht:=hf;try simp only[AfF,AfE] at ht
  have hu:=hf;try simp at hu
  refine Ao (An (AF (AA rfl) rfl (As (Ay (Bb ?_)))));refine A4 (Ae (A3 (Ch rfl rfl) ?_));exact IX (by simp only[Ny,hdg,hf];rfl)
 ·have ht:=hf;try simp only[AfF,AfE] at ht
  have hu:=hf;try simp at hu
  refine A0 (Ay (Bb ?_));refine Ao (Ao (An (AF (Aj rfl) rfl (AF (BF CT rfl) rfl (AF (Aj rfl) rfl (As (Ay (Bb ?_))))))));refine AS (Md (S:=Nat) (λ(k:Nat)=>k≤dg.length∧Bp E2 0 dg=Bp E2 k (dg.drop k)) (λ(k:Nat)=>[(29,.int .i64 ((k:Int))),(3,.string (B (dg))),(28,.int .i64 ((dg.length:Int)))]) (λ(k:Nat)=>[]) (λ(k:Nat)=>dg.length-k) (0) ?_ ⟨fi (by first | rfl | (simp;done) | omega | (simp;omega)),rfl,rfl,trivial⟩ .slnil ?_)
  ·exact⟨Agn _,by simp⟩
  rintro k hi0;refine Ao (An (AF (Dh rfl rfl) rfl (As (Ay (Bb ?_)))));refine Ao (Ek (b:=decide (((k:Int))<((dg.length:Int)))) rfl (λhh=>?_) (λhh=>?_))
  ·have hj:=hh;try simp only[AfF,AfE] at hj
   have hw:=hh;try simp at hw
   refine A0 (Ay (Bb ?_));refine Ao (AS (Ao (An (AF (Aj rfl) rfl (AF (AA rfl) rfl (As (Ay (Bb ?_))))))));refine AV [(3,.string (B (dg))),(4,.int .i64 ((k:Int))),(28,.int .i64 ((dg.length:Int))),(29,.int .i64 ((k:Int))),(30,.bool (decide (((k:Int))<((dg.length:Int))))),(31,.int .i64 ((k:Int))),(32,.string (B (dg))),(33,.int .i64 ((k:Int))),(34,.int .u8 (B8 dg (k:Int))),(35,.bool (decide ((B8 dg (k:Int))<(48)))),(36,.bool (decide ((B8 dg (k:Int))<(48)))),(41,.bool (((decide ((B8 dg (k:Int))<(48)))||(decide ((57)<(B8 dg (k:Int)))))))] [] (φ:=True) ?_ (λh4=>?_)
   ·refine An (AF (Aj rfl) rfl (AF (Aj rfl) rfl (AF (BA CT rfl rfl (by first | omega | exact I8 (by assumption)) (by first | omega | exact I8 (by assumption))) rfl (AF (Dh rfl rfl) rfl (AF (Aj rfl) rfl (AY (decide ((B8 dg (k:Int))<(48))) (λhb=>?_) (λhb=>?_)))))))
    ·have hx:=hb;try simp only[AfF,AfE] at hx
     have hy:=hb;try simp at hy
     refine AU rfl rfl hb rfl (AU rfl rfl hb rfl (AU rfl rfl hb rfl (AU rfl rfl hb rfl (AF (A5 rfl hb rfl) rfl (As ?_)))));exact Ay (BV trivial ⟨rfl,rfl,rfl,rfl,rfl,rfl,rfl,rfl,rfl,rfl,rfl,fb (by first | (simp only[hf,hh,hb,AfT,Agc,Ago,AfW,Agg,Age,Agl,Agi,AfR,Agh,AfL,AfH,AgB,Ag5,reduceIte,Agb];done) | simp[hf,hh,hb]),trivial⟩ .slnil)
    ·have hx:=hb;try simp only[AfF,AfE] at hx
     have hy:=hb;try simp at hy
     refine AQ rfl rfl hb (AF (Aj rfl) rfl (AQ rfl rfl hb (AF (Aj rfl) rfl (AQ rfl rfl hb (AF (BA CT rfl rfl (by first | omega | exact I8 (by assumption)) (by first | omega | exact I8 (by assumption))) rfl (AQ rfl rfl hb (AF (DT rfl rfl) rfl (AF (A2 rfl hb rfl) rfl (As ?_)))))))));exact Ay (BV trivial ⟨rfl,rfl,rfl,rfl,rfl,rfl,rfl,rfl,rfl,rfl,rfl,fb (by first | (simp only[hf,hh,hb,AfT,Agc,Ago,AfW,Agg,Age,Agl,Agi,AfR,Agh,AfL,AfH,AgB,Ag5,reduceIte,Agb];done) | simp[hf,hh,hb]),trivial⟩ .slnil)
   refine Ek (b:=((decide ((B8 dg (k:Int))<(48)))||(decide ((57)<(B8 dg (k:Int)))))) rfl (λhi=>?_) (λhi=>?_)
   ·have hz:=hi;try simp only[AfF,AfE] at hz
    have h0:=hi;try simp at h0
    refine Ao (An (AF (AA rfl) rfl (As (Ay (Bb ?_)))));refine A4 (AB (Ae (Ae (AB (Ae (A3 (Ch rfl rfl) ?_))))));exact IX (by simp[Ny,hdg,AdO hi0 hj hi])
   ·have hz:=hi;try simp only[AfF,AfE] at hz
    have h0:=hi;try simp at h0
    refine A0 (AK (Ay (Bb ?_)));refine An (AF (BW rfl rfl (IntWalk.i64_in _ (by omega))) rfl (AF (Aj rfl) rfl (As (Ay (AE (k+1) ?_ ⟨fi (by first | rfl | (simp;done) | omega | (simp;omega)),rfl,rfl,trivial⟩ .slnil)))));exact AaP hi0 hj hi
  ·have hj:=hh;try simp only[AfF,AfE] at hj
   have hw:=hh;try simp at hw
   refine B3 (A9 (A9 (Bn (Ay (Bb ?_)))));refine Ao (An (AF (AA rfl) rfl (As (Ay (Bb ?_)))));refine A4 (A3 (Ch rfl rfl) ?_);exact IX (by simp only[Ny,hdg,hf,Ac5 hi0 hj];rfl)
theorem TV (m:Int)(h0 : -9223372036854775808≤m)(h1:m≤9223372036854775807)(w:World)(hE:Vz w):Calls Tryz.prog 46 [.int .i64 (m)].toArray w (LX w (.string (B (Lib.itoa m)))):=by
 refine Ig (n:=5) Tryz.func46 rfl Tryz.ntmps46 rfl (Ao (An (AF (AA rfl) rfl (As (Ay (Bb ?_))))));refine Ao (An (AF (Aj rfl) rfl (C8 Tryz.call79 rfl (λw hw=>AdA m (by omega) (by omega) w (hE.st0 hw)) rfl (AF (AA rfl) rfl (As (Ay (Bb ?_)))))));refine A4 (A3 (Ch rfl rfl) ?_);exact IX (by first | rfl | simp[])
theorem AbO (p:List UInt8)(hp:p.length≤281474976710656)(w:World)(hE:Vz w):Calls Tryz.prog 99 [.string (B (p))].toArray w (LX w (.tuple #[.int .i64 (Bu p),.int .i64 (BH p)])):=by
 refine Ig (n:=22) Tryz.func99 rfl Tryz.ntmps99 rfl (Ao (An (AF (AA rfl) rfl (AF (AA rfl) rfl (As (Ay (Bb ?_)))))));refine Ao (Ao (An (AF (Aj rfl) rfl (C8 Tryz.call123 rfl (λw hw=>Yc p (by first | omega | (simp;done) | (simp;omega) | (simp at *;omega)) w) rfl (AF (BT rfl) rfl (As (Ay (Bb ?_))))))));refine Ek (b:=!(Ny p)) rfl (λhb=>?_) (λhb=>?_)
 ·have hf:=hb;try simp only[AfF,AfE] at hf
  have ha:=hb;try simp only[AfF,AfE,AfM,Agv,Agd,AgJ,AgG,Agj,not_or,Int.not_lt,Int.not_le] at ha
  refine Ao (An (AF (AA rfl) rfl (AF (AA rfl) rfl (As (Ay (Bb ?_))))));refine A4 (Ae (A3 (E3 rfl rfl rfl) ?_));exact IX (by simp[Bu,BH,ha])
 ·have hf:=hb;try simp only[AfF,AfE] at hf
  have ha:=hb;try simp only[AfF,AfE,AfM,Agv,Agd,AgJ,AgG,Agj,not_or,Int.not_lt,Int.not_le] at ha
  refine A0 (Ay (Bb ?_));refine Ao (An (AF (Aj rfl) rfl ?_));rcases Abl (p:=p) (by assumption) with⟨av,hav,hal,hah⟩ | hav
  ·refine C8 Tryz.call124 rfl (λw _=>AcH p (by first | omega | (simp;done) | (simp;omega) | (simp at *;omega)) av hav w) rfl (AF (Aj rfl) rfl (AF (A8 rfl rfl) rfl (AF (A8 rfl rfl) rfl (AF (AA rfl) rfl (AF (AA rfl) rfl (As (Ay (Bb ?_))))))));refine Ao (AV [(2,.int .i64 (0)),(3,.int .i64 (0)),(4,.int .i64 (av)),(20,.bool (!(ES av)))] [] (φ:=True) ?_ (λhh=>?_))
   ·exact An (AF (Aj rfl) rfl (AF (T1 Tryz.underlying161 rfl) rfl (AF (Aj rfl) rfl (AQ rfl rfl rfl (AF (Aj rfl) rfl (AQ rfl rfl rfl (C8 Tryz.call117 rfl (λw hw=>Ab8 av w) rfl (AQ rfl rfl rfl (AF (BT rfl) rfl (AF (A2 rfl rfl rfl) rfl (As (Ay (BV trivial ⟨rfl,rfl,rfl,rfl,trivial⟩ .slnil)))))))))))))
   refine Ek (b:=!(ES av)) rfl (λhd=>?_) (λhd=>?_)
   ·have hg:=hd;try simp only[AfF,AfE] at hg
    have he:=hd;try simp only[AfF,AfE,AfM,Agv,Agd,AgJ,AgG,Agj,not_or,Int.not_lt,Int.not_le] at he
    refine Ao (An (AF (AA rfl) rfl (AF (AA rfl) rfl (As (Ay (Bb ?_))))));refine A4 (Ae (A3 (E3 rfl rfl rfl) ?_));exact IX (by simp[Bu,BH,hav,ha,he])
   ·have hg:=hd;try simp only[AfF,AfE] at hg
    have he:=hd;try simp only[AfF,AfE,AfM,Agv,Agd,AgJ,AgG,Agj,not_or,Int.not_lt,Int.not_le] at he
    refine A0 (Ay (Bb ?_));refine Ao (An (AF (Aj rfl) rfl (AF (AA rfl) rfl (AF (AA rfl) rfl (As (Ay (Bb ?_)))))));refine A4 (A3 (E3 rfl rfl rfl) ?_);exact IX (by simp[Bu,BH,hav,ha,he])
  ·refine VA Tryz.call124 rfl (λw hw=>Vw p (by first | omega | (simp;done) | (simp;omega) | (simp at *;omega)) hav w (hE.st0 hw)) rfl ?_;rintro _ _ ⟨am,at_,ab,rfl,rfl⟩;refine AF (Aj rfl) rfl (AF (A8 rfl rfl) rfl (AF (A8 rfl rfl) rfl (AF (AA rfl) rfl (AF (AA rfl) rfl (As (Ay (Bb ?_)))))));refine Ao (AV [(2,.int .i64 (0)),(3,.int .i64 (0)),(4,.int .i64 (am)),(20,.bool (true))] [] (φ:=True) ?_ (λhi=>?_))
   ·exact An (AF (Aj rfl) rfl (AF (AbZ Tryz.underlying161 rfl) rfl (AF (Aj rfl) rfl (AU rfl rfl rfl rfl (AU rfl rfl rfl rfl (AU rfl rfl rfl rfl (AF (A5 rfl rfl rfl) rfl (As (Ay (BV trivial ⟨rfl,rfl,rfl,rfl,trivial⟩ .slnil))))))))))
   refine DE rfl rfl (Ao (An (AF (AA rfl) rfl (AF (AA rfl) rfl (As (Ay (Bb ?_)))))));refine A4 (Ae (A3 (E3 rfl rfl rfl) ?_));exact IX (by simp[Bu,BH,hav,ha])
theorem AcB (p:List UInt8)(m:Int)(hp:p.length≤281474976710656)(w:World)(hE:Vz w):Calls Tryz.prog 67 [.string (B (p)),.int .i64 (m)].toArray w (LX w (.tuple #[.string (B (BK p m)),.int .i64 (C1 p m)])):=by
 refine Ig (n:=25) Tryz.func67 rfl Tryz.ntmps67 rfl (Ao (An (AF (AA rfl) rfl (AF (AA rfl) rfl (As (Ay (Bb ?_)))))));refine Ao (Ao (An (AF (Aj rfl) rfl (C8 YF rfl (λw hw=>AeG p w) rfl (AF (BT rfl) rfl (As (Ay (Bb ?_))))))));refine Ek (b:=!(K3 p)) rfl (λhb=>?_) (λhb=>?_)
 ·have hf:=hb;try simp only[AfF,AfE] at hf
  have hg:=hb;try simp at hg
  refine Ao (An (AF (AA rfl) rfl (AF (AA rfl) rfl (As (Ay (Bb ?_))))));refine A4 (Ae (A3 (E3 rfl rfl rfl) ?_));have e:C1 p m=4:=by simp only[C1,GV];grind
  exact IX (by simp[BK,e,GV,B])
 ·have hf:=hb;try simp only[AfF,AfE] at hf
  have hg:=hb;try simp at hg
  refine A0 (Ay (Bb ?_));refine Ao (AV [(0,.string (B (p))),(1,.int .i64 (m)),(4,.string (B ([]))),(5,.int .i64 (0)),(15,.bool (((decide ((m)<(0)))||(decide ((1000000000000)<(m))))))] [] (φ:=True) ?_ (λhn=>?_))
  ·refine An (AF (Aj rfl) rfl (AF (Dh rfl rfl) rfl (AF (Aj rfl) rfl (AY (decide ((m)<(0))) (λha=>?_) (λha=>?_)))))
   ·have hh:=ha;try simp only[AfF,AfE] at hh
    have hi:=ha;try simp at hi
    refine AU rfl rfl ha rfl (AU rfl rfl ha rfl (AF (A5 rfl ha rfl) rfl (As ?_)));exact Ay (BV trivial ⟨rfl,rfl,rfl,rfl,fb (by first | (simp only[hb,ha,AfT,Agc,Ago,AfW,Agg,Age,Agl,Agi,AfR,Agh,AfL,AfH,AgB,Ag5,reduceIte,Agb];done) | simp[hb,ha]),trivial⟩ .slnil)
   ·have hh:=ha;try simp only[AfF,AfE] at hh
    have hi:=ha;try simp at hi
    refine AQ rfl rfl ha (AF (Aj rfl) rfl (AQ rfl rfl ha (AF (DT rfl rfl) rfl (AF (A2 rfl ha rfl) rfl (As ?_)))));exact Ay (BV trivial ⟨rfl,rfl,rfl,rfl,fb (by first | (simp only[hb,ha,AfT,Agc,Ago,AfW,Agg,Age,Agl,Agi,AfR,Agh,AfL,AfH,AgB,Ag5,reduceIte,Agb];done) | simp[hb,ha]),trivial⟩ .slnil)
  refine Ek (b:=((decide ((m)<(0)))||(decide ((1000000000000)<(m))))) rfl (λhd=>?_) (λhd=>?_)
  ·have hj:=hd;try simp only[AfF,AfE] at hj
   have hk:=hd;try simp at hk
   refine Ao (An (AF (AA rfl) rfl (AF (AA rfl) rfl (As (Ay (Bb ?_))))));refine A4 (Ae (A3 (E3 rfl rfl rfl) ?_));have e:C1 p m=2:=by simp only[C1,GV];grind
   exact IX (by simp[BK,e,GV,B])
  ·have hj:=hd;try simp only[AfF,AfE] at hj
   have hk:=hd;try simp at hk
   refine A0 (Ay (Bb ?_));refine Ao (An (AF (Aj rfl) rfl (AF (Pp rfl rfl (by simp;omega)) rfl (AF (Aj rfl) rfl (C8 OG rfl (λw hw=>TV m (by omega) (by omega) w (hE.st0 hw)) rfl ?_)))));have ho:=Aay m (by omega) (by omega);refine AF (Pp rfl rfl (by simp;omega)) rfl (AF (AA rfl) rfl (As (Ay (Bb ?_))));refine Ao (Ao (An (AF (Aj rfl) rfl (AF (BF CT rfl) rfl (AF (DT rfl rfl) rfl (As (Ay (Bb ?_))))))));refine Ek (b:=decide ((64)<((((p++[46])++(Lib.itoa m)).length:Int)))) rfl (λhe=>?_) (λhe=>?_)
   ·have hl:=he;try simp only[AfF,AfE] at hl
    have hm:=he;try simp at hm
    refine Ao (An (AF (AA rfl) rfl (AF (AA rfl) rfl (As (Ay (Bb ?_))))));refine A4 (Ae (A3 (E3 rfl rfl rfl) ?_));have e:C1 p m=3:=by simp only[C1,GV];grind
    exact IX (by simp[BK,e,GV,B])
   ·have hl:=he;try simp only[AfF,AfE] at hl
    have hm:=he;try simp at hm
    refine A0 (Ay (Bb ?_));refine Ao (An (AF (Aj rfl) rfl (AF (AA rfl) rfl (AF (AA rfl) rfl (As (Ay (Bb ?_)))))));refine A4 (A3 (E3 rfl rfl rfl) ?_);have e:C1 p m=0:=by simp only[C1,GV];grind
    exact IX (by simp[BK,e,GV,B])
end Go.Proofs.YtfobhhegpkinaaaGreatDoor
namespace Go.Proofs
open Go.Shelf
def Tryz.lays169_ren:Go.Shelf.Ren:=⟨fun | 169=>111 | n=>n,fun | 70=>143 | 9=>9 | 0=>0 | 72=>146 | 37=>144 | 127=>185 | 3=>3 | 5=>5 | n=>n,fun | n=>n⟩
theorem Tryz.lays169:Go.Proofs.Lays.n169 Tryz.prog Tryz.lays169_ren:={
 mixed:=by kernel_rfl
 f169:=Tryz.func111.trans (congrArg some (by kernel_rfl))
 t0:=Tryz.underlying0
 a0:=Tryz.isAgg0
 z0:=Tryz.sizeOf0
 v0:=Tryz.zeroValue0
 t3:=Tryz.underlying3
 a3:=Tryz.isAgg3
 z3:=Tryz.sizeOf3
 v3:=Tryz.zeroValue3
 t9:=Tryz.underlying9
 a9:=Tryz.isAgg9
 z9:=Tryz.sizeOf9
 v9:=Tryz.zeroValue9
 t37:=Tryz.underlying144
 a37:=Tryz.isAgg144
 z37:=Tryz.sizeOf144
 v37:=Tryz.zeroValue144
 t70:=Tryz.underlying143
 a70:=Tryz.isAgg143
 z70:=Tryz.sizeOf143
 v70:=Tryz.zeroValue143
 t72:=Tryz.underlying146
 a72:=Tryz.isAgg146
 z72:=Tryz.sizeOf146
 v72:=Tryz.zeroValue146
 t127:=Tryz.underlying185
 a127:=Tryz.isAgg185
 z127:=Tryz.sizeOf185
 v127:=Tryz.zeroValue185 }
theorem Tryz.Builder_Extra_169:Builder.Extra Tryz.prog Tryz.lays169_ren:={
 sizeBuilder:=by kernel_rfl
 liesBuilder:=by kernel_rfl
 t5:=Tryz.underlying5
 a5:=Tryz.isAgg5
 z5:=Tryz.sizeOf5
 v5:=Tryz.zeroValue5
 infoByte:=by kernel_rfl
 cellsByte:=by kernel_rfl
 sizeByte:=by kernel_rfl
 neB5:=by decide }
open Go.RowKit in
theorem Tryz.Builder_String_any (B b:Nat)(l:List UInt8)(w:World)(h:Lib.IsBuilder 146 5 B b (Lib.byteCells l) w)(hBw:B≤w.heap.size) :
  Calls Tryz.prog 111 #[.pointer (some ⟨b,0,none⟩)] w λe w'=>e = .returned (.string ⟨l.toArray⟩)∧Below B w w':=Any.Builder_String_any Tryz.lays169 Tryz.Builder_Extra_169 B b l w h hBw
def Tryz.lays138_ren:Go.Shelf.Ren:=⟨fun | 138=>151 | 195=>175 | 218=>176 | 143=>177 | 219=>198 | 217=>205 | 225=>206 | 224=>207 | 267=>208 | 266=>211 | 314=>212 | n=>n,fun | 9=>9 | 3=>3 | 4=>4 | 5=>5 | 0=>0 | 46=>134 | 146=>240 | 51=>158 | n=>n,fun | 1=>1 | n=>n⟩
theorem Tryz.lays138:Go.Proofs.Lays.n138 Tryz.prog Tryz.lays138_ren:={
 mixed:=by kernel_rfl
 f138:=Tryz.func151.trans (congrArg some (by kernel_rfl))
 f143:=Tryz.func177.trans (congrArg some (by kernel_rfl))
 f195:=Tryz.func175.trans (congrArg some (by kernel_rfl))
 f217:=Tryz.func205.trans (congrArg some (by kernel_rfl))
 f218:=Tryz.func176.trans (congrArg some (by kernel_rfl))
 f219:=Tryz.func198.trans (congrArg some (by kernel_rfl))
 f224:=Tryz.func207.trans (congrArg some (by kernel_rfl))
 f225:=Tryz.func206.trans (congrArg some (by kernel_rfl))
 f266:=Tryz.func211.trans (congrArg some (by kernel_rfl))
 f267:=Tryz.func208.trans (congrArg some (by kernel_rfl))
 f314:=Tryz.func212.trans (congrArg some (by kernel_rfl))
 t0:=Tryz.underlying0
 a0:=Tryz.isAgg0
 z0:=Tryz.sizeOf0
 v0:=Tryz.zeroValue0
 t3:=Tryz.underlying3
 a3:=Tryz.isAgg3
 z3:=Tryz.sizeOf3
 v3:=Tryz.zeroValue3
 t4:=Tryz.underlying4
 a4:=Tryz.isAgg4
 z4:=Tryz.sizeOf4
 v4:=Tryz.zeroValue4
 t5:=Tryz.underlying5
 a5:=Tryz.isAgg5
 z5:=Tryz.sizeOf5
 v5:=Tryz.zeroValue5
 t9:=Tryz.underlying9
 a9:=Tryz.isAgg9
 z9:=Tryz.sizeOf9
 v9:=Tryz.zeroValue9
 t46:=Tryz.underlying134
 a46:=Tryz.isAgg134
 z46:=Tryz.sizeOf134
 v46:=Tryz.zeroValue134
 t51:=Tryz.underlying158
 a51:=Tryz.isAgg158
 z51:=Tryz.sizeOf158
 v51:=Tryz.zeroValue158
 t146:=Tryz.underlying240
 a146:=Tryz.isAgg240
 z146:=Tryz.sizeOf240
 v146:=Tryz.zeroValue240
 g1:=by kernel_rfl }
open Go.RowKit Go.Lib in
theorem Tryz.strings_Count_one (s:ByteArray)(c:UInt8)(w:World) :
  Calls Tryz.prog 151 #[.string s,.string ⟨#[c]⟩] w λe w'=>e = .returned (.int .i64 (Lib.countByte s.data.toList c))∧w'=w:=Any.strings_Count_one Tryz.lays138 s c w
end Go.Proofs
namespace Go.Proofs.YtfobhhegpkinaaaGreatDoor
open Go
set_option linter.unusedVariables false
set_option linter.unusedSimpArgs false
theorem W4 {f:Nat→UInt8→Bool}:∀{l:List UInt8} {i:Nat},Bp f i l=true→∀u∈l,∃j,f j u=true
 | [],_,_,u,hu=>by simp at hu
 | x::r,i,h,u,hu=>by
  simp only[Bp,AfM] at h;rcases List.mem_cons.1 hu with rfl | hu
  ·exact⟨i,h.1⟩
  ·exact W4 h.2 u hu
theorem Vy {f:Nat→UInt8→Bool}:∀{l:List UInt8} {i:Nat},(∀j,∀u∈l,f j u=true)→Bp f i l=true
 | [],_,_=>rfl
 | x::r,i,h=>by simp only[Bp,AfM];exact⟨h i x (by simp),Vy λj u hu=>h j u (by simp[hu])⟩
theorem VS:∀(l:List UInt8) (acc v:Nat) (c:UInt8),Lib.parseUint10 acc l = .ok v→48≤c.toNat→c.toNat≤57→v<1844674407370955161→Lib.parseUint10 acc (l++[c]) = .ok (v*10+(c.toNat-48))
 | [],acc,v,c,h,h0,h1,hv=>by
  simp only[Lib.parseUint10,Lib.NumEnd.ok.injEq] at h;subst h;simp only[Agz,Lib.parseUint10];rw[Ag9 ⟨h0,h1⟩,Agt (by omega),Agt (by omega)]
 | x::r,acc,v,c,h,h0,h1,hv=>by
  simp only[Ag2,Lib.parseUint10] at h ⊢
  split at h
  ·rename_i hx
   rw[Ag9 hx]
   split at h
   ·cases h
   ·rename_i hy
    rw[Agt hy]
    split at h
    ·cases h
    ·rename_i hz
     rw[Agt hz];exact VS r _ v c h h0 h1 hv
  ·cases h
theorem LK {d:Nat}(h:d<10):(UInt8.ofNat (48+d)).toNat=48+d:=by
 simp[UInt8.toNat_ofNat'];omega
theorem Wz (u:Nat):∀c∈Lib.decDigits u,48≤c.toNat∧c.toNat≤57:=by
 induction u using Nat.strongRecOn with
 | ind u ih=>
  intro c hc;rw[Lib.decDigits] at hc
  split at hc
  ·simp only[Aga] at hc;subst hc;rw[LK (by omega)];omega
  ·rcases List.mem_append.1 hc with hc | hc
   ·exact ih (u/10) (by omega) c hc
   ·simp only[Aga] at hc;subst hc;rw[LK (by omega)];omega
theorem Yd (u:Nat):u<18446744073709551610→Lib.parseUint10 0 (Lib.decDigits u) = .ok u:=by
 induction u using Nat.strongRecOn with
 | ind u ih=>
  intro hu;rw[Lib.decDigits]
  split
  ·rename_i h
   simp only[Lib.parseUint10];rw[LK h,Ag9 (by omega),Agt (by omega),Agt (by omega)]
   congr 1;omega
  ·rename_i h
   have:=VS (Lib.decDigits (u/10)) 0 (u/10) (UInt8.ofNat (48+u % 10)) (ih (u/10) (by omega) (by omega)) (by rw[LK (by omega)];omega) (by rw[LK (by omega)];omega) (by omega);rw[this,LK (by omega)]
   congr 1;omega
theorem AaR (u:Nat):Lib.decDigits u≠[]:=by
 rw[Lib.decDigits];split<;>simp
theorem Ye (u:Nat):1≤u→B8 (Lib.decDigits u) 0≠48:=by
 induction u using Nat.strongRecOn with
 | ind u ih=>
  intro hu;rw[Lib.decDigits]
  split
  ·rename_i h
   have:=LK h;simp only[B8,Int.toNat_zero,List.getElem?_cons_zero,Agm];rw[this];omega
  ·rename_i h
   have h1:=ih (u/10) (by omega) (by omega);have hne:=AaR (u/10);unfold B8 at h1 ⊢;rw[show(0:Int).toNat=0 from rfl] at h1 ⊢
   rwa [AgF (by cases hd:Lib.decDigits (u/10) with | nil=>exact absurd hd hne | cons=>simp)]
theorem Ac7 (u:Nat)(h:u<10):Lib.decDigits u=[UInt8.ofNat (48+u)]:=by rw[Lib.decDigits];simp[h]
theorem TO {m:Int}(h0:0≤m):Lib.itoa m=Lib.decDigits m.toNat:=by
 have:=Lib.itoa_nonneg m.toNat
 rwa [show((m.toNat:Nat):Int)=m from by omega] at this
theorem Jh {m:Int}(h0:0≤m)(h1:m≤1000000000000):BH (Lib.itoa m)=0∧Bu (Lib.itoa m)=m:=by
 rw[TO h0];generalize hu:m.toNat=u;have hub:u≤1000000000000:=by omega
 have hall:=Wz u;have hne:=AaR u;have hd0:∃c r,Lib.decDigits u=c::r:=by cases h:Lib.decDigits u with | nil=>exact absurd h hne | cons c r=>exact⟨c,r,rfl⟩
 obtain⟨c,r,hcr⟩:=hd0;have hc:48≤c.toNat∧c.toNat≤57:=hall c (by simp[hcr]);have hs:Tl (Lib.decDigits u)=false:=by
  rw[hcr];have e:B8 (c::r) 0=c.toNat:=rfl;simp only[Tl,e,AgG,AfE]
  right;omega
 have hdg:LT (Lib.decDigits u)=Lib.decDigits u:=by simp[LT,hs]
 have hdec:Ny (Lib.decDigits u)=true:=by
  simp only[Ny,hdg];have h2:Bp E2 0 (Lib.decDigits u)=true:=Vy λj x hx=>by
   have:=hall x hx;simp[E2];omega
  rw[h2];have h3:decide (Lib.decDigits u=[])=false:=by simpa using hne
  rw[h3]
  by_cases hz:u=0
  ·subst hz;rw[Ac7 0 (by omega)];rfl
  ·have:=Ye u (by omega);simp[this]
 have hat:Lib.atoiAll (Lib.decDigits u) = .ok (u:Int):=by
  have h4:=Yd u (by omega);rw[hcr] at h4 ⊢;rw[Lib.atoiAll_plain c r (by omega) (by omega)];have:Lib.parseMag (c::r) = .ok u:=by unfold Lib.parseMag;rw[Agt (by simp)];exact h4
  rw[this];simp only[Lib.signless];rw[Agt (by omega)]
 have hv:ES (u:Int)=true:=by simp[ES];omega
 simp only[BH,Bu,hdec,AgB,hat,hv];exact⟨trivial,by omega⟩
theorem NS (p:List UInt8)(m:Int):∀(k j:Nat),(∀i,j≤i→i<k→B8 p i≠m)→j≤k→Np p m k=Np p m j
  | 0,j,_,hjk=>by
                       have:j=0:=by omega
                       subst this;rfl
  | k+1,j,h,hjk=>by
    by_cases e:j=k+1
    · subst e;rfl
    · rw[Np,Agt (h k (by omega) (by omega))]
      exact NS p m k j (λi h1 h2=>h i h1 (by omega)) (by omega)
theorem Aau (a b:List UInt8)(c:UInt8)(h:c ∉ b):Rm (a++[c]++b) c.toNat=a.length:=by
 unfold Rm;have hb:∀i:Nat,a.length+1≤i→i<(a++[c]++b).length→B8 (a++[c]++b) i≠c.toNat:=λi h1 h2 e=>by
  have hg:(a++[c]++b)[i]? =b[i-(a.length+1)]?:=by rw[AgI (by simpa using h1)];simp
  have hlt:i-(a.length+1)<b.length:=by simp at h2;omega
  unfold B8 at e;rw[show((i:Int)).toNat=i from by omega,hg,AfN hlt] at e;simp only[Agm] at e;have:b[i-(a.length+1)]=c:=UInt8.toNat_inj.1 (by omega);exact h (this▸List.getElem_mem hlt)
 rw[NS _ _ _ (a.length+1) hb (by simp),Np,Ag9];simp[B8]
theorem LV {id:List UInt8}{m:Int}(h:C1 id m=0):AcP (BK id m)=true∧Z6 (BK id m)=id∧Bu (Xr (BK id m))=m∧K3 (BK id m)=true:=by
 have hk:K3 id=true∧(0≤m∧m≤1000000000000)∧(GV id m).length≤64:=by
  unfold C1 at h
  split at h
  ·split at h
   ·split at h
    ·exact⟨by assumption,by assumption,by assumption⟩
    ·omega
   ·omega
  ·omega
 obtain⟨h1,⟨h2,h3⟩,h4⟩:=hk;have hv:BK id m=id++[46]++Lib.itoa m:=by simp[BK,h,GV]
 have hdig:∀c∈Lib.itoa m,48≤c.toNat∧c.toNat≤57:=by rw[TO h2];exact Wz _
 have hl:Rm (BK id m) 46=id.length:=by
  rw[hv];exact Aau id (Lib.itoa m) 46 (λhm=>by have:=hdig _ hm;simp at this)
 have e1:Z6 (BK id m)=id:=by unfold Z6;rw[hl,hv];simp
 have e2:Xr (BK id m)=Lib.itoa m:=by
  unfold Xr;rw[hl,hv,show((id.length:Int)+1).toNat=id.length+1 from by omega];simp
 obtain⟨b1,b2⟩:=Jh h2 h3;refine⟨?_,e1,by rw[e2];exact b2,?_⟩
 ·simp only[AcP,e1,e2,b1,b2,h,hl];simp
 ·have hs:=h1;simp only[K3,AfM] at hs ⊢;refine⟨⟨Vy λj u hu=>?_,?_⟩,?_⟩
  ·rw[hv] at hu;rcases List.mem_append.1 hu with hu | hu
   ·rcases List.mem_append.1 hu with hu | hu
    ·obtain⟨i,hi⟩:=W4 hs.1.1 u hu;exact hi
    ·simp only[Aga] at hu;subst hu;show E7 46=true;decide
   ·have:=hdig u hu;simp[Nv,E7,EE,DQ];omega
  ·rw[hv];simp;omega
  ·rw[hv];simpa[GV] using h4
open Go Go.RowKit
section
variable {P : Program} {n : Nat} {w0 : World} {M : List Nat} {l : Fr} {H : List Ent} {d : Option Nat} {x y : Operand} {ty t t' : TypeId} {pos : String} {af : Array Edge} {g : Option (Nat × Bool)} {k : IntKind} {p q z : Int}
end
set_option maxRecDepth 100000
end Go.Proofs.YtfobhhegpkinaaaGreatDoor
namespace Go.Proofs
open Go.Shelf
end Go.Proofs
namespace Go.Proofs.YtfobhhegpkinaaaGreatDoor.Q
open Go Go.RowKit
set_option linter.unusedVariables false
def GE (Z:Fz):Prop:=∀w,WB Z w→Vz w
theorem GE.mono {Z Z':Fz}(h:Fz.le Z Z')(hg:GE Z):GE Z':=λw hw=>hg w ⟨λb o e=>hw b o (h b o e),λk i b e=>hw.nm k i b (h.nm k i b e)⟩
theorem OC.rle {P:Program}{E:Fz→Prop}{f:FuncId}{args:List Rp}{r r':Rp}(h:OC P E f args r)(hr:LW r r'):OC P E f args r':=λw Z vs hv hs=>
 (h w Z vs hv hs).mono λe w' ⟨q,v,H,Z',he,⟨hq,hH⟩,hp,ht⟩=>⟨r',v,H,Z',he,⟨rfl,hH⟩,hr Z' v (hq▸hp),ht⟩
theorem LW.tup2 {a b:Value}:LW (rv (.tuple #[a,b])) (CZ [rv a,rv b]):=λZ v h=>⟨[a,b],h,rfl,rfl,trivial⟩
theorem OC.of_id {P:Program}{E:Fz→Prop}{f:FuncId}{vs:List Value}{v:Value}(h:∀w,Calls P f vs.toArray w (λe w'=>e = .returned v∧w'=w)):OC P E f (vs.map rv) (rv v):=
 OC.of_old λw Z _ _=>(h w).mono λe w' ⟨he,hw⟩=>⟨he,by rw[hw];exact Proofs.YtfobhhegpkinaaaGreatDoor.St.refl w []⟩
theorem EL (m:Int)(g:Cb .i64 m=true):OC Tryz.prog GE 46 [rI .i64 m] (rS (Lib.itoa m)):=OC.of_old (vs:=[.int .i64 m]) λw Z hf he=>TV m (Lf g).1 (Lf g).2 w (he w hf)
theorem Mw (s:Ai)(g:Dz 1 s.length=true):OC Tryz.prog GE 99 [rS s] (CZ [rI .i64 (Bu s),rI .i64 (BH s)]):=(OC.of_old (vs:=[.string (B s)]) λw Z hf he=>AbO s (by simp[Dz] at g;omega) w (he w hf)).rle LW.tup2
theorem W1 (s:Ai)(c:UInt8):OC Tryz.prog GE 151 [rS s,rS [c]] (rI .i64 (Lib.countByte s c)):=OC.of_id (vs:=[.string (B s),.string (B [c])]) λw=>by have:=Tryz.strings_Count_one (B s) c w;rwa [V2] at this
theorem Acv (s:Ai):OC Tryz.prog GE 52 [rS s] (rB (K3 s)):=OC.of_old (vs:=[.string (B s)]) λw Z hf he=>AeG s w
theorem UZ (s:Ai):OC Tryz.prog GE 53 [rS s] (rB (Hf s)):=OC.of_old (vs:=[.string (B s)]) λw Z hf he=>Ad1 s w
theorem O9 (s:Ai)(m:Int)(g:Dz 1 s.length=true)(gm:Cb .i64 m=true):OC Tryz.prog GE 67 [rS s,rI .i64 m] (CZ [rS (BK s m),rI .i64 (C1 s m)]):=(OC.of_old (vs:=[.string (B s),.int .i64 m]) λw Z hf he=>AcB s m (by simp[Dz] at g;omega) w (he w hf)).rle LW.tup2
open Go Go.RowKit Go.ChangeShapes Go.Deep
set_option linter.unusedSimpArgs false
def ZW (W:World):Fz:=⟨λb=>W.heap[b]?,λ_ _=>none⟩
theorem ZW.frz (W:World):WB (ZW W) W:=⟨λ_ _ h=>h,λ_ _ _ h=>by cases h⟩
def Uv (P:Program)(e:TypeId){α:Type}(enc:α→List Rp)(ok:α→Bool):Prop:=
 ∀{H:Type} {encH:TypeId×Value→H} {W:World} {sp:Nat→Bool} {held:Bool} {n:Nat} {cs:List Value} {x:DataW H×List MemPlace},DataW.trod encH P W 0 sp held n e cs=some x→∃y:α,ok y=true∧Bj (ZW W) (enc y) cs
section
variable {P : Program} {e t : TypeId}
theorem Uv.int {k:IntKind}{enc:Int→List Rp}(ht:P.underlying e=some (.int k))(he:∀n,enc n=[rI k n]):Uv P e enc (Cb k):=λh=>by
 obtain⟨n,rfl,_,hwf⟩:=DataW.trod_int ht h;exact⟨n,hwf,by rw[he];exact⟨rfl,trivial⟩⟩
theorem Uv.str {enc:Ai→List Rp}(ht:P.underlying e=some .string)(he:∀n,enc n=[rS n]):Uv P e enc okS:=λh=>by
 obtain⟨s,rfl,_,hl⟩:=DataW.trod_string ht h;exact⟨s.data.toList,AfI (by rw[Array.length_toList];exact hl),by rw[he];exact⟨congrArg Value.string (AeX s),trivial⟩⟩
theorem Uv.bool {enc:Bool→List Rp}(ht:P.underlying e=some .bool)(he:∀n,enc n=[rB n]):Uv P e enc (λ_=>true):=λh=>by
 obtain⟨b,rfl,_⟩:=DataW.trod_bool ht h;exact⟨b,rfl,by rw[he];exact⟨rfl,trivial⟩⟩
theorem Lk {W:World}{a:Addr}{v:Value}(h:W.cell? a=some v):a.spot=none∧JH (ZW W) a.block a.off=some v:=by
 unfold World.cell? at h;unfold JH ZW;dsimp only
 cases hh:W.heap[a.block]? with
 | none=>rw[hh] at h;cases h
 | some o=>
  rw[hh] at h
  cases o with
  | cells cs t fz=>
   cases hs:a.spot with
   | none=>simp[hs] at h;exact⟨rfl,h⟩
   | some _=>simp[hs] at h
  | _=>simp at h
theorem Uv.slice {α:Type}[Inhabited α]{enc:α→List Rp}{ok:α→Bool}{sz:Nat}(ht:P.underlying t=some (.slice e))(hc:P.cellsOf e=sz)(hsz:0<sz)(h:Uv P e enc ok)(hlen:∀y,(enc y).length=sz){enc':List α→List Rp}(he:∀ys,enc' ys=[Br sz (ys.map enc)]) :
  Uv P t enc' (λys=>ys.all ok&&decide (ys.length≤9223372036854775807)):=fun {H encH W sp held n cs x} hx=>by
 rcases open_slice ht hx with⟨rfl,_⟩ | ⟨a,len,cap,m,n',D,Pl,rfl,hb,hl,hm,hmm,_,hel⟩
 ·exact⟨[],by simp,by rw[he];exact⟨SH.nil sz _,trivial⟩⟩
 ·have hlm:len≤m:=by rw[hmm];split<;>omega
  have each:∀i,i<len→∃y:α,ok y=true∧∃cs',W.cells? 0 (a.add (i*sz)) sz=some cs'∧Bj (ZW W) (enc y) cs':=λi hi=>by
   obtain⟨cs',h1,h2⟩:=hel i (by omega);obtain⟨y,hy,hr⟩:=h h2;rw[hc] at h1;exact⟨y,hy,cs',h1,hr⟩
  obtain⟨f,hf⟩:=choose_lt each;refine⟨(List.range len).map f,?_,?_⟩
  ·simp only[AfM,Ags,List.mem_map,List.mem_range,AfF];refine⟨?_,by simp;simp only[maxLen] at hm;omega⟩;rintro _ ⟨i,hi,rfl⟩;exact(hf i hi).1
  ·rw[he];refine⟨⟨some a,cap,by simp,by simpa using hl,hm,(λh=>by cases h),λi c hi=>?_⟩,trivial⟩;rw[AgD,Agw] at hi;have hil:i<len:=by
    cases hq:(List.range len)[i]? with
    | none=>rw[hq] at hi;cases hi
    | some _=>have:=(List.getElem?_eq_some_iff.1 hq).1;simpa using this
   rw[List.getElem?_range hil] at hi;simp only[Option.map_some,Option.some.injEq,Function.comp] at hi;subst hi;obtain⟨_,cs',h1,hr⟩:=hf i hil;obtain⟨_,hcl,hcell⟩:=World.cells?_some h1;have hsp:a.spot=none:=by
    obtain⟨_,cs0,g1,_⟩:=hf 0 (by omega);obtain⟨_,gcl,gcell⟩:=World.cells?_some g1;have h0:=gcell 0 hsz;rw[AfN (by omega)] at h0;have:=(Lk h0).1;simpa[Addr.add] using this
   refine⟨hlen _,a,rfl,hsp,λj r hj=>?_⟩;obtain⟨u,hu,hp⟩:=hr.at hj;have hjs:j<sz:=by have:=(List.getElem?_eq_some_iff.1 hj).1;rw[hlen] at this;exact this
   have h3:=hcell j hjs;rw[hu] at h3;have h4:=(Lk h3).2;refine⟨u,?_,hp⟩;have e1:((a.add (i*sz)).add j).block=a.block:=by simp only[Addr.add];split<;>split<;>rfl
   have e2:((a.add (i*sz)).add j).off=a.off+(i*sz+j):=by simp only[Addr.add];split<;>split<;>simp_all<;>omega
   rw[e1,e2] at h4;exact h4
theorem Ou {Z:Fz}{cs:List Value}{o:Nat}(h:cs.length=o):Bj Z [] (cs.drop o):=by rw[List.drop_of_length_le (by omega)];trivial
theorem CV {Z:Fz}{cs:List Value}{o s o':Nat}{rs rs':List Rp}(h:Bj Z rs ((cs.drop o).take s))(ho:o+s=o')(h2:Bj Z rs' (cs.drop o')):Bj Z (rs++rs') (cs.drop o):=by
 rw[← Ag7 s (cs.drop o),List.drop_drop];subst ho;exact h.append h2
theorem Uv.val {α:Type}{enc:α→List Rp}{ok:α→Bool}(h:Uv P e enc ok){r:α→Rp}(he:∀y,enc y=[r y]){H:Type}{encH:TypeId×Value→H}{W:World}{sp:Nat→Bool}{held:Bool}{v:Value}{d:DataW H}{ps:List MemPlace}
  (hone:v.cells = #[v]) (ht:DataW.Trod encH P W 0 sp held e v d ps):∃y:α,ok y=true∧(r y).p (ZW W) v:=by
 obtain⟨fuel,hf⟩:=ht;rw[hone] at hf;obtain⟨y,hy,hr⟩:=h hf;rw[he] at hr;exact⟨y,hy,hr.1⟩
end
theorem AaB {W w:World}(hw:WB (ZW W) w):W.heap.size≤w.heap.size:=by
 rcases Nat.eq_zero_or_pos W.heap.size with h | h
 ·omega
 ·have h1:W.heap[W.heap.size-1]? =some (W.heap[W.heap.size-1]'(by omega)):=Array.getElem?_eq_getElem (by omega);have:=(Array.getElem?_eq_some_iff.1 (hw _ _ h1)).1;omega
theorem XW {W:World}(hE:Vz W):GE (ZW W):=λw hw=>by
 have hb:Below W.heap.size W { w with os:=W.os,tape:=W.tape,output:=W.output }:=⟨rfl,rfl,rfl,(show W.heap.size≤w.heap.size from AaB hw),λk hk=>by
  have h1:W.heap[k]? =some (W.heap[k]'hk):=Array.getElem?_eq_getElem hk;rw[h1];exact hw k _ h1⟩
 have hE2:=hE.st0 (St.of_below hb);exact⟨SE.block { w with os:=W.os,tape:=W.tape,output:=W.output } w (λ_ _=>rfl) hE2.tabs,hE2.size⟩
theorem Ze {W:World}(hE:Vz W):St ⟨W,ZW W,[],GE,[]⟩ [] (ZW W) W where
 os:=rfl
 tape:=rfl
 output:=rfl
 size:=AfZ _
 old:=λ_ _ _=>rfl
 has:=λ_ h=>by cases h
 own:=λ_ h=>by cases h
 dis:=.nil
 frz:=ZW.frz W
 le:=Fz.le.refl _
 new:=λ_ _ h=>.inl h
 zdis:=λ_ h=>by cases h
 env:=XW hE
 emono:=λh hg=>GE.mono h hg
 gst:=MS.none rfl
theorem Zf {W W':World}{Z Z':Fz}{E:Fz→Prop}{H:List Ent}(h:St ⟨W,Z,[],E,[]⟩ H Z' W'):Below W.heap.size W W':=⟨h.os,h.tape,h.output,h.size,λk hk=>h.old k hk (by simp)⟩
def Ee (P:Program)(e:TypeId){α:Type}(enc:α→List Rp)(ok:α→Bool):Prop:=
 ∀{H:Type} {encH:TypeId×Value→H} {W:World} {sp:Nat→Bool} {held:Bool} {n:Nat} {cs:List Value} {x:DataW H×List MemPlace},DataW.trod encH P W 0 sp held n e cs=some x→Rows.uptoBulk x.1≤1048576→∃y:α,ok y=true∧Bj (ZW W) (enc y) cs
theorem Abe {H:Type}(d:DataW H):1≤Rows.uptoBulk d:=by
 cases d with
 | lit l=>cases l<;>simp[Rows.uptoBulk]
 | _=>simp[Rows.uptoBulk]
theorem Io {H:Type}:∀{ds:List (DataW H)} {d:DataW H},d∈ds→Rows.uptoBulk d≤Rows.uptoBulkAll ds
 | [],_,h=>by cases h
 | x::r,d,h=>by
  rw[Rows.uptoBulkAll];rcases List.mem_cons.1 h with rfl | h
  ·omega
  ·have:=Io h;omega
theorem Uo {H:Type}:∀(ds:List (DataW H)),ds.length≤Rows.uptoBulkAll ds
 | []=>Agn _
 | x::r=>by
  rw[Rows.uptoBulkAll];have:=Uo r;have:=Abe x;simp only[AfJ];omega
section
variable {P : Program} {e t : TypeId}
theorem Uv.toB {α:Type}{enc:α→List Rp}{ok:α→Bool}(h:Uv P e enc ok):Ee P e enc ok:=λhx _=>h hx
theorem Ee.int {k:IntKind}{enc:Int→List Rp}(ht:P.underlying e=some (.int k))(he:∀n,enc n=[rI k n]):Ee P e enc (Cb k):=Uv.toB (Uv.int ht he)
theorem Ee.bool {enc:Bool→List Rp}(ht:P.underlying e=some .bool)(he:∀n,enc n=[rB n]):Ee P e enc (λ_=>true):=Uv.toB (Uv.bool ht he)
theorem Ee.str {enc:Ai→List Rp}(ht:P.underlying e=some .string)(he:∀n,enc n=[rS n]):Ee P e enc LJ:=λh hb=>by
 obtain⟨s,rfl,hx,hl⟩:=DataW.trod_string ht h;subst hx;simp only[Rows.uptoBulk] at hb;exact⟨s.data.toList,AfI (by omega),by rw[he];exact⟨congrArg Value.string (AeX s),trivial⟩⟩
theorem Ee.slice {α:Type}[Inhabited α]{enc:α→List Rp}{ok:α→Bool}{sz:Nat}(ht:P.underlying t=some (.slice e))(hc:P.cellsOf e=sz)(hsz:0<sz)(h:Ee P e enc ok)(hlen:∀y,(enc y).length=sz){enc':List α→List Rp}(he:∀ys,enc' ys=[Br sz (ys.map enc)]) :
  Ee P t enc' (λys=>ys.all ok&&decide (ys.length≤1048576)):=fun {H encH W sp held n cs x} hx hB=>by
 rcases open_slice ht hx with⟨rfl,_⟩ | ⟨a,len,cap,m,n',D,Pl,rfl,hb,hl,hm,hmm,hxe,hel⟩
 ·exact⟨[],by simp,by rw[he];exact⟨SH.nil sz _,trivial⟩⟩
 ·have hlm:len≤m:=by rw[hmm];split<;>omega
  subst hxe;simp only[Rows.uptoBulk] at hB;have hlb:len≤1048576:=by
   have:=Uo ((List.range len).map D);rw[AfP,List.length_range] at this;omega
  have each:∀i,i<len→∃y:α,ok y=true∧∃cs',W.cells? 0 (a.add (i*sz)) sz=some cs'∧Bj (ZW W) (enc y) cs':=λi hi=>by
   obtain⟨cs',h1,h2⟩:=hel i (by omega);obtain⟨y,hy,hr⟩:=h h2 (by
    have:=Io (List.mem_map.2 ⟨i,List.mem_range.2 hi,rfl⟩:D i∈(List.range len).map D);show Rows.uptoBulk (D i)≤1048576;omega)
   rw[hc] at h1;exact⟨y,hy,cs',h1,hr⟩
  obtain⟨f,hf⟩:=choose_lt each;refine⟨(List.range len).map f,?_,?_⟩
  ·simp only[AfM,Ags,List.mem_map,List.mem_range,AfF];refine⟨?_,by simpa using hlb⟩;rintro _ ⟨i,hi,rfl⟩;exact(hf i hi).1
  ·rw[he];refine⟨⟨some a,cap,by simp,by simpa using hl,hm,(λh=>by cases h),λi c hi=>?_⟩,trivial⟩;rw[AgD,Agw] at hi;have hil:i<len:=by
    cases hq:(List.range len)[i]? with
    | none=>rw[hq] at hi;cases hi
    | some _=>have:=(List.getElem?_eq_some_iff.1 hq).1;simpa using this
   rw[List.getElem?_range hil] at hi;simp only[Option.map_some,Option.some.injEq,Function.comp] at hi;subst hi;obtain⟨_,cs',h1,hr⟩:=hf i hil;obtain⟨_,hcl,hcell⟩:=World.cells?_some h1;have hsp:a.spot=none:=by
    obtain⟨_,cs0,g1,_⟩:=hf 0 (by omega);obtain⟨_,gcl,gcell⟩:=World.cells?_some g1;have h0:=gcell 0 hsz;rw[AfN (by omega)] at h0;have:=(Lk h0).1;simpa[Addr.add] using this
   refine⟨hlen _,a,rfl,hsp,λj r hj=>?_⟩;obtain⟨u,hu,hp⟩:=hr.at hj;have hjs:j<sz:=by have:=(List.getElem?_eq_some_iff.1 hj).1;rw[hlen] at this;exact this
   have h3:=hcell j hjs;rw[hu] at h3;have h4:=(Lk h3).2;refine⟨u,?_,hp⟩;have e1:((a.add (i*sz)).add j).block=a.block:=by simp only[Addr.add];split<;>split<;>rfl
   have e2:((a.add (i*sz)).add j).off=a.off+(i*sz+j):=by simp only[Addr.add];split<;>split<;>simp_all<;>omega
   rw[e1,e2] at h4;exact h4
theorem C3 {H:Type}{xs:List (DataW H×List MemPlace)}{i:Nat}(hi:i<xs.length)(h:Rows.uptoBulk (DataW.agg (xs.map (·.1)))≤1048576):Rows.uptoBulk (xs[i]).1≤1048576:=by
 rw[Rows.uptoBulk] at h;have:=Io (List.mem_map.2 ⟨xs[i],List.getElem_mem hi,rfl⟩:(xs[i]).1∈xs.map (·.1));omega
theorem Ee.val {α:Type}{enc:α→List Rp}{ok:α→Bool}(h:Ee P e enc ok){r:α→Rp}(he:∀y,enc y=[r y]){H:Type}{encH:TypeId×Value→H}{W:World}{sp:Nat→Bool}{held:Bool}{v:Value}{d:DataW H}{ps:List MemPlace}
  (hone:v.cells = #[v]) (ht:DataW.Trod encH P W 0 sp held e v d ps) (hb:Rows.uptoBulk d≤1048576):∃y:α,ok y=true∧(r y).p (ZW W) v:=by
 obtain⟨fuel,hf⟩:=ht;rw[hone] at hf;obtain⟨y,hy,hr⟩:=h hf hb;rw[he] at hr;exact⟨y,hy,hr.1⟩
end
structure At {α:Type} (i:Nat) (l:List α) (e:α) (l':List α):Prop where
 go:l.Perm (e::l')
theorem AeS {α:Type}{e:α}{l:List α}:At 0 (e::l) e l:=⟨AfX _⟩
theorem AeR {α:Type}{i:Nat}{x e:α}{l l':List α}(h:At i l e l'):At (i+1) (x::l) e (x::l'):=⟨(h.go.cons x).trans (List.Perm.swap e x l')⟩
structure Pk {α:Type} (is:List Nat) (l l':List α):Prop where
 go:l.Perm l'
theorem Aez {α:Type}{l:List α}:Pk [] l l:=⟨AfX _⟩
theorem Aey {α:Type}{i:Nat}{r:List Nat}{l l1 l2:List α}{e:α}(h:At i l e l1)(t:Pk r l1 l2):Pk (i::r) l (e::l2):=⟨h.go.trans (t.go.cons e)⟩
structure Yy {α:Type} (i:Nat) (l:List α) (x:α) (l':List α):Prop where
 go:l.set i x=l'
theorem Adl {α:Type}{a x:α}{l:List α}:Yy 0 (a::l) x (x::l):=⟨rfl⟩
theorem Adk {α:Type}{i:Nat}{a x:α}{l l':List α}(h:Yy i l x l'):Yy (i+1) (a::l) x (a::l'):=⟨by rw[List.set_cons_succ,h.go]⟩
structure Yz {α:Type} (i:Nat) (rs l l':List α):Prop where
 go:l.take i++rs++l.drop (i+rs.length)=l'
theorem Afp {α:Type}{l:List α}:Yz 0 [] l l:=⟨by simp⟩
theorem Afo {α:Type}{r a:α}{rs l l':List α}(h:Yz 0 rs l l'):Yz 0 (r::rs) (a::l) (r::l'):=⟨by
 have:=h.go;simp only[List.take_zero,Agz,Agx] at this ⊢;rw[AfJ,List.drop_succ_cons,Ag2,this]⟩
theorem Afn {α:Type}{i:Nat}{a:α}{rs l l':List α}(h:Yz i rs l l'):Yz (i+1) rs (a::l) (a::l'):=⟨by
 have:=h.go;rw[List.take_succ_cons,show i+1+rs.length=(i+rs.length)+1 from by omega,List.drop_succ_cons,Ag2,Ag2,this]⟩
section
variable {P : Program} {n : Nat} {c : Cx} {ops opsA : Array Oper} {Q : Exit → Act → World → Prop} {rest : List Oper} {l l' : Fr} {H H' H2 Hr : List Ent} {x : Code} {K : Act → World → Prop} {d : Nat} {ty t e : TypeId} {pos : String} {af : Array Edge} {y z : Operand} {r : Rp} {sz : Nat}
theorem Gx (is:List Nat)(h:WK n c K l H2)(hp:Pk is H H2:=by repeat (first | exact Aez | apply Aey | exact AeS | apply AeR)):WK n c K l H:=Ab4 hp.go h
theorem Dn (is:List Nat){f:FuncId}{args:List Operand}{ats:Array TypeId}{rs:List Rp}{Hin:List Ent}{Φ:Rp→List Ent→Prop}(hcall:∀(as1:Array Value) (w:World),(callFunc f as1).run P w = .ok (.enter f as1) w)(hc:Fn P c.E f rs Hin Φ)
  (h:∀r Ho,Φ r Ho→WL P n c ops Q rest ((d,r)::l) (Ho++Hr)) (hv:Ol l args=some rs:=by rfl) (hp:Pk is H (Hin++Hr):=by repeat (first | exact Aez | apply Aey | exact AeS | apply AeR)) (hn:Nat.blt d n=true:=by rfl) :
  WL P n c ops Q ({ dst:=some d,op:=.call { callee:=.value (.func f),args:=args.toArray,argTypes:=ats },type:=ty,pos:=pos,after:=af,guard:=none }::rest) l H:=C8 hcall hv hp.go hc hn h
theorem GC (h:WC P n c x Q l' H')(hl:l=l':=by first | (dsimp only;done) | (dsimp only;exact rfl) | exact rfl)(hH:H=H':=by first | (dsimp only;done) | (dsimp only;exact rfl) | exact rfl):WC P n c x Q l H:=Aep hl hH h
theorem JZ (h:WK n c K l' H')(hl:l=l':=by first | (dsimp only;done) | (dsimp only;exact rfl) | exact rfl)(hH:H=H':=by first | (dsimp only;done) | (dsimp only;exact rfl) | exact rfl):WK n c K l H:=Aeo hl hH h
theorem us {i b off:Nat}{cs cs':List Rp}(hag:∀w,(sizeOf t).run P w = .ok 1 w)(hx:ev l z=some (rv (.pointer (some ⟨b,off,none⟩))))(hy:ev l y=some r)(hv:SF H r)(hi:H[i]? =some (.blk b cs e))(hlt:Nat.blt off cs.length=true)
  (h:WL P n c ops Q rest l H') (hcs:Yy off cs r cs':=by repeat (first | exact Adl | apply Adk)) (hH:Yy i H (.blk b cs' e) H':=by repeat (first | exact Adl | apply Adk)) :
  WL P n c ops Q ({ dst:=none,op:=.store t z y,type:=ty,pos:=pos,after:=af,guard:=none }::rest) l H:=RM hag hx hy hv hi hlt hcs.go hH.go h
theorem LZ {i b off:Nat}{cs cs' rs:List Rp}(hsz:∀w,(sizeOf t).run P w = .ok sz w)(hx:ev l z=some (rv (.pointer (some ⟨b,off,none⟩))))(hy:ev l y=some (BL rs))(hl:rs.length=sz)(hv:Cm H rs)(hi:H[i]? =some (.blk b cs e))(hlt:Nat.ble (off+sz) cs.length=true)
  (h:WL P n c ops Q rest l H') (hcs:Yz off rs cs cs':=by repeat (first | exact Afp | apply Afo | apply Afn)) (hH:Yy i H (.blk b cs' e) H':=by repeat (first | exact Adl | apply Adk)) :
  WL P n c ops Q ({ dst:=none,op:=.store t z y,type:=ty,pos:=pos,after:=af,guard:=none }::rest) l H:=Kj hsz hx hy hl hv hi hlt (by rw[← hl];exact hcs.go) hH.go h
def Wt (os:List Oper)(acc:List Rp)(t:Nat)(l0:Fr):List Nat→Fr
 | []=>l0
 | j::r=>match CW os j with
  | some d=>(d,acc.getD (t-1-j) (rv undef))::Wt os acc t l0 r
  | none=>Wt os acc t l0 r
def Uy:List Oper→List Rp→List Sp
 | o::os,r::rs=>⟨D6 o,r,1⟩::Uy os rs
 | _,_=>[]
theorem VI:∀{os:List Oper} {rs:List Rp},os.length=rs.length→(Uy os rs).length=os.length
 | [],[],_=>rfl
 | o::os,r::rs,h=>by rw[Uy,AfJ,AfJ,VI (by simpa using h)]
 | [],_::_,h=>by simp at h
 | _::_,[],h=>by simp at h
theorem UE:∀{os:List Oper} {rs:List Rp} {i:Nat} {o:Oper} {r:Rp},os[i]? =some o→rs[i]? =some r→(Uy os rs)[i]? =some ⟨D6 o,r,1⟩
 | o::os,r::rs,0,o',r',h1,h2=>by simp at h1 h2;subst h1;subst h2;rfl
 | o::os,r::rs,i+1,o',r',h1,h2=>by rw[Uy,List.getElem?_cons_succ];exact UE (by simpa using h1) (by simpa using h2)
 | [],_,i,_,_,h1,_=>by simp at h1
 | _::_,[],i,_,_,_,h2=>by simp at h2
def RdH (P:Program)(n:Nat)(c:Cx)(Q:Exit→Act→World→Prop)(os:List Oper)(l0:Fr)(H:List Ent)(acc:List Rp):Prop:=
 ∀(i:Nat) o r,os[i]? =some o→acc.reverse[i]? =some r→DY P n c os.toArray Q (Wt os (acc.drop (acc.length-i)) i l0 (D6 o)) H o r H
def W9 (P:Program)(n:Nat)(c:Cx)(Q:Exit→Act→World→Prop)(os:List Oper)(l0:Fr)(H:List Ent)(G:Prop)(t:Nat)(acc:List Rp)(rest:List Oper):Prop:=
 rest=os.drop t→t=acc.length→RdH P n c Q os l0 H acc→G
theorem RdH.cons {os:List Oper}{l0:Fr}{acc:List Rp}{o:Oper}{r:Rp}(h:RdH P n c Q os l0 H acc)(ho:os[acc.length]? =some o)(hr:DY P n c os.toArray Q (Wt os acc acc.length l0 (D6 o)) H o r H):RdH P n c Q os l0 H (r::acc):=λi o' r' h1 h2=>by
 rw[List.reverse_cons] at h2
 by_cases hi:i<acc.length
 ·rw[AgF (by simpa using hi)] at h2;have:=h i o' r' h1 h2;rw[AfJ,show acc.length+1-i=(acc.length-i)+1 from by omega,List.drop_succ_cons];exact this
 ·have hlt:=(List.getElem?_eq_some_iff.1 h2).1;simp at hlt;have e:i=acc.length:=by omega
  subst e;rw[AgI (by simp)] at h2;simp at h2;subst h2;rw[ho] at h1;obtain rfl:=Option.some.inj h1;rw[AfJ,show acc.length+1-acc.length=1 from by omega,List.drop_succ_cons,List.drop_zero];exact hr
theorem AaC {os:List Oper}{acc:List Rp}{l0:Fr}{i:Nat}(hl:acc.length=os.length)(hi:i≤acc.length):∀{js:List Nat},(∀j∈js,j<i)→Wt os (acc.drop (acc.length-i)) i l0 js=Ck os (Uy os acc.reverse) js l0
 | [],_=>rfl
 | j::js,h=>by
  have hj:=h j (by simp);have ih:=AaC (l0:=l0) hl hi (js:=js) λj' hj'=>h j' (by simp[hj']);unfold Wt Ck;have ho:os[j]? =some (os[j]'(by omega)):=AfN (by omega);have hr:acc.reverse[j]? =some (acc.reverse[j]'(by simp;omega)):=AfN (by simp;omega);have e:(acc.drop (acc.length-i)).getD (i-1-j) (rv undef)=(El (Uy os acc.reverse) j).r:=by
   unfold El;rw[AfO,AfO,UE ho hr,List.getElem?_drop,Agm];rw[AfN (by omega),Agm];show _=acc.reverse[j]'(by simp;omega);rw[List.getElem_reverse]
   congr 1
   omega
  rw[e,ih]
  cases CW os j<;>rfl
theorem D0 {id:Nat}{os:List Oper}{l0:Fr}(ks0:List Nat)(h:W9 P n c Q os l0 H (Kp ks0 l l0→WC P n c (.region id os.toArray true) Q l H) 0 [] os)(h0:Kp ks0 l l0:=by repeat (first | exact Qu | (apply Nr;rfl) | (apply Ok;rfl))):WC P n c (.region id os.toArray true) Q l H:=
 h (by simp) rfl (λi o r _ h2=>by simp at h2) h0
theorem Tp {os:List Oper}{l0:Fr}{G:Prop}{t:Nat}{acc:List Rp}{o:Oper}{r:Rp}{rest:List Oper}(hr:DY P n c os.toArray Q (Wt os acc t l0 (D6 o)) H o r H)(h:W9 P n c Q os l0 H G (t+1) (r::acc) rest):W9 P n c Q os l0 H G t acc (o::rest):=λh1 h2 h3=>by
 subst h2;have ho:os[acc.length]? =some o:=by have:=congrArg (·[0]?) h1;simp at this;exact this.symm
 exact h (by have:=congrArg List.tail h1;simpa using this) rfl (h3.cons ho hr)
section
variable {os : List Oper} {l0 : Fr} {G : Prop} {t : Nat} {acc : List Rp} {r : Rp} {rest : List Oper} {op : Op} {j dj : Nat} {want b : Bool} {dd : Option Nat}
theorem rq (hr:Bv P n c (Wt os acc t l0 (D6 { dst:=some d,op:=op,type:=ty,pos:=pos,after:=af,guard:=none })) H { dst:=some d,op:=op,type:=ty,pos:=pos,after:=af,guard:=none } r)(h:W9 P n c Q os l0 H G (t+1) (r::acc) rest) :
  W9 P n c Q os l0 H G t acc ({ dst:=some d,op:=op,type:=ty,pos:=pos,after:=af,guard:=none }::rest):=Tp (Es hr) h
theorem rg (hb:b=want)(hr:Bv P n c (Wt os acc t l0 (D6 { dst:=some d,op:=op,type:=ty,pos:=pos,after:=af,guard:=some (j,want) })) H { dst:=some d,op:=op,type:=ty,pos:=pos,after:=af,guard:=none } r)(h:W9 P n c Q os l0 H G (t+1) (r::acc) rest)
  (hj:DK os.toArray j=some dj:=by rfl) (hv:look (Wt os acc t l0 (D6 { dst:=some d,op:=op,type:=ty,pos:=pos,after:=af,guard:=some (j,want) })) dj=some (rB b):=by rfl) :
  W9 P n c Q os l0 H G t acc ({ dst:=some d,op:=op,type:=ty,pos:=pos,after:=af,guard:=some (j,want) }::rest):=Tp (QQ hj hv hb (Es hr)) h
theorem ro (hb:b=want)(hr:DY P n c os.toArray Q (Wt os acc t l0 (D6 { dst:=dd,op:=op,type:=ty,pos:=pos,after:=af,guard:=some (j,want) })) H { dst:=dd,op:=op,type:=ty,pos:=pos,after:=af,guard:=none } r H)(h:W9 P n c Q os l0 H G (t+1) (r::acc) rest)
  (hj:DK os.toArray j=some dj:=by rfl) (hv:look (Wt os acc t l0 (D6 { dst:=dd,op:=op,type:=ty,pos:=pos,after:=af,guard:=some (j,want) })) dj=some (rB b):=by rfl) :
  W9 P n c Q os l0 H G t acc ({ dst:=dd,op:=op,type:=ty,pos:=pos,after:=af,guard:=some (j,want) }::rest):=Tp (QQ hj hv hb hr) h
theorem rz (hb:b = !want)(h:W9 P n c Q os l0 H G (t+1) (rv undef::acc) rest)
  (hj:DK os.toArray j=some dj:=by rfl) (hv:look (Wt os acc t l0 (D6 { dst:=dd,op:=op,type:=ty,pos:=pos,after:=af,guard:=some (j,want) })) dj=some (rB b):=by rfl) :
  W9 P n c Q os l0 H G t acc ({ dst:=dd,op:=op,type:=ty,pos:=pos,after:=af,guard:=some (j,want) }::rest):=Tp (Adr hj hv hb) h
theorem ru (h:W9 P n c Q os l0 H G (t+1) (rv undef::acc) rest)
  (hj:DK os.toArray j=some dj:=by rfl) (hv:look (Wt os acc t l0 (D6 { dst:=dd,op:=op,type:=ty,pos:=pos,after:=af,guard:=some (j,want) })) dj=some (rv undef):=by rfl) :
  W9 P n c Q os l0 H G t acc ({ dst:=dd,op:=op,type:=ty,pos:=pos,after:=af,guard:=some (j,want) }::rest):=Tp (ZC hj hv) h
end
theorem re {id:Nat}{os:List Oper}{l0 l1:Fr}{ks0:List Nat}{t:Nat}{acc:List Rp}(ks:List Nat)(h:WK n c (Q .normal) l1 H)
  (hz:Kz ks os (Uy os acc.reverse) l0 l1:=by repeat (first | (apply Ad6;rfl) | (apply Ad8;rfl) | apply Ad7 | apply Ad9 | exact Qu | (apply Nr;rfl) | (apply Ok;rfl)))
  (hm:P.follows .mixedOrders=true:=by kernel_rfl) (hB:okB n os os.length (G5 l0) (os.map D6) (os.map λ_=>1)=true:=by kernel_rfl) (ht:t=os.length:=by rfl) :
  W9 P n c Q os l0 H (Kp ks0 l l0→WC P n c (.region id os.toArray true) Q l H) t acc []:=λ_ hl hob h0=>by
 have hlen:acc.length=os.length:=by omega
 have hsp:(Uy os acc.reverse).length=os.length:=VI (by simpa using hlen.symm);have key:∀{os:List Oper} {rs:List Rp},os.length=rs.length→(Uy os rs).map (·.deps)=os.map D6∧(Uy os rs).map (·.kd)=os.map λ_=>1:=by
  intro os
  induction os with
  | nil=>intro rs h;cases rs with
   | nil=>exact⟨rfl,rfl⟩
   | cons _ _=>simp at h
  | cons o os ih=>intro rs h;cases rs with
   | nil=>simp at h
   | cons r rs=>obtain⟨h1,h2⟩:=ih (rs:=rs) (by simpa using h);exact⟨by simp[Uy,h1],by simp[Uy,h2]⟩
 obtain⟨k1,k2⟩:=key (os:=os) (rs:=acc.reverse) (by simpa using hlen.symm);have hlt:∀(i:Nat) o,os[i]? =some o→∀j∈D6 o,j<i:=by
  have hB':=hB;unfold okB at hB';simp only[AfM] at hB';have h1:=hB'.1.1.1.1.1.1;intro i o ho j hj;have hi:=(List.getElem?_eq_some_iff.1 ho).1;have h2:=List.all_eq_true.1 h1 i (List.mem_range.2 hi);have e:os.getD i default=o:=by rw[AfO,ho];rfl
  rw[e] at h2;exact AfS (List.all_eq_true.1 h2 j hj)
 have hobl:∀(k:Nat) (rest:List Oper),rest=os.drop k→Q4 P n c os.toArray Q os (Uy os acc.reverse) l0 (List.replicate (os.length+1) H) k rest (List.replicate (rest.length+1) H):=by
  intro k rest
  induction rest generalizing k with
  | nil=>intro _;exact trivial
  | cons o rest ih=>
   intro hr;have ho:os[k]? =some o:=by have:=congrArg (·[0]?) hr;simp at this;exact this.symm
   have hk:=(List.getElem?_eq_some_iff.1 ho).1;have hrr:acc.reverse[k]? =some (acc.reverse[k]'(by simp;omega)):=AfN (by simp;omega);have hs:El (Uy os acc.reverse) k=⟨D6 o,acc.reverse[k]'(by simp;omega),1⟩:=by
    unfold El;rw[AfO,UE ho hrr];rfl
   have ih:=ih (k+1) (by have:=congrArg List.tail hr;simpa using this);have hop:=hob k o _ ho hrr;rw[AaC hlen (by omega) (hlt k o ho)] at hop;rw[AfJ,List.replicate_succ,List.replicate_succ];refine⟨?_,by rw[← List.replicate_succ];exact ih⟩;rw[hs];exact⟨rfl,hop⟩
 refine HQ (l0:=l0) (l1:=l1) ks0 (Uy os acc.reverse) (List.replicate (os.length+1) H) ks (hobl 0 os (by simp)) h h0 hz hm (by rw[k1,k2];exact hB) hsp (by simp) (by simp[AfO,List.getElem?_replicate])
end
open Go
def N3 (l:(List Int)):Option ((List Int)):=
 some l
def KB (l:(List Int))(c:Int):Option (Unit×(List Int)):=
 Bq (N3 l) λr1=>Bd (Dz 1 (r1.length+([c]:List Int).length))<|some ((),r1++([c]:List Int))
def IL (l:(List Int))(s:Ai):Option (Int×Unit×(List Int)):=
 Bq (N3 l) λr1=>Bd (Dz 1 (r1.length+s.length))<|some ((s.length:Int),(),r1++D7 s)
def PX (l:Ai):Option (Ai):=
 Bd (decide (0<(D7 l).length))<|some l
def N2 (l:(List Int)):Option ((List Int)):=
 some l
def KA (l:(List Int))(c:Int):Option (Unit×(List Int)):=
 Bq (N2 l) λr1=>Bd (Dz 1 (r1.length+([c]:List Int).length))<|some ((),r1++([c]:List Int))
def IK (l:(List Int))(s:Ai):Option (Int×Unit×(List Int)):=
 Bq (N2 l) λr1=>Bd (Dz 1 (r1.length+s.length))<|some ((s.length:Int),(),r1++D7 s)
def PW (l:Ai):Option (Ai):=
 Bd (decide (0<(D7 l).length))<|some l
set_option maxRecDepth 100000
set_option maxHeartbeats 4000000
theorem NT:∃inf,Tryz.prog.info? 5=some inf∧inf.zero=some (.int .u8 0)∧inf.size=1∧inf.bytes=1:=by
  have key:(Tryz.prog.info? 5).map (λi=>(i.zero,i.size,i.bytes))=some (some (.int .u8 0),1,1):=by kernel_rfl
  obtain⟨inf,h1,h2⟩:=Option.map_eq_some_iff.1 key;simp only[Prod.mk.injEq] at h2;exact⟨inf,h1,h2.1,h2.2.1,h2.2.2⟩
theorem TR:∃j,Tryz.prog.info? 146=some j∧j.size≠0:=by
  have key:(Tryz.prog.info? 146).map (λi=>i.size)=some 2:=by kernel_rfl
  obtain⟨j,h1,h2⟩:=Option.map_eq_some_iff.1 key;exact⟨j,h1,by rw[h2];decide⟩
theorem TS:∃j,Tryz.prog.info? 146=some j:=TR.imp λ_ h=>h.1
theorem Ut (ha:Nat)(hb:Value)(l:(List Int))(r:(List Int))(h:N3 l=some r):Fn Tryz.prog GE 174 [rP ha 0] [.blk ha [rv (.pointer none),rv hb] 146,.row hb 5 1 (AH BN l)] (λR H=>∃w0:Value,R=rv (.tuple #[])∧H=[.blk ha [rP ha 0,rv w0] 146,.row w0 5 1 (AH BN r)]):=by
 refine enter (n:=20) Tryz.func174 Aa Tryz.ntmps174 Aa (λw Z=>?_);unfold N3 at h;refine Am (wm Aa (wv (A6 Aa) (vF Hq Aa SO (vL 0 Gf Aa (wv (r:=rB true) (ZL ⟨_,SM⟩ Aa) (Aw (DE Aa Aa (An (wm Aa (wm Aa (wv (r:=rP ha 0) (Ty (i:=0) SM Tryz.underlying227 TR Aa Aa Aa) (AF (r:=rP ha 0) (AbX Tryz.func197 (by kernel_rfl) (by kernel_rfl) (by kernel_rfl) (by kernel_rfl) Aa) Aa (wv (r:=rP ha 0) (Qn (i:=0) Tryz.underlying227 SM TS Aa Aa (by kernel_rfl)) (wv (A6 Aa) (vF Hq Aa SO (us (i:=0) SO Aa Aa (B5 Aa) Aa Aa ?_))))))))))))))));refine As ?_;obtain rfl:=A7 h;exact HP (Xk Tryz.results174) (sC (sC sN)) ⟨hb,Aa,Aa⟩
theorem Q3 (ha:Nat)(hb:Value)(l:(List Int))(c:Int)(r:Unit×(List Int))(h:KB l c=some r):Fn Tryz.prog GE 144 [rP ha 0,rI .u8 c] [.blk ha [rv (.pointer none),rv hb] 146,.row hb 5 1 (AH BN l)] (λR H=>∃w0:Value,R=rv (.nilIface)∧H=[.blk ha [rP ha 0,rv w0] 146,.row w0 5 1 (AH BN r.2)]):=by
 refine enter (n:=17) Tryz.func144 Aa Tryz.ntmps144 Aa (λw Z=>?_);unfold KB at h;refine Am (wa Aa (B0 (wm Aa (ob h λr1 e3 h2=>Dn [0,0] Tryz.call174 (Ut ha hb l r1 e3) ?_))));rintro _ _ ⟨v4,rfl,rfl⟩;refine B0 (wm Aa (wm Aa (wv (A6 Aa) (vF Hq Aa Ht (vL 0 N7 Aa (wm Aa (Bf (ys:=([c]:List Int)) (enc:=BN) (css:=[[rI .u8 c]]) (xs:=[.tmp 12]) EF ys5 yz5 Aa Aa Aa ⟨E4.one Aa (Up.refl _),trivial⟩ Aa Ej Aa Aa Aa (λb5=>?_))))))));refine ck h2 λg7 h8=>Exists.elim NT λinf hinf=>Cc (xs:=r1) (ys:=([c]:List Int)) (enc:=BN) (i:=2) EF hinf.1 hinf.2.1 hinf.2.2.1 hinf.2.2.2 Aa Aa Aa Aa Aa (JG.w (i:=0) Aa Aa) Ej Lj g7 Aa (λv6=>?_);refine wv (A6 Aa) (vF Hq Aa Ht (us (i:=2) Ht Aa Aa (C2 (i:=0) Aa) Aa Aa ?_));refine B0 (wa Aa (Aw (A4 (Gx [2] ?_))));obtain rfl:=A7 h8;exact A3 (Ch Tryz.results144 (AR Aa)) (sC (sC (sS sN))) ⟨v6,Aa,Aa⟩
theorem Oo (ha:Nat)(hb:Value)(l:(List Int))(s:Ai)(r:Int×Unit×(List Int))(h:IL l s=some r):Fn Tryz.prog GE 142 [rP ha 0,rS s] [.blk ha [rv (.pointer none),rv hb] 146,.row hb 5 1 (AH BN l)] (λR H=>∃w0:Value,R=CZ [AD r.1,rv (.nilIface)]∧H=[.blk ha [rP ha 0,rv w0] 146,.row w0 5 1 (AH BN r.2.2)]):=by
 refine enter (n:=19) Tryz.func142 Aa Tryz.ntmps142 Aa (λw Z=>?_);unfold IL at h;refine Am (wa Aa (wa Aa (B0 (wm Aa (ob h λr1 e3 h2=>Dn [0,0] Tryz.call174 (Ut ha hb l r1 e3) ?_)))));rintro _ _ ⟨v4,rfl,rfl⟩;refine B0 (wm Aa (wm Aa (wv (A6 Aa) (vF Hq Aa Ht (vL 0 N7 Aa (wm Aa (ck h2 λg6 h7=>Exists.elim NT λinf hinf=>H0 (xs:=r1) (i:=1) EF CT hinf.1 hinf.2.1 hinf.2.2.1 hinf.2.2.2 Aa Aa Aa g6 Aa (λv5=>?_))))))));refine wv (A6 Aa) (vF Hq Aa Ht (us (i:=1) Ht Aa Aa (C2 (i:=0) Aa) Aa Aa ?_));refine B0 (wm Aa (wv (BF CT Aa) (wa Aa (wa Aa (Aw (A4 (Gx [1] ?_)))))));obtain rfl:=A7 h7;exact A3 (E3 Tryz.results142 (AR Aa) (AR Aa)) (sC (sC sN)) ⟨v5,Aa,Aa⟩
theorem Vv (ha:Nat)(hb:Value)(l:Ai)(r:Ai)(h:PX l=some r):Fn Tryz.prog GE 111 [rP ha 0] [.blk ha [rv (.pointer none),rv hb] 146,.row hb 5 1 (AH BN (D7 l))] (λR H=>R=rS r∧H=[]):=by
 refine enter (n:=14) Tryz.func111 Aa Tryz.ntmps111 Aa (λw Z=>?_);unfold PX at h;refine Am (wv (r:=rS ([]:Ai)) (AA Aa) (Aw (Ao (ck h λg1 h2=>HQ (H1:=[.blk ha [rv (.pointer none),rv hb] 146]) [0] [⟨[],rP ha 0,0⟩,⟨[0],rP ha 0,0⟩,⟨[1],rP ha 1,0⟩,⟨[2],rv hb,1⟩,⟨[3],rv (slp hb),1⟩,⟨[],rP ha 0,0⟩,⟨[5],rP ha 0,0⟩,⟨[6],rP ha 1,0⟩,⟨[7],rv hb,1⟩,⟨[8],AD ((D7 l).length:Int),1⟩,⟨[4,9],rS l,2⟩,⟨[10],rS l,0⟩] (rle [(11,_),(2,[.blk ha [rv (.pointer none),rv hb] 146])]) [2] ?_ ?_))))
 ·refine oq (Aj Aa) (oq (A6 Aa) (oq (Au Hq Aa Ht Aa Aa) (of (AM (i:=0) N7 Aa Aa Aa) (of (NN (i:=1) Aa Aa (Oy g1)) (oq (Aj Aa) (oq (A6 Aa) (oq (Au Hq Aa Ht Aa Aa) (of (AM (i:=0) N7 Aa Aa Aa) (of (Ca (ys:=D7 l) (enc:=BN) (i:=1) EF Aa Aa) (Kq Aa (Ae2 (KC (i:=1) Tryz.underlying185 (by kernel_rfl) Aa Aa Aa (Oy g1) Aa)) ?_))))))))));refine oq (AA Aa) ?_;exact Hu
 refine AX (A4 ?_);obtain rfl:=A7 h2;exact A3 (Ch Tryz.results111 (AR Aa)) (sS sN) ⟨Aa,Aa⟩
theorem Us (ha:Nat)(hb:Value)(l:(List Int))(r:(List Int))(h:N2 l=some r):Fn Tryz.prog GE 174 [rP ha 0] [.blk ha [rP ha 0,rv hb] 146,.row hb 5 1 (AH BN l)] (λR H=>∃w0:Value,R=rv (.tuple #[])∧H=[.blk ha [rP ha 0,rv w0] 146,.row w0 5 1 (AH BN r)]):=by
 refine enter (n:=20) Tryz.func174 Aa Tryz.ntmps174 Aa (λw Z=>?_);unfold N2 at h;refine Am (wm Aa (wv (A6 Aa) (vF Hq Aa SO (vL 0 Gf Aa (wv (r:=rB false) (Adw ⟨_,SM⟩ Aa) (Aw (D9 Aa Aa (Am (wm Aa (wv (A6 Aa) (vF Hq Aa SO (vL 0 Gf Aa (wm Aa (wv (r:=rB false) (UO SM TS Aa Aa) (Aw (D9 Aa Aa (A0 ?_)))))))))))))))));obtain rfl:=A7 h;exact HP (Xk Tryz.results174) (sC (sC sN)) ⟨hb,Aa,Aa⟩
theorem Q2 (ha:Nat)(hb:Value)(l:(List Int))(c:Int)(r:Unit×(List Int))(h:KA l c=some r):Fn Tryz.prog GE 144 [rP ha 0,rI .u8 c] [.blk ha [rP ha 0,rv hb] 146,.row hb 5 1 (AH BN l)] (λR H=>∃w0:Value,R=rv (.nilIface)∧H=[.blk ha [rP ha 0,rv w0] 146,.row w0 5 1 (AH BN r.2)]):=by
 refine enter (n:=17) Tryz.func144 Aa Tryz.ntmps144 Aa (λw Z=>?_);unfold KA at h;refine Am (wa Aa (B0 (wm Aa (ob h λr1 e3 h2=>Dn [0,0] Tryz.call174 (Us ha hb l r1 e3) ?_))));rintro _ _ ⟨v4,rfl,rfl⟩;refine B0 (wm Aa (wm Aa (wv (A6 Aa) (vF Hq Aa Ht (vL 0 N7 Aa (wm Aa (Bf (ys:=([c]:List Int)) (enc:=BN) (css:=[[rI .u8 c]]) (xs:=[.tmp 12]) EF ys5 yz5 Aa Aa Aa ⟨E4.one Aa (Up.refl _),trivial⟩ Aa Ej Aa Aa Aa (λb5=>?_))))))));refine ck h2 λg7 h8=>Exists.elim NT λinf hinf=>Cc (xs:=r1) (ys:=([c]:List Int)) (enc:=BN) (i:=2) EF hinf.1 hinf.2.1 hinf.2.2.1 hinf.2.2.2 Aa Aa Aa Aa Aa (JG.w (i:=0) Aa Aa) Ej Lj g7 Aa (λv6=>?_);refine wv (A6 Aa) (vF Hq Aa Ht (us (i:=2) Ht Aa Aa (C2 (i:=0) Aa) Aa Aa ?_));refine B0 (wa Aa (Aw (A4 (Gx [2] ?_))));obtain rfl:=A7 h8;exact A3 (Ch Tryz.results144 (AR Aa)) (sC (sC (sS sN))) ⟨v6,Aa,Aa⟩
theorem On (ha:Nat)(hb:Value)(l:(List Int))(s:Ai)(r:Int×Unit×(List Int))(h:IK l s=some r):Fn Tryz.prog GE 142 [rP ha 0,rS s] [.blk ha [rP ha 0,rv hb] 146,.row hb 5 1 (AH BN l)] (λR H=>∃w0:Value,R=CZ [AD r.1,rv (.nilIface)]∧H=[.blk ha [rP ha 0,rv w0] 146,.row w0 5 1 (AH BN r.2.2)]):=by
 refine enter (n:=19) Tryz.func142 Aa Tryz.ntmps142 Aa (λw Z=>?_);unfold IK at h;refine Am (wa Aa (wa Aa (B0 (wm Aa (ob h λr1 e3 h2=>Dn [0,0] Tryz.call174 (Us ha hb l r1 e3) ?_)))));rintro _ _ ⟨v4,rfl,rfl⟩;refine B0 (wm Aa (wm Aa (wv (A6 Aa) (vF Hq Aa Ht (vL 0 N7 Aa (wm Aa (ck h2 λg6 h7=>Exists.elim NT λinf hinf=>H0 (xs:=r1) (i:=1) EF CT hinf.1 hinf.2.1 hinf.2.2.1 hinf.2.2.2 Aa Aa Aa g6 Aa (λv5=>?_))))))));refine wv (A6 Aa) (vF Hq Aa Ht (us (i:=1) Ht Aa Aa (C2 (i:=0) Aa) Aa Aa ?_));refine B0 (wm Aa (wv (BF CT Aa) (wa Aa (wa Aa (Aw (A4 (Gx [1] ?_)))))));obtain rfl:=A7 h7;exact A3 (E3 Tryz.results142 (AR Aa) (AR Aa)) (sC (sC sN)) ⟨v5,Aa,Aa⟩
theorem Vu (ha:Nat)(hb:Value)(l:Ai)(r:Ai)(h:PW l=some r):Fn Tryz.prog GE 111 [rP ha 0] [.blk ha [rP ha 0,rv hb] 146,.row hb 5 1 (AH BN (D7 l))] (λR H=>R=rS r∧H=[]):=by
 refine enter (n:=14) Tryz.func111 Aa Tryz.ntmps111 Aa (λw Z=>?_);unfold PW at h;refine Am (wv (r:=rS ([]:Ai)) (AA Aa) (Aw (Ao (ck h λg1 h2=>HQ (H1:=[.blk ha [rP ha 0,rv hb] 146]) [0] [⟨[],rP ha 0,0⟩,⟨[0],rP ha 0,0⟩,⟨[1],rP ha 1,0⟩,⟨[2],rv hb,1⟩,⟨[3],rv (slp hb),1⟩,⟨[],rP ha 0,0⟩,⟨[5],rP ha 0,0⟩,⟨[6],rP ha 1,0⟩,⟨[7],rv hb,1⟩,⟨[8],AD ((D7 l).length:Int),1⟩,⟨[4,9],rS l,2⟩,⟨[10],rS l,0⟩] (rle [(11,_),(2,[.blk ha [rP ha 0,rv hb] 146])]) [2] ?_ ?_))))
 ·refine oq (Aj Aa) (oq (A6 Aa) (oq (Au Hq Aa Ht Aa Aa) (of (AM (i:=0) N7 Aa Aa Aa) (of (NN (i:=1) Aa Aa (Oy g1)) (oq (Aj Aa) (oq (A6 Aa) (oq (Au Hq Aa Ht Aa Aa) (of (AM (i:=0) N7 Aa Aa Aa) (of (Ca (ys:=D7 l) (enc:=BN) (i:=1) EF Aa Aa) (Kq Aa (Ae2 (KC (i:=1) Tryz.underlying185 (by kernel_rfl) Aa Aa Aa (Oy g1) Aa)) ?_))))))))));refine oq (AA Aa) ?_;exact Hu
 refine AX (A4 ?_);obtain rfl:=A7 h2;exact A3 (Ch Tryz.results111 (AR Aa)) (sS sN) ⟨Aa,Aa⟩
theorem CP (b:Nat)(v:Value)(l:Ai)(c:Int)(g1:Dz 1 (l.length+1)=true)(g2:Cb .u8 c=true):Fn Tryz.prog GE 144 [rP b 0,rI .u8 c] [.bld 146 5 b v l] (λR H=>∃w0:Value,R=rv .nilIface∧H=[.bld 146 5 b w0 (l++[UInt8.ofNat c.toNat])]):=by
  have hc:D7 (l++[UInt8.ofNat c.toNat])=D7 l++[c]:=by
    have:=(by simpa[Cb,IntKind.min,IntKind.max,IntKind.signed,IntKind.bits] using g2:0≤c∧c≤255)
    simp only[D7,Ag8,Ag3,List.map_nil]
    congr 2
    simp;omega
  refine Fn.bld (res:=rv .nilIface) λp hp=>?_;rw[hc];rcases hp with rfl | rfl
  · refine(Q3 b v (D7 l) c (((),D7 l++[c])) ?_).sub (Ip.refl _) (λr H h=>by obtain⟨w0,h1,h2⟩:=h;exact⟨w0,h1,h2⟩)
    simp only[KB,N3,Bq,Dl];simp[Bd,g1]
  · refine(Q2 b v (D7 l) c (((),D7 l++[c])) ?_).sub (Ip.refl _) (λr H h=>by obtain⟨w0,h1,h2⟩:=h;exact⟨w0,h1,h2⟩)
    simp only[KA,N2,Bq,Dl];simp[Bd,g1]
theorem IF (b:Nat)(v:Value)(l s:Ai)(g1:Dz 1 (l.length+s.length)=true):Fn Tryz.prog GE 142 [rP b 0,rS s] [.bld 146 5 b v l] (λR H=>∃w0:Value,R=CZ [AD (s.length:Int),rv .nilIface]∧H=[.bld 146 5 b w0 (l++s)]):=by
  have hc:D7 (l++s)=D7 l++D7 s:=by simp[D7]
  refine Fn.bld (res:=CZ [AD (s.length:Int),rv .nilIface]) λp hp=>?_;rw[hc];rcases hp with rfl | rfl
  · refine(Oo b v (D7 l) s (((s.length:Int),(),D7 l++D7 s)) ?_).sub (Ip.refl _) (λr H h=>by obtain⟨w0,h1,h2⟩:=h;exact⟨w0,h1,h2⟩)
    simp only[IL,N3,Bq,Dl];simp[Bd,g1]
  · refine(On b v (D7 l) s (((s.length:Int),(),D7 l++D7 s)) ?_).sub (Ip.refl _) (λr H h=>by obtain⟨w0,h1,h2⟩:=h;exact⟨w0,h1,h2⟩)
    simp only[IK,N2,Bq,Dl];simp[Bd,g1]
theorem Yo (b:Nat)(v:Value)(l:Ai)(g1:decide (0<l.length)=true):Fn Tryz.prog GE 111 [rP b 0] [.bld 146 5 b v l] (λR H=>R=rS l∧H=[]):=by
  refine Fn.bldS (res:=rS l) λp hp=>?_;rcases hp with rfl | rfl
  · exact Vv b v l l (by simp only[PX,Dl];simp[Bd,g1])
  · exact Vu b v l l (by simp only[PW,Dl];simp[Bd,g1])
end Go.Proofs.YtfobhhegpkinaaaGreatDoor.Q
namespace Go.Proofs.YtfobhhegpkinaaaGreatDoor
open Go
set_option linter.unusedVariables false
structure Ab where
 fKind:Int
 fInt:Int
 fStr:Ai
 fN:Int
 deriving DecidableEq,Inhabited
def Xn (s:Ai)(ha:Int):Option (Stp (Int) (Out (Bool) (Unit))):=
 Bw (decide (ha<(s.length:Int))) (Bd (CY ha (s.length:Int))<|Bw (((decide ((B8 s ha)<32))||(decide (126<(B8 s ha))))) (some (.out (.ret false))) (Bd (Cb .i64 (ha+1))<|some (.next (ha+1)))) (some (.out (.go ())))
def Xl :Option (Bool):=
 some true
def RY (F:Nat)(s:Ai):Option (Bool):=
 Bq (Ci (λσ=>Xn s σ) F 0) (BO λν=>Xl )
def D1 (ok:Bool)(i:Int):Option (Int):=
 Bw (ok) (Bd (Cb .i64 (i+1))<|some (i+1)) (some (-1))
def Zu (F:Nat)(c:Ab):Option (Bool):=
 Bd (imp (decide (c.fKind=4)) (imp (decide (c.fInt=0)) (imp (decide (c.fN=0)) ((RY F c.fStr).isSome))))<|some ((decide (c.fKind=4))&&((decide (c.fInt=0))&&((decide (c.fN=0))&&(ov (RY F c.fStr)))))
def Zs (F:Nat)(ha:(List Ab)→Int→Int→Option (Int))(hb:(List Ab)→Int→Int→Option (Int))(v:(List Ab))(i:Int):Option (Int):=
 Bw (((decide (i<0))||(decide ((v.length:Int)≤i)))) (some (-1)) (Bd (CY i (v.length:Int))<|Bw (decide (((Aq v i).fKind)=1)) (Bd (imp (decide (((Aq v i).fInt)=0)) (imp (decide (((Aq v i).fStr)=([]:Ai))) ((D1 (decide (((Aq v i).fN)=0)) i).isSome)))<|Bd (imp (decide (((Aq v i).fInt)=0)) (imp (!(decide (((Aq v i).fStr)=([]:Ai)))) ((D1 false i).isSome)))<|Bd (imp (!(decide (((Aq v i).fInt)=0))) ((D1 false i).isSome))<|some (bif decide (((Aq v i).fInt)=0) then(bif decide (((Aq v i).fStr)=([]:Ai)) then(ov (D1 (decide (((Aq v i).fN)=0)) i)) else(ov (D1 false i))) else(ov (D1 false i)))) (Bw (decide (((Aq v i).fKind)=2)) (Bd (imp (decide (((Aq v i).fInt)=0)) (imp (decide (((Aq v i).fStr)=([]:Ai))) ((D1 (decide (((Aq v i).fN)=0)) i).isSome)))<|Bd (imp (decide (((Aq v i).fInt)=0)) (imp (!(decide (((Aq v i).fStr)=([]:Ai)))) ((D1 false i).isSome)))<|Bd (imp (!(decide (((Aq v i).fInt)=0))) (imp (decide (((Aq v i).fInt)=1)) (imp (decide (((Aq v i).fStr)=([]:Ai))) ((D1 (decide (((Aq v i).fN)=0)) i).isSome))))<|Bd (imp (!(decide (((Aq v i).fInt)=0))) (imp (decide (((Aq v i).fInt)=1)) (imp (!(decide (((Aq v i).fStr)=([]:Ai)))) ((D1 false i).isSome))))<|Bd (imp (!(decide (((Aq v i).fInt)=0))) (imp (!(decide (((Aq v i).fInt)=1))) ((D1 false i).isSome)))<|some (bif decide (((Aq v i).fInt)=0) then(bif decide (((Aq v i).fStr)=([]:Ai)) then(ov (D1 (decide (((Aq v i).fN)=0)) i)) else(ov (D1 false i))) else(bif decide (((Aq v i).fInt)=1) then(bif decide (((Aq v i).fStr)=([]:Ai)) then(ov (D1 (decide (((Aq v i).fN)=0)) i)) else(ov (D1 false i))) else(ov (D1 false i))))) (Bw (decide (((Aq v i).fKind)=3)) (Bd (imp (decide (((Aq v i).fStr)=([]:Ai))) ((D1 (decide (((Aq v i).fN)=0)) i).isSome))<|Bd (imp (!(decide (((Aq v i).fStr)=([]:Ai)))) ((D1 false i).isSome))<|some (bif decide (((Aq v i).fStr)=([]:Ai)) then(ov (D1 (decide (((Aq v i).fN)=0)) i)) else(ov (D1 false i)))) (Bw (decide (((Aq v i).fKind)=4)) (Bq (Zu F (Aq v i)) λhd=>Bq (D1 hd i) λhe=>some he) (Bw (((decide (((Aq v i).fKind)=5))&&((decide (((Aq v i).fInt)=0))&&((decide (((Aq v i).fStr)=([]:Ai)))&&(decide (0≤((Aq v i).fN))))))) (Bd (Cb .i64 (i+1))<|Bq (ha v (i+1) ((Aq v i).fN)) λhf=>some hf) (Bw (((decide (((Aq v i).fKind)=6))&&((decide (((Aq v i).fInt)=0))&&((decide (((Aq v i).fStr)=([]:Ai)))&&(decide (0≤((Aq v i).fN))))))) (Bd (Cb .i64 (i+1))<|Bq (hb v (i+1) ((Aq v i).fN)) λhg=>some hg) (some (-1))))))))
def E5 (v:(List Ab))(n:Int)(he:(List Ab)→Int→Option (Int))(hb:Int)(ha:Int):Option (Stp (Int×Int) (Out (Int) (Int))):=
 Bw (decide (ha<n)) (Bq (he v hb) λhd=>Bw (decide (hd<0)) (some (.out (.ret (-1)))) (Bd (Cb .i64 (ha+1))<|some (.next (hd,ha+1)))) (some (.out (.go hb)))
def Jz (ha:Int):Option (Int):=
 some ha
def Pf (F:Nat)(ha:(List Ab)→Int→Option (Int))(v:(List Ab))(i:Int)(n:Int):Option (Int):=
 Bq (Ci (λσ=>E5 v n ha σ.1 σ.2) F (i,0)) (BO λν=>Jz ν)
def Gh (F:Nat)(v:(List Ab))(n:Int)(hf:(List Ab)→Int→Option (Int))(ha:Int)(hd:Ai)(hb:Int):Option (Stp (Int×Ai×Int) (Out (Int) (Int))):=
 Bw (decide (hb<n)) (Bd (imp (!(decide ((v.length:Int)≤ha))) (CY ha (v.length:Int)))<|Bd (imp (!(decide ((v.length:Int)≤ha))) ((Zu F (Aq v ha)).isSome))<|Bw (((decide ((v.length:Int)≤ha))||((!(ov (Zu F (Aq v ha))))||((decide (0<hb))&&(Cz ((Aq v ha).fStr) hd||decide (((Aq v ha).fStr)=hd)))))) (some (.out (.ret (-1)))) (Bd (CY ha (v.length:Int))<|Bd (Cb .i64 (ha+1))<|Bq (hf v (ha+1)) λhe=>Bw (decide (he<0)) (some (.out (.ret (-1)))) (Bd (Cb .i64 (hb+1))<|some (.next (he,(Aq v ha).fStr,hb+1))))) (some (.out (.go ha)))
def Na (ha:Int):Option (Int):=
 some ha
def VO (F:Nat)(ha:(List Ab)→Int→Option (Int))(v:(List Ab))(i:Int)(n:Int):Option (Int):=
 Bq (Ci (λσ=>Gh F v n ha σ.1 σ.2.1 σ.2.2) F (i,([]:Ai),0)) (BO λν=>Na ν)
mutual
def QO:Nat→(List Ab)→Int→Option (Int)
 | 0,_,_=>none
 | nn+1,v,i=>Zs nn (QP nn) (Zr nn) v i
def QP:Nat→(List Ab)→Int→Int→Option (Int)
 | 0,_,_,_=>none
 | nn+1,v,i,n=>Pf nn (QO nn) v i n
def Zr:Nat→(List Ab)→Int→Int→Option (Int)
 | 0,_,_,_=>none
 | nn+1,v,i,n=>VO nn (QO nn) v i n
end
end Go.Proofs.YtfobhhegpkinaaaGreatDoor
namespace Go.Proofs.YtfobhhegpkinaaaGreatDoor.Q
open Go Go.RowKit
set_option linter.unusedVariables false
set_option linter.unusedSimpArgs false
set_option maxRecDepth 100000
set_option maxHeartbeats 4000000
@[reducible] def Ah (x:Ab):List Rp:=[AD x.fKind,AD x.fInt,rS x.fStr,AD x.fN]
theorem B7 (x:Ab):(Ah x).length=4:=rfl
theorem Df (x:Ab):(Ah x).all (·.one)=true:=rfl
end Go.Proofs.YtfobhhegpkinaaaGreatDoor.Q
namespace Go.Proofs.YtfobhhegpkinaaaGreatDoor
open Go
set_option linter.unusedVariables false
structure AI where
 fPairs:Bool
 fLeft:Int
 fKey:Bool
 fLast:Ai
 fStarted:Bool
 deriving DecidableEq,Inhabited
structure AT where
 fDepth:Int
 fBytes:Int
 fOutside:Bool
 fLong:Bool
 deriving DecidableEq,Inhabited
def Co (n:Int):Option (Bool):=
 some ((decide ((-1000000000000)≤n))&&(decide (n≤1000000000000)))
def IQ (s:Ai)(ha:Int):Option (Stp (Int) (Out (Bool) (Unit))):=
 Bw (decide (ha<(s.length:Int))) (Bd (CY ha (s.length:Int))<|Bw (((decide ((B8 s ha)<32))||(decide (126<(B8 s ha))))) (some (.out (.ret false))) (Bd (Cb .i64 (ha+1))<|some (.next (ha+1)))) (some (.out (.go ())))
def IP :Option (Bool):=
 some true
def Mf (F:Nat)(s:Ai):Option (Bool):=
 Bq (Ci (λσ=>IQ s σ) F 0) (BO λν=>IP )
def KO (s:Ai):Option (Int):=
 Bd (Cb .i64 ((s.length:Int)+2))<|Bd (Cb .i64 (((s.length:Int)+2)+(Lib.countByte s 34:Int)))<|Bd (Cb .i64 ((((s.length:Int)+2)+(Lib.countByte s 34:Int))+(Lib.countByte s 92:Int)))<|some ((((s.length:Int)+2)+(Lib.countByte s 34:Int))+(Lib.countByte s 92:Int))
def OT (F:Nat)(c:Ab):Option (Bool):=
 Bw (decide (c.fKind=1)) (some ((decide (c.fInt=0))&&((decide (c.fStr=([]:Ai)))&&(decide (c.fN=0))))) (Bw (decide (c.fKind=2)) (some (bif decide (c.fInt=0) then((decide (c.fStr=([]:Ai)))&&(decide (c.fN=0))) else((decide (c.fInt=1))&&((decide (c.fStr=([]:Ai)))&&(decide (c.fN=0)))))) (Bw (decide (c.fKind=3)) (some ((decide (c.fStr=([]:Ai)))&&(decide (c.fN=0)))) (Bw (decide (c.fKind=4)) (Bd (imp (decide (c.fInt=0)) (imp (decide (c.fN=0)) ((Mf F c.fStr).isSome)))<|some ((decide (c.fInt=0))&&((decide (c.fN=0))&&(ov (Mf F c.fStr))))) (Bw (decide (c.fKind=5)) (some ((decide (c.fInt=0))&&((decide (c.fStr=([]:Ai)))&&(decide (0≤c.fN))))) (Bw (decide (c.fKind=6)) (some ((decide (c.fInt=0))&&((decide (c.fStr=([]:Ai)))&&(decide (0≤c.fN))))) (some false))))))
def SX (c:Ab):Option (Int):=
 Bw (decide (c.fKind=1)) (some 4) (Bw (decide (c.fKind=2)) (some (IntKind.wrap .i64 (5-c.fInt))) (Bw (decide (c.fKind=3)) (Bd (Cb .i64 c.fInt)<|some ((Lib.itoa c.fInt).length:Int)) (Bw (decide (c.fKind=4)) (Bq (KO c.fStr) λha=>some ha) (some (IntKind.wrap .i64 (2+(max 0 (IntKind.wrap .i64 (c.fN-1)))))))))
def Er (ha:(List AI)):Option (Stp ((List AI)) (Out ((List AI)) ((List AI)))):=
 Bw (decide (0<(ha.length:Int))) (Bd (Cb .i64 ((ha.length:Int)-1))<|Bd (CY ((ha.length:Int)-1) (ha.length:Int))<|Bd (Cb .i64 (((Aq ha ((ha.length:Int)-1)).fLeft)-1))<|Ma (List.set ha (Int.toNat ((ha.length:Int)-1)) (AI.mk ((Aq ha ((ha.length:Int)-1)).fPairs) (((Aq ha ((ha.length:Int)-1)).fLeft)-1) ((Aq ha ((ha.length:Int)-1)).fKey) ((Aq ha ((ha.length:Int)-1)).fLast) ((Aq ha ((ha.length:Int)-1)).fStarted))) λhb=>Bw (decide (0<((Aq hb ((ha.length:Int)-1)).fLeft))) (Ma (List.set hb (Int.toNat ((ha.length:Int)-1)) (AI.mk ((Aq hb ((ha.length:Int)-1)).fPairs) ((Aq hb ((ha.length:Int)-1)).fLeft) ((Aq hb ((ha.length:Int)-1)).fPairs) ((Aq hb ((ha.length:Int)-1)).fLast) ((Aq hb ((ha.length:Int)-1)).fStarted))) λhd=>some (.out (.ret hd))) (Bd (Cb .i64 ((hb.length:Int)-1))<|Bd (Gs ((hb.length:Int)-1) (hb.length:Int))<|some (.next (List.take (Int.toNat ((hb.length:Int)-1)) hb)))) (some (.out (.go ha)))
def EV (ha:(List AI)):Option ((List AI)):=
 some ha
def Mj (F:Nat)(stack:(List AI)):Option ((List AI)):=
 Bq (Ci (λσ=>Er σ) F stack) (BO λν=>EV ν)
def EI (ha:Int)(hb:(List AI))(hd:AT):Option (Stp ((List AI)×Int×AT) (Out (Int×AT×Bool) (AT))):=
 Bd (Cb .i64 (ha+1))<|some (.next (hb,ha+1,hd))
def Ep (F:Nat)(v:(List Ab))(ha:(List AI))(hb:Int)(hd:AT):Option (Stp ((List AI)×Int×AT) (Out (Int×AT×Bool) (AT))):=
 Bw (decide (hb<(v.length:Int))) (Bd (CY hb (v.length:Int))<|Bq (OT F (Aq v hb)) λhj=>Bw (!hj) (some (.out (.ret (0,hd,false)))) (Bd (imp (decide (0<(ha.length:Int))) (Cb .i64 ((ha.length:Int)-1)))<|Bd (imp (decide (0<(ha.length:Int))) (CY ((ha.length:Int)-1) (ha.length:Int)))<|Bw (((decide (0<(ha.length:Int)))&&((Aq ha ((ha.length:Int)-1)).fKey))) (Bd (Cb .i64 ((ha.length:Int)-1))<|Bd (CY ((ha.length:Int)-1) (ha.length:Int))<|Bw (((!decide (((Aq v hb).fKind)=4))||(((Aq ha ((ha.length:Int)-1)).fStarted)&&(Cz ((Aq v hb).fStr) ((Aq ha ((ha.length:Int)-1)).fLast)||decide (((Aq v hb).fStr)=((Aq ha ((ha.length:Int)-1)).fLast)))))) (some (.out (.ret (0,hd,false)))) (Ma (List.set ha (Int.toNat ((ha.length:Int)-1)) (AI.mk ((Aq ha ((ha.length:Int)-1)).fPairs) ((Aq ha ((ha.length:Int)-1)).fLeft) ((Aq ha ((ha.length:Int)-1)).fKey) ((Aq v hb).fStr) ((Aq ha ((ha.length:Int)-1)).fStarted))) λhe=>Ma (List.set he (Int.toNat ((ha.length:Int)-1)) (AI.mk ((Aq he ((ha.length:Int)-1)).fPairs) ((Aq he ((ha.length:Int)-1)).fLeft) ((Aq he ((ha.length:Int)-1)).fKey) ((Aq he ((ha.length:Int)-1)).fLast) true)) λhf=>Ma (List.set hf (Int.toNat ((ha.length:Int)-1)) (AI.mk ((Aq hf ((ha.length:Int)-1)).fPairs) ((Aq hf ((ha.length:Int)-1)).fLeft) false ((Aq hf ((ha.length:Int)-1)).fLast) ((Aq hf ((ha.length:Int)-1)).fStarted))) λhk=>Bq (KO ((Aq v hb).fStr)) λhh=>Bd (Cb .i64 (hh+1))<|EI hb hk (AT.mk hd.fDepth (IntKind.wrap .i64 (hd.fBytes+(hh+1))) hd.fOutside (hd.fLong||(decide (200<(((Aq v hb).fStr).length:Int))))))) (Bd (Cb .i64 ((ha.length:Int)+1))<|Bq (SX (Aq v hb)) λhg=>Bd (imp (!hd.fOutside) (imp (decide (((Aq v hb).fKind)=3)) ((Co ((Aq v hb).fInt)).isSome)))<|Bw (decide (0<((Aq v hb).fN))) (Bw (decide ((v.length:Int)<((Aq v hb).fN))) (some (.out (.ret (0,(AT.mk (max hd.fDepth ((ha.length:Int)+1)) (IntKind.wrap .i64 (hd.fBytes+hg)) (hd.fOutside||((decide (((Aq v hb).fKind)=3))&&(!(ov (Co ((Aq v hb).fInt)))))) (hd.fLong||(decide (200<(((Aq v hb).fStr).length:Int))))),false)))) (Bd (Dz 48 (ha.length+([(AI.mk (decide (((Aq v hb).fKind)=6)) ((Aq v hb).fN) (decide (((Aq v hb).fKind)=6)) ([]:Ai) false)]:List AI).length))<|EI hb (ha++([(AI.mk (decide (((Aq v hb).fKind)=6)) ((Aq v hb).fN) (decide (((Aq v hb).fKind)=6)) ([]:Ai) false)]:List AI)) (AT.mk (max hd.fDepth ((ha.length:Int)+1)) (IntKind.wrap .i64 (hd.fBytes+hg)) (hd.fOutside||((decide (((Aq v hb).fKind)=3))&&(!(ov (Co ((Aq v hb).fInt)))))) (hd.fLong||(decide (200<(((Aq v hb).fStr).length:Int))))))) (Bq (Mj F ha) λhi=>Bw (decide ((hi.length:Int)=0)) (Bd (Cb .i64 (hb+1))<|some (.out (.ret (hb+1,(AT.mk (max hd.fDepth ((ha.length:Int)+1)) (IntKind.wrap .i64 (hd.fBytes+hg)) (hd.fOutside||((decide (((Aq v hb).fKind)=3))&&(!(ov (Co ((Aq v hb).fInt)))))) (hd.fLong||(decide (200<(((Aq v hb).fStr).length:Int))))),true)))) (EI hb hi (AT.mk (max hd.fDepth ((ha.length:Int)+1)) (IntKind.wrap .i64 (hd.fBytes+hg)) (hd.fOutside||((decide (((Aq v hb).fKind)=3))&&(!(ov (Co ((Aq v hb).fInt)))))) (hd.fLong||(decide (200<(((Aq v hb).fStr).length:Int)))))))))) (some (.out (.go hd)))
def Mh (ha:AT):Option (Int×AT×Bool):=
 some (0,ha,false)
def JM (F:Nat)(v:(List Ab)):Option (Int×AT×Bool):=
 Bq (Ci (λσ=>Ep F v σ.1 σ.2.1 σ.2.2) F (([]:List AI),0,(AT.mk 0 0 false false))) (BO λν=>Mh ν)
def Jw (F:Nat)(v:(List Ab)):Option (Int):=
 Bq (JM F v) λr1=>Bw (((!r1.2.2)||(!decide (r1.1=(v.length:Int))))) (some 1) (Bw (r1.2.1.fOutside) (some 2) (Bw ((r1.2.1.fLong||((decide (200<(v.length:Int)))||((decide (8<r1.2.1.fDepth))||(decide (4000<r1.2.1.fBytes)))))) (some 3) (some 0)))
def Mk (F:Nat)(v:(List Ab)):Option ((List Ab)×Int):=
 Bq (Jw F v) λr1=>Bw (!decide (r1=0)) (some (([]:List Ab),r1)) (some (v,0))
end Go.Proofs.YtfobhhegpkinaaaGreatDoor
namespace Go.Proofs.YtfobhhegpkinaaaGreatDoor.Q
open Go Go.RowKit
set_option linter.unusedVariables false
set_option linter.unusedSimpArgs false
set_option maxRecDepth 100000
set_option maxHeartbeats 4000000
@[reducible] def AO (x:AI):List Rp:=[rB x.fPairs,AD x.fLeft,rB x.fKey,rS x.fLast,rB x.fStarted]
theorem JO (x:AI):(AO x).length=5:=rfl
theorem Om (x:AI):(AO x).all (·.one)=true:=rfl
@[reducible] def Bk (x:AT):List Rp:=[AD x.fDepth,AD x.fBytes,rB x.fOutside,rB x.fLong]
theorem Acs:∃inf,Tryz.prog.info? 152=some inf∧inf.zero=some (.agg #[(.bool false),(.int .i64 0),(.bool false),(.string ⟨#[]⟩),(.bool false)])∧inf.size=5∧inf.bytes=48:=by
  have key:(Tryz.prog.info? 152).map (λi=>(i.zero,i.size,i.bytes))=some (some (.agg #[(.bool false),(.int .i64 0),(.bool false),(.string ⟨#[]⟩),(.bool false)]),5,48):=by kernel_rfl
  obtain⟨inf,h1,h2⟩:=Option.map_eq_some_iff.1 key;simp only[Prod.mk.injEq] at h2;exact⟨inf,h1,h2.1,h2.2.1,h2.2.2⟩
theorem Abg (parts:List (Nat×Value)):Tryz.prog.built 152 parts=Instr.fill (λi=>(#[(0,1),(1,1),(2,1),(3,1),(4,1)]:Array (Nat×Nat))[i]?) #[(.bool false),(.int .i64 0),(.bool false),(.string ⟨#[]⟩),(.bool false)] parts:=by kernel_rfl
theorem Ng {n:Nat}{c:Cx}{l:Fr}{H:List Ent}{d:Option Nat}{ty:TypeId}{pos:String}{af:Array Edge}{g:Option (Nat×Bool)}{x0:Operand}{r0:Rp}(h0:ev l x0=some r0)(u0:r0.one=true){x1:Operand}{r1:Rp}(h1:ev l x1=some r1)(u1:r1.one=true){x2:Operand}{r2:Rp}(h2:ev l x2=some r2)(u2:r2.one=true):Bv Tryz.prog n c l H { dst:=d,op:=.build 152 #[(0,x0),(1,x1),(2,x2)],type:=ty,pos:=pos,after:=af,guard:=g } (BL [r0,r1,r2,rS ([]:Ai),rB false]):=λa w Z ha _=>by
  have p0:=ha.ev h0;have c0:=Bz (r0.hone u0 Z _ p0);have p1:=ha.ev h1;have c1:=Bz (r1.hone u1 Z _ p1);have p2:=ha.ev h2;have c2:=Bz (r2.hone u2 Z _ p2);have hb:Tryz.prog.built 152 [(0,a.eval x0),(1,a.eval x1),(2,a.eval x2)]=some #[a.eval x0,a.eval x1,a.eval x2,(.string ⟨#[]⟩),(.bool false)]:=by
    rw[Abg];generalize a.eval x0=v0 at *;generalize a.eval x1=v1 at *;generalize a.eval x2=v2 at *;simp[Instr.fill,c0,c1,c2]
  refine⟨.agg #[a.eval x0,a.eval x1,a.eval x2,(.string ⟨#[]⟩),(.bool false)],⟨[a.eval x0,a.eval x1,a.eval x2,(.string ⟨#[]⟩),(.bool false)],rfl,p0,p1,p2,rfl,rfl,trivial⟩,?_⟩;have:=run_build w 152 #[(0,a.eval x0),(1,a.eval x1),(2,a.eval x2)] _ (by simpa using hb);simp[execOp,this]
theorem Aab (n:Int)(r:Bool)(h:Co n=some r):Fn Tryz.prog GE 117 [AD n] [] (λR H=>R=rB r∧H=[]):=by
 refine enter (n:=9) Tryz.func117 Aa Tryz.ntmps117 Aa (λw Z=>?_);unfold Co at h;refine Am (wa Aa (Aw (AV [(2,rB ((decide ((-1000000000000)≤n))&&(decide (n≤1000000000000))))] [] ?_ ?_)))
 ·refine An (wm Aa (wv (Oh Aa Aa) (wm Aa (AY (decide ((-1000000000000)≤n)) (λc1=>?_) (λc1=>?_)))))
  ·refine wo c1 (wm Aa (wo c1 (wv (Oh Aa Aa) (It Aa c1 Aa (wa Aa (As ?_))))));exact CI c1
  refine wf c1 (wf c1 (wv (r:=rB false) (A2 Aa c1 Aa) (wa Aa (As ?_))));exact CI c1
 refine A4 ?_;obtain rfl:=A7 h;exact A3 (Ch Tryz.results117 (AR Aa)) sN ⟨Aa,Aa⟩
theorem Ab9 (F:Nat)(s:Ai)(r:Bool)(h:Mf F s=some r):Fn Tryz.prog GE 150 [rS s] [] (λR H=>R=rB r∧H=[]):=by
 refine enter (n:=20) Tryz.func150 Aa Tryz.ntmps150 Aa (λw Z=>?_);unfold Mf at h;refine Am (wa Aa (Aw (Ao (Am (wm Aa (wv (BF CT Aa) (wv (r:=AD 0) (Aj Aa) (Aw (AS (ob h λhi hj hg=>B4 (S:=Nat×(Int)×(Unit)) (V:=(Unit)×(Unit)) 0 (λσ=>Ci (λσ=>IQ s σ) σ.1 σ.2.1=some hi) (λσ=>[(0,rS s),(5,AD (s.length:Int)),(6,AD σ.2.1)]) (λσ=>[]) (λσ=>σ.1) (F,0,()) hj (AG.c Aa (AG.c Aa (AG.c Aa AG.nil))) sN (λσ=>IP =some r) (λσ=>[]) (λσ=>[]) ?_ ?_))))))))))
 ·rintro⟨hz,hb,⟨⟩⟩ hk;refine GC ?_;obtain⟨hl,rfl,t37,hd,hf⟩:=Di hk;replace hd:IQ s hb=some t37:=hd;unfold IQ at hd;refine Am (wv (Dh Aa Aa) (Aw (Ao (cz hd Aa (λhm hn=>?_) (λhm ho=>?_)))))
  ·refine A0 (AX (Ao (AS (Am (wm Aa (wa Aa (Aw (ck hn λhh hp=>AV [(0,rS s),(5,AD (s.length:Int)),(6,AD hb),(18,rB ((decide ((B8 s hb)<32))||(decide (126<(B8 s hb)))))] [] ?_ ?_))))))))
   ·refine An (wm Aa (wm Aa (wv (BA CT Aa Aa hh) (wv (Dh Aa Aa) (wm Aa (AY (decide ((B8 s hb)<32)) (λha=>?_) (λha=>?_)))))))
    ·refine wf ha (wf ha (wf ha (wf ha (wv (r:=rB true) (A5 Aa ha Aa) (As ?_)))));exact CI ha
    refine wo ha (wm Aa (wo ha (wm Aa (wo ha (wv (BA CT Aa Aa hh) (wo ha (wv (DT Aa Aa) (G9 Aa ha Aa (As ?_)))))))));exact CI ha
   refine cz hp Aa (λhq hr=>?_) (λhq hs=>?_)
   ·refine Am (wa Aa (Aw (A4 (AB (Ae (Ae (Be ?_)))))));have ht:=B1 hr hf hg;refine AB (Ae ?_);obtain rfl:=A7 ht;exact A3 (Ch Tryz.results150 (AR Aa)) sN ⟨Aa,Aa⟩
   refine A0 (AK (AX (An (ck hs λhu hw=>wv (BW Aa Aa hu) (wm Aa (As ?_))))));have hx:=B9 hw hf;exact Ay (AE (hl,hb+1,()) ⟨hx,AfV _⟩ (AG.c Aa (AG.c Aa (AG.c Aa AG.nil))) sN)
  refine B3 (A9 ?_);have hy:=Cw ho hf hg;exact A9 (Bo (AE ((),()) hy AG.nil sN))
 rintro⟨⟨⟩,⟨⟩⟩ he;refine JZ ?_;replace he:IP =some r:=he;unfold IP at he;refine Bn (AX (Am (wa Aa (Aw (A4 ?_)))));obtain rfl:=A7 he;exact A3 (Ch Tryz.results150 (AR Aa)) sN ⟨Aa,Aa⟩
theorem Q9 (s:Ai)(r:Int)(h:KO s=some r):Fn Tryz.prog GE 115 [rS s] [] (λR H=>R=AD r∧H=[]):=by
 refine enter (n:=12) Tryz.func115 Aa Tryz.ntmps115 Aa (λw Z=>?_);unfold KO at h;refine Am (wa Aa (B0 (wm Aa (wv (BF CT Aa) (ck h λg1 h2=>wv (BW Aa Aa g1) (wm Aa (Ds (rs:=[rS s,rS ([34]:Ai)]) (r:=AD (Lib.countByte s 34:Int)) Tryz.call151 Aa (W1 s 34) Aa Aa (ck h2 λg3 h4=>wv (BW Aa Aa g3) (wm Aa (Ds (rs:=[rS s,rS ([92]:Ai)]) (r:=AD (Lib.countByte s 92:Int)) Tryz.call151 Aa (W1 s 92) Aa Aa (ck h4 λg5 h6=>wv (BW Aa Aa g5) (wa Aa (Aw (A4 ?_))))))))))))));obtain rfl:=A7 h6;exact A3 (Ch Tryz.results115 (AR Aa)) sN ⟨Aa,Aa⟩
theorem YW (F:Nat)(c:Ab)(r:Bool)(h:OT F c=some r):Fn Tryz.prog GE 114 [BL (Ah c)] [] (λR H=>R=rB r∧H=[]):=by
 refine enter (n:=81) Tryz.func114 Aa Tryz.ntmps114 Aa (λw Z=>?_);unfold OT at h;refine Am (CN Aa Aa (λb1=>?_));refine wa Aa (Aw (Ao (Am (vF CU Aa Ln (vL 0 Lo Aa (Aw (AS (Am (wv (BR Aa Aa) (wa Aa (Aw (cz h Aa (λc2 h3=>?_) (λc2 h6=>?_)))))))))))))
 ·refine AV [(2,rB ((decide (c.fInt=0))&&((decide (c.fStr=([]:Ai)))&&(decide (c.fN=0)))))] [] ?_ ?_
  ·refine An (vF CU Aa Cy (vL 0 CO Aa (wv (BR Aa Aa) (wm Aa (AY (decide (c.fInt=0)) (λc4=>?_) (λc4=>?_))))))
   ·refine wo c4 (vF CU Aa BX (wo c4 (vL 0 Cf Aa (wo c4 (wv (Kr Aa Aa) (It Aa c4 Aa (wm Aa (AY (decide (c.fStr=([]:Ai))) (λc5=>?_) (λc5=>?_)))))))))
    ·refine wo c5 (vF CU Aa Cy (wo c5 (vL 0 CO Aa (wo c5 (wv (BR Aa Aa) (It Aa c5 Aa (wa Aa (As ?_))))))));exact CI (And.intro c4 c5)
    refine wf c5 (wf c5 (wf c5 (wv (r:=rB false) (A2 Aa c5 Aa) (wa Aa (As ?_)))));exact CI (And.intro c4 c5)
   refine wf c4 (wf c4 (wf c4 (wv (r:=rB false) (A2 Aa c4 Aa) (wm Aa (wz Aa Aa (wz Aa Aa (wz Aa Aa (wv (r:=rB false) (A2 (b:=false) Aa Aa Aa) (wa Aa (As ?_))))))))));exact CI c4
  refine A4 (AB (Ae ?_));obtain rfl:=A7 h3;exact A3 (Ch OF (AR Aa)) sN ⟨Aa,Aa⟩
 refine Am (wv (BR Aa Aa) (wa Aa (Aw (cz h6 Aa (λc7 h8=>?_) (λc7 hm=>?_)))))
 ·refine AV [(2,rB (bif decide (c.fInt=0) then((decide (c.fStr=([]:Ai)))&&(decide (c.fN=0))) else((decide (c.fInt=1))&&((decide (c.fStr=([]:Ai)))&&(decide (c.fN=0))))))] [] ?_ ?_
  ·refine An (vF CU Aa Cy (vL 0 CO Aa (wv (BR Aa Aa) (wm Aa (AY (decide (c.fInt=0)) (λc9=>?_) (λc9=>?_))))))
   ·refine wf c9 (wf c9 (wf c9 (wv (r:=rB true) (A5 Aa c9 Aa) (wm Aa (AQ (b:=true) Aa Aa Aa (vF CU Aa BX (AQ (b:=true) Aa Aa Aa (vL 0 Cf Aa (AQ (b:=true) Aa Aa Aa (wv (Kr Aa Aa) (wv (r:=rB (decide (c.fStr=([]:Ai)))) (A5 (b:=true) Aa Aa Aa) (wm Aa (AY (decide (c.fStr=([]:Ai))) (λhg=>?_) (λhg=>?_))))))))))))))
    ·refine wo hg (vF CU Aa Cy (wo hg (vL 0 CO Aa (wo hg (wv (BR Aa Aa) (It Aa hg Aa (wa Aa (As ?_))))))));exact CI (And.intro c9 hg)
    refine wf hg (wf hg (wf hg (wv (r:=rB false) (A2 Aa hg Aa) (wa Aa (As ?_)))));exact CI (And.intro c9 hg)
   refine wo c9 (vF CU Aa Cy (wo c9 (vL 0 CO Aa (wo c9 (wv (BR Aa Aa) (G9 Aa c9 Aa (wm Aa (AY (decide (c.fInt=1)) (λhb=>?_) (λhb=>?_)))))))))
   ·refine wo hb (vF CU Aa BX (wo hb (vL 0 Cf Aa (wo hb (wv (Kr Aa Aa) (It Aa hb Aa (wm Aa (AY (decide (c.fStr=([]:Ai))) (λhh=>?_) (λhh=>?_)))))))))
    ·refine wo hh (vF CU Aa Cy (wo hh (vL 0 CO Aa (wo hh (wv (BR Aa Aa) (It Aa hh Aa (wa Aa (As ?_))))))));exact CI (And.intro c9 (And.intro hb hh))
    refine wf hh (wf hh (wf hh (wv (r:=rB false) (A2 Aa hh Aa) (wa Aa (As ?_)))));exact CI (And.intro c9 (And.intro hb hh))
   refine wf hb (wf hb (wf hb (wv (r:=rB false) (A2 Aa hb Aa) (wm Aa (wz Aa Aa (wz Aa Aa (wz Aa Aa (wv (r:=rB false) (A2 (b:=false) Aa Aa Aa) (wa Aa (As ?_))))))))));exact CI (And.intro c9 hb)
  refine A4 (AB (Ae ?_));obtain rfl:=A7 h8;exact A3 (Ch OF (AR Aa)) sN ⟨Aa,Aa⟩
 refine Am (wv (BR Aa Aa) (wa Aa (Aw (cz hm Aa (λhn ho=>?_) (λhn hp=>?_)))))
 ·refine AV [(2,rB ((decide (c.fStr=([]:Ai)))&&(decide (c.fN=0))))] [] ?_ ?_
  ·refine An (vF CU Aa BX (vL 0 Cf Aa (wv (Kr Aa Aa) (wm Aa (AY (decide (c.fStr=([]:Ai))) (λhi=>?_) (λhi=>?_))))))
   ·refine wo hi (vF CU Aa Cy (wo hi (vL 0 CO Aa (wo hi (wv (BR Aa Aa) (It Aa hi Aa (wa Aa (As ?_))))))));exact CI hi
   refine wf hi (wf hi (wf hi (wv (r:=rB false) (A2 Aa hi Aa) (wa Aa (As ?_)))));exact CI hi
  refine A4 (AB (Ae ?_));obtain rfl:=A7 ho;exact A3 (Ch OF (AR Aa)) sN ⟨Aa,Aa⟩
 refine Am (wv (BR Aa Aa) (wa Aa (Aw (cz hp Aa (λhq hr=>?_) (λhq hs=>?_)))))
 ·refine ck hr λht hu=>AV [(2,rB ((decide (c.fInt=0))&&((decide (c.fN=0))&&(ov (Mf F c.fStr)))))] [] ?_ ?_
  ·refine An (vF CU Aa Cy (vL 0 CO Aa (wv (BR Aa Aa) (wm Aa (AY (decide (c.fInt=0)) (λha=>?_) (λha=>?_))))))
   ·refine wo ha (vF CU Aa Cy (wo ha (vL 0 CO Aa (wo ha (wv (BR Aa Aa) (It Aa ha Aa (wm Aa (AY (decide (c.fN=0)) (λhd=>?_) (λhd=>?_)))))))))
    ·refine wo hd (vF CU Aa BX (wo hd (vL 0 Cf Aa (wo hd (DI Tryz.call150 (Ab9 F c.fStr (ov (Mf F c.fStr)) (Og (Gt (Gt ht ha) hd))) Aa (It Aa hd Aa (wa Aa (As ?_))))))));exact CI (And.intro ha hd)
    refine wf hd (wf hd (wf hd (wv (r:=rB false) (A2 Aa hd Aa) (wa Aa (As ?_)))));exact CI (And.intro ha hd)
   refine wf ha (wf ha (wf ha (wv (r:=rB false) (A2 Aa ha Aa) (wm Aa (wz Aa Aa (wz Aa Aa (wz Aa Aa (wv (r:=rB false) (A2 (b:=false) Aa Aa Aa) (wa Aa (As ?_))))))))));exact CI ha
  refine A4 (AB (Ae ?_));obtain rfl:=A7 hu;exact A3 (Ch OF (AR Aa)) sN ⟨Aa,Aa⟩
 refine Ao (Am (wv (BR Aa Aa) (wa Aa (Aw (cz hs Aa (λhl hw=>?_) (λhl hx=>?_))))))
 ·refine A0 (AX (DE Aa hl (AV [(2,rB ((decide (c.fInt=0))&&((decide (c.fStr=([]:Ai)))&&(decide (0≤c.fN)))))] [] ?_ ?_)))
  ·refine An (vF CU Aa Cy (vL 0 CO Aa (wv (BR Aa Aa) (wm Aa (AY (decide (c.fInt=0)) (λhe=>?_) (λhe=>?_))))))
   ·refine wo he (vF CU Aa BX (wo he (vL 0 Cf Aa (wo he (wv (Kr Aa Aa) (It Aa he Aa (wm Aa (AY (decide (c.fStr=([]:Ai))) (λhj=>?_) (λhj=>?_)))))))))
    ·refine wo hj (vF CU Aa Cy (wo hj (vL 0 CO Aa (wo hj (wv (JV Aa Aa) (It Aa hj Aa (wa Aa (As ?_))))))));exact CI (And.intro he hj)
    refine wf hj (wf hj (wf hj (wv (r:=rB false) (A2 Aa hj Aa) (wa Aa (As ?_)))));exact CI (And.intro he hj)
   refine wf he (wf he (wf he (wv (r:=rB false) (A2 Aa he Aa) (wm Aa (wz Aa Aa (wz Aa Aa (wz Aa Aa (wv (r:=rB false) (A2 (b:=false) Aa Aa Aa) (wa Aa (As ?_))))))))));exact CI he
  refine A4 (AB (Ae ?_));obtain rfl:=A7 hw;exact A3 (Ch OF (AR Aa)) sN ⟨Aa,Aa⟩
 refine An (wv (BR Aa Aa) (wa Aa (Aw (cz hx Aa (λhy hz=>?_) (λhy h0=>?_)))))
 ·refine AV [(2,rB ((decide (c.fInt=0))&&((decide (c.fStr=([]:Ai)))&&(decide (0≤c.fN)))))] [] ?_ ?_
  ·refine An (vF CU Aa Cy (vL 0 CO Aa (wv (BR Aa Aa) (wm Aa (AY (decide (c.fInt=0)) (λhf=>?_) (λhf=>?_))))))
   ·refine wo hf (vF CU Aa BX (wo hf (vL 0 Cf Aa (wo hf (wv (Kr Aa Aa) (It Aa hf Aa (wm Aa (AY (decide (c.fStr=([]:Ai))) (λhk=>?_) (λhk=>?_)))))))))
    ·refine wo hk (vF CU Aa Cy (wo hk (vL 0 CO Aa (wo hk (wv (JV Aa Aa) (It Aa hk Aa (wa Aa (As ?_))))))));exact CI (And.intro hf hk)
    refine wf hk (wf hk (wf hk (wv (r:=rB false) (A2 Aa hk Aa) (wa Aa (As ?_)))));exact CI (And.intro hf hk)
   refine wf hf (wf hf (wf hf (wv (r:=rB false) (A2 Aa hf Aa) (wm Aa (wz Aa Aa (wz Aa Aa (wz Aa Aa (wv (r:=rB false) (A2 (b:=false) Aa Aa Aa) (wa Aa (As ?_))))))))));exact CI hf
  refine A4 (AB (Ae ?_));obtain rfl:=A7 hz;exact A3 (Ch OF (AR Aa)) sN ⟨Aa,Aa⟩
 refine A0 (AK (AX (Am (wa Aa (Aw (A4 ?_))))));obtain rfl:=A7 h0;exact A3 (Ch OF (AR Aa)) (sS sN) ⟨Aa,Aa⟩
theorem AbA (c:Ab)(r:Int)(h:SX c=some r):Fn Tryz.prog GE 116 [BL (Ah c)] [] (λR H=>R=AD r∧H=[]):=by
 refine enter (n:=28) Tryz.func116 Aa Tryz.ntmps116 Aa (λw Z=>?_);unfold SX at h;refine Am (CN Aa Aa (λb1=>?_));refine wa Aa (Aw (Ao (Am (vF CU Aa Ln (vL 0 Lo Aa (Aw (AS (Am (wv (BR Aa Aa) (wa Aa (Aw (cz h Aa (λc2 h3=>?_) (λc2 h4=>?_)))))))))))))
 ·refine Am (wa Aa (Aw (A4 (AB (Ae ?_)))));obtain rfl:=A7 h3;exact A3 (Ch SQ (AR Aa)) (sS sN) ⟨Aa,Aa⟩
 refine Am (wv (BR Aa Aa) (wa Aa (Aw (cz h4 Aa (λc5 h6=>?_) (λc5 h7=>?_)))))
 ·refine Am (vF CU Aa Cy (vL 0 CO Aa (wv (r:=AD (IntKind.wrap .i64 (5-c.fInt))) (ZJ Aa Aa) (wa Aa (Aw (A4 (AB (Ae ?_))))))));obtain rfl:=A7 h6;exact A3 (Ch SQ (AR Aa)) (sS sN) ⟨Aa,Aa⟩
 refine Am (wv (BR Aa Aa) (wa Aa (Aw (cz h7 Aa (λc8 h9=>?_) (λc8 ha=>?_)))))
 ·refine Am (vF CU Aa Cy (vL 0 CO Aa (ck h9 λhb hd=>Ds (rs:=[AD c.fInt]) (r:=rS (Lib.itoa c.fInt)) OG Aa (EL c.fInt hb) Aa Aa (wv (BF CT Aa) (wa Aa (Aw (A4 (AB (Ae ?_)))))))));obtain rfl:=A7 hd;exact A3 (Ch SQ (AR Aa)) (sS sN) ⟨Aa,Aa⟩
 refine Am (wv (BR Aa Aa) (wa Aa (Aw (cz ha Aa (λhe hf=>?_) (λhe hg=>?_)))))
 ·refine Am (vF CU Aa BX (vL 0 Cf Aa (ob hf λhh hi hj=>DI Tryz.call115 (Q9 c.fStr hh hi) Aa (wa Aa (Aw (A4 (AB (Ae ?_))))))));obtain rfl:=A7 hj;exact A3 (Ch SQ (AR Aa)) (sS sN) ⟨Aa,Aa⟩
 refine A0 (AK (AX (Am (vF CU Aa Cy (vL 0 CO Aa (wv (r:=AD (IntKind.wrap .i64 (c.fN-1))) (ZJ Aa Aa) (wv (AcR Y2 Aa Aa) (wv (r:=AD (IntKind.wrap .i64 (2+(max 0 (IntKind.wrap .i64 (c.fN-1)))))) (UQ Aa Aa) (wa Aa (Aw (A4 ?_)))))))))));obtain rfl:=A7 hg;exact A3 (Ch SQ (AR Aa)) (sS sN) ⟨Aa,Aa⟩
theorem WY (F:Nat)(hi:Value)(stack:(List AI))(r:(List AI))(h:Mj F stack=some r):Fn Tryz.prog GE 118 [rv hi] [.row hi 152 5 (AH AO stack)] (λR H=>∃u0:Value,R=rv u0∧H=[.row u0 152 5 (AH AO r)]):=by
 refine enter (n:=38) Tryz.func118 Aa Tryz.ntmps118 Aa (λw Z=>?_);unfold Mj at h;refine Am (wa Aa (Aw (Ao (AS (ob h λhl hm hk=>B4 (S:=Nat×((List AI))×(Value)) (V:=((List AI))×(Value)) 0 (λσ=>Ci (λσ=>Er σ) σ.1 σ.2.1=some hl) (λσ=>[(0,rv σ.2.2),(2,rv (.slice none 0 0))]) (λσ=>[.row σ.2.2 152 5 (AH AO σ.2.1)]) (λσ=>σ.1) (F,stack,hi) hm (AG.c Aa (AG.c Aa AG.nil)) (sC sN) (λσ=>EV σ.1=some r) (λσ=>[(0,rv σ.2),(2,rv (.slice none 0 0))]) (λσ=>[.row σ.2 152 5 (AH AO σ.1)]) ?_ ?_)))))
 ·rintro⟨n194,ha,he⟩ hn;refine GC ?_;obtain⟨ho,rfl,hp,hg,hj⟩:=Di hn;replace hg:Er ha=some hp:=hg;unfold Er at hg;refine Ao (Am (wm Aa (wv (Ca (ys:=ha) (enc:=AO) (i:=0) JK Aa Aa) (wv (DT Aa Aa) (Aw (cz hg Aa (λhq hr=>?_) (λhq hs=>?_)))))))
  ·refine A0 (AX (AS (Am (wm Aa (wm Aa (wv (Ca (ys:=ha) (enc:=AO) (i:=0) JK Aa Aa) (ck hr λht hu=>wv (Pm Aa Aa ht) (ck hu λhd hw=>wv (r:=rv (Gd 5 he (BC ((ha.length:Int)-1)) 0)) (Eu (i:=0) JK SN Aa Aa Aa (BE hd)) (wa Aa (B0 (wm Aa (wv (r:=rv (Gd 5 he (BC ((ha.length:Int)-1)) 0)) (CK (k:=0) Aa (BE hd) Aa Aa) (wv (r:=rv (Gd 5 he (BC ((ha.length:Int)-1)) 1)) (EX (k:=0) JJ Aa Cy Aa (BE hd) Aa Aa Aa) (wv (r:=AD ((Aq ha ((ha.length:Int)-1)).fLeft)) (Hm (enc:=AO) (ys:=ha) (i:=0) (j:=(ha.length:Int)-1) CO Aa Aa hd Aa) (ck hw λhx hy=>wv (Pm Aa Aa hx) (wv (r:=rv (Gd 5 he (BC ((ha.length:Int)-1)) 0)) (CK (k:=0) Aa (BE hd) Aa Aa) (wv (r:=rv (Gd 5 he (BC ((ha.length:Int)-1)) 1)) (EX (k:=0) JJ Aa Cy Aa (BE hd) Aa Aa Aa) (Jx (enc:=AO) (ys:=ha) (y':=(AI.mk ((Aq ha ((ha.length:Int)-1)).fPairs) (((Aq ha ((ha.length:Int)-1)).fLeft)-1) ((Aq ha ((ha.length:Int)-1)).fKey) ((Aq ha ((ha.length:Int)-1)).fLast) ((Aq ha ((ha.length:Int)-1)).fStarted))) (i:=0) (j:=(ha.length:Int)-1) Cy Aa Aa (B5 Aa) Aa hd Aa Aa (H':=[.row he 152 5 (AH AO (List.set ha (BC ((ha.length:Int)-1)) (AI.mk ((Aq ha ((ha.length:Int)-1)).fPairs) (((Aq ha ((ha.length:Int)-1)).fLeft)-1) ((Aq ha ((ha.length:Int)-1)).fKey) ((Aq ha ((ha.length:Int)-1)).fLast) ((Aq ha ((ha.length:Int)-1)).fStarted))))]) Aa (bd hy λhb hf hz=>?_)))))))))))))))))));rw[← hf];refine Aw (Ao (Am (wm Aa (wv (r:=rv (Gd 5 he (BC ((ha.length:Int)-1)) 0)) (CK (k:=0) Aa (BE (D3 hd hf)) Aa Aa) (wv (r:=rv (Gd 5 he (BC ((ha.length:Int)-1)) 1)) (EX (k:=0) JJ Aa Cy Aa (BE (D3 hd hf)) Aa Aa Aa) (wv (r:=AD ((Aq hb ((ha.length:Int)-1)).fLeft)) (Hm (enc:=AO) (ys:=hb) (i:=0) (j:=(ha.length:Int)-1) CO Aa Aa (D3 hd hf) Aa) (wv (DT Aa Aa) (Aw (cz hz Aa (λh0 h1=>?_) (λh0 h2=>?_))))))))))
   ·refine Am (wm Aa (wm Aa (wv (r:=rv (Gd 5 he (BC ((ha.length:Int)-1)) 0)) (CK (k:=0) Aa (BE (D3 hd hf)) Aa Aa) (wv (r:=rv (Gd 5 he (BC ((ha.length:Int)-1)) 0)) (EX (k:=0) JJ Aa Iy Aa (BE (D3 hd hf)) Aa Aa Aa) (wv (r:=rB ((Aq hb ((ha.length:Int)-1)).fPairs)) (Hm (enc:=AO) (ys:=hb) (i:=0) (j:=(ha.length:Int)-1) SS Aa Aa (D3 hd hf) Aa) (wv (r:=rv (Gd 5 he (BC ((ha.length:Int)-1)) 0)) (CK (k:=0) Aa (BE (D3 hd hf)) Aa Aa) (wv (r:=rv (Gd 5 he (BC ((ha.length:Int)-1)) 2)) (EX (k:=0) JJ Aa Iy Aa (BE (D3 hd hf)) Aa Aa Aa) (Jx (enc:=AO) (ys:=hb) (y':=(AI.mk ((Aq hb ((ha.length:Int)-1)).fPairs) ((Aq hb ((ha.length:Int)-1)).fLeft) ((Aq hb ((ha.length:Int)-1)).fPairs) ((Aq hb ((ha.length:Int)-1)).fLast) ((Aq hb ((ha.length:Int)-1)).fStarted))) (i:=0) (j:=(ha.length:Int)-1) Iy Aa Aa (B5 Aa) Aa (D3 hd hf) Aa Aa (H':=[.row he 152 5 (AH AO (List.set hb (BC ((ha.length:Int)-1)) (AI.mk ((Aq hb ((ha.length:Int)-1)).fPairs) ((Aq hb ((ha.length:Int)-1)).fLeft) ((Aq hb ((ha.length:Int)-1)).fPairs) ((Aq hb ((ha.length:Int)-1)).fLast) ((Aq hb ((ha.length:Int)-1)).fStarted))))]) Aa (bd h1 λhG h3 h4=>?_)))))))));rw[← h3];refine B0 (wm Aa (wa Aa (Aw (A4 (Ae (AB (Ae (Be ?_))))))));have h5:=B1 h4 hj hk;refine AB (Ae ?_);obtain rfl:=A7 h5;exact A3 (Ch Tryz.results118 (AR Aa)) (sC sN) ⟨he,Aa,Aa⟩
   refine A0 (AX (An (wm Aa (wm Aa (wv (Ca (ys:=hb) (enc:=AO) (i:=0) JK Aa Aa) (ck h2 λh6 h7=>wv (Pm Aa Aa h6) (ck h7 λh8 h9=>Aeq (i:=0) JK SN Aa Aa Aa h8 Aa (λhA=>?_))))))));refine wa Aa (As (AK ?_));have hB:=B9 h9 hj;exact Ay (AE (ho,List.take (BC ((hb.length:Int)-1)) hb,hA) ⟨hB,AfV _⟩ (AG.c Aa (AG.c Aa AG.nil)) (sC sN))
  refine B3 (A9 ?_);have hC:=Cw hs hj hk;exact A9 (Bo (AE (ha,he) hC (AG.c Aa (AG.c Aa AG.nil)) (sC sN)))
 rintro⟨hD,hE⟩ hh;refine JZ ?_;replace hh:EV hD=some r:=hh;unfold EV at hh;refine Bn (AX (Am (wm Aa (wa Aa (Aw (A4 ?_))))));obtain rfl:=A7 hh;exact A3 (Ch Tryz.results118 (AR Aa)) (sC sN) ⟨hE,Aa,Aa⟩
theorem RL (F:Nat)(v:(List Ab))(r:Int×AT×Bool)(h:JM F v=some r):Fn Tryz.prog GE 89 [Br 4 (AH Ah v)] [] (λR H=>R=CZ [AD r.1,BL (Bk r.2.1),rB r.2.2]∧H=[]):=by
 refine enter (n:=152) Tryz.func89 Aa Tryz.ntmps89 Aa (λw Z=>?_);unfold JM at h;refine Am (wa Aa (BZ (cs:=[AD 0,AD 0,rB false,rB false]) SK Aa Aa (λb1=>?_)));refine wa Aa (Aw (YP (Am (BZ (cs:=[AD 0,AD 0,rB false,rB false]) SK Aa Aa (λb2=>?_)))));refine B0 (wa Aa (Aw (Ao (YQ (AX (Ao (Am (wm Aa (wv (Bx (ys:=v) (enc:=Ah) D5 Aa) (wv (r:=AD 0) (Aj Aa) (Aw (AS (WC.nilrow (e:=152) (sz:=5) (Hz (H2:=[.blk b2 [AD 0,AD 0,rB false,rB false] 124,.blk b1 [AD 0,AD 0,rB false,rB false] 124,.row (.slice none 0 0                                                                                                                                                        ) 152 5 (AH AO ([]:List AI))]) ((AP (i:=1) Aa).trans (AfQ _ ((AP (i:=1) Aa).trans (AfQ _ (AfX _))))) (ob h λh8 h9 hy=>B4 (S:=Nat×((List AI)×Int×AT)×(Value)) (V:=(AT)×(Unit)) 0 (λσ=>Ci (λσ=>Ep F v σ.1 σ.2.1 σ.2.2) σ.1 σ.2.1=some h8) (λσ=>[(0,Br 4 (AH Ah v)),(3,rP b1 0),(5,rP b2 0),(6,rv σ.2.2),(11,Br 4 (AH Ah v)),(12,AD (v.length:Int)),(13,AD σ.2.1.2.1)]) (λσ=>[.blk b2 (Bk σ.2.1.2.2) 124,.blk b1 [AD 0,AD 0,rB false,rB false] 124,.row σ.2.2 152 5 (AH AO σ.2.1.1)]) (λσ=>σ.1) (F,(([]:List AI),0,(AT.mk 0 0 false false)),(.slice none 0 0                                                                                                                                                        )) h9 (AG.c Aa (AG.c Aa (AG.c5 Aa Aa Aa Aa Aa AG.nil))) (sC (sC (sC sN))) (λσ=>Mh σ.1=some r) (λσ=>[(3,rP b1 0),(5,rP b2 0)]) (λσ=>[.blk b2 (Bk σ.1) 124,.blk b1 [AD 0,AD 0,rB false,rB false] 124]) ?_ ?_)))))))))))))))
 ·rintro⟨gH,⟨hd,hb,ha⟩,he⟩ hA;refine GC ?_;obtain⟨hB,rfl,h4,hz,hw⟩:=Di hA;replace hz:Ep F v hd hb ha=some h4:=hz;unfold Ep at hz;refine Am (wv (Dh Aa Aa) (Aw (Ao (cz hz Aa (λhC hD=>?_) (λhC hE=>?_)))))
  ·refine A0 (AX (Cn (S:=((List AI)×AT)×(Value)) (λσ=>EI hb σ.1.1 σ.1.2=some h4) (λσ=>[(0,Br 4 (AH Ah v)),(3,rP b1 0),(5,rP b2 0),(6,rv σ.2),(11,Br 4 (AH Ah v)),(12,AD (v.length:Int)),(13,AD hb)]) (λσ=>[.blk b2 (Bk σ.1.2) 124,.blk b1 [AD 0,AD 0,rB false,rB false] 124,.row σ.2 152 5 (AH AO σ.1.1)]) ?_ ?_))
   ·refine AS (Am (wm Aa (ck hD λhG hH=>wv (AW (enc:=Ah) (ys:=v) D5 EB Aa Aa hG) (wv (Dm WO EB Aa Aa Aa) (BZ (cs:=[AD 0,AD 0,rS ([]:Ai),AD 0]) Oa Aa Aa (λhf=>?_))))));refine wa Aa (LZ (i:=0) EB Aa Aa Aa (Cm.c Aa) Aa Aa ?_);refine Aw (Ao (Am (wv (Bi (i:=0) WO EB Aa Aa Aa Aa) (ob hH λhI hJ hK=>DI Tryz.call114 (YW F (Aq v hb) hI hJ) Aa (wv (BT Aa) (Aw (cz hK Aa (λhL hN=>?_) (λhL hO=>?_))))))))
    ·refine Ao (HQ (H1:=[.blk hf (Ah (Aq v hb)) 83,.blk b2 (Bk ha) 124,.blk b1 (Bk ha) 124,.row he 152 5 (AH AO hd)]) [3,5] [⟨[],BL (Bk ha),1⟩,⟨[],AD 0,0⟩,⟨[0],rv undef,2⟩,⟨[],rB false,0⟩] (rle [(3,_),(2,[.blk hf (Ah (Aq v hb)) 83,.blk b2 (Bk ha) 124,.blk b1 (Bk ha) 124,.row he 152 5 (AH AO hd)])]) [2,4,3] ?_ ?_)
     ·refine of (Bi (i:=1) Ls GB Aa Aa Aa Aa) (oq (AA Aa) (Kq Aa (Sf (EN (i:=2) GB Aa Aa Aa (Cm.c Aa) Aa Aa (cs':=[AD ha.fDepth,AD ha.fBytes,rB ha.fOutside,rB ha.fLong]) Aa (H':=[.blk hf (Ah (Aq v hb)) 83,.blk b2 (Bk ha) 124,.blk b1 (Bk ha) 124,.row he 152 5 (AH AO hd)]) Aa)) ?_));refine oq (AA Aa) ?_;exact Hu
     refine AX (A4 (Ae (AB (Ae (Ae (Be ?_))))));have hP:=B1 hN hw hy;refine AB (Ae (KI ?_));obtain rfl:=A7 hP;exact A3 (Zq YC (AR Aa) (IW (i:=2) Ls GB Aa Aa Aa) (AR Aa)) (sS (sS (sS (sS sN)))) ⟨Aa,Aa⟩
    refine A0 (AX (Ao (Am (wm Aa (wv (Ca (ys:=hd) (enc:=AO) (i:=3) JK Aa Aa) (wa Aa (Aw (ck hO λhQ hR=>ck hR λh5 hS=>AV [(0,Br 4 (AH Ah v)),(3,rP b1 0),(5,rP b2 0),(6,rv he),(7,AD hb),(8,rP hf 0),(9,AD (hd.length:Int)),(11,Br 4 (AH Ah v)),(12,AD (v.length:Int)),(13,AD hb),(33,rB ((decide (0<(hd.length:Int)))&&((Aq hd ((hd.length:Int)-1)).fKey)))] [.blk hf (Ah (Aq v hb)) 83,.blk b2 (Bk ha) 124,.blk b1 [AD 0,AD 0,rB false,rB false] 124,.row he 152 5 (AH AO hd)] ?_ ?_))))))))
    ·refine An (wm Aa (wv (DT Aa Aa) (wm Aa (AY (decide (0<(hd.length:Int))) (λhi=>?_) (λhi=>?_)))))
     ·refine wo hi (wm Aa (wo hi (wm Aa (wo hi (wv (Pm Aa Aa (Gt hQ hi)) (wo hi (wv (r:=rv (Gd 5 he (BC ((hd.length:Int)-1)) 0)) (Eu (i:=3) JK SN Aa Aa Aa (BE (Gt h5 hi))) (wo hi (wv (r:=rv (Gd 5 he (BC ((hd.length:Int)-1)) 2)) (EX (k:=3) JJ Aa Iy Aa (BE (Gt h5 hi)) Aa Aa Aa) (wo hi (wv (r:=rB ((Aq hd ((hd.length:Int)-1)).fKey)) (Hm (enc:=AO) (ys:=hd) (i:=3) (j:=(hd.length:Int)-1) SS Aa Aa (Gt h5 hi) Aa) (It Aa hi Aa (As ?_)))))))))))));exact CI hi
     refine wf hi (wf hi (wf hi (wf hi (wf hi (wf hi (wv (r:=rB false) (A2 Aa hi Aa) (As ?_)))))));exact CI hi
    refine cz hS Aa (λhT hU=>?_) (λhT hV=>?_)
    ·refine Am (wm Aa (wm Aa (ck hU λhW hX=>wv (Pm Aa Aa hW) (ck hX λhj hY=>wv (r:=rv (Gd 5 he (BC ((hd.length:Int)-1)) 0)) (Eu (i:=3) JK SN Aa Aa Aa (BE hj)) (wa Aa (Aw (Ao (AV [(0,Br 4 (AH Ah v)),(3,rP b1 0),(5,rP b2 0),(6,rv he),(8,rP hf 0),(10,rv (Gd 5 he (BC ((hd.length:Int)-1)) 0)),(11,Br 4 (AH Ah v)),(12,AD (v.length:Int)),(13,AD hb),(38,rP hf 0),(39,AD ((Aq v hb).fKind)),(40,rB (!decide (((Aq v hb).fKind)=4))),(41,rB (!decide (((Aq v hb).fKind)=4))),(55,rB ((!decide (((Aq v hb).fKind)=4))||(((Aq hd ((hd.length:Int)-1)).fStarted)&&(Cz ((Aq v hb).fStr) ((Aq hd ((hd.length:Int)-1)).fLast)||decide (((Aq v hb).fStr)=((Aq hd ((hd.length:Int)-1)).fLast))))))] [.blk hf (Ah (Aq v hb)) 83,.blk b2 (Bk ha) 124,.blk b1 [AD 0,AD 0,rB false,rB false] 124,.row he 152 5 (AH AO hd)] ?_ ?_))))))))
     ·refine AY (!decide (((Aq v hb).fKind)=4)) (λhh=>?_) (λhh=>?_)
      ·refine D0 [0,3,5,6,8,10,11,12,13] ?_;refine rq (Au CU Aa Ln Aa Aa) (rq (AM (i:=0) Lo Aa Aa Aa) (rq (BQ Aa Aa) (rq (Aj Aa) (rz hh (rz hh (rz hh (rz hh (rz hh (ru (ru (ru (ru (ru (ru (ru (rz hh (rq (r:=rB true) (A5 (b:=!decide (((Aq v hb).fKind)=4)) Aa hh Aa) (re [38,39,40,41,42,43,44,45,46,47,48,49,50,51,52,53,54,55,0,3,5,6,8,10,11,12,13] ?_))))))))))))))))));exact CI hh
      refine AY ((Aq hd ((hd.length:Int)-1)).fStarted) (λhk=>?_) (λhk=>?_)
      ·refine D0 [0,3,5,6,8,10,11,12,13] ?_;refine rq (Au CU Aa Ln Aa Aa) (rq (AM (i:=0) Lo Aa Aa Aa) (rq (BQ Aa Aa) (rq (Aj Aa) (rg hh (Aj Aa) (rg hh (r:=rv (Gd 5 he (BC ((hd.length:Int)-1)) 0)) (CK (k:=3) Aa (BE hj) Aa Aa) (rg hh (r:=rv (Gd 5 he (BC ((hd.length:Int)-1)) 4)) (EX (k:=3) JJ Aa Iy Aa (BE hj) Aa Aa Aa) (rg hh (r:=rB ((Aq hd ((hd.length:Int)-1)).fStarted)) (Hm (enc:=AO) (ys:=hd) (i:=3) (j:=(hd.length:Int)-1) SS Aa Aa hj Aa) (rg hh (Aj Aa) (rg hk (Au CU Aa BX Aa Aa) (rg hk (AM (i:=0) Cf Aa Aa Aa) (rg hk (Aj Aa) (rg hk (r:=rv (Gd 5 he (BC ((hd.length:Int)-1)) 0)) (CK (k:=3) Aa (BE hj) Aa Aa) (rg hk (r:=rv (Gd 5 he (BC ((hd.length:Int)-1)) 3)) (EX (k:=3) JJ Aa BX Aa (BE hj) Aa Aa Aa) (rg hk (r:=rS ((Aq hd ((hd.length:Int)-1)).fLast)) (Hm (enc:=AO) (ys:=hd) (i:=3) (j:=(hd.length:Int)-1) Cf Aa Aa hj Aa) (rg hk (ZK Aa Aa) (rg hh (A5 Aa hk Aa) (rq (A2 Aa hh Aa) (re [38,39,40,41,42,43,44,45,46,47,48,49,50,51,52,53,54,55,0,3,5,6,8,10,11,12,13] ?_))))))))))))))))));exact CI (And.intro hh hk)
      refine D0 [0,3,5,6,8,10,11,12,13] ?_;refine rq (Au CU Aa Ln Aa Aa) (rq (AM (i:=0) Lo Aa Aa Aa) (rq (BQ Aa Aa) (rq (Aj Aa) (rg hh (Aj Aa) (rg hh (r:=rv (Gd 5 he (BC ((hd.length:Int)-1)) 0)) (CK (k:=3) Aa (BE hj) Aa Aa) (rg hh (r:=rv (Gd 5 he (BC ((hd.length:Int)-1)) 4)) (EX (k:=3) JJ Aa Iy Aa (BE hj) Aa Aa Aa) (rg hh (r:=rB ((Aq hd ((hd.length:Int)-1)).fStarted)) (Hm (enc:=AO) (ys:=hd) (i:=3) (j:=(hd.length:Int)-1) SS Aa Aa hj Aa) (rg hh (Aj Aa) (rz hk (rz hk (rz hk (rz hk (rz hk (rz hk (rz hk (rg hh (r:=rB false) (A2 (b:=(Aq hd ((hd.length:Int)-1)).fStarted) Aa hk Aa) (rq (A2 Aa hh Aa) (re [38,39,40,41,42,43,44,45,46,47,48,49,50,51,52,53,54,55,0,3,5,6,8,10,11,12,13] ?_))))))))))))))))));exact CI (And.intro hh hk)
     refine cz hY Aa (λhZ ga=>?_) (λhZ gb=>?_)
     ·refine Ao (HQ (H1:=[.blk hf (Ah (Aq v hb)) 83,.blk b2 (Bk ha) 124,.blk b1 (Bk ha) 124,.row he 152 5 (AH AO hd)]) [3,5] [⟨[],BL (Bk ha),1⟩,⟨[],AD 0,0⟩,⟨[0],rv undef,2⟩,⟨[],rB false,0⟩] (rle [(3,_),(2,[.blk hf (Ah (Aq v hb)) 83,.blk b2 (Bk ha) 124,.blk b1 (Bk ha) 124,.row he 152 5 (AH AO hd)])]) [2,4,3] ?_ ?_)
      ·refine of (Bi (i:=1) Ls GB Aa Aa Aa Aa) (oq (AA Aa) (Kq Aa (Sf (EN (i:=2) GB Aa Aa Aa (Cm.c Aa) Aa Aa (cs':=[AD ha.fDepth,AD ha.fBytes,rB ha.fOutside,rB ha.fLong]) Aa (H':=[.blk hf (Ah (Aq v hb)) 83,.blk b2 (Bk ha) 124,.blk b1 (Bk ha) 124,.row he 152 5 (AH AO hd)]) Aa)) ?_));refine oq (AA Aa) ?_;exact Hu
      refine AX (A4 (Ae (Ae (AB (Ae (Ae (Be ?_)))))));have gc:=B1 ga hw hy;refine AB (Ae (KI ?_));obtain rfl:=A7 gc;exact A3 (Zq YC (AR Aa) (IW (i:=2) Ls GB Aa Aa Aa) (AR Aa)) (sS (sS (sS (sS sN)))) ⟨Aa,Aa⟩
     refine A0 (AX (Am (wm Aa (wm Aa (wm Aa (vF CU Aa BX (vL 0 Cf Aa (wv (r:=rv (Gd 5 he (BC ((hd.length:Int)-1)) 0)) (CK (k:=3) Aa (BE hj) Aa Aa) (wv (r:=rv (Gd 5 he (BC ((hd.length:Int)-1)) 3)) (EX (k:=3) JJ Aa BX Aa (BE hj) Aa Aa Aa) (Jx (enc:=AO) (ys:=hd) (y':=(AI.mk ((Aq hd ((hd.length:Int)-1)).fPairs) ((Aq hd ((hd.length:Int)-1)).fLeft) ((Aq hd ((hd.length:Int)-1)).fKey) ((Aq v hb).fStr) ((Aq hd ((hd.length:Int)-1)).fStarted))) (i:=3) (j:=(hd.length:Int)-1) BX Aa Aa (B5 Aa) Aa hj Aa Aa (H':=[.blk hf (Ah (Aq v hb)) 83,.blk b2 (Bk ha) 124,.blk b1 [AD 0,AD 0,rB false,rB false] 124,.row he 152 5 (AH AO (List.set hd (BC ((hd.length:Int)-1)) (AI.mk ((Aq hd ((hd.length:Int)-1)).fPairs) ((Aq hd ((hd.length:Int)-1)).fLeft) ((Aq hd ((hd.length:Int)-1)).fKey) ((Aq v hb).fStr) ((Aq hd ((hd.length:Int)-1)).fStarted))))]) Aa (bd gb λhr ht gd=>?_)))))))))));rw[← ht];refine wv (r:=rv (Gd 5 he (BC ((hd.length:Int)-1)) 0)) (CK (k:=3) Aa (BE (D3 hj ht)) Aa Aa) (wv (r:=rv (Gd 5 he (BC ((hd.length:Int)-1)) 4)) (EX (k:=3) JJ Aa Iy Aa (BE (D3 hj ht)) Aa Aa Aa) (Jx (enc:=AO) (ys:=hr) (y':=(AI.mk ((Aq hr ((hd.length:Int)-1)).fPairs) ((Aq hr ((hd.length:Int)-1)).fLeft) ((Aq hr ((hd.length:Int)-1)).fKey) ((Aq hr ((hd.length:Int)-1)).fLast) true)) (i:=3) (j:=(hd.length:Int)-1) Iy Aa Aa (B5 Aa) Aa (D3 hj ht) Aa Aa (H':=[.blk hf (Ah (Aq v hb)) 83,.blk b2 (Bk ha) 124,.blk b1 [AD 0,AD 0,rB false,rB false] 124,.row he 152 5 (AH AO (List.set hr (BC ((hd.length:Int)-1)) (AI.mk ((Aq hr ((hd.length:Int)-1)).fPairs) ((Aq hr ((hd.length:Int)-1)).fLeft) ((Aq hr ((hd.length:Int)-1)).fKey) ((Aq hr ((hd.length:Int)-1)).fLast) true)))]) Aa (bd gd λhs h0 ge=>?_)));rw[← h0];refine wv (r:=rv (Gd 5 he (BC ((hd.length:Int)-1)) 0)) (CK (k:=3) Aa (BE (D3 (D3 hj ht) h0)) Aa Aa) (wv (r:=rv (Gd 5 he (BC ((hd.length:Int)-1)) 2)) (EX (k:=3) JJ Aa Iy Aa (BE (D3 (D3 hj ht) h0)) Aa Aa Aa) (Jx (enc:=AO) (ys:=hs) (y':=(AI.mk ((Aq hs ((hd.length:Int)-1)).fPairs) ((Aq hs ((hd.length:Int)-1)).fLeft) false ((Aq hs ((hd.length:Int)-1)).fLast) ((Aq hs ((hd.length:Int)-1)).fStarted))) (i:=3) (j:=(hd.length:Int)-1) Iy Aa Aa (B5 Aa) Aa (D3 (D3 hj ht) h0) Aa Aa (H':=[.blk hf (Ah (Aq v hb)) 83,.blk b2 (Bk ha) 124,.blk b1 [AD 0,AD 0,rB false,rB false] 124,.row he 152 5 (AH AO (List.set hs (BC ((hd.length:Int)-1)) (AI.mk ((Aq hs ((hd.length:Int)-1)).fPairs) ((Aq hs ((hd.length:Int)-1)).fLeft) false ((Aq hs ((hd.length:Int)-1)).fLast) ((Aq hs ((hd.length:Int)-1)).fStarted))))]) Aa (bd ge λhu gf gg=>?_)));rw[← gf];refine Aw (Ao (ob gg λhm gh gi=>ck gi λgj gl=>HQ (H1:=[.blk hf (Ah (Aq v hb)) 83,.blk b2 [AD ha.fDepth,AD (IntKind.wrap .i64 (ha.fBytes+(hm+1))),rB ha.fOutside,rB ha.fLong] 124,.blk b1 [AD 0,AD 0,rB false,rB false] 124,.row he 152 5 (AH AO hu)]) [0,3,5,6,8,11,12,13,38,39,40,41] [⟨[],rP b2 1,0⟩,⟨[0],AD ha.fBytes,1⟩,⟨[],rP hf 2,0⟩,⟨[2],rS ((Aq v hb).fStr),1⟩,⟨[3],AD hm,0⟩,⟨[4],AD (hm+1),0⟩,⟨[1,5],AD (IntKind.wrap .i64 (ha.fBytes+(hm+1))),0⟩,⟨[],rP b2 1,0⟩,⟨[7,6],rv undef,2⟩] (rle [(9,_),(1,[.blk hf (Ah (Aq v hb)) 83,.blk b2 [AD ha.fDepth,AD (IntKind.wrap .i64 (ha.fBytes+(hm+1))),rB ha.fOutside,rB ha.fLong] 124,.blk b1 [AD 0,AD 0,rB false,rB false] 124,.row he 152 5 (AH AO hu)])]) [68,69,70,71,72,73,74,75,0,3,5,6,8,11,12,13,38,39,40,41] ?_ ?_))
     ·refine oq (Au Ge Aa Cy Aa Aa) (of (AM (i:=1) CO Aa Aa Aa) (oq (Au CU Aa BX Aa Aa) (of (AM (i:=0) Cf Aa Aa Aa) (Tx Aa (λH=>G0 Tryz.call115 (Q9 ((Aq v hb).fStr) hm gh) Aa) ?_))));refine oq (BW Aa Aa gj) (oq (UQ Aa Aa) (oq (Au Ge Aa Cy Aa Aa) (Kq Aa (Sf (Lm (i:=1) Cy Aa Aa (B5 Aa) Aa Aa (cs':=[AD ha.fDepth,AD (IntKind.wrap .i64 (ha.fBytes+(hm+1))),rB ha.fOutside,rB ha.fLong]) Aa (H':=[.blk hf (Ah (Aq v hb)) 83,.blk b2 [AD ha.fDepth,AD (IntKind.wrap .i64 (ha.fBytes+(hm+1))),rB ha.fOutside,rB ha.fLong] 124,.blk b1 [AD 0,AD 0,rB false,rB false] 124,.row he 152 5 (AH AO hu)]) Aa)) ?_)));exact Hu
     refine AX (AV [(0,Br 4 (AH Ah v)),(3,rP b1 0),(5,rP b2 0),(6,rv he),(11,Br 4 (AH Ah v)),(12,AD (v.length:Int)),(13,AD hb),(38,rP hf 0),(39,AD ((Aq v hb).fKind)),(40,rB (!decide (((Aq v hb).fKind)=4))),(41,rB (!decide (((Aq v hb).fKind)=4))),(68,rP b2 1),(69,AD ha.fBytes),(70,rP hf 2),(71,rS ((Aq v hb).fStr)),(72,AD hm),(73,AD (hm+1)),(74,AD (IntKind.wrap .i64 (ha.fBytes+(hm+1)))),(75,rP b2 1)] [.blk hf (Ah (Aq v hb)) 83,.blk b2 [AD ha.fDepth,AD (IntKind.wrap .i64 (ha.fBytes+(hm+1))),rB ha.fOutside,rB (ha.fLong||(decide (200<(((Aq v hb).fStr).length:Int))))] 124,.blk b1 [AD 0,AD 0,rB false,rB false] 124,.row he 152 5 (AH AO hu)] ?_ ?_)
     ·refine An (vF Ge Aa Iy (vL 1 SS Aa (wm Aa (AY (ha.fLong) (λho=>?_) (λho=>?_)))))
      ·refine wf ho (wf ho (wf ho (wf ho (wv (r:=rB true) (A5 Aa ho Aa) (vF Ge Aa Iy (us (i:=1) Iy Aa Aa (B5 Aa) Aa Aa ?_))))));refine As (Ju (H':=[.blk hf (Ah (Aq v hb)) 83,.blk b2 [AD ha.fDepth,AD (IntKind.wrap .i64 (ha.fBytes+(hm+1))),rB ha.fOutside,rB (ha.fLong||(decide (200<(((Aq v hb).fStr).length:Int))))] 124,.blk b1 [AD 0,AD 0,rB false,rB false] 124,.row he 152 5 (AH AO hu)]) (by simp only[ho,AfT,Agc,Ago,AfW,Agg,Age,Agl,Agi,AfR,Agh,AfL,AfH]) ?_);exact wt
      refine wo ho (vF CU Aa BX (wo ho (vL 0 Cf Aa (wo ho (wv (BF CT Aa) (wo ho (wv (DT Aa Aa) (G9 Aa ho Aa (vF Ge Aa Iy (us (i:=1) Iy Aa Aa (B5 Aa) Aa Aa ?_))))))))));refine As (Ju (H':=[.blk hf (Ah (Aq v hb)) 83,.blk b2 [AD ha.fDepth,AD (IntKind.wrap .i64 (ha.fBytes+(hm+1))),rB ha.fOutside,rB (ha.fLong||(decide (200<(((Aq v hb).fStr).length:Int))))] 124,.blk b1 [AD 0,AD 0,rB false,rB false] 124,.row he 152 5 (AH AO hu)]) (by simp only[ho,AfT,Agc,Ago,AfW,Agg,Age,Agl,Agi,AfR,Agh,AfL,AfH]) ?_);exact wt
     exact B3 (A9 (Bn (Ay (AE ((hu,(AT.mk ha.fDepth (IntKind.wrap .i64 (ha.fBytes+(hm+1))) ha.fOutside (ha.fLong||(decide (200<(((Aq v hb).fStr).length:Int)))))),he) gl (AG.c Aa (AG.c Aa (AG.c5 Aa Aa Aa Aa Aa AG.nil))) (sS (sC (sC (sC sN))))))))
    refine A0 (AX (Am (vF Ge Aa Cy (vL 1 CO Aa (wm Aa (wv (Ca (ys:=hd) (enc:=AO) (i:=3) JK Aa Aa) (ck hV λgm gp=>wv (BW Aa Aa gm) (wv (AcR Y2 Aa Aa) (vF Ge Aa Cy (us (i:=1) Cy Aa Aa (B5 Aa) Aa Aa ?_))))))))));refine Aw (Ao (ob gp λhg gq gr=>HQ (H1:=[.blk hf (Ah (Aq v hb)) 83,.blk b2 [AD (max ha.fDepth ((hd.length:Int)+1)),AD (IntKind.wrap .i64 (ha.fBytes+hg)),rB ha.fOutside,rB ha.fLong] 124,.blk b1 [AD 0,AD 0,rB false,rB false] 124,.row he 152 5 (AH AO hd)]) [0,3,5,6,7,8,11,12,13] [⟨[],rP b2 1,0⟩,⟨[0],AD ha.fBytes,1⟩,⟨[],BL (Ah (Aq v hb)),1⟩,⟨[2],AD hg,0⟩,⟨[1,3],AD (IntKind.wrap .i64 (ha.fBytes+hg)),0⟩,⟨[],rP b2 1,0⟩,⟨[5,4],rv undef,2⟩] (rle [(7,_),(1,[.blk hf (Ah (Aq v hb)) 83,.blk b2 [AD (max ha.fDepth ((hd.length:Int)+1)),AD (IntKind.wrap .i64 (ha.fBytes+hg)),rB ha.fOutside,rB ha.fLong] 124,.blk b1 [AD 0,AD 0,rB false,rB false] 124,.row he 152 5 (AH AO hd)])]) [92,93,94,95,96,97,0,3,5,6,7,8,11,12,13] ?_ ?_))
    ·refine oq (Au Ge Aa Cy Aa Aa) (of (AM (i:=1) CO Aa Aa Aa) (of (Bi (i:=0) WO EB Aa Aa Aa Aa) (Tx Aa (λH=>G0 Tryz.call116 (AbA (Aq v hb) hg gq) Aa) ?_)));refine oq (UQ Aa Aa) (oq (Au Ge Aa Cy Aa Aa) (Kq Aa (Sf (Lm (i:=1) Cy Aa Aa (B5 Aa) Aa Aa (cs':=[AD (max ha.fDepth ((hd.length:Int)+1)),AD (IntKind.wrap .i64 (ha.fBytes+hg)),rB ha.fOutside,rB ha.fLong]) Aa (H':=[.blk hf (Ah (Aq v hb)) 83,.blk b2 [AD (max ha.fDepth ((hd.length:Int)+1)),AD (IntKind.wrap .i64 (ha.fBytes+hg)),rB ha.fOutside,rB ha.fLong] 124,.blk b1 [AD 0,AD 0,rB false,rB false] 124,.row he 152 5 (AH AO hd)]) Aa)) ?_));exact Hu
    refine AX (ck gr λgs gt=>AV [(0,Br 4 (AH Ah v)),(3,rP b1 0),(5,rP b2 0),(6,rv he),(7,AD hb),(8,rP hf 0),(11,Br 4 (AH Ah v)),(12,AD (v.length:Int)),(13,AD hb),(92,rP b2 1),(93,AD ha.fBytes),(94,BL (Ah (Aq v hb))),(95,AD hg),(96,AD (IntKind.wrap .i64 (ha.fBytes+hg))),(97,rP b2 1)] [.blk hf (Ah (Aq v hb)) 83,.blk b2 [AD (max ha.fDepth ((hd.length:Int)+1)),AD (IntKind.wrap .i64 (ha.fBytes+hg)),rB (ha.fOutside||((decide (((Aq v hb).fKind)=3))&&(!(ov (Co ((Aq v hb).fInt)))))),rB ha.fLong] 124,.blk b1 [AD 0,AD 0,rB false,rB false] 124,.row he 152 5 (AH AO hd)] ?_ ?_)
    ·refine An (vF Ge Aa Iy (vL 1 SS Aa (wm Aa (AY (ha.fOutside) (λhl=>?_) (λhl=>?_)))))
     ·refine wf hl (wf hl (wf hl (wf hl (wu (wu (wu (wu (wf hl (wv (r:=rB true) (A5 Aa hl Aa) (vF Ge Aa Iy (us (i:=1) Iy Aa Aa (B5 Aa) Aa Aa ?_)))))))))));refine As (Ju (H':=[.blk hf (Ah (Aq v hb)) 83,.blk b2 [AD (max ha.fDepth ((hd.length:Int)+1)),AD (IntKind.wrap .i64 (ha.fBytes+hg)),rB (ha.fOutside||((decide (((Aq v hb).fKind)=3))&&(!(ov (Co ((Aq v hb).fInt)))))),rB ha.fLong] 124,.blk b1 [AD 0,AD 0,rB false,rB false] 124,.row he 152 5 (AH AO hd)]) (by simp only[hl,AfT,Agc,Ago,AfW,Agg,Age,Agl,Agi,AfR,Agh,AfL,AfH]) ?_);exact wt
     refine wo hl (vF CU Aa Ln (wo hl (vL 0 Lo Aa (wo hl (wv (BR Aa Aa) (wo hl (wm Aa (AY (decide (((Aq v hb).fKind)=3)) (λhn=>?_) (λhn=>?_)))))))))
     ·refine wo hn (vF CU Aa Cy (wo hn (vL 0 CO Aa (wo hn (DI Tryz.call117 (Aab ((Aq v hb).fInt) (ov (Co ((Aq v hb).fInt))) (Og (Gt (EA gs hl) hn))) Aa (wo hn (wv (BT Aa) (wo hl (It Aa hn Aa (G9 Aa hl Aa (vF Ge Aa Iy (us (i:=1) Iy Aa Aa (B5 Aa) Aa Aa ?_))))))))))));refine As (Ju (H':=[.blk hf (Ah (Aq v hb)) 83,.blk b2 [AD (max ha.fDepth ((hd.length:Int)+1)),AD (IntKind.wrap .i64 (ha.fBytes+hg)),rB (ha.fOutside||((decide (((Aq v hb).fKind)=3))&&(!(ov (Co ((Aq v hb).fInt)))))),rB ha.fLong] 124,.blk b1 [AD 0,AD 0,rB false,rB false] 124,.row he 152 5 (AH AO hd)]) (by simp only[hl,hn,AfT,Agc,Ago,AfW,Agg,Age,Agl,Agi,AfR,Agh,AfL,AfH]) ?_);exact wt
     refine wf hn (wf hn (wf hn (wf hn (wo hl (wv (r:=rB false) (A2 Aa hn Aa) (G9 Aa hl Aa (vF Ge Aa Iy (us (i:=1) Iy Aa Aa (B5 Aa) Aa Aa ?_))))))));refine As (Ju (H':=[.blk hf (Ah (Aq v hb)) 83,.blk b2 [AD (max ha.fDepth ((hd.length:Int)+1)),AD (IntKind.wrap .i64 (ha.fBytes+hg)),rB (ha.fOutside||((decide (((Aq v hb).fKind)=3))&&(!(ov (Co ((Aq v hb).fInt)))))),rB ha.fLong] 124,.blk b1 [AD 0,AD 0,rB false,rB false] 124,.row he 152 5 (AH AO hd)]) (by simp only[hl,hn,AfT,Agc,Ago,AfW,Agg,Age,Agl,Agi,AfR,Agh,AfL,AfH]) ?_);exact wt
    refine AV [(0,Br 4 (AH Ah v)),(3,rP b1 0),(5,rP b2 0),(6,rv he),(7,AD hb),(8,rP hf 0),(11,Br 4 (AH Ah v)),(12,AD (v.length:Int)),(13,AD hb),(92,rP b2 1),(93,AD ha.fBytes),(94,BL (Ah (Aq v hb))),(95,AD hg),(96,AD (IntKind.wrap .i64 (ha.fBytes+hg))),(97,rP b2 1)] [.blk hf (Ah (Aq v hb)) 83,.blk b2 [AD (max ha.fDepth ((hd.length:Int)+1)),AD (IntKind.wrap .i64 (ha.fBytes+hg)),rB (ha.fOutside||((decide (((Aq v hb).fKind)=3))&&(!(ov (Co ((Aq v hb).fInt)))))),rB (ha.fLong||(decide (200<(((Aq v hb).fStr).length:Int))))] 124,.blk b1 [AD 0,AD 0,rB false,rB false] 124,.row he 152 5 (AH AO hd)] ?_ ?_
    ·refine An (vF Ge Aa Iy (vL 1 SS Aa (wm Aa (AY (ha.fLong) (λhp=>?_) (λhp=>?_)))))
     ·refine wf hp (wf hp (wf hp (wf hp (wv (r:=rB true) (A5 Aa hp Aa) (vF Ge Aa Iy (us (i:=1) Iy Aa Aa (B5 Aa) Aa Aa ?_))))));refine As (Ju (H':=[.blk hf (Ah (Aq v hb)) 83,.blk b2 [AD (max ha.fDepth ((hd.length:Int)+1)),AD (IntKind.wrap .i64 (ha.fBytes+hg)),rB (ha.fOutside||((decide (((Aq v hb).fKind)=3))&&(!(ov (Co ((Aq v hb).fInt)))))),rB (ha.fLong||(decide (200<(((Aq v hb).fStr).length:Int))))] 124,.blk b1 [AD 0,AD 0,rB false,rB false] 124,.row he 152 5 (AH AO hd)]) (by simp only[hp,AfT,Agc,Ago,AfW,Agg,Age,Agl,Agi,AfR,Agh,AfL,AfH]) ?_);exact wt
     refine wo hp (vF CU Aa BX (wo hp (vL 0 Cf Aa (wo hp (wv (BF CT Aa) (wo hp (wv (DT Aa Aa) (G9 Aa hp Aa (vF Ge Aa Iy (us (i:=1) Iy Aa Aa (B5 Aa) Aa Aa ?_))))))))));refine As (Ju (H':=[.blk hf (Ah (Aq v hb)) 83,.blk b2 [AD (max ha.fDepth ((hd.length:Int)+1)),AD (IntKind.wrap .i64 (ha.fBytes+hg)),rB (ha.fOutside||((decide (((Aq v hb).fKind)=3))&&(!(ov (Co ((Aq v hb).fInt)))))),rB (ha.fLong||(decide (200<(((Aq v hb).fStr).length:Int))))] 124,.blk b1 [AD 0,AD 0,rB false,rB false] 124,.row he 152 5 (AH AO hd)]) (by simp only[hp,AfT,Agc,Ago,AfW,Agg,Age,Agl,Agi,AfR,Agh,AfL,AfH]) ?_);exact wt
    refine Ao (Am (vF CU Aa Cy (vL 0 CO Aa (wv (DT Aa Aa) (Aw (cz gt Aa (λgu gv=>?_) (λgu gw=>?_)))))))
    ·refine Ao (Am (vF CU Aa Cy (vL 0 CO Aa (wm Aa (wv (Bx (ys:=v) (enc:=Ah) D5 Aa) (wv (DT Aa Aa) (Aw (cz gv Aa (λgx gy=>?_) (λgx gz=>?_)))))))))
     ·refine Ao (HQ (H1:=[.blk hf (Ah (Aq v hb)) 83,.blk b2 [AD (max ha.fDepth ((hd.length:Int)+1)),AD (IntKind.wrap .i64 (ha.fBytes+hg)),rB (ha.fOutside||((decide (((Aq v hb).fKind)=3))&&(!(ov (Co ((Aq v hb).fInt)))))),rB (ha.fLong||(decide (200<(((Aq v hb).fStr).length:Int))))] 124,.blk b1 [AD (max ha.fDepth ((hd.length:Int)+1)),AD (IntKind.wrap .i64 (ha.fBytes+hg)),rB (ha.fOutside||((decide (((Aq v hb).fKind)=3))&&(!(ov (Co ((Aq v hb).fInt)))))),rB (ha.fLong||(decide (200<(((Aq v hb).fStr).length:Int))))] 124,.row he 152 5 (AH AO hd)]) [3,5] [⟨[],BL [AD (max ha.fDepth ((hd.length:Int)+1)),AD (IntKind.wrap .i64 (ha.fBytes+hg)),rB (ha.fOutside||((decide (((Aq v hb).fKind)=3))&&(!(ov (Co ((Aq v hb).fInt)))))),rB (ha.fLong||(decide (200<(((Aq v hb).fStr).length:Int))))],1⟩,⟨[],AD 0,0⟩,⟨[0],rv undef,2⟩,⟨[],rB false,0⟩] (rle [(3,_),(2,[.blk hf (Ah (Aq v hb)) 83,.blk b2 [AD (max ha.fDepth ((hd.length:Int)+1)),AD (IntKind.wrap .i64 (ha.fBytes+hg)),rB (ha.fOutside||((decide (((Aq v hb).fKind)=3))&&(!(ov (Co ((Aq v hb).fInt)))))),rB (ha.fLong||(decide (200<(((Aq v hb).fStr).length:Int))))] 124,.blk b1 [AD (max ha.fDepth ((hd.length:Int)+1)),AD (IntKind.wrap .i64 (ha.fBytes+hg)),rB (ha.fOutside||((decide (((Aq v hb).fKind)=3))&&(!(ov (Co ((Aq v hb).fInt)))))),rB (ha.fLong||(decide (200<(((Aq v hb).fStr).length:Int))))] 124,.row he 152 5 (AH AO hd)])]) [2,4,3] ?_ ?_)
      ·refine of (Bi (i:=1) Ls GB Aa Aa Aa Aa) (oq (AA Aa) (Kq Aa (Sf (EN (i:=2) GB Aa Aa Aa (Cm.c Aa) Aa Aa (cs':=[AD (max ha.fDepth ((hd.length:Int)+1)),AD (IntKind.wrap .i64 (ha.fBytes+hg)),rB (ha.fOutside||((decide (((Aq v hb).fKind)=3))&&(!(ov (Co ((Aq v hb).fInt)))))),rB (ha.fLong||(decide (200<(((Aq v hb).fStr).length:Int))))]) Aa (H':=[.blk hf (Ah (Aq v hb)) 83,.blk b2 [AD (max ha.fDepth ((hd.length:Int)+1)),AD (IntKind.wrap .i64 (ha.fBytes+hg)),rB (ha.fOutside||((decide (((Aq v hb).fKind)=3))&&(!(ov (Co ((Aq v hb).fInt)))))),rB (ha.fLong||(decide (200<(((Aq v hb).fStr).length:Int))))] 124,.blk b1 [AD (max ha.fDepth ((hd.length:Int)+1)),AD (IntKind.wrap .i64 (ha.fBytes+hg)),rB (ha.fOutside||((decide (((Aq v hb).fKind)=3))&&(!(ov (Co ((Aq v hb).fInt)))))),rB (ha.fLong||(decide (200<(((Aq v hb).fStr).length:Int))))] 124,.row he 152 5 (AH AO hd)]) Aa)) ?_));refine oq (AA Aa) ?_;exact Hu
      refine AX (A4 (Ae (Ae (AB (Ae (Ae (Be ?_)))))));have g0:=B1 gy hw hy;refine AB (Ae (KI ?_));obtain rfl:=A7 g0;exact A3 (Zq YC (AR Aa) (IW (i:=2) Ls GB Aa Aa Aa) (AR Aa)) (sS (sS (sS (sS sN)))) ⟨Aa,Aa⟩
     refine A0 (AX (Am (wm Aa (vF CU Aa Ln (vL 0 Lo Aa (wv (BR Aa Aa) (vF CU Aa Cy (vL 0 CO Aa (vF CU Aa Ln (vL 0 Lo Aa (wv (BR Aa Aa) (wv (r:=BL [rB (decide (((Aq v hb).fKind)=6)),AD ((Aq v hb).fN),rB (decide (((Aq v hb).fKind)=6)),rS ([]:Ai),rB false]) (Ng Aa Aa Aa Aa Aa Aa) (Bf (ys:=([(AI.mk (decide (((Aq v hb).fKind)=6)) ((Aq v hb).fN) (decide (((Aq v hb).fKind)=6)) ([]:Ai) false)]:List AI)) (enc:=AO) (css:=[[rB (decide (((Aq v hb).fKind)=6)),AD ((Aq v hb).fN),rB (decide (((Aq v hb).fKind)=6)),rS ([]:Ai),rB false]]) (xs:=[.tmp 139]) JK SN Tryz.zeroValue152 Aa Aa Aa ⟨E4.agg ⟨Up.refl _,Up.refl _,Up.refl _,Up.refl _,Up.refl _,trivial⟩,trivial⟩ Aa JO Aa Aa Aa (λgI=>?_))))))))))))));refine ck gz λg1 g2=>Exists.elim Acs λinf hinf=>Cc (xs:=hd) (ys:=([(AI.mk (decide (((Aq v hb).fKind)=6)) ((Aq v hb).fN) (decide (((Aq v hb).fKind)=6)) ([]:Ai) false)]:List AI)) (enc:=AO) (i:=4) JK hinf.1 hinf.2.1 hinf.2.2.1 hinf.2.2.2 Aa Aa Aa Aa Aa (JG.w (i:=0) Aa Aa) JO Om g1 Aa (λg3=>?_);refine wa Aa (Aw (B3 (A9 (Bn (Gx [3,3] ?_)))));exact Ay (AE ((hd++([(AI.mk (decide (((Aq v hb).fKind)=6)) ((Aq v hb).fN) (decide (((Aq v hb).fKind)=6)) ([]:Ai) false)]:List AI),(AT.mk (max ha.fDepth ((hd.length:Int)+1)) (IntKind.wrap .i64 (ha.fBytes+hg)) (ha.fOutside||((decide (((Aq v hb).fKind)=3))&&(!(ov (Co ((Aq v hb).fInt)))))) (ha.fLong||(decide (200<(((Aq v hb).fStr).length:Int)))))),g3) g2 (AG.c Aa (AG.c Aa (AG.c5 Aa Aa Aa Aa Aa AG.nil))) (sC (sC (sC (sS (sS sN))))))
    refine A0 (AX (Am (wm Aa (ob gw λhx g4 g5=>Dn [3] Tryz.call118 (WY F he hd hx g4) ?_))));rintro _ _ ⟨h1,rfl,rfl⟩;refine wa Aa (B0 (wm Aa (wv (Ca (ys:=hx) (enc:=AO) (i:=0) JK Aa Aa) (wv (BR Aa Aa) (Aw (cz g5 Aa (λg6 g7=>?_) (λg6 g8=>?_)))))))
    ·refine Ao (ck g7 λg9 gA=>HQ (H1:=[.row h1 152 5 (AH AO hx),.blk hf (Ah (Aq v hb)) 83,.blk b2 [AD (max ha.fDepth ((hd.length:Int)+1)),AD (IntKind.wrap .i64 (ha.fBytes+hg)),rB (ha.fOutside||((decide (((Aq v hb).fKind)=3))&&(!(ov (Co ((Aq v hb).fInt)))))),rB (ha.fLong||(decide (200<(((Aq v hb).fStr).length:Int))))] 124,.blk b1 [AD (max ha.fDepth ((hd.length:Int)+1)),AD (IntKind.wrap .i64 (ha.fBytes+hg)),rB (ha.fOutside||((decide (((Aq v hb).fKind)=3))&&(!(ov (Co ((Aq v hb).fInt)))))),rB (ha.fLong||(decide (200<(((Aq v hb).fStr).length:Int))))] 124]) [3,5,7] [⟨[],AD hb,0⟩,⟨[0],AD (hb+1),0⟩,⟨[],BL [AD (max ha.fDepth ((hd.length:Int)+1)),AD (IntKind.wrap .i64 (ha.fBytes+hg)),rB (ha.fOutside||((decide (((Aq v hb).fKind)=3))&&(!(ov (Co ((Aq v hb).fInt)))))),rB (ha.fLong||(decide (200<(((Aq v hb).fStr).length:Int))))],1⟩,⟨[1],AD (hb+1),0⟩,⟨[2],rv undef,2⟩,⟨[],rB true,0⟩] (rle [(5,_),(2,[.row h1 152 5 (AH AO hx),.blk hf (Ah (Aq v hb)) 83,.blk b2 [AD (max ha.fDepth ((hd.length:Int)+1)),AD (IntKind.wrap .i64 (ha.fBytes+hg)),rB (ha.fOutside||((decide (((Aq v hb).fKind)=3))&&(!(ov (Co ((Aq v hb).fInt)))))),rB (ha.fLong||(decide (200<(((Aq v hb).fStr).length:Int))))] 124,.blk b1 [AD (max ha.fDepth ((hd.length:Int)+1)),AD (IntKind.wrap .i64 (ha.fBytes+hg)),rB (ha.fOutside||((decide (((Aq v hb).fKind)=3))&&(!(ov (Co ((Aq v hb).fInt)))))),rB (ha.fLong||(decide (200<(((Aq v hb).fStr).length:Int))))] 124])]) [2,4,3] ?_ ?_)
     ·refine oq (Aj Aa) (oq (BW Aa Aa g9) (of (Bi (i:=2) Ls GB Aa Aa Aa Aa) (oq (AA Aa) (Kq Aa (Sf (EN (i:=3) GB Aa Aa Aa (Cm.c Aa) Aa Aa (cs':=[AD (max ha.fDepth ((hd.length:Int)+1)),AD (IntKind.wrap .i64 (ha.fBytes+hg)),rB (ha.fOutside||((decide (((Aq v hb).fKind)=3))&&(!(ov (Co ((Aq v hb).fInt)))))),rB (ha.fLong||(decide (200<(((Aq v hb).fStr).length:Int))))]) Aa (H':=[.row h1 152 5 (AH AO hx),.blk hf (Ah (Aq v hb)) 83,.blk b2 [AD (max ha.fDepth ((hd.length:Int)+1)),AD (IntKind.wrap .i64 (ha.fBytes+hg)),rB (ha.fOutside||((decide (((Aq v hb).fKind)=3))&&(!(ov (Co ((Aq v hb).fInt)))))),rB (ha.fLong||(decide (200<(((Aq v hb).fStr).length:Int))))] 124,.blk b1 [AD (max ha.fDepth ((hd.length:Int)+1)),AD (IntKind.wrap .i64 (ha.fBytes+hg)),rB (ha.fOutside||((decide (((Aq v hb).fKind)=3))&&(!(ov (Co ((Aq v hb).fInt)))))),rB (ha.fLong||(decide (200<(((Aq v hb).fStr).length:Int))))] 124]) Aa)) ?_))));refine oq (AA Aa) ?_;exact Hu
     refine AX (A4 (AB (Ae (Ae (Be ?_)))));have gB:=B1 gA hw hy;refine AB (Ae (KI ?_));obtain rfl:=A7 gB;exact A3 (Zq YC (AR Aa) (IW (i:=3) Ls GB Aa Aa Aa) (AR Aa)) (sS (sS (sS (sS sN)))) ⟨Aa,Aa⟩
    refine A0 (AK (Gx [2,2] ?_));exact Ay (AE ((hx,(AT.mk (max ha.fDepth ((hd.length:Int)+1)) (IntKind.wrap .i64 (ha.fBytes+hg)) (ha.fOutside||((decide (((Aq v hb).fKind)=3))&&(!(ov (Co ((Aq v hb).fInt)))))) (ha.fLong||(decide (200<(((Aq v hb).fStr).length:Int)))))),h1) g8 (AG.c Aa (AG.c Aa (AG.c5 Aa Aa Aa Aa Aa AG.nil))) (sC (sC (sC (sS sN)))))
   rintro⟨⟨h6,h7⟩,gC⟩ h2;refine GC ?_;replace h2:EI hb h6 h7=some h4:=h2;unfold EI at h2;refine An (ck h2 λgD gE=>wv (BW Aa Aa gD) (wm Aa (As ?_)));have gF:=B9 gE hw;exact Ay (AE (hB,(h6,hb+1,h7),gC) ⟨gF,AfV _⟩ (AG.c Aa (AG.c Aa (AG.c5 Aa Aa Aa Aa Aa AG.nil))) (sC (sC (sC sN))))
  refine B3 (A9 ?_);have gG:=Cw hE hw hy;exact A9 (Bo (AE (ha,()) gG (AG.c Aa (AG.c Aa AG.nil)) (sC (sC (sS sN)))))
 rintro⟨hq,⟨⟩⟩ h3;refine JZ ?_;replace h3:Mh hq=some r:=h3;unfold Mh at h3;refine Bn (AX (Ao (HQ (H1:=[.blk b2 (Bk hq) 124,.blk b1 (Bk hq) 124]) [3,5] [⟨[],BL (Bk hq),1⟩,⟨[],AD 0,0⟩,⟨[0],rv undef,2⟩,⟨[],rB false,0⟩] (rle [(3,_),(2,[.blk b2 (Bk hq) 124,.blk b1 (Bk hq) 124])]) [2,4,3] ?_ ?_)))
 ·refine of (Bi (i:=0) Ls GB Aa Aa Aa Aa) (oq (AA Aa) (Kq Aa (Sf (EN (i:=1) GB Aa Aa Aa (Cm.c Aa) Aa Aa (cs':=[AD hq.fDepth,AD hq.fBytes,rB hq.fOutside,rB hq.fLong]) Aa (H':=[.blk b2 (Bk hq) 124,.blk b1 (Bk hq) 124]) Aa)) ?_));refine oq (AA Aa) ?_;exact Hu
 refine AX (A4 (KI ?_));obtain rfl:=A7 h3;exact A3 (Zq YC (AR Aa) (IW (i:=1) Ls GB Aa Aa Aa) (AR Aa)) (sS (sS sN)) ⟨Aa,Aa⟩
theorem Kh (F:Nat)(v:(List Ab))(r:Int)(h:Jw F v=some r):Fn Tryz.prog GE 55 [Br 4 (AH Ah v)] [] (λR H=>R=AD r∧H=[]):=by
 refine enter (n:=42) Tryz.func55 Aa Tryz.ntmps55 Aa (λw Z=>?_);unfold Jw at h;refine Am (wa Aa (B0 (wm Aa (ob h λr1 e3 h2=>DI Tryz.call89 (RL F v r1 e3) Aa (wm Aa (wv (A8 Aa Aa) (wv (A8 Aa Aa) (wv (A8 Aa Aa) (BZ (cs:=[AD 0,AD 0,rB false,rB false]) SK Aa Aa (λb4=>?_))))))))));refine wa Aa (LZ (i:=0) GB Aa Aa Aa (Cm.c Aa) Aa Aa ?_);refine wa Aa (Aw (Ao (AS (AV [(0,Br 4 (AH Ah v)),(4,rP b4 0),(12,rB ((!r1.2.2)||(!decide (r1.1=(v.length:Int)))))] [.blk b4 (Bk r1.2.1) 124] ?_ ?_))))
 ·refine An (wm Aa (wv (BT Aa) (wm Aa (AY (!r1.2.2) (λc5=>?_) (λc5=>?_)))))
  ·refine wf c5 (wf c5 (wf c5 (wf c5 (wv (r:=rB true) (A5 Aa c5 Aa) (wa Aa (As ?_))))));exact CI c5
  refine wo c5 (wm Aa (wo c5 (wm Aa (wo c5 (wv (Bx (ys:=v) (enc:=Ah) D5 Aa) (wo c5 (wv (BQ Aa Aa) (G9 Aa c5 Aa (wa Aa (As ?_))))))))));exact CI c5
 refine cz h2 Aa (λc6 h7=>?_) (λc6 h8=>?_)
 ·refine Am (wa Aa (Aw (A4 (AB (Ae ?_)))));obtain rfl:=A7 h7;exact A3 (Ch Ab2 (AR Aa)) (sS sN) ⟨Aa,Aa⟩
 refine Am (vF Ge Aa Iy (vL 0 SS Aa (wa Aa (Aw (cz h8 Aa (λc9 he=>?_) (λc9 hf=>?_))))))
 ·refine Am (wa Aa (Aw (A4 (AB (Ae ?_)))));obtain rfl:=A7 he;exact A3 (Ch Ab2 (AR Aa)) (sS sN) ⟨Aa,Aa⟩
 refine AV [(24,rB (r1.2.1.fLong||((decide (200<(v.length:Int)))||((decide (8<r1.2.1.fDepth))||(decide (4000<r1.2.1.fBytes))))))] [] ?_ ?_
 ·refine An (vF Ge Aa Iy (vL 0 SS Aa (wm Aa (AY (r1.2.1.fLong) (λha=>?_) (λha=>?_)))))
  ·refine wf ha (wf ha (wf ha (wv (r:=rB true) (A5 Aa ha Aa) (wm Aa (wz Aa Aa (wz Aa Aa (wz Aa Aa (wv (r:=rB true) (A5 (b:=true) Aa Aa Aa) (wm Aa (wz Aa Aa (wz Aa Aa (wz Aa Aa (wv (r:=rB true) (A5 (b:=true) Aa Aa Aa) (wa Aa (As ?_)))))))))))))));exact CI ha
  refine wo ha (wm Aa (wo ha (wv (Bx (ys:=v) (enc:=Ah) D5 Aa) (wo ha (wv (DT Aa Aa) (G9 Aa ha Aa (wm Aa (AY (decide (200<(v.length:Int))) (λhb=>?_) (λhb=>?_)))))))))
  ·refine wf hb (wf hb (wf hb (wv (r:=rB true) (A5 Aa hb Aa) (wm Aa (wz Aa Aa (wz Aa Aa (wz Aa Aa (wv (r:=rB true) (A5 (b:=true) Aa Aa Aa) (wa Aa (As ?_))))))))));exact CI (And.intro ha hb)
  refine wo hb (vF Ge Aa Cy (wo hb (vL 0 CO Aa (wo hb (wv (DT Aa Aa) (G9 Aa hb Aa (wm Aa (AY (decide (8<r1.2.1.fDepth)) (λhd=>?_) (λhd=>?_)))))))))
  ·refine wf hd (wf hd (wf hd (wv (r:=rB true) (A5 Aa hd Aa) (wa Aa (As ?_)))));exact CI (And.intro ha (And.intro hb hd))
  refine wo hd (vF Ge Aa Cy (wo hd (vL 0 CO Aa (wo hd (wv (DT Aa Aa) (G9 Aa hd Aa (wa Aa (As ?_))))))));exact CI (And.intro ha (And.intro hb hd))
 refine cz hf Aa (λhg hh=>?_) (λhg hi=>?_)
 ·refine Am (wa Aa (Aw (A4 (AB (Ae ?_)))));obtain rfl:=A7 hh;exact A3 (Ch Ab2 (AR Aa)) sN ⟨Aa,Aa⟩
 refine A0 (AK (AX (Am (wa Aa (Aw (A4 ?_))))));obtain rfl:=A7 hi;exact A3 (Ch Ab2 (AR Aa)) sN ⟨Aa,Aa⟩
theorem UB (F:Nat)(v:(List Ab))(r:(List Ab)×Int)(h:Mk F v=some r):Fn Tryz.prog GE 126 [Br 4 (AH Ah v)] [] (λR H=>R=CZ [Br 4 (AH Ah r.1),AD r.2]∧H=[]):=by
 refine enter (n:=11) Tryz.func126 Aa Tryz.ntmps126 Aa (λw Z=>?_);unfold Mk at h;refine Am (wa Aa (wa Aa (Aw (Ao (Am (wm Aa (ob h λr1 e3 h2=>DI YE (Kh F v r1 e3) Aa (wa Aa (B0 (wm Aa (wv (BQ Aa Aa) (Aw (cz h2 Aa (λc4 h5=>?_) (λc4 h6=>?_))))))))))))))
 ·refine Am (wm Aa (wa Aa (wa Aa (Aw (A4 (Ae (WK.up (d:=2) (r:=Br 4 (AH Ah ([]:List Ab))) Aa (Up.le (LW.nil _)) ?_)))))));obtain rfl:=A7 h5;exact A3 (E3 Tryz.results126 (AR Aa) (AR Aa)) sN ⟨Aa,Aa⟩
 refine A0 (AX (Am (wm Aa (wa Aa (wa Aa (Aw (A4 ?_)))))));obtain rfl:=A7 h6;exact A3 (E3 Tryz.results126 (AR Aa) (AR Aa)) sN ⟨Aa,Aa⟩
end Go.Proofs.YtfobhhegpkinaaaGreatDoor.Q
namespace Go.Proofs.YtfobhhegpkinaaaGreatDoor
open Go
set_option linter.unusedVariables false
def DF (s:Ai)(ha:Int)(hb:Ai):Option (Stp (Int×Ai) (Out (Ai) (Ai))):=
 Bw (decide (ha<(s.length:Int))) (Bd (CY ha (s.length:Int))<|Bw (((decide ((B8 s ha)=34))||(decide ((B8 s ha)=92)))) (Bd (Dz 1 (hb.length+1))<|Bd (Cb .u8 92)<|Ma (hb++[UInt8.ofNat (Int.toNat 92)]) λhd=>Bd (Dz 1 (hd.length+1))<|Bd (Cb .u8 (B8 s ha))<|Ma (hd++[UInt8.ofNat (Int.toNat (B8 s ha))]) λhe=>Bd (Cb .i64 (ha+1))<|some (.next (ha+1,he))) (Bd (Dz 1 (hb.length+1))<|Bd (Cb .u8 (B8 s ha))<|Ma (hb++[UInt8.ofNat (Int.toNat (B8 s ha))]) λhf=>Bd (Cb .i64 (ha+1))<|some (.next (ha+1,hf)))) (some (.out (.go hb)))
def Gg (ha:Ai):Option (Ai):=
 Bd (Dz 1 (ha.length+1))<|Ma (ha++[UInt8.ofNat (Int.toNat 34)]) λhb=>some hb
def LE (F:Nat)(l:Ai)(s:Ai):Option (Ai):=
 Bd (Dz 1 (l.length+1))<|Bd (Cb .u8 34)<|Ma (l++[UInt8.ofNat (Int.toNat 34)]) λr6=>Bq (Ci (λσ=>DF s σ.1 σ.2) F (0,r6)) (BO λν=>Gg ν)
def KN (F:Nat)(hm:Ai→(List Ab)→Bool→Ai→Ab→Option (Bool×Bool×Ai))(ha:(List Ab)→Bool→Ai→Ab→Option (Bool×Ai))(l:Ai)(v:(List Ab)):Option (Ai):=
 Bd (CY 0 (v.length:Int))<|Bw (decide (((Aq v 0).fKind)=1)) (Bd (Dz 1 (l.length+([110,117,108,108]:Ai).length))<|Ma (l++([110,117,108,108]:Ai)) λhe=>some he) (Bw (decide (((Aq v 0).fKind)=2)) (Bd (CY ((Aq v 0).fInt) (([([102,97,108,115,101]:Ai),([116,114,117,101]:Ai)]:List Ai).length:Int))<|Bd (Dz 1 (l.length+(Aq ([([102,97,108,115,101]:Ai),([116,114,117,101]:Ai)]:List Ai) ((Aq v 0).fInt)).length))<|Ma (l++(Aq ([([102,97,108,115,101]:Ai),([116,114,117,101]:Ai)]:List Ai) ((Aq v 0).fInt))) λhf=>some hf) (Bw (decide (((Aq v 0).fKind)=3)) (Bd (Cb .i64 ((Aq v 0).fInt))<|Bd (Dz 1 (l.length+(Lib.itoa ((Aq v 0).fInt)).length))<|Ma (l++(Lib.itoa ((Aq v 0).fInt))) λhg=>some hg) (Bw (decide (((Aq v 0).fKind)=4)) (Bq (LE F l ((Aq v 0).fStr)) λhh=>some hh) (Bw (decide (((Aq v 0).fKind)=6)) (Bd (CY 0 (([123,125]:Ai).length:Int))<|Bd (Dz 1 (l.length+1))<|Bd (Cb .u8 (B8 ([123,125]:Ai) 0))<|Ma (l++[UInt8.ofNat (Int.toNat (B8 ([123,125]:Ai) 0))]) λhi=>Bq (ha v true hi (Aq v 0)) λhb=>Bd (CY 1 (([123,125]:Ai).length:Int))<|Bd (Dz 1 (hb.2.length+1))<|Bd (Cb .u8 (B8 ([123,125]:Ai) 1))<|Ma (hb.2++[UInt8.ofNat (Int.toNat (B8 ([123,125]:Ai) 1))]) λhj=>some hj) (Bd (CY 0 (([91,93]:Ai).length:Int))<|Bd (Dz 1 (l.length+1))<|Bd (Cb .u8 (B8 ([91,93]:Ai) 0))<|Ma (l++[UInt8.ofNat (Int.toNat (B8 ([91,93]:Ai) 0))]) λhk=>Bq (ha v true hk (Aq v 0)) λhd=>Bd (CY 1 (([91,93]:Ai).length:Int))<|Bd (Dz 1 (hd.2.length+1))<|Bd (Cb .u8 (B8 ([91,93]:Ai) 1))<|Ma (hd.2++[UInt8.ofNat (Int.toNat (B8 ([91,93]:Ai) 1))]) λhl=>some hl)))))
def Me (F:Nat)(ha:Ai→(List Ab)→Option (Ai))(key:Ai)(x:(List Ab))(first:Bool)(l:Ai)(c:Ab):Option (Bool×Bool×Ai):=
 Bw (!first) (Bd (Dz 1 (l.length+1))<|Bd (Cb .u8 44)<|Ma (l++[UInt8.ofNat (Int.toNat 44)]) λr8=>Bw (decide (c.fKind=6)) (Bq (LE F r8 key) λhb=>Bd (Dz 1 (hb.length+1))<|Bd (Cb .u8 58)<|Ma (hb++[UInt8.ofNat (Int.toNat 58)]) λhe=>Bq (ha he x) λhf=>some (true,false,hf)) (Bq (ha r8 x) λhg=>some (true,false,hg))) (Bw (decide (c.fKind=6)) (Bq (LE F l key) λhd=>Bd (Dz 1 (hd.length+1))<|Bd (Cb .u8 58)<|Ma (hd++[UInt8.ofNat (Int.toNat 58)]) λhh=>Bq (ha hh x) λhi=>some (true,false,hi)) (Bq (ha l x) λhj=>some (true,false,hj)))
def DO (F:Nat)(v:(List Ab))(c:Ab)(hj:Ai→(List Ab)→Bool→Ai→Ab→Option (Bool×Bool×Ai))(ha:Int)(hb:Int)(hh:Bool)(hi:Ai):Option (Stp (Int×Int×Bool×Ai) (Out (Bool×Ai) (Bool×Ai))):=
 Bw (decide (hb<((Aq v 0).fN))) (Bw (decide (((Aq v 0).fKind)=6)) (Bd (CY ha (v.length:Int))<|Bd (Cb .i64 (ha+1))<|Bd (Gs (ha+1) (v.length:Int))<|Bq (JM F (List.drop (Int.toNat (ha+1)) v)) λhd=>Bd (Cb .i64 ((ha+1)+hd.1))<|Bd (Gs (ha+1) ((ha+1)+hd.1))<|Bd (Gs ((ha+1)+hd.1) (v.length:Int))<|Bq (hj ((Aq v ha).fStr) (List.take (Int.toNat ((ha+1)+hd.1)-Int.toNat (ha+1)) (List.drop (Int.toNat (ha+1)) v)) hh hi c) λhe=>Bw (!he.1) (some (.out (.ret (he.2.1,he.2.2)))) (Bd (Cb .i64 (hb+1))<|some (.next ((ha+1)+hd.1,hb+1,he.2.1,he.2.2)))) (Bd (Gs ha (v.length:Int))<|Bq (JM F (List.drop (Int.toNat ha) v)) λhf=>Bd (Cb .i64 (ha+hf.1))<|Bd (Gs ha (ha+hf.1))<|Bd (Gs (ha+hf.1) (v.length:Int))<|Bq (hj ([]:Ai) (List.take (Int.toNat (ha+hf.1)-Int.toNat ha) (List.drop (Int.toNat ha) v)) hh hi c) λhg=>Bw (!hg.1) (some (.out (.ret (hg.2.1,hg.2.2)))) (Bd (Cb .i64 (hb+1))<|some (.next (ha+hf.1,hb+1,hg.2.1,hg.2.2))))) (some (.out (.go (hh,hi))))
def HS (ha:Bool)(hb:Ai):Option (Bool×Ai):=
 some (ha,hb)
def IO (F:Nat)(ha:Ai→(List Ab)→Bool→Ai→Ab→Option (Bool×Bool×Ai))(v:(List Ab))(first:Bool)(l:Ai)(c:Ab):Option (Bool×Ai):=
 Bd (CY 0 (v.length:Int))<|Bq (Ci (λσ=>DO F v c ha σ.1 σ.2.1 σ.2.2.1 σ.2.2.2) F (1,0,first,l)) (BO λν=>HS ν.1 ν.2)
mutual
def GI:Nat→Ai→(List Ab)→Option (Ai)
 | 0,_,_=>none
 | nn+1,l,v=>KN nn (EQ nn) (H3 nn) l v
def EQ:Nat→Ai→(List Ab)→Bool→Ai→Ab→Option (Bool×Bool×Ai)
 | 0,_,_,_,_,_=>none
 | nn+1,key,x,first,l,c=>Me nn (GI nn) key x first l c
def H3:Nat→(List Ab)→Bool→Ai→Ab→Option (Bool×Ai)
 | 0,_,_,_,_=>none
 | nn+1,v,first,l,c=>IO nn (EQ nn) v first l c
end
def Mi (F:Nat)(v:(List Ab)):Option (Ai×Int):=
 Bq (Jw F v) λr1=>Bw (!decide (r1=0)) (some (([]:Ai),r1)) (Bq (GI F ([]:Ai) v) λr8=>Bd (decide (0<r8.length))<|some (r8,0))
end Go.Proofs.YtfobhhegpkinaaaGreatDoor
namespace Go.Proofs.YtfobhhegpkinaaaGreatDoor.Q
open Go Go.RowKit
set_option linter.unusedVariables false
set_option linter.unusedSimpArgs false
set_option maxRecDepth 100000
set_option maxHeartbeats 4000000
theorem OS (F:Nat)(ha:Nat)(hj:Value)(l:Ai)(s:Ai)(r:Ai)(h:LE F l s=some r):Fn Tryz.prog GE 143 [rP ha 0,rS s] [.bld 146 5 ha hj l] (λR H=>∃w0b:Value,R=rv (.tuple #[])∧H=[.bld 146 5 ha w0b r]):=by
 refine enter (n:=32) Tryz.func143 Aa Tryz.ntmps143 Aa (λw Z=>?_);unfold LE at h;refine Am (wm Aa (ck h λg1 h2=>ck h2 λg3 h4=>C8 (rs:=[rP ha 0,rI .u8 34]) (Hin:=[.bld 146 5 ha hj l]) (Hr:=[]) JL Aa (AfX _) (CP ha hj l 34 g1 g3) Aa ?_));rintro _ _ ⟨v5,rfl,rfl⟩;refine bd h4 λr6 e8 h7=>?_;rw[← e8];refine Aw (Ao (Am (wm Aa (wv (BF CT Aa) (wv (r:=AD 0) (Aj Aa) (Aw (AS (ob h7 λhq hr hs=>B4 (S:=Nat×(Int×Ai)×(Value)) (V:=(Ai)×(Value)) 0 (λσ=>Ci (λσ=>DF s σ.1 σ.2) σ.1 σ.2.1=some hq) (λσ=>[(0,rP ha 0),(1,rS s),(8,AD (s.length:Int)),(9,AD σ.2.1.1)]) (λσ=>[.bld 146 5 ha σ.2.2 σ.2.1.2]) (λσ=>σ.1) (F,(0,r6),v5) hr (AG.c Aa (AG.c Aa (AG.c Aa (AG.c Aa AG.nil)))) (sC sN) (λσ=>Gg σ.1=some r) (λσ=>[(0,rP ha 0)]) (λσ=>[.bld 146 5 ha σ.2 σ.1]) ?_ ?_))))))))
 ·rintro⟨gf,⟨hd,he⟩,hf⟩ ht;refine GC ?_;obtain⟨hm,rfl,t127,hg,hk⟩:=Di ht;replace hg:DF s hd he=some t127:=hg;unfold DF at hg;refine Am (wv (Dh Aa Aa) (Aw (Ao (cz hg Aa (λhu hw=>?_) (λhu hx=>?_)))))
  ·refine A0 (AX (Ao (AS (Am (wm Aa (wa Aa (Aw (Ao (ck hw λhh hy=>AV [(0,rP ha 0),(1,rS s),(4,AD hd),(8,AD (s.length:Int)),(9,AD hd),(21,rB ((decide ((B8 s hd)=34))||(decide ((B8 s hd)=92))))] [.bld 146 5 ha hf he] ?_ ?_)))))))))
   ·refine An (wm Aa (wm Aa (wv (BA CT Aa Aa hh) (wv (BR Aa Aa) (wm Aa (AY (decide ((B8 s hd)=34)) (λhb=>?_) (λhb=>?_)))))))
    ·refine wf hb (wf hb (wf hb (wf hb (wv (r:=rB true) (A5 Aa hb Aa) (As ?_)))));exact CI hb
    refine wo hb (wm Aa (wo hb (wm Aa (wo hb (wv (BA CT Aa Aa hh) (wo hb (wv (BR Aa Aa) (G9 Aa hb Aa (As ?_)))))))));exact CI hb
   refine cz hy Aa (λhz h0=>?_) (λhz h1=>?_)
   ·refine An (wm Aa (ck h0 λh3 h5=>ck h5 λh6 h8=>C8 (rs:=[rP ha 0,rI .u8 92]) (Hin:=[.bld 146 5 ha hf he]) (Hr:=[]) JL Aa (AfX _) (CP ha hf he 92 h3 h6) Aa ?_));rintro _ _ ⟨hn,rfl,rfl⟩;refine bd h8 λho h9 hA=>?_;rw[← h9];refine Aw (An (wm Aa (wm Aa (wm Aa (wv (BA CT Aa Aa hh) (ck hA λhB hC=>ck hC λhD hE=>C8 (rs:=[rP ha 0,rI .u8 (B8 s hd)]) (Hin:=[.bld 146 5 ha hn ho]) (Hr:=[]) JL Aa (AfX _) (CP ha hn ho (B8 s hd) hB hD) Aa ?_))))));rintro _ _ ⟨hG,rfl,rfl⟩;refine bd hE λhH hI hJ=>?_;rw[← hI];refine As (AK (AX (An (ck hJ λhK hL=>wv (BW Aa Aa hK) (wm Aa (As ?_))))));have hN:=B9 hL hk;exact Ay (AE (hm,(hd+1,hH),hG) ⟨hN,AfV _⟩ (AG.c Aa (AG.c Aa (AG.c Aa (AG.c Aa AG.nil)))) (sC sN))
   refine A0 (AX (An (wm Aa (wm Aa (wm Aa (wv (BA CT Aa Aa hh) (ck h1 λhO hP=>ck hP λhQ hR=>C8 (rs:=[rP ha 0,rI .u8 (B8 s hd)]) (Hin:=[.bld 146 5 ha hf he]) (Hr:=[]) JL Aa (AfX _) (CP ha hf he (B8 s hd) hO hQ) Aa ?_)))))));rintro _ _ ⟨hS,rfl,rfl⟩;refine bd hR λhT hU hV=>?_;rw[← hU];refine As (AK (AX (An (ck hV λhW hX=>wv (BW Aa Aa hW) (wm Aa (As ?_))))));have hY:=B9 hX hk;exact Ay (AE (hm,(hd+1,hT),hS) ⟨hY,AfV _⟩ (AG.c Aa (AG.c Aa (AG.c Aa (AG.c Aa AG.nil)))) (sC sN))
  refine B3 (A9 ?_);have hZ:=Cw hx hk hs;exact A9 (Bo (AE (he,hf) hZ (AG.c Aa AG.nil) (sC sN)))
 rintro⟨hl,hp⟩ hi;refine JZ ?_;replace hi:Gg hl=some r:=hi;unfold Gg at hi;refine Bn (AX (An (wm Aa (ck hi λga gb=>C8 (rs:=[rP ha 0,rI .u8 34]) (Hin:=[.bld 146 5 ha hp hl]) (Hr:=[]) JL Aa (AfX _) (CP ha hp hl 34 ga g3) Aa ?_))));rintro _ _ ⟨gc,rfl,rfl⟩;refine bd gb λgg gd ge=>?_;rw[← gd];refine As ?_;obtain rfl:=A7 ge;exact HP (Xk Tryz.results143) (sC sN) ⟨gc,Aa,Aa⟩
theorem WS (F:Nat)(hl:Ai→(List Ab)→Bool→Ai→Ab→Option (Bool×Bool×Ai))(hm:(List Ab)→Bool→Ai→Ab→Option (Bool×Ai))(g6:(∀(hd:Nat) (he:Nat) (ha:Nat) (hb:Value) (hf:Nat) (key:Ai) (x:(List Ab)) (first:Bool) (l:Ai) (c:Ab) (r:Bool×Bool×Ai),hl key x first l c=some r→Fn Tryz.prog GE 146 [rS key,Br 4 (AH Ah x),rP hd 0,rP he 0,rP hf 0] [.blk hd [rB first] 4,.blk he [rP ha 0] 143,.bld 146 5 ha hb l,.blk hf (Ah c) 83] (λR H=>∃w3b:Value,R=rB r.1∧H=[.blk hd [rB r.2.1] 4,.blk he [rP ha 0] 143,.bld 146 5 ha w3b r.2.2,.blk hf (Ah c) 83])))(hn:(∀(hd:Nat) (he:Nat) (ha:Nat) (hb:Value) (hf:Nat) (v:(List Ab)) (first:Bool) (l:Ai) (c:Ab) (r:Bool×Ai),hm v first l c=some r→Fn Tryz.prog GE 145 [Br 4 (AH Ah v),rv (.func (.func 146) #[] #[(.pointer (some ⟨hd,0,none⟩)),(.pointer (some ⟨he,0,none⟩)),(.pointer (some ⟨hf,0,none⟩))])] [.blk hd [rB first] 4,.blk he [rP ha 0] 143,.bld 146 5 ha hb l,.blk hf (Ah c) 83] (λR H=>∃w1_1b:Value,R=rv (.tuple #[])∧H=[.blk hd [rB r.1] 4,.blk he [rP ha 0] 143,.bld 146 5 ha w1_1b r.2,.blk hf (Ah c) 83])))(ha:Nat)(hb:Value)(l:Ai)(v:(List Ab))(r:Ai)(h:KN F hl hm l v=some r):Fn Tryz.prog GE 110 [rP ha 0,Br 4 (AH Ah v)] [.bld 146 5 ha hb l] (λR H=>∃w0b:Value,R=rv (.tuple #[])∧H=[.bld 146 5 ha w0b r]):=by
 refine enter (n:=52) Tryz.func110 Aa Tryz.ntmps110 Aa (λw Z=>?_);unfold KN at h;refine Am (YR Aa (B5 Aa) Aa (λb1=>?_));refine B0 (wm Aa (ck h λg2 h3=>wv (AW (enc:=Ah) (ys:=v) D5 EB Aa Aa g2) (wv (Dm WO EB Aa Aa Aa) (BZ (cs:=[AD 0,AD 0,rS ([]:Ai),AD 0]) Oa Aa Aa (λb4=>?_)))));refine LZ (i:=0) EB Aa Aa Aa (Cm.c Aa) Aa Aa ?_;refine B0 (vF CU Aa Ln (vL 0 Lo Aa (Aw (AS (Am (wv (BR Aa Aa) (wa Aa (Aw (cz h3 Aa (λc5 h6=>?_) (λc5 ho=>?_))))))))))
 ·refine An (vL 1 Gf Aa (ck h6 λg7 h8=>C8 (rs:=[rP ha 0,rS ([110,117,108,108]:Ai)]) (Hin:=[.bld 146 5 ha hb l]) (Hr:=[.blk b4 (Ah (Aq v 0)) 83,.blk b1 [rP ha 0] 143]) Tryz.call142 Aa ((AP (i:=2) Aa).trans (AfQ _ (AfX _))) (IF ha hb l ([110,117,108,108]:Ai) g7) Aa ?_));rintro _ _ ⟨v9,rfl,rfl⟩;refine bd h8 λg8 hp hq=>?_;rw[← hp];refine As (AK ?_);obtain rfl:=A7 hq;exact HP (Xk Q5) (sC (sS (sS sN))) ⟨v9,Aa,Aa⟩
 refine Am (wv (BR Aa Aa) (wa Aa (Aw (cz ho Aa (λhr hs=>?_) (λhr ht=>?_)))))
 ·refine ck hs λg16 hu=>KK (H1:=[.blk b4 (Ah (Aq v 0)) 83,.blk b1 [rP ha 0] 143,.bld 146 5 ha hb l]) 6 [2,4] [⟨[],rP ha 0,1⟩,⟨[],Br 1 (AH eS ([([102,97,108,115,101]:Ai),([116,114,117,101]:Ai)]:List Ai)),0⟩,⟨[],rP b4 1,0⟩,⟨[2],AD ((Aq v 0).fInt),1⟩,⟨[1,3],rAt [rS (Aq ([([102,97,108,115,101]:Ai),([116,114,117,101]:Ai)]:List Ai) ((Aq v 0).fInt))],0⟩,⟨[4],rS (Aq ([([102,97,108,115,101]:Ai),([116,114,117,101]:Ai)]:List Ai) ((Aq v 0).fInt)),0⟩] (rle [(7,_)]) [32,33,34,35,36,37,2,4] ?_ ?_
  ·refine of (AM (i:=1) Gf Aa Aa Aa) (Tx Aa (λH=>C4 (ys:=([([102,97,108,115,101]:Ai),([116,114,117,101]:Ai)]:List Ai)) (enc:=eS) (css:=[[rS ([102,97,108,115,101]:Ai)],[rS ([116,114,117,101]:Ai)]]) (xs:=[.const (.string ⟨#[102,97,108,115,101]⟩),.const (.string ⟨#[116,114,117,101]⟩)]) CD BX V4 Aa Aa Aa ⟨E4.one Aa (Up.refl _),E4.one Aa (Up.refl _),trivial⟩ Aa DC Aa Aa) ?_);refine oq (Au CU Aa Cy Aa Aa) (of (AM (i:=0) CO Aa Aa Aa) (oq (AW (enc:=eS) (ys:=([([102,97,108,115,101]:Ai),([116,114,117,101]:Ai)]:List Ai)) CD BX Aa Aa g16) (oq (AJ Cf Aa Aa) ?_)));exact Hu
  refine ck hu λg18 hw=>C8 (rs:=[rP ha 0,rS (Aq ([([102,97,108,115,101]:Ai),([116,114,117,101]:Ai)]:List Ai) ((Aq v 0).fInt))]) (Hin:=[.bld 146 5 ha hb l]) (Hr:=[.blk b4 (Ah (Aq v 0)) 83,.blk b1 [rP ha 0] 143]) Tryz.call142 Aa ((AP (i:=2) Aa).trans (AfQ _ (AfX _))) (IF ha hb l (Aq ([([102,97,108,115,101]:Ai),([116,114,117,101]:Ai)]:List Ai) ((Aq v 0).fInt)) g18) Aa ?_;rintro _ _ ⟨v20,rfl,rfl⟩;refine bd hw λg9 hx hy=>?_;rw[← hx];refine As (AK ?_);obtain rfl:=A7 hy;exact HP (Xk Q5) (sC (sS (sS sN))) ⟨v20,Aa,Aa⟩
 refine Am (wv (BR Aa Aa) (wa Aa (Aw (cz ht Aa (λhz h0=>?_) (λhz h1=>?_)))))
 ·refine ck h0 λh2 h4=>KK (H1:=[.blk b4 (Ah (Aq v 0)) 83,.blk b1 [rP ha 0] 143,.bld 146 5 ha hb l]) 4 [2,4] [⟨[],rP ha 0,1⟩,⟨[],rP b4 1,0⟩,⟨[1],AD ((Aq v 0).fInt),1⟩,⟨[2],rS (Lib.itoa ((Aq v 0).fInt)),0⟩] (rle [(5,_)]) [41,42,43,44,2,4] ?_ ?_
  ·refine of (AM (i:=1) Gf Aa Aa Aa) (oq (Au CU Aa Cy Aa Aa) (of (AM (i:=0) CO Aa Aa Aa) (Tx Aa (λH=>Et (rs:=[AD ((Aq v 0).fInt)]) (r:=rS (Lib.itoa ((Aq v 0).fInt))) OG Aa (EL ((Aq v 0).fInt) h2) Aa) ?_)));exact Hu
  refine ck h4 λh5 h7=>C8 (rs:=[rP ha 0,rS (Lib.itoa ((Aq v 0).fInt))]) (Hin:=[.bld 146 5 ha hb l]) (Hr:=[.blk b4 (Ah (Aq v 0)) 83,.blk b1 [rP ha 0] 143]) Tryz.call142 Aa ((AP (i:=2) Aa).trans (AfQ _ (AfX _))) (IF ha hb l (Lib.itoa ((Aq v 0).fInt)) h5) Aa ?_;rintro _ _ ⟨v31,rfl,rfl⟩;refine bd h7 λgA h9 hA=>?_;rw[← h9];refine As (AK ?_);obtain rfl:=A7 hA;exact HP (Xk Q5) (sC (sS (sS sN))) ⟨v31,Aa,Aa⟩
 refine Am (wv (BR Aa Aa) (wa Aa (Aw (cz h1 Aa (λhB hC=>?_) (λhB hD=>?_)))))
 ·refine An (vL 1 Gf Aa (vF CU Aa BX (vL 0 Cf Aa (ob hC λhE hG hH=>Dn [2] Tryz.call143 (OS F ha hb l ((Aq v 0).fStr) hE hG) ?_))));rintro _ _ ⟨hI,rfl,rfl⟩;refine As (AK ?_);obtain rfl:=A7 hH;exact HP (Xk Q5) (sC (sS (sS sN))) ⟨hI,Aa,Aa⟩
 refine Am (wv (r:=rS ([91,93]:Ai)) (AA Aa) (Aw (Ao (Am (vF CU Aa Ln (vL 0 Lo Aa (wv (BR Aa Aa) (Aw (cz hD Aa (λhJ hK=>?_) (λhJ hL=>?_))))))))))
 ·refine An (wv (r:=rS ([123,125]:Ai)) (AA Aa) (Aw (Ao (ck hK λhN hO=>KK (H1:=[.blk b4 (Ah (Aq v 0)) 83,.blk b1 [rP ha 0] 143,.bld 146 5 ha hb l]) 3 [1,2,4,5] [⟨[],rP ha 0,1⟩,⟨[],rS ([123,125]:Ai),0⟩,⟨[1],rI .u8 (B8 ([123,125]:Ai) 0),0⟩] (rle [(4,_)]) [15,16,17,1,2,4,5] ?_ ?_))))
  ·refine of (AM (i:=1) Gf Aa Aa Aa) (oq (Aj Aa) (oq (BA CT Aa Aa hN) ?_));exact Hu
  refine ck hO λhP hQ=>ck hQ λhR hS=>C8 (rs:=[rP ha 0,rI .u8 (B8 ([123,125]:Ai) 0)]) (Hin:=[.bld 146 5 ha hb l]) (Hr:=[.blk b4 (Ah (Aq v 0)) 83,.blk b1 [rP ha 0] 143]) JL Aa ((AP (i:=2) Aa).trans (AfQ _ (AfX _))) (CP ha hb l (B8 ([123,125]:Ai) 0) hP hR) Aa ?_;rintro _ _ ⟨v51,rfl,rfl⟩;refine bd hS λhT hU hV=>?_;rw[← hU];refine B0 (BZ (cs:=[rB false]) Tryz.zeroValue4 Aa Aa (λhi=>?_));refine us (i:=0) Iy Aa Aa (B5 Aa) Aa Aa ?_;refine B0 (wm Aa (wv (r:=rv (.func (.func 146) #[] #[(.pointer (some ⟨hi,0,none⟩)),(.pointer (some ⟨b1,0,none⟩)),(.pointer (some ⟨b4,0,none⟩))])) (LN Aa) (ob hV λhg hW hX=>Dn [0,2,0,0] Tryz.call145 (hn hi b1 ha v51 b4 v true hT (Aq v 0) hg hW) ?_)));rintro _ _ ⟨hk,rfl,rfl⟩;refine Aw (ck hX λhY hZ=>KK (H1:=[.blk hi [rB hg.1] 4,.blk b1 [rP ha 0] 143,.bld 146 5 ha hk hg.2,.blk b4 (Ah (Aq v 0)) 83]) 3 [2,5] [⟨[],rP ha 0,1⟩,⟨[],rS ([123,125]:Ai),0⟩,⟨[1],rI .u8 (B8 ([123,125]:Ai) 1),0⟩] (rle [(4,_)]) [22,23,24,2,5] ?_ ?_)
  ·refine of (AM (i:=1) Gf Aa Aa Aa) (oq (Aj Aa) (oq (BA CT Aa Aa hY) ?_));exact Hu
  refine ck hZ λga gb=>ck gb λgc gd=>C8 (rs:=[rP ha 0,rI .u8 (B8 ([123,125]:Ai) 1)]) (Hin:=[.bld 146 5 ha hk hg.2]) (Hr:=[.blk hi [rB hg.1] 4,.blk b1 [rP ha 0] 143,.blk b4 (Ah (Aq v 0)) 83]) JL Aa ((AP (i:=2) Aa).trans (AfQ _ (AfX _))) (CP ha hk hg.2 (B8 ([123,125]:Ai) 1) ga gc) Aa ?_;rintro _ _ ⟨ge,rfl,rfl⟩;refine bd gd λgB gf gg=>?_;rw[← gf];refine As (AK ?_);obtain rfl:=A7 gg;exact HP (Xk Q5) (sC (sS (sS (sS sN)))) ⟨ge,Aa,Aa⟩
 refine A0 (AX (Ao (ck hL λgh gi=>KK (H1:=[.blk b4 (Ah (Aq v 0)) 83,.blk b1 [rP ha 0] 143,.bld 146 5 ha hb l]) 3 [1,2,4,5] [⟨[],rP ha 0,1⟩,⟨[],rS ([91,93]:Ai),0⟩,⟨[1],rI .u8 (B8 ([91,93]:Ai) 0),0⟩] (rle [(4,_)]) [15,16,17,1,2,4,5] ?_ ?_)))
 ·refine of (AM (i:=1) Gf Aa Aa Aa) (oq (Aj Aa) (oq (BA CT Aa Aa gh) ?_));exact Hu
 refine ck gi λgj gl=>ck gl λgm gp=>C8 (rs:=[rP ha 0,rI .u8 (B8 ([91,93]:Ai) 0)]) (Hin:=[.bld 146 5 ha hb l]) (Hr:=[.blk b4 (Ah (Aq v 0)) 83,.blk b1 [rP ha 0] 143]) JL Aa ((AP (i:=2) Aa).trans (AfQ _ (AfX _))) (CP ha hb l (B8 ([91,93]:Ai) 0) gj gm) Aa ?_;rintro _ _ ⟨gq,rfl,rfl⟩;refine bd gp λgr gs gt=>?_;rw[← gs];refine B0 (BZ (cs:=[rB false]) Tryz.zeroValue4 Aa Aa (λhj=>?_));refine us (i:=0) Iy Aa Aa (B5 Aa) Aa Aa ?_;refine B0 (wm Aa (wv (r:=rv (.func (.func 146) #[] #[(.pointer (some ⟨hj,0,none⟩)),(.pointer (some ⟨b1,0,none⟩)),(.pointer (some ⟨b4,0,none⟩))])) (LN Aa) (ob gt λhh gu gv=>Dn [0,2,0,0] Tryz.call145 (hn hj b1 ha gq b4 v true gr (Aq v 0) hh gu) ?_)));rintro _ _ ⟨v85,rfl,rfl⟩;refine Aw (ck gv λgw gx=>KK (H1:=[.blk hj [rB hh.1] 4,.blk b1 [rP ha 0] 143,.bld 146 5 ha v85 hh.2,.blk b4 (Ah (Aq v 0)) 83]) 3 [2,5] [⟨[],rP ha 0,1⟩,⟨[],rS ([91,93]:Ai),0⟩,⟨[1],rI .u8 (B8 ([91,93]:Ai) 1),0⟩] (rle [(4,_)]) [22,23,24,2,5] ?_ ?_)
 ·refine of (AM (i:=1) Gf Aa Aa Aa) (oq (Aj Aa) (oq (BA CT Aa Aa gw) ?_));exact Hu
 refine ck gx λgy gz=>ck gz λg0 g1=>C8 (rs:=[rP ha 0,rI .u8 (B8 ([91,93]:Ai) 1)]) (Hin:=[.bld 146 5 ha v85 hh.2]) (Hr:=[.blk hj [rB hh.1] 4,.blk b1 [rP ha 0] 143,.blk b4 (Ah (Aq v 0)) 83]) JL Aa ((AP (i:=2) Aa).trans (AfQ _ (AfX _))) (CP ha v85 hh.2 (B8 ([91,93]:Ai) 1) gy g0) Aa ?_;rintro _ _ ⟨g3,rfl,rfl⟩;refine bd g1 λgC g4 g5=>?_;rw[← g4];refine As (AK ?_);obtain rfl:=A7 g5;exact HP (Xk Q5) (sC (sS (sS (sS sN)))) ⟨g3,Aa,Aa⟩
theorem U6 (F:Nat)(hj:Ai→(List Ab)→Option (Ai))(hg:(∀(ha:Nat) (hb:Value) (l:Ai) (v:(List Ab)) (r:Ai),hj l v=some r→Fn Tryz.prog GE 110 [rP ha 0,Br 4 (AH Ah v)] [.bld 146 5 ha hb l] (λR H=>∃w0b:Value,R=rv (.tuple #[])∧H=[.bld 146 5 ha w0b r])))(hd:Nat)(he:Nat)(ha:Nat)(hb:Value)(hf:Nat)(key:Ai)(x:(List Ab))(first:Bool)(l:Ai)(c:Ab)(r:Bool×Bool×Ai)(h:Me F hj key x first l c=some r):Fn Tryz.prog GE 146 [rS key,Br 4 (AH Ah x),rP hd 0,rP he 0,rP hf 0] [.blk hd [rB first] 4,.blk he [rP ha 0] 143,.bld 146 5 ha hb l,.blk hf (Ah c) 83] (λR H=>∃w3b:Value,R=rB r.1∧H=[.blk hd [rB r.2.1] 4,.blk he [rP ha 0] 143,.bld 146 5 ha w3b r.2.2,.blk hf (Ah c) 83]):=by
 refine enter (n:=23) Tryz.func146 Aa Tryz.ntmps146 Aa (λw Z=>?_);unfold Me at h;refine Am (wa Aa (Aw (Ao (Am (vL 0 SS Aa (wv (BT Aa) (Aw (cz h Aa (λc1 h2=>?_) (λc1 hm=>?_)))))))))
 ·refine An (vL 1 Gf Aa (ck h2 λg3 h4=>ck h4 λg5 h6=>C8 (rs:=[rP ha 0,rI .u8 44]) (Hin:=[.bld 146 5 ha hb l]) (Hr:=[.blk hd [rB first] 4,.blk he [rP ha 0] 143,.blk hf (Ah c) 83]) JL Aa ((AP (i:=2) Aa).trans (AfQ _ (AfX _))) (CP ha hb l 44 g3 g5) Aa ?_));rintro _ _ ⟨v7,rfl,rfl⟩;refine bd h6 λr8 hn h9=>?_;rw[← hn];refine B0 (us (i:=1) Iy Aa Aa (B5 Aa) Aa Aa ?_);refine Aw (Ao (Am (vF CU Aa Ln (vL 3 Lo Aa (wv (BR Aa Aa) (Aw (cz h9 Aa (λho hp=>?_) (λho hq=>?_))))))))
  ·refine Am (vL 2 Gf Aa (wm Aa (ob hp λhh hr hs=>Dn [0] Tryz.call143 (OS F ha v7 r8 key hh hr) ?_)));rintro _ _ ⟨hk,rfl,rfl⟩;refine Aw (An (vL 2 Gf Aa (ck hs λg17 ht=>ck ht λg19 hu=>C8 (rs:=[rP ha 0,rI .u8 58]) (Hin:=[.bld 146 5 ha hk hh]) (Hr:=[.blk hd [rB false] 4,.blk he [rP ha 0] 143,.blk hf (Ah c) 83]) JL Aa (AfX _) (CP ha hk hh 58 g17 g19) Aa ?_)));rintro _ _ ⟨v21,rfl,rfl⟩;refine bd hu λhw hx hy=>?_;rw[← hx];refine B0 (vL 2 Gf Aa (wm Aa (ob hy λhz h0 h1=>Dn [0] SR (hg ha v21 hw x hz h0) ?_)));rintro _ _ ⟨h3,rfl,rfl⟩;refine B0 (wa Aa (Aw (A4 (Gx [1,1] ?_))));obtain rfl:=A7 h1;exact A3 (Ch V6 (AR Aa)) (sC (sC (sC (sC sN)))) ⟨h3,Aa,Aa⟩
  refine A0 (AX (Am (vL 2 Gf Aa (wm Aa (ob hq λh5 h7 h8=>Dn [0] SR (hg ha v7 r8 x h5 h7) ?_)))));rintro _ _ ⟨hA,rfl,rfl⟩;refine B0 (wa Aa (Aw (A4 (Gx [1,1] ?_))));obtain rfl:=A7 h8;exact A3 (Ch V6 (AR Aa)) (sC (sC (sC (sC sN)))) ⟨hA,Aa,Aa⟩
 refine A0 (AX (Am (us (i:=0) Iy Aa Aa (B5 Aa) Aa Aa ?_)));refine Aw (Ao (Am (vF CU Aa Ln (vL 3 Lo Aa (wv (BR Aa Aa) (Aw (cz hm Aa (λhB hC=>?_) (λhB hD=>?_))))))))
 ·refine Am (vL 1 Gf Aa (wm Aa (ob hC λhi hE hG=>Dn [2] Tryz.call143 (OS F ha hb l key hi hE) ?_)));rintro _ _ ⟨hl,rfl,rfl⟩;refine Aw (An (vL 2 Gf Aa (ck hG λhH hI=>ck hI λhJ hK=>C8 (rs:=[rP ha 0,rI .u8 58]) (Hin:=[.bld 146 5 ha hl hi]) (Hr:=[.blk hd [rB false] 4,.blk he [rP ha 0] 143,.blk hf (Ah c) 83]) JL Aa (AfX _) (CP ha hl hi 58 hH hJ) Aa ?_)));rintro _ _ ⟨hL,rfl,rfl⟩;refine bd hK λhN hO hP=>?_;rw[← hO];refine B0 (vL 2 Gf Aa (wm Aa (ob hP λhQ hR hS=>Dn [0] SR (hg ha hL hN x hQ hR) ?_)));rintro _ _ ⟨hT,rfl,rfl⟩;refine B0 (wa Aa (Aw (A4 (Gx [1,1] ?_))));obtain rfl:=A7 hS;exact A3 (Ch V6 (AR Aa)) (sC (sC (sC (sC sN)))) ⟨hT,Aa,Aa⟩
 refine A0 (AX (Am (vL 1 Gf Aa (wm Aa (ob hD λhU hV hW=>Dn [2] SR (hg ha hb l x hU hV) ?_)))));rintro _ _ ⟨hX,rfl,rfl⟩;refine B0 (wa Aa (Aw (A4 (Gx [1,1] ?_))));obtain rfl:=A7 hW;exact A3 (Ch V6 (AR Aa)) (sC (sC (sC (sC sN)))) ⟨hX,Aa,Aa⟩
theorem U5 (F:Nat)(hm:Ai→(List Ab)→Bool→Ai→Ab→Option (Bool×Bool×Ai))(hx:(∀(hd:Nat) (he:Nat) (hb:Nat) (hn:Value) (hf:Nat) (key:Ai) (x:(List Ab)) (first:Bool) (l:Ai) (c:Ab) (r:Bool×Bool×Ai),hm key x first l c=some r→Fn Tryz.prog GE 146 [rS key,Br 4 (AH Ah x),rP hd 0,rP he 0,rP hf 0] [.blk hd [rB first] 4,.blk he [rP hb 0] 143,.bld 146 5 hb hn l,.blk hf (Ah c) 83] (λR H=>∃w3b:Value,R=rB r.1∧H=[.blk hd [rB r.2.1] 4,.blk he [rP hb 0] 143,.bld 146 5 hb w3b r.2.2,.blk hf (Ah c) 83])))(hd:Nat)(he:Nat)(hb:Nat)(hn:Value)(hf:Nat)(v:(List Ab))(first:Bool)(l:Ai)(c:Ab)(r:Bool×Ai)(h:IO F hm v first l c=some r):Fn Tryz.prog GE 145 [Br 4 (AH Ah v),rv (.func (.func 146) #[] #[(.pointer (some ⟨hd,0,none⟩)),(.pointer (some ⟨he,0,none⟩)),(.pointer (some ⟨hf,0,none⟩))])] [.blk hd [rB first] 4,.blk he [rP hb 0] 143,.bld 146 5 hb hn l,.blk hf (Ah c) 83] (λR H=>∃w1_1b:Value,R=rv (.tuple #[])∧H=[.blk hd [rB r.1] 4,.blk he [rP hb 0] 143,.bld 146 5 hb w1_1b r.2,.blk hf (Ah c) 83]):=by
 refine enter (n:=52) Tryz.func145 Aa Tryz.ntmps145 Aa (λw Z=>?_);unfold IO at h;refine Am (wa Aa (B0 (wm Aa (ck h λg1 h2=>wv (AW (enc:=Ah) (ys:=v) D5 EB Aa Aa g1) (wv (A1 CU Aa Cy Aa Aa) (wv (AJ CO Aa Aa) (wv (r:=AD 0) (Aj Aa) (Aw (AS (ob h2 λh0 h1 hq=>B4 (S:=Nat×(Int×Int×Bool×Ai)×(Value)) (V:=(Bool×Ai)×(Value)) 0 (λσ=>Ci (λσ=>DO F v c hm σ.1 σ.2.1 σ.2.2.1 σ.2.2.2) σ.1 σ.2.1=some h0) (λσ=>[(0,Br 4 (AH Ah v)),(1,rv (.func (.func 146) #[] #[(.pointer (some ⟨hd,0,none⟩)),(.pointer (some ⟨he,0,none⟩)),(.pointer (some ⟨hf,0,none⟩))])),(4,AD σ.2.1.1),(12,AD ((Aq v 0).fN)),(13,AD σ.2.1.2.1)]) (λσ=>[.blk hd [rB σ.2.1.2.2.1] 4,.blk he [rP hb 0] 143,.bld 146 5 hb σ.2.2 σ.2.1.2.2.2,.blk hf (Ah c) 83]) (λσ=>σ.1) (F,(1,0,first,l),hn) h1 (AG.c5 Aa Aa Aa Aa Aa AG.nil) (sC (sC (sC (sC sN)))) (λσ=>HS σ.1.1 σ.1.2=some r) (λσ=>[]) (λσ=>[.blk hd [rB σ.1.1] 4,.blk he [rP hb 0] 143,.bld 146 5 hb σ.2 σ.1.2,.blk hf (Ah c) 83]) ?_ ?_))))))))))
 ·rintro⟨gz,⟨ha,hr,hg,hh⟩,hk⟩ h3;refine GC ?_;obtain⟨hy,rfl,h4,ho,hl⟩:=Di h3;replace ho:DO F v c hm ha hr hg hh=some h4:=ho;unfold DO at ho;refine Am (wv (Dh Aa Aa) (Aw (Ao (cz ho Aa (λc175 h5=>?_) (λc175 h6=>?_)))))
  ·refine A0 (AX (Ao (AS (Am (wv (r:=rS ([]:Ai)) (AA Aa) (Aw (Ao (Am (wm Aa (wv (AW (enc:=Ah) (ys:=v) D5 EB Aa Aa g1) (wv (A1 CU Aa Ln Aa Aa) (wv (AJ Lo Aa Aa) (wv (BR Aa Aa) (Aw (cz h5 Aa (λh7 h8=>?_) (λh7 h9=>?_))))))))))))))))
   ·refine Am (wm Aa (wm Aa (ck h8 λhA hB=>wv (AW (enc:=Ah) (ys:=v) D5 EB Aa Aa hA) (wv (A1 CU Aa BX Aa Aa) (wv (AJ Cf Aa Aa) (wa Aa (Aw (An (wm Aa (ck hB λhC hD=>wv (BW Aa Aa hC) (wa Aa (B0 (wm Aa (wm Aa (ck hD λhE hG=>wv (r:=Br 4 (AH Ah (List.drop (BC (ha+1)) v))) (Po D5 EB Aa Aa hE) (ob hG λhi hH hI=>DI Tryz.call89 (RL F (List.drop (BC (ha+1)) v) hi hH) Aa (wm Aa (wv (A8 Aa Aa) (wv (A8 Aa Aa) ?_)))))))))))))))))));refine wv (A8 Aa Aa) (BZ (cs:=[AD 0,AD 0,rB false,rB false]) SK Aa Aa (λhJ=>?_));refine wa Aa (LZ (i:=0) GB Aa Aa Aa (Cm.c Aa) Aa Aa ?_);refine wa Aa (Aw (Ao (Am (wm Aa (wm Aa (wm Aa (wm Aa (wm Aa (wm Aa (ck hI λhs hK=>wv (BW Aa Aa hs) (wm Aa (wm Aa (wv (BW Aa Aa hs) (ck hK λhL hN=>ck hN λhO hP=>wv (r:=Br 4 (AH Ah (List.take (BC ((ha+1)+hi.1)-BC (ha+1)) (List.drop (BC (ha+1)) v)))) (Pn D5 EB Aa Aa Aa Aa hL hO) (ob hP λht hQ hR=>RK (rs:=[rS ((Aq v ha).fStr),Br 4 (AH Ah (List.take (BC ((ha+1)+hi.1)-BC (ha+1)) (List.drop (BC (ha+1)) v)))]) (Hin:=[.blk hd [rB hg] 4,.blk he [rP hb 0] 143,.bld 146 5 hb hk hh,.blk hf (Ah c) 83]) (Hr:=[.blk hJ (Bk hi.2.1) 124]) Tryz.call146 Aa Aa ((AP (i:=1) Aa).trans (AfQ _ ((AP (i:=1) Aa).trans (AfQ _ ((AP (i:=1) Aa).trans (AfQ _ ((AP (i:=1) Aa).trans (AfQ _ (AfX _))))))))) (hx hd he hb hk hf ((Aq v ha).fStr) (List.take (BC ((ha+1)+hi.1)-BC (ha+1)) (List.drop (BC (ha+1)) v)) hg hh c ht hQ) Aa ?_)))))))))))))));rintro _ _ ⟨hz,rfl,rfl⟩;refine wv (BT Aa) (Aw (cz hR Aa (λhS hT=>?_) (λhS hU=>?_)))
    ·refine A4 (Ae (AB (Ae (Ae (Be ?_)))));have hV:=B1 hT hl hq;refine AB ?_;obtain rfl:=A7 hV;exact A3 (Xk Tryz.results145) (sC (sC (sC (sC (sS sN))))) ⟨hz,Aa,Aa⟩
    refine A0 (AX (An (wm Aa (wm Aa (wv (BW Aa Aa hs) (wa Aa (As (AK (AX (An (ck hU λhW hX=>wv (BW Aa Aa hW) (wm Aa (As ?_)))))))))))));have hY:=B9 hX hl;exact Ay (AE (hy,((ha+1)+hi.1,hr+1,ht.2.1,ht.2.2),hz) ⟨hY,AfV _⟩ (AG.c5 Aa Aa Aa Aa Aa AG.nil) (sC (sC (sC (sC (sS sN))))))
   refine A0 (AX (Am (wm Aa (wm Aa (ck h9 λhZ ga=>wv (r:=Br 4 (AH Ah (List.drop (BC ha) v))) (Po D5 EB Aa Aa hZ) (ob ga λhj gb gc=>DI Tryz.call89 (RL F (List.drop (BC ha) v) hj gb) Aa (wm Aa (wv (A8 Aa Aa) (wv (A8 Aa Aa) (wv (A8 Aa Aa) (BZ (cs:=[AD 0,AD 0,rB false,rB false]) SK Aa Aa (λgd=>?_))))))))))));refine wa Aa (LZ (i:=0) GB Aa Aa Aa (Cm.c Aa) Aa Aa ?_);refine wa Aa (Aw (Ao (Am (wm Aa (wm Aa (wm Aa (wm Aa (wm Aa (wm Aa (ck gc λhu ge=>wv (BW Aa Aa hu) (wm Aa (wm Aa (wv (BW Aa Aa hu) (ck ge λgf gg=>ck gg λgh gi=>wv (r:=Br 4 (AH Ah (List.take (BC (ha+hj.1)-BC ha) (List.drop (BC ha) v)))) (Pn D5 EB Aa Aa Aa Aa gf gh) (ob gi λhw gj gl=>RK (rs:=[rS ([]:Ai),Br 4 (AH Ah (List.take (BC (ha+hj.1)-BC ha) (List.drop (BC ha) v)))]) (Hin:=[.blk hd [rB hg] 4,.blk he [rP hb 0] 143,.bld 146 5 hb hk hh,.blk hf (Ah c) 83]) (Hr:=[.blk gd (Bk hj.2.1) 124]) Tryz.call146 Aa Aa ((AP (i:=1) Aa).trans (AfQ _ ((AP (i:=1) Aa).trans (AfQ _ ((AP (i:=1) Aa).trans (AfQ _ ((AP (i:=1) Aa).trans (AfQ _ (AfX _))))))))) (hx hd he hb hk hf ([]:Ai) (List.take (BC (ha+hj.1)-BC ha) (List.drop (BC ha) v)) hg hh c hw gj) Aa ?_)))))))))))))));rintro _ _ ⟨v222,rfl,rfl⟩;refine wv (BT Aa) (Aw (cz gl Aa (λgm gp=>?_) (λgm gq=>?_)))
   ·refine A4 (Ae (AB (Ae (Ae (Be ?_)))));have gr:=B1 gp hl hq;refine AB ?_;obtain rfl:=A7 gr;exact A3 (Xk Tryz.results145) (sC (sC (sC (sC (sS sN))))) ⟨v222,Aa,Aa⟩
   refine A0 (AX (An (wm Aa (wm Aa (wv (BW Aa Aa hu) (wa Aa (As (AK (AX (An (ck gq λgs gt=>wv (BW Aa Aa gs) (wm Aa (As ?_)))))))))))));have gu:=B9 gt hl;exact Ay (AE (hy,(ha+hj.1,hr+1,hw.2.1,hw.2.2),v222) ⟨gu,AfV _⟩ (AG.c5 Aa Aa Aa Aa Aa AG.nil) (sC (sC (sC (sC (sS sN))))))
  refine B3 (A9 ?_);have gv:=Cw h6 hl hq;exact A9 (Bo (AE ((hg,hh),hk) gv AG.nil (sC (sC (sC (sC sN))))))
 rintro⟨⟨gw,gx⟩,gy⟩ hp;refine JZ ?_;replace hp:HS gw gx=some r:=hp;unfold HS at hp;refine Bn ?_;obtain rfl:=A7 hp;exact HP (Xk Tryz.results145) (sC (sC (sC (sC sN)))) ⟨gy,Aa,Aa⟩
theorem HR:∀F:Nat,(∀(ha:Nat) (hb:Value) (l:Ai) (v:(List Ab)) (r:Ai),GI F l v=some r→Fn Tryz.prog GE 110 [rP ha 0,Br 4 (AH Ah v)] [.bld 146 5 ha hb l] (λR H=>∃w0b:Value,R=rv (.tuple #[])∧H=[.bld 146 5 ha w0b r]))∧(∀(hd:Nat) (he:Nat) (ha:Nat) (hb:Value) (hf:Nat) (key:Ai) (x:(List Ab)) (first:Bool) (l:Ai) (c:Ab) (r:Bool×Bool×Ai),EQ F key x first l c=some r→Fn Tryz.prog GE 146 [rS key,Br 4 (AH Ah x),rP hd 0,rP he 0,rP hf 0] [.blk hd [rB first] 4,.blk he [rP ha 0] 143,.bld 146 5 ha hb l,.blk hf (Ah c) 83] (λR H=>∃w3b:Value,R=rB r.1∧H=[.blk hd [rB r.2.1] 4,.blk he [rP ha 0] 143,.bld 146 5 ha w3b r.2.2,.blk hf (Ah c) 83]))∧(∀(hd:Nat) (he:Nat) (ha:Nat) (hb:Value) (hf:Nat) (v:(List Ab)) (first:Bool) (l:Ai) (c:Ab) (r:Bool×Ai),H3 F v first l c=some r→Fn Tryz.prog GE 145 [Br 4 (AH Ah v),rv (.func (.func 146) #[] #[(.pointer (some ⟨hd,0,none⟩)),(.pointer (some ⟨he,0,none⟩)),(.pointer (some ⟨hf,0,none⟩))])] [.blk hd [rB first] 4,.blk he [rP ha 0] 143,.bld 146 5 ha hb l,.blk hf (Ah c) 83] (λR H=>∃w1_1b:Value,R=rv (.tuple #[])∧H=[.blk hd [rB r.1] 4,.blk he [rP ha 0] 143,.bld 146 5 ha w1_1b r.2,.blk hf (Ah c) 83]))
  | 0=>⟨(λ_ _ _ _ _ h=>by simp[GI] at h),(λ_ _ _ _ _ _ _ _ _ _ _ h=>by simp[EQ] at h),(λ_ _ _ _ _ _ _ _ _ _ h=>by simp[H3] at h)⟩
  | nn+1=>⟨(λha hb l v r h=>WS nn (EQ nn) (H3 nn) (HR nn).2.1 (HR nn).2.2 ha hb l v r (by rw[GI] at h;exact h)),(λhd he ha hb hf key x first l c r h=>U6 nn (GI nn) (HR nn).1 hd he ha hb hf key x first l c r (by rw[EQ] at h;exact h)),(λhd he ha hb hf v first l c r h=>U5 nn (EQ nn) (HR nn).2.1 hd he ha hb hf v first l c r (by rw[H3] at h;exact h))⟩
theorem YU (F:Nat)(ha:Nat)(hb:Value)(l:Ai)(v:(List Ab))(r:Ai)(h:GI F l v=some r):Fn Tryz.prog GE 110 [rP ha 0,Br 4 (AH Ah v)] [.bld 146 5 ha hb l] (λR H=>∃w0b:Value,R=rv (.tuple #[])∧H=[.bld 146 5 ha w0b r]):=(HR F).1 ha hb l v r h
theorem WX (F:Nat)(v:(List Ab))(r:Ai×Int)(h:Mi F v=some r):Fn Tryz.prog GE 80 [Br 4 (AH Ah v)] [] (λR H=>R=CZ [rS r.1,AD r.2]∧H=[]):=by
 refine enter (n:=14) Tryz.func80 Aa Tryz.ntmps80 Aa (λw Z=>?_);unfold Mi at h;refine Am (wv (r:=rS ([]:Ai)) (AA Aa) (wa Aa (Aw (Ao (Am (wm Aa (ob h λr1 e3 h2=>DI YE (Kh F v r1 e3) Aa (wa Aa (B0 (wm Aa (wv (BQ Aa Aa) (Aw (cz h2 Aa (λc4 h5=>?_) (λc4 h6=>?_))))))))))))))
 ·refine Am (wm Aa (wv (r:=rS ([]:Ai)) (AA Aa) (wa Aa (Aw (A4 (Ae ?_))))));obtain rfl:=A7 h5;exact A3 (E3 Tryz.results80 (AR Aa) (AR Aa)) sN ⟨Aa,Aa⟩
 refine A0 (AX (Am (BZ (cs:=[rv (.pointer none),rv (.slice none 0 0)]) Tryz.zeroValue146 Aa Aa (λb7=>?_))));refine B0 (wm Aa (WL.tobld (te:=5) (i:=0) Aa (ob h6 λr8 hb h9=>Dn [0] SR (YU F b7 (.slice none 0 0) ([]:Ai) v r8 hb) ?_)));rintro _ _ ⟨ha,rfl,rfl⟩;refine B0 (ck h9 λhd he=>C8 (rs:=[rP b7 0]) (Hin:=[.bld 146 5 b7 ha r8]) (Hr:=[]) Tryz.call111 Aa (AfX _) (Yo b7 ha r8  hd) Aa ?_);rintro _ _ ⟨rfl,rfl⟩;refine wa Aa (wa Aa (Aw (A4 ?_)));obtain rfl:=A7 he;exact A3 (E3 Tryz.results80 (AR Aa) (AR Aa)) sN ⟨Aa,Aa⟩
end Go.Proofs.YtfobhhegpkinaaaGreatDoor.Q
namespace Go.Proofs.YtfobhhegpkinaaaGreatDoor
open Go
set_option linter.unusedVariables false
structure Az where
 fS:Ai
 fAt:Int
 fCells:(List Ab)
 fGreat:Bool
 deriving DecidableEq,Inhabited
def I0 (s:Ai)(p:Ai):Option (Bool):=
 Bd (imp (decide ((p.length:Int)≤(s.length:Int))) (Gs (p.length:Int) (s.length:Int)))<|some ((decide ((p.length:Int)≤(s.length:Int)))&&(decide ((List.take (Int.toNat (p.length:Int)) s)=p)))
def HM (s:Ai)(p:Ai):Option (Bool):=
 Bq (I0 s p) λr1=>some r1
def Em (q:Az)(s:Ai):Option (Bool×Az):=
 Bd (Gs q.fAt (q.fS.length:Int))<|Bq (HM (List.drop (Int.toNat q.fAt) q.fS) s) λr3=>Bw (!r3) (some (false,q)) (Bd (Cb .i64 (q.fAt+(s.length:Int)))<|some (true,(Az.mk q.fS (q.fAt+(s.length:Int)) q.fCells q.fGreat)))
def Gy (ha:(List Int))(hb:Int)(hd:Int):Option (Stp ((List Int)×Int) (Out (Ai×Bool×Az) (Int))):=
 Bd (Dz 1 (ha.length+([hb]:List Int).length))<|some (.next (ha++([hb]:List Int),hd))
def EG (r1:Bool×Az)(hb:(List Int))(ha:Int):Option (Stp ((List Int)×Int) (Out (Ai×Bool×Az) (Int))):=
 Bw (decide (ha<(r1.2.fS.length:Int))) (Bd (CY ha (r1.2.fS.length:Int))<|Bd (Cb .i64 (ha+1))<|Bw (decide ((B8 r1.2.fS ha)=34)) (some (.out (.ret (Qm hb,true,(Az.mk r1.2.fS (ha+1) r1.2.fCells r1.2.fGreat))))) (Bw (((decide ((B8 r1.2.fS ha)<32))||(decide (126<(B8 r1.2.fS ha))))) (some (.out (.ret (([]:Ai),false,(Az.mk r1.2.fS (ha+1) r1.2.fCells r1.2.fGreat))))) (Bw (decide ((B8 r1.2.fS ha)=92)) (Bd (imp (!(decide ((r1.2.fS.length:Int)≤(ha+1)))) (CY (ha+1) (r1.2.fS.length:Int)))<|Bw (((decide ((r1.2.fS.length:Int)≤(ha+1)))||((!decide ((B8 r1.2.fS (ha+1))=34))&&(!decide ((B8 r1.2.fS (ha+1))=92))))) (some (.out (.ret (([]:Ai),false,(Az.mk r1.2.fS (ha+1) r1.2.fCells r1.2.fGreat))))) (Bd (CY (ha+1) (r1.2.fS.length:Int))<|Bd (Cb .i64 ((ha+1)+1))<|Gy hb (B8 r1.2.fS (ha+1)) ((ha+1)+1))) (Gy hb (B8 r1.2.fS ha) (ha+1))))) (some (.out (.go ha)))
def IR (r1:Bool×Az)(ha:Int):Option (Ai×Bool×Az):=
 some (([]:Ai),false,(Az.mk r1.2.fS ha r1.2.fCells r1.2.fGreat))
def OP (F:Nat)(q:Az):Option (Ai×Bool×Az):=
 Bq (Em q ([34]:Ai)) λr1=>Bw (!r1.1) (some (([]:Ai),false,r1.2)) (Bq (Ci (λσ=>EG r1 σ.1 σ.2) F (([]:List Int),r1.2.fAt)) (BO λν=>IR r1 ν))
def EH (r1:Bool×Az)(ha:Int):Option (Stp (Int) (Out (Bool×Az) (Int))):=
 Bd (imp (decide (ha<(r1.2.fS.length:Int))) (CY ha (r1.2.fS.length:Int)))<|Bw (((decide (ha<(r1.2.fS.length:Int)))&&((decide (48≤(B8 r1.2.fS ha)))&&(decide ((B8 r1.2.fS ha)≤57))))) (Bd (Cb .i64 (ha+1))<|some (.next (ha+1))) (some (.out (.go ha)))
def Kg (q:Az)(r1:Bool×Az)(ha:Int):Option (Bool×Az):=
 Bd (Gs q.fAt ha)<|Bd (Gs ha (r1.2.fS.length:Int))<|Bd (Dz 1 (List.take (Int.toNat ha-Int.toNat q.fAt) (List.drop (Int.toNat q.fAt) r1.2.fS)).length)<|Bw (((decide ((BH (List.take (Int.toNat ha-Int.toNat q.fAt) (List.drop (Int.toNat q.fAt) r1.2.fS)))=1))||(decide (r1.2.fAt=ha)))) (some (false,(Az.mk r1.2.fS ha r1.2.fCells r1.2.fGreat))) (Bd (Dz 40 (r1.2.fCells.length+([(Ab.mk 3 (Bu (List.take (Int.toNat ha-Int.toNat q.fAt) (List.drop (Int.toNat q.fAt) r1.2.fS))) ([]:Ai) 0)]:List Ab).length))<|some (true,(Az.mk r1.2.fS ha (r1.2.fCells++([(Ab.mk 3 (Bu (List.take (Int.toNat ha-Int.toNat q.fAt) (List.drop (Int.toNat q.fAt) r1.2.fS))) ([]:Ai) 0)]:List Ab)) (r1.2.fGreat||(!decide ((BH (List.take (Int.toNat ha-Int.toNat q.fAt) (List.drop (Int.toNat q.fAt) r1.2.fS)))=0))))))
def OQ (F:Nat)(q:Az):Option (Bool×Az):=
 Bq (Em q ([45]:Ai)) λr1=>Bq (Ci (λσ=>EH r1 σ) F r1.2.fAt) (BO λν=>Kg q r1 ν)
def Eo (ha:Ai)(hb:Int)(hd:(List Ab))(he:Bool):Option (Bool×Az):=
 some (true,(Az.mk ha hb hd he))
def IS (F:Nat)(q:Az):Option (Bool×Az):=
 Bq (Em q ([110,117,108,108]:Ai)) λhd=>Bw (hd.1) (Bd (Dz 40 (hd.2.fCells.length+([(Ab.mk 1 0 ([]:Ai) 0)]:List Ab).length))<|Eo hd.2.fS hd.2.fAt (hd.2.fCells++([(Ab.mk 1 0 ([]:Ai) 0)]:List Ab)) hd.2.fGreat) (Bq (Em hd.2 ([116,114,117,101]:Ai)) λhe=>Bw (he.1) (Bd (Dz 40 (he.2.fCells.length+([(Ab.mk 2 1 ([]:Ai) 0)]:List Ab).length))<|Eo he.2.fS he.2.fAt (he.2.fCells++([(Ab.mk 2 1 ([]:Ai) 0)]:List Ab)) he.2.fGreat) (Bq (Em he.2 ([102,97,108,115,101]:Ai)) λha=>Bw (ha.1) (Bd (Dz 40 (ha.2.fCells.length+([(Ab.mk 2 0 ([]:Ai) 0)]:List Ab).length))<|Eo ha.2.fS ha.2.fAt (ha.2.fCells++([(Ab.mk 2 0 ([]:Ai) 0)]:List Ab)) ha.2.fGreat) (Bd (Gs ha.2.fAt (ha.2.fS.length:Int))<|Bq (HM (List.drop (Int.toNat ha.2.fAt) ha.2.fS) ([34]:Ai)) λhg=>Bw (hg) (Bq (OP F ha.2) λhb=>Bw (!hb.2.1) (some (false,hb.2.2)) (Bd (Dz 40 (hb.2.2.fCells.length+([(Ab.mk 4 0 hb.1 0)]:List Ab).length))<|Eo hb.2.2.fS hb.2.2.fAt (hb.2.2.fCells++([(Ab.mk 4 0 hb.1 0)]:List Ab)) hb.2.2.fGreat)) (Bq (OQ F ha.2) λhf=>some (hf.1,hf.2)))))
def EU (hf:Az→Option (Bool×Az))(x16:(List Ab))(hd:Int)(hg:Ai)(hh:Int)(hi:(List Ab))(hj:Bool):Option (Stp (Int×Ai×Int×(List Ab)×Bool) (Out (Bool×Az) (Unit))):=
 Bq (hf (Az.mk hg hh hi hj)) λha=>Bw (!ha.1) (some (.out (.ret (false,ha.2)))) (Bd (CY (x16.length:Int) (ha.2.fCells.length:Int))<|Ma (List.set ha.2.fCells (Int.toNat (x16.length:Int)) (Ab.mk ((Aq ha.2.fCells (x16.length:Int)).fKind) ((Aq ha.2.fCells (x16.length:Int)).fInt) ((Aq ha.2.fCells (x16.length:Int)).fStr) hd)) λhk=>Bq (Em (Az.mk ha.2.fS ha.2.fAt hk ha.2.fGreat) ([93]:Ai)) λhe=>Bw (he.1) (some (.out (.ret (true,he.2)))) (Bq (Em he.2 ([44]:Ai)) λhb=>Bw (!hb.1) (some (.out (.ret (false,hb.2)))) (Bd (Cb .i64 (hd+1))<|some (.next (hd+1,hb.2.fS,hb.2.fAt,hb.2.fCells,hb.2.fGreat)))))
def HU :Option (Bool×Az):=
 none
def C9 (hk:Az→Option (Bool×Az))(x16:(List Ab))(hd:Int)(he:Ai×Bool×Az)(hn:Bool)(ho:Bool)(hl:Bool)(hh:Ai)(hi:Int)(hf:(List Ab))(hj:Bool):Option (Stp (Ai×Int×Ai×Int×(List Ab)×Bool) (Out (Bool×Az) (Unit))):=
 Bw (hl) (some (.out (.ret (false,(Az.mk hh hi hf hj))))) (Bd (Dz 40 (hf.length+([(Ab.mk 4 0 he.1 0)]:List Ab).length))<|Bq (hk (Az.mk hh hi (hf++([(Ab.mk 4 0 he.1 0)]:List Ab)) hj)) λha=>Bw (!ha.1) (some (.out (.ret (false,ha.2)))) (Bd (CY (x16.length:Int) (ha.2.fCells.length:Int))<|Ma (List.set ha.2.fCells (Int.toNat (x16.length:Int)) (Ab.mk ((Aq ha.2.fCells (x16.length:Int)).fKind) ((Aq ha.2.fCells (x16.length:Int)).fInt) ((Aq ha.2.fCells (x16.length:Int)).fStr) hd)) λhm=>Bq (Em (Az.mk ha.2.fS ha.2.fAt hm ha.2.fGreat) ([125]:Ai)) λhg=>Bw (hg.1) (some (.out (.ret (true,hg.2)))) (Bq (Em hg.2 ([44]:Ai)) λhb=>Bw (!hb.1) (some (.out (.ret (false,hb.2)))) (Bd (Cb .i64 (hd+1))<|some (.next (he.1,hd+1,hb.2.fS,hb.2.fAt,hb.2.fCells,hb.2.fGreat))))))
def ET (F:Nat)(hg:Az→Option (Bool×Az))(x16:(List Ab))(hb:Ai)(hd:Int)(hh:Ai)(hi:Int)(hj:(List Ab))(hk:Bool):Option (Stp (Ai×Int×Ai×Int×(List Ab)×Bool) (Out (Bool×Az) (Unit))):=
 Bq (OP F (Az.mk hh hi hj hk)) λha=>Bw (!ha.2.1) (C9 hg x16 hd ha true true true ha.2.2.fS ha.2.2.fAt ha.2.2.fCells ha.2.2.fGreat) (Bw (decide (1<hd)) (Bw (Cz ha.1 hb||decide (ha.1=hb)) (C9 hg x16 hd ha (Cz ha.1 hb||decide (ha.1=hb)) (Cz ha.1 hb||decide (ha.1=hb)) true ha.2.2.fS ha.2.2.fAt ha.2.2.fCells ha.2.2.fGreat) (Bq (Em ha.2.2 ([58]:Ai)) λhe=>C9 hg x16 hd ha (Cz ha.1 hb||decide (ha.1=hb)) (Cz ha.1 hb||decide (ha.1=hb)) (!he.1) he.2.fS he.2.fAt he.2.fCells he.2.fGreat)) (Bq (Em ha.2.2 ([58]:Ai)) λhf=>C9 hg x16 hd ha false false (!hf.1) hf.2.fS hf.2.fAt hf.2.fCells hf.2.fGreat))
def HT :Option (Bool×Az):=
 none
def En (F:Nat)(hg:Az→Option (Bool×Az))(r1:Bool×Az)(hi:Bool)(hd:Ai)(he:Int)(x16:(List Ab))(hf:Bool):Option (Bool×Az):=
 Bw (hi) (Bq (IS F (Az.mk hd he x16 hf)) λhh=>some (hh.1,hh.2)) (Bw (r1.1) (Bd (Dz 40 (x16.length+([(Ab.mk 5 0 ([]:Ai) 0)]:List Ab).length))<|Bq (Em (Az.mk hd he (x16++([(Ab.mk 5 0 ([]:Ai) 0)]:List Ab)) hf) ([93]:Ai)) λha=>Bw (ha.1) (some (true,ha.2)) (Bq (Ci (λσ=>EU hg x16 σ.1 σ.2.1 σ.2.2.1 σ.2.2.2.1 σ.2.2.2.2) F (1,ha.2.fS,ha.2.fAt,ha.2.fCells,ha.2.fGreat)) (BO λν=>HU ))) (Bd (Dz 40 (x16.length+([(Ab.mk 6 0 ([]:Ai) 0)]:List Ab).length))<|Bq (Em (Az.mk hd he (x16++([(Ab.mk 6 0 ([]:Ai) 0)]:List Ab)) hf) ([125]:Ai)) λhb=>Bw (hb.1) (some (true,hb.2)) (Bq (Ci (λσ=>ET F hg x16 σ.1 σ.2.1 σ.2.2.1 σ.2.2.2.1 σ.2.2.2.2.1 σ.2.2.2.2.2) F (([]:Ai),1,hb.2.fS,hb.2.fAt,hb.2.fCells,hb.2.fGreat)) (BO λν=>HT ))))
def Mg (F:Nat)(hb:Az→Option (Bool×Az))(q:Az):Option (Bool×Az):=
 Bq (Em q ([91]:Ai)) λr1=>Bw (!r1.1) (Bq (Em r1.2 ([123]:Ai)) λha=>En F hb r1 (!ha.1) ha.2.fS ha.2.fAt ha.2.fCells ha.2.fGreat) (En F hb r1 false r1.2.fS r1.2.fAt r1.2.fCells r1.2.fGreat)
def CJ:Nat→Az→Option (Bool×Az)
 | 0,_=>none
 | nn+1,q=>Mg nn (CJ nn) q
def GJ (F:Nat)(hb:Bool)(hf:Ai)(hg:Int)(hd:(List Ab))(he:Bool):Option ((List Ab)×Int):=
 Bw (hb) (some (([]:List Ab),1)) (Bw (he) (some (([]:List Ab),2)) (Bq (Mk F hd) λha=>some (ha.1,ha.2)))
def Jv (F:Nat)(s:Ai):Option ((List Ab)×Int):=
 Bw (decide (4000<(s.length:Int))) (some (([]:List Ab),3)) (Bq (CJ F (Az.mk s 0 ([]:List Ab) false)) λha=>Bw (!ha.1) (GJ F true ha.2.fS ha.2.fAt ha.2.fCells ha.2.fGreat) (GJ F (!decide (ha.2.fAt=(s.length:Int))) ha.2.fS ha.2.fAt ha.2.fCells ha.2.fGreat))
end Go.Proofs.YtfobhhegpkinaaaGreatDoor
namespace Go.Proofs.YtfobhhegpkinaaaGreatDoor.Q
open Go Go.RowKit
set_option linter.unusedVariables false
set_option linter.unusedSimpArgs false
set_option maxRecDepth 100000
set_option maxHeartbeats 4000000
theorem JD:∃inf,Tryz.prog.info? 83=some inf∧inf.zero=some (.agg #[(.int .i64 0),(.int .i64 0),(.string ⟨#[]⟩),(.int .i64 0)])∧inf.size=4∧inf.bytes=40:=by
  have key:(Tryz.prog.info? 83).map (λi=>(i.zero,i.size,i.bytes))=some (some (.agg #[(.int .i64 0),(.int .i64 0),(.string ⟨#[]⟩),(.int .i64 0)]),4,40):=by kernel_rfl
  obtain⟨inf,h1,h2⟩:=Option.map_eq_some_iff.1 key;simp only[Prod.mk.injEq] at h2;exact⟨inf,h1,h2.1,h2.2.1,h2.2.2⟩
theorem SA (parts:List (Nat×Value)):Tryz.prog.built 83 parts=Instr.fill (λi=>(#[(0,1),(1,1),(2,1),(3,1)]:Array (Nat×Nat))[i]?) #[(.int .i64 0),(.int .i64 0),(.string ⟨#[]⟩),(.int .i64 0)] parts:=by kernel_rfl
theorem I1 {n:Nat}{c:Cx}{l:Fr}{H:List Ent}{d:Option Nat}{ty:TypeId}{pos:String}{af:Array Edge}{g:Option (Nat×Bool)}{x0:Operand}{r0:Rp}(h0:ev l x0=some r0)(u0:r0.one=true):Bv Tryz.prog n c l H { dst:=d,op:=.build 83 #[(0,x0)],type:=ty,pos:=pos,after:=af,guard:=g } (BL [r0,AD 0,rS ([]:Ai),AD 0]):=λa w Z ha _=>by
  have p0:=ha.ev h0;have c0:=Bz (r0.hone u0 Z _ p0);have hb:Tryz.prog.built 83 [(0,a.eval x0)]=some #[a.eval x0,(.int .i64 0),(.string ⟨#[]⟩),(.int .i64 0)]:=by
    rw[SA];generalize a.eval x0=v0 at *;simp[Instr.fill,c0]
  refine⟨.agg #[a.eval x0,(.int .i64 0),(.string ⟨#[]⟩),(.int .i64 0)],⟨[a.eval x0,(.int .i64 0),(.string ⟨#[]⟩),(.int .i64 0)],rfl,p0,rfl,rfl,rfl,trivial⟩,?_⟩;have:=run_build w 83 #[(0,a.eval x0)] _ (by simpa using hb);simp[execOp,this]
theorem IJ {n:Nat}{c:Cx}{l:Fr}{H:List Ent}{d:Option Nat}{ty:TypeId}{pos:String}{af:Array Edge}{g:Option (Nat×Bool)}{x0:Operand}{r0:Rp}(h0:ev l x0=some r0)(u0:r0.one=true){x1:Operand}{r1:Rp}(h1:ev l x1=some r1)(u1:r1.one=true):Bv Tryz.prog n c l H { dst:=d,op:=.build 83 #[(0,x0),(1,x1)],type:=ty,pos:=pos,after:=af,guard:=g } (BL [r0,r1,rS ([]:Ai),AD 0]):=λa w Z ha _=>by
  have p0:=ha.ev h0;have c0:=Bz (r0.hone u0 Z _ p0);have p1:=ha.ev h1;have c1:=Bz (r1.hone u1 Z _ p1);have hb:Tryz.prog.built 83 [(0,a.eval x0),(1,a.eval x1)]=some #[a.eval x0,a.eval x1,(.string ⟨#[]⟩),(.int .i64 0)]:=by
    rw[SA];generalize a.eval x0=v0 at *;generalize a.eval x1=v1 at *;simp[Instr.fill,c0,c1]
  refine⟨.agg #[a.eval x0,a.eval x1,(.string ⟨#[]⟩),(.int .i64 0)],⟨[a.eval x0,a.eval x1,(.string ⟨#[]⟩),(.int .i64 0)],rfl,p0,p1,rfl,rfl,trivial⟩,?_⟩;have:=run_build w 83 #[(0,a.eval x0),(1,a.eval x1)] _ (by simpa using hb);simp[execOp,this]
theorem Lx {n:Nat}{c:Cx}{l:Fr}{H:List Ent}{d:Option Nat}{ty:TypeId}{pos:String}{af:Array Edge}{g:Option (Nat×Bool)}{x0:Operand}{r0:Rp}(h0:ev l x0=some r0)(u0:r0.one=true){x2:Operand}{r2:Rp}(h2:ev l x2=some r2)(u2:r2.one=true):Bv Tryz.prog n c l H { dst:=d,op:=.build 83 #[(0,x0),(2,x2)],type:=ty,pos:=pos,after:=af,guard:=g } (BL [r0,AD 0,r2,AD 0]):=λa w Z ha _=>by
  have p0:=ha.ev h0;have c0:=Bz (r0.hone u0 Z _ p0);have p2:=ha.ev h2;have c2:=Bz (r2.hone u2 Z _ p2);have hb:Tryz.prog.built 83 [(0,a.eval x0),(2,a.eval x2)]=some #[a.eval x0,(.int .i64 0),a.eval x2,(.int .i64 0)]:=by
    rw[SA];generalize a.eval x0=v0 at *;generalize a.eval x2=v2 at *;simp[Instr.fill,c0,c2]
  refine⟨.agg #[a.eval x0,(.int .i64 0),a.eval x2,(.int .i64 0)],⟨[a.eval x0,(.int .i64 0),a.eval x2,(.int .i64 0)],rfl,p0,rfl,p2,rfl,trivial⟩,?_⟩;have:=run_build w 83 #[(0,a.eval x0),(2,a.eval x2)] _ (by simpa using hb);simp[execOp,this]
theorem Abf (parts:List (Nat×Value)):Tryz.prog.built 166 parts=Instr.fill (λi=>(#[(0,1),(1,1),(2,1),(3,1)]:Array (Nat×Nat))[i]?) #[(.string ⟨#[]⟩),(.int .i64 0),((.slice none 0 0)),(.bool false)] parts:=by kernel_rfl
theorem Sk {n:Nat}{c:Cx}{l:Fr}{H:List Ent}{d:Option Nat}{ty:TypeId}{pos:String}{af:Array Edge}{g:Option (Nat×Bool)}{x0:Operand}{r0:Rp}(h0:ev l x0=some r0)(u0:r0.one=true):Bv Tryz.prog n c l H { dst:=d,op:=.build 166 #[(0,x0)],type:=ty,pos:=pos,after:=af,guard:=g } (BL [r0,AD 0,rv (.slice none 0 0),rB false]):=λa w Z ha _=>by
  have p0:=ha.ev h0;have c0:=Bz (r0.hone u0 Z _ p0);have hb:Tryz.prog.built 166 [(0,a.eval x0)]=some #[a.eval x0,(.int .i64 0),((.slice none 0 0)),(.bool false)]:=by
    rw[Abf];generalize a.eval x0=v0 at *;simp[Instr.fill,c0]
  refine⟨.agg #[a.eval x0,(.int .i64 0),((.slice none 0 0)),(.bool false)],⟨[a.eval x0,(.int .i64 0),((.slice none 0 0)),(.bool false)],rfl,p0,rfl,rfl,rfl,trivial⟩,?_⟩;have:=run_build w 166 #[(0,a.eval x0)] _ (by simpa using hb);simp[execOp,this]
theorem Ql (s:Ai)(p:Ai)(r:Bool)(h:I0 s p=some r):Fn Tryz.prog GE 202 [rS s,rS p] [] (λR H=>R=rB r∧H=[]):=by
 refine enter (n:=18) Tryz.func202 Aa Tryz.ntmps202 Aa (λw Z=>?_);unfold I0 at h;refine Am (wa Aa (Aw (ck h λg1 h2=>AV [(4,rB ((decide ((p.length:Int)≤(s.length:Int)))&&(decide ((List.take (BC (p.length:Int)) s)=p))))] [] ?_ ?_)))
 ·refine An (wm Aa (wv (BF CT Aa) (wm Aa (wv (BF CT Aa) (wv (JV Aa Aa) (wm Aa (AY (decide ((p.length:Int)≤(s.length:Int))) (λc3=>?_) (λc3=>?_))))))))
  ·refine wo c3 (wm Aa (wo c3 (wm Aa (wo c3 (wv (BF CT Aa) (wo c3 (wv (LM CT Aa Aa (Gt g1 c3)) (wo c3 (wm Aa (wo c3 (wv (Kr Aa Aa) (It Aa c3 Aa (wa Aa (As ?_))))))))))))));exact CI c3
  refine wf c3 (wf c3 (wf c3 (wf c3 (wf c3 (wf c3 (wv (r:=rB false) (A2 Aa c3 Aa) (wa Aa (As ?_))))))));exact CI c3
 refine A4 ?_;obtain rfl:=A7 h2;exact A3 (Ch Tryz.results202 (AR Aa)) sN ⟨Aa,Aa⟩
theorem NU (s:Ai)(p:Ai)(r:Bool)(h:HM s p=some r):Fn Tryz.prog GE 184 [rS s,rS p] [] (λR H=>R=rB r∧H=[]):=by
 refine enter (n:=8) Tryz.func184 Aa Tryz.ntmps184 Aa (λw Z=>?_);unfold HM at h;refine Am (wa Aa (B0 (wm Aa (wm Aa (ob h λr1 e3 h2=>DI Tryz.call202 (Ql s p r1 e3) Aa (wa Aa (Aw (A4 ?_))))))));obtain rfl:=A7 h2;exact A3 (Ch Tryz.results184 (AR Aa)) sN ⟨Aa,Aa⟩
theorem DP (hb:Nat)(ha:Value)(q:Az)(s:Ai)(r:Bool×Az)(h:Em q s=some r):Fn Tryz.prog GE 159 [rP hb 0,rS s] [.blk hb [rS q.fS,AD q.fAt,rv ha,rB q.fGreat] 166,.row ha 83 4 (AH Ah q.fCells)] (λR H=>∃w0_2:Value,R=rB r.1∧H=[.blk hb [rS r.2.fS,AD r.2.fAt,rv w0_2,rB r.2.fGreat] 166,.row w0_2 83 4 (AH Ah r.2.fCells)]):=by
 refine enter (n:=26) Tryz.func159 Aa Tryz.ntmps159 Aa (λw Z=>?_);unfold Em at h;refine Am (wa Aa (Aw (Ao (Ao (ck h λg1 h2=>ob h2 λr3 e5 h4=>D0 [0,1] ?_)))));refine rq (Aj Aa) (rq (A6 Aa) (rq (Au BB Aa BX Aa Aa) (rq (AM (i:=0) Cf Aa Aa Aa) (rq (Aj Aa) (rq (A6 Aa) (rq (Au BB Aa Cy Aa Aa) (rq (AM (i:=0) CO Aa Aa Aa) (rq (DS CT Aa Aa g1) (rq (Aj Aa) (Tp (G0 Tryz.call184 (NU (List.drop (BC q.fAt) q.fS) s r3 e5) Aa) (rq (BT Aa) (re [16,0,1] ?_))))))))))));refine AX (cz h4 Aa (λc6 h7=>?_) (λc6 h8=>?_))
 ·refine Am (wa Aa (Aw (A4 (Ae ?_))));obtain rfl:=A7 h7;exact A3 (Ch Tryz.results159 (AR Aa)) (sC (sC sN)) ⟨ha,Aa,Aa⟩
 refine A0 (AX (Am (wm Aa (wv (A6 Aa) (vF BB Aa Cy (vL 0 CO Aa (wm Aa (wv (BF CT Aa) (ck h8 λg9 hd=>wv (BW Aa Aa g9) (wv (A6 Aa) (vF BB Aa Cy (us (i:=0) Cy Aa Aa (B5 Aa) Aa Aa ?_))))))))))));refine B0 (wa Aa (Aw (A4 ?_)));obtain rfl:=A7 hd;exact A3 (Ch Tryz.results159 (AR Aa)) (sC (sC sN)) ⟨ha,Aa,Aa⟩
theorem VC (F:Nat)(ha:Nat)(ho:Value)(q:Az)(r:Ai×Bool×Az)(h:OP F q=some r):Fn Tryz.prog GE 161 [rP ha 0] [.blk ha [rS q.fS,AD q.fAt,rv ho,rB q.fGreat] 166,.row ho 83 4 (AH Ah q.fCells)] (λR H=>∃w0_2:Value,R=CZ [rS r.1,rB r.2.1]∧H=[.blk ha [rS r.2.2.fS,AD r.2.2.fAt,rv w0_2,rB r.2.2.fGreat] 166,.row w0_2 83 4 (AH Ah r.2.2.fCells)]):=by
 refine enter (n:=104) Tryz.func161 Aa Tryz.ntmps161 Aa (λw Z=>?_);unfold OP at h;refine Am (wv (r:=rS ([]:Ai)) (AA Aa) (wa Aa (Aw (Ao (Am (wm Aa (ob h λr1 e3 h2=>Dn [0,0] HO (DP ha ho q ([34]:Ai) r1 e3) ?_)))))));rintro _ _ ⟨v4,rfl,rfl⟩;refine wv (BT Aa) (Aw (cz h2 Aa (λc5 h6=>?_) (λc5 h7=>?_)))
 ·refine Am (wv (r:=rS ([]:Ai)) (AA Aa) (wa Aa (Aw (A4 (Ae ?_)))));obtain rfl:=A7 h6;exact A3 (E3 SP (AR Aa) (AR Aa)) (sC (sC sN)) ⟨v4,Aa,Aa⟩
 refine A0 (AX (Am (wa Aa (Aw (Ao (AS (WC.nilrow (e:=5) (sz:=1) (Hz (H2:=[.blk ha [rS r1.2.fS,AD r1.2.fAt,rv v4,rB r1.2.fGreat] 166,.row v4 83 4 (AH Ah r1.2.fCells),.row (.slice none 0 0     ) 5 1 (AH BN ([]:List Int))]) ((AP (i:=1) Aa).trans (AfQ _ ((AP (i:=1) Aa).trans (AfQ _ (AfX _))))) (ob h7 λhs ht hk=>B4 (S:=Nat×((List Int)×Int)×(Value)) (V:=(Int)×(Unit)) 0 (λσ=>Ci (λσ=>EG r1 σ.1 σ.2) σ.1 σ.2.1=some hs) (λσ=>[(0,rP ha 0),(4,rv σ.2.2)]) (λσ=>[.blk ha [rS r1.2.fS,AD σ.2.1.2,rv v4,rB r1.2.fGreat] 166,.row v4 83 4 (AH Ah r1.2.fCells),.row σ.2.2 5 1 (AH BN σ.2.1.1)]) (λσ=>σ.1) (F,(([]:List Int),r1.2.fAt),(.slice none 0 0     )) ht (AG.c Aa (AG.c Aa AG.nil)) (sC (sC (sC sN))) (λσ=>IR r1 σ.1=some r) (λσ=>[]) (λσ=>[.blk ha [rS r1.2.fS,AD σ.1,rv v4,rB r1.2.fGreat] 166,.row v4 83 4 (AH Ah r1.2.fCells)]) ?_ ?_)))))))))
 ·rintro⟨hZ,⟨hf,hd⟩,hh⟩ hu;refine GC ?_;obtain⟨hw,rfl,hp,hl,hi⟩:=Di hu;replace hl:EG r1 hf hd=some hp:=hl;unfold EG at hl;refine Ao (Ao (D0 [0,4] ?_));refine rq (Aj Aa) (rq (A6 Aa) (rq (Au BB Aa Cy Aa Aa) (rq (AM (i:=0) CO Aa Aa Aa) (rq (Aj Aa) (rq (A6 Aa) (rq (Au BB Aa BX Aa Aa) (rq (AM (i:=0) Cf Aa Aa Aa) (rq (BF CT Aa) (rq (Dh Aa Aa) (re [9,10,11,12,13,14,15,16,17,18,0,4] ?_))))))))));refine AX (cz hl Aa (λhx hy=>?_) (λhx hz=>?_))
  ·refine A0 (AX (AS (Ao (ck hy λh0 h1=>D0 [0,4,9,10,11,12,13,14,15,16,17] ?_))));refine rq (Aj Aa) (rq (A6 Aa) (rq (Au BB Aa BX Aa Aa) (rq (AM (i:=0) Cf Aa Aa Aa) (rq (Aj Aa) (rq (A6 Aa) (rq (Au BB Aa Cy Aa Aa) (rq (AM (i:=0) CO Aa Aa Aa) (rq (BA CT Aa Aa h0) (rq (AA Aa) (re [19,20,21,22,23,24,25,26,27,5,0,4,9,10,11,12,13,14,15,16,17] ?_))))))))));refine AX (Am (wm Aa (wv (A6 Aa) (vF BB Aa Cy (vL 0 CO Aa (ck h1 λh3 h4=>wv (BW Aa Aa h3) (wv (A6 Aa) (vF BB Aa Cy (us (i:=0) Cy Aa Aa (B5 Aa) Aa Aa ?_)))))))));refine Aw (Cn (S:=(Int×Int)×(Unit)) (λσ=>Gy hf σ.1.1 σ.1.2=some hp) (λσ=>[(0,rP ha 0),(4,rv hh),(5,rI .u8 σ.1.1),(9,rP ha 0),(10,rP ha 0),(11,rP ha 1),(12,AD hd),(13,rP ha 0),(14,rP ha 0),(15,rP ha 0),(16,rS r1.2.fS),(17,AD (r1.2.fS.length:Int)),(19,rP ha 0),(20,rP ha 0),(21,rP ha 0),(22,rS r1.2.fS),(23,rP ha 0),(24,rP ha 0),(25,rP ha 1),(26,AD hd),(27,rI .u8 (B8 r1.2.fS hd))]) (λσ=>[.blk ha [rS r1.2.fS,AD σ.1.2,rv v4,rB r1.2.fGreat] 166,.row v4 83 4 (AH Ah r1.2.fCells),.row hh 5 1 (AH BN hf)]) ?_ ?_)
   ·refine AS (Am (wm Aa (wv (BR Aa Aa) (wa Aa (Aw (cz h4 Aa (λh5 h8=>?_) (λh5 h9=>?_)))))))
    ·refine Am (wm Aa (wv (r:=rS (Qm hf)) (Wb (xs:=hf) (i:=2) EF CT RF Aa Aa) (wa Aa (wa Aa (Aw (A4 (AB (Ae (AB (Ae (Be ?_)))))))))));have hA:=B1 h8 hi hk;refine AB (Ae ?_);obtain rfl:=A7 hA;exact A3 (E3 SP (AR Aa) (AR Aa)) (sC (sC (sS sN))) ⟨v4,Aa,Aa⟩
    refine AV [(0,rP ha 0),(4,rv hh),(5,rI .u8 (B8 r1.2.fS hd)),(9,rP ha 0),(10,rP ha 0),(11,rP ha 1),(12,AD hd),(13,rP ha 0),(14,rP ha 0),(15,rP ha 0),(16,rS r1.2.fS),(17,AD (r1.2.fS.length:Int)),(19,rP ha 0),(20,rP ha 0),(21,rP ha 0),(22,rS r1.2.fS),(23,rP ha 0),(24,rP ha 0),(25,rP ha 1),(26,AD hd),(27,rI .u8 (B8 r1.2.fS hd)),(40,rB ((decide ((B8 r1.2.fS hd)<32))||(decide (126<(B8 r1.2.fS hd)))))] [.blk ha [rS r1.2.fS,AD (hd+1),rv v4,rB r1.2.fGreat] 166,.row v4 83 4 (AH Ah r1.2.fCells),.row hh 5 1 (AH BN hf)] ?_ ?_
    ·refine An (wm Aa (wv (Dh Aa Aa) (wm Aa (AY (decide ((B8 r1.2.fS hd)<32)) (λhg=>?_) (λhg=>?_)))))
     ·refine wf hg (wf hg (wv (r:=rB true) (A5 Aa hg Aa) (wa Aa (As ?_))));exact CI hg
     refine wo hg (wm Aa (wo hg (wv (DT Aa Aa) (G9 Aa hg Aa (wa Aa (As ?_))))));exact CI hg
    refine cz h9 Aa (λhB hC=>?_) (λhB hD=>?_)
    ·refine Am (wv (r:=rS ([]:Ai)) (AA Aa) (wa Aa (Aw (A4 (AB (Ae (AB (Ae (Be ?_)))))))));have hE:=B1 hC hi hk;refine AB (Ae ?_);obtain rfl:=A7 hE;exact A3 (E3 SP (AR Aa) (AR Aa)) (sC (sC (sS sN))) ⟨v4,Aa,Aa⟩
    refine Am (wm Aa (wv (BR Aa Aa) (wa Aa (Aw (cz hD Aa (λhG hH=>?_) (λhG hI=>?_))))))
    ·refine Ao (ck hH λhq hJ=>AV [(0,rP ha 0),(4,rv hh),(9,rP ha 0),(10,rP ha 0),(11,rP ha 1),(12,AD hd),(13,rP ha 0),(14,rP ha 0),(15,rP ha 0),(16,rS r1.2.fS),(17,AD (r1.2.fS.length:Int)),(19,rP ha 0),(20,rP ha 0),(21,rP ha 0),(22,rS r1.2.fS),(23,rP ha 0),(24,rP ha 0),(25,rP ha 1),(26,AD hd),(27,rI .u8 (B8 r1.2.fS hd)),(50,rP ha 0),(51,rP ha 0),(52,rP ha 1),(53,AD (hd+1)),(54,rP ha 0),(55,rP ha 0),(56,rP ha 0),(57,rS r1.2.fS),(58,AD (r1.2.fS.length:Int)),(59,rB (decide ((r1.2.fS.length:Int)≤(hd+1)))),(60,rB (decide ((r1.2.fS.length:Int)≤(hd+1)))),(83,rB ((decide ((r1.2.fS.length:Int)≤(hd+1)))||((!decide ((B8 r1.2.fS (hd+1))=34))&&(!decide ((B8 r1.2.fS (hd+1))=92)))))] [.blk ha [rS r1.2.fS,AD (hd+1),rv v4,rB r1.2.fGreat] 166,.row v4 83 4 (AH Ah r1.2.fCells),.row hh 5 1 (AH BN hf)] ?_ ?_)
     ·refine AY (decide ((r1.2.fS.length:Int)≤(hd+1))) (λhb=>?_) (λhb=>?_)
      ·refine D0 [0,4,9,10,11,12,13,14,15,16,17,19,20,21,22,23,24,25,26,27] ?_;refine rq (Aj Aa) (rq (A6 Aa) (rq (Au BB Aa Cy Aa Aa) (rq (AM (i:=0) CO Aa Aa Aa) (rq (Aj Aa) (rq (A6 Aa) (rq (Au BB Aa BX Aa Aa) (rq (AM (i:=0) Cf Aa Aa Aa) (rq (BF CT Aa) (rq (JV Aa Aa) (rq (Aj Aa) (rz hb (rz hb (rz hb (rz hb (rz hb (rz hb (rz hb (rz hb (rz hb (rz hb (rz hb (ru (ru ?_)))))))))))))))))))))));refine ru (ru (ru (ru (ru (ru (ru (ru (rz hb (rq (r:=rB true) (A5 (b:=decide ((r1.2.fS.length:Int)≤(hd+1))) Aa hb Aa) (re [50,51,52,53,54,55,56,57,58,59,60,61,62,63,64,65,66,67,68,69,70,71,72,73,74,75,76,77,78,79,80,81,82,83,0,4,9,10,11,12,13,14,15,16,17,19,20,21,22,23,24,25,26,27] ?_))))))))));exact CI hb
      refine AY (!decide ((B8 r1.2.fS (hd+1))=34)) (λhe=>?_) (λhe=>?_)
      ·refine D0 [0,4,9,10,11,12,13,14,15,16,17,19,20,21,22,23,24,25,26,27] ?_;refine rq (Aj Aa) (rq (A6 Aa) (rq (Au BB Aa Cy Aa Aa) (rq (AM (i:=0) CO Aa Aa Aa) (rq (Aj Aa) (rq (A6 Aa) (rq (Au BB Aa BX Aa Aa) (rq (AM (i:=0) Cf Aa Aa Aa) (rq (BF CT Aa) (rq (JV Aa Aa) (rq (Aj Aa) (rg hb (Aj Aa) (rg hb (A6 Aa) (rg hb (Au BB Aa BX Aa Aa) (rg hb (AM (i:=0) Cf Aa Aa Aa) (rg hb (Aj Aa) (rg hb (A6 Aa) (rg hb (Au BB Aa Cy Aa Aa) (rg hb (AM (i:=0) CO Aa Aa Aa) (rg hb (BA CT Aa Aa (EA hq hb)) (rg hb (BQ Aa Aa) (rg hb (Aj Aa) (rg he (Aj Aa) (rg he (A6 Aa) ?_)))))))))))))))))))))));refine rg he (Au BB Aa BX Aa Aa) (rg he (AM (i:=0) Cf Aa Aa Aa) (rg he (Aj Aa) (rg he (A6 Aa) (rg he (Au BB Aa Cy Aa Aa) (rg he (AM (i:=0) CO Aa Aa Aa) (rg he (BA CT Aa Aa (EA hq hb)) (rg he (BQ Aa Aa) (rg hb (A5 Aa he Aa) (rq (A2 Aa hb Aa) (re [50,51,52,53,54,55,56,57,58,59,60,61,62,63,64,65,66,67,68,69,70,71,72,73,74,75,76,77,78,79,80,81,82,83,0,4,9,10,11,12,13,14,15,16,17,19,20,21,22,23,24,25,26,27] ?_))))))))));exact CI (And.intro hb he)
      refine D0 [0,4,9,10,11,12,13,14,15,16,17,19,20,21,22,23,24,25,26,27] ?_;refine rq (Aj Aa) (rq (A6 Aa) (rq (Au BB Aa Cy Aa Aa) (rq (AM (i:=0) CO Aa Aa Aa) (rq (Aj Aa) (rq (A6 Aa) (rq (Au BB Aa BX Aa Aa) (rq (AM (i:=0) Cf Aa Aa Aa) (rq (BF CT Aa) (rq (JV Aa Aa) (rq (Aj Aa) (rg hb (Aj Aa) (rg hb (A6 Aa) (rg hb (Au BB Aa BX Aa Aa) (rg hb (AM (i:=0) Cf Aa Aa Aa) (rg hb (Aj Aa) (rg hb (A6 Aa) (rg hb (Au BB Aa Cy Aa Aa) (rg hb (AM (i:=0) CO Aa Aa Aa) (rg hb (BA CT Aa Aa (EA hq hb)) (rg hb (BQ Aa Aa) (rg hb (Aj Aa) (rz he (rz he ?_)))))))))))))))))))))));refine rz he (rz he (rz he (rz he (rz he (rz he (rz he (rz he (rg hb (r:=rB false) (A2 (b:=!decide ((B8 r1.2.fS (hd+1))=34)) Aa he Aa) (rq (A2 Aa hb Aa) (re [50,51,52,53,54,55,56,57,58,59,60,61,62,63,64,65,66,67,68,69,70,71,72,73,74,75,76,77,78,79,80,81,82,83,0,4,9,10,11,12,13,14,15,16,17,19,20,21,22,23,24,25,26,27] ?_))))))))));exact CI (And.intro hb he)
     refine cz hJ Aa (λhK hL=>?_) (λhK hN=>?_)
     ·refine Am (wv (r:=rS ([]:Ai)) (AA Aa) (wa Aa (Aw (A4 (Ae (AB (Ae (AB (Ae (Be ?_))))))))));have hO:=B1 hL hi hk;refine AB (Ae ?_);obtain rfl:=A7 hO;exact A3 (E3 SP (AR Aa) (AR Aa)) (sC (sC (sS sN))) ⟨v4,Aa,Aa⟩
     refine A0 (AX (Ao (ck hN λhP hQ=>D0 [0,4,9,10,11,12,13,14,15,16,17,19,20,21,22,23,24,25,26,27,50,51,52,53,54,55,56,57,58,59,60] ?_)));refine rq (Aj Aa) (rq (A6 Aa) (rq (Au BB Aa BX Aa Aa) (rq (AM (i:=0) Cf Aa Aa Aa) (rq (Aj Aa) (rq (A6 Aa) (rq (Au BB Aa Cy Aa Aa) (rq (AM (i:=0) CO Aa Aa Aa) (rq (BA CT Aa Aa hP) (rq (AA Aa) (re [84,85,86,87,88,89,90,91,92,5,0,4,9,10,11,12,13,14,15,16,17,19,20,21,22,23,24,25,26,27,50,51,52,53,54,55,56,57,58,59,60] ?_))))))))));refine AX (An (wm Aa (wv (A6 Aa) (vF BB Aa Cy (vL 0 CO Aa (ck hQ λhR hS=>wv (BW Aa Aa hR) (wv (A6 Aa) (vF BB Aa Cy (us (i:=0) Cy Aa Aa (B5 Aa) Aa Aa ?_)))))))));exact As (AK (Ay (AE ((B8 r1.2.fS (hd+1),(hd+1)+1),()) hS (AG.c Aa (AG.c5 Aa Aa Aa Aa Aa (AG.c5 Aa Aa Aa Aa Aa (AG.c5 Aa Aa Aa Aa Aa (AG.c5 Aa Aa Aa Aa Aa AG.nil))))) (sC (sC (sC sN))))))
    exact A0 (AK (Ay (AE ((B8 r1.2.fS hd,hd+1),()) hI (AG.c Aa (AG.c5 Aa Aa Aa Aa Aa (AG.c5 Aa Aa Aa Aa Aa (AG.c5 Aa Aa Aa Aa Aa (AG.c5 Aa Aa Aa Aa Aa AG.nil))))) (sC (sC (sC sN))))))
   rintro⟨⟨hj,hr⟩,⟨⟩⟩ hm;refine GC ?_;replace hm:Gy hf hj hr=some hp:=hm;unfold Gy at hm;refine An (wm Aa (wm Aa (Bf (ys:=([hj]:List Int)) (enc:=BN) (css:=[[rI .u8 hj]]) (xs:=[.tmp 101]) EF ys5 yz5 Aa Aa Aa ⟨E4.one Aa (Up.refl _),trivial⟩ Aa Ej Aa Aa Aa (λga=>?_))));refine ck hm λhT hU=>Exists.elim NT λinf hinf=>Cc (xs:=hf) (ys:=([hj]:List Int)) (enc:=BN) (i:=3) EF hinf.1 hinf.2.1 hinf.2.2.1 hinf.2.2.2 Aa Aa Aa Aa Aa (JG.w (i:=0) Aa Aa) Ej Lj hT Aa (λhV=>?_);refine wa Aa (As (AK (Gx [2,2] ?_)));have hW:=B9 hU hi;exact Ay (AE (hw,(hf++([hj]:List Int),hr),hV) ⟨hW,AfV _⟩ (AG.c Aa (AG.c Aa AG.nil)) (sC (sC (sC (sS sN)))))
  refine B3 (A9 ?_);have hX:=Cw hz hi hk;exact A9 (Bo (AE (hd,()) hX AG.nil (sC (sC (sS sN)))))
 rintro⟨hY,⟨⟩⟩ hn;refine JZ ?_;replace hn:IR r1 hY=some r:=hn;unfold IR at hn;refine Bn (AX (Am (wv (r:=rS ([]:Ai)) (AA Aa) (wa Aa (Aw (A4 ?_))))));obtain rfl:=A7 hn;exact A3 (E3 SP (AR Aa) (AR Aa)) (sC (sC sN)) ⟨v4,Aa,Aa⟩
theorem AbB (F:Nat)(hd:Nat)(hk:Value)(q:Az)(r:Bool×Az)(h:OQ F q=some r):Fn Tryz.prog GE 185 [rP hd 0] [.blk hd [rS q.fS,AD q.fAt,rv hk,rB q.fGreat] 166,.row hk 83 4 (AH Ah q.fCells)] (λR H=>∃w0_2:Value,R=rB r.1∧H=[.blk hd [rS r.2.fS,AD r.2.fAt,rv w0_2,rB r.2.fGreat] 166,.row w0_2 83 4 (AH Ah r.2.fCells)]):=by
 refine enter (n:=104) Tryz.func185 Aa Tryz.ntmps185 Aa (λw Z=>?_);unfold OQ at h;refine Am (wa Aa (B0 (wm Aa (wv (A6 Aa) (vF BB Aa Cy (vL 0 CO Aa (wa Aa (B0 (wm Aa (ob h λr1 e3 h2=>Dn [0,0] HO (DP hd hk q ([45]:Ai) r1 e3) ?_))))))))));rintro _ _ ⟨v4,rfl,rfl⟩;refine B0 (wm Aa (wv (A6 Aa) (vF BB Aa Cy (vL 0 CO Aa (wa Aa (Aw (Ao (AS (ob h2 λhn ho hp=>B4 (S:=Nat×(Int)×(Unit)) (V:=(Int)×(Unit)) 0 (λσ=>Ci (λσ=>EH r1 σ) σ.1 σ.2.1=some hn) (λσ=>[(0,rP hd 0),(3,AD q.fAt),(4,AD r1.2.fAt)]) (λσ=>[.blk hd [rS r1.2.fS,AD σ.2.1,rv v4,rB r1.2.fGreat] 166,.row v4 83 4 (AH Ah r1.2.fCells)]) (λσ=>σ.1) (F,r1.2.fAt,()) ho (AG.c Aa (AG.c Aa (AG.c Aa AG.nil))) (sC (sC sN)) (λσ=>Kg q r1 σ.1=some r) (λσ=>[(0,rP hd 0),(3,AD q.fAt),(4,AD r1.2.fAt)]) (λσ=>[.blk hd [rS r1.2.fS,AD σ.1,rv v4,rB r1.2.fGreat] 166,.row v4 83 4 (AH Ah r1.2.fCells)]) ?_ ?_)))))))))
 ·rintro⟨hG,hf,⟨⟩⟩ hq;refine GC ?_;obtain⟨hr,rfl,hs,hi,hm⟩:=Di hq;replace hi:EH r1 hf=some hs:=hi;unfold EH at hi;refine Ao (ck hi λhl ht=>AV [(0,rP hd 0),(3,AD q.fAt),(4,AD r1.2.fAt),(17,rP hd 0),(18,rP hd 0),(19,rP hd 1),(20,AD hf),(21,rP hd 0),(22,rP hd 0),(23,rP hd 0),(24,rS r1.2.fS),(25,AD (r1.2.fS.length:Int)),(26,rB (decide (hf<(r1.2.fS.length:Int)))),(27,rB (decide (hf<(r1.2.fS.length:Int)))),(38,rB ((decide (hf<(r1.2.fS.length:Int)))&&(decide (48≤(B8 r1.2.fS hf))))),(39,rB ((decide (hf<(r1.2.fS.length:Int)))&&(decide (48≤(B8 r1.2.fS hf))))),(50,rB ((decide (hf<(r1.2.fS.length:Int)))&&((decide (48≤(B8 r1.2.fS hf)))&&(decide ((B8 r1.2.fS hf)≤57)))))] [.blk hd [rS r1.2.fS,AD hf,rv v4,rB r1.2.fGreat] 166,.row v4 83 4 (AH Ah r1.2.fCells)] ?_ ?_)
  ·refine AY (decide (hf<(r1.2.fS.length:Int))) (λha=>?_) (λha=>?_)
   ·refine AY (decide (48≤(B8 r1.2.fS hf))) (λhb=>?_) (λhb=>?_)
    ·refine D0 [0,3,4] ?_;refine rq (Aj Aa) (rq (A6 Aa) (rq (Au BB Aa Cy Aa Aa) (rq (AM (i:=0) CO Aa Aa Aa) (rq (Aj Aa) (rq (A6 Aa) (rq (Au BB Aa BX Aa Aa) (rq (AM (i:=0) Cf Aa Aa Aa) (rq (BF CT Aa) (rq (Dh Aa Aa) (rq (Aj Aa) (rg ha (Aj Aa) (rg ha (A6 Aa) (rg ha (Au BB Aa BX Aa Aa) (rg ha (AM (i:=0) Cf Aa Aa Aa) (rg ha (Aj Aa) (rg ha (A6 Aa) (rg ha (Au BB Aa Cy Aa Aa) (rg ha (AM (i:=0) CO Aa Aa Aa) (rg ha (BA CT Aa Aa (Gt hl ha)) (rg ha (JV Aa Aa) (rq (A5 Aa ha Aa) (rq (Aj Aa) (rg hb (Aj Aa) ?_)))))))))))))))))))))));refine rg hb (A6 Aa) (rg hb (Au BB Aa BX Aa Aa) (rg hb (AM (i:=0) Cf Aa Aa Aa) (rg hb (Aj Aa) (rg hb (A6 Aa) (rg hb (Au BB Aa Cy Aa Aa) (rg hb (AM (i:=0) CO Aa Aa Aa) (rg hb (BA CT Aa Aa (Gt hl ha)) (rg hb (Oh Aa Aa) (rq (A5 Aa hb Aa) (re [17,18,19,20,21,22,23,24,25,26,27,28,29,30,31,32,33,34,35,36,37,38,39,40,41,42,43,44,45,46,47,48,49,50,0,3,4] ?_))))))))));exact CI (And.intro ha hb)
    refine D0 [0,3,4] ?_;refine rq (Aj Aa) (rq (A6 Aa) (rq (Au BB Aa Cy Aa Aa) (rq (AM (i:=0) CO Aa Aa Aa) (rq (Aj Aa) (rq (A6 Aa) (rq (Au BB Aa BX Aa Aa) (rq (AM (i:=0) Cf Aa Aa Aa) (rq (BF CT Aa) (rq (Dh Aa Aa) (rq (Aj Aa) (rg ha (Aj Aa) (rg ha (A6 Aa) (rg ha (Au BB Aa BX Aa Aa) (rg ha (AM (i:=0) Cf Aa Aa Aa) (rg ha (Aj Aa) (rg ha (A6 Aa) (rg ha (Au BB Aa Cy Aa Aa) (rg ha (AM (i:=0) CO Aa Aa Aa) (rg ha (BA CT Aa Aa (Gt hl ha)) (rg ha (JV Aa Aa) (rq (A5 Aa ha Aa) (rq (Aj Aa) (rz hb ?_)))))))))))))))))))))));refine rz hb (rz hb (rz hb (rz hb (rz hb (rz hb (rz hb (rz hb (rz hb (rq (r:=rB false) (A2 (b:=decide (48≤(B8 r1.2.fS hf))) Aa hb Aa) (re [17,18,19,20,21,22,23,24,25,26,27,28,29,30,31,32,33,34,35,36,37,38,39,40,41,42,43,44,45,46,47,48,49,50,0,3,4] ?_))))))))));exact CI (And.intro ha hb)
   refine D0 [0,3,4] ?_;refine rq (Aj Aa) (rq (A6 Aa) (rq (Au BB Aa Cy Aa Aa) (rq (AM (i:=0) CO Aa Aa Aa) (rq (Aj Aa) (rq (A6 Aa) (rq (Au BB Aa BX Aa Aa) (rq (AM (i:=0) Cf Aa Aa Aa) (rq (BF CT Aa) (rq (Dh Aa Aa) (rq (Aj Aa) (rz ha (rz ha (rz ha (rz ha (rz ha (rz ha (rz ha (rz ha (rz ha (rz ha (rq (r:=rB false) (A2 (b:=decide (hf<(r1.2.fS.length:Int))) Aa ha Aa) (rq (Aj Aa) (rz Aa ?_)))))))))))))))))))))));refine rz Aa (rz Aa (rz Aa (rz Aa (rz Aa (rz Aa (rz Aa (rz Aa (rz Aa (rq (r:=rB false) (A2 (b:=false) Aa Aa Aa) (re [17,18,19,20,21,22,23,24,25,26,27,28,29,30,31,32,33,34,35,36,37,38,39,40,41,42,43,44,45,46,47,48,49,50,0,3,4] ?_))))))))));exact CI ha
  refine cz ht Aa (λhu hw=>?_) (λhu hx=>?_)
  ·refine A0 (AX (AS (An (wm Aa (wv (A6 Aa) (vF BB Aa Cy (vL 0 CO Aa (ck hw λhy hz=>wv (BW Aa Aa hy) (wv (A6 Aa) (vF BB Aa Cy (us (i:=0) Cy Aa Aa (B5 Aa) Aa Aa ?_)))))))))));refine As (AK ?_);have h0:=B9 hz hm;exact Ay (AE (hr,hf+1,()) ⟨h0,AfV _⟩ (AG.c Aa (AG.c Aa (AG.c Aa AG.nil))) (sC (sC sN)))
  refine B3 (A9 ?_);have h1:=Cw hx hm hp;exact A9 (Bo (AE (hf,()) h1 (AG.c Aa (AG.c Aa (AG.c Aa AG.nil))) (sC (sC sN))))
 rintro⟨he,⟨⟩⟩ hj;refine JZ ?_;replace hj:Kg q r1 he=some r:=hj;unfold Kg at hj;refine Bn (AX (Ao (ck hj λh3 h4=>ck h4 λh5 h6=>ck h6 λh7 h8=>D0 [0,3,4] ?_)));refine rq (Aj Aa) (rq (A6 Aa) (rq (Au BB Aa BX Aa Aa) (rq (AM (i:=0) Cf Aa Aa Aa) (rq (Aj Aa) (rq (Aj Aa) (rq (A6 Aa) (rq (Au BB Aa Cy Aa Aa) (rq (AM (i:=0) CO Aa Aa Aa) (rq (LL CT Aa Aa Aa h3 h5) (Tp (Et (rs:=[rS (List.take (BC he-BC q.fAt) (List.drop (BC q.fAt) r1.2.fS))]) (r:=CZ [AD (Bu (List.take (BC he-BC q.fAt) (List.drop (BC q.fAt) r1.2.fS))),AD (BH (List.take (BC he-BC q.fAt) (List.drop (BC q.fAt) r1.2.fS)))]) YD Aa (Mw (List.take (BC he-BC q.fAt) (List.drop (BC q.fAt) r1.2.fS)) h7) Aa) (rq (Aj Aa) (rq (A8 Aa Aa) (rq (A8 Aa Aa) (rq (AA Aa) (rq (AA Aa) (re [5,6,0,4] ?_))))))))))))))));refine AX (Ao (AV [(0,rP hd 0),(5,AD (Bu (List.take (BC he-BC q.fAt) (List.drop (BC q.fAt) r1.2.fS)))),(6,AD (BH (List.take (BC he-BC q.fAt) (List.drop (BC q.fAt) r1.2.fS)))),(81,rB ((decide ((BH (List.take (BC he-BC q.fAt) (List.drop (BC q.fAt) r1.2.fS)))=1))||(decide (r1.2.fAt=he))))] [.blk hd [rS r1.2.fS,AD he,rv v4,rB r1.2.fGreat] 166,.row v4 83 4 (AH Ah r1.2.fCells)] ?_ ?_))
 ·refine An (wm Aa (wv (BR Aa Aa) (wm Aa (AY (decide ((BH (List.take (BC he-BC q.fAt) (List.drop (BC q.fAt) r1.2.fS)))=1)) (λhg=>?_) (λhg=>?_)))))
  ·refine wf hg (wf hg (wf hg (wf hg (wf hg (wf hg (wv (r:=rB true) (A5 Aa hg Aa) (As ?_)))))));exact CI hg
  refine wo hg (wm Aa (wo hg (wm Aa (wo hg (wv (A6 Aa) (wo hg (vF BB Aa Cy (wo hg (vL 0 CO Aa (wo hg (wv (BR Aa Aa) (G9 Aa hg Aa (As ?_)))))))))))));exact CI hg
 refine cz h8 Aa (λh9 hA=>?_) (λh9 hB=>?_)
 ·refine Am (wa Aa (Aw (A4 (Ae ?_))));obtain rfl:=A7 hA;exact A3 (Ch Tryz.results185 (AR Aa)) (sC (sC sN)) ⟨v4,Aa,Aa⟩
 refine A0 (AX (AV [(0,rP hd 0),(5,AD (Bu (List.take (BC he-BC q.fAt) (List.drop (BC q.fAt) r1.2.fS))))] [.blk hd [rS r1.2.fS,AD he,rv v4,rB (r1.2.fGreat||(!decide ((BH (List.take (BC he-BC q.fAt) (List.drop (BC q.fAt) r1.2.fS)))=0)))] 166,.row v4 83 4 (AH Ah r1.2.fCells)] ?_ ?_))
 ·refine An (wm Aa (wm Aa (wv (A6 Aa) (vF BB Aa Iy (vL 0 SS Aa (wm Aa (AY (r1.2.fGreat) (λhh=>?_) (λhh=>?_))))))))
  ·refine wf hh (wf hh (wv (r:=rB true) (A5 Aa hh Aa) (wv (A6 Aa) (vF BB Aa Iy (us (i:=0) Iy Aa Aa (B5 Aa) Aa Aa ?_)))));refine As (Ju (H':=[.blk hd [rS r1.2.fS,AD he,rv v4,rB (r1.2.fGreat||(!decide ((BH (List.take (BC he-BC q.fAt) (List.drop (BC q.fAt) r1.2.fS)))=0)))] 166,.row v4 83 4 (AH Ah r1.2.fCells)]) (by simp only[hh,AfT,Agc,Ago,AfW,Agg,Age,Agl,Agi,AfR,Agh,AfL,AfH]) ?_);exact wt
  refine wo hh (wm Aa (wo hh (wv (BQ Aa Aa) (G9 Aa hh Aa (wv (A6 Aa) (vF BB Aa Iy (us (i:=0) Iy Aa Aa (B5 Aa) Aa Aa ?_)))))));refine As (Ju (H':=[.blk hd [rS r1.2.fS,AD he,rv v4,rB (r1.2.fGreat||(!decide ((BH (List.take (BC he-BC q.fAt) (List.drop (BC q.fAt) r1.2.fS)))=0)))] 166,.row v4 83 4 (AH Ah r1.2.fCells)]) (by simp only[hh,AfT,Agc,Ago,AfW,Agg,Age,Agl,Agi,AfR,Agh,AfL,AfH]) ?_);exact wt
 refine Am (wm Aa (wm Aa (wv (A6 Aa) (vF BB Aa CR (vL 0 EC Aa (wm Aa (wv (r:=BL [AD 3,AD (Bu (List.take (BC he-BC q.fAt) (List.drop (BC q.fAt) r1.2.fS))),rS ([]:Ai),AD 0]) (IJ Aa Aa Aa Aa) (Bf (ys:=([(Ab.mk 3 (Bu (List.take (BC he-BC q.fAt) (List.drop (BC q.fAt) r1.2.fS))) ([]:Ai) 0)]:List Ab)) (enc:=Ah) (css:=[[AD 3,AD (Bu (List.take (BC he-BC q.fAt) (List.drop (BC q.fAt) r1.2.fS))),rS ([]:Ai),AD 0]]) (xs:=[.tmp 99]) D5 EB Oa Aa Aa Aa ⟨E4.agg ⟨Up.refl _,Up.refl _,Up.refl _,Up.refl _,trivial⟩,trivial⟩ Aa B7 Aa Aa Aa (λhH=>?_)))))))));refine ck hB λhC hD=>Exists.elim JD λinf hinf=>Cc (xs:=r1.2.fCells) (ys:=([(Ab.mk 3 (Bu (List.take (BC he-BC q.fAt) (List.drop (BC q.fAt) r1.2.fS))) ([]:Ai) 0)]:List Ab)) (enc:=Ah) (i:=2) D5 hinf.1 hinf.2.1 hinf.2.2.1 hinf.2.2.2 Aa Aa Aa Aa Aa (JG.w (i:=0) Aa Aa) B7 Df hC Aa (λhE=>?_);refine wv (A6 Aa) (vF BB Aa CR (us (i:=2) CR Aa Aa (C2 (i:=0) Aa) Aa Aa ?_));refine B0 (wa Aa (Aw (A4 (Gx [2] ?_))));obtain rfl:=A7 hD;exact A3 (Ch Tryz.results185 (AR Aa)) (sC (sC (sS sN))) ⟨hE,Aa,Aa⟩
theorem U9 (F:Nat)(hd:Nat)(hh:Value)(q:Az)(r:Bool×Az)(h:IS F q=some r):Fn Tryz.prog GE 160 [rP hd 0] [.blk hd [rS q.fS,AD q.fAt,rv hh,rB q.fGreat] 166,.row hh 83 4 (AH Ah q.fCells)] (λR H=>∃w0_2:Value,R=rB r.1∧H=[.blk hd [rS r.2.fS,AD r.2.fAt,rv w0_2,rB r.2.fGreat] 166,.row w0_2 83 4 (AH Ah r.2.fCells)]):=by
 refine enter (n:=75) Tryz.func160 Aa Tryz.ntmps160 Aa (λw Z=>?_);unfold IS at h;refine Am (wa Aa (Aw (Cn (S:=(Ai×Int×(List Ab)×Bool)×(Value)) (λσ=>Eo σ.1.1 σ.1.2.1 σ.1.2.2.1 σ.1.2.2.2=some r) (λσ=>[]) (λσ=>[.blk hd [rS σ.1.1,AD σ.1.2.1,rv σ.2,rB σ.1.2.2.2] 166,.row σ.2 83 4 (AH Ah σ.1.2.2.1)]) ?_ ?_)))
 ·refine AS (Am (wm Aa (ob h λhe hj hk=>Dn [0,0] HO (DP hd hh q ([110,117,108,108]:Ai) he hj) ?_)));rintro _ _ ⟨hl,rfl,rfl⟩;refine wa Aa (Aw (cz hk Aa (λhm hn=>?_) (λhm ho=>?_)))
  ·refine An (wm Aa (wm Aa (wv (A6 Aa) (vF BB Aa CR (vL 0 EC Aa (wv (r:=BL [AD 1,AD 0,rS ([]:Ai),AD 0]) (I1 Aa Aa) (Bf (ys:=([(Ab.mk 1 0 ([]:Ai) 0)]:List Ab)) (enc:=Ah) (css:=[[AD 1,AD 0,rS ([]:Ai),AD 0]]) (xs:=[.tmp 15]) D5 EB Oa Aa Aa Aa ⟨E4.agg ⟨Up.refl _,Up.refl _,Up.refl _,Up.refl _,trivial⟩,trivial⟩ Aa B7 Aa Aa Aa (λga=>?_))))))));refine ck hn λhp hq=>Exists.elim JD λinf hinf=>Cc (xs:=he.2.fCells) (ys:=([(Ab.mk 1 0 ([]:Ai) 0)]:List Ab)) (enc:=Ah) (i:=2) D5 hinf.1 hinf.2.1 hinf.2.2.1 hinf.2.2.2 Aa Aa Aa Aa Aa (JG.w (i:=0) Aa Aa) B7 Df hp Aa (λhr=>?_);refine wv (A6 Aa) (vF BB Aa CR (us (i:=2) CR Aa Aa (C2 (i:=0) Aa) Aa Aa ?_));refine As (AK (Gx [2] ?_));exact Ay (AE ((he.2.fS,he.2.fAt,he.2.fCells++([(Ab.mk 1 0 ([]:Ai) 0)]:List Ab),he.2.fGreat),hr) hq AG.nil (sC (sC (sS sN))))
  refine Am (wm Aa (ob ho λhf hs ht=>Dn [0,0] HO (DP hd hl he.2 ([116,114,117,101]:Ai) hf hs) ?_));rintro _ _ ⟨v76,rfl,rfl⟩;refine wa Aa (Aw (cz ht Aa (λhu hw=>?_) (λhu hx=>?_)))
  ·refine An (wm Aa (wm Aa (wv (A6 Aa) (vF BB Aa CR (vL 0 EC Aa (wv (r:=BL [AD 2,AD 1,rS ([]:Ai),AD 0]) (IJ Aa Aa Aa Aa) (Bf (ys:=([(Ab.mk 2 1 ([]:Ai) 0)]:List Ab)) (enc:=Ah) (css:=[[AD 2,AD 1,rS ([]:Ai),AD 0]]) (xs:=[.tmp 28]) D5 EB Oa Aa Aa Aa ⟨E4.agg ⟨Up.refl _,Up.refl _,Up.refl _,Up.refl _,trivial⟩,trivial⟩ Aa B7 Aa Aa Aa (λgb=>?_))))))));refine ck hw λhy hz=>Exists.elim JD λinf hinf=>Cc (xs:=hf.2.fCells) (ys:=([(Ab.mk 2 1 ([]:Ai) 0)]:List Ab)) (enc:=Ah) (i:=2) D5 hinf.1 hinf.2.1 hinf.2.2.1 hinf.2.2.2 Aa Aa Aa Aa Aa (JG.w (i:=0) Aa Aa) B7 Df hy Aa (λv80=>?_);refine wv (A6 Aa) (vF BB Aa CR (us (i:=2) CR Aa Aa (C2 (i:=0) Aa) Aa Aa ?_));refine As (AK (Gx [2] ?_));exact Ay (AE ((hf.2.fS,hf.2.fAt,hf.2.fCells++([(Ab.mk 2 1 ([]:Ai) 0)]:List Ab),hf.2.fGreat),v80) hz AG.nil (sC (sC (sS sN))))
  refine Am (wm Aa (ob hx λhb h0 h1=>Dn [0,0] HO (DP hd v76 hf.2 ([102,97,108,115,101]:Ai) hb h0) ?_));rintro _ _ ⟨hi,rfl,rfl⟩;refine wa Aa (Aw (cz h1 Aa (λh2 h3=>?_) (λh2 h4=>?_)))
  ·refine An (wm Aa (wm Aa (wv (A6 Aa) (vF BB Aa CR (vL 0 EC Aa (wv (r:=BL [AD 2,AD 0,rS ([]:Ai),AD 0]) (I1 Aa Aa) (Bf (ys:=([(Ab.mk 2 0 ([]:Ai) 0)]:List Ab)) (enc:=Ah) (css:=[[AD 2,AD 0,rS ([]:Ai),AD 0]]) (xs:=[.tmp 41]) D5 EB Oa Aa Aa Aa ⟨E4.agg ⟨Up.refl _,Up.refl _,Up.refl _,Up.refl _,trivial⟩,trivial⟩ Aa B7 Aa Aa Aa (λgc=>?_))))))));refine ck h3 λh5 h6=>Exists.elim JD λinf hinf=>Cc (xs:=hb.2.fCells) (ys:=([(Ab.mk 2 0 ([]:Ai) 0)]:List Ab)) (enc:=Ah) (i:=2) D5 hinf.1 hinf.2.1 hinf.2.2.1 hinf.2.2.2 Aa Aa Aa Aa Aa (JG.w (i:=0) Aa Aa) B7 Df h5 Aa (λh7=>?_);refine wv (A6 Aa) (vF BB Aa CR (us (i:=2) CR Aa Aa (C2 (i:=0) Aa) Aa Aa ?_));refine As (AK (Gx [2] ?_));exact Ay (AE ((hb.2.fS,hb.2.fAt,hb.2.fCells++([(Ab.mk 2 0 ([]:Ai) 0)]:List Ab),hb.2.fGreat),h7) h6 AG.nil (sC (sC (sS sN))))
  refine Ao (ck h4 λh8 h9=>ob h9 λhA hB hC=>D0 [0] ?_);refine rq (Aj Aa) (rq (A6 Aa) (rq (Au BB Aa BX Aa Aa) (rq (AM (i:=0) Cf Aa Aa Aa) (rq (Aj Aa) (rq (A6 Aa) (rq (Au BB Aa Cy Aa Aa) (rq (AM (i:=0) CO Aa Aa Aa) (rq (DS CT Aa Aa h8) (Tp (G0 Tryz.call184 (NU (List.drop (BC hb.2.fAt) hb.2.fS) ([34]:Ai) hA hB) Aa) (rq (AA Aa) (re [46,0] ?_)))))))))));refine AX (cz hC Aa (λhD hE=>?_) (λhD hG=>?_))
  ·refine Am (wm Aa (ob hE λha hH hI=>Dn [0,0] Tryz.call161 (VC F hd hi hb.2 ha hH) ?_));rintro _ _ ⟨hJ,rfl,rfl⟩;refine wm Aa (wv (A8 Aa Aa) (wv (A8 Aa Aa) (wa Aa (wa Aa (Aw (Ao (Am (wm Aa (wv (BT Aa) (Aw (cz hI Aa (λhK hL=>?_) (λhK hN=>?_))))))))))))
   ·refine Am (wa Aa (Aw (A4 (Ae (AB (Ae ?_))))));obtain rfl:=A7 hL;exact A3 (Ch Tryz.results160 (AR Aa)) (sC (sC sN)) ⟨hJ,Aa,Aa⟩
   refine A0 (AX (An (wm Aa (wm Aa (wv (A6 Aa) (vF BB Aa CR (vL 0 EC Aa (wm Aa (wv (r:=BL [AD 4,AD 0,rS ha.1,AD 0]) (Lx Aa Aa Aa Aa) (Bf (ys:=([(Ab.mk 4 0 ha.1 0)]:List Ab)) (enc:=Ah) (css:=[[AD 4,AD 0,rS ha.1,AD 0]]) (xs:=[.tmp 70]) D5 EB Oa Aa Aa Aa ⟨E4.agg ⟨Up.refl _,Up.refl _,Up.refl _,Up.refl _,trivial⟩,trivial⟩ Aa B7 Aa Aa Aa (λgd=>?_)))))))))));refine ck hN λhO hP=>Exists.elim JD λinf hinf=>Cc (xs:=ha.2.2.fCells) (ys:=([(Ab.mk 4 0 ha.1 0)]:List Ab)) (enc:=Ah) (i:=2) D5 hinf.1 hinf.2.1 hinf.2.2.1 hinf.2.2.2 Aa Aa Aa Aa Aa (JG.w (i:=0) Aa Aa) B7 Df hO Aa (λhQ=>?_);refine wv (A6 Aa) (vF BB Aa CR (us (i:=2) CR Aa Aa (C2 (i:=0) Aa) Aa Aa ?_));refine As (AK (Gx [2] ?_));exact Ay (AE ((ha.2.2.fS,ha.2.2.fAt,ha.2.2.fCells++([(Ab.mk 4 0 ha.1 0)]:List Ab),ha.2.2.fGreat),hQ) hP AG.nil (sC (sC (sS sN))))
  refine Am (wm Aa (ob hG λhR hS hT=>Dn [0,0] Tryz.call185 (AbB F hd hi hb.2 hR hS) ?_));rintro _ _ ⟨hU,rfl,rfl⟩;refine wa Aa (Aw (A4 (AB (Ae ?_))));obtain rfl:=A7 hT;exact A3 (Ch Tryz.results160 (AR Aa)) (sC (sC sN)) ⟨hU,Aa,Aa⟩
 rintro⟨⟨hV,hW,hX,hY⟩,hZ⟩ hg;refine GC ?_;replace hg:Eo hV hW hX hY=some r:=hg;unfold Eo at hg;refine Am (wa Aa (Aw (A4 ?_)));obtain rfl:=A7 hg;exact A3 (Ch Tryz.results160 (AR Aa)) (sC (sC sN)) ⟨hZ,Aa,Aa⟩
theorem U7 (F:Nat)(hg:Az→Option (Bool×Az))(hH:(∀(hb:Nat) (hn:Value) (q:Az) (r:Bool×Az),hg q=some r→Fn Tryz.prog GE 125 [rP hb 0] [.blk hb [rS q.fS,AD q.fAt,rv hn,rB q.fGreat] 166,.row hn 83 4 (AH Ah q.fCells)] (λR H=>∃w0_2:Value,R=rB r.1∧H=[.blk hb [rS r.2.fS,AD r.2.fAt,rv w0_2,rB r.2.fGreat] 166,.row w0_2 83 4 (AH Ah r.2.fCells)])))(hb:Nat)(hn:Value)(q:Az)(r:Bool×Az)(h:Mg F hg q=some r):Fn Tryz.prog GE 125 [rP hb 0] [.blk hb [rS q.fS,AD q.fAt,rv hn,rB q.fGreat] 166,.row hn 83 4 (AH Ah q.fCells)] (λR H=>∃w0_2:Value,R=rB r.1∧H=[.blk hb [rS r.2.fS,AD r.2.fAt,rv w0_2,rB r.2.fGreat] 166,.row w0_2 83 4 (AH Ah r.2.fCells)]):=by
 refine enter (n:=96) Tryz.func125 Aa Tryz.ntmps125 Aa (λw Z=>?_);unfold Mg at h;refine Am (wa Aa (B0 (wm Aa (ob h λr1 e3 h2=>Dn [0,0] HO (DP hb hn q ([91]:Ai) r1 e3) ?_))));rintro _ _ ⟨v4,rfl,rfl⟩;refine wa Aa (Aw (Ao (Cn (S:=(Bool×Ai×Int×(List Ab)×Bool)×(Value)) (λσ=>En F hg r1 σ.1.1 σ.1.2.1 σ.1.2.2.1 σ.1.2.2.2.1 σ.1.2.2.2.2=some r) (λσ=>[(0,rP hb 0),(2,rB false),(3,rB r1.1),(19,rB σ.1.1)]) (λσ=>[.blk hb [rS σ.1.2.1,AD σ.1.2.2.1,rv σ.2,rB σ.1.2.2.2.2] 166,.row σ.2 83 4 (AH Ah σ.1.2.2.2.1)]) ?_ ?_)))
 ·refine An (wm Aa (wv (BT Aa) (wm Aa (bz h2 (λhi gc=>?_) (λhi gd=>?_)))))
  ·refine wo hi (wm Aa (wo hi (ob gc λho ge gf=>Dn [0,0] HO (DP hb v4 r1.2 ([123]:Ai) ho ge) ?_)));rintro _ _ ⟨v24,rfl,rfl⟩;exact wo hi (wv (BT Aa) (It Aa hi Aa (As (Ay (AE ((!ho.1,ho.2.fS,ho.2.fAt,ho.2.fCells,ho.2.fGreat),v24) gf (AG.c Aa (AG.c Aa (AG.c Aa (AG.c Aa AG.nil)))) (sC (sC sN)))))))
  exact wf hi (wf hi (wf hi (wv (r:=rB false) (A2 Aa hi Aa) (As (Ay (AE ((false,r1.2.fS,r1.2.fAt,r1.2.fCells,r1.2.fGreat),v4) gd (AG.c Aa (AG.c Aa (AG.c Aa (AG.c Aa AG.nil)))) (sC (sC sN))))))))
 rintro⟨⟨gg,hy,hz,x16,h0⟩,gh⟩ h1;refine GC ?_;replace h1:En F hg r1 gg hy hz x16 h0=some r:=h1;unfold En at h1;refine cz h1 Aa (λgi gj=>?_) (λgi gl=>?_)
 ·refine Am (wm Aa (ob gj λgm gp gq=>Dn [0,0] Tryz.call160 (U9 F hb gh (Az.mk hy hz x16 h0) gm gp) ?_));rintro _ _ ⟨gr,rfl,rfl⟩;refine wa Aa (Aw (A4 (Ae ?_)));obtain rfl:=A7 gq;exact A3 (Ch Lr (AR Aa)) (sC (sC sN)) ⟨gr,Aa,Aa⟩
 refine A0 (AX (Am (wa Aa (wv (r:=rS ([125]:Ai)) (AA Aa) (Aw (Ao (Am (wm Aa (Aw (cz gl Aa (λhA gs=>?_) (λhA gt=>?_)))))))))))
 ·refine An (wa Aa (wv (r:=rS ([93]:Ai)) (AA Aa) (B0 (wm Aa (wv (A6 Aa) (vF BB Aa CR (vL 0 EC Aa (wv (Ca (ys:=x16) (enc:=Ah) (i:=1) D5 Aa Aa) (wa Aa (B0 (wm Aa (wm Aa (wv (A6 Aa) (vF BB Aa CR (vL 0 EC Aa (wm Aa (wv (r:=BL [AD 5,AD 0,rS ([]:Ai),AD 0]) (I1 Aa Aa) (Bf (ys:=([(Ab.mk 5 0 ([]:Ai) 0)]:List Ab)) (enc:=Ah) (css:=[[AD 5,AD 0,rS ([]:Ai),AD 0]]) (xs:=[.tmp 34]) D5 EB Oa Aa Aa Aa ⟨E4.agg ⟨Up.refl _,Up.refl _,Up.refl _,Up.refl _,trivial⟩,trivial⟩ Aa B7 Aa Aa Aa (λxb=>?_)))))))))))))))))));refine ck gs λgu gv=>Exists.elim JD λinf hinf=>Cc (xs:=x16) (ys:=([(Ab.mk 5 0 ([]:Ai) 0)]:List Ab)) (enc:=Ah) (i:=2) D5 hinf.1 hinf.2.1 hinf.2.2.1 hinf.2.2.2 Aa Aa Aa Aa Aa (JG.w (i:=0) Aa Aa) B7 Df gu Aa (λv37=>?_);refine wv (A6 Aa) (vF BB Aa CR (us (i:=2) CR Aa Aa (C2 (i:=0) Aa) Aa Aa ?_));refine Aw (Ao (Am (wm Aa (wm Aa (ob gv λhs gw gx=>Dn [2,0] HO (DP hb v37 (Az.mk hy hz (x16++([(Ab.mk 5 0 ([]:Ai) 0)]:List Ab)) h0) ([93]:Ai) hs gw) ?_)))));rintro _ _ ⟨hI,rfl,rfl⟩;refine Aw (cz gx Aa (λgy gz=>?_) (λgy g0=>?_))
  ·refine Am (wa Aa (Aw (A4 (Ae ?_))));obtain rfl:=A7 gz;exact A3 (Ch Lr (AR Aa)) (sC (sC (sS sN))) ⟨hI,Aa,Aa⟩
  refine A0 (AX (Am (wv (r:=rS ([]:Ai)) (AA Aa) (B0 (wa Aa (Aw (AS (ob g0 λg1 g2 hB=>B4 (S:=Nat×(Int×Ai×Int×(List Ab)×Bool)×(Value)) (V:=(Unit)×(Unit)) 0 (λσ=>Ci (λσ=>EU hg x16 σ.1 σ.2.1 σ.2.2.1 σ.2.2.2.1 σ.2.2.2.2) σ.1 σ.2.1=some g1) (λσ=>[(0,rP hb 0),(2,rB false),(3,rB r1.1),(5,rS ([93]:Ai)),(6,AD (x16.length:Int)),(7,rS ([]:Ai)),(8,AD σ.2.1.1)]) (λσ=>[.blk hb [rS σ.2.1.2.1,AD σ.2.1.2.2.1,rv σ.2.2,rB σ.2.1.2.2.2.2] 166,.row σ.2.2 83 4 (AH Ah σ.2.1.2.2.2.1)]) (λσ=>σ.1) (F,(1,hs.2.fS,hs.2.fAt,hs.2.fCells,hs.2.fGreat),hI) g2 (AG.c Aa (AG.c Aa (AG.c5 Aa Aa Aa Aa Aa AG.nil))) (sC (sC (sS sN))) (λσ=>HU =some r) (λσ=>[]) (λσ=>[]) ?_ ?_))))))))
  ·rintro⟨xc,⟨h3,hJ,hK,hL,hN⟩,g3⟩ g4;refine GC ?_;obtain⟨g5,rfl,g6,h4,h5⟩:=Di g4;replace h4:EU hg x16 h3 hJ hK hL hN=some g6:=h4;unfold EU at h4;refine Ao (AS (Ao (Am (wm Aa (wv (BT Aa) (Aw (D9 Aa (Ae7 hA) (A0 (AX (Ao (Am (wm Aa (ob h4 λhd g7 g8=>Dn [0,0] Tryz.call125 (hH hb g3 (Az.mk hJ hK hL hN) hd g7) ?_)))))))))))));rintro _ _ ⟨hp,rfl,rfl⟩;refine wv (BT Aa) (Aw (cz g8 Aa (λg9 gA=>?_) (λg9 gB=>?_)))
   ·refine Am (wa Aa (Aw (A4 (Ae (AB (Ae (Ae (Be ?_))))))));have gC:=B1 gA h5 hB;refine AB ?_;obtain rfl:=A7 gC;exact A3 (Ch Lr (AR Aa)) (sC (sC sN)) ⟨hp,Aa,Aa⟩
   refine A0 (AX (Am (wm Aa (wv (A6 Aa) (vF BB Aa CR (vL 0 EC Aa (wm Aa (wm Aa (ck gB λhC gD=>wv (r:=rv (Gd 4 hp (BC (x16.length:Int)) 0)) (Eu (i:=1) D5 EB Aa Aa Aa (BE hC)) (wv (r:=rv (Gd 4 hp (BC (x16.length:Int)) 3)) (EX (k:=1) CU Aa Cy Aa (BE hC) Aa Aa Aa) (Jx (enc:=Ah) (ys:=hd.2.fCells) (y':=(Ab.mk ((Aq hd.2.fCells (x16.length:Int)).fKind) ((Aq hd.2.fCells (x16.length:Int)).fInt) ((Aq hd.2.fCells (x16.length:Int)).fStr) h3)) (i:=1) (j:=(x16.length:Int)) Cy Aa Aa (B5 Aa) Aa hC Aa Aa (H':=[.blk hb [rS hd.2.fS,AD hd.2.fAt,rv hp,rB hd.2.fGreat] 166,.row hp 83 4 (AH Ah (List.set hd.2.fCells (BC (x16.length:Int)) (Ab.mk ((Aq hd.2.fCells (x16.length:Int)).fKind) ((Aq hd.2.fCells (x16.length:Int)).fInt) ((Aq hd.2.fCells (x16.length:Int)).fStr) h3)))]) Aa (bd gD λgE gF gG=>?_))))))))))));rw[← gF];refine Aw (Ao (Am (wm Aa (wm Aa (ob gG λhO gH gI=>Dn [0,0] HO (DP hb hp (Az.mk hd.2.fS hd.2.fAt gE hd.2.fGreat) ([93]:Ai) hO gH) ?_)))));rintro _ _ ⟨hP,rfl,rfl⟩;refine Aw (cz gI Aa (λc167 gJ=>?_) (λc167 gK=>?_))
   ·refine Am (wa Aa (Aw (A4 (Ae (AB (Ae (Ae (Be ?_))))))));have gL:=B1 gJ h5 hB;refine AB ?_;obtain rfl:=A7 gL;exact A3 (Ch Lr (AR Aa)) (sC (sC sN)) ⟨hP,Aa,Aa⟩
   refine A0 (AX (Am (wm Aa (ob gK λht gM gN=>Dn [0,0] HO (DP hb hP hO.2 ([44]:Ai) ht gM) ?_))));rintro _ _ ⟨hQ,rfl,rfl⟩;refine wv (BT Aa) (Aw (cz gN Aa (λc175 gO=>?_) (λc175 gP=>?_)))
   ·refine Am (wa Aa (Aw (A4 (AB (Ae (Ae (Be ?_)))))));have gQ:=B1 gO h5 hB;refine AB ?_;obtain rfl:=A7 gQ;exact A3 (Ch Lr (AR Aa)) (sC (sC sN)) ⟨hQ,Aa,Aa⟩
   refine A0 (AK (AX (An (wm Aa (ck gP λgR gS=>wv (BW Aa Aa gR) (wa Aa (As ?_)))))));have gT:=B9 gS h5;exact Ay (AE (g5,(h3+1,ht.2.fS,ht.2.fAt,ht.2.fCells,ht.2.fGreat),hQ) ⟨gT,AfV _⟩ (AG.c Aa (AG.c Aa (AG.c5 Aa Aa Aa Aa Aa AG.nil))) (sC (sC sN)))
  rintro⟨⟨⟩,⟨⟩⟩ gU
  cases gU
 refine A0 (AX (Am (wm Aa (wv (A6 Aa) (vF BB Aa CR (vL 0 EC Aa (wv (Ca (ys:=x16) (enc:=Ah) (i:=1) D5 Aa Aa) (wa Aa (B0 (wm Aa (wm Aa (wv (A6 Aa) (vF BB Aa CR (vL 0 EC Aa (wm Aa (wv (r:=BL [AD 6,AD 0,rS ([]:Ai),AD 0]) (I1 Aa Aa) (Bf (ys:=([(Ab.mk 6 0 ([]:Ai) 0)]:List Ab)) (enc:=Ah) (css:=[[AD 6,AD 0,rS ([]:Ai),AD 0]]) (xs:=[.tmp 34]) D5 EB Oa Aa Aa Aa ⟨E4.agg ⟨Up.refl _,Up.refl _,Up.refl _,Up.refl _,trivial⟩,trivial⟩ Aa B7 Aa Aa Aa (λxd=>?_))))))))))))))))));refine ck gt λgV gW=>Exists.elim JD λinf hinf=>Cc (xs:=x16) (ys:=([(Ab.mk 6 0 ([]:Ai) 0)]:List Ab)) (enc:=Ah) (i:=2) D5 hinf.1 hinf.2.1 hinf.2.2.1 hinf.2.2.2 Aa Aa Aa Aa Aa (JG.w (i:=0) Aa Aa) B7 Df gV Aa (λgX=>?_);refine wv (A6 Aa) (vF BB Aa CR (us (i:=2) CR Aa Aa (C2 (i:=0) Aa) Aa Aa ?_));refine Aw (Ao (Am (wm Aa (wm Aa (ob gW λhu gY gZ=>Dn [2,0] HO (DP hb gX (Az.mk hy hz (x16++([(Ab.mk 6 0 ([]:Ai) 0)]:List Ab)) h0) ([125]:Ai) hu gY) ?_)))));rintro _ _ ⟨hR,rfl,rfl⟩;refine Aw (cz gZ Aa (λca cb=>?_) (λca cc=>?_))
 ·refine Am (wa Aa (Aw (A4 (Ae ?_))));obtain rfl:=A7 cb;exact A3 (Ch Lr (AR Aa)) (sC (sC (sS sN))) ⟨hR,Aa,Aa⟩
 refine A0 (AX (Am (wv (r:=rS ([]:Ai)) (AA Aa) (B0 (wa Aa (Aw (AS (ob cc λcd ce h6=>B4 (S:=Nat×(Ai×Int×Ai×Int×(List Ab)×Bool)×(Value)) (V:=(Unit)×(Unit)) 0 (λσ=>Ci (λσ=>ET F hg x16 σ.1 σ.2.1 σ.2.2.1 σ.2.2.2.1 σ.2.2.2.2.1 σ.2.2.2.2.2) σ.1 σ.2.1=some cd) (λσ=>[(0,rP hb 0),(2,rB false),(3,rB r1.1),(5,rS ([125]:Ai)),(6,AD (x16.length:Int)),(7,rS σ.2.1.1),(8,AD σ.2.1.2.1)]) (λσ=>[.blk hb [rS σ.2.1.2.2.1,AD σ.2.1.2.2.2.1,rv σ.2.2,rB σ.2.1.2.2.2.2.2] 166,.row σ.2.2 83 4 (AH Ah σ.2.1.2.2.2.2.1)]) (λσ=>σ.1) (F,(([]:Ai),1,hu.2.fS,hu.2.fAt,hu.2.fCells,hu.2.fGreat),hR) ce (AG.c Aa (AG.c Aa (AG.c5 Aa Aa Aa Aa Aa AG.nil))) (sC (sC (sS sN))) (λσ=>HT =some r) (λσ=>[]) (λσ=>[]) ?_ ?_))))))))
 ·rintro⟨xe,⟨hh,hl,hS,hT,hU,hV⟩,cf⟩ cg;refine GC ?_;obtain⟨ch,rfl,hD,h7,hw⟩:=Di cg;replace h7:ET F hg x16 hh hl hS hT hU hV=some hD:=h7;unfold ET at h7;refine Ao (AS (Ao (Am (wm Aa (wv (BT Aa) (Aw (DE Aa (AcU hA) (Am (wm Aa (ob h7 λha ci cj=>Dn [0,0] Tryz.call161 (VC F hb cf (Az.mk hS hT hU hV) ha ci) ?_))))))))));rintro _ _ ⟨h8,rfl,rfl⟩;refine wm Aa (wv (A8 Aa Aa) (wv (A8 Aa Aa) (wa Aa (wa Aa (Aw (Ao (Cn (S:=(Bool×Bool×Bool×Ai×Int×(List Ab)×Bool)×(Value)) (λσ=>C9 hg x16 hl ha σ.1.1 σ.1.2.1 σ.1.2.2.1 σ.1.2.2.2.1 σ.1.2.2.2.2.1 σ.1.2.2.2.2.2.1 σ.1.2.2.2.2.2.2=some hD) (λσ=>[(0,rP hb 0),(2,rB false),(3,rB r1.1),(5,rS ([125]:Ai)),(6,AD (x16.length:Int)),(7,rS hh),(8,AD hl),(9,rS ha.1),(10,rB ha.2.1),(44,rB r1.1),(45,rB (!r1.1)),(46,CZ [rS ha.1,rB ha.2.1]),(47,rP hb 0),(48,CZ [rS ha.1,rB ha.2.1]),(49,rS ha.1),(50,rB ha.2.1),(51,rB ha.2.1),(52,rB (!ha.2.1)),(53,rB (!ha.2.1)),(61,rB σ.1.1),(62,rB σ.1.2.1),(66,rB σ.1.2.2.1)]) (λσ=>[.blk hb [rS σ.1.2.2.2.1,AD σ.1.2.2.2.2.1,rv σ.2,rB σ.1.2.2.2.2.2.2] 166,.row σ.2 83 4 (AH Ah σ.1.2.2.2.2.2.1)]) ?_ ?_)))))))
  ·refine An (wm Aa (wv (BT Aa) (wm Aa (bz cj (λhf cl=>?_) (λhf cm=>?_)))))
   ·exact wf hf (wf hf (wf hf (wu (wu (wu (wf hf (wv (r:=rB true) (A5 Aa hf Aa) (wm Aa (wz Aa Aa (wz Aa Aa (wz Aa Aa (wv (r:=rB true) (A5 (b:=true) Aa Aa Aa) (As (Ay (AE ((true,true,true,ha.2.2.fS,ha.2.2.fAt,ha.2.2.fCells,ha.2.2.fGreat),h8) cl (AG.c Aa (AG.c Aa (AG.c5 Aa Aa Aa Aa Aa (AG.c5 Aa Aa Aa Aa Aa (AG.c5 Aa Aa Aa Aa Aa (AG.c5 Aa Aa Aa Aa Aa AG.nil)))))) (sC (sC sN)))))))))))))))))
   refine wo hf (wm Aa (wo hf (wv (DT Aa Aa) (wo hf (wm Aa (bz cm (λhj cn=>?_) (λhj co=>?_)))))))
   ·refine wo hj (wm Aa (wo hj (wm Aa (wo hj (wv (ZK Aa Aa) (wo hf (It Aa hj Aa (G9 Aa hf Aa (wm Aa (bz cn (λhk cp=>?_) (λhk cq=>?_)))))))))))
    ·exact wf hk (wf hk (wf hk (wv (r:=rB true) (A5 Aa hk Aa) (As (Ay (AE ((Cz ha.1 hh||decide (ha.1=hh),Cz ha.1 hh||decide (ha.1=hh),true,ha.2.2.fS,ha.2.2.fAt,ha.2.2.fCells,ha.2.2.fGreat),h8) cp (AG.c Aa (AG.c Aa (AG.c5 Aa Aa Aa Aa Aa (AG.c5 Aa Aa Aa Aa Aa (AG.c5 Aa Aa Aa Aa Aa (AG.c5 Aa Aa Aa Aa Aa AG.nil)))))) (sC (sC sN))))))))
    refine wo hk (wm Aa (wo hk (ob cq λhq cr cs=>Dn [0,0] HO (DP hb h8 ha.2.2 ([58]:Ai) hq cr) ?_)));rintro _ _ ⟨ct,rfl,rfl⟩;exact wo hk (wv (BT Aa) (G9 Aa hk Aa (As (Ay (AE ((Cz ha.1 hh||decide (ha.1=hh),Cz ha.1 hh||decide (ha.1=hh),!hq.1,hq.2.fS,hq.2.fAt,hq.2.fCells,hq.2.fGreat),ct) cs (AG.c Aa (AG.c Aa (AG.c5 Aa Aa Aa Aa Aa (AG.c5 Aa Aa Aa Aa Aa (AG.c5 Aa Aa Aa Aa Aa (AG.c5 Aa Aa Aa Aa Aa AG.nil)))))) (sC (sC sN)))))))
   refine wf hj (wf hj (wf hj (wo hf (wv (r:=rB false) (A2 Aa hj Aa) (G9 Aa hf Aa (wm Aa (AQ (b:=false) Aa Aa Aa (wm Aa (AQ (b:=false) Aa Aa Aa (ob co λhm cu cv=>Dn [0,0] HO (DP hb h8 ha.2.2 ([58]:Ai) hm cu) ?_))))))))));rintro _ _ ⟨cw,rfl,rfl⟩;exact AQ (b:=false) Aa Aa Aa (wv (BT Aa) (wv (r:=rB (!hm.1)) (A2 (b:=false) Aa Aa Aa) (As (Ay (AE ((false,false,!hm.1,hm.2.fS,hm.2.fAt,hm.2.fCells,hm.2.fGreat),cw) cv (AG.c Aa (AG.c Aa (AG.c5 Aa Aa Aa Aa Aa (AG.c5 Aa Aa Aa Aa Aa (AG.c5 Aa Aa Aa Aa Aa (AG.c5 Aa Aa Aa Aa Aa AG.nil)))))) (sC (sC sN)))))))
  rintro⟨⟨cx,cy,c0,hW,hX,hE,hY⟩,c1⟩ h9;refine GC ?_;replace h9:C9 hg x16 hl ha cx cy c0 hW hX hE hY=some hD:=h9;unfold C9 at h9;refine cz h9 Aa (λc2 c3=>?_) (λc2 c4=>?_)
  ·refine Am (wa Aa (Aw (A4 (Ae (Ae (AB (Ae (Ae (Be ?_)))))))));have c6:=B1 c3 hw h6;refine AB ?_;obtain rfl:=A7 c6;exact A3 (Ch Lr (AR Aa)) (sC (sC sN)) ⟨c1,Aa,Aa⟩
  refine A0 (AX (Am (wm Aa (wa Aa (Aw (An (wm Aa (wm Aa (wv (A6 Aa) (vF BB Aa CR (vL 0 EC Aa (wm Aa (wv (r:=BL [AD 4,AD 0,rS ha.1,AD 0]) (Lx Aa Aa Aa Aa) (Bf (ys:=([(Ab.mk 4 0 ha.1 0)]:List Ab)) (enc:=Ah) (css:=[[AD 4,AD 0,rS ha.1,AD 0]]) (xs:=[.tmp 74]) D5 EB Oa Aa Aa Aa ⟨E4.agg ⟨Up.refl _,Up.refl _,Up.refl _,Up.refl _,trivial⟩,trivial⟩ Aa B7 Aa Aa Aa (λc7=>?_)))))))))))))));refine ck c4 λc8 c9=>Exists.elim JD λinf hinf=>Cc (xs:=hE) (ys:=([(Ab.mk 4 0 ha.1 0)]:List Ab)) (enc:=Ah) (i:=2) D5 hinf.1 hinf.2.1 hinf.2.2.1 hinf.2.2.2 Aa Aa Aa Aa Aa (JG.w (i:=0) Aa Aa) B7 Df c8 Aa (λcA=>?_);refine wv (A6 Aa) (vF BB Aa CR (us (i:=2) CR Aa Aa (C2 (i:=0) Aa) Aa Aa ?_));refine Aw (Ao (Am (wm Aa (ob c9 λhe cB cC=>Dn [2,0] Tryz.call125 (hH hb cA (Az.mk hW hX (hE++([(Ab.mk 4 0 ha.1 0)]:List Ab)) hY) he cB) ?_))));rintro _ _ ⟨hr,rfl,rfl⟩;refine wv (BT Aa) (Aw (cz cC Aa (λcD cE=>?_) (λcD cF=>?_)))
  ·refine Am (wa Aa (Aw (A4 (Ae (AB (Ae (Ae (Be ?_))))))));have cG:=B1 cE hw h6;refine AB ?_;obtain rfl:=A7 cG;exact A3 (Ch Lr (AR Aa)) (sC (sC (sS sN))) ⟨hr,Aa,Aa⟩
  refine A0 (AX (Am (wm Aa (wv (A6 Aa) (vF BB Aa CR (vL 0 EC Aa (wm Aa (wm Aa (ck cF λhG cH=>wv (r:=rv (Gd 4 hr (BC (x16.length:Int)) 0)) (Eu (i:=1) D5 EB Aa Aa Aa (BE hG)) (wv (r:=rv (Gd 4 hr (BC (x16.length:Int)) 3)) (EX (k:=1) CU Aa Cy Aa (BE hG) Aa Aa Aa) (Jx (enc:=Ah) (ys:=he.2.fCells) (y':=(Ab.mk ((Aq he.2.fCells (x16.length:Int)).fKind) ((Aq he.2.fCells (x16.length:Int)).fInt) ((Aq he.2.fCells (x16.length:Int)).fStr) hl)) (i:=1) (j:=(x16.length:Int)) Cy Aa Aa (B5 Aa) Aa hG Aa Aa (H':=[.blk hb [rS he.2.fS,AD he.2.fAt,rv hr,rB he.2.fGreat] 166,.row hr 83 4 (AH Ah (List.set he.2.fCells (BC (x16.length:Int)) (Ab.mk ((Aq he.2.fCells (x16.length:Int)).fKind) ((Aq he.2.fCells (x16.length:Int)).fInt) ((Aq he.2.fCells (x16.length:Int)).fStr) hl))),.row (.slice (some ⟨c7,0,none⟩) 1 1) 83 4 (AH Ah ([(Ab.mk 4 0 ha.1 0)]:List Ab))]) Aa (bd cH λcI cJ cK=>?_))))))))))));rw[← cJ];refine Aw (Ao (Am (wm Aa (wm Aa (ob cK λhZ cL cM=>Dn [0,0] HO (DP hb hr (Az.mk he.2.fS he.2.fAt cI he.2.fGreat) ([125]:Ai) hZ cL) ?_)))));rintro _ _ ⟨ga,rfl,rfl⟩;refine Aw (cz cM Aa (λcN cO=>?_) (λcN cP=>?_))
  ·refine Am (wa Aa (Aw (A4 (Ae (AB (Ae (Ae (Be ?_))))))));have cQ:=B1 cO hw h6;refine AB ?_;obtain rfl:=A7 cQ;exact A3 (Ch Lr (AR Aa)) (sC (sC (sS sN))) ⟨ga,Aa,Aa⟩
  refine A0 (AX (Am (wm Aa (ob cP λhx cR cS=>Dn [0,0] HO (DP hb ga hZ.2 ([44]:Ai) hx cR) ?_))));rintro _ _ ⟨gb,rfl,rfl⟩;refine wv (BT Aa) (Aw (cz cS Aa (λcT cU=>?_) (λcT cV=>?_)))
  ·refine Am (wa Aa (Aw (A4 (AB (Ae (Ae (Be ?_)))))));have cW:=B1 cU hw h6;refine AB ?_;obtain rfl:=A7 cW;exact A3 (Ch Lr (AR Aa)) (sC (sC (sS sN))) ⟨gb,Aa,Aa⟩
  refine A0 (AK (AX (An (wm Aa (ck cV λcX cY=>wv (BW Aa Aa cX) (wa Aa (As ?_)))))));have cZ:=B9 cY hw;exact Ay (AE (ch,(ha.1,hl+1,hx.2.fS,hx.2.fAt,hx.2.fCells,hx.2.fGreat),gb) ⟨cZ,AfV _⟩ (AG.c Aa (AG.c Aa (AG.c5 Aa Aa Aa Aa Aa AG.nil))) (sC (sC (sS sN))))
 rintro⟨⟨⟩,⟨⟩⟩ xa
 cases xa
theorem NC:∀F:Nat,(∀(ha:Nat) (hb:Value) (q:Az) (r:Bool×Az),CJ F q=some r→Fn Tryz.prog GE 125 [rP ha 0] [.blk ha [rS q.fS,AD q.fAt,rv hb,rB q.fGreat] 166,.row hb 83 4 (AH Ah q.fCells)] (λR H=>∃w0_2:Value,R=rB r.1∧H=[.blk ha [rS r.2.fS,AD r.2.fAt,rv w0_2,rB r.2.fGreat] 166,.row w0_2 83 4 (AH Ah r.2.fCells)]))
  | 0=>(λ_ _ _ _ h=>by simp[CJ] at h)
  | nn+1=>(λha hb q r h=>U7 nn (CJ nn) (NC nn) ha hb q r (by rw[CJ] at h;exact h))
theorem WU (F:Nat)(ha:Nat)(hb:Value)(q:Az)(r:Bool×Az)(h:CJ F q=some r):Fn Tryz.prog GE 125 [rP ha 0] [.blk ha [rS q.fS,AD q.fAt,rv hb,rB q.fGreat] 166,.row hb 83 4 (AH Ah q.fCells)] (λR H=>∃w0_2:Value,R=rB r.1∧H=[.blk ha [rS r.2.fS,AD r.2.fAt,rv w0_2,rB r.2.fGreat] 166,.row w0_2 83 4 (AH Ah r.2.fCells)]):=(NC F) ha hb q r h
theorem QA (F:Nat)(s:Ai)(r:(List Ab)×Int)(h:Jv F s=some r):Fn Tryz.prog GE 100 [rS s] [] (λR H=>R=CZ [Br 4 (AH Ah r.1),AD r.2]∧H=[]):=by
 refine enter (n:=34) Tryz.func100 Aa Tryz.ntmps100 Aa (λw Z=>?_);unfold Jv at h;refine Am (wa Aa (wa Aa (Aw (Ao (Am (wm Aa (wv (BF CT Aa) (wv (DT Aa Aa) (Aw (cz h Aa (λc1 h2=>?_) (λc1 h3=>?_)))))))))))
 ·refine Am (wa Aa (wa Aa (Aw (A4 (Ae (WK.up (d:=2) (r:=Br 4 (AH Ah ([]:List Ab))) Aa (Up.le (LW.nil _)) ?_))))));obtain rfl:=A7 h2;exact A3 (E3 V7 (AR Aa) (AR Aa)) sN ⟨Aa,Aa⟩
 refine A0 (AX (Am (wm Aa (wv (r:=BL [rS s,AD 0,rv (.slice none 0 0),rB false]) (Sk Aa Aa) (CN Aa Aa (λb4=>?_))))));refine wa Aa (Aw (Ao (Cn (S:=(Bool×Ai×Int×(List Ab)×Bool)×(Value)) (λσ=>GJ F σ.1.1 σ.1.2.1 σ.1.2.2.1 σ.1.2.2.2.1 σ.1.2.2.2.2=some r) (λσ=>[(2,rv (.slice none 0 0)),(3,AD 0),(4,rP b4 0),(22,rB σ.1.1)]) (λσ=>[.blk b4 [rS σ.1.2.1,AD σ.1.2.2.1,rv σ.2,rB σ.1.2.2.2.2] 166,.row σ.2 83 4 (AH Ah σ.1.2.2.2.1)]) ?_ ?_)))
 ·refine An (wm Aa (WL.nilrow (e:=83) (sz:=4) (ob h3 λhb hf hg=>Dn [1,0] Tryz.call125 (WU F b4 (.slice none 0 0                                                                                   ) (Az.mk s 0 ([]:List Ab) false) hb hf) ?_)));rintro _ _ ⟨v21,rfl,rfl⟩;refine wv (BT Aa) (wm Aa (bz hg (λha hh=>?_) (λha hi=>?_)))
  ·exact wf ha (wf ha (wf ha (wf ha (wf ha (wf ha (wf ha (wv (r:=rB true) (A5 Aa ha Aa) (As (Ay (AE ((true,hb.2.fS,hb.2.fAt,hb.2.fCells,hb.2.fGreat),v21) hh (AG.c Aa (AG.c Aa (AG.c Aa (AG.c Aa AG.nil)))) (sC (sC sN))))))))))))
  exact wo ha (wm Aa (wo ha (wv (A6 Aa) (wo ha (vF BB Aa Cy (wo ha (vL 0 CO Aa (wo ha (wm Aa (wo ha (wv (BF CT Aa) (wo ha (wv (BQ Aa Aa) (G9 Aa ha Aa (As (Ay (AE ((!decide (hb.2.fAt=(s.length:Int)),hb.2.fS,hb.2.fAt,hb.2.fCells,hb.2.fGreat),v21) hi (AG.c Aa (AG.c Aa (AG.c Aa (AG.c Aa AG.nil)))) (sC (sC sN)))))))))))))))))))
 rintro⟨⟨hj,hk,hl,he,hm⟩,hx⟩ hd;refine GC ?_;replace hd:GJ F hj hk hl he hm=some r:=hd;unfold GJ at hd;refine cz hd Aa (λhn ho=>?_) (λhn hp=>?_)
 ·refine Am (wa Aa (wa Aa (Aw (A4 (Ae (WK.up (d:=2) (r:=Br 4 (AH Ah ([]:List Ab))) Aa (Up.le (LW.nil _)) ?_))))));obtain rfl:=A7 ho;exact A3 (E3 V7 (AR Aa) (AR Aa)) (sS (sS sN)) ⟨Aa,Aa⟩
 refine A0 (AX (Ao (Am (wm Aa (wv (A6 Aa) (vF BB Aa Iy (vL 0 SS Aa (Aw (cz hp Aa (λhq hr=>?_) (λhq hs=>?_))))))))))
 ·refine Am (wa Aa (wa Aa (Aw (A4 (Ae (WK.up (d:=2) (r:=Br 4 (AH Ah ([]:List Ab))) Aa (Up.le (LW.nil _)) ?_))))));obtain rfl:=A7 hr;exact A3 (E3 V7 (AR Aa) (AR Aa)) (sS (sS sN)) ⟨Aa,Aa⟩
 refine A0 (AX (Am (wm Aa (wv (A6 Aa) (vF BB Aa CR (vL 0 EC Aa (WL.freeze (i:=1) Aa (WL.up (d:=30) (r:=Br 4 (AH Ah he)) Aa (Up.fact (i:=0) Aa) (ob hs λht hu hw=>DI Tryz.call126 (UB F he ht hu) Aa (wv (A8 Aa Aa) (wv (A8 Aa Aa) (wa Aa (wa Aa (Aw (A4 ?_)))))))))))))));obtain rfl:=A7 hw;exact A3 (E3 V7 (AR Aa) (AR Aa)) (sS (sS sN)) ⟨Aa,Aa⟩
end Go.Proofs.YtfobhhegpkinaaaGreatDoor.Q
