/-
  Texts of the proof, put together: Row, ShelfV, QG0, PlB, PlC, PIa, WIa, PlD, PlE, LiA, IdA, IdB, IdC, TzL, QG, QO, RowQ, Qk, PXa, WXa, PXb, QU, QT, QN, PM, QM, QI, QW, QV, PH, QJ, QX, QL, PI, QF, Q6, Q9, Qy.
-/
import Derived.Test.YtoegakndmanfoaaGreatDoorTO1
import Derived.Test.YtoegakndmanfoaaGreatDoorCards
import Derived.Test.YtoegakndmanfoaaGreatDoorTie
import Derived.Carry
import Derived.ChangeSame
import Derived.ProofKit
import Derived.OpenShut
import Derived.Deep.DeepHandedRow
import Derived.Deep.DeepWitnessRowRef
import Derived.Lib.LaidTab
import Derived.Lib.LaidIn
import Derived.Stop.LaidErr
import Derived.Shelf.Strings.Builder1
import Derived.Shelf.Strings.Count
import Derived.Shelf.Strings.Search1
import Derived.Shelf.Strings.Search2
import Derived.Shelf.Strings.Search3
import Derived.Shelf.Small.Strs
import Derived.Shelf.LaysM
import Derived.Shelf.LaysC
import Derived.Test.YtoegakndmanfoaaGreatDoorProg
import Derived.Lib.Bytealg
import Derived.Lib.AtoiAllCases
import Derived.Lib.ItoaNum
import Derived.Lib.ItoaLen
import Derived.Lib.ItoaMem
import Derived.Shelf.Lays7
import Derived.Shelf.Spec.TrailingZeros
import Derived.Deep.Slices
import Derived.ChangeArms
import Derived.DataReads
import Derived.Defers
import Derived.Laws.Tables
import Derived.Laws.Cover3
import Derived.MapKept
import Derived.Maps.RangeRun
import GoSem.Op.IntBits
import GoSem.Op.Shift
import Derived.ScopeJumps
import Derived.Laws.CopyRow
import Derived.Laws.IdiomCopy
import Derived.Laws.OwnMore
import Derived.LoopN
open Decidable renaming decide → Ac
open Option renaming some → Ad, none → Ai
open Bool renaming true → Af, false → Ah
open List renaming length → Ae, drop → Ap, take → Aq, replicate → Au, range → As
open Int renaming toNat → Ao
open UInt8 renaming ofNat → Ar
open Go.Proofs.Tryz
namespace Go.Proofs.YtoegakndmanfoaaGreatDoor
open Go Go.ChangeShapes Go.WideShapes Go.ChangeAt Go.RowKit Go.WideElems
set_option linter.unusedVariables false
theorem own:ownKnob prog.godebug=Ai:=Ak
theorem Y0:laidOutB prog=Af:=Ak
section
variable {H : Type} {enc : TypeId × Value → H} {P : Program}
theorem J9 (hl:laidOutB P=Af){W W':World}(hb:Below W.heap.size W W'){sp:Nat→Bool}:∀{ts:List TypeId} {vs:List Value} {ds:List (DataW H)} {ps:List MemPlace},ts.all (λt=>P.readableRec t&&Ac (t<P.types.size))=Af→
  DataW.TrodAll enc P W 0 (λ_=>Af) Af ts vs ds ps→(∀p∈ps,p.block<W.heap.size)→(∀p∈ps,sp p.block=Af)→DataW.TrodAll enc P W' 0 sp Af ts vs ds ps
 | [],[],[],_,_,h,_,_=>h
 | [],_::_,_,_,_,h,_,_=>h.elim
 | [],[],_::_,_,_,h,_,_=>h.elim
 | _::_,[],_,_,_,h,_,_=>h.elim
 | _::_,_::_,[],_,_,h,_,_=>h.elim
 | t::ts,v::vs,d::ds,ps,ht,⟨p,q,h1,h2,e⟩,hlt,hs=>by
  simp only[List.all_cons,Ae9,AeA] at ht;refine⟨p,q,?_,J9 hl hb ht.2 h2 (λx hx=>hlt x (by rw[e];exact List.mem_append_right _ hx)) (λx hx=>hs x (by rw[e];exact List.mem_append_right _ hx)),e⟩;exact Trod_stays hl ht.1.1 ht.1.2 h1 (λx hx=>hb.same (hlt x (by rw[e];exact List.mem_append_left _ hx))) (λx hx=>hs x (by rw[e];exact List.mem_append_left _ hx))
theorem TK (hl:laidOutB P=Af){f:Func}{s:ChangeSpec}{apart fresh handsOn:Bool}{W W':World}{args:Array Value}{ds gs:List (DataW H)}{before:List MemPlace}{tb:TypeId}(hp:f.params.toList.all (λt=>P.readableRec t&&Ac (t<P.types.size))=Af)
  (hv:s.vars=[]) (hr:f.resultTypes = #[tb]) (hb4:P.underlying tb=Ad .bool) (hW:DataW.Whole enc P f.params.toList s.vars apart W args.toList ds gs before)
  (h1:(s.fn H (ds++gs)).results=[.lit (.bool Af)]) (h2:(s.fn H (ds++gs)).args=ds) (h3:(s.fn H (ds++gs)).vars=[]) (hb:Below W.heap.size W W') :
  s.post enc P f apart fresh handsOn Ah W args (.bool Af) W':=by
 have hlt:∀p∈before,p.block<W.heap.size:=λp hp=>hW.lt p hp;have hW':=hW;obtain⟨p,q,hA,hV,hbf,_,_⟩:=hW';have hq:q=[]:=by
  rw[hv] at hV
  cases gs with
  | nil=>exact hV
  | cons _ _=>exact hV.elim
 subst hq;rw[List.append_nil] at hbf;subst hbf;refine⟨ds,gs,before,[],before,[],hW,?_,?_,?_,World.keptBut_mono (λp hp=>⟨hp,.inr (.inl hp)⟩) (hb.frame (·∈before)),λh=>by cases h⟩
 ·rw[h1,hr];exact trodAll_mk1 (shut_bool hb4 Af)
 ·rw[h2];exact J9 hl hb hp hA hlt (λx hx=>by simpa using hlt x hx)
 ·rw[hv,h3];exact rfl
end
theorem Sj:prog.underlying 4=Ad .bool:=underlying4
def MZ : List (String × DataW Unit) := [("math/bits.deBruijn32tab", Rows.laid_math_bits_deBruijn32tab), ("math/bits.deBruijn64tab", Rows.laid_math_bits_deBruijn64tab), ("internal/strconv.uint64pow10", Rows.laid_internal_strconv_uint64pow10), ("strconv.ErrRange", Rows.laid_strconv_ErrRange), ("strconv.ErrSyntax", Rows.laid_strconv_ErrSyntax), ("faas/code.shapes", Rows.laid_faas_code_shapes)]
theorem W8:(prog.globals[4]?).map (·.type)=Ad 357:=Ak
theorem W7:(prog.globals[3]?).map (·.type)=Ad 250:=Ak
theorem Ut:prog.cellsOf 193=1:=Ak
theorem Uu:prog.cellsOf 357=20:=Ak
theorem YG:(prog.globals[6]?).map (·.type)=Ad 364:=Ak
theorem WY:prog.cellsOf 5=1:=Ak
theorem QO:prog.cellsOf 364=64:=Ak
theorem Uv:prog.cellsOf 9=1:=Ak
theorem WZ:prog.cellsOf 345=1:=Ak
theorem W5:(prog.globals[0]?).map (·.type)=Ad 269:=Ak
theorem Ov:prog.cellsOf 268=6:=Ak
theorem Sf:prog.cellsOf 269=21*6:=Ak
variable{x:DataW Unit×List MemPlace}{cs:List Value}
section
variable {enc : TypeId × Value → Unit} {P : Program} {w : World} {base : Nat} {sp : Nat → Bool} {held : Bool}
def AcC (P:Program)(t:TypeId):Prop:=P.underlying t=Ad .bool∨(∃k,P.underlying t=Ad (.int k))∨P.underlying t=Ad .string
theorem WM {t:TypeId}{fuel:Nat}(ht:AcC P t)(h:DataW.trod enc P w base sp held fuel t cs=Ad x):cs=[Te x.1]:=by
 rcases ht with ht | ⟨k,ht⟩ | ht
 ·obtain⟨b,rfl,rfl⟩:=DataW.trod_bool ht h;rfl
 ·obtain⟨b,rfl,rfl,_⟩:=DataW.trod_int ht h;rfl
 ·obtain⟨b,rfl,rfl,_⟩:=DataW.trod_string ht h;simp[Te,B]
theorem RY {t:TypeId}{fs:Array Field}{fuel:Nat}(ht:P.underlying t=Ad (.struct fs))(hf:∀(i:Nat) (f:Field),fs[i]? =Ad f→f.offset=i∧P.cellsOf f.type=1∧AcC P f.type)(hc:P.cellsOf t=fs.size)
  (h:DataW.trod enc P w base sp held fuel t cs=Ad x):cs=Mk x.1:=by
 obtain⟨xs,m,rfl,rfl,hl,hn,hx⟩:=DataW.trod_struct ht h;simp only[Mk];apply List.ext_getElem?;intro i
 by_cases hi:i<fs.size
 ·obtain⟨h1,h2,h3⟩:=hf i fs[i] (Array.getElem?_eq_getElem hi);have h4:=hx i fs[i] (Array.getElem?_eq_getElem hi);rw[h1,h2,Ae3 Ab] at h4;have h5:=WM h3 h4;have h6:cs[i]? =Ad (Te xs[i].1):=by
   have:=congrArg (·[0]?) h5;simpa[AeF,List.getElem?_drop] using this
  rw[h6];simp[Ae3 (show i<Ae xs by omega)]
 ·rw[List.getElem?_eq_none Ab,List.getElem?_eq_none Am]
theorem WW {α:Type}{k:Nat}{g:α→List Value}:∀{xs:List α} {l:List Value},Ae l=Ae xs*k→(∀(i:Nat) (a:α),xs[i]? =Ad a→(l.drop (i*k)).take k=g a)→l=xs.flatMap g
 | [],l,hl,_=>by simpa using hl
 | a::xs,l,hl,h=>by
  have h0:=h 0 a rfl;simp only[Nat.zero_mul,List.drop_zero] at h0;have ih:=WW (k:=k) (g:=g) (xs:=xs) (l:=l.drop k) (by simp[hl,Nat.succ_mul]) λi b hb=>by
   have:=h (i+1) b (by simpa using hb);rw[List.drop_drop];rw[← this,Nat.succ_mul,Nat.add_comm]
  rw[List.flatMap_cons,← h0,← ih,Afd]
theorem QG {t e:TypeId}{n k fuel:Nat}(ht:P.underlying t=Ad (.array n e))(hk:P.cellsOf e=k)(hc:P.cellsOf t=n*k)
  (hr:∀fuel cs x,DataW.trod enc P w base sp held fuel e cs=Ad x→cs=Mk x.1) (h:DataW.trod enc P w base sp held fuel t cs=Ad x):cs=Nj x.1:=by
 obtain⟨xs,m,rfl,rfl,hl,hn,hx⟩:=DataW.trod_array ht h;simp only[Nj];rw[List.flatMap_map];refine WW (k:=k) (by rw[hl,hc,hn]) λi a ha=>?_;have hi:i<n:=by rw[← hn];exact(List.getElem?_eq_some_iff.1 ha).1
 have:=hx i hi;rw[hk,ha] at this;exact hr _ _ _ this
end
theorem Yf {W : World} {rest : List (String × DataW Unit)} (h : laidMet prog (("faas/code.shapes", Rows.laid_faas_code_shapes) :: rest) W) : W.var? prog "faas/code.shapes" = Ad ID.toArray := by
 obtain⟨ps,⟨g',t',cs,fuel,p,q,hg',ht',hvar,hd,_,_⟩,_⟩:=h;obtain rfl:=Option.some.inj (W6.symm.trans hg');obtain rfl:=Option.some.inj (W5.symm.trans ht');have:=QG underlying269 Ov Sf (λfuel cs x hx=>RY underlying268 (λi f hf=>by
  rcases i with _ | _ | _ | _ | _ | _ | i
  ·cases hf;exact⟨rfl,Ak,.inr (.inr underlying9)⟩
  ·cases hf;exact⟨rfl,Ak,.inl underlying4⟩
  ·cases hf;exact⟨rfl,Ak,.inl underlying4⟩
  ·cases hf;exact⟨rfl,Ak,.inl underlying4⟩
  ·cases hf;exact⟨rfl,Ak,.inr (.inl ⟨_,underlying3⟩)⟩
  ·cases hf;exact⟨rfl,Ak,.inr (.inl ⟨_,underlying3⟩)⟩
  ·simp at hf) Ov hx) hd
 rw[hvar];exact congrArg Ad (by rw[← Array.toArray_toList (xs:=cs),this];rfl)
theorem Tg : "*" ++ "errors.errorString" = "*errors.errorString" := by decide
theorem Aa5 (u : TypeId) (h : prog.typeName? 3 u = Ad "*errors.errorString") : u = 343 :=
 typeName_ptr_named (nm := "errors.errorString") (by rw [Tg]; kernel_rfl) Ak Al u (by rw [Tg]; exact h)
theorem Mi {W:World}{n:String}{g:Nat}{cs:Array Value}(hg:prog.globalNamed n=Ad g)(h:W.var? prog n=Ad cs):g<W.heap.size:=by
 unfold World.var? at h;rw[hg] at h;simp only[Option.bind_some] at h
 cases hh:W.heap[g]? with
 | none=>rw[hh] at h;cases h
 | some o=>exact(Array.getElem?_eq_some_iff.1 hh).1
theorem Aa6 {W:World}(h:laidMet prog MZ W):UA W:=by
 have h2:=laidMet.tail h;have hz : Lib.TabIs prog W "math/bits.deBruijn64tab" .u8 Zl := Lib.tabIs_of_head gTz YG underlying364 underlying5 WY QO h2
 have h3:=laidMet.tail h2;have h4:=laidMet.tail h3;have hp : Lib.TabIs prog W "internal/strconv.uint64pow10" .u64 Lib.pow10Tab := Lib.tabIs_of_head Aa3 W8 underlying357 underlying193 Ut Uu h3
 obtain⟨a,s,hv,_,_,_⟩:=laid_sentinel h4 Aa2 W7 underlying250 Aa5 underlying343 underlying345 rfl rfl underlying9 WZ Uv;have hs:=Yf (laidMet.tail (laidMet.tail h4));refine⟨⟨hp,hz,⟨_,_,hv⟩,hs⟩,?_⟩;have h1:=Mi Aa3 hp;have h5:=Mi Aa2 hv;exact Nat.max_lt.2 ⟨Nat.max_lt.2 ⟨Nat.max_lt.2 ⟨h1,h5⟩,Mi gTz hz⟩,Mi W6 hs⟩
noncomputable def Jq (os:Os):World:=
 let w0:=World.holding prog os ⟨#[],#[],[]⟩
 let put (h:Array Obj) (g:Nat) (cs:Array Value):Array Obj:=h.modify g fun
  | .cells _ t frozen=>.cells cs t frozen
  | o=>o
 let nums (d:DataW Unit):Array Value:=match d with
  | .agg ds=>(ds.map fun | .lit (.int k n)=>Value.int k n | _=>undef).toArray
  | _=>#[]
 let n:=w0.heap.size
 let h1:=put w0.heap 5 (nums Rows.laid_math_bits_deBruijn32tab)
 let h2:=put h1 6 (nums Rows.laid_math_bits_deBruijn64tab)
 let h3:=put h2 4 (nums Rows.laid_internal_strconv_uint64pow10)
 let h4:=put h3 3 #[.iface 343 (.pointer (Ad ⟨n,0,Ai⟩))]
 let h5:=put h4 2 #[.iface 343 (.pointer (Ad ⟨n+1,0,Ai⟩))]
 let h5a:=put h5 0 ID.toArray
 let h6:=h5a.push (.cells #[.string ⟨#[118,97,108,117,101,32,111,117,116,32,111,102,32,114,97,110,103,101]⟩] 345 (0,0))
 let h7:=h6.push (.cells #[.string ⟨#[105,110,118,97,108,105,100,32,115,121,110,116,97,120]⟩] 345 (0,0))
 { w0 with heap:=h7 }
set_option maxRecDepth 100000 in
theorem Wn (os:Os)(args:Array Value):laidMet prog MZ ((Jq os).forCall (λ_ _=>0) ⟨#[],args,[]⟩).memory:=
 laidMet_of_run' 8 Ak Ak
end Go.Proofs.YtoegakndmanfoaaGreatDoor
namespace Go.Proofs
open Go.Shelf
def Tryz.lays138_ren:Go.Shelf.Ren:=⟨fun | 138=>184 | 195=>214 | 218=>215 | 143=>216 | 219=>245 | 217=>198 | 225=>155 | 224=>154 | 267=>265 | 266=>237 | 314=>282 | n=>n,fun | 9=>9 | 3=>3 | 4=>4 | 5=>5 | 0=>0 | 46=>247 | 146=>347 | 51=>346 | n=>n,fun | 1=>1 | n=>n⟩
theorem Tryz.lays138:Go.Proofs.Lays.n138 prog Tryz.lays138_ren:={
 mixed:=by kernel_rfl
 f138:=func184.trans (congrArg Ad (by kernel_rfl))
 f143:=func216.trans (congrArg Ad (by kernel_rfl))
 f195:=func214.trans (congrArg Ad (by kernel_rfl))
 f217:=func198.trans (congrArg Ad (by kernel_rfl))
 f218:=func215.trans (congrArg Ad (by kernel_rfl))
 f219:=func245.trans (congrArg Ad (by kernel_rfl))
 f224:=func154.trans (congrArg Ad (by kernel_rfl))
 f225:=func155.trans (congrArg Ad (by kernel_rfl))
 f266:=func237.trans (congrArg Ad (by kernel_rfl))
 f267:=func265.trans (congrArg Ad (by kernel_rfl))
 f314:=func282.trans (congrArg Ad (by kernel_rfl))
 t0:=underlying0
 a0:=isAgg0
 z0:=sizeOf0
 v0:=zeroValue0
 t3:=underlying3
 a3:=isAgg3
 z3:=sizeOf3
 v3:=zeroValue3
 t4:=underlying4
 a4:=isAgg4
 z4:=sizeOf4
 v4:=zeroValue4
 t5:=underlying5
 a5:=isAgg5
 z5:=sizeOf5
 v5:=zeroValue5
 t9:=underlying9
 a9:=isAgg9
 z9:=sizeOf9
 v9:=zeroValue9
 t46:=underlying247
 a46:=isAgg247
 z46:=sizeOf247
 v46:=zeroValue247
 t51:=underlying346
 a51:=isAgg346
 z51:=sizeOf346
 v51:=zeroValue346
 t146:=underlying347
 a146:=isAgg347
 z146:=sizeOf347
 v146:=zeroValue347
 g1:=by kernel_rfl }
open Go.RowKit Go.Lib in
theorem Tryz.strings_Count_one (s:ByteArray)(c:UInt8)(w:World) :
  Calls prog 184 #[.string s,.string ⟨#[c]⟩] w λe w'=>e = .returned (.int .i64 (Lib.countByte s.data.toList c))∧w'=w:=Any.strings_Count_one Tryz.lays138 s c w
end Go.Proofs
namespace Go.Proofs.YtoegakndmanfoaaGreatDoor.Q
open Go Go.RowKit
set_option linter.unusedVariables false
def GE (Z:Fz):Prop:=∀w,PC Z w→UA w
theorem GE.mono {Z Z':Fz}(h:Fz.le Z Z')(hg:GE Z):GE Z':=λw hw=>hg w ⟨λb o e=>hw b o (h b o e),λk i b e=>hw.nm k i b (h.nm k i b e)⟩
theorem Fn0.of_id {P:Program}{E:Fz→Prop}{f:FuncId}{vs:List Value}{v:Value}(h:∀w,Calls P f vs.toArray w (λe w'=>e = .returned v∧w'=w)):Fn0 P E f (vs.map rv) (rv v):=
 Fn0.of_old λw Z _ _=>(h w).mono λe w' ⟨he,hw⟩=>⟨he,by rw[hw];exact Proofs.YtoegakndmanfoaaGreatDoor.St.refl w []⟩
theorem BH.map_rv {Z:Fz}:∀vs:List Value,BH Z (vs.map rv) vs
 | []=>trivial
 | v::r=>⟨rfl,BH.map_rv r⟩
theorem Fn0.old {P:Program}{f:FuncId}(vs:List Value){v:Value}(h:Fn0 P (λ_=>True) f (vs.map rv) (rv v))(w:World):Calls P f vs.toArray w (PA w v):=
 (h w ⟨λ_=>Ai,λ_ _=>Ai⟩ vs (BH.map_rv vs) ⟨rfl,rfl,rfl,AeG _,λ_ _ _=>rfl,Aj,Aj,.nil,⟨Aj,Aj⟩,Fz.le.refl _,Aj,Aj,trivial,λ_ _=>trivial,Lh.none rfl⟩).mono λe w' ⟨r,u,H,Z',he,⟨hr,hH⟩,hp,ht⟩=>by
  subst hr hH;exact⟨by rw[he,show u=v from hp],ht.os,ht.tape,ht.output,ht.size,λk hk _=>ht.old k hk Aj,Aj,Aj,.nil⟩
abbrev FN:=Fn prog GE
end Go.Proofs.YtoegakndmanfoaaGreatDoor.Q
namespace Go.Proofs.YtoegakndmanfoaaGreatDoor
open Go
set_option linter.unusedVariables false
def Ph (c:Int):Option Bool:=
 Ad ((Ac (97≤c))&&(Ac (c≤122)))
def Pi (c:Int):Option Bool:=
 Ad ((Ac (48≤c))&&(Ac (c≤57)))
def Da (hc:Bool):Option Bool:=
 Ad hc
def Mg (c:Int):Option Bool:=
 BG (Ph c) λhc=>BR hc (Da Af) (BG (Pi c) λhd=>BR hd (Da Af) (BR (Ac (65≤c)) (BR (Ac (c≤90)) (Da Af) (BR (Ac (c=45)) (Da Af) (BR (Ac (c=95)) (Da Af) (BR (Ac (c=46)) (Da Af) (BR (Ac (c=58)) (Da Af) (Da (Ac (c=47)))))))) (BR (Ac (c=45)) (Da Af) (BR (Ac (c=95)) (Da Af) (BR (Ac (c=46)) (Da Af) (BR (Ac (c=58)) (Da Af) (Da (Ac (c=47)))))))))
def Ei (n:Int):Option Bool:=
 Ad ((Ac ((-1000000000000)≤n))&&(Ac (n≤1000000000000)))
end Go.Proofs.YtoegakndmanfoaaGreatDoor
namespace Go.Proofs.YtoegakndmanfoaaGreatDoor.Q
open Go Go.RowKit
set_option linter.unusedVariables false
set_option linter.unusedSimpArgs false
set_option maxRecDepth 100000
set_option maxHeartbeats 4000000
variable{E:Fz→Prop}
theorem W0 (c:Int)(r:Bool)(h:Ph c=Ad r):Fn prog E 148 [rI .i32 c] [] (PO (rB r)):=en func148 ntmps148 Aa λw Z=>by unfold Ph at h;exact AX Aa<|Bu<|AQ [(2,rB ((B6 (97≤c))&&(B6 (c≤122))))] [] (Cv Aa<|wv Eo<|ms Aa<|AU (B6 (97≤c)) (λc1=>wo c1<|ms Aa<|Bq c1 GJ<|Ep Aa c1 Aa<|B4 Aa<|Cp c1) λc1=>CQ c1 Aa<|wv (AD c1)<|B4 Aa<|Cp c1)<|CG<|cs h▸D2 results148 ⟨Aa,Aa⟩
theorem W1 (c:Int)(r:Bool)(h:Pi c=Ad r):Fn prog E 149 [rI .i32 c] [] (PO (rB r)):=en func149 ntmps149 Aa λw Z=>by unfold Pi at h;exact AX Aa<|Bu<|AQ [(2,rB ((B6 (48≤c))&&(B6 (c≤57))))] [] (Cv Aa<|wv Eo<|ms Aa<|AU (B6 (48≤c)) (λc1=>wo c1<|ms Aa<|Bq c1 GJ<|Ep Aa c1 Aa<|B4 Aa<|Cp c1) λc1=>CQ c1 Aa<|wv (AD c1)<|B4 Aa<|Cp c1)<|CG<|cs h▸D2 results149 ⟨Aa,Aa⟩
theorem iLetter_w (c:Int)(r:Bool)(h:Mg c=Ad r):Fn prog E 94 [rI .i32 c] [] (PO (rB r)):=en func94 ntmps94 Aa λw Z=>by unfold Mg at h;exact AX Aa<|Bu<|EV (S:=Bool×Unit) (λσ=>Da σ.1=Ad r) (λσ=>[(2,rB σ.1)]) (λσ=>[]) (Cv Aa<|ob h λhr hs ht=>CP call148 (W0 c hr hs)<|ms Aa<|bz ht (λhd hu=>CQ hd Aa<|wv (A2 hd)<|ms Aa<|DO Aa<|wu<|wu<|vz Aa<|wv (A2 Aa)<|ms Aa<|DO Aa<|wv (A2 Aa)<|ms Aa<|DO Aa<|wv (A2 Aa)<|ms Aa<|DO Aa<|wv (A2 Aa)<|ms Aa<|DO Aa<|wv (A2 Aa)<|ms Aa<|DO Aa<|wv (A2 Aa)<|B4 Aa<|AV (AP (Af,()) hu (Bc Aa) sN)) λhd hv=>wo hd<|ms Aa<|wo hd<|ob hv λhw hx hy=>CP call149 (W1 c hw hx)<|DI Aa hd Aa<|ms Aa<|bz hy (λhc hz=>CQ hc Aa<|wu<|wu<|wf hc<|wv (A2 hc)<|ms Aa<|DO Aa<|wv (A2 Aa)<|ms Aa<|DO Aa<|wv (A2 Aa)<|ms Aa<|DO Aa<|wv (A2 Aa)<|ms Aa<|DO Aa<|wv (A2 Aa)<|ms Aa<|DO Aa<|wv (A2 Aa)<|B4 Aa<|AV (AP (Af,()) hz (Bc Aa) sN)) λhc h0=>wo hc<|ms Aa<|Bq hc Eo<|wo hc<|ms Aa<|bz h0 (λhe h2=>wo he<|ms Aa<|Bq he GJ<|wo hc<|Ep Aa he Aa<|DI Aa hc Aa<|ms Aa<|bz h2 (λhf h3=>CQ hf Aa<|wv (A2 hf)<|ms Aa<|DO Aa<|wv (A2 Aa)<|ms Aa<|DO Aa<|wv (A2 Aa)<|ms Aa<|DO Aa<|wv (A2 Aa)<|ms Aa<|DO Aa<|wv (A2 Aa)<|B4 Aa<|AV (AP (Af,()) h3 (Bc Aa) sN)) λhf h4=>wo hf<|ms Aa<|Bq hf Bb<|DI Aa hf Aa<|ms Aa<|bz h4 (λhg h5=>CQ hg Aa<|wv (A2 hg)<|ms Aa<|DO Aa<|wv (A2 Aa)<|ms Aa<|DO Aa<|wv (A2 Aa)<|ms Aa<|DO Aa<|wv (A2 Aa)<|B4 Aa<|AV (AP (Af,()) h5 (Bc Aa) sN)) λhg h6=>wo hg<|ms Aa<|Bq hg Bb<|DI Aa hg Aa<|ms Aa<|bz h6 (λhh h7=>by exact CQ hh Aa<|wv (A2 hh)<|ms Aa<|DO Aa<|wv (A2 Aa)<|ms Aa<|DO Aa<|wv (A2 Aa)<|B4 Aa<|AV (AP (Af,()) h7 (Bc Aa) sN)) λhh h8=>by exact wo hh<|ms Aa<|Bq hh Bb<|DI Aa hh Aa<|ms Aa<|bz h8 (λhi h9=>CQ hi Aa<|wv (A2 hi)<|ms Aa<|DO Aa<|wv (A2 Aa)<|B4 Aa<|AV (AP (Af,()) h9 (Bc Aa) sN)) λhi hA=>wo hi<|ms Aa<|Bq hi Bb<|DI Aa hi Aa<|ms Aa<|bz hA (λhj hB=>CQ hj Aa<|wv (A2 hj)<|B4 Aa<|AV (AP (Af,()) hB (Bc Aa) sN)) λhj hC=>wo hj<|ms Aa<|Bq hj Bb<|DI Aa hj Aa<|B4 Aa<|AV (AP (B6 (c=47),()) hC (Bc Aa) sN)) λhe hD=>CQ he Aa<|Bq hc (AD he)<|DI Aa hc Aa<|ms Aa<|Gm Aa<|ms Aa<|Gm Aa<|wv Bb<|wv (AD Aa)<|ms Aa<|bz hD (λhk hE=>CQ hk Aa<|wv (A2 hk)<|ms Aa<|DO Aa<|wv (A2 Aa)<|ms Aa<|DO Aa<|wv (A2 Aa)<|ms Aa<|DO Aa<|wv (A2 Aa)<|B4 Aa<|AV (AP (Af,()) hE (Bc Aa) sN)) λhk hF=>wo hk<|ms Aa<|Bq hk Bb<|DI Aa hk Aa<|ms Aa<|bz hF (λhl hG=>by exact CQ hl Aa<|wv (A2 hl)<|ms Aa<|DO Aa<|wv (A2 Aa)<|ms Aa<|DO Aa<|wv (A2 Aa)<|B4 Aa<|AV (AP (Af,()) hG (Bc Aa) sN)) λhl hH=>by exact wo hl<|ms Aa<|Bq hl Bb<|DI Aa hl Aa<|ms Aa<|bz hH (λho hI=>CQ ho Aa<|wv (A2 ho)<|ms Aa<|DO Aa<|wv (A2 Aa)<|B4 Aa<|AV (AP (Af,()) hI (Bc Aa) sN)) λho hJ=>wo ho<|ms Aa<|Bq ho Bb<|DI Aa ho Aa<|ms Aa<|bz hJ (λhp hK=>CQ hp Aa<|wv (A2 hp)<|B4 Aa<|AV (AP (Af,()) hK (Bc Aa) sN)) λhp hL=>wo hp<|ms Aa<|Bq hp Bb<|DI Aa hp Aa<|B4 Aa<|AV (AP (B6 (c=47),()) hL (Bc Aa) sN))<|by rintro⟨hM,⟨⟩⟩ hq;refine EN ?_;exact have hq:Da hM=Ad r:=hq;by unfold Da at hq;exact CG<|cs hq▸D2 results94 ⟨Aa,Aa⟩
theorem MV (n:Int)(r:Bool)(h:Ei n=Ad r):Fn prog E 131 [AH n] [] (PO (rB r)):=en func131 ntmps131 Aa λw Z=>by unfold Ei at h;exact AX Aa<|Bu<|AQ [(2,rB ((B6 ((-1000000000000)≤n))&&(B6 (n≤1000000000000))))] [] (Cv Aa<|wv GJ<|ms Aa<|AU (B6 ((-1000000000000)≤n)) (λc1=>wo c1<|ms Aa<|Bq c1 GJ<|Ep Aa c1 Aa<|B4 Aa<|Cp c1) λc1=>CQ c1 Aa<|wv (AD c1)<|B4 Aa<|Cp c1)<|CG<|cs h▸D2 results131 ⟨Aa,Aa⟩
end Go.Proofs.YtoegakndmanfoaaGreatDoor.Q
namespace Go.Proofs.YtoegakndmanfoaaGreatDoor
open Go
set_option linter.unusedVariables false
set_option linter.unusedSimpArgs false
theorem AaC {p q r:Bool}:BR p (Ad q) (Ad r)=Ad (bif p then q else r):=by cases p<;>rfl
theorem Ug (c:Int):Ph c=Ad (OP c):=rfl
theorem Uh (c:Int):Pi c=Ad (Pw c):=rfl
theorem Q6 {a b c d e f g h k:Bool}:(a||(b||bif c then(d||(e||(f||(g||(h||k))))) else(e||(f||(g||(h||k))))))=(a||b||(c&&d)||e||f||g||h||k):=by cases c<;>simp[Bool.or_assoc]
theorem RM (c:Int):Mg c=Ad (Gi c):=by
 unfold Mg Da;rw[Ug,Zs rfl,Uh,Zs rfl];simp only[AaC,Bool.cond_true_left,Q6];rfl
open Go Go.RowKit
set_option maxRecDepth 100000
theorem Wl (c:Int)(w:World):Calls prog 94 [.int .i32 c].toArray w (PA w (.bool (Gi c))):=Q.Fn0.old [.int .i32 c] (Q.iLetter_w c _ (RM c)) w
theorem AcU (p:List UInt8)(w:World):Calls prog 60 [.string (B p)].toArray w (PA w (.bool (N0 p))):=by
 refine RZ (n:=21) func60 rfl ntmps60 rfl<|B0<|AF<|EB (DF rfl) rfl<|AL<|AV (DW ?_);refine B0<|B0<|AF<|EB (Bl rfl) rfl<|T6 Lg rfl rfl (λb1=>?_);refine AL<|AV (DW ?_);refine A6<|OG (S:=Nat) (λ(k:Nat)=>k≤Ae p∧Dw LW 0 p=Dw LW k (p.drop k)) (λ(k:Nat)=>[(0,.string (B (p))),(2,.bool (Ah)),(6,.pointer (Ad ⟨b1,0,Ai⟩))]) (λ(k:Nat)=>[.blk b1 (.stringIter (B p) (k))]) (λ(k:Nat)=>Ae p-k) (0) ?_ ⟨rfl,rfl,rfl,trivial⟩ (.cons_cons _ (.slnil)) ?_
 ·exact⟨AeR _,Aj⟩
 rintro k hi0;refine B0<|AF<|Vm (i:=0) rfl rfl rfl (λhend=>?_) (λu2 c3 wd4 hu2 hlu2 hhu2 hwu2=>?_)
 ·refine EB (Gt rfl rfl) rfl<|AL<|AV (DW ?_);refine B0<|AM rfl rfl<|BF<|A0<|A0<|Bk<|AV (DW ?_);refine AQ [(2,.bool (((Ac ((1)≤((Ae p:Int))))&&(Ac (((Ae p:Int))≤(64))))))] [.blk b1 (.stringIter (B p) (k))] (φ:=True) ?_ (λhm5=>?_)
  ·refine AF<|EB (Bl rfl) rfl<|EB (Mb Lg rfl) rfl<|EB (R8 rfl rfl) rfl<|EB (Bl rfl) rfl<|AU (Ac ((1)≤((Ae p:Int)))) (λh5=>?_) (λh5=>?_)
   ·have g5:=h5;try simp only[AeA,decide_eq_false_iff_not] at g5
    refine Em rfl rfl h5<|EB (Bl rfl) rfl<|Em rfl rfl h5<|EB (Mb Lg rfl) rfl<|Em rfl rfl h5<|EB (Qw rfl rfl) rfl<|EB (Gh rfl h5 rfl) rfl<|EB (DF rfl) rfl<|AL ?_;exact AV (M8 trivial ⟨fb (by first | (simp only[h5,Afg,Afb,AeW,AeH,Afh,Afc,Bool.or_true,AeS,AeD,AeZ,cond_true,cond_false,if_true,if_false,reduceIte,Afa];done) | simp[h5]),trivial⟩ (.cons_cons _ (.slnil)))
   ·have g5:=h5;try simp only[AeA,decide_eq_false_iff_not] at g5
    refine GD rfl rfl h5 rfl<|GD rfl rfl h5 rfl<|GD rfl rfl h5 rfl<|EB (DD rfl h5 rfl) rfl<|EB (DF rfl) rfl<|AL ?_;exact AV (M8 trivial ⟨fb (by first | (simp only[h5,Afg,Afb,AeW,AeH,Afh,Afc,Bool.or_true,AeS,AeD,AeZ,cond_true,cond_false,if_true,if_false,reduceIte,Afa];done) | simp[h5]),trivial⟩ (.cons_cons _ (.slnil)))
  refine CG<|A5 (CH rfl rfl) ?_;exact Yi (by rw[Aa0 hi0 hend])
 ·refine EB (Gt rfl rfl) rfl<|AL<|AV (DW ?_);refine B0<|Be rfl rfl<|BC<|AV (DW ?_);refine A6<|B0<|AF<|EB (Gt rfl rfl) rfl<|EB (DF rfl) rfl<|AL<|AV (DW ?_);refine B0<|AF<|EB (Bl rfl) rfl<|HW call94 rfl (λw hw=>Wl (c3:Int) w) rfl<|EB (MP rfl) rfl<|AL<|AV (DW ?_);refine OH (b:=!(Gi (c3:Int))) rfl (λh7=>?_) (λh7=>?_)
  ·have g7:=h7;try simp only[AeA,decide_eq_false_iff_not] at g7
   refine B0<|AF<|EB (DF rfl) rfl<|AL<|AV (DW ?_);refine CG<|CV<|AA<|CV<|AA<|A5 (CH rfl rfl) ?_;exact Yi (by rw[Ab5 hi0 hu2 hlu2 hhu2 h7])
  ·have g7:=h7;try simp only[AeA,decide_eq_false_iff_not] at g7
   refine BC<|BZ<|AV<|AP (k+wd4) ?_ ⟨rfl,rfl,rfl,trivial⟩ (.cons_cons _ (.slnil));exact YE hi0 hu2 hlu2 hhu2 h7
theorem Q9 (p:List UInt8)(m:Int)(w:World):Calls prog 198 [.string (B (p)),.int .u8 (m)].toArray w (PA w (.int .i64 (Lib.indexByte p (Ao m).toUInt8))):=by
 refine RZ (n:=8) func198 rfl ntmps198 rfl<|B0<|AF<|EB (DF rfl) rfl<|AL<|AV (DW ?_);refine B0<|AF<|EB (Bl rfl) rfl<|EB (Bl rfl) rfl<|EB (v:=.int .i64 (Lib.indexByte p (Ao (m)).toUInt8)) (Aby rfl (N8 func237 Ak Ak Ak Ak p (m))) rfl<|EB (DF rfl) rfl<|AL<|AV (DW ?_);refine CG<|A5 (CH rfl rfl) ?_;exact Yi (by first | rfl | simp[])
theorem WJ (m:Int)(h0:-9223372036854775808≤m)(h1:m≤9223372036854775807)(w:World)(hE:UA w):Calls prog 185 [.int .i64 (m)].toArray w (PA w (.string (B (Lib.itoa m)))):=by
 refine RZ (n:=5) func185 rfl ntmps185 rfl<|B0<|AF<|EB (DF rfl) rfl<|AL<|AV (DW ?_);refine B0<|AF<|EB (Bl rfl) rfl<|HW call217 rfl (λw hw=>Aau m Ab Ab w (hE.st0 hw)) rfl<|EB (DF rfl) rfl<|AL<|AV (DW ?_);refine CG<|A5 (CH rfl rfl) ?_;exact Yi (by first | rfl | simp[])
end Go.Proofs.YtoegakndmanfoaaGreatDoor
namespace Go.Proofs
open Go.Shelf
end Go.Proofs
namespace Go.Proofs.YtoegakndmanfoaaGreatDoor.Q
open Go Go.RowKit
set_option linter.unusedVariables false
theorem WI (m:Int)(g:CO .i64 m=Af):Fn0 prog GE 185 [rI .i64 m] (rS (Lib.itoa m)):=Fn0.of_old (vs:=[.int .i64 m]) λw Z hf he=>WJ m (Pg g).1 (Pg g).2 w (he w hf)
theorem Th (s:AE)(c:UInt8):Fn0 prog GE 184 [rS s,rS [c]] (rI .i64 (Lib.countByte s c)):=Fn0.of_id (vs:=[.string (B s),.string (B [c])]) λw=>by have:=Tryz.strings_Count_one (B s) c w;rwa [AaQ] at this
theorem Z2 (s:AE)(m:Int):Fn0 prog GE 198 [rS s,rI .u8 m] (rI .i64 (Lib.indexByte s (Ao m).toUInt8)):=Fn0.of_old (vs:=[.string (B s),.int .u8 m]) λw Z hf he=>Q9 s m w
theorem Uf (s:AE):Fn0 prog GE 60 [rS s] (rB (N0 s)):=Fn0.of_old (vs:=[.string (B s)]) λw Z hf he=>AcU s w
open Go Go.RowKit Go.ChangeShapes Go.Deep
set_option linter.unusedSimpArgs false
def ZW (W:World):Fz:=⟨λb=>W.heap[b]?,λ_ _=>Ai⟩
theorem ZW.frz (W:World):PC (ZW W) W:=⟨λ_ _ h=>h,λ_ _ _ h=>by cases h⟩
def Rb (P:Program)(e:TypeId){α:Type}(enc:α→List Rp)(ok:α→Bool):Prop:=
 ∀{H:Type} {encH:TypeId×Value→H} {W:World} {sp:Nat→Bool} {held:Bool} {n:Nat} {cs:List Value} {x:DataW H×List MemPlace},DataW.trod encH P W 0 sp held n e cs=Ad x→∃y:α,ok y=Af∧BH (ZW W) (enc y) cs
variable{W:World}{α:Type}{enc:α→List Rp}
section
variable {P : Program} {e t : TypeId}
theorem Rb.int {k:IntKind}{enc:Int→List Rp}(ht:P.underlying e=Ad (.int k))(he:∀n,enc n=[rI k n]):Rb P e enc (CO k):=λh=>by
 obtain⟨n,rfl,_,hwf⟩:=DataW.trod_int ht h;exact⟨n,hwf,by rw[he];exact⟨rfl,trivial⟩⟩
theorem Rb.bool {enc:Bool→List Rp}(ht:P.underlying e=Ad .bool)(he:∀n,enc n=[rB n]):Rb P e enc (λ_=>Af):=λh=>by
 obtain⟨b,rfl,_⟩:=DataW.trod_bool ht h;exact⟨b,rfl,by rw[he];exact⟨rfl,trivial⟩⟩
theorem Ow {a:Addr}{v:Value}(h:W.cell? a=Ad v):a.spot=Ai∧GG (ZW W) a.block a.off=Ad v:=by
 unfold World.cell? at h;unfold GG ZW;dsimp only
 cases hh:W.heap[a.block]? with
 | none=>rw[hh] at h;cases h
 | some o=>
  rw[hh] at h
  cases o with
  | cells cs t fz=>
   cases hs:a.spot with
   | none=>simp[hs] at h;exact⟨rfl,h⟩
   | some _=>simp[hs] at h
  | _=>simp at h
theorem Rb.slice [Inhabited α]{ok:α→Bool}{sz:Nat}(ht:P.underlying t=Ad (.slice e))(hc:P.cellsOf e=sz)(hsz:0<sz)(h:Rb P e enc ok)(hlen:∀y,Ae (enc y)=sz){enc':List α→List Rp}(he:∀ys,enc' ys=[B3 sz (ys.map enc)]) :
  Rb P t enc' (λys=>ys.all ok&&Ac (Ae ys≤9223372036854775807)):=fun {H encH W sp held n cs x} hx=>by
 rcases open_slice ht hx with⟨rfl,_⟩ | ⟨a,len,cap,m,n',D,Pl,rfl,hb,hl,hm,hmm,_,hel⟩
 ·exact⟨[],Aj,by rw[he];exact⟨Sl.nil sz _,trivial⟩⟩
 ·have hlm:len≤m:=by rw[hmm];split<;>omega
  have each:∀i,i<len→∃y:α,ok y=Af∧∃cs',W.cells? 0 (a.add (i*sz)) sz=Ad cs'∧BH (ZW W) (enc y) cs':=λi hi=>by
   obtain⟨cs',h1,h2⟩:=hel i Ab;obtain⟨y,hy,hr⟩:=h h2;rw[hc] at h1;exact⟨y,hy,cs',h1,hr⟩
  obtain⟨f,hf⟩:=choose_lt each;refine⟨(As len).map f,?_,?_⟩
  ·simp only[Ae9,AeJ,List.mem_map,List.mem_range,AeA];refine⟨?_,by simp;simp only[maxLen] at hm;omega⟩;rintro _ ⟨i,hi,rfl⟩;exact(hf i hi).1
  ·rw[he];refine⟨⟨Ad a,cap,Aj,by simpa using hl,hm,(λh=>by cases h),λi c hi=>?_⟩,trivial⟩;rw[AeV,AeC] at hi;have hil:i<len:=by
    cases hq:(As len)[i]? with
    | none=>rw[hq] at hi;cases hi
    | some _=>have:=(List.getElem?_eq_some_iff.1 hq).1;simpa using this
   rw[List.getElem?_range hil] at hi;simp only[Option.map_some,Option.some.injEq,Function.comp] at hi;subst hi;obtain⟨_,cs',h1,hr⟩:=hf i hil;obtain⟨_,hcl,hcell⟩:=World.cells?_some h1;have hsp:a.spot=Ai:=by
    obtain⟨_,cs0,g1,_⟩:=hf 0 Ab;obtain⟨_,gcl,gcell⟩:=World.cells?_some g1;have h0:=gcell 0 hsz;rw[Ae3 Ab] at h0;have:=(Ow h0).1;simpa[Addr.add] using this
   refine⟨hlen _,a,rfl,hsp,λj r hj=>?_⟩;obtain⟨u,hu,hp⟩:=hr.at hj;have hjs:j<sz:=by have:=(List.getElem?_eq_some_iff.1 hj).1;rw[hlen] at this;exact this
   have h3:=hcell j hjs;rw[hu] at h3;have h4:=(Ow h3).2;refine⟨u,?_,hp⟩;have e1:((a.add (i*sz)).add j).block=a.block:=by simp only[Addr.add];split<;>split<;>rfl
   have e2:((a.add (i*sz)).add j).off=a.off+(i*sz+j):=by simp only[Addr.add];split<;>split<;>simp_all<;>omega
   rw[e1,e2] at h4;exact h4
theorem Rb.val {ok:α→Bool}(h:Rb P e enc ok){r:α→Rp}(he:∀y,enc y=[r y]){H:Type}{encH:TypeId×Value→H}{sp:Nat→Bool}{held:Bool}{v:Value}{d:DataW H}{ps:List MemPlace}
  (hone:v.cells = #[v]) (ht:DataW.Trod encH P W 0 sp held e v d ps):∃y:α,ok y=Af∧(r y).p (ZW W) v:=by
 obtain⟨fuel,hf⟩:=ht;rw[hone] at hf;obtain⟨y,hy,hr⟩:=h hf;rw[he] at hr;exact⟨y,hy,hr.1⟩
end
theorem WG {w:World}(hw:PC (ZW W) w):W.heap.size≤w.heap.size:=by
 rcases Nat.eq_zero_or_pos W.heap.size with h | h
 ·omega
 ·have h1:W.heap[W.heap.size-1]? =Ad (W.heap[W.heap.size-1]'(Ab)):=Array.getElem?_eq_getElem Ab;have:=(Array.getElem?_eq_some_iff.1 (hw _ _ h1)).1;omega
theorem Uk (hE:UA W):GE (ZW W):=λw hw=>by
 have hb:Below W.heap.size W { w with os:=W.os,tape:=W.tape,output:=W.output }:=⟨rfl,rfl,rfl,(show W.heap.size≤w.heap.size from WG hw),λk hk=>by
  have h1:W.heap[k]? =Ad (W.heap[k]'hk):=Array.getElem?_eq_getElem hk;rw[h1];exact hw k _ h1⟩
 have hE2:=hE.st0 (St.of_below hb);exact⟨P9.block { w with os:=W.os,tape:=W.tape,output:=W.output } w (λ_ _=>rfl) hE2.tabs,hE2.size⟩
theorem V2 (hE:UA W):St ⟨W,ZW W,[],GE,[]⟩ [] (ZW W) W where
 os:=rfl
 tape:=rfl
 output:=rfl
 size:=AeG _
 old:=λ_ _ _=>rfl
 has:=λ_ h=>by cases h
 own:=λ_ h=>by cases h
 dis:=.nil
 frz:=ZW.frz W
 le:=Fz.le.refl _
 new:=λ_ _ h=>.inl h
 zdis:=λ_ h=>by cases h
 env:=Uk hE
 emono:=λh hg=>GE.mono h hg
 gst:=Lh.none rfl
theorem V3 {W':World}{Z Z':Fz}{E:Fz→Prop}{H:List Ent}(h:St ⟨W,Z,[],E,[]⟩ H Z' W'):Below W.heap.size W W':=⟨h.os,h.tape,h.output,h.size,λk hk=>h.old k hk Aj⟩
set_option linter.unusedSectionVars false
variable{ats:Array TypeId}{Φ:Rp→List Ent→Prop}{first:List Value}{f:FuncId}{caps:List Value}
section
section
variable [I : Dfr]
variable {P : Program} {n : Nat} {c : Cx} {ops : Array Oper} {Q : Exit → Act → World → Prop} {rest : List Oper} {l : Fr} {H : List Ent} {d : Nat} {ty : TypeId} {pos : String} {af : Array Edge} {r : Rp} {x : Operand}
theorem TI {args:List Operand}{o:Oper}{a:Act}(ho:o.op = .call { callee:=.value x,args:=args.toArray,argTypes:=ats })(hx:a.eval x = .func (.func f) first.toArray caps.toArray)
  (hcall:∀(as1:Array Value) (w:World),(callFunc f as1).run P w = .ok (.enter f as1) w) (w:World):(execOp a.eval o).run P w = .ok (.enter f (first++args.map a.eval++caps).toArray) w:=by
 simp[execOp,ho,resolve,hx,Deferred.ofValue,invoke,hcall]
theorem GL {args:List Operand}{rs:List Rp}{Hin Hr:List Ent}(hcall:∀(as1:Array Value) (w:World),(callFunc f as1).run P w = .ok (.enter f as1) w)(hx:ev l x=Ad (rv (.func (.func f) first.toArray caps.toArray)))(hv:Jy l args=Ad rs)
  (hp:H.Perm (Hin++Hr)) (hc:Fn P c.E f (first.map rv++rs++caps.map rv) Hin Φ) (hn:Nat.blt d n=Af) (h:∀r Ho,Φ r Ho→WL P n c ops Q rest ((d,r)::l) (Ho++Hr)) :
  WL P n c ops Q ({ dst:=Ad d,op:=.call { callee:=.value x,args:=args.toArray,argTypes:=ats },type:=ty,pos:=pos,after:=af,guard:=Ai }::rest) l H:=
 K8 (args:=λa=>(first++args.map a.eval++caps).toArray) (λa w Z ha hw=>⟨TI rfl (ha.eval hx) hcall w,by
  have hw2:=hw.perm hp;refine(hc w Z _ (by have:=((BH.rvs Z first).append (E9 ha hv)).append (BH.rvs Z caps);simpa using this) hw2.enter).mono ?_;rintro e w' ⟨r,v,Ho,Z',he,hΦ,hr,hs⟩;exact⟨v,r,Ho++Hr,Z',he,hs.le,hr,hw2.call hs,h r Ho hΦ⟩⟩) hn
theorem G8 {d':Option Nat}{g:Option (Nat×Bool)}{p1 p2:Array Operand}(h1:Jy l p1.toList=Ad (first.map rv))(h2:Jy l p2.toList=Ad (caps.map rv)) :
  Cd P n c l H { dst:=d',op:=.makeFunc (.func f) p1 p2,type:=ty,pos:=pos,after:=af,guard:=g } (rv (.func (.func f) first.toArray caps.toArray)):=λa w Z ha hw=>by
 have e1:=BH.eq_rv (E9 ha h1);have e2:=BH.eq_rv (E9 ha h2);refine⟨_,rfl,?_⟩;have f1:p1.map a.eval=first.toArray:=by apply Array.ext';simpa using e1
 have f2:p2.map a.eval=caps.toArray:=by apply Array.ext';simpa using e2
 simp[execOp,Instr.makeFunc,f1,f2]
theorem XQ (hx:ev l x=Ad (rv (.func (.func f) #[] caps.toArray)))(h:∀J:Dfr,J.D = { target:=.fn (.func f) caps.toArray,args:=#[] }::I.D→@WL J P n c ops Q rest l H) :
  WL P n c ops Q ({ dst:=Ai,op:=.defer { callee:=.value x,args:=#[],argTypes:=ats },type:=ty,pos:=pos,after:=af,guard:=Ai }::rest) l H:=λa w Z ha hw=>
 wpList_plain rfl λK hK=>by
  unfold Oper.wp;have e:(execOp a.eval { dst:=Ai,op:=.defer { callee:=.value x,args:=#[],argTypes:=ats },type:=ty,pos:=pos,after:=af,guard:=Ai }).run P w = .ok (.defer { target:=.fn (.func f) caps.toArray,args:=#[] }) w:=by
   simp[execOp,resolve,Deferred.ofValue,ha.eval hx]
  rw[e];exact hK _ _ (h ⟨{ target:=.fn (.func f) caps.toArray,args:=#[] }::I.D⟩ rfl _ w Z (DU.mk (I:=⟨{ target:=.fn (.func f) caps.toArray,args:=#[] }::I.D⟩) (by simpa[Act.put] using ha.size) (by simp[Act.put,ha.defers]) (by simpa[Act.put] using ha.tm)) hw)
end
section
variable {P : Program} {n : Nat}
theorem Aa8 {E:Fz→Prop}{fn:Func}{x:Code}{args:List Rp}{Hin:List Ent}(hf:P.funcs[f]? =Ad fn)(hb:fn.body=Ad x)(hn:fn.ntmps=n)(hle:Nat.ble (Ae args) n=Af)
  (h:∀w Z,WC P n ⟨w,Z,Hin.flatMap Ent.foot,E,Hin.flatMap Ent.gk⟩ x (bodyPostD P fn (U9 ⟨w,Z,Hin.flatMap Ent.foot,E,Hin.flatMap Ent.gk⟩ Φ)) (JD args) Hin):Fn P E f args Hin Φ:=λw Z vs hv hs=>by
 have hle':Ae args≤n:=by simpa using hle
 have hl:=hv.length;refine calls_of_wp_defers hf hb (h w Z _ w Z ⟨?_,rfl,λi r hi=>?_⟩ hs)
 ·simp[hn];omega
 ·obtain⟨_,v,h1,h2⟩:=Gv args vs 0 hv i r hi;simp only[Nat.sub_zero] at h1;have hlt:i<Ae vs:=(List.getElem?_eq_some_iff.1 h1).1;refine⟨v,?_,h2⟩;rw[Array.getElem?_append_left (by simpa using hlt)];simpa using h1
variable {c : Cx} {l : Fr} {H : List Ent}
def Z8 (P:Program)(f:FuncId)(caps:List Value):Prop:=∀w,CallsD P f caps.toArray .returning w λe u' w'=>(∃v,e = .returned v)∧u' = .returning∧Proofs.YtoegakndmanfoaaGreatDoor.St w [] [] w'
theorem XI {J:Dfr}{fn:Func}{r:Rp}(hJ:J.D=[{ target:=.fn (.func f) caps.toArray,args:=#[] }])(hcall:∀(as1:Array Value) (w:World),(callFunc f as1).run P w = .ok (.enter f as1) w)(hq:Z8 P f caps)
  (hr:QU P n c l H fn r) {H2:List Ent} (hp:H2.Sublist H) (h:Φ r H2):WK n c (bodyPostD P fn (U9 c Φ) .ret) l H:=
 λa w Z ha hw=>by
  show Leaves P fn a.tmps (U9 c Φ) a.defers .returning w;rw[ha.defers,hJ];refine⟨(by intro e;cases e),_,_,f,caps.toArray,rfl,by simp[invoke,hcall],?_⟩;intro c0 cs hc;obtain⟨e,u',w',fr,⟨⟨v',h3⟩,h4,h5⟩,h2⟩:=hq w c0 cs hc;have hw0:St c ([]++H) Z w:=hw;have hs:St ⟨w,Z,[],c.E,[]⟩ [] Z w':=⟨h5.os,h5.tape,h5.output,h5.size,h5.old,Aj,Aj,Aj,⟨λb o hb=>by rw[h5.old b (hw.frz.lt hb) Aj];exact hw.frz b o hb,λk i b hb=>Nat.lt_of_lt_of_le (hw.frz.nm k i b hb) h5.size⟩,Fz.le.refl _,λ_ _ e=>.inl e,Aj,hw.env,hw.emono,Lh.none rfl⟩
  have hw':St c H Z w':=hw0.call hs;obtain⟨v,hv,he⟩:=hr a w' Z ha hw';subst h3 h4;refine⟨.returned v',.returning,w',fr,?_,h2⟩;show Leaves P fn a.tmps (U9 c Φ) [] .returning w';exact⟨v,he,r,v,H2,Z,rfl,h,hv,hw'.sub hp⟩
end
end
end Go.Proofs.YtoegakndmanfoaaGreatDoor.Q
namespace Go.Proofs.YtoegakndmanfoaaGreatDoor
open Go
set_option linter.unusedVariables false
structure Bx where
 am:Int
 a6:AE
 aO:Int
 aG:Int
 deriving DecidableEq,Inhabited
def LN (s p:AE):Option Bool:=
 Bt (imp (Ac ((Ae p:Int)≤(Ae s:Int))) (N9 (Ae p:Int) (Ae s:Int)))<|some ((Ac ((Ae p:Int)≤(Ae s:Int)))&&(Ac ((Aq (Ao (Ae p:Int)) s)=p)))
def Oj (s p:AE):Option Bool:=
 BG (LN s p) λr1=>Ad r1
def JT (s:AE)(c:Int):Option Int:=
 Ad (Lib.indexByte s (Ao c).toUInt8)
def JS (s:AE)(c:Int):Option Int:=
 Bt (Ac (0≤c))<|Bt (Ac (c<128))<|BG (JT s (IntKind.wrap .u8 c)) λr5=>Ad r5
def NV (s:AE)(c:Int):Option Bool:=
 BG (JS s c) λr1=>Ad (Ac (0≤r1))
def QY (c:Int):Option Int:=
 BR (((Ac (c=32))||((Ac (c=9))||(Ac (c=10))))) (Ad 1) (BR ((bif Ac (97≤c) then((Ac (c≤122))||(Ac (c=95))) else Ac (c=95))) (Ad 2) (BR (((Ac (48≤c))&&(Ac (c≤57)))) (Ad 3) (BR (Ac (c=34)) (Ad 4) (BR (Ac (c=64)) (Ad 5) (BG (NV ([40,41,123,125,91,93,44,59,58,61,33,60,62,43,45,42,47,37]:AE) c) λhc=>BR hc (Ad 6) (Ad 0))))))
def HH (s:AE):Option Bool:=
 BR (Ac (s=([102,117,110,99]:AE))) (Ad Af) (BR (Ac (s=([108,101,116]:AE))) (Ad Af) (BR (Ac (s=([105,102]:AE))) (Ad Af) (BR (Ac (s=([101,108,115,101]:AE))) (Ad Af) (BR (Ac (s=([119,104,105,108,101]:AE))) (Ad Af) (BR (Ac (s=([114,101,116,117,114,110]:AE))) (Ad Af) (BR (Ac (s=([97,110,100]:AE))) (Ad Af) (BR (Ac (s=([111,114]:AE))) (Ad Af) (BR (Ac (s=([110,111,116]:AE))) (Ad Af) (BR (Ac (s=([110,117,108,108]:AE))) (Ad Af) (BR (Ac (s=([116,114,117,101]:AE))) (Ad Af) (BR (Ac (s=([102,97,108,115,101]:AE))) (Ad Af) (Ad Ah))))))))))))
def S5 (s:AE):Option Bool:=
 BR (Ac (s=([61,61]:AE))) (Ad Af) (BR (Ac (s=([33,61]:AE))) (Ad Af) (BR (Ac (s=([60,61]:AE))) (Ad Af) (BR (Ac (s=([62,61]:AE))) (Ad Af) (Bt (imp (Ac ((Ae s:Int)=1)) (imp (!Ac (s=([33]:AE))) (Do 0 (Ae s:Int))))<|Bt (imp (Ac ((Ae s:Int)=1)) (imp (!Ac (s=([33]:AE))) (QY (IntKind.wrap .i32 (Gp s 0))).isSome))<|some ((Ac ((Ae s:Int)=1))&&((!Ac (s=([33]:AE)))&&(Ac ((ov (QY (IntKind.wrap .i32 (Gp s 0))))=6))))))))
def OC (s:AE)(hc:Int):Option (Stp Int (Out Int Int)):=
 Bt (imp (Ac (hc<(Ae s:Int))) (Do hc (Ae s:Int)))<|Bt (imp (Ac (hc<(Ae s:Int))) (QY (IntKind.wrap .i32 (Gp s hc))).isSome)<|BR (((Ac (hc<(Ae s:Int)))&&((Ac ((ov (QY (IntKind.wrap .i32 (Gp s hc))))=2))||((Ac (0<hc))&&(Ac ((ov (QY (IntKind.wrap .i32 (Gp s hc))))=3)))))) (Bt (CO .i64 (hc+1))<|some (.next (hc+1))) (Ad (.out (.go hc)))
def LZ (hc:Int):Option Int:=
 Ad hc
def AaY (F:Nat)(s:AE):Option Int:=
 BG (Dc (λσ=>OC s σ) F 0) (Dp λν=>LZ ν)
def M6 (s:AE)(hc:Int):Option (Stp Int (Out Int Int)):=
 BR (Ac (hc<(Ae s:Int))) (Bt (Do hc (Ae s:Int))<|BG (QY (IntKind.wrap .i32 (Gp s hc))) λhe=>BR (Ac (he=1)) (Bt (CO .i64 (hc+1))<|some (.next (hc+1))) (Bt (N9 hc (Ae s:Int))<|BG (Oj (Ap (Ao hc) s) ([47,47]:AE)) λhf=>BR hf (BG (JS (Ap (Ao hc) s) 10) λhd=>BR (Ac (hd<0)) (Ad (.out (.ret (Ae s:Int)))) (Bt (CO .i64 (hc+hd))<|some (.next (hc+hd)))) (Ad (.out (.ret hc))))) (Ad (.out (.go hc)))
def K5 (hc:Int):Option Int:=
 Ad hc
def Vi (F:Nat)(s:AE):Option Int:=
 BG (Dc (λσ=>M6 s σ) F 0) (Dp λν=>K5 ν)
def Lm (s:AE)(hc:Int):Option (Stp Int (Out (Bx×Int×Int) Unit)):=
 BR (Ac (0<hc)) (Bt (N9 hc (Ae s:Int))<|BG (S5 (Aq (Ao hc) s)) λhd=>BR hd (Ad (.out (.ret ((Bx.mk 5 (Aq (Ao hc) s) 0 0),hc,0)))) (Bt (CO .i64 (hc-1))<|some (.next (hc-1)))) (Ad (.out (.go ())))
def Je :Option (Bx×Int×Int):=
 Ad ((Bx.mk 0 ([]:AE) 0 0),0,1)
def Rt (F:Nat)(s:AE):Option (Bx×Int×Int):=
 Bt (Do 0 (Ae s:Int))<|BG (QY (IntKind.wrap .i32 (Gp s 0))) λr5=>BR (Ac (r5=2)) (BG (AaY F s) λhc=>BR (Ac (24<hc)) (Ad ((Bx.mk 0 ([]:AE) 0 0),0,3)) (Bt (N9 hc (Ae s:Int))<|BG (HH (Aq (Ao hc) s)) λhd=>BR hd (Ad ((Bx.mk 2 (Aq (Ao hc) s) 0 0),hc,0)) (Ad ((Bx.mk 1 (Aq (Ao hc) s) 0 0),hc,0)))) (Bt (!(Ac (r5=3)))<|Bt (!(Ac (r5=4)))<|Bt (!(Ac (r5=5)))<|BG (Dc (λσ=>Lm s σ) F (min 2 (Ae s:Int))) (Dp λν=>Je ))
def JJ (F:Nat)(s:AE)(he:(List Bx))(hd:Int):Option (Stp ((List Bx)×Int) (Out ((List Bx)×Int×Int) ((List Bx)))):=
 BR (Ac (hd<(Ae s:Int))) (BR (Ac ((he.length:Int)=1000)) (Ad (.out (.ret (([]:List Bx),hd,3)))) (Bt (N9 hd (Ae s:Int))<|BG (Rt F (Ap (Ao hd) s)) λhc=>BR (!Ac (hc.2.2=0)) (Bt (CO .i64 (hd+hc.2.1))<|some (.out (.ret (([]:List Bx),hd+hc.2.1,hc.2.2)))) (Bt (I0 40 (he.length+Ae ([(Bx.mk hc.1.am hc.1.a6 hc.1.aO hd)]:List Bx)))<|Bt (CO .i64 (hd+hc.2.1))<|Bt (N9 (hd+hc.2.1) (Ae s:Int))<|BG (Vi F (Ap (Ao (hd+hc.2.1)) s)) λhf=>Bt (CO .i64 ((hd+hc.2.1)+hf))<|some (.next (he++([(Bx.mk hc.1.am hc.1.a6 hc.1.aO hd)]:List Bx),(hd+hc.2.1)+hf))))) (Ad (.out (.go he)))
def HV (hc:(List Bx)):Option ((List Bx)×Int×Int):=
 Ad (hc,0,0)
def OB (F:Nat)(s:AE):Option ((List Bx)×Int×Int):=
 BR (Ac (4000<(Ae s:Int))) (Ad (([]:List Bx),0,3)) (BG (Vi F s) λr4=>BG (Dc (λσ=>JJ F s σ.1 σ.2) F (([]:List Bx),r4)) (Dp λν=>HV ν))
end Go.Proofs.YtoegakndmanfoaaGreatDoor
namespace Go.Proofs.YtoegakndmanfoaaGreatDoor.Q
open Go Go.RowKit
set_option linter.unusedVariables false
set_option linter.unusedSimpArgs false
set_option maxRecDepth 100000
set_option maxHeartbeats 4000000
@[reducible] def Cs (x:Bx):List Rp:=[AH x.am,rS x.a6,AH x.aO,AH x.aG]
theorem IV (x:Bx):Ae (Cs x)=4:=rfl
theorem Nl (x:Bx):(Cs x).all (·.one)=Af:=rfl
abbrev QA (t:Nat)(z:Value)(s b:Nat):Prop:=∃inf,prog.info? t=Ad inf∧inf.zero=Ad z∧inf.size=s∧inf.bytes=b
theorem YB:QA 156 (.agg #[(.int .i64 0),(.string ⟨#[]⟩),(.int .i64 0),(.int .i64 0)]) 4 40:=GA Ak
theorem IW (parts:List (Nat×Value)):prog.built 156 parts=Instr.fill (λi=>(#[(0,1),(1,1),(2,1),(3,1)]:Array (Nat×Nat))[i]?) #[(.int .i64 0),(.string ⟨#[]⟩),(.int .i64 0),(.int .i64 0)] parts:=Ak
theorem N4 (s p:AE)(r:Bool)(h:LN s p=Ad r):FN 151 [rS s,rS p] [] (PO (rB r)):=en func151 ntmps151 Aa λw Z=>AX Aa<|Bu<|ck h λg1 h2=>AQ [(4,rB ((B6 ((Ae p:Int)≤(Ae s:Int)))&&(B6 ((Aq (Eg (Ae p:Int)) s)=p))))] [] (Cv Aa<|wv Dl<|ms Aa<|wv Dl<|wv Eo<|ms Aa<|AU (B6 ((Ae p:Int)≤(Ae s:Int))) (λc3=>wo c3<|ms Aa<|wo c3<|ms Aa<|Bq c3 Dl<|Bq c3 (Gs Lg Aa Aa (Dt g1 c3))<|wo c3<|ms Aa<|Bq c3 C5<|Ep Aa c3 Aa<|B4 Aa<|Cp c3) λc3=>CQ c3 Aa<|wv (AD c3)<|B4 Aa<|Cp c3)<|CG<|cs h2▸D2 results151 ⟨Aa,Aa⟩
theorem QB (s p:AE)(r:Bool)(h:Oj s p=Ad r):FN 101 [rS s,rS p] [] (PO (rB r)):=en func101 ntmps101 Aa λw Z=>AX Aa<|BI Aa<|ob h λr1 e3 h2=>CP call151 (N4 s p r1 e3)<|Bp Aa<|cs h2▸D2 results101 ⟨Aa,Aa⟩
theorem OS (s:AE)(c r:Int)(h:JT s c=Ad r):FN 152 [rS s,rI .u8 c] [] (PO (AH r)):=en func152 ntmps152 Aa λw Z=>by unfold JT at h;exact AX Aa<|BI Aa<|ES call198 Aa (Z2 s c) Aa Aa<|Bp Aa<|cs h▸D2 results152 ⟨Aa,Aa⟩
theorem KH (s:AE)(c r:Int)(h:JS s c=Ad r):FN 102 [rS s,rI .i32 c] [] (PO (AH r)):=en func102 ntmps102 Aa λw Z=>AX Aa<|Bu<|A6<|AX Aa<|wv GJ<|ms Aa<|ck h λg1 h2=>wo g1<|ms Aa<|Bq g1 B5<|Ep Aa g1 Aa<|Bm Aa<|ck h2 λg3 h4=>Be Aa g3<|AX Aa<|wv (DE ⟨_,Tt⟩ U6 Aa)<|ob h4 λr5 e7 h6=>CP call152 (OS s (HB .u8 c) r5 e7)<|Bp Aa<|CV<|cs h6▸D2 results102 ⟨Aa,Aa⟩
theorem Qp (s:AE)(c:Int)(r:Bool)(h:NV s c=Ad r):FN 150 [rS s,rI .i32 c] [] (PO (rB r)):=en func150 ntmps150 Aa λw Z=>AX Aa<|BI Aa<|ob h λr1 e3 h2=>CP call102 (KH s c r1 e3)<|wv Eo<|Bp Aa<|cs h2▸D2 results150 ⟨Aa,Aa⟩
theorem Qb (c r:Int)(h:QY c=Ad r):FN 100 [rI .i32 c] [] (PO (AH r)):=en func100 ntmps100 Aa λw Z=>by unfold QY at h;exact AX Aa<|BN<|A6<|AQ [(0,rI .i32 c),(3,rB ((B6 (c=32))||((B6 (c=9))||(B6 (c=10)))))] [] (Cv Aa<|wv Bb<|ms Aa<|AU (B6 (c=32)) (λc1=>CQ c1 Aa<|wv (A2 c1)<|ms Aa<|DO Aa<|wv (A2 Aa)<|B4 Aa<|Cp c1) λc1=>wo c1<|ms Aa<|Bq c1 Bb<|DI Aa c1 Aa<|ms Aa<|AU (B6 (c=9)) (λc2=>CQ c2 Aa<|wv (A2 c2)<|B4 Aa<|Cp (Cu c1 c2)) λc2=>wo c2<|ms Aa<|Bq c2 Bb<|DI Aa c2 Aa<|B4 Aa<|Cp (Cu c1 c2))<|Ca h (λc3 h4=>B1 Aa<|Bs<|cs h4▸D2 Mv ⟨Aa,Aa⟩) λc3 h5=>AQ [(0,rI .i32 c),(14,rB (bif B6 (97≤c) then((B6 (c≤122))||(B6 (c=95))) else B6 (c=95)))] [] (Cv Aa<|wv Eo<|ms Aa<|AU (B6 (97≤c)) (λc6=>wo c6<|ms Aa<|Bq c6 GJ<|Ep Aa c6 Aa<|ms Aa<|AU (B6 (c≤122)) (λc7=>CQ c7 Aa<|wv (A2 c7)<|B4 Aa<|Cp (Cu c6 c7)) λc7=>wo c7<|ms Aa<|Bq c7 Bb<|DI Aa c7 Aa<|B4 Aa<|Cp (Cu c6 c7)) λc6=>CQ c6 Aa<|wv (AD c6)<|ms Aa<|Gm Aa<|ms Aa<|Gm Aa<|wv Bb<|wv (AD Aa)<|B4 Aa<|Cp c6)<|Ca h5 (λc8 h9=>B1 Aa<|Bs<|cs h9▸D2 Mv ⟨Aa,Aa⟩) λc8 hd=>AQ [(0,rI .i32 c),(25,rB ((B6 (48≤c))&&(B6 (c≤57))))] [] (Cv Aa<|wv Eo<|ms Aa<|AU (B6 (48≤c)) (λhc=>wo hc<|ms Aa<|Bq hc GJ<|Ep Aa hc Aa<|B4 Aa<|Cp hc) λhc=>CQ hc Aa<|wv (AD hc)<|B4 Aa<|Cp hc)<|Ca hd (λhe hf=>B1 Aa<|Bs<|cs hf▸D2 Mv ⟨Aa,Aa⟩) λhe hg=>AX Aa<|wv Bb<|Bm Aa<|Ca hg (λhh hi=>B1 Aa<|Bs<|cs hi▸D2 Mv ⟨Aa,Aa⟩) λhh hj=>AX Aa<|wv Bb<|Bm Aa<|Ca hj (λhk hl=>B1 Aa<|Bs<|cs hl▸D2 Mv ⟨Aa,Aa⟩) λhk ho=>AX Aa<|ob ho λhp hq hr=>CP call150 (Qp ([40,41,123,125,91,93,44,59,58,61,33,60,62,43,45,42,47,37]:AE) c hp hq)<|Bm Aa<|Ca hr (λhs ht=>B1 Aa<|Bs<|cs ht▸D2 Mv ⟨Aa,Aa⟩) λhs hu=>BC<|CE<|B1 Aa<|cs hu▸D2 Mv ⟨Aa,Aa⟩
theorem M7 (s:AE)(r:Bool)(h:HH s=Ad r):FN 104 [rS s] [] (PO (rB r)):=en func104 ntmps104 Aa λw Z=>AX Aa<|Co Aa<|Bu<|A6<|B0<|A3<|wv C5<|Bm Aa<|Ca h (λc1 h2=>BT<|Be Aa c1<|B1 Aa<|Bs<|cs h2▸D2 HF ⟨Aa,Aa⟩) λc1 h3=>A3<|wv C5<|Bm Aa<|Ca h3 (λc4 h5=>BT<|Be Aa c4<|B1 Aa<|Bs<|cs h5▸D2 HF ⟨Aa,Aa⟩) λc4 h6=>A3<|wv C5<|Bm Aa<|Ca h6 (λc7 h8=>BT<|Be Aa c7<|B1 Aa<|Bs<|cs h8▸D2 HF ⟨Aa,Aa⟩) λc7 h9=>A3<|wv C5<|Bm Aa<|Ca h9 (λhc hk=>BT<|Be Aa hc<|B1 Aa<|Bs<|cs hk▸D2 HF ⟨Aa,Aa⟩) λhc hl=>A3<|wv C5<|Bm Aa<|Ca hl (λhd ho=>BT<|Be Aa hd<|B1 Aa<|Bs<|by exact cs ho▸D2 HF ⟨Aa,Aa⟩) λhd hp=>A3<|wv C5<|Bm Aa<|Ca hp (λhe hq=>BT<|Be Aa he<|B1 Aa<|Bs<|by exact cs hq▸D2 HF ⟨Aa,Aa⟩) λhe hr=>A3<|wv C5<|Bm Aa<|Ca hr (λhf hs=>by exact BT<|Be Aa hf<|B1 Aa<|Bs<|cs hs▸D2 HF ⟨Aa,Aa⟩) λhf ht=>by exact A3<|wv C5<|Bm Aa<|Ca ht (λhg hu=>BT<|Be Aa hg<|B1 Aa<|Bs<|cs hu▸D2 HF ⟨Aa,Aa⟩) λhg hv=>A3<|wv C5<|Bm Aa<|Ca hv (λhh hw=>BT<|Be Aa hh<|B1 Aa<|Bs<|cs hw▸D2 HF ⟨Aa,Aa⟩) λhh hx=>A3<|wv C5<|Bm Aa<|Ca hx (λhi hy=>BT<|Be Aa hi<|B1 Aa<|Bs<|cs hy▸D2 HF ⟨Aa,Aa⟩) λhi hz=>A3<|wv C5<|Bm Aa<|Ca hz (λhj h0=>BT<|Be Aa hj<|B1 Aa<|Bs<|cs h0▸D2 HF ⟨Aa,Aa⟩) λhj h4=>AF<|wv C5<|Bm Aa<|Ca h4 (λh7 hA=>B1 Aa<|Bs<|cs hA▸D2 HF ⟨Aa,Aa⟩) λh7 hB=>BC<|CE<|B1 Aa<|cs hB▸D2 HF ⟨Aa,Aa⟩
theorem T5 (s:AE)(r:Bool)(h:S5 s=Ad r):FN 108 [rS s] [] (PO (rB r)):=en func108 ntmps108 Aa λw Z=>AX Aa<|Co Aa<|Bu<|A6<|B0<|A3<|wv C5<|Bm Aa<|Ca h (λc1 h2=>BT<|Be Aa c1<|B1 Aa<|Bs<|cs h2▸D2 PQ ⟨Aa,Aa⟩) λc1 h3=>A3<|wv C5<|Bm Aa<|Ca h3 (λc4 h5=>BT<|Be Aa c4<|B1 Aa<|Bs<|cs h5▸D2 PQ ⟨Aa,Aa⟩) λc4 h6=>A3<|wv C5<|Bm Aa<|Ca h6 (λc7 h8=>BT<|Be Aa c7<|B1 Aa<|Bs<|cs h8▸D2 PQ ⟨Aa,Aa⟩) λc7 h9=>AF<|wv C5<|Bm Aa<|Ca h9 (λhe hf=>B1 Aa<|Bs<|cs hf▸D2 PQ ⟨Aa,Aa⟩) λhe hg=>BC<|CE<|ck hg λhh hi=>ck hi λhj hk=>AQ [(2,rB ((B6 ((Ae s:Int)=1))&&((!B6 (s=([33]:AE)))&&(B6 ((ov (QY (HB .i32 (Gp s 0))))=6)))))] [] (Cv Aa<|wv Dl<|wv Bb<|ms Aa<|AU (B6 ((Ae s:Int)=1)) (λhd=>wo hd<|ms Aa<|Bq hd (NZ Aa Aa)<|Ep Aa hd Aa<|ms Aa<|AU (!B6 (s=([33]:AE))) (λhc=>by exact wo hc<|ms Aa<|Bq hc (Ek (Dt (Dt hh hd) hc))<|Bq hc (DE ⟨_,U6⟩ Tt Aa)<|wo hc<|CP PT (Qb (HB .i32 (Gp s 0)) (ov (QY (HB .i32 (Gp s 0)))) (E1 (Dt (Dt hj hd) hc)))<|Bq hc Bb<|Ep Aa hc Aa<|B4 Aa<|Cp (Cu hd hc)) λhc=>by exact CQ hc Aa<|wv (AD hc)<|B4 Aa<|Cp (Cu hd hc)) λhd=>CQ hd Aa<|wv (AD hd)<|ms Aa<|DO Aa<|wv (AD Aa)<|B4 Aa<|by exact Cp hd)<|CG<|cs hk▸D2 PQ ⟨Aa,Aa⟩
theorem ZL (F:Nat)(s:AE)(r:Int)(h:AaY F s=Ad r):FN 103 [rS s] [] (PO (AH r)):=en func103 ntmps103 Aa λw Z=>AX Aa<|BI Aa<|BN<|A6<|ob h λhl ho hp=>BE (V:=(Int)×(Unit)) 0 (λσ=>Dc (λσ=>OC s σ) σ.1 σ.2.1=Ad hl) (λσ=>[(0,rS s),(3,AH σ.2.1)]) (λσ=>[]) (λσ=>σ.1) (F,0,()) ho (Bc Aa) sN (λσ=>LZ σ.1=Ad r) (λσ=>[(3,AH σ.1)]) (λσ=>[]) (by rintro⟨h4,hd,⟨⟩⟩ hq;refine EN ?_;obtain⟨hr,rfl,hs,hh,hi⟩:=CF hq;have hh:OC s hd=Ad hs:=hh;exact B0<|ck hh λhj ht=>ck ht λhk hu=>AQ [(0,rS s),(3,AH hd),(27,rB ((B6 (hd<(Ae s:Int)))&&((B6 ((ov (QY (HB .i32 (Gp s hd))))=2))||((B6 (0<hd))&&(B6 ((ov (QY (HB .i32 (Gp s hd))))=3))))))] [] (Cv Aa<|wv Dl<|wv B5<|ms Aa<|AU (B6 (hd<(Ae s:Int))) (λhc=>wo hc<|ms Aa<|wo hc<|ms Aa<|Bq hc (Ek (Dt hj hc))<|Bq hc (DE ⟨_,U6⟩ Tt Aa)<|wo hc<|CP PT (Qb (HB .i32 (Gp s hd)) (ov (QY (HB .i32 (Gp s hd)))) (E1 (Dt hk hc)))<|Bq hc Bb<|wo hc<|ms Aa<|AU (B6 ((ov (QY (HB .i32 (Gp s hd))))=2)) (λhe=>CQ he Aa<|wu<|wu<|wu<|wu<|wu<|wu<|wf he<|Bq hc (A2 he)<|Ep Aa hc Aa<|AL<|Cp (Cu hc he)) λhe=>wo he<|ms Aa<|Bq he C9<|wo he<|ms Aa<|AU (B6 (0<hd)) (λhf=>wo hf<|ms Aa<|wo hf<|ms Aa<|Bq hf (Ek (Dt hj hc))<|Bq hf (DE ⟨_,U6⟩ Tt Aa)<|wo hf<|CP PT (Qb (HB .i32 (Gp s hd)) (ov (QY (HB .i32 (Gp s hd)))) (E1 (Dt hk hc)))<|Bq hf Bb<|wo he<|Ep Aa hf Aa<|wo hc<|DI Aa he Aa<|Ep Aa hc Aa<|AL<|by exact Cp (Cu hc (Cu he hf))) λhf=>CQ hf Aa<|Bq he (AD hf)<|wo hc<|DI Aa he Aa<|Ep Aa hc Aa<|AL<|by exact Cp (Cu hc (Cu he hf))) λhc=>CQ hc Aa<|wu<|wu<|wu<|wu<|wu<|wu<|wu<|wu<|wu<|wu<|wf hc<|wv (AD hc)<|AL<|Cp hc)<|Ca hu (λhv hw=>BT<|A6<|Cv Aa<|ck hw λhx hy=>wv (Bv hx)<|B4 Aa<|BZ<|have hz:=BD hy hi;AV (AP (hr,hd+1,()) ⟨hz,Ae4 _⟩ (Bc Aa) sN)) λhv h0=>BF<|A0<|have h2:=Cw h0 hi hp;A0 (By (AP (hd,()) h2 (Bc Aa) sN)))<|by rintro⟨h3,⟨⟩⟩ hg;refine GB ?_;exact have hg:LZ h3=Ad r:=hg;by unfold LZ at hg;exact Bk<|CM<|B1 Aa<|cs hg▸D2 results103 ⟨Aa,Aa⟩
theorem S6 (F:Nat)(s:AE)(r:Int)(h:Vi F s=Ad r):FN 69 [rS s] [] (PO (AH r)):=en func69 ntmps69 Aa λw Z=>AX Aa<|BI Aa<|BN<|A6<|ob h λhk hl hf=>BE (V:=(Int)×(Unit)) 0 (λσ=>Dc (λσ=>M6 s σ) σ.1 σ.2.1=Ad hk) (λσ=>[(0,rS s),(3,AH σ.2.1)]) (λσ=>[]) (λσ=>σ.1) (F,0,()) hl (Bc Aa) sN (λσ=>K5 σ.1=Ad r) (λσ=>[(3,AH σ.1)]) (λσ=>[]) (by rintro⟨hO,hc,⟨⟩⟩ ho;refine EN ?_;obtain⟨hh,rfl,hp,hg,hd⟩:=CF ho;have hg:M6 s hc=Ad hp:=hg;exact B0<|AX Aa<|wv Dl<|wv B5<|Bu<|Ca hg (λhq hr=>BT<|A6<|A6<|AX Aa<|ck hr λhs ht=>wv (Ek hs)<|wv (DE ⟨_,U6⟩ Tt Aa)<|ob ht λhu hv hw=>CP PT (Qb (HB .i32 (Gp s hc)) hu hv)<|wv Bb<|Bm Aa<|Ca hw (λhx hy=>Cv Aa<|ck hy λhz h0=>wv (Bv hz)<|B4 Aa<|BZ<|BZ<|have h2:=BD h0 hd;AV (AP (hh,hc+1,()) ⟨h2,Ae4 _⟩ (Bc Aa) sN)) λhx h3=>AX Aa<|ck h3 λhi h4=>wv (Ic Lg Aa Aa hi)<|ob h4 λh5 h6 h7=>CP call101 (QB (Ap (Eg hc) s) ([47,47]:AE) h5 h6)<|Bm Aa<|Ca h7 (λh8 h9=>AX Aa<|wv (Ic Lg Aa Aa hi)<|ob h9 λhj hA hB=>CP call102 (KH (Ap (Eg hc) s) 10 hj hA)<|ms Aa<|Co Aa<|wv B5<|Bu<|Ca hB (λhC hD=>AX Aa<|wv Dl<|Bp Aa<|AA<|CV<|Bs<|Br<|by exact have hE:=Cc hD hd hf;Bs<|cs hE▸D2 results69 ⟨Aa,Aa⟩) λhC hF=>BT<|Cv Aa<|ck hF λhG hH=>wv (Bv hG)<|B4 Aa<|BZ<|BZ<|by exact have hI:=BD hH hd;AV (AP (hh,hc+hj,()) ⟨hI,Ae4 _⟩ (Bc Aa) sN)) λh8 hJ=>B1 Aa<|CV<|Bs<|Br<|have hK:=Cc hJ hd hf;Bs<|cs hK▸D2 results69 ⟨Aa,Aa⟩) λhq hL=>BF<|A0<|have hM:=Cw hL hd hf;A0 (By (AP (hc,()) hM (Bc Aa) sN)))<|by rintro⟨hN,⟨⟩⟩ he;refine GB ?_;exact have he:K5 hN=Ad r:=he;by unfold K5 at he;exact Bk<|CM<|B1 Aa<|cs he▸D2 results69 ⟨Aa,Aa⟩
abbrev D6 (x0:AE):List Rp:=[AH 0,rS x0,AH 0,AH 0]
theorem Vh (F:Nat)(s:AE)(r:Bx×Int×Int)(h:Rt F s=Ad r):FN 70 [rS s] [] (PO (DT [BL (Cs r.1),AH r.2.1,AH r.2.2])):=en func70 ntmps70 Aa λw Z=>by unfold Rt at h;exact A3<|Bz (cs:=(D6 ([]:AE))) E6 Aa Aa λb1=>ms Aa<|CZ<|wv (C3 IW Aa cN Aa )<|Bz (cs:=(D6 ([]:AE))) E6 Aa Aa λb2=>by refine Dx (i:=0) Di Aa Aa Aa (Bh.c Aa) Aa Aa ?_;exact Co Aa<|ck h λg3 h4=>wv (Ek g3)<|wv (DE ⟨_,U6⟩ Tt Aa)<|ob h4 λr5 e7 h6=>CP PT (Qb (HB .i32 (Gp s 0)) r5 e7)<|Bu<|A6<|A3<|wv Bb<|Bm Aa<|Ca h6 (λc8 h9=>AX Aa<|ob h9 λhh hk hl=>CP call103 (ZL F s hh hk)<|ms Aa<|BN<|A6<|AX Aa<|wv C9<|Bm Aa<|Ca hl (λho hp=>by refine A3<|wv (AB 0)<|Dx (i:=1) Di Aa Aa Aa (Bh.c Aa) Aa Aa ?_;exact Bp Aa<|Bs<|Bs<|cs hp▸A5 (Hc UL (CW (i:=1) K0 Di Aa Aa Aa) AO AO) (sK 0) ⟨Aa,Aa⟩) λho hq=>AX Aa<|ck hq λhd hr=>wv (Gs Lg Aa Aa hd)<|ob hr λhs ht hu=>CP call104 (M7 (Aq (Eg hh) s) hs ht)<|Bm Aa<|Ca hu (λhv hw=>by refine AX Aa<|wv (Gs Lg Aa Aa hd)<|wv (C3 IW Aa (D0 Aa (D0 Aa cN)) Aa)<|ms Aa<|Dx (i:=1) Di Aa Aa Aa (Bh.c Aa) Aa Aa ?_;exact Bp Aa<|Bs<|Bs<|cs hw▸A5 (Hc UL (CW (i:=1) K0 Di Aa Aa Aa) AO AO) (sK 0) ⟨Aa,Aa⟩) λhv hx=>by refine BC<|CE<|AX Aa<|wv (Gs Lg Aa Aa hd)<|wv (C3 IW Aa (D0 Aa (D0 Aa cN)) Aa)<|ms Aa<|Dx (i:=1) Di Aa Aa Aa (Bh.c Aa) Aa Aa ?_;exact Bp Aa<|Bs<|cs hx▸A5 (Hc UL (CW (i:=1) K0 Di Aa Aa Aa) AO AO) (sK 0) ⟨Aa,Aa⟩) λc8 hy=>A3<|wv Bb<|Bm Aa<|ck hy λhz h0=>AM Aa (Ck hz)<|A3<|wv Bb<|Bm Aa<|ck h0 λh2 h3=>AM Aa (Ck h2)<|A3<|wv Bb<|Bm Aa<|ck h3 λh5 h7=>AM Aa (Ck h5)<|BC<|CE<|B0<|AX Aa<|wv Dl<|wv (Qu QX Aa Aa)<|Bm Aa<|A6<|ob h7 λh8 hA hi=>BE (V:=(Unit)×(Unit)) 3 (λσ=>Dc (λσ=>Lm s σ) σ.1 σ.2.1=Ad h8) (λσ=>[(0,rS s),(2,rP b1 0),(5,rP b2 0),(14,AH σ.2.1)]) (λσ=>[.blk b2 (D6 ([]:AE)) 156,.blk b1 (D6 ([]:AE)) 156]) (λσ=>σ.1) (F,min 2 (Ae s:Int),()) hA (Bc Aa) (sC (sC sN)) (λσ=>Je =Ad r) (λσ=>[(2,rP b1 0),(5,rP b2 0)]) (λσ=>[.blk b2 (D6 ([]:AE)) 156,.blk b1 (D6 ([]:AE)) 156]) (by rintro⟨hT,he,⟨⟩⟩ hB;refine EN ?_;obtain⟨hC,rfl,hD,hf,hg⟩:=CF hB;have hf:Lm s he=Ad hD:=hf;exact B0<|AX Aa<|wv C9<|Bu<|Ca hf (λhE hF=>BX<|A6<|AX Aa<|ck hF λhj hG=>wv (Gs Lg Aa Aa hj)<|ob hG λhH hI hJ=>CP call108 (T5 (Aq (Eg he) s) hH hI)<|Bu<|Ca hJ (λhK hL=>by refine AX Aa<|wv (Gs Lg Aa Aa hj)<|wv (C3 IW Aa (D0 Aa (D0 Aa cN)) Aa)<|ms Aa<|Dx (i:=1) Di Aa Aa Aa (Bh.c Aa) Aa Aa ?_;exact Bp Aa<|Bs<|AA<|Br<|have hM:=Cc hL hg hi;Bs<|cs hM▸A5 (Hc UL (CW (i:=1) K0 Di Aa Aa Aa) AO AO) (sK 0) ⟨Aa,Aa⟩) λhK hN=>BC<|CE<|Cv Aa<|ck hN λhO hP=>wv (DG hO)<|B4 Aa<|have hQ:=BD hP hg;AV (AP (hC,he-1,()) ⟨hQ,Ae4 _⟩ (Bc Aa) (sC (sC sN)))) λhE hR=>BF<|A0<|have hS:=Cw hR hg hi;A0 (By (AP ((),()) hS (Bc Aa) (sC (sC sN)))))<|by rintro⟨⟨⟩,⟨⟩⟩ hc;refine GB ?_;exact have hc:Je =Ad r:=hc;by unfold Je at hc;refine Bk<|CM<|A3<|wv (AB 0)<|Dx (i:=1) Di Aa Aa Aa (Bh.c Aa) Aa Aa ?_;exact Bp Aa<|cs hc▸A5 (Hc UL (CW (i:=1) K0 Di Aa Aa Aa) AO AO) (sK 0) ⟨Aa,Aa⟩
theorem NR (F:Nat)(s:AE)(r:(List Bx)×Int×Int)(h:OB F s=Ad r):FN 44 [rS s] [] (PO (DT [B3 4 (AW Cs r.1),AH r.2.1,AH r.2.2])):=en func44 ntmps44 Aa λw Z=>AX Aa<|Co Aa<|wv Dl<|wv C9<|Bu<|Ca h (λc1 h2=>Cg Aa<|WK.up (d:=2) (r:=B3 4 (AW Cs ([]:List Bx))) Aa (Up.le (EJ.nil _))<|cs h2▸A5 (Hc X5 AO AO AO) sN ⟨Aa,Aa⟩) λc1 h3=>BT<|AX Aa<|Co Aa<|ob h3 λr4 e6 h5=>CP call69 (S6 F s r4 e6)<|Bm Aa<|A6<|WC.nilrow (e:=156) (sz:=4)<|ob h5 λhk hl hg=>BE (V:=((List Bx))×(Value)) 0 (λσ=>Dc (λσ=>JJ F s σ.1 σ.2) σ.1 σ.2.1=Ad hk) (λσ=>[(0,rS s),(5,rv σ.2.2),(6,AH σ.2.1.2)]) (λσ=>[.row σ.2.2 156 4 (AW Cs σ.2.1.1)]) (λσ=>σ.1) (F,(([]:List Bx),r4),(.slice Ai 0 0                                                                                                                                                            )) hl (Bc Aa) (sC sN) (λσ=>HV σ.1=Ad r) (λσ=>[(5,rv σ.2)]) (λσ=>[.row σ.2 156 4 (AW Cs σ.1)]) (by rintro⟨hR,⟨hh,hd⟩,ho⟩ hp;refine EN ?_;obtain⟨hq,rfl,hr,hi,he⟩:=CF hp;have hi:JJ F s hh hd=Ad hr:=hi;exact B0<|AX Aa<|wv Dl<|wv B5<|Bu<|Ca hi (λhs ht=>BX<|A6<|B0<|AX Aa<|wv (CK (i:=0) LJ Aa Aa)<|wv Bb<|Bu<|Ca ht (λhu hv=>Cg Aa<|Bs<|AA<|Br<|have hw:=Cc hv he hg;Bs<|WK.up (d:=2) (r:=B3 4 (AW Cs ([]:List Bx))) Aa (Up.le (EJ.nil _))<|cs hw▸A5 (Hc X5 AO AO AO) (sS sN) ⟨Aa,Aa⟩) λhu hx=>BT<|AX Aa<|ck hx λhy hz=>wv (Ic Lg Aa Aa hy)<|ob hz λhc h0 h4=>CP call70 (Vh F (Ap (Eg hd) s) hc h0)<|ms Aa<|wv A4<|wv A4<|wv A4<|Bz (cs:=(D6 ([]:AE))) E6 Aa Aa λhS=>by refine Dx (i:=0) Di Aa Aa Aa (Bh.c Aa) Aa Aa ?_;exact ms Aa<|Co Aa<|wv BS<|Bu<|Ca h4 (λh6 h7=>AX Aa<|ck h7 λh8 h9=>wv (Bv h8)<|Bp Aa<|AA<|Bs<|AA<|Br<|have hA:=Cc h9 he hg;Bs<|WK.up (d:=2) (r:=B3 4 (AW Cs ([]:List Bx))) Aa (Up.le (EJ.nil _))<|cs hA▸A5 (Hc X5 AO AO AO) (sK 0) ⟨Aa,Aa⟩) λh6 hB=>by refine BT<|AX Aa<|wv Az<|us (i:=0) D9 Aa Aa (BV Aa) Aa Aa ?_;exact BI Aa<|wv (AB 0)<|DL ([(Bx.mk hc.1.am hc.1.a6 hc.1.aO hd)]:List Bx) Cs LJ Di E6 Aa ⟨cA,trivial⟩ IV λhT=>ck hB λhC hD=>KB 2 LJ YB Aa Aa (J2.w (i:=0) Aa Aa) IV Nl hC λhE=>Bm Aa<|Cv Aa<|ck hD λhF hG=>wv (Bv hF)<|B4 Aa<|CE<|Cv Aa<|ck hG λhH hI=>wv (Ic Lg Aa Aa hH)<|ob hI λhj hJ hK=>CP call69 (S6 F (Ap (Eg (hd+hc.2.1)) s) hj hJ)<|ck hK λhL hM=>wv (Bv hL)<|B4 Aa<|have hN:=BD hM he;AV (AP (hq,(hh++([(Bx.mk hc.1.am hc.1.a6 hc.1.aO hd)]:List Bx),(hd+hc.2.1)+hj),hE) ⟨hN,Ae4 _⟩ (Bc Aa) (sC (sS (sS sN))))) λhs hO=>BF<|A0<|have hP:=Cw hO he hg;A0 (By (AP (hh,ho) hP (Bc Aa) (sC sN))))<|by rintro⟨hQ,hU⟩ hf;refine GB ?_;exact have hf:HV hQ=Ad r:=hf;by unfold HV at hf;exact Bk<|CM<|B1 Aa<|WK.freeze (i:=0) Aa<|WK.up (d:=2) Aa (Up.fact (i:=0) Aa)<|cs hf▸A5 (Hc X5 AO AO AO) (sS sN) ⟨Aa,Aa⟩
end Go.Proofs.YtoegakndmanfoaaGreatDoor.Q
namespace Go.Proofs.YtoegakndmanfoaaGreatDoor
open Go
set_option linter.unusedVariables false
structure AT where
 am:Int
 a6:AE
 aO:Int
 bl:(List AE)
 aB:(List Int)
 deriving DecidableEq,Inhabited
structure Bg where
 aE:AE
 ak:(List AE)
 aC:Int
 deriving DecidableEq,Inhabited
structure AS where
 ab:(List AT)
 aa:(List Bg)
 deriving DecidableEq,Inhabited
structure A1 where
 fL:(List Bx)
 aG:Int
 aA:Int
 fP:AS
 deriving DecidableEq,Inhabited
def IC (ys:(List AE))(x:AE)(hc:Int):Option (Stp Int (Out Int Unit)):=
 BR (Ac (hc<(Ae ys:Int))) (Bt (Do hc (Ae ys:Int))<|BR (Ac (x=(A8 ys hc))) (Ad (.out (.ret hc))) (Bt (CO .i64 (hc+1))<|some (.next (hc+1)))) (Ad (.out (.go ())))
def Hj :Option Int:=
 Ad (-1)
def Qm (F:Nat)(ys:(List AE))(x:AE):Option Int:=
 BG (Dc (λσ=>IC ys x σ) F 0) (Dp λν=>Hj )
def Hk (F:Nat)(ys:(List AE))(x:AE):Option Bool:=
 BG (Qm F ys x) λr1=>Ad (Ac (0≤r1))
def Zi (F:Nat)(p:A1)(k:Int)(texts:(List AE)):Option Bool:=
 Bt (imp (Ac (p.aG<(Ae p.fL:Int))) (Do p.aG (Ae p.fL:Int)))<|Bt (imp (Ac (p.aG<(Ae p.fL:Int))) (imp (Ac ((A8 p.fL p.aG).am=k)) (imp (!(Ac ((Ae texts:Int)=0))) (Hk F texts (A8 p.fL p.aG).a6).isSome)))<|some ((Ac (p.aG<(Ae p.fL:Int)))&&((Ac ((A8 p.fL p.aG).am=k))&&((Ac ((Ae texts:Int)=0))||(ov (Hk F texts (A8 p.fL p.aG).a6)))))
def Gf (F:Nat)(p:A1)(k:Int)(texts:(List AE)):Option (Bx×Bool×A1):=
 BG (Zi F p k texts) λr2=>BR (!r2) (Ad ((Bx.mk 0 ([]:AE) 0 0),Ah,p)) (Bt (CO .i64 (p.aG+1))<|Bt (CO .i64 ((p.aG+1)-1))<|Bt (Do ((p.aG+1)-1) (Ae p.fL:Int))<|some ((A8 p.fL ((p.aG+1)-1)),Af,(A1.mk p.fL (p.aG+1) p.aA p.fP)))
def K3 (F:Nat)(p:A1)(k:Int)(texts:(List AE)):Option (Bx×A1):=
 BG (Gf F p k texts) λr2=>Bt (!(!r2.2.1))<|some (r2.1,r2.2.2)
def OA (p:A1)(n:AT):Option (Int×A1):=
 Bt (I0 80 (Ae p.fP.ab+Ae ([n]:List AT)))<|Bt (CO .i64 ((Ae (p.fP.ab++([n]:List AT)):Int)-1))<|some ((Ae (p.fP.ab++([n]:List AT)):Int)-1,(A1.mk p.fL p.aG p.aA (AS.mk (p.fP.ab++([n]:List AT)) p.fP.aa)))
def Zg (F:Nat)(p:A1):Option (Int×A1):=
 BG (Gf F p 3 ([]:List AE)) λr1=>Bt (!r1.2.1)<|BG (Gf F r1.2.2 4 ([]:List AE)) λr9=>Bt (!r9.2.1)<|BG (Gf F r9.2.2 2 ([([110,117,108,108]:AE),([116,114,117,101]:AE),([102,97,108,115,101]:AE)]:List AE)) λhd=>Bt (!hd.2.1)<|BG (Gf F hd.2.2 1 ([]:List AE)) λhc=>Bt hc.2.1<|BG (Gf F hc.2.2 5 ([([40]:AE)]:List AE)) λhe=>Bt (!he.2.1)<|BG (OA he.2.2 (AT.mk 5 hc.1.a6 0 ([]:List AE) ([]:List Int))) λhf=>Ad (hf.1,hf.2)
def K1 (F:Nat)(r1:Int×A1):Option (Stp Unit (Out (Int×A1) Unit)):=
 BG (Gf F r1.2 5 ([([91]:AE)]:List AE)) λhc=>Bt (!hc.2.1)<|some (.out (.ret (r1.1,hc.2.2)))
def PX :Option (Int×A1):=
 Ai
def UV (F:Nat)(p:A1):Option (Int×A1):=
 BG (Zg F p) λr1=>BG (Dc (λσ=>K1 F r1 ) F ()) (Dp λν=>PX )
def O2 (F:Nat)(p:A1):Option (Int×A1):=
 BG (Gf F p 5 ([([45]:AE)]:List AE)) λr2=>Bt (!r2.2.1)<|BG (UV F r2.2.2) λhc=>Ad (hc.1,hc.2)
def HR (F:Nat)(k:Int)(ops:(List AE))(he:Int)(hg:(List Bx))(hh hi:Int)(hj:(List AT))(hk:(List Bg)):Option (Stp (Int×(List Bx)×Int×Int×(List AT)×(List Bg)) (Out (Int×A1) Unit)):=
 BG (Gf F (A1.mk hg hh hi (AS.mk hj hk)) k ops) λhd=>BR (!hd.2.1) (Ad (.out (.ret (he,hd.2.2)))) (BG (O2 F hd.2.2) λhf=>BG (OA hf.2 (AT.mk 9 hd.1.a6 0 ([]:List AE) ([he,hf.1]:List Int))) λhc=>Ad (.next (hc.1,hc.2.fL,hc.2.aG,hc.2.aA,hc.2.fP.ab,hc.2.fP.aa)))
def M1 :Option (Int×A1):=
 Ai
def O6 (F:Nat)(p:A1)(k:Int)(ops:(List AE)):Option (Int×A1):=
 BG (O2 F p) λr1=>BG (Dc (λσ=>HR F k ops σ.1 σ.2.1 σ.2.2.1 σ.2.2.2.1 σ.2.2.2.2.1 σ.2.2.2.2.2) F (r1.1,r1.2.fL,r1.2.aG,r1.2.aA,r1.2.fP.ab,r1.2.fP.aa)) (Dp λν=>M1 )
def S0 (F:Nat)(p:A1):Option (Int×A1):=
 BG (O6 F p 5 ([([42]:AE),([47]:AE),([37]:AE)]:List AE)) λr2=>Ad (r2.1,r2.2)
def HS (F:Nat)(k:Int)(ops:(List AE))(he:Int)(hg:(List Bx))(hh hi:Int)(hj:(List AT))(hk:(List Bg)):Option (Stp (Int×(List Bx)×Int×Int×(List AT)×(List Bg)) (Out (Int×A1) Unit)):=
 BG (Gf F (A1.mk hg hh hi (AS.mk hj hk)) k ops) λhd=>BR (!hd.2.1) (Ad (.out (.ret (he,hd.2.2)))) (BG (S0 F hd.2.2) λhf=>BG (OA hf.2 (AT.mk 9 hd.1.a6 0 ([]:List AE) ([he,hf.1]:List Int))) λhc=>Ad (.next (hc.1,hc.2.fL,hc.2.aG,hc.2.aA,hc.2.fP.ab,hc.2.fP.aa)))
def M3 :Option (Int×A1):=
 Ai
def O7 (F:Nat)(p:A1)(k:Int)(ops:(List AE)):Option (Int×A1):=
 BG (S0 F p) λr1=>BG (Dc (λσ=>HS F k ops σ.1 σ.2.1 σ.2.2.1 σ.2.2.2.1 σ.2.2.2.2.1 σ.2.2.2.2.2) F (r1.1,r1.2.fL,r1.2.aG,r1.2.aA,r1.2.fP.ab,r1.2.fP.aa)) (Dp λν=>M3 )
def ZI (F:Nat)(p:A1):Option (Int×A1):=
 BG (O7 F p 5 ([([43]:AE),([45]:AE)]:List AE)) λr2=>Ad (r2.1,r2.2)
def XB (F:Nat)(p:A1):Option (Int×A1):=
 BG (Gf F p 2 ([([110,111,116]:AE)]:List AE)) λr2=>Bt (!r2.2.1)<|BG (ZI F r2.2.2) λhc=>BG (Gf F hc.2 5 ([([61,61]:AE),([33,61]:AE),([60]:AE),([60,61]:AE),([62]:AE),([62,61]:AE)]:List AE)) λhd=>Bt (!hd.2.1)<|some (hc.1,hd.2.2)
def HU (F:Nat)(k:Int)(ops:(List AE))(he:Int)(hg:(List Bx))(hh hi:Int)(hj:(List AT))(hk:(List Bg)):Option (Stp (Int×(List Bx)×Int×Int×(List AT)×(List Bg)) (Out (Int×A1) Unit)):=
 BG (Gf F (A1.mk hg hh hi (AS.mk hj hk)) k ops) λhd=>BR (!hd.2.1) (Ad (.out (.ret (he,hd.2.2)))) (BG (XB F hd.2.2) λhf=>BG (OA hf.2 (AT.mk 9 hd.1.a6 0 ([]:List AE) ([he,hf.1]:List Int))) λhc=>Ad (.next (hc.1,hc.2.fL,hc.2.aG,hc.2.aA,hc.2.fP.ab,hc.2.fP.aa)))
def M5 :Option (Int×A1):=
 Ai
def O9 (F:Nat)(p:A1)(k:Int)(ops:(List AE)):Option (Int×A1):=
 BG (XB F p) λr1=>BG (Dc (λσ=>HU F k ops σ.1 σ.2.1 σ.2.2.1 σ.2.2.2.1 σ.2.2.2.2.1 σ.2.2.2.2.2) F (r1.1,r1.2.fL,r1.2.aG,r1.2.aA,r1.2.fP.ab,r1.2.fP.aa)) (Dp λν=>M5 )
def XG (F:Nat)(p:A1):Option (Int×A1):=
 BG (O9 F p 2 ([([97,110,100]:AE)]:List AE)) λr2=>Ad (r2.1,r2.2)
def HT (F:Nat)(k:Int)(ops:(List AE))(he:Int)(hg:(List Bx))(hh hi:Int)(hj:(List AT))(hk:(List Bg)):Option (Stp (Int×(List Bx)×Int×Int×(List AT)×(List Bg)) (Out (Int×A1) Unit)):=
 BG (Gf F (A1.mk hg hh hi (AS.mk hj hk)) k ops) λhd=>BR (!hd.2.1) (Ad (.out (.ret (he,hd.2.2)))) (BG (XG F hd.2.2) λhf=>BG (OA hf.2 (AT.mk 9 hd.1.a6 0 ([]:List AE) ([he,hf.1]:List Int))) λhc=>Ad (.next (hc.1,hc.2.fL,hc.2.aG,hc.2.aA,hc.2.fP.ab,hc.2.fP.aa)))
def M4 :Option (Int×A1):=
 Ai
def O8 (F:Nat)(p:A1)(k:Int)(ops:(List AE)):Option (Int×A1):=
 BG (XG F p) λr1=>BG (Dc (λσ=>HT F k ops σ.1 σ.2.1 σ.2.2.1 σ.2.2.2.1 σ.2.2.2.2.1 σ.2.2.2.2.2) F (r1.1,r1.2.fL,r1.2.aG,r1.2.aA,r1.2.fP.ab,r1.2.fP.aa)) (Dp λν=>M4 )
def Vc (F:Nat)(p:A1):Option (Int×A1):=
 BG (O8 F p 2 ([([111,114]:AE)]:List AE)) λr2=>Ad (r2.1,r2.2)
def UT (F:Nat)(p:A1):Option ((List Int)×A1):=
 BG (Vc F p) λr1=>BG (K3 F r1.2 5 ([([59]:AE)]:List AE)) λr7=>Ad (([r1.1]:List Int),r7.2)
def UU (F:Nat)(p:A1):Option (Int×A1):=
 BG (Gf F p 2 ([([108,101,116]:AE),([105,102]:AE),([119,104,105,108,101]:AE),([114,101,116,117,114,110]:AE)]:List AE)) λr2=>Bt r2.2.1<|Bt (!(Ac (r2.1.a6=([108,101,116]:AE))))<|Bt (!(Ac (r2.1.a6=([105,102]:AE))))<|Bt (!(Ac (r2.1.a6=([119,104,105,108,101]:AE))))<|BG (UT F r2.2.2) λhc=>BG (OA hc.2 (AT.mk 17 ([]:AE) 0 ([]:List AE) hc.1)) λhd=>Ad (hd.1,hd.2)
def Jd (F:Nat)(hd:(List Int))(hg:(List Bx))(hh hi:Int)(hj:(List AT))(hk:(List Bg)):Option (Stp ((List Int)×(List Bx)×Int×Int×(List AT)×(List Bg)) (Out (Int×A1) Unit)):=
 BG (Gf F (A1.mk hg hh hi (AS.mk hj hk)) 5 ([([125]:AE)]:List AE)) λhe=>BR he.2.1 (BG (OA he.2.2 (AT.mk 19 ([]:AE) 0 ([]:List AE) hd)) λhf=>Ad (.out (.ret (hf.1,hf.2)))) (BG (UU F he.2.2) λhc=>Bt (I0 8 (hd.length+Ae ([hc.1]:List Int)))<|some (.next (hd++([hc.1]:List Int),hc.2.fL,hc.2.aG,hc.2.aA,hc.2.fP.ab,hc.2.fP.aa)))
def NQ :Option (Int×A1):=
 Ai
def Rr (F:Nat)(p:A1):Option (Int×A1):=
 BG (K3 F p 5 ([([123]:AE)]:List AE)) λr2=>BG (Dc (λσ=>Jd F σ.1 σ.2.1 σ.2.2.1 σ.2.2.2.1 σ.2.2.2.2.1 σ.2.2.2.2.2) F (([]:List Int),r2.2.fL,r2.2.aG,r2.2.aA,r2.2.fP.ab,r2.2.fP.aa)) (Dp λν=>NQ )
def Rk (F:Nat)(f:Bg)(p:A1):Option (Bg×A1):=
 BG (K3 F p 1 ([]:List AE)) λr1=>Bt (I0 16 (Ae f.ak+Ae ([r1.1.a6]:List AE)))<|some ((Bg.mk f.aE (f.ak++([r1.1.a6]:List AE)) f.aC),r1.2)
def Jb (F:Nat)(fin:AE)(he:(List Bx))(hf hg:Int)(hh:(List AT))(hi:(List Bg))(hj:AE)(hk:(List AE))(hl:Int):Option (Stp ((List Bx)×Int×Int×(List AT)×(List Bg)×AE×(List AE)×Int) (Out (A1×Bg) Unit)):=
 BG (Rk F (Bg.mk hj hk hl) (A1.mk he hf hg (AS.mk hh hi))) λhd=>BG (K3 F hd.2 5 ([([44]:AE),fin]:List AE)) λhc=>BR (Ac (hc.1.a6=fin)) (Ad (.out (.ret (hc.2,hd.1)))) (Ad (.next (hc.2.fL,hc.2.aG,hc.2.aA,hc.2.fP.ab,hc.2.fP.aa,hd.1.aE,hd.1.ak,hd.1.aC)))
def NO :Option (A1×Bg):=
 Ai
def Rn (F:Nat)(p:A1)(fin:AE)(f:Bg):Option (A1×Bg):=
 BG (Gf F p 5 ([fin]:List AE)) λr2=>BR r2.2.1 (Ad (r2.2.2,f)) (BG (Dc (λσ=>Jb F fin σ.1 σ.2.1 σ.2.2.1 σ.2.2.2.1 σ.2.2.2.2.1 σ.2.2.2.2.2.1 σ.2.2.2.2.2.2.1 σ.2.2.2.2.2.2.2) F (r2.2.2.fL,r2.2.2.aG,r2.2.2.aA,r2.2.2.fP.ab,r2.2.2.fP.aa,f.aE,f.ak,f.aC)) (Dp λν=>NO ))
def Hf (F:Nat)(he:(List Bx))(hf hg:Int)(hh:(List AT))(hi:(List Bg)):Option (Stp ((List Bx)×Int×Int×(List AT)×(List Bg)) (Out A1 ((List Bx)×Int×Int×(List AT)×(List Bg)))):=
 BR (Ac (hf<(he.length:Int))) (BG (K3 F (A1.mk he hf hg (AS.mk hh hi)) 2 ([([102,117,110,99]:AE)]:List AE)) λhk=>BG (K3 F hk.2 1 ([]:List AE)) λhj=>BG (K3 F hj.2 5 ([([40]:AE)]:List AE)) λhl=>BG (Rn F hl.2 ([41]:AE) (Bg.mk hj.1.a6 ([]:List AE) 0)) λhd=>BG (Rr F hd.1) λhc=>Bt (I0 48 (hc.2.fP.aa.length+Ae ([(Bg.mk hd.2.aE hd.2.ak hc.1)]:List Bg)))<|some (.next (hc.2.fL,hc.2.aG,hc.2.aA,hc.2.fP.ab,hc.2.fP.aa++([(Bg.mk hd.2.aE hd.2.ak hc.1)]:List Bg)))) (Ad (.out (.go (he,hf,hg,hh,hi))))
def He (hc:(List Bx))(hd he:Int)(hf:(List AT))(hg:(List Bg)):Option A1:=
 Ad (A1.mk hc hd he (AS.mk hf hg))
def Mx (F:Nat)(p:A1):Option A1:=
 BG (Dc (λσ=>Hf F σ.1 σ.2.1 σ.2.2.1 σ.2.2.2.1 σ.2.2.2.2) F (p.fL,p.aG,p.aA,p.fP.ab,p.fP.aa)) (Dp λν=>He ν.1 ν.2.1 ν.2.2.1 ν.2.2.2.1 ν.2.2.2.2)
def O4 (s:AE)(hc:Int):Option (Stp Int (Out Bool Unit)):=
 BR (Ac (hc<(Ae s:Int))) (Bt (Do hc (Ae s:Int))<|BR ((bif Ac ((Gp s hc)<97) then((!Ac ((Gp s hc)=95))&&((Ac (hc=0))||((Ac ((Gp s hc)<48))||(Ac (57<(Gp s hc)))))) else((Ac (122<(Gp s hc)))&&((!Ac ((Gp s hc)=95))&&((Ac (hc=0))||((Ac ((Gp s hc)<48))||(Ac (57<(Gp s hc))))))))) (Ad (.out (.ret Ah))) (Bt (CO .i64 (hc+1))<|some (.next (hc+1)))) (Ad (.out (.go ())))
def LY :Option Bool:=
 Ad Af
def PW (F:Nat)(s:AE):Option Bool:=
 BR (((Ac ((Ae s:Int)<1))||(Ac (24<(Ae s:Int))))) (Ad Ah) (BG (Dc (λσ=>O4 s σ) F 0) (Dp λν=>LY ))
def Iv (F:Nat)(s:AE):Option Bool:=
 Bt (PW F s).isSome<|Bt (imp ((ov (PW F s))) (HH s).isSome)<|some ((ov (PW F s))&&(!(ov (HH s))))
def S4 (op:AE):Option Int:=
 BR (Ac (op=([111,114]:AE))) (Ad 1) (BR (Ac (op=([97,110,100]:AE))) (Ad 2) (BR (Ac (op=([61,61]:AE))) (Ad 4) (BR (Ac (op=([33,61]:AE))) (Ad 4) (BR (Ac (op=([60]:AE))) (Ad 4) (BR (Ac (op=([60,61]:AE))) (Ad 4) (BR (Ac (op=([62]:AE))) (Ad 4) (BR (Ac (op=([62,61]:AE))) (Ad 4) (BR (Ac (op=([43]:AE))) (Ad 5) (BR (Ac (op=([45]:AE))) (Ad 5) (BR (Ac (op=([42]:AE))) (Ad 6) (BR (Ac (op=([47]:AE))) (Ad 6) (BR (Ac (op=([37]:AE))) (Ad 6) (Ad 0)))))))))))))
def NM (s:AE):Option Bool:=
 BG (S4 s) λr1=>Ad (Ac (0<r1))
def JH (k:Int):Option Bool:=
 Ad ((Ac (13≤k))&&(Ac (k≤18)))
def G7 (k:Int):Option Bool:=
 Ad ((Ac (1≤k))&&(Ac (k≤12)))
def Hh (F:Nat)(n:AT):Option Bool:=
 BR ((bif !Ac (n.am=7) then((Ac (0<(Ae n.bl:Int)))||((!Ac (n.am=2))&&((!Ac (n.am=3))&&(!Ac (n.aO=0))))) else((!Ac (n.am=2))&&((!Ac (n.am=3))&&(!Ac (n.aO=0)))))) (Ad Ah) (Bt (!(Ac (n.am=2)))<|Bt (!(Ac (n.am=3)))<|Bt (!(Ac (n.am=4)))<|BR (Ac (n.am=5)) (BG (Iv F n.a6) λhc=>Ad hc) (BR (Ac (n.am=11)) (BG (Iv F n.a6) λhd=>Ad hd) (BR (Ac (n.am=13)) (BG (Iv F n.a6) λhe=>Ad he) (BR (Ac (n.am=14)) (BG (Iv F n.a6) λhf=>Ad hf) (Bt (!(Ac (n.am=12)))<|Bt (!(Ac (n.am=7)))<|Bt (!(Ac (n.am=8)))<|BR (Ac (n.am=9)) (BG (NM n.a6) λhg=>Ad hg) (Ad (Ac (n.a6=([]:AE)))))))))
def NP (n:AT)(k part:Int):Option Bool:=
 BR (Ac (n.am=19)) (BG (JH part) λr4=>Ad r4) (BR (Ac (n.am=15)) (BR (Ac (0<k)) (Ad (Ac (part=19))) (BG (G7 part) λhc=>Ad hc)) (BR (Ac (n.am=16)) (BR (Ac (0<k)) (Ad (Ac (part=19))) (BG (G7 part) λhd=>Ad hd)) (BG (G7 part) λhe=>Ad he)))
def Ll (n:AT):Option Bool:=
 BR (Ac (n.am=1)) (Ad (Ac ((Ae n.aB:Int)=0))) (BR (Ac (n.am=2)) (Ad (Ac ((Ae n.aB:Int)=0))) (BR (Ac (n.am=3)) (Ad (Ac ((Ae n.aB:Int)=0))) (BR (Ac (n.am=4)) (Ad (Ac ((Ae n.aB:Int)=0))) (BR (Ac (n.am=5)) (Ad (Ac ((Ae n.aB:Int)=0))) (BR (Ac (n.am=8)) (Ad (Ac ((Ae n.aB:Int)=1))) (BR (Ac (n.am=13)) (Ad (Ac ((Ae n.aB:Int)=1))) (BR (Ac (n.am=14)) (Ad (Ac ((Ae n.aB:Int)=1))) (BR (Ac (n.am=17)) (Ad (Ac ((Ae n.aB:Int)=1))) (BR (Ac (n.am=18)) (Ad (Ac ((Ae n.aB:Int)=1))) (BR (Ac (n.am=9)) (Ad (Ac ((Ae n.aB:Int)=2))) (BR (Ac (n.am=10)) (Ad (Ac ((Ae n.aB:Int)=2))) (BR (Ac (n.am=16)) (Ad (Ac ((Ae n.aB:Int)=2))) (BR (Ac (n.am=15)) (Ad ((Ac ((Ae n.aB:Int)=2))||(Ac ((Ae n.aB:Int)=3)))) (BR (Ac (n.am=6)) (Ad Af) (BR (Ac (n.am=7)) (Ad Af) (BR (Ac (n.am=11)) (Ad Af) (BR (Ac (n.am=12)) (Ad Af) (BR (Ac (n.am=19)) (Ad Af) (Ad Ah)))))))))))))))))))
def Lk (l:(List AT))(i:Int)(hf:(List AT)→Int→Option Int)(hc hd:Int):Option (Stp (Int×Int) (Out Int Int)):=
 BR (Ac (0≤hd)) (Bt (imp (!(Ac (hc<1))) (Do hd (Ae (A8 l i).aB:Int)))<|Bt (imp (!(Ac (hc<1))) (CO .i64 (hc-1)))<|Bt (imp (!(Ac (hc<1))) (imp (!(!Ac ((A8 (A8 l i).aB hd)=(hc-1)))) (Do (hc-1) (Ae l:Int))))<|Bt (imp (!(Ac (hc<1))) (imp (!(!Ac ((A8 (A8 l i).aB hd)=(hc-1)))) (NP (A8 l i) hd (A8 l (hc-1)).am).isSome))<|BR (((Ac (hc<1))||((!Ac ((A8 (A8 l i).aB hd)=(hc-1)))||(!(ov (NP (A8 l i) hd (A8 l (hc-1)).am)))))) (Ad (.out (.ret (-1)))) (Bt (CO .i64 (hc-1))<|BG (hf l (hc-1)) λhe=>BR (Ac (he<0)) (Ad (.out (.ret (-1)))) (Bt (CO .i64 (hd-1))<|some (.next (he,hd-1))))) (Ad (.out (.go hc)))
def Jc (hc:Int):Option Int:=
 Ad hc
def S2 (F:Nat)(hc:(List AT)→Int→Option Int)(l:(List AT))(i:Int):Option Int:=
 Bt (Do i (Ae l:Int))<|Bt (Hh F (A8 l i)).isSome<|Bt (imp (!(!(ov (Hh F (A8 l i))))) (Ll (A8 l i)).isSome)<|BR (((!(ov (Hh F (A8 l i))))||(!(ov (Ll (A8 l i)))))) (Ad (-1)) (Bt (CO .i64 ((Ae (A8 l i).aB:Int)-1))<|BG (Dc (λσ=>Lk l i hc σ.1 σ.2) F (i,(Ae (A8 l i).aB:Int)-1)) (Dp λν=>Jc ν))
def Hx:Nat→(List AT)→Int→Option Int
 | 0,_,_=>Ai
 | nn+1,l,i=>S2 nn (Hx nn) l i
def I9 (l:(List AT))(i:Int)(he:(List AT)→Int→Option Int)(hd hc:Int):Option (Stp (Int×Int) (Out Int Int)):=
 BR (Ac (hc<(Ae (A8 l i).aB:Int))) (Bt (Do hc (Ae (A8 l i).aB:Int))<|BG (he l (A8 (A8 l i).aB hc)) λhf=>Bt (CO .i64 (hc+1))<|some (.next (max hd hf,hc+1))) (Ad (.out (.go hd)))
def I8 (hc:Int):Option Int:=
 Bt (CO .i64 (hc+1))<|some (hc+1)
def NN (F:Nat)(hc:(List AT)→Int→Option Int)(l:(List AT))(i:Int):Option Int:=
 Bt (Do i (Ae l:Int))<|BG (Dc (λσ=>I9 l i hc σ.1 σ.2) F (0,0)) (Dp λν=>I8 ν)
def GW:Nat→(List AT)→Int→Option Int
 | 0,_,_=>Ai
 | nn+1,l,i=>NN nn (GW nn) l i
def Zh (F:Nat)(s:AE):Option Bool:=
 BG (Iv F s) λr1=>Ad (!r1)
def Ve (f:Bg):Option Bool:=
 Ad (Ac (8<(Ae f.ak:Int)))
def L7 (ys:(List Bg))(hc:Int):Option (Stp Int (Out Int Unit)):=
 BR (Ac (hc<(Ae ys:Int))) (Bt (Do hc (Ae ys:Int))<|BG (Ve (A8 ys hc)) λhd=>BR hd (Ad (.out (.ret hc))) (Bt (CO .i64 (hc+1))<|some (.next (hc+1)))) (Ad (.out (.go ())))
def Jt :Option Int:=
 Ad (-1)
def Wz (F:Nat)(ys:(List Bg)):Option Int:=
 BG (Dc (λσ=>L7 ys σ) F 0) (Dp λν=>Jt )
def Nb (F:Nat)(ys:(List AE))(hc:Int):Option (Stp Int (Out Int Unit)):=
 BR (Ac (hc<(Ae ys:Int))) (Bt (Do hc (Ae ys:Int))<|BG (Zh F (A8 ys hc)) λhd=>BR hd (Ad (.out (.ret hc))) (Bt (CO .i64 (hc+1))<|some (.next (hc+1)))) (Ad (.out (.go ())))
def KR :Option Int:=
 Ad (-1)
def Z3 (F:Nat)(ys:(List AE)):Option Int:=
 BG (Dc (λσ=>Nb F ys σ) F 0) (Dp λν=>KR )
def Ik (F:Nat)(ys:(List Bg)):Option Bool:=
 BG (Wz F ys) λr1=>Ad (Ac (0≤r1))
def Ng (F:Nat)(ys:(List AE)):Option Bool:=
 BG (Z3 F ys) λr1=>Ad (Ac (0≤r1))
def I7 (F:Nat)(q:AS)(hd hc:Int):Option (Stp (Int×Int) (Out Bool Int)):=
 BR (Ac (hc<(Ae q.aa:Int))) (Bt (Do hc (Ae q.aa:Int))<|Bt (Iv F (A8 q.aa hc).aE).isSome<|Bt (imp (!(!(ov (Iv F (A8 q.aa hc).aE)))) (Ng F (A8 q.aa hc).ak).isSome)<|BR (((!(ov (Iv F (A8 q.aa hc).aE)))||(ov (Ng F (A8 q.aa hc).ak)))) (Ad (.out (.ret Ah))) (Bt (imp (!(Ac ((A8 q.aa hc).aC<hd))) (imp (!(Ac ((Ae q.ab:Int)≤(A8 q.aa hc).aC))) (Do (A8 q.aa hc).aC (Ae q.ab:Int))))<|Bt (imp (!(Ac ((A8 q.aa hc).aC<hd))) (imp (!(Ac ((Ae q.ab:Int)≤(A8 q.aa hc).aC))) (imp (!(!Ac ((A8 q.ab (A8 q.aa hc).aC).am=19))) (Hx F q.ab (A8 q.aa hc).aC).isSome)))<|BR (((Ac ((A8 q.aa hc).aC<hd))||((Ac ((Ae q.ab:Int)≤(A8 q.aa hc).aC))||((!Ac ((A8 q.ab (A8 q.aa hc).aC).am=19))||(!Ac ((ov (Hx F q.ab (A8 q.aa hc).aC))=hd)))))) (Ad (.out (.ret Ah))) (Bt (CO .i64 ((A8 q.aa hc).aC+1))<|Bt (CO .i64 (hc+1))<|some (.next ((A8 q.aa hc).aC+1,hc+1))))) (Ad (.out (.go hd)))
def Hg (q:AS)(hc:Int):Option Bool:=
 Ad (Ac (hc=(Ae q.ab:Int)))
def My (F:Nat)(q:AS):Option Bool:=
 BG (Dc (λσ=>I7 F q σ.1 σ.2) F (0,0)) (Dp λν=>Hg q ν)
def IA (F:Nat)(q:AS)(hd hc:Int):Option (Stp (Int×Int) (Out Int Int)):=
 BR (Ac (hc<(Ae q.aa:Int))) (Bt (Do hc (Ae q.aa:Int))<|BG (GW F q.ab (A8 q.aa hc).aC) λhe=>Bt (CO .i64 (hc+1))<|some (.next (max hd he,hc+1))) (Ad (.out (.go hd)))
def Hi (hc:Int):Option Int:=
 Ad hc
def HG (F:Nat)(q:AS):Option Int:=
 BG (Dc (λσ=>IA F q σ.1 σ.2) F (0,0)) (Dp λν=>Hi ν)
def O5 (F:Nat)(q:AS):Option Int:=
 BR (((Ac (600<(Ae q.ab:Int)))||(Ac (16<(Ae q.aa:Int))))) (Ad 3) (BG (My F q) λr6=>BR (!r6) (Ad 1) (Bt (Ik F q.aa).isSome<|Bt (imp (!(ov (Ik F q.aa))) (HG F q).isSome)<|BR (((ov (Ik F q.aa))||(Ac (32<(ov (HG F q)))))) (Ad 3) (Ad 0)))
def Rj (F:Nat)(s:AE):Option (AS×Int×Int):=
 BG (OB F s) λr4=>Bt (!(!Ac (r4.2.2=0)))<|BG (Mx F (A1.mk r4.1 0 (Ae s:Int) (AS.mk ([]:List AT) ([]:List Bg)))) λhc=>BG (O5 F hc.fP) λhd=>Bt (!(!Ac (hd=0)))<|some (hc.fP,0,0)
end Go.Proofs.YtoegakndmanfoaaGreatDoor
namespace Go.Proofs.YtoegakndmanfoaaGreatDoor.Q
open Go Go.RowKit
set_option linter.unusedVariables false
set_option linter.unusedSimpArgs false
set_option linter.unusedSectionVars false
variable{i:Nat}{pos:String}{listed:Array Bool}{all rest ops:List Oper}{af:Array Edge}{Q:Exit→Act→World→Prop}
section
variable [I : Dfr]
def No (ops:List Oper)(N:Nat):Bool:=
 let cl:=Kh ops []
 (As (Ae ops)).all (λi=>(DH (ops.getD i default)).all (·<i))&&
 (As (Ae ops)).all (λi=>i<N||(As i).all (λj=>(cl.getD i 0).testBit j))
section
variable {P : Program} {Q : Exit → Act → World → Prop}
theorem QL {len m:Nat}(hs:listed.size=len)(hm:m≤len)(h:∀j,j<len→(listed.getD j Af=Af↔j<m)):listed.toList.count Ah=len-m:=by
 have:listed.toList=Au m Af++Au (len-m) Ah:=by
  apply List.ext_getElem
  ·simp[hs];omega
  ·intro j h1 h2;have hj:j<len:=by simpa[hs] using h1
   have:=h j hj;rw[Array.getD_eq_getD_getElem?,Array.getElem?_eq_getElem Ab] at this;simp only[AeE] at this;rw[Array.getElem_toList,List.getElem_append]
   split
   ·rename_i h3
    simp at h3;simp[this.2 h3]
   ·rename_i h3
    simp at h3;simp only[List.getElem_replicate]
    cases hb:listed[j] with
    | false=>rfl
    | true=>have:=this.1 hb;omega
 rw[this];simp[List.count_append,List.count_replicate]
theorem SZ {j:Nat}(h:j<listed.size)(d d':Bool):listed.getD j d=listed.getD j d':=by
 simp[Array.getD_eq_getD_getElem?,Array.getElem?_eq_getElem h]
theorem Nv {o:Oper}(ho:ops[i]? =Ad o)(hb:∀e∈DH o,listed.getD e Af=Af)
  (hcl:∀j o,ops[j]? =Ad o→listed.getD j Af=Af→∀e∈DH o,listed.getD e Af=Af) (j:Nat) (h:((Kh ops []).getD i 0).testBit j=Af):j=i∨listed.getD j Af=Af:=
 G0 ops (λk=>k=i∨listed.getD k Af=Af) ops [] (λt o' ht e he hF=>by
  rcases hF with hF | hF
  ·simp at hF;subst hF;rw[ho] at ht;simp at ht;subst ht;exact .inr (hb e he)
  ·exact .inr (hcl t o' ht (by simpa using hF) e he)) (λj i hb=>by simp at hb) i j h (.inl rfl)
theorem JU (hsz:listed.size=Ae ops)(hlt:∀i,i<Ae ops→∀e∈DH (ops.getD i default),e<i)(h:i∈Region.ready .any ops.toArray listed) :
  listed.getD i Af=Ah∧i<Ae ops∧∃o,ops[i]? =Ad o∧∀e∈DH o,listed.getD e Af=Af:=by
 obtain⟨h1,o,ho,h2⟩:=mem_ready.1 h;have ho':ops[i]? =Ad o:=by simpa using ho
 have hil:=(List.getElem?_eq_some_iff.1 ho').1;refine⟨h1,hil,o,ho',λe he=>?_⟩;have hei:=hlt i hil e (by rw[Ae2,ho'];exact he);simp only[DH,List.mem_map,List.mem_filter] at he;obtain⟨x,⟨hx1,hx2⟩,rfl⟩:=he;have h3:=h2 x (by simpa using hx1) hx2;rw[SZ Ab Af Ah];exact h3
theorem JA (hsz:listed.size=Ae ops)(hlt:∀i,i<Ae ops→∀e∈DH (ops.getD i default),e<i)(h:Region.ready .any ops.toArray listed=[]) :
  ∀j,j<Ae ops→listed.getD j Af=Af:=by
 intro j
 induction j using Nat.strongRecOn with
 | ind j ih=>
  intro hj
  cases hb:listed.getD j Af with
  | true=>rfl
  | false=>
   have:j∈Region.ready .any ops.toArray listed:=mem_ready.2 ⟨hb,ops[j],by simp[hj],λe he hbn=>by
    have hel:e.on<j:=hlt j hj e.on (by
     rw[Ae2,Ae3 hj];simp only[DH,AeE,List.mem_map,List.mem_filter];exact⟨e,⟨by simpa using he,hbn⟩,rfl⟩)
    rw[SZ Ab Ah Af];exact ih e.on hel Ab⟩
   rw[h] at this;cases this
theorem Ma {j:Nat}(hi:i<listed.size):(listed.setIfInBounds i Af).getD j Af=Af↔(j=i∨listed.getD j Af=Af):=by
 by_cases hj:i=j
 ·subst hj;simp[hi]
 ·rw[getD_set_ne Af hj];exact⟨.inr,λh=>h.elim (λh=>absurd h.symm hj) id⟩
theorem TH {fuel:Nat}(hi:i<listed.size)(hun:listed.getD i Af=Ah)(hc:listed.toList.count Ah=fuel+1):(listed.setIfInBounds i Af).toList.count Ah=fuel:=by
 have hfi:listed.toList[i]? =Ad Ah:=by
  rw[Array.getD_eq_getD_getElem?,Array.getElem?_eq_getElem hi] at hun;simp at hun;simp[hi,hun]
 rw[Array.toList_setIfInBounds];have h1:=List.count_set (a:=Af) (b:=Ah) (l:=listed.toList) (i:=i) (by simpa using hi);have h2:listed.toList[i]'(by simpa using hi)=Ah:=by
  have:=List.getElem?_eq_some_iff.1 hfi;exact this.2
 rw[h1,h2,hc];rfl
theorem LL {ops:List Oper}{N:Nat}(hlt:∀i,i<Ae ops→∀e∈DH (ops.getD i default),e<i)
  (hch:∀i,N≤i→i<Ae ops→∀j,j<i→((Kh ops []).getD i 0).testBit j=Af):∀(k m:Nat) (listed:Array Bool) (a:Act) (w:World),m+k=Ae ops→N≤m→listed.size=Ae ops→
   (∀j,j<Ae ops→(listed.getD j Af=Af↔j<m))→(∀j o,ops[j]? =Ad o→listed.getD j Af=Af→∀e∈DH o,listed.getD e Af=Af)→wpList P ops.toArray Q (ops.drop m) a w→wpAny P .any ops.toArray Q k listed a w
 | 0,m,listed,a,w,hk,hN,hsz,hl,hcl,h=>by
  refine⟨?_,?_⟩
  ·cases hr:Region.ready .any ops.toArray listed with
   | nil=>rfl
   | cons i r=>
    obtain⟨h1,h2,_⟩:=JU hsz hlt (i:=i) (by rw[hr];simp);rw[(hl i h2).2 Ab] at h1;cases h1
  ·rw[List.drop_of_length_le Ab] at h;exact h
 | k+1,m,listed,a,w,hk,hN,hsz,hl,hcl,h=>by
  refine⟨λhr=>?_,λi hi=>?_⟩
  ·have:=(hl m Ab).1 (JA hsz hlt hr m Ab);omega
  ·obtain⟨h1,h2,o,ho,hb⟩:=JU hsz hlt hi;have him:i=m:=by
    have hmi : ¬ i<m:=λh'=>by rw[(hl i h2).2 h'] at h1;cases h1
    by_cases e:i=m
    ·exact e
    ·rcases Nv ho hb hcl m (hch i Ab h2 m Ab) with h3 | h3
     ·exact h3.symm
     ·have:=(hl m Ab).1 h3;omega
   subst him;have hd:ops.drop i=o::ops.drop (i+1):=by
    rw[List.drop_eq_getElem_cons h2]
    congr 1
    exact(List.getElem?_eq_some_iff.1 ho).2
   rw[hd] at h;have ih:∀a' w',wpList P ops.toArray Q (ops.drop (i+1)) a' w'→wpAny P .any ops.toArray Q k (listed.setIfInBounds i Af) a' w':=λa' w' h'=>by
    refine LL hlt hch k (i+1) _ a' w' Ab Ab (by simpa using hsz) (λj hj=>?_) (λj o' hj hlj e he=>?_) h'
    ·rw[Ma Ab,hl j hj];omega
    ·rw[Ma Ab] at hlj ⊢;rcases hlj with rfl | hlj
     ·rw[ho] at hj;simp at hj;subst hj;exact .inr (hb e he)
     ·exact .inr (hcl j o' hj hlj e he)
   unfold wpOp;have hoA:ops.toArray[i]? =Ad o:=by simpa using ho
   simp only[hoA];simp only[wpList] at h
   split
   ·rename_i hw'
    rw[AeX hw'] at h;exact h.imp (λh=>Oper.wp_mono ih h) (λh=>h)
   ·rename_i hw'
    rw[AeN hw'] at h;exact ih _ _ h
theorem OD {id N:Nat}(hm:P.follows .mixedOrders=Af)(hB:No ops N=Af)(hN:N≤Ae ops)(I:(Nat→Bool)→Act→World→Prop)
  (hext:∀S S' a w,(∀j,j<N→S j=S' j)→I S a w→I S' a w) {a:Act} {w:World} (h0:I (λ_=>Ah) a { w with drawn:=w.drawn+1 })
  (step:∀S i o a w,i<N→S i=Ah→ops[i]? =Ad o→(∀e∈DH o,e<i∧S e=Af)→I S a w→∀K:Act→World→Prop,(∀a' w',I (λj=>j ==i||S j) a' w'→K a' w')→
   (Region.wanted o (yielded ops.toArray a.tmps)=Af→o.wp P a w K Q)∧(Region.wanted o (yielded ops.toArray a.tmps)=Ah→K (a.put o.dst undef) w))
  (fin:∀a w,I (λ_=>Af) a w→wpList P ops.toArray Q (ops.drop N) a w):(Code.region id ops.toArray Af).wp P Q a w:=by
 simp only[No,Ae9,AeJ,List.mem_range,AeA,AeM] at hB;obtain⟨hlt,hch0⟩:=hB;have hch:∀i,N≤i→i<Ae ops→∀j,j<i→((Kh ops []).getD i 0).testBit j=Af:=λi h1 h2 j hj=>by
  rcases hch0 i h2 with h3 | h3
  ·omega
  ·exact h3 j hj
 refine wp_region_any hm ?_;have main:∀(fuel:Nat) (listed:Array Bool) (a:Act) (w:World),listed.size=Ae ops→listed.toList.count Ah=fuel→I (λj=>listed.getD j Af) a w→
   (∀j o,ops[j]? =Ad o→listed.getD j Af=Af→∀e∈DH o,listed.getD e Af=Af)→(∀j,N≤j→j<Ae ops→listed.getD j Af=Ah)→wpAny P .any ops.toArray Q fuel listed a w:=by
  intro fuel;have allin:∀(fuel:Nat) (listed:Array Bool) (a:Act) (w:World),listed.size=Ae ops→listed.toList.count Ah=fuel→I (λj=>listed.getD j Af) a w→
   (∀j o,ops[j]? =Ad o→listed.getD j Af=Af→∀e∈DH o,listed.getD e Af=Af)→(∀j,N≤j→j<Ae ops→listed.getD j Af=Ah)→(∀j,j<N→listed.getD j Af=Af)→wpAny P .any ops.toArray Q fuel listed a w:=by
   intro fuel listed a w hsz hc hI hcl hlast hall;have hl:∀j,j<Ae ops→(listed.getD j Af=Af↔j<N):=λj hj=>by
    constructor
    ·intro h
     by_cases hjN:j<N
     ·exact hjN
     ·rw[hlast j Ab hj] at h;cases h
    ·exact hall j
   have:=QL hsz hN hl;refine LL hlt hch fuel N listed a w Ab (AeG _) hsz hl hcl (fin a w (hext _ _ a w (λj hj=>hall j hj) hI))
  induction fuel with
  | zero=>
   intro listed a w hsz hc hI hcl hlast;refine allin 0 listed a w hsz hc hI hcl hlast (λj hj=>?_)
   cases hb:listed.getD j Af with
   | true=>rfl
   | false=>
    have:Ah∈listed.toList:=by
     rw[Array.getD_eq_getD_getElem?,Array.getElem?_eq_getElem Ab] at hb;simp at hb;rw[← hb];simp
    have:=List.count_pos_iff.2 this;omega
  | succ fuel ih=>
   intro listed a w hsz hc hI hcl hlast
   by_cases hall:∀j,j<N→listed.getD j Af=Af
   ·exact allin (fuel+1) listed a w hsz hc hI hcl hlast hall
   ·refine⟨λhr=>absurd (λj hj=>JA hsz hlt hr j Ab) hall,λi hi=>?_⟩;obtain⟨h1,h2,o,ho,hb⟩:=JU hsz hlt hi;have hiN:i<N:=by
     by_cases h:i<N
     ·exact h
     ·refine absurd (λj hj=>?_) hall;rcases Nv ho hb hcl j (hch i Ab h2 j Ab) with h3 | h3
      ·omega
      ·exact h3
    have K':∀a' w',I (λj=>j ==i||listed.getD j Af) a' w'→wpAny P .any ops.toArray Q fuel (listed.setIfInBounds i Af) a' w':=λa' w' hI'=>by
     refine ih _ a' w' (by simpa using hsz) (TH Ab h1 hc) (hext _ _ a' w' (λj hj=>?_) hI') (λj o' hj hlj e he=>?_) (λj h3 h4=>?_)
     ·have:=Ma (listed:=listed) (i:=i) (j:=j) Ab
      cases hq:(listed.setIfInBounds i Af).getD j Af with
      | true=>
       rw[hq] at this;rcases this.1 rfl with h | h
       ·simp[h]
       ·simp[h]
      | false=>
       rw[hq] at this;have h5 : ¬ (j=i∨listed.getD j Af=Af):=λh=>by have:=this.2 h;cases this
       cases hz:listed.getD j Af with
       | true=>exact absurd (.inr hz) h5
       | false=>
        have:j≠i:=λh=>h5 (.inl h);simp[this]
     ·rw[Ma Ab] at hlj ⊢;rcases hlj with rfl | hlj
      ·rw[ho] at hj;simp at hj;subst hj;exact .inr (hb e he)
      ·exact .inr (hcl j o' hj hlj e he)
     ·rw[getD_set_ne Af Ab];exact hlast j h3 h4
    obtain⟨k1,k2⟩:=step _ i o a w hiN h1 ho (λe he=>⟨hlt i h2 e (by rw[Ae2,ho];exact he),hb e he⟩) hI _ K';unfold wpOp;have hoA:ops.toArray[i]? =Ad o:=by simpa using ho
    simp only[hoA]
    split
    ·rename_i hw';exact .inl (k1 hw')
    ·rename_i hw';exact k2 (by simpa using hw')
 have e0:∀j,j<Ae ops→(Array.replicate (Ae ops) Ah).getD j Af=Ah:=λj hj=>by simp[hj]
 have hsz0:ops.toArray.size=Ae ops:=Aj
 rw[hsz0];refine main (Ae ops) (Array.replicate (Ae ops) Ah) a _ Aj Aj (hext _ _ _ _ (λj hj=>(e0 j Ab).symm) h0) (λj o hj hl=>?_) (λj _ h2=>e0 j h2);rw[e0 j (List.getElem?_eq_some_iff.1 hj).1] at hl;cases hl
end
structure Sa where
 deps:List Nat
 r:Rp
 al:Option (List Rp×TypeId):=Ai
 late:Option (Nat×List Rp):=Ai
 sto:Option Nat:=Ai
def GC (sp:List Sa)(i:Nat):Sa:=sp.getD i { deps:=[],r:=rv undef }
def V4 (sp:List Sa):List Sp:=sp.map λs=>⟨s.deps,s.r,0⟩
def KI (β:Nat→Nat)(s:Sa)(i:Nat):Rp:=match s.al with
 | none=>s.r
 | some _=>rv (.pointer (Ad ⟨β i,0,Ai⟩))
def LC (S:Nat→Bool)(late:Option (Nat×List Rp))(cs:List Rp):List Rp:=match late with
 | none=>cs
 | some q=>if S q.1 then q.2 else cs
def GU (S:Nat→Bool)(β:Nat→Nat):List Sa→Nat→List Ent
 | [],_=>[]
 | s::r,t=>match s.al with
  | some p=>if S t then .blk (β t) (LC S s.late p.1) p.2::GU S β r (t+1) else GU S β r (t+1)
  | none=>GU S β r (t+1)
def Uq (β:Nat→Nat):List Sa→Nat→List Ent
 | [],_=>[]
 | s::r,t=>match s.al with
  | some p=>.blk (β t) (match s.late with | none=>p.1 | some q=>q.2) p.2::Uq β r (t+1)
  | none=>Uq β r (t+1)
def I1 (β:Nat→Nat):List Oper→List Sa→Nat→Fr→Fr
 | o::os,s::sp,i,l=>match o.dst with
  | some d=>(d,KI β s i)::I1 β os sp (i+1) l
  | none=>I1 β os sp (i+1) l
 | _,_,_,l=>l
theorem Kg {S S':Nat→Bool}{late:Option (Nat×List Rp)}{cs:List Rp}(h:∀q,late=Ad q→S q.1=S' q.1):LC S late cs=LC S' late cs:=by
 unfold LC
 cases late with
 | none=>rfl
 | some q=>simp only[];rw[h q rfl]
theorem Gc (S:Nat→Bool)(β:Nat→Nat)(s:Sa)(r:List Sa)(t:Nat):GU S β (s::r) t=match s.al with
  | some p=>if S t then .blk (β t) (LC S s.late p.1) p.2::GU S β r (t+1) else GU S β r (t+1)
  | none=>GU S β r (t+1):=rfl
theorem Ha {S S':Nat→Bool}{β β':Nat→Nat}:∀(r:List Sa) (t0:Nat),(∀(t:Nat) (s:Sa),r[t]? =Ad s→s.al≠Ai→S (t0+t)=S' (t0+t)∧(S (t0+t)=Af→β (t0+t)=β' (t0+t)∧∀q,s.late=Ad q→S q.1=S' q.1))→GU S β r t0=GU S' β' r t0
 | [],_,_=>rfl
 | s::r,t0,h=>by
  have ih:=Ha r (t0+1) (λt s hs hn=>by
   have:=h (t+1) s (by simpa using hs) hn;rw[show t0+1+t=t0+(t+1) from Ab];exact this)
  unfold GU;rw[ih]
  cases ha:s.al with
  | none=>rfl
  | some p=>
   obtain⟨h1,h2⟩:=h 0 s rfl (by rw[ha];exact nofun);simp only[Nat.add_zero] at h1 h2;simp only[];rw[← h1]
   split
   ·rename_i hS;rw[(h2 hS).1,Kg (h2 hS).2]
   ·rfl
theorem QJ (β:Nat→Nat):∀(r:List Sa) (t0:Nat),GU (λ_=>Af) β r t0=Uq β r t0
 | [],_=>rfl
 | s::r,t0=>by
  unfold GU Uq;rw[QJ β r (t0+1)]
  cases s.al with
  | none=>rfl
  | some p=>cases hl:s.late<;>simp[LC,hl]
theorem Om (β:Nat→Nat):∀(r:List Sa) (t0:Nat),GU (λ_=>Ah) β r t0=[]
 | [],_=>rfl
 | s::r,t0=>by
  unfold GU;rw[Om β r (t0+1)]
  cases s.al<;>simp
theorem QI {S:Nat→Bool}{β:Nat→Nat}{i b:Nat}{p:List Rp×TypeId}:∀(r:List Sa) (t0 k:Nat) (s:Sa),i=t0+k→r[k]? =Ad s→s.al=Ad p→S i=Ah→(∀(t:Nat) (s:Sa) (q:Nat×List Rp),r[t]? =Ad s→s.al≠Ai→s.late=Ad q→q.1≠i)→(∀q,s.late=Ad q→S q.1=Ah∧q.1≠i)→
  (GU (λj=>j ==i||S j) (λj=>if j=i then b else β j) r t0).Perm (.blk b p.1 p.2::GU S β r t0)
 | [],_,_,_,_,h,_,_,_,_=>by simp at h
 | s'::r,t0,0,s,hi,h,ha,hS,hne,hl=>by
  simp at h hi;subst h;subst hi;have e:=Ha (S:=λj=>j ==i||S j) (S':=S) (β:=λj=>if j=i then b else β j) (β':=β) r (i+1) (λt s hs hn=>by
   have:i+1+t≠i:=Ab
   refine⟨by simp[this],λ_=>⟨by simp[this],λq hq=>?_⟩⟩;have:=hne (t+1) s q (by simpa using hs) hn hq;simp[this])
  have ec:LC (λj=>j ==i||S j) s'.late p.1=p.1:=by
   unfold LC
   cases hq:s'.late with
   | none=>rfl
   | some q=>
    obtain⟨h1,h2⟩:=hl q hq;simp[h1,h2]
  unfold GU;rw[e,ha];simp only[hS,BEq.rfl,AeW,if_true,ec];simp
 | s'::r,t0,k+1,s,hi,h,ha,hS,hne,hl=>by
  have ih:=QI (S:=S) (β:=β) (i:=i) (b:=b) (p:=p) r (t0+1) k s Ab (by simpa using h) ha hS (λt s q hs=>hne (t+1) s q (by simpa using hs)) hl;have hne0:t0≠i:=Ab
  have hne':(t0 ==i)=Ah:=by simpa using hne0
  unfold GU
  cases ha':s'.al with
  | none=>exact ih
  | some q=>
   simp only[hne',AeH,AeN hne0];rw[Kg (S:=λj=>j ==i||S j) (S':=S) (λq hq=>by
    have:=hne 0 s' q rfl (by rw[ha'];exact nofun) hq;simp[this])]
   cases hS':S t0 with
   | true=>simpa using(Ae6 _ ih).trans (List.Perm.swap _ _ _)
   | false=>simpa using ih
theorem QH {S:Nat→Bool}{β:Nat→Nat}{i j:Nat}{p:List Rp×TypeId}{ncs:List Rp}:∀(r:List Sa) (t0 k:Nat) (s:Sa),j=t0+k→r[k]? =Ad s→s.al=Ad p→s.late=Ad (i,ncs)→S j=Af→S i=Ah→(∀(t:Nat) (s:Sa) (q:Nat×List Rp),r[t]? =Ad s→s.al≠Ai→s.late=Ad q→t0+t≠j→q.1≠i)→(∀(t:Nat) (s:Sa),r[t]? =Ad s→s.al≠Ai→t0+t≠i)→
  ∃H',(GU S β r t0).Perm (.blk (β j) p.1 p.2::H')∧(GU (λj=>j ==i||S j) β r t0).Perm (.blk (β j) ncs p.2::H')
 | [],_,_,_,_,h,_,_,_,_,_,_=>by simp at h
 | s'::r,t0,0,s,hj,h,ha,hl,hSj,hSi,hne,hni=>by
  simp at h hj;subst h;subst hj;have e:=Ha (S:=λx=>x ==i||S x) (S':=S) (β:=β) (β':=β) r (j+1) (λt s hs hn=>by
   have h1:=hni (t+1) s (by simpa using hs) hn;have h1':j+1+t≠i:=Ab
   refine⟨by simp[h1'],λ_=>⟨rfl,λq hq=>?_⟩⟩;have:=hne (t+1) s q (by simpa using hs) hn hq Ab;simp[this])
  refine⟨GU S β r (j+1),?_,?_⟩
  ·rw[Gc];rw[ha];simp[hSj,LC,hl,hSi]
  ·rw[Gc];rw[ha,e];simp[hSj,LC,hl]
 | s'::r,t0,k+1,s,hj,h,ha,hl,hSj,hSi,hne,hni=>by
  obtain⟨H',h1,h2⟩:=QH (S:=S) (β:=β) (i:=i) (j:=j) (p:=p) (ncs:=ncs) r (t0+1) k s Ab (by simpa using h) ha hl hSj hSi (λt s q hs hn hq hx=>hne (t+1) s q (by simpa using hs) hn hq Ab) (λt s hs hn=>by
   have:=hni (t+1) s (by simpa using hs) hn;omega)
  cases ha':s'.al with
  | none=>exact⟨H',by rw[Gc,ha'];exact h1,by rw[Gc,ha'];exact h2⟩
  | some q=>
   have hi0:=hni 0 s' rfl (by rw[ha'];exact nofun);have hi0':(t0 ==i)=Ah:=by simpa using hi0
   have ec:LC (λx=>x ==i||S x) s'.late q.1=LC S s'.late q.1:=Kg (λq hq=>by
    have:=hne 0 s' q rfl (by rw[ha'];exact nofun) hq Ab;simp[this])
   cases hS':S t0 with
   | true=>
    refine⟨.blk (β t0) (LC S s'.late q.1) q.2::H',?_,?_⟩
    ·rw[Gc];rw[ha'];simpa[hS'] using(Ae6 _ h1).trans (List.Perm.swap _ _ _)
    ·rw[Gc];rw[ha'];simp only[hi0',AeH,hS',if_true,ec];exact(Ae6 _ h2).trans (List.Perm.swap _ _ _)
   | false=>
    refine⟨H',?_,?_⟩
    ·rw[Gc];rw[ha'];simpa[hS'] using h1
    ·rw[Gc];rw[ha'];simp only[hi0',AeH,hS'];simpa using h2
def okA (n:Nat)(ops:List Oper)(N:Nat)(keys:List Nat)(deps:List (List Nat))(als:List Bool)(lates stos:List (Option Nat)):Bool:=
 No ops N&&Ac (N≤Ae ops)&&
 (As N).all (λi=>match CD ops i with
  | some d=>Ac (d<n)&&!keys.contains d&&(As N).all (λj=>j ==i||CD ops j !=Ad d)
  | none=>Af)&&
 (As N).all (λi=>(deps.getD i []).all (λj=>Ac (j<N)&&(DH (ops.getD i default)).contains j&&!als.getD j Af))&&
 (As N).all (λi=>match stos.getD i Ai with
  | some j=>Ac (j<N)&&(DH (ops.getD i default)).contains j&&als.getD j Ah&&!als.getD i Af
  | none=>Af)&&
 (As N).all (λj=>match lates.getD j Ai with
  | some k=>Ac (k<N)&&als.getD j Ah&&stos.getD k Ai ==Ad j
  | none=>Af)
def Xu (P:Program)(n:Nat)(c:Cx)(opsA:Array Oper)(Q:Exit→Act→World→Prop)(l:Fr)(o:Oper)(p:List Rp×TypeId):Prop:=
 ∀H a w Z (K:Act→World→Prop),DU n l a Z→St c H Z w→(∀b w',St c (.blk b p.1 p.2::H) Z w'→K (a.put o.dst (.pointer (Ad ⟨b,0,Ai⟩))) w')→
  Region.wanted o (yielded opsA a.tmps)=Af∧o.wp P a w K Q
def ObA (P:Program)(n:Nat)(c:Cx)(opsA:Array Oper)(Q:Exit→Act→World→Prop)(ops:List Oper)(sp:List Sa)(l0:Fr)(H:List Ent)(i:Nat)(o:Oper):Prop:=
 match (GC sp i).sto with
 | some j=>o.dst=Ai∧∃d p ncs,CD ops j=Ad d∧(GC sp j).al=Ad p∧(GC sp j).late=Ad (i,ncs)∧
   ∀b H,Ef P n c opsA Q ((d,rv (.pointer (Ad ⟨b,0,Ai⟩)))::CA ops (V4 sp) (GC sp i).deps l0) (.blk b p.1 p.2::H) o (rv undef) (.blk b ncs p.2::H)
 | none=>match (GC sp i).al with
  | none=>∀E,Ef P n c opsA Q (CA ops (V4 sp) (GC sp i).deps l0) (H++E) o (GC sp i).r (H++E)
  | some p=>Xu P n c opsA Q (CA ops (V4 sp) (GC sp i).deps l0) o p
def Kw (P:Program)(n:Nat)(c:Cx)(opsA:Array Oper)(Q:Exit→Act→World→Prop)(ops:List Oper)(sp:List Sa)(l0:Fr)(H:List Ent):Nat→List Oper→Prop
 | i,o::rest=>ObA P n c opsA Q ops sp l0 H i o∧Kw P n c opsA Q ops sp l0 H (i+1) rest
 | _,[]=>True
section
variable {P : Program} {n : Nat} {c : Cx} {opsA : Array Oper} {Q : Exit → Act → World → Prop} {l l0 : Fr} {H : List Ent} {sp : List Sa}
theorem Kw.at {ops:List Oper}:∀{k:Nat} {rest:List Oper},Kw P n c opsA Q ops sp l0 H k rest→∀(t:Nat) o,rest[t]? =Ad o→ObA P n c opsA Q ops sp l0 H (k+t) o
 | k,o::rest,⟨h1,h2⟩,t,o',ht=>by
  cases t with
  | zero=>simp at ht;subst ht;exact h1
  | succ t=>
   have:=Kw.at h2 t o' (by simpa using ht);rw[show k+(t+1)=k+1+t from Ab];exact this
 | _,[],_,t,o,h=>by simp at h
theorem Lf {β:Nat→Nat}{a:Act}{Z:Fz}(h0:DU n l0 a Z):∀(os:List Oper) (ss:List Sa) (k:Nat),(∀(t:Nat) o s d,os[t]? =Ad o→ss[t]? =Ad s→o.dst=Ad d→∃v,a.tmps[d]? =Ad v∧(KI β s (k+t)).p Z v)→DU n (I1 β os ss k l0) a Z
 | [],_,_,_=>by unfold I1;exact h0
 | _::_,[],_,_=>by unfold I1;exact h0
 | o::os,s::ss,k,h=>by
  have ih:=Lf h0 os ss (k+1) (λt o' s' d h1 h2 h3=>by
   have:=h (t+1) o' s' d (by simpa using h1) (by simpa using h2) h3;rw[show k+1+t=k+(t+1) from Ab];exact this)
  unfold I1
  cases hd:o.dst with
  | none=>exact ih
  | some d=>
   refine⟨ih.size,ih.defers,λi r hi=>?_⟩;rw[Ds] at hi
   split at hi
   ·rename_i e;subst e;simp at hi;subst hi;exact h 0 o s d rfl rfl hd
   ·exact ih.tm i r hi
theorem ZN {id:Nat}(N:Nat)(sp:List Sa)(hm:P.follows .mixedOrders=Af)(hB:okA n ops N (Es l0) (sp.map (·.deps)) (sp.map (·.al.isSome)) (sp.map (·.late.map (·.1))) (sp.map (·.sto))=Af)(hl0:ND l0 l)(hsp:Ae sp=N)
  (hob:Kw P n c ops.toArray Q ops sp l0 H 0 (ops.take N)) (h:∀β,WL P n c ops.toArray Q (ops.drop N) (I1 β (ops.take N) sp 0 l0) (H++Uq β sp 0)):WC P n c (.region id ops.toArray Af) Q l H:=by
 intro a w Z ha hw;simp only[okA,Ae9,AeJ,List.mem_range,AeA] at hB;obtain⟨⟨⟨⟨⟨b1,bN⟩,b2⟩,b3⟩,b4⟩,b5⟩:=hB;have hget:∀i,i<N→(ops.take N)[i]? =ops[i]?:=λi hi=>by rw[AeF,AeX hi]
 have hsa:∀i,i<N→sp[i]? =Ad (GC sp i):=λi hi=>by
  simp[GC,Ae2,Ae3 (show i<Ae sp by omega)]
 have hspq:∀i,i<N→(E4 (V4 sp) i)=⟨(GC sp i).deps,(GC sp i).r,0⟩:=λi hi=>by
  simp[E4,V4,Ae2,AeC,hsa i hi]
 have hals:∀j b,j<N→(sp.map (·.al.isSome)).getD j b=(GC sp j).al.isSome:=λj b hj=>by simp[Ae2,AeC,hsa j hj]
 have hstos:∀j,j<N→(sp.map (·.sto)).getD j Ai=(GC sp j).sto:=λj hj=>by simp[Ae2,AeC,hsa j hj]
 have hlates:∀j,j<N→(sp.map (·.late.map (·.1))).getD j Ai=(GC sp j).late.map (·.1):=λj hj=>by simp[Ae2,AeC,hsa j hj]
 have S1:∀i o j,i<N→ops[i]? =Ad o→(GC sp i).sto=Ad j→j<N∧j∈DH o∧(GC sp j).al≠Ai∧(GC sp i).al=Ai:=λi o j hi ho hs=>by
  have h1:=b4 i hi;rw[hstos i hi,hs] at h1;simp only[Ae9,AeU,AeA] at h1;obtain⟨⟨⟨h2,h3⟩,h4⟩,h5⟩:=h1;rw[hals j _ h2] at h4;rw[hals i _ hi] at h5;rw[Ae2,ho,AeE,List.contains_iff_mem] at h3;exact⟨h2,h3,λe=>(by rw[e] at h4;cases h4),(by simpa using h5)⟩
 have L1:∀t q,t<N→(GC sp t).late=Ad q→q.1<N∧(GC sp q.1).sto=Ad t:=λt q ht hq=>by
  have h1:=b5 t ht;rw[hlates t ht,hq] at h1;simp only[Option.map_some,Ae9,AeA,beq_iff_eq] at h1;obtain⟨⟨h2,h3⟩,h4⟩:=h1;rw[hstos _ h2] at h4;exact⟨h2,h4⟩
 have hops:∀j,j<N→∃o,ops[j]? =Ad o:=λj hj=>⟨ops[j]'(Ab),Ae3 Ab⟩
 have lt_of:∀(t:Nat) (s:Sa),sp[t]? =Ad s→t<N∧s=GC sp t:=λt s hs=>by
  have h1:t<N:=by have:=(List.getElem?_eq_some_iff.1 hs).1;omega
  refine⟨h1,?_⟩;rw[hsa t h1] at hs;simpa using hs.symm
 have hdst:∀i o d,i<N→ops[i]? =Ad o→o.dst=Ad d→(d<n∧d ∉ Es l0)∧∀j,j<N→j≠i→CD ops j≠Ad d:=λi o d hi ho hd=>by
  have h3:=b2 i hi;have:CD ops i=Ad d:=by simp[CD,ho,hd]
  rw[this] at h3;simp only[Ae9,AeU,AeJ,List.mem_range,AeA] at h3;refine⟨⟨h3.1.1,λhmem=>by rw[← List.contains_iff_mem] at hmem;rw[hmem] at h3;cases h3.1.2⟩,λj hj hne he=>?_⟩;have:=h3.2 j hj;simp[hne,he] at this
 refine OD (N:=N) hm b1 bN (λS a w=>∃ (β:Nat→Nat) (Z:Fz),St c (H++GU S β sp 0) Z w∧DU n l0 a Z∧(∀j o d,j<N→S j=Af→ops[j]? =Ad o→o.dst=Ad d→∃v,a.tmps[d]? =Ad v∧(KI β (GC sp j) j).p Z v)∧
   ∀k j,k<N→(GC sp k).sto=Ad j→S k=Af→S j=Af)
  (λS S' a w hS hI=>?_) ⟨λ_=>0,Z,?_,ha.subL hl0,λj o d _ hS=>(by cases hS),λk j _ _ hS=>(by cases hS)⟩ (λS i o a w hi hun ho hb hI K hK=>?_) (λa w hI=>?_)
 ·obtain⟨β,Z,h1,h2,h3,h4⟩:=hI;refine⟨β,Z,?_,h2,λj o d hj hS'=>h3 j o d hj (by rw[hS j hj];exact hS'),λk j hk hs hSk=>?_⟩
  ·rw[← Ha (S:=S) (β:=β) (β':=β) sp 0 (λt s hs _=>by
    obtain⟨ht,rfl⟩:=lt_of t s hs;exact⟨hS _ Ab,λ_=>⟨rfl,λq hq=>hS _ (L1 t q ht hq).1⟩⟩)]
   exact h1
  ·obtain⟨o,ho⟩:=hops k hk;rw[← hS j (S1 k o j hk ho hs).1];exact h4 k j hk hs (by rw[hS k hk];exact hSk)
 ·rw[Om,List.append_nil];exact hw.drawn _
 ·obtain⟨β,Z,h1,h2,h3,hx⟩:=hI;have hput:∀k u v,a.tmps[k]? =Ad u→o.dst≠Ad k→(a.put o.dst v).tmps[k]? =Ad u:=λk u v hk hne=>by
   cases hd:o.dst with
   | none=>simpa[Act.put] using hk
   | some d=>
    simp only[Act.put,Array.getElem?_setIfInBounds];rw[AeN (λe=>hne (by rw[hd,e]))];exact hk
  have hagr:∀v Z',Fz.le Z Z'→DU n l0 (a.put o.dst v) Z':=λv Z' hz=>by
   refine⟨?_,?_,λk r hk=>?_⟩
   ·cases o.dst<;>simp[Act.put,h2.size]
   ·cases o.dst<;>simp[Act.put,h2.defers]
   ·obtain⟨u,hu,hpu⟩:=h2.tm k r hk;exact⟨u,hput k u v hu (λe=>((hdst i o k hi ho e).1).2 (HJ hk)),r.mono hz hpu⟩
  have hvals:∀(v:Value) (Z':Fz) (β':Nat→Nat),Fz.le Z Z'→(∀j,j≠i→β' j=β j)→(o.dst≠Ai→(KI β' (GC sp i) i).p Z' v)→∀j o' d,j<N→(j ==i||S j)=Af→ops[j]? =Ad o'→o'.dst=Ad d→∃u,(a.put o.dst v).tmps[d]? =Ad u∧(KI β' (GC sp j) j).p Z' u:=by
   intro v Z' β' hz hβ hp j o' d hj hS' ho' hd
   by_cases hji:j=i
   ·subst hji;rw[ho] at ho';simp at ho';subst ho';refine⟨v,?_,hp (by simp[hd])⟩;have hdn:d<a.tmps.size:=by rw[h2.size];exact(hdst j o d hi ho hd).1.1
    simp[Act.put,hd,hdn]
   ·have hSj:S j=Af:=by simpa[hji] using hS'
    obtain⟨u,hu,hpu⟩:=h3 j o' d hj hSj ho' hd;refine⟨u,hput d u v hu (λe=>(hdst i o d hi ho e).2 j hj hji (by simp[CD,ho',hd])),?_⟩;have:KI β' (GC sp j) j=KI β (GC sp j) j:=by unfold KI;rw[hβ j hji]
    rw[this];exact(KI β (GC sp j) j).mono hz hpu
  have hx':∀k j,k<N→(GC sp k).sto=Ad j→(k ==i||S k)=Af→(j ==i||S j)=Af:=λk j hk hs hSk=>by
   by_cases hki:k=i
   ·subst hki;have:=(hb j (S1 k o j hk ho hs).2.1).2;simp[this]
   ·have:S j=Af:=hx k j hk hs (by simpa[hki] using hSk);simp[this]
  have hat:=hob.at i o (by rw[hget i hi];exact ho);rw[AeK] at hat;unfold ObA at hat;have hag':DU n (CA ops (V4 sp) (GC sp i).deps l0) a Z:=Iq h2 (λj hj d hd=>by
    have h4:=b3 i hi j (by simpa[Ae2,AeC,hsa i hi] using hj);simp only[Ae9,AeU,AeA] at h4;obtain⟨⟨h5,h6⟩,h7⟩:=h4;rw[Ae2,ho,AeE,List.contains_iff_mem] at h6;have hjal:(GC sp j).al=Ai:=by
     rw[hals j _ h5] at h7;simpa using h7
    obtain⟨o2,ho2⟩:=hops j h5;obtain⟨v,hv1,hv2⟩:=h3 j o2 d h5 (hb j h6).2 ho2 (by simpa[CD,ho2] using hd);refine⟨v,hv1,?_⟩;rw[hspq j h5];simpa[KI,hjal] using hv2)
  cases hst:(GC sp i).sto with
  | some j=>
   rw[hst] at hat;obtain⟨hod,d,p,ncs,hd,hal,hlate,hok⟩:=hat;obtain⟨hjN,hjb,_,hial⟩:=S1 i o j hi ho hst;have hSj:=(hb j hjb).2;obtain⟨H',p1,p2⟩:=QH (S:=S) (β:=β) (i:=i) (j:=j) (p:=p) (ncs:=ncs) sp 0 j (GC sp j) Ab (hsa j hjN) hal hlate hSj hun (λt s q hs _ hq hne he=>by
     obtain⟨ht,rfl⟩:=lt_of t s hs;have:=(L1 t q ht hq).2;rw[he,hst] at this;simp at this;omega) (λt s hs hn he=>by
     obtain⟨ht,rfl⟩:=lt_of t s hs;rw[AeK] at he;subst he;exact hn hial)
   obtain⟨o2,ho2⟩:=hops j hjN;obtain⟨v,hv1,hv2⟩:=h3 j o2 d hjN hSj ho2 (by simpa[CD,ho2] using hd);have hag2:DU n ((d,rv (.pointer (Ad ⟨β j,0,Ai⟩)))::CA ops (V4 sp) (GC sp i).deps l0) a Z:=⟨hag'.size,hag'.defers,λk r hk=>by
    rw[Ds] at hk
    split at hk
    ·rename_i e;subst e;simp at hk;subst hk
     exact⟨v,hv1,by simpa[KI,hal] using hv2⟩
    ·exact hag'.tm k r hk⟩
   refine hok (β j) (H++H') a w Z K hag2 (h1.perm ((List.Perm.append_left H p1).trans List.perm_middle)) (λv w' Z' hz _ hs'=>hK _ _ ⟨β,Z',?_,hagr v Z' hz,hvals v Z' β hz (λ_ _=>rfl) (λhne=>absurd hod hne),hx'⟩);exact hs'.perm (List.perm_middle.symm.trans (List.Perm.append_left H p2.symm))
  | none=>
   rw[hst] at hat;have latene:∀t q,t<N→(GC sp t).late=Ad q→q.1≠i:=λt q ht hq he=>by
    have:=(L1 t q ht hq).2;rw[he,hst] at this;cases this
   cases hal:(GC sp i).al with
   | none=>
    rw[hal] at hat;refine hat _ a w Z K hag' h1 (λv w' Z' hz hp hst'=>hK _ _ ⟨β,Z',?_,hagr v Z' hz,hvals v Z' β hz (λ_ _=>rfl) (λ_=>by unfold KI;rw[hal];exact hp),hx'⟩);rw[Ha (S':=S) (β':=β) sp 0 (λt s hs hn=>by
     obtain⟨ht,rfl⟩:=lt_of t s hs;have:t≠i:=λe=>by subst e;exact hn hal
     refine⟨by simp[this],λ_=>⟨rfl,λq hq=>?_⟩⟩;have:=latene t q ht hq;simp[this])]
    exact hst'
   | some p=>
    rw[hal] at hat;have key:=λK' hK'=>hat (H++GU S β sp 0) a w Z K' hag' h1 hK';have h5:∀b w',St c (.blk b p.1 p.2::(H++GU S β sp 0)) Z w'→K (a.put o.dst (.pointer (Ad ⟨b,0,Ai⟩))) w':=λb w' hst'=>by
     refine hK _ _ ⟨λj=>if j=i then b else β j,Z,?_,hagr _ Z (Fz.le.refl _),hvals _ Z _ (Fz.le.refl _) (λj hj=>by simp[hj]) (λ_=>by simp[KI,hal,rv]),hx'⟩;have hp:=QI (S:=S) (β:=β) (i:=i) (b:=b) (p:=p) sp 0 i (GC sp i) Ab (hsa i hi) hal hun (λt s q hs _ hq=>by
      obtain⟨ht,rfl⟩:=lt_of t s hs;exact latene t q ht hq) (λq hq=>by
       refine⟨?_,latene i q hi hq⟩
       cases hS:S q.1 with
       | false=>rfl
       | true=>
        obtain⟨h6,h7⟩:=L1 i q hi hq;have:=hx q.1 i h6 h7 hS;rw[this] at hun;cases hun)
     exact hst'.perm ((List.perm_middle.symm).trans (List.Perm.append_left H hp.symm))
    refine⟨λ_=>(key K h5).2,λhw'=>?_⟩;rw[(key K h5).1] at hw';cases hw'
 ·obtain⟨β,Z,h1,h2,h3,_⟩:=hI;refine h β a w Z (Lf h2 _ _ 0 (λt o s d ht hs hd=>?_)) (by rw[← QJ];exact h1);obtain⟨htN,rfl⟩:=lt_of t s hs;rw[AeK];exact h3 t o d htN rfl (by rw[← hget t htN];exact ht) hd
end
theorem To {l:Fr}{P:Program}{n:Nat}{c:Cx}{opsA:Array Oper}{d:Nat}{e ty:TypeId}{z:Value}{cs:List Rp}(hz:∀w,(zeroValue e).run P w = .ok z w)(hcs:z.cells.toList.map rv=cs) :
  Xu P n c opsA Q l { dst:=Ad d,op:=.alloc e,type:=ty,pos:=pos,after:=af,guard:=Ai } (cs,e):=λH a w Z K _ hw hK=>by
 refine⟨by simp[Region.wanted],?_⟩;unfold Oper.wp;rw[show(execOp a.eval { dst:=Ad d,op:=.alloc e,type:=ty,pos:=pos,after:=af,guard:=Ai }).run P w = .ok (.value (.pointer (Ad ⟨w.heap.size,0,Ai⟩))) (w.alloc (.cells z.cells e)) from by simp[execOp,Instr.alloc,hz,newVar,newRow,newObj,Sem.run,Sem.run_bind]];exact hK _ _ (hw.alloc _ (e:=.blk w.heap.size cs e) ⟨z.cells.toList,by simpa using heap_alloc_new w _,by subst hcs;exact BH.rvs Z _⟩ rfl)
section
variable {P : Program} {n : Nat} {c : Cx} {opsA : Array Oper} {Q : Exit → Act → World → Prop} {l l0 : Fr} {H : List Ent} {sp : List Sa}
theorem Ey {id:Nat}(N:Nat)(ks0:List Nat)(sp:List Sa)(hob:Kw P n c ops.toArray Q ops sp l0 H 0 (ops.take N))(h:∀β,WL P n c ops.toArray Q (ops.drop N) (I1 β (ops.take N) sp 0 l0) (H++Uq β sp 0))
  (h0:Kp ks0 l l0:=by repeat (first | exact JY | (apply Iy;rfl) | (apply Jx;rfl))) (hm:P.follows .mixedOrders=Af:=by kernel_rfl) (hB:okA n ops N (Es l0) (sp.map (·.deps)) (sp.map (·.al.isSome)) (sp.map (·.late.map (·.1))) (sp.map (·.sto))=Af:=by kernel_rfl)
  (hsp:Ae sp=N:=by rfl):WC P n c (.region id ops.toArray Af) Q l H:=ZN N sp hm hB h0.one hsp hob h
theorem EK {d:Nat}{op:Op}{ty:TypeId}
  (hr:∀{H},Cd P n c (CA all (V4 sp) (GC sp i).deps l0) H { dst:=Ad d,op:=op,type:=ty,pos:=pos,after:=af,guard:=Ai } (GC sp i).r) (h:Kw P n c opsA Q all sp l0 H (i+1) rest) (ha:(GC sp i).al=Ai:=by rfl) (hs:(GC sp i).sto=Ai:=by rfl) :
  Kw P n c opsA Q all sp l0 H i ({ dst:=Ad d,op:=op,type:=ty,pos:=pos,after:=af,guard:=Ai }::rest):=by
 refine⟨?_,h⟩;unfold ObA;rw[hs,ha];exact λ_=>C6 hr
theorem IE {d:Nat}{op:Op}{ty:TypeId}
  (hr:∀{E},Cd P n c (CA all (V4 sp) (GC sp i).deps l0) (H++E) { dst:=Ad d,op:=op,type:=ty,pos:=pos,after:=af,guard:=Ai } (GC sp i).r) (h:Kw P n c opsA Q all sp l0 H (i+1) rest) (ha:(GC sp i).al=Ai:=by rfl) (hs:(GC sp i).sto=Ai:=by rfl) :
  Kw P n c opsA Q all sp l0 H i ({ dst:=Ad d,op:=op,type:=ty,pos:=pos,after:=af,guard:=Ai }::rest):=by
 refine⟨?_,h⟩;unfold ObA;rw[hs,ha];exact λ_=>C6 hr
theorem oal {o:Oper}{p:List Rp×TypeId}(hr:Xu P n c opsA Q (CA all (V4 sp) (GC sp i).deps l0) o p)(h:Kw P n c opsA Q all sp l0 H (i+1) rest)(ha:(GC sp i).al=Ad p:=by rfl)(hs:(GC sp i).sto=Ai:=by rfl):Kw P n c opsA Q all sp l0 H i (o::rest):=by
 refine⟨?_,h⟩;unfold ObA;rw[hs,ha];exact hr
theorem R4:Kw P n c opsA Q all sp l0 H i []:=trivial
end
structure Kza (ks:List Nat) (β:Nat→Nat) (os:List Oper) (sp:List Sa) (i:Nat) (l0 l1:Fr):Prop where
 go:Kp ks (I1 β os sp i l0) l1
section
variable {ks : List Nat} {β : Nat → Nat} {os : List Oper} {sp : List Sa} {i d : Nat} {l0 l1 : Fr} {ds : List Nat} {r : Rp} {p : List Rp × TypeId} {lt : Option (Nat × List Rp)} {so : Option Nat} {op : Op} {ty : TypeId} {pos : String} {af : Array Edge} {g : Option (Nat × Bool)}
theorem Zx (h:ks.contains d=Af)(t:Kza ks β os sp (i+1) l0 l1):Kza ks β ({ dst:=Ad d,op:=op,type:=ty,pos:=pos,after:=af,guard:=g }::os) ({ deps:=ds,r:=r,sto:=so }::sp) i l0 ((d,r)::l1):=⟨Iy h t.go⟩
theorem Zy (h:ks.contains d=Af)(t:Kza ks β os sp (i+1) l0 l1):Kza ks β ({ dst:=Ad d,op:=op,type:=ty,pos:=pos,after:=af,guard:=g }::os) ({ deps:=ds,r:=r,al:=Ad p,late:=lt,sto:=so }::sp) i l0 ((d,rv (.pointer (Ad ⟨β i,0,Ai⟩)))::l1):=⟨Iy h t.go⟩
theorem Zz (t:Kp ks l0 l1):Kza ks β [] [] i l0 l1:=⟨t⟩
theorem ZM {P:Program}{n:Nat}{c:Cx}{opsA:Array Oper}{H H1:List Ent}(ks:List Nat)(h:WL P n c opsA Q rest l1 H1)
  (hz:Kza ks β os sp i l0 l1:=by repeat (first | (apply Zx;rfl) | (apply Zy;rfl) | (apply kza_d;rfl) | apply kza_u | apply Zz | exact JY | (apply Iy;rfl) | (apply Jx;rfl))) (hH:H=H1:=by rfl) :
  WL P n c opsA Q rest (I1 β os sp i l0) H:=λa w Z ha hw=>h a w Z (ha.subL hz.go.one) (hH▸hw)
end
section
variable {P : Program} {n : Nat} {c : Cx} {opsA : Array Oper} {Q : Exit → Act → World → Prop} {l l0 : Fr} {H : List Ent} {sp : List Sa}
theorem oac {o:Oper}(hr:∀{E},Ef P n c opsA Q (CA all (V4 sp) (GC sp i).deps l0) (H++E) o (GC sp i).r (H++E))(h:Kw P n c opsA Q all sp l0 H (i+1) rest)(ha:(GC sp i).al=Ai:=by rfl)(hs:(GC sp i).sto=Ai:=by rfl):Kw P n c opsA Q all sp l0 H i (o::rest):=by
 refine⟨?_,h⟩;unfold ObA;rw[hs,ha];exact λ_=>hr
end
end
section
variable [I : Dfr]
def rBx (p:Bool→Prop):Rp:=⟨λ_ v=>∃b,v = .bool b∧p b,λ_ h=>h,Af,λ_ Z v ⟨b,e,_⟩=>by rw[e];rfl⟩
section
variable {P : Program} {n : Nat} {c : Cx} {ops : Array Oper} {Q : Exit → Act → World → Prop} {rest : List Oper} {l : Fr} {H : List Ent} {d : Option Nat} {ty rty t e : TypeId} {pos : String} {af : Array Edge} {g : Option (Nat × Bool)} {r : Rp} {x : Operand} {cx cy : Code} {sz : Nat} {xs : List (List Rp)}
theorem MA {o:Operand}{p:Bool→Prop}(ho:ev l o=Ad (rBx p))(h1:p Af→WC P n c cx Q l H)(h2:p Ah→WC P n c cy Q l H):WC P n c (.cond o cx cy) Q l H:=λa w Z ha hw=>by
 obtain⟨b,e,hp⟩:=ha.ev ho;exact wp_cond_split e (λe=>h1 (e▸hp) a w Z ha hw) (λe=>h2 (e▸hp) a w Z ha hw)
theorem Oa (ht:P.underlying t=Ad (.slice e))(h:ev l x=Ad (B3 sz xs)):Cd P n c l H { dst:=d,op:=.binOp .eql t x (.const (.slice Ai 0 0)) rty,type:=ty,pos:=pos,after:=af,guard:=g } (rBx (λb=>b=Af→xs=[])):=λa w Z ha hw=>by
 obtain⟨A,cap,e1,h1,h2,h3,h4⟩:=ha.ev h;refine⟨.bool A.isNone,⟨_,rfl,λhb=>?_⟩,?_⟩
 ·cases A with
  | some a=>cases hb
  | none=>
   have:=h3 rfl;exact List.length_eq_zero_iff.1 Ab
 ·have:=run_equal_slice_nil (P:=P) w t e A (Ae xs) cap ht;have e2:a.eval (.const (.slice Ai 0 0)) = .slice Ai 0 0:=rfl;simp[execOp,e1,e2,binOp,this,eqGuard]
end
end
section
variable [I : Dfr]
section
variable {P : Program} {n : Nat} {c : Cx} {l : Fr} {H : List Ent} {d : Option Nat} {ty rty t e : TypeId} {pos : String} {af : Array Edge} {g : Option (Nat × Bool)} {x : Operand} {sz : Nat}
end
end
end Go.Proofs.YtoegakndmanfoaaGreatDoor.Q
namespace Go.Proofs.YtoegakndmanfoaaGreatDoor
open Go
set_option linter.unusedVariables false
set_option linter.unusedSimpArgs false
section
variable {T S : Type}
def GP:List (AE×T)→AE→Option T
 | [],_=>Ai
 | p::r,k=>bif Ac (p.1=k) then Ad p.2 else GP r k
def N7 (xs:List (AE×T))(k:AE)(z:T):T:=(GP xs k).getD z
def IH (xs:List (AE×T))(k:AE):Bool:=(GP xs k).isSome
def Q2 (k:AE)(v:T):List (AE×T)→List (AE×T)
 | []=>[(k,v)]
 | p::r=>bif MN k p.1 then(k,v)::p::r else p::Q2 k v r
def L4 (xs:List (AE×T))(k:AE)(v:T):List (AE×T):=xs.map λp=>bif Ac (p.1=k) then(k,v) else p
def CB (xs:List (AE×T))(k:AE)(v:T):List (AE×T):=bif IH xs k then L4 xs k v else Q2 k v xs
def KO (xs:List (AE×T))(k:AE):List (AE×T):=xs.filter λp=>!Ac (p.1=k)
def Dg (f:T→S)(xs:List (AE×T)):List (AE×S):=xs.map λp=>(p.1,f p.2)
theorem KN (f:T→S):∀(xs:List (AE×T)) (k:AE),GP (Dg f xs) k=(GP xs k).map f
 | [],k=>rfl
 | p::r,k=>by
  show(bif Ac (p.1=k) then Ad (f p.2) else GP (Dg f r) k)=_;rw[GP,KN f r k]
  cases Ac (p.1=k)<;>rfl
theorem VX (f:T→S)(xs:List (AE×T))(k:AE):IH (Dg f xs) k=IH xs k:=by
 unfold IH;rw[KN];cases GP xs k<;>rfl
theorem Q1 (f:T→S)(k:AE)(v:T):∀xs:List (AE×T),Dg f (Q2 k v xs)=Q2 k (f v) (Dg f xs)
 | []=>rfl
 | p::r=>by
  show Dg f (bif MN k p.1 then(k,v)::p::r else p::Q2 k v r)=(bif MN k p.1 then(k,f v)::(p.1,f p.2)::Dg f r else(p.1,f p.2)::Q2 k (f v) (Dg f r));rw[← Q1 f k v r]
  cases MN k p.1<;>rfl
theorem VW (f:T→S)(xs:List (AE×T))(k:AE)(v:T):Dg f (CB xs k v)=CB (Dg f xs) k (f v):=by
 unfold CB;rw[VX]
 cases IH xs k with
 | false=>exact Q1 f k v xs
 | true=>
  show Dg f (L4 xs k v)=L4 (Dg f xs) k (f v);unfold Dg L4;rw[AeV,AeV];refine List.map_congr_left λp _=>?_;show _=(bif Ac (p.1=k) then(k,f v) else(p.1,f p.2));simp only[Function.comp]
  cases Ac (p.1=k)<;>rfl
theorem VY (f:T→S)(xs:List (AE×T))(k:AE):Dg f (KO xs k)=KO (Dg f xs) k:=by
 unfold Dg KO;rw[List.filter_map];rfl
theorem Oe (k:AE)(v:T):∀xs:List (AE×T),(Q2 k v xs).Perm ((k,v)::xs)
 | []=>Ae5 _
 | p::r=>by
  rw[Q2]
  cases MN k p.1 with
  | true=>exact Ae5 _
  | false=>exact((Oe k v r).cons p).trans (List.Perm.swap _ _ _)
end
end Go.Proofs.YtoegakndmanfoaaGreatDoor
namespace Go.Proofs.YtoegakndmanfoaaGreatDoor.Q
open Go Go.RowKit
set_option linter.unusedVariables false
set_option linter.unusedSimpArgs false
set_option linter.unusedSectionVars false
variable{r:Rp}{m:List (AE×Rp)}{H':List Ent}{es:List MapEntry}{Z:Fz}{ck:Nat}
section
variable [I : Dfr]
theorem Ga (s:ByteArray):MapKept.IsKey .string (.string s):=by simp[MapKept.IsKey]
theorem Nw.keys {Z:Fz}:∀{f:List (List UInt8×Rp)} {es:List MapEntry},Nw Z f es→∀x∈es,MapKept.IsKey .string x.key
 | [],[],_,x,hx=>by cases hx
 | p::f,e::es,⟨⟨h1,h2⟩,h3⟩,x,hx=>by
  rcases List.mem_cons.1 hx with rfl | hx
  ·rw[h1];exact Ga _
  ·exact Nw.keys h3 x hx
theorem Nw.at {Z:Fz}:∀{f:List (List UInt8×Rp)} {es:List MapEntry},Nw Z f es→Ae f=Ae es∧∀(j:Nat) (e:MapEntry),es[j]? =Ad e→∃k r,f[j]? =Ad (k,r)∧e.key = .string (B k)∧r.p Z e.val
 | [],[],_=>⟨rfl,λj e h=>by simp at h⟩
 | p::f,e::es,⟨⟨h1,h2⟩,h3⟩=>by
  obtain⟨hl,ha⟩:=Nw.at h3;refine⟨by simp[hl],λj e' hj=>?_⟩
  cases j with
  | zero=>simp at hj;subst hj;exact⟨p.1,p.2,rfl,h1,h2⟩
  | succ j=>simp at hj;simpa using ha j e' hj
theorem Nw.of {Z:Fz}:∀{f:List (List UInt8×Rp)} {es:List MapEntry},Ae f=Ae es→(∀(j:Nat) (e:MapEntry),es[j]? =Ad e→∃k r,f[j]? =Ad (k,r)∧e.key = .string (B k)∧r.p Z e.val)→Nw Z f es
 | [],[],_,_=>trivial
 | p::f,e::es,hl,h=>by
  obtain⟨k,r,h1,h2,h3⟩:=h 0 e rfl;simp at h1;subst h1;exact⟨⟨h2,h3⟩,Nw.of (by simpa using hl) λj e' hj=>by simpa using h (j+1) e' (by simpa using hj)⟩
 | [],_::_,hl,_=>by simp at hl
 | _::_,[],hl,_=>by simp at hl
theorem Nw.snoc {Z:Fz}{k:List UInt8}{r:Rp}{e:MapEntry}(h1:e.key = .string (B k))(h2:r.p Z e.val):∀{f:List (List UInt8×Rp)} {es:List MapEntry},Nw Z f es→Nw Z (f++[(k,r)]) (es++[e])
 | [],[],_=>⟨⟨h1,h2⟩,trivial⟩
 | p::f,e'::es,⟨h,h3⟩=>⟨h,Nw.snoc h1 h2 h3⟩
theorem Q3 {T:Type}:∀{m:List (AE×T)} {k:AE} {r:T},(m.map (·.1)).Nodup→(k,r)∈m→GP m k=Ad r
 | p::m,k,r,hn,h=>by
  rw[AeO,List.nodup_cons] at hn;rw[GP];rcases List.mem_cons.1 h with h | h
  ·subst h;rw[AeI rfl];rfl
  ·have hne : ¬ p.1=k:=λe=>hn.1 (by rw[e];exact List.mem_map.2 ⟨(k,r),h,rfl⟩);rw[Ae8 hne];exact Q3 hn.2 h
theorem Of {T:Type}:∀{m:List (AE×T)} {k:AE},(∀p∈m,p.1≠k)→GP m k=Ai
 | [],_,_=>rfl
 | p::m,k,h=>by
  rw[GP,Ae8 (h p Aj)];exact Of λq hq=>h q (by simp[hq])
theorem AcF {a b:List UInt8}(h:B a=B b):a=b:=by
 have:=congrArg ByteArray.toList h
 rwa [HO,HO] at this
theorem MM {a b:List UInt8}(h:Value.string (B a) = .string (B b)):a=b:=AcF (by cases h;rfl)
theorem Ps {m:List (List UInt8×Rp)}(h:ER Z m es ck)(k:List UInt8) :
  (Instr.findNow .string (.string (B k)) es 0=Ad Ai∧GP m k=Ai∧∀p∈m,p.1≠k)∨∃j e r,Instr.findNow .string (.string (B k)) es 0=Ad (Ad (j,e.val))∧es[j]? =Ad e∧e.key = .string (B k)∧GP m k=Ad r∧r.p Z e.val:=by
 obtain⟨h1,h2,h3,f,h4,h5⟩:=h;obtain⟨hl,ha⟩:=h5.at;rcases MapKept.findNow_spec (Ga (B k)) es 0 h5.keys with⟨q1,q2⟩ | ⟨j,e,q1,q2,q3⟩
 ·have hne:∀p∈m,p.1≠k:=λp hp e=>by
   obtain⟨j,hj⟩:=List.mem_iff_getElem?.1 (h4.symm.subset hp);have hjl:j<Ae es:=by rw[← hl];exact(List.getElem?_eq_some_iff.1 hj).1
   obtain⟨k',r',e1,e2,_⟩:=ha j es[j] (Ae3 hjl);rw[hj] at e1;cases e1;exact q2 es[j] (List.getElem_mem hjl) (by rw[e2,← e])
  exact .inl ⟨q1,Of hne,hne⟩
 ·obtain⟨k',r,e1,e2,e3⟩:=ha j e q2;rw[q3] at e2;obtain rfl:=MM e2;exact .inr ⟨j,e,r,by simpa using q1,q2,q3,Q3 h1 (h4.subset (AeB e1)),e3⟩
section
variable {P : Program} {n : Nat} {c : Cx} {ops : Array Oper} {Q : Exit → Act → World → Prop} {rest : List Oper} {l : Fr} {H : List Ent} {d : Nat} {d' : Option Nat} {ty t kt et rty : TypeId} {pos : String} {af : Array Edge} {g : Option (Nat × Bool)} {x y u : Operand} {K : Act → World → Prop} {cx : Code}
variable {T : Type} {enc : T → Rp} {xs : List (AE × T)} {z : T} {k : AE} {zv : Value} {i b : Nat}
theorem N6 {w:World}{m:List (List UInt8×Rp)}{rz:Rp}(ht:P.underlying t=Ad (.map kt et))(hk:P.underlying kt=Ad .string)(hz:∀w,(zeroValue et).run P w = .ok zv w)(hzr:rz.p Z zv)(hm:(Ent.map b m).holds Z w)(ok:Bool) :
  ∃v,((GP m k).getD rz).p Z v∧(Instr.lookup t (.map (Ad b)) (.string (B k)) ok).run P w = .ok (if ok then .tuple #[v,.bool (GP m k).isSome] else v) w:=by
 obtain⟨es,ck,h1,h2⟩:=hm;rcases Ps h2 k with⟨q1,q2,_⟩ | ⟨j,e,r,q1,_,_,q2,q3⟩
 ·exact⟨zv,by rw[q2];exact hzr,by simp[Instr.lookup,run_underlying ht,MapKept.run_getObj_map h1,MapKept.run_checkKey hk (Ga _),MapKept.run_findKey hk q1,hz,q2]⟩
 ·exact⟨e.val,by rw[q2];exact q3,by simp[Instr.lookup,run_underlying ht,MapKept.run_getObj_map h1,MapKept.run_checkKey hk (Ga _),MapKept.run_findKey hk q1,q2]⟩
theorem W3 (enc:T→Rp)(xs:List (AE×T))(k:AE)(z:T):(GP (Dg enc xs) k).getD (enc z)=enc (N7 xs k z):=by
 rw[KN];unfold N7;cases GP xs k<;>rfl
theorem RK (enc:T→Rp)(xs:List (AE×T))(k:AE):(GP (Dg enc xs) k).isSome=IH xs k:=by
 rw[KN];unfold IH;cases GP xs k<;>rfl
theorem OV (ht:P.underlying t=Ad (.map kt et))(hk:P.underlying kt=Ad .string)(hz:∀w,(zeroValue et).run P w = .ok zv w)(hzr:∀Z,(enc z).p Z zv)(hx:ev l x=Ad (rv (.map (Ad b))))(hi:H[i]? =Ad (.map b (Dg enc xs)))(hy:ev l y=Ad (rS k)) :
  Cd P n c l H { dst:=d',op:=.lookup t x y Af,type:=ty,pos:=pos,after:=af,guard:=g } (DT [enc (N7 xs k z),rB (IH xs k)]):=λa w Z ha hw=>by
 obtain⟨v,h1,h2⟩:=N6 (k:=k) ht hk hz (hzr Z) (hw.ent hi) Af;rw[W3] at h1;refine⟨.tuple #[v,.bool (IH xs k)],⟨[v,.bool (IH xs k)],rfl,h1,rfl,trivial⟩,?_⟩;rw[RK] at h2;simp[execOp,ha.eval hx,ha.eval hy,h2]
theorem ER.length {m:List (List UInt8×Rp)}(h:ER Z m es ck):Ae es=Ae m:=by
 obtain⟨_,_,_,f,h4,h5⟩:=h;rw[← h5.at.1,h4.length_eq]
theorem NS (hn:Nat.blt d n=Af)(h:∀b,WL P n c ops Q rest ((d,rv (.map (Ad b)))::l) (.map b []::H)) :
  WL P n c ops Q ({ dst:=Ad d,op:=.makeMap t Ai,type:=ty,pos:=pos,after:=af,guard:=Ai }::rest) l H:=
 K7 (λa w Z ha hw=>⟨_,w.alloc (.map #[] 0),_,_,Z,by simp[execOp,run_makeMap],Fz.le.refl _,rfl,
  hw.alloc _ (e:=.map w.heap.size []) ⟨#[],0,by simpa using heap_alloc_new w _,Aj,Aj,Aj,[],Ae5 _,trivial⟩ rfl,h w.heap.size⟩) hn
theorem VI {f:List (AE×Rp)}(h:f.Perm m)(k:AE)(r:Rp):(L4 f k r).Perm (L4 m k r):=h.map _
theorem SM {T:Type}:∀{f:List (AE×T)} {j:Nat} {k:AE} {r0:T} (r:T),(f.map (·.1)).Nodup→f[j]? =Ad (k,r0)→L4 f k r=f.set j (k,r)
 | p::f,0,k,r0,r,hn,h=>by
  simp at h;subst h;rw[AeO,List.nodup_cons] at hn;have:L4 f k r=f:=by
   unfold L4;rw[List.map_congr_left (g:=id) (λq hq=>?_),List.map_id];have hne : ¬ q.1=k:=λe=>hn.1 (by rw[← e];exact List.mem_map.2 ⟨q,hq,rfl⟩);rw[Ae8 hne];rfl
  show(bif Ac (k=k) then(k,r) else(k,r0))::L4 f k r=_;rw[AeI rfl,this];rfl
 | p::f,j+1,k,r0,r,hn,h=>by
  rw[AeO,List.nodup_cons] at hn;simp at h;have hne : ¬ p.1=k:=λe=>hn.1 (by rw[e];exact List.mem_map.2 ⟨(k,r0),AeB h,rfl⟩);show(bif Ac (p.1=k) then(k,r) else p)::L4 f k r=_;rw[Ae8 hne,SM r hn.2 h];rfl
theorem SN {T:Type}:∀{f:List (AE×T)} {j:Nat} {k:AE} {r0:T},(f.map (·.1)).Nodup→f[j]? =Ad (k,r0)→KO f k=f.eraseIdx j
 | p::f,0,k,r0,hn,h=>by
  simp at h;subst h;rw[AeO,List.nodup_cons] at hn;have:f.filter (λq=>!Ac (q.1=k))=f:=List.filter_eq_self.2 λq hq=>by
   have hne : ¬ q.1=k:=λe=>hn.1 (by rw[← e];exact List.mem_map.2 ⟨q,hq,rfl⟩);simp[hne]
  unfold KO;rw[List.filter_cons_of_neg Aj,this];rfl
 | p::f,j+1,k,r0,hn,h=>by
  rw[AeO,List.nodup_cons] at hn;simp at h;have hne : ¬ p.1=k:=λe=>hn.1 (by rw[e];exact List.mem_map.2 ⟨(k,r0),AeB h,rfl⟩);unfold KO;rw[List.filter_cons_of_pos (by simp[hne])];show p::KO f k=_;rw[SN hn.2 h];rfl
theorem TX {T:Type}(m:List (AE×T))(k:AE)(r:T):(L4 m k r).map (·.1)=m.map (·.1):=by
 unfold L4;rw[AeV];refine List.map_congr_left λp _=>?_;simp only[Function.comp]
 by_cases h:p.1=k
 ·rw[AeI h];exact h.symm
 ·rw[Ae8 h];rfl
theorem TY {T:Type}{m:List (AE×T)}{k:AE}{r:T}(h:GP m k=Ad r):IH m k=Af:=by unfold IH;rw[h];rfl
theorem TZ {T:Type}{m:List (AE×T)}{k:AE}(h:GP m k=Ai):IH m k=Ah:=by unfold IH;rw[h];rfl
theorem ER.put {j:Nat}{e:MapEntry}{k:AE}{r0:Rp}{v:Value}(h:ER Z m es ck)(he:es[j]? =Ad e)(hk:e.key = .string (B k))(hm:GP m k=Ad r0)(hr:r.p Z v) :
  ER Z (CB m k r) (es.set j { e with key:=.string (B k),val:=v }) ck:=by
 obtain⟨h1,h2,h3,f,h4,h5⟩:=h;obtain⟨hl,ha⟩:=h5.at;have hjl:=(List.getElem?_eq_some_iff.1 he).1;unfold CB;rw[TY hm,cond_true];obtain⟨k',r',e1,e2,_⟩:=ha j e he;rw[hk] at e2;obtain rfl:=MM e2;have hfn:(f.map (·.1)).Nodup:=(h4.map (·.1)).nodup_iff.2 h1;refine⟨by rw[TX];exact h1,?_,?_,f.set j (k,r),?_,Nw.of (by simp[hl]) λi x hx=>?_⟩
 ·rw[List.map_set];have:(es.map (·.born)).set j e.born=es.map (·.born):=by
   apply List.ext_getElem?;intro i;rw[List.getElem?_set]
   split
   ·rename_i hij;subst hij
    simp[hjl,List.getElem?_eq_some_iff.1 he |>.2]
   ·rfl
  show((es.map (·.born)).set j e.born).Nodup;rw[this];exact h2
 ·intro x hx;rcases List.mem_or_eq_of_mem_set hx with hx | rfl
  ·exact h3 x hx
  ·exact h3 e (AeB he)
 ·have:=VI h4 k r
  rwa [SM r hfn e1] at this
 ·rw[List.getElem?_set] at hx ⊢
  split at hx
  ·rename_i hij;subst hij
   cases hx
   exact⟨k,r,by rw[AeX rfl,AeX (by rw[hl];exact hjl)],rfl,hr⟩
  ·rename_i hij
   rw[AeN hij];exact ha i x hx
theorem ER.ins {k:AE}{v:Value}(h:ER Z m es ck)(hm:GP m k=Ai)(hk:∀p∈m,p.1≠k)(hr:r.p Z v) :
  ER Z (CB m k r) (es++[{ key:=.string (B k),val:=v,born:=ck }]) (ck+1):=by
 obtain⟨h1,h2,h3,f,h4,h5⟩:=h;unfold CB;rw[TZ hm,cond_false];have hp:=Oe k r m;refine⟨?_,?_,?_,f++[(k,r)],?_,Nw.snoc rfl hr h5⟩
 ·rw[(hp.map (·.1)).nodup_iff,AeO,List.nodup_cons];exact⟨λhx=>by obtain⟨p,hp,e⟩:=List.mem_map.1 hx;exact hk p hp e,h1⟩
 ·rw[List.map_append,List.nodup_append];refine⟨h2,Aj,λa ha b hb e=>?_⟩;simp at hb;subst hb;obtain⟨x,hx,e'⟩:=List.mem_map.1 ha;have:=h3 x hx;omega
 ·intro x hx;rcases List.mem_append.1 hx with hx | hx
  ·have:=h3 x hx;omega
  ·simp at hx;subst hx;exact Ae4 _
 ·exact(List.perm_append_comm (l₁:=f) (l₂:=[(k,r)])).trans ((h4.cons (k,r)).trans hp.symm)
theorem ER.del {j:Nat}{e:MapEntry}{k:AE}(h:ER Z m es ck)(he:es[j]? =Ad e)(hk:e.key = .string (B k)):ER Z (KO m k) (es.eraseIdx j) ck:=by
 obtain⟨h1,h2,h3,f,h4,h5⟩:=h;obtain⟨hl,ha⟩:=h5.at;obtain⟨k',r',e1,e2,_⟩:=ha j e he;rw[hk] at e2;obtain rfl:=MM e2;have hfn:(f.map (·.1)).Nodup:=(h4.map (·.1)).nodup_iff.2 h1;have hs:=List.eraseIdx_sublist es j;refine⟨h1.sublist ((List.filter_sublist ..).map _),h2.sublist (hs.map _),λx hx=>h3 x (hs.subset hx),f.eraseIdx j,?_,Nw.of (by rw[List.length_eraseIdx,List.length_eraseIdx,hl]) λi x hx=>?_⟩
 ·rw[← SN hfn e1];exact h4.filter _
 ·rw[List.getElem?_eraseIdx] at hx ⊢
  split at hx
  ·rename_i hij;rw[AeX hij];exact ha i x hx
  ·rename_i hij;rw[AeN hij];exact ha (i+1) x hx
theorem Ua {k:AE}(hk:∀p∈m,p.1≠k):KO m k=m:=List.filter_eq_self.2 λp hp=>by simp[hk p hp]
theorem St.mapset {w:World}(h:St c H Z w){m':List (AE×Rp)}(hi:H[i]? =Ad (.map b m)){es es':Array MapEntry}{ck':Nat}(h1:w.heap[b]? =Ad (.map es ck))(h2:ER Z m' es'.toList ck') :
  St c (H.set i (.map b m')) Z { w with heap:=w.heap.setIfInBounds b (.map es' ck') }:=by
 obtain⟨q1,q2⟩:=MapKept.heap_set (o':=.map es' ck') h1;exact h.set hi rfl rfl rfl Aj (λk _ hk=>q2 k (by simpa[Ent.foot] using hk)) ⟨es',ck',q1,h2⟩ (by simp[Ent.foot])
theorem OR (s:ByteArray):Instr.sameBits 10000 (.string s) (.string s)=Af:=by
 show(s ==s)=Af;exact(MapKept.bytes_beq s s).2 rfl |> λh=>by simpa using h
theorem ZQ (ht:P.underlying t=Ad (.map kt et))(hk:P.underlying kt=Ad .string)(hx:ev l x=Ad (rv (.map (Ad b))))(hi:H[i]? =Ad (.map b m))(hy:ev l y=Ad (rS k))(hu:ev l u=Ad r)(hH:H.set i (.map b (CB m k r))=H')(h:WL P n c ops Q rest l H') :
  WL P n c ops Q ({ dst:=Ai,op:=.mapUpdate t x y u,type:=ty,pos:=pos,after:=af,guard:=Ai }::rest) l H:=
 Vj λa w Z ha hw=>by
  obtain⟨es,ck,h1,h2⟩:=hw.ent hi;have hv:=ha.ev hu;subst hH;rcases Ps h2 k with⟨q1,q2,q3⟩ | ⟨j,e,r0,q1,q2,q3,q4,_⟩
  ·refine⟨_,_,?_,hw.mapset hi h1 (es':=es.push { key:=.string (B k),val:=a.eval u,born:=ck }) (by simpa using h2.ins q2 q3 hv),h⟩;simp[execOp,ha.eval hx,ha.eval hy,Instr.mapUpdate,run_underlying ht,MapKept.run_getObj_map h1,MapKept.run_checkKey hk (Ga _),MapKept.run_findKey hk q1,MapKept.run_setObj_map _ h1]
  ·have hje:es[j]? =Ad e:=by simpa using q2
   refine⟨_,_,?_,hw.mapset hi h1 (es':=es.modify j λe=>{ e with key:=.string (B k),val:=a.eval u }) (ck':=ck) (by
    have:=h2.put q2 q3 q4 hv;have e1:(es.modify j λe=>{ e with key:=.string (B k),val:=a.eval u }).toList=es.toList.set j { e with key:=.string (B k),val:=a.eval u }:=by
     rw[Array.toList_modify];rw[List.modify_eq_set,q2];rfl
    rw[e1];exact this),h⟩
   have hkey:((es[j]?).map (·.key)).getD (.string (B k)) = .string (B k):=by rw[hje];exact q3
   simp[execOp,ha.eval hx,ha.eval hy,Instr.mapUpdate,run_underlying ht,MapKept.run_getObj_map h1,MapKept.run_checkKey hk (Ga _),MapKept.run_findKey hk q1,MapKept.run_setObj_map _ h1,hkey,Instr.keyThatStays,OR]
theorem AaZ {op:Op}{ty:TypeId}{pos:String}{af:Array Edge}
  (hr:∀a w Z,DU n l a Z→St c H Z w→∃v w' H',(execOp a.eval { dst:=Ai,op:=op,type:=ty,pos:=pos,after:=af,guard:=Ai }).run P w = .ok (.value v) w'∧St c H' Z w'∧WL P n c ops Q rest l H') :
  WL P n c ops Q ({ dst:=Ai,op:=op,type:=ty,pos:=pos,after:=af,guard:=Ai }::rest) l H:=λa w Z ha hw=>
 wpList_plain rfl λK hK=>by
  obtain⟨v,w',H',h1,h2,h3⟩:=hr a w Z ha hw;unfold Oper.wp;rw[h1];exact hK _ _ (h3 _ w' Z (ha.put_none _) h2)
theorem ZR (ht:P.underlying t=Ad (.map kt et))(hk:P.underlying kt=Ad .string){kt':TypeId}(hx:ev l x=Ad (rv (.map (Ad b))))(hi:H[i]? =Ad (.map b m))(hy:ev l y=Ad (rS k))(hH:H.set i (.map b (KO m k))=H')(h:WL P n c ops Q rest l H') :
  WL P n c ops Q ({ dst:=Ai,op:=.call { callee:=.builtin .delete,args:=#[x,y],argTypes:=#[t,kt'] },type:=ty,pos:=pos,after:=af,guard:=Ai }::rest) l H:=
 AaZ (λa w Z ha hw=>by
  obtain⟨es,ck,h1,h2⟩:=hw.ent hi;subst hH;rcases Ps h2 k with⟨q1,q2,q3⟩ | ⟨j,e,r0,q1,q2,q3,q4,_⟩
  ·refine⟨.tuple #[],_,_,?_,hw.mapset hi h1 (es':=es) (ck':=ck) (by rw[Ua q3];exact h2),h⟩;simp[execOp,resolve,invoke,builtin,ha.eval hx,ha.eval hy,Builtin.delete_,run_underlying ht,MapKept.run_getObj_map h1,MapKept.run_checkKey hk (Ga _),MapKept.run_findKey hk q1,MapKept.run_setObj_map _ h1]
  ·refine⟨.tuple #[],_,_,?_,hw.mapset hi h1 (es':=es.eraseIdxIfInBounds j) (ck':=ck) (by
    have e1:(es.eraseIdxIfInBounds j).toList=es.toList.eraseIdx j:=Aj
    rw[e1];exact h2.del q2 q3),h⟩
   simp[execOp,resolve,invoke,builtin,ha.eval hx,ha.eval hy,Builtin.delete_,run_underlying ht,MapKept.run_getObj_map h1,MapKept.run_checkKey hk (Ga _),MapKept.run_findKey hk q1,MapKept.run_setObj_map _ h1])
theorem S9 {v:T}(ht:P.underlying t=Ad (.map kt et))(hk:P.underlying kt=Ad .string)(hx:ev l x=Ad (rv (.map (Ad b))))(hi:H[i]? =Ad (.map b (Dg enc xs)))(hy:ev l y=Ad (rS k))(hu:ev l u=Ad (enc v))(hH:H.set i (.map b (Dg enc (CB xs k v)))=H')(h:WL P n c ops Q rest l H') :
  WL P n c ops Q ({ dst:=Ai,op:=.mapUpdate t x y u,type:=ty,pos:=pos,after:=af,guard:=Ai }::rest) l H:=ZQ ht hk hx hi hy hu (by rw[← VW];exact hH) h
theorem XX (ht:P.underlying t=Ad (.map kt et))(hk:P.underlying kt=Ad .string){kt':TypeId}(hx:ev l x=Ad (rv (.map (Ad b))))(hi:H[i]? =Ad (.map b (Dg enc xs)))(hy:ev l y=Ad (rS k))(hH:H.set i (.map b (Dg enc (KO xs k)))=H')(h:WL P n c ops Q rest l H') :
  WL P n c ops Q ({ dst:=Ai,op:=.call { callee:=.builtin .delete,args:=#[x,y],argTypes:=#[t,kt'] },type:=ty,pos:=pos,after:=af,guard:=Ai }::rest) l H:=ZR ht hk hx hi hy (by rw[← VY];exact hH) h
end
end
section
variable [I : Dfr]
section
variable {P : Program} {n : Nat} {c : Cx} {ops : Array Oper} {Q : Exit → Act → World → Prop} {rest : List Oper} {l : Fr} {H : List Ent} {d : Nat} {ty t kt et rty : TypeId} {pos : String} {af : Array Edge} {x y u : Operand} {K : Act → World → Prop} {cx : Code}
variable {T : Type} {enc : T → Rp} {xs ys : List (AE × T)} {i b it : Nat} {m lf : List (List UInt8 × Rp)} {cur : Option (List UInt8 × Rp)} {k : AE} {r : Rp}
end
end
variable{args:List Operand}{α:Type}{enc:α→List Rp}{rs:List Rp}{ats:Array TypeId}{Hr:List Ent}{ys:List α}{Hin:List Ent}
section
variable [I : Dfr]
section
variable {P : Program} {n : Nat} {c : Cx} {opsA : Array Oper} {Q : Exit → Act → World → Prop} {l : Fr} {H : List Ent} {d : Nat} {ty : TypeId} {pos : String} {af : Array Edge}
theorem VM {f:FuncId}{Hout:List Ent}(hcall:∀(as1:Array Value) (w:World),(callFunc f as1).run P w = .ok (.enter f as1) w)(hv:Jy l args=Ad rs)
  (hp:H.Perm (Hin++Hr)) (hc:Fn P c.E f rs Hin (λr' H'=>r'=r∧H'=Hout)) {H':List Ent} (hH:Hout++Hr=H'):Ef P n c opsA Q l H { dst:=Ad d,op:=.call { callee:=.value (.func f),args:=args.toArray,argTypes:=ats },type:=ty,pos:=pos,after:=af,guard:=Ai } r H':=λa w Z K ha hw hK=>
 ⟨λ_=>by
  subst hH;unfold Oper.wp;rw[EW rfl hcall w];refine(hc w Z _ (E9 ha hv) (hw.perm hp).enter).mono ?_;rintro e w' ⟨r2,v,Ho,Z',rfl,⟨rfl,rfl⟩,hr2,hs⟩;exact hK v w' Z' hs.le hr2 ((hw.perm hp).call hs),λh=>by simp[Region.wanted] at h⟩
theorem Qt {f:FuncId}(hcall:∀(as1:Array Value) (w:World),(callFunc f as1).run P w = .ok (.enter f as1) w)(hv:Jy l args=Ad rs)
  (hp:H.Perm (Hin++Hr)) (hc:Fn P c.E f rs Hin (λr' H'=>r'=r∧H'=Hin)):Ef P n c opsA Q l H { dst:=Ad d,op:=.call { callee:=.value (.func f),args:=args.toArray,argTypes:=ats },type:=ty,pos:=pos,after:=af,guard:=Ai } r H:=λa w Z K ha hw hK=>
 VM (Hout:=Hin) hcall hv hp hc rfl a w Z K ha hw (λv w' Z' hz hr hs=>hK v w' Z' hz hr (hs.perm hp.symm))
theorem L0 {f:FuncId}{E:List Ent}(hcall:∀(as1:Array Value) (w:World),(callFunc f as1).run P w = .ok (.enter f as1) w)(hv:Jy l args=Ad rs)
  (hp:H.Perm (Hin++Hr)) (hc:Fn P c.E f rs Hin (λr' H'=>r'=r∧H'=Hin)):Ef P n c opsA Q l (H++E) { dst:=Ad d,op:=.call { callee:=.value (.func f),args:=args.toArray,argTypes:=ats },type:=ty,pos:=pos,after:=af,guard:=Ai } r (H++E):=
 Qt (Hin:=Hin) (Hr:=Hr++E) hcall hv (by rw[← AeQ];exact hp.append_right E) hc
end
section
variable {P : Program} {n : Nat} {c : Cx} {ops : Array Oper} {Q : Exit → Act → World → Prop} {rest : List Oper} {l : Fr} {H H' : List Ent} {d : Nat} {d' : Option Nat} {x y z3 : Operand} {ty t t' e : TypeId} {pos : String} {af : Array Edge} {g : Option (Nat × Bool)} {v u : Value} {r : Rp} {sz : Nat}
theorem R6 {k':IntKind}{j:Int}(ht:P.underlying t=Ad (.slice e))(hz:∀w,(sizeOf e).run P w = .ok sz w)(h:ev l x=Ad (B3 sz (ys.map enc)))(hj:ev l z3=Ad (rI k' j))(hg2:N9 j (Ae ys:Int)=Af) :
  Cd P n c l H { dst:=d',op:=.slice t x Ai (Ad z3) Ai,type:=ty,pos:=pos,after:=af,guard:=g } (B3 sz ((ys.take j.toNat).map enc)):=λa w Z ha hw=>by
 obtain⟨A,cap,e1,hc1,hc2,hA,hc⟩:=ha.ev h;have h2:=(EH hg2).2;have hj0:0≤j:=(EH hg2).1;simp only[Ae7] at e1 hc1;have h3:j≤(cap:Int):=Ab
 refine⟨.slice (if cap=0 then A else A.map (·.add (0*sz))) j.toNat cap,⟨if cap=0 then A else A.map (·.add (0*sz)),cap,?_,?_,Ab,?_,λq cl hq=>?_⟩,by simp[execOp,e1,ha.eval hj,Instr.sliceAt,Instr.slice,run_underlying ht,Instr.sliceBounds,CS (m:=cap) _ _ hj0 h3,hz]⟩
 ·congr 1
  simp;omega
 ·simp;omega
 ·intro hn
  split at hn
  ·have:=hA hn;omega
  ·have:=hA (by simpa using hn);omega
 ·rw[AeC] at hq
  cases hq':(Aq j.toNat ys)[q]? with
  | none=>rw[hq'] at hq;cases hq
  | some yy=>
   rw[hq'] at hq;simp only[Option.map_some,Option.some.injEq] at hq;subst hq;rw[AeF] at hq'
   split at hq'
   ·rename_i hlt
    obtain⟨hl,ad,rfl,hs,hcs⟩:=hc q (enc yy) (by simp[hq']);obtain⟨b,off,spot⟩:=ad;simp only at hs;subst hs;have hne : ¬ cap=0:=Ab
    refine⟨hl,⟨b,off+0*sz,Ai⟩,by simp[hne,Iz],rfl,λq' r' hr'=>?_⟩;obtain⟨u,hu,hp⟩:=hcs q' r' hr';refine⟨u,?_,hp⟩;have:off+0*sz+(q*sz+q')=off+(q*sz+q'):=Ab
    simp only;rw[this];exact hu
   ·cases hq'
end
end
variable{us:List Value}
section
variable [I : Dfr]
theorem BH.d2 {r0 r1:Rp}(h:BH Z [r0,r1] us):∃y0 y1,us=[y0,y1]∧BH Z [r0,r1] [y0,y1]:=by
 match us,h.length with
 | [y0,y1],_=>exact⟨_,_,rfl,h⟩
theorem BH.d7 {r0 r1 r2 r3 r4 r5 r6:Rp}(h:BH Z [r0,r1,r2,r3,r4,r5,r6] us):∃y0 y1 y2 y3 y4 y5 y6,us=[y0,y1,y2,y3,y4,y5,y6]∧BH Z [r0,r1,r2,r3,r4,r5,r6] [y0,y1,y2,y3,y4,y5,y6]:=by
 match us,h.length with
 | [y0,y1,y2,y3,y4,y5,y6],_=>exact⟨_,_,_,_,_,_,_,rfl,h⟩
theorem BH.d9 {r0 r1 r2 r3 r4 r5 r6 r7 r8:Rp}(h:BH Z [r0,r1,r2,r3,r4,r5,r6,r7,r8] us):∃y0 y1 y2 y3 y4 y5 y6 y7 y8,us=[y0,y1,y2,y3,y4,y5,y6,y7,y8]∧BH Z [r0,r1,r2,r3,r4,r5,r6,r7,r8] [y0,y1,y2,y3,y4,y5,y6,y7,y8]:=by
 match us,h.length with
 | [y0,y1,y2,y3,y4,y5,y6,y7,y8],_=>exact⟨_,_,_,_,_,_,_,_,_,rfl,h⟩
theorem QE {α:Type}{sz:Nat}:∀{xs:List (List α)} (hs:∀c∈xs,Ae c=sz) {k:Nat} {cl:List α},xs[k]? =Ad cl→∀(off m:Nat),off+m≤sz→((xs.flatten).drop (k*sz+off)).take m=(cl.drop off).take m
 | [],_,k,cl,h,_,_,_=>by simp at h
 | x::r,hs,0,cl,h,off,m,hm=>by
  simp at h;subst h;have hx:=hs x Aj;simp only[List.flatten_cons,Nat.zero_mul,AeK];rw[List.drop_append_of_le_length Ab,List.take_append_of_le_length Am]
 | x::r,hs,k+1,cl,h,off,m,hm=>by
  have hx:=hs x Aj;simp only[List.flatten_cons];have e:(k+1)*sz+off=Ae x+(k*sz+off):=by rw[hx,Nat.succ_mul];omega
  rw[e,List.drop_length_add_append];exact QE (λc hc=>hs c (by simp[hc])) (by simpa using h) off m hm
theorem QF {α:Type}{sz:Nat}:∀{xs:List (List α)} (hs:∀c∈xs,Ae c=sz) {k:Nat} {cl rs:List α},xs[k]? =Ad cl→∀(off:Nat),off+Ae rs≤sz→(xs.set k (cl.take off++rs++cl.drop (off+Ae rs))).flatten=xs.flatten.take (k*sz+off)++rs++xs.flatten.drop (k*sz+off+Ae rs)
 | [],_,k,cl,rs,h,_,_=>by simp at h
 | x::r,hs,0,cl,rs,h,off,hm=>by
  simp at h;subst h;have hx:=hs x Aj;simp only[List.set_cons_zero,List.flatten_cons,Nat.zero_mul,AeK];rw[List.take_append_of_le_length Ab,List.drop_append_of_le_length Ab];simp[AeQ]
 | x::r,hs,k+1,cl,rs,h,off,hm=>by
  have hx:=hs x Aj;simp only[List.set_cons_succ,List.flatten_cons];have e:(k+1)*sz+off=Ae x+(k*sz+off):=by rw[hx,Nat.succ_mul];omega
  have e2:Ae x+(k*sz+off)+Ae rs=Ae x+(k*sz+off+Ae rs):=Ab
  rw[QF (λc hc=>hs c (by simp[hc])) (by simpa using h) off hm,e,e2,List.take_length_add_append,List.drop_length_add_append];simp[AeQ]
section
variable {P : Program} {n : Nat} {c : Cx} {ops : Array Oper} {Q : Exit → Act → World → Prop} {rest : List Oper} {l : Fr} {H H' : List Ent} {d : Nat} {d' : Option Nat} {ty t e rty : TypeId} {pos : String} {af : Array Edge} {g : Option (Nat × Bool)} {x y u : Operand} {v : Value} {sz m : Nat}
theorem Mc [Inhabited α]{i off:Nat}{j:Int}(hag:∀w,(isAgg t).run P w = .ok Af w)(hsz:∀w,(sizeOf t).run P w = .ok m w)(hx:ev l x=Ad (rv (EL sz v j.toNat off)))(hi:H[i]? =Ad (.row v e sz (ys.map enc)))(hg:Do j (Ae ys:Int)=Af)
  (hle:Nat.ble (off+m) sz=Af) (hr:((enc (A8 ys j)).drop off).take m=rs) :
  Cd P n c l H { dst:=d',op:=.load t x,type:=ty,pos:=pos,after:=af,guard:=g } (BL rs):=λa w Z ha hw=>by
 obtain⟨hs,us,⟨h1,h2⟩,h3⟩:=hw.ent hi;have h0:=(DJ hg).1;have hlt:j.toNat<Ae ys:=by have:=(DJ hg).2;omega
 have eat:A8 ys j=ys[j.toNat]:=by simp[A8,hlt]
 have hle':off+m≤sz:=by simpa using hle
 have hcl:(ys.map enc)[j.toNat]? =Ad (enc ys[j.toNat]):=by simp[hlt]
 have hcz:Ae (enc ys[j.toNat])=sz:=hs _ (AeB hcl);have hseg:=QE hs hcl off m hle';rw[← eat,hr] at hseg;have h4:=(h3.drop (j.toNat*sz+off)).take m;rw[hseg] at h4;have hrl:Ae rs=m:=by rw[← hr,eat];simp;omega
 rcases h2 with⟨rfl,hz⟩ | ⟨b,cap,cur,rfl,_,hg',hcap,hm,hcs,htk⟩
 ·simp at hz;subst hz;simp at hlt
 ·have h5:=run_loadCells_list (P:=P) w ⟨b,j.toNat*sz+off,Ai⟩ ((us.drop (j.toNat*sz+off)).take m) (λq w' hq=>by
   rw[Iz,cell_of_row w b _ cur e (0,0) hg'];rw[AeF] at hq
   split at hq
   ·rw[List.getElem?_drop,← htk,AeF] at hq
    split at hq
    ·simpa using hq
    ·cases hq
   ·cases hq)
  rw[h4.length,hrl] at h5;exact⟨.agg ((us.drop (j.toNat*sz+off)).take m).toArray,⟨_,rfl,h4⟩,by simp[execOp,ha.eval hx,EL,Instr.loadAt,Instr.sureAddr,loadVar,hag,hsz,h5]⟩
theorem XV [Inhabited α]{i off:Nat}{j:Int}{y':α}(hsz:∀w,(sizeOf t).run P w = .ok m w)(hx:ev l x=Ad (rv (EL sz v j.toNat off)))(hy:ev l y=Ad (BL rs))(hv:Bh H rs)(hi:H[i]? =Ad (.row v e sz (ys.map enc)))(hg:Do j (Ae ys:Int)=Af)
  (hl:Ae rs=m) (hy':(enc (A8 ys j)).take off++rs++(enc (A8 ys j)).drop (off+m)=enc y') (hle:Nat.ble (off+m) sz=Af) (hH:H.set i (.row v e sz ((ys.set j.toNat y').map enc))=H') (h:WL P n c ops Q rest l H') :
  WL P n c ops Q ({ dst:=Ai,op:=.store t x y,type:=ty,pos:=pos,after:=af,guard:=Ai }::rest) l H:=
 Vj λa w Z ha hw=>by
  obtain⟨hs,us,⟨h1,h2⟩,h3⟩:=hw.ent hi;have h0:=(DJ hg).1;have hlj:j.toNat<Ae ys:=by have:=(DJ hg).2;omega
  have hle':off+m≤sz:=by simpa using hle
  have eat:A8 ys j=ys[j.toNat]:=by simp[A8,hlj]
  obtain⟨vs,e1,h4⟩:=ha.ev hy;have hvl:=h4.length;have hone:∀v∈vs,v.oneCell'=Af:=λv hv'=>hv.at hw h4 v hv';have hcl:(ys.map enc)[j.toNat]? =Ad (enc ys[j.toNat]):=by simp[hlj]
  have hcz:Ae (enc ys[j.toNat])=sz:=hs _ (AeB hcl);rcases h2 with⟨rfl,hz⟩ | ⟨b,cap,cur,rfl,_,hg',hcap,hm,hcs,htk⟩
  ·simp at hz;subst hz;simp at hlj
  ·simp only[Ae7] at h1 hcap htk;have hin:j.toNat*sz+off+m≤Ae ys*sz:=by
    have:(j.toNat+1)*sz≤Ae ys*sz:=Nat.mul_le_mul_right _ hlj;rw[Nat.succ_mul] at this;omega
   have hlc:j.toNat*sz+off+m≤cur.size:=by
    have:Ae ys*sz≤cap*sz:=Nat.mul_le_mul_right _ hcap;omega
   have hvm:Ae vs=m:=Ab
   have h5:=run_storeCells_at P b (j.toNat*sz+off) e vs 0 cur w hg' Ab hone;simp only[Nat.add_zero] at h5;have hset:((ys.set j.toNat y').map enc).flatten=(ys.map enc).flatten.take (j.toNat*sz+off)++rs++(ys.map enc).flatten.drop (j.toNat*sz+off+m):=by
    have:=QF hs hcl (rs:=rs) off Ab;rw[hl] at this;rw[← this,List.map_set,← hy',eat]
   refine⟨w.setRow b (cur.toList.take (j.toNat*sz+off)++vs++cur.toList.drop (j.toNat*sz+off+Ae vs)).toArray,H',?_,?_,h⟩
   ·simp only[AeQ] at h5 ⊢;rw[hvm] at h5 ⊢;simp[execOp,ha.eval hx,e1,EL,Instr.storeAt,Instr.sureAddr,storeVar,hsz,Value.cells,hvm,h5]
   ·subst hH;refine hw.set hi rfl rfl rfl (by simp[World.setRow]) (λk _ hk=>?_) ⟨?_,us.take (j.toNat*sz+off)++vs++us.drop (j.toNat*sz+off+m),⟨?_,.inr ⟨b,cap,_,Aj,AeR _,setRow_heap w b cur _ e (0,0) hg',by simpa using hcap,hm,?_,?_⟩⟩,?_⟩ (by simp[Ent.foot,Value.ownBlock])
    ·simp only[Ent.foot,Value.ownBlock,Option.mem_toList,Option.mem_def,Option.some.injEq] at hk;simp only[World.setRow,Array.getElem?_modify];rw[AeN hk]
    ·intro cl hcl';rw[List.map_set] at hcl';rcases List.mem_or_eq_of_mem_set hcl' with h' | rfl
     ·exact hs cl h'
     ·rw[← hy',eat];simp;omega
    ·simp;omega
    ·simp;omega
    ·have hu1:us.take (j.toNat*sz+off)=cur.toList.take (j.toNat*sz+off):=by rw[← htk,List.take_take,Nat.min_eq_left Ab]
     have hu2:us.drop (j.toNat*sz+off+m)=(cur.toList.drop (j.toNat*sz+off+m)).take (Ae ys*sz-(j.toNat*sz+off+m)):=by rw[← htk,List.drop_take]
     rw[hu1,hu2,Ae7,List.length_set,hvm];have e2:Ae (Aq (j.toNat*sz+off) cur.toList++vs)=j.toNat*sz+off+m:=Am
     have e3:Ae ys*sz=Ae (Aq (j.toNat*sz+off) cur.toList++vs)+(Ae ys*sz-(j.toNat*sz+off+m)):=by rw[e2];omega
     conv=>lhs;rw[show (Ae ys)*sz=Ae (Aq (j.toNat*sz+off) cur.toList++vs)+(Ae ys*sz-(j.toNat*sz+off+m)) from e3]
     rw[List.take_length_add_append]
    ·rw[hset];exact((h3.take _).append h4).append (h3.drop _)
def V5 (sz:Nat)(v:Value)(j:Nat):Value:=match v with
 | .slice A len cap=>.slice (if cap=j then A else A.map (·.add (j*sz))) (len-j) (cap-j)
 | v=>v
theorem Aah {i:Nat}{k:IntKind}{j:Int}(ht:P.underlying t=Ad (.slice e))(hz:∀w,(sizeOf e).run P w = .ok sz w)(hx:ev l x=Ad (rv v))(hy:ev l y=Ad (rI k j))(hi:H[i]? =Ad (.row v e sz (ys.map enc)))(hg:N9 j (Ae ys:Int)=Af) :
  Cd P n c l H { dst:=d',op:=.slice t x (Ad y) Ai Ai,type:=ty,pos:=pos,after:=af,guard:=g } (rv (V5 sz v j.toNat)):=λa w Z ha hw=>E0<|by
 obtain⟨h0,us,⟨h1,h2⟩,h3⟩:=hw.ent hi;have g0:=(EH hg).1;have g1:=(EH hg).2;rcases h2 with⟨rfl,hz0⟩ | ⟨b,cap,cur,rfl,_,hb,hcap,hm,hcs,htk⟩
 ·simp at hz0;subst hz0;obtain rfl:j=0:=by simp at g1;omega
  simp[execOp,ha.eval hx,ha.eval hy,Instr.sliceAt,Instr.slice,run_underlying ht,Instr.sliceBounds,CS (m:=0) _ _ (Int.le_refl 0) (Int.le_refl 0),hz,V5]
 ·simp only[Ae7] at h1 hcap htk;simp[execOp,ha.eval hx,ha.eval hy,Instr.sliceAt,Instr.slice,run_underlying ht,Instr.sliceBounds,CS (m:=Ae ys) _ _ g0 g1,hz,V5]
end
end
end Go.Proofs.YtoegakndmanfoaaGreatDoor.Q
namespace Go.Proofs.YtoegakndmanfoaaGreatDoor
open Go
def YF (k:IntKind)(x y:Int):Int:=k.wrap ((BitVec.ofInt k.bits x^^^BitVec.ofInt k.bits y).toNat:Int)
end Go.Proofs.YtoegakndmanfoaaGreatDoor
namespace Go.Proofs.YtoegakndmanfoaaGreatDoor.Q
open Go Go.RowKit
set_option linter.unusedVariables false
set_option linter.unusedSimpArgs false
set_option linter.unusedSectionVars false
variable{i:Nat}{α:Type}{enc:α→List Rp}{rs:List Rp}
section
variable [I : Dfr]
section
variable {P : Program} {n : Nat} {c : Cx} {Q : Exit → Act → World → Prop} {l : Fr} {H : List Ent} {x rest' : Code} {K : Act → World → Prop}
end
section
variable {P : Program} {n : Nat} {c : Cx} {ops : Array Oper} {Q : Exit → Act → World → Prop} {rest : List Oper} {l : Fr} {H H' : List Ent} {d : Nat} {d' : Option Nat} {x y z3 z4 : Operand} {ty t t' e : TypeId} {pos : String} {af : Array Edge} {g : Option (Nat × Bool)} {v u : Value} {r : Rp} {sz : Nat}
theorem SI {fs:Array Field}{f:Field}(hu:P.underlying t=Ad (.struct fs))(hf:fs[i]? =Ad f)(hag:∀w,(isAgg f.type).run P w = .ok Ah w)(hx:ev l x=Ad (BL rs))(hr:rs[f.offset]? =Ad r) :
  Cd P n c l H { dst:=d',op:=.field t x i,type:=ty,pos:=pos,after:=af,guard:=g } r:=λa w Z ha hw=>by
 obtain⟨us,e1,hus⟩:=ha.ev hx;obtain⟨v,hv,hp⟩:=hus.at hr;exact⟨v,hp,by simp[execOp,e1,Instr.field,run_underlying hu,hf,asAgg,part,hag,hv]⟩
theorem Vn {inf:TypeInfo}{z:Value}{zα:α}{rz:Rp}{kl kc:IntKind}{m bytes:Nat}(ht:P.underlying t=Ad (.slice e))(hinf:P.info? e=Ad inf)(hz:inf.zero=Ad z)(hsize:inf.size=1)(hby:inf.bytes=bytes)(hbp:Nat.blt 0 bytes=Af)
  (hzc:z.cells = #[z]) (henc:enc zα=[rz]) (hrz:∀Z,rz.p Z z)
  (hx:ev l x=Ad (rI kl m)) (hy:ev l y=Ad (rI kc m)) (hg:I0 bytes m=Af) (hn:Nat.blt d n=Af)
  (h:∀v',WL P n c ops Q rest ((d,rv v')::l) (.row v' e 1 ((Au m zα).map enc)::H)) :
  WL P n c ops Q ({ dst:=Ad d,op:=.makeSlice t x y,type:=ty,pos:=pos,after:=af,guard:=Ai }::rest) l H:=
 K7 (λa w Z ha hw=>by
  have hb:m*bytes≤140737488355328:=by simpa[I0] using hg
  have hbp':0<bytes:=by simpa using hbp
  have hle:m≤m*bytes:=Nat.le_mul_of_pos_right _ hbp';obtain⟨w',e1,e2,e3⟩:=run_make_full (P:=P) w 0 t e inf z 1 ht hinf hz hsize kl kc m (by rw[hby,Nat.mul_comm];omega) (by simp only[maxLen];omega) (AeR _);rw[hzc,toList_madeCells_one,Nat.mul_one] at e2;have hall:BH Z ((Au m zα).map enc).flatten (Au m z):=by
   clear e2 hle hb hg hx hy h e1
   induction m with
   | zero=>trivial
   | succ m ih=>rw[List.replicate_succ,List.replicate_succ,AeO,List.flatten_cons,henc];exact⟨hrz Z,ih⟩
  have hlen:∀cl∈(Au m zα).map enc,Ae cl=1:=λcl hcl=>by
   obtain⟨q,hq,rfl⟩:=List.mem_map.1 hcl;rw[(List.mem_replicate.1 hq).2,henc];rfl
  have hent:(Ent.row (.slice (Ad ⟨w.heap.size,0,Ai⟩) m m) e 1 ((Au m zα).map enc)).holds Z w':=⟨hlen,Au m z,by simpa using e2,hall⟩
  exact⟨.slice (Ad ⟨w.heap.size,0,Ai⟩) m m,w',rv (.slice (Ad ⟨w.heap.size,0,Ai⟩) m m),_,Z,by simp[execOp,ha.eval hx,ha.eval hy,e1],Fz.le.refl _,rfl,hw.add e3.os e3.tape e3.output e3.size (λk hk=>e3.block k hk Aj) hent (by simp[Ent.foot,Value.ownBlock]),h _⟩) hn
end
end
variable{U:Type}{Φ:Rp→List Ent→Prop}{id:Nat}{all:List Oper}{o:Oper}{rest ops:List Oper}
section
variable [I : Dfr]
structure Sx (U:Type) where
 deps:List Nat
 r:U→Rp
 dyn:Bool:=Ah
 old:List Nat:=[]
def En {U:Type}(sp:List (Sx U))(i:Nat):Sx U:=sp.getD i { deps:=[],r:=λ_=>rv undef }
def Nz {U:Type}(sp:List (Sx U))(u:U):List Sp:=sp.map λs=>⟨s.deps,s.r u,0⟩
def saU {U:Type}(sp:List (Sx U))(u:U):List Sa:=sp.map λs=>{ deps:=s.deps,r:=s.r u }
def LH {U:Type}:List (Sx U)→Prop
 | []=>True
 | s::r=>(s.dyn=Ah→∀u u',s.r u=s.r u')∧LH r
theorem LH.at {U:Type}:∀{sp:List (Sx U)},LH sp→∀{i:Nat} {s:Sx U},sp[i]? =Ad s→s.dyn=Ah→∀u u',s.r u=s.r u'
 | [],_,i,s,h=>by simp at h
 | x::sp,⟨h1,h2⟩,0,s,h=>by simp at h;subst h;exact h1
 | x::sp,⟨h1,h2⟩,i+1,s,h=>LH.at h2 (by simpa using h)
theorem Abf {ds os:List Nat}{r:Rp}{sp:List (Sx U)}(h:LH sp):LH ({ deps:=ds,r:=λ_=>r,old:=os }::sp):=⟨λ_ _ _=>rfl,h⟩
theorem Abe {ds os:List Nat}{r:U→Rp}{sp:List (Sx U)}(h:LH sp):LH ({ deps:=ds,r:=r,dyn:=Af,old:=os }::sp):=⟨λh'=>(by cases h'),h⟩
def Eb (lw:Fr):List Nat→Fr→Fr
 | [],l=>l
 | d::r,l=>match look lw d with
  | some q=>(d,q)::Eb lw r l
  | none=>Eb lw r l
theorem Ml {n:Nat}{lw l:Fr}{a:Act}{Z:Fz}(h0:DU n l a Z):∀{ds:List Nat},(∀d∈ds,∀q,look lw d=Ad q→∃v,a.tmps[d]? =Ad v∧q.p Z v)→DU n (Eb lw ds l) a Z
 | [],_=>h0
 | d::ds,h=>by
  have ih:=Ml h0 (ds:=ds) (λd' hd'=>h d' (by simp[hd']));unfold Eb
  cases hd:look lw d with
  | none=>exact ih
  | some q=>
   refine⟨ih.size,ih.defers,λi r hi=>?_⟩;rw[Ds] at hi
   split at hi
   ·rename_i e;subst e;simp at hi;subst hi;exact h d Aj q hd
   ·exact ih.tm i r hi
theorem Abd:LH ([]:List (Sx U)):=trivial
def okX (n:Nat)(ops:List Oper)(N i0:Nat)(keys:List Nat)(deps:List (List Nat))(dyns:List Bool)(olds:List (List Nat)):Bool:=
 No ops N&&Ac (N≤Ae ops)&&Ac (i0<N)&&
 (As N).all (λi=>match CD ops i with
  | some d=>Ac (d<n)&&!keys.contains d&&(As N).all (λj=>j ==i||CD ops j !=Ad d)
  | none=>Af)&&
 (As N).all (λi=>(deps.getD i []).all (λj=>Ac (j<N)&&(DH (ops.getD i default)).contains j))&&
 (As N).all (λi=>!dyns.getD i Ah||i ==i0||(DH (ops.getD i default)).any (λe=>Ac (e<N)&&(e ==i0||dyns.getD e Ah)))&&
 (As N).all (λi=>(olds.getD i []).all (λd=>(As N).all (λw=>CD ops w !=Ad d||(DH (ops.getD w default)).contains i)))
section
variable (P : Program) (n : Nat) (c : Cx) (opsA : Array Oper) (Q : Exit → Act → World → Prop)
def Zf {U:Type}(l:Fr)(H:List Ent)(o:Oper)(r:U→Rp)(H1:U→List Ent):Prop:=
 ∀a w Z (K:Act→World→Prop),DU n l a Z→St c H Z w→(∀u v w' Z',Fz.le Z Z'→(r u).p Z' v→St c (H1 u) Z' w'→K (a.put o.dst v) w')→
  Region.wanted o (yielded opsA a.tmps)=Af∧o.wp P a w K Q
def Kv {U:Type}(ops:List Oper)(sp:List (Sx U))(l0 lw:Fr)(i0:Nat)(H:List Ent)(H1:U→List Ent):Nat→List Oper→Prop
 | i,o::rest=>(if i=i0 then(∀u,Zf P n c opsA Q (Eb lw (En sp i).old (CA ops (Nz sp u) (En sp i).deps l0)) H o (En sp i).r H1) else ∀u H',(H'=H∨H'=H1 u)→Ef P n c opsA Q (Eb lw (En sp i).old (CA ops (Nz sp u) (En sp i).deps l0)) H' o ((En sp i).r u) H')∧Kv ops sp l0 lw i0 H H1 (i+1) rest
 | _,[]=>True
end
section
variable {P : Program} {n : Nat} {c : Cx} {opsA : Array Oper} {Q : Exit → Act → World → Prop} {l l0 lw : Fr} {U : Type} {H : List Ent} {H1 : U → List Ent} {sp : List (Sx U)} {i0 : Nat}
theorem Kv.at {ops:List Oper}:∀{k:Nat} {rest:List Oper},Kv P n c opsA Q ops sp l0 lw i0 H H1 k rest→∀(t:Nat) o,rest[t]? =Ad o→
  (if k+t=i0 then(∀u,Zf P n c opsA Q (Eb lw (En sp (k+t)).old (CA ops (Nz sp u) (En sp (k+t)).deps l0)) H o (En sp (k+t)).r H1) else ∀u H',(H'=H∨H'=H1 u)→Ef P n c opsA Q (Eb lw (En sp (k+t)).old (CA ops (Nz sp u) (En sp (k+t)).deps l0)) H' o ((En sp (k+t)).r u) H')
 | k,o::rest,⟨h1,h2⟩,t,o',ht=>by
  cases t with
  | zero=>simp at ht;subst ht;exact h1
  | succ t=>
   have:=Kv.at h2 t o' (by simpa using ht);rw[show k+(t+1)=k+1+t from Ab];exact this
 | _,[],_,t,o,h=>by simp at h
theorem XM [Inhabited U](N i0:Nat)(sp:List (Sx U))(hm:P.follows .mixedOrders=Af)(hB:okX n ops N i0 (Es l0) (sp.map (·.deps)) (sp.map (·.dyn)) (sp.map (·.old))=Af)(hl0:ND l0 l)(hlw:ND lw l)(hsp:Ae sp=N)(hst:LH sp)
  (hob:Kv P n c ops.toArray Q ops sp l0 lw i0 H H1 0 (ops.take N)) (h:∀u,WL P n c ops.toArray Q (ops.drop N) (I1 (λ_=>0) (ops.take N) (saU sp u) 0 l0) (H1 u)):WC P n c (.region id ops.toArray Af) Q l H:=by
 intro a w Z ha hw;simp only[okX,Ae9,AeJ,List.mem_range,AeA] at hB;obtain⟨⟨⟨⟨⟨⟨b1,bN⟩,b0⟩,b2⟩,b3⟩,b4⟩,b5⟩:=hB;have hget:∀i,i<N→(ops.take N)[i]? =ops[i]?:=λi hi=>by rw[AeF,AeX hi]
 have hsa:∀i,i<N→sp[i]? =Ad (En sp i):=λi hi=>by
  simp[En,Ae2,Ae3 (show i<Ae sp by omega)]
 have hspq:∀u i,i<N→(E4 (Nz sp u) i)=⟨(En sp i).deps,(En sp i).r u,0⟩:=λu i hi=>by
  simp[E4,Nz,Ae2,AeC,hsa i hi]
 have hdyn:∀j,j<N→(sp.map (·.dyn)).getD j Ah=(En sp j).dyn:=λj hj=>by simp[Ae2,AeC,hsa j hj]
 have hdep:∀j,j<N→(sp.map (·.deps)).getD j []=(En sp j).deps:=λj hj=>by simp[Ae2,AeC,hsa j hj]
 have hops:∀j,j<N→∃o,ops[j]? =Ad o:=λj hj=>⟨ops[j]'(Ab),Ae3 Ab⟩
 have hdst:∀i o d,i<N→ops[i]? =Ad o→o.dst=Ad d→(d<n∧d ∉ Es l0)∧∀j,j<N→j≠i→CD ops j≠Ad d:=λi o d hi ho hd=>by
  have h3:=b2 i hi;have:CD ops i=Ad d:=by simp[CD,ho,hd]
  rw[this] at h3;simp only[Ae9,AeU,AeJ,List.mem_range,AeA] at h3;refine⟨⟨h3.1.1,λhmem=>by rw[← List.contains_iff_mem] at hmem;rw[hmem] at h3;cases h3.1.2⟩,λj hj hne he=>?_⟩;have:=h3.2 j hj;simp[hne,he] at this
 refine OD (N:=N) hm b1 bN (λS a w=>∃ (u:U) (Z:Fz),St c (if S i0=Af then H1 u else H) Z w∧DU n l0 a Z∧(∀j o d,j<N→S j=Af→ops[j]? =Ad o→o.dst=Ad d→∃v,a.tmps[d]? =Ad v∧((En sp j).r u).p Z v)∧
   (∀j,j<N→(En sp j).dyn=Af→S j=Af→S i0=Af)∧
   (∀d q,look lw d=Ad q→(∀wr,wr<N→CD ops wr=Ad d→S wr=Ah)→∃v,a.tmps[d]? =Ad v∧q.p Z v)∧
   ∀wr i d,wr<N→i<N→CD ops wr=Ad d→d∈(En sp i).old→S wr=Af→S i=Af)
  (λS S' a w hS hI=>?_) ⟨default,Z,?_,ha.subL hl0,λj o d _ hS=>(by cases hS),λj _ _ hS=>(by cases hS),λd q hd _=>(ha.subL hlw).tm d q hd,λwr i d _ _ _ _ hS=>(by cases hS)⟩ (λS i o a w hi hun ho hb hI K hK=>?_) (λa w hI=>?_)
 ·obtain⟨u,Z,h1,h2,h3,h4,h5,h6⟩:=hI;refine⟨u,Z,?_,h2,λj o d hj hS'=>h3 j o d hj (by rw[hS j hj];exact hS'),λj hj hd hSj=>?_,λd q hd hw'=>h5 d q hd (λwr hwr hdw=>by rw[hS wr hwr];exact hw' wr hwr hdw),λwr i d hwr hi hdw hold hSw=>by rw[← hS i hi];exact h6 wr i d hwr hi hdw hold (by rw[hS wr hwr];exact hSw)⟩
  ·rw[← hS i0 b0];exact h1
  ·rw[← hS i0 b0];exact h4 j hj hd (by rw[hS j hj];exact hSj)
 ·exact hw.drawn _
 ·obtain⟨u,Z,h1,h2,h3,hx,ho5,ho6⟩:=hI;have hput:∀k u v,a.tmps[k]? =Ad u→o.dst≠Ad k→(a.put o.dst v).tmps[k]? =Ad u:=λk u v hk hne=>by
   cases hd:o.dst with
   | none=>simpa[Act.put] using hk
   | some d=>
    simp only[Act.put,Array.getElem?_setIfInBounds];rw[AeN (λe=>hne (by rw[hd,e]))];exact hk
  have hagr:∀v Z',Fz.le Z Z'→DU n l0 (a.put o.dst v) Z':=λv Z' hz=>by
   refine⟨?_,?_,λk r hk=>?_⟩
   ·cases o.dst<;>simp[Act.put,h2.size]
   ·cases o.dst<;>simp[Act.put,h2.defers]
   ·obtain⟨u,hu,hpu⟩:=h2.tm k r hk;exact⟨u,hput k u v hu (λe=>((hdst i o k hi ho e).1).2 (HJ hk)),r.mono hz hpu⟩
  have hvals:∀(v:Value) (Z':Fz) (u':U),Fz.le Z Z'→(∀j,j<N→j≠i→S j=Af→(En sp j).r u'=(En sp j).r u)→(o.dst≠Ai→((En sp i).r u').p Z' v)→∀j o' d,j<N→(j ==i||S j)=Af→ops[j]? =Ad o'→o'.dst=Ad d→∃q,(a.put o.dst v).tmps[d]? =Ad q∧((En sp j).r u').p Z' q:=by
   intro v Z' u' hz hβ hp j o' d hj hS' ho' hd
   by_cases hji:j=i
   ·subst hji;rw[ho] at ho';simp at ho';subst ho';refine⟨v,?_,hp (by simp[hd])⟩;have hdn:d<a.tmps.size:=by rw[h2.size];exact(hdst j o d hi ho hd).1.1
    simp[Act.put,hd,hdn]
   ·have hSj:S j=Af:=by simpa[hji] using hS'
    obtain⟨q,hu,hpu⟩:=h3 j o' d hj hSj ho' hd;refine⟨q,hput d q v hu (λe=>(hdst i o d hi ho e).2 j hj hji (by simp[CD,ho',hd])),?_⟩;rw[hβ j hj hji hSj];exact((En sp j).r u).mono hz hpu
  have hat:=hob.at i o (by rw[hget i hi];exact ho);rw[AeK] at hat;have hold':∀Z',Fz.le Z Z'→∀v d q,look lw d=Ad q→(∀wr,wr<N→CD ops wr=Ad d→(wr ==i||S wr)=Ah)→∃v',(a.put o.dst v).tmps[d]? =Ad v'∧q.p Z' v':=λZ' hz v d q hd hw'=>by
   obtain⟨v',e1,e2⟩:=ho5 d q hd (λwr hwr hdw=>by have:=hw' wr hwr hdw;simp only[Bool.or_eq_false_iff] at this;exact this.2);refine⟨v',hput d v' v e1 (λe=>?_),q.mono hz e2⟩;have:=hw' i hi (by simp[CD,ho,e]);simp at this
  have hord:∀wr k d,wr<N→k<N→CD ops wr=Ad d→d∈(En sp k).old→(wr ==i||S wr)=Af→(k ==i||S k)=Af:=λwr k d hwr hk hdw hmem hSw=>by
   by_cases hwi:wr=i
   ·subst hwi;have h7:=b5 k hk d (by simpa[Ae2,AeC,hsa k hk] using hmem) wr hwr;simp only[AeM,bne_iff_ne,ne_eq,hdw,not_true_eq_false,false_or] at h7;rw[Ae2,ho,AeE,List.contains_iff_mem] at h7;simp[(hb k h7).2]
   ·have:S k=Af:=ho6 wr k d hwr hk hdw hmem (by simpa[hwi] using hSw);simp[this]
  have hag':DU n (Eb lw (En sp i).old (CA ops (Nz sp u) (En sp i).deps l0)) a Z:=Ml (Iq h2 (λj hj d hd=>by
    obtain⟨h5,h6⟩:=b3 i hi j (by rw[hdep i hi];exact hj);rw[Ae2,ho,AeE,List.contains_iff_mem] at h6;obtain⟨o2,ho2⟩:=hops j h5;obtain⟨v,hv1,hv2⟩:=h3 j o2 d h5 (hb j h6).2 ho2 (by simpa[CD,ho2] using hd);refine⟨v,hv1,?_⟩;rw[hspq u j h5];exact hv2)) (λd hd q hq=>ho5 d q hq (λwr hwr hdw=>by
     cases hS:S wr with
     | false=>rfl
     | true=>have:=ho6 wr i d hwr hi hdw hd hS;rw[this] at hun;cases hun))
  by_cases hi0:i=i0
  ·subst hi0;rw[AeX rfl] at hat;rw[hun] at h1;have h1':St c H Z w:=by simpa using h1
   have key:=λK' hK'=>hat u a w Z K' hag' h1' hK';have h5:∀u' v w' Z',Fz.le Z Z'→((En sp i).r u').p Z' v→St c (H1 u') Z' w'→K (a.put o.dst v) w':=λu' v w' Z' hz hpv hs'=>by
    refine hK _ _ ⟨u',Z',by simpa using hs',hagr v Z' hz,hvals v Z' u' hz (λj hj hji hSj=>?_) (λ_=>hpv),λj _ _ _=>by simp,hold' Z' hz v,hord⟩;refine hst.at (hsa j hj) ?_ u' u
    cases hd:(En sp j).dyn with
    | false=>rfl
    | true=>have:=hx j hj hd hSj;rw[this] at hun;cases hun
   refine⟨λ_=>(key K h5).2,λhw'=>?_⟩;rw[(key K h5).1] at hw';cases hw'
  ·rw[AeN hi0] at hat;refine hat u _ (by split;exact .inr rfl;exact .inl rfl) a w Z K hag' h1 (λv w' Z' hz hp hst'=>hK _ _ ⟨u,Z',?_,hagr v Z' hz,hvals v Z' u hz (λ_ _ _ _=>rfl) (λ_=>hp),λj hj hd hSj=>?_,hold' Z' hz v,hord⟩)
   ·have hiS:(i0 ==i||S i0)=S i0:=by
     have:(i0 ==i)=Ah:=by simpa using λe=>hi0 e.symm
     rw[this];rfl
    show St c (if (i0 ==i||S i0)=Af then H1 u else H) Z' w';rw[hiS];exact hst'
   ·have hii:(i0 ==i)=Ah:=by simpa using λe=>hi0 e.symm
    show(i0 ==i||S i0)=Af;rw[hii,AeH]
    by_cases hji:j=i
    ·subst hji;have h7:=b4 j hj;rw[hdyn j hj,hd] at h7;simp only[AeD,AeH,AeM,beq_iff_eq,hi0,false_or,List.any_eq_true,Ae9,AeA] at h7;obtain⟨e,he,heN,h8⟩:=h7;rw[Ae2,ho,AeE] at he;have hSe:=(hb e he).2;rcases h8 with h8 | h8
     ·subst h8;exact hSe
     ·rw[hdyn e heN] at h8;exact hx e heN h8 hSe
    ·exact hx j hj hd (by simpa[hji] using hSj)
 ·obtain⟨u,Z,h1,h2,h3,_,_,_⟩:=hI;have hsl:Ae (saU sp u)=N:=by simp[saU,hsp]
  refine h u a w Z (Lf h2 _ _ 0 (λt o s d ht hs hd=>?_)) (by simpa using h1);have htN:t<N:=by have:=(List.getElem?_eq_some_iff.1 hs).1;omega
  have hs':s = { deps:=(En sp t).deps,r:=(En sp t).r u }:=by
   simp only[saU,AeC,hsa t htN,Option.map_some,Option.some.injEq] at hs;exact hs.symm
  subst hs';rw[AeK];exact h3 t o d htN rfl (by rw[← hget t htN];exact ht) hd
theorem M9 [Inhabited U](N i0:Nat)(ks0 ksw:List Nat)(sp:List (Sx U))(H1:U→List Ent)(hob:Kv P n c ops.toArray Q ops sp l0 lw i0 H H1 0 (ops.take N))(h:∀u,WL P n c ops.toArray Q (ops.drop N) (I1 (λ_=>0) (ops.take N) (saU sp u) 0 l0) (H1 u))
  (h0:Kp ks0 l l0:=by repeat (first | exact JY | (apply Iy;rfl) | (apply Jx;rfl))) (hw:Kp ksw l lw:=by repeat (first | exact JY | (apply Iy;rfl) | (apply Jx;rfl))) (hm:P.follows .mixedOrders=Af:=by kernel_rfl) (hB:okX n ops N i0 (Es l0) (sp.map (·.deps)) (sp.map (·.dyn)) (sp.map (·.old))=Af:=by kernel_rfl)
  (hsp:Ae sp=N:=by rfl) (hst:LH sp:=by repeat (first | exact Abd | apply Abf | apply Abe)):WC P n c (.region id ops.toArray Af) Q l H:=XM N i0 sp hm hB h0.one hw.one hsp hst hob h
theorem LQ {d:Nat}{op:Op}{ty:TypeId}{pos:String}{af:Array Edge}(hr:∀{u H},Cd P n c (Eb lw (En sp i).old (CA all (Nz sp u) (En sp i).deps l0)) H { dst:=Ad d,op:=op,type:=ty,pos:=pos,after:=af,guard:=Ai } ((En sp i).r u))(h:Kv P n c opsA Q all sp l0 lw i0 H H1 (i+1) rest)(hne:Nat.beq i i0=Ah:=by rfl) :
  Kv P n c opsA Q all sp l0 lw i0 H H1 i ({ dst:=Ad d,op:=op,type:=ty,pos:=pos,after:=af,guard:=Ai }::rest):=by
 refine⟨?_,h⟩;rw[AeN (λe=>by subst e;simp at hne)];exact λu H _=>C6 hr
theorem oxc (hr:∀{u H},Ef P n c opsA Q (Eb lw (En sp i).old (CA all (Nz sp u) (En sp i).deps l0)) H o ((En sp i).r u) H)(h:Kv P n c opsA Q all sp l0 lw i0 H H1 (i+1) rest)(hne:Nat.beq i i0=Ah:=by rfl):Kv P n c opsA Q all sp l0 lw i0 H H1 i (o::rest):=by
 refine⟨?_,h⟩;rw[AeN (λe=>by subst e;simp at hne)];exact λu H _=>hr
theorem Ra (hr:∀{u},Ef P n c opsA Q (Eb lw (En sp i).old (CA all (Nz sp u) (En sp i).deps l0)) H o ((En sp i).r u) H)(hr1:∀{u},Ef P n c opsA Q (Eb lw (En sp i).old (CA all (Nz sp u) (En sp i).deps l0)) (H1 u) o ((En sp i).r u) (H1 u))(h:Kv P n c opsA Q all sp l0 lw i0 H H1 (i+1) rest)(hne:Nat.beq i i0=Ah:=by rfl):Kv P n c opsA Q all sp l0 lw i0 H H1 i (o::rest):=by
 refine⟨?_,h⟩;rw[AeN (λe=>by subst e;simp at hne)];intro u H' hH';rcases hH' with e | e
 ·subst e;exact hr
 ·subst e;exact hr1
theorem oxx (hr:∀{u},Zf P n c opsA Q (Eb lw (En sp i0).old (CA all (Nz sp u) (En sp i0).deps l0)) H o (En sp i0).r H1)(h:Kv P n c opsA Q all sp l0 lw i0 H H1 (i0+1) rest):Kv P n c opsA Q all sp l0 lw i0 H H1 i0 (o::rest):=by
 refine⟨?_,h⟩;rw[AeX rfl];exact λu=>hr
theorem oxe:Kv P n c opsA Q all sp l0 lw i0 H H1 i []:=trivial
end
section
variable {P : Program} {n : Nat} {c : Cx} {opsA : Array Oper} {Q : Exit → Act → World → Prop} {l : Fr} {H : List Ent} {d : Nat} {x y : Operand} {ty t e : TypeId} {pos : String} {af : Array Edge} {v : Value} {sz : Nat}
theorem K4 {xs ys:List α}{inf:TypeInfo}{z:Value}{bytes:Nat}(ht:P.underlying t=Ad (.slice e))(hinf:P.info? e=Ad inf)(hz:inf.zero=Ad z)(hsize:inf.size=sz)(hby:inf.bytes=bytes)(hzs:z.cells.size=sz)(hsz:Nat.blt 0 sz=Af)(hbp:Nat.blt 0 bytes=Af)
  (hx:ev l x=Ad (rv v)) (hi:H[i]? =Ad (.row v e sz (xs.map enc))) (hy:J2 P n c l H y sz (Ae ys) (ys.map enc).flatten) (henc:∀z,Ae (enc z)=sz) (hone:∀z,(enc z).all (·.one)=Af) (hg:I0 bytes (Ae xs+Ae ys)=Af) :
  Zf P n c opsA Q l H { dst:=Ad d,op:=.call { callee:=.builtin .append,args:=#[x,y],argTypes:=#[t,t] },type:=ty,pos:=pos,after:=af,guard:=Ai } (λv'=>rv v') (λv'=>.row v' e sz ((xs++ys).map enc)::H.eraseIdx i):=λa w Z K ha hw hK=>by
  obtain⟨h0,us,h1,h2⟩:=hw.ent hi;obtain⟨ws,h3,h4⟩:=hy a w Z ha hw;have hsz':0<sz:=by simpa using hsz
  have hbp':0<bytes:=by simpa using hbp
  have hb:(Ae xs+Ae ys)*bytes≤140737488355328:=by simpa[I0] using hg
  have hle:Ae xs+Ae ys≤(Ae xs+Ae ys)*bytes:=Nat.le_mul_of_pos_right _ hbp';have hws:∀y∈ws,y.oneCell'=Af:=BH.one (rs:=(ys.map enc).flatten) (by
   rw[AeJ];intro r hr;obtain⟨cl,hcl,hrc⟩:=List.mem_flatten.1 hr;obtain⟨z',_,rfl⟩:=List.mem_map.1 hcl;exact List.all_eq_true.1 (hone z') r hrc) h3
  have hxl:Ae (xs.map enc)=Ae xs:=Ae7 ..;rw[hxl] at h1;obtain⟨v',w',e1,e2,e3,e4⟩:=EP (P:=P) ty ht hinf hz hsize hby hzs hsz' h1 h4 hws hb (by simp only[maxLen];omega);have hent:(Ent.row v' e sz ((xs++ys).map enc)).holds Z w':=⟨λcl hcl=>by obtain⟨z',_,rfl⟩:=List.mem_map.1 hcl;exact henc z',us++ws,by simpa using e2,by rw[List.map_append,List.flatten_append];exact h2.append h3⟩
  have hst:=hw.callF hi (St.one (e':=.row v' e sz ((xs++ys).map enc)) (M:=(Ent.row v e sz (xs.map enc)).foot) hw.frz hw.env hw.emono e3.os e3.tape e3.output e3.size (λk hk hne=>e3.block k hk (λe1=>hne (by simp[Ent.foot,← e1])))
   (hw.zdis _ (AeB hi)) hent (λk hk=>by
    simp only[Ent.foot,Option.mem_toList] at hk ⊢;rcases e4 with e4 | e4
    ·exact .inl (e4▸hk)
    ·exact .inr (e4 k hk)))
  refine⟨by simp[Region.wanted],?_⟩;unfold Oper.wp;rw[show(execOp a.eval { dst:=Ad d,op:=.call { callee:=.builtin .append,args:=#[x,y],argTypes:=#[t,t] },type:=ty,pos:=pos,after:=af,guard:=Ai }).run P w = .ok (.value v') w' from by simp[execOp,resolve,invoke,builtin,ha.eval hx,e1]];exact hK v' v' w' Z (Fz.le.refl _) rfl hst
theorem ZK {f:FuncId}{args:List Operand}{ats:Array TypeId}{r:U→Rp}{Ho:U→List Ent}{Hin Hr:List Ent}(hcall:∀(as1:Array Value) (w:World),(callFunc f as1).run P w = .ok (.enter f as1) w)(hv:Jy l args=Ad rs)
  (hp:H.Perm (Hin++Hr)) (hc:Fn P c.E f rs Hin Φ) (hΦ:∀r' H',Φ r' H'→∃u,r'=r u∧H'=Ho u):Zf P n c opsA Q l H { dst:=Ad d,op:=.call { callee:=.value (.func f),args:=args.toArray,argTypes:=ats },type:=ty,pos:=pos,after:=af,guard:=Ai } r (λu=>Ho u++Hr):=λa w Z K ha hw hK=>by
 refine⟨by simp[Region.wanted],?_⟩;unfold Oper.wp;rw[EW rfl hcall w];refine(hc w Z _ (E9 ha hv) (hw.perm hp).enter).mono ?_;rintro e w' ⟨r',v,H',Z',rfl,hΦ',hr,hs⟩;obtain⟨u,rfl,rfl⟩:=hΦ r' H' hΦ';exact hK u v w' Z' hs.le hr ((hw.perm hp).call hs)
end
end
section
variable [I : Dfr]
abbrev Ux:=Nat→Nat→Value×Nat
def Ag (k:Nat)(u u':Ux):Prop:=∀j,j<k→u j=u' j
def ux (u:Ux)(k:Nat)(f:List (Value×Nat)):Ux:=λj=>bif Nat.beq j k then λq=>f.getD q (undef,0) else u j
theorem JE {u:Ux}{k:Nat}{f:List (Value×Nat)}:Ag k u (ux u k f):=λj hj=>by
 unfold ux;have:Nat.beq j k=Ah:=by
  cases h:Nat.beq j k with
  | false=>rfl
  | true=>have:=Nat.eq_of_beq_eq_true h;omega
 rw[this];rfl
structure Sy where
 deps:List Nat
 r:Ux→Rp
 lv:Nat:=0
 fx:Bool:=Ah
 old:List Nat:=[]
def Gn (sp:List Sy)(i:Nat):Sy:=sp.getD i { deps:=[],r:=λ_=>rv undef }
def Xw (sp:List Sy)(u:Ux):List Sp:=sp.map λs=>⟨s.deps,s.r u,0⟩
def saY (sp:List Sy)(u:Ux):List Sa:=sp.map λs=>{ deps:=s.deps,r:=s.r u }
def Ox:List Sy→Prop
 | []=>True
 | s::r=>(∀u u',Ag s.lv u u'→s.r u=s.r u')∧Ox r
theorem Ox.at:∀{sp:List Sy},Ox sp→∀{i:Nat} {s:Sy},sp[i]? =Ad s→∀u u',Ag s.lv u u'→s.r u=s.r u'
 | [],_,i,s,h=>by simp at h
 | x::sp,⟨h1,h2⟩,0,s,h=>by simp at h;subst h;exact h1
 | x::sp,⟨h1,h2⟩,i+1,s,h=>Ox.at h2 (by simpa using h)
theorem HZ {r:Rp}{m:Nat}:∀u u':Ux,Ag m u u'→(λ_:Ux=>r) u=(λ_:Ux=>r) u':=λ_ _ _=>rfl
def okY (n:Nat)(ops:List Oper)(N:Nat)(is keys:List Nat)(deps:List (List Nat))(lvs:List Nat)(fxs:List Bool)(olds:List (List Nat)):Bool:=
 let cl:=Kh ops []
 No ops N&&Ac (N≤Ae ops)&&is.all (λi=>Ac (i<N))&&decide is.Nodup&&
 (As (Ae is)).all (λk=>k ==0||(cl.getD (is.getD k 0) 0).testBit (is.getD (k-1) 0))&&
 (As N).all (λi=>match CD ops i with
  | some d=>Ac (d<n)&&!keys.contains d&&(As N).all (λj=>j ==i||CD ops j !=Ad d)
  | none=>Af)&&
 (As N).all (λi=>(deps.getD i []).all (λj=>Ac (j<N)&&(DH (ops.getD i default)).contains j))&&
 (As N).all (λi=>Ac (lvs.getD i 0≤Ae is)&&(lvs.getD i 0 ==0||i ==is.getD (lvs.getD i 0-1) 0||(cl.getD i 0).testBit (is.getD (lvs.getD i 0-1) 0)))&&
 (As N).all (λi=>!fxs.getD i Ah||lvs.getD i 0 ==Ae is||(cl.getD (is.getD (lvs.getD i 0) 0) 0).testBit i)&&
 (As N).all (λi=>(olds.getD i []).all (λd=>(As N).all (λw=>CD ops w !=Ad d||(DH (ops.getD w default)).contains i)))
def Ti (S:Nat→Bool)(is:List Nat):Nat:=Ae (is.filter S)
theorem Nn {S:Nat→Bool}{is:List Nat}{k:Nat}(hk:k≤Ae is)(h1:∀j (h:j<Ae is),j<k→S is[j]=Af)(h2:∀j (h:j<Ae is),k≤j→S is[j]=Ah):Ti S is=k:=by
 unfold Ti;rw[← Afd k is,List.filter_append,List.filter_eq_self.2 (λx hx=>?_),List.filter_eq_nil_iff.2 (λx hx=>?_)]
 ·simp;omega
 ·obtain⟨j,hj⟩:=List.mem_iff_getElem?.1 hx;rw[List.getElem?_drop] at hj;obtain⟨h3,h4⟩:=List.getElem?_eq_some_iff.1 hj;have:=h2 (k+j) h3 Ab;rw[h4] at this;simp[this]
 ·obtain⟨j,hj⟩:=List.mem_iff_getElem?.1 hx;rw[AeF] at hj
  split at hj
  ·rename_i hjk
   obtain⟨h3,h4⟩:=List.getElem?_eq_some_iff.1 hj;have:=h1 j h3 hjk;rw[h4] at this;exact this
  ·cases hj
theorem Ou {S S':Nat→Bool}{is:List Nat}(h:∀i∈is,S i=S' i):Ti S is=Ti S' is:=by
 unfold Ti;rw[List.filter_congr h]
section
variable (P : Program) (n : Nat) (c : Cx) (opsA : Array Oper) (Q : Exit → Act → World → Prop)
def OpY (l:Fr)(H:List Ent)(o:Oper)(k:Nat)(u:Ux)(r:Ux→Rp)(H1:Ux→List Ent):Prop:=
 ∀a w Z (K:Act→World→Prop),DU n l a Z→St c H Z w→(∀u' v w' Z',Ag k u u'→Fz.le Z Z'→(r u').p Z' v→St c (H1 u') Z' w'→K (a.put o.dst v) w')→
  Region.wanted o (yielded opsA a.tmps)=Af∧o.wp P a w K Q
def ObY (ops:List Oper)(sp:List Sy)(l0 lw:Fr)(is:List Nat)(hs:List (Ux→List Ent))(i:Nat)(o:Oper):Prop:=
 match is.findIdx? (λx=>Nat.beq x i) with
 | some k=>∀u,OpY P n c opsA Q (Eb lw (Gn sp i).old (CA ops (Xw sp u) (Gn sp i).deps l0)) (hs.getD k (λ_=>[]) u) o k u (Gn sp i).r (hs.getD (k+1) (λ_=>[]))
 | none=>if (Gn sp i).fx=Af then ∀u,Ef P n c opsA Q (Eb lw (Gn sp i).old (CA ops (Xw sp u) (Gn sp i).deps l0)) (hs.getD (Gn sp i).lv (λ_=>[]) u) o ((Gn sp i).r u) (hs.getD (Gn sp i).lv (λ_=>[]) u)
  else ∀u k,k≤Ae is→Ef P n c opsA Q (Eb lw (Gn sp i).old (CA ops (Xw sp u) (Gn sp i).deps l0)) (hs.getD k (λ_=>[]) u) o ((Gn sp i).r u) (hs.getD k (λ_=>[]) u)
def Ku (ops:List Oper)(sp:List Sy)(l0 lw:Fr)(is:List Nat)(hs:List (Ux→List Ent)):Nat→List Oper→Prop
 | i,o::rest=>ObY P n c opsA Q ops sp l0 lw is hs i o∧Ku ops sp l0 lw is hs (i+1) rest
 | _,[]=>True
end
section
variable {P : Program} {n : Nat} {c : Cx} {opsA : Array Oper} {Q : Exit → Act → World → Prop} {l l0 lw : Fr} {H : List Ent} {hs : List (Ux → List Ent)} {sp : List Sy} {is : List Nat}
theorem Ku.at {ops:List Oper}:∀{k:Nat} {rest:List Oper},Ku P n c opsA Q ops sp l0 lw is hs k rest→∀(t:Nat) o,rest[t]? =Ad o→ObY P n c opsA Q ops sp l0 lw is hs (k+t) o
 | k,o::rest,⟨h1,h2⟩,t,o',ht=>by
  cases t with
  | zero=>simp at ht;subst ht;exact h1
  | succ t=>
   have:=Ku.at h2 t o' (by simpa using ht);rw[show k+(t+1)=k+1+t from Ab];exact this
 | _,[],_,t,o,h=>by simp at h
theorem XK (N:Nat)(is:List Nat)(sp:List Sy)(hs:List (Ux→List Ent))(hm:P.follows .mixedOrders=Af)(hB:okY n ops N is (Es l0) (sp.map (·.deps)) (sp.map (·.lv)) (sp.map (·.fx)) (sp.map (·.old))=Af)(hl0:ND l0 l)(hlw:ND lw l)(hsp:Ae sp=N)(hst:Ox sp)
    (hH:∀u,hs.getD 0 (λ_=>[]) u=H) (hob:Ku P n c ops.toArray Q ops sp l0 lw is hs 0 (ops.take N)) (h:∀u,WL P n c ops.toArray Q (ops.drop N) (I1 (λ_=>0) (ops.take N) (saY sp u) 0 l0) (hs.getD (Ae is) (λ_=>[]) u)):WC P n c (.region id ops.toArray Af) Q l H:=by
  intro a w Z ha hw;simp only[okY,Ae9,AeJ,List.mem_range,AeA] at hB;obtain⟨⟨⟨⟨⟨⟨⟨⟨⟨b1,bN⟩,bis⟩,N1⟩,bch⟩,b2⟩,b3⟩,b4⟩,b6⟩,b5⟩:=hB;have hget:∀i,i<N→(ops.take N)[i]? =ops[i]?:=λi hi=>by rw[AeF,AeX hi]
  have hsa:∀i,i<N→sp[i]? =Ad (Gn sp i):=λi hi=>by
    simp[Gn,Ae2,Ae3 (show i<Ae sp by omega)]
  have hspq:∀u i,i<N→(E4 (Xw sp u) i)=⟨(Gn sp i).deps,(Gn sp i).r u,0⟩:=λu i hi=>by
    simp[E4,Xw,Ae2,AeC,hsa i hi]
  have hlv:∀j,j<N→(sp.map (·.lv)).getD j 0=(Gn sp j).lv:=λj hj=>by simp[Ae2,AeC,hsa j hj]
  have hfx:∀j,j<N→(sp.map (·.fx)).getD j Ah=(Gn sp j).fx:=λj hj=>by simp[Ae2,AeC,hsa j hj]
  have hdep:∀j,j<N→(sp.map (·.deps)).getD j []=(Gn sp j).deps:=λj hj=>by simp[Ae2,AeC,hsa j hj]
  have hops:∀j,j<N→∃o,ops[j]? =Ad o:=λj hj=>⟨ops[j]'(Ab),Ae3 Ab⟩
  have hisN:∀k (hk:k<Ae is),is[k]<N:=λk hk=>bis _ (List.getElem_mem hk);have hisD:∀k (hk:k<Ae is),is.getD k 0=is[k]:=λk hk=>by rw[Ae2,Ae3 hk];rfl
  have hdst:∀i o d,i<N→ops[i]? =Ad o→o.dst=Ad d→(d<n∧d ∉ Es l0)∧∀j,j<N→j≠i→CD ops j≠Ad d:=λi o d hi ho hd=>by
    have h3:=b2 i hi;have:CD ops i=Ad d:=by simp[CD,ho,hd]
    rw[this] at h3;simp only[Ae9,AeU,AeJ,List.mem_range,AeA] at h3;refine⟨⟨h3.1.1,λhmem=>by rw[← List.contains_iff_mem] at hmem;rw[hmem] at h3;cases h3.1.2⟩,λj hj hne he=>?_⟩;have:=h3.2 j hj;simp[hne,he] at this
  have clo:∀S:Nat→Bool,(∀t o,ops[t]? =Ad o→S t=Af→∀e∈DH o,S e=Af)→∀j i,((Kh ops []).getD j 0).testBit i=Af→S j=Af→S i=Af:=λS hc j i hb hj=>
    G0 ops (λk=>S k=Af) ops [] (λt o ht e he hF=>hc t o ht (by simpa using hF) e he) (λj i hb=>by simp at hb) j i hb hj
  have pre1:∀S:Nat→Bool,(∀t o,ops[t]? =Ad o→S t=Af→∀e∈DH o,S e=Af)→∀k (hk:k<Ae is),S is[k]=Af→∀j (hj:j<Ae is),j≤k→S is[j]=Af:=by
    intro S hc k
    induction k with
    | zero=>
              intro hk h0 j hj hle;have:j=0:=Ab
              subst this;exact h0
    | succ k ih=>
      intro hk h0 j hj hle
      by_cases e:j=k+1
      · subst e;exact h0
      · have h3:=bch (k+1) hk
        rw[hisD (k+1) hk] at h3;simp only[AeM,beq_iff_eq,Nat.succ_ne_zero,false_or,Nat.add_sub_cancel] at h3;rw[hisD k Ab] at h3;exact ih Ab (clo S hc _ _ h3 h0) j hj Ab
  refine OD (N:=N) hm b1 bN (λS a w=>∃ (u:Ux) (Z:Fz),St c (hs.getD (Ti S is) (λ_=>[]) u) Z w∧DU n l0 a Z∧(∀j o d,j<N→S j=Af→ops[j]? =Ad o→o.dst=Ad d→∃v,a.tmps[d]? =Ad v∧((Gn sp j).r u).p Z v)∧
      (∀t o,t<N→ops[t]? =Ad o→S t=Af→∀e∈DH o,e<t∧S e=Af)∧
      (∀d q,look lw d=Ad q→(∀wr,wr<N→CD ops wr=Ad d→S wr=Ah)→∃v,a.tmps[d]? =Ad v∧q.p Z v)∧
      ∀wr i d,wr<N→i<N→CD ops wr=Ad d→d∈(Gn sp i).old→S wr=Af→S i=Af)
    (λS S' a w hS hI=>?_) ⟨default,Z,?_,ha.subL hl0,λj o d _ hS=>(by cases hS),λt o _ _ hS=>(by cases hS),λd q hd _=>(ha.subL hlw).tm d q hd,λwr i d _ _ _ _ hS=>(by cases hS)⟩ (λS i o a w hi hun ho hb hI K hK=>?_) (λa w hI=>?_)
  · obtain⟨u,Z,h1,h2,h3,h4,h5,h6⟩:=hI
    refine⟨u,Z,?_,h2,λj o d hj hS'=>h3 j o d hj (by rw[hS j hj];exact hS'),λt o ht hto hSt e he=>?_,λd q hd hw'=>h5 d q hd (λwr hwr hdw=>by rw[hS wr hwr];exact hw' wr hwr hdw),λwr i d hwr hi hdw hold hSw=>by rw[← hS i hi];exact h6 wr i d hwr hi hdw hold (by rw[hS wr hwr];exact hSw)⟩
    · rw[← Ou (S:=S) (S':=S') λi hi=>hS i (bis i hi)];exact h1
    · obtain⟨h7,h8⟩:=h4 t o ht hto (by rw[hS t ht];exact hSt) e he
      exact⟨h7,by rw[← hS e Ab];exact h8⟩
  · have:Ti (λ_=>Ah) is=0:=Nn (AeR _) (λj _ h=>absurd h (Nat.not_lt_zero _)) (λ_ _ _=>rfl)
    rw[this,hH];exact hw.drawn _
  · obtain⟨u,Z,h1,h2,h3,hc,ho5,ho6⟩:=hI
    have hcl:∀t o,ops[t]? =Ad o→(Ac (t<N)&&S t)=Af→∀e∈DH o,(Ac (e<N)&&S e)=Af:=λt o hto hSt e he=>by
      simp only[Ae9,AeA] at hSt ⊢;obtain⟨h7,h8⟩:=hc t o hSt.1 hto hSt.2 e he;exact⟨Ab,h8⟩
    have hcl2:∀k q,((Kh ops []).getD k 0).testBit q=Af→(k=i∨(Ac (k<N)&&S k)=Af)→(q=i∨(Ac (q<N)&&S q)=Af):=
      G0 ops (λk=>k=i∨(Ac (k<N)&&S k)=Af) ops [] (λt o' ht e he hF=>by
        rcases hF with hF | hF
        · simp at hF;subst hF
          rw[ho] at ht;simp at ht;subst ht;obtain⟨h7,h8⟩:=hb e he;exact .inr (by simp only[Ae9,AeA];exact⟨Ab,h8⟩)
        · exact .inr (hcl t o' ht (by simpa using hF) e he)) (λj i hb=>by simp at hb)
    have hanc:∀q,((Kh ops []).getD i 0).testBit q=Af→q≠i→S q=Af:=λq hq hne=>by
      rcases hcl2 i q hq (.inl rfl) with h7 | h7
      · exact absurd h7 hne
      · simp only[Ae9] at h7;exact h7.2
    have hSis:∀k (hk:k<Ae is),(Ac (is[k]<N)&&S is[k])=S is[k]:=λk hk=>by simp[hisN k hk]
    have hpre:∀k (hk:k<Ae is),S is[k]=Af→∀j (hj:j<Ae is),j≤k→S is[j]=Af:=λk hk hSk j hj hle=>by
      have:=pre1 (λk=>Ac (k<N)&&S k) hcl k hk (by show(Ac (is[k]<N)&&S is[k])=Af;rw[hSis k hk];exact hSk) j hj hle
      rwa [show(Ac (is[j]<N)&&S is[j])=S is[j] from hSis j hj] at this
    have hput:∀k u v,a.tmps[k]? =Ad u→o.dst≠Ad k→(a.put o.dst v).tmps[k]? =Ad u:=λk u v hk hne=>by
      cases hd:o.dst with
      | none=>simpa[Act.put] using hk
      | some d=>
        simp only[Act.put,Array.getElem?_setIfInBounds];rw[AeN (λe=>hne (by rw[hd,e]))];exact hk
    have hagr:∀v Z',Fz.le Z Z'→DU n l0 (a.put o.dst v) Z':=λv Z' hz=>by
      refine⟨?_,?_,λk r hk=>?_⟩
      · cases o.dst<;>simp[Act.put,h2.size]
      · cases o.dst<;>simp[Act.put,h2.defers]
      · obtain⟨u,hu,hpu⟩:=h2.tm k r hk
        exact⟨u,hput k u v hu (λe=>((hdst i o k hi ho e).1).2 (HJ hk)),r.mono hz hpu⟩
    have hvals:∀(v:Value) (Z':Fz) (u':Ux),Fz.le Z Z'→(∀j,j<N→j≠i→S j=Af→(Gn sp j).r u'=(Gn sp j).r u)→(o.dst≠Ai→((Gn sp i).r u').p Z' v)→∀j o' d,j<N→(j ==i||S j)=Af→ops[j]? =Ad o'→o'.dst=Ad d→∃q,(a.put o.dst v).tmps[d]? =Ad q∧((Gn sp j).r u').p Z' q:=by
      intro v Z' u' hz hβ hp j o' d hj hS' ho' hd
      by_cases hji:j=i
      · subst hji
        rw[ho] at ho';simp at ho';subst ho';refine⟨v,?_,hp (by simp[hd])⟩;have hdn:d<a.tmps.size:=by rw[h2.size];exact(hdst j o d hi ho hd).1.1
        simp[Act.put,hd,hdn]
      · have hSj:S j=Af:=by simpa[hji] using hS'
        obtain⟨q,hu,hpu⟩:=h3 j o' d hj hSj ho' hd;refine⟨q,hput d q v hu (λe=>(hdst i o d hi ho e).2 j hj hji (by simp[CD,ho',hd])),?_⟩;rw[hβ j hj hji hSj];exact((Gn sp j).r u).mono hz hpu
    have hat:=hob.at i o (by rw[hget i hi];exact ho);rw[AeK] at hat;have hold':∀Z',Fz.le Z Z'→∀v d q,look lw d=Ad q→(∀wr,wr<N→CD ops wr=Ad d→(wr ==i||S wr)=Ah)→∃v',(a.put o.dst v).tmps[d]? =Ad v'∧q.p Z' v':=λZ' hz v d q hd hw'=>by
      obtain⟨v',e1,e2⟩:=ho5 d q hd (λwr hwr hdw=>by have:=hw' wr hwr hdw;simp only[Bool.or_eq_false_iff] at this;exact this.2);refine⟨v',hput d v' v e1 (λe=>?_),q.mono hz e2⟩;have:=hw' i hi (by simp[CD,ho,e]);simp at this
    have hord:∀wr k d,wr<N→k<N→CD ops wr=Ad d→d∈(Gn sp k).old→(wr ==i||S wr)=Af→(k ==i||S k)=Af:=λwr k d hwr hk hdw hmem hSw=>by
      by_cases hwi:wr=i
      · subst hwi
        have h7:=b5 k hk d (by simpa[Ae2,AeC,hsa k hk] using hmem) wr hwr;simp only[AeM,bne_iff_ne,ne_eq,hdw,not_true_eq_false,false_or] at h7;rw[Ae2,ho,AeE,List.contains_iff_mem] at h7;simp[(hb k h7).2]
      · have:S k=Af:=ho6 wr k d hwr hk hdw hmem (by simpa[hwi] using hSw)
        simp[this]
    have hcl':∀t o',t<N→ops[t]? =Ad o'→(t ==i||S t)=Af→∀e∈DH o',e<t∧(e ==i||S e)=Af:=λt o' ht hto hSt e he=>by
      by_cases hti:t=i
      · subst hti
        rw[ho] at hto;simp at hto;subst hto;obtain⟨h7,h8⟩:=hb e he;exact⟨h7,by simp[h8]⟩
      · obtain⟨h7,h8⟩:=hc t o' ht hto (by simpa[hti] using hSt) e he
        exact⟨h7,by simp[h8]⟩
    have hag':DU n (Eb lw (Gn sp i).old (CA ops (Xw sp u) (Gn sp i).deps l0)) a Z:=Ml (Iq h2 (λj hj d hd=>by
        obtain⟨h5,h6⟩:=b3 i hi j (by rw[hdep i hi];exact hj);rw[Ae2,ho,AeE,List.contains_iff_mem] at h6;obtain⟨o2,ho2⟩:=hops j h5;obtain⟨v,hv1,hv2⟩:=h3 j o2 d h5 (hb j h6).2 ho2 (by simpa[CD,ho2] using hd);refine⟨v,hv1,?_⟩;rw[hspq u j h5];exact hv2)) (λd hd q hq=>ho5 d q hq (λwr hwr hdw=>by
          cases hS:S wr with
          | false=>rfl
          | true=>have:=ho6 wr i d hwr hi hdw hd hS;rw[this] at hun;cases hun))
    have hlev:∀j,j<N→S j=Af→∀m (hm:m<Ae is),m<(Gn sp j).lv→S is[m]=Af:=λj hj hSj m hm hlt=>by
      have h7:=b4 j hj;rw[hlv j hj] at h7;have h8:=h7.1;have hm1:(Gn sp j).lv-1<Ae is:=Ab
      rw[hisD _ hm1] at h7;have h9:S is[(Gn sp j).lv-1]=Af:=by
        have hg:=h7.2;simp only[AeM,beq_iff_eq] at hg;rcases hg with(hg | hg) | hg
        · omega
        · rw[← hg];exact hSj
        · have:=clo (λk=>Ac (k<N)&&S k) hcl j _ hg (by simp[hj,hSj])
          simp only[Ae9] at this;exact this.2
      exact hpre _ hm1 h9 m hm Ab
    unfold ObY at hat
    cases hf:is.findIdx? (λx=>Nat.beq x i) with
    | some k=>
      rw[hf] at hat;obtain⟨hk,hki,_⟩:=List.findIdx?_eq_some_iff_getElem.1 hf;have hik:is[k]=i:=Nat.eq_of_beq_eq_true hki;have hlow:∀j (hj:j<Ae is),j<k→S is[j]=Af:=λj hj hjk=>by
        obtain⟨k',rfl⟩:∃k',k=k'+1:=⟨k-1,Ab⟩
        have h7:=bch (k'+1) hk;rw[hisD _ hk] at h7;simp only[AeM,beq_iff_eq,Nat.succ_ne_zero,false_or,Nat.add_sub_cancel] at h7;have hk':k'<Ae is:=Ab
        rw[hisD k' hk',hik] at h7;have hne:is[k']≠i:=λe=>by
          have:=(List.getElem_inj N1).1 (e.trans hik.symm);omega
        exact hpre k' hk' (hanc _ h7 hne) j hj Ab
      have hhigh:∀j (hj:j<Ae is),k≤j→S is[j]=Ah:=λj hj hle=>by
        cases hS:S is[j] with
        | false=>rfl
        | true=>have:=hpre j hj hS k hk hle;rw[hik,hun] at this;cases this
      have hcnt:Ti S is=k:=Nn Ab (λj hj h=>hlow j hj h) (λj hj h=>hhigh j hj h);have hcnt':Ti (λj=>j ==i||S j) is=k+1:=Nn Ab (λj hj h=>by
        by_cases e:j=k
        · subst e;simp[hik]
        · simp[hlow j hj Ab]) (λj hj h=>by
        have hne:is[j]≠i:=λe=>by have:=(List.getElem_inj N1).1 (e.trans hik.symm);omega
        simp[hne,hhigh j hj Ab])
      rw[hcnt] at h1;have key:=λK' hK'=>hat u a w Z K' hag' h1 hK';have h5:∀u' v w' Z',Ag k u u'→Fz.le Z Z'→((Gn sp i).r u').p Z' v→St c (hs.getD (k+1) (λ_=>[]) u') Z' w'→K (a.put o.dst v) w':=λu' v w' Z' hag hz hpv hs'=>by
        refine hK _ _ ⟨u',Z',by rw[hcnt'];exact hs',hagr v Z' hz,hvals v Z' u' hz (λj hj hji hSj=>?_) (λ_=>hpv),hcl',hold' Z' hz v,hord⟩;refine(hst.at (hsa j hj) u u' (λm hm=>hag m ?_)).symm;have hlj:=(b4 j hj).1;rw[hlv j hj] at hlj;have hml:m<Ae is:=Ab
        cases Nat.lt_or_ge m k with
        | inl h7=>exact h7
        | inr h7=>have:=hlev j hj hSj m hml hm;rw[hhigh m hml h7] at this;cases this
      refine⟨λ_=>(key K h5).2,λhw'=>?_⟩;rw[(key K h5).1] at hw';cases hw'
    | none=>
      rw[hf] at hat;have hni:∀x∈is,x≠i:=λx hx e=>by
        have:=List.findIdx?_eq_none_iff.1 hf x hx;subst e;simp at this
      have hcnt':Ti (λj=>j ==i||S j) is=Ti S is:=Ou λx hx=>by simp[hni x hx]
      by_cases hfi:(Gn sp i).fx=Af
      · simp only[hfi,if_true] at hat
        have hli:=b4 i hi;rw[hlv i hi] at hli;have hcnt:Ti S is=(Gn sp i).lv:=Nn hli.1 (λj hj h=>?_) (λj hj h=>?_)
        · rw[hcnt] at h1
          refine hat u a w Z K hag' h1 (λv w' Z' hz hp hst'=>hK _ _ ⟨u,Z',?_,hagr v Z' hz,hvals v Z' u hz (λ_ _ _ _=>rfl) (λ_=>hp),hcl',hold' Z' hz v,hord⟩);rw[hcnt',hcnt];exact hst'
        · have h7:=hli.2
          have hm1:(Gn sp i).lv-1<Ae is:=Ab
          rw[hisD _ hm1] at h7;simp only[AeM,beq_iff_eq] at h7;rcases h7 with(h7 | h7) | h7
          · omega
          · exact absurd h7.symm (hni _ (List.getElem_mem hm1))
          · exact hpre _ hm1 (hanc _ h7 (hni _ (List.getElem_mem hm1))) j hj Ab
        · have h7:=b6 i hi
          rw[hfx i hi,hfi,hlv i hi] at h7;simp only[AeD,AeH,AeM,beq_iff_eq] at h7;rcases h7 with h7 | h7
          · omega
          · have hm1:(Gn sp i).lv<Ae is:=Ab
            rw[hisD _ hm1] at h7
            cases hS:S is[j] with
            | false=>rfl
            | true=>
              have h8:=hpre j hj hS _ hm1 h;have:=clo (λk=>Ac (k<N)&&S k) hcl _ _ h7 (by show(Ac (is[(Gn sp i).lv]<N)&&S is[(Gn sp i).lv])=Af;rw[hSis _ hm1];exact h8);simp only[Ae9,hun] at this;exact absurd this.2 Aj
      · simp only[hfi,if_false] at hat
        refine hat u (Ti S is) (List.length_filter_le _ _) a w Z K hag' h1 (λv w' Z' hz hp hst'=>hK _ _ ⟨u,Z',?_,hagr v Z' hz,hvals v Z' u hz (λ_ _ _ _=>rfl) (λ_=>hp),hcl',hold' Z' hz v,hord⟩);rw[hcnt'];exact hst'
  · obtain⟨u,Z,h1,h2,h3,_,_,_⟩:=hI
    have hsl:Ae (saY sp u)=N:=by simp[saY,hsp]
    have hcnt:Ti (λ_=>Af) is=Ae is:=Nn (AeG _) (λ_ _ _=>rfl) (λj hj h=>by omega);rw[hcnt] at h1;refine h u a w Z (Lf h2 _ _ 0 (λt o s d ht hs hd=>?_)) h1;have htN:t<N:=by have:=(List.getElem?_eq_some_iff.1 hs).1;omega
    have hs':s = { deps:=(Gn sp t).deps,r:=(Gn sp t).r u }:=by
      simp only[saY,AeC,hsa t htN,Option.map_some,Option.some.injEq] at hs;exact hs.symm
    subst hs';rw[AeK];exact h3 t o d htN rfl (by rw[← hget t htN];exact ht) hd
theorem OE (N:Nat)(is ks0 ksw:List Nat)(sp:List Sy)(hs:List (Ux→List Ent))(hst:Ox sp)(hob:Ku P n c ops.toArray Q ops sp l0 lw is hs 0 (ops.take N))(h:∀u,WL P n c ops.toArray Q (ops.drop N) (I1 (λ_=>0) (ops.take N) (saY sp u) 0 l0) (hs.getD (Ae is) (λ_=>[]) u))
  (h0:Kp ks0 l l0:=by repeat (first | exact JY | (apply Iy;rfl) | (apply Jx;rfl))) (hw:Kp ksw l lw:=by repeat (first | exact JY | (apply Iy;rfl) | (apply Jx;rfl))) (hm:P.follows .mixedOrders=Af:=by kernel_rfl) (hB:okY n ops N is (Es l0) (sp.map (·.deps)) (sp.map (·.lv)) (sp.map (·.fx)) (sp.map (·.old))=Af:=by kernel_rfl)
  (hsp:Ae sp=N:=by rfl) (hH:∀u,hs.getD 0 (λ_=>[]) u=H:=by exact λ_=>rfl):WC P n c (.region id ops.toArray Af) Q l H:=XK N is sp hs hm hB h0.one hw.one hsp hst hH hob h
theorem KJ (hr:∀{u H},Ef P n c opsA Q (Eb lw (Gn sp i).old (CA all (Xw sp u) (Gn sp i).deps l0)) H o ((Gn sp i).r u) H)(h:Ku P n c opsA Q all sp l0 lw is hs (i+1) rest)(hne:is.findIdx? (λx=>Nat.beq x i)=Ai:=by rfl)(hf:(Gn sp i).fx=Ah:=by rfl):Ku P n c opsA Q all sp l0 lw is hs i (o::rest):=by
 refine⟨?_,h⟩;unfold ObY;rw[hne];simp only[hf,Afa,if_false];exact λu _ _=>hr
def U4 (p:List Ent→Prop)(u:Ux):List (Ux→List Ent)→Prop
 | []=>True
 | f::r=>p (f u)∧U4 p u r
theorem U4.at {p:List Ent→Prop}{u:Ux}:∀{hs:List (Ux→List Ent)},U4 p u hs→∀k,k<hs.length→p (hs.getD k (λ_=>[]) u)
 | [],_,k,h=>absurd h (Nat.not_lt_zero _)
 | f::r,⟨h1,h2⟩,0,_=>h1
 | f::r,⟨h1,h2⟩,k+1,h=>U4.at h2 k (by simpa using h)
theorem oya (hr:∀{u},U4 (λH'=>Ef P n c opsA Q (Eb lw (Gn sp i).old (CA all (Xw sp u) (Gn sp i).deps l0)) H' o ((Gn sp i).r u) H') u hs)(h:Ku P n c opsA Q all sp l0 lw is hs (i+1) rest)(hne:is.findIdx? (λx=>Nat.beq x i)=Ai:=by rfl)(hf:(Gn sp i).fx=Ah:=by rfl)(hl:hs.length=Ae is+1:=by rfl):Ku P n c opsA Q all sp l0 lw is hs i (o::rest):=by
 refine⟨?_,h⟩;unfold ObY;rw[hne];simp only[hf,Afa,if_false];exact λu k hk=>U4.at hr k Ab
theorem oyf (hr:∀{u},Ef P n c opsA Q (Eb lw (Gn sp i).old (CA all (Xw sp u) (Gn sp i).deps l0)) (hs.getD (Gn sp i).lv (λ_=>[]) u) o ((Gn sp i).r u) (hs.getD (Gn sp i).lv (λ_=>[]) u))(h:Ku P n c opsA Q all sp l0 lw is hs (i+1) rest)(hne:is.findIdx? (λx=>Nat.beq x i)=Ai:=by rfl)(hf:(Gn sp i).fx=Af:=by rfl):Ku P n c opsA Q all sp l0 lw is hs i (o::rest):=by
 refine⟨?_,h⟩;unfold ObY;rw[hne];simp only[hf,if_true];exact λu=>hr
theorem Xx (k:Nat)(hr:∀{u},OpY P n c opsA Q (Eb lw (Gn sp i).old (CA all (Xw sp u) (Gn sp i).deps l0)) (hs.getD k (λ_=>[]) u) o k u (Gn sp i).r (hs.getD (k+1) (λ_=>[])))(h:Ku P n c opsA Q all sp l0 lw is hs (i+1) rest)(hne:is.findIdx? (λx=>Nat.beq x i)=Ad k:=by rfl):Ku P n c opsA Q all sp l0 lw is hs i (o::rest):=by
 refine⟨?_,h⟩;unfold ObY;rw[hne];exact λu=>hr
theorem oye:Ku P n c opsA Q all sp l0 lw is hs i []:=trivial
end
section
variable {P : Program} {n : Nat} {c : Cx} {opsA : Array Oper} {Q : Exit → Act → World → Prop} {l : Fr} {H : List Ent} {d : Nat} {x y : Operand} {ty t e : TypeId} {pos : String} {af : Array Edge} {v : Value} {sz : Nat}
theorem Hw {k:Nat}{u:Ux}{f:FuncId}{args:List Operand}{ats:Array TypeId}{r:Ux→Rp}{H1:Ux→List Ent}{Hin Hr:List Ent}(hcall:∀(as1:Array Value) (w:World),(callFunc f as1).run P w = .ok (.enter f as1) w)(hv:Jy l args=Ad rs)
  (hp:H.Perm (Hin++Hr)) (hc:Fn P c.E f rs Hin Φ) (hΦ:∀r' H',Φ r' H'→∃u',Ag k u u'∧r'=r u'∧H'++Hr=H1 u'):OpY P n c opsA Q l H { dst:=Ad d,op:=.call { callee:=.value (.func f),args:=args.toArray,argTypes:=ats },type:=ty,pos:=pos,after:=af,guard:=Ai } k u r H1:=λa w Z K ha hw hK=>by
 refine⟨by simp[Region.wanted],?_⟩;unfold Oper.wp;rw[EW rfl hcall w];refine(hc w Z _ (E9 ha hv) (hw.perm hp).enter).mono ?_;rintro e w' ⟨r',v,H',Z',rfl,hΦ',hr,hs⟩;obtain⟨u',h1,h2,h3⟩:=hΦ r' H' hΦ';subst h2;exact hK u' v w' Z' h1 hs.le hr (h3▸(hw.perm hp).call hs)
end
end
end Go.Proofs.YtoegakndmanfoaaGreatDoor.Q
namespace Go.Proofs.YtoegakndmanfoaaGreatDoor
open Go
end Go.Proofs.YtoegakndmanfoaaGreatDoor
namespace Go.Proofs.YtoegakndmanfoaaGreatDoor.Q
open Go Go.RowKit
set_option linter.unusedVariables false
set_option linter.unusedSectionVars false
section
variable [I : Dfr]
section
variable {P : Program} {n : Nat} {c : Cx} {ops : Array Oper} {Q : Exit → Act → World → Prop} {rest : List Oper} {l : Fr} {H : List Ent} {d : Nat} {d' : Option Nat} {t kt et ty : TypeId} {pos : String} {af : Array Edge} {g : Option (Nat × Bool)} {x y u : Operand} {b i : Nat} {T : Type} {enc : T → Rp} {xs : List (Int × T)} {z : T} {zv : Value}
theorem EC {k:AE}{xs:List (AE×T)}{v:T}(ht:P.underlying t=Ad (.map kt et))(hk:P.underlying kt=Ad .string)(hx:ev l x=Ad (rv (.map (Ad b))))(hi:H[i]? =Ad (.map b (Dg enc xs)))(hy:ev l y=Ad (rS k))(hu:ev l u=Ad (enc v)){H':List Ent}(hH:H.set i (.map b (Dg enc (CB xs k v)))=H')(h:WL P n c ops Q rest l H') :
  WL P n c ops Q ({ dst:=Ai,op:=.insert t x y u,type:=ty,pos:=pos,after:=af,guard:=Ai }::rest) l H:=by
 have:=S9 (n:=n) (c:=c) (ops:=ops) (Q:=Q) (rest:=rest) (ty:=ty) (pos:=pos) (af:=af) ht hk hx hi hy hu hH h;exact this
end
end
set_option linter.unusedSimpArgs false
section
variable [I : Dfr]
def PtZ (k:Nat)(i:Int)(off:Nat)(Z:Fz)(v:Value):Prop:=if i<0 then v = .pointer Ai else ∃b,Z.nm k i.toNat=Ad b∧v = .pointer (Ad ⟨b,off,Ai⟩)
def rPt (k:Nat)(i:Int)(off:Nat):Rp:=⟨PtZ k i off,fun {Z Z' v} h hp=>by
 unfold PtZ at *
 split
 ·rename_i h0;rwa [AeX h0] at hp
 ·rename_i h0;rw[AeN h0] at hp;obtain⟨b,h1,h2⟩:=hp;exact⟨b,h.nm k _ b h1,h2⟩,Af,λ_ Z v hp=>by
 change PtZ k i off Z v at hp
 unfold PtZ at hp
 split at hp
 ·rw[hp];rfl
 ·obtain⟨b,_,h2⟩:=hp;rw[h2];rfl⟩
section
variable {P : Program} {n : Nat} {c : Cx} {ops : Array Oper} {Q : Exit → Act → World → Prop} {rest : List Oper} {l : Fr} {H H' : List Ent} {d : Nat} {d' : Option Nat} {x y : Operand} {ty t t' e : TypeId} {pos : String} {af : Array Edge} {g : Option (Nat × Bool)} {v u : Value} {r : Rp} {sz k : Nat} {pv : Value} {α : Type} [Inhabited α] {xs : List α} {enc : α → List Rp}
theorem PtZ.of {Z:Fz}{b N:Nat}(h:Z.nm k N=Ad b):∀v,(rv (.pointer (Ad ⟨b,0,Ai⟩))).p Z v→(rPt k (N:Int) 0).p Z v:=λv hv=>by
 show PtZ k N 0 Z v;unfold PtZ;rw[AeN Ab];exact⟨b,by simpa using h,hv⟩
end
end
section
variable [I : Dfr]
def MpZ (m:List (List UInt8×Rp))(Z:Fz)(v:Value):Prop:=(v = .map Ai∧m=[])∨∃b es ck,v = .map (Ad b)∧Z b=Ad (.map es ck)∧ER Z m es.toList ck
def rMz (m:List (List UInt8×Rp)):Rp:=⟨MpZ m,λh h0=>h0.imp id λ⟨b,es,ck,h1,h2,h3⟩=>⟨b,es,ck,h1,h.f b _ h2,h3.mono h⟩,Af,λ_ Z v h0=>by rcases h0 with⟨h1,_⟩ | ⟨b,es,ck,h1,_⟩<;>(rw[h1];rfl)⟩
section
variable {P : Program} {n : Nat} {c : Cx} {ops opsA : Array Oper} {Q : Exit → Act → World → Prop} {rest : List Oper} {l : Fr} {H : List Ent} {d : Nat} {d' : Option Nat} {ty t kt et rty : TypeId} {pos : String} {af : Array Edge} {g : Option (Nat × Bool)} {x y u : Operand} {K : Act → World → Prop} {cx : Code} {r : Rp}
variable {T : Type} {enc : T → Rp} {xs : List (AE × T)} {z : T} {k : AE} {zv : Value} {i b : Nat}
theorem MpZ.heap {Z:Fz}{w:World}(hf:PC Z w){m:List (List UInt8×Rp)}{v:Value}(h:(rMz m).p Z v):(v = .map Ai∧m=[])∨∃b,v = .map (Ad b)∧(Ent.map b m).holds Z w:=by
 rcases h with h | ⟨b,es,ck,h1,h2,h3⟩
 ·exact .inl h
 ·exact .inr ⟨b,h1,es,ck,hf b _ h2,h3⟩
end
end
section
variable [I : Dfr]
section
variable {P : Program} {n : Nat} {c : Cx} {x : Code} {Q : Exit → Act → World → Prop} {l : Fr} {H : List Ent}
theorem Er (k:Nat)(h:WC P n c x (Exit.then (Code.rounds P x Q k) Q) l H):WC P n c (.loop x) Q l H:=λa w Z ha hw=>wp_loop_rounds (k+1) (h a w Z ha hw)
theorem CY {k:Nat}(h:WC P n c x (Exit.then (Code.rounds P x Q k) Q) l H):WK n c (Code.rounds P x Q (k+1)) l H:=h
end
section
variable {P : Program} {n : Nat} {c : Cx} {opsA : Array Oper} {Q : Exit → Act → World → Prop} {l : Fr} {H : List Ent} {d : Nat} {ty : TypeId} {pos : String} {af : Array Edge}
end
section
variable {P : Program} {n : Nat} {c : Cx} {l : Fr} {H : List Ent} {d : Option Nat} {ty rty t e e' : TypeId} {pos : String} {af : Array Edge} {g : Option (Nat × Bool)} {x : Operand} {sz : Nat} {xs : List (List Rp)} {v : Value}
theorem TM (i:Nat)(ht:P.underlying t=Ad (.slice e))(h:ev l x=Ad (rv v))(hi:H[i]? =Ad (.row v e' sz xs)):Cd P n c l H { dst:=d,op:=.binOp .eql t x (.const (.slice Ai 0 0)) rty,type:=ty,pos:=pos,after:=af,guard:=g } (rBx (λb=>b=Af→xs=[])):=λa w Z ha hw=>by
 obtain⟨_,_,_,A,cap,e0,h1,h2,h3,h4⟩:=hw.freeze hi;have e1:a.eval x = .slice A (Ae xs) cap:=(ha.ev h:a.eval x=v).trans e0;refine⟨.bool A.isNone,⟨_,rfl,λhb=>?_⟩,?_⟩
 ·cases A with
  | some a=>cases hb
  | none=>
   have:=h3 rfl;exact List.length_eq_zero_iff.1 Ab
 ·have:=run_equal_slice_nil (P:=P) w t e A (Ae xs) cap ht;have e2:a.eval (.const (.slice Ai 0 0)) = .slice Ai 0 0:=rfl;simp[execOp,e1,e2,binOp,this,eqGuard]
end
end
end Go.Proofs.YtoegakndmanfoaaGreatDoor.Q
