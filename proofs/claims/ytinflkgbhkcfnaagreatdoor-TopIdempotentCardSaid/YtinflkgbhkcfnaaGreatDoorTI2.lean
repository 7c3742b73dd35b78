/-
  Texts of the proof, put together: Row, ShelfV, QG0, PlB, PlC, PIa, WIa, PlD, PlE, LiA, IdA, IdB, IdC, TzL, QG, QO, RowQ, Qk, PXa, WXa, PXb, QU, QT, QN, PM, QM, QI, QW, QV, PH, QJ, QX, QL, PI, QF, Q6, Q9, Qy.
-/
import Derived.Test.YtinflkgbhkcfnaaGreatDoorTI1
import Derived.Test.YtinflkgbhkcfnaaGreatDoorCards
import Derived.Test.YtinflkgbhkcfnaaGreatDoorTie
import Derived.Carry
import Derived.ChangeSame
import Derived.ProofKit
import Derived.OpenShut
import Derived.Deep.DeepHandedRow
import Derived.Deep.DeepWitnessRowRef
import Derived.Lib.LaidTab
import Derived.Lib.LaidIn
import Derived.Stop.LaidErr
import Derived.Shelf.Strings.Builder1
import Derived.Shelf.Strings.Count
import Derived.Shelf.Strings.Search1
import Derived.Shelf.Strings.Search2
import Derived.Shelf.Strings.Search3
import Derived.Shelf.Small.Strs
import Derived.Shelf.LaysM
import Derived.Shelf.LaysC
import Derived.Test.YtinflkgbhkcfnaaGreatDoorProg
import Derived.Lib.Bytealg
import Derived.Lib.AtoiAllCases
import Derived.Lib.ItoaNum
import Derived.Lib.ItoaLen
import Derived.Lib.ItoaMem
import Derived.Shelf.Lays7
import Derived.Shelf.Spec.TrailingZeros
import Derived.Deep.Slices
import Derived.ChangeArms
import Derived.DataReads
import Derived.Defers
import Derived.Laws.Tables
import Derived.Laws.Cover3
import Derived.MapKept
import Derived.Maps.RangeRun
import GoSem.Op.IntBits
import GoSem.Op.Shift
import Derived.ScopeJumps
import Derived.Laws.CopyRow
import Derived.Laws.IdiomCopy
import Derived.Laws.OwnMore
import Derived.LoopN
open Decidable renaming decide → Ac
open Option renaming some → Ad, none → Ai
open Bool renaming true → Af, false → Ah
open List renaming length → Ae, drop → Ap, take → Aq, replicate → Au, range → As
open Int renaming toNat → Ao
open UInt8 renaming ofNat → Ar
open Go.Proofs.Tryz
namespace Go.Proofs.YtinflkgbhkcfnaaGreatDoor
open Go Go.ChangeShapes Go.WideShapes Go.ChangeAt Go.RowKit Go.WideElems
set_option linter.unusedVariables false
theorem own:ownKnob prog.godebug=Ai:=Ak
theorem Aa4:laidOutB prog=Af:=Ak
section
variable {H : Type} {enc : TypeId × Value → H} {P : Program}
theorem Kh (hl:laidOutB P=Af){W W':World}(hb:Below W.heap.size W W'){sp:Nat→Bool}:∀{ts:List TypeId} {vs:List Value} {ds:List (DataW H)} {ps:List MemPlace},ts.all (λt=>P.readableRec t&&Ac (t<P.types.size))=Af→
  DataW.TrodAll enc P W 0 (λ_=>Af) Af ts vs ds ps→(∀p∈ps,p.block<W.heap.size)→(∀p∈ps,sp p.block=Af)→DataW.TrodAll enc P W' 0 sp Af ts vs ds ps
 | [],[],[],_,_,h,_,_=>h
 | [],_::_,_,_,_,h,_,_=>h.elim
 | [],[],_::_,_,_,h,_,_=>h.elim
 | _::_,[],_,_,_,h,_,_=>h.elim
 | _::_,_::_,[],_,_,h,_,_=>h.elim
 | t::ts,v::vs,d::ds,ps,ht,⟨p,q,h1,h2,e⟩,hlt,hs=>by
  simp only[List.all_cons,AgO,AgQ] at ht;refine⟨p,q,?_,Kh hl hb ht.2 h2 (λx hx=>hlt x (by rw[e];exact List.mem_append_right _ hx)) (λx hx=>hs x (by rw[e];exact List.mem_append_right _ hx)),e⟩;exact Trod_stays hl ht.1.1 ht.1.2 h1 (λx hx=>hb.same (hlt x (by rw[e];exact List.mem_append_left _ hx))) (λx hx=>hs x (by rw[e];exact List.mem_append_left _ hx))
theorem Vu (hl:laidOutB P=Af){f:Func}{s:ChangeSpec}{apart fresh handsOn:Bool}{W W':World}{args:Array Value}{ds gs:List (DataW H)}{before:List MemPlace}{tb:TypeId}(hp:f.params.toList.all (λt=>P.readableRec t&&Ac (t<P.types.size))=Af)
  (hv:s.vars=[]) (hr:f.resultTypes = #[tb]) (hb4:P.underlying tb=Ad .bool) (hW:DataW.Whole enc P f.params.toList s.vars apart W args.toList ds gs before)
  (h1:(s.fn H (ds++gs)).results=[.lit (.bool Af)]) (h2:(s.fn H (ds++gs)).args=ds) (h3:(s.fn H (ds++gs)).vars=[]) (hb:Below W.heap.size W W') :
  s.post enc P f apart fresh handsOn Ah W args (.bool Af) W':=by
 have hlt:∀p∈before,p.block<W.heap.size:=λp hp=>hW.lt p hp;have hW':=hW;obtain⟨p,q,hA,hV,hbf,_,_⟩:=hW';have hq:q=[]:=by
  rw[hv] at hV
  cases gs with
  | nil=>exact hV
  | cons _ _=>exact hV.elim
 subst hq;rw[List.append_nil] at hbf;subst hbf;refine⟨ds,gs,before,[],before,[],hW,?_,?_,?_,World.keptBut_mono (λp hp=>⟨hp,.inr (.inl hp)⟩) (hb.frame (·∈before)),λh=>by cases h⟩
 ·rw[h1,hr];exact trodAll_mk1 (shut_bool hb4 Af)
 ·rw[h2];exact Kh hl hb hp hA hlt (λx hx=>by simpa using hlt x hx)
 ·rw[hv,h3];exact rfl
end
theorem T3:prog.underlying 4=Ad .bool:=underlying4
def NM : List (String × DataW Unit) := [("math/bits.deBruijn32tab", Rows.laid_math_bits_deBruijn32tab), ("math/bits.deBruijn64tab", Rows.laid_math_bits_deBruijn64tab), ("internal/strconv.uint64pow10", Rows.laid_internal_strconv_uint64pow10), ("strconv.ErrRange", Rows.laid_strconv_ErrRange), ("strconv.ErrSyntax", Rows.laid_strconv_ErrSyntax), ("faas/code.shapes", Rows.laid_faas_code_shapes)]
theorem Yy:(prog.globals[2]?).map (·.type)=Ad 343:=Ak
theorem Yx:(prog.globals[4]?).map (·.type)=Ad 253:=Ak
theorem Wb:prog.cellsOf 251=1:=Ak
theorem Wc:prog.cellsOf 343=20:=Ak
theorem AaP:(prog.globals[6]?).map (·.type)=Ad 373:=Ak
theorem YH:prog.cellsOf 5=1:=Ak
theorem RZ:prog.cellsOf 373=64:=Ak
theorem Wd:prog.cellsOf 9=1:=Ak
theorem YI:prog.cellsOf 369=1:=Ak
theorem Yv:(prog.globals[0]?).map (·.type)=Ad 275:=Ak
theorem Pv:prog.cellsOf 274=6:=Ak
theorem T0:prog.cellsOf 275=21*6:=Ak
variable{cs:List Value}{x:DataW Unit×List MemPlace}
section
variable {enc : TypeId × Value → Unit} {P : Program} {w : World} {base : Nat} {sp : Nat → Bool} {held : Bool}
def AeN (P:Program)(t:TypeId):Prop:=P.underlying t=Ad .bool∨(∃k,P.underlying t=Ad (.int k))∨P.underlying t=Ad .string
theorem Y2 {t:TypeId}{fuel:Nat}(ht:AeN P t)(h:DataW.trod enc P w base sp held fuel t cs=Ad x):cs=[U9 x.1]:=by
 rcases ht with ht | ⟨k,ht⟩ | ht
 ·obtain⟨b,rfl,rfl⟩:=DataW.trod_bool ht h;rfl
 ·obtain⟨b,rfl,rfl,_⟩:=DataW.trod_int ht h;rfl
 ·obtain⟨b,rfl,rfl,_⟩:=DataW.trod_string ht h;simp[U9,B]
theorem Tu {t:TypeId}{fs:Array Field}{fuel:Nat}(ht:P.underlying t=Ad (.struct fs))(hf:∀(i:Nat) (f:Field),fs[i]? =Ad f→f.offset=i∧P.cellsOf f.type=1∧AeN P f.type)(hc:P.cellsOf t=fs.size)
  (h:DataW.trod enc P w base sp held fuel t cs=Ad x):cs=MZ x.1:=by
 obtain⟨xs,m,rfl,rfl,hl,hn,hx⟩:=DataW.trod_struct ht h;simp only[MZ];apply List.ext_getElem?;intro i
 by_cases hi:i<fs.size
 ·obtain⟨h1,h2,h3⟩:=hf i fs[i] (Array.getElem?_eq_getElem hi);have h4:=hx i fs[i] (Array.getElem?_eq_getElem hi);rw[h1,h2,AgJ Ab] at h4;have h5:=Y2 h3 h4;have h6:cs[i]? =Ad (U9 xs[i].1):=by
   have:=congrArg (·[0]?) h5;simpa[Ahd,List.getElem?_drop] using this
  rw[h6];simp[AgJ (show i<Ae xs by omega)]
 ·rw[List.getElem?_eq_none Ab,List.getElem?_eq_none Am]
theorem YC {α:Type}{k:Nat}{g:α→List Value}:∀{xs:List α} {l:List Value},Ae l=Ae xs*k→(∀(i:Nat) (a:α),xs[i]? =Ad a→(l.drop (i*k)).take k=g a)→l=xs.flatMap g
 | [],l,hl,_=>by simpa using hl
 | a::xs,l,hl,h=>by
  have h0:=h 0 a rfl;simp only[Nat.zero_mul,List.drop_zero] at h0;have ih:=YC (k:=k) (g:=g) (xs:=xs) (l:=l.drop k) (by simp[hl,Nat.succ_mul]) λi b hb=>by
   have:=h (i+1) b (by simpa using hb);rw[List.drop_drop];rw[← this,Nat.succ_mul,Nat.add_comm]
  rw[List.flatMap_cons,← h0,← ih,Ah0]
theorem RS {t e:TypeId}{n k fuel:Nat}(ht:P.underlying t=Ad (.array n e))(hk:P.cellsOf e=k)(hc:P.cellsOf t=n*k)
  (hr:∀fuel cs x,DataW.trod enc P w base sp held fuel e cs=Ad x→cs=MZ x.1) (h:DataW.trod enc P w base sp held fuel t cs=Ad x):cs=NU x.1:=by
 obtain⟨xs,m,rfl,rfl,hl,hn,hx⟩:=DataW.trod_array ht h;simp only[NU];rw[List.flatMap_map];refine YC (k:=k) (by rw[hl,hc,hn]) λi a ha=>?_;have hi:i<n:=by rw[← hn];exact(List.getElem?_eq_some_iff.1 ha).1
 have:=hx i hi;rw[hk,ha] at this;exact hr _ _ _ this
end
theorem Aaa {W : World} {rest : List (String × DataW Unit)} (h : laidMet prog (("faas/code.shapes", Rows.laid_faas_code_shapes) :: rest) W) : W.var? prog "faas/code.shapes" = Ad Je.toArray := by
 obtain⟨ps,⟨g',t',cs,fuel,p,q,hg',ht',hvar,hd,_,_⟩,_⟩:=h;obtain rfl:=Option.some.inj (Yw.symm.trans hg');obtain rfl:=Option.some.inj (Yv.symm.trans ht');have:=RS underlying275 Pv T0 (λfuel cs x hx=>Tu underlying274 (λi f hf=>by
  rcases i with _ | _ | _ | _ | _ | _ | i
  ·cases hf;exact⟨rfl,Ak,.inr (.inr underlying9)⟩
  ·cases hf;exact⟨rfl,Ak,.inl underlying4⟩
  ·cases hf;exact⟨rfl,Ak,.inl underlying4⟩
  ·cases hf;exact⟨rfl,Ak,.inl underlying4⟩
  ·cases hf;exact⟨rfl,Ak,.inr (.inl ⟨_,underlying3⟩)⟩
  ·cases hf;exact⟨rfl,Ak,.inr (.inl ⟨_,underlying3⟩)⟩
  ·simp at hf) Pv hx) hd
 rw[hvar];exact congrArg Ad (by rw[← Array.toArray_toList (xs:=cs),this];rfl)
theorem UD : "*" ++ "errors.errorString" = "*errors.errorString" := by decide
theorem AcV (u : TypeId) (h : prog.typeName? 3 u = Ad "*errors.errorString") : u = 367 :=
 typeName_ptr_named (nm := "errors.errorString") (by rw [UD]; kernel_rfl) Ak Al u (by rw [UD]; exact h)
theorem MY {W:World}{n:String}{g:Nat}{cs:Array Value}(hg:prog.globalNamed n=Ad g)(h:W.var? prog n=Ad cs):g<W.heap.size:=by
 unfold World.var? at h;rw[hg] at h;simp only[Option.bind_some] at h
 cases hh:W.heap[g]? with
 | none=>rw[hh] at h;cases h
 | some o=>exact(Array.getElem?_eq_some_iff.1 hh).1
theorem AcW {W:World}(h:laidMet prog NM W):UN W:=by
 have h2:=laidMet.tail h;have hz : Lib.TabIs prog W "math/bits.deBruijn64tab" .u8 Abv := Lib.tabIs_of_head gTz AaP underlying373 underlying5 YH RZ h2
 have h3:=laidMet.tail h2;have h4:=laidMet.tail h3;have hp : Lib.TabIs prog W "internal/strconv.uint64pow10" .u64 Lib.pow10Tab := Lib.tabIs_of_head AcQ Yy underlying343 underlying251 Wb Wc h3
 obtain⟨a,s,hv,_,_,_⟩:=laid_sentinel h4 AcP Yx underlying253 AcV underlying367 underlying369 rfl rfl underlying9 YI Wd;have hs:=Aaa (laidMet.tail (laidMet.tail h4));refine⟨⟨hp,hz,⟨_,_,hv⟩,hs⟩,?_⟩;have h1:=MY AcQ hp;have h5:=MY AcP hv;exact Nat.max_lt.2 ⟨Nat.max_lt.2 ⟨Nat.max_lt.2 ⟨h1,h5⟩,MY gTz hz⟩,MY Yw hs⟩
noncomputable def JQ (os:Os):World:=
 let w0:=World.holding prog os ⟨#[],#[],[]⟩
 let put (h:Array Obj) (g:Nat) (cs:Array Value):Array Obj:=h.modify g fun
  | .cells _ t frozen=>.cells cs t frozen
  | o=>o
 let nums (d:DataW Unit):Array Value:=match d with
  | .agg ds=>(ds.map fun | .lit (.int k n)=>Value.int k n | _=>undef).toArray
  | _=>#[]
 let n:=w0.heap.size
 let h1:=put w0.heap 5 (nums Rows.laid_math_bits_deBruijn32tab)
 let h2:=put h1 6 (nums Rows.laid_math_bits_deBruijn64tab)
 let h3:=put h2 2 (nums Rows.laid_internal_strconv_uint64pow10)
 let h4:=put h3 4 #[.iface 367 (.pointer (Ad ⟨n,0,Ai⟩))]
 let h5:=put h4 3 #[.iface 367 (.pointer (Ad ⟨n+1,0,Ai⟩))]
 let h5a:=put h5 0 Je.toArray
 let h6:=h5a.push (.cells #[.string ⟨#[118,97,108,117,101,32,111,117,116,32,111,102,32,114,97,110,103,101]⟩] 369 (0,0))
 let h7:=h6.push (.cells #[.string ⟨#[105,110,118,97,108,105,100,32,115,121,110,116,97,120]⟩] 369 (0,0))
 { w0 with heap:=h7 }
set_option maxRecDepth 100000 in
theorem XY (os:Os)(args:Array Value):laidMet prog NM ((JQ os).forCall (λ_ _=>0) ⟨#[],args,[]⟩).memory:=
 laidMet_of_run' 8 Ak Ak
end Go.Proofs.YtinflkgbhkcfnaaGreatDoor
namespace Go.Proofs
open Go.Shelf
def Tryz.lays138_ren:Go.Shelf.Ren:=⟨fun | 138=>188 | 195=>224 | 218=>225 | 143=>226 | 219=>207 | 217=>210 | 225=>161 | 224=>160 | 267=>251 | 266=>257 | 314=>278 | n=>n,fun | 9=>9 | 3=>3 | 4=>4 | 5=>5 | 0=>0 | 46=>191 | 146=>345 | 51=>249 | n=>n,fun | 1=>1 | n=>n⟩
theorem Tryz.lays138:Go.Proofs.Lays.n138 prog Tryz.lays138_ren:={
 mixed:=by kernel_rfl
 f138:=func188.trans (congrArg Ad (by kernel_rfl))
 f143:=func226.trans (congrArg Ad (by kernel_rfl))
 f195:=func224.trans (congrArg Ad (by kernel_rfl))
 f217:=func210.trans (congrArg Ad (by kernel_rfl))
 f218:=func225.trans (congrArg Ad (by kernel_rfl))
 f219:=func207.trans (congrArg Ad (by kernel_rfl))
 f224:=func160.trans (congrArg Ad (by kernel_rfl))
 f225:=func161.trans (congrArg Ad (by kernel_rfl))
 f266:=func257.trans (congrArg Ad (by kernel_rfl))
 f267:=func251.trans (congrArg Ad (by kernel_rfl))
 f314:=func278.trans (congrArg Ad (by kernel_rfl))
 t0:=underlying0
 a0:=isAgg0
 z0:=sizeOf0
 v0:=zeroValue0
 t3:=underlying3
 a3:=isAgg3
 z3:=sizeOf3
 v3:=zeroValue3
 t4:=underlying4
 a4:=isAgg4
 z4:=sizeOf4
 v4:=zeroValue4
 t5:=underlying5
 a5:=isAgg5
 z5:=sizeOf5
 v5:=zeroValue5
 t9:=underlying9
 a9:=isAgg9
 z9:=sizeOf9
 v9:=zeroValue9
 t46:=underlying191
 a46:=isAgg191
 z46:=sizeOf191
 v46:=zeroValue191
 t51:=underlying249
 a51:=isAgg249
 z51:=sizeOf249
 v51:=zeroValue249
 t146:=underlying345
 a146:=isAgg345
 z146:=sizeOf345
 v146:=zeroValue345
 g1:=by kernel_rfl }
open Go.RowKit Go.Lib in
theorem Tryz.strings_Count_one (s:ByteArray)(c:UInt8)(w:World) :
  Calls prog 188 #[.string s,.string ⟨#[c]⟩] w λe w'=>e = .returned (.int .i64 (Lib.countByte s.data.toList c))∧w'=w:=Any.strings_Count_one Tryz.lays138 s c w
end Go.Proofs
namespace Go.Proofs.YtinflkgbhkcfnaaGreatDoor.Q
open Go Go.RowKit
set_option linter.unusedVariables false
def GE (Z:Fz):Prop:=∀w,Sg Z w→UN w
theorem GE.mono {Z Z':Fz}(h:Fz.le Z Z')(hg:GE Z):GE Z':=λw hw=>hg w ⟨λb o e=>hw b o (h b o e),λk i b e=>hw.nm k i b (h.nm k i b e)⟩
theorem Fn0.rle {P:Program}{E:Fz→Prop}{f:FuncId}{args:List Rp}{r r':Rp}(h:Fn0 P E f args r)(hr:EJ r r'):Fn0 P E f args r':=λw Z vs hv hs=>
 (h w Z vs hv hs).mono λe w' ⟨q,v,H,Z',he,⟨hq,hH⟩,hp,ht⟩=>⟨r',v,H,Z',he,⟨rfl,hH⟩,hr Z' v (hq▸hp),ht⟩
theorem EJ.tup2 {a b:Value}:EJ (rv (.tuple #[a,b])) (DR [rv a,rv b]):=λZ v h=>⟨[a,b],h,rfl,rfl,trivial⟩
theorem Fn0.of_id {P:Program}{E:Fz→Prop}{f:FuncId}{vs:List Value}{v:Value}(h:∀w,Calls P f vs.toArray w (λe w'=>e = .returned v∧w'=w)):Fn0 P E f (vs.map rv) (rv v):=
 Fn0.of_old λw Z _ _=>(h w).mono λe w' ⟨he,hw⟩=>⟨he,by rw[hw];exact Proofs.YtinflkgbhkcfnaaGreatDoor.St.refl w []⟩
theorem B8.map_rv {Z:Fz}:∀vs:List Value,B8 Z (vs.map rv) vs
 | []=>trivial
 | v::r=>⟨rfl,B8.map_rv r⟩
theorem Fn0.old {P:Program}{f:FuncId}(vs:List Value){v:Value}(h:Fn0 P (λ_=>True) f (vs.map rv) (rv v))(w:World):Calls P f vs.toArray w (Mq w v):=
 (h w ⟨λ_=>Ai,λ_ _=>Ai⟩ vs (B8.map_rv vs) ⟨rfl,rfl,rfl,AgU _,λ_ _ _=>rfl,Aj,Aj,.nil,⟨Aj,Aj⟩,Fz.le.refl _,Aj,Aj,trivial,λ_ _=>trivial,LC.none rfl⟩).mono λe w' ⟨r,u,H,Z',he,⟨hr,hH⟩,hp,ht⟩=>by
  subst hr hH;exact⟨by rw[he,show u=v from hp],ht.os,ht.tape,ht.output,ht.size,λk hk _=>ht.old k hk Aj,Aj,Aj,.nil⟩
abbrev FN:=Fn prog GE
end Go.Proofs.YtinflkgbhkcfnaaGreatDoor.Q
namespace Go.Proofs.YtinflkgbhkcfnaaGreatDoor
open Go
theorem AcM (p:List UInt8)(c:UInt8) : -1≤Lib.indexByte p c∧Lib.indexByte p c<Ae p:=by
 induction p with
 | nil=>simp[Lib.indexByte]
 | cons b r ih=>
  unfold Lib.indexByte;simp only[Ahc]
  split
  ·omega
  ·split<;>omega
def Ou (p:List UInt8):Bool:=Ac ((0:Int)<Ae p)&&Ac (E4 p 0=45)
def Mi (p:List UInt8):List UInt8:=if Ou p=Af then p.drop 1 else p
def Jx (_:Nat)(u:UInt8):Bool:=!(Ac ((u.toNat:Int)<48)||decide (57<(u.toNat:Int)))
def Ob (p:List UInt8):Bool:=!(Ac (Mi p=[])||(Ac (E4 (Mi p) 0=48)&&!Ac (p=[48])))&&C4 Jx 0 (Mi p)
def ED (p:List UInt8):Int:=if Ob p=Af then(match Lib.atoiAll p with | .ok v=>if IZ v=Af then 0 else 2 | _=>2) else 1
def D4 (p:List UInt8):Int:=if Ob p=Af then(match Lib.atoiAll p with | .ok v=>if IZ v=Af then v else 0 | _=>0) else 0
theorem Oa:∀(l:List UInt8) (i acc:Nat),C4 Jx i l=Af→(∃u,Lib.parseUint10 acc l = .ok u)∨Lib.parseUint10 acc l = .range
 | [],_,acc,_=>.inl ⟨acc,rfl⟩
 | c::r,i,acc,h=>by
  simp only[C4,AgO] at h;have hc:48≤c.toNat∧c.toNat≤57:=by have:=h.1;simp[Jx] at this;omega
  unfold Lib.parseUint10;rw[Ahe hc]
  split
  ·exact .inr rfl
  ·split
   ·exact .inr rfl
   ·exact Oa r _ _ h.2
theorem Uh {l:List UInt8}(hne:l≠[])(h:C4 Jx 0 l=Af):(∃u,Lib.parseMag l = .ok u)∨Lib.parseMag l = .range:=by
 unfold Lib.parseMag;rw[AgV hne];exact Oa l 0 0 h
theorem PW {e:Lib.NumEnd Nat}(h:(∃u,e = .ok u)∨e = .range):(∃v,Lib.signless e = .ok v)∨Lib.signless e = .range:=by
 rcases h with⟨u,rfl⟩ | rfl
 ·unfold Lib.signless
  by_cases h:9223372036854775808≤u
  ·exact .inr (by simp[h])
  ·exact .inl ⟨_,by simp[h];rfl⟩
 ·exact .inr rfl
theorem SS {e:Lib.NumEnd Nat}(h:(∃u,e = .ok u)∨e = .range):(∃v,Lib.signed e = .ok v)∨Lib.signed e = .range:=by
 rcases h with⟨u,rfl⟩ | rfl
 ·unfold Lib.signed
  by_cases h:9223372036854775808<u
  ·exact .inr (by simp[h])
  ·exact .inl ⟨_,by simp[h];rfl⟩
 ·exact .inr rfl
theorem YW {p:List UInt8}(h:Ob p=Af):(∃v,Lib.atoiAll p = .ok v∧-9223372036854775808≤v∧v≤9223372036854775807)∨Lib.atoiAll p = .range:=by
 have key:(∃v,Lib.atoiAll p = .ok v)∨Lib.atoiAll p = .range:=by
  simp only[Ob,AgO,Ahh,Aho,AgW] at h;obtain⟨⟨hne,_⟩,hall⟩:=h
  cases p with
  | nil=>simp[Mi,Ou] at hne
  | cons c r=>
   by_cases hc:c=45
   ·subst hc;have hd:Mi (45::r)=r:=by simp[Mi,Ou,E4]
    rw[hd] at hne hall;rw[Lib.atoiAll_minus];exact SS (Uh hne hall)
   ·have hb : ¬ E4 (c::r) 0=45:=by
     simp only[E4,Int.toNat_zero,List.getElem?_cons_zero,AgX];intro e;exact hc (UInt8.toNat_inj.1 (by simpa using(by omega:c.toNat=45)))
    have hd:Mi (c::r)=c::r:=by simp[Mi,Ou,hb]
    rw[hd] at hne hall;have ha:48≤c.toNat:=by
     simp only[C4,AgO] at hall;have:=hall.1;simp[Jx] at this;omega
    rw[Lib.atoiAll_plain c r Ab Ab];exact PW (Uh hne hall)
 rcases key with⟨v,hv⟩ | h
 ·exact .inl ⟨v,hv,Lib.atoiAll_bounds hv⟩
 ·exact .inr h
theorem RK (m:Int)(h0:-9223372036854775808≤m)(h1:m≤9223372036854775807):Ae (Lib.itoa m)≤21:=Lib.itoa_length_le m h0 h1
set_option linter.unusedVariables false
def Qp (c:Int):Option Bool:=
 Ad ((Ac (97≤c))&&(Ac (c≤122)))
def Qq (c:Int):Option Bool:=
 Ad ((Ac (48≤c))&&(Ac (c≤57)))
def Df (ha:Bool):Option Bool:=
 Ad ha
def MX (c:Int):Option Bool:=
 BN (Qp c) λha=>BX ha (Df Af) (BN (Qq c) λhb=>BX hb (Df Af) (BX (Ac (65≤c)) (BX (Ac (c≤90)) (Df Af) (BX (Ac (c=45)) (Df Af) (BX (Ac (c=95)) (Df Af) (BX (Ac (c=46)) (Df Af) (BX (Ac (c=58)) (Df Af) (Df (Ac (c=47)))))))) (BX (Ac (c=45)) (Df Af) (BX (Ac (c=95)) (Df Af) (BX (Ac (c=46)) (Df Af) (BX (Ac (c=58)) (Df Af) (Df (Ac (c=47)))))))))
def Ea (n:Int):Option Bool:=
 Ad ((Ac ((-1000000000000)≤n))&&(Ac (n≤1000000000000)))
def H4 (hb:A1)(ha:Int):Option (Stp Int (Out Bool Unit)):=
 BX (Ac (ha<(hb.length:Int))) (Bp (CR ha (hb.length:Int))<|BX (((Ac ((E4 hb ha)<48))||(Ac (57<(E4 hb ha))))) (Ad (.out (.ret Ah))) (Bp (Dc .i64 (ha+1))<|some (.next (ha+1)))) (Ad (.out (.go ())))
def H3 :Option Bool:=
 Ad Af
def EX (F:Nat)(s ha:A1):Option Bool:=
 Bp (imp (!(Ac (ha=([]:A1)))) (CR 0 (ha.length:Int)))<|BX (((Ac (ha=([]:A1)))||((Ac ((E4 ha 0)=48))&&(!Ac (s=([48]:A1)))))) (Ad Ah) (BN (CQ (λσ=>H4 ha σ) F 0) (CT λν=>H3 ))
def NJ (F:Nat)(s:A1):Option Bool:=
 Bp (imp (Ac (0<(Ae s:Int))) (CR 0 (Ae s:Int)))<|BX (((Ac (0<(Ae s:Int)))&&(Ac ((E4 s 0)=45)))) (Bp (NQ 1 (Ae s:Int))<|EX F s (Ap (Ao 1) s)) (EX F s s)
end Go.Proofs.YtinflkgbhkcfnaaGreatDoor
namespace Go.Proofs.YtinflkgbhkcfnaaGreatDoor.Q
open Go Go.RowKit
set_option linter.unusedVariables false
set_option linter.unusedSimpArgs false
set_option maxRecDepth 100000
set_option maxHeartbeats 4000000
variable{E:Fz→Prop}
theorem Yr (c:Int)(r:Bool)(h:Qp c=Ad r):Fn prog E 91 [rI .i32 c] [] (PO (rB r)):=en func91 ntmps91 Aa λw Z=>by unfold Qp at h;exact AX Aa<|By<|AV [(2,rB ((BA (97≤c))&&(BA (c≤122))))] [] (Ct Aa<|wv DN<|ms Aa<|Bd (BA (97≤c)) (λc1=>wo c1<|ms Aa<|Bw c1 Gt<|En Aa c1 Aa<|B6 Aa<|Cv c1) λc1=>CX c1 Aa<|wv (AE c1)<|B6 Aa<|Cv c1)<|C5<|cs h▸DG results91 ⟨Aa,Aa⟩
theorem Ys (c:Int)(r:Bool)(h:Qq c=Ad r):Fn prog E 92 [rI .i32 c] [] (PO (rB r)):=en func92 ntmps92 Aa λw Z=>by unfold Qq at h;exact AX Aa<|By<|AV [(2,rB ((BA (48≤c))&&(BA (c≤57))))] [] (Ct Aa<|wv DN<|ms Aa<|Bd (BA (48≤c)) (λc1=>wo c1<|ms Aa<|Bw c1 Gt<|En Aa c1 Aa<|B6 Aa<|Cv c1) λc1=>CX c1 Aa<|wv (AE c1)<|B6 Aa<|Cv c1)<|C5<|cs h▸DG results92 ⟨Aa,Aa⟩
theorem iLetter_w (c:Int)(r:Bool)(h:MX c=Ad r):Fn prog E 59 [rI .i32 c] [] (PO (rB r)):=en func59 ntmps59 Aa λw Z=>by unfold MX at h;exact AX Aa<|By<|Ey (S:=Bool×Unit) (λσ=>Df σ.1=Ad r) (λσ=>[(2,rB σ.1)]) (λσ=>[]) (Ct Aa<|ob h λhl hm hn=>D0 call91 (Yr c hl hm)<|ms Aa<|bz hn (λha ho=>CX ha Aa<|wv (A7 ha)<|ms Aa<|E5 Aa<|wu<|wu<|vz Aa<|wv (A7 Aa)<|ms Aa<|E5 Aa<|wv (A7 Aa)<|ms Aa<|E5 Aa<|wv (A7 Aa)<|ms Aa<|E5 Aa<|wv (A7 Aa)<|ms Aa<|E5 Aa<|wv (A7 Aa)<|ms Aa<|E5 Aa<|wv (A7 Aa)<|B6 Aa<|AR (AK (Af,()) ho (AZ Aa) sN)) λha hp=>wo ha<|ms Aa<|wo ha<|ob hp λhq hr hs=>D0 call92 (Ys c hq hr)<|DW Aa ha Aa<|ms Aa<|bz hs (λc53 ht=>CX c53 Aa<|wu<|wu<|wf c53<|wv (A7 c53)<|ms Aa<|E5 Aa<|wv (A7 Aa)<|ms Aa<|E5 Aa<|wv (A7 Aa)<|ms Aa<|E5 Aa<|wv (A7 Aa)<|ms Aa<|E5 Aa<|wv (A7 Aa)<|ms Aa<|E5 Aa<|wv (A7 Aa)<|B6 Aa<|AR (AK (Af,()) ht (AZ Aa) sN)) λc53 hu=>wo c53<|ms Aa<|Bw c53 DN<|wo c53<|ms Aa<|bz hu (λhb hv=>wo hb<|ms Aa<|Bw hb Gt<|wo c53<|En Aa hb Aa<|DW Aa c53 Aa<|ms Aa<|bz hv (λhc hw=>CX hc Aa<|wv (A7 hc)<|ms Aa<|E5 Aa<|wv (A7 Aa)<|ms Aa<|E5 Aa<|wv (A7 Aa)<|ms Aa<|E5 Aa<|wv (A7 Aa)<|ms Aa<|E5 Aa<|wv (A7 Aa)<|B6 Aa<|AR (AK (Af,()) hw (AZ Aa) sN)) λhc hx=>wo hc<|ms Aa<|Bw hc Be<|DW Aa hc Aa<|ms Aa<|bz hx (λhd hy=>CX hd Aa<|wv (A7 hd)<|ms Aa<|E5 Aa<|wv (A7 Aa)<|ms Aa<|E5 Aa<|wv (A7 Aa)<|ms Aa<|E5 Aa<|wv (A7 Aa)<|B6 Aa<|AR (AK (Af,()) hy (AZ Aa) sN)) λhd hz=>wo hd<|ms Aa<|Bw hd Be<|DW Aa hd Aa<|ms Aa<|bz hz (λhe h0=>by exact CX he Aa<|wv (A7 he)<|ms Aa<|E5 Aa<|wv (A7 Aa)<|ms Aa<|E5 Aa<|wv (A7 Aa)<|B6 Aa<|AR (AK (Af,()) h0 (AZ Aa) sN)) λhe h1=>by exact wo he<|ms Aa<|Bw he Be<|DW Aa he Aa<|ms Aa<|bz h1 (λhf h2=>CX hf Aa<|wv (A7 hf)<|ms Aa<|E5 Aa<|wv (A7 Aa)<|B6 Aa<|AR (AK (Af,()) h2 (AZ Aa) sN)) λhf h3=>wo hf<|ms Aa<|Bw hf Be<|DW Aa hf Aa<|ms Aa<|bz h3 (λhg h4=>CX hg Aa<|wv (A7 hg)<|B6 Aa<|AR (AK (Af,()) h4 (AZ Aa) sN)) λhg h5=>wo hg<|ms Aa<|Bw hg Be<|DW Aa hg Aa<|B6 Aa<|AR (AK (BA (c=47),()) h5 (AZ Aa) sN)) λhb h6=>CX hb Aa<|Bw c53 (AE hb)<|DW Aa c53 Aa<|ms Aa<|EW Aa<|ms Aa<|EW Aa<|wv Be<|wv (AE Aa)<|ms Aa<|bz h6 (λhh h7=>CX hh Aa<|wv (A7 hh)<|ms Aa<|E5 Aa<|wv (A7 Aa)<|ms Aa<|E5 Aa<|wv (A7 Aa)<|ms Aa<|E5 Aa<|wv (A7 Aa)<|B6 Aa<|AR (AK (Af,()) h7 (AZ Aa) sN)) λhh h8=>wo hh<|ms Aa<|Bw hh Be<|DW Aa hh Aa<|ms Aa<|bz h8 (λhi h9=>by exact CX hi Aa<|wv (A7 hi)<|ms Aa<|E5 Aa<|wv (A7 Aa)<|ms Aa<|E5 Aa<|wv (A7 Aa)<|B6 Aa<|AR (AK (Af,()) h9 (AZ Aa) sN)) λhi hA=>by exact wo hi<|ms Aa<|Bw hi Be<|DW Aa hi Aa<|ms Aa<|bz hA (λc80 hB=>CX c80 Aa<|wv (A7 c80)<|ms Aa<|E5 Aa<|wv (A7 Aa)<|B6 Aa<|AR (AK (Af,()) hB (AZ Aa) sN)) λc80 hC=>wo c80<|ms Aa<|Bw c80 Be<|DW Aa c80 Aa<|ms Aa<|bz hC (λhj hD=>CX hj Aa<|wv (A7 hj)<|B6 Aa<|AR (AK (Af,()) hD (AZ Aa) sN)) λhj hE=>wo hj<|ms Aa<|Bw hj Be<|DW Aa hj Aa<|B6 Aa<|AR (AK (BA (c=47),()) hE (AZ Aa) sN))<|by rintro⟨hF,⟨⟩⟩ hk;refine EA ?_;exact have hk:Df hF=Ad r:=hk;by unfold Df at hk;exact C5<|cs hk▸DG results59 ⟨Aa,Aa⟩
theorem nValid_w (n:Int)(r:Bool)(h:Ea n=Ad r):Fn prog E 125 [AO n] [] (PO (rB r)):=en func125 ntmps125 Aa λw Z=>by unfold Ea at h;exact AX Aa<|By<|AV [(2,rB ((BA ((-1000000000000)≤n))&&(BA (n≤1000000000000))))] [] (Ct Aa<|wv Gt<|ms Aa<|Bd (BA ((-1000000000000)≤n)) (λc1=>wo c1<|ms Aa<|Bw c1 Gt<|En Aa c1 Aa<|B6 Aa<|Cv c1) λc1=>CX c1 Aa<|wv (AE c1)<|B6 Aa<|Cv c1)<|C5<|cs h▸DG results125 ⟨Aa,Aa⟩
theorem nDecimal_w (F:Nat)(s:A1)(r:Bool)(h:NJ F s=Ad r):Fn prog E 154 [rS s] [] (PO (rB r)):=en func154 ntmps154 Aa λw Z=>AX Aa<|BY Aa<|BW<|ck h λg1 h2=>AV [(0,rS s),(3,rS s),(13,rB ((BA (0<(Ae s:Int)))&&(BA ((E4 s 0)=45))))] [] (Ct Aa<|wv CU<|wv CC<|ms Aa<|Bd (BA (0<(Ae s:Int))) (λc3=>wo c3<|ms Aa<|Bw c3 (Dz (DD g1 c3))<|Bw c3 Be<|En Aa c3 Aa<|AP<|Cv c3) λc3=>CX c3 Aa<|wv (AE c3)<|AP<|Cv c3)<|Rd (S:=A1×Unit) (λσ=>EX F s σ.1=Ad r) (λσ=>[(0,rS s),(3,rS σ.1)]) (λσ=>[]) (Cg h2 (λhk hl=>Ct Aa<|ck hl λg15 hm=>wv (Gu Ij Aa Aa g15)<|B6 Aa<|AR (AK (Ap (CF 1) s,()) hm (AZ Aa) sN)) λhk hn=>BG<|AR (AK (s,()) hn (AZ Aa) sN))<|by rintro⟨ha,⟨⟩⟩ hf;refine EA ?_;exact have hf:EX F s ha=Ad r:=hf;Bj<|ck hf λg19 ho=>AV [(3,rS ha),(26,rB ((BA (ha=([]:A1)))||((BA ((E4 ha 0)=48))&&(!BA (s=([48]:A1))))))] [] (Ct Aa<|wv Cr<|ms Aa<|Bd (BA (ha=([]:A1))) (λc21=>CX c21 Aa<|wu<|wu<|wf c21<|wv (A7 c21)<|AP<|Cv c21) λc21=>wo c21<|ms Aa<|Bw c21 (Dz (DH g19 c21))<|Bw c21 Be<|wo c21<|ms Aa<|Bd (BA ((E4 ha 0)=48)) (λhc=>wo hc<|ms Aa<|Bw hc (Kk Aa Aa)<|wo c21<|En Aa hc Aa<|DW Aa c21 Aa<|AP<|Cv (C9 c21 hc)) λhc=>CX hc Aa<|Bw c21 (AE hc)<|DW Aa c21 Aa<|AP<|Cv (C9 c21 hc))<|Cg ho (λhp hq=>CA Aa<|cs hq▸DG results154 ⟨Aa,Aa⟩) λhp hr=>Cm<|AX Aa<|wv CU<|Bq Aa<|A6<|ob hr λhs ht hi=>B5 (V:=Unit×Unit) 0 (λσ=>CQ (λσ=>H4 ha σ) σ.1 σ.2.1=Ad hs) (λσ=>[(3,rS ha),(28,AO (ha.length:Int)),(29,AO σ.2.1)]) (λσ=>[]) (λσ=>σ.1) (F,0,()) ht (AZ Aa) sN (λσ=>H3 =Ad r) (λσ=>[]) (λσ=>[]) (by rintro⟨hA,hd,⟨⟩⟩ hu;refine EA ?_;obtain⟨hv,rfl,hw,hg,hh⟩:=CJ hu;have hg:H4 ha hd=Ad hw:=hg;exact A8<|wv BO<|BW<|Cg hg (λhx hy=>Cm<|A6<|AX Aa<|By<|ck hy λhj hz=>AV [(3,rS ha),(28,AO (ha.length:Int)),(29,AO hd),(41,rB ((BA ((E4 ha hd)<48))||(BA (57<(E4 ha hd)))))] [] (Ct Aa<|wv (Dz hj)<|wv BO<|ms Aa<|Bd (BA ((E4 ha hd)<48)) (λhb=>CX hb Aa<|wv (A7 hb)<|AP<|Cv hb) λhb=>wo hb<|ms Aa<|wo hb<|ms Aa<|Bw hb (Dz hj)<|Bw hb CC<|DW Aa hb Aa<|AP<|Cv hb)<|Cg hz (λh0 h1=>BC Aa<|B2<|Ba<|B3<|have h3:=Ck h1 hh hi;B2<|cs h3▸DG results154 ⟨Aa,Aa⟩) λh0 h4=>BG<|CY<|AM<|ck h4 λh5 h6=>wv (BM h5)<|B6 Aa<|have h7:=BE h6 hh;AR (AK (hv,hd+1,()) ⟨h7,AgK _⟩ (AZ Aa) sN)) λhx h8=>BH<|A3<|have h9:=Cu h8 hh hi;A3 (Br (AK ((),()) h9 Ga.nil sN)))<|by rintro⟨⟨⟩,⟨⟩⟩ he;refine G4 ?_;exact have he:H3 =Ad r:=he;by unfold H3 at he;exact Bn<|CE<|BC Aa<|cs he▸DG results154 ⟨Aa,Aa⟩
end Go.Proofs.YtinflkgbhkcfnaaGreatDoor.Q
namespace Go.Proofs.YtinflkgbhkcfnaaGreatDoor
open Go
set_option linter.unusedVariables false
set_option linter.unusedSimpArgs false
theorem YZ {f:Nat→UInt8→Bool}:∀{l:List UInt8} {i:Nat},(∀j,∀u∈l,f j u=Af)→C4 f i l=Af
 | [],_,_=>rfl
 | x::r,i,h=>by simp only[C4,AgO];exact⟨h i x Aj,YZ λj u hu=>h j u (by simp[hu])⟩
theorem TY:∀(l:List UInt8) (acc v:Nat) (c:UInt8),Lib.parseUint10 acc l = .ok v→48≤c.toNat→c.toNat≤57→v<1844674407370955161→Lib.parseUint10 acc (l++[c]) = .ok (v*10+(c.toNat-48))
 | [],acc,v,c,h,h0,h1,hv=>by
  simp only[Lib.parseUint10,Lib.NumEnd.ok.injEq] at h;subst h;simp only[List.nil_append,Lib.parseUint10];rw[Ahe ⟨h0,h1⟩,AgV Ab,AgV Ab]
 | x::r,acc,v,c,h,h0,h1,hv=>by
  simp only[List.cons_append,Lib.parseUint10] at h ⊢
  split at h
  ·rename_i hx
   rw[Ahe hx]
   split at h
   ·cases h
   ·rename_i hy
    rw[AgV hy]
    split at h
    ·cases h
    ·rename_i hz
     rw[AgV hz];exact TY r _ v c h h0 h1 hv
  ·cases h
theorem KB {d:Nat}(h:d<10):(Ar (48+d)).toNat=48+d:=by
 simp[UInt8.toNat_ofNat'];omega
theorem AaS (u:Nat):∀c∈Lib.decDigits u,48≤c.toNat∧c.toNat≤57:=by
 induction u using Nat.strongRecOn with
 | ind u ih=>
  intro c hc;rw[Lib.decDigits] at hc
  split at hc
  ·simp only[Ahn] at hc;subst hc;rw[KB Ab];omega
  ·rcases List.mem_append.1 hc with hc | hc
   ·exact ih (u/10) Ab c hc
   ·simp only[Ahn] at hc;subst hc;rw[KB Ab];omega
theorem VY (u:Nat):u<18446744073709551610→Lib.parseUint10 0 (Lib.decDigits u) = .ok u:=by
 induction u using Nat.strongRecOn with
 | ind u ih=>
  intro hu;rw[Lib.decDigits]
  split
  ·rename_i h
   simp only[Lib.parseUint10];rw[KB h,Ahe Ab,AgV Ab,AgV Ab]
   congr 1;omega
  ·rename_i h
   have:=TY (Lib.decDigits (u/10)) 0 (u/10) (Ar (48+u % 10)) (ih (u/10) Ab Ab) (by rw[KB Ab];omega) (by rw[KB Ab];omega) Ab;rw[this,KB Ab]
   congr 1;omega
theorem Y9 (u:Nat):Lib.decDigits u≠[]:=by
 rw[Lib.decDigits];split<;>simp
theorem VZ (u:Nat):1≤u→E4 (Lib.decDigits u) 0≠48:=by
 induction u using Nat.strongRecOn with
 | ind u ih=>
  intro hu;rw[Lib.decDigits]
  split
  ·rename_i h
   have:=KB h;simp only[E4,Int.toNat_zero,List.getElem?_cons_zero,AgX];rw[this];omega
  ·rename_i h
   have h1:=ih (u/10) Ab Ab;have hne:=Y9 (u/10);unfold E4 at h1 ⊢;rw[show(0:Int).toNat=0 from rfl] at h1 ⊢
   rwa [Ahj (by cases hd:Lib.decDigits (u/10) with | nil=>exact absurd hd hne | cons=>simp)]
theorem AaR (u:Nat)(h:u<10):Lib.decDigits u=[Ar (48+u)]:=by rw[Lib.decDigits];simp[h]
theorem Yn {m:Int}(h0:0≤m):Lib.itoa m=Lib.decDigits m.toNat:=by
 have:=Lib.itoa_nonneg m.toNat
 rwa [show((m.toNat:Nat):Int)=m from Ab] at this
theorem VM {m:Int}(h0:0≤m)(h1:m≤1000000000000):ED (Lib.itoa m)=0∧D4 (Lib.itoa m)=m:=by
 rw[Yn h0];generalize hu:m.toNat=u;have hub:u≤1000000000000:=Ab
 have hall:=AaS u;have hne:=Y9 u;have hd0:∃c r,Lib.decDigits u=c::r:=by cases h:Lib.decDigits u with | nil=>exact absurd h hne | cons c r=>exact⟨c,r,rfl⟩
 obtain⟨c,r,hcr⟩:=hd0;have hc:48≤c.toNat∧c.toNat≤57:=hall c (by simp[hcr]);have hs:Ou (Lib.decDigits u)=Ah:=by
  rw[hcr];have e:E4 (c::r) 0=c.toNat:=rfl;simp only[Ou,e,Bool.and_eq_false_iff,AgW]
  right;omega
 have hdg:Mi (Lib.decDigits u)=Lib.decDigits u:=by simp[Mi,hs]
 have hdec:Ob (Lib.decDigits u)=Af:=by
  simp only[Ob,hdg];have h2:C4 Jx 0 (Lib.decDigits u)=Af:=YZ λj x hx=>by
   have:=hall x hx;simp[Jx];omega
  rw[h2];have h3:Ac (Lib.decDigits u=[])=Ah:=by simpa using hne
  rw[h3]
  by_cases hz:u=0
  ·subst hz;rw[AaR 0 Ab];rfl
  ·have:=VZ u Ab;simp[this]
 have hat:Lib.atoiAll (Lib.decDigits u) = .ok (u:Int):=by
  have h4:=VY u Ab;rw[hcr] at h4 ⊢;rw[Lib.atoiAll_plain c r Ab Ab];have:Lib.parseMag (c::r) = .ok u:=by unfold Lib.parseMag;rw[AgV Aj];exact h4
  rw[this];simp only[Lib.signless];rw[AgV Ab]
 have hv:IZ (u:Int)=Af:=by simp[IZ];omega
 simp only[ED,D4,hdec,if_true,hat,hv];exact⟨trivial,Ab⟩
theorem Adc {p q r:Bool}:BX p (Ad q) (Ad r)=Ad (bif p then q else r):=by cases p<;>rfl
theorem VN (c:Int):Qp c=Ad (PT c):=rfl
theorem VO (c:Int):Qq c=Ad (Q0 c):=rfl
theorem RF {a b c d e f g h k:Bool}:(a||(b||bif c then(d||(e||(f||(g||(h||k))))) else(e||(f||(g||(h||k))))))=(a||b||(c&&d)||e||f||g||h||k):=by cases c<;>simp[Bool.or_assoc]
theorem Tp (c:Int):MX c=Ad (Gg c):=by
 unfold MX Df;rw[VN,C3 rfl,VO,C3 rfl];simp only[Adc,Bool.cond_true_left,RF];rfl
theorem RE {R U:Type}{f:Nat→UInt8→Bool}{p:A1}{body:Int→Option (Stp Int (Out R U))}{u:U}{q:R}(hp:Ae p≤281474976710656)
  (hb:∀x:Int,body x=BX (Ac (x<(Ae p:Int))) (Bp (CR x (Ae p:Int))<|BX (!f x.toNat ((p[x.toNat]?).getD 0)) (Ad (.out (.ret q))) (Bp (Dc .i64 (x+1))<|some (.next (x+1)))) (Ad (.out (.go u)))) :
  ∀(d i F:Nat),i+d=Ae p→d<F→CQ body F (i:Int)=Ad (bif C4 f i (p.drop i) then .go u else .ret q)
 | _,_,0,_,h=>by omega
 | 0,i,F+1,h,_=>by
  rw[CQ,hb,CV (AgN Ab),List.drop_of_length_le Ab];rfl
 | d+1,i,F+1,h,hF=>by
  have hi:i<Ae p:=Ab
  rw[CQ,hb,Dh (AgL Ab),HB Ab Ab,De Ab Ab,List.drop_eq_getElem_cons hi,show((i:Int)).toNat=i from Ab,AgJ hi,AgX,C4]
  cases f i p[i] with
  | false=>rfl
  | true=>exact RE hp hb d (i+1) F Ab Ab
theorem Aay {dg:A1}(hd:Ae dg≤281474976710656){F:Nat}(hF:Ae dg<F){body:Int→Option (Stp Int (Out Bool Unit))}(hb:∀x:Int,body x=BX (Ac (x<(Ae dg:Int))) (Bp (CR x (Ae dg:Int))<|BX (Ac (E4 dg x<48)||decide (57<E4 dg x)) (Ad (.out (.ret Ah))) (Bp (Dc .i64 (x+1))<|some (.next (x+1)))) (Ad (.out (.go ())))) :
  BN (CQ body F 0) (CT λ_=>Ad Af)=Ad (C4 Jx 0 dg):=by
 have e:=RE (f:=Jx) (p:=dg) (body:=body) (u:=()) (q:=Ah) hd (λx=>by rw[hb];simp only[Jx,Bool.not_not];rfl) (Ae dg) 0 F Ab hF;rw[List.drop_zero] at e;refine(C3 e).trans ?_
 cases C4 Jx 0 dg<;>rfl
theorem Aab {s:A1}(h:Ou s=Af):1≤Ae s:=by simp[Ou] at h;omega
theorem AdQ {a:Bool}{s:A1}(h:a=Af→0<Ae s):imp a (CR 0 (Ae s:Int))=Af:=by
 cases a with
 | false=>rfl
 | true=>simp[imp,CR];exact h rfl
theorem NI {p dg:A1}(hs:Ae dg≤281474976710656)(hp:Ae dg≤Ae p)(hdg:Mi p=dg):EX (Ae p+1) p dg=Ad (Ob p):=by
 unfold EX;rw[C8 (AdQ (by simp;intro h;exact List.length_pos_iff.2 h))];unfold Ob;rw[hdg]
 cases h:(Ac (dg=([]:A1))||(Ac (E4 dg 0=48)&&!Ac (p=([48]:A1)))) with
 | true=>rfl
 | false=>
  have e:=Aay (F:=Ae p+1) (body:=λσ=>H4 dg σ) hs Ab (λx=>rfl);rw[CV rfl,Ahm,Ahr];exact e
theorem R9 {s:A1}(hs:Ae s≤281474976710656):NJ (Ae s+1) s=Ad (Ob s):=by
 unfold NJ;rw[C8 (AdQ Aj)];have e:(Ac ((0:Int)<Ae s)&&Ac (E4 s 0=45))=Ou s:=rfl;rw[e]
 cases h:Ou s with
 | false=>rw[CV rfl];exact NI hs (AgU _) (by simp[Mi,h])
 | true=>
  have:=Aab h;rw[Dh rfl,Q3 Ab Ab];exact NI Am Aj (by simp[Mi,h])
theorem V2 (m:Int):Ea m=Ad (IZ m):=rfl
open Go Go.RowKit
set_option maxRecDepth 100000
theorem XW (c:Int)(w:World):Calls prog 59 [.int .i32 c].toArray w (Mq w (.bool (Gg c))):=Q.Fn0.old [.int .i32 c] (Q.iLetter_w c _ (Tp c)) w
theorem ZI (m:Int)(w:World):Calls prog 125 [.int .i64 m].toArray w (Mq w (.bool (IZ m))):=Q.Fn0.old [.int .i64 m] (Q.nValid_w m _ (V2 m)) w
theorem Aft (p:List UInt8)(w:World):Calls prog 28 [.string (B p)].toArray w (Mq w (.bool (Hk p))):=by
 refine Qw (n:=21) func28 rfl ntmps28 rfl<|Bj<|AM<|Dj (C6 rfl) rfl<|AP<|AR (CS ?_);refine Bj<|Bj<|AM<|Dj (Bg rfl) rfl<|Vc Ij rfl rfl (λb1=>?_);refine AP<|AR (CS ?_);refine A6<|PH (S:=Nat) (λ(k:Nat)=>k≤Ae p∧C4 Mf 0 p=C4 Mf k (p.drop k)) (λ(k:Nat)=>[(0,.string (B (p))),(2,.bool (Ah)),(6,.pointer (Ad ⟨b1,0,Ai⟩))]) (λ(k:Nat)=>[.blk b1 (.stringIter (B p) (k))]) (λ(k:Nat)=>Ae p-k) (0) ?_ ⟨rfl,rfl,rfl,trivial⟩ (.cons_cons _ (.slnil)) ?_
 ·exact⟨Aht _,Aj⟩
 rintro k hi0;refine Bj<|AM<|WY (i:=0) rfl rfl rfl (λhend=>?_) (λu2 c3 wd4 hu2 hlu2 hhu2 hwu2=>?_)
 ·refine Dj (Er rfl rfl) rfl<|AP<|AR (CS ?_);refine Bj<|AD rfl rfl<|BH<|A3<|A3<|Bn<|AR (CS ?_);refine AV [(2,.bool (((Ac ((1)≤((Ae p:Int))))&&(Ac (((Ae p:Int))≤(64))))))] [.blk b1 (.stringIter (B p) (k))] (φ:=True) ?_ (λhm5=>?_)
  ·refine AM<|Dj (Bg rfl) rfl<|Dj (MT Ij rfl) rfl<|Dj (R8 rfl rfl) rfl<|Dj (Bg rfl) rfl<|Bd (Ac ((1)≤((Ae p:Int)))) (λh5=>?_) (λh5=>?_)
   ·have g5:=h5;try simp only[AgQ,AgW] at g5
    refine DX rfl rfl h5<|Dj (Bg rfl) rfl<|DX rfl rfl h5<|Dj (MT Ij rfl) rfl<|DX rfl rfl h5<|Dj (Vz rfl rfl) rfl<|Dj (Hb rfl h5 rfl) rfl<|Dj (C6 rfl) rfl<|AP ?_;exact AR (Kx trivial ⟨fb (by first | (simp only[h5,Ahr,Ahy,Ahw,Ahb,Ah3,Ahz,Bool.or_true,Ah2,Ahl,Ahm,Ahq,Ah1,if_true,Ahx,reduceIte,Bool.false_eq_true];done) | simp[h5]),trivial⟩ (.cons_cons _ (.slnil)))
   ·have g5:=h5;try simp only[AgQ,AgW] at g5
    refine EO rfl rfl h5 rfl<|EO rfl rfl h5 rfl<|EO rfl rfl h5 rfl<|Dj (DL rfl h5 rfl) rfl<|Dj (C6 rfl) rfl<|AP ?_;exact AR (Kx trivial ⟨fb (by first | (simp only[h5,Ahr,Ahy,Ahw,Ahb,Ah3,Ahz,Bool.or_true,Ah2,Ahl,Ahm,Ahq,Ah1,if_true,Ahx,reduceIte,Bool.false_eq_true];done) | simp[h5]),trivial⟩ (.cons_cons _ (.slnil)))
  refine C5<|AB (CW rfl rfl) ?_;exact Rw (by rw[AcN hi0 hend])
 ·refine Dj (Er rfl rfl) rfl<|AP<|AR (CS ?_);refine Bj<|Bh rfl rfl<|BG<|AR (CS ?_);refine A6<|Bj<|AM<|Dj (Er rfl rfl) rfl<|Dj (C6 rfl) rfl<|AP<|AR (CS ?_);refine Bj<|AM<|Dj (Bg rfl) rfl<|Gf call59 rfl (λw hw=>XW (c3:Int) w) rfl<|Dj (M4 rfl) rfl<|AP<|AR (CS ?_);refine JB (b:=!(Gg (c3:Int))) rfl (λh7=>?_) (λh7=>?_)
  ·have g7:=h7;try simp only[AgQ,AgW] at g7
   refine Bj<|AM<|Dj (C6 rfl) rfl<|AP<|AR (CS ?_);refine C5<|Dd<|Ba<|Dd<|Ba<|AB (CW rfl rfl) ?_;exact Rw (by rw[AdR hi0 hu2 hlu2 hhu2 h7])
  ·have g7:=h7;try simp only[AgQ,AgW] at g7
   refine BG<|BK<|AR<|AK (k+wd4) ?_ ⟨rfl,rfl,rfl,trivial⟩ (.cons_cons _ (.slnil));exact AaN hi0 hu2 hlu2 hhu2 h7
theorem RL (p:List UInt8)(m:Int)(w:World):Calls prog 210 [.string (B (p)),.int .u8 (m)].toArray w (Mq w (.int .i64 (Lib.indexByte p (Ao m).toUInt8))):=by
 refine Qw (n:=8) func210 rfl ntmps210 rfl<|Bj<|AM<|Dj (C6 rfl) rfl<|AP<|AR (CS ?_);refine Bj<|AM<|Dj (Bg rfl) rfl<|Dj (Bg rfl) rfl<|Dj (v:=.int .i64 (Lib.indexByte p (Ao (m)).toUInt8)) (AdK rfl (Oy func257 Ak Ak Ak Ak p (m))) rfl<|Dj (C6 rfl) rfl<|AP<|AR (CS ?_);refine C5<|AB (CW rfl rfl) ?_;exact Rw (by first | rfl | simp[])
theorem VX (p:List UInt8)(hp:Ae p≤281474976710656)(w:World):Calls prog 154 [.string (B p)].toArray w (Mq w (.bool (Ob p))):=Q.Fn0.old [.string (B p)] (Q.nDecimal_w (Ae p+1) p _ (R9 hp)) w
theorem Y1 (m:Int)(h0:-9223372036854775808≤m)(h1:m≤9223372036854775807)(w:World)(hE:UN w):Calls prog 58 [.int .i64 (m)].toArray w (Mq w (.string (B (Lib.itoa m)))):=by
 refine Qw (n:=5) func58 rfl ntmps58 rfl<|Bj<|AM<|Dj (C6 rfl) rfl<|AP<|AR (CS ?_);refine Bj<|AM<|Dj (Bg rfl) rfl<|Gf call90 rfl (λw hw=>AcF m Ab Ab w (hE.st0 hw)) rfl<|Dj (C6 rfl) rfl<|AP<|AR (CS ?_);refine C5<|AB (CW rfl rfl) ?_;exact Rw (by first | rfl | simp[])
theorem Aaj (p:List UInt8)(hp:Ae p≤281474976710656)(w:World)(hE:UN w):Calls prog 94 [.string (B (p))].toArray w (Mq w (.tuple #[.int .i64 (D4 p),.int .i64 (ED p)])):=by
 refine Qw (n:=22) func94 rfl ntmps94 rfl<|Bj<|AM<|Dj (C6 rfl) rfl<|Dj (C6 rfl) rfl<|AP<|AR (CS ?_);refine Bj<|Bj<|AM<|Dj (Bg rfl) rfl<|Gf call154 rfl (λw hw=>VX p (by first | omega | (simp;done) | (simp;omega) | (simp at *;omega)) w) rfl<|Dj (M4 rfl) rfl<|AP<|AR (CS ?_);refine JB (b:=!(Ob p)) rfl (λha=>?_) (λha=>?_)
 ·have hd:=ha;try simp only[AgQ,AgW] at hd
  have f14:=ha;try simp only[AgQ,AgW,AgO,AgZ,Ahh,Bool.not_eq_false',Bool.and_eq_false_iff,Aho,not_or,Int.not_lt,Int.not_le] at f14
  refine Bj<|AM<|Dj (C6 rfl) rfl<|Dj (C6 rfl) rfl<|AP<|AR (CS ?_);refine C5<|Ba<|AB (Ha rfl rfl rfl) ?_;exact Rw (by simp[D4,ED,f14])
 ·have hd:=ha;try simp only[AgQ,AgW] at hd
  have f14:=ha;try simp only[AgQ,AgW,AgO,AgZ,Ahh,Bool.not_eq_false',Bool.and_eq_false_iff,Aho,not_or,Int.not_lt,Int.not_le] at f14
  refine BG<|AR (CS ?_);refine Bj<|AM<|Dj (Bg rfl) rfl ?_;rcases YW (p:=p) (by assumption) with⟨av,hav,hal,hah⟩ | hav
  ·refine Gf call155 rfl (λw _=>Abj p (by first | omega | (simp;done) | (simp;omega) | (simp at *;omega)) av hav w) rfl<|Dj (Bg rfl) rfl<|Dj (Er rfl rfl) rfl<|Dj (Er rfl rfl) rfl<|Dj (C6 rfl) rfl<|Dj (C6 rfl) rfl<|AP<|AR (CS ?_);refine Bj<|AV [(2,.int .i64 (0)),(3,.int .i64 (0)),(4,.int .i64 (av)),(20,.bool (!(IZ av)))] [] (φ:=True) ?_ (λhe=>?_)
   ·exact AM<|Dj (Bg rfl) rfl<|Dj (R7 underlying253 rfl) rfl<|Dj (Bg rfl) rfl<|DX rfl rfl rfl<|Dj (Bg rfl) rfl<|DX rfl rfl rfl<|Gf call125 rfl (λw hw=>ZI av w) rfl<|DX rfl rfl rfl<|Dj (M4 rfl) rfl<|Dj (DL rfl rfl rfl) rfl<|AP<|AR (Kx trivial ⟨rfl,rfl,rfl,rfl,trivial⟩ .slnil)
   refine JB (b:=!(IZ av)) rfl (λhb=>?_) (λhb=>?_)
   ·have g16:=hb;try simp only[AgQ,AgW] at g16
    have hc:=hb;try simp only[AgQ,AgW,AgO,AgZ,Ahh,Bool.not_eq_false',Bool.and_eq_false_iff,Aho,not_or,Int.not_lt,Int.not_le] at hc
    refine Bj<|AM<|Dj (C6 rfl) rfl<|Dj (C6 rfl) rfl<|AP<|AR (CS ?_);refine C5<|Ba<|AB (Ha rfl rfl rfl) ?_;exact Rw (by simp[D4,ED,hav,f14,hc])
   ·have g16:=hb;try simp only[AgQ,AgW] at g16
    have hc:=hb;try simp only[AgQ,AgW,AgO,AgZ,Ahh,Bool.not_eq_false',Bool.and_eq_false_iff,Aho,not_or,Int.not_lt,Int.not_le] at hc
    refine BG<|AR (CS ?_);refine Bj<|AM<|Dj (Bg rfl) rfl<|Dj (C6 rfl) rfl<|Dj (C6 rfl) rfl<|AP<|AR (CS ?_);refine C5<|AB (Ha rfl rfl rfl) ?_;exact Rw (by simp[D4,ED,hav,f14,hc])
  ·refine ZH call155 rfl (λw hw=>T4 p (by first | omega | (simp;done) | (simp;omega) | (simp at *;omega)) hav w (hE.st0 hw)) rfl ?_;rintro _ _ ⟨am,at_,ab,rfl,rfl⟩;refine Dj (Bg rfl) rfl<|Dj (Er rfl rfl) rfl<|Dj (Er rfl rfl) rfl<|Dj (C6 rfl) rfl<|Dj (C6 rfl) rfl<|AP<|AR (CS ?_);refine Bj<|AV [(2,.int .i64 (0)),(3,.int .i64 (0)),(4,.int .i64 (am)),(20,.bool (Af))] [] (φ:=True) ?_ (λhf=>?_)
   ·exact AM<|Dj (Bg rfl) rfl<|Dj (Aao underlying253 rfl) rfl<|Dj (Bg rfl) rfl<|EO rfl rfl rfl rfl<|EO rfl rfl rfl rfl<|EO rfl rfl rfl rfl<|Dj (Hb rfl rfl rfl) rfl<|AP<|AR (Kx trivial ⟨rfl,rfl,rfl,rfl,trivial⟩ .slnil)
   refine Bh rfl rfl<|Bj<|AM<|Dj (C6 rfl) rfl<|Dj (C6 rfl) rfl<|AP<|AR (CS ?_);refine C5<|Ba<|AB (Ha rfl rfl rfl) ?_;exact Rw (by simp[D4,ED,hav,f14])
end Go.Proofs.YtinflkgbhkcfnaaGreatDoor
namespace Go.Proofs
open Go.Shelf
end Go.Proofs
namespace Go.Proofs.YtinflkgbhkcfnaaGreatDoor.Q
open Go Go.RowKit
set_option linter.unusedVariables false
theorem RP (m:Int)(g:Dc .i64 m=Af):Fn0 prog GE 58 [rI .i64 m] (rS (Lib.itoa m)):=Fn0.of_old (vs:=[.int .i64 m]) λw Z hf he=>Y1 m (Qo g).1 (Qo g).2 w (he w hf)
theorem Aai (s:A1)(g:H7 1 (Ae s)=Af):Fn0 prog GE 94 [rS s] (DR [rI .i64 (D4 s),rI .i64 (ED s)]):=(Fn0.of_old (vs:=[.string (B s)]) λw Z hf he=>Aaj s (by simp[H7] at g;omega) w (he w hf)).rle EJ.tup2
theorem UE (s:A1)(c:UInt8):Fn0 prog GE 188 [rS s,rS [c]] (rI .i64 (Lib.countByte s c)):=Fn0.of_id (vs:=[.string (B s),.string (B [c])]) λw=>by have:=Tryz.strings_Count_one (B s) c w;rwa [T6] at this
theorem Yh (s:A1)(m:Int):Fn0 prog GE 210 [rS s,rI .u8 m] (rI .i64 (Lib.indexByte s (Ao m).toUInt8)):=Fn0.of_old (vs:=[.string (B s),.int .u8 m]) λw Z hf he=>RL s m w
theorem Oz (s:A1):Fn0 prog GE 28 [rS s] (rB (Hk s)):=Fn0.of_old (vs:=[.string (B s)]) λw Z hf he=>Aft s w
open Go Go.RowKit Go.ChangeShapes Go.Deep
set_option linter.unusedSimpArgs false
def ZW (W:World):Fz:=⟨λb=>W.heap[b]?,λ_ _=>Ai⟩
theorem ZW.frz (W:World):Sg (ZW W) W:=⟨λ_ _ h=>h,λ_ _ _ h=>by cases h⟩
def Wj (P:Program)(e:TypeId){α:Type}(enc:α→List Rp)(ok:α→Bool):Prop:=
 ∀{H:Type} {encH:TypeId×Value→H} {W:World} {sp:Nat→Bool} {held:Bool} {n:Nat} {cs:List Value} {x:DataW H×List MemPlace},DataW.trod encH P W 0 sp held n e cs=Ad x→∃y:α,ok y=Af∧B8 (ZW W) (enc y) cs
variable{W:World}{α:Type}{enc:α→List Rp}
section
variable {P : Program} {e t : TypeId}
theorem Wj.int {k:IntKind}{enc:Int→List Rp}(ht:P.underlying e=Ad (.int k))(he:∀n,enc n=[rI k n]):Wj P e enc (Dc k):=λh=>by
 obtain⟨n,rfl,_,hwf⟩:=DataW.trod_int ht h;exact⟨n,hwf,by rw[he];exact⟨rfl,trivial⟩⟩
theorem Pw {a:Addr}{v:Value}(h:W.cell? a=Ad v):a.spot=Ai∧GM (ZW W) a.block a.off=Ad v:=by
 unfold World.cell? at h;unfold GM ZW;dsimp only
 cases hh:W.heap[a.block]? with
 | none=>rw[hh] at h;cases h
 | some o=>
  rw[hh] at h
  cases o with
  | cells cs t fz=>
   cases hs:a.spot with
   | none=>simp[hs] at h;exact⟨rfl,h⟩
   | some _=>simp[hs] at h
  | _=>simp at h
theorem Wj.slice [Inhabited α]{ok:α→Bool}{sz:Nat}(ht:P.underlying t=Ad (.slice e))(hc:P.cellsOf e=sz)(hsz:0<sz)(h:Wj P e enc ok)(hlen:∀y,Ae (enc y)=sz){enc':List α→List Rp}(he:∀ys,enc' ys=[BB sz (ys.map enc)]) :
  Wj P t enc' (λys=>ys.all ok&&Ac (Ae ys≤9223372036854775807)):=fun {H encH W sp held n cs x} hx=>by
 rcases open_slice ht hx with⟨rfl,_⟩ | ⟨a,len,cap,m,n',D,Pl,rfl,hb,hl,hm,hmm,_,hel⟩
 ·exact⟨[],Aj,by rw[he];exact⟨T5.nil sz _,trivial⟩⟩
 ·have hlm:len≤m:=by rw[hmm];split<;>omega
  have each:∀i,i<len→∃y:α,ok y=Af∧∃cs',W.cells? 0 (a.add (i*sz)) sz=Ad cs'∧B8 (ZW W) (enc y) cs':=λi hi=>by
   obtain⟨cs',h1,h2⟩:=hel i Ab;obtain⟨y,hy,hr⟩:=h h2;rw[hc] at h1;exact⟨y,hy,cs',h1,hr⟩
  obtain⟨f,hf⟩:=choose_lt each;refine⟨(As len).map f,?_,?_⟩
  ·simp only[AgO,AgY,List.mem_map,List.mem_range,AgQ];refine⟨?_,by simp;simp only[maxLen] at hm;omega⟩;rintro _ ⟨i,hi,rfl⟩;exact(hf i hi).1
  ·rw[he];refine⟨⟨Ad a,cap,Aj,by simpa using hl,hm,(λh=>by cases h),λi c hi=>?_⟩,trivial⟩;rw[Ahv,AgT] at hi;have hil:i<len:=by
    cases hq:(As len)[i]? with
    | none=>rw[hq] at hi;cases hi
    | some _=>have:=(List.getElem?_eq_some_iff.1 hq).1;simpa using this
   rw[List.getElem?_range hil] at hi;simp only[Option.map_some,Option.some.injEq,Function.comp] at hi;subst hi;obtain⟨_,cs',h1,hr⟩:=hf i hil;obtain⟨_,hcl,hcell⟩:=World.cells?_some h1;have hsp:a.spot=Ai:=by
    obtain⟨_,cs0,g1,_⟩:=hf 0 Ab;obtain⟨_,gcl,gcell⟩:=World.cells?_some g1;have h0:=gcell 0 hsz;rw[AgJ Ab] at h0;have:=(Pw h0).1;simpa[Addr.add] using this
   refine⟨hlen _,a,rfl,hsp,λj r hj=>?_⟩;obtain⟨u,hu,hp⟩:=hr.at hj;have hjs:j<sz:=by have:=(List.getElem?_eq_some_iff.1 hj).1;rw[hlen] at this;exact this
   have h3:=hcell j hjs;rw[hu] at h3;have h4:=(Pw h3).2;refine⟨u,?_,hp⟩;have e1:((a.add (i*sz)).add j).block=a.block:=by simp only[Addr.add];split<;>split<;>rfl
   have e2:((a.add (i*sz)).add j).off=a.off+(i*sz+j):=by simp only[Addr.add];split<;>split<;>simp_all<;>omega
   rw[e1,e2] at h4;exact h4
theorem Wj.val {ok:α→Bool}(h:Wj P e enc ok){r:α→Rp}(he:∀y,enc y=[r y]){H:Type}{encH:TypeId×Value→H}{sp:Nat→Bool}{held:Bool}{v:Value}{d:DataW H}{ps:List MemPlace}
  (hone:v.cells = #[v]) (ht:DataW.Trod encH P W 0 sp held e v d ps):∃y:α,ok y=Af∧(r y).p (ZW W) v:=by
 obtain⟨fuel,hf⟩:=ht;rw[hone] at hf;obtain⟨y,hy,hr⟩:=h hf;rw[he] at hr;exact⟨y,hy,hr.1⟩
end
theorem Yz {w:World}(hw:Sg (ZW W) w):W.heap.size≤w.heap.size:=by
 rcases Nat.eq_zero_or_pos W.heap.size with h | h
 ·omega
 ·have h1:W.heap[W.heap.size-1]? =Ad (W.heap[W.heap.size-1]'(Ab)):=Array.getElem?_eq_getElem Ab;have:=(Array.getElem?_eq_some_iff.1 (hw _ _ h1)).1;omega
theorem VQ (hE:UN W):GE (ZW W):=λw hw=>by
 have hb:Below W.heap.size W { w with os:=W.os,tape:=W.tape,output:=W.output }:=⟨rfl,rfl,rfl,(show W.heap.size≤w.heap.size from Yz hw),λk hk=>by
  have h1:W.heap[k]? =Ad (W.heap[k]'hk):=Array.getElem?_eq_getElem hk;rw[h1];exact hw k _ h1⟩
 have hE2:=hE.st0 (St.of_below hb);exact⟨QE.block { w with os:=W.os,tape:=W.tape,output:=W.output } w (λ_ _=>rfl) hE2.tabs,hE2.size⟩
theorem Xp (hE:UN W):St ⟨W,ZW W,[],GE,[]⟩ [] (ZW W) W where
 os:=rfl
 tape:=rfl
 output:=rfl
 size:=AgU _
 old:=λ_ _ _=>rfl
 has:=λ_ h=>by cases h
 own:=λ_ h=>by cases h
 dis:=.nil
 frz:=ZW.frz W
 le:=Fz.le.refl _
 new:=λ_ _ h=>.inl h
 zdis:=λ_ h=>by cases h
 env:=VQ hE
 emono:=λh hg=>GE.mono h hg
 gst:=LC.none rfl
theorem Xq {W':World}{Z Z':Fz}{E:Fz→Prop}{H:List Ent}(h:St ⟨W,Z,[],E,[]⟩ H Z' W'):Below W.heap.size W W':=⟨h.os,h.tape,h.output,h.size,λk hk=>h.old k hk Aj⟩
set_option linter.unusedSectionVars false
variable{ats:Array TypeId}{Φ:Rp→List Ent→Prop}{f:FuncId}{first caps:List Value}
section
section
variable [I : Dfr]
variable {P : Program} {n : Nat} {c : Cx} {ops : Array Oper} {Q : Exit → Act → World → Prop} {rest : List Oper} {l : Fr} {H : List Ent} {d : Nat} {ty : TypeId} {pos : String} {af : Array Edge} {r : Rp} {x : Operand}
theorem Vq {args:List Operand}{o:Oper}{a:Act}(ho:o.op = .call { callee:=.value x,args:=args.toArray,argTypes:=ats })(hx:a.eval x = .func (.func f) first.toArray caps.toArray)
  (hcall:∀(as1:Array Value) (w:World),(callFunc f as1).run P w = .ok (.enter f as1) w) (w:World):(execOp a.eval o).run P w = .ok (.enter f (first++args.map a.eval++caps).toArray) w:=by
 simp[execOp,ho,resolve,hx,Deferred.ofValue,invoke,hcall]
theorem GP {args:List Operand}{rs:List Rp}{Hin Hr:List Ent}(hcall:∀(as1:Array Value) (w:World),(callFunc f as1).run P w = .ok (.enter f as1) w)(hx:ev l x=Ad (rv (.func (.func f) first.toArray caps.toArray)))(hv:JV l args=Ad rs)
  (hp:H.Perm (Hin++Hr)) (hc:Fn P c.E f (first.map rv++rs++caps.map rv) Hin Φ) (hn:Nat.blt d n=Af) (h:∀r Ho,Φ r Ho→WL P n c ops Q rest ((d,r)::l) (Ho++Hr)) :
  WL P n c ops Q ({ dst:=Ad d,op:=.call { callee:=.value x,args:=args.toArray,argTypes:=ats },type:=ty,pos:=pos,after:=af,guard:=Ai }::rest) l H:=
 JA (args:=λa=>(first++args.map a.eval++caps).toArray) (λa w Z ha hw=>⟨Vq rfl (ha.eval hx) hcall w,by
  have hw2:=hw.perm hp;refine(hc w Z _ (by have:=((B8.rvs Z first).append (E8 ha hv)).append (B8.rvs Z caps);simpa using this) hw2.enter).mono ?_;rintro e w' ⟨r,v,Ho,Z',he,hΦ,hr,hs⟩;exact⟨v,r,Ho++Hr,Z',he,hs.le,hr,hw2.call hs,h r Ho hΦ⟩⟩) hn
theorem GG {d':Option Nat}{g:Option (Nat×Bool)}{p1 p2:Array Operand}(h1:JV l p1.toList=Ad (first.map rv))(h2:JV l p2.toList=Ad (caps.map rv)) :
  Ce P n c l H { dst:=d',op:=.makeFunc (.func f) p1 p2,type:=ty,pos:=pos,after:=af,guard:=g } (rv (.func (.func f) first.toArray caps.toArray)):=λa w Z ha hw=>by
 have e1:=B8.eq_rv (E8 ha h1);have e2:=B8.eq_rv (E8 ha h2);refine⟨_,rfl,?_⟩;have f1:p1.map a.eval=first.toArray:=by apply Array.ext';simpa using e1
 have f2:p2.map a.eval=caps.toArray:=by apply Array.ext';simpa using e2
 simp[execOp,Instr.makeFunc,f1,f2]
theorem ZG (hx:ev l x=Ad (rv (.func (.func f) #[] caps.toArray)))(h:∀J:Dfr,J.D = { target:=.fn (.func f) caps.toArray,args:=#[] }::I.D→@WL J P n c ops Q rest l H) :
  WL P n c ops Q ({ dst:=Ai,op:=.defer { callee:=.value x,args:=#[],argTypes:=ats },type:=ty,pos:=pos,after:=af,guard:=Ai }::rest) l H:=λa w Z ha hw=>
 wpList_plain rfl λK hK=>by
  unfold Oper.wp;have e:(execOp a.eval { dst:=Ai,op:=.defer { callee:=.value x,args:=#[],argTypes:=ats },type:=ty,pos:=pos,after:=af,guard:=Ai }).run P w = .ok (.defer { target:=.fn (.func f) caps.toArray,args:=#[] }) w:=by
   simp[execOp,resolve,Deferred.ofValue,ha.eval hx]
  rw[e];exact hK _ _ (h ⟨{ target:=.fn (.func f) caps.toArray,args:=#[] }::I.D⟩ rfl _ w Z (DS.mk (I:=⟨{ target:=.fn (.func f) caps.toArray,args:=#[] }::I.D⟩) (by simpa[Act.put] using ha.size) (by simp[Act.put,ha.defers]) (by simpa[Act.put] using ha.tm)) hw)
end
section
variable {P : Program} {n : Nat}
theorem AcY {E:Fz→Prop}{fn:Func}{x:Code}{args:List Rp}{Hin:List Ent}(hf:P.funcs[f]? =Ad fn)(hb:fn.body=Ad x)(hn:fn.ntmps=n)(hle:Nat.ble (Ae args) n=Af)
  (h:∀w Z,WC P n ⟨w,Z,Hin.flatMap Ent.foot,E,Hin.flatMap Ent.gk⟩ x (bodyPostD P fn (UL ⟨w,Z,Hin.flatMap Ent.foot,E,Hin.flatMap Ent.gk⟩ Φ)) (Kq args) Hin):Fn P E f args Hin Φ:=λw Z vs hv hs=>by
 have hle':Ae args≤n:=by simpa using hle
 have hl:=hv.length;refine calls_of_wp_defers hf hb (h w Z _ w Z ⟨?_,rfl,λi r hi=>?_⟩ hs)
 ·simp[hn];omega
 ·obtain⟨_,v,h1,h2⟩:=Gx args vs 0 hv i r hi;simp only[Nat.sub_zero] at h1;have hlt:i<Ae vs:=(List.getElem?_eq_some_iff.1 h1).1;refine⟨v,?_,h2⟩;rw[Array.getElem?_append_left (by simpa using hlt)];simpa using h1
variable {c : Cx} {l : Fr} {H : List Ent}
def AbE (P:Program)(f:FuncId)(caps:List Value):Prop:=∀w,CallsD P f caps.toArray .returning w λe u' w'=>(∃v,e = .returned v)∧u' = .returning∧Proofs.YtinflkgbhkcfnaaGreatDoor.St w [] [] w'
theorem ZA {J:Dfr}{fn:Func}{r:Rp}(hJ:J.D=[{ target:=.fn (.func f) caps.toArray,args:=#[] }])(hcall:∀(as1:Array Value) (w:World),(callFunc f as1).run P w = .ok (.enter f as1) w)(hq:AbE P f caps)
  (hr:Sf P n c l H fn r) {H2:List Ent} (hp:H2.Sublist H) (h:Φ r H2):WK n c (bodyPostD P fn (UL c Φ) .ret) l H:=
 λa w Z ha hw=>by
  show Leaves P fn a.tmps (UL c Φ) a.defers .returning w;rw[ha.defers,hJ];refine⟨(by intro e;cases e),_,_,f,caps.toArray,rfl,by simp[invoke,hcall],?_⟩;intro c0 cs hc;obtain⟨e,u',w',fr,⟨⟨v',h3⟩,h4,h5⟩,h2⟩:=hq w c0 cs hc;have hw0:St c ([]++H) Z w:=hw;have hs:St ⟨w,Z,[],c.E,[]⟩ [] Z w':=⟨h5.os,h5.tape,h5.output,h5.size,h5.old,Aj,Aj,Aj,⟨λb o hb=>by rw[h5.old b (hw.frz.lt hb) Aj];exact hw.frz b o hb,λk i b hb=>Nat.lt_of_lt_of_le (hw.frz.nm k i b hb) h5.size⟩,Fz.le.refl _,λ_ _ e=>.inl e,Aj,hw.env,hw.emono,LC.none rfl⟩
  have hw':St c H Z w':=hw0.call hs;obtain⟨v,hv,he⟩:=hr a w' Z ha hw';subst h3 h4;refine⟨.returned v',.returning,w',fr,?_,h2⟩;show Leaves P fn a.tmps (UL c Φ) [] .returning w';exact⟨v,he,r,v,H2,Z,rfl,h,hv,hw'.sub hp⟩
end
end
end Go.Proofs.YtinflkgbhkcfnaaGreatDoor.Q
namespace Go.Proofs.YtinflkgbhkcfnaaGreatDoor
open Go
set_option linter.unusedVariables false
structure Bs where
 ay:Int
 aK:A1
 aW:Int
 aC:Int
 deriving DecidableEq,Inhabited
def Mv (s p:A1):Option Bool:=
 Bp (imp (Ac ((Ae p:Int)≤(Ae s:Int))) (NQ (Ae p:Int) (Ae s:Int)))<|some ((Ac ((Ae p:Int)≤(Ae s:Int)))&&(Ac ((Aq (Ao (Ae p:Int)) s)=p)))
def Ph (s p:A1):Option Bool:=
 BN (Mv s p) λr1=>Ad r1
def K9 (s:A1)(c:Int):Option Int:=
 Ad (Lib.indexByte s (Ao c).toUInt8)
def K8 (s:A1)(c:Int):Option Int:=
 Bp (Ac (0≤c))<|Bp (Ac (c<128))<|BN (K9 s (IntKind.wrap .u8 c)) λr5=>Ad r5
def OR (s:A1)(c:Int):Option Bool:=
 BN (K8 s c) λr1=>Ad (Ac (0≤r1))
def Sh (c:Int):Option Int:=
 BX (((Ac (c=32))||((Ac (c=9))||(Ac (c=10))))) (Ad 1) (BX ((bif Ac (97≤c) then((Ac (c≤122))||(Ac (c=95))) else Ac (c=95))) (Ad 2) (BX (((Ac (48≤c))&&(Ac (c≤57)))) (Ad 3) (BX (Ac (c=34)) (Ad 4) (BX (Ac (c=64)) (Ad 5) (BN (OR ([40,41,123,125,91,93,44,59,58,61,33,60,62,43,45,42,47,37]:A1) c) λha=>BX ha (Ad 6) (Ad 0))))))
def HU (s:A1):Option Bool:=
 BX (Ac (s=([102,117,110,99]:A1))) (Ad Af) (BX (Ac (s=([108,101,116]:A1))) (Ad Af) (BX (Ac (s=([105,102]:A1))) (Ad Af) (BX (Ac (s=([101,108,115,101]:A1))) (Ad Af) (BX (Ac (s=([119,104,105,108,101]:A1))) (Ad Af) (BX (Ac (s=([114,101,116,117,114,110]:A1))) (Ad Af) (BX (Ac (s=([97,110,100]:A1))) (Ad Af) (BX (Ac (s=([111,114]:A1))) (Ad Af) (BX (Ac (s=([110,111,116]:A1))) (Ad Af) (BX (Ac (s=([110,117,108,108]:A1))) (Ad Af) (BX (Ac (s=([116,114,117,101]:A1))) (Ad Af) (BX (Ac (s=([102,97,108,115,101]:A1))) (Ad Af) (Ad Ah))))))))))))
def TO (s:A1):Option Bool:=
 BX (Ac (s=([61,61]:A1))) (Ad Af) (BX (Ac (s=([33,61]:A1))) (Ad Af) (BX (Ac (s=([60,61]:A1))) (Ad Af) (BX (Ac (s=([62,61]:A1))) (Ad Af) (Bp (imp (Ac ((Ae s:Int)=1)) (imp (!Ac (s=([33]:A1))) (CR 0 (Ae s:Int))))<|Bp (imp (Ac ((Ae s:Int)=1)) (imp (!Ac (s=([33]:A1))) (Sh (IntKind.wrap .i32 (E4 s 0))).isSome))<|some ((Ac ((Ae s:Int)=1))&&((!Ac (s=([33]:A1)))&&(Ac ((ov (Sh (IntKind.wrap .i32 (E4 s 0))))=6))))))))
def PB (s:A1)(ha:Int):Option (Stp Int (Out Int Int)):=
 Bp (imp (Ac (ha<(Ae s:Int))) (CR ha (Ae s:Int)))<|Bp (imp (Ac (ha<(Ae s:Int))) (Sh (IntKind.wrap .i32 (E4 s ha))).isSome)<|BX (((Ac (ha<(Ae s:Int)))&&((Ac ((ov (Sh (IntKind.wrap .i32 (E4 s ha))))=2))||((Ac (0<ha))&&(Ac ((ov (Sh (IntKind.wrap .i32 (E4 s ha))))=3)))))) (Bp (Dc .i64 (ha+1))<|some (.next (ha+1))) (Ad (.out (.go ha)))
def ML (ha:Int):Option Int:=
 Ad ha
def Adw (F:Nat)(s:A1):Option Int:=
 BN (CQ (λσ=>PB s σ) F 0) (CT λν=>ML ν)
def Nw (s:A1)(ha:Int):Option (Stp Int (Out Int Int)):=
 BX (Ac (ha<(Ae s:Int))) (Bp (CR ha (Ae s:Int))<|BN (Sh (IntKind.wrap .i32 (E4 s ha))) λhc=>BX (Ac (hc=1)) (Bp (Dc .i64 (ha+1))<|some (.next (ha+1))) (Bp (NQ ha (Ae s:Int))<|BN (Ph (Ap (Ao ha) s) ([47,47]:A1)) λhd=>BX hd (BN (K8 (Ap (Ao ha) s) 10) λhb=>BX (Ac (hb<0)) (Ad (.out (.ret (Ae s:Int)))) (Bp (Dc .i64 (ha+hb))<|some (.next (ha+hb)))) (Ad (.out (.ret ha))))) (Ad (.out (.go ha)))
def Lh (ha:Int):Option Int:=
 Ad ha
def WS (F:Nat)(s:A1):Option Int:=
 BN (CQ (λσ=>Nw s σ) F 0) (CT λν=>Lh ν)
def LJ (s:A1)(ha:Int):Option (Stp Int (Out (Bs×Int×Int) Unit)):=
 BX (Ac (0<ha)) (Bp (NQ ha (Ae s:Int))<|BN (TO (Aq (Ao ha) s)) λhb=>BX hb (Ad (.out (.ret ((Bs.mk 5 (Aq (Ao ha) s) 0 0),ha,0)))) (Bp (Dc .i64 (ha-1))<|some (.next (ha-1)))) (Ad (.out (.go ())))
def J9 :Option (Bs×Int×Int):=
 Ad ((Bs.mk 0 ([]:A1) 0 0),0,1)
def S9 (F:Nat)(s:A1):Option (Bs×Int×Int):=
 Bp (CR 0 (Ae s:Int))<|BN (Sh (IntKind.wrap .i32 (E4 s 0))) λr5=>BX (Ac (r5=2)) (BN (Adw F s) λha=>BX (Ac (24<ha)) (Ad ((Bs.mk 0 ([]:A1) 0 0),0,3)) (Bp (NQ ha (Ae s:Int))<|BN (HU (Aq (Ao ha) s)) λhb=>BX hb (Ad ((Bs.mk 2 (Aq (Ao ha) s) 0 0),ha,0)) (Ad ((Bs.mk 1 (Aq (Ao ha) s) 0 0),ha,0)))) (Bp (!(Ac (r5=3)))<|Bp (!(Ac (r5=4)))<|Bp (!(Ac (r5=5)))<|BN (CQ (λσ=>LJ s σ) F (min 2 (Ae s:Int))) (CT λν=>J9 ))
def Kv (F:Nat)(s:A1)(hc:(List Bs))(hb:Int):Option (Stp ((List Bs)×Int) (Out ((List Bs)×Int×Int) ((List Bs)))):=
 BX (Ac (hb<(Ae s:Int))) (BX (Ac ((hc.length:Int)=1000)) (Ad (.out (.ret (([]:List Bs),hb,3)))) (Bp (NQ hb (Ae s:Int))<|BN (S9 F (Ap (Ao hb) s)) λha=>BX (!Ac (ha.2.2=0)) (Bp (Dc .i64 (hb+ha.2.1))<|some (.out (.ret (([]:List Bs),hb+ha.2.1,ha.2.2)))) (Bp (H7 40 (hc.length+Ae ([(Bs.mk ha.1.ay ha.1.aK ha.1.aW hb)]:List Bs)))<|Bp (Dc .i64 (hb+ha.2.1))<|Bp (NQ (hb+ha.2.1) (Ae s:Int))<|BN (WS F (Ap (Ao (hb+ha.2.1)) s)) λhd=>Bp (Dc .i64 ((hb+ha.2.1)+hd))<|some (.next (hc++([(Bs.mk ha.1.ay ha.1.aK ha.1.aW hb)]:List Bs),(hb+ha.2.1)+hd))))) (Ad (.out (.go hc)))
def It (ha:(List Bs)):Option ((List Bs)×Int×Int):=
 Ad (ha,0,0)
def PA (F:Nat)(s:A1):Option ((List Bs)×Int×Int):=
 BX (Ac (4000<(Ae s:Int))) (Ad (([]:List Bs),0,3)) (BN (WS F s) λr4=>BN (CQ (λσ=>Kv F s σ.1 σ.2) F (([]:List Bs),r4)) (CT λν=>It ν))
end Go.Proofs.YtinflkgbhkcfnaaGreatDoor
namespace Go.Proofs.YtinflkgbhkcfnaaGreatDoor.Q
open Go Go.RowKit
set_option linter.unusedVariables false
set_option linter.unusedSimpArgs false
set_option maxRecDepth 100000
set_option maxHeartbeats 4000000
@[reducible] def Co (x:Bs):List Rp:=[AO x.ay,rS x.aK,AO x.aW,AO x.aC]
theorem Jv (x:Bs):Ae (Co x)=4:=rfl
theorem NW (x:Bs):(Co x).all (·.one)=Af:=rfl
abbrev RN (t:Nat)(z:Value)(s b:Nat):Prop:=∃inf,prog.info? t=Ad inf∧inf.zero=Ad z∧inf.size=s∧inf.bytes=b
theorem AaK:RN 153 (.agg #[(.int .i64 0),(.string ⟨#[]⟩),(.int .i64 0),(.int .i64 0)]) 4 40:=GH Ak
theorem J0 (parts:List (Nat×Value)):prog.built 153 parts=Instr.fill (λi=>(#[(0,1),(1,1),(2,1),(3,1)]:Array (Nat×Nat))[i]?) #[(.int .i64 0),(.string ⟨#[]⟩),(.int .i64 0),(.int .i64 0)] parts:=Ak
theorem Oq (s p:A1)(r:Bool)(h:Mv s p=Ad r):FN 157 [rS s,rS p] [] (PO (rB r)):=en func157 ntmps157 Aa λw Z=>AX Aa<|By<|ck h λg1 h2=>AV [(4,rB ((BA ((Ae p:Int)≤(Ae s:Int)))&&(BA ((Aq (CF (Ae p:Int)) s)=p))))] [] (Ct Aa<|wv CU<|ms Aa<|wv CU<|wv DN<|ms Aa<|Bd (BA ((Ae p:Int)≤(Ae s:Int))) (λc3=>wo c3<|ms Aa<|wo c3<|ms Aa<|Bw c3 CU<|Bw c3 (EP Ij Aa Aa (DD g1 c3))<|wo c3<|ms Aa<|Bw c3 Cr<|En Aa c3 Aa<|B6 Aa<|Cv c3) λc3=>CX c3 Aa<|wv (AE c3)<|B6 Aa<|Cv c3)<|C5<|cs h2▸DG results157 ⟨Aa,Aa⟩
theorem RO (s p:A1)(r:Bool)(h:Ph s p=Ad r):FN 96 [rS s,rS p] [] (PO (rB r)):=en func96 ntmps96 Aa λw Z=>AX Aa<|BY Aa<|ob h λr1 e3 h2=>D0 call157 (Oq s p r1 e3)<|B1 Aa<|cs h2▸DG results96 ⟨Aa,Aa⟩
theorem PY (s:A1)(c r:Int)(h:K9 s c=Ad r):FN 158 [rS s,rI .u8 c] [] (PO (AO r)):=en func158 ntmps158 Aa λw Z=>by unfold K9 at h;exact AX Aa<|BY Aa<|DT call210 Aa (Yh s c) Aa Aa<|B1 Aa<|cs h▸DG results158 ⟨Aa,Aa⟩
theorem Lp (s:A1)(c r:Int)(h:K8 s c=Ad r):FN 97 [rS s,rI .i32 c] [] (PO (AO r)):=en func97 ntmps97 Aa λw Z=>AX Aa<|By<|A6<|AX Aa<|wv Gt<|ms Aa<|ck h λg1 h2=>wo g1<|ms Aa<|Bw g1 BO<|En Aa g1 Aa<|Bq Aa<|ck h2 λg3 h4=>Bh Aa g3<|AX Aa<|wv (Ew ⟨_,UQ⟩ Ze Aa)<|ob h4 λr5 e7 h6=>D0 call158 (PY s (Ik .u8 c) r5 e7)<|B1 Aa<|Dd<|cs h6▸DG results97 ⟨Aa,Aa⟩
theorem Ru (s:A1)(c:Int)(r:Bool)(h:OR s c=Ad r):FN 156 [rS s,rI .i32 c] [] (PO (rB r)):=en func156 ntmps156 Aa λw Z=>AX Aa<|BY Aa<|ob h λr1 e3 h2=>D0 call97 (Lp s c r1 e3)<|wv DN<|B1 Aa<|cs h2▸DG results156 ⟨Aa,Aa⟩
theorem Rc (c r:Int)(h:Sh c=Ad r):FN 95 [rI .i32 c] [] (PO (AO r)):=en func95 ntmps95 Aa λw Z=>by unfold Sh at h;exact AX Aa<|BW<|A6<|AV [(0,rI .i32 c),(3,rB ((BA (c=32))||((BA (c=9))||(BA (c=10)))))] [] (Ct Aa<|wv Be<|ms Aa<|Bd (BA (c=32)) (λc1=>CX c1 Aa<|wv (A7 c1)<|ms Aa<|E5 Aa<|wv (A7 Aa)<|B6 Aa<|Cv c1) λc1=>wo c1<|ms Aa<|Bw c1 Be<|DW Aa c1 Aa<|ms Aa<|Bd (BA (c=9)) (λc2=>CX c2 Aa<|wv (A7 c2)<|B6 Aa<|Cv (C9 c1 c2)) λc2=>wo c2<|ms Aa<|Bw c2 Be<|DW Aa c2 Aa<|B6 Aa<|Cv (C9 c1 c2))<|Cg h (λc3 h4=>BC Aa<|B2<|cs h4▸DG So ⟨Aa,Aa⟩) λc3 h5=>AV [(0,rI .i32 c),(14,rB (bif BA (97≤c) then((BA (c≤122))||(BA (c=95))) else BA (c=95)))] [] (Ct Aa<|wv DN<|ms Aa<|Bd (BA (97≤c)) (λc6=>wo c6<|ms Aa<|Bw c6 Gt<|En Aa c6 Aa<|ms Aa<|Bd (BA (c≤122)) (λc7=>CX c7 Aa<|wv (A7 c7)<|B6 Aa<|Cv (C9 c6 c7)) λc7=>wo c7<|ms Aa<|Bw c7 Be<|DW Aa c7 Aa<|B6 Aa<|Cv (C9 c6 c7)) λc6=>CX c6 Aa<|wv (AE c6)<|ms Aa<|EW Aa<|ms Aa<|EW Aa<|wv Be<|wv (AE Aa)<|B6 Aa<|Cv c6)<|Cg h5 (λc8 h9=>BC Aa<|B2<|cs h9▸DG So ⟨Aa,Aa⟩) λc8 hb=>AV [(0,rI .i32 c),(25,rB ((BA (48≤c))&&(BA (c≤57))))] [] (Ct Aa<|wv DN<|ms Aa<|Bd (BA (48≤c)) (λha=>wo ha<|ms Aa<|Bw ha Gt<|En Aa ha Aa<|B6 Aa<|Cv ha) λha=>CX ha Aa<|wv (AE ha)<|B6 Aa<|Cv ha)<|Cg hb (λhc hd=>BC Aa<|B2<|cs hd▸DG So ⟨Aa,Aa⟩) λhc he=>AX Aa<|wv Be<|Bq Aa<|Cg he (λhf hg=>BC Aa<|B2<|cs hg▸DG So ⟨Aa,Aa⟩) λhf hh=>AX Aa<|wv Be<|Bq Aa<|Cg hh (λhi hj=>BC Aa<|B2<|cs hj▸DG So ⟨Aa,Aa⟩) λhi hk=>AX Aa<|ob hk λhl hm hn=>D0 call156 (Ru ([40,41,123,125,91,93,44,59,58,61,33,60,62,43,45,42,47,37]:A1) c hl hm)<|Bq Aa<|Cg hn (λho hp=>BC Aa<|B2<|cs hp▸DG So ⟨Aa,Aa⟩) λho hq=>BG<|CY<|BC Aa<|cs hq▸DG So ⟨Aa,Aa⟩
theorem Nx (s:A1)(r:Bool)(h:HU s=Ad r):FN 99 [rS s] [] (PO (rB r)):=en func99 ntmps99 Aa λw Z=>AX Aa<|Cs Aa<|By<|A6<|Bj<|A8<|wv Cr<|Bq Aa<|Cg h (λc1 h2=>BZ<|Bh Aa c1<|BC Aa<|B2<|cs h2▸DG LF ⟨Aa,Aa⟩) λc1 h3=>A8<|wv Cr<|Bq Aa<|Cg h3 (λc4 h5=>BZ<|Bh Aa c4<|BC Aa<|B2<|cs h5▸DG LF ⟨Aa,Aa⟩) λc4 h6=>A8<|wv Cr<|Bq Aa<|Cg h6 (λc7 h8=>BZ<|Bh Aa c7<|BC Aa<|B2<|cs h8▸DG LF ⟨Aa,Aa⟩) λc7 h9=>A8<|wv Cr<|Bq Aa<|Cg h9 (λha hi=>BZ<|Bh Aa ha<|BC Aa<|B2<|cs hi▸DG LF ⟨Aa,Aa⟩) λha hj=>A8<|wv Cr<|Bq Aa<|Cg hj (λhb hk=>BZ<|Bh Aa hb<|BC Aa<|B2<|by exact cs hk▸DG LF ⟨Aa,Aa⟩) λhb hl=>A8<|wv Cr<|Bq Aa<|Cg hl (λhc hm=>BZ<|Bh Aa hc<|BC Aa<|B2<|by exact cs hm▸DG LF ⟨Aa,Aa⟩) λhc hn=>A8<|wv Cr<|Bq Aa<|Cg hn (λhd ho=>by exact BZ<|Bh Aa hd<|BC Aa<|B2<|cs ho▸DG LF ⟨Aa,Aa⟩) λhd hp=>by exact A8<|wv Cr<|Bq Aa<|Cg hp (λhe hq=>BZ<|Bh Aa he<|BC Aa<|B2<|cs hq▸DG LF ⟨Aa,Aa⟩) λhe hr=>A8<|wv Cr<|Bq Aa<|Cg hr (λhf hs=>BZ<|Bh Aa hf<|BC Aa<|B2<|cs hs▸DG LF ⟨Aa,Aa⟩) λhf ht=>A8<|wv Cr<|Bq Aa<|Cg ht (λhg hu=>BZ<|Bh Aa hg<|BC Aa<|B2<|cs hu▸DG LF ⟨Aa,Aa⟩) λhg hv=>A8<|wv Cr<|Bq Aa<|Cg hv (λhh hw=>BZ<|Bh Aa hh<|BC Aa<|B2<|cs hw▸DG LF ⟨Aa,Aa⟩) λhh hx=>AM<|wv Cr<|Bq Aa<|Cg hx (λhy hz=>BC Aa<|B2<|cs hz▸DG LF ⟨Aa,Aa⟩) λhy h0=>BG<|CY<|BC Aa<|cs h0▸DG LF ⟨Aa,Aa⟩
theorem Vb (s:A1)(r:Bool)(h:TO s=Ad r):FN 102 [rS s] [] (PO (rB r)):=en func102 ntmps102 Aa λw Z=>AX Aa<|Cs Aa<|By<|A6<|Bj<|A8<|wv Cr<|Bq Aa<|Cg h (λc1 h2=>BZ<|Bh Aa c1<|BC Aa<|B2<|cs h2▸DG QU ⟨Aa,Aa⟩) λc1 h3=>A8<|wv Cr<|Bq Aa<|Cg h3 (λc4 h5=>BZ<|Bh Aa c4<|BC Aa<|B2<|cs h5▸DG QU ⟨Aa,Aa⟩) λc4 h6=>A8<|wv Cr<|Bq Aa<|Cg h6 (λc7 h8=>BZ<|Bh Aa c7<|BC Aa<|B2<|cs h8▸DG QU ⟨Aa,Aa⟩) λc7 h9=>AM<|wv Cr<|Bq Aa<|Cg h9 (λhc hd=>BC Aa<|B2<|cs hd▸DG QU ⟨Aa,Aa⟩) λhc he=>BG<|CY<|ck he λhf hg=>ck hg λg15 hh=>AV [(2,rB ((BA ((Ae s:Int)=1))&&((!BA (s=([33]:A1)))&&(BA ((ov (Sh (Ik .i32 (E4 s 0))))=6)))))] [] (Ct Aa<|wv CU<|wv Be<|ms Aa<|Bd (BA ((Ae s:Int)=1)) (λhb=>wo hb<|ms Aa<|Bw hb (Kk Aa Aa)<|En Aa hb Aa<|ms Aa<|Bd (!BA (s=([33]:A1))) (λha=>by exact wo ha<|ms Aa<|Bw ha (Dz (DD (DD hf hb) ha))<|Bw ha (Ew ⟨_,Ze⟩ UQ Aa)<|wo ha<|D0 W4 (Rc (Ik .i32 (E4 s 0)) (ov (Sh (Ik .i32 (E4 s 0)))) (Hi (DD (DD g15 hb) ha)))<|Bw ha Be<|En Aa ha Aa<|B6 Aa<|Cv (C9 hb ha)) λha=>by exact CX ha Aa<|wv (AE ha)<|B6 Aa<|Cv (C9 hb ha)) λhb=>CX hb Aa<|wv (AE hb)<|ms Aa<|E5 Aa<|wv (AE Aa)<|B6 Aa<|by exact Cv hb)<|C5<|cs hh▸DG QU ⟨Aa,Aa⟩
theorem AbS (F:Nat)(s:A1)(r:Int)(h:Adw F s=Ad r):FN 98 [rS s] [] (PO (AO r)):=en func98 ntmps98 Aa λw Z=>AX Aa<|BY Aa<|BW<|A6<|ob h λhj hk hl=>B5 (V:=(Int)×(Unit)) 0 (λσ=>CQ (λσ=>PB s σ) σ.1 σ.2.1=Ad hj) (λσ=>[(0,rS s),(3,AO σ.2.1)]) (λσ=>[]) (λσ=>σ.1) (F,0,()) hk (AZ Aa) sN (λσ=>ML σ.1=Ad r) (λσ=>[(3,AO σ.1)]) (λσ=>[]) (by rintro⟨hz,hb,⟨⟩⟩ hm;refine EA ?_;obtain⟨hn,rfl,ho,hf,hg⟩:=CJ hm;have hf:PB s hb=Ad ho:=hf;exact Bj<|ck hf λhh hp=>ck hp λhi hq=>AV [(0,rS s),(3,AO hb),(27,rB ((BA (hb<(Ae s:Int)))&&((BA ((ov (Sh (Ik .i32 (E4 s hb))))=2))||((BA (0<hb))&&(BA ((ov (Sh (Ik .i32 (E4 s hb))))=3))))))] [] (Ct Aa<|wv CU<|wv BO<|ms Aa<|Bd (BA (hb<(Ae s:Int))) (λha=>wo ha<|ms Aa<|wo ha<|ms Aa<|Bw ha (Dz (DD hh ha))<|Bw ha (Ew ⟨_,Ze⟩ UQ Aa)<|wo ha<|D0 W4 (Rc (Ik .i32 (E4 s hb)) (ov (Sh (Ik .i32 (E4 s hb)))) (Hi (DD hi ha)))<|Bw ha Be<|wo ha<|ms Aa<|Bd (BA ((ov (Sh (Ik .i32 (E4 s hb))))=2)) (λhc=>CX hc Aa<|wu<|wu<|wu<|wu<|wu<|wu<|wf hc<|Bw ha (A7 hc)<|En Aa ha Aa<|AP<|Cv (C9 ha hc)) λhc=>wo hc<|ms Aa<|Bw hc CC<|wo hc<|ms Aa<|Bd (BA (0<hb)) (λhd=>wo hd<|ms Aa<|wo hd<|ms Aa<|Bw hd (Dz (DD hh ha))<|Bw hd (Ew ⟨_,Ze⟩ UQ Aa)<|wo hd<|D0 W4 (Rc (Ik .i32 (E4 s hb)) (ov (Sh (Ik .i32 (E4 s hb)))) (Hi (DD hi ha)))<|Bw hd Be<|wo hc<|En Aa hd Aa<|wo ha<|DW Aa hc Aa<|En Aa ha Aa<|AP<|by exact Cv (C9 ha (C9 hc hd))) λhd=>CX hd Aa<|Bw hc (AE hd)<|wo ha<|DW Aa hc Aa<|En Aa ha Aa<|AP<|by exact Cv (C9 ha (C9 hc hd))) λha=>CX ha Aa<|wu<|wu<|wu<|wu<|wu<|wu<|wu<|wu<|wu<|wu<|wf ha<|wv (AE ha)<|AP<|Cv ha)<|Cg hq (λhr hs=>BZ<|A6<|Ct Aa<|ck hs λht hu=>wv (BM ht)<|B6 Aa<|BK<|have hv:=BE hu hg;AR (AK (hn,hb+1,()) ⟨hv,AgK _⟩ (AZ Aa) sN)) λhr hw=>BH<|A3<|have hx:=Cu hw hg hl;A3 (Br (AK (hb,()) hx (AZ Aa) sN)))<|by rintro⟨hy,⟨⟩⟩ he;refine G4 ?_;exact have he:ML hy=Ad r:=he;by unfold ML at he;exact Bn<|CE<|BC Aa<|cs he▸DG results98 ⟨Aa,Aa⟩
theorem TP (F:Nat)(s:A1)(r:Int)(h:WS F s=Ad r):FN 62 [rS s] [] (PO (AO r)):=en func62 ntmps62 Aa λw Z=>AX Aa<|BY Aa<|BW<|A6<|ob h λhi hj hd=>B5 (V:=(Int)×(Unit)) 0 (λσ=>CQ (λσ=>Nw s σ) σ.1 σ.2.1=Ad hi) (λσ=>[(0,rS s),(3,AO σ.2.1)]) (λσ=>[]) (λσ=>σ.1) (F,0,()) hj (AZ Aa) sN (λσ=>Lh σ.1=Ad r) (λσ=>[(3,AO σ.1)]) (λσ=>[]) (by rintro⟨hJ,ha,⟨⟩⟩ hk;refine EA ?_;obtain⟨hf,rfl,hl,he,hb⟩:=CJ hk;have he:Nw s ha=Ad hl:=he;exact Bj<|AX Aa<|wv CU<|wv BO<|By<|Cg he (λhm hn=>BZ<|A6<|A6<|AX Aa<|ck hn λho hp=>wv (Dz ho)<|wv (Ew ⟨_,Ze⟩ UQ Aa)<|ob hp λhq hr hs=>D0 W4 (Rc (Ik .i32 (E4 s ha)) hq hr)<|wv Be<|Bq Aa<|Cg hs (λht hu=>Ct Aa<|ck hu λhv hw=>wv (BM hv)<|B6 Aa<|BK<|BK<|have hx:=BE hw hb;AR (AK (hf,ha+1,()) ⟨hx,AgK _⟩ (AZ Aa) sN)) λht hy=>AX Aa<|ck hy λhg hz=>wv (Gu Ij Aa Aa hg)<|ob hz λh0 h1 h2=>D0 call96 (RO (Ap (CF ha) s) ([47,47]:A1) h0 h1)<|Bq Aa<|Cg h2 (λh3 h4=>AX Aa<|wv (Gu Ij Aa Aa hg)<|ob h4 λhh h5 h6=>D0 call97 (Lp (Ap (CF ha) s) 10 hh h5)<|ms Aa<|Cs Aa<|wv BO<|By<|Cg h6 (λh7 h8=>AX Aa<|wv CU<|B1 Aa<|Ba<|Dd<|B2<|B3<|by exact have h9:=Ck h8 hb hd;B2<|cs h9▸DG results62 ⟨Aa,Aa⟩) λh7 hA=>BZ<|Ct Aa<|ck hA λhB hC=>wv (BM hB)<|B6 Aa<|BK<|BK<|by exact have hD:=BE hC hb;AR (AK (hf,ha+hh,()) ⟨hD,AgK _⟩ (AZ Aa) sN)) λh3 hE=>BC Aa<|Dd<|B2<|B3<|have hF:=Ck hE hb hd;B2<|cs hF▸DG results62 ⟨Aa,Aa⟩) λhm hG=>BH<|A3<|have hH:=Cu hG hb hd;A3 (Br (AK (ha,()) hH (AZ Aa) sN)))<|by rintro⟨hI,⟨⟩⟩ hc;refine G4 ?_;exact have hc:Lh hI=Ad r:=hc;by unfold Lh at hc;exact Bn<|CE<|BC Aa<|cs hc▸DG results62 ⟨Aa,Aa⟩
abbrev D6 (x0:A1):List Rp:=[AO 0,rS x0,AO 0,AO 0]
theorem WR (F:Nat)(s:A1)(r:Bs×Int×Int)(h:S9 F s=Ad r):FN 63 [rS s] [] (PO (DR [BT (Co r.1),AO r.2.1,AO r.2.2])):=en func63 ntmps63 Aa λw Z=>by unfold S9 at h;exact A8<|BD (cs:=(D6 ([]:A1))) E6 Aa Aa λb1=>ms Aa<|Dx<|wv (CO J0 Aa cN Aa )<|BD (cs:=(D6 ([]:A1))) E6 Aa Aa λb2=>by refine Em (i:=0) Dq Aa Aa Aa (B9.c Aa) Aa Aa ?_;exact Cs Aa<|ck h λg3 h4=>wv (Dz g3)<|wv (Ew ⟨_,Ze⟩ UQ Aa)<|ob h4 λr5 e7 h6=>D0 W4 (Rc (Ik .i32 (E4 s 0)) r5 e7)<|By<|A6<|A8<|wv Be<|Bq Aa<|Cg h6 (λc8 h9=>AX Aa<|ob h9 λhe hh hi=>D0 call98 (AbS F s he hh)<|ms Aa<|BW<|A6<|AX Aa<|wv CC<|Bq Aa<|Cg hi (λhj hk=>by refine A8<|wv (Bc 0)<|Em (i:=1) Dq Aa Aa Aa (B9.c Aa) Aa Aa ?_;exact B1 Aa<|B2<|B2<|cs hk▸AB (My W3 (Ev (i:=1) Ld Dq Aa Aa Aa) Bb Bb) (sK 0) ⟨Aa,Aa⟩) λhj hl=>AX Aa<|ck hl λg16 hm=>wv (EP Ij Aa Aa g16)<|ob hm λhn ho hp=>D0 call99 (Nx (Aq (CF he) s) hn ho)<|Bq Aa<|Cg hp (λc21 hq=>by refine AX Aa<|wv (EP Ij Aa Aa g16)<|wv (CO J0 Aa (DV Aa (DV Aa cN)) Aa)<|ms Aa<|Em (i:=1) Dq Aa Aa Aa (B9.c Aa) Aa Aa ?_;exact B1 Aa<|B2<|B2<|cs hq▸AB (My W3 (Ev (i:=1) Ld Dq Aa Aa Aa) Bb Bb) (sK 0) ⟨Aa,Aa⟩) λc21 hr=>by refine BG<|CY<|AX Aa<|wv (EP Ij Aa Aa g16)<|wv (CO J0 Aa (DV Aa (DV Aa cN)) Aa)<|ms Aa<|Em (i:=1) Dq Aa Aa Aa (B9.c Aa) Aa Aa ?_;exact B1 Aa<|B2<|cs hr▸AB (My W3 (Ev (i:=1) Ld Dq Aa Aa Aa) Bb Bb) (sK 0) ⟨Aa,Aa⟩) λc8 hs=>A8<|wv Be<|Bq Aa<|ck hs λht hu=>AD Aa (Cd ht)<|A8<|wv Be<|Bq Aa<|ck hu λhv hw=>AD Aa (Cd hv)<|A8<|wv Be<|Bq Aa<|ck hw λhx hy=>AD Aa (Cd hx)<|BG<|CY<|Bj<|AX Aa<|wv CU<|wv (Ab3 Zf Aa Aa)<|Bq Aa<|A6<|ob hy λhz h0 hf=>B5 (V:=(Unit)×(Unit)) 3 (λσ=>CQ (λσ=>LJ s σ) σ.1 σ.2.1=Ad hz) (λσ=>[(0,rS s),(2,rP b1 0),(5,rP b2 0),(14,AO σ.2.1)]) (λσ=>[.blk b2 (D6 ([]:A1)) 153,.blk b1 (D6 ([]:A1)) 153]) (λσ=>σ.1) (F,min 2 (Ae s:Int),()) h0 (AZ Aa) (sC (sC sN)) (λσ=>J9 =Ad r) (λσ=>[(2,rP b1 0),(5,rP b2 0)]) (λσ=>[.blk b2 (D6 ([]:A1)) 153,.blk b1 (D6 ([]:A1)) 153]) (by rintro⟨hL,hb,⟨⟩⟩ h1;refine EA ?_;obtain⟨h2,rfl,t75,hc,hd⟩:=CJ h1;have hc:LJ s hb=Ad t75:=hc;exact Bj<|AX Aa<|wv CC<|By<|Cg hc (λh3 h5=>Cm<|A6<|AX Aa<|ck h5 λhg h7=>wv (EP Ij Aa Aa hg)<|ob h7 λh8 hA hB=>D0 call102 (Vb (Aq (CF hb) s) h8 hA)<|By<|Cg hB (λhC hD=>by refine AX Aa<|wv (EP Ij Aa Aa hg)<|wv (CO J0 Aa (DV Aa (DV Aa cN)) Aa)<|ms Aa<|Em (i:=1) Dq Aa Aa Aa (B9.c Aa) Aa Aa ?_;exact B1 Aa<|B2<|Ba<|B3<|have hE:=Ck hD hd hf;B2<|cs hE▸AB (My W3 (Ev (i:=1) Ld Dq Aa Aa Aa) Bb Bb) (sK 0) ⟨Aa,Aa⟩) λhC hF=>BG<|CY<|Ct Aa<|ck hF λhG hH=>wv (E0 hG)<|B6 Aa<|have hI:=BE hH hd;AR (AK (h2,hb-1,()) ⟨hI,AgK _⟩ (AZ Aa) (sC (sC sN)))) λh3 hJ=>BH<|A3<|have hK:=Cu hJ hd hf;A3 (Br (AK ((),()) hK (AZ Aa) (sC (sC sN)))))<|by rintro⟨⟨⟩,⟨⟩⟩ ha;refine G4 ?_;exact have ha:J9 =Ad r:=ha;by unfold J9 at ha;refine Bn<|CE<|A8<|wv (Bc 0)<|Em (i:=1) Dq Aa Aa Aa (B9.c Aa) Aa Aa ?_;exact B1 Aa<|cs ha▸AB (My W3 (Ev (i:=1) Ld Dq Aa Aa Aa) Bb Bb) (sK 0) ⟨Aa,Aa⟩
theorem OL (F:Nat)(s:A1)(r:(List Bs)×Int×Int)(h:PA F s=Ad r):FN 36 [rS s] [] (PO (DR [BB 4 (AU Co r.1),AO r.2.1,AO r.2.2])):=en func36 ntmps36 Aa λw Z=>AX Aa<|Cs Aa<|wv CU<|wv CC<|By<|Cg h (λc1 h2=>CA Aa<|WK.up (d:=2) (r:=BB 4 (AU Co ([]:List Bs))) Aa (Up.le (EJ.nil _))<|cs h2▸AB (My Zv Bb Bb Bb) sN ⟨Aa,Aa⟩) λc1 h3=>BZ<|AX Aa<|Cs Aa<|ob h3 λr4 e6 h5=>D0 call62 (TP F s r4 e6)<|Bq Aa<|A6<|WC.nilrow (e:=153) (sz:=4)<|ob h5 λhi hj he=>B5 (V:=((List Bs))×(Value)) 0 (λσ=>CQ (λσ=>Kv F s σ.1 σ.2) σ.1 σ.2.1=Ad hi) (λσ=>[(0,rS s),(5,rv σ.2.2),(6,AO σ.2.1.2)]) (λσ=>[.row σ.2.2 153 4 (AU Co σ.2.1.1)]) (λσ=>σ.1) (F,(([]:List Bs),r4),(.slice Ai 0 0                                                                                                                                                         )) hj (AZ Aa) (sC sN) (λσ=>It σ.1=Ad r) (λσ=>[(5,rv σ.2)]) (λσ=>[.row σ.2 153 4 (AU Co σ.1)]) (by rintro⟨hM,⟨hf,hb⟩,hk⟩ hl;refine EA ?_;obtain⟨hm,rfl,hn,hg,hc⟩:=CJ hl;have hg:Kv F s hf hb=Ad hn:=hg;exact Bj<|AX Aa<|wv CU<|wv BO<|By<|Cg hg (λho hp=>Cm<|A6<|Bj<|AX Aa<|wv (CL (i:=0) Ms Aa Aa)<|wv Be<|By<|Cg hp (λhq hr=>CA Aa<|B2<|Ba<|B3<|have hs:=Ck hr hc he;B2<|WK.up (d:=2) (r:=BB 4 (AU Co ([]:List Bs))) Aa (Up.le (EJ.nil _))<|cs hs▸AB (My Zv Bb Bb Bb) (sS sN) ⟨Aa,Aa⟩) λhq ht=>BZ<|AX Aa<|ck ht λhu hv=>wv (Gu Ij Aa Aa hu)<|ob hv λha hw hx=>D0 call63 (WR F (Ap (CF hb) s) ha hw)<|ms Aa<|wv A5<|wv A5<|wv A5<|BD (cs:=(D6 ([]:A1))) E6 Aa Aa λhN=>by refine Em (i:=0) Dq Aa Aa Aa (B9.c Aa) Aa Aa ?_;exact ms Aa<|Cs Aa<|wv Cw<|By<|Cg hx (λhy hz=>AX Aa<|ck hz λh0 h1=>wv (BM h0)<|B1 Aa<|Ba<|B2<|Ba<|B3<|have h4:=Ck h1 hc he;B2<|WK.up (d:=2) (r:=BB 4 (AU Co ([]:List Bs))) Aa (Up.le (EJ.nil _))<|cs h4▸AB (My Zv Bb Bb Bb) (sK 0) ⟨Aa,Aa⟩) λhy h6=>by refine BZ<|AX Aa<|wv A4<|us (i:=0) D9 Aa Aa (BU Aa) Aa Aa ?_;exact BY Aa<|wv (Bc 0)<|DQ ([(Bs.mk ha.1.ay ha.1.aK ha.1.aW hb)]:List Bs) Co Ms Dq E6 Aa ⟨cA,trivial⟩ Jv λhO=>ck h6 λh7 h8=>LM 2 Ms AaK Aa Aa (LB.w (i:=0) Aa Aa) Jv NW h7 λh9=>Bq Aa<|Ct Aa<|ck h8 λhA hB=>wv (BM hA)<|B6 Aa<|CY<|Ct Aa<|ck hB λhC hD=>wv (Gu Ij Aa Aa hC)<|ob hD λhh hE hF=>D0 call62 (TP F (Ap (CF (hb+ha.2.1)) s) hh hE)<|ck hF λhG hH=>wv (BM hG)<|B6 Aa<|have hI:=BE hH hc;AR (AK (hm,(hf++([(Bs.mk ha.1.ay ha.1.aK ha.1.aW hb)]:List Bs),(hb+ha.2.1)+hh),h9) ⟨hI,AgK _⟩ (AZ Aa) (sC (sS (sS sN))))) λho hJ=>BH<|A3<|have hK:=Cu hJ hc he;A3 (Br (AK (hf,hk) hK (AZ Aa) (sC sN))))<|by rintro⟨hL,hP⟩ hd;refine G4 ?_;exact have hd:It hL=Ad r:=hd;by unfold It at hd;exact Bn<|CE<|BC Aa<|WK.freeze (i:=0) Aa<|WK.up (d:=2) Aa (Up.fact (i:=0) Aa)<|cs hd▸AB (My Zv Bb Bb Bb) (sS sN) ⟨Aa,Aa⟩
end Go.Proofs.YtinflkgbhkcfnaaGreatDoor.Q
namespace Go.Proofs.YtinflkgbhkcfnaaGreatDoor
open Go
set_option linter.unusedVariables false
structure AT where
 ay:Int
 aK:A1
 aW:Int
 bo:(List A1)
 aL:(List Int)
 deriving DecidableEq,Inhabited
structure Bf where
 aO:A1
 ax:(List A1)
 aM:Int
 deriving DecidableEq,Inhabited
structure AS where
 ak:(List AT)
 ac:(List Bf)
 deriving DecidableEq,Inhabited
structure A0 where
 fL:(List Bs)
 aC:Int
 aB:Int
 fP:AS
 deriving DecidableEq,Inhabited
def Jd (ys:(List A1))(x:A1)(ha:Int):Option (Stp Int (Out Int Unit)):=
 BX (Ac (ha<(Ae ys:Int))) (Bp (CR ha (Ae ys:Int))<|BX (Ac (x=(Ax ys ha))) (Ad (.out (.ret ha))) (Bp (Dc .i64 (ha+1))<|some (.next (ha+1)))) (Ad (.out (.go ())))
def Hy :Option Int:=
 Ad (-1)
def Rs (F:Nat)(ys:(List A1))(x:A1):Option Int:=
 BN (CQ (λσ=>Jd ys x σ) F 0) (CT λν=>Hy )
def Hz (F:Nat)(ys:(List A1))(x:A1):Option Bool:=
 BN (Rs F ys x) λr1=>Ad (Ac (0≤r1))
def Abr (F:Nat)(p:A0)(k:Int)(texts:(List A1)):Option Bool:=
 Bp (imp (Ac (p.aC<(Ae p.fL:Int))) (CR p.aC (Ae p.fL:Int)))<|Bp (imp (Ac (p.aC<(Ae p.fL:Int))) (imp (Ac ((Ax p.fL p.aC).ay=k)) (imp (!(Ac ((Ae texts:Int)=0))) (Hz F texts (Ax p.fL p.aC).aK).isSome)))<|some ((Ac (p.aC<(Ae p.fL:Int)))&&((Ac ((Ax p.fL p.aC).ay=k))&&((Ac ((Ae texts:Int)=0))||(ov (Hz F texts (Ax p.fL p.aC).aK)))))
def Gd (F:Nat)(p:A0)(k:Int)(texts:(List A1)):Option (Bs×Bool×A0):=
 BN (Abr F p k texts) λr2=>BX (!r2) (Ad ((Bs.mk 0 ([]:A1) 0 0),Ah,p)) (Bp (Dc .i64 (p.aC+1))<|Bp (Dc .i64 ((p.aC+1)-1))<|Bp (CR ((p.aC+1)-1) (Ae p.fL:Int))<|some ((Ax p.fL ((p.aC+1)-1)),Af,(A0.mk p.fL (p.aC+1) p.aB p.fP)))
def Lg (F:Nat)(p:A0)(k:Int)(texts:(List A1)):Option (Bs×A0):=
 BN (Gd F p k texts) λr2=>Bp (!(!r2.2.1))<|some (r2.1,r2.2.2)
def P9 (p:A0)(n:AT):Option (Int×A0):=
 Bp (H7 80 (Ae p.fP.ak+Ae ([n]:List AT)))<|Bp (Dc .i64 ((Ae (p.fP.ak++([n]:List AT)):Int)-1))<|some ((Ae (p.fP.ak++([n]:List AT)):Int)-1,(A0.mk p.fL p.aC p.aB (AS.mk (p.fP.ak++([n]:List AT)) p.fP.ac)))
def Abp (F:Nat)(p:A0):Option (Int×A0):=
 BN (Gd F p 3 ([]:List A1)) λr1=>Bp (!r1.2.1)<|BN (Gd F r1.2.2 4 ([]:List A1)) λr9=>Bp (!r9.2.1)<|BN (Gd F r9.2.2 2 ([([110,117,108,108]:A1),([116,114,117,101]:A1),([102,97,108,115,101]:A1)]:List A1)) λhb=>Bp (!hb.2.1)<|BN (Gd F hb.2.2 1 ([]:List A1)) λha=>Bp ha.2.1<|BN (Gd F ha.2.2 5 ([([40]:A1)]:List A1)) λhc=>Bp (!hc.2.1)<|BN (P9 hc.2.2 (AT.mk 5 ha.1.aK 0 ([]:List A1) ([]:List Int))) λhd=>Ad (hd.1,hd.2)
def Le (F:Nat)(r1:Int×A0):Option (Stp Unit (Out (Int×A0) Unit)):=
 BN (Gd F r1.2 5 ([([91]:A1)]:List A1)) λha=>Bp (!ha.2.1)<|some (.out (.ret (r1.1,ha.2.2)))
def QY :Option (Int×A0):=
 Ai
def WB (F:Nat)(p:A0):Option (Int×A0):=
 BN (Abp F p) λr1=>BN (CQ (λσ=>Le F r1 ) F ()) (CT λν=>QY )
def P1 (F:Nat)(p:A0):Option (Int×A0):=
 BN (Gd F p 5 ([([45]:A1)]:List A1)) λr2=>Bp (!r2.2.1)<|BN (WB F r2.2.2) λha=>Ad (ha.1,ha.2)
def Ip (F:Nat)(k:Int)(ops:(List A1))(hc:Int)(he:(List Bs))(hf hg:Int)(hh:(List AT))(hi:(List Bf)):Option (Stp (Int×(List Bs)×Int×Int×(List AT)×(List Bf)) (Out (Int×A0) Unit)):=
 BN (Gd F (A0.mk he hf hg (AS.mk hh hi)) k ops) λhb=>BX (!hb.2.1) (Ad (.out (.ret (hc,hb.2.2)))) (BN (P1 F hb.2.2) λhd=>BN (P9 hd.2 (AT.mk 9 hb.1.aK 0 ([]:List A1) ([hc,hd.1]:List Int))) λha=>Ad (.next (ha.1,ha.2.fL,ha.2.aC,ha.2.aB,ha.2.fP.ak,ha.2.fP.ac)))
def Nr :Option (Int×A0):=
 Ai
def P5 (F:Nat)(p:A0)(k:Int)(ops:(List A1)):Option (Int×A0):=
 BN (P1 F p) λr1=>BN (CQ (λσ=>Ip F k ops σ.1 σ.2.1 σ.2.2.1 σ.2.2.2.1 σ.2.2.2.2.1 σ.2.2.2.2.2) F (r1.1,r1.2.fL,r1.2.aC,r1.2.aB,r1.2.fP.ak,r1.2.fP.ac)) (CT λν=>Nr )
def TK (F:Nat)(p:A0):Option (Int×A0):=
 BN (P5 F p 5 ([([42]:A1),([47]:A1),([37]:A1)]:List A1)) λr2=>Ad (r2.1,r2.2)
def Iq (F:Nat)(k:Int)(ops:(List A1))(hc:Int)(he:(List Bs))(hf hg:Int)(hh:(List AT))(hi:(List Bf)):Option (Stp (Int×(List Bs)×Int×Int×(List AT)×(List Bf)) (Out (Int×A0) Unit)):=
 BN (Gd F (A0.mk he hf hg (AS.mk hh hi)) k ops) λhb=>BX (!hb.2.1) (Ad (.out (.ret (hc,hb.2.2)))) (BN (TK F hb.2.2) λhd=>BN (P9 hd.2 (AT.mk 9 hb.1.aK 0 ([]:List A1) ([hc,hd.1]:List Int))) λha=>Ad (.next (ha.1,ha.2.fL,ha.2.aC,ha.2.aB,ha.2.fP.ak,ha.2.fP.ac)))
def Ns :Option (Int×A0):=
 Ai
def P6 (F:Nat)(p:A0)(k:Int)(ops:(List A1)):Option (Int×A0):=
 BN (TK F p) λr1=>BN (CQ (λσ=>Iq F k ops σ.1 σ.2.1 σ.2.2.1 σ.2.2.2.1 σ.2.2.2.2.1 σ.2.2.2.2.2) F (r1.1,r1.2.fL,r1.2.aC,r1.2.aB,r1.2.fP.ak,r1.2.fP.ac)) (CT λν=>Ns )
def AbP (F:Nat)(p:A0):Option (Int×A0):=
 BN (P6 F p 5 ([([43]:A1),([45]:A1)]:List A1)) λr2=>Ad (r2.1,r2.2)
def Z3 (F:Nat)(p:A0):Option (Int×A0):=
 BN (Gd F p 2 ([([110,111,116]:A1)]:List A1)) λr2=>Bp (!r2.2.1)<|BN (AbP F r2.2.2) λha=>BN (Gd F ha.2 5 ([([61,61]:A1),([33,61]:A1),([60]:A1),([60,61]:A1),([62]:A1),([62,61]:A1)]:List A1)) λhb=>Bp (!hb.2.1)<|some (ha.1,hb.2.2)
def Is (F:Nat)(k:Int)(ops:(List A1))(hc:Int)(he:(List Bs))(hf hg:Int)(hh:(List AT))(hi:(List Bf)):Option (Stp (Int×(List Bs)×Int×Int×(List AT)×(List Bf)) (Out (Int×A0) Unit)):=
 BN (Gd F (A0.mk he hf hg (AS.mk hh hi)) k ops) λhb=>BX (!hb.2.1) (Ad (.out (.ret (hc,hb.2.2)))) (BN (Z3 F hb.2.2) λhd=>BN (P9 hd.2 (AT.mk 9 hb.1.aK 0 ([]:List A1) ([hc,hd.1]:List Int))) λha=>Ad (.next (ha.1,ha.2.fL,ha.2.aC,ha.2.aB,ha.2.fP.ak,ha.2.fP.ac)))
def Nu :Option (Int×A0):=
 Ai
def P8 (F:Nat)(p:A0)(k:Int)(ops:(List A1)):Option (Int×A0):=
 BN (Z3 F p) λr1=>BN (CQ (λσ=>Is F k ops σ.1 σ.2.1 σ.2.2.1 σ.2.2.2.1 σ.2.2.2.2.1 σ.2.2.2.2.2) F (r1.1,r1.2.fL,r1.2.aC,r1.2.aB,r1.2.fP.ak,r1.2.fP.ac)) (CT λν=>Nu )
def Z8 (F:Nat)(p:A0):Option (Int×A0):=
 BN (P8 F p 2 ([([97,110,100]:A1)]:List A1)) λr2=>Ad (r2.1,r2.2)
def Ir (F:Nat)(k:Int)(ops:(List A1))(hc:Int)(he:(List Bs))(hf hg:Int)(hh:(List AT))(hi:(List Bf)):Option (Stp (Int×(List Bs)×Int×Int×(List AT)×(List Bf)) (Out (Int×A0) Unit)):=
 BN (Gd F (A0.mk he hf hg (AS.mk hh hi)) k ops) λhb=>BX (!hb.2.1) (Ad (.out (.ret (hc,hb.2.2)))) (BN (Z8 F hb.2.2) λhd=>BN (P9 hd.2 (AT.mk 9 hb.1.aK 0 ([]:List A1) ([hc,hd.1]:List Int))) λha=>Ad (.next (ha.1,ha.2.fL,ha.2.aC,ha.2.aB,ha.2.fP.ak,ha.2.fP.ac)))
def Nt :Option (Int×A0):=
 Ai
def P7 (F:Nat)(p:A0)(k:Int)(ops:(List A1)):Option (Int×A0):=
 BN (Z8 F p) λr1=>BN (CQ (λσ=>Ir F k ops σ.1 σ.2.1 σ.2.2.1 σ.2.2.2.1 σ.2.2.2.2.1 σ.2.2.2.2.2) F (r1.1,r1.2.fL,r1.2.aC,r1.2.aB,r1.2.fP.ak,r1.2.fP.ac)) (CT λν=>Nt )
def WJ (F:Nat)(p:A0):Option (Int×A0):=
 BN (P7 F p 2 ([([111,114]:A1)]:List A1)) λr2=>Ad (r2.1,r2.2)
def W9 (F:Nat)(p:A0):Option ((List Int)×A0):=
 BN (WJ F p) λr1=>BN (Lg F r1.2 5 ([([59]:A1)]:List A1)) λr7=>Ad (([r1.1]:List Int),r7.2)
def WA (F:Nat)(p:A0):Option (Int×A0):=
 BN (Gd F p 2 ([([108,101,116]:A1),([105,102]:A1),([119,104,105,108,101]:A1),([114,101,116,117,114,110]:A1)]:List A1)) λr2=>Bp r2.2.1<|Bp (!(Ac (r2.1.aK=([108,101,116]:A1))))<|Bp (!(Ac (r2.1.aK=([105,102]:A1))))<|Bp (!(Ac (r2.1.aK=([119,104,105,108,101]:A1))))<|BN (W9 F r2.2.2) λha=>BN (P9 ha.2 (AT.mk 17 ([]:A1) 0 ([]:List A1) ha.1)) λhb=>Ad (hb.1,hb.2)
def J8 (F:Nat)(hb:(List Int))(he:(List Bs))(hf hg:Int)(hh:(List AT))(hi:(List Bf)):Option (Stp ((List Int)×(List Bs)×Int×Int×(List AT)×(List Bf)) (Out (Int×A0) Unit)):=
 BN (Gd F (A0.mk he hf hg (AS.mk hh hi)) 5 ([([125]:A1)]:List A1)) λhc=>BX hc.2.1 (BN (P9 hc.2.2 (AT.mk 19 ([]:A1) 0 ([]:List A1) hb)) λhd=>Ad (.out (.ret (hd.1,hd.2)))) (BN (WA F hc.2.2) λha=>Bp (H7 8 (hb.length+Ae ([ha.1]:List Int)))<|some (.next (hb++([ha.1]:List Int),ha.2.fL,ha.2.aC,ha.2.aB,ha.2.fP.ak,ha.2.fP.ac)))
def OK :Option (Int×A0):=
 Ai
def S7 (F:Nat)(p:A0):Option (Int×A0):=
 BN (Lg F p 5 ([([123]:A1)]:List A1)) λr2=>BN (CQ (λσ=>J8 F σ.1 σ.2.1 σ.2.2.1 σ.2.2.2.1 σ.2.2.2.2.1 σ.2.2.2.2.2) F (([]:List Int),r2.2.fL,r2.2.aC,r2.2.aB,r2.2.fP.ak,r2.2.fP.ac)) (CT λν=>OK )
def Sz (F:Nat)(f:Bf)(p:A0):Option (Bf×A0):=
 BN (Lg F p 1 ([]:List A1)) λr1=>Bp (H7 16 (Ae f.ax+Ae ([r1.1.aK]:List A1)))<|some ((Bf.mk f.aO (f.ax++([r1.1.aK]:List A1)) f.aM),r1.2)
def J6 (F:Nat)(fin:A1)(hc:(List Bs))(hd he:Int)(hf:(List AT))(hg:(List Bf))(hh:A1)(hi:(List A1))(hj:Int):Option (Stp ((List Bs)×Int×Int×(List AT)×(List Bf)×A1×(List A1)×Int) (Out (A0×Bf) Unit)):=
 BN (Sz F (Bf.mk hh hi hj) (A0.mk hc hd he (AS.mk hf hg))) λhb=>BN (Lg F hb.2 5 ([([44]:A1),fin]:List A1)) λha=>BX (Ac (ha.1.aK=fin)) (Ad (.out (.ret (ha.2,hb.1)))) (Ad (.next (ha.2.fL,ha.2.aC,ha.2.aB,ha.2.fP.ak,ha.2.fP.ac,hb.1.aO,hb.1.ax,hb.1.aM)))
def OI :Option (A0×Bf):=
 Ai
def S4 (F:Nat)(p:A0)(fin:A1)(f:Bf):Option (A0×Bf):=
 BN (Gd F p 5 ([fin]:List A1)) λr2=>BX r2.2.1 (Ad (r2.2.2,f)) (BN (CQ (λσ=>J6 F fin σ.1 σ.2.1 σ.2.2.1 σ.2.2.2.1 σ.2.2.2.2.1 σ.2.2.2.2.2.1 σ.2.2.2.2.2.2.1 σ.2.2.2.2.2.2.2) F (r2.2.2.fL,r2.2.2.aC,r2.2.2.aB,r2.2.2.fP.ak,r2.2.2.fP.ac,f.aO,f.ax,f.aM)) (CT λν=>OI ))
def Hn (F:Nat)(hc:(List Bs))(hd he:Int)(hf:(List AT))(hg:(List Bf)):Option (Stp ((List Bs)×Int×Int×(List AT)×(List Bf)) (Out A0 ((List Bs)×Int×Int×(List AT)×(List Bf)))):=
 BX (Ac (hd<(hc.length:Int))) (BN (Lg F (A0.mk hc hd he (AS.mk hf hg)) 2 ([([102,117,110,99]:A1)]:List A1)) λhi=>BN (Lg F hi.2 1 ([]:List A1)) λhh=>BN (Lg F hh.2 5 ([([40]:A1)]:List A1)) λhj=>BN (S4 F hj.2 ([41]:A1) (Bf.mk hh.1.aK ([]:List A1) 0)) λhb=>BN (S7 F hb.1) λha=>Bp (H7 48 (ha.2.fP.ac.length+Ae ([(Bf.mk hb.2.aO hb.2.ax ha.1)]:List Bf)))<|some (.next (ha.2.fL,ha.2.aC,ha.2.aB,ha.2.fP.ak,ha.2.fP.ac++([(Bf.mk hb.2.aO hb.2.ax ha.1)]:List Bf)))) (Ad (.out (.go (hc,hd,he,hf,hg))))
def Hm (ha:(List Bs))(hb hc:Int)(hd:(List AT))(he:(List Bf)):Option A0:=
 Ad (A0.mk ha hb hc (AS.mk hd he))
def Nn (F:Nat)(p:A0):Option A0:=
 BN (CQ (λσ=>Hn F σ.1 σ.2.1 σ.2.2.1 σ.2.2.2.1 σ.2.2.2.2) F (p.fL,p.aC,p.aB,p.fP.ak,p.fP.ac)) (CT λν=>Hm ν.1 ν.2.1 ν.2.2.1 ν.2.2.2.1 ν.2.2.2.2)
def P3 (s:A1)(ha:Int):Option (Stp Int (Out Bool Unit)):=
 BX (Ac (ha<(Ae s:Int))) (Bp (CR ha (Ae s:Int))<|BX ((bif Ac ((E4 s ha)<97) then((!Ac ((E4 s ha)=95))&&((Ac (ha=0))||((Ac ((E4 s ha)<48))||(Ac (57<(E4 s ha)))))) else((Ac (122<(E4 s ha)))&&((!Ac ((E4 s ha)=95))&&((Ac (ha=0))||((Ac ((E4 s ha)<48))||(Ac (57<(E4 s ha))))))))) (Ad (.out (.ret Ah))) (Bp (Dc .i64 (ha+1))<|some (.next (ha+1)))) (Ad (.out (.go ())))
def MK :Option Bool:=
 Ad Af
def QX (F:Nat)(s:A1):Option Bool:=
 BX (((Ac ((Ae s:Int)<1))||(Ac (24<(Ae s:Int))))) (Ad Ah) (BN (CQ (λσ=>P3 s σ) F 0) (CT λν=>MK ))
def IJ (F:Nat)(s:A1):Option Bool:=
 Bp (QX F s).isSome<|Bp (imp ((ov (QX F s))) (HU s).isSome)<|some ((ov (QX F s))&&(!(ov (HU s))))
def TN (op:A1):Option Int:=
 BX (Ac (op=([111,114]:A1))) (Ad 1) (BX (Ac (op=([97,110,100]:A1))) (Ad 2) (BX (Ac (op=([61,61]:A1))) (Ad 4) (BX (Ac (op=([33,61]:A1))) (Ad 4) (BX (Ac (op=([60]:A1))) (Ad 4) (BX (Ac (op=([60,61]:A1))) (Ad 4) (BX (Ac (op=([62]:A1))) (Ad 4) (BX (Ac (op=([62,61]:A1))) (Ad 4) (BX (Ac (op=([43]:A1))) (Ad 5) (BX (Ac (op=([45]:A1))) (Ad 5) (BX (Ac (op=([42]:A1))) (Ad 6) (BX (Ac (op=([47]:A1))) (Ad 6) (BX (Ac (op=([37]:A1))) (Ad 6) (Ad 0)))))))))))))
def OG (s:A1):Option Bool:=
 BN (TN s) λr1=>Ad (Ac (0<r1))
def Kt (k:Int):Option Bool:=
 Ad ((Ac (13≤k))&&(Ac (k≤18)))
def GA (k:Int):Option Bool:=
 Ad ((Ac (1≤k))&&(Ac (k≤12)))
def Hq (F:Nat)(n:AT):Option Bool:=
 BX ((bif !Ac (n.ay=7) then((Ac (0<(Ae n.bo:Int)))||((!Ac (n.ay=2))&&((!Ac (n.ay=3))&&(!Ac (n.aW=0))))) else((!Ac (n.ay=2))&&((!Ac (n.ay=3))&&(!Ac (n.aW=0)))))) (Ad Ah) (Bp (!(Ac (n.ay=2)))<|Bp (!(Ac (n.ay=3)))<|Bp (!(Ac (n.ay=4)))<|BX (Ac (n.ay=5)) (BN (IJ F n.aK) λha=>Ad ha) (BX (Ac (n.ay=11)) (BN (IJ F n.aK) λhb=>Ad hb) (BX (Ac (n.ay=13)) (BN (IJ F n.aK) λhc=>Ad hc) (BX (Ac (n.ay=14)) (BN (IJ F n.aK) λhd=>Ad hd) (Bp (!(Ac (n.ay=12)))<|Bp (!(Ac (n.ay=7)))<|Bp (!(Ac (n.ay=8)))<|BX (Ac (n.ay=9)) (BN (OG n.aK) λhe=>Ad he) (Ad (Ac (n.aK=([]:A1)))))))))
def OJ (n:AT)(k part:Int):Option Bool:=
 BX (Ac (n.ay=19)) (BN (Kt part) λr4=>Ad r4) (BX (Ac (n.ay=15)) (BX (Ac (0<k)) (Ad (Ac (part=19))) (BN (GA part) λha=>Ad ha)) (BX (Ac (n.ay=16)) (BX (Ac (0<k)) (Ad (Ac (part=19))) (BN (GA part) λhb=>Ad hb)) (BN (GA part) λhc=>Ad hc)))
def LI (n:AT):Option Bool:=
 BX (Ac (n.ay=1)) (Ad (Ac ((Ae n.aL:Int)=0))) (BX (Ac (n.ay=2)) (Ad (Ac ((Ae n.aL:Int)=0))) (BX (Ac (n.ay=3)) (Ad (Ac ((Ae n.aL:Int)=0))) (BX (Ac (n.ay=4)) (Ad (Ac ((Ae n.aL:Int)=0))) (BX (Ac (n.ay=5)) (Ad (Ac ((Ae n.aL:Int)=0))) (BX (Ac (n.ay=8)) (Ad (Ac ((Ae n.aL:Int)=1))) (BX (Ac (n.ay=13)) (Ad (Ac ((Ae n.aL:Int)=1))) (BX (Ac (n.ay=14)) (Ad (Ac ((Ae n.aL:Int)=1))) (BX (Ac (n.ay=17)) (Ad (Ac ((Ae n.aL:Int)=1))) (BX (Ac (n.ay=18)) (Ad (Ac ((Ae n.aL:Int)=1))) (BX (Ac (n.ay=9)) (Ad (Ac ((Ae n.aL:Int)=2))) (BX (Ac (n.ay=10)) (Ad (Ac ((Ae n.aL:Int)=2))) (BX (Ac (n.ay=16)) (Ad (Ac ((Ae n.aL:Int)=2))) (BX (Ac (n.ay=15)) (Ad ((Ac ((Ae n.aL:Int)=2))||(Ac ((Ae n.aL:Int)=3)))) (BX (Ac (n.ay=6)) (Ad Af) (BX (Ac (n.ay=7)) (Ad Af) (BX (Ac (n.ay=11)) (Ad Af) (BX (Ac (n.ay=12)) (Ad Af) (BX (Ac (n.ay=19)) (Ad Af) (Ad Ah)))))))))))))))))))
def LH (l:(List AT))(i:Int)(hd:(List AT)→Int→Option Int)(ha hb:Int):Option (Stp (Int×Int) (Out Int Int)):=
 BX (Ac (0≤hb)) (Bp (imp (!(Ac (ha<1))) (CR hb (Ae (Ax l i).aL:Int)))<|Bp (imp (!(Ac (ha<1))) (Dc .i64 (ha-1)))<|Bp (imp (!(Ac (ha<1))) (imp (!(!Ac ((Ax (Ax l i).aL hb)=(ha-1)))) (CR (ha-1) (Ae l:Int))))<|Bp (imp (!(Ac (ha<1))) (imp (!(!Ac ((Ax (Ax l i).aL hb)=(ha-1)))) (OJ (Ax l i) hb (Ax l (ha-1)).ay).isSome))<|BX (((Ac (ha<1))||((!Ac ((Ax (Ax l i).aL hb)=(ha-1)))||(!(ov (OJ (Ax l i) hb (Ax l (ha-1)).ay)))))) (Ad (.out (.ret (-1)))) (Bp (Dc .i64 (ha-1))<|BN (hd l (ha-1)) λhc=>BX (Ac (hc<0)) (Ad (.out (.ret (-1)))) (Bp (Dc .i64 (hb-1))<|some (.next (hc,hb-1))))) (Ad (.out (.go ha)))
def J7 (ha:Int):Option Int:=
 Ad ha
def TL (F:Nat)(ha:(List AT)→Int→Option Int)(l:(List AT))(i:Int):Option Int:=
 Bp (CR i (Ae l:Int))<|Bp (Hq F (Ax l i)).isSome<|Bp (imp (!(!(ov (Hq F (Ax l i))))) (LI (Ax l i)).isSome)<|BX (((!(ov (Hq F (Ax l i))))||(!(ov (LI (Ax l i)))))) (Ad (-1)) (Bp (Dc .i64 ((Ae (Ax l i).aL:Int)-1))<|BN (CQ (λσ=>LH l i ha σ.1 σ.2) F (i,(Ae (Ax l i).aL:Int)-1)) (CT λν=>J7 ν))
def HE:Nat→(List AT)→Int→Option Int
 | 0,_,_=>Ai
 | nn+1,l,i=>TL nn (HE nn) l i
def IX (l:(List AT))(i:Int)(hc:(List AT)→Int→Option Int)(hb ha:Int):Option (Stp (Int×Int) (Out Int Int)):=
 BX (Ac (ha<(Ae (Ax l i).aL:Int))) (Bp (CR ha (Ae (Ax l i).aL:Int))<|BN (hc l (Ax (Ax l i).aL ha)) λhd=>Bp (Dc .i64 (ha+1))<|some (.next (max hb hd,ha+1))) (Ad (.out (.go hb)))
def IW (ha:Int):Option Int:=
 Bp (Dc .i64 (ha+1))<|some (ha+1)
def OH (F:Nat)(ha:(List AT)→Int→Option Int)(l:(List AT))(i:Int):Option Int:=
 Bp (CR i (Ae l:Int))<|BN (CQ (λσ=>IX l i ha σ.1 σ.2) F (0,0)) (CT λν=>IW ν)
def GY:Nat→(List AT)→Int→Option Int
 | 0,_,_=>Ai
 | nn+1,l,i=>OH nn (GY nn) l i
def Abq (F:Nat)(s:A1):Option Bool:=
 BN (IJ F s) λr1=>Ad (!r1)
def WN (f:Bf):Option Bool:=
 Ad (Ac (8<(Ae f.ax:Int)))
def Me (ys:(List Bf))(ha:Int):Option (Stp Int (Out Int Unit)):=
 BX (Ac (ha<(Ae ys:Int))) (Bp (CR ha (Ae ys:Int))<|BN (WN (Ax ys ha)) λhb=>BX hb (Ad (.out (.ret ha))) (Bp (Dc .i64 (ha+1))<|some (.next (ha+1)))) (Ad (.out (.go ())))
def JU :Option Int:=
 Ad (-1)
def Ym (F:Nat)(ys:(List Bf)):Option Int:=
 BN (CQ (λσ=>Me ys σ) F 0) (CT λν=>JU )
def NP (F:Nat)(ys:(List A1))(ha:Int):Option (Stp Int (Out Int Unit)):=
 BX (Ac (ha<(Ae ys:Int))) (Bp (CR ha (Ae ys:Int))<|BN (Abq F (Ax ys ha)) λhb=>BX hb (Ad (.out (.ret ha))) (Bp (Dc .i64 (ha+1))<|some (.next (ha+1)))) (Ad (.out (.go ())))
def L2 :Option Int:=
 Ad (-1)
def AbB (F:Nat)(ys:(List A1)):Option Int:=
 BN (CQ (λσ=>NP F ys σ) F 0) (CT λν=>L2 )
def IA (F:Nat)(ys:(List Bf)):Option Bool:=
 BN (Ym F ys) λr1=>Ad (Ac (0≤r1))
def NT (F:Nat)(ys:(List A1)):Option Bool:=
 BN (AbB F ys) λr1=>Ad (Ac (0≤r1))
def IV (F:Nat)(q:AS)(hb ha:Int):Option (Stp (Int×Int) (Out Bool Int)):=
 BX (Ac (ha<(Ae q.ac:Int))) (Bp (CR ha (Ae q.ac:Int))<|Bp (IJ F (Ax q.ac ha).aO).isSome<|Bp (imp (!(!(ov (IJ F (Ax q.ac ha).aO)))) (NT F (Ax q.ac ha).ax).isSome)<|BX (((!(ov (IJ F (Ax q.ac ha).aO)))||(ov (NT F (Ax q.ac ha).ax)))) (Ad (.out (.ret Ah))) (Bp (imp (!(Ac ((Ax q.ac ha).aM<hb))) (imp (!(Ac ((Ae q.ak:Int)≤(Ax q.ac ha).aM))) (CR (Ax q.ac ha).aM (Ae q.ak:Int))))<|Bp (imp (!(Ac ((Ax q.ac ha).aM<hb))) (imp (!(Ac ((Ae q.ak:Int)≤(Ax q.ac ha).aM))) (imp (!(!Ac ((Ax q.ak (Ax q.ac ha).aM).ay=19))) (HE F q.ak (Ax q.ac ha).aM).isSome)))<|BX (((Ac ((Ax q.ac ha).aM<hb))||((Ac ((Ae q.ak:Int)≤(Ax q.ac ha).aM))||((!Ac ((Ax q.ak (Ax q.ac ha).aM).ay=19))||(!Ac ((ov (HE F q.ak (Ax q.ac ha).aM))=hb)))))) (Ad (.out (.ret Ah))) (Bp (Dc .i64 ((Ax q.ac ha).aM+1))<|Bp (Dc .i64 (ha+1))<|some (.next ((Ax q.ac ha).aM+1,ha+1))))) (Ad (.out (.go hb)))
def Hp (q:AS)(ha:Int):Option Bool:=
 Ad (Ac (ha=(Ae q.ak:Int)))
def No (F:Nat)(q:AS):Option Bool:=
 BN (CQ (λσ=>IV F q σ.1 σ.2) F (0,0)) (CT λν=>Hp q ν)
def IY (F:Nat)(q:AS)(hb ha:Int):Option (Stp (Int×Int) (Out Int Int)):=
 BX (Ac (ha<(Ae q.ac:Int))) (Bp (CR ha (Ae q.ac:Int))<|BN (GY F q.ak (Ax q.ac ha).aM) λhc=>Bp (Dc .i64 (ha+1))<|some (.next (max hb hc,ha+1))) (Ad (.out (.go hb)))
def Ht (ha:Int):Option Int:=
 Ad ha
def HT (F:Nat)(q:AS):Option Int:=
 BN (CQ (λσ=>IY F q σ.1 σ.2) F (0,0)) (CT λν=>Ht ν)
def P4 (F:Nat)(q:AS):Option Int:=
 BX (((Ac (600<(Ae q.ak:Int)))||(Ac (16<(Ae q.ac:Int))))) (Ad 3) (BN (No F q) λr6=>BX (!r6) (Ad 1) (Bp (IA F q.ac).isSome<|Bp (imp (!(ov (IA F q.ac))) (HT F q).isSome)<|BX (((ov (IA F q.ac))||(Ac (32<(ov (HT F q)))))) (Ad 3) (Ad 0)))
def Sw (F:Nat)(s:A1):Option (AS×Int×Int):=
 BN (PA F s) λr4=>Bp (!(!Ac (r4.2.2=0)))<|BN (Nn F (A0.mk r4.1 0 (Ae s:Int) (AS.mk ([]:List AT) ([]:List Bf)))) λha=>BN (P4 F ha.fP) λhb=>Bp (!(!Ac (hb=0)))<|some (ha.fP,0,0)
end Go.Proofs.YtinflkgbhkcfnaaGreatDoor
namespace Go.Proofs.YtinflkgbhkcfnaaGreatDoor.Q
open Go Go.RowKit
set_option linter.unusedVariables false
set_option linter.unusedSimpArgs false
set_option linter.unusedSectionVars false
variable{all:List Oper}{ty:TypeId}{opsA:Array Oper}{Q:Exit→Act→World→Prop}{af:Array Edge}{pos:String}{listed:Array Bool}{rest ops:List Oper}{i:Nat}{cs:List Rp}
section
variable [I : Dfr]
def Oe (ops:List Oper)(N:Nat):Bool:=
 let cl:=KM ops []
 (As (Ae ops)).all (λi=>(DF (ops.getD i default)).all (·<i))&&
 (As (Ae ops)).all (λi=>i<N||(As i).all (λj=>(cl.getD i 0).testBit j))
section
variable {P : Program} {Q : Exit → Act → World → Prop}
theorem RY {len m:Nat}(hs:listed.size=len)(hm:m≤len)(h:∀j,j<len→(listed.getD j Af=Af↔j<m)):listed.toList.count Ah=len-m:=by
 have:listed.toList=Au m Af++Au (len-m) Ah:=by
  apply List.ext_getElem
  ·simp[hs];omega
  ·intro j h1 h2;have hj:j<len:=by simpa[hs] using h1
   have:=h j hj;rw[Array.getD_eq_getD_getElem?,Array.getElem?_eq_getElem Ab] at this;simp only[AgX] at this;rw[Array.getElem_toList,List.getElem_append]
   split
   ·rename_i h3
    simp at h3;simp[this.2 h3]
   ·rename_i h3
    simp at h3;simp only[List.getElem_replicate]
    cases hb:listed[j] with
    | false=>rfl
    | true=>have:=this.1 hb;omega
 rw[this];simp[List.count_append,List.count_replicate]
theorem U3 {j:Nat}(h:j<listed.size)(d d':Bool):listed.getD j d=listed.getD j d':=by
 simp[Array.getD_eq_getD_getElem?,Array.getElem?_eq_getElem h]
theorem Oj {o:Oper}(ho:ops[i]? =Ad o)(hb:∀e∈DF o,listed.getD e Af=Af)
  (hcl:∀j o,ops[j]? =Ad o→listed.getD j Af=Af→∀e∈DF o,listed.getD e Af=Af) (j:Nat) (h:((KM ops []).getD i 0).testBit j=Af):j=i∨listed.getD j Af=Af:=
 G0 ops (λk=>k=i∨listed.getD k Af=Af) ops [] (λt o' ht e he hF=>by
  rcases hF with hF | hF
  ·simp at hF;subst hF;rw[ho] at ht;simp at ht;subst ht;exact .inr (hb e he)
  ·exact .inr (hcl t o' ht (by simpa using hF) e he)) (λj i hb=>by simp at hb) i j h (.inl rfl)
theorem KA (hsz:listed.size=Ae ops)(hlt:∀i,i<Ae ops→∀e∈DF (ops.getD i default),e<i)(h:i∈Region.ready .any ops.toArray listed) :
  listed.getD i Af=Ah∧i<Ae ops∧∃o,ops[i]? =Ad o∧∀e∈DF o,listed.getD e Af=Af:=by
 obtain⟨h1,o,ho,h2⟩:=mem_ready.1 h;have ho':ops[i]? =Ad o:=by simpa using ho
 have hil:=(List.getElem?_eq_some_iff.1 ho').1;refine⟨h1,hil,o,ho',λe he=>?_⟩;have hei:=hlt i hil e (by rw[AgI,ho'];exact he);simp only[DF,List.mem_map,List.mem_filter] at he;obtain⟨x,⟨hx1,hx2⟩,rfl⟩:=he;have h3:=h2 x (by simpa using hx1) hx2;rw[U3 Ab Af Ah];exact h3
theorem Kl (hsz:listed.size=Ae ops)(hlt:∀i,i<Ae ops→∀e∈DF (ops.getD i default),e<i)(h:Region.ready .any ops.toArray listed=[]) :
  ∀j,j<Ae ops→listed.getD j Af=Af:=by
 intro j
 induction j using Nat.strongRecOn with
 | ind j ih=>
  intro hj
  cases hb:listed.getD j Af with
  | true=>rfl
  | false=>
   have:j∈Region.ready .any ops.toArray listed:=mem_ready.2 ⟨hb,ops[j],by simp[hj],λe he hbn=>by
    have hel:e.on<j:=hlt j hj e.on (by
     rw[AgI,AgJ hj];simp only[DF,AgX,List.mem_map,List.mem_filter];exact⟨e,⟨by simpa using he,hbn⟩,rfl⟩)
    rw[U3 Ab Ah Af];exact ih e.on hel Ab⟩
   rw[h] at this;cases this
theorem MQ {j:Nat}(hi:i<listed.size):(listed.setIfInBounds i Af).getD j Af=Af↔(j=i∨listed.getD j Af=Af):=by
 by_cases hj:i=j
 ·subst hj;simp[hi]
 ·rw[getD_set_ne Af hj];exact⟨.inr,λh=>h.elim (λh=>absurd h.symm hj) id⟩
theorem Vp {fuel:Nat}(hi:i<listed.size)(hun:listed.getD i Af=Ah)(hc:listed.toList.count Ah=fuel+1):(listed.setIfInBounds i Af).toList.count Ah=fuel:=by
 have hfi:listed.toList[i]? =Ad Ah:=by
  rw[Array.getD_eq_getD_getElem?,Array.getElem?_eq_getElem hi] at hun;simp at hun;simp[hi,hun]
 rw[Array.toList_setIfInBounds];have h1:=List.count_set (a:=Af) (b:=Ah) (l:=listed.toList) (i:=i) (by simpa using hi);have h2:listed.toList[i]'(by simpa using hi)=Ah:=by
  have:=List.getElem?_eq_some_iff.1 hfi;exact this.2
 rw[h1,h2,hc];rfl
theorem Mt {ops:List Oper}{N:Nat}(hlt:∀i,i<Ae ops→∀e∈DF (ops.getD i default),e<i)
  (hch:∀i,N≤i→i<Ae ops→∀j,j<i→((KM ops []).getD i 0).testBit j=Af):∀(k m:Nat) (listed:Array Bool) (a:Act) (w:World),m+k=Ae ops→N≤m→listed.size=Ae ops→
   (∀j,j<Ae ops→(listed.getD j Af=Af↔j<m))→(∀j o,ops[j]? =Ad o→listed.getD j Af=Af→∀e∈DF o,listed.getD e Af=Af)→wpList P ops.toArray Q (ops.drop m) a w→wpAny P .any ops.toArray Q k listed a w
 | 0,m,listed,a,w,hk,hN,hsz,hl,hcl,h=>by
  refine⟨?_,?_⟩
  ·cases hr:Region.ready .any ops.toArray listed with
   | nil=>rfl
   | cons i r=>
    obtain⟨h1,h2,_⟩:=KA hsz hlt (i:=i) (by rw[hr];simp);rw[(hl i h2).2 Ab] at h1;cases h1
  ·rw[List.drop_of_length_le Ab] at h;exact h
 | k+1,m,listed,a,w,hk,hN,hsz,hl,hcl,h=>by
  refine⟨λhr=>?_,λi hi=>?_⟩
  ·have:=(hl m Ab).1 (Kl hsz hlt hr m Ab);omega
  ·obtain⟨h1,h2,o,ho,hb⟩:=KA hsz hlt hi;have him:i=m:=by
    have hmi : ¬ i<m:=λh'=>by rw[(hl i h2).2 h'] at h1;cases h1
    by_cases e:i=m
    ·exact e
    ·rcases Oj ho hb hcl m (hch i Ab h2 m Ab) with h3 | h3
     ·exact h3.symm
     ·have:=(hl m Ab).1 h3;omega
   subst him;have hd:ops.drop i=o::ops.drop (i+1):=by
    rw[List.drop_eq_getElem_cons h2]
    congr 1
    exact(List.getElem?_eq_some_iff.1 ho).2
   rw[hd] at h;have ih:∀a' w',wpList P ops.toArray Q (ops.drop (i+1)) a' w'→wpAny P .any ops.toArray Q k (listed.setIfInBounds i Af) a' w':=λa' w' h'=>by
    refine Mt hlt hch k (i+1) _ a' w' Ab Ab (by simpa using hsz) (λj hj=>?_) (λj o' hj hlj e he=>?_) h'
    ·rw[MQ Ab,hl j hj];omega
    ·rw[MQ Ab] at hlj ⊢;rcases hlj with rfl | hlj
     ·rw[ho] at hj;simp at hj;subst hj;exact .inr (hb e he)
     ·exact .inr (hcl j o' hj hlj e he)
   unfold wpOp;have hoA:ops.toArray[i]? =Ad o:=by simpa using ho
   simp only[hoA];simp only[wpList] at h
   split
   ·rename_i hw'
    rw[Ahe hw'] at h;exact h.imp (λh=>Oper.wp_mono ih h) (λh=>h)
   ·rename_i hw'
    rw[AgV hw'] at h;exact ih _ _ h
theorem PC {id N:Nat}(hm:P.follows .mixedOrders=Af)(hB:Oe ops N=Af)(hN:N≤Ae ops)(I:(Nat→Bool)→Act→World→Prop)
  (hext:∀S S' a w,(∀j,j<N→S j=S' j)→I S a w→I S' a w) {a:Act} {w:World} (h0:I (λ_=>Ah) a { w with drawn:=w.drawn+1 })
  (step:∀S i o a w,i<N→S i=Ah→ops[i]? =Ad o→(∀e∈DF o,e<i∧S e=Af)→I S a w→∀K:Act→World→Prop,(∀a' w',I (λj=>j ==i||S j) a' w'→K a' w')→
   (Region.wanted o (yielded ops.toArray a.tmps)=Af→o.wp P a w K Q)∧(Region.wanted o (yielded ops.toArray a.tmps)=Ah→K (a.put o.dst undef) w))
  (fin:∀a w,I (λ_=>Af) a w→wpList P ops.toArray Q (ops.drop N) a w):(Code.region id ops.toArray Af).wp P Q a w:=by
 simp only[Oe,AgO,AgY,List.mem_range,AgQ,AgZ] at hB;obtain⟨hlt,hch0⟩:=hB;have hch:∀i,N≤i→i<Ae ops→∀j,j<i→((KM ops []).getD i 0).testBit j=Af:=λi h1 h2 j hj=>by
  rcases hch0 i h2 with h3 | h3
  ·omega
  ·exact h3 j hj
 refine wp_region_any hm ?_;have main:∀(fuel:Nat) (listed:Array Bool) (a:Act) (w:World),listed.size=Ae ops→listed.toList.count Ah=fuel→I (λj=>listed.getD j Af) a w→
   (∀j o,ops[j]? =Ad o→listed.getD j Af=Af→∀e∈DF o,listed.getD e Af=Af)→(∀j,N≤j→j<Ae ops→listed.getD j Af=Ah)→wpAny P .any ops.toArray Q fuel listed a w:=by
  intro fuel;have allin:∀(fuel:Nat) (listed:Array Bool) (a:Act) (w:World),listed.size=Ae ops→listed.toList.count Ah=fuel→I (λj=>listed.getD j Af) a w→
   (∀j o,ops[j]? =Ad o→listed.getD j Af=Af→∀e∈DF o,listed.getD e Af=Af)→(∀j,N≤j→j<Ae ops→listed.getD j Af=Ah)→(∀j,j<N→listed.getD j Af=Af)→wpAny P .any ops.toArray Q fuel listed a w:=by
   intro fuel listed a w hsz hc hI hcl hlast hall;have hl:∀j,j<Ae ops→(listed.getD j Af=Af↔j<N):=λj hj=>by
    constructor
    ·intro h
     by_cases hjN:j<N
     ·exact hjN
     ·rw[hlast j Ab hj] at h;cases h
    ·exact hall j
   have:=RY hsz hN hl;refine Mt hlt hch fuel N listed a w Ab (AgU _) hsz hl hcl (fin a w (hext _ _ a w (λj hj=>hall j hj) hI))
  induction fuel with
  | zero=>
   intro listed a w hsz hc hI hcl hlast;refine allin 0 listed a w hsz hc hI hcl hlast (λj hj=>?_)
   cases hb:listed.getD j Af with
   | true=>rfl
   | false=>
    have:Ah∈listed.toList:=by
     rw[Array.getD_eq_getD_getElem?,Array.getElem?_eq_getElem Ab] at hb;simp at hb;rw[← hb];simp
    have:=List.count_pos_iff.2 this;omega
  | succ fuel ih=>
   intro listed a w hsz hc hI hcl hlast
   by_cases hall:∀j,j<N→listed.getD j Af=Af
   ·exact allin (fuel+1) listed a w hsz hc hI hcl hlast hall
   ·refine⟨λhr=>absurd (λj hj=>Kl hsz hlt hr j Ab) hall,λi hi=>?_⟩;obtain⟨h1,h2,o,ho,hb⟩:=KA hsz hlt hi;have hiN:i<N:=by
     by_cases h:i<N
     ·exact h
     ·refine absurd (λj hj=>?_) hall;rcases Oj ho hb hcl j (hch i Ab h2 j Ab) with h3 | h3
      ·omega
      ·exact h3
    have K':∀a' w',I (λj=>j ==i||listed.getD j Af) a' w'→wpAny P .any ops.toArray Q fuel (listed.setIfInBounds i Af) a' w':=λa' w' hI'=>by
     refine ih _ a' w' (by simpa using hsz) (Vp Ab h1 hc) (hext _ _ a' w' (λj hj=>?_) hI') (λj o' hj hlj e he=>?_) (λj h3 h4=>?_)
     ·have:=MQ (listed:=listed) (i:=i) (j:=j) Ab
      cases hq:(listed.setIfInBounds i Af).getD j Af with
      | true=>
       rw[hq] at this;rcases this.1 rfl with h | h
       ·simp[h]
       ·simp[h]
      | false=>
       rw[hq] at this;have h5 : ¬ (j=i∨listed.getD j Af=Af):=λh=>by have:=this.2 h;cases this
       cases hz:listed.getD j Af with
       | true=>exact absurd (.inr hz) h5
       | false=>
        have:j≠i:=λh=>h5 (.inl h);simp[this]
     ·rw[MQ Ab] at hlj ⊢;rcases hlj with rfl | hlj
      ·rw[ho] at hj;simp at hj;subst hj;exact .inr (hb e he)
      ·exact .inr (hcl j o' hj hlj e he)
     ·rw[getD_set_ne Af Ab];exact hlast j h3 h4
    obtain⟨k1,k2⟩:=step _ i o a w hiN h1 ho (λe he=>⟨hlt i h2 e (by rw[AgI,ho];exact he),hb e he⟩) hI _ K';unfold wpOp;have hoA:ops.toArray[i]? =Ad o:=by simpa using ho
    simp only[hoA]
    split
    ·rename_i hw';exact .inl (k1 hw')
    ·rename_i hw';exact k2 (by simpa using hw')
 have e0:∀j,j<Ae ops→(Array.replicate (Ae ops) Ah).getD j Af=Ah:=λj hj=>by simp[hj]
 have hsz0:ops.toArray.size=Ae ops:=Aj
 rw[hsz0];refine main (Ae ops) (Array.replicate (Ae ops) Ah) a _ Aj Aj (hext _ _ _ _ (λj hj=>(e0 j Ab).symm) h0) (λj o hj hl=>?_) (λj _ h2=>e0 j h2);rw[e0 j (List.getElem?_eq_some_iff.1 hj).1] at hl;cases hl
end
structure Sa where
 deps:List Nat
 r:Rp
 al:Option (List Rp×TypeId):=Ai
 late:Option (Nat×List Rp):=Ai
 sto:Option Nat:=Ai
def GJ (sp:List Sa)(i:Nat):Sa:=sp.getD i { deps:=[],r:=rv undef }
def Xs (sp:List Sa):List Sp:=sp.map λs=>⟨s.deps,s.r,0⟩
def Lq (β:Nat→Nat)(s:Sa)(i:Nat):Rp:=match s.al with
 | none=>s.r
 | some _=>rv (.pointer (Ad ⟨β i,0,Ai⟩))
def Mj (S:Nat→Bool)(late:Option (Nat×List Rp))(cs:List Rp):List Rp:=match late with
 | none=>cs
 | some q=>if S q.1 then q.2 else cs
def GT (S:Nat→Bool)(β:Nat→Nat):List Sa→Nat→List Ent
 | [],_=>[]
 | s::r,t=>match s.al with
  | some p=>if S t then .blk (β t) (Mj S s.late p.1) p.2::GT S β r (t+1) else GT S β r (t+1)
  | none=>GT S β r (t+1)
def VU (β:Nat→Nat):List Sa→Nat→List Ent
 | [],_=>[]
 | s::r,t=>match s.al with
  | some p=>.blk (β t) (match s.late with | none=>p.1 | some q=>q.2) p.2::VU β r (t+1)
  | none=>VU β r (t+1)
def IR (β:Nat→Nat):List Oper→List Sa→Nat→Fr→Fr
 | o::os,s::sp,i,l=>match o.dst with
  | some d=>(d,Lq β s i)::IR β os sp (i+1) l
  | none=>IR β os sp (i+1) l
 | _,_,_,l=>l
theorem KL {S S':Nat→Bool}{late:Option (Nat×List Rp)}(h:∀q,late=Ad q→S q.1=S' q.1):Mj S late cs=Mj S' late cs:=by
 unfold Mj
 cases late with
 | none=>rfl
 | some q=>simp only[];rw[h q rfl]
theorem EZ (S:Nat→Bool)(β:Nat→Nat)(s:Sa)(r:List Sa)(t:Nat):GT S β (s::r) t=match s.al with
  | some p=>if S t then .blk (β t) (Mj S s.late p.1) p.2::GT S β r (t+1) else GT S β r (t+1)
  | none=>GT S β r (t+1):=rfl
theorem Hg {S S':Nat→Bool}{β β':Nat→Nat}:∀(r:List Sa) (t0:Nat),(∀(t:Nat) (s:Sa),r[t]? =Ad s→s.al≠Ai→S (t0+t)=S' (t0+t)∧(S (t0+t)=Af→β (t0+t)=β' (t0+t)∧∀q,s.late=Ad q→S q.1=S' q.1))→GT S β r t0=GT S' β' r t0
 | [],_,_=>rfl
 | s::r,t0,h=>by
  have ih:=Hg r (t0+1) (λt s hs hn=>by
   have:=h (t+1) s (by simpa using hs) hn;rw[show t0+1+t=t0+(t+1) from Ab];exact this)
  unfold GT;rw[ih]
  cases ha:s.al with
  | none=>rfl
  | some p=>
   obtain⟨h1,h2⟩:=h 0 s rfl (by rw[ha];exact nofun);simp only[Nat.add_zero] at h1 h2;simp only[];rw[← h1]
   split
   ·rename_i hS;rw[(h2 hS).1,KL (h2 hS).2]
   ·rfl
theorem RW (β:Nat→Nat):∀(r:List Sa) (t0:Nat),GT (λ_=>Af) β r t0=VU β r t0
 | [],_=>rfl
 | s::r,t0=>by
  unfold GT VU;rw[RW β r (t0+1)]
  cases s.al with
  | none=>rfl
  | some p=>cases hl:s.late<;>simp[Mj,hl]
theorem Pm (β:Nat→Nat):∀(r:List Sa) (t0:Nat),GT (λ_=>Ah) β r t0=[]
 | [],_=>rfl
 | s::r,t0=>by
  unfold GT;rw[Pm β r (t0+1)]
  cases s.al<;>simp
theorem RU {S:Nat→Bool}{β:Nat→Nat}{i b:Nat}{p:List Rp×TypeId}:∀(r:List Sa) (t0 k:Nat) (s:Sa),i=t0+k→r[k]? =Ad s→s.al=Ad p→S i=Ah→(∀(t:Nat) (s:Sa) (q:Nat×List Rp),r[t]? =Ad s→s.al≠Ai→s.late=Ad q→q.1≠i)→(∀q,s.late=Ad q→S q.1=Ah∧q.1≠i)→
  (GT (λj=>j ==i||S j) (λj=>if j=i then b else β j) r t0).Perm (.blk b p.1 p.2::GT S β r t0)
 | [],_,_,_,_,h,_,_,_,_=>by simp at h
 | s'::r,t0,0,s,hi,h,ha,hS,hne,hl=>by
  simp at h hi;subst h;subst hi;have e:=Hg (S:=λj=>j ==i||S j) (S':=S) (β:=λj=>if j=i then b else β j) (β':=β) r (i+1) (λt s hs hn=>by
   have:i+1+t≠i:=Ab
   refine⟨by simp[this],λ_=>⟨by simp[this],λq hq=>?_⟩⟩;have:=hne (t+1) s q (by simpa using hs) hn hq;simp[this])
  have ec:Mj (λj=>j ==i||S j) s'.late p.1=p.1:=by
   unfold Mj
   cases hq:s'.late with
   | none=>rfl
   | some q=>
    obtain⟨h1,h2⟩:=hl q hq;simp[h1,h2]
  unfold GT;rw[e,ha];simp only[hS,BEq.rfl,Ahw,if_true,ec];simp
 | s'::r,t0,k+1,s,hi,h,ha,hS,hne,hl=>by
  have ih:=RU (S:=S) (β:=β) (i:=i) (b:=b) (p:=p) r (t0+1) k s Ab (by simpa using h) ha hS (λt s q hs=>hne (t+1) s q (by simpa using hs)) hl;have hne0:t0≠i:=Ab
  have hne':(t0 ==i)=Ah:=by simpa using hne0
  unfold GT
  cases ha':s'.al with
  | none=>exact ih
  | some q=>
   simp only[hne',Ahb,AgV hne0];rw[KL (S:=λj=>j ==i||S j) (S':=S) (λq hq=>by
    have:=hne 0 s' q rfl (by rw[ha'];exact nofun) hq;simp[this])]
   cases hS':S t0 with
   | true=>simpa using(AgR _ ih).trans (List.Perm.swap _ _ _)
   | false=>simpa using ih
theorem RT {S:Nat→Bool}{β:Nat→Nat}{i j:Nat}{p:List Rp×TypeId}{ncs:List Rp}:∀(r:List Sa) (t0 k:Nat) (s:Sa),j=t0+k→r[k]? =Ad s→s.al=Ad p→s.late=Ad (i,ncs)→S j=Af→S i=Ah→(∀(t:Nat) (s:Sa) (q:Nat×List Rp),r[t]? =Ad s→s.al≠Ai→s.late=Ad q→t0+t≠j→q.1≠i)→(∀(t:Nat) (s:Sa),r[t]? =Ad s→s.al≠Ai→t0+t≠i)→
  ∃H',(GT S β r t0).Perm (.blk (β j) p.1 p.2::H')∧(GT (λj=>j ==i||S j) β r t0).Perm (.blk (β j) ncs p.2::H')
 | [],_,_,_,_,h,_,_,_,_,_,_=>by simp at h
 | s'::r,t0,0,s,hj,h,ha,hl,hSj,hSi,hne,hni=>by
  simp at h hj;subst h;subst hj;have e:=Hg (S:=λx=>x ==i||S x) (S':=S) (β:=β) (β':=β) r (j+1) (λt s hs hn=>by
   have h1:=hni (t+1) s (by simpa using hs) hn;have h1':j+1+t≠i:=Ab
   refine⟨by simp[h1'],λ_=>⟨rfl,λq hq=>?_⟩⟩;have:=hne (t+1) s q (by simpa using hs) hn hq Ab;simp[this])
  refine⟨GT S β r (j+1),?_,?_⟩
  ·rw[EZ];rw[ha];simp[hSj,Mj,hl,hSi]
  ·rw[EZ];rw[ha,e];simp[hSj,Mj,hl]
 | s'::r,t0,k+1,s,hj,h,ha,hl,hSj,hSi,hne,hni=>by
  obtain⟨H',h1,h2⟩:=RT (S:=S) (β:=β) (i:=i) (j:=j) (p:=p) (ncs:=ncs) r (t0+1) k s Ab (by simpa using h) ha hl hSj hSi (λt s q hs hn hq hx=>hne (t+1) s q (by simpa using hs) hn hq Ab) (λt s hs hn=>by
   have:=hni (t+1) s (by simpa using hs) hn;omega)
  cases ha':s'.al with
  | none=>exact⟨H',by rw[EZ,ha'];exact h1,by rw[EZ,ha'];exact h2⟩
  | some q=>
   have hi0:=hni 0 s' rfl (by rw[ha'];exact nofun);have hi0':(t0 ==i)=Ah:=by simpa using hi0
   have ec:Mj (λx=>x ==i||S x) s'.late q.1=Mj S s'.late q.1:=KL (λq hq=>by
    have:=hne 0 s' q rfl (by rw[ha'];exact nofun) hq Ab;simp[this])
   cases hS':S t0 with
   | true=>
    refine⟨.blk (β t0) (Mj S s'.late q.1) q.2::H',?_,?_⟩
    ·rw[EZ];rw[ha'];simpa[hS'] using(AgR _ h1).trans (List.Perm.swap _ _ _)
    ·rw[EZ];rw[ha'];simp only[hi0',Ahb,hS',if_true,ec];exact(AgR _ h2).trans (List.Perm.swap _ _ _)
   | false=>
    refine⟨H',?_,?_⟩
    ·rw[EZ];rw[ha'];simpa[hS'] using h1
    ·rw[EZ];rw[ha'];simp only[hi0',Ahb,hS'];simpa using h2
def okA (n:Nat)(ops:List Oper)(N:Nat)(keys:List Nat)(deps:List (List Nat))(als:List Bool)(lates stos:List (Option Nat)):Bool:=
 Oe ops N&&Ac (N≤Ae ops)&&
 (As N).all (λi=>match CD ops i with
  | some d=>Ac (d<n)&&!keys.contains d&&(As N).all (λj=>j ==i||CD ops j !=Ad d)
  | none=>Af)&&
 (As N).all (λi=>(deps.getD i []).all (λj=>Ac (j<N)&&(DF (ops.getD i default)).contains j&&!als.getD j Af))&&
 (As N).all (λi=>match stos.getD i Ai with
  | some j=>Ac (j<N)&&(DF (ops.getD i default)).contains j&&als.getD j Ah&&!als.getD i Af
  | none=>Af)&&
 (As N).all (λj=>match lates.getD j Ai with
  | some k=>Ac (k<N)&&als.getD j Ah&&stos.getD k Ai ==Ad j
  | none=>Af)
def Wn (P:Program)(n:Nat)(c:Cx)(opsA:Array Oper)(Q:Exit→Act→World→Prop)(l:Fr)(o:Oper)(p:List Rp×TypeId):Prop:=
 ∀H a w Z (K:Act→World→Prop),DS n l a Z→St c H Z w→(∀b w',St c (.blk b p.1 p.2::H) Z w'→K (a.put o.dst (.pointer (Ad ⟨b,0,Ai⟩))) w')→
  Region.wanted o (yielded opsA a.tmps)=Af∧o.wp P a w K Q
def ObA (P:Program)(n:Nat)(c:Cx)(opsA:Array Oper)(Q:Exit→Act→World→Prop)(ops:List Oper)(sp:List Sa)(l0:Fr)(H:List Ent)(i:Nat)(o:Oper):Prop:=
 match (GJ sp i).sto with
 | some j=>o.dst=Ai∧∃d p ncs,CD ops j=Ad d∧(GJ sp j).al=Ad p∧(GJ sp j).late=Ad (i,ncs)∧
   ∀b H,Ec P n c opsA Q ((d,rv (.pointer (Ad ⟨b,0,Ai⟩)))::C2 ops (Xs sp) (GJ sp i).deps l0) (.blk b p.1 p.2::H) o (rv undef) (.blk b ncs p.2::H)
 | none=>match (GJ sp i).al with
  | none=>∀E,Ec P n c opsA Q (C2 ops (Xs sp) (GJ sp i).deps l0) (H++E) o (GJ sp i).r (H++E)
  | some p=>Wn P n c opsA Q (C2 ops (Xs sp) (GJ sp i).deps l0) o p
def Lb (P:Program)(n:Nat)(c:Cx)(opsA:Array Oper)(Q:Exit→Act→World→Prop)(ops:List Oper)(sp:List Sa)(l0:Fr)(H:List Ent):Nat→List Oper→Prop
 | i,o::rest=>ObA P n c opsA Q ops sp l0 H i o∧Lb P n c opsA Q ops sp l0 H (i+1) rest
 | _,[]=>True
section
variable {P : Program} {n : Nat} {c : Cx} {opsA : Array Oper} {Q : Exit → Act → World → Prop} {l l0 : Fr} {H : List Ent} {sp : List Sa}
theorem Lb.at {ops:List Oper}:∀{k:Nat} {rest:List Oper},Lb P n c opsA Q ops sp l0 H k rest→∀(t:Nat) o,rest[t]? =Ad o→ObA P n c opsA Q ops sp l0 H (k+t) o
 | k,o::rest,⟨h1,h2⟩,t,o',ht=>by
  cases t with
  | zero=>simp at ht;subst ht;exact h1
  | succ t=>
   have:=Lb.at h2 t o' (by simpa using ht);rw[show k+(t+1)=k+1+t from Ab];exact this
 | _,[],_,t,o,h=>by simp at h
theorem L9 {β:Nat→Nat}{a:Act}{Z:Fz}(h0:DS n l0 a Z):∀(os:List Oper) (ss:List Sa) (k:Nat),(∀(t:Nat) o s d,os[t]? =Ad o→ss[t]? =Ad s→o.dst=Ad d→∃v,a.tmps[d]? =Ad v∧(Lq β s (k+t)).p Z v)→DS n (IR β os ss k l0) a Z
 | [],_,_,_=>by unfold IR;exact h0
 | _::_,[],_,_=>by unfold IR;exact h0
 | o::os,s::ss,k,h=>by
  have ih:=L9 h0 os ss (k+1) (λt o' s' d h1 h2 h3=>by
   have:=h (t+1) o' s' d (by simpa using h1) (by simpa using h2) h3;rw[show k+1+t=k+(t+1) from Ab];exact this)
  unfold IR
  cases hd:o.dst with
  | none=>exact ih
  | some d=>
   refine⟨ih.size,ih.defers,λi r hi=>?_⟩;rw[Dp] at hi
   split at hi
   ·rename_i e;subst e;simp at hi;subst hi;exact h 0 o s d rfl rfl hd
   ·exact ih.tm i r hi
theorem AbU {id:Nat}(N:Nat)(sp:List Sa)(hm:P.follows .mixedOrders=Af)(hB:okA n ops N (Es l0) (sp.map (·.deps)) (sp.map (·.al.isSome)) (sp.map (·.late.map (·.1))) (sp.map (·.sto))=Af)(hl0:O6 l0 l)(hsp:Ae sp=N)
  (hob:Lb P n c ops.toArray Q ops sp l0 H 0 (ops.take N)) (h:∀β,WL P n c ops.toArray Q (ops.drop N) (IR β (ops.take N) sp 0 l0) (H++VU β sp 0)):WC P n c (.region id ops.toArray Af) Q l H:=by
 intro a w Z ha hw;simp only[okA,AgO,AgY,List.mem_range,AgQ] at hB;obtain⟨⟨⟨⟨⟨b1,bN⟩,b2⟩,b3⟩,b4⟩,b5⟩:=hB;have hget:∀i,i<N→(ops.take N)[i]? =ops[i]?:=λi hi=>by rw[Ahd,Ahe hi]
 have hsa:∀i,i<N→sp[i]? =Ad (GJ sp i):=λi hi=>by
  simp[GJ,AgI,AgJ (show i<Ae sp by omega)]
 have hspq:∀i,i<N→(E1 (Xs sp) i)=⟨(GJ sp i).deps,(GJ sp i).r,0⟩:=λi hi=>by
  simp[E1,Xs,AgI,AgT,hsa i hi]
 have hals:∀j b,j<N→(sp.map (·.al.isSome)).getD j b=(GJ sp j).al.isSome:=λj b hj=>by simp[AgI,AgT,hsa j hj]
 have hstos:∀j,j<N→(sp.map (·.sto)).getD j Ai=(GJ sp j).sto:=λj hj=>by simp[AgI,AgT,hsa j hj]
 have hlates:∀j,j<N→(sp.map (·.late.map (·.1))).getD j Ai=(GJ sp j).late.map (·.1):=λj hj=>by simp[AgI,AgT,hsa j hj]
 have S1:∀i o j,i<N→ops[i]? =Ad o→(GJ sp i).sto=Ad j→j<N∧j∈DF o∧(GJ sp j).al≠Ai∧(GJ sp i).al=Ai:=λi o j hi ho hs=>by
  have h1:=b4 i hi;rw[hstos i hi,hs] at h1;simp only[AgO,Ahh,AgQ] at h1;obtain⟨⟨⟨h2,h3⟩,h4⟩,h5⟩:=h1;rw[hals j _ h2] at h4;rw[hals i _ hi] at h5;rw[AgI,ho,AgX,List.contains_iff_mem] at h3;exact⟨h2,h3,λe=>(by rw[e] at h4;cases h4),(by simpa using h5)⟩
 have L1:∀t q,t<N→(GJ sp t).late=Ad q→q.1<N∧(GJ sp q.1).sto=Ad t:=λt q ht hq=>by
  have h1:=b5 t ht;rw[hlates t ht,hq] at h1;simp only[Option.map_some,AgO,AgQ,beq_iff_eq] at h1;obtain⟨⟨h2,h3⟩,h4⟩:=h1;rw[hstos _ h2] at h4;exact⟨h2,h4⟩
 have hops:∀j,j<N→∃o,ops[j]? =Ad o:=λj hj=>⟨ops[j]'(Ab),AgJ Ab⟩
 have lt_of:∀(t:Nat) (s:Sa),sp[t]? =Ad s→t<N∧s=GJ sp t:=λt s hs=>by
  have h1:t<N:=by have:=(List.getElem?_eq_some_iff.1 hs).1;omega
  refine⟨h1,?_⟩;rw[hsa t h1] at hs;simpa using hs.symm
 have hdst:∀i o d,i<N→ops[i]? =Ad o→o.dst=Ad d→(d<n∧d ∉ Es l0)∧∀j,j<N→j≠i→CD ops j≠Ad d:=λi o d hi ho hd=>by
  have h3:=b2 i hi;have:CD ops i=Ad d:=by simp[CD,ho,hd]
  rw[this] at h3;simp only[AgO,Ahh,AgY,List.mem_range,AgQ] at h3;refine⟨⟨h3.1.1,λhmem=>by rw[← List.contains_iff_mem] at hmem;rw[hmem] at h3;cases h3.1.2⟩,λj hj hne he=>?_⟩;have:=h3.2 j hj;simp[hne,he] at this
 refine PC (N:=N) hm b1 bN (λS a w=>∃ (β:Nat→Nat) (Z:Fz),St c (H++GT S β sp 0) Z w∧DS n l0 a Z∧(∀j o d,j<N→S j=Af→ops[j]? =Ad o→o.dst=Ad d→∃v,a.tmps[d]? =Ad v∧(Lq β (GJ sp j) j).p Z v)∧
   ∀k j,k<N→(GJ sp k).sto=Ad j→S k=Af→S j=Af)
  (λS S' a w hS hI=>?_) ⟨λ_=>0,Z,?_,ha.subL hl0,λj o d _ hS=>(by cases hS),λk j _ _ hS=>(by cases hS)⟩ (λS i o a w hi hun ho hb hI K hK=>?_) (λa w hI=>?_)
 ·obtain⟨β,Z,h1,h2,h3,h4⟩:=hI;refine⟨β,Z,?_,h2,λj o d hj hS'=>h3 j o d hj (by rw[hS j hj];exact hS'),λk j hk hs hSk=>?_⟩
  ·rw[← Hg (S:=S) (β:=β) (β':=β) sp 0 (λt s hs _=>by
    obtain⟨ht,rfl⟩:=lt_of t s hs;exact⟨hS _ Ab,λ_=>⟨rfl,λq hq=>hS _ (L1 t q ht hq).1⟩⟩)]
   exact h1
  ·obtain⟨o,ho⟩:=hops k hk;rw[← hS j (S1 k o j hk ho hs).1];exact h4 k j hk hs (by rw[hS k hk];exact hSk)
 ·rw[Pm,List.append_nil];exact hw.drawn _
 ·obtain⟨β,Z,h1,h2,h3,hx⟩:=hI;have hput:∀k u v,a.tmps[k]? =Ad u→o.dst≠Ad k→(a.put o.dst v).tmps[k]? =Ad u:=λk u v hk hne=>by
   cases hd:o.dst with
   | none=>simpa[Act.put] using hk
   | some d=>
    simp only[Act.put,Array.getElem?_setIfInBounds];rw[AgV (λe=>hne (by rw[hd,e]))];exact hk
  have hagr:∀v Z',Fz.le Z Z'→DS n l0 (a.put o.dst v) Z':=λv Z' hz=>by
   refine⟨?_,?_,λk r hk=>?_⟩
   ·cases o.dst<;>simp[Act.put,h2.size]
   ·cases o.dst<;>simp[Act.put,h2.defers]
   ·obtain⟨u,hu,hpu⟩:=h2.tm k r hk;exact⟨u,hput k u v hu (λe=>((hdst i o k hi ho e).1).2 (Ib hk)),r.mono hz hpu⟩
  have hvals:∀(v:Value) (Z':Fz) (β':Nat→Nat),Fz.le Z Z'→(∀j,j≠i→β' j=β j)→(o.dst≠Ai→(Lq β' (GJ sp i) i).p Z' v)→∀j o' d,j<N→(j ==i||S j)=Af→ops[j]? =Ad o'→o'.dst=Ad d→∃u,(a.put o.dst v).tmps[d]? =Ad u∧(Lq β' (GJ sp j) j).p Z' u:=by
   intro v Z' β' hz hβ hp j o' d hj hS' ho' hd
   by_cases hji:j=i
   ·subst hji;rw[ho] at ho';simp at ho';subst ho';refine⟨v,?_,hp (by simp[hd])⟩;have hdn:d<a.tmps.size:=by rw[h2.size];exact(hdst j o d hi ho hd).1.1
    simp[Act.put,hd,hdn]
   ·have hSj:S j=Af:=by simpa[hji] using hS'
    obtain⟨u,hu,hpu⟩:=h3 j o' d hj hSj ho' hd;refine⟨u,hput d u v hu (λe=>(hdst i o d hi ho e).2 j hj hji (by simp[CD,ho',hd])),?_⟩;have:Lq β' (GJ sp j) j=Lq β (GJ sp j) j:=by unfold Lq;rw[hβ j hji]
    rw[this];exact(Lq β (GJ sp j) j).mono hz hpu
  have hx':∀k j,k<N→(GJ sp k).sto=Ad j→(k ==i||S k)=Af→(j ==i||S j)=Af:=λk j hk hs hSk=>by
   by_cases hki:k=i
   ·subst hki;have:=(hb j (S1 k o j hk ho hs).2.1).2;simp[this]
   ·have:S j=Af:=hx k j hk hs (by simpa[hki] using hSk);simp[this]
  have hat:=hob.at i o (by rw[hget i hi];exact ho);rw[Aha] at hat;unfold ObA at hat;have hag':DS n (C2 ops (Xs sp) (GJ sp i).deps l0) a Z:=IE h2 (λj hj d hd=>by
    have h4:=b3 i hi j (by simpa[AgI,AgT,hsa i hi] using hj);simp only[AgO,Ahh,AgQ] at h4;obtain⟨⟨h5,h6⟩,h7⟩:=h4;rw[AgI,ho,AgX,List.contains_iff_mem] at h6;have hjal:(GJ sp j).al=Ai:=by
     rw[hals j _ h5] at h7;simpa using h7
    obtain⟨o2,ho2⟩:=hops j h5;obtain⟨v,hv1,hv2⟩:=h3 j o2 d h5 (hb j h6).2 ho2 (by simpa[CD,ho2] using hd);refine⟨v,hv1,?_⟩;rw[hspq j h5];simpa[Lq,hjal] using hv2)
  cases hst:(GJ sp i).sto with
  | some j=>
   rw[hst] at hat;obtain⟨hod,d,p,ncs,hd,hal,hlate,hok⟩:=hat;obtain⟨hjN,hjb,_,hial⟩:=S1 i o j hi ho hst;have hSj:=(hb j hjb).2;obtain⟨H',p1,p2⟩:=RT (S:=S) (β:=β) (i:=i) (j:=j) (p:=p) (ncs:=ncs) sp 0 j (GJ sp j) Ab (hsa j hjN) hal hlate hSj hun (λt s q hs _ hq hne he=>by
     obtain⟨ht,rfl⟩:=lt_of t s hs;have:=(L1 t q ht hq).2;rw[he,hst] at this;simp at this;omega) (λt s hs hn he=>by
     obtain⟨ht,rfl⟩:=lt_of t s hs;rw[Aha] at he;subst he;exact hn hial)
   obtain⟨o2,ho2⟩:=hops j hjN;obtain⟨v,hv1,hv2⟩:=h3 j o2 d hjN hSj ho2 (by simpa[CD,ho2] using hd);have hag2:DS n ((d,rv (.pointer (Ad ⟨β j,0,Ai⟩)))::C2 ops (Xs sp) (GJ sp i).deps l0) a Z:=⟨hag'.size,hag'.defers,λk r hk=>by
    rw[Dp] at hk
    split at hk
    ·rename_i e;subst e;simp at hk;subst hk
     exact⟨v,hv1,by simpa[Lq,hal] using hv2⟩
    ·exact hag'.tm k r hk⟩
   refine hok (β j) (H++H') a w Z K hag2 (h1.perm ((List.Perm.append_left H p1).trans List.perm_middle)) (λv w' Z' hz _ hs'=>hK _ _ ⟨β,Z',?_,hagr v Z' hz,hvals v Z' β hz (λ_ _=>rfl) (λhne=>absurd hod hne),hx'⟩);exact hs'.perm (List.perm_middle.symm.trans (List.Perm.append_left H p2.symm))
  | none=>
   rw[hst] at hat;have latene:∀t q,t<N→(GJ sp t).late=Ad q→q.1≠i:=λt q ht hq he=>by
    have:=(L1 t q ht hq).2;rw[he,hst] at this;cases this
   cases hal:(GJ sp i).al with
   | none=>
    rw[hal] at hat;refine hat _ a w Z K hag' h1 (λv w' Z' hz hp hst'=>hK _ _ ⟨β,Z',?_,hagr v Z' hz,hvals v Z' β hz (λ_ _=>rfl) (λ_=>by unfold Lq;rw[hal];exact hp),hx'⟩);rw[Hg (S':=S) (β':=β) sp 0 (λt s hs hn=>by
     obtain⟨ht,rfl⟩:=lt_of t s hs;have:t≠i:=λe=>by subst e;exact hn hal
     refine⟨by simp[this],λ_=>⟨rfl,λq hq=>?_⟩⟩;have:=latene t q ht hq;simp[this])]
    exact hst'
   | some p=>
    rw[hal] at hat;have key:=λK' hK'=>hat (H++GT S β sp 0) a w Z K' hag' h1 hK';have h5:∀b w',St c (.blk b p.1 p.2::(H++GT S β sp 0)) Z w'→K (a.put o.dst (.pointer (Ad ⟨b,0,Ai⟩))) w':=λb w' hst'=>by
     refine hK _ _ ⟨λj=>if j=i then b else β j,Z,?_,hagr _ Z (Fz.le.refl _),hvals _ Z _ (Fz.le.refl _) (λj hj=>by simp[hj]) (λ_=>by simp[Lq,hal,rv]),hx'⟩;have hp:=RU (S:=S) (β:=β) (i:=i) (b:=b) (p:=p) sp 0 i (GJ sp i) Ab (hsa i hi) hal hun (λt s q hs _ hq=>by
      obtain⟨ht,rfl⟩:=lt_of t s hs;exact latene t q ht hq) (λq hq=>by
       refine⟨?_,latene i q hi hq⟩
       cases hS:S q.1 with
       | false=>rfl
       | true=>
        obtain⟨h6,h7⟩:=L1 i q hi hq;have:=hx q.1 i h6 h7 hS;rw[this] at hun;cases hun)
     exact hst'.perm ((List.perm_middle.symm).trans (List.Perm.append_left H hp.symm))
    refine⟨λ_=>(key K h5).2,λhw'=>?_⟩;rw[(key K h5).1] at hw';cases hw'
 ·obtain⟨β,Z,h1,h2,h3,_⟩:=hI;refine h β a w Z (L9 h2 _ _ 0 (λt o s d ht hs hd=>?_)) (by rw[← RW];exact h1);obtain⟨htN,rfl⟩:=lt_of t s hs;rw[Aha];exact h3 t o d htN rfl (by rw[← hget t htN];exact ht) hd
end
theorem UJ {l:Fr}{P:Program}{n:Nat}{c:Cx}{d:Nat}{e:TypeId}{z:Value}(hz:∀w,(zeroValue e).run P w = .ok z w)(hcs:z.cells.toList.map rv=cs) :
  Wn P n c opsA Q l { dst:=Ad d,op:=.alloc e,type:=ty,pos:=pos,after:=af,guard:=Ai } (cs,e):=λH a w Z K _ hw hK=>by
 refine⟨by simp[Region.wanted],?_⟩;unfold Oper.wp;rw[show(execOp a.eval { dst:=Ad d,op:=.alloc e,type:=ty,pos:=pos,after:=af,guard:=Ai }).run P w = .ok (.value (.pointer (Ad ⟨w.heap.size,0,Ai⟩))) (w.alloc (.cells z.cells e)) from by simp[execOp,Instr.alloc,hz,newVar,newRow,newObj,Sem.run,Sem.run_bind]];exact hK _ _ (hw.alloc _ (e:=.blk w.heap.size cs e) ⟨z.cells.toList,by simpa using heap_alloc_new w _,by subst hcs;exact B8.rvs Z _⟩ rfl)
theorem Ade {l:Fr}{P:Program}{n:Nat}{c:Cx}{d:Nat}{e:TypeId}{x:Operand}(hx:ev l x=Ad (BT cs)) :
  Wn P n c opsA Q l { dst:=Ad d,op:=.box e x,type:=ty,pos:=pos,after:=af,guard:=Ai } (cs,e):=λH a w Z K ha hw hK=>by
 refine⟨by simp[Region.wanted],?_⟩;obtain⟨us,e1,hu⟩:=ha.ev hx;unfold Oper.wp;rw[show(execOp a.eval { dst:=Ad d,op:=.box e x,type:=ty,pos:=pos,after:=af,guard:=Ai }).run P w = .ok (.value (.pointer (Ad ⟨w.heap.size,0,Ai⟩))) (w.alloc (.cells us.toArray e)) from by simp[execOp,e1,Instr.box,newVar,newRow,newObj,Sem.run,Value.cells]];exact hK _ _ (hw.alloc _ (e:=.blk w.heap.size cs e) ⟨us,by simpa using heap_alloc_new w _,hu⟩ rfl)
section
variable {P : Program} {n : Nat} {c : Cx} {opsA : Array Oper} {Q : Exit → Act → World → Prop} {l l0 : Fr} {H : List Ent} {sp : List Sa}
theorem DO {id:Nat}(N:Nat)(ks0:List Nat)(sp:List Sa)(hob:Lb P n c ops.toArray Q ops sp l0 H 0 (ops.take N))(h:∀β,WL P n c ops.toArray Q (ops.drop N) (IR β (ops.take N) sp 0 l0) (H++VU β sp 0))
  (h0:Kp ks0 l l0:=by repeat (first | exact KE | (apply IQ;rfl) | (apply JY;rfl))) (hm:P.follows .mixedOrders=Af:=by kernel_rfl) (hB:okA n ops N (Es l0) (sp.map (·.deps)) (sp.map (·.al.isSome)) (sp.map (·.late.map (·.1))) (sp.map (·.sto))=Af:=by kernel_rfl)
  (hsp:Ae sp=N:=by rfl):WC P n c (.region id ops.toArray Af) Q l H:=AbU N sp hm hB h0.one hsp hob h
theorem DK {d:Nat}{op:Op}
  (hr:∀{H},Ce P n c (C2 all (Xs sp) (GJ sp i).deps l0) H { dst:=Ad d,op:=op,type:=ty,pos:=pos,after:=af,guard:=Ai } (GJ sp i).r) (h:Lb P n c opsA Q all sp l0 H (i+1) rest) (ha:(GJ sp i).al=Ai:=by rfl) (hs:(GJ sp i).sto=Ai:=by rfl) :
  Lb P n c opsA Q all sp l0 H i ({ dst:=Ad d,op:=op,type:=ty,pos:=pos,after:=af,guard:=Ai }::rest):=by
 refine⟨?_,h⟩;unfold ObA;rw[hs,ha];exact λ_=>Dk hr
theorem Hj {d:Nat}{op:Op}
  (hr:∀{E},Ce P n c (C2 all (Xs sp) (GJ sp i).deps l0) (H++E) { dst:=Ad d,op:=op,type:=ty,pos:=pos,after:=af,guard:=Ai } (GJ sp i).r) (h:Lb P n c opsA Q all sp l0 H (i+1) rest) (ha:(GJ sp i).al=Ai:=by rfl) (hs:(GJ sp i).sto=Ai:=by rfl) :
  Lb P n c opsA Q all sp l0 H i ({ dst:=Ad d,op:=op,type:=ty,pos:=pos,after:=af,guard:=Ai }::rest):=by
 refine⟨?_,h⟩;unfold ObA;rw[hs,ha];exact λ_=>Dk hr
theorem oal {o:Oper}{p:List Rp×TypeId}(hr:Wn P n c opsA Q (C2 all (Xs sp) (GJ sp i).deps l0) o p)(h:Lb P n c opsA Q all sp l0 H (i+1) rest)(ha:(GJ sp i).al=Ad p:=by rfl)(hs:(GJ sp i).sto=Ai:=by rfl):Lb P n c opsA Q all sp l0 H i (o::rest):=by
 refine⟨?_,h⟩;unfold ObA;rw[hs,ha];exact hr
theorem Qb:Lb P n c opsA Q all sp l0 H i []:=trivial
end
structure Kza (ks:List Nat) (β:Nat→Nat) (os:List Oper) (sp:List Sa) (i:Nat) (l0 l1:Fr):Prop where
 go:Kp ks (IR β os sp i l0) l1
section
variable {ks : List Nat} {β : Nat → Nat} {os : List Oper} {sp : List Sa} {i d : Nat} {l0 l1 : Fr} {ds : List Nat} {r : Rp} {p : List Rp × TypeId} {lt : Option (Nat × List Rp)} {so : Option Nat} {op : Op} {ty : TypeId} {pos : String} {af : Array Edge} {g : Option (Nat × Bool)}
theorem Ab5 (h:ks.contains d=Af)(t:Kza ks β os sp (i+1) l0 l1):Kza ks β ({ dst:=Ad d,op:=op,type:=ty,pos:=pos,after:=af,guard:=g }::os) ({ deps:=ds,r:=r,sto:=so }::sp) i l0 ((d,r)::l1):=⟨IQ h t.go⟩
theorem Ab6 (h:ks.contains d=Af)(t:Kza ks β os sp (i+1) l0 l1):Kza ks β ({ dst:=Ad d,op:=op,type:=ty,pos:=pos,after:=af,guard:=g }::os) ({ deps:=ds,r:=r,al:=Ad p,late:=lt,sto:=so }::sp) i l0 ((d,rv (.pointer (Ad ⟨β i,0,Ai⟩)))::l1):=⟨IQ h t.go⟩
theorem Ab7 (t:Kp ks l0 l1):Kza ks β [] [] i l0 l1:=⟨t⟩
theorem AbT {P:Program}{n:Nat}{c:Cx}{H H1:List Ent}(ks:List Nat)(h:WL P n c opsA Q rest l1 H1)
  (hz:Kza ks β os sp i l0 l1:=by repeat (first | (apply Ab5;rfl) | (apply Ab6;rfl) | (apply kza_d;rfl) | apply kza_u | apply Ab7 | exact KE | (apply IQ;rfl) | (apply JY;rfl))) (hH:H=H1:=by rfl) :
  WL P n c opsA Q rest (IR β os sp i l0) H:=λa w Z ha hw=>h a w Z (ha.subL hz.go.one) (hH▸hw)
end
section
variable {P : Program} {n : Nat} {c : Cx} {opsA : Array Oper} {Q : Exit → Act → World → Prop} {l l0 : Fr} {H : List Ent} {sp : List Sa}
theorem oac {o:Oper}(hr:∀{E},Ec P n c opsA Q (C2 all (Xs sp) (GJ sp i).deps l0) (H++E) o (GJ sp i).r (H++E))(h:Lb P n c opsA Q all sp l0 H (i+1) rest)(ha:(GJ sp i).al=Ai:=by rfl)(hs:(GJ sp i).sto=Ai:=by rfl):Lb P n c opsA Q all sp l0 H i (o::rest):=by
 refine⟨?_,h⟩;unfold ObA;rw[hs,ha];exact λ_=>hr
end
end
section
variable [I : Dfr]
def rBx (p:Bool→Prop):Rp:=⟨λ_ v=>∃b,v = .bool b∧p b,λ_ h=>h,Af,λ_ Z v ⟨b,e,_⟩=>by rw[e];rfl⟩
section
variable {P : Program} {n : Nat} {c : Cx} {ops : Array Oper} {Q : Exit → Act → World → Prop} {rest : List Oper} {l : Fr} {H : List Ent} {d : Option Nat} {ty rty t e : TypeId} {pos : String} {af : Array Edge} {g : Option (Nat × Bool)} {r : Rp} {x : Operand} {cx cy : Code} {sz : Nat} {xs : List (List Rp)}
theorem Re {o:Operand}{p:Bool→Prop}(ho:ev l o=Ad (rBx p))(h1:p Af→WC P n c cx Q l H)(h2:p Ah→WC P n c cy Q l H):WC P n c (.cond o cx cy) Q l H:=λa w Z ha hw=>by
 obtain⟨b,e,hp⟩:=ha.ev ho;exact wp_cond_split e (λe=>h1 (e▸hp) a w Z ha hw) (λe=>h2 (e▸hp) a w Z ha hw)
theorem Vw (ht:P.underlying t=Ad (.slice e))(h:ev l x=Ad (BB sz xs)):Ce P n c l H { dst:=d,op:=.binOp .eql t x (.const (.slice Ai 0 0)) rty,type:=ty,pos:=pos,after:=af,guard:=g } (rBx (λb=>b=Af→xs=[])):=λa w Z ha hw=>by
 obtain⟨A,cap,e1,h1,h2,h3,h4⟩:=ha.ev h;refine⟨.bool A.isNone,⟨_,rfl,λhb=>?_⟩,?_⟩
 ·cases A with
  | some a=>cases hb
  | none=>
   have:=h3 rfl;exact List.length_eq_zero_iff.1 Ab
 ·have:=run_equal_slice_nil (P:=P) w t e A (Ae xs) cap ht;have e2:a.eval (.const (.slice Ai 0 0)) = .slice Ai 0 0:=rfl;simp[execOp,e1,e2,binOp,this,eqGuard]
end
end
section
variable [I : Dfr]
section
variable {P : Program} {n : Nat} {c : Cx} {l : Fr} {H : List Ent} {d : Option Nat} {ty rty t e : TypeId} {pos : String} {af : Array Edge} {g : Option (Nat × Bool)} {x : Operand} {sz : Nat}
end
end
end Go.Proofs.YtinflkgbhkcfnaaGreatDoor.Q
namespace Go.Proofs.YtinflkgbhkcfnaaGreatDoor
open Go
set_option linter.unusedVariables false
set_option linter.unusedSimpArgs false
variable{R St:Type}{K:St→Option R}
section
variable {T S : Type}
def mget:List (A1×T)→A1→Option T
 | [],_=>Ai
 | p::r,k=>bif Ac (p.1=k) then Ad p.2 else mget r k
def Cy (xs:List (A1×T))(k:A1)(z:T):T:=(mget xs k).getD z
def CI (xs:List (A1×T))(k:A1):Bool:=(mget xs k).isSome
def MG (k:A1)(v:T):List (A1×T)→List (A1×T)
 | []=>[(k,v)]
 | p::r=>bif Mx k p.1 then(k,v)::p::r else p::MG k v r
def Ji (xs:List (A1×T))(k:A1)(v:T):List (A1×T):=xs.map λp=>bif Ac (p.1=k) then(k,v) else p
def Cj (xs:List (A1×T))(k:A1)(v:T):List (A1×T):=bif CI xs k then Ji xs k v else MG k v xs
def Gv (xs:List (A1×T))(k:A1):List (A1×T):=xs.filter λp=>!Ac (p.1=k)
def Bz (f:T→S)(xs:List (A1×T)):List (A1×S):=xs.map λp=>(p.1,f p.2)
theorem Lt (f:T→S):∀(xs:List (A1×T)) (k:A1),mget (Bz f xs) k=(mget xs k).map f
 | [],k=>rfl
 | p::r,k=>by
  show(bif Ac (p.1=k) then Ad (f p.2) else mget (Bz f r) k)=_;rw[mget,Lt f r k]
  cases Ac (p.1=k)<;>rfl
theorem XI (f:T→S)(xs:List (A1×T))(k:A1):CI (Bz f xs) k=CI xs k:=by
 unfold CI;rw[Lt];cases mget xs k<;>rfl
theorem RB (f:T→S)(k:A1)(v:T):∀xs:List (A1×T),Bz f (MG k v xs)=MG k (f v) (Bz f xs)
 | []=>rfl
 | p::r=>by
  show Bz f (bif Mx k p.1 then(k,v)::p::r else p::MG k v r)=(bif Mx k p.1 then(k,f v)::(p.1,f p.2)::Bz f r else(p.1,f p.2)::MG k (f v) (Bz f r));rw[← RB f k v r]
  cases Mx k p.1<;>rfl
theorem XH (f:T→S)(xs:List (A1×T))(k:A1)(v:T):Bz f (Cj xs k v)=Cj (Bz f xs) k (f v):=by
 unfold Cj;rw[XI]
 cases CI xs k with
 | false=>exact RB f k v xs
 | true=>
  show Bz f (Ji xs k v)=Ji (Bz f xs) k (f v);unfold Bz Ji;rw[Ahv,Ahv];refine List.map_congr_left λp _=>?_;show _=(bif Ac (p.1=k) then(k,f v) else(p.1,f p.2));simp only[Function.comp]
  cases Ac (p.1=k)<;>rfl
theorem XJ (f:T→S)(xs:List (A1×T))(k:A1):Bz f (Gv xs k)=Gv (Bz f xs) k:=by
 unfold Bz Gv;rw[List.filter_map];rfl
theorem M7 (f:T→S)(xs:List (A1×T)):Ae (Bz f xs)=Ae xs:=by simp[Bz]
theorem HY (k:A1)(v:T):∀xs:List (A1×T),(MG k v xs).Perm ((k,v)::xs)
 | []=>AgM _
 | p::r=>by
  rw[MG]
  cases Mx k p.1 with
  | true=>exact AgM _
  | false=>exact((HY k v r).cons p).trans (List.Perm.swap _ _ _)
def GS (x:T):List T→List (List T)
 | []=>[[x]]
 | y::r=>(x::y::r)::(GS x r).map (y::·)
def Ki:List T→List (List T)
 | []=>[[]]
 | x::r=>(Ki r).flatMap (GS x)
theorem M8 (x:T):∀(a b:List T),a++x::b∈GS x (a++b)
 | [],[]=>by simp[GS]
 | [],y::b=>by simp[GS]
 | y::a,b=>by
  simp only[List.cons_append,GS,List.mem_cons,List.mem_map];exact .inr ⟨_,M8 x a b,rfl⟩
theorem Pa:∀(xs ys:List T),ys.Perm xs→ys∈Ki xs
 | [],ys,h=>by rw[h.eq_nil];simp[Ki]
 | x::r,ys,h=>by
  have hx:x∈ys:=h.symm.subset (List.mem_cons_self ..);obtain⟨a,b,rfl⟩:=List.append_of_mem hx;have h2:(a++b).Perm r:=(List.perm_middle.symm.trans h).cons_inv;simp only[Ki,List.mem_flatMap];exact⟨a++b,Pa r _ h2,M8 x a b⟩
def Qe {R:Type}[DecidableEq R](xs:List T)(K:List T→Option R):Option R:=match K xs with
 | none=>Ai
 | some r=>bif (Ki xs).all (λp=>Ac (K p=Ad r)) then Ad r else Ai
theorem Qd [DecidableEq R]{xs:List T}{K:List T→Option R}{r:R}(h:Qe xs K=Ad r):∀p:List T,p.Perm xs→K p=Ad r:=λp hp=>by
 unfold Qe at h
 cases hk:K xs with
 | none=>rw[hk] at h;cases h
 | some q=>
  rw[hk] at h;simp only at h
  cases ha:(Ki xs).all (λp=>Ac (K p=Ad q)) with
  | false=>rw[ha] at h;cases h
  | true=>
   rw[ha] at h;cases h;exact Ahi (List.all_eq_true.1 ha p (Pa xs p hp))
theorem HZ (x:T):∀(xs ys:List T),ys∈GS x xs→ys.Perm (x::xs)
 | [],ys,h=>by simp[GS] at h;rw[h]
 | y::r,ys,h=>by
  simp only[GS,List.mem_cons,List.mem_map] at h;rcases h with rfl | ⟨z,hz,rfl⟩
  ·exact AgM _
  ·exact((HZ x r z hz).cons y).trans (List.Perm.swap _ _ _)
theorem NG:∀(xs ys:List T),ys∈Ki xs→ys.Perm xs
 | [],ys,h=>by simp[Ki] at h;rw[h]
 | x::r,ys,h=>by
  simp only[Ki,List.mem_flatMap] at h;obtain⟨z,hz,hy⟩:=h;exact(HZ x z ys hy).trans ((NG r z hz).cons x)
theorem Ta [DecidableEq R]{xs:List T}{K:List T→Option R}{r:R}(h:∀p:List T,p.Perm xs→K p=Ad r):Qe xs K=Ad r:=by
 unfold Qe;rw[h xs (AgM _)];have:(Ki xs).all (λp=>Ac (K p=Ad r))=Af:=List.all_eq_true.2 λp hp=>AgL (h p (NG xs p hp));simp only[this];rfl
def Mc {St O:Type}(body:T→St→Option (Stp St (Out O St))):List T→St→Option (Out O St)
 | [],s=>Ad (.go s)
 | x::r,s=>match body x s with
  | none=>Ai
  | some (.next s')=>Mc body r s'
  | some (.out o)=>Ad o
def AeP {St R:Type}(body:T→St→Option (Stp St (Out R St)))(ys:List T)(K:St→Option R)(r:R):Stp St (Out R St)→Prop
 | .next s'=>∀q:List T,q.Perm ys→BN (Mc body q s') (CT K)=Ad r
 | .out o=>CT K o=Ad r
theorem Um {body:T→St→Option (Stp St (Out R St))}{ys ys':List T}{p:T}{s:St}{r:R}(h:∀q:List T,q.Perm ys→BN (Mc body q s) (CT K)=Ad r)(hp:ys.Perm (p::ys')):∃t,body p s=Ad t∧AeP body ys' K r t:=by
 have h1:∀q:List T,q.Perm ys'→BN (Mc body (p::q) s) (CT K)=Ad r:=λq hq=>h _ ((hq.cons p).trans hp.symm)
 cases hb:body p s with
 | none=>
  have:=h1 ys' (AgM _);rw[Mc,hb] at this;cases this
 | some t=>
  refine⟨t,rfl,?_⟩
  cases t with
  | next s'=>
   intro q hq;have:=h1 q hq;rw[Mc,hb] at this;exact this
  | out o=>
   have:=h1 ys' (AgM _);rw[Mc,hb] at this;exact this
theorem MV {body:T→St→Option (Stp St (Out R St))}{ys:List T}{s:St}{r:R}(h:∀q:List T,q.Perm ys→BN (Mc body q s) (CT K)=Ad r)(hy:ys=[]):K s=Ad r:=by
 subst hy;exact h [] (AgM _)
theorem Gw {body:T→St→Option (Stp St (Out R St))}{ys:List T}{s':St}{r:R}{t:Stp St (Out R St)}(h:Ad (Stp.next s')=Ad t)(ht:AeP body ys K r t):∀q:List T,q.Perm ys→BN (Mc body q s') (CT K)=Ad r:=by cases h;exact ht
theorem I0 {ys ys':List T}{p:T}(h:ys.Perm (p::ys')):Ae ys'<Ae ys:=by rw[h.length_eq];exact AgK _
end
end Go.Proofs.YtinflkgbhkcfnaaGreatDoor
namespace Go.Proofs.YtinflkgbhkcfnaaGreatDoor.Q
open Go Go.RowKit
set_option linter.unusedVariables false
set_option linter.unusedSimpArgs false
set_option linter.unusedSectionVars false
variable{ck:Nat}{H':List Ent}{es:List MapEntry}{r:Rp}{w:World}{Z:Fz}{m:List (A1×Rp)}
section
variable [I : Dfr]
theorem EY (s:ByteArray):MapKept.IsKey .string (.string s):=by simp[MapKept.IsKey]
theorem LD.keys {Z:Fz}:∀{f:List (List UInt8×Rp)} {es:List MapEntry},LD Z f es→∀x∈es,MapKept.IsKey .string x.key
 | [],[],_,x,hx=>by cases hx
 | p::f,e::es,⟨⟨h1,h2⟩,h3⟩,x,hx=>by
  rcases List.mem_cons.1 hx with rfl | hx
  ·rw[h1];exact EY _
  ·exact LD.keys h3 x hx
theorem LD.at {Z:Fz}:∀{f:List (List UInt8×Rp)} {es:List MapEntry},LD Z f es→Ae f=Ae es∧∀(j:Nat) (e:MapEntry),es[j]? =Ad e→∃k r,f[j]? =Ad (k,r)∧e.key = .string (B k)∧r.p Z e.val
 | [],[],_=>⟨rfl,λj e h=>by simp at h⟩
 | p::f,e::es,⟨⟨h1,h2⟩,h3⟩=>by
  obtain⟨hl,ha⟩:=LD.at h3;refine⟨by simp[hl],λj e' hj=>?_⟩
  cases j with
  | zero=>simp at hj;subst hj;exact⟨p.1,p.2,rfl,h1,h2⟩
  | succ j=>simp at hj;simpa using ha j e' hj
theorem LD.of {Z:Fz}:∀{f:List (List UInt8×Rp)} {es:List MapEntry},Ae f=Ae es→(∀(j:Nat) (e:MapEntry),es[j]? =Ad e→∃k r,f[j]? =Ad (k,r)∧e.key = .string (B k)∧r.p Z e.val)→LD Z f es
 | [],[],_,_=>trivial
 | p::f,e::es,hl,h=>by
  obtain⟨k,r,h1,h2,h3⟩:=h 0 e rfl;simp at h1;subst h1;exact⟨⟨h2,h3⟩,LD.of (by simpa using hl) λj e' hj=>by simpa using h (j+1) e' (by simpa using hj)⟩
 | [],_::_,hl,_=>by simp at hl
 | _::_,[],hl,_=>by simp at hl
theorem LD.snoc {Z:Fz}{k:List UInt8}{r:Rp}{e:MapEntry}(h1:e.key = .string (B k))(h2:r.p Z e.val):∀{f:List (List UInt8×Rp)} {es:List MapEntry},LD Z f es→LD Z (f++[(k,r)]) (es++[e])
 | [],[],_=>⟨⟨h1,h2⟩,trivial⟩
 | p::f,e'::es,⟨h,h3⟩=>⟨h,LD.snoc h1 h2 h3⟩
theorem Jj {T:Type}:∀{m:List (A1×T)} {k:A1} {r:T},(m.map (·.1)).Nodup→(k,r)∈m→mget m k=Ad r
 | p::m,k,r,hn,h=>by
  rw[Ahp,List.nodup_cons] at hn;rw[mget];rcases List.mem_cons.1 h with h | h
  ·subst h;rw[AgL rfl];rfl
  ·have hne : ¬ p.1=k:=λe=>hn.1 (by rw[e];exact List.mem_map.2 ⟨(k,r),h,rfl⟩);rw[AgN hne];exact Jj hn.2 h
theorem OZ {T:Type}:∀{m:List (A1×T)} {k:A1},(∀p∈m,p.1≠k)→mget m k=Ai
 | [],_,_=>rfl
 | p::m,k,h=>by
  rw[mget,AgN (h p Aj)];exact OZ λq hq=>h q (by simp[hq])
theorem AeS {a b:List UInt8}(h:B a=B b):a=b:=by
 have:=congrArg ByteArray.toList h
 rwa [J4,J4] at this
theorem ND {a b:List UInt8}(h:Value.string (B a) = .string (B b)):a=b:=AeS (by cases h;rfl)
theorem Qv {m:List (List UInt8×Rp)}(h:Gb Z m es ck)(k:List UInt8) :
  (Instr.findNow .string (.string (B k)) es 0=Ad Ai∧mget m k=Ai∧∀p∈m,p.1≠k)∨∃j e r,Instr.findNow .string (.string (B k)) es 0=Ad (Ad (j,e.val))∧es[j]? =Ad e∧e.key = .string (B k)∧mget m k=Ad r∧r.p Z e.val:=by
 obtain⟨h1,h2,h3,f,h4,h5⟩:=h;obtain⟨hl,ha⟩:=h5.at;rcases MapKept.findNow_spec (EY (B k)) es 0 h5.keys with⟨q1,q2⟩ | ⟨j,e,q1,q2,q3⟩
 ·have hne:∀p∈m,p.1≠k:=λp hp e=>by
   obtain⟨j,hj⟩:=List.mem_iff_getElem?.1 (h4.symm.subset hp);have hjl:j<Ae es:=by rw[← hl];exact(List.getElem?_eq_some_iff.1 hj).1
   obtain⟨k',r',e1,e2,_⟩:=ha j es[j] (AgJ hjl);rw[hj] at e1;cases e1;exact q2 es[j] (List.getElem_mem hjl) (by rw[e2,← e])
  exact .inl ⟨q1,OZ hne,hne⟩
 ·obtain⟨k',r,e1,e2,e3⟩:=ha j e q2;rw[q3] at e2;obtain rfl:=ND e2;exact .inr ⟨j,e,r,by simpa using q1,q2,q3,Jj h1 (h4.subset (AgS e1)),e3⟩
section
variable {P : Program} {n : Nat} {c : Cx} {ops : Array Oper} {Q : Exit → Act → World → Prop} {rest : List Oper} {l : Fr} {H : List Ent} {d : Nat} {d' : Option Nat} {ty t kt et rty : TypeId} {pos : String} {af : Array Edge} {g : Option (Nat × Bool)} {x y u : Operand} {K : Act → World → Prop} {cx : Code}
variable {T : Type} {enc : T → Rp} {xs : List (A1 × T)} {z : T} {k : A1} {zv : Value} {i b : Nat}
theorem Ov {m:List (List UInt8×Rp)}{rz:Rp}(ht:P.underlying t=Ad (.map kt et))(hk:P.underlying kt=Ad .string)(hz:∀w,(zeroValue et).run P w = .ok zv w)(hzr:rz.p Z zv)(hm:(Ent.map b m).holds Z w)(ok:Bool) :
  ∃v,((mget m k).getD rz).p Z v∧(Instr.lookup t (.map (Ad b)) (.string (B k)) ok).run P w = .ok (if ok then .tuple #[v,.bool (mget m k).isSome] else v) w:=by
 obtain⟨es,ck,h1,h2⟩:=hm;rcases Qv h2 k with⟨q1,q2,_⟩ | ⟨j,e,r,q1,_,_,q2,q3⟩
 ·exact⟨zv,by rw[q2];exact hzr,by simp[Instr.lookup,run_underlying ht,MapKept.run_getObj_map h1,MapKept.run_checkKey hk (EY _),MapKept.run_findKey hk q1,hz,q2]⟩
 ·exact⟨e.val,by rw[q2];exact q3,by simp[Instr.lookup,run_underlying ht,MapKept.run_getObj_map h1,MapKept.run_checkKey hk (EY _),MapKept.run_findKey hk q1,q2]⟩
theorem Yu (enc:T→Rp)(xs:List (A1×T))(k:A1)(z:T):(mget (Bz enc xs) k).getD (enc z)=enc (Cy xs k z):=by
 rw[Lt];unfold Cy;cases mget xs k<;>rfl
theorem Tm (enc:T→Rp)(xs:List (A1×T))(k:A1):(mget (Bz enc xs) k).isSome=CI xs k:=by
 rw[Lt];unfold CI;cases mget xs k<;>rfl
theorem I2 (ht:P.underlying t=Ad (.map kt et))(hk:P.underlying kt=Ad .string)(hz:∀w,(zeroValue et).run P w = .ok zv w)(hzr:∀Z,(enc z).p Z zv)(hx:ev l x=Ad (rv (.map (Ad b))))(hi:H[i]? =Ad (.map b (Bz enc xs)))(hy:ev l y=Ad (rS k)) :
  Ce P n c l H { dst:=d',op:=.lookup t x y Af,type:=ty,pos:=pos,after:=af,guard:=g } (DR [enc (Cy xs k z),rB (CI xs k)]):=λa w Z ha hw=>by
 obtain⟨v,h1,h2⟩:=Ov (k:=k) ht hk hz (hzr Z) (hw.ent hi) Af;rw[Yu] at h1;refine⟨.tuple #[v,.bool (CI xs k)],⟨[v,.bool (CI xs k)],rfl,h1,rfl,trivial⟩,?_⟩;rw[Tm] at h2;simp[execOp,ha.eval hx,ha.eval hy,h2]
theorem Gb.length {m:List (List UInt8×Rp)}(h:Gb Z m es ck):Ae es=Ae m:=by
 obtain⟨_,_,_,f,h4,h5⟩:=h;rw[← h5.at.1,h4.length_eq]
theorem Acx {m:List (List UInt8×Rp)}{N:Nat}(ht:P.underlying t=Ad (.map kt et))(hx:ev l x=Ad (rv (.map (Ad b))))(hi:H[i]? =Ad (.map b m))(hN:Ae m=N) :
  Ce P n c l H { dst:=d',op:=.call { callee:=.builtin .len,args:=#[x],argTypes:=#[t] },type:=ty,pos:=pos,after:=af,guard:=g } (rI .i64 N):=λa w Z ha hw=>E2<|by
 obtain⟨es,ck,h1,h2⟩:=hw.ent hi;have hl:es.size=N:=by rw[← hN,← h2.length];simp
 simp[execOp,resolve,invoke,builtin,ha.eval hx,Builtin.len_,run_underlying ht,goInt,MapKept.run_getObj_map h1,hl]
theorem OY {v:Option Nat}(ht:P.underlying t=Ad (.map kt et))(hx:ev l x=Ad (rv (.map v))):Ce P n c l H { dst:=d',op:=.binOp .neq t x (.const (.map Ai)) rty,type:=ty,pos:=pos,after:=af,guard:=g } (rB (!v.isNone)):=λa w Z ha hw=>E2<|by
 have e2:a.eval (.const (.map Ai)) = .map Ai:=rfl;have h:=run_equal_map_nil (P:=P) w t kt et v ht;simp[execOp,ha.eval hx,e2,eqGuard,binOp,h]
theorem LL (hn:Nat.blt d n=Af)(h:∀b,WL P n c ops Q rest ((d,rv (.map (Ad b)))::l) (.map b []::H)) :
  WL P n c ops Q ({ dst:=Ad d,op:=.makeMap t Ai,type:=ty,pos:=pos,after:=af,guard:=Ai }::rest) l H:=
 Kw (λa w Z ha hw=>⟨_,w.alloc (.map #[] 0),_,_,Z,by simp[execOp,run_makeMap],Fz.le.refl _,rfl,
  hw.alloc _ (e:=.map w.heap.size []) ⟨#[],0,by simpa using heap_alloc_new w _,Aj,Aj,Aj,[],AgM _,trivial⟩ rfl,h w.heap.size⟩) hn
theorem X7 {f:List (A1×Rp)}(h:f.Perm m)(k:A1)(r:Rp):(Ji f k r).Perm (Ji m k r):=h.map _
theorem Uf {T:Type}:∀{f:List (A1×T)} {j:Nat} {k:A1} {r0:T} (r:T),(f.map (·.1)).Nodup→f[j]? =Ad (k,r0)→Ji f k r=f.set j (k,r)
 | p::f,0,k,r0,r,hn,h=>by
  simp at h;subst h;rw[Ahp,List.nodup_cons] at hn;have:Ji f k r=f:=by
   unfold Ji;rw[List.map_congr_left (g:=id) (λq hq=>?_),List.map_id];have hne : ¬ q.1=k:=λe=>hn.1 (by rw[← e];exact List.mem_map.2 ⟨q,hq,rfl⟩);rw[AgN hne];rfl
  show(bif Ac (k=k) then(k,r) else(k,r0))::Ji f k r=_;rw[AgL rfl,this];rfl
 | p::f,j+1,k,r0,r,hn,h=>by
  rw[Ahp,List.nodup_cons] at hn;simp at h;have hne : ¬ p.1=k:=λe=>hn.1 (by rw[e];exact List.mem_map.2 ⟨(k,r0),AgS h,rfl⟩);show(bif Ac (p.1=k) then(k,r) else p)::Ji f k r=_;rw[AgN hne,Uf r hn.2 h];rfl
theorem Ug {T:Type}:∀{f:List (A1×T)} {j:Nat} {k:A1} {r0:T},(f.map (·.1)).Nodup→f[j]? =Ad (k,r0)→Gv f k=f.eraseIdx j
 | p::f,0,k,r0,hn,h=>by
  simp at h;subst h;rw[Ahp,List.nodup_cons] at hn;have:f.filter (λq=>!Ac (q.1=k))=f:=List.filter_eq_self.2 λq hq=>by
   have hne : ¬ q.1=k:=λe=>hn.1 (by rw[← e];exact List.mem_map.2 ⟨q,hq,rfl⟩);simp[hne]
  unfold Gv;rw[List.filter_cons_of_neg Aj,this];rfl
 | p::f,j+1,k,r0,hn,h=>by
  rw[Ahp,List.nodup_cons] at hn;simp at h;have hne : ¬ p.1=k:=λe=>hn.1 (by rw[e];exact List.mem_map.2 ⟨(k,r0),AgS h,rfl⟩);unfold Gv;rw[List.filter_cons_of_pos (by simp[hne])];show p::Gv f k=_;rw[Ug hn.2 h];rfl
theorem V8 {T:Type}(m:List (A1×T))(k:A1)(r:T):(Ji m k r).map (·.1)=m.map (·.1):=by
 unfold Ji;rw[Ahv];refine List.map_congr_left λp _=>?_;simp only[Function.comp]
 by_cases h:p.1=k
 ·rw[AgL h];exact h.symm
 ·rw[AgN h];rfl
theorem V9 {T:Type}{m:List (A1×T)}{k:A1}{r:T}(h:mget m k=Ad r):CI m k=Af:=by unfold CI;rw[h];rfl
theorem VA {T:Type}{m:List (A1×T)}{k:A1}(h:mget m k=Ai):CI m k=Ah:=by unfold CI;rw[h];rfl
theorem Gb.put {j:Nat}{e:MapEntry}{k:A1}{r0:Rp}{v:Value}(h:Gb Z m es ck)(he:es[j]? =Ad e)(hk:e.key = .string (B k))(hm:mget m k=Ad r0)(hr:r.p Z v) :
  Gb Z (Cj m k r) (es.set j { e with key:=.string (B k),val:=v }) ck:=by
 obtain⟨h1,h2,h3,f,h4,h5⟩:=h;obtain⟨hl,ha⟩:=h5.at;have hjl:=(List.getElem?_eq_some_iff.1 he).1;unfold Cj;rw[V9 hm,Ahq];obtain⟨k',r',e1,e2,_⟩:=ha j e he;rw[hk] at e2;obtain rfl:=ND e2;have hfn:(f.map (·.1)).Nodup:=(h4.map (·.1)).nodup_iff.2 h1;refine⟨by rw[V8];exact h1,?_,?_,f.set j (k,r),?_,LD.of (by simp[hl]) λi x hx=>?_⟩
 ·rw[List.map_set];have:(es.map (·.born)).set j e.born=es.map (·.born):=by
   apply List.ext_getElem?;intro i;rw[List.getElem?_set]
   split
   ·rename_i hij;subst hij
    simp[hjl,List.getElem?_eq_some_iff.1 he |>.2]
   ·rfl
  show((es.map (·.born)).set j e.born).Nodup;rw[this];exact h2
 ·intro x hx;rcases List.mem_or_eq_of_mem_set hx with hx | rfl
  ·exact h3 x hx
  ·exact h3 e (AgS he)
 ·have:=X7 h4 k r
  rwa [Uf r hfn e1] at this
 ·rw[List.getElem?_set] at hx ⊢
  split at hx
  ·rename_i hij;subst hij
   cases hx
   exact⟨k,r,by rw[Ahe rfl,Ahe (by rw[hl];exact hjl)],rfl,hr⟩
  ·rename_i hij
   rw[AgV hij];exact ha i x hx
theorem Gb.ins {k:A1}{v:Value}(h:Gb Z m es ck)(hm:mget m k=Ai)(hk:∀p∈m,p.1≠k)(hr:r.p Z v) :
  Gb Z (Cj m k r) (es++[{ key:=.string (B k),val:=v,born:=ck }]) (ck+1):=by
 obtain⟨h1,h2,h3,f,h4,h5⟩:=h;unfold Cj;rw[VA hm,Ah1];have hp:=HY k r m;refine⟨?_,?_,?_,f++[(k,r)],?_,LD.snoc rfl hr h5⟩
 ·rw[(hp.map (·.1)).nodup_iff,Ahp,List.nodup_cons];exact⟨λhx=>by obtain⟨p,hp,e⟩:=List.mem_map.1 hx;exact hk p hp e,h1⟩
 ·rw[Ahk,List.nodup_append];refine⟨h2,Aj,λa ha b hb e=>?_⟩;simp at hb;subst hb;obtain⟨x,hx,e'⟩:=List.mem_map.1 ha;have:=h3 x hx;omega
 ·intro x hx;rcases List.mem_append.1 hx with hx | hx
  ·have:=h3 x hx;omega
  ·simp at hx;subst hx;exact AgK _
 ·exact(List.perm_append_comm (l₁:=f) (l₂:=[(k,r)])).trans ((h4.cons (k,r)).trans hp.symm)
theorem Gb.del {j:Nat}{e:MapEntry}{k:A1}(h:Gb Z m es ck)(he:es[j]? =Ad e)(hk:e.key = .string (B k)):Gb Z (Gv m k) (es.eraseIdx j) ck:=by
 obtain⟨h1,h2,h3,f,h4,h5⟩:=h;obtain⟨hl,ha⟩:=h5.at;obtain⟨k',r',e1,e2,_⟩:=ha j e he;rw[hk] at e2;obtain rfl:=ND e2;have hfn:(f.map (·.1)).Nodup:=(h4.map (·.1)).nodup_iff.2 h1;have hs:=List.eraseIdx_sublist es j;refine⟨h1.sublist ((List.filter_sublist ..).map _),h2.sublist (hs.map _),λx hx=>h3 x (hs.subset hx),f.eraseIdx j,?_,LD.of (by rw[List.length_eraseIdx,List.length_eraseIdx,hl]) λi x hx=>?_⟩
 ·rw[← Ug hfn e1];exact h4.filter _
 ·rw[List.getElem?_eraseIdx] at hx ⊢
  split at hx
  ·rename_i hij;rw[Ahe hij];exact ha i x hx
  ·rename_i hij;rw[AgV hij];exact ha (i+1) x hx
theorem VD {k:A1}(hk:∀p∈m,p.1≠k):Gv m k=m:=List.filter_eq_self.2 λp hp=>by simp[hk p hp]
theorem St.mapset (h:St c H Z w){m':List (A1×Rp)}(hi:H[i]? =Ad (.map b m)){es es':Array MapEntry}{ck':Nat}(h1:w.heap[b]? =Ad (.map es ck))(h2:Gb Z m' es'.toList ck') :
  St c (H.set i (.map b m')) Z { w with heap:=w.heap.setIfInBounds b (.map es' ck') }:=by
 obtain⟨q1,q2⟩:=MapKept.heap_set (o':=.map es' ck') h1;exact h.set hi rfl rfl rfl Aj (λk _ hk=>q2 k (by simpa[Ent.foot] using hk)) ⟨es',ck',q1,h2⟩ (by simp[Ent.foot])
theorem PX (s:ByteArray):Instr.sameBits 10000 (.string s) (.string s)=Af:=by
 show(s ==s)=Af;exact(MapKept.bytes_beq s s).2 rfl |> λh=>by simpa using h
theorem AbY (ht:P.underlying t=Ad (.map kt et))(hk:P.underlying kt=Ad .string)(hx:ev l x=Ad (rv (.map (Ad b))))(hi:H[i]? =Ad (.map b m))(hy:ev l y=Ad (rS k))(hu:ev l u=Ad r)(hH:H.set i (.map b (Cj m k r))=H')(h:WL P n c ops Q rest l H') :
  WL P n c ops Q ({ dst:=Ai,op:=.mapUpdate t x y u,type:=ty,pos:=pos,after:=af,guard:=Ai }::rest) l H:=
 WT λa w Z ha hw=>by
  obtain⟨es,ck,h1,h2⟩:=hw.ent hi;have hv:=ha.ev hu;subst hH;rcases Qv h2 k with⟨q1,q2,q3⟩ | ⟨j,e,r0,q1,q2,q3,q4,_⟩
  ·refine⟨_,_,?_,hw.mapset hi h1 (es':=es.push { key:=.string (B k),val:=a.eval u,born:=ck }) (by simpa using h2.ins q2 q3 hv),h⟩;simp[execOp,ha.eval hx,ha.eval hy,Instr.mapUpdate,run_underlying ht,MapKept.run_getObj_map h1,MapKept.run_checkKey hk (EY _),MapKept.run_findKey hk q1,MapKept.run_setObj_map _ h1]
  ·have hje:es[j]? =Ad e:=by simpa using q2
   refine⟨_,_,?_,hw.mapset hi h1 (es':=es.modify j λe=>{ e with key:=.string (B k),val:=a.eval u }) (ck':=ck) (by
    have:=h2.put q2 q3 q4 hv;have e1:(es.modify j λe=>{ e with key:=.string (B k),val:=a.eval u }).toList=es.toList.set j { e with key:=.string (B k),val:=a.eval u }:=by
     rw[Array.toList_modify];rw[List.modify_eq_set,q2];rfl
    rw[e1];exact this),h⟩
   have hkey:((es[j]?).map (·.key)).getD (.string (B k)) = .string (B k):=by rw[hje];exact q3
   simp[execOp,ha.eval hx,ha.eval hy,Instr.mapUpdate,run_underlying ht,MapKept.run_getObj_map h1,MapKept.run_checkKey hk (EY _),MapKept.run_findKey hk q1,MapKept.run_setObj_map _ h1,hkey,Instr.keyThatStays,PX]
theorem Adx {op:Op}{ty:TypeId}{pos:String}{af:Array Edge}
  (hr:∀a w Z,DS n l a Z→St c H Z w→∃v w' H',(execOp a.eval { dst:=Ai,op:=op,type:=ty,pos:=pos,after:=af,guard:=Ai }).run P w = .ok (.value v) w'∧St c H' Z w'∧WL P n c ops Q rest l H') :
  WL P n c ops Q ({ dst:=Ai,op:=op,type:=ty,pos:=pos,after:=af,guard:=Ai }::rest) l H:=λa w Z ha hw=>
 wpList_plain rfl λK hK=>by
  obtain⟨v,w',H',h1,h2,h3⟩:=hr a w Z ha hw;unfold Oper.wp;rw[h1];exact hK _ _ (h3 _ w' Z (ha.put_none _) h2)
theorem AbZ (ht:P.underlying t=Ad (.map kt et))(hk:P.underlying kt=Ad .string){kt':TypeId}(hx:ev l x=Ad (rv (.map (Ad b))))(hi:H[i]? =Ad (.map b m))(hy:ev l y=Ad (rS k))(hH:H.set i (.map b (Gv m k))=H')(h:WL P n c ops Q rest l H') :
  WL P n c ops Q ({ dst:=Ai,op:=.call { callee:=.builtin .delete,args:=#[x,y],argTypes:=#[t,kt'] },type:=ty,pos:=pos,after:=af,guard:=Ai }::rest) l H:=
 Adx (λa w Z ha hw=>by
  obtain⟨es,ck,h1,h2⟩:=hw.ent hi;subst hH;rcases Qv h2 k with⟨q1,q2,q3⟩ | ⟨j,e,r0,q1,q2,q3,q4,_⟩
  ·refine⟨.tuple #[],_,_,?_,hw.mapset hi h1 (es':=es) (ck':=ck) (by rw[VD q3];exact h2),h⟩;simp[execOp,resolve,invoke,builtin,ha.eval hx,ha.eval hy,Builtin.delete_,run_underlying ht,MapKept.run_getObj_map h1,MapKept.run_checkKey hk (EY _),MapKept.run_findKey hk q1,MapKept.run_setObj_map _ h1]
  ·refine⟨.tuple #[],_,_,?_,hw.mapset hi h1 (es':=es.eraseIdxIfInBounds j) (ck':=ck) (by
    have e1:(es.eraseIdxIfInBounds j).toList=es.toList.eraseIdx j:=Aj
    rw[e1];exact h2.del q2 q3),h⟩
   simp[execOp,resolve,invoke,builtin,ha.eval hx,ha.eval hy,Builtin.delete_,run_underlying ht,MapKept.run_getObj_map h1,MapKept.run_checkKey hk (EY _),MapKept.run_findKey hk q1,MapKept.run_setObj_map _ h1])
theorem Ln {v:T}(ht:P.underlying t=Ad (.map kt et))(hk:P.underlying kt=Ad .string)(hx:ev l x=Ad (rv (.map (Ad b))))(hi:H[i]? =Ad (.map b (Bz enc xs)))(hy:ev l y=Ad (rS k))(hu:ev l u=Ad (enc v))(hH:H.set i (.map b (Bz enc (Cj xs k v)))=H')(h:WL P n c ops Q rest l H') :
  WL P n c ops Q ({ dst:=Ai,op:=.mapUpdate t x y u,type:=ty,pos:=pos,after:=af,guard:=Ai }::rest) l H:=AbY ht hk hx hi hy hu (by rw[← XH];exact hH) h
theorem PK (ht:P.underlying t=Ad (.map kt et))(hk:P.underlying kt=Ad .string){kt':TypeId}(hx:ev l x=Ad (rv (.map (Ad b))))(hi:H[i]? =Ad (.map b (Bz enc xs)))(hy:ev l y=Ad (rS k))(hH:H.set i (.map b (Bz enc (Gv xs k)))=H')(h:WL P n c ops Q rest l H') :
  WL P n c ops Q ({ dst:=Ai,op:=.call { callee:=.builtin .delete,args:=#[x,y],argTypes:=#[t,kt'] },type:=ty,pos:=pos,after:=af,guard:=Ai }::rest) l H:=AbZ ht hk hx hi hy (by rw[← XJ];exact hH) h
end
end
section
variable [I : Dfr]
theorem L4 {q:MapEntry→Bool}:∀{l:List MapEntry} {j:Nat} {e:MapEntry},(l.map (·.born)).Nodup→l[j]? =Ad e→l.filter (λx=>!(x.born ==e.born))=l.eraseIdx j
 | x::l,0,e,hn,h=>by
  simp at h;subst h;rw[Ahp,List.nodup_cons] at hn;rw[List.filter_cons_of_neg Aj,List.filter_eq_self.2 λy hy=>?_];rfl;have:y.born≠x.born:=λe=>hn.1 (by rw[← e];exact List.mem_map.2 ⟨y,hy,rfl⟩);simp[this]
 | x::l,j+1,e,hn,h=>by
  rw[Ahp,List.nodup_cons] at hn;simp at h;have hne:x.born≠e.born:=λe'=>hn.1 (by rw[e'];exact List.mem_map.2 ⟨e,AgS h,rfl⟩);rw[List.filter_cons_of_pos (by simp[hne]),L4 (q:=q) hn.2 h];rfl
theorem LD.erase {Z:Fz}:∀{f:List (List UInt8×Rp)} {es:List MapEntry} (j:Nat),LD Z f es→LD Z (f.eraseIdx j) (es.eraseIdx j)
 | [],[],j,_=>by simp[LD]
 | p::f,e::es,0,⟨_,h⟩=>h
 | p::f,e::es,j+1,⟨h,h3⟩=>⟨h,LD.erase j h3⟩
theorem TZ {α:Type}:∀{l:List α} {j:Nat} {a:α},l[j]? =Ad a→l.Perm (a::l.eraseIdx j)
 | x::l,0,a,h=>by simp at h;subst h;exact AgM _
 | x::l,j+1,a,h=>by
  simp at h;exact((TZ h).cons x).trans (List.Perm.swap a x _)
theorem X8 {T:Type}{enc:T→Rp}{ys:List (A1×T)}{f:List (A1×Rp)}{j:Nat}{k:A1}(h:f.Perm (Bz enc ys))(hj:f[j]? =Ad (k,r)):∃ (p:A1×T) (ys':List (A1×T)),ys.Perm (p::ys')∧p.1=k∧enc p.2=r∧(f.eraseIdx j).Perm (Bz enc ys'):=by
 have hm:(k,r)∈Bz enc ys:=h.subset (AgS hj);obtain⟨p,hp,e⟩:=List.mem_map.1 hm;simp only[Prod.mk.injEq] at e;obtain⟨a,b,rfl⟩:=List.append_of_mem hp;refine⟨p,a++b,List.perm_middle,e.1,e.2,?_⟩;have h1:f.Perm ((k,r)::f.eraseIdx j):=by
  exact TZ hj
 have h2:(Bz enc (a++p::b)).Perm ((k,r)::Bz enc (a++b)):=by
  have:(Bz enc (a++p::b)).Perm (Bz enc (p::(a++b))):=List.perm_middle.map _;refine this.trans ?_;show((p.1,enc p.2)::Bz enc (a++b)).Perm _;rw[e.1,e.2]
 exact((h1.symm.trans h).trans h2).cons_inv
section
variable {P : Program} {n : Nat} {c : Cx} {ops : Array Oper} {Q : Exit → Act → World → Prop} {rest : List Oper} {l : Fr} {H : List Ent} {d : Nat} {ty t kt et rty : TypeId} {pos : String} {af : Array Edge} {x y u : Operand} {K : Act → World → Prop} {cx : Code}
variable {T : Type} {enc : T → Rp} {xs ys : List (A1 × T)} {i b it : Nat} {m lf : List (List UInt8 × Rp)} {cur : Option (List UInt8 × Rp)} {k : A1} {r : Rp}
theorem MN (ht:P.underlying t=Ad (.map kt et))(hx:ev l x=Ad (rv (.map (Ad b))))(hi:H[i]? =Ad (.map b m))(hn:Nat.blt d n=Af)(h:∀it,WL P n c ops Q rest ((d,rv (.pointer (Ad ⟨it,0,Ai⟩)))::l) (H.set i (.mit b it m m Ai))) :
  WL P n c ops Q ({ dst:=Ad d,op:=.range t x,type:=ty,pos:=pos,after:=af,guard:=Ai }::rest) l H:=
 Kw (λa w Z ha hw=>by
  obtain⟨es,ck,h1,h2⟩:=hw.ent hi;have hb:b<w.heap.size:=(Array.getElem?_eq_some_iff.1 h1).1;have hf:es.toList.filter (λe=>!(#[]:Array Nat).contains e.born)=es.toList:=List.filter_eq_self.2 λ_ _=>by simp
  obtain⟨f,h4,h5⟩:=h2.2.2.2;refine⟨.pointer (Ad ⟨w.heap.size,0,Ai⟩),w.alloc (.mapIter (Ad b) ck #[] ck),_,_,Z,?_,Fz.le.refl _,rfl,hw.set hi rfl rfl rfl Aj (λk hk _=>Below.heap_alloc w _ k hk) ?_ ?_,h w.heap.size⟩
  ·simp[execOp,ha.eval hx,run_range_map w t kt et b es ck ht h1]
  ·exact⟨es,ck,#[],ck,ck,(Below.heap_alloc w _ b hb).trans h1,by simpa using heap_alloc_new w _,h2,h2.2.2.1,AgU _,AgU _,Nat.ne_of_lt hb,⟨f,h4,by rw[hf];exact h5⟩,trivial⟩
  ·intro k hk;simp only[Ent.foot,List.mem_cons,List.not_mem_nil,or_false] at hk;rcases hk with rfl | rfl
   ·exact .inl (by simp[Ent.foot])
   ·exact .inr (AgU _)) hn
theorem PI (hx:ev l x=Ad (rv (.pointer (Ad ⟨it,0,Ai⟩))))(hi:H[i]? =Ad (.mit b it m (Bz enc ys) cur))(hn:Nat.blt d n=Af)
  (h0:ys=[]→WL P n c ops Q rest ((d,DR [rB Ah])::l) H)
  (h1:∀p ys',ys.Perm (p::ys')→WL P n c ops Q rest ((d,DR [rB Af,rS p.1,enc p.2])::l) (H.set i (.mit b it m (Bz enc ys') (Ad (p.1,enc p.2))))) :
  WL P n c ops Q ({ dst:=Ad d,op:=.next x Ah,type:=ty,pos:=pos,after:=af,guard:=Ai }::rest) l H:=
 Kw (λa w Z ha hw=>by
  obtain⟨es,ck,seen,since,c0,q1,q2,q3,q4,q5,q6,q7,⟨f,q8,q9⟩,_⟩:=hw.ent hi;have hlf:(leftOf es seen).toList=es.toList.filter λe=>!seen.contains e.born:=by simp[leftOf]
  rcases run_next_at (P:=P) w ty it b since c0 seen es ck q2 q1 q4 q5 with⟨r1,r2⟩ | ⟨e,r1,w1,r2,r3⟩
  ·have he:es.toList.filter (λe=>!seen.contains e.born)=[]:=by rw[← hlf];exact Ahg (by simpa using r1)
   rw[he] at q9;have hf:f=[]:=by cases f with
    | nil=>rfl
    | cons _ _=>exact absurd q9 id
   subst hf;have hy:ys=[]:=by
    have:=q8.length_eq;rw[M7] at this;exact Ahg this.symm
   exact⟨.tuple #[.bool Ah],w,DR [rB Ah],H,Z,by simp[execOp,ha.eval hx,r2],Fz.le.refl _,⟨[.bool Ah],rfl,rfl,trivial⟩,hw,h0 hy⟩
  ·rw[hlf] at r1;obtain⟨j,hj⟩:=List.mem_iff_getElem?.1 r1;obtain⟨k,r,e1,e2,e3⟩:=q9.at.2 j e hj;obtain⟨p,ys',s1,s2,s3,s4⟩:=X8 q8 e1;have hnl:((es.toList.filter λe=>!seen.contains e.born).map (·.born)).Nodup:=q3.2.1.sublist ((List.filter_sublist ..).map _);have hleft:es.toList.filter (λx=>!(seen.push e.born).contains x.born)=(es.toList.filter λe=>!seen.contains e.born).eraseIdx j:=by
    rw[← L4 (q:=λ_=>Af) hnl hj,List.filter_filter];refine List.filter_congr λx _=>?_;simp only[Array.contains_push,Bool.not_or];rw[Bool.and_comm]
   have hd:St c H Z w1:=by
    rcases r2 with rfl | rfl
    ·exact hw
    ·exact hw.drawn _
   have q2':w1.heap[it]? =Ad (.mapIter (Ad b) since seen c0):=by rcases r2 with rfl | rfl<;>exact q2
   have q1':w1.heap[b]? =Ad (.map es ck):=by rcases r2 with rfl | rfl<;>exact q1
   obtain⟨t1,t2⟩:=MapKept.heap_set (o':=.mapIter (Ad b) since (seen.push e.born) ck) q2';refine⟨.tuple #[.bool Af,e.key,e.val],ChangeMaps.setBlock w1 it (.mapIter (Ad b) since (seen.push e.born) ck),DR [rB Af,rS p.1,enc p.2],H.set i (.mit b it m (Bz enc ys') (Ad (p.1,enc p.2))),Z,by simp[execOp,ha.eval hx,r3],Fz.le.refl _,⟨[.bool Af,e.key,e.val],rfl,rfl,?_,?_,trivial⟩,hd.set hi rfl rfl rfl (by simp[ChangeMaps.setBlock]) (λk' _ hk'=>t2 k' (λe'=>hk' (by simp[Ent.foot,e']))) ?_ (λk' hk'=>.inl (by simpa[Ent.foot] using hk')),h1 p ys' s1⟩
   ·show e.key = .string (B p.1);rw[s2];exact e2
   ·rw[s3];exact e3
   ·exact⟨es,ck,seen.push e.born,since,ck,(t2 b q7).trans q1',t1,q3,q4,Nat.le_trans q5 q6,AgU _,q7,⟨f.eraseIdx j,s4,by rw[hleft];exact q9.erase j⟩,rfl,seen,e,rfl,(List.mem_filter.1 r1).1,by rw[s2];exact e2,by rw[s3];exact e3⟩) hn
theorem St.unmit (h:St c H Z w)(hi:H[i]? =Ad (.mit b it m lf cur)):St c (H.set i (.map b m)) Z w:=by
 obtain⟨es,ck,seen,since,c0,q1,q2,q3,_⟩:=h.ent hi;exact h.set hi rfl rfl rfl (AgU _) (λ_ _ _=>rfl) ⟨es,ck,q1,q3⟩ (by simp[Ent.foot])
theorem WK.unmit (hi:H[i]? =Ad (.mit b it m lf cur))(h:WK n c K l (H.set i (.map b m))):WK n c K l H:=λa w Z ha hw=>h a w Z ha (hw.unmit hi)
theorem WC.unmit (hi:H[i]? =Ad (.mit b it m lf cur))(h:WC P n c cx Q l (H.set i (.map b m))):WC P n c cx Q l H:=λa w Z ha hw=>h a w Z ha (hw.unmit hi)
theorem WL.unmit (hi:H[i]? =Ad (.mit b it m lf cur))(h:WL P n c ops Q rest l (H.set i (.map b m))):WL P n c ops Q rest l H:=λa w Z ha hw=>h a w Z ha (hw.unmit hi)
theorem St.uncur (h:St c H Z w)(hi:H[i]? =Ad (.mit b it m lf cur)):St c (H.set i (.mit b it m lf Ai)) Z w:=by
 obtain⟨es,ck,seen,since,c0,q1,q2,q3,q4,q5,q6,q7,q8,_⟩:=h.ent hi;exact h.set hi rfl rfl rfl (AgU _) (λ_ _ _=>rfl) ⟨es,ck,seen,since,c0,q1,q2,q3,q4,q5,q6,q7,q8,trivial⟩ (λk hk=>.inl (by simpa[Ent.foot] using hk))
theorem WK.uncur (hi:H[i]? =Ad (.mit b it m lf cur))(h:WK n c K l (H.set i (.mit b it m lf Ai))):WK n c K l H:=λa w Z ha hw=>h a w Z ha (hw.uncur hi)
theorem MU {dd:Option Nat}{g:Option (Nat×Bool)}(hx:ev l x=Ad (rv (.pointer (Ad ⟨it,0,Ai⟩))))(hi:H[i]? =Ad (.mit b it m lf (Ad (k,r)))) :
  Ce P n c l H { dst:=dd,op:=.entry x,type:=ty,pos:=pos,after:=af,guard:=g } (DR [rS k,r]):=λa w Z ha hw=>by
 obtain⟨es,ck,seen,since,c0,q1,q2,q3,q4,q5,q6,q7,q8,rfl,s0,e,rfl,h1,h2,h3⟩:=hw.ent hi;exact⟨.tuple #[e.key,e.val],⟨[e.key,e.val],rfl,h2,h3,trivial⟩,by simp[execOp,ha.eval hx,run_entry_at w it b since s0 es c0 e q2 q1 h1 q3.2.1]⟩
end
end
variable{rs:List Rp}{Hin:List Ent}{α:Type}{ys:List α}{ats:Array TypeId}{enc:α→List Rp}{args:List Operand}{Hr:List Ent}
section
variable [I : Dfr]
section
variable {P : Program} {n : Nat} {c : Cx} {opsA : Array Oper} {Q : Exit → Act → World → Prop} {l : Fr} {H : List Ent} {d : Nat} {ty : TypeId} {pos : String} {af : Array Edge}
theorem XC {f:FuncId}{Hout:List Ent}(hcall:∀(as1:Array Value) (w:World),(callFunc f as1).run P w = .ok (.enter f as1) w)(hv:JV l args=Ad rs)
  (hp:H.Perm (Hin++Hr)) (hc:Fn P c.E f rs Hin (λr' H'=>r'=r∧H'=Hout)) {H':List Ent} (hH:Hout++Hr=H'):Ec P n c opsA Q l H { dst:=Ad d,op:=.call { callee:=.value (.func f),args:=args.toArray,argTypes:=ats },type:=ty,pos:=pos,after:=af,guard:=Ai } r H':=λa w Z K ha hw hK=>
 ⟨λ_=>by
  subst hH;unfold Oper.wp;rw[EC rfl hcall w];refine(hc w Z _ (E8 ha hv) (hw.perm hp).enter).mono ?_;rintro e w' ⟨r2,v,Ho,Z',rfl,⟨rfl,rfl⟩,hr2,hs⟩;exact hK v w' Z' hs.le hr2 ((hw.perm hp).call hs),λh=>by simp[Region.wanted] at h⟩
theorem R4 {f:FuncId}(hcall:∀(as1:Array Value) (w:World),(callFunc f as1).run P w = .ok (.enter f as1) w)(hv:JV l args=Ad rs)
  (hp:H.Perm (Hin++Hr)) (hc:Fn P c.E f rs Hin (λr' H'=>r'=r∧H'=Hin)):Ec P n c opsA Q l H { dst:=Ad d,op:=.call { callee:=.value (.func f),args:=args.toArray,argTypes:=ats },type:=ty,pos:=pos,after:=af,guard:=Ai } r H:=λa w Z K ha hw hK=>
 XC (Hout:=Hin) hcall hv hp hc rfl a w Z K ha hw (λv w' Z' hz hr hs=>hK v w' Z' hz hr (hs.perm hp.symm))
theorem JL {f:FuncId}{E:List Ent}(hcall:∀(as1:Array Value) (w:World),(callFunc f as1).run P w = .ok (.enter f as1) w)(hv:JV l args=Ad rs)
  (hp:H.Perm (Hin++Hr)) (hc:Fn P c.E f rs Hin (λr' H'=>r'=r∧H'=Hin)):Ec P n c opsA Q l (H++E) { dst:=Ad d,op:=.call { callee:=.value (.func f),args:=args.toArray,argTypes:=ats },type:=ty,pos:=pos,after:=af,guard:=Ai } r (H++E):=
 R4 (Hin:=Hin) (Hr:=Hr++E) hcall hv (by rw[← Ahf];exact hp.append_right E) hc
end
section
variable {P : Program} {n : Nat} {c : Cx} {ops : Array Oper} {Q : Exit → Act → World → Prop} {rest : List Oper} {l : Fr} {H H' : List Ent} {d : Nat} {d' : Option Nat} {x y z3 : Operand} {ty t t' e : TypeId} {pos : String} {af : Array Edge} {g : Option (Nat × Bool)} {v u : Value} {r : Rp} {sz : Nat}
theorem SV {k':IntKind}{j:Int}(ht:P.underlying t=Ad (.slice e))(hz:∀w,(sizeOf e).run P w = .ok sz w)(h:ev l x=Ad (BB sz (ys.map enc)))(hj:ev l z3=Ad (rI k' j))(hg2:NQ j (Ae ys:Int)=Af) :
  Ce P n c l H { dst:=d',op:=.slice t x Ai (Ad z3) Ai,type:=ty,pos:=pos,after:=af,guard:=g } (BB sz ((ys.take j.toNat).map enc)):=λa w Z ha hw=>by
 obtain⟨A,cap,e1,hc1,hc2,hA,hc⟩:=ha.ev h;have h2:=(G7 hg2).2;have hj0:0≤j:=(G7 hg2).1;simp only[AgP] at e1 hc1;have h3:j≤(cap:Int):=Ab
 refine⟨.slice (if cap=0 then A else A.map (·.add (0*sz))) j.toNat cap,⟨if cap=0 then A else A.map (·.add (0*sz)),cap,?_,?_,Ab,?_,λq cl hq=>?_⟩,by simp[execOp,e1,ha.eval hj,Instr.sliceAt,Instr.slice,run_underlying ht,Instr.sliceBounds,Dy (m:=cap) _ _ hj0 h3,hz]⟩
 ·congr 1
  simp;omega
 ·simp;omega
 ·intro hn
  split at hn
  ·have:=hA hn;omega
  ·have:=hA (by simpa using hn);omega
 ·rw[AgT] at hq
  cases hq':(Aq j.toNat ys)[q]? with
  | none=>rw[hq'] at hq;cases hq
  | some yy=>
   rw[hq'] at hq;simp only[Option.map_some,Option.some.injEq] at hq;subst hq;rw[Ahd] at hq'
   split at hq'
   ·rename_i hlt
    obtain⟨hl,ad,rfl,hs,hcs⟩:=hc q (enc yy) (by simp[hq']);obtain⟨b,off,spot⟩:=ad;simp only at hs;subst hs;have hne : ¬ cap=0:=Ab
    refine⟨hl,⟨b,off+0*sz,Ai⟩,by simp[hne,J3],rfl,λq' r' hr'=>?_⟩;obtain⟨u,hu,hp⟩:=hcs q' r' hr';refine⟨u,?_,hp⟩;have:off+0*sz+(q*sz+q')=off+(q*sz+q'):=Ab
    simp only;rw[this];exact hu
   ·cases hq'
end
end
variable{us:List Value}
section
variable [I : Dfr]
theorem B8.d2 {r0 r1:Rp}(h:B8 Z [r0,r1] us):∃y0 y1,us=[y0,y1]∧B8 Z [r0,r1] [y0,y1]:=by
 match us,h.length with
 | [y0,y1],_=>exact⟨_,_,rfl,h⟩
theorem B8.d7 {r0 r1 r2 r3 r4 r5 r6:Rp}(h:B8 Z [r0,r1,r2,r3,r4,r5,r6] us):∃y0 y1 y2 y3 y4 y5 y6,us=[y0,y1,y2,y3,y4,y5,y6]∧B8 Z [r0,r1,r2,r3,r4,r5,r6] [y0,y1,y2,y3,y4,y5,y6]:=by
 match us,h.length with
 | [y0,y1,y2,y3,y4,y5,y6],_=>exact⟨_,_,_,_,_,_,_,rfl,h⟩
theorem B8.d9 {r0 r1 r2 r3 r4 r5 r6 r7 r8:Rp}(h:B8 Z [r0,r1,r2,r3,r4,r5,r6,r7,r8] us):∃y0 y1 y2 y3 y4 y5 y6 y7 y8,us=[y0,y1,y2,y3,y4,y5,y6,y7,y8]∧B8 Z [r0,r1,r2,r3,r4,r5,r6,r7,r8] [y0,y1,y2,y3,y4,y5,y6,y7,y8]:=by
 match us,h.length with
 | [y0,y1,y2,y3,y4,y5,y6,y7,y8],_=>exact⟨_,_,_,_,_,_,_,_,_,rfl,h⟩
theorem RR {α:Type}{sz:Nat}:∀{xs:List (List α)} (hs:∀c∈xs,Ae c=sz) {k:Nat} {cl:List α},xs[k]? =Ad cl→∀(off m:Nat),off+m≤sz→((xs.flatten).drop (k*sz+off)).take m=(cl.drop off).take m
 | [],_,k,cl,h,_,_,_=>by simp at h
 | x::r,hs,0,cl,h,off,m,hm=>by
  simp at h;subst h;have hx:=hs x Aj;simp only[List.flatten_cons,Nat.zero_mul,Aha];rw[List.drop_append_of_le_length Ab,List.take_append_of_le_length Am]
 | x::r,hs,k+1,cl,h,off,m,hm=>by
  have hx:=hs x Aj;simp only[List.flatten_cons];have e:(k+1)*sz+off=Ae x+(k*sz+off):=by rw[hx,Nat.succ_mul];omega
  rw[e,List.drop_length_add_append];exact RR (λc hc=>hs c (by simp[hc])) (by simpa using h) off m hm
section
variable {P : Program} {n : Nat} {c : Cx} {ops : Array Oper} {Q : Exit → Act → World → Prop} {rest : List Oper} {l : Fr} {H H' : List Ent} {d : Nat} {d' : Option Nat} {ty t e rty : TypeId} {pos : String} {af : Array Edge} {g : Option (Nat × Bool)} {x y u : Operand} {v : Value} {sz m : Nat}
theorem Qc [Inhabited α]{i off:Nat}{j:Int}(hag:∀w,(isAgg t).run P w = .ok Af w)(hsz:∀w,(sizeOf t).run P w = .ok m w)(hx:ev l x=Ad (rv (Gr sz v j.toNat off)))(hi:H[i]? =Ad (.row v e sz (ys.map enc)))(hg:CR j (Ae ys:Int)=Af)
  (hle:Nat.ble (off+m) sz=Af) (hr:((enc (Ax ys j)).drop off).take m=rs) :
  Ce P n c l H { dst:=d',op:=.load t x,type:=ty,pos:=pos,after:=af,guard:=g } (BT rs):=λa w Z ha hw=>by
 obtain⟨hs,us,⟨h1,h2⟩,h3⟩:=hw.ent hi;have h0:=(C7 hg).1;have hlt:j.toNat<Ae ys:=by have:=(C7 hg).2;omega
 have eat:Ax ys j=ys[j.toNat]:=by simp[Ax,hlt]
 have hle':off+m≤sz:=by simpa using hle
 have hcl:(ys.map enc)[j.toNat]? =Ad (enc ys[j.toNat]):=by simp[hlt]
 have hcz:Ae (enc ys[j.toNat])=sz:=hs _ (AgS hcl);have hseg:=RR hs hcl off m hle';rw[← eat,hr] at hseg;have h4:=(h3.drop (j.toNat*sz+off)).take m;rw[hseg] at h4;have hrl:Ae rs=m:=by rw[← hr,eat];simp;omega
 rcases h2 with⟨rfl,hz⟩ | ⟨b,cap,cur,rfl,_,hg',hcap,hm,hcs,htk⟩
 ·simp at hz;subst hz;simp at hlt
 ·have h5:=run_loadCells_list (P:=P) w ⟨b,j.toNat*sz+off,Ai⟩ ((us.drop (j.toNat*sz+off)).take m) (λq w' hq=>by
   rw[J3,cell_of_row w b _ cur e (0,0) hg'];rw[Ahd] at hq
   split at hq
   ·rw[List.getElem?_drop,← htk,Ahd] at hq
    split at hq
    ·simpa using hq
    ·cases hq
   ·cases hq)
  rw[h4.length,hrl] at h5;exact⟨.agg ((us.drop (j.toNat*sz+off)).take m).toArray,⟨_,rfl,h4⟩,by simp[execOp,ha.eval hx,Gr,Instr.loadAt,Instr.sureAddr,loadVar,hag,hsz,h5]⟩
def Xu (sz:Nat)(v:Value)(j:Nat):Value:=match v with
 | .slice A len cap=>.slice (if cap=j then A else A.map (·.add (j*sz))) (len-j) (cap-j)
 | v=>v
theorem Acu {i:Nat}{k:IntKind}{j:Int}(ht:P.underlying t=Ad (.slice e))(hz:∀w,(sizeOf e).run P w = .ok sz w)(hx:ev l x=Ad (rv v))(hy:ev l y=Ad (rI k j))(hi:H[i]? =Ad (.row v e sz (ys.map enc)))(hg:NQ j (Ae ys:Int)=Af) :
  Ce P n c l H { dst:=d',op:=.slice t x (Ad y) Ai Ai,type:=ty,pos:=pos,after:=af,guard:=g } (rv (Xu sz v j.toNat)):=λa w Z ha hw=>E2<|by
 obtain⟨h0,us,⟨h1,h2⟩,h3⟩:=hw.ent hi;have g0:=(G7 hg).1;have g1:=(G7 hg).2;rcases h2 with⟨rfl,hz0⟩ | ⟨b,cap,cur,rfl,_,hb,hcap,hm,hcs,htk⟩
 ·simp at hz0;subst hz0;obtain rfl:j=0:=by simp at g1;omega
  simp[execOp,ha.eval hx,ha.eval hy,Instr.sliceAt,Instr.slice,run_underlying ht,Instr.sliceBounds,Dy (m:=0) _ _ (Ahs 0) (Ahs 0),hz,Xu]
 ·simp only[AgP] at h1 hcap htk;simp[execOp,ha.eval hx,ha.eval hy,Instr.sliceAt,Instr.slice,run_underlying ht,Instr.sliceBounds,Dy (m:=Ae ys) _ _ g0 g1,hz,Xu]
end
end
end Go.Proofs.YtinflkgbhkcfnaaGreatDoor.Q
namespace Go.Proofs.YtinflkgbhkcfnaaGreatDoor
open Go
end Go.Proofs.YtinflkgbhkcfnaaGreatDoor
namespace Go.Proofs.YtinflkgbhkcfnaaGreatDoor.Q
open Go Go.RowKit
set_option linter.unusedVariables false
set_option linter.unusedSimpArgs false
set_option linter.unusedSectionVars false
variable{rs:List Rp}{α:Type}{enc:α→List Rp}{i:Nat}
section
variable [I : Dfr]
section
variable {P : Program} {n : Nat} {c : Cx} {Q : Exit → Act → World → Prop} {l : Fr} {H : List Ent} {x rest' : Code} {K : Act → World → Prop}
end
section
variable {P : Program} {n : Nat} {c : Cx} {ops : Array Oper} {Q : Exit → Act → World → Prop} {rest : List Oper} {l : Fr} {H H' : List Ent} {d : Nat} {d' : Option Nat} {x y z3 z4 : Operand} {ty t t' e : TypeId} {pos : String} {af : Array Edge} {g : Option (Nat × Bool)} {v u : Value} {r : Rp} {sz : Nat}
theorem Ub {fs:Array Field}{f:Field}(hu:P.underlying t=Ad (.struct fs))(hf:fs[i]? =Ad f)(hag:∀w,(isAgg f.type).run P w = .ok Ah w)(hx:ev l x=Ad (BT rs))(hr:rs[f.offset]? =Ad r) :
  Ce P n c l H { dst:=d',op:=.field t x i,type:=ty,pos:=pos,after:=af,guard:=g } r:=λa w Z ha hw=>by
 obtain⟨us,e1,hus⟩:=ha.ev hx;obtain⟨v,hv,hp⟩:=hus.at hr;exact⟨v,hp,by simp[execOp,e1,Instr.field,run_underlying hu,hf,asAgg,part,hag,hv]⟩
theorem WZ {inf:TypeInfo}{z:Value}{zα:α}{rz:Rp}{kl kc:IntKind}{m bytes:Nat}(ht:P.underlying t=Ad (.slice e))(hinf:P.info? e=Ad inf)(hz:inf.zero=Ad z)(hsize:inf.size=1)(hby:inf.bytes=bytes)(hbp:Nat.blt 0 bytes=Af)
  (hzc:z.cells = #[z]) (henc:enc zα=[rz]) (hrz:∀Z,rz.p Z z)
  (hx:ev l x=Ad (rI kl m)) (hy:ev l y=Ad (rI kc m)) (hg:H7 bytes m=Af) (hn:Nat.blt d n=Af)
  (h:∀v',WL P n c ops Q rest ((d,rv v')::l) (.row v' e 1 ((Au m zα).map enc)::H)) :
  WL P n c ops Q ({ dst:=Ad d,op:=.makeSlice t x y,type:=ty,pos:=pos,after:=af,guard:=Ai }::rest) l H:=
 Kw (λa w Z ha hw=>by
  have hb:m*bytes≤140737488355328:=by simpa[H7] using hg
  have hbp':0<bytes:=by simpa using hbp
  have hle:m≤m*bytes:=Nat.le_mul_of_pos_right _ hbp';obtain⟨w',e1,e2,e3⟩:=run_make_full (P:=P) w 0 t e inf z 1 ht hinf hz hsize kl kc m (by rw[hby,Nat.mul_comm];omega) (by simp only[maxLen];omega) (Aht _);rw[hzc,toList_madeCells_one,Nat.mul_one] at e2;have hall:B8 Z ((Au m zα).map enc).flatten (Au m z):=by
   clear e2 hle hb hg hx hy h e1
   induction m with
   | zero=>trivial
   | succ m ih=>rw[List.replicate_succ,List.replicate_succ,Ahp,List.flatten_cons,henc];exact⟨hrz Z,ih⟩
  have hlen:∀cl∈(Au m zα).map enc,Ae cl=1:=λcl hcl=>by
   obtain⟨q,hq,rfl⟩:=List.mem_map.1 hcl;rw[(List.mem_replicate.1 hq).2,henc];rfl
  have hent:(Ent.row (.slice (Ad ⟨w.heap.size,0,Ai⟩) m m) e 1 ((Au m zα).map enc)).holds Z w':=⟨hlen,Au m z,by simpa using e2,hall⟩
  exact⟨.slice (Ad ⟨w.heap.size,0,Ai⟩) m m,w',rv (.slice (Ad ⟨w.heap.size,0,Ai⟩) m m),_,Z,by simp[execOp,ha.eval hx,ha.eval hy,e1],Fz.le.refl _,rfl,hw.add e3.os e3.tape e3.output e3.size (λk hk=>e3.block k hk Aj) hent (by simp[Ent.foot,Value.ownBlock]),h _⟩) hn
end
end
variable{all:List Oper}{Φ:Rp→List Ent→Prop}{o:Oper}{rest ops:List Oper}{U:Type}{id:Nat}
section
variable [I : Dfr]
structure Sx (U:Type) where
 deps:List Nat
 r:U→Rp
 dyn:Bool:=Ah
 old:List Nat:=[]
def El {U:Type}(sp:List (Sx U))(i:Nat):Sx U:=sp.getD i { deps:=[],r:=λ_=>rv undef }
def Om {U:Type}(sp:List (Sx U))(u:U):List Sp:=sp.map λs=>⟨s.deps,s.r u,0⟩
def saU {U:Type}(sp:List (Sx U))(u:U):List Sa:=sp.map λs=>{ deps:=s.deps,r:=s.r u }
def Mp {U:Type}:List (Sx U)→Prop
 | []=>True
 | s::r=>(s.dyn=Ah→∀u u',s.r u=s.r u')∧Mp r
theorem Mp.at {U:Type}:∀{sp:List (Sx U)},Mp sp→∀{i:Nat} {s:Sx U},sp[i]? =Ad s→s.dyn=Ah→∀u u',s.r u=s.r u'
 | [],_,i,s,h=>by simp at h
 | x::sp,⟨h1,h2⟩,0,s,h=>by simp at h;subst h;exact h1
 | x::sp,⟨h1,h2⟩,i+1,s,h=>Mp.at h2 (by simpa using h)
theorem Ad4 {ds os:List Nat}{r:Rp}{sp:List (Sx U)}(h:Mp sp):Mp ({ deps:=ds,r:=λ_=>r,old:=os }::sp):=⟨λ_ _ _=>rfl,h⟩
theorem Ad3 {ds os:List Nat}{r:U→Rp}{sp:List (Sx U)}(h:Mp sp):Mp ({ deps:=ds,r:=r,dyn:=Af,old:=os }::sp):=⟨λh'=>(by cases h'),h⟩
def DY (lw:Fr):List Nat→Fr→Fr
 | [],l=>l
 | d::r,l=>match look lw d with
  | some q=>(d,q)::DY lw r l
  | none=>DY lw r l
theorem Nb {n:Nat}{lw l:Fr}{a:Act}{Z:Fz}(h0:DS n l a Z):∀{ds:List Nat},(∀d∈ds,∀q,look lw d=Ad q→∃v,a.tmps[d]? =Ad v∧q.p Z v)→DS n (DY lw ds l) a Z
 | [],_=>h0
 | d::ds,h=>by
  have ih:=Nb h0 (ds:=ds) (λd' hd'=>h d' (by simp[hd']));unfold DY
  cases hd:look lw d with
  | none=>exact ih
  | some q=>
   refine⟨ih.size,ih.defers,λi r hi=>?_⟩;rw[Dp] at hi
   split at hi
   ·rename_i e;subst e;simp at hi;subst hi;exact h d Aj q hd
   ·exact ih.tm i r hi
theorem Ad2:Mp ([]:List (Sx U)):=trivial
def okX (n:Nat)(ops:List Oper)(N i0:Nat)(keys:List Nat)(deps:List (List Nat))(dyns:List Bool)(olds:List (List Nat)):Bool:=
 Oe ops N&&Ac (N≤Ae ops)&&Ac (i0<N)&&
 (As N).all (λi=>match CD ops i with
  | some d=>Ac (d<n)&&!keys.contains d&&(As N).all (λj=>j ==i||CD ops j !=Ad d)
  | none=>Af)&&
 (As N).all (λi=>(deps.getD i []).all (λj=>Ac (j<N)&&(DF (ops.getD i default)).contains j))&&
 (As N).all (λi=>!dyns.getD i Ah||i ==i0||(DF (ops.getD i default)).any (λe=>Ac (e<N)&&(e ==i0||dyns.getD e Ah)))&&
 (As N).all (λi=>(olds.getD i []).all (λd=>(As N).all (λw=>CD ops w !=Ad d||(DF (ops.getD w default)).contains i)))
section
variable (P : Program) (n : Nat) (c : Cx) (opsA : Array Oper) (Q : Exit → Act → World → Prop)
def OpX {U:Type}(l:Fr)(H:List Ent)(o:Oper)(r:U→Rp)(H1:U→List Ent):Prop:=
 ∀a w Z (K:Act→World→Prop),DS n l a Z→St c H Z w→(∀u v w' Z',Fz.le Z Z'→(r u).p Z' v→St c (H1 u) Z' w'→K (a.put o.dst v) w')→
  Region.wanted o (yielded opsA a.tmps)=Af∧o.wp P a w K Q
def La {U:Type}(ops:List Oper)(sp:List (Sx U))(l0 lw:Fr)(i0:Nat)(H:List Ent)(H1:U→List Ent):Nat→List Oper→Prop
 | i,o::rest=>(if i=i0 then(∀u,OpX P n c opsA Q (DY lw (El sp i).old (C2 ops (Om sp u) (El sp i).deps l0)) H o (El sp i).r H1) else ∀u H',(H'=H∨H'=H1 u)→Ec P n c opsA Q (DY lw (El sp i).old (C2 ops (Om sp u) (El sp i).deps l0)) H' o ((El sp i).r u) H')∧La ops sp l0 lw i0 H H1 (i+1) rest
 | _,[]=>True
end
section
variable {P : Program} {n : Nat} {c : Cx} {opsA : Array Oper} {Q : Exit → Act → World → Prop} {l l0 lw : Fr} {U : Type} {H : List Ent} {H1 : U → List Ent} {sp : List (Sx U)} {i0 : Nat}
theorem La.at {ops:List Oper}:∀{k:Nat} {rest:List Oper},La P n c opsA Q ops sp l0 lw i0 H H1 k rest→∀(t:Nat) o,rest[t]? =Ad o→
  (if k+t=i0 then(∀u,OpX P n c opsA Q (DY lw (El sp (k+t)).old (C2 ops (Om sp u) (El sp (k+t)).deps l0)) H o (El sp (k+t)).r H1) else ∀u H',(H'=H∨H'=H1 u)→Ec P n c opsA Q (DY lw (El sp (k+t)).old (C2 ops (Om sp u) (El sp (k+t)).deps l0)) H' o ((El sp (k+t)).r u) H')
 | k,o::rest,⟨h1,h2⟩,t,o',ht=>by
  cases t with
  | zero=>simp at ht;subst ht;exact h1
  | succ t=>
   have:=La.at h2 t o' (by simpa using ht);rw[show k+(t+1)=k+1+t from Ab];exact this
 | _,[],_,t,o,h=>by simp at h
theorem ZE [Inhabited U](N i0:Nat)(sp:List (Sx U))(hm:P.follows .mixedOrders=Af)(hB:okX n ops N i0 (Es l0) (sp.map (·.deps)) (sp.map (·.dyn)) (sp.map (·.old))=Af)(hl0:O6 l0 l)(hlw:O6 lw l)(hsp:Ae sp=N)(hst:Mp sp)
  (hob:La P n c ops.toArray Q ops sp l0 lw i0 H H1 0 (ops.take N)) (h:∀u,WL P n c ops.toArray Q (ops.drop N) (IR (λ_=>0) (ops.take N) (saU sp u) 0 l0) (H1 u)):WC P n c (.region id ops.toArray Af) Q l H:=by
 intro a w Z ha hw;simp only[okX,AgO,AgY,List.mem_range,AgQ] at hB;obtain⟨⟨⟨⟨⟨⟨b1,bN⟩,b0⟩,b2⟩,b3⟩,b4⟩,b5⟩:=hB;have hget:∀i,i<N→(ops.take N)[i]? =ops[i]?:=λi hi=>by rw[Ahd,Ahe hi]
 have hsa:∀i,i<N→sp[i]? =Ad (El sp i):=λi hi=>by
  simp[El,AgI,AgJ (show i<Ae sp by omega)]
 have hspq:∀u i,i<N→(E1 (Om sp u) i)=⟨(El sp i).deps,(El sp i).r u,0⟩:=λu i hi=>by
  simp[E1,Om,AgI,AgT,hsa i hi]
 have hdyn:∀j,j<N→(sp.map (·.dyn)).getD j Ah=(El sp j).dyn:=λj hj=>by simp[AgI,AgT,hsa j hj]
 have hdep:∀j,j<N→(sp.map (·.deps)).getD j []=(El sp j).deps:=λj hj=>by simp[AgI,AgT,hsa j hj]
 have hops:∀j,j<N→∃o,ops[j]? =Ad o:=λj hj=>⟨ops[j]'(Ab),AgJ Ab⟩
 have hdst:∀i o d,i<N→ops[i]? =Ad o→o.dst=Ad d→(d<n∧d ∉ Es l0)∧∀j,j<N→j≠i→CD ops j≠Ad d:=λi o d hi ho hd=>by
  have h3:=b2 i hi;have:CD ops i=Ad d:=by simp[CD,ho,hd]
  rw[this] at h3;simp only[AgO,Ahh,AgY,List.mem_range,AgQ] at h3;refine⟨⟨h3.1.1,λhmem=>by rw[← List.contains_iff_mem] at hmem;rw[hmem] at h3;cases h3.1.2⟩,λj hj hne he=>?_⟩;have:=h3.2 j hj;simp[hne,he] at this
 refine PC (N:=N) hm b1 bN (λS a w=>∃ (u:U) (Z:Fz),St c (if S i0=Af then H1 u else H) Z w∧DS n l0 a Z∧(∀j o d,j<N→S j=Af→ops[j]? =Ad o→o.dst=Ad d→∃v,a.tmps[d]? =Ad v∧((El sp j).r u).p Z v)∧
   (∀j,j<N→(El sp j).dyn=Af→S j=Af→S i0=Af)∧
   (∀d q,look lw d=Ad q→(∀wr,wr<N→CD ops wr=Ad d→S wr=Ah)→∃v,a.tmps[d]? =Ad v∧q.p Z v)∧
   ∀wr i d,wr<N→i<N→CD ops wr=Ad d→d∈(El sp i).old→S wr=Af→S i=Af)
  (λS S' a w hS hI=>?_) ⟨default,Z,?_,ha.subL hl0,λj o d _ hS=>(by cases hS),λj _ _ hS=>(by cases hS),λd q hd _=>(ha.subL hlw).tm d q hd,λwr i d _ _ _ _ hS=>(by cases hS)⟩ (λS i o a w hi hun ho hb hI K hK=>?_) (λa w hI=>?_)
 ·obtain⟨u,Z,h1,h2,h3,h4,h5,h6⟩:=hI;refine⟨u,Z,?_,h2,λj o d hj hS'=>h3 j o d hj (by rw[hS j hj];exact hS'),λj hj hd hSj=>?_,λd q hd hw'=>h5 d q hd (λwr hwr hdw=>by rw[hS wr hwr];exact hw' wr hwr hdw),λwr i d hwr hi hdw hold hSw=>by rw[← hS i hi];exact h6 wr i d hwr hi hdw hold (by rw[hS wr hwr];exact hSw)⟩
  ·rw[← hS i0 b0];exact h1
  ·rw[← hS i0 b0];exact h4 j hj hd (by rw[hS j hj];exact hSj)
 ·exact hw.drawn _
 ·obtain⟨u,Z,h1,h2,h3,hx,ho5,ho6⟩:=hI;have hput:∀k u v,a.tmps[k]? =Ad u→o.dst≠Ad k→(a.put o.dst v).tmps[k]? =Ad u:=λk u v hk hne=>by
   cases hd:o.dst with
   | none=>simpa[Act.put] using hk
   | some d=>
    simp only[Act.put,Array.getElem?_setIfInBounds];rw[AgV (λe=>hne (by rw[hd,e]))];exact hk
  have hagr:∀v Z',Fz.le Z Z'→DS n l0 (a.put o.dst v) Z':=λv Z' hz=>by
   refine⟨?_,?_,λk r hk=>?_⟩
   ·cases o.dst<;>simp[Act.put,h2.size]
   ·cases o.dst<;>simp[Act.put,h2.defers]
   ·obtain⟨u,hu,hpu⟩:=h2.tm k r hk;exact⟨u,hput k u v hu (λe=>((hdst i o k hi ho e).1).2 (Ib hk)),r.mono hz hpu⟩
  have hvals:∀(v:Value) (Z':Fz) (u':U),Fz.le Z Z'→(∀j,j<N→j≠i→S j=Af→(El sp j).r u'=(El sp j).r u)→(o.dst≠Ai→((El sp i).r u').p Z' v)→∀j o' d,j<N→(j ==i||S j)=Af→ops[j]? =Ad o'→o'.dst=Ad d→∃q,(a.put o.dst v).tmps[d]? =Ad q∧((El sp j).r u').p Z' q:=by
   intro v Z' u' hz hβ hp j o' d hj hS' ho' hd
   by_cases hji:j=i
   ·subst hji;rw[ho] at ho';simp at ho';subst ho';refine⟨v,?_,hp (by simp[hd])⟩;have hdn:d<a.tmps.size:=by rw[h2.size];exact(hdst j o d hi ho hd).1.1
    simp[Act.put,hd,hdn]
   ·have hSj:S j=Af:=by simpa[hji] using hS'
    obtain⟨q,hu,hpu⟩:=h3 j o' d hj hSj ho' hd;refine⟨q,hput d q v hu (λe=>(hdst i o d hi ho e).2 j hj hji (by simp[CD,ho',hd])),?_⟩;rw[hβ j hj hji hSj];exact((El sp j).r u).mono hz hpu
  have hat:=hob.at i o (by rw[hget i hi];exact ho);rw[Aha] at hat;have hold':∀Z',Fz.le Z Z'→∀v d q,look lw d=Ad q→(∀wr,wr<N→CD ops wr=Ad d→(wr ==i||S wr)=Ah)→∃v',(a.put o.dst v).tmps[d]? =Ad v'∧q.p Z' v':=λZ' hz v d q hd hw'=>by
   obtain⟨v',e1,e2⟩:=ho5 d q hd (λwr hwr hdw=>by have:=hw' wr hwr hdw;simp only[Aho] at this;exact this.2);refine⟨v',hput d v' v e1 (λe=>?_),q.mono hz e2⟩;have:=hw' i hi (by simp[CD,ho,e]);simp at this
  have hord:∀wr k d,wr<N→k<N→CD ops wr=Ad d→d∈(El sp k).old→(wr ==i||S wr)=Af→(k ==i||S k)=Af:=λwr k d hwr hk hdw hmem hSw=>by
   by_cases hwi:wr=i
   ·subst hwi;have h7:=b5 k hk d (by simpa[AgI,AgT,hsa k hk] using hmem) wr hwr;simp only[AgZ,bne_iff_ne,ne_eq,hdw,not_true_eq_false,false_or] at h7;rw[AgI,ho,AgX,List.contains_iff_mem] at h7;simp[(hb k h7).2]
   ·have:S k=Af:=ho6 wr k d hwr hk hdw hmem (by simpa[hwi] using hSw);simp[this]
  have hag':DS n (DY lw (El sp i).old (C2 ops (Om sp u) (El sp i).deps l0)) a Z:=Nb (IE h2 (λj hj d hd=>by
    obtain⟨h5,h6⟩:=b3 i hi j (by rw[hdep i hi];exact hj);rw[AgI,ho,AgX,List.contains_iff_mem] at h6;obtain⟨o2,ho2⟩:=hops j h5;obtain⟨v,hv1,hv2⟩:=h3 j o2 d h5 (hb j h6).2 ho2 (by simpa[CD,ho2] using hd);refine⟨v,hv1,?_⟩;rw[hspq u j h5];exact hv2)) (λd hd q hq=>ho5 d q hq (λwr hwr hdw=>by
     cases hS:S wr with
     | false=>rfl
     | true=>have:=ho6 wr i d hwr hi hdw hd hS;rw[this] at hun;cases hun))
  by_cases hi0:i=i0
  ·subst hi0;rw[Ahe rfl] at hat;rw[hun] at h1;have h1':St c H Z w:=by simpa using h1
   have key:=λK' hK'=>hat u a w Z K' hag' h1' hK';have h5:∀u' v w' Z',Fz.le Z Z'→((El sp i).r u').p Z' v→St c (H1 u') Z' w'→K (a.put o.dst v) w':=λu' v w' Z' hz hpv hs'=>by
    refine hK _ _ ⟨u',Z',by simpa using hs',hagr v Z' hz,hvals v Z' u' hz (λj hj hji hSj=>?_) (λ_=>hpv),λj _ _ _=>by simp,hold' Z' hz v,hord⟩;refine hst.at (hsa j hj) ?_ u' u
    cases hd:(El sp j).dyn with
    | false=>rfl
    | true=>have:=hx j hj hd hSj;rw[this] at hun;cases hun
   refine⟨λ_=>(key K h5).2,λhw'=>?_⟩;rw[(key K h5).1] at hw';cases hw'
  ·rw[AgV hi0] at hat;refine hat u _ (by split;exact .inr rfl;exact .inl rfl) a w Z K hag' h1 (λv w' Z' hz hp hst'=>hK _ _ ⟨u,Z',?_,hagr v Z' hz,hvals v Z' u hz (λ_ _ _ _=>rfl) (λ_=>hp),λj hj hd hSj=>?_,hold' Z' hz v,hord⟩)
   ·have hiS:(i0 ==i||S i0)=S i0:=by
     have:(i0 ==i)=Ah:=by simpa using λe=>hi0 e.symm
     rw[this];rfl
    show St c (if (i0 ==i||S i0)=Af then H1 u else H) Z' w';rw[hiS];exact hst'
   ·have hii:(i0 ==i)=Ah:=by simpa using λe=>hi0 e.symm
    show(i0 ==i||S i0)=Af;rw[hii,Ahb]
    by_cases hji:j=i
    ·subst hji;have h7:=b4 j hj;rw[hdyn j hj,hd] at h7;simp only[Ahl,Ahb,AgZ,beq_iff_eq,hi0,false_or,List.any_eq_true,AgO,AgQ] at h7;obtain⟨e,he,heN,h8⟩:=h7;rw[AgI,ho,AgX] at he;have hSe:=(hb e he).2;rcases h8 with h8 | h8
     ·subst h8;exact hSe
     ·rw[hdyn e heN] at h8;exact hx e heN h8 hSe
    ·exact hx j hj hd (by simpa[hji] using hSj)
 ·obtain⟨u,Z,h1,h2,h3,_,_,_⟩:=hI;have hsl:Ae (saU sp u)=N:=by simp[saU,hsp]
  refine h u a w Z (L9 h2 _ _ 0 (λt o s d ht hs hd=>?_)) (by simpa using h1);have htN:t<N:=by have:=(List.getElem?_eq_some_iff.1 hs).1;omega
  have hs':s = { deps:=(El sp t).deps,r:=(El sp t).r u }:=by
   simp only[saU,AgT,hsa t htN,Option.map_some,Option.some.injEq] at hs;exact hs.symm
  subst hs';rw[Aha];exact h3 t o d htN rfl (by rw[← hget t htN];exact ht) hd
theorem PF [Inhabited U](N i0:Nat)(ks0 ksw:List Nat)(sp:List (Sx U))(H1:U→List Ent)(hob:La P n c ops.toArray Q ops sp l0 lw i0 H H1 0 (ops.take N))(h:∀u,WL P n c ops.toArray Q (ops.drop N) (IR (λ_=>0) (ops.take N) (saU sp u) 0 l0) (H1 u))
  (h0:Kp ks0 l l0:=by repeat (first | exact KE | (apply IQ;rfl) | (apply JY;rfl))) (hw:Kp ksw l lw:=by repeat (first | exact KE | (apply IQ;rfl) | (apply JY;rfl))) (hm:P.follows .mixedOrders=Af:=by kernel_rfl) (hB:okX n ops N i0 (Es l0) (sp.map (·.deps)) (sp.map (·.dyn)) (sp.map (·.old))=Af:=by kernel_rfl)
  (hsp:Ae sp=N:=by rfl) (hst:Mp sp:=by repeat (first | exact Ad2 | apply Ad4 | apply Ad3)):WC P n c (.region id ops.toArray Af) Q l H:=ZE N i0 sp hm hB h0.one hw.one hsp hst hob h
theorem Ox {d:Nat}{op:Op}{ty:TypeId}{pos:String}{af:Array Edge}(hr:∀{u H},Ce P n c (DY lw (El sp i).old (C2 all (Om sp u) (El sp i).deps l0)) H { dst:=Ad d,op:=op,type:=ty,pos:=pos,after:=af,guard:=Ai } ((El sp i).r u))(h:La P n c opsA Q all sp l0 lw i0 H H1 (i+1) rest)(hne:Nat.beq i i0=Ah:=by rfl) :
  La P n c opsA Q all sp l0 lw i0 H H1 i ({ dst:=Ad d,op:=op,type:=ty,pos:=pos,after:=af,guard:=Ai }::rest):=by
 refine⟨?_,h⟩;rw[AgV (λe=>by subst e;simp at hne)];exact λu H _=>Dk hr
theorem oxc (hr:∀{u H},Ec P n c opsA Q (DY lw (El sp i).old (C2 all (Om sp u) (El sp i).deps l0)) H o ((El sp i).r u) H)(h:La P n c opsA Q all sp l0 lw i0 H H1 (i+1) rest)(hne:Nat.beq i i0=Ah:=by rfl):La P n c opsA Q all sp l0 lw i0 H H1 i (o::rest):=by
 refine⟨?_,h⟩;rw[AgV (λe=>by subst e;simp at hne)];exact λu H _=>hr
theorem Vv (hr:∀{u},Ec P n c opsA Q (DY lw (El sp i).old (C2 all (Om sp u) (El sp i).deps l0)) H o ((El sp i).r u) H)(hr1:∀{u},Ec P n c opsA Q (DY lw (El sp i).old (C2 all (Om sp u) (El sp i).deps l0)) (H1 u) o ((El sp i).r u) (H1 u))(h:La P n c opsA Q all sp l0 lw i0 H H1 (i+1) rest)(hne:Nat.beq i i0=Ah:=by rfl):La P n c opsA Q all sp l0 lw i0 H H1 i (o::rest):=by
 refine⟨?_,h⟩;rw[AgV (λe=>by subst e;simp at hne)];intro u H' hH';rcases hH' with e | e
 ·subst e;exact hr
 ·subst e;exact hr1
theorem oxx (hr:∀{u},OpX P n c opsA Q (DY lw (El sp i0).old (C2 all (Om sp u) (El sp i0).deps l0)) H o (El sp i0).r H1)(h:La P n c opsA Q all sp l0 lw i0 H H1 (i0+1) rest):La P n c opsA Q all sp l0 lw i0 H H1 i0 (o::rest):=by
 refine⟨?_,h⟩;rw[Ahe rfl];exact λu=>hr
theorem oxe:La P n c opsA Q all sp l0 lw i0 H H1 i []:=trivial
end
section
variable {P : Program} {n : Nat} {c : Cx} {opsA : Array Oper} {Q : Exit → Act → World → Prop} {l : Fr} {H : List Ent} {d : Nat} {x y : Operand} {ty t e : TypeId} {pos : String} {af : Array Edge} {v : Value} {sz : Nat}
theorem Nv {xs ys:List α}{inf:TypeInfo}{z:Value}{bytes:Nat}(ht:P.underlying t=Ad (.slice e))(hinf:P.info? e=Ad inf)(hz:inf.zero=Ad z)(hsize:inf.size=sz)(hby:inf.bytes=bytes)(hzs:z.cells.size=sz)(hsz:Nat.blt 0 sz=Af)(hbp:Nat.blt 0 bytes=Af)
  (hx:ev l x=Ad (rv v)) (hi:H[i]? =Ad (.row v e sz (xs.map enc))) (hy:LB P n c l H y sz (Ae ys) (ys.map enc).flatten) (henc:∀z,Ae (enc z)=sz) (hone:∀z,(enc z).all (·.one)=Af) (hg:H7 bytes (Ae xs+Ae ys)=Af) :
  OpX P n c opsA Q l H { dst:=Ad d,op:=.call { callee:=.builtin .append,args:=#[x,y],argTypes:=#[t,t] },type:=ty,pos:=pos,after:=af,guard:=Ai } (λv'=>rv v') (λv'=>.row v' e sz ((xs++ys).map enc)::H.eraseIdx i):=λa w Z K ha hw hK=>by
  obtain⟨h0,us,h1,h2⟩:=hw.ent hi;obtain⟨ws,h3,h4⟩:=hy a w Z ha hw;have hsz':0<sz:=by simpa using hsz
  have hbp':0<bytes:=by simpa using hbp
  have hb:(Ae xs+Ae ys)*bytes≤140737488355328:=by simpa[H7] using hg
  have hle:Ae xs+Ae ys≤(Ae xs+Ae ys)*bytes:=Nat.le_mul_of_pos_right _ hbp';have hws:∀y∈ws,y.oneCell'=Af:=B8.one (rs:=(ys.map enc).flatten) (by
   rw[AgY];intro r hr;obtain⟨cl,hcl,hrc⟩:=List.mem_flatten.1 hr;obtain⟨z',_,rfl⟩:=List.mem_map.1 hcl;exact List.all_eq_true.1 (hone z') r hrc) h3
  have hxl:Ae (xs.map enc)=Ae xs:=AgP ..;rw[hxl] at h1;obtain⟨v',w',e1,e2,e3,e4⟩:=G5 (P:=P) ty ht hinf hz hsize hby hzs hsz' h1 h4 hws hb (by simp only[maxLen];omega);have hent:(Ent.row v' e sz ((xs++ys).map enc)).holds Z w':=⟨λcl hcl=>by obtain⟨z',_,rfl⟩:=List.mem_map.1 hcl;exact henc z',us++ws,by simpa using e2,by rw[Ahk,List.flatten_append];exact h2.append h3⟩
  have hst:=hw.callF hi (St.one (e':=.row v' e sz ((xs++ys).map enc)) (M:=(Ent.row v e sz (xs.map enc)).foot) hw.frz hw.env hw.emono e3.os e3.tape e3.output e3.size (λk hk hne=>e3.block k hk (λe1=>hne (by simp[Ent.foot,← e1])))
   (hw.zdis _ (AgS hi)) hent (λk hk=>by
    simp only[Ent.foot,Option.mem_toList] at hk ⊢;rcases e4 with e4 | e4
    ·exact .inl (e4▸hk)
    ·exact .inr (e4 k hk)))
  refine⟨by simp[Region.wanted],?_⟩;unfold Oper.wp;rw[show(execOp a.eval { dst:=Ad d,op:=.call { callee:=.builtin .append,args:=#[x,y],argTypes:=#[t,t] },type:=ty,pos:=pos,after:=af,guard:=Ai }).run P w = .ok (.value v') w' from by simp[execOp,resolve,invoke,builtin,ha.eval hx,e1]];exact hK v' v' w' Z (Fz.le.refl _) rfl hst
theorem AbR {f:FuncId}{args:List Operand}{ats:Array TypeId}{r:U→Rp}{Ho:U→List Ent}{Hin Hr:List Ent}(hcall:∀(as1:Array Value) (w:World),(callFunc f as1).run P w = .ok (.enter f as1) w)(hv:JV l args=Ad rs)
  (hp:H.Perm (Hin++Hr)) (hc:Fn P c.E f rs Hin Φ) (hΦ:∀r' H',Φ r' H'→∃u,r'=r u∧H'=Ho u):OpX P n c opsA Q l H { dst:=Ad d,op:=.call { callee:=.value (.func f),args:=args.toArray,argTypes:=ats },type:=ty,pos:=pos,after:=af,guard:=Ai } r (λu=>Ho u++Hr):=λa w Z K ha hw hK=>by
 refine⟨by simp[Region.wanted],?_⟩;unfold Oper.wp;rw[EC rfl hcall w];refine(hc w Z _ (E8 ha hv) (hw.perm hp).enter).mono ?_;rintro e w' ⟨r',v,H',Z',rfl,hΦ',hr,hs⟩;obtain⟨u,rfl,rfl⟩:=hΦ r' H' hΦ';exact hK u v w' Z' hs.le hr ((hw.perm hp).call hs)
end
end
section
variable [I : Dfr]
abbrev Ux:=Nat→Nat→Value×Nat
def Ag (k:Nat)(u u':Ux):Prop:=∀j,j<k→u j=u' j
def ux (u:Ux)(k:Nat)(f:List (Value×Nat)):Ux:=λj=>bif Nat.beq j k then λq=>f.getD q (undef,0) else u j
theorem Za {u:Ux}{k:Nat}{f:List (Value×Nat)}:Ag k u (ux u k f):=λj hj=>by
 unfold ux;have:Nat.beq j k=Ah:=by
  cases h:Nat.beq j k with
  | false=>rfl
  | true=>have:=Nat.eq_of_beq_eq_true h;omega
 rw[this];rfl
structure Sy where
 deps:List Nat
 r:Ux→Rp
 lv:Nat:=0
 fx:Bool:=Ah
 old:List Nat:=[]
def Gq (sp:List Sy)(i:Nat):Sy:=sp.getD i { deps:=[],r:=λ_=>rv undef }
def Zg (sp:List Sy)(u:Ux):List Sp:=sp.map λs=>⟨s.deps,s.r u,0⟩
def saY (sp:List Sy)(u:Ux):List Sa:=sp.map λs=>{ deps:=s.deps,r:=s.r u }
def Px:List Sy→Prop
 | []=>True
 | s::r=>(∀u u',Ag s.lv u u'→s.r u=s.r u')∧Px r
theorem Px.at:∀{sp:List Sy},Px sp→∀{i:Nat} {s:Sy},sp[i]? =Ad s→∀u u',Ag s.lv u u'→s.r u=s.r u'
 | [],_,i,s,h=>by simp at h
 | x::sp,⟨h1,h2⟩,0,s,h=>by simp at h;subst h;exact h1
 | x::sp,⟨h1,h2⟩,i+1,s,h=>Px.at h2 (by simpa using h)
theorem K4 {r:Rp}{m:Nat}:∀u u':Ux,Ag m u u'→(λ_:Ux=>r) u=(λ_:Ux=>r) u':=λ_ _ _=>rfl
def okY (n:Nat)(ops:List Oper)(N:Nat)(is keys:List Nat)(deps:List (List Nat))(lvs:List Nat)(fxs:List Bool)(olds:List (List Nat)):Bool:=
 let cl:=KM ops []
 Oe ops N&&Ac (N≤Ae ops)&&is.all (λi=>Ac (i<N))&&decide is.Nodup&&
 (As (Ae is)).all (λk=>k ==0||(cl.getD (is.getD k 0) 0).testBit (is.getD (k-1) 0))&&
 (As N).all (λi=>match CD ops i with
  | some d=>Ac (d<n)&&!keys.contains d&&(As N).all (λj=>j ==i||CD ops j !=Ad d)
  | none=>Af)&&
 (As N).all (λi=>(deps.getD i []).all (λj=>Ac (j<N)&&(DF (ops.getD i default)).contains j))&&
 (As N).all (λi=>Ac (lvs.getD i 0≤Ae is)&&(lvs.getD i 0 ==0||i ==is.getD (lvs.getD i 0-1) 0||(cl.getD i 0).testBit (is.getD (lvs.getD i 0-1) 0)))&&
 (As N).all (λi=>!fxs.getD i Ah||lvs.getD i 0 ==Ae is||(cl.getD (is.getD (lvs.getD i 0) 0) 0).testBit i)&&
 (As N).all (λi=>(olds.getD i []).all (λd=>(As N).all (λw=>CD ops w !=Ad d||(DF (ops.getD w default)).contains i)))
def cnt (S:Nat→Bool)(is:List Nat):Nat:=Ae (is.filter S)
theorem Od {S:Nat→Bool}{is:List Nat}{k:Nat}(hk:k≤Ae is)(h1:∀j (h:j<Ae is),j<k→S is[j]=Af)(h2:∀j (h:j<Ae is),k≤j→S is[j]=Ah):cnt S is=k:=by
 unfold cnt;rw[← Ah0 k is,List.filter_append,List.filter_eq_self.2 (λx hx=>?_),List.filter_eq_nil_iff.2 (λx hx=>?_)]
 ·simp;omega
 ·obtain⟨j,hj⟩:=List.mem_iff_getElem?.1 hx;rw[List.getElem?_drop] at hj;obtain⟨h3,h4⟩:=List.getElem?_eq_some_iff.1 hj;have:=h2 (k+j) h3 Ab;rw[h4] at this;simp[this]
 ·obtain⟨j,hj⟩:=List.mem_iff_getElem?.1 hx;rw[Ahd] at hj
  split at hj
  ·rename_i hjk
   obtain⟨h3,h4⟩:=List.getElem?_eq_some_iff.1 hj;have:=h1 j h3 hjk;rw[h4] at this;exact this
  ·cases hj
theorem Pt {S S':Nat→Bool}{is:List Nat}(h:∀i∈is,S i=S' i):cnt S is=cnt S' is:=by
 unfold cnt;rw[List.filter_congr h]
section
variable (P : Program) (n : Nat) (c : Cx) (opsA : Array Oper) (Q : Exit → Act → World → Prop)
def OpY (l:Fr)(H:List Ent)(o:Oper)(k:Nat)(u:Ux)(r:Ux→Rp)(H1:Ux→List Ent):Prop:=
 ∀a w Z (K:Act→World→Prop),DS n l a Z→St c H Z w→(∀u' v w' Z',Ag k u u'→Fz.le Z Z'→(r u').p Z' v→St c (H1 u') Z' w'→K (a.put o.dst v) w')→
  Region.wanted o (yielded opsA a.tmps)=Af∧o.wp P a w K Q
def ObY (ops:List Oper)(sp:List Sy)(l0 lw:Fr)(is:List Nat)(hs:List (Ux→List Ent))(i:Nat)(o:Oper):Prop:=
 match is.findIdx? (λx=>Nat.beq x i) with
 | some k=>∀u,OpY P n c opsA Q (DY lw (Gq sp i).old (C2 ops (Zg sp u) (Gq sp i).deps l0)) (hs.getD k (λ_=>[]) u) o k u (Gq sp i).r (hs.getD (k+1) (λ_=>[]))
 | none=>if (Gq sp i).fx=Af then ∀u,Ec P n c opsA Q (DY lw (Gq sp i).old (C2 ops (Zg sp u) (Gq sp i).deps l0)) (hs.getD (Gq sp i).lv (λ_=>[]) u) o ((Gq sp i).r u) (hs.getD (Gq sp i).lv (λ_=>[]) u)
  else ∀u k,k≤Ae is→Ec P n c opsA Q (DY lw (Gq sp i).old (C2 ops (Zg sp u) (Gq sp i).deps l0)) (hs.getD k (λ_=>[]) u) o ((Gq sp i).r u) (hs.getD k (λ_=>[]) u)
def KZ (ops:List Oper)(sp:List Sy)(l0 lw:Fr)(is:List Nat)(hs:List (Ux→List Ent)):Nat→List Oper→Prop
 | i,o::rest=>ObY P n c opsA Q ops sp l0 lw is hs i o∧KZ ops sp l0 lw is hs (i+1) rest
 | _,[]=>True
end
section
variable {P : Program} {n : Nat} {c : Cx} {opsA : Array Oper} {Q : Exit → Act → World → Prop} {l l0 lw : Fr} {H : List Ent} {hs : List (Ux → List Ent)} {sp : List Sy} {is : List Nat}
theorem KZ.at {ops:List Oper}:∀{k:Nat} {rest:List Oper},KZ P n c opsA Q ops sp l0 lw is hs k rest→∀(t:Nat) o,rest[t]? =Ad o→ObY P n c opsA Q ops sp l0 lw is hs (k+t) o
 | k,o::rest,⟨h1,h2⟩,t,o',ht=>by
  cases t with
  | zero=>simp at ht;subst ht;exact h1
  | succ t=>
   have:=KZ.at h2 t o' (by simpa using ht);rw[show k+(t+1)=k+1+t from Ab];exact this
 | _,[],_,t,o,h=>by simp at h
theorem ZC (N:Nat)(is:List Nat)(sp:List Sy)(hs:List (Ux→List Ent))(hm:P.follows .mixedOrders=Af)(hB:okY n ops N is (Es l0) (sp.map (·.deps)) (sp.map (·.lv)) (sp.map (·.fx)) (sp.map (·.old))=Af)(hl0:O6 l0 l)(hlw:O6 lw l)(hsp:Ae sp=N)(hst:Px sp)
    (hH:∀u,hs.getD 0 (λ_=>[]) u=H) (hob:KZ P n c ops.toArray Q ops sp l0 lw is hs 0 (ops.take N)) (h:∀u,WL P n c ops.toArray Q (ops.drop N) (IR (λ_=>0) (ops.take N) (saY sp u) 0 l0) (hs.getD (Ae is) (λ_=>[]) u)):WC P n c (.region id ops.toArray Af) Q l H:=by
  intro a w Z ha hw;simp only[okY,AgO,AgY,List.mem_range,AgQ] at hB;obtain⟨⟨⟨⟨⟨⟨⟨⟨⟨b1,bN⟩,bis⟩,Oi⟩,bch⟩,b2⟩,b3⟩,b4⟩,b6⟩,b5⟩:=hB;have hget:∀i,i<N→(ops.take N)[i]? =ops[i]?:=λi hi=>by rw[Ahd,Ahe hi]
  have hsa:∀i,i<N→sp[i]? =Ad (Gq sp i):=λi hi=>by
    simp[Gq,AgI,AgJ (show i<Ae sp by omega)]
  have hspq:∀u i,i<N→(E1 (Zg sp u) i)=⟨(Gq sp i).deps,(Gq sp i).r u,0⟩:=λu i hi=>by
    simp[E1,Zg,AgI,AgT,hsa i hi]
  have hlv:∀j,j<N→(sp.map (·.lv)).getD j 0=(Gq sp j).lv:=λj hj=>by simp[AgI,AgT,hsa j hj]
  have hfx:∀j,j<N→(sp.map (·.fx)).getD j Ah=(Gq sp j).fx:=λj hj=>by simp[AgI,AgT,hsa j hj]
  have hdep:∀j,j<N→(sp.map (·.deps)).getD j []=(Gq sp j).deps:=λj hj=>by simp[AgI,AgT,hsa j hj]
  have hops:∀j,j<N→∃o,ops[j]? =Ad o:=λj hj=>⟨ops[j]'(Ab),AgJ Ab⟩
  have hisN:∀k (hk:k<Ae is),is[k]<N:=λk hk=>bis _ (List.getElem_mem hk);have hisD:∀k (hk:k<Ae is),is.getD k 0=is[k]:=λk hk=>by rw[AgI,AgJ hk];rfl
  have hdst:∀i o d,i<N→ops[i]? =Ad o→o.dst=Ad d→(d<n∧d ∉ Es l0)∧∀j,j<N→j≠i→CD ops j≠Ad d:=λi o d hi ho hd=>by
    have h3:=b2 i hi;have:CD ops i=Ad d:=by simp[CD,ho,hd]
    rw[this] at h3;simp only[AgO,Ahh,AgY,List.mem_range,AgQ] at h3;refine⟨⟨h3.1.1,λhmem=>by rw[← List.contains_iff_mem] at hmem;rw[hmem] at h3;cases h3.1.2⟩,λj hj hne he=>?_⟩;have:=h3.2 j hj;simp[hne,he] at this
  have clo:∀S:Nat→Bool,(∀t o,ops[t]? =Ad o→S t=Af→∀e∈DF o,S e=Af)→∀j i,((KM ops []).getD j 0).testBit i=Af→S j=Af→S i=Af:=λS hc j i hb hj=>
    G0 ops (λk=>S k=Af) ops [] (λt o ht e he hF=>hc t o ht (by simpa using hF) e he) (λj i hb=>by simp at hb) j i hb hj
  have pre1:∀S:Nat→Bool,(∀t o,ops[t]? =Ad o→S t=Af→∀e∈DF o,S e=Af)→∀k (hk:k<Ae is),S is[k]=Af→∀j (hj:j<Ae is),j≤k→S is[j]=Af:=by
    intro S hc k
    induction k with
    | zero=>
              intro hk h0 j hj hle;have:j=0:=Ab
              subst this;exact h0
    | succ k ih=>
      intro hk h0 j hj hle
      by_cases e:j=k+1
      · subst e;exact h0
      · have h3:=bch (k+1) hk
        rw[hisD (k+1) hk] at h3;simp only[AgZ,beq_iff_eq,Nat.succ_ne_zero,false_or,Nat.add_sub_cancel] at h3;rw[hisD k Ab] at h3;exact ih Ab (clo S hc _ _ h3 h0) j hj Ab
  refine PC (N:=N) hm b1 bN (λS a w=>∃ (u:Ux) (Z:Fz),St c (hs.getD (cnt S is) (λ_=>[]) u) Z w∧DS n l0 a Z∧(∀j o d,j<N→S j=Af→ops[j]? =Ad o→o.dst=Ad d→∃v,a.tmps[d]? =Ad v∧((Gq sp j).r u).p Z v)∧
      (∀t o,t<N→ops[t]? =Ad o→S t=Af→∀e∈DF o,e<t∧S e=Af)∧
      (∀d q,look lw d=Ad q→(∀wr,wr<N→CD ops wr=Ad d→S wr=Ah)→∃v,a.tmps[d]? =Ad v∧q.p Z v)∧
      ∀wr i d,wr<N→i<N→CD ops wr=Ad d→d∈(Gq sp i).old→S wr=Af→S i=Af)
    (λS S' a w hS hI=>?_) ⟨default,Z,?_,ha.subL hl0,λj o d _ hS=>(by cases hS),λt o _ _ hS=>(by cases hS),λd q hd _=>(ha.subL hlw).tm d q hd,λwr i d _ _ _ _ hS=>(by cases hS)⟩ (λS i o a w hi hun ho hb hI K hK=>?_) (λa w hI=>?_)
  · obtain⟨u,Z,h1,h2,h3,h4,h5,h6⟩:=hI
    refine⟨u,Z,?_,h2,λj o d hj hS'=>h3 j o d hj (by rw[hS j hj];exact hS'),λt o ht hto hSt e he=>?_,λd q hd hw'=>h5 d q hd (λwr hwr hdw=>by rw[hS wr hwr];exact hw' wr hwr hdw),λwr i d hwr hi hdw hold hSw=>by rw[← hS i hi];exact h6 wr i d hwr hi hdw hold (by rw[hS wr hwr];exact hSw)⟩
    · rw[← Pt (S:=S) (S':=S') λi hi=>hS i (bis i hi)];exact h1
    · obtain⟨h7,h8⟩:=h4 t o ht hto (by rw[hS t ht];exact hSt) e he
      exact⟨h7,by rw[← hS e Ab];exact h8⟩
  · have:cnt (λ_=>Ah) is=0:=Od (Aht _) (λj _ h=>absurd h (Nat.not_lt_zero _)) (λ_ _ _=>rfl)
    rw[this,hH];exact hw.drawn _
  · obtain⟨u,Z,h1,h2,h3,hc,ho5,ho6⟩:=hI
    have hcl:∀t o,ops[t]? =Ad o→(Ac (t<N)&&S t)=Af→∀e∈DF o,(Ac (e<N)&&S e)=Af:=λt o hto hSt e he=>by
      simp only[AgO,AgQ] at hSt ⊢;obtain⟨h7,h8⟩:=hc t o hSt.1 hto hSt.2 e he;exact⟨Ab,h8⟩
    have hcl2:∀k q,((KM ops []).getD k 0).testBit q=Af→(k=i∨(Ac (k<N)&&S k)=Af)→(q=i∨(Ac (q<N)&&S q)=Af):=
      G0 ops (λk=>k=i∨(Ac (k<N)&&S k)=Af) ops [] (λt o' ht e he hF=>by
        rcases hF with hF | hF
        · simp at hF;subst hF
          rw[ho] at ht;simp at ht;subst ht;obtain⟨h7,h8⟩:=hb e he;exact .inr (by simp only[AgO,AgQ];exact⟨Ab,h8⟩)
        · exact .inr (hcl t o' ht (by simpa using hF) e he)) (λj i hb=>by simp at hb)
    have hanc:∀q,((KM ops []).getD i 0).testBit q=Af→q≠i→S q=Af:=λq hq hne=>by
      rcases hcl2 i q hq (.inl rfl) with h7 | h7
      · exact absurd h7 hne
      · simp only[AgO] at h7;exact h7.2
    have hSis:∀k (hk:k<Ae is),(Ac (is[k]<N)&&S is[k])=S is[k]:=λk hk=>by simp[hisN k hk]
    have hpre:∀k (hk:k<Ae is),S is[k]=Af→∀j (hj:j<Ae is),j≤k→S is[j]=Af:=λk hk hSk j hj hle=>by
      have:=pre1 (λk=>Ac (k<N)&&S k) hcl k hk (by show(Ac (is[k]<N)&&S is[k])=Af;rw[hSis k hk];exact hSk) j hj hle
      rwa [show(Ac (is[j]<N)&&S is[j])=S is[j] from hSis j hj] at this
    have hput:∀k u v,a.tmps[k]? =Ad u→o.dst≠Ad k→(a.put o.dst v).tmps[k]? =Ad u:=λk u v hk hne=>by
      cases hd:o.dst with
      | none=>simpa[Act.put] using hk
      | some d=>
        simp only[Act.put,Array.getElem?_setIfInBounds];rw[AgV (λe=>hne (by rw[hd,e]))];exact hk
    have hagr:∀v Z',Fz.le Z Z'→DS n l0 (a.put o.dst v) Z':=λv Z' hz=>by
      refine⟨?_,?_,λk r hk=>?_⟩
      · cases o.dst<;>simp[Act.put,h2.size]
      · cases o.dst<;>simp[Act.put,h2.defers]
      · obtain⟨u,hu,hpu⟩:=h2.tm k r hk
        exact⟨u,hput k u v hu (λe=>((hdst i o k hi ho e).1).2 (Ib hk)),r.mono hz hpu⟩
    have hvals:∀(v:Value) (Z':Fz) (u':Ux),Fz.le Z Z'→(∀j,j<N→j≠i→S j=Af→(Gq sp j).r u'=(Gq sp j).r u)→(o.dst≠Ai→((Gq sp i).r u').p Z' v)→∀j o' d,j<N→(j ==i||S j)=Af→ops[j]? =Ad o'→o'.dst=Ad d→∃q,(a.put o.dst v).tmps[d]? =Ad q∧((Gq sp j).r u').p Z' q:=by
      intro v Z' u' hz hβ hp j o' d hj hS' ho' hd
      by_cases hji:j=i
      · subst hji
        rw[ho] at ho';simp at ho';subst ho';refine⟨v,?_,hp (by simp[hd])⟩;have hdn:d<a.tmps.size:=by rw[h2.size];exact(hdst j o d hi ho hd).1.1
        simp[Act.put,hd,hdn]
      · have hSj:S j=Af:=by simpa[hji] using hS'
        obtain⟨q,hu,hpu⟩:=h3 j o' d hj hSj ho' hd;refine⟨q,hput d q v hu (λe=>(hdst i o d hi ho e).2 j hj hji (by simp[CD,ho',hd])),?_⟩;rw[hβ j hj hji hSj];exact((Gq sp j).r u).mono hz hpu
    have hat:=hob.at i o (by rw[hget i hi];exact ho);rw[Aha] at hat;have hold':∀Z',Fz.le Z Z'→∀v d q,look lw d=Ad q→(∀wr,wr<N→CD ops wr=Ad d→(wr ==i||S wr)=Ah)→∃v',(a.put o.dst v).tmps[d]? =Ad v'∧q.p Z' v':=λZ' hz v d q hd hw'=>by
      obtain⟨v',e1,e2⟩:=ho5 d q hd (λwr hwr hdw=>by have:=hw' wr hwr hdw;simp only[Aho] at this;exact this.2);refine⟨v',hput d v' v e1 (λe=>?_),q.mono hz e2⟩;have:=hw' i hi (by simp[CD,ho,e]);simp at this
    have hord:∀wr k d,wr<N→k<N→CD ops wr=Ad d→d∈(Gq sp k).old→(wr ==i||S wr)=Af→(k ==i||S k)=Af:=λwr k d hwr hk hdw hmem hSw=>by
      by_cases hwi:wr=i
      · subst hwi
        have h7:=b5 k hk d (by simpa[AgI,AgT,hsa k hk] using hmem) wr hwr;simp only[AgZ,bne_iff_ne,ne_eq,hdw,not_true_eq_false,false_or] at h7;rw[AgI,ho,AgX,List.contains_iff_mem] at h7;simp[(hb k h7).2]
      · have:S k=Af:=ho6 wr k d hwr hk hdw hmem (by simpa[hwi] using hSw)
        simp[this]
    have hcl':∀t o',t<N→ops[t]? =Ad o'→(t ==i||S t)=Af→∀e∈DF o',e<t∧(e ==i||S e)=Af:=λt o' ht hto hSt e he=>by
      by_cases hti:t=i
      · subst hti
        rw[ho] at hto;simp at hto;subst hto;obtain⟨h7,h8⟩:=hb e he;exact⟨h7,by simp[h8]⟩
      · obtain⟨h7,h8⟩:=hc t o' ht hto (by simpa[hti] using hSt) e he
        exact⟨h7,by simp[h8]⟩
    have hag':DS n (DY lw (Gq sp i).old (C2 ops (Zg sp u) (Gq sp i).deps l0)) a Z:=Nb (IE h2 (λj hj d hd=>by
        obtain⟨h5,h6⟩:=b3 i hi j (by rw[hdep i hi];exact hj);rw[AgI,ho,AgX,List.contains_iff_mem] at h6;obtain⟨o2,ho2⟩:=hops j h5;obtain⟨v,hv1,hv2⟩:=h3 j o2 d h5 (hb j h6).2 ho2 (by simpa[CD,ho2] using hd);refine⟨v,hv1,?_⟩;rw[hspq u j h5];exact hv2)) (λd hd q hq=>ho5 d q hq (λwr hwr hdw=>by
          cases hS:S wr with
          | false=>rfl
          | true=>have:=ho6 wr i d hwr hi hdw hd hS;rw[this] at hun;cases hun))
    have hlev:∀j,j<N→S j=Af→∀m (hm:m<Ae is),m<(Gq sp j).lv→S is[m]=Af:=λj hj hSj m hm hlt=>by
      have h7:=b4 j hj;rw[hlv j hj] at h7;have h8:=h7.1;have hm1:(Gq sp j).lv-1<Ae is:=Ab
      rw[hisD _ hm1] at h7;have h9:S is[(Gq sp j).lv-1]=Af:=by
        have hg:=h7.2;simp only[AgZ,beq_iff_eq] at hg;rcases hg with(hg | hg) | hg
        · omega
        · rw[← hg];exact hSj
        · have:=clo (λk=>Ac (k<N)&&S k) hcl j _ hg (by simp[hj,hSj])
          simp only[AgO] at this;exact this.2
      exact hpre _ hm1 h9 m hm Ab
    unfold ObY at hat
    cases hf:is.findIdx? (λx=>Nat.beq x i) with
    | some k=>
      rw[hf] at hat;obtain⟨hk,hki,_⟩:=List.findIdx?_eq_some_iff_getElem.1 hf;have hik:is[k]=i:=Nat.eq_of_beq_eq_true hki;have hlow:∀j (hj:j<Ae is),j<k→S is[j]=Af:=λj hj hjk=>by
        obtain⟨k',rfl⟩:∃k',k=k'+1:=⟨k-1,Ab⟩
        have h7:=bch (k'+1) hk;rw[hisD _ hk] at h7;simp only[AgZ,beq_iff_eq,Nat.succ_ne_zero,false_or,Nat.add_sub_cancel] at h7;have hk':k'<Ae is:=Ab
        rw[hisD k' hk',hik] at h7;have hne:is[k']≠i:=λe=>by
          have:=(List.getElem_inj Oi).1 (e.trans hik.symm);omega
        exact hpre k' hk' (hanc _ h7 hne) j hj Ab
      have hhigh:∀j (hj:j<Ae is),k≤j→S is[j]=Ah:=λj hj hle=>by
        cases hS:S is[j] with
        | false=>rfl
        | true=>have:=hpre j hj hS k hk hle;rw[hik,hun] at this;cases this
      have hcnt:cnt S is=k:=Od Ab (λj hj h=>hlow j hj h) (λj hj h=>hhigh j hj h);have hcnt':cnt (λj=>j ==i||S j) is=k+1:=Od Ab (λj hj h=>by
        by_cases e:j=k
        · subst e;simp[hik]
        · simp[hlow j hj Ab]) (λj hj h=>by
        have hne:is[j]≠i:=λe=>by have:=(List.getElem_inj Oi).1 (e.trans hik.symm);omega
        simp[hne,hhigh j hj Ab])
      rw[hcnt] at h1;have key:=λK' hK'=>hat u a w Z K' hag' h1 hK';have h5:∀u' v w' Z',Ag k u u'→Fz.le Z Z'→((Gq sp i).r u').p Z' v→St c (hs.getD (k+1) (λ_=>[]) u') Z' w'→K (a.put o.dst v) w':=λu' v w' Z' hag hz hpv hs'=>by
        refine hK _ _ ⟨u',Z',by rw[hcnt'];exact hs',hagr v Z' hz,hvals v Z' u' hz (λj hj hji hSj=>?_) (λ_=>hpv),hcl',hold' Z' hz v,hord⟩;refine(hst.at (hsa j hj) u u' (λm hm=>hag m ?_)).symm;have hlj:=(b4 j hj).1;rw[hlv j hj] at hlj;have hml:m<Ae is:=Ab
        cases Nat.lt_or_ge m k with
        | inl h7=>exact h7
        | inr h7=>have:=hlev j hj hSj m hml hm;rw[hhigh m hml h7] at this;cases this
      refine⟨λ_=>(key K h5).2,λhw'=>?_⟩;rw[(key K h5).1] at hw';cases hw'
    | none=>
      rw[hf] at hat;have hni:∀x∈is,x≠i:=λx hx e=>by
        have:=List.findIdx?_eq_none_iff.1 hf x hx;subst e;simp at this
      have hcnt':cnt (λj=>j ==i||S j) is=cnt S is:=Pt λx hx=>by simp[hni x hx]
      by_cases hfi:(Gq sp i).fx=Af
      · simp only[hfi,if_true] at hat
        have hli:=b4 i hi;rw[hlv i hi] at hli;have hcnt:cnt S is=(Gq sp i).lv:=Od hli.1 (λj hj h=>?_) (λj hj h=>?_)
        · rw[hcnt] at h1
          refine hat u a w Z K hag' h1 (λv w' Z' hz hp hst'=>hK _ _ ⟨u,Z',?_,hagr v Z' hz,hvals v Z' u hz (λ_ _ _ _=>rfl) (λ_=>hp),hcl',hold' Z' hz v,hord⟩);rw[hcnt',hcnt];exact hst'
        · have h7:=hli.2
          have hm1:(Gq sp i).lv-1<Ae is:=Ab
          rw[hisD _ hm1] at h7;simp only[AgZ,beq_iff_eq] at h7;rcases h7 with(h7 | h7) | h7
          · omega
          · exact absurd h7.symm (hni _ (List.getElem_mem hm1))
          · exact hpre _ hm1 (hanc _ h7 (hni _ (List.getElem_mem hm1))) j hj Ab
        · have h7:=b6 i hi
          rw[hfx i hi,hfi,hlv i hi] at h7;simp only[Ahl,Ahb,AgZ,beq_iff_eq] at h7;rcases h7 with h7 | h7
          · omega
          · have hm1:(Gq sp i).lv<Ae is:=Ab
            rw[hisD _ hm1] at h7
            cases hS:S is[j] with
            | false=>rfl
            | true=>
              have h8:=hpre j hj hS _ hm1 h;have:=clo (λk=>Ac (k<N)&&S k) hcl _ _ h7 (by show(Ac (is[(Gq sp i).lv]<N)&&S is[(Gq sp i).lv])=Af;rw[hSis _ hm1];exact h8);simp only[AgO,hun] at this;exact absurd this.2 Aj
      · simp only[hfi,Ahx] at hat
        refine hat u (cnt S is) (List.length_filter_le _ _) a w Z K hag' h1 (λv w' Z' hz hp hst'=>hK _ _ ⟨u,Z',?_,hagr v Z' hz,hvals v Z' u hz (λ_ _ _ _=>rfl) (λ_=>hp),hcl',hold' Z' hz v,hord⟩);rw[hcnt'];exact hst'
  · obtain⟨u,Z,h1,h2,h3,_,_,_⟩:=hI
    have hsl:Ae (saY sp u)=N:=by simp[saY,hsp]
    have hcnt:cnt (λ_=>Af) is=Ae is:=Od (AgU _) (λ_ _ _=>rfl) (λj hj h=>by omega);rw[hcnt] at h1;refine h u a w Z (L9 h2 _ _ 0 (λt o s d ht hs hd=>?_)) h1;have htN:t<N:=by have:=(List.getElem?_eq_some_iff.1 hs).1;omega
    have hs':s = { deps:=(Gq sp t).deps,r:=(Gq sp t).r u }:=by
      simp only[saY,AgT,hsa t htN,Option.map_some,Option.some.injEq] at hs;exact hs.symm
    subst hs';rw[Aha];exact h3 t o d htN rfl (by rw[← hget t htN];exact ht) hd
theorem PE (N:Nat)(is ks0 ksw:List Nat)(sp:List Sy)(hs:List (Ux→List Ent))(hst:Px sp)(hob:KZ P n c ops.toArray Q ops sp l0 lw is hs 0 (ops.take N))(h:∀u,WL P n c ops.toArray Q (ops.drop N) (IR (λ_=>0) (ops.take N) (saY sp u) 0 l0) (hs.getD (Ae is) (λ_=>[]) u))
  (h0:Kp ks0 l l0:=by repeat (first | exact KE | (apply IQ;rfl) | (apply JY;rfl))) (hw:Kp ksw l lw:=by repeat (first | exact KE | (apply IQ;rfl) | (apply JY;rfl))) (hm:P.follows .mixedOrders=Af:=by kernel_rfl) (hB:okY n ops N is (Es l0) (sp.map (·.deps)) (sp.map (·.lv)) (sp.map (·.fx)) (sp.map (·.old))=Af:=by kernel_rfl)
  (hsp:Ae sp=N:=by rfl) (hH:∀u,hs.getD 0 (λ_=>[]) u=H:=by exact λ_=>rfl):WC P n c (.region id ops.toArray Af) Q l H:=ZC N is sp hs hm hB h0.one hw.one hsp hst hH hob h
theorem MS (hr:∀{u H},Ec P n c opsA Q (DY lw (Gq sp i).old (C2 all (Zg sp u) (Gq sp i).deps l0)) H o ((Gq sp i).r u) H)(h:KZ P n c opsA Q all sp l0 lw is hs (i+1) rest)(hne:is.findIdx? (λx=>Nat.beq x i)=Ai:=by rfl)(hf:(Gq sp i).fx=Ah:=by rfl):KZ P n c opsA Q all sp l0 lw is hs i (o::rest):=by
 refine⟨?_,h⟩;unfold ObY;rw[hne];simp only[hf,Bool.false_eq_true,Ahx];exact λu _ _=>hr
def Wl (p:List Ent→Prop)(u:Ux):List (Ux→List Ent)→Prop
 | []=>True
 | f::r=>p (f u)∧Wl p u r
theorem Wl.at {p:List Ent→Prop}{u:Ux}:∀{hs:List (Ux→List Ent)},Wl p u hs→∀k,k<hs.length→p (hs.getD k (λ_=>[]) u)
 | [],_,k,h=>absurd h (Nat.not_lt_zero _)
 | f::r,⟨h1,h2⟩,0,_=>h1
 | f::r,⟨h1,h2⟩,k+1,h=>Wl.at h2 k (by simpa using h)
theorem oya (hr:∀{u},Wl (λH'=>Ec P n c opsA Q (DY lw (Gq sp i).old (C2 all (Zg sp u) (Gq sp i).deps l0)) H' o ((Gq sp i).r u) H') u hs)(h:KZ P n c opsA Q all sp l0 lw is hs (i+1) rest)(hne:is.findIdx? (λx=>Nat.beq x i)=Ai:=by rfl)(hf:(Gq sp i).fx=Ah:=by rfl)(hl:hs.length=Ae is+1:=by rfl):KZ P n c opsA Q all sp l0 lw is hs i (o::rest):=by
 refine⟨?_,h⟩;unfold ObY;rw[hne];simp only[hf,Bool.false_eq_true,Ahx];exact λu k hk=>Wl.at hr k Ab
theorem oyf (hr:∀{u},Ec P n c opsA Q (DY lw (Gq sp i).old (C2 all (Zg sp u) (Gq sp i).deps l0)) (hs.getD (Gq sp i).lv (λ_=>[]) u) o ((Gq sp i).r u) (hs.getD (Gq sp i).lv (λ_=>[]) u))(h:KZ P n c opsA Q all sp l0 lw is hs (i+1) rest)(hne:is.findIdx? (λx=>Nat.beq x i)=Ai:=by rfl)(hf:(Gq sp i).fx=Af:=by rfl):KZ P n c opsA Q all sp l0 lw is hs i (o::rest):=by
 refine⟨?_,h⟩;unfold ObY;rw[hne];simp only[hf,if_true];exact λu=>hr
theorem oyx (k:Nat)(hr:∀{u},OpY P n c opsA Q (DY lw (Gq sp i).old (C2 all (Zg sp u) (Gq sp i).deps l0)) (hs.getD k (λ_=>[]) u) o k u (Gq sp i).r (hs.getD (k+1) (λ_=>[])))(h:KZ P n c opsA Q all sp l0 lw is hs (i+1) rest)(hne:is.findIdx? (λx=>Nat.beq x i)=Ad k:=by rfl):KZ P n c opsA Q all sp l0 lw is hs i (o::rest):=by
 refine⟨?_,h⟩;unfold ObY;rw[hne];exact λu=>hr
theorem oye:KZ P n c opsA Q all sp l0 lw is hs i []:=trivial
end
section
variable {P : Program} {n : Nat} {c : Cx} {opsA : Array Oper} {Q : Exit → Act → World → Prop} {l : Fr} {H : List Ent} {d : Nat} {x y : Operand} {ty t e : TypeId} {pos : String} {af : Array Edge} {v : Value} {sz : Nat}
theorem Su {k:Nat}{u:Ux}{f:FuncId}{args:List Operand}{ats:Array TypeId}{r:Ux→Rp}{H1:Ux→List Ent}{Hin Hr:List Ent}(hcall:∀(as1:Array Value) (w:World),(callFunc f as1).run P w = .ok (.enter f as1) w)(hv:JV l args=Ad rs)
  (hp:H.Perm (Hin++Hr)) (hc:Fn P c.E f rs Hin Φ) (hΦ:∀r' H',Φ r' H'→∃u',Ag k u u'∧r'=r u'∧H'++Hr=H1 u'):OpY P n c opsA Q l H { dst:=Ad d,op:=.call { callee:=.value (.func f),args:=args.toArray,argTypes:=ats },type:=ty,pos:=pos,after:=af,guard:=Ai } k u r H1:=λa w Z K ha hw hK=>by
 refine⟨by simp[Region.wanted],?_⟩;unfold Oper.wp;rw[EC rfl hcall w];refine(hc w Z _ (E8 ha hv) (hw.perm hp).enter).mono ?_;rintro e w' ⟨r',v,H',Z',rfl,hΦ',hr,hs⟩;obtain⟨u',h1,h2,h3⟩:=hΦ r' H' hΦ';subst h2;exact hK u' v w' Z' h1 hs.le hr (h3▸(hw.perm hp).call hs)
end
end
end Go.Proofs.YtinflkgbhkcfnaaGreatDoor.Q
namespace Go.Proofs.YtinflkgbhkcfnaaGreatDoor
open Go
end Go.Proofs.YtinflkgbhkcfnaaGreatDoor
namespace Go.Proofs.YtinflkgbhkcfnaaGreatDoor.Q
open Go Go.RowKit
set_option linter.unusedVariables false
set_option linter.unusedSectionVars false
section
variable [I : Dfr]
section
variable {P : Program} {n : Nat} {c : Cx} {ops : Array Oper} {Q : Exit → Act → World → Prop} {rest : List Oper} {l : Fr} {H : List Ent} {d : Nat} {d' : Option Nat} {t kt et ty : TypeId} {pos : String} {af : Array Edge} {g : Option (Nat × Bool)} {x y u : Operand} {b i : Nat} {T : Type} {enc : T → Rp} {xs : List (Int × T)} {z : T} {zv : Value}
theorem EB {k:A1}{xs:List (A1×T)}{v:T}(ht:P.underlying t=Ad (.map kt et))(hk:P.underlying kt=Ad .string)(hx:ev l x=Ad (rv (.map (Ad b))))(hi:H[i]? =Ad (.map b (Bz enc xs)))(hy:ev l y=Ad (rS k))(hu:ev l u=Ad (enc v)){H':List Ent}(hH:H.set i (.map b (Bz enc (Cj xs k v)))=H')(h:WL P n c ops Q rest l H') :
  WL P n c ops Q ({ dst:=Ai,op:=.insert t x y u,type:=ty,pos:=pos,after:=af,guard:=Ai }::rest) l H:=by
 have:=Ln (n:=n) (c:=c) (ops:=ops) (Q:=Q) (rest:=rest) (ty:=ty) (pos:=pos) (af:=af) ht hk hx hi hy hu hH h;exact this
end
end
set_option linter.unusedSimpArgs false
variable{i:Int}{w:World}{Z:Fz}{cs:List Rp}{off b j:Nat}{Hr:List Ent}{β:Type}
section
variable [I : Dfr]
def Py (k:Nat)(i:Int)(off:Nat)(Z:Fz)(v:Value):Prop:=if i<0 then v = .pointer Ai else ∃b,Z.nm k i.toNat=Ad b∧v = .pointer (Ad ⟨b,off,Ai⟩)
def Gs (k:Nat)(i:Int)(off:Nat):Rp:=⟨Py k i off,fun {Z Z' v} h hp=>by
 unfold Py at *
 split
 ·rename_i h0;rwa [Ahe h0] at hp
 ·rename_i h0;rw[AgV h0] at hp;obtain⟨b,h1,h2⟩:=hp;exact⟨b,h.nm k _ b h1,h2⟩,Af,λ_ Z v hp=>by
 change Py k i off Z v at hp
 unfold Py at hp
 split at hp
 ·rw[hp];rfl
 ·obtain⟨b,_,h2⟩:=hp;rw[h2];rfl⟩
@[reducible] def eP (k:Nat)(i:Int):List Rp:=[Gs k i 0]
theorem Qy (k:Nat)(i:Int):Ae (eP k i)=1:=rfl
theorem Y4 (k:Nat)(i:Int):(eP k i).all (·.one)=Af:=rfl
@[reducible] def mP (k:Nat)(i:Int):Rp:=Gs k i 0
theorem AdM (k:Nat)(Z:Fz):(mP k (-1)).p Z (.pointer Ai):=rfl
theorem EJ.pnil (k:Nat):EJ (rv (.pointer Ai)) (Gs k (-1) 0):=λZ v h=>h
section
variable {P : Program} {n : Nat} {c : Cx} {ops : Array Oper} {Q : Exit → Act → World → Prop} {rest : List Oper} {l : Fr} {H H' : List Ent} {d : Nat} {d' : Option Nat} {x y : Operand} {ty t t' e : TypeId} {pos : String} {af : Array Edge} {g : Option (Nat × Bool)} {v u : Value} {r : Rp} {sz k : Nat} {pv : Value} {α : Type} [Inhabited α] {xs : List α} {enc : α → List Rp}
theorem MR (hw:St c H Z w)(hi:H[j]? =Ad (.pool k pv e (xs.map enc)))(hg:CR i (Ae xs:Int)=Af)(hp:(Gs k i off).p Z v) :
  ∃b us,v = .pointer (Ad ⟨b,off,Ai⟩)∧(Ek pv)[i.toNat]? =Ad b∧w.heap[b]? =Ad (.cells us.toArray e (0,0))∧B8 Z (enc (Ax xs i)) us:=by
 obtain⟨h0,hl,h⟩:=hw.ent hi;have hi0:=(C7 hg).1;have hi1:i.toNat<Ae xs:=by have:=(C7 hg).2;omega
 have hb:i.toNat<Ae (Ek pv):=by rw[hl,AgP];exact hi1
 obtain⟨h1,us,h2,h3⟩:=h i.toNat (Ek pv)[i.toNat] (enc xs[i.toNat]) (AgJ hb) (by simp[hi1])
 change Py k i off Z v at hp
 unfold Py at hp;rw[AgV Ab] at hp;obtain⟨b,h4,h5⟩:=hp;rw[h1] at h4;obtain rfl:=Option.some.inj h4;exact⟨_,us,h5,AgJ hb,h2,by rw[show Ax xs i=xs[i.toNat] from by simp[Ax,hi1]];exact h3⟩
theorem Eg (hag:∀w,(isAgg t).run P w = .ok Ah w)(hx:ev l x=Ad (Gs k i off))(hi:H[j]? =Ad (.pool k pv e (xs.map enc)))(hg:CR i (Ae xs:Int)=Af)(hc:(enc (Ax xs i))[off]? =Ad r) :
  Ce P n c l H { dst:=d',op:=.load t x,type:=ty,pos:=pos,after:=af,guard:=g } r:=λa w Z ha hw=>by
 obtain⟨b,us,e1,_,h1,h2⟩:=MR hw hi hg (ha.ev hx);obtain⟨u,hu,hp⟩:=h2.at hc;have hcell:w.cell? ⟨b,off,Ai⟩=Ad u:=by rw[cell_of_row w b off _ e (0,0) h1];simpa using hu
 exact⟨u,hp,by simp[execOp,e1,Instr.loadAt,Instr.sureAddr,loadVar,hag,hcell]⟩
theorem LY {rs:List Rp}(hag:∀w,(isAgg t).run P w = .ok Af w)(hsz:∀w,(sizeOf t).run P w = .ok sz w)(hx:ev l x=Ad (Gs k i off))(hi:H[j]? =Ad (.pool k pv e (xs.map enc)))(hg:CR i (Ae xs:Int)=Af)
  (hr:((enc (Ax xs i)).drop off).take sz=rs) (hl:Ae rs=sz):Ce P n c l H { dst:=d',op:=.load t x,type:=ty,pos:=pos,after:=af,guard:=g } (BT rs):=λa w Z ha hw=>by
 obtain⟨b,us,e1,_,h1,h2⟩:=MR hw hi hg (ha.ev hx);have h3:=(h2.drop off).take sz;rw[hr] at h3;have hlen:=h3.length;have h4:=run_loadCells_list (P:=P) w ⟨b,off,Ai⟩ ((us.drop off).take sz) (λj u hj=>by
  rw[J3,cell_of_row w b _ _ e (0,0) h1];rw[Ahd] at hj
  split at hj
  ·simpa using hj
  ·cases hj)
 rw[hlen,hl] at h4;exact⟨.agg ((us.drop off).take sz).toArray,⟨_,rfl,h3⟩,by simp[execOp,e1,Instr.loadAt,Instr.sureAddr,loadVar,hag,hsz,h4]⟩
theorem C1 (hx:ev l x=Ad (Gs k i off))(hg:Ac (0≤i)=Af):Ce P n c l H { dst:=d',op:=.nilCheck x,type:=ty,pos:=pos,after:=af,guard:=g } (Gs k i off):=λa w Z ha hw=>by
 have h:=ha.ev hx;have h':=h
 change Py k i off Z _ at h
 unfold Py at h;rw[AgV (by have:=Ahi hg;omega)] at h;obtain⟨b,_,e1⟩:=h;exact⟨a.eval x,h',by simp[execOp,e1]⟩
theorem DZ {off' i:Nat}{q:Int}{fs:Array Field}{f:Field}(hu:P.underlying t=Ad (.struct fs))(hf:fs[i]? =Ad f)(hsz:∀w,(sizeOf f.type).run P w = .ok (sz+1) w)
  (hx:ev l x=Ad (Gs k q off)) (hg:Ac (0≤q)=Af) (ho:off+f.offset=off'):Ce P n c l H { dst:=d',op:=.fieldAddr t x i,type:=ty,pos:=pos,after:=af,guard:=g } (Gs k q off'):=λa w Z ha hw=>by
 have h:=ha.ev hx
 change Py k q off Z _ at h
 unfold Py at h;have h0:=Ahi hg;rw[AgV Ab] at h;obtain⟨b,h1,e1⟩:=h;subst ho;refine⟨.pointer (Ad ⟨b,off+f.offset,Ai⟩),?_,by simp[execOp,e1,Instr.fieldAt,run_underlying hu,hf,Instr.sureAddr,fieldPlace,hsz,J3]⟩;show Py k q (off+f.offset) Z _;unfold Py;rw[AgV Ab];exact⟨b,h1,rfl⟩
theorem St.poolset {xs:List β}{enc:β→List Rp}{us us':List Value}{y':β}(hw:St c H Z w)(hi:H[j]? =Ad (.pool k pv e (xs.map enc)))(hb:(Ek pv)[i.toNat]? =Ad b)(h1:w.heap[b]? =Ad (.cells us.toArray e (0,0)))(h2:B8 Z (enc y') us') :
  St c (H.set j (.pool k pv e ((xs.set i.toNat y').map enc))) Z (w.setRow b us'.toArray):=by
 obtain⟨h0,hl,h⟩:=hw.ent hi;have hbl:=(List.getElem?_eq_some_iff.1 hb).1;refine hw.setp hi rfl rfl rfl (by simp[World.setRow]) (λq _ hq=>?_) ⟨h0,by simpa using hl,λi' b' cs h3 h4=>?_⟩ (λq hq=>.inl hq) rfl rfl
 ·have:q≠b:=λe=>hq (by subst e;exact AgS hb);simp only[World.setRow,Array.getElem?_modify];rw[AgV (λe=>this e.symm)]
 ·rw[List.map_set,List.getElem?_set] at h4
  split at h4
  ·rename_i hii
   subst hii
   split at h4
   ·rw[hb] at h3;obtain rfl:=Option.some.inj h3;obtain rfl:=Option.some.inj h4;obtain⟨g1,_⟩:=h i.toNat b _ hb (AgJ Ab);exact⟨g1,us',setRow_heap w b _ _ e (0,0) h1,h2⟩
   ·cases h4
  ·rename_i hii
   obtain⟨g1,vs,g2,g3⟩:=h i' b' cs h3 h4;have hne:b'≠b:=λe=>hii (by
    subst e;have e1:=(List.getElem?_eq_some_iff.1 h3)
    have e2:=(List.getElem?_eq_some_iff.1 hb)
    exact(List.getElem_inj h0).1 (e2.2.trans e1.2.symm))
   refine⟨g1,vs,?_,g3⟩;simp only[World.setRow,Array.getElem?_modify];rw[AgV (λe=>hne e.symm)];exact g2
theorem M9 {y':α}(hag:∀w,(sizeOf t).run P w = .ok 1 w)(hx:ev l x=Ad (Gs k i off))(hy:ev l y=Ad r)(hv:Ka H r)(hi:H[j]? =Ad (.pool k pv e (xs.map enc)))(hg:CR i (Ae xs:Int)=Af)
  (hy':(enc (Ax xs i)).set off r=enc y') (hlt:Nat.blt off (Ae (enc (Ax xs i)))=Af) (hH:H.set j (.pool k pv e ((xs.set i.toNat y').map enc))=H') :
  Adg P n c l H { dst:=Ai,op:=.store t x y,type:=ty,pos:=pos,after:=af,guard:=Ai } H':=λa w Z ha hw=>by
  obtain⟨b,us,e1,hb,h1,h2⟩:=MR hw hi hg (ha.ev hx);have hr:=ha.ev hy;have hone:=hv c Z w _ hw hr;have hlen:=h2.length;have hlt':off<Ae us:=by rw[hlen];simpa using hlt
  have h4:=run_storeCells_at P b off e [a.eval y] 0 us.toArray w h1 Am (by simpa using hone);have hcv:=Dm hone;have h3:us.take off++[a.eval y]++us.drop (off+1)=us.set off (a.eval y):=by
   simp[List.set_eq_take_append_cons_drop,hlt']
  simp only[Nat.add_zero,Ahc,List.length_nil,Aha] at h4;rw[h3] at h4;refine⟨w.setRow b (us.set off (a.eval y)).toArray,?_,?_⟩
  ·simp[execOp,e1,Instr.storeAt,Instr.sureAddr,storeVar,hag,hcv,h4]
  ·subst hH;exact hw.poolset hi hb h1 (by rw[← hy'];exact h2.set off hr)
theorem Vf {y':α}(hag:∀w,(sizeOf t).run P w = .ok 1 w)(hx:ev l x=Ad (Gs k i off))(hy:ev l y=Ad r)(hv:Ka H r)(hi:H[j]? =Ad (.pool k pv e (xs.map enc)))(hg:CR i (Ae xs:Int)=Af)
  (hy':(enc (Ax xs i)).set off r=enc y') (hlt:Nat.blt off (Ae (enc (Ax xs i)))=Af) (hH:H.set j (.pool k pv e ((xs.set i.toNat y').map enc))=H') (h:WL P n c ops Q rest l H') :
  WL P n c ops Q ({ dst:=Ai,op:=.store t x y,type:=ty,pos:=pos,after:=af,guard:=Ai }::rest) l H:=
 WT λa w Z ha hw=>by
  obtain⟨b,us,e1,hb,h1,h2⟩:=MR hw hi hg (ha.ev hx);have hr:=ha.ev hy;have hone:=hv c Z w _ hw hr;have hlen:=h2.length;have hlt':off<Ae us:=by rw[hlen];simpa using hlt
  have h4:=run_storeCells_at P b off e [a.eval y] 0 us.toArray w h1 Am (by simpa using hone);have hcv:=Dm hone;have h3:us.take off++[a.eval y]++us.drop (off+1)=us.set off (a.eval y):=by
   simp[List.set_eq_take_append_cons_drop,hlt']
  simp only[Nat.add_zero,Ahc,List.length_nil,Aha] at h4;rw[h3] at h4;refine⟨w.setRow b (us.set off (a.eval y)).toArray,H',?_,?_,h⟩
  ·simp[execOp,e1,Instr.storeAt,Instr.sureAddr,storeVar,hag,hcv,h4]
  ·subst hH;exact hw.poolset hi hb h1 (by rw[← hy'];exact h2.set off hr)
theorem St.adopt0 {ys:List (List Rp)}{pv':Value}(h:St c (.blk b cs e::.pool k pv e ys::Hr) Z w)(hpv:Ek pv'=Ek pv++[b]):∃Z',Fz.le Z Z'∧Z'.nm k (Ae ys)=Ad b∧St c (.pool k pv' e (ys++[cs])::Hr) Z' w:=by
 obtain⟨us,hb1,hb2⟩:=h.has (.blk b cs e) Aj;obtain⟨h0,hl,hp⟩:=h.has (.pool k pv e ys) Aj;have hd:=List.pairwise_cons.1 h.dis;have hd2:=List.pairwise_cons.1 hd.2;have gd:=List.pairwise_cons.1 h.gst.dis;have gd2:=List.pairwise_cons.1 gd.2;have hcap:=h.gst.cap (.pool k pv e ys) Aj k (by simp[Ent.gk]);have hksz:=h.gst.sz (.pool k pv e ys) Aj k (by simp[Ent.gk]);have hkown:=h.gst.own (.pool k pv e ys) Aj k (by simp[Ent.gk])
 let Z':Fz:=⟨Z.f,λq i=>if q=k∧i=Ae ys then Ad b else Z.nm q i⟩
 have hnew:Z'.nm k (Ae ys)=Ad b:=by simp[Z']
 have hle:Fz.le Z Z':=⟨λ_ _ h=>h,λq i b' hq=>by
  by_cases hqi:q=k∧i=Ae ys
  ·obtain⟨rfl,rfl⟩:=hqi;rw[hcap _ (by simp[Ent.gn,hl])] at hq;cases hq
  ·simpa[Z',hqi] using hq⟩
 have hbn:b ∉ Ek pv:=λhbs=>hd.1 (.pool k pv e ys) Aj b (by simp[Ent.foot]) hbs;refine⟨Z',hle,hnew,h.os,h.tape,h.output,h.size,h.old,λen he=>?_,λen he q hq=>?_,?_,⟨λb o hb=>h.frz.f b o hb,λq i b' hq=>?_⟩,h.le.trans hle,λb o hb=>h.new b o hb,λen he q hq=>?_,h.emono hle h.env,h.emono,⟨λen he q hq=>?_,λen he q hq=>?_,?_,λq i b' hq=>?_,λen he q hq i hi=>?_⟩⟩
 ·rcases List.mem_cons.1 he with rfl | he
  ·refine⟨by rw[hpv];exact List.nodup_append.2 ⟨h0,Aj,λx hx y hy e=>by simp at hy;subst hy;exact hbn (e▸hx)⟩,by rw[hpv];simp[hl],λi b' cs' h1 h2=>?_⟩
   ·rw[hpv] at h1
    by_cases hi:i<Ae (Ek pv)
    ·rw[Ahj hi] at h1;rw[Ahj Ab] at h2;obtain⟨g1,vs,g2,g3⟩:=hp i b' cs' h1 h2;exact⟨hle.nm k i b' g1,vs,g2,g3.mono hle⟩
    ·have hi2:i=Ae (Ek pv):=by have:=(List.getElem?_eq_some_iff.1 h1).1;simp at this;omega
     subst hi2;simp at h1;subst h1;rw[hl] at h2;simp at h2;subst h2;exact⟨by rw[hl];exact hnew,us,hb1,hb2.mono hle⟩
  ·exact Ent.keep (h.has en (by simp[he])) hle λ_ _=>rfl
 ·rcases List.mem_cons.1 he with rfl | he
  ·rcases List.mem_append.1 (hpv▸(show q∈Ek pv' from hq)) with hq | hq
   ·exact h.own (.pool k pv e ys) Aj q hq
   ·simp at hq;subst hq;exact h.own (.blk q cs e) Aj q (by simp[Ent.foot])
  ·exact h.own en (by simp[he]) q hq
 ·refine List.pairwise_cons.2 ⟨λen he q hq hq'=>?_,hd2.2⟩;rcases List.mem_append.1 (hpv▸(show q∈Ek pv' from hq)) with hq | hq
  ·exact hd2.1 en he q hq hq'
  ·simp at hq;subst hq;exact hd.1 en (by simp[he]) q (by simp[Ent.foot]) hq'
 ·by_cases hqi:q=k∧i=Ae ys
  ·rw[hqi.1];exact hksz
  ·exact h.frz.nm q i b' (by simpa[Z',hqi] using hq)
 ·rcases List.mem_cons.1 he with rfl | he
  ·rcases List.mem_append.1 (hpv▸(show q∈Ek pv' from hq)) with hq | hq
   ·exact h.zdis (.pool k pv e ys) Aj q hq
   ·simp at hq;subst hq;exact h.zdis (.blk q cs e) Aj q (by simp[Ent.foot])
  ·exact h.zdis en (by simp[he]) q hq
 ·rcases List.mem_cons.1 he with rfl | he
  ·simp[Ent.gk] at hq;subst hq;exact hkown
  ·exact h.gst.own en (by simp[he]) q hq
 ·rcases List.mem_cons.1 he with rfl | he
  ·simp[Ent.gk] at hq;subst hq;exact hksz
  ·exact h.gst.sz en (by simp[he]) q hq
 ·exact List.pairwise_cons.2 ⟨λen he q hq hq'=>gd2.1 en he q hq hq',gd2.2⟩
 ·by_cases hqi:q=k∧i=Ae ys
  ·rw[hqi.1];exact .inr hkown
  ·exact h.gst.new q i b' (by simpa[Z',hqi] using hq)
 ·rcases List.mem_cons.1 he with rfl | he
  ·simp[Ent.gk] at hq;subst hq;simp[Ent.gn,hpv] at hi;have : ¬ i=Ae ys:=Ab
   simp only[Z',this,and_false,Ahx];exact hcap i (by simp[Ent.gn];omega)
  ·have hqk:q≠k:=λe1=>gd2.1 en he k (by simp[Ent.gk]) (e1▸hq);simp only[Z',hqk,false_and,Ahx];exact h.gst.cap en (by simp[he]) q hq i hi
theorem St.adopt {ys:List (List Rp)}(h:St c (.blk b cs e::.pool k pv e ys::Hr) Z w):∃Z',Fz.le Z Z'∧Z'.nm k (Ae ys)=Ad b∧St c (.pool k (Ac4 (Ek pv++[b])) e (ys++[cs])::Hr) Z' w:=St.adopt0 h (Abi _)
theorem Py.of {N:Nat}(h:Z.nm k N=Ad b):∀v,(rv (.pointer (Ad ⟨b,0,Ai⟩))).p Z v→(Gs k (N:Int) 0).p Z v:=λv hv=>by
 show Py k N 0 Z v;unfold Py;rw[AgV Ab];exact⟨b,by simpa using h,hv⟩
def Zc (l:Fr)(b:Nat):List Nat→Prop
 | []=>True
 | d::ds=>look l d=Ad (rv (.pointer (Ad ⟨b,0,Ai⟩)))∧Zc l b ds
def asP (k N:Nat):List Nat→Fr→Fr
 | [],l=>l
 | d::ds,l=>(d,Gs k (N:Int) 0)::asP k N ds l
theorem QC {Z:Fz}{a:Act}{b N:Nat}{l:Fr}(ha:DS n l a Z)(hn:Z.nm k N=Ad b):∀{ds:List Nat},Zc l b ds→DS n (asP k N ds l) a Z
 | [],_=>ha
 | d::ds,⟨h1,h2⟩=>by
  have h3:=QC ha hn h2;refine⟨h3.size,h3.defers,λi u hi=>?_⟩;rw[asP,Dp] at hi
  split at hi
  ·rename_i e;subst e;simp at hi;subst hi
   obtain⟨v,h4,h5⟩:=ha.tm d _ h1;exact⟨v,h4,Py.of hn v h5⟩
  ·exact h3.tm i u hi
theorem St.adoptE {xs:List β}{enc:β→List Rp}{y:β}(hw:St c H Z w)(hp:H.Perm (.blk b cs e::.pool k pv e (xs.map enc)::Hr))(hcs:cs=enc y) :
  ∃Z' pv',Fz.le Z Z'∧Z'.nm k (Ae xs)=Ad b∧St c (.pool k pv' e ((xs++[y]).map enc)::Hr) Z' w:=by
 obtain⟨Z',h1,h2,h3⟩:=(hw.perm hp).adopt;subst hcs;rw[AgP] at h2;exact⟨Z',_,h1,h2,by rw[Ahk];exact h3⟩
theorem WL.adopt {xs:List β}{enc:β→List Rp}{y:β}(hp:H.Perm (.blk b cs e::.pool k pv e (xs.map enc)::Hr))(ds:List Nat)(hd:Zc l b ds)(hcs:cs=enc y)
  (h:∀pv',WL P n c ops Q rest (asP k (Ae xs) ds l) (.pool k pv' e ((xs++[y]).map enc)::Hr)):WL P n c ops Q rest l H:=λa w Z ha hw=>by
 obtain⟨Z',pv',h1,h2,h3⟩:=St.adoptE hw hp hcs;exact h pv' a w Z' (QC (ha.mono h1) h2 hd) h3
theorem WC.adopt {xs:List β}{enc:β→List Rp}{y:β}{xx:Code}(hp:H.Perm (.blk b cs e::.pool k pv e (xs.map enc)::Hr))(ds:List Nat)(hd:Zc l b ds)(hcs:cs=enc y)
  (h:∀pv',WC P n c xx Q (asP k (Ae xs) ds l) (.pool k pv' e ((xs++[y]).map enc)::Hr)):WC P n c xx Q l H:=λa w Z ha hw=>by
 obtain⟨Z',pv',h1,h2,h3⟩:=St.adoptE hw hp hcs;exact h pv' a w Z' (QC (ha.mono h1) h2 hd) h3
theorem WK.adopt {xs:List β}{enc:β→List Rp}{y:β}{K:Act→World→Prop}(hp:H.Perm (.blk b cs e::.pool k pv e (xs.map enc)::Hr))(ds:List Nat)(hd:Zc l b ds)(hcs:cs=enc y)
  (h:∀pv',WK n c K (asP k (Ae xs) ds l) (.pool k pv' e ((xs++[y]).map enc)::Hr)):WK n c K l H:=λa w Z ha hw=>by
 obtain⟨Z',pv',h1,h2,h3⟩:=St.adoptE hw hp hcs;exact h pv' a w Z' (QC (ha.mono h1) h2 hd) h3
theorem J2:Ek (.tuple #[])=[]:=rfl
theorem Ny (hn:Nat.blt d n=Af)(h:∀b,WL P n c ops Q rest ((d,rv (.map (Ad b)))::l) (.pool b (.tuple #[]) e []::.map b []::H)) :
  WL P n c ops Q ({ dst:=Ad d,op:=.makeMap t Ai,type:=ty,pos:=pos,after:=af,guard:=Ai }::rest) l H:=
 Kw (λa w Z ha hw=>by
  have h1:=hw.alloc (.map #[] 0) (e:=.map w.heap.size []) ⟨#[],0,by simpa using heap_alloc_new w _,Aj,Aj,Aj,[],AgM _,trivial⟩ rfl;refine⟨_,w.alloc (.map #[] 0),_,_,Z,by simp[execOp,run_makeMap],Fz.le.refl _,rfl,?_,h w.heap.size⟩;have hz:∀i,Z.nm w.heap.size i=Ai:=λi=>by
   cases hq:Z.nm w.heap.size i with
   | none=>rfl
   | some b=>have:=hw.frz.nm _ _ _ hq;omega
  have hold:∀en∈(Ent.map w.heap.size []::H),∀q∈en.gk,q<w.heap.size:=λen he q hq=>by
   rcases List.mem_cons.1 he with rfl | he
   ·simp[Ent.gk] at hq
   ·exact hw.gst.sz en he q hq
  refine { h1 with has:=λen he=>?_,own:=λen he q hq=>?_,dis:=List.pairwise_cons.2 ⟨λen he q hq=>by simp[Ent.foot,J2] at hq,h1.dis⟩,zdis:=λen he q hq=>?_,gst:=⟨λen he q hq=>?_,λen he q hq=>?_,List.pairwise_cons.2 ⟨λen he q hq hq'=>?_,h1.gst.dis⟩,h1.gst.new,λen he q hq i hi=>?_⟩ }
  ·rcases List.mem_cons.1 he with rfl | he
   ·exact⟨by simp[J2],by simp[J2],Aj⟩
   ·exact h1.has en he
  ·rcases List.mem_cons.1 he with rfl | he
   ·simp[Ent.foot,J2] at hq
   ·exact h1.own en he q hq
  ·rcases List.mem_cons.1 he with rfl | he
   ·simp[Ent.foot,J2] at hq
   ·exact h1.zdis en he q hq
  ·rcases List.mem_cons.1 he with rfl | he
   ·simp[Ent.gk] at hq;subst hq;exact .inl hw.size
   ·exact h1.gst.own en he q hq
  ·rcases List.mem_cons.1 he with rfl | he
   ·simp[Ent.gk] at hq;subst hq;simp
   ·exact h1.gst.sz en he q hq
  ·simp[Ent.gk] at hq;subst hq;have:=hold en he _ hq';omega
  ·rcases List.mem_cons.1 he with rfl | he
   ·simp[Ent.gk] at hq;subst hq;exact hz i
   ·exact h1.gst.cap en he q hq i hi) hn
end
end
section
variable [I : Dfr]
section
variable {P : Program} {n : Nat} {c : Cx} {ops opsA : Array Oper} {Q : Exit → Act → World → Prop} {rest : List Oper} {l : Fr} {H : List Ent} {d : Nat} {d' : Option Nat} {ty t kt et rty : TypeId} {pos : String} {af : Array Edge} {g : Option (Nat × Bool)} {x y u : Operand} {K : Act → World → Prop} {cx : Code} {r : Rp}
variable {T : Type} {enc : T → Rp} {xs : List (A1 × T)} {z : T} {k : A1} {zv : Value} {i b : Nat}
end
end
section
variable [I : Dfr]
section
variable {P : Program} {n : Nat} {c : Cx} {x : Code} {Q : Exit → Act → World → Prop} {l : Fr} {H : List Ent}
theorem EV (k:Nat)(h:WC P n c x (Exit.then (Code.rounds P x Q k) Q) l H):WC P n c (.loop x) Q l H:=λa w Z ha hw=>wp_loop_rounds (k+1) (h a w Z ha hw)
theorem GV {k:Nat}(h:WC P n c x (Exit.then (Code.rounds P x Q k) Q) l H):WK n c (Code.rounds P x Q (k+1)) l H:=h
end
section
variable {P : Program} {n : Nat} {c : Cx} {opsA : Array Oper} {Q : Exit → Act → World → Prop} {l : Fr} {H : List Ent} {d : Nat} {ty : TypeId} {pos : String} {af : Array Edge}
end
section
variable {P : Program} {n : Nat} {c : Cx} {l : Fr} {H : List Ent} {d : Option Nat} {ty rty t e e' : TypeId} {pos : String} {af : Array Edge} {g : Option (Nat × Bool)} {x : Operand} {sz : Nat} {xs : List (List Rp)} {v : Value}
theorem Vx (i:Nat)(ht:P.underlying t=Ad (.slice e))(h:ev l x=Ad (rv v))(hi:H[i]? =Ad (.row v e' sz xs)):Ce P n c l H { dst:=d,op:=.binOp .eql t x (.const (.slice Ai 0 0)) rty,type:=ty,pos:=pos,after:=af,guard:=g } (rBx (λb=>b=Af→xs=[])):=λa w Z ha hw=>by
 obtain⟨_,_,_,A,cap,e0,h1,h2,h3,h4⟩:=hw.freeze hi;have e1:a.eval x = .slice A (Ae xs) cap:=(ha.ev h:a.eval x=v).trans e0;refine⟨.bool A.isNone,⟨_,rfl,λhb=>?_⟩,?_⟩
 ·cases A with
  | some a=>cases hb
  | none=>
   have:=h3 rfl;exact List.length_eq_zero_iff.1 Ab
 ·have:=run_equal_slice_nil (P:=P) w t e A (Ae xs) cap ht;have e2:a.eval (.const (.slice Ai 0 0)) = .slice Ai 0 0:=rfl;simp[execOp,e1,e2,binOp,this,eqGuard]
end
end
end Go.Proofs.YtinflkgbhkcfnaaGreatDoor.Q
