/-
  Texts of the proof, put together: Row, IdA, PlB, IdB, PlC, IdC, ShelfV, PlD, PlE, FwJ, IdR, QG, QO, RowQ, PQB, WQB, PVa, WVa, PVb, WVb, PVc, WVc, PVd, WVd, PVe, WVe, PVf, WVf, PM.
-/
import Derived.Test.YtmmbdclkpijkpaaGreatDoorTV1
import Derived.Test.YtmmbdclkpijkpaaGreatDoorCards
import Derived.Test.YtmmbdclkpijkpaaGreatDoorTie
import Derived.Carry
import Derived.ChangeSame
import Derived.ProofKit
import Derived.OpenShut
import Derived.Deep.DeepHandedRow
import Derived.Deep.DeepWitnessRowRef
import Derived.Lib.LaidTab
import Derived.Lib.LaidIn
import Derived.Stop.LaidErr
import Derived.Test.YtmmbdclkpijkpaaGreatDoorProg
import Derived.Lib.Bytealg
import Derived.Lib.AtoiAllCases
import Derived.Lib.ItoaNum
import Derived.Lib.ItoaLen
import Derived.Shelf.Strings.Builder1
import Derived.Shelf.Strings.Count
import Derived.Shelf.Strings.Search1
import Derived.Shelf.Strings.Search2
import Derived.Shelf.Strings.Search3
import Derived.Shelf.Small.Strs
import Derived.Shelf.LaysM
import Derived.Shelf.LaysC
import Derived.Lib.ItoaMem
import Derived.Deep.Slices
import Derived.ChangeArms
import Derived.DataReads
import Derived.Laws.Tables
import Derived.Lib.SmallJoins
import Derived.Laws.StructEq
namespace Go.Proofs.YtmmbdclkpijkpaaGreatDoor
open Go Go.ChangeShapes Go.WideShapes Go.ChangeAt Go.RowKit Go.WideElems
set_option linter.unusedVariables false
theorem own:ownKnob Tryz.prog.godebug=none:=by kernel_rfl
theorem Vw:laidOutB Tryz.prog=true:=by kernel_rfl
section
variable {H : Type} {enc : TypeId × Value → H} {P : Program}
theorem I2 (hl:laidOutB P=true){W W':World}(hb:Below W.heap.size W W'){sp:Nat→Bool}:∀{ts:List TypeId} {vs:List Value} {ds:List (DataW H)} {ps:List MemPlace},ts.all (λt=>P.readableRec t&&decide (t<P.types.size))=true→
  DataW.TrodAll enc P W 0 (λ_=>true) true ts vs ds ps→(∀p∈ps,p.block<W.heap.size)→(∀p∈ps,sp p.block=true)→DataW.TrodAll enc P W' 0 sp true ts vs ds ps
 | [],[],[],_,_,h,_,_=>h
 | [],_::_,_,_,_,h,_,_=>h.elim
 | [],[],_::_,_,_,h,_,_=>h.elim
 | _::_,[],_,_,_,h,_,_=>h.elim
 | _::_,_::_,[],_,_,h,_,_=>h.elim
 | t::ts,v::vs,d::ds,ps,ht,⟨p,q,h1,h2,e⟩,hlt,hs=>by
  simp only[YT,Yv,Yq] at ht;refine⟨p,q,?_,I2 hl hb ht.2 h2 (λx hx=>hlt x (by rw[e];exact List.mem_append_right _ hx)) (λx hx=>hs x (by rw[e];exact List.mem_append_right _ hx)),e⟩;exact Trod_stays hl ht.1.1 ht.1.2 h1 (λx hx=>hb.same (hlt x (by rw[e];exact List.mem_append_left _ hx))) (λx hx=>hs x (by rw[e];exact List.mem_append_left _ hx))
theorem R5 (hl:laidOutB P=true){f:Func}{s:ChangeSpec}{apart fresh handsOn:Bool}{W W':World}{args:Array Value}{ds gs:List (DataW H)}{before:List MemPlace}{tb:TypeId}(hp:f.params.toList.all (λt=>P.readableRec t&&decide (t<P.types.size))=true)
  (hv:s.vars=[]) (hr:f.resultTypes = #[tb]) (hb4:P.underlying tb=some .bool) (hW:DataW.Whole enc P f.params.toList s.vars apart W args.toList ds gs before)
  (h1:(s.fn H (ds++gs)).results=[.lit (.bool true)]) (h2:(s.fn H (ds++gs)).args=ds) (h3:(s.fn H (ds++gs)).vars=[]) (hb:Below W.heap.size W W') :
  s.post enc P f apart fresh handsOn false W args (.bool true) W':=by
 have hlt:∀p∈before,p.block<W.heap.size:=λp hp=>hW.lt p hp;have hW':=hW;obtain⟨p,q,hA,hV,hbf,_,_⟩:=hW';have hq:q=[]:=by
  rw[hv] at hV
  cases gs with
  | nil=>exact hV
  | cons _ _=>exact hV.elim
 subst hq;rw[Zg] at hbf;subst hbf;refine⟨ds,gs,before,[],before,[],hW,?_,?_,?_,World.keptBut_mono (λp hp=>⟨hp,.inr (.inl hp)⟩) (hb.frame (·∈before)),λh=>by cases h⟩
 ·rw[h1,hr];exact trodAll_mk1 (shut_bool hb4 true)
 ·rw[h2];exact I2 hl hb hp hA hlt (λx hx=>by simpa using hlt x hx)
 ·rw[hv,h3];exact rfl
end
theorem PU:Tryz.prog.underlying 4=some .bool:=Tryz.underlying4
def LK : List (String × DataW Unit) := [("math/bits.deBruijn32tab", Rows.laid_math_bits_deBruijn32tab), ("math/bits.deBruijn64tab", Rows.laid_math_bits_deBruijn64tab), ("internal/strconv.uint64pow10", Rows.laid_internal_strconv_uint64pow10), ("strconv.ErrRange", Rows.laid_strconv_ErrRange), ("strconv.ErrSyntax", Rows.laid_strconv_ErrSyntax)]
theorem Ua:(Tryz.prog.globals[2]?).map (·.type)=some 184:=by kernel_rfl
theorem TZ:(Tryz.prog.globals[1]?).map (·.type)=some 108:=by kernel_rfl
theorem Sq:Tryz.prog.cellsOf 125=1:=by kernel_rfl
theorem Sr:Tryz.prog.cellsOf 184=20:=by kernel_rfl
theorem Ss:Tryz.prog.cellsOf 9=1:=by kernel_rfl
theorem Uv:Tryz.prog.cellsOf 189=1:=by kernel_rfl
theorem QO : "*" ++ "errors.errorString" = "*errors.errorString" := by decide
theorem WA (u : TypeId) (h : Tryz.prog.typeName? 3 u = some "*errors.errorString") : u = 187 :=
 typeName_ptr_named (nm := "errors.errorString") (by rw [QO]; kernel_rfl) (by kernel_rfl) (by decide) u (by rw [QO]; exact h)
theorem QL {W:World}{n:String}{g:Nat}{cs:Array Value}(hg:Tryz.prog.globalNamed n=some g)(h:W.var? Tryz.prog n=some cs):g<W.heap.size:=by
 unfold World.var? at h;rw[hg] at h;simp only[Option.bind_some] at h
 cases hh:W.heap[g]? with
 | none=>rw[hh] at h;cases h
 | some o=>exact(Array.getElem?_eq_some_iff.1 hh).1
theorem WB {W:World}(h:laidMet Tryz.prog LK W):QZ W:=by
 have h3:=laidMet.tail (laidMet.tail h);have h4:=laidMet.tail h3;have hp : Lib.TabIs Tryz.prog W "internal/strconv.uint64pow10" .u64 Lib.pow10Tab := Lib.tabIs_of_head W8 Ua Tryz.underlying184 Tryz.underlying125 Sq Sr h3
 obtain⟨a,s,hv,_,_,_⟩:=laid_sentinel h4 W7 TZ Tryz.underlying108 WA Tryz.underlying187 Tryz.underlying189 rfl rfl Tryz.underlying9 Uv Ss;refine⟨⟨hp,_,_,hv⟩,?_⟩;have h1:=QL W8 hp;have h2:=QL W7 hv;exact Nat.max_lt.2 ⟨h1,h2⟩
noncomputable def Io (os:Os):World:=
 let w0:=World.holding Tryz.prog os ⟨#[],#[],[]⟩
 let put (h:Array Obj) (g:Nat) (cs:Array Value):Array Obj:=h.modify g fun
  | .cells _ t frozen=>.cells cs t frozen
  | o=>o
 let nums (d:DataW Unit):Array Value:=match d with
  | .agg ds=>(ds.map fun | .lit (.int k n)=>Value.int k n | _=>undef).toArray
  | _=>#[]
 let n:=w0.heap.size
 let h1:=put w0.heap 4 (nums Rows.laid_math_bits_deBruijn32tab)
 let h2:=put h1 5 (nums Rows.laid_math_bits_deBruijn64tab)
 let h3:=put h2 2 (nums Rows.laid_internal_strconv_uint64pow10)
 let h4:=put h3 1 #[.iface 187 (.pointer (some ⟨n,0,none⟩))]
 let h5:=put h4 0 #[.iface 187 (.pointer (some ⟨n+1,0,none⟩))]
 let h6:=h5.push (.cells #[.string ⟨#[118,97,108,117,101,32,111,117,116,32,111,102,32,114,97,110,103,101]⟩] 189 (0,0))
 let h7:=h6.push (.cells #[.string ⟨#[105,110,118,97,108,105,100,32,115,121,110,116,97,120]⟩] 189 (0,0))
 { w0 with heap:=h7 }
set_option maxRecDepth 100000 in
theorem TO (os:Os)(args:Array Value):laidMet Tryz.prog LK ((Io os).forCall (λ_ _=>0) ⟨#[],args,[]⟩).memory:=
 laidMet_of_run' 8 (by kernel_rfl) (by kernel_rfl)
open Go Go.RowKit
set_option linter.unusedSimpArgs false
set_option maxRecDepth 100000
theorem Qn (c:Int)(w:World):Calls Tryz.prog 86 [.int .i32 (c)].toArray w (JR w (.bool (CZ c))):=by
 refine Hl (n:=9) Tryz.func86 rfl Tryz.ntmps86 rfl (Ap (Ak (Ay (Az rfl) rfl (An (Au (AU ?_))))));refine AH [(2,.bool (((decide ((97)≤(c)))&&(decide ((c)≤(122))))))] [] (φ:=True) ?_ (λhm1=>?_)
 ·refine Ak (Ay (Am rfl) rfl (Ay (Ix rfl rfl) rfl (Ay (Am rfl) rfl (AR (decide ((97)≤(c))) (λh1=>?_) (λh1=>?_)))))
  ·have g1:=h1;try simp only[Yq,Yr] at g1
   refine AJ rfl rfl h1 (Ay (Am rfl) rfl (AJ rfl rfl h1 (Ay (Kc rfl rfl) rfl (Ay (Ax rfl h1 rfl) rfl (Ay (Az rfl) rfl (An ?_))))));exact Au (Bx trivial ⟨fb (by simp[h1]),trivial⟩ .slnil)
  ·have g1:=h1;try simp only[Yq,Yr] at g1
   refine A9 rfl rfl h1 rfl (A9 rfl rfl h1 rfl (Ay (AA rfl h1 rfl) rfl (Ay (Az rfl) rfl (An ?_))));exact Au (Bx trivial ⟨fb (by simp[h1]),trivial⟩ .slnil)
 refine A1 (A0 (BX rfl rfl) ?_);exact Iv (by first | rfl | simp[])
theorem QQ (c:Int)(w:World):Calls Tryz.prog 87 [.int .i32 (c)].toArray w (JR w (.bool (DQ c))):=by
 refine Hl (n:=9) Tryz.func87 rfl Tryz.ntmps87 rfl (Ap (Ak (Ay (Az rfl) rfl (An (Au (AU ?_))))));refine AH [(2,.bool (((decide ((48)≤(c)))&&(decide ((c)≤(57))))))] [] (φ:=True) ?_ (λhm3=>?_)
 ·refine Ak (Ay (Am rfl) rfl (Ay (Ix rfl rfl) rfl (Ay (Am rfl) rfl (AR (decide ((48)≤(c))) (λh3=>?_) (λh3=>?_)))))
  ·have g3:=h3;try simp only[Yq,Yr] at g3
   refine AJ rfl rfl h3 (Ay (Am rfl) rfl (AJ rfl rfl h3 (Ay (Kc rfl rfl) rfl (Ay (Ax rfl h3 rfl) rfl (Ay (Az rfl) rfl (An ?_))))));exact Au (Bx trivial ⟨fb (by simp[h3]),trivial⟩ .slnil)
  ·have g3:=h3;try simp only[Yq,Yr] at g3
   refine A9 rfl rfl h3 rfl (A9 rfl rfl h3 rfl (Ay (AA rfl h3 rfl) rfl (Ay (Az rfl) rfl (An ?_))));exact Au (Bx trivial ⟨fb (by simp[h3]),trivial⟩ .slnil)
 refine A1 (A0 (BX rfl rfl) ?_);exact Iv (by first | rfl | simp[])
theorem TN (c:Int)(w:World):Calls Tryz.prog 85 [.int .i32 (c)].toArray w (JR w (.bool (Ek c))):=by
 refine Hl (n:=37) Tryz.func85 rfl Tryz.ntmps85 rfl (Ap (Ak (Ay (Az rfl) rfl (An (Au (AU ?_))))));refine AH [(2,.bool (((CZ c)||((DQ c)||(bif decide ((65)≤(c)) then((decide ((c)≤(90)))||((decide ((c)=(45)))||((decide ((c)=(95)))||((decide ((c)=(46)))||((decide ((c)=(58)))||(decide ((c)=(47)))))))) else((decide ((c)=(45)))||((decide ((c)=(95)))||((decide ((c)=(46)))||((decide ((c)=(58)))||(decide ((c)=(47))))))))))))] [] (φ:=True) ?_ (λhn=>?_)
 ·refine Ak (Ay (Am rfl) rfl (BL Tryz.call86 rfl (λw hw=>Qn c w) rfl (Ay (Am rfl) rfl (AR (CZ c) (λh5=>?_) (λh5=>?_)))))
  ·have g5:=h5;try simp only[Yq,Yr] at g5
   refine A9 rfl rfl h5 rfl (A9 rfl rfl h5 rfl (Ay (Ax rfl h5 rfl) rfl (Ay (Am rfl) rfl (A9 rfl rfl rfl rfl (A9 rfl rfl rfl rfl (A9 rfl rfl rfl rfl (BC rfl rfl rfl (BC rfl rfl rfl (A9 rfl rfl rfl rfl (Ay (Ax rfl rfl rfl) rfl (Ay (Am rfl) rfl (A9 rfl rfl rfl rfl (A9 rfl rfl rfl rfl (Ay (Ax rfl rfl rfl) rfl (Ay (Am rfl) rfl (A9 rfl rfl rfl rfl (A9 rfl rfl rfl rfl (Ay (Ax rfl rfl rfl) rfl (Ay (Am rfl) rfl (A9 rfl rfl rfl rfl (A9 rfl rfl rfl rfl (Ay (Ax rfl rfl rfl) rfl (Ay (Am rfl) rfl ?_)))))))))))))))))))))));refine A9 rfl rfl rfl rfl (A9 rfl rfl rfl rfl (Ay (Ax rfl rfl rfl) rfl (Ay (Am rfl) rfl (A9 rfl rfl rfl rfl (A9 rfl rfl rfl rfl (Ay (Ax rfl rfl rfl) rfl (Ay (Az rfl) rfl (An ?_))))))));exact Au (Bx trivial ⟨fb (by simp[h5]),trivial⟩ .slnil)
  ·have g5:=h5;try simp only[Yq,Yr] at g5
   refine AJ rfl rfl h5 (Ay (Am rfl) rfl (AJ rfl rfl h5 (BL Tryz.call87 rfl (λw hw=>QQ c w) rfl (Ay (AA rfl h5 rfl) rfl (Ay (Am rfl) rfl (AR (DQ c) (λh6=>?_) (λh6=>?_)))))))
   ·have g6:=h6;try simp only[Yq,Yr] at g6
    refine A9 rfl rfl h6 rfl (A9 rfl rfl h6 rfl (A9 rfl rfl h6 rfl (BC rfl rfl rfl (BC rfl rfl rfl (A9 rfl rfl h6 rfl (Ay (Ax rfl h6 rfl) rfl (Ay (Am rfl) rfl (A9 rfl rfl rfl rfl (A9 rfl rfl rfl rfl (Ay (Ax rfl rfl rfl) rfl (Ay (Am rfl) rfl (A9 rfl rfl rfl rfl (A9 rfl rfl rfl rfl (Ay (Ax rfl rfl rfl) rfl (Ay (Am rfl) rfl (A9 rfl rfl rfl rfl (A9 rfl rfl rfl rfl (Ay (Ax rfl rfl rfl) rfl (Ay (Am rfl) rfl (A9 rfl rfl rfl rfl (A9 rfl rfl rfl rfl (Ay (Ax rfl rfl rfl) rfl (Ay (Am rfl) rfl ?_)))))))))))))))))))))));refine A9 rfl rfl rfl rfl (A9 rfl rfl rfl rfl (Ay (Ax rfl rfl rfl) rfl (Ay (Az rfl) rfl (An ?_))));exact Au (Bx trivial ⟨fb (by simp[h5,h6]),trivial⟩ .slnil)
   ·have g6:=h6;try simp only[Yq,Yr] at g6
    refine AJ rfl rfl h6 (Ay (Am rfl) rfl (AJ rfl rfl h6 (Ay (Ix rfl rfl) rfl (AJ rfl rfl h6 (Ay (Am rfl) rfl (AR (decide ((65)≤(c))) (λh7=>?_) (λh7=>?_)))))))
    ·have g7:=h7;try simp only[Yq,Yr] at g7
     refine AJ rfl rfl h7 (Ay (Am rfl) rfl (AJ rfl rfl h7 (Ay (Kc rfl rfl) rfl (AJ rfl rfl h6 (Ay (Ax rfl h7 rfl) rfl (Ay (AA rfl h6 rfl) rfl (Ay (Am rfl) rfl (AR (decide ((c)≤(90))) (λh8=>?_) (λh8=>?_)))))))))
     ·have g8:=h8;try simp only[Yq,Yr] at g8
      refine A9 rfl rfl h8 rfl (A9 rfl rfl h8 rfl (Ay (Ax rfl h8 rfl) rfl (Ay (Am rfl) rfl (A9 rfl rfl rfl rfl (A9 rfl rfl rfl rfl (Ay (Ax rfl rfl rfl) rfl (Ay (Am rfl) rfl (A9 rfl rfl rfl rfl (A9 rfl rfl rfl rfl (Ay (Ax rfl rfl rfl) rfl (Ay (Am rfl) rfl (A9 rfl rfl rfl rfl (A9 rfl rfl rfl rfl (Ay (Ax rfl rfl rfl) rfl (Ay (Am rfl) rfl (A9 rfl rfl rfl rfl (A9 rfl rfl rfl rfl (Ay (Ax rfl rfl rfl) rfl (Ay (Az rfl) rfl (An ?_))))))))))))))))))));exact Au (Bx trivial ⟨fb (by simp[h5,h6,h7,h8]),trivial⟩ .slnil)
     ·have g8:=h8;try simp only[Yq,Yr] at g8
      refine AJ rfl rfl h8 (Ay (Am rfl) rfl (AJ rfl rfl h8 (Ay (BP rfl rfl) rfl (Ay (AA rfl h8 rfl) rfl (Ay (Am rfl) rfl (AR (decide ((c)=(45))) (λh9=>?_) (λh9=>?_)))))))
      ·have g9:=h9;try simp only[Yq,Yr] at g9
       refine A9 rfl rfl h9 rfl (A9 rfl rfl h9 rfl (Ay (Ax rfl h9 rfl) rfl (Ay (Am rfl) rfl (A9 rfl rfl rfl rfl (A9 rfl rfl rfl rfl (Ay (Ax rfl rfl rfl) rfl (Ay (Am rfl) rfl (A9 rfl rfl rfl rfl (A9 rfl rfl rfl rfl (Ay (Ax rfl rfl rfl) rfl (Ay (Am rfl) rfl (A9 rfl rfl rfl rfl (A9 rfl rfl rfl rfl (Ay (Ax rfl rfl rfl) rfl (Ay (Az rfl) rfl (An ?_))))))))))))))));exact Au (Bx trivial ⟨fb (by simp[h5,h6,h7,h8,h9]),trivial⟩ .slnil)
      ·have g9:=h9;try simp only[Yq,Yr] at g9
       refine AJ rfl rfl h9 (Ay (Am rfl) rfl (AJ rfl rfl h9 (Ay (BP rfl rfl) rfl (Ay (AA rfl h9 rfl) rfl (Ay (Am rfl) rfl (AR (decide ((c)=(95))) (λhb=>?_) (λhb=>?_)))))))
       ·have hi:=hb;try simp only[Yq,Yr] at hi
        refine A9 rfl rfl hb rfl (A9 rfl rfl hb rfl (Ay (Ax rfl hb rfl) rfl (Ay (Am rfl) rfl (A9 rfl rfl rfl rfl (A9 rfl rfl rfl rfl (Ay (Ax rfl rfl rfl) rfl (Ay (Am rfl) rfl (A9 rfl rfl rfl rfl (A9 rfl rfl rfl rfl (Ay (Ax rfl rfl rfl) rfl (Ay (Az rfl) rfl (An ?_))))))))))));exact Au (Bx trivial ⟨fb (by simp[h5,h6,h7,h8,h9,hb]),trivial⟩ .slnil)
       ·have hi:=hb;try simp only[Yq,Yr] at hi
        refine AJ rfl rfl hb (Ay (Am rfl) rfl (AJ rfl rfl hb (Ay (BP rfl rfl) rfl (Ay (AA rfl hb rfl) rfl (Ay (Am rfl) rfl (AR (decide ((c)=(46))) (λhe=>?_) (λhe=>?_)))))))
        ·have hj:=he;try simp only[Yq,Yr] at hj
         refine A9 rfl rfl he rfl (A9 rfl rfl he rfl (Ay (Ax rfl he rfl) rfl (Ay (Am rfl) rfl (A9 rfl rfl rfl rfl (A9 rfl rfl rfl rfl (Ay (Ax rfl rfl rfl) rfl (Ay (Az rfl) rfl (An ?_))))))));exact Au (Bx trivial ⟨fb (by simp[h5,h6,h7,h8,h9,hb,he]),trivial⟩ .slnil)
        ·have hj:=he;try simp only[Yq,Yr] at hj
         refine AJ rfl rfl he (Ay (Am rfl) rfl (AJ rfl rfl he (Ay (BP rfl rfl) rfl (Ay (AA rfl he rfl) rfl (Ay (Am rfl) rfl (AR (decide ((c)=(58))) (λhg=>?_) (λhg=>?_)))))))
         ·have hk:=hg;try simp only[Yq,Yr] at hk
          refine A9 rfl rfl hg rfl (A9 rfl rfl hg rfl (Ay (Ax rfl hg rfl) rfl (Ay (Az rfl) rfl (An ?_))));exact Au (Bx trivial ⟨fb (by simp[h5,h6,h7,h8,h9,hb,he,hg]),trivial⟩ .slnil)
         ·have hk:=hg;try simp only[Yq,Yr] at hk
          refine AJ rfl rfl hg (Ay (Am rfl) rfl (AJ rfl rfl hg (Ay (BP rfl rfl) rfl (Ay (AA rfl hg rfl) rfl (Ay (Az rfl) rfl (An ?_))))));exact Au (Bx trivial ⟨fb (by simp[h5,h6,h7,h8,h9,hb,he,hg]),trivial⟩ .slnil)
    ·have g7:=h7;try simp only[Yq,Yr] at g7
     refine A9 rfl rfl h7 rfl (A9 rfl rfl h7 rfl (AJ rfl rfl h6 (Ay (AA rfl h7 rfl) rfl (Ay (AA rfl h6 rfl) rfl (Ay (Am rfl) rfl (AJ rfl rfl rfl (Ay (Am rfl) rfl (AJ rfl rfl rfl (Ay (BP rfl rfl) rfl (Ay (AA rfl rfl rfl) rfl (Ay (Am rfl) rfl (AR (decide ((c)=(45))) (λha=>?_) (λha=>?_)))))))))))))
     ·have hl:=ha;try simp only[Yq,Yr] at hl
      refine A9 rfl rfl ha rfl (A9 rfl rfl ha rfl (Ay (Ax rfl ha rfl) rfl (Ay (Am rfl) rfl (A9 rfl rfl rfl rfl (A9 rfl rfl rfl rfl (Ay (Ax rfl rfl rfl) rfl (Ay (Am rfl) rfl (A9 rfl rfl rfl rfl (A9 rfl rfl rfl rfl (Ay (Ax rfl rfl rfl) rfl (Ay (Am rfl) rfl (A9 rfl rfl rfl rfl (A9 rfl rfl rfl rfl (Ay (Ax rfl rfl rfl) rfl (Ay (Az rfl) rfl (An ?_))))))))))))))));exact Au (Bx trivial ⟨fb (by simp[h5,h6,h7,ha]),trivial⟩ .slnil)
     ·have hl:=ha;try simp only[Yq,Yr] at hl
      refine AJ rfl rfl ha (Ay (Am rfl) rfl (AJ rfl rfl ha (Ay (BP rfl rfl) rfl (Ay (AA rfl ha rfl) rfl (Ay (Am rfl) rfl (AR (decide ((c)=(95))) (λhd=>?_) (λhd=>?_)))))))
      ·have hm:=hd;try simp only[Yq,Yr] at hm
       refine A9 rfl rfl hd rfl (A9 rfl rfl hd rfl (Ay (Ax rfl hd rfl) rfl (Ay (Am rfl) rfl (A9 rfl rfl rfl rfl (A9 rfl rfl rfl rfl (Ay (Ax rfl rfl rfl) rfl (Ay (Am rfl) rfl (A9 rfl rfl rfl rfl (A9 rfl rfl rfl rfl (Ay (Ax rfl rfl rfl) rfl (Ay (Az rfl) rfl (An ?_))))))))))));exact Au (Bx trivial ⟨fb (by simp[h5,h6,h7,ha,hd]),trivial⟩ .slnil)
      ·have hm:=hd;try simp only[Yq,Yr] at hm
       refine AJ rfl rfl hd (Ay (Am rfl) rfl (AJ rfl rfl hd (Ay (BP rfl rfl) rfl (Ay (AA rfl hd rfl) rfl (Ay (Am rfl) rfl (AR (decide ((c)=(46))) (λhf=>?_) (λhf=>?_)))))))
       ·have g15:=hf;try simp only[Yq,Yr] at g15
        refine A9 rfl rfl hf rfl (A9 rfl rfl hf rfl (Ay (Ax rfl hf rfl) rfl (Ay (Am rfl) rfl (A9 rfl rfl rfl rfl (A9 rfl rfl rfl rfl (Ay (Ax rfl rfl rfl) rfl (Ay (Az rfl) rfl (An ?_))))))));exact Au (Bx trivial ⟨fb (by simp[h5,h6,h7,ha,hd,hf]),trivial⟩ .slnil)
       ·have g15:=hf;try simp only[Yq,Yr] at g15
        refine AJ rfl rfl hf (Ay (Am rfl) rfl (AJ rfl rfl hf (Ay (BP rfl rfl) rfl (Ay (AA rfl hf rfl) rfl (Ay (Am rfl) rfl (AR (decide ((c)=(58))) (λhh=>?_) (λhh=>?_)))))))
        ·have g16:=hh;try simp only[Yq,Yr] at g16
         refine A9 rfl rfl hh rfl (A9 rfl rfl hh rfl (Ay (Ax rfl hh rfl) rfl (Ay (Az rfl) rfl (An ?_))));exact Au (Bx trivial ⟨fb (by simp[h5,h6,h7,ha,hd,hf,hh]),trivial⟩ .slnil)
        ·have g16:=hh;try simp only[Yq,Yr] at g16
         refine AJ rfl rfl hh (Ay (Am rfl) rfl (AJ rfl rfl hh (Ay (BP rfl rfl) rfl (Ay (AA rfl hh rfl) rfl (Ay (Az rfl) rfl (An ?_))))));exact Au (Bx trivial ⟨fb (by simp[h5,h6,h7,ha,hd,hf,hh]),trivial⟩ .slnil)
 refine A1 (A0 (BX rfl rfl) ?_);exact Iv (by simp only[Ek];by_cases h:65≤c<;>simp[h,Bool.or_assoc])
theorem UN (m:Int)(w:World):Calls Tryz.prog 69 [.int .i64 (m)].toArray w (JR w (.bool (Di m))):=by
 refine Hl (n:=9) Tryz.func69 rfl Tryz.ntmps69 rfl (Ap (Ak (Ay (Az rfl) rfl (An (Au (AU ?_))))));refine AH [(2,.bool (((decide ((-1000000000000)≤(m)))&&(decide ((m)≤(1000000000000))))))] [] (φ:=True) ?_ (λhd=>?_)
 ·refine Ak (Ay (Am rfl) rfl (Ay (Kc rfl rfl) rfl (Ay (Am rfl) rfl (AR (decide ((-1000000000000)≤(m))) (λha=>?_) (λha=>?_)))))
  ·have hb:=ha;try simp only[Yq,Yr] at hb
   refine AJ rfl rfl ha (Ay (Am rfl) rfl (AJ rfl rfl ha (Ay (Kc rfl rfl) rfl (Ay (Ax rfl ha rfl) rfl (Ay (Az rfl) rfl (An ?_))))));exact Au (Bx trivial ⟨fb (by first | (simp only[ha,Y5,YA,YK,Y7,YB,YF,YJ,YD,Y3,YE,Yw,Yt,Zk,Ze,reduceIte,YH];done) | simp[ha]),trivial⟩ .slnil)
  ·have hb:=ha;try simp only[Yq,Yr] at hb
   refine A9 rfl rfl ha rfl (A9 rfl rfl ha rfl (Ay (AA rfl ha rfl) rfl (Ay (Az rfl) rfl (An ?_))));exact Au (Bx trivial ⟨fb (by first | (simp only[ha,Y5,YA,YK,Y7,YB,YF,YJ,YD,Y3,YE,Yw,Yt,Zk,Ze,reduceIte,YH];done) | simp[ha]),trivial⟩ .slnil)
 refine A1 (A0 (BX rfl rfl) ?_);exact Iv (by first | rfl | simp[])
theorem Ww (p:List UInt8)(w:World):Calls Tryz.prog 62 [.string (B p)].toArray w (JR w (.bool (CS p))):=by
 refine Hl (n:=39) Tryz.func62 rfl Tryz.ntmps62 rfl (Ap (Ak (Ay (Az rfl) rfl (An (Au (AU ?_))))));refine Ap (Ap (Ak (Ay (Am rfl) rfl (M1 CA rfl rfl (λhh=>?_)))));refine An (Au (AU ?_));refine AO (Je (S:=Nat) (λ(k:Nat)=>k≤p.length∧AT DM 0 p=AT DM k (p.drop k)) (λ(k:Nat)=>[(0,.string (B (p))),(2,.bool (false)),(6,.pointer (some ⟨hh,0,none⟩))]) (λ(k:Nat)=>[.blk hh (.stringIter (B p) (k))]) (λ(k:Nat)=>p.length-k) (0) ?_ ⟨rfl,rfl,rfl,trivial⟩ (.cons_cons _ (.slnil)) ?_)
 ·exact⟨YU _,by simp⟩
 rintro k hi0;refine Ap (Ak (NY (i:=0) rfl rfl rfl (λhend=>?_) (λhr hd hp hq hlu39 hhu39 hwu39=>?_)))
 ·refine Ay (AI rfl rfl) rfl (An (Au (AU ?_)));refine Ap (CU rfl rfl (BJ (AB (AB (Bt (Au (AU ?_)))))));refine AH [(2,.bool (((decide ((1)≤((p.length:Int))))&&(decide (((p.length:Int))≤(24))))))] [.blk hh (.stringIter (B p) (k))] (φ:=True) ?_ (λhs=>?_)
  ·refine Ak (Ay (Am rfl) rfl (Ay (Bp CA rfl) rfl (Ay (Ix rfl rfl) rfl (Ay (Am rfl) rfl (AR (decide ((1)≤((p.length:Int)))) (λhe=>?_) (λhe=>?_))))))
   ·have hj:=he;try simp only[Yq,Yr] at hj
    refine AJ rfl rfl he (Ay (Am rfl) rfl (AJ rfl rfl he (Ay (Bp CA rfl) rfl (AJ rfl rfl he (Ay (Kc rfl rfl) rfl (Ay (Ax rfl he rfl) rfl (Ay (Az rfl) rfl (An ?_))))))));exact Au (Bx trivial ⟨fb (by first | (simp only[he,Y5,YA,YK,Y7,YB,YF,YJ,YD,Y3,YE,Yw,Yt,Zk,Ze,reduceIte,YH];done) | simp[he]),trivial⟩ (.cons_cons _ (.slnil)))
   ·have hj:=he;try simp only[Yq,Yr] at hj
    refine A9 rfl rfl he rfl (A9 rfl rfl he rfl (A9 rfl rfl he rfl (Ay (AA rfl he rfl) rfl (Ay (Az rfl) rfl (An ?_)))));exact Au (Bx trivial ⟨fb (by first | (simp only[he,Y5,YA,YK,Y7,YB,YF,YJ,YD,Y3,YE,Yw,Yt,Zk,Ze,reduceIte,YH];done) | simp[he]),trivial⟩ (.cons_cons _ (.slnil)))
  refine A1 (A0 (BX rfl rfl) ?_);exact Iv (by rw[TA hi0 hend])
 ·refine Ay (AI rfl rfl) rfl (An (Au (AU ?_)));refine Ap (DU rfl rfl (A3 (Au (AU ?_))));refine AO (Ap (Ak (Ay (AI rfl rfl) rfl (Ay (AI rfl rfl) rfl (Ay (Az rfl) rfl (Ay (Az rfl) rfl (An (Au (AU ?_)))))))));refine AH [(0,.string (B (p))),(2,.bool (false)),(3,.int .i64 ((k:Int))),(4,.int .i32 ((hd:Int))),(6,.pointer (some ⟨hh,0,none⟩)),(7,.tuple #[.bool (true),.int .i64 ((k:Int)),.int .i32 ((hd:Int))]),(8,.bool (true)),(9,.int .i64 ((k:Int))),(10,.int .i32 ((hd:Int))),(11,.int .i32 ((hd:Int))),(12,.bool (CZ (hd:Int))),(13,.bool (!(CZ (hd:Int)))),(14,.bool (!(CZ (hd:Int)))),(30,.bool (((!(CZ (hd:Int)))&&((decide (((k:Int))=(0)))||((!(DQ (hd:Int)))&&((!(decide (((hd:Int))=(45))))&&(!(decide (((hd:Int))=(95))))))))))] [.blk hh (.stringIter (B p) (k+hp))] (φ:=True) ?_ (λht=>?_)
  ·refine Ak (Ay (Am rfl) rfl (BL Tryz.call86 rfl (λw hw=>Qn (hd:Int) w) rfl (Ay (BK rfl) rfl (Ay (Am rfl) rfl (AR (!(CZ (hd:Int))) (λhb=>?_) (λhb=>?_))))))
   ·have hk:=hb;try simp only[Yq,Yr] at hk
    refine AJ rfl rfl hb (Ay (Am rfl) rfl (AJ rfl rfl hb (Ay (BP rfl rfl) rfl (AJ rfl rfl hb (Ay (Am rfl) rfl (AR (decide (((k:Int))=(0))) (λha=>?_) (λha=>?_)))))))
    ·have hl:=ha;try simp only[Yq,Yr] at hl
     refine A9 rfl rfl ha rfl (A9 rfl rfl ha rfl (A9 rfl rfl ha rfl (A9 rfl rfl ha rfl (BC rfl rfl rfl (BC rfl rfl rfl (A9 rfl rfl ha rfl (A9 rfl rfl ha rfl (BC rfl rfl rfl (BC rfl rfl rfl (A9 rfl rfl ha rfl (AJ rfl rfl hb (Ay (Ax rfl ha rfl) rfl (Ay (Ax rfl hb rfl) rfl (An ?_))))))))))))));exact Au (Bx trivial ⟨rfl,rfl,rfl,rfl,rfl,rfl,rfl,rfl,rfl,rfl,rfl,rfl,rfl,fb (by first | (simp only[hb,ha,Y5,YA,YK,Y7,YB,YF,YJ,YD,Y3,YE,Yw,Yt,Zk,Ze,reduceIte,YH];done) | simp[hb,ha]),trivial⟩ (.cons_cons _ (.slnil)))
    ·have hl:=ha;try simp only[Yq,Yr] at hl
     refine AJ rfl rfl ha (Ay (Am rfl) rfl (AJ rfl rfl ha (BL Tryz.call87 rfl (λw hw=>QQ (hd:Int) w) rfl (AJ rfl rfl ha (Ay (BK rfl) rfl (AJ rfl rfl ha (Ay (Am rfl) rfl (AR (!(DQ (hd:Int))) (λhf=>?_) (λhf=>?_)))))))))
     ·have hm:=hf;try simp only[Yq,Yr] at hm
      refine AJ rfl rfl hf (Ay (Am rfl) rfl (AJ rfl rfl hf (Ay (D2 rfl rfl) rfl (AJ rfl rfl ha (Ay (Ax rfl hf rfl) rfl (AJ rfl rfl ha (Ay (Am rfl) rfl (AR (!(decide (((hd:Int))=(45)))) (λhg=>?_) (λhg=>?_)))))))))
      ·have hn:=hg;try simp only[Yq,Yr] at hn
       refine AJ rfl rfl hg (Ay (Am rfl) rfl (AJ rfl rfl hg (Ay (D2 rfl rfl) rfl (AJ rfl rfl ha (Ay (Ax rfl hg rfl) rfl (AJ rfl rfl hb (Ay (AA rfl ha rfl) rfl (Ay (Ax rfl hb rfl) rfl (An ?_)))))))));exact Au (Bx trivial ⟨rfl,rfl,rfl,rfl,rfl,rfl,rfl,rfl,rfl,rfl,rfl,rfl,rfl,fb (by first | (simp only[hb,ha,hf,hg,Y5,YA,YK,Y7,YB,YF,YJ,YD,Y3,YE,Yw,Yt,Zk,Ze,reduceIte,YH];done) | simp[hb,ha,hf,hg]),trivial⟩ (.cons_cons _ (.slnil)))
      ·have hn:=hg;try simp only[Yq,Yr] at hn
       refine A9 rfl rfl hg rfl (A9 rfl rfl hg rfl (AJ rfl rfl ha (Ay (AA rfl hg rfl) rfl (AJ rfl rfl hb (Ay (AA rfl ha rfl) rfl (Ay (Ax rfl hb rfl) rfl (An ?_)))))));exact Au (Bx trivial ⟨rfl,rfl,rfl,rfl,rfl,rfl,rfl,rfl,rfl,rfl,rfl,rfl,rfl,fb (by first | (simp only[hb,ha,hf,hg,Y5,YA,YK,Y7,YB,YF,YJ,YD,Y3,YE,Yw,Yt,Zk,Ze,reduceIte,YH];done) | simp[hb,ha,hf,hg]),trivial⟩ (.cons_cons _ (.slnil)))
     ·have hm:=hf;try simp only[Yq,Yr] at hm
      refine A9 rfl rfl hf rfl (A9 rfl rfl hf rfl (AJ rfl rfl ha (Ay (AA rfl hf rfl) rfl (AJ rfl rfl ha (Ay (Am rfl) rfl (A9 rfl rfl rfl rfl (A9 rfl rfl rfl rfl (AJ rfl rfl ha (Ay (AA rfl rfl rfl) rfl (AJ rfl rfl hb (Ay (AA rfl ha rfl) rfl (Ay (Ax rfl hb rfl) rfl (An ?_)))))))))))));exact Au (Bx trivial ⟨rfl,rfl,rfl,rfl,rfl,rfl,rfl,rfl,rfl,rfl,rfl,rfl,rfl,fb (by first | (simp only[hb,ha,hf,Y5,YA,YK,Y7,YB,YF,YJ,YD,Y3,YE,Yw,Yt,Zk,Ze,reduceIte,YH];done) | simp[hb,ha,hf]),trivial⟩ (.cons_cons _ (.slnil)))
   ·have hk:=hb;try simp only[Yq,Yr] at hk
    refine A9 rfl rfl hb rfl (A9 rfl rfl hb rfl (A9 rfl rfl hb rfl (BC rfl rfl rfl (BC rfl rfl rfl (BC rfl rfl rfl (BC rfl rfl rfl (BC rfl rfl rfl (BC rfl rfl rfl (BC rfl rfl rfl (BC rfl rfl rfl (BC rfl rfl rfl (BC rfl rfl rfl (BC rfl rfl rfl (A9 rfl rfl hb rfl (Ay (AA rfl hb rfl) rfl (An ?_))))))))))))))));exact Au (Bx trivial ⟨rfl,rfl,rfl,rfl,rfl,rfl,rfl,rfl,rfl,rfl,rfl,rfl,rfl,fb (by first | (simp only[hb,Y5,YA,YK,Y7,YB,YF,YJ,YD,Y3,YE,Yw,Yt,Zk,Ze,reduceIte,YH];done) | simp[hb]),trivial⟩ (.cons_cons _ (.slnil)))
  refine E5 (b:=((!(CZ (hd:Int)))&&((decide (((k:Int))=(0)))||((!(DQ (hd:Int)))&&((!(decide (((hd:Int))=(45))))&&(!(decide (((hd:Int))=(95))))))))) rfl (λhi=>?_) (λhi=>?_)
  ·have ho:=hi;try simp only[Yq,Yr] at ho
   refine Ap (Ak (Ay (Az rfl) rfl (An (Au (AU ?_)))));refine A1 (A6 (Af (A6 (Af (A0 (BX rfl rfl) ?_)))));exact Iv (by rw[Vs hi0 hq hlu39 hhu39 hi])
  ·have ho:=hi;try simp only[Yq,Yr] at ho
   refine A3 (AK (Au (AF (k+hp) ?_ ⟨rfl,rfl,rfl,trivial⟩ (.cons_cons _ (.slnil)))));exact RD hi0 hq hlu39 hhu39 hi
theorem XR (p:List UInt8)(w:World):Calls Tryz.prog 61 [.string (B p)].toArray w (JR w (.bool (QK p))):=by
 refine Hl (n:=21) Tryz.func61 rfl Tryz.ntmps61 rfl (Ap (Ak (Ay (Az rfl) rfl (An (Au (AU ?_))))));refine Ap (Ap (Ak (Ay (Am rfl) rfl (M1 CA rfl rfl (λhd=>?_)))));refine An (Au (AU ?_));refine AO (Je (S:=Nat) (λ(k:Nat)=>k≤p.length∧AT KL 0 p=AT KL k (p.drop k)) (λ(k:Nat)=>[(0,.string (B (p))),(2,.bool (false)),(6,.pointer (some ⟨hd,0,none⟩))]) (λ(k:Nat)=>[.blk hd (.stringIter (B p) (k))]) (λ(k:Nat)=>p.length-k) (0) ?_ ⟨rfl,rfl,rfl,trivial⟩ (.cons_cons _ (.slnil)) ?_)
 ·exact⟨YU _,by simp⟩
 rintro k hi0;refine Ap (Ak (NY (i:=0) rfl rfl rfl (λhend=>?_) (λhj hg hi hh hlu51 hhu51 hwu51=>?_)))
 ·refine Ay (AI rfl rfl) rfl (An (Au (AU ?_)));refine Ap (CU rfl rfl (BJ (AB (AB (Bt (Au (AU ?_)))))));refine AH [(2,.bool (((decide ((1)≤((p.length:Int))))&&(decide (((p.length:Int))≤(64))))))] [.blk hd (.stringIter (B p) (k))] (φ:=True) ?_ (λhk=>?_)
  ·refine Ak (Ay (Am rfl) rfl (Ay (Bp CA rfl) rfl (Ay (Ix rfl rfl) rfl (Ay (Am rfl) rfl (AR (decide ((1)≤((p.length:Int)))) (λha=>?_) (λha=>?_))))))
   ·have he:=ha;try simp only[Yq,Yr] at he
    refine AJ rfl rfl ha (Ay (Am rfl) rfl (AJ rfl rfl ha (Ay (Bp CA rfl) rfl (AJ rfl rfl ha (Ay (Kc rfl rfl) rfl (Ay (Ax rfl ha rfl) rfl (Ay (Az rfl) rfl (An ?_))))))));exact Au (Bx trivial ⟨fb (by first | (simp only[ha,Y5,YA,YK,Y7,YB,YF,YJ,YD,Y3,YE,Yw,Yt,Zk,Ze,reduceIte,YH];done) | simp[ha]),trivial⟩ (.cons_cons _ (.slnil)))
   ·have he:=ha;try simp only[Yq,Yr] at he
    refine A9 rfl rfl ha rfl (A9 rfl rfl ha rfl (A9 rfl rfl ha rfl (Ay (AA rfl ha rfl) rfl (Ay (Az rfl) rfl (An ?_)))));exact Au (Bx trivial ⟨fb (by first | (simp only[ha,Y5,YA,YK,Y7,YB,YF,YJ,YD,Y3,YE,Yw,Yt,Zk,Ze,reduceIte,YH];done) | simp[ha]),trivial⟩ (.cons_cons _ (.slnil)))
  refine A1 (A0 (BX rfl rfl) ?_);exact Iv (by rw[W6 hi0 hend])
 ·refine Ay (AI rfl rfl) rfl (An (Au (AU ?_)));refine Ap (DU rfl rfl (A3 (Au (AU ?_))));refine AO (Ap (Ak (Ay (AI rfl rfl) rfl (Ay (Az rfl) rfl (An (Au (AU ?_)))))));refine Ap (Ak (Ay (Am rfl) rfl (BL Tryz.call85 rfl (λw hw=>TN (hg:Int) w) rfl (Ay (BK rfl) rfl (An (Au (AU ?_)))))));refine E5 (b:=!(Ek (hg:Int))) rfl (λhb=>?_) (λhb=>?_)
  ·have hf:=hb;try simp only[Yq,Yr] at hf
   refine Ap (Ak (Ay (Az rfl) rfl (An (Au (AU ?_)))));refine A1 (A6 (Af (A6 (Af (A0 (BX rfl rfl) ?_)))));exact Iv (by rw[Xx hi0 hh hlu51 hhu51 hb])
  ·have hf:=hb;try simp only[Yq,Yr] at hf
   refine A3 (AK (Au (AF (k+hi) ?_ ⟨rfl,rfl,rfl,trivial⟩ (.cons_cons _ (.slnil)))));exact V4 hi0 hh hlu51 hhu51 hb
open Go
def L7 (p:List UInt8):Bool:=decide ((0:Int)<p.length)&&decide (Be p 0=45)
def G5 (p:List UInt8):List UInt8:=if L7 p=true then p.drop 1 else p
theorem Ul (p:List UInt8):(G5 p).length≤p.length:=by unfold G5;split<;>simp
def Dq (_:Nat)(u:UInt8):Bool:=!(decide ((u.toNat:Int)<48)||decide (57<(u.toNat:Int)))
def IX (p:List UInt8):Bool:=!(decide (G5 p=[])||(decide (Be (G5 p) 0=48)&&!decide (p=[48])))&&AT Dq 0 (G5 p)
theorem Gw {p:List UInt8}(h : ¬ p=[]):(0:Int)<p.length:=by
 cases p with
 | nil=>exact absurd rfl h
 | cons a r=>simp
theorem MZ {p:List UInt8}{k:Nat}(h:(k:Int)<p.length):∃u,p[k]? =some u:=⟨p[k]'(by omega),Y1 (by omega)⟩
theorem Um {p:List UInt8}{k:Nat}(hi:k≤p.length∧AT Dq 0 p=AT Dq k (p.drop k))(h:(k:Int)<p.length)(ht:(decide (Be p k<48)||decide (57<Be p k))=false) :
  (k+1≤p.length∧AT Dq 0 p=AT Dq (k+1) (p.drop (k+1)))∧p.length-(k+1)<p.length-k:=by
 obtain⟨u,hu⟩:=MZ h;rw[Uz hu] at ht;exact L8 hi hu (by simp only[Dq,ht];rfl)
theorem WF {p:List UInt8}{k:Nat}(hi:k≤p.length∧AT Dq 0 p=AT Dq k (p.drop k))(h:(k:Int)<p.length)(ht:(decide (Be p k<48)||decide (57<Be p k))=true):AT Dq 0 p=false:=by
 obtain⟨u,hu⟩:=MZ h;rw[Uz hu] at ht;exact P7 hi hu (by simp only[Dq,ht];rfl)
theorem V9 {p:List UInt8}{k:Nat}(hi:k≤p.length∧AT Dq 0 p=AT Dq k (p.drop k))(h : ¬ (k:Int)<p.length):AT Dq 0 p=true:=Nw hi (by omega)
def B1 (p:List UInt8):Int:=if IX p=true then(match Lib.atoiAll p with | .ok v=>if Di v=true then 0 else 2 | _=>2) else 1
def Bn (p:List UInt8):Int:=if IX p=true then(match Lib.atoiAll p with | .ok v=>if Di v=true then v else 0 | _=>0) else 0
theorem LV:∀(l:List UInt8) (i acc:Nat),AT Dq i l=true→(∃u,Lib.parseUint10 acc l = .ok u)∨Lib.parseUint10 acc l = .range
 | [],_,acc,_=>.inl ⟨acc,rfl⟩
 | c::r,i,acc,h=>by
  simp only[AT,Yv] at h;have hc:48≤c.toNat∧c.toNat≤57:=by have:=h.1;simp[Dq] at this;omega
  unfold Lib.parseUint10;rw[Zd hc]
  split
  ·exact .inr rfl
  ·split
   ·exact .inr rfl
   ·exact LV r _ _ h.2
theorem QA {l:List UInt8}(hne:l≠[])(h:AT Dq 0 l=true):(∃u,Lib.parseMag l = .ok u)∨Lib.parseMag l = .range:=by
 unfold Lib.parseMag;rw[YW hne];exact LV l 0 0 h
theorem Ns {e:Lib.NumEnd Nat}(h:(∃u,e = .ok u)∨e = .range):(∃v,Lib.signless e = .ok v)∨Lib.signless e = .range:=by
 rcases h with⟨u,rfl⟩ | rfl
 ·unfold Lib.signless
  by_cases h:9223372036854775808≤u
  ·exact .inr (by simp[h])
  ·exact .inl ⟨_,by simp[h];rfl⟩
 ·exact .inr rfl
theorem P4 {e:Lib.NumEnd Nat}(h:(∃u,e = .ok u)∨e = .range):(∃v,Lib.signed e = .ok v)∨Lib.signed e = .range:=by
 rcases h with⟨u,rfl⟩ | rfl
 ·unfold Lib.signed
  by_cases h:9223372036854775808<u
  ·exact .inr (by simp[h])
  ·exact .inl ⟨_,by simp[h];rfl⟩
 ·exact .inr rfl
theorem U2 {p:List UInt8}(h:IX p=true):(∃v,Lib.atoiAll p = .ok v∧-9223372036854775808≤v∧v≤9223372036854775807)∨Lib.atoiAll p = .range:=by
 have key:(∃v,Lib.atoiAll p = .ok v)∨Lib.atoiAll p = .range:=by
  simp only[IX,Yv,YC,YM,Yr] at h;obtain⟨⟨hne,_⟩,hall⟩:=h
  cases p with
  | nil=>simp[G5,L7] at hne
  | cons c r=>
   by_cases hc:c=45
   ·subst hc;have hd:G5 (45::r)=r:=by simp[G5,L7,Be]
    rw[hd] at hne hall;rw[Lib.atoiAll_minus];exact P4 (QA hne hall)
   ·have hb : ¬ Be (c::r) 0=45:=by
     simp only[Be,Int.toNat_zero,List.getElem?_cons_zero,YS];intro e;exact hc (UInt8.toNat_inj.1 (by simpa using(by omega:c.toNat=45)))
    have hd:G5 (c::r)=c::r:=by simp[G5,L7,hb]
    rw[hd] at hne hall;have ha:48≤c.toNat:=by
     simp only[AT,Yv] at hall;have:=hall.1;simp[Dq] at this;omega
    rw[Lib.atoiAll_plain c r (by omega) (by omega)];exact Ns (QA hne hall)
 rcases key with⟨v,hv⟩ | h
 ·exact .inl ⟨v,hv,Lib.atoiAll_bounds hv⟩
 ·exact .inr h
theorem TT (m:Int)(h0 : -9223372036854775808≤m)(h1:m≤9223372036854775807):(Lib.itoa m).length≤21:=Lib.itoa_length_le m h0 h1
theorem Se (p:List UInt8)(hp:p.length≤281474976710656)(w:World):Calls Tryz.prog 67 [.string (B (p))].toArray w (JR w (.bool (IX p))):=by
 refine Hl (n:=43) Tryz.func67 rfl Tryz.ntmps67 rfl (Ap (Ak (Ay (Az rfl) rfl (An (Au (AU ?_))))));refine Ap (Ak (Ay (Am rfl) rfl (Ay (Az rfl) rfl (An (Au (AU ?_))))));refine AH [(0,.string (B (p))),(2,.bool (false)),(3,.string (B ((if ((decide ((0)<((p.length:Int))))&&(decide ((Be p 0)=(45))))=true then List.drop (Int.toNat (1)) p else p))))] [] (φ:=True) ?_ (λhu=>?_)
 ·refine AH [(0,.string (B (p))),(2,.bool (false)),(3,.string (B (p))),(13,.bool (((decide ((0)<((p.length:Int))))&&(decide ((Be p 0)=(45))))))] [] (φ:=True) ?_ (λhw=>?_)
  ·refine Ak (Ay (Am rfl) rfl (Ay (Bp CA rfl) rfl (Ay (Et rfl rfl) rfl (Ay (Am rfl) rfl (AR (decide ((0)<((p.length:Int)))) (λhd=>?_) (λhd=>?_))))))
   ·have hk:=hd;try simp only[Yq,Yr] at hk
    have hl:=hd;try simp at hl
    refine AJ rfl rfl hd (Ay (Am rfl) rfl (AJ rfl rfl hd (Ay (Bq CA rfl rfl (by first | omega | exact Gw (by assumption)) (by first | omega | exact Gw (by assumption))) rfl (AJ rfl rfl hd (Ay (BP rfl rfl) rfl (Ay (Ax rfl hd rfl) rfl (An ?_)))))));exact Au (Bx trivial ⟨rfl,rfl,rfl,fb (by first | (simp only[hd,Y5,YA,YK,Y7,YB,YF,YJ,YD,Y3,YE,Yw,Yt,Zk,Ze,reduceIte,YH];done) | simp[hd]),trivial⟩ .slnil)
   ·have hk:=hd;try simp only[Yq,Yr] at hk
    have hl:=hd;try simp at hl
    refine A9 rfl rfl hd rfl (A9 rfl rfl hd rfl (A9 rfl rfl hd rfl (Ay (AA rfl hd rfl) rfl (An ?_))));exact Au (Bx trivial ⟨rfl,rfl,rfl,fb (by first | (simp only[hd,Y5,YA,YK,Y7,YB,YF,YJ,YD,Y3,YE,Yw,Yt,Zk,Ze,reduceIte,YH];done) | simp[hd]),trivial⟩ .slnil)
  refine E5 (b:=((decide ((0)<((p.length:Int))))&&(decide ((Be p 0)=(45))))) rfl (λhg=>?_) (λhg=>?_)
  ·have hm:=hg;try simp only[Yq,Yr] at hm
   have f75:=hg;try simp at f75
   refine Ak (Ay (Am rfl) rfl (Ay (DL CA rfl rfl (by first | omega | (simp;omega)) (by first | omega | (simp;omega))) rfl (Ay (Az rfl) rfl (An ?_))));exact Au (Bx trivial ⟨rfl,rfl,fs (by first | (simp only[hg,Y5,YA,YK,Y7,YB,YF,YJ,YD,Y3,YE,Yw,Yt,Zk,Ze,reduceIte,YH];done) | simp[hg]),trivial⟩ .slnil)
  ·have hm:=hg;try simp only[Yq,Yr] at hm
   have f75:=hg;try simp at f75
   refine A3 ?_;exact Au (Bx trivial ⟨rfl,rfl,fs (by first | (simp only[hg,Y5,YA,YK,Y7,YB,YF,YJ,YD,Y3,YE,Yw,Yt,Zk,Ze,reduceIte,YH];done) | simp[hg]),trivial⟩ .slnil)
 have hdg:G5 p=(if ((decide ((0)<((p.length:Int))))&&(decide ((Be p 0)=(45))))=true then List.drop (Int.toNat (1)) p else p):=rfl;have hdl:=Ul p;rw[hdg] at hdl;generalize(if ((decide ((0)<((p.length:Int))))&&(decide ((Be p 0)=(45))))=true then List.drop (Int.toNat (1)) p else p)=dg at hdg hdl ⊢;refine Ap (AH [(2,.bool (false)),(3,.string (B (dg))),(26,.bool (((decide ((dg)=(([]:List UInt8))))||((decide ((Be dg 0)=(48)))&&(!(decide ((p)=(([48]:List UInt8)))))))))] [] (φ:=True) ?_ (λhx=>?_))
 ·refine Ak (Ay (Am rfl) rfl (Ay (I7 rfl rfl) rfl (Ay (Am rfl) rfl (AR (decide ((dg)=(([]:List UInt8)))) (λha=>?_) (λha=>?_)))))
  ·have hn:=ha;try simp only[Yq,Yr] at hn
   have f77:=ha;try simp at f77
   refine A9 rfl rfl ha rfl (A9 rfl rfl ha rfl (A9 rfl rfl ha rfl (A9 rfl rfl ha rfl (BC rfl rfl rfl (BC rfl rfl rfl (A9 rfl rfl ha rfl (Ay (Ax rfl ha rfl) rfl (An ?_))))))));exact Au (Bx trivial ⟨rfl,rfl,fb (by first | (simp only[ha,Y5,YA,YK,Y7,YB,YF,YJ,YD,Y3,YE,Yw,Yt,Zk,Ze,reduceIte,YH];done) | simp[ha]),trivial⟩ .slnil)
  ·have hn:=ha;try simp only[Yq,Yr] at hn
   have f77:=ha;try simp at f77
   refine AJ rfl rfl ha (Ay (Am rfl) rfl (AJ rfl rfl ha (Ay (Bq CA rfl rfl (by first | omega | exact Gw (by assumption)) (by first | omega | exact Gw (by assumption))) rfl (AJ rfl rfl ha (Ay (BP rfl rfl) rfl (AJ rfl rfl ha (Ay (Am rfl) rfl (AR (decide ((Be dg 0)=(48))) (λhe=>?_) (λhe=>?_)))))))))
   ·have ho:=he;try simp only[Yq,Yr] at ho
    have f78:=he;try simp at f78
    refine AJ rfl rfl he (Ay (Am rfl) rfl (AJ rfl rfl he (Ay (J6 rfl rfl) rfl (AJ rfl rfl ha (Ay (Ax rfl he rfl) rfl (Ay (AA rfl ha rfl) rfl (An ?_)))))));exact Au (Bx trivial ⟨rfl,rfl,fb (by first | (simp only[ha,he,Y5,YA,YK,Y7,YB,YF,YJ,YD,Y3,YE,Yw,Yt,Zk,Ze,reduceIte,YH];done) | simp[ha,he]),trivial⟩ .slnil)
   ·have ho:=he;try simp only[Yq,Yr] at ho
    have f78:=he;try simp at f78
    refine A9 rfl rfl he rfl (A9 rfl rfl he rfl (AJ rfl rfl ha (Ay (AA rfl he rfl) rfl (Ay (AA rfl ha rfl) rfl (An ?_)))));exact Au (Bx trivial ⟨rfl,rfl,fb (by first | (simp only[ha,he,Y5,YA,YK,Y7,YB,YF,YJ,YD,Y3,YE,Yw,Yt,Zk,Ze,reduceIte,YH];done) | simp[ha,he]),trivial⟩ .slnil)
 refine E5 (b:=((decide ((dg)=(([]:List UInt8))))||((decide ((Be dg 0)=(48)))&&(!(decide ((p)=(([48]:List UInt8)))))))) rfl (λhf=>?_) (λhf=>?_)
 ·have hq:=hf;try simp only[Yq,Yr] at hq
  have f80:=hf;try simp at f80
  refine Ap (Ak (Ay (Az rfl) rfl (An (Au (AU ?_)))));refine A1 (Af (A0 (BX rfl rfl) ?_));exact Iv (by simp only[IX,hdg,hf];rfl)
 ·have hq:=hf;try simp only[Yq,Yr] at hq
  have f80:=hf;try simp at f80
  refine A3 (Au (AU ?_));refine Ap (Ap (Ak (Ay (Am rfl) rfl (Ay (Bp CA rfl) rfl (Ay (Am rfl) rfl (An (Au (AU ?_))))))));refine AO (Je (S:=Nat) (λ(k:Nat)=>k≤dg.length∧AT Dq 0 dg=AT Dq k (dg.drop k)) (λ(k:Nat)=>[(29,.int .i64 ((k:Int))),(3,.string (B (dg))),(28,.int .i64 ((dg.length:Int)))]) (λ(k:Nat)=>[]) (λ(k:Nat)=>dg.length-k) (0) ?_ ⟨fi (by first | rfl | (simp;done) | omega | (simp;omega)),rfl,rfl,trivial⟩ .slnil ?_)
  ·exact⟨YU _,by simp⟩
  rintro k hi0;refine Ap (Ak (Ay (E1 rfl rfl) rfl (An (Au (AU ?_)))));refine Ap (E5 (b:=decide (((k:Int))<((dg.length:Int)))) rfl (λhh=>?_) (λhh=>?_))
  ·have hj:=hh;try simp only[Yq,Yr] at hj
   have f81:=hh;try simp at f81
   refine A3 (Au (AU ?_));refine Ap (AO (Ap (Ak (Ay (Am rfl) rfl (Ay (Az rfl) rfl (An (Au (AU ?_))))))));refine AH [(3,.string (B (dg))),(4,.int .i64 ((k:Int))),(28,.int .i64 ((dg.length:Int))),(29,.int .i64 ((k:Int))),(30,.bool (decide (((k:Int))<((dg.length:Int))))),(31,.int .i64 ((k:Int))),(32,.string (B (dg))),(33,.int .i64 ((k:Int))),(34,.int .u8 (Be dg (k:Int))),(35,.bool (decide ((Be dg (k:Int))<(48)))),(36,.bool (decide ((Be dg (k:Int))<(48)))),(41,.bool (((decide ((Be dg (k:Int))<(48)))||(decide ((57)<(Be dg (k:Int)))))))] [] (φ:=True) ?_ (λhy=>?_)
   ·refine Ak (Ay (Am rfl) rfl (Ay (Am rfl) rfl (Ay (Bq CA rfl rfl (by first | omega | exact Gw (by assumption)) (by first | omega | exact Gw (by assumption))) rfl (Ay (E1 rfl rfl) rfl (Ay (Am rfl) rfl (AR (decide ((Be dg (k:Int))<(48))) (λhb=>?_) (λhb=>?_)))))))
    ·have hr:=hb;try simp only[Yq,Yr] at hr
     have f82:=hb;try simp at f82
     refine A9 rfl rfl hb rfl (A9 rfl rfl hb rfl (A9 rfl rfl hb rfl (A9 rfl rfl hb rfl (Ay (Ax rfl hb rfl) rfl (An ?_)))));exact Au (Bx trivial ⟨rfl,rfl,rfl,rfl,rfl,rfl,rfl,rfl,rfl,rfl,rfl,fb (by first | (simp only[hf,hh,hb,Y5,YA,YK,Y7,YB,YF,YJ,YD,Y3,YE,Yw,Yt,Zk,Ze,reduceIte,YH];done) | simp[hf,hh,hb]),trivial⟩ .slnil)
    ·have hr:=hb;try simp only[Yq,Yr] at hr
     have f82:=hb;try simp at f82
     refine AJ rfl rfl hb (Ay (Am rfl) rfl (AJ rfl rfl hb (Ay (Am rfl) rfl (AJ rfl rfl hb (Ay (Bq CA rfl rfl (by first | omega | exact Gw (by assumption)) (by first | omega | exact Gw (by assumption))) rfl (AJ rfl rfl hb (Ay (Et rfl rfl) rfl (Ay (AA rfl hb rfl) rfl (An ?_)))))))));exact Au (Bx trivial ⟨rfl,rfl,rfl,rfl,rfl,rfl,rfl,rfl,rfl,rfl,rfl,fb (by first | (simp only[hf,hh,hb,Y5,YA,YK,Y7,YB,YF,YJ,YD,Y3,YE,Yw,Yt,Zk,Ze,reduceIte,YH];done) | simp[hf,hh,hb]),trivial⟩ .slnil)
   refine E5 (b:=((decide ((Be dg (k:Int))<(48)))||(decide ((57)<(Be dg (k:Int)))))) rfl (λhi=>?_) (λhi=>?_)
   ·have hs:=hi;try simp only[Yq,Yr] at hs
    have ht:=hi;try simp at ht
    refine Ap (Ak (Ay (Az rfl) rfl (An (Au (AU ?_)))));refine A1 (A6 (Af (Af (A6 (Af (A0 (BX rfl rfl) ?_))))));exact Iv (by simp[IX,hdg,WF hi0 hj hi])
   ·have hs:=hi;try simp only[Yq,Yr] at hs
    have ht:=hi;try simp at ht
    refine A3 (AK (Au (AU ?_)));refine Ak (Ay (BQ rfl rfl (IntWalk.i64_in _ (by omega))) rfl (Ay (Am rfl) rfl (An (Au (AF (k+1) ?_ ⟨fi (by first | rfl | (simp;done) | omega | (simp;omega)),rfl,rfl,trivial⟩ .slnil)))));exact Um hi0 hj hi
  ·have hj:=hh;try simp only[Yq,Yr] at hj
   have f81:=hh;try simp at f81
   refine BJ (AB (AB (Bt (Au (AU ?_)))));refine Ap (Ak (Ay (Az rfl) rfl (An (Au (AU ?_)))));refine A1 (A0 (BX rfl rfl) ?_);exact Iv (by simp only[IX,hdg,hf,V9 hi0 hj];rfl)
theorem Uc (m:Int)(h0 : -9223372036854775808≤m)(h1:m≤9223372036854775807)(w:World)(hE:QZ w):Calls Tryz.prog 44 [.int .i64 (m)].toArray w (JR w (.string (B (Lib.itoa m)))):=by
 refine Hl (n:=5) Tryz.func44 rfl Tryz.ntmps44 rfl (Ap (Ak (Ay (Az rfl) rfl (An (Au (AU ?_))))));refine Ap (Ak (Ay (Am rfl) rfl (BL Tryz.call66 rfl (λw hw=>W4 m (by omega) (by omega) w (hE.st0 hw)) rfl (Ay (Az rfl) rfl (An (Au (AU ?_)))))));refine A1 (A0 (BX rfl rfl) ?_);exact Iv (by first | rfl | simp[])
theorem Vg (p:List UInt8)(hp:p.length≤281474976710656)(w:World)(hE:QZ w):Calls Tryz.prog 46 [.string (B (p))].toArray w (JR w (.tuple #[.int .i64 (Bn p),.int .i64 (B1 p)])):=by
 refine Hl (n:=22) Tryz.func46 rfl Tryz.ntmps46 rfl (Ap (Ak (Ay (Az rfl) rfl (Ay (Az rfl) rfl (An (Au (AU ?_)))))));refine Ap (Ap (Ak (Ay (Am rfl) rfl (BL Tryz.call67 rfl (λw hw=>Se p (by first | omega | (simp;done) | (simp;omega) | (simp at *;omega)) w) rfl (Ay (BK rfl) rfl (An (Au (AU ?_))))))));refine E5 (b:=!(IX p)) rfl (λhb=>?_) (λhb=>?_)
 ·have hf:=hb;try simp only[Yq,Yr] at hf
  have ha:=hb;try simp only[Yq,Yr,Yv,YZ,YC,Bool.not_eq_false',Zm,YM,not_or,Int.not_lt,Int.not_le] at ha
  refine Ap (Ak (Ay (Az rfl) rfl (Ay (Az rfl) rfl (An (Au (AU ?_))))));refine A1 (Af (A0 (Ie rfl rfl rfl) ?_));exact Iv (by simp[Bn,B1,ha])
 ·have hf:=hb;try simp only[Yq,Yr] at hf
  have ha:=hb;try simp only[Yq,Yr,Yv,YZ,YC,Bool.not_eq_false',Zm,YM,not_or,Int.not_lt,Int.not_le] at ha
  refine A3 (Au (AU ?_));refine Ap (Ak (Ay (Am rfl) rfl ?_));rcases U2 (p:=p) (by assumption) with⟨av,hav,hal,hah⟩ | hav
  ·refine BL Tryz.call68 rfl (λw _=>VH p (by first | omega | (simp;done) | (simp;omega) | (simp at *;omega)) av hav w) rfl (Ay (Am rfl) rfl (Ay (AI rfl rfl) rfl (Ay (AI rfl rfl) rfl (Ay (Az rfl) rfl (Ay (Az rfl) rfl (An (Au (AU ?_))))))));refine Ap (AH [(2,.int .i64 (0)),(3,.int .i64 (0)),(4,.int .i64 (av)),(20,.bool (!(Di av)))] [] (φ:=True) ?_ (λhh=>?_))
   ·exact Ak (Ay (Am rfl) rfl (Ay (O3 Tryz.underlying108 rfl) rfl (Ay (Am rfl) rfl (AJ rfl rfl rfl (Ay (Am rfl) rfl (AJ rfl rfl rfl (BL Tryz.call69 rfl (λw hw=>UN av w) rfl (AJ rfl rfl rfl (Ay (BK rfl) rfl (Ay (AA rfl rfl rfl) rfl (An (Au (Bx trivial ⟨rfl,rfl,rfl,rfl,trivial⟩ .slnil)))))))))))))
   refine E5 (b:=!(Di av)) rfl (λhd=>?_) (λhd=>?_)
   ·have hg:=hd;try simp only[Yq,Yr] at hg
    have he:=hd;try simp only[Yq,Yr,Yv,YZ,YC,Bool.not_eq_false',Zm,YM,not_or,Int.not_lt,Int.not_le] at he
    refine Ap (Ak (Ay (Az rfl) rfl (Ay (Az rfl) rfl (An (Au (AU ?_))))));refine A1 (Af (A0 (Ie rfl rfl rfl) ?_));exact Iv (by simp[Bn,B1,hav,ha,he])
   ·have hg:=hd;try simp only[Yq,Yr] at hg
    have he:=hd;try simp only[Yq,Yr,Yv,YZ,YC,Bool.not_eq_false',Zm,YM,not_or,Int.not_lt,Int.not_le] at he
    refine A3 (Au (AU ?_));refine Ap (Ak (Ay (Am rfl) rfl (Ay (Az rfl) rfl (Ay (Az rfl) rfl (An (Au (AU ?_)))))));refine A1 (A0 (Ie rfl rfl rfl) ?_);exact Iv (by simp[Bn,B1,hav,ha,he])
  ·refine UM Tryz.call68 rfl (λw hw=>PX p (by first | omega | (simp;done) | (simp;omega) | (simp at *;omega)) hav w (hE.st0 hw)) rfl ?_;rintro _ _ ⟨am,at_,ab,rfl,rfl⟩;refine Ay (Am rfl) rfl (Ay (AI rfl rfl) rfl (Ay (AI rfl rfl) rfl (Ay (Az rfl) rfl (Ay (Az rfl) rfl (An (Au (AU ?_)))))));refine Ap (AH [(2,.int .i64 (0)),(3,.int .i64 (0)),(4,.int .i64 (am)),(20,.bool (true))] [] (φ:=True) ?_ (λhi=>?_))
   ·exact Ak (Ay (Am rfl) rfl (Ay (Vn Tryz.underlying108 rfl) rfl (Ay (Am rfl) rfl (A9 rfl rfl rfl rfl (A9 rfl rfl rfl rfl (A9 rfl rfl rfl rfl (Ay (Ax rfl rfl rfl) rfl (An (Au (Bx trivial ⟨rfl,rfl,rfl,rfl,trivial⟩ .slnil))))))))))
   refine DU rfl rfl (Ap (Ak (Ay (Az rfl) rfl (Ay (Az rfl) rfl (An (Au (AU ?_)))))));refine A1 (Af (A0 (Ie rfl rfl rfl) ?_));exact Iv (by simp[Bn,B1,hav,ha])
end Go.Proofs.YtmmbdclkpijkpaaGreatDoor
namespace Go.Proofs
open Go.Shelf
def Tryz.lays169_ren:Go.Shelf.Ren:=⟨fun | 169=>65 | n=>n,fun | 70=>101 | 9=>9 | 0=>0 | 72=>104 | 37=>102 | 127=>135 | 3=>3 | 5=>5 | n=>n,fun | n=>n⟩
theorem Tryz.lays169:Go.Proofs.Lays.n169 Tryz.prog Tryz.lays169_ren:={
 mixed:=by kernel_rfl
 f169:=Tryz.func65.trans (congrArg some (by kernel_rfl))
 t0:=Tryz.underlying0
 a0:=Tryz.isAgg0
 z0:=Tryz.sizeOf0
 v0:=Tryz.zeroValue0
 t3:=Tryz.underlying3
 a3:=Tryz.isAgg3
 z3:=Tryz.sizeOf3
 v3:=Tryz.zeroValue3
 t9:=Tryz.underlying9
 a9:=Tryz.isAgg9
 z9:=Tryz.sizeOf9
 v9:=Tryz.zeroValue9
 t37:=Tryz.underlying102
 a37:=Tryz.isAgg102
 z37:=Tryz.sizeOf102
 v37:=Tryz.zeroValue102
 t70:=Tryz.underlying101
 a70:=Tryz.isAgg101
 z70:=Tryz.sizeOf101
 v70:=Tryz.zeroValue101
 t72:=Tryz.underlying104
 a72:=Tryz.isAgg104
 z72:=Tryz.sizeOf104
 v72:=Tryz.zeroValue104
 t127:=Tryz.underlying135
 a127:=Tryz.isAgg135
 z127:=Tryz.sizeOf135
 v127:=Tryz.zeroValue135 }
theorem Tryz.Builder_Extra_169:Builder.Extra Tryz.prog Tryz.lays169_ren:={
 sizeBuilder:=by kernel_rfl
 liesBuilder:=by kernel_rfl
 t5:=Tryz.underlying5
 a5:=Tryz.isAgg5
 z5:=Tryz.sizeOf5
 v5:=Tryz.zeroValue5
 infoByte:=by kernel_rfl
 cellsByte:=by kernel_rfl
 sizeByte:=by kernel_rfl
 neB5:=by decide }
open Go.RowKit in
theorem Tryz.Builder_String_any (B b:Nat)(l:List UInt8)(w:World)(h:Lib.IsBuilder 104 5 B b (Lib.byteCells l) w)(hBw:B≤w.heap.size) :
  Calls Tryz.prog 65 #[.pointer (some ⟨b,0,none⟩)] w λe w'=>e = .returned (.string ⟨l.toArray⟩)∧Below B w w':=Any.Builder_String_any Tryz.lays169 Tryz.Builder_Extra_169 B b l w h hBw
def Tryz.lays138_ren:Go.Shelf.Ren:=⟨fun | 138=>128 | 195=>142 | 218=>143 | 143=>144 | 219=>152 | 217=>155 | 225=>156 | 224=>157 | 267=>158 | 266=>159 | 314=>160 | n=>n,fun | 9=>9 | 3=>3 | 4=>4 | 5=>5 | 0=>0 | 46=>98 | 146=>192 | 51=>123 | n=>n,fun | 1=>3 | n=>n⟩
theorem Tryz.lays138:Go.Proofs.Lays.n138 Tryz.prog Tryz.lays138_ren:={
 mixed:=by kernel_rfl
 f138:=Tryz.func128.trans (congrArg some (by kernel_rfl))
 f143:=Tryz.func144.trans (congrArg some (by kernel_rfl))
 f195:=Tryz.func142.trans (congrArg some (by kernel_rfl))
 f217:=Tryz.func155.trans (congrArg some (by kernel_rfl))
 f218:=Tryz.func143.trans (congrArg some (by kernel_rfl))
 f219:=Tryz.func152.trans (congrArg some (by kernel_rfl))
 f224:=Tryz.func157.trans (congrArg some (by kernel_rfl))
 f225:=Tryz.func156.trans (congrArg some (by kernel_rfl))
 f266:=Tryz.func159.trans (congrArg some (by kernel_rfl))
 f267:=Tryz.func158.trans (congrArg some (by kernel_rfl))
 f314:=Tryz.func160.trans (congrArg some (by kernel_rfl))
 t0:=Tryz.underlying0
 a0:=Tryz.isAgg0
 z0:=Tryz.sizeOf0
 v0:=Tryz.zeroValue0
 t3:=Tryz.underlying3
 a3:=Tryz.isAgg3
 z3:=Tryz.sizeOf3
 v3:=Tryz.zeroValue3
 t4:=Tryz.underlying4
 a4:=Tryz.isAgg4
 z4:=Tryz.sizeOf4
 v4:=Tryz.zeroValue4
 t5:=Tryz.underlying5
 a5:=Tryz.isAgg5
 z5:=Tryz.sizeOf5
 v5:=Tryz.zeroValue5
 t9:=Tryz.underlying9
 a9:=Tryz.isAgg9
 z9:=Tryz.sizeOf9
 v9:=Tryz.zeroValue9
 t46:=Tryz.underlying98
 a46:=Tryz.isAgg98
 z46:=Tryz.sizeOf98
 v46:=Tryz.zeroValue98
 t51:=Tryz.underlying123
 a51:=Tryz.isAgg123
 z51:=Tryz.sizeOf123
 v51:=Tryz.zeroValue123
 t146:=Tryz.underlying192
 a146:=Tryz.isAgg192
 z146:=Tryz.sizeOf192
 v146:=Tryz.zeroValue192
 g1:=by kernel_rfl }
open Go.RowKit Go.Lib in
theorem Tryz.strings_Count_one (s:ByteArray)(c:UInt8)(w:World) :
  Calls Tryz.prog 128 #[.string s,.string ⟨#[c]⟩] w λe w'=>e = .returned (.int .i64 (Lib.countByte s.data.toList c))∧w'=w:=Any.strings_Count_one Tryz.lays138 s c w
end Go.Proofs
namespace Go.Proofs.YtmmbdclkpijkpaaGreatDoor
open Go
set_option linter.unusedVariables false
set_option linter.unusedSimpArgs false
theorem U4 {f:Nat→UInt8→Bool}:∀{l:List UInt8} {i:Nat},(∀j,∀u∈l,f j u=true)→AT f i l=true
 | [],_,_=>rfl
 | x::r,i,h=>by simp only[AT,Yv];exact⟨h i x (by simp),U4 λj u hu=>h j u (by simp[hu])⟩
theorem Qv:∀(l:List UInt8) (acc v:Nat) (c:UInt8),Lib.parseUint10 acc l = .ok v→48≤c.toNat→c.toNat≤57→v<1844674407370955161→Lib.parseUint10 acc (l++[c]) = .ok (v*10+(c.toNat-48))
 | [],acc,v,c,h,h0,h1,hv=>by
  simp only[Lib.parseUint10,Lib.NumEnd.ok.injEq] at h;subst h;simp only[Zf,Lib.parseUint10];rw[Zd ⟨h0,h1⟩,YW (by omega),YW (by omega)]
 | x::r,acc,v,c,h,h0,h1,hv=>by
  simp only[Zb,Lib.parseUint10] at h ⊢
  split at h
  ·rename_i hx
   rw[Zd hx]
   split at h
   ·cases h
   ·rename_i hy
    rw[YW hy]
    split at h
    ·cases h
    ·rename_i hz
     rw[YW hz];exact Qv r _ v c h h0 h1 hv
  ·cases h
theorem IO {d:Nat}(h:d<10):(UInt8.ofNat (48+d)).toNat=48+d:=by
 simp[UInt8.toNat_ofNat'];omega
theorem VC (u:Nat):∀c∈Lib.decDigits u,48≤c.toNat∧c.toNat≤57:=by
 induction u using Nat.strongRecOn with
 | ind u ih=>
  intro c hc;rw[Lib.decDigits] at hc
  split at hc
  ·simp only[YO] at hc;subst hc;rw[IO (by omega)];omega
  ·rcases List.mem_append.1 hc with hc | hc
   ·exact ih (u/10) (by omega) c hc
   ·simp only[YO] at hc;subst hc;rw[IO (by omega)];omega
theorem Sf (u:Nat):u<18446744073709551610→Lib.parseUint10 0 (Lib.decDigits u) = .ok u:=by
 induction u using Nat.strongRecOn with
 | ind u ih=>
  intro hu;rw[Lib.decDigits]
  split
  ·rename_i h
   simp only[Lib.parseUint10];rw[IO h,Zd (by omega),YW (by omega),YW (by omega)]
   congr 1;omega
  ·rename_i h
   have:=Qv (Lib.decDigits (u/10)) 0 (u/10) (UInt8.ofNat (48+u % 10)) (ih (u/10) (by omega) (by omega)) (by rw[IO (by omega)];omega) (by rw[IO (by omega)];omega) (by omega);rw[this,IO (by omega)]
   congr 1;omega
theorem Un (u:Nat):Lib.decDigits u≠[]:=by
 rw[Lib.decDigits];split<;>simp
theorem Sg (u:Nat):1≤u→Be (Lib.decDigits u) 0≠48:=by
 induction u using Nat.strongRecOn with
 | ind u ih=>
  intro hu;rw[Lib.decDigits]
  split
  ·rename_i h
   have:=IO h;simp only[Be,Int.toNat_zero,List.getElem?_cons_zero,YS];rw[this];omega
  ·rename_i h
   have h1:=ih (u/10) (by omega) (by omega);have hne:=Un (u/10);unfold Be at h1 ⊢;rw[show(0:Int).toNat=0 from rfl] at h1 ⊢
   rwa [Zp (by cases hd:Lib.decDigits (u/10) with | nil=>exact absurd hd hne | cons=>simp)]
theorem VB (u:Nat)(h:u<10):Lib.decDigits u=[UInt8.ofNat (48+u)]:=by rw[Lib.decDigits];simp[h]
theorem TU {m:Int}(h0:0≤m):Lib.itoa m=Lib.decDigits m.toNat:=by
 have:=Lib.itoa_nonneg m.toNat
 rwa [show((m.toNat:Nat):Int)=m from by omega] at this
theorem RX {m:Int}(h0:0≤m)(h1:m≤1000000000000):B1 (Lib.itoa m)=0∧Bn (Lib.itoa m)=m:=by
 rw[TU h0];generalize hu:m.toNat=u;have hub:u≤1000000000000:=by omega
 have hall:=VC u;have hne:=Un u;have hd0:∃c r,Lib.decDigits u=c::r:=by cases h:Lib.decDigits u with | nil=>exact absurd h hne | cons c r=>exact⟨c,r,rfl⟩
 obtain⟨c,r,hcr⟩:=hd0;have hc:48≤c.toNat∧c.toNat≤57:=hall c (by simp[hcr]);have hs:L7 (Lib.decDigits u)=false:=by
  rw[hcr];have e:Be (c::r) 0=c.toNat:=rfl;simp only[L7,e,Zm,Yr]
  right;omega
 have hdg:G5 (Lib.decDigits u)=Lib.decDigits u:=by simp[G5,hs]
 have hdec:IX (Lib.decDigits u)=true:=by
  simp only[IX,hdg];have h2:AT Dq 0 (Lib.decDigits u)=true:=U4 λj x hx=>by
   have:=hall x hx;simp[Dq];omega
  rw[h2];have h3:decide (Lib.decDigits u=[])=false:=by simpa using hne
  rw[h3]
  by_cases hz:u=0
  ·subst hz;rw[VB 0 (by omega)];rfl
  ·have:=Sg u (by omega);simp[this]
 have hat:Lib.atoiAll (Lib.decDigits u) = .ok (u:Int):=by
  have h4:=Sf u (by omega);rw[hcr] at h4 ⊢;rw[Lib.atoiAll_plain c r (by omega) (by omega)];have:Lib.parseMag (c::r) = .ok u:=by unfold Lib.parseMag;rw[YW (by simp)];exact h4
  rw[this];simp only[Lib.signless];rw[YW (by omega)]
 have hv:Di (u:Int)=true:=by simp[Di];omega
 simp only[B1,Bn,hdec,Zk,hat,hv];exact⟨trivial,by omega⟩
open Go Go.RowKit
section
variable {P : Program} {n : Nat} {w0 : World} {M : List Nat} {l : Fr} {H : List Ent} {d : Option Nat} {x y : Operand} {ty t t' : TypeId} {pos : String} {af : Array Edge} {g : Option (Nat × Bool)} {k : IntKind} {p q z : Int}
end
set_option maxRecDepth 100000
end Go.Proofs.YtmmbdclkpijkpaaGreatDoor
namespace Go.Proofs.YtmmbdclkpijkpaaGreatDoor.Q
open Go Go.RowKit
set_option linter.unusedVariables false
def GE (Z:Fz):Prop:=∀w,S3 Z w→QZ w
theorem GE.mono {Z Z':Fz}(h:Fz.le Z Z')(hg:GE Z):GE Z':=λw hw=>hg w ⟨λb o e=>hw b o (h b o e),λk i b e=>hw.nm k i b (h.nm k i b e)⟩
theorem Mh.rle {P:Program}{E:Fz→Prop}{f:FuncId}{args:List Rp}{r r':Rp}(h:Mh P E f args r)(hr:Ks r r'):Mh P E f args r':=λw Z vs hv hs=>
 (h w Z vs hv hs).mono λe w' ⟨q,v,H,Z',he,⟨hq,hH⟩,hp,ht⟩=>⟨r',v,H,Z',he,⟨rfl,hH⟩,hr Z' v (hq▸hp),ht⟩
theorem Ks.tup2 {a b:Value}:Ks (rv (.tuple #[a,b])) (C0 [rv a,rv b]):=λZ v h=>⟨[a,b],h,rfl,rfl,trivial⟩
theorem Mh.of_id {P:Program}{E:Fz→Prop}{f:FuncId}{vs:List Value}{v:Value}(h:∀w,Calls P f vs.toArray w (λe w'=>e = .returned v∧w'=w)):Mh P E f (vs.map rv) (rv v):=
 Mh.of_old λw Z _ _=>(h w).mono λe w' ⟨he,hw⟩=>⟨he,by rw[hw];exact Proofs.YtmmbdclkpijkpaaGreatDoor.St.refl w []⟩
theorem LR (m:Int)(g:BT .i64 m=true):Mh Tryz.prog GE 44 [rI .i64 m] (rS (Lib.itoa m)):=Mh.of_old (vs:=[.int .i64 m]) λw Z hf he=>Uc m (JG g).1 (JG g).2 w (he w hf)
theorem Qz (s:Ae)(g:Ea 1 s.length=true):Mh Tryz.prog GE 46 [rS s] (C0 [rI .i64 (Bn s),rI .i64 (B1 s)]):=(Mh.of_old (vs:=[.string (B s)]) λw Z hf he=>Vg s (by simp[Ea] at g;omega) w (he w hf)).rle Ks.tup2
theorem QS (s:Ae)(c:UInt8):Mh Tryz.prog GE 128 [rS s,rS [c]] (rI .i64 (Lib.countByte s c)):=Mh.of_id (vs:=[.string (B s),.string (B [c])]) λw=>by have:=Tryz.strings_Count_one (B s) c w;rwa [Qc] at this
theorem XQ (s:Ae):Mh Tryz.prog GE 61 [rS s] (rB (QK s)):=Mh.of_old (vs:=[.string (B s)]) λw Z hf he=>XR s w
theorem TB (s:Ae):Mh Tryz.prog GE 62 [rS s] (rB (CS s)):=Mh.of_old (vs:=[.string (B s)]) λw Z hf he=>Ww s w
open Go Go.RowKit Go.ChangeShapes Go.Deep
set_option linter.unusedSimpArgs false
def ZW (W:World):Fz:=⟨λb=>W.heap[b]?,λ_ _=>none⟩
theorem ZW.frz (W:World):S3 (ZW W) W:=⟨λ_ _ h=>h,λ_ _ _ h=>by cases h⟩
def KP (P:Program)(e:TypeId){α:Type}(enc:α→List Rp)(ok:α→Bool):Prop:=
 ∀{H:Type} {encH:TypeId×Value→H} {W:World} {sp:Nat→Bool} {held:Bool} {n:Nat} {cs:List Value} {x:DataW H×List MemPlace},DataW.trod encH P W 0 sp held n e cs=some x→∃y:α,ok y=true∧AN (ZW W) (enc y) cs
section
variable {P : Program} {e t : TypeId}
theorem KP.int {k:IntKind}{enc:Int→List Rp}(ht:P.underlying e=some (.int k))(he:∀n,enc n=[rI k n]):KP P e enc (BT k):=λh=>by
 obtain⟨n,rfl,_,hwf⟩:=DataW.trod_int ht h;exact⟨n,hwf,by rw[he];exact⟨rfl,trivial⟩⟩
theorem KP.str {enc:Ae→List Rp}(ht:P.underlying e=some .string)(he:∀n,enc n=[rS n]):KP P e enc UA:=λh=>by
 obtain⟨s,rfl,_,hl⟩:=DataW.trod_string ht h;exact⟨s.data.toList,Y0 (by rw[Array.length_toList];exact hl),by rw[he];exact⟨congrArg Value.string (Yc s),trivial⟩⟩
theorem KP.bool {enc:Bool→List Rp}(ht:P.underlying e=some .bool)(he:∀n,enc n=[rB n]):KP P e enc (λ_=>true):=λh=>by
 obtain⟨b,rfl,_⟩:=DataW.trod_bool ht h;exact⟨b,rfl,by rw[he];exact⟨rfl,trivial⟩⟩
theorem Ni {W:World}{a:Addr}{v:Value}(h:W.cell? a=some v):a.spot=none∧Hp (ZW W) a.block a.off=some v:=by
 unfold World.cell? at h;unfold Hp ZW;dsimp only
 cases hh:W.heap[a.block]? with
 | none=>rw[hh] at h;cases h
 | some o=>
  rw[hh] at h
  cases o with
  | cells cs t fz=>
   cases hs:a.spot with
   | none=>simp[hs] at h;exact⟨rfl,h⟩
   | some _=>simp[hs] at h
  | _=>simp at h
theorem KP.slice {α:Type}[Inhabited α]{enc:α→List Rp}{ok:α→Bool}{sz:Nat}(ht:P.underlying t=some (.slice e))(hc:P.cellsOf e=sz)(hsz:0<sz)(h:KP P e enc ok)(hlen:∀y,(enc y).length=sz){enc':List α→List Rp}(he:∀ys,enc' ys=[Bz sz (ys.map enc)]) :
  KP P t enc' (λys=>ys.all ok&&decide (ys.length≤9223372036854775807)):=fun {H encH W sp held n cs x} hx=>by
 rcases open_slice ht hx with⟨rfl,_⟩ | ⟨a,len,cap,m,n',D,Pl,rfl,hb,hl,hm,hmm,_,hel⟩
 ·exact⟨[],by simp,by rw[he];exact⟨Pj.nil sz _,trivial⟩⟩
 ·have hlm:len≤m:=by rw[hmm];split<;>omega
  have each:∀i,i<len→∃y:α,ok y=true∧∃cs',W.cells? 0 (a.add (i*sz)) sz=some cs'∧AN (ZW W) (enc y) cs':=λi hi=>by
   obtain⟨cs',h1,h2⟩:=hel i (by omega);obtain⟨y,hy,hr⟩:=h h2;rw[hc] at h1;exact⟨y,hy,cs',h1,hr⟩
  obtain⟨f,hf⟩:=choose_lt each;refine⟨(List.range len).map f,?_,?_⟩
  ·simp only[Yv,YL,List.mem_map,List.mem_range,Yq];refine⟨?_,by simp;simp only[maxLen] at hm;omega⟩;rintro _ ⟨i,hi,rfl⟩;exact(hf i hi).1
  ·rw[he];refine⟨⟨some a,cap,by simp,by simpa using hl,hm,(λh=>by cases h),λi c hi=>?_⟩,trivial⟩;rw[Zh,YX] at hi;have hil:i<len:=by
    cases hq:(List.range len)[i]? with
    | none=>rw[hq] at hi;cases hi
    | some _=>have:=(List.getElem?_eq_some_iff.1 hq).1;simpa using this
   rw[List.getElem?_range hil] at hi;simp only[Option.map_some,Option.some.injEq,Function.comp] at hi;subst hi;obtain⟨_,cs',h1,hr⟩:=hf i hil;obtain⟨_,hcl,hcell⟩:=World.cells?_some h1;have hsp:a.spot=none:=by
    obtain⟨_,cs0,g1,_⟩:=hf 0 (by omega);obtain⟨_,gcl,gcell⟩:=World.cells?_some g1;have h0:=gcell 0 hsz;rw[Y1 (by omega)] at h0;have:=(Ni h0).1;simpa[Addr.add] using this
   refine⟨hlen _,a,rfl,hsp,λj r hj=>?_⟩;obtain⟨u,hu,hp⟩:=hr.at hj;have hjs:j<sz:=by have:=(List.getElem?_eq_some_iff.1 hj).1;rw[hlen] at this;exact this
   have h3:=hcell j hjs;rw[hu] at h3;have h4:=(Ni h3).2;refine⟨u,?_,hp⟩;have e1:((a.add (i*sz)).add j).block=a.block:=by simp only[Addr.add];split<;>split<;>rfl
   have e2:((a.add (i*sz)).add j).off=a.off+(i*sz+j):=by simp only[Addr.add];split<;>split<;>simp_all<;>omega
   rw[e1,e2] at h4;exact h4
theorem Nu {Z:Fz}{cs:List Value}{o:Nat}(h:cs.length=o):AN Z [] (cs.drop o):=by rw[List.drop_of_length_le (by omega)];trivial
theorem CP {Z:Fz}{cs:List Value}{o s o':Nat}{rs rs':List Rp}(h:AN Z rs ((cs.drop o).take s))(ho:o+s=o')(h2:AN Z rs' (cs.drop o')):AN Z (rs++rs') (cs.drop o):=by
 rw[← Zi s (cs.drop o),List.drop_drop];subst ho;exact h.append h2
theorem KP.val {α:Type}{enc:α→List Rp}{ok:α→Bool}(h:KP P e enc ok){r:α→Rp}(he:∀y,enc y=[r y]){H:Type}{encH:TypeId×Value→H}{W:World}{sp:Nat→Bool}{held:Bool}{v:Value}{d:DataW H}{ps:List MemPlace}
  (hone:v.cells = #[v]) (ht:DataW.Trod encH P W 0 sp held e v d ps):∃y:α,ok y=true∧(r y).p (ZW W) v:=by
 obtain⟨fuel,hf⟩:=ht;rw[hone] at hf;obtain⟨y,hy,hr⟩:=h hf;rw[he] at hr;exact⟨y,hy,hr.1⟩
end
theorem Ub {W w:World}(hw:S3 (ZW W) w):W.heap.size≤w.heap.size:=by
 rcases Nat.eq_zero_or_pos W.heap.size with h | h
 ·omega
 ·have h1:W.heap[W.heap.size-1]? =some (W.heap[W.heap.size-1]'(by omega)):=Array.getElem?_eq_getElem (by omega);have:=(Array.getElem?_eq_some_iff.1 (hw _ _ h1)).1;omega
theorem Sb {W:World}(hE:QZ W):GE (ZW W):=λw hw=>by
 have hb:Below W.heap.size W { w with os:=W.os,tape:=W.tape,output:=W.output }:=⟨rfl,rfl,rfl,(show W.heap.size≤w.heap.size from Ub hw),λk hk=>by
  have h1:W.heap[k]? =some (W.heap[k]'hk):=Array.getElem?_eq_getElem hk;rw[h1];exact hw k _ h1⟩
 have hE2:=hE.st0 (St.of_below hb);exact⟨NN.block { w with os:=W.os,tape:=W.tape,output:=W.output } w (λ_ _=>rfl) hE2.tabs,hE2.size⟩
theorem SX {W:World}(hE:QZ W):St ⟨W,ZW W,[],GE,[]⟩ [] (ZW W) W where
 os:=rfl
 tape:=rfl
 output:=rfl
 size:=Y8 _
 old:=λ_ _ _=>rfl
 has:=λ_ h=>by cases h
 own:=λ_ h=>by cases h
 dis:=.nil
 frz:=ZW.frz W
 le:=Fz.le.refl _
 new:=λ_ _ h=>.inl h
 zdis:=λ_ h=>by cases h
 env:=Sb hE
 emono:=λh hg=>GE.mono h hg
 gst:=JT.none rfl
theorem SY {W W':World}{Z Z':Fz}{E:Fz→Prop}{H:List Ent}(h:St ⟨W,Z,[],E,[]⟩ H Z' W'):Below W.heap.size W W':=⟨h.os,h.tape,h.output,h.size,λk hk=>h.old k hk (by simp)⟩
open Go
def Kn (l:(List Int)):Option ((List Int)):=
 some l
def HP (l:(List Int))(c:Int):Option (Unit×(List Int)):=
 B0 (Kn l) λr1=>Bc (Ea 1 (r1.length+([c]:List Int).length))<|some ((),r1++([c]:List Int))
def G7 (l:(List Int))(s:Ae):Option (Int×Unit×(List Int)):=
 B0 (Kn l) λr1=>Bc (Ea 1 (r1.length+s.length))<|some ((s.length:Int),(),r1++CH s)
def Mc (l:Ae):Option (Ae):=
 Bc (decide (0<(CH l).length))<|some l
def Km (l:(List Int)):Option ((List Int)):=
 some l
def HO (l:(List Int))(c:Int):Option (Unit×(List Int)):=
 B0 (Km l) λr1=>Bc (Ea 1 (r1.length+([c]:List Int).length))<|some ((),r1++([c]:List Int))
def G6 (l:(List Int))(s:Ae):Option (Int×Unit×(List Int)):=
 B0 (Km l) λr1=>Bc (Ea 1 (r1.length+s.length))<|some ((s.length:Int),(),r1++CH s)
def Mb (l:Ae):Option (Ae):=
 Bc (decide (0<(CH l).length))<|some l
set_option maxRecDepth 100000
set_option maxHeartbeats 4000000
theorem LQ:∃inf,Tryz.prog.info? 5=some inf∧inf.zero=some (.int .u8 0)∧inf.size=1∧inf.bytes=1:=by
  have key:(Tryz.prog.info? 5).map (λi=>(i.zero,i.size,i.bytes))=some (some (.int .u8 0),1,1):=by kernel_rfl
  obtain⟨inf,h1,h2⟩:=Option.map_eq_some_iff.1 key;simp only[Prod.mk.injEq] at h2;exact⟨inf,h1,h2.1,h2.2.1,h2.2.2⟩
theorem OL:∃j,Tryz.prog.info? 104=some j∧j.size≠0:=by
  have key:(Tryz.prog.info? 104).map (λi=>i.size)=some 2:=by kernel_rfl
  obtain⟨j,h1,h2⟩:=Option.map_eq_some_iff.1 key;exact⟨j,h1,by rw[h2];decide⟩
theorem OM:∃j,Tryz.prog.info? 104=some j:=OL.imp λ_ h=>h.1
theorem Pe (ha:Nat)(hb:Value)(l:(List Int))(r:(List Int))(h:Kn l=some r):Fn Tryz.prog GE 115 [rP ha 0] [.blk ha [rv (.pointer none),rv hb] 104,.row hb 5 1 (AG Ba l)] (λR H=>∃w0:Value,R=rv (.tuple #[])∧H=[.blk ha [rP ha 0,rv w0] 104,.row w0 5 1 (AG Ba r)]):=by
 refine enter (n:=20) Tryz.func115 rfl Tryz.ntmps115 rfl (λw Z=>?_);unfold Kn at h;refine Aj (wm rfl (wv (Aq rfl) (vF ED rfl NW (vL 0 DT rfl (wv (r:=rB true) (T6 ⟨_,NU⟩ rfl) (Aw (DU rfl rfl (Ak (wm rfl (wm rfl (wv (r:=rP ha 0) (O0 (i:=0) NU Tryz.underlying168 OL rfl rfl rfl) (Ay (r:=rP ha 0) (Vl Tryz.func129 (by kernel_rfl) (by kernel_rfl) (by kernel_rfl) (by kernel_rfl) rfl) rfl (wv (r:=rP ha 0) (Mt (i:=0) Tryz.underlying168 NU OM rfl rfl (by kernel_rfl)) (wv (Aq rfl) (vF ED rfl NW (Bu (i:=0) NW rfl rfl (BW rfl) rfl rfl (cs':=[rP ha 0,rv hb]) rfl (H':=[.blk ha [rP ha 0,rv hb] 104,.row hb 5 1 (AG Ba l)]) rfl (An ?_)))))))))))))))));obtain rfl:=A2 h;exact EZ (Rz Tryz.results115) (sC (sC sN)) ⟨hb,rfl,rfl⟩
theorem M0 (ha:Nat)(hb:Value)(l:(List Int))(c:Int)(r:Unit×(List Int))(h:HP l c=some r):Fn Tryz.prog GE 91 [rP ha 0,rI .u8 c] [.blk ha [rv (.pointer none),rv hb] 104,.row hb 5 1 (AG Ba l)] (λR H=>∃w0:Value,R=rv (.nilIface)∧H=[.blk ha [rP ha 0,rv w0] 104,.row w0 5 1 (AG Ba r.2)]):=by
 refine enter (n:=17) Tryz.func91 rfl Tryz.ntmps91 rfl (λw Z=>?_);unfold HP at h;refine Aj (wa rfl (B5 (wm rfl (ob h λr1 e3 h2=>Du (Hr:=[]) Tryz.call115 (Pe ha hb l r1 e3) rfl (Ys _) rfl ?_))));rintro _ _ ⟨v4,rfl,rfl⟩;refine B5 (wm rfl (wm rfl (wv (Aq rfl) (vF ED rfl EF (vL 0 Kv rfl (wm rfl (Bo (ys:=([c]:List Int)) (enc:=Ba) (css:=[[rI .u8 c]]) (xs:=[.tmp 12]) EE WY WX rfl rfl rfl ⟨Ja.one rfl (Up.refl _),trivial⟩ rfl D4 rfl rfl rfl (λb5=>?_))))))));refine ck h2 λg7 h8=>Exists.elim LQ λinf hinf=>Cj (xs:=r1) (ys:=([c]:List Int)) (enc:=Ba) (i:=2) EE hinf.1 hinf.2.1 hinf.2.2.1 hinf.2.2.2 rfl rfl rfl rfl rfl (Li.w (i:=0) rfl rfl) D4 Iq g7 rfl (λv6=>?_);refine wv (Aq rfl) (vF ED rfl EF (Bu (i:=2) EF rfl rfl (D1 (i:=0) rfl) rfl rfl (cs':=[rP ha 0,rv v6]) rfl (H':=[.row v6 5 1 (AG Ba (r1++([c]:List Int))),.row (.slice (some ⟨b5,0,none⟩) 1 1) 5 1 (AG Ba ([c]:List Int)),.blk ha [rP ha 0,rv v6] 104]) rfl (B5 (wa rfl (Aw (A1 (Ce (H2:=[.blk ha [rP ha 0,rv v6] 104,.row v6 5 1 (AG Ba (r1++([c]:List Int))),.row (.slice (some ⟨b5,0,none⟩) 1 1) 5 1 (AG Ba ([c]:List Int))]) ((As (i:=2) rfl).trans (Yy _ (Ys _))) ?_)))))));obtain rfl:=A2 h8;exact A0 (BX Tryz.results91 (AP rfl)) (sC (sC (sS sN))) ⟨v6,rfl,rfl⟩
theorem KO (ha:Nat)(hb:Value)(l:(List Int))(s:Ae)(r:Int×Unit×(List Int))(h:G7 l s=some r):Fn Tryz.prog GE 89 [rP ha 0,rS s] [.blk ha [rv (.pointer none),rv hb] 104,.row hb 5 1 (AG Ba l)] (λR H=>∃w0:Value,R=C0 [Ao r.1,rv (.nilIface)]∧H=[.blk ha [rP ha 0,rv w0] 104,.row w0 5 1 (AG Ba r.2.2)]):=by
 refine enter (n:=19) Tryz.func89 rfl Tryz.ntmps89 rfl (λw Z=>?_);unfold G7 at h;refine Aj (wa rfl (wa rfl (B5 (wm rfl (ob h λr1 e3 h2=>Du (Hr:=[]) Tryz.call115 (Pe ha hb l r1 e3) rfl (Ys _) rfl ?_)))));rintro _ _ ⟨v4,rfl,rfl⟩;refine B5 (wm rfl (wm rfl (wv (Aq rfl) (vF ED rfl EF (vL 0 Kv rfl (wm rfl (ck h2 λg6 h7=>Exists.elim LQ λinf hinf=>Hc (xs:=r1) (i:=1) EE CA hinf.1 hinf.2.1 hinf.2.2.1 hinf.2.2.2 rfl rfl rfl g6 rfl (λv5=>?_))))))));refine wv (Aq rfl) (vF ED rfl EF (Bu (i:=1) EF rfl rfl (D1 (i:=0) rfl) rfl rfl (cs':=[rP ha 0,rv v5]) rfl (H':=[.row v5 5 1 (AG Ba (r1++CH s)),.blk ha [rP ha 0,rv v5] 104]) rfl (B5 (wm rfl (wv (Bp CA rfl) (wa rfl (wa rfl (Aw (A1 (Ce (H2:=[.blk ha [rP ha 0,rv v5] 104,.row v5 5 1 (AG Ba (r1++CH s))]) ((As (i:=1) rfl).trans (Yy _ (Ys _))) ?_))))))))));obtain rfl:=A2 h7;exact A0 (Ie Tryz.results89 (AP rfl) (AP rfl)) (sC (sC sN)) ⟨v5,rfl,rfl⟩
theorem PW (ha:Nat)(hb:Value)(l:Ae)(r:Ae)(h:Mc l=some r):Fn Tryz.prog GE 65 [rP ha 0] [.blk ha [rv (.pointer none),rv hb] 104,.row hb 5 1 (AG Ba (CH l))] (λR H=>R=rS r∧H=[]):=by
 refine enter (n:=14) Tryz.func65 rfl Tryz.ntmps65 rfl (λw Z=>?_);unfold Mc at h;refine Aj (wv (r:=rS ([]:Ae)) (Az rfl) (Aw (Ap (ck h λg1 h2=>G0 (H1:=[.blk ha [rv (.pointer none),rv hb] 104]) [0] [⟨[],rP ha 0,0⟩,⟨[0],rP ha 0,0⟩,⟨[1],rP ha 1,0⟩,⟨[2],rv hb,1⟩,⟨[3],rv (WS hb),1⟩,⟨[],rP ha 0,0⟩,⟨[5],rP ha 0,0⟩,⟨[6],rP ha 1,0⟩,⟨[7],rv hb,1⟩,⟨[8],Ao ((CH l).length:Int),1⟩,⟨[4,9],rS l,2⟩,⟨[10],rS l,0⟩] (rle [(11,_),(2,[.blk ha [rv (.pointer none),rv hb] 104])]) [2] ?_ ?_))))
 ·refine oq (Am rfl) (oq (Aq rfl) (oq (A4 ED rfl EF rfl rfl) (of (AW (i:=0) Kv rfl rfl rfl) (of (K8 (i:=1) rfl rfl (KZ g1)) (oq (Am rfl) (oq (Aq rfl) (oq (A4 ED rfl EF rfl rfl) (of (AW (i:=0) Kv rfl rfl rfl) (of (BY (ys:=CH l) (enc:=Ba) (i:=1) EE rfl rfl) (J5 rfl (Xd (HQ (i:=1) Tryz.underlying135 (by kernel_rfl) rfl rfl rfl (KZ g1) rfl)) ?_))))))))));refine oq (Az rfl) ?_;exact Co
 refine AS (A1 ?_);obtain rfl:=A2 h2;exact A0 (BX Tryz.results65 (AP rfl)) (sS sN) ⟨rfl,rfl⟩
theorem Pd (ha:Nat)(hb:Value)(l:(List Int))(r:(List Int))(h:Km l=some r):Fn Tryz.prog GE 115 [rP ha 0] [.blk ha [rP ha 0,rv hb] 104,.row hb 5 1 (AG Ba l)] (λR H=>∃w0:Value,R=rv (.tuple #[])∧H=[.blk ha [rP ha 0,rv w0] 104,.row w0 5 1 (AG Ba r)]):=by
 refine enter (n:=20) Tryz.func115 rfl Tryz.ntmps115 rfl (λw Z=>?_);unfold Km at h;refine Aj (wm rfl (wv (Aq rfl) (vF ED rfl NW (vL 0 DT rfl (wv (r:=rB false) (N5 ⟨_,NU⟩ rfl) (Aw (CU rfl rfl (Aj (wm rfl (wv (Aq rfl) (vF ED rfl NW (vL 0 DT rfl (wm rfl (wv (r:=rB false) (PD NU OM rfl rfl) (Aw (CU rfl rfl (A3 ?_)))))))))))))))));obtain rfl:=A2 h;exact EZ (Rz Tryz.results115) (sC (sC sN)) ⟨hb,rfl,rfl⟩
theorem Mz (ha:Nat)(hb:Value)(l:(List Int))(c:Int)(r:Unit×(List Int))(h:HO l c=some r):Fn Tryz.prog GE 91 [rP ha 0,rI .u8 c] [.blk ha [rP ha 0,rv hb] 104,.row hb 5 1 (AG Ba l)] (λR H=>∃w0:Value,R=rv (.nilIface)∧H=[.blk ha [rP ha 0,rv w0] 104,.row w0 5 1 (AG Ba r.2)]):=by
 refine enter (n:=17) Tryz.func91 rfl Tryz.ntmps91 rfl (λw Z=>?_);unfold HO at h;refine Aj (wa rfl (B5 (wm rfl (ob h λr1 e3 h2=>Du (Hr:=[]) Tryz.call115 (Pd ha hb l r1 e3) rfl (Ys _) rfl ?_))));rintro _ _ ⟨v4,rfl,rfl⟩;refine B5 (wm rfl (wm rfl (wv (Aq rfl) (vF ED rfl EF (vL 0 Kv rfl (wm rfl (Bo (ys:=([c]:List Int)) (enc:=Ba) (css:=[[rI .u8 c]]) (xs:=[.tmp 12]) EE WY WX rfl rfl rfl ⟨Ja.one rfl (Up.refl _),trivial⟩ rfl D4 rfl rfl rfl (λb5=>?_))))))));refine ck h2 λg7 h8=>Exists.elim LQ λinf hinf=>Cj (xs:=r1) (ys:=([c]:List Int)) (enc:=Ba) (i:=2) EE hinf.1 hinf.2.1 hinf.2.2.1 hinf.2.2.2 rfl rfl rfl rfl rfl (Li.w (i:=0) rfl rfl) D4 Iq g7 rfl (λv6=>?_);refine wv (Aq rfl) (vF ED rfl EF (Bu (i:=2) EF rfl rfl (D1 (i:=0) rfl) rfl rfl (cs':=[rP ha 0,rv v6]) rfl (H':=[.row v6 5 1 (AG Ba (r1++([c]:List Int))),.row (.slice (some ⟨b5,0,none⟩) 1 1) 5 1 (AG Ba ([c]:List Int)),.blk ha [rP ha 0,rv v6] 104]) rfl (B5 (wa rfl (Aw (A1 (Ce (H2:=[.blk ha [rP ha 0,rv v6] 104,.row v6 5 1 (AG Ba (r1++([c]:List Int))),.row (.slice (some ⟨b5,0,none⟩) 1 1) 5 1 (AG Ba ([c]:List Int))]) ((As (i:=2) rfl).trans (Yy _ (Ys _))) ?_)))))));obtain rfl:=A2 h8;exact A0 (BX Tryz.results91 (AP rfl)) (sC (sC (sS sN))) ⟨v6,rfl,rfl⟩
theorem KN (ha:Nat)(hb:Value)(l:(List Int))(s:Ae)(r:Int×Unit×(List Int))(h:G6 l s=some r):Fn Tryz.prog GE 89 [rP ha 0,rS s] [.blk ha [rP ha 0,rv hb] 104,.row hb 5 1 (AG Ba l)] (λR H=>∃w0:Value,R=C0 [Ao r.1,rv (.nilIface)]∧H=[.blk ha [rP ha 0,rv w0] 104,.row w0 5 1 (AG Ba r.2.2)]):=by
 refine enter (n:=19) Tryz.func89 rfl Tryz.ntmps89 rfl (λw Z=>?_);unfold G6 at h;refine Aj (wa rfl (wa rfl (B5 (wm rfl (ob h λr1 e3 h2=>Du (Hr:=[]) Tryz.call115 (Pd ha hb l r1 e3) rfl (Ys _) rfl ?_)))));rintro _ _ ⟨v4,rfl,rfl⟩;refine B5 (wm rfl (wm rfl (wv (Aq rfl) (vF ED rfl EF (vL 0 Kv rfl (wm rfl (ck h2 λg6 h7=>Exists.elim LQ λinf hinf=>Hc (xs:=r1) (i:=1) EE CA hinf.1 hinf.2.1 hinf.2.2.1 hinf.2.2.2 rfl rfl rfl g6 rfl (λv5=>?_))))))));refine wv (Aq rfl) (vF ED rfl EF (Bu (i:=1) EF rfl rfl (D1 (i:=0) rfl) rfl rfl (cs':=[rP ha 0,rv v5]) rfl (H':=[.row v5 5 1 (AG Ba (r1++CH s)),.blk ha [rP ha 0,rv v5] 104]) rfl (B5 (wm rfl (wv (Bp CA rfl) (wa rfl (wa rfl (Aw (A1 (Ce (H2:=[.blk ha [rP ha 0,rv v5] 104,.row v5 5 1 (AG Ba (r1++CH s))]) ((As (i:=1) rfl).trans (Yy _ (Ys _))) ?_))))))))));obtain rfl:=A2 h7;exact A0 (Ie Tryz.results89 (AP rfl) (AP rfl)) (sC (sC sN)) ⟨v5,rfl,rfl⟩
theorem PV (ha:Nat)(hb:Value)(l:Ae)(r:Ae)(h:Mb l=some r):Fn Tryz.prog GE 65 [rP ha 0] [.blk ha [rP ha 0,rv hb] 104,.row hb 5 1 (AG Ba (CH l))] (λR H=>R=rS r∧H=[]):=by
 refine enter (n:=14) Tryz.func65 rfl Tryz.ntmps65 rfl (λw Z=>?_);unfold Mb at h;refine Aj (wv (r:=rS ([]:Ae)) (Az rfl) (Aw (Ap (ck h λg1 h2=>G0 (H1:=[.blk ha [rP ha 0,rv hb] 104]) [0] [⟨[],rP ha 0,0⟩,⟨[0],rP ha 0,0⟩,⟨[1],rP ha 1,0⟩,⟨[2],rv hb,1⟩,⟨[3],rv (WS hb),1⟩,⟨[],rP ha 0,0⟩,⟨[5],rP ha 0,0⟩,⟨[6],rP ha 1,0⟩,⟨[7],rv hb,1⟩,⟨[8],Ao ((CH l).length:Int),1⟩,⟨[4,9],rS l,2⟩,⟨[10],rS l,0⟩] (rle [(11,_),(2,[.blk ha [rP ha 0,rv hb] 104])]) [2] ?_ ?_))))
 ·refine oq (Am rfl) (oq (Aq rfl) (oq (A4 ED rfl EF rfl rfl) (of (AW (i:=0) Kv rfl rfl rfl) (of (K8 (i:=1) rfl rfl (KZ g1)) (oq (Am rfl) (oq (Aq rfl) (oq (A4 ED rfl EF rfl rfl) (of (AW (i:=0) Kv rfl rfl rfl) (of (BY (ys:=CH l) (enc:=Ba) (i:=1) EE rfl rfl) (J5 rfl (Xd (HQ (i:=1) Tryz.underlying135 (by kernel_rfl) rfl rfl rfl (KZ g1) rfl)) ?_))))))))));refine oq (Az rfl) ?_;exact Co
 refine AS (A1 ?_);obtain rfl:=A2 h2;exact A0 (BX Tryz.results65 (AP rfl)) (sS sN) ⟨rfl,rfl⟩
theorem BV (b:Nat)(v:Value)(l:Ae)(c:Int)(g1:Ea 1 (l.length+1)=true)(g2:BT .u8 c=true):Fn Tryz.prog GE 91 [rP b 0,rI .u8 c] [.bld 104 5 b v l] (λR H=>∃w0:Value,R=rv .nilIface∧H=[.bld 104 5 b w0 (l++[UInt8.ofNat c.toNat])]):=by
  have hc:CH (l++[UInt8.ofNat c.toNat])=CH l++[c]:=by
    have:=(by simpa[BT,IntKind.min,IntKind.max,IntKind.signed,IntKind.bits] using g2:0≤c∧c≤255)
    simp only[CH,Zn,YV,List.map_nil]
    congr 2
    simp;omega
  refine Fn.bld (res:=rv .nilIface) λp hp=>?_;rw[hc];rcases hp with rfl | rfl
  · refine(M0 b v (CH l) c (((),CH l++[c])) ?_).sub (Gq.refl _) (λr H h=>by obtain⟨w0,h1,h2⟩:=h;exact⟨w0,h1,h2⟩)
    simp only[HP,Kn,B0,Da];simp[Bc,g1]
  · refine(Mz b v (CH l) c (((),CH l++[c])) ?_).sub (Gq.refl _) (λr H h=>by obtain⟨w0,h1,h2⟩:=h;exact⟨w0,h1,h2⟩)
    simp only[HO,Km,B0,Da];simp[Bc,g1]
theorem Gz (b:Nat)(v:Value)(l s:Ae)(g1:Ea 1 (l.length+s.length)=true):Fn Tryz.prog GE 89 [rP b 0,rS s] [.bld 104 5 b v l] (λR H=>∃w0:Value,R=C0 [Ao (s.length:Int),rv .nilIface]∧H=[.bld 104 5 b w0 (l++s)]):=by
  have hc:CH (l++s)=CH l++CH s:=by simp[CH]
  refine Fn.bld (res:=C0 [Ao (s.length:Int),rv .nilIface]) λp hp=>?_;rw[hc];rcases hp with rfl | rfl
  · refine(KO b v (CH l) s (((s.length:Int),(),CH l++CH s)) ?_).sub (Gq.refl _) (λr H h=>by obtain⟨w0,h1,h2⟩:=h;exact⟨w0,h1,h2⟩)
    simp only[G7,Kn,B0,Da];simp[Bc,g1]
  · refine(KN b v (CH l) s (((s.length:Int),(),CH l++CH s)) ?_).sub (Gq.refl _) (λr H h=>by obtain⟨w0,h1,h2⟩:=h;exact⟨w0,h1,h2⟩)
    simp only[G6,Km,B0,Da];simp[Bc,g1]
theorem Su (b:Nat)(v:Value)(l:Ae)(g1:decide (0<l.length)=true):Fn Tryz.prog GE 65 [rP b 0] [.bld 104 5 b v l] (λR H=>R=rS l∧H=[]):=by
  refine Fn.bldS (res:=rS l) λp hp=>?_;rcases hp with rfl | rfl
  · exact PW b v l l (by simp only[Mc,Da];simp[Bc,g1])
  · exact PV b v l l (by simp only[Mb,Da];simp[Bc,g1])
end Go.Proofs.YtmmbdclkpijkpaaGreatDoor.Q
namespace Go.Proofs.YtmmbdclkpijkpaaGreatDoor
open Go
set_option linter.unusedVariables false
structure Aa where
 fKind:Int
 fInt:Int
 fStr:Ae
 fN:Int
 deriving DecidableEq,Inhabited
def R2 (s:Ae)(ha:Int):Option (Stp (Int) (Out (Bool) (Unit))):=
 Bw (decide (ha<(s.length:Int))) (Bc (Dt ha (s.length:Int))<|Bw (((decide ((Be s ha)<32))||(decide (126<(Be s ha))))) (some (.out (.ret false))) (Bc (BT .i64 (ha+1))<|some (.next (ha+1)))) (some (.out (.go ())))
def R0 :Option (Bool):=
 some true
def Nz (F:Nat)(s:Ae):Option (Bool):=
 B0 (Cs (λσ=>R2 s σ) F 0) (BN λν=>R0 )
def Cu (ok:Bool)(i:Int):Option (Int):=
 Bw (ok) (Bc (BT .i64 (i+1))<|some (i+1)) (some (-1))
def Tm (F:Nat)(c:Aa):Option (Bool):=
 Bc (imp (decide (c.fKind=4)) (imp (decide (c.fInt=0)) (imp (decide (c.fN=0)) ((Nz F c.fStr).isSome))))<|some ((decide (c.fKind=4))&&((decide (c.fInt=0))&&((decide (c.fN=0))&&(ov (Nz F c.fStr)))))
def Tk (F:Nat)(ha:(List Aa)→Int→Int→Option (Int))(hb:(List Aa)→Int→Int→Option (Int))(v:(List Aa))(i:Int):Option (Int):=
 Bw (((decide (i<0))||(decide ((v.length:Int)≤i)))) (some (-1)) (Bc (Dt i (v.length:Int))<|Bw (decide (((Ar v i).fKind)=1)) (Bc (imp (decide (((Ar v i).fInt)=0)) (imp (decide (((Ar v i).fStr)=([]:Ae))) ((Cu (decide (((Ar v i).fN)=0)) i).isSome)))<|Bc (imp (decide (((Ar v i).fInt)=0)) (imp (!(decide (((Ar v i).fStr)=([]:Ae)))) ((Cu false i).isSome)))<|Bc (imp (!(decide (((Ar v i).fInt)=0))) ((Cu false i).isSome))<|some (bif decide (((Ar v i).fInt)=0) then(bif decide (((Ar v i).fStr)=([]:Ae)) then(ov (Cu (decide (((Ar v i).fN)=0)) i)) else(ov (Cu false i))) else(ov (Cu false i)))) (Bw (decide (((Ar v i).fKind)=2)) (Bc (imp (decide (((Ar v i).fInt)=0)) (imp (decide (((Ar v i).fStr)=([]:Ae))) ((Cu (decide (((Ar v i).fN)=0)) i).isSome)))<|Bc (imp (decide (((Ar v i).fInt)=0)) (imp (!(decide (((Ar v i).fStr)=([]:Ae)))) ((Cu false i).isSome)))<|Bc (imp (!(decide (((Ar v i).fInt)=0))) (imp (decide (((Ar v i).fInt)=1)) (imp (decide (((Ar v i).fStr)=([]:Ae))) ((Cu (decide (((Ar v i).fN)=0)) i).isSome))))<|Bc (imp (!(decide (((Ar v i).fInt)=0))) (imp (decide (((Ar v i).fInt)=1)) (imp (!(decide (((Ar v i).fStr)=([]:Ae)))) ((Cu false i).isSome))))<|Bc (imp (!(decide (((Ar v i).fInt)=0))) (imp (!(decide (((Ar v i).fInt)=1))) ((Cu false i).isSome)))<|some (bif decide (((Ar v i).fInt)=0) then(bif decide (((Ar v i).fStr)=([]:Ae)) then(ov (Cu (decide (((Ar v i).fN)=0)) i)) else(ov (Cu false i))) else(bif decide (((Ar v i).fInt)=1) then(bif decide (((Ar v i).fStr)=([]:Ae)) then(ov (Cu (decide (((Ar v i).fN)=0)) i)) else(ov (Cu false i))) else(ov (Cu false i))))) (Bw (decide (((Ar v i).fKind)=3)) (Bc (imp (decide (((Ar v i).fStr)=([]:Ae))) ((Cu (decide (((Ar v i).fN)=0)) i).isSome))<|Bc (imp (!(decide (((Ar v i).fStr)=([]:Ae)))) ((Cu false i).isSome))<|some (bif decide (((Ar v i).fStr)=([]:Ae)) then(ov (Cu (decide (((Ar v i).fN)=0)) i)) else(ov (Cu false i)))) (Bw (decide (((Ar v i).fKind)=4)) (B0 (Tm F (Ar v i)) λhd=>B0 (Cu hd i) λhe=>some he) (Bw (((decide (((Ar v i).fKind)=5))&&((decide (((Ar v i).fInt)=0))&&((decide (((Ar v i).fStr)=([]:Ae)))&&(decide (0≤((Ar v i).fN))))))) (Bc (BT .i64 (i+1))<|B0 (ha v (i+1) ((Ar v i).fN)) λhf=>some hf) (Bw (((decide (((Ar v i).fKind)=6))&&((decide (((Ar v i).fInt)=0))&&((decide (((Ar v i).fStr)=([]:Ae)))&&(decide (0≤((Ar v i).fN))))))) (Bc (BT .i64 (i+1))<|B0 (hb v (i+1) ((Ar v i).fN)) λhg=>some hg) (some (-1))))))))
def Dz (v:(List Aa))(n:Int)(he:(List Aa)→Int→Option (Int))(hb:Int)(ha:Int):Option (Stp (Int×Int) (Out (Int) (Int))):=
 Bw (decide (ha<n)) (B0 (he v hb) λhd=>Bw (decide (hd<0)) (some (.out (.ret (-1)))) (Bc (BT .i64 (ha+1))<|some (.next (hd,ha+1)))) (some (.out (.go hb)))
def Hd (ha:Int):Option (Int):=
 some ha
def LC (F:Nat)(ha:(List Aa)→Int→Option (Int))(v:(List Aa))(i:Int)(n:Int):Option (Int):=
 B0 (Cs (λσ=>Dz v n ha σ.1 σ.2) F (i,0)) (BN λν=>Hd ν)
def DW (F:Nat)(v:(List Aa))(n:Int)(hf:(List Aa)→Int→Option (Int))(ha:Int)(hd:Ae)(hb:Int):Option (Stp (Int×Ae×Int) (Out (Int) (Int))):=
 Bw (decide (hb<n)) (Bc (imp (!(decide ((v.length:Int)≤ha))) (Dt ha (v.length:Int)))<|Bc (imp (!(decide ((v.length:Int)≤ha))) ((Tm F (Ar v ha)).isSome))<|Bw (((decide ((v.length:Int)≤ha))||((!(ov (Tm F (Ar v ha))))||((decide (0<hb))&&(Bv ((Ar v ha).fStr) hd||decide (((Ar v ha).fStr)=hd)))))) (some (.out (.ret (-1)))) (Bc (Dt ha (v.length:Int))<|Bc (BT .i64 (ha+1))<|B0 (hf v (ha+1)) λhe=>Bw (decide (he<0)) (some (.out (.ret (-1)))) (Bc (BT .i64 (hb+1))<|some (.next (he,(Ar v ha).fStr,hb+1))))) (some (.out (.go ha)))
def JY (ha:Int):Option (Int):=
 some ha
def Qr (F:Nat)(ha:(List Aa)→Int→Option (Int))(v:(List Aa))(i:Int)(n:Int):Option (Int):=
 B0 (Cs (λσ=>DW F v n ha σ.1 σ.2.1 σ.2.2) F (i,([]:Ae),0)) (BN λν=>JY ν)
mutual
def ME:Nat→(List Aa)→Int→Option (Int)
 | 0,_,_=>none
 | nn+1,v,i=>Tk nn (MF nn) (Tj nn) v i
def MF:Nat→(List Aa)→Int→Int→Option (Int)
 | 0,_,_,_=>none
 | nn+1,v,i,n=>LC nn (ME nn) v i n
def Tj:Nat→(List Aa)→Int→Int→Option (Int)
 | 0,_,_,_=>none
 | nn+1,v,i,n=>Qr nn (ME nn) v i n
end
end Go.Proofs.YtmmbdclkpijkpaaGreatDoor
namespace Go.Proofs.YtmmbdclkpijkpaaGreatDoor.Q
open Go Go.RowKit
set_option linter.unusedVariables false
set_option linter.unusedSimpArgs false
set_option maxRecDepth 100000
set_option maxHeartbeats 4000000
@[reducible] def Ac (x:Aa):List Rp:=[Ao x.fKind,Ao x.fInt,rS x.fStr,Ao x.fN]
theorem Bb (x:Aa):(Ac x).length=4:=rfl
theorem Cf (x:Aa):(Ac x).all (·.one)=true:=rfl
end Go.Proofs.YtmmbdclkpijkpaaGreatDoor.Q
namespace Go.Proofs.YtmmbdclkpijkpaaGreatDoor
open Go
set_option linter.unusedVariables false
structure Av where
 fPairs:Bool
 fLeft:Int
 fKey:Bool
 fLast:Ae
 fStarted:Bool
 deriving DecidableEq,Inhabited
structure A7 where
 fDepth:Int
 fBytes:Int
 fOutside:Bool
 fLong:Bool
 deriving DecidableEq,Inhabited
def Br (n:Int):Option (Bool):=
 some ((decide ((-1000000000000)≤n))&&(decide (n≤1000000000000)))
def GD (s:Ae)(ha:Int):Option (Stp (Int) (Out (Bool) (Unit))):=
 Bw (decide (ha<(s.length:Int))) (Bc (Dt ha (s.length:Int))<|Bw (((decide ((Be s ha)<32))||(decide (126<(Be s ha))))) (some (.out (.ret false))) (Bc (BT .i64 (ha+1))<|some (.next (ha+1)))) (some (.out (.go ())))
def GC :Option (Bool):=
 some true
def Jg (F:Nat)(s:Ae):Option (Bool):=
 B0 (Cs (λσ=>GD s σ) F 0) (BN λν=>GC )
def HZ (s:Ae):Option (Int):=
 Bc (BT .i64 ((s.length:Int)+2))<|Bc (BT .i64 (((s.length:Int)+2)+(Lib.countByte s 34:Int)))<|Bc (BT .i64 ((((s.length:Int)+2)+(Lib.countByte s 34:Int))+(Lib.countByte s 92:Int)))<|some ((((s.length:Int)+2)+(Lib.countByte s 34:Int))+(Lib.countByte s 92:Int))
def Lv (F:Nat)(c:Aa):Option (Bool):=
 Bw (decide (c.fKind=1)) (some ((decide (c.fInt=0))&&((decide (c.fStr=([]:Ae)))&&(decide (c.fN=0))))) (Bw (decide (c.fKind=2)) (some (bif decide (c.fInt=0) then((decide (c.fStr=([]:Ae)))&&(decide (c.fN=0))) else((decide (c.fInt=1))&&((decide (c.fStr=([]:Ae)))&&(decide (c.fN=0)))))) (Bw (decide (c.fKind=3)) (some ((decide (c.fStr=([]:Ae)))&&(decide (c.fN=0)))) (Bw (decide (c.fKind=4)) (Bc (imp (decide (c.fInt=0)) (imp (decide (c.fN=0)) ((Jg F c.fStr).isSome)))<|some ((decide (c.fInt=0))&&((decide (c.fN=0))&&(ov (Jg F c.fStr))))) (Bw (decide (c.fKind=5)) (some ((decide (c.fInt=0))&&((decide (c.fStr=([]:Ae)))&&(decide (0≤c.fN))))) (Bw (decide (c.fKind=6)) (some ((decide (c.fInt=0))&&((decide (c.fStr=([]:Ae)))&&(decide (0≤c.fN))))) (some false))))))
def Ob (c:Aa):Option (Int):=
 Bw (decide (c.fKind=1)) (some 4) (Bw (decide (c.fKind=2)) (some (IntKind.wrap .i64 (5-c.fInt))) (Bw (decide (c.fKind=3)) (Bc (BT .i64 c.fInt)<|some ((Lib.itoa c.fInt).length:Int)) (Bw (decide (c.fKind=4)) (B0 (HZ c.fStr) λha=>some ha) (some (IntKind.wrap .i64 (2+(max 0 (IntKind.wrap .i64 (c.fN-1)))))))))
def Dn (ha:(List Av)):Option (Stp ((List Av)) (Out ((List Av)) ((List Av)))):=
 Bw (decide (0<(ha.length:Int))) (Bc (BT .i64 ((ha.length:Int)-1))<|Bc (Dt ((ha.length:Int)-1) (ha.length:Int))<|Bc (BT .i64 (((Ar ha ((ha.length:Int)-1)).fLeft)-1))<|IZ (List.set ha (Int.toNat ((ha.length:Int)-1)) (Av.mk ((Ar ha ((ha.length:Int)-1)).fPairs) (((Ar ha ((ha.length:Int)-1)).fLeft)-1) ((Ar ha ((ha.length:Int)-1)).fKey) ((Ar ha ((ha.length:Int)-1)).fLast) ((Ar ha ((ha.length:Int)-1)).fStarted))) λhb=>Bw (decide (0<((Ar hb ((ha.length:Int)-1)).fLeft))) (IZ (List.set hb (Int.toNat ((ha.length:Int)-1)) (Av.mk ((Ar hb ((ha.length:Int)-1)).fPairs) ((Ar hb ((ha.length:Int)-1)).fLeft) ((Ar hb ((ha.length:Int)-1)).fPairs) ((Ar hb ((ha.length:Int)-1)).fLast) ((Ar hb ((ha.length:Int)-1)).fStarted))) λhd=>some (.out (.ret hd))) (Bc (BT .i64 ((hb.length:Int)-1))<|Bc (HJ ((hb.length:Int)-1) (hb.length:Int))<|some (.next (List.take (Int.toNat ((hb.length:Int)-1)) hb)))) (some (.out (.go ha)))
def DK (ha:(List Av)):Option ((List Av)):=
 some ha
def Jl (F:Nat)(stack:(List Av)):Option ((List Av)):=
 B0 (Cs (λσ=>Dn σ) F stack) (BN λν=>DK ν)
def DB (ha:Int)(hb:(List Av))(hd:A7):Option (Stp ((List Av)×Int×A7) (Out (Int×A7×Bool) (A7))):=
 Bc (BT .i64 (ha+1))<|some (.next (hb,ha+1,hd))
def Dm (F:Nat)(v:(List Aa))(ha:(List Av))(hb:Int)(hd:A7):Option (Stp ((List Av)×Int×A7) (Out (Int×A7×Bool) (A7))):=
 Bw (decide (hb<(v.length:Int))) (Bc (Dt hb (v.length:Int))<|B0 (Lv F (Ar v hb)) λhj=>Bw (!hj) (some (.out (.ret (0,hd,false)))) (Bc (imp (decide (0<(ha.length:Int))) (BT .i64 ((ha.length:Int)-1)))<|Bc (imp (decide (0<(ha.length:Int))) (Dt ((ha.length:Int)-1) (ha.length:Int)))<|Bw (((decide (0<(ha.length:Int)))&&((Ar ha ((ha.length:Int)-1)).fKey))) (Bc (BT .i64 ((ha.length:Int)-1))<|Bc (Dt ((ha.length:Int)-1) (ha.length:Int))<|Bw (((!decide (((Ar v hb).fKind)=4))||(((Ar ha ((ha.length:Int)-1)).fStarted)&&(Bv ((Ar v hb).fStr) ((Ar ha ((ha.length:Int)-1)).fLast)||decide (((Ar v hb).fStr)=((Ar ha ((ha.length:Int)-1)).fLast)))))) (some (.out (.ret (0,hd,false)))) (IZ (List.set ha (Int.toNat ((ha.length:Int)-1)) (Av.mk ((Ar ha ((ha.length:Int)-1)).fPairs) ((Ar ha ((ha.length:Int)-1)).fLeft) ((Ar ha ((ha.length:Int)-1)).fKey) ((Ar v hb).fStr) ((Ar ha ((ha.length:Int)-1)).fStarted))) λhe=>IZ (List.set he (Int.toNat ((ha.length:Int)-1)) (Av.mk ((Ar he ((ha.length:Int)-1)).fPairs) ((Ar he ((ha.length:Int)-1)).fLeft) ((Ar he ((ha.length:Int)-1)).fKey) ((Ar he ((ha.length:Int)-1)).fLast) true)) λhf=>IZ (List.set hf (Int.toNat ((ha.length:Int)-1)) (Av.mk ((Ar hf ((ha.length:Int)-1)).fPairs) ((Ar hf ((ha.length:Int)-1)).fLeft) false ((Ar hf ((ha.length:Int)-1)).fLast) ((Ar hf ((ha.length:Int)-1)).fStarted))) λhk=>B0 (HZ ((Ar v hb).fStr)) λhh=>Bc (BT .i64 (hh+1))<|DB hb hk (A7.mk hd.fDepth (IntKind.wrap .i64 (hd.fBytes+(hh+1))) hd.fOutside (hd.fLong||(decide (200<(((Ar v hb).fStr).length:Int))))))) (Bc (BT .i64 ((ha.length:Int)+1))<|B0 (Ob (Ar v hb)) λhg=>Bc (imp (!hd.fOutside) (imp (decide (((Ar v hb).fKind)=3)) ((Br ((Ar v hb).fInt)).isSome)))<|Bw (decide (0<((Ar v hb).fN))) (Bw (decide ((v.length:Int)<((Ar v hb).fN))) (some (.out (.ret (0,(A7.mk (max hd.fDepth ((ha.length:Int)+1)) (IntKind.wrap .i64 (hd.fBytes+hg)) (hd.fOutside||((decide (((Ar v hb).fKind)=3))&&(!(ov (Br ((Ar v hb).fInt)))))) (hd.fLong||(decide (200<(((Ar v hb).fStr).length:Int))))),false)))) (Bc (Ea 48 (ha.length+([(Av.mk (decide (((Ar v hb).fKind)=6)) ((Ar v hb).fN) (decide (((Ar v hb).fKind)=6)) ([]:Ae) false)]:List Av).length))<|DB hb (ha++([(Av.mk (decide (((Ar v hb).fKind)=6)) ((Ar v hb).fN) (decide (((Ar v hb).fKind)=6)) ([]:Ae) false)]:List Av)) (A7.mk (max hd.fDepth ((ha.length:Int)+1)) (IntKind.wrap .i64 (hd.fBytes+hg)) (hd.fOutside||((decide (((Ar v hb).fKind)=3))&&(!(ov (Br ((Ar v hb).fInt)))))) (hd.fLong||(decide (200<(((Ar v hb).fStr).length:Int))))))) (B0 (Jl F ha) λhi=>Bw (decide ((hi.length:Int)=0)) (Bc (BT .i64 (hb+1))<|some (.out (.ret (hb+1,(A7.mk (max hd.fDepth ((ha.length:Int)+1)) (IntKind.wrap .i64 (hd.fBytes+hg)) (hd.fOutside||((decide (((Ar v hb).fKind)=3))&&(!(ov (Br ((Ar v hb).fInt)))))) (hd.fLong||(decide (200<(((Ar v hb).fStr).length:Int))))),true)))) (DB hb hi (A7.mk (max hd.fDepth ((ha.length:Int)+1)) (IntKind.wrap .i64 (hd.fBytes+hg)) (hd.fOutside||((decide (((Ar v hb).fKind)=3))&&(!(ov (Br ((Ar v hb).fInt)))))) (hd.fLong||(decide (200<(((Ar v hb).fStr).length:Int)))))))))) (some (.out (.go hd)))
def Ji (ha:A7):Option (Int×A7×Bool):=
 some (0,ha,false)
def Hu (F:Nat)(v:(List Aa)):Option (Int×A7×Bool):=
 B0 (Cs (λσ=>Dm F v σ.1 σ.2.1 σ.2.2) F (([]:List Av),0,(A7.mk 0 0 false false))) (BN λν=>Ji ν)
def II (F:Nat)(v:(List Aa)):Option (Int):=
 B0 (Hu F v) λr1=>Bw (((!r1.2.2)||(!decide (r1.1=(v.length:Int))))) (some 1) (Bw (r1.2.1.fOutside) (some 2) (Bw ((r1.2.1.fLong||((decide (200<(v.length:Int)))||((decide (8<r1.2.1.fDepth))||(decide (4000<r1.2.1.fBytes)))))) (some 3) (some 0)))
def Jm (F:Nat)(v:(List Aa)):Option ((List Aa)×Int):=
 B0 (II F v) λr1=>Bw (!decide (r1=0)) (some (([]:List Aa),r1)) (some (v,0))
end Go.Proofs.YtmmbdclkpijkpaaGreatDoor
namespace Go.Proofs.YtmmbdclkpijkpaaGreatDoor.Q
open Go Go.RowKit
set_option linter.unusedVariables false
set_option linter.unusedSimpArgs false
set_option maxRecDepth 100000
set_option maxHeartbeats 4000000
@[reducible] def At (x:Av):List Rp:=[rB x.fPairs,Ao x.fLeft,rB x.fKey,rS x.fLast,rB x.fStarted]
theorem Hw (x:Av):(At x).length=5:=rfl
theorem KM (x:Av):(At x).all (·.one)=true:=rfl
@[reducible] def AE (x:A7):List Rp:=[Ao x.fDepth,Ao x.fBytes,rB x.fOutside,rB x.fLong]
theorem V2:∃inf,Tryz.prog.info? 152=some inf∧inf.zero=some (.agg #[(.bool false),(.int .i64 0),(.bool false),(.string ⟨#[]⟩),(.bool false)])∧inf.size=5∧inf.bytes=48:=by
  have key:(Tryz.prog.info? 152).map (λi=>(i.zero,i.size,i.bytes))=some (some (.agg #[(.bool false),(.int .i64 0),(.bool false),(.string ⟨#[]⟩),(.bool false)]),5,48):=by kernel_rfl
  obtain⟨inf,h1,h2⟩:=Option.map_eq_some_iff.1 key;simp only[Prod.mk.injEq] at h2;exact⟨inf,h1,h2.1,h2.2.1,h2.2.2⟩
theorem Uw (parts:List (Nat×Value)):Tryz.prog.built 152 parts=Instr.fill (λi=>(#[(0,1),(1,1),(2,1),(3,1),(4,1)]:Array (Nat×Nat))[i]?) #[(.bool false),(.int .i64 0),(.bool false),(.string ⟨#[]⟩),(.bool false)] parts:=by kernel_rfl
theorem Kd {n:Nat}{c:Cx}{l:Fr}{H:List Ent}{d:Option Nat}{ty:TypeId}{pos:String}{af:Array Edge}{g:Option (Nat×Bool)}{x0:Operand}{r0:Rp}(h0:ev l x0=some r0)(u0:r0.one=true){x1:Operand}{r1:Rp}(h1:ev l x1=some r1)(u1:r1.one=true){x2:Operand}{r2:Rp}(h2:ev l x2=some r2)(u2:r2.one=true):AZ Tryz.prog n c l H { dst:=d,op:=.build 152 #[(0,x0),(1,x1),(2,x2)],type:=ty,pos:=pos,after:=af,guard:=g } (Bm [r0,r1,r2,rS ([]:Ae),rB false]):=λa w Z ha _=>by
  have p0:=ha.ev h0;have c0:=BA (r0.hone u0 Z _ p0);have p1:=ha.ev h1;have c1:=BA (r1.hone u1 Z _ p1);have p2:=ha.ev h2;have c2:=BA (r2.hone u2 Z _ p2);have hb:Tryz.prog.built 152 [(0,a.eval x0),(1,a.eval x1),(2,a.eval x2)]=some #[a.eval x0,a.eval x1,a.eval x2,(.string ⟨#[]⟩),(.bool false)]:=by
    rw[Uw];generalize a.eval x0=v0 at *;generalize a.eval x1=v1 at *;generalize a.eval x2=v2 at *;simp[Instr.fill,c0,c1,c2]
  refine⟨.agg #[a.eval x0,a.eval x1,a.eval x2,(.string ⟨#[]⟩),(.bool false)],⟨[a.eval x0,a.eval x1,a.eval x2,(.string ⟨#[]⟩),(.bool false)],rfl,p0,p1,p2,rfl,rfl,trivial⟩,?_⟩;have:=run_build w 152 #[(0,a.eval x0),(1,a.eval x1),(2,a.eval x2)] _ (by simpa using hb);simp[execOp,this]
theorem TC (n:Int)(r:Bool)(h:Br n=some r):Fn Tryz.prog GE 69 [Ao n] [] (λR H=>R=rB r∧H=[]):=by
 refine enter (n:=9) Tryz.func69 rfl Tryz.ntmps69 rfl (λw Z=>?_);unfold Br at h;refine Aj (wa rfl (Aw (AH [(2,rB ((decide ((-1000000000000)≤n))&&(decide (n≤1000000000000))))] [] ?_ ?_)))
 ·refine Ak (wm rfl (wv (Kc rfl rfl) (wm rfl (AR (decide ((-1000000000000)≤n)) (λc1=>?_) (λc1=>?_)))))
  ·refine wo c1 (wm rfl (wo c1 (wv (Kc rfl rfl) (KR rfl c1 rfl (wa rfl (An ?_))))));exact Dg c1
  ·refine wf c1 (wf c1 (wv (r:=rB false) (AA rfl c1 rfl) (wa rfl (An ?_))));exact Dg c1
 refine A1 ?_;obtain rfl:=A2 h;exact A0 (BX Tryz.results69 (AP rfl)) sN ⟨rfl,rfl⟩
theorem UO (F:Nat)(s:Ae)(r:Bool)(h:Jg F s=some r):Fn Tryz.prog GE 127 [rS s] [] (λR H=>R=rB r∧H=[]):=by
 refine enter (n:=20) Tryz.func127 rfl Tryz.ntmps127 rfl (λw Z=>?_);unfold Jg at h;refine Aj (wa rfl (Aw (Ap (Aj (wm rfl (wv (Bp CA rfl) (wv (r:=Ao 0) (Am rfl) (Aw (AO (ob h λhi hj hg=>BH (S:=Nat×(Int)×(Unit)) (V:=(Unit)×(Unit)) 0 (λσ=>Cs (λσ=>GD s σ) σ.1 σ.2.1=some hi) (λσ=>[(0,rS s),(5,Ao (s.length:Int)),(6,Ao σ.2.1)]) (λσ=>[]) (λσ=>σ.1) (F,0,()) hj (AD.c rfl (AD.c rfl (AD.c rfl AD.nil))) sN (λσ=>GC =some r) (λσ=>[]) (λσ=>[]) ?_ ?_))))))))))
 ·rintro⟨hz,hb,⟨⟩⟩ hk;refine Cn (l':=[(0,rS s),(5,Ao (s.length:Int)),(6,Ao hb)]) (H':=[]) rfl rfl ?_;obtain⟨hl,rfl,t37,hd,hf⟩:=DY hk;replace hd:GD s hb=some t37:=hd;unfold GD at hd;refine Aj (wv (E1 rfl rfl) (Aw (Ap (cz hd rfl (λhm hn=>?_) (λhm ho=>?_)))))
  ·refine A3 (AS (Ap (AO (Aj (wm rfl (wa rfl (Aw (ck hn λhh hp=>AH [(0,rS s),(5,Ao (s.length:Int)),(6,Ao hb),(18,rB ((decide ((Be s hb)<32))||(decide (126<(Be s hb)))))] [] ?_ ?_))))))))
   ·refine Ak (wm rfl (wm rfl (wv (Bq CA rfl rfl hh) (wv (E1 rfl rfl) (wm rfl (AR (decide ((Be s hb)<32)) (λha=>?_) (λha=>?_)))))))
    ·refine wf ha (wf ha (wf ha (wf ha (wv (r:=rB true) (Ax rfl ha rfl) (An ?_)))));exact Dg ha
    ·refine wo ha (wm rfl (wo ha (wm rfl (wo ha (wv (Bq CA rfl rfl hh) (wo ha (wv (Et rfl rfl) (It rfl ha rfl (An ?_)))))))));exact Dg ha
   refine cz hp rfl (λhq hr=>?_) (λhq hs=>?_)
   ·refine Aj (wa rfl (Aw (A1 (A6 (Af (Af (Bj ?_)))))));have ht:=BB hr hf hg;refine A6 (Af ?_);obtain rfl:=A2 ht;exact A0 (BX Tryz.results127 (AP rfl)) sN ⟨rfl,rfl⟩
   ·refine A3 (AK (AS (Ak (ck hs λhu hw=>wv (BQ rfl rfl hu) (wm rfl (An ?_))))));have hx:=BD hw hf;exact Au (AF (hl,hb+1,()) ⟨hx,YI _⟩ (AD.c rfl (AD.c rfl (AD.c rfl AD.nil))) sN)
  ·refine BJ (AB ?_);have hy:=CY ho hf hg;exact AB (B4 (AF ((),()) hy AD.nil sN))
 ·rintro⟨⟨⟩,⟨⟩⟩ he;refine Eh (l':=[]) (H':=[]) rfl rfl ?_;replace he:GC =some r:=he;unfold GC at he;refine Bt (AS (Aj (wa rfl (Aw (A1 ?_)))));obtain rfl:=A2 he;exact A0 (BX Tryz.results127 (AP rfl)) sN ⟨rfl,rfl⟩
theorem M4 (s:Ae)(r:Int)(h:HZ s=some r):Fn Tryz.prog GE 112 [rS s] [] (λR H=>R=Ao r∧H=[]):=by
 refine enter (n:=12) Tryz.func112 rfl Tryz.ntmps112 rfl (λw Z=>?_);unfold HZ at h;refine Aj (wa rfl (B5 (wm rfl (wv (Bp CA rfl) (ck h λg1 h2=>wv (BQ rfl rfl g1) (wm rfl (Gt (rs:=[rS s,rS ([34]:Ae)]) (r:=Ao (Lib.countByte s 34:Int)) Tryz.call128 rfl (QS s 34) rfl rfl (ck h2 λg3 h4=>wv (BQ rfl rfl g3) (wm rfl (Gt (rs:=[rS s,rS ([92]:Ae)]) (r:=Ao (Lib.countByte s 92:Int)) Tryz.call128 rfl (QS s 92) rfl rfl (ck h4 λg5 h6=>wv (BQ rfl rfl g5) (wa rfl (Aw (A1 ?_))))))))))))));obtain rfl:=A2 h6;exact A0 (BX Tryz.results112 (AP rfl)) sN ⟨rfl,rfl⟩
theorem SN (F:Nat)(c:Aa)(r:Bool)(h:Lv F c=some r):Fn Tryz.prog GE 111 [Bm (Ac c)] [] (λR H=>R=rB r∧H=[]):=by
 refine enter (n:=81) Tryz.func111 rfl Tryz.ntmps111 rfl (λw Z=>?_);unfold Lv at h;refine Aj (Cr rfl rfl (λb1=>?_));refine wa rfl (Aw (Ap (Aj (vF BZ rfl Jb (vL 0 Jc rfl (Aw (AO (Aj (wv (BP rfl rfl) (wa rfl (Aw (cz h rfl (λc2 h3=>?_) (λc2 h6=>?_)))))))))))))
 ·refine AH [(2,rB ((decide (c.fInt=0))&&((decide (c.fStr=([]:Ae)))&&(decide (c.fN=0)))))] [] ?_ ?_
  ·refine Ak (vF BZ rfl C2 (vL 0 De rfl (wv (BP rfl rfl) (wm rfl (AR (decide (c.fInt=0)) (λc4=>?_) (λc4=>?_))))))
   ·refine wo c4 (vF BZ rfl Df (wo c4 (vL 0 D8 rfl (wo c4 (wv (I7 rfl rfl) (KR rfl c4 rfl (wm rfl (AR (decide (c.fStr=([]:Ae))) (λc5=>?_) (λc5=>?_)))))))))
    ·refine wo c5 (vF BZ rfl C2 (wo c5 (vL 0 De rfl (wo c5 (wv (BP rfl rfl) (KR rfl c5 rfl (wa rfl (An ?_))))))));exact Dg (And.intro c4 c5)
    ·refine wf c5 (wf c5 (wf c5 (wv (r:=rB false) (AA rfl c5 rfl) (wa rfl (An ?_)))));exact Dg (And.intro c4 c5)
   ·refine wf c4 (wf c4 (wf c4 (wv (r:=rB false) (AA rfl c4 rfl) (wm rfl (wz rfl rfl (wz rfl rfl (wz rfl rfl (wv (r:=rB false) (AA (b:=false) rfl rfl rfl) (wa rfl (An ?_))))))))));exact Dg c4
  refine A1 (A6 (Af ?_));obtain rfl:=A2 h3;exact A0 (BX Lm (AP rfl)) sN ⟨rfl,rfl⟩
 ·refine Aj (wv (BP rfl rfl) (wa rfl (Aw (cz h6 rfl (λc7 h8=>?_) (λc7 hm=>?_)))))
  ·refine AH [(2,rB (bif decide (c.fInt=0) then((decide (c.fStr=([]:Ae)))&&(decide (c.fN=0))) else((decide (c.fInt=1))&&((decide (c.fStr=([]:Ae)))&&(decide (c.fN=0))))))] [] ?_ ?_
   ·refine Ak (vF BZ rfl C2 (vL 0 De rfl (wv (BP rfl rfl) (wm rfl (AR (decide (c.fInt=0)) (λc9=>?_) (λc9=>?_))))))
    ·refine wf c9 (wf c9 (wf c9 (wv (r:=rB true) (Ax rfl c9 rfl) (wm rfl (AJ (b:=true) rfl rfl rfl (vF BZ rfl Df (AJ (b:=true) rfl rfl rfl (vL 0 D8 rfl (AJ (b:=true) rfl rfl rfl (wv (I7 rfl rfl) (wv (r:=rB (decide (c.fStr=([]:Ae)))) (Ax (b:=true) rfl rfl rfl) (wm rfl (AR (decide (c.fStr=([]:Ae))) (λhg=>?_) (λhg=>?_))))))))))))))
     ·refine wo hg (vF BZ rfl C2 (wo hg (vL 0 De rfl (wo hg (wv (BP rfl rfl) (KR rfl hg rfl (wa rfl (An ?_))))))));exact Dg (And.intro c9 hg)
     ·refine wf hg (wf hg (wf hg (wv (r:=rB false) (AA rfl hg rfl) (wa rfl (An ?_)))));exact Dg (And.intro c9 hg)
    ·refine wo c9 (vF BZ rfl C2 (wo c9 (vL 0 De rfl (wo c9 (wv (BP rfl rfl) (It rfl c9 rfl (wm rfl (AR (decide (c.fInt=1)) (λhb=>?_) (λhb=>?_)))))))))
     ·refine wo hb (vF BZ rfl Df (wo hb (vL 0 D8 rfl (wo hb (wv (I7 rfl rfl) (KR rfl hb rfl (wm rfl (AR (decide (c.fStr=([]:Ae))) (λhh=>?_) (λhh=>?_)))))))))
      ·refine wo hh (vF BZ rfl C2 (wo hh (vL 0 De rfl (wo hh (wv (BP rfl rfl) (KR rfl hh rfl (wa rfl (An ?_))))))));exact Dg (And.intro c9 (And.intro hb hh))
      ·refine wf hh (wf hh (wf hh (wv (r:=rB false) (AA rfl hh rfl) (wa rfl (An ?_)))));exact Dg (And.intro c9 (And.intro hb hh))
     ·refine wf hb (wf hb (wf hb (wv (r:=rB false) (AA rfl hb rfl) (wm rfl (wz rfl rfl (wz rfl rfl (wz rfl rfl (wv (r:=rB false) (AA (b:=false) rfl rfl rfl) (wa rfl (An ?_))))))))));exact Dg (And.intro c9 hb)
   refine A1 (A6 (Af ?_));obtain rfl:=A2 h8;exact A0 (BX Lm (AP rfl)) sN ⟨rfl,rfl⟩
  ·refine Aj (wv (BP rfl rfl) (wa rfl (Aw (cz hm rfl (λhn ho=>?_) (λhn hp=>?_)))))
   ·refine AH [(2,rB ((decide (c.fStr=([]:Ae)))&&(decide (c.fN=0))))] [] ?_ ?_
    ·refine Ak (vF BZ rfl Df (vL 0 D8 rfl (wv (I7 rfl rfl) (wm rfl (AR (decide (c.fStr=([]:Ae))) (λhi=>?_) (λhi=>?_))))))
     ·refine wo hi (vF BZ rfl C2 (wo hi (vL 0 De rfl (wo hi (wv (BP rfl rfl) (KR rfl hi rfl (wa rfl (An ?_))))))));exact Dg hi
     ·refine wf hi (wf hi (wf hi (wv (r:=rB false) (AA rfl hi rfl) (wa rfl (An ?_)))));exact Dg hi
    refine A1 (A6 (Af ?_));obtain rfl:=A2 ho;exact A0 (BX Lm (AP rfl)) sN ⟨rfl,rfl⟩
   ·refine Aj (wv (BP rfl rfl) (wa rfl (Aw (cz hp rfl (λhq hr=>?_) (λhq hs=>?_)))))
    ·refine ck hr λht hu=>AH [(2,rB ((decide (c.fInt=0))&&((decide (c.fN=0))&&(ov (Jg F c.fStr)))))] [] ?_ ?_
     ·refine Ak (vF BZ rfl C2 (vL 0 De rfl (wv (BP rfl rfl) (wm rfl (AR (decide (c.fInt=0)) (λha=>?_) (λha=>?_))))))
      ·refine wo ha (vF BZ rfl C2 (wo ha (vL 0 De rfl (wo ha (wv (BP rfl rfl) (KR rfl ha rfl (wm rfl (AR (decide (c.fN=0)) (λhd=>?_) (λhd=>?_)))))))))
       ·refine wo hd (vF BZ rfl Df (wo hd (vL 0 D8 rfl (wo hd (HX Tryz.call127 (UO F c.fStr (ov (Jg F c.fStr)) (Wp (HK (HK ht ha) hd))) rfl (KR rfl hd rfl (wa rfl (An ?_))))))));exact Dg (And.intro ha hd)
       ·refine wf hd (wf hd (wf hd (wv (r:=rB false) (AA rfl hd rfl) (wa rfl (An ?_)))));exact Dg (And.intro ha hd)
      ·refine wf ha (wf ha (wf ha (wv (r:=rB false) (AA rfl ha rfl) (wm rfl (wz rfl rfl (wz rfl rfl (wz rfl rfl (wv (r:=rB false) (AA (b:=false) rfl rfl rfl) (wa rfl (An ?_))))))))));exact Dg ha
     refine A1 (A6 (Af ?_));obtain rfl:=A2 hu;exact A0 (BX Lm (AP rfl)) sN ⟨rfl,rfl⟩
    ·refine Ap (Aj (wv (BP rfl rfl) (wa rfl (Aw (cz hs rfl (λhl hw=>?_) (λhl hx=>?_))))))
     ·refine A3 (AS (DU rfl hl (AH [(2,rB ((decide (c.fInt=0))&&((decide (c.fStr=([]:Ae)))&&(decide (0≤c.fN)))))] [] ?_ ?_)))
      ·refine Ak (vF BZ rfl C2 (vL 0 De rfl (wv (BP rfl rfl) (wm rfl (AR (decide (c.fInt=0)) (λhe=>?_) (λhe=>?_))))))
       ·refine wo he (vF BZ rfl Df (wo he (vL 0 D8 rfl (wo he (wv (I7 rfl rfl) (KR rfl he rfl (wm rfl (AR (decide (c.fStr=([]:Ae))) (λhj=>?_) (λhj=>?_)))))))))
        ·refine wo hj (vF BZ rfl C2 (wo hj (vL 0 De rfl (wo hj (wv (Ix rfl rfl) (KR rfl hj rfl (wa rfl (An ?_))))))));exact Dg (And.intro he hj)
        ·refine wf hj (wf hj (wf hj (wv (r:=rB false) (AA rfl hj rfl) (wa rfl (An ?_)))));exact Dg (And.intro he hj)
       ·refine wf he (wf he (wf he (wv (r:=rB false) (AA rfl he rfl) (wm rfl (wz rfl rfl (wz rfl rfl (wz rfl rfl (wv (r:=rB false) (AA (b:=false) rfl rfl rfl) (wa rfl (An ?_))))))))));exact Dg he
      refine A1 (A6 (Af ?_));obtain rfl:=A2 hw;exact A0 (BX Lm (AP rfl)) sN ⟨rfl,rfl⟩
     ·refine Ak (wv (BP rfl rfl) (wa rfl (Aw (cz hx rfl (λhy hz=>?_) (λhy h0=>?_)))))
      ·refine AH [(2,rB ((decide (c.fInt=0))&&((decide (c.fStr=([]:Ae)))&&(decide (0≤c.fN)))))] [] ?_ ?_
       ·refine Ak (vF BZ rfl C2 (vL 0 De rfl (wv (BP rfl rfl) (wm rfl (AR (decide (c.fInt=0)) (λhf=>?_) (λhf=>?_))))))
        ·refine wo hf (vF BZ rfl Df (wo hf (vL 0 D8 rfl (wo hf (wv (I7 rfl rfl) (KR rfl hf rfl (wm rfl (AR (decide (c.fStr=([]:Ae))) (λhk=>?_) (λhk=>?_)))))))))
         ·refine wo hk (vF BZ rfl C2 (wo hk (vL 0 De rfl (wo hk (wv (Ix rfl rfl) (KR rfl hk rfl (wa rfl (An ?_))))))));exact Dg (And.intro hf hk)
         ·refine wf hk (wf hk (wf hk (wv (r:=rB false) (AA rfl hk rfl) (wa rfl (An ?_)))));exact Dg (And.intro hf hk)
        ·refine wf hf (wf hf (wf hf (wv (r:=rB false) (AA rfl hf rfl) (wm rfl (wz rfl rfl (wz rfl rfl (wz rfl rfl (wv (r:=rB false) (AA (b:=false) rfl rfl rfl) (wa rfl (An ?_))))))))));exact Dg hf
       refine A1 (A6 (Af ?_));obtain rfl:=A2 hz;exact A0 (BX Lm (AP rfl)) sN ⟨rfl,rfl⟩
      ·refine A3 (AK (AS (Aj (wa rfl (Aw (A1 ?_))))));obtain rfl:=A2 h0;exact A0 (BX Lm (AP rfl)) (sS sN) ⟨rfl,rfl⟩
theorem UP (c:Aa)(r:Int)(h:Ob c=some r):Fn Tryz.prog GE 113 [Bm (Ac c)] [] (λR H=>R=Ao r∧H=[]):=by
 refine enter (n:=28) Tryz.func113 rfl Tryz.ntmps113 rfl (λw Z=>?_);unfold Ob at h;refine Aj (Cr rfl rfl (λb1=>?_));refine wa rfl (Aw (Ap (Aj (vF BZ rfl Jb (vL 0 Jc rfl (Aw (AO (Aj (wv (BP rfl rfl) (wa rfl (Aw (cz h rfl (λc2 h3=>?_) (λc2 h4=>?_)))))))))))))
 ·refine Aj (wa rfl (Aw (A1 (A6 (Af ?_)))));obtain rfl:=A2 h3;exact A0 (BX NX (AP rfl)) (sS sN) ⟨rfl,rfl⟩
 ·refine Aj (wv (BP rfl rfl) (wa rfl (Aw (cz h4 rfl (λc5 h6=>?_) (λc5 h7=>?_)))))
  ·refine Aj (vF BZ rfl C2 (vL 0 De rfl (wv (r:=Ao (IntKind.wrap .i64 (5-c.fInt))) (T4 rfl rfl) (wa rfl (Aw (A1 (A6 (Af ?_))))))));obtain rfl:=A2 h6;exact A0 (BX NX (AP rfl)) (sS sN) ⟨rfl,rfl⟩
  ·refine Aj (wv (BP rfl rfl) (wa rfl (Aw (cz h7 rfl (λc8 h9=>?_) (λc8 ha=>?_)))))
   ·refine Aj (vF BZ rfl C2 (vL 0 De rfl (ck h9 λhb hd=>Gt (rs:=[Ao c.fInt]) (r:=rS (Lib.itoa c.fInt)) Tryz.call44 rfl (LR c.fInt hb) rfl rfl (wv (Bp CA rfl) (wa rfl (Aw (A1 (A6 (Af ?_)))))))));obtain rfl:=A2 hd;exact A0 (BX NX (AP rfl)) (sS sN) ⟨rfl,rfl⟩
   ·refine Aj (wv (BP rfl rfl) (wa rfl (Aw (cz ha rfl (λhe hf=>?_) (λhe hg=>?_)))))
    ·refine Aj (vF BZ rfl Df (vL 0 D8 rfl (ob hf λhh hi hj=>HX Tryz.call112 (M4 c.fStr hh hi) rfl (wa rfl (Aw (A1 (A6 (Af ?_))))))));obtain rfl:=A2 hj;exact A0 (BX NX (AP rfl)) (sS sN) ⟨rfl,rfl⟩
    ·refine A3 (AK (AS (Aj (vF BZ rfl C2 (vL 0 De rfl (wv (r:=Ao (IntKind.wrap .i64 (c.fN-1))) (T4 rfl rfl) (wv (VS UC rfl rfl) (wv (r:=Ao (IntKind.wrap .i64 (2+(max 0 (IntKind.wrap .i64 (c.fN-1)))))) (PE rfl rfl) (wa rfl (Aw (A1 ?_)))))))))));obtain rfl:=A2 hg;exact A0 (BX NX (AP rfl)) (sS sN) ⟨rfl,rfl⟩
theorem Rn (F:Nat)(hi:Value)(stack:(List Av))(r:(List Av))(h:Jl F stack=some r):Fn Tryz.prog GE 114 [rv hi] [.row hi 152 5 (AG At stack)] (λR H=>∃u0:Value,R=rv u0∧H=[.row u0 152 5 (AG At r)]):=by
 refine enter (n:=38) Tryz.func114 rfl Tryz.ntmps114 rfl (λw Z=>?_);unfold Jl at h;refine Aj (wa rfl (Aw (Ap (AO (ob h λhn ho hl=>BH (S:=Nat×((List Av))×(Value)) (V:=((List Av))×(Value)) 0 (λσ=>Cs (λσ=>Dn σ) σ.1 σ.2.1=some hn) (λσ=>[(0,rv σ.2.2),(2,rv (.slice none 0 0))]) (λσ=>[.row σ.2.2 152 5 (AG At σ.2.1)]) (λσ=>σ.1) (F,stack,hi) ho (AD.c rfl (AD.c rfl AD.nil)) (sC sN) (λσ=>DK σ.1=some r) (λσ=>[(0,rv σ.2),(2,rv (.slice none 0 0))]) (λσ=>[.row σ.2 152 5 (AG At σ.1)]) ?_ ?_)))))
 ·rintro⟨hG,ha,hd⟩ hp;refine Cn (l':=[(0,rv hd),(2,rv (.slice none 0 0))]) (H':=[.row hd 152 5 (AG At ha)]) rfl rfl ?_;obtain⟨hq,rfl,hr,hg,hj⟩:=DY hp;replace hg:Dn ha=some hr:=hg;unfold Dn at hg;refine Ap (Aj (wm rfl (wv (BY (ys:=ha) (enc:=At) (i:=0) Ht rfl rfl) (wv (Et rfl rfl) (Aw (cz hg rfl (λhs ht=>?_) (λhs hu=>?_)))))))
  ·refine A3 (AS (AO (Aj (wm rfl (wm rfl (wv (BY (ys:=ha) (enc:=At) (i:=0) Ht rfl rfl) (ck ht λhw hx=>wv (MI rfl rfl hw) (ck hx λhe hy=>wv (r:=rv (D6 5 hd (Bh ((ha.length:Int)-1)) 0)) (E2 (i:=0) Ht NV rfl rfl rfl (Bk he)) (wa rfl (B5 (wm rfl (wv (r:=rv (D6 5 hd (Bh ((ha.length:Int)-1)) 0)) (BS (k:=0) rfl (Bk he) rfl rfl) (wv (r:=rv (D6 5 hd (Bh ((ha.length:Int)-1)) 1)) (Do (k:=0) Hq rfl C2 rfl (Bk he) rfl rfl rfl) (wv (r:=Ao ((Ar ha ((ha.length:Int)-1)).fLeft)) (EC (enc:=At) (ys:=ha) (i:=0) (j:=(ha.length:Int)-1) De rfl rfl he rfl) (ck hy λhz h0=>wv (MI rfl rfl hz) (wv (r:=rv (D6 5 hd (Bh ((ha.length:Int)-1)) 0)) (BS (k:=0) rfl (Bk he) rfl rfl) (wv (r:=rv (D6 5 hd (Bh ((ha.length:Int)-1)) 1)) (Do (k:=0) Hq rfl C2 rfl (Bk he) rfl rfl rfl) (H5 (enc:=At) (ys:=ha) (y':=(Av.mk ((Ar ha ((ha.length:Int)-1)).fPairs) (((Ar ha ((ha.length:Int)-1)).fLeft)-1) ((Ar ha ((ha.length:Int)-1)).fKey) ((Ar ha ((ha.length:Int)-1)).fLast) ((Ar ha ((ha.length:Int)-1)).fStarted))) (i:=0) (j:=(ha.length:Int)-1) C2 rfl rfl (BW rfl) rfl he rfl rfl (H':=[.row hd 152 5 (AG At (List.set ha (Bh ((ha.length:Int)-1)) (Av.mk ((Ar ha ((ha.length:Int)-1)).fPairs) (((Ar ha ((ha.length:Int)-1)).fLeft)-1) ((Ar ha ((ha.length:Int)-1)).fKey) ((Ar ha ((ha.length:Int)-1)).fLast) ((Ar ha ((ha.length:Int)-1)).fStarted))))]) rfl (bd h0 λhb hf h1=>?_)))))))))))))))))));rw[← hf];refine Aw (Ap (Aj (wm rfl (wv (r:=rv (D6 5 hd (Bh ((ha.length:Int)-1)) 0)) (BS (k:=0) rfl (Bk (Cw he hf)) rfl rfl) (wv (r:=rv (D6 5 hd (Bh ((ha.length:Int)-1)) 1)) (Do (k:=0) Hq rfl C2 rfl (Bk (Cw he hf)) rfl rfl rfl) (wv (r:=Ao ((Ar hb ((ha.length:Int)-1)).fLeft)) (EC (enc:=At) (ys:=hb) (i:=0) (j:=(ha.length:Int)-1) De rfl rfl (Cw he hf) rfl) (wv (Et rfl rfl) (Aw (cz h1 rfl (λh2 h3=>?_) (λh2 h4=>?_))))))))))
   ·refine Aj (wm rfl (wm rfl (wv (r:=rv (D6 5 hd (Bh ((ha.length:Int)-1)) 0)) (BS (k:=0) rfl (Bk (Cw he hf)) rfl rfl) (wv (r:=rv (D6 5 hd (Bh ((ha.length:Int)-1)) 0)) (Do (k:=0) Hq rfl Gs rfl (Bk (Cw he hf)) rfl rfl rfl) (wv (r:=rB ((Ar hb ((ha.length:Int)-1)).fPairs)) (EC (enc:=At) (ys:=hb) (i:=0) (j:=(ha.length:Int)-1) Qd rfl rfl (Cw he hf) rfl) (wv (r:=rv (D6 5 hd (Bh ((ha.length:Int)-1)) 0)) (BS (k:=0) rfl (Bk (Cw he hf)) rfl rfl) (wv (r:=rv (D6 5 hd (Bh ((ha.length:Int)-1)) 2)) (Do (k:=0) Hq rfl Gs rfl (Bk (Cw he hf)) rfl rfl rfl) (H5 (enc:=At) (ys:=hb) (y':=(Av.mk ((Ar hb ((ha.length:Int)-1)).fPairs) ((Ar hb ((ha.length:Int)-1)).fLeft) ((Ar hb ((ha.length:Int)-1)).fPairs) ((Ar hb ((ha.length:Int)-1)).fLast) ((Ar hb ((ha.length:Int)-1)).fStarted))) (i:=0) (j:=(ha.length:Int)-1) Gs rfl rfl (BW rfl) rfl (Cw he hf) rfl rfl (H':=[.row hd 152 5 (AG At (List.set hb (Bh ((ha.length:Int)-1)) (Av.mk ((Ar hb ((ha.length:Int)-1)).fPairs) ((Ar hb ((ha.length:Int)-1)).fLeft) ((Ar hb ((ha.length:Int)-1)).fPairs) ((Ar hb ((ha.length:Int)-1)).fLast) ((Ar hb ((ha.length:Int)-1)).fStarted))))]) rfl (bd h3 λhH h5 h6=>?_)))))))));rw[← h5];refine B5 (wm rfl (wa rfl (Aw (A1 (Af (A6 (Af (Bj ?_))))))));have h7:=BB h6 hj hl;refine A6 (Af ?_);obtain rfl:=A2 h7;exact A0 (BX Tryz.results114 (AP rfl)) (sC sN) ⟨hd,rfl,rfl⟩
   ·refine A3 (AS (Ak (wm rfl (wm rfl (wv (BY (ys:=hb) (enc:=At) (i:=0) Ht rfl rfl) (ck h4 λh8 h9=>wv (MI rfl rfl h8) (ck h9 λhA hB=>VP (i:=0) Ht NV rfl rfl rfl hA rfl (λhC=>?_))))))));refine wa rfl (An (AK ?_));have hD:=BD hB hj;exact Au (AF (hq,List.take (Bh ((hb.length:Int)-1)) hb,hC) ⟨hD,YI _⟩ (AD.c rfl (AD.c rfl AD.nil)) (sC sN))
  ·refine BJ (AB ?_);have hE:=CY hu hj hl;exact AB (B4 (AF (ha,hd) hE (AD.c rfl (AD.c rfl AD.nil)) (sC sN)))
 ·rintro⟨hm,hk⟩ hh;refine Eh (l':=[(0,rv hk),(2,rv (.slice none 0 0))]) (H':=[.row hk 152 5 (AG At hm)]) rfl rfl ?_;replace hh:DK hm=some r:=hh;unfold DK at hh;refine Bt (AS (Aj (wm rfl (wa rfl (Aw (A1 ?_))))));obtain rfl:=A2 hh;exact A0 (BX Tryz.results114 (AP rfl)) (sC sN) ⟨hk,rfl,rfl⟩
theorem Np (F:Nat)(v:(List Aa))(r:Int×A7×Bool)(h:Hu F v=some r):Fn Tryz.prog GE 88 [Bz 4 (AG Ac v)] [] (λR H=>R=C0 [Ao r.1,Bm (AE r.2.1),rB r.2.2]∧H=[]):=by
 refine enter (n:=152) Tryz.func88 rfl Tryz.ntmps88 rfl (λw Z=>?_);unfold Hu at h;refine Aj (wa rfl (Cl (cs:=[Ao 0,Ao 0,rB false,rB false]) NS rfl rfl (λb1=>?_)));refine wa rfl (Aw (SH (Aj (Cl (cs:=[Ao 0,Ao 0,rB false,rB false]) NS rfl rfl (λb2=>?_)))));refine B5 (wa rfl (Aw (Ap (SI (AS (Ap (Aj (wm rfl (wv (BO (ys:=v) (enc:=Ac) C1 rfl) (wv (r:=Ao 0) (Am rfl) (Aw (AO (WC.nilrow (e:=152) (sz:=5) (No (H2:=[.blk b2 [Ao 0,Ao 0,rB false,rB false] 128,.blk b1 [Ao 0,Ao 0,rB false,rB false] 128,.row (.slice none 0 0                                                                                                                                                        ) 152 5 (AG At ([]:List Av))]) ((As (i:=1) rfl).trans (Yy _ ((As (i:=1) rfl).trans (Yy _ (Ys _))))) (ob h λhA hB hy=>BH (S:=Nat×((List Av)×Int×A7)×(Value)) (V:=(A7)×(Unit)) 0 (λσ=>Cs (λσ=>Dm F v σ.1 σ.2.1 σ.2.2) σ.1 σ.2.1=some hA) (λσ=>[(0,Bz 4 (AG Ac v)),(3,rP b1 0),(5,rP b2 0),(6,rv σ.2.2),(11,Bz 4 (AG Ac v)),(12,Ao (v.length:Int)),(13,Ao σ.2.1.2.1)]) (λσ=>[.blk b2 (AE σ.2.1.2.2) 128,.blk b1 [Ao 0,Ao 0,rB false,rB false] 128,.row σ.2.2 152 5 (AG At σ.2.1.1)]) (λσ=>σ.1) (F,(([]:List Av),0,(A7.mk 0 0 false false)),(.slice none 0 0                                                                                                                                                        )) hB (AD.c rfl (AD.c rfl (AD.c5 rfl rfl rfl rfl rfl AD.nil))) (sC (sC (sC sN))) (λσ=>Ji σ.1=some r) (λσ=>[(3,rP b1 0),(5,rP b2 0)]) (λσ=>[.blk b2 (AE σ.1) 128,.blk b1 [Ao 0,Ao 0,rB false,rB false] 128]) ?_ ?_)))))))))))))))
 ·rintro⟨gI,⟨hd,hb,ha⟩,he⟩ hC;refine Cn (l':=[(0,Bz 4 (AG Ac v)),(3,rP b1 0),(5,rP b2 0),(6,rv he),(11,Bz 4 (AG Ac v)),(12,Ao (v.length:Int)),(13,Ao hb)]) (H':=[.blk b2 (AE ha) 128,.blk b1 [Ao 0,Ao 0,rB false,rB false] 128,.row he 152 5 (AG At hd)]) rfl rfl ?_;obtain⟨hD,rfl,h4,h0,hx⟩:=DY hC;replace h0:Dm F v hd hb ha=some h4:=h0;unfold Dm at h0;refine Aj (wv (E1 rfl rfl) (Aw (Ap (cz h0 rfl (λhE hG=>?_) (λhE hH=>?_)))))
  ·refine A3 (AS (Ct (S:=((List Av)×A7)×(Value)) (λσ=>DB hb σ.1.1 σ.1.2=some h4) (λσ=>[(0,Bz 4 (AG Ac v)),(3,rP b1 0),(5,rP b2 0),(6,rv σ.2),(11,Bz 4 (AG Ac v)),(12,Ao (v.length:Int)),(13,Ao hb)]) (λσ=>[.blk b2 (AE σ.1.2) 128,.blk b1 [Ao 0,Ao 0,rB false,rB false] 128,.row σ.2 152 5 (AG At σ.1.1)]) ?_ ?_))
   ·refine AO (Aj (wm rfl (ck hG λhI hJ=>wv (Cv (enc:=Ac) (ys:=v) C1 D7 rfl rfl hI) (wv (CW Re D7 rfl rfl rfl) (Cl (cs:=[Ao 0,Ao 0,rS ([]:Ae),Ao 0]) KG rfl rfl (λhf=>?_))))));refine wa rfl (By (i:=0) D7 rfl rfl rfl (BI.c rfl) rfl rfl (cs':=[Ao ((Ar v hb).fKind),Ao ((Ar v hb).fInt),rS ((Ar v hb).fStr),Ao ((Ar v hb).fN)]) rfl (H':=[.blk hf (Ac (Ar v hb)) 89,.blk b2 (AE ha) 128,.blk b1 [Ao 0,Ao 0,rB false,rB false] 128,.row he 152 5 (AG At hd)]) rfl (Aw (Ap (Aj (wv (B2 (i:=0) Re D7 rfl rfl rfl rfl) (ob hJ λhK hL hN=>HX Tryz.call111 (SN F (Ar v hb) hK hL) rfl (wv (BK rfl) (Aw (cz hN rfl (λhO hP=>?_) (λhO hQ=>?_))))))))))
    ·refine Ap (G0 (H1:=[.blk hf (Ac (Ar v hb)) 89,.blk b2 (AE ha) 128,.blk b1 (AE ha) 128,.row he 152 5 (AG At hd)]) [3,5] [⟨[],Bm (AE ha),1⟩,⟨[],Ao 0,0⟩,⟨[0],rv undef,2⟩,⟨[],rB false,0⟩] (rle [(3,_),(2,[.blk hf (Ac (Ar v hb)) 89,.blk b2 (AE ha) 128,.blk b1 (AE ha) 128,.row he 152 5 (AG At hd)])]) [2,4,3] ?_ ?_)
     ·refine of (B2 (i:=1) I1 Ev rfl rfl rfl rfl) (oq (Az rfl) (J5 rfl (Oz (CX (i:=2) Ev rfl rfl rfl (BI.c rfl) rfl rfl (cs':=[Ao ha.fDepth,Ao ha.fBytes,rB ha.fOutside,rB ha.fLong]) rfl (H':=[.blk hf (Ac (Ar v hb)) 89,.blk b2 (AE ha) 128,.blk b1 (AE ha) 128,.row he 152 5 (AG At hd)]) rfl)) ?_));refine oq (Az rfl) ?_;exact Co
     refine AS (A1 (Af (A6 (Af (Af (Bj ?_))))));have hR:=BB hP hx hy;refine A6 (Af (HT ?_));obtain rfl:=A2 hR;exact A0 (WT SB (AP rfl) (HB (i:=2) I1 Ev rfl rfl rfl) (AP rfl)) (sS (sS (sS (sS sN)))) ⟨rfl,rfl⟩
    ·refine A3 (AS (Ap (Aj (wm rfl (wv (BY (ys:=hd) (enc:=At) (i:=3) Ht rfl rfl) (wa rfl (Aw (ck hQ λhS hT=>ck hT λh5 hU=>AH [(0,Bz 4 (AG Ac v)),(3,rP b1 0),(5,rP b2 0),(6,rv he),(7,Ao hb),(8,rP hf 0),(9,Ao (hd.length:Int)),(11,Bz 4 (AG Ac v)),(12,Ao (v.length:Int)),(13,Ao hb),(33,rB ((decide (0<(hd.length:Int)))&&((Ar hd ((hd.length:Int)-1)).fKey)))] [.blk hf (Ac (Ar v hb)) 89,.blk b2 (AE ha) 128,.blk b1 [Ao 0,Ao 0,rB false,rB false] 128,.row he 152 5 (AG At hd)] ?_ ?_))))))))
     ·refine Ak (wm rfl (wv (Et rfl rfl) (wm rfl (AR (decide (0<(hd.length:Int))) (λhi=>?_) (λhi=>?_)))))
      ·refine wo hi (wm rfl (wo hi (wm rfl (wo hi (wv (MI rfl rfl (HK hS hi)) (wo hi (wv (r:=rv (D6 5 he (Bh ((hd.length:Int)-1)) 0)) (E2 (i:=3) Ht NV rfl rfl rfl (Bk (HK h5 hi))) (wo hi (wv (r:=rv (D6 5 he (Bh ((hd.length:Int)-1)) 2)) (Do (k:=3) Hq rfl Gs rfl (Bk (HK h5 hi)) rfl rfl rfl) (wo hi (wv (r:=rB ((Ar hd ((hd.length:Int)-1)).fKey)) (EC (enc:=At) (ys:=hd) (i:=3) (j:=(hd.length:Int)-1) Qd rfl rfl (HK h5 hi) rfl) (KR rfl hi rfl (An ?_)))))))))))));exact Dg hi
      ·refine wf hi (wf hi (wf hi (wf hi (wf hi (wf hi (wv (r:=rB false) (AA rfl hi rfl) (An ?_)))))));exact Dg hi
     refine cz hU rfl (λhV hW=>?_) (λhV hX=>?_)
     ·refine Aj (wm rfl (wm rfl (ck hW λhY hZ=>wv (MI rfl rfl hY) (ck hZ λhj ga=>wv (r:=rv (D6 5 he (Bh ((hd.length:Int)-1)) 0)) (E2 (i:=3) Ht NV rfl rfl rfl (Bk hj)) (wa rfl (Aw (Ap (AH [(0,Bz 4 (AG Ac v)),(3,rP b1 0),(5,rP b2 0),(6,rv he),(8,rP hf 0),(10,rv (D6 5 he (Bh ((hd.length:Int)-1)) 0)),(11,Bz 4 (AG Ac v)),(12,Ao (v.length:Int)),(13,Ao hb),(38,rP hf 0),(39,Ao ((Ar v hb).fKind)),(40,rB (!decide (((Ar v hb).fKind)=4))),(41,rB (!decide (((Ar v hb).fKind)=4))),(55,rB ((!decide (((Ar v hb).fKind)=4))||(((Ar hd ((hd.length:Int)-1)).fStarted)&&(Bv ((Ar v hb).fStr) ((Ar hd ((hd.length:Int)-1)).fLast)||decide (((Ar v hb).fStr)=((Ar hd ((hd.length:Int)-1)).fLast))))))] [.blk hf (Ac (Ar v hb)) 89,.blk b2 (AE ha) 128,.blk b1 [Ao 0,Ao 0,rB false,rB false] 128,.row he 152 5 (AG At hd)] ?_ ?_))))))))
      ·refine AR (!decide (((Ar v hb).fKind)=4)) (λhh=>?_) (λhh=>?_)
       ·refine Dh [0,3,5,6,8,10,11,12,13] [⟨[],rP hf 0,0⟩,⟨[0],Ao ((Ar v hb).fKind),1⟩,⟨[1],rB (!decide (((Ar v hb).fKind)=4)),0⟩,⟨[2],rB (!decide (((Ar v hb).fKind)=4)),0⟩,⟨[3],rv undef,0⟩,⟨[4,3],rv undef,0⟩,⟨[5,3],rv undef,0⟩,⟨[6,3],rv undef,0⟩,⟨[7,3],rv undef,0⟩,⟨[8],rv undef,0⟩,⟨[9,8],rv undef,0⟩,⟨[8],rv undef,0⟩,⟨[11,8],rv undef,0⟩,⟨[12,8],rv undef,0⟩,⟨[13,8],rv undef,0⟩,⟨[10,14,8],rv undef,0⟩,⟨[8,15,3],rv undef,0⟩,⟨[3,16],rB true,0⟩] [38,39,40,41,42,43,44,45,46,47,48,49,50,51,52,53,54,55,0,3,5,6,8,10,11,12,13] ?_ ?_
        ·refine oq (A4 BZ rfl Jb rfl rfl) (of (AW (i:=0) Jc rfl rfl rfl) (oq (D2 rfl rfl) (oq (Am rfl) (oz hh (oz hh (oz hh (oz hh (oz hh (ou (ou (ou (ou (ou (ou (ou (oz hh (oq (Ax (b:=!decide (((Ar v hb).fKind)=4)) rfl hh rfl) ?_)))))))))))))))));exact Co
        exact Dg hh
       ·refine AR ((Ar hd ((hd.length:Int)-1)).fStarted) (λhk=>?_) (λhk=>?_)
        ·refine Dh [0,3,5,6,8,10,11,12,13] [⟨[],rP hf 0,0⟩,⟨[0],Ao ((Ar v hb).fKind),1⟩,⟨[1],rB (!decide (((Ar v hb).fKind)=4)),0⟩,⟨[2],rB (!decide (((Ar v hb).fKind)=4)),0⟩,⟨[3],rv (D6 5 he (Bh ((hd.length:Int)-1)) 0),0⟩,⟨[4,3],rv (D6 5 he (Bh ((hd.length:Int)-1)) 0),1⟩,⟨[5,3],rv (D6 5 he (Bh ((hd.length:Int)-1)) 4),1⟩,⟨[6,3],rB ((Ar hd ((hd.length:Int)-1)).fStarted),1⟩,⟨[7,3],rB ((Ar hd ((hd.length:Int)-1)).fStarted),0⟩,⟨[8],rP hf 2,0⟩,⟨[9,8],rS ((Ar v hb).fStr),1⟩,⟨[8],rv (D6 5 he (Bh ((hd.length:Int)-1)) 0),0⟩,⟨[11,8],rv (D6 5 he (Bh ((hd.length:Int)-1)) 0),1⟩,⟨[12,8],rv (D6 5 he (Bh ((hd.length:Int)-1)) 3),1⟩,⟨[13,8],rS ((Ar hd ((hd.length:Int)-1)).fLast),1⟩,⟨[10,14,8],rB (Bv ((Ar v hb).fStr) ((Ar hd ((hd.length:Int)-1)).fLast)||decide (((Ar v hb).fStr)=((Ar hd ((hd.length:Int)-1)).fLast))),0⟩,⟨[8,15,3],rB (Bv ((Ar v hb).fStr) ((Ar hd ((hd.length:Int)-1)).fLast)||decide (((Ar v hb).fStr)=((Ar hd ((hd.length:Int)-1)).fLast))),0⟩,⟨[3,16],rB (Bv ((Ar v hb).fStr) ((Ar hd ((hd.length:Int)-1)).fLast)||decide (((Ar v hb).fStr)=((Ar hd ((hd.length:Int)-1)).fLast))),0⟩] [38,39,40,41,42,43,44,45,46,47,48,49,50,51,52,53,54,55,0,3,5,6,8,10,11,12,13] ?_ ?_
         ·refine oq (A4 BZ rfl Jb rfl rfl) (of (AW (i:=0) Jc rfl rfl rfl) (oq (D2 rfl rfl) (oq (Am rfl) (on hh (oq (Am rfl) (on hh (of (BS (k:=3) rfl (Bk hj) rfl rfl) (on hh (of (Do (k:=3) Hq rfl Gs rfl (Bk hj) rfl rfl rfl) (on hh (of (EC (enc:=At) (ys:=hd) (i:=3) (j:=(hd.length:Int)-1) Qd rfl rfl hj rfl) (on hh (oq (Am rfl) (on hk (oq (A4 BZ rfl Df rfl rfl) (on hk (of (AW (i:=0) D8 rfl rfl rfl) (on hk (oq (Am rfl) (on hk (of (BS (k:=3) rfl (Bk hj) rfl rfl) (on hk (of (Do (k:=3) Hq rfl Df rfl (Bk hj) rfl rfl rfl) ?_)))))))))))))))))))))));refine on hk (of (EC (enc:=At) (ys:=hd) (i:=3) (j:=(hd.length:Int)-1) D8 rfl rfl hj rfl) (on hk (oq (T5 rfl rfl) (on hh (oq (Ax rfl hk rfl) (oq (AA rfl hh rfl) ?_))))));exact Co
         exact Dg (And.intro hh hk)
        ·refine Dh [0,3,5,6,8,10,11,12,13] [⟨[],rP hf 0,0⟩,⟨[0],Ao ((Ar v hb).fKind),1⟩,⟨[1],rB (!decide (((Ar v hb).fKind)=4)),0⟩,⟨[2],rB (!decide (((Ar v hb).fKind)=4)),0⟩,⟨[3],rv (D6 5 he (Bh ((hd.length:Int)-1)) 0),0⟩,⟨[4,3],rv (D6 5 he (Bh ((hd.length:Int)-1)) 0),1⟩,⟨[5,3],rv (D6 5 he (Bh ((hd.length:Int)-1)) 4),1⟩,⟨[6,3],rB ((Ar hd ((hd.length:Int)-1)).fStarted),1⟩,⟨[7,3],rB ((Ar hd ((hd.length:Int)-1)).fStarted),0⟩,⟨[8],rv undef,0⟩,⟨[9,8],rv undef,0⟩,⟨[8],rv undef,0⟩,⟨[11,8],rv undef,0⟩,⟨[12,8],rv undef,0⟩,⟨[13,8],rv undef,0⟩,⟨[10,14,8],rv undef,0⟩,⟨[8,15,3],rB false,0⟩,⟨[3,16],rB false,0⟩] [38,39,40,41,42,43,44,45,46,47,48,49,50,51,52,53,54,55,0,3,5,6,8,10,11,12,13] ?_ ?_
         ·refine oq (A4 BZ rfl Jb rfl rfl) (of (AW (i:=0) Jc rfl rfl rfl) (oq (D2 rfl rfl) (oq (Am rfl) (on hh (oq (Am rfl) (on hh (of (BS (k:=3) rfl (Bk hj) rfl rfl) (on hh (of (Do (k:=3) Hq rfl Gs rfl (Bk hj) rfl rfl rfl) (on hh (of (EC (enc:=At) (ys:=hd) (i:=3) (j:=(hd.length:Int)-1) Qd rfl rfl hj rfl) (on hh (oq (Am rfl) (oz hk (oz hk (oz hk (oz hk (oz hk (oz hk (oz hk (on hh (oq (AA (b:=(Ar hd ((hd.length:Int)-1)).fStarted) rfl hk rfl) (oq (AA rfl hh rfl) ?_)))))))))))))))))))))));exact Co
         exact Dg (And.intro hh hk)
      refine cz ga rfl (λgb gc=>?_) (λgb gd=>?_)
      ·refine Ap (G0 (H1:=[.blk hf (Ac (Ar v hb)) 89,.blk b2 (AE ha) 128,.blk b1 (AE ha) 128,.row he 152 5 (AG At hd)]) [3,5] [⟨[],Bm (AE ha),1⟩,⟨[],Ao 0,0⟩,⟨[0],rv undef,2⟩,⟨[],rB false,0⟩] (rle [(3,_),(2,[.blk hf (Ac (Ar v hb)) 89,.blk b2 (AE ha) 128,.blk b1 (AE ha) 128,.row he 152 5 (AG At hd)])]) [2,4,3] ?_ ?_)
       ·refine of (B2 (i:=1) I1 Ev rfl rfl rfl rfl) (oq (Az rfl) (J5 rfl (Oz (CX (i:=2) Ev rfl rfl rfl (BI.c rfl) rfl rfl (cs':=[Ao ha.fDepth,Ao ha.fBytes,rB ha.fOutside,rB ha.fLong]) rfl (H':=[.blk hf (Ac (Ar v hb)) 89,.blk b2 (AE ha) 128,.blk b1 (AE ha) 128,.row he 152 5 (AG At hd)]) rfl)) ?_));refine oq (Az rfl) ?_;exact Co
       refine AS (A1 (Af (Af (A6 (Af (Af (Bj ?_)))))));have ge:=BB gc hx hy;refine A6 (Af (HT ?_));obtain rfl:=A2 ge;exact A0 (WT SB (AP rfl) (HB (i:=2) I1 Ev rfl rfl rfl) (AP rfl)) (sS (sS (sS (sS sN)))) ⟨rfl,rfl⟩
      ·refine A3 (AS (Aj (wm rfl (wm rfl (wm rfl (vF BZ rfl Df (vL 0 D8 rfl (wv (r:=rv (D6 5 he (Bh ((hd.length:Int)-1)) 0)) (BS (k:=3) rfl (Bk hj) rfl rfl) (wv (r:=rv (D6 5 he (Bh ((hd.length:Int)-1)) 3)) (Do (k:=3) Hq rfl Df rfl (Bk hj) rfl rfl rfl) (H5 (enc:=At) (ys:=hd) (y':=(Av.mk ((Ar hd ((hd.length:Int)-1)).fPairs) ((Ar hd ((hd.length:Int)-1)).fLeft) ((Ar hd ((hd.length:Int)-1)).fKey) ((Ar v hb).fStr) ((Ar hd ((hd.length:Int)-1)).fStarted))) (i:=3) (j:=(hd.length:Int)-1) Df rfl rfl (BW rfl) rfl hj rfl rfl (H':=[.blk hf (Ac (Ar v hb)) 89,.blk b2 (AE ha) 128,.blk b1 [Ao 0,Ao 0,rB false,rB false] 128,.row he 152 5 (AG At (List.set hd (Bh ((hd.length:Int)-1)) (Av.mk ((Ar hd ((hd.length:Int)-1)).fPairs) ((Ar hd ((hd.length:Int)-1)).fLeft) ((Ar hd ((hd.length:Int)-1)).fKey) ((Ar v hb).fStr) ((Ar hd ((hd.length:Int)-1)).fStarted))))]) rfl (bd gd λhr hu gf=>?_)))))))))));rw[← hu];refine wv (r:=rv (D6 5 he (Bh ((hd.length:Int)-1)) 0)) (BS (k:=3) rfl (Bk (Cw hj hu)) rfl rfl) (wv (r:=rv (D6 5 he (Bh ((hd.length:Int)-1)) 4)) (Do (k:=3) Hq rfl Gs rfl (Bk (Cw hj hu)) rfl rfl rfl) (H5 (enc:=At) (ys:=hr) (y':=(Av.mk ((Ar hr ((hd.length:Int)-1)).fPairs) ((Ar hr ((hd.length:Int)-1)).fLeft) ((Ar hr ((hd.length:Int)-1)).fKey) ((Ar hr ((hd.length:Int)-1)).fLast) true)) (i:=3) (j:=(hd.length:Int)-1) Gs rfl rfl (BW rfl) rfl (Cw hj hu) rfl rfl (H':=[.blk hf (Ac (Ar v hb)) 89,.blk b2 (AE ha) 128,.blk b1 [Ao 0,Ao 0,rB false,rB false] 128,.row he 152 5 (AG At (List.set hr (Bh ((hd.length:Int)-1)) (Av.mk ((Ar hr ((hd.length:Int)-1)).fPairs) ((Ar hr ((hd.length:Int)-1)).fLeft) ((Ar hr ((hd.length:Int)-1)).fKey) ((Ar hr ((hd.length:Int)-1)).fLast) true)))]) rfl (bd gf λhs h1 gg=>?_)));rw[← h1];refine wv (r:=rv (D6 5 he (Bh ((hd.length:Int)-1)) 0)) (BS (k:=3) rfl (Bk (Cw (Cw hj hu) h1)) rfl rfl) (wv (r:=rv (D6 5 he (Bh ((hd.length:Int)-1)) 2)) (Do (k:=3) Hq rfl Gs rfl (Bk (Cw (Cw hj hu) h1)) rfl rfl rfl) (H5 (enc:=At) (ys:=hs) (y':=(Av.mk ((Ar hs ((hd.length:Int)-1)).fPairs) ((Ar hs ((hd.length:Int)-1)).fLeft) false ((Ar hs ((hd.length:Int)-1)).fLast) ((Ar hs ((hd.length:Int)-1)).fStarted))) (i:=3) (j:=(hd.length:Int)-1) Gs rfl rfl (BW rfl) rfl (Cw (Cw hj hu) h1) rfl rfl (H':=[.blk hf (Ac (Ar v hb)) 89,.blk b2 (AE ha) 128,.blk b1 [Ao 0,Ao 0,rB false,rB false] 128,.row he 152 5 (AG At (List.set hs (Bh ((hd.length:Int)-1)) (Av.mk ((Ar hs ((hd.length:Int)-1)).fPairs) ((Ar hs ((hd.length:Int)-1)).fLeft) false ((Ar hs ((hd.length:Int)-1)).fLast) ((Ar hs ((hd.length:Int)-1)).fStarted))))]) rfl (bd gg λht gh gi=>?_)));rw[← gh];refine Aw (Ap (ob gi λhl gj gl=>ck gl λgm gp=>G0 (H1:=[.blk hf (Ac (Ar v hb)) 89,.blk b2 [Ao ha.fDepth,Ao (IntKind.wrap .i64 (ha.fBytes+(hl+1))),rB ha.fOutside,rB ha.fLong] 128,.blk b1 [Ao 0,Ao 0,rB false,rB false] 128,.row he 152 5 (AG At ht)]) [0,3,5,6,8,11,12,13,38,39,40,41] [⟨[],rP b2 1,0⟩,⟨[0],Ao ha.fBytes,1⟩,⟨[],rP hf 2,0⟩,⟨[2],rS ((Ar v hb).fStr),1⟩,⟨[3],Ao hl,0⟩,⟨[4],Ao (hl+1),0⟩,⟨[1,5],Ao (IntKind.wrap .i64 (ha.fBytes+(hl+1))),0⟩,⟨[],rP b2 1,0⟩,⟨[7,6],rv undef,2⟩] (rle [(9,_),(1,[.blk hf (Ac (Ar v hb)) 89,.blk b2 [Ao ha.fDepth,Ao (IntKind.wrap .i64 (ha.fBytes+(hl+1))),rB ha.fOutside,rB ha.fLong] 128,.blk b1 [Ao 0,Ao 0,rB false,rB false] 128,.row he 152 5 (AG At ht)])]) [68,69,70,71,72,73,74,75,0,3,5,6,8,11,12,13,38,39,40,41] ?_ ?_))
       ·refine oq (A4 DS rfl C2 rfl rfl) (of (AW (i:=1) De rfl rfl rfl) (oq (A4 BZ rfl Df rfl rfl) (of (AW (i:=0) D8 rfl rfl rfl) (GO rfl (λH=>MG Tryz.call112 (M4 ((Ar v hb).fStr) hl gj) rfl) ?_))));refine oq (BQ rfl rfl gm) (oq (PE rfl rfl) (oq (A4 DS rfl C2 rfl rfl) (J5 rfl (Oz (Nl (i:=1) C2 rfl rfl (BW rfl) rfl rfl (cs':=[Ao ha.fDepth,Ao (IntKind.wrap .i64 (ha.fBytes+(hl+1))),rB ha.fOutside,rB ha.fLong]) rfl (H':=[.blk hf (Ac (Ar v hb)) 89,.blk b2 [Ao ha.fDepth,Ao (IntKind.wrap .i64 (ha.fBytes+(hl+1))),rB ha.fOutside,rB ha.fLong] 128,.blk b1 [Ao 0,Ao 0,rB false,rB false] 128,.row he 152 5 (AG At ht)]) rfl)) ?_)));exact Co
       refine AS (AH [(0,Bz 4 (AG Ac v)),(3,rP b1 0),(5,rP b2 0),(6,rv he),(11,Bz 4 (AG Ac v)),(12,Ao (v.length:Int)),(13,Ao hb),(38,rP hf 0),(39,Ao ((Ar v hb).fKind)),(40,rB (!decide (((Ar v hb).fKind)=4))),(41,rB (!decide (((Ar v hb).fKind)=4))),(68,rP b2 1),(69,Ao ha.fBytes),(70,rP hf 2),(71,rS ((Ar v hb).fStr)),(72,Ao hl),(73,Ao (hl+1)),(74,Ao (IntKind.wrap .i64 (ha.fBytes+(hl+1)))),(75,rP b2 1)] [.blk hf (Ac (Ar v hb)) 89,.blk b2 [Ao ha.fDepth,Ao (IntKind.wrap .i64 (ha.fBytes+(hl+1))),rB ha.fOutside,rB (ha.fLong||(decide (200<(((Ar v hb).fStr).length:Int))))] 128,.blk b1 [Ao 0,Ao 0,rB false,rB false] 128,.row he 152 5 (AG At ht)] ?_ ?_)
       ·refine Ak (vF DS rfl Gs (vL 1 Qd rfl (wm rfl (AR (ha.fLong) (λho=>?_) (λho=>?_)))))
        ·refine wf ho (wf ho (wf ho (wf ho (wv (r:=rB true) (Ax rfl ho rfl) (vF DS rfl Gs (Bu (i:=1) Gs rfl rfl (BW rfl) rfl rfl (cs':=[Ao ha.fDepth,Ao (IntKind.wrap .i64 (ha.fBytes+(hl+1))),rB ha.fOutside,rB true]) rfl (H':=[.blk hf (Ac (Ar v hb)) 89,.blk b2 [Ao ha.fDepth,Ao (IntKind.wrap .i64 (ha.fBytes+(hl+1))),rB ha.fOutside,rB true] 128,.blk b1 [Ao 0,Ao 0,rB false,rB false] 128,.row he 152 5 (AG At ht)]) rfl (An (Ga (H':=[.blk hf (Ac (Ar v hb)) 89,.blk b2 [Ao ha.fDepth,Ao (IntKind.wrap .i64 (ha.fBytes+(hl+1))),rB ha.fOutside,rB (ha.fLong||(decide (200<(((Ar v hb).fStr).length:Int))))] 128,.blk b1 [Ao 0,Ao 0,rB false,rB false] 128,.row he 152 5 (AG At ht)]) (by simp only[ho,Y5,YA,YK,Y7,YB,YF,YJ,YD,Y3,YE,Yw,Yt]) ?_))))))));exact wt
        ·refine wo ho (vF BZ rfl Df (wo ho (vL 0 D8 rfl (wo ho (wv (Bp CA rfl) (wo ho (wv (Et rfl rfl) (It rfl ho rfl (vF DS rfl Gs (Bu (i:=1) Gs rfl rfl (BW rfl) rfl rfl (cs':=[Ao ha.fDepth,Ao (IntKind.wrap .i64 (ha.fBytes+(hl+1))),rB ha.fOutside,rB (decide (200<(((Ar v hb).fStr).length:Int)))]) rfl (H':=[.blk hf (Ac (Ar v hb)) 89,.blk b2 [Ao ha.fDepth,Ao (IntKind.wrap .i64 (ha.fBytes+(hl+1))),rB ha.fOutside,rB (decide (200<(((Ar v hb).fStr).length:Int)))] 128,.blk b1 [Ao 0,Ao 0,rB false,rB false] 128,.row he 152 5 (AG At ht)]) rfl (An (Ga (H':=[.blk hf (Ac (Ar v hb)) 89,.blk b2 [Ao ha.fDepth,Ao (IntKind.wrap .i64 (ha.fBytes+(hl+1))),rB ha.fOutside,rB (ha.fLong||(decide (200<(((Ar v hb).fStr).length:Int))))] 128,.blk b1 [Ao 0,Ao 0,rB false,rB false] 128,.row he 152 5 (AG At ht)]) (by simp only[ho,Y5,YA,YK,Y7,YB,YF,YJ,YD,Y3,YE,Yw,Yt]) ?_))))))))))));exact wt
       exact BJ (AB (Bt (Au (AF ((ht,(A7.mk ha.fDepth (IntKind.wrap .i64 (ha.fBytes+(hl+1))) ha.fOutside (ha.fLong||(decide (200<(((Ar v hb).fStr).length:Int)))))),he) gp (AD.c rfl (AD.c rfl (AD.c5 rfl rfl rfl rfl rfl AD.nil))) (sS (sC (sC (sC sN))))))))
     ·refine A3 (AS (Aj (vF DS rfl C2 (vL 1 De rfl (wm rfl (wv (BY (ys:=hd) (enc:=At) (i:=3) Ht rfl rfl) (ck hX λgq gr=>wv (BQ rfl rfl gq) (wv (VS UC rfl rfl) (vF DS rfl C2 (Bu (i:=1) C2 rfl rfl (BW rfl) rfl rfl (cs':=[Ao (max ha.fDepth ((hd.length:Int)+1)),Ao ha.fBytes,rB ha.fOutside,rB ha.fLong]) rfl (H':=[.blk hf (Ac (Ar v hb)) 89,.blk b2 [Ao (max ha.fDepth ((hd.length:Int)+1)),Ao ha.fBytes,rB ha.fOutside,rB ha.fLong] 128,.blk b1 [Ao 0,Ao 0,rB false,rB false] 128,.row he 152 5 (AG At hd)]) rfl (Aw (Ap (ob gr λhg gs gt=>G0 (H1:=[.blk hf (Ac (Ar v hb)) 89,.blk b2 [Ao (max ha.fDepth ((hd.length:Int)+1)),Ao (IntKind.wrap .i64 (ha.fBytes+hg)),rB ha.fOutside,rB ha.fLong] 128,.blk b1 [Ao 0,Ao 0,rB false,rB false] 128,.row he 152 5 (AG At hd)]) [0,3,5,6,7,8,11,12,13] [⟨[],rP b2 1,0⟩,⟨[0],Ao ha.fBytes,1⟩,⟨[],Bm (Ac (Ar v hb)),1⟩,⟨[2],Ao hg,0⟩,⟨[1,3],Ao (IntKind.wrap .i64 (ha.fBytes+hg)),0⟩,⟨[],rP b2 1,0⟩,⟨[5,4],rv undef,2⟩] (rle [(7,_),(1,[.blk hf (Ac (Ar v hb)) 89,.blk b2 [Ao (max ha.fDepth ((hd.length:Int)+1)),Ao (IntKind.wrap .i64 (ha.fBytes+hg)),rB ha.fOutside,rB ha.fLong] 128,.blk b1 [Ao 0,Ao 0,rB false,rB false] 128,.row he 152 5 (AG At hd)])]) [92,93,94,95,96,97,0,3,5,6,7,8,11,12,13] ?_ ?_)))))))))))))
      ·refine oq (A4 DS rfl C2 rfl rfl) (of (AW (i:=1) De rfl rfl rfl) (of (B2 (i:=0) Re D7 rfl rfl rfl rfl) (GO rfl (λH=>MG Tryz.call113 (UP (Ar v hb) hg gs) rfl) ?_)));refine oq (PE rfl rfl) (oq (A4 DS rfl C2 rfl rfl) (J5 rfl (Oz (Nl (i:=1) C2 rfl rfl (BW rfl) rfl rfl (cs':=[Ao (max ha.fDepth ((hd.length:Int)+1)),Ao (IntKind.wrap .i64 (ha.fBytes+hg)),rB ha.fOutside,rB ha.fLong]) rfl (H':=[.blk hf (Ac (Ar v hb)) 89,.blk b2 [Ao (max ha.fDepth ((hd.length:Int)+1)),Ao (IntKind.wrap .i64 (ha.fBytes+hg)),rB ha.fOutside,rB ha.fLong] 128,.blk b1 [Ao 0,Ao 0,rB false,rB false] 128,.row he 152 5 (AG At hd)]) rfl)) ?_));exact Co
      refine AS (ck gt λgu gv=>AH [(0,Bz 4 (AG Ac v)),(3,rP b1 0),(5,rP b2 0),(6,rv he),(7,Ao hb),(8,rP hf 0),(11,Bz 4 (AG Ac v)),(12,Ao (v.length:Int)),(13,Ao hb),(92,rP b2 1),(93,Ao ha.fBytes),(94,Bm (Ac (Ar v hb))),(95,Ao hg),(96,Ao (IntKind.wrap .i64 (ha.fBytes+hg))),(97,rP b2 1)] [.blk hf (Ac (Ar v hb)) 89,.blk b2 [Ao (max ha.fDepth ((hd.length:Int)+1)),Ao (IntKind.wrap .i64 (ha.fBytes+hg)),rB (ha.fOutside||((decide (((Ar v hb).fKind)=3))&&(!(ov (Br ((Ar v hb).fInt)))))),rB ha.fLong] 128,.blk b1 [Ao 0,Ao 0,rB false,rB false] 128,.row he 152 5 (AG At hd)] ?_ ?_)
      ·refine Ak (vF DS rfl Gs (vL 1 Qd rfl (wm rfl (AR (ha.fOutside) (λhm=>?_) (λhm=>?_)))))
       ·refine wf hm (wf hm (wf hm (wf hm (wu (wu (wu (wu (wf hm (wv (r:=rB true) (Ax rfl hm rfl) (vF DS rfl Gs (Bu (i:=1) Gs rfl rfl (BW rfl) rfl rfl (cs':=[Ao (max ha.fDepth ((hd.length:Int)+1)),Ao (IntKind.wrap .i64 (ha.fBytes+hg)),rB true,rB ha.fLong]) rfl (H':=[.blk hf (Ac (Ar v hb)) 89,.blk b2 [Ao (max ha.fDepth ((hd.length:Int)+1)),Ao (IntKind.wrap .i64 (ha.fBytes+hg)),rB true,rB ha.fLong] 128,.blk b1 [Ao 0,Ao 0,rB false,rB false] 128,.row he 152 5 (AG At hd)]) rfl (An (Ga (H':=[.blk hf (Ac (Ar v hb)) 89,.blk b2 [Ao (max ha.fDepth ((hd.length:Int)+1)),Ao (IntKind.wrap .i64 (ha.fBytes+hg)),rB (ha.fOutside||((decide (((Ar v hb).fKind)=3))&&(!(ov (Br ((Ar v hb).fInt)))))),rB ha.fLong] 128,.blk b1 [Ao 0,Ao 0,rB false,rB false] 128,.row he 152 5 (AG At hd)]) (by simp only[hm,Y5,YA,YK,Y7,YB,YF,YJ,YD,Y3,YE,Yw,Yt]) ?_)))))))))))));exact wt
       ·refine wo hm (vF BZ rfl Jb (wo hm (vL 0 Jc rfl (wo hm (wv (BP rfl rfl) (wo hm (wm rfl (AR (decide (((Ar v hb).fKind)=3)) (λhn=>?_) (λhn=>?_)))))))))
        ·refine wo hn (vF BZ rfl C2 (wo hn (vL 0 De rfl (wo hn (HX Tryz.call69 (TC ((Ar v hb).fInt) (ov (Br ((Ar v hb).fInt))) (Wp (HK (QI gu hm) hn))) rfl (wo hn (wv (BK rfl) (wo hm (KR rfl hn rfl (It rfl hm rfl (vF DS rfl Gs (Bu (i:=1) Gs rfl rfl (BW rfl) rfl rfl (cs':=[Ao (max ha.fDepth ((hd.length:Int)+1)),Ao (IntKind.wrap .i64 (ha.fBytes+hg)),rB (!(ov (Br ((Ar v hb).fInt)))),rB ha.fLong]) rfl (H':=[.blk hf (Ac (Ar v hb)) 89,.blk b2 [Ao (max ha.fDepth ((hd.length:Int)+1)),Ao (IntKind.wrap .i64 (ha.fBytes+hg)),rB (!(ov (Br ((Ar v hb).fInt)))),rB ha.fLong] 128,.blk b1 [Ao 0,Ao 0,rB false,rB false] 128,.row he 152 5 (AG At hd)]) rfl (An (Ga (H':=[.blk hf (Ac (Ar v hb)) 89,.blk b2 [Ao (max ha.fDepth ((hd.length:Int)+1)),Ao (IntKind.wrap .i64 (ha.fBytes+hg)),rB (ha.fOutside||((decide (((Ar v hb).fKind)=3))&&(!(ov (Br ((Ar v hb).fInt)))))),rB ha.fLong] 128,.blk b1 [Ao 0,Ao 0,rB false,rB false] 128,.row he 152 5 (AG At hd)]) (by simp only[hm,hn,Y5,YA,YK,Y7,YB,YF,YJ,YD,Y3,YE,Yw,Yt]) ?_))))))))))))));exact wt
        ·refine wf hn (wf hn (wf hn (wf hn (wo hm (wv (r:=rB false) (AA rfl hn rfl) (It rfl hm rfl (vF DS rfl Gs (Bu (i:=1) Gs rfl rfl (BW rfl) rfl rfl (cs':=[Ao (max ha.fDepth ((hd.length:Int)+1)),Ao (IntKind.wrap .i64 (ha.fBytes+hg)),rB false,rB ha.fLong]) rfl (H':=[.blk hf (Ac (Ar v hb)) 89,.blk b2 [Ao (max ha.fDepth ((hd.length:Int)+1)),Ao (IntKind.wrap .i64 (ha.fBytes+hg)),rB false,rB ha.fLong] 128,.blk b1 [Ao 0,Ao 0,rB false,rB false] 128,.row he 152 5 (AG At hd)]) rfl (An (Ga (H':=[.blk hf (Ac (Ar v hb)) 89,.blk b2 [Ao (max ha.fDepth ((hd.length:Int)+1)),Ao (IntKind.wrap .i64 (ha.fBytes+hg)),rB (ha.fOutside||((decide (((Ar v hb).fKind)=3))&&(!(ov (Br ((Ar v hb).fInt)))))),rB ha.fLong] 128,.blk b1 [Ao 0,Ao 0,rB false,rB false] 128,.row he 152 5 (AG At hd)]) (by simp only[hm,hn,Y5,YA,YK,Y7,YB,YF,YJ,YD,Y3,YE,Yw,Yt]) ?_))))))))));exact wt
      refine AH [(0,Bz 4 (AG Ac v)),(3,rP b1 0),(5,rP b2 0),(6,rv he),(7,Ao hb),(8,rP hf 0),(11,Bz 4 (AG Ac v)),(12,Ao (v.length:Int)),(13,Ao hb),(92,rP b2 1),(93,Ao ha.fBytes),(94,Bm (Ac (Ar v hb))),(95,Ao hg),(96,Ao (IntKind.wrap .i64 (ha.fBytes+hg))),(97,rP b2 1)] [.blk hf (Ac (Ar v hb)) 89,.blk b2 [Ao (max ha.fDepth ((hd.length:Int)+1)),Ao (IntKind.wrap .i64 (ha.fBytes+hg)),rB (ha.fOutside||((decide (((Ar v hb).fKind)=3))&&(!(ov (Br ((Ar v hb).fInt)))))),rB (ha.fLong||(decide (200<(((Ar v hb).fStr).length:Int))))] 128,.blk b1 [Ao 0,Ao 0,rB false,rB false] 128,.row he 152 5 (AG At hd)] ?_ ?_
      ·refine Ak (vF DS rfl Gs (vL 1 Qd rfl (wm rfl (AR (ha.fLong) (λhp=>?_) (λhp=>?_)))))
       ·refine wf hp (wf hp (wf hp (wf hp (wv (r:=rB true) (Ax rfl hp rfl) (vF DS rfl Gs (Bu (i:=1) Gs rfl rfl (BW rfl) rfl rfl (cs':=[Ao (max ha.fDepth ((hd.length:Int)+1)),Ao (IntKind.wrap .i64 (ha.fBytes+hg)),rB (ha.fOutside||((decide (((Ar v hb).fKind)=3))&&(!(ov (Br ((Ar v hb).fInt)))))),rB true]) rfl (H':=[.blk hf (Ac (Ar v hb)) 89,.blk b2 [Ao (max ha.fDepth ((hd.length:Int)+1)),Ao (IntKind.wrap .i64 (ha.fBytes+hg)),rB (ha.fOutside||((decide (((Ar v hb).fKind)=3))&&(!(ov (Br ((Ar v hb).fInt)))))),rB true] 128,.blk b1 [Ao 0,Ao 0,rB false,rB false] 128,.row he 152 5 (AG At hd)]) rfl (An (Ga (H':=[.blk hf (Ac (Ar v hb)) 89,.blk b2 [Ao (max ha.fDepth ((hd.length:Int)+1)),Ao (IntKind.wrap .i64 (ha.fBytes+hg)),rB (ha.fOutside||((decide (((Ar v hb).fKind)=3))&&(!(ov (Br ((Ar v hb).fInt)))))),rB (ha.fLong||(decide (200<(((Ar v hb).fStr).length:Int))))] 128,.blk b1 [Ao 0,Ao 0,rB false,rB false] 128,.row he 152 5 (AG At hd)]) (by simp only[hp,Y5,YA,YK,Y7,YB,YF,YJ,YD,Y3,YE,Yw,Yt]) ?_))))))));exact wt
       ·refine wo hp (vF BZ rfl Df (wo hp (vL 0 D8 rfl (wo hp (wv (Bp CA rfl) (wo hp (wv (Et rfl rfl) (It rfl hp rfl (vF DS rfl Gs (Bu (i:=1) Gs rfl rfl (BW rfl) rfl rfl (cs':=[Ao (max ha.fDepth ((hd.length:Int)+1)),Ao (IntKind.wrap .i64 (ha.fBytes+hg)),rB (ha.fOutside||((decide (((Ar v hb).fKind)=3))&&(!(ov (Br ((Ar v hb).fInt)))))),rB (decide (200<(((Ar v hb).fStr).length:Int)))]) rfl (H':=[.blk hf (Ac (Ar v hb)) 89,.blk b2 [Ao (max ha.fDepth ((hd.length:Int)+1)),Ao (IntKind.wrap .i64 (ha.fBytes+hg)),rB (ha.fOutside||((decide (((Ar v hb).fKind)=3))&&(!(ov (Br ((Ar v hb).fInt)))))),rB (decide (200<(((Ar v hb).fStr).length:Int)))] 128,.blk b1 [Ao 0,Ao 0,rB false,rB false] 128,.row he 152 5 (AG At hd)]) rfl (An (Ga (H':=[.blk hf (Ac (Ar v hb)) 89,.blk b2 [Ao (max ha.fDepth ((hd.length:Int)+1)),Ao (IntKind.wrap .i64 (ha.fBytes+hg)),rB (ha.fOutside||((decide (((Ar v hb).fKind)=3))&&(!(ov (Br ((Ar v hb).fInt)))))),rB (ha.fLong||(decide (200<(((Ar v hb).fStr).length:Int))))] 128,.blk b1 [Ao 0,Ao 0,rB false,rB false] 128,.row he 152 5 (AG At hd)]) (by simp only[hp,Y5,YA,YK,Y7,YB,YF,YJ,YD,Y3,YE,Yw,Yt]) ?_))))))))))));exact wt
      refine Ap (Aj (vF BZ rfl C2 (vL 0 De rfl (wv (Et rfl rfl) (Aw (cz gv rfl (λgw gx=>?_) (λgw gy=>?_)))))))
      ·refine Ap (Aj (vF BZ rfl C2 (vL 0 De rfl (wm rfl (wv (BO (ys:=v) (enc:=Ac) C1 rfl) (wv (Et rfl rfl) (Aw (cz gx rfl (λgz g0=>?_) (λgz g1=>?_)))))))))
       ·refine Ap (G0 (H1:=[.blk hf (Ac (Ar v hb)) 89,.blk b2 [Ao (max ha.fDepth ((hd.length:Int)+1)),Ao (IntKind.wrap .i64 (ha.fBytes+hg)),rB (ha.fOutside||((decide (((Ar v hb).fKind)=3))&&(!(ov (Br ((Ar v hb).fInt)))))),rB (ha.fLong||(decide (200<(((Ar v hb).fStr).length:Int))))] 128,.blk b1 [Ao (max ha.fDepth ((hd.length:Int)+1)),Ao (IntKind.wrap .i64 (ha.fBytes+hg)),rB (ha.fOutside||((decide (((Ar v hb).fKind)=3))&&(!(ov (Br ((Ar v hb).fInt)))))),rB (ha.fLong||(decide (200<(((Ar v hb).fStr).length:Int))))] 128,.row he 152 5 (AG At hd)]) [3,5] [⟨[],Bm [Ao (max ha.fDepth ((hd.length:Int)+1)),Ao (IntKind.wrap .i64 (ha.fBytes+hg)),rB (ha.fOutside||((decide (((Ar v hb).fKind)=3))&&(!(ov (Br ((Ar v hb).fInt)))))),rB (ha.fLong||(decide (200<(((Ar v hb).fStr).length:Int))))],1⟩,⟨[],Ao 0,0⟩,⟨[0],rv undef,2⟩,⟨[],rB false,0⟩] (rle [(3,_),(2,[.blk hf (Ac (Ar v hb)) 89,.blk b2 [Ao (max ha.fDepth ((hd.length:Int)+1)),Ao (IntKind.wrap .i64 (ha.fBytes+hg)),rB (ha.fOutside||((decide (((Ar v hb).fKind)=3))&&(!(ov (Br ((Ar v hb).fInt)))))),rB (ha.fLong||(decide (200<(((Ar v hb).fStr).length:Int))))] 128,.blk b1 [Ao (max ha.fDepth ((hd.length:Int)+1)),Ao (IntKind.wrap .i64 (ha.fBytes+hg)),rB (ha.fOutside||((decide (((Ar v hb).fKind)=3))&&(!(ov (Br ((Ar v hb).fInt)))))),rB (ha.fLong||(decide (200<(((Ar v hb).fStr).length:Int))))] 128,.row he 152 5 (AG At hd)])]) [2,4,3] ?_ ?_)
        ·refine of (B2 (i:=1) I1 Ev rfl rfl rfl rfl) (oq (Az rfl) (J5 rfl (Oz (CX (i:=2) Ev rfl rfl rfl (BI.c rfl) rfl rfl (cs':=[Ao (max ha.fDepth ((hd.length:Int)+1)),Ao (IntKind.wrap .i64 (ha.fBytes+hg)),rB (ha.fOutside||((decide (((Ar v hb).fKind)=3))&&(!(ov (Br ((Ar v hb).fInt)))))),rB (ha.fLong||(decide (200<(((Ar v hb).fStr).length:Int))))]) rfl (H':=[.blk hf (Ac (Ar v hb)) 89,.blk b2 [Ao (max ha.fDepth ((hd.length:Int)+1)),Ao (IntKind.wrap .i64 (ha.fBytes+hg)),rB (ha.fOutside||((decide (((Ar v hb).fKind)=3))&&(!(ov (Br ((Ar v hb).fInt)))))),rB (ha.fLong||(decide (200<(((Ar v hb).fStr).length:Int))))] 128,.blk b1 [Ao (max ha.fDepth ((hd.length:Int)+1)),Ao (IntKind.wrap .i64 (ha.fBytes+hg)),rB (ha.fOutside||((decide (((Ar v hb).fKind)=3))&&(!(ov (Br ((Ar v hb).fInt)))))),rB (ha.fLong||(decide (200<(((Ar v hb).fStr).length:Int))))] 128,.row he 152 5 (AG At hd)]) rfl)) ?_));refine oq (Az rfl) ?_;exact Co
        refine AS (A1 (Af (Af (A6 (Af (Af (Bj ?_)))))));have g2:=BB g0 hx hy;refine A6 (Af (HT ?_));obtain rfl:=A2 g2;exact A0 (WT SB (AP rfl) (HB (i:=2) I1 Ev rfl rfl rfl) (AP rfl)) (sS (sS (sS (sS sN)))) ⟨rfl,rfl⟩
       ·refine A3 (AS (Aj (wm rfl (vF BZ rfl Jb (vL 0 Jc rfl (wv (BP rfl rfl) (vF BZ rfl C2 (vL 0 De rfl (vF BZ rfl Jb (vL 0 Jc rfl (wv (BP rfl rfl) (wv (r:=Bm [rB (decide (((Ar v hb).fKind)=6)),Ao ((Ar v hb).fN),rB (decide (((Ar v hb).fKind)=6)),rS ([]:Ae),rB false]) (Kd rfl rfl rfl rfl rfl rfl) (Bo (ys:=([(Av.mk (decide (((Ar v hb).fKind)=6)) ((Ar v hb).fN) (decide (((Ar v hb).fKind)=6)) ([]:Ae) false)]:List Av)) (enc:=At) (css:=[[rB (decide (((Ar v hb).fKind)=6)),Ao ((Ar v hb).fN),rB (decide (((Ar v hb).fKind)=6)),rS ([]:Ae),rB false]]) (xs:=[.tmp 139]) Ht NV Tryz.zeroValue152 rfl rfl rfl ⟨Ja.agg ⟨Up.refl _,Up.refl _,Up.refl _,Up.refl _,Up.refl _,trivial⟩,trivial⟩ rfl Hw rfl rfl rfl (λg3=>?_))))))))))))));refine ck g1 λg4 g5=>Exists.elim V2 λinf hinf=>Cj (xs:=hd) (ys:=([(Av.mk (decide (((Ar v hb).fKind)=6)) ((Ar v hb).fN) (decide (((Ar v hb).fKind)=6)) ([]:Ae) false)]:List Av)) (enc:=At) (i:=4) Ht hinf.1 hinf.2.1 hinf.2.2.1 hinf.2.2.2 rfl rfl rfl rfl rfl (Li.w (i:=0) rfl rfl) Hw KM g4 rfl (λh9=>?_);exact wa rfl (Aw (BJ (AB (Bt (Ce (H2:=[.blk b2 [Ao (max ha.fDepth ((hd.length:Int)+1)),Ao (IntKind.wrap .i64 (ha.fBytes+hg)),rB (ha.fOutside||((decide (((Ar v hb).fKind)=3))&&(!(ov (Br ((Ar v hb).fInt)))))),rB (ha.fLong||(decide (200<(((Ar v hb).fStr).length:Int))))] 128,.blk b1 [Ao 0,Ao 0,rB false,rB false] 128,.row h9 152 5 (AG At (hd++([(Av.mk (decide (((Ar v hb).fKind)=6)) ((Ar v hb).fN) (decide (((Ar v hb).fKind)=6)) ([]:Ae) false)]:List Av))),.row (.slice (some ⟨g3,0,none⟩) 1 1) 152 5 (AG At ([(Av.mk (decide (((Ar v hb).fKind)=6)) ((Ar v hb).fN) (decide (((Ar v hb).fKind)=6)) ([]:Ae) false)]:List Av)),.blk hf (Ac (Ar v hb)) 89]) ((As (i:=3) rfl).trans (Yy _ ((As (i:=3) rfl).trans (Yy _ (Ys _))))) (Au (AF ((hd++([(Av.mk (decide (((Ar v hb).fKind)=6)) ((Ar v hb).fN) (decide (((Ar v hb).fKind)=6)) ([]:Ae) false)]:List Av),(A7.mk (max ha.fDepth ((hd.length:Int)+1)) (IntKind.wrap .i64 (ha.fBytes+hg)) (ha.fOutside||((decide (((Ar v hb).fKind)=3))&&(!(ov (Br ((Ar v hb).fInt)))))) (ha.fLong||(decide (200<(((Ar v hb).fStr).length:Int)))))),h9) g5 (AD.c rfl (AD.c rfl (AD.c5 rfl rfl rfl rfl rfl AD.nil))) (sC (sC (sC (sS (sS sN))))))))))))
      ·refine A3 (AS (Aj (wm rfl (ob gy λhw g6 g7=>Du (Hr:=[.blk hf (Ac (Ar v hb)) 89,.blk b2 [Ao (max ha.fDepth ((hd.length:Int)+1)),Ao (IntKind.wrap .i64 (ha.fBytes+hg)),rB (ha.fOutside||((decide (((Ar v hb).fKind)=3))&&(!(ov (Br ((Ar v hb).fInt)))))),rB (ha.fLong||(decide (200<(((Ar v hb).fStr).length:Int))))] 128,.blk b1 [Ao 0,Ao 0,rB false,rB false] 128]) Tryz.call114 (Rn F he hd hw g6) rfl ((As (i:=3) rfl).trans (Yy _ (Ys _))) rfl ?_))));rintro _ _ ⟨hz,rfl,rfl⟩;refine wa rfl (B5 (wm rfl (wv (BY (ys:=hw) (enc:=At) (i:=0) Ht rfl rfl) (wv (BP rfl rfl) (Aw (cz g7 rfl (λg8 g9=>?_) (λg8 gA=>?_)))))))
       ·refine Ap (ck g9 λgB gC=>G0 (H1:=[.row hz 152 5 (AG At hw),.blk hf (Ac (Ar v hb)) 89,.blk b2 [Ao (max ha.fDepth ((hd.length:Int)+1)),Ao (IntKind.wrap .i64 (ha.fBytes+hg)),rB (ha.fOutside||((decide (((Ar v hb).fKind)=3))&&(!(ov (Br ((Ar v hb).fInt)))))),rB (ha.fLong||(decide (200<(((Ar v hb).fStr).length:Int))))] 128,.blk b1 [Ao (max ha.fDepth ((hd.length:Int)+1)),Ao (IntKind.wrap .i64 (ha.fBytes+hg)),rB (ha.fOutside||((decide (((Ar v hb).fKind)=3))&&(!(ov (Br ((Ar v hb).fInt)))))),rB (ha.fLong||(decide (200<(((Ar v hb).fStr).length:Int))))] 128]) [3,5,7] [⟨[],Ao hb,0⟩,⟨[0],Ao (hb+1),0⟩,⟨[],Bm [Ao (max ha.fDepth ((hd.length:Int)+1)),Ao (IntKind.wrap .i64 (ha.fBytes+hg)),rB (ha.fOutside||((decide (((Ar v hb).fKind)=3))&&(!(ov (Br ((Ar v hb).fInt)))))),rB (ha.fLong||(decide (200<(((Ar v hb).fStr).length:Int))))],1⟩,⟨[1],Ao (hb+1),0⟩,⟨[2],rv undef,2⟩,⟨[],rB true,0⟩] (rle [(5,_),(2,[.row hz 152 5 (AG At hw),.blk hf (Ac (Ar v hb)) 89,.blk b2 [Ao (max ha.fDepth ((hd.length:Int)+1)),Ao (IntKind.wrap .i64 (ha.fBytes+hg)),rB (ha.fOutside||((decide (((Ar v hb).fKind)=3))&&(!(ov (Br ((Ar v hb).fInt)))))),rB (ha.fLong||(decide (200<(((Ar v hb).fStr).length:Int))))] 128,.blk b1 [Ao (max ha.fDepth ((hd.length:Int)+1)),Ao (IntKind.wrap .i64 (ha.fBytes+hg)),rB (ha.fOutside||((decide (((Ar v hb).fKind)=3))&&(!(ov (Br ((Ar v hb).fInt)))))),rB (ha.fLong||(decide (200<(((Ar v hb).fStr).length:Int))))] 128])]) [2,4,3] ?_ ?_)
        ·refine oq (Am rfl) (oq (BQ rfl rfl gB) (of (B2 (i:=2) I1 Ev rfl rfl rfl rfl) (oq (Az rfl) (J5 rfl (Oz (CX (i:=3) Ev rfl rfl rfl (BI.c rfl) rfl rfl (cs':=[Ao (max ha.fDepth ((hd.length:Int)+1)),Ao (IntKind.wrap .i64 (ha.fBytes+hg)),rB (ha.fOutside||((decide (((Ar v hb).fKind)=3))&&(!(ov (Br ((Ar v hb).fInt)))))),rB (ha.fLong||(decide (200<(((Ar v hb).fStr).length:Int))))]) rfl (H':=[.row hz 152 5 (AG At hw),.blk hf (Ac (Ar v hb)) 89,.blk b2 [Ao (max ha.fDepth ((hd.length:Int)+1)),Ao (IntKind.wrap .i64 (ha.fBytes+hg)),rB (ha.fOutside||((decide (((Ar v hb).fKind)=3))&&(!(ov (Br ((Ar v hb).fInt)))))),rB (ha.fLong||(decide (200<(((Ar v hb).fStr).length:Int))))] 128,.blk b1 [Ao (max ha.fDepth ((hd.length:Int)+1)),Ao (IntKind.wrap .i64 (ha.fBytes+hg)),rB (ha.fOutside||((decide (((Ar v hb).fKind)=3))&&(!(ov (Br ((Ar v hb).fInt)))))),rB (ha.fLong||(decide (200<(((Ar v hb).fStr).length:Int))))] 128]) rfl)) ?_))));refine oq (Az rfl) ?_;exact Co
        refine AS (A1 (A6 (Af (Af (Bj ?_)))));have gD:=BB gC hx hy;refine A6 (Af (HT ?_));obtain rfl:=A2 gD;exact A0 (WT SB (AP rfl) (HB (i:=3) I1 Ev rfl rfl rfl) (AP rfl)) (sS (sS (sS (sS sN)))) ⟨rfl,rfl⟩
       ·exact A3 (AK (Ce (H2:=[.blk b2 [Ao (max ha.fDepth ((hd.length:Int)+1)),Ao (IntKind.wrap .i64 (ha.fBytes+hg)),rB (ha.fOutside||((decide (((Ar v hb).fKind)=3))&&(!(ov (Br ((Ar v hb).fInt)))))),rB (ha.fLong||(decide (200<(((Ar v hb).fStr).length:Int))))] 128,.blk b1 [Ao 0,Ao 0,rB false,rB false] 128,.row hz 152 5 (AG At hw),.blk hf (Ac (Ar v hb)) 89]) ((As (i:=2) rfl).trans (Yy _ ((As (i:=2) rfl).trans (Yy _ (Ys _))))) (Au (AF ((hw,(A7.mk (max ha.fDepth ((hd.length:Int)+1)) (IntKind.wrap .i64 (ha.fBytes+hg)) (ha.fOutside||((decide (((Ar v hb).fKind)=3))&&(!(ov (Br ((Ar v hb).fInt)))))) (ha.fLong||(decide (200<(((Ar v hb).fStr).length:Int)))))),hz) gA (AD.c rfl (AD.c rfl (AD.c5 rfl rfl rfl rfl rfl AD.nil))) (sC (sC (sC (sS sN))))))))
   ·rintro⟨⟨h6,h7⟩,h8⟩ h2;refine Cn (l':=[(0,Bz 4 (AG Ac v)),(3,rP b1 0),(5,rP b2 0),(6,rv h8),(11,Bz 4 (AG Ac v)),(12,Ao (v.length:Int)),(13,Ao hb)]) (H':=[.blk b2 (AE h7) 128,.blk b1 [Ao 0,Ao 0,rB false,rB false] 128,.row h8 152 5 (AG At h6)]) rfl rfl ?_;replace h2:DB hb h6 h7=some h4:=h2;unfold DB at h2;refine Ak (ck h2 λgE gF=>wv (BQ rfl rfl gE) (wm rfl (An ?_)));have gG:=BD gF hx;exact Au (AF (hD,(h6,hb+1,h7),h8) ⟨gG,YI _⟩ (AD.c rfl (AD.c rfl (AD.c5 rfl rfl rfl rfl rfl AD.nil))) (sC (sC (sC sN))))
  ·refine BJ (AB ?_);have gH:=CY hH hx hy;exact AB (B4 (AF (ha,()) gH (AD.c rfl (AD.c rfl AD.nil)) (sC (sC (sS sN)))))
 ·rintro⟨hq,⟨⟩⟩ h3;refine Eh (l':=[(3,rP b1 0),(5,rP b2 0)]) (H':=[.blk b2 (AE hq) 128,.blk b1 [Ao 0,Ao 0,rB false,rB false] 128]) rfl rfl ?_;replace h3:Ji hq=some r:=h3;unfold Ji at h3;refine Bt (AS (Ap (G0 (H1:=[.blk b2 (AE hq) 128,.blk b1 (AE hq) 128]) [3,5] [⟨[],Bm (AE hq),1⟩,⟨[],Ao 0,0⟩,⟨[0],rv undef,2⟩,⟨[],rB false,0⟩] (rle [(3,_),(2,[.blk b2 (AE hq) 128,.blk b1 (AE hq) 128])]) [2,4,3] ?_ ?_)))
  ·refine of (B2 (i:=0) I1 Ev rfl rfl rfl rfl) (oq (Az rfl) (J5 rfl (Oz (CX (i:=1) Ev rfl rfl rfl (BI.c rfl) rfl rfl (cs':=[Ao hq.fDepth,Ao hq.fBytes,rB hq.fOutside,rB hq.fLong]) rfl (H':=[.blk b2 (AE hq) 128,.blk b1 (AE hq) 128]) rfl)) ?_));refine oq (Az rfl) ?_;exact Co
  refine AS (A1 (HT ?_));obtain rfl:=A2 h3;exact A0 (WT SB (AP rfl) (HB (i:=1) I1 Ev rfl rfl rfl) (AP rfl)) (sS (sS sN)) ⟨rfl,rfl⟩
theorem Ly (F:Nat)(v:(List Aa))(r:Int)(h:II F v=some r):Fn Tryz.prog GE 63 [Bz 4 (AG Ac v)] [] (λR H=>R=Ao r∧H=[]):=by
 refine enter (n:=42) Tryz.func63 rfl Tryz.ntmps63 rfl (λw Z=>?_);unfold II at h;refine Aj (wa rfl (B5 (wm rfl (ob h λr1 e3 h2=>HX Tryz.call88 (Np F v r1 e3) rfl (wm rfl (wv (AI rfl rfl) (wv (AI rfl rfl) (wv (AI rfl rfl) (Cl (cs:=[Ao 0,Ao 0,rB false,rB false]) NS rfl rfl (λb4=>?_))))))))));refine wa rfl (By (i:=0) Ev rfl rfl rfl (BI.c rfl) rfl rfl (cs':=[Ao r1.2.1.fDepth,Ao r1.2.1.fBytes,rB r1.2.1.fOutside,rB r1.2.1.fLong]) rfl (H':=[.blk b4 (AE r1.2.1) 128]) rfl (wa rfl (Aw (Ap (AO (AH [(0,Bz 4 (AG Ac v)),(4,rP b4 0),(12,rB ((!r1.2.2)||(!decide (r1.1=(v.length:Int)))))] [.blk b4 (AE r1.2.1) 128] ?_ ?_))))))
 ·refine Ak (wm rfl (wv (BK rfl) (wm rfl (AR (!r1.2.2) (λc5=>?_) (λc5=>?_)))))
  ·refine wf c5 (wf c5 (wf c5 (wf c5 (wv (r:=rB true) (Ax rfl c5 rfl) (wa rfl (An ?_))))));exact Dg c5
  ·refine wo c5 (wm rfl (wo c5 (wm rfl (wo c5 (wv (BO (ys:=v) (enc:=Ac) C1 rfl) (wo c5 (wv (D2 rfl rfl) (It rfl c5 rfl (wa rfl (An ?_))))))))));exact Dg c5
 refine cz h2 rfl (λc6 h7=>?_) (λc6 h8=>?_)
 ·refine Aj (wa rfl (Aw (A1 (A6 (Af ?_)))));obtain rfl:=A2 h7;exact A0 (BX UE (AP rfl)) (sS sN) ⟨rfl,rfl⟩
 ·refine Aj (vF DS rfl Gs (vL 0 Qd rfl (wa rfl (Aw (cz h8 rfl (λc9 he=>?_) (λc9 hf=>?_))))))
  ·refine Aj (wa rfl (Aw (A1 (A6 (Af ?_)))));obtain rfl:=A2 he;exact A0 (BX UE (AP rfl)) (sS sN) ⟨rfl,rfl⟩
  ·refine AH [(24,rB (r1.2.1.fLong||((decide (200<(v.length:Int)))||((decide (8<r1.2.1.fDepth))||(decide (4000<r1.2.1.fBytes))))))] [] ?_ ?_
   ·refine Ak (vF DS rfl Gs (vL 0 Qd rfl (wm rfl (AR (r1.2.1.fLong) (λha=>?_) (λha=>?_)))))
    ·refine wf ha (wf ha (wf ha (wv (r:=rB true) (Ax rfl ha rfl) (wm rfl (wz rfl rfl (wz rfl rfl (wz rfl rfl (wv (r:=rB true) (Ax (b:=true) rfl rfl rfl) (wm rfl (wz rfl rfl (wz rfl rfl (wz rfl rfl (wv (r:=rB true) (Ax (b:=true) rfl rfl rfl) (wa rfl (An ?_)))))))))))))));exact Dg ha
    ·refine wo ha (wm rfl (wo ha (wv (BO (ys:=v) (enc:=Ac) C1 rfl) (wo ha (wv (Et rfl rfl) (It rfl ha rfl (wm rfl (AR (decide (200<(v.length:Int))) (λhb=>?_) (λhb=>?_)))))))))
     ·refine wf hb (wf hb (wf hb (wv (r:=rB true) (Ax rfl hb rfl) (wm rfl (wz rfl rfl (wz rfl rfl (wz rfl rfl (wv (r:=rB true) (Ax (b:=true) rfl rfl rfl) (wa rfl (An ?_))))))))));exact Dg (And.intro ha hb)
     ·refine wo hb (vF DS rfl C2 (wo hb (vL 0 De rfl (wo hb (wv (Et rfl rfl) (It rfl hb rfl (wm rfl (AR (decide (8<r1.2.1.fDepth)) (λhd=>?_) (λhd=>?_)))))))))
      ·refine wf hd (wf hd (wf hd (wv (r:=rB true) (Ax rfl hd rfl) (wa rfl (An ?_)))));exact Dg (And.intro ha (And.intro hb hd))
      ·refine wo hd (vF DS rfl C2 (wo hd (vL 0 De rfl (wo hd (wv (Et rfl rfl) (It rfl hd rfl (wa rfl (An ?_))))))));exact Dg (And.intro ha (And.intro hb hd))
   refine cz hf rfl (λhg hh=>?_) (λhg hi=>?_)
   ·refine Aj (wa rfl (Aw (A1 (A6 (Af ?_)))));obtain rfl:=A2 hh;exact A0 (BX UE (AP rfl)) sN ⟨rfl,rfl⟩
   ·refine A3 (AK (AS (Aj (wa rfl (Aw (A1 ?_))))));obtain rfl:=A2 hi;exact A0 (BX UE (AP rfl)) sN ⟨rfl,rfl⟩
theorem Ps (F:Nat)(v:(List Aa))(r:(List Aa)×Int)(h:Jm F v=some r):Fn Tryz.prog GE 71 [Bz 4 (AG Ac v)] [] (λR H=>R=C0 [Bz 4 (AG Ac r.1),Ao r.2]∧H=[]):=by
 refine enter (n:=11) Tryz.func71 rfl Tryz.ntmps71 rfl (λw Z=>?_);unfold Jm at h;refine Aj (wa rfl (wa rfl (Aw (Ap (Aj (wm rfl (ob h λr1 e3 h2=>HX Tryz.call63 (Ly F v r1 e3) rfl (wa rfl (B5 (wm rfl (wv (D2 rfl rfl) (Aw (cz h2 rfl (λc4 h5=>?_) (λc4 h6=>?_))))))))))))))
 ·refine Aj (wm rfl (wa rfl (wa rfl (Aw (A1 (Af (WK.up (d:=2) (r:=Bz 4 (AG Ac ([]:List Aa))) rfl (Up.le (Ks.nil _)) ?_)))))));obtain rfl:=A2 h5;exact A0 (Ie Tryz.results71 (AP rfl) (AP rfl)) sN ⟨rfl,rfl⟩
 ·refine A3 (AS (Aj (wm rfl (wa rfl (wa rfl (Aw (A1 ?_)))))));obtain rfl:=A2 h6;exact A0 (Ie Tryz.results71 (AP rfl) (AP rfl)) sN ⟨rfl,rfl⟩
end Go.Proofs.YtmmbdclkpijkpaaGreatDoor.Q
namespace Go.Proofs.YtmmbdclkpijkpaaGreatDoor
open Go
set_option linter.unusedVariables false
def CD (s:Ae)(ha:Int)(hb:Ae):Option (Stp (Int×Ae) (Out (Ae) (Ae))):=
 Bw (decide (ha<(s.length:Int))) (Bc (Dt ha (s.length:Int))<|Bw (((decide ((Be s ha)=34))||(decide ((Be s ha)=92)))) (Bc (Ea 1 (hb.length+1))<|Bc (BT .u8 92)<|IZ (hb++[UInt8.ofNat (Int.toNat 92)]) λhd=>Bc (Ea 1 (hd.length+1))<|Bc (BT .u8 (Be s ha))<|IZ (hd++[UInt8.ofNat (Int.toNat (Be s ha))]) λhe=>Bc (BT .i64 (ha+1))<|some (.next (ha+1,he))) (Bc (Ea 1 (hb.length+1))<|Bc (BT .u8 (Be s ha))<|IZ (hb++[UInt8.ofNat (Int.toNat (Be s ha))]) λhf=>Bc (BT .i64 (ha+1))<|some (.next (ha+1,hf)))) (some (.out (.go hb)))
def DV (ha:Ae):Option (Ae):=
 Bc (Ea 1 (ha.length+1))<|IZ (ha++[UInt8.ofNat (Int.toNat 34)]) λhb=>some hb
def IH (F:Nat)(l:Ae)(s:Ae):Option (Ae):=
 Bc (Ea 1 (l.length+1))<|Bc (BT .u8 34)<|IZ (l++[UInt8.ofNat (Int.toNat 34)]) λr6=>B0 (Cs (λσ=>CD s σ.1 σ.2) F (0,r6)) (BN λν=>DV ν)
def HY (F:Nat)(hm:Ae→(List Aa)→Bool→Ae→Aa→Option (Bool×Bool×Ae))(ha:(List Aa)→Bool→Ae→Aa→Option (Bool×Ae))(l:Ae)(v:(List Aa)):Option (Ae):=
 Bc (Dt 0 (v.length:Int))<|Bw (decide (((Ar v 0).fKind)=1)) (Bc (Ea 1 (l.length+([110,117,108,108]:Ae).length))<|IZ (l++([110,117,108,108]:Ae)) λhe=>some he) (Bw (decide (((Ar v 0).fKind)=2)) (Bc (Dt ((Ar v 0).fInt) (([([102,97,108,115,101]:Ae),([116,114,117,101]:Ae)]:List Ae).length:Int))<|Bc (Ea 1 (l.length+(Ar ([([102,97,108,115,101]:Ae),([116,114,117,101]:Ae)]:List Ae) ((Ar v 0).fInt)).length))<|IZ (l++(Ar ([([102,97,108,115,101]:Ae),([116,114,117,101]:Ae)]:List Ae) ((Ar v 0).fInt))) λhf=>some hf) (Bw (decide (((Ar v 0).fKind)=3)) (Bc (BT .i64 ((Ar v 0).fInt))<|Bc (Ea 1 (l.length+(Lib.itoa ((Ar v 0).fInt)).length))<|IZ (l++(Lib.itoa ((Ar v 0).fInt))) λhg=>some hg) (Bw (decide (((Ar v 0).fKind)=4)) (B0 (IH F l ((Ar v 0).fStr)) λhh=>some hh) (Bw (decide (((Ar v 0).fKind)=6)) (Bc (Dt 0 (([123,125]:Ae).length:Int))<|Bc (Ea 1 (l.length+1))<|Bc (BT .u8 (Be ([123,125]:Ae) 0))<|IZ (l++[UInt8.ofNat (Int.toNat (Be ([123,125]:Ae) 0))]) λhi=>B0 (ha v true hi (Ar v 0)) λhb=>Bc (Dt 1 (([123,125]:Ae).length:Int))<|Bc (Ea 1 (hb.2.length+1))<|Bc (BT .u8 (Be ([123,125]:Ae) 1))<|IZ (hb.2++[UInt8.ofNat (Int.toNat (Be ([123,125]:Ae) 1))]) λhj=>some hj) (Bc (Dt 0 (([91,93]:Ae).length:Int))<|Bc (Ea 1 (l.length+1))<|Bc (BT .u8 (Be ([91,93]:Ae) 0))<|IZ (l++[UInt8.ofNat (Int.toNat (Be ([91,93]:Ae) 0))]) λhk=>B0 (ha v true hk (Ar v 0)) λhd=>Bc (Dt 1 (([91,93]:Ae).length:Int))<|Bc (Ea 1 (hd.2.length+1))<|Bc (BT .u8 (Be ([91,93]:Ae) 1))<|IZ (hd.2++[UInt8.ofNat (Int.toNat (Be ([91,93]:Ae) 1))]) λhl=>some hl)))))
def Jf (F:Nat)(ha:Ae→(List Aa)→Option (Ae))(key:Ae)(x:(List Aa))(first:Bool)(l:Ae)(c:Aa):Option (Bool×Bool×Ae):=
 Bw (!first) (Bc (Ea 1 (l.length+1))<|Bc (BT .u8 44)<|IZ (l++[UInt8.ofNat (Int.toNat 44)]) λr8=>Bw (decide (c.fKind=6)) (B0 (IH F r8 key) λhb=>Bc (Ea 1 (hb.length+1))<|Bc (BT .u8 58)<|IZ (hb++[UInt8.ofNat (Int.toNat 58)]) λhe=>B0 (ha he x) λhf=>some (true,false,hf)) (B0 (ha r8 x) λhg=>some (true,false,hg))) (Bw (decide (c.fKind=6)) (B0 (IH F l key) λhd=>Bc (Ea 1 (hd.length+1))<|Bc (BT .u8 58)<|IZ (hd++[UInt8.ofNat (Int.toNat 58)]) λhh=>B0 (ha hh x) λhi=>some (true,false,hi)) (B0 (ha l x) λhj=>some (true,false,hj)))
def CJ (F:Nat)(v:(List Aa))(c:Aa)(hj:Ae→(List Aa)→Bool→Ae→Aa→Option (Bool×Bool×Ae))(ha:Int)(hb:Int)(hh:Bool)(hi:Ae):Option (Stp (Int×Int×Bool×Ae) (Out (Bool×Ae) (Bool×Ae))):=
 Bw (decide (hb<((Ar v 0).fN))) (Bw (decide (((Ar v 0).fKind)=6)) (Bc (Dt ha (v.length:Int))<|Bc (BT .i64 (ha+1))<|Bc (HJ (ha+1) (v.length:Int))<|B0 (Hu F (List.drop (Int.toNat (ha+1)) v)) λhd=>Bc (BT .i64 ((ha+1)+hd.1))<|Bc (HJ (ha+1) ((ha+1)+hd.1))<|Bc (HJ ((ha+1)+hd.1) (v.length:Int))<|B0 (hj ((Ar v ha).fStr) (List.take (Int.toNat ((ha+1)+hd.1)-Int.toNat (ha+1)) (List.drop (Int.toNat (ha+1)) v)) hh hi c) λhe=>Bw (!he.1) (some (.out (.ret (he.2.1,he.2.2)))) (Bc (BT .i64 (hb+1))<|some (.next ((ha+1)+hd.1,hb+1,he.2.1,he.2.2)))) (Bc (HJ ha (v.length:Int))<|B0 (Hu F (List.drop (Int.toNat ha) v)) λhf=>Bc (BT .i64 (ha+hf.1))<|Bc (HJ ha (ha+hf.1))<|Bc (HJ (ha+hf.1) (v.length:Int))<|B0 (hj ([]:Ae) (List.take (Int.toNat (ha+hf.1)-Int.toNat ha) (List.drop (Int.toNat ha) v)) hh hi c) λhg=>Bw (!hg.1) (some (.out (.ret (hg.2.1,hg.2.2)))) (Bc (BT .i64 (hb+1))<|some (.next (ha+hf.1,hb+1,hg.2.1,hg.2.2))))) (some (.out (.go (hh,hi))))
def Gc (ha:Bool)(hb:Ae):Option (Bool×Ae):=
 some (ha,hb)
def GB (F:Nat)(ha:Ae→(List Aa)→Bool→Ae→Aa→Option (Bool×Bool×Ae))(v:(List Aa))(first:Bool)(l:Ae)(c:Aa):Option (Bool×Ae):=
 Bc (Dt 0 (v.length:Int))<|B0 (Cs (λσ=>CJ F v c ha σ.1 σ.2.1 σ.2.2.1 σ.2.2.2) F (1,0,first,l)) (BN λν=>Gc ν.1 ν.2)
mutual
def Ex:Nat→Ae→(List Aa)→Option (Ae)
 | 0,_,_=>none
 | nn+1,l,v=>HY nn (DF nn) (EJ nn) l v
def DF:Nat→Ae→(List Aa)→Bool→Ae→Aa→Option (Bool×Bool×Ae)
 | 0,_,_,_,_,_=>none
 | nn+1,key,x,first,l,c=>Jf nn (Ex nn) key x first l c
def EJ:Nat→(List Aa)→Bool→Ae→Aa→Option (Bool×Ae)
 | 0,_,_,_,_=>none
 | nn+1,v,first,l,c=>GB nn (DF nn) v first l c
end
def Jj (F:Nat)(v:(List Aa)):Option (Ae×Int):=
 B0 (II F v) λr1=>Bw (!decide (r1=0)) (some (([]:Ae),r1)) (B0 (Ex F ([]:Ae) v) λr8=>Bc (decide (0<r8.length))<|some (r8,0))
end Go.Proofs.YtmmbdclkpijkpaaGreatDoor
namespace Go.Proofs.YtmmbdclkpijkpaaGreatDoor.Q
open Go Go.RowKit
set_option linter.unusedVariables false
set_option linter.unusedSimpArgs false
set_option maxRecDepth 100000
set_option maxHeartbeats 4000000
theorem Lu (F:Nat)(ha:Nat)(hk:Value)(l:Ae)(s:Ae)(r:Ae)(h:IH F l s=some r):Fn Tryz.prog GE 90 [rP ha 0,rS s] [.bld 104 5 ha hk l] (λR H=>∃w0b:Value,R=rv (.tuple #[])∧H=[.bld 104 5 ha w0b r]):=by
 refine enter (n:=32) Tryz.func90 rfl Tryz.ntmps90 rfl (λw Z=>?_);unfold IH at h;refine Aj (wm rfl (ck h λg1 h2=>ck h2 λg3 h4=>BL (rs:=[rP ha 0,rI .u8 34]) (Hin:=[.bld 104 5 ha hk l]) (Hr:=[]) KH rfl (Ys _) (BV ha hk l 34 g1 g3) rfl ?_));rintro _ _ ⟨v5,rfl,rfl⟩;refine bd h4 λr6 e8 h7=>?_;rw[← e8];refine Aw (Ap (Aj (wm rfl (wv (Bp CA rfl) (wv (r:=Ao 0) (Am rfl) (Aw (AO (ob h7 λhq hr hs=>BH (S:=Nat×(Int×Ae)×(Value)) (V:=(Ae)×(Value)) 0 (λσ=>Cs (λσ=>CD s σ.1 σ.2) σ.1 σ.2.1=some hq) (λσ=>[(0,rP ha 0),(1,rS s),(8,Ao (s.length:Int)),(9,Ao σ.2.1.1)]) (λσ=>[.bld 104 5 ha σ.2.2 σ.2.1.2]) (λσ=>σ.1) (F,(0,r6),v5) hr (AD.c rfl (AD.c rfl (AD.c rfl (AD.c rfl AD.nil)))) (sC sN) (λσ=>DV σ.1=some r) (λσ=>[(0,rP ha 0)]) (λσ=>[.bld 104 5 ha σ.2 σ.1]) ?_ ?_))))))))
 ·rintro⟨gf,⟨hb,he⟩,hf⟩ ht;refine Cn (l':=[(0,rP ha 0),(1,rS s),(8,Ao (s.length:Int)),(9,Ao hb)]) (H':=[.bld 104 5 ha hf he]) rfl rfl ?_;obtain⟨hn,rfl,t127,hg,hl⟩:=DY ht;replace hg:CD s hb he=some t127:=hg;unfold CD at hg;refine Aj (wv (E1 rfl rfl) (Aw (Ap (cz hg rfl (λhu hw=>?_) (λhu hx=>?_)))))
  ·refine A3 (AS (Ap (AO (Aj (wm rfl (wa rfl (Aw (Ap (ck hw λhh hy=>AH [(0,rP ha 0),(1,rS s),(4,Ao hb),(8,Ao (s.length:Int)),(9,Ao hb),(21,rB ((decide ((Be s hb)=34))||(decide ((Be s hb)=92))))] [.bld 104 5 ha hf he] ?_ ?_)))))))))
   ·refine Ak (wm rfl (wm rfl (wv (Bq CA rfl rfl hh) (wv (BP rfl rfl) (wm rfl (AR (decide ((Be s hb)=34)) (λhd=>?_) (λhd=>?_)))))))
    ·refine wf hd (wf hd (wf hd (wf hd (wv (r:=rB true) (Ax rfl hd rfl) (An ?_)))));exact Dg hd
    ·refine wo hd (wm rfl (wo hd (wm rfl (wo hd (wv (Bq CA rfl rfl hh) (wo hd (wv (BP rfl rfl) (It rfl hd rfl (An ?_)))))))));exact Dg hd
   refine cz hy rfl (λhz h0=>?_) (λhz h1=>?_)
   ·refine Ak (wm rfl (ck h0 λh3 h5=>ck h5 λh6 h8=>BL (rs:=[rP ha 0,rI .u8 92]) (Hin:=[.bld 104 5 ha hf he]) (Hr:=[]) KH rfl (Ys _) (BV ha hf he 92 h3 h6) rfl ?_));rintro _ _ ⟨ho,rfl,rfl⟩;refine bd h8 λhp h9 hA=>?_;rw[← h9];refine Aw (Ak (wm rfl (wm rfl (wm rfl (wv (Bq CA rfl rfl hh) (ck hA λhB hC=>ck hC λhD hE=>BL (rs:=[rP ha 0,rI .u8 (Be s hb)]) (Hin:=[.bld 104 5 ha ho hp]) (Hr:=[]) KH rfl (Ys _) (BV ha ho hp (Be s hb) hB hD) rfl ?_))))));rintro _ _ ⟨hG,rfl,rfl⟩;refine bd hE λhH hI hJ=>?_;rw[← hI];refine An (AK (AS (Ak (ck hJ λhK hL=>wv (BQ rfl rfl hK) (wm rfl (An ?_))))));have hN:=BD hL hl;exact Au (AF (hn,(hb+1,hH),hG) ⟨hN,YI _⟩ (AD.c rfl (AD.c rfl (AD.c rfl (AD.c rfl AD.nil)))) (sC sN))
   ·refine A3 (AS (Ak (wm rfl (wm rfl (wm rfl (wv (Bq CA rfl rfl hh) (ck h1 λhO hP=>ck hP λhQ hR=>BL (rs:=[rP ha 0,rI .u8 (Be s hb)]) (Hin:=[.bld 104 5 ha hf he]) (Hr:=[]) KH rfl (Ys _) (BV ha hf he (Be s hb) hO hQ) rfl ?_)))))));rintro _ _ ⟨hS,rfl,rfl⟩;refine bd hR λhT hU hV=>?_;rw[← hU];refine An (AK (AS (Ak (ck hV λhW hX=>wv (BQ rfl rfl hW) (wm rfl (An ?_))))));have hY:=BD hX hl;exact Au (AF (hn,(hb+1,hT),hS) ⟨hY,YI _⟩ (AD.c rfl (AD.c rfl (AD.c rfl (AD.c rfl AD.nil)))) (sC sN))
  ·refine BJ (AB ?_);have hZ:=CY hx hl hs;exact AB (B4 (AF (he,hf) hZ (AD.c rfl AD.nil) (sC sN)))
 ·rintro⟨hi,hm⟩ hj;refine Eh (l':=[(0,rP ha 0)]) (H':=[.bld 104 5 ha hm hi]) rfl rfl ?_;replace hj:DV hi=some r:=hj;unfold DV at hj;refine Bt (AS (Ak (wm rfl (ck hj λga gb=>BL (rs:=[rP ha 0,rI .u8 34]) (Hin:=[.bld 104 5 ha hm hi]) (Hr:=[]) KH rfl (Ys _) (BV ha hm hi 34 ga g3) rfl ?_))));rintro _ _ ⟨gc,rfl,rfl⟩;refine bd gb λgg gd ge=>?_;rw[← gd];refine An ?_;obtain rfl:=A2 ge;exact EZ (Rz Tryz.results90) (sC sN) ⟨gc,rfl,rfl⟩
theorem Rg (F:Nat)(hl:Ae→(List Aa)→Bool→Ae→Aa→Option (Bool×Bool×Ae))(hm:(List Aa)→Bool→Ae→Aa→Option (Bool×Ae))(g5:(∀(hd:Nat) (he:Nat) (ha:Nat) (hb:Value) (hf:Nat) (key:Ae) (x:(List Aa)) (first:Bool) (l:Ae) (c:Aa) (r:Bool×Bool×Ae),hl key x first l c=some r→Fn Tryz.prog GE 93 [rS key,Bz 4 (AG Ac x),rP hd 0,rP he 0,rP hf 0] [.blk hd [rB first] 4,.blk he [rP ha 0] 101,.bld 104 5 ha hb l,.blk hf (Ac c) 89] (λR H=>∃w3b:Value,R=rB r.1∧H=[.blk hd [rB r.2.1] 4,.blk he [rP ha 0] 101,.bld 104 5 ha w3b r.2.2,.blk hf (Ac c) 89])))(hn:(∀(hd:Nat) (he:Nat) (ha:Nat) (hb:Value) (hf:Nat) (v:(List Aa)) (first:Bool) (l:Ae) (c:Aa) (r:Bool×Ae),hm v first l c=some r→Fn Tryz.prog GE 92 [Bz 4 (AG Ac v),rv (.func (.func 93) #[] #[(.pointer (some ⟨hd,0,none⟩)),(.pointer (some ⟨he,0,none⟩)),(.pointer (some ⟨hf,0,none⟩))])] [.blk hd [rB first] 4,.blk he [rP ha 0] 101,.bld 104 5 ha hb l,.blk hf (Ac c) 89] (λR H=>∃w1_1b:Value,R=rv (.tuple #[])∧H=[.blk hd [rB r.1] 4,.blk he [rP ha 0] 101,.bld 104 5 ha w1_1b r.2,.blk hf (Ac c) 89])))(ha:Nat)(hb:Value)(l:Ae)(v:(List Aa))(r:Ae)(h:HY F hl hm l v=some r):Fn Tryz.prog GE 64 [rP ha 0,Bz 4 (AG Ac v)] [.bld 104 5 ha hb l] (λR H=>∃w0b:Value,R=rv (.tuple #[])∧H=[.bld 104 5 ha w0b r]):=by
 refine enter (n:=52) Tryz.func64 rfl Tryz.ntmps64 rfl (λw Z=>?_);unfold HY at h;refine Aj (SK rfl (BW rfl) rfl (λb1=>?_));refine B5 (wm rfl (ck h λg2 h3=>wv (Cv (enc:=Ac) (ys:=v) C1 D7 rfl rfl g2) (wv (CW Re D7 rfl rfl rfl) (Cl (cs:=[Ao 0,Ao 0,rS ([]:Ae),Ao 0]) KG rfl rfl (λb4=>?_)))));refine By (i:=0) D7 rfl rfl rfl (BI.c rfl) rfl rfl (cs':=[Ao ((Ar v 0).fKind),Ao ((Ar v 0).fInt),rS ((Ar v 0).fStr),Ao ((Ar v 0).fN)]) rfl (H':=[.blk b4 (Ac (Ar v 0)) 89,.blk b1 [rP ha 0] 101,.bld 104 5 ha hb l]) rfl (B5 (vF BZ rfl Jb (vL 0 Jc rfl (Aw (AO (Aj (wv (BP rfl rfl) (wa rfl (Aw (cz h3 rfl (λc5 h6=>?_) (λc5 hq=>?_)))))))))))
 ·refine Ak (vL 1 DT rfl (ck h6 λg7 h8=>BL (rs:=[rP ha 0,rS ([110,117,108,108]:Ae)]) (Hin:=[.bld 104 5 ha hb l]) (Hr:=[.blk b4 (Ac (Ar v 0)) 89,.blk b1 [rP ha 0] 101]) Tryz.call89 rfl ((As (i:=2) rfl).trans (Yy _ (Ys _))) (Gz ha hb l ([110,117,108,108]:Ae) g7) rfl ?_));rintro _ _ ⟨v9,rfl,rfl⟩;refine bd h8 λg6 hr hs=>?_;rw[← hr];refine An (AK ?_);obtain rfl:=A2 hs;exact EZ (Rz Rb) (sC (sS (sS sN))) ⟨v9,rfl,rfl⟩
 ·refine Aj (wv (BP rfl rfl) (wa rfl (Aw (cz hq rfl (λht hu=>?_) (λht hw=>?_)))))
  ·refine ck hu λg16 hx=>HV (H1:=[.blk b4 (Ac (Ar v 0)) 89,.blk b1 [rP ha 0] 101,.bld 104 5 ha hb l]) 6 [2,4] [⟨[],rP ha 0,1⟩,⟨[],Bz 1 (AG eS ([([102,97,108,115,101]:Ae),([116,114,117,101]:Ae)]:List Ae)),0⟩,⟨[],rP b4 1,0⟩,⟨[2],Ao ((Ar v 0).fInt),1⟩,⟨[1,3],R3 [rS (Ar ([([102,97,108,115,101]:Ae),([116,114,117,101]:Ae)]:List Ae) ((Ar v 0).fInt))],0⟩,⟨[4],rS (Ar ([([102,97,108,115,101]:Ae),([116,114,117,101]:Ae)]:List Ae) ((Ar v 0).fInt)),0⟩] (rle [(7,_)]) [32,33,34,35,36,37,2,4] ?_ ?_
   ·refine of (AW (i:=1) DT rfl rfl rfl) (GO rfl (λH=>G3 (ys:=([([102,97,108,115,101]:Ae),([116,114,117,101]:Ae)]:List Ae)) (enc:=eS) (css:=[[rS ([102,97,108,115,101]:Ae)],[rS ([116,114,117,101]:Ae)]]) (xs:=[.const (.string ⟨#[102,97,108,115,101]⟩),.const (.string ⟨#[116,114,117,101]⟩)]) GA Df XF rfl rfl rfl ⟨Ja.one rfl (Up.refl _),Ja.one rfl (Up.refl _),trivial⟩ rfl ND rfl rfl) ?_);refine oq (A4 BZ rfl C2 rfl rfl) (of (AW (i:=0) De rfl rfl rfl) (oq (Cv (enc:=eS) (ys:=([([102,97,108,115,101]:Ae),([116,114,117,101]:Ae)]:List Ae)) GA Df rfl rfl g16) (oq (CF D8 rfl rfl) ?_)));exact Co
   refine ck hx λg18 hy=>BL (rs:=[rP ha 0,rS (Ar ([([102,97,108,115,101]:Ae),([116,114,117,101]:Ae)]:List Ae) ((Ar v 0).fInt))]) (Hin:=[.bld 104 5 ha hb l]) (Hr:=[.blk b4 (Ac (Ar v 0)) 89,.blk b1 [rP ha 0] 101]) Tryz.call89 rfl ((As (i:=2) rfl).trans (Yy _ (Ys _))) (Gz ha hb l (Ar ([([102,97,108,115,101]:Ae),([116,114,117,101]:Ae)]:List Ae) ((Ar v 0).fInt)) g18) rfl ?_;rintro _ _ ⟨v20,rfl,rfl⟩;refine bd hy λg8 hz h0=>?_;rw[← hz];refine An (AK ?_);obtain rfl:=A2 h0;exact EZ (Rz Rb) (sC (sS (sS sN))) ⟨v20,rfl,rfl⟩
  ·refine Aj (wv (BP rfl rfl) (wa rfl (Aw (cz hw rfl (λh1 h2=>?_) (λh1 h4=>?_)))))
   ·refine ck h2 λh5 h7=>HV (H1:=[.blk b4 (Ac (Ar v 0)) 89,.blk b1 [rP ha 0] 101,.bld 104 5 ha hb l]) 4 [2,4] [⟨[],rP ha 0,1⟩,⟨[],rP b4 1,0⟩,⟨[1],Ao ((Ar v 0).fInt),1⟩,⟨[2],rS (Lib.itoa ((Ar v 0).fInt)),0⟩] (rle [(5,_)]) [41,42,43,44,2,4] ?_ ?_
    ·refine of (AW (i:=1) DT rfl rfl rfl) (oq (A4 BZ rfl C2 rfl rfl) (of (AW (i:=0) De rfl rfl rfl) (GO rfl (λH=>J4 (rs:=[Ao ((Ar v 0).fInt)]) (r:=rS (Lib.itoa ((Ar v 0).fInt))) Tryz.call44 rfl (LR ((Ar v 0).fInt) h5) rfl) ?_)));exact Co
    refine ck h7 λh9 hA=>BL (rs:=[rP ha 0,rS (Lib.itoa ((Ar v 0).fInt))]) (Hin:=[.bld 104 5 ha hb l]) (Hr:=[.blk b4 (Ac (Ar v 0)) 89,.blk b1 [rP ha 0] 101]) Tryz.call89 rfl ((As (i:=2) rfl).trans (Yy _ (Ys _))) (Gz ha hb l (Lib.itoa ((Ar v 0).fInt)) h9) rfl ?_;rintro _ _ ⟨hB,rfl,rfl⟩;refine bd hA λg9 hC hD=>?_;rw[← hC];refine An (AK ?_);obtain rfl:=A2 hD;exact EZ (Rz Rb) (sC (sS (sS sN))) ⟨hB,rfl,rfl⟩
   ·refine Aj (wv (BP rfl rfl) (wa rfl (Aw (cz h4 rfl (λhE hG=>?_) (λhE hH=>?_)))))
    ·refine Ak (vL 1 DT rfl (vF BZ rfl Df (vL 0 D8 rfl (ob hG λhI hJ hK=>Du (Hr:=[.blk b4 (Ac (Ar v 0)) 89,.blk b1 [rP ha 0] 101]) Tryz.call90 (Lu F ha hb l ((Ar v 0).fStr) hI hJ) rfl ((As (i:=2) rfl).trans (Yy _ (Ys _))) rfl ?_))));rintro _ _ ⟨hL,rfl,rfl⟩;refine An (AK ?_);obtain rfl:=A2 hK;exact EZ (Rz Rb) (sC (sS (sS sN))) ⟨hL,rfl,rfl⟩
    ·refine Aj (wv (r:=rS ([91,93]:Ae)) (Az rfl) (Aw (Ap (Aj (vF BZ rfl Jb (vL 0 Jc rfl (wv (BP rfl rfl) (Aw (cz hH rfl (λhN hO=>?_) (λhN hP=>?_))))))))))
     ·refine Ak (wv (r:=rS ([123,125]:Ae)) (Az rfl) (Aw (Ap (ck hO λhQ hR=>HV (H1:=[.blk b4 (Ac (Ar v 0)) 89,.blk b1 [rP ha 0] 101,.bld 104 5 ha hb l]) 3 [1,2,4,5] [⟨[],rP ha 0,1⟩,⟨[],rS ([123,125]:Ae),0⟩,⟨[1],rI .u8 (Be ([123,125]:Ae) 0),0⟩] (rle [(4,_)]) [15,16,17,1,2,4,5] ?_ ?_))))
      ·refine of (AW (i:=1) DT rfl rfl rfl) (oq (Am rfl) (oq (Bq CA rfl rfl hQ) ?_));exact Co
      refine ck hR λhS hT=>ck hT λhU hV=>BL (rs:=[rP ha 0,rI .u8 (Be ([123,125]:Ae) 0)]) (Hin:=[.bld 104 5 ha hb l]) (Hr:=[.blk b4 (Ac (Ar v 0)) 89,.blk b1 [rP ha 0] 101]) KH rfl ((As (i:=2) rfl).trans (Yy _ (Ys _))) (BV ha hb l (Be ([123,125]:Ae) 0) hS hU) rfl ?_;rintro _ _ ⟨v51,rfl,rfl⟩;refine bd hV λho hW hX=>?_;rw[← hW];refine B5 (Cl (cs:=[rB false]) Tryz.zeroValue4 rfl rfl (λhi=>?_));refine Bu (i:=0) Gs rfl rfl (BW rfl) rfl rfl (cs':=[rB true]) rfl (H':=[.blk hi [rB true] 4,.bld 104 5 ha v51 ho,.blk b4 (Ac (Ar v 0)) 89,.blk b1 [rP ha 0] 101]) rfl (B5 (wm rfl (wv (r:=rv (.func (.func 93) #[] #[(.pointer (some ⟨hi,0,none⟩)),(.pointer (some ⟨b1,0,none⟩)),(.pointer (some ⟨b4,0,none⟩))])) (IQ rfl) (ob hX λhg hY hZ=>Du (Hr:=[]) Tryz.call92 (hn hi b1 ha v51 b4 v true ho (Ar v 0) hg hY) rfl ((As (i:=0) rfl).trans (Yy _ ((As (i:=2) rfl).trans (Yy _ (Ys _))))) rfl ?_))));rintro _ _ ⟨hk,rfl,rfl⟩;refine Aw (ck hZ λga gb=>HV (H1:=[.blk hi [rB hg.1] 4,.blk b1 [rP ha 0] 101,.bld 104 5 ha hk hg.2,.blk b4 (Ac (Ar v 0)) 89]) 3 [2,5] [⟨[],rP ha 0,1⟩,⟨[],rS ([123,125]:Ae),0⟩,⟨[1],rI .u8 (Be ([123,125]:Ae) 1),0⟩] (rle [(4,_)]) [22,23,24,2,5] ?_ ?_)
      ·refine of (AW (i:=1) DT rfl rfl rfl) (oq (Am rfl) (oq (Bq CA rfl rfl ga) ?_));exact Co
      refine ck gb λgc gd=>ck gd λge gf=>BL (rs:=[rP ha 0,rI .u8 (Be ([123,125]:Ae) 1)]) (Hin:=[.bld 104 5 ha hk hg.2]) (Hr:=[.blk hi [rB hg.1] 4,.blk b1 [rP ha 0] 101,.blk b4 (Ac (Ar v 0)) 89]) KH rfl ((As (i:=2) rfl).trans (Yy _ (Ys _))) (BV ha hk hg.2 (Be ([123,125]:Ae) 1) gc ge) rfl ?_;rintro _ _ ⟨v66,rfl,rfl⟩;refine bd gf λgA gg gh=>?_;rw[← gg];refine An (AK ?_);obtain rfl:=A2 gh;exact EZ (Rz Rb) (sC (sS (sS (sS sN)))) ⟨v66,rfl,rfl⟩
     ·refine A3 (AS (Ap (ck hP λgi gj=>HV (H1:=[.blk b4 (Ac (Ar v 0)) 89,.blk b1 [rP ha 0] 101,.bld 104 5 ha hb l]) 3 [1,2,4,5] [⟨[],rP ha 0,1⟩,⟨[],rS ([91,93]:Ae),0⟩,⟨[1],rI .u8 (Be ([91,93]:Ae) 0),0⟩] (rle [(4,_)]) [15,16,17,1,2,4,5] ?_ ?_)))
      ·refine of (AW (i:=1) DT rfl rfl rfl) (oq (Am rfl) (oq (Bq CA rfl rfl gi) ?_));exact Co
      refine ck gj λgl gm=>ck gm λgp gq=>BL (rs:=[rP ha 0,rI .u8 (Be ([91,93]:Ae) 0)]) (Hin:=[.bld 104 5 ha hb l]) (Hr:=[.blk b4 (Ac (Ar v 0)) 89,.blk b1 [rP ha 0] 101]) KH rfl ((As (i:=2) rfl).trans (Yy _ (Ys _))) (BV ha hb l (Be ([91,93]:Ae) 0) gl gp) rfl ?_;rintro _ _ ⟨v77,rfl,rfl⟩;refine bd gq λhp gr gs=>?_;rw[← gr];refine B5 (Cl (cs:=[rB false]) Tryz.zeroValue4 rfl rfl (λhj=>?_));refine Bu (i:=0) Gs rfl rfl (BW rfl) rfl rfl (cs':=[rB true]) rfl (H':=[.blk hj [rB true] 4,.bld 104 5 ha v77 hp,.blk b4 (Ac (Ar v 0)) 89,.blk b1 [rP ha 0] 101]) rfl (B5 (wm rfl (wv (r:=rv (.func (.func 93) #[] #[(.pointer (some ⟨hj,0,none⟩)),(.pointer (some ⟨b1,0,none⟩)),(.pointer (some ⟨b4,0,none⟩))])) (IQ rfl) (ob gs λhh gt gu=>Du (Hr:=[]) Tryz.call92 (hn hj b1 ha v77 b4 v true hp (Ar v 0) hh gt) rfl ((As (i:=0) rfl).trans (Yy _ ((As (i:=2) rfl).trans (Yy _ (Ys _))))) rfl ?_))));rintro _ _ ⟨v85,rfl,rfl⟩;refine Aw (ck gu λgv gw=>HV (H1:=[.blk hj [rB hh.1] 4,.blk b1 [rP ha 0] 101,.bld 104 5 ha v85 hh.2,.blk b4 (Ac (Ar v 0)) 89]) 3 [2,5] [⟨[],rP ha 0,1⟩,⟨[],rS ([91,93]:Ae),0⟩,⟨[1],rI .u8 (Be ([91,93]:Ae) 1),0⟩] (rle [(4,_)]) [22,23,24,2,5] ?_ ?_)
      ·refine of (AW (i:=1) DT rfl rfl rfl) (oq (Am rfl) (oq (Bq CA rfl rfl gv) ?_));exact Co
      refine ck gw λgx gy=>ck gy λgz g0=>BL (rs:=[rP ha 0,rI .u8 (Be ([91,93]:Ae) 1)]) (Hin:=[.bld 104 5 ha v85 hh.2]) (Hr:=[.blk hj [rB hh.1] 4,.blk b1 [rP ha 0] 101,.blk b4 (Ac (Ar v 0)) 89]) KH rfl ((As (i:=2) rfl).trans (Yy _ (Ys _))) (BV ha v85 hh.2 (Be ([91,93]:Ae) 1) gx gz) rfl ?_;rintro _ _ ⟨g1,rfl,rfl⟩;refine bd g0 λgB g3 g4=>?_;rw[← g3];refine An (AK ?_);obtain rfl:=A2 g4;exact EZ (Rz Rb) (sC (sS (sS (sS sN)))) ⟨g1,rfl,rfl⟩
theorem Pn (F:Nat)(hj:Ae→(List Aa)→Option (Ae))(hg:(∀(ha:Nat) (hf:Value) (l:Ae) (v:(List Aa)) (r:Ae),hj l v=some r→Fn Tryz.prog GE 64 [rP ha 0,Bz 4 (AG Ac v)] [.bld 104 5 ha hf l] (λR H=>∃w0b:Value,R=rv (.tuple #[])∧H=[.bld 104 5 ha w0b r])))(hb:Nat)(hd:Nat)(ha:Nat)(hf:Value)(he:Nat)(key:Ae)(x:(List Aa))(first:Bool)(l:Ae)(c:Aa)(r:Bool×Bool×Ae)(h:Jf F hj key x first l c=some r):Fn Tryz.prog GE 93 [rS key,Bz 4 (AG Ac x),rP hb 0,rP hd 0,rP he 0] [.blk hb [rB first] 4,.blk hd [rP ha 0] 101,.bld 104 5 ha hf l,.blk he (Ac c) 89] (λR H=>∃w3b:Value,R=rB r.1∧H=[.blk hb [rB r.2.1] 4,.blk hd [rP ha 0] 101,.bld 104 5 ha w3b r.2.2,.blk he (Ac c) 89]):=by
 refine enter (n:=23) Tryz.func93 rfl Tryz.ntmps93 rfl (λw Z=>?_);unfold Jf at h;refine Aj (wa rfl (Aw (Ap (Aj (vL 0 Qd rfl (wv (BK rfl) (Aw (cz h rfl (λc1 h2=>?_) (λc1 hs=>?_)))))))))
 ·refine Ak (vL 1 DT rfl (ck h2 λg3 h4=>ck h4 λg5 h6=>BL (rs:=[rP ha 0,rI .u8 44]) (Hin:=[.bld 104 5 ha hf l]) (Hr:=[.blk hb [rB first] 4,.blk hd [rP ha 0] 101,.blk he (Ac c) 89]) KH rfl ((As (i:=2) rfl).trans (Yy _ (Ys _))) (BV ha hf l 44 g3 g5) rfl ?_));rintro _ _ ⟨v7,rfl,rfl⟩;refine bd h6 λr8 ht h9=>?_;rw[← ht];refine B5 (Bu (i:=1) Gs rfl rfl (BW rfl) rfl rfl (cs':=[rB false]) rfl (H':=[.bld 104 5 ha v7 r8,.blk hb [rB false] 4,.blk hd [rP ha 0] 101,.blk he (Ac c) 89]) rfl (Aw (Ap (Aj (vF BZ rfl Jb (vL 3 Jc rfl (wv (BP rfl rfl) (Aw (cz h9 rfl (λhu hw=>?_) (λhu hx=>?_))))))))))
  ·refine Aj (vL 2 DT rfl (wm rfl (ob hw λhh hy hz=>Du (Hr:=[.blk hb [rB false] 4,.blk hd [rP ha 0] 101,.blk he (Ac c) 89]) Tryz.call90 (Lu F ha v7 r8 key hh hy) rfl (Ys _) rfl ?_)));rintro _ _ ⟨hk,rfl,rfl⟩;refine Aw (Ak (vL 2 DT rfl (ck hz λg17 h0=>ck h0 λg19 h1=>BL (rs:=[rP ha 0,rI .u8 58]) (Hin:=[.bld 104 5 ha hk hh]) (Hr:=[.blk hb [rB false] 4,.blk hd [rP ha 0] 101,.blk he (Ac c) 89]) KH rfl (Ys _) (BV ha hk hh 58 g17 g19) rfl ?_)));rintro _ _ ⟨v21,rfl,rfl⟩;refine bd h1 λh3 h5 h7=>?_;rw[← h5];refine B5 (vL 2 DT rfl (wm rfl (ob h7 λhl h8 hA=>Du (Hr:=[.blk hb [rB false] 4,.blk hd [rP ha 0] 101,.blk he (Ac c) 89]) SC (hg ha v21 h3 x hl h8) rfl (Ys _) rfl ?_)));rintro _ _ ⟨v28,rfl,rfl⟩;refine B5 (wa rfl (Aw (A1 (Ce (H2:=[.blk hb [rB false] 4,.blk hd [rP ha 0] 101,.bld 104 5 ha v28 hl,.blk he (Ac c) 89]) ((As (i:=1) rfl).trans (Yy _ ((As (i:=1) rfl).trans (Yy _ (Ys _))))) ?_))));obtain rfl:=A2 hA;exact A0 (BX UD (AP rfl)) (sC (sC (sC (sC sN)))) ⟨v28,rfl,rfl⟩
  ·refine A3 (AS (Aj (vL 2 DT rfl (wm rfl (ob hx λhm hB hC=>Du (Hr:=[.blk hb [rB false] 4,.blk hd [rP ha 0] 101,.blk he (Ac c) 89]) SC (hg ha v7 r8 x hm hB) rfl (Ys _) rfl ?_)))));rintro _ _ ⟨v33,rfl,rfl⟩;refine B5 (wa rfl (Aw (A1 (Ce (H2:=[.blk hb [rB false] 4,.blk hd [rP ha 0] 101,.bld 104 5 ha v33 hm,.blk he (Ac c) 89]) ((As (i:=1) rfl).trans (Yy _ ((As (i:=1) rfl).trans (Yy _ (Ys _))))) ?_))));obtain rfl:=A2 hC;exact A0 (BX UD (AP rfl)) (sC (sC (sC (sC sN)))) ⟨v33,rfl,rfl⟩
 ·refine A3 (AS (Aj (Bu (i:=0) Gs rfl rfl (BW rfl) rfl rfl (cs':=[rB false]) rfl (H':=[.blk hb [rB false] 4,.blk hd [rP ha 0] 101,.bld 104 5 ha hf l,.blk he (Ac c) 89]) rfl (Aw (Ap (Aj (vF BZ rfl Jb (vL 3 Jc rfl (wv (BP rfl rfl) (Aw (cz hs rfl (λhD hE=>?_) (λhD hG=>?_))))))))))))
  ·refine Aj (vL 1 DT rfl (wm rfl (ob hE λhi hH hI=>Du (Hr:=[.blk hb [rB false] 4,.blk hd [rP ha 0] 101,.blk he (Ac c) 89]) Tryz.call90 (Lu F ha hf l key hi hH) rfl ((As (i:=2) rfl).trans (Yy _ (Ys _))) rfl ?_)));rintro _ _ ⟨hn,rfl,rfl⟩;refine Aw (Ak (vL 2 DT rfl (ck hI λhJ hK=>ck hK λhL hN=>BL (rs:=[rP ha 0,rI .u8 58]) (Hin:=[.bld 104 5 ha hn hi]) (Hr:=[.blk hb [rB false] 4,.blk hd [rP ha 0] 101,.blk he (Ac c) 89]) KH rfl (Ys _) (BV ha hn hi 58 hJ hL) rfl ?_)));rintro _ _ ⟨v45,rfl,rfl⟩;refine bd hN λhO hP hQ=>?_;rw[← hP];refine B5 (vL 2 DT rfl (wm rfl (ob hQ λho hR hS=>Du (Hr:=[.blk hb [rB false] 4,.blk hd [rP ha 0] 101,.blk he (Ac c) 89]) SC (hg ha v45 hO x ho hR) rfl (Ys _) rfl ?_)));rintro _ _ ⟨hp,rfl,rfl⟩;refine B5 (wa rfl (Aw (A1 (Ce (H2:=[.blk hb [rB false] 4,.blk hd [rP ha 0] 101,.bld 104 5 ha hp ho,.blk he (Ac c) 89]) ((As (i:=1) rfl).trans (Yy _ ((As (i:=1) rfl).trans (Yy _ (Ys _))))) ?_))));obtain rfl:=A2 hS;exact A0 (BX UD (AP rfl)) (sC (sC (sC (sC sN)))) ⟨hp,rfl,rfl⟩
  ·refine A3 (AS (Aj (vL 1 DT rfl (wm rfl (ob hG λhq hT hU=>Du (Hr:=[.blk hb [rB false] 4,.blk hd [rP ha 0] 101,.blk he (Ac c) 89]) SC (hg ha hf l x hq hT) rfl ((As (i:=2) rfl).trans (Yy _ (Ys _))) rfl ?_)))));rintro _ _ ⟨hr,rfl,rfl⟩;refine B5 (wa rfl (Aw (A1 (Ce (H2:=[.blk hb [rB false] 4,.blk hd [rP ha 0] 101,.bld 104 5 ha hr hq,.blk he (Ac c) 89]) ((As (i:=1) rfl).trans (Yy _ ((As (i:=1) rfl).trans (Yy _ (Ys _))))) ?_))));obtain rfl:=A2 hU;exact A0 (BX UD (AP rfl)) (sC (sC (sC (sC sN)))) ⟨hr,rfl,rfl⟩
theorem Pm (F:Nat)(hm:Ae→(List Aa)→Bool→Ae→Aa→Option (Bool×Bool×Ae))(hx:(∀(hd:Nat) (he:Nat) (hb:Nat) (hn:Value) (hf:Nat) (key:Ae) (x:(List Aa)) (first:Bool) (l:Ae) (c:Aa) (r:Bool×Bool×Ae),hm key x first l c=some r→Fn Tryz.prog GE 93 [rS key,Bz 4 (AG Ac x),rP hd 0,rP he 0,rP hf 0] [.blk hd [rB first] 4,.blk he [rP hb 0] 101,.bld 104 5 hb hn l,.blk hf (Ac c) 89] (λR H=>∃w3b:Value,R=rB r.1∧H=[.blk hd [rB r.2.1] 4,.blk he [rP hb 0] 101,.bld 104 5 hb w3b r.2.2,.blk hf (Ac c) 89])))(hd:Nat)(he:Nat)(hb:Nat)(hn:Value)(hf:Nat)(v:(List Aa))(first:Bool)(l:Ae)(c:Aa)(r:Bool×Ae)(h:GB F hm v first l c=some r):Fn Tryz.prog GE 92 [Bz 4 (AG Ac v),rv (.func (.func 93) #[] #[(.pointer (some ⟨hd,0,none⟩)),(.pointer (some ⟨he,0,none⟩)),(.pointer (some ⟨hf,0,none⟩))])] [.blk hd [rB first] 4,.blk he [rP hb 0] 101,.bld 104 5 hb hn l,.blk hf (Ac c) 89] (λR H=>∃w1_1b:Value,R=rv (.tuple #[])∧H=[.blk hd [rB r.1] 4,.blk he [rP hb 0] 101,.bld 104 5 hb w1_1b r.2,.blk hf (Ac c) 89]):=by
 refine enter (n:=52) Tryz.func92 rfl Tryz.ntmps92 rfl (λw Z=>?_);unfold GB at h;refine Aj (wa rfl (B5 (wm rfl (ck h λg1 h2=>wv (Cv (enc:=Ac) (ys:=v) C1 D7 rfl rfl g1) (wv (C8 BZ rfl C2 rfl rfl) (wv (CF De rfl rfl) (wv (r:=Ao 0) (Am rfl) (Aw (AO (ob h2 λh7 h8 hr=>BH (S:=Nat×(Int×Int×Bool×Ae)×(Value)) (V:=(Bool×Ae)×(Value)) 0 (λσ=>Cs (λσ=>CJ F v c hm σ.1 σ.2.1 σ.2.2.1 σ.2.2.2) σ.1 σ.2.1=some h7) (λσ=>[(0,Bz 4 (AG Ac v)),(1,rv (.func (.func 93) #[] #[(.pointer (some ⟨hd,0,none⟩)),(.pointer (some ⟨he,0,none⟩)),(.pointer (some ⟨hf,0,none⟩))])),(4,Ao σ.2.1.1),(12,Ao ((Ar v 0).fN)),(13,Ao σ.2.1.2.1)]) (λσ=>[.blk hd [rB σ.2.1.2.2.1] 4,.blk he [rP hb 0] 101,.bld 104 5 hb σ.2.2 σ.2.1.2.2.2,.blk hf (Ac c) 89]) (λσ=>σ.1) (F,(1,0,first,l),hn) h8 (AD.c5 rfl rfl rfl rfl rfl AD.nil) (sC (sC (sC (sC sN)))) (λσ=>Gc σ.1.1 σ.1.2=some r) (λσ=>[]) (λσ=>[.blk hd [rB σ.1.1] 4,.blk he [rP hb 0] 101,.bld 104 5 hb σ.2 σ.1.2,.blk hf (Ac c) 89]) ?_ ?_))))))))))
 ·rintro⟨g0,⟨ha,ho,hi,hj⟩,hk⟩ h9;refine Cn (l':=[(0,Bz 4 (AG Ac v)),(1,rv (.func (.func 93) #[] #[(.pointer (some ⟨hd,0,none⟩)),(.pointer (some ⟨he,0,none⟩)),(.pointer (some ⟨hf,0,none⟩))])),(4,Ao ha),(12,Ao ((Ar v 0).fN)),(13,Ao ho)]) (H':=[.blk hd [rB hi] 4,.blk he [rP hb 0] 101,.bld 104 5 hb hk hj,.blk hf (Ac c) 89]) rfl rfl ?_;obtain⟨hy,rfl,hA,hp,hl⟩:=DY h9;replace hp:CJ F v c hm ha ho hi hj=some hA:=hp;unfold CJ at hp;refine Aj (wv (E1 rfl rfl) (Aw (Ap (cz hp rfl (λc175 hB=>?_) (λc175 hC=>?_)))))
  ·refine A3 (AS (Ap (AO (Aj (wv (r:=rS ([]:Ae)) (Az rfl) (Aw (Ap (Aj (wm rfl (wv (Cv (enc:=Ac) (ys:=v) C1 D7 rfl rfl g1) (wv (C8 BZ rfl Jb rfl rfl) (wv (CF Jc rfl rfl) (wv (BP rfl rfl) (Aw (cz hB rfl (λhD hE=>?_) (λhD hG=>?_))))))))))))))))
   ·refine Aj (wm rfl (wm rfl (ck hE λhH hI=>wv (Cv (enc:=Ac) (ys:=v) C1 D7 rfl rfl hH) (wv (C8 BZ rfl Df rfl rfl) (wv (CF D8 rfl rfl) (wa rfl (Aw (Ak (wm rfl (ck hI λhJ hK=>wv (BQ rfl rfl hJ) (wa rfl (B5 (wm rfl (wm rfl (ck hK λhL hN=>wv (r:=Bz 4 (AG Ac (List.drop (Bh (ha+1)) v))) (LG C1 D7 rfl rfl hL) (ob hN λhg hO hP=>HX Tryz.call88 (Np F (List.drop (Bh (ha+1)) v) hg hO) rfl (wm rfl (wv (AI rfl rfl) (wv (AI rfl rfl) ?_)))))))))))))))))));refine wv (AI rfl rfl) (Cl (cs:=[Ao 0,Ao 0,rB false,rB false]) NS rfl rfl (λhz=>?_));refine wa rfl (By (i:=0) Ev rfl rfl rfl (BI.c rfl) rfl rfl (cs':=[Ao hg.2.1.fDepth,Ao hg.2.1.fBytes,rB hg.2.1.fOutside,rB hg.2.1.fLong]) rfl (H':=[.blk hz (AE hg.2.1) 128,.blk hd [rB hi] 4,.blk he [rP hb 0] 101,.bld 104 5 hb hk hj,.blk hf (Ac c) 89]) rfl (wa rfl (Aw (Ap (Aj (wm rfl (wm rfl (wm rfl (wm rfl (wm rfl (wm rfl (ck hP λhs hQ=>wv (BQ rfl rfl hs) (wm rfl (wm rfl (wv (BQ rfl rfl hs) (ck hQ λhR hS=>ck hS λhT hU=>wv (r:=Bz 4 (AG Ac (List.take (Bh ((ha+1)+hg.1)-Bh (ha+1)) (List.drop (Bh (ha+1)) v)))) (LF C1 D7 rfl rfl rfl rfl hR hT) (ob hU λht hV hW=>KS (rs:=[rS ((Ar v ha).fStr),Bz 4 (AG Ac (List.take (Bh ((ha+1)+hg.1)-Bh (ha+1)) (List.drop (Bh (ha+1)) v)))]) (Hin:=[.blk hd [rB hi] 4,.blk he [rP hb 0] 101,.bld 104 5 hb hk hj,.blk hf (Ac c) 89]) (Hr:=[.blk hz (AE hg.2.1) 128]) Tryz.call93 rfl rfl ((As (i:=1) rfl).trans (Yy _ ((As (i:=1) rfl).trans (Yy _ ((As (i:=1) rfl).trans (Yy _ ((As (i:=1) rfl).trans (Yy _ (Ys _))))))))) (hx hd he hb hk hf ((Ar v ha).fStr) (List.take (Bh ((ha+1)+hg.1)-Bh (ha+1)) (List.drop (Bh (ha+1)) v)) hi hj c ht hV) rfl ?_)))))))))))))))));rintro _ _ ⟨h0,rfl,rfl⟩;refine wv (BK rfl) (Aw (cz hW rfl (λhX hY=>?_) (λhX hZ=>?_)))
    ·refine A1 (Af (A6 (Af (Af (Bj ?_)))));have ga:=BB hY hl hr;refine A6 ?_;obtain rfl:=A2 ga;exact A0 (Rz Tryz.results92) (sC (sC (sC (sC (sS sN))))) ⟨h0,rfl,rfl⟩
    ·refine A3 (AS (Ak (wm rfl (wm rfl (wv (BQ rfl rfl hs) (wa rfl (An (AK (AS (Ak (ck hZ λgb gc=>wv (BQ rfl rfl gb) (wm rfl (An ?_)))))))))))));have gd:=BD gc hl;exact Au (AF (hy,((ha+1)+hg.1,ho+1,ht.2.1,ht.2.2),h0) ⟨gd,YI _⟩ (AD.c5 rfl rfl rfl rfl rfl AD.nil) (sC (sC (sC (sC (sS sN))))))
   ·refine A3 (AS (Aj (wm rfl (wm rfl (ck hG λge gf=>wv (r:=Bz 4 (AG Ac (List.drop (Bh ha) v))) (LG C1 D7 rfl rfl ge) (ob gf λhh gg gh=>HX Tryz.call88 (Np F (List.drop (Bh ha) v) hh gg) rfl (wm rfl (wv (AI rfl rfl) (wv (AI rfl rfl) (wv (AI rfl rfl) (Cl (cs:=[Ao 0,Ao 0,rB false,rB false]) NS rfl rfl (λh1=>?_))))))))))));refine wa rfl (By (i:=0) Ev rfl rfl rfl (BI.c rfl) rfl rfl (cs':=[Ao hh.2.1.fDepth,Ao hh.2.1.fBytes,rB hh.2.1.fOutside,rB hh.2.1.fLong]) rfl (H':=[.blk h1 (AE hh.2.1) 128,.blk hd [rB hi] 4,.blk he [rP hb 0] 101,.bld 104 5 hb hk hj,.blk hf (Ac c) 89]) rfl (wa rfl (Aw (Ap (Aj (wm rfl (wm rfl (wm rfl (wm rfl (wm rfl (wm rfl (ck gh λhu gi=>wv (BQ rfl rfl hu) (wm rfl (wm rfl (wv (BQ rfl rfl hu) (ck gi λgj gl=>ck gl λgm gp=>wv (r:=Bz 4 (AG Ac (List.take (Bh (ha+hh.1)-Bh ha) (List.drop (Bh ha) v)))) (LF C1 D7 rfl rfl rfl rfl gj gm) (ob gp λhw gq gr=>KS (rs:=[rS ([]:Ae),Bz 4 (AG Ac (List.take (Bh (ha+hh.1)-Bh ha) (List.drop (Bh ha) v)))]) (Hin:=[.blk hd [rB hi] 4,.blk he [rP hb 0] 101,.bld 104 5 hb hk hj,.blk hf (Ac c) 89]) (Hr:=[.blk h1 (AE hh.2.1) 128]) Tryz.call93 rfl rfl ((As (i:=1) rfl).trans (Yy _ ((As (i:=1) rfl).trans (Yy _ ((As (i:=1) rfl).trans (Yy _ ((As (i:=1) rfl).trans (Yy _ (Ys _))))))))) (hx hd he hb hk hf ([]:Ae) (List.take (Bh (ha+hh.1)-Bh ha) (List.drop (Bh ha) v)) hi hj c hw gq) rfl ?_)))))))))))))))));rintro _ _ ⟨h3,rfl,rfl⟩;refine wv (BK rfl) (Aw (cz gr rfl (λgs gt=>?_) (λgs gu=>?_)))
    ·refine A1 (Af (A6 (Af (Af (Bj ?_)))));have gv:=BB gt hl hr;refine A6 ?_;obtain rfl:=A2 gv;exact A0 (Rz Tryz.results92) (sC (sC (sC (sC (sS sN))))) ⟨h3,rfl,rfl⟩
    ·refine A3 (AS (Ak (wm rfl (wm rfl (wv (BQ rfl rfl hu) (wa rfl (An (AK (AS (Ak (ck gu λgw gx=>wv (BQ rfl rfl gw) (wm rfl (An ?_)))))))))))));have gy:=BD gx hl;exact Au (AF (hy,(ha+hh.1,ho+1,hw.2.1,hw.2.2),h3) ⟨gy,YI _⟩ (AD.c5 rfl rfl rfl rfl rfl AD.nil) (sC (sC (sC (sC (sS sN))))))
  ·refine BJ (AB ?_);have gz:=CY hC hl hr;exact AB (B4 (AF ((hi,hj),hk) gz AD.nil (sC (sC (sC (sC sN))))))
 ·rintro⟨⟨h4,h5⟩,h6⟩ hq;refine Eh (l':=[]) (H':=[.blk hd [rB h4] 4,.blk he [rP hb 0] 101,.bld 104 5 hb h6 h5,.blk hf (Ac c) 89]) rfl rfl ?_;replace hq:Gc h4 h5=some r:=hq;unfold Gc at hq;refine Bt ?_;obtain rfl:=A2 hq;exact EZ (Rz Tryz.results92) (sC (sC (sC (sC sN)))) ⟨h6,rfl,rfl⟩
theorem Gb:∀F:Nat,(∀(ha:Nat) (hb:Value) (l:Ae) (v:(List Aa)) (r:Ae),Ex F l v=some r→Fn Tryz.prog GE 64 [rP ha 0,Bz 4 (AG Ac v)] [.bld 104 5 ha hb l] (λR H=>∃w0b:Value,R=rv (.tuple #[])∧H=[.bld 104 5 ha w0b r]))∧(∀(hd:Nat) (he:Nat) (ha:Nat) (hb:Value) (hf:Nat) (key:Ae) (x:(List Aa)) (first:Bool) (l:Ae) (c:Aa) (r:Bool×Bool×Ae),DF F key x first l c=some r→Fn Tryz.prog GE 93 [rS key,Bz 4 (AG Ac x),rP hd 0,rP he 0,rP hf 0] [.blk hd [rB first] 4,.blk he [rP ha 0] 101,.bld 104 5 ha hb l,.blk hf (Ac c) 89] (λR H=>∃w3b:Value,R=rB r.1∧H=[.blk hd [rB r.2.1] 4,.blk he [rP ha 0] 101,.bld 104 5 ha w3b r.2.2,.blk hf (Ac c) 89]))∧(∀(hd:Nat) (he:Nat) (ha:Nat) (hb:Value) (hf:Nat) (v:(List Aa)) (first:Bool) (l:Ae) (c:Aa) (r:Bool×Ae),EJ F v first l c=some r→Fn Tryz.prog GE 92 [Bz 4 (AG Ac v),rv (.func (.func 93) #[] #[(.pointer (some ⟨hd,0,none⟩)),(.pointer (some ⟨he,0,none⟩)),(.pointer (some ⟨hf,0,none⟩))])] [.blk hd [rB first] 4,.blk he [rP ha 0] 101,.bld 104 5 ha hb l,.blk hf (Ac c) 89] (λR H=>∃w1_1b:Value,R=rv (.tuple #[])∧H=[.blk hd [rB r.1] 4,.blk he [rP ha 0] 101,.bld 104 5 ha w1_1b r.2,.blk hf (Ac c) 89]))
  | 0=>⟨(λ_ _ _ _ _ h=>by simp[Ex] at h),(λ_ _ _ _ _ _ _ _ _ _ _ h=>by simp[DF] at h),(λ_ _ _ _ _ _ _ _ _ _ h=>by simp[EJ] at h)⟩
  | nn+1=>⟨(λha hb l v r h=>Rg nn (DF nn) (EJ nn) (Gb nn).2.1 (Gb nn).2.2 ha hb l v r (by rw[Ex] at h;exact h)),(λhd he ha hb hf key x first l c r h=>Pn nn (Ex nn) (Gb nn).1 hd he ha hb hf key x first l c r (by rw[DF] at h;exact h)),(λhd he ha hb hf v first l c r h=>Pm nn (DF nn) (Gb nn).2.1 hd he ha hb hf v first l c r (by rw[EJ] at h;exact h))⟩
theorem SL (F:Nat)(ha:Nat)(hb:Value)(l:Ae)(v:(List Aa))(r:Ae)(h:Ex F l v=some r):Fn Tryz.prog GE 64 [rP ha 0,Bz 4 (AG Ac v)] [.bld 104 5 ha hb l] (λR H=>∃w0b:Value,R=rv (.tuple #[])∧H=[.bld 104 5 ha w0b r]):=(Gb F).1 ha hb l v r h
theorem Rl (F:Nat)(v:(List Aa))(r:Ae×Int)(h:Jj F v=some r):Fn Tryz.prog GE 42 [Bz 4 (AG Ac v)] [] (λR H=>R=C0 [rS r.1,Ao r.2]∧H=[]):=by
 refine enter (n:=14) Tryz.func42 rfl Tryz.ntmps42 rfl (λw Z=>?_);unfold Jj at h;refine Aj (wv (r:=rS ([]:Ae)) (Az rfl) (wa rfl (Aw (Ap (Aj (wm rfl (ob h λr1 e3 h2=>HX Tryz.call63 (Ly F v r1 e3) rfl (wa rfl (B5 (wm rfl (wv (D2 rfl rfl) (Aw (cz h2 rfl (λc4 h5=>?_) (λc4 h6=>?_))))))))))))))
 ·refine Aj (wm rfl (wv (r:=rS ([]:Ae)) (Az rfl) (wa rfl (Aw (A1 (Af ?_))))));obtain rfl:=A2 h5;exact A0 (Ie Tryz.results42 (AP rfl) (AP rfl)) sN ⟨rfl,rfl⟩
 ·refine A3 (AS (Aj (Cl (cs:=[rv (.pointer none),rv (.slice none 0 0)]) Tryz.zeroValue104 rfl rfl (λb7=>?_))));refine B5 (wm rfl (WL.tobld (te:=5) (i:=0) rfl (ob h6 λr8 hb h9=>Du (Hr:=[]) SC (SL F b7 (.slice none 0 0) ([]:Ae) v r8 hb) rfl (Ys _) rfl ?_)));rintro _ _ ⟨ha,rfl,rfl⟩;refine B5 (ck h9 λhd he=>BL (rs:=[rP b7 0]) (Hin:=[.bld 104 5 b7 ha r8]) (Hr:=[]) Tryz.call65 rfl (Ys _) (Su b7 ha r8  hd) rfl ?_);rintro _ _ ⟨rfl,rfl⟩;refine wa rfl (wa rfl (Aw (A1 ?_)));obtain rfl:=A2 he;exact A0 (Ie Tryz.results42 (AP rfl) (AP rfl)) sN ⟨rfl,rfl⟩
end Go.Proofs.YtmmbdclkpijkpaaGreatDoor.Q
namespace Go.Proofs.YtmmbdclkpijkpaaGreatDoor
open Go
set_option linter.unusedVariables false
structure Ai where
 fS:Ae
 fAt:Int
 fCells:(List Aa)
 fGreat:Bool
 deriving DecidableEq,Inhabited
def Gv (s:Ae)(p:Ae):Option (Bool):=
 Bc (imp (decide ((p.length:Int)≤(s.length:Int))) (HJ (p.length:Int) (s.length:Int)))<|some ((decide ((p.length:Int)≤(s.length:Int)))&&(decide ((List.take (Int.toNat (p.length:Int)) s)=p)))
def EV (s:Ae)(p:Ae):Option (Bool):=
 B0 (Gv s p) λr1=>some r1
def Dj (q:Ai)(s:Ae):Option (Bool×Ai):=
 Bc (HJ q.fAt (q.fS.length:Int))<|B0 (EV (List.drop (Int.toNat q.fAt) q.fS) s) λr3=>Bw (!r3) (some (false,q)) (Bc (BT .i64 (q.fAt+(s.length:Int)))<|some (true,(Ai.mk q.fS (q.fAt+(s.length:Int)) q.fCells q.fGreat)))
def Ei (ha:(List Int))(hb:Int)(hd:Int):Option (Stp ((List Int)×Int) (Out (Ae×Bool×Ai) (Int))):=
 Bc (Ea 1 (ha.length+([hb]:List Int).length))<|some (.next (ha++([hb]:List Int),hd))
def D9 (r1:Bool×Ai)(hb:(List Int))(ha:Int):Option (Stp ((List Int)×Int) (Out (Ae×Bool×Ai) (Int))):=
 Bw (decide (ha<(r1.2.fS.length:Int))) (Bc (Dt ha (r1.2.fS.length:Int))<|Bc (BT .i64 (ha+1))<|Bw (decide ((Be r1.2.fS ha)=34)) (some (.out (.ret (Ph hb,true,(Ai.mk r1.2.fS (ha+1) r1.2.fCells r1.2.fGreat))))) (Bw (((decide ((Be r1.2.fS ha)<32))||(decide (126<(Be r1.2.fS ha))))) (some (.out (.ret (([]:Ae),false,(Ai.mk r1.2.fS (ha+1) r1.2.fCells r1.2.fGreat))))) (Bw (decide ((Be r1.2.fS ha)=92)) (Bc (imp (!(decide ((r1.2.fS.length:Int)≤(ha+1)))) (Dt (ha+1) (r1.2.fS.length:Int)))<|Bw (((decide ((r1.2.fS.length:Int)≤(ha+1)))||((!decide ((Be r1.2.fS (ha+1))=34))&&(!decide ((Be r1.2.fS (ha+1))=92))))) (some (.out (.ret (([]:Ae),false,(Ai.mk r1.2.fS (ha+1) r1.2.fCells r1.2.fGreat))))) (Bc (Dt (ha+1) (r1.2.fS.length:Int))<|Bc (BT .i64 ((ha+1)+1))<|Ei hb (Be r1.2.fS (ha+1)) ((ha+1)+1))) (Ei hb (Be r1.2.fS ha) (ha+1))))) (some (.out (.go ha)))
def GF (r1:Bool×Ai)(ha:Int):Option (Ae×Bool×Ai):=
 some (([]:Ae),false,(Ai.mk r1.2.fS ha r1.2.fCells r1.2.fGreat))
def Lr (F:Nat)(q:Ai):Option (Ae×Bool×Ai):=
 B0 (Dj q ([34]:Ae)) λr1=>Bw (!r1.1) (some (([]:Ae),false,r1.2)) (B0 (Cs (λσ=>D9 r1 σ.1 σ.2) F (([]:List Int),r1.2.fAt)) (BN λν=>GF r1 ν))
def DA (r1:Bool×Ai)(ha:Int):Option (Stp (Int) (Out (Bool×Ai) (Int))):=
 Bc (imp (decide (ha<(r1.2.fS.length:Int))) (Dt ha (r1.2.fS.length:Int)))<|Bw (((decide (ha<(r1.2.fS.length:Int)))&&((decide (48≤(Be r1.2.fS ha)))&&(decide ((Be r1.2.fS ha)≤57))))) (Bc (BT .i64 (ha+1))<|some (.next (ha+1))) (some (.out (.go ha)))
def H4 (q:Ai)(r1:Bool×Ai)(ha:Int):Option (Bool×Ai):=
 Bc (HJ q.fAt ha)<|Bc (HJ ha (r1.2.fS.length:Int))<|Bc (Ea 1 (List.take (Int.toNat ha-Int.toNat q.fAt) (List.drop (Int.toNat q.fAt) r1.2.fS)).length)<|Bw (((decide ((B1 (List.take (Int.toNat ha-Int.toNat q.fAt) (List.drop (Int.toNat q.fAt) r1.2.fS)))=1))||(decide (r1.2.fAt=ha)))) (some (false,(Ai.mk r1.2.fS ha r1.2.fCells r1.2.fGreat))) (Bc (Ea 40 (r1.2.fCells.length+([(Aa.mk 3 (Bn (List.take (Int.toNat ha-Int.toNat q.fAt) (List.drop (Int.toNat q.fAt) r1.2.fS))) ([]:Ae) 0)]:List Aa).length))<|some (true,(Ai.mk r1.2.fS ha (r1.2.fCells++([(Aa.mk 3 (Bn (List.take (Int.toNat ha-Int.toNat q.fAt) (List.drop (Int.toNat q.fAt) r1.2.fS))) ([]:Ae) 0)]:List Aa)) (r1.2.fGreat||(!decide ((B1 (List.take (Int.toNat ha-Int.toNat q.fAt) (List.drop (Int.toNat q.fAt) r1.2.fS)))=0))))))
def Ls (F:Nat)(q:Ai):Option (Bool×Ai):=
 B0 (Dj q ([45]:Ae)) λr1=>B0 (Cs (λσ=>DA r1 σ) F r1.2.fAt) (BN λν=>H4 q r1 ν)
def Dl (ha:Ae)(hb:Int)(hd:(List Aa))(he:Bool):Option (Bool×Ai):=
 some (true,(Ai.mk ha hb hd he))
def GG (F:Nat)(q:Ai):Option (Bool×Ai):=
 B0 (Dj q ([110,117,108,108]:Ae)) λhd=>Bw (hd.1) (Bc (Ea 40 (hd.2.fCells.length+([(Aa.mk 1 0 ([]:Ae) 0)]:List Aa).length))<|Dl hd.2.fS hd.2.fAt (hd.2.fCells++([(Aa.mk 1 0 ([]:Ae) 0)]:List Aa)) hd.2.fGreat) (B0 (Dj hd.2 ([116,114,117,101]:Ae)) λhe=>Bw (he.1) (Bc (Ea 40 (he.2.fCells.length+([(Aa.mk 2 1 ([]:Ae) 0)]:List Aa).length))<|Dl he.2.fS he.2.fAt (he.2.fCells++([(Aa.mk 2 1 ([]:Ae) 0)]:List Aa)) he.2.fGreat) (B0 (Dj he.2 ([102,97,108,115,101]:Ae)) λha=>Bw (ha.1) (Bc (Ea 40 (ha.2.fCells.length+([(Aa.mk 2 0 ([]:Ae) 0)]:List Aa).length))<|Dl ha.2.fS ha.2.fAt (ha.2.fCells++([(Aa.mk 2 0 ([]:Ae) 0)]:List Aa)) ha.2.fGreat) (Bc (HJ ha.2.fAt (ha.2.fS.length:Int))<|B0 (EV (List.drop (Int.toNat ha.2.fAt) ha.2.fS) ([34]:Ae)) λhg=>Bw (hg) (B0 (Lr F ha.2) λhb=>Bw (!hb.2.1) (some (false,hb.2.2)) (Bc (Ea 40 (hb.2.2.fCells.length+([(Aa.mk 4 0 hb.1 0)]:List Aa).length))<|Dl hb.2.2.fS hb.2.2.fAt (hb.2.2.fCells++([(Aa.mk 4 0 hb.1 0)]:List Aa)) hb.2.2.fGreat)) (B0 (Ls F ha.2) λhf=>some (hf.1,hf.2)))))
def DJ (hf:Ai→Option (Bool×Ai))(x16:(List Aa))(hd:Int)(hg:Ae)(hh:Int)(hi:(List Aa))(hj:Bool):Option (Stp (Int×Ae×Int×(List Aa)×Bool) (Out (Bool×Ai) (Unit))):=
 B0 (hf (Ai.mk hg hh hi hj)) λha=>Bw (!ha.1) (some (.out (.ret (false,ha.2)))) (Bc (Dt (x16.length:Int) (ha.2.fCells.length:Int))<|IZ (List.set ha.2.fCells (Int.toNat (x16.length:Int)) (Aa.mk ((Ar ha.2.fCells (x16.length:Int)).fKind) ((Ar ha.2.fCells (x16.length:Int)).fInt) ((Ar ha.2.fCells (x16.length:Int)).fStr) hd)) λhk=>B0 (Dj (Ai.mk ha.2.fS ha.2.fAt hk ha.2.fGreat) ([93]:Ae)) λhe=>Bw (he.1) (some (.out (.ret (true,he.2)))) (B0 (Dj he.2 ([44]:Ae)) λhb=>Bw (!hb.1) (some (.out (.ret (false,hb.2)))) (Bc (BT .i64 (hd+1))<|some (.next (hd+1,hb.2.fS,hb.2.fAt,hb.2.fCells,hb.2.fGreat)))))
def Ge :Option (Bool×Ai):=
 none
def BM (hk:Ai→Option (Bool×Ai))(x16:(List Aa))(hd:Int)(he:Ae×Bool×Ai)(hn:Bool)(ho:Bool)(hl:Bool)(hh:Ae)(hi:Int)(hf:(List Aa))(hj:Bool):Option (Stp (Ae×Int×Ae×Int×(List Aa)×Bool) (Out (Bool×Ai) (Unit))):=
 Bw (hl) (some (.out (.ret (false,(Ai.mk hh hi hf hj))))) (Bc (Ea 40 (hf.length+([(Aa.mk 4 0 he.1 0)]:List Aa).length))<|B0 (hk (Ai.mk hh hi (hf++([(Aa.mk 4 0 he.1 0)]:List Aa)) hj)) λha=>Bw (!ha.1) (some (.out (.ret (false,ha.2)))) (Bc (Dt (x16.length:Int) (ha.2.fCells.length:Int))<|IZ (List.set ha.2.fCells (Int.toNat (x16.length:Int)) (Aa.mk ((Ar ha.2.fCells (x16.length:Int)).fKind) ((Ar ha.2.fCells (x16.length:Int)).fInt) ((Ar ha.2.fCells (x16.length:Int)).fStr) hd)) λhm=>B0 (Dj (Ai.mk ha.2.fS ha.2.fAt hm ha.2.fGreat) ([125]:Ae)) λhg=>Bw (hg.1) (some (.out (.ret (true,hg.2)))) (B0 (Dj hg.2 ([44]:Ae)) λhb=>Bw (!hb.1) (some (.out (.ret (false,hb.2)))) (Bc (BT .i64 (hd+1))<|some (.next (he.1,hd+1,hb.2.fS,hb.2.fAt,hb.2.fCells,hb.2.fGreat))))))
def DI (F:Nat)(hg:Ai→Option (Bool×Ai))(x16:(List Aa))(hb:Ae)(hd:Int)(hh:Ae)(hi:Int)(hj:(List Aa))(hk:Bool):Option (Stp (Ae×Int×Ae×Int×(List Aa)×Bool) (Out (Bool×Ai) (Unit))):=
 B0 (Lr F (Ai.mk hh hi hj hk)) λha=>Bw (!ha.2.1) (BM hg x16 hd ha true true true ha.2.2.fS ha.2.2.fAt ha.2.2.fCells ha.2.2.fGreat) (Bw (decide (1<hd)) (Bw (Bv ha.1 hb||decide (ha.1=hb)) (BM hg x16 hd ha (Bv ha.1 hb||decide (ha.1=hb)) (Bv ha.1 hb||decide (ha.1=hb)) true ha.2.2.fS ha.2.2.fAt ha.2.2.fCells ha.2.2.fGreat) (B0 (Dj ha.2.2 ([58]:Ae)) λhe=>BM hg x16 hd ha (Bv ha.1 hb||decide (ha.1=hb)) (Bv ha.1 hb||decide (ha.1=hb)) (!he.1) he.2.fS he.2.fAt he.2.fCells he.2.fGreat)) (B0 (Dj ha.2.2 ([58]:Ae)) λhf=>BM hg x16 hd ha false false (!hf.1) hf.2.fS hf.2.fAt hf.2.fCells hf.2.fGreat))
def Gd :Option (Bool×Ai):=
 none
def Dk (F:Nat)(hg:Ai→Option (Bool×Ai))(r1:Bool×Ai)(hi:Bool)(hd:Ae)(he:Int)(x16:(List Aa))(hf:Bool):Option (Bool×Ai):=
 Bw (hi) (B0 (GG F (Ai.mk hd he x16 hf)) λhh=>some (hh.1,hh.2)) (Bw (r1.1) (Bc (Ea 40 (x16.length+([(Aa.mk 5 0 ([]:Ae) 0)]:List Aa).length))<|B0 (Dj (Ai.mk hd he (x16++([(Aa.mk 5 0 ([]:Ae) 0)]:List Aa)) hf) ([93]:Ae)) λha=>Bw (ha.1) (some (true,ha.2)) (B0 (Cs (λσ=>DJ hg x16 σ.1 σ.2.1 σ.2.2.1 σ.2.2.2.1 σ.2.2.2.2) F (1,ha.2.fS,ha.2.fAt,ha.2.fCells,ha.2.fGreat)) (BN λν=>Ge ))) (Bc (Ea 40 (x16.length+([(Aa.mk 6 0 ([]:Ae) 0)]:List Aa).length))<|B0 (Dj (Ai.mk hd he (x16++([(Aa.mk 6 0 ([]:Ae) 0)]:List Aa)) hf) ([125]:Ae)) λhb=>Bw (hb.1) (some (true,hb.2)) (B0 (Cs (λσ=>DI F hg x16 σ.1 σ.2.1 σ.2.2.1 σ.2.2.2.1 σ.2.2.2.2.1 σ.2.2.2.2.2) F (([]:Ae),1,hb.2.fS,hb.2.fAt,hb.2.fCells,hb.2.fGreat)) (BN λν=>Gd ))))
def Jh (F:Nat)(hb:Ai→Option (Bool×Ai))(q:Ai):Option (Bool×Ai):=
 B0 (Dj q ([91]:Ae)) λr1=>Bw (!r1.1) (B0 (Dj r1.2 ([123]:Ae)) λha=>Dk F hb r1 (!ha.1) ha.2.fS ha.2.fAt ha.2.fCells ha.2.fGreat) (Dk F hb r1 false r1.2.fS r1.2.fAt r1.2.fCells r1.2.fGreat)
def BR:Nat→Ai→Option (Bool×Ai)
 | 0,_=>none
 | nn+1,q=>Jh nn (BR nn) q
def Ey (F:Nat)(hb:Bool)(hf:Ae)(hg:Int)(hd:(List Aa))(he:Bool):Option ((List Aa)×Int):=
 Bw (hb) (some (([]:List Aa),1)) (Bw (he) (some (([]:List Aa),2)) (B0 (Jm F hd) λha=>some (ha.1,ha.2)))
def Jk (F:Nat)(s:Ae):Option ((List Aa)×Int):=
 Bw (decide (4000<(s.length:Int))) (some (([]:List Aa),3)) (B0 (BR F (Ai.mk s 0 ([]:List Aa) false)) λha=>Bw (!ha.1) (Ey F true ha.2.fS ha.2.fAt ha.2.fCells ha.2.fGreat) (Ey F (!decide (ha.2.fAt=(s.length:Int))) ha.2.fS ha.2.fAt ha.2.fCells ha.2.fGreat))
end Go.Proofs.YtmmbdclkpijkpaaGreatDoor
namespace Go.Proofs.YtmmbdclkpijkpaaGreatDoor.Q
open Go Go.RowKit
set_option linter.unusedVariables false
set_option linter.unusedSimpArgs false
set_option maxRecDepth 100000
set_option maxHeartbeats 4000000
theorem Hj:∃inf,Tryz.prog.info? 89=some inf∧inf.zero=some (.agg #[(.int .i64 0),(.int .i64 0),(.string ⟨#[]⟩),(.int .i64 0)])∧inf.size=4∧inf.bytes=40:=by
  have key:(Tryz.prog.info? 89).map (λi=>(i.zero,i.size,i.bytes))=some (some (.agg #[(.int .i64 0),(.int .i64 0),(.string ⟨#[]⟩),(.int .i64 0)]),4,40):=by kernel_rfl
  obtain⟨inf,h1,h2⟩:=Option.map_eq_some_iff.1 key;simp only[Prod.mk.injEq] at h2;exact⟨inf,h1,h2.1,h2.2.1,h2.2.2⟩
theorem NJ (parts:List (Nat×Value)):Tryz.prog.built 89 parts=Instr.fill (λi=>(#[(0,1),(1,1),(2,1),(3,1)]:Array (Nat×Nat))[i]?) #[(.int .i64 0),(.int .i64 0),(.string ⟨#[]⟩),(.int .i64 0)] parts:=by kernel_rfl
theorem EA {n:Nat}{c:Cx}{l:Fr}{H:List Ent}{d:Option Nat}{ty:TypeId}{pos:String}{af:Array Edge}{g:Option (Nat×Bool)}{x0:Operand}{r0:Rp}(h0:ev l x0=some r0)(u0:r0.one=true):AZ Tryz.prog n c l H { dst:=d,op:=.build 89 #[(0,x0)],type:=ty,pos:=pos,after:=af,guard:=g } (Bm [r0,Ao 0,rS ([]:Ae),Ao 0]):=λa w Z ha _=>by
  have p0:=ha.ev h0;have c0:=BA (r0.hone u0 Z _ p0);have hb:Tryz.prog.built 89 [(0,a.eval x0)]=some #[a.eval x0,(.int .i64 0),(.string ⟨#[]⟩),(.int .i64 0)]:=by
    rw[NJ];generalize a.eval x0=v0 at *;simp[Instr.fill,c0]
  refine⟨.agg #[a.eval x0,(.int .i64 0),(.string ⟨#[]⟩),(.int .i64 0)],⟨[a.eval x0,(.int .i64 0),(.string ⟨#[]⟩),(.int .i64 0)],rfl,p0,rfl,rfl,rfl,trivial⟩,?_⟩;have:=run_build w 89 #[(0,a.eval x0)] _ (by simpa using hb);simp[execOp,this]
theorem I9 {n:Nat}{c:Cx}{l:Fr}{H:List Ent}{d:Option Nat}{ty:TypeId}{pos:String}{af:Array Edge}{g:Option (Nat×Bool)}{x0:Operand}{r0:Rp}(h0:ev l x0=some r0)(u0:r0.one=true){x1:Operand}{r1:Rp}(h1:ev l x1=some r1)(u1:r1.one=true):AZ Tryz.prog n c l H { dst:=d,op:=.build 89 #[(0,x0),(1,x1)],type:=ty,pos:=pos,after:=af,guard:=g } (Bm [r0,r1,rS ([]:Ae),Ao 0]):=λa w Z ha _=>by
  have p0:=ha.ev h0;have c0:=BA (r0.hone u0 Z _ p0);have p1:=ha.ev h1;have c1:=BA (r1.hone u1 Z _ p1);have hb:Tryz.prog.built 89 [(0,a.eval x0),(1,a.eval x1)]=some #[a.eval x0,a.eval x1,(.string ⟨#[]⟩),(.int .i64 0)]:=by
    rw[NJ];generalize a.eval x0=v0 at *;generalize a.eval x1=v1 at *;simp[Instr.fill,c0,c1]
  refine⟨.agg #[a.eval x0,a.eval x1,(.string ⟨#[]⟩),(.int .i64 0)],⟨[a.eval x0,a.eval x1,(.string ⟨#[]⟩),(.int .i64 0)],rfl,p0,p1,rfl,rfl,trivial⟩,?_⟩;have:=run_build w 89 #[(0,a.eval x0),(1,a.eval x1)] _ (by simpa using hb);simp[execOp,this]
theorem I8 {n:Nat}{c:Cx}{l:Fr}{H:List Ent}{d:Option Nat}{ty:TypeId}{pos:String}{af:Array Edge}{g:Option (Nat×Bool)}{x0:Operand}{r0:Rp}(h0:ev l x0=some r0)(u0:r0.one=true){x2:Operand}{r2:Rp}(h2:ev l x2=some r2)(u2:r2.one=true):AZ Tryz.prog n c l H { dst:=d,op:=.build 89 #[(0,x0),(2,x2)],type:=ty,pos:=pos,after:=af,guard:=g } (Bm [r0,Ao 0,r2,Ao 0]):=λa w Z ha _=>by
  have p0:=ha.ev h0;have c0:=BA (r0.hone u0 Z _ p0);have p2:=ha.ev h2;have c2:=BA (r2.hone u2 Z _ p2);have hb:Tryz.prog.built 89 [(0,a.eval x0),(2,a.eval x2)]=some #[a.eval x0,(.int .i64 0),a.eval x2,(.int .i64 0)]:=by
    rw[NJ];generalize a.eval x0=v0 at *;generalize a.eval x2=v2 at *;simp[Instr.fill,c0,c2]
  refine⟨.agg #[a.eval x0,(.int .i64 0),a.eval x2,(.int .i64 0)],⟨[a.eval x0,(.int .i64 0),a.eval x2,(.int .i64 0)],rfl,p0,rfl,p2,rfl,trivial⟩,?_⟩;have:=run_build w 89 #[(0,a.eval x0),(2,a.eval x2)] _ (by simpa using hb);simp[execOp,this]
theorem Uy (parts:List (Nat×Value)):Tryz.prog.built 113 parts=Instr.fill (λi=>(#[(0,1),(1,1),(2,1),(3,1)]:Array (Nat×Nat))[i]?) #[(.string ⟨#[]⟩),(.int .i64 0),((.slice none 0 0)),(.bool false)] parts:=by kernel_rfl
theorem N6 {n:Nat}{c:Cx}{l:Fr}{H:List Ent}{d:Option Nat}{ty:TypeId}{pos:String}{af:Array Edge}{g:Option (Nat×Bool)}{x0:Operand}{r0:Rp}(h0:ev l x0=some r0)(u0:r0.one=true):AZ Tryz.prog n c l H { dst:=d,op:=.build 113 #[(0,x0)],type:=ty,pos:=pos,after:=af,guard:=g } (Bm [r0,Ao 0,rv (.slice none 0 0),rB false]):=λa w Z ha _=>by
  have p0:=ha.ev h0;have c0:=BA (r0.hone u0 Z _ p0);have hb:Tryz.prog.built 113 [(0,a.eval x0)]=some #[a.eval x0,(.int .i64 0),((.slice none 0 0)),(.bool false)]:=by
    rw[Uy];generalize a.eval x0=v0 at *;simp[Instr.fill,c0]
  refine⟨.agg #[a.eval x0,(.int .i64 0),((.slice none 0 0)),(.bool false)],⟨[a.eval x0,(.int .i64 0),((.slice none 0 0)),(.bool false)],rfl,p0,rfl,rfl,rfl,trivial⟩,?_⟩;have:=run_build w 113 #[(0,a.eval x0)] _ (by simpa using hb);simp[execOp,this]
theorem Mr (s:Ae)(p:Ae)(r:Bool)(h:Gv s p=some r):Fn Tryz.prog GE 137 [rS s,rS p] [] (λR H=>R=rB r∧H=[]):=by
 refine enter (n:=18) Tryz.func137 rfl Tryz.ntmps137 rfl (λw Z=>?_);unfold Gv at h;refine Aj (wa rfl (Aw (ck h λg1 h2=>AH [(4,rB ((decide ((p.length:Int)≤(s.length:Int)))&&(decide ((List.take (Bh (p.length:Int)) s)=p))))] [] ?_ ?_)))
 ·refine Ak (wm rfl (wv (Bp CA rfl) (wm rfl (wv (Bp CA rfl) (wv (Ix rfl rfl) (wm rfl (AR (decide ((p.length:Int)≤(s.length:Int))) (λc3=>?_) (λc3=>?_))))))))
  ·refine wo c3 (wm rfl (wo c3 (wm rfl (wo c3 (wv (Bp CA rfl) (wo c3 (wv (IP CA rfl rfl (HK g1 c3)) (wo c3 (wm rfl (wo c3 (wv (I7 rfl rfl) (KR rfl c3 rfl (wa rfl (An ?_))))))))))))));exact Dg c3
  ·refine wf c3 (wf c3 (wf c3 (wf c3 (wf c3 (wf c3 (wv (r:=rB false) (AA rfl c3 rfl) (wa rfl (An ?_))))))));exact Dg c3
 refine A1 ?_;obtain rfl:=A2 h2;exact A0 (BX Tryz.results137 (AP rfl)) sN ⟨rfl,rfl⟩
theorem KB (s:Ae)(p:Ae)(r:Bool)(h:EV s p=some r):Fn Tryz.prog GE 122 [rS s,rS p] [] (λR H=>R=rB r∧H=[]):=by
 refine enter (n:=8) Tryz.func122 rfl Tryz.ntmps122 rfl (λw Z=>?_);unfold EV at h;refine Aj (wa rfl (B5 (wm rfl (wm rfl (ob h λr1 e3 h2=>HX Tryz.call137 (Mr s p r1 e3) rfl (wa rfl (Aw (A1 ?_))))))));obtain rfl:=A2 h2;exact A0 (BX Tryz.results122 (AP rfl)) sN ⟨rfl,rfl⟩
theorem CK (ha:Nat)(hb:Value)(q:Ai)(s:Ae)(r:Bool×Ai)(h:Dj q s=some r):Fn Tryz.prog GE 97 [rP ha 0,rS s] [.blk ha [rS q.fS,Ao q.fAt,rv hb,rB q.fGreat] 113,.row hb 89 4 (AG Ac q.fCells)] (λR H=>∃w0_2:Value,R=rB r.1∧H=[.blk ha [rS r.2.fS,Ao r.2.fAt,rv w0_2,rB r.2.fGreat] 113,.row w0_2 89 4 (AG Ac r.2.fCells)]):=by
 refine enter (n:=26) Tryz.func97 rfl Tryz.ntmps97 rfl (λw Z=>?_);unfold Dj at h;refine Aj (wa rfl (Aw (Ap (Ap (ck h λg1 h2=>ob h2 λr3 e5 h4=>Dh [0,1] [⟨[],rP ha 0,0⟩,⟨[0],rP ha 0,0⟩,⟨[1],rP ha 0,0⟩,⟨[2],rS q.fS,1⟩,⟨[],rP ha 0,0⟩,⟨[4],rP ha 0,0⟩,⟨[5],rP ha 1,0⟩,⟨[6],Ao q.fAt,1⟩,⟨[3,7],rS (List.drop (Bh q.fAt) q.fS),0⟩,⟨[],rS s,0⟩,⟨[8,9],rB r3,0⟩,⟨[10],rB (!r3),0⟩] [16,0,1] ?_ ?_)))))
 ·refine oq (Am rfl) (oq (Aq rfl) (oq (A4 Bf rfl Df rfl rfl) (of (AW (i:=0) D8 rfl rfl rfl) (oq (Am rfl) (oq (Aq rfl) (oq (A4 Bf rfl C2 rfl rfl) (of (AW (i:=0) De rfl rfl rfl) (oq (DL CA rfl rfl g1) (oq (Am rfl) (GO rfl (λH=>MG Tryz.call122 (KB (List.drop (Bh q.fAt) q.fS) s r3 e5) rfl) ?_))))))))));refine oq (BK rfl) ?_;exact Co
 refine AS (cz h4 rfl (λc6 h7=>?_) (λc6 h8=>?_))
 ·refine Aj (wa rfl (Aw (A1 (Af ?_))));obtain rfl:=A2 h7;exact A0 (BX Tryz.results97 (AP rfl)) (sC (sC sN)) ⟨hb,rfl,rfl⟩
 ·refine A3 (AS (Aj (wm rfl (wv (Aq rfl) (vF Bf rfl C2 (vL 0 De rfl (wm rfl (wv (Bp CA rfl) (ck h8 λg9 hd=>wv (BQ rfl rfl g9) (wv (Aq rfl) (vF Bf rfl C2 (Bu (i:=0) C2 rfl rfl (BW rfl) rfl rfl (cs':=[rS q.fS,Ao (q.fAt+(s.length:Int)),rv hb,rB q.fGreat]) rfl (H':=[.blk ha [rS q.fS,Ao (q.fAt+(s.length:Int)),rv hb,rB q.fGreat] 113,.row hb 89 4 (AG Ac q.fCells)]) rfl (B5 (wa rfl (Aw (A1 ?_))))))))))))))));obtain rfl:=A2 hd;exact A0 (BX Tryz.results97 (AP rfl)) (sC (sC sN)) ⟨hb,rfl,rfl⟩
theorem Qg (F:Nat)(ha:Nat)(hp:Value)(q:Ai)(r:Ae×Bool×Ai)(h:Lr F q=some r):Fn Tryz.prog GE 99 [rP ha 0] [.blk ha [rS q.fS,Ao q.fAt,rv hp,rB q.fGreat] 113,.row hp 89 4 (AG Ac q.fCells)] (λR H=>∃w0_2:Value,R=C0 [rS r.1,rB r.2.1]∧H=[.blk ha [rS r.2.2.fS,Ao r.2.2.fAt,rv w0_2,rB r.2.2.fGreat] 113,.row w0_2 89 4 (AG Ac r.2.2.fCells)]):=by
 refine enter (n:=104) Tryz.func99 rfl Tryz.ntmps99 rfl (λw Z=>?_);unfold Lr at h;refine Aj (wv (r:=rS ([]:Ae)) (Az rfl) (wa rfl (Aw (Ap (Aj (wm rfl (ob h λr1 e3 h2=>Du (Hr:=[]) IF (CK ha hp q ([34]:Ae) r1 e3) rfl (Ys _) rfl ?_)))))));rintro _ _ ⟨v4,rfl,rfl⟩;refine wv (BK rfl) (Aw (cz h2 rfl (λc5 h6=>?_) (λc5 h7=>?_)))
 ·refine Aj (wv (r:=rS ([]:Ae)) (Az rfl) (wa rfl (Aw (A1 (Af ?_)))));obtain rfl:=A2 h6;exact A0 (Ie SA (AP rfl) (AP rfl)) (sC (sC sN)) ⟨v4,rfl,rfl⟩
 ·refine A3 (AS (Aj (wa rfl (Aw (Ap (AO (WC.nilrow (e:=5) (sz:=1) (No (H2:=[.blk ha [rS r1.2.fS,Ao r1.2.fAt,rv v4,rB r1.2.fGreat] 113,.row v4 89 4 (AG Ac r1.2.fCells),.row (.slice none 0 0     ) 5 1 (AG Ba ([]:List Int))]) ((As (i:=1) rfl).trans (Yy _ ((As (i:=1) rfl).trans (Yy _ (Ys _))))) (ob h7 λhu hw hk=>BH (S:=Nat×((List Int)×Int)×(Value)) (V:=(Int)×(Unit)) 0 (λσ=>Cs (λσ=>D9 r1 σ.1 σ.2) σ.1 σ.2.1=some hu) (λσ=>[(0,rP ha 0),(4,rv σ.2.2)]) (λσ=>[.blk ha [rS r1.2.fS,Ao σ.2.1.2,rv v4,rB r1.2.fGreat] 113,.row v4 89 4 (AG Ac r1.2.fCells),.row σ.2.2 5 1 (AG Ba σ.2.1.1)]) (λσ=>σ.1) (F,(([]:List Int),r1.2.fAt),(.slice none 0 0     )) hw (AD.c rfl (AD.c rfl AD.nil)) (sC (sC (sC sN))) (λσ=>GF r1 σ.1=some r) (λσ=>[]) (λσ=>[.blk ha [rS r1.2.fS,Ao σ.1,rv v4,rB r1.2.fGreat] 113,.row v4 89 4 (AG Ac r1.2.fCells)]) ?_ ?_)))))))))
  ·rintro⟨ga,⟨hf,hb⟩,hg⟩ hx;refine Cn (l':=[(0,rP ha 0),(4,rv hg)]) (H':=[.blk ha [rS r1.2.fS,Ao hb,rv v4,rB r1.2.fGreat] 113,.row v4 89 4 (AG Ac r1.2.fCells),.row hg 5 1 (AG Ba hf)]) rfl rfl ?_;obtain⟨hy,rfl,hq,hl,hj⟩:=DY hx;replace hl:D9 r1 hf hb=some hq:=hl;unfold D9 at hl;refine Ap (Ap (Dh [0,4] [⟨[],rP ha 0,0⟩,⟨[0],rP ha 0,0⟩,⟨[1],rP ha 1,0⟩,⟨[2],Ao hb,1⟩,⟨[],rP ha 0,0⟩,⟨[4],rP ha 0,0⟩,⟨[5],rP ha 0,0⟩,⟨[6],rS r1.2.fS,1⟩,⟨[7],Ao (r1.2.fS.length:Int),0⟩,⟨[3,8],rB (decide (hb<(r1.2.fS.length:Int))),0⟩] [9,10,11,12,13,14,15,16,17,18,0,4] ?_ ?_))
   ·refine oq (Am rfl) (oq (Aq rfl) (oq (A4 Bf rfl C2 rfl rfl) (of (AW (i:=0) De rfl rfl rfl) (oq (Am rfl) (oq (Aq rfl) (oq (A4 Bf rfl Df rfl rfl) (of (AW (i:=0) D8 rfl rfl rfl) (oq (Bp CA rfl) (oq (E1 rfl rfl) ?_)))))))));exact Co
   refine AS (cz hl rfl (λhz h0=>?_) (λhz h1=>?_))
   ·refine A3 (AS (AO (Ap (ck h0 λh3 h4=>Dh [0,4,9,10,11,12,13,14,15,16,17] [⟨[],rP ha 0,0⟩,⟨[0],rP ha 0,0⟩,⟨[1],rP ha 0,0⟩,⟨[2],rS r1.2.fS,1⟩,⟨[],rP ha 0,0⟩,⟨[4],rP ha 0,0⟩,⟨[5],rP ha 1,0⟩,⟨[6],Ao hb,1⟩,⟨[3,7],rI .u8 (Be r1.2.fS hb),0⟩,⟨[8],rI .u8 (Be r1.2.fS hb),0⟩] [19,20,21,22,23,24,25,26,27,5,0,4,9,10,11,12,13,14,15,16,17] ?_ ?_))))
    ·refine oq (Am rfl) (oq (Aq rfl) (oq (A4 Bf rfl Df rfl rfl) (of (AW (i:=0) D8 rfl rfl rfl) (oq (Am rfl) (oq (Aq rfl) (oq (A4 Bf rfl C2 rfl rfl) (of (AW (i:=0) De rfl rfl rfl) (oq (Bq CA rfl rfl h3) (oq (Az rfl) ?_)))))))));exact Co
    refine AS (Aj (wm rfl (wv (Aq rfl) (vF Bf rfl C2 (vL 0 De rfl (ck h4 λh5 h8=>wv (BQ rfl rfl h5) (wv (Aq rfl) (vF Bf rfl C2 (Bu (i:=0) C2 rfl rfl (BW rfl) rfl rfl (cs':=[rS r1.2.fS,Ao (hb+1),rv v4,rB r1.2.fGreat]) rfl (H':=[.blk ha [rS r1.2.fS,Ao (hb+1),rv v4,rB r1.2.fGreat] 113,.row v4 89 4 (AG Ac r1.2.fCells),.row hg 5 1 (AG Ba hf)]) rfl (Aw (Ct (S:=(Int×Int)×(Unit)) (λσ=>Ei hf σ.1.1 σ.1.2=some hq) (λσ=>[(0,rP ha 0),(4,rv hg),(5,rI .u8 σ.1.1),(9,rP ha 0),(10,rP ha 0),(11,rP ha 1),(12,Ao hb),(13,rP ha 0),(14,rP ha 0),(15,rP ha 0),(16,rS r1.2.fS),(17,Ao (r1.2.fS.length:Int)),(19,rP ha 0),(20,rP ha 0),(21,rP ha 0),(22,rS r1.2.fS),(23,rP ha 0),(24,rP ha 0),(25,rP ha 1),(26,Ao hb),(27,rI .u8 (Be r1.2.fS hb))]) (λσ=>[.blk ha [rS r1.2.fS,Ao σ.1.2,rv v4,rB r1.2.fGreat] 113,.row v4 89 4 (AG Ac r1.2.fCells),.row hg 5 1 (AG Ba hf)]) ?_ ?_)))))))))))
    ·refine AO (Aj (wm rfl (wv (BP rfl rfl) (wa rfl (Aw (cz h8 rfl (λh9 hA=>?_) (λh9 hB=>?_)))))))
     ·refine Aj (wm rfl (wv (r:=rS (Ph hf)) (VT (xs:=hf) (i:=2) EE CA VN rfl rfl) (wa rfl (wa rfl (Aw (A1 (A6 (Af (A6 (Af (Bj ?_)))))))))));have hC:=BB hA hj hk;refine A6 (Af ?_);obtain rfl:=A2 hC;exact A0 (Ie SA (AP rfl) (AP rfl)) (sC (sC (sS sN))) ⟨v4,rfl,rfl⟩
     ·refine AH [(0,rP ha 0),(4,rv hg),(5,rI .u8 (Be r1.2.fS hb)),(9,rP ha 0),(10,rP ha 0),(11,rP ha 1),(12,Ao hb),(13,rP ha 0),(14,rP ha 0),(15,rP ha 0),(16,rS r1.2.fS),(17,Ao (r1.2.fS.length:Int)),(19,rP ha 0),(20,rP ha 0),(21,rP ha 0),(22,rS r1.2.fS),(23,rP ha 0),(24,rP ha 0),(25,rP ha 1),(26,Ao hb),(27,rI .u8 (Be r1.2.fS hb)),(40,rB ((decide ((Be r1.2.fS hb)<32))||(decide (126<(Be r1.2.fS hb)))))] [.blk ha [rS r1.2.fS,Ao (hb+1),rv v4,rB r1.2.fGreat] 113,.row v4 89 4 (AG Ac r1.2.fCells),.row hg 5 1 (AG Ba hf)] ?_ ?_
      ·refine Ak (wm rfl (wv (E1 rfl rfl) (wm rfl (AR (decide ((Be r1.2.fS hb)<32)) (λhh=>?_) (λhh=>?_)))))
       ·refine wf hh (wf hh (wv (r:=rB true) (Ax rfl hh rfl) (wa rfl (An ?_))));exact Dg hh
       ·refine wo hh (wm rfl (wo hh (wv (Et rfl rfl) (It rfl hh rfl (wa rfl (An ?_))))));exact Dg hh
      refine cz hB rfl (λhD hE=>?_) (λhD hG=>?_)
      ·refine Aj (wv (r:=rS ([]:Ae)) (Az rfl) (wa rfl (Aw (A1 (A6 (Af (A6 (Af (Bj ?_)))))))));have hH:=BB hE hj hk;refine A6 (Af ?_);obtain rfl:=A2 hH;exact A0 (Ie SA (AP rfl) (AP rfl)) (sC (sC (sS sN))) ⟨v4,rfl,rfl⟩
      ·refine Aj (wm rfl (wv (BP rfl rfl) (wa rfl (Aw (cz hG rfl (λhI hJ=>?_) (λhI hK=>?_))))))
       ·refine Ap (ck hJ λhr hL=>AH [(0,rP ha 0),(4,rv hg),(9,rP ha 0),(10,rP ha 0),(11,rP ha 1),(12,Ao hb),(13,rP ha 0),(14,rP ha 0),(15,rP ha 0),(16,rS r1.2.fS),(17,Ao (r1.2.fS.length:Int)),(19,rP ha 0),(20,rP ha 0),(21,rP ha 0),(22,rS r1.2.fS),(23,rP ha 0),(24,rP ha 0),(25,rP ha 1),(26,Ao hb),(27,rI .u8 (Be r1.2.fS hb)),(50,rP ha 0),(51,rP ha 0),(52,rP ha 1),(53,Ao (hb+1)),(54,rP ha 0),(55,rP ha 0),(56,rP ha 0),(57,rS r1.2.fS),(58,Ao (r1.2.fS.length:Int)),(59,rB (decide ((r1.2.fS.length:Int)≤(hb+1)))),(60,rB (decide ((r1.2.fS.length:Int)≤(hb+1)))),(83,rB ((decide ((r1.2.fS.length:Int)≤(hb+1)))||((!decide ((Be r1.2.fS (hb+1))=34))&&(!decide ((Be r1.2.fS (hb+1))=92)))))] [.blk ha [rS r1.2.fS,Ao (hb+1),rv v4,rB r1.2.fGreat] 113,.row v4 89 4 (AG Ac r1.2.fCells),.row hg 5 1 (AG Ba hf)] ?_ ?_)
        ·refine AR (decide ((r1.2.fS.length:Int)≤(hb+1))) (λhd=>?_) (λhd=>?_)
         ·refine Dh [0,4,9,10,11,12,13,14,15,16,17,19,20,21,22,23,24,25,26,27] [⟨[],rP ha 0,0⟩,⟨[0],rP ha 0,0⟩,⟨[1],rP ha 1,0⟩,⟨[2],Ao (hb+1),1⟩,⟨[],rP ha 0,0⟩,⟨[4],rP ha 0,0⟩,⟨[5],rP ha 0,0⟩,⟨[6],rS r1.2.fS,1⟩,⟨[7],Ao (r1.2.fS.length:Int),0⟩,⟨[3,8],rB (decide ((r1.2.fS.length:Int)≤(hb+1))),0⟩,⟨[9],rB (decide ((r1.2.fS.length:Int)≤(hb+1))),0⟩,⟨[10],rv undef,0⟩,⟨[11,10],rv undef,0⟩,⟨[12,10],rv undef,0⟩,⟨[13,10],rv undef,0⟩,⟨[10],rv undef,0⟩,⟨[15,10],rv undef,0⟩,⟨[16,10],rv undef,0⟩,⟨[17,10],rv undef,0⟩,⟨[14,18,10],rv undef,0⟩,⟨[19,10],rv undef,0⟩,⟨[20,10],rv undef,0⟩,⟨[21],rv undef,0⟩,⟨[22,21],rv undef,0⟩,⟨[23,21],rv undef,0⟩,⟨[24,21],rv undef,0⟩,⟨[21],rv undef,0⟩,⟨[26,21],rv undef,0⟩,⟨[27,21],rv undef,0⟩,⟨[28,21],rv undef,0⟩,⟨[25,29,21],rv undef,0⟩,⟨[30,21],rv undef,0⟩,⟨[21,31,10],rv undef,0⟩,⟨[10,32],rB true,0⟩] [50,51,52,53,54,55,56,57,58,59,60,61,62,63,64,65,66,67,68,69,70,71,72,73,74,75,76,77,78,79,80,81,82,83,0,4,9,10,11,12,13,14,15,16,17,19,20,21,22,23,24,25,26,27] ?_ ?_
          ·refine oq (Am rfl) (oq (Aq rfl) (oq (A4 Bf rfl C2 rfl rfl) (of (AW (i:=0) De rfl rfl rfl) (oq (Am rfl) (oq (Aq rfl) (oq (A4 Bf rfl Df rfl rfl) (of (AW (i:=0) D8 rfl rfl rfl) (oq (Bp CA rfl) (oq (Ix rfl rfl) (oq (Am rfl) (oz hd (oz hd (oz hd (oz hd (oz hd (oz hd (oz hd (oz hd (oz hd (oz hd (oz hd (ou (ou ?_)))))))))))))))))))))));refine ou (ou (ou (ou (ou (ou (ou (ou (oz hd (oq (Ax (b:=decide ((r1.2.fS.length:Int)≤(hb+1))) rfl hd rfl) ?_)))))))));exact Co
          exact Dg hd
         ·refine AR (!decide ((Be r1.2.fS (hb+1))=34)) (λhe=>?_) (λhe=>?_)
          ·refine Dh [0,4,9,10,11,12,13,14,15,16,17,19,20,21,22,23,24,25,26,27] [⟨[],rP ha 0,0⟩,⟨[0],rP ha 0,0⟩,⟨[1],rP ha 1,0⟩,⟨[2],Ao (hb+1),1⟩,⟨[],rP ha 0,0⟩,⟨[4],rP ha 0,0⟩,⟨[5],rP ha 0,0⟩,⟨[6],rS r1.2.fS,1⟩,⟨[7],Ao (r1.2.fS.length:Int),0⟩,⟨[3,8],rB (decide ((r1.2.fS.length:Int)≤(hb+1))),0⟩,⟨[9],rB (decide ((r1.2.fS.length:Int)≤(hb+1))),0⟩,⟨[10],rP ha 0,0⟩,⟨[11,10],rP ha 0,0⟩,⟨[12,10],rP ha 0,0⟩,⟨[13,10],rS r1.2.fS,1⟩,⟨[10],rP ha 0,0⟩,⟨[15,10],rP ha 0,0⟩,⟨[16,10],rP ha 1,0⟩,⟨[17,10],Ao (hb+1),1⟩,⟨[14,18,10],rI .u8 (Be r1.2.fS (hb+1)),0⟩,⟨[19,10],rB (!decide ((Be r1.2.fS (hb+1))=34)),0⟩,⟨[20,10],rB (!decide ((Be r1.2.fS (hb+1))=34)),0⟩,⟨[21],rP ha 0,0⟩,⟨[22,21],rP ha 0,0⟩,⟨[23,21],rP ha 0,0⟩,⟨[24,21],rS r1.2.fS,1⟩,⟨[21],rP ha 0,0⟩,⟨[26,21],rP ha 0,0⟩,⟨[27,21],rP ha 1,0⟩,⟨[28,21],Ao (hb+1),1⟩,⟨[25,29,21],rI .u8 (Be r1.2.fS (hb+1)),0⟩,⟨[30,21],rB (!decide ((Be r1.2.fS (hb+1))=92)),0⟩,⟨[21,31,10],rB (!decide ((Be r1.2.fS (hb+1))=92)),0⟩,⟨[10,32],rB (!decide ((Be r1.2.fS (hb+1))=92)),0⟩] [50,51,52,53,54,55,56,57,58,59,60,61,62,63,64,65,66,67,68,69,70,71,72,73,74,75,76,77,78,79,80,81,82,83,0,4,9,10,11,12,13,14,15,16,17,19,20,21,22,23,24,25,26,27] ?_ ?_
           ·refine oq (Am rfl) (oq (Aq rfl) (oq (A4 Bf rfl C2 rfl rfl) (of (AW (i:=0) De rfl rfl rfl) (oq (Am rfl) (oq (Aq rfl) (oq (A4 Bf rfl Df rfl rfl) (of (AW (i:=0) D8 rfl rfl rfl) (oq (Bp CA rfl) (oq (Ix rfl rfl) (oq (Am rfl) (on hd (oq (Am rfl) (on hd (oq (Aq rfl) (on hd (oq (A4 Bf rfl Df rfl rfl) (on hd (of (AW (i:=0) D8 rfl rfl rfl) (on hd (oq (Am rfl) (on hd (oq (Aq rfl) (on hd ?_)))))))))))))))))))))));refine oq (A4 Bf rfl C2 rfl rfl) (on hd (of (AW (i:=0) De rfl rfl rfl) (on hd (oq (Bq CA rfl rfl (QI hr hd)) (on hd (oq (D2 rfl rfl) (on hd (oq (Am rfl) (on he (oq (Am rfl) (on he (oq (Aq rfl) (on he (oq (A4 Bf rfl Df rfl rfl) (on he (of (AW (i:=0) D8 rfl rfl rfl) (on he (oq (Am rfl) (on he (oq (Aq rfl) (on he (oq (A4 Bf rfl C2 rfl rfl) (on he ?_)))))))))))))))))))))));refine of (AW (i:=0) De rfl rfl rfl) (on he (oq (Bq CA rfl rfl (QI hr hd)) (on he (oq (D2 rfl rfl) (on hd (oq (Ax rfl he rfl) (oq (AA rfl hd rfl) ?_)))))));exact Co
           exact Dg (And.intro hd he)
          ·refine Dh [0,4,9,10,11,12,13,14,15,16,17,19,20,21,22,23,24,25,26,27] [⟨[],rP ha 0,0⟩,⟨[0],rP ha 0,0⟩,⟨[1],rP ha 1,0⟩,⟨[2],Ao (hb+1),1⟩,⟨[],rP ha 0,0⟩,⟨[4],rP ha 0,0⟩,⟨[5],rP ha 0,0⟩,⟨[6],rS r1.2.fS,1⟩,⟨[7],Ao (r1.2.fS.length:Int),0⟩,⟨[3,8],rB (decide ((r1.2.fS.length:Int)≤(hb+1))),0⟩,⟨[9],rB (decide ((r1.2.fS.length:Int)≤(hb+1))),0⟩,⟨[10],rP ha 0,0⟩,⟨[11,10],rP ha 0,0⟩,⟨[12,10],rP ha 0,0⟩,⟨[13,10],rS r1.2.fS,1⟩,⟨[10],rP ha 0,0⟩,⟨[15,10],rP ha 0,0⟩,⟨[16,10],rP ha 1,0⟩,⟨[17,10],Ao (hb+1),1⟩,⟨[14,18,10],rI .u8 (Be r1.2.fS (hb+1)),0⟩,⟨[19,10],rB (!decide ((Be r1.2.fS (hb+1))=34)),0⟩,⟨[20,10],rB (!decide ((Be r1.2.fS (hb+1))=34)),0⟩,⟨[21],rv undef,0⟩,⟨[22,21],rv undef,0⟩,⟨[23,21],rv undef,0⟩,⟨[24,21],rv undef,0⟩,⟨[21],rv undef,0⟩,⟨[26,21],rv undef,0⟩,⟨[27,21],rv undef,0⟩,⟨[28,21],rv undef,0⟩,⟨[25,29,21],rv undef,0⟩,⟨[30,21],rv undef,0⟩,⟨[21,31,10],rB false,0⟩,⟨[10,32],rB false,0⟩] [50,51,52,53,54,55,56,57,58,59,60,61,62,63,64,65,66,67,68,69,70,71,72,73,74,75,76,77,78,79,80,81,82,83,0,4,9,10,11,12,13,14,15,16,17,19,20,21,22,23,24,25,26,27] ?_ ?_
           ·refine oq (Am rfl) (oq (Aq rfl) (oq (A4 Bf rfl C2 rfl rfl) (of (AW (i:=0) De rfl rfl rfl) (oq (Am rfl) (oq (Aq rfl) (oq (A4 Bf rfl Df rfl rfl) (of (AW (i:=0) D8 rfl rfl rfl) (oq (Bp CA rfl) (oq (Ix rfl rfl) (oq (Am rfl) (on hd (oq (Am rfl) (on hd (oq (Aq rfl) (on hd (oq (A4 Bf rfl Df rfl rfl) (on hd (of (AW (i:=0) D8 rfl rfl rfl) (on hd (oq (Am rfl) (on hd (oq (Aq rfl) (on hd ?_)))))))))))))))))))))));refine oq (A4 Bf rfl C2 rfl rfl) (on hd (of (AW (i:=0) De rfl rfl rfl) (on hd (oq (Bq CA rfl rfl (QI hr hd)) (on hd (oq (D2 rfl rfl) (on hd (oq (Am rfl) (oz he (oz he (oz he (oz he (oz he (oz he (oz he (oz he (oz he (oz he (on hd (oq (AA (b:=!decide ((Be r1.2.fS (hb+1))=34)) rfl he rfl) (oq (AA rfl hd rfl) ?_)))))))))))))))))))));exact Co
           exact Dg (And.intro hd he)
        refine cz hL rfl (λhN hO=>?_) (λhN hP=>?_)
        ·refine Aj (wv (r:=rS ([]:Ae)) (Az rfl) (wa rfl (Aw (A1 (Af (A6 (Af (A6 (Af (Bj ?_))))))))));have hQ:=BB hO hj hk;refine A6 (Af ?_);obtain rfl:=A2 hQ;exact A0 (Ie SA (AP rfl) (AP rfl)) (sC (sC (sS sN))) ⟨v4,rfl,rfl⟩
        ·refine A3 (AS (Ap (ck hP λhR hS=>Dh [0,4,9,10,11,12,13,14,15,16,17,19,20,21,22,23,24,25,26,27,50,51,52,53,54,55,56,57,58,59,60] [⟨[],rP ha 0,0⟩,⟨[0],rP ha 0,0⟩,⟨[1],rP ha 0,0⟩,⟨[2],rS r1.2.fS,1⟩,⟨[],rP ha 0,0⟩,⟨[4],rP ha 0,0⟩,⟨[5],rP ha 1,0⟩,⟨[6],Ao (hb+1),1⟩,⟨[3,7],rI .u8 (Be r1.2.fS (hb+1)),0⟩,⟨[8],rI .u8 (Be r1.2.fS (hb+1)),0⟩] [84,85,86,87,88,89,90,91,92,5,0,4,9,10,11,12,13,14,15,16,17,19,20,21,22,23,24,25,26,27,50,51,52,53,54,55,56,57,58,59,60] ?_ ?_)))
         ·refine oq (Am rfl) (oq (Aq rfl) (oq (A4 Bf rfl Df rfl rfl) (of (AW (i:=0) D8 rfl rfl rfl) (oq (Am rfl) (oq (Aq rfl) (oq (A4 Bf rfl C2 rfl rfl) (of (AW (i:=0) De rfl rfl rfl) (oq (Bq CA rfl rfl hR) (oq (Az rfl) ?_)))))))));exact Co
         exact AS (Ak (wm rfl (wv (Aq rfl) (vF Bf rfl C2 (vL 0 De rfl (ck hS λhT hU=>wv (BQ rfl rfl hT) (wv (Aq rfl) (vF Bf rfl C2 (Bu (i:=0) C2 rfl rfl (BW rfl) rfl rfl (cs':=[rS r1.2.fS,Ao ((hb+1)+1),rv v4,rB r1.2.fGreat]) rfl (H':=[.blk ha [rS r1.2.fS,Ao ((hb+1)+1),rv v4,rB r1.2.fGreat] 113,.row v4 89 4 (AG Ac r1.2.fCells),.row hg 5 1 (AG Ba hf)]) rfl (An (AK (Au (AF ((Be r1.2.fS (hb+1),(hb+1)+1),()) hU (AD.c rfl (AD.c5 rfl rfl rfl rfl rfl (AD.c5 rfl rfl rfl rfl rfl (AD.c5 rfl rfl rfl rfl rfl (AD.c5 rfl rfl rfl rfl rfl AD.nil))))) (sC (sC (sC sN))))))))))))))))
       ·exact A3 (AK (Au (AF ((Be r1.2.fS hb,hb+1),()) hK (AD.c rfl (AD.c5 rfl rfl rfl rfl rfl (AD.c5 rfl rfl rfl rfl rfl (AD.c5 rfl rfl rfl rfl rfl (AD.c5 rfl rfl rfl rfl rfl AD.nil))))) (sC (sC (sC sN))))))
    ·rintro⟨⟨hi,hm⟩,⟨⟩⟩ hn;refine Cn (l':=[(0,rP ha 0),(4,rv hg),(5,rI .u8 hi),(9,rP ha 0),(10,rP ha 0),(11,rP ha 1),(12,Ao hb),(13,rP ha 0),(14,rP ha 0),(15,rP ha 0),(16,rS r1.2.fS),(17,Ao (r1.2.fS.length:Int)),(19,rP ha 0),(20,rP ha 0),(21,rP ha 0),(22,rS r1.2.fS),(23,rP ha 0),(24,rP ha 0),(25,rP ha 1),(26,Ao hb),(27,rI .u8 (Be r1.2.fS hb))]) (H':=[.blk ha [rS r1.2.fS,Ao hm,rv v4,rB r1.2.fGreat] 113,.row v4 89 4 (AG Ac r1.2.fCells),.row hg 5 1 (AG Ba hf)]) rfl rfl ?_;replace hn:Ei hf hi hm=some hq:=hn;unfold Ei at hn;refine Ak (wm rfl (wm rfl (Bo (ys:=([hi]:List Int)) (enc:=Ba) (css:=[[rI .u8 hi]]) (xs:=[.tmp 101]) EE WY WX rfl rfl rfl ⟨Ja.one rfl (Up.refl _),trivial⟩ rfl D4 rfl rfl rfl (λhV=>?_))));refine ck hn λhW hX=>Exists.elim LQ λinf hinf=>Cj (xs:=hf) (ys:=([hi]:List Int)) (enc:=Ba) (i:=3) EE hinf.1 hinf.2.1 hinf.2.2.1 hinf.2.2.2 rfl rfl rfl rfl rfl (Li.w (i:=0) rfl rfl) D4 Iq hW rfl (λhs=>?_);refine wa rfl (An (AK (Ce (H2:=[.blk ha [rS r1.2.fS,Ao hm,rv v4,rB r1.2.fGreat] 113,.row v4 89 4 (AG Ac r1.2.fCells),.row hs 5 1 (AG Ba (hf++([hi]:List Int))),.row (.slice (some ⟨hV,0,none⟩) 1 1) 5 1 (AG Ba ([hi]:List Int))]) ((As (i:=2) rfl).trans (Yy _ ((As (i:=2) rfl).trans (Yy _ (Ys _))))) ?_)));have hY:=BD hX hj;exact Au (AF (hy,(hf++([hi]:List Int),hm),hs) ⟨hY,YI _⟩ (AD.c rfl (AD.c rfl AD.nil)) (sC (sC (sC (sS sN)))))
   ·refine BJ (AB ?_);have hZ:=CY h1 hj hk;exact AB (B4 (AF (hb,()) hZ AD.nil (sC (sC (sS sN)))))
  ·rintro⟨ht,⟨⟩⟩ ho;refine Eh (l':=[]) (H':=[.blk ha [rS r1.2.fS,Ao ht,rv v4,rB r1.2.fGreat] 113,.row v4 89 4 (AG Ac r1.2.fCells)]) rfl rfl ?_;replace ho:GF r1 ht=some r:=ho;unfold GF at ho;refine Bt (AS (Aj (wv (r:=rS ([]:Ae)) (Az rfl) (wa rfl (Aw (A1 ?_))))));obtain rfl:=A2 ho;exact A0 (Ie SA (AP rfl) (AP rfl)) (sC (sC sN)) ⟨v4,rfl,rfl⟩
theorem UQ (F:Nat)(ha:Nat)(hl:Value)(q:Ai)(r:Bool×Ai)(h:Ls F q=some r):Fn Tryz.prog GE 123 [rP ha 0] [.blk ha [rS q.fS,Ao q.fAt,rv hl,rB q.fGreat] 113,.row hl 89 4 (AG Ac q.fCells)] (λR H=>∃w0_2:Value,R=rB r.1∧H=[.blk ha [rS r.2.fS,Ao r.2.fAt,rv w0_2,rB r.2.fGreat] 113,.row w0_2 89 4 (AG Ac r.2.fCells)]):=by
 refine enter (n:=104) Tryz.func123 rfl Tryz.ntmps123 rfl (λw Z=>?_);unfold Ls at h;refine Aj (wa rfl (B5 (wm rfl (wv (Aq rfl) (vF Bf rfl C2 (vL 0 De rfl (wa rfl (B5 (wm rfl (ob h λr1 e3 h2=>Du (Hr:=[]) IF (CK ha hl q ([45]:Ae) r1 e3) rfl (Ys _) rfl ?_))))))))));rintro _ _ ⟨v4,rfl,rfl⟩;refine B5 (wm rfl (wv (Aq rfl) (vF Bf rfl C2 (vL 0 De rfl (wa rfl (Aw (Ap (AO (ob h2 λhp hq hr=>BH (S:=Nat×(Int)×(Unit)) (V:=(Int)×(Unit)) 0 (λσ=>Cs (λσ=>DA r1 σ) σ.1 σ.2.1=some hp) (λσ=>[(0,rP ha 0),(3,Ao q.fAt),(4,Ao r1.2.fAt)]) (λσ=>[.blk ha [rS r1.2.fS,Ao σ.2.1,rv v4,rB r1.2.fGreat] 113,.row v4 89 4 (AG Ac r1.2.fCells)]) (λσ=>σ.1) (F,r1.2.fAt,()) hq (AD.c rfl (AD.c rfl (AD.c rfl AD.nil))) (sC (sC sN)) (λσ=>H4 q r1 σ.1=some r) (λσ=>[(0,rP ha 0),(3,Ao q.fAt),(4,Ao r1.2.fAt)]) (λσ=>[.blk ha [rS r1.2.fS,Ao σ.1,rv v4,rB r1.2.fGreat] 113,.row v4 89 4 (AG Ac r1.2.fCells)]) ?_ ?_)))))))))
 ·rintro⟨hH,hd,⟨⟩⟩ hs;refine Cn (l':=[(0,rP ha 0),(3,Ao q.fAt),(4,Ao r1.2.fAt)]) (H':=[.blk ha [rS r1.2.fS,Ao hd,rv v4,rB r1.2.fGreat] 113,.row v4 89 4 (AG Ac r1.2.fCells)]) rfl rfl ?_;obtain⟨ht,rfl,hu,hj,hn⟩:=DY hs;replace hj:DA r1 hd=some hu:=hj;unfold DA at hj;refine Ap (ck hj λhm hw=>AH [(0,rP ha 0),(3,Ao q.fAt),(4,Ao r1.2.fAt),(17,rP ha 0),(18,rP ha 0),(19,rP ha 1),(20,Ao hd),(21,rP ha 0),(22,rP ha 0),(23,rP ha 0),(24,rS r1.2.fS),(25,Ao (r1.2.fS.length:Int)),(26,rB (decide (hd<(r1.2.fS.length:Int)))),(27,rB (decide (hd<(r1.2.fS.length:Int)))),(38,rB ((decide (hd<(r1.2.fS.length:Int)))&&(decide (48≤(Be r1.2.fS hd))))),(39,rB ((decide (hd<(r1.2.fS.length:Int)))&&(decide (48≤(Be r1.2.fS hd))))),(50,rB ((decide (hd<(r1.2.fS.length:Int)))&&((decide (48≤(Be r1.2.fS hd)))&&(decide ((Be r1.2.fS hd)≤57)))))] [.blk ha [rS r1.2.fS,Ao hd,rv v4,rB r1.2.fGreat] 113,.row v4 89 4 (AG Ac r1.2.fCells)] ?_ ?_)
  ·refine AR (decide (hd<(r1.2.fS.length:Int))) (λhe=>?_) (λhe=>?_)
   ·refine AR (decide (48≤(Be r1.2.fS hd))) (λhf=>?_) (λhf=>?_)
    ·refine Dh [0,3,4] [⟨[],rP ha 0,0⟩,⟨[0],rP ha 0,0⟩,⟨[1],rP ha 1,0⟩,⟨[2],Ao hd,1⟩,⟨[],rP ha 0,0⟩,⟨[4],rP ha 0,0⟩,⟨[5],rP ha 0,0⟩,⟨[6],rS r1.2.fS,1⟩,⟨[7],Ao (r1.2.fS.length:Int),0⟩,⟨[3,8],rB (decide (hd<(r1.2.fS.length:Int))),0⟩,⟨[9],rB (decide (hd<(r1.2.fS.length:Int))),0⟩,⟨[10],rP ha 0,0⟩,⟨[11,10],rP ha 0,0⟩,⟨[12,10],rP ha 0,0⟩,⟨[13,10],rS r1.2.fS,1⟩,⟨[10],rP ha 0,0⟩,⟨[15,10],rP ha 0,0⟩,⟨[16,10],rP ha 1,0⟩,⟨[17,10],Ao hd,1⟩,⟨[14,18,10],rI .u8 (Be r1.2.fS hd),0⟩,⟨[19,10],rB (decide (48≤(Be r1.2.fS hd))),0⟩,⟨[10,20],rB (decide (48≤(Be r1.2.fS hd))),0⟩,⟨[21],rB (decide (48≤(Be r1.2.fS hd))),0⟩,⟨[22],rP ha 0,0⟩,⟨[23,22],rP ha 0,0⟩,⟨[24,22],rP ha 0,0⟩,⟨[25,22],rS r1.2.fS,1⟩,⟨[22],rP ha 0,0⟩,⟨[27,22],rP ha 0,0⟩,⟨[28,22],rP ha 1,0⟩,⟨[29,22],Ao hd,1⟩,⟨[26,30,22],rI .u8 (Be r1.2.fS hd),0⟩,⟨[31,22],rB (decide ((Be r1.2.fS hd)≤57)),0⟩,⟨[22,32],rB (decide ((Be r1.2.fS hd)≤57)),0⟩] [17,18,19,20,21,22,23,24,25,26,27,28,29,30,31,32,33,34,35,36,37,38,39,40,41,42,43,44,45,46,47,48,49,50,0,3,4] ?_ ?_
     ·refine oq (Am rfl) (oq (Aq rfl) (oq (A4 Bf rfl C2 rfl rfl) (of (AW (i:=0) De rfl rfl rfl) (oq (Am rfl) (oq (Aq rfl) (oq (A4 Bf rfl Df rfl rfl) (of (AW (i:=0) D8 rfl rfl rfl) (oq (Bp CA rfl) (oq (E1 rfl rfl) (oq (Am rfl) (on he (oq (Am rfl) (on he (oq (Aq rfl) (on he (oq (A4 Bf rfl Df rfl rfl) (on he (of (AW (i:=0) D8 rfl rfl rfl) (on he (oq (Am rfl) (on he (oq (Aq rfl) (on he ?_)))))))))))))))))))))));refine oq (A4 Bf rfl C2 rfl rfl) (on he (of (AW (i:=0) De rfl rfl rfl) (on he (oq (Bq CA rfl rfl (HK hm he)) (on he (oq (Ix rfl rfl) (oq (Ax rfl he rfl) (oq (Am rfl) (on hf (oq (Am rfl) (on hf (oq (Aq rfl) (on hf (oq (A4 Bf rfl Df rfl rfl) (on hf (of (AW (i:=0) D8 rfl rfl rfl) (on hf (oq (Am rfl) (on hf (oq (Aq rfl) (on hf (oq (A4 Bf rfl C2 rfl rfl) (on hf ?_)))))))))))))))))))))));refine of (AW (i:=0) De rfl rfl rfl) (on hf (oq (Bq CA rfl rfl (HK hm he)) (on hf (oq (Kc rfl rfl) (oq (Ax rfl hf rfl) ?_)))));exact Co
     exact Dg (And.intro he hf)
    ·refine Dh [0,3,4] [⟨[],rP ha 0,0⟩,⟨[0],rP ha 0,0⟩,⟨[1],rP ha 1,0⟩,⟨[2],Ao hd,1⟩,⟨[],rP ha 0,0⟩,⟨[4],rP ha 0,0⟩,⟨[5],rP ha 0,0⟩,⟨[6],rS r1.2.fS,1⟩,⟨[7],Ao (r1.2.fS.length:Int),0⟩,⟨[3,8],rB (decide (hd<(r1.2.fS.length:Int))),0⟩,⟨[9],rB (decide (hd<(r1.2.fS.length:Int))),0⟩,⟨[10],rP ha 0,0⟩,⟨[11,10],rP ha 0,0⟩,⟨[12,10],rP ha 0,0⟩,⟨[13,10],rS r1.2.fS,1⟩,⟨[10],rP ha 0,0⟩,⟨[15,10],rP ha 0,0⟩,⟨[16,10],rP ha 1,0⟩,⟨[17,10],Ao hd,1⟩,⟨[14,18,10],rI .u8 (Be r1.2.fS hd),0⟩,⟨[19,10],rB (decide (48≤(Be r1.2.fS hd))),0⟩,⟨[10,20],rB (decide (48≤(Be r1.2.fS hd))),0⟩,⟨[21],rB (decide (48≤(Be r1.2.fS hd))),0⟩,⟨[22],rv undef,0⟩,⟨[23,22],rv undef,0⟩,⟨[24,22],rv undef,0⟩,⟨[25,22],rv undef,0⟩,⟨[22],rv undef,0⟩,⟨[27,22],rv undef,0⟩,⟨[28,22],rv undef,0⟩,⟨[29,22],rv undef,0⟩,⟨[26,30,22],rv undef,0⟩,⟨[31,22],rv undef,0⟩,⟨[22,32],rB false,0⟩] [17,18,19,20,21,22,23,24,25,26,27,28,29,30,31,32,33,34,35,36,37,38,39,40,41,42,43,44,45,46,47,48,49,50,0,3,4] ?_ ?_
     ·refine oq (Am rfl) (oq (Aq rfl) (oq (A4 Bf rfl C2 rfl rfl) (of (AW (i:=0) De rfl rfl rfl) (oq (Am rfl) (oq (Aq rfl) (oq (A4 Bf rfl Df rfl rfl) (of (AW (i:=0) D8 rfl rfl rfl) (oq (Bp CA rfl) (oq (E1 rfl rfl) (oq (Am rfl) (on he (oq (Am rfl) (on he (oq (Aq rfl) (on he (oq (A4 Bf rfl Df rfl rfl) (on he (of (AW (i:=0) D8 rfl rfl rfl) (on he (oq (Am rfl) (on he (oq (Aq rfl) (on he ?_)))))))))))))))))))))));refine oq (A4 Bf rfl C2 rfl rfl) (on he (of (AW (i:=0) De rfl rfl rfl) (on he (oq (Bq CA rfl rfl (HK hm he)) (on he (oq (Ix rfl rfl) (oq (Ax rfl he rfl) (oq (Am rfl) (oz hf (oz hf (oz hf (oz hf (oz hf (oz hf (oz hf (oz hf (oz hf (oz hf (oq (AA (b:=decide (48≤(Be r1.2.fS hd))) rfl hf rfl) ?_)))))))))))))))))));exact Co
     exact Dg (And.intro he hf)
   ·refine Dh [0,3,4] [⟨[],rP ha 0,0⟩,⟨[0],rP ha 0,0⟩,⟨[1],rP ha 1,0⟩,⟨[2],Ao hd,1⟩,⟨[],rP ha 0,0⟩,⟨[4],rP ha 0,0⟩,⟨[5],rP ha 0,0⟩,⟨[6],rS r1.2.fS,1⟩,⟨[7],Ao (r1.2.fS.length:Int),0⟩,⟨[3,8],rB (decide (hd<(r1.2.fS.length:Int))),0⟩,⟨[9],rB (decide (hd<(r1.2.fS.length:Int))),0⟩,⟨[10],rv undef,0⟩,⟨[11,10],rv undef,0⟩,⟨[12,10],rv undef,0⟩,⟨[13,10],rv undef,0⟩,⟨[10],rv undef,0⟩,⟨[15,10],rv undef,0⟩,⟨[16,10],rv undef,0⟩,⟨[17,10],rv undef,0⟩,⟨[14,18,10],rv undef,0⟩,⟨[19,10],rv undef,0⟩,⟨[10,20],rB false,0⟩,⟨[21],rB false,0⟩,⟨[22],rv undef,0⟩,⟨[23,22],rv undef,0⟩,⟨[24,22],rv undef,0⟩,⟨[25,22],rv undef,0⟩,⟨[22],rv undef,0⟩,⟨[27,22],rv undef,0⟩,⟨[28,22],rv undef,0⟩,⟨[29,22],rv undef,0⟩,⟨[26,30,22],rv undef,0⟩,⟨[31,22],rv undef,0⟩,⟨[22,32],rB false,0⟩] [17,18,19,20,21,22,23,24,25,26,27,28,29,30,31,32,33,34,35,36,37,38,39,40,41,42,43,44,45,46,47,48,49,50,0,3,4] ?_ ?_
    ·refine oq (Am rfl) (oq (Aq rfl) (oq (A4 Bf rfl C2 rfl rfl) (of (AW (i:=0) De rfl rfl rfl) (oq (Am rfl) (oq (Aq rfl) (oq (A4 Bf rfl Df rfl rfl) (of (AW (i:=0) D8 rfl rfl rfl) (oq (Bp CA rfl) (oq (E1 rfl rfl) (oq (Am rfl) (oz he (oz he (oz he (oz he (oz he (oz he (oz he (oz he (oz he (oz he (oq (AA (b:=decide (hd<(r1.2.fS.length:Int))) rfl he rfl) (oq (Am rfl) (oz rfl ?_)))))))))))))))))))))));refine oz rfl (oz rfl (oz rfl (oz rfl (oz rfl (oz rfl (oz rfl (oz rfl (oz rfl (oq (AA (b:=false) rfl rfl rfl) ?_)))))))));exact Co
    exact Dg he
  refine cz hw rfl (λhx hy=>?_) (λhx hz=>?_)
  ·refine A3 (AS (AO (Ak (wm rfl (wv (Aq rfl) (vF Bf rfl C2 (vL 0 De rfl (ck hy λh0 h1=>wv (BQ rfl rfl h0) (wv (Aq rfl) (vF Bf rfl C2 (Bu (i:=0) C2 rfl rfl (BW rfl) rfl rfl (cs':=[rS r1.2.fS,Ao (hd+1),rv v4,rB r1.2.fGreat]) rfl (H':=[.blk ha [rS r1.2.fS,Ao (hd+1),rv v4,rB r1.2.fGreat] 113,.row v4 89 4 (AG Ac r1.2.fCells)]) rfl (An (AK ?_)))))))))))));have h3:=BD h1 hn;exact Au (AF (ht,hd+1,()) ⟨h3,YI _⟩ (AD.c rfl (AD.c rfl (AD.c rfl AD.nil))) (sC (sC sN)))
  ·refine BJ (AB ?_);have h4:=CY hz hn hr;exact AB (B4 (AF (hd,()) h4 (AD.c rfl (AD.c rfl (AD.c rfl AD.nil))) (sC (sC sN))))
 ·rintro⟨hb,⟨⟩⟩ hk;refine Eh (l':=[(0,rP ha 0),(3,Ao q.fAt),(4,Ao r1.2.fAt)]) (H':=[.blk ha [rS r1.2.fS,Ao hb,rv v4,rB r1.2.fGreat] 113,.row v4 89 4 (AG Ac r1.2.fCells)]) rfl rfl ?_;replace hk:H4 q r1 hb=some r:=hk;unfold H4 at hk;refine Bt (AS (Ap (ck hk λh5 h6=>ck h6 λh7 h8=>ck h8 λh9 hA=>Dh [0,3,4] [⟨[],rP ha 0,0⟩,⟨[0],rP ha 0,0⟩,⟨[1],rP ha 0,0⟩,⟨[2],rS r1.2.fS,1⟩,⟨[],Ao q.fAt,0⟩,⟨[],rP ha 0,0⟩,⟨[5],rP ha 0,0⟩,⟨[6],rP ha 1,0⟩,⟨[7],Ao hb,1⟩,⟨[3,4,8],rS (List.take (Bh hb-Bh q.fAt) (List.drop (Bh q.fAt) r1.2.fS)),0⟩,⟨[9],C0 [Ao (Bn (List.take (Bh hb-Bh q.fAt) (List.drop (Bh q.fAt) r1.2.fS))),Ao (B1 (List.take (Bh hb-Bh q.fAt) (List.drop (Bh q.fAt) r1.2.fS)))],0⟩,⟨[10],C0 [Ao (Bn (List.take (Bh hb-Bh q.fAt) (List.drop (Bh q.fAt) r1.2.fS))),Ao (B1 (List.take (Bh hb-Bh q.fAt) (List.drop (Bh q.fAt) r1.2.fS)))],0⟩,⟨[11],Ao (Bn (List.take (Bh hb-Bh q.fAt) (List.drop (Bh q.fAt) r1.2.fS))),0⟩,⟨[11],Ao (B1 (List.take (Bh hb-Bh q.fAt) (List.drop (Bh q.fAt) r1.2.fS))),0⟩,⟨[12],Ao (Bn (List.take (Bh hb-Bh q.fAt) (List.drop (Bh q.fAt) r1.2.fS))),0⟩,⟨[13],Ao (B1 (List.take (Bh hb-Bh q.fAt) (List.drop (Bh q.fAt) r1.2.fS))),0⟩] [5,6,0,4] ?_ ?_)))
  ·refine oq (Am rfl) (oq (Aq rfl) (oq (A4 Bf rfl Df rfl rfl) (of (AW (i:=0) D8 rfl rfl rfl) (oq (Am rfl) (oq (Am rfl) (oq (Aq rfl) (oq (A4 Bf rfl C2 rfl rfl) (of (AW (i:=0) De rfl rfl rfl) (oq (LH CA rfl rfl rfl h5 h7) (GO rfl (λH=>J4 (rs:=[rS (List.take (Bh hb-Bh q.fAt) (List.drop (Bh q.fAt) r1.2.fS))]) (r:=C0 [Ao (Bn (List.take (Bh hb-Bh q.fAt) (List.drop (Bh q.fAt) r1.2.fS))),Ao (B1 (List.take (Bh hb-Bh q.fAt) (List.drop (Bh q.fAt) r1.2.fS)))]) Tryz.call46 rfl (Qz (List.take (Bh hb-Bh q.fAt) (List.drop (Bh q.fAt) r1.2.fS)) h9) rfl) ?_))))))))));refine oq (Am rfl) (oq (AI rfl rfl) (oq (AI rfl rfl) (oq (Az rfl) (oq (Az rfl) ?_))));exact Co
  refine AS (Ap (AH [(0,rP ha 0),(5,Ao (Bn (List.take (Bh hb-Bh q.fAt) (List.drop (Bh q.fAt) r1.2.fS)))),(6,Ao (B1 (List.take (Bh hb-Bh q.fAt) (List.drop (Bh q.fAt) r1.2.fS)))),(81,rB ((decide ((B1 (List.take (Bh hb-Bh q.fAt) (List.drop (Bh q.fAt) r1.2.fS)))=1))||(decide (r1.2.fAt=hb))))] [.blk ha [rS r1.2.fS,Ao hb,rv v4,rB r1.2.fGreat] 113,.row v4 89 4 (AG Ac r1.2.fCells)] ?_ ?_))
  ·refine Ak (wm rfl (wv (BP rfl rfl) (wm rfl (AR (decide ((B1 (List.take (Bh hb-Bh q.fAt) (List.drop (Bh q.fAt) r1.2.fS)))=1)) (λhg=>?_) (λhg=>?_)))))
   ·refine wf hg (wf hg (wf hg (wf hg (wf hg (wf hg (wv (r:=rB true) (Ax rfl hg rfl) (An ?_)))))));exact Dg hg
   ·refine wo hg (wm rfl (wo hg (wm rfl (wo hg (wv (Aq rfl) (wo hg (vF Bf rfl C2 (wo hg (vL 0 De rfl (wo hg (wv (BP rfl rfl) (It rfl hg rfl (An ?_)))))))))))));exact Dg hg
  refine cz hA rfl (λhB hC=>?_) (λhB hD=>?_)
  ·refine Aj (wa rfl (Aw (A1 (Af ?_))));obtain rfl:=A2 hC;exact A0 (BX Tryz.results123 (AP rfl)) (sC (sC sN)) ⟨v4,rfl,rfl⟩
  ·refine A3 (AS (AH [(0,rP ha 0),(5,Ao (Bn (List.take (Bh hb-Bh q.fAt) (List.drop (Bh q.fAt) r1.2.fS))))] [.blk ha [rS r1.2.fS,Ao hb,rv v4,rB (r1.2.fGreat||(!decide ((B1 (List.take (Bh hb-Bh q.fAt) (List.drop (Bh q.fAt) r1.2.fS)))=0)))] 113,.row v4 89 4 (AG Ac r1.2.fCells)] ?_ ?_))
   ·refine Ak (wm rfl (wm rfl (wv (Aq rfl) (vF Bf rfl Gs (vL 0 Qd rfl (wm rfl (AR (r1.2.fGreat) (λhh=>?_) (λhh=>?_))))))))
    ·refine wf hh (wf hh (wv (r:=rB true) (Ax rfl hh rfl) (wv (Aq rfl) (vF Bf rfl Gs (Bu (i:=0) Gs rfl rfl (BW rfl) rfl rfl (cs':=[rS r1.2.fS,Ao hb,rv v4,rB true]) rfl (H':=[.blk ha [rS r1.2.fS,Ao hb,rv v4,rB true] 113,.row v4 89 4 (AG Ac r1.2.fCells)]) rfl (An (Ga (H':=[.blk ha [rS r1.2.fS,Ao hb,rv v4,rB (r1.2.fGreat||(!decide ((B1 (List.take (Bh hb-Bh q.fAt) (List.drop (Bh q.fAt) r1.2.fS)))=0)))] 113,.row v4 89 4 (AG Ac r1.2.fCells)]) (by simp only[hh,Y5,YA,YK,Y7,YB,YF,YJ,YD,Y3,YE,Yw,Yt]) ?_)))))));exact wt
    ·refine wo hh (wm rfl (wo hh (wv (D2 rfl rfl) (It rfl hh rfl (wv (Aq rfl) (vF Bf rfl Gs (Bu (i:=0) Gs rfl rfl (BW rfl) rfl rfl (cs':=[rS r1.2.fS,Ao hb,rv v4,rB (!decide ((B1 (List.take (Bh hb-Bh q.fAt) (List.drop (Bh q.fAt) r1.2.fS)))=0))]) rfl (H':=[.blk ha [rS r1.2.fS,Ao hb,rv v4,rB (!decide ((B1 (List.take (Bh hb-Bh q.fAt) (List.drop (Bh q.fAt) r1.2.fS)))=0))] 113,.row v4 89 4 (AG Ac r1.2.fCells)]) rfl (An (Ga (H':=[.blk ha [rS r1.2.fS,Ao hb,rv v4,rB (r1.2.fGreat||(!decide ((B1 (List.take (Bh hb-Bh q.fAt) (List.drop (Bh q.fAt) r1.2.fS)))=0)))] 113,.row v4 89 4 (AG Ac r1.2.fCells)]) (by simp only[hh,Y5,YA,YK,Y7,YB,YF,YJ,YD,Y3,YE,Yw,Yt]) ?_)))))))));exact wt
   refine Aj (wm rfl (wm rfl (wv (Aq rfl) (vF Bf rfl CB (vL 0 EI rfl (wm rfl (wv (r:=Bm [Ao 3,Ao (Bn (List.take (Bh hb-Bh q.fAt) (List.drop (Bh q.fAt) r1.2.fS))),rS ([]:Ae),Ao 0]) (I9 rfl rfl rfl rfl) (Bo (ys:=([(Aa.mk 3 (Bn (List.take (Bh hb-Bh q.fAt) (List.drop (Bh q.fAt) r1.2.fS))) ([]:Ae) 0)]:List Aa)) (enc:=Ac) (css:=[[Ao 3,Ao (Bn (List.take (Bh hb-Bh q.fAt) (List.drop (Bh q.fAt) r1.2.fS))),rS ([]:Ae),Ao 0]]) (xs:=[.tmp 99]) C1 D7 KG rfl rfl rfl ⟨Ja.agg ⟨Up.refl _,Up.refl _,Up.refl _,Up.refl _,trivial⟩,trivial⟩ rfl Bb rfl rfl rfl (λho=>?_)))))))));refine ck hD λhE hG=>Exists.elim Hj λinf hinf=>Cj (xs:=r1.2.fCells) (ys:=([(Aa.mk 3 (Bn (List.take (Bh hb-Bh q.fAt) (List.drop (Bh q.fAt) r1.2.fS))) ([]:Ae) 0)]:List Aa)) (enc:=Ac) (i:=2) C1 hinf.1 hinf.2.1 hinf.2.2.1 hinf.2.2.2 rfl rfl rfl rfl rfl (Li.w (i:=0) rfl rfl) Bb Cf hE rfl (λhi=>?_);refine wv (Aq rfl) (vF Bf rfl CB (Bu (i:=2) CB rfl rfl (D1 (i:=0) rfl) rfl rfl (cs':=[rS r1.2.fS,Ao hb,rv hi,rB (r1.2.fGreat||(!decide ((B1 (List.take (Bh hb-Bh q.fAt) (List.drop (Bh q.fAt) r1.2.fS)))=0)))]) rfl (H':=[.row hi 89 4 (AG Ac (r1.2.fCells++([(Aa.mk 3 (Bn (List.take (Bh hb-Bh q.fAt) (List.drop (Bh q.fAt) r1.2.fS))) ([]:Ae) 0)]:List Aa))),.row (.slice (some ⟨ho,0,none⟩) 1 1) 89 4 (AG Ac ([(Aa.mk 3 (Bn (List.take (Bh hb-Bh q.fAt) (List.drop (Bh q.fAt) r1.2.fS))) ([]:Ae) 0)]:List Aa)),.blk ha [rS r1.2.fS,Ao hb,rv hi,rB (r1.2.fGreat||(!decide ((B1 (List.take (Bh hb-Bh q.fAt) (List.drop (Bh q.fAt) r1.2.fS)))=0)))] 113]) rfl (B5 (wa rfl (Aw (A1 (Ce (H2:=[.blk ha [rS r1.2.fS,Ao hb,rv hi,rB (r1.2.fGreat||(!decide ((B1 (List.take (Bh hb-Bh q.fAt) (List.drop (Bh q.fAt) r1.2.fS)))=0)))] 113,.row hi 89 4 (AG Ac (r1.2.fCells++([(Aa.mk 3 (Bn (List.take (Bh hb-Bh q.fAt) (List.drop (Bh q.fAt) r1.2.fS))) ([]:Ae) 0)]:List Aa))),.row (.slice (some ⟨ho,0,none⟩) 1 1) 89 4 (AG Ac ([(Aa.mk 3 (Bn (List.take (Bh hb-Bh q.fAt) (List.drop (Bh q.fAt) r1.2.fS))) ([]:Ae) 0)]:List Aa))]) ((As (i:=2) rfl).trans (Yy _ (Ys _))) ?_)))))));obtain rfl:=A2 hG;exact A0 (BX Tryz.results123 (AP rfl)) (sC (sC (sS sN))) ⟨hi,rfl,rfl⟩
theorem Pq (F:Nat)(hd:Nat)(hk:Value)(q:Ai)(r:Bool×Ai)(h:GG F q=some r):Fn Tryz.prog GE 98 [rP hd 0] [.blk hd [rS q.fS,Ao q.fAt,rv hk,rB q.fGreat] 113,.row hk 89 4 (AG Ac q.fCells)] (λR H=>∃w0_2:Value,R=rB r.1∧H=[.blk hd [rS r.2.fS,Ao r.2.fAt,rv w0_2,rB r.2.fGreat] 113,.row w0_2 89 4 (AG Ac r.2.fCells)]):=by
 refine enter (n:=75) Tryz.func98 rfl Tryz.ntmps98 rfl (λw Z=>?_);unfold GG at h;refine Aj (wa rfl (Aw (Ct (S:=(Ae×Int×(List Aa)×Bool)×(Value)) (λσ=>Dl σ.1.1 σ.1.2.1 σ.1.2.2.1 σ.1.2.2.2=some r) (λσ=>[]) (λσ=>[.blk hd [rS σ.1.1,Ao σ.1.2.1,rv σ.2,rB σ.1.2.2.2] 113,.row σ.2 89 4 (AG Ac σ.1.2.2.1)]) ?_ ?_)))
 ·refine AO (Aj (wm rfl (ob h λhe hx hy=>Du (Hr:=[]) IF (CK hd hk q ([110,117,108,108]:Ae) he hx) rfl (Ys _) rfl ?_)));rintro _ _ ⟨hz,rfl,rfl⟩;refine wa rfl (Aw (cz hy rfl (λh0 h1=>?_) (λh0 h2=>?_)))
  ·refine Ak (wm rfl (wm rfl (wv (Aq rfl) (vF Bf rfl CB (vL 0 EI rfl (wv (r:=Bm [Ao 1,Ao 0,rS ([]:Ae),Ao 0]) (EA rfl rfl) (Bo (ys:=([(Aa.mk 1 0 ([]:Ae) 0)]:List Aa)) (enc:=Ac) (css:=[[Ao 1,Ao 0,rS ([]:Ae),Ao 0]]) (xs:=[.tmp 15]) C1 D7 KG rfl rfl rfl ⟨Ja.agg ⟨Up.refl _,Up.refl _,Up.refl _,Up.refl _,trivial⟩,trivial⟩ rfl Bb rfl rfl rfl (λhn=>?_))))))));refine ck h1 λh3 h4=>Exists.elim Hj λinf hinf=>Cj (xs:=he.2.fCells) (ys:=([(Aa.mk 1 0 ([]:Ae) 0)]:List Aa)) (enc:=Ac) (i:=2) C1 hinf.1 hinf.2.1 hinf.2.2.1 hinf.2.2.2 rfl rfl rfl rfl rfl (Li.w (i:=0) rfl rfl) Bb Cf h3 rfl (λhg=>?_);exact wv (Aq rfl) (vF Bf rfl CB (Bu (i:=2) CB rfl rfl (D1 (i:=0) rfl) rfl rfl (cs':=[rS he.2.fS,Ao he.2.fAt,rv hg,rB he.2.fGreat]) rfl (H':=[.row hg 89 4 (AG Ac (he.2.fCells++([(Aa.mk 1 0 ([]:Ae) 0)]:List Aa))),.row (.slice (some ⟨hn,0,none⟩) 1 1) 89 4 (AG Ac ([(Aa.mk 1 0 ([]:Ae) 0)]:List Aa)),.blk hd [rS he.2.fS,Ao he.2.fAt,rv hg,rB he.2.fGreat] 113]) rfl (An (AK (Ce (H2:=[.blk hd [rS he.2.fS,Ao he.2.fAt,rv hg,rB he.2.fGreat] 113,.row hg 89 4 (AG Ac (he.2.fCells++([(Aa.mk 1 0 ([]:Ae) 0)]:List Aa))),.row (.slice (some ⟨hn,0,none⟩) 1 1) 89 4 (AG Ac ([(Aa.mk 1 0 ([]:Ae) 0)]:List Aa))]) ((As (i:=2) rfl).trans (Yy _ (Ys _))) (Au (AF ((he.2.fS,he.2.fAt,he.2.fCells++([(Aa.mk 1 0 ([]:Ae) 0)]:List Aa),he.2.fGreat),hg) h4 AD.nil (sC (sC (sS sN))))))))))
  ·refine Aj (wm rfl (ob h2 λhf h5 h6=>Du (Hr:=[]) IF (CK hd hz he.2 ([116,114,117,101]:Ae) hf h5) rfl (Ys _) rfl ?_));rintro _ _ ⟨v76,rfl,rfl⟩;refine wa rfl (Aw (cz h6 rfl (λh7 h8=>?_) (λh7 h9=>?_)))
   ·refine Ak (wm rfl (wm rfl (wv (Aq rfl) (vF Bf rfl CB (vL 0 EI rfl (wv (r:=Bm [Ao 2,Ao 1,rS ([]:Ae),Ao 0]) (I9 rfl rfl rfl rfl) (Bo (ys:=([(Aa.mk 2 1 ([]:Ae) 0)]:List Aa)) (enc:=Ac) (css:=[[Ao 2,Ao 1,rS ([]:Ae),Ao 0]]) (xs:=[.tmp 28]) C1 D7 KG rfl rfl rfl ⟨Ja.agg ⟨Up.refl _,Up.refl _,Up.refl _,Up.refl _,trivial⟩,trivial⟩ rfl Bb rfl rfl rfl (λho=>?_))))))));refine ck h8 λhA hB=>Exists.elim Hj λinf hinf=>Cj (xs:=hf.2.fCells) (ys:=([(Aa.mk 2 1 ([]:Ae) 0)]:List Aa)) (enc:=Ac) (i:=2) C1 hinf.1 hinf.2.1 hinf.2.2.1 hinf.2.2.2 rfl rfl rfl rfl rfl (Li.w (i:=0) rfl rfl) Bb Cf hA rfl (λv80=>?_);exact wv (Aq rfl) (vF Bf rfl CB (Bu (i:=2) CB rfl rfl (D1 (i:=0) rfl) rfl rfl (cs':=[rS hf.2.fS,Ao hf.2.fAt,rv v80,rB hf.2.fGreat]) rfl (H':=[.row v80 89 4 (AG Ac (hf.2.fCells++([(Aa.mk 2 1 ([]:Ae) 0)]:List Aa))),.row (.slice (some ⟨ho,0,none⟩) 1 1) 89 4 (AG Ac ([(Aa.mk 2 1 ([]:Ae) 0)]:List Aa)),.blk hd [rS hf.2.fS,Ao hf.2.fAt,rv v80,rB hf.2.fGreat] 113]) rfl (An (AK (Ce (H2:=[.blk hd [rS hf.2.fS,Ao hf.2.fAt,rv v80,rB hf.2.fGreat] 113,.row v80 89 4 (AG Ac (hf.2.fCells++([(Aa.mk 2 1 ([]:Ae) 0)]:List Aa))),.row (.slice (some ⟨ho,0,none⟩) 1 1) 89 4 (AG Ac ([(Aa.mk 2 1 ([]:Ae) 0)]:List Aa))]) ((As (i:=2) rfl).trans (Yy _ (Ys _))) (Au (AF ((hf.2.fS,hf.2.fAt,hf.2.fCells++([(Aa.mk 2 1 ([]:Ae) 0)]:List Aa),hf.2.fGreat),v80) hB AD.nil (sC (sC (sS sN))))))))))
   ·refine Aj (wm rfl (ob h9 λhb hC hD=>Du (Hr:=[]) IF (CK hd v76 hf.2 ([102,97,108,115,101]:Ae) hb hC) rfl (Ys _) rfl ?_));rintro _ _ ⟨hp,rfl,rfl⟩;refine wa rfl (Aw (cz hD rfl (λhE hG=>?_) (λhE hH=>?_)))
    ·refine Ak (wm rfl (wm rfl (wv (Aq rfl) (vF Bf rfl CB (vL 0 EI rfl (wv (r:=Bm [Ao 2,Ao 0,rS ([]:Ae),Ao 0]) (EA rfl rfl) (Bo (ys:=([(Aa.mk 2 0 ([]:Ae) 0)]:List Aa)) (enc:=Ac) (css:=[[Ao 2,Ao 0,rS ([]:Ae),Ao 0]]) (xs:=[.tmp 41]) C1 D7 KG rfl rfl rfl ⟨Ja.agg ⟨Up.refl _,Up.refl _,Up.refl _,Up.refl _,trivial⟩,trivial⟩ rfl Bb rfl rfl rfl (λhq=>?_))))))));refine ck hG λhI hJ=>Exists.elim Hj λinf hinf=>Cj (xs:=hb.2.fCells) (ys:=([(Aa.mk 2 0 ([]:Ae) 0)]:List Aa)) (enc:=Ac) (i:=2) C1 hinf.1 hinf.2.1 hinf.2.2.1 hinf.2.2.2 rfl rfl rfl rfl rfl (Li.w (i:=0) rfl rfl) Bb Cf hI rfl (λhh=>?_);exact wv (Aq rfl) (vF Bf rfl CB (Bu (i:=2) CB rfl rfl (D1 (i:=0) rfl) rfl rfl (cs':=[rS hb.2.fS,Ao hb.2.fAt,rv hh,rB hb.2.fGreat]) rfl (H':=[.row hh 89 4 (AG Ac (hb.2.fCells++([(Aa.mk 2 0 ([]:Ae) 0)]:List Aa))),.row (.slice (some ⟨hq,0,none⟩) 1 1) 89 4 (AG Ac ([(Aa.mk 2 0 ([]:Ae) 0)]:List Aa)),.blk hd [rS hb.2.fS,Ao hb.2.fAt,rv hh,rB hb.2.fGreat] 113]) rfl (An (AK (Ce (H2:=[.blk hd [rS hb.2.fS,Ao hb.2.fAt,rv hh,rB hb.2.fGreat] 113,.row hh 89 4 (AG Ac (hb.2.fCells++([(Aa.mk 2 0 ([]:Ae) 0)]:List Aa))),.row (.slice (some ⟨hq,0,none⟩) 1 1) 89 4 (AG Ac ([(Aa.mk 2 0 ([]:Ae) 0)]:List Aa))]) ((As (i:=2) rfl).trans (Yy _ (Ys _))) (Au (AF ((hb.2.fS,hb.2.fAt,hb.2.fCells++([(Aa.mk 2 0 ([]:Ae) 0)]:List Aa),hb.2.fGreat),hh) hJ AD.nil (sC (sC (sS sN))))))))))
    ·refine Ap (ck hH λhK hL=>ob hL λhl hN hO=>Dh [0] [⟨[],rP hd 0,0⟩,⟨[0],rP hd 0,0⟩,⟨[1],rP hd 0,0⟩,⟨[2],rS hb.2.fS,1⟩,⟨[],rP hd 0,0⟩,⟨[4],rP hd 0,0⟩,⟨[5],rP hd 1,0⟩,⟨[6],Ao hb.2.fAt,1⟩,⟨[3,7],rS (List.drop (Bh hb.2.fAt) hb.2.fS),0⟩,⟨[8],rB hl,0⟩,⟨[9],rB hl,0⟩] [46,0] ?_ ?_)
     ·refine oq (Am rfl) (oq (Aq rfl) (oq (A4 Bf rfl Df rfl rfl) (of (AW (i:=0) D8 rfl rfl rfl) (oq (Am rfl) (oq (Aq rfl) (oq (A4 Bf rfl C2 rfl rfl) (of (AW (i:=0) De rfl rfl rfl) (oq (DL CA rfl rfl hK) (GO rfl (λH=>MG Tryz.call122 (KB (List.drop (Bh hb.2.fAt) hb.2.fS) ([34]:Ae) hl hN) rfl) ?_)))))))));refine oq (Az rfl) ?_;exact Co
     refine AS (cz hO rfl (λhP hQ=>?_) (λhP hR=>?_))
     ·refine Aj (wm rfl (ob hQ λha hS hT=>Du (Hr:=[]) Tryz.call99 (Qg F hd hp hb.2 ha hS) rfl (Ys _) rfl ?_));rintro _ _ ⟨hU,rfl,rfl⟩;refine wm rfl (wv (AI rfl rfl) (wv (AI rfl rfl) (wa rfl (wa rfl (Aw (Ap (Aj (wm rfl (wv (BK rfl) (Aw (cz hT rfl (λhV hW=>?_) (λhV hX=>?_))))))))))))
      ·refine Aj (wa rfl (Aw (A1 (Af (A6 (Af ?_))))));obtain rfl:=A2 hW;exact A0 (BX Tryz.results98 (AP rfl)) (sC (sC sN)) ⟨hU,rfl,rfl⟩
      ·refine A3 (AS (Ak (wm rfl (wm rfl (wv (Aq rfl) (vF Bf rfl CB (vL 0 EI rfl (wm rfl (wv (r:=Bm [Ao 4,Ao 0,rS ha.1,Ao 0]) (I8 rfl rfl rfl rfl) (Bo (ys:=([(Aa.mk 4 0 ha.1 0)]:List Aa)) (enc:=Ac) (css:=[[Ao 4,Ao 0,rS ha.1,Ao 0]]) (xs:=[.tmp 70]) C1 D7 KG rfl rfl rfl ⟨Ja.agg ⟨Up.refl _,Up.refl _,Up.refl _,Up.refl _,trivial⟩,trivial⟩ rfl Bb rfl rfl rfl (λhr=>?_)))))))))));refine ck hX λhY hZ=>Exists.elim Hj λinf hinf=>Cj (xs:=ha.2.2.fCells) (ys:=([(Aa.mk 4 0 ha.1 0)]:List Aa)) (enc:=Ac) (i:=2) C1 hinf.1 hinf.2.1 hinf.2.2.1 hinf.2.2.2 rfl rfl rfl rfl rfl (Li.w (i:=0) rfl rfl) Bb Cf hY rfl (λhi=>?_);exact wv (Aq rfl) (vF Bf rfl CB (Bu (i:=2) CB rfl rfl (D1 (i:=0) rfl) rfl rfl (cs':=[rS ha.2.2.fS,Ao ha.2.2.fAt,rv hi,rB ha.2.2.fGreat]) rfl (H':=[.row hi 89 4 (AG Ac (ha.2.2.fCells++([(Aa.mk 4 0 ha.1 0)]:List Aa))),.row (.slice (some ⟨hr,0,none⟩) 1 1) 89 4 (AG Ac ([(Aa.mk 4 0 ha.1 0)]:List Aa)),.blk hd [rS ha.2.2.fS,Ao ha.2.2.fAt,rv hi,rB ha.2.2.fGreat] 113]) rfl (An (AK (Ce (H2:=[.blk hd [rS ha.2.2.fS,Ao ha.2.2.fAt,rv hi,rB ha.2.2.fGreat] 113,.row hi 89 4 (AG Ac (ha.2.2.fCells++([(Aa.mk 4 0 ha.1 0)]:List Aa))),.row (.slice (some ⟨hr,0,none⟩) 1 1) 89 4 (AG Ac ([(Aa.mk 4 0 ha.1 0)]:List Aa))]) ((As (i:=2) rfl).trans (Yy _ (Ys _))) (Au (AF ((ha.2.2.fS,ha.2.2.fAt,ha.2.2.fCells++([(Aa.mk 4 0 ha.1 0)]:List Aa),ha.2.2.fGreat),hi) hZ AD.nil (sC (sC (sS sN))))))))))
     ·refine Aj (wm rfl (ob hR λga gb gc=>Du (Hr:=[]) Tryz.call123 (UQ F hd hp hb.2 ga gb) rfl (Ys _) rfl ?_));rintro _ _ ⟨gd,rfl,rfl⟩;refine wa rfl (Aw (A1 (A6 (Af ?_))));obtain rfl:=A2 gc;exact A0 (BX Tryz.results98 (AP rfl)) (sC (sC sN)) ⟨gd,rfl,rfl⟩
 ·rintro⟨⟨hs,ht,hu,hw⟩,hm⟩ hj;refine Cn (l':=[]) (H':=[.blk hd [rS hs,Ao ht,rv hm,rB hw] 113,.row hm 89 4 (AG Ac hu)]) rfl rfl ?_;replace hj:Dl hs ht hu hw=some r:=hj;unfold Dl at hj;refine Aj (wa rfl (Aw (A1 ?_)));obtain rfl:=A2 hj;exact A0 (BX Tryz.results98 (AP rfl)) (sC (sC sN)) ⟨hm,rfl,rfl⟩
theorem Po (F:Nat)(hh:Ai→Option (Bool×Ai))(ga:(∀(hb:Nat) (hq:Value) (q:Ai) (r:Bool×Ai),hh q=some r→Fn Tryz.prog GE 70 [rP hb 0] [.blk hb [rS q.fS,Ao q.fAt,rv hq,rB q.fGreat] 113,.row hq 89 4 (AG Ac q.fCells)] (λR H=>∃w0_2:Value,R=rB r.1∧H=[.blk hb [rS r.2.fS,Ao r.2.fAt,rv w0_2,rB r.2.fGreat] 113,.row w0_2 89 4 (AG Ac r.2.fCells)])))(hb:Nat)(hq:Value)(q:Ai)(r:Bool×Ai)(h:Jh F hh q=some r):Fn Tryz.prog GE 70 [rP hb 0] [.blk hb [rS q.fS,Ao q.fAt,rv hq,rB q.fGreat] 113,.row hq 89 4 (AG Ac q.fCells)] (λR H=>∃w0_2:Value,R=rB r.1∧H=[.blk hb [rS r.2.fS,Ao r.2.fAt,rv w0_2,rB r.2.fGreat] 113,.row w0_2 89 4 (AG Ac r.2.fCells)]):=by
 refine enter (n:=96) Tryz.func70 rfl Tryz.ntmps70 rfl (λw Z=>?_);unfold Jh at h;refine Aj (wa rfl (B5 (wm rfl (ob h λr1 e3 h2=>Du (Hr:=[]) IF (CK hb hq q ([91]:Ae) r1 e3) rfl (Ys _) rfl ?_))));rintro _ _ ⟨v4,rfl,rfl⟩;refine wa rfl (Aw (Ap (Ct (S:=(Bool×Ae×Int×(List Aa)×Bool)×(Value)) (λσ=>Dk F hh r1 σ.1.1 σ.1.2.1 σ.1.2.2.1 σ.1.2.2.2.1 σ.1.2.2.2.2=some r) (λσ=>[(0,rP hb 0),(2,rB false),(3,rB r1.1),(19,rB σ.1.1)]) (λσ=>[.blk hb [rS σ.1.2.1,Ao σ.1.2.2.1,rv σ.2,rB σ.1.2.2.2.2] 113,.row σ.2 89 4 (AG Ac σ.1.2.2.2.1)]) ?_ ?_)))
 ·refine Ak (wm rfl (wv (BK rfl) (wm rfl (bz h2 (λhi gs=>?_) (λhi gt=>?_)))))
  ·refine wo hi (wm rfl (wo hi (ob gs λhr gu gv=>Du (Hr:=[]) IF (CK hb v4 r1.2 ([123]:Ae) hr gu) rfl (Ys _) rfl ?_)));rintro _ _ ⟨v24,rfl,rfl⟩;exact wo hi (wv (BK rfl) (KR rfl hi rfl (An (Au (AF ((!hr.1,hr.2.fS,hr.2.fAt,hr.2.fCells,hr.2.fGreat),v24) gv (AD.c rfl (AD.c rfl (AD.c rfl (AD.c rfl AD.nil)))) (sC (sC sN)))))))
  ·exact wf hi (wf hi (wf hi (wv (r:=rB false) (AA rfl hi rfl) (An (Au (AF ((false,r1.2.fS,r1.2.fAt,r1.2.fCells,r1.2.fGreat),v4) gt (AD.c rfl (AD.c rfl (AD.c rfl (AD.c rfl AD.nil)))) (sC (sC sN))))))))
 ·rintro⟨⟨gb,hj,hk,x16,hl⟩,hI⟩ h8;refine Cn (l':=[(0,rP hb 0),(2,rB false),(3,rB r1.1),(19,rB gb)]) (H':=[.blk hb [rS hj,Ao hk,rv hI,rB hl] 113,.row hI 89 4 (AG Ac x16)]) rfl rfl ?_;replace h8:Dk F hh r1 gb hj hk x16 hl=some r:=h8;unfold Dk at h8;refine cz h8 rfl (λgw gx=>?_) (λgw gy=>?_)
  ·refine Aj (wm rfl (ob gx λgz g0 g1=>Du (Hr:=[]) Tryz.call98 (Pq F hb hI (Ai.mk hj hk x16 hl) gz g0) rfl (Ys _) rfl ?_));rintro _ _ ⟨g2,rfl,rfl⟩;refine wa rfl (Aw (A1 (Af ?_)));obtain rfl:=A2 g1;exact A0 (BX Ml (AP rfl)) (sC (sC sN)) ⟨g2,rfl,rfl⟩
  ·refine A3 (AS (Aj (wa rfl (wv (r:=rS ([125]:Ae)) (Az rfl) (Aw (Ap (Aj (wm rfl (Aw (cz gy rfl (λhJ g3=>?_) (λhJ g4=>?_)))))))))))
   ·refine Ak (wa rfl (wv (r:=rS ([93]:Ae)) (Az rfl) (B5 (wm rfl (wv (Aq rfl) (vF Bf rfl CB (vL 0 EI rfl (wv (BY (ys:=x16) (enc:=Ac) (i:=1) C1 rfl rfl) (wa rfl (B5 (wm rfl (wm rfl (wv (Aq rfl) (vF Bf rfl CB (vL 0 EI rfl (wm rfl (wv (r:=Bm [Ao 5,Ao 0,rS ([]:Ae),Ao 0]) (EA rfl rfl) (Bo (ys:=([(Aa.mk 5 0 ([]:Ae) 0)]:List Aa)) (enc:=Ac) (css:=[[Ao 5,Ao 0,rS ([]:Ae),Ao 0]]) (xs:=[.tmp 34]) C1 D7 KG rfl rfl rfl ⟨Ja.agg ⟨Up.refl _,Up.refl _,Up.refl _,Up.refl _,trivial⟩,trivial⟩ rfl Bb rfl rfl rfl (λgc=>?_)))))))))))))))))));refine ck g3 λg5 g6=>Exists.elim Hj λinf hinf=>Cj (xs:=x16) (ys:=([(Aa.mk 5 0 ([]:Ae) 0)]:List Aa)) (enc:=Ac) (i:=2) C1 hinf.1 hinf.2.1 hinf.2.2.1 hinf.2.2.2 rfl rfl rfl rfl rfl (Li.w (i:=0) rfl rfl) Bb Cf g5 rfl (λv37=>?_);refine wv (Aq rfl) (vF Bf rfl CB (Bu (i:=2) CB rfl rfl (D1 (i:=0) rfl) rfl rfl (cs':=[rS hj,Ao hk,rv v37,rB hl]) rfl (H':=[.row v37 89 4 (AG Ac (x16++([(Aa.mk 5 0 ([]:Ae) 0)]:List Aa))),.row (.slice (some ⟨gc,0,none⟩) 1 1) 89 4 (AG Ac ([(Aa.mk 5 0 ([]:Ae) 0)]:List Aa)),.blk hb [rS hj,Ao hk,rv v37,rB hl] 113]) rfl (Aw (Ap (Aj (wm rfl (wm rfl (ob g6 λhw g7 g8=>Du (Hr:=[.row (.slice (some ⟨gc,0,none⟩) 1 1) 89 4 (AG Ac ([(Aa.mk 5 0 ([]:Ae) 0)]:List Aa))]) IF (CK hb v37 (Ai.mk hj hk (x16++([(Aa.mk 5 0 ([]:Ae) 0)]:List Aa)) hl) ([93]:Ae) hw g7) rfl ((As (i:=2) rfl).trans (Yy _ (Ys _))) rfl ?_))))))));rintro _ _ ⟨gd,rfl,rfl⟩;refine Aw (cz g8 rfl (λg9 gA=>?_) (λg9 gB=>?_))
    ·refine Aj (wa rfl (Aw (A1 (Af ?_))));obtain rfl:=A2 gA;exact A0 (BX Ml (AP rfl)) (sC (sC (sS sN))) ⟨gd,rfl,rfl⟩
    ·refine A3 (AS (Aj (wv (r:=rS ([]:Ae)) (Az rfl) (B5 (wa rfl (Aw (AO (ob gB λgC gD hK=>BH (S:=Nat×(Int×Ae×Int×(List Aa)×Bool)×(Value)) (V:=(Unit)×(Unit)) 0 (λσ=>Cs (λσ=>DJ hh x16 σ.1 σ.2.1 σ.2.2.1 σ.2.2.2.1 σ.2.2.2.2) σ.1 σ.2.1=some gC) (λσ=>[(0,rP hb 0),(2,rB false),(3,rB r1.1),(5,rS ([93]:Ae)),(6,Ao (x16.length:Int)),(7,rS ([]:Ae)),(8,Ao σ.2.1.1)]) (λσ=>[.blk hb [rS σ.2.1.2.1,Ao σ.2.1.2.2.1,rv σ.2.2,rB σ.2.1.2.2.2.2] 113,.row σ.2.2 89 4 (AG Ac σ.2.1.2.2.2.1)]) (λσ=>σ.1) (F,(1,hw.2.fS,hw.2.fAt,hw.2.fCells,hw.2.fGreat),gd) gD (AD.c rfl (AD.c rfl (AD.c5 rfl rfl rfl rfl rfl AD.nil))) (sC (sC (sS sN))) (λσ=>Ge =some r) (λσ=>[]) (λσ=>[]) ?_ ?_))))))))
     ·rintro⟨xd,⟨hx,hL,hN,hO,hP⟩,hQ⟩ gE;refine Cn (l':=[(0,rP hb 0),(2,rB false),(3,rB r1.1),(5,rS ([93]:Ae)),(6,Ao (x16.length:Int)),(7,rS ([]:Ae)),(8,Ao hx)]) (H':=[.blk hb [rS hL,Ao hN,rv hQ,rB hP] 113,.row hQ 89 4 (AG Ac hO)]) rfl rfl ?_;obtain⟨gF,rfl,gG,h9,hA⟩:=DY gE;replace h9:DJ hh x16 hx hL hN hO hP=some gG:=h9;unfold DJ at h9;refine Ap (AO (Ap (Aj (wm rfl (wv (BK rfl) (Aw (CU rfl (Xk hJ) (A3 (AS (Ap (Aj (wm rfl (ob h9 λhd gH gI=>Du (Hr:=[]) Tryz.call70 (ga hb hQ (Ai.mk hL hN hO hP) hd gH) rfl (Ys _) rfl ?_)))))))))))));rintro _ _ ⟨hs,rfl,rfl⟩;refine wv (BK rfl) (Aw (cz gI rfl (λgJ gK=>?_) (λgJ gL=>?_)))
      ·refine Aj (wa rfl (Aw (A1 (Af (A6 (Af (Af (Bj ?_))))))));have gM:=BB gK hA hK;refine A6 ?_;obtain rfl:=A2 gM;exact A0 (BX Ml (AP rfl)) (sC (sC sN)) ⟨hs,rfl,rfl⟩
      ·refine A3 (AS (Aj (wm rfl (wv (Aq rfl) (vF Bf rfl CB (vL 0 EI rfl (wm rfl (wm rfl (ck gL λhR gN=>wv (r:=rv (D6 4 hs (Bh (x16.length:Int)) 0)) (E2 (i:=1) C1 D7 rfl rfl rfl (Bk hR)) (wv (r:=rv (D6 4 hs (Bh (x16.length:Int)) 3)) (Do (k:=1) BZ rfl C2 rfl (Bk hR) rfl rfl rfl) (H5 (enc:=Ac) (ys:=hd.2.fCells) (y':=(Aa.mk ((Ar hd.2.fCells (x16.length:Int)).fKind) ((Ar hd.2.fCells (x16.length:Int)).fInt) ((Ar hd.2.fCells (x16.length:Int)).fStr) hx)) (i:=1) (j:=(x16.length:Int)) C2 rfl rfl (BW rfl) rfl hR rfl rfl (H':=[.blk hb [rS hd.2.fS,Ao hd.2.fAt,rv hs,rB hd.2.fGreat] 113,.row hs 89 4 (AG Ac (List.set hd.2.fCells (Bh (x16.length:Int)) (Aa.mk ((Ar hd.2.fCells (x16.length:Int)).fKind) ((Ar hd.2.fCells (x16.length:Int)).fInt) ((Ar hd.2.fCells (x16.length:Int)).fStr) hx)))]) rfl (bd gN λgO gP gQ=>?_))))))))))));rw[← gP];refine Aw (Ap (Aj (wm rfl (wm rfl (ob gQ λge gR gS=>Du (Hr:=[]) IF (CK hb hs (Ai.mk hd.2.fS hd.2.fAt gO hd.2.fGreat) ([93]:Ae) ge gR) rfl (Ys _) rfl ?_)))));rintro _ _ ⟨gf,rfl,rfl⟩;refine Aw (cz gS rfl (λc167 gT=>?_) (λc167 gU=>?_))
       ·refine Aj (wa rfl (Aw (A1 (Af (A6 (Af (Af (Bj ?_))))))));have gV:=BB gT hA hK;refine A6 ?_;obtain rfl:=A2 gV;exact A0 (BX Ml (AP rfl)) (sC (sC sN)) ⟨gf,rfl,rfl⟩
       ·refine A3 (AS (Aj (wm rfl (ob gU λhy gW gX=>Du (Hr:=[]) IF (CK hb gf ge.2 ([44]:Ae) hy gW) rfl (Ys _) rfl ?_))));rintro _ _ ⟨gg,rfl,rfl⟩;refine wv (BK rfl) (Aw (cz gX rfl (λc175 gY=>?_) (λc175 gZ=>?_)))
        ·refine Aj (wa rfl (Aw (A1 (A6 (Af (Af (Bj ?_)))))));have ca:=BB gY hA hK;refine A6 ?_;obtain rfl:=A2 ca;exact A0 (BX Ml (AP rfl)) (sC (sC sN)) ⟨gg,rfl,rfl⟩
        ·refine A3 (AK (AS (Ak (wm rfl (ck gZ λcb cc=>wv (BQ rfl rfl cb) (wa rfl (An ?_)))))));have cd:=BD cc hA;exact Au (AF (gF,(hx+1,hy.2.fS,hy.2.fAt,hy.2.fCells,hy.2.fGreat),gg) ⟨cd,YI _⟩ (AD.c rfl (AD.c rfl (AD.c5 rfl rfl rfl rfl rfl AD.nil))) (sC (sC sN)))
     ·rintro⟨⟨⟩,⟨⟩⟩ ce
      cases ce
   ·refine A3 (AS (Aj (wm rfl (wv (Aq rfl) (vF Bf rfl CB (vL 0 EI rfl (wv (BY (ys:=x16) (enc:=Ac) (i:=1) C1 rfl rfl) (wa rfl (B5 (wm rfl (wm rfl (wv (Aq rfl) (vF Bf rfl CB (vL 0 EI rfl (wm rfl (wv (r:=Bm [Ao 6,Ao 0,rS ([]:Ae),Ao 0]) (EA rfl rfl) (Bo (ys:=([(Aa.mk 6 0 ([]:Ae) 0)]:List Aa)) (enc:=Ac) (css:=[[Ao 6,Ao 0,rS ([]:Ae),Ao 0]]) (xs:=[.tmp 34]) C1 D7 KG rfl rfl rfl ⟨Ja.agg ⟨Up.refl _,Up.refl _,Up.refl _,Up.refl _,trivial⟩,trivial⟩ rfl Bb rfl rfl rfl (λgh=>?_))))))))))))))))));refine ck g4 λcf cg=>Exists.elim Hj λinf hinf=>Cj (xs:=x16) (ys:=([(Aa.mk 6 0 ([]:Ae) 0)]:List Aa)) (enc:=Ac) (i:=2) C1 hinf.1 hinf.2.1 hinf.2.2.1 hinf.2.2.2 rfl rfl rfl rfl rfl (Li.w (i:=0) rfl rfl) Bb Cf cf rfl (λhB=>?_);refine wv (Aq rfl) (vF Bf rfl CB (Bu (i:=2) CB rfl rfl (D1 (i:=0) rfl) rfl rfl (cs':=[rS hj,Ao hk,rv hB,rB hl]) rfl (H':=[.row hB 89 4 (AG Ac (x16++([(Aa.mk 6 0 ([]:Ae) 0)]:List Aa))),.row (.slice (some ⟨gh,0,none⟩) 1 1) 89 4 (AG Ac ([(Aa.mk 6 0 ([]:Ae) 0)]:List Aa)),.blk hb [rS hj,Ao hk,rv hB,rB hl] 113]) rfl (Aw (Ap (Aj (wm rfl (wm rfl (ob cg λhz ch ci=>Du (Hr:=[.row (.slice (some ⟨gh,0,none⟩) 1 1) 89 4 (AG Ac ([(Aa.mk 6 0 ([]:Ae) 0)]:List Aa))]) IF (CK hb hB (Ai.mk hj hk (x16++([(Aa.mk 6 0 ([]:Ae) 0)]:List Aa)) hl) ([125]:Ae) hz ch) rfl ((As (i:=2) rfl).trans (Yy _ (Ys _))) rfl ?_))))))));rintro _ _ ⟨gi,rfl,rfl⟩;refine Aw (cz ci rfl (λcj cl=>?_) (λcj cm=>?_))
    ·refine Aj (wa rfl (Aw (A1 (Af ?_))));obtain rfl:=A2 cl;exact A0 (BX Ml (AP rfl)) (sC (sC (sS sN))) ⟨gi,rfl,rfl⟩
    ·refine A3 (AS (Aj (wv (r:=rS ([]:Ae)) (Az rfl) (B5 (wa rfl (Aw (AO (ob cm λcn co hC=>BH (S:=Nat×(Ae×Int×Ae×Int×(List Aa)×Bool)×(Value)) (V:=(Unit)×(Unit)) 0 (λσ=>Cs (λσ=>DI F hh x16 σ.1 σ.2.1 σ.2.2.1 σ.2.2.2.1 σ.2.2.2.2.1 σ.2.2.2.2.2) σ.1 σ.2.1=some cn) (λσ=>[(0,rP hb 0),(2,rB false),(3,rB r1.1),(5,rS ([125]:Ae)),(6,Ao (x16.length:Int)),(7,rS σ.2.1.1),(8,Ao σ.2.1.2.1)]) (λσ=>[.blk hb [rS σ.2.1.2.2.1,Ao σ.2.1.2.2.2.1,rv σ.2.2,rB σ.2.1.2.2.2.2.2] 113,.row σ.2.2 89 4 (AG Ac σ.2.1.2.2.2.2.1)]) (λσ=>σ.1) (F,(([]:Ae),1,hz.2.fS,hz.2.fAt,hz.2.fCells,hz.2.fGreat),gi) co (AD.c rfl (AD.c rfl (AD.c5 rfl rfl rfl rfl rfl AD.nil))) (sC (sC (sS sN))) (λσ=>Gd =some r) (λσ=>[]) (λσ=>[]) ?_ ?_))))))))
     ·rintro⟨xe,⟨hg,hm,hS,hT,hU,hV⟩,hW⟩ cp;refine Cn (l':=[(0,rP hb 0),(2,rB false),(3,rB r1.1),(5,rS ([125]:Ae)),(6,Ao (x16.length:Int)),(7,rS hg),(8,Ao hm)]) (H':=[.blk hb [rS hS,Ao hT,rv hW,rB hV] 113,.row hW 89 4 (AG Ac hU)]) rfl rfl ?_;obtain⟨cq,rfl,hX,hD,h0⟩:=DY cp;replace hD:DI F hh x16 hg hm hS hT hU hV=some hX:=hD;unfold DI at hD;refine Ap (AO (Ap (Aj (wm rfl (wv (BK rfl) (Aw (DU rfl (Xl hJ) (Aj (wm rfl (ob hD λha cr cs=>Du (Hr:=[]) Tryz.call99 (Qg F hb hW (Ai.mk hS hT hU hV) ha cr) rfl (Ys _) rfl ?_))))))))));rintro _ _ ⟨hE,rfl,rfl⟩;refine wm rfl (wv (AI rfl rfl) (wv (AI rfl rfl) (wa rfl (wa rfl (Aw (Ap (Ct (S:=(Bool×Bool×Bool×Ae×Int×(List Aa)×Bool)×(Value)) (λσ=>BM hh x16 hm ha σ.1.1 σ.1.2.1 σ.1.2.2.1 σ.1.2.2.2.1 σ.1.2.2.2.2.1 σ.1.2.2.2.2.2.1 σ.1.2.2.2.2.2.2=some hX) (λσ=>[(0,rP hb 0),(2,rB false),(3,rB r1.1),(5,rS ([125]:Ae)),(6,Ao (x16.length:Int)),(7,rS hg),(8,Ao hm),(9,rS ha.1),(10,rB ha.2.1),(44,rB r1.1),(45,rB (!r1.1)),(46,C0 [rS ha.1,rB ha.2.1]),(47,rP hb 0),(48,C0 [rS ha.1,rB ha.2.1]),(49,rS ha.1),(50,rB ha.2.1),(51,rB ha.2.1),(52,rB (!ha.2.1)),(53,rB (!ha.2.1)),(61,rB σ.1.1),(62,rB σ.1.2.1),(66,rB σ.1.2.2.1)]) (λσ=>[.blk hb [rS σ.1.2.2.2.1,Ao σ.1.2.2.2.2.1,rv σ.2,rB σ.1.2.2.2.2.2.2] 113,.row σ.2 89 4 (AG Ac σ.1.2.2.2.2.2.1)]) ?_ ?_)))))))
      ·refine Ak (wm rfl (wv (BK rfl) (wm rfl (bz cs (λhf ct=>?_) (λhf cu=>?_)))))
       ·exact wf hf (wf hf (wf hf (wu (wu (wu (wf hf (wv (r:=rB true) (Ax rfl hf rfl) (wm rfl (wz rfl rfl (wz rfl rfl (wz rfl rfl (wv (r:=rB true) (Ax (b:=true) rfl rfl rfl) (An (Au (AF ((true,true,true,ha.2.2.fS,ha.2.2.fAt,ha.2.2.fCells,ha.2.2.fGreat),hE) ct (AD.c rfl (AD.c rfl (AD.c5 rfl rfl rfl rfl rfl (AD.c5 rfl rfl rfl rfl rfl (AD.c5 rfl rfl rfl rfl rfl (AD.c5 rfl rfl rfl rfl rfl AD.nil)))))) (sC (sC sN)))))))))))))))))
       ·refine wo hf (wm rfl (wo hf (wv (Et rfl rfl) (wo hf (wm rfl (bz cu (λhn cv=>?_) (λhn cw=>?_)))))))
        ·refine wo hn (wm rfl (wo hn (wm rfl (wo hn (wv (T5 rfl rfl) (wo hf (KR rfl hn rfl (It rfl hf rfl (wm rfl (bz cv (λho cx=>?_) (λho cy=>?_)))))))))))
         ·exact wf ho (wf ho (wf ho (wv (r:=rB true) (Ax rfl ho rfl) (An (Au (AF ((Bv ha.1 hg||decide (ha.1=hg),Bv ha.1 hg||decide (ha.1=hg),true,ha.2.2.fS,ha.2.2.fAt,ha.2.2.fCells,ha.2.2.fGreat),hE) cx (AD.c rfl (AD.c rfl (AD.c5 rfl rfl rfl rfl rfl (AD.c5 rfl rfl rfl rfl rfl (AD.c5 rfl rfl rfl rfl rfl (AD.c5 rfl rfl rfl rfl rfl AD.nil)))))) (sC (sC sN))))))))
         ·refine wo ho (wm rfl (wo ho (ob cy λht c0 c1=>Du (Hr:=[]) IF (CK hb hE ha.2.2 ([58]:Ae) ht c0) rfl (Ys _) rfl ?_)));rintro _ _ ⟨c2,rfl,rfl⟩;exact wo ho (wv (BK rfl) (It rfl ho rfl (An (Au (AF ((Bv ha.1 hg||decide (ha.1=hg),Bv ha.1 hg||decide (ha.1=hg),!ht.1,ht.2.fS,ht.2.fAt,ht.2.fCells,ht.2.fGreat),c2) c1 (AD.c rfl (AD.c rfl (AD.c5 rfl rfl rfl rfl rfl (AD.c5 rfl rfl rfl rfl rfl (AD.c5 rfl rfl rfl rfl rfl (AD.c5 rfl rfl rfl rfl rfl AD.nil)))))) (sC (sC sN)))))))
        ·refine wf hn (wf hn (wf hn (wo hf (wv (r:=rB false) (AA rfl hn rfl) (It rfl hf rfl (wm rfl (AJ (b:=false) rfl rfl rfl (wm rfl (AJ (b:=false) rfl rfl rfl (ob cw λhp c3 c4=>Du (Hr:=[]) IF (CK hb hE ha.2.2 ([58]:Ae) hp c3) rfl (Ys _) rfl ?_))))))))));rintro _ _ ⟨c6,rfl,rfl⟩;exact AJ (b:=false) rfl rfl rfl (wv (BK rfl) (wv (r:=rB (!hp.1)) (AA (b:=false) rfl rfl rfl) (An (Au (AF ((false,false,!hp.1,hp.2.fS,hp.2.fAt,hp.2.fCells,hp.2.fGreat),c6) c4 (AD.c rfl (AD.c rfl (AD.c5 rfl rfl rfl rfl rfl (AD.c5 rfl rfl rfl rfl rfl (AD.c5 rfl rfl rfl rfl rfl (AD.c5 rfl rfl rfl rfl rfl AD.nil)))))) (sC (sC sN)))))))
      ·rintro⟨⟨gj,gl,gm,h1,h3,h4,h5⟩,hY⟩ hG;refine Cn (l':=[(0,rP hb 0),(2,rB false),(3,rB r1.1),(5,rS ([125]:Ae)),(6,Ao (x16.length:Int)),(7,rS hg),(8,Ao hm),(9,rS ha.1),(10,rB ha.2.1),(44,rB r1.1),(45,rB (!r1.1)),(46,C0 [rS ha.1,rB ha.2.1]),(47,rP hb 0),(48,C0 [rS ha.1,rB ha.2.1]),(49,rS ha.1),(50,rB ha.2.1),(51,rB ha.2.1),(52,rB (!ha.2.1)),(53,rB (!ha.2.1)),(61,rB gj),(62,rB gl),(66,rB gm)]) (H':=[.blk hb [rS h1,Ao h3,rv hY,rB h5] 113,.row hY 89 4 (AG Ac h4)]) rfl rfl ?_;replace hG:BM hh x16 hm ha gj gl gm h1 h3 h4 h5=some hX:=hG;unfold BM at hG;refine cz hG rfl (λc7 c8=>?_) (λc7 c9=>?_)
       ·refine Aj (wa rfl (Aw (A1 (Af (Af (A6 (Af (Af (Bj ?_)))))))));have cA:=BB c8 h0 hC;refine A6 ?_;obtain rfl:=A2 cA;exact A0 (BX Ml (AP rfl)) (sC (sC sN)) ⟨hY,rfl,rfl⟩
       ·refine A3 (AS (Aj (wm rfl (wa rfl (Aw (Ak (wm rfl (wm rfl (wv (Aq rfl) (vF Bf rfl CB (vL 0 EI rfl (wm rfl (wv (r:=Bm [Ao 4,Ao 0,rS ha.1,Ao 0]) (I8 rfl rfl rfl rfl) (Bo (ys:=([(Aa.mk 4 0 ha.1 0)]:List Aa)) (enc:=Ac) (css:=[[Ao 4,Ao 0,rS ha.1,Ao 0]]) (xs:=[.tmp 74]) C1 D7 KG rfl rfl rfl ⟨Ja.agg ⟨Up.refl _,Up.refl _,Up.refl _,Up.refl _,trivial⟩,trivial⟩ rfl Bb rfl rfl rfl (λh6=>?_)))))))))))))));refine ck c9 λcB cC=>Exists.elim Hj λinf hinf=>Cj (xs:=h4) (ys:=([(Aa.mk 4 0 ha.1 0)]:List Aa)) (enc:=Ac) (i:=2) C1 hinf.1 hinf.2.1 hinf.2.2.1 hinf.2.2.2 rfl rfl rfl rfl rfl (Li.w (i:=0) rfl rfl) Bb Cf cB rfl (λhH=>?_);refine wv (Aq rfl) (vF Bf rfl CB (Bu (i:=2) CB rfl rfl (D1 (i:=0) rfl) rfl rfl (cs':=[rS h1,Ao h3,rv hH,rB h5]) rfl (H':=[.row hH 89 4 (AG Ac (h4++([(Aa.mk 4 0 ha.1 0)]:List Aa))),.row (.slice (some ⟨h6,0,none⟩) 1 1) 89 4 (AG Ac ([(Aa.mk 4 0 ha.1 0)]:List Aa)),.blk hb [rS h1,Ao h3,rv hH,rB h5] 113]) rfl (Aw (Ap (Aj (wm rfl (ob cC λhe cD cE=>Du (Hr:=[.row (.slice (some ⟨h6,0,none⟩) 1 1) 89 4 (AG Ac ([(Aa.mk 4 0 ha.1 0)]:List Aa))]) Tryz.call70 (ga hb hH (Ai.mk h1 h3 (h4++([(Aa.mk 4 0 ha.1 0)]:List Aa)) h5) he cD) rfl ((As (i:=2) rfl).trans (Yy _ (Ys _))) rfl ?_)))))));rintro _ _ ⟨hu,rfl,rfl⟩;refine wv (BK rfl) (Aw (cz cE rfl (λcF cG=>?_) (λcF cH=>?_)))
        ·refine Aj (wa rfl (Aw (A1 (Af (A6 (Af (Af (Bj ?_))))))));have cI:=BB cG h0 hC;refine A6 ?_;obtain rfl:=A2 cI;exact A0 (BX Ml (AP rfl)) (sC (sC (sS sN))) ⟨hu,rfl,rfl⟩
        ·refine A3 (AS (Aj (wm rfl (wv (Aq rfl) (vF Bf rfl CB (vL 0 EI rfl (wm rfl (wm rfl (ck cH λhZ cJ=>wv (r:=rv (D6 4 hu (Bh (x16.length:Int)) 0)) (E2 (i:=1) C1 D7 rfl rfl rfl (Bk hZ)) (wv (r:=rv (D6 4 hu (Bh (x16.length:Int)) 3)) (Do (k:=1) BZ rfl C2 rfl (Bk hZ) rfl rfl rfl) (H5 (enc:=Ac) (ys:=he.2.fCells) (y':=(Aa.mk ((Ar he.2.fCells (x16.length:Int)).fKind) ((Ar he.2.fCells (x16.length:Int)).fInt) ((Ar he.2.fCells (x16.length:Int)).fStr) hm)) (i:=1) (j:=(x16.length:Int)) C2 rfl rfl (BW rfl) rfl hZ rfl rfl (H':=[.blk hb [rS he.2.fS,Ao he.2.fAt,rv hu,rB he.2.fGreat] 113,.row hu 89 4 (AG Ac (List.set he.2.fCells (Bh (x16.length:Int)) (Aa.mk ((Ar he.2.fCells (x16.length:Int)).fKind) ((Ar he.2.fCells (x16.length:Int)).fInt) ((Ar he.2.fCells (x16.length:Int)).fStr) hm))),.row (.slice (some ⟨h6,0,none⟩) 1 1) 89 4 (AG Ac ([(Aa.mk 4 0 ha.1 0)]:List Aa))]) rfl (bd cJ λcK cL cM=>?_))))))))))));rw[← cL];refine Aw (Ap (Aj (wm rfl (wm rfl (ob cM λgp cN cO=>Du (Hr:=[.row (.slice (some ⟨h6,0,none⟩) 1 1) 89 4 (AG Ac ([(Aa.mk 4 0 ha.1 0)]:List Aa))]) IF (CK hb hu (Ai.mk he.2.fS he.2.fAt cK he.2.fGreat) ([125]:Ae) gp cN) rfl (Ys _) rfl ?_)))));rintro _ _ ⟨gq,rfl,rfl⟩;refine Aw (cz cO rfl (λcP cQ=>?_) (λcP cR=>?_))
         ·refine Aj (wa rfl (Aw (A1 (Af (A6 (Af (Af (Bj ?_))))))));have cS:=BB cQ h0 hC;refine A6 ?_;obtain rfl:=A2 cS;exact A0 (BX Ml (AP rfl)) (sC (sC (sS sN))) ⟨gq,rfl,rfl⟩
         ·refine A3 (AS (Aj (wm rfl (ob cR λh7 cT cU=>Du (Hr:=[.row (.slice (some ⟨h6,0,none⟩) 1 1) 89 4 (AG Ac ([(Aa.mk 4 0 ha.1 0)]:List Aa))]) IF (CK hb gq gp.2 ([44]:Ae) h7 cT) rfl (Ys _) rfl ?_))));rintro _ _ ⟨gr,rfl,rfl⟩;refine wv (BK rfl) (Aw (cz cU rfl (λcV cW=>?_) (λcV cX=>?_)))
          ·refine Aj (wa rfl (Aw (A1 (A6 (Af (Af (Bj ?_)))))));have cY:=BB cW h0 hC;refine A6 ?_;obtain rfl:=A2 cY;exact A0 (BX Ml (AP rfl)) (sC (sC (sS sN))) ⟨gr,rfl,rfl⟩
          ·refine A3 (AK (AS (Ak (wm rfl (ck cX λcZ xa=>wv (BQ rfl rfl cZ) (wa rfl (An ?_)))))));have xb:=BD xa h0;exact Au (AF (cq,(ha.1,hm+1,h7.2.fS,h7.2.fAt,h7.2.fCells,h7.2.fGreat),gr) ⟨xb,YI _⟩ (AD.c rfl (AD.c rfl (AD.c5 rfl rfl rfl rfl rfl AD.nil))) (sC (sC (sS sN))))
     ·rintro⟨⟨⟩,⟨⟩⟩ xc
      cases xc
theorem K2:∀F:Nat,(∀(ha:Nat) (hb:Value) (q:Ai) (r:Bool×Ai),BR F q=some r→Fn Tryz.prog GE 70 [rP ha 0] [.blk ha [rS q.fS,Ao q.fAt,rv hb,rB q.fGreat] 113,.row hb 89 4 (AG Ac q.fCells)] (λR H=>∃w0_2:Value,R=rB r.1∧H=[.blk ha [rS r.2.fS,Ao r.2.fAt,rv w0_2,rB r.2.fGreat] 113,.row w0_2 89 4 (AG Ac r.2.fCells)]))
  | 0=>(λ_ _ _ _ h=>by simp[BR] at h)
  | nn+1=>(λha hb q r h=>Po nn (BR nn) (K2 nn) ha hb q r (by rw[BR] at h;exact h))
theorem Ri (F:Nat)(ha:Nat)(hb:Value)(q:Ai)(r:Bool×Ai)(h:BR F q=some r):Fn Tryz.prog GE 70 [rP ha 0] [.blk ha [rS q.fS,Ao q.fAt,rv hb,rB q.fGreat] 113,.row hb 89 4 (AG Ac q.fCells)] (λR H=>∃w0_2:Value,R=rB r.1∧H=[.blk ha [rS r.2.fS,Ao r.2.fAt,rv w0_2,rB r.2.fGreat] 113,.row w0_2 89 4 (AG Ac r.2.fCells)]):=(K2 F) ha hb q r h
theorem Rm (F:Nat)(s:Ae)(r:(List Aa)×Int)(h:Jk F s=some r):Fn Tryz.prog GE 47 [rS s] [] (λR H=>R=C0 [Bz 4 (AG Ac r.1),Ao r.2]∧H=[]):=by
 refine enter (n:=34) Tryz.func47 rfl Tryz.ntmps47 rfl (λw Z=>?_);unfold Jk at h;refine Aj (wa rfl (wa rfl (Aw (Ap (Aj (wm rfl (wv (Bp CA rfl) (wv (Et rfl rfl) (Aw (cz h rfl (λc1 h2=>?_) (λc1 h3=>?_)))))))))))
 ·refine Aj (wa rfl (wa rfl (Aw (A1 (Af (WK.up (d:=2) (r:=Bz 4 (AG Ac ([]:List Aa))) rfl (Up.le (Ks.nil _)) ?_))))));obtain rfl:=A2 h2;exact A0 (Ie UF (AP rfl) (AP rfl)) sN ⟨rfl,rfl⟩
 ·refine A3 (AS (Aj (wm rfl (wv (r:=Bm [rS s,Ao 0,rv (.slice none 0 0),rB false]) (N6 rfl rfl) (Cr rfl rfl (λb4=>?_))))));refine wa rfl (Aw (Ap (Ct (S:=(Bool×Ae×Int×(List Aa)×Bool)×(Value)) (λσ=>Ey F σ.1.1 σ.1.2.1 σ.1.2.2.1 σ.1.2.2.2.1 σ.1.2.2.2.2=some r) (λσ=>[(2,rv (.slice none 0 0)),(3,Ao 0),(4,rP b4 0),(22,rB σ.1.1)]) (λσ=>[.blk b4 [rS σ.1.2.1,Ao σ.1.2.2.1,rv σ.2,rB σ.1.2.2.2.2] 113,.row σ.2 89 4 (AG Ac σ.1.2.2.2.1)]) ?_ ?_)))
  ·refine Ak (wm rfl (WL.nilrow (e:=89) (sz:=4) (ob h3 λhb hk hl=>Du (Hr:=[]) Tryz.call70 (Ri F b4 (.slice none 0 0                                                                                         ) (Ai.mk s 0 ([]:List Aa) false) hb hk) rfl ((As (i:=1) rfl).trans (Yy _ (Ys _))) rfl ?_)));rintro _ _ ⟨v21,rfl,rfl⟩;refine wv (BK rfl) (wm rfl (bz hl (λha hm=>?_) (λha hn=>?_)))
   ·exact wf ha (wf ha (wf ha (wf ha (wf ha (wf ha (wf ha (wv (r:=rB true) (Ax rfl ha rfl) (An (Au (AF ((true,hb.2.fS,hb.2.fAt,hb.2.fCells,hb.2.fGreat),v21) hm (AD.c rfl (AD.c rfl (AD.c rfl (AD.c rfl AD.nil)))) (sC (sC sN))))))))))))
   ·exact wo ha (wm rfl (wo ha (wv (Aq rfl) (wo ha (vF Bf rfl C2 (wo ha (vL 0 De rfl (wo ha (wm rfl (wo ha (wv (Bp CA rfl) (wo ha (wv (D2 rfl rfl) (It rfl ha rfl (An (Au (AF ((!decide (hb.2.fAt=(s.length:Int)),hb.2.fS,hb.2.fAt,hb.2.fCells,hb.2.fGreat),v21) hn (AD.c rfl (AD.c rfl (AD.c rfl (AD.c rfl AD.nil)))) (sC (sC sN)))))))))))))))))))
  ·rintro⟨⟨hf,hg,hh,hd,hi⟩,hj⟩ he;refine Cn (l':=[(2,rv (.slice none 0 0)),(3,Ao 0),(4,rP b4 0),(22,rB hf)]) (H':=[.blk b4 [rS hg,Ao hh,rv hj,rB hi] 113,.row hj 89 4 (AG Ac hd)]) rfl rfl ?_;replace he:Ey F hf hg hh hd hi=some r:=he;unfold Ey at he;refine cz he rfl (λho hp=>?_) (λho hq=>?_)
   ·refine Aj (wa rfl (wa rfl (Aw (A1 (Af (WK.up (d:=2) (r:=Bz 4 (AG Ac ([]:List Aa))) rfl (Up.le (Ks.nil _)) ?_))))));obtain rfl:=A2 hp;exact A0 (Ie UF (AP rfl) (AP rfl)) (sS (sS sN)) ⟨rfl,rfl⟩
   ·refine A3 (AS (Ap (Aj (wm rfl (wv (Aq rfl) (vF Bf rfl Gs (vL 0 Qd rfl (Aw (cz hq rfl (λhr hs=>?_) (λhr ht=>?_))))))))))
    ·refine Aj (wa rfl (wa rfl (Aw (A1 (Af (WK.up (d:=2) (r:=Bz 4 (AG Ac ([]:List Aa))) rfl (Up.le (Ks.nil _)) ?_))))));obtain rfl:=A2 hs;exact A0 (Ie UF (AP rfl) (AP rfl)) (sS (sS sN)) ⟨rfl,rfl⟩
    ·refine A3 (AS (Aj (wm rfl (wv (Aq rfl) (vF Bf rfl CB (vL 0 EI rfl (WL.freeze (i:=1) rfl (WL.up (d:=30) (r:=Bz 4 (AG Ac hd)) rfl (Up.fact (i:=0) rfl) (ob ht λhu hw hx=>HX Tryz.call71 (Ps F hd hu hw) rfl (wv (AI rfl rfl) (wv (AI rfl rfl) (wa rfl (wa rfl (Aw (A1 ?_)))))))))))))));obtain rfl:=A2 hx;exact A0 (Ie UF (AP rfl) (AP rfl)) (sS (sS sN)) ⟨rfl,rfl⟩
end Go.Proofs.YtmmbdclkpijkpaaGreatDoor.Q
namespace Go.Proofs.YtmmbdclkpijkpaaGreatDoor
open Go
set_option linter.unusedVariables false
end Go.Proofs.YtmmbdclkpijkpaaGreatDoor
namespace Go.Proofs.YtmmbdclkpijkpaaGreatDoor.Q
open Go Go.RowKit
set_option linter.unusedVariables false
set_option linter.unusedSimpArgs false
set_option maxRecDepth 100000
set_option maxHeartbeats 4000000
end Go.Proofs.YtmmbdclkpijkpaaGreatDoor.Q
namespace Go.Proofs.YtmmbdclkpijkpaaGreatDoor
open Go
set_option linter.unusedVariables false
end Go.Proofs.YtmmbdclkpijkpaaGreatDoor
namespace Go.Proofs.YtmmbdclkpijkpaaGreatDoor.Q
open Go Go.RowKit
set_option linter.unusedVariables false
set_option linter.unusedSimpArgs false
set_option maxRecDepth 100000
set_option maxHeartbeats 4000000
end Go.Proofs.YtmmbdclkpijkpaaGreatDoor.Q
namespace Go.Proofs.YtmmbdclkpijkpaaGreatDoor
open Go
set_option linter.unusedVariables false
set_option linter.unusedSimpArgs false
section
variable {T S : Type}
def B8:List (Ae×T)→Ae→Option T
 | [],_=>none
 | p::r,k=>bif decide (p.1=k) then some p.2 else B8 r k
def AM (xs:List (Ae×T))(k:Ae)(z:T):T:=(B8 xs k).getD z
def E3 (xs:List (Ae×T))(k:Ae):Bool:=(B8 xs k).isSome
def mins (k:Ae)(v:T):List (Ae×T)→List (Ae×T)
 | []=>[(k,v)]
 | p::r=>bif Bv k p.1 then(k,v)::p::r else p::mins k v r
def mput (xs:List (Ae×T))(k:Ae)(v:T):List (Ae×T):=xs.map λp=>bif decide (p.1=k) then(k,v) else p
def mset (xs:List (Ae×T))(k:Ae)(v:T):List (Ae×T):=bif E3 xs k then mput xs k v else mins k v xs
def mdel (xs:List (Ae×T))(k:Ae):List (Ae×T):=xs.filter λp=>!decide (p.1=k)
def AY (f:T→S)(xs:List (Ae×T)):List (Ae×S):=xs.map λp=>(p.1,f p.2)
theorem HF (f:T→S):∀(xs:List (Ae×T)) (k:Ae),B8 (AY f xs) k=(B8 xs k).map f
 | [],k=>rfl
 | p::r,k=>by
  show(bif decide (p.1=k) then some (f p.2) else B8 (AY f r) k)=_;rw[B8,HF f r k]
  cases decide (p.1=k)<;>rfl
theorem TG (f:T→S)(xs:List (Ae×T))(k:Ae):E3 (AY f xs) k=E3 xs k:=by
 unfold E3;rw[HF];cases B8 xs k<;>rfl
theorem O9 (f:T→S)(k:Ae)(v:T):∀xs:List (Ae×T),AY f (mins k v xs)=mins k (f v) (AY f xs)
 | []=>rfl
 | p::r=>by
  show AY f (bif Bv k p.1 then(k,v)::p::r else p::mins k v r)=(bif Bv k p.1 then(k,f v)::(p.1,f p.2)::AY f r else(p.1,f p.2)::mins k (f v) (AY f r));rw[← O9 f k v r]
  cases Bv k p.1<;>rfl
theorem TD (f:T→S)(xs:List (Ae×T))(k:Ae)(v:T):AY f (mset xs k v)=mset (AY f xs) k (f v):=by
 unfold mset;rw[TG]
 cases E3 xs k with
 | false=>exact O9 f k v xs
 | true=>
  show AY f (mput xs k v)=mput (AY f xs) k (f v);unfold AY mput;rw[Zh,Zh];refine List.map_congr_left λp _=>?_;show _=(bif decide (p.1=k) then(k,f v) else(p.1,f p.2));simp only[Function.comp]
  cases decide (p.1=k)<;>rfl
theorem TH (f:T→S)(xs:List (Ae×T))(k:Ae):AY f (mdel xs k)=mdel (AY f xs) k:=by
 unfold AY mdel;rw[List.filter_map];rfl
theorem HG (f:T→S)(xs:List (Ae×T)):(AY f xs).length=xs.length:=by simp[AY]
theorem Ke (k:Ae)(v:T):∀xs:List (Ae×T),(mins k v xs).Perm ((k,v)::xs)
 | []=>Ys _
 | p::r=>by
  rw[mins]
  cases Bv k p.1 with
  | true=>exact Ys _
  | false=>exact((Ke k v r).cons p).trans (List.Perm.swap _ _ _)
def EM (x:T):List T→List (List T)
 | []=>[[x]]
 | y::r=>(x::y::r)::(EM x r).map (y::·)
def I5:List T→List (List T)
 | []=>[[]]
 | x::r=>(I5 r).flatMap (EM x)
theorem K9 (x:T):∀(a b:List T),a++x::b∈EM x (a++b)
 | [],[]=>by simp[EM]
 | [],y::b=>by simp[EM]
 | y::a,b=>by
  simp only[Zb,EM,Zj,List.mem_map];exact .inr ⟨_,K9 x a b,rfl⟩
theorem MO:∀(xs ys:List T),ys.Perm xs→ys∈I5 xs
 | [],ys,h=>by rw[h.eq_nil];simp[I5]
 | x::r,ys,h=>by
  have hx:x∈ys:=h.symm.subset (List.mem_cons_self ..);obtain⟨a,b,rfl⟩:=List.append_of_mem hx;have h2:(a++b).Perm r:=(List.perm_middle.symm.trans h).cons_inv;simp only[I5,List.mem_flatMap];exact⟨a++b,MO r _ h2,K9 x a b⟩
def RH {R:Type}[DecidableEq R](xs:List T)(K:List T→Option R):Option R:=match K xs with
 | none=>none
 | some r=>bif (I5 xs).all (λp=>decide (K p=some r)) then some r else none
theorem TF {R:Type}[DecidableEq R]{xs:List T}{K:List T→Option R}{r:R}(h:RH xs K=some r):∀p:List T,p.Perm xs→K p=some r:=λp hp=>by
 unfold RH at h
 cases hk:K xs with
 | none=>rw[hk] at h;cases h
 | some q=>
  rw[hk] at h;simp only at h
  cases ha:(I5 xs).all (λp=>decide (K p=some q)) with
  | false=>rw[ha] at h;cases h
  | true=>
   rw[ha] at h;cases h;exact YG (List.all_eq_true.1 ha p (MO xs p hp))
theorem GQ (x:T):∀(xs ys:List T),ys∈EM x xs→ys.Perm (x::xs)
 | [],ys,h=>by simp[EM] at h;rw[h]
 | y::r,ys,h=>by
  simp only[EM,Zj,List.mem_map] at h;rcases h with rfl | ⟨z,hz,rfl⟩
  ·exact Ys _
  ·exact((GQ x r z hz).cons y).trans (List.Perm.swap _ _ _)
theorem LE:∀(xs ys:List T),ys∈I5 xs→ys.Perm xs
 | [],ys,h=>by simp[I5] at h;rw[h]
 | x::r,ys,h=>by
  simp only[I5,List.mem_flatMap] at h;obtain⟨z,hz,hy⟩:=h;exact(GQ x z ys hy).trans ((LE r z hz).cons x)
theorem TE {R:Type}[DecidableEq R]{xs:List T}{K:List T→Option R}{r:R}(h:∀p:List T,p.Perm xs→K p=some r):RH xs K=some r:=by
 unfold RH;rw[h xs (Ys _)];have:(I5 xs).all (λp=>decide (K p=some r))=true:=List.all_eq_true.2 λp hp=>Y0 (h p (LE xs p hp));simp only[this];rfl
def QC {St O:Type}(body:T→St→Option (Stp St (Out O St))):List T→St→Option (Out O St)
 | [],s=>some (.go s)
 | x::r,s=>match body x s with
  | none=>none
  | some (.next s')=>QC body r s'
  | some (.out o)=>some o
def X7 {St R:Type}(body:T→St→Option (Stp St (Out R St)))(ys:List T)(K:St→Option R)(r:R):Stp St (Out R St)→Prop
 | .next s'=>∀q:List T,q.Perm ys→B0 (QC body q s') (BN K)=some r
 | .out o=>BN K o=some r
theorem Xo {St R:Type}{body:T→St→Option (Stp St (Out R St))}{ys ys':List T}{p:T}{s:St}{K:St→Option R}{r:R}(h:∀q:List T,q.Perm ys→B0 (QC body q s) (BN K)=some r)(hp:ys.Perm (p::ys')):∃t,body p s=some t∧X7 body ys' K r t:=by
 have h1:∀q:List T,q.Perm ys'→B0 (QC body (p::q) s) (BN K)=some r:=λq hq=>h _ ((hq.cons p).trans hp.symm)
 cases hb:body p s with
 | none=>
  have:=h1 ys' (Ys _);rw[QC,hb] at this;cases this
 | some t=>
  refine⟨t,rfl,?_⟩
  cases t with
  | next s'=>
   intro q hq;have:=h1 q hq;rw[QC,hb] at this;exact this
  | out o=>
   have:=h1 ys' (Ys _);rw[QC,hb] at this;exact this
theorem Vv {St R:Type}{body:T→St→Option (Stp St (Out R St))}{ys:List T}{s:St}{K:St→Option R}{r:R}(h:∀q:List T,q.Perm ys→B0 (QC body q s) (BN K)=some r)(hy:ys=[]):K s=some r:=by
 subst hy;exact h [] (Ys _)
theorem RP {St R:Type}{body:T→St→Option (Stp St (Out R St))}{ys:List T}{s':St}{K:St→Option R}{r:R}{t:Stp St (Out R St)}(h:some (Stp.next s')=some t)(ht:X7 body ys K r t):∀q:List T,q.Perm ys→B0 (QC body q s') (BN K)=some r:=by cases h;exact ht
theorem Vf {ys ys':List T}{p:T}(h:ys.Perm (p::ys')):ys'.length<ys.length:=by rw[h.length_eq];exact YI _
end
end Go.Proofs.YtmmbdclkpijkpaaGreatDoor
