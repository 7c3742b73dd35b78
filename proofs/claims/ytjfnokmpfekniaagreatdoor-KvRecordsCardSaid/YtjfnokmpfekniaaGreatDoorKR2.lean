/-
  Texts of the proof, put together: Row, IdA, PlB, IdB, PlC, IdC, ShelfV, PlD, PlE, FwJ, IdR, QG, QO, RowQ, PQB, WQB, PVa, WVa, PVb, WVb, PVc.
-/
import Derived.Test.YtjfnokmpfekniaaGreatDoorKR1
import Derived.Test.YtjfnokmpfekniaaGreatDoorCards
import Derived.Test.YtjfnokmpfekniaaGreatDoorTie
import Derived.Carry
import Derived.ChangeSame
import Derived.ProofKit
import Derived.OpenShut
import Derived.Deep.DeepHandedRow
import Derived.Deep.DeepWitnessRowRef
import Derived.Lib.LaidTab
import Derived.Lib.LaidIn
import Derived.Stop.LaidErr
import Derived.Test.YtjfnokmpfekniaaGreatDoorProg
import Derived.Lib.Bytealg
import Derived.Lib.AtoiAllCases
import Derived.Lib.ItoaNum
import Derived.Lib.ItoaLen
import Derived.Shelf.Strings.Builder1
import Derived.Shelf.Strings.Count
import Derived.Shelf.Strings.Search1
import Derived.Shelf.Strings.Search2
import Derived.Shelf.Strings.Search3
import Derived.Shelf.Small.Strs
import Derived.Shelf.LaysM
import Derived.Shelf.LaysC
import Derived.Lib.ItoaMem
import Derived.Deep.Slices
import Derived.ChangeArms
import Derived.DataReads
import Derived.Laws.Tables
import Derived.Lib.SmallJoins
namespace Go.Proofs.YtjfnokmpfekniaaGreatDoor
open Go Go.ChangeShapes Go.WideShapes Go.ChangeAt Go.RowKit Go.WideElems
set_option linter.unusedVariables false
theorem own:ownKnob Tryz.prog.godebug=none:=by kernel_rfl
theorem ZH:laidOutB Tryz.prog=true:=by kernel_rfl
section
variable {H : Type} {enc : TypeId × Value → H} {P : Program}
theorem KM (hl:laidOutB P=true) {W W':World} (hb:Below W.heap.size W W') {sp:Nat→Bool}:∀{ts:List TypeId} {vs:List Value} {ds:List (DataW H)} {ps:List MemPlace},ts.all (λt=>P.readableRec t&&decide (t<P.types.size))=true→
  DataW.TrodAll enc P W 0 (λ_=>true) true ts vs ds ps→(∀p∈ps,p.block<W.heap.size)→(∀p∈ps,sp p.block=true)→DataW.TrodAll enc P W' 0 sp true ts vs ds ps
 | [],[],[],_,_,h,_,_=>h
 | [],_::_,_,_,_,h,_,_=>h.elim
 | [],[],_::_,_,_,h,_,_=>h.elim
 | _::_,[],_,_,_,h,_,_=>h.elim
 | _::_,_::_,[],_,_,h,_,_=>h.elim
 | t::ts,v::vs,d::ds,ps,ht,⟨p,q,h1,h2,e⟩,hlt,hs=>by
  simp only[Adm,AcH,AcC] at ht
  refine⟨p,q,?_,KM hl hb ht.2 h2 (λx hx=>hlt x (by rw[e];exact List.mem_append_right _ hx)) (λx hx=>hs x (by rw[e];exact List.mem_append_right _ hx)),e⟩
  exact Trod_stays hl ht.1.1 ht.1.2 h1 (λx hx=>hb.same (hlt x (by rw[e];exact List.mem_append_left _ hx))) (λx hx=>hs x (by rw[e];exact List.mem_append_left _ hx))
theorem Vt (hl:laidOutB P=true) {f:Func} {s:ChangeSpec} {apart fresh handsOn:Bool} {W W':World} {args:Array Value} {ds gs:List (DataW H)} {before:List MemPlace} {tb:TypeId} (hp:f.params.toList.all (λt=>P.readableRec t&&decide (t<P.types.size))=true)
  (hv:s.vars=[]) (hr:f.resultTypes = #[tb]) (hb4:P.underlying tb=some .bool) (hW:DataW.Whole enc P f.params.toList s.vars apart W args.toList ds gs before)
  (h1:(s.fn H (ds++gs)).results=[.lit (.bool true)]) (h2:(s.fn H (ds++gs)).args=ds) (h3:(s.fn H (ds++gs)).vars=[]) (hb:Below W.heap.size W W') :
  s.post enc P f apart fresh handsOn false W args (.bool true) W':=by
 have hlt:∀p∈before,p.block<W.heap.size:=λp hp=>hW.lt p hp
 have hW':=hW
 obtain⟨p,q,hA,hV,hbf,_,_⟩:=hW'
 have hq:q=[]:=by
  rw[hv] at hV
  cases gs with
  | nil=>exact hV
  | cons _ _=>exact hV.elim
 subst hq
 rw[Adg] at hbf
 subst hbf
 refine⟨ds,gs,before,[],before,[],hW,?_,?_,?_,World.keptBut_mono (λp hp=>⟨hp,.inr (.inl hp)⟩) (hb.frame (·∈before)),λh=>by cases h⟩
 ·rw[h1,hr]
  exact trodAll_mk1 (shut_bool hb4 true)
 ·rw[h2]
  exact KM hl hb hp hA hlt (λx hx=>by simpa using hlt x hx)
 ·rw[hv,h3];exact rfl
end
theorem T8:Tryz.prog.underlying 4=some .bool:=Tryz.underlying4
def OE : List (String × DataW Unit) := [("math/bits.deBruijn32tab", Rows.laid_math_bits_deBruijn32tab), ("math/bits.deBruijn64tab", Rows.laid_math_bits_deBruijn64tab), ("internal/strconv.uint64pow10", Rows.laid_internal_strconv_uint64pow10), ("strconv.ErrRange", Rows.laid_strconv_ErrRange), ("strconv.ErrSyntax", Rows.laid_strconv_ErrSyntax)]
theorem Yh:(Tryz.prog.globals[2]?).map (·.type)=some 202:=by kernel_rfl
theorem Yg:(Tryz.prog.globals[1]?).map (·.type)=some 121:=by kernel_rfl
theorem Wa:Tryz.prog.cellsOf 145=1:=by kernel_rfl
theorem Wb:Tryz.prog.cellsOf 202=20:=by kernel_rfl
theorem Wc:Tryz.prog.cellsOf 9=1:=by kernel_rfl
theorem YD:Tryz.prog.cellsOf 207=1:=by kernel_rfl
theorem U3 : "*" ++ "errors.errorString" = "*errors.errorString" := by decide
theorem Abk (u : TypeId) (h : Tryz.prog.typeName? 3 u = some "*errors.errorString") : u = 205 :=
 typeName_ptr_named (nm := "errors.errorString") (by rw [U3]; kernel_rfl) (by kernel_rfl) (by decide) u (by rw [U3]; exact h)
theorem Uy {W:World} {n:String} {g:Nat} {cs:Array Value} (hg:Tryz.prog.globalNamed n=some g) (h:W.var? Tryz.prog n=some cs):g<W.heap.size:=by
 unfold World.var? at h
 rw[hg] at h
 simp only[Option.bind_some] at h
 cases hh:W.heap[g]? with
 | none=>rw[hh] at h;cases h
 | some o=>exact(Array.getElem?_eq_some_iff.1 hh).1
theorem Abl {W:World} (h:laidMet Tryz.prog OE W):UE W:=by
 have h3:=laidMet.tail (laidMet.tail h)
 have h4:=laidMet.tail h3
 have hp : Lib.TabIs Tryz.prog W "internal/strconv.uint64pow10" .u64 Lib.pow10Tab := Lib.tabIs_of_head Abi Yh Tryz.underlying202 Tryz.underlying145 Wa Wb h3
 obtain⟨a,s,hv,_,_,_⟩:=laid_sentinel h4 Abh Yg Tryz.underlying121 Abk Tryz.underlying205 Tryz.underlying207 rfl rfl Tryz.underlying9 YD Wc
 refine⟨⟨hp,_,_,hv⟩,?_⟩
 have h1:=Uy Abi hp
 have h2:=Uy Abh hv
 exact Nat.max_lt.2 ⟨h1,h2⟩
noncomputable def Kx (os:Os):World:=
 let w0:=World.holding Tryz.prog os ⟨#[],#[],[]⟩
 let put (h:Array Obj) (g:Nat) (cs:Array Value):Array Obj:=h.modify g fun
  | .cells _ t frozen=>.cells cs t frozen
  | o=>o
 let nums (d:DataW Unit):Array Value:=match d with
  | .agg ds=>(ds.map fun | .lit (.int k n)=>Value.int k n | _=>undef).toArray
  | _=>#[]
 let n:=w0.heap.size
 let h1:=put w0.heap 4 (nums Rows.laid_math_bits_deBruijn32tab)
 let h2:=put h1 5 (nums Rows.laid_math_bits_deBruijn64tab)
 let h3:=put h2 2 (nums Rows.laid_internal_strconv_uint64pow10)
 let h4:=put h3 1 #[.iface 205 (.pointer (some ⟨n,0,none⟩))]
 let h5:=put h4 0 #[.iface 205 (.pointer (some ⟨n+1,0,none⟩))]
 let h6:=h5.push (.cells #[.string ⟨#[118,97,108,117,101,32,111,117,116,32,111,102,32,114,97,110,103,101]⟩] 207 (0,0))
 let h7:=h6.push (.cells #[.string ⟨#[105,110,118,97,108,105,100,32,115,121,110,116,97,120]⟩] 207 (0,0))
 { w0 with heap:=h7 }
set_option maxRecDepth 100000 in
theorem XM (os:Os) (args:Array Value):laidMet Tryz.prog OE ((Kx os).forCall (λ_ _=>0) ⟨#[],args,[]⟩).memory:=
 laidMet_of_run' 8 (by kernel_rfl) (by kernel_rfl)
open Go Go.RowKit
set_option linter.unusedSimpArgs false
set_option maxRecDepth 100000
theorem Zv (c:Int) (w:World):Calls Tryz.prog 142 [.int .i32 (c)].toArray w (KH w (.bool (M1 c))):=by
 refine HZ (n:=9) Tryz.func142 rfl Tryz.ntmps142 rfl (Ai (Af (A0 (Ao rfl) rfl (Aj (Ar (AP ?_))))))
 refine A6 [(2,.bool (((decide ((97)≤(c)))&&(decide ((c)≤(122))))))] [] (φ:=True) ?_ (λhm1=>?_)
 ·refine Af (A0 (Al rfl) rfl (A0 (G0 rfl rfl) rfl (A0 (Al rfl) rfl (AI (decide ((97)≤(c))) (λh1=>?_) (λh1=>?_)))))
  ·have g1:=h1;try simp only[AcC,AcD] at g1
   refine Bg rfl rfl h1 (A0 (Al rfl) rfl (Bg rfl rfl h1 (A0 (KG rfl rfl) rfl (A0 (Au rfl h1 rfl) rfl (A0 (Ao rfl) rfl (Aj ?_))))))
   exact Ar (B7 trivial ⟨fb (by simp[h1]),trivial⟩ .slnil)
  ·have g1:=h1;try simp only[AcC,AcD] at g1
   refine AL rfl rfl h1 rfl (AL rfl rfl h1 rfl (A0 (A7 rfl h1 rfl) rfl (A0 (Ao rfl) rfl (Aj ?_))))
   exact Ar (B7 trivial ⟨fb (by simp[h1]),trivial⟩ .slnil)
 refine Aq (Ap (BW rfl rfl) ?_)
 exact Hp (by first | rfl | simp[])
theorem Aac (c:Int) (w:World):Calls Tryz.prog 143 [.int .i32 (c)].toArray w (KH w (.bool (MN c))):=by
 refine HZ (n:=9) Tryz.func143 rfl Tryz.ntmps143 rfl (Ai (Af (A0 (Ao rfl) rfl (Aj (Ar (AP ?_))))))
 refine A6 [(2,.bool (((decide ((48)≤(c)))&&(decide ((c)≤(57))))))] [] (φ:=True) ?_ (λhm3=>?_)
 ·refine Af (A0 (Al rfl) rfl (A0 (G0 rfl rfl) rfl (A0 (Al rfl) rfl (AI (decide ((48)≤(c))) (λh3=>?_) (λh3=>?_)))))
  ·have g3:=h3;try simp only[AcC,AcD] at g3
   refine Bg rfl rfl h3 (A0 (Al rfl) rfl (Bg rfl rfl h3 (A0 (KG rfl rfl) rfl (A0 (Au rfl h3 rfl) rfl (A0 (Ao rfl) rfl (Aj ?_))))))
   exact Ar (B7 trivial ⟨fb (by simp[h3]),trivial⟩ .slnil)
  ·have g3:=h3;try simp only[AcC,AcD] at g3
   refine AL rfl rfl h3 rfl (AL rfl rfl h3 rfl (A0 (A7 rfl h3 rfl) rfl (A0 (Ao rfl) rfl (Aj ?_))))
   exact Ar (B7 trivial ⟨fb (by simp[h3]),trivial⟩ .slnil)
 refine Aq (Ap (BW rfl rfl) ?_)
 exact Hp (by first | rfl | simp[])
theorem XL (c:Int) (w:World):Calls Tryz.prog 105 [.int .i32 (c)].toArray w (KH w (.bool (D6 c))):=by
 refine HZ (n:=37) Tryz.func105 rfl Tryz.ntmps105 rfl (Ai (Af (A0 (Ao rfl) rfl (Aj (Ar (AP ?_))))))
 refine A6 [(2,.bool (((M1 c)||((MN c)||(bif decide ((65)≤(c)) then((decide ((c)≤(90)))||((decide ((c)=(45)))||((decide ((c)=(95)))||((decide ((c)=(46)))||((decide ((c)=(58)))||(decide ((c)=(47)))))))) else((decide ((c)=(45)))||((decide ((c)=(95)))||((decide ((c)=(46)))||((decide ((c)=(58)))||(decide ((c)=(47))))))))))))] [] (φ:=True) ?_ (λhn=>?_)
 ·refine Af (A0 (Al rfl) rfl (CI Tryz.call142 rfl (λw hw=>Zv c w) rfl (A0 (Al rfl) rfl (AI (M1 c) (λh5=>?_) (λh5=>?_)))))
  ·have g5:=h5;try simp only[AcC,AcD] at g5
   refine AL rfl rfl h5 rfl (AL rfl rfl h5 rfl (A0 (Au rfl h5 rfl) rfl (A0 (Al rfl) rfl (AL rfl rfl rfl rfl (AL rfl rfl rfl rfl (AL rfl rfl rfl rfl (Ei rfl rfl rfl (Ei rfl rfl rfl (AL rfl rfl rfl rfl (A0 (Au rfl rfl rfl) rfl (A0 (Al rfl) rfl (AL rfl rfl rfl rfl (AL rfl rfl rfl rfl (A0 (Au rfl rfl rfl) rfl (A0 (Al rfl) rfl (AL rfl rfl rfl rfl (AL rfl rfl rfl rfl (A0 (Au rfl rfl rfl) rfl (A0 (Al rfl) rfl (AL rfl rfl rfl rfl (AL rfl rfl rfl rfl (A0 (Au rfl rfl rfl) rfl (A0 (Al rfl) rfl ?_)))))))))))))))))))))))
   refine AL rfl rfl rfl rfl (AL rfl rfl rfl rfl (A0 (Au rfl rfl rfl) rfl (A0 (Al rfl) rfl (AL rfl rfl rfl rfl (AL rfl rfl rfl rfl (A0 (Au rfl rfl rfl) rfl (A0 (Ao rfl) rfl (Aj ?_))))))))
   exact Ar (B7 trivial ⟨fb (by simp[h5]),trivial⟩ .slnil)
  ·have g5:=h5;try simp only[AcC,AcD] at g5
   refine Bg rfl rfl h5 (A0 (Al rfl) rfl (Bg rfl rfl h5 (CI Tryz.call143 rfl (λw hw=>Aac c w) rfl (A0 (A7 rfl h5 rfl) rfl (A0 (Al rfl) rfl (AI (MN c) (λh6=>?_) (λh6=>?_)))))))
   ·have g6:=h6;try simp only[AcC,AcD] at g6
    refine AL rfl rfl h6 rfl (AL rfl rfl h6 rfl (AL rfl rfl h6 rfl (Ei rfl rfl rfl (Ei rfl rfl rfl (AL rfl rfl h6 rfl (A0 (Au rfl h6 rfl) rfl (A0 (Al rfl) rfl (AL rfl rfl rfl rfl (AL rfl rfl rfl rfl (A0 (Au rfl rfl rfl) rfl (A0 (Al rfl) rfl (AL rfl rfl rfl rfl (AL rfl rfl rfl rfl (A0 (Au rfl rfl rfl) rfl (A0 (Al rfl) rfl (AL rfl rfl rfl rfl (AL rfl rfl rfl rfl (A0 (Au rfl rfl rfl) rfl (A0 (Al rfl) rfl (AL rfl rfl rfl rfl (AL rfl rfl rfl rfl (A0 (Au rfl rfl rfl) rfl (A0 (Al rfl) rfl ?_)))))))))))))))))))))))
    refine AL rfl rfl rfl rfl (AL rfl rfl rfl rfl (A0 (Au rfl rfl rfl) rfl (A0 (Ao rfl) rfl (Aj ?_))))
    exact Ar (B7 trivial ⟨fb (by simp[h5,h6]),trivial⟩ .slnil)
   ·have g6:=h6;try simp only[AcC,AcD] at g6
    refine Bg rfl rfl h6 (A0 (Al rfl) rfl (Bg rfl rfl h6 (A0 (G0 rfl rfl) rfl (Bg rfl rfl h6 (A0 (Al rfl) rfl (AI (decide ((65)≤(c))) (λh7=>?_) (λh7=>?_)))))))
    ·have g7:=h7;try simp only[AcC,AcD] at g7
     refine Bg rfl rfl h7 (A0 (Al rfl) rfl (Bg rfl rfl h7 (A0 (KG rfl rfl) rfl (Bg rfl rfl h6 (A0 (Au rfl h7 rfl) rfl (A0 (A7 rfl h6 rfl) rfl (A0 (Al rfl) rfl (AI (decide ((c)≤(90))) (λh8=>?_) (λh8=>?_)))))))))
     ·have g8:=h8;try simp only[AcC,AcD] at g8
      refine AL rfl rfl h8 rfl (AL rfl rfl h8 rfl (A0 (Au rfl h8 rfl) rfl (A0 (Al rfl) rfl (AL rfl rfl rfl rfl (AL rfl rfl rfl rfl (A0 (Au rfl rfl rfl) rfl (A0 (Al rfl) rfl (AL rfl rfl rfl rfl (AL rfl rfl rfl rfl (A0 (Au rfl rfl rfl) rfl (A0 (Al rfl) rfl (AL rfl rfl rfl rfl (AL rfl rfl rfl rfl (A0 (Au rfl rfl rfl) rfl (A0 (Al rfl) rfl (AL rfl rfl rfl rfl (AL rfl rfl rfl rfl (A0 (Au rfl rfl rfl) rfl (A0 (Ao rfl) rfl (Aj ?_))))))))))))))))))))
      exact Ar (B7 trivial ⟨fb (by simp[h5,h6,h7,h8]),trivial⟩ .slnil)
     ·have g8:=h8;try simp only[AcC,AcD] at g8
      refine Bg rfl rfl h8 (A0 (Al rfl) rfl (Bg rfl rfl h8 (A0 (Bx rfl rfl) rfl (A0 (A7 rfl h8 rfl) rfl (A0 (Al rfl) rfl (AI (decide ((c)=(45))) (λh9=>?_) (λh9=>?_)))))))
      ·have g9:=h9;try simp only[AcC,AcD] at g9
       refine AL rfl rfl h9 rfl (AL rfl rfl h9 rfl (A0 (Au rfl h9 rfl) rfl (A0 (Al rfl) rfl (AL rfl rfl rfl rfl (AL rfl rfl rfl rfl (A0 (Au rfl rfl rfl) rfl (A0 (Al rfl) rfl (AL rfl rfl rfl rfl (AL rfl rfl rfl rfl (A0 (Au rfl rfl rfl) rfl (A0 (Al rfl) rfl (AL rfl rfl rfl rfl (AL rfl rfl rfl rfl (A0 (Au rfl rfl rfl) rfl (A0 (Ao rfl) rfl (Aj ?_))))))))))))))))
       exact Ar (B7 trivial ⟨fb (by simp[h5,h6,h7,h8,h9]),trivial⟩ .slnil)
      ·have g9:=h9;try simp only[AcC,AcD] at g9
       refine Bg rfl rfl h9 (A0 (Al rfl) rfl (Bg rfl rfl h9 (A0 (Bx rfl rfl) rfl (A0 (A7 rfl h9 rfl) rfl (A0 (Al rfl) rfl (AI (decide ((c)=(95))) (λhb=>?_) (λhb=>?_)))))))
       ·have hi:=hb;try simp only[AcC,AcD] at hi
        refine AL rfl rfl hb rfl (AL rfl rfl hb rfl (A0 (Au rfl hb rfl) rfl (A0 (Al rfl) rfl (AL rfl rfl rfl rfl (AL rfl rfl rfl rfl (A0 (Au rfl rfl rfl) rfl (A0 (Al rfl) rfl (AL rfl rfl rfl rfl (AL rfl rfl rfl rfl (A0 (Au rfl rfl rfl) rfl (A0 (Ao rfl) rfl (Aj ?_))))))))))))
        exact Ar (B7 trivial ⟨fb (by simp[h5,h6,h7,h8,h9,hb]),trivial⟩ .slnil)
       ·have hi:=hb;try simp only[AcC,AcD] at hi
        refine Bg rfl rfl hb (A0 (Al rfl) rfl (Bg rfl rfl hb (A0 (Bx rfl rfl) rfl (A0 (A7 rfl hb rfl) rfl (A0 (Al rfl) rfl (AI (decide ((c)=(46))) (λhe=>?_) (λhe=>?_)))))))
        ·have hj:=he;try simp only[AcC,AcD] at hj
         refine AL rfl rfl he rfl (AL rfl rfl he rfl (A0 (Au rfl he rfl) rfl (A0 (Al rfl) rfl (AL rfl rfl rfl rfl (AL rfl rfl rfl rfl (A0 (Au rfl rfl rfl) rfl (A0 (Ao rfl) rfl (Aj ?_))))))))
         exact Ar (B7 trivial ⟨fb (by simp[h5,h6,h7,h8,h9,hb,he]),trivial⟩ .slnil)
        ·have hj:=he;try simp only[AcC,AcD] at hj
         refine Bg rfl rfl he (A0 (Al rfl) rfl (Bg rfl rfl he (A0 (Bx rfl rfl) rfl (A0 (A7 rfl he rfl) rfl (A0 (Al rfl) rfl (AI (decide ((c)=(58))) (λhg=>?_) (λhg=>?_)))))))
         ·have hk:=hg;try simp only[AcC,AcD] at hk
          refine AL rfl rfl hg rfl (AL rfl rfl hg rfl (A0 (Au rfl hg rfl) rfl (A0 (Ao rfl) rfl (Aj ?_))))
          exact Ar (B7 trivial ⟨fb (by simp[h5,h6,h7,h8,h9,hb,he,hg]),trivial⟩ .slnil)
         ·have hk:=hg;try simp only[AcC,AcD] at hk
          refine Bg rfl rfl hg (A0 (Al rfl) rfl (Bg rfl rfl hg (A0 (Bx rfl rfl) rfl (A0 (A7 rfl hg rfl) rfl (A0 (Ao rfl) rfl (Aj ?_))))))
          exact Ar (B7 trivial ⟨fb (by simp[h5,h6,h7,h8,h9,hb,he,hg]),trivial⟩ .slnil)
    ·have g7:=h7;try simp only[AcC,AcD] at g7
     refine AL rfl rfl h7 rfl (AL rfl rfl h7 rfl (Bg rfl rfl h6 (A0 (A7 rfl h7 rfl) rfl (A0 (A7 rfl h6 rfl) rfl (A0 (Al rfl) rfl (Bg rfl rfl rfl (A0 (Al rfl) rfl (Bg rfl rfl rfl (A0 (Bx rfl rfl) rfl (A0 (A7 rfl rfl rfl) rfl (A0 (Al rfl) rfl (AI (decide ((c)=(45))) (λha=>?_) (λha=>?_)))))))))))))
     ·have hl:=ha;try simp only[AcC,AcD] at hl
      refine AL rfl rfl ha rfl (AL rfl rfl ha rfl (A0 (Au rfl ha rfl) rfl (A0 (Al rfl) rfl (AL rfl rfl rfl rfl (AL rfl rfl rfl rfl (A0 (Au rfl rfl rfl) rfl (A0 (Al rfl) rfl (AL rfl rfl rfl rfl (AL rfl rfl rfl rfl (A0 (Au rfl rfl rfl) rfl (A0 (Al rfl) rfl (AL rfl rfl rfl rfl (AL rfl rfl rfl rfl (A0 (Au rfl rfl rfl) rfl (A0 (Ao rfl) rfl (Aj ?_))))))))))))))))
      exact Ar (B7 trivial ⟨fb (by simp[h5,h6,h7,ha]),trivial⟩ .slnil)
     ·have hl:=ha;try simp only[AcC,AcD] at hl
      refine Bg rfl rfl ha (A0 (Al rfl) rfl (Bg rfl rfl ha (A0 (Bx rfl rfl) rfl (A0 (A7 rfl ha rfl) rfl (A0 (Al rfl) rfl (AI (decide ((c)=(95))) (λhd=>?_) (λhd=>?_)))))))
      ·have hm:=hd;try simp only[AcC,AcD] at hm
       refine AL rfl rfl hd rfl (AL rfl rfl hd rfl (A0 (Au rfl hd rfl) rfl (A0 (Al rfl) rfl (AL rfl rfl rfl rfl (AL rfl rfl rfl rfl (A0 (Au rfl rfl rfl) rfl (A0 (Al rfl) rfl (AL rfl rfl rfl rfl (AL rfl rfl rfl rfl (A0 (Au rfl rfl rfl) rfl (A0 (Ao rfl) rfl (Aj ?_))))))))))))
       exact Ar (B7 trivial ⟨fb (by simp[h5,h6,h7,ha,hd]),trivial⟩ .slnil)
      ·have hm:=hd;try simp only[AcC,AcD] at hm
       refine Bg rfl rfl hd (A0 (Al rfl) rfl (Bg rfl rfl hd (A0 (Bx rfl rfl) rfl (A0 (A7 rfl hd rfl) rfl (A0 (Al rfl) rfl (AI (decide ((c)=(46))) (λhf=>?_) (λhf=>?_)))))))
       ·have g15:=hf;try simp only[AcC,AcD] at g15
        refine AL rfl rfl hf rfl (AL rfl rfl hf rfl (A0 (Au rfl hf rfl) rfl (A0 (Al rfl) rfl (AL rfl rfl rfl rfl (AL rfl rfl rfl rfl (A0 (Au rfl rfl rfl) rfl (A0 (Ao rfl) rfl (Aj ?_))))))))
        exact Ar (B7 trivial ⟨fb (by simp[h5,h6,h7,ha,hd,hf]),trivial⟩ .slnil)
       ·have g15:=hf;try simp only[AcC,AcD] at g15
        refine Bg rfl rfl hf (A0 (Al rfl) rfl (Bg rfl rfl hf (A0 (Bx rfl rfl) rfl (A0 (A7 rfl hf rfl) rfl (A0 (Al rfl) rfl (AI (decide ((c)=(58))) (λhh=>?_) (λhh=>?_)))))))
        ·have g16:=hh;try simp only[AcC,AcD] at g16
         refine AL rfl rfl hh rfl (AL rfl rfl hh rfl (A0 (Au rfl hh rfl) rfl (A0 (Ao rfl) rfl (Aj ?_))))
         exact Ar (B7 trivial ⟨fb (by simp[h5,h6,h7,ha,hd,hf,hh]),trivial⟩ .slnil)
        ·have g16:=hh;try simp only[AcC,AcD] at g16
         refine Bg rfl rfl hh (A0 (Al rfl) rfl (Bg rfl rfl hh (A0 (Bx rfl rfl) rfl (A0 (A7 rfl hh rfl) rfl (A0 (Ao rfl) rfl (Aj ?_))))))
         exact Ar (B7 trivial ⟨fb (by simp[h5,h6,h7,ha,hd,hf,hh]),trivial⟩ .slnil)
 refine Aq (Ap (BW rfl rfl) ?_)
 exact Hp (by simp only[D6];by_cases h:65≤c<;>simp[h,Bool.or_assoc])
theorem Zm (m:Int) (w:World):Calls Tryz.prog 99 [.int .i64 (m)].toArray w (KH w (.bool (Dn m))):=by
 refine HZ (n:=9) Tryz.func99 rfl Tryz.ntmps99 rfl (Ai (Af (A0 (Ao rfl) rfl (Aj (Ar (AP ?_))))))
 refine A6 [(2,.bool (((decide ((-1000000000000)≤(m)))&&(decide ((m)≤(1000000000000))))))] [] (φ:=True) ?_ (λhd=>?_)
 ·refine Af (A0 (Al rfl) rfl (A0 (KG rfl rfl) rfl (A0 (Al rfl) rfl (AI (decide ((-1000000000000)≤(m))) (λha=>?_) (λha=>?_)))))
  ·have hb:=ha;try simp only[AcC,AcD] at hb
   refine Bg rfl rfl ha (A0 (Al rfl) rfl (Bg rfl rfl ha (A0 (KG rfl rfl) rfl (A0 (Au rfl ha rfl) rfl (A0 (Ao rfl) rfl (Aj ?_))))))
   exact Ar (B7 trivial ⟨fb (by first | (simp only[ha,AcN,AcT,Adc,AcQ,AcR,AcV,Ada,AcX,AcO,AcW,AcJ,AcF,if_true,if_false,reduceIte,Bool.false_eq_true];done) | simp[ha]),trivial⟩ .slnil)
  ·have hb:=ha;try simp only[AcC,AcD] at hb
   refine AL rfl rfl ha rfl (AL rfl rfl ha rfl (A0 (A7 rfl ha rfl) rfl (A0 (Ao rfl) rfl (Aj ?_))))
   exact Ar (B7 trivial ⟨fb (by first | (simp only[ha,AcN,AcT,Adc,AcQ,AcR,AcV,Ada,AcX,AcO,AcW,AcJ,AcF,if_true,if_false,reduceIte,Bool.false_eq_true];done) | simp[ha]),trivial⟩ .slnil)
 refine Aq (Ap (BW rfl rfl) ?_)
 exact Hp (by first | rfl | simp[])
theorem Acr (p:List UInt8) (w:World):Calls Tryz.prog 79 [.string (B p)].toArray w (KH w (.bool (S0 p))):=by
 refine HZ (n:=21) Tryz.func79 rfl Tryz.ntmps79 rfl (Ai (Af (A0 (Ao rfl) rfl (Aj (Ar (AP ?_))))))
 refine Ai (Ai (Af (A0 (Al rfl) rfl (UK BC rfl rfl (λhd=>?_)))))
 refine Aj (Ar (AP ?_))
 refine AB (Ji (S:=Nat) (λ(k:Nat)=>k≤p.length∧Bt MJ 0 p=Bt MJ k (p.drop k)) (λ(k:Nat)=>[(0,.string (B (p))),(2,.bool (false)),(6,.pointer (some ⟨hd,0,none⟩))]) (λ(k:Nat)=>[.blk hd (.stringIter (B p) (k))]) (λ(k:Nat)=>p.length-k) (0) ?_ ⟨rfl,rfl,rfl,trivial⟩ (.cons_cons _ (.slnil)) ?_)
 ·exact⟨Adn _,by simp⟩
 rintro k hi0
 refine Ai (Af (Wz (i:=0) rfl rfl rfl (λhend=>?_) (λhj hg hi hh hlu39 hhu39 hwu39=>?_)))
 ·refine A0 (Az rfl rfl) rfl (Aj (Ar (AP ?_)))
  refine Ai (E4 rfl rfl (Bo (At (At (AZ (Ar (AP ?_)))))))
  refine A6 [(2,.bool (((decide ((1)≤((p.length:Int))))&&(decide (((p.length:Int))≤(64))))))] [.blk hd (.stringIter (B p) (k))] (φ:=True) ?_ (λhk=>?_)
  ·refine Af (A0 (Al rfl) rfl (A0 (AW BC rfl) rfl (A0 (G0 rfl rfl) rfl (A0 (Al rfl) rfl (AI (decide ((1)≤((p.length:Int)))) (λha=>?_) (λha=>?_))))))
   ·have he:=ha;try simp only[AcC,AcD] at he
    refine Bg rfl rfl ha (A0 (Al rfl) rfl (Bg rfl rfl ha (A0 (AW BC rfl) rfl (Bg rfl rfl ha (A0 (KG rfl rfl) rfl (A0 (Au rfl ha rfl) rfl (A0 (Ao rfl) rfl (Aj ?_))))))))
    exact Ar (B7 trivial ⟨fb (by first | (simp only[ha,AcN,AcT,Adc,AcQ,AcR,AcV,Ada,AcX,AcO,AcW,AcJ,AcF,if_true,if_false,reduceIte,Bool.false_eq_true];done) | simp[ha]),trivial⟩ (.cons_cons _ (.slnil)))
   ·have he:=ha;try simp only[AcC,AcD] at he
    refine AL rfl rfl ha rfl (AL rfl rfl ha rfl (AL rfl rfl ha rfl (A0 (A7 rfl ha rfl) rfl (A0 (Ao rfl) rfl (Aj ?_)))))
    exact Ar (B7 trivial ⟨fb (by first | (simp only[ha,AcN,AcT,Adc,AcQ,AcR,AcV,Ada,AcX,AcO,AcW,AcJ,AcF,if_true,if_false,reduceIte,Bool.false_eq_true];done) | simp[ha]),trivial⟩ (.cons_cons _ (.slnil)))
  refine Aq (Ap (BW rfl rfl) ?_)
  exact Hp (by rw[Abe hi0 hend])
 ·refine A0 (Az rfl rfl) rfl (Aj (Ar (AP ?_)))
  refine Ai (GD rfl rfl (An (Ar (AP ?_))))
  refine AB (Ai (Af (A0 (Az rfl rfl) rfl (A0 (Ao rfl) rfl (Aj (Ar (AP ?_)))))))
  refine Ai (Af (A0 (Al rfl) rfl (CI Tryz.call105 rfl (λw hw=>XL (hg:Int) w) rfl (A0 (Cd rfl) rfl (Aj (Ar (AP ?_)))))))
  refine C1 (b:=!(D6 (hg:Int))) rfl (λhb=>?_) (λhb=>?_)
  ·have hf:=hb;try simp only[AcC,AcD] at hf
   refine Ai (Af (A0 (Ao rfl) rfl (Aj (Ar (AP ?_)))))
   refine Aq (Av (Ac (Av (Ac (Ap (BW rfl rfl) ?_)))))
   exact Hp (by rw[AbQ hi0 hh hlu39 hhu39 hb])
  ·have hf:=hb;try simp only[AcC,AcD] at hf
   refine An (A8 (Ar (A3 (k+hi) ?_ ⟨rfl,rfl,rfl,trivial⟩ (.cons_cons _ (.slnil)))))
   exact ZO hi0 hh hlu39 hhu39 hb
open Go
def Gy (p:List UInt8):Bool:=decide ((0:Int)<p.length)&&decide (AK p 0=45)
def Dz (p:List UInt8):List UInt8:=if Gy p=true then p.drop 1 else p
theorem Pb (p:List UInt8):(Dz p).length≤p.length:=by unfold Dz;split<;>simp
def D7 (_:Nat) (u:UInt8):Bool:=!(decide ((u.toNat:Int)<48)||decide (57<(u.toNat:Int)))
def EQ (p:List UInt8):Bool:=!(decide (Dz p=[])||(decide (AK (Dz p) 0=48)&&!decide (p=[48])))&&Bt D7 0 (Dz p)
theorem Dh {p:List UInt8} (h : ¬ p=[]):(0:Int)<p.length:=by
 cases p with
 | nil=>exact absurd rfl h
 | cons a r=>simp
theorem HD {p:List UInt8} {k:Nat} (h:(k:Int)<p.length):∃u,p[k]? =some u:=⟨p[k]'(by omega),List.getElem?_eq_getElem (by omega)⟩
theorem SF {p:List UInt8} {k:Nat} (hi:k≤p.length∧Bt D7 0 p=Bt D7 k (p.drop k)) (h:(k:Int)<p.length) (ht:(decide (AK p k<48)||decide (57<AK p k))=false) :
  (k+1≤p.length∧Bt D7 0 p=Bt D7 (k+1) (p.drop (k+1)))∧p.length-(k+1)<p.length-k:=by
 obtain⟨u,hu⟩:=HD h
 rw[MQ hu] at ht
 exact RB hi hu (by simp only[D7,ht];rfl)
theorem Y3 {p:List UInt8} {k:Nat} (hi:k≤p.length∧Bt D7 0 p=Bt D7 k (p.drop k)) (h:(k:Int)<p.length) (ht:(decide (AK p k<48)||decide (57<AK p k))=true):Bt D7 0 p=false:=by
 obtain⟨u,hu⟩:=HD h
 rw[MQ hu] at ht
 exact WR hi hu (by simp only[D7,ht];rfl)
theorem U4 {p:List UInt8} {k:Nat} (hi:k≤p.length∧Bt D7 0 p=Bt D7 k (p.drop k)) (h : ¬ (k:Int)<p.length):Bt D7 0 p=true:=TR hi (by omega)
def BA (p:List UInt8):Int:=if EQ p=true then(match Lib.atoiAll p with | .ok v=>if Dn v=true then 0 else 2 | _=>2) else 1
def AJ (p:List UInt8):Int:=if EQ p=true then(match Lib.atoiAll p with | .ok v=>if Dn v=true then v else 0 | _=>0) else 0
theorem Pc:∀(l:List UInt8) (i acc:Nat),Bt D7 i l=true→(∃u,Lib.parseUint10 acc l = .ok u)∨Lib.parseUint10 acc l = .range
 | [],_,acc,_=>.inl ⟨acc,rfl⟩
 | c::r,i,acc,h=>by
  simp only[Bt,AcH] at h
  have hc:48≤c.toNat∧c.toNat≤57:=by have:=h.1;simp[D7] at this;omega
  unfold Lib.parseUint10
  rw[Adq hc]
  split
  ·exact .inr rfl
  ·split
   ·exact .inr rfl
   ·exact Pc r _ _ h.2
theorem Uq {l:List UInt8} (hne:l≠[]) (h:Bt D7 0 l=true):(∃u,Lib.parseMag l = .ok u)∨Lib.parseMag l = .range:=by
 unfold Lib.parseMag
 rw[Adj hne]
 exact Pc l 0 0 h
theorem Q0 {e:Lib.NumEnd Nat} (h:(∃u,e = .ok u)∨e = .range):(∃v,Lib.signless e = .ok v)∨Lib.signless e = .range:=by
 rcases h with⟨u,rfl⟩ | rfl
 ·unfold Lib.signless
  by_cases h:9223372036854775808≤u
  ·exact .inr (by simp[h])
  ·exact .inl ⟨_,by simp[h];rfl⟩
 ·exact .inr rfl
theorem Te {e:Lib.NumEnd Nat} (h:(∃u,e = .ok u)∨e = .range):(∃v,Lib.signed e = .ok v)∨Lib.signed e = .range:=by
 rcases h with⟨u,rfl⟩ | rfl
 ·unfold Lib.signed
  by_cases h:9223372036854775808<u
  ·exact .inr (by simp[h])
  ·exact .inl ⟨_,by simp[h];rfl⟩
 ·exact .inr rfl
theorem YJ {p:List UInt8} (h:EQ p=true):(∃v,Lib.atoiAll p = .ok v∧-9223372036854775808≤v∧v≤9223372036854775807)∨Lib.atoiAll p = .range:=by
 have key:(∃v,Lib.atoiAll p = .ok v)∨Lib.atoiAll p = .range:=by
  simp only[EQ,AcH,AcS,AcZ,AcD] at h
  obtain⟨⟨hne,_⟩,hall⟩:=h
  cases p with
  | nil=>simp[Dz,Gy] at hne
  | cons c r=>
   by_cases hc:c=45
   ·subst hc
    have hd:Dz (45::r)=r:=by simp[Dz,Gy,AK]
    rw[hd] at hne hall
    rw[Lib.atoiAll_minus]
    exact Te (Uq hne hall)
   ·have hb : ¬ AK (c::r) 0=45:=by
     simp only[AK,Int.toNat_zero,List.getElem?_cons_zero,Option.getD_some]
     intro e;exact hc (UInt8.toNat_inj.1 (by simpa using(by omega:c.toNat=45)))
    have hd:Dz (c::r)=c::r:=by simp[Dz,Gy,hb]
    rw[hd] at hne hall
    have ha:48≤c.toNat:=by
     simp only[Bt,AcH] at hall
     have:=hall.1;simp[D7] at this;omega
    rw[Lib.atoiAll_plain c r (by omega) (by omega)]
    exact Q0 (Uq hne hall)
 rcases key with⟨v,hv⟩ | h
 ·exact .inl ⟨v,hv,Lib.atoiAll_bounds hv⟩
 ·exact .inr h
theorem Sw (m:Int) (h0 : -9223372036854775808≤m) (h1:m≤9223372036854775807):(Lib.itoa m).length≤21:=Lib.itoa_length_le m h0 h1
theorem VW (p:List UInt8) (hp:p.length≤281474976710656) (w:World):Calls Tryz.prog 97 [.string (B (p))].toArray w (KH w (.bool (EQ p))):=by
 refine HZ (n:=43) Tryz.func97 rfl Tryz.ntmps97 rfl (Ai (Af (A0 (Ao rfl) rfl (Aj (Ar (AP ?_))))))
 refine Ai (Af (A0 (Al rfl) rfl (A0 (Ao rfl) rfl (Aj (Ar (AP ?_))))))
 refine A6 [(0,.string (B (p))),(2,.bool (false)),(3,.string (B ((if ((decide ((0)<((p.length:Int))))&&(decide ((AK p 0)=(45))))=true then List.drop (Int.toNat (1)) p else p))))] [] (φ:=True) ?_ (λh1=>?_)
 ·refine A6 [(0,.string (B (p))),(2,.bool (false)),(3,.string (B (p))),(13,.bool (((decide ((0)<((p.length:Int))))&&(decide ((AK p 0)=(45))))))] [] (φ:=True) ?_ (λh2=>?_)
  ·refine Af (A0 (Al rfl) rfl (A0 (AW BC rfl) rfl (A0 (Cb rfl rfl) rfl (A0 (Al rfl) rfl (AI (decide ((0)<((p.length:Int)))) (λhd=>?_) (λhd=>?_))))))
   ·have hk:=hd;try simp only[AcC,AcD] at hk
    have hl:=hd;try simp at hl
    refine Bg rfl rfl hd (A0 (Al rfl) rfl (Bg rfl rfl hd (A0 (AO BC rfl rfl (by first | omega | exact Dh (by assumption)) (by first | omega | exact Dh (by assumption))) rfl (Bg rfl rfl hd (A0 (Bx rfl rfl) rfl (A0 (Au rfl hd rfl) rfl (Aj ?_)))))))
    exact Ar (B7 trivial ⟨rfl,rfl,rfl,fb (by first | (simp only[hd,AcN,AcT,Adc,AcQ,AcR,AcV,Ada,AcX,AcO,AcW,AcJ,AcF,if_true,if_false,reduceIte,Bool.false_eq_true];done) | simp[hd]),trivial⟩ .slnil)
   ·have hk:=hd;try simp only[AcC,AcD] at hk
    have hl:=hd;try simp at hl
    refine AL rfl rfl hd rfl (AL rfl rfl hd rfl (AL rfl rfl hd rfl (A0 (A7 rfl hd rfl) rfl (Aj ?_))))
    exact Ar (B7 trivial ⟨rfl,rfl,rfl,fb (by first | (simp only[hd,AcN,AcT,Adc,AcQ,AcR,AcV,Ada,AcX,AcO,AcW,AcJ,AcF,if_true,if_false,reduceIte,Bool.false_eq_true];done) | simp[hd]),trivial⟩ .slnil)
  refine C1 (b:=((decide ((0)<((p.length:Int))))&&(decide ((AK p 0)=(45))))) rfl (λhg=>?_) (λhg=>?_)
  ·have hm:=hg;try simp only[AcC,AcD] at hm
   have hn:=hg;try simp at hn
   refine Af (A0 (Al rfl) rfl (A0 (Dq BC rfl rfl (by first | omega | (simp;omega)) (by first | omega | (simp;omega))) rfl (A0 (Ao rfl) rfl (Aj ?_))))
   exact Ar (B7 trivial ⟨rfl,rfl,fs (by first | (simp only[hg,AcN,AcT,Adc,AcQ,AcR,AcV,Ada,AcX,AcO,AcW,AcJ,AcF,if_true,if_false,reduceIte,Bool.false_eq_true];done) | simp[hg]),trivial⟩ .slnil)
  ·have hm:=hg;try simp only[AcC,AcD] at hm
   have hn:=hg;try simp at hn
   refine An ?_
   exact Ar (B7 trivial ⟨rfl,rfl,fs (by first | (simp only[hg,AcN,AcT,Adc,AcQ,AcR,AcV,Ada,AcX,AcO,AcW,AcJ,AcF,if_true,if_false,reduceIte,Bool.false_eq_true];done) | simp[hg]),trivial⟩ .slnil)
 have hdg:Dz p=(if ((decide ((0)<((p.length:Int))))&&(decide ((AK p 0)=(45))))=true then List.drop (Int.toNat (1)) p else p):=rfl
 have hdl:=Pb p
 rw[hdg] at hdl
 generalize(if ((decide ((0)<((p.length:Int))))&&(decide ((AK p 0)=(45))))=true then List.drop (Int.toNat (1)) p else p)=dg at hdg hdl ⊢
 refine Ai (A6 [(2,.bool (false)),(3,.string (B (dg))),(26,.bool (((decide ((dg)=(([]:List UInt8))))||((decide ((AK dg 0)=(48)))&&(!(decide ((p)=(([48]:List UInt8)))))))))] [] (φ:=True) ?_ (λh3=>?_))
 ·refine Af (A0 (Al rfl) rfl (A0 (Ef rfl rfl) rfl (A0 (Al rfl) rfl (AI (decide ((dg)=(([]:List UInt8)))) (λha=>?_) (λha=>?_)))))
  ·have ho:=ha;try simp only[AcC,AcD] at ho
   have hq:=ha;try simp at hq
   refine AL rfl rfl ha rfl (AL rfl rfl ha rfl (AL rfl rfl ha rfl (AL rfl rfl ha rfl (Ei rfl rfl rfl (Ei rfl rfl rfl (AL rfl rfl ha rfl (A0 (Au rfl ha rfl) rfl (Aj ?_))))))))
   exact Ar (B7 trivial ⟨rfl,rfl,fb (by first | (simp only[ha,AcN,AcT,Adc,AcQ,AcR,AcV,Ada,AcX,AcO,AcW,AcJ,AcF,if_true,if_false,reduceIte,Bool.false_eq_true];done) | simp[ha]),trivial⟩ .slnil)
  ·have ho:=ha;try simp only[AcC,AcD] at ho
   have hq:=ha;try simp at hq
   refine Bg rfl rfl ha (A0 (Al rfl) rfl (Bg rfl rfl ha (A0 (AO BC rfl rfl (by first | omega | exact Dh (by assumption)) (by first | omega | exact Dh (by assumption))) rfl (Bg rfl rfl ha (A0 (Bx rfl rfl) rfl (Bg rfl rfl ha (A0 (Al rfl) rfl (AI (decide ((AK dg 0)=(48))) (λhe=>?_) (λhe=>?_)))))))))
   ·have hr:=he;try simp only[AcC,AcD] at hr
    have hs:=he;try simp at hs
    refine Bg rfl rfl he (A0 (Al rfl) rfl (Bg rfl rfl he (A0 (Hj rfl rfl) rfl (Bg rfl rfl ha (A0 (Au rfl he rfl) rfl (A0 (A7 rfl ha rfl) rfl (Aj ?_)))))))
    exact Ar (B7 trivial ⟨rfl,rfl,fb (by first | (simp only[ha,he,AcN,AcT,Adc,AcQ,AcR,AcV,Ada,AcX,AcO,AcW,AcJ,AcF,if_true,if_false,reduceIte,Bool.false_eq_true];done) | simp[ha,he]),trivial⟩ .slnil)
   ·have hr:=he;try simp only[AcC,AcD] at hr
    have hs:=he;try simp at hs
    refine AL rfl rfl he rfl (AL rfl rfl he rfl (Bg rfl rfl ha (A0 (A7 rfl he rfl) rfl (A0 (A7 rfl ha rfl) rfl (Aj ?_)))))
    exact Ar (B7 trivial ⟨rfl,rfl,fb (by first | (simp only[ha,he,AcN,AcT,Adc,AcQ,AcR,AcV,Ada,AcX,AcO,AcW,AcJ,AcF,if_true,if_false,reduceIte,Bool.false_eq_true];done) | simp[ha,he]),trivial⟩ .slnil)
 refine C1 (b:=((decide ((dg)=(([]:List UInt8))))||((decide ((AK dg 0)=(48)))&&(!(decide ((p)=(([48]:List UInt8)))))))) rfl (λhf=>?_) (λhf=>?_)
 ·have ht:=hf;try simp only[AcC,AcD] at ht
  have hu:=hf;try simp at hu
  refine Ai (Af (A0 (Ao rfl) rfl (Aj (Ar (AP ?_)))))
  refine Aq (Ac (Ap (BW rfl rfl) ?_))
  exact Hp (by simp only[EQ,hdg,hf];rfl)
 ·have ht:=hf;try simp only[AcC,AcD] at ht
  have hu:=hf;try simp at hu
  refine An (Ar (AP ?_))
  refine Ai (Ai (Af (A0 (Al rfl) rfl (A0 (AW BC rfl) rfl (A0 (Al rfl) rfl (Aj (Ar (AP ?_))))))))
  refine AB (Ji (S:=Nat) (λ(k:Nat)=>k≤dg.length∧Bt D7 0 dg=Bt D7 k (dg.drop k)) (λ(k:Nat)=>[(29,.int .i64 ((k:Int))),(3,.string (B (dg))),(28,.int .i64 ((dg.length:Int)))]) (λ(k:Nat)=>[]) (λ(k:Nat)=>dg.length-k) (0) ?_ ⟨fi (by first | rfl | (simp;done) | omega | (simp;omega)),rfl,rfl,trivial⟩ .slnil ?_)
  ·exact⟨Adn _,by simp⟩
  rintro k hi0
  refine Ai (Af (A0 (BY rfl rfl) rfl (Aj (Ar (AP ?_)))))
  refine Ai (C1 (b:=decide (((k:Int))<((dg.length:Int)))) rfl (λhh=>?_) (λhh=>?_))
  ·have hj:=hh;try simp only[AcC,AcD] at hj
   have hw:=hh;try simp at hw
   refine An (Ar (AP ?_))
   refine Ai (AB (Ai (Af (A0 (Al rfl) rfl (A0 (Ao rfl) rfl (Aj (Ar (AP ?_))))))))
   refine A6 [(3,.string (B (dg))),(4,.int .i64 ((k:Int))),(28,.int .i64 ((dg.length:Int))),(29,.int .i64 ((k:Int))),(30,.bool (decide (((k:Int))<((dg.length:Int))))),(31,.int .i64 ((k:Int))),(32,.string (B (dg))),(33,.int .i64 ((k:Int))),(34,.int .u8 (AK dg (k:Int))),(35,.bool (decide ((AK dg (k:Int))<(48)))),(36,.bool (decide ((AK dg (k:Int))<(48)))),(41,.bool (((decide ((AK dg (k:Int))<(48)))||(decide ((57)<(AK dg (k:Int)))))))] [] (φ:=True) ?_ (λh4=>?_)
   ·refine Af (A0 (Al rfl) rfl (A0 (Al rfl) rfl (A0 (AO BC rfl rfl (by first | omega | exact Dh (by assumption)) (by first | omega | exact Dh (by assumption))) rfl (A0 (BY rfl rfl) rfl (A0 (Al rfl) rfl (AI (decide ((AK dg (k:Int))<(48))) (λhb=>?_) (λhb=>?_)))))))
    ·have hx:=hb;try simp only[AcC,AcD] at hx
     have hy:=hb;try simp at hy
     refine AL rfl rfl hb rfl (AL rfl rfl hb rfl (AL rfl rfl hb rfl (AL rfl rfl hb rfl (A0 (Au rfl hb rfl) rfl (Aj ?_)))))
     exact Ar (B7 trivial ⟨rfl,rfl,rfl,rfl,rfl,rfl,rfl,rfl,rfl,rfl,rfl,fb (by first | (simp only[hf,hh,hb,AcN,AcT,Adc,AcQ,AcR,AcV,Ada,AcX,AcO,AcW,AcJ,AcF,if_true,if_false,reduceIte,Bool.false_eq_true];done) | simp[hf,hh,hb]),trivial⟩ .slnil)
    ·have hx:=hb;try simp only[AcC,AcD] at hx
     have hy:=hb;try simp at hy
     refine Bg rfl rfl hb (A0 (Al rfl) rfl (Bg rfl rfl hb (A0 (Al rfl) rfl (Bg rfl rfl hb (A0 (AO BC rfl rfl (by first | omega | exact Dh (by assumption)) (by first | omega | exact Dh (by assumption))) rfl (Bg rfl rfl hb (A0 (Cb rfl rfl) rfl (A0 (A7 rfl hb rfl) rfl (Aj ?_)))))))))
     exact Ar (B7 trivial ⟨rfl,rfl,rfl,rfl,rfl,rfl,rfl,rfl,rfl,rfl,rfl,fb (by first | (simp only[hf,hh,hb,AcN,AcT,Adc,AcQ,AcR,AcV,Ada,AcX,AcO,AcW,AcJ,AcF,if_true,if_false,reduceIte,Bool.false_eq_true];done) | simp[hf,hh,hb]),trivial⟩ .slnil)
   refine C1 (b:=((decide ((AK dg (k:Int))<(48)))||(decide ((57)<(AK dg (k:Int)))))) rfl (λhi=>?_) (λhi=>?_)
   ·have hz:=hi;try simp only[AcC,AcD] at hz
    have h0:=hi;try simp at h0
    refine Ai (Af (A0 (Ao rfl) rfl (Aj (Ar (AP ?_)))))
    refine Aq (Av (Ac (Ac (Av (Ac (Ap (BW rfl rfl) ?_))))))
    exact Hp (by simp[EQ,hdg,Y3 hi0 hj hi])
   ·have hz:=hi;try simp only[AcC,AcD] at hz
    have h0:=hi;try simp at h0
    refine An (A8 (Ar (AP ?_)))
    refine Af (A0 (AX rfl rfl (IntWalk.i64_in _ (by omega))) rfl (A0 (Al rfl) rfl (Aj (Ar (A3 (k+1) ?_ ⟨fi (by first | rfl | (simp;done) | omega | (simp;omega)),rfl,rfl,trivial⟩ .slnil)))))
    exact SF hi0 hj hi
  ·have hj:=hh;try simp only[AcC,AcD] at hj
   have hw:=hh;try simp at hw
   refine Bo (At (At (AZ (Ar (AP ?_)))))
   refine Ai (Af (A0 (Ao rfl) rfl (Aj (Ar (AP ?_)))))
   refine Aq (Ap (BW rfl rfl) ?_)
   exact Hp (by simp only[EQ,hdg,hf,U4 hi0 hj];rfl)
theorem Yk (m:Int) (h0 : -9223372036854775808≤m) (h1:m≤9223372036854775807) (w:World) (hE:UE w):Calls Tryz.prog 67 [.int .i64 (m)].toArray w (KH w (.string (B (Lib.itoa m)))):=by
 refine HZ (n:=5) Tryz.func67 rfl Tryz.ntmps67 rfl (Ai (Af (A0 (Ao rfl) rfl (Aj (Ar (AP ?_))))))
 refine Ai (Af (A0 (Al rfl) rfl (CI Tryz.call89 rfl (λw hw=>XW m (by omega) (by omega) w (hE.st0 hw)) rfl (A0 (Ao rfl) rfl (Aj (Ar (AP ?_)))))))
 refine Aq (Ap (BW rfl rfl) ?_)
 exact Hp (by first | rfl | simp[])
theorem Z2 (p:List UInt8) (hp:p.length≤281474976710656) (w:World) (hE:UE w):Calls Tryz.prog 73 [.string (B (p))].toArray w (KH w (.tuple #[.int .i64 (AJ p),.int .i64 (BA p)])):=by
 refine HZ (n:=22) Tryz.func73 rfl Tryz.ntmps73 rfl (Ai (Af (A0 (Ao rfl) rfl (A0 (Ao rfl) rfl (Aj (Ar (AP ?_)))))))
 refine Ai (Ai (Af (A0 (Al rfl) rfl (CI Tryz.call97 rfl (λw hw=>VW p (by first | omega | (simp;done) | (simp;omega) | (simp at *;omega)) w) rfl (A0 (Cd rfl) rfl (Aj (Ar (AP ?_))))))))
 refine C1 (b:=!(EQ p)) rfl (λhb=>?_) (λhb=>?_)
 ·have hf:=hb;try simp only[AcC,AcD] at hf
  have ha:=hb;try simp only[AcC,AcD,AcH,Adi,AcS,Ado,Adk,AcZ,not_or,Int.not_lt,Int.not_le] at ha
  refine Ai (Af (A0 (Ao rfl) rfl (A0 (Ao rfl) rfl (Aj (Ar (AP ?_))))))
  refine Aq (Ac (Ap (Cy rfl rfl rfl) ?_))
  exact Hp (by simp[AJ,BA,ha])
 ·have hf:=hb;try simp only[AcC,AcD] at hf
  have ha:=hb;try simp only[AcC,AcD,AcH,Adi,AcS,Ado,Adk,AcZ,not_or,Int.not_lt,Int.not_le] at ha
  refine An (Ar (AP ?_))
  refine Ai (Af (A0 (Al rfl) rfl ?_))
  rcases YJ (p:=p) (by assumption) with⟨av,hav,hal,hah⟩ | hav
  ·refine CI Tryz.call98 rfl (λw _=>Aak p (by first | omega | (simp;done) | (simp;omega) | (simp at *;omega)) av hav w) rfl (A0 (Al rfl) rfl (A0 (Az rfl rfl) rfl (A0 (Az rfl rfl) rfl (A0 (Ao rfl) rfl (A0 (Ao rfl) rfl (Aj (Ar (AP ?_))))))))
   refine Ai (A6 [(2,.int .i64 (0)),(3,.int .i64 (0)),(4,.int .i64 (av)),(20,.bool (!(Dn av)))] [] (φ:=True) ?_ (λhh=>?_))
   ·exact Af (A0 (Al rfl) rfl (A0 (Sf Tryz.underlying121 rfl) rfl (A0 (Al rfl) rfl (Bg rfl rfl rfl (A0 (Al rfl) rfl (Bg rfl rfl rfl (CI Tryz.call99 rfl (λw hw=>Zm av w) rfl (Bg rfl rfl rfl (A0 (Cd rfl) rfl (A0 (A7 rfl rfl rfl) rfl (Aj (Ar (B7 trivial ⟨rfl,rfl,rfl,rfl,trivial⟩ .slnil)))))))))))))
   refine C1 (b:=!(Dn av)) rfl (λhd=>?_) (λhd=>?_)
   ·have hg:=hd;try simp only[AcC,AcD] at hg
    have he:=hd;try simp only[AcC,AcD,AcH,Adi,AcS,Ado,Adk,AcZ,not_or,Int.not_lt,Int.not_le] at he
    refine Ai (Af (A0 (Ao rfl) rfl (A0 (Ao rfl) rfl (Aj (Ar (AP ?_))))))
    refine Aq (Ac (Ap (Cy rfl rfl rfl) ?_))
    exact Hp (by simp[AJ,BA,hav,ha,he])
   ·have hg:=hd;try simp only[AcC,AcD] at hg
    have he:=hd;try simp only[AcC,AcD,AcH,Adi,AcS,Ado,Adk,AcZ,not_or,Int.not_lt,Int.not_le] at he
    refine An (Ar (AP ?_))
    refine Ai (Af (A0 (Al rfl) rfl (A0 (Ao rfl) rfl (A0 (Ao rfl) rfl (Aj (Ar (AP ?_)))))))
    refine Aq (Ap (Cy rfl rfl rfl) ?_)
    exact Hp (by simp[AJ,BA,hav,ha,he])
  ·refine Zl Tryz.call98 rfl (λw hw=>TB p (by first | omega | (simp;done) | (simp;omega) | (simp at *;omega)) hav w (hE.st0 hw)) rfl ?_
   rintro _ _ ⟨am,at_,ab,rfl,rfl⟩
   refine A0 (Al rfl) rfl (A0 (Az rfl rfl) rfl (A0 (Az rfl rfl) rfl (A0 (Ao rfl) rfl (A0 (Ao rfl) rfl (Aj (Ar (AP ?_)))))))
   refine Ai (A6 [(2,.int .i64 (0)),(3,.int .i64 (0)),(4,.int .i64 (am)),(20,.bool (true))] [] (φ:=True) ?_ (λhi=>?_))
   ·exact Af (A0 (Al rfl) rfl (A0 (Z8 Tryz.underlying121 rfl) rfl (A0 (Al rfl) rfl (AL rfl rfl rfl rfl (AL rfl rfl rfl rfl (AL rfl rfl rfl rfl (A0 (Au rfl rfl rfl) rfl (Aj (Ar (B7 trivial ⟨rfl,rfl,rfl,rfl,trivial⟩ .slnil))))))))))
   refine GD rfl rfl (Ai (Af (A0 (Ao rfl) rfl (A0 (Ao rfl) rfl (Aj (Ar (AP ?_)))))))
   refine Aq (Ac (Ap (Cy rfl rfl rfl) ?_))
   exact Hp (by simp[AJ,BA,hav,ha])
end Go.Proofs.YtjfnokmpfekniaaGreatDoor
namespace Go.Proofs
open Go.Shelf
def Tryz.lays169_ren:Go.Shelf.Ren:=⟨fun | 169=>88 | n=>n,fun | 70=>110 | 9=>9 | 0=>0 | 72=>112 | 37=>94 | 127=>150 | 3=>3 | 5=>5 | n=>n,fun | n=>n⟩
theorem Tryz.lays169:Go.Proofs.Lays.n169 Tryz.prog Tryz.lays169_ren:={
 mixed:=by kernel_rfl
 f169:=Tryz.func88.trans (congrArg some (by kernel_rfl))
 t0:=Tryz.underlying0
 a0:=Tryz.isAgg0
 z0:=Tryz.sizeOf0
 v0:=Tryz.zeroValue0
 t3:=Tryz.underlying3
 a3:=Tryz.isAgg3
 z3:=Tryz.sizeOf3
 v3:=Tryz.zeroValue3
 t9:=Tryz.underlying9
 a9:=Tryz.isAgg9
 z9:=Tryz.sizeOf9
 v9:=Tryz.zeroValue9
 t37:=Tryz.underlying94
 a37:=Tryz.isAgg94
 z37:=Tryz.sizeOf94
 v37:=Tryz.zeroValue94
 t70:=Tryz.underlying110
 a70:=Tryz.isAgg110
 z70:=Tryz.sizeOf110
 v70:=Tryz.zeroValue110
 t72:=Tryz.underlying112
 a72:=Tryz.isAgg112
 z72:=Tryz.sizeOf112
 v72:=Tryz.zeroValue112
 t127:=Tryz.underlying150
 a127:=Tryz.isAgg150
 z127:=Tryz.sizeOf150
 v127:=Tryz.zeroValue150 }
theorem Tryz.Builder_Extra_169:Builder.Extra Tryz.prog Tryz.lays169_ren:={
 sizeBuilder:=by kernel_rfl
 liesBuilder:=by kernel_rfl
 t5:=Tryz.underlying5
 a5:=Tryz.isAgg5
 z5:=Tryz.sizeOf5
 v5:=Tryz.zeroValue5
 infoByte:=by kernel_rfl
 cellsByte:=by kernel_rfl
 sizeByte:=by kernel_rfl
 neB5:=by decide }
open Go.RowKit in
theorem Tryz.Builder_String_any (B b:Nat) (l:List UInt8) (w:World) (h:Lib.IsBuilder 112 5 B b (Lib.byteCells l) w) (hBw:B≤w.heap.size) :
  Calls Tryz.prog 88 #[.pointer (some ⟨b,0,none⟩)] w λe w'=>e = .returned (.string ⟨l.toArray⟩)∧Below B w w':=Any.Builder_String_any Tryz.lays169 Tryz.Builder_Extra_169 B b l w h hBw
def Tryz.lays138_ren:Go.Shelf.Ren:=⟨fun | 138=>164 | 195=>174 | 218=>175 | 143=>176 | 219=>183 | 217=>186 | 225=>187 | 224=>188 | 267=>189 | 266=>190 | 314=>191 | n=>n,fun | 9=>9 | 3=>3 | 4=>4 | 5=>5 | 0=>0 | 46=>109 | 146=>210 | 51=>116 | n=>n,fun | 1=>3 | n=>n⟩
theorem Tryz.lays138:Go.Proofs.Lays.n138 Tryz.prog Tryz.lays138_ren:={
 mixed:=by kernel_rfl
 f138:=Tryz.func164.trans (congrArg some (by kernel_rfl))
 f143:=Tryz.func176.trans (congrArg some (by kernel_rfl))
 f195:=Tryz.func174.trans (congrArg some (by kernel_rfl))
 f217:=Tryz.func186.trans (congrArg some (by kernel_rfl))
 f218:=Tryz.func175.trans (congrArg some (by kernel_rfl))
 f219:=Tryz.func183.trans (congrArg some (by kernel_rfl))
 f224:=Tryz.func188.trans (congrArg some (by kernel_rfl))
 f225:=Tryz.func187.trans (congrArg some (by kernel_rfl))
 f266:=Tryz.func190.trans (congrArg some (by kernel_rfl))
 f267:=Tryz.func189.trans (congrArg some (by kernel_rfl))
 f314:=Tryz.func191.trans (congrArg some (by kernel_rfl))
 t0:=Tryz.underlying0
 a0:=Tryz.isAgg0
 z0:=Tryz.sizeOf0
 v0:=Tryz.zeroValue0
 t3:=Tryz.underlying3
 a3:=Tryz.isAgg3
 z3:=Tryz.sizeOf3
 v3:=Tryz.zeroValue3
 t4:=Tryz.underlying4
 a4:=Tryz.isAgg4
 z4:=Tryz.sizeOf4
 v4:=Tryz.zeroValue4
 t5:=Tryz.underlying5
 a5:=Tryz.isAgg5
 z5:=Tryz.sizeOf5
 v5:=Tryz.zeroValue5
 t9:=Tryz.underlying9
 a9:=Tryz.isAgg9
 z9:=Tryz.sizeOf9
 v9:=Tryz.zeroValue9
 t46:=Tryz.underlying109
 a46:=Tryz.isAgg109
 z46:=Tryz.sizeOf109
 v46:=Tryz.zeroValue109
 t51:=Tryz.underlying116
 a51:=Tryz.isAgg116
 z51:=Tryz.sizeOf116
 v51:=Tryz.zeroValue116
 t146:=Tryz.underlying210
 a146:=Tryz.isAgg210
 z146:=Tryz.sizeOf210
 v146:=Tryz.zeroValue210
 g1:=by kernel_rfl }
open Go.RowKit Go.Lib in
theorem Tryz.strings_Count_one (s:ByteArray) (c:UInt8) (w:World) :
  Calls Tryz.prog 164 #[.string s,.string ⟨#[c]⟩] w λe w'=>e = .returned (.int .i64 (Lib.countByte s.data.toList c))∧w'=w:=Any.strings_Count_one Tryz.lays138 s c w
end Go.Proofs
namespace Go.Proofs.YtjfnokmpfekniaaGreatDoor
open Go
set_option linter.unusedVariables false
set_option linter.unusedSimpArgs false
theorem Rc {f:Nat→UInt8→Bool}:∀{l:List UInt8} {i:Nat},Bt f i l=true→∀u∈l,∃j,f j u=true
 | [],_,_,u,hu=>by simp at hu
 | x::r,i,h,u,hu=>by
  simp only[Bt,AcH] at h
  rcases List.mem_cons.1 hu with rfl | hu
  ·exact⟨i,h.1⟩
  ·exact Rc h.2 u hu
theorem YL {f:Nat→UInt8→Bool}:∀{l:List UInt8} {i:Nat},(∀j,∀u∈l,f j u=true)→Bt f i l=true
 | [],_,_=>rfl
 | x::r,i,h=>by simp only[Bt,AcH];exact⟨h i x (by simp),YL λj u hu=>h j u (by simp[hu])⟩
theorem TY:∀(l:List UInt8) (acc v:Nat) (c:UInt8),Lib.parseUint10 acc l = .ok v→48≤c.toNat→c.toNat≤57→v<1844674407370955161→Lib.parseUint10 acc (l++[c]) = .ok (v*10+(c.toNat-48))
 | [],acc,v,c,h,h0,h1,hv=>by
  simp only[Lib.parseUint10,Lib.NumEnd.ok.injEq] at h;subst h
  simp only[Adh,Lib.parseUint10]
  rw[Adq ⟨h0,h1⟩,Adj (by omega),Adj (by omega)]
 | x::r,acc,v,c,h,h0,h1,hv=>by
  simp only[List.cons_append,Lib.parseUint10] at h ⊢
  split at h
  ·rename_i hx
   rw[Adq hx]
   split at h
   ·cases h
   ·rename_i hy
    rw[Adj hy]
    split at h
    ·cases h
    ·rename_i hz
     rw[Adj hz]
     exact TY r _ v c h h0 h1 hv
  ·cases h
theorem Lf {d:Nat} (h:d<10):(UInt8.ofNat (48+d)).toNat=48+d:=by
 simp[UInt8.toNat_ofNat'];omega
theorem Aaf (u:Nat):∀c∈Lib.decDigits u,48≤c.toNat∧c.toNat≤57:=by
 induction u using Nat.strongRecOn with
 | ind u ih=>
  intro c hc
  rw[Lib.decDigits] at hc
  split at hc
  ·simp only[List.mem_singleton] at hc
   subst hc;rw[Lf (by omega)];omega
  ·rcases List.mem_append.1 hc with hc | hc
   ·exact ih (u/10) (by omega) c hc
   ·simp only[List.mem_singleton] at hc
    subst hc;rw[Lf (by omega)];omega
theorem VX (u:Nat):u<18446744073709551610→Lib.parseUint10 0 (Lib.decDigits u) = .ok u:=by
 induction u using Nat.strongRecOn with
 | ind u ih=>
  intro hu
  rw[Lib.decDigits]
  split
  ·rename_i h
   simp only[Lib.parseUint10]
   rw[Lf h,Adq (by omega),Adj (by omega),Adj (by omega)]
   congr 1;omega
  ·rename_i h
   have:=TY (Lib.decDigits (u/10)) 0 (u/10) (UInt8.ofNat (48+u % 10)) (ih (u/10) (by omega) (by omega)) (by rw[Lf (by omega)];omega) (by rw[Lf (by omega)];omega) (by omega)
   rw[this,Lf (by omega)]
   congr 1;omega
theorem Y4 (u:Nat):Lib.decDigits u≠[]:=by
 rw[Lib.decDigits];split<;>simp
theorem VY (u:Nat):1≤u→AK (Lib.decDigits u) 0≠48:=by
 induction u using Nat.strongRecOn with
 | ind u ih=>
  intro hu
  rw[Lib.decDigits]
  split
  ·rename_i h
   have:=Lf h
   simp only[AK,Int.toNat_zero,List.getElem?_cons_zero,Option.getD_some]
   rw[this];omega
  ·rename_i h
   have h1:=ih (u/10) (by omega) (by omega)
   have hne:=Y4 (u/10)
   unfold AK at h1 ⊢
   rw[show(0:Int).toNat=0 from rfl] at h1 ⊢
   rwa [List.getElem?_append_left (by cases hd:Lib.decDigits (u/10) with | nil=>exact absurd hd hne | cons=>simp)]
theorem Aae (u:Nat) (h:u<10):Lib.decDigits u=[UInt8.ofNat (48+u)]:=by rw[Lib.decDigits];simp[h]
theorem XV {m:Int} (h0:0≤m):Lib.itoa m=Lib.decDigits m.toNat:=by
 have:=Lib.itoa_nonneg m.toNat
 rwa [show((m.toNat:Nat):Int)=m from by omega] at this
theorem VH {m:Int} (h0:0≤m) (h1:m≤1000000000000):BA (Lib.itoa m)=0∧AJ (Lib.itoa m)=m:=by
 rw[XV h0]
 generalize hu:m.toNat=u
 have hub:u≤1000000000000:=by omega
 have hall:=Aaf u
 have hne:=Y4 u
 have hd0:∃c r,Lib.decDigits u=c::r:=by cases h:Lib.decDigits u with | nil=>exact absurd h hne | cons c r=>exact⟨c,r,rfl⟩
 obtain⟨c,r,hcr⟩:=hd0
 have hc:48≤c.toNat∧c.toNat≤57:=hall c (by simp[hcr])
 have hs:Gy (Lib.decDigits u)=false:=by
  rw[hcr]
  have e:AK (c::r) 0=c.toNat:=rfl
  simp only[Gy,e,Adk,AcD]
  right;omega
 have hdg:Dz (Lib.decDigits u)=Lib.decDigits u:=by simp[Dz,hs]
 have hdec:EQ (Lib.decDigits u)=true:=by
  simp only[EQ,hdg]
  have h2:Bt D7 0 (Lib.decDigits u)=true:=YL λj x hx=>by
   have:=hall x hx
   simp[D7];omega
  rw[h2]
  have h3:decide (Lib.decDigits u=[])=false:=by simpa using hne
  rw[h3]
  by_cases hz:u=0
  ·subst hz;rw[Aae 0 (by omega)];rfl
  ·have:=VY u (by omega)
   simp[this]
 have hat:Lib.atoiAll (Lib.decDigits u) = .ok (u:Int):=by
  have h4:=VX u (by omega)
  rw[hcr] at h4 ⊢
  rw[Lib.atoiAll_plain c r (by omega) (by omega)]
  have:Lib.parseMag (c::r) = .ok u:=by unfold Lib.parseMag;rw[Adj (by simp)];exact h4
  rw[this]
  simp only[Lib.signless]
  rw[Adj (by omega)]
 have hv:Dn (u:Int)=true:=by simp[Dn];omega
 simp only[BA,AJ,hdec,if_true,hat,hv]
 exact⟨trivial,by omega⟩
theorem Yn {p:List UInt8} (h:Gy p=true) (h2:AK (p.drop 1) 0=48):EQ p=false:=by
 have hd:Dz p=p.drop 1:=by simp[Dz,h]
 have hp:p≠[48]:=by rintro rfl;revert h;decide
 unfold EQ
 rw[hd,h2]
 simp[hp]
theorem Ym {p dg:List UInt8} (hdg:Dz p=dg) (h:(decide ((dg.length:Int)=0)||(decide ((1:Int)<dg.length)&&decide (AK dg 0=48)))=true):EQ p=false:=by
 simp only[Adi,AcC,AcH] at h
 rcases h with h | ⟨h,h2⟩
 ·have:dg=[]:=List.eq_nil_of_length_eq_zero (by omega)
  simp[EQ,hdg,this]
 ·have hp:p≠[48]:=by rintro rfl;have:=Pb [48];rw[hdg] at this;simp at this;omega
  simp[EQ,hdg,h2,hp]
theorem Yl {p dg:List UInt8} (hdg:Dz p=dg) (h0:Gy p=true→¬ ((0:Int)<dg.length∧AK dg 0=48)) (h:(decide ((dg.length:Int)=0)||(decide ((1:Int)<dg.length)&&decide (AK dg 0=48)))=false) (ha:Bt D7 0 dg=true):EQ p=true:=by
 simp only[AcZ,AcD,Adk] at h
 have hne:dg≠[]:=by rintro rfl;exact h.1 rfl
 have hpos:=Dh hne
 simp only[EQ,hdg,ha,AcR,AcS,AcZ,AcD,hne,not_false_eq_true,true_and,Adk,Ado,AcC]
 by_cases hb:AK dg 0=48
 ·right
  cases hs:Gy p
  ·have hd:dg=p:=by rw[← hdg];simp[Dz,hs]
   subst hd
   have hl:dg.length=1:=by rcases h.2 with h | h<;>omega
   match dg,hl with
   | [u],_=>
    have:(u.toNat:Int)=48:=hb
    rw[show u=48 from UInt8.toNat_inj.1 (by simpa using(by omega:u.toNat=48))]
  ·exact absurd ⟨hpos,hb⟩ (h0 hs)
 ·exact .inl hb
def Eo:Nat→List UInt8→Option Nat
 | n,[]=>some n
 | n,u::r=>if u.toNat=45 then Eo n r else if 1000000000000<10*n+(u.toNat-48) then none else Eo (10*n+(u.toNat-48)) r
theorem Ib {p:List UInt8} (h:EQ p=true) {k:Nat} (hk:(k:Int)<p.length) (ha : ¬ AK p k=45):48≤AK p k∧AK p k≤57:=by
 simp only[EQ,AcH] at h
 obtain⟨u,hu⟩:=HD hk
 rw[MQ hu] at ha ⊢
 have key:u∈Dz p:=by
  have hm:=AcU hu
  unfold Dz
  split
  ·rename_i hs
   cases p with
   | nil=>simp at hm
   | cons c r=>
    rcases List.mem_cons.1 hm with rfl | hm
    ·simp only[Gy,AcH,AcC] at hs
     exact absurd hs.2 ha
    ·simpa using hm
  ·exact hm
 obtain⟨j,hj⟩:=Rc h.2 u key
 simp[D7] at hj;omega
def Aad (l:List UInt8):Prop:=∀u∈l,48≤u.toNat∧u.toNat≤57
theorem U6 {l:List UInt8} (h:Bt D7 0 l=true):Aad l:=λu hu=>by
 obtain⟨j,hj⟩:=Rc h u hu
 simp[D7] at hj;omega
theorem Xi:∀(l:List UInt8) (acc:Nat),Aad l→1000000000000<acc→Lib.parseUint10 acc l = .range∨∃u,Lib.parseUint10 acc l = .ok u∧1000000000000<u
 | [],acc,_,h=>.inr ⟨acc,rfl,h⟩
 | c::r,acc,hd,h=>by
  have hc:=hd c (by simp)
  unfold Lib.parseUint10
  rw[Adq hc]
  split
  ·exact .inl rfl
  ·split
   ·exact .inl rfl
   ·exact Xi r _ (λu hu=>hd u (by simp[hu])) (by omega)
theorem Xh:∀(l:List UInt8) (acc:Nat),Aad l→acc≤1000000000000→(∃u,Eo acc l=some u∧Lib.parseUint10 acc l = .ok u∧u≤1000000000000)∨(Eo acc l=none∧(Lib.parseUint10 acc l = .range∨∃u,Lib.parseUint10 acc l = .ok u∧1000000000000<u))
 | [],acc,_,h=>.inl ⟨acc,rfl,rfl,h⟩
 | c::r,acc,hd,h=>by
  have hc:=hd c (by simp)
  have hr:Aad r:=λu hu=>hd u (by simp[hu])
  have e1:Lib.parseUint10 acc (c::r)=Lib.parseUint10 (acc*10+(c.toNat-48)) r:=by
   conv=>lhs;unfold Lib.parseUint10
   rw[Adq hc,Adj (by omega),Adj (by omega)]
  have e2:Eo acc (c::r)=if 1000000000000<acc*10+(c.toNat-48) then none else Eo (acc*10+(c.toNat-48)) r:=by
   conv=>lhs;unfold Eo
   rw[Adj (by omega),show 10*acc+(c.toNat-48)=acc*10+(c.toNat-48) from by omega]
  rw[e1,e2]
  by_cases hb:1000000000000<acc*10+(c.toNat-48)
  ·rw[Adq hb]
   exact .inr ⟨rfl,Xi r _ hr hb⟩
  ·rw[Adj hb]
   exact Xh r _ hr (by omega)
theorem WO {p:List UInt8}:Eo 0 p=Eo 0 (Dz p):=by
 unfold Dz
 split
 ·rename_i hs
  cases p with
  | nil=>rfl
  | cons c r=>
   simp only[Gy,AcH,AcC] at hs
   have:c.toNat=45:=by have:=hs.2;simp[AK] at this;omega
   simp[Eo,this]
 ·rfl
theorem MD {p:List UInt8} (h:EQ p=true):(∀u,Eo 0 p=some u→BA p=0∧AJ p=if Gy p=true then -(u:Int) else u)∧(Eo 0 p=none→BA p=2∧AJ p=0):=by
 have h':=h
 simp only[EQ,AcH,AcS,AcZ,AcD] at h'
 obtain⟨⟨hne,_⟩,hall⟩:=h'
 have hrun:=Xh (Dz p) 0 (U6 hall) (by omega)
 have hmag:Lib.parseMag (Dz p)=Lib.parseUint10 0 (Dz p):=by unfold Lib.parseMag;rw[Adj hne]
 have hat:Lib.atoiAll p=if Gy p=true then Lib.signed (Lib.parseUint10 0 (Dz p)) else Lib.signless (Lib.parseUint10 0 (Dz p)):=by
  cases p with
  | nil=>simp[Dz,Gy] at hne
  | cons c r=>
   cases hs:Gy (c::r)
   ·have hd:Dz (c::r)=c::r:=by simp[Dz,hs]
    rw[hd] at hall hmag ⊢
    have hc:=U6 hall c (by simp)
    rw[Lib.atoiAll_plain c r (by omega) (by omega),hmag];simp
   ·have hc:c=45:=by
     simp only[Gy,AcH,AcC] at hs
     exact UInt8.toNat_inj.1 (by have:=hs.2;simp[AK] at this;simpa using(by omega:c.toNat=45))
    subst hc
    have hd:Dz (45::r)=r:=by simp[Dz,hs]
    rw[hd] at hmag ⊢
    rw[Lib.atoiAll_minus,hmag];simp
 rw[WO]
 have hbig:∀u:Nat,1000000000000<u→∀v:Int,(v=u∨v = -(u:Int))→Dn v=false:=λu hu v hv=>by
  rcases hv with rfl | rfl<;>simp[Dn]<;>omega
 constructor
 ·intro u hu
  rcases hrun with⟨u',h1,h2,h3⟩ | ⟨h1,_⟩
  ·rw[hu] at h1;cases h1
   rw[h2] at hat
   simp only[BA,AJ,h,if_true,hat]
   cases Gy p
   ·have hv:Dn (u:Int)=true:=by simp[Dn];omega
    simp only[Bool.false_eq_true,if_false,Lib.signless]
    rw[Adj (by omega)];simp[hv]
   ·have hv:Dn (-(u:Int))=true:=by simp[Dn];omega
    simp only[if_true,Lib.signed]
    rw[Adj (by omega)];simp[hv]
  ·rw[hu] at h1;cases h1
 ·intro hn
  rcases hrun with⟨u',h1,h2,h3⟩ | ⟨_,h1⟩
  ·rw[hn] at h1;cases h1
  ·simp only[BA,AJ,h,if_true,hat]
   rcases h1 with h1 | ⟨u,h1,h2⟩
   ·rw[h1];cases Gy p<;>simp[Lib.signed,Lib.signless]
   ·rw[h1]
    cases Gy p
    ·simp only[Bool.false_eq_true,if_false,Lib.signless]
     by_cases h9:9223372036854775808≤u<;>simp[h9,hbig u h2 _ (.inl rfl)]
    ·simp only[if_true,Lib.signed]
     by_cases h9:9223372036854775808<u<;>simp[h9,hbig u h2 _ (.inr rfl)]
theorem WM {p:List UInt8} {k n:Nat} (hk:(k:Int)<p.length) (hi:Eo 0 p=Eo n (p.drop k)) (h:AK p k=45):Eo 0 p=Eo n (p.drop (k+1)):=by
 obtain⟨u,hu⟩:=HD hk
 rw[MQ hu] at h
 rw[hi,IX hu,Eo,Adq (by omega)]
theorem AaD {p:List UInt8} {k n:Nat} (hd:EQ p=true) (hk:(k:Int)<p.length) (hi:Eo 0 p=Eo n (p.drop k)) (h : ¬ AK p k=45) (hle : ¬ (1000000000000:Int)<10*(n:Int)+(AK p k-48)) :
  (10*(n:Int)+(AK p k-48))=((10*n+(AK p k-48).toNat:Nat):Int)∧Eo 0 p=Eo (10*n+(AK p k-48).toNat) (p.drop (k+1))∧10*n+(AK p k-48).toNat≤1000000000000:=by
 have hb:=Ib hd hk h
 obtain⟨u,hu⟩:=HD hk
 rw[MQ hu] at h hle hb ⊢
 have e:((u.toNat:Int)-48).toNat=u.toNat-48:=by omega
 refine⟨by omega,?_,by omega⟩
 rw[hi,IX hu,Eo,Adj (by omega),Adj (by omega),e]
theorem WJ {p:List UInt8} {k n:Nat} (hd:EQ p=true) (hk:(k:Int)<p.length) (hi:Eo 0 p=Eo n (p.drop k)) (h : ¬ AK p k=45) (hle:(1000000000000:Int)<10*(n:Int)+(AK p k-48)):Eo 0 p=none:=by
 have hb:=Ib hd hk h
 obtain⟨u,hu⟩:=HD hk
 rw[MQ hu] at h hle hb
 rw[hi,IX hu,Eo,Adj (by omega),Adq (by omega)]
theorem WN {p:List UInt8} {k n:Nat} (hd:EQ p=true) (hk:(k:Int)<p.length) (hi:Eo 0 p=Eo n (p.drop k)) (hn:n≤1000000000000) (h:AK p k=45∨¬ (1000000000000:Int)<10*(n:Int)+(AK p k-48)) :
  ∃n1:Nat,(if decide (AK p k=45)=true then(n:Int) else 10*(n:Int)+(AK p k-48))=(n1:Int)∧Eo 0 p=Eo n1 (p.drop (k+1))∧n1≤1000000000000:=by
 by_cases ha:AK p k=45
 ·exact⟨n,by simp[ha],WM hk hi ha,hn⟩
 ·have hle:=h.resolve_left ha
  obtain⟨a,b,c⟩:=AaD hd hk hi ha hle
  exact⟨_,by rw[Adj (by simpa using ha)];exact a,b,c⟩
theorem TQ {p:List UInt8} {k n:Nat} (hi:Eo 0 p=Eo n (p.drop k)) (h : ¬ (k:Int)<p.length):Eo 0 p=some n:=by
 rw[hi,List.drop_of_length_le (by omega)];rfl
def Yq (n m:Int) (s:List UInt8):Prop:=(s=[]∧m=n)∨(s≠[]∧Lib.decDigits n.natAbs=(if m=0 then[] else Lib.decDigits m.natAbs)++s)
theorem Qh (m:Int):∃d1:Nat,(if decide (m.tmod 10<0)=true then -(m.tmod 10) else m.tmod 10)=(d1:Int)∧d1=m.natAbs % 10∧d1<10:=by
 refine⟨m.natAbs % 10,?_,rfl,by omega⟩
 by_cases h:0≤m
 ·have:=Int.tmod_eq_emod_of_nonneg (a:=m) (b:=10) h
  rw[this,Adj (by simp;omega)];omega
 ·have:=Int.tmod_eq_emod_of_nonneg (a:=-m) (b:=10) (by omega)
  rw[Int.neg_tmod] at this
  by_cases hz:m.tmod 10=0
  ·rw[hz];simp;omega
  ·rw[Adq (by simp;omega)];omega
theorem VS {d:Nat} (h:d<10):List.take (Int.toNat ((d:Int)+1)-Int.toNat (d:Int)) (List.drop (Int.toNat (d:Int)) [48,49,50,51,52,53,54,55,56,57])=[UInt8.ofNat (48+d)]:=by
 have key:∀d:Nat,d<10→List.take (Int.toNat ((d:Int)+1)-Int.toNat (d:Int)) (List.drop (Int.toNat (d:Int)) ([48,49,50,51,52,53,54,55,56,57]:List UInt8))=[UInt8.ofNat (48+d)]:=by decide
 exact key d h
theorem Oo (m:Int):(m.tdiv 10).natAbs=m.natAbs/10:=by
 rw[Int.natAbs_tdiv];rfl
theorem VR (m:Int) (d1:Nat) (h:d1=m.natAbs % 10):Lib.decDigits m.natAbs=(if m.tdiv 10=0 then[] else Lib.decDigits (m.tdiv 10).natAbs)++[UInt8.ofNat (48+d1)]:=by
 have hz:m.tdiv 10=0↔m.natAbs<10:=by
  rw[← Int.natAbs_eq_zero,Oo];omega
 rw[Oo,Lib.decDigits]
 by_cases hs:m.natAbs<10
 ·rw[dif_pos hs,Adq (hz.2 hs),h,Nat.mod_eq_of_lt hs];rfl
 ·rw[dif_neg hs,Adj (λe=>hs (hz.1 e)),h]
theorem ZU {n m:Int} {s:List UInt8} (h0 : -9223372036854775808≤n) (h1:n≤9223372036854775807) (hi:Yq n m s):s.length≤21:=by
 rcases hi with⟨rfl,_⟩ | ⟨_,h⟩
 ·simp
 ·have hl:(Lib.decDigits n.natAbs).length≤21:=by
   have:=Sw n h0 h1
   unfold Lib.itoa at this
   split at this
   ·simp at this;omega
   ·rwa [show n.toNat=n.natAbs from by omega] at this
  rw[h] at hl;simp at hl;omega
theorem Yp {n m:Int} {s:List UInt8} {d1:Nat} (hi:Yq n m s) (hc:(!decide (m=0)||decide (s=[]))=true) (hd:d1=m.natAbs % 10) :
  Yq n (m.tdiv 10) (List.take (Int.toNat ((d1:Int)+1)-Int.toNat (d1:Int)) (List.drop (Int.toNat (d1:Int)) [48,49,50,51,52,53,54,55,56,57])++s)∧
  (m.tdiv 10).natAbs+(if List.take (Int.toNat ((d1:Int)+1)-Int.toNat (d1:Int)) (List.drop (Int.toNat (d1:Int)) [48,49,50,51,52,53,54,55,56,57])++s=[] then 1 else 0)<m.natAbs+(if s=[] then 1 else 0):=by
 rw[VS (by omega)]
 have hs:=VR m d1 hd
 refine⟨.inr ⟨by simp,?_⟩,?_⟩
 ·rcases hi with⟨rfl,rfl⟩ | ⟨h1,h2⟩
  ·rw[hs];simp
  ·have hm:m≠0:=by simpa[h1] using hc
   rw[h2,Adj hm,hs];simp
 ·rw[Adj (by simp),Oo]
  by_cases hm:m=0
  ·subst hm
   have:s=[]:=by simpa using hc
   simp[this]
  ·have:0<m.natAbs:=by omega
   split<;>omega
theorem U0 {n m:Int} {s:List UInt8} (hi:Yq n m s) (hc:(!decide (m=0)||decide (s=[]))=false):Lib.decDigits n.natAbs=s:=by
 simp only[AcZ,Ado,AcC,AcD] at hc
 rcases hi with⟨h,_⟩ | ⟨_,h⟩
 ·exact absurd h hc.2
 ·rw[h,Adq hc.1];rfl
theorem ZT {n:Int} {s:List UInt8} (h:Lib.decDigits n.natAbs=s) (hn:n<0):[45]++s=Lib.itoa n:=by
 unfold Lib.itoa;rw[Adq hn,h];rfl
theorem ZS {n:Int} {s:List UInt8} (h:Lib.decDigits n.natAbs=s) (hn : ¬ n<0):s=Lib.itoa n:=by
 unfold Lib.itoa;rw[Adj hn,show n.toNat=n.natAbs from by omega,h]
open Go Go.RowKit
section
variable {P : Program} {n : Nat} {w0 : World} {M : List Nat} {l : Fr} {H : List Ent} {d : Option Nat} {x y : Operand} {ty t t' : TypeId} {pos : String} {af : Array Edge} {g : Option (Nat × Bool)} {k : IntKind} {p q z : Int}
theorem X1 (hx:ev l x=some (.int k p)) (hy:ev l y=some (.int k q)) (hq:q≠0) (hz:k.wrap (p.tdiv q)=z):Bq P n w0 M l H { dst:=d,op:=.binOp .quo t x y t',type:=ty,pos:=pos,after:=af,guard:=g } (.int k z):=λa w ha _=>by
 simp[execOp,ha.eval hx,ha.eval hy,Bw,binOp,Op.intDiv,hq,hz]
theorem X0 (hx:ev l x=some (.int k p)) (hy:ev l y=some (.int k q)) (hq:q≠0):Bq P n w0 M l H { dst:=d,op:=.binOp .rem t x y t',type:=ty,pos:=pos,after:=af,guard:=g } (.int k (p.tmod q)):=λa w ha _=>by
 simp[execOp,ha.eval hx,ha.eval hy,Bw,binOp,Op.intDiv,hq]
end
theorem UW {m:Int} (h0 : -9223372036854775808≤m) (h1:m≤9223372036854775807) : -9223372036854775808≤m.tdiv 10∧m.tdiv 10≤9223372036854775807:=by
 have e:m.tdiv 10=if 0≤m then m/10 else -((-m)/10):=by
  split
  ·rename_i h;exact Int.tdiv_eq_ediv_of_nonneg h
  ·rename_i h
   have:=Int.tdiv_eq_ediv_of_nonneg (a:=-m) (b:=10) (by omega)
   rw[Int.neg_tdiv] at this;omega
 rw[e];split<;>omega
theorem UV (m:Int) : -10<m.tmod 10∧m.tmod 10<10:=by
 by_cases h:0≤m
 ·have:=Int.tmod_eq_emod_of_nonneg (a:=m) (b:=10) h
  omega
 ·have:=Int.tmod_eq_emod_of_nonneg (a:=-m) (b:=10) (by omega)
  rw[Int.neg_tmod] at this;omega
set_option maxRecDepth 100000
theorem Abj (p:List UInt8) (hp:p.length≤281474976710656) (w:World):Calls Tryz.prog 102 [.string (B (p))].toArray w (KH w (.bool (EQ p))):=by
 refine HZ (n:=53) Tryz.func102 rfl Tryz.ntmps102 rfl (Ai (Af (A0 (Ao rfl) rfl (Aj (Ar (AP ?_))))))
 refine Ai (Af (A0 (Al rfl) rfl (A0 (Ao rfl) rfl (Aj (Ar (AP ?_))))))
 refine A6 [(2,.bool (false)),(3,.string (B ((if ((decide ((0)<((p.length:Int))))&&(decide ((AK p 0)=(45))))=true then List.drop (Int.toNat (1)) p else p))))] [] (φ:=(!((decide ((0)<((p.length:Int))))&&(decide ((AK p 0)=(45))))||(!(((decide ((0)<(((List.drop (Int.toNat (1)) p).length:Int))))&&(decide ((AK (List.drop (Int.toNat (1)) p) 0)=(48)))))))=true) ?_ (λho=>?_)
 ·refine A6 [(2,.bool (false)),(3,.string (B (p))),(13,.bool (((decide ((0)<((p.length:Int))))&&(decide ((AK p 0)=(45))))))] [] (φ:=True) ?_ (λhA=>?_)
  ·refine Af (A0 (Al rfl) rfl (A0 (AW BC rfl) rfl (A0 (Cb rfl rfl) rfl (A0 (Al rfl) rfl (AI (decide ((0)<((p.length:Int)))) (λhe=>?_) (λhe=>?_))))))
   ·have hq:=he;try simp only[AcC,AcD] at hq
    have hr:=he;try simp at hr
    refine Bg rfl rfl he (A0 (Al rfl) rfl (Bg rfl rfl he (A0 (AO BC rfl rfl (by first | omega | (simp;omega) | (simp at *;omega) | exact Dh (by assumption)) (by first | omega | (simp;omega) | (simp at *;omega) | exact Dh (by assumption))) rfl (Bg rfl rfl he (A0 (Bx rfl rfl) rfl (A0 (Au rfl he rfl) rfl (Aj ?_)))))))
    exact Ar (B7 trivial ⟨rfl,rfl,fb (by first | (simp only[he,AcN,AcT,Adc,AcQ,AcR,AcV,Ada,AcX,AcO,AcW,AcJ,AcF,if_true,if_false,reduceIte,Bool.false_eq_true];done) | simp[he]),trivial⟩ .slnil)
   ·have hq:=he;try simp only[AcC,AcD] at hq
    have hr:=he;try simp at hr
    refine AL rfl rfl he rfl (AL rfl rfl he rfl (AL rfl rfl he rfl (A0 (A7 rfl he rfl) rfl (Aj ?_))))
    exact Ar (B7 trivial ⟨rfl,rfl,fb (by first | (simp only[he,AcN,AcT,Adc,AcQ,AcR,AcV,Ada,AcX,AcO,AcW,AcJ,AcF,if_true,if_false,reduceIte,Bool.false_eq_true];done) | simp[he]),trivial⟩ .slnil)
  refine C1 (b:=((decide ((0)<((p.length:Int))))&&(decide ((AK p 0)=(45))))) rfl (λhd=>?_) (λhd=>?_)
  ·have ht:=hd;try simp only[AcC,AcD] at ht
   have hu:=hd;try simp at hu
   refine Ai (Af (A0 (Al rfl) rfl (A0 (Dq BC rfl rfl (by first | omega | (simp;omega)) (by first | omega | (simp;omega))) rfl (A0 (Ao rfl) rfl (Aj (Ar (AP ?_)))))))
   refine A6 [(2,.bool (false)),(3,.string (B (List.drop (Int.toNat (1)) p))),(23,.bool (((decide ((0)<(((List.drop (Int.toNat (1)) p).length:Int))))&&(decide ((AK (List.drop (Int.toNat (1)) p) 0)=(48))))))] [] (φ:=True) ?_ (λhB=>?_)
   ·refine Af (A0 (Al rfl) rfl (A0 (AW BC rfl) rfl (A0 (Cb rfl rfl) rfl (A0 (Al rfl) rfl (AI (decide ((0)<(((List.drop (Int.toNat (1)) p).length:Int)))) (λhf=>?_) (λhf=>?_))))))
    ·have hw:=hf;try simp only[AcC,AcD] at hw
     have hy:=hf;try simp at hy
     refine Bg rfl rfl hf (A0 (Al rfl) rfl (Bg rfl rfl hf (A0 (AO BC rfl rfl (by first | omega | (simp;omega) | (simp at *;omega) | exact Dh (by assumption)) (by first | omega | (simp;omega) | (simp at *;omega) | exact Dh (by assumption))) rfl (Bg rfl rfl hf (A0 (Bx rfl rfl) rfl (A0 (Au rfl hf rfl) rfl (Aj ?_)))))))
     exact Ar (B7 trivial ⟨rfl,rfl,fb (by first | (simp only[hd,hf,AcN,AcT,Adc,AcQ,AcR,AcV,Ada,AcX,AcO,AcW,AcJ,AcF,if_true,if_false,reduceIte,Bool.false_eq_true];done) | simp[hd,hf]),trivial⟩ .slnil)
    ·have hw:=hf;try simp only[AcC,AcD] at hw
     have hy:=hf;try simp at hy
     refine AL rfl rfl hf rfl (AL rfl rfl hf rfl (AL rfl rfl hf rfl (A0 (A7 rfl hf rfl) rfl (Aj ?_))))
     exact Ar (B7 trivial ⟨rfl,rfl,fb (by first | (simp only[hd,hf,AcN,AcT,Adc,AcQ,AcR,AcV,Ada,AcX,AcO,AcW,AcJ,AcF,if_true,if_false,reduceIte,Bool.false_eq_true];done) | simp[hd,hf]),trivial⟩ .slnil)
   refine C1 (b:=((decide ((0)<(((List.drop (Int.toNat (1)) p).length:Int))))&&(decide ((AK (List.drop (Int.toNat (1)) p) 0)=(48))))) rfl (λhi=>?_) (λhi=>?_)
   ·have hm:=hi;try simp only[AcC,AcD] at hm
    have hk:=hi;try simp only[AcC,AcD,AcH,Adi,AcS,Ado,Adk,AcZ,not_or,Int.not_lt,Int.not_le] at hk
    refine Ai (Af (A0 (Ao rfl) rfl (Aj (Ar (AP ?_)))))
    refine Aq (Ac (Ap (BW rfl rfl) ?_))
    exact Hp (by rw[Yn (by simp only[Gy];exact hd) (hk).2])
   ·have hm:=hi;try simp only[AcC,AcD] at hm
    have hk:=hi;try simp only[AcC,AcD,AcH,Adi,AcS,Ado,Adk,AcZ,not_or,Int.not_lt,Int.not_le] at hk
    refine An ?_
    exact Ar (B7 (by first | (simp only[hd,hi,AcN,AcT,Adc,AcQ,AcR,AcV,Ada,AcX,AcO,AcW,AcJ,AcF,if_true,if_false,reduceIte,Bool.false_eq_true];done) | simp[hd,hi]) ⟨rfl,fs (by first | (simp only[hd,hi,AcN,AcT,Adc,AcQ,AcR,AcV,Ada,AcX,AcO,AcW,AcJ,AcF,if_true,if_false,reduceIte,Bool.false_eq_true];done) | simp[hd,hi]),trivial⟩ .slnil)
  ·have ht:=hd;try simp only[AcC,AcD] at ht
   have hu:=hd;try simp at hu
   refine An ?_
   exact Ar (B7 (by first | (simp only[hd,AcN,AcT,Adc,AcQ,AcR,AcV,Ada,AcX,AcO,AcW,AcJ,AcF,if_true,if_false,reduceIte,Bool.false_eq_true];done) | simp[hd]) ⟨rfl,fs (by first | (simp only[hd,AcN,AcT,Adc,AcQ,AcR,AcV,Ada,AcX,AcO,AcW,AcJ,AcF,if_true,if_false,reduceIte,Bool.false_eq_true];done) | simp[hd]),trivial⟩ .slnil)
 have hm:=ho;try simp only[AcC,AcD] at hm
 have hk:=ho;try simp only[AcC,AcD,AcH,Adi,AcS,Ado,Adk,AcZ,not_or,Int.not_lt,Int.not_le] at hk
 have hdg:Dz p=(if ((decide ((0)<((p.length:Int))))&&(decide ((AK p 0)=(45))))=true then List.drop (Int.toNat (1)) p else p):=rfl
 have hdl:=Pb p
 have hform:Gy p=true→¬ ((0:Int)<(Dz p).length∧AK (Dz p) 0=48):=by intro hs;rw[show Dz p=List.drop 1 p from by simp[Dz,hs]];simp only[Gy] at hs;intro hx;simp_all;grind
 rw[hdg] at hdl hform
 clear ho hm hk
 generalize(if ((decide ((0)<((p.length:Int))))&&(decide ((AK p 0)=(45))))=true then List.drop (Int.toNat (1)) p else p)=dg at hdg hdl hform ⊢
 refine Ai (A6 [(2,.bool (false)),(3,.string (B (dg))),(36,.bool (((decide (((dg.length:Int))=(0)))||((decide ((1)<((dg.length:Int))))&&(decide ((AK dg 0)=(48)))))))] [] (φ:=True) ?_ (λhC=>?_))
 ·refine Af (A0 (Al rfl) rfl (A0 (AW BC rfl) rfl (A0 (Bx rfl rfl) rfl (A0 (Al rfl) rfl (AI (decide (((dg.length:Int))=(0))) (λha=>?_) (λha=>?_))))))
  ·have hz:=ha;try simp only[AcC,AcD] at hz
   have h0:=ha;try simp at h0
   refine AL rfl rfl ha rfl (AL rfl rfl ha rfl (AL rfl rfl ha rfl (AL rfl rfl ha rfl (Ei rfl rfl rfl (Ei rfl rfl rfl (Ei rfl rfl rfl (AL rfl rfl ha rfl (A0 (Au rfl ha rfl) rfl (Aj ?_)))))))))
   exact Ar (B7 trivial ⟨rfl,rfl,fb (by first | (simp only[ha,AcN,AcT,Adc,AcQ,AcR,AcV,Ada,AcX,AcO,AcW,AcJ,AcF,if_true,if_false,reduceIte,Bool.false_eq_true];done) | simp[ha]),trivial⟩ .slnil)
  ·have hz:=ha;try simp only[AcC,AcD] at hz
   have h0:=ha;try simp at h0
   refine Bg rfl rfl ha (A0 (Al rfl) rfl (Bg rfl rfl ha (A0 (AW BC rfl) rfl (Bg rfl rfl ha (A0 (Cb rfl rfl) rfl (Bg rfl rfl ha (A0 (Al rfl) rfl (AI (decide ((1)<((dg.length:Int)))) (λhg=>?_) (λhg=>?_)))))))))
   ·have h1:=hg;try simp only[AcC,AcD] at h1
    have h2:=hg;try simp at h2
    refine Bg rfl rfl hg (A0 (Al rfl) rfl (Bg rfl rfl hg (A0 (AO BC rfl rfl (by first | omega | (simp;omega) | (simp at *;omega) | exact Dh (by assumption)) (by first | omega | (simp;omega) | (simp at *;omega) | exact Dh (by assumption))) rfl (Bg rfl rfl hg (A0 (Bx rfl rfl) rfl (Bg rfl rfl ha (A0 (Au rfl hg rfl) rfl (A0 (A7 rfl ha rfl) rfl (Aj ?_)))))))))
    exact Ar (B7 trivial ⟨rfl,rfl,fb (by first | (simp only[ha,hg,AcN,AcT,Adc,AcQ,AcR,AcV,Ada,AcX,AcO,AcW,AcJ,AcF,if_true,if_false,reduceIte,Bool.false_eq_true];done) | simp[ha,hg]),trivial⟩ .slnil)
   ·have h1:=hg;try simp only[AcC,AcD] at h1
    have h2:=hg;try simp at h2
    refine AL rfl rfl hg rfl (AL rfl rfl hg rfl (AL rfl rfl hg rfl (Bg rfl rfl ha (A0 (A7 rfl hg rfl) rfl (A0 (A7 rfl ha rfl) rfl (Aj ?_))))))
    exact Ar (B7 trivial ⟨rfl,rfl,fb (by first | (simp only[ha,hg,AcN,AcT,Adc,AcQ,AcR,AcV,Ada,AcX,AcO,AcW,AcJ,AcF,if_true,if_false,reduceIte,Bool.false_eq_true];done) | simp[ha,hg]),trivial⟩ .slnil)
 refine C1 (b:=((decide (((dg.length:Int))=(0)))||((decide ((1)<((dg.length:Int))))&&(decide ((AK dg 0)=(48)))))) rfl (λhh=>?_) (λhh=>?_)
 ·have h3:=hh;try simp only[AcC,AcD] at h3
  have h4:=hh;try simp at h4
  refine Ai (Af (A0 (Ao rfl) rfl (Aj (Ar (AP ?_)))))
  refine Aq (Ac (Ap (BW rfl rfl) ?_))
  exact Hp (by rw[Ym hdg hh])
 ·have h3:=hh;try simp only[AcC,AcD] at h3
  have h4:=hh;try simp at h4
  refine An (Ar (AP ?_))
  refine Ai (Ai (Af (A0 (Al rfl) rfl (A0 (AW BC rfl) rfl (A0 (Al rfl) rfl (Aj (Ar (AP ?_))))))))
  refine AB (Ji (S:=Nat) (λ(k:Nat)=>k≤dg.length∧Bt D7 0 dg=Bt D7 k (dg.drop k)) (λ(k:Nat)=>[(39,.int .i64 ((k:Int))),(3,.string (B (dg))),(38,.int .i64 ((dg.length:Int)))]) (λ(k:Nat)=>[]) (λ(k:Nat)=>dg.length-k) (0) ?_ ⟨fi (by first | rfl | (simp;done) | omega | (simp;omega)),rfl,rfl,trivial⟩ .slnil ?_)
  ·exact⟨Adn _,by simp⟩
  rintro k hi0
  refine Ai (Af (A0 (BY rfl rfl) rfl (Aj (Ar (AP ?_)))))
  refine Ai (C1 (b:=decide (((k:Int))<((dg.length:Int)))) rfl (λhj=>?_) (λhj=>?_))
  ·have hn:=hj;try simp only[AcC,AcD] at hn
   have h5:=hj;try simp at h5
   refine An (Ar (AP ?_))
   refine Ai (AB (Ai (Af (A0 (Al rfl) rfl (A0 (Ao rfl) rfl (Aj (Ar (AP ?_))))))))
   refine A6 [(3,.string (B (dg))),(4,.int .i64 ((k:Int))),(38,.int .i64 ((dg.length:Int))),(39,.int .i64 ((k:Int))),(40,.bool (decide (((k:Int))<((dg.length:Int))))),(41,.int .i64 ((k:Int))),(42,.string (B (dg))),(43,.int .i64 ((k:Int))),(44,.int .u8 (AK dg (k:Int))),(45,.bool (decide ((AK dg (k:Int))<(48)))),(46,.bool (decide ((AK dg (k:Int))<(48)))),(51,.bool (((decide ((AK dg (k:Int))<(48)))||(decide ((57)<(AK dg (k:Int)))))))] [] (φ:=True) ?_ (λhD=>?_)
   ·refine Af (A0 (Al rfl) rfl (A0 (Al rfl) rfl (A0 (AO BC rfl rfl (by first | omega | (simp;omega) | (simp at *;omega) | exact Dh (by assumption)) (by first | omega | (simp;omega) | (simp at *;omega) | exact Dh (by assumption))) rfl (A0 (BY rfl rfl) rfl (A0 (Al rfl) rfl (AI (decide ((AK dg (k:Int))<(48))) (λhb=>?_) (λhb=>?_)))))))
    ·have h6:=hb;try simp only[AcC,AcD] at h6
     have h7:=hb;try simp at h7
     refine AL rfl rfl hb rfl (AL rfl rfl hb rfl (AL rfl rfl hb rfl (AL rfl rfl hb rfl (A0 (Au rfl hb rfl) rfl (Aj ?_)))))
     exact Ar (B7 trivial ⟨rfl,rfl,rfl,rfl,rfl,rfl,rfl,rfl,rfl,rfl,rfl,fb (by first | (simp only[hh,hj,hb,AcN,AcT,Adc,AcQ,AcR,AcV,Ada,AcX,AcO,AcW,AcJ,AcF,if_true,if_false,reduceIte,Bool.false_eq_true];done) | simp[hh,hj,hb]),trivial⟩ .slnil)
    ·have h6:=hb;try simp only[AcC,AcD] at h6
     have h7:=hb;try simp at h7
     refine Bg rfl rfl hb (A0 (Al rfl) rfl (Bg rfl rfl hb (A0 (Al rfl) rfl (Bg rfl rfl hb (A0 (AO BC rfl rfl (by first | omega | (simp;omega) | (simp at *;omega) | exact Dh (by assumption)) (by first | omega | (simp;omega) | (simp at *;omega) | exact Dh (by assumption))) rfl (Bg rfl rfl hb (A0 (Cb rfl rfl) rfl (A0 (A7 rfl hb rfl) rfl (Aj ?_)))))))))
     exact Ar (B7 trivial ⟨rfl,rfl,rfl,rfl,rfl,rfl,rfl,rfl,rfl,rfl,rfl,fb (by first | (simp only[hh,hj,hb,AcN,AcT,Adc,AcQ,AcR,AcV,Ada,AcX,AcO,AcW,AcJ,AcF,if_true,if_false,reduceIte,Bool.false_eq_true];done) | simp[hh,hj,hb]),trivial⟩ .slnil)
   refine C1 (b:=((decide ((AK dg (k:Int))<(48)))||(decide ((57)<(AK dg (k:Int)))))) rfl (λhl=>?_) (λhl=>?_)
   ·have h8:=hl;try simp only[AcC,AcD] at h8
    have h9:=hl;try simp at h9
    refine Ai (Af (A0 (Ao rfl) rfl (Aj (Ar (AP ?_)))))
    refine Aq (Av (Ac (Ac (Av (Ac (Ap (BW rfl rfl) ?_))))))
    exact Hp (by simp[EQ,hdg,Y3 hi0 hn hl])
   ·have h8:=hl;try simp only[AcC,AcD] at h8
    have h9:=hl;try simp at h9
    refine An (A8 (Ar (AP ?_)))
    refine Af (A0 (AX rfl rfl (IntWalk.i64_in _ (by omega))) rfl (A0 (Al rfl) rfl (Aj (Ar (A3 (k+1) ?_ ⟨fi (by first | rfl | (simp;done) | omega | (simp;omega)),rfl,rfl,trivial⟩ .slnil)))))
    exact SF hi0 hn hl
  ·have hn:=hj;try simp only[AcC,AcD] at hn
   have h5:=hj;try simp at h5
   refine Bo (At (At (AZ (Ar (AP ?_)))))
   refine Ai (Af (A0 (Ao rfl) rfl (Aj (Ar (AP ?_)))))
   refine Aq (Ap (BW rfl rfl) ?_)
   exact Hp (by rw[Yl hdg hform hh (U4 hi0 hn)])
theorem Z1 (p:List UInt8) (hp:p.length≤281474976710656) (w:World):Calls Tryz.prog 77 [.string (B (p))].toArray w (KH w (.tuple #[.int .i64 (AJ p),.int .i64 (BA p)])):=by
 refine HZ (n:=42) Tryz.func77 rfl Tryz.ntmps77 rfl (Ai (Af (A0 (Ao rfl) rfl (A0 (Ao rfl) rfl (Aj (Ar (AP ?_)))))))
 refine A6 [(0,.string (B (p))),(2,.int .i64 (0)),(3,.int .i64 (0)),(4,.bool (((decide ((0)<((p.length:Int))))&&(decide ((AK p 0)=(45))))))] [] (φ:=True) ?_ (λhy=>?_)
 ·refine Af (A0 (Al rfl) rfl (A0 (AW BC rfl) rfl (A0 (Cb rfl rfl) rfl (A0 (Al rfl) rfl (AI (decide ((0)<((p.length:Int)))) (λha=>?_) (λha=>?_))))))
  ·have hm:=ha;try simp only[AcC,AcD] at hm
   have hn:=ha;try simp at hn
   refine Bg rfl rfl ha (A0 (Al rfl) rfl (Bg rfl rfl ha (A0 (AO BC rfl rfl (by first | omega | (simp;omega) | (simp at *;omega)) (by first | omega | (simp;omega) | (simp at *;omega))) rfl (Bg rfl rfl ha (A0 (Bx rfl rfl) rfl (A0 (Au rfl ha rfl) rfl (A0 (Ao rfl) rfl (Aj ?_))))))))
   exact Ar (B7 trivial ⟨rfl,rfl,rfl,fb (by first | (simp only[ha,AcN,AcT,Adc,AcQ,AcR,AcV,Ada,AcX,AcO,AcW,AcJ,AcF,if_true,if_false,reduceIte,Bool.false_eq_true];done) | simp[ha]),trivial⟩ .slnil)
  ·have hm:=ha;try simp only[AcC,AcD] at hm
   have hn:=ha;try simp at hn
   refine AL rfl rfl ha rfl (AL rfl rfl ha rfl (AL rfl rfl ha rfl (A0 (A7 rfl ha rfl) rfl (A0 (Ao rfl) rfl (Aj ?_)))))
   exact Ar (B7 trivial ⟨rfl,rfl,rfl,fb (by first | (simp only[ha,AcN,AcT,Adc,AcQ,AcR,AcV,Ada,AcX,AcO,AcW,AcJ,AcF,if_true,if_false,reduceIte,Bool.false_eq_true];done) | simp[ha]),trivial⟩ .slnil)
 refine Ai (Ai (Af (A0 (Al rfl) rfl (CI Tryz.call102 rfl (λw hw=>Abj p (by first | omega | (simp;done) | (simp;omega) | (simp at *;omega) | (split<;>first | omega | (simp;omega))) w) rfl (A0 (Cd rfl) rfl (Aj (Ar (AP ?_))))))))
 refine C1 (b:=!(EQ p)) rfl (λhb=>?_) (λhb=>?_)
 ·have ho:=hb;try simp only[AcC,AcD] at ho
  have hf:=hb;try simp only[AcC,AcD,AcH,Adi,AcS,Ado,Adk,AcZ,not_or,Int.not_lt,Int.not_le] at hf
  refine Ai (Af (A0 (Ao rfl) rfl (A0 (Ao rfl) rfl (Aj (Ar (AP ?_))))))
  refine Aq (Ac (Ap (Cy rfl rfl rfl) ?_))
  exact Hp (by simp[AJ,BA,hf])
 ·have ho:=hb;try simp only[AcC,AcD] at ho
  have hf:=hb;try simp only[AcC,AcD,AcH,Adi,AcS,Ado,Adk,AcZ,not_or,Int.not_lt,Int.not_le] at hf
  refine An (Ar (AP ?_))
  refine Ai (Af (A0 (Ao rfl) rfl (Aj (Ar (AP ?_)))))
  refine Ai (Ai (Af (A0 (Al rfl) rfl (A0 (AW BC rfl) rfl (A0 (Al rfl) rfl (Aj (Ar (AP ?_))))))))
  refine AB (Ji (S:=Nat×Nat) (λ(x:Nat×Nat)=>match x with | ⟨k,n⟩=>k≤p.length∧n≤1000000000000∧Eo 0 p=Eo n (p.drop k)) (λ(x:Nat×Nat)=>match x with | ⟨k,n⟩=>[(20,.int .i64 ((k:Int))),(5,.int .i64 ((n:Int))),(0,.string (B (p))),(4,.bool (((decide ((0)<((p.length:Int))))&&(decide ((AK p 0)=(45)))))),(19,.int .i64 ((p.length:Int)))]) (λ(x:Nat×Nat)=>match x with | ⟨k,n⟩=>[]) (λ(x:Nat×Nat)=>match x with | ⟨k,n⟩=>p.length-k) (0,0) ?_ ⟨fi (by first | rfl | (simp;done) | omega | (simp;omega)),fi (by first | rfl | (simp;done) | omega | (simp;omega)),rfl,rfl,rfl,trivial⟩ .slnil ?_)
  ·exact⟨Adn _,Adn _,by simp⟩
  rintro⟨k,n⟩ hi0
  have hk1:=hi0.1
  have hk2:=hi0.2.1
  refine Ai (Af (A0 (BY rfl rfl) rfl (Aj (Ar (AP ?_)))))
  refine Ai (C1 (b:=decide (((k:Int))<((p.length:Int)))) rfl (λhd=>?_) (λhd=>?_))
  ·have hh:=hd;try simp only[AcC,AcD] at hh
   have hq:=hd;try simp at hq
   refine An (Ar (AP ?_))
   refine A6 [(0,.string (B (p))),(4,.bool (((decide ((0)<((p.length:Int))))&&(decide ((AK p 0)=(45)))))),(5,.int .i64 ((if decide ((AK p (k:Int))=(45))=true then(n:Int) else(10*(n:Int))+((AK p (k:Int))-48)))),(6,.int .i64 ((k:Int))),(19,.int .i64 ((p.length:Int))),(20,.int .i64 ((k:Int))),(21,.bool (decide (((k:Int))<((p.length:Int))))),(22,.int .i64 ((k:Int))),(23,.string (B (p))),(24,.int .i64 ((k:Int))),(25,.int .u8 (AK p (k:Int))),(26,.bool (decide ((AK p (k:Int))=(45))))] [] (φ:=((decide ((AK p (k:Int))=(45)))||(!(decide ((1000000000000)<((10*(n:Int))+((AK p (k:Int))-48))))))=true) ?_ (λhu=>?_)
   ·refine AB (Ai (Af (A0 (Al rfl) rfl (A0 (Ao rfl) rfl (Aj (Ar (AP ?_)))))))
    refine Ai (Ai (Af (A0 (Al rfl) rfl (A0 (Al rfl) rfl (A0 (AO BC rfl rfl (by first | omega | (simp;omega) | (simp at *;omega)) (by first | omega | (simp;omega) | (simp at *;omega))) rfl (A0 (Bx rfl rfl) rfl (Aj (Ar (AP ?_)))))))))
    refine C1 (b:=decide ((AK p (k:Int))=(45))) rfl (λhe=>?_) (λhe=>?_)
    ·have hl:=he;try simp only[AcC,AcD] at hl
     have hr:=he;try simp at hr
     refine Bo (At (AZ ?_))
     exact Ar (B7 (by first | (simp only[hb,hd,he,AcN,AcT,Adc,AcQ,AcR,AcV,Ada,AcX,AcO,AcW,AcJ,AcF,if_true,if_false,reduceIte,Bool.false_eq_true];done) | simp[hb,hd,he]) ⟨rfl,rfl,fi (by first | (simp only[hb,hd,he,AcN,AcT,Adc,AcQ,AcR,AcV,Ada,AcX,AcO,AcW,AcJ,AcF,if_true,if_false,reduceIte,Bool.false_eq_true];done) | simp[hb,hd,he]),rfl,rfl,rfl,rfl,rfl,rfl,rfl,rfl,rfl,trivial⟩ .slnil)
    ·have hl:=he;try simp only[AcC,AcD] at hl
     have hr:=he;try simp at hr
     refine An (Ar (AP ?_))
     refine Ai (Af (A0 (Al rfl) rfl (A0 (Nq rfl rfl (IntWalk.i64_in _ (by first | omega | (have:=Ib (p:=p) (k:=k) (by simp_all) (by omega) (by simp_all);omega)))) rfl (A0 (Al rfl) rfl (A0 (Al rfl) rfl (A0 (AO BC rfl rfl (by first | omega | (simp;omega) | (simp at *;omega)) (by first | omega | (simp;omega) | (simp at *;omega))) rfl (A0 (EN rfl rfl (IntWalk.u8_in _ (by first | omega | (have:=Ib (p:=p) (k:=k) (by simp_all) (by omega) (by simp_all);omega)))) rfl (A0 (C9 ⟨_,It⟩ MY rfl (IntWalk.i64_in _ (by first | omega | (have:=Ib (p:=p) (k:=k) (by simp_all) (by omega) (by simp_all);omega)))) rfl (A0 (AX rfl rfl (IntWalk.i64_in _ (by first | omega | (have:=Ib (p:=p) (k:=k) (by simp_all) (by omega) (by simp_all);omega)))) rfl (A0 (Ao rfl) rfl (Aj (Ar (AP ?_)))))))))))))
     refine Ai (Af (A0 (Al rfl) rfl (A0 (Cb rfl rfl) rfl (Aj (Ar (AP ?_))))))
     refine C1 (b:=decide ((1000000000000)<((10*(n:Int))+((AK p (k:Int))-48)))) rfl (λhg=>?_) (λhg=>?_)
     ·have hi:=hg;try simp only[AcC,AcD] at hi
      have hk:=hg;try simp at hk
      refine Ai (Af (A0 (Ao rfl) rfl (A0 (Ao rfl) rfl (Aj (Ar (AP ?_))))))
      refine Aq (Av (Ac (Ac (Av (Ac (Ap (Cy rfl rfl rfl) ?_))))))
      have hx:=(MD hf).2 (WJ hf hh hi0.2.2 hl hi)
      exact Hp (by rw[hx.1,hx.2])
     ·have hi:=hg;try simp only[AcC,AcD] at hi
      have hk:=hg;try simp at hk
      refine An (A8 ?_)
      exact Ar (B7 (by first | (simp only[hb,hd,he,hg,AcN,AcT,Adc,AcQ,AcR,AcV,Ada,AcX,AcO,AcW,AcJ,AcF,if_true,if_false,reduceIte,Bool.false_eq_true];done) | simp[hb,hd,he,hg]) ⟨rfl,rfl,fi (by first | (simp only[hb,hd,he,hg,AcN,AcT,Adc,AcQ,AcR,AcV,Ada,AcX,AcO,AcW,AcJ,AcF,if_true,if_false,reduceIte,Bool.false_eq_true];done) | simp[hb,hd,he,hg]),rfl,rfl,rfl,rfl,rfl,rfl,rfl,rfl,rfl,trivial⟩ .slnil)
   have hi:=hu;try simp only[AcC,AcD] at hi
   have hk:=hu;try simp only[AcC,AcD,AcH,Adi,AcS,Ado,Adk,AcZ,not_or,Int.not_lt,Int.not_le] at hk
   obtain⟨n1,hn1,hn2,hn3⟩:=WN (p:=p) (k:=k) (n:=n) hf hh hi0.2.2 hk2 (by simpa using hi)
   rw[hn1]
   refine Af (A0 (AX rfl rfl (IntWalk.i64_in _ (by first | omega | (have:=Ib (p:=p) (k:=k) (by simp_all) (by omega) (by simp_all);omega)))) rfl (A0 (Al rfl) rfl (Aj (Ar (A3 (k+1,n1) ?_ ⟨fi (by first | rfl | (simp;done) | omega | (simp;omega)),fi (by first | rfl | (simp;done) | omega | (simp;omega)),rfl,rfl,rfl,trivial⟩ .slnil)))))
   exact⟨⟨by omega,hn3,hn2⟩,by show p.length-(k+1)<p.length-k;omega⟩
  ·have hh:=hd;try simp only[AcC,AcD] at hh
   have hq:=hd;try simp at hq
   refine Bo (At (At (AZ (Ar (AP ?_)))))
   refine Ai (Ai (Af (A0 (Al rfl) rfl (Aj (Ar (AP ?_))))))
   refine C1 (b:=((decide ((0)<((p.length:Int))))&&(decide ((AK p 0)=(45))))) rfl (λhj=>?_) (λhj=>?_)
   ·have hs:=hj;try simp only[AcC,AcD] at hs
    have ht:=hj;try simp at ht
    refine Ai (Af (A0 (Al rfl) rfl (A0 (OA rfl (IntWalk.i64_in _ (by omega))) rfl (A0 (Ao rfl) rfl (A0 (Ao rfl) rfl (Aj (Ar (AP ?_))))))))
    refine Aq (Ac (Ap (Cy rfl rfl rfl) ?_))
    have hx:=(MD hf).1 n (TQ hi0.2.2 hh)
    exact Hp (by rw[hx.1,hx.2];simp only[Gy];simp only[hj];simp)
   ·have hs:=hj;try simp only[AcC,AcD] at hs
    have ht:=hj;try simp at ht
    refine An (Ar (AP ?_))
    refine Ai (Af (A0 (Al rfl) rfl (A0 (Ao rfl) rfl (A0 (Ao rfl) rfl (Aj (Ar (AP ?_)))))))
    refine Aq (Ap (Cy rfl rfl rfl) ?_)
    have hx:=(MD hf).1 n (TQ hi0.2.2 hh)
    exact Hp (by rw[hx.1,hx.2];simp only[Gy];simp only[hj];simp)
theorem Yj (n:Int) (h0 : -9223372036854775808≤n) (h1:n≤9223372036854775807) (w:World):Calls Tryz.prog 47 [.int .i64 (n)].toArray w (KH w (.string (B (Lib.itoa n)))):=by
 refine HZ (n:=34) Tryz.func47 rfl Tryz.ntmps47 rfl (Ai (Af (A0 (Ao rfl) rfl (Aj (Ar (AP ?_))))))
 refine Ai (Af (A0 (Ao rfl) rfl (Aj (Ar (AP ?_)))))
 refine Ai (Af (A0 (Ao rfl) rfl (Aj (Ar (AP ?_)))))
 refine Ai (Ai (Af (A0 (Al rfl) rfl (A0 (Ao rfl) rfl (Aj (Ar (AP ?_)))))))
 refine AB (Ji (S:=Int×List UInt8) (λ(x:Int×List UInt8)=>match x with | ⟨m,s⟩=>(-9223372036854775808≤m∧m≤9223372036854775807)∧Yq n m s) (λ(x:Int×List UInt8)=>match x with | ⟨m,s⟩=>[(5,.int .i64 (m)),(4,.string (B (s))),(0,.int .i64 (n)),(2,.string (B ([]))),(3,.string (B ([48,49,50,51,52,53,54,55,56,57])))]) (λ(x:Int×List UInt8)=>match x with | ⟨m,s⟩=>[]) (λ(x:Int×List UInt8)=>match x with | ⟨m,s⟩=>m.natAbs+(if s=[] then 1 else 0)) (n,[]) ?_ ⟨fi (by first | rfl | (simp;done) | omega | (simp;omega)),fs (by first | rfl | simp),rfl,rfl,rfl,trivial⟩ .slnil ?_)
 ·exact⟨⟨h0,h1⟩,.inl ⟨rfl,rfl⟩⟩
 rintro⟨m,s⟩ hi0
 have hb:=hi0.1
 have hsl:=ZU h0 h1 hi0.2
 have htd:=UW hi0.1.1 hi0.1.2
 have htm:=UV m
 refine Ai (A6 [(0,.int .i64 (n)),(2,.string (B ([]))),(3,.string (B ([48,49,50,51,52,53,54,55,56,57]))),(4,.string (B (s))),(5,.int .i64 (m)),(8,.int .i64 (m)),(9,.bool (!(decide ((m)=(0))))),(10,.bool (!(decide ((m)=(0))))),(13,.bool (((!(decide ((m)=(0))))||(decide ((s)=(([]:List UInt8)))))))] [] (φ:=True) ?_ (λho=>?_))
 ·refine Af (A0 (Al rfl) rfl (A0 (CB rfl rfl) rfl (A0 (Al rfl) rfl (AI (!(decide ((m)=(0)))) (λha=>?_) (λha=>?_)))))
  ·have hh:=ha;try simp only[AcC,AcD] at hh
   have hi:=ha;try simp at hi
   refine AL rfl rfl ha rfl (AL rfl rfl ha rfl (A0 (Au rfl ha rfl) rfl (Aj ?_)))
   exact Ar (B7 trivial ⟨rfl,rfl,rfl,rfl,rfl,rfl,rfl,rfl,fb (by first | (simp only[ha,AcN,AcT,Adc,AcQ,AcR,AcV,Ada,AcX,AcO,AcW,AcJ,AcF,if_true,if_false,reduceIte,Bool.false_eq_true];done) | simp[ha]),trivial⟩ .slnil)
  ·have hh:=ha;try simp only[AcC,AcD] at hh
   have hi:=ha;try simp at hi
   refine Bg rfl rfl ha (A0 (Al rfl) rfl (Bg rfl rfl ha (A0 (Ef rfl rfl) rfl (A0 (A7 rfl ha rfl) rfl (Aj ?_)))))
   exact Ar (B7 trivial ⟨rfl,rfl,rfl,rfl,rfl,rfl,rfl,rfl,fb (by first | (simp only[ha,AcN,AcT,Adc,AcQ,AcR,AcV,Ada,AcX,AcO,AcW,AcJ,AcF,if_true,if_false,reduceIte,Bool.false_eq_true];done) | simp[ha]),trivial⟩ .slnil)
 refine C1 (b:=((!(decide ((m)=(0))))||(decide ((s)=(([]:List UInt8)))))) rfl (λhd=>?_) (λhd=>?_)
 ·have hj:=hd;try simp only[AcC,AcD] at hj
  have hk:=hd;try simp at hk
  refine An (Ar (AP ?_))
  refine Ai (AB (Ai (Af (A0 (Al rfl) rfl (A0 (X0 rfl rfl (by decide)) rfl (A0 (Ao rfl) rfl (Aj (Ar (AP ?_)))))))))
  refine A6 [(0,.int .i64 (n)),(2,.string (B ([]))),(3,.string (B ([48,49,50,51,52,53,54,55,56,57]))),(4,.string (B (s))),(5,.int .i64 (m)),(6,.int .i64 ((if decide ((Int.tmod m 10)<(0))=true then -(Int.tmod m 10) else Int.tmod m 10))),(8,.int .i64 (m)),(9,.bool (!(decide ((m)=(0))))),(10,.bool (!(decide ((m)=(0))))),(13,.bool (((!(decide ((m)=(0))))||(decide ((s)=(([]:List UInt8))))))),(16,.int .i64 (m)),(17,.int .i64 (Int.tmod m 10)),(18,.int .i64 (Int.tmod m 10)),(19,.bool (decide ((Int.tmod m 10)<(0))))] [] (φ:=True) ?_ (λhp=>?_)
  ·refine Ai (Af (A0 (Al rfl) rfl (A0 (BY rfl rfl) rfl (Aj (Ar (AP ?_))))))
   refine C1 (b:=decide ((Int.tmod m 10)<(0))) rfl (λhe=>?_) (λhe=>?_)
   ·have hl:=he;try simp only[AcC,AcD] at hl
    have hm:=he;try simp at hm
    refine Af (A0 (Al rfl) rfl (A0 (OA rfl (IntWalk.i64_in _ (by omega))) rfl (A0 (Ao rfl) rfl (Aj ?_))))
    exact Ar (B7 trivial ⟨rfl,rfl,rfl,rfl,rfl,fi (by first | (simp only[hd,he,AcN,AcT,Adc,AcQ,AcR,AcV,Ada,AcX,AcO,AcW,AcJ,AcF,if_true,if_false,reduceIte,Bool.false_eq_true];done) | simp[hd,he]),rfl,rfl,rfl,rfl,rfl,rfl,rfl,rfl,trivial⟩ .slnil)
   ·have hl:=he;try simp only[AcC,AcD] at hl
    have hm:=he;try simp at hm
    refine An ?_
    exact Ar (B7 trivial ⟨rfl,rfl,rfl,rfl,rfl,fi (by first | (simp only[hd,he,AcN,AcT,Adc,AcQ,AcR,AcV,Ada,AcX,AcO,AcW,AcJ,AcF,if_true,if_false,reduceIte,Bool.false_eq_true];done) | simp[hd,he]),rfl,rfl,rfl,rfl,rfl,rfl,rfl,rfl,trivial⟩ .slnil)
  obtain⟨d1,hd1,hd2,hd3⟩:=Qh m
  rw[hd1]
  refine Af (A0 (Al rfl) rfl (A0 (Al rfl) rfl (A0 (Al rfl) rfl (A0 (AX rfl rfl (IntWalk.i64_in _ (by first | omega | (have:=Qh m;obtain⟨d1,hd1,hd2,hd3⟩:=this;split at hd1<;>omega)))) rfl (A0 (CK BC rfl rfl rfl (by first | omega | (simp;omega)) (by first | omega | (simp;omega)) (by first | omega | (simp;omega))) rfl (A0 (Al rfl) rfl (A0 (CS rfl rfl (by simp;omega)) rfl (A0 (Ao rfl) rfl (Aj (A8 (Ar (AP ?_))))))))))))
  refine Af (A0 (Al rfl) rfl (A0 (X1 rfl rfl (by decide) (IntWalk.i64_in _ (by omega))) rfl (A0 (Ao rfl) rfl (Aj (Ar (A3 (Int.tdiv m 10,(List.take (Int.toNat ((d1:Int)+1)-Int.toNat ((d1:Int))) (List.drop (Int.toNat ((d1:Int))) [48,49,50,51,52,53,54,55,56,57]))++s) ?_ ⟨fi (by first | rfl | (simp;done) | omega | (simp;omega)),fs (by first | rfl | simp),rfl,rfl,rfl,trivial⟩ .slnil))))))
  have hx:=Yp hi0.2 hd hd2
  exact⟨⟨htd,hx.1⟩,hx.2⟩
 ·have hj:=hd;try simp only[AcC,AcD] at hj
  have hk:=hd;try simp at hk
  refine Bo (At (At (AZ (Ar (AP ?_)))))
  refine Ai (Ai (Af (A0 (Al rfl) rfl (A0 (BY rfl rfl) rfl (Aj (Ar (AP ?_)))))))
  refine C1 (b:=decide ((n)<(0))) rfl (λhf=>?_) (λhf=>?_)
  ·have hg:=hf;try simp only[AcC,AcD] at hg
   have hn:=hf;try simp at hn
   refine Ai (Af (A0 (Al rfl) rfl (A0 (CS rfl rfl (by simp;omega)) rfl (A0 (Ao rfl) rfl (Aj (Ar (AP ?_)))))))
   refine Aq (Ac (Ap (BW rfl rfl) ?_))
   exact Hp (by rw[ZT (U0 hi0.2 hd) hg])
  ·have hg:=hf;try simp only[AcC,AcD] at hg
   have hn:=hf;try simp at hn
   refine An (Ar (AP ?_))
   refine Ai (Af (A0 (Al rfl) rfl (A0 (Ao rfl) rfl (Aj (Ar (AP ?_))))))
   refine Aq (Ap (BW rfl rfl) ?_)
   exact Hp (by rw[← ZS (U0 hi0.2 hd) hg])
end Go.Proofs.YtjfnokmpfekniaaGreatDoor
namespace Go.Proofs.YtjfnokmpfekniaaGreatDoor.Q
open Go Go.RowKit
set_option linter.unusedVariables false
def GE (Z:Fz):Prop:=∀w,YU Z w→UE w
theorem GE.mono {Z Z':Fz} (h:Fz.le Z Z') (hg:GE Z):GE Z':=λw hw=>hg w (λb o e=>hw b o (h b o e))
theorem Nz.rle {P:Program} {E:Fz→Prop} {f:FuncId} {args:List Rp} {r r':Rp} (h:Nz P E f args r) (hr:E1 r r'):Nz P E f args r':=λw Z vs hv hs=>
 (h w Z vs hv hs).mono λe w' ⟨q,v,H,Z',he,⟨hq,hH⟩,hp,ht⟩=>⟨r',v,H,Z',he,⟨rfl,hH⟩,hr Z' v (hq▸hp),ht⟩
theorem E1.tup2 {a b:Value}:E1 (rv (.tuple #[a,b])) (Cm [rv a,rv b]):=λZ v h=>⟨[a,b],h,rfl,rfl,trivial⟩
theorem Nz.of_id {P:Program} {E:Fz→Prop} {f:FuncId} {vs:List Value} {v:Value} (h:∀w,Calls P f vs.toArray w (λe w'=>e = .returned v∧w'=w)):Nz P E f (vs.map rv) (rv v):=
 Nz.of_old λw Z _ _=>(h w).mono λe w' ⟨he,hw⟩=>⟨he,by rw[hw];exact Proofs.YtjfnokmpfekniaaGreatDoor.St.refl w []⟩
theorem Mf (m:Int) (g:Bl .i64 m=true):Nz Tryz.prog GE 67 [rI .i64 m] (rS (Lib.itoa m)):=Nz.of_old (vs:=[.int .i64 m]) λw Z hf he=>Yk m (G3 g).1 (G3 g).2 w (he w hf)
theorem Abd (m:Int) (g:Bl .i64 m=true):Nz Tryz.prog GE 89 [rI .i64 m] (rS (Lib.itoa m)):=Nz.of_old (vs:=[.int .i64 m]) λw Z hf he=>XW m (G3 g).1 (G3 g).2 w (he w hf)
theorem Ue (s:Ag) (g:Dw 1 s.length=true):Nz Tryz.prog GE 73 [rS s] (Cm [rI .i64 (AJ s),rI .i64 (BA s)]):=(Nz.of_old (vs:=[.string (B s)]) λw Z hf he=>Z2 s (by simp[Dw] at g;omega) w (he w hf)).rle E1.tup2
theorem U8 (s:Ag) (c:UInt8):Nz Tryz.prog GE 164 [rS s,rS [c]] (rI .i64 (Lib.countByte s c)):=Nz.of_id (vs:=[.string (B s),.string (B [c])]) λw=>by have:=Tryz.strings_Count_one (B s) c w;rwa [TF] at this
theorem Acq (s:Ag):Nz Tryz.prog GE 79 [rS s] (rB (S0 s)):=Nz.of_old (vs:=[.string (B s)]) λw Z hf he=>Acr s w
theorem VQ (m:Int) (g:Bl .i64 m=true):Nz Tryz.prog GE 47 [rI .i64 m] (rS (Lib.itoa m)):=Nz.of_old (vs:=[.int .i64 m]) λw Z hf he=>Yj m (G3 g).1 (G3 g).2 w
theorem Xn (s:Ag) (g:Dw 1 s.length=true):Nz Tryz.prog GE 77 [rS s] (Cm [rI .i64 (AJ s),rI .i64 (BA s)]):=(Nz.of_old (vs:=[.string (B s)]) λw Z hf he=>Z1 s (by simp[Dw] at g;omega) w).rle E1.tup2
open Go Go.RowKit Go.ChangeShapes Go.Deep
set_option linter.unusedSimpArgs false
def ZW (W:World):Fz:=λb=>W.heap[b]?
theorem ZW.frz (W:World):YU (ZW W) W:=λ_ _ h=>h
def MV (P:Program) (e:TypeId) {α:Type} (enc:α→List Rp) (ok:α→Bool):Prop:=
 ∀{H:Type} {encH:TypeId×Value→H} {W:World} {sp:Nat→Bool} {held:Bool} {n:Nat} {cs:List Value} {x:DataW H×List MemPlace},DataW.trod encH P W 0 sp held n e cs=some x→∃y:α,ok y=true∧Bz (ZW W) (enc y) cs
section
variable {P : Program} {e t : TypeId}
theorem MV.int {k:IntKind} {enc:Int→List Rp} (ht:P.underlying e=some (.int k)) (he:∀n,enc n=[rI k n]):MV P e enc (Bl k):=λh=>by
 obtain⟨n,rfl,_,hwf⟩:=DataW.trod_int ht h
 exact⟨n,hwf,by rw[he];exact⟨rfl,trivial⟩⟩
theorem MV.str {enc:Ag→List Rp} (ht:P.underlying e=some .string) (he:∀n,enc n=[rS n]):MV P e enc okS:=λh=>by
 obtain⟨s,rfl,_,hl⟩:=DataW.trod_string ht h
 exact⟨s.data.toList,AcI (by rw[Array.length_toList];exact hl),by rw[he];exact⟨congrArg Value.string (Acx s),trivial⟩⟩
theorem MV.bool {enc:Bool→List Rp} (ht:P.underlying e=some .bool) (he:∀n,enc n=[rB n]):MV P e enc (λ_=>true):=λh=>by
 obtain⟨b,rfl,_⟩:=DataW.trod_bool ht h
 exact⟨b,rfl,by rw[he];exact⟨rfl,trivial⟩⟩
theorem Qs {W:World} {a:Addr} {v:Value} (h:W.cell? a=some v):a.spot=none∧Jt (ZW W) a.block a.off=some v:=by
 unfold World.cell? at h
 unfold Jt ZW
 cases hh:W.heap[a.block]? with
 | none=>rw[hh] at h;cases h
 | some o=>
  rw[hh] at h
  cases o with
  | cells cs t fz=>
   cases hs:a.spot with
   | none=>simp[hs] at h;exact⟨rfl,h⟩
   | some _=>simp[hs] at h
  | _=>simp at h
theorem MV.slice {α:Type} [Inhabited α] {enc:α→List Rp} {ok:α→Bool} {sz:Nat} (ht:P.underlying t=some (.slice e)) (hc:P.cellsOf e=sz) (hsz:0<sz) (h:MV P e enc ok) (hlen:∀y,(enc y).length=sz) {enc':List α→List Rp} (he:∀ys,enc' ys=[AV sz (ys.map enc)]) :
  MV P t enc' (λys=>ys.all ok&&decide (ys.length≤9223372036854775807)):=fun {H encH W sp held n cs x} hx=>by
 rcases open_slice ht hx with⟨rfl,_⟩ | ⟨a,len,cap,m,n',D,Pl,rfl,hb,hl,hm,hmm,_,hel⟩
 ·exact⟨[],by simp,by rw[he];exact⟨TD.nil sz _,trivial⟩⟩
 ·have hlm:len≤m:=by rw[hmm];split<;>omega
  have each:∀i,i<len→∃y:α,ok y=true∧∃cs',W.cells? 0 (a.add (i*sz)) sz=some cs'∧Bz (ZW W) (enc y) cs':=λi hi=>by
   obtain⟨cs',h1,h2⟩:=hel i (by omega)
   obtain⟨y,hy,hr⟩:=h h2
   rw[hc] at h1
   exact⟨y,hy,cs',h1,hr⟩
  obtain⟨f,hf⟩:=choose_lt each
  refine⟨(List.range len).map f,?_,?_⟩
  ·simp only[AcH,Adl,List.mem_map,List.mem_range,AcC]
   refine⟨?_,by simp;simp only[maxLen] at hm;omega⟩
   rintro _ ⟨i,hi,rfl⟩
   exact(hf i hi).1
  ·rw[he]
   refine⟨⟨some a,cap,by simp,by simpa using hl,hm,(λh=>by cases h),λi c hi=>?_⟩,trivial⟩
   rw[Adz,List.getElem?_map] at hi
   have hil:i<len:=by
    cases hq:(List.range len)[i]? with
    | none=>rw[hq] at hi;cases hi
    | some _=>have:=(List.getElem?_eq_some_iff.1 hq).1;simpa using this
   rw[List.getElem?_range hil] at hi
   simp only[Option.map_some,Option.some.injEq,Function.comp] at hi
   subst hi
   obtain⟨_,cs',h1,hr⟩:=hf i hil
   obtain⟨_,hcl,hcell⟩:=World.cells?_some h1
   have hsp:a.spot=none:=by
    obtain⟨_,cs0,g1,_⟩:=hf 0 (by omega)
    obtain⟨_,gcl,gcell⟩:=World.cells?_some g1
    have h0:=gcell 0 hsz
    rw[List.getElem?_eq_getElem (by omega)] at h0
    have:=(Qs h0).1
    simpa[Addr.add] using this
   refine⟨hlen _,a,rfl,hsp,λj r hj=>?_⟩
   obtain⟨u,hu,hp⟩:=hr.at hj
   have hjs:j<sz:=by have:=(List.getElem?_eq_some_iff.1 hj).1;rw[hlen] at this;exact this
   have h3:=hcell j hjs
   rw[hu] at h3
   have h4:=(Qs h3).2
   refine⟨u,?_,hp⟩
   have e1:((a.add (i*sz)).add j).block=a.block:=by simp only[Addr.add];split<;>split<;>rfl
   have e2:((a.add (i*sz)).add j).off=a.off+(i*sz+j):=by simp only[Addr.add];split<;>split<;>simp_all<;>omega
   rw[e1,e2] at h4
   exact h4
theorem TO {Z:Fz} {cs:List Value} {o:Nat} (h:cs.length=o):Bz Z [] (cs.drop o):=by rw[List.drop_of_length_le (by omega)];trivial
theorem GT {Z:Fz} {cs:List Value} {o s o':Nat} {rs rs':List Rp} (h:Bz Z rs ((cs.drop o).take s)) (ho:o+s=o') (h2:Bz Z rs' (cs.drop o')):Bz Z (rs++rs') (cs.drop o):=by
 rw[← Ads s (cs.drop o),Adx]
 subst ho
 exact h.append h2
theorem MV.val {α:Type} {enc:α→List Rp} {ok:α→Bool} (h:MV P e enc ok) {r:α→Rp} (he:∀y,enc y=[r y]) {H:Type} {encH:TypeId×Value→H} {W:World} {sp:Nat→Bool} {held:Bool} {v:Value} {d:DataW H} {ps:List MemPlace}
  (hone:v.cells = #[v]) (ht:DataW.Trod encH P W 0 sp held e v d ps):∃y:α,ok y=true∧(r y).p (ZW W) v:=by
 obtain⟨fuel,hf⟩:=ht
 rw[hone] at hf
 obtain⟨y,hy,hr⟩:=h hf
 rw[he] at hr
 exact⟨y,hy,hr.1⟩
end
theorem Yi {W w:World} (hw:YU (ZW W) w):W.heap.size≤w.heap.size:=by
 rcases Nat.eq_zero_or_pos W.heap.size with h | h
 ·omega
 ·have h1:W.heap[W.heap.size-1]? =some (W.heap[W.heap.size-1]'(by omega)):=Array.getElem?_eq_getElem (by omega)
  have:=(Array.getElem?_eq_some_iff.1 (hw _ _ h1)).1
  omega
theorem VP {W:World} (hE:UE W):GE (ZW W):=λw hw=>by
 have hb:Below W.heap.size W { w with os:=W.os,tape:=W.tape,output:=W.output }:=⟨rfl,rfl,rfl,Yi hw,λk hk=>by
  have h1:W.heap[k]? =some (W.heap[k]'hk):=Array.getElem?_eq_getElem hk
  rw[h1];exact hw k _ h1⟩
 have hE2:=hE.st0 (St.of_below hb)
 exact⟨Rf.block { w with os:=W.os,tape:=W.tape,output:=W.output } w (λ_ _=>rfl) hE2.tabs,hE2.size⟩
theorem WD {W:World} (hE:UE W):St ⟨W,ZW W,[],GE⟩ [] (ZW W) W where
 os:=rfl
 tape:=rfl
 output:=rfl
 size:=Adf _
 old:=λ_ _ _=>rfl
 has:=λ_ h=>by cases h
 own:=λ_ h=>by cases h
 dis:=.nil
 frz:=ZW.frz W
 le:=Fz.le.refl _
 new:=λ_ _ h=>.inl h
 zdis:=λ_ h=>by cases h
 env:=VP hE
 emono:=λh hg=>GE.mono h hg
theorem WE {W W':World} {Z Z':Fz} {E:Fz→Prop} {H:List Ent} (h:St ⟨W,Z,[],E⟩ H Z' W'):Below W.heap.size W W':=⟨h.os,h.tape,h.output,h.size,λk hk=>h.old k hk (by simp)⟩
open Go
def MS (l:(List Int)):Option ((List Int)):=
 some l
def Ka (l:(List Int)) (c:Int):Option (Unit×(List Int)):=
 Bn (MS l) λr1=>AN (Dw 1 (r1.length+([c]:List Int).length))<|some ((),r1++([c]:List Int))
def I5 (l:(List Int)) (s:Ag):Option (Int×Unit×(List Int)):=
 Bn (MS l) λr1=>AN (Dw 1 (r1.length+s.length))<|some ((s.length:Int),(),r1++CM s)
def Pn (l:Ag):Option (Ag):=
 AN (decide (0<(CM l).length))<|some l
def MR (l:(List Int)):Option ((List Int)):=
 some l
def JZ (l:(List Int)) (c:Int):Option (Unit×(List Int)):=
 Bn (MR l) λr1=>AN (Dw 1 (r1.length+([c]:List Int).length))<|some ((),r1++([c]:List Int))
def I4 (l:(List Int)) (s:Ag):Option (Int×Unit×(List Int)):=
 Bn (MR l) λr1=>AN (Dw 1 (r1.length+s.length))<|some ((s.length:Int),(),r1++CM s)
def Pm (l:Ag):Option (Ag):=
 AN (decide (0<(CM l).length))<|some l
set_option maxRecDepth 100000
set_option maxHeartbeats 4000000
theorem J1:∃inf,Tryz.prog.info? 5=some inf∧inf.zero=some (.int .u8 0)∧inf.size=1∧inf.bytes=1:=by
  have key:(Tryz.prog.info? 5).map (λi=>(i.zero,i.size,i.bytes))=some (some (.int .u8 0),1,1):=by kernel_rfl
  obtain⟨inf,h1,h2⟩:=Option.map_eq_some_iff.1 key
  simp only[Prod.mk.injEq] at h2
  exact⟨inf,h1,h2.1,h2.2.1,h2.2.2⟩
theorem Sy:∃j,Tryz.prog.info? 112=some j∧j.size≠0:=by
  have key:(Tryz.prog.info? 112).map (λi=>i.size)=some 2:=by kernel_rfl
  obtain⟨j,h1,h2⟩:=Option.map_eq_some_iff.1 key
  exact⟨j,h1,by rw[h2];decide⟩
theorem Sz:∃j,Tryz.prog.info? 112=some j:=Sy.imp λ_ h=>h.1
theorem SN (b_l:Nat) (v_l:Value) (l:(List Int)) (r:(List Int)) (h:MS l=some r):Fn Tryz.prog GE 154 [rP b_l 0] [.blk b_l [rv (.pointer none),rv v_l] 112,.row v_l 5 1 (List.map Bi l)] (λR H=>∃w0:Value,R=rv (.tuple #[])∧H=[.blk b_l [rP b_l 0,rv w0] 112,.row w0 5 1 (List.map Bi r)]):=by
 refine enter (n:=20) Tryz.func154 rfl Tryz.ntmps154 rfl (λw Z=>?_)
 unfold MS at h
 refine Ae (wm rfl (wv (A2 rfl) (vF Hg rfl Rm (vL 0 Gg rfl (wv (r:=rB true) (X2 ⟨_,Rk⟩ rfl) (Ak (GD rfl rfl (Af (wm rfl (wm rfl (wv (r:=rP b_l 0) (Sd (i:=0) Rk Tryz.underlying188 Sy rfl rfl rfl) (A0 (r:=rP b_l 0) (Z6 Tryz.func166 (by kernel_rfl) (by kernel_rfl) (by kernel_rfl) (by kernel_rfl) rfl) rfl (wv (r:=rP b_l 0) (Py (i:=0) Tryz.underlying188 Rk Sz rfl rfl (by kernel_rfl)) (wv (A2 rfl) (vF Hg rfl Rm (BB (i:=0) Rm rfl rfl (Co rfl) rfl rfl (cs':=[rP b_l 0,rv v_l]) rfl (H':=[.blk b_l [rP b_l 0,rv v_l] 112,.row v_l 5 1 (List.map Bi l)]) rfl (Aj ?_)))))))))))))))))
 obtain rfl:=As h
 exact HI (Vb Tryz.results154) (sC (sC sN)) ⟨v_l,rfl,rfl⟩
theorem P3 (b_l:Nat) (v_l:Value) (l:(List Int)) (c:Int) (r:Unit×(List Int)) (h:Ka l c=some r):Fn Tryz.prog GE 122 [rP b_l 0,rI .u8 c] [.blk b_l [rv (.pointer none),rv v_l] 112,.row v_l 5 1 (List.map Bi l)] (λR H=>∃w0:Value,R=rv (.nilIface)∧H=[.blk b_l [rP b_l 0,rv w0] 112,.row w0 5 1 (List.map Bi r.2)]):=by
 refine enter (n:=17) Tryz.func122 rfl Tryz.ntmps122 rfl (λw Z=>?_)
 unfold Ka at h
 refine Ae (wa rfl (Bf (wm rfl (ob h λr1 e3 h2=>Hb (Hr:=[]) Tryz.call154 (SN b_l v_l l r1 e3) rfl (List.Perm.refl _) rfl ?_))))
 rintro _ _ ⟨v4,rfl,rfl⟩
 refine Bf (wm rfl (wm rfl (wv (A2 rfl) (vF Hg rfl KF (vL 0 Rt rfl (wm rfl (AQ (ys:=([c]:List Int)) (enc:=Bi) (css:=[[rI .u8 c]]) (xs:=[.tmp 12]) E2 YW YV rfl rfl rfl ⟨Eb.one rfl (Up.refl _),trivial⟩ rfl CW rfl rfl rfl (λb5=>?_))))))))
 refine ck h2 λg7 h8=>Exists.elim J1 λinf hinf=>BG (xs:=r1) (ys:=([c]:List Int)) (enc:=Bi) (i:=2) E2 hinf.1 hinf.2.1 hinf.2.2.1 hinf.2.2.2 rfl rfl rfl rfl rfl (Ja.w (i:=0) rfl rfl) CW IW g7 rfl (λv6=>?_)
 refine wv (A2 rfl) (vF Hg rfl KF (BB (i:=2) KF rfl rfl (EE (i:=0) rfl) rfl rfl (cs':=[rP b_l 0,rv v6]) rfl (H':=[.row v6 5 1 (List.map Bi (r1++([c]:List Int))),.row (.slice (some ⟨b5,0,none⟩) 1 1) 5 1 (List.map Bi ([c]:List Int)),.blk b_l [rP b_l 0,rv v6] 112]) rfl (Bf (wa rfl (Ak (Aq (Cv (H2:=[.blk b_l [rP b_l 0,rv v6] 112,.row v6 5 1 (List.map Bi (r1++([c]:List Int))),.row (.slice (some ⟨b5,0,none⟩) 1 1) 5 1 (List.map Bi ([c]:List Int))]) ((A5 (i:=2) rfl).trans (List.Perm.cons _ (List.Perm.refl _))) ?_)))))))
 obtain rfl:=As h8
 exact Ap (BW Tryz.results122 (A4 rfl)) (sC (sC (sS sN))) ⟨v6,rfl,rfl⟩
theorem NA (b_l:Nat) (v_l:Value) (l:(List Int)) (s:Ag) (r:Int×Unit×(List Int)) (h:I5 l s=some r):Fn Tryz.prog GE 120 [rP b_l 0,rS s] [.blk b_l [rv (.pointer none),rv v_l] 112,.row v_l 5 1 (List.map Bi l)] (λR H=>∃w0:Value,R=Cm [rI .i64 r.1,rv (.nilIface)]∧H=[.blk b_l [rP b_l 0,rv w0] 112,.row w0 5 1 (List.map Bi r.2.2)]):=by
 refine enter (n:=19) Tryz.func120 rfl Tryz.ntmps120 rfl (λw Z=>?_)
 unfold I5 at h
 refine Ae (wa rfl (wa rfl (Bf (wm rfl (ob h λr1 e3 h2=>Hb (Hr:=[]) Tryz.call154 (SN b_l v_l l r1 e3) rfl (List.Perm.refl _) rfl ?_)))))
 rintro _ _ ⟨v4,rfl,rfl⟩
 refine Bf (wm rfl (wm rfl (wv (A2 rfl) (vF Hg rfl KF (vL 0 Rt rfl (wm rfl (ck h2 λg6 h7=>Exists.elim J1 λinf hinf=>E5 (xs:=r1) (i:=1) E2 BC hinf.1 hinf.2.1 hinf.2.2.1 hinf.2.2.2 rfl rfl rfl g6 rfl (λv5=>?_))))))))
 refine wv (A2 rfl) (vF Hg rfl KF (BB (i:=1) KF rfl rfl (EE (i:=0) rfl) rfl rfl (cs':=[rP b_l 0,rv v5]) rfl (H':=[.row v5 5 1 (List.map Bi (r1++CM s)),.blk b_l [rP b_l 0,rv v5] 112]) rfl (Bf (wm rfl (wv (AW BC rfl) (wa rfl (wa rfl (Ak (Aq (Cv (H2:=[.blk b_l [rP b_l 0,rv v5] 112,.row v5 5 1 (List.map Bi (r1++CM s))]) ((A5 (i:=1) rfl).trans (List.Perm.cons _ (List.Perm.refl _))) ?_))))))))))
 obtain rfl:=As h7
 exact Ap (Cy Tryz.results120 (A4 rfl) (A4 rfl)) (sC (sC sN)) ⟨v5,rfl,rfl⟩
theorem TA (b_l:Nat) (v_l:Value) (l:Ag) (r:Ag) (h:Pn l=some r):Fn Tryz.prog GE 88 [rP b_l 0] [.blk b_l [rv (.pointer none),rv v_l] 112,.row v_l 5 1 (List.map Bi (CM l))] (λR H=>R=rS r∧H=[]):=by
 refine enter (n:=14) Tryz.func88 rfl Tryz.ntmps88 rfl (λw Z=>?_)
 unfold Pn at h
 refine Ae (wv (r:=rS ([]:Ag)) (Ao rfl) (Ak (Ai (ck h λg1 h2=>EW (H1:=[.blk b_l [rv (.pointer none),rv v_l] 112]) [0] [⟨[],rP b_l 0,0⟩,⟨[0],rP b_l 0,0⟩,⟨[1],rP b_l 1,0⟩,⟨[2],rv v_l,1⟩,⟨[3],rv (slp v_l),1⟩,⟨[],rP b_l 0,0⟩,⟨[5],rP b_l 0,0⟩,⟨[6],rP b_l 1,0⟩,⟨[7],rv v_l,1⟩,⟨[8],rI .i64 ((CM l).length:Int),1⟩,⟨[4,9],rS l,2⟩,⟨[10],rS l,0⟩] (rle [(11,_),(2,[.blk b_l [rv (.pointer none),rv v_l] 112])]) [2] ?_ ?_))))
 ·refine oq (Al rfl) (oq (A2 rfl) (oq (AH Hg rfl KF rfl rfl) (of (Bp (i:=0) Rt rfl rfl rfl) (of (Np (i:=1) rfl rfl (NO g1)) (oq (Al rfl) (oq (A2 rfl) (oq (AH Hg rfl KF rfl rfl) (of (Bp (i:=0) Rt rfl rfl rfl) (of (Dr (ys:=CM l) (enc:=Bi) (i:=1) E2 rfl rfl) (Ij rfl (AbD (Kb (i:=1) Tryz.underlying150 (by kernel_rfl) rfl rfl rfl (NO g1) rfl)) ?_))))))))))
  refine oq (Ao rfl) ?_
  exact Cj
 refine AF (Aq ?_)
 obtain rfl:=As h2
 exact Ap (BW Tryz.results88 (A4 rfl)) (sS sN) ⟨rfl,rfl⟩
theorem SM (b_l:Nat) (v_l:Value) (l:(List Int)) (r:(List Int)) (h:MR l=some r):Fn Tryz.prog GE 154 [rP b_l 0] [.blk b_l [rP b_l 0,rv v_l] 112,.row v_l 5 1 (List.map Bi l)] (λR H=>∃w0:Value,R=rv (.tuple #[])∧H=[.blk b_l [rP b_l 0,rv w0] 112,.row w0 5 1 (List.map Bi r)]):=by
 refine enter (n:=20) Tryz.func154 rfl Tryz.ntmps154 rfl (λw Z=>?_)
 unfold MR at h
 refine Ae (wm rfl (wv (A2 rfl) (vF Hg rfl Rm (vL 0 Gg rfl (wv (r:=rB false) (X3 ⟨_,Rk⟩ rfl) (Ak (E4 rfl rfl (Ae (wm rfl (wv (A2 rfl) (vF Hg rfl Rm (vL 0 Gg rfl (wm rfl (wv (r:=rB false) (Tt Rk Sz rfl rfl) (Ak (E4 rfl rfl (An ?_)))))))))))))))))
 obtain rfl:=As h
 exact HI (Vb Tryz.results154) (sC (sC sN)) ⟨v_l,rfl,rfl⟩
theorem P2 (b_l:Nat) (v_l:Value) (l:(List Int)) (c:Int) (r:Unit×(List Int)) (h:JZ l c=some r):Fn Tryz.prog GE 122 [rP b_l 0,rI .u8 c] [.blk b_l [rP b_l 0,rv v_l] 112,.row v_l 5 1 (List.map Bi l)] (λR H=>∃w0:Value,R=rv (.nilIface)∧H=[.blk b_l [rP b_l 0,rv w0] 112,.row w0 5 1 (List.map Bi r.2)]):=by
 refine enter (n:=17) Tryz.func122 rfl Tryz.ntmps122 rfl (λw Z=>?_)
 unfold JZ at h
 refine Ae (wa rfl (Bf (wm rfl (ob h λr1 e3 h2=>Hb (Hr:=[]) Tryz.call154 (SM b_l v_l l r1 e3) rfl (List.Perm.refl _) rfl ?_))))
 rintro _ _ ⟨v4,rfl,rfl⟩
 refine Bf (wm rfl (wm rfl (wv (A2 rfl) (vF Hg rfl KF (vL 0 Rt rfl (wm rfl (AQ (ys:=([c]:List Int)) (enc:=Bi) (css:=[[rI .u8 c]]) (xs:=[.tmp 12]) E2 YW YV rfl rfl rfl ⟨Eb.one rfl (Up.refl _),trivial⟩ rfl CW rfl rfl rfl (λb5=>?_))))))))
 refine ck h2 λg7 h8=>Exists.elim J1 λinf hinf=>BG (xs:=r1) (ys:=([c]:List Int)) (enc:=Bi) (i:=2) E2 hinf.1 hinf.2.1 hinf.2.2.1 hinf.2.2.2 rfl rfl rfl rfl rfl (Ja.w (i:=0) rfl rfl) CW IW g7 rfl (λv6=>?_)
 refine wv (A2 rfl) (vF Hg rfl KF (BB (i:=2) KF rfl rfl (EE (i:=0) rfl) rfl rfl (cs':=[rP b_l 0,rv v6]) rfl (H':=[.row v6 5 1 (List.map Bi (r1++([c]:List Int))),.row (.slice (some ⟨b5,0,none⟩) 1 1) 5 1 (List.map Bi ([c]:List Int)),.blk b_l [rP b_l 0,rv v6] 112]) rfl (Bf (wa rfl (Ak (Aq (Cv (H2:=[.blk b_l [rP b_l 0,rv v6] 112,.row v6 5 1 (List.map Bi (r1++([c]:List Int))),.row (.slice (some ⟨b5,0,none⟩) 1 1) 5 1 (List.map Bi ([c]:List Int))]) ((A5 (i:=2) rfl).trans (List.Perm.cons _ (List.Perm.refl _))) ?_)))))))
 obtain rfl:=As h8
 exact Ap (BW Tryz.results122 (A4 rfl)) (sC (sC (sS sN))) ⟨v6,rfl,rfl⟩
theorem N9 (b_l:Nat) (v_l:Value) (l:(List Int)) (s:Ag) (r:Int×Unit×(List Int)) (h:I4 l s=some r):Fn Tryz.prog GE 120 [rP b_l 0,rS s] [.blk b_l [rP b_l 0,rv v_l] 112,.row v_l 5 1 (List.map Bi l)] (λR H=>∃w0:Value,R=Cm [rI .i64 r.1,rv (.nilIface)]∧H=[.blk b_l [rP b_l 0,rv w0] 112,.row w0 5 1 (List.map Bi r.2.2)]):=by
 refine enter (n:=19) Tryz.func120 rfl Tryz.ntmps120 rfl (λw Z=>?_)
 unfold I4 at h
 refine Ae (wa rfl (wa rfl (Bf (wm rfl (ob h λr1 e3 h2=>Hb (Hr:=[]) Tryz.call154 (SM b_l v_l l r1 e3) rfl (List.Perm.refl _) rfl ?_)))))
 rintro _ _ ⟨v4,rfl,rfl⟩
 refine Bf (wm rfl (wm rfl (wv (A2 rfl) (vF Hg rfl KF (vL 0 Rt rfl (wm rfl (ck h2 λg6 h7=>Exists.elim J1 λinf hinf=>E5 (xs:=r1) (i:=1) E2 BC hinf.1 hinf.2.1 hinf.2.2.1 hinf.2.2.2 rfl rfl rfl g6 rfl (λv5=>?_))))))))
 refine wv (A2 rfl) (vF Hg rfl KF (BB (i:=1) KF rfl rfl (EE (i:=0) rfl) rfl rfl (cs':=[rP b_l 0,rv v5]) rfl (H':=[.row v5 5 1 (List.map Bi (r1++CM s)),.blk b_l [rP b_l 0,rv v5] 112]) rfl (Bf (wm rfl (wv (AW BC rfl) (wa rfl (wa rfl (Ak (Aq (Cv (H2:=[.blk b_l [rP b_l 0,rv v5] 112,.row v5 5 1 (List.map Bi (r1++CM s))]) ((A5 (i:=1) rfl).trans (List.Perm.cons _ (List.Perm.refl _))) ?_))))))))))
 obtain rfl:=As h7
 exact Ap (Cy Tryz.results120 (A4 rfl) (A4 rfl)) (sC (sC sN)) ⟨v5,rfl,rfl⟩
theorem T9 (b_l:Nat) (v_l:Value) (l:Ag) (r:Ag) (h:Pm l=some r):Fn Tryz.prog GE 88 [rP b_l 0] [.blk b_l [rP b_l 0,rv v_l] 112,.row v_l 5 1 (List.map Bi (CM l))] (λR H=>R=rS r∧H=[]):=by
 refine enter (n:=14) Tryz.func88 rfl Tryz.ntmps88 rfl (λw Z=>?_)
 unfold Pm at h
 refine Ae (wv (r:=rS ([]:Ag)) (Ao rfl) (Ak (Ai (ck h λg1 h2=>EW (H1:=[.blk b_l [rP b_l 0,rv v_l] 112]) [0] [⟨[],rP b_l 0,0⟩,⟨[0],rP b_l 0,0⟩,⟨[1],rP b_l 1,0⟩,⟨[2],rv v_l,1⟩,⟨[3],rv (slp v_l),1⟩,⟨[],rP b_l 0,0⟩,⟨[5],rP b_l 0,0⟩,⟨[6],rP b_l 1,0⟩,⟨[7],rv v_l,1⟩,⟨[8],rI .i64 ((CM l).length:Int),1⟩,⟨[4,9],rS l,2⟩,⟨[10],rS l,0⟩] (rle [(11,_),(2,[.blk b_l [rP b_l 0,rv v_l] 112])]) [2] ?_ ?_))))
 ·refine oq (Al rfl) (oq (A2 rfl) (oq (AH Hg rfl KF rfl rfl) (of (Bp (i:=0) Rt rfl rfl rfl) (of (Np (i:=1) rfl rfl (NO g1)) (oq (Al rfl) (oq (A2 rfl) (oq (AH Hg rfl KF rfl rfl) (of (Bp (i:=0) Rt rfl rfl rfl) (of (Dr (ys:=CM l) (enc:=Bi) (i:=1) E2 rfl rfl) (Ij rfl (AbD (Kb (i:=1) Tryz.underlying150 (by kernel_rfl) rfl rfl rfl (NO g1) rfl)) ?_))))))))))
  refine oq (Ao rfl) ?_
  exact Cj
 refine AF (Aq ?_)
 obtain rfl:=As h2
 exact Ap (BW Tryz.results88 (A4 rfl)) (sS sN) ⟨rfl,rfl⟩
theorem CC (b:Nat) (v:Value) (l:Ag) (c:Int) (g1:Dw 1 (l.length+1)=true) (g2:Bl .u8 c=true):Fn Tryz.prog GE 122 [rP b 0,rI .u8 c] [.bld 112 5 b v l] (λR H=>∃w0:Value,R=rv .nilIface∧H=[.bld 112 5 b w0 (l++[UInt8.ofNat c.toNat])]):=by
  have hc:CM (l++[UInt8.ofNat c.toNat])=CM l++[c]:=by
    have:=(by simpa[Bl,IntKind.min,IntKind.max,IntKind.signed,IntKind.bits] using g2:0≤c∧c≤255)
    simp only[CM,List.map_append,Adt,List.map_nil]
    congr 2
    simp;omega
  refine Fn.bld (res:=rv .nilIface) λp hp=>?_
  rw[hc]
  rcases hp with rfl | rfl
  · refine(P3 b v (CM l) c (((),CM l++[c])) ?_).sub (Ic.refl _) (λr H h=>by obtain⟨w0,h1,h2⟩:=h;exact⟨w0,h1,h2⟩)
    simp only[Ka,MS,Bn,CO]
    simp[AN,g1]
  · refine(P2 b v (CM l) c (((),CM l++[c])) ?_).sub (Ic.refl _) (λr H h=>by obtain⟨w0,h1,h2⟩:=h;exact⟨w0,h1,h2⟩)
    simp only[JZ,MR,Bn,CO]
    simp[AN,g1]
theorem Iu (b:Nat) (v:Value) (l s:Ag) (g1:Dw 1 (l.length+s.length)=true):Fn Tryz.prog GE 120 [rP b 0,rS s] [.bld 112 5 b v l] (λR H=>∃w0:Value,R=Cm [rI .i64 (s.length:Int),rv .nilIface]∧H=[.bld 112 5 b w0 (l++s)]):=by
  have hc:CM (l++s)=CM l++CM s:=by simp[CM]
  refine Fn.bld (res:=Cm [rI .i64 (s.length:Int),rv .nilIface]) λp hp=>?_
  rw[hc]
  rcases hp with rfl | rfl
  · refine(NA b v (CM l) s (((s.length:Int),(),CM l++CM s)) ?_).sub (Ic.refl _) (λr H h=>by obtain⟨w0,h1,h2⟩:=h;exact⟨w0,h1,h2⟩)
    simp only[I5,MS,Bn,CO]
    simp[AN,g1]
  · refine(N9 b v (CM l) s (((s.length:Int),(),CM l++CM s)) ?_).sub (Ic.refl _) (λr H h=>by obtain⟨w0,h1,h2⟩:=h;exact⟨w0,h1,h2⟩)
    simp only[I4,MR,Bn,CO]
    simp[AN,g1]
theorem Wd (b:Nat) (v:Value) (l:Ag) (g1:decide (0<l.length)=true):Fn Tryz.prog GE 88 [rP b 0] [.bld 112 5 b v l] (λR H=>R=rS l∧H=[]):=by
  refine Fn.bldS (res:=rS l) λp hp=>?_
  rcases hp with rfl | rfl
  · exact TA b v l l (by simp only[Pn,CO];simp[AN,g1])
  · exact T9 b v l l (by simp only[Pm,CO];simp[AN,g1])
end Go.Proofs.YtjfnokmpfekniaaGreatDoor.Q
namespace Go.Proofs.YtjfnokmpfekniaaGreatDoor
open Go
set_option linter.unusedVariables false
structure Aa where
 fKind:Int
 fInt:Int
 fStr:Ag
 fN:Int
 deriving DecidableEq,Inhabited
def Km (s:Ag) (ha:Int):Option (Stp (Int) (Out (Bool) (Unit))):=
 Bd (decide (ha<(s.length:Int))) (AN (Cu ha (s.length:Int))<|Bd (((decide ((AK s ha)<32))||(decide (126<(AK s ha))))) (some (.out (.ret false))) (AN (Bl .i64 (ha+1))<|some (.next (ha+1)))) (some (.out (.go ())))
def Kl :Option (Bool):=
 some true
def JH (F:Nat) (s:Ag):Option (Bool):=
 Bn (BF (λσ=>Km s σ) F 0) (B6 λν=>Kl )
def BN (ok:Bool) (i:Int):Option (Int):=
 Bd (ok) (AN (Bl .i64 (i+1))<|some (i+1)) (some (-1))
def Px (F:Nat) (c:Aa):Option (Bool):=
 AN (imp (decide (c.fKind=4)) (imp (decide (c.fInt=0)) (imp (decide (c.fN=0)) ((JH F c.fStr).isSome))))<|some ((decide (c.fKind=4))&&((decide (c.fInt=0))&&((decide (c.fN=0))&&(ov (JH F c.fStr)))))
def Q7 (F:Nat) (rec_rElements:(List Aa)→Int→Int→Option (Int)) (rec_rPairs:(List Aa)→Int→Int→Option (Int)) (v:(List Aa)) (i:Int):Option (Int):=
 Bd (((decide (i<0))||(decide ((v.length:Int)≤i)))) (some (-1)) (AN (Cu i (v.length:Int))<|Bd (decide (((Am v i).fKind)=1)) (AN (imp (decide (((Am v i).fInt)=0)) (imp (decide (((Am v i).fStr)=([]:Ag))) ((BN (decide (((Am v i).fN)=0)) i).isSome)))<|AN (imp (decide (((Am v i).fInt)=0)) (imp (!(decide (((Am v i).fStr)=([]:Ag)))) ((BN false i).isSome)))<|AN (imp (!(decide (((Am v i).fInt)=0))) ((BN false i).isSome))<|some (bif decide (((Am v i).fInt)=0) then(bif decide (((Am v i).fStr)=([]:Ag)) then(ov (BN (decide (((Am v i).fN)=0)) i)) else(ov (BN false i))) else(ov (BN false i)))) (Bd (decide (((Am v i).fKind)=2)) (AN (imp (decide (((Am v i).fInt)=0)) (imp (decide (((Am v i).fStr)=([]:Ag))) ((BN (decide (((Am v i).fN)=0)) i).isSome)))<|AN (imp (decide (((Am v i).fInt)=0)) (imp (!(decide (((Am v i).fStr)=([]:Ag)))) ((BN false i).isSome)))<|AN (imp (!(decide (((Am v i).fInt)=0))) (imp (decide (((Am v i).fInt)=1)) (imp (decide (((Am v i).fStr)=([]:Ag))) ((BN (decide (((Am v i).fN)=0)) i).isSome))))<|AN (imp (!(decide (((Am v i).fInt)=0))) (imp (decide (((Am v i).fInt)=1)) (imp (!(decide (((Am v i).fStr)=([]:Ag)))) ((BN false i).isSome))))<|AN (imp (!(decide (((Am v i).fInt)=0))) (imp (!(decide (((Am v i).fInt)=1))) ((BN false i).isSome)))<|some (bif decide (((Am v i).fInt)=0) then(bif decide (((Am v i).fStr)=([]:Ag)) then(ov (BN (decide (((Am v i).fN)=0)) i)) else(ov (BN false i))) else(bif decide (((Am v i).fInt)=1) then(bif decide (((Am v i).fStr)=([]:Ag)) then(ov (BN (decide (((Am v i).fN)=0)) i)) else(ov (BN false i))) else(ov (BN false i))))) (Bd (decide (((Am v i).fKind)=3)) (AN (imp (decide (((Am v i).fStr)=([]:Ag))) ((BN (decide (((Am v i).fN)=0)) i).isSome))<|AN (imp (!(decide (((Am v i).fStr)=([]:Ag)))) ((BN false i).isSome))<|some (bif decide (((Am v i).fStr)=([]:Ag)) then(ov (BN (decide (((Am v i).fN)=0)) i)) else(ov (BN false i)))) (Bd (decide (((Am v i).fKind)=4)) (Bn (Px F (Am v i)) λha=>Bn (BN ha i) λhb=>some hb) (Bd (((decide (((Am v i).fKind)=5))&&((decide (((Am v i).fInt)=0))&&((decide (((Am v i).fStr)=([]:Ag)))&&(decide (0≤((Am v i).fN))))))) (AN (Bl .i64 (i+1))<|Bn (rec_rElements v (i+1) ((Am v i).fN)) λhd=>some hd) (Bd (((decide (((Am v i).fKind)=6))&&((decide (((Am v i).fInt)=0))&&((decide (((Am v i).fStr)=([]:Ag)))&&(decide (0≤((Am v i).fN))))))) (AN (Bl .i64 (i+1))<|Bn (rec_rPairs v (i+1) ((Am v i).fN)) λhe=>some he) (some (-1))))))))
def Df (v:(List Aa)) (n:Int) (rec_rNext:(List Aa)→Int→Option (Int)) (hb:Int) (ha:Int):Option (Stp (Int×Int) (Out (Int) (Int))):=
 Bd (decide (ha<n)) (Bn (rec_rNext v hb) λhd=>Bd (decide (hd<0)) (some (.out (.ret (-1)))) (AN (Bl .i64 (ha+1))<|some (.next (hd,ha+1)))) (some (.out (.go hb)))
def E8 (ha:Int):Option (Int):=
 some ha
def Jl (F:Nat) (rec_rNext:(List Aa)→Int→Option (Int)) (v:(List Aa)) (i:Int) (n:Int):Option (Int):=
 Bn (BF (λσ=>Df v n rec_rNext σ.1 σ.2) F (i,0)) (B6 λν=>E8 ν)
def DJ (F:Nat) (v:(List Aa)) (n:Int) (rec_rNext:(List Aa)→Int→Option (Int)) (ha:Int) (hd:Ag) (hb:Int):Option (Stp (Int×Ag×Int) (Out (Int) (Int))):=
 Bd (decide (hb<n)) (AN (imp (!(decide ((v.length:Int)≤ha))) (Cu ha (v.length:Int)))<|AN (imp (!(decide ((v.length:Int)≤ha))) ((Px F (Am v ha)).isSome))<|Bd (((decide ((v.length:Int)≤ha))||((!(ov (Px F (Am v ha))))||((decide (0<hb))&&(Ci ((Am v ha).fStr) hd||decide (((Am v ha).fStr)=hd)))))) (some (.out (.ret (-1)))) (AN (Cu ha (v.length:Int))<|AN (Bl .i64 (ha+1))<|Bn (rec_rNext v (ha+1)) λhe=>Bd (decide (he<0)) (some (.out (.ret (-1)))) (AN (Bl .i64 (hb+1))<|some (.next (he,(Am v ha).fStr,hb+1))))) (some (.out (.go ha)))
def H7 (ha:Int):Option (Int):=
 some ha
def NI (F:Nat) (rec_rNext:(List Aa)→Int→Option (Int)) (v:(List Aa)) (i:Int) (n:Int):Option (Int):=
 Bn (BF (λσ=>DJ F v n rec_rNext σ.1 σ.2.1 σ.2.2) F (i,([]:Ag),0)) (B6 λν=>H7 ν)
mutual
def DO:Nat→(List Aa)→Int→Option (Int)
 | 0,_,_=>none
 | nn+1,v,i=>Q7 nn (H8 nn) (M7 nn) v i
def H8:Nat→(List Aa)→Int→Int→Option (Int)
 | 0,_,_,_=>none
 | nn+1,v,i,n=>Jl nn (DO nn) v i n
def M7:Nat→(List Aa)→Int→Int→Option (Int)
 | 0,_,_,_=>none
 | nn+1,v,i,n=>NI nn (DO nn) v i n
end
def LB (F:Nat) (v:(List Aa)):Option (Bool):=
 AN (imp (decide (0<(v.length:Int))) ((DO F v 0).isSome))<|some ((decide (0<(v.length:Int)))&&(decide ((ov (DO F v 0))=(v.length:Int))))
def CY (F:Nat) (v:(List Aa)) (i:Int) (rec_rLevels:(List Aa)→Int→Option (Int)) (hd:Int) (hb:Int) (ha:Int):Option (Stp (Int×Int×Int) (Out (Int) (Int))):=
 Bd (decide (ha<((Am v i).fN))) (Bd (decide (((Am v i).fKind)=6)) (AN (Bl .i64 (hb+1))<|Bn (rec_rLevels v (hb+1)) λhe=>Bd (decide (hd<he)) (Bn (DO F v (hb+1)) λhg=>AN (Bl .i64 (ha+1))<|some (.next (he,hg,ha+1))) (Bn (DO F v (hb+1)) λhh=>AN (Bl .i64 (ha+1))<|some (.next (hd,hh,ha+1)))) (Bn (rec_rLevels v hb) λhf=>Bd (decide (hd<hf)) (Bn (DO F v hb) λhi=>AN (Bl .i64 (ha+1))<|some (.next (hf,hi,ha+1))) (Bn (DO F v hb) λhj=>AN (Bl .i64 (ha+1))<|some (.next (hd,hj,ha+1))))) (some (.out (.go hd)))
def Er (ha:Int):Option (Int):=
 AN (Bl .i64 (ha+1))<|some (ha+1)
def IJ (F:Nat) (rec_rLevels:(List Aa)→Int→Option (Int)) (v:(List Aa)) (i:Int):Option (Int):=
 AN (Cu i (v.length:Int))<|Bd (((!decide (((Am v i).fKind)=5))&&(!decide (((Am v i).fKind)=6)))) (some 1) (AN (Bl .i64 (i+1))<|Bn (BF (λσ=>CY F v i rec_rLevels σ.1 σ.2.1 σ.2.2) F (0,i+1,0)) (B6 λν=>Er ν))
def Ds:Nat→(List Aa)→Int→Option (Int)
 | 0,_,_=>none
 | nn+1,v,i=>IJ nn (Ds nn) v i
def Do (s:Ag) (hb:Ag) (ha:Int):Option (Stp (Ag×Int) (Out (Ag) (Ag))):=
 Bd (decide (ha<(s.length:Int))) (AN (Cu ha (s.length:Int))<|Bd (((decide ((AK s ha)=34))||(decide ((AK s ha)=92)))) (AN (Bl .i64 ((hb.length:Int)+(([92]:Ag).length:Int)))<|AN (Bl .i64 (ha+1))<|AN (GJ ha (ha+1))<|AN (GJ (ha+1) (s.length:Int))<|AN (Bl .i64 (((hb++([92]:Ag)).length:Int)+((List.take (Int.toNat (ha+1)-Int.toNat ha) (List.drop (Int.toNat ha) s)).length:Int)))<|some (.next ((hb++([92]:Ag))++(List.take (Int.toNat (ha+1)-Int.toNat ha) (List.drop (Int.toNat ha) s)),ha+1))) (AN (Bl .i64 (ha+1))<|AN (GJ ha (ha+1))<|AN (GJ (ha+1) (s.length:Int))<|AN (Bl .i64 ((hb.length:Int)+((List.take (Int.toNat (ha+1)-Int.toNat ha) (List.drop (Int.toNat ha) s)).length:Int)))<|some (.next (hb++(List.take (Int.toNat (ha+1)-Int.toNat ha) (List.drop (Int.toNat ha) s)),ha+1)))) (some (.out (.go hb)))
def DV (ha:Ag):Option (Ag):=
 AN (Bl .i64 ((ha.length:Int)+(([34]:Ag).length:Int)))<|some (ha++([34]:Ag))
def Jk (F:Nat) (s:Ag):Option (Ag):=
 Bn (BF (λσ=>Do s σ.1 σ.2) F (([34]:Ag),0)) (B6 λν=>DV ν)
def Ep (F:Nat) (v:(List Aa)) (i:Int) (rec_rText:(List Aa)→Int→Option (Ag)) (ha:Ag) (hb:Int) (hd:Int):Option (Stp (Ag×Int×Int) (Out (Ag) (Ag))):=
 Bd (decide (hd<((Am v i).fN))) (Bd (decide (0<hd)) (AN (Bl .i64 ((ha.length:Int)+(([44]:Ag).length:Int)))<|Bd (decide (((Am v i).fKind)=6)) (AN (Cu hb (v.length:Int))<|Bn (Jk F ((Am v hb).fStr)) λhe=>AN (Bl .i64 (((ha++([44]:Ag)).length:Int)+(he.length:Int)))<|AN (Bl .i64 ((((ha++([44]:Ag))++he).length:Int)+(([58]:Ag).length:Int)))<|AN (Bl .i64 (hb+1))<|Bn (rec_rText v (hb+1)) λhg=>AN (Bl .i64 (((((ha++([44]:Ag))++he)++([58]:Ag)).length:Int)+(hg.length:Int)))<|Bn (DO F v (hb+1)) λhk=>AN (Bl .i64 (hd+1))<|some (.next ((((ha++([44]:Ag))++he)++([58]:Ag))++hg,hk,hd+1))) (Bn (rec_rText v hb) λhh=>AN (Bl .i64 (((ha++([44]:Ag)).length:Int)+(hh.length:Int)))<|Bn (DO F v hb) λhl=>AN (Bl .i64 (hd+1))<|some (.next ((ha++([44]:Ag))++hh,hl,hd+1)))) (Bd (decide (((Am v i).fKind)=6)) (AN (Cu hb (v.length:Int))<|Bn (Jk F ((Am v hb).fStr)) λhf=>AN (Bl .i64 ((ha.length:Int)+(hf.length:Int)))<|AN (Bl .i64 (((ha++hf).length:Int)+(([58]:Ag).length:Int)))<|AN (Bl .i64 (hb+1))<|Bn (rec_rText v (hb+1)) λhi=>AN (Bl .i64 ((((ha++hf)++([58]:Ag)).length:Int)+(hi.length:Int)))<|Bn (DO F v (hb+1)) λhm=>AN (Bl .i64 (hd+1))<|some (.next (((ha++hf)++([58]:Ag))++hi,hm,hd+1))) (Bn (rec_rText v hb) λhj=>AN (Bl .i64 ((ha.length:Int)+(hj.length:Int)))<|Bn (DO F v hb) λhn=>AN (Bl .i64 (hd+1))<|some (.next (ha++hj,hn,hd+1))))) (some (.out (.go ha)))
def HO (v:(List Aa)) (i:Int) (ha:Ag):Option (Ag):=
 Bd (decide (((Am v i).fKind)=6)) (AN (Bl .i64 ((([123]:Ag).length:Int)+(ha.length:Int)))<|AN (Bl .i64 (((([123]:Ag)++ha).length:Int)+(([125]:Ag).length:Int)))<|some ((([123]:Ag)++ha)++([125]:Ag))) (AN (Bl .i64 ((([91]:Ag).length:Int)+(ha.length:Int)))<|AN (Bl .i64 (((([91]:Ag)++ha).length:Int)+(([93]:Ag).length:Int)))<|some ((([91]:Ag)++ha)++([93]:Ag)))
def M4 (F:Nat) (rec_rText:(List Aa)→Int→Option (Ag)) (v:(List Aa)) (i:Int):Option (Ag):=
 AN (Cu i (v.length:Int))<|Bd (decide (((Am v i).fKind)=1)) (some ([110,117,108,108]:Ag)) (Bd (decide (((Am v i).fKind)=2)) (Bd (decide (((Am v i).fInt)=1)) (some ([116,114,117,101]:Ag)) (some ([102,97,108,115,101]:Ag))) (Bd (decide (((Am v i).fKind)=3)) (AN (Bl .i64 ((Am v i).fInt))<|some (Lib.itoa ((Am v i).fInt))) (Bd (decide (((Am v i).fKind)=4)) (Bn (Jk F ((Am v i).fStr)) λha=>some ha) (AN (Bl .i64 (i+1))<|Bn (BF (λσ=>Ep F v i rec_rText σ.1 σ.2.1 σ.2.2) F (([]:Ag),i+1,0)) (B6 λν=>HO v i ν)))))
def GU:Nat→(List Aa)→Int→Option (Ag)
 | 0,_,_=>none
 | nn+1,v,i=>M4 nn (GU nn) v i
def E9 (v:(List Aa)) (ha:Int):Option (Stp (Int) (Out (Int) (Unit))):=
 Bd (decide (ha<(v.length:Int))) (AN (Cu ha (v.length:Int))<|Bd (decide (200<(((Am v ha).fStr).length:Int))) (some (.out (.ret 3))) (AN (Bl .i64 (ha+1))<|some (.next (ha+1)))) (some (.out (.go ())))
def IK (F:Nat) (v:(List Aa)):Option (Int):=
 Bn (GU F v 0) λha=>Bd (decide (4000<(ha.length:Int))) (some 3) (some 0)
def EA (v:(List Aa)) (ha:Int):Option (Stp (Int) (Out (Int) (Unit))):=
 Bd (decide (ha<(v.length:Int))) (AN (Cu ha (v.length:Int))<|Bd (((decide (((Am v ha).fKind)=3))&&((decide (((Am v ha).fInt)<(-1000000000000)))||(decide (1000000000000<((Am v ha).fInt)))))) (some (.out (.ret 2))) (AN (Bl .i64 (ha+1))<|some (.next (ha+1)))) (some (.out (.go ())))
def IL (F:Nat) (v:(List Aa)):Option (Int):=
 AN (imp (!(decide (200<(v.length:Int)))) ((Ds F v 0).isSome))<|Bd (((decide (200<(v.length:Int)))||(decide (8<(ov (Ds F v 0)))))) (some 3) (Bn (BF (λσ=>E9 v σ) F 0) (B6 λν=>IK F v ))
def Ld (F:Nat) (v:(List Aa)):Option (Int):=
 Bn (LB F v) λr1=>Bd (!r1) (some 1) (Bn (BF (λσ=>EA v σ) F 0) (B6 λν=>IL F v ))
def LC (F:Nat) (v:(List Aa)):Option (Ag×Int):=
 Bn (Ld F v) λr1=>Bd (!decide (r1=0)) (some (([]:Ag),r1)) (Bn (GU F v 0) λr7=>some (r7,0))
end Go.Proofs.YtjfnokmpfekniaaGreatDoor
namespace Go.Proofs.YtjfnokmpfekniaaGreatDoor.Q
open Go Go.RowKit
set_option linter.unusedVariables false
set_option linter.unusedSimpArgs false
set_option maxRecDepth 100000
set_option maxHeartbeats 4000000
@[reducible] def Ab (x:Aa):List Rp:=[rI .i64 x.fKind,rI .i64 x.fInt,rS x.fStr,rI .i64 x.fN]
theorem AR (x:Aa):(Ab x).length=4:=rfl
theorem BH (x:Aa):(Ab x).all (·.one)=true:=rfl
theorem WW (F:Nat) (s:Ag) (r:Bool) (h:JH F s=some r):Fn Tryz.prog GE 156 [rS s] [] (λR H=>R=rB r∧H=[]):=by
 refine enter (n:=20) Tryz.func156 rfl Tryz.ntmps156 rfl (λw Z=>?_)
 unfold JH at h
 refine Ae (wa rfl (Ak (Ai (Ae (wa rfl (Ak (AB (ob h λhi hj hg=>Bk (S:=Nat×(Int)×(Unit)) (V:=(Unit)×(Unit)) 0 (λσ=>BF (λσ=>Km s σ) σ.1 σ.2.1=some hi) (λσ=>[(0,rS s),(3,rI .i64 σ.2.1)]) (λσ=>[]) (λσ=>σ.1) (F,0,()) hj (AC.c rfl (AC.c rfl AC.nil)) sN (λσ=>Kl =some r) (λσ=>[]) (λσ=>[]) ?_ ?_))))))))
 ·rintro⟨hz,hb,⟨⟩⟩ hk
  refine BO (l':=[(0,rS s),(3,rI .i64 hb)]) (H':=[]) rfl rfl ?_
  obtain⟨hl,rfl,t37,hd,hf⟩:=Ce hk
  replace hd:Km s hb=some t37:=hd
  unfold Km at hd
  refine Ai (Ae (wm rfl (wm rfl (wv (AW BC rfl) (wv (BY rfl rfl) (Ak (cz hd rfl (λhm hn=>?_) (λhm ho=>?_))))))))
  ·refine An (AF (Ai (AB (ck hn λhh hp=>A6 [(0,rS s),(3,rI .i64 hb),(19,rB ((decide ((AK s hb)<32))||(decide (126<(AK s hb)))))] [] ?_ ?_))))
   ·refine Af (wm rfl (wm rfl (wv (AO BC rfl rfl hh) (wv (BY rfl rfl) (wm rfl (AI (decide ((AK s hb)<32)) (λha=>?_) (λha=>?_)))))))
    ·refine wf ha (wf ha (wf ha (wf ha (wv (r:=rB true) (Au rfl ha rfl) (Aj ?_)))))
     exact BM ha
    ·refine wo ha (wm rfl (wo ha (wm rfl (wo ha (wv (AO BC rfl rfl hh) (wo ha (wv (Cb rfl rfl) (DR rfl ha rfl (Aj ?_)))))))))
     exact BM ha
   refine cz hp rfl (λhq hr=>?_) (λhq hs=>?_)
   ·refine Ae (wa rfl (Ak (Aq (Av (Ac (Ac (AS ?_)))))))
    have ht:=Bm hr hf hg
    refine Av (Ac ?_)
    obtain rfl:=As ht
    exact Ap (BW Tryz.results156 (A4 rfl)) sN ⟨rfl,rfl⟩
   ·refine An (A8 (AF (Af (wm rfl (ck hs λhu hw=>wv (AX rfl rfl hu) (wa rfl (Aj ?_)))))))
    have hx:=Bb hw hf
    exact Ar (A3 (hl,hb+1,()) ⟨hx,AcL _⟩ (AC.c rfl (AC.c rfl AC.nil)) sN)
  ·refine Bo (At ?_)
   have hy:=BI ho hf hg
   exact At (Bc (A3 ((),()) hy AC.nil sN))
 ·rintro⟨⟨⟩,⟨⟩⟩ he
  refine Cf (l':=[]) (H':=[]) rfl rfl ?_
  replace he:Kl =some r:=he
  unfold Kl at he
  refine AZ (AF (Ae (wa rfl (Ak (Aq ?_)))))
  obtain rfl:=As he
  exact Ap (BW Tryz.results156 (A4 rfl)) sN ⟨rfl,rfl⟩
theorem Es (ok:Bool) (i:Int) (r:Int) (h:BN ok i=some r):Fn Tryz.prog GE 127 [rB ok,rI .i64 i] [] (λR H=>R=rI .i64 r∧H=[]):=by
 refine enter (n:=8) Tryz.func127 rfl Tryz.ntmps127 rfl (λw Z=>?_)
 unfold BN at h
 refine Ae (wa rfl (Ak (Ai (Ae (wm rfl (Ak (cz h rfl (λc1 h2=>?_) (λc1 h5=>?_))))))))
 ·refine Ae (wm rfl (ck h2 λg3 h4=>wv (AX rfl rfl g3) (wa rfl (Ak (Aq (Ac ?_))))))
  obtain rfl:=As h4
  exact Ap (BW Tryz.results127 (A4 rfl)) sN ⟨rfl,rfl⟩
 ·refine An (AF (Ae (wv (r:=rI .i64 (-1)) (Ao rfl) (Ak (Aq ?_)))))
  obtain rfl:=As h5
  exact Ap (BW Tryz.results127 (A4 rfl)) sN ⟨rfl,rfl⟩
theorem WY (F:Nat) (c:Aa) (r:Bool) (h:Px F c=some r):Fn Tryz.prog GE 128 [B9 (Ab c)] [] (λR H=>R=rB r∧H=[]):=by
 refine enter (n:=21) Tryz.func128 rfl Tryz.ntmps128 rfl (λw Z=>?_)
 unfold Px at h
 refine Ae (Ec rfl rfl (λb1=>?_))
 refine wa rfl (Ak (ck h λg2 h3=>A6 [(2,rB ((decide (c.fKind=4))&&((decide (c.fInt=0))&&((decide (c.fN=0))&&(ov (JH F c.fStr))))))] [] ?_ ?_))
 ·refine Af (vF B2 rfl Eh (vL 0 E3 rfl (wv (Bx rfl rfl) (wm rfl (AI (decide (c.fKind=4)) (λc4=>?_) (λc4=>?_))))))
  ·refine wo c4 (vF B2 rfl Cq (wo c4 (vL 0 CU rfl (wo c4 (wv (Bx rfl rfl) (EF rfl c4 rfl (wm rfl (AI (decide (c.fInt=0)) (λc5=>?_) (λc5=>?_)))))))))
   ·refine wo c5 (vF B2 rfl Cq (wo c5 (vL 0 CU rfl (wo c5 (wv (Bx rfl rfl) (EF rfl c5 rfl (wm rfl (AI (decide (c.fN=0)) (λc6=>?_) (λc6=>?_)))))))))
    ·refine wo c6 (vF B2 rfl CD (wo c6 (vL 0 Dm rfl (wo c6 (Cg Tryz.call156 (WW F c.fStr (ov (JH F c.fStr)) (GX (C2 (C2 (C2 g2 c4) c5) c6))) rfl (EF rfl c6 rfl (wa rfl (Aj ?_))))))))
     exact BM (And.intro c4 (And.intro c5 c6))
    ·refine wf c6 (wf c6 (wf c6 (wv (r:=rB false) (A7 rfl c6 rfl) (wa rfl (Aj ?_)))))
     exact BM (And.intro c4 (And.intro c5 c6))
   ·refine wf c5 (wf c5 (wf c5 (wv (r:=rB false) (A7 rfl c5 rfl) (wm rfl (wz rfl rfl (wz rfl rfl (wz rfl rfl (wv (r:=rB false) (A7 (b:=false) rfl rfl rfl) (wa rfl (Aj ?_))))))))))
    exact BM (And.intro c4 c5)
  ·refine wf c4 (wf c4 (wf c4 (wv (r:=rB false) (A7 rfl c4 rfl) (wm rfl (wz rfl rfl (wz rfl rfl (wz rfl rfl (wv (r:=rB false) (A7 (b:=false) rfl rfl rfl) (wm rfl (wz rfl rfl (wz rfl rfl (wz rfl rfl (wv (r:=rB false) (A7 (b:=false) rfl rfl rfl) (wa rfl (Aj ?_)))))))))))))))
   exact BM c4
 refine Aq ?_
 obtain rfl:=As h3
 exact Ap (BW Tryz.results128 (A4 rfl)) sN ⟨rfl,rfl⟩
theorem WX (F:Nat) (rec_rElements:(List Aa)→Int→Int→Option (Int)) (rec_rPairs:(List Aa)→Int→Int→Option (Int)) (ih_rElements:(∀(v:(List Aa)) (i:Int) (n:Int) (r:Int),rec_rElements v i n=some r→Fn Tryz.prog GE 129 [AV 4 (List.map Ab v),rI .i64 i,rI .i64 n] [] (λR H=>R=rI .i64 r∧H=[]))) (ih_rPairs:(∀(v:(List Aa)) (i:Int) (n:Int) (r:Int),rec_rPairs v i n=some r→Fn Tryz.prog GE 130 [AV 4 (List.map Ab v),rI .i64 i,rI .i64 n] [] (λR H=>R=rI .i64 r∧H=[]))) (v:(List Aa)) (i:Int) (r:Int) (h:Q7 F rec_rElements rec_rPairs v i=some r):Fn Tryz.prog GE 93 [AV 4 (List.map Ab v),rI .i64 i] [] (λR H=>R=rI .i64 r∧H=[]):=by
 refine enter (n:=127) Tryz.func93 rfl Tryz.ntmps93 rfl (λw Z=>?_)
 unfold Q7 at h
 refine Ae (wa rfl (Ak (Ai (A6 [(0,AV 4 (List.map Ab v)),(1,rI .i64 i),(13,rB ((decide (i<0))||(decide ((v.length:Int)≤i))))] [] ?_ ?_))))
 ·refine Af (wm rfl (wv (BY rfl rfl) (wm rfl (AI (decide (i<0)) (λc1=>?_) (λc1=>?_)))))
  ·refine wf c1 (wf c1 (wf c1 (wf c1 (wv (r:=rB true) (Au rfl c1 rfl) (Aj ?_)))))
   exact BM c1
  ·refine wo c1 (wm rfl (wo c1 (wm rfl (wo c1 (wv (Bv (ys:=v) (enc:=Ab) BP rfl) (wo c1 (wv (G0 rfl rfl) (DR rfl c1 rfl (Aj ?_)))))))))
   exact BM c1
 refine cz h rfl (λc2 h3=>?_) (λc2 h4=>?_)
 ·refine Ae (wv (r:=rI .i64 (-1)) (Ao rfl) (Ak (Aq (Ac ?_))))
  obtain rfl:=As h3
  exact Ap (BW Rn (A4 rfl)) sN ⟨rfl,rfl⟩
 ·refine An (AF (Ae (wm rfl (wm rfl (ck h4 λg5 h6=>wv (Bh (enc:=Ab) (ys:=v) BP Ch rfl rfl g5) (wv (D1 Mx Ch rfl rfl rfl) (BT (cs:=[rI .i64 0,rI .i64 0,rS ([]:Ag),rI .i64 0]) EH rfl rfl (λb7=>?_))))))))
  refine Bj (i:=0) Ch rfl rfl rfl (BE.c rfl) rfl rfl (cs':=[rI .i64 ((Am v i).fKind),rI .i64 ((Am v i).fInt),rS ((Am v i).fStr),rI .i64 ((Am v i).fN)]) rfl (H':=[.blk b7 (Ab (Am v i)) 78]) rfl (Ak (Ai (Ae (vF B2 rfl Eh (vL 0 E3 rfl (wv (Bx rfl rfl) (Ak (cz h6 rfl (λc8 h9=>?_) (λc8 ho=>?_)))))))))
  ·refine ck h9 λhp hq=>ck hq λhr hs=>ck hs λht hu=>A6 [(4,rI .i64 (bif decide (((Am v i).fInt)=0) then(bif decide (((Am v i).fStr)=([]:Ag)) then(ov (BN (decide (((Am v i).fN)=0)) i)) else(ov (BN false i))) else(ov (BN false i))))] [] ?_ ?_
   ·refine Af (vF B2 rfl Cq (vL 0 CU rfl (wv (Bx rfl rfl) (wm rfl (AI (decide (((Am v i).fInt)=0)) (λhb=>?_) (λhb=>?_))))))
    ·refine wo hb (vF B2 rfl CD (wo hb (vL 0 Dm rfl (wo hb (wv (Ef rfl rfl) (EF rfl hb rfl (wm rfl (AI (decide (((Am v i).fStr)=([]:Ag))) (λhe=>?_) (λhe=>?_)))))))))
     ·refine wo he (vF B2 rfl Cq (wo he (vL 0 CU rfl (wo he (wv (Bx rfl rfl) (EF rfl he rfl (wm rfl (Cg JB (Es (decide (((Am v i).fN)=0)) i (ov (BN (decide (((Am v i).fN)=0)) i)) (GX (C2 (C2 hp hb) he))) rfl (wa rfl (Aj ?_))))))))))
      exact BM (And.intro hb he)
     ·refine wf he (wf he (wf he (wv (r:=rB false) (A7 rfl he rfl) (wm rfl (Cg JB (Es false i (ov (BN false i)) (GX (Cr (C2 hr hb) he))) rfl (wa rfl (Aj ?_)))))))
      exact BM (And.intro hb he)
    ·refine wf hb (wf hb (wf hb (wv (r:=rB false) (A7 rfl hb rfl) (wm rfl (wz rfl rfl (wz rfl rfl (wz rfl rfl (wv (r:=rB false) (A7 (b:=false) rfl rfl rfl) (wm rfl (Cg JB (Es false i (ov (BN false i)) (GX (Cr ht hb))) rfl (wa rfl (Aj ?_))))))))))))
     exact BM hb
   refine Aq (Ac ?_)
   obtain rfl:=As hu
   exact Ap (BW Rn (A4 rfl)) sN ⟨rfl,rfl⟩
  ·refine An (AF (Ai (Ae (vF B2 rfl Eh (vL 0 E3 rfl (wv (Bx rfl rfl) (Ak (cz ho rfl (λhw hx=>?_) (λhw hy=>?_)))))))))
   ·refine ck hx λhz h0=>ck h0 λh1 h2=>ck h2 λh5 h7=>ck h7 λh8 hA=>ck hA λhB hC=>A6 [(4,rI .i64 (bif decide (((Am v i).fInt)=0) then(bif decide (((Am v i).fStr)=([]:Ag)) then(ov (BN (decide (((Am v i).fN)=0)) i)) else(ov (BN false i))) else(bif decide (((Am v i).fInt)=1) then(bif decide (((Am v i).fStr)=([]:Ag)) then(ov (BN (decide (((Am v i).fN)=0)) i)) else(ov (BN false i))) else(ov (BN false i)))))] [] ?_ ?_
    ·refine Af (vF B2 rfl Cq (vL 0 CU rfl (wv (Bx rfl rfl) (wm rfl (AI (decide (((Am v i).fInt)=0)) (λha=>?_) (λha=>?_))))))
     ·refine wf ha (wf ha (wf ha (wv (r:=rB true) (Au rfl ha rfl) (wm rfl (Bg (b:=true) rfl rfl rfl (vF B2 rfl CD (Bg (b:=true) rfl rfl rfl (vL 0 Dm rfl (Bg (b:=true) rfl rfl rfl (wv (Ef rfl rfl) (wv (r:=rB (decide (((Am v i).fStr)=([]:Ag)))) (Au (b:=true) rfl rfl rfl) (wm rfl (AI (decide (((Am v i).fStr)=([]:Ag))) (λhf=>?_) (λhf=>?_))))))))))))))
      ·refine wo hf (vF B2 rfl Cq (wo hf (vL 0 CU rfl (wo hf (wv (Bx rfl rfl) (EF rfl hf rfl (wm rfl (Cg JB (Es (decide (((Am v i).fN)=0)) i (ov (BN (decide (((Am v i).fN)=0)) i)) (GX (C2 (C2 hz ha) hf))) rfl (wa rfl (Aj ?_))))))))))
       exact BM (And.intro ha hf)
      ·refine wf hf (wf hf (wf hf (wv (r:=rB false) (A7 rfl hf rfl) (wm rfl (Cg JB (Es false i (ov (BN false i)) (GX (Cr (C2 h1 ha) hf))) rfl (wa rfl (Aj ?_)))))))
       exact BM (And.intro ha hf)
     ·refine wo ha (vF B2 rfl Cq (wo ha (vL 0 CU rfl (wo ha (wv (Bx rfl rfl) (DR rfl ha rfl (wm rfl (AI (decide (((Am v i).fInt)=1)) (λhd=>?_) (λhd=>?_)))))))))
      ·refine wo hd (vF B2 rfl CD (wo hd (vL 0 Dm rfl (wo hd (wv (Ef rfl rfl) (EF rfl hd rfl (wm rfl (AI (decide (((Am v i).fStr)=([]:Ag))) (λhg=>?_) (λhg=>?_)))))))))
       ·refine wo hg (vF B2 rfl Cq (wo hg (vL 0 CU rfl (wo hg (wv (Bx rfl rfl) (EF rfl hg rfl (wm rfl (Cg JB (Es (decide (((Am v i).fN)=0)) i (ov (BN (decide (((Am v i).fN)=0)) i)) (GX (C2 (C2 (Cr h5 ha) hd) hg))) rfl (wa rfl (Aj ?_))))))))))
        exact BM (And.intro ha (And.intro hd hg))
       ·refine wf hg (wf hg (wf hg (wv (r:=rB false) (A7 rfl hg rfl) (wm rfl (Cg JB (Es false i (ov (BN false i)) (GX (Cr (C2 (Cr h8 ha) hd) hg))) rfl (wa rfl (Aj ?_)))))))
        exact BM (And.intro ha (And.intro hd hg))
      ·refine wf hd (wf hd (wf hd (wv (r:=rB false) (A7 rfl hd rfl) (wm rfl (wz rfl rfl (wz rfl rfl (wz rfl rfl (wv (r:=rB false) (A7 (b:=false) rfl rfl rfl) (wm rfl (Cg JB (Es false i (ov (BN false i)) (GX (Cr (Cr hB ha) hd))) rfl (wa rfl (Aj ?_))))))))))))
       exact BM (And.intro ha hd)
    refine Aq (Ac ?_)
    obtain rfl:=As hC
    exact Ap (BW Rn (A4 rfl)) sN ⟨rfl,rfl⟩
   ·refine An (AF (Ai (Ae (vF B2 rfl Eh (vL 0 E3 rfl (wv (Bx rfl rfl) (Ak (cz hy rfl (λhD hE=>?_) (λhD hG=>?_)))))))))
    ·refine ck hE λhH hI=>ck hI λhJ hK=>A6 [(4,rI .i64 (bif decide (((Am v i).fStr)=([]:Ag)) then(ov (BN (decide (((Am v i).fN)=0)) i)) else(ov (BN false i))))] [] ?_ ?_
     ·refine Af (vF B2 rfl CD (vL 0 Dm rfl (wv (Ef rfl rfl) (wm rfl (AI (decide (((Am v i).fStr)=([]:Ag))) (λhh=>?_) (λhh=>?_))))))
      ·refine wo hh (vF B2 rfl Cq (wo hh (vL 0 CU rfl (wo hh (wv (Bx rfl rfl) (EF rfl hh rfl (wm rfl (Cg JB (Es (decide (((Am v i).fN)=0)) i (ov (BN (decide (((Am v i).fN)=0)) i)) (GX (C2 hH hh))) rfl (wa rfl (Aj ?_))))))))))
       exact BM hh
      ·refine wf hh (wf hh (wf hh (wv (r:=rB false) (A7 rfl hh rfl) (wm rfl (Cg JB (Es false i (ov (BN false i)) (GX (Cr hJ hh))) rfl (wa rfl (Aj ?_)))))))
       exact BM hh
     refine Aq (Ac ?_)
     obtain rfl:=As hK
     exact Ap (BW Rn (A4 rfl)) sN ⟨rfl,rfl⟩
    ·refine An (AF (Ai (Ae (vF B2 rfl Eh (vL 0 E3 rfl (wv (Bx rfl rfl) (Ak (cz hG rfl (λhL hN=>?_) (λhL hO=>?_)))))))))
     ·refine Ae (wv (B0 (i:=0) Mx Ch rfl rfl rfl rfl) (ob hN λhn hP hQ=>Cg Tryz.call128 (WY F (Am v i) hn hP) rfl (wm rfl (ob hQ λhR hS hT=>Cg JB (Es hn i hR hS) rfl (wa rfl (Ak (Aq (Ac ?_))))))))
      obtain rfl:=As hT
      exact Ap (BW Rn (A4 rfl)) (sS sN) ⟨rfl,rfl⟩
     ·refine An (AF (Ai (A6 [(0,AV 4 (List.map Ab v)),(1,rI .i64 i),(5,rP b7 0),(96,rB ((decide (((Am v i).fKind)=5))&&((decide (((Am v i).fInt)=0))&&((decide (((Am v i).fStr)=([]:Ag)))&&(decide (0≤((Am v i).fN)))))))] [.blk b7 (Ab (Am v i)) 78] ?_ ?_)))
      ·refine Af (vF B2 rfl Eh (vL 0 E3 rfl (wv (Bx rfl rfl) (wm rfl (AI (decide (((Am v i).fKind)=5)) (λc53=>?_) (λc53=>?_))))))
       ·refine wo c53 (vF B2 rfl Cq (wo c53 (vL 0 CU rfl (wo c53 (wv (Bx rfl rfl) (EF rfl c53 rfl (wm rfl (AI (decide (((Am v i).fInt)=0)) (λhj=>?_) (λhj=>?_)))))))))
        ·refine wo hj (vF B2 rfl CD (wo hj (vL 0 Dm rfl (wo hj (wv (Ef rfl rfl) (EF rfl hj rfl (wm rfl (AI (decide (((Am v i).fStr)=([]:Ag))) (λhl=>?_) (λhl=>?_)))))))))
         ·refine wo hl (vF B2 rfl Cq (wo hl (vL 0 CU rfl (wo hl (wv (G0 rfl rfl) (EF rfl hl rfl (Aj ?_)))))))
          exact BM (And.intro c53 (And.intro hj hl))
         ·refine wf hl (wf hl (wf hl (wv (r:=rB false) (A7 rfl hl rfl) (Aj ?_))))
          exact BM (And.intro c53 (And.intro hj hl))
        ·refine wf hj (wf hj (wf hj (wv (r:=rB false) (A7 rfl hj rfl) (wm rfl (wz rfl rfl (wz rfl rfl (wz rfl rfl (wv (r:=rB false) (A7 (b:=false) rfl rfl rfl) (Aj ?_)))))))))
         exact BM (And.intro c53 hj)
       ·refine wf c53 (wf c53 (wf c53 (wv (r:=rB false) (A7 rfl c53 rfl) (wm rfl (wz rfl rfl (wz rfl rfl (wz rfl rfl (wv (r:=rB false) (A7 (b:=false) rfl rfl rfl) (wm rfl (wz rfl rfl (wz rfl rfl (wz rfl rfl (wv (r:=rB false) (A7 (b:=false) rfl rfl rfl) (Aj ?_))))))))))))))
        exact BM c53
      refine cz hO rfl (λhU hV=>?_) (λhU hW=>?_)
      ·refine Ae (wm rfl (wm rfl (ck hV λhX hY=>wv (AX rfl rfl hX) (vF B2 rfl Cq (vL 0 CU rfl (ob hY λhZ ga gb=>Cg Tryz.call129 (ih_rElements v (i+1) ((Am v i).fN) hZ ga) rfl (wa rfl (Ak (Aq (Ac ?_))))))))))
       obtain rfl:=As gb
       exact Ap (BW Rn (A4 rfl)) (sS sN) ⟨rfl,rfl⟩
      ·refine An (AF (Ai (A6 [(0,AV 4 (List.map Ab v)),(1,rI .i64 i),(5,rP b7 0),(120,rB ((decide (((Am v i).fKind)=6))&&((decide (((Am v i).fInt)=0))&&((decide (((Am v i).fStr)=([]:Ag)))&&(decide (0≤((Am v i).fN)))))))] [.blk b7 (Ab (Am v i)) 78] ?_ ?_)))
       ·refine Af (vF B2 rfl Eh (vL 0 E3 rfl (wv (Bx rfl rfl) (wm rfl (AI (decide (((Am v i).fKind)=6)) (λhi=>?_) (λhi=>?_))))))
        ·refine wo hi (vF B2 rfl Cq (wo hi (vL 0 CU rfl (wo hi (wv (Bx rfl rfl) (EF rfl hi rfl (wm rfl (AI (decide (((Am v i).fInt)=0)) (λhk=>?_) (λhk=>?_)))))))))
         ·refine wo hk (vF B2 rfl CD (wo hk (vL 0 Dm rfl (wo hk (wv (Ef rfl rfl) (EF rfl hk rfl (wm rfl (AI (decide (((Am v i).fStr)=([]:Ag))) (λhm=>?_) (λhm=>?_)))))))))
          ·refine wo hm (vF B2 rfl Cq (wo hm (vL 0 CU rfl (wo hm (wv (G0 rfl rfl) (EF rfl hm rfl (Aj ?_)))))))
           exact BM (And.intro hi (And.intro hk hm))
          ·refine wf hm (wf hm (wf hm (wv (r:=rB false) (A7 rfl hm rfl) (Aj ?_))))
           exact BM (And.intro hi (And.intro hk hm))
         ·refine wf hk (wf hk (wf hk (wv (r:=rB false) (A7 rfl hk rfl) (wm rfl (wz rfl rfl (wz rfl rfl (wz rfl rfl (wv (r:=rB false) (A7 (b:=false) rfl rfl rfl) (Aj ?_)))))))))
          exact BM (And.intro hi hk)
        ·refine wf hi (wf hi (wf hi (wv (r:=rB false) (A7 rfl hi rfl) (wm rfl (wz rfl rfl (wz rfl rfl (wz rfl rfl (wv (r:=rB false) (A7 (b:=false) rfl rfl rfl) (wm rfl (wz rfl rfl (wz rfl rfl (wz rfl rfl (wv (r:=rB false) (A7 (b:=false) rfl rfl rfl) (Aj ?_))))))))))))))
         exact BM hi
       refine cz hW rfl (λgc gd=>?_) (λgc ge=>?_)
       ·refine Ae (wm rfl (wm rfl (ck gd λgf gg=>wv (AX rfl rfl gf) (vF B2 rfl Cq (vL 0 CU rfl (ob gg λgh gi gj=>Cg Tryz.call130 (ih_rPairs v (i+1) ((Am v i).fN) gh gi) rfl (wa rfl (Ak (Aq (Ac ?_))))))))))
        obtain rfl:=As gj
        exact Ap (BW Rn (A4 rfl)) (sS sN) ⟨rfl,rfl⟩
       ·refine An (AF (Ae (wv (r:=rI .i64 (-1)) (Ao rfl) (Ak (Aq ?_)))))
        obtain rfl:=As ge
        exact Ap (BW Rn (A4 rfl)) (sS sN) ⟨rfl,rfl⟩
theorem Q8 (F:Nat) (rec_rNext:(List Aa)→Int→Option (Int)) (ih_rNext:(∀(v:(List Aa)) (i:Int) (r:Int),rec_rNext v i=some r→Fn Tryz.prog GE 93 [AV 4 (List.map Ab v),rI .i64 i] [] (λR H=>R=rI .i64 r∧H=[]))) (v:(List Aa)) (i:Int) (n:Int) (r:Int) (h:Jl F rec_rNext v i n=some r):Fn Tryz.prog GE 129 [AV 4 (List.map Ab v),rI .i64 i,rI .i64 n] [] (λR H=>R=rI .i64 r∧H=[]):=by
 refine enter (n:=19) Tryz.func129 rfl Tryz.ntmps129 rfl (λw Z=>?_)
 unfold Jl at h
 refine Ae (wa rfl (Ak (Ai (Ae (wa rfl (Ak (AB (ob h λhj hk hg=>Bk (S:=Nat×(Int×Int)×(Unit)) (V:=(Int)×(Unit)) 0 (λσ=>BF (λσ=>Df v n rec_rNext σ.1 σ.2) σ.1 σ.2.1=some hj) (λσ=>[(0,AV 4 (List.map Ab v)),(1,rI .i64 σ.2.1.1),(2,rI .i64 n),(6,rI .i64 0),(7,rI .i64 σ.2.1.2)]) (λσ=>[]) (λσ=>σ.1) (F,(i,0),()) hk (AC.c5 rfl rfl rfl rfl rfl AC.nil) sN (λσ=>E8 σ.1=some r) (λσ=>[(1,rI .i64 σ.1),(6,rI .i64 0)]) (λσ=>[]) ?_ ?_))))))))
 ·rintro⟨h0,⟨ha,he⟩,⟨⟩⟩ hl
  refine BO (l':=[(0,AV 4 (List.map Ab v)),(1,rI .i64 ha),(2,rI .i64 n),(6,rI .i64 0),(7,rI .i64 he)]) (H':=[]) rfl rfl ?_
  obtain⟨hm,rfl,hn,hb,hf⟩:=Ce hl
  replace hb:Df v n rec_rNext ha he=some hn:=hb
  unfold Df at hb
  refine Ai (Ae (wm rfl (wm rfl (wv (BY rfl rfl) (Ak (cz hb rfl (λc46 ho=>?_) (λc46 hp=>?_)))))))
  ·refine An (AF (Ai (AB (Ae (wm rfl (wm rfl (ob ho λhh hq hr=>Cg Oc (ih_rNext v ha hh hq) rfl (wa rfl (Bf (wm rfl (wv (BY rfl rfl) (Ak (cz hr rfl (λc51 hs=>?_) (λc51 ht=>?_))))))))))))))
   ·refine Ae (wv (r:=rI .i64 (-1)) (Ao rfl) (Ak (Aq (Av (Ac (Ac (AS ?_)))))))
    have hu:=Bm hs hf hg
    refine Av (Ac ?_)
    obtain rfl:=As hu
    exact Ap (BW Tryz.results129 (A4 rfl)) sN ⟨rfl,rfl⟩
   ·refine An (A8 (AF (Af (wm rfl (ck ht λhw hx=>wv (AX rfl rfl hw) (wa rfl (Aj ?_)))))))
    have hy:=Bb hx hf
    exact Ar (A3 (hm,(hh,he+1),()) ⟨hy,AcL _⟩ (AC.c5 rfl rfl rfl rfl rfl AC.nil) sN)
  ·refine Bo (At ?_)
   have hz:=BI hp hf hg
   exact At (Bc (A3 (ha,()) hz (AC.c rfl (AC.c rfl AC.nil)) sN))
 ·rintro⟨hi,⟨⟩⟩ hd
  refine Cf (l':=[(1,rI .i64 hi),(6,rI .i64 0)]) (H':=[]) rfl rfl ?_
  replace hd:E8 hi=some r:=hd
  unfold E8 at hd
  refine AZ (AF (Ae (wm rfl (wa rfl (Ak (Aq ?_))))))
  obtain rfl:=As hd
  exact Ap (BW Tryz.results129 (A4 rfl)) sN ⟨rfl,rfl⟩
theorem Ve (F:Nat) (rec_rNext:(List Aa)→Int→Option (Int)) (ih_rNext:(∀(v:(List Aa)) (i:Int) (r:Int),rec_rNext v i=some r→Fn Tryz.prog GE 93 [AV 4 (List.map Ab v),rI .i64 i] [] (λR H=>R=rI .i64 r∧H=[]))) (v:(List Aa)) (i:Int) (n:Int) (r:Int) (h:NI F rec_rNext v i n=some r):Fn Tryz.prog GE 130 [AV 4 (List.map Ab v),rI .i64 i,rI .i64 n] [] (λR H=>R=rI .i64 r∧H=[]):=by
 refine enter (n:=51) Tryz.func130 rfl Tryz.ntmps130 rfl (λw Z=>?_)
 unfold NI at h
 refine Ae (wa rfl (Bf (wv (r:=rS ([]:Ag)) (Ao rfl) (Ak (Ai (Ae (wa rfl (Ak (AB (ob h λho hp hk=>Bk (S:=Nat×(Int×Ag×Int)×(Unit)) (V:=(Int)×(Unit)) 0 (λσ=>BF (λσ=>DJ F v n rec_rNext σ.1 σ.2.1 σ.2.2) σ.1 σ.2.1=some ho) (λσ=>[(0,AV 4 (List.map Ab v)),(1,rI .i64 σ.2.1.1),(2,rI .i64 n),(7,rS σ.2.1.2.1),(8,rI .i64 σ.2.1.2.2)]) (λσ=>[]) (λσ=>σ.1) (F,(i,([]:Ag),0),()) hp (AC.c5 rfl rfl rfl rfl rfl AC.nil) sN (λσ=>H7 σ.1=some r) (λσ=>[(1,rI .i64 σ.1)]) (λσ=>[]) ?_ ?_))))))))))
 ·rintro⟨hJ,⟨he,hg,hf⟩,⟨⟩⟩ hq
  refine BO (l':=[(0,AV 4 (List.map Ab v)),(1,rI .i64 he),(2,rI .i64 n),(7,rS hg),(8,rI .i64 hf)]) (H':=[]) rfl rfl ?_
  obtain⟨hr,rfl,hs,hh,hi⟩:=Ce hq
  replace hh:DJ F v n rec_rNext he hg hf=some hs:=hh
  unfold DJ at hh
  refine Ai (Ae (wm rfl (wm rfl (wv (BY rfl rfl) (Ak (cz hh rfl (λht hu=>?_) (λht hw=>?_)))))))
  ·refine An (AF (Ai (AB (Ai (ck hu λhl hx=>ck hx λhy hz=>A6 [(0,AV 4 (List.map Ab v)),(1,rI .i64 he),(2,rI .i64 n),(8,rI .i64 hf),(38,rB ((decide ((v.length:Int)≤he))||((!(ov (Px F (Am v he))))||((decide (0<hf))&&(Ci ((Am v he).fStr) hg||decide (((Am v he).fStr)=hg))))))] [] ?_ ?_)))))
   ·refine Af (wm rfl (wm rfl (wv (Bv (ys:=v) (enc:=Ab) BP rfl) (wv (G0 rfl rfl) (wm rfl (AI (decide ((v.length:Int)≤he)) (λha=>?_) (λha=>?_)))))))
    ·refine wf ha (wf ha (wf ha (wf ha (wf ha (wf ha (wv (r:=rB true) (Au rfl ha rfl) (wm rfl (wz rfl rfl (wz rfl rfl (wz rfl rfl (wu (wu (wu (wu (wu (wu (wu (wz rfl rfl (wv (r:=rB true) (Au (b:=true) rfl rfl rfl) (Aj ?_))))))))))))))))))))
     exact BM ha
    ·refine wo ha (wm rfl (wo ha (wm rfl (wo ha (wv (Bh (enc:=Ab) (ys:=v) BP Ch rfl rfl (Cr hl ha)) (wo ha (wv (D1 Mx Ch rfl rfl rfl) (wo ha (Cg Tryz.call128 (WY F (Am v he) (ov (Px F (Am v he))) (GX (Cr hy ha))) rfl (wo ha (wv (Cd rfl) (DR rfl ha rfl (wm rfl (AI (!(ov (Px F (Am v he)))) (λhd=>?_) (λhd=>?_)))))))))))))))
     ·refine wf hd (wf hd (wf hd (wu (wu (wu (wu (wu (wu (wu (wf hd (wv (r:=rB true) (Au rfl hd rfl) (Aj ?_))))))))))))
      exact BM (And.intro ha hd)
     ·refine wo hd (wm rfl (wo hd (wv (Cb rfl rfl) (wo hd (wm rfl (AI (decide (0<hf)) (λhb=>?_) (λhb=>?_)))))))
      ·refine wo hb (wm rfl (wo hb (wm rfl (wo hb (wv (Bh (enc:=Ab) (ys:=v) BP Ch rfl rfl (Cr hl ha)) (wo hb (wv (AU B2 rfl CD rfl rfl) (wo hb (wv (AY Dm rfl rfl) (wo hb (wm rfl (wo hb (wv (Uf rfl rfl) (wo hd (EF rfl hb rfl (DR rfl hd rfl (Aj ?_)))))))))))))))))
       exact BM (And.intro ha (And.intro hd hb))
      ·refine wf hb (wf hb (wf hb (wf hb (wf hb (wf hb (wf hb (wo hd (wv (r:=rB false) (A7 rfl hb rfl) (DR rfl hd rfl (Aj ?_))))))))))
       exact BM (And.intro ha (And.intro hd hb))
   refine cz hz rfl (λh0 h1=>?_) (λh0 h2=>?_)
   ·refine Ae (wv (r:=rI .i64 (-1)) (Ao rfl) (Ak (Aq (Ac (Av (Ac (Ac (AS ?_))))))))
    have h3:=Bm h1 hi hk
    refine Av (Ac ?_)
    obtain rfl:=As h3
    exact Ap (BW Tryz.results130 (A4 rfl)) sN ⟨rfl,rfl⟩
   ·refine An (AF (Ae (wm rfl (wm rfl (ck h2 λh4 h5=>wv (Bh (enc:=Ab) (ys:=v) BP Ch rfl rfl h4) (wv (AU B2 rfl CD rfl rfl) (wv (AY Dm rfl rfl) (wa rfl (Bf (wm rfl (wm rfl (ck h5 λh6 h7=>wv (AX rfl rfl h6) (ob h7 λhm h8 h9=>Cg Oc (ih_rNext v (he+1) hm h8) rfl (wa rfl (Bf (wm rfl (wv (BY rfl rfl) (Ak (cz h9 rfl (λhA hB=>?_) (λhA hC=>?_))))))))))))))))))))
    ·refine Ae (wv (r:=rI .i64 (-1)) (Ao rfl) (Ak (Aq (Av (Ac (Ac (AS ?_)))))))
     have hD:=Bm hB hi hk
     refine Av (Ac ?_)
     obtain rfl:=As hD
     exact Ap (BW Tryz.results130 (A4 rfl)) sN ⟨rfl,rfl⟩
    ·refine An (A8 (AF (Af (wm rfl (ck hC λhE hG=>wv (AX rfl rfl hE) (wa rfl (Aj ?_)))))))
     have hH:=Bb hG hi
     exact Ar (A3 (hr,(hm,(Am v he).fStr,hf+1),()) ⟨hH,AcL _⟩ (AC.c5 rfl rfl rfl rfl rfl AC.nil) sN)
  ·refine Bo (At ?_)
   have hI:=BI hw hi hk
   exact At (Bc (A3 (he,()) hI (AC.c rfl AC.nil) sN))
 ·rintro⟨hn,⟨⟩⟩ hj
  refine Cf (l':=[(1,rI .i64 hn)]) (H':=[]) rfl rfl ?_
  replace hj:H7 hn=some r:=hj
  unfold H7 at hj
  refine AZ (AF (Ae (wm rfl (wa rfl (Ak (Aq ?_))))))
  obtain rfl:=As hj
  exact Ap (BW Tryz.results130 (A4 rfl)) sN ⟨rfl,rfl⟩
theorem II:∀F:Nat,(∀(v:(List Aa)) (i:Int) (r:Int),DO F v i=some r→Fn Tryz.prog GE 93 [AV 4 (List.map Ab v),rI .i64 i] [] (λR H=>R=rI .i64 r∧H=[]))∧(∀(v:(List Aa)) (i:Int) (n:Int) (r:Int),H8 F v i n=some r→Fn Tryz.prog GE 129 [AV 4 (List.map Ab v),rI .i64 i,rI .i64 n] [] (λR H=>R=rI .i64 r∧H=[]))∧(∀(v:(List Aa)) (i:Int) (n:Int) (r:Int),M7 F v i n=some r→Fn Tryz.prog GE 130 [AV 4 (List.map Ab v),rI .i64 i,rI .i64 n] [] (λR H=>R=rI .i64 r∧H=[]))
  | 0=>⟨(λ_ _ _ h=>by simp[DO] at h),(λ_ _ _ _ h=>by simp[H8] at h),(λ_ _ _ _ h=>by simp[M7] at h)⟩
  | nn+1=>⟨(λv i r h=>WX nn (H8 nn) (M7 nn) (II nn).2.1 (II nn).2.2 v i r (by rw[DO] at h;exact h)),(λv i n r h=>Q8 nn (DO nn) (II nn).1 v i n r (by rw[H8] at h;exact h)),(λv i n r h=>Ve nn (DO nn) (II nn).1 v i n r (by rw[M7] at h;exact h))⟩
theorem Hw (F:Nat) (v:(List Aa)) (i:Int) (r:Int) (h:DO F v i=some r):Fn Tryz.prog GE 93 [AV 4 (List.map Ab v),rI .i64 i] [] (λR H=>R=rI .i64 r∧H=[]):=(II F).1 v i r h
theorem Vi (F:Nat) (v:(List Aa)) (r:Bool) (h:LB F v=some r):Fn Tryz.prog GE 82 [AV 4 (List.map Ab v)] [] (λR H=>R=rB r∧H=[]):=by
 refine enter (n:=13) Tryz.func82 rfl Tryz.ntmps82 rfl (λw Z=>?_)
 unfold LB at h
 refine Ae (wa rfl (Ak (ck h λg1 h2=>A6 [(2,rB ((decide (0<(v.length:Int)))&&(decide ((ov (DO F v 0))=(v.length:Int)))))] [] ?_ ?_)))
 ·refine Af (wm rfl (wv (Bv (ys:=v) (enc:=Ab) BP rfl) (wv (Cb rfl rfl) (wm rfl (AI (decide (0<(v.length:Int))) (λc3=>?_) (λc3=>?_))))))
  ·refine wo c3 (wm rfl (wo c3 (Cg Oc (Hw F v 0 (ov (DO F v 0)) (GX (C2 g1 c3))) rfl (wo c3 (wm rfl (wo c3 (wv (Bv (ys:=v) (enc:=Ab) BP rfl) (wo c3 (wv (Bx rfl rfl) (EF rfl c3 rfl (wa rfl (Aj ?_))))))))))))
   exact BM c3
  ·refine wf c3 (wf c3 (wf c3 (wf c3 (wf c3 (wv (r:=rB false) (A7 rfl c3 rfl) (wa rfl (Aj ?_)))))))
   exact BM c3
 refine Aq ?_
 obtain rfl:=As h2
 exact Ap (BW Tryz.results82 (A4 rfl)) sN ⟨rfl,rfl⟩
theorem Tg (F:Nat) (rec_rLevels:(List Aa)→Int→Option (Int)) (ih_rLevels:(∀(v:(List Aa)) (i:Int) (r:Int),rec_rLevels v i=some r→Fn Tryz.prog GE 83 [AV 4 (List.map Ab v),rI .i64 i] [] (λR H=>R=rI .i64 r∧H=[]))) (v:(List Aa)) (i:Int) (r:Int) (h:IJ F rec_rLevels v i=some r):Fn Tryz.prog GE 83 [AV 4 (List.map Ab v),rI .i64 i] [] (λR H=>R=rI .i64 r∧H=[]):=by
 refine enter (n:=47) Tryz.func83 rfl Tryz.ntmps83 rfl (λw Z=>?_)
 unfold IJ at h
 refine Ae (wa rfl (Bf (wm rfl (wm rfl (ck h λg1 h2=>wv (Bh (enc:=Ab) (ys:=v) BP Ch rfl rfl g1) (wv (D1 Mx Ch rfl rfl rfl) (BT (cs:=[rI .i64 0,rI .i64 0,rS ([]:Ag),rI .i64 0]) EH rfl rfl (λb3=>?_))))))))
 refine Bj (i:=0) Ch rfl rfl rfl (BE.c rfl) rfl rfl (cs':=[rI .i64 ((Am v i).fKind),rI .i64 ((Am v i).fInt),rS ((Am v i).fStr),rI .i64 ((Am v i).fN)]) rfl (H':=[.blk b3 (Ab (Am v i)) 78]) rfl (Ak (Ai (A6 [(0,AV 4 (List.map Ab v)),(1,rI .i64 i),(5,rP b3 0),(21,rB ((!decide (((Am v i).fKind)=5))&&(!decide (((Am v i).fKind)=6))))] [.blk b3 (Ab (Am v i)) 78] ?_ ?_)))
 ·refine Af (vF B2 rfl Eh (vL 0 E3 rfl (wv (CB rfl rfl) (wm rfl (AI (!decide (((Am v i).fKind)=5)) (λc4=>?_) (λc4=>?_))))))
  ·refine wo c4 (vF B2 rfl Eh (wo c4 (vL 0 E3 rfl (wo c4 (wv (CB rfl rfl) (EF rfl c4 rfl (Aj ?_)))))))
   exact BM c4
  ·refine wf c4 (wf c4 (wf c4 (wv (r:=rB false) (A7 rfl c4 rfl) (Aj ?_))))
   exact BM c4
 refine cz h2 rfl (λc5 h6=>?_) (λc5 h7=>?_)
 ·refine Ae (wa rfl (Ak (Aq (Ac ?_))))
  obtain rfl:=As h6
  exact Ap (BW Tryz.results83 (A4 rfl)) (sS sN) ⟨rfl,rfl⟩
 ·refine An (AF (Ae (wa rfl (Bf (wm rfl (ck h7 λg8 h9=>wv (AX rfl rfl g8) (wa rfl (Ak (Ai (Ae (wa rfl (Ak (AB (ob h9 λhp hq hr=>Bk (S:=Nat×(Int×Int×Int)×(Unit)) (V:=(Int)×(Unit)) 0 (λσ=>BF (λσ=>CY F v i rec_rLevels σ.1 σ.2.1 σ.2.2) σ.1 σ.2.1=some hp) (λσ=>[(0,AV 4 (List.map Ab v)),(5,rP b3 0),(6,rI .i64 σ.2.1.1),(7,rI .i64 σ.2.1.2.1),(8,rI .i64 σ.2.1.2.2)]) (λσ=>[.blk b3 (Ab (Am v i)) 78]) (λσ=>σ.1) (F,(0,i+1,0),()) hq (AC.c5 rfl rfl rfl rfl rfl AC.nil) (sC sN) (λσ=>Er σ.1=some r) (λσ=>[(6,rI .i64 σ.1)]) (λσ=>[]) ?_ ?_))))))))))))))
  ·rintro⟨gg,⟨hd,ha,hb⟩,⟨⟩⟩ hs
   refine BO (l':=[(0,AV 4 (List.map Ab v)),(5,rP b3 0),(6,rI .i64 hd),(7,rI .i64 ha),(8,rI .i64 hb)]) (H':=[.blk b3 (Ab (Am v i)) 78]) rfl rfl ?_
   obtain⟨hf,rfl,ht,hg,he⟩:=Ce hs
   replace hg:CY F v i rec_rLevels hd ha hb=some ht:=hg
   unfold CY at hg
   refine Ai (Ae (wm rfl (vF B2 rfl Cq (vL 0 CU rfl (wv (BY rfl rfl) (Ak (cz hg rfl (λhu hw=>?_) (λhu hx=>?_))))))))
   ·refine An (AF (Ai (AB (Ai (Ae (vF B2 rfl Eh (vL 0 E3 rfl (wv (Bx rfl rfl) (Ak (cz hw rfl (λhy hz=>?_) (λhy h0=>?_)))))))))))
    ·refine Af (wm rfl (ck hz λh1 h3=>wv (AX rfl rfl h1) (wa rfl (Bf (wm rfl (wm rfl (ob h3 λhi h4 h5=>Cg Tryz.call83 (ih_rLevels v (ha+1) hi h4) rfl (wa rfl (Ak (Ai (Ae (wm rfl (wm rfl (wv (Cb rfl rfl) (Ak (cz h5 rfl (λh8 hA=>?_) (λh8 hB=>?_)))))))))))))))))
     ·refine Af (wm rfl (wa rfl (Ak (Af (wm rfl (wm rfl (ob hA λhj hC hD=>Cg Oc (Hw F v (ha+1) hj hC) rfl (wa rfl (Aj (A8 (AF (Af (wm rfl (ck hD λhE hG=>wv (AX rfl rfl hE) (wa rfl (Aj ?_))))))))))))))))
      have hH:=Bb hG he
      exact Ar (A3 (hf,(hi,hj,hb+1),()) ⟨hH,AcL _⟩ (AC.c5 rfl rfl rfl rfl rfl AC.nil) (sC sN))
     ·refine An (AF (Af (wm rfl (wm rfl (ob hB λhk hI hJ=>Cg Oc (Hw F v (ha+1) hk hI) rfl (wa rfl (Aj (A8 (AF (Af (wm rfl (ck hJ λhK hL=>wv (AX rfl rfl hK) (wa rfl (Aj ?_))))))))))))))
      have hN:=Bb hL he
      exact Ar (A3 (hf,(hd,hk,hb+1),()) ⟨hN,AcL _⟩ (AC.c5 rfl rfl rfl rfl rfl AC.nil) (sC sN))
    ·refine An (AF (Ae (wm rfl (wm rfl (ob h0 λhl hO hP=>Cg Tryz.call83 (ih_rLevels v ha hl hO) rfl (wa rfl (Ak (Ai (Ae (wm rfl (wm rfl (wv (Cb rfl rfl) (Ak (cz hP rfl (λhQ hR=>?_) (λhQ hS=>?_)))))))))))))))
     ·refine Af (wm rfl (wa rfl (Ak (Af (wm rfl (wm rfl (ob hR λhm hT hU=>Cg Oc (Hw F v ha hm hT) rfl (wa rfl (Aj (A8 (AF (Af (wm rfl (ck hU λhV hW=>wv (AX rfl rfl hV) (wa rfl (Aj ?_))))))))))))))))
      have hX:=Bb hW he
      exact Ar (A3 (hf,(hl,hm,hb+1),()) ⟨hX,AcL _⟩ (AC.c5 rfl rfl rfl rfl rfl AC.nil) (sC sN))
     ·refine An (AF (Af (wm rfl (wm rfl (ob hS λhn hY hZ=>Cg Oc (Hw F v ha hn hY) rfl (wa rfl (Aj (A8 (AF (Af (wm rfl (ck hZ λga gb=>wv (AX rfl rfl ga) (wa rfl (Aj ?_))))))))))))))
      have gc:=Bb gb he
      exact Ar (A3 (hf,(hd,hn,hb+1),()) ⟨gc,AcL _⟩ (AC.c5 rfl rfl rfl rfl rfl AC.nil) (sC sN))
   ·refine Bo (At ?_)
    have gd:=BI hx he hr
    exact At (Bc (A3 (hd,()) gd (AC.c rfl AC.nil) (sS sN)))
  ·rintro⟨ho,⟨⟩⟩ hh
   refine Cf (l':=[(6,rI .i64 ho)]) (H':=[]) rfl rfl ?_
   replace hh:Er ho=some r:=hh
   unfold Er at hh
   refine AZ (AF (Ae (wm rfl (ck hh λge gf=>wv (AX rfl rfl ge) (wa rfl (Ak (Aq ?_)))))))
   obtain rfl:=As gf
   exact Ap (BW Tryz.results83 (A4 rfl)) sN ⟨rfl,rfl⟩
theorem Nl:∀F:Nat,(∀(v:(List Aa)) (i:Int) (r:Int),Ds F v i=some r→Fn Tryz.prog GE 83 [AV 4 (List.map Ab v),rI .i64 i] [] (λR H=>R=rI .i64 r∧H=[]))
  | 0=>(λ_ _ _ h=>by simp[Ds] at h)
  | nn+1=>(λv i r h=>Tg nn (Ds nn) (Nl nn) v i r (by rw[Ds] at h;exact h))
theorem Vg (F:Nat) (v:(List Aa)) (i:Int) (r:Int) (h:Ds F v i=some r):Fn Tryz.prog GE 83 [AV 4 (List.map Ab v),rI .i64 i] [] (λR H=>R=rI .i64 r∧H=[]):=(Nl F) v i r h
theorem M6 (F:Nat) (s:Ag) (r:Ag) (h:Jk F s=some r):Fn Tryz.prog GE 92 [rS s] [] (λR H=>R=rS r∧H=[]):=by
 refine enter (n:=32) Tryz.func92 rfl Tryz.ntmps92 rfl (λw Z=>?_)
 unfold Jk at h
 refine Ae (wv (r:=rS ([]:Ag)) (Ao rfl) (Bf (wv (r:=rS ([34]:Ag)) (Ao rfl) (Ak (Ai (Ae (wa rfl (Ak (AB (ob h λhm hn ho=>Bk (S:=Nat×(Ag×Int)×(Unit)) (V:=(Ag)×(Unit)) 0 (λσ=>BF (λσ=>Do s σ.1 σ.2) σ.1 σ.2.1=some hm) (λσ=>[(0,rS s),(3,rS σ.2.1.1),(4,rI .i64 σ.2.1.2)]) (λσ=>[]) (λσ=>σ.1) (F,(([34]:Ag),0),()) hn (AC.c rfl (AC.c rfl (AC.c rfl AC.nil))) sN (λσ=>DV σ.1=some r) (λσ=>[(3,rS σ.1)]) (λσ=>[]) ?_ ?_))))))))))
 ·rintro⟨hL,⟨hd,ha⟩,⟨⟩⟩ hp
  refine BO (l':=[(0,rS s),(3,rS hd),(4,rI .i64 ha)]) (H':=[]) rfl rfl ?_
  obtain⟨hh,rfl,hq,he,hg⟩:=Ce hp
  replace he:Do s hd ha=some hq:=he
  unfold Do at he
  refine Ai (Ae (wm rfl (wm rfl (wv (AW BC rfl) (wv (BY rfl rfl) (Ak (cz he rfl (λhr hs=>?_) (λhr ht=>?_))))))))
  ·refine An (AF (Ai (AB (Ai (ck hs λhi hu=>A6 [(0,rS s),(3,rS hd),(4,rI .i64 ha),(20,rB ((decide ((AK s ha)=34))||(decide ((AK s ha)=92))))] [] ?_ ?_)))))
   ·refine Af (wm rfl (wm rfl (wv (AO BC rfl rfl hi) (wv (Bx rfl rfl) (wm rfl (AI (decide ((AK s ha)=34)) (λhb=>?_) (λhb=>?_)))))))
    ·refine wf hb (wf hb (wf hb (wf hb (wv (r:=rB true) (Au rfl hb rfl) (Aj ?_)))))
     exact BM hb
    ·refine wo hb (wm rfl (wo hb (wm rfl (wo hb (wv (AO BC rfl rfl hi) (wo hb (wv (Bx rfl rfl) (DR rfl hb rfl (Aj ?_)))))))))
     exact BM hb
   refine cz hu rfl (λhw hx=>?_) (λhw hy=>?_)
   ·refine Af (wm rfl (ck hx λhz h0=>wv (CS rfl rfl hz) (wa rfl (Ak (Af (wm rfl (wm rfl (wm rfl (wm rfl (ck h0 λhj h1=>wv (AX rfl rfl hj) (ck h1 λh2 h3=>ck h3 λh4 h5=>wv (CK BC rfl rfl rfl h2 h4) (ck h5 λh6 h7=>wv (CS rfl rfl h6) (wa rfl (Aj (A8 (AF (Af (wm rfl ?_))))))))))))))))))
    refine wv (AX rfl rfl hj) (wa rfl (Aj ?_))
    have h8:=Bb h7 hg
    exact Ar (A3 (hh,((hd++([92]:Ag))++(List.take (Int.toNat (ha+1)-Int.toNat ha) (List.drop (Int.toNat ha) s)),ha+1),()) ⟨h8,AcL _⟩ (AC.c rfl (AC.c rfl (AC.c rfl AC.nil))) sN)
   ·refine An (AF (Af (wm rfl (wm rfl (wm rfl (wm rfl (ck hy λhk h9=>wv (AX rfl rfl hk) (ck h9 λhA hB=>ck hB λhC hD=>wv (CK BC rfl rfl rfl hA hC) (ck hD λhE hG=>wv (CS rfl rfl hE) (wa rfl (Aj (A8 (AF (Af (wm rfl (wv (AX rfl rfl hk) (wa rfl (Aj ?_))))))))))))))))))
    have hH:=Bb hG hg
    exact Ar (A3 (hh,(hd++(List.take (Int.toNat (ha+1)-Int.toNat ha) (List.drop (Int.toNat ha) s)),ha+1),()) ⟨hH,AcL _⟩ (AC.c rfl (AC.c rfl (AC.c rfl AC.nil))) sN)
  ·refine Bo (At ?_)
   have hI:=BI ht hg ho
   exact At (Bc (A3 (hd,()) hI (AC.c rfl AC.nil) sN))
 ·rintro⟨hl,⟨⟩⟩ hf
  refine Cf (l':=[(3,rS hl)]) (H':=[]) rfl rfl ?_
  replace hf:DV hl=some r:=hf
  unfold DV at hf
  refine AZ (AF (Ae (wm rfl (ck hf λhJ hK=>wv (CS rfl rfl hJ) (wa rfl (Ak (Aq ?_)))))))
  obtain rfl:=As hK
  exact Ap (BW Tryz.results92 (A4 rfl)) sN ⟨rfl,rfl⟩
theorem WT (F:Nat) (rec_rText:(List Aa)→Int→Option (Ag)) (ih_rText:(∀(v:(List Aa)) (i:Int) (r:Ag),rec_rText v i=some r→Fn Tryz.prog GE 69 [AV 4 (List.map Ab v),rI .i64 i] [] (λR H=>R=rS r∧H=[]))) (v:(List Aa)) (i:Int) (r:Ag) (h:M4 F rec_rText v i=some r):Fn Tryz.prog GE 69 [AV 4 (List.map Ab v),rI .i64 i] [] (λR H=>R=rS r∧H=[]):=by
 refine enter (n:=77) Tryz.func69 rfl Tryz.ntmps69 rfl (λw Z=>?_)
 unfold M4 at h
 refine Ae (wv (r:=rS ([]:Ag)) (Ao rfl) (Bf (wm rfl (wm rfl (ck h λg1 h2=>wv (Bh (enc:=Ab) (ys:=v) BP Ch rfl rfl g1) (wv (D1 Mx Ch rfl rfl rfl) (BT (cs:=[rI .i64 0,rI .i64 0,rS ([]:Ag),rI .i64 0]) EH rfl rfl (λb3=>?_))))))))
 refine Bj (i:=0) Ch rfl rfl rfl (BE.c rfl) rfl rfl (cs':=[rI .i64 ((Am v i).fKind),rI .i64 ((Am v i).fInt),rS ((Am v i).fStr),rI .i64 ((Am v i).fN)]) rfl (H':=[.blk b3 (Ab (Am v i)) 78]) rfl (Ak (Ai (Ae (vF B2 rfl Eh (vL 0 E3 rfl (wv (Bx rfl rfl) (Ak (cz h2 rfl (λc4 h5=>?_) (λc4 h6=>?_)))))))))
 ·refine Ae (wv (r:=rS ([110,117,108,108]:Ag)) (Ao rfl) (Ak (Aq (Ac ?_))))
  obtain rfl:=As h5
  exact Ap (BW ST (A4 rfl)) (sS sN) ⟨rfl,rfl⟩
 ·refine An (AF (Ai (Ae (vF B2 rfl Eh (vL 0 E3 rfl (wv (Bx rfl rfl) (Ak (cz h6 rfl (λc7 h8=>?_) (λc7 ht=>?_)))))))))
  ·refine Ai (Ae (vF B2 rfl Cq (vL 0 CU rfl (wv (Bx rfl rfl) (Ak (cz h8 rfl (λc9 hu=>?_) (λc9 hw=>?_)))))))
   ·refine Ae (wv (r:=rS ([116,114,117,101]:Ag)) (Ao rfl) (Ak (Aq (Ac (Ac ?_)))))
    obtain rfl:=As hu
    exact Ap (BW ST (A4 rfl)) (sS sN) ⟨rfl,rfl⟩
   ·refine An (AF (Ae (wv (r:=rS ([102,97,108,115,101]:Ag)) (Ao rfl) (Ak (Aq (Ac ?_))))))
    obtain rfl:=As hw
    exact Ap (BW ST (A4 rfl)) (sS sN) ⟨rfl,rfl⟩
  ·refine An (AF (Ai (Ae (vF B2 rfl Eh (vL 0 E3 rfl (wv (Bx rfl rfl) (Ak (cz ht rfl (λhx hy=>?_) (λhx hz=>?_)))))))))
   ·refine Ae (vF B2 rfl Cq (vL 0 CU rfl (ck hy λg15 h0=>Ie (rs:=[rI .i64 ((Am v i).fInt)]) (r:=rS (Lib.itoa ((Am v i).fInt))) Tryz.call89 rfl (Abd ((Am v i).fInt) g15) rfl rfl (wa rfl (Ak (Aq (Ac ?_)))))))
    obtain rfl:=As h0
    exact Ap (BW ST (A4 rfl)) (sS sN) ⟨rfl,rfl⟩
   ·refine An (AF (Ai (Ae (vF B2 rfl Eh (vL 0 E3 rfl (wv (Bx rfl rfl) (Ak (cz hz rfl (λh1 h3=>?_) (λh1 h4=>?_)))))))))
    ·refine Ae (vF B2 rfl CD (vL 0 Dm rfl (ob h3 λh7 h9 hA=>Cg Tryz.call92 (M6 F ((Am v i).fStr) h7 h9) rfl (wa rfl (Ak (Aq (Ac ?_)))))))
     obtain rfl:=As hA
     exact Ap (BW ST (A4 rfl)) (sS sN) ⟨rfl,rfl⟩
    ·refine An (AF (Ae (wv (r:=rS ([]:Ag)) (Ao rfl) (Bf (wm rfl (ck h4 λhB hC=>wv (AX rfl rfl hB) (wa rfl (Ak (Ai (Ae (wa rfl (Ak (AB (ob hC λhD hE hG=>Bk (S:=Nat×(Ag×Int×Int)×(Unit)) (V:=(Ag)×(Unit)) 0 (λσ=>BF (λσ=>Ep F v i rec_rText σ.1 σ.2.1 σ.2.2) σ.1 σ.2.1=some hD) (λσ=>[(0,AV 4 (List.map Ab v)),(4,rS ([]:Ag)),(5,rP b3 0),(6,rS σ.2.1.1),(7,rI .i64 σ.2.1.2.1),(8,rI .i64 σ.2.1.2.2)]) (λσ=>[.blk b3 (Ab (Am v i)) 78]) (λσ=>σ.1) (F,(([]:Ag),i+1,0),()) hE (AC.c rfl (AC.c5 rfl rfl rfl rfl rfl AC.nil)) (sC sN) (λσ=>HO v i σ.1=some r) (λσ=>[(4,rS ([]:Ag)),(5,rP b3 0),(6,rS σ.1)]) (λσ=>[.blk b3 (Ab (Am v i)) 78]) ?_ ?_))))))))))))))
     ·rintro⟨cf,⟨hb,ha,hd⟩,⟨⟩⟩ hH
      refine BO (l':=[(0,AV 4 (List.map Ab v)),(4,rS ([]:Ag)),(5,rP b3 0),(6,rS hb),(7,rI .i64 ha),(8,rI .i64 hd)]) (H':=[.blk b3 (Ab (Am v i)) 78]) rfl rfl ?_
      obtain⟨hf,rfl,hI,hg,he⟩:=Ce hH
      replace hg:Ep F v i rec_rText hb ha hd=some hI:=hg
      unfold Ep at hg
      refine Ai (Ae (wm rfl (vF B2 rfl Cq (vL 0 CU rfl (wv (BY rfl rfl) (Ak (cz hg rfl (λhJ hK=>?_) (λhJ hL=>?_))))))))
      ·refine An (AF (Ai (AB (Ai (Ae (wm rfl (wv (Cb rfl rfl) (Ak (cz hK rfl (λhN hO=>?_) (λhN hP=>?_))))))))))
       ·refine Af (wm rfl (ck hO λhQ hR=>wv (CS rfl rfl hQ) (wa rfl (Ak (Ai (Ae (vF B2 rfl Eh (vL 0 E3 rfl (wv (Bx rfl rfl) (Ak (cz hR rfl (λc233 hS=>?_) (λc233 hT=>?_))))))))))))
        ·refine Ae (wm rfl (wm rfl (wm rfl (ck hS λhU hV=>wv (Bh (enc:=Ab) (ys:=v) BP Ch rfl rfl hU) (wv (AU B2 rfl CD rfl rfl) (wv (AY Dm rfl rfl) (ob hV λhi hW hX=>Cg Tryz.call92 (M6 F ((Am v ha).fStr) hi hW) rfl (ck hX λhY hZ=>wv (CS rfl rfl hY) (ck hZ λga gb=>wv (CS rfl rfl ga) (wa rfl (Ak (Af (wm rfl (ck gb λgc gd=>wv (AX rfl rfl gc) (wa rfl (Bf (wm rfl (wm rfl ?_))))))))))))))))))
         refine wm rfl (ob gd λhj ge gf=>Cg UI (ih_rText v (ha+1) hj ge) rfl (ck gf λgg gh=>wv (CS rfl rfl gg) (wa rfl (Ak (Af (wm rfl (wm rfl (ob gh λhk gi gj=>Cg Oc (Hw F v (ha+1) hk gi) rfl (wa rfl (Aj (A8 (AF (Af (wm rfl (ck gj λgk gl=>wv (AX rfl rfl gk) (wa rfl (Aj ?_)))))))))))))))))
         have gm:=Bb gl he
         exact Ar (A3 (hf,((((hb++([44]:Ag))++hi)++([58]:Ag))++hj,hk,hd+1),()) ⟨gm,AcL _⟩ (AC.c rfl (AC.c5 rfl rfl rfl rfl rfl AC.nil)) (sC sN))
        ·refine An (AF (Ae (wm rfl (wm rfl (wm rfl (ob hT λhl gn gp=>Cg UI (ih_rText v ha hl gn) rfl (ck gp λgq gr=>wv (CS rfl rfl gq) (wa rfl (Ak (Af (wm rfl (wm rfl (ob gr λhm gs gt=>Cg Oc (Hw F v ha hm gs) rfl (wa rfl (Aj (A8 (AF (Af (wm rfl (ck gt λgu gv=>?_))))))))))))))))))))
         refine wv (AX rfl rfl gu) (wa rfl (Aj ?_))
         have gw:=Bb gv he
         exact Ar (A3 (hf,((hb++([44]:Ag))++hl,hm,hd+1),()) ⟨gw,AcL _⟩ (AC.c rfl (AC.c5 rfl rfl rfl rfl rfl AC.nil)) (sC sN))
       ·refine An (AF (Ai (Ae (vF B2 rfl Eh (vL 0 E3 rfl (wv (Bx rfl rfl) (Ak (cz hP rfl (λgx gy=>?_) (λgx gz=>?_)))))))))
        ·refine Ae (wm rfl (wm rfl (wm rfl (ck gy λg0 g2=>wv (Bh (enc:=Ab) (ys:=v) BP Ch rfl rfl g0) (wv (AU B2 rfl CD rfl rfl) (wv (AY Dm rfl rfl) (ob g2 λhn g3 g4=>Cg Tryz.call92 (M6 F ((Am v ha).fStr) hn g3) rfl (ck g4 λg5 g6=>wv (CS rfl rfl g5) (ck g6 λg7 g8=>wv (CS rfl rfl g7) (wa rfl (Ak (Af (wm rfl (ck g8 λg9 gA=>wv (AX rfl rfl g9) (wa rfl (Bf (wm rfl (wm rfl ?_))))))))))))))))))
         refine wm rfl (ob gA λho gB gC=>Cg UI (ih_rText v (ha+1) ho gB) rfl (ck gC λgD gE=>wv (CS rfl rfl gD) (wa rfl (Ak (Af (wm rfl (wm rfl (ob gE λhp gF gG=>Cg Oc (Hw F v (ha+1) hp gF) rfl (wa rfl (Aj (A8 (AF (Af (wm rfl (ck gG λgH gI=>wv (AX rfl rfl gH) (wa rfl (Aj ?_)))))))))))))))))
         have gJ:=Bb gI he
         exact Ar (A3 (hf,(((hb++hn)++([58]:Ag))++ho,hp,hd+1),()) ⟨gJ,AcL _⟩ (AC.c rfl (AC.c5 rfl rfl rfl rfl rfl AC.nil)) (sC sN))
        ·refine An (AF (Ae (wm rfl (wm rfl (wm rfl (ob gz λhq gK gL=>Cg UI (ih_rText v ha hq gK) rfl (ck gL λgM gN=>wv (CS rfl rfl gM) (wa rfl (Ak (Af (wm rfl (wm rfl (ob gN λhr gO gP=>Cg Oc (Hw F v ha hr gO) rfl (wa rfl (Aj (A8 (AF (Af (wm rfl (ck gP λgQ gR=>?_))))))))))))))))))))
         refine wv (AX rfl rfl gQ) (wa rfl (Aj ?_))
         have gS:=Bb gR he
         exact Ar (A3 (hf,(hb++hq,hr,hd+1),()) ⟨gS,AcL _⟩ (AC.c rfl (AC.c5 rfl rfl rfl rfl rfl AC.nil)) (sC sN))
      ·refine Bo (At ?_)
       have gT:=BI hL he hG
       exact At (Bc (A3 (hb,()) gT (AC.c rfl (AC.c rfl (AC.c rfl AC.nil))) (sC sN)))
     ·rintro⟨hs,⟨⟩⟩ hh
      refine Cf (l':=[(4,rS ([]:Ag)),(5,rP b3 0),(6,rS hs)]) (H':=[.blk b3 (Ab (Am v i)) 78]) rfl rfl ?_
      replace hh:HO v i hs=some r:=hh
      unfold HO at hh
      refine AZ (AF (Ai (Ae (vF B2 rfl Eh (vL 0 E3 rfl (wv (Bx rfl rfl) (Ak (cz hh rfl (λgU gV=>?_) (λgU gW=>?_)))))))))
      ·refine Ae (wm rfl (ck gV λgX gY=>wv (CS rfl rfl gX) (ck gY λgZ ca=>wv (CS rfl rfl gZ) (wa rfl (Ak (Aq (Ac ?_)))))))
       obtain rfl:=As ca
       exact Ap (BW ST (A4 rfl)) (sS sN) ⟨rfl,rfl⟩
      ·refine An (AF (Ae (wm rfl (ck gW λcb cc=>wv (CS rfl rfl cb) (ck cc λcd ce=>wv (CS rfl rfl cd) (wa rfl (Ak (Aq ?_))))))))
       obtain rfl:=As ce
       exact Ap (BW ST (A4 rfl)) (sS sN) ⟨rfl,rfl⟩
theorem PF:∀F:Nat,(∀(v:(List Aa)) (i:Int) (r:Ag),GU F v i=some r→Fn Tryz.prog GE 69 [AV 4 (List.map Ab v),rI .i64 i] [] (λR H=>R=rS r∧H=[]))
  | 0=>(λ_ _ _ h=>by simp[GU] at h)
  | nn+1=>(λv i r h=>WT nn (GU nn) (PF nn) v i r (by rw[GU] at h;exact h))
theorem TS (F:Nat) (v:(List Aa)) (i:Int) (r:Ag) (h:GU F v i=some r):Fn Tryz.prog GE 69 [AV 4 (List.map Ab v),rI .i64 i] [] (λR H=>R=rS r∧H=[]):=(PF F) v i r h
theorem O0 (F:Nat) (v:(List Aa)) (r:Int) (h:Ld F v=some r):Fn Tryz.prog GE 57 [AV 4 (List.map Ab v)] [] (λR H=>R=rI .i64 r∧H=[]):=by
 refine enter (n:=61) Tryz.func57 rfl Tryz.ntmps57 rfl (λw Z=>?_)
 unfold Ld at h
 refine Ae (wa rfl (Ak (Ai (Ae (wm rfl (ob h λr1 e3 h2=>Cg Tryz.call82 (Vi F v r1 e3) rfl (wv (Cd rfl) (Ak (cz h2 rfl (λc4 h5=>?_) (λc4 h6=>?_))))))))))
 ·refine Ae (wa rfl (Ak (Aq (Ac ?_))))
  obtain rfl:=As h5
  exact Ap (BW UG (A4 rfl)) sN ⟨rfl,rfl⟩
 ·refine An (AF (Ai (Ae (wa rfl (Ak (AB (ob h6 λhp hq hn=>Bk (S:=Nat×(Int)×(Unit)) (V:=(Unit)×(Unit)) 0 (λσ=>BF (λσ=>EA v σ) σ.1 σ.2.1=some hp) (λσ=>[(0,AV 4 (List.map Ab v)),(3,rI .i64 σ.2.1)]) (λσ=>[]) (λσ=>σ.1) (F,0,()) hq (AC.c rfl (AC.c rfl AC.nil)) sN (λσ=>IL F v =some r) (λσ=>[(0,AV 4 (List.map Ab v))]) (λσ=>[]) ?_ ?_)))))))
  ·rintro⟨ge,he,⟨⟩⟩ hr
   refine BO (l':=[(0,AV 4 (List.map Ab v)),(3,rI .i64 he)]) (H':=[]) rfl rfl ?_
   obtain⟨hs,rfl,t46,hf,hj⟩:=Ce hr
   replace hf:EA v he=some t46:=hf
   unfold EA at hf
   refine Ai (Ae (wm rfl (wm rfl (wv (Bv (ys:=v) (enc:=Ab) BP rfl) (wv (BY rfl rfl) (Ak (cz hf rfl (λht hu=>?_) (λht hw=>?_))))))))
   ·refine An (AF (Ai (AB (ck hu λhk hx=>A6 [(0,AV 4 (List.map Ab v)),(3,rI .i64 he),(35,rB ((decide (((Am v he).fKind)=3))&&((decide (((Am v he).fInt)<(-1000000000000)))||(decide (1000000000000<((Am v he).fInt))))))] [] ?_ ?_))))
    ·refine Af (wm rfl (wm rfl (wv (Bh (enc:=Ab) (ys:=v) BP Ch rfl rfl hk) (wv (AU B2 rfl Eh rfl rfl) (wv (AY E3 rfl rfl) (wv (Bx rfl rfl) (wm rfl (AI (decide (((Am v he).fKind)=3)) (λha=>?_) (λha=>?_)))))))))
     ·refine wo ha (wm rfl (wo ha (wm rfl (wo ha (wv (Bh (enc:=Ab) (ys:=v) BP Ch rfl rfl hk) (wo ha (wv (AU B2 rfl Cq rfl rfl) (wo ha (wv (AY CU rfl rfl) (wo ha (wv (BY rfl rfl) (wo ha (wm rfl (AI (decide (((Am v he).fInt)<(-1000000000000))) (λhb=>?_) (λhb=>?_)))))))))))))))
      ·refine wf hb (wf hb (wf hb (wf hb (wf hb (wf hb (wo ha (wv (r:=rB true) (Au rfl hb rfl) (EF rfl ha rfl (Aj ?_)))))))))
       exact BM (And.intro ha hb)
      ·refine wo hb (wm rfl (wo hb (wm rfl (wo hb (wv (Bh (enc:=Ab) (ys:=v) BP Ch rfl rfl hk) (wo hb (wv (AU B2 rfl Cq rfl rfl) (wo hb (wv (AY CU rfl rfl) (wo hb (wv (Cb rfl rfl) (wo ha (DR rfl hb rfl (EF rfl ha rfl (Aj ?_)))))))))))))))
       exact BM (And.intro ha hb)
     ·refine wf ha (wf ha (wf ha (wf ha (wf ha (wf ha (wf ha (wu (wu (wu (wu (wu (wu (wf ha (wv (r:=rB false) (A7 rfl ha rfl) (Aj ?_)))))))))))))))
      exact BM ha
    refine cz hx rfl (λhy hz=>?_) (λhy h0=>?_)
    ·refine Ae (wa rfl (Ak (Aq (Av (Ac (Ac (AS ?_)))))))
     have h1:=Bm hz hj hn
     refine Av (Ac ?_)
     obtain rfl:=As h1
     exact Ap (BW UG (A4 rfl)) sN ⟨rfl,rfl⟩
    ·refine An (A8 (AF (Af (wm rfl (ck h0 λh3 h4=>wv (AX rfl rfl h3) (wa rfl (Aj ?_)))))))
     have h7:=Bb h4 hj
     exact Ar (A3 (hs,he+1,()) ⟨h7,AcL _⟩ (AC.c rfl (AC.c rfl AC.nil)) sN)
   ·refine Bo (At ?_)
    have h8:=BI hw hj hn
    exact At (Bc (A3 ((),()) h8 (AC.c rfl AC.nil) sN))
  ·rintro⟨⟨⟩,⟨⟩⟩ hg
   refine Cf (l':=[(0,AV 4 (List.map Ab v))]) (H':=[]) rfl rfl ?_
   replace hg:IL F v =some r:=hg
   unfold IL at hg
   refine AZ (AF (Ai (ck hg λh9 hA=>A6 [(0,AV 4 (List.map Ab v)),(43,rB ((decide (200<(v.length:Int)))||(decide (8<(ov (Ds F v 0))))))] [] ?_ ?_)))
   ·refine Af (wm rfl (wv (Bv (ys:=v) (enc:=Ab) BP rfl) (wv (Cb rfl rfl) (wm rfl (AI (decide (200<(v.length:Int))) (λhd=>?_) (λhd=>?_))))))
    ·refine wf hd (wf hd (wf hd (wv (r:=rB true) (Au rfl hd rfl) (Aj ?_))))
     exact BM hd
    ·refine wo hd (wm rfl (wo hd (Cg Tryz.call83 (Vg F v 0 (ov (Ds F v 0)) (GX (Cr h9 hd))) rfl (wo hd (wv (Cb rfl rfl) (DR rfl hd rfl (Aj ?_)))))))
     exact BM hd
   refine cz hA rfl (λhB hC=>?_) (λhB hD=>?_)
   ·refine Ae (wa rfl (Ak (Aq (Ac ?_))))
    obtain rfl:=As hC
    exact Ap (BW UG (A4 rfl)) sN ⟨rfl,rfl⟩
   ·refine An (AF (Ai (Ae (wa rfl (Ak (AB (ob hD λhE hG ho=>Bk (S:=Nat×(Int)×(Unit)) (V:=(Unit)×(Unit)) 2 (λσ=>BF (λσ=>E9 v σ) σ.1 σ.2.1=some hE) (λσ=>[(0,AV 4 (List.map Ab v)),(4,rI .i64 σ.2.1)]) (λσ=>[]) (λσ=>σ.1) (F,0,()) hG (AC.c rfl (AC.c rfl AC.nil)) sN (λσ=>IK F v =some r) (λσ=>[(0,AV 4 (List.map Ab v))]) (λσ=>[]) ?_ ?_)))))))
    ·rintro⟨gf,hl,⟨⟩⟩ hH
     refine BO (l':=[(0,AV 4 (List.map Ab v)),(4,rI .i64 hl)]) (H':=[]) rfl rfl ?_
     obtain⟨hI,rfl,hJ,hh,hm⟩:=Ce hH
     replace hh:E9 v hl=some hJ:=hh
     unfold E9 at hh
     refine Ai (Ae (wm rfl (wm rfl (wv (Bv (ys:=v) (enc:=Ab) BP rfl) (wv (BY rfl rfl) (Ak (cz hh rfl (λhK hL=>?_) (λhK hN=>?_))))))))
     ·refine An (AF (Ai (AB (Ae (wm rfl (wm rfl (ck hL λhO hP=>wv (Bh (enc:=Ab) (ys:=v) BP Ch rfl rfl hO) (wv (AU B2 rfl CD rfl rfl) (wv (AY Dm rfl rfl) (wv (AW BC rfl) (wv (Cb rfl rfl) (Ak (cz hP rfl (λhQ hR=>?_) (λhQ hS=>?_))))))))))))))
      ·refine Ae (wa rfl (Ak (Aq (Av (Ac (Ac (AS ?_)))))))
       have hT:=Bm hR hm ho
       refine Av (Ac ?_)
       obtain rfl:=As hT
       exact Ap (BW UG (A4 rfl)) sN ⟨rfl,rfl⟩
      ·refine An (A8 (AF (Af (wm rfl (ck hS λhU hV=>wv (AX rfl rfl hU) (wa rfl (Aj ?_)))))))
       have hW:=Bb hV hm
       exact Ar (A3 (hI,hl+1,()) ⟨hW,AcL _⟩ (AC.c rfl (AC.c rfl AC.nil)) sN)
     ·refine Bo (At ?_)
      have hX:=BI hN hm ho
      exact At (Bc (A3 ((),()) hX (AC.c rfl AC.nil) sN))
    ·rintro⟨⟨⟩,⟨⟩⟩ hi
     refine Cf (l':=[(0,AV 4 (List.map Ab v))]) (H':=[]) rfl rfl ?_
     replace hi:IK F v =some r:=hi
     unfold IK at hi
     refine AZ (AF (Ai (Ae (wm rfl (ob hi λhY hZ ga=>Cg UI (TS F v 0 hY hZ) rfl (wv (AW BC rfl) (wv (Cb rfl rfl) (Ak (cz ga rfl (λgb gc=>?_) (λgb gd=>?_))))))))))
     ·refine Ae (wa rfl (Ak (Aq (Ac ?_))))
      obtain rfl:=As gc
      exact Ap (BW UG (A4 rfl)) sN ⟨rfl,rfl⟩
     ·refine An (AF (Ae (wa rfl (Ak (Aq ?_)))))
      obtain rfl:=As gd
      exact Ap (BW UG (A4 rfl)) sN ⟨rfl,rfl⟩
theorem Vj (F:Nat) (v:(List Aa)) (r:Ag×Int) (h:LC F v=some r):Fn Tryz.prog GE 48 [AV 4 (List.map Ab v)] [] (λR H=>R=Cm [rS r.1,rI .i64 r.2]∧H=[]):=by
 refine enter (n:=12) Tryz.func48 rfl Tryz.ntmps48 rfl (λw Z=>?_)
 unfold LC at h
 refine Ae (wv (r:=rS ([]:Ag)) (Ao rfl) (wa rfl (Bf (wm rfl (ob h λr1 e3 h2=>Cg Tryz.call57 (O0 F v r1 e3) rfl (wa rfl (Ak (Ai (Ae (wm rfl (wv (CB rfl rfl) (Ak (cz h2 rfl (λc4 h5=>?_) (λc4 h6=>?_))))))))))))))
 ·refine Ae (wm rfl (wv (r:=rS ([]:Ag)) (Ao rfl) (wa rfl (Ak (Aq (Ac ?_))))))
  obtain rfl:=As h5
  exact Ap (Cy Tryz.results48 (A4 rfl) (A4 rfl)) sN ⟨rfl,rfl⟩
 ·refine An (AF (Ae (wm rfl (ob h6 λr7 e9 h8=>Cg UI (TS F v 0 r7 e9) rfl (wa rfl (wa rfl (Ak (Aq ?_))))))))
  obtain rfl:=As h8
  exact Ap (Cy Tryz.results48 (A4 rfl) (A4 rfl)) sN ⟨rfl,rfl⟩
end Go.Proofs.YtjfnokmpfekniaaGreatDoor.Q
namespace Go.Proofs.YtjfnokmpfekniaaGreatDoor
open Go
set_option linter.unusedVariables false
structure AD where
 fPairs:Bool
 fLeft:Int
 fKey:Bool
 fLast:Ag
 fStarted:Bool
 deriving DecidableEq,Inhabited
structure AM where
 fDepth:Int
 fBytes:Int
 fOutside:Bool
 fLong:Bool
 deriving DecidableEq,Inhabited
def BK (n:Int):Option (Bool):=
 some ((decide ((-1000000000000)≤n))&&(decide (n≤1000000000000)))
def IA (s:Ag) (ha:Int):Option (Stp (Int) (Out (Bool) (Unit))):=
 Bd (decide (ha<(s.length:Int))) (AN (Cu ha (s.length:Int))<|Bd (((decide ((AK s ha)<32))||(decide (126<(AK s ha))))) (some (.out (.ret false))) (AN (Bl .i64 (ha+1))<|some (.next (ha+1)))) (some (.out (.go ())))
def I9 :Option (Bool):=
 some true
def Ly (F:Nat) (s:Ag):Option (Bool):=
 Bn (BF (λσ=>IA s σ) F 0) (B6 λν=>I9 )
def Kj (s:Ag):Option (Int):=
 AN (Bl .i64 ((s.length:Int)+2))<|AN (Bl .i64 (((s.length:Int)+2)+(Lib.countByte s 34:Int)))<|AN (Bl .i64 ((((s.length:Int)+2)+(Lib.countByte s 34:Int))+(Lib.countByte s 92:Int)))<|some ((((s.length:Int)+2)+(Lib.countByte s 34:Int))+(Lib.countByte s 92:Int))
def Ok (F:Nat) (c:Aa):Option (Bool):=
 Bd (decide (c.fKind=1)) (some ((decide (c.fInt=0))&&((decide (c.fStr=([]:Ag)))&&(decide (c.fN=0))))) (Bd (decide (c.fKind=2)) (some (bif decide (c.fInt=0) then((decide (c.fStr=([]:Ag)))&&(decide (c.fN=0))) else((decide (c.fInt=1))&&((decide (c.fStr=([]:Ag)))&&(decide (c.fN=0)))))) (Bd (decide (c.fKind=3)) (some ((decide (c.fStr=([]:Ag)))&&(decide (c.fN=0)))) (Bd (decide (c.fKind=4)) (AN (imp (decide (c.fInt=0)) (imp (decide (c.fN=0)) ((Ly F c.fStr).isSome)))<|some ((decide (c.fInt=0))&&((decide (c.fN=0))&&(ov (Ly F c.fStr))))) (Bd (decide (c.fKind=5)) (some ((decide (c.fInt=0))&&((decide (c.fStr=([]:Ag)))&&(decide (0≤c.fN))))) (Bd (decide (c.fKind=6)) (some ((decide (c.fInt=0))&&((decide (c.fStr=([]:Ag)))&&(decide (0≤c.fN))))) (some false))))))
def Rx (c:Aa):Option (Int):=
 Bd (decide (c.fKind=1)) (some 4) (Bd (decide (c.fKind=2)) (some (IntKind.wrap .i64 (5-c.fInt))) (Bd (decide (c.fKind=3)) (AN (Bl .i64 c.fInt)<|some ((Lib.itoa c.fInt).length:Int)) (Bd (decide (c.fKind=4)) (Bn (Kj c.fStr) λha=>some ha) (some (IntKind.wrap .i64 (2+(max 0 (IntKind.wrap .i64 (c.fN-1)))))))))
def En (ha:(List AD)):Option (Stp ((List AD)) (Out ((List AD)) ((List AD)))):=
 Bd (decide (0<(ha.length:Int))) (AN (Bl .i64 ((ha.length:Int)-1))<|AN (Cu ((ha.length:Int)-1) (ha.length:Int))<|AN (Bl .i64 (((Am ha ((ha.length:Int)-1)).fLeft)-1))<|Ls (List.set ha (Int.toNat ((ha.length:Int)-1)) (AD.mk ((Am ha ((ha.length:Int)-1)).fPairs) (((Am ha ((ha.length:Int)-1)).fLeft)-1) ((Am ha ((ha.length:Int)-1)).fKey) ((Am ha ((ha.length:Int)-1)).fLast) ((Am ha ((ha.length:Int)-1)).fStarted))) λhb=>Bd (decide (0<((Am hb ((ha.length:Int)-1)).fLeft))) (Ls (List.set hb (Int.toNat ((ha.length:Int)-1)) (AD.mk ((Am hb ((ha.length:Int)-1)).fPairs) ((Am hb ((ha.length:Int)-1)).fLeft) ((Am hb ((ha.length:Int)-1)).fPairs) ((Am hb ((ha.length:Int)-1)).fLast) ((Am hb ((ha.length:Int)-1)).fStarted))) λhd=>some (.out (.ret hd))) (AN (Bl .i64 ((hb.length:Int)-1))<|AN (GJ ((hb.length:Int)-1) (hb.length:Int))<|some (.next (List.take (Int.toNat ((hb.length:Int)-1)) hb)))) (some (.out (.go ha)))
def EZ (ha:(List AD)):Option ((List AD)):=
 some ha
def L4 (F:Nat) (stack:(List AD)):Option ((List AD)):=
 Bn (BF (λσ=>En σ) F stack) (B6 λν=>EZ ν)
def EK (ha:Int) (hb:(List AD)) (hd:AM):Option (Stp ((List AD)×Int×AM) (Out (Int×AM×Bool) (AM))):=
 AN (Bl .i64 (ha+1))<|some (.next (hb,ha+1,hd))
def Em (F:Nat) (v:(List Aa)) (ha:(List AD)) (hb:Int) (hd:AM):Option (Stp ((List AD)×Int×AM) (Out (Int×AM×Bool) (AM))):=
 Bd (decide (hb<(v.length:Int))) (AN (Cu hb (v.length:Int))<|Bn (Ok F (Am v hb)) λhj=>Bd (!hj) (some (.out (.ret (0,hd,false)))) (AN (imp (decide (0<(ha.length:Int))) (Bl .i64 ((ha.length:Int)-1)))<|AN (imp (decide (0<(ha.length:Int))) (Cu ((ha.length:Int)-1) (ha.length:Int)))<|Bd (((decide (0<(ha.length:Int)))&&((Am ha ((ha.length:Int)-1)).fKey))) (AN (Bl .i64 ((ha.length:Int)-1))<|AN (Cu ((ha.length:Int)-1) (ha.length:Int))<|Bd (((!decide (((Am v hb).fKind)=4))||(((Am ha ((ha.length:Int)-1)).fStarted)&&(Ci ((Am v hb).fStr) ((Am ha ((ha.length:Int)-1)).fLast)||decide (((Am v hb).fStr)=((Am ha ((ha.length:Int)-1)).fLast)))))) (some (.out (.ret (0,hd,false)))) (Ls (List.set ha (Int.toNat ((ha.length:Int)-1)) (AD.mk ((Am ha ((ha.length:Int)-1)).fPairs) ((Am ha ((ha.length:Int)-1)).fLeft) ((Am ha ((ha.length:Int)-1)).fKey) ((Am v hb).fStr) ((Am ha ((ha.length:Int)-1)).fStarted))) λhe=>Ls (List.set he (Int.toNat ((ha.length:Int)-1)) (AD.mk ((Am he ((ha.length:Int)-1)).fPairs) ((Am he ((ha.length:Int)-1)).fLeft) ((Am he ((ha.length:Int)-1)).fKey) ((Am he ((ha.length:Int)-1)).fLast) true)) λhf=>Ls (List.set hf (Int.toNat ((ha.length:Int)-1)) (AD.mk ((Am hf ((ha.length:Int)-1)).fPairs) ((Am hf ((ha.length:Int)-1)).fLeft) false ((Am hf ((ha.length:Int)-1)).fLast) ((Am hf ((ha.length:Int)-1)).fStarted))) λhk=>Bn (Kj ((Am v hb).fStr)) λhh=>AN (Bl .i64 (hh+1))<|EK hb hk (AM.mk hd.fDepth (IntKind.wrap .i64 (hd.fBytes+(hh+1))) hd.fOutside (hd.fLong||(decide (200<(((Am v hb).fStr).length:Int))))))) (AN (Bl .i64 ((ha.length:Int)+1))<|Bn (Rx (Am v hb)) λhg=>AN (imp (!hd.fOutside) (imp (decide (((Am v hb).fKind)=3)) ((BK ((Am v hb).fInt)).isSome)))<|Bd (decide (0<((Am v hb).fN))) (Bd (decide ((v.length:Int)<((Am v hb).fN))) (some (.out (.ret (0,(AM.mk (max hd.fDepth ((ha.length:Int)+1)) (IntKind.wrap .i64 (hd.fBytes+hg)) (hd.fOutside||((decide (((Am v hb).fKind)=3))&&(!(ov (BK ((Am v hb).fInt)))))) (hd.fLong||(decide (200<(((Am v hb).fStr).length:Int))))),false)))) (AN (Dw 48 (ha.length+([(AD.mk (decide (((Am v hb).fKind)=6)) ((Am v hb).fN) (decide (((Am v hb).fKind)=6)) ([]:Ag) false)]:List AD).length))<|EK hb (ha++([(AD.mk (decide (((Am v hb).fKind)=6)) ((Am v hb).fN) (decide (((Am v hb).fKind)=6)) ([]:Ag) false)]:List AD)) (AM.mk (max hd.fDepth ((ha.length:Int)+1)) (IntKind.wrap .i64 (hd.fBytes+hg)) (hd.fOutside||((decide (((Am v hb).fKind)=3))&&(!(ov (BK ((Am v hb).fInt)))))) (hd.fLong||(decide (200<(((Am v hb).fStr).length:Int))))))) (Bn (L4 F ha) λhi=>Bd (decide ((hi.length:Int)=0)) (AN (Bl .i64 (hb+1))<|some (.out (.ret (hb+1,(AM.mk (max hd.fDepth ((ha.length:Int)+1)) (IntKind.wrap .i64 (hd.fBytes+hg)) (hd.fOutside||((decide (((Am v hb).fKind)=3))&&(!(ov (BK ((Am v hb).fInt)))))) (hd.fLong||(decide (200<(((Am v hb).fStr).length:Int))))),true)))) (EK hb hi (AM.mk (max hd.fDepth ((ha.length:Int)+1)) (IntKind.wrap .i64 (hd.fBytes+hg)) (hd.fOutside||((decide (((Am v hb).fKind)=3))&&(!(ov (BK ((Am v hb).fInt)))))) (hd.fLong||(decide (200<(((Am v hb).fStr).length:Int)))))))))) (some (.out (.go hd)))
def L0 (ha:AM):Option (Int×AM×Bool):=
 some (0,ha,false)
def Jy (F:Nat) (v:(List Aa)):Option (Int×AM×Bool):=
 Bn (BF (λσ=>Em F v σ.1 σ.2.1 σ.2.2) F (([]:List AD),0,(AM.mk 0 0 false false))) (B6 λν=>L0 ν)
def KW (F:Nat) (v:(List Aa)):Option (Int):=
 Bn (Jy F v) λr1=>Bd (((!r1.2.2)||(!decide (r1.1=(v.length:Int))))) (some 1) (Bd (r1.2.1.fOutside) (some 2) (Bd ((r1.2.1.fLong||((decide (200<(v.length:Int)))||((decide (8<r1.2.1.fDepth))||(decide (4000<r1.2.1.fBytes)))))) (some 3) (some 0)))
def L5 (F:Nat) (v:(List Aa)):Option ((List Aa)×Int):=
 Bn (KW F v) λr1=>Bd (!decide (r1=0)) (some (([]:List Aa),r1)) (some (v,0))
end Go.Proofs.YtjfnokmpfekniaaGreatDoor
namespace Go.Proofs.YtjfnokmpfekniaaGreatDoor.Q
open Go Go.RowKit
set_option linter.unusedVariables false
set_option linter.unusedSimpArgs false
set_option maxRecDepth 100000
set_option maxHeartbeats 4000000
@[reducible] def A9 (x:AD):List Rp:=[rB x.fPairs,rI .i64 x.fLeft,rB x.fKey,rS x.fLast,rB x.fStarted]
theorem J2 (x:AD):(A9 x).length=5:=rfl
theorem N8 (x:AD):(A9 x).all (·.one)=true:=rfl
@[reducible] def Ba (x:AM):List Rp:=[rI .i64 x.fDepth,rI .i64 x.fBytes,rB x.fOutside,rB x.fLong]
theorem ZL:∃inf,Tryz.prog.info? 166=some inf∧inf.zero=some (.agg #[(.bool false),(.int .i64 0),(.bool false),(.string ⟨#[]⟩),(.bool false)])∧inf.size=5∧inf.bytes=48:=by
  have key:(Tryz.prog.info? 166).map (λi=>(i.zero,i.size,i.bytes))=some (some (.agg #[(.bool false),(.int .i64 0),(.bool false),(.string ⟨#[]⟩),(.bool false)]),5,48):=by kernel_rfl
  obtain⟨inf,h1,h2⟩:=Option.map_eq_some_iff.1 key
  simp only[Prod.mk.injEq] at h2
  exact⟨inf,h1,h2.1,h2.2.1,h2.2.2⟩
theorem YF (parts:List (Nat×Value)):Tryz.prog.built 166 parts=Instr.fill (λi=>(#[(0,1),(1,1),(2,1),(3,1),(4,1)]:Array (Nat×Nat))[i]?) #[(.bool false),(.int .i64 0),(.bool false),(.string ⟨#[]⟩),(.bool false)] parts:=by kernel_rfl
theorem ME {n:Nat} {c:Cx} {l:Fr} {H:List Ent} {d:Option Nat} {ty:TypeId} {pos:String} {af:Array Edge} {g:Option (Nat×Bool)} {x0:Operand} {r0:Rp} (h0:ev l x0=some r0) (u0:r0.one=true) {x1:Operand} {r1:Rp} (h1:ev l x1=some r1) (u1:r1.one=true) {x2:Operand} {r2:Rp} (h2:ev l x2=some r2) (u2:r2.one=true):Bq Tryz.prog n c l H { dst:=d,op:=.build 166 #[(0,x0),(1,x1),(2,x2)],type:=ty,pos:=pos,after:=af,guard:=g } (B9 [r0,r1,r2,rS ([]:Ag),rB false]):=λa w Z ha _=>by
  have p0:=ha.ev h0
  have c0:=BR (r0.hone u0 Z _ p0)
  have p1:=ha.ev h1
  have c1:=BR (r1.hone u1 Z _ p1)
  have p2:=ha.ev h2
  have c2:=BR (r2.hone u2 Z _ p2)
  have hb:Tryz.prog.built 166 [(0,a.eval x0),(1,a.eval x1),(2,a.eval x2)]=some #[a.eval x0,a.eval x1,a.eval x2,(.string ⟨#[]⟩),(.bool false)]:=by
    rw[YF]
    generalize a.eval x0=v0 at *
    generalize a.eval x1=v1 at *
    generalize a.eval x2=v2 at *
    simp[Instr.fill,c0,c1,c2]
  refine⟨.agg #[a.eval x0,a.eval x1,a.eval x2,(.string ⟨#[]⟩),(.bool false)],⟨[a.eval x0,a.eval x1,a.eval x2,(.string ⟨#[]⟩),(.bool false)],rfl,p0,p1,p2,rfl,rfl,trivial⟩,?_⟩
  have:=run_build w 166 #[(0,a.eval x0),(1,a.eval x1),(2,a.eval x2)] _ (by simpa using hb)
  simp[execOp,this]
theorem XA (n:Int) (r:Bool) (h:BK n=some r):Fn Tryz.prog GE 99 [rI .i64 n] [] (λR H=>R=rB r∧H=[]):=by
 refine enter (n:=9) Tryz.func99 rfl Tryz.ntmps99 rfl (λw Z=>?_)
 unfold BK at h
 refine Ae (wa rfl (Ak (A6 [(2,rB ((decide ((-1000000000000)≤n))&&(decide (n≤1000000000000))))] [] ?_ ?_)))
 ·refine Af (wm rfl (wv (KG rfl rfl) (wm rfl (AI (decide ((-1000000000000)≤n)) (λc1=>?_) (λc1=>?_)))))
  ·refine wo c1 (wm rfl (wo c1 (wv (KG rfl rfl) (EF rfl c1 rfl (wa rfl (Aj ?_))))))
   exact BM c1
  ·refine wf c1 (wf c1 (wv (r:=rB false) (A7 rfl c1 rfl) (wa rfl (Aj ?_))))
   exact BM c1
 refine Aq ?_
 obtain rfl:=As h
 exact Ap (BW Tryz.results99 (A4 rfl)) sN ⟨rfl,rfl⟩
theorem Zn (F:Nat) (s:Ag) (r:Bool) (h:Ly F s=some r):Fn Tryz.prog GE 163 [rS s] [] (λR H=>R=rB r∧H=[]):=by
 refine enter (n:=20) Tryz.func163 rfl Tryz.ntmps163 rfl (λw Z=>?_)
 unfold Ly at h
 refine Ae (wa rfl (Ak (Ai (Ae (wm rfl (wv (AW BC rfl) (wv (r:=rI .i64 0) (Al rfl) (Ak (AB (ob h λhi hj hg=>Bk (S:=Nat×(Int)×(Unit)) (V:=(Unit)×(Unit)) 0 (λσ=>BF (λσ=>IA s σ) σ.1 σ.2.1=some hi) (λσ=>[(0,rS s),(5,rI .i64 (s.length:Int)),(6,rI .i64 σ.2.1)]) (λσ=>[]) (λσ=>σ.1) (F,0,()) hj (AC.c rfl (AC.c rfl (AC.c rfl AC.nil))) sN (λσ=>I9 =some r) (λσ=>[]) (λσ=>[]) ?_ ?_))))))))))
 ·rintro⟨hz,hb,⟨⟩⟩ hk
  refine BO (l':=[(0,rS s),(5,rI .i64 (s.length:Int)),(6,rI .i64 hb)]) (H':=[]) rfl rfl ?_
  obtain⟨hl,rfl,t37,hd,hf⟩:=Ce hk
  replace hd:IA s hb=some t37:=hd
  unfold IA at hd
  refine Ae (wv (BY rfl rfl) (Ak (Ai (cz hd rfl (λhm hn=>?_) (λhm ho=>?_)))))
  ·refine An (AF (Ai (AB (Ae (wm rfl (wa rfl (Ak (ck hn λhh hp=>A6 [(0,rS s),(5,rI .i64 (s.length:Int)),(6,rI .i64 hb),(18,rB ((decide ((AK s hb)<32))||(decide (126<(AK s hb)))))] [] ?_ ?_))))))))
   ·refine Af (wm rfl (wm rfl (wv (AO BC rfl rfl hh) (wv (BY rfl rfl) (wm rfl (AI (decide ((AK s hb)<32)) (λha=>?_) (λha=>?_)))))))
    ·refine wf ha (wf ha (wf ha (wf ha (wv (r:=rB true) (Au rfl ha rfl) (Aj ?_)))))
     exact BM ha
    ·refine wo ha (wm rfl (wo ha (wm rfl (wo ha (wv (AO BC rfl rfl hh) (wo ha (wv (Cb rfl rfl) (DR rfl ha rfl (Aj ?_)))))))))
     exact BM ha
   refine cz hp rfl (λhq hr=>?_) (λhq hs=>?_)
   ·refine Ae (wa rfl (Ak (Aq (Av (Ac (Ac (AS ?_)))))))
    have ht:=Bm hr hf hg
    refine Av (Ac ?_)
    obtain rfl:=As ht
    exact Ap (BW Tryz.results163 (A4 rfl)) sN ⟨rfl,rfl⟩
   ·refine An (A8 (AF (Af (ck hs λhu hw=>wv (AX rfl rfl hu) (wm rfl (Aj ?_))))))
    have hx:=Bb hw hf
    exact Ar (A3 (hl,hb+1,()) ⟨hx,AcL _⟩ (AC.c rfl (AC.c rfl (AC.c rfl AC.nil))) sN)
  ·refine Bo (At ?_)
   have hy:=BI ho hf hg
   exact At (Bc (A3 ((),()) hy AC.nil sN))
 ·rintro⟨⟨⟩,⟨⟩⟩ he
  refine Cf (l':=[]) (H':=[]) rfl rfl ?_
  replace he:I9 =some r:=he
  unfold I9 at he
  refine AZ (AF (Ae (wa rfl (Ak (Aq ?_)))))
  obtain rfl:=As he
  exact Ap (BW Tryz.results163 (A4 rfl)) sN ⟨rfl,rfl⟩
theorem P6 (s:Ag) (r:Int) (h:Kj s=some r):Fn Tryz.prog GE 145 [rS s] [] (λR H=>R=rI .i64 r∧H=[]):=by
 refine enter (n:=12) Tryz.func145 rfl Tryz.ntmps145 rfl (λw Z=>?_)
 unfold Kj at h
 refine Ae (wa rfl (Bf (wm rfl (wv (AW BC rfl) (ck h λg1 h2=>wv (AX rfl rfl g1) (wm rfl (Ie (rs:=[rS s,rS ([34]:Ag)]) (r:=rI .i64 (Lib.countByte s 34:Int)) Tryz.call164 rfl (U8 s 34) rfl rfl (ck h2 λg3 h4=>wv (AX rfl rfl g3) (wm rfl (Ie (rs:=[rS s,rS ([92]:Ag)]) (r:=rI .i64 (Lib.countByte s 92:Int)) Tryz.call164 rfl (U8 s 92) rfl rfl (ck h4 λg5 h6=>wv (AX rfl rfl g5) (wa rfl (Ak (Aq ?_))))))))))))))
 obtain rfl:=As h6
 exact Ap (BW Tryz.results145 (A4 rfl)) sN ⟨rfl,rfl⟩
theorem W2 (F:Nat) (c:Aa) (r:Bool) (h:Ok F c=some r):Fn Tryz.prog GE 144 [B9 (Ab c)] [] (λR H=>R=rB r∧H=[]):=by
 refine enter (n:=81) Tryz.func144 rfl Tryz.ntmps144 rfl (λw Z=>?_)
 unfold Ok at h
 refine Ae (Ec rfl rfl (λb1=>?_))
 refine wa rfl (Ak (Ai (Ae (vF B2 rfl Eh (vL 0 E3 rfl (Ak (AB (Ae (wv (Bx rfl rfl) (wa rfl (Ak (cz h rfl (λc2 h3=>?_) (λc2 h6=>?_)))))))))))))
 ·refine A6 [(2,rB ((decide (c.fInt=0))&&((decide (c.fStr=([]:Ag)))&&(decide (c.fN=0)))))] [] ?_ ?_
  ·refine Af (vF B2 rfl Cq (vL 0 CU rfl (wv (Bx rfl rfl) (wm rfl (AI (decide (c.fInt=0)) (λc4=>?_) (λc4=>?_))))))
   ·refine wo c4 (vF B2 rfl CD (wo c4 (vL 0 Dm rfl (wo c4 (wv (Ef rfl rfl) (EF rfl c4 rfl (wm rfl (AI (decide (c.fStr=([]:Ag))) (λc5=>?_) (λc5=>?_)))))))))
    ·refine wo c5 (vF B2 rfl Cq (wo c5 (vL 0 CU rfl (wo c5 (wv (Bx rfl rfl) (EF rfl c5 rfl (wa rfl (Aj ?_))))))))
     exact BM (And.intro c4 c5)
    ·refine wf c5 (wf c5 (wf c5 (wv (r:=rB false) (A7 rfl c5 rfl) (wa rfl (Aj ?_)))))
     exact BM (And.intro c4 c5)
   ·refine wf c4 (wf c4 (wf c4 (wv (r:=rB false) (A7 rfl c4 rfl) (wm rfl (wz rfl rfl (wz rfl rfl (wz rfl rfl (wv (r:=rB false) (A7 (b:=false) rfl rfl rfl) (wa rfl (Aj ?_))))))))))
    exact BM c4
  refine Aq (Av (Ac ?_))
  obtain rfl:=As h3
  exact Ap (BW Oa (A4 rfl)) sN ⟨rfl,rfl⟩
 ·refine Ae (wv (Bx rfl rfl) (wa rfl (Ak (cz h6 rfl (λc7 h8=>?_) (λc7 hm=>?_)))))
  ·refine A6 [(2,rB (bif decide (c.fInt=0) then((decide (c.fStr=([]:Ag)))&&(decide (c.fN=0))) else((decide (c.fInt=1))&&((decide (c.fStr=([]:Ag)))&&(decide (c.fN=0))))))] [] ?_ ?_
   ·refine Af (vF B2 rfl Cq (vL 0 CU rfl (wv (Bx rfl rfl) (wm rfl (AI (decide (c.fInt=0)) (λc9=>?_) (λc9=>?_))))))
    ·refine wf c9 (wf c9 (wf c9 (wv (r:=rB true) (Au rfl c9 rfl) (wm rfl (Bg (b:=true) rfl rfl rfl (vF B2 rfl CD (Bg (b:=true) rfl rfl rfl (vL 0 Dm rfl (Bg (b:=true) rfl rfl rfl (wv (Ef rfl rfl) (wv (r:=rB (decide (c.fStr=([]:Ag)))) (Au (b:=true) rfl rfl rfl) (wm rfl (AI (decide (c.fStr=([]:Ag))) (λhg=>?_) (λhg=>?_))))))))))))))
     ·refine wo hg (vF B2 rfl Cq (wo hg (vL 0 CU rfl (wo hg (wv (Bx rfl rfl) (EF rfl hg rfl (wa rfl (Aj ?_))))))))
      exact BM (And.intro c9 hg)
     ·refine wf hg (wf hg (wf hg (wv (r:=rB false) (A7 rfl hg rfl) (wa rfl (Aj ?_)))))
      exact BM (And.intro c9 hg)
    ·refine wo c9 (vF B2 rfl Cq (wo c9 (vL 0 CU rfl (wo c9 (wv (Bx rfl rfl) (DR rfl c9 rfl (wm rfl (AI (decide (c.fInt=1)) (λhb=>?_) (λhb=>?_)))))))))
     ·refine wo hb (vF B2 rfl CD (wo hb (vL 0 Dm rfl (wo hb (wv (Ef rfl rfl) (EF rfl hb rfl (wm rfl (AI (decide (c.fStr=([]:Ag))) (λhh=>?_) (λhh=>?_)))))))))
      ·refine wo hh (vF B2 rfl Cq (wo hh (vL 0 CU rfl (wo hh (wv (Bx rfl rfl) (EF rfl hh rfl (wa rfl (Aj ?_))))))))
       exact BM (And.intro c9 (And.intro hb hh))
      ·refine wf hh (wf hh (wf hh (wv (r:=rB false) (A7 rfl hh rfl) (wa rfl (Aj ?_)))))
       exact BM (And.intro c9 (And.intro hb hh))
     ·refine wf hb (wf hb (wf hb (wv (r:=rB false) (A7 rfl hb rfl) (wm rfl (wz rfl rfl (wz rfl rfl (wz rfl rfl (wv (r:=rB false) (A7 (b:=false) rfl rfl rfl) (wa rfl (Aj ?_))))))))))
      exact BM (And.intro c9 hb)
   refine Aq (Av (Ac ?_))
   obtain rfl:=As h8
   exact Ap (BW Oa (A4 rfl)) sN ⟨rfl,rfl⟩
  ·refine Ae (wv (Bx rfl rfl) (wa rfl (Ak (cz hm rfl (λhn ho=>?_) (λhn hp=>?_)))))
   ·refine A6 [(2,rB ((decide (c.fStr=([]:Ag)))&&(decide (c.fN=0))))] [] ?_ ?_
    ·refine Af (vF B2 rfl CD (vL 0 Dm rfl (wv (Ef rfl rfl) (wm rfl (AI (decide (c.fStr=([]:Ag))) (λhi=>?_) (λhi=>?_))))))
     ·refine wo hi (vF B2 rfl Cq (wo hi (vL 0 CU rfl (wo hi (wv (Bx rfl rfl) (EF rfl hi rfl (wa rfl (Aj ?_))))))))
      exact BM hi
     ·refine wf hi (wf hi (wf hi (wv (r:=rB false) (A7 rfl hi rfl) (wa rfl (Aj ?_)))))
      exact BM hi
    refine Aq (Av (Ac ?_))
    obtain rfl:=As ho
    exact Ap (BW Oa (A4 rfl)) sN ⟨rfl,rfl⟩
   ·refine Ae (wv (Bx rfl rfl) (wa rfl (Ak (cz hp rfl (λhq hr=>?_) (λhq hs=>?_)))))
    ·refine ck hr λht hu=>A6 [(2,rB ((decide (c.fInt=0))&&((decide (c.fN=0))&&(ov (Ly F c.fStr)))))] [] ?_ ?_
     ·refine Af (vF B2 rfl Cq (vL 0 CU rfl (wv (Bx rfl rfl) (wm rfl (AI (decide (c.fInt=0)) (λha=>?_) (λha=>?_))))))
      ·refine wo ha (vF B2 rfl Cq (wo ha (vL 0 CU rfl (wo ha (wv (Bx rfl rfl) (EF rfl ha rfl (wm rfl (AI (decide (c.fN=0)) (λhd=>?_) (λhd=>?_)))))))))
       ·refine wo hd (vF B2 rfl CD (wo hd (vL 0 Dm rfl (wo hd (Cg Tryz.call163 (Zn F c.fStr (ov (Ly F c.fStr)) (GX (C2 (C2 ht ha) hd))) rfl (EF rfl hd rfl (wa rfl (Aj ?_))))))))
        exact BM (And.intro ha hd)
       ·refine wf hd (wf hd (wf hd (wv (r:=rB false) (A7 rfl hd rfl) (wa rfl (Aj ?_)))))
        exact BM (And.intro ha hd)
      ·refine wf ha (wf ha (wf ha (wv (r:=rB false) (A7 rfl ha rfl) (wm rfl (wz rfl rfl (wz rfl rfl (wz rfl rfl (wv (r:=rB false) (A7 (b:=false) rfl rfl rfl) (wa rfl (Aj ?_))))))))))
       exact BM ha
     refine Aq (Av (Ac ?_))
     obtain rfl:=As hu
     exact Ap (BW Oa (A4 rfl)) sN ⟨rfl,rfl⟩
    ·refine Ai (Ae (wv (Bx rfl rfl) (wa rfl (Ak (cz hs rfl (λhl hw=>?_) (λhl hx=>?_))))))
     ·refine An (AF (GD rfl hl (A6 [(2,rB ((decide (c.fInt=0))&&((decide (c.fStr=([]:Ag)))&&(decide (0≤c.fN)))))] [] ?_ ?_)))
      ·refine Af (vF B2 rfl Cq (vL 0 CU rfl (wv (Bx rfl rfl) (wm rfl (AI (decide (c.fInt=0)) (λhe=>?_) (λhe=>?_))))))
       ·refine wo he (vF B2 rfl CD (wo he (vL 0 Dm rfl (wo he (wv (Ef rfl rfl) (EF rfl he rfl (wm rfl (AI (decide (c.fStr=([]:Ag))) (λhj=>?_) (λhj=>?_)))))))))
        ·refine wo hj (vF B2 rfl Cq (wo hj (vL 0 CU rfl (wo hj (wv (G0 rfl rfl) (EF rfl hj rfl (wa rfl (Aj ?_))))))))
         exact BM (And.intro he hj)
        ·refine wf hj (wf hj (wf hj (wv (r:=rB false) (A7 rfl hj rfl) (wa rfl (Aj ?_)))))
         exact BM (And.intro he hj)
       ·refine wf he (wf he (wf he (wv (r:=rB false) (A7 rfl he rfl) (wm rfl (wz rfl rfl (wz rfl rfl (wz rfl rfl (wv (r:=rB false) (A7 (b:=false) rfl rfl rfl) (wa rfl (Aj ?_))))))))))
        exact BM he
      refine Aq (Av (Ac ?_))
      obtain rfl:=As hw
      exact Ap (BW Oa (A4 rfl)) sN ⟨rfl,rfl⟩
     ·refine Af (wv (Bx rfl rfl) (wa rfl (Ak (cz hx rfl (λhy hz=>?_) (λhy h0=>?_)))))
      ·refine A6 [(2,rB ((decide (c.fInt=0))&&((decide (c.fStr=([]:Ag)))&&(decide (0≤c.fN)))))] [] ?_ ?_
       ·refine Af (vF B2 rfl Cq (vL 0 CU rfl (wv (Bx rfl rfl) (wm rfl (AI (decide (c.fInt=0)) (λhf=>?_) (λhf=>?_))))))
        ·refine wo hf (vF B2 rfl CD (wo hf (vL 0 Dm rfl (wo hf (wv (Ef rfl rfl) (EF rfl hf rfl (wm rfl (AI (decide (c.fStr=([]:Ag))) (λhk=>?_) (λhk=>?_)))))))))
         ·refine wo hk (vF B2 rfl Cq (wo hk (vL 0 CU rfl (wo hk (wv (G0 rfl rfl) (EF rfl hk rfl (wa rfl (Aj ?_))))))))
          exact BM (And.intro hf hk)
         ·refine wf hk (wf hk (wf hk (wv (r:=rB false) (A7 rfl hk rfl) (wa rfl (Aj ?_)))))
          exact BM (And.intro hf hk)
        ·refine wf hf (wf hf (wf hf (wv (r:=rB false) (A7 rfl hf rfl) (wm rfl (wz rfl rfl (wz rfl rfl (wz rfl rfl (wv (r:=rB false) (A7 (b:=false) rfl rfl rfl) (wa rfl (Aj ?_))))))))))
         exact BM hf
       refine Aq (Av (Ac ?_))
       obtain rfl:=As hz
       exact Ap (BW Oa (A4 rfl)) sN ⟨rfl,rfl⟩
      ·refine An (A8 (AF (Ae (wa rfl (Ak (Aq ?_))))))
       obtain rfl:=As h0
       exact Ap (BW Oa (A4 rfl)) (sS sN) ⟨rfl,rfl⟩
theorem Zo (c:Aa) (r:Int) (h:Rx c=some r):Fn Tryz.prog GE 146 [B9 (Ab c)] [] (λR H=>R=rI .i64 r∧H=[]):=by
 refine enter (n:=28) Tryz.func146 rfl Tryz.ntmps146 rfl (λw Z=>?_)
 unfold Rx at h
 refine Ae (Ec rfl rfl (λb1=>?_))
 refine wa rfl (Ak (Ai (Ae (vF B2 rfl Eh (vL 0 E3 rfl (Ak (AB (Ae (wv (Bx rfl rfl) (wa rfl (Ak (cz h rfl (λc2 h3=>?_) (λc2 h4=>?_)))))))))))))
 ·refine Ae (wa rfl (Ak (Aq (Av (Ac ?_)))))
  obtain rfl:=As h3
  exact Ap (BW Ro (A4 rfl)) (sS sN) ⟨rfl,rfl⟩
 ·refine Ae (wv (Bx rfl rfl) (wa rfl (Ak (cz h4 rfl (λc5 h6=>?_) (λc5 h7=>?_)))))
  ·refine Ae (vF B2 rfl Cq (vL 0 CU rfl (wv (r:=rI .i64 (IntKind.wrap .i64 (5-c.fInt))) (Xz rfl rfl) (wa rfl (Ak (Aq (Av (Ac ?_))))))))
   obtain rfl:=As h6
   exact Ap (BW Ro (A4 rfl)) (sS sN) ⟨rfl,rfl⟩
  ·refine Ae (wv (Bx rfl rfl) (wa rfl (Ak (cz h7 rfl (λc8 h9=>?_) (λc8 ha=>?_)))))
   ·refine Ae (vF B2 rfl Cq (vL 0 CU rfl (ck h9 λhb hd=>Ie (rs:=[rI .i64 c.fInt]) (r:=rS (Lib.itoa c.fInt)) Tryz.call67 rfl (Mf c.fInt hb) rfl rfl (wv (AW BC rfl) (wa rfl (Ak (Aq (Av (Ac ?_)))))))))
    obtain rfl:=As hd
    exact Ap (BW Ro (A4 rfl)) (sS sN) ⟨rfl,rfl⟩
   ·refine Ae (wv (Bx rfl rfl) (wa rfl (Ak (cz ha rfl (λhe hf=>?_) (λhe hg=>?_)))))
    ·refine Ae (vF B2 rfl CD (vL 0 Dm rfl (ob hf λhh hi hj=>Cg Tryz.call145 (P6 c.fStr hh hi) rfl (wa rfl (Ak (Aq (Av (Ac ?_))))))))
     obtain rfl:=As hj
     exact Ap (BW Ro (A4 rfl)) (sS sN) ⟨rfl,rfl⟩
    ·refine An (A8 (AF (Ae (vF B2 rfl Cq (vL 0 CU rfl (wv (r:=rI .i64 (IntKind.wrap .i64 (c.fN-1))) (Xz rfl rfl) (wv (Aar MY rfl rfl) (wv (r:=rI .i64 (IntKind.wrap .i64 (2+(max 0 (IntKind.wrap .i64 (c.fN-1)))))) (Tv rfl rfl) (wa rfl (Ak (Aq ?_)))))))))))
     obtain rfl:=As hg
     exact Ap (BW Ro (A4 rfl)) (sS sN) ⟨rfl,rfl⟩
theorem US (F:Nat) (v_stack:Value) (stack:(List AD)) (r:(List AD)) (h:L4 F stack=some r):Fn Tryz.prog GE 147 [rv v_stack] [.row v_stack 166 5 (List.map A9 stack)] (λR H=>∃u0:Value,R=rv u0∧H=[.row u0 166 5 (List.map A9 r)]):=by
 refine enter (n:=38) Tryz.func147 rfl Tryz.ntmps147 rfl (λw Z=>?_)
 unfold L4 at h
 refine Ae (wa rfl (Ak (Ai (AB (ob h λhm hn hk=>Bk (S:=Nat×((List AD))×(Value)) (V:=((List AD))×(Value)) 0 (λσ=>BF (λσ=>En σ) σ.1 σ.2.1=some hm) (λσ=>[(0,rv σ.2.2),(2,rv (.slice none 0 0))]) (λσ=>[.row σ.2.2 166 5 (List.map A9 σ.2.1)]) (λσ=>σ.1) (F,stack,v_stack) hn (AC.c rfl (AC.c rfl AC.nil)) (sC sN) (λσ=>EZ σ.1=some r) (λσ=>[(0,rv σ.2),(2,rv (.slice none 0 0))]) (λσ=>[.row σ.2 166 5 (List.map A9 σ.1)]) ?_ ?_)))))
 ·rintro⟨hE,ha,hd⟩ ho
  refine BO (l':=[(0,rv hd),(2,rv (.slice none 0 0))]) (H':=[.row hd 166 5 (List.map A9 ha)]) rfl rfl ?_
  obtain⟨hp,rfl,hq,hg,hi⟩:=Ce ho
  replace hg:En ha=some hq:=hg
  unfold En at hg
  refine Ai (Ae (wm rfl (wv (Dr (ys:=ha) (enc:=A9) (i:=0) Jv rfl rfl) (wv (Cb rfl rfl) (Ak (cz hg rfl (λhr hs=>?_) (λhr ht=>?_)))))))
  ·refine An (AF (AB (Ae (wm rfl (wm rfl (wv (Dr (ys:=ha) (enc:=A9) (i:=0) Jv rfl rfl) (ck hs λhu hw=>wv (EN rfl rfl hu) (ck hw λhe hx=>wv (r:=rv (GQ 5 hd (Int.toNat ((ha.length:Int)-1)) 0)) (JP (i:=0) Jv Rl rfl rfl rfl (BX he)) (wa rfl (Bf (wm rfl (wv (r:=rv (GQ 5 hd (Int.toNat ((ha.length:Int)-1)) 0)) (C8 (k:=0) rfl (BX he) rfl rfl) (wv (r:=rv (GQ 5 hd (Int.toNat ((ha.length:Int)-1)) 1)) (G1 (k:=0) Ju rfl Cq rfl (BX he) rfl rfl rfl) (wv (r:=rI .i64 ((Am ha ((ha.length:Int)-1)).fLeft)) (JO (enc:=A9) (ys:=ha) (i:=0) (j:=(ha.length:Int)-1) CU rfl rfl he rfl) (ck hx λhy hz=>wv (EN rfl rfl hy) (wv (r:=rv (GQ 5 hd (Int.toNat ((ha.length:Int)-1)) 0)) (C8 (k:=0) rfl (BX he) rfl rfl) (wv (r:=rv (GQ 5 hd (Int.toNat ((ha.length:Int)-1)) 1)) (G1 (k:=0) Ju rfl Cq rfl (BX he) rfl rfl rfl) (Iv (enc:=A9) (ys:=ha) (y':=(AD.mk ((Am ha ((ha.length:Int)-1)).fPairs) (((Am ha ((ha.length:Int)-1)).fLeft)-1) ((Am ha ((ha.length:Int)-1)).fKey) ((Am ha ((ha.length:Int)-1)).fLast) ((Am ha ((ha.length:Int)-1)).fStarted))) (i:=0) (j:=(ha.length:Int)-1) Cq rfl rfl (Co rfl) rfl he rfl rfl (H':=[.row hd 166 5 (List.map A9 (List.set ha (Int.toNat ((ha.length:Int)-1)) (AD.mk ((Am ha ((ha.length:Int)-1)).fPairs) (((Am ha ((ha.length:Int)-1)).fLeft)-1) ((Am ha ((ha.length:Int)-1)).fKey) ((Am ha ((ha.length:Int)-1)).fLast) ((Am ha ((ha.length:Int)-1)).fStarted))))]) rfl (bd hz λhb hf h0=>?_)))))))))))))))))))
   rw[← hf]
   refine Ak (Ai (Ae (wm rfl (wv (r:=rv (GQ 5 hd (Int.toNat ((ha.length:Int)-1)) 0)) (C8 (k:=0) rfl (BX (Dt he hf)) rfl rfl) (wv (r:=rv (GQ 5 hd (Int.toNat ((ha.length:Int)-1)) 1)) (G1 (k:=0) Ju rfl Cq rfl (BX (Dt he hf)) rfl rfl rfl) (wv (r:=rI .i64 ((Am hb ((ha.length:Int)-1)).fLeft)) (JO (enc:=A9) (ys:=hb) (i:=0) (j:=(ha.length:Int)-1) CU rfl rfl (Dt he hf) rfl) (wv (Cb rfl rfl) (Ak (cz h0 rfl (λh1 h2=>?_) (λh1 h3=>?_))))))))))
   ·refine Ae (wm rfl (wm rfl (wv (r:=rv (GQ 5 hd (Int.toNat ((ha.length:Int)-1)) 0)) (C8 (k:=0) rfl (BX (Dt he hf)) rfl rfl) (wv (r:=rv (GQ 5 hd (Int.toNat ((ha.length:Int)-1)) 0)) (G1 (k:=0) Ju rfl GR rfl (BX (Dt he hf)) rfl rfl rfl) (wv (r:=rB ((Am hb ((ha.length:Int)-1)).fPairs)) (JO (enc:=A9) (ys:=hb) (i:=0) (j:=(ha.length:Int)-1) MZ rfl rfl (Dt he hf) rfl) (wv (r:=rv (GQ 5 hd (Int.toNat ((ha.length:Int)-1)) 0)) (C8 (k:=0) rfl (BX (Dt he hf)) rfl rfl) (wv (r:=rv (GQ 5 hd (Int.toNat ((ha.length:Int)-1)) 2)) (G1 (k:=0) Ju rfl GR rfl (BX (Dt he hf)) rfl rfl rfl) (Iv (enc:=A9) (ys:=hb) (y':=(AD.mk ((Am hb ((ha.length:Int)-1)).fPairs) ((Am hb ((ha.length:Int)-1)).fLeft) ((Am hb ((ha.length:Int)-1)).fPairs) ((Am hb ((ha.length:Int)-1)).fLast) ((Am hb ((ha.length:Int)-1)).fStarted))) (i:=0) (j:=(ha.length:Int)-1) GR rfl rfl (Co rfl) rfl (Dt he hf) rfl rfl (H':=[.row hd 166 5 (List.map A9 (List.set hb (Int.toNat ((ha.length:Int)-1)) (AD.mk ((Am hb ((ha.length:Int)-1)).fPairs) ((Am hb ((ha.length:Int)-1)).fLeft) ((Am hb ((ha.length:Int)-1)).fPairs) ((Am hb ((ha.length:Int)-1)).fLast) ((Am hb ((ha.length:Int)-1)).fStarted))))]) rfl (bd h2 λhG h4 h5=>?_)))))))))
    rw[← h4]
    refine Bf (wm rfl (wa rfl (Ak (Aq (Ac (Av (Ac (AS ?_))))))))
    have h6:=Bm h5 hi hk
    refine Av (Ac ?_)
    obtain rfl:=As h6
    exact Ap (BW Tryz.results147 (A4 rfl)) (sC sN) ⟨hd,rfl,rfl⟩
   ·refine An (AF (Af (wm rfl (wm rfl (wv (Dr (ys:=hb) (enc:=A9) (i:=0) Jv rfl rfl) (ck h3 λh7 h8=>wv (EN rfl rfl h7) (ck h8 λh9 hA=>Ab9 (i:=0) Jv Rl rfl rfl rfl h9 rfl (λhB=>?_))))))))
    refine wa rfl (Aj (A8 ?_))
    have hC:=Bb hA hi
    exact Ar (A3 (hp,List.take (Int.toNat ((hb.length:Int)-1)) hb,hB) ⟨hC,AcL _⟩ (AC.c rfl (AC.c rfl AC.nil)) (sC sN))
  ·refine Bo (At ?_)
   have hD:=BI ht hi hk
   exact At (Bc (A3 (ha,hd) hD (AC.c rfl (AC.c rfl AC.nil)) (sC sN)))
 ·rintro⟨hl,hj⟩ hh
  refine Cf (l':=[(0,rv hj),(2,rv (.slice none 0 0))]) (H':=[.row hj 166 5 (List.map A9 hl)]) rfl rfl ?_
  replace hh:EZ hl=some r:=hh
  unfold EZ at hh
  refine AZ (AF (Ae (wm rfl (wa rfl (Ak (Aq ?_))))))
  obtain rfl:=As hh
  exact Ap (BW Tryz.results147 (A4 rfl)) (sC sN) ⟨hj,rfl,rfl⟩
theorem Qw (F:Nat) (v:(List Aa)) (r:Int×AM×Bool) (h:Jy F v=some r):Fn Tryz.prog GE 106 [AV 4 (List.map Ab v)] [] (λR H=>R=Cm [rI .i64 r.1,B9 (Ba r.2.1),rB r.2.2]∧H=[]):=by
 refine enter (n:=152) Tryz.func106 rfl Tryz.ntmps106 rfl (λw Z=>?_)
 unfold Jy at h
 refine Ae (wa rfl (BT (cs:=[rI .i64 0,rI .i64 0,rB false,rB false]) Rj rfl rfl (λb1=>?_)))
 refine wa rfl (Ak (Ww (Ae (BT (cs:=[rI .i64 0,rI .i64 0,rB false,rB false]) Rj rfl rfl (λb2=>?_)))))
 refine Bf (wa rfl (Ak (Ai (Wx (AF (Ai (Ae (wm rfl (wv (Bv (ys:=v) (enc:=Ab) BP rfl) (wv (r:=rI .i64 0) (Al rfl) (Ak (AB (WC.nilrow (e:=166) (sz:=5) (NE (H2:=[.blk b2 [rI .i64 0,rI .i64 0,rB false,rB false] 133,.blk b1 [rI .i64 0,rI .i64 0,rB false,rB false] 133,.row (.slice none 0 0                                                                                                                                                                      ) 166 5 (List.map A9 ([]:List AD))]) ((A5 (i:=1) rfl).trans (List.Perm.cons _ ((A5 (i:=1) rfl).trans (List.Perm.cons _ (List.Perm.refl _))))) (ob h λhA hB hy=>Bk (S:=Nat×((List AD)×Int×AM)×(Value)) (V:=(AM)×(Unit)) 0 (λσ=>BF (λσ=>Em F v σ.1 σ.2.1 σ.2.2) σ.1 σ.2.1=some hA) (λσ=>[(0,AV 4 (List.map Ab v)),(3,rP b1 0),(5,rP b2 0),(6,rv σ.2.2),(11,AV 4 (List.map Ab v)),(12,rI .i64 (v.length:Int)),(13,rI .i64 σ.2.1.2.1)]) (λσ=>[.blk b2 (Ba σ.2.1.2.2) 133,.blk b1 [rI .i64 0,rI .i64 0,rB false,rB false] 133,.row σ.2.2 166 5 (List.map A9 σ.2.1.1)]) (λσ=>σ.1) (F,(([]:List AD),0,(AM.mk 0 0 false false)),(.slice none 0 0                                                                                                                                                                      )) hB (AC.c rfl (AC.c rfl (AC.c5 rfl rfl rfl rfl rfl AC.nil))) (sC (sC (sC sN))) (λσ=>L0 σ.1=some r) (λσ=>[(3,rP b1 0),(5,rP b2 0)]) (λσ=>[.blk b2 (Ba σ.1) 133,.blk b1 [rI .i64 0,rI .i64 0,rB false,rB false] 133]) ?_ ?_)))))))))))))))
 ·rintro⟨gG,⟨hd,hb,ha⟩,he⟩ hC
  refine BO (l':=[(0,AV 4 (List.map Ab v)),(3,rP b1 0),(5,rP b2 0),(6,rv he),(11,AV 4 (List.map Ab v)),(12,rI .i64 (v.length:Int)),(13,rI .i64 hb)]) (H':=[.blk b2 (Ba ha) 133,.blk b1 [rI .i64 0,rI .i64 0,rB false,rB false] 133,.row he 166 5 (List.map A9 hd)]) rfl rfl ?_
  obtain⟨hD,rfl,h4,h0,hx⟩:=Ce hC
  replace h0:Em F v hd hb ha=some h4:=h0
  unfold Em at h0
  refine Ae (wv (BY rfl rfl) (Ak (Ai (cz h0 rfl (λhE hG=>?_) (λhE hH=>?_)))))
  ·refine An (AF (DS (S:=((List AD)×AM)×(Value)) (λσ=>EK hb σ.1.1 σ.1.2=some h4) (λσ=>[(0,AV 4 (List.map Ab v)),(3,rP b1 0),(5,rP b2 0),(6,rv σ.2),(11,AV 4 (List.map Ab v)),(12,rI .i64 (v.length:Int)),(13,rI .i64 hb)]) (λσ=>[.blk b2 (Ba σ.1.2) 133,.blk b1 [rI .i64 0,rI .i64 0,rB false,rB false] 133,.row σ.2 166 5 (List.map A9 σ.1.1)]) ?_ ?_))
   ·refine AB (Ae (wm rfl (ck hG λhI hJ=>wv (Bh (enc:=Ab) (ys:=v) BP Ch rfl rfl hI) (wv (D1 Mx Ch rfl rfl rfl) (BT (cs:=[rI .i64 0,rI .i64 0,rS ([]:Ag),rI .i64 0]) EH rfl rfl (λhf=>?_))))))
    refine wa rfl (Bj (i:=0) Ch rfl rfl rfl (BE.c rfl) rfl rfl (cs':=[rI .i64 ((Am v hb).fKind),rI .i64 ((Am v hb).fInt),rS ((Am v hb).fStr),rI .i64 ((Am v hb).fN)]) rfl (H':=[.blk hf (Ab (Am v hb)) 78,.blk b2 (Ba ha) 133,.blk b1 [rI .i64 0,rI .i64 0,rB false,rB false] 133,.row he 166 5 (List.map A9 hd)]) rfl (Ak (Ai (Ae (wv (B0 (i:=0) Mx Ch rfl rfl rfl rfl) (ob hJ λhK hL hN=>Cg Tryz.call144 (W2 F (Am v hb) hK hL) rfl (wv (Cd rfl) (Ak (cz hN rfl (λhO hP=>?_) (λhO hQ=>?_))))))))))
    ·refine Ai (EW (H1:=[.blk hf (Ab (Am v hb)) 78,.blk b2 (Ba ha) 133,.blk b1 (Ba ha) 133,.row he 166 5 (List.map A9 hd)]) [3,5] [⟨[],B9 (Ba ha),1⟩,⟨[],rI .i64 0,0⟩,⟨[0],rv undef,2⟩,⟨[],rB false,0⟩] (rle [(3,_),(2,[.blk hf (Ab (Am v hb)) 78,.blk b2 (Ba ha) 133,.blk b1 (Ba ha) 133,.row he 166 5 (List.map A9 hd)])]) [2,4,3] ?_ ?_)
     ·refine of (B0 (i:=1) KK G7 rfl rfl rfl rfl) (oq (Ao rfl) (Ij rfl (N3 (C4 (i:=2) G7 rfl rfl rfl (BE.c rfl) rfl rfl (cs':=[rI .i64 ha.fDepth,rI .i64 ha.fBytes,rB ha.fOutside,rB ha.fLong]) rfl (H':=[.blk hf (Ab (Am v hb)) 78,.blk b2 (Ba ha) 133,.blk b1 (Ba ha) 133,.row he 166 5 (List.map A9 hd)]) rfl)) ?_))
      refine oq (Ao rfl) ?_
      exact Cj
     refine AF (Aq (Ac (Av (Ac (Ac (AS ?_))))))
     have hR:=Bm hP hx hy
     refine Av (Ac (Ke ?_))
     obtain rfl:=As hR
     exact Ap (SQ Rr (A4 rfl) (Gi (i:=2) KK G7 rfl rfl rfl) (A4 rfl)) (sS (sS (sS (sS sN)))) ⟨rfl,rfl⟩
    ·refine An (AF (Ai (Ae (wm rfl (wv (Dr (ys:=hd) (enc:=A9) (i:=3) Jv rfl rfl) (wa rfl (Ak (ck hQ λhS hT=>ck hT λh5 hU=>A6 [(0,AV 4 (List.map Ab v)),(3,rP b1 0),(5,rP b2 0),(6,rv he),(7,rI .i64 hb),(8,rP hf 0),(9,rI .i64 (hd.length:Int)),(11,AV 4 (List.map Ab v)),(12,rI .i64 (v.length:Int)),(13,rI .i64 hb),(33,rB ((decide (0<(hd.length:Int)))&&((Am hd ((hd.length:Int)-1)).fKey)))] [.blk hf (Ab (Am v hb)) 78,.blk b2 (Ba ha) 133,.blk b1 [rI .i64 0,rI .i64 0,rB false,rB false] 133,.row he 166 5 (List.map A9 hd)] ?_ ?_))))))))
     ·refine Af (wm rfl (wv (Cb rfl rfl) (wm rfl (AI (decide (0<(hd.length:Int))) (λhi=>?_) (λhi=>?_)))))
      ·refine wo hi (wm rfl (wo hi (wm rfl (wo hi (wv (EN rfl rfl (C2 hS hi)) (wo hi (wv (r:=rv (GQ 5 he (Int.toNat ((hd.length:Int)-1)) 0)) (JP (i:=3) Jv Rl rfl rfl rfl (BX (C2 h5 hi))) (wo hi (wv (r:=rv (GQ 5 he (Int.toNat ((hd.length:Int)-1)) 2)) (G1 (k:=3) Ju rfl GR rfl (BX (C2 h5 hi)) rfl rfl rfl) (wo hi (wv (r:=rB ((Am hd ((hd.length:Int)-1)).fKey)) (JO (enc:=A9) (ys:=hd) (i:=3) (j:=(hd.length:Int)-1) MZ rfl rfl (C2 h5 hi) rfl) (EF rfl hi rfl (Aj ?_)))))))))))))
       exact BM hi
      ·refine wf hi (wf hi (wf hi (wf hi (wf hi (wf hi (wv (r:=rB false) (A7 rfl hi rfl) (Aj ?_)))))))
       exact BM hi
     refine cz hU rfl (λhV hW=>?_) (λhV hX=>?_)
     ·refine Ae (wm rfl (wm rfl (ck hW λhY hZ=>wv (EN rfl rfl hY) (ck hZ λhj ga=>wv (r:=rv (GQ 5 he (Int.toNat ((hd.length:Int)-1)) 0)) (JP (i:=3) Jv Rl rfl rfl rfl (BX hj)) (wa rfl (Ak (Ai (A6 [(0,AV 4 (List.map Ab v)),(3,rP b1 0),(5,rP b2 0),(6,rv he),(8,rP hf 0),(10,rv (GQ 5 he (Int.toNat ((hd.length:Int)-1)) 0)),(11,AV 4 (List.map Ab v)),(12,rI .i64 (v.length:Int)),(13,rI .i64 hb),(38,rP hf 0),(39,rI .i64 ((Am v hb).fKind)),(40,rB (!decide (((Am v hb).fKind)=4))),(41,rB (!decide (((Am v hb).fKind)=4))),(55,rB ((!decide (((Am v hb).fKind)=4))||(((Am hd ((hd.length:Int)-1)).fStarted)&&(Ci ((Am v hb).fStr) ((Am hd ((hd.length:Int)-1)).fLast)||decide (((Am v hb).fStr)=((Am hd ((hd.length:Int)-1)).fLast))))))] [.blk hf (Ab (Am v hb)) 78,.blk b2 (Ba ha) 133,.blk b1 [rI .i64 0,rI .i64 0,rB false,rB false] 133,.row he 166 5 (List.map A9 hd)] ?_ ?_))))))))
      ·refine AI (!decide (((Am v hb).fKind)=4)) (λhh=>?_) (λhh=>?_)
       ·refine CH [0,3,5,6,8,10,11,12,13] [⟨[],rP hf 0,0⟩,⟨[0],rI .i64 ((Am v hb).fKind),1⟩,⟨[1],rB (!decide (((Am v hb).fKind)=4)),0⟩,⟨[2],rB (!decide (((Am v hb).fKind)=4)),0⟩,⟨[3],rv undef,0⟩,⟨[4,3],rv undef,0⟩,⟨[5,3],rv undef,0⟩,⟨[6,3],rv undef,0⟩,⟨[7,3],rv undef,0⟩,⟨[8],rv undef,0⟩,⟨[9,8],rv undef,0⟩,⟨[8],rv undef,0⟩,⟨[11,8],rv undef,0⟩,⟨[12,8],rv undef,0⟩,⟨[13,8],rv undef,0⟩,⟨[10,14,8],rv undef,0⟩,⟨[8,15,3],rv undef,0⟩,⟨[3,16],rB true,0⟩] [38,39,40,41,42,43,44,45,46,47,48,49,50,51,52,53,54,55,0,3,5,6,8,10,11,12,13] ?_ ?_
        ·refine oq (AH B2 rfl Eh rfl rfl) (of (Bp (i:=0) E3 rfl rfl rfl) (oq (CB rfl rfl) (oq (Al rfl) (oz hh (oz hh (oz hh (oz hh (oz hh (ou (ou (ou (ou (ou (ou (ou (oz hh (oq (Au (b:=!decide (((Am v hb).fKind)=4)) rfl hh rfl) ?_)))))))))))))))))
         exact Cj
        exact BM hh
       ·refine AI ((Am hd ((hd.length:Int)-1)).fStarted) (λhk=>?_) (λhk=>?_)
        ·refine CH [0,3,5,6,8,10,11,12,13] [⟨[],rP hf 0,0⟩,⟨[0],rI .i64 ((Am v hb).fKind),1⟩,⟨[1],rB (!decide (((Am v hb).fKind)=4)),0⟩,⟨[2],rB (!decide (((Am v hb).fKind)=4)),0⟩,⟨[3],rv (GQ 5 he (Int.toNat ((hd.length:Int)-1)) 0),0⟩,⟨[4,3],rv (GQ 5 he (Int.toNat ((hd.length:Int)-1)) 0),1⟩,⟨[5,3],rv (GQ 5 he (Int.toNat ((hd.length:Int)-1)) 4),1⟩,⟨[6,3],rB ((Am hd ((hd.length:Int)-1)).fStarted),1⟩,⟨[7,3],rB ((Am hd ((hd.length:Int)-1)).fStarted),0⟩,⟨[8],rP hf 2,0⟩,⟨[9,8],rS ((Am v hb).fStr),1⟩,⟨[8],rv (GQ 5 he (Int.toNat ((hd.length:Int)-1)) 0),0⟩,⟨[11,8],rv (GQ 5 he (Int.toNat ((hd.length:Int)-1)) 0),1⟩,⟨[12,8],rv (GQ 5 he (Int.toNat ((hd.length:Int)-1)) 3),1⟩,⟨[13,8],rS ((Am hd ((hd.length:Int)-1)).fLast),1⟩,⟨[10,14,8],rB (Ci ((Am v hb).fStr) ((Am hd ((hd.length:Int)-1)).fLast)||decide (((Am v hb).fStr)=((Am hd ((hd.length:Int)-1)).fLast))),0⟩,⟨[8,15,3],rB (Ci ((Am v hb).fStr) ((Am hd ((hd.length:Int)-1)).fLast)||decide (((Am v hb).fStr)=((Am hd ((hd.length:Int)-1)).fLast))),0⟩,⟨[3,16],rB (Ci ((Am v hb).fStr) ((Am hd ((hd.length:Int)-1)).fLast)||decide (((Am v hb).fStr)=((Am hd ((hd.length:Int)-1)).fLast))),0⟩] [38,39,40,41,42,43,44,45,46,47,48,49,50,51,52,53,54,55,0,3,5,6,8,10,11,12,13] ?_ ?_
         ·refine oq (AH B2 rfl Eh rfl rfl) (of (Bp (i:=0) E3 rfl rfl rfl) (oq (CB rfl rfl) (oq (Al rfl) (on hh (oq (Al rfl) (on hh (of (C8 (k:=3) rfl (BX hj) rfl rfl) (on hh (of (G1 (k:=3) Ju rfl GR rfl (BX hj) rfl rfl rfl) (on hh (of (JO (enc:=A9) (ys:=hd) (i:=3) (j:=(hd.length:Int)-1) MZ rfl rfl hj rfl) (on hh (oq (Al rfl) (on hk (oq (AH B2 rfl CD rfl rfl) (on hk (of (Bp (i:=0) Dm rfl rfl rfl) (on hk (oq (Al rfl) (on hk (of (C8 (k:=3) rfl (BX hj) rfl rfl) (on hk (of (G1 (k:=3) Ju rfl CD rfl (BX hj) rfl rfl rfl) ?_)))))))))))))))))))))))
          refine on hk (of (JO (enc:=A9) (ys:=hd) (i:=3) (j:=(hd.length:Int)-1) Dm rfl rfl hj rfl) (on hk (oq (Uf rfl rfl) (on hh (oq (Au rfl hk rfl) (oq (A7 rfl hh rfl) ?_))))))
          exact Cj
         exact BM (And.intro hh hk)
        ·refine CH [0,3,5,6,8,10,11,12,13] [⟨[],rP hf 0,0⟩,⟨[0],rI .i64 ((Am v hb).fKind),1⟩,⟨[1],rB (!decide (((Am v hb).fKind)=4)),0⟩,⟨[2],rB (!decide (((Am v hb).fKind)=4)),0⟩,⟨[3],rv (GQ 5 he (Int.toNat ((hd.length:Int)-1)) 0),0⟩,⟨[4,3],rv (GQ 5 he (Int.toNat ((hd.length:Int)-1)) 0),1⟩,⟨[5,3],rv (GQ 5 he (Int.toNat ((hd.length:Int)-1)) 4),1⟩,⟨[6,3],rB ((Am hd ((hd.length:Int)-1)).fStarted),1⟩,⟨[7,3],rB ((Am hd ((hd.length:Int)-1)).fStarted),0⟩,⟨[8],rv undef,0⟩,⟨[9,8],rv undef,0⟩,⟨[8],rv undef,0⟩,⟨[11,8],rv undef,0⟩,⟨[12,8],rv undef,0⟩,⟨[13,8],rv undef,0⟩,⟨[10,14,8],rv undef,0⟩,⟨[8,15,3],rB false,0⟩,⟨[3,16],rB false,0⟩] [38,39,40,41,42,43,44,45,46,47,48,49,50,51,52,53,54,55,0,3,5,6,8,10,11,12,13] ?_ ?_
         ·refine oq (AH B2 rfl Eh rfl rfl) (of (Bp (i:=0) E3 rfl rfl rfl) (oq (CB rfl rfl) (oq (Al rfl) (on hh (oq (Al rfl) (on hh (of (C8 (k:=3) rfl (BX hj) rfl rfl) (on hh (of (G1 (k:=3) Ju rfl GR rfl (BX hj) rfl rfl rfl) (on hh (of (JO (enc:=A9) (ys:=hd) (i:=3) (j:=(hd.length:Int)-1) MZ rfl rfl hj rfl) (on hh (oq (Al rfl) (oz hk (oz hk (oz hk (oz hk (oz hk (oz hk (oz hk (on hh (oq (A7 (b:=(Am hd ((hd.length:Int)-1)).fStarted) rfl hk rfl) (oq (A7 rfl hh rfl) ?_)))))))))))))))))))))))
          exact Cj
         exact BM (And.intro hh hk)
      refine cz ga rfl (λgb gc=>?_) (λgb gd=>?_)
      ·refine Ai (EW (H1:=[.blk hf (Ab (Am v hb)) 78,.blk b2 (Ba ha) 133,.blk b1 (Ba ha) 133,.row he 166 5 (List.map A9 hd)]) [3,5] [⟨[],B9 (Ba ha),1⟩,⟨[],rI .i64 0,0⟩,⟨[0],rv undef,2⟩,⟨[],rB false,0⟩] (rle [(3,_),(2,[.blk hf (Ab (Am v hb)) 78,.blk b2 (Ba ha) 133,.blk b1 (Ba ha) 133,.row he 166 5 (List.map A9 hd)])]) [2,4,3] ?_ ?_)
       ·refine of (B0 (i:=1) KK G7 rfl rfl rfl rfl) (oq (Ao rfl) (Ij rfl (N3 (C4 (i:=2) G7 rfl rfl rfl (BE.c rfl) rfl rfl (cs':=[rI .i64 ha.fDepth,rI .i64 ha.fBytes,rB ha.fOutside,rB ha.fLong]) rfl (H':=[.blk hf (Ab (Am v hb)) 78,.blk b2 (Ba ha) 133,.blk b1 (Ba ha) 133,.row he 166 5 (List.map A9 hd)]) rfl)) ?_))
        refine oq (Ao rfl) ?_
        exact Cj
       refine AF (Aq (Ac (Ac (Av (Ac (Ac (AS ?_)))))))
       have ge:=Bm gc hx hy
       refine Av (Ac (Ke ?_))
       obtain rfl:=As ge
       exact Ap (SQ Rr (A4 rfl) (Gi (i:=2) KK G7 rfl rfl rfl) (A4 rfl)) (sS (sS (sS (sS sN)))) ⟨rfl,rfl⟩
      ·refine An (AF (Ae (wm rfl (wm rfl (wm rfl (vF B2 rfl CD (vL 0 Dm rfl (wv (r:=rv (GQ 5 he (Int.toNat ((hd.length:Int)-1)) 0)) (C8 (k:=3) rfl (BX hj) rfl rfl) (wv (r:=rv (GQ 5 he (Int.toNat ((hd.length:Int)-1)) 3)) (G1 (k:=3) Ju rfl CD rfl (BX hj) rfl rfl rfl) (Iv (enc:=A9) (ys:=hd) (y':=(AD.mk ((Am hd ((hd.length:Int)-1)).fPairs) ((Am hd ((hd.length:Int)-1)).fLeft) ((Am hd ((hd.length:Int)-1)).fKey) ((Am v hb).fStr) ((Am hd ((hd.length:Int)-1)).fStarted))) (i:=3) (j:=(hd.length:Int)-1) CD rfl rfl (Co rfl) rfl hj rfl rfl (H':=[.blk hf (Ab (Am v hb)) 78,.blk b2 (Ba ha) 133,.blk b1 [rI .i64 0,rI .i64 0,rB false,rB false] 133,.row he 166 5 (List.map A9 (List.set hd (Int.toNat ((hd.length:Int)-1)) (AD.mk ((Am hd ((hd.length:Int)-1)).fPairs) ((Am hd ((hd.length:Int)-1)).fLeft) ((Am hd ((hd.length:Int)-1)).fKey) ((Am v hb).fStr) ((Am hd ((hd.length:Int)-1)).fStarted))))]) rfl (bd gd λhr hu gf=>?_)))))))))))
       rw[← hu]
       refine wv (r:=rv (GQ 5 he (Int.toNat ((hd.length:Int)-1)) 0)) (C8 (k:=3) rfl (BX (Dt hj hu)) rfl rfl) (wv (r:=rv (GQ 5 he (Int.toNat ((hd.length:Int)-1)) 4)) (G1 (k:=3) Ju rfl GR rfl (BX (Dt hj hu)) rfl rfl rfl) (Iv (enc:=A9) (ys:=hr) (y':=(AD.mk ((Am hr ((hd.length:Int)-1)).fPairs) ((Am hr ((hd.length:Int)-1)).fLeft) ((Am hr ((hd.length:Int)-1)).fKey) ((Am hr ((hd.length:Int)-1)).fLast) true)) (i:=3) (j:=(hd.length:Int)-1) GR rfl rfl (Co rfl) rfl (Dt hj hu) rfl rfl (H':=[.blk hf (Ab (Am v hb)) 78,.blk b2 (Ba ha) 133,.blk b1 [rI .i64 0,rI .i64 0,rB false,rB false] 133,.row he 166 5 (List.map A9 (List.set hr (Int.toNat ((hd.length:Int)-1)) (AD.mk ((Am hr ((hd.length:Int)-1)).fPairs) ((Am hr ((hd.length:Int)-1)).fLeft) ((Am hr ((hd.length:Int)-1)).fKey) ((Am hr ((hd.length:Int)-1)).fLast) true)))]) rfl (bd gf λhs h1 gg=>?_)))
       rw[← h1]
       refine wv (r:=rv (GQ 5 he (Int.toNat ((hd.length:Int)-1)) 0)) (C8 (k:=3) rfl (BX (Dt (Dt hj hu) h1)) rfl rfl) (wv (r:=rv (GQ 5 he (Int.toNat ((hd.length:Int)-1)) 2)) (G1 (k:=3) Ju rfl GR rfl (BX (Dt (Dt hj hu) h1)) rfl rfl rfl) (Iv (enc:=A9) (ys:=hs) (y':=(AD.mk ((Am hs ((hd.length:Int)-1)).fPairs) ((Am hs ((hd.length:Int)-1)).fLeft) false ((Am hs ((hd.length:Int)-1)).fLast) ((Am hs ((hd.length:Int)-1)).fStarted))) (i:=3) (j:=(hd.length:Int)-1) GR rfl rfl (Co rfl) rfl (Dt (Dt hj hu) h1) rfl rfl (H':=[.blk hf (Ab (Am v hb)) 78,.blk b2 (Ba ha) 133,.blk b1 [rI .i64 0,rI .i64 0,rB false,rB false] 133,.row he 166 5 (List.map A9 (List.set hs (Int.toNat ((hd.length:Int)-1)) (AD.mk ((Am hs ((hd.length:Int)-1)).fPairs) ((Am hs ((hd.length:Int)-1)).fLeft) false ((Am hs ((hd.length:Int)-1)).fLast) ((Am hs ((hd.length:Int)-1)).fStarted))))]) rfl (bd gg λht gh gi=>?_)))
       rw[← gh]
       refine Ak (Ai (ob gi λhl gj gk=>ck gk λgl gm=>EW (H1:=[.blk hf (Ab (Am v hb)) 78,.blk b2 [rI .i64 ha.fDepth,rI .i64 (IntKind.wrap .i64 (ha.fBytes+(hl+1))),rB ha.fOutside,rB ha.fLong] 133,.blk b1 [rI .i64 0,rI .i64 0,rB false,rB false] 133,.row he 166 5 (List.map A9 ht)]) [0,3,5,6,8,11,12,13,38,39,40,41] [⟨[],rP b2 1,0⟩,⟨[0],rI .i64 ha.fBytes,1⟩,⟨[],rP hf 2,0⟩,⟨[2],rS ((Am v hb).fStr),1⟩,⟨[3],rI .i64 hl,0⟩,⟨[4],rI .i64 (hl+1),0⟩,⟨[1,5],rI .i64 (IntKind.wrap .i64 (ha.fBytes+(hl+1))),0⟩,⟨[],rP b2 1,0⟩,⟨[7,6],rv undef,2⟩] (rle [(9,_),(1,[.blk hf (Ab (Am v hb)) 78,.blk b2 [rI .i64 ha.fDepth,rI .i64 (IntKind.wrap .i64 (ha.fBytes+(hl+1))),rB ha.fOutside,rB ha.fLong] 133,.blk b1 [rI .i64 0,rI .i64 0,rB false,rB false] 133,.row he 166 5 (List.map A9 ht)])]) [68,69,70,71,72,73,74,75,0,3,5,6,8,11,12,13,38,39,40,41] ?_ ?_))
       ·refine oq (AH Gf rfl Cq rfl rfl) (of (Bp (i:=1) CU rfl rfl rfl) (oq (AH B2 rfl CD rfl rfl) (of (Bp (i:=0) Dm rfl rfl rfl) (Ee rfl (λH=>HR Tryz.call145 (P6 ((Am v hb).fStr) hl gj) rfl) ?_))))
        refine oq (AX rfl rfl gl) (oq (Tv rfl rfl) (oq (AH Gf rfl Cq rfl rfl) (Ij rfl (N3 (Qt (i:=1) Cq rfl rfl (Co rfl) rfl rfl (cs':=[rI .i64 ha.fDepth,rI .i64 (IntKind.wrap .i64 (ha.fBytes+(hl+1))),rB ha.fOutside,rB ha.fLong]) rfl (H':=[.blk hf (Ab (Am v hb)) 78,.blk b2 [rI .i64 ha.fDepth,rI .i64 (IntKind.wrap .i64 (ha.fBytes+(hl+1))),rB ha.fOutside,rB ha.fLong] 133,.blk b1 [rI .i64 0,rI .i64 0,rB false,rB false] 133,.row he 166 5 (List.map A9 ht)]) rfl)) ?_)))
        exact Cj
       refine AF (A6 [(0,AV 4 (List.map Ab v)),(3,rP b1 0),(5,rP b2 0),(6,rv he),(11,AV 4 (List.map Ab v)),(12,rI .i64 (v.length:Int)),(13,rI .i64 hb),(38,rP hf 0),(39,rI .i64 ((Am v hb).fKind)),(40,rB (!decide (((Am v hb).fKind)=4))),(41,rB (!decide (((Am v hb).fKind)=4))),(68,rP b2 1),(69,rI .i64 ha.fBytes),(70,rP hf 2),(71,rS ((Am v hb).fStr)),(72,rI .i64 hl),(73,rI .i64 (hl+1)),(74,rI .i64 (IntKind.wrap .i64 (ha.fBytes+(hl+1)))),(75,rP b2 1)] [.blk hf (Ab (Am v hb)) 78,.blk b2 [rI .i64 ha.fDepth,rI .i64 (IntKind.wrap .i64 (ha.fBytes+(hl+1))),rB ha.fOutside,rB (ha.fLong||(decide (200<(((Am v hb).fStr).length:Int))))] 133,.blk b1 [rI .i64 0,rI .i64 0,rB false,rB false] 133,.row he 166 5 (List.map A9 ht)] ?_ ?_)
       ·refine Af (vF Gf rfl GR (vL 1 MZ rfl (wm rfl (AI (ha.fLong) (λho=>?_) (λho=>?_)))))
        ·refine wf ho (wf ho (wf ho (wf ho (wv (r:=rB true) (Au rfl ho rfl) (vF Gf rfl GR (BB (i:=1) GR rfl rfl (Co rfl) rfl rfl (cs':=[rI .i64 ha.fDepth,rI .i64 (IntKind.wrap .i64 (ha.fBytes+(hl+1))),rB ha.fOutside,rB true]) rfl (H':=[.blk hf (Ab (Am v hb)) 78,.blk b2 [rI .i64 ha.fDepth,rI .i64 (IntKind.wrap .i64 (ha.fBytes+(hl+1))),rB ha.fOutside,rB true] 133,.blk b1 [rI .i64 0,rI .i64 0,rB false,rB false] 133,.row he 166 5 (List.map A9 ht)]) rfl (Aj (Jg (H':=[.blk hf (Ab (Am v hb)) 78,.blk b2 [rI .i64 ha.fDepth,rI .i64 (IntKind.wrap .i64 (ha.fBytes+(hl+1))),rB ha.fOutside,rB (ha.fLong||(decide (200<(((Am v hb).fStr).length:Int))))] 133,.blk b1 [rI .i64 0,rI .i64 0,rB false,rB false] 133,.row he 166 5 (List.map A9 ht)]) (by simp only[ho,AcN,AcT,Adc,AcQ,AcR,AcV,Ada,AcX,AcO,AcW,AcJ,AcF]) ?_))))))))
         exact wt
        ·refine wo ho (vF B2 rfl CD (wo ho (vL 0 Dm rfl (wo ho (wv (AW BC rfl) (wo ho (wv (Cb rfl rfl) (DR rfl ho rfl (vF Gf rfl GR (BB (i:=1) GR rfl rfl (Co rfl) rfl rfl (cs':=[rI .i64 ha.fDepth,rI .i64 (IntKind.wrap .i64 (ha.fBytes+(hl+1))),rB ha.fOutside,rB (decide (200<(((Am v hb).fStr).length:Int)))]) rfl (H':=[.blk hf (Ab (Am v hb)) 78,.blk b2 [rI .i64 ha.fDepth,rI .i64 (IntKind.wrap .i64 (ha.fBytes+(hl+1))),rB ha.fOutside,rB (decide (200<(((Am v hb).fStr).length:Int)))] 133,.blk b1 [rI .i64 0,rI .i64 0,rB false,rB false] 133,.row he 166 5 (List.map A9 ht)]) rfl (Aj (Jg (H':=[.blk hf (Ab (Am v hb)) 78,.blk b2 [rI .i64 ha.fDepth,rI .i64 (IntKind.wrap .i64 (ha.fBytes+(hl+1))),rB ha.fOutside,rB (ha.fLong||(decide (200<(((Am v hb).fStr).length:Int))))] 133,.blk b1 [rI .i64 0,rI .i64 0,rB false,rB false] 133,.row he 166 5 (List.map A9 ht)]) (by simp only[ho,AcN,AcT,Adc,AcQ,AcR,AcV,Ada,AcX,AcO,AcW,AcJ,AcF]) ?_))))))))))))
         exact wt
       exact Bo (At (AZ (Ar (A3 ((ht,(AM.mk ha.fDepth (IntKind.wrap .i64 (ha.fBytes+(hl+1))) ha.fOutside (ha.fLong||(decide (200<(((Am v hb).fStr).length:Int)))))),he) gm (AC.c rfl (AC.c rfl (AC.c5 rfl rfl rfl rfl rfl AC.nil))) (sS (sC (sC (sC sN))))))))
     ·refine An (AF (Ae (vF Gf rfl Cq (vL 1 CU rfl (wm rfl (wv (Dr (ys:=hd) (enc:=A9) (i:=3) Jv rfl rfl) (ck hX λgn gp=>wv (AX rfl rfl gn) (wv (Aar MY rfl rfl) (vF Gf rfl Cq (BB (i:=1) Cq rfl rfl (Co rfl) rfl rfl (cs':=[rI .i64 (max ha.fDepth ((hd.length:Int)+1)),rI .i64 ha.fBytes,rB ha.fOutside,rB ha.fLong]) rfl (H':=[.blk hf (Ab (Am v hb)) 78,.blk b2 [rI .i64 (max ha.fDepth ((hd.length:Int)+1)),rI .i64 ha.fBytes,rB ha.fOutside,rB ha.fLong] 133,.blk b1 [rI .i64 0,rI .i64 0,rB false,rB false] 133,.row he 166 5 (List.map A9 hd)]) rfl (Ak (Ai (ob gp λhg gq gr=>EW (H1:=[.blk hf (Ab (Am v hb)) 78,.blk b2 [rI .i64 (max ha.fDepth ((hd.length:Int)+1)),rI .i64 (IntKind.wrap .i64 (ha.fBytes+hg)),rB ha.fOutside,rB ha.fLong] 133,.blk b1 [rI .i64 0,rI .i64 0,rB false,rB false] 133,.row he 166 5 (List.map A9 hd)]) [0,3,5,6,7,8,11,12,13] [⟨[],rP b2 1,0⟩,⟨[0],rI .i64 ha.fBytes,1⟩,⟨[],B9 (Ab (Am v hb)),1⟩,⟨[2],rI .i64 hg,0⟩,⟨[1,3],rI .i64 (IntKind.wrap .i64 (ha.fBytes+hg)),0⟩,⟨[],rP b2 1,0⟩,⟨[5,4],rv undef,2⟩] (rle [(7,_),(1,[.blk hf (Ab (Am v hb)) 78,.blk b2 [rI .i64 (max ha.fDepth ((hd.length:Int)+1)),rI .i64 (IntKind.wrap .i64 (ha.fBytes+hg)),rB ha.fOutside,rB ha.fLong] 133,.blk b1 [rI .i64 0,rI .i64 0,rB false,rB false] 133,.row he 166 5 (List.map A9 hd)])]) [92,93,94,95,96,97,0,3,5,6,7,8,11,12,13] ?_ ?_)))))))))))))
      ·refine oq (AH Gf rfl Cq rfl rfl) (of (Bp (i:=1) CU rfl rfl rfl) (of (B0 (i:=0) Mx Ch rfl rfl rfl rfl) (Ee rfl (λH=>HR Tryz.call146 (Zo (Am v hb) hg gq) rfl) ?_)))
       refine oq (Tv rfl rfl) (oq (AH Gf rfl Cq rfl rfl) (Ij rfl (N3 (Qt (i:=1) Cq rfl rfl (Co rfl) rfl rfl (cs':=[rI .i64 (max ha.fDepth ((hd.length:Int)+1)),rI .i64 (IntKind.wrap .i64 (ha.fBytes+hg)),rB ha.fOutside,rB ha.fLong]) rfl (H':=[.blk hf (Ab (Am v hb)) 78,.blk b2 [rI .i64 (max ha.fDepth ((hd.length:Int)+1)),rI .i64 (IntKind.wrap .i64 (ha.fBytes+hg)),rB ha.fOutside,rB ha.fLong] 133,.blk b1 [rI .i64 0,rI .i64 0,rB false,rB false] 133,.row he 166 5 (List.map A9 hd)]) rfl)) ?_))
       exact Cj
      refine AF (ck gr λgs gt=>A6 [(0,AV 4 (List.map Ab v)),(3,rP b1 0),(5,rP b2 0),(6,rv he),(7,rI .i64 hb),(8,rP hf 0),(11,AV 4 (List.map Ab v)),(12,rI .i64 (v.length:Int)),(13,rI .i64 hb),(92,rP b2 1),(93,rI .i64 ha.fBytes),(94,B9 (Ab (Am v hb))),(95,rI .i64 hg),(96,rI .i64 (IntKind.wrap .i64 (ha.fBytes+hg))),(97,rP b2 1)] [.blk hf (Ab (Am v hb)) 78,.blk b2 [rI .i64 (max ha.fDepth ((hd.length:Int)+1)),rI .i64 (IntKind.wrap .i64 (ha.fBytes+hg)),rB (ha.fOutside||((decide (((Am v hb).fKind)=3))&&(!(ov (BK ((Am v hb).fInt)))))),rB ha.fLong] 133,.blk b1 [rI .i64 0,rI .i64 0,rB false,rB false] 133,.row he 166 5 (List.map A9 hd)] ?_ ?_)
      ·refine Af (vF Gf rfl GR (vL 1 MZ rfl (wm rfl (AI (ha.fOutside) (λhm=>?_) (λhm=>?_)))))
       ·refine wf hm (wf hm (wf hm (wf hm (wu (wu (wu (wu (wf hm (wv (r:=rB true) (Au rfl hm rfl) (vF Gf rfl GR (BB (i:=1) GR rfl rfl (Co rfl) rfl rfl (cs':=[rI .i64 (max ha.fDepth ((hd.length:Int)+1)),rI .i64 (IntKind.wrap .i64 (ha.fBytes+hg)),rB true,rB ha.fLong]) rfl (H':=[.blk hf (Ab (Am v hb)) 78,.blk b2 [rI .i64 (max ha.fDepth ((hd.length:Int)+1)),rI .i64 (IntKind.wrap .i64 (ha.fBytes+hg)),rB true,rB ha.fLong] 133,.blk b1 [rI .i64 0,rI .i64 0,rB false,rB false] 133,.row he 166 5 (List.map A9 hd)]) rfl (Aj (Jg (H':=[.blk hf (Ab (Am v hb)) 78,.blk b2 [rI .i64 (max ha.fDepth ((hd.length:Int)+1)),rI .i64 (IntKind.wrap .i64 (ha.fBytes+hg)),rB (ha.fOutside||((decide (((Am v hb).fKind)=3))&&(!(ov (BK ((Am v hb).fInt)))))),rB ha.fLong] 133,.blk b1 [rI .i64 0,rI .i64 0,rB false,rB false] 133,.row he 166 5 (List.map A9 hd)]) (by simp only[hm,AcN,AcT,Adc,AcQ,AcR,AcV,Ada,AcX,AcO,AcW,AcJ,AcF]) ?_)))))))))))))
        exact wt
       ·refine wo hm (vF B2 rfl Eh (wo hm (vL 0 E3 rfl (wo hm (wv (Bx rfl rfl) (wo hm (wm rfl (AI (decide (((Am v hb).fKind)=3)) (λhn=>?_) (λhn=>?_)))))))))
        ·refine wo hn (vF B2 rfl Cq (wo hn (vL 0 CU rfl (wo hn (Cg Tryz.call99 (XA ((Am v hb).fInt) (ov (BK ((Am v hb).fInt))) (GX (C2 (Cr gs hm) hn))) rfl (wo hn (wv (Cd rfl) (wo hm (EF rfl hn rfl (DR rfl hm rfl (vF Gf rfl GR (BB (i:=1) GR rfl rfl (Co rfl) rfl rfl (cs':=[rI .i64 (max ha.fDepth ((hd.length:Int)+1)),rI .i64 (IntKind.wrap .i64 (ha.fBytes+hg)),rB (!(ov (BK ((Am v hb).fInt)))),rB ha.fLong]) rfl (H':=[.blk hf (Ab (Am v hb)) 78,.blk b2 [rI .i64 (max ha.fDepth ((hd.length:Int)+1)),rI .i64 (IntKind.wrap .i64 (ha.fBytes+hg)),rB (!(ov (BK ((Am v hb).fInt)))),rB ha.fLong] 133,.blk b1 [rI .i64 0,rI .i64 0,rB false,rB false] 133,.row he 166 5 (List.map A9 hd)]) rfl (Aj (Jg (H':=[.blk hf (Ab (Am v hb)) 78,.blk b2 [rI .i64 (max ha.fDepth ((hd.length:Int)+1)),rI .i64 (IntKind.wrap .i64 (ha.fBytes+hg)),rB (ha.fOutside||((decide (((Am v hb).fKind)=3))&&(!(ov (BK ((Am v hb).fInt)))))),rB ha.fLong] 133,.blk b1 [rI .i64 0,rI .i64 0,rB false,rB false] 133,.row he 166 5 (List.map A9 hd)]) (by simp only[hm,hn,AcN,AcT,Adc,AcQ,AcR,AcV,Ada,AcX,AcO,AcW,AcJ,AcF]) ?_))))))))))))))
         exact wt
        ·refine wf hn (wf hn (wf hn (wf hn (wo hm (wv (r:=rB false) (A7 rfl hn rfl) (DR rfl hm rfl (vF Gf rfl GR (BB (i:=1) GR rfl rfl (Co rfl) rfl rfl (cs':=[rI .i64 (max ha.fDepth ((hd.length:Int)+1)),rI .i64 (IntKind.wrap .i64 (ha.fBytes+hg)),rB false,rB ha.fLong]) rfl (H':=[.blk hf (Ab (Am v hb)) 78,.blk b2 [rI .i64 (max ha.fDepth ((hd.length:Int)+1)),rI .i64 (IntKind.wrap .i64 (ha.fBytes+hg)),rB false,rB ha.fLong] 133,.blk b1 [rI .i64 0,rI .i64 0,rB false,rB false] 133,.row he 166 5 (List.map A9 hd)]) rfl (Aj (Jg (H':=[.blk hf (Ab (Am v hb)) 78,.blk b2 [rI .i64 (max ha.fDepth ((hd.length:Int)+1)),rI .i64 (IntKind.wrap .i64 (ha.fBytes+hg)),rB (ha.fOutside||((decide (((Am v hb).fKind)=3))&&(!(ov (BK ((Am v hb).fInt)))))),rB ha.fLong] 133,.blk b1 [rI .i64 0,rI .i64 0,rB false,rB false] 133,.row he 166 5 (List.map A9 hd)]) (by simp only[hm,hn,AcN,AcT,Adc,AcQ,AcR,AcV,Ada,AcX,AcO,AcW,AcJ,AcF]) ?_))))))))))
         exact wt
      refine A6 [(0,AV 4 (List.map Ab v)),(3,rP b1 0),(5,rP b2 0),(6,rv he),(7,rI .i64 hb),(8,rP hf 0),(11,AV 4 (List.map Ab v)),(12,rI .i64 (v.length:Int)),(13,rI .i64 hb),(92,rP b2 1),(93,rI .i64 ha.fBytes),(94,B9 (Ab (Am v hb))),(95,rI .i64 hg),(96,rI .i64 (IntKind.wrap .i64 (ha.fBytes+hg))),(97,rP b2 1)] [.blk hf (Ab (Am v hb)) 78,.blk b2 [rI .i64 (max ha.fDepth ((hd.length:Int)+1)),rI .i64 (IntKind.wrap .i64 (ha.fBytes+hg)),rB (ha.fOutside||((decide (((Am v hb).fKind)=3))&&(!(ov (BK ((Am v hb).fInt)))))),rB (ha.fLong||(decide (200<(((Am v hb).fStr).length:Int))))] 133,.blk b1 [rI .i64 0,rI .i64 0,rB false,rB false] 133,.row he 166 5 (List.map A9 hd)] ?_ ?_
      ·refine Af (vF Gf rfl GR (vL 1 MZ rfl (wm rfl (AI (ha.fLong) (λhp=>?_) (λhp=>?_)))))
       ·refine wf hp (wf hp (wf hp (wf hp (wv (r:=rB true) (Au rfl hp rfl) (vF Gf rfl GR (BB (i:=1) GR rfl rfl (Co rfl) rfl rfl (cs':=[rI .i64 (max ha.fDepth ((hd.length:Int)+1)),rI .i64 (IntKind.wrap .i64 (ha.fBytes+hg)),rB (ha.fOutside||((decide (((Am v hb).fKind)=3))&&(!(ov (BK ((Am v hb).fInt)))))),rB true]) rfl (H':=[.blk hf (Ab (Am v hb)) 78,.blk b2 [rI .i64 (max ha.fDepth ((hd.length:Int)+1)),rI .i64 (IntKind.wrap .i64 (ha.fBytes+hg)),rB (ha.fOutside||((decide (((Am v hb).fKind)=3))&&(!(ov (BK ((Am v hb).fInt)))))),rB true] 133,.blk b1 [rI .i64 0,rI .i64 0,rB false,rB false] 133,.row he 166 5 (List.map A9 hd)]) rfl (Aj (Jg (H':=[.blk hf (Ab (Am v hb)) 78,.blk b2 [rI .i64 (max ha.fDepth ((hd.length:Int)+1)),rI .i64 (IntKind.wrap .i64 (ha.fBytes+hg)),rB (ha.fOutside||((decide (((Am v hb).fKind)=3))&&(!(ov (BK ((Am v hb).fInt)))))),rB (ha.fLong||(decide (200<(((Am v hb).fStr).length:Int))))] 133,.blk b1 [rI .i64 0,rI .i64 0,rB false,rB false] 133,.row he 166 5 (List.map A9 hd)]) (by simp only[hp,AcN,AcT,Adc,AcQ,AcR,AcV,Ada,AcX,AcO,AcW,AcJ,AcF]) ?_))))))))
        exact wt
       ·refine wo hp (vF B2 rfl CD (wo hp (vL 0 Dm rfl (wo hp (wv (AW BC rfl) (wo hp (wv (Cb rfl rfl) (DR rfl hp rfl (vF Gf rfl GR (BB (i:=1) GR rfl rfl (Co rfl) rfl rfl (cs':=[rI .i64 (max ha.fDepth ((hd.length:Int)+1)),rI .i64 (IntKind.wrap .i64 (ha.fBytes+hg)),rB (ha.fOutside||((decide (((Am v hb).fKind)=3))&&(!(ov (BK ((Am v hb).fInt)))))),rB (decide (200<(((Am v hb).fStr).length:Int)))]) rfl (H':=[.blk hf (Ab (Am v hb)) 78,.blk b2 [rI .i64 (max ha.fDepth ((hd.length:Int)+1)),rI .i64 (IntKind.wrap .i64 (ha.fBytes+hg)),rB (ha.fOutside||((decide (((Am v hb).fKind)=3))&&(!(ov (BK ((Am v hb).fInt)))))),rB (decide (200<(((Am v hb).fStr).length:Int)))] 133,.blk b1 [rI .i64 0,rI .i64 0,rB false,rB false] 133,.row he 166 5 (List.map A9 hd)]) rfl (Aj (Jg (H':=[.blk hf (Ab (Am v hb)) 78,.blk b2 [rI .i64 (max ha.fDepth ((hd.length:Int)+1)),rI .i64 (IntKind.wrap .i64 (ha.fBytes+hg)),rB (ha.fOutside||((decide (((Am v hb).fKind)=3))&&(!(ov (BK ((Am v hb).fInt)))))),rB (ha.fLong||(decide (200<(((Am v hb).fStr).length:Int))))] 133,.blk b1 [rI .i64 0,rI .i64 0,rB false,rB false] 133,.row he 166 5 (List.map A9 hd)]) (by simp only[hp,AcN,AcT,Adc,AcQ,AcR,AcV,Ada,AcX,AcO,AcW,AcJ,AcF]) ?_))))))))))))
        exact wt
      refine Ai (Ae (vF B2 rfl Cq (vL 0 CU rfl (wv (Cb rfl rfl) (Ak (cz gt rfl (λgu gv=>?_) (λgu gw=>?_)))))))
      ·refine Ai (Ae (vF B2 rfl Cq (vL 0 CU rfl (wm rfl (wv (Bv (ys:=v) (enc:=Ab) BP rfl) (wv (Cb rfl rfl) (Ak (cz gv rfl (λgx gy=>?_) (λgx gz=>?_)))))))))
       ·refine Ai (EW (H1:=[.blk hf (Ab (Am v hb)) 78,.blk b2 [rI .i64 (max ha.fDepth ((hd.length:Int)+1)),rI .i64 (IntKind.wrap .i64 (ha.fBytes+hg)),rB (ha.fOutside||((decide (((Am v hb).fKind)=3))&&(!(ov (BK ((Am v hb).fInt)))))),rB (ha.fLong||(decide (200<(((Am v hb).fStr).length:Int))))] 133,.blk b1 [rI .i64 (max ha.fDepth ((hd.length:Int)+1)),rI .i64 (IntKind.wrap .i64 (ha.fBytes+hg)),rB (ha.fOutside||((decide (((Am v hb).fKind)=3))&&(!(ov (BK ((Am v hb).fInt)))))),rB (ha.fLong||(decide (200<(((Am v hb).fStr).length:Int))))] 133,.row he 166 5 (List.map A9 hd)]) [3,5] [⟨[],B9 [rI .i64 (max ha.fDepth ((hd.length:Int)+1)),rI .i64 (IntKind.wrap .i64 (ha.fBytes+hg)),rB (ha.fOutside||((decide (((Am v hb).fKind)=3))&&(!(ov (BK ((Am v hb).fInt)))))),rB (ha.fLong||(decide (200<(((Am v hb).fStr).length:Int))))],1⟩,⟨[],rI .i64 0,0⟩,⟨[0],rv undef,2⟩,⟨[],rB false,0⟩] (rle [(3,_),(2,[.blk hf (Ab (Am v hb)) 78,.blk b2 [rI .i64 (max ha.fDepth ((hd.length:Int)+1)),rI .i64 (IntKind.wrap .i64 (ha.fBytes+hg)),rB (ha.fOutside||((decide (((Am v hb).fKind)=3))&&(!(ov (BK ((Am v hb).fInt)))))),rB (ha.fLong||(decide (200<(((Am v hb).fStr).length:Int))))] 133,.blk b1 [rI .i64 (max ha.fDepth ((hd.length:Int)+1)),rI .i64 (IntKind.wrap .i64 (ha.fBytes+hg)),rB (ha.fOutside||((decide (((Am v hb).fKind)=3))&&(!(ov (BK ((Am v hb).fInt)))))),rB (ha.fLong||(decide (200<(((Am v hb).fStr).length:Int))))] 133,.row he 166 5 (List.map A9 hd)])]) [2,4,3] ?_ ?_)
        ·refine of (B0 (i:=1) KK G7 rfl rfl rfl rfl) (oq (Ao rfl) (Ij rfl (N3 (C4 (i:=2) G7 rfl rfl rfl (BE.c rfl) rfl rfl (cs':=[rI .i64 (max ha.fDepth ((hd.length:Int)+1)),rI .i64 (IntKind.wrap .i64 (ha.fBytes+hg)),rB (ha.fOutside||((decide (((Am v hb).fKind)=3))&&(!(ov (BK ((Am v hb).fInt)))))),rB (ha.fLong||(decide (200<(((Am v hb).fStr).length:Int))))]) rfl (H':=[.blk hf (Ab (Am v hb)) 78,.blk b2 [rI .i64 (max ha.fDepth ((hd.length:Int)+1)),rI .i64 (IntKind.wrap .i64 (ha.fBytes+hg)),rB (ha.fOutside||((decide (((Am v hb).fKind)=3))&&(!(ov (BK ((Am v hb).fInt)))))),rB (ha.fLong||(decide (200<(((Am v hb).fStr).length:Int))))] 133,.blk b1 [rI .i64 (max ha.fDepth ((hd.length:Int)+1)),rI .i64 (IntKind.wrap .i64 (ha.fBytes+hg)),rB (ha.fOutside||((decide (((Am v hb).fKind)=3))&&(!(ov (BK ((Am v hb).fInt)))))),rB (ha.fLong||(decide (200<(((Am v hb).fStr).length:Int))))] 133,.row he 166 5 (List.map A9 hd)]) rfl)) ?_))
         refine oq (Ao rfl) ?_
         exact Cj
        refine AF (Aq (Ac (Ac (Av (Ac (Ac (AS ?_)))))))
        have g0:=Bm gy hx hy
        refine Av (Ac (Ke ?_))
        obtain rfl:=As g0
        exact Ap (SQ Rr (A4 rfl) (Gi (i:=2) KK G7 rfl rfl rfl) (A4 rfl)) (sS (sS (sS (sS sN)))) ⟨rfl,rfl⟩
       ·refine An (AF (Ae (wm rfl (vF B2 rfl Eh (vL 0 E3 rfl (wv (Bx rfl rfl) (vF B2 rfl Cq (vL 0 CU rfl (vF B2 rfl Eh (vL 0 E3 rfl (wv (Bx rfl rfl) (wv (r:=B9 [rB (decide (((Am v hb).fKind)=6)),rI .i64 ((Am v hb).fN),rB (decide (((Am v hb).fKind)=6)),rS ([]:Ag),rB false]) (ME rfl rfl rfl rfl rfl rfl) (AQ (ys:=([(AD.mk (decide (((Am v hb).fKind)=6)) ((Am v hb).fN) (decide (((Am v hb).fKind)=6)) ([]:Ag) false)]:List AD)) (enc:=A9) (css:=[[rB (decide (((Am v hb).fKind)=6)),rI .i64 ((Am v hb).fN),rB (decide (((Am v hb).fKind)=6)),rS ([]:Ag),rB false]]) (xs:=[.tmp 139]) Jv Rl Tryz.zeroValue166 rfl rfl rfl ⟨Eb.agg ⟨Up.refl _,Up.refl _,Up.refl _,Up.refl _,Up.refl _,trivial⟩,trivial⟩ rfl J2 rfl rfl rfl (λg1=>?_))))))))))))))
        refine ck gz λg2 g3=>Exists.elim ZL λinf hinf=>BG (xs:=hd) (ys:=([(AD.mk (decide (((Am v hb).fKind)=6)) ((Am v hb).fN) (decide (((Am v hb).fKind)=6)) ([]:Ag) false)]:List AD)) (enc:=A9) (i:=4) Jv hinf.1 hinf.2.1 hinf.2.2.1 hinf.2.2.2 rfl rfl rfl rfl rfl (Ja.w (i:=0) rfl rfl) J2 N8 g2 rfl (λh9=>?_)
        exact wa rfl (Ak (Bo (At (AZ (Cv (H2:=[.blk b2 [rI .i64 (max ha.fDepth ((hd.length:Int)+1)),rI .i64 (IntKind.wrap .i64 (ha.fBytes+hg)),rB (ha.fOutside||((decide (((Am v hb).fKind)=3))&&(!(ov (BK ((Am v hb).fInt)))))),rB (ha.fLong||(decide (200<(((Am v hb).fStr).length:Int))))] 133,.blk b1 [rI .i64 0,rI .i64 0,rB false,rB false] 133,.row h9 166 5 (List.map A9 (hd++([(AD.mk (decide (((Am v hb).fKind)=6)) ((Am v hb).fN) (decide (((Am v hb).fKind)=6)) ([]:Ag) false)]:List AD))),.row (.slice (some ⟨g1,0,none⟩) 1 1) 166 5 (List.map A9 ([(AD.mk (decide (((Am v hb).fKind)=6)) ((Am v hb).fN) (decide (((Am v hb).fKind)=6)) ([]:Ag) false)]:List AD)),.blk hf (Ab (Am v hb)) 78]) ((A5 (i:=3) rfl).trans (List.Perm.cons _ ((A5 (i:=3) rfl).trans (List.Perm.cons _ (List.Perm.refl _))))) (Ar (A3 ((hd++([(AD.mk (decide (((Am v hb).fKind)=6)) ((Am v hb).fN) (decide (((Am v hb).fKind)=6)) ([]:Ag) false)]:List AD),(AM.mk (max ha.fDepth ((hd.length:Int)+1)) (IntKind.wrap .i64 (ha.fBytes+hg)) (ha.fOutside||((decide (((Am v hb).fKind)=3))&&(!(ov (BK ((Am v hb).fInt)))))) (ha.fLong||(decide (200<(((Am v hb).fStr).length:Int)))))),h9) g3 (AC.c rfl (AC.c rfl (AC.c5 rfl rfl rfl rfl rfl AC.nil))) (sC (sC (sC (sS (sS sN))))))))))))
      ·refine An (AF (Ae (wm rfl (ob gw λhw g4 g5=>Hb (Hr:=[.blk hf (Ab (Am v hb)) 78,.blk b2 [rI .i64 (max ha.fDepth ((hd.length:Int)+1)),rI .i64 (IntKind.wrap .i64 (ha.fBytes+hg)),rB (ha.fOutside||((decide (((Am v hb).fKind)=3))&&(!(ov (BK ((Am v hb).fInt)))))),rB (ha.fLong||(decide (200<(((Am v hb).fStr).length:Int))))] 133,.blk b1 [rI .i64 0,rI .i64 0,rB false,rB false] 133]) Tryz.call147 (US F he hd hw g4) rfl ((A5 (i:=3) rfl).trans (List.Perm.cons _ (List.Perm.refl _))) rfl ?_))))
       rintro _ _ ⟨hz,rfl,rfl⟩
       refine wa rfl (Bf (wm rfl (wv (Dr (ys:=hw) (enc:=A9) (i:=0) Jv rfl rfl) (wv (Bx rfl rfl) (Ak (cz g5 rfl (λg6 g7=>?_) (λg6 g8=>?_)))))))
       ·refine Ai (ck g7 λg9 gA=>EW (H1:=[.row hz 166 5 (List.map A9 hw),.blk hf (Ab (Am v hb)) 78,.blk b2 [rI .i64 (max ha.fDepth ((hd.length:Int)+1)),rI .i64 (IntKind.wrap .i64 (ha.fBytes+hg)),rB (ha.fOutside||((decide (((Am v hb).fKind)=3))&&(!(ov (BK ((Am v hb).fInt)))))),rB (ha.fLong||(decide (200<(((Am v hb).fStr).length:Int))))] 133,.blk b1 [rI .i64 (max ha.fDepth ((hd.length:Int)+1)),rI .i64 (IntKind.wrap .i64 (ha.fBytes+hg)),rB (ha.fOutside||((decide (((Am v hb).fKind)=3))&&(!(ov (BK ((Am v hb).fInt)))))),rB (ha.fLong||(decide (200<(((Am v hb).fStr).length:Int))))] 133]) [3,5,7] [⟨[],rI .i64 hb,0⟩,⟨[0],rI .i64 (hb+1),0⟩,⟨[],B9 [rI .i64 (max ha.fDepth ((hd.length:Int)+1)),rI .i64 (IntKind.wrap .i64 (ha.fBytes+hg)),rB (ha.fOutside||((decide (((Am v hb).fKind)=3))&&(!(ov (BK ((Am v hb).fInt)))))),rB (ha.fLong||(decide (200<(((Am v hb).fStr).length:Int))))],1⟩,⟨[1],rI .i64 (hb+1),0⟩,⟨[2],rv undef,2⟩,⟨[],rB true,0⟩] (rle [(5,_),(2,[.row hz 166 5 (List.map A9 hw),.blk hf (Ab (Am v hb)) 78,.blk b2 [rI .i64 (max ha.fDepth ((hd.length:Int)+1)),rI .i64 (IntKind.wrap .i64 (ha.fBytes+hg)),rB (ha.fOutside||((decide (((Am v hb).fKind)=3))&&(!(ov (BK ((Am v hb).fInt)))))),rB (ha.fLong||(decide (200<(((Am v hb).fStr).length:Int))))] 133,.blk b1 [rI .i64 (max ha.fDepth ((hd.length:Int)+1)),rI .i64 (IntKind.wrap .i64 (ha.fBytes+hg)),rB (ha.fOutside||((decide (((Am v hb).fKind)=3))&&(!(ov (BK ((Am v hb).fInt)))))),rB (ha.fLong||(decide (200<(((Am v hb).fStr).length:Int))))] 133])]) [2,4,3] ?_ ?_)
        ·refine oq (Al rfl) (oq (AX rfl rfl g9) (of (B0 (i:=2) KK G7 rfl rfl rfl rfl) (oq (Ao rfl) (Ij rfl (N3 (C4 (i:=3) G7 rfl rfl rfl (BE.c rfl) rfl rfl (cs':=[rI .i64 (max ha.fDepth ((hd.length:Int)+1)),rI .i64 (IntKind.wrap .i64 (ha.fBytes+hg)),rB (ha.fOutside||((decide (((Am v hb).fKind)=3))&&(!(ov (BK ((Am v hb).fInt)))))),rB (ha.fLong||(decide (200<(((Am v hb).fStr).length:Int))))]) rfl (H':=[.row hz 166 5 (List.map A9 hw),.blk hf (Ab (Am v hb)) 78,.blk b2 [rI .i64 (max ha.fDepth ((hd.length:Int)+1)),rI .i64 (IntKind.wrap .i64 (ha.fBytes+hg)),rB (ha.fOutside||((decide (((Am v hb).fKind)=3))&&(!(ov (BK ((Am v hb).fInt)))))),rB (ha.fLong||(decide (200<(((Am v hb).fStr).length:Int))))] 133,.blk b1 [rI .i64 (max ha.fDepth ((hd.length:Int)+1)),rI .i64 (IntKind.wrap .i64 (ha.fBytes+hg)),rB (ha.fOutside||((decide (((Am v hb).fKind)=3))&&(!(ov (BK ((Am v hb).fInt)))))),rB (ha.fLong||(decide (200<(((Am v hb).fStr).length:Int))))] 133]) rfl)) ?_))))
         refine oq (Ao rfl) ?_
         exact Cj
        refine AF (Aq (Av (Ac (Ac (AS ?_)))))
        have gB:=Bm gA hx hy
        refine Av (Ac (Ke ?_))
        obtain rfl:=As gB
        exact Ap (SQ Rr (A4 rfl) (Gi (i:=3) KK G7 rfl rfl rfl) (A4 rfl)) (sS (sS (sS (sS sN)))) ⟨rfl,rfl⟩
       ·exact An (A8 (Cv (H2:=[.blk b2 [rI .i64 (max ha.fDepth ((hd.length:Int)+1)),rI .i64 (IntKind.wrap .i64 (ha.fBytes+hg)),rB (ha.fOutside||((decide (((Am v hb).fKind)=3))&&(!(ov (BK ((Am v hb).fInt)))))),rB (ha.fLong||(decide (200<(((Am v hb).fStr).length:Int))))] 133,.blk b1 [rI .i64 0,rI .i64 0,rB false,rB false] 133,.row hz 166 5 (List.map A9 hw),.blk hf (Ab (Am v hb)) 78]) ((A5 (i:=2) rfl).trans (List.Perm.cons _ ((A5 (i:=2) rfl).trans (List.Perm.cons _ (List.Perm.refl _))))) (Ar (A3 ((hw,(AM.mk (max ha.fDepth ((hd.length:Int)+1)) (IntKind.wrap .i64 (ha.fBytes+hg)) (ha.fOutside||((decide (((Am v hb).fKind)=3))&&(!(ov (BK ((Am v hb).fInt)))))) (ha.fLong||(decide (200<(((Am v hb).fStr).length:Int)))))),hz) g8 (AC.c rfl (AC.c rfl (AC.c5 rfl rfl rfl rfl rfl AC.nil))) (sC (sC (sC (sS sN))))))))
   ·rintro⟨⟨h6,h7⟩,h8⟩ h2
    refine BO (l':=[(0,AV 4 (List.map Ab v)),(3,rP b1 0),(5,rP b2 0),(6,rv h8),(11,AV 4 (List.map Ab v)),(12,rI .i64 (v.length:Int)),(13,rI .i64 hb)]) (H':=[.blk b2 (Ba h7) 133,.blk b1 [rI .i64 0,rI .i64 0,rB false,rB false] 133,.row h8 166 5 (List.map A9 h6)]) rfl rfl ?_
    replace h2:EK hb h6 h7=some h4:=h2
    unfold EK at h2
    refine Af (ck h2 λgC gD=>wv (AX rfl rfl gC) (wm rfl (Aj ?_)))
    have gE:=Bb gD hx
    exact Ar (A3 (hD,(h6,hb+1,h7),h8) ⟨gE,AcL _⟩ (AC.c rfl (AC.c rfl (AC.c5 rfl rfl rfl rfl rfl AC.nil))) (sC (sC (sC sN))))
  ·refine Bo (At ?_)
   have gF:=BI hH hx hy
   exact At (Bc (A3 (ha,()) gF (AC.c rfl (AC.c rfl AC.nil)) (sC (sC (sS sN)))))
 ·rintro⟨hq,⟨⟩⟩ h3
  refine Cf (l':=[(3,rP b1 0),(5,rP b2 0)]) (H':=[.blk b2 (Ba hq) 133,.blk b1 [rI .i64 0,rI .i64 0,rB false,rB false] 133]) rfl rfl ?_
  replace h3:L0 hq=some r:=h3
  unfold L0 at h3
  refine AZ (AF (Ai (EW (H1:=[.blk b2 (Ba hq) 133,.blk b1 (Ba hq) 133]) [3,5] [⟨[],B9 (Ba hq),1⟩,⟨[],rI .i64 0,0⟩,⟨[0],rv undef,2⟩,⟨[],rB false,0⟩] (rle [(3,_),(2,[.blk b2 (Ba hq) 133,.blk b1 (Ba hq) 133])]) [2,4,3] ?_ ?_)))
  ·refine of (B0 (i:=0) KK G7 rfl rfl rfl rfl) (oq (Ao rfl) (Ij rfl (N3 (C4 (i:=1) G7 rfl rfl rfl (BE.c rfl) rfl rfl (cs':=[rI .i64 hq.fDepth,rI .i64 hq.fBytes,rB hq.fOutside,rB hq.fLong]) rfl (H':=[.blk b2 (Ba hq) 133,.blk b1 (Ba hq) 133]) rfl)) ?_))
   refine oq (Ao rfl) ?_
   exact Cj
  refine AF (Aq (Ke ?_))
  obtain rfl:=As h3
  exact Ap (SQ Rr (A4 rfl) (Gi (i:=1) KK G7 rfl rfl rfl) (A4 rfl)) (sS (sS sN)) ⟨rfl,rfl⟩
theorem On (F:Nat) (v:(List Aa)) (r:Int) (h:KW F v=some r):Fn Tryz.prog GE 80 [AV 4 (List.map Ab v)] [] (λR H=>R=rI .i64 r∧H=[]):=by
 refine enter (n:=42) Tryz.func80 rfl Tryz.ntmps80 rfl (λw Z=>?_)
 unfold KW at h
 refine Ae (wa rfl (Bf (wm rfl (ob h λr1 e3 h2=>Cg Tryz.call106 (Qw F v r1 e3) rfl (wm rfl (wv (Az rfl rfl) (wv (Az rfl rfl) (wv (Az rfl rfl) (BT (cs:=[rI .i64 0,rI .i64 0,rB false,rB false]) Rj rfl rfl (λb4=>?_))))))))))
 refine wa rfl (Bj (i:=0) G7 rfl rfl rfl (BE.c rfl) rfl rfl (cs':=[rI .i64 r1.2.1.fDepth,rI .i64 r1.2.1.fBytes,rB r1.2.1.fOutside,rB r1.2.1.fLong]) rfl (H':=[.blk b4 (Ba r1.2.1) 133]) rfl (wa rfl (Ak (Ai (AB (A6 [(0,AV 4 (List.map Ab v)),(4,rP b4 0),(12,rB ((!r1.2.2)||(!decide (r1.1=(v.length:Int)))))] [.blk b4 (Ba r1.2.1) 133] ?_ ?_))))))
 ·refine Af (wm rfl (wv (Cd rfl) (wm rfl (AI (!r1.2.2) (λc5=>?_) (λc5=>?_)))))
  ·refine wf c5 (wf c5 (wf c5 (wf c5 (wv (r:=rB true) (Au rfl c5 rfl) (wa rfl (Aj ?_))))))
   exact BM c5
  ·refine wo c5 (wm rfl (wo c5 (wm rfl (wo c5 (wv (Bv (ys:=v) (enc:=Ab) BP rfl) (wo c5 (wv (CB rfl rfl) (DR rfl c5 rfl (wa rfl (Aj ?_))))))))))
   exact BM c5
 refine cz h2 rfl (λc6 h7=>?_) (λc6 h8=>?_)
 ·refine Ae (wa rfl (Ak (Aq (Av (Ac ?_)))))
  obtain rfl:=As h7
  exact Ap (BW YX (A4 rfl)) (sS sN) ⟨rfl,rfl⟩
 ·refine Ae (vF Gf rfl GR (vL 0 MZ rfl (wa rfl (Ak (cz h8 rfl (λc9 he=>?_) (λc9 hf=>?_))))))
  ·refine Ae (wa rfl (Ak (Aq (Av (Ac ?_)))))
   obtain rfl:=As he
   exact Ap (BW YX (A4 rfl)) (sS sN) ⟨rfl,rfl⟩
  ·refine A6 [(24,rB (r1.2.1.fLong||((decide (200<(v.length:Int)))||((decide (8<r1.2.1.fDepth))||(decide (4000<r1.2.1.fBytes))))))] [] ?_ ?_
   ·refine Af (vF Gf rfl GR (vL 0 MZ rfl (wm rfl (AI (r1.2.1.fLong) (λha=>?_) (λha=>?_)))))
    ·refine wf ha (wf ha (wf ha (wv (r:=rB true) (Au rfl ha rfl) (wm rfl (wz rfl rfl (wz rfl rfl (wz rfl rfl (wv (r:=rB true) (Au (b:=true) rfl rfl rfl) (wm rfl (wz rfl rfl (wz rfl rfl (wz rfl rfl (wv (r:=rB true) (Au (b:=true) rfl rfl rfl) (wa rfl (Aj ?_)))))))))))))))
     exact BM ha
    ·refine wo ha (wm rfl (wo ha (wv (Bv (ys:=v) (enc:=Ab) BP rfl) (wo ha (wv (Cb rfl rfl) (DR rfl ha rfl (wm rfl (AI (decide (200<(v.length:Int))) (λhb=>?_) (λhb=>?_)))))))))
     ·refine wf hb (wf hb (wf hb (wv (r:=rB true) (Au rfl hb rfl) (wm rfl (wz rfl rfl (wz rfl rfl (wz rfl rfl (wv (r:=rB true) (Au (b:=true) rfl rfl rfl) (wa rfl (Aj ?_))))))))))
      exact BM (And.intro ha hb)
     ·refine wo hb (vF Gf rfl Cq (wo hb (vL 0 CU rfl (wo hb (wv (Cb rfl rfl) (DR rfl hb rfl (wm rfl (AI (decide (8<r1.2.1.fDepth)) (λhd=>?_) (λhd=>?_)))))))))
      ·refine wf hd (wf hd (wf hd (wv (r:=rB true) (Au rfl hd rfl) (wa rfl (Aj ?_)))))
       exact BM (And.intro ha (And.intro hb hd))
      ·refine wo hd (vF Gf rfl Cq (wo hd (vL 0 CU rfl (wo hd (wv (Cb rfl rfl) (DR rfl hd rfl (wa rfl (Aj ?_))))))))
       exact BM (And.intro ha (And.intro hb hd))
   refine cz hf rfl (λhg hh=>?_) (λhg hi=>?_)
   ·refine Ae (wa rfl (Ak (Aq (Av (Ac ?_)))))
    obtain rfl:=As hh
    exact Ap (BW YX (A4 rfl)) sN ⟨rfl,rfl⟩
   ·refine An (A8 (AF (Ae (wa rfl (Ak (Aq ?_))))))
    obtain rfl:=As hi
    exact Ap (BW YX (A4 rfl)) sN ⟨rfl,rfl⟩
theorem Tb (F:Nat) (v:(List Aa)) (r:(List Aa)×Int) (h:L5 F v=some r):Fn Tryz.prog GE 101 [AV 4 (List.map Ab v)] [] (λR H=>R=Cm [AV 4 (List.map Ab r.1),rI .i64 r.2]∧H=[]):=by
 refine enter (n:=11) Tryz.func101 rfl Tryz.ntmps101 rfl (λw Z=>?_)
 unfold L5 at h
 refine Ae (wa rfl (wa rfl (Ak (Ai (Ae (wm rfl (ob h λr1 e3 h2=>Cg Tryz.call80 (On F v r1 e3) rfl (wa rfl (Bf (wm rfl (wv (CB rfl rfl) (Ak (cz h2 rfl (λc4 h5=>?_) (λc4 h6=>?_))))))))))))))
 ·refine Ae (wm rfl (wa rfl (wa rfl (Ak (Aq (Ac (WK.up (d:=2) (r:=AV 4 (List.map Ab ([]:List Aa))) rfl (Up.le (E1.nil _)) ?_)))))))
  obtain rfl:=As h5
  exact Ap (Cy Tryz.results101 (A4 rfl) (A4 rfl)) sN ⟨rfl,rfl⟩
 ·refine An (AF (Ae (wm rfl (wa rfl (wa rfl (Ak (Aq ?_)))))))
  obtain rfl:=As h6
  exact Ap (Cy Tryz.results101 (A4 rfl) (A4 rfl)) sN ⟨rfl,rfl⟩
end Go.Proofs.YtjfnokmpfekniaaGreatDoor.Q
namespace Go.Proofs.YtjfnokmpfekniaaGreatDoor
open Go
set_option linter.unusedVariables false
def DG (s:Ag) (ha:Int) (hb:Ag):Option (Stp (Int×Ag) (Out (Ag) (Ag))):=
 Bd (decide (ha<(s.length:Int))) (AN (Cu ha (s.length:Int))<|Bd (((decide ((AK s ha)=34))||(decide ((AK s ha)=92)))) (AN (Dw 1 (hb.length+1))<|AN (Bl .u8 92)<|Ls (hb++[UInt8.ofNat (Int.toNat 92)]) λhd=>AN (Dw 1 (hd.length+1))<|AN (Bl .u8 (AK s ha))<|Ls (hd++[UInt8.ofNat (Int.toNat (AK s ha))]) λhe=>AN (Bl .i64 (ha+1))<|some (.next (ha+1,he))) (AN (Dw 1 (hb.length+1))<|AN (Bl .u8 (AK s ha))<|Ls (hb++[UInt8.ofNat (Int.toNat (AK s ha))]) λhf=>AN (Bl .i64 (ha+1))<|some (.next (ha+1,hf)))) (some (.out (.go hb)))
def Gh (ha:Ag):Option (Ag):=
 AN (Dw 1 (ha.length+1))<|Ls (ha++[UInt8.ofNat (Int.toNat 34)]) λhb=>some hb
def KV (F:Nat) (l:Ag) (s:Ag):Option (Ag):=
 AN (Dw 1 (l.length+1))<|AN (Bl .u8 34)<|Ls (l++[UInt8.ofNat (Int.toNat 34)]) λr6=>Bn (BF (λσ=>DG s σ.1 σ.2) F (0,r6)) (B6 λν=>Gh ν)
def Ki (F:Nat) (rec_vWriteF:Ag→(List Aa)→Bool→Ag→Aa→Option (Bool×Bool×Ag)) (rec_vWriteP:(List Aa)→Bool→Ag→Aa→Option (Bool×Ag)) (l:Ag) (v:(List Aa)):Option (Ag):=
 AN (Cu 0 (v.length:Int))<|Bd (decide (((Am v 0).fKind)=1)) (AN (Dw 1 (l.length+([110,117,108,108]:Ag).length))<|Ls (l++([110,117,108,108]:Ag)) λhd=>some hd) (Bd (decide (((Am v 0).fKind)=2)) (AN (Cu ((Am v 0).fInt) (([([102,97,108,115,101]:Ag),([116,114,117,101]:Ag)]:List Ag).length:Int))<|AN (Dw 1 (l.length+(Am ([([102,97,108,115,101]:Ag),([116,114,117,101]:Ag)]:List Ag) ((Am v 0).fInt)).length))<|Ls (l++(Am ([([102,97,108,115,101]:Ag),([116,114,117,101]:Ag)]:List Ag) ((Am v 0).fInt))) λhe=>some he) (Bd (decide (((Am v 0).fKind)=3)) (AN (Bl .i64 ((Am v 0).fInt))<|AN (Dw 1 (l.length+(Lib.itoa ((Am v 0).fInt)).length))<|Ls (l++(Lib.itoa ((Am v 0).fInt))) λhf=>some hf) (Bd (decide (((Am v 0).fKind)=4)) (Bn (KV F l ((Am v 0).fStr)) λhg=>some hg) (Bd (decide (((Am v 0).fKind)=6)) (AN (Cu 0 (([123,125]:Ag).length:Int))<|AN (Dw 1 (l.length+1))<|AN (Bl .u8 (AK ([123,125]:Ag) 0))<|Ls (l++[UInt8.ofNat (Int.toNat (AK ([123,125]:Ag) 0))]) λhh=>Bn (rec_vWriteP v true hh (Am v 0)) λha=>AN (Cu 1 (([123,125]:Ag).length:Int))<|AN (Dw 1 (ha.2.length+1))<|AN (Bl .u8 (AK ([123,125]:Ag) 1))<|Ls (ha.2++[UInt8.ofNat (Int.toNat (AK ([123,125]:Ag) 1))]) λhi=>some hi) (AN (Cu 0 (([91,93]:Ag).length:Int))<|AN (Dw 1 (l.length+1))<|AN (Bl .u8 (AK ([91,93]:Ag) 0))<|Ls (l++[UInt8.ofNat (Int.toNat (AK ([91,93]:Ag) 0))]) λhj=>Bn (rec_vWriteP v true hj (Am v 0)) λhb=>AN (Cu 1 (([91,93]:Ag).length:Int))<|AN (Dw 1 (hb.2.length+1))<|AN (Bl .u8 (AK ([91,93]:Ag) 1))<|Ls (hb.2++[UInt8.ofNat (Int.toNat (AK ([91,93]:Ag) 1))]) λhk=>some hk)))))
def Lx (F:Nat) (rec_vWrite:Ag→(List Aa)→Option (Ag)) (key:Ag) (x:(List Aa)) (first:Bool) (l:Ag) (c:Aa):Option (Bool×Bool×Ag):=
 Bd (!first) (AN (Dw 1 (l.length+1))<|AN (Bl .u8 44)<|Ls (l++[UInt8.ofNat (Int.toNat 44)]) λr8=>Bd (decide (c.fKind=6)) (Bn (KV F r8 key) λha=>AN (Dw 1 (ha.length+1))<|AN (Bl .u8 58)<|Ls (ha++[UInt8.ofNat (Int.toNat 58)]) λhd=>Bn (rec_vWrite hd x) λhe=>some (true,false,he)) (Bn (rec_vWrite r8 x) λhf=>some (true,false,hf))) (Bd (decide (c.fKind=6)) (Bn (KV F l key) λhb=>AN (Dw 1 (hb.length+1))<|AN (Bl .u8 58)<|Ls (hb++[UInt8.ofNat (Int.toNat 58)]) λhg=>Bn (rec_vWrite hg x) λhh=>some (true,false,hh)) (Bn (rec_vWrite l x) λhi=>some (true,false,hi)))
def DT (F:Nat) (v:(List Aa)) (c:Aa) (rec_vWriteF:Ag→(List Aa)→Bool→Ag→Aa→Option (Bool×Bool×Ag)) (ha:Int) (hb:Int) (hh:Bool) (hi:Ag):Option (Stp (Int×Int×Bool×Ag) (Out (Bool×Ag) (Bool×Ag))):=
 Bd (decide (hb<((Am v 0).fN))) (Bd (decide (((Am v 0).fKind)=6)) (AN (Cu ha (v.length:Int))<|AN (Bl .i64 (ha+1))<|AN (GJ (ha+1) (v.length:Int))<|Bn (Jy F (List.drop (Int.toNat (ha+1)) v)) λhd=>AN (Bl .i64 ((ha+1)+hd.1))<|AN (GJ (ha+1) ((ha+1)+hd.1))<|AN (GJ ((ha+1)+hd.1) (v.length:Int))<|Bn (rec_vWriteF ((Am v ha).fStr) (List.take (Int.toNat ((ha+1)+hd.1)-Int.toNat (ha+1)) (List.drop (Int.toNat (ha+1)) v)) hh hi c) λhe=>Bd (!he.1) (some (.out (.ret (he.2.1,he.2.2)))) (AN (Bl .i64 (hb+1))<|some (.next ((ha+1)+hd.1,hb+1,he.2.1,he.2.2)))) (AN (GJ ha (v.length:Int))<|Bn (Jy F (List.drop (Int.toNat ha) v)) λhf=>AN (Bl .i64 (ha+hf.1))<|AN (GJ ha (ha+hf.1))<|AN (GJ (ha+hf.1) (v.length:Int))<|Bn (rec_vWriteF ([]:Ag) (List.take (Int.toNat (ha+hf.1)-Int.toNat ha) (List.drop (Int.toNat ha) v)) hh hi c) λhg=>Bd (!hg.1) (some (.out (.ret (hg.2.1,hg.2.2)))) (AN (Bl .i64 (hb+1))<|some (.next (ha+hf.1,hb+1,hg.2.1,hg.2.2))))) (some (.out (.go (hh,hi))))
def HK (ha:Bool) (hb:Ag):Option (Bool×Ag):=
 some (ha,hb)
def I8 (F:Nat) (rec_vWriteF:Ag→(List Aa)→Bool→Ag→Aa→Option (Bool×Bool×Ag)) (v:(List Aa)) (first:Bool) (l:Ag) (c:Aa):Option (Bool×Ag):=
 AN (Cu 0 (v.length:Int))<|Bn (BF (λσ=>DT F v c rec_vWriteF σ.1 σ.2.1 σ.2.2.1 σ.2.2.2) F (1,0,first,l)) (B6 λν=>HK ν.1 ν.2)
mutual
def GF:Nat→Ag→(List Aa)→Option (Ag)
 | 0,_,_=>none
 | nn+1,l,v=>Ki nn (EV nn) (Hm nn) l v
def EV:Nat→Ag→(List Aa)→Bool→Ag→Aa→Option (Bool×Bool×Ag)
 | 0,_,_,_,_,_=>none
 | nn+1,key,x,first,l,c=>Lx nn (GF nn) key x first l c
def Hm:Nat→(List Aa)→Bool→Ag→Aa→Option (Bool×Ag)
 | 0,_,_,_,_=>none
 | nn+1,v,first,l,c=>I8 nn (EV nn) v first l c
end
def L2 (F:Nat) (v:(List Aa)):Option (Ag×Int):=
 Bn (KW F v) λr1=>Bd (!decide (r1=0)) (some (([]:Ag),r1)) (Bn (GF F ([]:Ag) v) λr8=>AN (decide (0<r8.length))<|some (r8,0))
end Go.Proofs.YtjfnokmpfekniaaGreatDoor
