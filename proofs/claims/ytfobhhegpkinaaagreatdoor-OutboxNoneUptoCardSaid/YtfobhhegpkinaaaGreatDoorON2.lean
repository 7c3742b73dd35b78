/-
  Texts of the proof, put together: FwG, Row, IdA, PlB, IdB, PlC, IdC, ShelfV, PlD, PlE, FwJ, IdR, QG, QO, RowQ, QOb, PQB, WQB, PVa, WVa, PVb, WVb, PVc, WVc, PVd, WVd, PVe.
-/
import Derived.Test.YtfobhhegpkinaaaGreatDoorON1
import Derived.Lib.SmallJoins
import Derived.Lib.AppendIntMem
import Derived.Lib.TrailingZeros
import Derived.Lib.LaidTab
import Derived.Test.YtfobhhegpkinaaaGreatDoorCards
import Derived.Test.YtfobhhegpkinaaaGreatDoorTie
import Derived.Carry
import Derived.ChangeSame
import Derived.ProofKit
import Derived.OpenShut
import Derived.Deep.DeepHandedRow
import Derived.Deep.DeepWitnessRowRef
import Derived.Lib.LaidIn
import Derived.Stop.LaidErr
import Derived.Test.YtfobhhegpkinaaaGreatDoorProg
import Derived.Lib.Bytealg
import Derived.Lib.AtoiAllCases
import Derived.Lib.ItoaNum
import Derived.Lib.ItoaLen
import Derived.Shelf.Strings.Builder1
import Derived.Shelf.Strings.Count
import Derived.Shelf.Strings.Search1
import Derived.Shelf.Strings.Search2
import Derived.Shelf.Strings.Search3
import Derived.Shelf.Small.Strs
import Derived.Shelf.LaysM
import Derived.Shelf.LaysC
import Derived.Lib.ItoaMem
import Derived.Deep.Slices
import Derived.ChangeArms
import Derived.DataReads
import Derived.Test.YtfobhhegpkinaaaGreatDoorRows
import Derived.Laws.Tables
namespace Go.Proofs.YtfobhhegpkinaaaGreatDoor
open Go Go.RowKit
set_option linter.unusedVariables false
noncomputable def J9:Nat:=Nat.max (Nat.max 0 3) 5+1
def Xb:List Int:=Lib.deBruijn64tab.map Int.ofNat
structure Po (w:World):Prop where
 pow : Lib.TabIs Tryz.prog w "internal/strconv.uint64pow10" .u64 Lib.pow10Tab
 tz : Lib.TabIs Tryz.prog w "math/bits.deBruijn64tab" .u8 Xb
 rng : ∃ tp p, w.var? Tryz.prog "strconv.ErrRange" = some #[.iface tp p]
theorem XF : Tryz.prog.globalNamed "internal/strconv.uint64pow10" = some 0 := by kernel_rfl
theorem XE : Tryz.prog.globalNamed "strconv.ErrRange" = some 3 := by kernel_rfl
theorem YV : Tryz.prog.globalNamed "math/bits.deBruijn64tab" = some 5 := by kernel_rfl
theorem UN:5<J9:=by decide +kernel
theorem Tf:0<J9:=by decide +kernel
theorem Te:3<J9:=by decide +kernel
theorem Po.block (w w':World)(h:∀k,k<J9→w'.heap[k]? =w.heap[k]?)(hT:Po w):Po w':=by
 obtain⟨tp,p,hr⟩:=hT.rng;have hp:=hT.pow;have hz:=hT.tz;unfold Lib.TabIs at hp hz;refine⟨?_,?_,tp,p,?_⟩
 ·unfold Lib.TabIs;unfold World.var? at hp ⊢;rw[XF] at hp ⊢;simp only[Option.bind_some] at hp ⊢;rw[h _ Tf];exact hp
 ·unfold Lib.TabIs;unfold World.var? at hz ⊢;rw[YV] at hz ⊢;simp only[Option.bind_some] at hz ⊢;rw[h _ UN];exact hz
 ·unfold World.var? at hr ⊢;rw[XE] at hr ⊢;simp only[Option.bind_some] at hr ⊢;rw[h _ Te];exact hr
def VC (w:World)(M:List Nat):Prop:=J9≤w.heap.size∧∀k∈M,J9≤k
theorem Po.st {w0 w:World}{M:List Nat}{H:List Ent}(hT:Po w0)(hG:VC w0 M)(hw:St w0 M H w):Po w:=
 Po.block w0 w (λk hk=>hw.old k (Nat.lt_of_lt_of_le hk hG.1) (λhm=>by have:=hG.2 k hm;omega)) hT
theorem VC.nil {w:World}(h:J9≤w.heap.size):VC w []:=⟨h,by simp⟩
theorem VC.st {w0 w:World}{M:List Nat}{H:List Ent}(hG:VC w0 M)(hw:St w0 M H w):J9≤w.heap.size:=Nat.le_trans hG.1 hw.size
structure Rz (w:World):Prop where
 tabs:Po w
 size:J9≤w.heap.size
theorem Rz.st {w0 w:World}{M:List Nat}{H:List Ent}(hE:Rz w0)(hM:∀k∈M,J9≤k)(hw:St w0 M H w):Rz w:=
 ⟨hE.tabs.st ⟨hE.size,hM⟩ hw,Nat.le_trans hE.size hw.size⟩
theorem Rz.st0 {w0 w:World}{H:List Ent}(hE:Rz w0)(hw:St w0 [] H w):Rz w:=hE.st (by simp) hw
theorem R1 (p:List UInt8):(B p).data.toList=p:=by simp[B]
theorem XA (m:Int)(h0 : -9223372036854775808≤m)(h1:m≤9223372036854775807)(w:World)(hE:Rz w):Calls Tryz.prog 79 [.int .i64 m].toArray w (JV w (.string (B (Lib.itoa m)))):=
 (Tryz.strconv_Itoa m h0 h1 w hE.tabs.pow).mono λe w' ⟨he,k,os,hw⟩=>⟨he,by rw[hw];exact St.of_below (Lib.below_grow _ _ (ZC _) _ _)⟩
theorem WV (p:List UInt8)(hp:p.length≤281474976710656)(v:Int)(h:Lib.atoiAll p = .ok v)(w:World):Calls Tryz.prog 124 [.string (B p)].toArray w (JV w (.tuple #[.int .i64 v,.nilIface])):=
 (Tryz.strconv_Atoi_ok (B p) (by rw[Dh];omega) v (by rw[R1];exact h) w).mono λe w' ⟨he,hw⟩=>⟨he,by
  rcases hw with rfl | ⟨t,rfl⟩
  ·exact St.refl _ _
  ·exact St.of_below (Joins.below_bytesWorld _ _ _ _ (ZC _))⟩
theorem Ry (p:List UInt8)(hp:p.length≤281474976710656)(h:Lib.atoiAll p = .range)(w:World)(hE:Rz w) :
  Calls Tryz.prog 124 [.string (B p)].toArray w (TE w [] (λv H=>∃m t b,v = .tuple #[.int .i64 m,.iface t b]∧H=[])):=by
 obtain⟨tp,q,hr⟩:=hE.tabs.rng;exact(Tryz.strconv_Atoi_range_var (B p) (by rw[Dh];omega) (by rw[R1];exact h) tp q w hr).mono λe w' ⟨N,he,_,_,hb⟩=>⟨_,_,he,St.of_below hb,_,_,_,rfl,rfl⟩
open Go Go.ChangeShapes Go.WideShapes Go.ChangeAt Go.RowKit Go.WideElems
theorem own:ownKnob Tryz.prog.godebug=none:=by kernel_rfl
theorem W5:laidOutB Tryz.prog=true:=by kernel_rfl
section
variable {H : Type} {enc : TypeId × Value → H} {P : Program}
theorem J1 (hl:laidOutB P=true){W W':World}(hb:Below W.heap.size W W'){sp:Nat→Bool}:∀{ts:List TypeId} {vs:List Value} {ds:List (DataW H)} {ps:List MemPlace},ts.all (λt=>P.readableRec t&&decide (t<P.types.size))=true→
  DataW.TrodAll enc P W 0 (λ_=>true) true ts vs ds ps→(∀p∈ps,p.block<W.heap.size)→(∀p∈ps,sp p.block=true)→DataW.TrodAll enc P W' 0 sp true ts vs ds ps
 | [],[],[],_,_,h,_,_=>h
 | [],_::_,_,_,_,h,_,_=>h.elim
 | [],[],_::_,_,_,h,_,_=>h.elim
 | _::_,[],_,_,_,h,_,_=>h.elim
 | _::_,_::_,[],_,_,h,_,_=>h.elim
 | t::ts,v::vs,d::ds,ps,ht,⟨p,q,h1,h2,e⟩,hlt,hs=>by
  simp only[List.all_cons,Zu,Zr] at ht;refine⟨p,q,?_,J1 hl hb ht.2 h2 (λx hx=>hlt x (by rw[e];exact List.mem_append_right _ hx)) (λx hx=>hs x (by rw[e];exact List.mem_append_right _ hx)),e⟩;exact Trod_stays hl ht.1.1 ht.1.2 h1 (λx hx=>hb.same (hlt x (by rw[e];exact List.mem_append_left _ hx))) (λx hx=>hs x (by rw[e];exact List.mem_append_left _ hx))
theorem SQ (hl:laidOutB P=true){f:Func}{s:ChangeSpec}{apart fresh handsOn:Bool}{W W':World}{args:Array Value}{ds gs:List (DataW H)}{before:List MemPlace}{tb:TypeId}(hp:f.params.toList.all (λt=>P.readableRec t&&decide (t<P.types.size))=true)
  (hv:s.vars=[]) (hr:f.resultTypes = #[tb]) (hb4:P.underlying tb=some .bool) (hW:DataW.Whole enc P f.params.toList s.vars apart W args.toList ds gs before)
  (h1:(s.fn H (ds++gs)).results=[.lit (.bool true)]) (h2:(s.fn H (ds++gs)).args=ds) (h3:(s.fn H (ds++gs)).vars=[]) (hb:Below W.heap.size W W') :
  s.post enc P f apart fresh handsOn false W args (.bool true) W':=by
 have hlt:∀p∈before,p.block<W.heap.size:=λp hp=>hW.lt p hp;have hW':=hW;obtain⟨p,q,hA,hV,hbf,_,_⟩:=hW';have hq:q=[]:=by
  rw[hv] at hV
  cases gs with
  | nil=>exact hV
  | cons _ _=>exact hV.elim
 subst hq;rw[Aag] at hbf;subst hbf;refine⟨ds,gs,before,[],before,[],hW,?_,?_,?_,World.keptBut_mono (λp hp=>⟨hp,.inr (.inl hp)⟩) (hb.frame (·∈before)),λh=>by cases h⟩
 ·rw[h1,hr];exact trodAll_mk1 (shut_bool hb4 true)
 ·rw[h2];exact J1 hl hb hp hA hlt (λx hx=>by simpa using hlt x hx)
 ·rw[hv,h3];exact rfl
end
theorem Rv:Tryz.prog.underlying 4=some .bool:=Tryz.underlying4
def MU : List (String × DataW Unit) := [("math/bits.deBruijn32tab", Rows.laid_math_bits_deBruijn32tab), ("math/bits.deBruijn64tab", Rows.laid_math_bits_deBruijn64tab), ("internal/strconv.uint64pow10", Rows.laid_internal_strconv_uint64pow10), ("strconv.ErrRange", Rows.laid_strconv_ErrRange), ("strconv.ErrSyntax", Rows.laid_strconv_ErrSyntax)]
theorem Vk:(Tryz.prog.globals[0]?).map (·.type)=some 225:=by kernel_rfl
theorem Vj:(Tryz.prog.globals[3]?).map (·.type)=some 161:=by kernel_rfl
theorem T0:Tryz.prog.cellsOf 179=1:=by kernel_rfl
theorem T1:Tryz.prog.cellsOf 225=20:=by kernel_rfl
theorem WF:(Tryz.prog.globals[5]?).map (·.type)=some 239:=by kernel_rfl
theorem V0:Tryz.prog.cellsOf 5=1:=by kernel_rfl
theorem Qy:Tryz.prog.cellsOf 239=64:=by kernel_rfl
theorem T2:Tryz.prog.cellsOf 9=1:=by kernel_rfl
theorem V1:Tryz.prog.cellsOf 237=1:=by kernel_rfl
theorem Sl : "*" ++ "errors.errorString" = "*errors.errorString" := by decide
theorem XG (u : TypeId) (h : Tryz.prog.typeName? 3 u = some "*errors.errorString") : u = 235 :=
 typeName_ptr_named (nm := "errors.errorString") (by rw [Sl]; kernel_rfl) (by kernel_rfl) (by decide) u (by rw [Sl]; exact h)
theorem Pa {W:World}{n:String}{g:Nat}{cs:Array Value}(hg:Tryz.prog.globalNamed n=some g)(h:W.var? Tryz.prog n=some cs):g<W.heap.size:=by
 unfold World.var? at h;rw[hg] at h;simp only[Option.bind_some] at h
 cases hh:W.heap[g]? with
 | none=>rw[hh] at h;cases h
 | some o=>exact(Array.getElem?_eq_some_iff.1 hh).1
theorem XH {W:World}(h:laidMet Tryz.prog MU W):Rz W:=by
 have h2:=laidMet.tail h;have hz : Lib.TabIs Tryz.prog W "math/bits.deBruijn64tab" .u8 Xb := Lib.tabIs_of_head YV WF Tryz.underlying239 Tryz.underlying5 V0 Qy h2
 have h3:=laidMet.tail h2;have h4:=laidMet.tail h3;have hp : Lib.TabIs Tryz.prog W "internal/strconv.uint64pow10" .u64 Lib.pow10Tab := Lib.tabIs_of_head XF Vk Tryz.underlying225 Tryz.underlying179 T0 T1 h3
 obtain⟨a,s,hv,_,_,_⟩:=laid_sentinel h4 XE Vj Tryz.underlying161 XG Tryz.underlying235 Tryz.underlying237 rfl rfl Tryz.underlying9 V1 T2;refine⟨⟨hp,hz,_,_,hv⟩,?_⟩;have h1:=Pa XF hp;have h5:=Pa XE hv;exact Nat.max_lt.2 ⟨Nat.max_lt.2 ⟨h1,h5⟩,Pa YV hz⟩
noncomputable def Ji (os:Os):World:=
 let w0:=World.holding Tryz.prog os ⟨#[],#[],[]⟩
 let put (h:Array Obj) (g:Nat) (cs:Array Value):Array Obj:=h.modify g fun
  | .cells _ t frozen=>.cells cs t frozen
  | o=>o
 let nums (d:DataW Unit):Array Value:=match d with
  | .agg ds=>(ds.map fun | .lit (.int k n)=>Value.int k n | _=>undef).toArray
  | _=>#[]
 let n:=w0.heap.size
 let h1:=put w0.heap 4 (nums Rows.laid_math_bits_deBruijn32tab)
 let h2:=put h1 5 (nums Rows.laid_math_bits_deBruijn64tab)
 let h3:=put h2 0 (nums Rows.laid_internal_strconv_uint64pow10)
 let h4:=put h3 3 #[.iface 235 (.pointer (some ⟨n,0,none⟩))]
 let h5:=put h4 2 #[.iface 235 (.pointer (some ⟨n+1,0,none⟩))]
 let h6:=h5.push (.cells #[.string ⟨#[118,97,108,117,101,32,111,117,116,32,111,102,32,114,97,110,103,101]⟩] 237 (0,0))
 let h7:=h6.push (.cells #[.string ⟨#[105,110,118,97,108,105,100,32,115,121,110,116,97,120]⟩] 237 (0,0))
 { w0 with heap:=h7 }
set_option maxRecDepth 100000 in
theorem UZ (os:Os)(args:Array Value):laidMet Tryz.prog MU ((Ji os).forCall (λ_ _=>0) ⟨#[],args,[]⟩).memory:=
 laidMet_of_run' 8 (by kernel_rfl) (by kernel_rfl)
set_option linter.unusedSimpArgs false
set_option maxRecDepth 100000
theorem RF (c:Int)(w:World):Calls Tryz.prog 87 [.int .i32 (c)].toArray w (JV w (.bool (D3 c))):=by
 refine Gz (n:=9) Tryz.func87 rfl Tryz.ntmps87 rfl (Aq (At (AC (A7 rfl) rfl (Av (A5 (AY ?_))))));refine AR [(2,.bool (((decide ((97)≤(c)))&&(decide ((c)≤(122))))))] [] (φ:=True) ?_ (λhm1=>?_)
 ·refine At (AC (Aw rfl) rfl (AC (Iq rfl rfl) rfl (AC (Aw rfl) rfl (AX (decide ((97)≤(c))) (λh1=>?_) (λh1=>?_)))))
  ·have g1:=h1;try simp only[Zr,Zq] at g1
   refine AJ rfl rfl h1 (AC (Aw rfl) rfl (AJ rfl rfl h1 (AC (LG rfl rfl) rfl (AC (AA rfl h1 rfl) rfl (AC (A7 rfl) rfl (Av ?_))))));exact A5 (BL trivial ⟨fb (by simp[h1]),trivial⟩ .slnil)
  ·have g1:=h1;try simp only[Zr,Zq] at g1
   refine AN rfl rfl h1 rfl (AN rfl rfl h1 rfl (AC (AF rfl h1 rfl) rfl (AC (A7 rfl) rfl (Av ?_))));exact A5 (BL trivial ⟨fb (by simp[h1]),trivial⟩ .slnil)
 refine A0 (Az (BW rfl rfl) ?_);exact Hn (by first | rfl | simp[])
theorem Sm (c:Int)(w:World):Calls Tryz.prog 88 [.int .i32 (c)].toArray w (JV w (.bool (Ec c))):=by
 refine Gz (n:=9) Tryz.func88 rfl Tryz.ntmps88 rfl (Aq (At (AC (A7 rfl) rfl (Av (A5 (AY ?_))))));refine AR [(2,.bool (((decide ((48)≤(c)))&&(decide ((c)≤(57))))))] [] (φ:=True) ?_ (λhm3=>?_)
 ·refine At (AC (Aw rfl) rfl (AC (Iq rfl rfl) rfl (AC (Aw rfl) rfl (AX (decide ((48)≤(c))) (λh3=>?_) (λh3=>?_)))))
  ·have g3:=h3;try simp only[Zr,Zq] at g3
   refine AJ rfl rfl h3 (AC (Aw rfl) rfl (AJ rfl rfl h3 (AC (LG rfl rfl) rfl (AC (AA rfl h3 rfl) rfl (AC (A7 rfl) rfl (Av ?_))))));exact A5 (BL trivial ⟨fb (by simp[h3]),trivial⟩ .slnil)
  ·have g3:=h3;try simp only[Zr,Zq] at g3
   refine AN rfl rfl h3 rfl (AN rfl rfl h3 rfl (AC (AF rfl h3 rfl) rfl (AC (A7 rfl) rfl (Av ?_))));exact A5 (BL trivial ⟨fb (by simp[h3]),trivial⟩ .slnil)
 refine A0 (Az (BW rfl rfl) ?_);exact Hn (by first | rfl | simp[])
theorem UY (c:Int)(w:World):Calls Tryz.prog 86 [.int .i32 (c)].toArray w (JV w (.bool (Ew c))):=by
 refine Gz (n:=37) Tryz.func86 rfl Tryz.ntmps86 rfl (Aq (At (AC (A7 rfl) rfl (Av (A5 (AY ?_))))));refine AR [(2,.bool (((D3 c)||((Ec c)||(bif decide ((65)≤(c)) then((decide ((c)≤(90)))||((decide ((c)=(45)))||((decide ((c)=(95)))||((decide ((c)=(46)))||((decide ((c)=(58)))||(decide ((c)=(47)))))))) else((decide ((c)=(45)))||((decide ((c)=(95)))||((decide ((c)=(46)))||((decide ((c)=(58)))||(decide ((c)=(47))))))))))))] [] (φ:=True) ?_ (λhn=>?_)
 ·refine At (AC (Aw rfl) rfl (Cu Tryz.call87 rfl (λw hw=>RF c w) rfl (AC (Aw rfl) rfl (AX (D3 c) (λh5=>?_) (λh5=>?_)))))
  ·have g5:=h5;try simp only[Zr,Zq] at g5
   refine AN rfl rfl h5 rfl (AN rfl rfl h5 rfl (AC (AA rfl h5 rfl) rfl (AC (Aw rfl) rfl (AN rfl rfl rfl rfl (AN rfl rfl rfl rfl (AN rfl rfl rfl rfl (Cg rfl rfl rfl (Cg rfl rfl rfl (AN rfl rfl rfl rfl (AC (AA rfl rfl rfl) rfl (AC (Aw rfl) rfl (AN rfl rfl rfl rfl (AN rfl rfl rfl rfl (AC (AA rfl rfl rfl) rfl (AC (Aw rfl) rfl (AN rfl rfl rfl rfl (AN rfl rfl rfl rfl (AC (AA rfl rfl rfl) rfl (AC (Aw rfl) rfl (AN rfl rfl rfl rfl (AN rfl rfl rfl rfl (AC (AA rfl rfl rfl) rfl (AC (Aw rfl) rfl ?_)))))))))))))))))))))));refine AN rfl rfl rfl rfl (AN rfl rfl rfl rfl (AC (AA rfl rfl rfl) rfl (AC (Aw rfl) rfl (AN rfl rfl rfl rfl (AN rfl rfl rfl rfl (AC (AA rfl rfl rfl) rfl (AC (A7 rfl) rfl (Av ?_))))))));exact A5 (BL trivial ⟨fb (by simp[h5]),trivial⟩ .slnil)
  ·have g5:=h5;try simp only[Zr,Zq] at g5
   refine AJ rfl rfl h5 (AC (Aw rfl) rfl (AJ rfl rfl h5 (Cu Tryz.call88 rfl (λw hw=>Sm c w) rfl (AC (AF rfl h5 rfl) rfl (AC (Aw rfl) rfl (AX (Ec c) (λh6=>?_) (λh6=>?_)))))))
   ·have g6:=h6;try simp only[Zr,Zq] at g6
    refine AN rfl rfl h6 rfl (AN rfl rfl h6 rfl (AN rfl rfl h6 rfl (Cg rfl rfl rfl (Cg rfl rfl rfl (AN rfl rfl h6 rfl (AC (AA rfl h6 rfl) rfl (AC (Aw rfl) rfl (AN rfl rfl rfl rfl (AN rfl rfl rfl rfl (AC (AA rfl rfl rfl) rfl (AC (Aw rfl) rfl (AN rfl rfl rfl rfl (AN rfl rfl rfl rfl (AC (AA rfl rfl rfl) rfl (AC (Aw rfl) rfl (AN rfl rfl rfl rfl (AN rfl rfl rfl rfl (AC (AA rfl rfl rfl) rfl (AC (Aw rfl) rfl (AN rfl rfl rfl rfl (AN rfl rfl rfl rfl (AC (AA rfl rfl rfl) rfl (AC (Aw rfl) rfl ?_)))))))))))))))))))))));refine AN rfl rfl rfl rfl (AN rfl rfl rfl rfl (AC (AA rfl rfl rfl) rfl (AC (A7 rfl) rfl (Av ?_))));exact A5 (BL trivial ⟨fb (by simp[h5,h6]),trivial⟩ .slnil)
   ·have g6:=h6;try simp only[Zr,Zq] at g6
    refine AJ rfl rfl h6 (AC (Aw rfl) rfl (AJ rfl rfl h6 (AC (Iq rfl rfl) rfl (AJ rfl rfl h6 (AC (Aw rfl) rfl (AX (decide ((65)≤(c))) (λh7=>?_) (λh7=>?_)))))))
    ·have g7:=h7;try simp only[Zr,Zq] at g7
     refine AJ rfl rfl h7 (AC (Aw rfl) rfl (AJ rfl rfl h7 (AC (LG rfl rfl) rfl (AJ rfl rfl h6 (AC (AA rfl h7 rfl) rfl (AC (AF rfl h6 rfl) rfl (AC (Aw rfl) rfl (AX (decide ((c)≤(90))) (λh8=>?_) (λh8=>?_)))))))))
     ·have g8:=h8;try simp only[Zr,Zq] at g8
      refine AN rfl rfl h8 rfl (AN rfl rfl h8 rfl (AC (AA rfl h8 rfl) rfl (AC (Aw rfl) rfl (AN rfl rfl rfl rfl (AN rfl rfl rfl rfl (AC (AA rfl rfl rfl) rfl (AC (Aw rfl) rfl (AN rfl rfl rfl rfl (AN rfl rfl rfl rfl (AC (AA rfl rfl rfl) rfl (AC (Aw rfl) rfl (AN rfl rfl rfl rfl (AN rfl rfl rfl rfl (AC (AA rfl rfl rfl) rfl (AC (Aw rfl) rfl (AN rfl rfl rfl rfl (AN rfl rfl rfl rfl (AC (AA rfl rfl rfl) rfl (AC (A7 rfl) rfl (Av ?_))))))))))))))))))));exact A5 (BL trivial ⟨fb (by simp[h5,h6,h7,h8]),trivial⟩ .slnil)
     ·have g8:=h8;try simp only[Zr,Zq] at g8
      refine AJ rfl rfl h8 (AC (Aw rfl) rfl (AJ rfl rfl h8 (AC (BN rfl rfl) rfl (AC (AF rfl h8 rfl) rfl (AC (Aw rfl) rfl (AX (decide ((c)=(45))) (λh9=>?_) (λh9=>?_)))))))
      ·have g9:=h9;try simp only[Zr,Zq] at g9
       refine AN rfl rfl h9 rfl (AN rfl rfl h9 rfl (AC (AA rfl h9 rfl) rfl (AC (Aw rfl) rfl (AN rfl rfl rfl rfl (AN rfl rfl rfl rfl (AC (AA rfl rfl rfl) rfl (AC (Aw rfl) rfl (AN rfl rfl rfl rfl (AN rfl rfl rfl rfl (AC (AA rfl rfl rfl) rfl (AC (Aw rfl) rfl (AN rfl rfl rfl rfl (AN rfl rfl rfl rfl (AC (AA rfl rfl rfl) rfl (AC (A7 rfl) rfl (Av ?_))))))))))))))));exact A5 (BL trivial ⟨fb (by simp[h5,h6,h7,h8,h9]),trivial⟩ .slnil)
      ·have g9:=h9;try simp only[Zr,Zq] at g9
       refine AJ rfl rfl h9 (AC (Aw rfl) rfl (AJ rfl rfl h9 (AC (BN rfl rfl) rfl (AC (AF rfl h9 rfl) rfl (AC (Aw rfl) rfl (AX (decide ((c)=(95))) (λhb=>?_) (λhb=>?_)))))))
       ·have hi:=hb;try simp only[Zr,Zq] at hi
        refine AN rfl rfl hb rfl (AN rfl rfl hb rfl (AC (AA rfl hb rfl) rfl (AC (Aw rfl) rfl (AN rfl rfl rfl rfl (AN rfl rfl rfl rfl (AC (AA rfl rfl rfl) rfl (AC (Aw rfl) rfl (AN rfl rfl rfl rfl (AN rfl rfl rfl rfl (AC (AA rfl rfl rfl) rfl (AC (A7 rfl) rfl (Av ?_))))))))))));exact A5 (BL trivial ⟨fb (by simp[h5,h6,h7,h8,h9,hb]),trivial⟩ .slnil)
       ·have hi:=hb;try simp only[Zr,Zq] at hi
        refine AJ rfl rfl hb (AC (Aw rfl) rfl (AJ rfl rfl hb (AC (BN rfl rfl) rfl (AC (AF rfl hb rfl) rfl (AC (Aw rfl) rfl (AX (decide ((c)=(46))) (λhe=>?_) (λhe=>?_)))))))
        ·have hj:=he;try simp only[Zr,Zq] at hj
         refine AN rfl rfl he rfl (AN rfl rfl he rfl (AC (AA rfl he rfl) rfl (AC (Aw rfl) rfl (AN rfl rfl rfl rfl (AN rfl rfl rfl rfl (AC (AA rfl rfl rfl) rfl (AC (A7 rfl) rfl (Av ?_))))))));exact A5 (BL trivial ⟨fb (by simp[h5,h6,h7,h8,h9,hb,he]),trivial⟩ .slnil)
        ·have hj:=he;try simp only[Zr,Zq] at hj
         refine AJ rfl rfl he (AC (Aw rfl) rfl (AJ rfl rfl he (AC (BN rfl rfl) rfl (AC (AF rfl he rfl) rfl (AC (Aw rfl) rfl (AX (decide ((c)=(58))) (λhg=>?_) (λhg=>?_)))))))
         ·have hk:=hg;try simp only[Zr,Zq] at hk
          refine AN rfl rfl hg rfl (AN rfl rfl hg rfl (AC (AA rfl hg rfl) rfl (AC (A7 rfl) rfl (Av ?_))));exact A5 (BL trivial ⟨fb (by simp[h5,h6,h7,h8,h9,hb,he,hg]),trivial⟩ .slnil)
         ·have hk:=hg;try simp only[Zr,Zq] at hk
          refine AJ rfl rfl hg (AC (Aw rfl) rfl (AJ rfl rfl hg (AC (BN rfl rfl) rfl (AC (AF rfl hg rfl) rfl (AC (A7 rfl) rfl (Av ?_))))));exact A5 (BL trivial ⟨fb (by simp[h5,h6,h7,h8,h9,hb,he,hg]),trivial⟩ .slnil)
    ·have g7:=h7;try simp only[Zr,Zq] at g7
     refine AN rfl rfl h7 rfl (AN rfl rfl h7 rfl (AJ rfl rfl h6 (AC (AF rfl h7 rfl) rfl (AC (AF rfl h6 rfl) rfl (AC (Aw rfl) rfl (AJ rfl rfl rfl (AC (Aw rfl) rfl (AJ rfl rfl rfl (AC (BN rfl rfl) rfl (AC (AF rfl rfl rfl) rfl (AC (Aw rfl) rfl (AX (decide ((c)=(45))) (λha=>?_) (λha=>?_)))))))))))))
     ·have hl:=ha;try simp only[Zr,Zq] at hl
      refine AN rfl rfl ha rfl (AN rfl rfl ha rfl (AC (AA rfl ha rfl) rfl (AC (Aw rfl) rfl (AN rfl rfl rfl rfl (AN rfl rfl rfl rfl (AC (AA rfl rfl rfl) rfl (AC (Aw rfl) rfl (AN rfl rfl rfl rfl (AN rfl rfl rfl rfl (AC (AA rfl rfl rfl) rfl (AC (Aw rfl) rfl (AN rfl rfl rfl rfl (AN rfl rfl rfl rfl (AC (AA rfl rfl rfl) rfl (AC (A7 rfl) rfl (Av ?_))))))))))))))));exact A5 (BL trivial ⟨fb (by simp[h5,h6,h7,ha]),trivial⟩ .slnil)
     ·have hl:=ha;try simp only[Zr,Zq] at hl
      refine AJ rfl rfl ha (AC (Aw rfl) rfl (AJ rfl rfl ha (AC (BN rfl rfl) rfl (AC (AF rfl ha rfl) rfl (AC (Aw rfl) rfl (AX (decide ((c)=(95))) (λhd=>?_) (λhd=>?_)))))))
      ·have hm:=hd;try simp only[Zr,Zq] at hm
       refine AN rfl rfl hd rfl (AN rfl rfl hd rfl (AC (AA rfl hd rfl) rfl (AC (Aw rfl) rfl (AN rfl rfl rfl rfl (AN rfl rfl rfl rfl (AC (AA rfl rfl rfl) rfl (AC (Aw rfl) rfl (AN rfl rfl rfl rfl (AN rfl rfl rfl rfl (AC (AA rfl rfl rfl) rfl (AC (A7 rfl) rfl (Av ?_))))))))))));exact A5 (BL trivial ⟨fb (by simp[h5,h6,h7,ha,hd]),trivial⟩ .slnil)
      ·have hm:=hd;try simp only[Zr,Zq] at hm
       refine AJ rfl rfl hd (AC (Aw rfl) rfl (AJ rfl rfl hd (AC (BN rfl rfl) rfl (AC (AF rfl hd rfl) rfl (AC (Aw rfl) rfl (AX (decide ((c)=(46))) (λhf=>?_) (λhf=>?_)))))))
       ·have g15:=hf;try simp only[Zr,Zq] at g15
        refine AN rfl rfl hf rfl (AN rfl rfl hf rfl (AC (AA rfl hf rfl) rfl (AC (Aw rfl) rfl (AN rfl rfl rfl rfl (AN rfl rfl rfl rfl (AC (AA rfl rfl rfl) rfl (AC (A7 rfl) rfl (Av ?_))))))));exact A5 (BL trivial ⟨fb (by simp[h5,h6,h7,ha,hd,hf]),trivial⟩ .slnil)
       ·have g15:=hf;try simp only[Zr,Zq] at g15
        refine AJ rfl rfl hf (AC (Aw rfl) rfl (AJ rfl rfl hf (AC (BN rfl rfl) rfl (AC (AF rfl hf rfl) rfl (AC (Aw rfl) rfl (AX (decide ((c)=(58))) (λhh=>?_) (λhh=>?_)))))))
        ·have g16:=hh;try simp only[Zr,Zq] at g16
         refine AN rfl rfl hh rfl (AN rfl rfl hh rfl (AC (AA rfl hh rfl) rfl (AC (A7 rfl) rfl (Av ?_))));exact A5 (BL trivial ⟨fb (by simp[h5,h6,h7,ha,hd,hf,hh]),trivial⟩ .slnil)
        ·have g16:=hh;try simp only[Zr,Zq] at g16
         refine AJ rfl rfl hh (AC (Aw rfl) rfl (AJ rfl rfl hh (AC (BN rfl rfl) rfl (AC (AF rfl hh rfl) rfl (AC (A7 rfl) rfl (Av ?_))))));exact A5 (BL trivial ⟨fb (by simp[h5,h6,h7,ha,hd,hf,hh]),trivial⟩ .slnil)
 refine A0 (Az (BW rfl rfl) ?_);exact Hn (by simp only[Ew];by_cases h:65≤c<;>simp[h,Bool.or_assoc])
theorem VW (m:Int)(w:World):Calls Tryz.prog 117 [.int .i64 (m)].toArray w (JV w (.bool (Mv m))):=by
 refine Gz (n:=9) Tryz.func117 rfl Tryz.ntmps117 rfl (Aq (At (AC (A7 rfl) rfl (Av (A5 (AY ?_))))));refine AR [(2,.bool (((decide ((-1000000000000)≤(m)))&&(decide ((m)≤(1000000000000))))))] [] (φ:=True) ?_ (λhd=>?_)
 ·refine At (AC (Aw rfl) rfl (AC (LG rfl rfl) rfl (AC (Aw rfl) rfl (AX (decide ((-1000000000000)≤(m))) (λha=>?_) (λha=>?_)))))
  ·have hb:=ha;try simp only[Zr,Zq] at hb
   refine AJ rfl rfl ha (AC (Aw rfl) rfl (AJ rfl rfl ha (AC (LG rfl rfl) rfl (AC (AA rfl ha rfl) rfl (AC (A7 rfl) rfl (Av ?_))))));exact A5 (BL trivial ⟨fb (by first | (simp only[ha,Z7,ZA,ZI,Z6,ZF,ZB,ZH,ZG,Z2,ZD,Z1,Zx,Aac,ZU,reduceIte,Z8];done) | simp[ha]),trivial⟩ .slnil)
  ·have hb:=ha;try simp only[Zr,Zq] at hb
   refine AN rfl rfl ha rfl (AN rfl rfl ha rfl (AC (AF rfl ha rfl) rfl (AC (A7 rfl) rfl (Av ?_))));exact A5 (BL trivial ⟨fb (by first | (simp only[ha,Z7,ZA,ZI,Z6,ZF,ZB,ZH,ZG,Z2,ZD,Z1,Zx,Aac,ZU,reduceIte,Z8];done) | simp[ha]),trivial⟩ .slnil)
 refine A0 (Az (BW rfl rfl) ?_);exact Hn (by first | rfl | simp[])
theorem X2 (p:List UInt8)(w:World):Calls Tryz.prog 53 [.string (B p)].toArray w (JV w (.bool (EM p))):=by
 refine Gz (n:=39) Tryz.func53 rfl Tryz.ntmps53 rfl (Aq (At (AC (A7 rfl) rfl (Av (A5 (AY ?_))))));refine Aq (Aq (At (AC (Aw rfl) rfl (NE C4 rfl rfl (λhh=>?_)))));refine Av (A5 (AY ?_));refine AO (Ka (S:=Nat) (λ(k:Nat)=>k≤p.length∧Bm Eb 0 p=Bm Eb k (p.drop k)) (λ(k:Nat)=>[(0,.string (B (p))),(2,.bool (false)),(6,.pointer (some ⟨hh,0,none⟩))]) (λ(k:Nat)=>[.blk hh (.stringIter (B p) (k))]) (λ(k:Nat)=>p.length-k) (0) ?_ ⟨rfl,rfl,rfl,trivial⟩ (.cons_cons _ (.slnil)) ?_)
 ·exact⟨ZV _,by simp⟩
 rintro k hi0;refine Aq (At (P4 (i:=0) rfl rfl rfl (λhend=>?_) (λhr hd hp hq hlu39 hhu39 hwu39=>?_)))
 ·refine AC (A4 rfl rfl) rfl (Av (A5 (AY ?_)));refine Aq (Db rfl rfl (BB (A9 (A9 (Bf (A5 (AY ?_)))))));refine AR [(2,.bool (((decide ((1)≤((p.length:Int))))&&(decide (((p.length:Int))≤(24))))))] [.blk hh (.stringIter (B p) (k))] (φ:=True) ?_ (λhs=>?_)
  ·refine At (AC (Aw rfl) rfl (AC (BA C4 rfl) rfl (AC (Iq rfl rfl) rfl (AC (Aw rfl) rfl (AX (decide ((1)≤((p.length:Int)))) (λhe=>?_) (λhe=>?_))))))
   ·have hj:=he;try simp only[Zr,Zq] at hj
    refine AJ rfl rfl he (AC (Aw rfl) rfl (AJ rfl rfl he (AC (BA C4 rfl) rfl (AJ rfl rfl he (AC (LG rfl rfl) rfl (AC (AA rfl he rfl) rfl (AC (A7 rfl) rfl (Av ?_))))))));exact A5 (BL trivial ⟨fb (by first | (simp only[he,Z7,ZA,ZI,Z6,ZF,ZB,ZH,ZG,Z2,ZD,Z1,Zx,Aac,ZU,reduceIte,Z8];done) | simp[he]),trivial⟩ (.cons_cons _ (.slnil)))
   ·have hj:=he;try simp only[Zr,Zq] at hj
    refine AN rfl rfl he rfl (AN rfl rfl he rfl (AN rfl rfl he rfl (AC (AF rfl he rfl) rfl (AC (A7 rfl) rfl (Av ?_)))));exact A5 (BL trivial ⟨fb (by first | (simp only[he,Z7,ZA,ZI,Z6,ZF,ZB,ZH,ZG,Z2,ZD,Z1,Zx,Aac,ZU,reduceIte,Z8];done) | simp[he]),trivial⟩ (.cons_cons _ (.slnil)))
  refine A0 (Az (BW rfl rfl) ?_);exact Hn (by rw[UL hi0 hend])
 ·refine AC (A4 rfl rfl) rfl (Av (A5 (AY ?_)));refine Aq (BK rfl rfl (A3 (A5 (AY ?_))));refine AO (Aq (At (AC (A4 rfl rfl) rfl (AC (A4 rfl rfl) rfl (AC (A7 rfl) rfl (AC (A7 rfl) rfl (Av (A5 (AY ?_)))))))));refine AR [(0,.string (B (p))),(2,.bool (false)),(3,.int .i64 ((k:Int))),(4,.int .i32 ((hd:Int))),(6,.pointer (some ⟨hh,0,none⟩)),(7,.tuple #[.bool (true),.int .i64 ((k:Int)),.int .i32 ((hd:Int))]),(8,.bool (true)),(9,.int .i64 ((k:Int))),(10,.int .i32 ((hd:Int))),(11,.int .i32 ((hd:Int))),(12,.bool (D3 (hd:Int))),(13,.bool (!(D3 (hd:Int)))),(14,.bool (!(D3 (hd:Int)))),(30,.bool (((!(D3 (hd:Int)))&&((decide (((k:Int))=(0)))||((!(Ec (hd:Int)))&&((!(decide (((hd:Int))=(45))))&&(!(decide (((hd:Int))=(95))))))))))] [.blk hh (.stringIter (B p) (k+hp))] (φ:=True) ?_ (λht=>?_)
  ·refine At (AC (Aw rfl) rfl (Cu Tryz.call87 rfl (λw hw=>RF (hd:Int) w) rfl (AC (B7 rfl) rfl (AC (Aw rfl) rfl (AX (!(D3 (hd:Int))) (λhb=>?_) (λhb=>?_))))))
   ·have hk:=hb;try simp only[Zr,Zq] at hk
    refine AJ rfl rfl hb (AC (Aw rfl) rfl (AJ rfl rfl hb (AC (BN rfl rfl) rfl (AJ rfl rfl hb (AC (Aw rfl) rfl (AX (decide (((k:Int))=(0))) (λha=>?_) (λha=>?_)))))))
    ·have hl:=ha;try simp only[Zr,Zq] at hl
     refine AN rfl rfl ha rfl (AN rfl rfl ha rfl (AN rfl rfl ha rfl (AN rfl rfl ha rfl (Cg rfl rfl rfl (Cg rfl rfl rfl (AN rfl rfl ha rfl (AN rfl rfl ha rfl (Cg rfl rfl rfl (Cg rfl rfl rfl (AN rfl rfl ha rfl (AJ rfl rfl hb (AC (AA rfl ha rfl) rfl (AC (AA rfl hb rfl) rfl (Av ?_))))))))))))));exact A5 (BL trivial ⟨rfl,rfl,rfl,rfl,rfl,rfl,rfl,rfl,rfl,rfl,rfl,rfl,rfl,fb (by first | (simp only[hb,ha,Z7,ZA,ZI,Z6,ZF,ZB,ZH,ZG,Z2,ZD,Z1,Zx,Aac,ZU,reduceIte,Z8];done) | simp[hb,ha]),trivial⟩ (.cons_cons _ (.slnil)))
    ·have hl:=ha;try simp only[Zr,Zq] at hl
     refine AJ rfl rfl ha (AC (Aw rfl) rfl (AJ rfl rfl ha (Cu Tryz.call88 rfl (λw hw=>Sm (hd:Int) w) rfl (AJ rfl rfl ha (AC (B7 rfl) rfl (AJ rfl rfl ha (AC (Aw rfl) rfl (AX (!(Ec (hd:Int))) (λhf=>?_) (λhf=>?_)))))))))
     ·have hm:=hf;try simp only[Zr,Zq] at hm
      refine AJ rfl rfl hf (AC (Aw rfl) rfl (AJ rfl rfl hf (AC (Cr rfl rfl) rfl (AJ rfl rfl ha (AC (AA rfl hf rfl) rfl (AJ rfl rfl ha (AC (Aw rfl) rfl (AX (!(decide (((hd:Int))=(45)))) (λhg=>?_) (λhg=>?_)))))))))
      ·have hn:=hg;try simp only[Zr,Zq] at hn
       refine AJ rfl rfl hg (AC (Aw rfl) rfl (AJ rfl rfl hg (AC (Cr rfl rfl) rfl (AJ rfl rfl ha (AC (AA rfl hg rfl) rfl (AJ rfl rfl hb (AC (AF rfl ha rfl) rfl (AC (AA rfl hb rfl) rfl (Av ?_)))))))));exact A5 (BL trivial ⟨rfl,rfl,rfl,rfl,rfl,rfl,rfl,rfl,rfl,rfl,rfl,rfl,rfl,fb (by first | (simp only[hb,ha,hf,hg,Z7,ZA,ZI,Z6,ZF,ZB,ZH,ZG,Z2,ZD,Z1,Zx,Aac,ZU,reduceIte,Z8];done) | simp[hb,ha,hf,hg]),trivial⟩ (.cons_cons _ (.slnil)))
      ·have hn:=hg;try simp only[Zr,Zq] at hn
       refine AN rfl rfl hg rfl (AN rfl rfl hg rfl (AJ rfl rfl ha (AC (AF rfl hg rfl) rfl (AJ rfl rfl hb (AC (AF rfl ha rfl) rfl (AC (AA rfl hb rfl) rfl (Av ?_)))))));exact A5 (BL trivial ⟨rfl,rfl,rfl,rfl,rfl,rfl,rfl,rfl,rfl,rfl,rfl,rfl,rfl,fb (by first | (simp only[hb,ha,hf,hg,Z7,ZA,ZI,Z6,ZF,ZB,ZH,ZG,Z2,ZD,Z1,Zx,Aac,ZU,reduceIte,Z8];done) | simp[hb,ha,hf,hg]),trivial⟩ (.cons_cons _ (.slnil)))
     ·have hm:=hf;try simp only[Zr,Zq] at hm
      refine AN rfl rfl hf rfl (AN rfl rfl hf rfl (AJ rfl rfl ha (AC (AF rfl hf rfl) rfl (AJ rfl rfl ha (AC (Aw rfl) rfl (AN rfl rfl rfl rfl (AN rfl rfl rfl rfl (AJ rfl rfl ha (AC (AF rfl rfl rfl) rfl (AJ rfl rfl hb (AC (AF rfl ha rfl) rfl (AC (AA rfl hb rfl) rfl (Av ?_)))))))))))));exact A5 (BL trivial ⟨rfl,rfl,rfl,rfl,rfl,rfl,rfl,rfl,rfl,rfl,rfl,rfl,rfl,fb (by first | (simp only[hb,ha,hf,Z7,ZA,ZI,Z6,ZF,ZB,ZH,ZG,Z2,ZD,Z1,Zx,Aac,ZU,reduceIte,Z8];done) | simp[hb,ha,hf]),trivial⟩ (.cons_cons _ (.slnil)))
   ·have hk:=hb;try simp only[Zr,Zq] at hk
    refine AN rfl rfl hb rfl (AN rfl rfl hb rfl (AN rfl rfl hb rfl (Cg rfl rfl rfl (Cg rfl rfl rfl (Cg rfl rfl rfl (Cg rfl rfl rfl (Cg rfl rfl rfl (Cg rfl rfl rfl (Cg rfl rfl rfl (Cg rfl rfl rfl (Cg rfl rfl rfl (Cg rfl rfl rfl (Cg rfl rfl rfl (AN rfl rfl hb rfl (AC (AF rfl hb rfl) rfl (Av ?_))))))))))))))));exact A5 (BL trivial ⟨rfl,rfl,rfl,rfl,rfl,rfl,rfl,rfl,rfl,rfl,rfl,rfl,rfl,fb (by first | (simp only[hb,Z7,ZA,ZI,Z6,ZF,ZB,ZH,ZG,Z2,ZD,Z1,Zx,Aac,ZU,reduceIte,Z8];done) | simp[hb]),trivial⟩ (.cons_cons _ (.slnil)))
  refine D5 (b:=((!(D3 (hd:Int)))&&((decide (((k:Int))=(0)))||((!(Ec (hd:Int)))&&((!(decide (((hd:Int))=(45))))&&(!(decide (((hd:Int))=(95))))))))) rfl (λhi=>?_) (λhi=>?_)
  ·have ho:=hi;try simp only[Zr,Zq] at ho
   refine Aq (At (AC (A7 rfl) rfl (Av (A5 (AY ?_)))));refine A0 (AD (Af (AD (Af (Az (BW rfl rfl) ?_)))));exact Hn (by rw[W0 hi0 hq hlu39 hhu39 hi])
  ·have ho:=hi;try simp only[Zr,Zq] at ho
   refine A3 (AH (A5 (AK (k+hp) ?_ ⟨rfl,rfl,rfl,trivial⟩ (.cons_cons _ (.slnil)))));exact Td hi0 hq hlu39 hhu39 hi
theorem Yz (p:List UInt8)(w:World):Calls Tryz.prog 52 [.string (B p)].toArray w (JV w (.bool (LK p))):=by
 refine Gz (n:=21) Tryz.func52 rfl Tryz.ntmps52 rfl (Aq (At (AC (A7 rfl) rfl (Av (A5 (AY ?_))))));refine Aq (Aq (At (AC (Aw rfl) rfl (NE C4 rfl rfl (λhd=>?_)))));refine Av (A5 (AY ?_));refine AO (Ka (S:=Nat) (λ(k:Nat)=>k≤p.length∧Bm LL 0 p=Bm LL k (p.drop k)) (λ(k:Nat)=>[(0,.string (B (p))),(2,.bool (false)),(6,.pointer (some ⟨hd,0,none⟩))]) (λ(k:Nat)=>[.blk hd (.stringIter (B p) (k))]) (λ(k:Nat)=>p.length-k) (0) ?_ ⟨rfl,rfl,rfl,trivial⟩ (.cons_cons _ (.slnil)) ?_)
 ·exact⟨ZV _,by simp⟩
 rintro k hi0;refine Aq (At (P4 (i:=0) rfl rfl rfl (λhend=>?_) (λhj hg hi hh hlu51 hhu51 hwu51=>?_)))
 ·refine AC (A4 rfl rfl) rfl (Av (A5 (AY ?_)));refine Aq (Db rfl rfl (BB (A9 (A9 (Bf (A5 (AY ?_)))))));refine AR [(2,.bool (((decide ((1)≤((p.length:Int))))&&(decide (((p.length:Int))≤(64))))))] [.blk hd (.stringIter (B p) (k))] (φ:=True) ?_ (λhk=>?_)
  ·refine At (AC (Aw rfl) rfl (AC (BA C4 rfl) rfl (AC (Iq rfl rfl) rfl (AC (Aw rfl) rfl (AX (decide ((1)≤((p.length:Int)))) (λha=>?_) (λha=>?_))))))
   ·have he:=ha;try simp only[Zr,Zq] at he
    refine AJ rfl rfl ha (AC (Aw rfl) rfl (AJ rfl rfl ha (AC (BA C4 rfl) rfl (AJ rfl rfl ha (AC (LG rfl rfl) rfl (AC (AA rfl ha rfl) rfl (AC (A7 rfl) rfl (Av ?_))))))));exact A5 (BL trivial ⟨fb (by first | (simp only[ha,Z7,ZA,ZI,Z6,ZF,ZB,ZH,ZG,Z2,ZD,Z1,Zx,Aac,ZU,reduceIte,Z8];done) | simp[ha]),trivial⟩ (.cons_cons _ (.slnil)))
   ·have he:=ha;try simp only[Zr,Zq] at he
    refine AN rfl rfl ha rfl (AN rfl rfl ha rfl (AN rfl rfl ha rfl (AC (AF rfl ha rfl) rfl (AC (A7 rfl) rfl (Av ?_)))));exact A5 (BL trivial ⟨fb (by first | (simp only[ha,Z7,ZA,ZI,Z6,ZF,ZB,ZH,ZG,Z2,ZD,Z1,Zx,Aac,ZU,reduceIte,Z8];done) | simp[ha]),trivial⟩ (.cons_cons _ (.slnil)))
  refine A0 (Az (BW rfl rfl) ?_);exact Hn (by rw[XD hi0 hend])
 ·refine AC (A4 rfl rfl) rfl (Av (A5 (AY ?_)));refine Aq (BK rfl rfl (A3 (A5 (AY ?_))));refine AO (Aq (At (AC (A4 rfl rfl) rfl (AC (A7 rfl) rfl (Av (A5 (AY ?_)))))));refine Aq (At (AC (Aw rfl) rfl (Cu Tryz.call86 rfl (λw hw=>UY (hg:Int) w) rfl (AC (B7 rfl) rfl (Av (A5 (AY ?_)))))));refine D5 (b:=!(Ew (hg:Int))) rfl (λhb=>?_) (λhb=>?_)
  ·have hf:=hb;try simp only[Zr,Zq] at hf
   refine Aq (At (AC (A7 rfl) rfl (Av (A5 (AY ?_)))));refine A0 (AD (Af (AD (Af (Az (BW rfl rfl) ?_)))));exact Hn (by rw[Yy hi0 hh hlu51 hhu51 hb])
  ·have hf:=hb;try simp only[Zr,Zq] at hf
   refine A3 (AH (A5 (AK (k+hi) ?_ ⟨rfl,rfl,rfl,trivial⟩ (.cons_cons _ (.slnil)))));exact WB hi0 hh hlu51 hhu51 hb
open Go
def Wd (p:List UInt8):Bool:=decide ((0:Int)<p.length)&&decide (Bu p 0=45)
def Ng (p:List UInt8):List UInt8:=if Wd p=true then p.drop 1 else p
theorem Vv (p:List UInt8):(Ng p).length≤p.length:=by unfold Ng;split<;>simp
def E0 (_:Nat)(u:UInt8):Bool:=!(decide ((u.toNat:Int)<48)||decide (57<(u.toNat:Int)))
def Pe (p:List UInt8):Bool:=!(decide (Ng p=[])||(decide (Bu (Ng p) 0=48)&&!decide (p=[48])))&&Bm E0 0 (Ng p)
theorem GK {p:List UInt8}(h : ¬ p=[]):(0:Int)<p.length:=by
 cases p with
 | nil=>exact absurd rfl h
 | cons a r=>simp
theorem Oh {p:List UInt8}{k:Nat}(h:(k:Int)<p.length):∃u,p[k]? =some u:=⟨p[k]'(by omega),Zt (by omega)⟩
theorem Vw {p:List UInt8}{k:Nat}(hi:k≤p.length∧Bm E0 0 p=Bm E0 k (p.drop k))(h:(k:Int)<p.length)(ht:(decide (Bu p k<48)||decide (57<Bu p k))=false) :
  (k+1≤p.length∧Bm E0 0 p=Bm E0 (k+1) (p.drop (k+1)))∧p.length-(k+1)<p.length-k:=by
 obtain⟨u,hu⟩:=Oh h;rw[V7 hu] at ht;exact MC hi hu (by simp only[E0,ht];rfl)
theorem XK {p:List UInt8}{k:Nat}(hi:k≤p.length∧Bm E0 0 p=Bm E0 k (p.drop k))(h:(k:Int)<p.length)(ht:(decide (Bu p k<48)||decide (57<Bu p k))=true):Bm E0 0 p=false:=by
 obtain⟨u,hu⟩:=Oh h;rw[V7 hu] at ht;exact QN hi hu (by simp only[E0,ht];rfl)
theorem WM {p:List UInt8}{k:Nat}(hi:k≤p.length∧Bm E0 0 p=Bm E0 k (p.drop k))(h : ¬ (k:Int)<p.length):Bm E0 0 p=true:=O7 hi (by omega)
def Ce (p:List UInt8):Int:=if Pe p=true then(match Lib.atoiAll p with | .ok v=>if Mv v=true then 0 else 2 | _=>2) else 1
def AS (p:List UInt8):Int:=if Pe p=true then(match Lib.atoiAll p with | .ok v=>if Mv v=true then v else 0 | _=>0) else 0
theorem Nh:∀(l:List UInt8) (i acc:Nat),Bm E0 i l=true→(∃u,Lib.parseUint10 acc l = .ok u)∨Lib.parseUint10 acc l = .range
 | [],_,acc,_=>.inl ⟨acc,rfl⟩
 | c::r,i,acc,h=>by
  simp only[Bm,Zu] at h;have hc:48≤c.toNat∧c.toNat≤57:=by have:=h.1;simp[E0] at this;omega
  unfold Lib.parseUint10;rw[Aai hc]
  split
  ·exact .inr rfl
  ·split
   ·exact .inr rfl
   ·exact Nh r _ _ h.2
theorem RY {l:List UInt8}(hne:l≠[])(h:Bm E0 0 l=true):(∃u,Lib.parseMag l = .ok u)∨Lib.parseMag l = .range:=by
 unfold Lib.parseMag;rw[Aaa hne];exact Nh l 0 0 h
theorem O4 {e:Lib.NumEnd Nat}(h:(∃u,e = .ok u)∨e = .range):(∃v,Lib.signless e = .ok v)∨Lib.signless e = .range:=by
 rcases h with⟨u,rfl⟩ | rfl
 ·unfold Lib.signless
  by_cases h:9223372036854775808≤u
  ·exact .inr (by simp[h])
  ·exact .inl ⟨_,by simp[h];rfl⟩
 ·exact .inr rfl
theorem QM {e:Lib.NumEnd Nat}(h:(∃u,e = .ok u)∨e = .range):(∃v,Lib.signed e = .ok v)∨Lib.signed e = .range:=by
 rcases h with⟨u,rfl⟩ | rfl
 ·unfold Lib.signed
  by_cases h:9223372036854775808<u
  ·exact .inr (by simp[h])
  ·exact .inl ⟨_,by simp[h];rfl⟩
 ·exact .inr rfl
theorem VA {p:List UInt8}(h:Pe p=true):(∃v,Lib.atoiAll p = .ok v∧-9223372036854775808≤v∧v≤9223372036854775807)∨Lib.atoiAll p = .range:=by
 have key:(∃v,Lib.atoiAll p = .ok v)∨Lib.atoiAll p = .range:=by
  simp only[Pe,Zu,ZL,Aab,Zq] at h;obtain⟨⟨hne,_⟩,hall⟩:=h
  cases p with
  | nil=>simp[Ng,Wd] at hne
  | cons c r=>
   by_cases hc:c=45
   ·subst hc;have hd:Ng (45::r)=r:=by simp[Ng,Wd,Bu]
    rw[hd] at hne hall;rw[Lib.atoiAll_minus];exact QM (RY hne hall)
   ·have hb : ¬ Bu (c::r) 0=45:=by
     simp only[Bu,Int.toNat_zero,List.getElem?_cons_zero,ZM];intro e;exact hc (UInt8.toNat_inj.1 (by simpa using(by omega:c.toNat=45)))
    have hd:Ng (c::r)=c::r:=by simp[Ng,Wd,hb]
    rw[hd] at hne hall;have ha:48≤c.toNat:=by
     simp only[Bm,Zu] at hall;have:=hall.1;simp[E0] at this;omega
    rw[Lib.atoiAll_plain c r (by omega) (by omega)];exact O4 (RY hne hall)
 rcases key with⟨v,hv⟩ | h
 ·exact .inl ⟨v,hv,Lib.atoiAll_bounds hv⟩
 ·exact .inr h
theorem Vb (m:Int)(h0 : -9223372036854775808≤m)(h1:m≤9223372036854775807):(Lib.itoa m).length≤21:=Lib.itoa_length_le m h0 h1
def GY (id:List UInt8)(m:Int):List UInt8:=id++[46]++Lib.itoa m
def Da (id:List UInt8)(m:Int):Int:=if LK id=true then(if 0≤m∧m≤1000000000000 then(if (GY id m).length≤64 then 0 else 3) else 2) else 4
def BZ (id:List UInt8)(m:Int):List UInt8:=if Da id m=0 then GY id m else[]
theorem Tv (p:List UInt8)(hp:p.length≤281474976710656)(w:World):Calls Tryz.prog 123 [.string (B (p))].toArray w (JV w (.bool (Pe p))):=by
 refine Gz (n:=43) Tryz.func123 rfl Tryz.ntmps123 rfl (Aq (At (AC (A7 rfl) rfl (Av (A5 (AY ?_))))));refine Aq (At (AC (Aw rfl) rfl (AC (A7 rfl) rfl (Av (A5 (AY ?_))))));refine AR [(0,.string (B (p))),(2,.bool (false)),(3,.string (B ((if ((decide ((0)<((p.length:Int))))&&(decide ((Bu p 0)=(45))))=true then List.drop (Int.toNat (1)) p else p))))] [] (φ:=True) ?_ (λh1=>?_)
 ·refine AR [(0,.string (B (p))),(2,.bool (false)),(3,.string (B (p))),(13,.bool (((decide ((0)<((p.length:Int))))&&(decide ((Bu p 0)=(45))))))] [] (φ:=True) ?_ (λh2=>?_)
  ·refine At (AC (Aw rfl) rfl (AC (BA C4 rfl) rfl (AC (D4 rfl rfl) rfl (AC (Aw rfl) rfl (AX (decide ((0)<((p.length:Int)))) (λhd=>?_) (λhd=>?_))))))
   ·have hk:=hd;try simp only[Zr,Zq] at hk
    have hl:=hd;try simp at hl
    refine AJ rfl rfl hd (AC (Aw rfl) rfl (AJ rfl rfl hd (AC (B1 C4 rfl rfl (by first | omega | exact GK (by assumption)) (by first | omega | exact GK (by assumption))) rfl (AJ rfl rfl hd (AC (BN rfl rfl) rfl (AC (AA rfl hd rfl) rfl (Av ?_)))))));exact A5 (BL trivial ⟨rfl,rfl,rfl,fb (by first | (simp only[hd,Z7,ZA,ZI,Z6,ZF,ZB,ZH,ZG,Z2,ZD,Z1,Zx,Aac,ZU,reduceIte,Z8];done) | simp[hd]),trivial⟩ .slnil)
   ·have hk:=hd;try simp only[Zr,Zq] at hk
    have hl:=hd;try simp at hl
    refine AN rfl rfl hd rfl (AN rfl rfl hd rfl (AN rfl rfl hd rfl (AC (AF rfl hd rfl) rfl (Av ?_))));exact A5 (BL trivial ⟨rfl,rfl,rfl,fb (by first | (simp only[hd,Z7,ZA,ZI,Z6,ZF,ZB,ZH,ZG,Z2,ZD,Z1,Zx,Aac,ZU,reduceIte,Z8];done) | simp[hd]),trivial⟩ .slnil)
  refine D5 (b:=((decide ((0)<((p.length:Int))))&&(decide ((Bu p 0)=(45))))) rfl (λhg=>?_) (λhg=>?_)
  ·have hm:=hg;try simp only[Zr,Zq] at hm
   have hn:=hg;try simp at hn
   refine At (AC (Aw rfl) rfl (AC (Dx C4 rfl rfl (by first | omega | (simp;omega)) (by first | omega | (simp;omega))) rfl (AC (A7 rfl) rfl (Av ?_))));exact A5 (BL trivial ⟨rfl,rfl,fs (by first | (simp only[hg,Z7,ZA,ZI,Z6,ZF,ZB,ZH,ZG,Z2,ZD,Z1,Zx,Aac,ZU,reduceIte,Z8];done) | simp[hg]),trivial⟩ .slnil)
  ·have hm:=hg;try simp only[Zr,Zq] at hm
   have hn:=hg;try simp at hn
   refine A3 ?_;exact A5 (BL trivial ⟨rfl,rfl,fs (by first | (simp only[hg,Z7,ZA,ZI,Z6,ZF,ZB,ZH,ZG,Z2,ZD,Z1,Zx,Aac,ZU,reduceIte,Z8];done) | simp[hg]),trivial⟩ .slnil)
 have hdg:Ng p=(if ((decide ((0)<((p.length:Int))))&&(decide ((Bu p 0)=(45))))=true then List.drop (Int.toNat (1)) p else p):=rfl;have hdl:=Vv p;rw[hdg] at hdl;generalize(if ((decide ((0)<((p.length:Int))))&&(decide ((Bu p 0)=(45))))=true then List.drop (Int.toNat (1)) p else p)=dg at hdg hdl ⊢;refine Aq (AR [(2,.bool (false)),(3,.string (B (dg))),(26,.bool (((decide ((dg)=(([]:List UInt8))))||((decide ((Bu dg 0)=(48)))&&(!(decide ((p)=(([48]:List UInt8)))))))))] [] (φ:=True) ?_ (λh3=>?_))
 ·refine At (AC (Aw rfl) rfl (AC (I8 rfl rfl) rfl (AC (Aw rfl) rfl (AX (decide ((dg)=(([]:List UInt8)))) (λha=>?_) (λha=>?_)))))
  ·have ho:=ha;try simp only[Zr,Zq] at ho
   have hq:=ha;try simp at hq
   refine AN rfl rfl ha rfl (AN rfl rfl ha rfl (AN rfl rfl ha rfl (AN rfl rfl ha rfl (Cg rfl rfl rfl (Cg rfl rfl rfl (AN rfl rfl ha rfl (AC (AA rfl ha rfl) rfl (Av ?_))))))));exact A5 (BL trivial ⟨rfl,rfl,fb (by first | (simp only[ha,Z7,ZA,ZI,Z6,ZF,ZB,ZH,ZG,Z2,ZD,Z1,Zx,Aac,ZU,reduceIte,Z8];done) | simp[ha]),trivial⟩ .slnil)
  ·have ho:=ha;try simp only[Zr,Zq] at ho
   have hq:=ha;try simp at hq
   refine AJ rfl rfl ha (AC (Aw rfl) rfl (AJ rfl rfl ha (AC (B1 C4 rfl rfl (by first | omega | exact GK (by assumption)) (by first | omega | exact GK (by assumption))) rfl (AJ rfl rfl ha (AC (BN rfl rfl) rfl (AJ rfl rfl ha (AC (Aw rfl) rfl (AX (decide ((Bu dg 0)=(48))) (λhe=>?_) (λhe=>?_)))))))))
   ·have hr:=he;try simp only[Zr,Zq] at hr
    have hs:=he;try simp at hs
    refine AJ rfl rfl he (AC (Aw rfl) rfl (AJ rfl rfl he (AC (I7 rfl rfl) rfl (AJ rfl rfl ha (AC (AA rfl he rfl) rfl (AC (AF rfl ha rfl) rfl (Av ?_)))))));exact A5 (BL trivial ⟨rfl,rfl,fb (by first | (simp only[ha,he,Z7,ZA,ZI,Z6,ZF,ZB,ZH,ZG,Z2,ZD,Z1,Zx,Aac,ZU,reduceIte,Z8];done) | simp[ha,he]),trivial⟩ .slnil)
   ·have hr:=he;try simp only[Zr,Zq] at hr
    have hs:=he;try simp at hs
    refine AN rfl rfl he rfl (AN rfl rfl he rfl (AJ rfl rfl ha (AC (AF rfl he rfl) rfl (AC (AF rfl ha rfl) rfl (Av ?_)))));exact A5 (BL trivial ⟨rfl,rfl,fb (by first | (simp only[ha,he,Z7,ZA,ZI,Z6,ZF,ZB,ZH,ZG,Z2,ZD,Z1,Zx,Aac,ZU,reduceIte,Z8];done) | simp[ha,he]),trivial⟩ .slnil)
 refine D5 (b:=((decide ((dg)=(([]:List UInt8))))||((decide ((Bu dg 0)=(48)))&&(!(decide ((p)=(([48]:List UInt8)))))))) rfl (λhf=>?_) (λhf=>?_)
 ·have ht:=hf;try simp only[Zr,Zq] at ht
  have hu:=hf;try simp at hu
  refine Aq (At (AC (A7 rfl) rfl (Av (A5 (AY ?_)))));refine A0 (Af (Az (BW rfl rfl) ?_));exact Hn (by simp only[Pe,hdg,hf];rfl)
 ·have ht:=hf;try simp only[Zr,Zq] at ht
  have hu:=hf;try simp at hu
  refine A3 (A5 (AY ?_));refine Aq (Aq (At (AC (Aw rfl) rfl (AC (BA C4 rfl) rfl (AC (Aw rfl) rfl (Av (A5 (AY ?_))))))));refine AO (Ka (S:=Nat) (λ(k:Nat)=>k≤dg.length∧Bm E0 0 dg=Bm E0 k (dg.drop k)) (λ(k:Nat)=>[(29,.int .i64 ((k:Int))),(3,.string (B (dg))),(28,.int .i64 ((dg.length:Int)))]) (λ(k:Nat)=>[]) (λ(k:Nat)=>dg.length-k) (0) ?_ ⟨fi (by first | rfl | (simp;done) | omega | (simp;omega)),rfl,rfl,trivial⟩ .slnil ?_)
  ·exact⟨ZV _,by simp⟩
  rintro k hi0;refine Aq (At (AC (CZ rfl rfl) rfl (Av (A5 (AY ?_)))));refine Aq (D5 (b:=decide (((k:Int))<((dg.length:Int)))) rfl (λhh=>?_) (λhh=>?_))
  ·have hj:=hh;try simp only[Zr,Zq] at hj
   have hw:=hh;try simp at hw
   refine A3 (A5 (AY ?_));refine Aq (AO (Aq (At (AC (Aw rfl) rfl (AC (A7 rfl) rfl (Av (A5 (AY ?_))))))));refine AR [(3,.string (B (dg))),(4,.int .i64 ((k:Int))),(28,.int .i64 ((dg.length:Int))),(29,.int .i64 ((k:Int))),(30,.bool (decide (((k:Int))<((dg.length:Int))))),(31,.int .i64 ((k:Int))),(32,.string (B (dg))),(33,.int .i64 ((k:Int))),(34,.int .u8 (Bu dg (k:Int))),(35,.bool (decide ((Bu dg (k:Int))<(48)))),(36,.bool (decide ((Bu dg (k:Int))<(48)))),(41,.bool (((decide ((Bu dg (k:Int))<(48)))||(decide ((57)<(Bu dg (k:Int)))))))] [] (φ:=True) ?_ (λh4=>?_)
   ·refine At (AC (Aw rfl) rfl (AC (Aw rfl) rfl (AC (B1 C4 rfl rfl (by first | omega | exact GK (by assumption)) (by first | omega | exact GK (by assumption))) rfl (AC (CZ rfl rfl) rfl (AC (Aw rfl) rfl (AX (decide ((Bu dg (k:Int))<(48))) (λhb=>?_) (λhb=>?_)))))))
    ·have hx:=hb;try simp only[Zr,Zq] at hx
     have hy:=hb;try simp at hy
     refine AN rfl rfl hb rfl (AN rfl rfl hb rfl (AN rfl rfl hb rfl (AN rfl rfl hb rfl (AC (AA rfl hb rfl) rfl (Av ?_)))));exact A5 (BL trivial ⟨rfl,rfl,rfl,rfl,rfl,rfl,rfl,rfl,rfl,rfl,rfl,fb (by first | (simp only[hf,hh,hb,Z7,ZA,ZI,Z6,ZF,ZB,ZH,ZG,Z2,ZD,Z1,Zx,Aac,ZU,reduceIte,Z8];done) | simp[hf,hh,hb]),trivial⟩ .slnil)
    ·have hx:=hb;try simp only[Zr,Zq] at hx
     have hy:=hb;try simp at hy
     refine AJ rfl rfl hb (AC (Aw rfl) rfl (AJ rfl rfl hb (AC (Aw rfl) rfl (AJ rfl rfl hb (AC (B1 C4 rfl rfl (by first | omega | exact GK (by assumption)) (by first | omega | exact GK (by assumption))) rfl (AJ rfl rfl hb (AC (D4 rfl rfl) rfl (AC (AF rfl hb rfl) rfl (Av ?_)))))))));exact A5 (BL trivial ⟨rfl,rfl,rfl,rfl,rfl,rfl,rfl,rfl,rfl,rfl,rfl,fb (by first | (simp only[hf,hh,hb,Z7,ZA,ZI,Z6,ZF,ZB,ZH,ZG,Z2,ZD,Z1,Zx,Aac,ZU,reduceIte,Z8];done) | simp[hf,hh,hb]),trivial⟩ .slnil)
   refine D5 (b:=((decide ((Bu dg (k:Int))<(48)))||(decide ((57)<(Bu dg (k:Int)))))) rfl (λhi=>?_) (λhi=>?_)
   ·have hz:=hi;try simp only[Zr,Zq] at hz
    have h0:=hi;try simp at h0
    refine Aq (At (AC (A7 rfl) rfl (Av (A5 (AY ?_)))));refine A0 (AD (Af (Af (AD (Af (Az (BW rfl rfl) ?_))))));exact Hn (by simp[Pe,hdg,XK hi0 hj hi])
   ·have hz:=hi;try simp only[Zr,Zq] at hz
    have h0:=hi;try simp at h0
    refine A3 (AH (A5 (AY ?_)));refine At (AC (BJ rfl rfl (IntWalk.i64_in _ (by omega))) rfl (AC (Aw rfl) rfl (Av (A5 (AK (k+1) ?_ ⟨fi (by first | rfl | (simp;done) | omega | (simp;omega)),rfl,rfl,trivial⟩ .slnil)))));exact Vw hi0 hj hi
  ·have hj:=hh;try simp only[Zr,Zq] at hj
   have hw:=hh;try simp at hw
   refine BB (A9 (A9 (Bf (A5 (AY ?_)))));refine Aq (At (AC (A7 rfl) rfl (Av (A5 (AY ?_)))));refine A0 (Az (BW rfl rfl) ?_);exact Hn (by simp only[Pe,hdg,hf,WM hi0 hj];rfl)
theorem Qj (m:Int)(h0 : -9223372036854775808≤m)(h1:m≤9223372036854775807)(w:World)(hE:Rz w):Calls Tryz.prog 46 [.int .i64 (m)].toArray w (JV w (.string (B (Lib.itoa m)))):=by
 refine Gz (n:=5) Tryz.func46 rfl Tryz.ntmps46 rfl (Aq (At (AC (A7 rfl) rfl (Av (A5 (AY ?_))))));refine Aq (At (AC (Aw rfl) rfl (Cu Tryz.call79 rfl (λw hw=>XA m (by omega) (by omega) w (hE.st0 hw)) rfl (AC (A7 rfl) rfl (Av (A5 (AY ?_)))))));refine A0 (Az (BW rfl rfl) ?_);exact Hn (by first | rfl | simp[])
theorem Wm (p:List UInt8)(hp:p.length≤281474976710656)(w:World)(hE:Rz w):Calls Tryz.prog 99 [.string (B (p))].toArray w (JV w (.tuple #[.int .i64 (AS p),.int .i64 (Ce p)])):=by
 refine Gz (n:=22) Tryz.func99 rfl Tryz.ntmps99 rfl (Aq (At (AC (A7 rfl) rfl (AC (A7 rfl) rfl (Av (A5 (AY ?_)))))));refine Aq (Aq (At (AC (Aw rfl) rfl (Cu Tryz.call123 rfl (λw hw=>Tv p (by first | omega | (simp;done) | (simp;omega) | (simp at *;omega)) w) rfl (AC (B7 rfl) rfl (Av (A5 (AY ?_))))))));refine D5 (b:=!(Pe p)) rfl (λhb=>?_) (λhb=>?_)
 ·have hf:=hb;try simp only[Zr,Zq] at hf
  have ha:=hb;try simp only[Zr,Zq,Zu,ZX,ZL,Bool.not_eq_false',Bool.and_eq_false_iff,Aab,not_or,Int.not_lt,Int.not_le] at ha
  refine Aq (At (AC (A7 rfl) rfl (AC (A7 rfl) rfl (Av (A5 (AY ?_))))));refine A0 (Af (Az (Dq rfl rfl rfl) ?_));exact Hn (by simp[AS,Ce,ha])
 ·have hf:=hb;try simp only[Zr,Zq] at hf
  have ha:=hb;try simp only[Zr,Zq,Zu,ZX,ZL,Bool.not_eq_false',Bool.and_eq_false_iff,Aab,not_or,Int.not_lt,Int.not_le] at ha
  refine A3 (A5 (AY ?_));refine Aq (At (AC (Aw rfl) rfl ?_));rcases VA (p:=p) (by assumption) with⟨av,hav,hal,hah⟩ | hav
  ·refine Cu Tryz.call124 rfl (λw _=>WV p (by first | omega | (simp;done) | (simp;omega) | (simp at *;omega)) av hav w) rfl (AC (Aw rfl) rfl (AC (A4 rfl rfl) rfl (AC (A4 rfl rfl) rfl (AC (A7 rfl) rfl (AC (A7 rfl) rfl (Av (A5 (AY ?_))))))));refine Aq (AR [(2,.int .i64 (0)),(3,.int .i64 (0)),(4,.int .i64 (av)),(20,.bool (!(Mv av)))] [] (φ:=True) ?_ (λhh=>?_))
   ·exact At (AC (Aw rfl) rfl (AC (PP Tryz.underlying161 rfl) rfl (AC (Aw rfl) rfl (AJ rfl rfl rfl (AC (Aw rfl) rfl (AJ rfl rfl rfl (Cu Tryz.call117 rfl (λw hw=>VW av w) rfl (AJ rfl rfl rfl (AC (B7 rfl) rfl (AC (AF rfl rfl rfl) rfl (Av (A5 (BL trivial ⟨rfl,rfl,rfl,rfl,trivial⟩ .slnil)))))))))))))
   refine D5 (b:=!(Mv av)) rfl (λhd=>?_) (λhd=>?_)
   ·have hg:=hd;try simp only[Zr,Zq] at hg
    have he:=hd;try simp only[Zr,Zq,Zu,ZX,ZL,Bool.not_eq_false',Bool.and_eq_false_iff,Aab,not_or,Int.not_lt,Int.not_le] at he
    refine Aq (At (AC (A7 rfl) rfl (AC (A7 rfl) rfl (Av (A5 (AY ?_))))));refine A0 (Af (Az (Dq rfl rfl rfl) ?_));exact Hn (by simp[AS,Ce,hav,ha,he])
   ·have hg:=hd;try simp only[Zr,Zq] at hg
    have he:=hd;try simp only[Zr,Zq,Zu,ZX,ZL,Bool.not_eq_false',Bool.and_eq_false_iff,Aab,not_or,Int.not_lt,Int.not_le] at he
    refine A3 (A5 (AY ?_));refine Aq (At (AC (Aw rfl) rfl (AC (A7 rfl) rfl (AC (A7 rfl) rfl (Av (A5 (AY ?_)))))));refine A0 (Az (Dq rfl rfl rfl) ?_);exact Hn (by simp[AS,Ce,hav,ha,he])
  ·refine R8 Tryz.call124 rfl (λw hw=>Ry p (by first | omega | (simp;done) | (simp;omega) | (simp at *;omega)) hav w (hE.st0 hw)) rfl ?_;rintro _ _ ⟨am,at_,ab,rfl,rfl⟩;refine AC (Aw rfl) rfl (AC (A4 rfl rfl) rfl (AC (A4 rfl rfl) rfl (AC (A7 rfl) rfl (AC (A7 rfl) rfl (Av (A5 (AY ?_)))))));refine Aq (AR [(2,.int .i64 (0)),(3,.int .i64 (0)),(4,.int .i64 (am)),(20,.bool (true))] [] (φ:=True) ?_ (λhi=>?_))
   ·exact At (AC (Aw rfl) rfl (AC (Ww Tryz.underlying161 rfl) rfl (AC (Aw rfl) rfl (AN rfl rfl rfl rfl (AN rfl rfl rfl rfl (AN rfl rfl rfl rfl (AC (AA rfl rfl rfl) rfl (Av (A5 (BL trivial ⟨rfl,rfl,rfl,rfl,trivial⟩ .slnil))))))))))
   refine BK rfl rfl (Aq (At (AC (A7 rfl) rfl (AC (A7 rfl) rfl (Av (A5 (AY ?_)))))));refine A0 (Af (Az (Dq rfl rfl rfl) ?_));exact Hn (by simp[AS,Ce,hav,ha])
theorem WP (p:List UInt8)(m:Int)(hp:p.length≤281474976710656)(w:World)(hE:Rz w):Calls Tryz.prog 67 [.string (B (p)),.int .i64 (m)].toArray w (JV w (.tuple #[.string (B (BZ p m)),.int .i64 (Da p m)])):=by
 refine Gz (n:=25) Tryz.func67 rfl Tryz.ntmps67 rfl (Aq (At (AC (A7 rfl) rfl (AC (A7 rfl) rfl (Av (A5 (AY ?_)))))));refine Aq (Aq (At (AC (Aw rfl) rfl (Cu TO rfl (λw hw=>Yz p w) rfl (AC (B7 rfl) rfl (Av (A5 (AY ?_))))))));refine D5 (b:=!(LK p)) rfl (λhb=>?_) (λhb=>?_)
 ·have hf:=hb;try simp only[Zr,Zq] at hf
  have hg:=hb;try simp at hg
  refine Aq (At (AC (A7 rfl) rfl (AC (A7 rfl) rfl (Av (A5 (AY ?_))))));refine A0 (Af (Az (Dq rfl rfl rfl) ?_));have e:Da p m=4:=by simp only[Da,GY];grind
  exact Hn (by simp[BZ,e,GY,B])
 ·have hf:=hb;try simp only[Zr,Zq] at hf
  have hg:=hb;try simp at hg
  refine A3 (A5 (AY ?_));refine Aq (AR [(0,.string (B (p))),(1,.int .i64 (m)),(4,.string (B ([]))),(5,.int .i64 (0)),(15,.bool (((decide ((m)<(0)))||(decide ((1000000000000)<(m))))))] [] (φ:=True) ?_ (λhn=>?_))
  ·refine At (AC (Aw rfl) rfl (AC (CZ rfl rfl) rfl (AC (Aw rfl) rfl (AX (decide ((m)<(0))) (λha=>?_) (λha=>?_)))))
   ·have hh:=ha;try simp only[Zr,Zq] at hh
    have hi:=ha;try simp at hi
    refine AN rfl rfl ha rfl (AN rfl rfl ha rfl (AC (AA rfl ha rfl) rfl (Av ?_)));exact A5 (BL trivial ⟨rfl,rfl,rfl,rfl,fb (by first | (simp only[hb,ha,Z7,ZA,ZI,Z6,ZF,ZB,ZH,ZG,Z2,ZD,Z1,Zx,Aac,ZU,reduceIte,Z8];done) | simp[hb,ha]),trivial⟩ .slnil)
   ·have hh:=ha;try simp only[Zr,Zq] at hh
    have hi:=ha;try simp at hi
    refine AJ rfl rfl ha (AC (Aw rfl) rfl (AJ rfl rfl ha (AC (D4 rfl rfl) rfl (AC (AF rfl ha rfl) rfl (Av ?_)))));exact A5 (BL trivial ⟨rfl,rfl,rfl,rfl,fb (by first | (simp only[hb,ha,Z7,ZA,ZI,Z6,ZF,ZB,ZH,ZG,Z2,ZD,Z1,Zx,Aac,ZU,reduceIte,Z8];done) | simp[hb,ha]),trivial⟩ .slnil)
  refine D5 (b:=((decide ((m)<(0)))||(decide ((1000000000000)<(m))))) rfl (λhd=>?_) (λhd=>?_)
  ·have hj:=hd;try simp only[Zr,Zq] at hj
   have hk:=hd;try simp at hk
   refine Aq (At (AC (A7 rfl) rfl (AC (A7 rfl) rfl (Av (A5 (AY ?_))))));refine A0 (Af (Az (Dq rfl rfl rfl) ?_));have e:Da p m=2:=by simp only[Da,GY];grind
   exact Hn (by simp[BZ,e,GY,B])
  ·have hj:=hd;try simp only[Zr,Zq] at hj
   have hk:=hd;try simp at hk
   refine A3 (A5 (AY ?_));refine Aq (At (AC (Aw rfl) rfl (AC (MJ rfl rfl (by simp;omega)) rfl (AC (Aw rfl) rfl (Cu Mn rfl (λw hw=>Qj m (by omega) (by omega) w (hE.st0 hw)) rfl ?_)))));have ho:=Vb m (by omega) (by omega);refine AC (MJ rfl rfl (by simp;omega)) rfl (AC (A7 rfl) rfl (Av (A5 (AY ?_))));refine Aq (Aq (At (AC (Aw rfl) rfl (AC (BA C4 rfl) rfl (AC (D4 rfl rfl) rfl (Av (A5 (AY ?_))))))));refine D5 (b:=decide ((64)<((((p++[46])++(Lib.itoa m)).length:Int)))) rfl (λhe=>?_) (λhe=>?_)
   ·have hl:=he;try simp only[Zr,Zq] at hl
    have hm:=he;try simp at hm
    refine Aq (At (AC (A7 rfl) rfl (AC (A7 rfl) rfl (Av (A5 (AY ?_))))));refine A0 (Af (Az (Dq rfl rfl rfl) ?_));have e:Da p m=3:=by simp only[Da,GY];grind
    exact Hn (by simp[BZ,e,GY,B])
   ·have hl:=he;try simp only[Zr,Zq] at hl
    have hm:=he;try simp at hm
    refine A3 (A5 (AY ?_));refine Aq (At (AC (Aw rfl) rfl (AC (A7 rfl) rfl (AC (A7 rfl) rfl (Av (A5 (AY ?_)))))));refine A0 (Az (Dq rfl rfl rfl) ?_);have e:Da p m=0:=by simp only[Da,GY];grind
    exact Hn (by simp[BZ,e,GY,B])
end Go.Proofs.YtfobhhegpkinaaaGreatDoor
namespace Go.Proofs
open Go.Shelf
def Tryz.lays169_ren:Go.Shelf.Ren:=⟨fun | 169=>111 | n=>n,fun | 70=>143 | 9=>9 | 0=>0 | 72=>146 | 37=>144 | 127=>185 | 3=>3 | 5=>5 | n=>n,fun | n=>n⟩
theorem Tryz.lays169:Go.Proofs.Lays.n169 Tryz.prog Tryz.lays169_ren:={
 mixed:=by kernel_rfl
 f169:=Tryz.func111.trans (congrArg some (by kernel_rfl))
 t0:=Tryz.underlying0
 a0:=Tryz.isAgg0
 z0:=Tryz.sizeOf0
 v0:=Tryz.zeroValue0
 t3:=Tryz.underlying3
 a3:=Tryz.isAgg3
 z3:=Tryz.sizeOf3
 v3:=Tryz.zeroValue3
 t9:=Tryz.underlying9
 a9:=Tryz.isAgg9
 z9:=Tryz.sizeOf9
 v9:=Tryz.zeroValue9
 t37:=Tryz.underlying144
 a37:=Tryz.isAgg144
 z37:=Tryz.sizeOf144
 v37:=Tryz.zeroValue144
 t70:=Tryz.underlying143
 a70:=Tryz.isAgg143
 z70:=Tryz.sizeOf143
 v70:=Tryz.zeroValue143
 t72:=Tryz.underlying146
 a72:=Tryz.isAgg146
 z72:=Tryz.sizeOf146
 v72:=Tryz.zeroValue146
 t127:=Tryz.underlying185
 a127:=Tryz.isAgg185
 z127:=Tryz.sizeOf185
 v127:=Tryz.zeroValue185 }
theorem Tryz.Builder_Extra_169:Builder.Extra Tryz.prog Tryz.lays169_ren:={
 sizeBuilder:=by kernel_rfl
 liesBuilder:=by kernel_rfl
 t5:=Tryz.underlying5
 a5:=Tryz.isAgg5
 z5:=Tryz.sizeOf5
 v5:=Tryz.zeroValue5
 infoByte:=by kernel_rfl
 cellsByte:=by kernel_rfl
 sizeByte:=by kernel_rfl
 neB5:=by decide }
open Go.RowKit in
theorem Tryz.Builder_String_any (B b:Nat)(l:List UInt8)(w:World)(h:Lib.IsBuilder 146 5 B b (Lib.byteCells l) w)(hBw:B≤w.heap.size) :
  Calls Tryz.prog 111 #[.pointer (some ⟨b,0,none⟩)] w λe w'=>e = .returned (.string ⟨l.toArray⟩)∧Below B w w':=Any.Builder_String_any Tryz.lays169 Tryz.Builder_Extra_169 B b l w h hBw
def Tryz.lays138_ren:Go.Shelf.Ren:=⟨fun | 138=>151 | 195=>175 | 218=>176 | 143=>177 | 219=>198 | 217=>205 | 225=>206 | 224=>207 | 267=>208 | 266=>211 | 314=>212 | n=>n,fun | 9=>9 | 3=>3 | 4=>4 | 5=>5 | 0=>0 | 46=>134 | 146=>240 | 51=>158 | n=>n,fun | 1=>1 | n=>n⟩
theorem Tryz.lays138:Go.Proofs.Lays.n138 Tryz.prog Tryz.lays138_ren:={
 mixed:=by kernel_rfl
 f138:=Tryz.func151.trans (congrArg some (by kernel_rfl))
 f143:=Tryz.func177.trans (congrArg some (by kernel_rfl))
 f195:=Tryz.func175.trans (congrArg some (by kernel_rfl))
 f217:=Tryz.func205.trans (congrArg some (by kernel_rfl))
 f218:=Tryz.func176.trans (congrArg some (by kernel_rfl))
 f219:=Tryz.func198.trans (congrArg some (by kernel_rfl))
 f224:=Tryz.func207.trans (congrArg some (by kernel_rfl))
 f225:=Tryz.func206.trans (congrArg some (by kernel_rfl))
 f266:=Tryz.func211.trans (congrArg some (by kernel_rfl))
 f267:=Tryz.func208.trans (congrArg some (by kernel_rfl))
 f314:=Tryz.func212.trans (congrArg some (by kernel_rfl))
 t0:=Tryz.underlying0
 a0:=Tryz.isAgg0
 z0:=Tryz.sizeOf0
 v0:=Tryz.zeroValue0
 t3:=Tryz.underlying3
 a3:=Tryz.isAgg3
 z3:=Tryz.sizeOf3
 v3:=Tryz.zeroValue3
 t4:=Tryz.underlying4
 a4:=Tryz.isAgg4
 z4:=Tryz.sizeOf4
 v4:=Tryz.zeroValue4
 t5:=Tryz.underlying5
 a5:=Tryz.isAgg5
 z5:=Tryz.sizeOf5
 v5:=Tryz.zeroValue5
 t9:=Tryz.underlying9
 a9:=Tryz.isAgg9
 z9:=Tryz.sizeOf9
 v9:=Tryz.zeroValue9
 t46:=Tryz.underlying134
 a46:=Tryz.isAgg134
 z46:=Tryz.sizeOf134
 v46:=Tryz.zeroValue134
 t51:=Tryz.underlying158
 a51:=Tryz.isAgg158
 z51:=Tryz.sizeOf158
 v51:=Tryz.zeroValue158
 t146:=Tryz.underlying240
 a146:=Tryz.isAgg240
 z146:=Tryz.sizeOf240
 v146:=Tryz.zeroValue240
 g1:=by kernel_rfl }
open Go.RowKit Go.Lib in
theorem Tryz.strings_Count_one (s:ByteArray)(c:UInt8)(w:World) :
  Calls Tryz.prog 151 #[.string s,.string ⟨#[c]⟩] w λe w'=>e = .returned (.int .i64 (Lib.countByte s.data.toList c))∧w'=w:=Any.strings_Count_one Tryz.lays138 s c w
end Go.Proofs
namespace Go.Proofs.YtfobhhegpkinaaaGreatDoor
open Go
set_option linter.unusedVariables false
set_option linter.unusedSimpArgs false
open Go Go.RowKit
section
variable {P : Program} {n : Nat} {w0 : World} {M : List Nat} {l : Fr} {H : List Ent} {d : Option Nat} {x y : Operand} {ty t t' : TypeId} {pos : String} {af : Array Edge} {g : Option (Nat × Bool)} {k : IntKind} {p q z : Int}
end
set_option maxRecDepth 100000
end Go.Proofs.YtfobhhegpkinaaaGreatDoor
namespace Go.Proofs.YtfobhhegpkinaaaGreatDoor.Q
open Go Go.RowKit
set_option linter.unusedVariables false
def GE (Z:Fz):Prop:=∀w,Sw Z w→Rz w
theorem GE.mono {Z Z':Fz}(h:Fz.le Z Z')(hg:GE Z):GE Z':=λw hw=>hg w ⟨λb o e=>hw b o (h b o e),λk i b e=>hw.nm k i b (h.nm k i b e)⟩
theorem Mj.rle {P:Program}{E:Fz→Prop}{f:FuncId}{args:List Rp}{r r':Rp}(h:Mj P E f args r)(hr:HZ r r'):Mj P E f args r':=λw Z vs hv hs=>
 (h w Z vs hv hs).mono λe w' ⟨q,v,H,Z',he,⟨hq,hH⟩,hp,ht⟩=>⟨r',v,H,Z',he,⟨rfl,hH⟩,hr Z' v (hq▸hp),ht⟩
theorem HZ.tup2 {a b:Value}:HZ (rv (.tuple #[a,b])) (Cn [rv a,rv b]):=λZ v h=>⟨[a,b],h,rfl,rfl,trivial⟩
theorem Mj.of_id {P:Program}{E:Fz→Prop}{f:FuncId}{vs:List Value}{v:Value}(h:∀w,Calls P f vs.toArray w (λe w'=>e = .returned v∧w'=w)):Mj P E f (vs.map rv) (rv v):=
 Mj.of_old λw Z _ _=>(h w).mono λe w' ⟨he,hw⟩=>⟨he,by rw[hw];exact Proofs.YtfobhhegpkinaaaGreatDoor.St.refl w []⟩
theorem DQ (m:Int)(g:BS .i64 m=true):Mj Tryz.prog GE 46 [rI .i64 m] (rS (Lib.itoa m)):=Mj.of_old (vs:=[.int .i64 m]) λw Z hf he=>Qj m (Jn g).1 (Jn g).2 w (he w hf)
theorem Kt (s:An)(g:Dp 1 s.length=true):Mj Tryz.prog GE 99 [rS s] (Cn [rI .i64 (AS s),rI .i64 (Ce s)]):=(Mj.of_old (vs:=[.string (B s)]) λw Z hf he=>Wm s (by simp[Dp] at g;omega) w (he w hf)).rle HZ.tup2
theorem Sn (s:An)(c:UInt8):Mj Tryz.prog GE 151 [rS s,rS [c]] (rI .i64 (Lib.countByte s c)):=Mj.of_id (vs:=[.string (B s),.string (B [c])]) λw=>by have:=Tryz.strings_Count_one (B s) c w;rwa [R1] at this
theorem WA (s:An):Mj Tryz.prog GE 52 [rS s] (rB (LK s)):=Mj.of_old (vs:=[.string (B s)]) λw Z hf he=>Yz s w
theorem QZ (s:An):Mj Tryz.prog GE 53 [rS s] (rB (EM s)):=Mj.of_old (vs:=[.string (B s)]) λw Z hf he=>X2 s w
theorem Mf (s:An)(m:Int)(g:Dp 1 s.length=true)(gm:BS .i64 m=true):Mj Tryz.prog GE 67 [rS s,rI .i64 m] (Cn [rS (BZ s m),rI .i64 (Da s m)]):=(Mj.of_old (vs:=[.string (B s),.int .i64 m]) λw Z hf he=>WP s m (by simp[Dp] at g;omega) w (he w hf)).rle HZ.tup2
open Go Go.RowKit Go.ChangeShapes Go.Deep
set_option linter.unusedSimpArgs false
def ZW (W:World):Fz:=⟨λb=>W.heap[b]?,λ_ _=>none⟩
theorem ZW.frz (W:World):Sw (ZW W) W:=⟨λ_ _ h=>h,λ_ _ _ h=>by cases h⟩
def Pp (P:Program)(e:TypeId){α:Type}(enc:α→List Rp)(ok:α→Bool):Prop:=
 ∀{H:Type} {encH:TypeId×Value→H} {W:World} {sp:Nat→Bool} {held:Bool} {n:Nat} {cs:List Value} {x:DataW H×List MemPlace},DataW.trod encH P W 0 sp held n e cs=some x→∃y:α,ok y=true∧Bd (ZW W) (enc y) cs
section
variable {P : Program} {e t : TypeId}
theorem Pp.int {k:IntKind}{enc:Int→List Rp}(ht:P.underlying e=some (.int k))(he:∀n,enc n=[rI k n]):Pp P e enc (BS k):=λh=>by
 obtain⟨n,rfl,_,hwf⟩:=DataW.trod_int ht h;exact⟨n,hwf,by rw[he];exact⟨rfl,trivial⟩⟩
theorem Pp.str {enc:An→List Rp}(ht:P.underlying e=some .string)(he:∀n,enc n=[rS n]):Pp P e enc Ze:=λh=>by
 obtain⟨s,rfl,_,hl⟩:=DataW.trod_string ht h;exact⟨s.data.toList,Zz (by rw[Array.length_toList];exact hl),by rw[he];exact⟨congrArg Value.string (YD s),trivial⟩⟩
theorem Pp.bool {enc:Bool→List Rp}(ht:P.underlying e=some .bool)(he:∀n,enc n=[rB n]):Pp P e enc (λ_=>true):=λh=>by
 obtain⟨b,rfl,_⟩:=DataW.trod_bool ht h;exact⟨b,rfl,by rw[he];exact⟨rfl,trivial⟩⟩
theorem Jv {W:World}{a:Addr}{v:Value}(h:W.cell? a=some v):a.spot=none∧Ia (ZW W) a.block a.off=some v:=by
 unfold World.cell? at h;unfold Ia ZW;dsimp only
 cases hh:W.heap[a.block]? with
 | none=>rw[hh] at h;cases h
 | some o=>
  rw[hh] at h
  cases o with
  | cells cs t fz=>
   cases hs:a.spot with
   | none=>simp[hs] at h;exact⟨rfl,h⟩
   | some _=>simp[hs] at h
  | _=>simp at h
theorem Pp.slice {α:Type}[Inhabited α]{enc:α→List Rp}{ok:α→Bool}{sz:Nat}(ht:P.underlying t=some (.slice e))(hc:P.cellsOf e=sz)(hsz:0<sz)(h:Pp P e enc ok)(hlen:∀y,(enc y).length=sz){enc':List α→List Rp}(he:∀ys,enc' ys=[AU sz (ys.map enc)]) :
  Pp P t enc' (λys=>ys.all ok&&decide (ys.length≤9223372036854775807)):=fun {H encH W sp held n cs x} hx=>by
 rcases open_slice ht hx with⟨rfl,_⟩ | ⟨a,len,cap,m,n',D,Pl,rfl,hb,hl,hm,hmm,_,hel⟩
 ·exact⟨[],by simp,by rw[he];exact⟨Pr.nil sz _,trivial⟩⟩
 ·have hlm:len≤m:=by rw[hmm];split<;>omega
  have each:∀i,i<len→∃y:α,ok y=true∧∃cs',W.cells? 0 (a.add (i*sz)) sz=some cs'∧Bd (ZW W) (enc y) cs':=λi hi=>by
   obtain⟨cs',h1,h2⟩:=hel i (by omega);obtain⟨y,hy,hr⟩:=h h2;rw[hc] at h1;exact⟨y,hy,cs',h1,hr⟩
  obtain⟨f,hf⟩:=choose_lt each;refine⟨(List.range len).map f,?_,?_⟩
  ·simp only[Zu,ZQ,List.mem_map,List.mem_range,Zr];refine⟨?_,by simp;simp only[maxLen] at hm;omega⟩;rintro _ ⟨i,hi,rfl⟩;exact(hf i hi).1
  ·rw[he];refine⟨⟨some a,cap,by simp,by simpa using hl,hm,(λh=>by cases h),λi c hi=>?_⟩,trivial⟩;rw[Aak,ZK] at hi;have hil:i<len:=by
    cases hq:(List.range len)[i]? with
    | none=>rw[hq] at hi;cases hi
    | some _=>have:=(List.getElem?_eq_some_iff.1 hq).1;simpa using this
   rw[List.getElem?_range hil] at hi;simp only[Option.map_some,Option.some.injEq,Function.comp] at hi;subst hi;obtain⟨_,cs',h1,hr⟩:=hf i hil;obtain⟨_,hcl,hcell⟩:=World.cells?_some h1;have hsp:a.spot=none:=by
    obtain⟨_,cs0,g1,_⟩:=hf 0 (by omega);obtain⟨_,gcl,gcell⟩:=World.cells?_some g1;have h0:=gcell 0 hsz;rw[Zt (by omega)] at h0;have:=(Jv h0).1;simpa[Addr.add] using this
   refine⟨hlen _,a,rfl,hsp,λj r hj=>?_⟩;obtain⟨u,hu,hp⟩:=hr.at hj;have hjs:j<sz:=by have:=(List.getElem?_eq_some_iff.1 hj).1;rw[hlen] at this;exact this
   have h3:=hcell j hjs;rw[hu] at h3;have h4:=(Jv h3).2;refine⟨u,?_,hp⟩;have e1:((a.add (i*sz)).add j).block=a.block:=by simp only[Addr.add];split<;>split<;>rfl
   have e2:((a.add (i*sz)).add j).off=a.off+(i*sz+j):=by simp only[Addr.add];split<;>split<;>simp_all<;>omega
   rw[e1,e2] at h4;exact h4
theorem LV {Z:Fz}{cs:List Value}{o:Nat}(h:cs.length=o):Bd Z [] (cs.drop o):=by rw[List.drop_of_length_le (by omega)];trivial
theorem C6 {Z:Fz}{cs:List Value}{o s o':Nat}{rs rs':List Rp}(h:Bd Z rs ((cs.drop o).take s))(ho:o+s=o')(h2:Bd Z rs' (cs.drop o')):Bd Z (rs++rs') (cs.drop o):=by
 rw[← Aah s (cs.drop o),List.drop_drop];subst ho;exact h.append h2
theorem Pp.val {α:Type}{enc:α→List Rp}{ok:α→Bool}(h:Pp P e enc ok){r:α→Rp}(he:∀y,enc y=[r y]){H:Type}{encH:TypeId×Value→H}{W:World}{sp:Nat→Bool}{held:Bool}{v:Value}{d:DataW H}{ps:List MemPlace}
  (hone:v.cells = #[v]) (ht:DataW.Trod encH P W 0 sp held e v d ps):∃y:α,ok y=true∧(r y).p (ZW W) v:=by
 obtain⟨fuel,hf⟩:=ht;rw[hone] at hf;obtain⟨y,hy,hr⟩:=h hf;rw[he] at hr;exact⟨y,hy,hr.1⟩
theorem Pp.valAgg {α:Type}{enc:α→List Rp}{ok:α→Bool}(h:Pp P e enc ok){H:Type}{encH:TypeId×Value→H}{W:World}{sp:Nat→Bool}{held:Bool}{cs:Array Value}{d:DataW H}{ps:List MemPlace}
  (ht:DataW.Trod encH P W 0 sp held e (.agg cs) d ps):∃y:α,ok y=true∧(B9 (enc y)).p (ZW W) (.agg cs):=by
 obtain⟨fuel,hf⟩:=ht;obtain⟨y,hy,hr⟩:=h hf;exact⟨y,hy,cs.toList,by simp,hr⟩
end
theorem Vl {W w:World}(hw:Sw (ZW W) w):W.heap.size≤w.heap.size:=by
 rcases Nat.eq_zero_or_pos W.heap.size with h | h
 ·omega
 ·have h1:W.heap[W.heap.size-1]? =some (W.heap[W.heap.size-1]'(by omega)):=Array.getElem?_eq_getElem (by omega);have:=(Array.getElem?_eq_some_iff.1 (hw _ _ h1)).1;omega
theorem Tq {W:World}(hE:Rz W):GE (ZW W):=λw hw=>by
 have hb:Below W.heap.size W { w with os:=W.os,tape:=W.tape,output:=W.output }:=⟨rfl,rfl,rfl,(show W.heap.size≤w.heap.size from Vl hw),λk hk=>by
  have h1:W.heap[k]? =some (W.heap[k]'hk):=Array.getElem?_eq_getElem hk;rw[h1];exact hw k _ h1⟩
 have hE2:=hE.st0 (St.of_below hb);exact⟨Po.block { w with os:=W.os,tape:=W.tape,output:=W.output } w (λ_ _=>rfl) hE2.tabs,hE2.size⟩
theorem Uf {W:World}(hE:Rz W):St ⟨W,ZW W,[],GE,[]⟩ [] (ZW W) W where
 os:=rfl
 tape:=rfl
 output:=rfl
 size:=ZC _
 old:=λ_ _ _=>rfl
 has:=λ_ h=>by cases h
 own:=λ_ h=>by cases h
 dis:=.nil
 frz:=ZW.frz W
 le:=Fz.le.refl _
 new:=λ_ _ h=>.inl h
 zdis:=λ_ h=>by cases h
 env:=Tq hE
 emono:=λh hg=>GE.mono h hg
 gst:=KJ.none rfl
theorem Ug {W W':World}{Z Z':Fz}{E:Fz→Prop}{H:List Ent}(h:St ⟨W,Z,[],E,[]⟩ H Z' W'):Below W.heap.size W W':=⟨h.os,h.tape,h.output,h.size,λk hk=>h.old k hk (by simp)⟩
def DU (P:Program)(e:TypeId){α:Type}(enc:α→List Rp)(ok:α→Bool):Prop:=
 ∀{H:Type} {encH:TypeId×Value→H} {W:World} {sp:Nat→Bool} {held:Bool} {n:Nat} {cs:List Value} {x:DataW H×List MemPlace},DataW.trod encH P W 0 sp held n e cs=some x→Rows.uptoBulk x.1≤1048576→∃y:α,ok y=true∧Bd (ZW W) (enc y) cs
theorem V4 {H:Type}(d:DataW H):1≤Rows.uptoBulk d:=by
 cases d with
 | lit l=>cases l<;>simp[Rows.uptoBulk]
 | _=>simp[Rows.uptoBulk]
theorem IJ {H:Type}:∀{ds:List (DataW H)} {d:DataW H},d∈ds→Rows.uptoBulk d≤Rows.uptoBulkAll ds
 | [],_,h=>by cases h
 | x::r,d,h=>by
  rw[Rows.uptoBulkAll];rcases List.mem_cons.1 h with rfl | h
  ·omega
  ·have:=IJ h;omega
theorem Q1 {H:Type}:∀(ds:List (DataW H)),ds.length≤Rows.uptoBulkAll ds
 | []=>ZV _
 | x::r=>by
  rw[Rows.uptoBulkAll];have:=Q1 r;have:=V4 x;simp only[Z5];omega
section
variable {P : Program} {e t : TypeId}
theorem Pp.toB {α:Type}{enc:α→List Rp}{ok:α→Bool}(h:Pp P e enc ok):DU P e enc ok:=λhx _=>h hx
theorem DU.int {k:IntKind}{enc:Int→List Rp}(ht:P.underlying e=some (.int k))(he:∀n,enc n=[rI k n]):DU P e enc (BS k):=Pp.toB (Pp.int ht he)
theorem DU.bool {enc:Bool→List Rp}(ht:P.underlying e=some .bool)(he:∀n,enc n=[rB n]):DU P e enc (λ_=>true):=Pp.toB (Pp.bool ht he)
theorem DU.str {enc:An→List Rp}(ht:P.underlying e=some .string)(he:∀n,enc n=[rS n]):DU P e enc Kv:=λh hb=>by
 obtain⟨s,rfl,hx,hl⟩:=DataW.trod_string ht h;subst hx;simp only[Rows.uptoBulk] at hb;exact⟨s.data.toList,Zz (by omega),by rw[he];exact⟨congrArg Value.string (YD s),trivial⟩⟩
theorem DU.slice {α:Type}[Inhabited α]{enc:α→List Rp}{ok:α→Bool}{sz:Nat}(ht:P.underlying t=some (.slice e))(hc:P.cellsOf e=sz)(hsz:0<sz)(h:DU P e enc ok)(hlen:∀y,(enc y).length=sz){enc':List α→List Rp}(he:∀ys,enc' ys=[AU sz (ys.map enc)]) :
  DU P t enc' (λys=>ys.all ok&&decide (ys.length≤1048576)):=fun {H encH W sp held n cs x} hx hB=>by
 rcases open_slice ht hx with⟨rfl,_⟩ | ⟨a,len,cap,m,n',D,Pl,rfl,hb,hl,hm,hmm,hxe,hel⟩
 ·exact⟨[],by simp,by rw[he];exact⟨Pr.nil sz _,trivial⟩⟩
 ·have hlm:len≤m:=by rw[hmm];split<;>omega
  subst hxe;simp only[Rows.uptoBulk] at hB;have hlb:len≤1048576:=by
   have:=Q1 ((List.range len).map D);rw[Zw,List.length_range] at this;omega
  have each:∀i,i<len→∃y:α,ok y=true∧∃cs',W.cells? 0 (a.add (i*sz)) sz=some cs'∧Bd (ZW W) (enc y) cs':=λi hi=>by
   obtain⟨cs',h1,h2⟩:=hel i (by omega);obtain⟨y,hy,hr⟩:=h h2 (by
    have:=IJ (List.mem_map.2 ⟨i,List.mem_range.2 hi,rfl⟩:D i∈(List.range len).map D);show Rows.uptoBulk (D i)≤1048576;omega)
   rw[hc] at h1;exact⟨y,hy,cs',h1,hr⟩
  obtain⟨f,hf⟩:=choose_lt each;refine⟨(List.range len).map f,?_,?_⟩
  ·simp only[Zu,ZQ,List.mem_map,List.mem_range,Zr];refine⟨?_,by simpa using hlb⟩;rintro _ ⟨i,hi,rfl⟩;exact(hf i hi).1
  ·rw[he];refine⟨⟨some a,cap,by simp,by simpa using hl,hm,(λh=>by cases h),λi c hi=>?_⟩,trivial⟩;rw[Aak,ZK] at hi;have hil:i<len:=by
    cases hq:(List.range len)[i]? with
    | none=>rw[hq] at hi;cases hi
    | some _=>have:=(List.getElem?_eq_some_iff.1 hq).1;simpa using this
   rw[List.getElem?_range hil] at hi;simp only[Option.map_some,Option.some.injEq,Function.comp] at hi;subst hi;obtain⟨_,cs',h1,hr⟩:=hf i hil;obtain⟨_,hcl,hcell⟩:=World.cells?_some h1;have hsp:a.spot=none:=by
    obtain⟨_,cs0,g1,_⟩:=hf 0 (by omega);obtain⟨_,gcl,gcell⟩:=World.cells?_some g1;have h0:=gcell 0 hsz;rw[Zt (by omega)] at h0;have:=(Jv h0).1;simpa[Addr.add] using this
   refine⟨hlen _,a,rfl,hsp,λj r hj=>?_⟩;obtain⟨u,hu,hp⟩:=hr.at hj;have hjs:j<sz:=by have:=(List.getElem?_eq_some_iff.1 hj).1;rw[hlen] at this;exact this
   have h3:=hcell j hjs;rw[hu] at h3;have h4:=(Jv h3).2;refine⟨u,?_,hp⟩;have e1:((a.add (i*sz)).add j).block=a.block:=by simp only[Addr.add];split<;>split<;>rfl
   have e2:((a.add (i*sz)).add j).off=a.off+(i*sz+j):=by simp only[Addr.add];split<;>split<;>simp_all<;>omega
   rw[e1,e2] at h4;exact h4
theorem Co {H:Type}{xs:List (DataW H×List MemPlace)}{i:Nat}(hi:i<xs.length)(h:Rows.uptoBulk (DataW.agg (xs.map (·.1)))≤1048576):Rows.uptoBulk (xs[i]).1≤1048576:=by
 rw[Rows.uptoBulk] at h;have:=IJ (List.mem_map.2 ⟨xs[i],List.getElem_mem hi,rfl⟩:(xs[i]).1∈xs.map (·.1));omega
theorem DU.val {α:Type}{enc:α→List Rp}{ok:α→Bool}(h:DU P e enc ok){r:α→Rp}(he:∀y,enc y=[r y]){H:Type}{encH:TypeId×Value→H}{W:World}{sp:Nat→Bool}{held:Bool}{v:Value}{d:DataW H}{ps:List MemPlace}
  (hone:v.cells = #[v]) (ht:DataW.Trod encH P W 0 sp held e v d ps) (hb:Rows.uptoBulk d≤1048576):∃y:α,ok y=true∧(r y).p (ZW W) v:=by
 obtain⟨fuel,hf⟩:=ht;rw[hone] at hf;obtain⟨y,hy,hr⟩:=h hf hb;rw[he] at hr;exact⟨y,hy,hr.1⟩
theorem DU.valAgg {α:Type}{enc:α→List Rp}{ok:α→Bool}(h:DU P e enc ok){H:Type}{encH:TypeId×Value→H}{W:World}{sp:Nat→Bool}{held:Bool}{cs:Array Value}{d:DataW H}{ps:List MemPlace}
  (ht:DataW.Trod encH P W 0 sp held e (.agg cs) d ps) (hb:Rows.uptoBulk d≤1048576):∃y:α,ok y=true∧(B9 (enc y)).p (ZW W) (.agg cs):=by
 obtain⟨fuel,hf⟩:=ht;obtain⟨y,hy,hr⟩:=h hf hb;exact⟨y,hy,cs.toList,by simp,hr⟩
end
open Go
def Lj (l:(List Int)):Option ((List Int)):=
 some l
def IM (l:(List Int))(c:Int):Option (Unit×(List Int)):=
 Bq (Lj l) λr1=>Bc (Dp 1 (r1.length+([c]:List Int).length))<|some ((),r1++([c]:List Int))
def Ha (l:(List Int))(s:An):Option (Int×Unit×(List Int)):=
 Bq (Lj l) λr1=>Bc (Dp 1 (r1.length+s.length))<|some ((s.length:Int),(),r1++Do s)
def Nm (l:An):Option (An):=
 Bc (decide (0<(Do l).length))<|some l
def Li (l:(List Int)):Option ((List Int)):=
 some l
def IL (l:(List Int))(c:Int):Option (Unit×(List Int)):=
 Bq (Li l) λr1=>Bc (Dp 1 (r1.length+([c]:List Int).length))<|some ((),r1++([c]:List Int))
def GZ (l:(List Int))(s:An):Option (Int×Unit×(List Int)):=
 Bq (Li l) λr1=>Bc (Dp 1 (r1.length+s.length))<|some ((s.length:Int),(),r1++Do s)
def Nl (l:An):Option (An):=
 Bc (decide (0<(Do l).length))<|some l
set_option maxRecDepth 100000
set_option maxHeartbeats 4000000
theorem L4:∃inf,Tryz.prog.info? 5=some inf∧inf.zero=some (.int .u8 0)∧inf.size=1∧inf.bytes=1:=by
  have key:(Tryz.prog.info? 5).map (λi=>(i.zero,i.size,i.bytes))=some (some (.int .u8 0),1,1):=by kernel_rfl
  obtain⟨inf,h1,h2⟩:=Option.map_eq_some_iff.1 key;simp only[Prod.mk.injEq] at h2;exact⟨inf,h1,h2.1,h2.2.1,h2.2.2⟩
theorem Qg:∃j,Tryz.prog.info? 146=some j∧j.size≠0:=by
  have key:(Tryz.prog.info? 146).map (λi=>i.size)=some 2:=by kernel_rfl
  obtain⟨j,h1,h2⟩:=Option.map_eq_some_iff.1 key;exact⟨j,h1,by rw[h2];decide⟩
theorem Qh:∃j,Tryz.prog.info? 146=some j:=Qg.imp λ_ h=>h.1
theorem Q3 (ha:Nat)(hb:Value)(l:(List Int))(r:(List Int))(h:Lj l=some r):Fn Tryz.prog GE 174 [rP ha 0] [.blk ha [rv (.pointer none),rv hb] 146,.row hb 5 1 (Ax Bp l)] (λR H=>∃w0:Value,R=rv (.tuple #[])∧H=[.blk ha [rP ha 0,rv w0] 146,.row w0 5 1 (Ax Bp r)]):=by
 refine enter (n:=20) Tryz.func174 Aa Tryz.ntmps174 Aa (λw Z=>?_);unfold Lj at h;refine Al (wm Aa (wv (A2 Aa) (vF ER Aa Py (vL 0 Ee Aa (wv (r:=rB true) (U7 ⟨_,Pw⟩ Aa) (Au (BK Aa Aa (At (wm Aa (wm Aa (wv (r:=rP ha 0) (PM (i:=0) Pw Tryz.underlying227 Qg Aa Aa Aa) (AC (r:=rP ha 0) (Wu Tryz.func197 (by kernel_rfl) (by kernel_rfl) (by kernel_rfl) (by kernel_rfl) Aa) Aa (wv (r:=rP ha 0) (N0 (i:=0) Tryz.underlying227 Pw Qh Aa Aa (by kernel_rfl)) (wv (A2 Aa) (vF ER Aa Py (Bv (i:=0) Py Aa Aa (Bw Aa) Aa Aa (cs':=[rP ha 0,rv hb]) Aa (H':=[.blk ha [rP ha 0,rv hb] 146,.row hb 5 1 (Ax Bp l)]) Aa (Av ?_)))))))))))))))));obtain rfl:=A1 h;exact Gq (SL Tryz.results174) (sC (sC sN)) ⟨hb,Aa,Aa⟩
theorem NC (ha:Nat)(hb:Value)(l:(List Int))(c:Int)(r:Unit×(List Int))(h:IM l c=some r):Fn Tryz.prog GE 144 [rP ha 0,rI .u8 c] [.blk ha [rv (.pointer none),rv hb] 146,.row hb 5 1 (Ax Bp l)] (λR H=>∃w0:Value,R=rv (.nilIface)∧H=[.blk ha [rP ha 0,rv w0] 146,.row w0 5 1 (Ax Bp r.2)]):=by
 refine enter (n:=17) Tryz.func144 Aa Tryz.ntmps144 Aa (λw Z=>?_);unfold IM at h;refine Al (wa Aa (Bk (wm Aa (ob h λr1 e3 h2=>CV (Hr:=[]) Tryz.call174 (Q3 ha hb l r1 e3) Aa (Zp _) Aa ?_))));rintro _ _ ⟨v4,rfl,rfl⟩;refine Bk (wm Aa (wm Aa (wv (A2 Aa) (vF ER Aa ES (vL 0 Ln Aa (wm Aa (Ba (ys:=([c]:List Int)) (enc:=Bp) (css:=[[rI .u8 c]]) (xs:=[.tmp 12]) DO XV XU Aa Aa Aa ⟨DH.one Aa (Up.refl _),trivial⟩ Aa D2 Aa Aa Aa (λb5=>?_))))))));refine ck h2 λg7 h8=>Exists.elim L4 λinf hinf=>BQ (xs:=r1) (ys:=([c]:List Int)) (enc:=Bp) (i:=2) DO hinf.1 hinf.2.1 hinf.2.2.1 hinf.2.2.2 Aa Aa Aa Aa Aa (HY.w (i:=0) Aa Aa) D2 Ju g7 Aa (λv6=>?_);refine wv (A2 Aa) (vF ER Aa ES (Bv (i:=2) ES Aa Aa (Cl (i:=0) Aa) Aa Aa (cs':=[rP ha 0,rv v6]) Aa (H':=[.row v6 5 1 (Ax Bp (r1++([c]:List Int))),.row (.slice (some ⟨b5,0,none⟩) 1 1) 5 1 (Ax Bp ([c]:List Int)),.blk ha [rP ha 0,rv v6] 146]) Aa (Bk (wa Aa (Au (A0 (BF (H2:=[.blk ha [rP ha 0,rv v6] 146,.row v6 5 1 (Ax Bp (r1++([c]:List Int))),.row (.slice (some ⟨b5,0,none⟩) 1 1) 5 1 (Ax Bp ([c]:List Int))]) ((Ak (i:=2) Aa).trans (Zo _ (Zp _))) ?_)))))));obtain rfl:=A1 h8;exact Az (BW Tryz.results144 (AI Aa)) (sC (sC (sS sN))) ⟨v6,Aa,Aa⟩
theorem LP (ha:Nat)(hb:Value)(l:(List Int))(s:An)(r:Int×Unit×(List Int))(h:Ha l s=some r):Fn Tryz.prog GE 142 [rP ha 0,rS s] [.blk ha [rv (.pointer none),rv hb] 146,.row hb 5 1 (Ax Bp l)] (λR H=>∃w0:Value,R=Cn [As r.1,rv (.nilIface)]∧H=[.blk ha [rP ha 0,rv w0] 146,.row w0 5 1 (Ax Bp r.2.2)]):=by
 refine enter (n:=19) Tryz.func142 Aa Tryz.ntmps142 Aa (λw Z=>?_);unfold Ha at h;refine Al (wa Aa (wa Aa (Bk (wm Aa (ob h λr1 e3 h2=>CV (Hr:=[]) Tryz.call174 (Q3 ha hb l r1 e3) Aa (Zp _) Aa ?_)))));rintro _ _ ⟨v4,rfl,rfl⟩;refine Bk (wm Aa (wm Aa (wv (A2 Aa) (vF ER Aa ES (vL 0 Ln Aa (wm Aa (ck h2 λg6 h7=>Exists.elim L4 λinf hinf=>EZ (xs:=r1) (i:=1) DO C4 hinf.1 hinf.2.1 hinf.2.2.1 hinf.2.2.2 Aa Aa Aa g6 Aa (λv5=>?_))))))));refine wv (A2 Aa) (vF ER Aa ES (Bv (i:=1) ES Aa Aa (Cl (i:=0) Aa) Aa Aa (cs':=[rP ha 0,rv v5]) Aa (H':=[.row v5 5 1 (Ax Bp (r1++Do s)),.blk ha [rP ha 0,rv v5] 146]) Aa (Bk (wm Aa (wv (BA C4 Aa) (wa Aa (wa Aa (Au (A0 (BF (H2:=[.blk ha [rP ha 0,rv v5] 146,.row v5 5 1 (Ax Bp (r1++Do s))]) ((Ak (i:=1) Aa).trans (Zo _ (Zp _))) ?_))))))))));obtain rfl:=A1 h7;exact Az (Dq Tryz.results142 (AI Aa) (AI Aa)) (sC (sC sN)) ⟨v5,Aa,Aa⟩
theorem Rx (ha:Nat)(hb:Value)(l:An)(r:An)(h:Nm l=some r):Fn Tryz.prog GE 111 [rP ha 0] [.blk ha [rv (.pointer none),rv hb] 146,.row hb 5 1 (Ax Bp (Do l))] (λR H=>R=rS r∧H=[]):=by
 refine enter (n:=14) Tryz.func111 Aa Tryz.ntmps111 Aa (λw Z=>?_);unfold Nm at h;refine Al (wv (r:=rS ([]:An)) (A7 Aa) (Au (Aq (ck h λg1 h2=>Gr (H1:=[.blk ha [rv (.pointer none),rv hb] 146]) [0] [⟨[],rP ha 0,0⟩,⟨[0],rP ha 0,0⟩,⟨[1],rP ha 1,0⟩,⟨[2],rv hb,1⟩,⟨[3],rv (XW hb),1⟩,⟨[],rP ha 0,0⟩,⟨[5],rP ha 0,0⟩,⟨[6],rP ha 1,0⟩,⟨[7],rv hb,1⟩,⟨[8],As ((Do l).length:Int),1⟩,⟨[4,9],rS l,2⟩,⟨[10],rS l,0⟩] (rle [(11,_),(2,[.blk ha [rv (.pointer none),rv hb] 146])]) [2] ?_ ?_))))
 ·refine oq (Aw Aa) (oq (A2 Aa) (oq (Ay ER Aa ES Aa Aa) (of (AQ (i:=0) Ln Aa Aa Aa) (of (Ly (i:=1) Aa Aa (LX g1)) (oq (Aw Aa) (oq (A2 Aa) (oq (Ay ER Aa ES Aa Aa) (of (AQ (i:=0) Ln Aa Aa Aa) (of (BP (ys:=Do l) (enc:=Bp) (i:=1) DO Aa Aa) (I6 Aa (Yj (IN (i:=1) Tryz.underlying185 (by kernel_rfl) Aa Aa Aa (LX g1) Aa)) ?_))))))))));refine oq (A7 Aa) ?_;exact C9
 refine AT (A0 ?_);obtain rfl:=A1 h2;exact Az (BW Tryz.results111 (AI Aa)) (sS sN) ⟨Aa,Aa⟩
theorem Q2 (ha:Nat)(hb:Value)(l:(List Int))(r:(List Int))(h:Li l=some r):Fn Tryz.prog GE 174 [rP ha 0] [.blk ha [rP ha 0,rv hb] 146,.row hb 5 1 (Ax Bp l)] (λR H=>∃w0:Value,R=rv (.tuple #[])∧H=[.blk ha [rP ha 0,rv w0] 146,.row w0 5 1 (Ax Bp r)]):=by
 refine enter (n:=20) Tryz.func174 Aa Tryz.ntmps174 Aa (λw Z=>?_);unfold Li at h;refine Al (wm Aa (wv (A2 Aa) (vF ER Aa Py (vL 0 Ee Aa (wv (r:=rB false) (Xy ⟨_,Pw⟩ Aa) (Au (Db Aa Aa (Al (wm Aa (wv (A2 Aa) (vF ER Aa Py (vL 0 Ee Aa (wm Aa (wv (r:=rB false) (QP Pw Qh Aa Aa) (Au (Db Aa Aa (A3 ?_)))))))))))))))));obtain rfl:=A1 h;exact Gq (SL Tryz.results174) (sC (sC sN)) ⟨hb,Aa,Aa⟩
theorem NB (ha:Nat)(hb:Value)(l:(List Int))(c:Int)(r:Unit×(List Int))(h:IL l c=some r):Fn Tryz.prog GE 144 [rP ha 0,rI .u8 c] [.blk ha [rP ha 0,rv hb] 146,.row hb 5 1 (Ax Bp l)] (λR H=>∃w0:Value,R=rv (.nilIface)∧H=[.blk ha [rP ha 0,rv w0] 146,.row w0 5 1 (Ax Bp r.2)]):=by
 refine enter (n:=17) Tryz.func144 Aa Tryz.ntmps144 Aa (λw Z=>?_);unfold IL at h;refine Al (wa Aa (Bk (wm Aa (ob h λr1 e3 h2=>CV (Hr:=[]) Tryz.call174 (Q2 ha hb l r1 e3) Aa (Zp _) Aa ?_))));rintro _ _ ⟨v4,rfl,rfl⟩;refine Bk (wm Aa (wm Aa (wv (A2 Aa) (vF ER Aa ES (vL 0 Ln Aa (wm Aa (Ba (ys:=([c]:List Int)) (enc:=Bp) (css:=[[rI .u8 c]]) (xs:=[.tmp 12]) DO XV XU Aa Aa Aa ⟨DH.one Aa (Up.refl _),trivial⟩ Aa D2 Aa Aa Aa (λb5=>?_))))))));refine ck h2 λg7 h8=>Exists.elim L4 λinf hinf=>BQ (xs:=r1) (ys:=([c]:List Int)) (enc:=Bp) (i:=2) DO hinf.1 hinf.2.1 hinf.2.2.1 hinf.2.2.2 Aa Aa Aa Aa Aa (HY.w (i:=0) Aa Aa) D2 Ju g7 Aa (λv6=>?_);refine wv (A2 Aa) (vF ER Aa ES (Bv (i:=2) ES Aa Aa (Cl (i:=0) Aa) Aa Aa (cs':=[rP ha 0,rv v6]) Aa (H':=[.row v6 5 1 (Ax Bp (r1++([c]:List Int))),.row (.slice (some ⟨b5,0,none⟩) 1 1) 5 1 (Ax Bp ([c]:List Int)),.blk ha [rP ha 0,rv v6] 146]) Aa (Bk (wa Aa (Au (A0 (BF (H2:=[.blk ha [rP ha 0,rv v6] 146,.row v6 5 1 (Ax Bp (r1++([c]:List Int))),.row (.slice (some ⟨b5,0,none⟩) 1 1) 5 1 (Ax Bp ([c]:List Int))]) ((Ak (i:=2) Aa).trans (Zo _ (Zp _))) ?_)))))));obtain rfl:=A1 h8;exact Az (BW Tryz.results144 (AI Aa)) (sC (sC (sS sN))) ⟨v6,Aa,Aa⟩
theorem LO (ha:Nat)(hb:Value)(l:(List Int))(s:An)(r:Int×Unit×(List Int))(h:GZ l s=some r):Fn Tryz.prog GE 142 [rP ha 0,rS s] [.blk ha [rP ha 0,rv hb] 146,.row hb 5 1 (Ax Bp l)] (λR H=>∃w0:Value,R=Cn [As r.1,rv (.nilIface)]∧H=[.blk ha [rP ha 0,rv w0] 146,.row w0 5 1 (Ax Bp r.2.2)]):=by
 refine enter (n:=19) Tryz.func142 Aa Tryz.ntmps142 Aa (λw Z=>?_);unfold GZ at h;refine Al (wa Aa (wa Aa (Bk (wm Aa (ob h λr1 e3 h2=>CV (Hr:=[]) Tryz.call174 (Q2 ha hb l r1 e3) Aa (Zp _) Aa ?_)))));rintro _ _ ⟨v4,rfl,rfl⟩;refine Bk (wm Aa (wm Aa (wv (A2 Aa) (vF ER Aa ES (vL 0 Ln Aa (wm Aa (ck h2 λg6 h7=>Exists.elim L4 λinf hinf=>EZ (xs:=r1) (i:=1) DO C4 hinf.1 hinf.2.1 hinf.2.2.1 hinf.2.2.2 Aa Aa Aa g6 Aa (λv5=>?_))))))));refine wv (A2 Aa) (vF ER Aa ES (Bv (i:=1) ES Aa Aa (Cl (i:=0) Aa) Aa Aa (cs':=[rP ha 0,rv v5]) Aa (H':=[.row v5 5 1 (Ax Bp (r1++Do s)),.blk ha [rP ha 0,rv v5] 146]) Aa (Bk (wm Aa (wv (BA C4 Aa) (wa Aa (wa Aa (Au (A0 (BF (H2:=[.blk ha [rP ha 0,rv v5] 146,.row v5 5 1 (Ax Bp (r1++Do s))]) ((Ak (i:=1) Aa).trans (Zo _ (Zp _))) ?_))))))))));obtain rfl:=A1 h7;exact Az (Dq Tryz.results142 (AI Aa) (AI Aa)) (sC (sC sN)) ⟨v5,Aa,Aa⟩
theorem Rw (ha:Nat)(hb:Value)(l:An)(r:An)(h:Nl l=some r):Fn Tryz.prog GE 111 [rP ha 0] [.blk ha [rP ha 0,rv hb] 146,.row hb 5 1 (Ax Bp (Do l))] (λR H=>R=rS r∧H=[]):=by
 refine enter (n:=14) Tryz.func111 Aa Tryz.ntmps111 Aa (λw Z=>?_);unfold Nl at h;refine Al (wv (r:=rS ([]:An)) (A7 Aa) (Au (Aq (ck h λg1 h2=>Gr (H1:=[.blk ha [rP ha 0,rv hb] 146]) [0] [⟨[],rP ha 0,0⟩,⟨[0],rP ha 0,0⟩,⟨[1],rP ha 1,0⟩,⟨[2],rv hb,1⟩,⟨[3],rv (XW hb),1⟩,⟨[],rP ha 0,0⟩,⟨[5],rP ha 0,0⟩,⟨[6],rP ha 1,0⟩,⟨[7],rv hb,1⟩,⟨[8],As ((Do l).length:Int),1⟩,⟨[4,9],rS l,2⟩,⟨[10],rS l,0⟩] (rle [(11,_),(2,[.blk ha [rP ha 0,rv hb] 146])]) [2] ?_ ?_))))
 ·refine oq (Aw Aa) (oq (A2 Aa) (oq (Ay ER Aa ES Aa Aa) (of (AQ (i:=0) Ln Aa Aa Aa) (of (Ly (i:=1) Aa Aa (LX g1)) (oq (Aw Aa) (oq (A2 Aa) (oq (Ay ER Aa ES Aa Aa) (of (AQ (i:=0) Ln Aa Aa Aa) (of (BP (ys:=Do l) (enc:=Bp) (i:=1) DO Aa Aa) (I6 Aa (Yj (IN (i:=1) Tryz.underlying185 (by kernel_rfl) Aa Aa Aa (LX g1) Aa)) ?_))))))))));refine oq (A7 Aa) ?_;exact C9
 refine AT (A0 ?_);obtain rfl:=A1 h2;exact Az (BW Tryz.results111 (AI Aa)) (sS sN) ⟨Aa,Aa⟩
theorem C3 (b:Nat)(v:Value)(l:An)(c:Int)(g1:Dp 1 (l.length+1)=true)(g2:BS .u8 c=true):Fn Tryz.prog GE 144 [rP b 0,rI .u8 c] [.bld 146 5 b v l] (λR H=>∃w0:Value,R=rv .nilIface∧H=[.bld 146 5 b w0 (l++[UInt8.ofNat c.toNat])]):=by
  have hc:Do (l++[UInt8.ofNat c.toNat])=Do l++[c]:=by
    have:=(by simpa[BS,IntKind.min,IntKind.max,IntKind.signed,IntKind.bits] using g2:0≤c∧c≤255)
    simp only[Do,Aaf,Aad,List.map_nil]
    congr 2
    simp;omega
  refine Fn.bld (res:=rv .nilIface) λp hp=>?_;rw[hc];rcases hp with rfl | rfl
  · refine(NC b v (Do l) c (((),Do l++[c])) ?_).sub (G3.refl _) (λr H h=>by obtain⟨w0,h1,h2⟩:=h;exact⟨w0,h1,h2⟩)
    simp only[IM,Lj,Bq,CH];simp[Bc,g1]
  · refine(NB b v (Do l) c (((),Do l++[c])) ?_).sub (G3.refl _) (λr H h=>by obtain⟨w0,h1,h2⟩:=h;exact⟨w0,h1,h2⟩)
    simp only[IL,Li,Bq,CH];simp[Bc,g1]
theorem GR (b:Nat)(v:Value)(l s:An)(g1:Dp 1 (l.length+s.length)=true):Fn Tryz.prog GE 142 [rP b 0,rS s] [.bld 146 5 b v l] (λR H=>∃w0:Value,R=Cn [As (s.length:Int),rv .nilIface]∧H=[.bld 146 5 b w0 (l++s)]):=by
  have hc:Do (l++s)=Do l++Do s:=by simp[Do]
  refine Fn.bld (res:=Cn [As (s.length:Int),rv .nilIface]) λp hp=>?_;rw[hc];rcases hp with rfl | rfl
  · refine(LP b v (Do l) s (((s.length:Int),(),Do l++Do s)) ?_).sub (G3.refl _) (λr H h=>by obtain⟨w0,h1,h2⟩:=h;exact⟨w0,h1,h2⟩)
    simp only[Ha,Lj,Bq,CH];simp[Bc,g1]
  · refine(LO b v (Do l) s (((s.length:Int),(),Do l++Do s)) ?_).sub (G3.refl _) (λr H h=>by obtain⟨w0,h1,h2⟩:=h;exact⟨w0,h1,h2⟩)
    simp only[GZ,Li,Bq,CH];simp[Bc,g1]
theorem T3 (b:Nat)(v:Value)(l:An)(g1:decide (0<l.length)=true):Fn Tryz.prog GE 111 [rP b 0] [.bld 146 5 b v l] (λR H=>R=rS l∧H=[]):=by
  refine Fn.bldS (res:=rS l) λp hp=>?_;rcases hp with rfl | rfl
  · exact Rx b v l l (by simp only[Nm,CH];simp[Bc,g1])
  · exact Rw b v l l (by simp only[Nl,CH];simp[Bc,g1])
end Go.Proofs.YtfobhhegpkinaaaGreatDoor.Q
namespace Go.Proofs.YtfobhhegpkinaaaGreatDoor
open Go
set_option linter.unusedVariables false
structure Ac where
 fKind:Int
 fInt:Int
 fStr:An
 fN:Int
 deriving DecidableEq,Inhabited
def SO (s:An)(ha:Int):Option (Stp (Int) (Out (Bool) (Unit))):=
 B0 (decide (ha<(s.length:Int))) (Bc (CR ha (s.length:Int))<|B0 (((decide ((Bu s ha)<32))||(decide (126<(Bu s ha))))) (some (.out (.ret false))) (Bc (BS .i64 (ha+1))<|some (.next (ha+1)))) (some (.out (.go ())))
def SM :Option (Bool):=
 some true
def O9 (F:Nat)(s:An):Option (Bool):=
 Bq (Cz (λσ=>SO s σ) F 0) (Ch λν=>SM )
def CS (ok:Bool)(i:Int):Option (Int):=
 B0 (ok) (Bc (BS .i64 (i+1))<|some (i+1)) (some (-1))
def Us (F:Nat)(c:Ac):Option (Bool):=
 Bc (imp (decide (c.fKind=4)) (imp (decide (c.fInt=0)) (imp (decide (c.fN=0)) ((O9 F c.fStr).isSome))))<|some ((decide (c.fKind=4))&&((decide (c.fInt=0))&&((decide (c.fN=0))&&(ov (O9 F c.fStr)))))
def Uq (F:Nat)(ha:(List Ac)→Int→Int→Option (Int))(hb:(List Ac)→Int→Int→Option (Int))(v:(List Ac))(i:Int):Option (Int):=
 B0 (((decide (i<0))||(decide ((v.length:Int)≤i)))) (some (-1)) (Bc (CR i (v.length:Int))<|B0 (decide (((Ap v i).fKind)=1)) (Bc (imp (decide (((Ap v i).fInt)=0)) (imp (decide (((Ap v i).fStr)=([]:An))) ((CS (decide (((Ap v i).fN)=0)) i).isSome)))<|Bc (imp (decide (((Ap v i).fInt)=0)) (imp (!(decide (((Ap v i).fStr)=([]:An)))) ((CS false i).isSome)))<|Bc (imp (!(decide (((Ap v i).fInt)=0))) ((CS false i).isSome))<|some (bif decide (((Ap v i).fInt)=0) then(bif decide (((Ap v i).fStr)=([]:An)) then(ov (CS (decide (((Ap v i).fN)=0)) i)) else(ov (CS false i))) else(ov (CS false i)))) (B0 (decide (((Ap v i).fKind)=2)) (Bc (imp (decide (((Ap v i).fInt)=0)) (imp (decide (((Ap v i).fStr)=([]:An))) ((CS (decide (((Ap v i).fN)=0)) i).isSome)))<|Bc (imp (decide (((Ap v i).fInt)=0)) (imp (!(decide (((Ap v i).fStr)=([]:An)))) ((CS false i).isSome)))<|Bc (imp (!(decide (((Ap v i).fInt)=0))) (imp (decide (((Ap v i).fInt)=1)) (imp (decide (((Ap v i).fStr)=([]:An))) ((CS (decide (((Ap v i).fN)=0)) i).isSome))))<|Bc (imp (!(decide (((Ap v i).fInt)=0))) (imp (decide (((Ap v i).fInt)=1)) (imp (!(decide (((Ap v i).fStr)=([]:An)))) ((CS false i).isSome))))<|Bc (imp (!(decide (((Ap v i).fInt)=0))) (imp (!(decide (((Ap v i).fInt)=1))) ((CS false i).isSome)))<|some (bif decide (((Ap v i).fInt)=0) then(bif decide (((Ap v i).fStr)=([]:An)) then(ov (CS (decide (((Ap v i).fN)=0)) i)) else(ov (CS false i))) else(bif decide (((Ap v i).fInt)=1) then(bif decide (((Ap v i).fStr)=([]:An)) then(ov (CS (decide (((Ap v i).fN)=0)) i)) else(ov (CS false i))) else(ov (CS false i))))) (B0 (decide (((Ap v i).fKind)=3)) (Bc (imp (decide (((Ap v i).fStr)=([]:An))) ((CS (decide (((Ap v i).fN)=0)) i).isSome))<|Bc (imp (!(decide (((Ap v i).fStr)=([]:An)))) ((CS false i).isSome))<|some (bif decide (((Ap v i).fStr)=([]:An)) then(ov (CS (decide (((Ap v i).fN)=0)) i)) else(ov (CS false i)))) (B0 (decide (((Ap v i).fKind)=4)) (Bq (Us F (Ap v i)) λhd=>Bq (CS hd i) λhe=>some he) (B0 (((decide (((Ap v i).fKind)=5))&&((decide (((Ap v i).fInt)=0))&&((decide (((Ap v i).fStr)=([]:An)))&&(decide (0≤((Ap v i).fN))))))) (Bc (BS .i64 (i+1))<|Bq (ha v (i+1) ((Ap v i).fN)) λhf=>some hf) (B0 (((decide (((Ap v i).fKind)=6))&&((decide (((Ap v i).fInt)=0))&&((decide (((Ap v i).fStr)=([]:An)))&&(decide (0≤((Ap v i).fN))))))) (Bc (BS .i64 (i+1))<|Bq (hb v (i+1) ((Ap v i).fN)) λhg=>some hg) (some (-1))))))))
def DI (v:(List Ac))(n:Int)(he:(List Ac)→Int→Option (Int))(hb:Int)(ha:Int):Option (Stp (Int×Int) (Out (Int) (Int))):=
 B0 (decide (ha<n)) (Bq (he v hb) λhd=>B0 (decide (hd<0)) (some (.out (.ret (-1)))) (Bc (BS .i64 (ha+1))<|some (.next (hd,ha+1)))) (some (.out (.go hb)))
def HD (ha:Int):Option (Int):=
 some ha
def ME (F:Nat)(ha:(List Ac)→Int→Option (Int))(v:(List Ac))(i:Int)(n:Int):Option (Int):=
 Bq (Cz (λσ=>DI v n ha σ.1 σ.2) F (i,0)) (Ch λν=>HD ν)
def Eg (F:Nat)(v:(List Ac))(n:Int)(hf:(List Ac)→Int→Option (Int))(ha:Int)(hd:An)(hb:Int):Option (Stp (Int×An×Int) (Out (Int) (Int))):=
 B0 (decide (hb<n)) (Bc (imp (!(decide ((v.length:Int)≤ha))) (CR ha (v.length:Int)))<|Bc (imp (!(decide ((v.length:Int)≤ha))) ((Us F (Ap v ha)).isSome))<|B0 (((decide ((v.length:Int)≤ha))||((!(ov (Us F (Ap v ha))))||((decide (0<hb))&&(Cp ((Ap v ha).fStr) hd||decide (((Ap v ha).fStr)=hd)))))) (some (.out (.ret (-1)))) (Bc (CR ha (v.length:Int))<|Bc (BS .i64 (ha+1))<|Bq (hf v (ha+1)) λhe=>B0 (decide (he<0)) (some (.out (.ret (-1)))) (Bc (BS .i64 (hb+1))<|some (.next (he,(Ap v ha).fStr,hb+1))))) (some (.out (.go ha)))
def KQ (ha:Int):Option (Int):=
 some ha
def RJ (F:Nat)(ha:(List Ac)→Int→Option (Int))(v:(List Ac))(i:Int)(n:Int):Option (Int):=
 Bq (Cz (λσ=>Eg F v n ha σ.1 σ.2.1 σ.2.2) F (i,([]:An),0)) (Ch λν=>KQ ν)
mutual
def NN:Nat→(List Ac)→Int→Option (Int)
 | 0,_,_=>none
 | nn+1,v,i=>Uq nn (NO nn) (Uo nn) v i
def NO:Nat→(List Ac)→Int→Int→Option (Int)
 | 0,_,_,_=>none
 | nn+1,v,i,n=>ME nn (NN nn) v i n
def Uo:Nat→(List Ac)→Int→Int→Option (Int)
 | 0,_,_,_=>none
 | nn+1,v,i,n=>RJ nn (NN nn) v i n
end
end Go.Proofs.YtfobhhegpkinaaaGreatDoor
namespace Go.Proofs.YtfobhhegpkinaaaGreatDoor.Q
open Go Go.RowKit
set_option linter.unusedVariables false
set_option linter.unusedSimpArgs false
set_option maxRecDepth 100000
set_option maxHeartbeats 4000000
@[reducible] def Ab (x:Ac):List Rp:=[As x.fKind,As x.fInt,rS x.fStr,As x.fN]
theorem By (x:Ac):(Ab x).length=4:=rfl
theorem CC (x:Ac):(Ab x).all (·.one)=true:=rfl
end Go.Proofs.YtfobhhegpkinaaaGreatDoor.Q
namespace Go.Proofs.YtfobhhegpkinaaaGreatDoor
open Go
set_option linter.unusedVariables false
structure AE where
 fPairs:Bool
 fLeft:Int
 fKey:Bool
 fLast:An
 fStarted:Bool
 deriving DecidableEq,Inhabited
structure AM where
 fDepth:Int
 fBytes:Int
 fOutside:Bool
 fLong:Bool
 deriving DecidableEq,Inhabited
def BI (n:Int):Option (Bool):=
 some ((decide ((-1000000000000)≤n))&&(decide (n≤1000000000000)))
def Hi (s:An)(ha:Int):Option (Stp (Int) (Out (Bool) (Unit))):=
 B0 (decide (ha<(s.length:Int))) (Bc (CR ha (s.length:Int))<|B0 (((decide ((Bu s ha)<32))||(decide (126<(Bu s ha))))) (some (.out (.ret false))) (Bc (BS .i64 (ha+1))<|some (.next (ha+1)))) (some (.out (.go ())))
def Hh :Option (Bool):=
 some true
def Kc (F:Nat)(s:An):Option (Bool):=
 Bq (Cz (λσ=>Hi s σ) F 0) (Ch λν=>Hh )
def IW (s:An):Option (Int):=
 Bc (BS .i64 ((s.length:Int)+2))<|Bc (BS .i64 (((s.length:Int)+2)+(Lib.countByte s 34:Int)))<|Bc (BS .i64 ((((s.length:Int)+2)+(Lib.countByte s 34:Int))+(Lib.countByte s 92:Int)))<|some ((((s.length:Int)+2)+(Lib.countByte s 34:Int))+(Lib.countByte s 92:Int))
def M4 (F:Nat)(c:Ac):Option (Bool):=
 B0 (decide (c.fKind=1)) (some ((decide (c.fInt=0))&&((decide (c.fStr=([]:An)))&&(decide (c.fN=0))))) (B0 (decide (c.fKind=2)) (some (bif decide (c.fInt=0) then((decide (c.fStr=([]:An)))&&(decide (c.fN=0))) else((decide (c.fInt=1))&&((decide (c.fStr=([]:An)))&&(decide (c.fN=0)))))) (B0 (decide (c.fKind=3)) (some ((decide (c.fStr=([]:An)))&&(decide (c.fN=0)))) (B0 (decide (c.fKind=4)) (Bc (imp (decide (c.fInt=0)) (imp (decide (c.fN=0)) ((Kc F c.fStr).isSome)))<|some ((decide (c.fInt=0))&&((decide (c.fN=0))&&(ov (Kc F c.fStr))))) (B0 (decide (c.fKind=5)) (some ((decide (c.fInt=0))&&((decide (c.fStr=([]:An)))&&(decide (0≤c.fN))))) (B0 (decide (c.fKind=6)) (some ((decide (c.fInt=0))&&((decide (c.fStr=([]:An)))&&(decide (0≤c.fN))))) (some false))))))
def P8 (c:Ac):Option (Int):=
 B0 (decide (c.fKind=1)) (some 4) (B0 (decide (c.fKind=2)) (some (IntKind.wrap .i64 (5-c.fInt))) (B0 (decide (c.fKind=3)) (Bc (BS .i64 c.fInt)<|some ((Lib.itoa c.fInt).length:Int)) (B0 (decide (c.fKind=4)) (Bq (IW c.fStr) λha=>some ha) (some (IntKind.wrap .i64 (2+(max 0 (IntKind.wrap .i64 (c.fN-1)))))))))
def DA (ha:(List AE)):Option (Stp ((List AE)) (Out ((List AE)) ((List AE)))):=
 B0 (decide (0<(ha.length:Int))) (Bc (BS .i64 ((ha.length:Int)-1))<|Bc (CR ((ha.length:Int)-1) (ha.length:Int))<|Bc (BS .i64 (((Ap ha ((ha.length:Int)-1)).fLeft)-1))<|JX (List.set ha (Int.toNat ((ha.length:Int)-1)) (AE.mk ((Ap ha ((ha.length:Int)-1)).fPairs) (((Ap ha ((ha.length:Int)-1)).fLeft)-1) ((Ap ha ((ha.length:Int)-1)).fKey) ((Ap ha ((ha.length:Int)-1)).fLast) ((Ap ha ((ha.length:Int)-1)).fStarted))) λhb=>B0 (decide (0<((Ap hb ((ha.length:Int)-1)).fLeft))) (JX (List.set hb (Int.toNat ((ha.length:Int)-1)) (AE.mk ((Ap hb ((ha.length:Int)-1)).fPairs) ((Ap hb ((ha.length:Int)-1)).fLeft) ((Ap hb ((ha.length:Int)-1)).fPairs) ((Ap hb ((ha.length:Int)-1)).fLast) ((Ap hb ((ha.length:Int)-1)).fStarted))) λhd=>some (.out (.ret hd))) (Bc (BS .i64 ((hb.length:Int)-1))<|Bc (Ep ((hb.length:Int)-1) (hb.length:Int))<|some (.next (List.take (Int.toNat ((hb.length:Int)-1)) hb)))) (some (.out (.go ha)))
def DX (ha:(List AE)):Option ((List AE)):=
 some ha
def Kj (F:Nat)(stack:(List AE)):Option ((List AE)):=
 Bq (Cz (λσ=>DA σ) F stack) (Ch λν=>DX ν)
def DP (ha:Int)(hb:(List AE))(hd:AM):Option (Stp ((List AE)×Int×AM) (Out (Int×AM×Bool) (AM))):=
 Bc (BS .i64 (ha+1))<|some (.next (hb,ha+1,hd))
def D9 (F:Nat)(v:(List Ac))(ha:(List AE))(hb:Int)(hd:AM):Option (Stp ((List AE)×Int×AM) (Out (Int×AM×Bool) (AM))):=
 B0 (decide (hb<(v.length:Int))) (Bc (CR hb (v.length:Int))<|Bq (M4 F (Ap v hb)) λhj=>B0 (!hj) (some (.out (.ret (0,hd,false)))) (Bc (imp (decide (0<(ha.length:Int))) (BS .i64 ((ha.length:Int)-1)))<|Bc (imp (decide (0<(ha.length:Int))) (CR ((ha.length:Int)-1) (ha.length:Int)))<|B0 (((decide (0<(ha.length:Int)))&&((Ap ha ((ha.length:Int)-1)).fKey))) (Bc (BS .i64 ((ha.length:Int)-1))<|Bc (CR ((ha.length:Int)-1) (ha.length:Int))<|B0 (((!decide (((Ap v hb).fKind)=4))||(((Ap ha ((ha.length:Int)-1)).fStarted)&&(Cp ((Ap v hb).fStr) ((Ap ha ((ha.length:Int)-1)).fLast)||decide (((Ap v hb).fStr)=((Ap ha ((ha.length:Int)-1)).fLast)))))) (some (.out (.ret (0,hd,false)))) (JX (List.set ha (Int.toNat ((ha.length:Int)-1)) (AE.mk ((Ap ha ((ha.length:Int)-1)).fPairs) ((Ap ha ((ha.length:Int)-1)).fLeft) ((Ap ha ((ha.length:Int)-1)).fKey) ((Ap v hb).fStr) ((Ap ha ((ha.length:Int)-1)).fStarted))) λhe=>JX (List.set he (Int.toNat ((ha.length:Int)-1)) (AE.mk ((Ap he ((ha.length:Int)-1)).fPairs) ((Ap he ((ha.length:Int)-1)).fLeft) ((Ap he ((ha.length:Int)-1)).fKey) ((Ap he ((ha.length:Int)-1)).fLast) true)) λhf=>JX (List.set hf (Int.toNat ((ha.length:Int)-1)) (AE.mk ((Ap hf ((ha.length:Int)-1)).fPairs) ((Ap hf ((ha.length:Int)-1)).fLeft) false ((Ap hf ((ha.length:Int)-1)).fLast) ((Ap hf ((ha.length:Int)-1)).fStarted))) λhk=>Bq (IW ((Ap v hb).fStr)) λhh=>Bc (BS .i64 (hh+1))<|DP hb hk (AM.mk hd.fDepth (IntKind.wrap .i64 (hd.fBytes+(hh+1))) hd.fOutside (hd.fLong||(decide (200<(((Ap v hb).fStr).length:Int))))))) (Bc (BS .i64 ((ha.length:Int)+1))<|Bq (P8 (Ap v hb)) λhg=>Bc (imp (!hd.fOutside) (imp (decide (((Ap v hb).fKind)=3)) ((BI ((Ap v hb).fInt)).isSome)))<|B0 (decide (0<((Ap v hb).fN))) (B0 (decide ((v.length:Int)<((Ap v hb).fN))) (some (.out (.ret (0,(AM.mk (max hd.fDepth ((ha.length:Int)+1)) (IntKind.wrap .i64 (hd.fBytes+hg)) (hd.fOutside||((decide (((Ap v hb).fKind)=3))&&(!(ov (BI ((Ap v hb).fInt)))))) (hd.fLong||(decide (200<(((Ap v hb).fStr).length:Int))))),false)))) (Bc (Dp 48 (ha.length+([(AE.mk (decide (((Ap v hb).fKind)=6)) ((Ap v hb).fN) (decide (((Ap v hb).fKind)=6)) ([]:An) false)]:List AE).length))<|DP hb (ha++([(AE.mk (decide (((Ap v hb).fKind)=6)) ((Ap v hb).fN) (decide (((Ap v hb).fKind)=6)) ([]:An) false)]:List AE)) (AM.mk (max hd.fDepth ((ha.length:Int)+1)) (IntKind.wrap .i64 (hd.fBytes+hg)) (hd.fOutside||((decide (((Ap v hb).fKind)=3))&&(!(ov (BI ((Ap v hb).fInt)))))) (hd.fLong||(decide (200<(((Ap v hb).fStr).length:Int))))))) (Bq (Kj F ha) λhi=>B0 (decide ((hi.length:Int)=0)) (Bc (BS .i64 (hb+1))<|some (.out (.ret (hb+1,(AM.mk (max hd.fDepth ((ha.length:Int)+1)) (IntKind.wrap .i64 (hd.fBytes+hg)) (hd.fOutside||((decide (((Ap v hb).fKind)=3))&&(!(ov (BI ((Ap v hb).fInt)))))) (hd.fLong||(decide (200<(((Ap v hb).fStr).length:Int))))),true)))) (DP hb hi (AM.mk (max hd.fDepth ((ha.length:Int)+1)) (IntKind.wrap .i64 (hd.fBytes+hg)) (hd.fOutside||((decide (((Ap v hb).fKind)=3))&&(!(ov (BI ((Ap v hb).fInt)))))) (hd.fLong||(decide (200<(((Ap v hb).fStr).length:Int)))))))))) (some (.out (.go hd)))
def Kh (ha:AM):Option (Int×AM×Bool):=
 some (0,ha,false)
def If (F:Nat)(v:(List Ac)):Option (Int×AM×Bool):=
 Bq (Cz (λσ=>D9 F v σ.1 σ.2.1 σ.2.2) F (([]:List AE),0,(AM.mk 0 0 false false))) (Ch λν=>Kh ν)
def H9 (F:Nat)(v:(List Ac)):Option (Int):=
 Bq (If F v) λr1=>B0 (((!r1.2.2)||(!decide (r1.1=(v.length:Int))))) (some 1) (B0 (r1.2.1.fOutside) (some 2) (B0 ((r1.2.1.fLong||((decide (200<(v.length:Int)))||((decide (8<r1.2.1.fDepth))||(decide (4000<r1.2.1.fBytes)))))) (some 3) (some 0)))
def M7 (F:Nat)(v:(List Ac)):Option ((List Ac)×Int):=
 Bq (H9 F v) λr1=>B0 (!decide (r1=0)) (some (([]:List Ac),r1)) (some (v,0))
end Go.Proofs.YtfobhhegpkinaaaGreatDoor
namespace Go.Proofs.YtfobhhegpkinaaaGreatDoor.Q
open Go Go.RowKit
set_option linter.unusedVariables false
set_option linter.unusedSimpArgs false
set_option maxRecDepth 100000
set_option maxHeartbeats 4000000
@[reducible] def AB (x:AE):List Rp:=[rB x.fPairs,As x.fLeft,rB x.fKey,rS x.fLast,rB x.fStarted]
theorem Ih (x:AE):(AB x).length=5:=rfl
theorem LN (x:AE):(AB x).all (·.one)=true:=rfl
@[reducible] def AV (x:AM):List Rp:=[As x.fDepth,As x.fBytes,rB x.fOutside,rB x.fLong]
theorem W8:∃inf,Tryz.prog.info? 152=some inf∧inf.zero=some (.agg #[(.bool false),(.int .i64 0),(.bool false),(.string ⟨#[]⟩),(.bool false)])∧inf.size=5∧inf.bytes=48:=by
  have key:(Tryz.prog.info? 152).map (λi=>(i.zero,i.size,i.bytes))=some (some (.agg #[(.bool false),(.int .i64 0),(.bool false),(.string ⟨#[]⟩),(.bool false)]),5,48):=by kernel_rfl
  obtain⟨inf,h1,h2⟩:=Option.map_eq_some_iff.1 key;simp only[Prod.mk.injEq] at h2;exact⟨inf,h1,h2.1,h2.2.1,h2.2.2⟩
theorem V6 (parts:List (Nat×Value)):Tryz.prog.built 152 parts=Instr.fill (λi=>(#[(0,1),(1,1),(2,1),(3,1),(4,1)]:Array (Nat×Nat))[i]?) #[(.bool false),(.int .i64 0),(.bool false),(.string ⟨#[]⟩),(.bool false)] parts:=by kernel_rfl
theorem KW {n:Nat}{c:Cx}{l:Fr}{H:List Ent}{d:Option Nat}{ty:TypeId}{pos:String}{af:Array Edge}{g:Option (Nat×Bool)}{x0:Operand}{r0:Rp}(h0:ev l x0=some r0)(u0:r0.one=true){x1:Operand}{r1:Rp}(h1:ev l x1=some r1)(u1:r1.one=true){x2:Operand}{r2:Rp}(h2:ev l x2=some r2)(u2:r2.one=true):Be Tryz.prog n c l H { dst:=d,op:=.build 152 #[(0,x0),(1,x1),(2,x2)],type:=ty,pos:=pos,after:=af,guard:=g } (B9 [r0,r1,r2,rS ([]:An),rB false]):=λa w Z ha _=>by
  have p0:=ha.ev h0;have c0:=Bl (r0.hone u0 Z _ p0);have p1:=ha.ev h1;have c1:=Bl (r1.hone u1 Z _ p1);have p2:=ha.ev h2;have c2:=Bl (r2.hone u2 Z _ p2);have hb:Tryz.prog.built 152 [(0,a.eval x0),(1,a.eval x1),(2,a.eval x2)]=some #[a.eval x0,a.eval x1,a.eval x2,(.string ⟨#[]⟩),(.bool false)]:=by
    rw[V6];generalize a.eval x0=v0 at *;generalize a.eval x1=v1 at *;generalize a.eval x2=v2 at *;simp[Instr.fill,c0,c1,c2]
  refine⟨.agg #[a.eval x0,a.eval x1,a.eval x2,(.string ⟨#[]⟩),(.bool false)],⟨[a.eval x0,a.eval x1,a.eval x2,(.string ⟨#[]⟩),(.bool false)],rfl,p0,p1,p2,rfl,rfl,trivial⟩,?_⟩;have:=run_build w 152 #[(0,a.eval x0),(1,a.eval x1),(2,a.eval x2)] _ (by simpa using hb);simp[execOp,this]
theorem UM (n:Int)(r:Bool)(h:BI n=some r):Fn Tryz.prog GE 117 [As n] [] (λR H=>R=rB r∧H=[]):=by
 refine enter (n:=9) Tryz.func117 Aa Tryz.ntmps117 Aa (λw Z=>?_);unfold BI at h;refine Al (wa Aa (Au (AR [(2,rB ((decide ((-1000000000000)≤n))&&(decide (n≤1000000000000))))] [] ?_ ?_)))
 ·refine At (wm Aa (wv (LG Aa Aa) (wm Aa (AX (decide ((-1000000000000)≤n)) (λc1=>?_) (λc1=>?_)))))
  ·refine wo c1 (wm Aa (wo c1 (wv (LG Aa Aa) (JF Aa c1 Aa (wa Aa (Av ?_))))));exact CF c1
  ·refine wf c1 (wf c1 (wv (r:=rB false) (AF Aa c1 Aa) (wa Aa (Av ?_))));exact CF c1
 refine A0 ?_;obtain rfl:=A1 h;exact Az (BW Tryz.results117 (AI Aa)) sN ⟨Aa,Aa⟩
theorem VX (F:Nat)(s:An)(r:Bool)(h:Kc F s=some r):Fn Tryz.prog GE 150 [rS s] [] (λR H=>R=rB r∧H=[]):=by
 refine enter (n:=20) Tryz.func150 Aa Tryz.ntmps150 Aa (λw Z=>?_);unfold Kc at h;refine Al (wa Aa (Au (Aq (Al (wm Aa (wv (BA C4 Aa) (wv (r:=As 0) (Aw Aa) (Au (AO (ob h λhi hj hg=>B4 (S:=Nat×(Int)×(Unit)) (V:=(Unit)×(Unit)) 0 (λσ=>Cz (λσ=>Hi s σ) σ.1 σ.2.1=some hi) (λσ=>[(0,rS s),(5,As (s.length:Int)),(6,As σ.2.1)]) (λσ=>[]) (λσ=>σ.1) (F,0,()) hj (AL.c Aa (AL.c Aa (AL.c Aa AL.nil))) sN (λσ=>Hh =some r) (λσ=>[]) (λσ=>[]) ?_ ?_))))))))))
 ·rintro⟨hz,hb,⟨⟩⟩ hk;refine Cf (l':=[(0,rS s),(5,As (s.length:Int)),(6,As hb)]) (H':=[]) Aa Aa ?_;obtain⟨hl,rfl,t37,hd,hf⟩:=CO hk;replace hd:Hi s hb=some t37:=hd;unfold Hi at hd;refine Al (wv (CZ Aa Aa) (Au (Aq (cz hd Aa (λhm hn=>?_) (λhm ho=>?_)))))
  ·refine A3 (AT (Aq (AO (Al (wm Aa (wa Aa (Au (ck hn λhh hp=>AR [(0,rS s),(5,As (s.length:Int)),(6,As hb),(18,rB ((decide ((Bu s hb)<32))||(decide (126<(Bu s hb)))))] [] ?_ ?_))))))))
   ·refine At (wm Aa (wm Aa (wv (B1 C4 Aa Aa hh) (wv (CZ Aa Aa) (wm Aa (AX (decide ((Bu s hb)<32)) (λha=>?_) (λha=>?_)))))))
    ·refine wf ha (wf ha (wf ha (wf ha (wv (r:=rB true) (AA Aa ha Aa) (Av ?_)))));exact CF ha
    ·refine wo ha (wm Aa (wo ha (wm Aa (wo ha (wv (B1 C4 Aa Aa hh) (wo ha (wv (D4 Aa Aa) (Hc Aa ha Aa (Av ?_)))))))));exact CF ha
   refine cz hp Aa (λhq hr=>?_) (λhq hs=>?_)
   ·refine Al (wa Aa (Au (A0 (AD (Af (Af (Bg ?_)))))));have ht:=BG hr hf hg;refine AD (Af ?_);obtain rfl:=A1 ht;exact Az (BW Tryz.results150 (AI Aa)) sN ⟨Aa,Aa⟩
   ·refine A3 (AH (AT (At (ck hs λhu hw=>wv (BJ Aa Aa hu) (wm Aa (Av ?_))))));have hx:=B8 hw hf;exact A5 (AK (hl,hb+1,()) ⟨hx,Z3 _⟩ (AL.c Aa (AL.c Aa (AL.c Aa AL.nil))) sN)
  ·refine BB (A9 ?_);have hy:=Cv ho hf hg;exact A9 (Bh (AK ((),()) hy AL.nil sN))
 ·rintro⟨⟨⟩,⟨⟩⟩ he;refine CJ (l':=[]) (H':=[]) Aa Aa ?_;replace he:Hh =some r:=he;unfold Hh at he;refine Bf (AT (Al (wa Aa (Au (A0 ?_)))));obtain rfl:=A1 he;exact Az (BW Tryz.results150 (AI Aa)) sN ⟨Aa,Aa⟩
theorem NF (s:An)(r:Int)(h:IW s=some r):Fn Tryz.prog GE 115 [rS s] [] (λR H=>R=As r∧H=[]):=by
 refine enter (n:=12) Tryz.func115 Aa Tryz.ntmps115 Aa (λw Z=>?_);unfold IW at h;refine Al (wa Aa (Bk (wm Aa (wv (BA C4 Aa) (ck h λg1 h2=>wv (BJ Aa Aa g1) (wm Aa (CM (rs:=[rS s,rS ([34]:An)]) (r:=As (Lib.countByte s 34:Int)) Tryz.call151 Aa (Sn s 34) Aa Aa (ck h2 λg3 h4=>wv (BJ Aa Aa g3) (wm Aa (CM (rs:=[rS s,rS ([92]:An)]) (r:=As (Lib.countByte s 92:Int)) Tryz.call151 Aa (Sn s 92) Aa Aa (ck h4 λg5 h6=>wv (BJ Aa Aa g5) (wa Aa (Au (A0 ?_))))))))))))));obtain rfl:=A1 h6;exact Az (BW Tryz.results115 (AI Aa)) sN ⟨Aa,Aa⟩
theorem Ua (F:Nat)(c:Ac)(r:Bool)(h:M4 F c=some r):Fn Tryz.prog GE 114 [B9 (Ab c)] [] (λR H=>R=rB r∧H=[]):=by
 refine enter (n:=81) Tryz.func114 Aa Tryz.ntmps114 Aa (λw Z=>?_);unfold M4 at h;refine Al (BX Aa Aa (λb1=>?_));refine wa Aa (Au (Aq (Al (vF C5 Aa Jx (vL 0 Jy Aa (Au (AO (Al (wv (BN Aa Aa) (wa Aa (Au (cz h Aa (λc2 h3=>?_) (λc2 h6=>?_)))))))))))))
 ·refine AR [(2,rB ((decide (c.fInt=0))&&((decide (c.fStr=([]:An)))&&(decide (c.fN=0)))))] [] ?_ ?_
  ·refine At (vF C5 Aa C2 (vL 0 CQ Aa (wv (BN Aa Aa) (wm Aa (AX (decide (c.fInt=0)) (λc4=>?_) (λc4=>?_))))))
   ·refine wo c4 (vF C5 Aa Cs (wo c4 (vL 0 C7 Aa (wo c4 (wv (I8 Aa Aa) (JF Aa c4 Aa (wm Aa (AX (decide (c.fStr=([]:An))) (λc5=>?_) (λc5=>?_)))))))))
    ·refine wo c5 (vF C5 Aa C2 (wo c5 (vL 0 CQ Aa (wo c5 (wv (BN Aa Aa) (JF Aa c5 Aa (wa Aa (Av ?_))))))));exact CF (And.intro c4 c5)
    ·refine wf c5 (wf c5 (wf c5 (wv (r:=rB false) (AF Aa c5 Aa) (wa Aa (Av ?_)))));exact CF (And.intro c4 c5)
   ·refine wf c4 (wf c4 (wf c4 (wv (r:=rB false) (AF Aa c4 Aa) (wm Aa (wz Aa Aa (wz Aa Aa (wz Aa Aa (wv (r:=rB false) (AF (b:=false) Aa Aa Aa) (wa Aa (Av ?_))))))))));exact CF c4
  refine A0 (AD (Af ?_));obtain rfl:=A1 h3;exact Az (BW Mm (AI Aa)) sN ⟨Aa,Aa⟩
 ·refine Al (wv (BN Aa Aa) (wa Aa (Au (cz h6 Aa (λc7 h8=>?_) (λc7 hm=>?_)))))
  ·refine AR [(2,rB (bif decide (c.fInt=0) then((decide (c.fStr=([]:An)))&&(decide (c.fN=0))) else((decide (c.fInt=1))&&((decide (c.fStr=([]:An)))&&(decide (c.fN=0))))))] [] ?_ ?_
   ·refine At (vF C5 Aa C2 (vL 0 CQ Aa (wv (BN Aa Aa) (wm Aa (AX (decide (c.fInt=0)) (λc9=>?_) (λc9=>?_))))))
    ·refine wf c9 (wf c9 (wf c9 (wv (r:=rB true) (AA Aa c9 Aa) (wm Aa (AJ (b:=true) Aa Aa Aa (vF C5 Aa Cs (AJ (b:=true) Aa Aa Aa (vL 0 C7 Aa (AJ (b:=true) Aa Aa Aa (wv (I8 Aa Aa) (wv (r:=rB (decide (c.fStr=([]:An)))) (AA (b:=true) Aa Aa Aa) (wm Aa (AX (decide (c.fStr=([]:An))) (λhg=>?_) (λhg=>?_))))))))))))))
     ·refine wo hg (vF C5 Aa C2 (wo hg (vL 0 CQ Aa (wo hg (wv (BN Aa Aa) (JF Aa hg Aa (wa Aa (Av ?_))))))));exact CF (And.intro c9 hg)
     ·refine wf hg (wf hg (wf hg (wv (r:=rB false) (AF Aa hg Aa) (wa Aa (Av ?_)))));exact CF (And.intro c9 hg)
    ·refine wo c9 (vF C5 Aa C2 (wo c9 (vL 0 CQ Aa (wo c9 (wv (BN Aa Aa) (Hc Aa c9 Aa (wm Aa (AX (decide (c.fInt=1)) (λhb=>?_) (λhb=>?_)))))))))
     ·refine wo hb (vF C5 Aa Cs (wo hb (vL 0 C7 Aa (wo hb (wv (I8 Aa Aa) (JF Aa hb Aa (wm Aa (AX (decide (c.fStr=([]:An))) (λhh=>?_) (λhh=>?_)))))))))
      ·refine wo hh (vF C5 Aa C2 (wo hh (vL 0 CQ Aa (wo hh (wv (BN Aa Aa) (JF Aa hh Aa (wa Aa (Av ?_))))))));exact CF (And.intro c9 (And.intro hb hh))
      ·refine wf hh (wf hh (wf hh (wv (r:=rB false) (AF Aa hh Aa) (wa Aa (Av ?_)))));exact CF (And.intro c9 (And.intro hb hh))
     ·refine wf hb (wf hb (wf hb (wv (r:=rB false) (AF Aa hb Aa) (wm Aa (wz Aa Aa (wz Aa Aa (wz Aa Aa (wv (r:=rB false) (AF (b:=false) Aa Aa Aa) (wa Aa (Av ?_))))))))));exact CF (And.intro c9 hb)
   refine A0 (AD (Af ?_));obtain rfl:=A1 h8;exact Az (BW Mm (AI Aa)) sN ⟨Aa,Aa⟩
  ·refine Al (wv (BN Aa Aa) (wa Aa (Au (cz hm Aa (λhn ho=>?_) (λhn hp=>?_)))))
   ·refine AR [(2,rB ((decide (c.fStr=([]:An)))&&(decide (c.fN=0))))] [] ?_ ?_
    ·refine At (vF C5 Aa Cs (vL 0 C7 Aa (wv (I8 Aa Aa) (wm Aa (AX (decide (c.fStr=([]:An))) (λhi=>?_) (λhi=>?_))))))
     ·refine wo hi (vF C5 Aa C2 (wo hi (vL 0 CQ Aa (wo hi (wv (BN Aa Aa) (JF Aa hi Aa (wa Aa (Av ?_))))))));exact CF hi
     ·refine wf hi (wf hi (wf hi (wv (r:=rB false) (AF Aa hi Aa) (wa Aa (Av ?_)))));exact CF hi
    refine A0 (AD (Af ?_));obtain rfl:=A1 ho;exact Az (BW Mm (AI Aa)) sN ⟨Aa,Aa⟩
   ·refine Al (wv (BN Aa Aa) (wa Aa (Au (cz hp Aa (λhq hr=>?_) (λhq hs=>?_)))))
    ·refine ck hr λht hu=>AR [(2,rB ((decide (c.fInt=0))&&((decide (c.fN=0))&&(ov (Kc F c.fStr)))))] [] ?_ ?_
     ·refine At (vF C5 Aa C2 (vL 0 CQ Aa (wv (BN Aa Aa) (wm Aa (AX (decide (c.fInt=0)) (λha=>?_) (λha=>?_))))))
      ·refine wo ha (vF C5 Aa C2 (wo ha (vL 0 CQ Aa (wo ha (wv (BN Aa Aa) (JF Aa ha Aa (wm Aa (AX (decide (c.fN=0)) (λhd=>?_) (λhd=>?_)))))))))
       ·refine wo hd (vF C5 Aa Cs (wo hd (vL 0 C7 Aa (wo hd (Di Tryz.call150 (VX F c.fStr (ov (Kc F c.fStr)) (Nz (Em (Em ht ha) hd))) Aa (JF Aa hd Aa (wa Aa (Av ?_))))))));exact CF (And.intro ha hd)
       ·refine wf hd (wf hd (wf hd (wv (r:=rB false) (AF Aa hd Aa) (wa Aa (Av ?_)))));exact CF (And.intro ha hd)
      ·refine wf ha (wf ha (wf ha (wv (r:=rB false) (AF Aa ha Aa) (wm Aa (wz Aa Aa (wz Aa Aa (wz Aa Aa (wv (r:=rB false) (AF (b:=false) Aa Aa Aa) (wa Aa (Av ?_))))))))));exact CF ha
     refine A0 (AD (Af ?_));obtain rfl:=A1 hu;exact Az (BW Mm (AI Aa)) sN ⟨Aa,Aa⟩
    ·refine Aq (Al (wv (BN Aa Aa) (wa Aa (Au (cz hs Aa (λhl hw=>?_) (λhl hx=>?_))))))
     ·refine A3 (AT (BK Aa hl (AR [(2,rB ((decide (c.fInt=0))&&((decide (c.fStr=([]:An)))&&(decide (0≤c.fN)))))] [] ?_ ?_)))
      ·refine At (vF C5 Aa C2 (vL 0 CQ Aa (wv (BN Aa Aa) (wm Aa (AX (decide (c.fInt=0)) (λhe=>?_) (λhe=>?_))))))
       ·refine wo he (vF C5 Aa Cs (wo he (vL 0 C7 Aa (wo he (wv (I8 Aa Aa) (JF Aa he Aa (wm Aa (AX (decide (c.fStr=([]:An))) (λhj=>?_) (λhj=>?_)))))))))
        ·refine wo hj (vF C5 Aa C2 (wo hj (vL 0 CQ Aa (wo hj (wv (Iq Aa Aa) (JF Aa hj Aa (wa Aa (Av ?_))))))));exact CF (And.intro he hj)
        ·refine wf hj (wf hj (wf hj (wv (r:=rB false) (AF Aa hj Aa) (wa Aa (Av ?_)))));exact CF (And.intro he hj)
       ·refine wf he (wf he (wf he (wv (r:=rB false) (AF Aa he Aa) (wm Aa (wz Aa Aa (wz Aa Aa (wz Aa Aa (wv (r:=rB false) (AF (b:=false) Aa Aa Aa) (wa Aa (Av ?_))))))))));exact CF he
      refine A0 (AD (Af ?_));obtain rfl:=A1 hw;exact Az (BW Mm (AI Aa)) sN ⟨Aa,Aa⟩
     ·refine At (wv (BN Aa Aa) (wa Aa (Au (cz hx Aa (λhy hz=>?_) (λhy h0=>?_)))))
      ·refine AR [(2,rB ((decide (c.fInt=0))&&((decide (c.fStr=([]:An)))&&(decide (0≤c.fN)))))] [] ?_ ?_
       ·refine At (vF C5 Aa C2 (vL 0 CQ Aa (wv (BN Aa Aa) (wm Aa (AX (decide (c.fInt=0)) (λhf=>?_) (λhf=>?_))))))
        ·refine wo hf (vF C5 Aa Cs (wo hf (vL 0 C7 Aa (wo hf (wv (I8 Aa Aa) (JF Aa hf Aa (wm Aa (AX (decide (c.fStr=([]:An))) (λhk=>?_) (λhk=>?_)))))))))
         ·refine wo hk (vF C5 Aa C2 (wo hk (vL 0 CQ Aa (wo hk (wv (Iq Aa Aa) (JF Aa hk Aa (wa Aa (Av ?_))))))));exact CF (And.intro hf hk)
         ·refine wf hk (wf hk (wf hk (wv (r:=rB false) (AF Aa hk Aa) (wa Aa (Av ?_)))));exact CF (And.intro hf hk)
        ·refine wf hf (wf hf (wf hf (wv (r:=rB false) (AF Aa hf Aa) (wm Aa (wz Aa Aa (wz Aa Aa (wz Aa Aa (wv (r:=rB false) (AF (b:=false) Aa Aa Aa) (wa Aa (Av ?_))))))))));exact CF hf
       refine A0 (AD (Af ?_));obtain rfl:=A1 hz;exact Az (BW Mm (AI Aa)) sN ⟨Aa,Aa⟩
      ·refine A3 (AH (AT (Al (wa Aa (Au (A0 ?_))))));obtain rfl:=A1 h0;exact Az (BW Mm (AI Aa)) (sS sN) ⟨Aa,Aa⟩
theorem VY (c:Ac)(r:Int)(h:P8 c=some r):Fn Tryz.prog GE 116 [B9 (Ab c)] [] (λR H=>R=As r∧H=[]):=by
 refine enter (n:=28) Tryz.func116 Aa Tryz.ntmps116 Aa (λw Z=>?_);unfold P8 at h;refine Al (BX Aa Aa (λb1=>?_));refine wa Aa (Au (Aq (Al (vF C5 Aa Jx (vL 0 Jy Aa (Au (AO (Al (wv (BN Aa Aa) (wa Aa (Au (cz h Aa (λc2 h3=>?_) (λc2 h4=>?_)))))))))))))
 ·refine Al (wa Aa (Au (A0 (AD (Af ?_)))));obtain rfl:=A1 h3;exact Az (BW P1 (AI Aa)) (sS sN) ⟨Aa,Aa⟩
 ·refine Al (wv (BN Aa Aa) (wa Aa (Au (cz h4 Aa (λc5 h6=>?_) (λc5 h7=>?_)))))
  ·refine Al (vF C5 Aa C2 (vL 0 CQ Aa (wv (r:=As (IntKind.wrap .i64 (5-c.fInt))) (U5 Aa Aa) (wa Aa (Au (A0 (AD (Af ?_))))))));obtain rfl:=A1 h6;exact Az (BW P1 (AI Aa)) (sS sN) ⟨Aa,Aa⟩
  ·refine Al (wv (BN Aa Aa) (wa Aa (Au (cz h7 Aa (λc8 h9=>?_) (λc8 ha=>?_)))))
   ·refine Al (vF C5 Aa C2 (vL 0 CQ Aa (ck h9 λhb hd=>CM (rs:=[As c.fInt]) (r:=rS (Lib.itoa c.fInt)) Mn Aa (DQ c.fInt hb) Aa Aa (wv (BA C4 Aa) (wa Aa (Au (A0 (AD (Af ?_)))))))));obtain rfl:=A1 hd;exact Az (BW P1 (AI Aa)) (sS sN) ⟨Aa,Aa⟩
   ·refine Al (wv (BN Aa Aa) (wa Aa (Au (cz ha Aa (λhe hf=>?_) (λhe hg=>?_)))))
    ·refine Al (vF C5 Aa Cs (vL 0 C7 Aa (ob hf λhh hi hj=>Di Tryz.call115 (NF c.fStr hh hi) Aa (wa Aa (Au (A0 (AD (Af ?_))))))));obtain rfl:=A1 hj;exact Az (BW P1 (AI Aa)) (sS sN) ⟨Aa,Aa⟩
    ·refine A3 (AH (AT (Al (vF C5 Aa C2 (vL 0 CQ Aa (wv (r:=As (IntKind.wrap .i64 (c.fN-1))) (U5 Aa Aa) (wv (Xc T9 Aa Aa) (wv (r:=As (IntKind.wrap .i64 (2+(max 0 (IntKind.wrap .i64 (c.fN-1)))))) (QS Aa Aa) (wa Aa (Au (A0 ?_)))))))))));obtain rfl:=A1 hg;exact Az (BW P1 (AI Aa)) (sS sN) ⟨Aa,Aa⟩
theorem SF (F:Nat)(hi:Value)(stack:(List AE))(r:(List AE))(h:Kj F stack=some r):Fn Tryz.prog GE 118 [rv hi] [.row hi 152 5 (Ax AB stack)] (λR H=>∃u0:Value,R=rv u0∧H=[.row u0 152 5 (Ax AB r)]):=by
 refine enter (n:=38) Tryz.func118 Aa Tryz.ntmps118 Aa (λw Z=>?_);unfold Kj at h;refine Al (wa Aa (Au (Aq (AO (ob h λhn ho hl=>B4 (S:=Nat×((List AE))×(Value)) (V:=((List AE))×(Value)) 0 (λσ=>Cz (λσ=>DA σ) σ.1 σ.2.1=some hn) (λσ=>[(0,rv σ.2.2),(2,rv (.slice none 0 0))]) (λσ=>[.row σ.2.2 152 5 (Ax AB σ.2.1)]) (λσ=>σ.1) (F,stack,hi) ho (AL.c Aa (AL.c Aa AL.nil)) (sC sN) (λσ=>DX σ.1=some r) (λσ=>[(0,rv σ.2),(2,rv (.slice none 0 0))]) (λσ=>[.row σ.2 152 5 (Ax AB σ.1)]) ?_ ?_)))))
 ·rintro⟨n194,ha,hd⟩ hp;refine Cf (l':=[(0,rv hd),(2,rv (.slice none 0 0))]) (H':=[.row hd 152 5 (Ax AB ha)]) Aa Aa ?_;obtain⟨hq,rfl,hr,hg,hj⟩:=CO hp;replace hg:DA ha=some hr:=hg;unfold DA at hg;refine Aq (Al (wm Aa (wv (BP (ys:=ha) (enc:=AB) (i:=0) Id Aa Aa) (wv (D4 Aa Aa) (Au (cz hg Aa (λhs ht=>?_) (λhs hu=>?_)))))))
  ·refine A3 (AT (AO (Al (wm Aa (wm Aa (wv (BP (ys:=ha) (enc:=AB) (i:=0) Id Aa Aa) (ck ht λhw hx=>wv (MG Aa Aa hw) (ck hx λhe hy=>wv (r:=rv (DN 5 hd (Bi ((ha.length:Int)-1)) 0)) (DC (i:=0) Id Px Aa Aa Aa (B6 he)) (wa Aa (Bk (wm Aa (wv (r:=rv (DN 5 hd (Bi ((ha.length:Int)-1)) 0)) (C0 (k:=0) Aa (B6 he) Aa Aa) (wv (r:=rv (DN 5 hd (Bi ((ha.length:Int)-1)) 1)) (DZ (k:=0) Ic Aa C2 Aa (B6 he) Aa Aa Aa) (wv (r:=As ((Ap ha ((ha.length:Int)-1)).fLeft)) (EP (enc:=AB) (ys:=ha) (i:=0) (j:=(ha.length:Int)-1) CQ Aa Aa he Aa) (ck hy λhz h0=>wv (MG Aa Aa hz) (wv (r:=rv (DN 5 hd (Bi ((ha.length:Int)-1)) 0)) (C0 (k:=0) Aa (B6 he) Aa Aa) (wv (r:=rv (DN 5 hd (Bi ((ha.length:Int)-1)) 1)) (DZ (k:=0) Ic Aa C2 Aa (B6 he) Aa Aa Aa) (HA (enc:=AB) (ys:=ha) (y':=(AE.mk ((Ap ha ((ha.length:Int)-1)).fPairs) (((Ap ha ((ha.length:Int)-1)).fLeft)-1) ((Ap ha ((ha.length:Int)-1)).fKey) ((Ap ha ((ha.length:Int)-1)).fLast) ((Ap ha ((ha.length:Int)-1)).fStarted))) (i:=0) (j:=(ha.length:Int)-1) C2 Aa Aa (Bw Aa) Aa he Aa Aa (H':=[.row hd 152 5 (Ax AB (List.set ha (Bi ((ha.length:Int)-1)) (AE.mk ((Ap ha ((ha.length:Int)-1)).fPairs) (((Ap ha ((ha.length:Int)-1)).fLeft)-1) ((Ap ha ((ha.length:Int)-1)).fKey) ((Ap ha ((ha.length:Int)-1)).fLast) ((Ap ha ((ha.length:Int)-1)).fStarted))))]) Aa (bd h0 λhb hf h1=>?_)))))))))))))))))));rw[← hf];refine Au (Aq (Al (wm Aa (wv (r:=rv (DN 5 hd (Bi ((ha.length:Int)-1)) 0)) (C0 (k:=0) Aa (B6 (CW he hf)) Aa Aa) (wv (r:=rv (DN 5 hd (Bi ((ha.length:Int)-1)) 1)) (DZ (k:=0) Ic Aa C2 Aa (B6 (CW he hf)) Aa Aa Aa) (wv (r:=As ((Ap hb ((ha.length:Int)-1)).fLeft)) (EP (enc:=AB) (ys:=hb) (i:=0) (j:=(ha.length:Int)-1) CQ Aa Aa (CW he hf) Aa) (wv (D4 Aa Aa) (Au (cz h1 Aa (λh2 h3=>?_) (λh2 h4=>?_))))))))))
   ·refine Al (wm Aa (wm Aa (wv (r:=rv (DN 5 hd (Bi ((ha.length:Int)-1)) 0)) (C0 (k:=0) Aa (B6 (CW he hf)) Aa Aa) (wv (r:=rv (DN 5 hd (Bi ((ha.length:Int)-1)) 0)) (DZ (k:=0) Ic Aa He Aa (B6 (CW he hf)) Aa Aa Aa) (wv (r:=rB ((Ap hb ((ha.length:Int)-1)).fPairs)) (EP (enc:=AB) (ys:=hb) (i:=0) (j:=(ha.length:Int)-1) R6 Aa Aa (CW he hf) Aa) (wv (r:=rv (DN 5 hd (Bi ((ha.length:Int)-1)) 0)) (C0 (k:=0) Aa (B6 (CW he hf)) Aa Aa) (wv (r:=rv (DN 5 hd (Bi ((ha.length:Int)-1)) 2)) (DZ (k:=0) Ic Aa He Aa (B6 (CW he hf)) Aa Aa Aa) (HA (enc:=AB) (ys:=hb) (y':=(AE.mk ((Ap hb ((ha.length:Int)-1)).fPairs) ((Ap hb ((ha.length:Int)-1)).fLeft) ((Ap hb ((ha.length:Int)-1)).fPairs) ((Ap hb ((ha.length:Int)-1)).fLast) ((Ap hb ((ha.length:Int)-1)).fStarted))) (i:=0) (j:=(ha.length:Int)-1) He Aa Aa (Bw Aa) Aa (CW he hf) Aa Aa (H':=[.row hd 152 5 (Ax AB (List.set hb (Bi ((ha.length:Int)-1)) (AE.mk ((Ap hb ((ha.length:Int)-1)).fPairs) ((Ap hb ((ha.length:Int)-1)).fLeft) ((Ap hb ((ha.length:Int)-1)).fPairs) ((Ap hb ((ha.length:Int)-1)).fLast) ((Ap hb ((ha.length:Int)-1)).fStarted))))]) Aa (bd h3 λhG h5 h6=>?_)))))))));rw[← h5];refine Bk (wm Aa (wa Aa (Au (A0 (Af (AD (Af (Bg ?_))))))));have h7:=BG h6 hj hl;refine AD (Af ?_);obtain rfl:=A1 h7;exact Az (BW Tryz.results118 (AI Aa)) (sC sN) ⟨hd,Aa,Aa⟩
   ·refine A3 (AT (At (wm Aa (wm Aa (wv (BP (ys:=hb) (enc:=AB) (i:=0) Id Aa Aa) (ck h4 λh8 h9=>wv (MG Aa Aa h8) (ck h9 λhA hB=>Ya (i:=0) Id Px Aa Aa Aa hA Aa (λhC=>?_))))))));refine wa Aa (Av (AH ?_));have hD:=B8 hB hj;exact A5 (AK (hq,List.take (Bi ((hb.length:Int)-1)) hb,hC) ⟨hD,Z3 _⟩ (AL.c Aa (AL.c Aa AL.nil)) (sC sN))
  ·refine BB (A9 ?_);have hE:=Cv hu hj hl;exact A9 (Bh (AK (ha,hd) hE (AL.c Aa (AL.c Aa AL.nil)) (sC sN)))
 ·rintro⟨hm,hk⟩ hh;refine CJ (l':=[(0,rv hk),(2,rv (.slice none 0 0))]) (H':=[.row hk 152 5 (Ax AB hm)]) Aa Aa ?_;replace hh:DX hm=some r:=hh;unfold DX at hh;refine Bf (AT (Al (wm Aa (wa Aa (Au (A0 ?_))))));obtain rfl:=A1 hh;exact Az (BW Tryz.results118 (AI Aa)) (sC sN) ⟨hk,Aa,Aa⟩
theorem O0 (F:Nat)(v:(List Ac))(r:Int×AM×Bool)(h:If F v=some r):Fn Tryz.prog GE 89 [AU 4 (Ax Ab v)] [] (λR H=>R=Cn [As r.1,B9 (AV r.2.1),rB r.2.2]∧H=[]):=by
 refine enter (n:=152) Tryz.func89 Aa Tryz.ntmps89 Aa (λw Z=>?_);unfold If at h;refine Al (wa Aa (BR (cs:=[As 0,As 0,rB false,rB false]) Pu Aa Aa (λb1=>?_)));refine wa Aa (Au (TV (Al (BR (cs:=[As 0,As 0,rB false,rB false]) Pu Aa Aa (λb2=>?_)))));refine Bk (wa Aa (Au (Aq (TW (AT (Aq (Al (wm Aa (wv (Bt (ys:=v) (enc:=Ab) CX Aa) (wv (r:=As 0) (Aw Aa) (Au (AO (WC.nilrow (e:=152) (sz:=5) (G5 (H2:=[.blk b2 [As 0,As 0,rB false,rB false] 124,.blk b1 [As 0,As 0,rB false,rB false] 124,.row (.slice none 0 0                                                                                                                                                        ) 152 5 (Ax AB ([]:List AE))]) ((Ak (i:=1) Aa).trans (Zo _ ((Ak (i:=1) Aa).trans (Zo _ (Zp _))))) (ob h λhA hB hy=>B4 (S:=Nat×((List AE)×Int×AM)×(Value)) (V:=(AM)×(Unit)) 0 (λσ=>Cz (λσ=>D9 F v σ.1 σ.2.1 σ.2.2) σ.1 σ.2.1=some hA) (λσ=>[(0,AU 4 (Ax Ab v)),(3,rP b1 0),(5,rP b2 0),(6,rv σ.2.2),(11,AU 4 (Ax Ab v)),(12,As (v.length:Int)),(13,As σ.2.1.2.1)]) (λσ=>[.blk b2 (AV σ.2.1.2.2) 124,.blk b1 [As 0,As 0,rB false,rB false] 124,.row σ.2.2 152 5 (Ax AB σ.2.1.1)]) (λσ=>σ.1) (F,(([]:List AE),0,(AM.mk 0 0 false false)),(.slice none 0 0                                                                                                                                                        )) hB (AL.c Aa (AL.c Aa (AL.c5 Aa Aa Aa Aa Aa AL.nil))) (sC (sC (sC sN))) (λσ=>Kh σ.1=some r) (λσ=>[(3,rP b1 0),(5,rP b2 0)]) (λσ=>[.blk b2 (AV σ.1) 124,.blk b1 [As 0,As 0,rB false,rB false] 124]) ?_ ?_)))))))))))))))
 ·rintro⟨gI,⟨hd,hb,ha⟩,he⟩ hC;refine Cf (l':=[(0,AU 4 (Ax Ab v)),(3,rP b1 0),(5,rP b2 0),(6,rv he),(11,AU 4 (Ax Ab v)),(12,As (v.length:Int)),(13,As hb)]) (H':=[.blk b2 (AV ha) 124,.blk b1 [As 0,As 0,rB false,rB false] 124,.row he 152 5 (Ax AB hd)]) Aa Aa ?_;obtain⟨hD,rfl,h4,h0,hx⟩:=CO hC;replace h0:D9 F v hd hb ha=some h4:=h0;unfold D9 at h0;refine Al (wv (CZ Aa Aa) (Au (Aq (cz h0 Aa (λhE hG=>?_) (λhE hH=>?_)))))
  ·refine A3 (AT (C8 (S:=((List AE)×AM)×(Value)) (λσ=>DP hb σ.1.1 σ.1.2=some h4) (λσ=>[(0,AU 4 (Ax Ab v)),(3,rP b1 0),(5,rP b2 0),(6,rv σ.2),(11,AU 4 (Ax Ab v)),(12,As (v.length:Int)),(13,As hb)]) (λσ=>[.blk b2 (AV σ.1.2) 124,.blk b1 [As 0,As 0,rB false,rB false] 124,.row σ.2 152 5 (Ax AB σ.1.1)]) ?_ ?_))
   ·refine AO (Al (wm Aa (ck hG λhI hJ=>wv (BT (enc:=Ab) (ys:=v) CX DL Aa Aa hI) (wv (Eh S8 DL Aa Aa Aa) (BR (cs:=[As 0,As 0,rS ([]:An),As 0]) LA Aa Aa (λhf=>?_))))));refine wa Aa (Bj (i:=0) DL Aa Aa Aa (Cj.c Aa) Aa Aa (cs':=[As ((Ap v hb).fKind),As ((Ap v hb).fInt),rS ((Ap v hb).fStr),As ((Ap v hb).fN)]) Aa (H':=[.blk hf (Ab (Ap v hb)) 83,.blk b2 (AV ha) 124,.blk b1 [As 0,As 0,rB false,rB false] 124,.row he 152 5 (Ax AB hd)]) Aa (Au (Aq (Al (wv (AZ (i:=0) S8 DL Aa Aa Aa Aa) (ob hJ λhK hL hN=>Di Tryz.call114 (Ua F (Ap v hb) hK hL) Aa (wv (B7 Aa) (Au (cz hN Aa (λhO hP=>?_) (λhO hQ=>?_))))))))))
    ·refine Aq (Gr (H1:=[.blk hf (Ab (Ap v hb)) 83,.blk b2 (AV ha) 124,.blk b1 (AV ha) 124,.row he 152 5 (Ax AB hd)]) [3,5] [⟨[],B9 (AV ha),1⟩,⟨[],As 0,0⟩,⟨[0],rv undef,2⟩,⟨[],rB false,0⟩] (rle [(3,_),(2,[.blk hf (Ab (Ap v hb)) 83,.blk b2 (AV ha) 124,.blk b1 (AV ha) 124,.row he 152 5 (Ax AB hd)])]) [2,4,3] ?_ ?_)
     ·refine of (AZ (i:=1) J0 E4 Aa Aa Aa Aa) (oq (A7 Aa) (I6 Aa (OE (DS (i:=2) E4 Aa Aa Aa (Cj.c Aa) Aa Aa (cs':=[As ha.fDepth,As ha.fBytes,rB ha.fOutside,rB ha.fLong]) Aa (H':=[.blk hf (Ab (Ap v hb)) 83,.blk b2 (AV ha) 124,.blk b1 (AV ha) 124,.row he 152 5 (Ax AB hd)]) Aa)) ?_));refine oq (A7 Aa) ?_;exact C9
     refine AT (A0 (Af (AD (Af (Af (Bg ?_))))));have hR:=BG hP hx hy;refine AD (Af (IQ ?_));obtain rfl:=A1 hR;exact Az (Um TJ (AI Aa) (Hm (i:=2) J0 E4 Aa Aa Aa) (AI Aa)) (sS (sS (sS (sS sN)))) ⟨Aa,Aa⟩
    ·refine A3 (AT (Aq (Al (wm Aa (wv (BP (ys:=hd) (enc:=AB) (i:=3) Id Aa Aa) (wa Aa (Au (ck hQ λhS hT=>ck hT λh5 hU=>AR [(0,AU 4 (Ax Ab v)),(3,rP b1 0),(5,rP b2 0),(6,rv he),(7,As hb),(8,rP hf 0),(9,As (hd.length:Int)),(11,AU 4 (Ax Ab v)),(12,As (v.length:Int)),(13,As hb),(33,rB ((decide (0<(hd.length:Int)))&&((Ap hd ((hd.length:Int)-1)).fKey)))] [.blk hf (Ab (Ap v hb)) 83,.blk b2 (AV ha) 124,.blk b1 [As 0,As 0,rB false,rB false] 124,.row he 152 5 (Ax AB hd)] ?_ ?_))))))))
     ·refine At (wm Aa (wv (D4 Aa Aa) (wm Aa (AX (decide (0<(hd.length:Int))) (λhi=>?_) (λhi=>?_)))))
      ·refine wo hi (wm Aa (wo hi (wm Aa (wo hi (wv (MG Aa Aa (Em hS hi)) (wo hi (wv (r:=rv (DN 5 he (Bi ((hd.length:Int)-1)) 0)) (DC (i:=3) Id Px Aa Aa Aa (B6 (Em h5 hi))) (wo hi (wv (r:=rv (DN 5 he (Bi ((hd.length:Int)-1)) 2)) (DZ (k:=3) Ic Aa He Aa (B6 (Em h5 hi)) Aa Aa Aa) (wo hi (wv (r:=rB ((Ap hd ((hd.length:Int)-1)).fKey)) (EP (enc:=AB) (ys:=hd) (i:=3) (j:=(hd.length:Int)-1) R6 Aa Aa (Em h5 hi) Aa) (JF Aa hi Aa (Av ?_)))))))))))));exact CF hi
      ·refine wf hi (wf hi (wf hi (wf hi (wf hi (wf hi (wv (r:=rB false) (AF Aa hi Aa) (Av ?_)))))));exact CF hi
     refine cz hU Aa (λhV hW=>?_) (λhV hX=>?_)
     ·refine Al (wm Aa (wm Aa (ck hW λhY hZ=>wv (MG Aa Aa hY) (ck hZ λhj ga=>wv (r:=rv (DN 5 he (Bi ((hd.length:Int)-1)) 0)) (DC (i:=3) Id Px Aa Aa Aa (B6 hj)) (wa Aa (Au (Aq (AR [(0,AU 4 (Ax Ab v)),(3,rP b1 0),(5,rP b2 0),(6,rv he),(8,rP hf 0),(10,rv (DN 5 he (Bi ((hd.length:Int)-1)) 0)),(11,AU 4 (Ax Ab v)),(12,As (v.length:Int)),(13,As hb),(38,rP hf 0),(39,As ((Ap v hb).fKind)),(40,rB (!decide (((Ap v hb).fKind)=4))),(41,rB (!decide (((Ap v hb).fKind)=4))),(55,rB ((!decide (((Ap v hb).fKind)=4))||(((Ap hd ((hd.length:Int)-1)).fStarted)&&(Cp ((Ap v hb).fStr) ((Ap hd ((hd.length:Int)-1)).fLast)||decide (((Ap v hb).fStr)=((Ap hd ((hd.length:Int)-1)).fLast))))))] [.blk hf (Ab (Ap v hb)) 83,.blk b2 (AV ha) 124,.blk b1 [As 0,As 0,rB false,rB false] 124,.row he 152 5 (Ax AB hd)] ?_ ?_))))))))
      ·refine AX (!decide (((Ap v hb).fKind)=4)) (λhh=>?_) (λhh=>?_)
       ·refine Dm [0,3,5,6,8,10,11,12,13] [⟨[],rP hf 0,0⟩,⟨[0],As ((Ap v hb).fKind),1⟩,⟨[1],rB (!decide (((Ap v hb).fKind)=4)),0⟩,⟨[2],rB (!decide (((Ap v hb).fKind)=4)),0⟩,⟨[3],rv undef,0⟩,⟨[4,3],rv undef,0⟩,⟨[5,3],rv undef,0⟩,⟨[6,3],rv undef,0⟩,⟨[7,3],rv undef,0⟩,⟨[8],rv undef,0⟩,⟨[9,8],rv undef,0⟩,⟨[8],rv undef,0⟩,⟨[11,8],rv undef,0⟩,⟨[12,8],rv undef,0⟩,⟨[13,8],rv undef,0⟩,⟨[10,14,8],rv undef,0⟩,⟨[8,15,3],rv undef,0⟩,⟨[3,16],rB true,0⟩] [38,39,40,41,42,43,44,45,46,47,48,49,50,51,52,53,54,55,0,3,5,6,8,10,11,12,13] ?_ ?_
        ·refine oq (Ay C5 Aa Jx Aa Aa) (of (AQ (i:=0) Jy Aa Aa Aa) (oq (Cr Aa Aa) (oq (Aw Aa) (oz hh (oz hh (oz hh (oz hh (oz hh (ou (ou (ou (ou (ou (ou (ou (oz hh (oq (AA (b:=!decide (((Ap v hb).fKind)=4)) Aa hh Aa) ?_)))))))))))))))));exact C9
        exact CF hh
       ·refine AX ((Ap hd ((hd.length:Int)-1)).fStarted) (λhk=>?_) (λhk=>?_)
        ·refine Dm [0,3,5,6,8,10,11,12,13] [⟨[],rP hf 0,0⟩,⟨[0],As ((Ap v hb).fKind),1⟩,⟨[1],rB (!decide (((Ap v hb).fKind)=4)),0⟩,⟨[2],rB (!decide (((Ap v hb).fKind)=4)),0⟩,⟨[3],rv (DN 5 he (Bi ((hd.length:Int)-1)) 0),0⟩,⟨[4,3],rv (DN 5 he (Bi ((hd.length:Int)-1)) 0),1⟩,⟨[5,3],rv (DN 5 he (Bi ((hd.length:Int)-1)) 4),1⟩,⟨[6,3],rB ((Ap hd ((hd.length:Int)-1)).fStarted),1⟩,⟨[7,3],rB ((Ap hd ((hd.length:Int)-1)).fStarted),0⟩,⟨[8],rP hf 2,0⟩,⟨[9,8],rS ((Ap v hb).fStr),1⟩,⟨[8],rv (DN 5 he (Bi ((hd.length:Int)-1)) 0),0⟩,⟨[11,8],rv (DN 5 he (Bi ((hd.length:Int)-1)) 0),1⟩,⟨[12,8],rv (DN 5 he (Bi ((hd.length:Int)-1)) 3),1⟩,⟨[13,8],rS ((Ap hd ((hd.length:Int)-1)).fLast),1⟩,⟨[10,14,8],rB (Cp ((Ap v hb).fStr) ((Ap hd ((hd.length:Int)-1)).fLast)||decide (((Ap v hb).fStr)=((Ap hd ((hd.length:Int)-1)).fLast))),0⟩,⟨[8,15,3],rB (Cp ((Ap v hb).fStr) ((Ap hd ((hd.length:Int)-1)).fLast)||decide (((Ap v hb).fStr)=((Ap hd ((hd.length:Int)-1)).fLast))),0⟩,⟨[3,16],rB (Cp ((Ap v hb).fStr) ((Ap hd ((hd.length:Int)-1)).fLast)||decide (((Ap v hb).fStr)=((Ap hd ((hd.length:Int)-1)).fLast))),0⟩] [38,39,40,41,42,43,44,45,46,47,48,49,50,51,52,53,54,55,0,3,5,6,8,10,11,12,13] ?_ ?_
         ·refine oq (Ay C5 Aa Jx Aa Aa) (of (AQ (i:=0) Jy Aa Aa Aa) (oq (Cr Aa Aa) (oq (Aw Aa) (on hh (oq (Aw Aa) (on hh (of (C0 (k:=3) Aa (B6 hj) Aa Aa) (on hh (of (DZ (k:=3) Ic Aa He Aa (B6 hj) Aa Aa Aa) (on hh (of (EP (enc:=AB) (ys:=hd) (i:=3) (j:=(hd.length:Int)-1) R6 Aa Aa hj Aa) (on hh (oq (Aw Aa) (on hk (oq (Ay C5 Aa Cs Aa Aa) (on hk (of (AQ (i:=0) C7 Aa Aa Aa) (on hk (oq (Aw Aa) (on hk (of (C0 (k:=3) Aa (B6 hj) Aa Aa) (on hk (of (DZ (k:=3) Ic Aa Cs Aa (B6 hj) Aa Aa Aa) ?_)))))))))))))))))))))));refine on hk (of (EP (enc:=AB) (ys:=hd) (i:=3) (j:=(hd.length:Int)-1) C7 Aa Aa hj Aa) (on hk (oq (U6 Aa Aa) (on hh (oq (AA Aa hk Aa) (oq (AF Aa hh Aa) ?_))))));exact C9
         exact CF (And.intro hh hk)
        ·refine Dm [0,3,5,6,8,10,11,12,13] [⟨[],rP hf 0,0⟩,⟨[0],As ((Ap v hb).fKind),1⟩,⟨[1],rB (!decide (((Ap v hb).fKind)=4)),0⟩,⟨[2],rB (!decide (((Ap v hb).fKind)=4)),0⟩,⟨[3],rv (DN 5 he (Bi ((hd.length:Int)-1)) 0),0⟩,⟨[4,3],rv (DN 5 he (Bi ((hd.length:Int)-1)) 0),1⟩,⟨[5,3],rv (DN 5 he (Bi ((hd.length:Int)-1)) 4),1⟩,⟨[6,3],rB ((Ap hd ((hd.length:Int)-1)).fStarted),1⟩,⟨[7,3],rB ((Ap hd ((hd.length:Int)-1)).fStarted),0⟩,⟨[8],rv undef,0⟩,⟨[9,8],rv undef,0⟩,⟨[8],rv undef,0⟩,⟨[11,8],rv undef,0⟩,⟨[12,8],rv undef,0⟩,⟨[13,8],rv undef,0⟩,⟨[10,14,8],rv undef,0⟩,⟨[8,15,3],rB false,0⟩,⟨[3,16],rB false,0⟩] [38,39,40,41,42,43,44,45,46,47,48,49,50,51,52,53,54,55,0,3,5,6,8,10,11,12,13] ?_ ?_
         ·refine oq (Ay C5 Aa Jx Aa Aa) (of (AQ (i:=0) Jy Aa Aa Aa) (oq (Cr Aa Aa) (oq (Aw Aa) (on hh (oq (Aw Aa) (on hh (of (C0 (k:=3) Aa (B6 hj) Aa Aa) (on hh (of (DZ (k:=3) Ic Aa He Aa (B6 hj) Aa Aa Aa) (on hh (of (EP (enc:=AB) (ys:=hd) (i:=3) (j:=(hd.length:Int)-1) R6 Aa Aa hj Aa) (on hh (oq (Aw Aa) (oz hk (oz hk (oz hk (oz hk (oz hk (oz hk (oz hk (on hh (oq (AF (b:=(Ap hd ((hd.length:Int)-1)).fStarted) Aa hk Aa) (oq (AF Aa hh Aa) ?_)))))))))))))))))))))));exact C9
         exact CF (And.intro hh hk)
      refine cz ga Aa (λgb gc=>?_) (λgb gd=>?_)
      ·refine Aq (Gr (H1:=[.blk hf (Ab (Ap v hb)) 83,.blk b2 (AV ha) 124,.blk b1 (AV ha) 124,.row he 152 5 (Ax AB hd)]) [3,5] [⟨[],B9 (AV ha),1⟩,⟨[],As 0,0⟩,⟨[0],rv undef,2⟩,⟨[],rB false,0⟩] (rle [(3,_),(2,[.blk hf (Ab (Ap v hb)) 83,.blk b2 (AV ha) 124,.blk b1 (AV ha) 124,.row he 152 5 (Ax AB hd)])]) [2,4,3] ?_ ?_)
       ·refine of (AZ (i:=1) J0 E4 Aa Aa Aa Aa) (oq (A7 Aa) (I6 Aa (OE (DS (i:=2) E4 Aa Aa Aa (Cj.c Aa) Aa Aa (cs':=[As ha.fDepth,As ha.fBytes,rB ha.fOutside,rB ha.fLong]) Aa (H':=[.blk hf (Ab (Ap v hb)) 83,.blk b2 (AV ha) 124,.blk b1 (AV ha) 124,.row he 152 5 (Ax AB hd)]) Aa)) ?_));refine oq (A7 Aa) ?_;exact C9
       refine AT (A0 (Af (Af (AD (Af (Af (Bg ?_)))))));have ge:=BG gc hx hy;refine AD (Af (IQ ?_));obtain rfl:=A1 ge;exact Az (Um TJ (AI Aa) (Hm (i:=2) J0 E4 Aa Aa Aa) (AI Aa)) (sS (sS (sS (sS sN)))) ⟨Aa,Aa⟩
      ·refine A3 (AT (Al (wm Aa (wm Aa (wm Aa (vF C5 Aa Cs (vL 0 C7 Aa (wv (r:=rv (DN 5 he (Bi ((hd.length:Int)-1)) 0)) (C0 (k:=3) Aa (B6 hj) Aa Aa) (wv (r:=rv (DN 5 he (Bi ((hd.length:Int)-1)) 3)) (DZ (k:=3) Ic Aa Cs Aa (B6 hj) Aa Aa Aa) (HA (enc:=AB) (ys:=hd) (y':=(AE.mk ((Ap hd ((hd.length:Int)-1)).fPairs) ((Ap hd ((hd.length:Int)-1)).fLeft) ((Ap hd ((hd.length:Int)-1)).fKey) ((Ap v hb).fStr) ((Ap hd ((hd.length:Int)-1)).fStarted))) (i:=3) (j:=(hd.length:Int)-1) Cs Aa Aa (Bw Aa) Aa hj Aa Aa (H':=[.blk hf (Ab (Ap v hb)) 83,.blk b2 (AV ha) 124,.blk b1 [As 0,As 0,rB false,rB false] 124,.row he 152 5 (Ax AB (List.set hd (Bi ((hd.length:Int)-1)) (AE.mk ((Ap hd ((hd.length:Int)-1)).fPairs) ((Ap hd ((hd.length:Int)-1)).fLeft) ((Ap hd ((hd.length:Int)-1)).fKey) ((Ap v hb).fStr) ((Ap hd ((hd.length:Int)-1)).fStarted))))]) Aa (bd gd λhr hu gf=>?_)))))))))));rw[← hu];refine wv (r:=rv (DN 5 he (Bi ((hd.length:Int)-1)) 0)) (C0 (k:=3) Aa (B6 (CW hj hu)) Aa Aa) (wv (r:=rv (DN 5 he (Bi ((hd.length:Int)-1)) 4)) (DZ (k:=3) Ic Aa He Aa (B6 (CW hj hu)) Aa Aa Aa) (HA (enc:=AB) (ys:=hr) (y':=(AE.mk ((Ap hr ((hd.length:Int)-1)).fPairs) ((Ap hr ((hd.length:Int)-1)).fLeft) ((Ap hr ((hd.length:Int)-1)).fKey) ((Ap hr ((hd.length:Int)-1)).fLast) true)) (i:=3) (j:=(hd.length:Int)-1) He Aa Aa (Bw Aa) Aa (CW hj hu) Aa Aa (H':=[.blk hf (Ab (Ap v hb)) 83,.blk b2 (AV ha) 124,.blk b1 [As 0,As 0,rB false,rB false] 124,.row he 152 5 (Ax AB (List.set hr (Bi ((hd.length:Int)-1)) (AE.mk ((Ap hr ((hd.length:Int)-1)).fPairs) ((Ap hr ((hd.length:Int)-1)).fLeft) ((Ap hr ((hd.length:Int)-1)).fKey) ((Ap hr ((hd.length:Int)-1)).fLast) true)))]) Aa (bd gf λhs h1 gg=>?_)));rw[← h1];refine wv (r:=rv (DN 5 he (Bi ((hd.length:Int)-1)) 0)) (C0 (k:=3) Aa (B6 (CW (CW hj hu) h1)) Aa Aa) (wv (r:=rv (DN 5 he (Bi ((hd.length:Int)-1)) 2)) (DZ (k:=3) Ic Aa He Aa (B6 (CW (CW hj hu) h1)) Aa Aa Aa) (HA (enc:=AB) (ys:=hs) (y':=(AE.mk ((Ap hs ((hd.length:Int)-1)).fPairs) ((Ap hs ((hd.length:Int)-1)).fLeft) false ((Ap hs ((hd.length:Int)-1)).fLast) ((Ap hs ((hd.length:Int)-1)).fStarted))) (i:=3) (j:=(hd.length:Int)-1) He Aa Aa (Bw Aa) Aa (CW (CW hj hu) h1) Aa Aa (H':=[.blk hf (Ab (Ap v hb)) 83,.blk b2 (AV ha) 124,.blk b1 [As 0,As 0,rB false,rB false] 124,.row he 152 5 (Ax AB (List.set hs (Bi ((hd.length:Int)-1)) (AE.mk ((Ap hs ((hd.length:Int)-1)).fPairs) ((Ap hs ((hd.length:Int)-1)).fLeft) false ((Ap hs ((hd.length:Int)-1)).fLast) ((Ap hs ((hd.length:Int)-1)).fStarted))))]) Aa (bd gg λht gh gi=>?_)));rw[← gh];refine Au (Aq (ob gi λhl gj gl=>ck gl λgm gp=>Gr (H1:=[.blk hf (Ab (Ap v hb)) 83,.blk b2 [As ha.fDepth,As (IntKind.wrap .i64 (ha.fBytes+(hl+1))),rB ha.fOutside,rB ha.fLong] 124,.blk b1 [As 0,As 0,rB false,rB false] 124,.row he 152 5 (Ax AB ht)]) [0,3,5,6,8,11,12,13,38,39,40,41] [⟨[],rP b2 1,0⟩,⟨[0],As ha.fBytes,1⟩,⟨[],rP hf 2,0⟩,⟨[2],rS ((Ap v hb).fStr),1⟩,⟨[3],As hl,0⟩,⟨[4],As (hl+1),0⟩,⟨[1,5],As (IntKind.wrap .i64 (ha.fBytes+(hl+1))),0⟩,⟨[],rP b2 1,0⟩,⟨[7,6],rv undef,2⟩] (rle [(9,_),(1,[.blk hf (Ab (Ap v hb)) 83,.blk b2 [As ha.fDepth,As (IntKind.wrap .i64 (ha.fBytes+(hl+1))),rB ha.fOutside,rB ha.fLong] 124,.blk b1 [As 0,As 0,rB false,rB false] 124,.row he 152 5 (Ax AB ht)])]) [68,69,70,71,72,73,74,75,0,3,5,6,8,11,12,13,38,39,40,41] ?_ ?_))
       ·refine oq (Ay Ed Aa C2 Aa Aa) (of (AQ (i:=1) CQ Aa Aa Aa) (oq (Ay C5 Aa Cs Aa Aa) (of (AQ (i:=0) C7 Aa Aa Aa) (J3 Aa (λH=>Et Tryz.call115 (NF ((Ap v hb).fStr) hl gj) Aa) ?_))));refine oq (BJ Aa Aa gm) (oq (QS Aa Aa) (oq (Ay Ed Aa C2 Aa Aa) (I6 Aa (OE (Jw (i:=1) C2 Aa Aa (Bw Aa) Aa Aa (cs':=[As ha.fDepth,As (IntKind.wrap .i64 (ha.fBytes+(hl+1))),rB ha.fOutside,rB ha.fLong]) Aa (H':=[.blk hf (Ab (Ap v hb)) 83,.blk b2 [As ha.fDepth,As (IntKind.wrap .i64 (ha.fBytes+(hl+1))),rB ha.fOutside,rB ha.fLong] 124,.blk b1 [As 0,As 0,rB false,rB false] 124,.row he 152 5 (Ax AB ht)]) Aa)) ?_)));exact C9
       refine AT (AR [(0,AU 4 (Ax Ab v)),(3,rP b1 0),(5,rP b2 0),(6,rv he),(11,AU 4 (Ax Ab v)),(12,As (v.length:Int)),(13,As hb),(38,rP hf 0),(39,As ((Ap v hb).fKind)),(40,rB (!decide (((Ap v hb).fKind)=4))),(41,rB (!decide (((Ap v hb).fKind)=4))),(68,rP b2 1),(69,As ha.fBytes),(70,rP hf 2),(71,rS ((Ap v hb).fStr)),(72,As hl),(73,As (hl+1)),(74,As (IntKind.wrap .i64 (ha.fBytes+(hl+1)))),(75,rP b2 1)] [.blk hf (Ab (Ap v hb)) 83,.blk b2 [As ha.fDepth,As (IntKind.wrap .i64 (ha.fBytes+(hl+1))),rB ha.fOutside,rB (ha.fLong||(decide (200<(((Ap v hb).fStr).length:Int))))] 124,.blk b1 [As 0,As 0,rB false,rB false] 124,.row he 152 5 (Ax AB ht)] ?_ ?_)
       ·refine At (vF Ed Aa He (vL 1 R6 Aa (wm Aa (AX (ha.fLong) (λho=>?_) (λho=>?_)))))
        ·refine wf ho (wf ho (wf ho (wf ho (wv (r:=rB true) (AA rfl ho rfl) (vF Ed rfl He (Bv (i:=1) He rfl rfl (Bw rfl) rfl rfl (cs':=[As ha.fDepth,As (IntKind.wrap .i64 (ha.fBytes+(hl+1))),rB ha.fOutside,rB true]) rfl (H':=[.blk hf (Ab (Ap v hb)) 83,.blk b2 [As ha.fDepth,As (IntKind.wrap .i64 (ha.fBytes+(hl+1))),rB ha.fOutside,rB true] 124,.blk b1 [As 0,As 0,rB false,rB false] 124,.row he 152 5 (Ax AB ht)]) rfl (Av (H5 (H':=[.blk hf (Ab (Ap v hb)) 83,.blk b2 [As ha.fDepth,As (IntKind.wrap .i64 (ha.fBytes+(hl+1))),rB ha.fOutside,rB (ha.fLong||(decide (200<(((Ap v hb).fStr).length:Int))))] 124,.blk b1 [As 0,As 0,rB false,rB false] 124,.row he 152 5 (Ax AB ht)]) (by simp only[ho,Z7,ZA,ZI,Z6,ZF,ZB,ZH,ZG,Z2,ZD,Z1,Zx]) ?_))))))));exact wt
        ·refine wo ho (vF C5 rfl Cs (wo ho (vL 0 C7 rfl (wo ho (wv (BA C4 rfl) (wo ho (wv (D4 rfl rfl) (Hc rfl ho rfl (vF Ed rfl He (Bv (i:=1) He rfl rfl (Bw rfl) rfl rfl (cs':=[As ha.fDepth,As (IntKind.wrap .i64 (ha.fBytes+(hl+1))),rB ha.fOutside,rB (decide (200<(((Ap v hb).fStr).length:Int)))]) rfl (H':=[.blk hf (Ab (Ap v hb)) 83,.blk b2 [As ha.fDepth,As (IntKind.wrap .i64 (ha.fBytes+(hl+1))),rB ha.fOutside,rB (decide (200<(((Ap v hb).fStr).length:Int)))] 124,.blk b1 [As 0,As 0,rB false,rB false] 124,.row he 152 5 (Ax AB ht)]) rfl (Av (H5 (H':=[.blk hf (Ab (Ap v hb)) 83,.blk b2 [As ha.fDepth,As (IntKind.wrap .i64 (ha.fBytes+(hl+1))),rB ha.fOutside,rB (ha.fLong||(decide (200<(((Ap v hb).fStr).length:Int))))] 124,.blk b1 [As 0,As 0,rB false,rB false] 124,.row he 152 5 (Ax AB ht)]) (by simp only[ho,Z7,ZA,ZI,Z6,ZF,ZB,ZH,ZG,Z2,ZD,Z1,Zx]) ?_))))))))))));exact wt
       exact BB (A9 (Bf (A5 (AK ((ht,(AM.mk ha.fDepth (IntKind.wrap .i64 (ha.fBytes+(hl+1))) ha.fOutside (ha.fLong||(decide (200<(((Ap v hb).fStr).length:Int)))))),he) gp (AL.c Aa (AL.c Aa (AL.c5 Aa Aa Aa Aa Aa AL.nil))) (sS (sC (sC (sC sN))))))))
     ·refine A3 (AT (Al (vF Ed Aa C2 (vL 1 CQ Aa (wm Aa (wv (BP (ys:=hd) (enc:=AB) (i:=3) Id Aa Aa) (ck hX λgq gr=>wv (BJ Aa Aa gq) (wv (Xc T9 Aa Aa) (vF Ed Aa C2 (Bv (i:=1) C2 Aa Aa (Bw Aa) Aa Aa (cs':=[As (max ha.fDepth ((hd.length:Int)+1)),As ha.fBytes,rB ha.fOutside,rB ha.fLong]) Aa (H':=[.blk hf (Ab (Ap v hb)) 83,.blk b2 [As (max ha.fDepth ((hd.length:Int)+1)),As ha.fBytes,rB ha.fOutside,rB ha.fLong] 124,.blk b1 [As 0,As 0,rB false,rB false] 124,.row he 152 5 (Ax AB hd)]) Aa (Au (Aq (ob gr λhg gs gt=>Gr (H1:=[.blk hf (Ab (Ap v hb)) 83,.blk b2 [As (max ha.fDepth ((hd.length:Int)+1)),As (IntKind.wrap .i64 (ha.fBytes+hg)),rB ha.fOutside,rB ha.fLong] 124,.blk b1 [As 0,As 0,rB false,rB false] 124,.row he 152 5 (Ax AB hd)]) [0,3,5,6,7,8,11,12,13] [⟨[],rP b2 1,0⟩,⟨[0],As ha.fBytes,1⟩,⟨[],B9 (Ab (Ap v hb)),1⟩,⟨[2],As hg,0⟩,⟨[1,3],As (IntKind.wrap .i64 (ha.fBytes+hg)),0⟩,⟨[],rP b2 1,0⟩,⟨[5,4],rv undef,2⟩] (rle [(7,_),(1,[.blk hf (Ab (Ap v hb)) 83,.blk b2 [As (max ha.fDepth ((hd.length:Int)+1)),As (IntKind.wrap .i64 (ha.fBytes+hg)),rB ha.fOutside,rB ha.fLong] 124,.blk b1 [As 0,As 0,rB false,rB false] 124,.row he 152 5 (Ax AB hd)])]) [92,93,94,95,96,97,0,3,5,6,7,8,11,12,13] ?_ ?_)))))))))))))
      ·refine oq (Ay Ed Aa C2 Aa Aa) (of (AQ (i:=1) CQ Aa Aa Aa) (of (AZ (i:=0) S8 DL Aa Aa Aa Aa) (J3 Aa (λH=>Et Tryz.call116 (VY (Ap v hb) hg gs) Aa) ?_)));refine oq (QS Aa Aa) (oq (Ay Ed Aa C2 Aa Aa) (I6 Aa (OE (Jw (i:=1) C2 Aa Aa (Bw Aa) Aa Aa (cs':=[As (max ha.fDepth ((hd.length:Int)+1)),As (IntKind.wrap .i64 (ha.fBytes+hg)),rB ha.fOutside,rB ha.fLong]) Aa (H':=[.blk hf (Ab (Ap v hb)) 83,.blk b2 [As (max ha.fDepth ((hd.length:Int)+1)),As (IntKind.wrap .i64 (ha.fBytes+hg)),rB ha.fOutside,rB ha.fLong] 124,.blk b1 [As 0,As 0,rB false,rB false] 124,.row he 152 5 (Ax AB hd)]) Aa)) ?_));exact C9
      refine AT (ck gt λgu gv=>AR [(0,AU 4 (Ax Ab v)),(3,rP b1 0),(5,rP b2 0),(6,rv he),(7,As hb),(8,rP hf 0),(11,AU 4 (Ax Ab v)),(12,As (v.length:Int)),(13,As hb),(92,rP b2 1),(93,As ha.fBytes),(94,B9 (Ab (Ap v hb))),(95,As hg),(96,As (IntKind.wrap .i64 (ha.fBytes+hg))),(97,rP b2 1)] [.blk hf (Ab (Ap v hb)) 83,.blk b2 [As (max ha.fDepth ((hd.length:Int)+1)),As (IntKind.wrap .i64 (ha.fBytes+hg)),rB (ha.fOutside||((decide (((Ap v hb).fKind)=3))&&(!(ov (BI ((Ap v hb).fInt)))))),rB ha.fLong] 124,.blk b1 [As 0,As 0,rB false,rB false] 124,.row he 152 5 (Ax AB hd)] ?_ ?_)
      ·refine At (vF Ed Aa He (vL 1 R6 Aa (wm Aa (AX (ha.fOutside) (λhm=>?_) (λhm=>?_)))))
       ·refine wf hm (wf hm (wf hm (wf hm (wu (wu (wu (wu (wf hm (wv (r:=rB true) (AA rfl hm rfl) (vF Ed rfl He (Bv (i:=1) He rfl rfl (Bw rfl) rfl rfl (cs':=[As (max ha.fDepth ((hd.length:Int)+1)),As (IntKind.wrap .i64 (ha.fBytes+hg)),rB true,rB ha.fLong]) rfl (H':=[.blk hf (Ab (Ap v hb)) 83,.blk b2 [As (max ha.fDepth ((hd.length:Int)+1)),As (IntKind.wrap .i64 (ha.fBytes+hg)),rB true,rB ha.fLong] 124,.blk b1 [As 0,As 0,rB false,rB false] 124,.row he 152 5 (Ax AB hd)]) rfl (Av (H5 (H':=[.blk hf (Ab (Ap v hb)) 83,.blk b2 [As (max ha.fDepth ((hd.length:Int)+1)),As (IntKind.wrap .i64 (ha.fBytes+hg)),rB (ha.fOutside||((decide (((Ap v hb).fKind)=3))&&(!(ov (BI ((Ap v hb).fInt)))))),rB ha.fLong] 124,.blk b1 [As 0,As 0,rB false,rB false] 124,.row he 152 5 (Ax AB hd)]) (by simp only[hm,Z7,ZA,ZI,Z6,ZF,ZB,ZH,ZG,Z2,ZD,Z1,Zx]) ?_)))))))))))));exact wt
       ·refine wo hm (vF C5 Aa Jx (wo hm (vL 0 Jy Aa (wo hm (wv (BN Aa Aa) (wo hm (wm Aa (AX (decide (((Ap v hb).fKind)=3)) (λhn=>?_) (λhn=>?_)))))))))
        ·refine wo hn (vF C5 rfl C2 (wo hn (vL 0 CQ rfl (wo hn (Di Tryz.call117 (UM ((Ap v hb).fInt) (ov (BI ((Ap v hb).fInt))) (Nz (Em (Hw gu hm) hn))) rfl (wo hn (wv (B7 rfl) (wo hm (JF rfl hn rfl (Hc rfl hm rfl (vF Ed rfl He (Bv (i:=1) He rfl rfl (Bw rfl) rfl rfl (cs':=[As (max ha.fDepth ((hd.length:Int)+1)),As (IntKind.wrap .i64 (ha.fBytes+hg)),rB (!(ov (BI ((Ap v hb).fInt)))),rB ha.fLong]) rfl (H':=[.blk hf (Ab (Ap v hb)) 83,.blk b2 [As (max ha.fDepth ((hd.length:Int)+1)),As (IntKind.wrap .i64 (ha.fBytes+hg)),rB (!(ov (BI ((Ap v hb).fInt)))),rB ha.fLong] 124,.blk b1 [As 0,As 0,rB false,rB false] 124,.row he 152 5 (Ax AB hd)]) rfl (Av (H5 (H':=[.blk hf (Ab (Ap v hb)) 83,.blk b2 [As (max ha.fDepth ((hd.length:Int)+1)),As (IntKind.wrap .i64 (ha.fBytes+hg)),rB (ha.fOutside||((decide (((Ap v hb).fKind)=3))&&(!(ov (BI ((Ap v hb).fInt)))))),rB ha.fLong] 124,.blk b1 [As 0,As 0,rB false,rB false] 124,.row he 152 5 (Ax AB hd)]) (by simp only[hm,hn,Z7,ZA,ZI,Z6,ZF,ZB,ZH,ZG,Z2,ZD,Z1,Zx]) ?_))))))))))))));exact wt
        ·refine wf hn (wf hn (wf hn (wf hn (wo hm (wv (r:=rB false) (AF rfl hn rfl) (Hc rfl hm rfl (vF Ed rfl He (Bv (i:=1) He rfl rfl (Bw rfl) rfl rfl (cs':=[As (max ha.fDepth ((hd.length:Int)+1)),As (IntKind.wrap .i64 (ha.fBytes+hg)),rB false,rB ha.fLong]) rfl (H':=[.blk hf (Ab (Ap v hb)) 83,.blk b2 [As (max ha.fDepth ((hd.length:Int)+1)),As (IntKind.wrap .i64 (ha.fBytes+hg)),rB false,rB ha.fLong] 124,.blk b1 [As 0,As 0,rB false,rB false] 124,.row he 152 5 (Ax AB hd)]) rfl (Av (H5 (H':=[.blk hf (Ab (Ap v hb)) 83,.blk b2 [As (max ha.fDepth ((hd.length:Int)+1)),As (IntKind.wrap .i64 (ha.fBytes+hg)),rB (ha.fOutside||((decide (((Ap v hb).fKind)=3))&&(!(ov (BI ((Ap v hb).fInt)))))),rB ha.fLong] 124,.blk b1 [As 0,As 0,rB false,rB false] 124,.row he 152 5 (Ax AB hd)]) (by simp only[hm,hn,Z7,ZA,ZI,Z6,ZF,ZB,ZH,ZG,Z2,ZD,Z1,Zx]) ?_))))))))));exact wt
      refine AR [(0,AU 4 (Ax Ab v)),(3,rP b1 0),(5,rP b2 0),(6,rv he),(7,As hb),(8,rP hf 0),(11,AU 4 (Ax Ab v)),(12,As (v.length:Int)),(13,As hb),(92,rP b2 1),(93,As ha.fBytes),(94,B9 (Ab (Ap v hb))),(95,As hg),(96,As (IntKind.wrap .i64 (ha.fBytes+hg))),(97,rP b2 1)] [.blk hf (Ab (Ap v hb)) 83,.blk b2 [As (max ha.fDepth ((hd.length:Int)+1)),As (IntKind.wrap .i64 (ha.fBytes+hg)),rB (ha.fOutside||((decide (((Ap v hb).fKind)=3))&&(!(ov (BI ((Ap v hb).fInt)))))),rB (ha.fLong||(decide (200<(((Ap v hb).fStr).length:Int))))] 124,.blk b1 [As 0,As 0,rB false,rB false] 124,.row he 152 5 (Ax AB hd)] ?_ ?_
      ·refine At (vF Ed Aa He (vL 1 R6 Aa (wm Aa (AX (ha.fLong) (λhp=>?_) (λhp=>?_)))))
       ·refine wf hp (wf hp (wf hp (wf hp (wv (r:=rB true) (AA rfl hp rfl) (vF Ed rfl He (Bv (i:=1) He rfl rfl (Bw rfl) rfl rfl (cs':=[As (max ha.fDepth ((hd.length:Int)+1)),As (IntKind.wrap .i64 (ha.fBytes+hg)),rB (ha.fOutside||((decide (((Ap v hb).fKind)=3))&&(!(ov (BI ((Ap v hb).fInt)))))),rB true]) rfl (H':=[.blk hf (Ab (Ap v hb)) 83,.blk b2 [As (max ha.fDepth ((hd.length:Int)+1)),As (IntKind.wrap .i64 (ha.fBytes+hg)),rB (ha.fOutside||((decide (((Ap v hb).fKind)=3))&&(!(ov (BI ((Ap v hb).fInt)))))),rB true] 124,.blk b1 [As 0,As 0,rB false,rB false] 124,.row he 152 5 (Ax AB hd)]) rfl (Av (H5 (H':=[.blk hf (Ab (Ap v hb)) 83,.blk b2 [As (max ha.fDepth ((hd.length:Int)+1)),As (IntKind.wrap .i64 (ha.fBytes+hg)),rB (ha.fOutside||((decide (((Ap v hb).fKind)=3))&&(!(ov (BI ((Ap v hb).fInt)))))),rB (ha.fLong||(decide (200<(((Ap v hb).fStr).length:Int))))] 124,.blk b1 [As 0,As 0,rB false,rB false] 124,.row he 152 5 (Ax AB hd)]) (by simp only[hp,Z7,ZA,ZI,Z6,ZF,ZB,ZH,ZG,Z2,ZD,Z1,Zx]) ?_))))))));exact wt
       ·refine wo hp (vF C5 rfl Cs (wo hp (vL 0 C7 rfl (wo hp (wv (BA C4 rfl) (wo hp (wv (D4 rfl rfl) (Hc rfl hp rfl (vF Ed rfl He (Bv (i:=1) He rfl rfl (Bw rfl) rfl rfl (cs':=[As (max ha.fDepth ((hd.length:Int)+1)),As (IntKind.wrap .i64 (ha.fBytes+hg)),rB (ha.fOutside||((decide (((Ap v hb).fKind)=3))&&(!(ov (BI ((Ap v hb).fInt)))))),rB (decide (200<(((Ap v hb).fStr).length:Int)))]) rfl (H':=[.blk hf (Ab (Ap v hb)) 83,.blk b2 [As (max ha.fDepth ((hd.length:Int)+1)),As (IntKind.wrap .i64 (ha.fBytes+hg)),rB (ha.fOutside||((decide (((Ap v hb).fKind)=3))&&(!(ov (BI ((Ap v hb).fInt)))))),rB (decide (200<(((Ap v hb).fStr).length:Int)))] 124,.blk b1 [As 0,As 0,rB false,rB false] 124,.row he 152 5 (Ax AB hd)]) rfl (Av (H5 (H':=[.blk hf (Ab (Ap v hb)) 83,.blk b2 [As (max ha.fDepth ((hd.length:Int)+1)),As (IntKind.wrap .i64 (ha.fBytes+hg)),rB (ha.fOutside||((decide (((Ap v hb).fKind)=3))&&(!(ov (BI ((Ap v hb).fInt)))))),rB (ha.fLong||(decide (200<(((Ap v hb).fStr).length:Int))))] 124,.blk b1 [As 0,As 0,rB false,rB false] 124,.row he 152 5 (Ax AB hd)]) (by simp only[hp,Z7,ZA,ZI,Z6,ZF,ZB,ZH,ZG,Z2,ZD,Z1,Zx]) ?_))))))))))));exact wt
      refine Aq (Al (vF C5 Aa C2 (vL 0 CQ Aa (wv (D4 Aa Aa) (Au (cz gv Aa (λgw gx=>?_) (λgw gy=>?_)))))))
      ·refine Aq (Al (vF C5 Aa C2 (vL 0 CQ Aa (wm Aa (wv (Bt (ys:=v) (enc:=Ab) CX Aa) (wv (D4 Aa Aa) (Au (cz gx Aa (λgz g0=>?_) (λgz g1=>?_)))))))))
       ·refine Aq (Gr (H1:=[.blk hf (Ab (Ap v hb)) 83,.blk b2 [As (max ha.fDepth ((hd.length:Int)+1)),As (IntKind.wrap .i64 (ha.fBytes+hg)),rB (ha.fOutside||((decide (((Ap v hb).fKind)=3))&&(!(ov (BI ((Ap v hb).fInt)))))),rB (ha.fLong||(decide (200<(((Ap v hb).fStr).length:Int))))] 124,.blk b1 [As (max ha.fDepth ((hd.length:Int)+1)),As (IntKind.wrap .i64 (ha.fBytes+hg)),rB (ha.fOutside||((decide (((Ap v hb).fKind)=3))&&(!(ov (BI ((Ap v hb).fInt)))))),rB (ha.fLong||(decide (200<(((Ap v hb).fStr).length:Int))))] 124,.row he 152 5 (Ax AB hd)]) [3,5] [⟨[],B9 [As (max ha.fDepth ((hd.length:Int)+1)),As (IntKind.wrap .i64 (ha.fBytes+hg)),rB (ha.fOutside||((decide (((Ap v hb).fKind)=3))&&(!(ov (BI ((Ap v hb).fInt)))))),rB (ha.fLong||(decide (200<(((Ap v hb).fStr).length:Int))))],1⟩,⟨[],As 0,0⟩,⟨[0],rv undef,2⟩,⟨[],rB false,0⟩] (rle [(3,_),(2,[.blk hf (Ab (Ap v hb)) 83,.blk b2 [As (max ha.fDepth ((hd.length:Int)+1)),As (IntKind.wrap .i64 (ha.fBytes+hg)),rB (ha.fOutside||((decide (((Ap v hb).fKind)=3))&&(!(ov (BI ((Ap v hb).fInt)))))),rB (ha.fLong||(decide (200<(((Ap v hb).fStr).length:Int))))] 124,.blk b1 [As (max ha.fDepth ((hd.length:Int)+1)),As (IntKind.wrap .i64 (ha.fBytes+hg)),rB (ha.fOutside||((decide (((Ap v hb).fKind)=3))&&(!(ov (BI ((Ap v hb).fInt)))))),rB (ha.fLong||(decide (200<(((Ap v hb).fStr).length:Int))))] 124,.row he 152 5 (Ax AB hd)])]) [2,4,3] ?_ ?_)
        ·refine of (AZ (i:=1) J0 E4 Aa Aa Aa Aa) (oq (A7 Aa) (I6 Aa (OE (DS (i:=2) E4 Aa Aa Aa (Cj.c Aa) Aa Aa (cs':=[As (max ha.fDepth ((hd.length:Int)+1)),As (IntKind.wrap .i64 (ha.fBytes+hg)),rB (ha.fOutside||((decide (((Ap v hb).fKind)=3))&&(!(ov (BI ((Ap v hb).fInt)))))),rB (ha.fLong||(decide (200<(((Ap v hb).fStr).length:Int))))]) Aa (H':=[.blk hf (Ab (Ap v hb)) 83,.blk b2 [As (max ha.fDepth ((hd.length:Int)+1)),As (IntKind.wrap .i64 (ha.fBytes+hg)),rB (ha.fOutside||((decide (((Ap v hb).fKind)=3))&&(!(ov (BI ((Ap v hb).fInt)))))),rB (ha.fLong||(decide (200<(((Ap v hb).fStr).length:Int))))] 124,.blk b1 [As (max ha.fDepth ((hd.length:Int)+1)),As (IntKind.wrap .i64 (ha.fBytes+hg)),rB (ha.fOutside||((decide (((Ap v hb).fKind)=3))&&(!(ov (BI ((Ap v hb).fInt)))))),rB (ha.fLong||(decide (200<(((Ap v hb).fStr).length:Int))))] 124,.row he 152 5 (Ax AB hd)]) Aa)) ?_));refine oq (A7 Aa) ?_;exact C9
        refine AT (A0 (Af (Af (AD (Af (Af (Bg ?_)))))));have g2:=BG g0 hx hy;refine AD (Af (IQ ?_));obtain rfl:=A1 g2;exact Az (Um TJ (AI Aa) (Hm (i:=2) J0 E4 Aa Aa Aa) (AI Aa)) (sS (sS (sS (sS sN)))) ⟨Aa,Aa⟩
       ·refine A3 (AT (Al (wm Aa (vF C5 Aa Jx (vL 0 Jy Aa (wv (BN Aa Aa) (vF C5 Aa C2 (vL 0 CQ Aa (vF C5 Aa Jx (vL 0 Jy Aa (wv (BN Aa Aa) (wv (r:=B9 [rB (decide (((Ap v hb).fKind)=6)),As ((Ap v hb).fN),rB (decide (((Ap v hb).fKind)=6)),rS ([]:An),rB false]) (KW Aa Aa Aa Aa Aa Aa) (Ba (ys:=([(AE.mk (decide (((Ap v hb).fKind)=6)) ((Ap v hb).fN) (decide (((Ap v hb).fKind)=6)) ([]:An) false)]:List AE)) (enc:=AB) (css:=[[rB (decide (((Ap v hb).fKind)=6)),As ((Ap v hb).fN),rB (decide (((Ap v hb).fKind)=6)),rS ([]:An),rB false]]) (xs:=[.tmp 139]) Id Px Tryz.zeroValue152 Aa Aa Aa ⟨DH.agg ⟨Up.refl _,Up.refl _,Up.refl _,Up.refl _,Up.refl _,trivial⟩,trivial⟩ Aa Ih Aa Aa Aa (λg3=>?_))))))))))))));refine ck g1 λg4 g5=>Exists.elim W8 λinf hinf=>BQ (xs:=hd) (ys:=([(AE.mk (decide (((Ap v hb).fKind)=6)) ((Ap v hb).fN) (decide (((Ap v hb).fKind)=6)) ([]:An) false)]:List AE)) (enc:=AB) (i:=4) Id hinf.1 hinf.2.1 hinf.2.2.1 hinf.2.2.2 Aa Aa Aa Aa Aa (HY.w (i:=0) Aa Aa) Ih LN g4 Aa (λh9=>?_);exact wa Aa (Au (BB (A9 (Bf (BF (H2:=[.blk b2 [As (max ha.fDepth ((hd.length:Int)+1)),As (IntKind.wrap .i64 (ha.fBytes+hg)),rB (ha.fOutside||((decide (((Ap v hb).fKind)=3))&&(!(ov (BI ((Ap v hb).fInt)))))),rB (ha.fLong||(decide (200<(((Ap v hb).fStr).length:Int))))] 124,.blk b1 [As 0,As 0,rB false,rB false] 124,.row h9 152 5 (Ax AB (hd++([(AE.mk (decide (((Ap v hb).fKind)=6)) ((Ap v hb).fN) (decide (((Ap v hb).fKind)=6)) ([]:An) false)]:List AE))),.row (.slice (some ⟨g3,0,none⟩) 1 1) 152 5 (Ax AB ([(AE.mk (decide (((Ap v hb).fKind)=6)) ((Ap v hb).fN) (decide (((Ap v hb).fKind)=6)) ([]:An) false)]:List AE)),.blk hf (Ab (Ap v hb)) 83]) ((Ak (i:=3) Aa).trans (Zo _ ((Ak (i:=3) Aa).trans (Zo _ (Zp _))))) (A5 (AK ((hd++([(AE.mk (decide (((Ap v hb).fKind)=6)) ((Ap v hb).fN) (decide (((Ap v hb).fKind)=6)) ([]:An) false)]:List AE),(AM.mk (max ha.fDepth ((hd.length:Int)+1)) (IntKind.wrap .i64 (ha.fBytes+hg)) (ha.fOutside||((decide (((Ap v hb).fKind)=3))&&(!(ov (BI ((Ap v hb).fInt)))))) (ha.fLong||(decide (200<(((Ap v hb).fStr).length:Int)))))),h9) g5 (AL.c Aa (AL.c Aa (AL.c5 Aa Aa Aa Aa Aa AL.nil))) (sC (sC (sC (sS (sS sN))))))))))))
      ·refine A3 (AT (Al (wm Aa (ob gy λhw g6 g7=>CV (Hr:=[.blk hf (Ab (Ap v hb)) 83,.blk b2 [As (max ha.fDepth ((hd.length:Int)+1)),As (IntKind.wrap .i64 (ha.fBytes+hg)),rB (ha.fOutside||((decide (((Ap v hb).fKind)=3))&&(!(ov (BI ((Ap v hb).fInt)))))),rB (ha.fLong||(decide (200<(((Ap v hb).fStr).length:Int))))] 124,.blk b1 [As 0,As 0,rB false,rB false] 124]) Tryz.call118 (SF F he hd hw g6) Aa ((Ak (i:=3) Aa).trans (Zo _ (Zp _))) Aa ?_))));rintro _ _ ⟨hz,rfl,rfl⟩;refine wa Aa (Bk (wm Aa (wv (BP (ys:=hw) (enc:=AB) (i:=0) Id Aa Aa) (wv (BN Aa Aa) (Au (cz g7 Aa (λg8 g9=>?_) (λg8 gA=>?_)))))))
       ·refine Aq (ck g9 λgB gC=>Gr (H1:=[.row hz 152 5 (Ax AB hw),.blk hf (Ab (Ap v hb)) 83,.blk b2 [As (max ha.fDepth ((hd.length:Int)+1)),As (IntKind.wrap .i64 (ha.fBytes+hg)),rB (ha.fOutside||((decide (((Ap v hb).fKind)=3))&&(!(ov (BI ((Ap v hb).fInt)))))),rB (ha.fLong||(decide (200<(((Ap v hb).fStr).length:Int))))] 124,.blk b1 [As (max ha.fDepth ((hd.length:Int)+1)),As (IntKind.wrap .i64 (ha.fBytes+hg)),rB (ha.fOutside||((decide (((Ap v hb).fKind)=3))&&(!(ov (BI ((Ap v hb).fInt)))))),rB (ha.fLong||(decide (200<(((Ap v hb).fStr).length:Int))))] 124]) [3,5,7] [⟨[],As hb,0⟩,⟨[0],As (hb+1),0⟩,⟨[],B9 [As (max ha.fDepth ((hd.length:Int)+1)),As (IntKind.wrap .i64 (ha.fBytes+hg)),rB (ha.fOutside||((decide (((Ap v hb).fKind)=3))&&(!(ov (BI ((Ap v hb).fInt)))))),rB (ha.fLong||(decide (200<(((Ap v hb).fStr).length:Int))))],1⟩,⟨[1],As (hb+1),0⟩,⟨[2],rv undef,2⟩,⟨[],rB true,0⟩] (rle [(5,_),(2,[.row hz 152 5 (Ax AB hw),.blk hf (Ab (Ap v hb)) 83,.blk b2 [As (max ha.fDepth ((hd.length:Int)+1)),As (IntKind.wrap .i64 (ha.fBytes+hg)),rB (ha.fOutside||((decide (((Ap v hb).fKind)=3))&&(!(ov (BI ((Ap v hb).fInt)))))),rB (ha.fLong||(decide (200<(((Ap v hb).fStr).length:Int))))] 124,.blk b1 [As (max ha.fDepth ((hd.length:Int)+1)),As (IntKind.wrap .i64 (ha.fBytes+hg)),rB (ha.fOutside||((decide (((Ap v hb).fKind)=3))&&(!(ov (BI ((Ap v hb).fInt)))))),rB (ha.fLong||(decide (200<(((Ap v hb).fStr).length:Int))))] 124])]) [2,4,3] ?_ ?_)
        ·refine oq (Aw Aa) (oq (BJ Aa Aa gB) (of (AZ (i:=2) J0 E4 Aa Aa Aa Aa) (oq (A7 Aa) (I6 Aa (OE (DS (i:=3) E4 Aa Aa Aa (Cj.c Aa) Aa Aa (cs':=[As (max ha.fDepth ((hd.length:Int)+1)),As (IntKind.wrap .i64 (ha.fBytes+hg)),rB (ha.fOutside||((decide (((Ap v hb).fKind)=3))&&(!(ov (BI ((Ap v hb).fInt)))))),rB (ha.fLong||(decide (200<(((Ap v hb).fStr).length:Int))))]) Aa (H':=[.row hz 152 5 (Ax AB hw),.blk hf (Ab (Ap v hb)) 83,.blk b2 [As (max ha.fDepth ((hd.length:Int)+1)),As (IntKind.wrap .i64 (ha.fBytes+hg)),rB (ha.fOutside||((decide (((Ap v hb).fKind)=3))&&(!(ov (BI ((Ap v hb).fInt)))))),rB (ha.fLong||(decide (200<(((Ap v hb).fStr).length:Int))))] 124,.blk b1 [As (max ha.fDepth ((hd.length:Int)+1)),As (IntKind.wrap .i64 (ha.fBytes+hg)),rB (ha.fOutside||((decide (((Ap v hb).fKind)=3))&&(!(ov (BI ((Ap v hb).fInt)))))),rB (ha.fLong||(decide (200<(((Ap v hb).fStr).length:Int))))] 124]) Aa)) ?_))));refine oq (A7 Aa) ?_;exact C9
        refine AT (A0 (AD (Af (Af (Bg ?_)))));have gD:=BG gC hx hy;refine AD (Af (IQ ?_));obtain rfl:=A1 gD;exact Az (Um TJ (AI Aa) (Hm (i:=3) J0 E4 Aa Aa Aa) (AI Aa)) (sS (sS (sS (sS sN)))) ⟨Aa,Aa⟩
       ·exact A3 (AH (BF (H2:=[.blk b2 [As (max ha.fDepth ((hd.length:Int)+1)),As (IntKind.wrap .i64 (ha.fBytes+hg)),rB (ha.fOutside||((decide (((Ap v hb).fKind)=3))&&(!(ov (BI ((Ap v hb).fInt)))))),rB (ha.fLong||(decide (200<(((Ap v hb).fStr).length:Int))))] 124,.blk b1 [As 0,As 0,rB false,rB false] 124,.row hz 152 5 (Ax AB hw),.blk hf (Ab (Ap v hb)) 83]) ((Ak (i:=2) Aa).trans (Zo _ ((Ak (i:=2) Aa).trans (Zo _ (Zp _))))) (A5 (AK ((hw,(AM.mk (max ha.fDepth ((hd.length:Int)+1)) (IntKind.wrap .i64 (ha.fBytes+hg)) (ha.fOutside||((decide (((Ap v hb).fKind)=3))&&(!(ov (BI ((Ap v hb).fInt)))))) (ha.fLong||(decide (200<(((Ap v hb).fStr).length:Int)))))),hz) gA (AL.c Aa (AL.c Aa (AL.c5 Aa Aa Aa Aa Aa AL.nil))) (sC (sC (sC (sS sN))))))))
   ·rintro⟨⟨h6,h7⟩,h8⟩ h2;refine Cf (l':=[(0,AU 4 (Ax Ab v)),(3,rP b1 0),(5,rP b2 0),(6,rv h8),(11,AU 4 (Ax Ab v)),(12,As (v.length:Int)),(13,As hb)]) (H':=[.blk b2 (AV h7) 124,.blk b1 [As 0,As 0,rB false,rB false] 124,.row h8 152 5 (Ax AB h6)]) Aa Aa ?_;replace h2:DP hb h6 h7=some h4:=h2;unfold DP at h2;refine At (ck h2 λgE gF=>wv (BJ Aa Aa gE) (wm Aa (Av ?_)));have gG:=B8 gF hx;exact A5 (AK (hD,(h6,hb+1,h7),h8) ⟨gG,Z3 _⟩ (AL.c Aa (AL.c Aa (AL.c5 Aa Aa Aa Aa Aa AL.nil))) (sC (sC (sC sN))))
  ·refine BB (A9 ?_);have gH:=Cv hH hx hy;exact A9 (Bh (AK (ha,()) gH (AL.c Aa (AL.c Aa AL.nil)) (sC (sC (sS sN)))))
 ·rintro⟨hq,⟨⟩⟩ h3;refine CJ (l':=[(3,rP b1 0),(5,rP b2 0)]) (H':=[.blk b2 (AV hq) 124,.blk b1 [As 0,As 0,rB false,rB false] 124]) Aa Aa ?_;replace h3:Kh hq=some r:=h3;unfold Kh at h3;refine Bf (AT (Aq (Gr (H1:=[.blk b2 (AV hq) 124,.blk b1 (AV hq) 124]) [3,5] [⟨[],B9 (AV hq),1⟩,⟨[],As 0,0⟩,⟨[0],rv undef,2⟩,⟨[],rB false,0⟩] (rle [(3,_),(2,[.blk b2 (AV hq) 124,.blk b1 (AV hq) 124])]) [2,4,3] ?_ ?_)))
  ·refine of (AZ (i:=0) J0 E4 Aa Aa Aa Aa) (oq (A7 Aa) (I6 Aa (OE (DS (i:=1) E4 Aa Aa Aa (Cj.c Aa) Aa Aa (cs':=[As hq.fDepth,As hq.fBytes,rB hq.fOutside,rB hq.fLong]) Aa (H':=[.blk b2 (AV hq) 124,.blk b1 (AV hq) 124]) Aa)) ?_));refine oq (A7 Aa) ?_;exact C9
  refine AT (A0 (IQ ?_));obtain rfl:=A1 h3;exact Az (Um TJ (AI Aa) (Hm (i:=1) J0 E4 Aa Aa Aa) (AI Aa)) (sS (sS sN)) ⟨Aa,Aa⟩
theorem I2 (F:Nat)(v:(List Ac))(r:Int)(h:H9 F v=some r):Fn Tryz.prog GE 55 [AU 4 (Ax Ab v)] [] (λR H=>R=As r∧H=[]):=by
 refine enter (n:=42) Tryz.func55 Aa Tryz.ntmps55 Aa (λw Z=>?_);unfold H9 at h;refine Al (wa Aa (Bk (wm Aa (ob h λr1 e3 h2=>Di Tryz.call89 (O0 F v r1 e3) Aa (wm Aa (wv (A4 Aa Aa) (wv (A4 Aa Aa) (wv (A4 Aa Aa) (BR (cs:=[As 0,As 0,rB false,rB false]) Pu Aa Aa (λb4=>?_))))))))));refine wa Aa (Bj (i:=0) E4 Aa Aa Aa (Cj.c Aa) Aa Aa (cs':=[As r1.2.1.fDepth,As r1.2.1.fBytes,rB r1.2.1.fOutside,rB r1.2.1.fLong]) Aa (H':=[.blk b4 (AV r1.2.1) 124]) Aa (wa Aa (Au (Aq (AO (AR [(0,AU 4 (Ax Ab v)),(4,rP b4 0),(12,rB ((!r1.2.2)||(!decide (r1.1=(v.length:Int)))))] [.blk b4 (AV r1.2.1) 124] ?_ ?_))))))
 ·refine At (wm Aa (wv (B7 Aa) (wm Aa (AX (!r1.2.2) (λc5=>?_) (λc5=>?_)))))
  ·refine wf c5 (wf c5 (wf c5 (wf c5 (wv (r:=rB true) (AA Aa c5 Aa) (wa Aa (Av ?_))))));exact CF c5
  ·refine wo c5 (wm Aa (wo c5 (wm Aa (wo c5 (wv (Bt (ys:=v) (enc:=Ab) CX Aa) (wo c5 (wv (Cr Aa Aa) (Hc Aa c5 Aa (wa Aa (Av ?_))))))))));exact CF c5
 refine cz h2 Aa (λc6 h7=>?_) (λc6 h8=>?_)
 ·refine Al (wa Aa (Au (A0 (AD (Af ?_)))));obtain rfl:=A1 h7;exact Az (BW VK (AI Aa)) (sS sN) ⟨Aa,Aa⟩
 ·refine Al (vF Ed Aa He (vL 0 R6 Aa (wa Aa (Au (cz h8 Aa (λc9 he=>?_) (λc9 hf=>?_))))))
  ·refine Al (wa Aa (Au (A0 (AD (Af ?_)))));obtain rfl:=A1 he;exact Az (BW VK (AI Aa)) (sS sN) ⟨Aa,Aa⟩
  ·refine AR [(24,rB (r1.2.1.fLong||((decide (200<(v.length:Int)))||((decide (8<r1.2.1.fDepth))||(decide (4000<r1.2.1.fBytes))))))] [] ?_ ?_
   ·refine At (vF Ed Aa He (vL 0 R6 Aa (wm Aa (AX (r1.2.1.fLong) (λha=>?_) (λha=>?_)))))
    ·refine wf ha (wf ha (wf ha (wv (r:=rB true) (AA Aa ha Aa) (wm Aa (wz Aa Aa (wz Aa Aa (wz Aa Aa (wv (r:=rB true) (AA (b:=true) Aa Aa Aa) (wm Aa (wz Aa Aa (wz Aa Aa (wz Aa Aa (wv (r:=rB true) (AA (b:=true) Aa Aa Aa) (wa Aa (Av ?_)))))))))))))));exact CF ha
    ·refine wo ha (wm Aa (wo ha (wv (Bt (ys:=v) (enc:=Ab) CX Aa) (wo ha (wv (D4 Aa Aa) (Hc Aa ha Aa (wm Aa (AX (decide (200<(v.length:Int))) (λhb=>?_) (λhb=>?_)))))))))
     ·refine wf hb (wf hb (wf hb (wv (r:=rB true) (AA Aa hb Aa) (wm Aa (wz Aa Aa (wz Aa Aa (wz Aa Aa (wv (r:=rB true) (AA (b:=true) Aa Aa Aa) (wa Aa (Av ?_))))))))));exact CF (And.intro ha hb)
     ·refine wo hb (vF Ed Aa C2 (wo hb (vL 0 CQ Aa (wo hb (wv (D4 Aa Aa) (Hc Aa hb Aa (wm Aa (AX (decide (8<r1.2.1.fDepth)) (λhd=>?_) (λhd=>?_)))))))))
      ·refine wf hd (wf hd (wf hd (wv (r:=rB true) (AA Aa hd Aa) (wa Aa (Av ?_)))));exact CF (And.intro ha (And.intro hb hd))
      ·refine wo hd (vF Ed Aa C2 (wo hd (vL 0 CQ Aa (wo hd (wv (D4 Aa Aa) (Hc Aa hd Aa (wa Aa (Av ?_))))))));exact CF (And.intro ha (And.intro hb hd))
   refine cz hf Aa (λhg hh=>?_) (λhg hi=>?_)
   ·refine Al (wa Aa (Au (A0 (AD (Af ?_)))));obtain rfl:=A1 hh;exact Az (BW VK (AI Aa)) sN ⟨Aa,Aa⟩
   ·refine A3 (AH (AT (Al (wa Aa (Au (A0 ?_))))));obtain rfl:=A1 hi;exact Az (BW VK (AI Aa)) sN ⟨Aa,Aa⟩
theorem QK (F:Nat)(v:(List Ac))(r:(List Ac)×Int)(h:M7 F v=some r):Fn Tryz.prog GE 126 [AU 4 (Ax Ab v)] [] (λR H=>R=Cn [AU 4 (Ax Ab r.1),As r.2]∧H=[]):=by
 refine enter (n:=11) Tryz.func126 Aa Tryz.ntmps126 Aa (λw Z=>?_);unfold M7 at h;refine Al (wa Aa (wa Aa (Au (Aq (Al (wm Aa (ob h λr1 e3 h2=>Di TN (I2 F v r1 e3) Aa (wa Aa (Bk (wm Aa (wv (Cr Aa Aa) (Au (cz h2 Aa (λc4 h5=>?_) (λc4 h6=>?_))))))))))))))
 ·refine Al (wm Aa (wa Aa (wa Aa (Au (A0 (Af (WK.up (d:=2) (r:=AU 4 (Ax Ab ([]:List Ac))) Aa (Up.le (HZ.nil _)) ?_)))))));obtain rfl:=A1 h5;exact Az (Dq Tryz.results126 (AI Aa) (AI Aa)) sN ⟨Aa,Aa⟩
 ·refine A3 (AT (Al (wm Aa (wa Aa (wa Aa (Au (A0 ?_)))))));obtain rfl:=A1 h6;exact Az (Dq Tryz.results126 (AI Aa) (AI Aa)) sN ⟨Aa,Aa⟩
end Go.Proofs.YtfobhhegpkinaaaGreatDoor.Q
namespace Go.Proofs.YtfobhhegpkinaaaGreatDoor
open Go
set_option linter.unusedVariables false
def Dn (s:An)(ha:Int)(hb:An):Option (Stp (Int×An) (Out (An) (An))):=
 B0 (decide (ha<(s.length:Int))) (Bc (CR ha (s.length:Int))<|B0 (((decide ((Bu s ha)=34))||(decide ((Bu s ha)=92)))) (Bc (Dp 1 (hb.length+1))<|Bc (BS .u8 92)<|JX (hb++[UInt8.ofNat (Int.toNat 92)]) λhd=>Bc (Dp 1 (hd.length+1))<|Bc (BS .u8 (Bu s ha))<|JX (hd++[UInt8.ofNat (Int.toNat (Bu s ha))]) λhe=>Bc (BS .i64 (ha+1))<|some (.next (ha+1,he))) (Bc (Dp 1 (hb.length+1))<|Bc (BS .u8 (Bu s ha))<|JX (hb++[UInt8.ofNat (Int.toNat (Bu s ha))]) λhf=>Bc (BS .i64 (ha+1))<|some (.next (ha+1,hf)))) (some (.out (.go hb)))
def Ef (ha:An):Option (An):=
 Bc (Dp 1 (ha.length+1))<|JX (ha++[UInt8.ofNat (Int.toNat 34)]) λhb=>some hb
def JH (F:Nat)(l:An)(s:An):Option (An):=
 Bc (Dp 1 (l.length+1))<|Bc (BS .u8 34)<|JX (l++[UInt8.ofNat (Int.toNat 34)]) λr6=>Bq (Cz (λσ=>Dn s σ.1 σ.2) F (0,r6)) (Ch λν=>Ef ν)
def IV (F:Nat)(hm:An→(List Ac)→Bool→An→Ac→Option (Bool×Bool×An))(ha:(List Ac)→Bool→An→Ac→Option (Bool×An))(l:An)(v:(List Ac)):Option (An):=
 Bc (CR 0 (v.length:Int))<|B0 (decide (((Ap v 0).fKind)=1)) (Bc (Dp 1 (l.length+([110,117,108,108]:An).length))<|JX (l++([110,117,108,108]:An)) λhe=>some he) (B0 (decide (((Ap v 0).fKind)=2)) (Bc (CR ((Ap v 0).fInt) (([([102,97,108,115,101]:An),([116,114,117,101]:An)]:List An).length:Int))<|Bc (Dp 1 (l.length+(Ap ([([102,97,108,115,101]:An),([116,114,117,101]:An)]:List An) ((Ap v 0).fInt)).length))<|JX (l++(Ap ([([102,97,108,115,101]:An),([116,114,117,101]:An)]:List An) ((Ap v 0).fInt))) λhf=>some hf) (B0 (decide (((Ap v 0).fKind)=3)) (Bc (BS .i64 ((Ap v 0).fInt))<|Bc (Dp 1 (l.length+(Lib.itoa ((Ap v 0).fInt)).length))<|JX (l++(Lib.itoa ((Ap v 0).fInt))) λhg=>some hg) (B0 (decide (((Ap v 0).fKind)=4)) (Bq (JH F l ((Ap v 0).fStr)) λhh=>some hh) (B0 (decide (((Ap v 0).fKind)=6)) (Bc (CR 0 (([123,125]:An).length:Int))<|Bc (Dp 1 (l.length+1))<|Bc (BS .u8 (Bu ([123,125]:An) 0))<|JX (l++[UInt8.ofNat (Int.toNat (Bu ([123,125]:An) 0))]) λhi=>Bq (ha v true hi (Ap v 0)) λhb=>Bc (CR 1 (([123,125]:An).length:Int))<|Bc (Dp 1 (hb.2.length+1))<|Bc (BS .u8 (Bu ([123,125]:An) 1))<|JX (hb.2++[UInt8.ofNat (Int.toNat (Bu ([123,125]:An) 1))]) λhj=>some hj) (Bc (CR 0 (([91,93]:An).length:Int))<|Bc (Dp 1 (l.length+1))<|Bc (BS .u8 (Bu ([91,93]:An) 0))<|JX (l++[UInt8.ofNat (Int.toNat (Bu ([91,93]:An) 0))]) λhk=>Bq (ha v true hk (Ap v 0)) λhd=>Bc (CR 1 (([91,93]:An).length:Int))<|Bc (Dp 1 (hd.2.length+1))<|Bc (BS .u8 (Bu ([91,93]:An) 1))<|JX (hd.2++[UInt8.ofNat (Int.toNat (Bu ([91,93]:An) 1))]) λhl=>some hl)))))
def Kb (F:Nat)(ha:An→(List Ac)→Option (An))(key:An)(x:(List Ac))(first:Bool)(l:An)(c:Ac):Option (Bool×Bool×An):=
 B0 (!first) (Bc (Dp 1 (l.length+1))<|Bc (BS .u8 44)<|JX (l++[UInt8.ofNat (Int.toNat 44)]) λr8=>B0 (decide (c.fKind=6)) (Bq (JH F r8 key) λhb=>Bc (Dp 1 (hb.length+1))<|Bc (BS .u8 58)<|JX (hb++[UInt8.ofNat (Int.toNat 58)]) λhe=>Bq (ha he x) λhf=>some (true,false,hf)) (Bq (ha r8 x) λhg=>some (true,false,hg))) (B0 (decide (c.fKind=6)) (Bq (JH F l key) λhd=>Bc (Dp 1 (hd.length+1))<|Bc (BS .u8 58)<|JX (hd++[UInt8.ofNat (Int.toNat 58)]) λhh=>Bq (ha hh x) λhi=>some (true,false,hi)) (Bq (ha l x) λhj=>some (true,false,hj)))
def Du (F:Nat)(v:(List Ac))(c:Ac)(hj:An→(List Ac)→Bool→An→Ac→Option (Bool×Bool×An))(ha:Int)(hb:Int)(hh:Bool)(hi:An):Option (Stp (Int×Int×Bool×An) (Out (Bool×An) (Bool×An))):=
 B0 (decide (hb<((Ap v 0).fN))) (B0 (decide (((Ap v 0).fKind)=6)) (Bc (CR ha (v.length:Int))<|Bc (BS .i64 (ha+1))<|Bc (Ep (ha+1) (v.length:Int))<|Bq (If F (List.drop (Int.toNat (ha+1)) v)) λhd=>Bc (BS .i64 ((ha+1)+hd.1))<|Bc (Ep (ha+1) ((ha+1)+hd.1))<|Bc (Ep ((ha+1)+hd.1) (v.length:Int))<|Bq (hj ((Ap v ha).fStr) (List.take (Int.toNat ((ha+1)+hd.1)-Int.toNat (ha+1)) (List.drop (Int.toNat (ha+1)) v)) hh hi c) λhe=>B0 (!he.1) (some (.out (.ret (he.2.1,he.2.2)))) (Bc (BS .i64 (hb+1))<|some (.next ((ha+1)+hd.1,hb+1,he.2.1,he.2.2)))) (Bc (Ep ha (v.length:Int))<|Bq (If F (List.drop (Int.toNat ha) v)) λhf=>Bc (BS .i64 (ha+hf.1))<|Bc (Ep ha (ha+hf.1))<|Bc (Ep (ha+hf.1) (v.length:Int))<|Bq (hj ([]:An) (List.take (Int.toNat (ha+hf.1)-Int.toNat ha) (List.drop (Int.toNat ha) v)) hh hi c) λhg=>B0 (!hg.1) (some (.out (.ret (hg.2.1,hg.2.2)))) (Bc (BS .i64 (hb+1))<|some (.next (ha+hf.1,hb+1,hg.2.1,hg.2.2))))) (some (.out (.go (hh,hi))))
def Gt (ha:Bool)(hb:An):Option (Bool×An):=
 some (ha,hb)
def Hg (F:Nat)(ha:An→(List Ac)→Bool→An→Ac→Option (Bool×Bool×An))(v:(List Ac))(first:Bool)(l:An)(c:Ac):Option (Bool×An):=
 Bc (CR 0 (v.length:Int))<|Bq (Cz (λσ=>Du F v c ha σ.1 σ.2.1 σ.2.2.1 σ.2.2.2) F (1,0,first,l)) (Ch λν=>Gt ν.1 ν.2)
mutual
def E7:Nat→An→(List Ac)→Option (An)
 | 0,_,_=>none
 | nn+1,l,v=>IV nn (DV nn) (Ga nn) l v
def DV:Nat→An→(List Ac)→Bool→An→Ac→Option (Bool×Bool×An)
 | 0,_,_,_,_,_=>none
 | nn+1,key,x,first,l,c=>Kb nn (E7 nn) key x first l c
def Ga:Nat→(List Ac)→Bool→An→Ac→Option (Bool×An)
 | 0,_,_,_,_=>none
 | nn+1,v,first,l,c=>Hg nn (DV nn) v first l c
end
def Ki (F:Nat)(v:(List Ac)):Option (An×Int):=
 Bq (H9 F v) λr1=>B0 (!decide (r1=0)) (some (([]:An),r1)) (Bq (E7 F ([]:An) v) λr8=>Bc (decide (0<r8.length))<|some (r8,0))
end Go.Proofs.YtfobhhegpkinaaaGreatDoor
namespace Go.Proofs.YtfobhhegpkinaaaGreatDoor.Q
open Go Go.RowKit
set_option linter.unusedVariables false
set_option linter.unusedSimpArgs false
set_option maxRecDepth 100000
set_option maxHeartbeats 4000000
theorem M3 (F:Nat)(ha:Nat)(hk:Value)(l:An)(s:An)(r:An)(h:JH F l s=some r):Fn Tryz.prog GE 143 [rP ha 0,rS s] [.bld 146 5 ha hk l] (λR H=>∃w0b:Value,R=rv (.tuple #[])∧H=[.bld 146 5 ha w0b r]):=by
 refine enter (n:=32) Tryz.func143 Aa Tryz.ntmps143 Aa (λw Z=>?_);unfold JH at h;refine Al (wm Aa (ck h λg1 h2=>ck h2 λg3 h4=>Cu (rs:=[rP ha 0,rI .u8 34]) (Hin:=[.bld 146 5 ha hk l]) (Hr:=[]) Ie Aa (Zp _) (C3 ha hk l 34 g1 g3) Aa ?_));rintro _ _ ⟨v5,rfl,rfl⟩;refine bd h4 λr6 e8 h7=>?_;rw[← e8];refine Au (Aq (Al (wm Aa (wv (BA C4 Aa) (wv (r:=As 0) (Aw Aa) (Au (AO (ob h7 λhq hr hs=>B4 (S:=Nat×(Int×An)×(Value)) (V:=(An)×(Value)) 0 (λσ=>Cz (λσ=>Dn s σ.1 σ.2) σ.1 σ.2.1=some hq) (λσ=>[(0,rP ha 0),(1,rS s),(8,As (s.length:Int)),(9,As σ.2.1.1)]) (λσ=>[.bld 146 5 ha σ.2.2 σ.2.1.2]) (λσ=>σ.1) (F,(0,r6),v5) hr (AL.c Aa (AL.c Aa (AL.c Aa (AL.c Aa AL.nil)))) (sC sN) (λσ=>Ef σ.1=some r) (λσ=>[(0,rP ha 0)]) (λσ=>[.bld 146 5 ha σ.2 σ.1]) ?_ ?_))))))))
 ·rintro⟨gf,⟨hb,he⟩,hf⟩ ht;refine Cf (l':=[(0,rP ha 0),(1,rS s),(8,As (s.length:Int)),(9,As hb)]) (H':=[.bld 146 5 ha hf he]) Aa Aa ?_;obtain⟨hn,rfl,t127,hg,hl⟩:=CO ht;replace hg:Dn s hb he=some t127:=hg;unfold Dn at hg;refine Al (wv (CZ Aa Aa) (Au (Aq (cz hg Aa (λhu hw=>?_) (λhu hx=>?_)))))
  ·refine A3 (AT (Aq (AO (Al (wm Aa (wa Aa (Au (Aq (ck hw λhh hy=>AR [(0,rP ha 0),(1,rS s),(4,As hb),(8,As (s.length:Int)),(9,As hb),(21,rB ((decide ((Bu s hb)=34))||(decide ((Bu s hb)=92))))] [.bld 146 5 ha hf he] ?_ ?_)))))))))
   ·refine At (wm Aa (wm Aa (wv (B1 C4 Aa Aa hh) (wv (BN Aa Aa) (wm Aa (AX (decide ((Bu s hb)=34)) (λhd=>?_) (λhd=>?_)))))))
    ·refine wf hd (wf hd (wf hd (wf hd (wv (r:=rB true) (AA Aa hd Aa) (Av ?_)))));exact CF hd
    ·refine wo hd (wm Aa (wo hd (wm Aa (wo hd (wv (B1 C4 Aa Aa hh) (wo hd (wv (BN Aa Aa) (Hc Aa hd Aa (Av ?_)))))))));exact CF hd
   refine cz hy Aa (λhz h0=>?_) (λhz h1=>?_)
   ·refine At (wm Aa (ck h0 λh3 h5=>ck h5 λh6 h8=>Cu (rs:=[rP ha 0,rI .u8 92]) (Hin:=[.bld 146 5 ha hf he]) (Hr:=[]) Ie Aa (Zp _) (C3 ha hf he 92 h3 h6) Aa ?_));rintro _ _ ⟨ho,rfl,rfl⟩;refine bd h8 λhp h9 hA=>?_;rw[← h9];refine Au (At (wm Aa (wm Aa (wm Aa (wv (B1 C4 Aa Aa hh) (ck hA λhB hC=>ck hC λhD hE=>Cu (rs:=[rP ha 0,rI .u8 (Bu s hb)]) (Hin:=[.bld 146 5 ha ho hp]) (Hr:=[]) Ie Aa (Zp _) (C3 ha ho hp (Bu s hb) hB hD) Aa ?_))))));rintro _ _ ⟨hG,rfl,rfl⟩;refine bd hE λhH hI hJ=>?_;rw[← hI];refine Av (AH (AT (At (ck hJ λhK hL=>wv (BJ Aa Aa hK) (wm Aa (Av ?_))))));have hN:=B8 hL hl;exact A5 (AK (hn,(hb+1,hH),hG) ⟨hN,Z3 _⟩ (AL.c Aa (AL.c Aa (AL.c Aa (AL.c Aa AL.nil)))) (sC sN))
   ·refine A3 (AT (At (wm Aa (wm Aa (wm Aa (wv (B1 C4 Aa Aa hh) (ck h1 λhO hP=>ck hP λhQ hR=>Cu (rs:=[rP ha 0,rI .u8 (Bu s hb)]) (Hin:=[.bld 146 5 ha hf he]) (Hr:=[]) Ie Aa (Zp _) (C3 ha hf he (Bu s hb) hO hQ) Aa ?_)))))));rintro _ _ ⟨hS,rfl,rfl⟩;refine bd hR λhT hU hV=>?_;rw[← hU];refine Av (AH (AT (At (ck hV λhW hX=>wv (BJ Aa Aa hW) (wm Aa (Av ?_))))));have hY:=B8 hX hl;exact A5 (AK (hn,(hb+1,hT),hS) ⟨hY,Z3 _⟩ (AL.c Aa (AL.c Aa (AL.c Aa (AL.c Aa AL.nil)))) (sC sN))
  ·refine BB (A9 ?_);have hZ:=Cv hx hl hs;exact A9 (Bh (AK (he,hf) hZ (AL.c Aa AL.nil) (sC sN)))
 ·rintro⟨hi,hm⟩ hj;refine CJ (l':=[(0,rP ha 0)]) (H':=[.bld 146 5 ha hm hi]) Aa Aa ?_;replace hj:Ef hi=some r:=hj;unfold Ef at hj;refine Bf (AT (At (wm Aa (ck hj λga gb=>Cu (rs:=[rP ha 0,rI .u8 34]) (Hin:=[.bld 146 5 ha hm hi]) (Hr:=[]) Ie Aa (Zp _) (C3 ha hm hi 34 ga g3) Aa ?_))));rintro _ _ ⟨gc,rfl,rfl⟩;refine bd gb λgg gd ge=>?_;rw[← gd];refine Av ?_;obtain rfl:=A1 ge;exact Gq (SL Tryz.results143) (sC sN) ⟨gc,Aa,Aa⟩
theorem SA (F:Nat)(hl:An→(List Ac)→Bool→An→Ac→Option (Bool×Bool×An))(hm:(List Ac)→Bool→An→Ac→Option (Bool×An))(g6:(∀(hd:Nat) (he:Nat) (ha:Nat) (hb:Value) (hf:Nat) (key:An) (x:(List Ac)) (first:Bool) (l:An) (c:Ac) (r:Bool×Bool×An),hl key x first l c=some r→Fn Tryz.prog GE 146 [rS key,AU 4 (Ax Ab x),rP hd 0,rP he 0,rP hf 0] [.blk hd [rB first] 4,.blk he [rP ha 0] 143,.bld 146 5 ha hb l,.blk hf (Ab c) 83] (λR H=>∃w3b:Value,R=rB r.1∧H=[.blk hd [rB r.2.1] 4,.blk he [rP ha 0] 143,.bld 146 5 ha w3b r.2.2,.blk hf (Ab c) 83])))(hn:(∀(hd:Nat) (he:Nat) (ha:Nat) (hb:Value) (hf:Nat) (v:(List Ac)) (first:Bool) (l:An) (c:Ac) (r:Bool×An),hm v first l c=some r→Fn Tryz.prog GE 145 [AU 4 (Ax Ab v),rv (.func (.func 146) #[] #[(.pointer (some ⟨hd,0,none⟩)),(.pointer (some ⟨he,0,none⟩)),(.pointer (some ⟨hf,0,none⟩))])] [.blk hd [rB first] 4,.blk he [rP ha 0] 143,.bld 146 5 ha hb l,.blk hf (Ab c) 83] (λR H=>∃w1_1b:Value,R=rv (.tuple #[])∧H=[.blk hd [rB r.1] 4,.blk he [rP ha 0] 143,.bld 146 5 ha w1_1b r.2,.blk hf (Ab c) 83])))(ha:Nat)(hb:Value)(l:An)(v:(List Ac))(r:An)(h:IV F hl hm l v=some r):Fn Tryz.prog GE 110 [rP ha 0,AU 4 (Ax Ab v)] [.bld 146 5 ha hb l] (λR H=>∃w0b:Value,R=rv (.tuple #[])∧H=[.bld 146 5 ha w0b r]):=by
 refine enter (n:=52) Tryz.func110 Aa Tryz.ntmps110 Aa (λw Z=>?_);unfold IV at h;refine Al (P5 Aa (Bw Aa) Aa (λb1=>?_));refine Bk (wm Aa (ck h λg2 h3=>wv (BT (enc:=Ab) (ys:=v) CX DL Aa Aa g2) (wv (Eh S8 DL Aa Aa Aa) (BR (cs:=[As 0,As 0,rS ([]:An),As 0]) LA Aa Aa (λb4=>?_)))));refine Bj (i:=0) DL Aa Aa Aa (Cj.c Aa) Aa Aa (cs':=[As ((Ap v 0).fKind),As ((Ap v 0).fInt),rS ((Ap v 0).fStr),As ((Ap v 0).fN)]) Aa (H':=[.blk b4 (Ab (Ap v 0)) 83,.blk b1 [rP ha 0] 143,.bld 146 5 ha hb l]) Aa (Bk (vF C5 Aa Jx (vL 0 Jy Aa (Au (AO (Al (wv (BN Aa Aa) (wa Aa (Au (cz h3 Aa (λc5 h6=>?_) (λc5 hr=>?_)))))))))))
 ·refine At (vL 1 Ee Aa (ck h6 λg7 h8=>Cu (rs:=[rP ha 0,rS ([110,117,108,108]:An)]) (Hin:=[.bld 146 5 ha hb l]) (Hr:=[.blk b4 (Ab (Ap v 0)) 83,.blk b1 [rP ha 0] 143]) Tryz.call142 Aa ((Ak (i:=2) Aa).trans (Zo _ (Zp _))) (GR ha hb l ([110,117,108,108]:An) g7) Aa ?_));rintro _ _ ⟨v9,rfl,rfl⟩;refine bd h8 λg8 hs ht=>?_;rw[← hs];refine Av (AH ?_);obtain rfl:=A1 ht;exact Gq (SL ND) (sC (sS (sS sN))) ⟨v9,Aa,Aa⟩
 ·refine Al (wv (BN Aa Aa) (wa Aa (Au (cz hr Aa (λhu hw=>?_) (λhu hx=>?_)))))
  ·refine ck hw λg16 hy=>IS (H1:=[.blk b4 (Ab (Ap v 0)) 83,.blk b1 [rP ha 0] 143,.bld 146 5 ha hb l]) 6 [2,4] [⟨[],rP ha 0,1⟩,⟨[],AU 1 (Ax eS ([([102,97,108,115,101]:An),([116,114,117,101]:An)]:List An)),0⟩,⟨[],rP b4 1,0⟩,⟨[2],As ((Ap v 0).fInt),1⟩,⟨[1,3],TC [rS (Ap ([([102,97,108,115,101]:An),([116,114,117,101]:An)]:List An) ((Ap v 0).fInt))],0⟩,⟨[4],rS (Ap ([([102,97,108,115,101]:An),([116,114,117,101]:An)]:List An) ((Ap v 0).fInt)),0⟩] (rle [(7,_)]) [32,33,34,35,36,37,2,4] ?_ ?_
   ·refine of (AQ (i:=1) Ee Aa Aa Aa) (J3 Aa (λH=>Cq (ys:=([([102,97,108,115,101]:An),([116,114,117,101]:An)]:List An)) (enc:=eS) (css:=[[rS ([102,97,108,115,101]:An)],[rS ([116,114,117,101]:An)]]) (xs:=[.const (.string ⟨#[102,97,108,115,101]⟩),.const (.string ⟨#[116,114,117,101]⟩)]) Ct Cs R2 Aa Aa Aa ⟨DH.one Aa (Up.refl _),DH.one Aa (Up.refl _),trivial⟩ Aa Dg Aa Aa) ?_);refine oq (Ay C5 Aa C2 Aa Aa) (of (AQ (i:=0) CQ Aa Aa Aa) (oq (BT (enc:=eS) (ys:=([([102,97,108,115,101]:An),([116,114,117,101]:An)]:List An)) Ct Cs Aa Aa g16) (oq (BD C7 Aa Aa) ?_)));exact C9
   refine ck hy λg18 hz=>Cu (rs:=[rP ha 0,rS (Ap ([([102,97,108,115,101]:An),([116,114,117,101]:An)]:List An) ((Ap v 0).fInt))]) (Hin:=[.bld 146 5 ha hb l]) (Hr:=[.blk b4 (Ab (Ap v 0)) 83,.blk b1 [rP ha 0] 143]) Tryz.call142 Aa ((Ak (i:=2) Aa).trans (Zo _ (Zp _))) (GR ha hb l (Ap ([([102,97,108,115,101]:An),([116,114,117,101]:An)]:List An) ((Ap v 0).fInt)) g18) Aa ?_;rintro _ _ ⟨v20,rfl,rfl⟩;refine bd hz λg9 h0 h1=>?_;rw[← h0];refine Av (AH ?_);obtain rfl:=A1 h1;exact Gq (SL ND) (sC (sS (sS sN))) ⟨v20,Aa,Aa⟩
  ·refine Al (wv (BN Aa Aa) (wa Aa (Au (cz hx Aa (λh2 h4=>?_) (λh2 h5=>?_)))))
   ·refine ck h4 λh7 h9=>IS (H1:=[.blk b4 (Ab (Ap v 0)) 83,.blk b1 [rP ha 0] 143,.bld 146 5 ha hb l]) 4 [2,4] [⟨[],rP ha 0,1⟩,⟨[],rP b4 1,0⟩,⟨[1],As ((Ap v 0).fInt),1⟩,⟨[2],rS (Lib.itoa ((Ap v 0).fInt)),0⟩] (rle [(5,_)]) [41,42,43,44,2,4] ?_ ?_
    ·refine of (AQ (i:=1) Ee Aa Aa Aa) (oq (Ay C5 Aa C2 Aa Aa) (of (AQ (i:=0) CQ Aa Aa Aa) (J3 Aa (λH=>DB (rs:=[As ((Ap v 0).fInt)]) (r:=rS (Lib.itoa ((Ap v 0).fInt))) Mn Aa (DQ ((Ap v 0).fInt) h7) Aa) ?_)));exact C9
    refine ck h9 λhA hB=>Cu (rs:=[rP ha 0,rS (Lib.itoa ((Ap v 0).fInt))]) (Hin:=[.bld 146 5 ha hb l]) (Hr:=[.blk b4 (Ab (Ap v 0)) 83,.blk b1 [rP ha 0] 143]) Tryz.call142 Aa ((Ak (i:=2) Aa).trans (Zo _ (Zp _))) (GR ha hb l (Lib.itoa ((Ap v 0).fInt)) hA) Aa ?_;rintro _ _ ⟨v31,rfl,rfl⟩;refine bd hB λgA hC hD=>?_;rw[← hC];refine Av (AH ?_);obtain rfl:=A1 hD;exact Gq (SL ND) (sC (sS (sS sN))) ⟨v31,Aa,Aa⟩
   ·refine Al (wv (BN Aa Aa) (wa Aa (Au (cz h5 Aa (λhE hG=>?_) (λhE hH=>?_)))))
    ·refine At (vL 1 Ee Aa (vF C5 Aa Cs (vL 0 C7 Aa (ob hG λhI hJ hK=>CV (Hr:=[.blk b4 (Ab (Ap v 0)) 83,.blk b1 [rP ha 0] 143]) Tryz.call143 (M3 F ha hb l ((Ap v 0).fStr) hI hJ) Aa ((Ak (i:=2) Aa).trans (Zo _ (Zp _))) Aa ?_))));rintro _ _ ⟨hL,rfl,rfl⟩;refine Av (AH ?_);obtain rfl:=A1 hK;exact Gq (SL ND) (sC (sS (sS sN))) ⟨hL,Aa,Aa⟩
    ·refine Al (wv (r:=rS ([91,93]:An)) (A7 Aa) (Au (Aq (Al (vF C5 Aa Jx (vL 0 Jy Aa (wv (BN Aa Aa) (Au (cz hH Aa (λhN hO=>?_) (λhN hP=>?_))))))))))
     ·refine At (wv (r:=rS ([123,125]:An)) (A7 Aa) (Au (Aq (ck hO λhQ hR=>IS (H1:=[.blk b4 (Ab (Ap v 0)) 83,.blk b1 [rP ha 0] 143,.bld 146 5 ha hb l]) 3 [1,2,4,5] [⟨[],rP ha 0,1⟩,⟨[],rS ([123,125]:An),0⟩,⟨[1],rI .u8 (Bu ([123,125]:An) 0),0⟩] (rle [(4,_)]) [15,16,17,1,2,4,5] ?_ ?_))))
      ·refine of (AQ (i:=1) Ee Aa Aa Aa) (oq (Aw Aa) (oq (B1 C4 Aa Aa hQ) ?_));exact C9
      refine ck hR λhS hT=>ck hT λhU hV=>Cu (rs:=[rP ha 0,rI .u8 (Bu ([123,125]:An) 0)]) (Hin:=[.bld 146 5 ha hb l]) (Hr:=[.blk b4 (Ab (Ap v 0)) 83,.blk b1 [rP ha 0] 143]) Ie Aa ((Ak (i:=2) Aa).trans (Zo _ (Zp _))) (C3 ha hb l (Bu ([123,125]:An) 0) hS hU) Aa ?_;rintro _ _ ⟨v51,rfl,rfl⟩;refine bd hV λho hW hX=>?_;rw[← hW];refine Bk (BR (cs:=[rB false]) Tryz.zeroValue4 Aa Aa (λhi=>?_));refine Bv (i:=0) He Aa Aa (Bw Aa) Aa Aa (cs':=[rB true]) Aa (H':=[.blk hi [rB true] 4,.bld 146 5 ha v51 ho,.blk b4 (Ab (Ap v 0)) 83,.blk b1 [rP ha 0] 143]) Aa (Bk (wm Aa (wv (r:=rv (.func (.func 146) #[] #[(.pointer (some ⟨hi,0,none⟩)),(.pointer (some ⟨b1,0,none⟩)),(.pointer (some ⟨b4,0,none⟩))])) (JN Aa) (ob hX λhg hY hZ=>CV (Hr:=[]) Tryz.call145 (hn hi b1 ha v51 b4 v true ho (Ap v 0) hg hY) Aa ((Ak (i:=0) Aa).trans (Zo _ ((Ak (i:=2) Aa).trans (Zo _ (Zp _))))) Aa ?_))));rintro _ _ ⟨hk,rfl,rfl⟩;refine Au (ck hZ λga gb=>IS (H1:=[.blk hi [rB hg.1] 4,.blk b1 [rP ha 0] 143,.bld 146 5 ha hk hg.2,.blk b4 (Ab (Ap v 0)) 83]) 3 [2,5] [⟨[],rP ha 0,1⟩,⟨[],rS ([123,125]:An),0⟩,⟨[1],rI .u8 (Bu ([123,125]:An) 1),0⟩] (rle [(4,_)]) [22,23,24,2,5] ?_ ?_)
      ·refine of (AQ (i:=1) Ee Aa Aa Aa) (oq (Aw Aa) (oq (B1 C4 Aa Aa ga) ?_));exact C9
      refine ck gb λgc gd=>ck gd λge gf=>Cu (rs:=[rP ha 0,rI .u8 (Bu ([123,125]:An) 1)]) (Hin:=[.bld 146 5 ha hk hg.2]) (Hr:=[.blk hi [rB hg.1] 4,.blk b1 [rP ha 0] 143,.blk b4 (Ab (Ap v 0)) 83]) Ie Aa ((Ak (i:=2) Aa).trans (Zo _ (Zp _))) (C3 ha hk hg.2 (Bu ([123,125]:An) 1) gc ge) Aa ?_;rintro _ _ ⟨gg,rfl,rfl⟩;refine bd gf λgB gh gi=>?_;rw[← gh];refine Av (AH ?_);obtain rfl:=A1 gi;exact Gq (SL ND) (sC (sS (sS (sS sN)))) ⟨gg,Aa,Aa⟩
     ·refine A3 (AT (Aq (ck hP λgj gl=>IS (H1:=[.blk b4 (Ab (Ap v 0)) 83,.blk b1 [rP ha 0] 143,.bld 146 5 ha hb l]) 3 [1,2,4,5] [⟨[],rP ha 0,1⟩,⟨[],rS ([91,93]:An),0⟩,⟨[1],rI .u8 (Bu ([91,93]:An) 0),0⟩] (rle [(4,_)]) [15,16,17,1,2,4,5] ?_ ?_)))
      ·refine of (AQ (i:=1) Ee Aa Aa Aa) (oq (Aw Aa) (oq (B1 C4 Aa Aa gj) ?_));exact C9
      refine ck gl λgm gp=>ck gp λgq gr=>Cu (rs:=[rP ha 0,rI .u8 (Bu ([91,93]:An) 0)]) (Hin:=[.bld 146 5 ha hb l]) (Hr:=[.blk b4 (Ab (Ap v 0)) 83,.blk b1 [rP ha 0] 143]) Ie Aa ((Ak (i:=2) Aa).trans (Zo _ (Zp _))) (C3 ha hb l (Bu ([91,93]:An) 0) gm gq) Aa ?_;rintro _ _ ⟨hp,rfl,rfl⟩;refine bd gr λhq gs gt=>?_;rw[← gs];refine Bk (BR (cs:=[rB false]) Tryz.zeroValue4 Aa Aa (λhj=>?_));refine Bv (i:=0) He Aa Aa (Bw Aa) Aa Aa (cs':=[rB true]) Aa (H':=[.blk hj [rB true] 4,.bld 146 5 ha hp hq,.blk b4 (Ab (Ap v 0)) 83,.blk b1 [rP ha 0] 143]) Aa (Bk (wm Aa (wv (r:=rv (.func (.func 146) #[] #[(.pointer (some ⟨hj,0,none⟩)),(.pointer (some ⟨b1,0,none⟩)),(.pointer (some ⟨b4,0,none⟩))])) (JN Aa) (ob gt λhh gu gv=>CV (Hr:=[]) Tryz.call145 (hn hj b1 ha hp b4 v true hq (Ap v 0) hh gu) Aa ((Ak (i:=0) Aa).trans (Zo _ ((Ak (i:=2) Aa).trans (Zo _ (Zp _))))) Aa ?_))));rintro _ _ ⟨v85,rfl,rfl⟩;refine Au (ck gv λgw gx=>IS (H1:=[.blk hj [rB hh.1] 4,.blk b1 [rP ha 0] 143,.bld 146 5 ha v85 hh.2,.blk b4 (Ab (Ap v 0)) 83]) 3 [2,5] [⟨[],rP ha 0,1⟩,⟨[],rS ([91,93]:An),0⟩,⟨[1],rI .u8 (Bu ([91,93]:An) 1),0⟩] (rle [(4,_)]) [22,23,24,2,5] ?_ ?_)
      ·refine of (AQ (i:=1) Ee Aa Aa Aa) (oq (Aw Aa) (oq (B1 C4 Aa Aa gw) ?_));exact C9
      refine ck gx λgy gz=>ck gz λg0 g1=>Cu (rs:=[rP ha 0,rI .u8 (Bu ([91,93]:An) 1)]) (Hin:=[.bld 146 5 ha v85 hh.2]) (Hr:=[.blk hj [rB hh.1] 4,.blk b1 [rP ha 0] 143,.blk b4 (Ab (Ap v 0)) 83]) Ie Aa ((Ak (i:=2) Aa).trans (Zo _ (Zp _))) (C3 ha v85 hh.2 (Bu ([91,93]:An) 1) gy g0) Aa ?_;rintro _ _ ⟨g3,rfl,rfl⟩;refine bd g1 λgC g4 g5=>?_;rw[← g4];refine Av (AH ?_);obtain rfl:=A1 g5;exact Gq (SL ND) (sC (sS (sS (sS sN)))) ⟨g3,Aa,Aa⟩
theorem QG (F:Nat)(hj:An→(List Ac)→Option (An))(hg:(∀(ha:Nat) (hf:Value) (l:An) (v:(List Ac)) (r:An),hj l v=some r→Fn Tryz.prog GE 110 [rP ha 0,AU 4 (Ax Ab v)] [.bld 146 5 ha hf l] (λR H=>∃w0b:Value,R=rv (.tuple #[])∧H=[.bld 146 5 ha w0b r])))(hb:Nat)(hd:Nat)(ha:Nat)(hf:Value)(he:Nat)(key:An)(x:(List Ac))(first:Bool)(l:An)(c:Ac)(r:Bool×Bool×An)(h:Kb F hj key x first l c=some r):Fn Tryz.prog GE 146 [rS key,AU 4 (Ax Ab x),rP hb 0,rP hd 0,rP he 0] [.blk hb [rB first] 4,.blk hd [rP ha 0] 143,.bld 146 5 ha hf l,.blk he (Ab c) 83] (λR H=>∃w3b:Value,R=rB r.1∧H=[.blk hb [rB r.2.1] 4,.blk hd [rP ha 0] 143,.bld 146 5 ha w3b r.2.2,.blk he (Ab c) 83]):=by
 refine enter (n:=23) Tryz.func146 Aa Tryz.ntmps146 Aa (λw Z=>?_);unfold Kb at h;refine Al (wa Aa (Au (Aq (Al (vL 0 R6 Aa (wv (B7 Aa) (Au (cz h Aa (λc1 h2=>?_) (λc1 hu=>?_)))))))))
 ·refine At (vL 1 Ee Aa (ck h2 λg3 h4=>ck h4 λg5 h6=>Cu (rs:=[rP ha 0,rI .u8 44]) (Hin:=[.bld 146 5 ha hf l]) (Hr:=[.blk hb [rB first] 4,.blk hd [rP ha 0] 143,.blk he (Ab c) 83]) Ie Aa ((Ak (i:=2) Aa).trans (Zo _ (Zp _))) (C3 ha hf l 44 g3 g5) Aa ?_));rintro _ _ ⟨v7,rfl,rfl⟩;refine bd h6 λr8 hw h9=>?_;rw[← hw];refine Bk (Bv (i:=1) He Aa Aa (Bw Aa) Aa Aa (cs':=[rB false]) Aa (H':=[.bld 146 5 ha v7 r8,.blk hb [rB false] 4,.blk hd [rP ha 0] 143,.blk he (Ab c) 83]) Aa (Au (Aq (Al (vF C5 Aa Jx (vL 3 Jy Aa (wv (BN Aa Aa) (Au (cz h9 Aa (λhx hy=>?_) (λhx hz=>?_))))))))))
  ·refine Al (vL 2 Ee Aa (wm Aa (ob hy λhh h0 h1=>CV (Hr:=[.blk hb [rB false] 4,.blk hd [rP ha 0] 143,.blk he (Ab c) 83]) Tryz.call143 (M3 F ha v7 r8 key hh h0) Aa (Zp _) Aa ?_)));rintro _ _ ⟨hk,rfl,rfl⟩;refine Au (At (vL 2 Ee Aa (ck h1 λg17 h3=>ck h3 λg19 h5=>Cu (rs:=[rP ha 0,rI .u8 58]) (Hin:=[.bld 146 5 ha hk hh]) (Hr:=[.blk hb [rB false] 4,.blk hd [rP ha 0] 143,.blk he (Ab c) 83]) Ie Aa (Zp _) (C3 ha hk hh 58 g17 g19) Aa ?_)));rintro _ _ ⟨v21,rfl,rfl⟩;refine bd h5 λh7 h8 hA=>?_;rw[← h8];refine Bk (vL 2 Ee Aa (wm Aa (ob hA λhl hB hC=>CV (Hr:=[.blk hb [rB false] 4,.blk hd [rP ha 0] 143,.blk he (Ab c) 83]) P2 (hg ha v21 h7 x hl hB) Aa (Zp _) Aa ?_)));rintro _ _ ⟨hm,rfl,rfl⟩;refine Bk (wa Aa (Au (A0 (BF (H2:=[.blk hb [rB false] 4,.blk hd [rP ha 0] 143,.bld 146 5 ha hm hl,.blk he (Ab c) 83]) ((Ak (i:=1) Aa).trans (Zo _ ((Ak (i:=1) Aa).trans (Zo _ (Zp _))))) ?_))));obtain rfl:=A1 hC;exact Az (BW R4 (AI Aa)) (sC (sC (sC (sC sN)))) ⟨hm,Aa,Aa⟩
  ·refine A3 (AT (Al (vL 2 Ee Aa (wm Aa (ob hz λhn hD hE=>CV (Hr:=[.blk hb [rB false] 4,.blk hd [rP ha 0] 143,.blk he (Ab c) 83]) P2 (hg ha v7 r8 x hn hD) Aa (Zp _) Aa ?_)))));rintro _ _ ⟨ho,rfl,rfl⟩;refine Bk (wa Aa (Au (A0 (BF (H2:=[.blk hb [rB false] 4,.blk hd [rP ha 0] 143,.bld 146 5 ha ho hn,.blk he (Ab c) 83]) ((Ak (i:=1) Aa).trans (Zo _ ((Ak (i:=1) Aa).trans (Zo _ (Zp _))))) ?_))));obtain rfl:=A1 hE;exact Az (BW R4 (AI Aa)) (sC (sC (sC (sC sN)))) ⟨ho,Aa,Aa⟩
 ·refine A3 (AT (Al (Bv (i:=0) He Aa Aa (Bw Aa) Aa Aa (cs':=[rB false]) Aa (H':=[.blk hb [rB false] 4,.blk hd [rP ha 0] 143,.bld 146 5 ha hf l,.blk he (Ab c) 83]) Aa (Au (Aq (Al (vF C5 Aa Jx (vL 3 Jy Aa (wv (BN Aa Aa) (Au (cz hu Aa (λhG hH=>?_) (λhG hI=>?_))))))))))))
  ·refine Al (vL 1 Ee Aa (wm Aa (ob hH λhi hJ hK=>CV (Hr:=[.blk hb [rB false] 4,.blk hd [rP ha 0] 143,.blk he (Ab c) 83]) Tryz.call143 (M3 F ha hf l key hi hJ) Aa ((Ak (i:=2) Aa).trans (Zo _ (Zp _))) Aa ?_)));rintro _ _ ⟨hp,rfl,rfl⟩;refine Au (At (vL 2 Ee Aa (ck hK λhL hN=>ck hN λhO hP=>Cu (rs:=[rP ha 0,rI .u8 58]) (Hin:=[.bld 146 5 ha hp hi]) (Hr:=[.blk hb [rB false] 4,.blk hd [rP ha 0] 143,.blk he (Ab c) 83]) Ie Aa (Zp _) (C3 ha hp hi 58 hL hO) Aa ?_)));rintro _ _ ⟨hQ,rfl,rfl⟩;refine bd hP λhR hS hT=>?_;rw[← hS];refine Bk (vL 2 Ee Aa (wm Aa (ob hT λhq hU hV=>CV (Hr:=[.blk hb [rB false] 4,.blk hd [rP ha 0] 143,.blk he (Ab c) 83]) P2 (hg ha hQ hR x hq hU) Aa (Zp _) Aa ?_)));rintro _ _ ⟨hr,rfl,rfl⟩;refine Bk (wa Aa (Au (A0 (BF (H2:=[.blk hb [rB false] 4,.blk hd [rP ha 0] 143,.bld 146 5 ha hr hq,.blk he (Ab c) 83]) ((Ak (i:=1) Aa).trans (Zo _ ((Ak (i:=1) Aa).trans (Zo _ (Zp _))))) ?_))));obtain rfl:=A1 hV;exact Az (BW R4 (AI Aa)) (sC (sC (sC (sC sN)))) ⟨hr,Aa,Aa⟩
  ·refine A3 (AT (Al (vL 1 Ee Aa (wm Aa (ob hI λhs hW hX=>CV (Hr:=[.blk hb [rB false] 4,.blk hd [rP ha 0] 143,.blk he (Ab c) 83]) P2 (hg ha hf l x hs hW) Aa ((Ak (i:=2) Aa).trans (Zo _ (Zp _))) Aa ?_)))));rintro _ _ ⟨ht,rfl,rfl⟩;refine Bk (wa Aa (Au (A0 (BF (H2:=[.blk hb [rB false] 4,.blk hd [rP ha 0] 143,.bld 146 5 ha ht hs,.blk he (Ab c) 83]) ((Ak (i:=1) Aa).trans (Zo _ ((Ak (i:=1) Aa).trans (Zo _ (Zp _))))) ?_))));obtain rfl:=A1 hX;exact Az (BW R4 (AI Aa)) (sC (sC (sC (sC sN)))) ⟨ht,Aa,Aa⟩
theorem QF (F:Nat)(hm:An→(List Ac)→Bool→An→Ac→Option (Bool×Bool×An))(hx:(∀(hd:Nat) (he:Nat) (hb:Nat) (hn:Value) (hf:Nat) (key:An) (x:(List Ac)) (first:Bool) (l:An) (c:Ac) (r:Bool×Bool×An),hm key x first l c=some r→Fn Tryz.prog GE 146 [rS key,AU 4 (Ax Ab x),rP hd 0,rP he 0,rP hf 0] [.blk hd [rB first] 4,.blk he [rP hb 0] 143,.bld 146 5 hb hn l,.blk hf (Ab c) 83] (λR H=>∃w3b:Value,R=rB r.1∧H=[.blk hd [rB r.2.1] 4,.blk he [rP hb 0] 143,.bld 146 5 hb w3b r.2.2,.blk hf (Ab c) 83])))(hd:Nat)(he:Nat)(hb:Nat)(hn:Value)(hf:Nat)(v:(List Ac))(first:Bool)(l:An)(c:Ac)(r:Bool×An)(h:Hg F hm v first l c=some r):Fn Tryz.prog GE 145 [AU 4 (Ax Ab v),rv (.func (.func 146) #[] #[(.pointer (some ⟨hd,0,none⟩)),(.pointer (some ⟨he,0,none⟩)),(.pointer (some ⟨hf,0,none⟩))])] [.blk hd [rB first] 4,.blk he [rP hb 0] 143,.bld 146 5 hb hn l,.blk hf (Ab c) 83] (λR H=>∃w1_1b:Value,R=rv (.tuple #[])∧H=[.blk hd [rB r.1] 4,.blk he [rP hb 0] 143,.bld 146 5 hb w1_1b r.2,.blk hf (Ab c) 83]):=by
 refine enter (n:=52) Tryz.func145 Aa Tryz.ntmps145 Aa (λw Z=>?_);unfold Hg at h;refine Al (wa Aa (Bk (wm Aa (ck h λg1 h2=>wv (BT (enc:=Ab) (ys:=v) CX DL Aa Aa g1) (wv (BY C5 Aa C2 Aa Aa) (wv (BD CQ Aa Aa) (wv (r:=As 0) (Aw Aa) (Au (AO (ob h2 λh6 h7 hr=>B4 (S:=Nat×(Int×Int×Bool×An)×(Value)) (V:=(Bool×An)×(Value)) 0 (λσ=>Cz (λσ=>Du F v c hm σ.1 σ.2.1 σ.2.2.1 σ.2.2.2) σ.1 σ.2.1=some h6) (λσ=>[(0,AU 4 (Ax Ab v)),(1,rv (.func (.func 146) #[] #[(.pointer (some ⟨hd,0,none⟩)),(.pointer (some ⟨he,0,none⟩)),(.pointer (some ⟨hf,0,none⟩))])),(4,As σ.2.1.1),(12,As ((Ap v 0).fN)),(13,As σ.2.1.2.1)]) (λσ=>[.blk hd [rB σ.2.1.2.2.1] 4,.blk he [rP hb 0] 143,.bld 146 5 hb σ.2.2 σ.2.1.2.2.2,.blk hf (Ab c) 83]) (λσ=>σ.1) (F,(1,0,first,l),hn) h7 (AL.c5 Aa Aa Aa Aa Aa AL.nil) (sC (sC (sC (sC sN)))) (λσ=>Gt σ.1.1 σ.1.2=some r) (λσ=>[]) (λσ=>[.blk hd [rB σ.1.1] 4,.blk he [rP hb 0] 143,.bld 146 5 hb σ.2 σ.1.2,.blk hf (Ab c) 83]) ?_ ?_))))))))))
 ·rintro⟨gz,⟨ha,ho,hi,hj⟩,hk⟩ h8;refine Cf (l':=[(0,AU 4 (Ax Ab v)),(1,rv (.func (.func 146) #[] #[(.pointer (some ⟨hd,0,none⟩)),(.pointer (some ⟨he,0,none⟩)),(.pointer (some ⟨hf,0,none⟩))])),(4,As ha),(12,As ((Ap v 0).fN)),(13,As ho)]) (H':=[.blk hd [rB hi] 4,.blk he [rP hb 0] 143,.bld 146 5 hb hk hj,.blk hf (Ab c) 83]) Aa Aa ?_;obtain⟨hy,rfl,h9,hp,hl⟩:=CO h8;replace hp:Du F v c hm ha ho hi hj=some h9:=hp;unfold Du at hp;refine Al (wv (CZ Aa Aa) (Au (Aq (cz hp Aa (λc175 hA=>?_) (λc175 hB=>?_)))))
  ·refine A3 (AT (Aq (AO (Al (wv (r:=rS ([]:An)) (A7 Aa) (Au (Aq (Al (wm Aa (wv (BT (enc:=Ab) (ys:=v) CX DL Aa Aa g1) (wv (BY C5 Aa Jx Aa Aa) (wv (BD Jy Aa Aa) (wv (BN Aa Aa) (Au (cz hA Aa (λhC hD=>?_) (λhC hE=>?_))))))))))))))))
   ·refine Al (wm Aa (wm Aa (ck hD λhG hH=>wv (BT (enc:=Ab) (ys:=v) CX DL Aa Aa hG) (wv (BY C5 Aa Cs Aa Aa) (wv (BD C7 Aa Aa) (wa Aa (Au (At (wm Aa (ck hH λhI hJ=>wv (BJ Aa Aa hI) (wa Aa (Bk (wm Aa (wm Aa (ck hJ λhK hL=>wv (r:=AU 4 (Ax Ab (List.drop (Bi (ha+1)) v))) (MI CX DL Aa Aa hK) (ob hL λhg hN hO=>Di Tryz.call89 (O0 F (List.drop (Bi (ha+1)) v) hg hN) Aa (wm Aa (wv (A4 Aa Aa) (wv (A4 Aa Aa) ?_)))))))))))))))))));refine wv (A4 Aa Aa) (BR (cs:=[As 0,As 0,rB false,rB false]) Pu Aa Aa (λhz=>?_));refine wa Aa (Bj (i:=0) E4 Aa Aa Aa (Cj.c Aa) Aa Aa (cs':=[As hg.2.1.fDepth,As hg.2.1.fBytes,rB hg.2.1.fOutside,rB hg.2.1.fLong]) Aa (H':=[.blk hz (AV hg.2.1) 124,.blk hd [rB hi] 4,.blk he [rP hb 0] 143,.bld 146 5 hb hk hj,.blk hf (Ab c) 83]) Aa (wa Aa (Au (Aq (Al (wm Aa (wm Aa (wm Aa (wm Aa (wm Aa (wm Aa (ck hO λhs hP=>wv (BJ Aa Aa hs) (wm Aa (wm Aa (wv (BJ Aa Aa hs) (ck hP λhQ hR=>ck hR λhS hT=>wv (r:=AU 4 (Ax Ab (List.take (Bi ((ha+1)+hg.1)-Bi (ha+1)) (List.drop (Bi (ha+1)) v)))) (MH CX DL Aa Aa Aa Aa hQ hS) (ob hT λht hU hV=>Oz (rs:=[rS ((Ap v ha).fStr),AU 4 (Ax Ab (List.take (Bi ((ha+1)+hg.1)-Bi (ha+1)) (List.drop (Bi (ha+1)) v)))]) (Hin:=[.blk hd [rB hi] 4,.blk he [rP hb 0] 143,.bld 146 5 hb hk hj,.blk hf (Ab c) 83]) (Hr:=[.blk hz (AV hg.2.1) 124]) Tryz.call146 Aa Aa ((Ak (i:=1) Aa).trans (Zo _ ((Ak (i:=1) Aa).trans (Zo _ ((Ak (i:=1) Aa).trans (Zo _ ((Ak (i:=1) Aa).trans (Zo _ (Zp _))))))))) (hx hd he hb hk hf ((Ap v ha).fStr) (List.take (Bi ((ha+1)+hg.1)-Bi (ha+1)) (List.drop (Bi (ha+1)) v)) hi hj c ht hU) Aa ?_)))))))))))))))));rintro _ _ ⟨h0,rfl,rfl⟩;refine wv (B7 Aa) (Au (cz hV Aa (λhW hX=>?_) (λhW hY=>?_)))
    ·refine A0 (Af (AD (Af (Af (Bg ?_)))));have hZ:=BG hX hl hr;refine AD ?_;obtain rfl:=A1 hZ;exact Az (SL Tryz.results145) (sC (sC (sC (sC (sS sN))))) ⟨h0,Aa,Aa⟩
    ·refine A3 (AT (At (wm Aa (wm Aa (wv (BJ Aa Aa hs) (wa Aa (Av (AH (AT (At (ck hY λga gb=>wv (BJ Aa Aa ga) (wm Aa (Av ?_)))))))))))));have gc:=B8 gb hl;exact A5 (AK (hy,((ha+1)+hg.1,ho+1,ht.2.1,ht.2.2),h0) ⟨gc,Z3 _⟩ (AL.c5 Aa Aa Aa Aa Aa AL.nil) (sC (sC (sC (sC (sS sN))))))
   ·refine A3 (AT (Al (wm Aa (wm Aa (ck hE λgd ge=>wv (r:=AU 4 (Ax Ab (List.drop (Bi ha) v))) (MI CX DL Aa Aa gd) (ob ge λhh gf gg=>Di Tryz.call89 (O0 F (List.drop (Bi ha) v) hh gf) Aa (wm Aa (wv (A4 Aa Aa) (wv (A4 Aa Aa) (wv (A4 Aa Aa) (BR (cs:=[As 0,As 0,rB false,rB false]) Pu Aa Aa (λh1=>?_))))))))))));refine wa Aa (Bj (i:=0) E4 Aa Aa Aa (Cj.c Aa) Aa Aa (cs':=[As hh.2.1.fDepth,As hh.2.1.fBytes,rB hh.2.1.fOutside,rB hh.2.1.fLong]) Aa (H':=[.blk h1 (AV hh.2.1) 124,.blk hd [rB hi] 4,.blk he [rP hb 0] 143,.bld 146 5 hb hk hj,.blk hf (Ab c) 83]) Aa (wa Aa (Au (Aq (Al (wm Aa (wm Aa (wm Aa (wm Aa (wm Aa (wm Aa (ck gg λhu gh=>wv (BJ Aa Aa hu) (wm Aa (wm Aa (wv (BJ Aa Aa hu) (ck gh λgi gj=>ck gj λgl gm=>wv (r:=AU 4 (Ax Ab (List.take (Bi (ha+hh.1)-Bi ha) (List.drop (Bi ha) v)))) (MH CX DL Aa Aa Aa Aa gi gl) (ob gm λhw gp gq=>Oz (rs:=[rS ([]:An),AU 4 (Ax Ab (List.take (Bi (ha+hh.1)-Bi ha) (List.drop (Bi ha) v)))]) (Hin:=[.blk hd [rB hi] 4,.blk he [rP hb 0] 143,.bld 146 5 hb hk hj,.blk hf (Ab c) 83]) (Hr:=[.blk h1 (AV hh.2.1) 124]) Tryz.call146 Aa Aa ((Ak (i:=1) Aa).trans (Zo _ ((Ak (i:=1) Aa).trans (Zo _ ((Ak (i:=1) Aa).trans (Zo _ ((Ak (i:=1) Aa).trans (Zo _ (Zp _))))))))) (hx hd he hb hk hf ([]:An) (List.take (Bi (ha+hh.1)-Bi ha) (List.drop (Bi ha) v)) hi hj c hw gp) Aa ?_)))))))))))))))));rintro _ _ ⟨v222,rfl,rfl⟩;refine wv (B7 Aa) (Au (cz gq Aa (λgr gs=>?_) (λgr gt=>?_)))
    ·refine A0 (Af (AD (Af (Af (Bg ?_)))));have gu:=BG gs hl hr;refine AD ?_;obtain rfl:=A1 gu;exact Az (SL Tryz.results145) (sC (sC (sC (sC (sS sN))))) ⟨v222,Aa,Aa⟩
    ·refine A3 (AT (At (wm Aa (wm Aa (wv (BJ Aa Aa hu) (wa Aa (Av (AH (AT (At (ck gt λgv gw=>wv (BJ Aa Aa gv) (wm Aa (Av ?_)))))))))))));have gx:=B8 gw hl;exact A5 (AK (hy,(ha+hh.1,ho+1,hw.2.1,hw.2.2),v222) ⟨gx,Z3 _⟩ (AL.c5 Aa Aa Aa Aa Aa AL.nil) (sC (sC (sC (sC (sS sN))))))
  ·refine BB (A9 ?_);have gy:=Cv hB hl hr;exact A9 (Bh (AK ((hi,hj),hk) gy AL.nil (sC (sC (sC (sC sN))))))
 ·rintro⟨⟨h3,h4⟩,h5⟩ hq;refine CJ (l':=[]) (H':=[.blk hd [rB h3] 4,.blk he [rP hb 0] 143,.bld 146 5 hb h5 h4,.blk hf (Ab c) 83]) Aa Aa ?_;replace hq:Gt h3 h4=some r:=hq;unfold Gt at hq;refine Bf ?_;obtain rfl:=A1 hq;exact Gq (SL Tryz.results145) (sC (sC (sC (sC sN)))) ⟨h5,Aa,Aa⟩
theorem Gs:∀F:Nat,(∀(ha:Nat) (hb:Value) (l:An) (v:(List Ac)) (r:An),E7 F l v=some r→Fn Tryz.prog GE 110 [rP ha 0,AU 4 (Ax Ab v)] [.bld 146 5 ha hb l] (λR H=>∃w0b:Value,R=rv (.tuple #[])∧H=[.bld 146 5 ha w0b r]))∧(∀(hd:Nat) (he:Nat) (ha:Nat) (hb:Value) (hf:Nat) (key:An) (x:(List Ac)) (first:Bool) (l:An) (c:Ac) (r:Bool×Bool×An),DV F key x first l c=some r→Fn Tryz.prog GE 146 [rS key,AU 4 (Ax Ab x),rP hd 0,rP he 0,rP hf 0] [.blk hd [rB first] 4,.blk he [rP ha 0] 143,.bld 146 5 ha hb l,.blk hf (Ab c) 83] (λR H=>∃w3b:Value,R=rB r.1∧H=[.blk hd [rB r.2.1] 4,.blk he [rP ha 0] 143,.bld 146 5 ha w3b r.2.2,.blk hf (Ab c) 83]))∧(∀(hd:Nat) (he:Nat) (ha:Nat) (hb:Value) (hf:Nat) (v:(List Ac)) (first:Bool) (l:An) (c:Ac) (r:Bool×An),Ga F v first l c=some r→Fn Tryz.prog GE 145 [AU 4 (Ax Ab v),rv (.func (.func 146) #[] #[(.pointer (some ⟨hd,0,none⟩)),(.pointer (some ⟨he,0,none⟩)),(.pointer (some ⟨hf,0,none⟩))])] [.blk hd [rB first] 4,.blk he [rP ha 0] 143,.bld 146 5 ha hb l,.blk hf (Ab c) 83] (λR H=>∃w1_1b:Value,R=rv (.tuple #[])∧H=[.blk hd [rB r.1] 4,.blk he [rP ha 0] 143,.bld 146 5 ha w1_1b r.2,.blk hf (Ab c) 83]))
  | 0=>⟨(λ_ _ _ _ _ h=>by simp[E7] at h),(λ_ _ _ _ _ _ _ _ _ _ _ h=>by simp[DV] at h),(λ_ _ _ _ _ _ _ _ _ _ h=>by simp[Ga] at h)⟩
  | nn+1=>⟨(λha hb l v r h=>SA nn (DV nn) (Ga nn) (Gs nn).2.1 (Gs nn).2.2 ha hb l v r (by rw[E7] at h;exact h)),(λhd he ha hb hf key x first l c r h=>QG nn (E7 nn) (Gs nn).1 hd he ha hb hf key x first l c r (by rw[DV] at h;exact h)),(λhd he ha hb hf v first l c r h=>QF nn (DV nn) (Gs nn).2.1 hd he ha hb hf v first l c r (by rw[Ga] at h;exact h))⟩
theorem TX (F:Nat)(ha:Nat)(hb:Value)(l:An)(v:(List Ac))(r:An)(h:E7 F l v=some r):Fn Tryz.prog GE 110 [rP ha 0,AU 4 (Ax Ab v)] [.bld 146 5 ha hb l] (λR H=>∃w0b:Value,R=rv (.tuple #[])∧H=[.bld 146 5 ha w0b r]):=(Gs F).1 ha hb l v r h
theorem SE (F:Nat)(v:(List Ac))(r:An×Int)(h:Ki F v=some r):Fn Tryz.prog GE 80 [AU 4 (Ax Ab v)] [] (λR H=>R=Cn [rS r.1,As r.2]∧H=[]):=by
 refine enter (n:=14) Tryz.func80 Aa Tryz.ntmps80 Aa (λw Z=>?_);unfold Ki at h;refine Al (wv (r:=rS ([]:An)) (A7 Aa) (wa Aa (Au (Aq (Al (wm Aa (ob h λr1 e3 h2=>Di TN (I2 F v r1 e3) Aa (wa Aa (Bk (wm Aa (wv (Cr Aa Aa) (Au (cz h2 Aa (λc4 h5=>?_) (λc4 h6=>?_))))))))))))))
 ·refine Al (wm Aa (wv (r:=rS ([]:An)) (A7 Aa) (wa Aa (Au (A0 (Af ?_))))));obtain rfl:=A1 h5;exact Az (Dq Tryz.results80 (AI Aa) (AI Aa)) sN ⟨Aa,Aa⟩
 ·refine A3 (AT (Al (BR (cs:=[rv (.pointer none),rv (.slice none 0 0)]) Tryz.zeroValue146 Aa Aa (λb7=>?_))));refine Bk (wm Aa (WL.tobld (te:=5) (i:=0) Aa (ob h6 λr8 hb h9=>CV (Hr:=[]) P2 (TX F b7 (.slice none 0 0) ([]:An) v r8 hb) Aa (Zp _) Aa ?_)));rintro _ _ ⟨ha,rfl,rfl⟩;refine Bk (ck h9 λhd he=>Cu (rs:=[rP b7 0]) (Hin:=[.bld 146 5 b7 ha r8]) (Hr:=[]) Tryz.call111 Aa (Zp _) (T3 b7 ha r8  hd) Aa ?_);rintro _ _ ⟨rfl,rfl⟩;refine wa Aa (wa Aa (Au (A0 ?_)));obtain rfl:=A1 he;exact Az (Dq Tryz.results80 (AI Aa) (AI Aa)) sN ⟨Aa,Aa⟩
end Go.Proofs.YtfobhhegpkinaaaGreatDoor.Q
namespace Go.Proofs.YtfobhhegpkinaaaGreatDoor
open Go
set_option linter.unusedVariables false
structure A6 where
 fS:An
 fAt:Int
 fCells:(List Ac)
 fGreat:Bool
 deriving DecidableEq,Inhabited
def I4 (s:An)(p:An):Option (Bool):=
 Bc (imp (decide ((p.length:Int)≤(s.length:Int))) (Ep (p.length:Int) (s.length:Int)))<|some ((decide ((p.length:Int)≤(s.length:Int)))&&(decide ((List.take (Int.toNat (p.length:Int)) s)=p)))
def Jq (s:An)(p:An):Option (Bool):=
 Bq (I4 s p) λr1=>some r1
def EG (q:A6)(s:An):Option (Bool×A6):=
 Bc (Ep q.fAt (q.fS.length:Int))<|Bq (Jq (List.drop (Int.toNat q.fAt) q.fS) s) λr3=>B0 (!r3) (some (false,q)) (Bc (BS .i64 (q.fAt+(s.length:Int)))<|some (true,(A6.mk q.fS (q.fAt+(s.length:Int)) q.fCells q.fGreat)))
def I1 (ha:(List Int))(hb:Int)(hd:Int):Option (Stp ((List Int)×Int) (Out (An×Bool×A6) (Int))):=
 Bc (Dp 1 (ha.length+([hb]:List Int).length))<|some (.next (ha++([hb]:List Int),hd))
def Ke (r1:Bool×A6)(hb:(List Int))(ha:Int):Option (Stp ((List Int)×Int) (Out (An×Bool×A6) (Int))):=
 B0 (decide (ha<(r1.2.fS.length:Int))) (Bc (CR ha (r1.2.fS.length:Int))<|Bc (BS .i64 (ha+1))<|B0 (decide ((Bu r1.2.fS ha)=34)) (some (.out (.ret (OG hb,true,(A6.mk r1.2.fS (ha+1) r1.2.fCells r1.2.fGreat))))) (B0 (((decide ((Bu r1.2.fS ha)<32))||(decide (126<(Bu r1.2.fS ha))))) (some (.out (.ret (([]:An),false,(A6.mk r1.2.fS (ha+1) r1.2.fCells r1.2.fGreat))))) (B0 (decide ((Bu r1.2.fS ha)=92)) (Bc (imp (!(decide ((r1.2.fS.length:Int)≤(ha+1)))) (CR (ha+1) (r1.2.fS.length:Int)))<|B0 (((decide ((r1.2.fS.length:Int)≤(ha+1)))||((!decide ((Bu r1.2.fS (ha+1))=34))&&(!decide ((Bu r1.2.fS (ha+1))=92))))) (some (.out (.ret (([]:An),false,(A6.mk r1.2.fS (ha+1) r1.2.fCells r1.2.fGreat))))) (Bc (CR (ha+1) (r1.2.fS.length:Int))<|Bc (BS .i64 ((ha+1)+1))<|I1 hb (Bu r1.2.fS (ha+1)) ((ha+1)+1))) (I1 hb (Bu r1.2.fS ha) (ha+1))))) (some (.out (.go ha)))
def Kd (r1:Bool×A6)(ha:Int):Option (An×Bool×A6):=
 some (([]:An),false,(A6.mk r1.2.fS ha r1.2.fCells r1.2.fGreat))
def RB (F:Nat)(q:A6):Option (An×Bool×A6):=
 Bq (EG q ([34]:An)) λr1=>B0 (!r1.1) (some (([]:An),false,r1.2)) (Bq (Cz (λσ=>Ke r1 σ.1 σ.2) F (([]:List Int),r1.2.fAt)) (Ch λν=>Kd r1 ν))
def Kg (r1:Bool×A6)(ha:Int):Option (Stp (Int) (Out (Bool×A6) (Int))):=
 Bc (imp (decide (ha<(r1.2.fS.length:Int))) (CR ha (r1.2.fS.length:Int)))<|B0 (((decide (ha<(r1.2.fS.length:Int)))&&((decide (48≤(Bu r1.2.fS ha)))&&(decide ((Bu r1.2.fS ha)≤57))))) (Bc (BS .i64 (ha+1))<|some (.next (ha+1))) (some (.out (.go ha)))
def Kf (q:A6)(r1:Bool×A6)(ha:Int):Option (Bool×A6):=
 Bc (Ep q.fAt ha)<|Bc (Ep ha (r1.2.fS.length:Int))<|Bc (Dp 1 (List.take (Int.toNat ha-Int.toNat q.fAt) (List.drop (Int.toNat q.fAt) r1.2.fS)).length)<|B0 (((decide ((Ce (List.take (Int.toNat ha-Int.toNat q.fAt) (List.drop (Int.toNat q.fAt) r1.2.fS)))=1))||(decide (r1.2.fAt=ha)))) (some (false,(A6.mk r1.2.fS ha r1.2.fCells r1.2.fGreat))) (Bc (Dp 40 (r1.2.fCells.length+([(Ac.mk 3 (AS (List.take (Int.toNat ha-Int.toNat q.fAt) (List.drop (Int.toNat q.fAt) r1.2.fS))) ([]:An) 0)]:List Ac).length))<|some (true,(A6.mk r1.2.fS ha (r1.2.fCells++([(Ac.mk 3 (AS (List.take (Int.toNat ha-Int.toNat q.fAt) (List.drop (Int.toNat q.fAt) r1.2.fS))) ([]:An) 0)]:List Ac)) (r1.2.fGreat||(!decide ((Ce (List.take (Int.toNat ha-Int.toNat q.fAt) (List.drop (Int.toNat q.fAt) r1.2.fS)))=0))))))
def TY (F:Nat)(q:A6):Option (Bool×A6):=
 Bq (EG q ([45]:An)) λr1=>Bq (Cz (λσ=>Kg r1 σ) F r1.2.fAt) (Ch λν=>Kf q r1 ν)
def D8 (ha:An)(hb:Int)(hd:(List Ac))(he:Bool):Option (Bool×A6):=
 some (true,(A6.mk ha hb hd he))
def M0 (F:Nat)(q:A6):Option (Bool×A6):=
 Bq (EG q ([110,117,108,108]:An)) λhd=>B0 (hd.1) (Bc (Dp 40 (hd.2.fCells.length+([(Ac.mk 1 0 ([]:An) 0)]:List Ac).length))<|D8 hd.2.fS hd.2.fAt (hd.2.fCells++([(Ac.mk 1 0 ([]:An) 0)]:List Ac)) hd.2.fGreat) (Bq (EG hd.2 ([116,114,117,101]:An)) λhe=>B0 (he.1) (Bc (Dp 40 (he.2.fCells.length+([(Ac.mk 2 1 ([]:An) 0)]:List Ac).length))<|D8 he.2.fS he.2.fAt (he.2.fCells++([(Ac.mk 2 1 ([]:An) 0)]:List Ac)) he.2.fGreat) (Bq (EG he.2 ([102,97,108,115,101]:An)) λha=>B0 (ha.1) (Bc (Dp 40 (ha.2.fCells.length+([(Ac.mk 2 0 ([]:An) 0)]:List Ac).length))<|D8 ha.2.fS ha.2.fAt (ha.2.fCells++([(Ac.mk 2 0 ([]:An) 0)]:List Ac)) ha.2.fGreat) (Bc (Ep ha.2.fAt (ha.2.fS.length:Int))<|Bq (Jq (List.drop (Int.toNat ha.2.fAt) ha.2.fS) ([34]:An)) λhg=>B0 (hg) (Bq (RB F ha.2) λhb=>B0 (!hb.2.1) (some (false,hb.2.2)) (Bc (Dp 40 (hb.2.2.fCells.length+([(Ac.mk 4 0 hb.1 0)]:List Ac).length))<|D8 hb.2.2.fS hb.2.2.fAt (hb.2.2.fCells++([(Ac.mk 4 0 hb.1 0)]:List Ac)) hb.2.2.fGreat)) (Bq (TY F ha.2) λhf=>some (hf.1,hf.2)))))
def H7 (hg:A6→Option (Bool×A6))(hd:(List Ac))(he:Int)(hh:An)(hi:Int)(hj:(List Ac))(hk:Bool):Option (Stp (Int×An×Int×(List Ac)×Bool) (Out (Bool×A6) (Unit))):=
 Bq (hg (A6.mk hh hi hj hk)) λha=>B0 (!ha.1) (some (.out (.ret (false,ha.2)))) (Bc (CR (hd.length:Int) (ha.2.fCells.length:Int))<|JX (List.set ha.2.fCells (Int.toNat (hd.length:Int)) (Ac.mk ((Ap ha.2.fCells (hd.length:Int)).fKind) ((Ap ha.2.fCells (hd.length:Int)).fInt) ((Ap ha.2.fCells (hd.length:Int)).fStr) he)) λhl=>Bq (EG (A6.mk ha.2.fS ha.2.fAt hl ha.2.fGreat) ([93]:An)) λhf=>B0 (hf.1) (some (.out (.ret (true,hf.2)))) (Bq (EG hf.2 ([44]:An)) λhb=>B0 (!hb.1) (some (.out (.ret (false,hb.2)))) (Bc (BS .i64 (he+1))<|some (.next (he+1,hb.2.fS,hb.2.fAt,hb.2.fCells,hb.2.fGreat)))))
def Mz :Option (Bool×A6):=
 none
def DW (hl:A6→Option (Bool×A6))(hd:(List Ac))(he:Int)(hf:An×Bool×A6)(ho:Bool)(hp:Bool)(hm:Bool)(hi:An)(hj:Int)(hg:(List Ac))(hk:Bool):Option (Stp (An×Int×An×Int×(List Ac)×Bool) (Out (Bool×A6) (Unit))):=
 B0 (hm) (some (.out (.ret (false,(A6.mk hi hj hg hk))))) (Bc (Dp 40 (hg.length+([(Ac.mk 4 0 hf.1 0)]:List Ac).length))<|Bq (hl (A6.mk hi hj (hg++([(Ac.mk 4 0 hf.1 0)]:List Ac)) hk)) λha=>B0 (!ha.1) (some (.out (.ret (false,ha.2)))) (Bc (CR (hd.length:Int) (ha.2.fCells.length:Int))<|JX (List.set ha.2.fCells (Int.toNat (hd.length:Int)) (Ac.mk ((Ap ha.2.fCells (hd.length:Int)).fKind) ((Ap ha.2.fCells (hd.length:Int)).fInt) ((Ap ha.2.fCells (hd.length:Int)).fStr) he)) λhn=>Bq (EG (A6.mk ha.2.fS ha.2.fAt hn ha.2.fGreat) ([125]:An)) λhh=>B0 (hh.1) (some (.out (.ret (true,hh.2)))) (Bq (EG hh.2 ([44]:An)) λhb=>B0 (!hb.1) (some (.out (.ret (false,hb.2)))) (Bc (BS .i64 (he+1))<|some (.next (hf.1,he+1,hb.2.fS,hb.2.fAt,hb.2.fCells,hb.2.fGreat))))))
def H6 (F:Nat)(hg:A6→Option (Bool×A6))(hh:(List Ac))(hb:An)(hd:Int)(hi:An)(hj:Int)(hk:(List Ac))(hl:Bool):Option (Stp (An×Int×An×Int×(List Ac)×Bool) (Out (Bool×A6) (Unit))):=
 Bq (RB F (A6.mk hi hj hk hl)) λha=>B0 (!ha.2.1) (DW hg hh hd ha true true true ha.2.2.fS ha.2.2.fAt ha.2.2.fCells ha.2.2.fGreat) (B0 (decide (1<hd)) (B0 (Cp ha.1 hb||decide (ha.1=hb)) (DW hg hh hd ha (Cp ha.1 hb||decide (ha.1=hb)) (Cp ha.1 hb||decide (ha.1=hb)) true ha.2.2.fS ha.2.2.fAt ha.2.2.fCells ha.2.2.fGreat) (Bq (EG ha.2.2 ([58]:An)) λhe=>DW hg hh hd ha (Cp ha.1 hb||decide (ha.1=hb)) (Cp ha.1 hb||decide (ha.1=hb)) (!he.1) he.2.fS he.2.fAt he.2.fCells he.2.fGreat)) (Bq (EG ha.2.2 ([58]:An)) λhf=>DW hg hh hd ha false false (!hf.1) hf.2.fS hf.2.fAt hf.2.fCells hf.2.fGreat))
def My :Option (Bool×A6):=
 none
def Gu (F:Nat)(hh:A6→Option (Bool×A6))(r1:Bool×A6)(hj:Bool)(he:An)(hf:Int)(ha:(List Ac))(hg:Bool):Option (Bool×A6):=
 B0 (hj) (Bq (M0 F (A6.mk he hf ha hg)) λhi=>some (hi.1,hi.2)) (B0 (r1.1) (Bc (Dp 40 (ha.length+([(Ac.mk 5 0 ([]:An) 0)]:List Ac).length))<|Bq (EG (A6.mk he hf (ha++([(Ac.mk 5 0 ([]:An) 0)]:List Ac)) hg) ([93]:An)) λhb=>B0 (hb.1) (some (true,hb.2)) (Bq (Cz (λσ=>H7 hh ha σ.1 σ.2.1 σ.2.2.1 σ.2.2.2.1 σ.2.2.2.2) F (1,hb.2.fS,hb.2.fAt,hb.2.fCells,hb.2.fGreat)) (Ch λν=>Mz ))) (Bc (Dp 40 (ha.length+([(Ac.mk 6 0 ([]:An) 0)]:List Ac).length))<|Bq (EG (A6.mk he hf (ha++([(Ac.mk 6 0 ([]:An) 0)]:List Ac)) hg) ([125]:An)) λhd=>B0 (hd.1) (some (true,hd.2)) (Bq (Cz (λσ=>H6 F hh ha σ.1 σ.2.1 σ.2.2.1 σ.2.2.2.1 σ.2.2.2.2.1 σ.2.2.2.2.2) F (([]:An),1,hd.2.fS,hd.2.fAt,hd.2.fCells,hd.2.fGreat)) (Ch λν=>My ))))
def Mx (F:Nat)(hb:A6→Option (Bool×A6))(q:A6):Option (Bool×A6):=
 Bq (EG q ([91]:An)) λr1=>B0 (!r1.1) (Bq (EG r1.2 ([123]:An)) λha=>Gu F hb r1 (!ha.1) ha.2.fS ha.2.fAt ha.2.fCells ha.2.fGreat) (Gu F hb r1 false r1.2.fS r1.2.fAt r1.2.fCells r1.2.fGreat)
def H8:Nat→A6→Option (Bool×A6)
 | 0,_=>none
 | nn+1,q=>Mx nn (H8 nn) q
def Gv (F:Nat)(hb:Bool)(hf:An)(hg:Int)(hd:(List Ac))(he:Bool):Option ((List Ac)×Int):=
 B0 (hb) (some (([]:List Ac),1)) (B0 (he) (some (([]:List Ac),2)) (Bq (M7 F hd) λha=>some (ha.1,ha.2)))
def LS (F:Nat)(s:An):Option ((List Ac)×Int):=
 B0 (decide (4000<(s.length:Int))) (some (([]:List Ac),3)) (Bq (H8 F (A6.mk s 0 ([]:List Ac) false)) λha=>B0 (!ha.1) (Gv F true ha.2.fS ha.2.fAt ha.2.fCells ha.2.fGreat) (Gv F (!decide (ha.2.fAt=(s.length:Int))) ha.2.fS ha.2.fAt ha.2.fCells ha.2.fGreat))
end Go.Proofs.YtfobhhegpkinaaaGreatDoor
namespace Go.Proofs.YtfobhhegpkinaaaGreatDoor.Q
open Go Go.RowKit
set_option linter.unusedVariables false
set_option linter.unusedSimpArgs false
set_option maxRecDepth 100000
set_option maxHeartbeats 4000000
theorem HT:∃inf,Tryz.prog.info? 83=some inf∧inf.zero=some (.agg #[(.int .i64 0),(.int .i64 0),(.string ⟨#[]⟩),(.int .i64 0)])∧inf.size=4∧inf.bytes=40:=by
  have key:(Tryz.prog.info? 83).map (λi=>(i.zero,i.size,i.bytes))=some (some (.agg #[(.int .i64 0),(.int .i64 0),(.string ⟨#[]⟩),(.int .i64 0)]),4,40):=by kernel_rfl
  obtain⟨inf,h1,h2⟩:=Option.map_eq_some_iff.1 key;simp only[Prod.mk.injEq] at h2;exact⟨inf,h1,h2.1,h2.2.1,h2.2.2⟩
theorem Pj (parts:List (Nat×Value)):Tryz.prog.built 83 parts=Instr.fill (λi=>(#[(0,1),(1,1),(2,1),(3,1)]:Array (Nat×Nat))[i]?) #[(.int .i64 0),(.int .i64 0),(.string ⟨#[]⟩),(.int .i64 0)] parts:=by kernel_rfl
theorem G7 {n:Nat}{c:Cx}{l:Fr}{H:List Ent}{d:Option Nat}{ty:TypeId}{pos:String}{af:Array Edge}{g:Option (Nat×Bool)}{x0:Operand}{r0:Rp}(h0:ev l x0=some r0)(u0:r0.one=true):Be Tryz.prog n c l H { dst:=d,op:=.build 83 #[(0,x0)],type:=ty,pos:=pos,after:=af,guard:=g } (B9 [r0,As 0,rS ([]:An),As 0]):=λa w Z ha _=>by
  have p0:=ha.ev h0;have c0:=Bl (r0.hone u0 Z _ p0);have hb:Tryz.prog.built 83 [(0,a.eval x0)]=some #[a.eval x0,(.int .i64 0),(.string ⟨#[]⟩),(.int .i64 0)]:=by
    rw[Pj];generalize a.eval x0=v0 at *;simp[Instr.fill,c0]
  refine⟨.agg #[a.eval x0,(.int .i64 0),(.string ⟨#[]⟩),(.int .i64 0)],⟨[a.eval x0,(.int .i64 0),(.string ⟨#[]⟩),(.int .i64 0)],rfl,p0,rfl,rfl,rfl,trivial⟩,?_⟩;have:=run_build w 83 #[(0,a.eval x0)] _ (by simpa using hb);simp[execOp,this]
theorem GV {n:Nat}{c:Cx}{l:Fr}{H:List Ent}{d:Option Nat}{ty:TypeId}{pos:String}{af:Array Edge}{g:Option (Nat×Bool)}{x0:Operand}{r0:Rp}(h0:ev l x0=some r0)(u0:r0.one=true){x1:Operand}{r1:Rp}(h1:ev l x1=some r1)(u1:r1.one=true):Be Tryz.prog n c l H { dst:=d,op:=.build 83 #[(0,x0),(1,x1)],type:=ty,pos:=pos,after:=af,guard:=g } (B9 [r0,r1,rS ([]:An),As 0]):=λa w Z ha _=>by
  have p0:=ha.ev h0;have c0:=Bl (r0.hone u0 Z _ p0);have p1:=ha.ev h1;have c1:=Bl (r1.hone u1 Z _ p1);have hb:Tryz.prog.built 83 [(0,a.eval x0),(1,a.eval x1)]=some #[a.eval x0,a.eval x1,(.string ⟨#[]⟩),(.int .i64 0)]:=by
    rw[Pj];generalize a.eval x0=v0 at *;generalize a.eval x1=v1 at *;simp[Instr.fill,c0,c1]
  refine⟨.agg #[a.eval x0,a.eval x1,(.string ⟨#[]⟩),(.int .i64 0)],⟨[a.eval x0,a.eval x1,(.string ⟨#[]⟩),(.int .i64 0)],rfl,p0,p1,rfl,rfl,trivial⟩,?_⟩;have:=run_build w 83 #[(0,a.eval x0),(1,a.eval x1)] _ (by simpa using hb);simp[execOp,this]
theorem J5 {n:Nat}{c:Cx}{l:Fr}{H:List Ent}{d:Option Nat}{ty:TypeId}{pos:String}{af:Array Edge}{g:Option (Nat×Bool)}{x0:Operand}{r0:Rp}(h0:ev l x0=some r0)(u0:r0.one=true){x2:Operand}{r2:Rp}(h2:ev l x2=some r2)(u2:r2.one=true):Be Tryz.prog n c l H { dst:=d,op:=.build 83 #[(0,x0),(2,x2)],type:=ty,pos:=pos,after:=af,guard:=g } (B9 [r0,As 0,r2,As 0]):=λa w Z ha _=>by
  have p0:=ha.ev h0;have c0:=Bl (r0.hone u0 Z _ p0);have p2:=ha.ev h2;have c2:=Bl (r2.hone u2 Z _ p2);have hb:Tryz.prog.built 83 [(0,a.eval x0),(2,a.eval x2)]=some #[a.eval x0,(.int .i64 0),a.eval x2,(.int .i64 0)]:=by
    rw[Pj];generalize a.eval x0=v0 at *;generalize a.eval x2=v2 at *;simp[Instr.fill,c0,c2]
  refine⟨.agg #[a.eval x0,(.int .i64 0),a.eval x2,(.int .i64 0)],⟨[a.eval x0,(.int .i64 0),a.eval x2,(.int .i64 0)],rfl,p0,rfl,p2,rfl,trivial⟩,?_⟩;have:=run_build w 83 #[(0,a.eval x0),(2,a.eval x2)] _ (by simpa using hb);simp[execOp,this]
theorem V5 (parts:List (Nat×Value)):Tryz.prog.built 166 parts=Instr.fill (λi=>(#[(0,1),(1,1),(2,1),(3,1)]:Array (Nat×Nat))[i]?) #[(.string ⟨#[]⟩),(.int .i64 0),((.slice none 0 0)),(.bool false)] parts:=by kernel_rfl
theorem OK {n:Nat}{c:Cx}{l:Fr}{H:List Ent}{d:Option Nat}{ty:TypeId}{pos:String}{af:Array Edge}{g:Option (Nat×Bool)}{x0:Operand}{r0:Rp}(h0:ev l x0=some r0)(u0:r0.one=true):Be Tryz.prog n c l H { dst:=d,op:=.build 166 #[(0,x0)],type:=ty,pos:=pos,after:=af,guard:=g } (B9 [r0,As 0,rv (.slice none 0 0),rB false]):=λa w Z ha _=>by
  have p0:=ha.ev h0;have c0:=Bl (r0.hone u0 Z _ p0);have hb:Tryz.prog.built 166 [(0,a.eval x0)]=some #[a.eval x0,(.int .i64 0),((.slice none 0 0)),(.bool false)]:=by
    rw[V5];generalize a.eval x0=v0 at *;simp[Instr.fill,c0]
  refine⟨.agg #[a.eval x0,(.int .i64 0),((.slice none 0 0)),(.bool false)],⟨[a.eval x0,(.int .i64 0),((.slice none 0 0)),(.bool false)],rfl,p0,rfl,rfl,rfl,trivial⟩,?_⟩;have:=run_build w 166 #[(0,a.eval x0)] _ (by simpa using hb);simp[execOp,this]
theorem Nx (s:An)(p:An)(r:Bool)(h:I4 s p=some r):Fn Tryz.prog GE 202 [rS s,rS p] [] (λR H=>R=rB r∧H=[]):=by
 refine enter (n:=18) Tryz.func202 Aa Tryz.ntmps202 Aa (λw Z=>?_);unfold I4 at h;refine Al (wa Aa (Au (ck h λg1 h2=>AR [(4,rB ((decide ((p.length:Int)≤(s.length:Int)))&&(decide ((List.take (Bi (p.length:Int)) s)=p))))] [] ?_ ?_)))
 ·refine At (wm Aa (wv (BA C4 Aa) (wm Aa (wv (BA C4 Aa) (wv (Iq Aa Aa) (wm Aa (AX (decide ((p.length:Int)≤(s.length:Int))) (λc3=>?_) (λc3=>?_))))))))
  ·refine wo c3 (wm Aa (wo c3 (wm Aa (wo c3 (wv (BA C4 Aa) (wo c3 (wv (JM C4 Aa Aa (Em g1 c3)) (wo c3 (wm Aa (wo c3 (wv (I8 Aa Aa) (JF Aa c3 Aa (wa Aa (Av ?_))))))))))))));exact CF c3
  ·refine wf c3 (wf c3 (wf c3 (wf c3 (wf c3 (wf c3 (wv (r:=rB false) (AF Aa c3 Aa) (wa Aa (Av ?_))))))));exact CF c3
 refine A0 ?_;obtain rfl:=A1 h2;exact Az (BW Tryz.results202 (AI Aa)) sN ⟨Aa,Aa⟩
theorem L5 (s:An)(p:An)(r:Bool)(h:Jq s p=some r):Fn Tryz.prog GE 184 [rS s,rS p] [] (λR H=>R=rB r∧H=[]):=by
 refine enter (n:=8) Tryz.func184 Aa Tryz.ntmps184 Aa (λw Z=>?_);unfold Jq at h;refine Al (wa Aa (Bk (wm Aa (wm Aa (ob h λr1 e3 h2=>Di Tryz.call202 (Nx s p r1 e3) Aa (wa Aa (Au (A0 ?_))))))));obtain rfl:=A1 h2;exact Az (BW Tryz.results184 (AI Aa)) sN ⟨Aa,Aa⟩
theorem Dv (ha:Nat)(hb:Value)(q:A6)(s:An)(r:Bool×A6)(h:EG q s=some r):Fn Tryz.prog GE 159 [rP ha 0,rS s] [.blk ha [rS q.fS,As q.fAt,rv hb,rB q.fGreat] 166,.row hb 83 4 (Ax Ab q.fCells)] (λR H=>∃w0_2:Value,R=rB r.1∧H=[.blk ha [rS r.2.fS,As r.2.fAt,rv w0_2,rB r.2.fGreat] 166,.row w0_2 83 4 (Ax Ab r.2.fCells)]):=by
 refine enter (n:=26) Tryz.func159 Aa Tryz.ntmps159 Aa (λw Z=>?_);unfold EG at h;refine Al (wa Aa (Au (Aq (Aq (ck h λg1 h2=>ob h2 λr3 e5 h4=>Dm [0,1] [⟨[],rP ha 0,0⟩,⟨[0],rP ha 0,0⟩,⟨[1],rP ha 0,0⟩,⟨[2],rS q.fS,1⟩,⟨[],rP ha 0,0⟩,⟨[4],rP ha 0,0⟩,⟨[5],rP ha 1,0⟩,⟨[6],As q.fAt,1⟩,⟨[3,7],rS (List.drop (Bi q.fAt) q.fS),0⟩,⟨[],rS s,0⟩,⟨[8,9],rB r3,0⟩,⟨[10],rB (!r3),0⟩] [16,0,1] ?_ ?_)))))
 ·refine oq (Aw Aa) (oq (A2 Aa) (oq (Ay B2 Aa Cs Aa Aa) (of (AQ (i:=0) C7 Aa Aa Aa) (oq (Aw Aa) (oq (A2 Aa) (oq (Ay B2 Aa C2 Aa Aa) (of (AQ (i:=0) CQ Aa Aa Aa) (oq (Dx C4 Aa Aa g1) (oq (Aw Aa) (J3 Aa (λH=>Et Tryz.call184 (L5 (List.drop (Bi q.fAt) q.fS) s r3 e5) Aa) ?_))))))))));refine oq (B7 Aa) ?_;exact C9
 refine AT (cz h4 Aa (λc6 h7=>?_) (λc6 h8=>?_))
 ·refine Al (wa Aa (Au (A0 (Af ?_))));obtain rfl:=A1 h7;exact Az (BW Tryz.results159 (AI Aa)) (sC (sC sN)) ⟨hb,Aa,Aa⟩
 ·refine A3 (AT (Al (wm Aa (wv (A2 Aa) (vF B2 Aa C2 (vL 0 CQ Aa (wm Aa (wv (BA C4 Aa) (ck h8 λg9 hd=>wv (BJ Aa Aa g9) (wv (A2 Aa) (vF B2 Aa C2 (Bv (i:=0) C2 Aa Aa (Bw Aa) Aa Aa (cs':=[rS q.fS,As (q.fAt+(s.length:Int)),rv hb,rB q.fGreat]) Aa (H':=[.blk ha [rS q.fS,As (q.fAt+(s.length:Int)),rv hb,rB q.fGreat] 166,.row hb 83 4 (Ax Ab q.fCells)]) Aa (Bk (wa Aa (Au (A0 ?_))))))))))))))));obtain rfl:=A1 hd;exact Az (BW Tryz.results159 (AI Aa)) (sC (sC sN)) ⟨hb,Aa,Aa⟩
theorem RA (F:Nat)(ha:Nat)(hp:Value)(q:A6)(r:An×Bool×A6)(h:RB F q=some r):Fn Tryz.prog GE 161 [rP ha 0] [.blk ha [rS q.fS,As q.fAt,rv hp,rB q.fGreat] 166,.row hp 83 4 (Ax Ab q.fCells)] (λR H=>∃w0_2:Value,R=Cn [rS r.1,rB r.2.1]∧H=[.blk ha [rS r.2.2.fS,As r.2.2.fAt,rv w0_2,rB r.2.2.fGreat] 166,.row w0_2 83 4 (Ax Ab r.2.2.fCells)]):=by
 refine enter (n:=104) Tryz.func161 Aa Tryz.ntmps161 Aa (λw Z=>?_);unfold RB at h;refine Al (wv (r:=rS ([]:An)) (A7 Aa) (wa Aa (Au (Aq (Al (wm Aa (ob h λr1 e3 h2=>CV (Hr:=[]) Gp (Dv ha hp q ([34]:An) r1 e3) Aa (Zp _) Aa ?_)))))));rintro _ _ ⟨v4,rfl,rfl⟩;refine wv (B7 Aa) (Au (cz h2 Aa (λc5 h6=>?_) (λc5 h7=>?_)))
 ·refine Al (wv (r:=rS ([]:An)) (A7 Aa) (wa Aa (Au (A0 (Af ?_)))));obtain rfl:=A1 h6;exact Az (Dq P0 (AI Aa) (AI Aa)) (sC (sC sN)) ⟨v4,Aa,Aa⟩
 ·refine A3 (AT (Al (wa Aa (Au (Aq (AO (WC.nilrow (e:=5) (sz:=1) (G5 (H2:=[.blk ha [rS r1.2.fS,As r1.2.fAt,rv v4,rB r1.2.fGreat] 166,.row v4 83 4 (Ax Ab r1.2.fCells),.row (.slice none 0 0     ) 5 1 (Ax Bp ([]:List Int))]) ((Ak (i:=1) Aa).trans (Zo _ ((Ak (i:=1) Aa).trans (Zo _ (Zp _))))) (ob h7 λhu hw hk=>B4 (S:=Nat×((List Int)×Int)×(Value)) (V:=(Int)×(Unit)) 0 (λσ=>Cz (λσ=>Ke r1 σ.1 σ.2) σ.1 σ.2.1=some hu) (λσ=>[(0,rP ha 0),(4,rv σ.2.2)]) (λσ=>[.blk ha [rS r1.2.fS,As σ.2.1.2,rv v4,rB r1.2.fGreat] 166,.row v4 83 4 (Ax Ab r1.2.fCells),.row σ.2.2 5 1 (Ax Bp σ.2.1.1)]) (λσ=>σ.1) (F,(([]:List Int),r1.2.fAt),(.slice none 0 0     )) hw (AL.c Aa (AL.c Aa AL.nil)) (sC (sC (sC sN))) (λσ=>Kd r1 σ.1=some r) (λσ=>[]) (λσ=>[.blk ha [rS r1.2.fS,As σ.1,rv v4,rB r1.2.fGreat] 166,.row v4 83 4 (Ax Ab r1.2.fCells)]) ?_ ?_)))))))))
  ·rintro⟨ga,⟨hf,hb⟩,hg⟩ hx;refine Cf (l':=[(0,rP ha 0),(4,rv hg)]) (H':=[.blk ha [rS r1.2.fS,As hb,rv v4,rB r1.2.fGreat] 166,.row v4 83 4 (Ax Ab r1.2.fCells),.row hg 5 1 (Ax Bp hf)]) Aa Aa ?_;obtain⟨hy,rfl,hq,hl,hj⟩:=CO hx;replace hl:Ke r1 hf hb=some hq:=hl;unfold Ke at hl;refine Aq (Aq (Dm [0,4] [⟨[],rP ha 0,0⟩,⟨[0],rP ha 0,0⟩,⟨[1],rP ha 1,0⟩,⟨[2],As hb,1⟩,⟨[],rP ha 0,0⟩,⟨[4],rP ha 0,0⟩,⟨[5],rP ha 0,0⟩,⟨[6],rS r1.2.fS,1⟩,⟨[7],As (r1.2.fS.length:Int),0⟩,⟨[3,8],rB (decide (hb<(r1.2.fS.length:Int))),0⟩] [9,10,11,12,13,14,15,16,17,18,0,4] ?_ ?_))
   ·refine oq (Aw Aa) (oq (A2 Aa) (oq (Ay B2 Aa C2 Aa Aa) (of (AQ (i:=0) CQ Aa Aa Aa) (oq (Aw Aa) (oq (A2 Aa) (oq (Ay B2 Aa Cs Aa Aa) (of (AQ (i:=0) C7 Aa Aa Aa) (oq (BA C4 Aa) (oq (CZ Aa Aa) ?_)))))))));exact C9
   refine AT (cz hl Aa (λhz h0=>?_) (λhz h1=>?_))
   ·refine A3 (AT (AO (Aq (ck h0 λh3 h4=>Dm [0,4,9,10,11,12,13,14,15,16,17] [⟨[],rP ha 0,0⟩,⟨[0],rP ha 0,0⟩,⟨[1],rP ha 0,0⟩,⟨[2],rS r1.2.fS,1⟩,⟨[],rP ha 0,0⟩,⟨[4],rP ha 0,0⟩,⟨[5],rP ha 1,0⟩,⟨[6],As hb,1⟩,⟨[3,7],rI .u8 (Bu r1.2.fS hb),0⟩,⟨[8],rI .u8 (Bu r1.2.fS hb),0⟩] [19,20,21,22,23,24,25,26,27,5,0,4,9,10,11,12,13,14,15,16,17] ?_ ?_))))
    ·refine oq (Aw Aa) (oq (A2 Aa) (oq (Ay B2 Aa Cs Aa Aa) (of (AQ (i:=0) C7 Aa Aa Aa) (oq (Aw Aa) (oq (A2 Aa) (oq (Ay B2 Aa C2 Aa Aa) (of (AQ (i:=0) CQ Aa Aa Aa) (oq (B1 C4 Aa Aa h3) (oq (A7 Aa) ?_)))))))));exact C9
    refine AT (Al (wm Aa (wv (A2 Aa) (vF B2 Aa C2 (vL 0 CQ Aa (ck h4 λh5 h8=>wv (BJ Aa Aa h5) (wv (A2 Aa) (vF B2 Aa C2 (Bv (i:=0) C2 Aa Aa (Bw Aa) Aa Aa (cs':=[rS r1.2.fS,As (hb+1),rv v4,rB r1.2.fGreat]) Aa (H':=[.blk ha [rS r1.2.fS,As (hb+1),rv v4,rB r1.2.fGreat] 166,.row v4 83 4 (Ax Ab r1.2.fCells),.row hg 5 1 (Ax Bp hf)]) Aa (Au (C8 (S:=(Int×Int)×(Unit)) (λσ=>I1 hf σ.1.1 σ.1.2=some hq) (λσ=>[(0,rP ha 0),(4,rv hg),(5,rI .u8 σ.1.1),(9,rP ha 0),(10,rP ha 0),(11,rP ha 1),(12,As hb),(13,rP ha 0),(14,rP ha 0),(15,rP ha 0),(16,rS r1.2.fS),(17,As (r1.2.fS.length:Int)),(19,rP ha 0),(20,rP ha 0),(21,rP ha 0),(22,rS r1.2.fS),(23,rP ha 0),(24,rP ha 0),(25,rP ha 1),(26,As hb),(27,rI .u8 (Bu r1.2.fS hb))]) (λσ=>[.blk ha [rS r1.2.fS,As σ.1.2,rv v4,rB r1.2.fGreat] 166,.row v4 83 4 (Ax Ab r1.2.fCells),.row hg 5 1 (Ax Bp hf)]) ?_ ?_)))))))))))
    ·refine AO (Al (wm Aa (wv (BN Aa Aa) (wa Aa (Au (cz h8 Aa (λh9 hA=>?_) (λh9 hB=>?_)))))))
     ·refine Al (wm Aa (wv (r:=rS (OG hf)) (RU (xs:=hf) (i:=2) DO C4 Ov Aa Aa) (wa Aa (wa Aa (Au (A0 (AD (Af (AD (Af (Bg ?_)))))))))));have hC:=BG hA hj hk;refine AD (Af ?_);obtain rfl:=A1 hC;exact Az (Dq P0 (AI Aa) (AI Aa)) (sC (sC (sS sN))) ⟨v4,Aa,Aa⟩
     ·refine AR [(0,rP ha 0),(4,rv hg),(5,rI .u8 (Bu r1.2.fS hb)),(9,rP ha 0),(10,rP ha 0),(11,rP ha 1),(12,As hb),(13,rP ha 0),(14,rP ha 0),(15,rP ha 0),(16,rS r1.2.fS),(17,As (r1.2.fS.length:Int)),(19,rP ha 0),(20,rP ha 0),(21,rP ha 0),(22,rS r1.2.fS),(23,rP ha 0),(24,rP ha 0),(25,rP ha 1),(26,As hb),(27,rI .u8 (Bu r1.2.fS hb)),(40,rB ((decide ((Bu r1.2.fS hb)<32))||(decide (126<(Bu r1.2.fS hb)))))] [.blk ha [rS r1.2.fS,As (hb+1),rv v4,rB r1.2.fGreat] 166,.row v4 83 4 (Ax Ab r1.2.fCells),.row hg 5 1 (Ax Bp hf)] ?_ ?_
      ·refine At (wm Aa (wv (CZ Aa Aa) (wm Aa (AX (decide ((Bu r1.2.fS hb)<32)) (λhh=>?_) (λhh=>?_)))))
       ·refine wf hh (wf hh (wv (r:=rB true) (AA Aa hh Aa) (wa Aa (Av ?_))));exact CF hh
       ·refine wo hh (wm Aa (wo hh (wv (D4 Aa Aa) (Hc Aa hh Aa (wa Aa (Av ?_))))));exact CF hh
      refine cz hB Aa (λhD hE=>?_) (λhD hG=>?_)
      ·refine Al (wv (r:=rS ([]:An)) (A7 Aa) (wa Aa (Au (A0 (AD (Af (AD (Af (Bg ?_)))))))));have hH:=BG hE hj hk;refine AD (Af ?_);obtain rfl:=A1 hH;exact Az (Dq P0 (AI Aa) (AI Aa)) (sC (sC (sS sN))) ⟨v4,Aa,Aa⟩
      ·refine Al (wm Aa (wv (BN Aa Aa) (wa Aa (Au (cz hG Aa (λhI hJ=>?_) (λhI hK=>?_))))))
       ·refine Aq (ck hJ λhr hL=>AR [(0,rP ha 0),(4,rv hg),(9,rP ha 0),(10,rP ha 0),(11,rP ha 1),(12,As hb),(13,rP ha 0),(14,rP ha 0),(15,rP ha 0),(16,rS r1.2.fS),(17,As (r1.2.fS.length:Int)),(19,rP ha 0),(20,rP ha 0),(21,rP ha 0),(22,rS r1.2.fS),(23,rP ha 0),(24,rP ha 0),(25,rP ha 1),(26,As hb),(27,rI .u8 (Bu r1.2.fS hb)),(50,rP ha 0),(51,rP ha 0),(52,rP ha 1),(53,As (hb+1)),(54,rP ha 0),(55,rP ha 0),(56,rP ha 0),(57,rS r1.2.fS),(58,As (r1.2.fS.length:Int)),(59,rB (decide ((r1.2.fS.length:Int)≤(hb+1)))),(60,rB (decide ((r1.2.fS.length:Int)≤(hb+1)))),(83,rB ((decide ((r1.2.fS.length:Int)≤(hb+1)))||((!decide ((Bu r1.2.fS (hb+1))=34))&&(!decide ((Bu r1.2.fS (hb+1))=92)))))] [.blk ha [rS r1.2.fS,As (hb+1),rv v4,rB r1.2.fGreat] 166,.row v4 83 4 (Ax Ab r1.2.fCells),.row hg 5 1 (Ax Bp hf)] ?_ ?_)
        ·refine AX (decide ((r1.2.fS.length:Int)≤(hb+1))) (λhd=>?_) (λhd=>?_)
         ·refine Dm [0,4,9,10,11,12,13,14,15,16,17,19,20,21,22,23,24,25,26,27] [⟨[],rP ha 0,0⟩,⟨[0],rP ha 0,0⟩,⟨[1],rP ha 1,0⟩,⟨[2],As (hb+1),1⟩,⟨[],rP ha 0,0⟩,⟨[4],rP ha 0,0⟩,⟨[5],rP ha 0,0⟩,⟨[6],rS r1.2.fS,1⟩,⟨[7],As (r1.2.fS.length:Int),0⟩,⟨[3,8],rB (decide ((r1.2.fS.length:Int)≤(hb+1))),0⟩,⟨[9],rB (decide ((r1.2.fS.length:Int)≤(hb+1))),0⟩,⟨[10],rv undef,0⟩,⟨[11,10],rv undef,0⟩,⟨[12,10],rv undef,0⟩,⟨[13,10],rv undef,0⟩,⟨[10],rv undef,0⟩,⟨[15,10],rv undef,0⟩,⟨[16,10],rv undef,0⟩,⟨[17,10],rv undef,0⟩,⟨[14,18,10],rv undef,0⟩,⟨[19,10],rv undef,0⟩,⟨[20,10],rv undef,0⟩,⟨[21],rv undef,0⟩,⟨[22,21],rv undef,0⟩,⟨[23,21],rv undef,0⟩,⟨[24,21],rv undef,0⟩,⟨[21],rv undef,0⟩,⟨[26,21],rv undef,0⟩,⟨[27,21],rv undef,0⟩,⟨[28,21],rv undef,0⟩,⟨[25,29,21],rv undef,0⟩,⟨[30,21],rv undef,0⟩,⟨[21,31,10],rv undef,0⟩,⟨[10,32],rB true,0⟩] [50,51,52,53,54,55,56,57,58,59,60,61,62,63,64,65,66,67,68,69,70,71,72,73,74,75,76,77,78,79,80,81,82,83,0,4,9,10,11,12,13,14,15,16,17,19,20,21,22,23,24,25,26,27] ?_ ?_
          ·refine oq (Aw Aa) (oq (A2 Aa) (oq (Ay B2 Aa C2 Aa Aa) (of (AQ (i:=0) CQ Aa Aa Aa) (oq (Aw Aa) (oq (A2 Aa) (oq (Ay B2 Aa Cs Aa Aa) (of (AQ (i:=0) C7 Aa Aa Aa) (oq (BA C4 Aa) (oq (Iq Aa Aa) (oq (Aw Aa) (oz hd (oz hd (oz hd (oz hd (oz hd (oz hd (oz hd (oz hd (oz hd (oz hd (oz hd (ou (ou ?_)))))))))))))))))))))));refine ou (ou (ou (ou (ou (ou (ou (ou (oz hd (oq (AA (b:=decide ((r1.2.fS.length:Int)≤(hb+1))) Aa hd Aa) ?_)))))))));exact C9
          exact CF hd
         ·refine AX (!decide ((Bu r1.2.fS (hb+1))=34)) (λhe=>?_) (λhe=>?_)
          ·refine Dm [0,4,9,10,11,12,13,14,15,16,17,19,20,21,22,23,24,25,26,27] [⟨[],rP ha 0,0⟩,⟨[0],rP ha 0,0⟩,⟨[1],rP ha 1,0⟩,⟨[2],As (hb+1),1⟩,⟨[],rP ha 0,0⟩,⟨[4],rP ha 0,0⟩,⟨[5],rP ha 0,0⟩,⟨[6],rS r1.2.fS,1⟩,⟨[7],As (r1.2.fS.length:Int),0⟩,⟨[3,8],rB (decide ((r1.2.fS.length:Int)≤(hb+1))),0⟩,⟨[9],rB (decide ((r1.2.fS.length:Int)≤(hb+1))),0⟩,⟨[10],rP ha 0,0⟩,⟨[11,10],rP ha 0,0⟩,⟨[12,10],rP ha 0,0⟩,⟨[13,10],rS r1.2.fS,1⟩,⟨[10],rP ha 0,0⟩,⟨[15,10],rP ha 0,0⟩,⟨[16,10],rP ha 1,0⟩,⟨[17,10],As (hb+1),1⟩,⟨[14,18,10],rI .u8 (Bu r1.2.fS (hb+1)),0⟩,⟨[19,10],rB (!decide ((Bu r1.2.fS (hb+1))=34)),0⟩,⟨[20,10],rB (!decide ((Bu r1.2.fS (hb+1))=34)),0⟩,⟨[21],rP ha 0,0⟩,⟨[22,21],rP ha 0,0⟩,⟨[23,21],rP ha 0,0⟩,⟨[24,21],rS r1.2.fS,1⟩,⟨[21],rP ha 0,0⟩,⟨[26,21],rP ha 0,0⟩,⟨[27,21],rP ha 1,0⟩,⟨[28,21],As (hb+1),1⟩,⟨[25,29,21],rI .u8 (Bu r1.2.fS (hb+1)),0⟩,⟨[30,21],rB (!decide ((Bu r1.2.fS (hb+1))=92)),0⟩,⟨[21,31,10],rB (!decide ((Bu r1.2.fS (hb+1))=92)),0⟩,⟨[10,32],rB (!decide ((Bu r1.2.fS (hb+1))=92)),0⟩] [50,51,52,53,54,55,56,57,58,59,60,61,62,63,64,65,66,67,68,69,70,71,72,73,74,75,76,77,78,79,80,81,82,83,0,4,9,10,11,12,13,14,15,16,17,19,20,21,22,23,24,25,26,27] ?_ ?_
           ·refine oq (Aw Aa) (oq (A2 Aa) (oq (Ay B2 Aa C2 Aa Aa) (of (AQ (i:=0) CQ Aa Aa Aa) (oq (Aw Aa) (oq (A2 Aa) (oq (Ay B2 Aa Cs Aa Aa) (of (AQ (i:=0) C7 Aa Aa Aa) (oq (BA C4 Aa) (oq (Iq Aa Aa) (oq (Aw Aa) (on hd (oq (Aw Aa) (on hd (oq (A2 Aa) (on hd (oq (Ay B2 Aa Cs Aa Aa) (on hd (of (AQ (i:=0) C7 Aa Aa Aa) (on hd (oq (Aw Aa) (on hd (oq (A2 Aa) (on hd ?_)))))))))))))))))))))));refine oq (Ay B2 Aa C2 Aa Aa) (on hd (of (AQ (i:=0) CQ Aa Aa Aa) (on hd (oq (B1 C4 Aa Aa (Hw hr hd)) (on hd (oq (Cr Aa Aa) (on hd (oq (Aw Aa) (on he (oq (Aw Aa) (on he (oq (A2 Aa) (on he (oq (Ay B2 Aa Cs Aa Aa) (on he (of (AQ (i:=0) C7 Aa Aa Aa) (on he (oq (Aw Aa) (on he (oq (A2 Aa) (on he (oq (Ay B2 Aa C2 Aa Aa) (on he ?_)))))))))))))))))))))));refine of (AQ (i:=0) CQ Aa Aa Aa) (on he (oq (B1 C4 Aa Aa (Hw hr hd)) (on he (oq (Cr Aa Aa) (on hd (oq (AA Aa he Aa) (oq (AF Aa hd Aa) ?_)))))));exact C9
           exact CF (And.intro hd he)
          ·refine Dm [0,4,9,10,11,12,13,14,15,16,17,19,20,21,22,23,24,25,26,27] [⟨[],rP ha 0,0⟩,⟨[0],rP ha 0,0⟩,⟨[1],rP ha 1,0⟩,⟨[2],As (hb+1),1⟩,⟨[],rP ha 0,0⟩,⟨[4],rP ha 0,0⟩,⟨[5],rP ha 0,0⟩,⟨[6],rS r1.2.fS,1⟩,⟨[7],As (r1.2.fS.length:Int),0⟩,⟨[3,8],rB (decide ((r1.2.fS.length:Int)≤(hb+1))),0⟩,⟨[9],rB (decide ((r1.2.fS.length:Int)≤(hb+1))),0⟩,⟨[10],rP ha 0,0⟩,⟨[11,10],rP ha 0,0⟩,⟨[12,10],rP ha 0,0⟩,⟨[13,10],rS r1.2.fS,1⟩,⟨[10],rP ha 0,0⟩,⟨[15,10],rP ha 0,0⟩,⟨[16,10],rP ha 1,0⟩,⟨[17,10],As (hb+1),1⟩,⟨[14,18,10],rI .u8 (Bu r1.2.fS (hb+1)),0⟩,⟨[19,10],rB (!decide ((Bu r1.2.fS (hb+1))=34)),0⟩,⟨[20,10],rB (!decide ((Bu r1.2.fS (hb+1))=34)),0⟩,⟨[21],rv undef,0⟩,⟨[22,21],rv undef,0⟩,⟨[23,21],rv undef,0⟩,⟨[24,21],rv undef,0⟩,⟨[21],rv undef,0⟩,⟨[26,21],rv undef,0⟩,⟨[27,21],rv undef,0⟩,⟨[28,21],rv undef,0⟩,⟨[25,29,21],rv undef,0⟩,⟨[30,21],rv undef,0⟩,⟨[21,31,10],rB false,0⟩,⟨[10,32],rB false,0⟩] [50,51,52,53,54,55,56,57,58,59,60,61,62,63,64,65,66,67,68,69,70,71,72,73,74,75,76,77,78,79,80,81,82,83,0,4,9,10,11,12,13,14,15,16,17,19,20,21,22,23,24,25,26,27] ?_ ?_
           ·refine oq (Aw Aa) (oq (A2 Aa) (oq (Ay B2 Aa C2 Aa Aa) (of (AQ (i:=0) CQ Aa Aa Aa) (oq (Aw Aa) (oq (A2 Aa) (oq (Ay B2 Aa Cs Aa Aa) (of (AQ (i:=0) C7 Aa Aa Aa) (oq (BA C4 Aa) (oq (Iq Aa Aa) (oq (Aw Aa) (on hd (oq (Aw Aa) (on hd (oq (A2 Aa) (on hd (oq (Ay B2 Aa Cs Aa Aa) (on hd (of (AQ (i:=0) C7 Aa Aa Aa) (on hd (oq (Aw Aa) (on hd (oq (A2 Aa) (on hd ?_)))))))))))))))))))))));refine oq (Ay B2 Aa C2 Aa Aa) (on hd (of (AQ (i:=0) CQ Aa Aa Aa) (on hd (oq (B1 C4 Aa Aa (Hw hr hd)) (on hd (oq (Cr Aa Aa) (on hd (oq (Aw Aa) (oz he (oz he (oz he (oz he (oz he (oz he (oz he (oz he (oz he (oz he (on hd (oq (AF (b:=!decide ((Bu r1.2.fS (hb+1))=34)) Aa he Aa) (oq (AF Aa hd Aa) ?_)))))))))))))))))))));exact C9
           exact CF (And.intro hd he)
        refine cz hL Aa (λhN hO=>?_) (λhN hP=>?_)
        ·refine Al (wv (r:=rS ([]:An)) (A7 Aa) (wa Aa (Au (A0 (Af (AD (Af (AD (Af (Bg ?_))))))))));have hQ:=BG hO hj hk;refine AD (Af ?_);obtain rfl:=A1 hQ;exact Az (Dq P0 (AI Aa) (AI Aa)) (sC (sC (sS sN))) ⟨v4,Aa,Aa⟩
        ·refine A3 (AT (Aq (ck hP λhR hS=>Dm [0,4,9,10,11,12,13,14,15,16,17,19,20,21,22,23,24,25,26,27,50,51,52,53,54,55,56,57,58,59,60] [⟨[],rP ha 0,0⟩,⟨[0],rP ha 0,0⟩,⟨[1],rP ha 0,0⟩,⟨[2],rS r1.2.fS,1⟩,⟨[],rP ha 0,0⟩,⟨[4],rP ha 0,0⟩,⟨[5],rP ha 1,0⟩,⟨[6],As (hb+1),1⟩,⟨[3,7],rI .u8 (Bu r1.2.fS (hb+1)),0⟩,⟨[8],rI .u8 (Bu r1.2.fS (hb+1)),0⟩] [84,85,86,87,88,89,90,91,92,5,0,4,9,10,11,12,13,14,15,16,17,19,20,21,22,23,24,25,26,27,50,51,52,53,54,55,56,57,58,59,60] ?_ ?_)))
         ·refine oq (Aw Aa) (oq (A2 Aa) (oq (Ay B2 Aa Cs Aa Aa) (of (AQ (i:=0) C7 Aa Aa Aa) (oq (Aw Aa) (oq (A2 Aa) (oq (Ay B2 Aa C2 Aa Aa) (of (AQ (i:=0) CQ Aa Aa Aa) (oq (B1 C4 Aa Aa hR) (oq (A7 Aa) ?_)))))))));exact C9
         exact AT (At (wm Aa (wv (A2 Aa) (vF B2 Aa C2 (vL 0 CQ Aa (ck hS λhT hU=>wv (BJ Aa Aa hT) (wv (A2 Aa) (vF B2 Aa C2 (Bv (i:=0) C2 Aa Aa (Bw Aa) Aa Aa (cs':=[rS r1.2.fS,As ((hb+1)+1),rv v4,rB r1.2.fGreat]) Aa (H':=[.blk ha [rS r1.2.fS,As ((hb+1)+1),rv v4,rB r1.2.fGreat] 166,.row v4 83 4 (Ax Ab r1.2.fCells),.row hg 5 1 (Ax Bp hf)]) Aa (Av (AH (A5 (AK ((Bu r1.2.fS (hb+1),(hb+1)+1),()) hU (AL.c Aa (AL.c5 Aa Aa Aa Aa Aa (AL.c5 Aa Aa Aa Aa Aa (AL.c5 Aa Aa Aa Aa Aa (AL.c5 Aa Aa Aa Aa Aa AL.nil))))) (sC (sC (sC sN))))))))))))))))
       ·exact A3 (AH (A5 (AK ((Bu r1.2.fS hb,hb+1),()) hK (AL.c Aa (AL.c5 Aa Aa Aa Aa Aa (AL.c5 Aa Aa Aa Aa Aa (AL.c5 Aa Aa Aa Aa Aa (AL.c5 Aa Aa Aa Aa Aa AL.nil))))) (sC (sC (sC sN))))))
    ·rintro⟨⟨hi,hm⟩,⟨⟩⟩ hn;refine Cf (l':=[(0,rP ha 0),(4,rv hg),(5,rI .u8 hi),(9,rP ha 0),(10,rP ha 0),(11,rP ha 1),(12,As hb),(13,rP ha 0),(14,rP ha 0),(15,rP ha 0),(16,rS r1.2.fS),(17,As (r1.2.fS.length:Int)),(19,rP ha 0),(20,rP ha 0),(21,rP ha 0),(22,rS r1.2.fS),(23,rP ha 0),(24,rP ha 0),(25,rP ha 1),(26,As hb),(27,rI .u8 (Bu r1.2.fS hb))]) (H':=[.blk ha [rS r1.2.fS,As hm,rv v4,rB r1.2.fGreat] 166,.row v4 83 4 (Ax Ab r1.2.fCells),.row hg 5 1 (Ax Bp hf)]) Aa Aa ?_;replace hn:I1 hf hi hm=some hq:=hn;unfold I1 at hn;refine At (wm Aa (wm Aa (Ba (ys:=([hi]:List Int)) (enc:=Bp) (css:=[[rI .u8 hi]]) (xs:=[.tmp 101]) DO XV XU Aa Aa Aa ⟨DH.one Aa (Up.refl _),trivial⟩ Aa D2 Aa Aa Aa (λhV=>?_))));refine ck hn λhW hX=>Exists.elim L4 λinf hinf=>BQ (xs:=hf) (ys:=([hi]:List Int)) (enc:=Bp) (i:=3) DO hinf.1 hinf.2.1 hinf.2.2.1 hinf.2.2.2 Aa Aa Aa Aa Aa (HY.w (i:=0) Aa Aa) D2 Ju hW Aa (λhs=>?_);refine wa Aa (Av (AH (BF (H2:=[.blk ha [rS r1.2.fS,As hm,rv v4,rB r1.2.fGreat] 166,.row v4 83 4 (Ax Ab r1.2.fCells),.row hs 5 1 (Ax Bp (hf++([hi]:List Int))),.row (.slice (some ⟨hV,0,none⟩) 1 1) 5 1 (Ax Bp ([hi]:List Int))]) ((Ak (i:=2) Aa).trans (Zo _ ((Ak (i:=2) Aa).trans (Zo _ (Zp _))))) ?_)));have hY:=B8 hX hj;exact A5 (AK (hy,(hf++([hi]:List Int),hm),hs) ⟨hY,Z3 _⟩ (AL.c Aa (AL.c Aa AL.nil)) (sC (sC (sC (sS sN)))))
   ·refine BB (A9 ?_);have hZ:=Cv h1 hj hk;exact A9 (Bh (AK (hb,()) hZ AL.nil (sC (sC (sS sN)))))
  ·rintro⟨ht,⟨⟩⟩ ho;refine CJ (l':=[]) (H':=[.blk ha [rS r1.2.fS,As ht,rv v4,rB r1.2.fGreat] 166,.row v4 83 4 (Ax Ab r1.2.fCells)]) Aa Aa ?_;replace ho:Kd r1 ht=some r:=ho;unfold Kd at ho;refine Bf (AT (Al (wv (r:=rS ([]:An)) (A7 Aa) (wa Aa (Au (A0 ?_))))));obtain rfl:=A1 ho;exact Az (Dq P0 (AI Aa) (AI Aa)) (sC (sC sN)) ⟨v4,Aa,Aa⟩
theorem VZ (F:Nat)(ha:Nat)(hl:Value)(q:A6)(r:Bool×A6)(h:TY F q=some r):Fn Tryz.prog GE 185 [rP ha 0] [.blk ha [rS q.fS,As q.fAt,rv hl,rB q.fGreat] 166,.row hl 83 4 (Ax Ab q.fCells)] (λR H=>∃w0_2:Value,R=rB r.1∧H=[.blk ha [rS r.2.fS,As r.2.fAt,rv w0_2,rB r.2.fGreat] 166,.row w0_2 83 4 (Ax Ab r.2.fCells)]):=by
 refine enter (n:=104) Tryz.func185 Aa Tryz.ntmps185 Aa (λw Z=>?_);unfold TY at h;refine Al (wa Aa (Bk (wm Aa (wv (A2 Aa) (vF B2 Aa C2 (vL 0 CQ Aa (wa Aa (Bk (wm Aa (ob h λr1 e3 h2=>CV (Hr:=[]) Gp (Dv ha hl q ([45]:An) r1 e3) Aa (Zp _) Aa ?_))))))))));rintro _ _ ⟨v4,rfl,rfl⟩;refine Bk (wm Aa (wv (A2 Aa) (vF B2 Aa C2 (vL 0 CQ Aa (wa Aa (Au (Aq (AO (ob h2 λhp hq hr=>B4 (S:=Nat×(Int)×(Unit)) (V:=(Int)×(Unit)) 0 (λσ=>Cz (λσ=>Kg r1 σ) σ.1 σ.2.1=some hp) (λσ=>[(0,rP ha 0),(3,As q.fAt),(4,As r1.2.fAt)]) (λσ=>[.blk ha [rS r1.2.fS,As σ.2.1,rv v4,rB r1.2.fGreat] 166,.row v4 83 4 (Ax Ab r1.2.fCells)]) (λσ=>σ.1) (F,r1.2.fAt,()) hq (AL.c Aa (AL.c Aa (AL.c Aa AL.nil))) (sC (sC sN)) (λσ=>Kf q r1 σ.1=some r) (λσ=>[(0,rP ha 0),(3,As q.fAt),(4,As r1.2.fAt)]) (λσ=>[.blk ha [rS r1.2.fS,As σ.1,rv v4,rB r1.2.fGreat] 166,.row v4 83 4 (Ax Ab r1.2.fCells)]) ?_ ?_)))))))))
 ·rintro⟨hH,hd,⟨⟩⟩ hs;refine Cf (l':=[(0,rP ha 0),(3,As q.fAt),(4,As r1.2.fAt)]) (H':=[.blk ha [rS r1.2.fS,As hd,rv v4,rB r1.2.fGreat] 166,.row v4 83 4 (Ax Ab r1.2.fCells)]) Aa Aa ?_;obtain⟨ht,rfl,hu,hj,hn⟩:=CO hs;replace hj:Kg r1 hd=some hu:=hj;unfold Kg at hj;refine Aq (ck hj λhm hw=>AR [(0,rP ha 0),(3,As q.fAt),(4,As r1.2.fAt),(17,rP ha 0),(18,rP ha 0),(19,rP ha 1),(20,As hd),(21,rP ha 0),(22,rP ha 0),(23,rP ha 0),(24,rS r1.2.fS),(25,As (r1.2.fS.length:Int)),(26,rB (decide (hd<(r1.2.fS.length:Int)))),(27,rB (decide (hd<(r1.2.fS.length:Int)))),(38,rB ((decide (hd<(r1.2.fS.length:Int)))&&(decide (48≤(Bu r1.2.fS hd))))),(39,rB ((decide (hd<(r1.2.fS.length:Int)))&&(decide (48≤(Bu r1.2.fS hd))))),(50,rB ((decide (hd<(r1.2.fS.length:Int)))&&((decide (48≤(Bu r1.2.fS hd)))&&(decide ((Bu r1.2.fS hd)≤57)))))] [.blk ha [rS r1.2.fS,As hd,rv v4,rB r1.2.fGreat] 166,.row v4 83 4 (Ax Ab r1.2.fCells)] ?_ ?_)
  ·refine AX (decide (hd<(r1.2.fS.length:Int))) (λhe=>?_) (λhe=>?_)
   ·refine AX (decide (48≤(Bu r1.2.fS hd))) (λhf=>?_) (λhf=>?_)
    ·refine Dm [0,3,4] [⟨[],rP ha 0,0⟩,⟨[0],rP ha 0,0⟩,⟨[1],rP ha 1,0⟩,⟨[2],As hd,1⟩,⟨[],rP ha 0,0⟩,⟨[4],rP ha 0,0⟩,⟨[5],rP ha 0,0⟩,⟨[6],rS r1.2.fS,1⟩,⟨[7],As (r1.2.fS.length:Int),0⟩,⟨[3,8],rB (decide (hd<(r1.2.fS.length:Int))),0⟩,⟨[9],rB (decide (hd<(r1.2.fS.length:Int))),0⟩,⟨[10],rP ha 0,0⟩,⟨[11,10],rP ha 0,0⟩,⟨[12,10],rP ha 0,0⟩,⟨[13,10],rS r1.2.fS,1⟩,⟨[10],rP ha 0,0⟩,⟨[15,10],rP ha 0,0⟩,⟨[16,10],rP ha 1,0⟩,⟨[17,10],As hd,1⟩,⟨[14,18,10],rI .u8 (Bu r1.2.fS hd),0⟩,⟨[19,10],rB (decide (48≤(Bu r1.2.fS hd))),0⟩,⟨[10,20],rB (decide (48≤(Bu r1.2.fS hd))),0⟩,⟨[21],rB (decide (48≤(Bu r1.2.fS hd))),0⟩,⟨[22],rP ha 0,0⟩,⟨[23,22],rP ha 0,0⟩,⟨[24,22],rP ha 0,0⟩,⟨[25,22],rS r1.2.fS,1⟩,⟨[22],rP ha 0,0⟩,⟨[27,22],rP ha 0,0⟩,⟨[28,22],rP ha 1,0⟩,⟨[29,22],As hd,1⟩,⟨[26,30,22],rI .u8 (Bu r1.2.fS hd),0⟩,⟨[31,22],rB (decide ((Bu r1.2.fS hd)≤57)),0⟩,⟨[22,32],rB (decide ((Bu r1.2.fS hd)≤57)),0⟩] [17,18,19,20,21,22,23,24,25,26,27,28,29,30,31,32,33,34,35,36,37,38,39,40,41,42,43,44,45,46,47,48,49,50,0,3,4] ?_ ?_
     ·refine oq (Aw Aa) (oq (A2 Aa) (oq (Ay B2 Aa C2 Aa Aa) (of (AQ (i:=0) CQ Aa Aa Aa) (oq (Aw Aa) (oq (A2 Aa) (oq (Ay B2 Aa Cs Aa Aa) (of (AQ (i:=0) C7 Aa Aa Aa) (oq (BA C4 Aa) (oq (CZ Aa Aa) (oq (Aw Aa) (on he (oq (Aw Aa) (on he (oq (A2 Aa) (on he (oq (Ay B2 Aa Cs Aa Aa) (on he (of (AQ (i:=0) C7 Aa Aa Aa) (on he (oq (Aw Aa) (on he (oq (A2 Aa) (on he ?_)))))))))))))))))))))));refine oq (Ay B2 Aa C2 Aa Aa) (on he (of (AQ (i:=0) CQ Aa Aa Aa) (on he (oq (B1 C4 Aa Aa (Em hm he)) (on he (oq (Iq Aa Aa) (oq (AA Aa he Aa) (oq (Aw Aa) (on hf (oq (Aw Aa) (on hf (oq (A2 Aa) (on hf (oq (Ay B2 Aa Cs Aa Aa) (on hf (of (AQ (i:=0) C7 Aa Aa Aa) (on hf (oq (Aw Aa) (on hf (oq (A2 Aa) (on hf (oq (Ay B2 Aa C2 Aa Aa) (on hf ?_)))))))))))))))))))))));refine of (AQ (i:=0) CQ Aa Aa Aa) (on hf (oq (B1 C4 Aa Aa (Em hm he)) (on hf (oq (LG Aa Aa) (oq (AA Aa hf Aa) ?_)))));exact C9
     exact CF (And.intro he hf)
    ·refine Dm [0,3,4] [⟨[],rP ha 0,0⟩,⟨[0],rP ha 0,0⟩,⟨[1],rP ha 1,0⟩,⟨[2],As hd,1⟩,⟨[],rP ha 0,0⟩,⟨[4],rP ha 0,0⟩,⟨[5],rP ha 0,0⟩,⟨[6],rS r1.2.fS,1⟩,⟨[7],As (r1.2.fS.length:Int),0⟩,⟨[3,8],rB (decide (hd<(r1.2.fS.length:Int))),0⟩,⟨[9],rB (decide (hd<(r1.2.fS.length:Int))),0⟩,⟨[10],rP ha 0,0⟩,⟨[11,10],rP ha 0,0⟩,⟨[12,10],rP ha 0,0⟩,⟨[13,10],rS r1.2.fS,1⟩,⟨[10],rP ha 0,0⟩,⟨[15,10],rP ha 0,0⟩,⟨[16,10],rP ha 1,0⟩,⟨[17,10],As hd,1⟩,⟨[14,18,10],rI .u8 (Bu r1.2.fS hd),0⟩,⟨[19,10],rB (decide (48≤(Bu r1.2.fS hd))),0⟩,⟨[10,20],rB (decide (48≤(Bu r1.2.fS hd))),0⟩,⟨[21],rB (decide (48≤(Bu r1.2.fS hd))),0⟩,⟨[22],rv undef,0⟩,⟨[23,22],rv undef,0⟩,⟨[24,22],rv undef,0⟩,⟨[25,22],rv undef,0⟩,⟨[22],rv undef,0⟩,⟨[27,22],rv undef,0⟩,⟨[28,22],rv undef,0⟩,⟨[29,22],rv undef,0⟩,⟨[26,30,22],rv undef,0⟩,⟨[31,22],rv undef,0⟩,⟨[22,32],rB false,0⟩] [17,18,19,20,21,22,23,24,25,26,27,28,29,30,31,32,33,34,35,36,37,38,39,40,41,42,43,44,45,46,47,48,49,50,0,3,4] ?_ ?_
     ·refine oq (Aw Aa) (oq (A2 Aa) (oq (Ay B2 Aa C2 Aa Aa) (of (AQ (i:=0) CQ Aa Aa Aa) (oq (Aw Aa) (oq (A2 Aa) (oq (Ay B2 Aa Cs Aa Aa) (of (AQ (i:=0) C7 Aa Aa Aa) (oq (BA C4 Aa) (oq (CZ Aa Aa) (oq (Aw Aa) (on he (oq (Aw Aa) (on he (oq (A2 Aa) (on he (oq (Ay B2 Aa Cs Aa Aa) (on he (of (AQ (i:=0) C7 Aa Aa Aa) (on he (oq (Aw Aa) (on he (oq (A2 Aa) (on he ?_)))))))))))))))))))))));refine oq (Ay B2 Aa C2 Aa Aa) (on he (of (AQ (i:=0) CQ Aa Aa Aa) (on he (oq (B1 C4 Aa Aa (Em hm he)) (on he (oq (Iq Aa Aa) (oq (AA Aa he Aa) (oq (Aw Aa) (oz hf (oz hf (oz hf (oz hf (oz hf (oz hf (oz hf (oz hf (oz hf (oz hf (oq (AF (b:=decide (48≤(Bu r1.2.fS hd))) Aa hf Aa) ?_)))))))))))))))))));exact C9
     exact CF (And.intro he hf)
   ·refine Dm [0,3,4] [⟨[],rP ha 0,0⟩,⟨[0],rP ha 0,0⟩,⟨[1],rP ha 1,0⟩,⟨[2],As hd,1⟩,⟨[],rP ha 0,0⟩,⟨[4],rP ha 0,0⟩,⟨[5],rP ha 0,0⟩,⟨[6],rS r1.2.fS,1⟩,⟨[7],As (r1.2.fS.length:Int),0⟩,⟨[3,8],rB (decide (hd<(r1.2.fS.length:Int))),0⟩,⟨[9],rB (decide (hd<(r1.2.fS.length:Int))),0⟩,⟨[10],rv undef,0⟩,⟨[11,10],rv undef,0⟩,⟨[12,10],rv undef,0⟩,⟨[13,10],rv undef,0⟩,⟨[10],rv undef,0⟩,⟨[15,10],rv undef,0⟩,⟨[16,10],rv undef,0⟩,⟨[17,10],rv undef,0⟩,⟨[14,18,10],rv undef,0⟩,⟨[19,10],rv undef,0⟩,⟨[10,20],rB false,0⟩,⟨[21],rB false,0⟩,⟨[22],rv undef,0⟩,⟨[23,22],rv undef,0⟩,⟨[24,22],rv undef,0⟩,⟨[25,22],rv undef,0⟩,⟨[22],rv undef,0⟩,⟨[27,22],rv undef,0⟩,⟨[28,22],rv undef,0⟩,⟨[29,22],rv undef,0⟩,⟨[26,30,22],rv undef,0⟩,⟨[31,22],rv undef,0⟩,⟨[22,32],rB false,0⟩] [17,18,19,20,21,22,23,24,25,26,27,28,29,30,31,32,33,34,35,36,37,38,39,40,41,42,43,44,45,46,47,48,49,50,0,3,4] ?_ ?_
    ·refine oq (Aw Aa) (oq (A2 Aa) (oq (Ay B2 Aa C2 Aa Aa) (of (AQ (i:=0) CQ Aa Aa Aa) (oq (Aw Aa) (oq (A2 Aa) (oq (Ay B2 Aa Cs Aa Aa) (of (AQ (i:=0) C7 Aa Aa Aa) (oq (BA C4 Aa) (oq (CZ Aa Aa) (oq (Aw Aa) (oz he (oz he (oz he (oz he (oz he (oz he (oz he (oz he (oz he (oz he (oq (AF (b:=decide (hd<(r1.2.fS.length:Int))) Aa he Aa) (oq (Aw Aa) (oz Aa ?_)))))))))))))))))))))));refine oz Aa (oz Aa (oz Aa (oz Aa (oz Aa (oz Aa (oz Aa (oz Aa (oz Aa (oq (AF (b:=false) Aa Aa Aa) ?_)))))))));exact C9
    exact CF he
  refine cz hw Aa (λhx hy=>?_) (λhx hz=>?_)
  ·refine A3 (AT (AO (At (wm Aa (wv (A2 Aa) (vF B2 Aa C2 (vL 0 CQ Aa (ck hy λh0 h1=>wv (BJ Aa Aa h0) (wv (A2 Aa) (vF B2 Aa C2 (Bv (i:=0) C2 Aa Aa (Bw Aa) Aa Aa (cs':=[rS r1.2.fS,As (hd+1),rv v4,rB r1.2.fGreat]) Aa (H':=[.blk ha [rS r1.2.fS,As (hd+1),rv v4,rB r1.2.fGreat] 166,.row v4 83 4 (Ax Ab r1.2.fCells)]) Aa (Av (AH ?_)))))))))))));have h3:=B8 h1 hn;exact A5 (AK (ht,hd+1,()) ⟨h3,Z3 _⟩ (AL.c Aa (AL.c Aa (AL.c Aa AL.nil))) (sC (sC sN)))
  ·refine BB (A9 ?_);have h4:=Cv hz hn hr;exact A9 (Bh (AK (hd,()) h4 (AL.c Aa (AL.c Aa (AL.c Aa AL.nil))) (sC (sC sN))))
 ·rintro⟨hb,⟨⟩⟩ hk;refine CJ (l':=[(0,rP ha 0),(3,As q.fAt),(4,As r1.2.fAt)]) (H':=[.blk ha [rS r1.2.fS,As hb,rv v4,rB r1.2.fGreat] 166,.row v4 83 4 (Ax Ab r1.2.fCells)]) Aa Aa ?_;replace hk:Kf q r1 hb=some r:=hk;unfold Kf at hk;refine Bf (AT (Aq (ck hk λh5 h6=>ck h6 λh7 h8=>ck h8 λh9 hA=>Dm [0,3,4] [⟨[],rP ha 0,0⟩,⟨[0],rP ha 0,0⟩,⟨[1],rP ha 0,0⟩,⟨[2],rS r1.2.fS,1⟩,⟨[],As q.fAt,0⟩,⟨[],rP ha 0,0⟩,⟨[5],rP ha 0,0⟩,⟨[6],rP ha 1,0⟩,⟨[7],As hb,1⟩,⟨[3,4,8],rS (List.take (Bi hb-Bi q.fAt) (List.drop (Bi q.fAt) r1.2.fS)),0⟩,⟨[9],Cn [As (AS (List.take (Bi hb-Bi q.fAt) (List.drop (Bi q.fAt) r1.2.fS))),As (Ce (List.take (Bi hb-Bi q.fAt) (List.drop (Bi q.fAt) r1.2.fS)))],0⟩,⟨[10],Cn [As (AS (List.take (Bi hb-Bi q.fAt) (List.drop (Bi q.fAt) r1.2.fS))),As (Ce (List.take (Bi hb-Bi q.fAt) (List.drop (Bi q.fAt) r1.2.fS)))],0⟩,⟨[11],As (AS (List.take (Bi hb-Bi q.fAt) (List.drop (Bi q.fAt) r1.2.fS))),0⟩,⟨[11],As (Ce (List.take (Bi hb-Bi q.fAt) (List.drop (Bi q.fAt) r1.2.fS))),0⟩,⟨[12],As (AS (List.take (Bi hb-Bi q.fAt) (List.drop (Bi q.fAt) r1.2.fS))),0⟩,⟨[13],As (Ce (List.take (Bi hb-Bi q.fAt) (List.drop (Bi q.fAt) r1.2.fS))),0⟩] [5,6,0,4] ?_ ?_)))
  ·refine oq (Aw Aa) (oq (A2 Aa) (oq (Ay B2 Aa Cs Aa Aa) (of (AQ (i:=0) C7 Aa Aa Aa) (oq (Aw Aa) (oq (Aw Aa) (oq (A2 Aa) (oq (Ay B2 Aa C2 Aa Aa) (of (AQ (i:=0) CQ Aa Aa Aa) (oq (JL C4 Aa Aa Aa h5 h7) (J3 Aa (λH=>DB (rs:=[rS (List.take (Bi hb-Bi q.fAt) (List.drop (Bi q.fAt) r1.2.fS))]) (r:=Cn [As (AS (List.take (Bi hb-Bi q.fAt) (List.drop (Bi q.fAt) r1.2.fS))),As (Ce (List.take (Bi hb-Bi q.fAt) (List.drop (Bi q.fAt) r1.2.fS)))]) TM Aa (Kt (List.take (Bi hb-Bi q.fAt) (List.drop (Bi q.fAt) r1.2.fS)) h9) Aa) ?_))))))))));refine oq (Aw Aa) (oq (A4 Aa Aa) (oq (A4 Aa Aa) (oq (A7 Aa) (oq (A7 Aa) ?_))));exact C9
  refine AT (Aq (AR [(0,rP ha 0),(5,As (AS (List.take (Bi hb-Bi q.fAt) (List.drop (Bi q.fAt) r1.2.fS)))),(6,As (Ce (List.take (Bi hb-Bi q.fAt) (List.drop (Bi q.fAt) r1.2.fS)))),(81,rB ((decide ((Ce (List.take (Bi hb-Bi q.fAt) (List.drop (Bi q.fAt) r1.2.fS)))=1))||(decide (r1.2.fAt=hb))))] [.blk ha [rS r1.2.fS,As hb,rv v4,rB r1.2.fGreat] 166,.row v4 83 4 (Ax Ab r1.2.fCells)] ?_ ?_))
  ·refine At (wm Aa (wv (BN Aa Aa) (wm Aa (AX (decide ((Ce (List.take (Bi hb-Bi q.fAt) (List.drop (Bi q.fAt) r1.2.fS)))=1)) (λhg=>?_) (λhg=>?_)))))
   ·refine wf hg (wf hg (wf hg (wf hg (wf hg (wf hg (wv (r:=rB true) (AA Aa hg Aa) (Av ?_)))))));exact CF hg
   ·refine wo hg (wm Aa (wo hg (wm Aa (wo hg (wv (A2 Aa) (wo hg (vF B2 Aa C2 (wo hg (vL 0 CQ Aa (wo hg (wv (BN Aa Aa) (Hc Aa hg Aa (Av ?_)))))))))))));exact CF hg
  refine cz hA Aa (λhB hC=>?_) (λhB hD=>?_)
  ·refine Al (wa Aa (Au (A0 (Af ?_))));obtain rfl:=A1 hC;exact Az (BW Tryz.results185 (AI Aa)) (sC (sC sN)) ⟨v4,Aa,Aa⟩
  ·refine A3 (AT (AR [(0,rP ha 0),(5,As (AS (List.take (Bi hb-Bi q.fAt) (List.drop (Bi q.fAt) r1.2.fS))))] [.blk ha [rS r1.2.fS,As hb,rv v4,rB (r1.2.fGreat||(!decide ((Ce (List.take (Bi hb-Bi q.fAt) (List.drop (Bi q.fAt) r1.2.fS)))=0)))] 166,.row v4 83 4 (Ax Ab r1.2.fCells)] ?_ ?_))
   ·refine At (wm Aa (wm Aa (wv (A2 Aa) (vF B2 Aa He (vL 0 R6 Aa (wm Aa (AX (r1.2.fGreat) (λhh=>?_) (λhh=>?_))))))))
    ·refine wf hh (wf hh (wv (r:=rB true) (AA rfl hh rfl) (wv (A2 rfl) (vF B2 rfl He (Bv (i:=0) He rfl rfl (Bw rfl) rfl rfl (cs':=[rS r1.2.fS,As hb,rv v4,rB true]) rfl (H':=[.blk ha [rS r1.2.fS,As hb,rv v4,rB true] 166,.row v4 83 4 (Ax Ab r1.2.fCells)]) rfl (Av (H5 (H':=[.blk ha [rS r1.2.fS,As hb,rv v4,rB (r1.2.fGreat||(!decide ((Ce (List.take (Bi hb-Bi q.fAt) (List.drop (Bi q.fAt) r1.2.fS)))=0)))] 166,.row v4 83 4 (Ax Ab r1.2.fCells)]) (by simp only[hh,Z7,ZA,ZI,Z6,ZF,ZB,ZH,ZG,Z2,ZD,Z1,Zx]) ?_)))))));exact wt
    ·refine wo hh (wm rfl (wo hh (wv (Cr rfl rfl) (Hc rfl hh rfl (wv (A2 rfl) (vF B2 rfl He (Bv (i:=0) He rfl rfl (Bw rfl) rfl rfl (cs':=[rS r1.2.fS,As hb,rv v4,rB (!decide ((Ce (List.take (Bi hb-Bi q.fAt) (List.drop (Bi q.fAt) r1.2.fS)))=0))]) rfl (H':=[.blk ha [rS r1.2.fS,As hb,rv v4,rB (!decide ((Ce (List.take (Bi hb-Bi q.fAt) (List.drop (Bi q.fAt) r1.2.fS)))=0))] 166,.row v4 83 4 (Ax Ab r1.2.fCells)]) rfl (Av (H5 (H':=[.blk ha [rS r1.2.fS,As hb,rv v4,rB (r1.2.fGreat||(!decide ((Ce (List.take (Bi hb-Bi q.fAt) (List.drop (Bi q.fAt) r1.2.fS)))=0)))] 166,.row v4 83 4 (Ax Ab r1.2.fCells)]) (by simp only[hh,Z7,ZA,ZI,Z6,ZF,ZB,ZH,ZG,Z2,ZD,Z1,Zx]) ?_)))))))));exact wt
   refine Al (wm Aa (wm Aa (wv (A2 Aa) (vF B2 Aa CD (vL 0 Es Aa (wm Aa (wv (r:=B9 [As 3,As (AS (List.take (Bi hb-Bi q.fAt) (List.drop (Bi q.fAt) r1.2.fS))),rS ([]:An),As 0]) (GV Aa Aa Aa Aa) (Ba (ys:=([(Ac.mk 3 (AS (List.take (Bi hb-Bi q.fAt) (List.drop (Bi q.fAt) r1.2.fS))) ([]:An) 0)]:List Ac)) (enc:=Ab) (css:=[[As 3,As (AS (List.take (Bi hb-Bi q.fAt) (List.drop (Bi q.fAt) r1.2.fS))),rS ([]:An),As 0]]) (xs:=[.tmp 99]) CX DL LA Aa Aa Aa ⟨DH.agg ⟨Up.refl _,Up.refl _,Up.refl _,Up.refl _,trivial⟩,trivial⟩ Aa By Aa Aa Aa (λho=>?_)))))))));refine ck hD λhE hG=>Exists.elim HT λinf hinf=>BQ (xs:=r1.2.fCells) (ys:=([(Ac.mk 3 (AS (List.take (Bi hb-Bi q.fAt) (List.drop (Bi q.fAt) r1.2.fS))) ([]:An) 0)]:List Ac)) (enc:=Ab) (i:=2) CX hinf.1 hinf.2.1 hinf.2.2.1 hinf.2.2.2 Aa Aa Aa Aa Aa (HY.w (i:=0) Aa Aa) By CC hE Aa (λhi=>?_);refine wv (A2 Aa) (vF B2 Aa CD (Bv (i:=2) CD Aa Aa (Cl (i:=0) Aa) Aa Aa (cs':=[rS r1.2.fS,As hb,rv hi,rB (r1.2.fGreat||(!decide ((Ce (List.take (Bi hb-Bi q.fAt) (List.drop (Bi q.fAt) r1.2.fS)))=0)))]) Aa (H':=[.row hi 83 4 (Ax Ab (r1.2.fCells++([(Ac.mk 3 (AS (List.take (Bi hb-Bi q.fAt) (List.drop (Bi q.fAt) r1.2.fS))) ([]:An) 0)]:List Ac))),.row (.slice (some ⟨ho,0,none⟩) 1 1) 83 4 (Ax Ab ([(Ac.mk 3 (AS (List.take (Bi hb-Bi q.fAt) (List.drop (Bi q.fAt) r1.2.fS))) ([]:An) 0)]:List Ac)),.blk ha [rS r1.2.fS,As hb,rv hi,rB (r1.2.fGreat||(!decide ((Ce (List.take (Bi hb-Bi q.fAt) (List.drop (Bi q.fAt) r1.2.fS)))=0)))] 166]) Aa (Bk (wa Aa (Au (A0 (BF (H2:=[.blk ha [rS r1.2.fS,As hb,rv hi,rB (r1.2.fGreat||(!decide ((Ce (List.take (Bi hb-Bi q.fAt) (List.drop (Bi q.fAt) r1.2.fS)))=0)))] 166,.row hi 83 4 (Ax Ab (r1.2.fCells++([(Ac.mk 3 (AS (List.take (Bi hb-Bi q.fAt) (List.drop (Bi q.fAt) r1.2.fS))) ([]:An) 0)]:List Ac))),.row (.slice (some ⟨ho,0,none⟩) 1 1) 83 4 (Ax Ab ([(Ac.mk 3 (AS (List.take (Bi hb-Bi q.fAt) (List.drop (Bi q.fAt) r1.2.fS))) ([]:An) 0)]:List Ac))]) ((Ak (i:=2) Aa).trans (Zo _ (Zp _))) ?_)))))));obtain rfl:=A1 hG;exact Az (BW Tryz.results185 (AI Aa)) (sC (sC (sS sN))) ⟨hi,Aa,Aa⟩
theorem QI (F:Nat)(hd:Nat)(hk:Value)(q:A6)(r:Bool×A6)(h:M0 F q=some r):Fn Tryz.prog GE 160 [rP hd 0] [.blk hd [rS q.fS,As q.fAt,rv hk,rB q.fGreat] 166,.row hk 83 4 (Ax Ab q.fCells)] (λR H=>∃w0_2:Value,R=rB r.1∧H=[.blk hd [rS r.2.fS,As r.2.fAt,rv w0_2,rB r.2.fGreat] 166,.row w0_2 83 4 (Ax Ab r.2.fCells)]):=by
 refine enter (n:=75) Tryz.func160 Aa Tryz.ntmps160 Aa (λw Z=>?_);unfold M0 at h;refine Al (wa Aa (Au (C8 (S:=(An×Int×(List Ac)×Bool)×(Value)) (λσ=>D8 σ.1.1 σ.1.2.1 σ.1.2.2.1 σ.1.2.2.2=some r) (λσ=>[]) (λσ=>[.blk hd [rS σ.1.1,As σ.1.2.1,rv σ.2,rB σ.1.2.2.2] 166,.row σ.2 83 4 (Ax Ab σ.1.2.2.1)]) ?_ ?_)))
 ·refine AO (Al (wm Aa (ob h λhe hx hy=>CV (Hr:=[]) Gp (Dv hd hk q ([110,117,108,108]:An) he hx) Aa (Zp _) Aa ?_)));rintro _ _ ⟨hz,rfl,rfl⟩;refine wa Aa (Au (cz hy Aa (λh0 h1=>?_) (λh0 h2=>?_)))
  ·refine At (wm Aa (wm Aa (wv (A2 Aa) (vF B2 Aa CD (vL 0 Es Aa (wv (r:=B9 [As 1,As 0,rS ([]:An),As 0]) (G7 Aa Aa) (Ba (ys:=([(Ac.mk 1 0 ([]:An) 0)]:List Ac)) (enc:=Ab) (css:=[[As 1,As 0,rS ([]:An),As 0]]) (xs:=[.tmp 15]) CX DL LA Aa Aa Aa ⟨DH.agg ⟨Up.refl _,Up.refl _,Up.refl _,Up.refl _,trivial⟩,trivial⟩ Aa By Aa Aa Aa (λhn=>?_))))))));refine ck h1 λh3 h4=>Exists.elim HT λinf hinf=>BQ (xs:=he.2.fCells) (ys:=([(Ac.mk 1 0 ([]:An) 0)]:List Ac)) (enc:=Ab) (i:=2) CX hinf.1 hinf.2.1 hinf.2.2.1 hinf.2.2.2 Aa Aa Aa Aa Aa (HY.w (i:=0) Aa Aa) By CC h3 Aa (λhg=>?_);exact wv (A2 Aa) (vF B2 Aa CD (Bv (i:=2) CD Aa Aa (Cl (i:=0) Aa) Aa Aa (cs':=[rS he.2.fS,As he.2.fAt,rv hg,rB he.2.fGreat]) Aa (H':=[.row hg 83 4 (Ax Ab (he.2.fCells++([(Ac.mk 1 0 ([]:An) 0)]:List Ac))),.row (.slice (some ⟨hn,0,none⟩) 1 1) 83 4 (Ax Ab ([(Ac.mk 1 0 ([]:An) 0)]:List Ac)),.blk hd [rS he.2.fS,As he.2.fAt,rv hg,rB he.2.fGreat] 166]) Aa (Av (AH (BF (H2:=[.blk hd [rS he.2.fS,As he.2.fAt,rv hg,rB he.2.fGreat] 166,.row hg 83 4 (Ax Ab (he.2.fCells++([(Ac.mk 1 0 ([]:An) 0)]:List Ac))),.row (.slice (some ⟨hn,0,none⟩) 1 1) 83 4 (Ax Ab ([(Ac.mk 1 0 ([]:An) 0)]:List Ac))]) ((Ak (i:=2) Aa).trans (Zo _ (Zp _))) (A5 (AK ((he.2.fS,he.2.fAt,he.2.fCells++([(Ac.mk 1 0 ([]:An) 0)]:List Ac),he.2.fGreat),hg) h4 AL.nil (sC (sC (sS sN))))))))))
  ·refine Al (wm Aa (ob h2 λhf h5 h6=>CV (Hr:=[]) Gp (Dv hd hz he.2 ([116,114,117,101]:An) hf h5) Aa (Zp _) Aa ?_));rintro _ _ ⟨v76,rfl,rfl⟩;refine wa Aa (Au (cz h6 Aa (λh7 h8=>?_) (λh7 h9=>?_)))
   ·refine At (wm Aa (wm Aa (wv (A2 Aa) (vF B2 Aa CD (vL 0 Es Aa (wv (r:=B9 [As 2,As 1,rS ([]:An),As 0]) (GV Aa Aa Aa Aa) (Ba (ys:=([(Ac.mk 2 1 ([]:An) 0)]:List Ac)) (enc:=Ab) (css:=[[As 2,As 1,rS ([]:An),As 0]]) (xs:=[.tmp 28]) CX DL LA Aa Aa Aa ⟨DH.agg ⟨Up.refl _,Up.refl _,Up.refl _,Up.refl _,trivial⟩,trivial⟩ Aa By Aa Aa Aa (λho=>?_))))))));refine ck h8 λhA hB=>Exists.elim HT λinf hinf=>BQ (xs:=hf.2.fCells) (ys:=([(Ac.mk 2 1 ([]:An) 0)]:List Ac)) (enc:=Ab) (i:=2) CX hinf.1 hinf.2.1 hinf.2.2.1 hinf.2.2.2 Aa Aa Aa Aa Aa (HY.w (i:=0) Aa Aa) By CC hA Aa (λv80=>?_);exact wv (A2 Aa) (vF B2 Aa CD (Bv (i:=2) CD Aa Aa (Cl (i:=0) Aa) Aa Aa (cs':=[rS hf.2.fS,As hf.2.fAt,rv v80,rB hf.2.fGreat]) Aa (H':=[.row v80 83 4 (Ax Ab (hf.2.fCells++([(Ac.mk 2 1 ([]:An) 0)]:List Ac))),.row (.slice (some ⟨ho,0,none⟩) 1 1) 83 4 (Ax Ab ([(Ac.mk 2 1 ([]:An) 0)]:List Ac)),.blk hd [rS hf.2.fS,As hf.2.fAt,rv v80,rB hf.2.fGreat] 166]) Aa (Av (AH (BF (H2:=[.blk hd [rS hf.2.fS,As hf.2.fAt,rv v80,rB hf.2.fGreat] 166,.row v80 83 4 (Ax Ab (hf.2.fCells++([(Ac.mk 2 1 ([]:An) 0)]:List Ac))),.row (.slice (some ⟨ho,0,none⟩) 1 1) 83 4 (Ax Ab ([(Ac.mk 2 1 ([]:An) 0)]:List Ac))]) ((Ak (i:=2) Aa).trans (Zo _ (Zp _))) (A5 (AK ((hf.2.fS,hf.2.fAt,hf.2.fCells++([(Ac.mk 2 1 ([]:An) 0)]:List Ac),hf.2.fGreat),v80) hB AL.nil (sC (sC (sS sN))))))))))
   ·refine Al (wm Aa (ob h9 λhb hC hD=>CV (Hr:=[]) Gp (Dv hd v76 hf.2 ([102,97,108,115,101]:An) hb hC) Aa (Zp _) Aa ?_));rintro _ _ ⟨hp,rfl,rfl⟩;refine wa Aa (Au (cz hD Aa (λhE hG=>?_) (λhE hH=>?_)))
    ·refine At (wm Aa (wm Aa (wv (A2 Aa) (vF B2 Aa CD (vL 0 Es Aa (wv (r:=B9 [As 2,As 0,rS ([]:An),As 0]) (G7 Aa Aa) (Ba (ys:=([(Ac.mk 2 0 ([]:An) 0)]:List Ac)) (enc:=Ab) (css:=[[As 2,As 0,rS ([]:An),As 0]]) (xs:=[.tmp 41]) CX DL LA Aa Aa Aa ⟨DH.agg ⟨Up.refl _,Up.refl _,Up.refl _,Up.refl _,trivial⟩,trivial⟩ Aa By Aa Aa Aa (λhq=>?_))))))));refine ck hG λhI hJ=>Exists.elim HT λinf hinf=>BQ (xs:=hb.2.fCells) (ys:=([(Ac.mk 2 0 ([]:An) 0)]:List Ac)) (enc:=Ab) (i:=2) CX hinf.1 hinf.2.1 hinf.2.2.1 hinf.2.2.2 Aa Aa Aa Aa Aa (HY.w (i:=0) Aa Aa) By CC hI Aa (λhh=>?_);exact wv (A2 Aa) (vF B2 Aa CD (Bv (i:=2) CD Aa Aa (Cl (i:=0) Aa) Aa Aa (cs':=[rS hb.2.fS,As hb.2.fAt,rv hh,rB hb.2.fGreat]) Aa (H':=[.row hh 83 4 (Ax Ab (hb.2.fCells++([(Ac.mk 2 0 ([]:An) 0)]:List Ac))),.row (.slice (some ⟨hq,0,none⟩) 1 1) 83 4 (Ax Ab ([(Ac.mk 2 0 ([]:An) 0)]:List Ac)),.blk hd [rS hb.2.fS,As hb.2.fAt,rv hh,rB hb.2.fGreat] 166]) Aa (Av (AH (BF (H2:=[.blk hd [rS hb.2.fS,As hb.2.fAt,rv hh,rB hb.2.fGreat] 166,.row hh 83 4 (Ax Ab (hb.2.fCells++([(Ac.mk 2 0 ([]:An) 0)]:List Ac))),.row (.slice (some ⟨hq,0,none⟩) 1 1) 83 4 (Ax Ab ([(Ac.mk 2 0 ([]:An) 0)]:List Ac))]) ((Ak (i:=2) Aa).trans (Zo _ (Zp _))) (A5 (AK ((hb.2.fS,hb.2.fAt,hb.2.fCells++([(Ac.mk 2 0 ([]:An) 0)]:List Ac),hb.2.fGreat),hh) hJ AL.nil (sC (sC (sS sN))))))))))
    ·refine Aq (ck hH λhK hL=>ob hL λhl hN hO=>Dm [0] [⟨[],rP hd 0,0⟩,⟨[0],rP hd 0,0⟩,⟨[1],rP hd 0,0⟩,⟨[2],rS hb.2.fS,1⟩,⟨[],rP hd 0,0⟩,⟨[4],rP hd 0,0⟩,⟨[5],rP hd 1,0⟩,⟨[6],As hb.2.fAt,1⟩,⟨[3,7],rS (List.drop (Bi hb.2.fAt) hb.2.fS),0⟩,⟨[8],rB hl,0⟩,⟨[9],rB hl,0⟩] [46,0] ?_ ?_)
     ·refine oq (Aw Aa) (oq (A2 Aa) (oq (Ay B2 Aa Cs Aa Aa) (of (AQ (i:=0) C7 Aa Aa Aa) (oq (Aw Aa) (oq (A2 Aa) (oq (Ay B2 Aa C2 Aa Aa) (of (AQ (i:=0) CQ Aa Aa Aa) (oq (Dx C4 Aa Aa hK) (J3 Aa (λH=>Et Tryz.call184 (L5 (List.drop (Bi hb.2.fAt) hb.2.fS) ([34]:An) hl hN) Aa) ?_)))))))));refine oq (A7 Aa) ?_;exact C9
     refine AT (cz hO Aa (λhP hQ=>?_) (λhP hR=>?_))
     ·refine Al (wm Aa (ob hQ λha hS hT=>CV (Hr:=[]) Tryz.call161 (RA F hd hp hb.2 ha hS) Aa (Zp _) Aa ?_));rintro _ _ ⟨hU,rfl,rfl⟩;refine wm Aa (wv (A4 Aa Aa) (wv (A4 Aa Aa) (wa Aa (wa Aa (Au (Aq (Al (wm Aa (wv (B7 Aa) (Au (cz hT Aa (λhV hW=>?_) (λhV hX=>?_))))))))))))
      ·refine Al (wa Aa (Au (A0 (Af (AD (Af ?_))))));obtain rfl:=A1 hW;exact Az (BW Tryz.results160 (AI Aa)) (sC (sC sN)) ⟨hU,Aa,Aa⟩
      ·refine A3 (AT (At (wm Aa (wm Aa (wv (A2 Aa) (vF B2 Aa CD (vL 0 Es Aa (wm Aa (wv (r:=B9 [As 4,As 0,rS ha.1,As 0]) (J5 Aa Aa Aa Aa) (Ba (ys:=([(Ac.mk 4 0 ha.1 0)]:List Ac)) (enc:=Ab) (css:=[[As 4,As 0,rS ha.1,As 0]]) (xs:=[.tmp 70]) CX DL LA Aa Aa Aa ⟨DH.agg ⟨Up.refl _,Up.refl _,Up.refl _,Up.refl _,trivial⟩,trivial⟩ Aa By Aa Aa Aa (λhr=>?_)))))))))));refine ck hX λhY hZ=>Exists.elim HT λinf hinf=>BQ (xs:=ha.2.2.fCells) (ys:=([(Ac.mk 4 0 ha.1 0)]:List Ac)) (enc:=Ab) (i:=2) CX hinf.1 hinf.2.1 hinf.2.2.1 hinf.2.2.2 Aa Aa Aa Aa Aa (HY.w (i:=0) Aa Aa) By CC hY Aa (λhi=>?_);exact wv (A2 Aa) (vF B2 Aa CD (Bv (i:=2) CD Aa Aa (Cl (i:=0) Aa) Aa Aa (cs':=[rS ha.2.2.fS,As ha.2.2.fAt,rv hi,rB ha.2.2.fGreat]) Aa (H':=[.row hi 83 4 (Ax Ab (ha.2.2.fCells++([(Ac.mk 4 0 ha.1 0)]:List Ac))),.row (.slice (some ⟨hr,0,none⟩) 1 1) 83 4 (Ax Ab ([(Ac.mk 4 0 ha.1 0)]:List Ac)),.blk hd [rS ha.2.2.fS,As ha.2.2.fAt,rv hi,rB ha.2.2.fGreat] 166]) Aa (Av (AH (BF (H2:=[.blk hd [rS ha.2.2.fS,As ha.2.2.fAt,rv hi,rB ha.2.2.fGreat] 166,.row hi 83 4 (Ax Ab (ha.2.2.fCells++([(Ac.mk 4 0 ha.1 0)]:List Ac))),.row (.slice (some ⟨hr,0,none⟩) 1 1) 83 4 (Ax Ab ([(Ac.mk 4 0 ha.1 0)]:List Ac))]) ((Ak (i:=2) Aa).trans (Zo _ (Zp _))) (A5 (AK ((ha.2.2.fS,ha.2.2.fAt,ha.2.2.fCells++([(Ac.mk 4 0 ha.1 0)]:List Ac),ha.2.2.fGreat),hi) hZ AL.nil (sC (sC (sS sN))))))))))
     ·refine Al (wm Aa (ob hR λga gb gc=>CV (Hr:=[]) Tryz.call185 (VZ F hd hp hb.2 ga gb) Aa (Zp _) Aa ?_));rintro _ _ ⟨gd,rfl,rfl⟩;refine wa Aa (Au (A0 (AD (Af ?_))));obtain rfl:=A1 gc;exact Az (BW Tryz.results160 (AI Aa)) (sC (sC sN)) ⟨gd,Aa,Aa⟩
 ·rintro⟨⟨hs,ht,hu,hw⟩,hm⟩ hj;refine Cf (l':=[]) (H':=[.blk hd [rS hs,As ht,rv hm,rB hw] 166,.row hm 83 4 (Ax Ab hu)]) Aa Aa ?_;replace hj:D8 hs ht hu hw=some r:=hj;unfold D8 at hj;refine Al (wa Aa (Au (A0 ?_)));obtain rfl:=A1 hj;exact Az (BW Tryz.results160 (AI Aa)) (sC (sC sN)) ⟨hm,Aa,Aa⟩
theorem QH (F:Nat)(hi:A6→Option (Bool×A6))(gb:(∀(hb:Nat) (hr:Value) (q:A6) (r:Bool×A6),hi q=some r→Fn Tryz.prog GE 125 [rP hb 0] [.blk hb [rS q.fS,As q.fAt,rv hr,rB q.fGreat] 166,.row hr 83 4 (Ax Ab q.fCells)] (λR H=>∃w0_2:Value,R=rB r.1∧H=[.blk hb [rS r.2.fS,As r.2.fAt,rv w0_2,rB r.2.fGreat] 166,.row w0_2 83 4 (Ax Ab r.2.fCells)])))(hb:Nat)(hr:Value)(q:A6)(r:Bool×A6)(h:Mx F hi q=some r):Fn Tryz.prog GE 125 [rP hb 0] [.blk hb [rS q.fS,As q.fAt,rv hr,rB q.fGreat] 166,.row hr 83 4 (Ax Ab q.fCells)] (λR H=>∃w0_2:Value,R=rB r.1∧H=[.blk hb [rS r.2.fS,As r.2.fAt,rv w0_2,rB r.2.fGreat] 166,.row w0_2 83 4 (Ax Ab r.2.fCells)]):=by
 refine enter (n:=96) Tryz.func125 Aa Tryz.ntmps125 Aa (λw Z=>?_);unfold Mx at h;refine Al (wa Aa (Bk (wm Aa (ob h λr1 e3 h2=>CV (Hr:=[]) Gp (Dv hb hr q ([91]:An) r1 e3) Aa (Zp _) Aa ?_))));rintro _ _ ⟨v4,rfl,rfl⟩;refine wa Aa (Au (Aq (C8 (S:=(Bool×An×Int×(List Ac)×Bool)×(Value)) (λσ=>Gu F hi r1 σ.1.1 σ.1.2.1 σ.1.2.2.1 σ.1.2.2.2.1 σ.1.2.2.2.2=some r) (λσ=>[(0,rP hb 0),(2,rB false),(3,rB r1.1),(19,rB σ.1.1)]) (λσ=>[.blk hb [rS σ.1.2.1,As σ.1.2.2.1,rv σ.2,rB σ.1.2.2.2.2] 166,.row σ.2 83 4 (Ax Ab σ.1.2.2.2.1)]) ?_ ?_)))
 ·refine At (wm Aa (wv (B7 Aa) (wm Aa (bz h2 (λhj gt=>?_) (λhj gu=>?_)))))
  ·refine wo hj (wm Aa (wo hj (ob gt λhs gv gw=>CV (Hr:=[]) Gp (Dv hb v4 r1.2 ([123]:An) hs gv) Aa (Zp _) Aa ?_)));rintro _ _ ⟨v24,rfl,rfl⟩;exact wo hj (wv (B7 Aa) (JF Aa hj Aa (Av (A5 (AK ((!hs.1,hs.2.fS,hs.2.fAt,hs.2.fCells,hs.2.fGreat),v24) gw (AL.c Aa (AL.c Aa (AL.c Aa (AL.c Aa AL.nil)))) (sC (sC sN)))))))
  ·exact wf hj (wf hj (wf hj (wv (r:=rB false) (AF Aa hj Aa) (Av (A5 (AK ((false,r1.2.fS,r1.2.fAt,r1.2.fCells,r1.2.fGreat),v4) gu (AL.c Aa (AL.c Aa (AL.c Aa (AL.c Aa AL.nil)))) (sC (sC sN))))))))
 ·rintro⟨⟨gc,hk,hl,hd,hm⟩,hJ⟩ h9;refine Cf (l':=[(0,rP hb 0),(2,rB false),(3,rB r1.1),(19,rB gc)]) (H':=[.blk hb [rS hk,As hl,rv hJ,rB hm] 166,.row hJ 83 4 (Ax Ab hd)]) Aa Aa ?_;replace h9:Gu F hi r1 gc hk hl hd hm=some r:=h9;unfold Gu at h9;refine cz h9 Aa (λgx gy=>?_) (λgx gz=>?_)
  ·refine Al (wm Aa (ob gy λg0 g1 g2=>CV (Hr:=[]) Tryz.call160 (QI F hb hJ (A6.mk hk hl hd hm) g0 g1) Aa (Zp _) Aa ?_));rintro _ _ ⟨g3,rfl,rfl⟩;refine wa Aa (Au (A0 (Af ?_)));obtain rfl:=A1 g2;exact Az (BW Jz (AI Aa)) (sC (sC sN)) ⟨g3,Aa,Aa⟩
  ·refine A3 (AT (Al (wa Aa (wv (r:=rS ([125]:An)) (A7 Aa) (Au (Aq (Al (wm Aa (Au (cz gz Aa (λhK g4=>?_) (λhK g5=>?_)))))))))))
   ·refine At (wa Aa (wv (r:=rS ([93]:An)) (A7 Aa) (Bk (wm Aa (wv (A2 Aa) (vF B2 Aa CD (vL 0 Es Aa (wv (BP (ys:=hd) (enc:=Ab) (i:=1) CX Aa Aa) (wa Aa (Bk (wm Aa (wm Aa (wv (A2 Aa) (vF B2 Aa CD (vL 0 Es Aa (wm Aa (wv (r:=B9 [As 5,As 0,rS ([]:An),As 0]) (G7 Aa Aa) (Ba (ys:=([(Ac.mk 5 0 ([]:An) 0)]:List Ac)) (enc:=Ab) (css:=[[As 5,As 0,rS ([]:An),As 0]]) (xs:=[.tmp 34]) CX DL LA Aa Aa Aa ⟨DH.agg ⟨Up.refl _,Up.refl _,Up.refl _,Up.refl _,trivial⟩,trivial⟩ Aa By Aa Aa Aa (λgd=>?_)))))))))))))))))));refine ck g4 λg6 g7=>Exists.elim HT λinf hinf=>BQ (xs:=hd) (ys:=([(Ac.mk 5 0 ([]:An) 0)]:List Ac)) (enc:=Ab) (i:=2) CX hinf.1 hinf.2.1 hinf.2.2.1 hinf.2.2.2 Aa Aa Aa Aa Aa (HY.w (i:=0) Aa Aa) By CC g6 Aa (λv37=>?_);refine wv (A2 Aa) (vF B2 Aa CD (Bv (i:=2) CD Aa Aa (Cl (i:=0) Aa) Aa Aa (cs':=[rS hk,As hl,rv v37,rB hm]) Aa (H':=[.row v37 83 4 (Ax Ab (hd++([(Ac.mk 5 0 ([]:An) 0)]:List Ac))),.row (.slice (some ⟨gd,0,none⟩) 1 1) 83 4 (Ax Ab ([(Ac.mk 5 0 ([]:An) 0)]:List Ac)),.blk hb [rS hk,As hl,rv v37,rB hm] 166]) Aa (Au (Aq (Al (wm Aa (wm Aa (ob g7 λhx g8 g9=>CV (Hr:=[.row (.slice (some ⟨gd,0,none⟩) 1 1) 83 4 (Ax Ab ([(Ac.mk 5 0 ([]:An) 0)]:List Ac))]) Gp (Dv hb v37 (A6.mk hk hl (hd++([(Ac.mk 5 0 ([]:An) 0)]:List Ac)) hm) ([93]:An) hx g8) Aa ((Ak (i:=2) Aa).trans (Zo _ (Zp _))) Aa ?_))))))));rintro _ _ ⟨ge,rfl,rfl⟩;refine Au (cz g9 Aa (λgA gB=>?_) (λgA gC=>?_))
    ·refine Al (wa Aa (Au (A0 (Af ?_))));obtain rfl:=A1 gB;exact Az (BW Jz (AI Aa)) (sC (sC (sS sN))) ⟨ge,Aa,Aa⟩
    ·refine A3 (AT (Al (wv (r:=rS ([]:An)) (A7 Aa) (Bk (wa Aa (Au (AO (ob gC λgD gE hL=>B4 (S:=Nat×(Int×An×Int×(List Ac)×Bool)×(Value)) (V:=(Unit)×(Unit)) 0 (λσ=>Cz (λσ=>H7 hi hd σ.1 σ.2.1 σ.2.2.1 σ.2.2.2.1 σ.2.2.2.2) σ.1 σ.2.1=some gD) (λσ=>[(0,rP hb 0),(2,rB false),(3,rB r1.1),(5,rS ([93]:An)),(6,As (hd.length:Int)),(7,rS ([]:An)),(8,As σ.2.1.1)]) (λσ=>[.blk hb [rS σ.2.1.2.1,As σ.2.1.2.2.1,rv σ.2.2,rB σ.2.1.2.2.2.2] 166,.row σ.2.2 83 4 (Ax Ab σ.2.1.2.2.2.1)]) (λσ=>σ.1) (F,(1,hx.2.fS,hx.2.fAt,hx.2.fCells,hx.2.fGreat),ge) gE (AL.c Aa (AL.c Aa (AL.c5 Aa Aa Aa Aa Aa AL.nil))) (sC (sC (sS sN))) (λσ=>Mz =some r) (λσ=>[]) (λσ=>[]) ?_ ?_))))))))
     ·rintro⟨xe,⟨hy,hN,hO,hP,hQ⟩,hR⟩ gF;refine Cf (l':=[(0,rP hb 0),(2,rB false),(3,rB r1.1),(5,rS ([93]:An)),(6,As (hd.length:Int)),(7,rS ([]:An)),(8,As hy)]) (H':=[.blk hb [rS hN,As hO,rv hR,rB hQ] 166,.row hR 83 4 (Ax Ab hP)]) Aa Aa ?_;obtain⟨gG,rfl,gH,hA,hB⟩:=CO gF;replace hA:H7 hi hd hy hN hO hP hQ=some gH:=hA;unfold H7 at hA;refine Aq (AO (Aq (Al (wm Aa (wv (B7 Aa) (Au (Db Aa (Yr hK) (A3 (AT (Aq (Al (wm Aa (ob hA λhe gI gJ=>CV (Hr:=[]) Tryz.call125 (gb hb hR (A6.mk hN hO hP hQ) he gI) Aa (Zp _) Aa ?_)))))))))))));rintro _ _ ⟨ht,rfl,rfl⟩;refine wv (B7 Aa) (Au (cz gJ Aa (λgK gL=>?_) (λgK gM=>?_)))
      ·refine Al (wa Aa (Au (A0 (Af (AD (Af (Af (Bg ?_))))))));have gN:=BG gL hB hL;refine AD ?_;obtain rfl:=A1 gN;exact Az (BW Jz (AI Aa)) (sC (sC sN)) ⟨ht,Aa,Aa⟩
      ·refine A3 (AT (Al (wm Aa (wv (A2 Aa) (vF B2 Aa CD (vL 0 Es Aa (wm Aa (wm Aa (ck gM λhS gO=>wv (r:=rv (DN 4 ht (Bi (hd.length:Int)) 0)) (DC (i:=1) CX DL Aa Aa Aa (B6 hS)) (wv (r:=rv (DN 4 ht (Bi (hd.length:Int)) 3)) (DZ (k:=1) C5 Aa C2 Aa (B6 hS) Aa Aa Aa) (HA (enc:=Ab) (ys:=he.2.fCells) (y':=(Ac.mk ((Ap he.2.fCells (hd.length:Int)).fKind) ((Ap he.2.fCells (hd.length:Int)).fInt) ((Ap he.2.fCells (hd.length:Int)).fStr) hy)) (i:=1) (j:=(hd.length:Int)) C2 Aa Aa (Bw Aa) Aa hS Aa Aa (H':=[.blk hb [rS he.2.fS,As he.2.fAt,rv ht,rB he.2.fGreat] 166,.row ht 83 4 (Ax Ab (List.set he.2.fCells (Bi (hd.length:Int)) (Ac.mk ((Ap he.2.fCells (hd.length:Int)).fKind) ((Ap he.2.fCells (hd.length:Int)).fInt) ((Ap he.2.fCells (hd.length:Int)).fStr) hy)))]) Aa (bd gO λgP gQ gR=>?_))))))))))));rw[← gQ];refine Au (Aq (Al (wm Aa (wm Aa (ob gR λgf gS gT=>CV (Hr:=[]) Gp (Dv hb ht (A6.mk he.2.fS he.2.fAt gP he.2.fGreat) ([93]:An) gf gS) Aa (Zp _) Aa ?_)))));rintro _ _ ⟨gg,rfl,rfl⟩;refine Au (cz gT Aa (λc167 gU=>?_) (λc167 gV=>?_))
       ·refine Al (wa Aa (Au (A0 (Af (AD (Af (Af (Bg ?_))))))));have gW:=BG gU hB hL;refine AD ?_;obtain rfl:=A1 gW;exact Az (BW Jz (AI Aa)) (sC (sC sN)) ⟨gg,Aa,Aa⟩
       ·refine A3 (AT (Al (wm Aa (ob gV λhz gX gY=>CV (Hr:=[]) Gp (Dv hb gg gf.2 ([44]:An) hz gX) Aa (Zp _) Aa ?_))));rintro _ _ ⟨gh,rfl,rfl⟩;refine wv (B7 Aa) (Au (cz gY Aa (λc175 gZ=>?_) (λc175 ca=>?_)))
        ·refine Al (wa Aa (Au (A0 (AD (Af (Af (Bg ?_)))))));have cb:=BG gZ hB hL;refine AD ?_;obtain rfl:=A1 cb;exact Az (BW Jz (AI Aa)) (sC (sC sN)) ⟨gh,Aa,Aa⟩
        ·refine A3 (AH (AT (At (wm Aa (ck ca λcc cd=>wv (BJ Aa Aa cc) (wa Aa (Av ?_)))))));have ce:=B8 cd hB;exact A5 (AK (gG,(hy+1,hz.2.fS,hz.2.fAt,hz.2.fCells,hz.2.fGreat),gh) ⟨ce,Z3 _⟩ (AL.c Aa (AL.c Aa (AL.c5 Aa Aa Aa Aa Aa AL.nil))) (sC (sC sN)))
     ·rintro⟨⟨⟩,⟨⟩⟩ cf
      cases cf
   ·refine A3 (AT (Al (wm Aa (wv (A2 Aa) (vF B2 Aa CD (vL 0 Es Aa (wv (BP (ys:=hd) (enc:=Ab) (i:=1) CX Aa Aa) (wa Aa (Bk (wm Aa (wm Aa (wv (A2 Aa) (vF B2 Aa CD (vL 0 Es Aa (wm Aa (wv (r:=B9 [As 6,As 0,rS ([]:An),As 0]) (G7 Aa Aa) (Ba (ys:=([(Ac.mk 6 0 ([]:An) 0)]:List Ac)) (enc:=Ab) (css:=[[As 6,As 0,rS ([]:An),As 0]]) (xs:=[.tmp 34]) CX DL LA Aa Aa Aa ⟨DH.agg ⟨Up.refl _,Up.refl _,Up.refl _,Up.refl _,trivial⟩,trivial⟩ Aa By Aa Aa Aa (λgi=>?_))))))))))))))))));refine ck g5 λcg ch=>Exists.elim HT λinf hinf=>BQ (xs:=hd) (ys:=([(Ac.mk 6 0 ([]:An) 0)]:List Ac)) (enc:=Ab) (i:=2) CX hinf.1 hinf.2.1 hinf.2.2.1 hinf.2.2.2 Aa Aa Aa Aa Aa (HY.w (i:=0) Aa Aa) By CC cg Aa (λhC=>?_);refine wv (A2 Aa) (vF B2 Aa CD (Bv (i:=2) CD Aa Aa (Cl (i:=0) Aa) Aa Aa (cs':=[rS hk,As hl,rv hC,rB hm]) Aa (H':=[.row hC 83 4 (Ax Ab (hd++([(Ac.mk 6 0 ([]:An) 0)]:List Ac))),.row (.slice (some ⟨gi,0,none⟩) 1 1) 83 4 (Ax Ab ([(Ac.mk 6 0 ([]:An) 0)]:List Ac)),.blk hb [rS hk,As hl,rv hC,rB hm] 166]) Aa (Au (Aq (Al (wm Aa (wm Aa (ob ch λh0 ci cj=>CV (Hr:=[.row (.slice (some ⟨gi,0,none⟩) 1 1) 83 4 (Ax Ab ([(Ac.mk 6 0 ([]:An) 0)]:List Ac))]) Gp (Dv hb hC (A6.mk hk hl (hd++([(Ac.mk 6 0 ([]:An) 0)]:List Ac)) hm) ([125]:An) h0 ci) Aa ((Ak (i:=2) Aa).trans (Zo _ (Zp _))) Aa ?_))))))));rintro _ _ ⟨gj,rfl,rfl⟩;refine Au (cz cj Aa (λcl cm=>?_) (λcl cn=>?_))
    ·refine Al (wa Aa (Au (A0 (Af ?_))));obtain rfl:=A1 cm;exact Az (BW Jz (AI Aa)) (sC (sC (sS sN))) ⟨gj,Aa,Aa⟩
    ·refine A3 (AT (Al (wv (r:=rS ([]:An)) (A7 Aa) (Bk (wa Aa (Au (AO (ob cn λco cp hD=>B4 (S:=Nat×(An×Int×An×Int×(List Ac)×Bool)×(Value)) (V:=(Unit)×(Unit)) 0 (λσ=>Cz (λσ=>H6 F hi hd σ.1 σ.2.1 σ.2.2.1 σ.2.2.2.1 σ.2.2.2.2.1 σ.2.2.2.2.2) σ.1 σ.2.1=some co) (λσ=>[(0,rP hb 0),(2,rB false),(3,rB r1.1),(5,rS ([125]:An)),(6,As (hd.length:Int)),(7,rS σ.2.1.1),(8,As σ.2.1.2.1)]) (λσ=>[.blk hb [rS σ.2.1.2.2.1,As σ.2.1.2.2.2.1,rv σ.2.2,rB σ.2.1.2.2.2.2.2] 166,.row σ.2.2 83 4 (Ax Ab σ.2.1.2.2.2.2.1)]) (λσ=>σ.1) (F,(([]:An),1,h0.2.fS,h0.2.fAt,h0.2.fCells,h0.2.fGreat),gj) cp (AL.c Aa (AL.c Aa (AL.c5 Aa Aa Aa Aa Aa AL.nil))) (sC (sC (sS sN))) (λσ=>My =some r) (λσ=>[]) (λσ=>[]) ?_ ?_))))))))
     ·rintro⟨xf,⟨hh,hn,hT,hU,hV,hW⟩,hX⟩ cq;refine Cf (l':=[(0,rP hb 0),(2,rB false),(3,rB r1.1),(5,rS ([125]:An)),(6,As (hd.length:Int)),(7,rS hh),(8,As hn)]) (H':=[.blk hb [rS hT,As hU,rv hX,rB hW] 166,.row hX 83 4 (Ax Ab hV)]) Aa Aa ?_;obtain⟨cr,rfl,hY,hE,h1⟩:=CO cq;replace hE:H6 F hi hd hh hn hT hU hV hW=some hY:=hE;unfold H6 at hE;refine Aq (AO (Aq (Al (wm Aa (wv (B7 Aa) (Au (BK Aa (EU hK) (Al (wm Aa (ob hE λha cs ct=>CV (Hr:=[]) Tryz.call161 (RA F hb hX (A6.mk hT hU hV hW) ha cs) Aa (Zp _) Aa ?_))))))))));rintro _ _ ⟨hG,rfl,rfl⟩;refine wm Aa (wv (A4 Aa Aa) (wv (A4 Aa Aa) (wa Aa (wa Aa (Au (Aq (C8 (S:=(Bool×Bool×Bool×An×Int×(List Ac)×Bool)×(Value)) (λσ=>DW hi hd hn ha σ.1.1 σ.1.2.1 σ.1.2.2.1 σ.1.2.2.2.1 σ.1.2.2.2.2.1 σ.1.2.2.2.2.2.1 σ.1.2.2.2.2.2.2=some hY) (λσ=>[(0,rP hb 0),(2,rB false),(3,rB r1.1),(5,rS ([125]:An)),(6,As (hd.length:Int)),(7,rS hh),(8,As hn),(9,rS ha.1),(10,rB ha.2.1),(44,rB r1.1),(45,rB (!r1.1)),(46,Cn [rS ha.1,rB ha.2.1]),(47,rP hb 0),(48,Cn [rS ha.1,rB ha.2.1]),(49,rS ha.1),(50,rB ha.2.1),(51,rB ha.2.1),(52,rB (!ha.2.1)),(53,rB (!ha.2.1)),(61,rB σ.1.1),(62,rB σ.1.2.1),(66,rB σ.1.2.2.1)]) (λσ=>[.blk hb [rS σ.1.2.2.2.1,As σ.1.2.2.2.2.1,rv σ.2,rB σ.1.2.2.2.2.2.2] 166,.row σ.2 83 4 (Ax Ab σ.1.2.2.2.2.2.1)]) ?_ ?_)))))))
      ·refine At (wm Aa (wv (B7 Aa) (wm Aa (bz ct (λhg cu=>?_) (λhg cv=>?_)))))
       ·exact wf hg (wf hg (wf hg (wu (wu (wu (wf hg (wv (r:=rB true) (AA Aa hg Aa) (wm Aa (wz Aa Aa (wz Aa Aa (wz Aa Aa (wv (r:=rB true) (AA (b:=true) Aa Aa Aa) (Av (A5 (AK ((true,true,true,ha.2.2.fS,ha.2.2.fAt,ha.2.2.fCells,ha.2.2.fGreat),hG) cu (AL.c Aa (AL.c Aa (AL.c5 Aa Aa Aa Aa Aa (AL.c5 Aa Aa Aa Aa Aa (AL.c5 Aa Aa Aa Aa Aa (AL.c5 Aa Aa Aa Aa Aa AL.nil)))))) (sC (sC sN)))))))))))))))))
       ·refine wo hg (wm Aa (wo hg (wv (D4 Aa Aa) (wo hg (wm Aa (bz cv (λho cw=>?_) (λho cx=>?_)))))))
        ·refine wo ho (wm Aa (wo ho (wm Aa (wo ho (wv (U6 Aa Aa) (wo hg (JF Aa ho Aa (Hc Aa hg Aa (wm Aa (bz cw (λhp cy=>?_) (λhp c0=>?_)))))))))))
         ·exact wf hp (wf hp (wf hp (wv (r:=rB true) (AA Aa hp Aa) (Av (A5 (AK ((Cp ha.1 hh||decide (ha.1=hh),Cp ha.1 hh||decide (ha.1=hh),true,ha.2.2.fS,ha.2.2.fAt,ha.2.2.fCells,ha.2.2.fGreat),hG) cy (AL.c Aa (AL.c Aa (AL.c5 Aa Aa Aa Aa Aa (AL.c5 Aa Aa Aa Aa Aa (AL.c5 Aa Aa Aa Aa Aa (AL.c5 Aa Aa Aa Aa Aa AL.nil)))))) (sC (sC sN))))))))
         ·refine wo hp (wm Aa (wo hp (ob c0 λhu c1 c2=>CV (Hr:=[]) Gp (Dv hb hG ha.2.2 ([58]:An) hu c1) Aa (Zp _) Aa ?_)));rintro _ _ ⟨c3,rfl,rfl⟩;exact wo hp (wv (B7 Aa) (Hc Aa hp Aa (Av (A5 (AK ((Cp ha.1 hh||decide (ha.1=hh),Cp ha.1 hh||decide (ha.1=hh),!hu.1,hu.2.fS,hu.2.fAt,hu.2.fCells,hu.2.fGreat),c3) c2 (AL.c Aa (AL.c Aa (AL.c5 Aa Aa Aa Aa Aa (AL.c5 Aa Aa Aa Aa Aa (AL.c5 Aa Aa Aa Aa Aa (AL.c5 Aa Aa Aa Aa Aa AL.nil)))))) (sC (sC sN)))))))
        ·refine wf ho (wf ho (wf ho (wo hg (wv (r:=rB false) (AF Aa ho Aa) (Hc Aa hg Aa (wm Aa (AJ (b:=false) Aa Aa Aa (wm Aa (AJ (b:=false) Aa Aa Aa (ob cx λhq c4 c6=>CV (Hr:=[]) Gp (Dv hb hG ha.2.2 ([58]:An) hq c4) Aa (Zp _) Aa ?_))))))))));rintro _ _ ⟨c7,rfl,rfl⟩;exact AJ (b:=false) Aa Aa Aa (wv (B7 Aa) (wv (r:=rB (!hq.1)) (AF (b:=false) Aa Aa Aa) (Av (A5 (AK ((false,false,!hq.1,hq.2.fS,hq.2.fAt,hq.2.fCells,hq.2.fGreat),c7) c6 (AL.c Aa (AL.c Aa (AL.c5 Aa Aa Aa Aa Aa (AL.c5 Aa Aa Aa Aa Aa (AL.c5 Aa Aa Aa Aa Aa (AL.c5 Aa Aa Aa Aa Aa AL.nil)))))) (sC (sC sN)))))))
      ·rintro⟨⟨gl,gm,gp,h3,h4,h5,h6⟩,hZ⟩ hH;refine Cf (l':=[(0,rP hb 0),(2,rB false),(3,rB r1.1),(5,rS ([125]:An)),(6,As (hd.length:Int)),(7,rS hh),(8,As hn),(9,rS ha.1),(10,rB ha.2.1),(44,rB r1.1),(45,rB (!r1.1)),(46,Cn [rS ha.1,rB ha.2.1]),(47,rP hb 0),(48,Cn [rS ha.1,rB ha.2.1]),(49,rS ha.1),(50,rB ha.2.1),(51,rB ha.2.1),(52,rB (!ha.2.1)),(53,rB (!ha.2.1)),(61,rB gl),(62,rB gm),(66,rB gp)]) (H':=[.blk hb [rS h3,As h4,rv hZ,rB h6] 166,.row hZ 83 4 (Ax Ab h5)]) Aa Aa ?_;replace hH:DW hi hd hn ha gl gm gp h3 h4 h5 h6=some hY:=hH;unfold DW at hH;refine cz hH Aa (λc8 c9=>?_) (λc8 cA=>?_)
       ·refine Al (wa Aa (Au (A0 (Af (Af (AD (Af (Af (Bg ?_)))))))));have cB:=BG c9 h1 hD;refine AD ?_;obtain rfl:=A1 cB;exact Az (BW Jz (AI Aa)) (sC (sC sN)) ⟨hZ,Aa,Aa⟩
       ·refine A3 (AT (Al (wm Aa (wa Aa (Au (At (wm Aa (wm Aa (wv (A2 Aa) (vF B2 Aa CD (vL 0 Es Aa (wm Aa (wv (r:=B9 [As 4,As 0,rS ha.1,As 0]) (J5 Aa Aa Aa Aa) (Ba (ys:=([(Ac.mk 4 0 ha.1 0)]:List Ac)) (enc:=Ab) (css:=[[As 4,As 0,rS ha.1,As 0]]) (xs:=[.tmp 74]) CX DL LA Aa Aa Aa ⟨DH.agg ⟨Up.refl _,Up.refl _,Up.refl _,Up.refl _,trivial⟩,trivial⟩ Aa By Aa Aa Aa (λh7=>?_)))))))))))))));refine ck cA λcC cD=>Exists.elim HT λinf hinf=>BQ (xs:=h5) (ys:=([(Ac.mk 4 0 ha.1 0)]:List Ac)) (enc:=Ab) (i:=2) CX hinf.1 hinf.2.1 hinf.2.2.1 hinf.2.2.2 Aa Aa Aa Aa Aa (HY.w (i:=0) Aa Aa) By CC cC Aa (λhI=>?_);refine wv (A2 Aa) (vF B2 Aa CD (Bv (i:=2) CD Aa Aa (Cl (i:=0) Aa) Aa Aa (cs':=[rS h3,As h4,rv hI,rB h6]) Aa (H':=[.row hI 83 4 (Ax Ab (h5++([(Ac.mk 4 0 ha.1 0)]:List Ac))),.row (.slice (some ⟨h7,0,none⟩) 1 1) 83 4 (Ax Ab ([(Ac.mk 4 0 ha.1 0)]:List Ac)),.blk hb [rS h3,As h4,rv hI,rB h6] 166]) Aa (Au (Aq (Al (wm Aa (ob cD λhf cE cF=>CV (Hr:=[.row (.slice (some ⟨h7,0,none⟩) 1 1) 83 4 (Ax Ab ([(Ac.mk 4 0 ha.1 0)]:List Ac))]) Tryz.call125 (gb hb hI (A6.mk h3 h4 (h5++([(Ac.mk 4 0 ha.1 0)]:List Ac)) h6) hf cE) Aa ((Ak (i:=2) Aa).trans (Zo _ (Zp _))) Aa ?_)))))));rintro _ _ ⟨hw,rfl,rfl⟩;refine wv (B7 Aa) (Au (cz cF Aa (λcG cH=>?_) (λcG cI=>?_)))
        ·refine Al (wa Aa (Au (A0 (Af (AD (Af (Af (Bg ?_))))))));have cJ:=BG cH h1 hD;refine AD ?_;obtain rfl:=A1 cJ;exact Az (BW Jz (AI Aa)) (sC (sC (sS sN))) ⟨hw,Aa,Aa⟩
        ·refine A3 (AT (Al (wm Aa (wv (A2 Aa) (vF B2 Aa CD (vL 0 Es Aa (wm Aa (wm Aa (ck cI λga cK=>wv (r:=rv (DN 4 hw (Bi (hd.length:Int)) 0)) (DC (i:=1) CX DL Aa Aa Aa (B6 ga)) (wv (r:=rv (DN 4 hw (Bi (hd.length:Int)) 3)) (DZ (k:=1) C5 Aa C2 Aa (B6 ga) Aa Aa Aa) (HA (enc:=Ab) (ys:=hf.2.fCells) (y':=(Ac.mk ((Ap hf.2.fCells (hd.length:Int)).fKind) ((Ap hf.2.fCells (hd.length:Int)).fInt) ((Ap hf.2.fCells (hd.length:Int)).fStr) hn)) (i:=1) (j:=(hd.length:Int)) C2 Aa Aa (Bw Aa) Aa ga Aa Aa (H':=[.blk hb [rS hf.2.fS,As hf.2.fAt,rv hw,rB hf.2.fGreat] 166,.row hw 83 4 (Ax Ab (List.set hf.2.fCells (Bi (hd.length:Int)) (Ac.mk ((Ap hf.2.fCells (hd.length:Int)).fKind) ((Ap hf.2.fCells (hd.length:Int)).fInt) ((Ap hf.2.fCells (hd.length:Int)).fStr) hn))),.row (.slice (some ⟨h7,0,none⟩) 1 1) 83 4 (Ax Ab ([(Ac.mk 4 0 ha.1 0)]:List Ac))]) Aa (bd cK λcL cM cN=>?_))))))))))));rw[← cM];refine Au (Aq (Al (wm Aa (wm Aa (ob cN λgq cO cP=>CV (Hr:=[.row (.slice (some ⟨h7,0,none⟩) 1 1) 83 4 (Ax Ab ([(Ac.mk 4 0 ha.1 0)]:List Ac))]) Gp (Dv hb hw (A6.mk hf.2.fS hf.2.fAt cL hf.2.fGreat) ([125]:An) gq cO) Aa (Zp _) Aa ?_)))));rintro _ _ ⟨gr,rfl,rfl⟩;refine Au (cz cP Aa (λcQ cR=>?_) (λcQ cS=>?_))
         ·refine Al (wa Aa (Au (A0 (Af (AD (Af (Af (Bg ?_))))))));have cT:=BG cR h1 hD;refine AD ?_;obtain rfl:=A1 cT;exact Az (BW Jz (AI Aa)) (sC (sC (sS sN))) ⟨gr,Aa,Aa⟩
         ·refine A3 (AT (Al (wm Aa (ob cS λh8 cU cV=>CV (Hr:=[.row (.slice (some ⟨h7,0,none⟩) 1 1) 83 4 (Ax Ab ([(Ac.mk 4 0 ha.1 0)]:List Ac))]) Gp (Dv hb gr gq.2 ([44]:An) h8 cU) Aa (Zp _) Aa ?_))));rintro _ _ ⟨gs,rfl,rfl⟩;refine wv (B7 Aa) (Au (cz cV Aa (λcW cX=>?_) (λcW cY=>?_)))
          ·refine Al (wa Aa (Au (A0 (AD (Af (Af (Bg ?_)))))));have cZ:=BG cX h1 hD;refine AD ?_;obtain rfl:=A1 cZ;exact Az (BW Jz (AI Aa)) (sC (sC (sS sN))) ⟨gs,Aa,Aa⟩
          ·refine A3 (AH (AT (At (wm Aa (ck cY λxa xb=>wv (BJ Aa Aa xa) (wa Aa (Av ?_)))))));have xc:=B8 xb h1;exact A5 (AK (cr,(ha.1,hn+1,h8.2.fS,h8.2.fAt,h8.2.fCells,h8.2.fGreat),gs) ⟨xc,Z3 _⟩ (AL.c Aa (AL.c Aa (AL.c5 Aa Aa Aa Aa Aa AL.nil))) (sC (sC (sS sN))))
     ·rintro⟨⟨⟩,⟨⟩⟩ xd
      cases xd
theorem Ls:∀F:Nat,(∀(ha:Nat) (hb:Value) (q:A6) (r:Bool×A6),H8 F q=some r→Fn Tryz.prog GE 125 [rP ha 0] [.blk ha [rS q.fS,As q.fAt,rv hb,rB q.fGreat] 166,.row hb 83 4 (Ax Ab q.fCells)] (λR H=>∃w0_2:Value,R=rB r.1∧H=[.blk ha [rS r.2.fS,As r.2.fAt,rv w0_2,rB r.2.fGreat] 166,.row w0_2 83 4 (Ax Ab r.2.fCells)]))
  | 0=>(λ_ _ _ _ h=>by simp[H8] at h)
  | nn+1=>(λha hb q r h=>QH nn (H8 nn) (Ls nn) ha hb q r (by rw[H8] at h;exact h))
theorem SC (F:Nat)(ha:Nat)(hb:Value)(q:A6)(r:Bool×A6)(h:H8 F q=some r):Fn Tryz.prog GE 125 [rP ha 0] [.blk ha [rS q.fS,As q.fAt,rv hb,rB q.fGreat] 166,.row hb 83 4 (Ax Ab q.fCells)] (λR H=>∃w0_2:Value,R=rB r.1∧H=[.blk ha [rS r.2.fS,As r.2.fAt,rv w0_2,rB r.2.fGreat] 166,.row w0_2 83 4 (Ax Ab r.2.fCells)]):=(Ls F) ha hb q r h
theorem NG (F:Nat)(s:An)(r:(List Ac)×Int)(h:LS F s=some r):Fn Tryz.prog GE 100 [rS s] [] (λR H=>R=Cn [AU 4 (Ax Ab r.1),As r.2]∧H=[]):=by
 refine enter (n:=34) Tryz.func100 Aa Tryz.ntmps100 Aa (λw Z=>?_);unfold LS at h;refine Al (wa Aa (wa Aa (Au (Aq (Al (wm Aa (wv (BA C4 Aa) (wv (D4 Aa Aa) (Au (cz h Aa (λc1 h2=>?_) (λc1 h3=>?_)))))))))))
 ·refine Al (wa Aa (wa Aa (Au (A0 (Af (WK.up (d:=2) (r:=AU 4 (Ax Ab ([]:List Ac))) Aa (Up.le (HZ.nil _)) ?_))))));obtain rfl:=A1 h2;exact Az (Dq R5 (AI Aa) (AI Aa)) sN ⟨Aa,Aa⟩
 ·refine A3 (AT (Al (wm Aa (wv (r:=B9 [rS s,As 0,rv (.slice none 0 0),rB false]) (OK Aa Aa) (BX Aa Aa (λb4=>?_))))));refine wa Aa (Au (Aq (C8 (S:=(Bool×An×Int×(List Ac)×Bool)×(Value)) (λσ=>Gv F σ.1.1 σ.1.2.1 σ.1.2.2.1 σ.1.2.2.2.1 σ.1.2.2.2.2=some r) (λσ=>[(2,rv (.slice none 0 0)),(3,As 0),(4,rP b4 0),(22,rB σ.1.1)]) (λσ=>[.blk b4 [rS σ.1.2.1,As σ.1.2.2.1,rv σ.2,rB σ.1.2.2.2.2] 166,.row σ.2 83 4 (Ax Ab σ.1.2.2.2.1)]) ?_ ?_)))
  ·refine At (wm Aa (WL.nilrow (e:=83) (sz:=4) (ob h3 λhb hk hl=>CV (Hr:=[]) Tryz.call125 (SC F b4 (.slice none 0 0                                                                                   ) (A6.mk s 0 ([]:List Ac) false) hb hk) Aa ((Ak (i:=1) Aa).trans (Zo _ (Zp _))) Aa ?_)));rintro _ _ ⟨v21,rfl,rfl⟩;refine wv (B7 Aa) (wm Aa (bz hl (λha hm=>?_) (λha hn=>?_)))
   ·exact wf ha (wf ha (wf ha (wf ha (wf ha (wf ha (wf ha (wv (r:=rB true) (AA Aa ha Aa) (Av (A5 (AK ((true,hb.2.fS,hb.2.fAt,hb.2.fCells,hb.2.fGreat),v21) hm (AL.c Aa (AL.c Aa (AL.c Aa (AL.c Aa AL.nil)))) (sC (sC sN))))))))))))
   ·exact wo ha (wm Aa (wo ha (wv (A2 Aa) (wo ha (vF B2 Aa C2 (wo ha (vL 0 CQ Aa (wo ha (wm Aa (wo ha (wv (BA C4 Aa) (wo ha (wv (Cr Aa Aa) (Hc Aa ha Aa (Av (A5 (AK ((!decide (hb.2.fAt=(s.length:Int)),hb.2.fS,hb.2.fAt,hb.2.fCells,hb.2.fGreat),v21) hn (AL.c Aa (AL.c Aa (AL.c Aa (AL.c Aa AL.nil)))) (sC (sC sN)))))))))))))))))))
  ·rintro⟨⟨hf,hg,hh,hd,hi⟩,hj⟩ he;refine Cf (l':=[(2,rv (.slice none 0 0)),(3,As 0),(4,rP b4 0),(22,rB hf)]) (H':=[.blk b4 [rS hg,As hh,rv hj,rB hi] 166,.row hj 83 4 (Ax Ab hd)]) Aa Aa ?_;replace he:Gv F hf hg hh hd hi=some r:=he;unfold Gv at he;refine cz he Aa (λho hp=>?_) (λho hq=>?_)
   ·refine Al (wa Aa (wa Aa (Au (A0 (Af (WK.up (d:=2) (r:=AU 4 (Ax Ab ([]:List Ac))) Aa (Up.le (HZ.nil _)) ?_))))));obtain rfl:=A1 hp;exact Az (Dq R5 (AI Aa) (AI Aa)) (sS (sS sN)) ⟨Aa,Aa⟩
   ·refine A3 (AT (Aq (Al (wm Aa (wv (A2 Aa) (vF B2 Aa He (vL 0 R6 Aa (Au (cz hq Aa (λhr hs=>?_) (λhr ht=>?_))))))))))
    ·refine Al (wa Aa (wa Aa (Au (A0 (Af (WK.up (d:=2) (r:=AU 4 (Ax Ab ([]:List Ac))) Aa (Up.le (HZ.nil _)) ?_))))));obtain rfl:=A1 hs;exact Az (Dq R5 (AI Aa) (AI Aa)) (sS (sS sN)) ⟨Aa,Aa⟩
    ·refine A3 (AT (Al (wm Aa (wv (A2 Aa) (vF B2 Aa CD (vL 0 Es Aa (WL.freeze (i:=1) Aa (WL.up (d:=30) (r:=AU 4 (Ax Ab hd)) Aa (Up.fact (i:=0) Aa) (ob ht λhu hw hx=>Di Tryz.call126 (QK F hd hu hw) Aa (wv (A4 Aa Aa) (wv (A4 Aa Aa) (wa Aa (wa Aa (Au (A0 ?_)))))))))))))));obtain rfl:=A1 hx;exact Az (Dq R5 (AI Aa) (AI Aa)) (sS (sS sN)) ⟨Aa,Aa⟩
end Go.Proofs.YtfobhhegpkinaaaGreatDoor.Q
namespace Go.Proofs.YtfobhhegpkinaaaGreatDoor
open Go
set_option linter.unusedVariables false
def Kq (a:(List Ac))(b:(List Ac))(ha:Int):Option (Stp (Int) (Out (Bool) (Unit))):=
 B0 (decide (ha<(a.length:Int))) (Bc (CR ha (a.length:Int))<|Bc (CR ha (b.length:Int))<|B0 (!(decide (((Ap a ha).fKind)=((Ap b ha).fKind))&&decide (((Ap a ha).fInt)=((Ap b ha).fInt))&&decide (((Ap a ha).fStr)=((Ap b ha).fStr))&&decide (((Ap a ha).fN)=((Ap b ha).fN)))) (some (.out (.ret false))) (Bc (BS .i64 (ha+1))<|some (.next (ha+1)))) (some (.out (.go ())))
def Ko :Option (Bool):=
 some true
def Un (F:Nat)(a:(List Ac))(b:(List Ac)):Option (Bool):=
 B0 (!decide ((a.length:Int)=(b.length:Int))) (some false) (Bq (Cz (λσ=>Kq a b σ) F 0) (Ch λν=>Ko ))
end Go.Proofs.YtfobhhegpkinaaaGreatDoor
