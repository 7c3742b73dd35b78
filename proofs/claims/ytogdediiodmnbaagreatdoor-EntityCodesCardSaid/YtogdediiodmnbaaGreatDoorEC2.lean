/-
  Texts of the proof, put together: FwG, Row, IdA, PlB, IdB, PlC, IdC, ShelfV, PlD, PlE, FwJ, IdR, TzL, QG, QO, RowQ, PQB, WQB, PVa, WVa, PVb, WVb, PVc, WVc.
-/
import Derived.Test.YtogdediiodmnbaaGreatDoorEC1
import Derived.Lib.SmallJoins
import Derived.Lib.AppendIntMem
import Derived.Lib.TrailingZeros
import Derived.Lib.LaidTab
import Derived.Test.YtogdediiodmnbaaGreatDoorCards
import Derived.Test.YtogdediiodmnbaaGreatDoorTie
import Derived.Carry
import Derived.ChangeSame
import Derived.ProofKit
import Derived.OpenShut
import Derived.Deep.DeepHandedRow
import Derived.Deep.DeepWitnessRowRef
import Derived.Lib.LaidIn
import Derived.Stop.LaidErr
import Derived.Test.YtogdediiodmnbaaGreatDoorProg
import Derived.Lib.Bytealg
import Derived.Lib.AtoiAllCases
import Derived.Lib.ItoaNum
import Derived.Lib.ItoaLen
import Derived.Shelf.Strings.Builder1
import Derived.Shelf.Strings.Count
import Derived.Shelf.Strings.Search1
import Derived.Shelf.Strings.Search2
import Derived.Shelf.Strings.Search3
import Derived.Shelf.Small.Strs
import Derived.Shelf.LaysM
import Derived.Shelf.LaysC
import Derived.Lib.ItoaMem
import Derived.Shelf.Lays7
import Derived.Shelf.Spec.TrailingZeros
import Derived.Deep.Slices
import Derived.ChangeArms
import Derived.DataReads
import Derived.Laws.Tables
namespace Go.Proofs.YtogdediiodmnbaaGreatDoor
open Go Go.RowKit
set_option linter.unusedVariables false
noncomputable def KF:Nat:=Nat.max (Nat.max 3 1) 5+1
def Za:List Int:=Lib.deBruijn64tab.map Int.ofNat
structure Qn (w:World):Prop where
 pow : Lib.TabIs Tryz.prog w "internal/strconv.uint64pow10" .u64 Lib.pow10Tab
 tz : Lib.TabIs Tryz.prog w "math/bits.deBruijn64tab" .u8 Za
 rng : ∃ tp p, w.var? Tryz.prog "strconv.ErrRange" = some #[.iface tp p]
theorem ZH : Tryz.prog.globalNamed "internal/strconv.uint64pow10" = some 3 := by kernel_rfl
theorem ZG : Tryz.prog.globalNamed "strconv.ErrRange" = some 1 := by kernel_rfl
theorem gTz : Tryz.prog.globalNamed "math/bits.deBruijn64tab" = some 5 := by kernel_rfl
theorem W6:5<KF:=by decide +kernel
theorem UN:3<KF:=by decide +kernel
theorem UM:1<KF:=by decide +kernel
theorem Qn.block (w w':World)(h:∀k,k<KF→w'.heap[k]? =w.heap[k]?)(hT:Qn w):Qn w':=by
 obtain⟨tp,p,hr⟩:=hT.rng;have hp:=hT.pow;have hz:=hT.tz;unfold Lib.TabIs at hp hz;refine⟨?_,?_,tp,p,?_⟩
 ·unfold Lib.TabIs;unfold World.var? at hp ⊢;rw[ZH] at hp ⊢;simp only[Option.bind_some] at hp ⊢;rw[h _ UN];exact hp
 ·unfold Lib.TabIs;unfold World.var? at hz ⊢;rw[gTz] at hz ⊢;simp only[Option.bind_some] at hz ⊢;rw[h _ W6];exact hz
 ·unfold World.var? at hr ⊢;rw[ZG] at hr ⊢;simp only[Option.bind_some] at hr ⊢;rw[h _ UM];exact hr
def XB (w:World)(M:List Nat):Prop:=KF≤w.heap.size∧∀k∈M,KF≤k
theorem Qn.st {w0 w:World}{M:List Nat}{H:List Ent}(hT:Qn w0)(hG:XB w0 M)(hw:St w0 M H w):Qn w:=
 Qn.block w0 w (λk hk=>hw.old k (Nat.lt_of_lt_of_le hk hG.1) (λhm=>by have:=hG.2 k hm;omega)) hT
theorem XB.nil {w:World}(h:KF≤w.heap.size):XB w []:=⟨h,by simp⟩
theorem XB.st {w0 w:World}{M:List Nat}{H:List Ent}(hG:XB w0 M)(hw:St w0 M H w):KF≤w.heap.size:=Nat.le_trans hG.1 hw.size
structure TZ (w:World):Prop where
 tabs:Qn w
 size:KF≤w.heap.size
theorem TZ.st {w0 w:World}{M:List Nat}{H:List Ent}(hE:TZ w0)(hM:∀k∈M,KF≤k)(hw:St w0 M H w):TZ w:=
 ⟨hE.tabs.st ⟨hE.size,hM⟩ hw,Nat.le_trans hE.size hw.size⟩
theorem TZ.st0 {w0 w:World}{H:List Ent}(hE:TZ w0)(hw:St w0 [] H w):TZ w:=hE.st (by simp) hw
theorem Te (p:List UInt8):(B p).data.toList=p:=by simp[B]
theorem WS (m:Int)(h0 : -9223372036854775808≤m)(h1:m≤9223372036854775807)(w:World)(hE:TZ w):Calls Tryz.prog 93 [.int .i64 m].toArray w (K8 w (.string (B (Lib.itoa m)))):=
 (Tryz.strconv_Itoa m h0 h1 w hE.tabs.pow).mono λe w' ⟨he,k,os,hw⟩=>⟨he,by rw[hw];exact St.of_below (Lib.below_grow _ _ (AbA _) _ _)⟩
theorem YR (p:List UInt8)(hp:p.length≤281474976710656)(v:Int)(h:Lib.atoiAll p = .ok v)(w:World):Calls Tryz.prog 97 [.string (B p)].toArray w (K8 w (.tuple #[.int .i64 v,.nilIface])):=
 (Tryz.strconv_Atoi_ok (B p) (by rw[DC];omega) v (by rw[Te];exact h) w).mono λe w' ⟨he,hw⟩=>⟨he,by
  rcases hw with rfl | ⟨t,rfl⟩
  ·exact St.refl _ _
  ·exact St.of_below (Joins.below_bytesWorld _ _ _ _ (AbA _))⟩
theorem Tb (p:List UInt8)(hp:p.length≤281474976710656)(h:Lib.atoiAll p = .range)(w:World)(hE:TZ w) :
  Calls Tryz.prog 97 [.string (B p)].toArray w (ZT w [] (λv H=>∃m t b,v = .tuple #[.int .i64 m,.iface t b]∧H=[])):=by
 obtain⟨tp,q,hr⟩:=hE.tabs.rng;exact(Tryz.strconv_Atoi_range_var (B p) (by rw[DC];omega) (by rw[Te];exact h) tp q w hr).mono λe w' ⟨N,he,_,_,hb⟩=>⟨_,_,he,St.of_below hb,_,_,_,rfl,rfl⟩
open Go Go.ChangeShapes Go.WideShapes Go.ChangeAt Go.RowKit Go.WideElems
theorem own:ownKnob Tryz.prog.godebug=none:=by kernel_rfl
theorem Y3:laidOutB Tryz.prog=true:=by kernel_rfl
section
variable {H : Type} {enc : TypeId × Value → H} {P : Program}
theorem KB (hl:laidOutB P=true){W W':World}(hb:Below W.heap.size W W'){sp:Nat→Bool}:∀{ts:List TypeId} {vs:List Value} {ds:List (DataW H)} {ps:List MemPlace},ts.all (λt=>P.readableRec t&&decide (t<P.types.size))=true→
  DataW.TrodAll enc P W 0 (λ_=>true) true ts vs ds ps→(∀p∈ps,p.block<W.heap.size)→(∀p∈ps,sp p.block=true)→DataW.TrodAll enc P W' 0 sp true ts vs ds ps
 | [],[],[],_,_,h,_,_=>h
 | [],_::_,_,_,_,h,_,_=>h.elim
 | [],[],_::_,_,_,h,_,_=>h.elim
 | _::_,[],_,_,_,h,_,_=>h.elim
 | _::_,_::_,[],_,_,h,_,_=>h.elim
 | t::ts,v::vs,d::ds,ps,ht,⟨p,q,h1,h2,e⟩,hlt,hs=>by
  simp only[AbS,Abk,Abd] at ht;refine⟨p,q,?_,KB hl hb ht.2 h2 (λx hx=>hlt x (by rw[e];exact List.mem_append_right _ hx)) (λx hx=>hs x (by rw[e];exact List.mem_append_right _ hx)),e⟩;exact Trod_stays hl ht.1.1 ht.1.2 h1 (λx hx=>hb.same (hlt x (by rw[e];exact List.mem_append_left _ hx))) (λx hx=>hs x (by rw[e];exact List.mem_append_left _ hx))
theorem UD (hl:laidOutB P=true){f:Func}{s:ChangeSpec}{apart fresh handsOn:Bool}{W W':World}{args:Array Value}{ds gs:List (DataW H)}{before:List MemPlace}{tb:TypeId}(hp:f.params.toList.all (λt=>P.readableRec t&&decide (t<P.types.size))=true)
  (hv:s.vars=[]) (hr:f.resultTypes = #[tb]) (hb4:P.underlying tb=some .bool) (hW:DataW.Whole enc P f.params.toList s.vars apart W args.toList ds gs before)
  (h1:(s.fn H (ds++gs)).results=[.lit (.bool true)]) (h2:(s.fn H (ds++gs)).args=ds) (h3:(s.fn H (ds++gs)).vars=[]) (hb:Below W.heap.size W W') :
  s.post enc P f apart fresh handsOn false W args (.bool true) W':=by
 have hlt:∀p∈before,p.block<W.heap.size:=λp hp=>hW.lt p hp;have hW':=hW;obtain⟨p,q,hA,hV,hbf,_,_⟩:=hW';have hq:q=[]:=by
  rw[hv] at hV
  cases gs with
  | nil=>exact hV
  | cons _ _=>exact hV.elim
 subst hq;rw[AbL] at hbf;subst hbf;refine⟨ds,gs,before,[],before,[],hW,?_,?_,?_,World.keptBut_mono (λp hp=>⟨hp,.inr (.inl hp)⟩) (hb.frame (·∈before)),λh=>by cases h⟩
 ·rw[h1,hr];exact trodAll_mk1 (shut_bool hb4 true)
 ·rw[h2];exact KB hl hb hp hA hlt (λx hx=>by simpa using hlt x hx)
 ·rw[hv,h3];exact rfl
end
theorem SY:Tryz.prog.underlying 4=some .bool:=Tryz.underlying4
def Of : List (String × DataW Unit) := [("math/bits.deBruijn32tab", Rows.laid_math_bits_deBruijn32tab), ("math/bits.deBruijn64tab", Rows.laid_math_bits_deBruijn64tab), ("internal/strconv.uint64pow10", Rows.laid_internal_strconv_uint64pow10), ("strconv.ErrRange", Rows.laid_strconv_ErrRange), ("strconv.ErrSyntax", Rows.laid_strconv_ErrSyntax)]
theorem Xb:(Tryz.prog.globals[3]?).map (·.type)=some 220:=by kernel_rfl
theorem Xa:(Tryz.prog.globals[1]?).map (·.type)=some 136:=by kernel_rfl
theorem Vo:Tryz.prog.cellsOf 188=1:=by kernel_rfl
theorem Vp:Tryz.prog.cellsOf 220=20:=by kernel_rfl
theorem YA:(Tryz.prog.globals[5]?).map (·.type)=some 229:=by kernel_rfl
theorem X0:Tryz.prog.cellsOf 5=1:=by kernel_rfl
theorem RM:Tryz.prog.cellsOf 229=64:=by kernel_rfl
theorem Vq:Tryz.prog.cellsOf 9=1:=by kernel_rfl
theorem X1:Tryz.prog.cellsOf 225=1:=by kernel_rfl
theorem TN : "*" ++ "errors.errorString" = "*errors.errorString" := by decide
theorem ZJ (u : TypeId) (h : Tryz.prog.typeName? 3 u = some "*errors.errorString") : u = 223 :=
 typeName_ptr_named (nm := "errors.errorString") (by rw [TN]; kernel_rfl) (by kernel_rfl) (by decide) u (by rw [TN]; exact h)
theorem Qa {W:World}{n:String}{g:Nat}{cs:Array Value}(hg:Tryz.prog.globalNamed n=some g)(h:W.var? Tryz.prog n=some cs):g<W.heap.size:=by
 unfold World.var? at h;rw[hg] at h;simp only[Option.bind_some] at h
 cases hh:W.heap[g]? with
 | none=>rw[hh] at h;cases h
 | some o=>exact(Array.getElem?_eq_some_iff.1 hh).1
theorem ZK {W:World}(h:laidMet Tryz.prog Of W):TZ W:=by
 have h2:=laidMet.tail h;have hz : Lib.TabIs Tryz.prog W "math/bits.deBruijn64tab" .u8 Za := Lib.tabIs_of_head gTz YA Tryz.underlying229 Tryz.underlying5 X0 RM h2
 have h3:=laidMet.tail h2;have h4:=laidMet.tail h3;have hp : Lib.TabIs Tryz.prog W "internal/strconv.uint64pow10" .u64 Lib.pow10Tab := Lib.tabIs_of_head ZH Xb Tryz.underlying220 Tryz.underlying188 Vo Vp h3
 obtain⟨a,s,hv,_,_,_⟩:=laid_sentinel h4 ZG Xa Tryz.underlying136 ZJ Tryz.underlying223 Tryz.underlying225 rfl rfl Tryz.underlying9 X1 Vq;refine⟨⟨hp,hz,_,_,hv⟩,?_⟩;have h1:=Qa ZH hp;have h5:=Qa ZG hv;exact Nat.max_lt.2 ⟨Nat.max_lt.2 ⟨h1,h5⟩,Qa gTz hz⟩
noncomputable def Kr (os:Os):World:=
 let w0:=World.holding Tryz.prog os ⟨#[],#[],[]⟩
 let put (h:Array Obj) (g:Nat) (cs:Array Value):Array Obj:=h.modify g fun
  | .cells _ t frozen=>.cells cs t frozen
  | o=>o
 let nums (d:DataW Unit):Array Value:=match d with
  | .agg ds=>(ds.map fun | .lit (.int k n)=>Value.int k n | _=>undef).toArray
  | _=>#[]
 let n:=w0.heap.size
 let h1:=put w0.heap 4 (nums Rows.laid_math_bits_deBruijn32tab)
 let h2:=put h1 5 (nums Rows.laid_math_bits_deBruijn64tab)
 let h3:=put h2 3 (nums Rows.laid_internal_strconv_uint64pow10)
 let h4:=put h3 1 #[.iface 223 (.pointer (some ⟨n,0,none⟩))]
 let h5:=put h4 0 #[.iface 223 (.pointer (some ⟨n+1,0,none⟩))]
 let h6:=h5.push (.cells #[.string ⟨#[118,97,108,117,101,32,111,117,116,32,111,102,32,114,97,110,103,101]⟩] 225 (0,0))
 let h7:=h6.push (.cells #[.string ⟨#[105,110,118,97,108,105,100,32,115,121,110,116,97,120]⟩] 225 (0,0))
 { w0 with heap:=h7 }
set_option maxRecDepth 100000 in
theorem WJ (os:Os)(args:Array Value):laidMet Tryz.prog Of ((Kr os).forCall (λ_ _=>0) ⟨#[],args,[]⟩).memory:=
 laidMet_of_run' 8 (by kernel_rfl) (by kernel_rfl)
set_option linter.unusedSimpArgs false
set_option maxRecDepth 100000
theorem Ye (c:Int)(w:World):Calls Tryz.prog 131 [.int .i32 (c)].toArray w (K8 w (.bool (Me c))):=by
 refine HR (n:=9) Tryz.func131 rfl Tryz.ntmps131 rfl (Ai (Ah (A6 (Av rfl) rfl (Aj (Au (AW ?_))))));refine AG [(2,.bool (((decide ((97)≤(c)))&&(decide ((c)≤(122))))))] [] (φ:=True) ?_ (λhm1=>?_)
 ·refine Ah (A6 (Aq rfl) rfl (A6 (GR rfl rfl) rfl (A6 (Aq rfl) rfl (AO (decide ((97)≤(c))) (λh1=>?_) (λh1=>?_)))))
  ·have g1:=h1;try simp only[Abd,Abc] at g1
   refine Bp rfl rfl h1 (A6 (Aq rfl) rfl (Bp rfl rfl h1 (A6 (K6 rfl rfl) rfl (A6 (Ax rfl h1 rfl) rfl (A6 (Av rfl) rfl (Aj ?_))))));exact Au (BJ trivial ⟨fb (by simp[h1]),trivial⟩ .slnil)
  ·have g1:=h1;try simp only[Abd,Abc] at g1
   refine AS rfl rfl h1 rfl (AS rfl rfl h1 rfl (A6 (A7 rfl h1 rfl) rfl (A6 (Av rfl) rfl (Aj ?_))));exact Au (BJ trivial ⟨fb (by simp[h1]),trivial⟩ .slnil)
 refine As (Ar (BY rfl rfl) ?_);exact Hl (by first | rfl | simp[])
theorem YK (c:Int)(w:World):Calls Tryz.prog 132 [.int .i32 (c)].toArray w (K8 w (.bool (M0 c))):=by
 refine HR (n:=9) Tryz.func132 rfl Tryz.ntmps132 rfl (Ai (Ah (A6 (Av rfl) rfl (Aj (Au (AW ?_))))));refine AG [(2,.bool (((decide ((48)≤(c)))&&(decide ((c)≤(57))))))] [] (φ:=True) ?_ (λhm3=>?_)
 ·refine Ah (A6 (Aq rfl) rfl (A6 (GR rfl rfl) rfl (A6 (Aq rfl) rfl (AO (decide ((48)≤(c))) (λh3=>?_) (λh3=>?_)))))
  ·have g3:=h3;try simp only[Abd,Abc] at g3
   refine Bp rfl rfl h3 (A6 (Aq rfl) rfl (Bp rfl rfl h3 (A6 (K6 rfl rfl) rfl (A6 (Ax rfl h3 rfl) rfl (A6 (Av rfl) rfl (Aj ?_))))));exact Au (BJ trivial ⟨fb (by simp[h3]),trivial⟩ .slnil)
  ·have g3:=h3;try simp only[Abd,Abc] at g3
   refine AS rfl rfl h3 rfl (AS rfl rfl h3 rfl (A6 (A7 rfl h3 rfl) rfl (A6 (Av rfl) rfl (Aj ?_))));exact Au (BJ trivial ⟨fb (by simp[h3]),trivial⟩ .slnil)
 refine As (Ar (BY rfl rfl) ?_);exact Hl (by first | rfl | simp[])
theorem WI (c:Int)(w:World):Calls Tryz.prog 104 [.int .i32 (c)].toArray w (K8 w (.bool (D6 c))):=by
 refine HR (n:=37) Tryz.func104 rfl Tryz.ntmps104 rfl (Ai (Ah (A6 (Av rfl) rfl (Aj (Au (AW ?_))))));refine AG [(2,.bool (((Me c)||((M0 c)||(bif decide ((65)≤(c)) then((decide ((c)≤(90)))||((decide ((c)=(45)))||((decide ((c)=(95)))||((decide ((c)=(46)))||((decide ((c)=(58)))||(decide ((c)=(47)))))))) else((decide ((c)=(45)))||((decide ((c)=(95)))||((decide ((c)=(46)))||((decide ((c)=(58)))||(decide ((c)=(47))))))))))))] [] (φ:=True) ?_ (λhn=>?_)
 ·refine Ah (A6 (Aq rfl) rfl (CB Tryz.call131 rfl (λw hw=>Ye c w) rfl (A6 (Aq rfl) rfl (AO (Me c) (λh5=>?_) (λh5=>?_)))))
  ·have g5:=h5;try simp only[Abd,Abc] at g5
   refine AS rfl rfl h5 rfl (AS rfl rfl h5 rfl (A6 (Ax rfl h5 rfl) rfl (A6 (Aq rfl) rfl (AS rfl rfl rfl rfl (AS rfl rfl rfl rfl (AS rfl rfl rfl rfl (Er rfl rfl rfl (Er rfl rfl rfl (AS rfl rfl rfl rfl (A6 (Ax rfl rfl rfl) rfl (A6 (Aq rfl) rfl (AS rfl rfl rfl rfl (AS rfl rfl rfl rfl (A6 (Ax rfl rfl rfl) rfl (A6 (Aq rfl) rfl (AS rfl rfl rfl rfl (AS rfl rfl rfl rfl (A6 (Ax rfl rfl rfl) rfl (A6 (Aq rfl) rfl (AS rfl rfl rfl rfl (AS rfl rfl rfl rfl (A6 (Ax rfl rfl rfl) rfl (A6 (Aq rfl) rfl ?_)))))))))))))))))))))));refine AS rfl rfl rfl rfl (AS rfl rfl rfl rfl (A6 (Ax rfl rfl rfl) rfl (A6 (Aq rfl) rfl (AS rfl rfl rfl rfl (AS rfl rfl rfl rfl (A6 (Ax rfl rfl rfl) rfl (A6 (Av rfl) rfl (Aj ?_))))))));exact Au (BJ trivial ⟨fb (by simp[h5]),trivial⟩ .slnil)
  ·have g5:=h5;try simp only[Abd,Abc] at g5
   refine Bp rfl rfl h5 (A6 (Aq rfl) rfl (Bp rfl rfl h5 (CB Tryz.call132 rfl (λw hw=>YK c w) rfl (A6 (A7 rfl h5 rfl) rfl (A6 (Aq rfl) rfl (AO (M0 c) (λh6=>?_) (λh6=>?_)))))))
   ·have g6:=h6;try simp only[Abd,Abc] at g6
    refine AS rfl rfl h6 rfl (AS rfl rfl h6 rfl (AS rfl rfl h6 rfl (Er rfl rfl rfl (Er rfl rfl rfl (AS rfl rfl h6 rfl (A6 (Ax rfl h6 rfl) rfl (A6 (Aq rfl) rfl (AS rfl rfl rfl rfl (AS rfl rfl rfl rfl (A6 (Ax rfl rfl rfl) rfl (A6 (Aq rfl) rfl (AS rfl rfl rfl rfl (AS rfl rfl rfl rfl (A6 (Ax rfl rfl rfl) rfl (A6 (Aq rfl) rfl (AS rfl rfl rfl rfl (AS rfl rfl rfl rfl (A6 (Ax rfl rfl rfl) rfl (A6 (Aq rfl) rfl (AS rfl rfl rfl rfl (AS rfl rfl rfl rfl (A6 (Ax rfl rfl rfl) rfl (A6 (Aq rfl) rfl ?_)))))))))))))))))))))));refine AS rfl rfl rfl rfl (AS rfl rfl rfl rfl (A6 (Ax rfl rfl rfl) rfl (A6 (Av rfl) rfl (Aj ?_))));exact Au (BJ trivial ⟨fb (by simp[h5,h6]),trivial⟩ .slnil)
   ·have g6:=h6;try simp only[Abd,Abc] at g6
    refine Bp rfl rfl h6 (A6 (Aq rfl) rfl (Bp rfl rfl h6 (A6 (GR rfl rfl) rfl (Bp rfl rfl h6 (A6 (Aq rfl) rfl (AO (decide ((65)≤(c))) (λh7=>?_) (λh7=>?_)))))))
    ·have g7:=h7;try simp only[Abd,Abc] at g7
     refine Bp rfl rfl h7 (A6 (Aq rfl) rfl (Bp rfl rfl h7 (A6 (K6 rfl rfl) rfl (Bp rfl rfl h6 (A6 (Ax rfl h7 rfl) rfl (A6 (A7 rfl h6 rfl) rfl (A6 (Aq rfl) rfl (AO (decide ((c)≤(90))) (λh8=>?_) (λh8=>?_)))))))))
     ·have g8:=h8;try simp only[Abd,Abc] at g8
      refine AS rfl rfl h8 rfl (AS rfl rfl h8 rfl (A6 (Ax rfl h8 rfl) rfl (A6 (Aq rfl) rfl (AS rfl rfl rfl rfl (AS rfl rfl rfl rfl (A6 (Ax rfl rfl rfl) rfl (A6 (Aq rfl) rfl (AS rfl rfl rfl rfl (AS rfl rfl rfl rfl (A6 (Ax rfl rfl rfl) rfl (A6 (Aq rfl) rfl (AS rfl rfl rfl rfl (AS rfl rfl rfl rfl (A6 (Ax rfl rfl rfl) rfl (A6 (Aq rfl) rfl (AS rfl rfl rfl rfl (AS rfl rfl rfl rfl (A6 (Ax rfl rfl rfl) rfl (A6 (Av rfl) rfl (Aj ?_))))))))))))))))))));exact Au (BJ trivial ⟨fb (by simp[h5,h6,h7,h8]),trivial⟩ .slnil)
     ·have g8:=h8;try simp only[Abd,Abc] at g8
      refine Bp rfl rfl h8 (A6 (Aq rfl) rfl (Bp rfl rfl h8 (A6 (BE rfl rfl) rfl (A6 (A7 rfl h8 rfl) rfl (A6 (Aq rfl) rfl (AO (decide ((c)=(45))) (λh9=>?_) (λh9=>?_)))))))
      ·have g9:=h9;try simp only[Abd,Abc] at g9
       refine AS rfl rfl h9 rfl (AS rfl rfl h9 rfl (A6 (Ax rfl h9 rfl) rfl (A6 (Aq rfl) rfl (AS rfl rfl rfl rfl (AS rfl rfl rfl rfl (A6 (Ax rfl rfl rfl) rfl (A6 (Aq rfl) rfl (AS rfl rfl rfl rfl (AS rfl rfl rfl rfl (A6 (Ax rfl rfl rfl) rfl (A6 (Aq rfl) rfl (AS rfl rfl rfl rfl (AS rfl rfl rfl rfl (A6 (Ax rfl rfl rfl) rfl (A6 (Av rfl) rfl (Aj ?_))))))))))))))));exact Au (BJ trivial ⟨fb (by simp[h5,h6,h7,h8,h9]),trivial⟩ .slnil)
      ·have g9:=h9;try simp only[Abd,Abc] at g9
       refine Bp rfl rfl h9 (A6 (Aq rfl) rfl (Bp rfl rfl h9 (A6 (BE rfl rfl) rfl (A6 (A7 rfl h9 rfl) rfl (A6 (Aq rfl) rfl (AO (decide ((c)=(95))) (λhb=>?_) (λhb=>?_)))))))
       ·have hi:=hb;try simp only[Abd,Abc] at hi
        refine AS rfl rfl hb rfl (AS rfl rfl hb rfl (A6 (Ax rfl hb rfl) rfl (A6 (Aq rfl) rfl (AS rfl rfl rfl rfl (AS rfl rfl rfl rfl (A6 (Ax rfl rfl rfl) rfl (A6 (Aq rfl) rfl (AS rfl rfl rfl rfl (AS rfl rfl rfl rfl (A6 (Ax rfl rfl rfl) rfl (A6 (Av rfl) rfl (Aj ?_))))))))))));exact Au (BJ trivial ⟨fb (by simp[h5,h6,h7,h8,h9,hb]),trivial⟩ .slnil)
       ·have hi:=hb;try simp only[Abd,Abc] at hi
        refine Bp rfl rfl hb (A6 (Aq rfl) rfl (Bp rfl rfl hb (A6 (BE rfl rfl) rfl (A6 (A7 rfl hb rfl) rfl (A6 (Aq rfl) rfl (AO (decide ((c)=(46))) (λhe=>?_) (λhe=>?_)))))))
        ·have hj:=he;try simp only[Abd,Abc] at hj
         refine AS rfl rfl he rfl (AS rfl rfl he rfl (A6 (Ax rfl he rfl) rfl (A6 (Aq rfl) rfl (AS rfl rfl rfl rfl (AS rfl rfl rfl rfl (A6 (Ax rfl rfl rfl) rfl (A6 (Av rfl) rfl (Aj ?_))))))));exact Au (BJ trivial ⟨fb (by simp[h5,h6,h7,h8,h9,hb,he]),trivial⟩ .slnil)
        ·have hj:=he;try simp only[Abd,Abc] at hj
         refine Bp rfl rfl he (A6 (Aq rfl) rfl (Bp rfl rfl he (A6 (BE rfl rfl) rfl (A6 (A7 rfl he rfl) rfl (A6 (Aq rfl) rfl (AO (decide ((c)=(58))) (λhg=>?_) (λhg=>?_)))))))
         ·have hk:=hg;try simp only[Abd,Abc] at hk
          refine AS rfl rfl hg rfl (AS rfl rfl hg rfl (A6 (Ax rfl hg rfl) rfl (A6 (Av rfl) rfl (Aj ?_))));exact Au (BJ trivial ⟨fb (by simp[h5,h6,h7,h8,h9,hb,he,hg]),trivial⟩ .slnil)
         ·have hk:=hg;try simp only[Abd,Abc] at hk
          refine Bp rfl rfl hg (A6 (Aq rfl) rfl (Bp rfl rfl hg (A6 (BE rfl rfl) rfl (A6 (A7 rfl hg rfl) rfl (A6 (Av rfl) rfl (Aj ?_))))));exact Au (BJ trivial ⟨fb (by simp[h5,h6,h7,h8,h9,hb,he,hg]),trivial⟩ .slnil)
    ·have g7:=h7;try simp only[Abd,Abc] at g7
     refine AS rfl rfl h7 rfl (AS rfl rfl h7 rfl (Bp rfl rfl h6 (A6 (A7 rfl h7 rfl) rfl (A6 (A7 rfl h6 rfl) rfl (A6 (Aq rfl) rfl (Bp rfl rfl rfl (A6 (Aq rfl) rfl (Bp rfl rfl rfl (A6 (BE rfl rfl) rfl (A6 (A7 rfl rfl rfl) rfl (A6 (Aq rfl) rfl (AO (decide ((c)=(45))) (λha=>?_) (λha=>?_)))))))))))))
     ·have hl:=ha;try simp only[Abd,Abc] at hl
      refine AS rfl rfl ha rfl (AS rfl rfl ha rfl (A6 (Ax rfl ha rfl) rfl (A6 (Aq rfl) rfl (AS rfl rfl rfl rfl (AS rfl rfl rfl rfl (A6 (Ax rfl rfl rfl) rfl (A6 (Aq rfl) rfl (AS rfl rfl rfl rfl (AS rfl rfl rfl rfl (A6 (Ax rfl rfl rfl) rfl (A6 (Aq rfl) rfl (AS rfl rfl rfl rfl (AS rfl rfl rfl rfl (A6 (Ax rfl rfl rfl) rfl (A6 (Av rfl) rfl (Aj ?_))))))))))))))));exact Au (BJ trivial ⟨fb (by simp[h5,h6,h7,ha]),trivial⟩ .slnil)
     ·have hl:=ha;try simp only[Abd,Abc] at hl
      refine Bp rfl rfl ha (A6 (Aq rfl) rfl (Bp rfl rfl ha (A6 (BE rfl rfl) rfl (A6 (A7 rfl ha rfl) rfl (A6 (Aq rfl) rfl (AO (decide ((c)=(95))) (λhd=>?_) (λhd=>?_)))))))
      ·have hm:=hd;try simp only[Abd,Abc] at hm
       refine AS rfl rfl hd rfl (AS rfl rfl hd rfl (A6 (Ax rfl hd rfl) rfl (A6 (Aq rfl) rfl (AS rfl rfl rfl rfl (AS rfl rfl rfl rfl (A6 (Ax rfl rfl rfl) rfl (A6 (Aq rfl) rfl (AS rfl rfl rfl rfl (AS rfl rfl rfl rfl (A6 (Ax rfl rfl rfl) rfl (A6 (Av rfl) rfl (Aj ?_))))))))))));exact Au (BJ trivial ⟨fb (by simp[h5,h6,h7,ha,hd]),trivial⟩ .slnil)
      ·have hm:=hd;try simp only[Abd,Abc] at hm
       refine Bp rfl rfl hd (A6 (Aq rfl) rfl (Bp rfl rfl hd (A6 (BE rfl rfl) rfl (A6 (A7 rfl hd rfl) rfl (A6 (Aq rfl) rfl (AO (decide ((c)=(46))) (λhf=>?_) (λhf=>?_)))))))
       ·have g15:=hf;try simp only[Abd,Abc] at g15
        refine AS rfl rfl hf rfl (AS rfl rfl hf rfl (A6 (Ax rfl hf rfl) rfl (A6 (Aq rfl) rfl (AS rfl rfl rfl rfl (AS rfl rfl rfl rfl (A6 (Ax rfl rfl rfl) rfl (A6 (Av rfl) rfl (Aj ?_))))))));exact Au (BJ trivial ⟨fb (by simp[h5,h6,h7,ha,hd,hf]),trivial⟩ .slnil)
       ·have g15:=hf;try simp only[Abd,Abc] at g15
        refine Bp rfl rfl hf (A6 (Aq rfl) rfl (Bp rfl rfl hf (A6 (BE rfl rfl) rfl (A6 (A7 rfl hf rfl) rfl (A6 (Aq rfl) rfl (AO (decide ((c)=(58))) (λhh=>?_) (λhh=>?_)))))))
        ·have g16:=hh;try simp only[Abd,Abc] at g16
         refine AS rfl rfl hh rfl (AS rfl rfl hh rfl (A6 (Ax rfl hh rfl) rfl (A6 (Av rfl) rfl (Aj ?_))));exact Au (BJ trivial ⟨fb (by simp[h5,h6,h7,ha,hd,hf,hh]),trivial⟩ .slnil)
        ·have g16:=hh;try simp only[Abd,Abc] at g16
         refine Bp rfl rfl hh (A6 (Aq rfl) rfl (Bp rfl rfl hh (A6 (BE rfl rfl) rfl (A6 (A7 rfl hh rfl) rfl (A6 (Av rfl) rfl (Aj ?_))))));exact Au (BJ trivial ⟨fb (by simp[h5,h6,h7,ha,hd,hf,hh]),trivial⟩ .slnil)
 refine As (Ar (BY rfl rfl) ?_);exact Hl (by simp only[D6];by_cases h:65≤c<;>simp[h,Bool.or_assoc])
theorem XW (m:Int)(w:World):Calls Tryz.prog 98 [.int .i64 (m)].toArray w (K8 w (.bool (DS m))):=by
 refine HR (n:=9) Tryz.func98 rfl Tryz.ntmps98 rfl (Ai (Ah (A6 (Av rfl) rfl (Aj (Au (AW ?_))))));refine AG [(2,.bool (((decide ((-1000000000000)≤(m)))&&(decide ((m)≤(1000000000000))))))] [] (φ:=True) ?_ (λhd=>?_)
 ·refine Ah (A6 (Aq rfl) rfl (A6 (K6 rfl rfl) rfl (A6 (Aq rfl) rfl (AO (decide ((-1000000000000)≤(m))) (λha=>?_) (λha=>?_)))))
  ·have hb:=ha;try simp only[Abd,Abc] at hb
   refine Bp rfl rfl ha (A6 (Aq rfl) rfl (Bp rfl rfl ha (A6 (K6 rfl rfl) rfl (A6 (Ax rfl ha rfl) rfl (A6 (Av rfl) rfl (Aj ?_))))));exact Au (BJ trivial ⟨fb (by first | (simp only[ha,Abp,Abw,Ab5,Abt,Abx,Ab0,Ab4,Ab2,Abq,Aby,Abj,Abh,AbN,AbF,reduceIte,Abv];done) | simp[ha]),trivial⟩ .slnil)
  ·have hb:=ha;try simp only[Abd,Abc] at hb
   refine AS rfl rfl ha rfl (AS rfl rfl ha rfl (A6 (A7 rfl ha rfl) rfl (A6 (Av rfl) rfl (Aj ?_))));exact Au (BJ trivial ⟨fb (by first | (simp only[ha,Abp,Abw,Ab5,Abt,Abx,Ab0,Ab4,Ab2,Abq,Aby,Abj,Abh,AbN,AbF,reduceIte,Abv];done) | simp[ha]),trivial⟩ .slnil)
 refine As (Ar (BY rfl rfl) ?_);exact Hl (by first | rfl | simp[])
theorem AaK (p:List UInt8)(w:World):Calls Tryz.prog 73 [.string (B p)].toArray w (K8 w (.bool (J4 p))):=by
 refine HR (n:=21) Tryz.func73 rfl Tryz.ntmps73 rfl (Ai (Ah (A6 (Av rfl) rfl (Aj (Au (AW ?_))))));refine Ai (Ai (Ah (A6 (Aq rfl) rfl (Uf BZ rfl rfl (λhd=>?_)))));refine Aj (Au (AW ?_));refine AL (Jb (S:=Nat) (λ(k:Nat)=>k≤p.length∧BD Mx 0 p=BD Mx k (p.drop k)) (λ(k:Nat)=>[(0,.string (B (p))),(2,.bool (false)),(6,.pointer (some ⟨hd,0,none⟩))]) (λ(k:Nat)=>[.blk hd (.stringIter (B p) (k))]) (λ(k:Nat)=>p.length-k) (0) ?_ ⟨rfl,rfl,rfl,trivial⟩ (.cons_cons _ (.slnil)) ?_)
 ·exact⟨AbJ _,by simp⟩
 rintro k hi0;refine Ai (Ah (VF (i:=0) rfl rfl rfl (λhend=>?_) (λhj hg hi hh hlu39 hhu39 hwu39=>?_)))
 ·refine A6 (AA rfl rfl) rfl (Aj (Au (AW ?_)));refine Ai (EB rfl rfl (BB (A2 (A2 (Bi (Au (AW ?_)))))));refine AG [(2,.bool (((decide ((1)≤((p.length:Int))))&&(decide (((p.length:Int))≤(64))))))] [.blk hd (.stringIter (B p) (k))] (φ:=True) ?_ (λhk=>?_)
  ·refine Ah (A6 (Aq rfl) rfl (A6 (Bm BZ rfl) rfl (A6 (GR rfl rfl) rfl (A6 (Aq rfl) rfl (AO (decide ((1)≤((p.length:Int)))) (λha=>?_) (λha=>?_))))))
   ·have he:=ha;try simp only[Abd,Abc] at he
    refine Bp rfl rfl ha (A6 (Aq rfl) rfl (Bp rfl rfl ha (A6 (Bm BZ rfl) rfl (Bp rfl rfl ha (A6 (K6 rfl rfl) rfl (A6 (Ax rfl ha rfl) rfl (A6 (Av rfl) rfl (Aj ?_))))))));exact Au (BJ trivial ⟨fb (by first | (simp only[ha,Abp,Abw,Ab5,Abt,Abx,Ab0,Ab4,Ab2,Abq,Aby,Abj,Abh,AbN,AbF,reduceIte,Abv];done) | simp[ha]),trivial⟩ (.cons_cons _ (.slnil)))
   ·have he:=ha;try simp only[Abd,Abc] at he
    refine AS rfl rfl ha rfl (AS rfl rfl ha rfl (AS rfl rfl ha rfl (A6 (A7 rfl ha rfl) rfl (A6 (Av rfl) rfl (Aj ?_)))));exact Au (BJ trivial ⟨fb (by first | (simp only[ha,Abp,Abw,Ab5,Abt,Abx,Ab0,Ab4,Ab2,Abq,Aby,Abj,Abh,AbN,AbF,reduceIte,Abv];done) | simp[ha]),trivial⟩ (.cons_cons _ (.slnil)))
  refine As (Ar (BY rfl rfl) ?_);exact Hl (by rw[ZF hi0 hend])
 ·refine A6 (AA rfl rfl) rfl (Aj (Au (AW ?_)));refine Ai (Ef rfl rfl (Ap (Au (AW ?_))));refine AL (Ai (Ah (A6 (AA rfl rfl) rfl (A6 (Av rfl) rfl (Aj (Au (AW ?_)))))));refine Ai (Ah (A6 (Aq rfl) rfl (CB Tryz.call104 rfl (λw hw=>WI (hg:Int) w) rfl (A6 (BW rfl) rfl (Aj (Au (AW ?_)))))));refine CL (b:=!(D6 (hg:Int))) rfl (λhb=>?_) (λhb=>?_)
  ·have hf:=hb;try simp only[Abd,Abc] at hf
   refine Ai (Ah (A6 (Av rfl) rfl (Aj (Au (AW ?_)))));refine As (A3 (Ad (A3 (Ad (Ar (BY rfl rfl) ?_)))));exact Hl (by rw[Aau hi0 hh hlu39 hhu39 hb])
  ·have hf:=hb;try simp only[Abd,Abc] at hf
   refine Ap (AF (Au (AD (k+hi) ?_ ⟨rfl,rfl,rfl,trivial⟩ (.cons_cons _ (.slnil)))));exact Y8 hi0 hh hlu39 hhu39 hb
open Go
def Hk (p:List UInt8):Bool:=decide ((0:Int)<p.length)&&decide (Be p 0=45)
def Ei (p:List UInt8):List UInt8:=if Hk p=true then p.drop 1 else p
theorem Or (p:List UInt8):(Ei p).length≤p.length:=by unfold Ei;split<;>simp
def DK (_:Nat)(u:UInt8):Bool:=!(decide ((u.toNat:Int)<48)||decide (57<(u.toNat:Int)))
def G3 (p:List UInt8):Bool:=!(decide (Ei p=[])||(decide (Be (Ei p) 0=48)&&!decide (p=[48])))&&BD DK 0 (Ei p)
theorem Dk {p:List UInt8}(h : ¬ p=[]):(0:Int)<p.length:=by
 cases p with
 | nil=>exact absurd rfl h
 | cons a r=>simp
theorem H7 {p:List UInt8}{k:Nat}(h:(k:Int)<p.length):∃u,p[k]? =some u:=⟨p[k]'(by omega),Abn (by omega)⟩
theorem RK {p:List UInt8}{k:Nat}(hi:k≤p.length∧BD DK 0 p=BD DK k (p.drop k))(h:(k:Int)<p.length)(ht:(decide (Be p k<48)||decide (57<Be p k))=false) :
  (k+1≤p.length∧BD DK 0 p=BD DK (k+1) (p.drop (k+1)))∧p.length-(k+1)<p.length-k:=by
 obtain⟨u,hu⟩:=H7 h;rw[Ld hu] at ht;exact QQ hi hu (by simp only[DK,ht];rfl)
theorem Xu {p:List UInt8}{k:Nat}(hi:k≤p.length∧BD DK 0 p=BD DK k (p.drop k))(h:(k:Int)<p.length)(ht:(decide (Be p k<48)||decide (57<Be p k))=true):BD DK 0 p=false:=by
 obtain⟨u,hu⟩:=H7 h;rw[Ld hu] at ht;exact VW hi hu (by simp only[DK,ht];rfl)
theorem TO {p:List UInt8}{k:Nat}(hi:k≤p.length∧BD DK 0 p=BD DK k (p.drop k))(h : ¬ (k:Int)<p.length):BD DK 0 p=true:=Tn hi (by omega)
def BR (p:List UInt8):Int:=if G3 p=true then(match Lib.atoiAll p with | .ok v=>if DS v=true then 0 else 2 | _=>2) else 1
def B7 (p:List UInt8):Int:=if G3 p=true then(match Lib.atoiAll p with | .ok v=>if DS v=true then v else 0 | _=>0) else 0
theorem Ot:∀(l:List UInt8) (i acc:Nat),BD DK i l=true→(∃u,Lib.parseUint10 acc l = .ok u)∨Lib.parseUint10 acc l = .range
 | [],_,acc,_=>.inl ⟨acc,rfl⟩
 | c::r,i,acc,h=>by
  simp only[BD,Abk] at h;have hc:48≤c.toNat∧c.toNat≤57:=by have:=h.1;simp[DK] at this;omega
  unfold Lib.parseUint10;rw[AbB hc]
  split
  ·exact .inr rfl
  ·split
   ·exact .inr rfl
   ·exact Ot r _ _ h.2
theorem TA {l:List UInt8}(hne:l≠[])(h:BD DK 0 l=true):(∃u,Lib.parseMag l = .ok u)∨Lib.parseMag l = .range:=by
 unfold Lib.parseMag;rw[Ab6 hne];exact Ot l 0 0 h
theorem PA {e:Lib.NumEnd Nat}(h:(∃u,e = .ok u)∨e = .range):(∃v,Lib.signless e = .ok v)∨Lib.signless e = .range:=by
 rcases h with⟨u,rfl⟩ | rfl
 ·unfold Lib.signless
  by_cases h:9223372036854775808≤u
  ·exact .inr (by simp[h])
  ·exact .inl ⟨_,by simp[h];rfl⟩
 ·exact .inr rfl
theorem Sr {e:Lib.NumEnd Nat}(h:(∃u,e = .ok u)∨e = .range):(∃v,Lib.signed e = .ok v)∨Lib.signed e = .range:=by
 rcases h with⟨u,rfl⟩ | rfl
 ·unfold Lib.signed
  by_cases h:9223372036854775808<u
  ·exact .inr (by simp[h])
  ·exact .inl ⟨_,by simp[h];rfl⟩
 ·exact .inr rfl
theorem X7 {p:List UInt8}(h:G3 p=true):(∃v,Lib.atoiAll p = .ok v∧-9223372036854775808≤v∧v≤9223372036854775807)∨Lib.atoiAll p = .range:=by
 have key:(∃v,Lib.atoiAll p = .ok v)∨Lib.atoiAll p = .range:=by
  simp only[G3,Abk,Abz,Ab1,Abc] at h;obtain⟨⟨hne,_⟩,hall⟩:=h
  cases p with
  | nil=>simp[Ei,Hk] at hne
  | cons c r=>
   by_cases hc:c=45
   ·subst hc;have hd:Ei (45::r)=r:=by simp[Ei,Hk,Be]
    rw[hd] at hne hall;rw[Lib.atoiAll_minus];exact Sr (TA hne hall)
   ·have hb : ¬ Be (c::r) 0=45:=by
     simp only[Be,Int.toNat_zero,List.getElem?_cons_zero,AbI];intro e;exact hc (UInt8.toNat_inj.1 (by simpa using(by omega:c.toNat=45)))
    have hd:Ei (c::r)=c::r:=by simp[Ei,Hk,hb]
    rw[hd] at hne hall;have ha:48≤c.toNat:=by
     simp only[BD,Abk] at hall;have:=hall.1;simp[DK] at this;omega
    rw[Lib.atoiAll_plain c r (by omega) (by omega)];exact PA (TA hne hall)
 rcases key with⟨v,hv⟩ | h
 ·exact .inl ⟨v,hv,Lib.atoiAll_bounds hv⟩
 ·exact .inr h
theorem WR (m:Int)(h0 : -9223372036854775808≤m)(h1:m≤9223372036854775807):(Lib.itoa m).length≤21:=Lib.itoa_length_le m h0 h1
theorem Vm (p:List UInt8)(hp:p.length≤281474976710656)(w:World):Calls Tryz.prog 96 [.string (B (p))].toArray w (K8 w (.bool (G3 p))):=by
 refine HR (n:=43) Tryz.func96 rfl Tryz.ntmps96 rfl (Ai (Ah (A6 (Av rfl) rfl (Aj (Au (AW ?_))))));refine Ai (Ah (A6 (Aq rfl) rfl (A6 (Av rfl) rfl (Aj (Au (AW ?_))))));refine AG [(0,.string (B (p))),(2,.bool (false)),(3,.string (B ((if ((decide ((0)<((p.length:Int))))&&(decide ((Be p 0)=(45))))=true then List.drop (Int.toNat (1)) p else p))))] [] (φ:=True) ?_ (λh1=>?_)
 ·refine AG [(0,.string (B (p))),(2,.bool (false)),(3,.string (B (p))),(13,.bool (((decide ((0)<((p.length:Int))))&&(decide ((Be p 0)=(45))))))] [] (φ:=True) ?_ (λh2=>?_)
  ·refine Ah (A6 (Aq rfl) rfl (A6 (Bm BZ rfl) rfl (A6 (Cv rfl rfl) rfl (A6 (Aq rfl) rfl (AO (decide ((0)<((p.length:Int)))) (λhd=>?_) (λhd=>?_))))))
   ·have hk:=hd;try simp only[Abd,Abc] at hk
    have hl:=hd;try simp at hl
    refine Bp rfl rfl hd (A6 (Aq rfl) rfl (Bp rfl rfl hd (A6 (Bb BZ rfl rfl (by first | omega | exact Dk (by assumption)) (by first | omega | exact Dk (by assumption))) rfl (Bp rfl rfl hd (A6 (BE rfl rfl) rfl (A6 (Ax rfl hd rfl) rfl (Aj ?_)))))));exact Au (BJ trivial ⟨rfl,rfl,rfl,fb (by first | (simp only[hd,Abp,Abw,Ab5,Abt,Abx,Ab0,Ab4,Ab2,Abq,Aby,Abj,Abh,AbN,AbF,reduceIte,Abv];done) | simp[hd]),trivial⟩ .slnil)
   ·have hk:=hd;try simp only[Abd,Abc] at hk
    have hl:=hd;try simp at hl
    refine AS rfl rfl hd rfl (AS rfl rfl hd rfl (AS rfl rfl hd rfl (A6 (A7 rfl hd rfl) rfl (Aj ?_))));exact Au (BJ trivial ⟨rfl,rfl,rfl,fb (by first | (simp only[hd,Abp,Abw,Ab5,Abt,Abx,Ab0,Ab4,Ab2,Abq,Aby,Abj,Abh,AbN,AbF,reduceIte,Abv];done) | simp[hd]),trivial⟩ .slnil)
  refine CL (b:=((decide ((0)<((p.length:Int))))&&(decide ((Be p 0)=(45))))) rfl (λhg=>?_) (λhg=>?_)
  ·have hm:=hg;try simp only[Abd,Abc] at hm
   have hn:=hg;try simp at hn
   refine Ah (A6 (Aq rfl) rfl (A6 (E5 BZ rfl rfl (by first | omega | (simp;omega)) (by first | omega | (simp;omega))) rfl (A6 (Av rfl) rfl (Aj ?_))));exact Au (BJ trivial ⟨rfl,rfl,fs (by first | (simp only[hg,Abp,Abw,Ab5,Abt,Abx,Ab0,Ab4,Ab2,Abq,Aby,Abj,Abh,AbN,AbF,reduceIte,Abv];done) | simp[hg]),trivial⟩ .slnil)
  ·have hm:=hg;try simp only[Abd,Abc] at hm
   have hn:=hg;try simp at hn
   refine Ap ?_;exact Au (BJ trivial ⟨rfl,rfl,fs (by first | (simp only[hg,Abp,Abw,Ab5,Abt,Abx,Ab0,Ab4,Ab2,Abq,Aby,Abj,Abh,AbN,AbF,reduceIte,Abv];done) | simp[hg]),trivial⟩ .slnil)
 have hdg:Ei p=(if ((decide ((0)<((p.length:Int))))&&(decide ((Be p 0)=(45))))=true then List.drop (Int.toNat (1)) p else p):=rfl;have hdl:=Or p;rw[hdg] at hdl;generalize(if ((decide ((0)<((p.length:Int))))&&(decide ((Be p 0)=(45))))=true then List.drop (Int.toNat (1)) p else p)=dg at hdg hdl ⊢;refine Ai (AG [(2,.bool (false)),(3,.string (B (dg))),(26,.bool (((decide ((dg)=(([]:List UInt8))))||((decide ((Be dg 0)=(48)))&&(!(decide ((p)=(([48]:List UInt8)))))))))] [] (φ:=True) ?_ (λh3=>?_))
 ·refine Ah (A6 (Aq rfl) rfl (A6 (DN rfl rfl) rfl (A6 (Aq rfl) rfl (AO (decide ((dg)=(([]:List UInt8)))) (λha=>?_) (λha=>?_)))))
  ·have ho:=ha;try simp only[Abd,Abc] at ho
   have hq:=ha;try simp at hq
   refine AS rfl rfl ha rfl (AS rfl rfl ha rfl (AS rfl rfl ha rfl (AS rfl rfl ha rfl (Er rfl rfl rfl (Er rfl rfl rfl (AS rfl rfl ha rfl (A6 (Ax rfl ha rfl) rfl (Aj ?_))))))));exact Au (BJ trivial ⟨rfl,rfl,fb (by first | (simp only[ha,Abp,Abw,Ab5,Abt,Abx,Ab0,Ab4,Ab2,Abq,Aby,Abj,Abh,AbN,AbF,reduceIte,Abv];done) | simp[ha]),trivial⟩ .slnil)
  ·have ho:=ha;try simp only[Abd,Abc] at ho
   have hq:=ha;try simp at hq
   refine Bp rfl rfl ha (A6 (Aq rfl) rfl (Bp rfl rfl ha (A6 (Bb BZ rfl rfl (by first | omega | exact Dk (by assumption)) (by first | omega | exact Dk (by assumption))) rfl (Bp rfl rfl ha (A6 (BE rfl rfl) rfl (Bp rfl rfl ha (A6 (Aq rfl) rfl (AO (decide ((Be dg 0)=(48))) (λhe=>?_) (λhe=>?_)))))))))
   ·have hr:=he;try simp only[Abd,Abc] at hr
    have hs:=he;try simp at hs
    refine Bp rfl rfl he (A6 (Aq rfl) rfl (Bp rfl rfl he (A6 (NR rfl rfl) rfl (Bp rfl rfl ha (A6 (Ax rfl he rfl) rfl (A6 (A7 rfl ha rfl) rfl (Aj ?_)))))));exact Au (BJ trivial ⟨rfl,rfl,fb (by first | (simp only[ha,he,Abp,Abw,Ab5,Abt,Abx,Ab0,Ab4,Ab2,Abq,Aby,Abj,Abh,AbN,AbF,reduceIte,Abv];done) | simp[ha,he]),trivial⟩ .slnil)
   ·have hr:=he;try simp only[Abd,Abc] at hr
    have hs:=he;try simp at hs
    refine AS rfl rfl he rfl (AS rfl rfl he rfl (Bp rfl rfl ha (A6 (A7 rfl he rfl) rfl (A6 (A7 rfl ha rfl) rfl (Aj ?_)))));exact Au (BJ trivial ⟨rfl,rfl,fb (by first | (simp only[ha,he,Abp,Abw,Ab5,Abt,Abx,Ab0,Ab4,Ab2,Abq,Aby,Abj,Abh,AbN,AbF,reduceIte,Abv];done) | simp[ha,he]),trivial⟩ .slnil)
 refine CL (b:=((decide ((dg)=(([]:List UInt8))))||((decide ((Be dg 0)=(48)))&&(!(decide ((p)=(([48]:List UInt8)))))))) rfl (λhf=>?_) (λhf=>?_)
 ·have ht:=hf;try simp only[Abd,Abc] at ht
  have hu:=hf;try simp at hu
  refine Ai (Ah (A6 (Av rfl) rfl (Aj (Au (AW ?_)))));refine As (Ad (Ar (BY rfl rfl) ?_));exact Hl (by simp only[G3,hdg,hf];rfl)
 ·have ht:=hf;try simp only[Abd,Abc] at ht
  have hu:=hf;try simp at hu
  refine Ap (Au (AW ?_));refine Ai (Ai (Ah (A6 (Aq rfl) rfl (A6 (Bm BZ rfl) rfl (A6 (Aq rfl) rfl (Aj (Au (AW ?_))))))));refine AL (Jb (S:=Nat) (λ(k:Nat)=>k≤dg.length∧BD DK 0 dg=BD DK k (dg.drop k)) (λ(k:Nat)=>[(29,.int .i64 ((k:Int))),(3,.string (B (dg))),(28,.int .i64 ((dg.length:Int)))]) (λ(k:Nat)=>[]) (λ(k:Nat)=>dg.length-k) (0) ?_ ⟨fi (by first | rfl | (simp;done) | omega | (simp;omega)),rfl,rfl,trivial⟩ .slnil ?_)
  ·exact⟨AbJ _,by simp⟩
  rintro k hi0;refine Ai (Ah (A6 (Ch rfl rfl) rfl (Aj (Au (AW ?_)))));refine Ai (CL (b:=decide (((k:Int))<((dg.length:Int)))) rfl (λhh=>?_) (λhh=>?_))
  ·have hj:=hh;try simp only[Abd,Abc] at hj
   have hw:=hh;try simp at hw
   refine Ap (Au (AW ?_));refine Ai (AL (Ai (Ah (A6 (Aq rfl) rfl (A6 (Av rfl) rfl (Aj (Au (AW ?_))))))));refine AG [(3,.string (B (dg))),(4,.int .i64 ((k:Int))),(28,.int .i64 ((dg.length:Int))),(29,.int .i64 ((k:Int))),(30,.bool (decide (((k:Int))<((dg.length:Int))))),(31,.int .i64 ((k:Int))),(32,.string (B (dg))),(33,.int .i64 ((k:Int))),(34,.int .u8 (Be dg (k:Int))),(35,.bool (decide ((Be dg (k:Int))<(48)))),(36,.bool (decide ((Be dg (k:Int))<(48)))),(41,.bool (((decide ((Be dg (k:Int))<(48)))||(decide ((57)<(Be dg (k:Int)))))))] [] (φ:=True) ?_ (λh4=>?_)
   ·refine Ah (A6 (Aq rfl) rfl (A6 (Aq rfl) rfl (A6 (Bb BZ rfl rfl (by first | omega | exact Dk (by assumption)) (by first | omega | exact Dk (by assumption))) rfl (A6 (Ch rfl rfl) rfl (A6 (Aq rfl) rfl (AO (decide ((Be dg (k:Int))<(48))) (λhb=>?_) (λhb=>?_)))))))
    ·have hx:=hb;try simp only[Abd,Abc] at hx
     have hy:=hb;try simp at hy
     refine AS rfl rfl hb rfl (AS rfl rfl hb rfl (AS rfl rfl hb rfl (AS rfl rfl hb rfl (A6 (Ax rfl hb rfl) rfl (Aj ?_)))));exact Au (BJ trivial ⟨rfl,rfl,rfl,rfl,rfl,rfl,rfl,rfl,rfl,rfl,rfl,fb (by first | (simp only[hf,hh,hb,Abp,Abw,Ab5,Abt,Abx,Ab0,Ab4,Ab2,Abq,Aby,Abj,Abh,AbN,AbF,reduceIte,Abv];done) | simp[hf,hh,hb]),trivial⟩ .slnil)
    ·have hx:=hb;try simp only[Abd,Abc] at hx
     have hy:=hb;try simp at hy
     refine Bp rfl rfl hb (A6 (Aq rfl) rfl (Bp rfl rfl hb (A6 (Aq rfl) rfl (Bp rfl rfl hb (A6 (Bb BZ rfl rfl (by first | omega | exact Dk (by assumption)) (by first | omega | exact Dk (by assumption))) rfl (Bp rfl rfl hb (A6 (Cv rfl rfl) rfl (A6 (A7 rfl hb rfl) rfl (Aj ?_)))))))));exact Au (BJ trivial ⟨rfl,rfl,rfl,rfl,rfl,rfl,rfl,rfl,rfl,rfl,rfl,fb (by first | (simp only[hf,hh,hb,Abp,Abw,Ab5,Abt,Abx,Ab0,Ab4,Ab2,Abq,Aby,Abj,Abh,AbN,AbF,reduceIte,Abv];done) | simp[hf,hh,hb]),trivial⟩ .slnil)
   refine CL (b:=((decide ((Be dg (k:Int))<(48)))||(decide ((57)<(Be dg (k:Int)))))) rfl (λhi=>?_) (λhi=>?_)
   ·have hz:=hi;try simp only[Abd,Abc] at hz
    have h0:=hi;try simp at h0
    refine Ai (Ah (A6 (Av rfl) rfl (Aj (Au (AW ?_)))));refine As (A3 (Ad (Ad (A3 (Ad (Ar (BY rfl rfl) ?_))))));exact Hl (by simp[G3,hdg,Xu hi0 hj hi])
   ·have hz:=hi;try simp only[Abd,Abc] at hz
    have h0:=hi;try simp at h0
    refine Ap (AF (Au (AW ?_)));refine Ah (A6 (Bh rfl rfl (IntWalk.i64_in _ (by omega))) rfl (A6 (Aq rfl) rfl (Aj (Au (AD (k+1) ?_ ⟨fi (by first | rfl | (simp;done) | omega | (simp;omega)),rfl,rfl,trivial⟩ .slnil)))));exact RK hi0 hj hi
  ·have hj:=hh;try simp only[Abd,Abc] at hj
   have hw:=hh;try simp at hw
   refine BB (A2 (A2 (Bi (Au (AW ?_)))));refine Ai (Ah (A6 (Av rfl) rfl (Aj (Au (AW ?_)))));refine As (Ar (BY rfl rfl) ?_);exact Hl (by simp only[G3,hdg,hf,TO hi0 hj];rfl)
theorem Xe (m:Int)(h0 : -9223372036854775808≤m)(h1:m≤9223372036854775807)(w:World)(hE:TZ w):Calls Tryz.prog 60 [.int .i64 (m)].toArray w (K8 w (.string (B (Lib.itoa m)))):=by
 refine HR (n:=5) Tryz.func60 rfl Tryz.ntmps60 rfl (Ai (Ah (A6 (Av rfl) rfl (Aj (Au (AW ?_))))));refine Ai (Ah (A6 (Aq rfl) rfl (CB Tryz.call93 rfl (λw hw=>WS m (by omega) (by omega) w (hE.st0 hw)) rfl (A6 (Av rfl) rfl (Aj (Au (AW ?_)))))));refine As (Ar (BY rfl rfl) ?_);exact Hl (by first | rfl | simp[])
theorem Yn (p:List UInt8)(hp:p.length≤281474976710656)(w:World)(hE:TZ w):Calls Tryz.prog 67 [.string (B (p))].toArray w (K8 w (.tuple #[.int .i64 (B7 p),.int .i64 (BR p)])):=by
 refine HR (n:=22) Tryz.func67 rfl Tryz.ntmps67 rfl (Ai (Ah (A6 (Av rfl) rfl (A6 (Av rfl) rfl (Aj (Au (AW ?_)))))));refine Ai (Ai (Ah (A6 (Aq rfl) rfl (CB Tryz.call96 rfl (λw hw=>Vm p (by first | omega | (simp;done) | (simp;omega) | (simp at *;omega)) w) rfl (A6 (BW rfl) rfl (Aj (Au (AW ?_))))))));refine CL (b:=!(G3 p)) rfl (λhb=>?_) (λhb=>?_)
 ·have hf:=hb;try simp only[Abd,Abc] at hf
  have ha:=hb;try simp only[Abd,Abc,Abk,AbC,Abz,AbW,AbG,Ab1,not_or,Int.not_lt,Int.not_le] at ha
  refine Ai (Ah (A6 (Av rfl) rfl (A6 (Av rfl) rfl (Aj (Au (AW ?_))))));refine As (Ad (Ar (CS rfl rfl rfl) ?_));exact Hl (by simp[B7,BR,ha])
 ·have hf:=hb;try simp only[Abd,Abc] at hf
  have ha:=hb;try simp only[Abd,Abc,Abk,AbC,Abz,AbW,AbG,Ab1,not_or,Int.not_lt,Int.not_le] at ha
  refine Ap (Au (AW ?_));refine Ai (Ah (A6 (Aq rfl) rfl ?_));rcases X7 (p:=p) (by assumption) with⟨av,hav,hal,hah⟩ | hav
  ·refine CB Tryz.call97 rfl (λw _=>YR p (by first | omega | (simp;done) | (simp;omega) | (simp at *;omega)) av hav w) rfl (A6 (Aq rfl) rfl (A6 (AA rfl rfl) rfl (A6 (AA rfl rfl) rfl (A6 (Av rfl) rfl (A6 (Av rfl) rfl (Aj (Au (AW ?_))))))));refine Ai (AG [(2,.int .i64 (0)),(3,.int .i64 (0)),(4,.int .i64 (av)),(20,.bool (!(DS av)))] [] (φ:=True) ?_ (λhh=>?_))
   ·exact Ah (A6 (Aq rfl) rfl (A6 (Rr Tryz.underlying136 rfl) rfl (A6 (Aq rfl) rfl (Bp rfl rfl rfl (A6 (Aq rfl) rfl (Bp rfl rfl rfl (CB Tryz.call98 rfl (λw hw=>XW av w) rfl (Bp rfl rfl rfl (A6 (BW rfl) rfl (A6 (A7 rfl rfl rfl) rfl (Aj (Au (BJ trivial ⟨rfl,rfl,rfl,rfl,trivial⟩ .slnil)))))))))))))
   refine CL (b:=!(DS av)) rfl (λhd=>?_) (λhd=>?_)
   ·have hg:=hd;try simp only[Abd,Abc] at hg
    have he:=hd;try simp only[Abd,Abc,Abk,AbC,Abz,AbW,AbG,Ab1,not_or,Int.not_lt,Int.not_le] at he
    refine Ai (Ah (A6 (Av rfl) rfl (A6 (Av rfl) rfl (Aj (Au (AW ?_))))));refine As (Ad (Ar (CS rfl rfl rfl) ?_));exact Hl (by simp[B7,BR,hav,ha,he])
   ·have hg:=hd;try simp only[Abd,Abc] at hg
    have he:=hd;try simp only[Abd,Abc,Abk,AbC,Abz,AbW,AbG,Ab1,not_or,Int.not_lt,Int.not_le] at he
    refine Ap (Au (AW ?_));refine Ai (Ah (A6 (Aq rfl) rfl (A6 (Av rfl) rfl (A6 (Av rfl) rfl (Aj (Au (AW ?_)))))));refine As (Ar (CS rfl rfl rfl) ?_);exact Hl (by simp[B7,BR,hav,ha,he])
  ·refine XV Tryz.call97 rfl (λw hw=>Tb p (by first | omega | (simp;done) | (simp;omega) | (simp at *;omega)) hav w (hE.st0 hw)) rfl ?_;rintro _ _ ⟨am,at_,ab,rfl,rfl⟩;refine A6 (Aq rfl) rfl (A6 (AA rfl rfl) rfl (A6 (AA rfl rfl) rfl (A6 (Av rfl) rfl (A6 (Av rfl) rfl (Aj (Au (AW ?_)))))));refine Ai (AG [(2,.int .i64 (0)),(3,.int .i64 (0)),(4,.int .i64 (am)),(20,.bool (true))] [] (φ:=True) ?_ (λhi=>?_))
   ·exact Ah (A6 (Aq rfl) rfl (A6 (Yu Tryz.underlying136 rfl) rfl (A6 (Aq rfl) rfl (AS rfl rfl rfl rfl (AS rfl rfl rfl rfl (AS rfl rfl rfl rfl (A6 (Ax rfl rfl rfl) rfl (Aj (Au (BJ trivial ⟨rfl,rfl,rfl,rfl,trivial⟩ .slnil))))))))))
   refine Ef rfl rfl (Ai (Ah (A6 (Av rfl) rfl (A6 (Av rfl) rfl (Aj (Au (AW ?_)))))));refine As (Ad (Ar (CS rfl rfl rfl) ?_));exact Hl (by simp[B7,BR,hav,ha])
end Go.Proofs.YtogdediiodmnbaaGreatDoor
namespace Go.Proofs
open Go.Shelf
def Tryz.lays169_ren:Go.Shelf.Ren:=⟨fun | 169=>95 | n=>n,fun | 70=>128 | 9=>9 | 0=>0 | 72=>131 | 37=>129 | 127=>165 | 3=>3 | 5=>5 | n=>n,fun | n=>n⟩
theorem Tryz.lays169:Go.Proofs.Lays.n169 Tryz.prog Tryz.lays169_ren:={
 mixed:=by kernel_rfl
 f169:=Tryz.func95.trans (congrArg some (by kernel_rfl))
 t0:=Tryz.underlying0
 a0:=Tryz.isAgg0
 z0:=Tryz.sizeOf0
 v0:=Tryz.zeroValue0
 t3:=Tryz.underlying3
 a3:=Tryz.isAgg3
 z3:=Tryz.sizeOf3
 v3:=Tryz.zeroValue3
 t9:=Tryz.underlying9
 a9:=Tryz.isAgg9
 z9:=Tryz.sizeOf9
 v9:=Tryz.zeroValue9
 t37:=Tryz.underlying129
 a37:=Tryz.isAgg129
 z37:=Tryz.sizeOf129
 v37:=Tryz.zeroValue129
 t70:=Tryz.underlying128
 a70:=Tryz.isAgg128
 z70:=Tryz.sizeOf128
 v70:=Tryz.zeroValue128
 t72:=Tryz.underlying131
 a72:=Tryz.isAgg131
 z72:=Tryz.sizeOf131
 v72:=Tryz.zeroValue131
 t127:=Tryz.underlying165
 a127:=Tryz.isAgg165
 z127:=Tryz.sizeOf165
 v127:=Tryz.zeroValue165 }
theorem Tryz.Builder_Extra_169:Builder.Extra Tryz.prog Tryz.lays169_ren:={
 sizeBuilder:=by kernel_rfl
 liesBuilder:=by kernel_rfl
 t5:=Tryz.underlying5
 a5:=Tryz.isAgg5
 z5:=Tryz.sizeOf5
 v5:=Tryz.zeroValue5
 infoByte:=by kernel_rfl
 cellsByte:=by kernel_rfl
 sizeByte:=by kernel_rfl
 neB5:=by decide }
open Go.RowKit in
theorem Tryz.Builder_String_any (B b:Nat)(l:List UInt8)(w:World)(h:Lib.IsBuilder 131 5 B b (Lib.byteCells l) w)(hBw:B≤w.heap.size) :
  Calls Tryz.prog 95 #[.pointer (some ⟨b,0,none⟩)] w λe w'=>e = .returned (.string ⟨l.toArray⟩)∧Below B w w':=Any.Builder_String_any Tryz.lays169 Tryz.Builder_Extra_169 B b l w h hBw
def Tryz.lays138_ren:Go.Shelf.Ren:=⟨fun | 138=>134 | 195=>163 | 218=>164 | 143=>165 | 219=>182 | 217=>190 | 225=>191 | 224=>192 | 267=>193 | 266=>196 | 314=>197 | n=>n,fun | 9=>9 | 3=>3 | 4=>4 | 5=>5 | 0=>0 | 46=>134 | 146=>226 | 51=>186 | n=>n,fun | 1=>2 | n=>n⟩
theorem Tryz.lays138:Go.Proofs.Lays.n138 Tryz.prog Tryz.lays138_ren:={
 mixed:=by kernel_rfl
 f138:=Tryz.func134.trans (congrArg some (by kernel_rfl))
 f143:=Tryz.func165.trans (congrArg some (by kernel_rfl))
 f195:=Tryz.func163.trans (congrArg some (by kernel_rfl))
 f217:=Tryz.func190.trans (congrArg some (by kernel_rfl))
 f218:=Tryz.func164.trans (congrArg some (by kernel_rfl))
 f219:=Tryz.func182.trans (congrArg some (by kernel_rfl))
 f224:=Tryz.func192.trans (congrArg some (by kernel_rfl))
 f225:=Tryz.func191.trans (congrArg some (by kernel_rfl))
 f266:=Tryz.func196.trans (congrArg some (by kernel_rfl))
 f267:=Tryz.func193.trans (congrArg some (by kernel_rfl))
 f314:=Tryz.func197.trans (congrArg some (by kernel_rfl))
 t0:=Tryz.underlying0
 a0:=Tryz.isAgg0
 z0:=Tryz.sizeOf0
 v0:=Tryz.zeroValue0
 t3:=Tryz.underlying3
 a3:=Tryz.isAgg3
 z3:=Tryz.sizeOf3
 v3:=Tryz.zeroValue3
 t4:=Tryz.underlying4
 a4:=Tryz.isAgg4
 z4:=Tryz.sizeOf4
 v4:=Tryz.zeroValue4
 t5:=Tryz.underlying5
 a5:=Tryz.isAgg5
 z5:=Tryz.sizeOf5
 v5:=Tryz.zeroValue5
 t9:=Tryz.underlying9
 a9:=Tryz.isAgg9
 z9:=Tryz.sizeOf9
 v9:=Tryz.zeroValue9
 t46:=Tryz.underlying134
 a46:=Tryz.isAgg134
 z46:=Tryz.sizeOf134
 v46:=Tryz.zeroValue134
 t51:=Tryz.underlying186
 a51:=Tryz.isAgg186
 z51:=Tryz.sizeOf186
 v51:=Tryz.zeroValue186
 t146:=Tryz.underlying226
 a146:=Tryz.isAgg226
 z146:=Tryz.sizeOf226
 v146:=Tryz.zeroValue226
 g1:=by kernel_rfl }
open Go.RowKit Go.Lib in
theorem Tryz.strings_Count_one (s:ByteArray)(c:UInt8)(w:World) :
  Calls Tryz.prog 134 #[.string s,.string ⟨#[c]⟩] w λe w'=>e = .returned (.int .i64 (Lib.countByte s.data.toList c))∧w'=w:=Any.strings_Count_one Tryz.lays138 s c w
end Go.Proofs
namespace Go.Proofs.YtogdediiodmnbaaGreatDoor
open Go
set_option linter.unusedVariables false
set_option linter.unusedSimpArgs false
theorem Qk {f:Nat→UInt8→Bool}:∀{l:List UInt8} {i:Nat},BD f i l=true→∀u∈l,∃j,f j u=true
 | [],_,_,u,hu=>by simp at hu
 | x::r,i,h,u,hu=>by
  simp only[BD,Abk] at h;rcases List.mem_cons.1 hu with rfl | hu
  ·exact⟨i,h.1⟩
  ·exact Qk h.2 u hu
theorem Xh {p:List UInt8}(h:Hk p=true)(h2:Be (p.drop 1) 0=48):G3 p=false:=by
 have hd:Ei p=p.drop 1:=by simp[Ei,h]
 have hp:p≠[48]:=by rintro rfl;revert h;decide
 unfold G3;rw[hd,h2];simp[hp]
theorem Xg {p dg:List UInt8}(hdg:Ei p=dg)(h:(decide ((dg.length:Int)=0)||(decide ((1:Int)<dg.length)&&decide (Be dg 0=48)))=true):G3 p=false:=by
 simp only[AbC,Abd,Abk] at h;rcases h with h | ⟨h,h2⟩
 ·have:dg=[]:=AbH (by omega);simp[G3,hdg,this]
 ·have hp:p≠[48]:=by rintro rfl;have:=Or [48];rw[hdg] at this;simp at this;omega
  simp[G3,hdg,h2,hp]
theorem Xf {p dg:List UInt8}(hdg:Ei p=dg)(h0:Hk p=true→¬ ((0:Int)<dg.length∧Be dg 0=48))(h:(decide ((dg.length:Int)=0)||(decide ((1:Int)<dg.length)&&decide (Be dg 0=48)))=false)(ha:BD DK 0 dg=true):G3 p=true:=by
 simp only[Ab1,Abc,AbG] at h;have hne:dg≠[]:=by rintro rfl;exact h.1 rfl
 have hpos:=Dk hne;simp only[G3,hdg,ha,Abx,Abz,Ab1,Abc,hne,not_false_eq_true,true_and,AbG,AbW,Abd]
 by_cases hb:Be dg 0=48
 ·right
  cases hs:Hk p
  ·have hd:dg=p:=by rw[← hdg];simp[Ei,hs]
   subst hd;have hl:dg.length=1:=by rcases h.2 with h | h<;>omega
   match dg,hl with
   | [u],_=>
    have:(u.toNat:Int)=48:=hb;rw[show u=48 from UInt8.toNat_inj.1 (by simpa using(by omega:u.toNat=48))]
  ·exact absurd ⟨hpos,hb⟩ (h0 hs)
 ·exact .inl hb
def Ez:Nat→List UInt8→Option Nat
 | n,[]=>some n
 | n,u::r=>if u.toNat=45 then Ez n r else if 1000000000000<10*n+(u.toNat-48) then none else Ez (10*n+(u.toNat-48)) r
theorem HT {p:List UInt8}(h:G3 p=true){k:Nat}(hk:(k:Int)<p.length)(ha : ¬ Be p k=45):48≤Be p k∧Be p k≤57:=by
 simp only[G3,Abk] at h;obtain⟨u,hu⟩:=H7 hk;rw[Ld hu] at ha ⊢;have key:u∈Ei p:=by
  have hm:=Abs hu;unfold Ei
  split
  ·rename_i hs
   cases p with
   | nil=>simp at hm
   | cons c r=>
    rcases List.mem_cons.1 hm with rfl | hm
    ·simp only[Hk,Abk,Abd] at hs;exact absurd hs.2 ha
    ·simpa using hm
  ·exact hm
 obtain⟨j,hj⟩:=Qk h.2 u key;simp[DK] at hj;omega
def YL (l:List UInt8):Prop:=∀u∈l,48≤u.toNat∧u.toNat≤57
theorem TQ {l:List UInt8}(h:BD DK 0 l=true):YL l:=λu hu=>by
 obtain⟨j,hj⟩:=Qk h u hu;simp[DK] at hj;omega
theorem Wi:∀(l:List UInt8) (acc:Nat),YL l→1000000000000<acc→Lib.parseUint10 acc l = .range∨∃u,Lib.parseUint10 acc l = .ok u∧1000000000000<u
 | [],acc,_,h=>.inr ⟨acc,rfl,h⟩
 | c::r,acc,hd,h=>by
  have hc:=hd c (by simp);unfold Lib.parseUint10;rw[AbB hc]
  split
  ·exact .inl rfl
  ·split
   ·exact .inl rfl
   ·exact Wi r _ (λu hu=>hd u (by simp[hu])) (by omega)
theorem Wh:∀(l:List UInt8) (acc:Nat),YL l→acc≤1000000000000→(∃u,Ez acc l=some u∧Lib.parseUint10 acc l = .ok u∧u≤1000000000000)∨(Ez acc l=none∧(Lib.parseUint10 acc l = .range∨∃u,Lib.parseUint10 acc l = .ok u∧1000000000000<u))
 | [],acc,_,h=>.inl ⟨acc,rfl,rfl,h⟩
 | c::r,acc,hd,h=>by
  have hc:=hd c (by simp);have hr:YL r:=λu hu=>hd u (by simp[hu]);have e1:Lib.parseUint10 acc (c::r)=Lib.parseUint10 (acc*10+(c.toNat-48)) r:=by
   conv=>lhs;unfold Lib.parseUint10
   rw[AbB hc,Ab6 (by omega),Ab6 (by omega)]
  have e2:Ez acc (c::r)=if 1000000000000<acc*10+(c.toNat-48) then none else Ez (acc*10+(c.toNat-48)) r:=by
   conv=>lhs;unfold Ez
   rw[Ab6 (by omega),show 10*acc+(c.toNat-48)=acc*10+(c.toNat-48) from by omega]
  rw[e1,e2]
  by_cases hb:1000000000000<acc*10+(c.toNat-48)
  ·rw[AbB hb];exact .inr ⟨rfl,Wi r _ hr hb⟩
  ·rw[Ab6 hb];exact Wh r _ hr (by omega)
theorem VU {p:List UInt8}:Ez 0 p=Ez 0 (Ei p):=by
 unfold Ei
 split
 ·rename_i hs
  cases p with
  | nil=>rfl
  | cons c r=>
   simp only[Hk,Abk,Abd] at hs;have:c.toNat=45:=by have:=hs.2;simp[Be] at this;omega
   simp[Ez,this]
 ·rfl
theorem Mn {p:List UInt8}(h:G3 p=true):(∀u,Ez 0 p=some u→BR p=0∧B7 p=if Hk p=true then -(u:Int) else u)∧(Ez 0 p=none→BR p=2∧B7 p=0):=by
 have h':=h;simp only[G3,Abk,Abz,Ab1,Abc] at h';obtain⟨⟨hne,_⟩,hall⟩:=h';have hrun:=Wh (Ei p) 0 (TQ hall) (by omega);have hmag:Lib.parseMag (Ei p)=Lib.parseUint10 0 (Ei p):=by unfold Lib.parseMag;rw[Ab6 hne]
 have hat:Lib.atoiAll p=if Hk p=true then Lib.signed (Lib.parseUint10 0 (Ei p)) else Lib.signless (Lib.parseUint10 0 (Ei p)):=by
  cases p with
  | nil=>simp[Ei,Hk] at hne
  | cons c r=>
   cases hs:Hk (c::r)
   ·have hd:Ei (c::r)=c::r:=by simp[Ei,hs]
    rw[hd] at hall hmag ⊢;have hc:=TQ hall c (by simp);rw[Lib.atoiAll_plain c r (by omega) (by omega),hmag];simp
   ·have hc:c=45:=by
     simp only[Hk,Abk,Abd] at hs;exact UInt8.toNat_inj.1 (by have:=hs.2;simp[Be] at this;simpa using(by omega:c.toNat=45))
    subst hc;have hd:Ei (45::r)=r:=by simp[Ei,hs]
    rw[hd] at hmag ⊢;rw[Lib.atoiAll_minus,hmag];simp
 rw[VU];have hbig:∀u:Nat,1000000000000<u→∀v:Int,(v=u∨v = -(u:Int))→DS v=false:=λu hu v hv=>by
  rcases hv with rfl | rfl<;>simp[DS]<;>omega
 constructor
 ·intro u hu;rcases hrun with⟨u',h1,h2,h3⟩ | ⟨h1,_⟩
  ·rw[hu] at h1;cases h1;rw[h2] at hat;simp only[BR,B7,h,AbN,hat]
   cases Hk p
   ·have hv:DS (u:Int)=true:=by simp[DS];omega
    simp only[Abv,AbF,Lib.signless];rw[Ab6 (by omega)];simp[hv]
   ·have hv:DS (-(u:Int))=true:=by simp[DS];omega
    simp only[AbN,Lib.signed];rw[Ab6 (by omega)];simp[hv]
  ·rw[hu] at h1;cases h1
 ·intro hn;rcases hrun with⟨u',h1,h2,h3⟩ | ⟨_,h1⟩
  ·rw[hn] at h1;cases h1
  ·simp only[BR,B7,h,AbN,hat];rcases h1 with h1 | ⟨u,h1,h2⟩
   ·rw[h1];cases Hk p<;>simp[Lib.signed,Lib.signless]
   ·rw[h1]
    cases Hk p
    ·simp only[Abv,AbF,Lib.signless]
     by_cases h9:9223372036854775808≤u<;>simp[h9,hbig u h2 _ (.inl rfl)]
    ·simp only[AbN,Lib.signed]
     by_cases h9:9223372036854775808<u<;>simp[h9,hbig u h2 _ (.inr rfl)]
theorem VS {p:List UInt8}{k n:Nat}(hk:(k:Int)<p.length)(hi:Ez 0 p=Ez n (p.drop k))(h:Be p k=45):Ez 0 p=Ez n (p.drop (k+1)):=by
 obtain⟨u,hu⟩:=H7 hk;rw[Ld hu] at h;rw[hi,IS hu,Ez,AbB (by omega)]
theorem Zy {p:List UInt8}{k n:Nat}(hd:G3 p=true)(hk:(k:Int)<p.length)(hi:Ez 0 p=Ez n (p.drop k))(h : ¬ Be p k=45)(hle : ¬ (1000000000000:Int)<10*(n:Int)+(Be p k-48)) :
  (10*(n:Int)+(Be p k-48))=((10*n+(Be p k-48).toNat:Nat):Int)∧Ez 0 p=Ez (10*n+(Be p k-48).toNat) (p.drop (k+1))∧10*n+(Be p k-48).toNat≤1000000000000:=by
 have hb:=HT hd hk h;obtain⟨u,hu⟩:=H7 hk;rw[Ld hu] at h hle hb ⊢;have e:((u.toNat:Int)-48).toNat=u.toNat-48:=by omega
 refine⟨by omega,?_,by omega⟩;rw[hi,IS hu,Ez,Ab6 (by omega),Ab6 (by omega),e]
theorem VR {p:List UInt8}{k n:Nat}(hd:G3 p=true)(hk:(k:Int)<p.length)(hi:Ez 0 p=Ez n (p.drop k))(h : ¬ Be p k=45)(hle:(1000000000000:Int)<10*(n:Int)+(Be p k-48)):Ez 0 p=none:=by
 have hb:=HT hd hk h;obtain⟨u,hu⟩:=H7 hk;rw[Ld hu] at h hle hb;rw[hi,IS hu,Ez,Ab6 (by omega),AbB (by omega)]
theorem VT {p:List UInt8}{k n:Nat}(hd:G3 p=true)(hk:(k:Int)<p.length)(hi:Ez 0 p=Ez n (p.drop k))(hn:n≤1000000000000)(h:Be p k=45∨¬ (1000000000000:Int)<10*(n:Int)+(Be p k-48)) :
  ∃n1:Nat,(if decide (Be p k=45)=true then(n:Int) else 10*(n:Int)+(Be p k-48))=(n1:Int)∧Ez 0 p=Ez n1 (p.drop (k+1))∧n1≤1000000000000:=by
 by_cases ha:Be p k=45
 ·exact⟨n,by simp[ha],VS hk hi ha,hn⟩
 ·have hle:=h.resolve_left ha;obtain⟨a,b,c⟩:=Zy hd hk hi ha hle;exact⟨_,by rw[Ab6 (by simpa using ha)];exact a,b,c⟩
theorem Tm {p:List UInt8}{k n:Nat}(hi:Ez 0 p=Ez n (p.drop k))(h : ¬ (k:Int)<p.length):Ez 0 p=some n:=by
 rw[hi,List.drop_of_length_le (by omega)];rfl
def Xj (n m:Int)(s:List UInt8):Prop:=(s=[]∧m=n)∨(s≠[]∧Lib.decDigits n.natAbs=(if m=0 then[] else Lib.decDigits m.natAbs)++s)
theorem Ps (m:Int):∃d1:Nat,(if decide (m.tmod 10<0)=true then -(m.tmod 10) else m.tmod 10)=(d1:Int)∧d1=m.natAbs % 10∧d1<10:=by
 refine⟨m.natAbs % 10,?_,rfl,by omega⟩
 by_cases h:0≤m
 ·have:=Int.tmod_eq_emod_of_nonneg (a:=m) (b:=10) h;rw[this,Ab6 (by simp;omega)];omega
 ·have:=Int.tmod_eq_emod_of_nonneg (a:=-m) (b:=10) (by omega);rw[Int.neg_tmod] at this
  by_cases hz:m.tmod 10=0
  ·rw[hz];simp;omega
  ·rw[AbB (by simp;omega)];omega
theorem Vi {d:Nat}(h:d<10):List.take (Int.toNat ((d:Int)+1)-Int.toNat (d:Int)) (List.drop (Int.toNat (d:Int)) [48,49,50,51,52,53,54,55,56,57])=[UInt8.ofNat (48+d)]:=by
 have key:∀d:Nat,d<10→List.take (Int.toNat ((d:Int)+1)-Int.toNat (d:Int)) (List.drop (Int.toNat (d:Int)) ([48,49,50,51,52,53,54,55,56,57]:List UInt8))=[UInt8.ofNat (48+d)]:=by decide
 exact key d h
theorem NG (m:Int):(m.tdiv 10).natAbs=m.natAbs/10:=by
 rw[Int.natAbs_tdiv];rfl
theorem Vh (m:Int)(d1:Nat)(h:d1=m.natAbs % 10):Lib.decDigits m.natAbs=(if m.tdiv 10=0 then[] else Lib.decDigits (m.tdiv 10).natAbs)++[UInt8.ofNat (48+d1)]:=by
 have hz:m.tdiv 10=0↔m.natAbs<10:=by
  rw[← Int.natAbs_eq_zero,NG];omega
 rw[NG,Lib.decDigits]
 by_cases hs:m.natAbs<10
 ·rw[dif_pos hs,AbB (hz.2 hs),h,Nat.mod_eq_of_lt hs];rfl
 ·rw[dif_neg hs,Ab6 (λe=>hs (hz.1 e)),h]
theorem YE {n m:Int}{s:List UInt8}(h0 : -9223372036854775808≤n)(h1:n≤9223372036854775807)(hi:Xj n m s):s.length≤21:=by
 rcases hi with⟨rfl,_⟩ | ⟨_,h⟩
 ·simp
 ·have hl:(Lib.decDigits n.natAbs).length≤21:=by
   have:=WR n h0 h1;unfold Lib.itoa at this
   split at this
   ·simp at this;omega
   ·rwa [show n.toNat=n.natAbs from by omega] at this
  rw[h] at hl;simp at hl;omega
theorem Xi {n m:Int}{s:List UInt8}{d1:Nat}(hi:Xj n m s)(hc:(!decide (m=0)||decide (s=[]))=true)(hd:d1=m.natAbs % 10) :
  Xj n (m.tdiv 10) (List.take (Int.toNat ((d1:Int)+1)-Int.toNat (d1:Int)) (List.drop (Int.toNat (d1:Int)) [48,49,50,51,52,53,54,55,56,57])++s)∧
  (m.tdiv 10).natAbs+(if List.take (Int.toNat ((d1:Int)+1)-Int.toNat (d1:Int)) (List.drop (Int.toNat (d1:Int)) [48,49,50,51,52,53,54,55,56,57])++s=[] then 1 else 0)<m.natAbs+(if s=[] then 1 else 0):=by
 rw[Vi (by omega)];have hs:=Vh m d1 hd;refine⟨.inr ⟨by simp,?_⟩,?_⟩
 ·rcases hi with⟨rfl,rfl⟩ | ⟨h1,h2⟩
  ·rw[hs];simp
  ·have hm:m≠0:=by simpa[h1] using hc
   rw[h2,Ab6 hm,hs];simp
 ·rw[Ab6 (by simp),NG]
  by_cases hm:m=0
  ·subst hm;have:s=[]:=by simpa using hc
   simp[this]
  ·have:0<m.natAbs:=by omega
   split<;>omega
theorem TL {n m:Int}{s:List UInt8}(hi:Xj n m s)(hc:(!decide (m=0)||decide (s=[]))=false):Lib.decDigits n.natAbs=s:=by
 simp only[Ab1,AbW,Abd,Abc] at hc;rcases hi with⟨h,_⟩ | ⟨_,h⟩
 ·exact absurd h hc.2
 ·rw[h,AbB hc.1];rfl
theorem YD {n:Int}{s:List UInt8}(h:Lib.decDigits n.natAbs=s)(hn:n<0):[45]++s=Lib.itoa n:=by
 unfold Lib.itoa;rw[AbB hn,h];rfl
theorem YC {n:Int}{s:List UInt8}(h:Lib.decDigits n.natAbs=s)(hn : ¬ n<0):s=Lib.itoa n:=by
 unfold Lib.itoa;rw[Ab6 hn,show n.toNat=n.natAbs from by omega,h]
open Go Go.RowKit
section
variable {P : Program} {n : Nat} {w0 : World} {M : List Nat} {l : Fr} {H : List Ent} {d : Option Nat} {x y : Operand} {ty t t' : TypeId} {pos : String} {af : Array Edge} {g : Option (Nat × Bool)} {k : IntKind} {p q z : Int}
theorem Wu (hx:ev l x=some (.int k p))(hy:ev l y=some (.int k q))(hq:q≠0)(hz:k.wrap (p.tdiv q)=z):B1 P n w0 M l H { dst:=d,op:=.binOp .quo t x y t',type:=ty,pos:=pos,after:=af,guard:=g } (.int k z):=λa w ha _=>by
 simp[execOp,ha.eval hx,ha.eval hy,BF,binOp,Op.intDiv,hq,hz]
theorem Wt (hx:ev l x=some (.int k p))(hy:ev l y=some (.int k q))(hq:q≠0):B1 P n w0 M l H { dst:=d,op:=.binOp .rem t x y t',type:=ty,pos:=pos,after:=af,guard:=g } (.int k (p.tmod q)):=λa w ha _=>by
 simp[execOp,ha.eval hx,ha.eval hy,BF,binOp,Op.intDiv,hq]
end
theorem Ur {m:Int}(h0 : -9223372036854775808≤m)(h1:m≤9223372036854775807) : -9223372036854775808≤m.tdiv 10∧m.tdiv 10≤9223372036854775807:=by
 have e:m.tdiv 10=if 0≤m then m/10 else -((-m)/10):=by
  split
  ·rename_i h;exact Int.tdiv_eq_ediv_of_nonneg h
  ·rename_i h
   have:=Int.tdiv_eq_ediv_of_nonneg (a:=-m) (b:=10) (by omega);rw[Int.neg_tdiv] at this;omega
 rw[e];split<;>omega
theorem Uq (m:Int) : -10<m.tmod 10∧m.tmod 10<10:=by
 by_cases h:0≤m
 ·have:=Int.tmod_eq_emod_of_nonneg (a:=m) (b:=10) h;omega
 ·have:=Int.tmod_eq_emod_of_nonneg (a:=-m) (b:=10) (by omega);rw[Int.neg_tmod] at this;omega
set_option maxRecDepth 100000
theorem ZI (p:List UInt8)(hp:p.length≤281474976710656)(w:World):Calls Tryz.prog 101 [.string (B (p))].toArray w (K8 w (.bool (G3 p))):=by
 refine HR (n:=53) Tryz.func101 rfl Tryz.ntmps101 rfl (Ai (Ah (A6 (Av rfl) rfl (Aj (Au (AW ?_))))));refine Ai (Ah (A6 (Aq rfl) rfl (A6 (Av rfl) rfl (Aj (Au (AW ?_))))));refine AG [(2,.bool (false)),(3,.string (B ((if ((decide ((0)<((p.length:Int))))&&(decide ((Be p 0)=(45))))=true then List.drop (Int.toNat (1)) p else p))))] [] (φ:=(!((decide ((0)<((p.length:Int))))&&(decide ((Be p 0)=(45))))||(!(((decide ((0)<(((List.drop (Int.toNat (1)) p).length:Int))))&&(decide ((Be (List.drop (Int.toNat (1)) p) 0)=(48)))))))=true) ?_ (λho=>?_)
 ·refine AG [(2,.bool (false)),(3,.string (B (p))),(13,.bool (((decide ((0)<((p.length:Int))))&&(decide ((Be p 0)=(45))))))] [] (φ:=True) ?_ (λh8=>?_)
  ·refine Ah (A6 (Aq rfl) rfl (A6 (Bm BZ rfl) rfl (A6 (Cv rfl rfl) rfl (A6 (Aq rfl) rfl (AO (decide ((0)<((p.length:Int)))) (λhe=>?_) (λhe=>?_))))))
   ·have hq:=he;try simp only[Abd,Abc] at hq
    have hr:=he;try simp at hr
    refine Bp rfl rfl he (A6 (Aq rfl) rfl (Bp rfl rfl he (A6 (Bb BZ rfl rfl (by first | omega | (simp;omega) | (simp at *;omega) | exact Dk (by assumption)) (by first | omega | (simp;omega) | (simp at *;omega) | exact Dk (by assumption))) rfl (Bp rfl rfl he (A6 (BE rfl rfl) rfl (A6 (Ax rfl he rfl) rfl (Aj ?_)))))));exact Au (BJ trivial ⟨rfl,rfl,fb (by first | (simp only[he,Abp,Abw,Ab5,Abt,Abx,Ab0,Ab4,Ab2,Abq,Aby,Abj,Abh,AbN,AbF,reduceIte,Abv];done) | simp[he]),trivial⟩ .slnil)
   ·have hq:=he;try simp only[Abd,Abc] at hq
    have hr:=he;try simp at hr
    refine AS rfl rfl he rfl (AS rfl rfl he rfl (AS rfl rfl he rfl (A6 (A7 rfl he rfl) rfl (Aj ?_))));exact Au (BJ trivial ⟨rfl,rfl,fb (by first | (simp only[he,Abp,Abw,Ab5,Abt,Abx,Ab0,Ab4,Ab2,Abq,Aby,Abj,Abh,AbN,AbF,reduceIte,Abv];done) | simp[he]),trivial⟩ .slnil)
  refine CL (b:=((decide ((0)<((p.length:Int))))&&(decide ((Be p 0)=(45))))) rfl (λhd=>?_) (λhd=>?_)
  ·have ht:=hd;try simp only[Abd,Abc] at ht
   have hu:=hd;try simp at hu
   refine Ai (Ah (A6 (Aq rfl) rfl (A6 (E5 BZ rfl rfl (by first | omega | (simp;omega)) (by first | omega | (simp;omega))) rfl (A6 (Av rfl) rfl (Aj (Au (AW ?_)))))));refine AG [(2,.bool (false)),(3,.string (B (List.drop (Int.toNat (1)) p))),(23,.bool (((decide ((0)<(((List.drop (Int.toNat (1)) p).length:Int))))&&(decide ((Be (List.drop (Int.toNat (1)) p) 0)=(48))))))] [] (φ:=True) ?_ (λh9=>?_)
   ·refine Ah (A6 (Aq rfl) rfl (A6 (Bm BZ rfl) rfl (A6 (Cv rfl rfl) rfl (A6 (Aq rfl) rfl (AO (decide ((0)<(((List.drop (Int.toNat (1)) p).length:Int)))) (λhf=>?_) (λhf=>?_))))))
    ·have hw:=hf;try simp only[Abd,Abc] at hw
     have hy:=hf;try simp at hy
     refine Bp rfl rfl hf (A6 (Aq rfl) rfl (Bp rfl rfl hf (A6 (Bb BZ rfl rfl (by first | omega | (simp;omega) | (simp at *;omega) | exact Dk (by assumption)) (by first | omega | (simp;omega) | (simp at *;omega) | exact Dk (by assumption))) rfl (Bp rfl rfl hf (A6 (BE rfl rfl) rfl (A6 (Ax rfl hf rfl) rfl (Aj ?_)))))));exact Au (BJ trivial ⟨rfl,rfl,fb (by first | (simp only[hd,hf,Abp,Abw,Ab5,Abt,Abx,Ab0,Ab4,Ab2,Abq,Aby,Abj,Abh,AbN,AbF,reduceIte,Abv];done) | simp[hd,hf]),trivial⟩ .slnil)
    ·have hw:=hf;try simp only[Abd,Abc] at hw
     have hy:=hf;try simp at hy
     refine AS rfl rfl hf rfl (AS rfl rfl hf rfl (AS rfl rfl hf rfl (A6 (A7 rfl hf rfl) rfl (Aj ?_))));exact Au (BJ trivial ⟨rfl,rfl,fb (by first | (simp only[hd,hf,Abp,Abw,Ab5,Abt,Abx,Ab0,Ab4,Ab2,Abq,Aby,Abj,Abh,AbN,AbF,reduceIte,Abv];done) | simp[hd,hf]),trivial⟩ .slnil)
   refine CL (b:=((decide ((0)<(((List.drop (Int.toNat (1)) p).length:Int))))&&(decide ((Be (List.drop (Int.toNat (1)) p) 0)=(48))))) rfl (λhi=>?_) (λhi=>?_)
   ·have hm:=hi;try simp only[Abd,Abc] at hm
    have hk:=hi;try simp only[Abd,Abc,Abk,AbC,Abz,AbW,AbG,Ab1,not_or,Int.not_lt,Int.not_le] at hk
    refine Ai (Ah (A6 (Av rfl) rfl (Aj (Au (AW ?_)))));refine As (Ad (Ar (BY rfl rfl) ?_));exact Hl (by rw[Xh (by simp only[Hk];exact hd) (hk).2])
   ·have hm:=hi;try simp only[Abd,Abc] at hm
    have hk:=hi;try simp only[Abd,Abc,Abk,AbC,Abz,AbW,AbG,Ab1,not_or,Int.not_lt,Int.not_le] at hk
    refine Ap ?_;exact Au (BJ (by first | (simp only[hd,hi,Abp,Abw,Ab5,Abt,Abx,Ab0,Ab4,Ab2,Abq,Aby,Abj,Abh,AbN,AbF,reduceIte,Abv];done) | simp[hd,hi]) ⟨rfl,fs (by first | (simp only[hd,hi,Abp,Abw,Ab5,Abt,Abx,Ab0,Ab4,Ab2,Abq,Aby,Abj,Abh,AbN,AbF,reduceIte,Abv];done) | simp[hd,hi]),trivial⟩ .slnil)
  ·have ht:=hd;try simp only[Abd,Abc] at ht
   have hu:=hd;try simp at hu
   refine Ap ?_;exact Au (BJ (by first | (simp only[hd,Abp,Abw,Ab5,Abt,Abx,Ab0,Ab4,Ab2,Abq,Aby,Abj,Abh,AbN,AbF,reduceIte,Abv];done) | simp[hd]) ⟨rfl,fs (by first | (simp only[hd,Abp,Abw,Ab5,Abt,Abx,Ab0,Ab4,Ab2,Abq,Aby,Abj,Abh,AbN,AbF,reduceIte,Abv];done) | simp[hd]),trivial⟩ .slnil)
 have hm:=ho;try simp only[Abd,Abc] at hm
 have hk:=ho;try simp only[Abd,Abc,Abk,AbC,Abz,AbW,AbG,Ab1,not_or,Int.not_lt,Int.not_le] at hk
 have hdg:Ei p=(if ((decide ((0)<((p.length:Int))))&&(decide ((Be p 0)=(45))))=true then List.drop (Int.toNat (1)) p else p):=rfl;have hdl:=Or p;have hform:Hk p=true→¬ ((0:Int)<(Ei p).length∧Be (Ei p) 0=48):=by intro hs;rw[show Ei p=List.drop 1 p from by simp[Ei,hs]];simp only[Hk] at hs;intro hx;simp_all;grind
 rw[hdg] at hdl hform;clear ho hm hk;generalize(if ((decide ((0)<((p.length:Int))))&&(decide ((Be p 0)=(45))))=true then List.drop (Int.toNat (1)) p else p)=dg at hdg hdl hform ⊢;refine Ai (AG [(2,.bool (false)),(3,.string (B (dg))),(36,.bool (((decide (((dg.length:Int))=(0)))||((decide ((1)<((dg.length:Int))))&&(decide ((Be dg 0)=(48)))))))] [] (φ:=True) ?_ (λhA=>?_))
 ·refine Ah (A6 (Aq rfl) rfl (A6 (Bm BZ rfl) rfl (A6 (BE rfl rfl) rfl (A6 (Aq rfl) rfl (AO (decide (((dg.length:Int))=(0))) (λha=>?_) (λha=>?_))))))
  ·have hz:=ha;try simp only[Abd,Abc] at hz
   have h0:=ha;try simp at h0
   refine AS rfl rfl ha rfl (AS rfl rfl ha rfl (AS rfl rfl ha rfl (AS rfl rfl ha rfl (Er rfl rfl rfl (Er rfl rfl rfl (Er rfl rfl rfl (AS rfl rfl ha rfl (A6 (Ax rfl ha rfl) rfl (Aj ?_)))))))));exact Au (BJ trivial ⟨rfl,rfl,fb (by first | (simp only[ha,Abp,Abw,Ab5,Abt,Abx,Ab0,Ab4,Ab2,Abq,Aby,Abj,Abh,AbN,AbF,reduceIte,Abv];done) | simp[ha]),trivial⟩ .slnil)
  ·have hz:=ha;try simp only[Abd,Abc] at hz
   have h0:=ha;try simp at h0
   refine Bp rfl rfl ha (A6 (Aq rfl) rfl (Bp rfl rfl ha (A6 (Bm BZ rfl) rfl (Bp rfl rfl ha (A6 (Cv rfl rfl) rfl (Bp rfl rfl ha (A6 (Aq rfl) rfl (AO (decide ((1)<((dg.length:Int)))) (λhg=>?_) (λhg=>?_)))))))))
   ·have h1:=hg;try simp only[Abd,Abc] at h1
    have f90:=hg;try simp at f90
    refine Bp rfl rfl hg (A6 (Aq rfl) rfl (Bp rfl rfl hg (A6 (Bb BZ rfl rfl (by first | omega | (simp;omega) | (simp at *;omega) | exact Dk (by assumption)) (by first | omega | (simp;omega) | (simp at *;omega) | exact Dk (by assumption))) rfl (Bp rfl rfl hg (A6 (BE rfl rfl) rfl (Bp rfl rfl ha (A6 (Ax rfl hg rfl) rfl (A6 (A7 rfl ha rfl) rfl (Aj ?_)))))))));exact Au (BJ trivial ⟨rfl,rfl,fb (by first | (simp only[ha,hg,Abp,Abw,Ab5,Abt,Abx,Ab0,Ab4,Ab2,Abq,Aby,Abj,Abh,AbN,AbF,reduceIte,Abv];done) | simp[ha,hg]),trivial⟩ .slnil)
   ·have h1:=hg;try simp only[Abd,Abc] at h1
    have f90:=hg;try simp at f90
    refine AS rfl rfl hg rfl (AS rfl rfl hg rfl (AS rfl rfl hg rfl (Bp rfl rfl ha (A6 (A7 rfl hg rfl) rfl (A6 (A7 rfl ha rfl) rfl (Aj ?_))))));exact Au (BJ trivial ⟨rfl,rfl,fb (by first | (simp only[ha,hg,Abp,Abw,Ab5,Abt,Abx,Ab0,Ab4,Ab2,Abq,Aby,Abj,Abh,AbN,AbF,reduceIte,Abv];done) | simp[ha,hg]),trivial⟩ .slnil)
 refine CL (b:=((decide (((dg.length:Int))=(0)))||((decide ((1)<((dg.length:Int))))&&(decide ((Be dg 0)=(48)))))) rfl (λhh=>?_) (λhh=>?_)
 ·have h2:=hh;try simp only[Abd,Abc] at h2
  have f92:=hh;try simp at f92
  refine Ai (Ah (A6 (Av rfl) rfl (Aj (Au (AW ?_)))));refine As (Ad (Ar (BY rfl rfl) ?_));exact Hl (by rw[Xg hdg hh])
 ·have h2:=hh;try simp only[Abd,Abc] at h2
  have f92:=hh;try simp at f92
  refine Ap (Au (AW ?_));refine Ai (Ai (Ah (A6 (Aq rfl) rfl (A6 (Bm BZ rfl) rfl (A6 (Aq rfl) rfl (Aj (Au (AW ?_))))))));refine AL (Jb (S:=Nat) (λ(k:Nat)=>k≤dg.length∧BD DK 0 dg=BD DK k (dg.drop k)) (λ(k:Nat)=>[(39,.int .i64 ((k:Int))),(3,.string (B (dg))),(38,.int .i64 ((dg.length:Int)))]) (λ(k:Nat)=>[]) (λ(k:Nat)=>dg.length-k) (0) ?_ ⟨fi (by first | rfl | (simp;done) | omega | (simp;omega)),rfl,rfl,trivial⟩ .slnil ?_)
  ·exact⟨AbJ _,by simp⟩
  rintro k hi0;refine Ai (Ah (A6 (Ch rfl rfl) rfl (Aj (Au (AW ?_)))));refine Ai (CL (b:=decide (((k:Int))<((dg.length:Int)))) rfl (λhj=>?_) (λhj=>?_))
  ·have hn:=hj;try simp only[Abd,Abc] at hn
   have h3:=hj;try simp at h3
   refine Ap (Au (AW ?_));refine Ai (AL (Ai (Ah (A6 (Aq rfl) rfl (A6 (Av rfl) rfl (Aj (Au (AW ?_))))))));refine AG [(3,.string (B (dg))),(4,.int .i64 ((k:Int))),(38,.int .i64 ((dg.length:Int))),(39,.int .i64 ((k:Int))),(40,.bool (decide (((k:Int))<((dg.length:Int))))),(41,.int .i64 ((k:Int))),(42,.string (B (dg))),(43,.int .i64 ((k:Int))),(44,.int .u8 (Be dg (k:Int))),(45,.bool (decide ((Be dg (k:Int))<(48)))),(46,.bool (decide ((Be dg (k:Int))<(48)))),(51,.bool (((decide ((Be dg (k:Int))<(48)))||(decide ((57)<(Be dg (k:Int)))))))] [] (φ:=True) ?_ (λhB=>?_)
   ·refine Ah (A6 (Aq rfl) rfl (A6 (Aq rfl) rfl (A6 (Bb BZ rfl rfl (by first | omega | (simp;omega) | (simp at *;omega) | exact Dk (by assumption)) (by first | omega | (simp;omega) | (simp at *;omega) | exact Dk (by assumption))) rfl (A6 (Ch rfl rfl) rfl (A6 (Aq rfl) rfl (AO (decide ((Be dg (k:Int))<(48))) (λhb=>?_) (λhb=>?_)))))))
    ·have h4:=hb;try simp only[Abd,Abc] at h4
     have h5:=hb;try simp at h5
     refine AS rfl rfl hb rfl (AS rfl rfl hb rfl (AS rfl rfl hb rfl (AS rfl rfl hb rfl (A6 (Ax rfl hb rfl) rfl (Aj ?_)))));exact Au (BJ trivial ⟨rfl,rfl,rfl,rfl,rfl,rfl,rfl,rfl,rfl,rfl,rfl,fb (by first | (simp only[hh,hj,hb,Abp,Abw,Ab5,Abt,Abx,Ab0,Ab4,Ab2,Abq,Aby,Abj,Abh,AbN,AbF,reduceIte,Abv];done) | simp[hh,hj,hb]),trivial⟩ .slnil)
    ·have h4:=hb;try simp only[Abd,Abc] at h4
     have h5:=hb;try simp at h5
     refine Bp rfl rfl hb (A6 (Aq rfl) rfl (Bp rfl rfl hb (A6 (Aq rfl) rfl (Bp rfl rfl hb (A6 (Bb BZ rfl rfl (by first | omega | (simp;omega) | (simp at *;omega) | exact Dk (by assumption)) (by first | omega | (simp;omega) | (simp at *;omega) | exact Dk (by assumption))) rfl (Bp rfl rfl hb (A6 (Cv rfl rfl) rfl (A6 (A7 rfl hb rfl) rfl (Aj ?_)))))))));exact Au (BJ trivial ⟨rfl,rfl,rfl,rfl,rfl,rfl,rfl,rfl,rfl,rfl,rfl,fb (by first | (simp only[hh,hj,hb,Abp,Abw,Ab5,Abt,Abx,Ab0,Ab4,Ab2,Abq,Aby,Abj,Abh,AbN,AbF,reduceIte,Abv];done) | simp[hh,hj,hb]),trivial⟩ .slnil)
   refine CL (b:=((decide ((Be dg (k:Int))<(48)))||(decide ((57)<(Be dg (k:Int)))))) rfl (λhl=>?_) (λhl=>?_)
   ·have h6:=hl;try simp only[Abd,Abc] at h6
    have h7:=hl;try simp at h7
    refine Ai (Ah (A6 (Av rfl) rfl (Aj (Au (AW ?_)))));refine As (A3 (Ad (Ad (A3 (Ad (Ar (BY rfl rfl) ?_))))));exact Hl (by simp[G3,hdg,Xu hi0 hn hl])
   ·have h6:=hl;try simp only[Abd,Abc] at h6
    have h7:=hl;try simp at h7
    refine Ap (AF (Au (AW ?_)));refine Ah (A6 (Bh rfl rfl (IntWalk.i64_in _ (by omega))) rfl (A6 (Aq rfl) rfl (Aj (Au (AD (k+1) ?_ ⟨fi (by first | rfl | (simp;done) | omega | (simp;omega)),rfl,rfl,trivial⟩ .slnil)))));exact RK hi0 hn hl
  ·have hn:=hj;try simp only[Abd,Abc] at hn
   have h3:=hj;try simp at h3
   refine BB (A2 (A2 (Bi (Au (AW ?_)))));refine Ai (Ah (A6 (Av rfl) rfl (Aj (Au (AW ?_)))));refine As (Ar (BY rfl rfl) ?_);exact Hl (by rw[Xf hdg hform hh (TO hi0 hn)])
theorem Ym (p:List UInt8)(hp:p.length≤281474976710656)(w:World):Calls Tryz.prog 70 [.string (B (p))].toArray w (K8 w (.tuple #[.int .i64 (B7 p),.int .i64 (BR p)])):=by
 refine HR (n:=42) Tryz.func70 rfl Tryz.ntmps70 rfl (Ai (Ah (A6 (Av rfl) rfl (A6 (Av rfl) rfl (Aj (Au (AW ?_)))))));refine AG [(0,.string (B (p))),(2,.int .i64 (0)),(3,.int .i64 (0)),(4,.bool (((decide ((0)<((p.length:Int))))&&(decide ((Be p 0)=(45))))))] [] (φ:=True) ?_ (λhy=>?_)
 ·refine Ah (A6 (Aq rfl) rfl (A6 (Bm BZ rfl) rfl (A6 (Cv rfl rfl) rfl (A6 (Aq rfl) rfl (AO (decide ((0)<((p.length:Int)))) (λha=>?_) (λha=>?_))))))
  ·have hm:=ha;try simp only[Abd,Abc] at hm
   have hn:=ha;try simp at hn
   refine Bp rfl rfl ha (A6 (Aq rfl) rfl (Bp rfl rfl ha (A6 (Bb BZ rfl rfl (by first | omega | (simp;omega) | (simp at *;omega)) (by first | omega | (simp;omega) | (simp at *;omega))) rfl (Bp rfl rfl ha (A6 (BE rfl rfl) rfl (A6 (Ax rfl ha rfl) rfl (A6 (Av rfl) rfl (Aj ?_))))))));exact Au (BJ trivial ⟨rfl,rfl,rfl,fb (by first | (simp only[ha,Abp,Abw,Ab5,Abt,Abx,Ab0,Ab4,Ab2,Abq,Aby,Abj,Abh,AbN,AbF,reduceIte,Abv];done) | simp[ha]),trivial⟩ .slnil)
  ·have hm:=ha;try simp only[Abd,Abc] at hm
   have hn:=ha;try simp at hn
   refine AS rfl rfl ha rfl (AS rfl rfl ha rfl (AS rfl rfl ha rfl (A6 (A7 rfl ha rfl) rfl (A6 (Av rfl) rfl (Aj ?_)))));exact Au (BJ trivial ⟨rfl,rfl,rfl,fb (by first | (simp only[ha,Abp,Abw,Ab5,Abt,Abx,Ab0,Ab4,Ab2,Abq,Aby,Abj,Abh,AbN,AbF,reduceIte,Abv];done) | simp[ha]),trivial⟩ .slnil)
 refine Ai (Ai (Ah (A6 (Aq rfl) rfl (CB Tryz.call101 rfl (λw hw=>ZI p (by first | omega | (simp;done) | (simp;omega) | (simp at *;omega) | (split<;>first | omega | (simp;omega))) w) rfl (A6 (BW rfl) rfl (Aj (Au (AW ?_))))))));refine CL (b:=!(G3 p)) rfl (λhb=>?_) (λhb=>?_)
 ·have ho:=hb;try simp only[Abd,Abc] at ho
  have hf:=hb;try simp only[Abd,Abc,Abk,AbC,Abz,AbW,AbG,Ab1,not_or,Int.not_lt,Int.not_le] at hf
  refine Ai (Ah (A6 (Av rfl) rfl (A6 (Av rfl) rfl (Aj (Au (AW ?_))))));refine As (Ad (Ar (CS rfl rfl rfl) ?_));exact Hl (by simp[B7,BR,hf])
 ·have ho:=hb;try simp only[Abd,Abc] at ho
  have hf:=hb;try simp only[Abd,Abc,Abk,AbC,Abz,AbW,AbG,Ab1,not_or,Int.not_lt,Int.not_le] at hf
  refine Ap (Au (AW ?_));refine Ai (Ah (A6 (Av rfl) rfl (Aj (Au (AW ?_)))));refine Ai (Ai (Ah (A6 (Aq rfl) rfl (A6 (Bm BZ rfl) rfl (A6 (Aq rfl) rfl (Aj (Au (AW ?_))))))));refine AL (Jb (S:=Nat×Nat) (λ(x:Nat×Nat)=>match x with | ⟨k,n⟩=>k≤p.length∧n≤1000000000000∧Ez 0 p=Ez n (p.drop k)) (λ(x:Nat×Nat)=>match x with | ⟨k,n⟩=>[(20,.int .i64 ((k:Int))),(5,.int .i64 ((n:Int))),(0,.string (B (p))),(4,.bool (((decide ((0)<((p.length:Int))))&&(decide ((Be p 0)=(45)))))),(19,.int .i64 ((p.length:Int)))]) (λ(x:Nat×Nat)=>match x with | ⟨k,n⟩=>[]) (λ(x:Nat×Nat)=>match x with | ⟨k,n⟩=>p.length-k) (0,0) ?_ ⟨fi (by first | rfl | (simp;done) | omega | (simp;omega)),fi (by first | rfl | (simp;done) | omega | (simp;omega)),rfl,rfl,rfl,trivial⟩ .slnil ?_)
  ·exact⟨AbJ _,AbJ _,by simp⟩
  rintro⟨k,n⟩ hi0;have hk1:=hi0.1;have hk2:=hi0.2.1;refine Ai (Ah (A6 (Ch rfl rfl) rfl (Aj (Au (AW ?_)))));refine Ai (CL (b:=decide (((k:Int))<((p.length:Int)))) rfl (λhd=>?_) (λhd=>?_))
  ·have hh:=hd;try simp only[Abd,Abc] at hh
   have hq:=hd;try simp at hq
   refine Ap (Au (AW ?_));refine AG [(0,.string (B (p))),(4,.bool (((decide ((0)<((p.length:Int))))&&(decide ((Be p 0)=(45)))))),(5,.int .i64 ((if decide ((Be p (k:Int))=(45))=true then(n:Int) else(10*(n:Int))+((Be p (k:Int))-48)))),(6,.int .i64 ((k:Int))),(19,.int .i64 ((p.length:Int))),(20,.int .i64 ((k:Int))),(21,.bool (decide (((k:Int))<((p.length:Int))))),(22,.int .i64 ((k:Int))),(23,.string (B (p))),(24,.int .i64 ((k:Int))),(25,.int .u8 (Be p (k:Int))),(26,.bool (decide ((Be p (k:Int))=(45))))] [] (φ:=((decide ((Be p (k:Int))=(45)))||(!(decide ((1000000000000)<((10*(n:Int))+((Be p (k:Int))-48))))))=true) ?_ (λhu=>?_)
   ·refine AL (Ai (Ah (A6 (Aq rfl) rfl (A6 (Av rfl) rfl (Aj (Au (AW ?_)))))));refine Ai (Ai (Ah (A6 (Aq rfl) rfl (A6 (Aq rfl) rfl (A6 (Bb BZ rfl rfl (by first | omega | (simp;omega) | (simp at *;omega)) (by first | omega | (simp;omega) | (simp at *;omega))) rfl (A6 (BE rfl rfl) rfl (Aj (Au (AW ?_)))))))));refine CL (b:=decide ((Be p (k:Int))=(45))) rfl (λhe=>?_) (λhe=>?_)
    ·have hl:=he;try simp only[Abd,Abc] at hl
     have hr:=he;try simp at hr
     refine BB (A2 (Bi ?_));exact Au (BJ (by first | (simp only[hb,hd,he,Abp,Abw,Ab5,Abt,Abx,Ab0,Ab4,Ab2,Abq,Aby,Abj,Abh,AbN,AbF,reduceIte,Abv];done) | simp[hb,hd,he]) ⟨rfl,rfl,fi (by first | (simp only[hb,hd,he,Abp,Abw,Ab5,Abt,Abx,Ab0,Ab4,Ab2,Abq,Aby,Abj,Abh,AbN,AbF,reduceIte,Abv];done) | simp[hb,hd,he]),rfl,rfl,rfl,rfl,rfl,rfl,rfl,rfl,rfl,trivial⟩ .slnil)
    ·have hl:=he;try simp only[Abd,Abc] at hl
     have hr:=he;try simp at hr
     refine Ap (Au (AW ?_));refine Ai (Ah (A6 (Aq rfl) rfl (A6 (Ro rfl rfl (IntWalk.i64_in _ (by first | omega | (have:=HT (p:=p) (k:=k) (by simp_all) (by omega) (by simp_all);omega)))) rfl (A6 (Aq rfl) rfl (A6 (Aq rfl) rfl (A6 (Bb BZ rfl rfl (by first | omega | (simp;omega) | (simp at *;omega)) (by first | omega | (simp;omega) | (simp at *;omega))) rfl (A6 (G6 rfl rfl (IntWalk.u8_in _ (by first | omega | (have:=HT (p:=p) (k:=k) (by simp_all) (by omega) (by simp_all);omega)))) rfl (A6 (DB ⟨_,Qq⟩ Qr rfl (IntWalk.i64_in _ (by first | omega | (have:=HT (p:=p) (k:=k) (by simp_all) (by omega) (by simp_all);omega)))) rfl (A6 (Bh rfl rfl (IntWalk.i64_in _ (by first | omega | (have:=HT (p:=p) (k:=k) (by simp_all) (by omega) (by simp_all);omega)))) rfl (A6 (Av rfl) rfl (Aj (Au (AW ?_)))))))))))));refine Ai (Ah (A6 (Aq rfl) rfl (A6 (Cv rfl rfl) rfl (Aj (Au (AW ?_))))));refine CL (b:=decide ((1000000000000)<((10*(n:Int))+((Be p (k:Int))-48)))) rfl (λhg=>?_) (λhg=>?_)
     ·have hi:=hg;try simp only[Abd,Abc] at hi
      have hk:=hg;try simp at hk
      refine Ai (Ah (A6 (Av rfl) rfl (A6 (Av rfl) rfl (Aj (Au (AW ?_))))));refine As (A3 (Ad (Ad (A3 (Ad (Ar (CS rfl rfl rfl) ?_))))));have hx:=(Mn hf).2 (VR hf hh hi0.2.2 hl hi);exact Hl (by rw[hx.1,hx.2])
     ·have hi:=hg;try simp only[Abd,Abc] at hi
      have hk:=hg;try simp at hk
      refine Ap (AF ?_);exact Au (BJ (by first | (simp only[hb,hd,he,hg,Abp,Abw,Ab5,Abt,Abx,Ab0,Ab4,Ab2,Abq,Aby,Abj,Abh,AbN,AbF,reduceIte,Abv];done) | simp[hb,hd,he,hg]) ⟨rfl,rfl,fi (by first | (simp only[hb,hd,he,hg,Abp,Abw,Ab5,Abt,Abx,Ab0,Ab4,Ab2,Abq,Aby,Abj,Abh,AbN,AbF,reduceIte,Abv];done) | simp[hb,hd,he,hg]),rfl,rfl,rfl,rfl,rfl,rfl,rfl,rfl,rfl,trivial⟩ .slnil)
   have hi:=hu;try simp only[Abd,Abc] at hi
   have hk:=hu;try simp only[Abd,Abc,Abk,AbC,Abz,AbW,AbG,Ab1,not_or,Int.not_lt,Int.not_le] at hk
   obtain⟨n1,hn1,hn2,hn3⟩:=VT (p:=p) (k:=k) (n:=n) hf hh hi0.2.2 hk2 (by simpa using hi);rw[hn1];refine Ah (A6 (Bh rfl rfl (IntWalk.i64_in _ (by first | omega | (have:=HT (p:=p) (k:=k) (by simp_all) (by omega) (by simp_all);omega)))) rfl (A6 (Aq rfl) rfl (Aj (Au (AD (k+1,n1) ?_ ⟨fi (by first | rfl | (simp;done) | omega | (simp;omega)),fi (by first | rfl | (simp;done) | omega | (simp;omega)),rfl,rfl,rfl,trivial⟩ .slnil)))));exact⟨⟨by omega,hn3,hn2⟩,by show p.length-(k+1)<p.length-k;omega⟩
  ·have hh:=hd;try simp only[Abd,Abc] at hh
   have hq:=hd;try simp at hq
   refine BB (A2 (A2 (Bi (Au (AW ?_)))));refine Ai (Ai (Ah (A6 (Aq rfl) rfl (Aj (Au (AW ?_))))));refine CL (b:=((decide ((0)<((p.length:Int))))&&(decide ((Be p 0)=(45))))) rfl (λhj=>?_) (λhj=>?_)
   ·have hs:=hj;try simp only[Abd,Abc] at hs
    have ht:=hj;try simp at ht
    refine Ai (Ah (A6 (Aq rfl) rfl (A6 (NT rfl (IntWalk.i64_in _ (by omega))) rfl (A6 (Av rfl) rfl (A6 (Av rfl) rfl (Aj (Au (AW ?_))))))));refine As (Ad (Ar (CS rfl rfl rfl) ?_));have hx:=(Mn hf).1 n (Tm hi0.2.2 hh);exact Hl (by rw[hx.1,hx.2];simp only[Hk];simp only[hj];simp)
   ·have hs:=hj;try simp only[Abd,Abc] at hs
    have ht:=hj;try simp at ht
    refine Ap (Au (AW ?_));refine Ai (Ah (A6 (Aq rfl) rfl (A6 (Av rfl) rfl (A6 (Av rfl) rfl (Aj (Au (AW ?_)))))));refine As (Ar (CS rfl rfl rfl) ?_);have hx:=(Mn hf).1 n (Tm hi0.2.2 hh);exact Hl (by rw[hx.1,hx.2];simp only[Hk];simp only[hj];simp)
theorem Xd (n:Int)(h0 : -9223372036854775808≤n)(h1:n≤9223372036854775807)(w:World):Calls Tryz.prog 63 [.int .i64 (n)].toArray w (K8 w (.string (B (Lib.itoa n)))):=by
 refine HR (n:=34) Tryz.func63 rfl Tryz.ntmps63 rfl (Ai (Ah (A6 (Av rfl) rfl (Aj (Au (AW ?_))))));refine Ai (Ah (A6 (Av rfl) rfl (Aj (Au (AW ?_)))));refine Ai (Ah (A6 (Av rfl) rfl (Aj (Au (AW ?_)))));refine Ai (Ai (Ah (A6 (Aq rfl) rfl (A6 (Av rfl) rfl (Aj (Au (AW ?_)))))));refine AL (Jb (S:=Int×List UInt8) (λ(x:Int×List UInt8)=>match x with | ⟨m,s⟩=>(-9223372036854775808≤m∧m≤9223372036854775807)∧Xj n m s) (λ(x:Int×List UInt8)=>match x with | ⟨m,s⟩=>[(5,.int .i64 (m)),(4,.string (B (s))),(0,.int .i64 (n)),(2,.string (B ([]))),(3,.string (B ([48,49,50,51,52,53,54,55,56,57])))]) (λ(x:Int×List UInt8)=>match x with | ⟨m,s⟩=>[]) (λ(x:Int×List UInt8)=>match x with | ⟨m,s⟩=>m.natAbs+(if s=[] then 1 else 0)) (n,[]) ?_ ⟨fi (by first | rfl | (simp;done) | omega | (simp;omega)),fs (by first | rfl | simp),rfl,rfl,rfl,trivial⟩ .slnil ?_)
 ·exact⟨⟨h0,h1⟩,.inl ⟨rfl,rfl⟩⟩
 rintro⟨m,s⟩ hi0;have hb:=hi0.1;have hsl:=YE h0 h1 hi0.2;have htd:=Ur hi0.1.1 hi0.1.2;have htm:=Uq m;refine Ai (AG [(0,.int .i64 (n)),(2,.string (B ([]))),(3,.string (B ([48,49,50,51,52,53,54,55,56,57]))),(4,.string (B (s))),(5,.int .i64 (m)),(8,.int .i64 (m)),(9,.bool (!(decide ((m)=(0))))),(10,.bool (!(decide ((m)=(0))))),(13,.bool (((!(decide ((m)=(0))))||(decide ((s)=(([]:List UInt8)))))))] [] (φ:=True) ?_ (λho=>?_))
 ·refine Ah (A6 (Aq rfl) rfl (A6 (CR rfl rfl) rfl (A6 (Aq rfl) rfl (AO (!(decide ((m)=(0)))) (λha=>?_) (λha=>?_)))))
  ·have hh:=ha;try simp only[Abd,Abc] at hh
   have hi:=ha;try simp at hi
   refine AS rfl rfl ha rfl (AS rfl rfl ha rfl (A6 (Ax rfl ha rfl) rfl (Aj ?_)));exact Au (BJ trivial ⟨rfl,rfl,rfl,rfl,rfl,rfl,rfl,rfl,fb (by first | (simp only[ha,Abp,Abw,Ab5,Abt,Abx,Ab0,Ab4,Ab2,Abq,Aby,Abj,Abh,AbN,AbF,reduceIte,Abv];done) | simp[ha]),trivial⟩ .slnil)
  ·have hh:=ha;try simp only[Abd,Abc] at hh
   have hi:=ha;try simp at hi
   refine Bp rfl rfl ha (A6 (Aq rfl) rfl (Bp rfl rfl ha (A6 (DN rfl rfl) rfl (A6 (A7 rfl ha rfl) rfl (Aj ?_)))));exact Au (BJ trivial ⟨rfl,rfl,rfl,rfl,rfl,rfl,rfl,rfl,fb (by first | (simp only[ha,Abp,Abw,Ab5,Abt,Abx,Ab0,Ab4,Ab2,Abq,Aby,Abj,Abh,AbN,AbF,reduceIte,Abv];done) | simp[ha]),trivial⟩ .slnil)
 refine CL (b:=((!(decide ((m)=(0))))||(decide ((s)=(([]:List UInt8)))))) rfl (λhd=>?_) (λhd=>?_)
 ·have hj:=hd;try simp only[Abd,Abc] at hj
  have hk:=hd;try simp at hk
  refine Ap (Au (AW ?_));refine Ai (AL (Ai (Ah (A6 (Aq rfl) rfl (A6 (Wt rfl rfl (by decide)) rfl (A6 (Av rfl) rfl (Aj (Au (AW ?_)))))))));refine AG [(0,.int .i64 (n)),(2,.string (B ([]))),(3,.string (B ([48,49,50,51,52,53,54,55,56,57]))),(4,.string (B (s))),(5,.int .i64 (m)),(6,.int .i64 ((if decide ((Int.tmod m 10)<(0))=true then -(Int.tmod m 10) else Int.tmod m 10))),(8,.int .i64 (m)),(9,.bool (!(decide ((m)=(0))))),(10,.bool (!(decide ((m)=(0))))),(13,.bool (((!(decide ((m)=(0))))||(decide ((s)=(([]:List UInt8))))))),(16,.int .i64 (m)),(17,.int .i64 (Int.tmod m 10)),(18,.int .i64 (Int.tmod m 10)),(19,.bool (decide ((Int.tmod m 10)<(0))))] [] (φ:=True) ?_ (λhp=>?_)
  ·refine Ai (Ah (A6 (Aq rfl) rfl (A6 (Ch rfl rfl) rfl (Aj (Au (AW ?_))))));refine CL (b:=decide ((Int.tmod m 10)<(0))) rfl (λhe=>?_) (λhe=>?_)
   ·have hl:=he;try simp only[Abd,Abc] at hl
    have hm:=he;try simp at hm
    refine Ah (A6 (Aq rfl) rfl (A6 (NT rfl (IntWalk.i64_in _ (by omega))) rfl (A6 (Av rfl) rfl (Aj ?_))));exact Au (BJ trivial ⟨rfl,rfl,rfl,rfl,rfl,fi (by first | (simp only[hd,he,Abp,Abw,Ab5,Abt,Abx,Ab0,Ab4,Ab2,Abq,Aby,Abj,Abh,AbN,AbF,reduceIte,Abv];done) | simp[hd,he]),rfl,rfl,rfl,rfl,rfl,rfl,rfl,rfl,trivial⟩ .slnil)
   ·have hl:=he;try simp only[Abd,Abc] at hl
    have hm:=he;try simp at hm
    refine Ap ?_;exact Au (BJ trivial ⟨rfl,rfl,rfl,rfl,rfl,fi (by first | (simp only[hd,he,Abp,Abw,Ab5,Abt,Abx,Ab0,Ab4,Ab2,Abq,Aby,Abj,Abh,AbN,AbF,reduceIte,Abv];done) | simp[hd,he]),rfl,rfl,rfl,rfl,rfl,rfl,rfl,rfl,trivial⟩ .slnil)
  obtain⟨d1,hd1,hd2,hd3⟩:=Ps m;rw[hd1];refine Ah (A6 (Aq rfl) rfl (A6 (Aq rfl) rfl (A6 (Aq rfl) rfl (A6 (Bh rfl rfl (IntWalk.i64_in _ (by first | omega | (have:=Ps m;obtain⟨d1,hd1,hd2,hd3⟩:=this;split at hd1<;>omega)))) rfl (A6 (DX BZ rfl rfl rfl (by first | omega | (simp;omega)) (by first | omega | (simp;omega)) (by first | omega | (simp;omega))) rfl (A6 (Aq rfl) rfl (A6 (Dx rfl rfl (by simp;omega)) rfl (A6 (Av rfl) rfl (Aj (AF (Au (AW ?_))))))))))));refine Ah (A6 (Aq rfl) rfl (A6 (Wu rfl rfl (by decide) (IntWalk.i64_in _ (by omega))) rfl (A6 (Av rfl) rfl (Aj (Au (AD (Int.tdiv m 10,(List.take (Int.toNat ((d1:Int)+1)-Int.toNat ((d1:Int))) (List.drop (Int.toNat ((d1:Int))) [48,49,50,51,52,53,54,55,56,57]))++s) ?_ ⟨fi (by first | rfl | (simp;done) | omega | (simp;omega)),fs (by first | rfl | simp),rfl,rfl,rfl,trivial⟩ .slnil))))));have hx:=Xi hi0.2 hd hd2;exact⟨⟨htd,hx.1⟩,hx.2⟩
 ·have hj:=hd;try simp only[Abd,Abc] at hj
  have hk:=hd;try simp at hk
  refine BB (A2 (A2 (Bi (Au (AW ?_)))));refine Ai (Ai (Ah (A6 (Aq rfl) rfl (A6 (Ch rfl rfl) rfl (Aj (Au (AW ?_)))))));refine CL (b:=decide ((n)<(0))) rfl (λhf=>?_) (λhf=>?_)
  ·have hg:=hf;try simp only[Abd,Abc] at hg
   have hn:=hf;try simp at hn
   refine Ai (Ah (A6 (Aq rfl) rfl (A6 (Dx rfl rfl (by simp;omega)) rfl (A6 (Av rfl) rfl (Aj (Au (AW ?_)))))));refine As (Ad (Ar (BY rfl rfl) ?_));exact Hl (by rw[YD (TL hi0.2 hd) hg])
  ·have hg:=hf;try simp only[Abd,Abc] at hg
   have hn:=hf;try simp at hn
   refine Ap (Au (AW ?_));refine Ai (Ah (A6 (Aq rfl) rfl (A6 (Av rfl) rfl (Aj (Au (AW ?_))))));refine As (Ar (BY rfl rfl) ?_);exact Hl (by rw[← YC (TL hi0.2 hd) hg])
end Go.Proofs.YtogdediiodmnbaaGreatDoor
namespace Go.Proofs
open Go.Shelf
end Go.Proofs
namespace Go.Proofs.YtogdediiodmnbaaGreatDoor.Q
open Go Go.RowKit
set_option linter.unusedVariables false
def GE (Z:Fz):Prop:=∀w,TY Z w→TZ w
theorem GE.mono {Z Z':Fz}(h:Fz.le Z Z')(hg:GE Z):GE Z':=λw hw=>hg w ⟨λb o e=>hw b o (h b o e),λk i b e=>hw.nm k i b (h.nm k i b e)⟩
theorem MA.rle {P:Program}{E:Fz→Prop}{f:FuncId}{args:List Rp}{r r':Rp}(h:MA P E f args r)(hr:DZ r r'):MA P E f args r':=λw Z vs hv hs=>
 (h w Z vs hv hs).mono λe w' ⟨q,v,H,Z',he,⟨hq,hH⟩,hp,ht⟩=>⟨r',v,H,Z',he,⟨rfl,hH⟩,hr Z' v (hq▸hp),ht⟩
theorem DZ.tup2 {a b:Value}:DZ (rv (.tuple #[a,b])) (Cs [rv a,rv b]):=λZ v h=>⟨[a,b],h,rfl,rfl,trivial⟩
theorem MA.of_id {P:Program}{E:Fz→Prop}{f:FuncId}{vs:List Value}{v:Value}(h:∀w,Calls P f vs.toArray w (λe w'=>e = .returned v∧w'=w)):MA P E f (vs.map rv) (rv v):=
 MA.of_old λw Z _ _=>(h w).mono λe w' ⟨he,hw⟩=>⟨he,by rw[hw];exact Proofs.YtogdediiodmnbaaGreatDoor.St.refl w []⟩
theorem On (m:Int)(g:B2 .i64 m=true):MA Tryz.prog GE 60 [rI .i64 m] (rS (Lib.itoa m)):=MA.of_old (vs:=[.int .i64 m]) λw Z hf he=>Xe m (GK g).1 (GK g).2 w (he w hf)
theorem ZD (m:Int)(g:B2 .i64 m=true):MA Tryz.prog GE 93 [rI .i64 m] (rS (Lib.itoa m)):=MA.of_old (vs:=[.int .i64 m]) λw Z hf he=>WS m (GK g).1 (GK g).2 w (he w hf)
theorem T0 (s:Ae)(g:Dz 1 s.length=true):MA Tryz.prog GE 67 [rS s] (Cs [rI .i64 (B7 s),rI .i64 (BR s)]):=(MA.of_old (vs:=[.string (B s)]) λw Z hf he=>Yn s (by simp[Dz] at g;omega) w (he w hf)).rle DZ.tup2
theorem TR (s:Ae)(c:UInt8):MA Tryz.prog GE 134 [rS s,rS [c]] (rI .i64 (Lib.countByte s c)):=MA.of_id (vs:=[.string (B s),.string (B [c])]) λw=>by have:=Tryz.strings_Count_one (B s) c w;rwa [Te] at this
theorem Aat (s:Ae):MA Tryz.prog GE 73 [rS s] (rB (J4 s)):=MA.of_old (vs:=[.string (B s)]) λw Z hf he=>AaK s w
theorem Vg (m:Int)(g:B2 .i64 m=true):MA Tryz.prog GE 63 [rI .i64 m] (rS (Lib.itoa m)):=MA.of_old (vs:=[.int .i64 m]) λw Z hf he=>Xd m (GK g).1 (GK g).2 w
theorem Wl (s:Ae)(g:Dz 1 s.length=true):MA Tryz.prog GE 70 [rS s] (Cs [rI .i64 (B7 s),rI .i64 (BR s)]):=(MA.of_old (vs:=[.string (B s)]) λw Z hf he=>Ym s (by simp[Dz] at g;omega) w).rle DZ.tup2
open Go Go.RowKit Go.ChangeShapes Go.Deep
set_option linter.unusedSimpArgs false
def ZW (W:World):Fz:=⟨λb=>W.heap[b]?,λ_ _=>none⟩
theorem ZW.frz (W:World):TY (ZW W) W:=⟨λ_ _ h=>h,λ_ _ _ h=>by cases h⟩
def LZ (P:Program)(e:TypeId){α:Type}(enc:α→List Rp)(ok:α→Bool):Prop:=
 ∀{H:Type} {encH:TypeId×Value→H} {W:World} {sp:Nat→Bool} {held:Bool} {n:Nat} {cs:List Value} {x:DataW H×List MemPlace},DataW.trod encH P W 0 sp held n e cs=some x→∃y:α,ok y=true∧Bt (ZW W) (enc y) cs
section
variable {P : Program} {e t : TypeId}
theorem LZ.int {k:IntKind}{enc:Int→List Rp}(ht:P.underlying e=some (.int k))(he:∀n,enc n=[rI k n]):LZ P e enc (B2 k):=λh=>by
 obtain⟨n,rfl,_,hwf⟩:=DataW.trod_int ht h;exact⟨n,hwf,by rw[he];exact⟨rfl,trivial⟩⟩
theorem LZ.str {enc:Ae→List Rp}(ht:P.underlying e=some .string)(he:∀n,enc n=[rS n]):LZ P e enc XE:=λh=>by
 obtain⟨s,rfl,_,hl⟩:=DataW.trod_string ht h;exact⟨s.data.toList,Abm (by rw[Array.length_toList];exact hl),by rw[he];exact⟨congrArg Value.string (AaQ s),trivial⟩⟩
theorem LZ.bool {enc:Bool→List Rp}(ht:P.underlying e=some .bool)(he:∀n,enc n=[rB n]):LZ P e enc (λ_=>true):=λh=>by
 obtain⟨b,rfl,_⟩:=DataW.trod_bool ht h;exact⟨b,rfl,by rw[he];exact⟨rfl,trivial⟩⟩
theorem Py {W:World}{a:Addr}{v:Value}(h:W.cell? a=some v):a.spot=none∧Jr (ZW W) a.block a.off=some v:=by
 unfold World.cell? at h;unfold Jr ZW;dsimp only
 cases hh:W.heap[a.block]? with
 | none=>rw[hh] at h;cases h
 | some o=>
  rw[hh] at h
  cases o with
  | cells cs t fz=>
   cases hs:a.spot with
   | none=>simp[hs] at h;exact⟨rfl,h⟩
   | some _=>simp[hs] at h
  | _=>simp at h
theorem LZ.slice {α:Type}[Inhabited α]{enc:α→List Rp}{ok:α→Bool}{sz:Nat}(ht:P.underlying t=some (.slice e))(hc:P.cellsOf e=sz)(hsz:0<sz)(h:LZ P e enc ok)(hlen:∀y,(enc y).length=sz){enc':List α→List Rp}(he:∀ys,enc' ys=[AX sz (ys.map enc)]) :
  LZ P t enc' (λys=>ys.all ok&&decide (ys.length≤9223372036854775807)):=fun {H encH W sp held n cs x} hx=>by
 rcases open_slice ht hx with⟨rfl,_⟩ | ⟨a,len,cap,m,n',D,Pl,rfl,hb,hl,hm,hmm,_,hel⟩
 ·exact⟨[],by simp,by rw[he];exact⟨TW.nil sz _,trivial⟩⟩
 ·have hlm:len≤m:=by rw[hmm];split<;>omega
  have each:∀i,i<len→∃y:α,ok y=true∧∃cs',W.cells? 0 (a.add (i*sz)) sz=some cs'∧Bt (ZW W) (enc y) cs':=λi hi=>by
   obtain⟨cs',h1,h2⟩:=hel i (by omega);obtain⟨y,hy,hr⟩:=h h2;rw[hc] at h1;exact⟨y,hy,cs',h1,hr⟩
  obtain⟨f,hf⟩:=choose_lt each;refine⟨(List.range len).map f,?_,?_⟩
  ·simp only[Abk,AbO,List.mem_map,List.mem_range,Abd];refine⟨?_,by simp;simp only[maxLen] at hm;omega⟩;rintro _ ⟨i,hi,rfl⟩;exact(hf i hi).1
  ·rw[he];refine⟨⟨some a,cap,by simp,by simpa using hl,hm,(λh=>by cases h),λi c hi=>?_⟩,trivial⟩;rw[Acb,AbM] at hi;have hil:i<len:=by
    cases hq:(List.range len)[i]? with
    | none=>rw[hq] at hi;cases hi
    | some _=>have:=(List.getElem?_eq_some_iff.1 hq).1;simpa using this
   rw[List.getElem?_range hil] at hi;simp only[Option.map_some,Option.some.injEq,Function.comp] at hi;subst hi;obtain⟨_,cs',h1,hr⟩:=hf i hil;obtain⟨_,hcl,hcell⟩:=World.cells?_some h1;have hsp:a.spot=none:=by
    obtain⟨_,cs0,g1,_⟩:=hf 0 (by omega);obtain⟨_,gcl,gcell⟩:=World.cells?_some g1;have h0:=gcell 0 hsz;rw[Abn (by omega)] at h0;have:=(Py h0).1;simpa[Addr.add] using this
   refine⟨hlen _,a,rfl,hsp,λj r hj=>?_⟩;obtain⟨u,hu,hp⟩:=hr.at hj;have hjs:j<sz:=by have:=(List.getElem?_eq_some_iff.1 hj).1;rw[hlen] at this;exact this
   have h3:=hcell j hjs;rw[hu] at h3;have h4:=(Py h3).2;refine⟨u,?_,hp⟩;have e1:((a.add (i*sz)).add j).block=a.block:=by simp only[Addr.add];split<;>split<;>rfl
   have e2:((a.add (i*sz)).add j).off=a.off+(i*sz+j):=by simp only[Addr.add];split<;>split<;>simp_all<;>omega
   rw[e1,e2] at h4;exact h4
theorem Tl {Z:Fz}{cs:List Value}{o:Nat}(h:cs.length=o):Bt Z [] (cs.drop o):=by rw[List.drop_of_length_le (by omega)];trivial
theorem GO {Z:Fz}{cs:List Value}{o s o':Nat}{rs rs':List Rp}(h:Bt Z rs ((cs.drop o).take s))(ho:o+s=o')(h2:Bt Z rs' (cs.drop o')):Bt Z (rs++rs') (cs.drop o):=by
 rw[← Aca s (cs.drop o),List.drop_drop];subst ho;exact h.append h2
theorem LZ.val {α:Type}{enc:α→List Rp}{ok:α→Bool}(h:LZ P e enc ok){r:α→Rp}(he:∀y,enc y=[r y]){H:Type}{encH:TypeId×Value→H}{W:World}{sp:Nat→Bool}{held:Bool}{v:Value}{d:DataW H}{ps:List MemPlace}
  (hone:v.cells = #[v]) (ht:DataW.Trod encH P W 0 sp held e v d ps):∃y:α,ok y=true∧(r y).p (ZW W) v:=by
 obtain⟨fuel,hf⟩:=ht;rw[hone] at hf;obtain⟨y,hy,hr⟩:=h hf;rw[he] at hr;exact⟨y,hy,hr.1⟩
theorem LZ.valAgg {α:Type}{enc:α→List Rp}{ok:α→Bool}(h:LZ P e enc ok){H:Type}{encH:TypeId×Value→H}{W:World}{sp:Nat→Bool}{held:Bool}{cs:Array Value}{d:DataW H}{ps:List MemPlace}
  (ht:DataW.Trod encH P W 0 sp held e (.agg cs) d ps):∃y:α,ok y=true∧(Bq (enc y)).p (ZW W) (.agg cs):=by
 obtain⟨fuel,hf⟩:=ht;obtain⟨y,hy,hr⟩:=h hf;exact⟨y,hy,cs.toList,by simp,hr⟩
end
theorem Xc {W w:World}(hw:TY (ZW W) w):W.heap.size≤w.heap.size:=by
 rcases Nat.eq_zero_or_pos W.heap.size with h | h
 ·omega
 ·have h1:W.heap[W.heap.size-1]? =some (W.heap[W.heap.size-1]'(by omega)):=Array.getElem?_eq_getElem (by omega);have:=(Array.getElem?_eq_some_iff.1 (hw _ _ h1)).1;omega
theorem Vf {W:World}(hE:TZ W):GE (ZW W):=λw hw=>by
 have hb:Below W.heap.size W { w with os:=W.os,tape:=W.tape,output:=W.output }:=⟨rfl,rfl,rfl,(show W.heap.size≤w.heap.size from Xc hw),λk hk=>by
  have h1:W.heap[k]? =some (W.heap[k]'hk):=Array.getElem?_eq_getElem hk;rw[h1];exact hw k _ h1⟩
 have hE2:=hE.st0 (St.of_below hb);exact⟨Qn.block { w with os:=W.os,tape:=W.tape,output:=W.output } w (λ_ _=>rfl) hE2.tabs,hE2.size⟩
theorem VN {W:World}(hE:TZ W):St ⟨W,ZW W,[],GE,[]⟩ [] (ZW W) W where
 os:=rfl
 tape:=rfl
 output:=rfl
 size:=AbA _
 old:=λ_ _ _=>rfl
 has:=λ_ h=>by cases h
 own:=λ_ h=>by cases h
 dis:=.nil
 frz:=ZW.frz W
 le:=Fz.le.refl _
 new:=λ_ _ h=>.inl h
 zdis:=λ_ h=>by cases h
 env:=Vf hE
 emono:=λh hg=>GE.mono h hg
 gst:=LY.none rfl
theorem VO {W W':World}{Z Z':Fz}{E:Fz→Prop}{H:List Ent}(h:St ⟨W,Z,[],E,[]⟩ H Z' W'):Below W.heap.size W W':=⟨h.os,h.tape,h.output,h.size,λk hk=>h.old k hk (by simp)⟩
open Go
def M6 (l:(List Int)):Option ((List Int)):=
 some l
def JR (l:(List Int))(c:Int):Option (Unit×(List Int)):=
 B0 (M6 l) λr1=>AY (Dz 1 (r1.length+([c]:List Int).length))<|some ((),r1++([c]:List Int))
def I2 (l:(List Int))(s:Ae):Option (Int×Unit×(List Int)):=
 B0 (M6 l) λr1=>AY (Dz 1 (r1.length+s.length))<|some ((s.length:Int),(),r1++D9 s)
def O0 (l:Ae):Option (Ae):=
 AY (decide (0<(D9 l).length))<|some l
def M5 (l:(List Int)):Option ((List Int)):=
 some l
def JQ (l:(List Int))(c:Int):Option (Unit×(List Int)):=
 B0 (M5 l) λr1=>AY (Dz 1 (r1.length+([c]:List Int).length))<|some ((),r1++([c]:List Int))
def I1 (l:(List Int))(s:Ae):Option (Int×Unit×(List Int)):=
 B0 (M5 l) λr1=>AY (Dz 1 (r1.length+s.length))<|some ((s.length:Int),(),r1++D9 s)
def Oz (l:Ae):Option (Ae):=
 AY (decide (0<(D9 l).length))<|some l
set_option maxRecDepth 100000
set_option maxHeartbeats 4000000
theorem LN:∃inf,Tryz.prog.info? 5=some inf∧inf.zero=some (.int .u8 0)∧inf.size=1∧inf.bytes=1:=by
  have key:(Tryz.prog.info? 5).map (λi=>(i.zero,i.size,i.bytes))=some (some (.int .u8 0),1,1):=by kernel_rfl
  obtain⟨inf,h1,h2⟩:=Option.map_eq_some_iff.1 key;simp only[Prod.mk.injEq] at h2;exact⟨inf,h1,h2.1,h2.2.1,h2.2.2⟩
theorem RA:∃j,Tryz.prog.info? 131=some j∧j.size≠0:=by
  have key:(Tryz.prog.info? 131).map (λi=>i.size)=some 2:=by kernel_rfl
  obtain⟨j,h1,h2⟩:=Option.map_eq_some_iff.1 key;exact⟨j,h1,by rw[h2];decide⟩
theorem RB:∃j,Tryz.prog.info? 131=some j:=RA.imp λ_ h=>h.1
theorem RQ (ha:Nat)(hb:Value)(l:(List Int))(r:(List Int))(h:M6 l=some r):Fn Tryz.prog GE 155 [rP ha 0] [.blk ha [rv (.pointer none),rv hb] 131,.row hb 5 1 (A1 B9 l)] (λR H=>∃w0:Value,R=rv (.tuple #[])∧H=[.blk ha [rP ha 0,rv w0] 131,.row w0 5 1 (A1 B9 r)]):=by
 refine enter (n:=20) Tryz.func155 Aa Tryz.ntmps155 Aa (λw Z=>?_);unfold M6 at h;refine Af (wm Aa (wv (A4 Aa) (vF Hb Aa Q4 (vL 0 Gd Aa (wv (r:=rB true) (Wv ⟨_,Q1⟩ Aa) (Ao (Ef Aa Aa (Ah (wm Aa (wm Aa (wv (r:=rP ha 0) (Rm (i:=0) Q1 Tryz.underlying208 RA Aa Aa Aa) (A6 (r:=rP ha 0) (Ys Tryz.func177 (by kernel_rfl) (by kernel_rfl) (by kernel_rfl) (by kernel_rfl) Aa) Aa (wv (r:=rP ha 0) (OJ (i:=0) Tryz.underlying208 Q1 RB Aa Aa (by kernel_rfl)) (wv (A4 Aa) (vF Hb Aa Q4 (BC (i:=0) Q4 Aa Aa (Cl Aa) Aa Aa (cs':=[rP ha 0,rv hb]) Aa (H':=[.blk ha [rP ha 0,rv hb] 131,.row hb 5 1 (A1 B9 l)]) Aa (Aj ?_)))))))))))))))));obtain rfl:=At h;exact HB (Uv Tryz.results155) (sC (sC sN)) ⟨hb,Aa,Aa⟩
theorem OO (ha:Nat)(hb:Value)(l:(List Int))(c:Int)(r:Unit×(List Int))(h:JR l c=some r):Fn Tryz.prog GE 119 [rP ha 0,rI .u8 c] [.blk ha [rv (.pointer none),rv hb] 131,.row hb 5 1 (A1 B9 l)] (λR H=>∃w0:Value,R=rv (.nilIface)∧H=[.blk ha [rP ha 0,rv w0] 131,.row w0 5 1 (A1 B9 r.2)]):=by
 refine enter (n:=17) Tryz.func119 Aa Tryz.ntmps119 Aa (λw Z=>?_);unfold JR at h;refine Af (wa Aa (Bs (wm Aa (ob h λr1 e3 h2=>GX (Hr:=[]) Tryz.call155 (RQ ha hb l r1 e3) Aa (Abg _) Aa ?_))));rintro _ _ ⟨v4,rfl,rfl⟩;refine Bs (wm Aa (wm Aa (wv (A4 Aa) (vF Hb Aa Hc (vL 0 MD Aa (wm Aa (AQ (ys:=([c]:List Int)) (enc:=B9) (css:=[[rI .u8 c]]) (xs:=[.tmp 12]) EK Zt Zs Aa Aa Aa ⟨Eo.one Aa (Up.refl _),trivial⟩ Aa D1 Aa Aa Aa (λb5=>?_))))))));refine ck h2 λg7 h8=>Exists.elim LN λinf hinf=>BL (xs:=r1) (ys:=([c]:List Int)) (enc:=B9) (i:=2) EK hinf.1 hinf.2.1 hinf.2.2.1 hinf.2.2.2 Aa Aa Aa Aa Aa (I5.w (i:=0) Aa Aa) D1 IR g7 Aa (λv6=>?_);refine wv (A4 Aa) (vF Hb Aa Hc (BC (i:=2) Hc Aa Aa (Dj (i:=0) Aa) Aa Aa (cs':=[rP ha 0,rv v6]) Aa (H':=[.row v6 5 1 (A1 B9 (r1++([c]:List Int))),.row (.slice (some ⟨b5,0,none⟩) 1 1) 5 1 (A1 B9 ([c]:List Int)),.blk ha [rP ha 0,rv v6] 131]) Aa (Bs (wa Aa (Ao (As (BO (H2:=[.blk ha [rP ha 0,rv v6] 131,.row v6 5 1 (A1 B9 (r1++([c]:List Int))),.row (.slice (some ⟨b5,0,none⟩) 1 1) 5 1 (A1 B9 ([c]:List Int))]) ((Al (i:=2) Aa).trans (Abe _ (Abg _))) ?_)))))));obtain rfl:=At h8;exact Ar (BY Tryz.results119 (AB Aa)) (sC (sC (sS sN))) ⟨v6,Aa,Aa⟩
theorem Nj (ha:Nat)(hb:Value)(l:(List Int))(s:Ae)(r:Int×Unit×(List Int))(h:I2 l s=some r):Fn Tryz.prog GE 117 [rP ha 0,rS s] [.blk ha [rv (.pointer none),rv hb] 131,.row hb 5 1 (A1 B9 l)] (λR H=>∃w0:Value,R=Cs [Ak r.1,rv (.nilIface)]∧H=[.blk ha [rP ha 0,rv w0] 131,.row w0 5 1 (A1 B9 r.2.2)]):=by
 refine enter (n:=19) Tryz.func117 Aa Tryz.ntmps117 Aa (λw Z=>?_);unfold I2 at h;refine Af (wa Aa (wa Aa (Bs (wm Aa (ob h λr1 e3 h2=>GX (Hr:=[]) Tryz.call155 (RQ ha hb l r1 e3) Aa (Abg _) Aa ?_)))));rintro _ _ ⟨v4,rfl,rfl⟩;refine Bs (wm Aa (wm Aa (wv (A4 Aa) (vF Hb Aa Hc (vL 0 MD Aa (wm Aa (ck h2 λg6 h7=>Exists.elim LN λinf hinf=>Hi (xs:=r1) (i:=1) EK BZ hinf.1 hinf.2.1 hinf.2.2.1 hinf.2.2.2 Aa Aa Aa g6 Aa (λv5=>?_))))))));refine wv (A4 Aa) (vF Hb Aa Hc (BC (i:=1) Hc Aa Aa (Dj (i:=0) Aa) Aa Aa (cs':=[rP ha 0,rv v5]) Aa (H':=[.row v5 5 1 (A1 B9 (r1++D9 s)),.blk ha [rP ha 0,rv v5] 131]) Aa (Bs (wm Aa (wv (Bm BZ Aa) (wa Aa (wa Aa (Ao (As (BO (H2:=[.blk ha [rP ha 0,rv v5] 131,.row v5 5 1 (A1 B9 (r1++D9 s))]) ((Al (i:=1) Aa).trans (Abe _ (Abg _))) ?_))))))))));obtain rfl:=At h7;exact Ar (CS Tryz.results117 (AB Aa) (AB Aa)) (sC (sC sN)) ⟨v5,Aa,Aa⟩
theorem Ta (ha:Nat)(hb:Value)(l:Ae)(r:Ae)(h:O0 l=some r):Fn Tryz.prog GE 95 [rP ha 0] [.blk ha [rv (.pointer none),rv hb] 131,.row hb 5 1 (A1 B9 (D9 l))] (λR H=>R=rS r∧H=[]):=by
 refine enter (n:=14) Tryz.func95 Aa Tryz.ntmps95 Aa (λw Z=>?_);unfold O0 at h;refine Af (wv (r:=rS ([]:Ae)) (Av Aa) (Ao (Ai (ck h λg1 h2=>It (H1:=[.blk ha [rv (.pointer none),rv hb] 131]) [0] [⟨[],rP ha 0,0⟩,⟨[0],rP ha 0,0⟩,⟨[1],rP ha 1,0⟩,⟨[2],rv hb,1⟩,⟨[3],rv (ZZ hb),1⟩,⟨[],rP ha 0,0⟩,⟨[5],rP ha 0,0⟩,⟨[6],rP ha 1,0⟩,⟨[7],rv hb,1⟩,⟨[8],Ak ((D9 l).length:Int),1⟩,⟨[4,9],rS l,2⟩,⟨[10],rS l,0⟩] (rle [(11,_),(2,[.blk ha [rv (.pointer none),rv hb] 131])]) [2] ?_ ?_))))
 ·refine oq (Aq Aa) (oq (A4 Aa) (oq (AC Hb Aa Hc Aa Aa) (of (Bj (i:=0) MD Aa Aa Aa) (of (MQ (i:=1) Aa Aa (Nt g1)) (oq (Aq Aa) (oq (A4 Aa) (oq (AC Hb Aa Hc Aa Aa) (of (Bj (i:=0) MD Aa Aa Aa) (of (D4 (ys:=D9 l) (enc:=B9) (i:=1) EK Aa Aa) (L8 Aa (Aah (JS (i:=1) Tryz.underlying165 (by kernel_rfl) Aa Aa Aa (Nt g1) Aa)) ?_))))))))));refine oq (Av Aa) ?_;exact CE
 refine AJ (As ?_);obtain rfl:=At h2;exact Ar (BY Tryz.results95 (AB Aa)) (sS sN) ⟨Aa,Aa⟩
theorem RP (ha:Nat)(hb:Value)(l:(List Int))(r:(List Int))(h:M5 l=some r):Fn Tryz.prog GE 155 [rP ha 0] [.blk ha [rP ha 0,rv hb] 131,.row hb 5 1 (A1 B9 l)] (λR H=>∃w0:Value,R=rv (.tuple #[])∧H=[.blk ha [rP ha 0,rv w0] 131,.row w0 5 1 (A1 B9 r)]):=by
 refine enter (n:=20) Tryz.func155 Aa Tryz.ntmps155 Aa (λw Z=>?_);unfold M5 at h;refine Af (wm Aa (wv (A4 Aa) (vF Hb Aa Q4 (vL 0 Gd Aa (wv (r:=rB false) (Z4 ⟨_,Q1⟩ Aa) (Ao (EB Aa Aa (Af (wm Aa (wv (A4 Aa) (vF Hb Aa Q4 (vL 0 Gd Aa (wm Aa (wv (r:=rB false) (SB Q1 RB Aa Aa) (Ao (EB Aa Aa (Ap ?_)))))))))))))))));obtain rfl:=At h;exact HB (Uv Tryz.results155) (sC (sC sN)) ⟨hb,Aa,Aa⟩
theorem ON (ha:Nat)(hb:Value)(l:(List Int))(c:Int)(r:Unit×(List Int))(h:JQ l c=some r):Fn Tryz.prog GE 119 [rP ha 0,rI .u8 c] [.blk ha [rP ha 0,rv hb] 131,.row hb 5 1 (A1 B9 l)] (λR H=>∃w0:Value,R=rv (.nilIface)∧H=[.blk ha [rP ha 0,rv w0] 131,.row w0 5 1 (A1 B9 r.2)]):=by
 refine enter (n:=17) Tryz.func119 Aa Tryz.ntmps119 Aa (λw Z=>?_);unfold JQ at h;refine Af (wa Aa (Bs (wm Aa (ob h λr1 e3 h2=>GX (Hr:=[]) Tryz.call155 (RP ha hb l r1 e3) Aa (Abg _) Aa ?_))));rintro _ _ ⟨v4,rfl,rfl⟩;refine Bs (wm Aa (wm Aa (wv (A4 Aa) (vF Hb Aa Hc (vL 0 MD Aa (wm Aa (AQ (ys:=([c]:List Int)) (enc:=B9) (css:=[[rI .u8 c]]) (xs:=[.tmp 12]) EK Zt Zs Aa Aa Aa ⟨Eo.one Aa (Up.refl _),trivial⟩ Aa D1 Aa Aa Aa (λb5=>?_))))))));refine ck h2 λg7 h8=>Exists.elim LN λinf hinf=>BL (xs:=r1) (ys:=([c]:List Int)) (enc:=B9) (i:=2) EK hinf.1 hinf.2.1 hinf.2.2.1 hinf.2.2.2 Aa Aa Aa Aa Aa (I5.w (i:=0) Aa Aa) D1 IR g7 Aa (λv6=>?_);refine wv (A4 Aa) (vF Hb Aa Hc (BC (i:=2) Hc Aa Aa (Dj (i:=0) Aa) Aa Aa (cs':=[rP ha 0,rv v6]) Aa (H':=[.row v6 5 1 (A1 B9 (r1++([c]:List Int))),.row (.slice (some ⟨b5,0,none⟩) 1 1) 5 1 (A1 B9 ([c]:List Int)),.blk ha [rP ha 0,rv v6] 131]) Aa (Bs (wa Aa (Ao (As (BO (H2:=[.blk ha [rP ha 0,rv v6] 131,.row v6 5 1 (A1 B9 (r1++([c]:List Int))),.row (.slice (some ⟨b5,0,none⟩) 1 1) 5 1 (A1 B9 ([c]:List Int))]) ((Al (i:=2) Aa).trans (Abe _ (Abg _))) ?_)))))));obtain rfl:=At h8;exact Ar (BY Tryz.results119 (AB Aa)) (sC (sC (sS sN))) ⟨v6,Aa,Aa⟩
theorem Ni (ha:Nat)(hb:Value)(l:(List Int))(s:Ae)(r:Int×Unit×(List Int))(h:I1 l s=some r):Fn Tryz.prog GE 117 [rP ha 0,rS s] [.blk ha [rP ha 0,rv hb] 131,.row hb 5 1 (A1 B9 l)] (λR H=>∃w0:Value,R=Cs [Ak r.1,rv (.nilIface)]∧H=[.blk ha [rP ha 0,rv w0] 131,.row w0 5 1 (A1 B9 r.2.2)]):=by
 refine enter (n:=19) Tryz.func117 Aa Tryz.ntmps117 Aa (λw Z=>?_);unfold I1 at h;refine Af (wa Aa (wa Aa (Bs (wm Aa (ob h λr1 e3 h2=>GX (Hr:=[]) Tryz.call155 (RP ha hb l r1 e3) Aa (Abg _) Aa ?_)))));rintro _ _ ⟨v4,rfl,rfl⟩;refine Bs (wm Aa (wm Aa (wv (A4 Aa) (vF Hb Aa Hc (vL 0 MD Aa (wm Aa (ck h2 λg6 h7=>Exists.elim LN λinf hinf=>Hi (xs:=r1) (i:=1) EK BZ hinf.1 hinf.2.1 hinf.2.2.1 hinf.2.2.2 Aa Aa Aa g6 Aa (λv5=>?_))))))));refine wv (A4 Aa) (vF Hb Aa Hc (BC (i:=1) Hc Aa Aa (Dj (i:=0) Aa) Aa Aa (cs':=[rP ha 0,rv v5]) Aa (H':=[.row v5 5 1 (A1 B9 (r1++D9 s)),.blk ha [rP ha 0,rv v5] 131]) Aa (Bs (wm Aa (wv (Bm BZ Aa) (wa Aa (wa Aa (Ao (As (BO (H2:=[.blk ha [rP ha 0,rv v5] 131,.row v5 5 1 (A1 B9 (r1++D9 s))]) ((Al (i:=1) Aa).trans (Abe _ (Abg _))) ?_))))))))));obtain rfl:=At h7;exact Ar (CS Tryz.results117 (AB Aa) (AB Aa)) (sC (sC sN)) ⟨v5,Aa,Aa⟩
theorem SZ (ha:Nat)(hb:Value)(l:Ae)(r:Ae)(h:Oz l=some r):Fn Tryz.prog GE 95 [rP ha 0] [.blk ha [rP ha 0,rv hb] 131,.row hb 5 1 (A1 B9 (D9 l))] (λR H=>R=rS r∧H=[]):=by
 refine enter (n:=14) Tryz.func95 Aa Tryz.ntmps95 Aa (λw Z=>?_);unfold Oz at h;refine Af (wv (r:=rS ([]:Ae)) (Av Aa) (Ao (Ai (ck h λg1 h2=>It (H1:=[.blk ha [rP ha 0,rv hb] 131]) [0] [⟨[],rP ha 0,0⟩,⟨[0],rP ha 0,0⟩,⟨[1],rP ha 1,0⟩,⟨[2],rv hb,1⟩,⟨[3],rv (ZZ hb),1⟩,⟨[],rP ha 0,0⟩,⟨[5],rP ha 0,0⟩,⟨[6],rP ha 1,0⟩,⟨[7],rv hb,1⟩,⟨[8],Ak ((D9 l).length:Int),1⟩,⟨[4,9],rS l,2⟩,⟨[10],rS l,0⟩] (rle [(11,_),(2,[.blk ha [rP ha 0,rv hb] 131])]) [2] ?_ ?_))))
 ·refine oq (Aq Aa) (oq (A4 Aa) (oq (AC Hb Aa Hc Aa Aa) (of (Bj (i:=0) MD Aa Aa Aa) (of (MQ (i:=1) Aa Aa (Nt g1)) (oq (Aq Aa) (oq (A4 Aa) (oq (AC Hb Aa Hc Aa Aa) (of (Bj (i:=0) MD Aa Aa Aa) (of (D4 (ys:=D9 l) (enc:=B9) (i:=1) EK Aa Aa) (L8 Aa (Aah (JS (i:=1) Tryz.underlying165 (by kernel_rfl) Aa Aa Aa (Nt g1) Aa)) ?_))))))))));refine oq (Av Aa) ?_;exact CE
 refine AJ (As ?_);obtain rfl:=At h2;exact Ar (BY Tryz.results95 (AB Aa)) (sS sN) ⟨Aa,Aa⟩
theorem CH (b:Nat)(v:Value)(l:Ae)(c:Int)(g1:Dz 1 (l.length+1)=true)(g2:B2 .u8 c=true):Fn Tryz.prog GE 119 [rP b 0,rI .u8 c] [.bld 131 5 b v l] (λR H=>∃w0:Value,R=rv .nilIface∧H=[.bld 131 5 b w0 (l++[UInt8.ofNat c.toNat])]):=by
  have hc:D9 (l++[UInt8.ofNat c.toNat])=D9 l++[c]:=by
    have:=(by simpa[B2,IntKind.min,IntKind.max,IntKind.signed,IntKind.bits] using g2:0≤c∧c≤255)
    simp only[D9,Acc,AbV,List.map_nil]
    congr 2
    simp;omega
  refine Fn.bld (res:=rv .nilIface) λp hp=>?_;rw[hc];rcases hp with rfl | rfl
  · refine(OO b v (D9 l) c (((),D9 l++[c])) ?_).sub (HW.refl _) (λr H h=>by obtain⟨w0,h1,h2⟩:=h;exact⟨w0,h1,h2⟩)
    simp only[JR,M6,B0,Ej];simp[AY,g1]
  · refine(ON b v (D9 l) c (((),D9 l++[c])) ?_).sub (HW.refl _) (λr H h=>by obtain⟨w0,h1,h2⟩:=h;exact⟨w0,h1,h2⟩)
    simp only[JQ,M5,B0,Ej];simp[AY,g1]
theorem Is (b:Nat)(v:Value)(l s:Ae)(g1:Dz 1 (l.length+s.length)=true):Fn Tryz.prog GE 117 [rP b 0,rS s] [.bld 131 5 b v l] (λR H=>∃w0:Value,R=Cs [Ak (s.length:Int),rv .nilIface]∧H=[.bld 131 5 b w0 (l++s)]):=by
  have hc:D9 (l++s)=D9 l++D9 s:=by simp[D9]
  refine Fn.bld (res:=Cs [Ak (s.length:Int),rv .nilIface]) λp hp=>?_;rw[hc];rcases hp with rfl | rfl
  · refine(Nj b v (D9 l) s (((s.length:Int),(),D9 l++D9 s)) ?_).sub (HW.refl _) (λr H h=>by obtain⟨w0,h1,h2⟩:=h;exact⟨w0,h1,h2⟩)
    simp only[I2,M6,B0,Ej];simp[AY,g1]
  · refine(Ni b v (D9 l) s (((s.length:Int),(),D9 l++D9 s)) ?_).sub (HW.refl _) (λr H h=>by obtain⟨w0,h1,h2⟩:=h;exact⟨w0,h1,h2⟩)
    simp only[I1,M5,B0,Ej];simp[AY,g1]
theorem Vr (b:Nat)(v:Value)(l:Ae)(g1:decide (0<l.length)=true):Fn Tryz.prog GE 95 [rP b 0] [.bld 131 5 b v l] (λR H=>R=rS l∧H=[]):=by
  refine Fn.bldS (res:=rS l) λp hp=>?_;rcases hp with rfl | rfl
  · exact Ta b v l l (by simp only[O0,Ej];simp[AY,g1])
  · exact SZ b v l l (by simp only[Oz,Ej];simp[AY,g1])
end Go.Proofs.YtogdediiodmnbaaGreatDoor.Q
namespace Go.Proofs.YtogdediiodmnbaaGreatDoor
open Go
set_option linter.unusedVariables false
structure Ab where
 fKind:Int
 fInt:Int
 fStr:Ae
 fN:Int
 deriving DecidableEq,Inhabited
def Kd (s:Ae)(ha:Int):Option (Stp (Int) (Out (Bool) (Unit))):=
 Bl (decide (ha<(s.length:Int))) (AY (Cp ha (s.length:Int))<|Bl (((decide ((Be s ha)<32))||(decide (126<(Be s ha))))) (some (.out (.ret false))) (AY (B2 .i64 (ha+1))<|some (.next (ha+1)))) (some (.out (.go ())))
def Kc :Option (Bool):=
 some true
def JD (F:Nat)(s:Ae):Option (Bool):=
 B0 (Ca (λσ=>Kd s σ) F 0) (BT λν=>Kc )
def BV (ok:Bool)(i:Int):Option (Int):=
 Bl (ok) (AY (B2 .i64 (i+1))<|some (i+1)) (some (-1))
def OI (F:Nat)(c:Ab):Option (Bool):=
 AY (imp (decide (c.fKind=4)) (imp (decide (c.fInt=0)) (imp (decide (c.fN=0)) ((JD F c.fStr).isSome))))<|some ((decide (c.fKind=4))&&((decide (c.fInt=0))&&((decide (c.fN=0))&&(ov (JD F c.fStr)))))
def PH (F:Nat)(ha:(List Ab)→Int→Int→Option (Int))(hb:(List Ab)→Int→Int→Option (Int))(v:(List Ab))(i:Int):Option (Int):=
 Bl (((decide (i<0))||(decide ((v.length:Int)≤i)))) (some (-1)) (AY (Cp i (v.length:Int))<|Bl (decide (((Am v i).fKind)=1)) (AY (imp (decide (((Am v i).fInt)=0)) (imp (decide (((Am v i).fStr)=([]:Ae))) ((BV (decide (((Am v i).fN)=0)) i).isSome)))<|AY (imp (decide (((Am v i).fInt)=0)) (imp (!(decide (((Am v i).fStr)=([]:Ae)))) ((BV false i).isSome)))<|AY (imp (!(decide (((Am v i).fInt)=0))) ((BV false i).isSome))<|some (bif decide (((Am v i).fInt)=0) then(bif decide (((Am v i).fStr)=([]:Ae)) then(ov (BV (decide (((Am v i).fN)=0)) i)) else(ov (BV false i))) else(ov (BV false i)))) (Bl (decide (((Am v i).fKind)=2)) (AY (imp (decide (((Am v i).fInt)=0)) (imp (decide (((Am v i).fStr)=([]:Ae))) ((BV (decide (((Am v i).fN)=0)) i).isSome)))<|AY (imp (decide (((Am v i).fInt)=0)) (imp (!(decide (((Am v i).fStr)=([]:Ae)))) ((BV false i).isSome)))<|AY (imp (!(decide (((Am v i).fInt)=0))) (imp (decide (((Am v i).fInt)=1)) (imp (decide (((Am v i).fStr)=([]:Ae))) ((BV (decide (((Am v i).fN)=0)) i).isSome))))<|AY (imp (!(decide (((Am v i).fInt)=0))) (imp (decide (((Am v i).fInt)=1)) (imp (!(decide (((Am v i).fStr)=([]:Ae)))) ((BV false i).isSome))))<|AY (imp (!(decide (((Am v i).fInt)=0))) (imp (!(decide (((Am v i).fInt)=1))) ((BV false i).isSome)))<|some (bif decide (((Am v i).fInt)=0) then(bif decide (((Am v i).fStr)=([]:Ae)) then(ov (BV (decide (((Am v i).fN)=0)) i)) else(ov (BV false i))) else(bif decide (((Am v i).fInt)=1) then(bif decide (((Am v i).fStr)=([]:Ae)) then(ov (BV (decide (((Am v i).fN)=0)) i)) else(ov (BV false i))) else(ov (BV false i))))) (Bl (decide (((Am v i).fKind)=3)) (AY (imp (decide (((Am v i).fStr)=([]:Ae))) ((BV (decide (((Am v i).fN)=0)) i).isSome))<|AY (imp (!(decide (((Am v i).fStr)=([]:Ae)))) ((BV false i).isSome))<|some (bif decide (((Am v i).fStr)=([]:Ae)) then(ov (BV (decide (((Am v i).fN)=0)) i)) else(ov (BV false i)))) (Bl (decide (((Am v i).fKind)=4)) (B0 (OI F (Am v i)) λhd=>B0 (BV hd i) λhe=>some he) (Bl (((decide (((Am v i).fKind)=5))&&((decide (((Am v i).fInt)=0))&&((decide (((Am v i).fStr)=([]:Ae)))&&(decide (0≤((Am v i).fN))))))) (AY (B2 .i64 (i+1))<|B0 (ha v (i+1) ((Am v i).fN)) λhf=>some hf) (Bl (((decide (((Am v i).fKind)=6))&&((decide (((Am v i).fInt)=0))&&((decide (((Am v i).fStr)=([]:Ae)))&&(decide (0≤((Am v i).fN))))))) (AY (B2 .i64 (i+1))<|B0 (hb v (i+1) ((Am v i).fN)) λhg=>some hg) (some (-1))))))))
def Dg (v:(List Ab))(n:Int)(he:(List Ab)→Int→Option (Int))(hb:Int)(ha:Int):Option (Stp (Int×Int) (Out (Int) (Int))):=
 Bl (decide (ha<n)) (B0 (he v hb) λhd=>Bl (decide (hd<0)) (some (.out (.ret (-1)))) (AY (B2 .i64 (ha+1))<|some (.next (hd,ha+1)))) (some (.out (.go hb)))
def ED (ha:Int):Option (Int):=
 some ha
def Jg (F:Nat)(ha:(List Ab)→Int→Option (Int))(v:(List Ab))(i:Int)(n:Int):Option (Int):=
 B0 (Ca (λσ=>Dg v n ha σ.1 σ.2) F (i,0)) (BT λν=>ED ν)
def DG (F:Nat)(v:(List Ab))(n:Int)(hf:(List Ab)→Int→Option (Int))(ha:Int)(hd:Ae)(hb:Int):Option (Stp (Int×Ae×Int) (Out (Int) (Int))):=
 Bl (decide (hb<n)) (AY (imp (!(decide ((v.length:Int)≤ha))) (Cp ha (v.length:Int)))<|AY (imp (!(decide ((v.length:Int)≤ha))) ((OI F (Am v ha)).isSome))<|Bl (((decide ((v.length:Int)≤ha))||((!(ov (OI F (Am v ha))))||((decide (0<hb))&&(CW ((Am v ha).fStr) hd||decide (((Am v ha).fStr)=hd)))))) (some (.out (.ret (-1)))) (AY (Cp ha (v.length:Int))<|AY (B2 .i64 (ha+1))<|B0 (hf v (ha+1)) λhe=>Bl (decide (he<0)) (some (.out (.ret (-1)))) (AY (B2 .i64 (hb+1))<|some (.next (he,(Am v ha).fStr,hb+1))))) (some (.out (.go ha)))
def Hz (ha:Int):Option (Int):=
 some ha
def No (F:Nat)(ha:(List Ab)→Int→Option (Int))(v:(List Ab))(i:Int)(n:Int):Option (Int):=
 B0 (Ca (λσ=>DG F v n ha σ.1 σ.2.1 σ.2.2) F (i,([]:Ae),0)) (BT λν=>Hz ν)
mutual
def DM:Nat→(List Ab)→Int→Option (Int)
 | 0,_,_=>none
 | nn+1,v,i=>PH nn (H0 nn) (Mj nn) v i
def H0:Nat→(List Ab)→Int→Int→Option (Int)
 | 0,_,_,_=>none
 | nn+1,v,i,n=>Jg nn (DM nn) v i n
def Mj:Nat→(List Ab)→Int→Int→Option (Int)
 | 0,_,_,_=>none
 | nn+1,v,i,n=>No nn (DM nn) v i n
end
def Lz (F:Nat)(v:(List Ab)):Option (Bool):=
 AY (imp (decide (0<(v.length:Int))) ((DM F v 0).isSome))<|some ((decide (0<(v.length:Int)))&&(decide ((ov (DM F v 0))=(v.length:Int))))
def CY (F:Nat)(v:(List Ab))(i:Int)(he:(List Ab)→Int→Option (Int))(hd:Int)(hb:Int)(ha:Int):Option (Stp (Int×Int×Int) (Out (Int) (Int))):=
 Bl (decide (ha<((Am v i).fN))) (Bl (decide (((Am v i).fKind)=6)) (AY (B2 .i64 (hb+1))<|B0 (he v (hb+1)) λhf=>Bl (decide (hd<hf)) (B0 (DM F v (hb+1)) λhh=>AY (B2 .i64 (ha+1))<|some (.next (hf,hh,ha+1))) (B0 (DM F v (hb+1)) λhi=>AY (B2 .i64 (ha+1))<|some (.next (hd,hi,ha+1)))) (B0 (he v hb) λhg=>Bl (decide (hd<hg)) (B0 (DM F v hb) λhj=>AY (B2 .i64 (ha+1))<|some (.next (hg,hj,ha+1))) (B0 (DM F v hb) λhk=>AY (B2 .i64 (ha+1))<|some (.next (hd,hk,ha+1))))) (some (.out (.go hd)))
def E1 (ha:Int):Option (Int):=
 AY (B2 .i64 (ha+1))<|some (ha+1)
def IH (F:Nat)(ha:(List Ab)→Int→Option (Int))(v:(List Ab))(i:Int):Option (Int):=
 AY (Cp i (v.length:Int))<|Bl (((!decide (((Am v i).fKind)=5))&&(!decide (((Am v i).fKind)=6)))) (some 1) (AY (B2 .i64 (i+1))<|B0 (Ca (λσ=>CY F v i ha σ.1 σ.2.1 σ.2.2) F (0,i+1,0)) (BT λν=>E1 ν))
def Dr:Nat→(List Ab)→Int→Option (Int)
 | 0,_,_=>none
 | nn+1,v,i=>IH nn (Dr nn) v i
def Dq (s:Ae)(hb:Ae)(ha:Int):Option (Stp (Ae×Int) (Out (Ae) (Ae))):=
 Bl (decide (ha<(s.length:Int))) (AY (Cp ha (s.length:Int))<|Bl (((decide ((Be s ha)=34))||(decide ((Be s ha)=92)))) (AY (B2 .i64 ((hb.length:Int)+(([92]:Ae).length:Int)))<|AY (B2 .i64 (ha+1))<|AY (HX ha (ha+1))<|AY (HX (ha+1) (s.length:Int))<|AY (B2 .i64 (((hb++([92]:Ae)).length:Int)+((List.take (Int.toNat (ha+1)-Int.toNat ha) (List.drop (Int.toNat ha) s)).length:Int)))<|some (.next ((hb++([92]:Ae))++(List.take (Int.toNat (ha+1)-Int.toNat ha) (List.drop (Int.toNat ha) s)),ha+1))) (AY (B2 .i64 (ha+1))<|AY (HX ha (ha+1))<|AY (HX (ha+1) (s.length:Int))<|AY (B2 .i64 ((hb.length:Int)+((List.take (Int.toNat (ha+1)-Int.toNat ha) (List.drop (Int.toNat ha) s)).length:Int)))<|some (.next (hb++(List.take (Int.toNat (ha+1)-Int.toNat ha) (List.drop (Int.toNat ha) s)),ha+1)))) (some (.out (.go hb)))
def DV (ha:Ae):Option (Ae):=
 AY (B2 .i64 ((ha.length:Int)+(([34]:Ae).length:Int)))<|some (ha++([34]:Ae))
def Jf (F:Nat)(s:Ae):Option (Ae):=
 B0 (Ca (λσ=>Dq s σ.1 σ.2) F (([34]:Ae),0)) (BT λν=>DV ν)
def E0 (F:Nat)(v:(List Ab))(i:Int)(he:(List Ab)→Int→Option (Ae))(ha:Ae)(hb:Int)(hd:Int):Option (Stp (Ae×Int×Int) (Out (Ae) (Ae))):=
 Bl (decide (hd<((Am v i).fN))) (Bl (decide (0<hd)) (AY (B2 .i64 ((ha.length:Int)+(([44]:Ae).length:Int)))<|Bl (decide (((Am v i).fKind)=6)) (AY (Cp hb (v.length:Int))<|B0 (Jf F ((Am v hb).fStr)) λhf=>AY (B2 .i64 (((ha++([44]:Ae)).length:Int)+(hf.length:Int)))<|AY (B2 .i64 ((((ha++([44]:Ae))++hf).length:Int)+(([58]:Ae).length:Int)))<|AY (B2 .i64 (hb+1))<|B0 (he v (hb+1)) λhh=>AY (B2 .i64 (((((ha++([44]:Ae))++hf)++([58]:Ae)).length:Int)+(hh.length:Int)))<|B0 (DM F v (hb+1)) λhl=>AY (B2 .i64 (hd+1))<|some (.next ((((ha++([44]:Ae))++hf)++([58]:Ae))++hh,hl,hd+1))) (B0 (he v hb) λhi=>AY (B2 .i64 (((ha++([44]:Ae)).length:Int)+(hi.length:Int)))<|B0 (DM F v hb) λhm=>AY (B2 .i64 (hd+1))<|some (.next ((ha++([44]:Ae))++hi,hm,hd+1)))) (Bl (decide (((Am v i).fKind)=6)) (AY (Cp hb (v.length:Int))<|B0 (Jf F ((Am v hb).fStr)) λhg=>AY (B2 .i64 ((ha.length:Int)+(hg.length:Int)))<|AY (B2 .i64 (((ha++hg).length:Int)+(([58]:Ae).length:Int)))<|AY (B2 .i64 (hb+1))<|B0 (he v (hb+1)) λhj=>AY (B2 .i64 ((((ha++hg)++([58]:Ae)).length:Int)+(hj.length:Int)))<|B0 (DM F v (hb+1)) λhn=>AY (B2 .i64 (hd+1))<|some (.next (((ha++hg)++([58]:Ae))++hj,hn,hd+1))) (B0 (he v hb) λhk=>AY (B2 .i64 ((ha.length:Int)+(hk.length:Int)))<|B0 (DM F v hb) λho=>AY (B2 .i64 (hd+1))<|some (.next (ha++hk,ho,hd+1))))) (some (.out (.go ha)))
def HI (v:(List Ab))(i:Int)(ha:Ae):Option (Ae):=
 Bl (decide (((Am v i).fKind)=6)) (AY (B2 .i64 ((([123]:Ae).length:Int)+(ha.length:Int)))<|AY (B2 .i64 (((([123]:Ae)++ha).length:Int)+(([125]:Ae).length:Int)))<|some ((([123]:Ae)++ha)++([125]:Ae))) (AY (B2 .i64 ((([91]:Ae).length:Int)+(ha.length:Int)))<|AY (B2 .i64 (((([91]:Ae)++ha).length:Int)+(([93]:Ae).length:Int)))<|some ((([91]:Ae)++ha)++([93]:Ae)))
def Mg (F:Nat)(ha:(List Ab)→Int→Option (Ae))(v:(List Ab))(i:Int):Option (Ae):=
 AY (Cp i (v.length:Int))<|Bl (decide (((Am v i).fKind)=1)) (some ([110,117,108,108]:Ae)) (Bl (decide (((Am v i).fKind)=2)) (Bl (decide (((Am v i).fInt)=1)) (some ([116,114,117,101]:Ae)) (some ([102,97,108,115,101]:Ae))) (Bl (decide (((Am v i).fKind)=3)) (AY (B2 .i64 ((Am v i).fInt))<|some (Lib.itoa ((Am v i).fInt))) (Bl (decide (((Am v i).fKind)=4)) (B0 (Jf F ((Am v i).fStr)) λhb=>some hb) (AY (B2 .i64 (i+1))<|B0 (Ca (λσ=>E0 F v i ha σ.1 σ.2.1 σ.2.2) F (([]:Ae),i+1,0)) (BT λν=>HI v i ν)))))
def GP:Nat→(List Ab)→Int→Option (Ae)
 | 0,_,_=>none
 | nn+1,v,i=>Mg nn (GP nn) v i
def EE (v:(List Ab))(ha:Int):Option (Stp (Int) (Out (Int) (Unit))):=
 Bl (decide (ha<(v.length:Int))) (AY (Cp ha (v.length:Int))<|Bl (decide (200<(((Am v ha).fStr).length:Int))) (some (.out (.ret 3))) (AY (B2 .i64 (ha+1))<|some (.next (ha+1)))) (some (.out (.go ())))
def IK (F:Nat)(v:(List Ab)):Option (Int):=
 B0 (GP F v 0) λha=>Bl (decide (4000<(ha.length:Int))) (some 3) (some 0)
def EF (v:(List Ab))(ha:Int):Option (Stp (Int) (Out (Int) (Unit))):=
 Bl (decide (ha<(v.length:Int))) (AY (Cp ha (v.length:Int))<|Bl (((decide (((Am v ha).fKind)=3))&&((decide (((Am v ha).fInt)<(-1000000000000)))||(decide (1000000000000<((Am v ha).fInt)))))) (some (.out (.ret 2))) (AY (B2 .i64 (ha+1))<|some (.next (ha+1)))) (some (.out (.go ())))
def IL (F:Nat)(v:(List Ab)):Option (Int):=
 AY (imp (!(decide (200<(v.length:Int)))) ((Dr F v 0).isSome))<|Bl (((decide (200<(v.length:Int)))||(decide (8<(ov (Dr F v 0)))))) (some 3) (B0 (Ca (λσ=>EE v σ) F 0) (BT λν=>IK F v ))
def KQ (F:Nat)(v:(List Ab)):Option (Int):=
 B0 (Lz F v) λr1=>Bl (!r1) (some 1) (B0 (Ca (λσ=>EF v σ) F 0) (BT λν=>IL F v ))
def L0 (F:Nat)(v:(List Ab)):Option (Ae×Int):=
 B0 (KQ F v) λr1=>Bl (!decide (r1=0)) (some (([]:Ae),r1)) (B0 (GP F v 0) λr7=>some (r7,0))
end Go.Proofs.YtogdediiodmnbaaGreatDoor
namespace Go.Proofs.YtogdediiodmnbaaGreatDoor.Q
open Go Go.RowKit
set_option linter.unusedVariables false
set_option linter.unusedSimpArgs false
set_option maxRecDepth 100000
set_option maxHeartbeats 4000000
@[reducible] def Ac (x:Ab):List Rp:=[Ak x.fKind,Ak x.fInt,rS x.fStr,Ak x.fN]
theorem AR (x:Ab):(Ac x).length=4:=rfl
theorem BP (x:Ab):(Ac x).all (·.one)=true:=rfl
theorem Wb (F:Nat)(s:Ae)(r:Bool)(h:JD F s=some r):Fn Tryz.prog GE 166 [rS s] [] (λR H=>R=rB r∧H=[]):=by
 refine enter (n:=20) Tryz.func166 Aa Tryz.ntmps166 Aa (λw Z=>?_);unfold JD at h;refine Af (wa Aa (Ao (Ai (Af (wa Aa (Ao (AL (ob h λhi hj hg=>B4 (S:=Nat×(Int)×(Unit)) (V:=(Unit)×(Unit)) 0 (λσ=>Ca (λσ=>Kd s σ) σ.1 σ.2.1=some hi) (λσ=>[(0,rS s),(3,Ak σ.2.1)]) (λσ=>[]) (λσ=>σ.1) (F,0,()) hj (AM.c Aa (AM.c Aa AM.nil)) sN (λσ=>Kc =some r) (λσ=>[]) (λσ=>[]) ?_ ?_))))))))
 ·rintro⟨hz,hb,⟨⟩⟩ hk;refine Cd (l':=[(0,rS s),(3,Ak hb)]) (H':=[]) Aa Aa ?_;obtain⟨hl,rfl,t37,hd,hf⟩:=Cz hk;replace hd:Kd s hb=some t37:=hd;unfold Kd at hd;refine Ai (Af (wm Aa (wm Aa (wv (Bm BZ Aa) (wv (Ch Aa Aa) (Ao (cz hd Aa (λhm hn=>?_) (λhm ho=>?_))))))))
  ·refine Ap (AJ (Ai (AL (ck hn λhh hp=>AG [(0,rS s),(3,Ak hb),(19,rB ((decide ((Be s hb)<32))||(decide (126<(Be s hb)))))] [] ?_ ?_))))
   ·refine Ah (wm Aa (wm Aa (wv (Bb BZ Aa Aa hh) (wv (Ch Aa Aa) (wm Aa (AO (decide ((Be s hb)<32)) (λha=>?_) (λha=>?_)))))))
    ·refine wf ha (wf ha (wf ha (wf ha (wv (r:=rB true) (Ax Aa ha Aa) (Aj ?_)))));exact Cc ha
    ·refine wo ha (wm Aa (wo ha (wm Aa (wo ha (wv (Bb BZ Aa Aa hh) (wo ha (wv (Cv Aa Aa) (Ea Aa ha Aa (Aj ?_)))))))));exact Cc ha
   refine cz hp Aa (λhq hr=>?_) (λhq hs=>?_)
   ·refine Af (wa Aa (Ao (As (A3 (Ad (Ad (Bc ?_)))))));have ht:=Bz hr hf hg;refine A3 (Ad ?_);obtain rfl:=At ht;exact Ar (BY Tryz.results166 (AB Aa)) sN ⟨Aa,Aa⟩
   ·refine Ap (AF (AJ (Ah (wm Aa (ck hs λhu hw=>wv (Bh Aa Aa hu) (wa Aa (Aj ?_)))))));have hx:=Bg hw hf;exact Au (AD (hl,hb+1,()) ⟨hx,Abo _⟩ (AM.c Aa (AM.c Aa AM.nil)) sN)
  ·refine BB (A2 ?_);have hy:=Cb ho hf hg;exact A2 (Bn (AD ((),()) hy AM.nil sN))
 ·rintro⟨⟨⟩,⟨⟩⟩ he;refine C4 (l':=[]) (H':=[]) Aa Aa ?_;replace he:Kc =some r:=he;unfold Kc at he;refine Bi (AJ (Af (wa Aa (Ao (As ?_)))));obtain rfl:=At he;exact Ar (BY Tryz.results166 (AB Aa)) sN ⟨Aa,Aa⟩
theorem E2 (ok:Bool)(i:Int)(r:Int)(h:BV ok i=some r):Fn Tryz.prog GE 139 [rB ok,Ak i] [] (λR H=>R=Ak r∧H=[]):=by
 refine enter (n:=8) Tryz.func139 Aa Tryz.ntmps139 Aa (λw Z=>?_);unfold BV at h;refine Af (wa Aa (Ao (Ai (Af (wm Aa (Ao (cz h Aa (λc1 h2=>?_) (λc1 h5=>?_))))))))
 ·refine Af (wm Aa (ck h2 λg3 h4=>wv (Bh Aa Aa g3) (wa Aa (Ao (As (Ad ?_))))));obtain rfl:=At h4;exact Ar (BY Tryz.results139 (AB Aa)) sN ⟨Aa,Aa⟩
 ·refine Ap (AJ (Af (wv (r:=Ak (-1)) (Av Aa) (Ao (As ?_)))));obtain rfl:=At h5;exact Ar (BY Tryz.results139 (AB Aa)) sN ⟨Aa,Aa⟩
theorem Wd (F:Nat)(c:Ab)(r:Bool)(h:OI F c=some r):Fn Tryz.prog GE 140 [Bq (Ac c)] [] (λR H=>R=rB r∧H=[]):=by
 refine enter (n:=21) Tryz.func140 Aa Tryz.ntmps140 Aa (λw Z=>?_);unfold OI at h;refine Af (Ci Aa Aa (λb1=>?_));refine wa Aa (Ao (ck h λg2 h3=>AG [(2,rB ((decide (c.fKind=4))&&((decide (c.fInt=0))&&((decide (c.fN=0))&&(ov (JD F c.fStr))))))] [] ?_ ?_))
 ·refine Ah (vF BA Aa DQ (vL 0 Eh Aa (wv (BE Aa Aa) (wm Aa (AO (decide (c.fKind=4)) (λc4=>?_) (λc4=>?_))))))
  ·refine wo c4 (vF BA Aa Ct (wo c4 (vL 0 Dm Aa (wo c4 (wv (BE Aa Aa) (En Aa c4 Aa (wm Aa (AO (decide (c.fInt=0)) (λc5=>?_) (λc5=>?_)))))))))
   ·refine wo c5 (vF BA Aa Ct (wo c5 (vL 0 Dm Aa (wo c5 (wv (BE Aa Aa) (En Aa c5 Aa (wm Aa (AO (decide (c.fN=0)) (λc6=>?_) (λc6=>?_)))))))))
    ·refine wo c6 (vF BA Aa CG (wo c6 (vL 0 CV Aa (wo c6 (Cn Tryz.call166 (Wb F c.fStr (ov (JD F c.fStr)) (GQ (Cr (Cr (Cr g2 c4) c5) c6))) Aa (En Aa c6 Aa (wa Aa (Aj ?_))))))));exact Cc (And.intro c4 (And.intro c5 c6))
    ·refine wf c6 (wf c6 (wf c6 (wv (r:=rB false) (A7 Aa c6 Aa) (wa Aa (Aj ?_)))));exact Cc (And.intro c4 (And.intro c5 c6))
   ·refine wf c5 (wf c5 (wf c5 (wv (r:=rB false) (A7 Aa c5 Aa) (wm Aa (wz Aa Aa (wz Aa Aa (wz Aa Aa (wv (r:=rB false) (A7 (b:=false) Aa Aa Aa) (wa Aa (Aj ?_))))))))));exact Cc (And.intro c4 c5)
  ·refine wf c4 (wf c4 (wf c4 (wv (r:=rB false) (A7 Aa c4 Aa) (wm Aa (wz Aa Aa (wz Aa Aa (wz Aa Aa (wv (r:=rB false) (A7 (b:=false) Aa Aa Aa) (wm Aa (wz Aa Aa (wz Aa Aa (wz Aa Aa (wv (r:=rB false) (A7 (b:=false) Aa Aa Aa) (wa Aa (Aj ?_)))))))))))))));exact Cc c4
 refine As ?_;obtain rfl:=At h3;exact Ar (BY Tryz.results140 (AB Aa)) sN ⟨Aa,Aa⟩
theorem Wc (F:Nat)(hn:(List Ab)→Int→Int→Option (Int))(ho:(List Ab)→Int→Int→Option (Int))(hq:(∀(v:(List Ab)) (i:Int) (n:Int) (r:Int),hn v i n=some r→Fn Tryz.prog GE 141 [AX 4 (A1 Ac v),Ak i,Ak n] [] (λR H=>R=Ak r∧H=[])))(hr:(∀(v:(List Ab)) (i:Int) (n:Int) (r:Int),ho v i n=some r→Fn Tryz.prog GE 142 [AX 4 (A1 Ac v),Ak i,Ak n] [] (λR H=>R=Ak r∧H=[])))(v:(List Ab))(i:Int)(r:Int)(h:PH F hn ho v i=some r):Fn Tryz.prog GE 111 [AX 4 (A1 Ac v),Ak i] [] (λR H=>R=Ak r∧H=[]):=by
 refine enter (n:=127) Tryz.func111 Aa Tryz.ntmps111 Aa (λw Z=>?_);unfold PH at h;refine Af (wa Aa (Ao (Ai (AG [(0,AX 4 (A1 Ac v)),(1,Ak i),(13,rB ((decide (i<0))||(decide ((v.length:Int)≤i))))] [] ?_ ?_))))
 ·refine Ah (wm Aa (wv (Ch Aa Aa) (wm Aa (AO (decide (i<0)) (λc1=>?_) (λc1=>?_)))))
  ·refine wf c1 (wf c1 (wf c1 (wf c1 (wv (r:=rB true) (Ax Aa c1 Aa) (Aj ?_)))));exact Cc c1
  ·refine wo c1 (wm Aa (wo c1 (wm Aa (wo c1 (wv (Bv (ys:=v) (enc:=Ac) BK Aa) (wo c1 (wv (GR Aa Aa) (Ea Aa c1 Aa (Aj ?_)))))))));exact Cc c1
 refine cz h Aa (λc2 h3=>?_) (λc2 h4=>?_)
 ·refine Af (wv (r:=Ak (-1)) (Av Aa) (Ao (As (Ad ?_))));obtain rfl:=At h3;exact Ar (BY MC (AB Aa)) sN ⟨Aa,Aa⟩
 ·refine Ap (AJ (Af (wm Aa (wm Aa (ck h4 λg5 h6=>wv (B3 (enc:=Ac) (ys:=v) BK BU Aa Aa g5) (wv (DI J7 BU Aa Aa Aa) (Ce (cs:=[Ak 0,Ak 0,rS ([]:Ae),Ak 0]) Eb Aa Aa (λb7=>?_))))))));refine AP (i:=0) BU Aa Aa Aa (Bx.c Aa) Aa Aa (cs':=[Ak ((Am v i).fKind),Ak ((Am v i).fInt),rS ((Am v i).fStr),Ak ((Am v i).fN)]) Aa (H':=[.blk b7 (Ac (Am v i)) 63]) Aa (Ao (Ai (Af (vF BA Aa DQ (vL 0 Eh Aa (wv (BE Aa Aa) (Ao (cz h6 Aa (λc8 h9=>?_) (λc8 hs=>?_)))))))))
  ·refine ck h9 λht hu=>ck hu λhw hx=>ck hx λhy hz=>AG [(4,Ak (bif decide (((Am v i).fInt)=0) then(bif decide (((Am v i).fStr)=([]:Ae)) then(ov (BV (decide (((Am v i).fN)=0)) i)) else(ov (BV false i))) else(ov (BV false i))))] [] ?_ ?_
   ·refine Ah (vF BA Aa Ct (vL 0 Dm Aa (wv (BE Aa Aa) (wm Aa (AO (decide (((Am v i).fInt)=0)) (λhb=>?_) (λhb=>?_))))))
    ·refine wo hb (vF BA Aa CG (wo hb (vL 0 CV Aa (wo hb (wv (DN Aa Aa) (En Aa hb Aa (wm Aa (AO (decide (((Am v i).fStr)=([]:Ae))) (λhe=>?_) (λhe=>?_)))))))))
     ·refine wo he (vF BA Aa Ct (wo he (vL 0 Dm Aa (wo he (wv (BE Aa Aa) (En Aa he Aa (wm Aa (Cn J5 (E2 (decide (((Am v i).fN)=0)) i (ov (BV (decide (((Am v i).fN)=0)) i)) (GQ (Cr (Cr ht hb) he))) Aa (wa Aa (Aj ?_))))))))));exact Cc (And.intro hb he)
     ·refine wf he (wf he (wf he (wv (r:=rB false) (A7 Aa he Aa) (wm Aa (Cn J5 (E2 false i (ov (BV false i)) (GQ (Dw (Cr hw hb) he))) Aa (wa Aa (Aj ?_)))))));exact Cc (And.intro hb he)
    ·refine wf hb (wf hb (wf hb (wv (r:=rB false) (A7 Aa hb Aa) (wm Aa (wz Aa Aa (wz Aa Aa (wz Aa Aa (wv (r:=rB false) (A7 (b:=false) Aa Aa Aa) (wm Aa (Cn J5 (E2 false i (ov (BV false i)) (GQ (Dw hy hb))) Aa (wa Aa (Aj ?_))))))))))));exact Cc hb
   refine As (Ad ?_);obtain rfl:=At hz;exact Ar (BY MC (AB Aa)) sN ⟨Aa,Aa⟩
  ·refine Ap (AJ (Ai (Af (vF BA Aa DQ (vL 0 Eh Aa (wv (BE Aa Aa) (Ao (cz hs Aa (λh0 h1=>?_) (λh0 h2=>?_)))))))))
   ·refine ck h1 λh5 h7=>ck h7 λh8 hA=>ck hA λhB hC=>ck hC λhD hE=>ck hE λhG hH=>AG [(4,Ak (bif decide (((Am v i).fInt)=0) then(bif decide (((Am v i).fStr)=([]:Ae)) then(ov (BV (decide (((Am v i).fN)=0)) i)) else(ov (BV false i))) else(bif decide (((Am v i).fInt)=1) then(bif decide (((Am v i).fStr)=([]:Ae)) then(ov (BV (decide (((Am v i).fN)=0)) i)) else(ov (BV false i))) else(ov (BV false i)))))] [] ?_ ?_
    ·refine Ah (vF BA Aa Ct (vL 0 Dm Aa (wv (BE Aa Aa) (wm Aa (AO (decide (((Am v i).fInt)=0)) (λha=>?_) (λha=>?_))))))
     ·refine wf ha (wf ha (wf ha (wv (r:=rB true) (Ax Aa ha Aa) (wm Aa (Bp (b:=true) Aa Aa Aa (vF BA Aa CG (Bp (b:=true) Aa Aa Aa (vL 0 CV Aa (Bp (b:=true) Aa Aa Aa (wv (DN Aa Aa) (wv (r:=rB (decide (((Am v i).fStr)=([]:Ae)))) (Ax (b:=true) Aa Aa Aa) (wm Aa (AO (decide (((Am v i).fStr)=([]:Ae))) (λhf=>?_) (λhf=>?_))))))))))))))
      ·refine wo hf (vF BA Aa Ct (wo hf (vL 0 Dm Aa (wo hf (wv (BE Aa Aa) (En Aa hf Aa (wm Aa (Cn J5 (E2 (decide (((Am v i).fN)=0)) i (ov (BV (decide (((Am v i).fN)=0)) i)) (GQ (Cr (Cr h5 ha) hf))) Aa (wa Aa (Aj ?_))))))))));exact Cc (And.intro ha hf)
      ·refine wf hf (wf hf (wf hf (wv (r:=rB false) (A7 Aa hf Aa) (wm Aa (Cn J5 (E2 false i (ov (BV false i)) (GQ (Dw (Cr h8 ha) hf))) Aa (wa Aa (Aj ?_)))))));exact Cc (And.intro ha hf)
     ·refine wo ha (vF BA Aa Ct (wo ha (vL 0 Dm Aa (wo ha (wv (BE Aa Aa) (Ea Aa ha Aa (wm Aa (AO (decide (((Am v i).fInt)=1)) (λhd=>?_) (λhd=>?_)))))))))
      ·refine wo hd (vF BA Aa CG (wo hd (vL 0 CV Aa (wo hd (wv (DN Aa Aa) (En Aa hd Aa (wm Aa (AO (decide (((Am v i).fStr)=([]:Ae))) (λhg=>?_) (λhg=>?_)))))))))
       ·refine wo hg (vF BA Aa Ct (wo hg (vL 0 Dm Aa (wo hg (wv (BE Aa Aa) (En Aa hg Aa (wm Aa (Cn J5 (E2 (decide (((Am v i).fN)=0)) i (ov (BV (decide (((Am v i).fN)=0)) i)) (GQ (Cr (Cr (Dw hB ha) hd) hg))) Aa (wa Aa (Aj ?_))))))))));exact Cc (And.intro ha (And.intro hd hg))
       ·refine wf hg (wf hg (wf hg (wv (r:=rB false) (A7 Aa hg Aa) (wm Aa (Cn J5 (E2 false i (ov (BV false i)) (GQ (Dw (Cr (Dw hD ha) hd) hg))) Aa (wa Aa (Aj ?_)))))));exact Cc (And.intro ha (And.intro hd hg))
      ·refine wf hd (wf hd (wf hd (wv (r:=rB false) (A7 Aa hd Aa) (wm Aa (wz Aa Aa (wz Aa Aa (wz Aa Aa (wv (r:=rB false) (A7 (b:=false) Aa Aa Aa) (wm Aa (Cn J5 (E2 false i (ov (BV false i)) (GQ (Dw (Dw hG ha) hd))) Aa (wa Aa (Aj ?_))))))))))));exact Cc (And.intro ha hd)
    refine As (Ad ?_);obtain rfl:=At hH;exact Ar (BY MC (AB Aa)) sN ⟨Aa,Aa⟩
   ·refine Ap (AJ (Ai (Af (vF BA Aa DQ (vL 0 Eh Aa (wv (BE Aa Aa) (Ao (cz h2 Aa (λhI hJ=>?_) (λhI hK=>?_)))))))))
    ·refine ck hJ λhL hN=>ck hN λhO hP=>AG [(4,Ak (bif decide (((Am v i).fStr)=([]:Ae)) then(ov (BV (decide (((Am v i).fN)=0)) i)) else(ov (BV false i))))] [] ?_ ?_
     ·refine Ah (vF BA Aa CG (vL 0 CV Aa (wv (DN Aa Aa) (wm Aa (AO (decide (((Am v i).fStr)=([]:Ae))) (λhh=>?_) (λhh=>?_))))))
      ·refine wo hh (vF BA Aa Ct (wo hh (vL 0 Dm Aa (wo hh (wv (BE Aa Aa) (En Aa hh Aa (wm Aa (Cn J5 (E2 (decide (((Am v i).fN)=0)) i (ov (BV (decide (((Am v i).fN)=0)) i)) (GQ (Cr hL hh))) Aa (wa Aa (Aj ?_))))))))));exact Cc hh
      ·refine wf hh (wf hh (wf hh (wv (r:=rB false) (A7 Aa hh Aa) (wm Aa (Cn J5 (E2 false i (ov (BV false i)) (GQ (Dw hO hh))) Aa (wa Aa (Aj ?_)))))));exact Cc hh
     refine As (Ad ?_);obtain rfl:=At hP;exact Ar (BY MC (AB Aa)) sN ⟨Aa,Aa⟩
    ·refine Ap (AJ (Ai (Af (vF BA Aa DQ (vL 0 Eh Aa (wv (BE Aa Aa) (Ao (cz hK Aa (λhQ hR=>?_) (λhQ hS=>?_)))))))))
     ·refine Af (wv (Bw (i:=0) J7 BU Aa Aa Aa Aa) (ob hR λhp hT hU=>Cn Tryz.call140 (Wd F (Am v i) hp hT) Aa (wm Aa (ob hU λhV hW hX=>Cn J5 (E2 hp i hV hW) Aa (wa Aa (Ao (As (Ad ?_))))))));obtain rfl:=At hX;exact Ar (BY MC (AB Aa)) (sS sN) ⟨Aa,Aa⟩
     ·refine Ap (AJ (Ai (AG [(0,AX 4 (A1 Ac v)),(1,Ak i),(5,rP b7 0),(96,rB ((decide (((Am v i).fKind)=5))&&((decide (((Am v i).fInt)=0))&&((decide (((Am v i).fStr)=([]:Ae)))&&(decide (0≤((Am v i).fN)))))))] [.blk b7 (Ac (Am v i)) 63] ?_ ?_)))
      ·refine Ah (vF BA Aa DQ (vL 0 Eh Aa (wv (BE Aa Aa) (wm Aa (AO (decide (((Am v i).fKind)=5)) (λc53=>?_) (λc53=>?_))))))
       ·refine wo c53 (vF BA Aa Ct (wo c53 (vL 0 Dm Aa (wo c53 (wv (BE Aa Aa) (En Aa c53 Aa (wm Aa (AO (decide (((Am v i).fInt)=0)) (λhj=>?_) (λhj=>?_)))))))))
        ·refine wo hj (vF BA Aa CG (wo hj (vL 0 CV Aa (wo hj (wv (DN Aa Aa) (En Aa hj Aa (wm Aa (AO (decide (((Am v i).fStr)=([]:Ae))) (λhl=>?_) (λhl=>?_)))))))))
         ·refine wo hl (vF BA Aa Ct (wo hl (vL 0 Dm Aa (wo hl (wv (GR Aa Aa) (En Aa hl Aa (Aj ?_)))))));exact Cc (And.intro c53 (And.intro hj hl))
         ·refine wf hl (wf hl (wf hl (wv (r:=rB false) (A7 Aa hl Aa) (Aj ?_))));exact Cc (And.intro c53 (And.intro hj hl))
        ·refine wf hj (wf hj (wf hj (wv (r:=rB false) (A7 Aa hj Aa) (wm Aa (wz Aa Aa (wz Aa Aa (wz Aa Aa (wv (r:=rB false) (A7 (b:=false) Aa Aa Aa) (Aj ?_)))))))));exact Cc (And.intro c53 hj)
       ·refine wf c53 (wf c53 (wf c53 (wv (r:=rB false) (A7 Aa c53 Aa) (wm Aa (wz Aa Aa (wz Aa Aa (wz Aa Aa (wv (r:=rB false) (A7 (b:=false) Aa Aa Aa) (wm Aa (wz Aa Aa (wz Aa Aa (wz Aa Aa (wv (r:=rB false) (A7 (b:=false) Aa Aa Aa) (Aj ?_))))))))))))));exact Cc c53
      refine cz hS Aa (λhY hZ=>?_) (λhY ga=>?_)
      ·refine Af (wm Aa (wm Aa (ck hZ λgb gc=>wv (Bh Aa Aa gb) (vF BA Aa Ct (vL 0 Dm Aa (ob gc λgd ge gf=>Cn Tryz.call141 (hq v (i+1) ((Am v i).fN) gd ge) Aa (wa Aa (Ao (As (Ad ?_))))))))));obtain rfl:=At gf;exact Ar (BY MC (AB Aa)) (sS sN) ⟨Aa,Aa⟩
      ·refine Ap (AJ (Ai (AG [(0,AX 4 (A1 Ac v)),(1,Ak i),(5,rP b7 0),(120,rB ((decide (((Am v i).fKind)=6))&&((decide (((Am v i).fInt)=0))&&((decide (((Am v i).fStr)=([]:Ae)))&&(decide (0≤((Am v i).fN)))))))] [.blk b7 (Ac (Am v i)) 63] ?_ ?_)))
       ·refine Ah (vF BA Aa DQ (vL 0 Eh Aa (wv (BE Aa Aa) (wm Aa (AO (decide (((Am v i).fKind)=6)) (λhi=>?_) (λhi=>?_))))))
        ·refine wo hi (vF BA Aa Ct (wo hi (vL 0 Dm Aa (wo hi (wv (BE Aa Aa) (En Aa hi Aa (wm Aa (AO (decide (((Am v i).fInt)=0)) (λhk=>?_) (λhk=>?_)))))))))
         ·refine wo hk (vF BA Aa CG (wo hk (vL 0 CV Aa (wo hk (wv (DN Aa Aa) (En Aa hk Aa (wm Aa (AO (decide (((Am v i).fStr)=([]:Ae))) (λhm=>?_) (λhm=>?_)))))))))
          ·refine wo hm (vF BA Aa Ct (wo hm (vL 0 Dm Aa (wo hm (wv (GR Aa Aa) (En Aa hm Aa (Aj ?_)))))));exact Cc (And.intro hi (And.intro hk hm))
          ·refine wf hm (wf hm (wf hm (wv (r:=rB false) (A7 Aa hm Aa) (Aj ?_))));exact Cc (And.intro hi (And.intro hk hm))
         ·refine wf hk (wf hk (wf hk (wv (r:=rB false) (A7 Aa hk Aa) (wm Aa (wz Aa Aa (wz Aa Aa (wz Aa Aa (wv (r:=rB false) (A7 (b:=false) Aa Aa Aa) (Aj ?_)))))))));exact Cc (And.intro hi hk)
        ·refine wf hi (wf hi (wf hi (wv (r:=rB false) (A7 Aa hi Aa) (wm Aa (wz Aa Aa (wz Aa Aa (wz Aa Aa (wv (r:=rB false) (A7 (b:=false) Aa Aa Aa) (wm Aa (wz Aa Aa (wz Aa Aa (wz Aa Aa (wv (r:=rB false) (A7 (b:=false) Aa Aa Aa) (Aj ?_))))))))))))));exact Cc hi
       refine cz ga Aa (λgg gh=>?_) (λgg gi=>?_)
       ·refine Af (wm Aa (wm Aa (ck gh λgj gl=>wv (Bh Aa Aa gj) (vF BA Aa Ct (vL 0 Dm Aa (ob gl λgm gp gq=>Cn Tryz.call142 (hr v (i+1) ((Am v i).fN) gm gp) Aa (wa Aa (Ao (As (Ad ?_))))))))));obtain rfl:=At gq;exact Ar (BY MC (AB Aa)) (sS sN) ⟨Aa,Aa⟩
       ·refine Ap (AJ (Af (wv (r:=Ak (-1)) (Av Aa) (Ao (As ?_)))));obtain rfl:=At gi;exact Ar (BY MC (AB Aa)) (sS sN) ⟨Aa,Aa⟩
theorem PJ (F:Nat)(ha:(List Ab)→Int→Option (Int))(hk:(∀(v:(List Ab)) (i:Int) (r:Int),ha v i=some r→Fn Tryz.prog GE 111 [AX 4 (A1 Ac v),Ak i] [] (λR H=>R=Ak r∧H=[])))(v:(List Ab))(i:Int)(n:Int)(r:Int)(h:Jg F ha v i n=some r):Fn Tryz.prog GE 141 [AX 4 (A1 Ac v),Ak i,Ak n] [] (λR H=>R=Ak r∧H=[]):=by
 refine enter (n:=19) Tryz.func141 Aa Tryz.ntmps141 Aa (λw Z=>?_);unfold Jg at h;refine Af (wa Aa (Ao (Ai (Af (wa Aa (Ao (AL (ob h λhl hm hh=>B4 (S:=Nat×(Int×Int)×(Unit)) (V:=(Int)×(Unit)) 0 (λσ=>Ca (λσ=>Dg v n ha σ.1 σ.2) σ.1 σ.2.1=some hl) (λσ=>[(0,AX 4 (A1 Ac v)),(1,Ak σ.2.1.1),(2,Ak n),(6,Ak 0),(7,Ak σ.2.1.2)]) (λσ=>[]) (λσ=>σ.1) (F,(i,0),()) hm (AM.c5 Aa Aa Aa Aa Aa AM.nil) sN (λσ=>ED σ.1=some r) (λσ=>[(1,Ak σ.1),(6,Ak 0)]) (λσ=>[]) ?_ ?_))))))))
 ·rintro⟨h2,⟨hb,hf⟩,⟨⟩⟩ hn;refine Cd (l':=[(0,AX 4 (A1 Ac v)),(1,Ak hb),(2,Ak n),(6,Ak 0),(7,Ak hf)]) (H':=[]) Aa Aa ?_;obtain⟨ho,rfl,hp,hd,hg⟩:=Cz hn;replace hd:Dg v n ha hb hf=some hp:=hd;unfold Dg at hd;refine Ai (Af (wm Aa (wm Aa (wv (Ch Aa Aa) (Ao (cz hd Aa (λc46 hq=>?_) (λc46 hr=>?_)))))))
  ·refine Ap (AJ (Ai (AL (Af (wm Aa (wm Aa (ob hq λhi hs ht=>Cn J6 (hk v hb hi hs) Aa (wa Aa (Bs (wm Aa (wv (Ch Aa Aa) (Ao (cz ht Aa (λc51 hu=>?_) (λc51 hw=>?_))))))))))))))
   ·refine Af (wv (r:=Ak (-1)) (Av Aa) (Ao (As (A3 (Ad (Ad (Bc ?_)))))));have hx:=Bz hu hg hh;refine A3 (Ad ?_);obtain rfl:=At hx;exact Ar (BY Tryz.results141 (AB Aa)) sN ⟨Aa,Aa⟩
   ·refine Ap (AF (AJ (Ah (wm Aa (ck hw λhy hz=>wv (Bh Aa Aa hy) (wa Aa (Aj ?_)))))));have h0:=Bg hz hg;exact Au (AD (ho,(hi,hf+1),()) ⟨h0,Abo _⟩ (AM.c5 Aa Aa Aa Aa Aa AM.nil) sN)
  ·refine BB (A2 ?_);have h1:=Cb hr hg hh;exact A2 (Bn (AD (hb,()) h1 (AM.c Aa (AM.c Aa AM.nil)) sN))
 ·rintro⟨hj,⟨⟩⟩ he;refine C4 (l':=[(1,Ak hj),(6,Ak 0)]) (H':=[]) Aa Aa ?_;replace he:ED hj=some r:=he;unfold ED at he;refine Bi (AJ (Af (wm Aa (wa Aa (Ao (As ?_))))));obtain rfl:=At he;exact Ar (BY Tryz.results141 (AB Aa)) sN ⟨Aa,Aa⟩
theorem U0 (F:Nat)(hg:(List Ab)→Int→Option (Int))(hp:(∀(v:(List Ab)) (i:Int) (r:Int),hg v i=some r→Fn Tryz.prog GE 111 [AX 4 (A1 Ac v),Ak i] [] (λR H=>R=Ak r∧H=[])))(v:(List Ab))(i:Int)(n:Int)(r:Int)(h:No F hg v i n=some r):Fn Tryz.prog GE 142 [AX 4 (A1 Ac v),Ak i,Ak n] [] (λR H=>R=Ak r∧H=[]):=by
 refine enter (n:=51) Tryz.func142 Aa Tryz.ntmps142 Aa (λw Z=>?_);unfold No at h;refine Af (wa Aa (Bs (wv (r:=rS ([]:Ae)) (Av Aa) (Ao (Ai (Af (wa Aa (Ao (AL (ob h λhq hr hl=>B4 (S:=Nat×(Int×Ae×Int)×(Unit)) (V:=(Int)×(Unit)) 0 (λσ=>Ca (λσ=>DG F v n hg σ.1 σ.2.1 σ.2.2) σ.1 σ.2.1=some hq) (λσ=>[(0,AX 4 (A1 Ac v)),(1,Ak σ.2.1.1),(2,Ak n),(7,rS σ.2.1.2.1),(8,Ak σ.2.1.2.2)]) (λσ=>[]) (λσ=>σ.1) (F,(i,([]:Ae),0),()) hr (AM.c5 Aa Aa Aa Aa Aa AM.nil) sN (λσ=>Hz σ.1=some r) (λσ=>[(1,Ak σ.1)]) (λσ=>[]) ?_ ?_))))))))))
 ·rintro⟨hL,⟨he,hh,hf⟩,⟨⟩⟩ hs;refine Cd (l':=[(0,AX 4 (A1 Ac v)),(1,Ak he),(2,Ak n),(7,rS hh),(8,Ak hf)]) (H':=[]) Aa Aa ?_;obtain⟨ht,rfl,hu,hi,hj⟩:=Cz hs;replace hi:DG F v n hg he hh hf=some hu:=hi;unfold DG at hi;refine Ai (Af (wm Aa (wm Aa (wv (Ch Aa Aa) (Ao (cz hi Aa (λhw hx=>?_) (λhw hy=>?_)))))))
  ·refine Ap (AJ (Ai (AL (Ai (ck hx λhm hz=>ck hz λh0 h1=>AG [(0,AX 4 (A1 Ac v)),(1,Ak he),(2,Ak n),(8,Ak hf),(38,rB ((decide ((v.length:Int)≤he))||((!(ov (OI F (Am v he))))||((decide (0<hf))&&(CW ((Am v he).fStr) hh||decide (((Am v he).fStr)=hh))))))] [] ?_ ?_)))))
   ·refine Ah (wm Aa (wm Aa (wv (Bv (ys:=v) (enc:=Ac) BK Aa) (wv (GR Aa Aa) (wm Aa (AO (decide ((v.length:Int)≤he)) (λha=>?_) (λha=>?_)))))))
    ·refine wf ha (wf ha (wf ha (wf ha (wf ha (wf ha (wv (r:=rB true) (Ax Aa ha Aa) (wm Aa (wz Aa Aa (wz Aa Aa (wz Aa Aa (wu (wu (wu (wu (wu (wu (wu (wz Aa Aa (wv (r:=rB true) (Ax (b:=true) Aa Aa Aa) (Aj ?_))))))))))))))))))));exact Cc ha
    ·refine wo ha (wm Aa (wo ha (wm Aa (wo ha (wv (B3 (enc:=Ac) (ys:=v) BK BU Aa Aa (Dw hm ha)) (wo ha (wv (DI J7 BU Aa Aa Aa) (wo ha (Cn Tryz.call140 (Wd F (Am v he) (ov (OI F (Am v he))) (GQ (Dw h0 ha))) Aa (wo ha (wv (BW Aa) (Ea Aa ha Aa (wm Aa (AO (!(ov (OI F (Am v he)))) (λhd=>?_) (λhd=>?_)))))))))))))))
     ·refine wf hd (wf hd (wf hd (wu (wu (wu (wu (wu (wu (wu (wf hd (wv (r:=rB true) (Ax Aa hd Aa) (Aj ?_))))))))))));exact Cc (And.intro ha hd)
     ·refine wo hd (wm Aa (wo hd (wv (Cv Aa Aa) (wo hd (wm Aa (AO (decide (0<hf)) (λhb=>?_) (λhb=>?_)))))))
      ·refine wo hb (wm Aa (wo hb (wm Aa (wo hb (wv (B3 (enc:=Ac) (ys:=v) BK BU Aa Aa (Dw hm ha)) (wo hb (wv (BG BA Aa CG Aa Aa) (wo hb (wv (Bo CV Aa Aa) (wo hb (wm Aa (wo hb (wv (T3 Aa Aa) (wo hd (En Aa hb Aa (Ea Aa hd Aa (Aj ?_)))))))))))))))));exact Cc (And.intro ha (And.intro hd hb))
      ·refine wf hb (wf hb (wf hb (wf hb (wf hb (wf hb (wf hb (wo hd (wv (r:=rB false) (A7 Aa hb Aa) (Ea Aa hd Aa (Aj ?_))))))))));exact Cc (And.intro ha (And.intro hd hb))
   refine cz h1 Aa (λh2 h3=>?_) (λh2 h4=>?_)
   ·refine Af (wv (r:=Ak (-1)) (Av Aa) (Ao (As (Ad (A3 (Ad (Ad (Bc ?_))))))));have h5:=Bz h3 hj hl;refine A3 (Ad ?_);obtain rfl:=At h5;exact Ar (BY Tryz.results142 (AB Aa)) sN ⟨Aa,Aa⟩
   ·refine Ap (AJ (Af (wm Aa (wm Aa (ck h4 λh6 h7=>wv (B3 (enc:=Ac) (ys:=v) BK BU Aa Aa h6) (wv (BG BA Aa CG Aa Aa) (wv (Bo CV Aa Aa) (wa Aa (Bs (wm Aa (wm Aa (ck h7 λh8 h9=>wv (Bh Aa Aa h8) (ob h9 λhn hA hB=>Cn J6 (hp v (he+1) hn hA) Aa (wa Aa (Bs (wm Aa (wv (Ch Aa Aa) (Ao (cz hB Aa (λhC hD=>?_) (λhC hE=>?_))))))))))))))))))))
    ·refine Af (wv (r:=Ak (-1)) (Av Aa) (Ao (As (A3 (Ad (Ad (Bc ?_)))))));have hG:=Bz hD hj hl;refine A3 (Ad ?_);obtain rfl:=At hG;exact Ar (BY Tryz.results142 (AB Aa)) sN ⟨Aa,Aa⟩
    ·refine Ap (AF (AJ (Ah (wm Aa (ck hE λhH hI=>wv (Bh Aa Aa hH) (wa Aa (Aj ?_)))))));have hJ:=Bg hI hj;exact Au (AD (ht,(hn,(Am v he).fStr,hf+1),()) ⟨hJ,Abo _⟩ (AM.c5 Aa Aa Aa Aa Aa AM.nil) sN)
  ·refine BB (A2 ?_);have hK:=Cb hy hj hl;exact A2 (Bn (AD (he,()) hK (AM.c Aa AM.nil) sN))
 ·rintro⟨ho,⟨⟩⟩ hk;refine C4 (l':=[(1,Ak ho)]) (H':=[]) Aa Aa ?_;replace hk:Hz ho=some r:=hk;unfold Hz at hk;refine Bi (AJ (Af (wm Aa (wa Aa (Ao (As ?_))))));obtain rfl:=At hk;exact Ar (BY Tryz.results142 (AB Aa)) sN ⟨Aa,Aa⟩
theorem IG:∀F:Nat,(∀(v:(List Ab)) (i:Int) (r:Int),DM F v i=some r→Fn Tryz.prog GE 111 [AX 4 (A1 Ac v),Ak i] [] (λR H=>R=Ak r∧H=[]))∧(∀(v:(List Ab)) (i:Int) (n:Int) (r:Int),H0 F v i n=some r→Fn Tryz.prog GE 141 [AX 4 (A1 Ac v),Ak i,Ak n] [] (λR H=>R=Ak r∧H=[]))∧(∀(v:(List Ab)) (i:Int) (n:Int) (r:Int),Mj F v i n=some r→Fn Tryz.prog GE 142 [AX 4 (A1 Ac v),Ak i,Ak n] [] (λR H=>R=Ak r∧H=[]))
  | 0=>⟨(λ_ _ _ h=>by simp[DM] at h),(λ_ _ _ _ h=>by simp[H0] at h),(λ_ _ _ _ h=>by simp[Mj] at h)⟩
  | nn+1=>⟨(λv i r h=>Wc nn (H0 nn) (Mj nn) (IG nn).2.1 (IG nn).2.2 v i r (by rw[DM] at h;exact h)),(λv i n r h=>PJ nn (DM nn) (IG nn).1 v i n r (by rw[H0] at h;exact h)),(λv i n r h=>U0 nn (DM nn) (IG nn).1 v i n r (by rw[Mj] at h;exact h))⟩
theorem Ht (F:Nat)(v:(List Ab))(i:Int)(r:Int)(h:DM F v i=some r):Fn Tryz.prog GE 111 [AX 4 (A1 Ac v),Ak i] [] (λR H=>R=Ak r∧H=[]):=(IG F).1 v i r h
theorem U5 (F:Nat)(v:(List Ab))(r:Bool)(h:Lz F v=some r):Fn Tryz.prog GE 83 [AX 4 (A1 Ac v)] [] (λR H=>R=rB r∧H=[]):=by
 refine enter (n:=13) Tryz.func83 Aa Tryz.ntmps83 Aa (λw Z=>?_);unfold Lz at h;refine Af (wa Aa (Ao (ck h λg1 h2=>AG [(2,rB ((decide (0<(v.length:Int)))&&(decide ((ov (DM F v 0))=(v.length:Int)))))] [] ?_ ?_)))
 ·refine Ah (wm Aa (wv (Bv (ys:=v) (enc:=Ac) BK Aa) (wv (Cv Aa Aa) (wm Aa (AO (decide (0<(v.length:Int))) (λc3=>?_) (λc3=>?_))))))
  ·refine wo c3 (wm Aa (wo c3 (Cn J6 (Ht F v 0 (ov (DM F v 0)) (GQ (Cr g1 c3))) Aa (wo c3 (wm Aa (wo c3 (wv (Bv (ys:=v) (enc:=Ac) BK Aa) (wo c3 (wv (BE Aa Aa) (En Aa c3 Aa (wa Aa (Aj ?_))))))))))));exact Cc c3
  ·refine wf c3 (wf c3 (wf c3 (wf c3 (wf c3 (wv (r:=rB false) (A7 Aa c3 Aa) (wa Aa (Aj ?_)))))));exact Cc c3
 refine As ?_;obtain rfl:=At h2;exact Ar (BY Tryz.results83 (AB Aa)) sN ⟨Aa,Aa⟩
theorem S0 (F:Nat)(hf:(List Ab)→Int→Option (Int))(hj:(∀(v:(List Ab)) (i:Int) (r:Int),hf v i=some r→Fn Tryz.prog GE 84 [AX 4 (A1 Ac v),Ak i] [] (λR H=>R=Ak r∧H=[])))(v:(List Ab))(i:Int)(r:Int)(h:IH F hf v i=some r):Fn Tryz.prog GE 84 [AX 4 (A1 Ac v),Ak i] [] (λR H=>R=Ak r∧H=[]):=by
 refine enter (n:=47) Tryz.func84 Aa Tryz.ntmps84 Aa (λw Z=>?_);unfold IH at h;refine Af (wa Aa (Bs (wm Aa (wm Aa (ck h λg1 h2=>wv (B3 (enc:=Ac) (ys:=v) BK BU Aa Aa g1) (wv (DI J7 BU Aa Aa Aa) (Ce (cs:=[Ak 0,Ak 0,rS ([]:Ae),Ak 0]) Eb Aa Aa (λb3=>?_))))))));refine AP (i:=0) BU Aa Aa Aa (Bx.c Aa) Aa Aa (cs':=[Ak ((Am v i).fKind),Ak ((Am v i).fInt),rS ((Am v i).fStr),Ak ((Am v i).fN)]) Aa (H':=[.blk b3 (Ac (Am v i)) 63]) Aa (Ao (Ai (AG [(0,AX 4 (A1 Ac v)),(1,Ak i),(5,rP b3 0),(21,rB ((!decide (((Am v i).fKind)=5))&&(!decide (((Am v i).fKind)=6))))] [.blk b3 (Ac (Am v i)) 63] ?_ ?_)))
 ·refine Ah (vF BA Aa DQ (vL 0 Eh Aa (wv (CR Aa Aa) (wm Aa (AO (!decide (((Am v i).fKind)=5)) (λc4=>?_) (λc4=>?_))))))
  ·refine wo c4 (vF BA Aa DQ (wo c4 (vL 0 Eh Aa (wo c4 (wv (CR Aa Aa) (En Aa c4 Aa (Aj ?_)))))));exact Cc c4
  ·refine wf c4 (wf c4 (wf c4 (wv (r:=rB false) (A7 Aa c4 Aa) (Aj ?_))));exact Cc c4
 refine cz h2 Aa (λc5 h6=>?_) (λc5 h7=>?_)
 ·refine Af (wa Aa (Ao (As (Ad ?_))));obtain rfl:=At h6;exact Ar (BY Tryz.results84 (AB Aa)) (sS sN) ⟨Aa,Aa⟩
 ·refine Ap (AJ (Af (wa Aa (Bs (wm Aa (ck h7 λg8 h9=>wv (Bh Aa Aa g8) (wa Aa (Ao (Ai (Af (wa Aa (Ao (AL (ob h9 λhr hs ht=>B4 (S:=Nat×(Int×Int×Int)×(Unit)) (V:=(Int)×(Unit)) 0 (λσ=>Ca (λσ=>CY F v i hf σ.1 σ.2.1 σ.2.2) σ.1 σ.2.1=some hr) (λσ=>[(0,AX 4 (A1 Ac v)),(5,rP b3 0),(6,Ak σ.2.1.1),(7,Ak σ.2.1.2.1),(8,Ak σ.2.1.2.2)]) (λσ=>[.blk b3 (Ac (Am v i)) 63]) (λσ=>σ.1) (F,(0,i+1,0),()) hs (AM.c5 Aa Aa Aa Aa Aa AM.nil) (sC sN) (λσ=>E1 σ.1=some r) (λσ=>[(6,Ak σ.1)]) (λσ=>[]) ?_ ?_))))))))))))))
  ·rintro⟨gi,⟨hd,ha,hb⟩,⟨⟩⟩ hu;refine Cd (l':=[(0,AX 4 (A1 Ac v)),(5,rP b3 0),(6,Ak hd),(7,Ak ha),(8,Ak hb)]) (H':=[.blk b3 (Ac (Am v i)) 63]) Aa Aa ?_;obtain⟨hg,rfl,hw,hh,he⟩:=Cz hu;replace hh:CY F v i hf hd ha hb=some hw:=hh;unfold CY at hh;refine Ai (Af (wm Aa (vF BA Aa Ct (vL 0 Dm Aa (wv (Ch Aa Aa) (Ao (cz hh Aa (λhx hy=>?_) (λhx hz=>?_))))))))
   ·refine Ap (AJ (Ai (AL (Ai (Af (vF BA Aa DQ (vL 0 Eh Aa (wv (BE Aa Aa) (Ao (cz hy Aa (λh0 h1=>?_) (λh0 h3=>?_)))))))))))
    ·refine Ah (wm Aa (ck h1 λh4 h5=>wv (Bh Aa Aa h4) (wa Aa (Bs (wm Aa (wm Aa (ob h5 λhk h8 hA=>Cn Tryz.call84 (hj v (ha+1) hk h8) Aa (wa Aa (Ao (Ai (Af (wm Aa (wm Aa (wv (Cv Aa Aa) (Ao (cz hA Aa (λhB hC=>?_) (λhB hD=>?_)))))))))))))))))
     ·refine Ah (wm Aa (wa Aa (Ao (Ah (wm Aa (wm Aa (ob hC λhl hE hG=>Cn J6 (Ht F v (ha+1) hl hE) Aa (wa Aa (Aj (AF (AJ (Ah (wm Aa (ck hG λhH hI=>wv (Bh Aa Aa hH) (wa Aa (Aj ?_))))))))))))))));have hJ:=Bg hI he;exact Au (AD (hg,(hk,hl,hb+1),()) ⟨hJ,Abo _⟩ (AM.c5 Aa Aa Aa Aa Aa AM.nil) (sC sN))
     ·refine Ap (AJ (Ah (wm Aa (wm Aa (ob hD λhm hK hL=>Cn J6 (Ht F v (ha+1) hm hK) Aa (wa Aa (Aj (AF (AJ (Ah (wm Aa (ck hL λhN hO=>wv (Bh Aa Aa hN) (wa Aa (Aj ?_))))))))))))));have hP:=Bg hO he;exact Au (AD (hg,(hd,hm,hb+1),()) ⟨hP,Abo _⟩ (AM.c5 Aa Aa Aa Aa Aa AM.nil) (sC sN))
    ·refine Ap (AJ (Af (wm Aa (wm Aa (ob h3 λhn hQ hR=>Cn Tryz.call84 (hj v ha hn hQ) Aa (wa Aa (Ao (Ai (Af (wm Aa (wm Aa (wv (Cv Aa Aa) (Ao (cz hR Aa (λhS hT=>?_) (λhS hU=>?_)))))))))))))))
     ·refine Ah (wm Aa (wa Aa (Ao (Ah (wm Aa (wm Aa (ob hT λho hV hW=>Cn J6 (Ht F v ha ho hV) Aa (wa Aa (Aj (AF (AJ (Ah (wm Aa (ck hW λhX hY=>wv (Bh Aa Aa hX) (wa Aa (Aj ?_))))))))))))))));have hZ:=Bg hY he;exact Au (AD (hg,(hn,ho,hb+1),()) ⟨hZ,Abo _⟩ (AM.c5 Aa Aa Aa Aa Aa AM.nil) (sC sN))
     ·refine Ap (AJ (Ah (wm Aa (wm Aa (ob hU λhp ga gb=>Cn J6 (Ht F v ha hp ga) Aa (wa Aa (Aj (AF (AJ (Ah (wm Aa (ck gb λgc gd=>wv (Bh Aa Aa gc) (wa Aa (Aj ?_))))))))))))));have ge:=Bg gd he;exact Au (AD (hg,(hd,hp,hb+1),()) ⟨ge,Abo _⟩ (AM.c5 Aa Aa Aa Aa Aa AM.nil) (sC sN))
   ·refine BB (A2 ?_);have gf:=Cb hz he ht;exact A2 (Bn (AD (hd,()) gf (AM.c Aa AM.nil) (sS sN)))
  ·rintro⟨hq,⟨⟩⟩ hi;refine C4 (l':=[(6,Ak hq)]) (H':=[]) Aa Aa ?_;replace hi:E1 hq=some r:=hi;unfold E1 at hi;refine Bi (AJ (Af (wm Aa (ck hi λgg gh=>wv (Bh Aa Aa gg) (wa Aa (Ao (As ?_)))))));obtain rfl:=At gh;exact Ar (BY Tryz.results84 (AB Aa)) sN ⟨Aa,Aa⟩
theorem MN:∀F:Nat,(∀(v:(List Ab)) (i:Int) (r:Int),Dr F v i=some r→Fn Tryz.prog GE 84 [AX 4 (A1 Ac v),Ak i] [] (λR H=>R=Ak r∧H=[]))
  | 0=>(λ_ _ _ h=>by simp[Dr] at h)
  | nn+1=>(λv i r h=>S0 nn (Dr nn) (MN nn) v i r (by rw[Dr] at h;exact h))
theorem U3 (F:Nat)(v:(List Ab))(i:Int)(r:Int)(h:Dr F v i=some r):Fn Tryz.prog GE 84 [AX 4 (A1 Ac v),Ak i] [] (λR H=>R=Ak r∧H=[]):=(MN F) v i r h
theorem Mi (F:Nat)(s:Ae)(r:Ae)(h:Jf F s=some r):Fn Tryz.prog GE 112 [rS s] [] (λR H=>R=rS r∧H=[]):=by
 refine enter (n:=32) Tryz.func112 Aa Tryz.ntmps112 Aa (λw Z=>?_);unfold Jf at h;refine Af (wv (r:=rS ([]:Ae)) (Av Aa) (Bs (wv (r:=rS ([34]:Ae)) (Av Aa) (Ao (Ai (Af (wa Aa (Ao (AL (ob h λhm hn ho=>B4 (S:=Nat×(Ae×Int)×(Unit)) (V:=(Ae)×(Unit)) 0 (λσ=>Ca (λσ=>Dq s σ.1 σ.2) σ.1 σ.2.1=some hm) (λσ=>[(0,rS s),(3,rS σ.2.1.1),(4,Ak σ.2.1.2)]) (λσ=>[]) (λσ=>σ.1) (F,(([34]:Ae),0),()) hn (AM.c Aa (AM.c Aa (AM.c Aa AM.nil))) sN (λσ=>DV σ.1=some r) (λσ=>[(3,rS σ.1)]) (λσ=>[]) ?_ ?_))))))))))
 ·rintro⟨hL,⟨hd,ha⟩,⟨⟩⟩ hp;refine Cd (l':=[(0,rS s),(3,rS hd),(4,Ak ha)]) (H':=[]) Aa Aa ?_;obtain⟨hh,rfl,hq,he,hg⟩:=Cz hp;replace he:Dq s hd ha=some hq:=he;unfold Dq at he;refine Ai (Af (wm Aa (wm Aa (wv (Bm BZ Aa) (wv (Ch Aa Aa) (Ao (cz he Aa (λhr hs=>?_) (λhr ht=>?_))))))))
  ·refine Ap (AJ (Ai (AL (Ai (ck hs λhi hu=>AG [(0,rS s),(3,rS hd),(4,Ak ha),(20,rB ((decide ((Be s ha)=34))||(decide ((Be s ha)=92))))] [] ?_ ?_)))))
   ·refine Ah (wm Aa (wm Aa (wv (Bb BZ Aa Aa hi) (wv (BE Aa Aa) (wm Aa (AO (decide ((Be s ha)=34)) (λhb=>?_) (λhb=>?_)))))))
    ·refine wf hb (wf hb (wf hb (wf hb (wv (r:=rB true) (Ax Aa hb Aa) (Aj ?_)))));exact Cc hb
    ·refine wo hb (wm Aa (wo hb (wm Aa (wo hb (wv (Bb BZ Aa Aa hi) (wo hb (wv (BE Aa Aa) (Ea Aa hb Aa (Aj ?_)))))))));exact Cc hb
   refine cz hu Aa (λhw hx=>?_) (λhw hy=>?_)
   ·refine Ah (wm Aa (ck hx λhz h0=>wv (Dx Aa Aa hz) (wa Aa (Ao (Ah (wm Aa (wm Aa (wm Aa (wm Aa (ck h0 λhj h1=>wv (Bh Aa Aa hj) (ck h1 λh2 h3=>ck h3 λh4 h5=>wv (DX BZ Aa Aa Aa h2 h4) (ck h5 λh6 h7=>wv (Dx Aa Aa h6) (wa Aa (Aj (AF (AJ (Ah (wm Aa ?_))))))))))))))))));refine wv (Bh Aa Aa hj) (wa Aa (Aj ?_));have h8:=Bg h7 hg;exact Au (AD (hh,((hd++([92]:Ae))++(List.take (B6 (ha+1)-B6 ha) (List.drop (B6 ha) s)),ha+1),()) ⟨h8,Abo _⟩ (AM.c Aa (AM.c Aa (AM.c Aa AM.nil))) sN)
   ·refine Ap (AJ (Ah (wm Aa (wm Aa (wm Aa (wm Aa (ck hy λhk h9=>wv (Bh Aa Aa hk) (ck h9 λhA hB=>ck hB λhC hD=>wv (DX BZ Aa Aa Aa hA hC) (ck hD λhE hG=>wv (Dx Aa Aa hE) (wa Aa (Aj (AF (AJ (Ah (wm Aa (wv (Bh Aa Aa hk) (wa Aa (Aj ?_))))))))))))))))));have hH:=Bg hG hg;exact Au (AD (hh,(hd++(List.take (B6 (ha+1)-B6 ha) (List.drop (B6 ha) s)),ha+1),()) ⟨hH,Abo _⟩ (AM.c Aa (AM.c Aa (AM.c Aa AM.nil))) sN)
  ·refine BB (A2 ?_);have hI:=Cb ht hg ho;exact A2 (Bn (AD (hd,()) hI (AM.c Aa AM.nil) sN))
 ·rintro⟨hl,⟨⟩⟩ hf;refine C4 (l':=[(3,rS hl)]) (H':=[]) Aa Aa ?_;replace hf:DV hl=some r:=hf;unfold DV at hf;refine Bi (AJ (Af (wm Aa (ck hf λhJ hK=>wv (Dx Aa Aa hJ) (wa Aa (Ao (As ?_)))))));obtain rfl:=At hK;exact Ar (BY Tryz.results112 (AB Aa)) sN ⟨Aa,Aa⟩
theorem VX (F:Nat)(hf:(List Ab)→Int→Option (Ae))(hg:(∀(v:(List Ab)) (i:Int) (r:Ae),hf v i=some r→Fn Tryz.prog GE 85 [AX 4 (A1 Ac v),Ak i] [] (λR H=>R=rS r∧H=[])))(v:(List Ab))(i:Int)(r:Ae)(h:Mg F hf v i=some r):Fn Tryz.prog GE 85 [AX 4 (A1 Ac v),Ak i] [] (λR H=>R=rS r∧H=[]):=by
 refine enter (n:=77) Tryz.func85 Aa Tryz.ntmps85 Aa (λw Z=>?_);unfold Mg at h;refine Af (wv (r:=rS ([]:Ae)) (Av Aa) (Bs (wm Aa (wm Aa (ck h λg1 h2=>wv (B3 (enc:=Ac) (ys:=v) BK BU Aa Aa g1) (wv (DI J7 BU Aa Aa Aa) (Ce (cs:=[Ak 0,Ak 0,rS ([]:Ae),Ak 0]) Eb Aa Aa (λb3=>?_))))))));refine AP (i:=0) BU Aa Aa Aa (Bx.c Aa) Aa Aa (cs':=[Ak ((Am v i).fKind),Ak ((Am v i).fInt),rS ((Am v i).fStr),Ak ((Am v i).fN)]) Aa (H':=[.blk b3 (Ac (Am v i)) 63]) Aa (Ao (Ai (Af (vF BA Aa DQ (vL 0 Eh Aa (wv (BE Aa Aa) (Ao (cz h2 Aa (λc4 h5=>?_) (λc4 h6=>?_)))))))))
 ·refine Af (wv (r:=rS ([110,117,108,108]:Ae)) (Av Aa) (Ao (As (Ad ?_))));obtain rfl:=At h5;exact Ar (BY RY (AB Aa)) (sS sN) ⟨Aa,Aa⟩
 ·refine Ap (AJ (Ai (Af (vF BA Aa DQ (vL 0 Eh Aa (wv (BE Aa Aa) (Ao (cz h6 Aa (λc7 h8=>?_) (λc7 hw=>?_)))))))))
  ·refine Ai (Af (vF BA Aa Ct (vL 0 Dm Aa (wv (BE Aa Aa) (Ao (cz h8 Aa (λc9 hx=>?_) (λc9 hy=>?_)))))))
   ·refine Af (wv (r:=rS ([116,114,117,101]:Ae)) (Av Aa) (Ao (As (Ad (Ad ?_)))));obtain rfl:=At hx;exact Ar (BY RY (AB Aa)) (sS sN) ⟨Aa,Aa⟩
   ·refine Ap (AJ (Af (wv (r:=rS ([102,97,108,115,101]:Ae)) (Av Aa) (Ao (As (Ad ?_))))));obtain rfl:=At hy;exact Ar (BY RY (AB Aa)) (sS sN) ⟨Aa,Aa⟩
  ·refine Ap (AJ (Ai (Af (vF BA Aa DQ (vL 0 Eh Aa (wv (BE Aa Aa) (Ao (cz hw Aa (λhz h0=>?_) (λhz h1=>?_)))))))))
   ·refine Af (vF BA Aa Ct (vL 0 Dm Aa (ck h0 λg15 h3=>Hh (rs:=[Ak ((Am v i).fInt)]) (r:=rS (Lib.itoa ((Am v i).fInt))) Tryz.call93 Aa (ZD ((Am v i).fInt) g15) Aa Aa (wa Aa (Ao (As (Ad ?_)))))));obtain rfl:=At h3;exact Ar (BY RY (AB Aa)) (sS sN) ⟨Aa,Aa⟩
   ·refine Ap (AJ (Ai (Af (vF BA Aa DQ (vL 0 Eh Aa (wv (BE Aa Aa) (Ao (cz h1 Aa (λh4 h7=>?_) (λh4 h9=>?_)))))))))
    ·refine Af (vF BA Aa CG (vL 0 CV Aa (ob h7 λhA hB hC=>Cn Tryz.call112 (Mi F ((Am v i).fStr) hA hB) Aa (wa Aa (Ao (As (Ad ?_)))))));obtain rfl:=At hC;exact Ar (BY RY (AB Aa)) (sS sN) ⟨Aa,Aa⟩
    ·refine Ap (AJ (Af (wv (r:=rS ([]:Ae)) (Av Aa) (Bs (wm Aa (ck h9 λhD hE=>wv (Bh Aa Aa hD) (wa Aa (Ao (Ai (Af (wa Aa (Ao (AL (ob hE λhG hH hI=>B4 (S:=Nat×(Ae×Int×Int)×(Unit)) (V:=(Ae)×(Unit)) 0 (λσ=>Ca (λσ=>E0 F v i hf σ.1 σ.2.1 σ.2.2) σ.1 σ.2.1=some hG) (λσ=>[(0,AX 4 (A1 Ac v)),(4,rS ([]:Ae)),(5,rP b3 0),(6,rS σ.2.1.1),(7,Ak σ.2.1.2.1),(8,Ak σ.2.1.2.2)]) (λσ=>[.blk b3 (Ac (Am v i)) 63]) (λσ=>σ.1) (F,(([]:Ae),i+1,0),()) hH (AM.c Aa (AM.c5 Aa Aa Aa Aa Aa AM.nil)) (sC sN) (λσ=>HI v i σ.1=some r) (λσ=>[(4,rS ([]:Ae)),(5,rP b3 0),(6,rS σ.1)]) (λσ=>[.blk b3 (Ac (Am v i)) 63]) ?_ ?_))))))))))))))
     ·rintro⟨cj,⟨hb,ha,hd⟩,⟨⟩⟩ hJ;refine Cd (l':=[(0,AX 4 (A1 Ac v)),(4,rS ([]:Ae)),(5,rP b3 0),(6,rS hb),(7,Ak ha),(8,Ak hd)]) (H':=[.blk b3 (Ac (Am v i)) 63]) Aa Aa ?_;obtain⟨hh,rfl,hK,hi,he⟩:=Cz hJ;replace hi:E0 F v i hf hb ha hd=some hK:=hi;unfold E0 at hi;refine Ai (Af (wm Aa (vF BA Aa Ct (vL 0 Dm Aa (wv (Ch Aa Aa) (Ao (cz hi Aa (λhL hN=>?_) (λhL hO=>?_))))))))
      ·refine Ap (AJ (Ai (AL (Ai (Af (wm Aa (wv (Cv Aa Aa) (Ao (cz hN Aa (λhP hQ=>?_) (λhP hR=>?_))))))))))
       ·refine Ah (wm Aa (ck hQ λhS hT=>wv (Dx Aa Aa hS) (wa Aa (Ao (Ai (Af (vF BA Aa DQ (vL 0 Eh Aa (wv (BE Aa Aa) (Ao (cz hT Aa (λc233 hU=>?_) (λc233 hV=>?_))))))))))))
        ·refine Af (wm Aa (wm Aa (wm Aa (ck hU λhW hX=>wv (B3 (enc:=Ac) (ys:=v) BK BU Aa Aa hW) (wv (BG BA Aa CG Aa Aa) (wv (Bo CV Aa Aa) (ob hX λhk hY hZ=>Cn Tryz.call112 (Mi F ((Am v ha).fStr) hk hY) Aa (ck hZ λga gb=>wv (Dx Aa Aa ga) (ck gb λgc gd=>wv (Dx Aa Aa gc) (wa Aa (Ao (Ah (wm Aa (ck gd λge gf=>wv (Bh Aa Aa ge) (wa Aa (Bs (wm Aa (wm Aa ?_))))))))))))))))));refine wm Aa (ob gf λhl gg gh=>Cn Ue (hg v (ha+1) hl gg) Aa (ck gh λgi gj=>wv (Dx Aa Aa gi) (wa Aa (Ao (Ah (wm Aa (wm Aa (ob gj λhm gl gm=>Cn J6 (Ht F v (ha+1) hm gl) Aa (wa Aa (Aj (AF (AJ (Ah (wm Aa (ck gm λgp gq=>wv (Bh Aa Aa gp) (wa Aa (Aj ?_)))))))))))))))));have gr:=Bg gq he;exact Au (AD (hh,((((hb++([44]:Ae))++hk)++([58]:Ae))++hl,hm,hd+1),()) ⟨gr,Abo _⟩ (AM.c Aa (AM.c5 Aa Aa Aa Aa Aa AM.nil)) (sC sN))
        ·refine Ap (AJ (Af (wm Aa (wm Aa (wm Aa (ob hV λhn gs gt=>Cn Ue (hg v ha hn gs) Aa (ck gt λgu gv=>wv (Dx Aa Aa gu) (wa Aa (Ao (Ah (wm Aa (wm Aa (ob gv λho gw gx=>Cn J6 (Ht F v ha ho gw) Aa (wa Aa (Aj (AF (AJ (Ah (wm Aa (ck gx λgy gz=>?_))))))))))))))))))));refine wv (Bh Aa Aa gy) (wa Aa (Aj ?_));have g0:=Bg gz he;exact Au (AD (hh,((hb++([44]:Ae))++hn,ho,hd+1),()) ⟨g0,Abo _⟩ (AM.c Aa (AM.c5 Aa Aa Aa Aa Aa AM.nil)) (sC sN))
       ·refine Ap (AJ (Ai (Af (vF BA Aa DQ (vL 0 Eh Aa (wv (BE Aa Aa) (Ao (cz hR Aa (λg2 g3=>?_) (λg2 g4=>?_)))))))))
        ·refine Af (wm Aa (wm Aa (wm Aa (ck g3 λg5 g6=>wv (B3 (enc:=Ac) (ys:=v) BK BU Aa Aa g5) (wv (BG BA Aa CG Aa Aa) (wv (Bo CV Aa Aa) (ob g6 λhp g7 g8=>Cn Tryz.call112 (Mi F ((Am v ha).fStr) hp g7) Aa (ck g8 λg9 gA=>wv (Dx Aa Aa g9) (ck gA λgB gC=>wv (Dx Aa Aa gB) (wa Aa (Ao (Ah (wm Aa (ck gC λgD gE=>wv (Bh Aa Aa gD) (wa Aa (Bs (wm Aa (wm Aa ?_))))))))))))))))));refine wm Aa (ob gE λhq gF gG=>Cn Ue (hg v (ha+1) hq gF) Aa (ck gG λgH gI=>wv (Dx Aa Aa gH) (wa Aa (Ao (Ah (wm Aa (wm Aa (ob gI λhr gJ gK=>Cn J6 (Ht F v (ha+1) hr gJ) Aa (wa Aa (Aj (AF (AJ (Ah (wm Aa (ck gK λgL gM=>wv (Bh Aa Aa gL) (wa Aa (Aj ?_)))))))))))))))));have gN:=Bg gM he;exact Au (AD (hh,(((hb++hp)++([58]:Ae))++hq,hr,hd+1),()) ⟨gN,Abo _⟩ (AM.c Aa (AM.c5 Aa Aa Aa Aa Aa AM.nil)) (sC sN))
        ·refine Ap (AJ (Af (wm Aa (wm Aa (wm Aa (ob g4 λhs gO gP=>Cn Ue (hg v ha hs gO) Aa (ck gP λgQ gR=>wv (Dx Aa Aa gQ) (wa Aa (Ao (Ah (wm Aa (wm Aa (ob gR λht gS gT=>Cn J6 (Ht F v ha ht gS) Aa (wa Aa (Aj (AF (AJ (Ah (wm Aa (ck gT λgU gV=>?_))))))))))))))))))));refine wv (Bh Aa Aa gU) (wa Aa (Aj ?_));have gW:=Bg gV he;exact Au (AD (hh,(hb++hs,ht,hd+1),()) ⟨gW,Abo _⟩ (AM.c Aa (AM.c5 Aa Aa Aa Aa Aa AM.nil)) (sC sN))
      ·refine BB (A2 ?_);have gX:=Cb hO he hI;exact A2 (Bn (AD (hb,()) gX (AM.c Aa (AM.c Aa (AM.c Aa AM.nil))) (sC sN)))
     ·rintro⟨hu,⟨⟩⟩ hj;refine C4 (l':=[(4,rS ([]:Ae)),(5,rP b3 0),(6,rS hu)]) (H':=[.blk b3 (Ac (Am v i)) 63]) Aa Aa ?_;replace hj:HI v i hu=some r:=hj;unfold HI at hj;refine Bi (AJ (Ai (Af (vF BA Aa DQ (vL 0 Eh Aa (wv (BE Aa Aa) (Ao (cz hj Aa (λgY gZ=>?_) (λgY ca=>?_)))))))))
      ·refine Af (wm Aa (ck gZ λcb cc=>wv (Dx Aa Aa cb) (ck cc λcd ce=>wv (Dx Aa Aa cd) (wa Aa (Ao (As (Ad ?_)))))));obtain rfl:=At ce;exact Ar (BY RY (AB Aa)) (sS sN) ⟨Aa,Aa⟩
      ·refine Ap (AJ (Af (wm Aa (ck ca λcf cg=>wv (Dx Aa Aa cf) (ck cg λch ci=>wv (Dx Aa Aa ch) (wa Aa (Ao (As ?_))))))));obtain rfl:=At ci;exact Ar (BY RY (AB Aa)) (sS sN) ⟨Aa,Aa⟩
theorem Pa:∀F:Nat,(∀(v:(List Ab)) (i:Int) (r:Ae),GP F v i=some r→Fn Tryz.prog GE 85 [AX 4 (A1 Ac v),Ak i] [] (λR H=>R=rS r∧H=[]))
  | 0=>(λ_ _ _ h=>by simp[GP] at h)
  | nn+1=>(λv i r h=>VX nn (GP nn) (Pa nn) v i r (by rw[GP] at h;exact h))
theorem To (F:Nat)(v:(List Ab))(i:Int)(r:Ae)(h:GP F v i=some r):Fn Tryz.prog GE 85 [AX 4 (A1 Ac v),Ak i] [] (λR H=>R=rS r∧H=[]):=(Pa F) v i r h
theorem NM (F:Nat)(v:(List Ab))(r:Int)(h:KQ F v=some r):Fn Tryz.prog GE 48 [AX 4 (A1 Ac v)] [] (λR H=>R=Ak r∧H=[]):=by
 refine enter (n:=61) Tryz.func48 Aa Tryz.ntmps48 Aa (λw Z=>?_);unfold KQ at h;refine Af (wa Aa (Ao (Ai (Af (wm Aa (ob h λr1 e3 h2=>Cn Tryz.call83 (U5 F v r1 e3) Aa (wv (BW Aa) (Ao (cz h2 Aa (λc4 h5=>?_) (λc4 h6=>?_))))))))))
 ·refine Af (wa Aa (Ao (As (Ad ?_))));obtain rfl:=At h5;exact Ar (BY Uc (AB Aa)) sN ⟨Aa,Aa⟩
 ·refine Ap (AJ (Ai (Af (wa Aa (Ao (AL (ob h6 λhp hq hn=>B4 (S:=Nat×(Int)×(Unit)) (V:=(Unit)×(Unit)) 0 (λσ=>Ca (λσ=>EF v σ) σ.1 σ.2.1=some hp) (λσ=>[(0,AX 4 (A1 Ac v)),(3,Ak σ.2.1)]) (λσ=>[]) (λσ=>σ.1) (F,0,()) hq (AM.c Aa (AM.c Aa AM.nil)) sN (λσ=>IL F v =some r) (λσ=>[(0,AX 4 (A1 Ac v))]) (λσ=>[]) ?_ ?_)))))))
  ·rintro⟨ge,he,⟨⟩⟩ hr;refine Cd (l':=[(0,AX 4 (A1 Ac v)),(3,Ak he)]) (H':=[]) Aa Aa ?_;obtain⟨hs,rfl,t46,hf,hj⟩:=Cz hr;replace hf:EF v he=some t46:=hf;unfold EF at hf;refine Ai (Af (wm Aa (wm Aa (wv (Bv (ys:=v) (enc:=Ac) BK Aa) (wv (Ch Aa Aa) (Ao (cz hf Aa (λht hu=>?_) (λht hw=>?_))))))))
   ·refine Ap (AJ (Ai (AL (ck hu λhk hx=>AG [(0,AX 4 (A1 Ac v)),(3,Ak he),(35,rB ((decide (((Am v he).fKind)=3))&&((decide (((Am v he).fInt)<(-1000000000000)))||(decide (1000000000000<((Am v he).fInt))))))] [] ?_ ?_))))
    ·refine Ah (wm Aa (wm Aa (wv (B3 (enc:=Ac) (ys:=v) BK BU Aa Aa hk) (wv (BG BA Aa DQ Aa Aa) (wv (Bo Eh Aa Aa) (wv (BE Aa Aa) (wm Aa (AO (decide (((Am v he).fKind)=3)) (λha=>?_) (λha=>?_)))))))))
     ·refine wo ha (wm Aa (wo ha (wm Aa (wo ha (wv (B3 (enc:=Ac) (ys:=v) BK BU Aa Aa hk) (wo ha (wv (BG BA Aa Ct Aa Aa) (wo ha (wv (Bo Dm Aa Aa) (wo ha (wv (Ch Aa Aa) (wo ha (wm Aa (AO (decide (((Am v he).fInt)<(-1000000000000))) (λhb=>?_) (λhb=>?_)))))))))))))))
      ·refine wf hb (wf hb (wf hb (wf hb (wf hb (wf hb (wo ha (wv (r:=rB true) (Ax Aa hb Aa) (En Aa ha Aa (Aj ?_)))))))));exact Cc (And.intro ha hb)
      ·refine wo hb (wm Aa (wo hb (wm Aa (wo hb (wv (B3 (enc:=Ac) (ys:=v) BK BU Aa Aa hk) (wo hb (wv (BG BA Aa Ct Aa Aa) (wo hb (wv (Bo Dm Aa Aa) (wo hb (wv (Cv Aa Aa) (wo ha (Ea Aa hb Aa (En Aa ha Aa (Aj ?_)))))))))))))));exact Cc (And.intro ha hb)
     ·refine wf ha (wf ha (wf ha (wf ha (wf ha (wf ha (wf ha (wu (wu (wu (wu (wu (wu (wf ha (wv (r:=rB false) (A7 Aa ha Aa) (Aj ?_)))))))))))))));exact Cc ha
    refine cz hx Aa (λhy hz=>?_) (λhy h0=>?_)
    ·refine Af (wa Aa (Ao (As (A3 (Ad (Ad (Bc ?_)))))));have h1:=Bz hz hj hn;refine A3 (Ad ?_);obtain rfl:=At h1;exact Ar (BY Uc (AB Aa)) sN ⟨Aa,Aa⟩
    ·refine Ap (AF (AJ (Ah (wm Aa (ck h0 λh3 h4=>wv (Bh Aa Aa h3) (wa Aa (Aj ?_)))))));have h7:=Bg h4 hj;exact Au (AD (hs,he+1,()) ⟨h7,Abo _⟩ (AM.c Aa (AM.c Aa AM.nil)) sN)
   ·refine BB (A2 ?_);have h8:=Cb hw hj hn;exact A2 (Bn (AD ((),()) h8 (AM.c Aa AM.nil) sN))
  ·rintro⟨⟨⟩,⟨⟩⟩ hg;refine C4 (l':=[(0,AX 4 (A1 Ac v))]) (H':=[]) Aa Aa ?_;replace hg:IL F v =some r:=hg;unfold IL at hg;refine Bi (AJ (Ai (ck hg λh9 hA=>AG [(0,AX 4 (A1 Ac v)),(43,rB ((decide (200<(v.length:Int)))||(decide (8<(ov (Dr F v 0))))))] [] ?_ ?_)))
   ·refine Ah (wm Aa (wv (Bv (ys:=v) (enc:=Ac) BK Aa) (wv (Cv Aa Aa) (wm Aa (AO (decide (200<(v.length:Int))) (λhd=>?_) (λhd=>?_))))))
    ·refine wf hd (wf hd (wf hd (wv (r:=rB true) (Ax Aa hd Aa) (Aj ?_))));exact Cc hd
    ·refine wo hd (wm Aa (wo hd (Cn Tryz.call84 (U3 F v 0 (ov (Dr F v 0)) (GQ (Dw h9 hd))) Aa (wo hd (wv (Cv Aa Aa) (Ea Aa hd Aa (Aj ?_)))))));exact Cc hd
   refine cz hA Aa (λhB hC=>?_) (λhB hD=>?_)
   ·refine Af (wa Aa (Ao (As (Ad ?_))));obtain rfl:=At hC;exact Ar (BY Uc (AB Aa)) sN ⟨Aa,Aa⟩
   ·refine Ap (AJ (Ai (Af (wa Aa (Ao (AL (ob hD λhE hG ho=>B4 (S:=Nat×(Int)×(Unit)) (V:=(Unit)×(Unit)) 2 (λσ=>Ca (λσ=>EE v σ) σ.1 σ.2.1=some hE) (λσ=>[(0,AX 4 (A1 Ac v)),(4,Ak σ.2.1)]) (λσ=>[]) (λσ=>σ.1) (F,0,()) hG (AM.c Aa (AM.c Aa AM.nil)) sN (λσ=>IK F v =some r) (λσ=>[(0,AX 4 (A1 Ac v))]) (λσ=>[]) ?_ ?_)))))))
    ·rintro⟨gf,hl,⟨⟩⟩ hH;refine Cd (l':=[(0,AX 4 (A1 Ac v)),(4,Ak hl)]) (H':=[]) Aa Aa ?_;obtain⟨hI,rfl,hJ,hh,hm⟩:=Cz hH;replace hh:EE v hl=some hJ:=hh;unfold EE at hh;refine Ai (Af (wm Aa (wm Aa (wv (Bv (ys:=v) (enc:=Ac) BK Aa) (wv (Ch Aa Aa) (Ao (cz hh Aa (λhK hL=>?_) (λhK hN=>?_))))))))
     ·refine Ap (AJ (Ai (AL (Af (wm Aa (wm Aa (ck hL λhO hP=>wv (B3 (enc:=Ac) (ys:=v) BK BU Aa Aa hO) (wv (BG BA Aa CG Aa Aa) (wv (Bo CV Aa Aa) (wv (Bm BZ Aa) (wv (Cv Aa Aa) (Ao (cz hP Aa (λhQ hR=>?_) (λhQ hS=>?_))))))))))))))
      ·refine Af (wa Aa (Ao (As (A3 (Ad (Ad (Bc ?_)))))));have hT:=Bz hR hm ho;refine A3 (Ad ?_);obtain rfl:=At hT;exact Ar (BY Uc (AB Aa)) sN ⟨Aa,Aa⟩
      ·refine Ap (AF (AJ (Ah (wm Aa (ck hS λhU hV=>wv (Bh Aa Aa hU) (wa Aa (Aj ?_)))))));have hW:=Bg hV hm;exact Au (AD (hI,hl+1,()) ⟨hW,Abo _⟩ (AM.c Aa (AM.c Aa AM.nil)) sN)
     ·refine BB (A2 ?_);have hX:=Cb hN hm ho;exact A2 (Bn (AD ((),()) hX (AM.c Aa AM.nil) sN))
    ·rintro⟨⟨⟩,⟨⟩⟩ hi;refine C4 (l':=[(0,AX 4 (A1 Ac v))]) (H':=[]) Aa Aa ?_;replace hi:IK F v =some r:=hi;unfold IK at hi;refine Bi (AJ (Ai (Af (wm Aa (ob hi λhY hZ ga=>Cn Ue (To F v 0 hY hZ) Aa (wv (Bm BZ Aa) (wv (Cv Aa Aa) (Ao (cz ga Aa (λgb gc=>?_) (λgb gd=>?_))))))))))
     ·refine Af (wa Aa (Ao (As (Ad ?_))));obtain rfl:=At gc;exact Ar (BY Uc (AB Aa)) sN ⟨Aa,Aa⟩
     ·refine Ap (AJ (Af (wa Aa (Ao (As ?_)))));obtain rfl:=At gd;exact Ar (BY Uc (AB Aa)) sN ⟨Aa,Aa⟩
theorem U6 (F:Nat)(v:(List Ab))(r:Ae×Int)(h:L0 F v=some r):Fn Tryz.prog GE 64 [AX 4 (A1 Ac v)] [] (λR H=>R=Cs [rS r.1,Ak r.2]∧H=[]):=by
 refine enter (n:=12) Tryz.func64 Aa Tryz.ntmps64 Aa (λw Z=>?_);unfold L0 at h;refine Af (wv (r:=rS ([]:Ae)) (Av Aa) (wa Aa (Bs (wm Aa (ob h λr1 e3 h2=>Cn Tryz.call48 (NM F v r1 e3) Aa (wa Aa (Ao (Ai (Af (wm Aa (wv (CR Aa Aa) (Ao (cz h2 Aa (λc4 h5=>?_) (λc4 h6=>?_))))))))))))))
 ·refine Af (wm Aa (wv (r:=rS ([]:Ae)) (Av Aa) (wa Aa (Ao (As (Ad ?_))))));obtain rfl:=At h5;exact Ar (CS Tryz.results64 (AB Aa) (AB Aa)) sN ⟨Aa,Aa⟩
 ·refine Ap (AJ (Af (wm Aa (ob h6 λr7 e9 h8=>Cn Ue (To F v 0 r7 e9) Aa (wa Aa (wa Aa (Ao (As ?_))))))));obtain rfl:=At h8;exact Ar (CS Tryz.results64 (AB Aa) (AB Aa)) sN ⟨Aa,Aa⟩
end Go.Proofs.YtogdediiodmnbaaGreatDoor.Q
namespace Go.Proofs.YtogdediiodmnbaaGreatDoor
open Go
set_option linter.unusedVariables false
structure AH where
 fPairs:Bool
 fLeft:Int
 fKey:Bool
 fLast:Ae
 fStarted:Bool
 deriving DecidableEq,Inhabited
structure AT where
 fDepth:Int
 fBytes:Int
 fOutside:Bool
 fLong:Bool
 deriving DecidableEq,Inhabited
def BQ (n:Int):Option (Bool):=
 some ((decide ((-1000000000000)≤n))&&(decide (n≤1000000000000)))
def I8 (s:Ae)(ha:Int):Option (Stp (Int) (Out (Bool) (Unit))):=
 Bl (decide (ha<(s.length:Int))) (AY (Cp ha (s.length:Int))<|Bl (((decide ((Be s ha)<32))||(decide (126<(Be s ha))))) (some (.out (.ret false))) (AY (B2 .i64 (ha+1))<|some (.next (ha+1)))) (some (.out (.go ())))
def I7 :Option (Bool):=
 some true
def Lk (F:Nat)(s:Ae):Option (Bool):=
 B0 (Ca (λσ=>I8 s σ) F 0) (BT λν=>I7 )
def Kb (s:Ae):Option (Int):=
 AY (B2 .i64 ((s.length:Int)+2))<|AY (B2 .i64 (((s.length:Int)+2)+(Lib.countByte s 34:Int)))<|AY (B2 .i64 ((((s.length:Int)+2)+(Lib.countByte s 34:Int))+(Lib.countByte s 92:Int)))<|some ((((s.length:Int)+2)+(Lib.countByte s 34:Int))+(Lib.countByte s 92:Int))
def NC (F:Nat)(c:Ab):Option (Bool):=
 Bl (decide (c.fKind=1)) (some ((decide (c.fInt=0))&&((decide (c.fStr=([]:Ae)))&&(decide (c.fN=0))))) (Bl (decide (c.fKind=2)) (some (bif decide (c.fInt=0) then((decide (c.fStr=([]:Ae)))&&(decide (c.fN=0))) else((decide (c.fInt=1))&&((decide (c.fStr=([]:Ae)))&&(decide (c.fN=0)))))) (Bl (decide (c.fKind=3)) (some ((decide (c.fStr=([]:Ae)))&&(decide (c.fN=0)))) (Bl (decide (c.fKind=4)) (AY (imp (decide (c.fInt=0)) (imp (decide (c.fN=0)) ((Lk F c.fStr).isSome)))<|some ((decide (c.fInt=0))&&((decide (c.fN=0))&&(ov (Lk F c.fStr))))) (Bl (decide (c.fKind=5)) (some ((decide (c.fInt=0))&&((decide (c.fStr=([]:Ae)))&&(decide (0≤c.fN))))) (Bl (decide (c.fKind=6)) (some ((decide (c.fInt=0))&&((decide (c.fStr=([]:Ae)))&&(decide (0≤c.fN))))) (some false))))))
def QC (c:Ab):Option (Int):=
 Bl (decide (c.fKind=1)) (some 4) (Bl (decide (c.fKind=2)) (some (IntKind.wrap .i64 (5-c.fInt))) (Bl (decide (c.fKind=3)) (AY (B2 .i64 c.fInt)<|some ((Lib.itoa c.fInt).length:Int)) (Bl (decide (c.fKind=4)) (B0 (Kb c.fStr) λha=>some ha) (some (IntKind.wrap .i64 (2+(max 0 (IntKind.wrap .i64 (c.fN-1)))))))))
def Ew (ha:(List AH)):Option (Stp ((List AH)) (Out ((List AH)) ((List AH)))):=
 Bl (decide (0<(ha.length:Int))) (AY (B2 .i64 ((ha.length:Int)-1))<|AY (Cp ((ha.length:Int)-1) (ha.length:Int))<|AY (B2 .i64 (((Am ha ((ha.length:Int)-1)).fLeft)-1))<|Lc (List.set ha (Int.toNat ((ha.length:Int)-1)) (AH.mk ((Am ha ((ha.length:Int)-1)).fPairs) (((Am ha ((ha.length:Int)-1)).fLeft)-1) ((Am ha ((ha.length:Int)-1)).fKey) ((Am ha ((ha.length:Int)-1)).fLast) ((Am ha ((ha.length:Int)-1)).fStarted))) λhb=>Bl (decide (0<((Am hb ((ha.length:Int)-1)).fLeft))) (Lc (List.set hb (Int.toNat ((ha.length:Int)-1)) (AH.mk ((Am hb ((ha.length:Int)-1)).fPairs) ((Am hb ((ha.length:Int)-1)).fLeft) ((Am hb ((ha.length:Int)-1)).fPairs) ((Am hb ((ha.length:Int)-1)).fLast) ((Am hb ((ha.length:Int)-1)).fStarted))) λhd=>some (.out (.ret hd))) (AY (B2 .i64 ((hb.length:Int)-1))<|AY (HX ((hb.length:Int)-1) (hb.length:Int))<|some (.next (List.take (Int.toNat ((hb.length:Int)-1)) hb)))) (some (.out (.go ha)))
def EZ (ha:(List AH)):Option ((List AH)):=
 some ha
def Lp (F:Nat)(stack:(List AH)):Option ((List AH)):=
 B0 (Ca (λσ=>Ew σ) F stack) (BT λν=>EZ ν)
def EN (ha:Int)(hb:(List AH))(hd:AT):Option (Stp ((List AH)×Int×AT) (Out (Int×AT×Bool) (AT))):=
 AY (B2 .i64 (ha+1))<|some (.next (hb,ha+1,hd))
def Ev (F:Nat)(v:(List Ab))(ha:(List AH))(hb:Int)(hd:AT):Option (Stp ((List AH)×Int×AT) (Out (Int×AT×Bool) (AT))):=
 Bl (decide (hb<(v.length:Int))) (AY (Cp hb (v.length:Int))<|B0 (NC F (Am v hb)) λhj=>Bl (!hj) (some (.out (.ret (0,hd,false)))) (AY (imp (decide (0<(ha.length:Int))) (B2 .i64 ((ha.length:Int)-1)))<|AY (imp (decide (0<(ha.length:Int))) (Cp ((ha.length:Int)-1) (ha.length:Int)))<|Bl (((decide (0<(ha.length:Int)))&&((Am ha ((ha.length:Int)-1)).fKey))) (AY (B2 .i64 ((ha.length:Int)-1))<|AY (Cp ((ha.length:Int)-1) (ha.length:Int))<|Bl (((!decide (((Am v hb).fKind)=4))||(((Am ha ((ha.length:Int)-1)).fStarted)&&(CW ((Am v hb).fStr) ((Am ha ((ha.length:Int)-1)).fLast)||decide (((Am v hb).fStr)=((Am ha ((ha.length:Int)-1)).fLast)))))) (some (.out (.ret (0,hd,false)))) (Lc (List.set ha (Int.toNat ((ha.length:Int)-1)) (AH.mk ((Am ha ((ha.length:Int)-1)).fPairs) ((Am ha ((ha.length:Int)-1)).fLeft) ((Am ha ((ha.length:Int)-1)).fKey) ((Am v hb).fStr) ((Am ha ((ha.length:Int)-1)).fStarted))) λhe=>Lc (List.set he (Int.toNat ((ha.length:Int)-1)) (AH.mk ((Am he ((ha.length:Int)-1)).fPairs) ((Am he ((ha.length:Int)-1)).fLeft) ((Am he ((ha.length:Int)-1)).fKey) ((Am he ((ha.length:Int)-1)).fLast) true)) λhf=>Lc (List.set hf (Int.toNat ((ha.length:Int)-1)) (AH.mk ((Am hf ((ha.length:Int)-1)).fPairs) ((Am hf ((ha.length:Int)-1)).fLeft) false ((Am hf ((ha.length:Int)-1)).fLast) ((Am hf ((ha.length:Int)-1)).fStarted))) λhk=>B0 (Kb ((Am v hb).fStr)) λhh=>AY (B2 .i64 (hh+1))<|EN hb hk (AT.mk hd.fDepth (IntKind.wrap .i64 (hd.fBytes+(hh+1))) hd.fOutside (hd.fLong||(decide (200<(((Am v hb).fStr).length:Int))))))) (AY (B2 .i64 ((ha.length:Int)+1))<|B0 (QC (Am v hb)) λhg=>AY (imp (!hd.fOutside) (imp (decide (((Am v hb).fKind)=3)) ((BQ ((Am v hb).fInt)).isSome)))<|Bl (decide (0<((Am v hb).fN))) (Bl (decide ((v.length:Int)<((Am v hb).fN))) (some (.out (.ret (0,(AT.mk (max hd.fDepth ((ha.length:Int)+1)) (IntKind.wrap .i64 (hd.fBytes+hg)) (hd.fOutside||((decide (((Am v hb).fKind)=3))&&(!(ov (BQ ((Am v hb).fInt)))))) (hd.fLong||(decide (200<(((Am v hb).fStr).length:Int))))),false)))) (AY (Dz 48 (ha.length+([(AH.mk (decide (((Am v hb).fKind)=6)) ((Am v hb).fN) (decide (((Am v hb).fKind)=6)) ([]:Ae) false)]:List AH).length))<|EN hb (ha++([(AH.mk (decide (((Am v hb).fKind)=6)) ((Am v hb).fN) (decide (((Am v hb).fKind)=6)) ([]:Ae) false)]:List AH)) (AT.mk (max hd.fDepth ((ha.length:Int)+1)) (IntKind.wrap .i64 (hd.fBytes+hg)) (hd.fOutside||((decide (((Am v hb).fKind)=3))&&(!(ov (BQ ((Am v hb).fInt)))))) (hd.fLong||(decide (200<(((Am v hb).fStr).length:Int))))))) (B0 (Lp F ha) λhi=>Bl (decide ((hi.length:Int)=0)) (AY (B2 .i64 (hb+1))<|some (.out (.ret (hb+1,(AT.mk (max hd.fDepth ((ha.length:Int)+1)) (IntKind.wrap .i64 (hd.fBytes+hg)) (hd.fOutside||((decide (((Am v hb).fKind)=3))&&(!(ov (BQ ((Am v hb).fInt)))))) (hd.fLong||(decide (200<(((Am v hb).fStr).length:Int))))),true)))) (EN hb hi (AT.mk (max hd.fDepth ((ha.length:Int)+1)) (IntKind.wrap .i64 (hd.fBytes+hg)) (hd.fOutside||((decide (((Am v hb).fKind)=3))&&(!(ov (BQ ((Am v hb).fInt)))))) (hd.fLong||(decide (200<(((Am v hb).fStr).length:Int)))))))))) (some (.out (.go hd)))
def Lm (ha:AT):Option (Int×AT×Bool):=
 some (0,ha,false)
def Jw (F:Nat)(v:(List Ab)):Option (Int×AT×Bool):=
 B0 (Ca (λσ=>Ev F v σ.1 σ.2.1 σ.2.2) F (([]:List AH),0,(AT.mk 0 0 false false))) (BT λν=>Lm ν)
def JA (F:Nat)(v:(List Ab)):Option (Int):=
 B0 (Jw F v) λr1=>Bl (((!r1.2.2)||(!decide (r1.1=(v.length:Int))))) (some 1) (Bl (r1.2.1.fOutside) (some 2) (Bl ((r1.2.1.fLong||((decide (200<(v.length:Int)))||((decide (8<r1.2.1.fDepth))||(decide (4000<r1.2.1.fBytes)))))) (some 3) (some 0)))
def Lq (F:Nat)(v:(List Ab)):Option ((List Ab)×Int):=
 B0 (JA F v) λr1=>Bl (!decide (r1=0)) (some (([]:List Ab),r1)) (some (v,0))
def QH :Option ((List Ab)):=
 some ([(Ab.mk 1 0 ([]:Ae) 0)]:List Ab)
def Tj (b:Bool):Option ((List Ab)):=
 Bl (b) (some ([(Ab.mk 2 1 ([]:Ae) 0)]:List Ab)) (some ([(Ab.mk 2 0 ([]:Ae) 0)]:List Ab))
end Go.Proofs.YtogdediiodmnbaaGreatDoor
namespace Go.Proofs.YtogdediiodmnbaaGreatDoor.Q
open Go Go.RowKit
set_option linter.unusedVariables false
set_option linter.unusedSimpArgs false
set_option maxRecDepth 100000
set_option maxHeartbeats 4000000
@[reducible] def AE (x:AH):List Rp:=[rB x.fPairs,Ak x.fLeft,rB x.fKey,rS x.fLast,rB x.fStarted]
theorem J0 (x:AH):(AE x).length=5:=rfl
theorem Ng (x:AH):(AE x).all (·.one)=true:=rfl
@[reducible] def Bd (x:AT):List Rp:=[Ak x.fDepth,Ak x.fBytes,rB x.fOutside,rB x.fLong]
theorem Y5:∃inf,Tryz.prog.info? 151=some inf∧inf.zero=some (.agg #[(.bool false),(.int .i64 0),(.bool false),(.string ⟨#[]⟩),(.bool false)])∧inf.size=5∧inf.bytes=48:=by
  have key:(Tryz.prog.info? 151).map (λi=>(i.zero,i.size,i.bytes))=some (some (.agg #[(.bool false),(.int .i64 0),(.bool false),(.string ⟨#[]⟩),(.bool false)]),5,48):=by kernel_rfl
  obtain⟨inf,h1,h2⟩:=Option.map_eq_some_iff.1 key;simp only[Prod.mk.injEq] at h2;exact⟨inf,h1,h2.1,h2.2.1,h2.2.2⟩
theorem Qh (parts:List (Nat×Value)):Tryz.prog.built 63 parts=Instr.fill (λi=>(#[(0,1),(1,1),(2,1),(3,1)]:Array (Nat×Nat))[i]?) #[(.int .i64 0),(.int .i64 0),(.string ⟨#[]⟩),(.int .i64 0)] parts:=by kernel_rfl
theorem D5 {n:Nat}{c:Cx}{l:Fr}{H:List Ent}{d:Option Nat}{ty:TypeId}{pos:String}{af:Array Edge}{g:Option (Nat×Bool)}{x0:Operand}{r0:Rp}(h0:ev l x0=some r0)(u0:r0.one=true):B1 Tryz.prog n c l H { dst:=d,op:=.build 63 #[(0,x0)],type:=ty,pos:=pos,after:=af,guard:=g } (Bq [r0,Ak 0,rS ([]:Ae),Ak 0]):=λa w Z ha _=>by
  have p0:=ha.ev h0;have c0:=BM (r0.hone u0 Z _ p0);have hb:Tryz.prog.built 63 [(0,a.eval x0)]=some #[a.eval x0,(.int .i64 0),(.string ⟨#[]⟩),(.int .i64 0)]:=by
    rw[Qh];generalize a.eval x0=v0 at *;simp[Instr.fill,c0]
  refine⟨.agg #[a.eval x0,(.int .i64 0),(.string ⟨#[]⟩),(.int .i64 0)],⟨[a.eval x0,(.int .i64 0),(.string ⟨#[]⟩),(.int .i64 0)],rfl,p0,rfl,rfl,rfl,trivial⟩,?_⟩;have:=run_build w 63 #[(0,a.eval x0)] _ (by simpa using hb);simp[execOp,this]
theorem X2 (parts:List (Nat×Value)):Tryz.prog.built 151 parts=Instr.fill (λi=>(#[(0,1),(1,1),(2,1),(3,1),(4,1)]:Array (Nat×Nat))[i]?) #[(.bool false),(.int .i64 0),(.bool false),(.string ⟨#[]⟩),(.bool false)] parts:=by kernel_rfl
theorem Mo {n:Nat}{c:Cx}{l:Fr}{H:List Ent}{d:Option Nat}{ty:TypeId}{pos:String}{af:Array Edge}{g:Option (Nat×Bool)}{x0:Operand}{r0:Rp}(h0:ev l x0=some r0)(u0:r0.one=true){x1:Operand}{r1:Rp}(h1:ev l x1=some r1)(u1:r1.one=true){x2:Operand}{r2:Rp}(h2:ev l x2=some r2)(u2:r2.one=true):B1 Tryz.prog n c l H { dst:=d,op:=.build 151 #[(0,x0),(1,x1),(2,x2)],type:=ty,pos:=pos,after:=af,guard:=g } (Bq [r0,r1,r2,rS ([]:Ae),rB false]):=λa w Z ha _=>by
  have p0:=ha.ev h0;have c0:=BM (r0.hone u0 Z _ p0);have p1:=ha.ev h1;have c1:=BM (r1.hone u1 Z _ p1);have p2:=ha.ev h2;have c2:=BM (r2.hone u2 Z _ p2);have hb:Tryz.prog.built 151 [(0,a.eval x0),(1,a.eval x1),(2,a.eval x2)]=some #[a.eval x0,a.eval x1,a.eval x2,(.string ⟨#[]⟩),(.bool false)]:=by
    rw[X2];generalize a.eval x0=v0 at *;generalize a.eval x1=v1 at *;generalize a.eval x2=v2 at *;simp[Instr.fill,c0,c1,c2]
  refine⟨.agg #[a.eval x0,a.eval x1,a.eval x2,(.string ⟨#[]⟩),(.bool false)],⟨[a.eval x0,a.eval x1,a.eval x2,(.string ⟨#[]⟩),(.bool false)],rfl,p0,p1,p2,rfl,rfl,trivial⟩,?_⟩;have:=run_build w 151 #[(0,a.eval x0),(1,a.eval x1),(2,a.eval x2)] _ (by simpa using hb);simp[execOp,this]
theorem NY (n:Int)(r:Bool)(h:BQ n=some r):Fn Tryz.prog GE 98 [Ak n] [] (λR H=>R=rB r∧H=[]):=by
 refine enter (n:=9) Tryz.func98 Aa Tryz.ntmps98 Aa (λw Z=>?_);unfold BQ at h;refine Af (wa Aa (Ao (AG [(2,rB ((decide ((-1000000000000)≤n))&&(decide (n≤1000000000000))))] [] ?_ ?_)))
 ·refine Ah (wm Aa (wv (K6 Aa Aa) (wm Aa (AO (decide ((-1000000000000)≤n)) (λc1=>?_) (λc1=>?_)))))
  ·refine wo c1 (wm Aa (wo c1 (wv (K6 Aa Aa) (En Aa c1 Aa (wa Aa (Aj ?_))))));exact Cc c1
  ·refine wf c1 (wf c1 (wv (r:=rB false) (A7 Aa c1 Aa) (wa Aa (Aj ?_))));exact Cc c1
 refine As ?_;obtain rfl:=At h;exact Ar (BY Tryz.results98 (AB Aa)) sN ⟨Aa,Aa⟩
theorem XX (F:Nat)(s:Ae)(r:Bool)(h:Lk F s=some r):Fn Tryz.prog GE 133 [rS s] [] (λR H=>R=rB r∧H=[]):=by
 refine enter (n:=20) Tryz.func133 Aa Tryz.ntmps133 Aa (λw Z=>?_);unfold Lk at h;refine Af (wa Aa (Ao (Ai (Af (wm Aa (wv (Bm BZ Aa) (wv (r:=Ak 0) (Aq Aa) (Ao (AL (ob h λhi hj hg=>B4 (S:=Nat×(Int)×(Unit)) (V:=(Unit)×(Unit)) 0 (λσ=>Ca (λσ=>I8 s σ) σ.1 σ.2.1=some hi) (λσ=>[(0,rS s),(5,Ak (s.length:Int)),(6,Ak σ.2.1)]) (λσ=>[]) (λσ=>σ.1) (F,0,()) hj (AM.c Aa (AM.c Aa (AM.c Aa AM.nil))) sN (λσ=>I7 =some r) (λσ=>[]) (λσ=>[]) ?_ ?_))))))))))
 ·rintro⟨hz,hb,⟨⟩⟩ hk;refine Cd (l':=[(0,rS s),(5,Ak (s.length:Int)),(6,Ak hb)]) (H':=[]) Aa Aa ?_;obtain⟨hl,rfl,t37,hd,hf⟩:=Cz hk;replace hd:I8 s hb=some t37:=hd;unfold I8 at hd;refine Af (wv (Ch Aa Aa) (Ao (Ai (cz hd Aa (λhm hn=>?_) (λhm ho=>?_)))))
  ·refine Ap (AJ (Ai (AL (Af (wm Aa (wa Aa (Ao (ck hn λhh hp=>AG [(0,rS s),(5,Ak (s.length:Int)),(6,Ak hb),(18,rB ((decide ((Be s hb)<32))||(decide (126<(Be s hb)))))] [] ?_ ?_))))))))
   ·refine Ah (wm Aa (wm Aa (wv (Bb BZ Aa Aa hh) (wv (Ch Aa Aa) (wm Aa (AO (decide ((Be s hb)<32)) (λha=>?_) (λha=>?_)))))))
    ·refine wf ha (wf ha (wf ha (wf ha (wv (r:=rB true) (Ax Aa ha Aa) (Aj ?_)))));exact Cc ha
    ·refine wo ha (wm Aa (wo ha (wm Aa (wo ha (wv (Bb BZ Aa Aa hh) (wo ha (wv (Cv Aa Aa) (Ea Aa ha Aa (Aj ?_)))))))));exact Cc ha
   refine cz hp Aa (λhq hr=>?_) (λhq hs=>?_)
   ·refine Af (wa Aa (Ao (As (A3 (Ad (Ad (Bc ?_)))))));have ht:=Bz hr hf hg;refine A3 (Ad ?_);obtain rfl:=At ht;exact Ar (BY Tryz.results133 (AB Aa)) sN ⟨Aa,Aa⟩
   ·refine Ap (AF (AJ (Ah (ck hs λhu hw=>wv (Bh Aa Aa hu) (wm Aa (Aj ?_))))));have hx:=Bg hw hf;exact Au (AD (hl,hb+1,()) ⟨hx,Abo _⟩ (AM.c Aa (AM.c Aa (AM.c Aa AM.nil))) sN)
  ·refine BB (A2 ?_);have hy:=Cb ho hf hg;exact A2 (Bn (AD ((),()) hy AM.nil sN))
 ·rintro⟨⟨⟩,⟨⟩⟩ he;refine C4 (l':=[]) (H':=[]) Aa Aa ?_;replace he:I7 =some r:=he;unfold I7 at he;refine Bi (AJ (Af (wa Aa (Ao (As ?_)))));obtain rfl:=At he;exact Ar (BY Tryz.results133 (AB Aa)) sN ⟨Aa,Aa⟩
theorem OS (s:Ae)(r:Int)(h:Kb s=some r):Fn Tryz.prog GE 106 [rS s] [] (λR H=>R=Ak r∧H=[]):=by
 refine enter (n:=12) Tryz.func106 Aa Tryz.ntmps106 Aa (λw Z=>?_);unfold Kb at h;refine Af (wa Aa (Bs (wm Aa (wv (Bm BZ Aa) (ck h λg1 h2=>wv (Bh Aa Aa g1) (wm Aa (Hh (rs:=[rS s,rS ([34]:Ae)]) (r:=Ak (Lib.countByte s 34:Int)) Tryz.call134 Aa (TR s 34) Aa Aa (ck h2 λg3 h4=>wv (Bh Aa Aa g3) (wm Aa (Hh (rs:=[rS s,rS ([92]:Ae)]) (r:=Ak (Lib.countByte s 92:Int)) Tryz.call134 Aa (TR s 92) Aa Aa (ck h4 λg5 h6=>wv (Bh Aa Aa g5) (wa Aa (Ao (As ?_))))))))))))));obtain rfl:=At h6;exact Ar (BY Tryz.results106 (AB Aa)) sN ⟨Aa,Aa⟩
theorem VJ (F:Nat)(c:Ab)(r:Bool)(h:NC F c=some r):Fn Tryz.prog GE 105 [Bq (Ac c)] [] (λR H=>R=rB r∧H=[]):=by
 refine enter (n:=81) Tryz.func105 Aa Tryz.ntmps105 Aa (λw Z=>?_);unfold NC at h;refine Af (Ci Aa Aa (λb1=>?_));refine wa Aa (Ao (Ai (Af (vF BA Aa DQ (vL 0 Eh Aa (Ao (AL (Af (wv (BE Aa Aa) (wa Aa (Ao (cz h Aa (λc2 h3=>?_) (λc2 h6=>?_)))))))))))))
 ·refine AG [(2,rB ((decide (c.fInt=0))&&((decide (c.fStr=([]:Ae)))&&(decide (c.fN=0)))))] [] ?_ ?_
  ·refine Ah (vF BA Aa Ct (vL 0 Dm Aa (wv (BE Aa Aa) (wm Aa (AO (decide (c.fInt=0)) (λc4=>?_) (λc4=>?_))))))
   ·refine wo c4 (vF BA Aa CG (wo c4 (vL 0 CV Aa (wo c4 (wv (DN Aa Aa) (En Aa c4 Aa (wm Aa (AO (decide (c.fStr=([]:Ae))) (λc5=>?_) (λc5=>?_)))))))))
    ·refine wo c5 (vF BA Aa Ct (wo c5 (vL 0 Dm Aa (wo c5 (wv (BE Aa Aa) (En Aa c5 Aa (wa Aa (Aj ?_))))))));exact Cc (And.intro c4 c5)
    ·refine wf c5 (wf c5 (wf c5 (wv (r:=rB false) (A7 Aa c5 Aa) (wa Aa (Aj ?_)))));exact Cc (And.intro c4 c5)
   ·refine wf c4 (wf c4 (wf c4 (wv (r:=rB false) (A7 Aa c4 Aa) (wm Aa (wz Aa Aa (wz Aa Aa (wz Aa Aa (wv (r:=rB false) (A7 (b:=false) Aa Aa Aa) (wa Aa (Aj ?_))))))))));exact Cc c4
  refine As (A3 (Ad ?_));obtain rfl:=At h3;exact Ar (BY N4 (AB Aa)) sN ⟨Aa,Aa⟩
 ·refine Af (wv (BE Aa Aa) (wa Aa (Ao (cz h6 Aa (λc7 h8=>?_) (λc7 hm=>?_)))))
  ·refine AG [(2,rB (bif decide (c.fInt=0) then((decide (c.fStr=([]:Ae)))&&(decide (c.fN=0))) else((decide (c.fInt=1))&&((decide (c.fStr=([]:Ae)))&&(decide (c.fN=0))))))] [] ?_ ?_
   ·refine Ah (vF BA Aa Ct (vL 0 Dm Aa (wv (BE Aa Aa) (wm Aa (AO (decide (c.fInt=0)) (λc9=>?_) (λc9=>?_))))))
    ·refine wf c9 (wf c9 (wf c9 (wv (r:=rB true) (Ax Aa c9 Aa) (wm Aa (Bp (b:=true) Aa Aa Aa (vF BA Aa CG (Bp (b:=true) Aa Aa Aa (vL 0 CV Aa (Bp (b:=true) Aa Aa Aa (wv (DN Aa Aa) (wv (r:=rB (decide (c.fStr=([]:Ae)))) (Ax (b:=true) Aa Aa Aa) (wm Aa (AO (decide (c.fStr=([]:Ae))) (λhg=>?_) (λhg=>?_))))))))))))))
     ·refine wo hg (vF BA Aa Ct (wo hg (vL 0 Dm Aa (wo hg (wv (BE Aa Aa) (En Aa hg Aa (wa Aa (Aj ?_))))))));exact Cc (And.intro c9 hg)
     ·refine wf hg (wf hg (wf hg (wv (r:=rB false) (A7 Aa hg Aa) (wa Aa (Aj ?_)))));exact Cc (And.intro c9 hg)
    ·refine wo c9 (vF BA Aa Ct (wo c9 (vL 0 Dm Aa (wo c9 (wv (BE Aa Aa) (Ea Aa c9 Aa (wm Aa (AO (decide (c.fInt=1)) (λhb=>?_) (λhb=>?_)))))))))
     ·refine wo hb (vF BA Aa CG (wo hb (vL 0 CV Aa (wo hb (wv (DN Aa Aa) (En Aa hb Aa (wm Aa (AO (decide (c.fStr=([]:Ae))) (λhh=>?_) (λhh=>?_)))))))))
      ·refine wo hh (vF BA Aa Ct (wo hh (vL 0 Dm Aa (wo hh (wv (BE Aa Aa) (En Aa hh Aa (wa Aa (Aj ?_))))))));exact Cc (And.intro c9 (And.intro hb hh))
      ·refine wf hh (wf hh (wf hh (wv (r:=rB false) (A7 Aa hh Aa) (wa Aa (Aj ?_)))));exact Cc (And.intro c9 (And.intro hb hh))
     ·refine wf hb (wf hb (wf hb (wv (r:=rB false) (A7 Aa hb Aa) (wm Aa (wz Aa Aa (wz Aa Aa (wz Aa Aa (wv (r:=rB false) (A7 (b:=false) Aa Aa Aa) (wa Aa (Aj ?_))))))))));exact Cc (And.intro c9 hb)
   refine As (A3 (Ad ?_));obtain rfl:=At h8;exact Ar (BY N4 (AB Aa)) sN ⟨Aa,Aa⟩
  ·refine Af (wv (BE Aa Aa) (wa Aa (Ao (cz hm Aa (λhn ho=>?_) (λhn hp=>?_)))))
   ·refine AG [(2,rB ((decide (c.fStr=([]:Ae)))&&(decide (c.fN=0))))] [] ?_ ?_
    ·refine Ah (vF BA Aa CG (vL 0 CV Aa (wv (DN Aa Aa) (wm Aa (AO (decide (c.fStr=([]:Ae))) (λhi=>?_) (λhi=>?_))))))
     ·refine wo hi (vF BA Aa Ct (wo hi (vL 0 Dm Aa (wo hi (wv (BE Aa Aa) (En Aa hi Aa (wa Aa (Aj ?_))))))));exact Cc hi
     ·refine wf hi (wf hi (wf hi (wv (r:=rB false) (A7 Aa hi Aa) (wa Aa (Aj ?_)))));exact Cc hi
    refine As (A3 (Ad ?_));obtain rfl:=At ho;exact Ar (BY N4 (AB Aa)) sN ⟨Aa,Aa⟩
   ·refine Af (wv (BE Aa Aa) (wa Aa (Ao (cz hp Aa (λhq hr=>?_) (λhq hs=>?_)))))
    ·refine ck hr λht hu=>AG [(2,rB ((decide (c.fInt=0))&&((decide (c.fN=0))&&(ov (Lk F c.fStr)))))] [] ?_ ?_
     ·refine Ah (vF BA Aa Ct (vL 0 Dm Aa (wv (BE Aa Aa) (wm Aa (AO (decide (c.fInt=0)) (λha=>?_) (λha=>?_))))))
      ·refine wo ha (vF BA Aa Ct (wo ha (vL 0 Dm Aa (wo ha (wv (BE Aa Aa) (En Aa ha Aa (wm Aa (AO (decide (c.fN=0)) (λhd=>?_) (λhd=>?_)))))))))
       ·refine wo hd (vF BA Aa CG (wo hd (vL 0 CV Aa (wo hd (Cn Tryz.call133 (XX F c.fStr (ov (Lk F c.fStr)) (GQ (Cr (Cr ht ha) hd))) Aa (En Aa hd Aa (wa Aa (Aj ?_))))))));exact Cc (And.intro ha hd)
       ·refine wf hd (wf hd (wf hd (wv (r:=rB false) (A7 Aa hd Aa) (wa Aa (Aj ?_)))));exact Cc (And.intro ha hd)
      ·refine wf ha (wf ha (wf ha (wv (r:=rB false) (A7 Aa ha Aa) (wm Aa (wz Aa Aa (wz Aa Aa (wz Aa Aa (wv (r:=rB false) (A7 (b:=false) Aa Aa Aa) (wa Aa (Aj ?_))))))))));exact Cc ha
     refine As (A3 (Ad ?_));obtain rfl:=At hu;exact Ar (BY N4 (AB Aa)) sN ⟨Aa,Aa⟩
    ·refine Ai (Af (wv (BE Aa Aa) (wa Aa (Ao (cz hs Aa (λhl hw=>?_) (λhl hx=>?_))))))
     ·refine Ap (AJ (Ef Aa hl (AG [(2,rB ((decide (c.fInt=0))&&((decide (c.fStr=([]:Ae)))&&(decide (0≤c.fN)))))] [] ?_ ?_)))
      ·refine Ah (vF BA Aa Ct (vL 0 Dm Aa (wv (BE Aa Aa) (wm Aa (AO (decide (c.fInt=0)) (λhe=>?_) (λhe=>?_))))))
       ·refine wo he (vF BA Aa CG (wo he (vL 0 CV Aa (wo he (wv (DN Aa Aa) (En Aa he Aa (wm Aa (AO (decide (c.fStr=([]:Ae))) (λhj=>?_) (λhj=>?_)))))))))
        ·refine wo hj (vF BA Aa Ct (wo hj (vL 0 Dm Aa (wo hj (wv (GR Aa Aa) (En Aa hj Aa (wa Aa (Aj ?_))))))));exact Cc (And.intro he hj)
        ·refine wf hj (wf hj (wf hj (wv (r:=rB false) (A7 Aa hj Aa) (wa Aa (Aj ?_)))));exact Cc (And.intro he hj)
       ·refine wf he (wf he (wf he (wv (r:=rB false) (A7 Aa he Aa) (wm Aa (wz Aa Aa (wz Aa Aa (wz Aa Aa (wv (r:=rB false) (A7 (b:=false) Aa Aa Aa) (wa Aa (Aj ?_))))))))));exact Cc he
      refine As (A3 (Ad ?_));obtain rfl:=At hw;exact Ar (BY N4 (AB Aa)) sN ⟨Aa,Aa⟩
     ·refine Ah (wv (BE Aa Aa) (wa Aa (Ao (cz hx Aa (λhy hz=>?_) (λhy h0=>?_)))))
      ·refine AG [(2,rB ((decide (c.fInt=0))&&((decide (c.fStr=([]:Ae)))&&(decide (0≤c.fN)))))] [] ?_ ?_
       ·refine Ah (vF BA Aa Ct (vL 0 Dm Aa (wv (BE Aa Aa) (wm Aa (AO (decide (c.fInt=0)) (λhf=>?_) (λhf=>?_))))))
        ·refine wo hf (vF BA Aa CG (wo hf (vL 0 CV Aa (wo hf (wv (DN Aa Aa) (En Aa hf Aa (wm Aa (AO (decide (c.fStr=([]:Ae))) (λhk=>?_) (λhk=>?_)))))))))
         ·refine wo hk (vF BA Aa Ct (wo hk (vL 0 Dm Aa (wo hk (wv (GR Aa Aa) (En Aa hk Aa (wa Aa (Aj ?_))))))));exact Cc (And.intro hf hk)
         ·refine wf hk (wf hk (wf hk (wv (r:=rB false) (A7 Aa hk Aa) (wa Aa (Aj ?_)))));exact Cc (And.intro hf hk)
        ·refine wf hf (wf hf (wf hf (wv (r:=rB false) (A7 Aa hf Aa) (wm Aa (wz Aa Aa (wz Aa Aa (wz Aa Aa (wv (r:=rB false) (A7 (b:=false) Aa Aa Aa) (wa Aa (Aj ?_))))))))));exact Cc hf
       refine As (A3 (Ad ?_));obtain rfl:=At hz;exact Ar (BY N4 (AB Aa)) sN ⟨Aa,Aa⟩
      ·refine Ap (AF (AJ (Af (wa Aa (Ao (As ?_))))));obtain rfl:=At h0;exact Ar (BY N4 (AB Aa)) (sS sN) ⟨Aa,Aa⟩
theorem XY (c:Ab)(r:Int)(h:QC c=some r):Fn Tryz.prog GE 107 [Bq (Ac c)] [] (λR H=>R=Ak r∧H=[]):=by
 refine enter (n:=28) Tryz.func107 Aa Tryz.ntmps107 Aa (λw Z=>?_);unfold QC at h;refine Af (Ci Aa Aa (λb1=>?_));refine wa Aa (Ao (Ai (Af (vF BA Aa DQ (vL 0 Eh Aa (Ao (AL (Af (wv (BE Aa Aa) (wa Aa (Ao (cz h Aa (λc2 h3=>?_) (λc2 h4=>?_)))))))))))))
 ·refine Af (wa Aa (Ao (As (A3 (Ad ?_)))));obtain rfl:=At h3;exact Ar (BY Q7 (AB Aa)) (sS sN) ⟨Aa,Aa⟩
 ·refine Af (wv (BE Aa Aa) (wa Aa (Ao (cz h4 Aa (λc5 h6=>?_) (λc5 h7=>?_)))))
  ·refine Af (vF BA Aa Ct (vL 0 Dm Aa (wv (r:=Ak (IntKind.wrap .i64 (5-c.fInt))) (Ws Aa Aa) (wa Aa (Ao (As (A3 (Ad ?_))))))));obtain rfl:=At h6;exact Ar (BY Q7 (AB Aa)) (sS sN) ⟨Aa,Aa⟩
  ·refine Af (wv (BE Aa Aa) (wa Aa (Ao (cz h7 Aa (λc8 h9=>?_) (λc8 ha=>?_)))))
   ·refine Af (vF BA Aa Ct (vL 0 Dm Aa (ck h9 λhb hd=>Hh (rs:=[Ak c.fInt]) (r:=rS (Lib.itoa c.fInt)) Tryz.call60 Aa (On c.fInt hb) Aa Aa (wv (Bm BZ Aa) (wa Aa (Ao (As (A3 (Ad ?_)))))))));obtain rfl:=At hd;exact Ar (BY Q7 (AB Aa)) (sS sN) ⟨Aa,Aa⟩
   ·refine Af (wv (BE Aa Aa) (wa Aa (Ao (cz ha Aa (λhe hf=>?_) (λhe hg=>?_)))))
    ·refine Af (vF BA Aa CG (vL 0 CV Aa (ob hf λhh hi hj=>Cn Tryz.call106 (OS c.fStr hh hi) Aa (wa Aa (Ao (As (A3 (Ad ?_))))))));obtain rfl:=At hj;exact Ar (BY Q7 (AB Aa)) (sS sN) ⟨Aa,Aa⟩
    ·refine Ap (AF (AJ (Af (vF BA Aa Ct (vL 0 Dm Aa (wv (r:=Ak (IntKind.wrap .i64 (c.fN-1))) (Ws Aa Aa) (wv (Zf Qr Aa Aa) (wv (r:=Ak (IntKind.wrap .i64 (2+(max 0 (IntKind.wrap .i64 (c.fN-1)))))) (SC Aa Aa) (wa Aa (Ao (As ?_)))))))))));obtain rfl:=At hg;exact Ar (BY Q7 (AB Aa)) (sS sN) ⟨Aa,Aa⟩
theorem Un (F:Nat)(hi:Value)(stack:(List AH))(r:(List AH))(h:Lp F stack=some r):Fn Tryz.prog GE 108 [rv hi] [.row hi 151 5 (A1 AE stack)] (λR H=>∃u0:Value,R=rv u0∧H=[.row u0 151 5 (A1 AE r)]):=by
 refine enter (n:=38) Tryz.func108 Aa Tryz.ntmps108 Aa (λw Z=>?_);unfold Lp at h;refine Af (wa Aa (Ao (Ai (AL (ob h λhn ho hl=>B4 (S:=Nat×((List AH))×(Value)) (V:=((List AH))×(Value)) 0 (λσ=>Ca (λσ=>Ew σ) σ.1 σ.2.1=some hn) (λσ=>[(0,rv σ.2.2),(2,rv (.slice none 0 0))]) (λσ=>[.row σ.2.2 151 5 (A1 AE σ.2.1)]) (λσ=>σ.1) (F,stack,hi) ho (AM.c Aa (AM.c Aa AM.nil)) (sC sN) (λσ=>EZ σ.1=some r) (λσ=>[(0,rv σ.2),(2,rv (.slice none 0 0))]) (λσ=>[.row σ.2 151 5 (A1 AE σ.1)]) ?_ ?_)))))
 ·rintro⟨hG,ha,hd⟩ hp;refine Cd (l':=[(0,rv hd),(2,rv (.slice none 0 0))]) (H':=[.row hd 151 5 (A1 AE ha)]) Aa Aa ?_;obtain⟨hq,rfl,hr,hg,hj⟩:=Cz hp;replace hg:Ew ha=some hr:=hg;unfold Ew at hg;refine Ai (Af (wm Aa (wv (D4 (ys:=ha) (enc:=AE) (i:=0) Jt Aa Aa) (wv (Cv Aa Aa) (Ao (cz hg Aa (λhs ht=>?_) (λhs hu=>?_)))))))
  ·refine Ap (AJ (AL (Af (wm Aa (wm Aa (wv (D4 (ys:=ha) (enc:=AE) (i:=0) Jt Aa Aa) (ck ht λhw hx=>wv (G6 Aa Aa hw) (ck hx λhe hy=>wv (r:=rv (GL 5 hd (B6 ((ha.length:Int)-1)) 0)) (JH (i:=0) Jt Q3 Aa Aa Aa (Cg he)) (wa Aa (Bs (wm Aa (wv (r:=rv (GL 5 hd (B6 ((ha.length:Int)-1)) 0)) (CF (k:=0) Aa (Cg he) Aa Aa) (wv (r:=rv (GL 5 hd (B6 ((ha.length:Int)-1)) 1)) (Gv (k:=0) Js Aa Ct Aa (Cg he) Aa Aa Aa) (wv (r:=Ak ((Am ha ((ha.length:Int)-1)).fLeft)) (Iy (enc:=AE) (ys:=ha) (i:=0) (j:=(ha.length:Int)-1) Dm Aa Aa he Aa) (ck hy λhz h0=>wv (G6 Aa Aa hz) (wv (r:=rv (GL 5 hd (B6 ((ha.length:Int)-1)) 0)) (CF (k:=0) Aa (Cg he) Aa Aa) (wv (r:=rv (GL 5 hd (B6 ((ha.length:Int)-1)) 1)) (Gv (k:=0) Js Aa Ct Aa (Cg he) Aa Aa Aa) (JB (enc:=AE) (ys:=ha) (y':=(AH.mk ((Am ha ((ha.length:Int)-1)).fPairs) (((Am ha ((ha.length:Int)-1)).fLeft)-1) ((Am ha ((ha.length:Int)-1)).fKey) ((Am ha ((ha.length:Int)-1)).fLast) ((Am ha ((ha.length:Int)-1)).fStarted))) (i:=0) (j:=(ha.length:Int)-1) Ct Aa Aa (Cl Aa) Aa he Aa Aa (H':=[.row hd 151 5 (A1 AE (List.set ha (B6 ((ha.length:Int)-1)) (AH.mk ((Am ha ((ha.length:Int)-1)).fPairs) (((Am ha ((ha.length:Int)-1)).fLeft)-1) ((Am ha ((ha.length:Int)-1)).fKey) ((Am ha ((ha.length:Int)-1)).fLast) ((Am ha ((ha.length:Int)-1)).fStarted))))]) Aa (bd h0 λhb hf h1=>?_)))))))))))))))))));rw[← hf];refine Ao (Ai (Af (wm Aa (wv (r:=rv (GL 5 hd (B6 ((ha.length:Int)-1)) 0)) (CF (k:=0) Aa (Cg (Ds he hf)) Aa Aa) (wv (r:=rv (GL 5 hd (B6 ((ha.length:Int)-1)) 1)) (Gv (k:=0) Js Aa Ct Aa (Cg (Ds he hf)) Aa Aa Aa) (wv (r:=Ak ((Am hb ((ha.length:Int)-1)).fLeft)) (Iy (enc:=AE) (ys:=hb) (i:=0) (j:=(ha.length:Int)-1) Dm Aa Aa (Ds he hf) Aa) (wv (Cv Aa Aa) (Ao (cz h1 Aa (λh2 h3=>?_) (λh2 h4=>?_))))))))))
   ·refine Af (wm Aa (wm Aa (wv (r:=rv (GL 5 hd (B6 ((ha.length:Int)-1)) 0)) (CF (k:=0) Aa (Cg (Ds he hf)) Aa Aa) (wv (r:=rv (GL 5 hd (B6 ((ha.length:Int)-1)) 0)) (Gv (k:=0) Js Aa IZ Aa (Cg (Ds he hf)) Aa Aa Aa) (wv (r:=rB ((Am hb ((ha.length:Int)-1)).fPairs)) (Iy (enc:=AE) (ys:=hb) (i:=0) (j:=(ha.length:Int)-1) Vw Aa Aa (Ds he hf) Aa) (wv (r:=rv (GL 5 hd (B6 ((ha.length:Int)-1)) 0)) (CF (k:=0) Aa (Cg (Ds he hf)) Aa Aa) (wv (r:=rv (GL 5 hd (B6 ((ha.length:Int)-1)) 2)) (Gv (k:=0) Js Aa IZ Aa (Cg (Ds he hf)) Aa Aa Aa) (JB (enc:=AE) (ys:=hb) (y':=(AH.mk ((Am hb ((ha.length:Int)-1)).fPairs) ((Am hb ((ha.length:Int)-1)).fLeft) ((Am hb ((ha.length:Int)-1)).fPairs) ((Am hb ((ha.length:Int)-1)).fLast) ((Am hb ((ha.length:Int)-1)).fStarted))) (i:=0) (j:=(ha.length:Int)-1) IZ Aa Aa (Cl Aa) Aa (Ds he hf) Aa Aa (H':=[.row hd 151 5 (A1 AE (List.set hb (B6 ((ha.length:Int)-1)) (AH.mk ((Am hb ((ha.length:Int)-1)).fPairs) ((Am hb ((ha.length:Int)-1)).fLeft) ((Am hb ((ha.length:Int)-1)).fPairs) ((Am hb ((ha.length:Int)-1)).fLast) ((Am hb ((ha.length:Int)-1)).fStarted))))]) Aa (bd h3 λhH h5 h6=>?_)))))))));rw[← h5];refine Bs (wm Aa (wa Aa (Ao (As (Ad (A3 (Ad (Bc ?_))))))));have h7:=Bz h6 hj hl;refine A3 (Ad ?_);obtain rfl:=At h7;exact Ar (BY Tryz.results108 (AB Aa)) (sC sN) ⟨hd,Aa,Aa⟩
   ·refine Ap (AJ (Ah (wm Aa (wm Aa (wv (D4 (ys:=hb) (enc:=AE) (i:=0) Jt Aa Aa) (ck h4 λh8 h9=>wv (G6 Aa Aa h8) (ck h9 λhA hB=>Aad (i:=0) Jt Q3 Aa Aa Aa hA Aa (λhC=>?_))))))));refine wa Aa (Aj (AF ?_));have hD:=Bg hB hj;exact Au (AD (hq,List.take (B6 ((hb.length:Int)-1)) hb,hC) ⟨hD,Abo _⟩ (AM.c Aa (AM.c Aa AM.nil)) (sC sN))
  ·refine BB (A2 ?_);have hE:=Cb hu hj hl;exact A2 (Bn (AD (ha,hd) hE (AM.c Aa (AM.c Aa AM.nil)) (sC sN)))
 ·rintro⟨hm,hk⟩ hh;refine C4 (l':=[(0,rv hk),(2,rv (.slice none 0 0))]) (H':=[.row hk 151 5 (A1 AE hm)]) Aa Aa ?_;replace hh:EZ hm=some r:=hh;unfold EZ at hh;refine Bi (AJ (Af (wm Aa (wa Aa (Ao (As ?_))))));obtain rfl:=At hh;exact Ar (BY Tryz.results108 (AB Aa)) (sC sN) ⟨hk,Aa,Aa⟩
theorem P8 (F:Nat)(v:(List Ab))(r:Int×AT×Bool)(h:Jw F v=some r):Fn Tryz.prog GE 74 [AX 4 (A1 Ac v)] [] (λR H=>R=Cs [Ak r.1,Bq (Bd r.2.1),rB r.2.2]∧H=[]):=by
 refine enter (n:=152) Tryz.func74 Aa Tryz.ntmps74 Aa (λw Z=>?_);unfold Jw at h;refine Af (wa Aa (Ce (cs:=[Ak 0,Ak 0,rB false,rB false]) Qx Aa Aa (λb1=>?_)));refine wa Aa (Ao (VC (Af (Ce (cs:=[Ak 0,Ak 0,rB false,rB false]) Qx Aa Aa (λb2=>?_)))));refine Bs (wa Aa (Ao (Ai (VD (AJ (Ai (Af (wm Aa (wv (Bv (ys:=v) (enc:=Ac) BK Aa) (wv (r:=Ak 0) (Aq Aa) (Ao (AL (WC.nilrow (e:=151) (sz:=5) (GH (H2:=[.blk b2 [Ak 0,Ak 0,rB false,rB false] 119,.blk b1 [Ak 0,Ak 0,rB false,rB false] 119,.row (.slice none 0 0                                                                                                                                                       ) 151 5 (A1 AE ([]:List AH))]) ((Al (i:=1) Aa).trans (Abe _ ((Al (i:=1) Aa).trans (Abe _ (Abg _))))) (ob h λhA hB hy=>B4 (S:=Nat×((List AH)×Int×AT)×(Value)) (V:=(AT)×(Unit)) 0 (λσ=>Ca (λσ=>Ev F v σ.1 σ.2.1 σ.2.2) σ.1 σ.2.1=some hA) (λσ=>[(0,AX 4 (A1 Ac v)),(3,rP b1 0),(5,rP b2 0),(6,rv σ.2.2),(11,AX 4 (A1 Ac v)),(12,Ak (v.length:Int)),(13,Ak σ.2.1.2.1)]) (λσ=>[.blk b2 (Bd σ.2.1.2.2) 119,.blk b1 [Ak 0,Ak 0,rB false,rB false] 119,.row σ.2.2 151 5 (A1 AE σ.2.1.1)]) (λσ=>σ.1) (F,(([]:List AH),0,(AT.mk 0 0 false false)),(.slice none 0 0                                                                                                                                                       )) hB (AM.c Aa (AM.c Aa (AM.c5 Aa Aa Aa Aa Aa AM.nil))) (sC (sC (sC sN))) (λσ=>Lm σ.1=some r) (λσ=>[(3,rP b1 0),(5,rP b2 0)]) (λσ=>[.blk b2 (Bd σ.1) 119,.blk b1 [Ak 0,Ak 0,rB false,rB false] 119]) ?_ ?_)))))))))))))))
 ·rintro⟨gI,⟨hd,hb,ha⟩,he⟩ hC;refine Cd (l':=[(0,AX 4 (A1 Ac v)),(3,rP b1 0),(5,rP b2 0),(6,rv he),(11,AX 4 (A1 Ac v)),(12,Ak (v.length:Int)),(13,Ak hb)]) (H':=[.blk b2 (Bd ha) 119,.blk b1 [Ak 0,Ak 0,rB false,rB false] 119,.row he 151 5 (A1 AE hd)]) Aa Aa ?_;obtain⟨hD,rfl,h4,h0,hx⟩:=Cz hC;replace h0:Ev F v hd hb ha=some h4:=h0;unfold Ev at h0;refine Af (wv (Ch Aa Aa) (Ao (Ai (cz h0 Aa (λhE hG=>?_) (λhE hH=>?_)))))
  ·refine Ap (AJ (D8 (S:=((List AH)×AT)×(Value)) (λσ=>EN hb σ.1.1 σ.1.2=some h4) (λσ=>[(0,AX 4 (A1 Ac v)),(3,rP b1 0),(5,rP b2 0),(6,rv σ.2),(11,AX 4 (A1 Ac v)),(12,Ak (v.length:Int)),(13,Ak hb)]) (λσ=>[.blk b2 (Bd σ.1.2) 119,.blk b1 [Ak 0,Ak 0,rB false,rB false] 119,.row σ.2 151 5 (A1 AE σ.1.1)]) ?_ ?_))
   ·refine AL (Af (wm Aa (ck hG λhI hJ=>wv (B3 (enc:=Ac) (ys:=v) BK BU Aa Aa hI) (wv (DI J7 BU Aa Aa Aa) (Ce (cs:=[Ak 0,Ak 0,rS ([]:Ae),Ak 0]) Eb Aa Aa (λhf=>?_))))));refine wa Aa (AP (i:=0) BU Aa Aa Aa (Bx.c Aa) Aa Aa (cs':=[Ak ((Am v hb).fKind),Ak ((Am v hb).fInt),rS ((Am v hb).fStr),Ak ((Am v hb).fN)]) Aa (H':=[.blk hf (Ac (Am v hb)) 63,.blk b2 (Bd ha) 119,.blk b1 [Ak 0,Ak 0,rB false,rB false] 119,.row he 151 5 (A1 AE hd)]) Aa (Ao (Ai (Af (wv (Bw (i:=0) J7 BU Aa Aa Aa Aa) (ob hJ λhK hL hN=>Cn Tryz.call105 (VJ F (Am v hb) hK hL) Aa (wv (BW Aa) (Ao (cz hN Aa (λhO hP=>?_) (λhO hQ=>?_))))))))))
    ·refine Ai (It (H1:=[.blk hf (Ac (Am v hb)) 63,.blk b2 (Bd ha) 119,.blk b1 (Bd ha) 119,.row he 151 5 (A1 AE hd)]) [3,5] [⟨[],Bq (Bd ha),1⟩,⟨[],Ak 0,0⟩,⟨[0],rv undef,2⟩,⟨[],rB false,0⟩] (rle [(3,_),(2,[.blk hf (Ac (Am v hb)) 63,.blk b2 (Bd ha) 119,.blk b1 (Bd ha) 119,.row he 151 5 (A1 AE hd)])]) [2,4,3] ?_ ?_)
     ·refine of (Bw (i:=1) KA G4 Aa Aa Aa Aa) (oq (Av Aa) (L8 Aa (Rl (Eg (i:=2) G4 Aa Aa Aa (Bx.c Aa) Aa Aa (cs':=[Ak ha.fDepth,Ak ha.fBytes,rB ha.fOutside,rB ha.fLong]) Aa (H':=[.blk hf (Ac (Am v hb)) 63,.blk b2 (Bd ha) 119,.blk b1 (Bd ha) 119,.row he 151 5 (A1 AE hd)]) Aa)) ?_));refine oq (Av Aa) ?_;exact CE
     refine AJ (As (Ad (A3 (Ad (Ad (Bc ?_))))));have hR:=Bz hP hx hy;refine A3 (Ad (JW ?_));obtain rfl:=At hR;exact Ar (MM V5 (AB Aa) (Cy (i:=2) KA G4 Aa Aa Aa) (AB Aa)) (sS (sS (sS (sS sN)))) ⟨Aa,Aa⟩
    ·refine Ap (AJ (Ai (Af (wm Aa (wv (D4 (ys:=hd) (enc:=AE) (i:=3) Jt Aa Aa) (wa Aa (Ao (ck hQ λhS hT=>ck hT λh5 hU=>AG [(0,AX 4 (A1 Ac v)),(3,rP b1 0),(5,rP b2 0),(6,rv he),(7,Ak hb),(8,rP hf 0),(9,Ak (hd.length:Int)),(11,AX 4 (A1 Ac v)),(12,Ak (v.length:Int)),(13,Ak hb),(33,rB ((decide (0<(hd.length:Int)))&&((Am hd ((hd.length:Int)-1)).fKey)))] [.blk hf (Ac (Am v hb)) 63,.blk b2 (Bd ha) 119,.blk b1 [Ak 0,Ak 0,rB false,rB false] 119,.row he 151 5 (A1 AE hd)] ?_ ?_))))))))
     ·refine Ah (wm Aa (wv (Cv Aa Aa) (wm Aa (AO (decide (0<(hd.length:Int))) (λhi=>?_) (λhi=>?_)))))
      ·refine wo hi (wm Aa (wo hi (wm Aa (wo hi (wv (G6 Aa Aa (Cr hS hi)) (wo hi (wv (r:=rv (GL 5 he (B6 ((hd.length:Int)-1)) 0)) (JH (i:=3) Jt Q3 Aa Aa Aa (Cg (Cr h5 hi))) (wo hi (wv (r:=rv (GL 5 he (B6 ((hd.length:Int)-1)) 2)) (Gv (k:=3) Js Aa IZ Aa (Cg (Cr h5 hi)) Aa Aa Aa) (wo hi (wv (r:=rB ((Am hd ((hd.length:Int)-1)).fKey)) (Iy (enc:=AE) (ys:=hd) (i:=3) (j:=(hd.length:Int)-1) Vw Aa Aa (Cr h5 hi) Aa) (En Aa hi Aa (Aj ?_)))))))))))));exact Cc hi
      ·refine wf hi (wf hi (wf hi (wf hi (wf hi (wf hi (wv (r:=rB false) (A7 Aa hi Aa) (Aj ?_)))))));exact Cc hi
     refine cz hU Aa (λhV hW=>?_) (λhV hX=>?_)
     ·refine Af (wm Aa (wm Aa (ck hW λhY hZ=>wv (G6 Aa Aa hY) (ck hZ λhj ga=>wv (r:=rv (GL 5 he (B6 ((hd.length:Int)-1)) 0)) (JH (i:=3) Jt Q3 Aa Aa Aa (Cg hj)) (wa Aa (Ao (Ai (AG [(0,AX 4 (A1 Ac v)),(3,rP b1 0),(5,rP b2 0),(6,rv he),(8,rP hf 0),(10,rv (GL 5 he (B6 ((hd.length:Int)-1)) 0)),(11,AX 4 (A1 Ac v)),(12,Ak (v.length:Int)),(13,Ak hb),(38,rP hf 0),(39,Ak ((Am v hb).fKind)),(40,rB (!decide (((Am v hb).fKind)=4))),(41,rB (!decide (((Am v hb).fKind)=4))),(55,rB ((!decide (((Am v hb).fKind)=4))||(((Am hd ((hd.length:Int)-1)).fStarted)&&(CW ((Am v hb).fStr) ((Am hd ((hd.length:Int)-1)).fLast)||decide (((Am v hb).fStr)=((Am hd ((hd.length:Int)-1)).fLast))))))] [.blk hf (Ac (Am v hb)) 63,.blk b2 (Bd ha) 119,.blk b1 [Ak 0,Ak 0,rB false,rB false] 119,.row he 151 5 (A1 AE hd)] ?_ ?_))))))))
      ·refine AO (!decide (((Am v hb).fKind)=4)) (λhh=>?_) (λhh=>?_)
       ·refine Df [0,3,5,6,8,10,11,12,13] [⟨[],rP hf 0,0⟩,⟨[0],Ak ((Am v hb).fKind),1⟩,⟨[1],rB (!decide (((Am v hb).fKind)=4)),0⟩,⟨[2],rB (!decide (((Am v hb).fKind)=4)),0⟩,⟨[3],rv undef,0⟩,⟨[4,3],rv undef,0⟩,⟨[5,3],rv undef,0⟩,⟨[6,3],rv undef,0⟩,⟨[7,3],rv undef,0⟩,⟨[8],rv undef,0⟩,⟨[9,8],rv undef,0⟩,⟨[8],rv undef,0⟩,⟨[11,8],rv undef,0⟩,⟨[12,8],rv undef,0⟩,⟨[13,8],rv undef,0⟩,⟨[10,14,8],rv undef,0⟩,⟨[8,15,3],rv undef,0⟩,⟨[3,16],rB true,0⟩] [38,39,40,41,42,43,44,45,46,47,48,49,50,51,52,53,54,55,0,3,5,6,8,10,11,12,13] ?_ ?_
        ·refine oq (AC BA Aa DQ Aa Aa) (of (Bj (i:=0) Eh Aa Aa Aa) (oq (CR Aa Aa) (oq (Aq Aa) (oz hh (oz hh (oz hh (oz hh (oz hh (ou (ou (ou (ou (ou (ou (ou (oz hh (oq (Ax (b:=!decide (((Am v hb).fKind)=4)) Aa hh Aa) ?_)))))))))))))))));exact CE
        exact Cc hh
       ·refine AO ((Am hd ((hd.length:Int)-1)).fStarted) (λhk=>?_) (λhk=>?_)
        ·refine Df [0,3,5,6,8,10,11,12,13] [⟨[],rP hf 0,0⟩,⟨[0],Ak ((Am v hb).fKind),1⟩,⟨[1],rB (!decide (((Am v hb).fKind)=4)),0⟩,⟨[2],rB (!decide (((Am v hb).fKind)=4)),0⟩,⟨[3],rv (GL 5 he (B6 ((hd.length:Int)-1)) 0),0⟩,⟨[4,3],rv (GL 5 he (B6 ((hd.length:Int)-1)) 0),1⟩,⟨[5,3],rv (GL 5 he (B6 ((hd.length:Int)-1)) 4),1⟩,⟨[6,3],rB ((Am hd ((hd.length:Int)-1)).fStarted),1⟩,⟨[7,3],rB ((Am hd ((hd.length:Int)-1)).fStarted),0⟩,⟨[8],rP hf 2,0⟩,⟨[9,8],rS ((Am v hb).fStr),1⟩,⟨[8],rv (GL 5 he (B6 ((hd.length:Int)-1)) 0),0⟩,⟨[11,8],rv (GL 5 he (B6 ((hd.length:Int)-1)) 0),1⟩,⟨[12,8],rv (GL 5 he (B6 ((hd.length:Int)-1)) 3),1⟩,⟨[13,8],rS ((Am hd ((hd.length:Int)-1)).fLast),1⟩,⟨[10,14,8],rB (CW ((Am v hb).fStr) ((Am hd ((hd.length:Int)-1)).fLast)||decide (((Am v hb).fStr)=((Am hd ((hd.length:Int)-1)).fLast))),0⟩,⟨[8,15,3],rB (CW ((Am v hb).fStr) ((Am hd ((hd.length:Int)-1)).fLast)||decide (((Am v hb).fStr)=((Am hd ((hd.length:Int)-1)).fLast))),0⟩,⟨[3,16],rB (CW ((Am v hb).fStr) ((Am hd ((hd.length:Int)-1)).fLast)||decide (((Am v hb).fStr)=((Am hd ((hd.length:Int)-1)).fLast))),0⟩] [38,39,40,41,42,43,44,45,46,47,48,49,50,51,52,53,54,55,0,3,5,6,8,10,11,12,13] ?_ ?_
         ·refine oq (AC BA Aa DQ Aa Aa) (of (Bj (i:=0) Eh Aa Aa Aa) (oq (CR Aa Aa) (oq (Aq Aa) (on hh (oq (Aq Aa) (on hh (of (CF (k:=3) Aa (Cg hj) Aa Aa) (on hh (of (Gv (k:=3) Js Aa IZ Aa (Cg hj) Aa Aa Aa) (on hh (of (Iy (enc:=AE) (ys:=hd) (i:=3) (j:=(hd.length:Int)-1) Vw Aa Aa hj Aa) (on hh (oq (Aq Aa) (on hk (oq (AC BA Aa CG Aa Aa) (on hk (of (Bj (i:=0) CV Aa Aa Aa) (on hk (oq (Aq Aa) (on hk (of (CF (k:=3) Aa (Cg hj) Aa Aa) (on hk (of (Gv (k:=3) Js Aa CG Aa (Cg hj) Aa Aa Aa) ?_)))))))))))))))))))))));refine on hk (of (Iy (enc:=AE) (ys:=hd) (i:=3) (j:=(hd.length:Int)-1) CV Aa Aa hj Aa) (on hk (oq (T3 Aa Aa) (on hh (oq (Ax Aa hk Aa) (oq (A7 Aa hh Aa) ?_))))));exact CE
         exact Cc (And.intro hh hk)
        ·refine Df [0,3,5,6,8,10,11,12,13] [⟨[],rP hf 0,0⟩,⟨[0],Ak ((Am v hb).fKind),1⟩,⟨[1],rB (!decide (((Am v hb).fKind)=4)),0⟩,⟨[2],rB (!decide (((Am v hb).fKind)=4)),0⟩,⟨[3],rv (GL 5 he (B6 ((hd.length:Int)-1)) 0),0⟩,⟨[4,3],rv (GL 5 he (B6 ((hd.length:Int)-1)) 0),1⟩,⟨[5,3],rv (GL 5 he (B6 ((hd.length:Int)-1)) 4),1⟩,⟨[6,3],rB ((Am hd ((hd.length:Int)-1)).fStarted),1⟩,⟨[7,3],rB ((Am hd ((hd.length:Int)-1)).fStarted),0⟩,⟨[8],rv undef,0⟩,⟨[9,8],rv undef,0⟩,⟨[8],rv undef,0⟩,⟨[11,8],rv undef,0⟩,⟨[12,8],rv undef,0⟩,⟨[13,8],rv undef,0⟩,⟨[10,14,8],rv undef,0⟩,⟨[8,15,3],rB false,0⟩,⟨[3,16],rB false,0⟩] [38,39,40,41,42,43,44,45,46,47,48,49,50,51,52,53,54,55,0,3,5,6,8,10,11,12,13] ?_ ?_
         ·refine oq (AC BA Aa DQ Aa Aa) (of (Bj (i:=0) Eh Aa Aa Aa) (oq (CR Aa Aa) (oq (Aq Aa) (on hh (oq (Aq Aa) (on hh (of (CF (k:=3) Aa (Cg hj) Aa Aa) (on hh (of (Gv (k:=3) Js Aa IZ Aa (Cg hj) Aa Aa Aa) (on hh (of (Iy (enc:=AE) (ys:=hd) (i:=3) (j:=(hd.length:Int)-1) Vw Aa Aa hj Aa) (on hh (oq (Aq Aa) (oz hk (oz hk (oz hk (oz hk (oz hk (oz hk (oz hk (on hh (oq (A7 (b:=(Am hd ((hd.length:Int)-1)).fStarted) Aa hk Aa) (oq (A7 Aa hh Aa) ?_)))))))))))))))))))))));exact CE
         exact Cc (And.intro hh hk)
      refine cz ga Aa (λgb gc=>?_) (λgb gd=>?_)
      ·refine Ai (It (H1:=[.blk hf (Ac (Am v hb)) 63,.blk b2 (Bd ha) 119,.blk b1 (Bd ha) 119,.row he 151 5 (A1 AE hd)]) [3,5] [⟨[],Bq (Bd ha),1⟩,⟨[],Ak 0,0⟩,⟨[0],rv undef,2⟩,⟨[],rB false,0⟩] (rle [(3,_),(2,[.blk hf (Ac (Am v hb)) 63,.blk b2 (Bd ha) 119,.blk b1 (Bd ha) 119,.row he 151 5 (A1 AE hd)])]) [2,4,3] ?_ ?_)
       ·refine of (Bw (i:=1) KA G4 Aa Aa Aa Aa) (oq (Av Aa) (L8 Aa (Rl (Eg (i:=2) G4 Aa Aa Aa (Bx.c Aa) Aa Aa (cs':=[Ak ha.fDepth,Ak ha.fBytes,rB ha.fOutside,rB ha.fLong]) Aa (H':=[.blk hf (Ac (Am v hb)) 63,.blk b2 (Bd ha) 119,.blk b1 (Bd ha) 119,.row he 151 5 (A1 AE hd)]) Aa)) ?_));refine oq (Av Aa) ?_;exact CE
       refine AJ (As (Ad (Ad (A3 (Ad (Ad (Bc ?_)))))));have ge:=Bz gc hx hy;refine A3 (Ad (JW ?_));obtain rfl:=At ge;exact Ar (MM V5 (AB Aa) (Cy (i:=2) KA G4 Aa Aa Aa) (AB Aa)) (sS (sS (sS (sS sN)))) ⟨Aa,Aa⟩
      ·refine Ap (AJ (Af (wm Aa (wm Aa (wm Aa (vF BA Aa CG (vL 0 CV Aa (wv (r:=rv (GL 5 he (B6 ((hd.length:Int)-1)) 0)) (CF (k:=3) Aa (Cg hj) Aa Aa) (wv (r:=rv (GL 5 he (B6 ((hd.length:Int)-1)) 3)) (Gv (k:=3) Js Aa CG Aa (Cg hj) Aa Aa Aa) (JB (enc:=AE) (ys:=hd) (y':=(AH.mk ((Am hd ((hd.length:Int)-1)).fPairs) ((Am hd ((hd.length:Int)-1)).fLeft) ((Am hd ((hd.length:Int)-1)).fKey) ((Am v hb).fStr) ((Am hd ((hd.length:Int)-1)).fStarted))) (i:=3) (j:=(hd.length:Int)-1) CG Aa Aa (Cl Aa) Aa hj Aa Aa (H':=[.blk hf (Ac (Am v hb)) 63,.blk b2 (Bd ha) 119,.blk b1 [Ak 0,Ak 0,rB false,rB false] 119,.row he 151 5 (A1 AE (List.set hd (B6 ((hd.length:Int)-1)) (AH.mk ((Am hd ((hd.length:Int)-1)).fPairs) ((Am hd ((hd.length:Int)-1)).fLeft) ((Am hd ((hd.length:Int)-1)).fKey) ((Am v hb).fStr) ((Am hd ((hd.length:Int)-1)).fStarted))))]) Aa (bd gd λhr hu gf=>?_)))))))))));rw[← hu];refine wv (r:=rv (GL 5 he (B6 ((hd.length:Int)-1)) 0)) (CF (k:=3) Aa (Cg (Ds hj hu)) Aa Aa) (wv (r:=rv (GL 5 he (B6 ((hd.length:Int)-1)) 4)) (Gv (k:=3) Js Aa IZ Aa (Cg (Ds hj hu)) Aa Aa Aa) (JB (enc:=AE) (ys:=hr) (y':=(AH.mk ((Am hr ((hd.length:Int)-1)).fPairs) ((Am hr ((hd.length:Int)-1)).fLeft) ((Am hr ((hd.length:Int)-1)).fKey) ((Am hr ((hd.length:Int)-1)).fLast) true)) (i:=3) (j:=(hd.length:Int)-1) IZ Aa Aa (Cl Aa) Aa (Ds hj hu) Aa Aa (H':=[.blk hf (Ac (Am v hb)) 63,.blk b2 (Bd ha) 119,.blk b1 [Ak 0,Ak 0,rB false,rB false] 119,.row he 151 5 (A1 AE (List.set hr (B6 ((hd.length:Int)-1)) (AH.mk ((Am hr ((hd.length:Int)-1)).fPairs) ((Am hr ((hd.length:Int)-1)).fLeft) ((Am hr ((hd.length:Int)-1)).fKey) ((Am hr ((hd.length:Int)-1)).fLast) true)))]) Aa (bd gf λhs h1 gg=>?_)));rw[← h1];refine wv (r:=rv (GL 5 he (B6 ((hd.length:Int)-1)) 0)) (CF (k:=3) Aa (Cg (Ds (Ds hj hu) h1)) Aa Aa) (wv (r:=rv (GL 5 he (B6 ((hd.length:Int)-1)) 2)) (Gv (k:=3) Js Aa IZ Aa (Cg (Ds (Ds hj hu) h1)) Aa Aa Aa) (JB (enc:=AE) (ys:=hs) (y':=(AH.mk ((Am hs ((hd.length:Int)-1)).fPairs) ((Am hs ((hd.length:Int)-1)).fLeft) false ((Am hs ((hd.length:Int)-1)).fLast) ((Am hs ((hd.length:Int)-1)).fStarted))) (i:=3) (j:=(hd.length:Int)-1) IZ Aa Aa (Cl Aa) Aa (Ds (Ds hj hu) h1) Aa Aa (H':=[.blk hf (Ac (Am v hb)) 63,.blk b2 (Bd ha) 119,.blk b1 [Ak 0,Ak 0,rB false,rB false] 119,.row he 151 5 (A1 AE (List.set hs (B6 ((hd.length:Int)-1)) (AH.mk ((Am hs ((hd.length:Int)-1)).fPairs) ((Am hs ((hd.length:Int)-1)).fLeft) false ((Am hs ((hd.length:Int)-1)).fLast) ((Am hs ((hd.length:Int)-1)).fStarted))))]) Aa (bd gg λht gh gi=>?_)));rw[← gh];refine Ao (Ai (ob gi λhl gj gl=>ck gl λgm gp=>It (H1:=[.blk hf (Ac (Am v hb)) 63,.blk b2 [Ak ha.fDepth,Ak (IntKind.wrap .i64 (ha.fBytes+(hl+1))),rB ha.fOutside,rB ha.fLong] 119,.blk b1 [Ak 0,Ak 0,rB false,rB false] 119,.row he 151 5 (A1 AE ht)]) [0,3,5,6,8,11,12,13,38,39,40,41] [⟨[],rP b2 1,0⟩,⟨[0],Ak ha.fBytes,1⟩,⟨[],rP hf 2,0⟩,⟨[2],rS ((Am v hb).fStr),1⟩,⟨[3],Ak hl,0⟩,⟨[4],Ak (hl+1),0⟩,⟨[1,5],Ak (IntKind.wrap .i64 (ha.fBytes+(hl+1))),0⟩,⟨[],rP b2 1,0⟩,⟨[7,6],rv undef,2⟩] (rle [(9,_),(1,[.blk hf (Ac (Am v hb)) 63,.blk b2 [Ak ha.fDepth,Ak (IntKind.wrap .i64 (ha.fBytes+(hl+1))),rB ha.fOutside,rB ha.fLong] 119,.blk b1 [Ak 0,Ak 0,rB false,rB false] 119,.row he 151 5 (A1 AE ht)])]) [68,69,70,71,72,73,74,75,0,3,5,6,8,11,12,13,38,39,40,41] ?_ ?_))
       ·refine oq (AC Gc Aa Ct Aa Aa) (of (Bj (i:=1) Dm Aa Aa Aa) (oq (AC BA Aa CG Aa Aa) (of (Bj (i:=0) CV Aa Aa Aa) (DH Aa (λH=>If Tryz.call106 (OS ((Am v hb).fStr) hl gj) Aa) ?_))));refine oq (Bh Aa Aa gm) (oq (SC Aa Aa) (oq (AC Gc Aa Ct Aa Aa) (L8 Aa (Rl (P0 (i:=1) Ct Aa Aa (Cl Aa) Aa Aa (cs':=[Ak ha.fDepth,Ak (IntKind.wrap .i64 (ha.fBytes+(hl+1))),rB ha.fOutside,rB ha.fLong]) Aa (H':=[.blk hf (Ac (Am v hb)) 63,.blk b2 [Ak ha.fDepth,Ak (IntKind.wrap .i64 (ha.fBytes+(hl+1))),rB ha.fOutside,rB ha.fLong] 119,.blk b1 [Ak 0,Ak 0,rB false,rB false] 119,.row he 151 5 (A1 AE ht)]) Aa)) ?_)));exact CE
       refine AJ (AG [(0,AX 4 (A1 Ac v)),(3,rP b1 0),(5,rP b2 0),(6,rv he),(11,AX 4 (A1 Ac v)),(12,Ak (v.length:Int)),(13,Ak hb),(38,rP hf 0),(39,Ak ((Am v hb).fKind)),(40,rB (!decide (((Am v hb).fKind)=4))),(41,rB (!decide (((Am v hb).fKind)=4))),(68,rP b2 1),(69,Ak ha.fBytes),(70,rP hf 2),(71,rS ((Am v hb).fStr)),(72,Ak hl),(73,Ak (hl+1)),(74,Ak (IntKind.wrap .i64 (ha.fBytes+(hl+1)))),(75,rP b2 1)] [.blk hf (Ac (Am v hb)) 63,.blk b2 [Ak ha.fDepth,Ak (IntKind.wrap .i64 (ha.fBytes+(hl+1))),rB ha.fOutside,rB (ha.fLong||(decide (200<(((Am v hb).fStr).length:Int))))] 119,.blk b1 [Ak 0,Ak 0,rB false,rB false] 119,.row he 151 5 (A1 AE ht)] ?_ ?_)
       ·refine Ah (vF Gc Aa IZ (vL 1 Vw Aa (wm Aa (AO (ha.fLong) (λho=>?_) (λho=>?_)))))
        ·refine wf ho (wf ho (wf ho (wf ho (wv (r:=rB true) (Ax rfl ho rfl) (vF Gc rfl IZ (BC (i:=1) IZ rfl rfl (Cl rfl) rfl rfl (cs':=[Ak ha.fDepth,Ak (IntKind.wrap .i64 (ha.fBytes+(hl+1))),rB ha.fOutside,rB true]) rfl (H':=[.blk hf (Ac (Am v hb)) 63,.blk b2 [Ak ha.fDepth,Ak (IntKind.wrap .i64 (ha.fBytes+(hl+1))),rB ha.fOutside,rB true] 119,.blk b1 [Ak 0,Ak 0,rB false,rB false] 119,.row he 151 5 (A1 AE ht)]) rfl (Aj (Ja (H':=[.blk hf (Ac (Am v hb)) 63,.blk b2 [Ak ha.fDepth,Ak (IntKind.wrap .i64 (ha.fBytes+(hl+1))),rB ha.fOutside,rB (ha.fLong||(decide (200<(((Am v hb).fStr).length:Int))))] 119,.blk b1 [Ak 0,Ak 0,rB false,rB false] 119,.row he 151 5 (A1 AE ht)]) (by simp only[ho,Abp,Abw,Ab5,Abt,Abx,Ab0,Ab4,Ab2,Abq,Aby,Abj,Abh]) ?_))))))));exact wt
        ·refine wo ho (vF BA rfl CG (wo ho (vL 0 CV rfl (wo ho (wv (Bm BZ rfl) (wo ho (wv (Cv rfl rfl) (Ea rfl ho rfl (vF Gc rfl IZ (BC (i:=1) IZ rfl rfl (Cl rfl) rfl rfl (cs':=[Ak ha.fDepth,Ak (IntKind.wrap .i64 (ha.fBytes+(hl+1))),rB ha.fOutside,rB (decide (200<(((Am v hb).fStr).length:Int)))]) rfl (H':=[.blk hf (Ac (Am v hb)) 63,.blk b2 [Ak ha.fDepth,Ak (IntKind.wrap .i64 (ha.fBytes+(hl+1))),rB ha.fOutside,rB (decide (200<(((Am v hb).fStr).length:Int)))] 119,.blk b1 [Ak 0,Ak 0,rB false,rB false] 119,.row he 151 5 (A1 AE ht)]) rfl (Aj (Ja (H':=[.blk hf (Ac (Am v hb)) 63,.blk b2 [Ak ha.fDepth,Ak (IntKind.wrap .i64 (ha.fBytes+(hl+1))),rB ha.fOutside,rB (ha.fLong||(decide (200<(((Am v hb).fStr).length:Int))))] 119,.blk b1 [Ak 0,Ak 0,rB false,rB false] 119,.row he 151 5 (A1 AE ht)]) (by simp only[ho,Abp,Abw,Ab5,Abt,Abx,Ab0,Ab4,Ab2,Abq,Aby,Abj,Abh]) ?_))))))))))));exact wt
       exact BB (A2 (Bi (Au (AD ((ht,(AT.mk ha.fDepth (IntKind.wrap .i64 (ha.fBytes+(hl+1))) ha.fOutside (ha.fLong||(decide (200<(((Am v hb).fStr).length:Int)))))),he) gp (AM.c Aa (AM.c Aa (AM.c5 Aa Aa Aa Aa Aa AM.nil))) (sS (sC (sC (sC sN))))))))
     ·refine Ap (AJ (Af (vF Gc Aa Ct (vL 1 Dm Aa (wm Aa (wv (D4 (ys:=hd) (enc:=AE) (i:=3) Jt Aa Aa) (ck hX λgq gr=>wv (Bh Aa Aa gq) (wv (Zf Qr Aa Aa) (vF Gc Aa Ct (BC (i:=1) Ct Aa Aa (Cl Aa) Aa Aa (cs':=[Ak (max ha.fDepth ((hd.length:Int)+1)),Ak ha.fBytes,rB ha.fOutside,rB ha.fLong]) Aa (H':=[.blk hf (Ac (Am v hb)) 63,.blk b2 [Ak (max ha.fDepth ((hd.length:Int)+1)),Ak ha.fBytes,rB ha.fOutside,rB ha.fLong] 119,.blk b1 [Ak 0,Ak 0,rB false,rB false] 119,.row he 151 5 (A1 AE hd)]) Aa (Ao (Ai (ob gr λhg gs gt=>It (H1:=[.blk hf (Ac (Am v hb)) 63,.blk b2 [Ak (max ha.fDepth ((hd.length:Int)+1)),Ak (IntKind.wrap .i64 (ha.fBytes+hg)),rB ha.fOutside,rB ha.fLong] 119,.blk b1 [Ak 0,Ak 0,rB false,rB false] 119,.row he 151 5 (A1 AE hd)]) [0,3,5,6,7,8,11,12,13] [⟨[],rP b2 1,0⟩,⟨[0],Ak ha.fBytes,1⟩,⟨[],Bq (Ac (Am v hb)),1⟩,⟨[2],Ak hg,0⟩,⟨[1,3],Ak (IntKind.wrap .i64 (ha.fBytes+hg)),0⟩,⟨[],rP b2 1,0⟩,⟨[5,4],rv undef,2⟩] (rle [(7,_),(1,[.blk hf (Ac (Am v hb)) 63,.blk b2 [Ak (max ha.fDepth ((hd.length:Int)+1)),Ak (IntKind.wrap .i64 (ha.fBytes+hg)),rB ha.fOutside,rB ha.fLong] 119,.blk b1 [Ak 0,Ak 0,rB false,rB false] 119,.row he 151 5 (A1 AE hd)])]) [92,93,94,95,96,97,0,3,5,6,7,8,11,12,13] ?_ ?_)))))))))))))
      ·refine oq (AC Gc Aa Ct Aa Aa) (of (Bj (i:=1) Dm Aa Aa Aa) (of (Bw (i:=0) J7 BU Aa Aa Aa Aa) (DH Aa (λH=>If Tryz.call107 (XY (Am v hb) hg gs) Aa) ?_)));refine oq (SC Aa Aa) (oq (AC Gc Aa Ct Aa Aa) (L8 Aa (Rl (P0 (i:=1) Ct Aa Aa (Cl Aa) Aa Aa (cs':=[Ak (max ha.fDepth ((hd.length:Int)+1)),Ak (IntKind.wrap .i64 (ha.fBytes+hg)),rB ha.fOutside,rB ha.fLong]) Aa (H':=[.blk hf (Ac (Am v hb)) 63,.blk b2 [Ak (max ha.fDepth ((hd.length:Int)+1)),Ak (IntKind.wrap .i64 (ha.fBytes+hg)),rB ha.fOutside,rB ha.fLong] 119,.blk b1 [Ak 0,Ak 0,rB false,rB false] 119,.row he 151 5 (A1 AE hd)]) Aa)) ?_));exact CE
      refine AJ (ck gt λgu gv=>AG [(0,AX 4 (A1 Ac v)),(3,rP b1 0),(5,rP b2 0),(6,rv he),(7,Ak hb),(8,rP hf 0),(11,AX 4 (A1 Ac v)),(12,Ak (v.length:Int)),(13,Ak hb),(92,rP b2 1),(93,Ak ha.fBytes),(94,Bq (Ac (Am v hb))),(95,Ak hg),(96,Ak (IntKind.wrap .i64 (ha.fBytes+hg))),(97,rP b2 1)] [.blk hf (Ac (Am v hb)) 63,.blk b2 [Ak (max ha.fDepth ((hd.length:Int)+1)),Ak (IntKind.wrap .i64 (ha.fBytes+hg)),rB (ha.fOutside||((decide (((Am v hb).fKind)=3))&&(!(ov (BQ ((Am v hb).fInt)))))),rB ha.fLong] 119,.blk b1 [Ak 0,Ak 0,rB false,rB false] 119,.row he 151 5 (A1 AE hd)] ?_ ?_)
      ·refine Ah (vF Gc Aa IZ (vL 1 Vw Aa (wm Aa (AO (ha.fOutside) (λhm=>?_) (λhm=>?_)))))
       ·refine wf hm (wf hm (wf hm (wf hm (wu (wu (wu (wu (wf hm (wv (r:=rB true) (Ax rfl hm rfl) (vF Gc rfl IZ (BC (i:=1) IZ rfl rfl (Cl rfl) rfl rfl (cs':=[Ak (max ha.fDepth ((hd.length:Int)+1)),Ak (IntKind.wrap .i64 (ha.fBytes+hg)),rB true,rB ha.fLong]) rfl (H':=[.blk hf (Ac (Am v hb)) 63,.blk b2 [Ak (max ha.fDepth ((hd.length:Int)+1)),Ak (IntKind.wrap .i64 (ha.fBytes+hg)),rB true,rB ha.fLong] 119,.blk b1 [Ak 0,Ak 0,rB false,rB false] 119,.row he 151 5 (A1 AE hd)]) rfl (Aj (Ja (H':=[.blk hf (Ac (Am v hb)) 63,.blk b2 [Ak (max ha.fDepth ((hd.length:Int)+1)),Ak (IntKind.wrap .i64 (ha.fBytes+hg)),rB (ha.fOutside||((decide (((Am v hb).fKind)=3))&&(!(ov (BQ ((Am v hb).fInt)))))),rB ha.fLong] 119,.blk b1 [Ak 0,Ak 0,rB false,rB false] 119,.row he 151 5 (A1 AE hd)]) (by simp only[hm,Abp,Abw,Ab5,Abt,Abx,Ab0,Ab4,Ab2,Abq,Aby,Abj,Abh]) ?_)))))))))))));exact wt
       ·refine wo hm (vF BA Aa DQ (wo hm (vL 0 Eh Aa (wo hm (wv (BE Aa Aa) (wo hm (wm Aa (AO (decide (((Am v hb).fKind)=3)) (λhn=>?_) (λhn=>?_)))))))))
        ·refine wo hn (vF BA rfl Ct (wo hn (vL 0 Dm rfl (wo hn (Cn Tryz.call98 (NY ((Am v hb).fInt) (ov (BQ ((Am v hb).fInt))) (GQ (Cr (Dw gu hm) hn))) rfl (wo hn (wv (BW rfl) (wo hm (En rfl hn rfl (Ea rfl hm rfl (vF Gc rfl IZ (BC (i:=1) IZ rfl rfl (Cl rfl) rfl rfl (cs':=[Ak (max ha.fDepth ((hd.length:Int)+1)),Ak (IntKind.wrap .i64 (ha.fBytes+hg)),rB (!(ov (BQ ((Am v hb).fInt)))),rB ha.fLong]) rfl (H':=[.blk hf (Ac (Am v hb)) 63,.blk b2 [Ak (max ha.fDepth ((hd.length:Int)+1)),Ak (IntKind.wrap .i64 (ha.fBytes+hg)),rB (!(ov (BQ ((Am v hb).fInt)))),rB ha.fLong] 119,.blk b1 [Ak 0,Ak 0,rB false,rB false] 119,.row he 151 5 (A1 AE hd)]) rfl (Aj (Ja (H':=[.blk hf (Ac (Am v hb)) 63,.blk b2 [Ak (max ha.fDepth ((hd.length:Int)+1)),Ak (IntKind.wrap .i64 (ha.fBytes+hg)),rB (ha.fOutside||((decide (((Am v hb).fKind)=3))&&(!(ov (BQ ((Am v hb).fInt)))))),rB ha.fLong] 119,.blk b1 [Ak 0,Ak 0,rB false,rB false] 119,.row he 151 5 (A1 AE hd)]) (by simp only[hm,hn,Abp,Abw,Ab5,Abt,Abx,Ab0,Ab4,Ab2,Abq,Aby,Abj,Abh]) ?_))))))))))))));exact wt
        ·refine wf hn (wf hn (wf hn (wf hn (wo hm (wv (r:=rB false) (A7 rfl hn rfl) (Ea rfl hm rfl (vF Gc rfl IZ (BC (i:=1) IZ rfl rfl (Cl rfl) rfl rfl (cs':=[Ak (max ha.fDepth ((hd.length:Int)+1)),Ak (IntKind.wrap .i64 (ha.fBytes+hg)),rB false,rB ha.fLong]) rfl (H':=[.blk hf (Ac (Am v hb)) 63,.blk b2 [Ak (max ha.fDepth ((hd.length:Int)+1)),Ak (IntKind.wrap .i64 (ha.fBytes+hg)),rB false,rB ha.fLong] 119,.blk b1 [Ak 0,Ak 0,rB false,rB false] 119,.row he 151 5 (A1 AE hd)]) rfl (Aj (Ja (H':=[.blk hf (Ac (Am v hb)) 63,.blk b2 [Ak (max ha.fDepth ((hd.length:Int)+1)),Ak (IntKind.wrap .i64 (ha.fBytes+hg)),rB (ha.fOutside||((decide (((Am v hb).fKind)=3))&&(!(ov (BQ ((Am v hb).fInt)))))),rB ha.fLong] 119,.blk b1 [Ak 0,Ak 0,rB false,rB false] 119,.row he 151 5 (A1 AE hd)]) (by simp only[hm,hn,Abp,Abw,Ab5,Abt,Abx,Ab0,Ab4,Ab2,Abq,Aby,Abj,Abh]) ?_))))))))));exact wt
      refine AG [(0,AX 4 (A1 Ac v)),(3,rP b1 0),(5,rP b2 0),(6,rv he),(7,Ak hb),(8,rP hf 0),(11,AX 4 (A1 Ac v)),(12,Ak (v.length:Int)),(13,Ak hb),(92,rP b2 1),(93,Ak ha.fBytes),(94,Bq (Ac (Am v hb))),(95,Ak hg),(96,Ak (IntKind.wrap .i64 (ha.fBytes+hg))),(97,rP b2 1)] [.blk hf (Ac (Am v hb)) 63,.blk b2 [Ak (max ha.fDepth ((hd.length:Int)+1)),Ak (IntKind.wrap .i64 (ha.fBytes+hg)),rB (ha.fOutside||((decide (((Am v hb).fKind)=3))&&(!(ov (BQ ((Am v hb).fInt)))))),rB (ha.fLong||(decide (200<(((Am v hb).fStr).length:Int))))] 119,.blk b1 [Ak 0,Ak 0,rB false,rB false] 119,.row he 151 5 (A1 AE hd)] ?_ ?_
      ·refine Ah (vF Gc Aa IZ (vL 1 Vw Aa (wm Aa (AO (ha.fLong) (λhp=>?_) (λhp=>?_)))))
       ·refine wf hp (wf hp (wf hp (wf hp (wv (r:=rB true) (Ax rfl hp rfl) (vF Gc rfl IZ (BC (i:=1) IZ rfl rfl (Cl rfl) rfl rfl (cs':=[Ak (max ha.fDepth ((hd.length:Int)+1)),Ak (IntKind.wrap .i64 (ha.fBytes+hg)),rB (ha.fOutside||((decide (((Am v hb).fKind)=3))&&(!(ov (BQ ((Am v hb).fInt)))))),rB true]) rfl (H':=[.blk hf (Ac (Am v hb)) 63,.blk b2 [Ak (max ha.fDepth ((hd.length:Int)+1)),Ak (IntKind.wrap .i64 (ha.fBytes+hg)),rB (ha.fOutside||((decide (((Am v hb).fKind)=3))&&(!(ov (BQ ((Am v hb).fInt)))))),rB true] 119,.blk b1 [Ak 0,Ak 0,rB false,rB false] 119,.row he 151 5 (A1 AE hd)]) rfl (Aj (Ja (H':=[.blk hf (Ac (Am v hb)) 63,.blk b2 [Ak (max ha.fDepth ((hd.length:Int)+1)),Ak (IntKind.wrap .i64 (ha.fBytes+hg)),rB (ha.fOutside||((decide (((Am v hb).fKind)=3))&&(!(ov (BQ ((Am v hb).fInt)))))),rB (ha.fLong||(decide (200<(((Am v hb).fStr).length:Int))))] 119,.blk b1 [Ak 0,Ak 0,rB false,rB false] 119,.row he 151 5 (A1 AE hd)]) (by simp only[hp,Abp,Abw,Ab5,Abt,Abx,Ab0,Ab4,Ab2,Abq,Aby,Abj,Abh]) ?_))))))));exact wt
       ·refine wo hp (vF BA rfl CG (wo hp (vL 0 CV rfl (wo hp (wv (Bm BZ rfl) (wo hp (wv (Cv rfl rfl) (Ea rfl hp rfl (vF Gc rfl IZ (BC (i:=1) IZ rfl rfl (Cl rfl) rfl rfl (cs':=[Ak (max ha.fDepth ((hd.length:Int)+1)),Ak (IntKind.wrap .i64 (ha.fBytes+hg)),rB (ha.fOutside||((decide (((Am v hb).fKind)=3))&&(!(ov (BQ ((Am v hb).fInt)))))),rB (decide (200<(((Am v hb).fStr).length:Int)))]) rfl (H':=[.blk hf (Ac (Am v hb)) 63,.blk b2 [Ak (max ha.fDepth ((hd.length:Int)+1)),Ak (IntKind.wrap .i64 (ha.fBytes+hg)),rB (ha.fOutside||((decide (((Am v hb).fKind)=3))&&(!(ov (BQ ((Am v hb).fInt)))))),rB (decide (200<(((Am v hb).fStr).length:Int)))] 119,.blk b1 [Ak 0,Ak 0,rB false,rB false] 119,.row he 151 5 (A1 AE hd)]) rfl (Aj (Ja (H':=[.blk hf (Ac (Am v hb)) 63,.blk b2 [Ak (max ha.fDepth ((hd.length:Int)+1)),Ak (IntKind.wrap .i64 (ha.fBytes+hg)),rB (ha.fOutside||((decide (((Am v hb).fKind)=3))&&(!(ov (BQ ((Am v hb).fInt)))))),rB (ha.fLong||(decide (200<(((Am v hb).fStr).length:Int))))] 119,.blk b1 [Ak 0,Ak 0,rB false,rB false] 119,.row he 151 5 (A1 AE hd)]) (by simp only[hp,Abp,Abw,Ab5,Abt,Abx,Ab0,Ab4,Ab2,Abq,Aby,Abj,Abh]) ?_))))))))))));exact wt
      refine Ai (Af (vF BA Aa Ct (vL 0 Dm Aa (wv (Cv Aa Aa) (Ao (cz gv Aa (λgw gx=>?_) (λgw gy=>?_)))))))
      ·refine Ai (Af (vF BA Aa Ct (vL 0 Dm Aa (wm Aa (wv (Bv (ys:=v) (enc:=Ac) BK Aa) (wv (Cv Aa Aa) (Ao (cz gx Aa (λgz g0=>?_) (λgz g1=>?_)))))))))
       ·refine Ai (It (H1:=[.blk hf (Ac (Am v hb)) 63,.blk b2 [Ak (max ha.fDepth ((hd.length:Int)+1)),Ak (IntKind.wrap .i64 (ha.fBytes+hg)),rB (ha.fOutside||((decide (((Am v hb).fKind)=3))&&(!(ov (BQ ((Am v hb).fInt)))))),rB (ha.fLong||(decide (200<(((Am v hb).fStr).length:Int))))] 119,.blk b1 [Ak (max ha.fDepth ((hd.length:Int)+1)),Ak (IntKind.wrap .i64 (ha.fBytes+hg)),rB (ha.fOutside||((decide (((Am v hb).fKind)=3))&&(!(ov (BQ ((Am v hb).fInt)))))),rB (ha.fLong||(decide (200<(((Am v hb).fStr).length:Int))))] 119,.row he 151 5 (A1 AE hd)]) [3,5] [⟨[],Bq [Ak (max ha.fDepth ((hd.length:Int)+1)),Ak (IntKind.wrap .i64 (ha.fBytes+hg)),rB (ha.fOutside||((decide (((Am v hb).fKind)=3))&&(!(ov (BQ ((Am v hb).fInt)))))),rB (ha.fLong||(decide (200<(((Am v hb).fStr).length:Int))))],1⟩,⟨[],Ak 0,0⟩,⟨[0],rv undef,2⟩,⟨[],rB false,0⟩] (rle [(3,_),(2,[.blk hf (Ac (Am v hb)) 63,.blk b2 [Ak (max ha.fDepth ((hd.length:Int)+1)),Ak (IntKind.wrap .i64 (ha.fBytes+hg)),rB (ha.fOutside||((decide (((Am v hb).fKind)=3))&&(!(ov (BQ ((Am v hb).fInt)))))),rB (ha.fLong||(decide (200<(((Am v hb).fStr).length:Int))))] 119,.blk b1 [Ak (max ha.fDepth ((hd.length:Int)+1)),Ak (IntKind.wrap .i64 (ha.fBytes+hg)),rB (ha.fOutside||((decide (((Am v hb).fKind)=3))&&(!(ov (BQ ((Am v hb).fInt)))))),rB (ha.fLong||(decide (200<(((Am v hb).fStr).length:Int))))] 119,.row he 151 5 (A1 AE hd)])]) [2,4,3] ?_ ?_)
        ·refine of (Bw (i:=1) KA G4 Aa Aa Aa Aa) (oq (Av Aa) (L8 Aa (Rl (Eg (i:=2) G4 Aa Aa Aa (Bx.c Aa) Aa Aa (cs':=[Ak (max ha.fDepth ((hd.length:Int)+1)),Ak (IntKind.wrap .i64 (ha.fBytes+hg)),rB (ha.fOutside||((decide (((Am v hb).fKind)=3))&&(!(ov (BQ ((Am v hb).fInt)))))),rB (ha.fLong||(decide (200<(((Am v hb).fStr).length:Int))))]) Aa (H':=[.blk hf (Ac (Am v hb)) 63,.blk b2 [Ak (max ha.fDepth ((hd.length:Int)+1)),Ak (IntKind.wrap .i64 (ha.fBytes+hg)),rB (ha.fOutside||((decide (((Am v hb).fKind)=3))&&(!(ov (BQ ((Am v hb).fInt)))))),rB (ha.fLong||(decide (200<(((Am v hb).fStr).length:Int))))] 119,.blk b1 [Ak (max ha.fDepth ((hd.length:Int)+1)),Ak (IntKind.wrap .i64 (ha.fBytes+hg)),rB (ha.fOutside||((decide (((Am v hb).fKind)=3))&&(!(ov (BQ ((Am v hb).fInt)))))),rB (ha.fLong||(decide (200<(((Am v hb).fStr).length:Int))))] 119,.row he 151 5 (A1 AE hd)]) Aa)) ?_));refine oq (Av Aa) ?_;exact CE
        refine AJ (As (Ad (Ad (A3 (Ad (Ad (Bc ?_)))))));have g2:=Bz g0 hx hy;refine A3 (Ad (JW ?_));obtain rfl:=At g2;exact Ar (MM V5 (AB Aa) (Cy (i:=2) KA G4 Aa Aa Aa) (AB Aa)) (sS (sS (sS (sS sN)))) ⟨Aa,Aa⟩
       ·refine Ap (AJ (Af (wm Aa (vF BA Aa DQ (vL 0 Eh Aa (wv (BE Aa Aa) (vF BA Aa Ct (vL 0 Dm Aa (vF BA Aa DQ (vL 0 Eh Aa (wv (BE Aa Aa) (wv (r:=Bq [rB (decide (((Am v hb).fKind)=6)),Ak ((Am v hb).fN),rB (decide (((Am v hb).fKind)=6)),rS ([]:Ae),rB false]) (Mo Aa Aa Aa Aa Aa Aa) (AQ (ys:=([(AH.mk (decide (((Am v hb).fKind)=6)) ((Am v hb).fN) (decide (((Am v hb).fKind)=6)) ([]:Ae) false)]:List AH)) (enc:=AE) (css:=[[rB (decide (((Am v hb).fKind)=6)),Ak ((Am v hb).fN),rB (decide (((Am v hb).fKind)=6)),rS ([]:Ae),rB false]]) (xs:=[.tmp 139]) Jt Q3 Tryz.zeroValue151 Aa Aa Aa ⟨Eo.agg ⟨Up.refl _,Up.refl _,Up.refl _,Up.refl _,Up.refl _,trivial⟩,trivial⟩ Aa J0 Aa Aa Aa (λg3=>?_))))))))))))));refine ck g1 λg4 g5=>Exists.elim Y5 λinf hinf=>BL (xs:=hd) (ys:=([(AH.mk (decide (((Am v hb).fKind)=6)) ((Am v hb).fN) (decide (((Am v hb).fKind)=6)) ([]:Ae) false)]:List AH)) (enc:=AE) (i:=4) Jt hinf.1 hinf.2.1 hinf.2.2.1 hinf.2.2.2 Aa Aa Aa Aa Aa (I5.w (i:=0) Aa Aa) J0 Ng g4 Aa (λh9=>?_);exact wa Aa (Ao (BB (A2 (Bi (BO (H2:=[.blk b2 [Ak (max ha.fDepth ((hd.length:Int)+1)),Ak (IntKind.wrap .i64 (ha.fBytes+hg)),rB (ha.fOutside||((decide (((Am v hb).fKind)=3))&&(!(ov (BQ ((Am v hb).fInt)))))),rB (ha.fLong||(decide (200<(((Am v hb).fStr).length:Int))))] 119,.blk b1 [Ak 0,Ak 0,rB false,rB false] 119,.row h9 151 5 (A1 AE (hd++([(AH.mk (decide (((Am v hb).fKind)=6)) ((Am v hb).fN) (decide (((Am v hb).fKind)=6)) ([]:Ae) false)]:List AH))),.row (.slice (some ⟨g3,0,none⟩) 1 1) 151 5 (A1 AE ([(AH.mk (decide (((Am v hb).fKind)=6)) ((Am v hb).fN) (decide (((Am v hb).fKind)=6)) ([]:Ae) false)]:List AH)),.blk hf (Ac (Am v hb)) 63]) ((Al (i:=3) Aa).trans (Abe _ ((Al (i:=3) Aa).trans (Abe _ (Abg _))))) (Au (AD ((hd++([(AH.mk (decide (((Am v hb).fKind)=6)) ((Am v hb).fN) (decide (((Am v hb).fKind)=6)) ([]:Ae) false)]:List AH),(AT.mk (max ha.fDepth ((hd.length:Int)+1)) (IntKind.wrap .i64 (ha.fBytes+hg)) (ha.fOutside||((decide (((Am v hb).fKind)=3))&&(!(ov (BQ ((Am v hb).fInt)))))) (ha.fLong||(decide (200<(((Am v hb).fStr).length:Int)))))),h9) g5 (AM.c Aa (AM.c Aa (AM.c5 Aa Aa Aa Aa Aa AM.nil))) (sC (sC (sC (sS (sS sN))))))))))))
      ·refine Ap (AJ (Af (wm Aa (ob gy λhw g6 g7=>GX (Hr:=[.blk hf (Ac (Am v hb)) 63,.blk b2 [Ak (max ha.fDepth ((hd.length:Int)+1)),Ak (IntKind.wrap .i64 (ha.fBytes+hg)),rB (ha.fOutside||((decide (((Am v hb).fKind)=3))&&(!(ov (BQ ((Am v hb).fInt)))))),rB (ha.fLong||(decide (200<(((Am v hb).fStr).length:Int))))] 119,.blk b1 [Ak 0,Ak 0,rB false,rB false] 119]) Tryz.call108 (Un F he hd hw g6) Aa ((Al (i:=3) Aa).trans (Abe _ (Abg _))) Aa ?_))));rintro _ _ ⟨hz,rfl,rfl⟩;refine wa Aa (Bs (wm Aa (wv (D4 (ys:=hw) (enc:=AE) (i:=0) Jt Aa Aa) (wv (BE Aa Aa) (Ao (cz g7 Aa (λg8 g9=>?_) (λg8 gA=>?_)))))))
       ·refine Ai (ck g9 λgB gC=>It (H1:=[.row hz 151 5 (A1 AE hw),.blk hf (Ac (Am v hb)) 63,.blk b2 [Ak (max ha.fDepth ((hd.length:Int)+1)),Ak (IntKind.wrap .i64 (ha.fBytes+hg)),rB (ha.fOutside||((decide (((Am v hb).fKind)=3))&&(!(ov (BQ ((Am v hb).fInt)))))),rB (ha.fLong||(decide (200<(((Am v hb).fStr).length:Int))))] 119,.blk b1 [Ak (max ha.fDepth ((hd.length:Int)+1)),Ak (IntKind.wrap .i64 (ha.fBytes+hg)),rB (ha.fOutside||((decide (((Am v hb).fKind)=3))&&(!(ov (BQ ((Am v hb).fInt)))))),rB (ha.fLong||(decide (200<(((Am v hb).fStr).length:Int))))] 119]) [3,5,7] [⟨[],Ak hb,0⟩,⟨[0],Ak (hb+1),0⟩,⟨[],Bq [Ak (max ha.fDepth ((hd.length:Int)+1)),Ak (IntKind.wrap .i64 (ha.fBytes+hg)),rB (ha.fOutside||((decide (((Am v hb).fKind)=3))&&(!(ov (BQ ((Am v hb).fInt)))))),rB (ha.fLong||(decide (200<(((Am v hb).fStr).length:Int))))],1⟩,⟨[1],Ak (hb+1),0⟩,⟨[2],rv undef,2⟩,⟨[],rB true,0⟩] (rle [(5,_),(2,[.row hz 151 5 (A1 AE hw),.blk hf (Ac (Am v hb)) 63,.blk b2 [Ak (max ha.fDepth ((hd.length:Int)+1)),Ak (IntKind.wrap .i64 (ha.fBytes+hg)),rB (ha.fOutside||((decide (((Am v hb).fKind)=3))&&(!(ov (BQ ((Am v hb).fInt)))))),rB (ha.fLong||(decide (200<(((Am v hb).fStr).length:Int))))] 119,.blk b1 [Ak (max ha.fDepth ((hd.length:Int)+1)),Ak (IntKind.wrap .i64 (ha.fBytes+hg)),rB (ha.fOutside||((decide (((Am v hb).fKind)=3))&&(!(ov (BQ ((Am v hb).fInt)))))),rB (ha.fLong||(decide (200<(((Am v hb).fStr).length:Int))))] 119])]) [2,4,3] ?_ ?_)
        ·refine oq (Aq Aa) (oq (Bh Aa Aa gB) (of (Bw (i:=2) KA G4 Aa Aa Aa Aa) (oq (Av Aa) (L8 Aa (Rl (Eg (i:=3) G4 Aa Aa Aa (Bx.c Aa) Aa Aa (cs':=[Ak (max ha.fDepth ((hd.length:Int)+1)),Ak (IntKind.wrap .i64 (ha.fBytes+hg)),rB (ha.fOutside||((decide (((Am v hb).fKind)=3))&&(!(ov (BQ ((Am v hb).fInt)))))),rB (ha.fLong||(decide (200<(((Am v hb).fStr).length:Int))))]) Aa (H':=[.row hz 151 5 (A1 AE hw),.blk hf (Ac (Am v hb)) 63,.blk b2 [Ak (max ha.fDepth ((hd.length:Int)+1)),Ak (IntKind.wrap .i64 (ha.fBytes+hg)),rB (ha.fOutside||((decide (((Am v hb).fKind)=3))&&(!(ov (BQ ((Am v hb).fInt)))))),rB (ha.fLong||(decide (200<(((Am v hb).fStr).length:Int))))] 119,.blk b1 [Ak (max ha.fDepth ((hd.length:Int)+1)),Ak (IntKind.wrap .i64 (ha.fBytes+hg)),rB (ha.fOutside||((decide (((Am v hb).fKind)=3))&&(!(ov (BQ ((Am v hb).fInt)))))),rB (ha.fLong||(decide (200<(((Am v hb).fStr).length:Int))))] 119]) Aa)) ?_))));refine oq (Av Aa) ?_;exact CE
        refine AJ (As (A3 (Ad (Ad (Bc ?_)))));have gD:=Bz gC hx hy;refine A3 (Ad (JW ?_));obtain rfl:=At gD;exact Ar (MM V5 (AB Aa) (Cy (i:=3) KA G4 Aa Aa Aa) (AB Aa)) (sS (sS (sS (sS sN)))) ⟨Aa,Aa⟩
       ·exact Ap (AF (BO (H2:=[.blk b2 [Ak (max ha.fDepth ((hd.length:Int)+1)),Ak (IntKind.wrap .i64 (ha.fBytes+hg)),rB (ha.fOutside||((decide (((Am v hb).fKind)=3))&&(!(ov (BQ ((Am v hb).fInt)))))),rB (ha.fLong||(decide (200<(((Am v hb).fStr).length:Int))))] 119,.blk b1 [Ak 0,Ak 0,rB false,rB false] 119,.row hz 151 5 (A1 AE hw),.blk hf (Ac (Am v hb)) 63]) ((Al (i:=2) Aa).trans (Abe _ ((Al (i:=2) Aa).trans (Abe _ (Abg _))))) (Au (AD ((hw,(AT.mk (max ha.fDepth ((hd.length:Int)+1)) (IntKind.wrap .i64 (ha.fBytes+hg)) (ha.fOutside||((decide (((Am v hb).fKind)=3))&&(!(ov (BQ ((Am v hb).fInt)))))) (ha.fLong||(decide (200<(((Am v hb).fStr).length:Int)))))),hz) gA (AM.c Aa (AM.c Aa (AM.c5 Aa Aa Aa Aa Aa AM.nil))) (sC (sC (sC (sS sN))))))))
   ·rintro⟨⟨h6,h7⟩,h8⟩ h2;refine Cd (l':=[(0,AX 4 (A1 Ac v)),(3,rP b1 0),(5,rP b2 0),(6,rv h8),(11,AX 4 (A1 Ac v)),(12,Ak (v.length:Int)),(13,Ak hb)]) (H':=[.blk b2 (Bd h7) 119,.blk b1 [Ak 0,Ak 0,rB false,rB false] 119,.row h8 151 5 (A1 AE h6)]) Aa Aa ?_;replace h2:EN hb h6 h7=some h4:=h2;unfold EN at h2;refine Ah (ck h2 λgE gF=>wv (Bh Aa Aa gE) (wm Aa (Aj ?_)));have gG:=Bg gF hx;exact Au (AD (hD,(h6,hb+1,h7),h8) ⟨gG,Abo _⟩ (AM.c Aa (AM.c Aa (AM.c5 Aa Aa Aa Aa Aa AM.nil))) (sC (sC (sC sN))))
  ·refine BB (A2 ?_);have gH:=Cb hH hx hy;exact A2 (Bn (AD (ha,()) gH (AM.c Aa (AM.c Aa AM.nil)) (sC (sC (sS sN)))))
 ·rintro⟨hq,⟨⟩⟩ h3;refine C4 (l':=[(3,rP b1 0),(5,rP b2 0)]) (H':=[.blk b2 (Bd hq) 119,.blk b1 [Ak 0,Ak 0,rB false,rB false] 119]) Aa Aa ?_;replace h3:Lm hq=some r:=h3;unfold Lm at h3;refine Bi (AJ (Ai (It (H1:=[.blk b2 (Bd hq) 119,.blk b1 (Bd hq) 119]) [3,5] [⟨[],Bq (Bd hq),1⟩,⟨[],Ak 0,0⟩,⟨[0],rv undef,2⟩,⟨[],rB false,0⟩] (rle [(3,_),(2,[.blk b2 (Bd hq) 119,.blk b1 (Bd hq) 119])]) [2,4,3] ?_ ?_)))
  ·refine of (Bw (i:=0) KA G4 Aa Aa Aa Aa) (oq (Av Aa) (L8 Aa (Rl (Eg (i:=1) G4 Aa Aa Aa (Bx.c Aa) Aa Aa (cs':=[Ak hq.fDepth,Ak hq.fBytes,rB hq.fOutside,rB hq.fLong]) Aa (H':=[.blk b2 (Bd hq) 119,.blk b1 (Bd hq) 119]) Aa)) ?_));refine oq (Av Aa) ?_;exact CE
  refine AJ (As (JW ?_));obtain rfl:=At h3;exact Ar (MM V5 (AB Aa) (Cy (i:=1) KA G4 Aa Aa Aa) (AB Aa)) (sS (sS sN)) ⟨Aa,Aa⟩
theorem Lr (F:Nat)(v:(List Ab))(r:Int)(h:JA F v=some r):Fn Tryz.prog GE 44 [AX 4 (A1 Ac v)] [] (λR H=>R=Ak r∧H=[]):=by
 refine enter (n:=42) Tryz.func44 Aa Tryz.ntmps44 Aa (λw Z=>?_);unfold JA at h;refine Af (wa Aa (Bs (wm Aa (ob h λr1 e3 h2=>Cn Tryz.call74 (P8 F v r1 e3) Aa (wm Aa (wv (AA Aa Aa) (wv (AA Aa Aa) (wv (AA Aa Aa) (Ce (cs:=[Ak 0,Ak 0,rB false,rB false]) Qx Aa Aa (λb4=>?_))))))))));refine wa Aa (AP (i:=0) G4 Aa Aa Aa (Bx.c Aa) Aa Aa (cs':=[Ak r1.2.1.fDepth,Ak r1.2.1.fBytes,rB r1.2.1.fOutside,rB r1.2.1.fLong]) Aa (H':=[.blk b4 (Bd r1.2.1) 119]) Aa (wa Aa (Ao (Ai (AL (AG [(0,AX 4 (A1 Ac v)),(4,rP b4 0),(12,rB ((!r1.2.2)||(!decide (r1.1=(v.length:Int)))))] [.blk b4 (Bd r1.2.1) 119] ?_ ?_))))))
 ·refine Ah (wm Aa (wv (BW Aa) (wm Aa (AO (!r1.2.2) (λc5=>?_) (λc5=>?_)))))
  ·refine wf c5 (wf c5 (wf c5 (wf c5 (wv (r:=rB true) (Ax Aa c5 Aa) (wa Aa (Aj ?_))))));exact Cc c5
  ·refine wo c5 (wm Aa (wo c5 (wm Aa (wo c5 (wv (Bv (ys:=v) (enc:=Ac) BK Aa) (wo c5 (wv (CR Aa Aa) (Ea Aa c5 Aa (wa Aa (Aj ?_))))))))));exact Cc c5
 refine cz h2 Aa (λc6 h7=>?_) (λc6 h8=>?_)
 ·refine Af (wa Aa (Ao (As (A3 (Ad ?_)))));obtain rfl:=At h7;exact Ar (BY XP (AB Aa)) (sS sN) ⟨Aa,Aa⟩
 ·refine Af (vF Gc Aa IZ (vL 0 Vw Aa (wa Aa (Ao (cz h8 Aa (λc9 he=>?_) (λc9 hf=>?_))))))
  ·refine Af (wa Aa (Ao (As (A3 (Ad ?_)))));obtain rfl:=At he;exact Ar (BY XP (AB Aa)) (sS sN) ⟨Aa,Aa⟩
  ·refine AG [(24,rB (r1.2.1.fLong||((decide (200<(v.length:Int)))||((decide (8<r1.2.1.fDepth))||(decide (4000<r1.2.1.fBytes))))))] [] ?_ ?_
   ·refine Ah (vF Gc Aa IZ (vL 0 Vw Aa (wm Aa (AO (r1.2.1.fLong) (λha=>?_) (λha=>?_)))))
    ·refine wf ha (wf ha (wf ha (wv (r:=rB true) (Ax Aa ha Aa) (wm Aa (wz Aa Aa (wz Aa Aa (wz Aa Aa (wv (r:=rB true) (Ax (b:=true) Aa Aa Aa) (wm Aa (wz Aa Aa (wz Aa Aa (wz Aa Aa (wv (r:=rB true) (Ax (b:=true) Aa Aa Aa) (wa Aa (Aj ?_)))))))))))))));exact Cc ha
    ·refine wo ha (wm Aa (wo ha (wv (Bv (ys:=v) (enc:=Ac) BK Aa) (wo ha (wv (Cv Aa Aa) (Ea Aa ha Aa (wm Aa (AO (decide (200<(v.length:Int))) (λhb=>?_) (λhb=>?_)))))))))
     ·refine wf hb (wf hb (wf hb (wv (r:=rB true) (Ax Aa hb Aa) (wm Aa (wz Aa Aa (wz Aa Aa (wz Aa Aa (wv (r:=rB true) (Ax (b:=true) Aa Aa Aa) (wa Aa (Aj ?_))))))))));exact Cc (And.intro ha hb)
     ·refine wo hb (vF Gc Aa Ct (wo hb (vL 0 Dm Aa (wo hb (wv (Cv Aa Aa) (Ea Aa hb Aa (wm Aa (AO (decide (8<r1.2.1.fDepth)) (λhd=>?_) (λhd=>?_)))))))))
      ·refine wf hd (wf hd (wf hd (wv (r:=rB true) (Ax Aa hd Aa) (wa Aa (Aj ?_)))));exact Cc (And.intro ha (And.intro hb hd))
      ·refine wo hd (vF Gc Aa Ct (wo hd (vL 0 Dm Aa (wo hd (wv (Cv Aa Aa) (Ea Aa hd Aa (wa Aa (Aj ?_))))))));exact Cc (And.intro ha (And.intro hb hd))
   refine cz hf Aa (λhg hh=>?_) (λhg hi=>?_)
   ·refine Af (wa Aa (Ao (As (A3 (Ad ?_)))));obtain rfl:=At hh;exact Ar (BY XP (AB Aa)) sN ⟨Aa,Aa⟩
   ·refine Ap (AF (AJ (Af (wa Aa (Ao (As ?_))))));obtain rfl:=At hi;exact Ar (BY XP (AB Aa)) sN ⟨Aa,Aa⟩
theorem Sk (F:Nat)(v:(List Ab))(r:(List Ab)×Int)(h:Lq F v=some r):Fn Tryz.prog GE 100 [AX 4 (A1 Ac v)] [] (λR H=>R=Cs [AX 4 (A1 Ac r.1),Ak r.2]∧H=[]):=by
 refine enter (n:=11) Tryz.func100 Aa Tryz.ntmps100 Aa (λw Z=>?_);unfold Lq at h;refine Af (wa Aa (wa Aa (Ao (Ai (Af (wm Aa (ob h λr1 e3 h2=>Cn Tryz.call44 (Lr F v r1 e3) Aa (wa Aa (Bs (wm Aa (wv (CR Aa Aa) (Ao (cz h2 Aa (λc4 h5=>?_) (λc4 h6=>?_))))))))))))))
 ·refine Af (wm Aa (wa Aa (wa Aa (Ao (As (Ad (WK.up (d:=2) (r:=AX 4 (A1 Ac ([]:List Ab))) Aa (Up.le (DZ.nil _)) ?_)))))));obtain rfl:=At h5;exact Ar (CS Tryz.results100 (AB Aa) (AB Aa)) sN ⟨Aa,Aa⟩
 ·refine Ap (AJ (Af (wm Aa (wa Aa (wa Aa (Ao (As ?_)))))));obtain rfl:=At h6;exact Ar (CS Tryz.results100 (AB Aa) (AB Aa)) sN ⟨Aa,Aa⟩
theorem P7  (r:(List Ab))(h:QH=some r):Fn Tryz.prog GE 54 [] [] (λR H=>R=AX 4 (A1 Ac r)∧H=[]):=by
 refine enter (n:=3) Tryz.func54 Aa Tryz.ntmps54 Aa (λw Z=>?_);unfold QH at h;refine Af (wa Aa (Bs (wv (r:=Bq [Ak 1,Ak 0,rS ([]:Ae),Ak 0]) (D5 Aa Aa) (AQ (ys:=([(Ab.mk 1 0 ([]:Ae) 0)]:List Ab)) (enc:=Ac) (css:=[[Ak 1,Ak 0,rS ([]:Ae),Ak 0]]) (xs:=[.tmp 1]) BK BU Eb Aa Aa Aa ⟨Eo.agg ⟨Up.refl _,Up.refl _,Up.refl _,Up.refl _,trivial⟩,trivial⟩ Aa AR Aa Aa Aa (λb1=>?_)))));refine wa Aa (Ao (As (WK.freeze (i:=0) Aa (WK.up (d:=0) (r:=AX 4 (A1 Ac ([(Ab.mk 1 0 ([]:Ae) 0)]:List Ab))) Aa (Up.fact (i:=0) Aa) ?_))));obtain rfl:=At h;exact Ar (BY Tryz.results54 (AB Aa)) (sS sN) ⟨Aa,Aa⟩
theorem Ti (b:Bool)(r:(List Ab))(h:Tj b=some r):Fn Tryz.prog GE 80 [rB b] [] (λR H=>R=AX 4 (A1 Ac r)∧H=[]):=by
 refine enter (n:=9) Tryz.func80 Aa Tryz.ntmps80 Aa (λw Z=>?_);unfold Tj at h;refine Af (wa Aa (Bs (wv (r:=Bq [Ak 2,Ak 0,rS ([]:Ae),Ak 0]) (D5 Aa Aa) (Ce (cs:=[Ak 0,Ak 0,rS ([]:Ae),Ak 0]) Eb Aa Aa (λb1=>?_)))));refine AP (i:=0) BU Aa Aa Aa (Bx.c Aa) Aa Aa (cs':=[Ak 2,Ak 0,rS ([]:Ae),Ak 0]) Aa (H':=[.blk b1 [Ak 2,Ak 0,rS ([]:Ae),Ak 0] 63]) Aa (Ao (Ai (Af (wm Aa (Ao (cz h Aa (λc2 h3=>?_) (λc2 h5=>?_)))))))
 ·refine Ah (vF BA Aa Ct (BC (i:=0) Ct Aa Aa (Cl Aa) Aa Aa (cs':=[Ak 2,Ak 1,rS ([]:Ae),Ak 0]) Aa (H':=[.blk b1 [Ak 2,Ak 1,rS ([]:Ae),Ak 0] 63]) Aa (Bs (wv (Bw (i:=0) J7 BU Aa Aa Aa Aa) (AQ (ys:=([(Ab.mk 2 1 ([]:Ae) 0)]:List Ab)) (enc:=Ac) (css:=[[Ak 2,Ak 1,rS ([]:Ae),Ak 0]]) (xs:=[.tmp 7]) BK BU Eb Aa Aa Aa ⟨Eo.agg ⟨Up.refl _,Up.refl _,Up.refl _,Up.refl _,trivial⟩,trivial⟩ Aa AR Aa Aa Aa (λb4=>?_))))));refine wa Aa (Ao (As (WK.freeze (i:=0) Aa (WK.up (d:=2) (r:=AX 4 (A1 Ac ([(Ab.mk 2 1 ([]:Ae) 0)]:List Ab))) Aa (Up.fact (i:=0) Aa) ?_))));obtain rfl:=At h3;exact Ar (BY Tryz.results80 (AB Aa)) (sS (sS sN)) ⟨Aa,Aa⟩
 ·refine Ap (AJ (Af (wv (Bw (i:=0) J7 BU Aa Aa Aa Aa) (AQ (ys:=([(Ab.mk 2 0 ([]:Ae) 0)]:List Ab)) (enc:=Ac) (css:=[[Ak 2,Ak 0,rS ([]:Ae),Ak 0]]) (xs:=[.tmp 7]) BK BU Eb Aa Aa Aa ⟨Eo.agg ⟨Up.refl _,Up.refl _,Up.refl _,Up.refl _,trivial⟩,trivial⟩ Aa AR Aa Aa Aa (λb6=>?_)))));refine wa Aa (Ao (As (WK.freeze (i:=0) Aa (WK.up (d:=2) (r:=AX 4 (A1 Ac ([(Ab.mk 2 0 ([]:Ae) 0)]:List Ab))) Aa (Up.fact (i:=0) Aa) ?_))));obtain rfl:=At h5;exact Ar (BY Tryz.results80 (AB Aa)) (sS (sS sN)) ⟨Aa,Aa⟩
end Go.Proofs.YtogdediiodmnbaaGreatDoor.Q
namespace Go.Proofs.YtogdediiodmnbaaGreatDoor
open Go
set_option linter.unusedVariables false
def DE (s:Ae)(ha:Int)(hb:Ae):Option (Stp (Int×Ae) (Out (Ae) (Ae))):=
 Bl (decide (ha<(s.length:Int))) (AY (Cp ha (s.length:Int))<|Bl (((decide ((Be s ha)=34))||(decide ((Be s ha)=92)))) (AY (Dz 1 (hb.length+1))<|AY (B2 .u8 92)<|Lc (hb++[UInt8.ofNat (Int.toNat 92)]) λhd=>AY (Dz 1 (hd.length+1))<|AY (B2 .u8 (Be s ha))<|Lc (hd++[UInt8.ofNat (Int.toNat (Be s ha))]) λhe=>AY (B2 .i64 (ha+1))<|some (.next (ha+1,he))) (AY (Dz 1 (hb.length+1))<|AY (B2 .u8 (Be s ha))<|Lc (hb++[UInt8.ofNat (Int.toNat (Be s ha))]) λhf=>AY (B2 .i64 (ha+1))<|some (.next (ha+1,hf)))) (some (.out (.go hb)))
def Ge (ha:Ae):Option (Ae):=
 AY (Dz 1 (ha.length+1))<|Lc (ha++[UInt8.ofNat (Int.toNat 34)]) λhb=>some hb
def KL (F:Nat)(l:Ae)(s:Ae):Option (Ae):=
 AY (Dz 1 (l.length+1))<|AY (B2 .u8 34)<|Lc (l++[UInt8.ofNat (Int.toNat 34)]) λr6=>B0 (Ca (λσ=>DE s σ.1 σ.2) F (0,r6)) (BT λν=>Ge ν)
def Ka (F:Nat)(hm:Ae→(List Ab)→Bool→Ae→Ab→Option (Bool×Bool×Ae))(ha:(List Ab)→Bool→Ae→Ab→Option (Bool×Ae))(l:Ae)(v:(List Ab)):Option (Ae):=
 AY (Cp 0 (v.length:Int))<|Bl (decide (((Am v 0).fKind)=1)) (AY (Dz 1 (l.length+([110,117,108,108]:Ae).length))<|Lc (l++([110,117,108,108]:Ae)) λhe=>some he) (Bl (decide (((Am v 0).fKind)=2)) (AY (Cp ((Am v 0).fInt) (([([102,97,108,115,101]:Ae),([116,114,117,101]:Ae)]:List Ae).length:Int))<|AY (Dz 1 (l.length+(Am ([([102,97,108,115,101]:Ae),([116,114,117,101]:Ae)]:List Ae) ((Am v 0).fInt)).length))<|Lc (l++(Am ([([102,97,108,115,101]:Ae),([116,114,117,101]:Ae)]:List Ae) ((Am v 0).fInt))) λhf=>some hf) (Bl (decide (((Am v 0).fKind)=3)) (AY (B2 .i64 ((Am v 0).fInt))<|AY (Dz 1 (l.length+(Lib.itoa ((Am v 0).fInt)).length))<|Lc (l++(Lib.itoa ((Am v 0).fInt))) λhg=>some hg) (Bl (decide (((Am v 0).fKind)=4)) (B0 (KL F l ((Am v 0).fStr)) λhh=>some hh) (Bl (decide (((Am v 0).fKind)=6)) (AY (Cp 0 (([123,125]:Ae).length:Int))<|AY (Dz 1 (l.length+1))<|AY (B2 .u8 (Be ([123,125]:Ae) 0))<|Lc (l++[UInt8.ofNat (Int.toNat (Be ([123,125]:Ae) 0))]) λhi=>B0 (ha v true hi (Am v 0)) λhb=>AY (Cp 1 (([123,125]:Ae).length:Int))<|AY (Dz 1 (hb.2.length+1))<|AY (B2 .u8 (Be ([123,125]:Ae) 1))<|Lc (hb.2++[UInt8.ofNat (Int.toNat (Be ([123,125]:Ae) 1))]) λhj=>some hj) (AY (Cp 0 (([91,93]:Ae).length:Int))<|AY (Dz 1 (l.length+1))<|AY (B2 .u8 (Be ([91,93]:Ae) 0))<|Lc (l++[UInt8.ofNat (Int.toNat (Be ([91,93]:Ae) 0))]) λhk=>B0 (ha v true hk (Am v 0)) λhd=>AY (Cp 1 (([91,93]:Ae).length:Int))<|AY (Dz 1 (hd.2.length+1))<|AY (B2 .u8 (Be ([91,93]:Ae) 1))<|Lc (hd.2++[UInt8.ofNat (Int.toNat (Be ([91,93]:Ae) 1))]) λhl=>some hl)))))
def Lj (F:Nat)(ha:Ae→(List Ab)→Option (Ae))(key:Ae)(x:(List Ab))(first:Bool)(l:Ae)(c:Ab):Option (Bool×Bool×Ae):=
 Bl (!first) (AY (Dz 1 (l.length+1))<|AY (B2 .u8 44)<|Lc (l++[UInt8.ofNat (Int.toNat 44)]) λr8=>Bl (decide (c.fKind=6)) (B0 (KL F r8 key) λhb=>AY (Dz 1 (hb.length+1))<|AY (B2 .u8 58)<|Lc (hb++[UInt8.ofNat (Int.toNat 58)]) λhe=>B0 (ha he x) λhf=>some (true,false,hf)) (B0 (ha r8 x) λhg=>some (true,false,hg))) (Bl (decide (c.fKind=6)) (B0 (KL F l key) λhd=>AY (Dz 1 (hd.length+1))<|AY (B2 .u8 58)<|Lc (hd++[UInt8.ofNat (Int.toNat 58)]) λhh=>B0 (ha hh x) λhi=>some (true,false,hi)) (B0 (ha l x) λhj=>some (true,false,hj)))
def DT (F:Nat)(v:(List Ab))(c:Ab)(hj:Ae→(List Ab)→Bool→Ae→Ab→Option (Bool×Bool×Ae))(ha:Int)(hb:Int)(hh:Bool)(hi:Ae):Option (Stp (Int×Int×Bool×Ae) (Out (Bool×Ae) (Bool×Ae))):=
 Bl (decide (hb<((Am v 0).fN))) (Bl (decide (((Am v 0).fKind)=6)) (AY (Cp ha (v.length:Int))<|AY (B2 .i64 (ha+1))<|AY (HX (ha+1) (v.length:Int))<|B0 (Jw F (List.drop (Int.toNat (ha+1)) v)) λhd=>AY (B2 .i64 ((ha+1)+hd.1))<|AY (HX (ha+1) ((ha+1)+hd.1))<|AY (HX ((ha+1)+hd.1) (v.length:Int))<|B0 (hj ((Am v ha).fStr) (List.take (Int.toNat ((ha+1)+hd.1)-Int.toNat (ha+1)) (List.drop (Int.toNat (ha+1)) v)) hh hi c) λhe=>Bl (!he.1) (some (.out (.ret (he.2.1,he.2.2)))) (AY (B2 .i64 (hb+1))<|some (.next ((ha+1)+hd.1,hb+1,he.2.1,he.2.2)))) (AY (HX ha (v.length:Int))<|B0 (Jw F (List.drop (Int.toNat ha) v)) λhf=>AY (B2 .i64 (ha+hf.1))<|AY (HX ha (ha+hf.1))<|AY (HX (ha+hf.1) (v.length:Int))<|B0 (hj ([]:Ae) (List.take (Int.toNat (ha+hf.1)-Int.toNat ha) (List.drop (Int.toNat ha) v)) hh hi c) λhg=>Bl (!hg.1) (some (.out (.ret (hg.2.1,hg.2.2)))) (AY (B2 .i64 (hb+1))<|some (.next (ha+hf.1,hb+1,hg.2.1,hg.2.2))))) (some (.out (.go (hh,hi))))
def HD (ha:Bool)(hb:Ae):Option (Bool×Ae):=
 some (ha,hb)
def I6 (F:Nat)(ha:Ae→(List Ab)→Bool→Ae→Ab→Option (Bool×Bool×Ae))(v:(List Ab))(first:Bool)(l:Ae)(c:Ab):Option (Bool×Ae):=
 AY (Cp 0 (v.length:Int))<|B0 (Ca (λσ=>DT F v c ha σ.1 σ.2.1 σ.2.2.1 σ.2.2.2) F (1,0,first,l)) (BT λν=>HD ν.1 ν.2)
mutual
def GA:Nat→Ae→(List Ab)→Option (Ae)
 | 0,_,_=>none
 | nn+1,l,v=>Ka nn (EW nn) (Hj nn) l v
def EW:Nat→Ae→(List Ab)→Bool→Ae→Ab→Option (Bool×Bool×Ae)
 | 0,_,_,_,_,_=>none
 | nn+1,key,x,first,l,c=>Lj nn (GA nn) key x first l c
def Hj:Nat→(List Ab)→Bool→Ae→Ab→Option (Bool×Ae)
 | 0,_,_,_,_=>none
 | nn+1,v,first,l,c=>I6 nn (EW nn) v first l c
end
def Ln (F:Nat)(v:(List Ab)):Option (Ae×Int):=
 B0 (JA F v) λr1=>Bl (!decide (r1=0)) (some (([]:Ae),r1)) (B0 (GA F ([]:Ae) v) λr8=>AY (decide (0<r8.length))<|some (r8,0))
end Go.Proofs.YtogdediiodmnbaaGreatDoor
namespace Go.Proofs.YtogdediiodmnbaaGreatDoor.Q
open Go Go.RowKit
set_option linter.unusedVariables false
set_option linter.unusedSimpArgs false
set_option maxRecDepth 100000
set_option maxHeartbeats 4000000
theorem NB (F:Nat)(ha:Nat)(hk:Value)(l:Ae)(s:Ae)(r:Ae)(h:KL F l s=some r):Fn Tryz.prog GE 118 [rP ha 0,rS s] [.bld 131 5 ha hk l] (λR H=>∃w0b:Value,R=rv (.tuple #[])∧H=[.bld 131 5 ha w0b r]):=by
 refine enter (n:=32) Tryz.func118 Aa Tryz.ntmps118 Aa (λw Z=>?_);unfold KL at h;refine Af (wm Aa (ck h λg1 h2=>ck h2 λg3 h4=>CB (rs:=[rP ha 0,rI .u8 34]) (Hin:=[.bld 131 5 ha hk l]) (Hr:=[]) Jv Aa (Abg _) (CH ha hk l 34 g1 g3) Aa ?_));rintro _ _ ⟨v5,rfl,rfl⟩;refine bd h4 λr6 e8 h7=>?_;rw[← e8];refine Ao (Ai (Af (wm Aa (wv (Bm BZ Aa) (wv (r:=Ak 0) (Aq Aa) (Ao (AL (ob h7 λhq hr hs=>B4 (S:=Nat×(Int×Ae)×(Value)) (V:=(Ae)×(Value)) 0 (λσ=>Ca (λσ=>DE s σ.1 σ.2) σ.1 σ.2.1=some hq) (λσ=>[(0,rP ha 0),(1,rS s),(8,Ak (s.length:Int)),(9,Ak σ.2.1.1)]) (λσ=>[.bld 131 5 ha σ.2.2 σ.2.1.2]) (λσ=>σ.1) (F,(0,r6),v5) hr (AM.c Aa (AM.c Aa (AM.c Aa (AM.c Aa AM.nil)))) (sC sN) (λσ=>Ge σ.1=some r) (λσ=>[(0,rP ha 0)]) (λσ=>[.bld 131 5 ha σ.2 σ.1]) ?_ ?_))))))))
 ·rintro⟨gf,⟨hb,he⟩,hf⟩ ht;refine Cd (l':=[(0,rP ha 0),(1,rS s),(8,Ak (s.length:Int)),(9,Ak hb)]) (H':=[.bld 131 5 ha hf he]) Aa Aa ?_;obtain⟨hn,rfl,t127,hg,hl⟩:=Cz ht;replace hg:DE s hb he=some t127:=hg;unfold DE at hg;refine Af (wv (Ch Aa Aa) (Ao (Ai (cz hg Aa (λhu hw=>?_) (λhu hx=>?_)))))
  ·refine Ap (AJ (Ai (AL (Af (wm Aa (wa Aa (Ao (Ai (ck hw λhh hy=>AG [(0,rP ha 0),(1,rS s),(4,Ak hb),(8,Ak (s.length:Int)),(9,Ak hb),(21,rB ((decide ((Be s hb)=34))||(decide ((Be s hb)=92))))] [.bld 131 5 ha hf he] ?_ ?_)))))))))
   ·refine Ah (wm Aa (wm Aa (wv (Bb BZ Aa Aa hh) (wv (BE Aa Aa) (wm Aa (AO (decide ((Be s hb)=34)) (λhd=>?_) (λhd=>?_)))))))
    ·refine wf hd (wf hd (wf hd (wf hd (wv (r:=rB true) (Ax Aa hd Aa) (Aj ?_)))));exact Cc hd
    ·refine wo hd (wm Aa (wo hd (wm Aa (wo hd (wv (Bb BZ Aa Aa hh) (wo hd (wv (BE Aa Aa) (Ea Aa hd Aa (Aj ?_)))))))));exact Cc hd
   refine cz hy Aa (λhz h0=>?_) (λhz h1=>?_)
   ·refine Ah (wm Aa (ck h0 λh3 h5=>ck h5 λh6 h8=>CB (rs:=[rP ha 0,rI .u8 92]) (Hin:=[.bld 131 5 ha hf he]) (Hr:=[]) Jv Aa (Abg _) (CH ha hf he 92 h3 h6) Aa ?_));rintro _ _ ⟨ho,rfl,rfl⟩;refine bd h8 λhp h9 hA=>?_;rw[← h9];refine Ao (Ah (wm Aa (wm Aa (wm Aa (wv (Bb BZ Aa Aa hh) (ck hA λhB hC=>ck hC λhD hE=>CB (rs:=[rP ha 0,rI .u8 (Be s hb)]) (Hin:=[.bld 131 5 ha ho hp]) (Hr:=[]) Jv Aa (Abg _) (CH ha ho hp (Be s hb) hB hD) Aa ?_))))));rintro _ _ ⟨hG,rfl,rfl⟩;refine bd hE λhH hI hJ=>?_;rw[← hI];refine Aj (AF (AJ (Ah (ck hJ λhK hL=>wv (Bh Aa Aa hK) (wm Aa (Aj ?_))))));have hN:=Bg hL hl;exact Au (AD (hn,(hb+1,hH),hG) ⟨hN,Abo _⟩ (AM.c Aa (AM.c Aa (AM.c Aa (AM.c Aa AM.nil)))) (sC sN))
   ·refine Ap (AJ (Ah (wm Aa (wm Aa (wm Aa (wv (Bb BZ Aa Aa hh) (ck h1 λhO hP=>ck hP λhQ hR=>CB (rs:=[rP ha 0,rI .u8 (Be s hb)]) (Hin:=[.bld 131 5 ha hf he]) (Hr:=[]) Jv Aa (Abg _) (CH ha hf he (Be s hb) hO hQ) Aa ?_)))))));rintro _ _ ⟨hS,rfl,rfl⟩;refine bd hR λhT hU hV=>?_;rw[← hU];refine Aj (AF (AJ (Ah (ck hV λhW hX=>wv (Bh Aa Aa hW) (wm Aa (Aj ?_))))));have hY:=Bg hX hl;exact Au (AD (hn,(hb+1,hT),hS) ⟨hY,Abo _⟩ (AM.c Aa (AM.c Aa (AM.c Aa (AM.c Aa AM.nil)))) (sC sN))
  ·refine BB (A2 ?_);have hZ:=Cb hx hl hs;exact A2 (Bn (AD (he,hf) hZ (AM.c Aa AM.nil) (sC sN)))
 ·rintro⟨hi,hm⟩ hj;refine C4 (l':=[(0,rP ha 0)]) (H':=[.bld 131 5 ha hm hi]) Aa Aa ?_;replace hj:Ge hi=some r:=hj;unfold Ge at hj;refine Bi (AJ (Ah (wm Aa (ck hj λga gb=>CB (rs:=[rP ha 0,rI .u8 34]) (Hin:=[.bld 131 5 ha hm hi]) (Hr:=[]) Jv Aa (Abg _) (CH ha hm hi 34 ga g3) Aa ?_))));rintro _ _ ⟨gc,rfl,rfl⟩;refine bd gb λgg gd ge=>?_;rw[← gd];refine Aj ?_;obtain rfl:=At ge;exact HB (Uv Tryz.results118) (sC sN) ⟨gc,Aa,Aa⟩
theorem Ug (F:Nat)(hl:Ae→(List Ab)→Bool→Ae→Ab→Option (Bool×Bool×Ae))(hm:(List Ab)→Bool→Ae→Ab→Option (Bool×Ae))(g6:(∀(hd:Nat) (he:Nat) (ha:Nat) (hb:Value) (hf:Nat) (key:Ae) (x:(List Ab)) (first:Bool) (l:Ae) (c:Ab) (r:Bool×Bool×Ae),hl key x first l c=some r→Fn Tryz.prog GE 121 [rS key,AX 4 (A1 Ac x),rP hd 0,rP he 0,rP hf 0] [.blk hd [rB first] 4,.blk he [rP ha 0] 128,.bld 131 5 ha hb l,.blk hf (Ac c) 63] (λR H=>∃w3b:Value,R=rB r.1∧H=[.blk hd [rB r.2.1] 4,.blk he [rP ha 0] 128,.bld 131 5 ha w3b r.2.2,.blk hf (Ac c) 63])))(hn:(∀(hd:Nat) (he:Nat) (ha:Nat) (hb:Value) (hf:Nat) (v:(List Ab)) (first:Bool) (l:Ae) (c:Ab) (r:Bool×Ae),hm v first l c=some r→Fn Tryz.prog GE 120 [AX 4 (A1 Ac v),rv (.func (.func 121) #[] #[(.pointer (some ⟨hd,0,none⟩)),(.pointer (some ⟨he,0,none⟩)),(.pointer (some ⟨hf,0,none⟩))])] [.blk hd [rB first] 4,.blk he [rP ha 0] 128,.bld 131 5 ha hb l,.blk hf (Ac c) 63] (λR H=>∃w1_1b:Value,R=rv (.tuple #[])∧H=[.blk hd [rB r.1] 4,.blk he [rP ha 0] 128,.bld 131 5 ha w1_1b r.2,.blk hf (Ac c) 63])))(ha:Nat)(hb:Value)(l:Ae)(v:(List Ab))(r:Ae)(h:Ka F hl hm l v=some r):Fn Tryz.prog GE 94 [rP ha 0,AX 4 (A1 Ac v)] [.bld 131 5 ha hb l] (λR H=>∃w0b:Value,R=rv (.tuple #[])∧H=[.bld 131 5 ha w0b r]):=by
 refine enter (n:=52) Tryz.func94 Aa Tryz.ntmps94 Aa (λw Z=>?_);unfold Ka at h;refine Af (YZ Aa (Cl Aa) Aa (λb1=>?_));refine Bs (wm Aa (ck h λg2 h3=>wv (B3 (enc:=Ac) (ys:=v) BK BU Aa Aa g2) (wv (DI J7 BU Aa Aa Aa) (Ce (cs:=[Ak 0,Ak 0,rS ([]:Ae),Ak 0]) Eb Aa Aa (λb4=>?_)))));refine AP (i:=0) BU Aa Aa Aa (Bx.c Aa) Aa Aa (cs':=[Ak ((Am v 0).fKind),Ak ((Am v 0).fInt),rS ((Am v 0).fStr),Ak ((Am v 0).fN)]) Aa (H':=[.blk b4 (Ac (Am v 0)) 63,.blk b1 [rP ha 0] 128,.bld 131 5 ha hb l]) Aa (Bs (vF BA Aa DQ (vL 0 Eh Aa (Ao (AL (Af (wv (BE Aa Aa) (wa Aa (Ao (cz h3 Aa (λc5 h6=>?_) (λc5 hr=>?_)))))))))))
 ·refine Ah (vL 1 Gd Aa (ck h6 λg7 h8=>CB (rs:=[rP ha 0,rS ([110,117,108,108]:Ae)]) (Hin:=[.bld 131 5 ha hb l]) (Hr:=[.blk b4 (Ac (Am v 0)) 63,.blk b1 [rP ha 0] 128]) Tryz.call117 Aa ((Al (i:=2) Aa).trans (Abe _ (Abg _))) (Is ha hb l ([110,117,108,108]:Ae) g7) Aa ?_));rintro _ _ ⟨v9,rfl,rfl⟩;refine bd h8 λg8 hs ht=>?_;rw[← hs];refine Aj (AF ?_);obtain rfl:=At ht;exact HB (Uv Ub) (sC (sS (sS sN))) ⟨v9,Aa,Aa⟩
 ·refine Af (wv (BE Aa Aa) (wa Aa (Ao (cz hr Aa (λhu hw=>?_) (λhu hx=>?_)))))
  ·refine ck hw λg16 hy=>JY (H1:=[.blk b4 (Ac (Am v 0)) 63,.blk b1 [rP ha 0] 128,.bld 131 5 ha hb l]) 6 [2,4] [⟨[],rP ha 0,1⟩,⟨[],AX 1 (A1 eS ([([102,97,108,115,101]:Ae),([116,114,117,101]:Ae)]:List Ae)),0⟩,⟨[],rP b4 1,0⟩,⟨[2],Ak ((Am v 0).fInt),1⟩,⟨[1,3],O5 [rS (Am ([([102,97,108,115,101]:Ae),([116,114,117,101]:Ae)]:List Ae) ((Am v 0).fInt))],0⟩,⟨[4],rS (Am ([([102,97,108,115,101]:Ae),([116,114,117,101]:Ae)]:List Ae) ((Am v 0).fInt)),0⟩] (rle [(7,_)]) [32,33,34,35,36,37,2,4] ?_ ?_
   ·refine of (Bj (i:=1) Gd Aa Aa Aa) (DH Aa (λH=>GJ (ys:=([([102,97,108,115,101]:Ae),([116,114,117,101]:Ae)]:List Ae)) (enc:=eS) (css:=[[rS ([102,97,108,115,101]:Ae)],[rS ([116,114,117,101]:Ae)]]) (xs:=[.const (.string ⟨#[102,97,108,115,101]⟩),.const (.string ⟨#[116,114,117,101]⟩)]) Db CG XC Aa Aa Aa ⟨Eo.one Aa (Up.refl _),Eo.one Aa (Up.refl _),trivial⟩ Aa Gb Aa Aa) ?_);refine oq (AC BA Aa Ct Aa Aa) (of (Bj (i:=0) Dm Aa Aa Aa) (oq (B3 (enc:=eS) (ys:=([([102,97,108,115,101]:Ae),([116,114,117,101]:Ae)]:List Ae)) Db CG Aa Aa g16) (oq (Bo CV Aa Aa) ?_)));exact CE
   refine ck hy λg18 hz=>CB (rs:=[rP ha 0,rS (Am ([([102,97,108,115,101]:Ae),([116,114,117,101]:Ae)]:List Ae) ((Am v 0).fInt))]) (Hin:=[.bld 131 5 ha hb l]) (Hr:=[.blk b4 (Ac (Am v 0)) 63,.blk b1 [rP ha 0] 128]) Tryz.call117 Aa ((Al (i:=2) Aa).trans (Abe _ (Abg _))) (Is ha hb l (Am ([([102,97,108,115,101]:Ae),([116,114,117,101]:Ae)]:List Ae) ((Am v 0).fInt)) g18) Aa ?_;rintro _ _ ⟨v20,rfl,rfl⟩;refine bd hz λg9 h0 h1=>?_;rw[← h0];refine Aj (AF ?_);obtain rfl:=At h1;exact HB (Uv Ub) (sC (sS (sS sN))) ⟨v20,Aa,Aa⟩
  ·refine Af (wv (BE Aa Aa) (wa Aa (Ao (cz hx Aa (λh2 h4=>?_) (λh2 h5=>?_)))))
   ·refine ck h4 λh7 h9=>JY (H1:=[.blk b4 (Ac (Am v 0)) 63,.blk b1 [rP ha 0] 128,.bld 131 5 ha hb l]) 4 [2,4] [⟨[],rP ha 0,1⟩,⟨[],rP b4 1,0⟩,⟨[1],Ak ((Am v 0).fInt),1⟩,⟨[2],rS (Lib.itoa ((Am v 0).fInt)),0⟩] (rle [(5,_)]) [41,42,43,44,2,4] ?_ ?_
    ·refine of (Bj (i:=1) Gd Aa Aa Aa) (oq (AC BA Aa Ct Aa Aa) (of (Bj (i:=0) Dm Aa Aa Aa) (DH Aa (λH=>JG (rs:=[Ak ((Am v 0).fInt)]) (r:=rS (Lib.itoa ((Am v 0).fInt))) Tryz.call60 Aa (On ((Am v 0).fInt) h7) Aa) ?_)));exact CE
    refine ck h9 λhA hB=>CB (rs:=[rP ha 0,rS (Lib.itoa ((Am v 0).fInt))]) (Hin:=[.bld 131 5 ha hb l]) (Hr:=[.blk b4 (Ac (Am v 0)) 63,.blk b1 [rP ha 0] 128]) Tryz.call117 Aa ((Al (i:=2) Aa).trans (Abe _ (Abg _))) (Is ha hb l (Lib.itoa ((Am v 0).fInt)) hA) Aa ?_;rintro _ _ ⟨hC,rfl,rfl⟩;refine bd hB λgA hD hE=>?_;rw[← hD];refine Aj (AF ?_);obtain rfl:=At hE;exact HB (Uv Ub) (sC (sS (sS sN))) ⟨hC,Aa,Aa⟩
   ·refine Af (wv (BE Aa Aa) (wa Aa (Ao (cz h5 Aa (λhG hH=>?_) (λhG hI=>?_)))))
    ·refine Ah (vL 1 Gd Aa (vF BA Aa CG (vL 0 CV Aa (ob hH λhJ hK hL=>GX (Hr:=[.blk b4 (Ac (Am v 0)) 63,.blk b1 [rP ha 0] 128]) Tryz.call118 (NB F ha hb l ((Am v 0).fStr) hJ hK) Aa ((Al (i:=2) Aa).trans (Abe _ (Abg _))) Aa ?_))));rintro _ _ ⟨v41,rfl,rfl⟩;refine Aj (AF ?_);obtain rfl:=At hL;exact HB (Uv Ub) (sC (sS (sS sN))) ⟨v41,Aa,Aa⟩
    ·refine Af (wv (r:=rS ([91,93]:Ae)) (Av Aa) (Ao (Ai (Af (vF BA Aa DQ (vL 0 Eh Aa (wv (BE Aa Aa) (Ao (cz hI Aa (λhN hO=>?_) (λhN hP=>?_))))))))))
     ·refine Ah (wv (r:=rS ([123,125]:Ae)) (Av Aa) (Ao (Ai (ck hO λhQ hR=>JY (H1:=[.blk b4 (Ac (Am v 0)) 63,.blk b1 [rP ha 0] 128,.bld 131 5 ha hb l]) 3 [1,2,4,5] [⟨[],rP ha 0,1⟩,⟨[],rS ([123,125]:Ae),0⟩,⟨[1],rI .u8 (Be ([123,125]:Ae) 0),0⟩] (rle [(4,_)]) [15,16,17,1,2,4,5] ?_ ?_))))
      ·refine of (Bj (i:=1) Gd Aa Aa Aa) (oq (Aq Aa) (oq (Bb BZ Aa Aa hQ) ?_));exact CE
      refine ck hR λhS hT=>ck hT λhU hV=>CB (rs:=[rP ha 0,rI .u8 (Be ([123,125]:Ae) 0)]) (Hin:=[.bld 131 5 ha hb l]) (Hr:=[.blk b4 (Ac (Am v 0)) 63,.blk b1 [rP ha 0] 128]) Jv Aa ((Al (i:=2) Aa).trans (Abe _ (Abg _))) (CH ha hb l (Be ([123,125]:Ae) 0) hS hU) Aa ?_;rintro _ _ ⟨v51,rfl,rfl⟩;refine bd hV λho hW hX=>?_;rw[← hW];refine Bs (Ce (cs:=[rB false]) Tryz.zeroValue4 Aa Aa (λhi=>?_));refine BC (i:=0) IZ Aa Aa (Cl Aa) Aa Aa (cs':=[rB true]) Aa (H':=[.blk hi [rB true] 4,.bld 131 5 ha v51 ho,.blk b4 (Ac (Am v 0)) 63,.blk b1 [rP ha 0] 128]) Aa (Bs (wm Aa (wv (r:=rv (.func (.func 121) #[] #[(.pointer (some ⟨hi,0,none⟩)),(.pointer (some ⟨b1,0,none⟩)),(.pointer (some ⟨b4,0,none⟩))])) (NU Aa) (ob hX λhg hY hZ=>GX (Hr:=[]) Tryz.call120 (hn hi b1 ha v51 b4 v true ho (Am v 0) hg hY) Aa ((Al (i:=0) Aa).trans (Abe _ ((Al (i:=2) Aa).trans (Abe _ (Abg _))))) Aa ?_))));rintro _ _ ⟨hk,rfl,rfl⟩;refine Ao (ck hZ λga gb=>JY (H1:=[.blk hi [rB hg.1] 4,.blk b1 [rP ha 0] 128,.bld 131 5 ha hk hg.2,.blk b4 (Ac (Am v 0)) 63]) 3 [2,5] [⟨[],rP ha 0,1⟩,⟨[],rS ([123,125]:Ae),0⟩,⟨[1],rI .u8 (Be ([123,125]:Ae) 1),0⟩] (rle [(4,_)]) [22,23,24,2,5] ?_ ?_)
      ·refine of (Bj (i:=1) Gd Aa Aa Aa) (oq (Aq Aa) (oq (Bb BZ Aa Aa ga) ?_));exact CE
      refine ck gb λgc gd=>ck gd λge gf=>CB (rs:=[rP ha 0,rI .u8 (Be ([123,125]:Ae) 1)]) (Hin:=[.bld 131 5 ha hk hg.2]) (Hr:=[.blk hi [rB hg.1] 4,.blk b1 [rP ha 0] 128,.blk b4 (Ac (Am v 0)) 63]) Jv Aa ((Al (i:=2) Aa).trans (Abe _ (Abg _))) (CH ha hk hg.2 (Be ([123,125]:Ae) 1) gc ge) Aa ?_;rintro _ _ ⟨gg,rfl,rfl⟩;refine bd gf λgB gh gi=>?_;rw[← gh];refine Aj (AF ?_);obtain rfl:=At gi;exact HB (Uv Ub) (sC (sS (sS (sS sN)))) ⟨gg,Aa,Aa⟩
     ·refine Ap (AJ (Ai (ck hP λgj gl=>JY (H1:=[.blk b4 (Ac (Am v 0)) 63,.blk b1 [rP ha 0] 128,.bld 131 5 ha hb l]) 3 [1,2,4,5] [⟨[],rP ha 0,1⟩,⟨[],rS ([91,93]:Ae),0⟩,⟨[1],rI .u8 (Be ([91,93]:Ae) 0),0⟩] (rle [(4,_)]) [15,16,17,1,2,4,5] ?_ ?_)))
      ·refine of (Bj (i:=1) Gd Aa Aa Aa) (oq (Aq Aa) (oq (Bb BZ Aa Aa gj) ?_));exact CE
      refine ck gl λgm gp=>ck gp λgq gr=>CB (rs:=[rP ha 0,rI .u8 (Be ([91,93]:Ae) 0)]) (Hin:=[.bld 131 5 ha hb l]) (Hr:=[.blk b4 (Ac (Am v 0)) 63,.blk b1 [rP ha 0] 128]) Jv Aa ((Al (i:=2) Aa).trans (Abe _ (Abg _))) (CH ha hb l (Be ([91,93]:Ae) 0) gm gq) Aa ?_;rintro _ _ ⟨hp,rfl,rfl⟩;refine bd gr λhq gs gt=>?_;rw[← gs];refine Bs (Ce (cs:=[rB false]) Tryz.zeroValue4 Aa Aa (λhj=>?_));refine BC (i:=0) IZ Aa Aa (Cl Aa) Aa Aa (cs':=[rB true]) Aa (H':=[.blk hj [rB true] 4,.bld 131 5 ha hp hq,.blk b4 (Ac (Am v 0)) 63,.blk b1 [rP ha 0] 128]) Aa (Bs (wm Aa (wv (r:=rv (.func (.func 121) #[] #[(.pointer (some ⟨hj,0,none⟩)),(.pointer (some ⟨b1,0,none⟩)),(.pointer (some ⟨b4,0,none⟩))])) (NU Aa) (ob gt λhh gu gv=>GX (Hr:=[]) Tryz.call120 (hn hj b1 ha hp b4 v true hq (Am v 0) hh gu) Aa ((Al (i:=0) Aa).trans (Abe _ ((Al (i:=2) Aa).trans (Abe _ (Abg _))))) Aa ?_))));rintro _ _ ⟨v85,rfl,rfl⟩;refine Ao (ck gv λgw gx=>JY (H1:=[.blk hj [rB hh.1] 4,.blk b1 [rP ha 0] 128,.bld 131 5 ha v85 hh.2,.blk b4 (Ac (Am v 0)) 63]) 3 [2,5] [⟨[],rP ha 0,1⟩,⟨[],rS ([91,93]:Ae),0⟩,⟨[1],rI .u8 (Be ([91,93]:Ae) 1),0⟩] (rle [(4,_)]) [22,23,24,2,5] ?_ ?_)
      ·refine of (Bj (i:=1) Gd Aa Aa Aa) (oq (Aq Aa) (oq (Bb BZ Aa Aa gw) ?_));exact CE
      refine ck gx λgy gz=>ck gz λg0 g1=>CB (rs:=[rP ha 0,rI .u8 (Be ([91,93]:Ae) 1)]) (Hin:=[.bld 131 5 ha v85 hh.2]) (Hr:=[.blk hj [rB hh.1] 4,.blk b1 [rP ha 0] 128,.blk b4 (Ac (Am v 0)) 63]) Jv Aa ((Al (i:=2) Aa).trans (Abe _ (Abg _))) (CH ha v85 hh.2 (Be ([91,93]:Ae) 1) gy g0) Aa ?_;rintro _ _ ⟨g3,rfl,rfl⟩;refine bd g1 λgC g4 g5=>?_;rw[← g4];refine Aj (AF ?_);obtain rfl:=At g5;exact HB (Uv Ub) (sC (sS (sS (sS sN)))) ⟨g3,Aa,Aa⟩
theorem Sf (F:Nat)(hj:Ae→(List Ab)→Option (Ae))(hg:(∀(ha:Nat) (hf:Value) (l:Ae) (v:(List Ab)) (r:Ae),hj l v=some r→Fn Tryz.prog GE 94 [rP ha 0,AX 4 (A1 Ac v)] [.bld 131 5 ha hf l] (λR H=>∃w0b:Value,R=rv (.tuple #[])∧H=[.bld 131 5 ha w0b r])))(hb:Nat)(hd:Nat)(ha:Nat)(hf:Value)(he:Nat)(key:Ae)(x:(List Ab))(first:Bool)(l:Ae)(c:Ab)(r:Bool×Bool×Ae)(h:Lj F hj key x first l c=some r):Fn Tryz.prog GE 121 [rS key,AX 4 (A1 Ac x),rP hb 0,rP hd 0,rP he 0] [.blk hb [rB first] 4,.blk hd [rP ha 0] 128,.bld 131 5 ha hf l,.blk he (Ac c) 63] (λR H=>∃w3b:Value,R=rB r.1∧H=[.blk hb [rB r.2.1] 4,.blk hd [rP ha 0] 128,.bld 131 5 ha w3b r.2.2,.blk he (Ac c) 63]):=by
 refine enter (n:=23) Tryz.func121 Aa Tryz.ntmps121 Aa (λw Z=>?_);unfold Lj at h;refine Af (wa Aa (Ao (Ai (Af (vL 0 Vw Aa (wv (BW Aa) (Ao (cz h Aa (λc1 h2=>?_) (λc1 hr=>?_)))))))))
 ·refine Ah (vL 1 Gd Aa (ck h2 λg3 h4=>ck h4 λg5 h6=>CB (rs:=[rP ha 0,rI .u8 44]) (Hin:=[.bld 131 5 ha hf l]) (Hr:=[.blk hb [rB first] 4,.blk hd [rP ha 0] 128,.blk he (Ac c) 63]) Jv Aa ((Al (i:=2) Aa).trans (Abe _ (Abg _))) (CH ha hf l 44 g3 g5) Aa ?_));rintro _ _ ⟨v7,rfl,rfl⟩;refine bd h6 λr8 hs h9=>?_;rw[← hs];refine Bs (BC (i:=1) IZ Aa Aa (Cl Aa) Aa Aa (cs':=[rB false]) Aa (H':=[.bld 131 5 ha v7 r8,.blk hb [rB false] 4,.blk hd [rP ha 0] 128,.blk he (Ac c) 63]) Aa (Ao (Ai (Af (vF BA Aa DQ (vL 3 Eh Aa (wv (BE Aa Aa) (Ao (cz h9 Aa (λht hu=>?_) (λht hw=>?_))))))))))
  ·refine Af (vL 2 Gd Aa (wm Aa (ob hu λhh hx hy=>GX (Hr:=[.blk hb [rB false] 4,.blk hd [rP ha 0] 128,.blk he (Ac c) 63]) Tryz.call118 (NB F ha v7 r8 key hh hx) Aa (Abg _) Aa ?_)));rintro _ _ ⟨hk,rfl,rfl⟩;refine Ao (Ah (vL 2 Gd Aa (ck hy λg17 hz=>ck hz λg19 h0=>CB (rs:=[rP ha 0,rI .u8 58]) (Hin:=[.bld 131 5 ha hk hh]) (Hr:=[.blk hb [rB false] 4,.blk hd [rP ha 0] 128,.blk he (Ac c) 63]) Jv Aa (Abg _) (CH ha hk hh 58 g17 g19) Aa ?_)));rintro _ _ ⟨v21,rfl,rfl⟩;refine bd h0 λh1 h3 h5=>?_;rw[← h3];refine Bs (vL 2 Gd Aa (wm Aa (ob h5 λhl h7 h8=>GX (Hr:=[.blk hb [rB false] 4,.blk hd [rP ha 0] 128,.blk he (Ac c) 63]) V7 (hg ha v21 h1 x hl h7) Aa (Abg _) Aa ?_)));rintro _ _ ⟨v28,rfl,rfl⟩;refine Bs (wa Aa (Ao (As (BO (H2:=[.blk hb [rB false] 4,.blk hd [rP ha 0] 128,.bld 131 5 ha v28 hl,.blk he (Ac c) 63]) ((Al (i:=1) Aa).trans (Abe _ ((Al (i:=1) Aa).trans (Abe _ (Abg _))))) ?_))));obtain rfl:=At h8;exact Ar (BY Tg (AB Aa)) (sC (sC (sC (sC sN)))) ⟨v28,Aa,Aa⟩
  ·refine Ap (AJ (Af (vL 2 Gd Aa (wm Aa (ob hw λhm hA hB=>GX (Hr:=[.blk hb [rB false] 4,.blk hd [rP ha 0] 128,.blk he (Ac c) 63]) V7 (hg ha v7 r8 x hm hA) Aa (Abg _) Aa ?_)))));rintro _ _ ⟨v33,rfl,rfl⟩;refine Bs (wa Aa (Ao (As (BO (H2:=[.blk hb [rB false] 4,.blk hd [rP ha 0] 128,.bld 131 5 ha v33 hm,.blk he (Ac c) 63]) ((Al (i:=1) Aa).trans (Abe _ ((Al (i:=1) Aa).trans (Abe _ (Abg _))))) ?_))));obtain rfl:=At hB;exact Ar (BY Tg (AB Aa)) (sC (sC (sC (sC sN)))) ⟨v33,Aa,Aa⟩
 ·refine Ap (AJ (Af (BC (i:=0) IZ Aa Aa (Cl Aa) Aa Aa (cs':=[rB false]) Aa (H':=[.blk hb [rB false] 4,.blk hd [rP ha 0] 128,.bld 131 5 ha hf l,.blk he (Ac c) 63]) Aa (Ao (Ai (Af (vF BA Aa DQ (vL 3 Eh Aa (wv (BE Aa Aa) (Ao (cz hr Aa (λhC hD=>?_) (λhC hE=>?_))))))))))))
  ·refine Af (vL 1 Gd Aa (wm Aa (ob hD λhi hG hH=>GX (Hr:=[.blk hb [rB false] 4,.blk hd [rP ha 0] 128,.blk he (Ac c) 63]) Tryz.call118 (NB F ha hf l key hi hG) Aa ((Al (i:=2) Aa).trans (Abe _ (Abg _))) Aa ?_)));rintro _ _ ⟨hn,rfl,rfl⟩;refine Ao (Ah (vL 2 Gd Aa (ck hH λhI hJ=>ck hJ λhK hL=>CB (rs:=[rP ha 0,rI .u8 58]) (Hin:=[.bld 131 5 ha hn hi]) (Hr:=[.blk hb [rB false] 4,.blk hd [rP ha 0] 128,.blk he (Ac c) 63]) Jv Aa (Abg _) (CH ha hn hi 58 hI hK) Aa ?_)));rintro _ _ ⟨hN,rfl,rfl⟩;refine bd hL λhO hP hQ=>?_;rw[← hP];refine Bs (vL 2 Gd Aa (wm Aa (ob hQ λho hR hS=>GX (Hr:=[.blk hb [rB false] 4,.blk hd [rP ha 0] 128,.blk he (Ac c) 63]) V7 (hg ha hN hO x ho hR) Aa (Abg _) Aa ?_)));rintro _ _ ⟨hp,rfl,rfl⟩;refine Bs (wa Aa (Ao (As (BO (H2:=[.blk hb [rB false] 4,.blk hd [rP ha 0] 128,.bld 131 5 ha hp ho,.blk he (Ac c) 63]) ((Al (i:=1) Aa).trans (Abe _ ((Al (i:=1) Aa).trans (Abe _ (Abg _))))) ?_))));obtain rfl:=At hS;exact Ar (BY Tg (AB Aa)) (sC (sC (sC (sC sN)))) ⟨hp,Aa,Aa⟩
  ·refine Ap (AJ (Af (vL 1 Gd Aa (wm Aa (ob hE λhq hT hU=>GX (Hr:=[.blk hb [rB false] 4,.blk hd [rP ha 0] 128,.blk he (Ac c) 63]) V7 (hg ha hf l x hq hT) Aa ((Al (i:=2) Aa).trans (Abe _ (Abg _))) Aa ?_)))));rintro _ _ ⟨v57,rfl,rfl⟩;refine Bs (wa Aa (Ao (As (BO (H2:=[.blk hb [rB false] 4,.blk hd [rP ha 0] 128,.bld 131 5 ha v57 hq,.blk he (Ac c) 63]) ((Al (i:=1) Aa).trans (Abe _ ((Al (i:=1) Aa).trans (Abe _ (Abg _))))) ?_))));obtain rfl:=At hU;exact Ar (BY Tg (AB Aa)) (sC (sC (sC (sC sN)))) ⟨v57,Aa,Aa⟩
theorem Se (F:Nat)(hm:Ae→(List Ab)→Bool→Ae→Ab→Option (Bool×Bool×Ae))(hx:(∀(hd:Nat) (he:Nat) (hb:Nat) (hn:Value) (hf:Nat) (key:Ae) (x:(List Ab)) (first:Bool) (l:Ae) (c:Ab) (r:Bool×Bool×Ae),hm key x first l c=some r→Fn Tryz.prog GE 121 [rS key,AX 4 (A1 Ac x),rP hd 0,rP he 0,rP hf 0] [.blk hd [rB first] 4,.blk he [rP hb 0] 128,.bld 131 5 hb hn l,.blk hf (Ac c) 63] (λR H=>∃w3b:Value,R=rB r.1∧H=[.blk hd [rB r.2.1] 4,.blk he [rP hb 0] 128,.bld 131 5 hb w3b r.2.2,.blk hf (Ac c) 63])))(hd:Nat)(he:Nat)(hb:Nat)(hn:Value)(hf:Nat)(v:(List Ab))(first:Bool)(l:Ae)(c:Ab)(r:Bool×Ae)(h:I6 F hm v first l c=some r):Fn Tryz.prog GE 120 [AX 4 (A1 Ac v),rv (.func (.func 121) #[] #[(.pointer (some ⟨hd,0,none⟩)),(.pointer (some ⟨he,0,none⟩)),(.pointer (some ⟨hf,0,none⟩))])] [.blk hd [rB first] 4,.blk he [rP hb 0] 128,.bld 131 5 hb hn l,.blk hf (Ac c) 63] (λR H=>∃w1_1b:Value,R=rv (.tuple #[])∧H=[.blk hd [rB r.1] 4,.blk he [rP hb 0] 128,.bld 131 5 hb w1_1b r.2,.blk hf (Ac c) 63]):=by
 refine enter (n:=52) Tryz.func120 Aa Tryz.ntmps120 Aa (λw Z=>?_);unfold I6 at h;refine Af (wa Aa (Bs (wm Aa (ck h λg1 h2=>wv (B3 (enc:=Ac) (ys:=v) BK BU Aa Aa g1) (wv (BG BA Aa Ct Aa Aa) (wv (Bo Dm Aa Aa) (wv (r:=Ak 0) (Aq Aa) (Ao (AL (ob h2 λh7 h8 hr=>B4 (S:=Nat×(Int×Int×Bool×Ae)×(Value)) (V:=(Bool×Ae)×(Value)) 0 (λσ=>Ca (λσ=>DT F v c hm σ.1 σ.2.1 σ.2.2.1 σ.2.2.2) σ.1 σ.2.1=some h7) (λσ=>[(0,AX 4 (A1 Ac v)),(1,rv (.func (.func 121) #[] #[(.pointer (some ⟨hd,0,none⟩)),(.pointer (some ⟨he,0,none⟩)),(.pointer (some ⟨hf,0,none⟩))])),(4,Ak σ.2.1.1),(12,Ak ((Am v 0).fN)),(13,Ak σ.2.1.2.1)]) (λσ=>[.blk hd [rB σ.2.1.2.2.1] 4,.blk he [rP hb 0] 128,.bld 131 5 hb σ.2.2 σ.2.1.2.2.2,.blk hf (Ac c) 63]) (λσ=>σ.1) (F,(1,0,first,l),hn) h8 (AM.c5 Aa Aa Aa Aa Aa AM.nil) (sC (sC (sC (sC sN)))) (λσ=>HD σ.1.1 σ.1.2=some r) (λσ=>[]) (λσ=>[.blk hd [rB σ.1.1] 4,.blk he [rP hb 0] 128,.bld 131 5 hb σ.2 σ.1.2,.blk hf (Ac c) 63]) ?_ ?_))))))))))
 ·rintro⟨g0,⟨ha,ho,hi,hj⟩,hk⟩ h9;refine Cd (l':=[(0,AX 4 (A1 Ac v)),(1,rv (.func (.func 121) #[] #[(.pointer (some ⟨hd,0,none⟩)),(.pointer (some ⟨he,0,none⟩)),(.pointer (some ⟨hf,0,none⟩))])),(4,Ak ha),(12,Ak ((Am v 0).fN)),(13,Ak ho)]) (H':=[.blk hd [rB hi] 4,.blk he [rP hb 0] 128,.bld 131 5 hb hk hj,.blk hf (Ac c) 63]) Aa Aa ?_;obtain⟨hy,rfl,hA,hp,hl⟩:=Cz h9;replace hp:DT F v c hm ha ho hi hj=some hA:=hp;unfold DT at hp;refine Af (wv (Ch Aa Aa) (Ao (Ai (cz hp Aa (λc175 hB=>?_) (λc175 hC=>?_)))))
  ·refine Ap (AJ (Ai (AL (Af (wv (r:=rS ([]:Ae)) (Av Aa) (Ao (Ai (Af (wm Aa (wv (B3 (enc:=Ac) (ys:=v) BK BU Aa Aa g1) (wv (BG BA Aa DQ Aa Aa) (wv (Bo Eh Aa Aa) (wv (BE Aa Aa) (Ao (cz hB Aa (λhD hE=>?_) (λhD hG=>?_))))))))))))))))
   ·refine Af (wm Aa (wm Aa (ck hE λhH hI=>wv (B3 (enc:=Ac) (ys:=v) BK BU Aa Aa hH) (wv (BG BA Aa CG Aa Aa) (wv (Bo CV Aa Aa) (wa Aa (Ao (Ah (wm Aa (ck hI λhJ hK=>wv (Bh Aa Aa hJ) (wa Aa (Bs (wm Aa (wm Aa (ck hK λhL hN=>wv (r:=AX 4 (A1 Ac (List.drop (B6 (ha+1)) v))) (KU BK BU Aa Aa hL) (ob hN λhg hO hP=>Cn Tryz.call74 (P8 F (List.drop (B6 (ha+1)) v) hg hO) Aa (wm Aa (wv (AA Aa Aa) (wv (AA Aa Aa) ?_)))))))))))))))))));refine wv (AA Aa Aa) (Ce (cs:=[Ak 0,Ak 0,rB false,rB false]) Qx Aa Aa (λhz=>?_));refine wa Aa (AP (i:=0) G4 Aa Aa Aa (Bx.c Aa) Aa Aa (cs':=[Ak hg.2.1.fDepth,Ak hg.2.1.fBytes,rB hg.2.1.fOutside,rB hg.2.1.fLong]) Aa (H':=[.blk hz (Bd hg.2.1) 119,.blk hd [rB hi] 4,.blk he [rP hb 0] 128,.bld 131 5 hb hk hj,.blk hf (Ac c) 63]) Aa (wa Aa (Ao (Ai (Af (wm Aa (wm Aa (wm Aa (wm Aa (wm Aa (wm Aa (ck hP λhs hQ=>wv (Bh Aa Aa hs) (wm Aa (wm Aa (wv (Bh Aa Aa hs) (ck hQ λhR hS=>ck hS λhT hU=>wv (r:=AX 4 (A1 Ac (List.take (B6 ((ha+1)+hg.1)-B6 (ha+1)) (List.drop (B6 (ha+1)) v)))) (NS BK BU Aa Aa Aa Aa hR hT) (ob hU λht hV hW=>P6 (rs:=[rS ((Am v ha).fStr),AX 4 (A1 Ac (List.take (B6 ((ha+1)+hg.1)-B6 (ha+1)) (List.drop (B6 (ha+1)) v)))]) (Hin:=[.blk hd [rB hi] 4,.blk he [rP hb 0] 128,.bld 131 5 hb hk hj,.blk hf (Ac c) 63]) (Hr:=[.blk hz (Bd hg.2.1) 119]) Tryz.call121 Aa Aa ((Al (i:=1) Aa).trans (Abe _ ((Al (i:=1) Aa).trans (Abe _ ((Al (i:=1) Aa).trans (Abe _ ((Al (i:=1) Aa).trans (Abe _ (Abg _))))))))) (hx hd he hb hk hf ((Am v ha).fStr) (List.take (B6 ((ha+1)+hg.1)-B6 (ha+1)) (List.drop (B6 (ha+1)) v)) hi hj c ht hV) Aa ?_)))))))))))))))));rintro _ _ ⟨h0,rfl,rfl⟩;refine wv (BW Aa) (Ao (cz hW Aa (λhX hY=>?_) (λhX hZ=>?_)))
    ·refine As (Ad (A3 (Ad (Ad (Bc ?_)))));have ga:=Bz hY hl hr;refine A3 ?_;obtain rfl:=At ga;exact Ar (Uv Tryz.results120) (sC (sC (sC (sC (sS sN))))) ⟨h0,Aa,Aa⟩
    ·refine Ap (AJ (Ah (wm Aa (wm Aa (wv (Bh Aa Aa hs) (wa Aa (Aj (AF (AJ (Ah (ck hZ λgb gc=>wv (Bh Aa Aa gb) (wm Aa (Aj ?_)))))))))))));have gd:=Bg gc hl;exact Au (AD (hy,((ha+1)+hg.1,ho+1,ht.2.1,ht.2.2),h0) ⟨gd,Abo _⟩ (AM.c5 Aa Aa Aa Aa Aa AM.nil) (sC (sC (sC (sC (sS sN))))))
   ·refine Ap (AJ (Af (wm Aa (wm Aa (ck hG λge gf=>wv (r:=AX 4 (A1 Ac (List.drop (B6 ha) v))) (KU BK BU Aa Aa ge) (ob gf λhh gg gh=>Cn Tryz.call74 (P8 F (List.drop (B6 ha) v) hh gg) Aa (wm Aa (wv (AA Aa Aa) (wv (AA Aa Aa) (wv (AA Aa Aa) (Ce (cs:=[Ak 0,Ak 0,rB false,rB false]) Qx Aa Aa (λh1=>?_))))))))))));refine wa Aa (AP (i:=0) G4 Aa Aa Aa (Bx.c Aa) Aa Aa (cs':=[Ak hh.2.1.fDepth,Ak hh.2.1.fBytes,rB hh.2.1.fOutside,rB hh.2.1.fLong]) Aa (H':=[.blk h1 (Bd hh.2.1) 119,.blk hd [rB hi] 4,.blk he [rP hb 0] 128,.bld 131 5 hb hk hj,.blk hf (Ac c) 63]) Aa (wa Aa (Ao (Ai (Af (wm Aa (wm Aa (wm Aa (wm Aa (wm Aa (wm Aa (ck gh λhu gi=>wv (Bh Aa Aa hu) (wm Aa (wm Aa (wv (Bh Aa Aa hu) (ck gi λgj gl=>ck gl λgm gp=>wv (r:=AX 4 (A1 Ac (List.take (B6 (ha+hh.1)-B6 ha) (List.drop (B6 ha) v)))) (NS BK BU Aa Aa Aa Aa gj gm) (ob gp λhw gq gr=>P6 (rs:=[rS ([]:Ae),AX 4 (A1 Ac (List.take (B6 (ha+hh.1)-B6 ha) (List.drop (B6 ha) v)))]) (Hin:=[.blk hd [rB hi] 4,.blk he [rP hb 0] 128,.bld 131 5 hb hk hj,.blk hf (Ac c) 63]) (Hr:=[.blk h1 (Bd hh.2.1) 119]) Tryz.call121 Aa Aa ((Al (i:=1) Aa).trans (Abe _ ((Al (i:=1) Aa).trans (Abe _ ((Al (i:=1) Aa).trans (Abe _ ((Al (i:=1) Aa).trans (Abe _ (Abg _))))))))) (hx hd he hb hk hf ([]:Ae) (List.take (B6 (ha+hh.1)-B6 ha) (List.drop (B6 ha) v)) hi hj c hw gq) Aa ?_)))))))))))))))));rintro _ _ ⟨h3,rfl,rfl⟩;refine wv (BW Aa) (Ao (cz gr Aa (λgs gt=>?_) (λgs gu=>?_)))
    ·refine As (Ad (A3 (Ad (Ad (Bc ?_)))));have gv:=Bz gt hl hr;refine A3 ?_;obtain rfl:=At gv;exact Ar (Uv Tryz.results120) (sC (sC (sC (sC (sS sN))))) ⟨h3,Aa,Aa⟩
    ·refine Ap (AJ (Ah (wm Aa (wm Aa (wv (Bh Aa Aa hu) (wa Aa (Aj (AF (AJ (Ah (ck gu λgw gx=>wv (Bh Aa Aa gw) (wm Aa (Aj ?_)))))))))))));have gy:=Bg gx hl;exact Au (AD (hy,(ha+hh.1,ho+1,hw.2.1,hw.2.2),h3) ⟨gy,Abo _⟩ (AM.c5 Aa Aa Aa Aa Aa AM.nil) (sC (sC (sC (sC (sS sN))))))
  ·refine BB (A2 ?_);have gz:=Cb hC hl hr;exact A2 (Bn (AD ((hi,hj),hk) gz AM.nil (sC (sC (sC (sC sN))))))
 ·rintro⟨⟨h4,h5⟩,h6⟩ hq;refine C4 (l':=[]) (H':=[.blk hd [rB h4] 4,.blk he [rP hb 0] 128,.bld 131 5 hb h6 h5,.blk hf (Ac c) 63]) Aa Aa ?_;replace hq:HD h4 h5=some r:=hq;unfold HD at hq;refine Bi ?_;obtain rfl:=At hq;exact HB (Uv Tryz.results120) (sC (sC (sC (sC sN)))) ⟨h6,Aa,Aa⟩
theorem HC:∀F:Nat,(∀(ha:Nat) (hb:Value) (l:Ae) (v:(List Ab)) (r:Ae),GA F l v=some r→Fn Tryz.prog GE 94 [rP ha 0,AX 4 (A1 Ac v)] [.bld 131 5 ha hb l] (λR H=>∃w0b:Value,R=rv (.tuple #[])∧H=[.bld 131 5 ha w0b r]))∧(∀(hd:Nat) (he:Nat) (ha:Nat) (hb:Value) (hf:Nat) (key:Ae) (x:(List Ab)) (first:Bool) (l:Ae) (c:Ab) (r:Bool×Bool×Ae),EW F key x first l c=some r→Fn Tryz.prog GE 121 [rS key,AX 4 (A1 Ac x),rP hd 0,rP he 0,rP hf 0] [.blk hd [rB first] 4,.blk he [rP ha 0] 128,.bld 131 5 ha hb l,.blk hf (Ac c) 63] (λR H=>∃w3b:Value,R=rB r.1∧H=[.blk hd [rB r.2.1] 4,.blk he [rP ha 0] 128,.bld 131 5 ha w3b r.2.2,.blk hf (Ac c) 63]))∧(∀(hd:Nat) (he:Nat) (ha:Nat) (hb:Value) (hf:Nat) (v:(List Ab)) (first:Bool) (l:Ae) (c:Ab) (r:Bool×Ae),Hj F v first l c=some r→Fn Tryz.prog GE 120 [AX 4 (A1 Ac v),rv (.func (.func 121) #[] #[(.pointer (some ⟨hd,0,none⟩)),(.pointer (some ⟨he,0,none⟩)),(.pointer (some ⟨hf,0,none⟩))])] [.blk hd [rB first] 4,.blk he [rP ha 0] 128,.bld 131 5 ha hb l,.blk hf (Ac c) 63] (λR H=>∃w1_1b:Value,R=rv (.tuple #[])∧H=[.blk hd [rB r.1] 4,.blk he [rP ha 0] 128,.bld 131 5 ha w1_1b r.2,.blk hf (Ac c) 63]))
  | 0=>⟨(λ_ _ _ _ _ h=>by simp[GA] at h),(λ_ _ _ _ _ _ _ _ _ _ _ h=>by simp[EW] at h),(λ_ _ _ _ _ _ _ _ _ _ h=>by simp[Hj] at h)⟩
  | nn+1=>⟨(λha hb l v r h=>Ug nn (EW nn) (Hj nn) (HC nn).2.1 (HC nn).2.2 ha hb l v r (by rw[GA] at h;exact h)),(λhd he ha hb hf key x first l c r h=>Sf nn (GA nn) (HC nn).1 hd he ha hb hf key x first l c r (by rw[EW] at h;exact h)),(λhd he ha hb hf v first l c r h=>Se nn (EW nn) (HC nn).2.1 hd he ha hb hf v first l c r (by rw[Hj] at h;exact h))⟩
theorem VG (F:Nat)(ha:Nat)(hb:Value)(l:Ae)(v:(List Ab))(r:Ae)(h:GA F l v=some r):Fn Tryz.prog GE 94 [rP ha 0,AX 4 (A1 Ac v)] [.bld 131 5 ha hb l] (λR H=>∃w0b:Value,R=rv (.tuple #[])∧H=[.bld 131 5 ha w0b r]):=(HC F).1 ha hb l v r h
theorem Ul (F:Nat)(v:(List Ab))(r:Ae×Int)(h:Ln F v=some r):Fn Tryz.prog GE 61 [AX 4 (A1 Ac v)] [] (λR H=>R=Cs [rS r.1,Ak r.2]∧H=[]):=by
 refine enter (n:=14) Tryz.func61 Aa Tryz.ntmps61 Aa (λw Z=>?_);unfold Ln at h;refine Af (wv (r:=rS ([]:Ae)) (Av Aa) (wa Aa (Ao (Ai (Af (wm Aa (ob h λr1 e3 h2=>Cn Tryz.call44 (Lr F v r1 e3) Aa (wa Aa (Bs (wm Aa (wv (CR Aa Aa) (Ao (cz h2 Aa (λc4 h5=>?_) (λc4 h6=>?_))))))))))))))
 ·refine Af (wm Aa (wv (r:=rS ([]:Ae)) (Av Aa) (wa Aa (Ao (As (Ad ?_))))));obtain rfl:=At h5;exact Ar (CS Tryz.results61 (AB Aa) (AB Aa)) sN ⟨Aa,Aa⟩
 ·refine Ap (AJ (Af (Ce (cs:=[rv (.pointer none),rv (.slice none 0 0)]) Tryz.zeroValue131 Aa Aa (λb7=>?_))));refine Bs (wm Aa (WL.tobld (te:=5) (i:=0) Aa (ob h6 λr8 hb h9=>GX (Hr:=[]) V7 (VG F b7 (.slice none 0 0) ([]:Ae) v r8 hb) Aa (Abg _) Aa ?_)));rintro _ _ ⟨ha,rfl,rfl⟩;refine Bs (ck h9 λhd he=>CB (rs:=[rP b7 0]) (Hin:=[.bld 131 5 b7 ha r8]) (Hr:=[]) Tryz.call95 Aa (Abg _) (Vr b7 ha r8  hd) Aa ?_);rintro _ _ ⟨rfl,rfl⟩;refine wa Aa (wa Aa (Ao (As ?_)));obtain rfl:=At he;exact Ar (CS Tryz.results61 (AB Aa) (AB Aa)) sN ⟨Aa,Aa⟩
end Go.Proofs.YtogdediiodmnbaaGreatDoor.Q
