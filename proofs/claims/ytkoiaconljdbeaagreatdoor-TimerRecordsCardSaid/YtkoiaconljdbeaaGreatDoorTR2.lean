/-
  Texts of the proof, put together: IdC, ShelfV, PlD, PlE, FwJ, IdR, QG, QS, QO, RowQ, PQB, WQB, PVa, WVa, PVb, WVb, PVc.
-/
import Derived.Test.YtkoiaconljdbeaaGreatDoorTR1
import Derived.Shelf.Strings.Builder1
import Derived.Shelf.Strings.Count
import Derived.Shelf.Strings.Search1
import Derived.Shelf.Strings.Search2
import Derived.Shelf.Strings.Search3
import Derived.Shelf.Small.Strs
import Derived.Shelf.LaysM
import Derived.Shelf.LaysC
import Derived.Test.YtkoiaconljdbeaaGreatDoorProg
import Derived.Lib.ItoaMem
import Derived.Laws.BytesString
import Derived.Lib.Builder
import Derived.Lib.UnsafeStr
import Derived.Lib.AppendStr
import Derived.Laws.Externs
import Derived.Deep.Slices
import Derived.ChangeArms
import Derived.DataReads
import Derived.Laws.Tables
import Derived.Lib.Bytealg
import Derived.Lib.SmallJoins
namespace Go.Proofs.YtkoiaconljdbeaaGreatDoor
open Go Go.RowKit
set_option linter.unusedVariables false
set_option linter.unusedSimpArgs false
set_option maxRecDepth 100000
theorem Uw (p:List UInt8)(hp:p.length≤281474976710656)(w:World):Calls Tryz.prog 80 [.string (B (p))].toArray w (J1 w (.bool (EI p))):=by
 refine GR (n:=43) Tryz.func80 rfl Tryz.ntmps80 rfl (Am (Aj (A2 (Ac rfl) rfl (Al (Aq (AM ?_))))));refine Am (Aj (A2 (Au rfl) rfl (A2 (Ac rfl) rfl (Al (Aq (AM ?_))))));refine AA [(0,.string (B (p))),(2,.bool (false)),(3,.string (B ((if ((decide ((0)<((p.length:Int))))&&(decide ((AT p 0)=(45))))=true then List.drop (Int.toNat (1)) p else p))))] [] (φ:=True) ?_ (λh1=>?_)
 ·refine AA [(0,.string (B (p))),(2,.bool (false)),(3,.string (B (p))),(13,.bool (((decide ((0)<((p.length:Int))))&&(decide ((AT p 0)=(45))))))] [] (φ:=True) ?_ (λh2=>?_)
  ·refine Aj (A2 (Au rfl) rfl (A2 (Bd BP rfl) rfl (A2 (Cl rfl rfl) rfl (A2 (Au rfl) rfl (AH (decide ((0)<((p.length:Int)))) (λhd=>?_) (λhd=>?_))))))
   ·have hk:=hd;try simp only[AaL,AaK] at hk
    have hl:=hd;try simp at hl
    refine AW rfl rfl hd (A2 (Au rfl) rfl (AW rfl rfl hd (A2 (AV BP rfl rfl (by first | omega | exact Da (by assumption)) (by first | omega | exact Da (by assumption))) rfl (AW rfl rfl hd (A2 (B3 rfl rfl) rfl (A2 (As rfl hd rfl) rfl (Al ?_)))))));exact Aq (B2 trivial ⟨rfl,rfl,rfl,fb (by first | (simp only[hd,AaW,Abc,Abm,AaZ,Abf,Abe,Abl,Abg,AaV,Abd,AaQ,AaN,Ab4,Abv,reduceIte,Aba];done) | simp[hd]),trivial⟩ .slnil)
   ·have hk:=hd;try simp only[AaL,AaK] at hk
    have hl:=hd;try simp at hl
    refine An rfl rfl hd rfl (An rfl rfl hd rfl (An rfl rfl hd rfl (A2 (A4 rfl hd rfl) rfl (Al ?_))));exact Aq (B2 trivial ⟨rfl,rfl,rfl,fb (by first | (simp only[hd,AaW,Abc,Abm,AaZ,Abf,Abe,Abl,Abg,AaV,Abd,AaQ,AaN,Ab4,Abv,reduceIte,Aba];done) | simp[hd]),trivial⟩ .slnil)
  refine Ap (b:=((decide ((0)<((p.length:Int))))&&(decide ((AT p 0)=(45))))) rfl (λhg=>?_) (λhg=>?_)
  ·have hm:=hg;try simp only[AaL,AaK] at hm
   have hn:=hg;try simp at hn
   refine Aj (A2 (Au rfl) rfl (A2 (En BP rfl rfl (by first | omega | (simp;omega)) (by first | omega | (simp;omega))) rfl (A2 (Ac rfl) rfl (Al ?_))));exact Aq (B2 trivial ⟨rfl,rfl,fs (by first | (simp only[hg,AaW,Abc,Abm,AaZ,Abf,Abe,Abl,Abg,AaV,Abd,AaQ,AaN,Ab4,Abv,reduceIte,Aba];done) | simp[hg]),trivial⟩ .slnil)
  ·have hm:=hg;try simp only[AaL,AaK] at hm
   have hn:=hg;try simp at hn
   refine At ?_;exact Aq (B2 trivial ⟨rfl,rfl,fs (by first | (simp only[hg,AaW,Abc,Abm,AaZ,Abf,Abe,Abl,Abg,AaV,Abd,AaQ,AaN,Ab4,Abv,reduceIte,Aba];done) | simp[hg]),trivial⟩ .slnil)
 have hdg:Dp p=(if ((decide ((0)<((p.length:Int))))&&(decide ((AT p 0)=(45))))=true then List.drop (Int.toNat (1)) p else p):=rfl;have hdl:=NG p;rw[hdg] at hdl;generalize(if ((decide ((0)<((p.length:Int))))&&(decide ((AT p 0)=(45))))=true then List.drop (Int.toNat (1)) p else p)=dg at hdg hdl ⊢;refine Am (AA [(2,.bool (false)),(3,.string (B (dg))),(26,.bool (((decide ((dg)=(([]:List UInt8))))||((decide ((AT dg 0)=(48)))&&(!(decide ((p)=(([48]:List UInt8)))))))))] [] (φ:=True) ?_ (λh3=>?_))
 ·refine Aj (A2 (Au rfl) rfl (A2 (G0 rfl rfl) rfl (A2 (Au rfl) rfl (AH (decide ((dg)=(([]:List UInt8)))) (λha=>?_) (λha=>?_)))))
  ·have ho:=ha;try simp only[AaL,AaK] at ho
   have hq:=ha;try simp at hq
   refine An rfl rfl ha rfl (An rfl rfl ha rfl (An rfl rfl ha rfl (An rfl rfl ha rfl (BU rfl rfl rfl (BU rfl rfl rfl (An rfl rfl ha rfl (A2 (As rfl ha rfl) rfl (Al ?_))))))));exact Aq (B2 trivial ⟨rfl,rfl,fb (by first | (simp only[ha,AaW,Abc,Abm,AaZ,Abf,Abe,Abl,Abg,AaV,Abd,AaQ,AaN,Ab4,Abv,reduceIte,Aba];done) | simp[ha]),trivial⟩ .slnil)
  ·have ho:=ha;try simp only[AaL,AaK] at ho
   have hq:=ha;try simp at hq
   refine AW rfl rfl ha (A2 (Au rfl) rfl (AW rfl rfl ha (A2 (AV BP rfl rfl (by first | omega | exact Da (by assumption)) (by first | omega | exact Da (by assumption))) rfl (AW rfl rfl ha (A2 (B3 rfl rfl) rfl (AW rfl rfl ha (A2 (Au rfl) rfl (AH (decide ((AT dg 0)=(48))) (λhe=>?_) (λhe=>?_)))))))))
   ·have hr:=he;try simp only[AaL,AaK] at hr
    have hs:=he;try simp at hs
    refine AW rfl rfl he (A2 (Au rfl) rfl (AW rfl rfl he (A2 (IW rfl rfl) rfl (AW rfl rfl ha (A2 (As rfl he rfl) rfl (A2 (A4 rfl ha rfl) rfl (Al ?_)))))));exact Aq (B2 trivial ⟨rfl,rfl,fb (by first | (simp only[ha,he,AaW,Abc,Abm,AaZ,Abf,Abe,Abl,Abg,AaV,Abd,AaQ,AaN,Ab4,Abv,reduceIte,Aba];done) | simp[ha,he]),trivial⟩ .slnil)
   ·have hr:=he;try simp only[AaL,AaK] at hr
    have hs:=he;try simp at hs
    refine An rfl rfl he rfl (An rfl rfl he rfl (AW rfl rfl ha (A2 (A4 rfl he rfl) rfl (A2 (A4 rfl ha rfl) rfl (Al ?_)))));exact Aq (B2 trivial ⟨rfl,rfl,fb (by first | (simp only[ha,he,AaW,Abc,Abm,AaZ,Abf,Abe,Abl,Abg,AaV,Abd,AaQ,AaN,Ab4,Abv,reduceIte,Aba];done) | simp[ha,he]),trivial⟩ .slnil)
 refine Ap (b:=((decide ((dg)=(([]:List UInt8))))||((decide ((AT dg 0)=(48)))&&(!(decide ((p)=(([48]:List UInt8)))))))) rfl (λhf=>?_) (λhf=>?_)
 ·have ht:=hf;try simp only[AaL,AaK] at ht
  have hu:=hf;try simp at hu
  refine Am (Aj (A2 (Ac rfl) rfl (Al (Aq (AM ?_)))));refine Ax (Af (Aw (BS rfl rfl) ?_));exact GL (by simp only[EI,hdg,hf];rfl)
 ·have ht:=hf;try simp only[AaL,AaK] at ht
  have hu:=hf;try simp at hu
  refine At (Aq (AM ?_));refine Am (Am (Aj (A2 (Au rfl) rfl (A2 (Bd BP rfl) rfl (A2 (Au rfl) rfl (Al (Aq (AM ?_))))))));refine AO (HP (S:=Nat) (λ(k:Nat)=>k≤dg.length∧Be Dx 0 dg=Be Dx k (dg.drop k)) (λ(k:Nat)=>[(29,.int .i64 ((k:Int))),(3,.string (B (dg))),(28,.int .i64 ((dg.length:Int)))]) (λ(k:Nat)=>[]) (λ(k:Nat)=>dg.length-k) (0) ?_ ⟨fi (by first | rfl | (simp;done) | omega | (simp;omega)),rfl,rfl,trivial⟩ .slnil ?_)
  ·exact⟨Aby _,by simp⟩
  rintro k hi0;refine Am (Aj (A2 (Cp rfl rfl) rfl (Al (Aq (AM ?_)))));refine Am (Ap (b:=decide (((k:Int))<((dg.length:Int)))) rfl (λhh=>?_) (λhh=>?_))
  ·have hj:=hh;try simp only[AaL,AaK] at hj
   have hw:=hh;try simp at hw
   refine At (Aq (AM ?_));refine Am (AO (Am (Aj (A2 (Au rfl) rfl (A2 (Ac rfl) rfl (Al (Aq (AM ?_))))))));refine AA [(3,.string (B (dg))),(4,.int .i64 ((k:Int))),(28,.int .i64 ((dg.length:Int))),(29,.int .i64 ((k:Int))),(30,.bool (decide (((k:Int))<((dg.length:Int))))),(31,.int .i64 ((k:Int))),(32,.string (B (dg))),(33,.int .i64 ((k:Int))),(34,.int .u8 (AT dg (k:Int))),(35,.bool (decide ((AT dg (k:Int))<(48)))),(36,.bool (decide ((AT dg (k:Int))<(48)))),(41,.bool (((decide ((AT dg (k:Int))<(48)))||(decide ((57)<(AT dg (k:Int)))))))] [] (φ:=True) ?_ (λh4=>?_)
   ·refine Aj (A2 (Au rfl) rfl (A2 (Au rfl) rfl (A2 (AV BP rfl rfl (by first | omega | exact Da (by assumption)) (by first | omega | exact Da (by assumption))) rfl (A2 (Cp rfl rfl) rfl (A2 (Au rfl) rfl (AH (decide ((AT dg (k:Int))<(48))) (λhb=>?_) (λhb=>?_)))))))
    ·have hx:=hb;try simp only[AaL,AaK] at hx
     have hy:=hb;try simp at hy
     refine An rfl rfl hb rfl (An rfl rfl hb rfl (An rfl rfl hb rfl (An rfl rfl hb rfl (A2 (As rfl hb rfl) rfl (Al ?_)))));exact Aq (B2 trivial ⟨rfl,rfl,rfl,rfl,rfl,rfl,rfl,rfl,rfl,rfl,rfl,fb (by first | (simp only[hf,hh,hb,AaW,Abc,Abm,AaZ,Abf,Abe,Abl,Abg,AaV,Abd,AaQ,AaN,Ab4,Abv,reduceIte,Aba];done) | simp[hf,hh,hb]),trivial⟩ .slnil)
    ·have hx:=hb;try simp only[AaL,AaK] at hx
     have hy:=hb;try simp at hy
     refine AW rfl rfl hb (A2 (Au rfl) rfl (AW rfl rfl hb (A2 (Au rfl) rfl (AW rfl rfl hb (A2 (AV BP rfl rfl (by first | omega | exact Da (by assumption)) (by first | omega | exact Da (by assumption))) rfl (AW rfl rfl hb (A2 (Cl rfl rfl) rfl (A2 (A4 rfl hb rfl) rfl (Al ?_)))))))));exact Aq (B2 trivial ⟨rfl,rfl,rfl,rfl,rfl,rfl,rfl,rfl,rfl,rfl,rfl,fb (by first | (simp only[hf,hh,hb,AaW,Abc,Abm,AaZ,Abf,Abe,Abl,Abg,AaV,Abd,AaQ,AaN,Ab4,Abv,reduceIte,Aba];done) | simp[hf,hh,hb]),trivial⟩ .slnil)
   refine Ap (b:=((decide ((AT dg (k:Int))<(48)))||(decide ((57)<(AT dg (k:Int)))))) rfl (λhi=>?_) (λhi=>?_)
   ·have hz:=hi;try simp only[AaL,AaK] at hz
    have h0:=hi;try simp at h0
    refine Am (Aj (A2 (Ac rfl) rfl (Al (Aq (AM ?_)))));refine Ax (A3 (Af (Af (A3 (Af (Aw (BS rfl rfl) ?_))))));exact GL (by simp[EI,hdg,WB hi0 hj hi])
   ·have hz:=hi;try simp only[AaL,AaK] at hz
    have h0:=hi;try simp at h0
    refine At (AK (Aq (AM ?_)));refine Aj (A2 (Bi rfl rfl (IntWalk.i64_in _ (by omega))) rfl (A2 (Au rfl) rfl (Al (Aq (AG (k+1) ?_ ⟨fi (by first | rfl | (simp;done) | omega | (simp;omega)),rfl,rfl,trivial⟩ .slnil)))));exact Rb hi0 hj hi
  ·have hj:=hh;try simp only[AaL,AaK] at hj
   have hw:=hh;try simp at hw
   refine B9 (A5 (A5 (Bm (Aq (AM ?_)))));refine Am (Aj (A2 (Ac rfl) rfl (Al (Aq (AM ?_)))));refine Ax (Aw (BS rfl rfl) ?_);exact GL (by simp only[EI,hdg,hf,Ta hi0 hj];rfl)
theorem Ww (m:Int)(h0 : -9223372036854775808≤m)(h1:m≤9223372036854775807)(w:World)(hE:Tl w):Calls Tryz.prog 47 [.int .i64 (m)].toArray w (J1 w (.string (B (Lib.itoa m)))):=by
 refine GR (n:=5) Tryz.func47 rfl Tryz.ntmps47 rfl (Am (Aj (A2 (Ac rfl) rfl (Al (Aq (AM ?_))))));refine Am (Aj (A2 (Au rfl) rfl (Ci Tryz.call75 rfl (λw hw=>Wm m (by omega) (by omega) w (hE.st0 hw)) rfl (A2 (Ac rfl) rfl (Al (Aq (AM ?_)))))));refine Ax (Aw (BS rfl rfl) ?_);exact GL (by first | rfl | simp[])
theorem XC (p:List UInt8)(hp:p.length≤281474976710656)(w:World)(hE:Tl w):Calls Tryz.prog 53 [.string (B (p))].toArray w (J1 w (.tuple #[.int .i64 (Bt p),.int .i64 (B6 p)])):=by
 refine GR (n:=22) Tryz.func53 rfl Tryz.ntmps53 rfl (Am (Aj (A2 (Ac rfl) rfl (A2 (Ac rfl) rfl (Al (Aq (AM ?_)))))));refine Am (Am (Aj (A2 (Au rfl) rfl (Ci Tryz.call80 rfl (λw hw=>Uw p (by first | omega | (simp;done) | (simp;omega) | (simp at *;omega)) w) rfl (A2 (BJ rfl) rfl (Al (Aq (AM ?_))))))));refine Ap (b:=!(EI p)) rfl (λhb=>?_) (λhb=>?_)
 ·have hf:=hb;try simp only[AaL,AaK] at hf
  have ha:=hb;try simp only[AaL,AaK,AaO,Abt,Abi,AbB,Abx,Abn,not_or,Int.not_lt,Int.not_le] at ha
  refine Am (Aj (A2 (Ac rfl) rfl (A2 (Ac rfl) rfl (Al (Aq (AM ?_))))));refine Ax (Af (Aw (Dg rfl rfl rfl) ?_));exact GL (by simp[Bt,B6,ha])
 ·have hf:=hb;try simp only[AaL,AaK] at hf
  have ha:=hb;try simp only[AaL,AaK,AaO,Abt,Abi,AbB,Abx,Abn,not_or,Int.not_lt,Int.not_le] at ha
  refine At (Aq (AM ?_));refine Am (Aj (A2 (Au rfl) rfl ?_));rcases WS (p:=p) (by assumption) with⟨av,hav,hal,hah⟩ | hav
  ·refine Ci Tryz.call81 rfl (λw _=>Ys p (by first | omega | (simp;done) | (simp;omega) | (simp at *;omega)) av hav w) rfl (A2 (Au rfl) rfl (A2 (AF rfl rfl) rfl (A2 (AF rfl rfl) rfl (A2 (Ac rfl) rfl (A2 (Ac rfl) rfl (Al (Aq (AM ?_))))))));refine Am (AA [(2,.int .i64 (0)),(3,.int .i64 (0)),(4,.int .i64 (av)),(20,.bool (!(Df av)))] [] (φ:=True) ?_ (λhh=>?_))
   ·exact Aj (A2 (Au rfl) rfl (A2 (Q5 Tryz.underlying110 rfl) rfl (A2 (Au rfl) rfl (AW rfl rfl rfl (A2 (Au rfl) rfl (AW rfl rfl rfl (Ci Tryz.call82 rfl (λw hw=>Xo av w) rfl (AW rfl rfl rfl (A2 (BJ rfl) rfl (A2 (A4 rfl rfl rfl) rfl (Al (Aq (B2 trivial ⟨rfl,rfl,rfl,rfl,trivial⟩ .slnil)))))))))))))
   refine Ap (b:=!(Df av)) rfl (λhd=>?_) (λhd=>?_)
   ·have hg:=hd;try simp only[AaL,AaK] at hg
    have he:=hd;try simp only[AaL,AaK,AaO,Abt,Abi,AbB,Abx,Abn,not_or,Int.not_lt,Int.not_le] at he
    refine Am (Aj (A2 (Ac rfl) rfl (A2 (Ac rfl) rfl (Al (Aq (AM ?_))))));refine Ax (Af (Aw (Dg rfl rfl rfl) ?_));exact GL (by simp[Bt,B6,hav,ha,he])
   ·have hg:=hd;try simp only[AaL,AaK] at hg
    have he:=hd;try simp only[AaL,AaK,AaO,Abt,Abi,AbB,Abx,Abn,not_or,Int.not_lt,Int.not_le] at he
    refine At (Aq (AM ?_));refine Am (Aj (A2 (Au rfl) rfl (A2 (Ac rfl) rfl (A2 (Ac rfl) rfl (Al (Aq (AM ?_)))))));refine Ax (Aw (Dg rfl rfl rfl) ?_);exact GL (by simp[Bt,B6,hav,ha,he])
  ·refine Xn Tryz.call81 rfl (λw hw=>Sc p (by first | omega | (simp;done) | (simp;omega) | (simp at *;omega)) hav w (hE.st0 hw)) rfl ?_;rintro _ _ ⟨am,at_,ab,rfl,rfl⟩;refine A2 (Au rfl) rfl (A2 (AF rfl rfl) rfl (A2 (AF rfl rfl) rfl (A2 (Ac rfl) rfl (A2 (Ac rfl) rfl (Al (Aq (AM ?_)))))));refine Am (AA [(2,.int .i64 (0)),(3,.int .i64 (0)),(4,.int .i64 (am)),(20,.bool (true))] [] (φ:=True) ?_ (λhi=>?_))
   ·exact Aj (A2 (Au rfl) rfl (A2 (XK Tryz.underlying110 rfl) rfl (A2 (Au rfl) rfl (An rfl rfl rfl rfl (An rfl rfl rfl rfl (An rfl rfl rfl rfl (A2 (As rfl rfl rfl) rfl (Al (Aq (B2 trivial ⟨rfl,rfl,rfl,rfl,trivial⟩ .slnil))))))))))
   refine EX rfl rfl (Am (Aj (A2 (Ac rfl) rfl (A2 (Ac rfl) rfl (Al (Aq (AM ?_)))))));refine Ax (Af (Aw (Dg rfl rfl rfl) ?_));exact GL (by simp[Bt,B6,hav,ha])
end Go.Proofs.YtkoiaconljdbeaaGreatDoor
namespace Go.Proofs
open Go.Shelf
def Tryz.lays169_ren:Go.Shelf.Ren:=⟨fun | 169=>74 | n=>n,fun | 70=>102 | 9=>9 | 0=>0 | 72=>105 | 37=>103 | 127=>139 | 3=>3 | 5=>5 | n=>n,fun | n=>n⟩
theorem Tryz.lays169:Go.Proofs.Lays.n169 Tryz.prog Tryz.lays169_ren:={
 mixed:=by kernel_rfl
 f169:=Tryz.func74.trans (congrArg some (by kernel_rfl))
 t0:=Tryz.underlying0
 a0:=Tryz.isAgg0
 z0:=Tryz.sizeOf0
 v0:=Tryz.zeroValue0
 t3:=Tryz.underlying3
 a3:=Tryz.isAgg3
 z3:=Tryz.sizeOf3
 v3:=Tryz.zeroValue3
 t9:=Tryz.underlying9
 a9:=Tryz.isAgg9
 z9:=Tryz.sizeOf9
 v9:=Tryz.zeroValue9
 t37:=Tryz.underlying103
 a37:=Tryz.isAgg103
 z37:=Tryz.sizeOf103
 v37:=Tryz.zeroValue103
 t70:=Tryz.underlying102
 a70:=Tryz.isAgg102
 z70:=Tryz.sizeOf102
 v70:=Tryz.zeroValue102
 t72:=Tryz.underlying105
 a72:=Tryz.isAgg105
 z72:=Tryz.sizeOf105
 v72:=Tryz.zeroValue105
 t127:=Tryz.underlying139
 a127:=Tryz.isAgg139
 z127:=Tryz.sizeOf139
 v127:=Tryz.zeroValue139 }
theorem Tryz.Builder_Extra_169:Builder.Extra Tryz.prog Tryz.lays169_ren:={
 sizeBuilder:=by kernel_rfl
 liesBuilder:=by kernel_rfl
 t5:=Tryz.underlying5
 a5:=Tryz.isAgg5
 z5:=Tryz.sizeOf5
 v5:=Tryz.zeroValue5
 infoByte:=by kernel_rfl
 cellsByte:=by kernel_rfl
 sizeByte:=by kernel_rfl
 neB5:=by decide }
open Go.RowKit in
theorem Tryz.Builder_String_any (B b:Nat)(l:List UInt8)(w:World)(h:Lib.IsBuilder 105 5 B b (Lib.byteCells l) w)(hBw:B≤w.heap.size) :
  Calls Tryz.prog 74 #[.pointer (some ⟨b,0,none⟩)] w λe w'=>e = .returned (.string ⟨l.toArray⟩)∧Below B w w':=Any.Builder_String_any Tryz.lays169 Tryz.Builder_Extra_169 B b l w h hBw
def Tryz.lays138_ren:Go.Shelf.Ren:=⟨fun | 138=>150 | 195=>161 | 218=>162 | 143=>163 | 219=>170 | 217=>173 | 225=>174 | 224=>175 | 267=>176 | 266=>177 | 314=>178 | n=>n,fun | 9=>9 | 3=>3 | 4=>4 | 5=>5 | 0=>0 | 46=>99 | 146=>200 | 51=>127 | n=>n,fun | 1=>3 | n=>n⟩
theorem Tryz.lays138:Go.Proofs.Lays.n138 Tryz.prog Tryz.lays138_ren:={
 mixed:=by kernel_rfl
 f138:=Tryz.func150.trans (congrArg some (by kernel_rfl))
 f143:=Tryz.func163.trans (congrArg some (by kernel_rfl))
 f195:=Tryz.func161.trans (congrArg some (by kernel_rfl))
 f217:=Tryz.func173.trans (congrArg some (by kernel_rfl))
 f218:=Tryz.func162.trans (congrArg some (by kernel_rfl))
 f219:=Tryz.func170.trans (congrArg some (by kernel_rfl))
 f224:=Tryz.func175.trans (congrArg some (by kernel_rfl))
 f225:=Tryz.func174.trans (congrArg some (by kernel_rfl))
 f266:=Tryz.func177.trans (congrArg some (by kernel_rfl))
 f267:=Tryz.func176.trans (congrArg some (by kernel_rfl))
 f314:=Tryz.func178.trans (congrArg some (by kernel_rfl))
 t0:=Tryz.underlying0
 a0:=Tryz.isAgg0
 z0:=Tryz.sizeOf0
 v0:=Tryz.zeroValue0
 t3:=Tryz.underlying3
 a3:=Tryz.isAgg3
 z3:=Tryz.sizeOf3
 v3:=Tryz.zeroValue3
 t4:=Tryz.underlying4
 a4:=Tryz.isAgg4
 z4:=Tryz.sizeOf4
 v4:=Tryz.zeroValue4
 t5:=Tryz.underlying5
 a5:=Tryz.isAgg5
 z5:=Tryz.sizeOf5
 v5:=Tryz.zeroValue5
 t9:=Tryz.underlying9
 a9:=Tryz.isAgg9
 z9:=Tryz.sizeOf9
 v9:=Tryz.zeroValue9
 t46:=Tryz.underlying99
 a46:=Tryz.isAgg99
 z46:=Tryz.sizeOf99
 v46:=Tryz.zeroValue99
 t51:=Tryz.underlying127
 a51:=Tryz.isAgg127
 z51:=Tryz.sizeOf127
 v51:=Tryz.zeroValue127
 t146:=Tryz.underlying200
 a146:=Tryz.isAgg200
 z146:=Tryz.sizeOf200
 v146:=Tryz.zeroValue200
 g1:=by kernel_rfl }
open Go.RowKit Go.Lib in
theorem Tryz.strings_Count_one (s:ByteArray)(c:UInt8)(w:World) :
  Calls Tryz.prog 150 #[.string s,.string ⟨#[c]⟩] w λe w'=>e = .returned (.int .i64 (Lib.countByte s.data.toList c))∧w'=w:=Any.strings_Count_one Tryz.lays138 s c w
end Go.Proofs
namespace Go.Proofs.YtkoiaconljdbeaaGreatDoor
open Go
set_option linter.unusedVariables false
set_option linter.unusedSimpArgs false
theorem P4 {f:Nat→UInt8→Bool}:∀{l:List UInt8} {i:Nat},Be f i l=true→∀u∈l,∃j,f j u=true
 | [],_,_,u,hu=>by simp at hu
 | x::r,i,h,u,hu=>by
  simp only[Be,AaO] at h;rcases List.mem_cons.1 hu with rfl | hu
  ·exact⟨i,h.1⟩
  ·exact P4 h.2 u hu
theorem WV {f:Nat→UInt8→Bool}:∀{l:List UInt8} {i:Nat},(∀j,∀u∈l,f j u=true)→Be f i l=true
 | [],_,_=>rfl
 | x::r,i,h=>by simp only[Be,AaO];exact⟨h i x (by simp),WV λj u hu=>h j u (by simp[hu])⟩
theorem S8:∀(l:List UInt8) (acc v:Nat) (c:UInt8),Lib.parseUint10 acc l = .ok v→48≤c.toNat→c.toNat≤57→v<1844674407370955161→Lib.parseUint10 acc (l++[c]) = .ok (v*10+(c.toNat-48))
 | [],acc,v,c,h,h0,h1,hv=>by
  simp only[Lib.parseUint10,Lib.NumEnd.ok.injEq] at h;subst h;simp only[AbA,Lib.parseUint10];rw[AbD ⟨h0,h1⟩,Abw (by omega),Abw (by omega)]
 | x::r,acc,v,c,h,h0,h1,hv=>by
  simp only[Ab2,Lib.parseUint10] at h ⊢
  split at h
  ·rename_i hx
   rw[AbD hx]
   split at h
   ·cases h
   ·rename_i hy
    rw[Abw hy]
    split at h
    ·cases h
    ·rename_i hz
     rw[Abw hz];exact S8 r _ v c h h0 h1 hv
  ·cases h
theorem Ku {d:Nat}(h:d<10):(UInt8.ofNat (48+d)).toNat=48+d:=by
 simp[UInt8.toNat_ofNat'];omega
theorem Yn (u:Nat):∀c∈Lib.decDigits u,48≤c.toNat∧c.toNat≤57:=by
 induction u using Nat.strongRecOn with
 | ind u ih=>
  intro c hc;rw[Lib.decDigits] at hc
  split at hc
  ·simp only[Abz] at hc;subst hc;rw[Ku (by omega)];omega
  ·rcases List.mem_append.1 hc with hc | hc
   ·exact ih (u/10) (by omega) c hc
   ·simp only[Abz] at hc;subst hc;rw[Ku (by omega)];omega
theorem Uy (u:Nat):u<18446744073709551610→Lib.parseUint10 0 (Lib.decDigits u) = .ok u:=by
 induction u using Nat.strongRecOn with
 | ind u ih=>
  intro hu;rw[Lib.decDigits]
  split
  ·rename_i h
   simp only[Lib.parseUint10];rw[Ku h,AbD (by omega),Abw (by omega),Abw (by omega)]
   congr 1;omega
  ·rename_i h
   have:=S8 (Lib.decDigits (u/10)) 0 (u/10) (UInt8.ofNat (48+u % 10)) (ih (u/10) (by omega) (by omega)) (by rw[Ku (by omega)];omega) (by rw[Ku (by omega)];omega) (by omega);rw[this,Ku (by omega)]
   congr 1;omega
theorem WD (u:Nat):Lib.decDigits u≠[]:=by
 rw[Lib.decDigits];split<;>simp
theorem Uz (u:Nat):1≤u→AT (Lib.decDigits u) 0≠48:=by
 induction u using Nat.strongRecOn with
 | ind u ih=>
  intro hu;rw[Lib.decDigits]
  split
  ·rename_i h
   have:=Ku h;simp only[AT,Int.toNat_zero,List.getElem?_cons_zero,Ab0];rw[this];omega
  ·rename_i h
   have h1:=ih (u/10) (by omega) (by omega);have hne:=WD (u/10);unfold AT at h1 ⊢;rw[show(0:Int).toNat=0 from rfl] at h1 ⊢
   rwa [AbL (by cases hd:Lib.decDigits (u/10) with | nil=>exact absurd hd hne | cons=>simp)]
theorem Ym (u:Nat)(h:u<10):Lib.decDigits u=[UInt8.ofNat (48+u)]:=by rw[Lib.decDigits];simp[h]
theorem Wl {m:Int}(h0:0≤m):Lib.itoa m=Lib.decDigits m.toNat:=by
 have:=Lib.itoa_nonneg m.toNat
 rwa [show((m.toNat:Nat):Int)=m from by omega] at this
theorem Uk {m:Int}(h0:0≤m)(h1:m≤1000000000000):B6 (Lib.itoa m)=0∧Bt (Lib.itoa m)=m:=by
 rw[Wl h0];generalize hu:m.toNat=u;have hub:u≤1000000000000:=by omega
 have hall:=Yn u;have hne:=WD u;have hd0:∃c r,Lib.decDigits u=c::r:=by cases h:Lib.decDigits u with | nil=>exact absurd h hne | cons c r=>exact⟨c,r,rfl⟩
 obtain⟨c,r,hcr⟩:=hd0;have hc:48≤c.toNat∧c.toNat≤57:=hall c (by simp[hcr]);have hs:Gp (Lib.decDigits u)=false:=by
  rw[hcr];have e:AT (c::r) 0=c.toNat:=rfl;simp only[Gp,e,Abx,AaK]
  right;omega
 have hdg:Dp (Lib.decDigits u)=Lib.decDigits u:=by simp[Dp,hs]
 have hdec:EI (Lib.decDigits u)=true:=by
  simp only[EI,hdg];have h2:Be Dx 0 (Lib.decDigits u)=true:=WV λj x hx=>by
   have:=hall x hx;simp[Dx];omega
  rw[h2];have h3:decide (Lib.decDigits u=[])=false:=by simpa using hne
  rw[h3]
  by_cases hz:u=0
  ·subst hz;rw[Ym 0 (by omega)];rfl
  ·have:=Uz u (by omega);simp[this]
 have hat:Lib.atoiAll (Lib.decDigits u) = .ok (u:Int):=by
  have h4:=Uy u (by omega);rw[hcr] at h4 ⊢;rw[Lib.atoiAll_plain c r (by omega) (by omega)];have:Lib.parseMag (c::r) = .ok u:=by unfold Lib.parseMag;rw[Abw (by simp)];exact h4
  rw[this];simp only[Lib.signless];rw[Abw (by omega)]
 have hv:Df (u:Int)=true:=by simp[Df];omega
 simp only[B6,Bt,hdec,Ab4,hat,hv];exact⟨trivial,by omega⟩
theorem XO {p:List UInt8}(h:(!(decide ((p.length:Int)<1)||(decide ((24:Int)<p.length)||!CA (AT p 0))))=true):1≤p.length∧CT p=Be CJ 1 (p.drop 1):=by
 simp only[Abi,Abn,AaK,AbB] at h;obtain⟨h1,h2,h3⟩:=h
 cases p with
 | nil=>simp at h1
 | cons u r=>
  have h4:CA u.toNat=true:=h3;refine⟨by simp,?_⟩;have h5:r.length+1≤24:=by simp at h2;omega
  simp[CT,Be,CJ,h4,h5]
theorem VT {p:List UInt8}(h:(decide ((p.length:Int)<1)||(decide ((24:Int)<p.length)||!CA (AT p 0)))=true):CT p=false:=by
 simp only[Abt,AaL,Abi] at h;rcases h with h | h | h
 ·simp[CT];omega
 ·simp[CT];omega
 ·cases p with
  | nil=>rfl
  | cons u r=>
   have h4:CA u.toNat=false:=h;simp[CT,Be,CJ,h4]
theorem Wz {p:List UInt8}(h:Gp p=true)(h2:AT (p.drop 1) 0=48):EI p=false:=by
 have hd:Dp p=p.drop 1:=by simp[Dp,h]
 have hp:p≠[48]:=by rintro rfl;revert h;decide
 unfold EI;rw[hd,h2];simp[hp]
theorem Wy {p dg:List UInt8}(hdg:Dp p=dg)(h:(decide ((dg.length:Int)=0)||(decide ((1:Int)<dg.length)&&decide (AT dg 0=48)))=true):EI p=false:=by
 simp only[Abt,AaL,AaO] at h;rcases h with h | ⟨h,h2⟩
 ·have:dg=[]:=Abu (by omega);simp[EI,hdg,this]
 ·have hp:p≠[48]:=by rintro rfl;have:=NG [48];rw[hdg] at this;simp at this;omega
  simp[EI,hdg,h2,hp]
theorem Wx {p dg:List UInt8}(hdg:Dp p=dg)(h0:Gp p=true→¬ ((0:Int)<dg.length∧AT dg 0=48))(h:(decide ((dg.length:Int)=0)||(decide ((1:Int)<dg.length)&&decide (AT dg 0=48)))=false)(ha:Be Dx 0 dg=true):EI p=true:=by
 simp only[Abn,AaK,Abx] at h;have hne:dg≠[]:=by rintro rfl;exact h.1 rfl
 have hpos:=Da hne;simp only[EI,hdg,ha,Abf,Abi,Abn,AaK,hne,not_false_eq_true,true_and,Abx,AbB,AaL]
 by_cases hb:AT dg 0=48
 ·right
  cases hs:Gp p
  ·have hd:dg=p:=by rw[← hdg];simp[Dp,hs]
   subst hd;have hl:dg.length=1:=by rcases h.2 with h | h<;>omega
   match dg,hl with
   | [u],_=>
    have:(u.toNat:Int)=48:=hb;rw[show u=48 from UInt8.toNat_inj.1 (by simpa using(by omega:u.toNat=48))]
  ·exact absurd ⟨hpos,hb⟩ (h0 hs)
 ·exact .inl hb
def Ee:Nat→List UInt8→Option Nat
 | n,[]=>some n
 | n,u::r=>if u.toNat=45 then Ee n r else if 1000000000000<10*n+(u.toNat-48) then none else Ee (10*n+(u.toNat-48)) r
theorem HM {p:List UInt8}(h:EI p=true){k:Nat}(hk:(k:Int)<p.length)(ha : ¬ AT p k=45):48≤AT p k∧AT p k≤57:=by
 simp only[EI,AaO] at h;obtain⟨u,hu⟩:=H3 hk;rw[K8 hu] at ha ⊢;have key:u∈Dp p:=by
  have hm:=Abh hu;unfold Dp
  split
  ·rename_i hs
   cases p with
   | nil=>simp at hm
   | cons c r=>
    rcases List.mem_cons.1 hm with rfl | hm
    ·simp only[Gp,AaO,AaL] at hs;exact absurd hs.2 ha
    ·simpa using hm
  ·exact hm
 obtain⟨j,hj⟩:=P4 h.2 u key;simp[Dx] at hj;omega
def Yl (l:List UInt8):Prop:=∀u∈l,48≤u.toNat∧u.toNat≤57
theorem Tc {l:List UInt8}(h:Be Dx 0 l=true):Yl l:=λu hu=>by
 obtain⟨j,hj⟩:=P4 h u hu;simp[Dx] at hj;omega
theorem V1:∀(l:List UInt8) (acc:Nat),Yl l→1000000000000<acc→Lib.parseUint10 acc l = .range∨∃u,Lib.parseUint10 acc l = .ok u∧1000000000000<u
 | [],acc,_,h=>.inr ⟨acc,rfl,h⟩
 | c::r,acc,hd,h=>by
  have hc:=hd c (by simp);unfold Lib.parseUint10;rw[AbD hc]
  split
  ·exact .inl rfl
  ·split
   ·exact .inl rfl
   ·exact V1 r _ (λu hu=>hd u (by simp[hu])) (by omega)
theorem V0:∀(l:List UInt8) (acc:Nat),Yl l→acc≤1000000000000→(∃u,Ee acc l=some u∧Lib.parseUint10 acc l = .ok u∧u≤1000000000000)∨(Ee acc l=none∧(Lib.parseUint10 acc l = .range∨∃u,Lib.parseUint10 acc l = .ok u∧1000000000000<u))
 | [],acc,_,h=>.inl ⟨acc,rfl,rfl,h⟩
 | c::r,acc,hd,h=>by
  have hc:=hd c (by simp);have hr:Yl r:=λu hu=>hd u (by simp[hu]);have e1:Lib.parseUint10 acc (c::r)=Lib.parseUint10 (acc*10+(c.toNat-48)) r:=by
   conv=>lhs;unfold Lib.parseUint10
   rw[AbD hc,Abw (by omega),Abw (by omega)]
  have e2:Ee acc (c::r)=if 1000000000000<acc*10+(c.toNat-48) then none else Ee (acc*10+(c.toNat-48)) r:=by
   conv=>lhs;unfold Ee
   rw[Abw (by omega),show 10*acc+(c.toNat-48)=acc*10+(c.toNat-48) from by omega]
  rw[e1,e2]
  by_cases hb:1000000000000<acc*10+(c.toNat-48)
  ·rw[AbD hb];exact .inr ⟨rfl,V1 r _ hr hb⟩
  ·rw[Abw hb];exact V0 r _ hr (by omega)
theorem Vk {p:List UInt8}:Ee 0 p=Ee 0 (Dp p):=by
 unfold Dp
 split
 ·rename_i hs
  cases p with
  | nil=>rfl
  | cons c r=>
   simp only[Gp,AaO,AaL] at hs;have:c.toNat=45:=by have:=hs.2;simp[AT] at this;omega
   simp[Ee,this]
 ·rfl
theorem LF {p:List UInt8}(h:EI p=true):(∀u,Ee 0 p=some u→B6 p=0∧Bt p=if Gp p=true then -(u:Int) else u)∧(Ee 0 p=none→B6 p=2∧Bt p=0):=by
 have h':=h;simp only[EI,AaO,Abi,Abn,AaK] at h';obtain⟨⟨hne,_⟩,hall⟩:=h';have hrun:=V0 (Dp p) 0 (Tc hall) (by omega);have hmag:Lib.parseMag (Dp p)=Lib.parseUint10 0 (Dp p):=by unfold Lib.parseMag;rw[Abw hne]
 have hat:Lib.atoiAll p=if Gp p=true then Lib.signed (Lib.parseUint10 0 (Dp p)) else Lib.signless (Lib.parseUint10 0 (Dp p)):=by
  cases p with
  | nil=>simp[Dp,Gp] at hne
  | cons c r=>
   cases hs:Gp (c::r)
   ·have hd:Dp (c::r)=c::r:=by simp[Dp,hs]
    rw[hd] at hall hmag ⊢;have hc:=Tc hall c (by simp);rw[Lib.atoiAll_plain c r (by omega) (by omega),hmag];simp
   ·have hc:c=45:=by
     simp only[Gp,AaO,AaL] at hs;exact UInt8.toNat_inj.1 (by have:=hs.2;simp[AT] at this;simpa using(by omega:c.toNat=45))
    subst hc;have hd:Dp (45::r)=r:=by simp[Dp,hs]
    rw[hd] at hmag ⊢;rw[Lib.atoiAll_minus,hmag];simp
 rw[Vk];have hbig:∀u:Nat,1000000000000<u→∀v:Int,(v=u∨v = -(u:Int))→Df v=false:=λu hu v hv=>by
  rcases hv with rfl | rfl<;>simp[Df]<;>omega
 constructor
 ·intro u hu;rcases hrun with⟨u',h1,h2,h3⟩ | ⟨h1,_⟩
  ·rw[hu] at h1;cases h1;rw[h2] at hat;simp only[B6,Bt,h,Ab4,hat]
   cases Gp p
   ·have hv:Df (u:Int)=true:=by simp[Df];omega
    simp only[Aba,Abv,Lib.signless];rw[Abw (by omega)];simp[hv]
   ·have hv:Df (-(u:Int))=true:=by simp[Df];omega
    simp only[Ab4,Lib.signed];rw[Abw (by omega)];simp[hv]
  ·rw[hu] at h1;cases h1
 ·intro hn;rcases hrun with⟨u',h1,h2,h3⟩ | ⟨_,h1⟩
  ·rw[hn] at h1;cases h1
  ·simp only[B6,Bt,h,Ab4,hat];rcases h1 with h1 | ⟨u,h1,h2⟩
   ·rw[h1];cases Gp p<;>simp[Lib.signed,Lib.signless]
   ·rw[h1]
    cases Gp p
    ·simp only[Aba,Abv,Lib.signless]
     by_cases h9:9223372036854775808≤u<;>simp[h9,hbig u h2 _ (.inl rfl)]
    ·simp only[Ab4,Lib.signed]
     by_cases h9:9223372036854775808<u<;>simp[h9,hbig u h2 _ (.inr rfl)]
theorem Vi {p:List UInt8}{k n:Nat}(hk:(k:Int)<p.length)(hi:Ee 0 p=Ee n (p.drop k))(h:AT p k=45):Ee 0 p=Ee n (p.drop (k+1)):=by
 obtain⟨u,hu⟩:=H3 hk;rw[K8 hu] at h;rw[hi,G9 hu,Ee,AbD (by omega)]
theorem YS {p:List UInt8}{k n:Nat}(hd:EI p=true)(hk:(k:Int)<p.length)(hi:Ee 0 p=Ee n (p.drop k))(h : ¬ AT p k=45)(hle : ¬ (1000000000000:Int)<10*(n:Int)+(AT p k-48)) :
  (10*(n:Int)+(AT p k-48))=((10*n+(AT p k-48).toNat:Nat):Int)∧Ee 0 p=Ee (10*n+(AT p k-48).toNat) (p.drop (k+1))∧10*n+(AT p k-48).toNat≤1000000000000:=by
 have hb:=HM hd hk h;obtain⟨u,hu⟩:=H3 hk;rw[K8 hu] at h hle hb ⊢;have e:((u.toNat:Int)-48).toNat=u.toNat-48:=by omega
 refine⟨by omega,?_,by omega⟩;rw[hi,G9 hu,Ee,Abw (by omega),Abw (by omega),e]
theorem Vh {p:List UInt8}{k n:Nat}(hd:EI p=true)(hk:(k:Int)<p.length)(hi:Ee 0 p=Ee n (p.drop k))(h : ¬ AT p k=45)(hle:(1000000000000:Int)<10*(n:Int)+(AT p k-48)):Ee 0 p=none:=by
 have hb:=HM hd hk h;obtain⟨u,hu⟩:=H3 hk;rw[K8 hu] at h hle hb;rw[hi,G9 hu,Ee,Abw (by omega),AbD (by omega)]
theorem Vj {p:List UInt8}{k n:Nat}(hd:EI p=true)(hk:(k:Int)<p.length)(hi:Ee 0 p=Ee n (p.drop k))(hn:n≤1000000000000)(h:AT p k=45∨¬ (1000000000000:Int)<10*(n:Int)+(AT p k-48)) :
  ∃n1:Nat,(if decide (AT p k=45)=true then(n:Int) else 10*(n:Int)+(AT p k-48))=(n1:Int)∧Ee 0 p=Ee n1 (p.drop (k+1))∧n1≤1000000000000:=by
 by_cases ha:AT p k=45
 ·exact⟨n,by simp[ha],Vi hk hi ha,hn⟩
 ·have hle:=h.resolve_left ha;obtain⟨a,b,c⟩:=YS hd hk hi ha hle;exact⟨_,by rw[Abw (by simpa using ha)];exact a,b,c⟩
theorem Sz {p:List UInt8}{k n:Nat}(hi:Ee 0 p=Ee n (p.drop k))(h : ¬ (k:Int)<p.length):Ee 0 p=some n:=by
 rw[hi,List.drop_of_length_le (by omega)];rfl
def W1 (n m:Int)(s:List UInt8):Prop:=(s=[]∧m=n)∨(s≠[]∧Lib.decDigits n.natAbs=(if m=0 then[] else Lib.decDigits m.natAbs)++s)
theorem OG (m:Int):∃d1:Nat,(if decide (m.tmod 10<0)=true then -(m.tmod 10) else m.tmod 10)=(d1:Int)∧d1=m.natAbs % 10∧d1<10:=by
 refine⟨m.natAbs % 10,?_,rfl,by omega⟩
 by_cases h:0≤m
 ·have:=Int.tmod_eq_emod_of_nonneg (a:=m) (b:=10) h;rw[this,Abw (by simp;omega)];omega
 ·have:=Int.tmod_eq_emod_of_nonneg (a:=-m) (b:=10) (by omega);rw[Int.neg_tmod] at this
  by_cases hz:m.tmod 10=0
  ·rw[hz];simp;omega
  ·rw[AbD (by simp;omega)];omega
theorem Us {d:Nat}(h:d<10):List.take (Int.toNat ((d:Int)+1)-Int.toNat (d:Int)) (List.drop (Int.toNat (d:Int)) [48,49,50,51,52,53,54,55,56,57])=[UInt8.ofNat (48+d)]:=by
 have key:∀d:Nat,d<10→List.take (Int.toNat ((d:Int)+1)-Int.toNat (d:Int)) (List.drop (Int.toNat (d:Int)) ([48,49,50,51,52,53,54,55,56,57]:List UInt8))=[UInt8.ofNat (48+d)]:=by decide
 exact key d h
theorem Ni (m:Int):(m.tdiv 10).natAbs=m.natAbs/10:=by
 rw[Int.natAbs_tdiv];rfl
theorem Ur (m:Int)(d1:Nat)(h:d1=m.natAbs % 10):Lib.decDigits m.natAbs=(if m.tdiv 10=0 then[] else Lib.decDigits (m.tdiv 10).natAbs)++[UInt8.ofNat (48+d1)]:=by
 have hz:m.tdiv 10=0↔m.natAbs<10:=by
  rw[← Int.natAbs_eq_zero,Ni];omega
 rw[Ni,Lib.decDigits]
 by_cases hs:m.natAbs<10
 ·rw[dif_pos hs,AbD (hz.2 hs),h,Nat.mod_eq_of_lt hs];rfl
 ·rw[dif_neg hs,Abw (λe=>hs (hz.1 e)),h]
theorem Yg {n m:Int}{s:List UInt8}(h0 : -9223372036854775808≤n)(h1:n≤9223372036854775807)(hi:W1 n m s):s.length≤21:=by
 rcases hi with⟨rfl,_⟩ | ⟨_,h⟩
 ·simp
 ·have hl:(Lib.decDigits n.natAbs).length≤21:=by
   have:=Wk n h0 h1;unfold Lib.itoa at this
   split at this
   ·simp at this;omega
   ·rwa [show n.toNat=n.natAbs from by omega] at this
  rw[h] at hl;simp at hl;omega
theorem W0 {n m:Int}{s:List UInt8}{d1:Nat}(hi:W1 n m s)(hc:(!decide (m=0)||decide (s=[]))=true)(hd:d1=m.natAbs % 10) :
  W1 n (m.tdiv 10) (List.take (Int.toNat ((d1:Int)+1)-Int.toNat (d1:Int)) (List.drop (Int.toNat (d1:Int)) [48,49,50,51,52,53,54,55,56,57])++s)∧
  (m.tdiv 10).natAbs+(if List.take (Int.toNat ((d1:Int)+1)-Int.toNat (d1:Int)) (List.drop (Int.toNat (d1:Int)) [48,49,50,51,52,53,54,55,56,57])++s=[] then 1 else 0)<m.natAbs+(if s=[] then 1 else 0):=by
 rw[Us (by omega)];have hs:=Ur m d1 hd;refine⟨.inr ⟨by simp,?_⟩,?_⟩
 ·rcases hi with⟨rfl,rfl⟩ | ⟨h1,h2⟩
  ·rw[hs];simp
  ·have hm:m≠0:=by simpa[h1] using hc
   rw[h2,Abw hm,hs];simp
 ·rw[Abw (by simp),Ni]
  by_cases hm:m=0
  ·subst hm;have:s=[]:=by simpa using hc
   simp[this]
  ·have:0<m.natAbs:=by omega
   split<;>omega
theorem SV {n m:Int}{s:List UInt8}(hi:W1 n m s)(hc:(!decide (m=0)||decide (s=[]))=false):Lib.decDigits n.natAbs=s:=by
 simp only[Abn,AbB,AaL,AaK] at hc;rcases hi with⟨h,_⟩ | ⟨_,h⟩
 ·exact absurd h hc.2
 ·rw[h,AbD hc.1];rfl
theorem Yf {n:Int}{s:List UInt8}(h:Lib.decDigits n.natAbs=s)(hn:n<0):[45]++s=Lib.itoa n:=by
 unfold Lib.itoa;rw[AbD hn,h];rfl
theorem Ye {n:Int}{s:List UInt8}(h:Lib.decDigits n.natAbs=s)(hn : ¬ n<0):s=Lib.itoa n:=by
 unfold Lib.itoa;rw[Abw hn,show n.toNat=n.natAbs from by omega,h]
open Go Go.RowKit
section
variable {P : Program} {n : Nat} {w0 : World} {M : List Nat} {l : Fr} {H : List Ent} {d : Option Nat} {x y : Operand} {ty t t' : TypeId} {pos : String} {af : Array Edge} {g : Option (Nat × Bool)} {k : IntKind} {p q z : Int}
theorem VK (hx:ev l x=some (.int k p))(hy:ev l y=some (.int k q))(hq:q≠0)(hz:k.wrap (p.tdiv q)=z):Bv P n w0 M l H { dst:=d,op:=.binOp .quo t x y t',type:=ty,pos:=pos,after:=af,guard:=g } (.int k z):=λa w ha _=>by
 simp[execOp,ha.eval hx,ha.eval hy,B0,binOp,Op.intDiv,hq,hz]
theorem VJ (hx:ev l x=some (.int k p))(hy:ev l y=some (.int k q))(hq:q≠0):Bv P n w0 M l H { dst:=d,op:=.binOp .rem t x y t',type:=ty,pos:=pos,after:=af,guard:=g } (.int k (p.tmod q)):=λa w ha _=>by
 simp[execOp,ha.eval hx,ha.eval hy,B0,binOp,Op.intDiv,hq]
end
theorem T1 {m:Int}(h0 : -9223372036854775808≤m)(h1:m≤9223372036854775807) : -9223372036854775808≤m.tdiv 10∧m.tdiv 10≤9223372036854775807:=by
 have e:m.tdiv 10=if 0≤m then m/10 else -((-m)/10):=by
  split
  ·rename_i h;exact Int.tdiv_eq_ediv_of_nonneg h
  ·rename_i h
   have:=Int.tdiv_eq_ediv_of_nonneg (a:=-m) (b:=10) (by omega);rw[Int.neg_tdiv] at this;omega
 rw[e];split<;>omega
theorem T0 (m:Int) : -10<m.tmod 10∧m.tmod 10<10:=by
 by_cases h:0≤m
 ·have:=Int.tmod_eq_emod_of_nonneg (a:=m) (b:=10) h;omega
 ·have:=Int.tmod_eq_emod_of_nonneg (a:=-m) (b:=10) (by omega);rw[Int.neg_tmod] at this;omega
set_option maxRecDepth 100000
theorem Zm (p:List UInt8)(hp:p.length≤281474976710656)(w:World):Calls Tryz.prog 85 [.string (B (p))].toArray w (J1 w (.bool (EI p))):=by
 refine GR (n:=53) Tryz.func85 rfl Tryz.ntmps85 rfl (Am (Aj (A2 (Ac rfl) rfl (Al (Aq (AM ?_))))));refine Am (Aj (A2 (Au rfl) rfl (A2 (Ac rfl) rfl (Al (Aq (AM ?_))))));refine AA [(2,.bool (false)),(3,.string (B ((if ((decide ((0)<((p.length:Int))))&&(decide ((AT p 0)=(45))))=true then List.drop (Int.toNat (1)) p else p))))] [] (φ:=(!((decide ((0)<((p.length:Int))))&&(decide ((AT p 0)=(45))))||(!(((decide ((0)<(((List.drop (Int.toNat (1)) p).length:Int))))&&(decide ((AT (List.drop (Int.toNat (1)) p) 0)=(48)))))))=true) ?_ (λho=>?_)
 ·refine AA [(2,.bool (false)),(3,.string (B (p))),(13,.bool (((decide ((0)<((p.length:Int))))&&(decide ((AT p 0)=(45))))))] [] (φ:=True) ?_ (λhA=>?_)
  ·refine Aj (A2 (Au rfl) rfl (A2 (Bd BP rfl) rfl (A2 (Cl rfl rfl) rfl (A2 (Au rfl) rfl (AH (decide ((0)<((p.length:Int)))) (λhe=>?_) (λhe=>?_))))))
   ·have hq:=he;try simp only[AaL,AaK] at hq
    have hr:=he;try simp at hr
    refine AW rfl rfl he (A2 (Au rfl) rfl (AW rfl rfl he (A2 (AV BP rfl rfl (by first | omega | (simp;omega) | (simp at *;omega) | exact Da (by assumption)) (by first | omega | (simp;omega) | (simp at *;omega) | exact Da (by assumption))) rfl (AW rfl rfl he (A2 (B3 rfl rfl) rfl (A2 (As rfl he rfl) rfl (Al ?_)))))));exact Aq (B2 trivial ⟨rfl,rfl,fb (by first | (simp only[he,AaW,Abc,Abm,AaZ,Abf,Abe,Abl,Abg,AaV,Abd,AaQ,AaN,Ab4,Abv,reduceIte,Aba];done) | simp[he]),trivial⟩ .slnil)
   ·have hq:=he;try simp only[AaL,AaK] at hq
    have hr:=he;try simp at hr
    refine An rfl rfl he rfl (An rfl rfl he rfl (An rfl rfl he rfl (A2 (A4 rfl he rfl) rfl (Al ?_))));exact Aq (B2 trivial ⟨rfl,rfl,fb (by first | (simp only[he,AaW,Abc,Abm,AaZ,Abf,Abe,Abl,Abg,AaV,Abd,AaQ,AaN,Ab4,Abv,reduceIte,Aba];done) | simp[he]),trivial⟩ .slnil)
  refine Ap (b:=((decide ((0)<((p.length:Int))))&&(decide ((AT p 0)=(45))))) rfl (λhd=>?_) (λhd=>?_)
  ·have ht:=hd;try simp only[AaL,AaK] at ht
   have hu:=hd;try simp at hu
   refine Am (Aj (A2 (Au rfl) rfl (A2 (En BP rfl rfl (by first | omega | (simp;omega)) (by first | omega | (simp;omega))) rfl (A2 (Ac rfl) rfl (Al (Aq (AM ?_)))))));refine AA [(2,.bool (false)),(3,.string (B (List.drop (Int.toNat (1)) p))),(23,.bool (((decide ((0)<(((List.drop (Int.toNat (1)) p).length:Int))))&&(decide ((AT (List.drop (Int.toNat (1)) p) 0)=(48))))))] [] (φ:=True) ?_ (λhB=>?_)
   ·refine Aj (A2 (Au rfl) rfl (A2 (Bd BP rfl) rfl (A2 (Cl rfl rfl) rfl (A2 (Au rfl) rfl (AH (decide ((0)<(((List.drop (Int.toNat (1)) p).length:Int)))) (λhf=>?_) (λhf=>?_))))))
    ·have hw:=hf;try simp only[AaL,AaK] at hw
     have hy:=hf;try simp at hy
     refine AW rfl rfl hf (A2 (Au rfl) rfl (AW rfl rfl hf (A2 (AV BP rfl rfl (by first | omega | (simp;omega) | (simp at *;omega) | exact Da (by assumption)) (by first | omega | (simp;omega) | (simp at *;omega) | exact Da (by assumption))) rfl (AW rfl rfl hf (A2 (B3 rfl rfl) rfl (A2 (As rfl hf rfl) rfl (Al ?_)))))));exact Aq (B2 trivial ⟨rfl,rfl,fb (by first | (simp only[hd,hf,AaW,Abc,Abm,AaZ,Abf,Abe,Abl,Abg,AaV,Abd,AaQ,AaN,Ab4,Abv,reduceIte,Aba];done) | simp[hd,hf]),trivial⟩ .slnil)
    ·have hw:=hf;try simp only[AaL,AaK] at hw
     have hy:=hf;try simp at hy
     refine An rfl rfl hf rfl (An rfl rfl hf rfl (An rfl rfl hf rfl (A2 (A4 rfl hf rfl) rfl (Al ?_))));exact Aq (B2 trivial ⟨rfl,rfl,fb (by first | (simp only[hd,hf,AaW,Abc,Abm,AaZ,Abf,Abe,Abl,Abg,AaV,Abd,AaQ,AaN,Ab4,Abv,reduceIte,Aba];done) | simp[hd,hf]),trivial⟩ .slnil)
   refine Ap (b:=((decide ((0)<(((List.drop (Int.toNat (1)) p).length:Int))))&&(decide ((AT (List.drop (Int.toNat (1)) p) 0)=(48))))) rfl (λhi=>?_) (λhi=>?_)
   ·have hm:=hi;try simp only[AaL,AaK] at hm
    have hk:=hi;try simp only[AaL,AaK,AaO,Abt,Abi,AbB,Abx,Abn,not_or,Int.not_lt,Int.not_le] at hk
    refine Am (Aj (A2 (Ac rfl) rfl (Al (Aq (AM ?_)))));refine Ax (Af (Aw (BS rfl rfl) ?_));exact GL (by rw[Wz (by simp only[Gp];exact hd) (hk).2])
   ·have hm:=hi;try simp only[AaL,AaK] at hm
    have hk:=hi;try simp only[AaL,AaK,AaO,Abt,Abi,AbB,Abx,Abn,not_or,Int.not_lt,Int.not_le] at hk
    refine At ?_;exact Aq (B2 (by first | (simp only[hd,hi,AaW,Abc,Abm,AaZ,Abf,Abe,Abl,Abg,AaV,Abd,AaQ,AaN,Ab4,Abv,reduceIte,Aba];done) | simp[hd,hi]) ⟨rfl,fs (by first | (simp only[hd,hi,AaW,Abc,Abm,AaZ,Abf,Abe,Abl,Abg,AaV,Abd,AaQ,AaN,Ab4,Abv,reduceIte,Aba];done) | simp[hd,hi]),trivial⟩ .slnil)
  ·have ht:=hd;try simp only[AaL,AaK] at ht
   have hu:=hd;try simp at hu
   refine At ?_;exact Aq (B2 (by first | (simp only[hd,AaW,Abc,Abm,AaZ,Abf,Abe,Abl,Abg,AaV,Abd,AaQ,AaN,Ab4,Abv,reduceIte,Aba];done) | simp[hd]) ⟨rfl,fs (by first | (simp only[hd,AaW,Abc,Abm,AaZ,Abf,Abe,Abl,Abg,AaV,Abd,AaQ,AaN,Ab4,Abv,reduceIte,Aba];done) | simp[hd]),trivial⟩ .slnil)
 have hm:=ho;try simp only[AaL,AaK] at hm
 have hk:=ho;try simp only[AaL,AaK,AaO,Abt,Abi,AbB,Abx,Abn,not_or,Int.not_lt,Int.not_le] at hk
 have hdg:Dp p=(if ((decide ((0)<((p.length:Int))))&&(decide ((AT p 0)=(45))))=true then List.drop (Int.toNat (1)) p else p):=rfl;have hdl:=NG p;have hform:Gp p=true→¬ ((0:Int)<(Dp p).length∧AT (Dp p) 0=48):=by intro hs;rw[show Dp p=List.drop 1 p from by simp[Dp,hs]];simp only[Gp] at hs;intro hx;simp_all;grind
 rw[hdg] at hdl hform;clear ho hm hk;generalize(if ((decide ((0)<((p.length:Int))))&&(decide ((AT p 0)=(45))))=true then List.drop (Int.toNat (1)) p else p)=dg at hdg hdl hform ⊢;refine Am (AA [(2,.bool (false)),(3,.string (B (dg))),(36,.bool (((decide (((dg.length:Int))=(0)))||((decide ((1)<((dg.length:Int))))&&(decide ((AT dg 0)=(48)))))))] [] (φ:=True) ?_ (λhC=>?_))
 ·refine Aj (A2 (Au rfl) rfl (A2 (Bd BP rfl) rfl (A2 (B3 rfl rfl) rfl (A2 (Au rfl) rfl (AH (decide (((dg.length:Int))=(0))) (λha=>?_) (λha=>?_))))))
  ·have hz:=ha;try simp only[AaL,AaK] at hz
   have h0:=ha;try simp at h0
   refine An rfl rfl ha rfl (An rfl rfl ha rfl (An rfl rfl ha rfl (An rfl rfl ha rfl (BU rfl rfl rfl (BU rfl rfl rfl (BU rfl rfl rfl (An rfl rfl ha rfl (A2 (As rfl ha rfl) rfl (Al ?_)))))))));exact Aq (B2 trivial ⟨rfl,rfl,fb (by first | (simp only[ha,AaW,Abc,Abm,AaZ,Abf,Abe,Abl,Abg,AaV,Abd,AaQ,AaN,Ab4,Abv,reduceIte,Aba];done) | simp[ha]),trivial⟩ .slnil)
  ·have hz:=ha;try simp only[AaL,AaK] at hz
   have h0:=ha;try simp at h0
   refine AW rfl rfl ha (A2 (Au rfl) rfl (AW rfl rfl ha (A2 (Bd BP rfl) rfl (AW rfl rfl ha (A2 (Cl rfl rfl) rfl (AW rfl rfl ha (A2 (Au rfl) rfl (AH (decide ((1)<((dg.length:Int)))) (λhg=>?_) (λhg=>?_)))))))))
   ·have h1:=hg;try simp only[AaL,AaK] at h1
    have h2:=hg;try simp at h2
    refine AW rfl rfl hg (A2 (Au rfl) rfl (AW rfl rfl hg (A2 (AV BP rfl rfl (by first | omega | (simp;omega) | (simp at *;omega) | exact Da (by assumption)) (by first | omega | (simp;omega) | (simp at *;omega) | exact Da (by assumption))) rfl (AW rfl rfl hg (A2 (B3 rfl rfl) rfl (AW rfl rfl ha (A2 (As rfl hg rfl) rfl (A2 (A4 rfl ha rfl) rfl (Al ?_)))))))));exact Aq (B2 trivial ⟨rfl,rfl,fb (by first | (simp only[ha,hg,AaW,Abc,Abm,AaZ,Abf,Abe,Abl,Abg,AaV,Abd,AaQ,AaN,Ab4,Abv,reduceIte,Aba];done) | simp[ha,hg]),trivial⟩ .slnil)
   ·have h1:=hg;try simp only[AaL,AaK] at h1
    have h2:=hg;try simp at h2
    refine An rfl rfl hg rfl (An rfl rfl hg rfl (An rfl rfl hg rfl (AW rfl rfl ha (A2 (A4 rfl hg rfl) rfl (A2 (A4 rfl ha rfl) rfl (Al ?_))))));exact Aq (B2 trivial ⟨rfl,rfl,fb (by first | (simp only[ha,hg,AaW,Abc,Abm,AaZ,Abf,Abe,Abl,Abg,AaV,Abd,AaQ,AaN,Ab4,Abv,reduceIte,Aba];done) | simp[ha,hg]),trivial⟩ .slnil)
 refine Ap (b:=((decide (((dg.length:Int))=(0)))||((decide ((1)<((dg.length:Int))))&&(decide ((AT dg 0)=(48)))))) rfl (λhh=>?_) (λhh=>?_)
 ·have h3:=hh;try simp only[AaL,AaK] at h3
  have h4:=hh;try simp at h4
  refine Am (Aj (A2 (Ac rfl) rfl (Al (Aq (AM ?_)))));refine Ax (Af (Aw (BS rfl rfl) ?_));exact GL (by rw[Wy hdg hh])
 ·have h3:=hh;try simp only[AaL,AaK] at h3
  have h4:=hh;try simp at h4
  refine At (Aq (AM ?_));refine Am (Am (Aj (A2 (Au rfl) rfl (A2 (Bd BP rfl) rfl (A2 (Au rfl) rfl (Al (Aq (AM ?_))))))));refine AO (HP (S:=Nat) (λ(k:Nat)=>k≤dg.length∧Be Dx 0 dg=Be Dx k (dg.drop k)) (λ(k:Nat)=>[(39,.int .i64 ((k:Int))),(3,.string (B (dg))),(38,.int .i64 ((dg.length:Int)))]) (λ(k:Nat)=>[]) (λ(k:Nat)=>dg.length-k) (0) ?_ ⟨fi (by first | rfl | (simp;done) | omega | (simp;omega)),rfl,rfl,trivial⟩ .slnil ?_)
  ·exact⟨Aby _,by simp⟩
  rintro k hi0;refine Am (Aj (A2 (Cp rfl rfl) rfl (Al (Aq (AM ?_)))));refine Am (Ap (b:=decide (((k:Int))<((dg.length:Int)))) rfl (λhj=>?_) (λhj=>?_))
  ·have hn:=hj;try simp only[AaL,AaK] at hn
   have h5:=hj;try simp at h5
   refine At (Aq (AM ?_));refine Am (AO (Am (Aj (A2 (Au rfl) rfl (A2 (Ac rfl) rfl (Al (Aq (AM ?_))))))));refine AA [(3,.string (B (dg))),(4,.int .i64 ((k:Int))),(38,.int .i64 ((dg.length:Int))),(39,.int .i64 ((k:Int))),(40,.bool (decide (((k:Int))<((dg.length:Int))))),(41,.int .i64 ((k:Int))),(42,.string (B (dg))),(43,.int .i64 ((k:Int))),(44,.int .u8 (AT dg (k:Int))),(45,.bool (decide ((AT dg (k:Int))<(48)))),(46,.bool (decide ((AT dg (k:Int))<(48)))),(51,.bool (((decide ((AT dg (k:Int))<(48)))||(decide ((57)<(AT dg (k:Int)))))))] [] (φ:=True) ?_ (λhD=>?_)
   ·refine Aj (A2 (Au rfl) rfl (A2 (Au rfl) rfl (A2 (AV BP rfl rfl (by first | omega | (simp;omega) | (simp at *;omega) | exact Da (by assumption)) (by first | omega | (simp;omega) | (simp at *;omega) | exact Da (by assumption))) rfl (A2 (Cp rfl rfl) rfl (A2 (Au rfl) rfl (AH (decide ((AT dg (k:Int))<(48))) (λhb=>?_) (λhb=>?_)))))))
    ·have h6:=hb;try simp only[AaL,AaK] at h6
     have h7:=hb;try simp at h7
     refine An rfl rfl hb rfl (An rfl rfl hb rfl (An rfl rfl hb rfl (An rfl rfl hb rfl (A2 (As rfl hb rfl) rfl (Al ?_)))));exact Aq (B2 trivial ⟨rfl,rfl,rfl,rfl,rfl,rfl,rfl,rfl,rfl,rfl,rfl,fb (by first | (simp only[hh,hj,hb,AaW,Abc,Abm,AaZ,Abf,Abe,Abl,Abg,AaV,Abd,AaQ,AaN,Ab4,Abv,reduceIte,Aba];done) | simp[hh,hj,hb]),trivial⟩ .slnil)
    ·have h6:=hb;try simp only[AaL,AaK] at h6
     have h7:=hb;try simp at h7
     refine AW rfl rfl hb (A2 (Au rfl) rfl (AW rfl rfl hb (A2 (Au rfl) rfl (AW rfl rfl hb (A2 (AV BP rfl rfl (by first | omega | (simp;omega) | (simp at *;omega) | exact Da (by assumption)) (by first | omega | (simp;omega) | (simp at *;omega) | exact Da (by assumption))) rfl (AW rfl rfl hb (A2 (Cl rfl rfl) rfl (A2 (A4 rfl hb rfl) rfl (Al ?_)))))))));exact Aq (B2 trivial ⟨rfl,rfl,rfl,rfl,rfl,rfl,rfl,rfl,rfl,rfl,rfl,fb (by first | (simp only[hh,hj,hb,AaW,Abc,Abm,AaZ,Abf,Abe,Abl,Abg,AaV,Abd,AaQ,AaN,Ab4,Abv,reduceIte,Aba];done) | simp[hh,hj,hb]),trivial⟩ .slnil)
   refine Ap (b:=((decide ((AT dg (k:Int))<(48)))||(decide ((57)<(AT dg (k:Int)))))) rfl (λhl=>?_) (λhl=>?_)
   ·have h8:=hl;try simp only[AaL,AaK] at h8
    have h9:=hl;try simp at h9
    refine Am (Aj (A2 (Ac rfl) rfl (Al (Aq (AM ?_)))));refine Ax (A3 (Af (Af (A3 (Af (Aw (BS rfl rfl) ?_))))));exact GL (by simp[EI,hdg,WB hi0 hn hl])
   ·have h8:=hl;try simp only[AaL,AaK] at h8
    have h9:=hl;try simp at h9
    refine At (AK (Aq (AM ?_)));refine Aj (A2 (Bi rfl rfl (IntWalk.i64_in _ (by omega))) rfl (A2 (Au rfl) rfl (Al (Aq (AG (k+1) ?_ ⟨fi (by first | rfl | (simp;done) | omega | (simp;omega)),rfl,rfl,trivial⟩ .slnil)))));exact Rb hi0 hn hl
  ·have hn:=hj;try simp only[AaL,AaK] at hn
   have h5:=hj;try simp at h5
   refine B9 (A5 (A5 (Bm (Aq (AM ?_)))));refine Am (Aj (A2 (Ac rfl) rfl (Al (Aq (AM ?_)))));refine Ax (Aw (BS rfl rfl) ?_);exact GL (by rw[Wx hdg hform hh (Ta hi0 hn)])
theorem XB (p:List UInt8)(hp:p.length≤281474976710656)(w:World):Calls Tryz.prog 56 [.string (B (p))].toArray w (J1 w (.tuple #[.int .i64 (Bt p),.int .i64 (B6 p)])):=by
 refine GR (n:=42) Tryz.func56 rfl Tryz.ntmps56 rfl (Am (Aj (A2 (Ac rfl) rfl (A2 (Ac rfl) rfl (Al (Aq (AM ?_)))))));refine AA [(0,.string (B (p))),(2,.int .i64 (0)),(3,.int .i64 (0)),(4,.bool (((decide ((0)<((p.length:Int))))&&(decide ((AT p 0)=(45))))))] [] (φ:=True) ?_ (λhu=>?_)
 ·refine Aj (A2 (Au rfl) rfl (A2 (Bd BP rfl) rfl (A2 (Cl rfl rfl) rfl (A2 (Au rfl) rfl (AH (decide ((0)<((p.length:Int)))) (λha=>?_) (λha=>?_))))))
  ·have hm:=ha;try simp only[AaL,AaK] at hm
   have hn:=ha;try simp at hn
   refine AW rfl rfl ha (A2 (Au rfl) rfl (AW rfl rfl ha (A2 (AV BP rfl rfl (by first | omega | (simp;omega) | (simp at *;omega)) (by first | omega | (simp;omega) | (simp at *;omega))) rfl (AW rfl rfl ha (A2 (B3 rfl rfl) rfl (A2 (As rfl ha rfl) rfl (A2 (Ac rfl) rfl (Al ?_))))))));exact Aq (B2 trivial ⟨rfl,rfl,rfl,fb (by first | (simp only[ha,AaW,Abc,Abm,AaZ,Abf,Abe,Abl,Abg,AaV,Abd,AaQ,AaN,Ab4,Abv,reduceIte,Aba];done) | simp[ha]),trivial⟩ .slnil)
  ·have hm:=ha;try simp only[AaL,AaK] at hm
   have hn:=ha;try simp at hn
   refine An rfl rfl ha rfl (An rfl rfl ha rfl (An rfl rfl ha rfl (A2 (A4 rfl ha rfl) rfl (A2 (Ac rfl) rfl (Al ?_)))));exact Aq (B2 trivial ⟨rfl,rfl,rfl,fb (by first | (simp only[ha,AaW,Abc,Abm,AaZ,Abf,Abe,Abl,Abg,AaV,Abd,AaQ,AaN,Ab4,Abv,reduceIte,Aba];done) | simp[ha]),trivial⟩ .slnil)
 refine Am (Am (Aj (A2 (Au rfl) rfl (Ci Tryz.call85 rfl (λw hw=>Zm p (by first | omega | (simp;done) | (simp;omega) | (simp at *;omega) | (split<;>first | omega | (simp;omega))) w) rfl (A2 (BJ rfl) rfl (Al (Aq (AM ?_))))))));refine Ap (b:=!(EI p)) rfl (λhb=>?_) (λhb=>?_)
 ·have ho:=hb;try simp only[AaL,AaK] at ho
  have hf:=hb;try simp only[AaL,AaK,AaO,Abt,Abi,AbB,Abx,Abn,not_or,Int.not_lt,Int.not_le] at hf
  refine Am (Aj (A2 (Ac rfl) rfl (A2 (Ac rfl) rfl (Al (Aq (AM ?_))))));refine Ax (Af (Aw (Dg rfl rfl rfl) ?_));exact GL (by simp[Bt,B6,hf])
 ·have ho:=hb;try simp only[AaL,AaK] at ho
  have hf:=hb;try simp only[AaL,AaK,AaO,Abt,Abi,AbB,Abx,Abn,not_or,Int.not_lt,Int.not_le] at hf
  refine At (Aq (AM ?_));refine Am (Aj (A2 (Ac rfl) rfl (Al (Aq (AM ?_)))));refine Am (Am (Aj (A2 (Au rfl) rfl (A2 (Bd BP rfl) rfl (A2 (Au rfl) rfl (Al (Aq (AM ?_))))))));refine AO (HP (S:=Nat×Nat) (λ(x:Nat×Nat)=>match x with | ⟨k,n⟩=>k≤p.length∧n≤1000000000000∧Ee 0 p=Ee n (p.drop k)) (λ(x:Nat×Nat)=>match x with | ⟨k,n⟩=>[(20,.int .i64 ((k:Int))),(5,.int .i64 ((n:Int))),(0,.string (B (p))),(4,.bool (((decide ((0)<((p.length:Int))))&&(decide ((AT p 0)=(45)))))),(19,.int .i64 ((p.length:Int)))]) (λ(x:Nat×Nat)=>match x with | ⟨k,n⟩=>[]) (λ(x:Nat×Nat)=>match x with | ⟨k,n⟩=>p.length-k) (0,0) ?_ ⟨fi (by first | rfl | (simp;done) | omega | (simp;omega)),fi (by first | rfl | (simp;done) | omega | (simp;omega)),rfl,rfl,rfl,trivial⟩ .slnil ?_)
  ·exact⟨Aby _,Aby _,by simp⟩
  rintro⟨k,n⟩ hi0;have hk1:=hi0.1;have hk2:=hi0.2.1;refine Am (Aj (A2 (Cp rfl rfl) rfl (Al (Aq (AM ?_)))));refine Am (Ap (b:=decide (((k:Int))<((p.length:Int)))) rfl (λhd=>?_) (λhd=>?_))
  ·have hh:=hd;try simp only[AaL,AaK] at hh
   have hq:=hd;try simp at hq
   refine At (Aq (AM ?_));refine AA [(0,.string (B (p))),(4,.bool (((decide ((0)<((p.length:Int))))&&(decide ((AT p 0)=(45)))))),(5,.int .i64 ((if decide ((AT p (k:Int))=(45))=true then(n:Int) else(10*(n:Int))+((AT p (k:Int))-48)))),(6,.int .i64 ((k:Int))),(19,.int .i64 ((p.length:Int))),(20,.int .i64 ((k:Int))),(21,.bool (decide (((k:Int))<((p.length:Int))))),(22,.int .i64 ((k:Int))),(23,.string (B (p))),(24,.int .i64 ((k:Int))),(25,.int .u8 (AT p (k:Int))),(26,.bool (decide ((AT p (k:Int))=(45))))] [] (φ:=((decide ((AT p (k:Int))=(45)))||(!(decide ((1000000000000)<((10*(n:Int))+((AT p (k:Int))-48))))))=true) ?_ (λht=>?_)
   ·refine AO (Am (Aj (A2 (Au rfl) rfl (A2 (Ac rfl) rfl (Al (Aq (AM ?_)))))));refine Am (Am (Aj (A2 (Au rfl) rfl (A2 (Au rfl) rfl (A2 (AV BP rfl rfl (by first | omega | (simp;omega) | (simp at *;omega)) (by first | omega | (simp;omega) | (simp at *;omega))) rfl (A2 (B3 rfl rfl) rfl (Al (Aq (AM ?_)))))))));refine Ap (b:=decide ((AT p (k:Int))=(45))) rfl (λhe=>?_) (λhe=>?_)
    ·have hl:=he;try simp only[AaL,AaK] at hl
     have hr:=he;try simp at hr
     refine B9 (A5 (Bm ?_));exact Aq (B2 (by first | (simp only[hb,hd,he,AaW,Abc,Abm,AaZ,Abf,Abe,Abl,Abg,AaV,Abd,AaQ,AaN,Ab4,Abv,reduceIte,Aba];done) | simp[hb,hd,he]) ⟨rfl,rfl,fi (by first | (simp only[hb,hd,he,AaW,Abc,Abm,AaZ,Abf,Abe,Abl,Abg,AaV,Abd,AaQ,AaN,Ab4,Abv,reduceIte,Aba];done) | simp[hb,hd,he]),rfl,rfl,rfl,rfl,rfl,rfl,rfl,rfl,rfl,trivial⟩ .slnil)
    ·have hl:=he;try simp only[AaL,AaK] at hl
     have hr:=he;try simp at hr
     refine At (Aq (AM ?_));refine Am (Aj (A2 (Au rfl) rfl (A2 (Q3 rfl rfl (IntWalk.i64_in _ (by first | omega | (have:=HM (p:=p) (k:=k) (by simp_all) (by omega) (by simp_all);omega)))) rfl (A2 (Au rfl) rfl (A2 (Au rfl) rfl (A2 (AV BP rfl rfl (by first | omega | (simp;omega) | (simp at *;omega)) (by first | omega | (simp;omega) | (simp at *;omega))) rfl (A2 (Gz rfl rfl (IntWalk.u8_in _ (by first | omega | (have:=HM (p:=p) (k:=k) (by simp_all) (by omega) (by simp_all);omega)))) rfl (A2 (D1 ⟨_,P8⟩ P9 rfl (IntWalk.i64_in _ (by first | omega | (have:=HM (p:=p) (k:=k) (by simp_all) (by omega) (by simp_all);omega)))) rfl (A2 (Bi rfl rfl (IntWalk.i64_in _ (by first | omega | (have:=HM (p:=p) (k:=k) (by simp_all) (by omega) (by simp_all);omega)))) rfl (A2 (Ac rfl) rfl (Al (Aq (AM ?_)))))))))))));refine Am (Aj (A2 (Au rfl) rfl (A2 (Cl rfl rfl) rfl (Al (Aq (AM ?_))))));refine Ap (b:=decide ((1000000000000)<((10*(n:Int))+((AT p (k:Int))-48)))) rfl (λhg=>?_) (λhg=>?_)
     ·have hi:=hg;try simp only[AaL,AaK] at hi
      have hk:=hg;try simp at hk
      refine Am (Aj (A2 (Ac rfl) rfl (A2 (Ac rfl) rfl (Al (Aq (AM ?_))))));refine Ax (A3 (Af (Af (A3 (Af (Aw (Dg rfl rfl rfl) ?_))))));have hx:=(LF hf).2 (Vh hf hh hi0.2.2 hl hi);exact GL (by rw[hx.1,hx.2])
     ·have hi:=hg;try simp only[AaL,AaK] at hi
      have hk:=hg;try simp at hk
      refine At (AK ?_);exact Aq (B2 (by first | (simp only[hb,hd,he,hg,AaW,Abc,Abm,AaZ,Abf,Abe,Abl,Abg,AaV,Abd,AaQ,AaN,Ab4,Abv,reduceIte,Aba];done) | simp[hb,hd,he,hg]) ⟨rfl,rfl,fi (by first | (simp only[hb,hd,he,hg,AaW,Abc,Abm,AaZ,Abf,Abe,Abl,Abg,AaV,Abd,AaQ,AaN,Ab4,Abv,reduceIte,Aba];done) | simp[hb,hd,he,hg]),rfl,rfl,rfl,rfl,rfl,rfl,rfl,rfl,rfl,trivial⟩ .slnil)
   have hi:=ht;try simp only[AaL,AaK] at hi
   have hk:=ht;try simp only[AaL,AaK,AaO,Abt,Abi,AbB,Abx,Abn,not_or,Int.not_lt,Int.not_le] at hk
   obtain⟨n1,hn1,hn2,hn3⟩:=Vj (p:=p) (k:=k) (n:=n) hf hh hi0.2.2 hk2 (by simpa using hi);rw[hn1];refine Aj (A2 (Bi rfl rfl (IntWalk.i64_in _ (by first | omega | (have:=HM (p:=p) (k:=k) (by simp_all) (by omega) (by simp_all);omega)))) rfl (A2 (Au rfl) rfl (Al (Aq (AG (k+1,n1) ?_ ⟨fi (by first | rfl | (simp;done) | omega | (simp;omega)),fi (by first | rfl | (simp;done) | omega | (simp;omega)),rfl,rfl,rfl,trivial⟩ .slnil)))));exact⟨⟨by omega,hn3,hn2⟩,by show p.length-(k+1)<p.length-k;omega⟩
  ·have hh:=hd;try simp only[AaL,AaK] at hh
   have hq:=hd;try simp at hq
   refine B9 (A5 (A5 (Bm (Aq (AM ?_)))));refine Am (Am (Aj (A2 (Au rfl) rfl (Al (Aq (AM ?_))))));refine Ap (b:=((decide ((0)<((p.length:Int))))&&(decide ((AT p 0)=(45))))) rfl (λhj=>?_) (λhj=>?_)
   ·have hs:=hj;try simp only[AaL,AaK] at hs
    have f126:=hj;try simp at f126
    refine Am (Aj (A2 (Au rfl) rfl (A2 (N5 rfl (IntWalk.i64_in _ (by omega))) rfl (A2 (Ac rfl) rfl (A2 (Ac rfl) rfl (Al (Aq (AM ?_))))))));refine Ax (Af (Aw (Dg rfl rfl rfl) ?_));have hx:=(LF hf).1 n (Sz hi0.2.2 hh);exact GL (by rw[hx.1,hx.2];simp only[Gp];simp only[hj];simp)
   ·have hs:=hj;try simp only[AaL,AaK] at hs
    have f126:=hj;try simp at f126
    refine At (Aq (AM ?_));refine Am (Aj (A2 (Au rfl) rfl (A2 (Ac rfl) rfl (A2 (Ac rfl) rfl (Al (Aq (AM ?_)))))));refine Ax (Aw (Dg rfl rfl rfl) ?_);have hx:=(LF hf).1 n (Sz hi0.2.2 hh);exact GL (by rw[hx.1,hx.2];simp only[Gp];simp only[hj];simp)
theorem Wv (n:Int)(h0 : -9223372036854775808≤n)(h1:n≤9223372036854775807)(w:World):Calls Tryz.prog 51 [.int .i64 (n)].toArray w (J1 w (.string (B (Lib.itoa n)))):=by
 refine GR (n:=34) Tryz.func51 rfl Tryz.ntmps51 rfl (Am (Aj (A2 (Ac rfl) rfl (Al (Aq (AM ?_))))));refine Am (Aj (A2 (Ac rfl) rfl (Al (Aq (AM ?_)))));refine Am (Aj (A2 (Ac rfl) rfl (Al (Aq (AM ?_)))));refine Am (Am (Aj (A2 (Au rfl) rfl (A2 (Ac rfl) rfl (Al (Aq (AM ?_)))))));refine AO (HP (S:=Int×List UInt8) (λ(x:Int×List UInt8)=>match x with | ⟨m,s⟩=>(-9223372036854775808≤m∧m≤9223372036854775807)∧W1 n m s) (λ(x:Int×List UInt8)=>match x with | ⟨m,s⟩=>[(5,.int .i64 (m)),(4,.string (B (s))),(0,.int .i64 (n)),(2,.string (B ([]))),(3,.string (B ([48,49,50,51,52,53,54,55,56,57])))]) (λ(x:Int×List UInt8)=>match x with | ⟨m,s⟩=>[]) (λ(x:Int×List UInt8)=>match x with | ⟨m,s⟩=>m.natAbs+(if s=[] then 1 else 0)) (n,[]) ?_ ⟨fi (by first | rfl | (simp;done) | omega | (simp;omega)),fs (by first | rfl | simp),rfl,rfl,rfl,trivial⟩ .slnil ?_)
 ·exact⟨⟨h0,h1⟩,.inl ⟨rfl,rfl⟩⟩
 rintro⟨m,s⟩ hi0;have hb:=hi0.1;have hsl:=Yg h0 h1 hi0.2;have htd:=T1 hi0.1.1 hi0.1.2;have htm:=T0 m;refine Am (AA [(0,.int .i64 (n)),(2,.string (B ([]))),(3,.string (B ([48,49,50,51,52,53,54,55,56,57]))),(4,.string (B (s))),(5,.int .i64 (m)),(8,.int .i64 (m)),(9,.bool (!(decide ((m)=(0))))),(10,.bool (!(decide ((m)=(0))))),(13,.bool (((!(decide ((m)=(0))))||(decide ((s)=(([]:List UInt8)))))))] [] (φ:=True) ?_ (λhm=>?_))
 ·refine Aj (A2 (Au rfl) rfl (A2 (CF rfl rfl) rfl (A2 (Au rfl) rfl (AH (!(decide ((m)=(0)))) (λha=>?_) (λha=>?_)))))
  ·have hh:=ha;try simp only[AaL,AaK] at hh
   have hi:=ha;try simp at hi
   refine An rfl rfl ha rfl (An rfl rfl ha rfl (A2 (As rfl ha rfl) rfl (Al ?_)));exact Aq (B2 trivial ⟨rfl,rfl,rfl,rfl,rfl,rfl,rfl,rfl,fb (by first | (simp only[ha,AaW,Abc,Abm,AaZ,Abf,Abe,Abl,Abg,AaV,Abd,AaQ,AaN,Ab4,Abv,reduceIte,Aba];done) | simp[ha]),trivial⟩ .slnil)
  ·have hh:=ha;try simp only[AaL,AaK] at hh
   have hi:=ha;try simp at hi
   refine AW rfl rfl ha (A2 (Au rfl) rfl (AW rfl rfl ha (A2 (G0 rfl rfl) rfl (A2 (A4 rfl ha rfl) rfl (Al ?_)))));exact Aq (B2 trivial ⟨rfl,rfl,rfl,rfl,rfl,rfl,rfl,rfl,fb (by first | (simp only[ha,AaW,Abc,Abm,AaZ,Abf,Abe,Abl,Abg,AaV,Abd,AaQ,AaN,Ab4,Abv,reduceIte,Aba];done) | simp[ha]),trivial⟩ .slnil)
 refine Ap (b:=((!(decide ((m)=(0))))||(decide ((s)=(([]:List UInt8)))))) rfl (λhd=>?_) (λhd=>?_)
 ·have hj:=hd;try simp only[AaL,AaK] at hj
  have f129:=hd;try simp at f129
  refine At (Aq (AM ?_));refine Am (AO (Am (Aj (A2 (Au rfl) rfl (A2 (VJ rfl rfl (by decide)) rfl (A2 (Ac rfl) rfl (Al (Aq (AM ?_)))))))));refine AA [(0,.int .i64 (n)),(2,.string (B ([]))),(3,.string (B ([48,49,50,51,52,53,54,55,56,57]))),(4,.string (B (s))),(5,.int .i64 (m)),(6,.int .i64 ((if decide ((Int.tmod m 10)<(0))=true then -(Int.tmod m 10) else Int.tmod m 10))),(8,.int .i64 (m)),(9,.bool (!(decide ((m)=(0))))),(10,.bool (!(decide ((m)=(0))))),(13,.bool (((!(decide ((m)=(0))))||(decide ((s)=(([]:List UInt8))))))),(16,.int .i64 (m)),(17,.int .i64 (Int.tmod m 10)),(18,.int .i64 (Int.tmod m 10)),(19,.bool (decide ((Int.tmod m 10)<(0))))] [] (φ:=True) ?_ (λhn=>?_)
  ·refine Am (Aj (A2 (Au rfl) rfl (A2 (Cp rfl rfl) rfl (Al (Aq (AM ?_))))));refine Ap (b:=decide ((Int.tmod m 10)<(0))) rfl (λhe=>?_) (λhe=>?_)
   ·have hk:=he;try simp only[AaL,AaK] at hk
    have f130:=he;try simp at f130
    refine Aj (A2 (Au rfl) rfl (A2 (N5 rfl (IntWalk.i64_in _ (by omega))) rfl (A2 (Ac rfl) rfl (Al ?_))));exact Aq (B2 trivial ⟨rfl,rfl,rfl,rfl,rfl,fi (by first | (simp only[hd,he,AaW,Abc,Abm,AaZ,Abf,Abe,Abl,Abg,AaV,Abd,AaQ,AaN,Ab4,Abv,reduceIte,Aba];done) | simp[hd,he]),rfl,rfl,rfl,rfl,rfl,rfl,rfl,rfl,trivial⟩ .slnil)
   ·have hk:=he;try simp only[AaL,AaK] at hk
    have f130:=he;try simp at f130
    refine At ?_;exact Aq (B2 trivial ⟨rfl,rfl,rfl,rfl,rfl,fi (by first | (simp only[hd,he,AaW,Abc,Abm,AaZ,Abf,Abe,Abl,Abg,AaV,Abd,AaQ,AaN,Ab4,Abv,reduceIte,Aba];done) | simp[hd,he]),rfl,rfl,rfl,rfl,rfl,rfl,rfl,rfl,trivial⟩ .slnil)
  obtain⟨d1,hd1,hd2,hd3⟩:=OG m;rw[hd1];refine Aj (A2 (Au rfl) rfl (A2 (Au rfl) rfl (A2 (Au rfl) rfl (A2 (Bi rfl rfl (IntWalk.i64_in _ (by first | omega | (have:=OG m;obtain⟨d1,hd1,hd2,hd3⟩:=this;split at hd1<;>omega)))) rfl (A2 (DN BP rfl rfl rfl (by first | omega | (simp;omega)) (by first | omega | (simp;omega)) (by first | omega | (simp;omega))) rfl (A2 (Au rfl) rfl (A2 (Do rfl rfl (by simp;omega)) rfl (A2 (Ac rfl) rfl (Al (AK (Aq (AM ?_))))))))))));refine Aj (A2 (Au rfl) rfl (A2 (VK rfl rfl (by decide) (IntWalk.i64_in _ (by omega))) rfl (A2 (Ac rfl) rfl (Al (Aq (AG (Int.tdiv m 10,(List.take (Int.toNat ((d1:Int)+1)-Int.toNat ((d1:Int))) (List.drop (Int.toNat ((d1:Int))) [48,49,50,51,52,53,54,55,56,57]))++s) ?_ ⟨fi (by first | rfl | (simp;done) | omega | (simp;omega)),fs (by first | rfl | simp),rfl,rfl,rfl,trivial⟩ .slnil))))));have hx:=W0 hi0.2 hd hd2;exact⟨⟨htd,hx.1⟩,hx.2⟩
 ·have hj:=hd;try simp only[AaL,AaK] at hj
  have f129:=hd;try simp at f129
  refine B9 (A5 (A5 (Bm (Aq (AM ?_)))));refine Am (Am (Aj (A2 (Au rfl) rfl (A2 (Cp rfl rfl) rfl (Al (Aq (AM ?_)))))));refine Ap (b:=decide ((n)<(0))) rfl (λhf=>?_) (λhf=>?_)
  ·have hg:=hf;try simp only[AaL,AaK] at hg
   have hl:=hf;try simp at hl
   refine Am (Aj (A2 (Au rfl) rfl (A2 (Do rfl rfl (by simp;omega)) rfl (A2 (Ac rfl) rfl (Al (Aq (AM ?_)))))));refine Ax (Af (Aw (BS rfl rfl) ?_));exact GL (by rw[Yf (SV hi0.2 hd) hg])
  ·have hg:=hf;try simp only[AaL,AaK] at hg
   have hl:=hf;try simp at hl
   refine At (Aq (AM ?_));refine Am (Aj (A2 (Au rfl) rfl (A2 (Ac rfl) rfl (Al (Aq (AM ?_))))));refine Ax (Aw (BS rfl rfl) ?_);exact GL (by rw[← Ye (SV hi0.2 hd) hg])
end Go.Proofs.YtkoiaconljdbeaaGreatDoor
namespace Go.Proofs.YtkoiaconljdbeaaGreatDoor.Q
open Go Go.RowKit
set_option linter.unusedVariables false
def GE (Z:Fz):Prop:=∀w,Xd Z w→Tl w
theorem GE.mono {Z Z':Fz}(h:Fz.le Z Z')(hg:GE Z):GE Z':=λw hw=>hg w (λb o e=>hw b o (h b o e))
theorem L0.rle {P:Program}{E:Fz→Prop}{f:FuncId}{args:List Rp}{r r':Rp}(h:L0 P E f args r)(hr:GJ r r'):L0 P E f args r':=λw Z vs hv hs=>
 (h w Z vs hv hs).mono λe w' ⟨q,v,H,Z',he,⟨hq,hH⟩,hp,ht⟩=>⟨r',v,H,Z',he,⟨rfl,hH⟩,hr Z' v (hq▸hp),ht⟩
theorem GJ.tup2 {a b:Value}:GJ (rv (.tuple #[a,b])) (C5 [rv a,rv b]):=λZ v h=>⟨[a,b],h,rfl,rfl,trivial⟩
theorem L0.of_id {P:Program}{E:Fz→Prop}{f:FuncId}{vs:List Value}{v:Value}(h:∀w,Calls P f vs.toArray w (λe w'=>e = .returned v∧w'=w)):L0 P E f (vs.map rv) (rv v):=
 L0.of_old λw Z _ _=>(h w).mono λe w' ⟨he,hw⟩=>⟨he,by rw[hw];exact Proofs.YtkoiaconljdbeaaGreatDoor.St.refl w []⟩
theorem ND (m:Int)(g:Bw .i64 m=true):L0 Tryz.prog GE 47 [rI .i64 m] (rS (Lib.itoa m)):=L0.of_old (vs:=[.int .i64 m]) λw Z hf he=>Ww m (GG g).1 (GG g).2 w (he w hf)
theorem Zg (m:Int)(g:Bw .i64 m=true):L0 Tryz.prog GE 75 [rI .i64 m] (rS (Lib.itoa m)):=L0.of_old (vs:=[.int .i64 m]) λw Z hf he=>Wm m (GG g).1 (GG g).2 w (he w hf)
theorem SD (s:Ah)(g:DC 1 s.length=true):L0 Tryz.prog GE 53 [rS s] (C5 [rI .i64 (Bt s),rI .i64 (B6 s)]):=(L0.of_old (vs:=[.string (B s)]) λw Z hf he=>XC s (by simp[DC] at g;omega) w (he w hf)).rle GJ.tup2
theorem Te (s:Ah)(c:UInt8):L0 Tryz.prog GE 150 [rS s,rS [c]] (rI .i64 (Lib.countByte s c)):=L0.of_id (vs:=[.string (B s),.string (B [c])]) λw=>by have:=Tryz.strings_Count_one (B s) c w;rwa [Sg] at this
theorem Aax (s:Ah):L0 Tryz.prog GE 70 [rS s] (rB (Rl s)):=L0.of_old (vs:=[.string (B s)]) λw Z hf he=>Aay s w
theorem VS (s:Ah):L0 Tryz.prog GE 71 [rS s] (rB (CT s)):=L0.of_old (vs:=[.string (B s)]) λw Z hf he=>YZ s w
theorem Uq (m:Int)(g:Bw .i64 m=true):L0 Tryz.prog GE 51 [rI .i64 m] (rS (Lib.itoa m)):=L0.of_old (vs:=[.int .i64 m]) λw Z hf he=>Wv m (GG g).1 (GG g).2 w
theorem V6 (s:Ah)(g:DC 1 s.length=true):L0 Tryz.prog GE 56 [rS s] (C5 [rI .i64 (Bt s),rI .i64 (B6 s)]):=(L0.of_old (vs:=[.string (B s)]) λw Z hf he=>XB s (by simp[DC] at g;omega) w).rle GJ.tup2
set_option linter.unusedSimpArgs false
theorem Ir (l:List UInt8):((Dt l).map Bp).flatten=(l.map λc=>Value.int .u8 c.toNat).map rv:=by
 induction l with
 | nil=>rfl
 | cons c r ih=>simp only[Dt,Ab6,List.flatten_cons] at ih ⊢;rw[ih];rfl
theorem DT (l:List UInt8):(Dt l).length=l.length:=by simp[Dt]
theorem KS {P:Program}{w:World}{t t' e:TypeId}{inf:TypeInfo}{v:Value}{m:Nat}{us:List Value}{s:List UInt8}(ty:TypeId)(ht:P.underlying t=some (.slice e))(hu:P.underlying t'=some .string)(hinf:P.info? e=some inf)(hz:inf.zero=some (.int .u8 0))(hsize:inf.size=1)(hby:inf.bytes=1)
  (hown:w.ownsRow 0 e 1 v m us) (hb:m+s.length≤140737488355328) :
  ∃v' w',(Builtin.append_ #[t,t'] ty #[v,.string (B s)]).run P w = .ok v' w'∧w'.ownsRow 0 e 1 v' (m+s.length) (us++s.map λc=>Value.int .u8 c.toNat)∧w.grownBy w' v.ownBlock∧(v'.ownBlock=v.ownBlock∨∀b,v'.ownBlock=some b→w.heap.size≤b):=by
 have hsz:(B s).size=s.length:=D2 s;have hcells:Lib.strCells (B s)=s.map λc=>Value.int .u8 c.toNat:=by simp[Lib.strCells,B]
 rcases hown.2 with⟨rfl,rfl⟩ | ⟨g,cap,cur,rfl,hbg,hg,hnc,hcm,hcs,htake⟩
 ·have hx:us=[]:=Abu (by simpa using hown.1);subst hx;obtain⟨v',w',e1,e2,e3,_⟩:=Lib.run_append_own_string (P:=P) (w:=w) w.heap.size t t' ty e inf ht hu hinf hz hsize hby (.slice none 0 0) 0 [] (World.ownsRow_nil w _ e 1) (B s) (by rw[hsz];simp only[maxLen];omega) (by rw[hsz];omega) (Abp _);rw[hsz,hcells] at e2;refine⟨v',w',e1,⟨e2.1,?_⟩,e3,.inr λb hb=>(e2.lt b hb).1⟩;rcases e2.2 with h | ⟨g,cap,cur,h,_,rest⟩
  ·exact .inl h
  ·exact .inr ⟨g,cap,cur,h,Aby _,rest⟩
 ·obtain⟨v',w',e1,e2,e3,_⟩:=Lib.run_append_own_string (P:=P) (w:=w) 0 t t' ty e inf ht hu hinf hz hsize hby _ m us hown (B s) (by rw[hsz];simp only[maxLen];omega) (by rw[hsz];omega) (Aby _);rw[hsz,hcells] at e2;refine⟨v',w',e1,e2,e3,?_⟩
  by_cases hroom:m+(B s).size≤cap
  ·have hr:=Lib.run_append_room_string (P:=P) w t t' ty e inf ht hu hinf hsize g m cap cur hg (B s) hroom (by simp at hcs;omega);rw[hr] at e1;simp only[Result.ok.injEq] at e1;rw[← e1.1];exact .inl rfl
  ·have holds:∀j u,us[j]? =some u→w.cell? ((⟨g,0,none⟩:Addr).add j)=some u:=hown.cells (g:=g) rfl;have hr:=Lib.run_append_grow_string (P:=P) w t t' ty e inf (.int .u8 0) ht hu hinf hz ⟨g,0,none⟩ m cap us (by rw[hsize];exact hown.1) holds (B s) (by omega) (by rw[hsz];omega) (by rw[hby];exact growslice_fits (by omega) (by rw[hsz];omega));rw[hr] at e1;simp only[Result.ok.injEq] at e1;rw[← e1.1];exact .inr λb hb=>by simp[Value.ownBlock] at hb;omega
section
variable {P : Program} {n : Nat} {c : Cx} {ops : Array Oper} {Q : Exit → Act → World → Prop} {rest : List Oper} {l : Fr} {H H' : List Ent} {d : Nat} {d' : Option Nat} {x y z3 : Operand} {ty t t' e : TypeId} {pos : String} {af : Array Edge} {g : Option (Nat × Bool)} {v u : Value} {r : Rp} {sz : Nat} {K : Act → World → Prop}
theorem St.tobld {Z:Fz}{w:World}(h:St c H Z w){i b:Nat}{te T:TypeId}(hi:H[i]? =some (.blk b [rv (.pointer none),rv (.slice none 0 0)] T)):St c (H.set i (.bld T te b (.slice none 0 0) [])) Z w:=by
 refine h.set hi rfl rfl rfl (Abp _) (λ_ _ _=>rfl) ?_ (by simp[Ent.foot,Value.ownBlock]);obtain⟨us,h1,h2⟩:=h.ent hi;have:=Bf.eq_rv (us:=[.pointer none,.slice none 0 0]) h2;subst this;exact⟨_,.inl rfl,h1,⟨by simp,.inl ⟨rfl,rfl⟩⟩,by simp[Value.ownBlock]⟩
theorem WK.tobld {i b:Nat}{te T:TypeId}(hi:H[i]? =some (.blk b [rv (.pointer none),rv (.slice none 0 0)] T))(h:WK n c K l (H.set i (.bld T te b (.slice none 0 0) []))):WK n c K l H:=λa w Z ha hw=>h a w Z ha (St.tobld hw hi)
theorem WL.tobld {i b:Nat}{te T:TypeId}(hi:H[i]? =some (.blk b [rv (.pointer none),rv (.slice none 0 0)] T))(h:WL P n c ops Q rest l (H.set i (.bld T te b (.slice none 0 0) []))):WL P n c ops Q rest l H:=λa w Z ha hw=>h a w Z ha (St.tobld hw hi)
theorem WC.tobld {xx:Code}{i b:Nat}{te T:TypeId}(hi:H[i]? =some (.blk b [rv (.pointer none),rv (.slice none 0 0)] T))(h:WC P n c xx Q l (H.set i (.bld T te b (.slice none 0 0) []))):WC P n c xx Q l H:=λa w Z ha hw=>h a w Z ha (St.tobld hw hi)
theorem Fn.bld {E:Fz→Prop}{f:FuncId}{args:List Rp}{T te:TypeId}{b:Nat}{v:Value}{s s':List UInt8}{res:Rp}
  (h:∀p,(p = .pointer none∨p = .pointer (some ⟨b,0,none⟩))→Fn P E f args [.blk b [rv p,rv v] T,.row v te 1 ((Dt s).map Bp)] (λR H=>∃w0:Value,R=res∧H=[.blk b [rv (.pointer (some ⟨b,0,none⟩)),rv w0] T,.row w0 te 1 ((Dt s').map Bp)])) :
  Fn P E f args [.bld T te b v s] (λR H=>∃w0:Value,R=res∧H=[.bld T te b w0 s']):=λw Z vs hv hs=>by
 obtain⟨p,hp,h1,h2,h3⟩:=hs.has _ (List.mem_singleton.2 rfl);have hfoot:[Ent.bld T te b v s].flatMap Ent.foot=[Ent.blk b [rv p,rv v] T,Ent.row v te 1 ((Dt s).map Bp)].flatMap Ent.foot:=by simp[Ent.foot]
 have hs':St ⟨w,Z,[Ent.blk b [rv p,rv v] T,Ent.row v te 1 ((Dt s).map Bp)].flatMap Ent.foot,E⟩ [Ent.blk b [rv p,rv v] T,Ent.row v te 1 ((Dt s).map Bp)] Z w:=by
  refine⟨rfl,rfl,rfl,Abp _,λ_ _ _=>rfl,?_,λe he k hk=>.inr (List.mem_flatMap.2 ⟨e,he,hk⟩),?_,hs.frz,Fz.le.refl _,λ_ _ e=>.inl e,λe he k hk=>?_,hs.env,hs.emono⟩
  ·intro e he;simp only[AbH,List.not_mem_nil,or_false] at he;rcases he with rfl | rfl
   ·exact⟨[p,v],h1,rfl,rfl,trivial⟩
   ·refine⟨λcl hcl=>by obtain⟨z,_,rfl⟩:=List.mem_map.1 hcl;rfl,_,by simpa[DT] using h2,?_⟩;rw[Ir];exact Bf.rvs Z _
  ·refine List.pairwise_cons.2 ⟨λe he k hk hk'=>?_,List.pairwise_singleton ..⟩;simp only[Abz] at he;subst he;simp only[Ent.foot,Abz] at hk;subst hk;simp only[Ent.foot,Option.mem_toList] at hk';exact h3 hk'
  ·have hmem:k∈[Ent.bld T te b v s].flatMap Ent.foot:=by rw[hfoot];exact List.mem_flatMap.2 ⟨e,he,hk⟩
   obtain⟨e',he',hk'⟩:=List.mem_flatMap.1 hmem;exact hs.zdis e' he' k hk'
 rw[hfoot] at hs ⊢;refine(h p hp w Z vs hv hs').mono λe w' ⟨R,vv,H,Z',he,⟨w0,hR,hH⟩,hpR,ht⟩=>⟨R,vv,[.bld T te b w0 s'],Z',he,⟨w0,hR,rfl⟩,hpR,?_⟩
 subst hH;obtain⟨us,k1,k2⟩:=ht.has (.blk b [rv (.pointer (some ⟨b,0,none⟩)),rv w0] T) (by simp);obtain⟨k3,ws,k4,k5⟩:=ht.has (.row w0 te 1 ((Dt s').map Bp)) (by simp);have e1:=Bf.eq_rv (us:=[.pointer (some ⟨b,0,none⟩),w0]) k2;subst e1;rw[Ir] at k5;have e2:=Bf.eq_rv k5;subst e2;have hd:=List.pairwise_cons.1 ht.dis;have hne:w0.ownBlock≠some b:=λhb=>hd.1 _ (List.mem_singleton.2 rfl) b (by simp[Ent.foot]) (by simp[Ent.foot,hb]);refine { ht with has:=?_,own:=?_,dis:=List.pairwise_singleton ..,zdis:=?_ }
 ·intro e' he';simp only[Abz] at he';subst he';exact⟨_,.inr rfl,k1,by simpa[DT] using k4,hne⟩
 ·intro e' he' k hk;simp only[Abz] at he';subst he';simp only[Ent.foot,AbH] at hk;rcases hk with rfl | hk
  ·exact ht.own (.blk k [rv (.pointer (some ⟨k,0,none⟩)),rv w0] T) (by simp) k (by simp[Ent.foot])
  ·exact ht.own (.row w0 te 1 ((Dt s').map Bp)) (by simp) k hk
 ·intro e' he' k hk;simp only[Abz] at he';subst he';simp only[Ent.foot,AbH] at hk;rcases hk with rfl | hk
  ·exact ht.zdis (.blk k [rv (.pointer (some ⟨k,0,none⟩)),rv w0] T) (by simp) k (by simp[Ent.foot])
  ·exact ht.zdis (.row w0 te 1 ((Dt s').map Bp)) (by simp) k hk
theorem Fn.bldS {E:Fz→Prop}{f:FuncId}{args:List Rp}{T te:TypeId}{b:Nat}{v:Value}{s:List UInt8}{res:Rp}
  (h:∀p,(p = .pointer none∨p = .pointer (some ⟨b,0,none⟩))→Fn P E f args [.blk b [rv p,rv v] T,.row v te 1 ((Dt s).map Bp)] (λR H=>R=res∧H=[])) :
  Fn P E f args [.bld T te b v s] (λR H=>R=res∧H=[]):=λw Z vs hv hs=>by
 obtain⟨p,hp,h1,h2,h3⟩:=hs.has _ (List.mem_singleton.2 rfl);have hfoot:[Ent.bld T te b v s].flatMap Ent.foot=[Ent.blk b [rv p,rv v] T,Ent.row v te 1 ((Dt s).map Bp)].flatMap Ent.foot:=by simp[Ent.foot]
 have hs':St ⟨w,Z,[Ent.blk b [rv p,rv v] T,Ent.row v te 1 ((Dt s).map Bp)].flatMap Ent.foot,E⟩ [Ent.blk b [rv p,rv v] T,Ent.row v te 1 ((Dt s).map Bp)] Z w:=by
  refine⟨rfl,rfl,rfl,Abp _,λ_ _ _=>rfl,?_,λe he k hk=>.inr (List.mem_flatMap.2 ⟨e,he,hk⟩),?_,hs.frz,Fz.le.refl _,λ_ _ e=>.inl e,λe he k hk=>?_,hs.env,hs.emono⟩
  ·intro e he;simp only[AbH,List.not_mem_nil,or_false] at he;rcases he with rfl | rfl
   ·exact⟨[p,v],h1,rfl,rfl,trivial⟩
   ·refine⟨λcl hcl=>by obtain⟨z,_,rfl⟩:=List.mem_map.1 hcl;rfl,_,by simpa[DT] using h2,?_⟩;rw[Ir];exact Bf.rvs Z _
  ·refine List.pairwise_cons.2 ⟨λe he k hk hk'=>?_,List.pairwise_singleton ..⟩;simp only[Abz] at he;subst he;simp only[Ent.foot,Abz] at hk;subst hk;simp only[Ent.foot,Option.mem_toList] at hk';exact h3 hk'
  ·have hmem:k∈[Ent.bld T te b v s].flatMap Ent.foot:=by rw[hfoot];exact List.mem_flatMap.2 ⟨e,he,hk⟩
   obtain⟨e',he',hk'⟩:=List.mem_flatMap.1 hmem;exact hs.zdis e' he' k hk'
 rw[hfoot] at hs ⊢;exact h p hp w Z vs hv hs'
theorem VL (hu:∃e',P.underlying t=some (.pointer e'))(hx:ev l x=some (rv (.pointer none))):Bv P n c l H { dst:=d',op:=.binOp .eql t x (.const (.pointer none)) t',type:=ty,pos:=pos,after:=af,guard:=g } (rB true):=λa w Z ha _=>CZ<|by
 obtain⟨e',hu⟩:=hu;have h1:∀dd:Nat,(Op.equalIn (dd+1) t (.pointer none) (.pointer none)).run P w = .ok true w:=λdd=>by simp[Op.equalIn,run_underlying hu]
 have h2:(Op.equal t (.pointer none) (.pointer none)).run P w = .ok true w:=h1 9999;have h3:(eqGuard .eql t x (.const (.pointer none)) (.pointer none) (.pointer none)).run P w = .ok () w:=by unfold eqGuard;split<;>simp
 have hy:a.eval (.const (.pointer none)) = .pointer none:=rfl;simp only[execOp,ha.eval hx,hy,Sem.run_bind,h3,Result.andThen_ok,binOp,h2,Sem.run_pure]
theorem TT {p:Addr}(hu:∃e',P.underlying t=some (.pointer e'))(hx:ev l x=some (rv (.pointer (some p)))):Bv P n c l H { dst:=d',op:=.binOp .neq t x (.const (.pointer none)) t',type:=ty,pos:=pos,after:=af,guard:=g } (rB true):=λa w Z ha _=>CZ<|by
 obtain⟨e',hu⟩:=hu;have h1:∀dd:Nat,(Op.equalIn (dd+1) t (.pointer (some p)) (.pointer none)).run P w = .ok false w:=λdd=>by simp[Op.equalIn,run_underlying hu]
 have h2:(Op.equal t (.pointer (some p)) (.pointer none)).run P w = .ok false w:=h1 9999;have h3:(eqGuard .neq t x (.const (.pointer none)) (.pointer (some p)) (.pointer none)).run P w = .ok () w:=by unfold eqGuard;split<;>simp
 have hy:a.eval (.const (.pointer none)) = .pointer none:=rfl;simp only[execOp,ha.eval hx,hy,Sem.run_bind,h3,Result.andThen_ok,binOp,h2,Sem.run_pure];rfl
theorem RJ {p:Addr}{te:TypeId}(hu:P.underlying t=some (.pointer te))(hi:∃j,P.info? te=some j)(hx:ev l x=some (rv (.pointer (some p))))(hy:ev l y=some (rv (.pointer (some p)))):Bv P n c l H { dst:=d',op:=.binOp .neq t x y t',type:=ty,pos:=pos,after:=af,guard:=g } (rB false):=λa w Z ha _=>CZ<|by
 obtain⟨j,hj⟩:=hi;have h3:(eqGuard .neq t x y (.pointer (some p)) (.pointer (some p))).run P w = .ok () w:=by unfold eqGuard;split<;>simp
 simp only[execOp,ha.eval hx,ha.eval hy,Sem.run_bind,h3,Result.andThen_ok,Lib.run_neq_ptr_same w p hu hj,Sem.run_pure]
theorem Or {w:World}{Z:Fz}{i b:Nat}{cs:List Rp}(hw:St c H Z w)(hi:H[i]? =some (.blk b cs e)):w.shape? b=some (e,cs.length):=by
 obtain⟨us,h1,h2⟩:=hw.ent hi;simp[World.shape?,h1,h2.length]
theorem Q1 {i b:Nat}{cs:List Rp}{te:TypeId}(hs:P.underlying t=some (.pointer te))(hd:P.underlying t'=some .unsafePointer)(hj:∃j,P.info? te=some j∧j.size≠0)(hx:ev l x=some (rv (.pointer (some ⟨b,0,none⟩))))(hi:H[i]? =some (.blk b cs e))(hl:Nat.blt 0 cs.length=true) :
  Bv P n c l H { dst:=d',op:=.convert t t' x,type:=ty,pos:=pos,after:=af,guard:=g } (rv (.pointer (some ⟨b,0,none⟩))):=λa w Z ha hw=>CZ<|by
 obtain⟨j,hj1,hj2⟩:=hj;have:=Lib.run_to_unsafe (P:=P) w ⟨b,0,none⟩ hs hd hj1 hj2 (Or hw hi) (by simpa using hl);simp[execOp,ha.eval hx,this]
theorem Ob {i b:Nat}{cs:List Rp}{te:TypeId}(hs:P.underlying t=some .unsafePointer)(hd:P.underlying t'=some (.pointer te))(hj:∃j,P.info? te=some j)(hx:ev l x=some (rv (.pointer (some ⟨b,0,none⟩))))(hi:H[i]? =some (.blk b cs e))(hl:liesAt P P.depth e (cs.length/P.cellsOf e) 0 te 1=true) :
  Bv P n c l H { dst:=d',op:=.convert t t' x,type:=ty,pos:=pos,after:=af,guard:=g } (rv (.pointer (some ⟨b,0,none⟩))):=λa w Z ha hw=>CZ<|by
 obtain⟨j,hj1⟩:=hj;have:=Lib.run_from_unsafe (P:=P) w ⟨b,0,none⟩ hs hd hj1 (Or hw hi) hl;simp[execOp,ha.eval hx,this]
theorem XI {f : FuncId} {fn : Func} {ats : Array TypeId} (hf : P.funcs[f]? = some fn) (hname : (fn.name == "runtime.NumGoroutine") = false) (hb : fn.body.isNone = true) (hn : Extern.findNext fn = none) (he : Extern.find fn = some Extern.AbiNoEscape.same) (hx : ev l x = some (rv v)) :
  Bv P n c l H { dst:=d',op:=.call { callee:=.value (.func f),args:=#[x],argTypes:=ats },type:=ty,pos:=pos,after:=af,guard:=g } (rv v):=λa w Z ha hw=>CZ<|by
 have h1:=run_callFunc_extern (P:=P) (w:=w) (args:=#[v]) hf hname hb hn he;rw[Lib.run_noEscape] at h1;simp only[execOp,resolve,Sem.run_bind,Sem.run_pure,Result.andThen_ok,Act.eval,Deferred.ofValue,invoke];simp only[List.map_toArray,Ab6,List.map_nil,ha.eval hx,Array.append_empty,Array.empty_append];simpa using h1
theorem MK {α:Type}{xs:List α}{enc:α→List Rp}(h:decide (0<xs.length)=true):decide (0<(xs.map enc).length)=true:=by simpa using h
section
variable {P : Program} {n : Nat} {c : Cx} {l : Fr} {H : List Ent} {d' : Option Nat} {x : Operand} {ty t t' e : TypeId} {pos : String} {af : Array Edge} {g : Option (Nat × Bool)} {v : Value}
theorem Y6:∀(ns:List Int) (p:List UInt8),ns.foldl (λr n=>r.push (UInt8.ofNat n.toNat)) (B p)=B (p++PB ns)
 | [],p=>by simp[PB]
 | n::ns,p=>by
  have e:(B p).push (UInt8.ofNat n.toNat)=B (p++[UInt8.ofNat n.toNat]):=by simp[B,ByteArray.push]
  simp only[List.foldl_cons,e];rw[Y6 ns];simp[PB]
theorem W9 (xs:List Int):(xs.map Bp).flatten=(xs.map λc=>Value.int .u8 c).map rv:=by
 induction xs with
 | nil=>rfl
 | cons a r ih=>simp[Bp,ih]
theorem VO {i:Nat}{xs:List Int}(hs:P.underlying t=some (.slice e))(hd:P.underlying t'=some .string)(he:P.underlying e=some (.int .u8))(hx:ev l x=some (rv v))(hi:H[i]? =some (.row v e 1 (xs.map Bp))) :
  Bv P n c l H { dst:=d',op:=.convert t t' x,type:=ty,pos:=pos,after:=af,guard:=g } (rS (PB xs)):=λa w Z ha hw=>by
 obtain⟨_,us,⟨h1,h2⟩,h3⟩:=hw.ent hi;rw[W9] at h3;have e2:=Bf.eq_rv h3;subst e2;refine⟨.string (B (PB xs)),rfl,?_⟩;have hlx:=ha.eval hx;rcases h2 with⟨rfl,hz⟩ | ⟨b,cap,cur,rfl,_,hb,hcap,hm,hcs,htk⟩
 ·have hx0:xs=[]:=by simpa using hz
  subst hx0;have:=run_convert_bytes_string w t t' e none 0 0 hs he hd;simp only[execOp,hlx];have e3:(Conv.bytesToString (.slice none 0 0)).run P w = .ok (.string (B [])) w:=rfl;rw[e3] at this;simp[this,PB]
 ·simp only[Abk,Nat.mul_one] at htk hcap hcs h1;have hld:=run_loadCells_list (P:=P) w ⟨b,0,none⟩ (xs.map λc=>Value.int .u8 c) (λj u hj=>by
   rw[IP,Ab9,cell_of_row w b j cur e (0,0) hb];rw[← htk,Ab8] at hj
   split at hj
   ·simpa using hj
   ·cases hj)
  rw[Abk] at hld;have h4:=run_bytesToString w ⟨b,0,none⟩ xs.length cap xs hld;have h5:=run_convert_bytes_string w t t' e (some ⟨b,0,none⟩) xs.length cap hs he hd;have h6:=Y6 xs [];rw[h4,show ByteArray.empty=B [] from rfl,h6] at h5;simp[execOp,hlx,h5]
end
def Zz:Value→Value
 | .slice a _ _=>.pointer a
 | v=>v
theorem Mk {i:Nat}{ts:Array TypeId}{xs:List (List Rp)}(hx:ev l x=some (rv v))(hi:H[i]? =some (.row v e sz xs))(hg:decide (0<xs.length)=true) :
  Bv P n c l H { dst:=d',op:=.call { callee:=.builtin .unsafeSliceData,args:=#[x],argTypes:=ts },type:=ty,pos:=pos,after:=af,guard:=g } (rv (Zz v)):=λa w Z ha hw=>CZ<|by
 obtain⟨_,us,⟨_,h2⟩,_⟩:=hw.ent hi;have h0:0<xs.length:=by simpa using hg
 rcases h2 with⟨rfl,hz⟩ | ⟨b,cap,cur,rfl,_,_,hc,_⟩
 ·omega
 ·have:=Lib.run_unsafeSliceData_row (P:=P) w ts ty ⟨b,0,none⟩ xs.length cap (by omega);simp[execOp,resolve,invoke,builtin,ha.eval hx,this,Zz]
def Aac (P:Program)(n:Nat)(c:Cx)(l:Fr)(H:List Ent)(o:Oper)(r:Rp)(H':List Ent):Prop:=∀a w Z,Dm n l a Z→St c H Z w→∃v w' Z',Fz.le Z Z'∧r.p Z' v∧(execOp a.eval o).run P w = .ok (.value v) w'∧St c H' Z' w'
theorem ZE {opsA:Array Oper}{op:Op}(hr:Aac P n c l H { dst:=some d,op:=op,type:=ty,pos:=pos,after:=af,guard:=none } r H'):Gu P n c opsA Q l H { dst:=some d,op:=op,type:=ty,pos:=pos,after:=af,guard:=none } r H':=λa w Z K0 ha hw hK=>
 ⟨λ_=>by
  obtain⟨v,w',Z',hz,hv,he,hs⟩:=hr a w Z ha hw;unfold Oper.wp;rw[he];exact hK v w' Z' hz hv hs,λh=>by simp[Region.wanted] at h⟩
theorem J0 {i:Nat}{pt it:TypeId}{s:List UInt8}(hp:P.underlying pt=some (.pointer e))(hc:P.cellsOf e=1)(hx:ev l x=some (rv (Zz v)))(hy:ev l y=some (rI .i64 ((Dt s).length:Int)))(hi:H[i]? =some (.row v e 1 ((Dt s).map Bp)))(hg:decide (0<((Dt s).map Bp).length)=true)(hH:H.eraseIdx i=H') :
  Aac P n c l H { dst:=some d,op:=.call { callee:=.builtin .unsafeString,args:=#[x,y],argTypes:=#[pt,it] },type:=ty,pos:=pos,after:=af,guard:=none } (rS s) H':=λa w Z ha hw=>by
 obtain⟨_,us,⟨h1,h2⟩,h3⟩:=hw.ent hi;rw[Ir] at h3;have e2:=Bf.eq_rv h3;subst e2;have h0:0<s.length:=by simpa[DT] using hg
 rcases h2 with⟨rfl,hz⟩ | ⟨b,cap,cur,rfl,_,hb,hcap,hm,hcs,htk⟩
 ·simp[DT] at hz;subst hz;simp at h0
 ·simp only[Abk,DT,Nat.mul_one] at htk hcap hcs h1;have hus:=Lib.run_unsafeString_row (P:=P) w pt it ty e hp hc b cur.size (by simp[World.shape?,hb]) s (by intro e;subst e;simp at h0) (by omega) (by simp only[maxLen] at hm;omega) (λj x hj=>by
   rw[IP,Ab9,cell_of_row w b j cur e (0,0) hb];have:(s.map λc=>Value.int .u8 c.toNat)[j]? =some (.int .u8 x.toNat):=by simp[hj]
   rw[← htk,Ab8] at this
   split at this
   ·simpa using this
   ·cases this)
  have hmem:=Abh hi;have hfr:=hw.front hi;have hd:=List.pairwise_cons.1 hfr.dis;have hst:=hfr.sub (List.sublist_cons_self _ _);have hkeep:∀k,k≠b→(w.freeze ⟨b,0,none⟩ s.length).heap[k]? =w.heap[k]?:=λk hk=>by
   simp only[World.freeze]
   split
   ·rfl
   ·simp only[Array.getElem?_modify];rw[Abw (λe=>hk e.symm)]
  have hzb:Z b=none:=hw.zdis _ hmem b (by simp[Ent.foot,Value.ownBlock]);refine⟨.string ⟨s.toArray⟩,w.freeze ⟨b,0,none⟩ s.length,Z,Fz.le.refl _,rfl,?_,?_⟩
  ·have hlx:=ha.eval hx;have hly:=ha.eval hy;rw[DT] at hly;simp[execOp,resolve,invoke,builtin,hlx,hly,Zz,hus]
  ·subst hH;have hfz:∀(f:World→Prop),True:=λ_=>trivial;refine { hst with os:=?_,tape:=?_,output:=?_,size:=?_,old:=λk hk hkM=>?_,has:=λen he=>?_,frz:=λb' o hb'=>?_ }
   ·rw[← hst.os];simp only[World.freeze];split<;>rfl
   ·rw[← hst.tape];simp only[World.freeze];split<;>rfl
   ·rw[← hst.output];simp only[World.freeze];split<;>rfl
   ·refine Nat.le_trans hst.size ?_;simp only[World.freeze];split<;>simp
   ·have hkb:k≠b:=λe=>by
     subst e;rcases hw.own _ hmem k (by simp[Ent.foot,Value.ownBlock]) with h4 | h4
     ·omega
     ·exact hkM h4
    rw[hkeep k hkb];exact hst.old k hk hkM
   ·exact Ent.keep (hst.has en he) (Fz.le.refl _) λk hk=>hkeep k (λe=>hd.1 en he b (by simp[Ent.foot,Value.ownBlock]) (e▸hk))
   ·rw[hkeep b' (λe=>by subst e;rw[hzb] at hb';cases hb')];exact hst.frz b' o hb'
theorem PZ {f:FuncId}{args:List Operand}{ats:Array TypeId}{o:Oper}{a:Act}{caps:List Value}(ho:o.op = .call { callee:=.value x,args:=args.toArray,argTypes:=ats })(hx:a.eval x = .func (.func f) #[] caps.toArray)
  (hcall:∀(as1:Array Value) (w:World),(callFunc f as1).run P w = .ok (.enter f as1) w) (w:World):(execOp a.eval o).run P w = .ok (.enter f (args.map a.eval++caps).toArray) w:=by
 simp[execOp,ho,resolve,hx,Deferred.ofValue,invoke,hcall]
theorem M9 {f:FuncId}{args:List Operand}{ats:Array TypeId}{rs:List Rp}{caps:List Value}{Hin Hr:List Ent}{Φ:Rp→List Ent→Prop}(hcall:∀(as1:Array Value) (w:World),(callFunc f as1).run P w = .ok (.enter f as1) w)(hx:ev l x=some (rv (.func (.func f) #[] caps.toArray)))(hv:Od l args=some rs)
  (hp:H.Perm (Hin++Hr)) (hc:Fn P c.E f (rs++caps.map rv) Hin Φ) (hn:Nat.blt d n=true) (h:∀r Ho,Φ r Ho→WL P n c ops Q rest ((d,r)::l) (Ho++Hr)) :
  WL P n c ops Q ({ dst:=some d,op:=.call { callee:=.value x,args:=args.toArray,argTypes:=ats },type:=ty,pos:=pos,after:=af,guard:=none }::rest) l H:=
 K9 (args:=λa=>(args.map a.eval++caps).toArray) (λa w Z ha hw=>⟨PZ rfl (ha.eval hx) hcall w,by
  have hw2:=hw.perm hp;refine(hc w Z _ (by have:=(IL ha hv).append (Bf.rvs Z caps);simpa using this) hw2.enter).mono ?_;rintro e w' ⟨r,v,Ho,Z',he,hΦ,hr,hs⟩;exact⟨v,r,Ho++Hr,Z',he,hs.le,hr,hw2.call hs,h r Ho hΦ⟩⟩) hn
theorem Hb {xs:List Int}{s:List UInt8}{i:Nat}{inf:TypeInfo}(ht:P.underlying t=some (.slice e))(hu:P.underlying t'=some .string)(hinf:P.info? e=some inf)(hz:inf.zero=some (.int .u8 0))(hsize:inf.size=1)(hby:inf.bytes=1)
  (hx:ev l x=some (rv v)) (hy:ev l y=some (rS s)) (hi:H[i]? =some (.row v e 1 (xs.map Bp))) (hg:DC 1 (xs.length+s.length)=true) (hn:Nat.blt d n=true)
  (h:∀v',WL P n c ops Q rest ((d,rv v')::l) (.row v' e 1 ((xs++Dt s).map Bp)::H.eraseIdx i)) :
  WL P n c ops Q ({ dst:=some d,op:=.call { callee:=.builtin .append,args:=#[x,y],argTypes:=#[t,t'] },type:=ty,pos:=pos,after:=af,guard:=none }::rest) l H:=
 JY (λa w Z ha hw=>by
  obtain⟨h0,us,h1,h2⟩:=hw.ent hi;have hb:(xs.length+s.length)*1≤140737488355328:=by simpa[DC] using hg
  rw[Abk] at h1;obtain⟨v',w',e1,e2,e3,e4⟩:=KS (P:=P) (w:=w) ty ht hu hinf hz hsize hby h1 (s:=s) (by omega);have hent:(Ent.row v' e 1 ((xs++Dt s).map Bp)).holds Z w':=⟨λcl hcl=>by obtain⟨z',_,rfl⟩:=List.mem_map.1 hcl;rfl,us++s.map (λc=>Value.int .u8 c.toNat),by simpa[DT] using e2,by
   rw[AbI,List.flatten_append,Ir];exact h2.append (Bf.rvs Z _)⟩
  have hst:=hw.callF hi (St.one (e':=.row v' e 1 ((xs++Dt s).map Bp)) (M:=(Ent.row v e 1 (xs.map Bp)).foot) hw.frz hw.env hw.emono e3.os e3.tape e3.output e3.size (λk hk hne=>e3.block k hk (λe1=>hne (by simp[Ent.foot,← e1])))
   (hw.zdis _ (Abh hi)) hent (λk hk=>by
    simp only[Ent.foot,Option.mem_toList] at hk ⊢;rcases e4 with e4 | e4
    ·exact .inl (e4▸hk)
    ·exact .inr (e4 k hk)))
  exact⟨v',w',rv v',_,Z,by simp[execOp,resolve,invoke,builtin,ha.eval hx,ha.eval hy,e1],Fz.le.refl _,rfl,hst,h v'⟩) hn
end
section
variable {P : Program} {n : Nat} {c : Cx} {ops : Array Oper} {Q : Exit → Act → World → Prop} {rest : List Oper} {l : Fr} {H : List Ent} {d : Nat} {ty : TypeId} {pos : String} {af : Array Edge} {r : Rp} {x y z3 : Operand}
theorem wo {d:Option Nat}{op:Op}{j dj:Nat}{want b:Bool}(hb:b=want)(h:WL P n c ops Q ({ dst:=d,op:=op,type:=ty,pos:=pos,after:=af,guard:=none }::rest) l H)(hj:Et ops j=some dj:=by rfl)(hv:look l dj=some (rB b):=by rfl) :
  WL P n c ops Q ({ dst:=d,op:=op,type:=ty,pos:=pos,after:=af,guard:=some (j,want) }::rest) l H:=AW hj hv hb h
theorem wf {op:Op}{j dj:Nat}{want b:Bool}(hb:b = !want)(h:WL P n c ops Q rest ((d,rv undef)::l) H)(hj:Et ops j=some dj:=by rfl)(hv:look l dj=some (rB b):=by rfl)(hn:Nat.blt d n=true:=by rfl) :
  WL P n c ops Q ({ dst:=some d,op:=op,type:=ty,pos:=pos,after:=af,guard:=some (j,want) }::rest) l H:=An hj hv hb hn h
theorem wu {op:Op}{j dj:Nat}{want:Bool}(h:WL P n c ops Q rest ((d,rv undef)::l) H)(hj:Et ops j=some dj:=by rfl)(hv:look l dj=some (rv undef):=by rfl)(hn:Nat.blt d n=true:=by rfl) :
  WL P n c ops Q ({ dst:=some d,op:=op,type:=ty,pos:=pos,after:=af,guard:=some (j,want) }::rest) l H:=BU hj hv hn h
theorem wv {op:Op}(hr:Bv P n c l H { dst:=some d,op:=op,type:=ty,pos:=pos,after:=af,guard:=none } r)(h:WL P n c ops Q rest ((d,r)::l) H)(hn:Nat.blt d n=true:=by rfl):WL P n c ops Q ({ dst:=some d,op:=op,type:=ty,pos:=pos,after:=af,guard:=none }::rest) l H:=A2 hr hn h
theorem wm (h:ev l x=some r)(hk:WL P n c ops Q rest ((d,r)::l) H)(hn:Nat.blt d n=true:=by rfl):WL P n c ops Q ({ dst:=some d,op:=.move x,type:=ty,pos:=pos,after:=af,guard:=none }::rest) l H:=A2 (Au h) hn hk
theorem wa (h:ev l x=some r)(hk:WL P n c ops Q rest ((d,r)::l) H)(hn:Nat.blt d n=true:=by rfl):WL P n c ops Q ({ dst:=some d,op:=.assign x,type:=ty,pos:=pos,after:=af,guard:=none }::rest) l H:=A2 (Ac h) hn hk
theorem Gk {b:Bool}(hc:ev l z3=some (rB b))(hb:b=true)(h:ev l x=some r)(hk:WL P n c ops Q rest ((d,r)::l) H)(hn:Nat.blt d n=true:=by rfl):WL P n c ops Q ({ dst:=some d,op:=.pick z3 x y,type:=ty,pos:=pos,after:=af,guard:=none }::rest) l H:=A2 (As hc hb h) hn hk
theorem D4 {b:Bool}(hc:ev l z3=some (rB b))(hb:b=false)(h:ev l y=some r)(hk:WL P n c ops Q rest ((d,r)::l) H)(hn:Nat.blt d n=true:=by rfl):WL P n c ops Q ({ dst:=some d,op:=.pick z3 x y,type:=ty,pos:=pos,after:=af,guard:=none }::rest) l H:=A2 (A4 hc hb h) hn hk
theorem Co {f:FuncId}{args:List Operand}{ats:Array TypeId}{rs:List Rp}(hcall:∀(as1:Array Value) (w:World),(callFunc f as1).run P w = .ok (.enter f as1) w)(hc:L0 P c.E f rs r)(hv:Od l args=some rs)(h:WL P n c ops Q rest ((d,r)::l) H)(hn:Nat.blt d n=true:=by rfl) :
  WL P n c ops Q ({ dst:=some d,op:=.call { callee:=.value (.func f),args:=args.toArray,argTypes:=ats },type:=ty,pos:=pos,after:=af,guard:=none }::rest) l H:=GB hcall hv hc rfl hn h
theorem Gx {f:FuncId}{args:List Operand}{ats:Array TypeId}{rs:List Rp}{Hin Hr:List Ent}{Φ:Rp→List Ent→Prop}(hcall:∀(as1:Array Value) (w:World),(callFunc f as1).run P w = .ok (.enter f as1) w)(hc:Fn P c.E f rs Hin Φ)(hv:Od l args=some rs)
  (hp:H.Perm (Hin++Hr)) (hn:Nat.blt d n=true) (h:∀r Ho,Φ r Ho→WL P n c ops Q rest ((d,r)::l) (Ho++Hr)) :
  WL P n c ops Q ({ dst:=some d,op:=.call { callee:=.value (.func f),args:=args.toArray,argTypes:=ats },type:=ty,pos:=pos,after:=af,guard:=none }::rest) l H:=Ci hcall hv hp hc hn h
theorem N1 {opsA:Array Oper}{f:FuncId}{args:List Operand}{ats:Array TypeId}{rs:List Rp}(hcall:∀(as1:Array Value) (w:World),(callFunc f as1).run P w = .ok (.enter f as1) w)(hc:L0 P c.E f rs r)(hv:Od l args=some rs) :
  Gu P n c opsA Q l H { dst:=some d,op:=.call { callee:=.value (.func f),args:=args.toArray,argTypes:=ats },type:=ty,pos:=pos,after:=af,guard:=none } r H:=Jr hcall hv hc rfl
theorem wt {K:Exit→Act→World→Prop}{l1:Fr}{H1:List Ent}(hl:AQ l1 l:=by repeat (first | exact AQ.nil | refine AQ.c rfl ?_))(hH:H1.Sublist H:=by repeat (first | exact sN | refine sC ?_ | refine sS ?_)):WK n c (Exit.then (Zx n c l1 H1) K .normal) l H:=Aq (B2 hl hH)
theorem BO {p:Prop}(hp:p){K:Exit→Act→World→Prop}{l1:Fr}{H1:List Ent}(hl:p→AQ l1 l:=by intro hp;repeat (first | exact AQ.nil | refine AQ.c rfl ?_ | refine AQ.c (by first | (simp only[hp];rfl) | simp[hp]) ?_))(hH:H1.Sublist H:=by repeat (first | exact sN | refine sC ?_ | refine sS ?_)):WK n c (Exit.then (Zx n c l1 H1) K .normal) l H:=Aq (B2 (hl hp) hH)
end
open Go Go.RowKit Go.ChangeShapes Go.Deep
def ZW (W:World):Fz:=λb=>W.heap[b]?
theorem ZW.frz (W:World):Xd (ZW W) W:=λ_ _ h=>h
def M5 (P:Program)(e:TypeId){α:Type}(enc:α→List Rp)(ok:α→Bool):Prop:=
 ∀{H:Type} {encH:TypeId×Value→H} {W:World} {sp:Nat→Bool} {held:Bool} {n:Nat} {cs:List Value} {x:DataW H×List MemPlace},DataW.trod encH P W 0 sp held n e cs=some x→∃y:α,ok y=true∧Bf (ZW W) (enc y) cs
section
variable {P : Program} {e t : TypeId}
theorem M5.int {k:IntKind}{enc:Int→List Rp}(ht:P.underlying e=some (.int k))(he:∀n,enc n=[rI k n]):M5 P e enc (Bw k):=λh=>by
 obtain⟨n,rfl,_,hwf⟩:=DataW.trod_int ht h;exact⟨n,hwf,by rw[he];exact⟨rfl,trivial⟩⟩
theorem M5.str {enc:Ah→List Rp}(ht:P.underlying e=some .string)(he:∀n,enc n=[rS n]):M5 P e enc VD:=λh=>by
 obtain⟨s,rfl,_,hl⟩:=DataW.trod_string ht h;exact⟨s.data.toList,AaU (by rw[Array.length_toList];exact hl),by rw[he];exact⟨congrArg Value.string (Aa5 s),trivial⟩⟩
theorem M5.bool {enc:Bool→List Rp}(ht:P.underlying e=some .bool)(he:∀n,enc n=[rB n]):M5 P e enc (λ_=>true):=λh=>by
 obtain⟨b,rfl,_⟩:=DataW.trod_bool ht h;exact⟨b,rfl,by rw[he];exact⟨rfl,trivial⟩⟩
theorem ON {W:World}{a:Addr}{v:Value}(h:W.cell? a=some v):a.spot=none∧IQ (ZW W) a.block a.off=some v:=by
 unfold World.cell? at h;unfold IQ ZW
 cases hh:W.heap[a.block]? with
 | none=>rw[hh] at h;cases h
 | some o=>
  rw[hh] at h
  cases o with
  | cells cs t fz=>
   cases hs:a.spot with
   | none=>simp[hs] at h;exact⟨rfl,h⟩
   | some _=>simp[hs] at h
  | _=>simp at h
theorem M5.slice {α:Type}[Inhabited α]{enc:α→List Rp}{ok:α→Bool}{sz:Nat}(ht:P.underlying t=some (.slice e))(hc:P.cellsOf e=sz)(hsz:0<sz)(h:M5 P e enc ok)(hlen:∀y,(enc y).length=sz){enc':List α→List Rp}(he:∀ys,enc' ys=[Bo sz (ys.map enc)]) :
  M5 P t enc' (λys=>ys.all ok&&decide (ys.length≤9223372036854775807)):=fun {H encH W sp held n cs x} hx=>by
 rcases open_slice ht hx with⟨rfl,_⟩ | ⟨a,len,cap,m,n',D,Pl,rfl,hb,hl,hm,hmm,_,hel⟩
 ·exact⟨[],by simp,by rw[he];exact⟨Rm.nil sz _,trivial⟩⟩
 ·have hlm:len≤m:=by rw[hmm];split<;>omega
  have each:∀i,i<len→∃y:α,ok y=true∧∃cs',W.cells? 0 (a.add (i*sz)) sz=some cs'∧Bf (ZW W) (enc y) cs':=λi hi=>by
   obtain⟨cs',h1,h2⟩:=hel i (by omega);obtain⟨y,hy,hr⟩:=h h2;rw[hc] at h1;exact⟨y,hy,cs',h1,hr⟩
  obtain⟨f,hf⟩:=choose_lt each;refine⟨(List.range len).map f,?_,?_⟩
  ·simp only[AaO,Ab3,List.mem_map,List.mem_range,AaL];refine⟨?_,by simp;simp only[maxLen] at hm;omega⟩;rintro _ ⟨i,hi,rfl⟩;exact(hf i hi).1
  ·rw[he];refine⟨⟨some a,cap,by simp,by simpa using hl,hm,(λh=>by cases h),λi c hi=>?_⟩,trivial⟩;rw[AbJ,Ab7] at hi;have hil:i<len:=by
    cases hq:(List.range len)[i]? with
    | none=>rw[hq] at hi;cases hi
    | some _=>have:=(List.getElem?_eq_some_iff.1 hq).1;simpa using this
   rw[List.getElem?_range hil] at hi;simp only[Option.map_some,Option.some.injEq,Function.comp] at hi;subst hi;obtain⟨_,cs',h1,hr⟩:=hf i hil;obtain⟨_,hcl,hcell⟩:=World.cells?_some h1;have hsp:a.spot=none:=by
    obtain⟨_,cs0,g1,_⟩:=hf 0 (by omega);obtain⟨_,gcl,gcell⟩:=World.cells?_some g1;have h0:=gcell 0 hsz;rw[AaY (by omega)] at h0;have:=(ON h0).1;simpa[Addr.add] using this
   refine⟨hlen _,a,rfl,hsp,λj r hj=>?_⟩;obtain⟨u,hu,hp⟩:=hr.at hj;have hjs:j<sz:=by have:=(List.getElem?_eq_some_iff.1 hj).1;rw[hlen] at this;exact this
   have h3:=hcell j hjs;rw[hu] at h3;have h4:=(ON h3).2;refine⟨u,?_,hp⟩;have e1:((a.add (i*sz)).add j).block=a.block:=by simp only[Addr.add];split<;>split<;>rfl
   have e2:((a.add (i*sz)).add j).off=a.off+(i*sz+j):=by simp only[Addr.add];split<;>split<;>simp_all<;>omega
   rw[e1,e2] at h4;exact h4
theorem Sw {Z:Fz}{cs:List Value}{o:Nat}(h:cs.length=o):Bf Z [] (cs.drop o):=by rw[List.drop_of_length_le (by omega)];trivial
theorem Gq {Z:Fz}{cs:List Value}{o s o':Nat}{rs rs':List Rp}(h:Bf Z rs ((cs.drop o).take s))(ho:o+s=o')(h2:Bf Z rs' (cs.drop o')):Bf Z (rs++rs') (cs.drop o):=by
 rw[← AbF s (cs.drop o),List.drop_drop];subst ho;exact h.append h2
theorem M5.val {α:Type}{enc:α→List Rp}{ok:α→Bool}(h:M5 P e enc ok){r:α→Rp}(he:∀y,enc y=[r y]){H:Type}{encH:TypeId×Value→H}{W:World}{sp:Nat→Bool}{held:Bool}{v:Value}{d:DataW H}{ps:List MemPlace}
  (hone:v.cells = #[v]) (ht:DataW.Trod encH P W 0 sp held e v d ps):∃y:α,ok y=true∧(r y).p (ZW W) v:=by
 obtain⟨fuel,hf⟩:=ht;rw[hone] at hf;obtain⟨y,hy,hr⟩:=h hf;rw[he] at hr;exact⟨y,hy,hr.1⟩
theorem M5.valAgg {α:Type}{enc:α→List Rp}{ok:α→Bool}(h:M5 P e enc ok){H:Type}{encH:TypeId×Value→H}{W:World}{sp:Nat→Bool}{held:Bool}{cs:Array Value}{d:DataW H}{ps:List MemPlace}
  (ht:DataW.Trod encH P W 0 sp held e (.agg cs) d ps):∃y:α,ok y=true∧(Bz (enc y)).p (ZW W) (.agg cs):=by
 obtain⟨fuel,hf⟩:=ht;obtain⟨y,hy,hr⟩:=h hf;exact⟨y,hy,cs.toList,by simp,hr⟩
end
theorem Wu {W w:World}(hw:Xd (ZW W) w):W.heap.size≤w.heap.size:=by
 rcases Nat.eq_zero_or_pos W.heap.size with h | h
 ·omega
 ·have h1:W.heap[W.heap.size-1]? =some (W.heap[W.heap.size-1]'(by omega)):=Array.getElem?_eq_getElem (by omega);have:=(Array.getElem?_eq_some_iff.1 (hw _ _ h1)).1;omega
theorem Uo {W:World}(hE:Tl W):GE (ZW W):=λw hw=>by
 have hb:Below W.heap.size W { w with os:=W.os,tape:=W.tape,output:=W.output }:=⟨rfl,rfl,rfl,Wu hw,λk hk=>by
  have h1:W.heap[k]? =some (W.heap[k]'hk):=Array.getElem?_eq_getElem hk;rw[h1];exact hw k _ h1⟩
 have hE2:=hE.st0 (St.of_below hb);exact⟨P7.block { w with os:=W.os,tape:=W.tape,output:=W.output } w (λ_ _=>rfl) hE2.tabs,hE2.size⟩
theorem Vc {W:World}(hE:Tl W):St ⟨W,ZW W,[],GE⟩ [] (ZW W) W where
 os:=rfl
 tape:=rfl
 output:=rfl
 size:=Abp _
 old:=λ_ _ _=>rfl
 has:=λ_ h=>by cases h
 own:=λ_ h=>by cases h
 dis:=.nil
 frz:=ZW.frz W
 le:=Fz.le.refl _
 new:=λ_ _ h=>.inl h
 zdis:=λ_ h=>by cases h
 env:=Uo hE
 emono:=λh hg=>GE.mono h hg
theorem Vd {W W':World}{Z Z':Fz}{E:Fz→Prop}{H:List Ent}(h:St ⟨W,Z,[],E⟩ H Z' W'):Below W.heap.size W W':=⟨h.os,h.tape,h.output,h.size,λk hk=>h.old k hk (by simp)⟩
open Go
def LU (l:(List Int)):Option ((List Int)):=
 some l
def Jz (l:(List Int))(c:Int):Option (Unit×(List Int)):=
 Bx (LU l) λr1=>AX (DC 1 (r1.length+([c]:List Int).length))<|some ((),r1++([c]:List Int))
def Ii (l:(List Int))(s:Ah):Option (Int×Unit×(List Int)):=
 Bx (LU l) λr1=>AX (DC 1 (r1.length+s.length))<|some ((s.length:Int),(),r1++Dt s)
def NO (l:Ah):Option (Ah):=
 AX (decide (0<(Dt l).length))<|some l
def LT (l:(List Int)):Option ((List Int)):=
 some l
def Jy (l:(List Int))(c:Int):Option (Unit×(List Int)):=
 Bx (LT l) λr1=>AX (DC 1 (r1.length+([c]:List Int).length))<|some ((),r1++([c]:List Int))
def Ih (l:(List Int))(s:Ah):Option (Int×Unit×(List Int)):=
 Bx (LT l) λr1=>AX (DC 1 (r1.length+s.length))<|some ((s.length:Int),(),r1++Dt s)
def NN (l:Ah):Option (Ah):=
 AX (decide (0<(Dt l).length))<|some l
set_option maxRecDepth 100000
set_option maxHeartbeats 4000000
theorem Lp:∃inf,Tryz.prog.info? 5=some inf∧inf.zero=some (.int .u8 0)∧inf.size=1∧inf.bytes=1:=by
  have key:(Tryz.prog.info? 5).map (λi=>(i.zero,i.size,i.bytes))=some (some (.int .u8 0),1,1):=by kernel_rfl
  obtain⟨inf,h1,h2⟩:=Option.map_eq_some_iff.1 key;simp only[Prod.mk.injEq] at h2;exact⟨inf,h1,h2.1,h2.2.1,h2.2.2⟩
theorem QN:∃j,Tryz.prog.info? 105=some j∧j.size≠0:=by
  have key:(Tryz.prog.info? 105).map (λi=>i.size)=some 2:=by kernel_rfl
  obtain⟨j,h1,h2⟩:=Option.map_eq_some_iff.1 key;exact⟨j,h1,by rw[h2];decide⟩
theorem QO:∃j,Tryz.prog.info? 105=some j:=QN.imp λ_ h=>h.1
theorem Rh (ha:Nat)(hb:Value)(l:(List Int))(r:(List Int))(h:LU l=some r):Fn Tryz.prog GE 135 [rv (.pointer (some ⟨ha,0,none⟩))] [.blk ha [rv (.pointer none),rv hb] 105,.row hb 5 1 (List.map Bp l)] (λR H=>∃w0:Value,R=rv (.tuple #[])∧H=[.blk ha [rv (.pointer (some ⟨ha,0,none⟩)),rv w0] 105,.row w0 5 1 (List.map Bp r)]):=by
 refine enter (n:=20) Tryz.func135 rfl Tryz.ntmps135 rfl (λw Z=>?_);refine Bb (l':=[(0,rv (.pointer (some ⟨ha,0,none⟩)))]) (H':=[.blk ha [rv (.pointer none),rv hb] 105,.row hb 5 1 (List.map Bp l)]) rfl rfl ?_;unfold LU at h;refine Ak (wm rfl (wv (A6 rfl) (wv (Ad GT rfl PI rfl rfl) (wv (A0 (i:=0) EW rfl rfl rfl) (wv (r:=rB true) (VL ⟨_,PG⟩ rfl) (Ar (EX rfl rfl (Aj (wm rfl (wm rfl (wv (r:=rv (.pointer (some ⟨ha,0,none⟩))) (Q1 (i:=0) PG Tryz.underlying178 QN rfl rfl rfl) (A2 (r:=rv (.pointer (some ⟨ha,0,none⟩))) (XI Tryz.func151 (by kernel_rfl) (by kernel_rfl) (by kernel_rfl) (by kernel_rfl) rfl) rfl (wv (r:=rv (.pointer (some ⟨ha,0,none⟩))) (Ob (i:=0) Tryz.underlying178 PG QO rfl rfl (by kernel_rfl)) (wv (A6 rfl) (wv (Ad GT rfl PI rfl rfl) (BD (i:=0) PI rfl rfl (Ck rfl) rfl rfl (cs':=[rv (.pointer (some ⟨ha,0,none⟩)),rv hb]) rfl (H':=[.blk ha [rv (.pointer (some ⟨ha,0,none⟩)),rv hb] 105,.row hb 5 1 (List.map Bp l)]) rfl (Al ?_)))))))))))))))));obtain rfl:=Az h;exact H8 (T9 Tryz.results135) (sC (sC sN)) ⟨hb,rfl,rfl⟩
theorem Of (ha:Nat)(hb:Value)(l:(List Int))(c:Int)(r:Unit×(List Int))(h:Jz l c=some r):Fn Tryz.prog GE 104 [rv (.pointer (some ⟨ha,0,none⟩)),rI .u8 c] [.blk ha [rv (.pointer none),rv hb] 105,.row hb 5 1 (List.map Bp l)] (λR H=>∃w0:Value,R=rv (.nilIface)∧H=[.blk ha [rv (.pointer (some ⟨ha,0,none⟩)),rv w0] 105,.row w0 5 1 (List.map Bp r.2)]):=by
 refine enter (n:=17) Tryz.func104 rfl Tryz.ntmps104 rfl (λw Z=>?_);refine Bb (l':=[(0,rv (.pointer (some ⟨ha,0,none⟩))),(1,rI .u8 c)]) (H':=[.blk ha [rv (.pointer none),rv hb] 105,.row hb 5 1 (List.map Bp l)]) rfl rfl ?_;unfold Jz at h;refine Ak (wv (r:=rv (.nilIface)) (Ac rfl) (By (wm rfl ?_)));obtain⟨r1,e3,h2⟩:=AL h;refine Gx (Hr:=[]) Tryz.call135 (Rh ha hb l r1 e3) rfl (AaP _) rfl ?_;rintro _ _ ⟨v4,rfl,rfl⟩;refine By (wm rfl (wm rfl (wv (A6 rfl) (wv (Ad GT rfl GU rfl rfl) (wv (A0 (i:=0) Ma rfl rfl rfl) (wm rfl (AY (ys:=([c]:List Int)) (enc:=Bp) (css:=[[rI .u8 c]]) (xs:=[.tmp 12]) EB YG YF rfl rfl rfl ⟨Gw.one rfl (Up.refl _),trivial⟩ rfl Dr rfl rfl rfl (λb5=>?_))))))));obtain⟨g7,h8⟩:=Av h2;obtain⟨inf,hinf⟩:=Lp;refine BV (xs:=r1) (ys:=([c]:List Int)) (enc:=Bp) (i:=2) EB hinf.1 hinf.2.1 hinf.2.2.1 hinf.2.2.2 rfl rfl rfl rfl rfl (JW.w (i:=0) rfl rfl) Dr I8 g7 rfl (λv6=>?_);refine wv (A6 rfl) (wv (Ad GT rfl GU rfl rfl) (BD (i:=2) GU rfl rfl (E6 (i:=0) rfl) rfl rfl (cs':=[rv (.pointer (some ⟨ha,0,none⟩)),rv v6]) rfl (H':=[.row v6 5 1 (List.map Bp (r1++([c]:List Int))),.row (.slice (some ⟨b5,0,none⟩) 1 1) 5 1 (List.map Bp ([c]:List Int)),.blk ha [rv (.pointer (some ⟨ha,0,none⟩)),rv v6] 105]) rfl (By (wv (r:=rv (.nilIface)) (Ac rfl) (Ar (Ax (Ca (H2:=[.blk ha [rv (.pointer (some ⟨ha,0,none⟩)),rv v6] 105,.row v6 5 1 (List.map Bp (r1++([c]:List Int))),.row (.slice (some ⟨b5,0,none⟩) 1 1) 5 1 (List.map Bp ([c]:List Int))]) ((A9 (i:=2) rfl).trans (AaT _ (AaP _))) ?_)))))));obtain rfl:=Az h8;exact Aw (BS Tryz.results104 (AJ rfl)) (sC (sC (sS sN))) ⟨v6,rfl,rfl⟩
theorem M4 (ha:Nat)(hb:Value)(l:(List Int))(s:Ah)(r:Int×Unit×(List Int))(h:Ii l s=some r):Fn Tryz.prog GE 102 [rv (.pointer (some ⟨ha,0,none⟩)),rS s] [.blk ha [rv (.pointer none),rv hb] 105,.row hb 5 1 (List.map Bp l)] (λR H=>∃w0:Value,R=C5 [rI .i64 r.1,rv (.nilIface)]∧H=[.blk ha [rv (.pointer (some ⟨ha,0,none⟩)),rv w0] 105,.row w0 5 1 (List.map Bp r.2.2)]):=by
 refine enter (n:=19) Tryz.func102 rfl Tryz.ntmps102 rfl (λw Z=>?_);refine Bb (l':=[(0,rv (.pointer (some ⟨ha,0,none⟩))),(1,rS s)]) (H':=[.blk ha [rv (.pointer none),rv hb] 105,.row hb 5 1 (List.map Bp l)]) rfl rfl ?_;unfold Ii at h;refine Ak (wv (r:=rI .i64 0) (Ac rfl) (wv (r:=rv (.nilIface)) (Ac rfl) (By (wm rfl ?_))));obtain⟨r1,e3,h2⟩:=AL h;refine Gx (Hr:=[]) Tryz.call135 (Rh ha hb l r1 e3) rfl (AaP _) rfl ?_;rintro _ _ ⟨v4,rfl,rfl⟩;refine By (wm rfl (wm rfl (wv (A6 rfl) (wv (Ad GT rfl GU rfl rfl) (wv (A0 (i:=0) Ma rfl rfl rfl) (wm rfl ?_))))));obtain⟨g6,h7⟩:=Av h2;obtain⟨inf,hinf⟩:=Lp;refine Hb (xs:=r1) (i:=1) EB BP hinf.1 hinf.2.1 hinf.2.2.1 hinf.2.2.2 rfl rfl rfl g6 rfl (λv5=>?_);refine wv (A6 rfl) (wv (Ad GT rfl GU rfl rfl) (BD (i:=1) GU rfl rfl (E6 (i:=0) rfl) rfl rfl (cs':=[rv (.pointer (some ⟨ha,0,none⟩)),rv v5]) rfl (H':=[.row v5 5 1 (List.map Bp (r1++Dt s)),.blk ha [rv (.pointer (some ⟨ha,0,none⟩)),rv v5] 105]) rfl (By (wm rfl (wv (Bd BP rfl) (wa rfl (wv (r:=rv (.nilIface)) (Ac rfl) (Ar (Ax (Ca (H2:=[.blk ha [rv (.pointer (some ⟨ha,0,none⟩)),rv v5] 105,.row v5 5 1 (List.map Bp (r1++Dt s))]) ((A9 (i:=1) rfl).trans (AaT _ (AaP _))) ?_))))))))));obtain rfl:=Az h7;exact Aw (Dg Tryz.results102 (AJ rfl) (AJ rfl)) (sC (sC sN)) ⟨v5,rfl,rfl⟩
theorem Sb (ha:Nat)(hb:Value)(l:Ah)(r:Ah)(h:NO l=some r):Fn Tryz.prog GE 74 [rv (.pointer (some ⟨ha,0,none⟩))] [.blk ha [rv (.pointer none),rv hb] 105,.row hb 5 1 (List.map Bp (Dt l))] (λR H=>R=rS r∧H=[]):=by
 refine enter (n:=14) Tryz.func74 rfl Tryz.ntmps74 rfl (λw Z=>?_);refine Bb (l':=[(0,rv (.pointer (some ⟨ha,0,none⟩)))]) (H':=[.blk ha [rv (.pointer none),rv hb] 105,.row hb 5 1 (List.map Bp (Dt l))]) rfl rfl ?_;unfold NO at h;refine Ak (wv (r:=rS ([]:Ah)) (Ac rfl) (Ar (Am ?_)));obtain⟨g1,h2⟩:=Av h;refine Ia (H1:=[.blk ha [rv (.pointer none),rv hb] 105]) [0] [⟨[],rv (.pointer (some ⟨ha,0,none⟩)),0⟩,⟨[0],rv (.pointer (some ⟨ha,0,none⟩)),0⟩,⟨[1],rv (.pointer (some ⟨ha,1,none⟩)),0⟩,⟨[2],rv hb,1⟩,⟨[3],rv (Zz hb),1⟩,⟨[],rv (.pointer (some ⟨ha,0,none⟩)),0⟩,⟨[5],rv (.pointer (some ⟨ha,0,none⟩)),0⟩,⟨[6],rv (.pointer (some ⟨ha,1,none⟩)),0⟩,⟨[7],rv hb,1⟩,⟨[8],rI .i64 ((Dt l).length:Int),1⟩,⟨[4,9],rS l,2⟩,⟨[10],rS l,0⟩] (rle [(11,_),(2,[.blk ha [rv (.pointer none),rv hb] 105])]) [2] ?_ ?_
 ·refine oq (Au rfl) (oq (A6 rfl) (oq (Ad GT rfl GU rfl rfl) (of (A0 (i:=0) Ma rfl rfl rfl) (of (Mk (i:=1) rfl rfl (MK g1)) (oq (Au rfl) (oq (A6 rfl) (oq (Ad GT rfl GU rfl rfl) (of (A0 (i:=0) Ma rfl rfl rfl) (of (C6 (ys:=Dt l) (enc:=Bp) (i:=1) EB rfl rfl) (Lf rfl (ZE (J0 (i:=1) Tryz.underlying139 (by kernel_rfl) rfl rfl rfl (MK g1) rfl)) ?_))))))))));refine oq (Ac rfl) ?_;exact CL
 refine AN (Ax ?_);obtain rfl:=Az h2;exact Aw (BS Tryz.results74 (AJ rfl)) (sS sN) ⟨rfl,rfl⟩
theorem Rg (ha:Nat)(hb:Value)(l:(List Int))(r:(List Int))(h:LT l=some r):Fn Tryz.prog GE 135 [rv (.pointer (some ⟨ha,0,none⟩))] [.blk ha [rv (.pointer (some ⟨ha,0,none⟩)),rv hb] 105,.row hb 5 1 (List.map Bp l)] (λR H=>∃w0:Value,R=rv (.tuple #[])∧H=[.blk ha [rv (.pointer (some ⟨ha,0,none⟩)),rv w0] 105,.row w0 5 1 (List.map Bp r)]):=by
 refine enter (n:=20) Tryz.func135 rfl Tryz.ntmps135 rfl (λw Z=>?_);refine Bb (l':=[(0,rv (.pointer (some ⟨ha,0,none⟩)))]) (H':=[.blk ha [rv (.pointer (some ⟨ha,0,none⟩)),rv hb] 105,.row hb 5 1 (List.map Bp l)]) rfl rfl ?_;unfold LT at h;refine Ak (wm rfl (wv (A6 rfl) (wv (Ad GT rfl PI rfl rfl) (wv (A0 (i:=0) EW rfl rfl rfl) (wv (r:=rB false) (VM ⟨_,PG⟩ rfl) (Ar (Ey rfl rfl (Ak (wm rfl (wv (A6 rfl) (wv (Ad GT rfl PI rfl rfl) (wv (A0 (i:=0) EW rfl rfl rfl) (wm rfl (wv (r:=rB false) (RJ PG QO rfl rfl) (Ar (Ey rfl rfl (At ?_)))))))))))))))));obtain rfl:=Az h;exact H8 (T9 Tryz.results135) (sC (sC sN)) ⟨hb,rfl,rfl⟩
theorem Oe (ha:Nat)(hb:Value)(l:(List Int))(c:Int)(r:Unit×(List Int))(h:Jy l c=some r):Fn Tryz.prog GE 104 [rv (.pointer (some ⟨ha,0,none⟩)),rI .u8 c] [.blk ha [rv (.pointer (some ⟨ha,0,none⟩)),rv hb] 105,.row hb 5 1 (List.map Bp l)] (λR H=>∃w0:Value,R=rv (.nilIface)∧H=[.blk ha [rv (.pointer (some ⟨ha,0,none⟩)),rv w0] 105,.row w0 5 1 (List.map Bp r.2)]):=by
 refine enter (n:=17) Tryz.func104 rfl Tryz.ntmps104 rfl (λw Z=>?_);refine Bb (l':=[(0,rv (.pointer (some ⟨ha,0,none⟩))),(1,rI .u8 c)]) (H':=[.blk ha [rv (.pointer (some ⟨ha,0,none⟩)),rv hb] 105,.row hb 5 1 (List.map Bp l)]) rfl rfl ?_;unfold Jy at h;refine Ak (wv (r:=rv (.nilIface)) (Ac rfl) (By (wm rfl ?_)));obtain⟨r1,e3,h2⟩:=AL h;refine Gx (Hr:=[]) Tryz.call135 (Rg ha hb l r1 e3) rfl (AaP _) rfl ?_;rintro _ _ ⟨v4,rfl,rfl⟩;refine By (wm rfl (wm rfl (wv (A6 rfl) (wv (Ad GT rfl GU rfl rfl) (wv (A0 (i:=0) Ma rfl rfl rfl) (wm rfl (AY (ys:=([c]:List Int)) (enc:=Bp) (css:=[[rI .u8 c]]) (xs:=[.tmp 12]) EB YG YF rfl rfl rfl ⟨Gw.one rfl (Up.refl _),trivial⟩ rfl Dr rfl rfl rfl (λb5=>?_))))))));obtain⟨g7,h8⟩:=Av h2;obtain⟨inf,hinf⟩:=Lp;refine BV (xs:=r1) (ys:=([c]:List Int)) (enc:=Bp) (i:=2) EB hinf.1 hinf.2.1 hinf.2.2.1 hinf.2.2.2 rfl rfl rfl rfl rfl (JW.w (i:=0) rfl rfl) Dr I8 g7 rfl (λv6=>?_);refine wv (A6 rfl) (wv (Ad GT rfl GU rfl rfl) (BD (i:=2) GU rfl rfl (E6 (i:=0) rfl) rfl rfl (cs':=[rv (.pointer (some ⟨ha,0,none⟩)),rv v6]) rfl (H':=[.row v6 5 1 (List.map Bp (r1++([c]:List Int))),.row (.slice (some ⟨b5,0,none⟩) 1 1) 5 1 (List.map Bp ([c]:List Int)),.blk ha [rv (.pointer (some ⟨ha,0,none⟩)),rv v6] 105]) rfl (By (wv (r:=rv (.nilIface)) (Ac rfl) (Ar (Ax (Ca (H2:=[.blk ha [rv (.pointer (some ⟨ha,0,none⟩)),rv v6] 105,.row v6 5 1 (List.map Bp (r1++([c]:List Int))),.row (.slice (some ⟨b5,0,none⟩) 1 1) 5 1 (List.map Bp ([c]:List Int))]) ((A9 (i:=2) rfl).trans (AaT _ (AaP _))) ?_)))))));obtain rfl:=Az h8;exact Aw (BS Tryz.results104 (AJ rfl)) (sC (sC (sS sN))) ⟨v6,rfl,rfl⟩
theorem M3 (ha:Nat)(hb:Value)(l:(List Int))(s:Ah)(r:Int×Unit×(List Int))(h:Ih l s=some r):Fn Tryz.prog GE 102 [rv (.pointer (some ⟨ha,0,none⟩)),rS s] [.blk ha [rv (.pointer (some ⟨ha,0,none⟩)),rv hb] 105,.row hb 5 1 (List.map Bp l)] (λR H=>∃w0:Value,R=C5 [rI .i64 r.1,rv (.nilIface)]∧H=[.blk ha [rv (.pointer (some ⟨ha,0,none⟩)),rv w0] 105,.row w0 5 1 (List.map Bp r.2.2)]):=by
 refine enter (n:=19) Tryz.func102 rfl Tryz.ntmps102 rfl (λw Z=>?_);refine Bb (l':=[(0,rv (.pointer (some ⟨ha,0,none⟩))),(1,rS s)]) (H':=[.blk ha [rv (.pointer (some ⟨ha,0,none⟩)),rv hb] 105,.row hb 5 1 (List.map Bp l)]) rfl rfl ?_;unfold Ih at h;refine Ak (wv (r:=rI .i64 0) (Ac rfl) (wv (r:=rv (.nilIface)) (Ac rfl) (By (wm rfl ?_))));obtain⟨r1,e3,h2⟩:=AL h;refine Gx (Hr:=[]) Tryz.call135 (Rg ha hb l r1 e3) rfl (AaP _) rfl ?_;rintro _ _ ⟨v4,rfl,rfl⟩;refine By (wm rfl (wm rfl (wv (A6 rfl) (wv (Ad GT rfl GU rfl rfl) (wv (A0 (i:=0) Ma rfl rfl rfl) (wm rfl ?_))))));obtain⟨g6,h7⟩:=Av h2;obtain⟨inf,hinf⟩:=Lp;refine Hb (xs:=r1) (i:=1) EB BP hinf.1 hinf.2.1 hinf.2.2.1 hinf.2.2.2 rfl rfl rfl g6 rfl (λv5=>?_);refine wv (A6 rfl) (wv (Ad GT rfl GU rfl rfl) (BD (i:=1) GU rfl rfl (E6 (i:=0) rfl) rfl rfl (cs':=[rv (.pointer (some ⟨ha,0,none⟩)),rv v5]) rfl (H':=[.row v5 5 1 (List.map Bp (r1++Dt s)),.blk ha [rv (.pointer (some ⟨ha,0,none⟩)),rv v5] 105]) rfl (By (wm rfl (wv (Bd BP rfl) (wa rfl (wv (r:=rv (.nilIface)) (Ac rfl) (Ar (Ax (Ca (H2:=[.blk ha [rv (.pointer (some ⟨ha,0,none⟩)),rv v5] 105,.row v5 5 1 (List.map Bp (r1++Dt s))]) ((A9 (i:=1) rfl).trans (AaT _ (AaP _))) ?_))))))))));obtain rfl:=Az h7;exact Aw (Dg Tryz.results102 (AJ rfl) (AJ rfl)) (sC (sC sN)) ⟨v5,rfl,rfl⟩
theorem RZ (ha:Nat)(hb:Value)(l:Ah)(r:Ah)(h:NN l=some r):Fn Tryz.prog GE 74 [rv (.pointer (some ⟨ha,0,none⟩))] [.blk ha [rv (.pointer (some ⟨ha,0,none⟩)),rv hb] 105,.row hb 5 1 (List.map Bp (Dt l))] (λR H=>R=rS r∧H=[]):=by
 refine enter (n:=14) Tryz.func74 rfl Tryz.ntmps74 rfl (λw Z=>?_);refine Bb (l':=[(0,rv (.pointer (some ⟨ha,0,none⟩)))]) (H':=[.blk ha [rv (.pointer (some ⟨ha,0,none⟩)),rv hb] 105,.row hb 5 1 (List.map Bp (Dt l))]) rfl rfl ?_;unfold NN at h;refine Ak (wv (r:=rS ([]:Ah)) (Ac rfl) (Ar (Am ?_)));obtain⟨g1,h2⟩:=Av h;refine Ia (H1:=[.blk ha [rv (.pointer (some ⟨ha,0,none⟩)),rv hb] 105]) [0] [⟨[],rv (.pointer (some ⟨ha,0,none⟩)),0⟩,⟨[0],rv (.pointer (some ⟨ha,0,none⟩)),0⟩,⟨[1],rv (.pointer (some ⟨ha,1,none⟩)),0⟩,⟨[2],rv hb,1⟩,⟨[3],rv (Zz hb),1⟩,⟨[],rv (.pointer (some ⟨ha,0,none⟩)),0⟩,⟨[5],rv (.pointer (some ⟨ha,0,none⟩)),0⟩,⟨[6],rv (.pointer (some ⟨ha,1,none⟩)),0⟩,⟨[7],rv hb,1⟩,⟨[8],rI .i64 ((Dt l).length:Int),1⟩,⟨[4,9],rS l,2⟩,⟨[10],rS l,0⟩] (rle [(11,_),(2,[.blk ha [rv (.pointer (some ⟨ha,0,none⟩)),rv hb] 105])]) [2] ?_ ?_
 ·refine oq (Au rfl) (oq (A6 rfl) (oq (Ad GT rfl GU rfl rfl) (of (A0 (i:=0) Ma rfl rfl rfl) (of (Mk (i:=1) rfl rfl (MK g1)) (oq (Au rfl) (oq (A6 rfl) (oq (Ad GT rfl GU rfl rfl) (of (A0 (i:=0) Ma rfl rfl rfl) (of (C6 (ys:=Dt l) (enc:=Bp) (i:=1) EB rfl rfl) (Lf rfl (ZE (J0 (i:=1) Tryz.underlying139 (by kernel_rfl) rfl rfl rfl (MK g1) rfl)) ?_))))))))));refine oq (Ac rfl) ?_;exact CL
 refine AN (Ax ?_);obtain rfl:=Az h2;exact Aw (BS Tryz.results74 (AJ rfl)) (sS sN) ⟨rfl,rfl⟩
theorem C3 (b:Nat)(v:Value)(l:Ah)(c:Int)(g1:DC 1 (l.length+1)=true)(g2:Bw .u8 c=true):Fn Tryz.prog GE 104 [rv (.pointer (some ⟨b,0,none⟩)),rI .u8 c] [.bld 105 5 b v l] (λR H=>∃w0:Value,R=rv .nilIface∧H=[.bld 105 5 b w0 (l++[UInt8.ofNat c.toNat])]):=by
  have hc:Dt (l++[UInt8.ofNat c.toNat])=Dt l++[c]:=by
    have:=(by simpa[Bw,IntKind.min,IntKind.max,IntKind.signed,IntKind.bits] using g2:0≤c∧c≤255)
    simp only[Dt,AbI,Ab6,List.map_nil]
    congr 2
    simp;omega
  refine Fn.bld (res:=rv .nilIface) λp hp=>?_;rw[hc];rcases hp with rfl | rfl
  · refine(Of b v (Dt l) c (((),Dt l++[c])) ?_).sub (HN.refl _) (λr H h=>by obtain⟨w0,h1,h2⟩:=h;exact⟨w0,h1,h2⟩)
    simp only[Jz,LU,Bx,DT];simp[AX,g1]
  · refine(Oe b v (Dt l) c (((),Dt l++[c])) ?_).sub (HN.refl _) (λr H h=>by obtain⟨w0,h1,h2⟩:=h;exact⟨w0,h1,h2⟩)
    simp only[Jy,LT,Bx,DT];simp[AX,g1]
theorem HY (b:Nat)(v:Value)(l s:Ah)(g1:DC 1 (l.length+s.length)=true):Fn Tryz.prog GE 102 [rv (.pointer (some ⟨b,0,none⟩)),rS s] [.bld 105 5 b v l] (λR H=>∃w0:Value,R=C5 [rI .i64 (s.length:Int),rv .nilIface]∧H=[.bld 105 5 b w0 (l++s)]):=by
  have hc:Dt (l++s)=Dt l++Dt s:=by simp[Dt]
  refine Fn.bld (res:=C5 [rI .i64 (s.length:Int),rv .nilIface]) λp hp=>?_;rw[hc];rcases hp with rfl | rfl
  · refine(M4 b v (Dt l) s (((s.length:Int),(),Dt l++Dt s)) ?_).sub (HN.refl _) (λr H h=>by obtain⟨w0,h1,h2⟩:=h;exact⟨w0,h1,h2⟩)
    simp only[Ii,LU,Bx,DT];simp[AX,g1]
  · refine(M3 b v (Dt l) s (((s.length:Int),(),Dt l++Dt s)) ?_).sub (HN.refl _) (λr H h=>by obtain⟨w0,h1,h2⟩:=h;exact⟨w0,h1,h2⟩)
    simp only[Ih,LT,Bx,DT];simp[AX,g1]
theorem U6 (b:Nat)(v:Value)(l:Ah)(g1:decide (0<l.length)=true):Fn Tryz.prog GE 74 [rv (.pointer (some ⟨b,0,none⟩))] [.bld 105 5 b v l] (λR H=>R=rS l∧H=[]):=by
  refine Fn.bldS (res:=rS l) λp hp=>?_;rcases hp with rfl | rfl
  · exact Sb b v l l (by simp only[NO,DT];simp[AX,g1])
  · exact RZ b v l l (by simp only[NN,DT];simp[AX,g1])
end Go.Proofs.YtkoiaconljdbeaaGreatDoor.Q
namespace Go.Proofs.YtkoiaconljdbeaaGreatDoor
open Go
set_option linter.unusedVariables false
structure Aa where
 fKind:Int
 fInt:Int
 fStr:Ah
 fN:Int
 deriving DecidableEq,Inhabited
def JH (s:Ah)(ha:Int):Option (Stp (Int) (Out (Bool) (Unit))):=
 Bj (decide (ha<(s.length:Int))) (AX (CH ha (s.length:Int))<|Bj (((decide ((AT s ha)<32))||(decide (126<(AT s ha))))) (some (.out (.ret false))) (AX (Bw .i64 (ha+1))<|some (.next (ha+1)))) (some (.out (.go ())))
def JG :Option (Bool):=
 some true
def Jn (F:Nat)(s:Ah):Option (Bool):=
 Bx (Cg (λσ=>JH s σ) F 0) (BL λν=>JG )
def BK (ok:Bool)(i:Int):Option (Int):=
 Bj (ok) (AX (Bw .i64 (i+1))<|some (i+1)) (some (-1))
def Mx (F:Nat)(c:Aa):Option (Bool):=
 AX (imp (decide (c.fKind=4)) (imp (decide (c.fInt=0)) (imp (decide (c.fN=0)) ((Jn F c.fStr).isSome))))<|some ((decide (c.fKind=4))&&((decide (c.fInt=0))&&((decide (c.fN=0))&&(ov (Jn F c.fStr)))))
def Pf (F:Nat)(ha:(List Aa)→Int→Int→Option (Int))(hb:(List Aa)→Int→Int→Option (Int))(v:(List Aa))(i:Int):Option (Int):=
 Bj (((decide (i<0))||(decide ((v.length:Int)≤i)))) (some (-1)) (AX (CH i (v.length:Int))<|Bj (decide (((Ay v i).fKind)=1)) (AX (imp (decide (((Ay v i).fInt)=0)) (imp (decide (((Ay v i).fStr)=([]:Ah))) ((BK (decide (((Ay v i).fN)=0)) i).isSome)))<|AX (imp (decide (((Ay v i).fInt)=0)) (imp (!(decide (((Ay v i).fStr)=([]:Ah)))) ((BK false i).isSome)))<|AX (imp (!(decide (((Ay v i).fInt)=0))) ((BK false i).isSome))<|some (bif decide (((Ay v i).fInt)=0) then(bif decide (((Ay v i).fStr)=([]:Ah)) then(ov (BK (decide (((Ay v i).fN)=0)) i)) else(ov (BK false i))) else(ov (BK false i)))) (Bj (decide (((Ay v i).fKind)=2)) (AX (imp (decide (((Ay v i).fInt)=0)) (imp (decide (((Ay v i).fStr)=([]:Ah))) ((BK (decide (((Ay v i).fN)=0)) i).isSome)))<|AX (imp (decide (((Ay v i).fInt)=0)) (imp (!(decide (((Ay v i).fStr)=([]:Ah)))) ((BK false i).isSome)))<|AX (imp (!(decide (((Ay v i).fInt)=0))) (imp (decide (((Ay v i).fInt)=1)) (imp (decide (((Ay v i).fStr)=([]:Ah))) ((BK (decide (((Ay v i).fN)=0)) i).isSome))))<|AX (imp (!(decide (((Ay v i).fInt)=0))) (imp (decide (((Ay v i).fInt)=1)) (imp (!(decide (((Ay v i).fStr)=([]:Ah)))) ((BK false i).isSome))))<|AX (imp (!(decide (((Ay v i).fInt)=0))) (imp (!(decide (((Ay v i).fInt)=1))) ((BK false i).isSome)))<|some (bif decide (((Ay v i).fInt)=0) then(bif decide (((Ay v i).fStr)=([]:Ah)) then(ov (BK (decide (((Ay v i).fN)=0)) i)) else(ov (BK false i))) else(bif decide (((Ay v i).fInt)=1) then(bif decide (((Ay v i).fStr)=([]:Ah)) then(ov (BK (decide (((Ay v i).fN)=0)) i)) else(ov (BK false i))) else(ov (BK false i))))) (Bj (decide (((Ay v i).fKind)=3)) (AX (imp (decide (((Ay v i).fStr)=([]:Ah))) ((BK (decide (((Ay v i).fN)=0)) i).isSome))<|AX (imp (!(decide (((Ay v i).fStr)=([]:Ah)))) ((BK false i).isSome))<|some (bif decide (((Ay v i).fStr)=([]:Ah)) then(ov (BK (decide (((Ay v i).fN)=0)) i)) else(ov (BK false i)))) (Bj (decide (((Ay v i).fKind)=4)) (Bx (Mx F (Ay v i)) λhd=>Bx (BK hd i) λhe=>some he) (Bj (((decide (((Ay v i).fKind)=5))&&((decide (((Ay v i).fInt)=0))&&((decide (((Ay v i).fStr)=([]:Ah)))&&(decide (0≤((Ay v i).fN))))))) (AX (Bw .i64 (i+1))<|Bx (ha v (i+1) ((Ay v i).fN)) λhf=>some hf) (Bj (((decide (((Ay v i).fKind)=6))&&((decide (((Ay v i).fInt)=0))&&((decide (((Ay v i).fStr)=([]:Ah)))&&(decide (0≤((Ay v i).fN))))))) (AX (Bw .i64 (i+1))<|Bx (hb v (i+1) ((Ay v i).fN)) λhg=>some hg) (some (-1))))))))
def CX (v:(List Aa))(n:Int)(he:(List Aa)→Int→Option (Int))(hb:Int)(ha:Int):Option (Stp (Int×Int) (Out (Int) (Int))):=
 Bj (decide (ha<n)) (Bx (he v hb) λhd=>Bj (decide (hd<0)) (some (.out (.ret (-1)))) (AX (Bw .i64 (ha+1))<|some (.next (hd,ha+1)))) (some (.out (.go hb)))
def E3 (ha:Int):Option (Int):=
 some ha
def IG (F:Nat)(ha:(List Aa)→Int→Option (Int))(v:(List Aa))(i:Int)(n:Int):Option (Int):=
 Bx (Cg (λσ=>CX v n ha σ.1 σ.2) F (i,0)) (BL λν=>E3 ν)
def D7 (F:Nat)(v:(List Aa))(n:Int)(hf:(List Aa)→Int→Option (Int))(ha:Int)(hd:Ah)(hb:Int):Option (Stp (Int×Ah×Int) (Out (Int) (Int))):=
 Bj (decide (hb<n)) (AX (imp (!(decide ((v.length:Int)≤ha))) (CH ha (v.length:Int)))<|AX (imp (!(decide ((v.length:Int)≤ha))) ((Mx F (Ay v ha)).isSome))<|Bj (((decide ((v.length:Int)≤ha))||((!(ov (Mx F (Ay v ha))))||((decide (0<hb))&&(BI ((Ay v ha).fStr) hd||decide (((Ay v ha).fStr)=hd)))))) (some (.out (.ret (-1)))) (AX (CH ha (v.length:Int))<|AX (Bw .i64 (ha+1))<|Bx (hf v (ha+1)) λhe=>Bj (decide (he<0)) (some (.out (.ret (-1)))) (AX (Bw .i64 (hb+1))<|some (.next (he,(Ay v ha).fStr,hb+1))))) (some (.out (.go ha)))
def Hy (ha:Int):Option (Int):=
 some ha
def MF (F:Nat)(ha:(List Aa)→Int→Option (Int))(v:(List Aa))(i:Int)(n:Int):Option (Int):=
 Bx (Cg (λσ=>D7 F v n ha σ.1 σ.2.1 σ.2.2) F (i,([]:Ah),0)) (BL λν=>Hy ν)
mutual
def DD:Nat→(List Aa)→Int→Option (Int)
 | 0,_,_=>none
 | nn+1,v,i=>Pf nn (Hz nn) (LB nn) v i
def Hz:Nat→(List Aa)→Int→Int→Option (Int)
 | 0,_,_,_=>none
 | nn+1,v,i,n=>IG nn (DD nn) v i n
def LB:Nat→(List Aa)→Int→Int→Option (Int)
 | 0,_,_,_=>none
 | nn+1,v,i,n=>MF nn (DD nn) v i n
end
def KU (F:Nat)(v:(List Aa)):Option (Bool):=
 AX (imp (decide (0<(v.length:Int))) ((DD F v 0).isSome))<|some ((decide (0<(v.length:Int)))&&(decide ((ov (DD F v 0))=(v.length:Int))))
def CP (F:Nat)(v:(List Aa))(i:Int)(he:(List Aa)→Int→Option (Int))(hd:Int)(hb:Int)(ha:Int):Option (Stp (Int×Int×Int) (Out (Int) (Int))):=
 Bj (decide (ha<((Ay v i).fN))) (Bj (decide (((Ay v i).fKind)=6)) (AX (Bw .i64 (hb+1))<|Bx (he v (hb+1)) λhf=>Bj (decide (hd<hf)) (Bx (DD F v (hb+1)) λhh=>AX (Bw .i64 (ha+1))<|some (.next (hf,hh,ha+1))) (Bx (DD F v (hb+1)) λhi=>AX (Bw .i64 (ha+1))<|some (.next (hd,hi,ha+1)))) (Bx (he v hb) λhg=>Bj (decide (hd<hg)) (Bx (DD F v hb) λhj=>AX (Bw .i64 (ha+1))<|some (.next (hg,hj,ha+1))) (Bx (DD F v hb) λhk=>AX (Bw .i64 (ha+1))<|some (.next (hd,hk,ha+1))))) (some (.out (.go hd)))
def Eh (ha:Int):Option (Int):=
 AX (Bw .i64 (ha+1))<|some (ha+1)
def Iz (F:Nat)(ha:(List Aa)→Int→Option (Int))(v:(List Aa))(i:Int):Option (Int):=
 AX (CH i (v.length:Int))<|Bj (((!decide (((Ay v i).fKind)=5))&&(!decide (((Ay v i).fKind)=6)))) (some 1) (AX (Bw .i64 (i+1))<|Bx (Cg (λσ=>CP F v i ha σ.1 σ.2.1 σ.2.2) F (0,i+1,0)) (BL λν=>Eh ν))
def CW:Nat→(List Aa)→Int→Option (Int)
 | 0,_,_=>none
 | nn+1,v,i=>Iz nn (CW nn) v i
def Dh (s:Ah)(hb:Ah)(ha:Int):Option (Stp (Ah×Int) (Out (Ah) (Ah))):=
 Bj (decide (ha<(s.length:Int))) (AX (CH ha (s.length:Int))<|Bj (((decide ((AT s ha)=34))||(decide ((AT s ha)=92)))) (AX (Bw .i64 ((hb.length:Int)+(([92]:Ah).length:Int)))<|AX (Bw .i64 (ha+1))<|AX (Hp ha (ha+1))<|AX (Hp (ha+1) (s.length:Int))<|AX (Bw .i64 (((hb++([92]:Ah)).length:Int)+((List.take (Int.toNat (ha+1)-Int.toNat ha) (List.drop (Int.toNat ha) s)).length:Int)))<|some (.next ((hb++([92]:Ah))++(List.take (Int.toNat (ha+1)-Int.toNat ha) (List.drop (Int.toNat ha) s)),ha+1))) (AX (Bw .i64 (ha+1))<|AX (Hp ha (ha+1))<|AX (Hp (ha+1) (s.length:Int))<|AX (Bw .i64 ((hb.length:Int)+((List.take (Int.toNat (ha+1)-Int.toNat ha) (List.drop (Int.toNat ha) s)).length:Int)))<|some (.next (hb++(List.take (Int.toNat (ha+1)-Int.toNat ha) (List.drop (Int.toNat ha) s)),ha+1)))) (some (.out (.go hb)))
def DL (ha:Ah):Option (Ah):=
 AX (Bw .i64 ((ha.length:Int)+(([34]:Ah).length:Int)))<|some (ha++([34]:Ah))
def IF (F:Nat)(s:Ah):Option (Ah):=
 Bx (Cg (λσ=>Dh s σ.1 σ.2) F (([34]:Ah),0)) (BL λν=>DL ν)
def Ef (F:Nat)(v:(List Aa))(i:Int)(he:(List Aa)→Int→Option (Ah))(ha:Ah)(hb:Int)(hd:Int):Option (Stp (Ah×Int×Int) (Out (Ah) (Ah))):=
 Bj (decide (hd<((Ay v i).fN))) (Bj (decide (0<hd)) (AX (Bw .i64 ((ha.length:Int)+(([44]:Ah).length:Int)))<|Bj (decide (((Ay v i).fKind)=6)) (AX (CH hb (v.length:Int))<|Bx (IF F ((Ay v hb).fStr)) λhf=>AX (Bw .i64 (((ha++([44]:Ah)).length:Int)+(hf.length:Int)))<|AX (Bw .i64 ((((ha++([44]:Ah))++hf).length:Int)+(([58]:Ah).length:Int)))<|AX (Bw .i64 (hb+1))<|Bx (he v (hb+1)) λhh=>AX (Bw .i64 (((((ha++([44]:Ah))++hf)++([58]:Ah)).length:Int)+(hh.length:Int)))<|Bx (DD F v (hb+1)) λhl=>AX (Bw .i64 (hd+1))<|some (.next ((((ha++([44]:Ah))++hf)++([58]:Ah))++hh,hl,hd+1))) (Bx (he v hb) λhi=>AX (Bw .i64 (((ha++([44]:Ah)).length:Int)+(hi.length:Int)))<|Bx (DD F v hb) λhm=>AX (Bw .i64 (hd+1))<|some (.next ((ha++([44]:Ah))++hi,hm,hd+1)))) (Bj (decide (((Ay v i).fKind)=6)) (AX (CH hb (v.length:Int))<|Bx (IF F ((Ay v hb).fStr)) λhg=>AX (Bw .i64 ((ha.length:Int)+(hg.length:Int)))<|AX (Bw .i64 (((ha++hg).length:Int)+(([58]:Ah).length:Int)))<|AX (Bw .i64 (hb+1))<|Bx (he v (hb+1)) λhj=>AX (Bw .i64 ((((ha++hg)++([58]:Ah)).length:Int)+(hj.length:Int)))<|Bx (DD F v (hb+1)) λhn=>AX (Bw .i64 (hd+1))<|some (.next (((ha++hg)++([58]:Ah))++hj,hn,hd+1))) (Bx (he v hb) λhk=>AX (Bw .i64 ((ha.length:Int)+(hk.length:Int)))<|Bx (DD F v hb) λho=>AX (Bw .i64 (hd+1))<|some (.next (ha++hk,ho,hd+1))))) (some (.out (.go ha)))
def HG (v:(List Aa))(i:Int)(ha:Ah):Option (Ah):=
 Bj (decide (((Ay v i).fKind)=6)) (AX (Bw .i64 ((([123]:Ah).length:Int)+(ha.length:Int)))<|AX (Bw .i64 (((([123]:Ah)++ha).length:Int)+(([125]:Ah).length:Int)))<|some ((([123]:Ah)++ha)++([125]:Ah))) (AX (Bw .i64 ((([91]:Ah).length:Int)+(ha.length:Int)))<|AX (Bw .i64 (((([91]:Ah)++ha).length:Int)+(([93]:Ah).length:Int)))<|some ((([91]:Ah)++ha)++([93]:Ah)))
def L8 (F:Nat)(ha:(List Aa)→Int→Option (Ah))(v:(List Aa))(i:Int):Option (Ah):=
 AX (CH i (v.length:Int))<|Bj (decide (((Ay v i).fKind)=1)) (some ([110,117,108,108]:Ah)) (Bj (decide (((Ay v i).fKind)=2)) (Bj (decide (((Ay v i).fInt)=1)) (some ([116,114,117,101]:Ah)) (some ([102,97,108,115,101]:Ah))) (Bj (decide (((Ay v i).fKind)=3)) (AX (Bw .i64 ((Ay v i).fInt))<|some (Lib.itoa ((Ay v i).fInt))) (Bj (decide (((Ay v i).fKind)=4)) (Bx (IF F ((Ay v i).fStr)) λhb=>some hb) (AX (Bw .i64 (i+1))<|Bx (Cg (λσ=>Ef F v i ha σ.1 σ.2.1 σ.2.2) F (([]:Ah),i+1,0)) (BL λν=>HG v i ν)))))
def GM:Nat→(List Aa)→Int→Option (Ah)
 | 0,_,_=>none
 | nn+1,v,i=>L8 nn (GM nn) v i
def E4 (v:(List Aa))(ha:Int):Option (Stp (Int) (Out (Int) (Unit))):=
 Bj (decide (ha<(v.length:Int))) (AX (CH ha (v.length:Int))<|Bj (decide (200<(((Ay v ha).fStr).length:Int))) (some (.out (.ret 3))) (AX (Bw .i64 (ha+1))<|some (.next (ha+1)))) (some (.out (.go ())))
def I0 (F:Nat)(v:(List Aa)):Option (Int):=
 Bx (GM F v 0) λha=>Bj (decide (4000<(ha.length:Int))) (some 3) (some 0)
def E5 (v:(List Aa))(ha:Int):Option (Stp (Int) (Out (Int) (Unit))):=
 Bj (decide (ha<(v.length:Int))) (AX (CH ha (v.length:Int))<|Bj (((decide (((Ay v ha).fKind)=3))&&((decide (((Ay v ha).fInt)<(-1000000000000)))||(decide (1000000000000<((Ay v ha).fInt)))))) (some (.out (.ret 2))) (AX (Bw .i64 (ha+1))<|some (.next (ha+1)))) (some (.out (.go ())))
def I1 (F:Nat)(v:(List Aa)):Option (Int):=
 AX (imp (!(decide (200<(v.length:Int)))) ((CW F v 0).isSome))<|Bj (((decide (200<(v.length:Int)))||(decide (8<(ov (CW F v 0)))))) (some 3) (Bx (Cg (λσ=>E4 v σ) F 0) (BL λν=>I0 F v ))
def Kt (F:Nat)(v:(List Aa)):Option (Int):=
 Bx (KU F v) λr1=>Bj (!r1) (some 1) (Bx (Cg (λσ=>E5 v σ) F 0) (BL λν=>I1 F v ))
def KV (F:Nat)(v:(List Aa)):Option (Ah×Int):=
 Bx (Kt F v) λr1=>Bj (!decide (r1=0)) (some (([]:Ah),r1)) (Bx (GM F v 0) λr7=>some (r7,0))
end Go.Proofs.YtkoiaconljdbeaaGreatDoor
namespace Go.Proofs.YtkoiaconljdbeaaGreatDoor.Q
open Go Go.RowKit
set_option linter.unusedVariables false
set_option linter.unusedSimpArgs false
set_option maxRecDepth 100000
set_option maxHeartbeats 4000000
@[reducible] def Ab (x:Aa):List Rp:=[rI .i64 x.fKind,rI .i64 x.fInt,rS x.fStr,rI .i64 x.fN]
theorem AU (x:Aa):(Ab x).length=4:=rfl
theorem BF (x:Aa):(Ab x).all (·.one)=true:=rfl
theorem Vu (F:Nat)(s:Ah)(r:Bool)(h:Jn F s=some r):Fn Tryz.prog GE 156 [rS s] [] (λR H=>R=rB r∧H=[]):=by
 refine enter (n:=20) Tryz.func156 rfl Tryz.ntmps156 rfl (λw Z=>?_);refine Bb (l':=[(0,rS s)]) (H':=[]) rfl rfl ?_;unfold Jn at h;refine Ak (wv (r:=rB false) (Ac rfl) (Ar (Am (Ak (wv (r:=rI .i64 0) (Ac rfl) (Ar (AO ?_)))))));obtain⟨hl,hm,hi⟩:=AL h;refine BA (S:=Nat×(Int)×(Unit)) (V:=(Unit)×(Unit)) 0 (λσ=>Cg (λσ=>JH s σ) σ.1 σ.2.1=some hl) (λσ=>[(0,rS s),(3,rI .i64 σ.2.1)]) (λσ=>[]) (λσ=>σ.1) (F,0,()) hm (AQ.c rfl (AQ.c rfl AQ.nil)) sN (λσ=>JG =some r) (λσ=>[]) (λσ=>[]) ?_ ?_
 ·rintro⟨hz,hb,⟨⟩⟩ hn;refine Bb (l':=[(0,rS s),(3,rI .i64 hb)]) (H':=[]) rfl rfl ?_;obtain⟨ho,rfl,t37,hd,hf⟩:=CM hn;replace hd:JH s hb=some t37:=hd;unfold JH at hd;refine Am (Ak (wm rfl (wm rfl (wv (Bd BP rfl) (wv (Cp rfl rfl) (Ar (Ap (b:=decide (hb<(s.length:Int))) rfl (λhg=>?_) (λhg=>?_))))))))
  ·have hp:=AB hg hd;refine At (AN (Am (AO ?_)));obtain⟨hj,hk⟩:=Av hp;refine AA [(0,rS s),(3,rI .i64 hb),(19,rB ((decide ((AT s hb)<32))||(decide (126<(AT s hb)))))] [] ?_ ?_
   ·refine Aj (wm rfl (wm rfl (wv (AV BP rfl rfl hj) (wv (Cp rfl rfl) (wm rfl (AH (decide ((AT s hb)<32)) (λha=>?_) (λha=>?_)))))))
    ·refine wf ha (wf ha (wf ha (wf ha (wv (r:=rB true) (As (b:=decide ((AT s hb)<32)) rfl ha rfl) (Al ?_)))));exact BO ha
    ·refine wo ha (wm rfl (wo ha (wm rfl (wo ha (wv (AV BP rfl rfl hj) (wo ha (wv (Cl rfl rfl) (D4 rfl ha rfl (Al ?_)))))))));exact BO ha
   refine Ap (b:=((decide ((AT s hb)<32))||(decide (126<(AT s hb))))) rfl (λhh=>?_) (λhh=>?_)
   ·have hq:=AB hh hk;refine Ak (wv (r:=rB false) (Ac rfl) (Ar (Ax (A3 (Af (Af (Bc ?_)))))));have hr:=B1 hq hf hi;refine A3 (Af ?_);obtain rfl:=Az hr;exact Aw (BS Tryz.results156 (AJ rfl)) sN ⟨rfl,rfl⟩
   ·have hs:=AC hh hk;refine At (AK (AN (Aj (wm rfl ?_))));obtain⟨ht,hu⟩:=Av hs;refine wv (Bi rfl rfl ht) (wa rfl (Al ?_));have hw:=Bk hu hf;exact Aq (AG (ho,hb+1,()) ⟨hw,AaX _⟩ (AQ.c rfl (AQ.c rfl AQ.nil)) sN)
  ·have hx:=AC hg hd;refine B9 (A5 ?_);have hy:=Cj hx hf hi;exact A5 (Br (AG ((),()) hy AQ.nil sN))
 ·rintro⟨⟨⟩,⟨⟩⟩ he;refine CR (l':=[]) (H':=[]) rfl rfl ?_;replace he:JG =some r:=he;unfold JG at he;refine Bm (AN (Ak (wv (r:=rB true) (Ac rfl) (Ar (Ax ?_)))));obtain rfl:=Az he;exact Aw (BS Tryz.results156 (AJ rfl)) sN ⟨rfl,rfl⟩
theorem Ei (ok:Bool)(i:Int)(r:Int)(h:BK ok i=some r):Fn Tryz.prog GE 137 [rB ok,rI .i64 i] [] (λR H=>R=rI .i64 r∧H=[]):=by
 refine enter (n:=8) Tryz.func137 rfl Tryz.ntmps137 rfl (λw Z=>?_);refine Bb (l':=[(0,rB ok),(1,rI .i64 i)]) (H':=[]) rfl rfl ?_;unfold BK at h;refine Ak (wv (r:=rI .i64 0) (Ac rfl) (Ar (Am (Ak (wm rfl (Ar (Ap (b:=ok) rfl (λc1=>?_) (λc1=>?_))))))))
 ·have h2:=AB c1 h;refine Ak (wm rfl ?_);obtain⟨g3,h4⟩:=Av h2;refine wv (Bi rfl rfl g3) (wa rfl (Ar (Ax (Af ?_))));obtain rfl:=Az h4;exact Aw (BS Tryz.results137 (AJ rfl)) sN ⟨rfl,rfl⟩
 ·have h5:=AC c1 h;refine At (AN (Ak (wv (r:=rI .i64 (-1)) (Ac rfl) (Ar (Ax ?_)))));obtain rfl:=Az h5;exact Aw (BS Tryz.results137 (AJ rfl)) sN ⟨rfl,rfl⟩
theorem Vw (F:Nat)(c:Aa)(r:Bool)(h:Mx F c=some r):Fn Tryz.prog GE 138 [Bz (Ab c)] [] (λR H=>R=rB r∧H=[]):=by
 refine enter (n:=21) Tryz.func138 rfl Tryz.ntmps138 rfl (λw Z=>?_);refine Bb (l':=[(0,Bz (Ab c))]) (H':=[]) rfl rfl ?_;unfold Mx at h;refine Ak (C1 rfl rfl (λb1=>?_));refine wv (r:=rB false) (Ac rfl) (Ar ?_);obtain⟨g2,h3⟩:=Av h;refine AA [(2,rB ((decide (c.fKind=4))&&((decide (c.fInt=0))&&((decide (c.fN=0))&&(ov (Jn F c.fStr))))))] [] ?_ ?_
 ·refine Aj (wv (Ad B5 rfl DX rfl rfl) (wv (A0 (i:=0) Ex rfl rfl rfl) (wv (B3 rfl rfl) (wm rfl (AH (decide (c.fKind=4)) (λc4=>?_) (λc4=>?_))))))
  ·refine wo c4 (wv (Ad B5 rfl Cu rfl rfl) (wo c4 (wv (A0 (i:=0) Dd rfl rfl rfl) (wo c4 (wv (B3 rfl rfl) (Gk rfl c4 rfl (wm rfl (AH (decide (c.fInt=0)) (λc5=>?_) (λc5=>?_)))))))))
   ·refine wo c5 (wv (Ad B5 rfl Cu rfl rfl) (wo c5 (wv (A0 (i:=0) Dd rfl rfl rfl) (wo c5 (wv (B3 rfl rfl) (Gk rfl c5 rfl (wm rfl (AH (decide (c.fN=0)) (λc6=>?_) (λc6=>?_)))))))))
    ·refine wo c6 (wv (Ad B5 rfl CV rfl rfl) (wo c6 (wv (A0 (i:=0) Dn rfl rfl rfl) (wo c6 (Co Tryz.call156 (Vu F c.fStr (ov (Jn F c.fStr)) (Gr (C0 (C0 (C0 g2 c4) c5) c6))) rfl (Gk rfl c6 rfl (wa rfl (Al ?_))))))));exact BO (And.intro c4 (And.intro c5 c6))
    ·refine wf c6 (wf c6 (wf c6 (wv (r:=rB false) (A4 (b:=decide (c.fN=0)) rfl c6 rfl) (wa rfl (Al ?_)))));exact BO (And.intro c4 (And.intro c5 c6))
   ·refine wf c5 (wf c5 (wf c5 (wv (r:=rB false) (A4 (b:=decide (c.fInt=0)) rfl c5 rfl) (wm rfl (An (b:=false) rfl rfl rfl rfl (An (b:=false) rfl rfl rfl rfl (An (b:=false) rfl rfl rfl rfl (wv (r:=rB false) (A4 (b:=false) rfl rfl rfl) (wa rfl (Al ?_))))))))));exact BO (And.intro c4 c5)
  ·refine wf c4 (wf c4 (wf c4 (wv (r:=rB false) (A4 (b:=decide (c.fKind=4)) rfl c4 rfl) (wm rfl (An (b:=false) rfl rfl rfl rfl (An (b:=false) rfl rfl rfl rfl (An (b:=false) rfl rfl rfl rfl (wv (r:=rB false) (A4 (b:=false) rfl rfl rfl) (wm rfl (An (b:=false) rfl rfl rfl rfl (An (b:=false) rfl rfl rfl rfl (An (b:=false) rfl rfl rfl rfl (wv (r:=rB false) (A4 (b:=false) rfl rfl rfl) (wa rfl (Al ?_)))))))))))))));exact BO c4
 refine Ax ?_;obtain rfl:=Az h3;exact Aw (BS Tryz.results138 (AJ rfl)) sN ⟨rfl,rfl⟩
theorem Vv (F:Nat)(hs:(List Aa)→Int→Int→Option (Int))(ht:(List Aa)→Int→Int→Option (Int))(h1:(∀(v:(List Aa)) (i:Int) (n:Int) (r:Int),hs v i n=some r→Fn Tryz.prog GE 139 [Bo 4 (List.map Ab v),rI .i64 i,rI .i64 n] [] (λR H=>R=rI .i64 r∧H=[])))(h2:(∀(v:(List Aa)) (i:Int) (n:Int) (r:Int),ht v i n=some r→Fn Tryz.prog GE 140 [Bo 4 (List.map Ab v),rI .i64 i,rI .i64 n] [] (λR H=>R=rI .i64 r∧H=[])))(v:(List Aa))(i:Int)(r:Int)(h:Pf F hs ht v i=some r):Fn Tryz.prog GE 114 [Bo 4 (List.map Ab v),rI .i64 i] [] (λR H=>R=rI .i64 r∧H=[]):=by
 refine enter (n:=127) Tryz.func114 rfl Tryz.ntmps114 rfl (λw Z=>?_);refine Bb (l':=[(0,Bo 4 (List.map Ab v)),(1,rI .i64 i)]) (H':=[]) rfl rfl ?_;unfold Pf at h;refine Ak (wv (r:=rI .i64 0) (Ac rfl) (Ar (Am (AA [(0,Bo 4 (List.map Ab v)),(1,rI .i64 i),(13,rB ((decide (i<0))||(decide ((v.length:Int)≤i))))] [] ?_ ?_))))
 ·refine Aj (wm rfl (wv (Cp rfl rfl) (wm rfl (AH (decide (i<0)) (λc1=>?_) (λc1=>?_)))))
  ·refine wf c1 (wf c1 (wf c1 (wf c1 (wv (r:=rB true) (As (b:=decide (i<0)) rfl c1 rfl) (Al ?_)))));exact BO c1
  ·refine wo c1 (wm rfl (wo c1 (wm rfl (wo c1 (wv (BT (ys:=v) (enc:=Ab) BN rfl) (wo c1 (wv (Gs rfl rfl) (D4 rfl c1 rfl (Al ?_)))))))));exact BO c1
 refine Ap (b:=((decide (i<0))||(decide ((v.length:Int)≤i)))) rfl (λc2=>?_) (λc2=>?_)
 ·have h3:=AB c2 h;refine Ak (wv (r:=rI .i64 (-1)) (Ac rfl) (Ar (Ax (Af ?_))));obtain rfl:=Az h3;exact Aw (BS LZ (AJ rfl)) sN ⟨rfl,rfl⟩
 ·have h4:=AC c2 h;refine At (AN (Ak (wm rfl (wm rfl ?_))));obtain⟨g5,h6⟩:=Av h4;refine wv (BY (enc:=Ab) (ys:=v) BN Cb rfl rfl g5) (wv (DQ L2 Cb rfl rfl rfl) (Cf (cs:=[rI .i64 0,rI .i64 0,rS ([]:Ah),rI .i64 0]) EA rfl rfl (λb7=>?_)));refine Bq (i:=0) Cb rfl rfl rfl (BM.c rfl) rfl rfl (cs':=[rI .i64 ((Ay v i).fKind),rI .i64 ((Ay v i).fInt),rS ((Ay v i).fStr),rI .i64 ((Ay v i).fN)]) rfl (H':=[.blk b7 (Ab (Ay v i)) 78]) rfl (Ar (Am (Ak (wv (Ad B5 rfl DX rfl rfl) (wv (A0 (i:=0) Ex rfl rfl rfl) (wv (B3 rfl rfl) (Ar (Ap (b:=decide (((Ay v i).fKind)=1)) rfl (λc8=>?_) (λc8=>?_)))))))))
  ·have h9:=AB c8 h6;obtain⟨h5,h7⟩:=Av h9;obtain⟨h8,hA⟩:=Av h7;obtain⟨hB,hC⟩:=Av hA;refine AA [(4,rI .i64 (bif decide (((Ay v i).fInt)=0) then(bif decide (((Ay v i).fStr)=([]:Ah)) then(ov (BK (decide (((Ay v i).fN)=0)) i)) else(ov (BK false i))) else(ov (BK false i))))] [] ?_ ?_
   ·refine Aj (wv (Ad B5 rfl Cu rfl rfl) (wv (A0 (i:=0) Dd rfl rfl rfl) (wv (B3 rfl rfl) (wm rfl (AH (decide (((Ay v i).fInt)=0)) (λhb=>?_) (λhb=>?_))))))
    ·refine wo hb (wv (Ad B5 rfl CV rfl rfl) (wo hb (wv (A0 (i:=0) Dn rfl rfl rfl) (wo hb (wv (G0 rfl rfl) (Gk rfl hb rfl (wm rfl (AH (decide (((Ay v i).fStr)=([]:Ah))) (λhe=>?_) (λhe=>?_)))))))))
     ·refine wo he (wv (Ad B5 rfl Cu rfl rfl) (wo he (wv (A0 (i:=0) Dd rfl rfl rfl) (wo he (wv (B3 rfl rfl) (Gk rfl he rfl (wm rfl (Co Je (Ei (decide (((Ay v i).fN)=0)) i (ov (BK (decide (((Ay v i).fN)=0)) i)) (Gr (C0 (C0 h5 hb) he))) rfl (wa rfl (Al ?_))))))))));exact BO (And.intro hb he)
     ·refine wf he (wf he (wf he (wv (r:=rB false) (A4 (b:=decide (((Ay v i).fStr)=([]:Ah))) rfl he rfl) (wm rfl (Co Je (Ei false i (ov (BK false i)) (Gr (C4 (C0 h8 hb) he))) rfl (wa rfl (Al ?_)))))));exact BO (And.intro hb he)
    ·refine wf hb (wf hb (wf hb (wv (r:=rB false) (A4 (b:=decide (((Ay v i).fInt)=0)) rfl hb rfl) (wm rfl (An (b:=false) rfl rfl rfl rfl (An (b:=false) rfl rfl rfl rfl (An (b:=false) rfl rfl rfl rfl (wv (r:=rB false) (A4 (b:=false) rfl rfl rfl) (wm rfl (Co Je (Ei false i (ov (BK false i)) (Gr (C4 hB hb))) rfl (wa rfl (Al ?_))))))))))));exact BO hb
   refine Ax (Af ?_);obtain rfl:=Az hC;exact Aw (BS LZ (AJ rfl)) sN ⟨rfl,rfl⟩
  ·have hu:=AC c8 h6;refine At (AN (Am (Ak (wv (Ad B5 rfl DX rfl rfl) (wv (A0 (i:=0) Ex rfl rfl rfl) (wv (B3 rfl rfl) (Ar (Ap (b:=decide (((Ay v i).fKind)=2)) rfl (λhn=>?_) (λhn=>?_)))))))))
   ·have hD:=AB hn hu;obtain⟨hE,hG⟩:=Av hD;obtain⟨hH,hI⟩:=Av hG;obtain⟨hJ,hK⟩:=Av hI;obtain⟨hL,hN⟩:=Av hK;obtain⟨hO,hP⟩:=Av hN;refine AA [(4,rI .i64 (bif decide (((Ay v i).fInt)=0) then(bif decide (((Ay v i).fStr)=([]:Ah)) then(ov (BK (decide (((Ay v i).fN)=0)) i)) else(ov (BK false i))) else(bif decide (((Ay v i).fInt)=1) then(bif decide (((Ay v i).fStr)=([]:Ah)) then(ov (BK (decide (((Ay v i).fN)=0)) i)) else(ov (BK false i))) else(ov (BK false i)))))] [] ?_ ?_
    ·refine Aj (wv (Ad B5 rfl Cu rfl rfl) (wv (A0 (i:=0) Dd rfl rfl rfl) (wv (B3 rfl rfl) (wm rfl (AH (decide (((Ay v i).fInt)=0)) (λha=>?_) (λha=>?_))))))
     ·refine wf ha (wf ha (wf ha (wv (r:=rB true) (As (b:=decide (((Ay v i).fInt)=0)) rfl ha rfl) (wm rfl (AW (b:=true) rfl rfl rfl (wv (Ad B5 rfl CV rfl rfl) (AW (b:=true) rfl rfl rfl (wv (A0 (i:=0) Dn rfl rfl rfl) (AW (b:=true) rfl rfl rfl (wv (G0 rfl rfl) (wv (r:=rB (decide (((Ay v i).fStr)=([]:Ah)))) (As (b:=true) rfl rfl rfl) (wm rfl (AH (decide (((Ay v i).fStr)=([]:Ah))) (λhf=>?_) (λhf=>?_))))))))))))))
      ·refine wo hf (wv (Ad B5 rfl Cu rfl rfl) (wo hf (wv (A0 (i:=0) Dd rfl rfl rfl) (wo hf (wv (B3 rfl rfl) (Gk rfl hf rfl (wm rfl (Co Je (Ei (decide (((Ay v i).fN)=0)) i (ov (BK (decide (((Ay v i).fN)=0)) i)) (Gr (C0 (C0 hE ha) hf))) rfl (wa rfl (Al ?_))))))))));exact BO (And.intro ha hf)
      ·refine wf hf (wf hf (wf hf (wv (r:=rB false) (A4 (b:=decide (((Ay v i).fStr)=([]:Ah))) rfl hf rfl) (wm rfl (Co Je (Ei false i (ov (BK false i)) (Gr (C4 (C0 hH ha) hf))) rfl (wa rfl (Al ?_)))))));exact BO (And.intro ha hf)
     ·refine wo ha (wv (Ad B5 rfl Cu rfl rfl) (wo ha (wv (A0 (i:=0) Dd rfl rfl rfl) (wo ha (wv (B3 rfl rfl) (D4 rfl ha rfl (wm rfl (AH (decide (((Ay v i).fInt)=1)) (λhd=>?_) (λhd=>?_)))))))))
      ·refine wo hd (wv (Ad B5 rfl CV rfl rfl) (wo hd (wv (A0 (i:=0) Dn rfl rfl rfl) (wo hd (wv (G0 rfl rfl) (Gk rfl hd rfl (wm rfl (AH (decide (((Ay v i).fStr)=([]:Ah))) (λhg=>?_) (λhg=>?_)))))))))
       ·refine wo hg (wv (Ad B5 rfl Cu rfl rfl) (wo hg (wv (A0 (i:=0) Dd rfl rfl rfl) (wo hg (wv (B3 rfl rfl) (Gk rfl hg rfl (wm rfl (Co Je (Ei (decide (((Ay v i).fN)=0)) i (ov (BK (decide (((Ay v i).fN)=0)) i)) (Gr (C0 (C0 (C4 hJ ha) hd) hg))) rfl (wa rfl (Al ?_))))))))));exact BO (And.intro ha (And.intro hd hg))
       ·refine wf hg (wf hg (wf hg (wv (r:=rB false) (A4 (b:=decide (((Ay v i).fStr)=([]:Ah))) rfl hg rfl) (wm rfl (Co Je (Ei false i (ov (BK false i)) (Gr (C4 (C0 (C4 hL ha) hd) hg))) rfl (wa rfl (Al ?_)))))));exact BO (And.intro ha (And.intro hd hg))
      ·refine wf hd (wf hd (wf hd (wv (r:=rB false) (A4 (b:=decide (((Ay v i).fInt)=1)) rfl hd rfl) (wm rfl (An (b:=false) rfl rfl rfl rfl (An (b:=false) rfl rfl rfl rfl (An (b:=false) rfl rfl rfl rfl (wv (r:=rB false) (A4 (b:=false) rfl rfl rfl) (wm rfl (Co Je (Ei false i (ov (BK false i)) (Gr (C4 (C4 hO ha) hd))) rfl (wa rfl (Al ?_))))))))))));exact BO (And.intro ha hd)
    refine Ax (Af ?_);obtain rfl:=Az hP;exact Aw (BS LZ (AJ rfl)) sN ⟨rfl,rfl⟩
   ·have hw:=AC hn hu;refine At (AN (Am (Ak (wv (Ad B5 rfl DX rfl rfl) (wv (A0 (i:=0) Ex rfl rfl rfl) (wv (B3 rfl rfl) (Ar (Ap (b:=decide (((Ay v i).fKind)=3)) rfl (λho=>?_) (λho=>?_)))))))))
    ·have hQ:=AB ho hw;obtain⟨hR,hS⟩:=Av hQ;obtain⟨hT,hU⟩:=Av hS;refine AA [(4,rI .i64 (bif decide (((Ay v i).fStr)=([]:Ah)) then(ov (BK (decide (((Ay v i).fN)=0)) i)) else(ov (BK false i))))] [] ?_ ?_
     ·refine Aj (wv (Ad B5 rfl CV rfl rfl) (wv (A0 (i:=0) Dn rfl rfl rfl) (wv (G0 rfl rfl) (wm rfl (AH (decide (((Ay v i).fStr)=([]:Ah))) (λhh=>?_) (λhh=>?_))))))
      ·refine wo hh (wv (Ad B5 rfl Cu rfl rfl) (wo hh (wv (A0 (i:=0) Dd rfl rfl rfl) (wo hh (wv (B3 rfl rfl) (Gk rfl hh rfl (wm rfl (Co Je (Ei (decide (((Ay v i).fN)=0)) i (ov (BK (decide (((Ay v i).fN)=0)) i)) (Gr (C0 hR hh))) rfl (wa rfl (Al ?_))))))))));exact BO hh
      ·refine wf hh (wf hh (wf hh (wv (r:=rB false) (A4 (b:=decide (((Ay v i).fStr)=([]:Ah))) rfl hh rfl) (wm rfl (Co Je (Ei false i (ov (BK false i)) (Gr (C4 hT hh))) rfl (wa rfl (Al ?_)))))));exact BO hh
     refine Ax (Af ?_);obtain rfl:=Az hU;exact Aw (BS LZ (AJ rfl)) sN ⟨rfl,rfl⟩
    ·have hx:=AC ho hw;refine At (AN (Am (Ak (wv (Ad B5 rfl DX rfl rfl) (wv (A0 (i:=0) Ex rfl rfl rfl) (wv (B3 rfl rfl) (Ar (Ap (b:=decide (((Ay v i).fKind)=4)) rfl (λhp=>?_) (λhp=>?_)))))))))
     ·have hV:=AB hp hx;refine Ak (wv (Bs (i:=0) L2 Cb rfl rfl rfl rfl) ?_);obtain⟨hy,hW,hX⟩:=AL hV;refine Co Tryz.call138 (Vw F (Ay v i) hy hW) rfl (wm rfl ?_);obtain⟨hY,hZ,ga⟩:=AL hX;refine Co Je (Ei hy i hY hZ) rfl (wa rfl (Ar (Ax (Af ?_))));obtain rfl:=Az ga;exact Aw (BS LZ (AJ rfl)) (sS sN) ⟨rfl,rfl⟩
     ·have hz:=AC hp hx;refine At (AN (Am (AA [(0,Bo 4 (List.map Ab v)),(1,rI .i64 i),(5,rv (.pointer (some ⟨b7,0,none⟩))),(96,rB ((decide (((Ay v i).fKind)=5))&&((decide (((Ay v i).fInt)=0))&&((decide (((Ay v i).fStr)=([]:Ah)))&&(decide (0≤((Ay v i).fN)))))))] [.blk b7 (Ab (Ay v i)) 78] ?_ ?_)))
      ·refine Aj (wv (Ad B5 rfl DX rfl rfl) (wv (A0 (i:=0) Ex rfl rfl rfl) (wv (B3 rfl rfl) (wm rfl (AH (decide (((Ay v i).fKind)=5)) (λc53=>?_) (λc53=>?_))))))
       ·refine wo c53 (wv (Ad B5 rfl Cu rfl rfl) (wo c53 (wv (A0 (i:=0) Dd rfl rfl rfl) (wo c53 (wv (B3 rfl rfl) (Gk rfl c53 rfl (wm rfl (AH (decide (((Ay v i).fInt)=0)) (λhj=>?_) (λhj=>?_)))))))))
        ·refine wo hj (wv (Ad B5 rfl CV rfl rfl) (wo hj (wv (A0 (i:=0) Dn rfl rfl rfl) (wo hj (wv (G0 rfl rfl) (Gk rfl hj rfl (wm rfl (AH (decide (((Ay v i).fStr)=([]:Ah))) (λhl=>?_) (λhl=>?_)))))))))
         ·refine wo hl (wv (Ad B5 rfl Cu rfl rfl) (wo hl (wv (A0 (i:=0) Dd rfl rfl rfl) (wo hl (wv (Gs rfl rfl) (Gk rfl hl rfl (Al ?_)))))));exact BO (And.intro c53 (And.intro hj hl))
         ·refine wf hl (wf hl (wf hl (wv (r:=rB false) (A4 (b:=decide (((Ay v i).fStr)=([]:Ah))) rfl hl rfl) (Al ?_))));exact BO (And.intro c53 (And.intro hj hl))
        ·refine wf hj (wf hj (wf hj (wv (r:=rB false) (A4 (b:=decide (((Ay v i).fInt)=0)) rfl hj rfl) (wm rfl (An (b:=false) rfl rfl rfl rfl (An (b:=false) rfl rfl rfl rfl (An (b:=false) rfl rfl rfl rfl (wv (r:=rB false) (A4 (b:=false) rfl rfl rfl) (Al ?_)))))))));exact BO (And.intro c53 hj)
       ·refine wf c53 (wf c53 (wf c53 (wv (r:=rB false) (A4 (b:=decide (((Ay v i).fKind)=5)) rfl c53 rfl) (wm rfl (An (b:=false) rfl rfl rfl rfl (An (b:=false) rfl rfl rfl rfl (An (b:=false) rfl rfl rfl rfl (wv (r:=rB false) (A4 (b:=false) rfl rfl rfl) (wm rfl (An (b:=false) rfl rfl rfl rfl (An (b:=false) rfl rfl rfl rfl (An (b:=false) rfl rfl rfl rfl (wv (r:=rB false) (A4 (b:=false) rfl rfl rfl) (Al ?_))))))))))))));exact BO c53
      refine Ap (b:=((decide (((Ay v i).fKind)=5))&&((decide (((Ay v i).fInt)=0))&&((decide (((Ay v i).fStr)=([]:Ah)))&&(decide (0≤((Ay v i).fN))))))) rfl (λhq=>?_) (λhq=>?_)
      ·have gb:=AB hq hz;refine Ak (wm rfl (wm rfl ?_));obtain⟨gc,gd⟩:=Av gb;refine wv (Bi rfl rfl gc) (wv (Ad B5 rfl Cu rfl rfl) (wv (A0 (i:=0) Dd rfl rfl rfl) ?_));obtain⟨ge,gf,gg⟩:=AL gd;refine Co Tryz.call139 (h1 v (i+1) ((Ay v i).fN) ge gf) rfl (wa rfl (Ar (Ax (Af ?_))));obtain rfl:=Az gg;exact Aw (BS LZ (AJ rfl)) (sS sN) ⟨rfl,rfl⟩
      ·have h0:=AC hq hz;refine At (AN (Am (AA [(0,Bo 4 (List.map Ab v)),(1,rI .i64 i),(5,rv (.pointer (some ⟨b7,0,none⟩))),(120,rB ((decide (((Ay v i).fKind)=6))&&((decide (((Ay v i).fInt)=0))&&((decide (((Ay v i).fStr)=([]:Ah)))&&(decide (0≤((Ay v i).fN)))))))] [.blk b7 (Ab (Ay v i)) 78] ?_ ?_)))
       ·refine Aj (wv (Ad B5 rfl DX rfl rfl) (wv (A0 (i:=0) Ex rfl rfl rfl) (wv (B3 rfl rfl) (wm rfl (AH (decide (((Ay v i).fKind)=6)) (λhi=>?_) (λhi=>?_))))))
        ·refine wo hi (wv (Ad B5 rfl Cu rfl rfl) (wo hi (wv (A0 (i:=0) Dd rfl rfl rfl) (wo hi (wv (B3 rfl rfl) (Gk rfl hi rfl (wm rfl (AH (decide (((Ay v i).fInt)=0)) (λhk=>?_) (λhk=>?_)))))))))
         ·refine wo hk (wv (Ad B5 rfl CV rfl rfl) (wo hk (wv (A0 (i:=0) Dn rfl rfl rfl) (wo hk (wv (G0 rfl rfl) (Gk rfl hk rfl (wm rfl (AH (decide (((Ay v i).fStr)=([]:Ah))) (λhm=>?_) (λhm=>?_)))))))))
          ·refine wo hm (wv (Ad B5 rfl Cu rfl rfl) (wo hm (wv (A0 (i:=0) Dd rfl rfl rfl) (wo hm (wv (Gs rfl rfl) (Gk rfl hm rfl (Al ?_)))))));exact BO (And.intro hi (And.intro hk hm))
          ·refine wf hm (wf hm (wf hm (wv (r:=rB false) (A4 (b:=decide (((Ay v i).fStr)=([]:Ah))) rfl hm rfl) (Al ?_))));exact BO (And.intro hi (And.intro hk hm))
         ·refine wf hk (wf hk (wf hk (wv (r:=rB false) (A4 (b:=decide (((Ay v i).fInt)=0)) rfl hk rfl) (wm rfl (An (b:=false) rfl rfl rfl rfl (An (b:=false) rfl rfl rfl rfl (An (b:=false) rfl rfl rfl rfl (wv (r:=rB false) (A4 (b:=false) rfl rfl rfl) (Al ?_)))))))));exact BO (And.intro hi hk)
        ·refine wf hi (wf hi (wf hi (wv (r:=rB false) (A4 (b:=decide (((Ay v i).fKind)=6)) rfl hi rfl) (wm rfl (An (b:=false) rfl rfl rfl rfl (An (b:=false) rfl rfl rfl rfl (An (b:=false) rfl rfl rfl rfl (wv (r:=rB false) (A4 (b:=false) rfl rfl rfl) (wm rfl (An (b:=false) rfl rfl rfl rfl (An (b:=false) rfl rfl rfl rfl (An (b:=false) rfl rfl rfl rfl (wv (r:=rB false) (A4 (b:=false) rfl rfl rfl) (Al ?_))))))))))))));exact BO hi
       refine Ap (b:=((decide (((Ay v i).fKind)=6))&&((decide (((Ay v i).fInt)=0))&&((decide (((Ay v i).fStr)=([]:Ah)))&&(decide (0≤((Ay v i).fN))))))) rfl (λhr=>?_) (λhr=>?_)
       ·have gh:=AB hr h0;refine Ak (wm rfl (wm rfl ?_));obtain⟨gi,gj⟩:=Av gh;refine wv (Bi rfl rfl gi) (wv (Ad B5 rfl Cu rfl rfl) (wv (A0 (i:=0) Dd rfl rfl rfl) ?_));obtain⟨gk,gl,gm⟩:=AL gj;refine Co Tryz.call140 (h2 v (i+1) ((Ay v i).fN) gk gl) rfl (wa rfl (Ar (Ax (Af ?_))));obtain rfl:=Az gm;exact Aw (BS LZ (AJ rfl)) (sS sN) ⟨rfl,rfl⟩
       ·have gn:=AC hr h0;refine At (AN (Ak (wv (r:=rI .i64 (-1)) (Ac rfl) (Ar (Ax ?_)))));obtain rfl:=Az gn;exact Aw (BS LZ (AJ rfl)) (sS sN) ⟨rfl,rfl⟩
theorem Pg (F:Nat)(hb:(List Aa)→Int→Option (Int))(hl:(∀(v:(List Aa)) (i:Int) (r:Int),hb v i=some r→Fn Tryz.prog GE 114 [Bo 4 (List.map Ab v),rI .i64 i] [] (λR H=>R=rI .i64 r∧H=[])))(v:(List Aa))(i:Int)(n:Int)(r:Int)(h:IG F hb v i n=some r):Fn Tryz.prog GE 139 [Bo 4 (List.map Ab v),rI .i64 i,rI .i64 n] [] (λR H=>R=rI .i64 r∧H=[]):=by
 refine enter (n:=19) Tryz.func139 rfl Tryz.ntmps139 rfl (λw Z=>?_);refine Bb (l':=[(0,Bo 4 (List.map Ab v)),(1,rI .i64 i),(2,rI .i64 n)]) (H':=[]) rfl rfl ?_;unfold IG at h;refine Ak (wv (r:=rI .i64 0) (Ac rfl) (Ar (Am (Ak (wv (r:=rI .i64 0) (Ac rfl) (Ar (AO ?_)))))));obtain⟨hm,hn,hi⟩:=AL h;refine BA (S:=Nat×(Int×Int)×(Unit)) (V:=(Int)×(Unit)) 0 (λσ=>Cg (λσ=>CX v n hb σ.1 σ.2) σ.1 σ.2.1=some hm) (λσ=>[(0,Bo 4 (List.map Ab v)),(1,rI .i64 σ.2.1.1),(2,rI .i64 n),(6,rI .i64 0),(7,rI .i64 σ.2.1.2)]) (λσ=>[]) (λσ=>σ.1) (F,(i,0),()) hn (AQ.c5 rfl rfl rfl rfl rfl AQ.nil) sN (λσ=>E3 σ.1=some r) (λσ=>[(1,rI .i64 σ.1),(6,rI .i64 0)]) (λσ=>[]) ?_ ?_
 ·rintro⟨h2,⟨hd,he⟩,⟨⟩⟩ ho;refine Bb (l':=[(0,Bo 4 (List.map Ab v)),(1,rI .i64 hd),(2,rI .i64 n),(6,rI .i64 0),(7,rI .i64 he)]) (H':=[]) rfl rfl ?_;obtain⟨hp,rfl,hq,ha,hg⟩:=CM ho;replace ha:CX v n hb hd he=some hq:=ha;unfold CX at ha;refine Am (Ak (wm rfl (wm rfl (wv (Cp rfl rfl) (Ar (Ap (b:=decide (he<n)) rfl (λc46=>?_) (λc46=>?_)))))))
  ·have hr:=AB c46 ha;refine At (AN (Am (AO (Ak (wm rfl (wm rfl ?_))))));obtain⟨hh,hs,hj⟩:=AL hr;refine Co Jf (hl v hd hh hs) rfl (wa rfl (By (wm rfl (wv (Cp rfl rfl) (Ar (Ap (b:=decide (hh<0)) rfl (λc51=>?_) (λc51=>?_)))))))
   ·have ht:=AB c51 hj;refine Ak (wv (r:=rI .i64 (-1)) (Ac rfl) (Ar (Ax (A3 (Af (Af (Bc ?_)))))));have hu:=B1 ht hg hi;refine A3 (Af ?_);obtain rfl:=Az hu;exact Aw (BS Tryz.results139 (AJ rfl)) sN ⟨rfl,rfl⟩
   ·have hw:=AC c51 hj;refine At (AK (AN (Aj (wm rfl ?_))));obtain⟨hx,hy⟩:=Av hw;refine wv (Bi rfl rfl hx) (wa rfl (Al ?_));have hz:=Bk hy hg;exact Aq (AG (hp,(hh,he+1),()) ⟨hz,AaX _⟩ (AQ.c5 rfl rfl rfl rfl rfl AQ.nil) sN)
  ·have h0:=AC c46 ha;refine B9 (A5 ?_);have h1:=Cj h0 hg hi;exact A5 (Br (AG (hd,()) h1 (AQ.c rfl (AQ.c rfl AQ.nil)) sN))
 ·rintro⟨hk,⟨⟩⟩ hf;refine CR (l':=[(1,rI .i64 hk),(6,rI .i64 0)]) (H':=[]) rfl rfl ?_;replace hf:E3 hk=some r:=hf;unfold E3 at hf;refine Bm (AN (Ak (wm rfl (wa rfl (Ar (Ax ?_))))));obtain rfl:=Az hf;exact Aw (BS Tryz.results139 (AJ rfl)) sN ⟨rfl,rfl⟩
theorem TC (F:Nat)(hi:(List Aa)→Int→Option (Int))(hu:(∀(v:(List Aa)) (i:Int) (r:Int),hi v i=some r→Fn Tryz.prog GE 114 [Bo 4 (List.map Ab v),rI .i64 i] [] (λR H=>R=rI .i64 r∧H=[])))(v:(List Aa))(i:Int)(n:Int)(r:Int)(h:MF F hi v i n=some r):Fn Tryz.prog GE 140 [Bo 4 (List.map Ab v),rI .i64 i,rI .i64 n] [] (λR H=>R=rI .i64 r∧H=[]):=by
 refine enter (n:=51) Tryz.func140 rfl Tryz.ntmps140 rfl (λw Z=>?_);refine Bb (l':=[(0,Bo 4 (List.map Ab v)),(1,rI .i64 i),(2,rI .i64 n)]) (H':=[]) rfl rfl ?_;unfold MF at h;refine Ak (wv (r:=rI .i64 0) (Ac rfl) (By (wv (r:=rS ([]:Ah)) (Ac rfl) (Ar (Am (Ak (wv (r:=rI .i64 0) (Ac rfl) (Ar (AO ?_)))))))));obtain⟨hw,hx,hl⟩:=AL h;refine BA (S:=Nat×(Int×Ah×Int)×(Unit)) (V:=(Int)×(Unit)) 0 (λσ=>Cg (λσ=>D7 F v n hi σ.1 σ.2.1 σ.2.2) σ.1 σ.2.1=some hw) (λσ=>[(0,Bo 4 (List.map Ab v)),(1,rI .i64 σ.2.1.1),(2,rI .i64 n),(7,rS σ.2.1.2.1),(8,rI .i64 σ.2.1.2.2)]) (λσ=>[]) (λσ=>σ.1) (F,(i,([]:Ah),0),()) hx (AQ.c5 rfl rfl rfl rfl rfl AQ.nil) sN (λσ=>Hy σ.1=some r) (λσ=>[(1,rI .i64 σ.1)]) (λσ=>[]) ?_ ?_
 ·rintro⟨hL,⟨hb,hg,hf⟩,⟨⟩⟩ hy;refine Bb (l':=[(0,Bo 4 (List.map Ab v)),(1,rI .i64 hb),(2,rI .i64 n),(7,rS hg),(8,rI .i64 hf)]) (H':=[]) rfl rfl ?_;obtain⟨hz,rfl,h0,hh,hj⟩:=CM hy;replace hh:D7 F v n hi hb hg hf=some h0:=hh;unfold D7 at hh;refine Am (Ak (wm rfl (wm rfl (wv (Cp rfl rfl) (Ar (Ap (b:=decide (hf<n)) rfl (λhm=>?_) (λhm=>?_)))))))
  ·have h1:=AB hm hh;refine At (AN (Am (AO (Am ?_))));obtain⟨hq,h2⟩:=Av h1;obtain⟨h3,hr⟩:=Av h2;refine AA [(0,Bo 4 (List.map Ab v)),(1,rI .i64 hb),(2,rI .i64 n),(8,rI .i64 hf),(38,rB ((decide ((v.length:Int)≤hb))||((!(ov (Mx F (Ay v hb))))||((decide (0<hf))&&(BI ((Ay v hb).fStr) hg||decide (((Ay v hb).fStr)=hg))))))] [] ?_ ?_
   ·refine Aj (wm rfl (wm rfl (wv (BT (ys:=v) (enc:=Ab) BN rfl) (wv (Gs rfl rfl) (wm rfl (AH (decide ((v.length:Int)≤hb)) (λha=>?_) (λha=>?_)))))))
    ·refine wf ha (wf ha (wf ha (wf ha (wf ha (wf ha (wv (r:=rB true) (As (b:=decide ((v.length:Int)≤hb)) rfl ha rfl) (wm rfl (An (b:=true) rfl rfl rfl rfl (An (b:=true) rfl rfl rfl rfl (An (b:=true) rfl rfl rfl rfl (wu (wu (wu (wu (wu (wu (wu (An (b:=true) rfl rfl rfl rfl (wv (r:=rB true) (As (b:=true) rfl rfl rfl) (Al ?_))))))))))))))))))));exact BO ha
    ·refine wo ha (wm rfl (wo ha (wm rfl (wo ha (wv (BY (enc:=Ab) (ys:=v) BN Cb rfl rfl (C4 hq ha)) (wo ha (wv (DQ L2 Cb rfl rfl rfl) (wo ha (Co Tryz.call138 (Vw F (Ay v hb) (ov (Mx F (Ay v hb))) (Gr (C4 h3 ha))) rfl (wo ha (wv (BJ rfl) (D4 rfl ha rfl (wm rfl (AH (!(ov (Mx F (Ay v hb)))) (λhe=>?_) (λhe=>?_)))))))))))))))
     ·refine wf he (wf he (wf he (wu (wu (wu (wu (wu (wu (wu (wf he (wv (r:=rB true) (As (b:=!(ov (Mx F (Ay v hb)))) rfl he rfl) (Al ?_))))))))))));exact BO (And.intro ha he)
     ·refine wo he (wm rfl (wo he (wv (Cl rfl rfl) (wo he (wm rfl (AH (decide (0<hf)) (λhd=>?_) (λhd=>?_)))))))
      ·refine wo hd (wm rfl (wo hd (wm rfl (wo hd (wv (BY (enc:=Ab) (ys:=v) BN Cb rfl rfl (C4 hq ha)) (wo hd (wv (Ce B5 rfl CV rfl rfl) (wo hd (wv (BQ Dn rfl rfl) (wo hd (wm rfl (wo hd (wv (SE rfl rfl) (wo he (Gk rfl hd rfl (D4 rfl he rfl (Al ?_)))))))))))))))));exact BO (And.intro ha (And.intro he hd))
      ·refine wf hd (wf hd (wf hd (wf hd (wf hd (wf hd (wf hd (wo he (wv (r:=rB false) (A4 (b:=decide (0<hf)) rfl hd rfl) (D4 rfl he rfl (Al ?_))))))))));exact BO (And.intro ha (And.intro he hd))
   refine Ap (b:=((decide ((v.length:Int)≤hb))||((!(ov (Mx F (Ay v hb))))||((decide (0<hf))&&(BI ((Ay v hb).fStr) hg||decide (((Ay v hb).fStr)=hg)))))) rfl (λhn=>?_) (λhn=>?_)
   ·have h4:=AB hn hr;refine Ak (wv (r:=rI .i64 (-1)) (Ac rfl) (Ar (Ax (Af (A3 (Af (Af (Bc ?_))))))));have h5:=B1 h4 hj hl;refine A3 (Af ?_);obtain rfl:=Az h5;exact Aw (BS Tryz.results140 (AJ rfl)) sN ⟨rfl,rfl⟩
   ·have h6:=AC hn hr;refine At (AN (Ak (wm rfl (wm rfl ?_))));obtain⟨h7,h8⟩:=Av h6;refine wv (BY (enc:=Ab) (ys:=v) BN Cb rfl rfl h7) (wv (Ce B5 rfl CV rfl rfl) (wv (BQ Dn rfl rfl) (wa rfl (By (wm rfl (wm rfl ?_))))));obtain⟨h9,hA⟩:=Av h8;refine wv (Bi rfl rfl h9) ?_;obtain⟨ho,hB,hs⟩:=AL hA;refine Co Jf (hu v (hb+1) ho hB) rfl (wa rfl (By (wm rfl (wv (Cp rfl rfl) (Ar (Ap (b:=decide (ho<0)) rfl (λhp=>?_) (λhp=>?_)))))))
    ·have hC:=AB hp hs;refine Ak (wv (r:=rI .i64 (-1)) (Ac rfl) (Ar (Ax (A3 (Af (Af (Bc ?_)))))));have hD:=B1 hC hj hl;refine A3 (Af ?_);obtain rfl:=Az hD;exact Aw (BS Tryz.results140 (AJ rfl)) sN ⟨rfl,rfl⟩
    ·have hE:=AC hp hs;refine At (AK (AN (Aj (wm rfl ?_))));obtain⟨hG,hH⟩:=Av hE;refine wv (Bi rfl rfl hG) (wa rfl (Al ?_));have hI:=Bk hH hj;exact Aq (AG (hz,(ho,(Ay v hb).fStr,hf+1),()) ⟨hI,AaX _⟩ (AQ.c5 rfl rfl rfl rfl rfl AQ.nil) sN)
  ·have hJ:=AC hm hh;refine B9 (A5 ?_);have hK:=Cj hJ hj hl;exact A5 (Br (AG (hb,()) hK (AQ.c rfl AQ.nil) sN))
 ·rintro⟨ht,⟨⟩⟩ hk;refine CR (l':=[(1,rI .i64 ht)]) (H':=[]) rfl rfl ?_;replace hk:Hy ht=some r:=hk;unfold Hy at hk;refine Bm (AN (Ak (wm rfl (wa rfl (Ar (Ax ?_))))));obtain rfl:=Az hk;exact Aw (BS Tryz.results140 (AJ rfl)) sN ⟨rfl,rfl⟩
theorem Iy:∀F:Nat,(∀(v:(List Aa)) (i:Int) (r:Int),DD F v i=some r→Fn Tryz.prog GE 114 [Bo 4 (List.map Ab v),rI .i64 i] [] (λR H=>R=rI .i64 r∧H=[]))∧(∀(v:(List Aa)) (i:Int) (n:Int) (r:Int),Hz F v i n=some r→Fn Tryz.prog GE 139 [Bo 4 (List.map Ab v),rI .i64 i,rI .i64 n] [] (λR H=>R=rI .i64 r∧H=[]))∧(∀(v:(List Aa)) (i:Int) (n:Int) (r:Int),LB F v i n=some r→Fn Tryz.prog GE 140 [Bo 4 (List.map Ab v),rI .i64 i,rI .i64 n] [] (λR H=>R=rI .i64 r∧H=[]))
  | 0=>⟨(λ_ _ _ h=>by simp[DD] at h),(λ_ _ _ _ h=>by simp[Hz] at h),(λ_ _ _ _ h=>by simp[LB] at h)⟩
  | nn+1=>⟨(λv i r h=>Vv nn (Hz nn) (LB nn) (Iy nn).2.1 (Iy nn).2.2 v i r (by rw[DD] at h;exact h)),(λv i n r h=>Pg nn (DD nn) (Iy nn).1 v i n r (by rw[Hz] at h;exact h)),(λv i n r h=>TC nn (DD nn) (Iy nn).1 v i n r (by rw[LB] at h;exact h))⟩
theorem Hi (F:Nat)(v:(List Aa))(i:Int)(r:Int)(h:DD F v i=some r):Fn Tryz.prog GE 114 [Bo 4 (List.map Ab v),rI .i64 i] [] (λR H=>R=rI .i64 r∧H=[]):=(Iy F).1 v i r h
theorem TG (F:Nat)(v:(List Aa))(r:Bool)(h:KU F v=some r):Fn Tryz.prog GE 111 [Bo 4 (List.map Ab v)] [] (λR H=>R=rB r∧H=[]):=by
 refine enter (n:=13) Tryz.func111 rfl Tryz.ntmps111 rfl (λw Z=>?_);refine Bb (l':=[(0,Bo 4 (List.map Ab v))]) (H':=[]) rfl rfl ?_;unfold KU at h;refine Ak (wv (r:=rB false) (Ac rfl) (Ar ?_));obtain⟨g1,h2⟩:=Av h;refine AA [(2,rB ((decide (0<(v.length:Int)))&&(decide ((ov (DD F v 0))=(v.length:Int)))))] [] ?_ ?_
 ·refine Aj (wm rfl (wv (BT (ys:=v) (enc:=Ab) BN rfl) (wv (Cl rfl rfl) (wm rfl (AH (decide (0<(v.length:Int))) (λc3=>?_) (λc3=>?_))))))
  ·refine wo c3 (wm rfl (wo c3 (Co Jf (Hi F v 0 (ov (DD F v 0)) (Gr (C0 g1 c3))) rfl (wo c3 (wm rfl (wo c3 (wv (BT (ys:=v) (enc:=Ab) BN rfl) (wo c3 (wv (B3 rfl rfl) (Gk rfl c3 rfl (wa rfl (Al ?_))))))))))));exact BO c3
  ·refine wf c3 (wf c3 (wf c3 (wf c3 (wf c3 (wv (r:=rB false) (A4 (b:=decide (0<(v.length:Int))) rfl c3 rfl) (wa rfl (Al ?_)))))));exact BO c3
 refine Ax ?_;obtain rfl:=Az h2;exact Aw (BS Tryz.results111 (AJ rfl)) sN ⟨rfl,rfl⟩
theorem R6 (F:Nat)(hg:(List Aa)→Int→Option (Int))(hp:(∀(v:(List Aa)) (i:Int) (r:Int),hg v i=some r→Fn Tryz.prog GE 112 [Bo 4 (List.map Ab v),rI .i64 i] [] (λR H=>R=rI .i64 r∧H=[])))(v:(List Aa))(i:Int)(r:Int)(h:Iz F hg v i=some r):Fn Tryz.prog GE 112 [Bo 4 (List.map Ab v),rI .i64 i] [] (λR H=>R=rI .i64 r∧H=[]):=by
 refine enter (n:=47) Tryz.func112 rfl Tryz.ntmps112 rfl (λw Z=>?_);refine Bb (l':=[(0,Bo 4 (List.map Ab v)),(1,rI .i64 i)]) (H':=[]) rfl rfl ?_;unfold Iz at h;refine Ak (wv (r:=rI .i64 0) (Ac rfl) (By (wm rfl (wm rfl ?_))));obtain⟨g1,h2⟩:=Av h;refine wv (BY (enc:=Ab) (ys:=v) BN Cb rfl rfl g1) (wv (DQ L2 Cb rfl rfl rfl) (Cf (cs:=[rI .i64 0,rI .i64 0,rS ([]:Ah),rI .i64 0]) EA rfl rfl (λb3=>?_)));refine Bq (i:=0) Cb rfl rfl rfl (BM.c rfl) rfl rfl (cs':=[rI .i64 ((Ay v i).fKind),rI .i64 ((Ay v i).fInt),rS ((Ay v i).fStr),rI .i64 ((Ay v i).fN)]) rfl (H':=[.blk b3 (Ab (Ay v i)) 78]) rfl (Ar (Am (AA [(0,Bo 4 (List.map Ab v)),(1,rI .i64 i),(5,rv (.pointer (some ⟨b3,0,none⟩))),(21,rB ((!decide (((Ay v i).fKind)=5))&&(!decide (((Ay v i).fKind)=6))))] [.blk b3 (Ab (Ay v i)) 78] ?_ ?_)))
 ·refine Aj (wv (Ad B5 rfl DX rfl rfl) (wv (A0 (i:=0) Ex rfl rfl rfl) (wv (CF rfl rfl) (wm rfl (AH (!decide (((Ay v i).fKind)=5)) (λc4=>?_) (λc4=>?_))))))
  ·refine wo c4 (wv (Ad B5 rfl DX rfl rfl) (wo c4 (wv (A0 (i:=0) Ex rfl rfl rfl) (wo c4 (wv (CF rfl rfl) (Gk rfl c4 rfl (Al ?_)))))));exact BO c4
  ·refine wf c4 (wf c4 (wf c4 (wv (r:=rB false) (A4 (b:=!decide (((Ay v i).fKind)=5)) rfl c4 rfl) (Al ?_))));exact BO c4
 refine Ap (b:=((!decide (((Ay v i).fKind)=5))&&(!decide (((Ay v i).fKind)=6)))) rfl (λc5=>?_) (λc5=>?_)
 ·have h6:=AB c5 h2;refine Ak (wv (r:=rI .i64 1) (Ac rfl) (Ar (Ax (Af ?_))));obtain rfl:=Az h6;exact Aw (BS Tryz.results112 (AJ rfl)) (sS sN) ⟨rfl,rfl⟩
 ·have h7:=AC c5 h2;refine At (AN (Ak (wv (r:=rI .i64 0) (Ac rfl) (By (wm rfl ?_)))));obtain⟨g8,h9⟩:=Av h7;refine wv (Bi rfl rfl g8) (wa rfl (Ar (Am (Ak (wv (r:=rI .i64 0) (Ac rfl) (Ar (AO ?_)))))));obtain⟨hz,h0,h1⟩:=AL h9;refine BA (S:=Nat×(Int×Int×Int)×(Unit)) (V:=(Int)×(Unit)) 0 (λσ=>Cg (λσ=>CP F v i hg σ.1 σ.2.1 σ.2.2) σ.1 σ.2.1=some hz) (λσ=>[(0,Bo 4 (List.map Ab v)),(5,rv (.pointer (some ⟨b3,0,none⟩))),(6,rI .i64 σ.2.1.1),(7,rI .i64 σ.2.1.2.1),(8,rI .i64 σ.2.1.2.2)]) (λσ=>[.blk b3 (Ab (Ay v i)) 78]) (λσ=>σ.1) (F,(0,i+1,0),()) h0 (AQ.c5 rfl rfl rfl rfl rfl AQ.nil) (sC sN) (λσ=>Eh σ.1=some r) (λσ=>[(6,rI .i64 σ.1)]) (λσ=>[]) ?_ ?_
  ·rintro⟨gi,⟨hb,ha,hd⟩,⟨⟩⟩ h3;refine Bb (l':=[(0,Bo 4 (List.map Ab v)),(5,rv (.pointer (some ⟨b3,0,none⟩))),(6,rI .i64 hb),(7,rI .i64 ha),(8,rI .i64 hd)]) (H':=[.blk b3 (Ab (Ay v i)) 78]) rfl rfl ?_;obtain⟨hh,rfl,h4,he,hf⟩:=CM h3;replace he:CP F v i hg hb ha hd=some h4:=he;unfold CP at he;refine Am (Ak (wm rfl (wv (Ad B5 rfl Cu rfl rfl) (wv (A0 (i:=0) Dd rfl rfl rfl) (wv (Cp rfl rfl) (Ar (Ap (b:=decide (hd<((Ay v i).fN))) rfl (λhj=>?_) (λhj=>?_))))))))
   ·have hq:=AB hj he;refine At (AN (Am (AO (Am (Ak (wv (Ad B5 rfl DX rfl rfl) (wv (A0 (i:=0) Ex rfl rfl rfl) (wv (B3 rfl rfl) (Ar (Ap (b:=decide (((Ay v i).fKind)=6)) rfl (λhk=>?_) (λhk=>?_)))))))))))
    ·have h5:=AB hk hq;refine Aj (wm rfl ?_);obtain⟨h8,hA⟩:=Av h5;refine wv (Bi rfl rfl h8) (wa rfl (By (wm rfl (wm rfl ?_))));obtain⟨hl,hB,hr⟩:=AL hA;refine Co Tryz.call112 (hp v (ha+1) hl hB) rfl (wa rfl (Ar (Am (Ak (wm rfl (wm rfl (wv (Cl rfl rfl) (Ar (Ap (b:=decide (hb<hl)) rfl (λhm=>?_) (λhm=>?_))))))))))
     ·have hC:=AB hm hr;refine Aj (wm rfl (wa rfl (Ar (Aj (wm rfl (wm rfl ?_))))));obtain⟨hs,hD,hE⟩:=AL hC;refine Co Jf (Hi F v (ha+1) hs hD) rfl (wa rfl (Al (AK (AN (Aj (wm rfl ?_))))));obtain⟨hG,hH⟩:=Av hE;refine wv (Bi rfl rfl hG) (wa rfl (Al ?_));have hI:=Bk hH hf;exact Aq (AG (hh,(hl,hs,hd+1),()) ⟨hI,AaX _⟩ (AQ.c5 rfl rfl rfl rfl rfl AQ.nil) (sC sN))
     ·have hJ:=AC hm hr;refine At (AN (Aj (wm rfl (wm rfl ?_))));obtain⟨ht,hK,hL⟩:=AL hJ;refine Co Jf (Hi F v (ha+1) ht hK) rfl (wa rfl (Al (AK (AN (Aj (wm rfl ?_))))));obtain⟨hN,hO⟩:=Av hL;refine wv (Bi rfl rfl hN) (wa rfl (Al ?_));have hP:=Bk hO hf;exact Aq (AG (hh,(hb,ht,hd+1),()) ⟨hP,AaX _⟩ (AQ.c5 rfl rfl rfl rfl rfl AQ.nil) (sC sN))
    ·have hQ:=AC hk hq;refine At (AN (Ak (wm rfl (wm rfl ?_))));obtain⟨hn,hR,hu⟩:=AL hQ;refine Co Tryz.call112 (hp v ha hn hR) rfl (wa rfl (Ar (Am (Ak (wm rfl (wm rfl (wv (Cl rfl rfl) (Ar (Ap (b:=decide (hb<hn)) rfl (λho=>?_) (λho=>?_))))))))))
     ·have hS:=AB ho hu;refine Aj (wm rfl (wa rfl (Ar (Aj (wm rfl (wm rfl ?_))))));obtain⟨hw,hT,hU⟩:=AL hS;refine Co Jf (Hi F v ha hw hT) rfl (wa rfl (Al (AK (AN (Aj (wm rfl ?_))))));obtain⟨hV,hW⟩:=Av hU;refine wv (Bi rfl rfl hV) (wa rfl (Al ?_));have hX:=Bk hW hf;exact Aq (AG (hh,(hn,hw,hd+1),()) ⟨hX,AaX _⟩ (AQ.c5 rfl rfl rfl rfl rfl AQ.nil) (sC sN))
     ·have hY:=AC ho hu;refine At (AN (Aj (wm rfl (wm rfl ?_))));obtain⟨hx,hZ,ga⟩:=AL hY;refine Co Jf (Hi F v ha hx hZ) rfl (wa rfl (Al (AK (AN (Aj (wm rfl ?_))))));obtain⟨gb,gc⟩:=Av ga;refine wv (Bi rfl rfl gb) (wa rfl (Al ?_));have gd:=Bk gc hf;exact Aq (AG (hh,(hb,hx,hd+1),()) ⟨gd,AaX _⟩ (AQ.c5 rfl rfl rfl rfl rfl AQ.nil) (sC sN))
   ·have ge:=AC hj he;refine B9 (A5 ?_);have gf:=Cj ge hf h1;exact A5 (Br (AG (hb,()) gf (AQ.c rfl AQ.nil) (sS sN)))
  ·rintro⟨hy,⟨⟩⟩ hi;refine CR (l':=[(6,rI .i64 hy)]) (H':=[]) rfl rfl ?_;replace hi:Eh hy=some r:=hi;unfold Eh at hi;refine Bm (AN (Ak (wm rfl ?_)));obtain⟨gg,gh⟩:=Av hi;refine wv (Bi rfl rfl gg) (wa rfl (Ar (Ax ?_)));obtain rfl:=Az gh;exact Aw (BS Tryz.results112 (AJ rfl)) sN ⟨rfl,rfl⟩
theorem Mi:∀F:Nat,(∀(v:(List Aa)) (i:Int) (r:Int),CW F v i=some r→Fn Tryz.prog GE 112 [Bo 4 (List.map Ab v),rI .i64 i] [] (λR H=>R=rI .i64 r∧H=[]))
  | 0=>(λ_ _ _ h=>by simp[CW] at h)
  | nn+1=>(λv i r h=>R6 nn (CW nn) (Mi nn) v i r (by rw[CW] at h;exact h))
theorem TE (F:Nat)(v:(List Aa))(i:Int)(r:Int)(h:CW F v i=some r):Fn Tryz.prog GE 112 [Bo 4 (List.map Ab v),rI .i64 i] [] (λR H=>R=rI .i64 r∧H=[]):=(Mi F) v i r h
theorem LA (F:Nat)(s:Ah)(r:Ah)(h:IF F s=some r):Fn Tryz.prog GE 113 [rS s] [] (λR H=>R=rS r∧H=[]):=by
 refine enter (n:=32) Tryz.func113 rfl Tryz.ntmps113 rfl (λw Z=>?_);refine Bb (l':=[(0,rS s)]) (H':=[]) rfl rfl ?_;unfold IF at h;refine Ak (wv (r:=rS ([]:Ah)) (Ac rfl) (By (wv (r:=rS ([34]:Ah)) (Ac rfl) (Ar (Am (Ak (wv (r:=rI .i64 0) (Ac rfl) (Ar (AO ?_)))))))));obtain⟨hp,hq,hr⟩:=AL h;refine BA (S:=Nat×(Ah×Int)×(Unit)) (V:=(Ah)×(Unit)) 0 (λσ=>Cg (λσ=>Dh s σ.1 σ.2) σ.1 σ.2.1=some hp) (λσ=>[(0,rS s),(3,rS σ.2.1.1),(4,rI .i64 σ.2.1.2)]) (λσ=>[]) (λσ=>σ.1) (F,(([34]:Ah),0),()) hq (AQ.c rfl (AQ.c rfl (AQ.c rfl AQ.nil))) sN (λσ=>DL σ.1=some r) (λσ=>[(3,rS σ.1)]) (λσ=>[]) ?_ ?_
 ·rintro⟨hL,⟨hd,ha⟩,⟨⟩⟩ hs;refine Bb (l':=[(0,rS s),(3,rS hd),(4,rI .i64 ha)]) (H':=[]) rfl rfl ?_;obtain⟨hj,rfl,ht,he,hg⟩:=CM hs;replace he:Dh s hd ha=some ht:=he;unfold Dh at he;refine Am (Ak (wm rfl (wm rfl (wv (Bd BP rfl) (wv (Cp rfl rfl) (Ar (Ap (b:=decide (ha<(s.length:Int))) rfl (λhh=>?_) (λhh=>?_))))))))
  ·have hu:=AB hh he;refine At (AN (Am (AO (Am ?_))));obtain⟨hk,hl⟩:=Av hu;refine AA [(0,rS s),(3,rS hd),(4,rI .i64 ha),(20,rB ((decide ((AT s ha)=34))||(decide ((AT s ha)=92))))] [] ?_ ?_
   ·refine Aj (wm rfl (wm rfl (wv (AV BP rfl rfl hk) (wv (B3 rfl rfl) (wm rfl (AH (decide ((AT s ha)=34)) (λhb=>?_) (λhb=>?_)))))))
    ·refine wf hb (wf hb (wf hb (wf hb (wv (r:=rB true) (As (b:=decide ((AT s ha)=34)) rfl hb rfl) (Al ?_)))));exact BO hb
    ·refine wo hb (wm rfl (wo hb (wm rfl (wo hb (wv (AV BP rfl rfl hk) (wo hb (wv (B3 rfl rfl) (D4 rfl hb rfl (Al ?_)))))))));exact BO hb
   refine Ap (b:=((decide ((AT s ha)=34))||(decide ((AT s ha)=92)))) rfl (λhi=>?_) (λhi=>?_)
   ·have hw:=AB hi hl;refine Aj (wm rfl ?_);obtain⟨hx,hy⟩:=Av hw;refine wv (Do rfl rfl hx) (wa rfl (Ar (Aj (wm rfl (wm rfl (wm rfl (wm rfl ?_)))))));obtain⟨hm,hz⟩:=Av hy;refine wv (Bi rfl rfl hm) ?_;obtain⟨h0,h1⟩:=Av hz;obtain⟨h2,h3⟩:=Av h1;refine wv (DN BP rfl rfl rfl h0 h2) ?_;obtain⟨h4,h5⟩:=Av h3;refine wv (Do rfl rfl h4) (wa rfl (Al (AK (AN (Aj (wm rfl (wv (Bi rfl rfl hm) (wa rfl (Al ?_)))))))));have h6:=Bk h5 hg;exact Aq (AG (hj,((hd++([92]:Ah))++(List.take (Int.toNat (ha+1)-Int.toNat ha) (List.drop (Int.toNat ha) s)),ha+1),()) ⟨h6,AaX _⟩ (AQ.c rfl (AQ.c rfl (AQ.c rfl AQ.nil))) sN)
   ·have h7:=AC hi hl;refine At (AN (Aj (wm rfl (wm rfl (wm rfl (wm rfl ?_))))));obtain⟨hn,h8⟩:=Av h7;refine wv (Bi rfl rfl hn) ?_;obtain⟨h9,hA⟩:=Av h8;obtain⟨hB,hC⟩:=Av hA;refine wv (DN BP rfl rfl rfl h9 hB) ?_;obtain⟨hD,hE⟩:=Av hC;refine wv (Do rfl rfl hD) (wa rfl (Al (AK (AN (Aj (wm rfl (wv (Bi rfl rfl hn) (wa rfl (Al ?_)))))))));have hG:=Bk hE hg;exact Aq (AG (hj,(hd++(List.take (Int.toNat (ha+1)-Int.toNat ha) (List.drop (Int.toNat ha) s)),ha+1),()) ⟨hG,AaX _⟩ (AQ.c rfl (AQ.c rfl (AQ.c rfl AQ.nil))) sN)
  ·have hH:=AC hh he;refine B9 (A5 ?_);have hI:=Cj hH hg hr;exact A5 (Br (AG (hd,()) hI (AQ.c rfl AQ.nil) sN))
 ·rintro⟨ho,⟨⟩⟩ hf;refine CR (l':=[(3,rS ho)]) (H':=[]) rfl rfl ?_;replace hf:DL ho=some r:=hf;unfold DL at hf;refine Bm (AN (Ak (wm rfl ?_)));obtain⟨hJ,hK⟩:=Av hf;refine wv (Do rfl rfl hJ) (wa rfl (Ar (Ax ?_)));obtain rfl:=Az hK;exact Aw (BS Tryz.results113 (AJ rfl)) sN ⟨rfl,rfl⟩
theorem Vo (F:Nat)(hh:(List Aa)→Int→Option (Ah))(hi:(∀(v:(List Aa)) (i:Int) (r:Ah),hh v i=some r→Fn Tryz.prog GE 79 [Bo 4 (List.map Ab v),rI .i64 i] [] (λR H=>R=rS r∧H=[])))(v:(List Aa))(i:Int)(r:Ah)(h:L8 F hh v i=some r):Fn Tryz.prog GE 79 [Bo 4 (List.map Ab v),rI .i64 i] [] (λR H=>R=rS r∧H=[]):=by
 refine enter (n:=77) Tryz.func79 rfl Tryz.ntmps79 rfl (λw Z=>?_);refine Bb (l':=[(0,Bo 4 (List.map Ab v)),(1,rI .i64 i)]) (H':=[]) rfl rfl ?_;unfold L8 at h;refine Ak (wv (r:=rS ([]:Ah)) (Ac rfl) (By (wm rfl (wm rfl ?_))));obtain⟨g1,h2⟩:=Av h;refine wv (BY (enc:=Ab) (ys:=v) BN Cb rfl rfl g1) (wv (DQ L2 Cb rfl rfl rfl) (Cf (cs:=[rI .i64 0,rI .i64 0,rS ([]:Ah),rI .i64 0]) EA rfl rfl (λb3=>?_)));refine Bq (i:=0) Cb rfl rfl rfl (BM.c rfl) rfl rfl (cs':=[rI .i64 ((Ay v i).fKind),rI .i64 ((Ay v i).fInt),rS ((Ay v i).fStr),rI .i64 ((Ay v i).fN)]) rfl (H':=[.blk b3 (Ab (Ay v i)) 78]) rfl (Ar (Am (Ak (wv (Ad B5 rfl DX rfl rfl) (wv (A0 (i:=0) Ex rfl rfl rfl) (wv (B3 rfl rfl) (Ar (Ap (b:=decide (((Ay v i).fKind)=1)) rfl (λc4=>?_) (λc4=>?_)))))))))
 ·have h5:=AB c4 h2;refine Ak (wv (r:=rS ([110,117,108,108]:Ah)) (Ac rfl) (Ar (Ax (Af ?_))));obtain rfl:=Az h5;exact Aw (BS Rq (AJ rfl)) (sS sN) ⟨rfl,rfl⟩
 ·have h6:=AC c4 h2;refine At (AN (Am (Ak (wv (Ad B5 rfl DX rfl rfl) (wv (A0 (i:=0) Ex rfl rfl rfl) (wv (B3 rfl rfl) (Ar (Ap (b:=decide (((Ay v i).fKind)=2)) rfl (λc7=>?_) (λc7=>?_)))))))))
  ·have h8:=AB c7 h6;refine Am (Ak (wv (Ad B5 rfl Cu rfl rfl) (wv (A0 (i:=0) Dd rfl rfl rfl) (wv (B3 rfl rfl) (Ar (Ap (b:=decide (((Ay v i).fInt)=1)) rfl (λc9=>?_) (λc9=>?_)))))))
   ·have hB:=AB c9 h8;refine Ak (wv (r:=rS ([116,114,117,101]:Ah)) (Ac rfl) (Ar (Ax (Af (Af ?_)))));obtain rfl:=Az hB;exact Aw (BS Rq (AJ rfl)) (sS sN) ⟨rfl,rfl⟩
   ·have hC:=AC c9 h8;refine At (AN (Ak (wv (r:=rS ([102,97,108,115,101]:Ah)) (Ac rfl) (Ar (Ax (Af ?_))))));obtain rfl:=Az hC;exact Aw (BS Rq (AJ rfl)) (sS sN) ⟨rfl,rfl⟩
  ·have hq:=AC c7 h6;refine At (AN (Am (Ak (wv (Ad B5 rfl DX rfl rfl) (wv (A0 (i:=0) Ex rfl rfl rfl) (wv (B3 rfl rfl) (Ar (Ap (b:=decide (((Ay v i).fKind)=3)) rfl (λhk=>?_) (λhk=>?_)))))))))
   ·have hD:=AB hk hq;refine Ak (wv (Ad B5 rfl Cu rfl rfl) (wv (A0 (i:=0) Dd rfl rfl rfl) ?_));obtain⟨g15,hE⟩:=Av hD;refine GB (rs:=[rI .i64 ((Ay v i).fInt)]) (r:=rS (Lib.itoa ((Ay v i).fInt))) Tryz.call75 rfl (Zg ((Ay v i).fInt) g15) rfl rfl (wa rfl (Ar (Ax (Af ?_))));obtain rfl:=Az hE;exact Aw (BS Rq (AJ rfl)) (sS sN) ⟨rfl,rfl⟩
   ·have hr:=AC hk hq;refine At (AN (Am (Ak (wv (Ad B5 rfl DX rfl rfl) (wv (A0 (i:=0) Ex rfl rfl rfl) (wv (B3 rfl rfl) (Ar (Ap (b:=decide (((Ay v i).fKind)=4)) rfl (λhl=>?_) (λhl=>?_)))))))))
    ·have hG:=AB hl hr;refine Ak (wv (Ad B5 rfl CV rfl rfl) (wv (A0 (i:=0) Dn rfl rfl rfl) ?_));obtain⟨hH,hI,hJ⟩:=AL hG;refine Co Tryz.call113 (LA F ((Ay v i).fStr) hH hI) rfl (wa rfl (Ar (Ax (Af ?_))));obtain rfl:=Az hJ;exact Aw (BS Rq (AJ rfl)) (sS sN) ⟨rfl,rfl⟩
    ·have hK:=AC hl hr;refine At (AN (Ak (wv (r:=rS ([]:Ah)) (Ac rfl) (By (wm rfl ?_)))));obtain⟨hL,hN⟩:=Av hK;refine wv (Bi rfl rfl hL) (wa rfl (Ar (Am (Ak (wv (r:=rI .i64 0) (Ac rfl) (Ar (AO ?_)))))));obtain⟨hO,hP,hQ⟩:=AL hN;refine BA (S:=Nat×(Ah×Int×Int)×(Unit)) (V:=(Ah)×(Unit)) 0 (λσ=>Cg (λσ=>Ef F v i hh σ.1 σ.2.1 σ.2.2) σ.1 σ.2.1=some hO) (λσ=>[(0,Bo 4 (List.map Ab v)),(4,rS ([]:Ah)),(5,rv (.pointer (some ⟨b3,0,none⟩))),(6,rS σ.2.1.1),(7,rI .i64 σ.2.1.2.1),(8,rI .i64 σ.2.1.2.2)]) (λσ=>[.blk b3 (Ab (Ay v i)) 78]) (λσ=>σ.1) (F,(([]:Ah),i+1,0),()) hP (AQ.c rfl (AQ.c5 rfl rfl rfl rfl rfl AQ.nil)) (sC sN) (λσ=>HG v i σ.1=some r) (λσ=>[(4,rS ([]:Ah)),(5,rv (.pointer (some ⟨b3,0,none⟩))),(6,rS σ.1)]) (λσ=>[.blk b3 (Ab (Ay v i)) 78]) ?_ ?_
     ·rintro⟨ch,⟨hd,ha,hb⟩,⟨⟩⟩ hR;refine Bb (l':=[(0,Bo 4 (List.map Ab v)),(4,rS ([]:Ah)),(5,rv (.pointer (some ⟨b3,0,none⟩))),(6,rS hd),(7,rI .i64 ha),(8,rI .i64 hb)]) (H':=[.blk b3 (Ab (Ay v i)) 78]) rfl rfl ?_;obtain⟨hj,rfl,hS,he,hf⟩:=CM hR;replace he:Ef F v i hh hd ha hb=some hS:=he;unfold Ef at he;refine Am (Ak (wm rfl (wv (Ad B5 rfl Cu rfl rfl) (wv (A0 (i:=0) Dd rfl rfl rfl) (wv (Cp rfl rfl) (Ar (Ap (b:=decide (hb<((Ay v i).fN))) rfl (λhm=>?_) (λhm=>?_))))))))
      ·have hs:=AB hm he;refine At (AN (Am (AO (Am (Ak (wm rfl (wv (Cl rfl rfl) (Ar (Ap (b:=decide (0<hb)) rfl (λhn=>?_) (λhn=>?_))))))))))
       ·have hT:=AB hn hs;refine Aj (wm rfl ?_);obtain⟨hU,ht⟩:=Av hT;refine wv (Do rfl rfl hU) (wa rfl (Ar (Am (Ak (wv (Ad B5 rfl DX rfl rfl) (wv (A0 (i:=0) Ex rfl rfl rfl) (wv (B3 rfl rfl) (Ar (Ap (b:=decide (((Ay v i).fKind)=6)) rfl (λc233=>?_) (λc233=>?_))))))))))
        ·have hV:=AB c233 ht;refine Ak (wm rfl (wm rfl (wm rfl ?_)));obtain⟨hW,hX⟩:=Av hV;refine wv (BY (enc:=Ab) (ys:=v) BN Cb rfl rfl hW) (wv (Ce B5 rfl CV rfl rfl) (wv (BQ Dn rfl rfl) ?_));obtain⟨hu,hY,hZ⟩:=AL hX;refine Co Tryz.call113 (LA F ((Ay v ha).fStr) hu hY) rfl ?_;obtain⟨ga,gb⟩:=Av hZ;refine wv (Do rfl rfl ga) ?_;obtain⟨gc,gd⟩:=Av gb;refine wv (Do rfl rfl gc) (wa rfl (Ar (Aj (wm rfl ?_))));obtain⟨ge,gf⟩:=Av gd;refine wv (Bi rfl rfl ge) (wa rfl (By (wm rfl (wm rfl (wm rfl ?_)))));obtain⟨hw,gg,gh⟩:=AL gf;refine Co Tq (hi v (ha+1) hw gg) rfl ?_;obtain⟨gi,gj⟩:=Av gh;refine wv (Do rfl rfl gi) (wa rfl (Ar (Aj (wm rfl (wm rfl ?_)))));obtain⟨hx,gk,gl⟩:=AL gj;refine Co Jf (Hi F v (ha+1) hx gk) rfl (wa rfl (Al (AK (AN (Aj (wm rfl ?_))))));obtain⟨gm,gn⟩:=Av gl;refine wv (Bi rfl rfl gm) (wa rfl (Al ?_));have gp:=Bk gn hf;exact Aq (AG (hj,((((hd++([44]:Ah))++hu)++([58]:Ah))++hw,hx,hb+1),()) ⟨gp,AaX _⟩ (AQ.c rfl (AQ.c5 rfl rfl rfl rfl rfl AQ.nil)) (sC sN))
        ·have gq:=AC c233 ht;refine At (AN (Ak (wm rfl (wm rfl (wm rfl ?_)))));obtain⟨hy,gr,gs⟩:=AL gq;refine Co Tq (hi v ha hy gr) rfl ?_;obtain⟨gt,gu⟩:=Av gs;refine wv (Do rfl rfl gt) (wa rfl (Ar (Aj (wm rfl (wm rfl ?_)))));obtain⟨hz,gv,gw⟩:=AL gu;refine Co Jf (Hi F v ha hz gv) rfl (wa rfl (Al (AK (AN (Aj (wm rfl ?_))))));obtain⟨gx,gy⟩:=Av gw;refine wv (Bi rfl rfl gx) (wa rfl (Al ?_));have gz:=Bk gy hf;exact Aq (AG (hj,((hd++([44]:Ah))++hy,hz,hb+1),()) ⟨gz,AaX _⟩ (AQ.c rfl (AQ.c5 rfl rfl rfl rfl rfl AQ.nil)) (sC sN))
       ·have h0:=AC hn hs;refine At (AN (Am (Ak (wv (Ad B5 rfl DX rfl rfl) (wv (A0 (i:=0) Ex rfl rfl rfl) (wv (B3 rfl rfl) (Ar (Ap (b:=decide (((Ay v i).fKind)=6)) rfl (λho=>?_) (λho=>?_)))))))))
        ·have g0:=AB ho h0;refine Ak (wm rfl (wm rfl (wm rfl ?_)));obtain⟨g2,g3⟩:=Av g0;refine wv (BY (enc:=Ab) (ys:=v) BN Cb rfl rfl g2) (wv (Ce B5 rfl CV rfl rfl) (wv (BQ Dn rfl rfl) ?_));obtain⟨h1,g4,g5⟩:=AL g3;refine Co Tryz.call113 (LA F ((Ay v ha).fStr) h1 g4) rfl ?_;obtain⟨g6,g7⟩:=Av g5;refine wv (Do rfl rfl g6) ?_;obtain⟨g8,g9⟩:=Av g7;refine wv (Do rfl rfl g8) (wa rfl (Ar (Aj (wm rfl ?_))));obtain⟨gA,gB⟩:=Av g9;refine wv (Bi rfl rfl gA) (wa rfl (By (wm rfl (wm rfl (wm rfl ?_)))));obtain⟨h3,gC,gD⟩:=AL gB;refine Co Tq (hi v (ha+1) h3 gC) rfl ?_;obtain⟨gE,gF⟩:=Av gD;refine wv (Do rfl rfl gE) (wa rfl (Ar (Aj (wm rfl (wm rfl ?_)))));obtain⟨h4,gG,gH⟩:=AL gF;refine Co Jf (Hi F v (ha+1) h4 gG) rfl (wa rfl (Al (AK (AN (Aj (wm rfl ?_))))));obtain⟨gI,gJ⟩:=Av gH;refine wv (Bi rfl rfl gI) (wa rfl (Al ?_));have gK:=Bk gJ hf;exact Aq (AG (hj,(((hd++h1)++([58]:Ah))++h3,h4,hb+1),()) ⟨gK,AaX _⟩ (AQ.c rfl (AQ.c5 rfl rfl rfl rfl rfl AQ.nil)) (sC sN))
        ·have gL:=AC ho h0;refine At (AN (Ak (wm rfl (wm rfl (wm rfl ?_)))));obtain⟨h7,gM,gN⟩:=AL gL;refine Co Tq (hi v ha h7 gM) rfl ?_;obtain⟨gO,gP⟩:=Av gN;refine wv (Do rfl rfl gO) (wa rfl (Ar (Aj (wm rfl (wm rfl ?_)))));obtain⟨h9,gQ,gR⟩:=AL gP;refine Co Jf (Hi F v ha h9 gQ) rfl (wa rfl (Al (AK (AN (Aj (wm rfl ?_))))));obtain⟨gS,gT⟩:=Av gR;refine wv (Bi rfl rfl gS) (wa rfl (Al ?_));have gU:=Bk gT hf;exact Aq (AG (hj,(hd++h7,h9,hb+1),()) ⟨gU,AaX _⟩ (AQ.c rfl (AQ.c5 rfl rfl rfl rfl rfl AQ.nil)) (sC sN))
      ·have gV:=AC hm he;refine B9 (A5 ?_);have gW:=Cj gV hf hQ;exact A5 (Br (AG (hd,()) gW (AQ.c rfl (AQ.c rfl (AQ.c rfl AQ.nil))) (sC sN)))
     ·rintro⟨hA,⟨⟩⟩ hg;refine CR (l':=[(4,rS ([]:Ah)),(5,rv (.pointer (some ⟨b3,0,none⟩))),(6,rS hA)]) (H':=[.blk b3 (Ab (Ay v i)) 78]) rfl rfl ?_;replace hg:HG v i hA=some r:=hg;unfold HG at hg;refine Bm (AN (Am (Ak (wv (Ad B5 rfl DX rfl rfl) (wv (A0 (i:=0) Ex rfl rfl rfl) (wv (B3 rfl rfl) (Ar (Ap (b:=decide (((Ay v i).fKind)=6)) rfl (λhp=>?_) (λhp=>?_)))))))))
      ·have gX:=AB hp hg;refine Ak (wm rfl ?_);obtain⟨gY,gZ⟩:=Av gX;refine wv (Do rfl rfl gY) ?_;obtain⟨ca,cb⟩:=Av gZ;refine wv (Do rfl rfl ca) (wa rfl (Ar (Ax (Af ?_))));obtain rfl:=Az cb;exact Aw (BS Rq (AJ rfl)) (sS sN) ⟨rfl,rfl⟩
      ·have cc:=AC hp hg;refine At (AN (Ak (wm rfl ?_)));obtain⟨cd,ce⟩:=Av cc;refine wv (Do rfl rfl cd) ?_;obtain⟨cf,cg⟩:=Av ce;refine wv (Do rfl rfl cf) (wa rfl (Ar (Ax ?_)));obtain rfl:=Az cg;exact Aw (BS Rq (AJ rfl)) (sS sN) ⟨rfl,rfl⟩
theorem Ov:∀F:Nat,(∀(v:(List Aa)) (i:Int) (r:Ah),GM F v i=some r→Fn Tryz.prog GE 79 [Bo 4 (List.map Ab v),rI .i64 i] [] (λR H=>R=rS r∧H=[]))
  | 0=>(λ_ _ _ h=>by simp[GM] at h)
  | nn+1=>(λv i r h=>Vo nn (GM nn) (Ov nn) v i r (by rw[GM] at h;exact h))
theorem S3 (F:Nat)(v:(List Aa))(i:Int)(r:Ah)(h:GM F v i=some r):Fn Tryz.prog GE 79 [Bo 4 (List.map Ab v),rI .i64 i] [] (λR H=>R=rS r∧H=[]):=(Ov F) v i r h
theorem Nx (F:Nat)(v:(List Aa))(r:Int)(h:Kt F v=some r):Fn Tryz.prog GE 78 [Bo 4 (List.map Ab v)] [] (λR H=>R=rI .i64 r∧H=[]):=by
 refine enter (n:=61) Tryz.func78 rfl Tryz.ntmps78 rfl (λw Z=>?_);refine Bb (l':=[(0,Bo 4 (List.map Ab v))]) (H':=[]) rfl rfl ?_;unfold Kt at h;refine Ak (wv (r:=rI .i64 0) (Ac rfl) (Ar (Am (Ak (wm rfl ?_)))));obtain⟨r1,e3,h2⟩:=AL h;refine Co Tryz.call111 (TG F v r1 e3) rfl (wv (BJ rfl) (Ar (Ap (b:=!r1) rfl (λc4=>?_) (λc4=>?_))))
 ·have h5:=AB c4 h2;refine Ak (wv (r:=rI .i64 1) (Ac rfl) (Ar (Ax (Af ?_))));obtain rfl:=Az h5;exact Aw (BS Tn (AJ rfl)) sN ⟨rfl,rfl⟩
 ·have h6:=AC c4 h2;refine At (AN (Am (Ak (wv (r:=rI .i64 0) (Ac rfl) (Ar (AO ?_))))));obtain⟨h1,h3,ht⟩:=AL h6;refine BA (S:=Nat×(Int)×(Unit)) (V:=(Unit)×(Unit)) 0 (λσ=>Cg (λσ=>E5 v σ) σ.1 σ.2.1=some h1) (λσ=>[(0,Bo 4 (List.map Ab v)),(3,rI .i64 σ.2.1)]) (λσ=>[]) (λσ=>σ.1) (F,0,()) h3 (AQ.c rfl (AQ.c rfl AQ.nil)) sN (λσ=>I1 F v =some r) (λσ=>[(0,Bo 4 (List.map Ab v))]) (λσ=>[]) ?_ ?_
  ·rintro⟨ge,hd,⟨⟩⟩ h4;refine Bb (l':=[(0,Bo 4 (List.map Ab v)),(3,rI .i64 hd)]) (H':=[]) rfl rfl ?_;obtain⟨h7,rfl,t46,hf,hk⟩:=CM h4;replace hf:E5 v hd=some t46:=hf;unfold E5 at hf;refine Am (Ak (wm rfl (wm rfl (wv (BT (ys:=v) (enc:=Ab) BN rfl) (wv (Cp rfl rfl) (Ar (Ap (b:=decide (hd<(v.length:Int))) rfl (λhl=>?_) (λhl=>?_))))))))
   ·have h8:=AB hl hf;refine At (AN (Am (AO ?_)));obtain⟨hm,hu⟩:=Av h8;refine AA [(0,Bo 4 (List.map Ab v)),(3,rI .i64 hd),(35,rB ((decide (((Ay v hd).fKind)=3))&&((decide (((Ay v hd).fInt)<(-1000000000000)))||(decide (1000000000000<((Ay v hd).fInt))))))] [] ?_ ?_
    ·refine Aj (wm rfl (wm rfl (wv (BY (enc:=Ab) (ys:=v) BN Cb rfl rfl hm) (wv (Ce B5 rfl DX rfl rfl) (wv (BQ Ex rfl rfl) (wv (B3 rfl rfl) (wm rfl (AH (decide (((Ay v hd).fKind)=3)) (λha=>?_) (λha=>?_)))))))))
     ·refine wo ha (wm rfl (wo ha (wm rfl (wo ha (wv (BY (enc:=Ab) (ys:=v) BN Cb rfl rfl hm) (wo ha (wv (Ce B5 rfl Cu rfl rfl) (wo ha (wv (BQ Dd rfl rfl) (wo ha (wv (Cp rfl rfl) (wo ha (wm rfl (AH (decide (((Ay v hd).fInt)<(-1000000000000))) (λhb=>?_) (λhb=>?_)))))))))))))))
      ·refine wf hb (wf hb (wf hb (wf hb (wf hb (wf hb (wo ha (wv (r:=rB true) (As (b:=decide (((Ay v hd).fInt)<(-1000000000000))) rfl hb rfl) (Gk rfl ha rfl (Al ?_)))))))));exact BO (And.intro ha hb)
      ·refine wo hb (wm rfl (wo hb (wm rfl (wo hb (wv (BY (enc:=Ab) (ys:=v) BN Cb rfl rfl hm) (wo hb (wv (Ce B5 rfl Cu rfl rfl) (wo hb (wv (BQ Dd rfl rfl) (wo hb (wv (Cl rfl rfl) (wo ha (D4 rfl hb rfl (Gk rfl ha rfl (Al ?_)))))))))))))));exact BO (And.intro ha hb)
     ·refine wf ha (wf ha (wf ha (wf ha (wf ha (wf ha (wf ha (wu (wu (wu (wu (wu (wu (wf ha (wv (r:=rB false) (A4 (b:=decide (((Ay v hd).fKind)=3)) rfl ha rfl) (Al ?_)))))))))))))));exact BO ha
    refine Ap (b:=((decide (((Ay v hd).fKind)=3))&&((decide (((Ay v hd).fInt)<(-1000000000000)))||(decide (1000000000000<((Ay v hd).fInt)))))) rfl (λhn=>?_) (λhn=>?_)
    ·have h9:=AB hn hu;refine Ak (wv (r:=rI .i64 2) (Ac rfl) (Ar (Ax (A3 (Af (Af (Bc ?_)))))));have hA:=B1 h9 hk ht;refine A3 (Af ?_);obtain rfl:=Az hA;exact Aw (BS Tn (AJ rfl)) sN ⟨rfl,rfl⟩
    ·have hB:=AC hn hu;refine At (AK (AN (Aj (wm rfl ?_))));obtain⟨hC,hD⟩:=Av hB;refine wv (Bi rfl rfl hC) (wa rfl (Al ?_));have hE:=Bk hD hk;exact Aq (AG (h7,hd+1,()) ⟨hE,AaX _⟩ (AQ.c rfl (AQ.c rfl AQ.nil)) sN)
   ·have hG:=AC hl hf;refine B9 (A5 ?_);have hH:=Cj hG hk ht;exact A5 (Br (AG ((),()) hH (AQ.c rfl AQ.nil) sN))
  ·rintro⟨⟨⟩,⟨⟩⟩ hi;refine CR (l':=[(0,Bo 4 (List.map Ab v))]) (H':=[]) rfl rfl ?_;replace hi:I1 F v =some r:=hi;unfold I1 at hi;refine Bm (AN (Am ?_));obtain⟨hI,hw⟩:=Av hi;refine AA [(0,Bo 4 (List.map Ab v)),(43,rB ((decide (200<(v.length:Int)))||(decide (8<(ov (CW F v 0))))))] [] ?_ ?_
   ·refine Aj (wm rfl (wv (BT (ys:=v) (enc:=Ab) BN rfl) (wv (Cl rfl rfl) (wm rfl (AH (decide (200<(v.length:Int))) (λhe=>?_) (λhe=>?_))))))
    ·refine wf he (wf he (wf he (wv (r:=rB true) (As (b:=decide (200<(v.length:Int))) rfl he rfl) (Al ?_))));exact BO he
    ·refine wo he (wm rfl (wo he (Co Tryz.call112 (TE F v 0 (ov (CW F v 0)) (Gr (C4 hI he))) rfl (wo he (wv (Cl rfl rfl) (D4 rfl he rfl (Al ?_)))))));exact BO he
   refine Ap (b:=((decide (200<(v.length:Int)))||(decide (8<(ov (CW F v 0)))))) rfl (λho=>?_) (λho=>?_)
   ·have hJ:=AB ho hw;refine Ak (wv (r:=rI .i64 3) (Ac rfl) (Ar (Ax (Af ?_))));obtain rfl:=Az hJ;exact Aw (BS Tn (AJ rfl)) sN ⟨rfl,rfl⟩
   ·have hK:=AC ho hw;refine At (AN (Am (Ak (wv (r:=rI .i64 0) (Ac rfl) (Ar (AO ?_))))));obtain⟨hL,hN,hx⟩:=AL hK;refine BA (S:=Nat×(Int)×(Unit)) (V:=(Unit)×(Unit)) 2 (λσ=>Cg (λσ=>E4 v σ) σ.1 σ.2.1=some hL) (λσ=>[(0,Bo 4 (List.map Ab v)),(4,rI .i64 σ.2.1)]) (λσ=>[]) (λσ=>σ.1) (F,0,()) hN (AQ.c rfl (AQ.c rfl AQ.nil)) sN (λσ=>I0 F v =some r) (λσ=>[(0,Bo 4 (List.map Ab v))]) (λσ=>[]) ?_ ?_
    ·rintro⟨gf,hg,⟨⟩⟩ hO;refine Bb (l':=[(0,Bo 4 (List.map Ab v)),(4,rI .i64 hg)]) (H':=[]) rfl rfl ?_;obtain⟨hP,rfl,hQ,hh,hp⟩:=CM hO;replace hh:E4 v hg=some hQ:=hh;unfold E4 at hh;refine Am (Ak (wm rfl (wm rfl (wv (BT (ys:=v) (enc:=Ab) BN rfl) (wv (Cp rfl rfl) (Ar (Ap (b:=decide (hg<(v.length:Int))) rfl (λhq=>?_) (λhq=>?_))))))))
     ·have hR:=AB hq hh;refine At (AN (Am (AO (Ak (wm rfl (wm rfl ?_))))));obtain⟨hS,hy⟩:=Av hR;refine wv (BY (enc:=Ab) (ys:=v) BN Cb rfl rfl hS) (wv (Ce B5 rfl CV rfl rfl) (wv (BQ Dn rfl rfl) (wv (Bd BP rfl) (wv (Cl rfl rfl) (Ar (Ap (b:=decide (200<(((Ay v hg).fStr).length:Int))) rfl (λhr=>?_) (λhr=>?_)))))))
      ·have hT:=AB hr hy;refine Ak (wv (r:=rI .i64 3) (Ac rfl) (Ar (Ax (A3 (Af (Af (Bc ?_)))))));have hU:=B1 hT hp hx;refine A3 (Af ?_);obtain rfl:=Az hU;exact Aw (BS Tn (AJ rfl)) sN ⟨rfl,rfl⟩
      ·have hV:=AC hr hy;refine At (AK (AN (Aj (wm rfl ?_))));obtain⟨hW,hX⟩:=Av hV;refine wv (Bi rfl rfl hW) (wa rfl (Al ?_));have hY:=Bk hX hp;exact Aq (AG (hP,hg+1,()) ⟨hY,AaX _⟩ (AQ.c rfl (AQ.c rfl AQ.nil)) sN)
     ·have hZ:=AC hq hh;refine B9 (A5 ?_);have ga:=Cj hZ hp hx;exact A5 (Br (AG ((),()) ga (AQ.c rfl AQ.nil) sN))
    ·rintro⟨⟨⟩,⟨⟩⟩ hj;refine CR (l':=[(0,Bo 4 (List.map Ab v))]) (H':=[]) rfl rfl ?_;replace hj:I0 F v =some r:=hj;unfold I0 at hj;refine Bm (AN (Am (Ak (wm rfl ?_))));obtain⟨hz,gb,h0⟩:=AL hj;refine Co Tq (S3 F v 0 hz gb) rfl (wv (Bd BP rfl) (wv (Cl rfl rfl) (Ar (Ap (b:=decide (4000<(hz.length:Int))) rfl (λhs=>?_) (λhs=>?_)))))
     ·have gc:=AB hs h0;refine Ak (wv (r:=rI .i64 3) (Ac rfl) (Ar (Ax (Af ?_))));obtain rfl:=Az gc;exact Aw (BS Tn (AJ rfl)) sN ⟨rfl,rfl⟩
     ·have gd:=AC hs h0;refine At (AN (Ak (wv (r:=rI .i64 0) (Ac rfl) (Ar (Ax ?_)))));obtain rfl:=Az gd;exact Aw (BS Tn (AJ rfl)) sN ⟨rfl,rfl⟩
theorem TH (F:Nat)(v:(List Aa))(r:Ah×Int)(h:KV F v=some r):Fn Tryz.prog GE 49 [Bo 4 (List.map Ab v)] [] (λR H=>R=C5 [rS r.1,rI .i64 r.2]∧H=[]):=by
 refine enter (n:=12) Tryz.func49 rfl Tryz.ntmps49 rfl (λw Z=>?_);refine Bb (l':=[(0,Bo 4 (List.map Ab v))]) (H':=[]) rfl rfl ?_;unfold KV at h;refine Ak (wv (r:=rS ([]:Ah)) (Ac rfl) (wv (r:=rI .i64 0) (Ac rfl) (By (wm rfl ?_))));obtain⟨r1,e3,h2⟩:=AL h;refine Co Tryz.call78 (Nx F v r1 e3) rfl (wa rfl (Ar (Am (Ak (wm rfl (wv (CF rfl rfl) (Ar (Ap (b:=!decide (r1=0)) rfl (λc4=>?_) (λc4=>?_)))))))))
 ·have h5:=AB c4 h2;refine Ak (wm rfl (wv (r:=rS ([]:Ah)) (Ac rfl) (wa rfl (Ar (Ax (Af ?_))))));obtain rfl:=Az h5;exact Aw (Dg Tryz.results49 (AJ rfl) (AJ rfl)) sN ⟨rfl,rfl⟩
 ·have h6:=AC c4 h2;refine At (AN (Ak (wm rfl ?_)));obtain⟨r7,e9,h8⟩:=AL h6;refine Co Tq (S3 F v 0 r7 e9) rfl (wa rfl (wv (r:=rI .i64 0) (Ac rfl) (Ar (Ax ?_))));obtain rfl:=Az h8;exact Aw (Dg Tryz.results49 (AJ rfl) (AJ rfl)) sN ⟨rfl,rfl⟩
end Go.Proofs.YtkoiaconljdbeaaGreatDoor.Q
namespace Go.Proofs.YtkoiaconljdbeaaGreatDoor
open Go
set_option linter.unusedVariables false
structure AE where
 fPairs:Bool
 fLeft:Int
 fKey:Bool
 fLast:Ah
 fStarted:Bool
 deriving DecidableEq,Inhabited
structure AR where
 fDepth:Int
 fBytes:Int
 fOutside:Bool
 fLong:Bool
 deriving DecidableEq,Inhabited
def BG (n:Int):Option (Bool):=
 some ((decide ((-1000000000000)≤n))&&(decide (n≤1000000000000)))
def Io (s:Ah)(ha:Int):Option (Stp (Int) (Out (Bool) (Unit))):=
 Bj (decide (ha<(s.length:Int))) (AX (CH ha (s.length:Int))<|Bj (((decide ((AT s ha)<32))||(decide (126<(AT s ha))))) (some (.out (.ret false))) (AX (Bw .i64 (ha+1))<|some (.next (ha+1)))) (some (.out (.go ())))
def In :Option (Bool):=
 some true
def KD (F:Nat)(s:Ah):Option (Bool):=
 Bx (Cg (λσ=>Io s σ) F 0) (BL λν=>In )
def JA (s:Ah):Option (Int):=
 AX (Bw .i64 ((s.length:Int)+2))<|AX (Bw .i64 (((s.length:Int)+2)+(Lib.countByte s 34:Int)))<|AX (Bw .i64 ((((s.length:Int)+2)+(Lib.countByte s 34:Int))+(Lib.countByte s 92:Int)))<|some ((((s.length:Int)+2)+(Lib.countByte s 34:Int))+(Lib.countByte s 92:Int))
def Nd (F:Nat)(c:Aa):Option (Bool):=
 Bj (decide (c.fKind=1)) (some ((decide (c.fInt=0))&&((decide (c.fStr=([]:Ah)))&&(decide (c.fN=0))))) (Bj (decide (c.fKind=2)) (some (bif decide (c.fInt=0) then((decide (c.fStr=([]:Ah)))&&(decide (c.fN=0))) else((decide (c.fInt=1))&&((decide (c.fStr=([]:Ah)))&&(decide (c.fN=0)))))) (Bj (decide (c.fKind=3)) (some ((decide (c.fStr=([]:Ah)))&&(decide (c.fN=0)))) (Bj (decide (c.fKind=4)) (AX (imp (decide (c.fInt=0)) (imp (decide (c.fN=0)) ((KD F c.fStr).isSome)))<|some ((decide (c.fInt=0))&&((decide (c.fN=0))&&(ov (KD F c.fStr))))) (Bj (decide (c.fKind=5)) (some ((decide (c.fInt=0))&&((decide (c.fStr=([]:Ah)))&&(decide (0≤c.fN))))) (Bj (decide (c.fKind=6)) (some ((decide (c.fInt=0))&&((decide (c.fStr=([]:Ah)))&&(decide (0≤c.fN))))) (some false))))))
def PP (c:Aa):Option (Int):=
 Bj (decide (c.fKind=1)) (some 4) (Bj (decide (c.fKind=2)) (some (IntKind.wrap .i64 (5-c.fInt))) (Bj (decide (c.fKind=3)) (AX (Bw .i64 c.fInt)<|some ((Lib.itoa c.fInt).length:Int)) (Bj (decide (c.fKind=4)) (Bx (JA c.fStr) λha=>some ha) (some (IntKind.wrap .i64 (2+(max 0 (IntKind.wrap .i64 (c.fN-1)))))))))
def Ed (ha:(List AE)):Option (Stp ((List AE)) (Out ((List AE)) ((List AE)))):=
 Bj (decide (0<(ha.length:Int))) (AX (Bw .i64 ((ha.length:Int)-1))<|AX (CH ((ha.length:Int)-1) (ha.length:Int))<|AX (Bw .i64 (((Ay ha ((ha.length:Int)-1)).fLeft)-1))<|Lx (List.set ha (Int.toNat ((ha.length:Int)-1)) (AE.mk ((Ay ha ((ha.length:Int)-1)).fPairs) (((Ay ha ((ha.length:Int)-1)).fLeft)-1) ((Ay ha ((ha.length:Int)-1)).fKey) ((Ay ha ((ha.length:Int)-1)).fLast) ((Ay ha ((ha.length:Int)-1)).fStarted))) λhb=>Bj (decide (0<((Ay hb ((ha.length:Int)-1)).fLeft))) (Lx (List.set hb (Int.toNat ((ha.length:Int)-1)) (AE.mk ((Ay hb ((ha.length:Int)-1)).fPairs) ((Ay hb ((ha.length:Int)-1)).fLeft) ((Ay hb ((ha.length:Int)-1)).fPairs) ((Ay hb ((ha.length:Int)-1)).fLast) ((Ay hb ((ha.length:Int)-1)).fStarted))) λhd=>some (.out (.ret hd))) (AX (Bw .i64 ((hb.length:Int)-1))<|AX (Hp ((hb.length:Int)-1) (hb.length:Int))<|some (.next (List.take (Int.toNat ((hb.length:Int)-1)) hb)))) (some (.out (.go ha)))
def EQ (ha:(List AE)):Option ((List AE)):=
 some ha
def KI (F:Nat)(stack:(List AE)):Option ((List AE)):=
 Bx (Cg (λσ=>Ed σ) F stack) (BL λν=>EQ ν)
def EE (ha:Int)(hb:(List AE))(hd:AR):Option (Stp ((List AE)×Int×AR) (Out (Int×AR×Bool) (AR))):=
 AX (Bw .i64 (ha+1))<|some (.next (hb,ha+1,hd))
def Ec (F:Nat)(v:(List Aa))(ha:(List AE))(hb:Int)(hd:AR):Option (Stp ((List AE)×Int×AR) (Out (Int×AR×Bool) (AR))):=
 Bj (decide (hb<(v.length:Int))) (AX (CH hb (v.length:Int))<|Bx (Nd F (Ay v hb)) λhj=>Bj (!hj) (some (.out (.ret (0,hd,false)))) (AX (imp (decide (0<(ha.length:Int))) (Bw .i64 ((ha.length:Int)-1)))<|AX (imp (decide (0<(ha.length:Int))) (CH ((ha.length:Int)-1) (ha.length:Int)))<|Bj (((decide (0<(ha.length:Int)))&&((Ay ha ((ha.length:Int)-1)).fKey))) (AX (Bw .i64 ((ha.length:Int)-1))<|AX (CH ((ha.length:Int)-1) (ha.length:Int))<|Bj (((!decide (((Ay v hb).fKind)=4))||(((Ay ha ((ha.length:Int)-1)).fStarted)&&(BI ((Ay v hb).fStr) ((Ay ha ((ha.length:Int)-1)).fLast)||decide (((Ay v hb).fStr)=((Ay ha ((ha.length:Int)-1)).fLast)))))) (some (.out (.ret (0,hd,false)))) (Lx (List.set ha (Int.toNat ((ha.length:Int)-1)) (AE.mk ((Ay ha ((ha.length:Int)-1)).fPairs) ((Ay ha ((ha.length:Int)-1)).fLeft) ((Ay ha ((ha.length:Int)-1)).fKey) ((Ay v hb).fStr) ((Ay ha ((ha.length:Int)-1)).fStarted))) λhe=>Lx (List.set he (Int.toNat ((ha.length:Int)-1)) (AE.mk ((Ay he ((ha.length:Int)-1)).fPairs) ((Ay he ((ha.length:Int)-1)).fLeft) ((Ay he ((ha.length:Int)-1)).fKey) ((Ay he ((ha.length:Int)-1)).fLast) true)) λhf=>Lx (List.set hf (Int.toNat ((ha.length:Int)-1)) (AE.mk ((Ay hf ((ha.length:Int)-1)).fPairs) ((Ay hf ((ha.length:Int)-1)).fLeft) false ((Ay hf ((ha.length:Int)-1)).fLast) ((Ay hf ((ha.length:Int)-1)).fStarted))) λhk=>Bx (JA ((Ay v hb).fStr)) λhh=>AX (Bw .i64 (hh+1))<|EE hb hk (AR.mk hd.fDepth (IntKind.wrap .i64 (hd.fBytes+(hh+1))) hd.fOutside (hd.fLong||(decide (200<(((Ay v hb).fStr).length:Int))))))) (AX (Bw .i64 ((ha.length:Int)+1))<|Bx (PP (Ay v hb)) λhg=>AX (imp (!hd.fOutside) (imp (decide (((Ay v hb).fKind)=3)) ((BG ((Ay v hb).fInt)).isSome)))<|Bj (decide (0<((Ay v hb).fN))) (Bj (decide ((v.length:Int)<((Ay v hb).fN))) (some (.out (.ret (0,(AR.mk (max hd.fDepth ((ha.length:Int)+1)) (IntKind.wrap .i64 (hd.fBytes+hg)) (hd.fOutside||((decide (((Ay v hb).fKind)=3))&&(!(ov (BG ((Ay v hb).fInt)))))) (hd.fLong||(decide (200<(((Ay v hb).fStr).length:Int))))),false)))) (AX (DC 48 (ha.length+([(AE.mk (decide (((Ay v hb).fKind)=6)) ((Ay v hb).fN) (decide (((Ay v hb).fKind)=6)) ([]:Ah) false)]:List AE).length))<|EE hb (ha++([(AE.mk (decide (((Ay v hb).fKind)=6)) ((Ay v hb).fN) (decide (((Ay v hb).fKind)=6)) ([]:Ah) false)]:List AE)) (AR.mk (max hd.fDepth ((ha.length:Int)+1)) (IntKind.wrap .i64 (hd.fBytes+hg)) (hd.fOutside||((decide (((Ay v hb).fKind)=3))&&(!(ov (BG ((Ay v hb).fInt)))))) (hd.fLong||(decide (200<(((Ay v hb).fStr).length:Int))))))) (Bx (KI F ha) λhi=>Bj (decide ((hi.length:Int)=0)) (AX (Bw .i64 (hb+1))<|some (.out (.ret (hb+1,(AR.mk (max hd.fDepth ((ha.length:Int)+1)) (IntKind.wrap .i64 (hd.fBytes+hg)) (hd.fOutside||((decide (((Ay v hb).fKind)=3))&&(!(ov (BG ((Ay v hb).fInt)))))) (hd.fLong||(decide (200<(((Ay v hb).fStr).length:Int))))),true)))) (EE hb hi (AR.mk (max hd.fDepth ((ha.length:Int)+1)) (IntKind.wrap .i64 (hd.fBytes+hg)) (hd.fOutside||((decide (((Ay v hb).fKind)=3))&&(!(ov (BG ((Ay v hb).fInt)))))) (hd.fLong||(decide (200<(((Ay v hb).fStr).length:Int)))))))))) (some (.out (.go hd)))
def KF (ha:AR):Option (Int×AR×Bool):=
 some (0,ha,false)
def IV (F:Nat)(v:(List Aa)):Option (Int×AR×Bool):=
 Bx (Cg (λσ=>Ec F v σ.1 σ.2.1 σ.2.2) F (([]:List AE),0,(AR.mk 0 0 false false))) (BL λν=>KF ν)
def Kl (F:Nat)(v:(List Aa)):Option (Int):=
 Bx (IV F v) λr1=>Bj (((!r1.2.2)||(!decide (r1.1=(v.length:Int))))) (some 1) (Bj (r1.2.1.fOutside) (some 2) (Bj ((r1.2.1.fLong||((decide (200<(v.length:Int)))||((decide (8<r1.2.1.fDepth))||(decide (4000<r1.2.1.fBytes)))))) (some 3) (some 0)))
def KJ (F:Nat)(v:(List Aa)):Option ((List Aa)×Int):=
 Bx (Kl F v) λr1=>Bj (!decide (r1=0)) (some (([]:List Aa),r1)) (some (v,0))
end Go.Proofs.YtkoiaconljdbeaaGreatDoor
namespace Go.Proofs.YtkoiaconljdbeaaGreatDoor.Q
open Go Go.RowKit
set_option linter.unusedVariables false
set_option linter.unusedSimpArgs false
set_option maxRecDepth 100000
set_option maxHeartbeats 4000000
@[reducible] def AD (x:AE):List Rp:=[rB x.fPairs,rI .i64 x.fLeft,rB x.fKey,rS x.fLast,rB x.fStarted]
theorem IY (x:AE):(AD x).length=5:=rfl
theorem M1 (x:AE):(AD x).all (·.one)=true:=rfl
@[reducible] def AZ (x:AR):List Rp:=[rI .i64 x.fDepth,rI .i64 x.fBytes,rB x.fOutside,rB x.fLong]
theorem XY:∃inf,Tryz.prog.info? 161=some inf∧inf.zero=some (.agg #[(.bool false),(.int .i64 0),(.bool false),(.string ⟨#[]⟩),(.bool false)])∧inf.size=5∧inf.bytes=48:=by
  have key:(Tryz.prog.info? 161).map (λi=>(i.zero,i.size,i.bytes))=some (some (.agg #[(.bool false),(.int .i64 0),(.bool false),(.string ⟨#[]⟩),(.bool false)]),5,48):=by kernel_rfl
  obtain⟨inf,h1,h2⟩:=Option.map_eq_some_iff.1 key;simp only[Prod.mk.injEq] at h2;exact⟨inf,h1,h2.1,h2.2.1,h2.2.2⟩
theorem WN (parts:List (Nat×Value)):Tryz.prog.built 161 parts=Instr.fill (λi=>(#[(0,1),(1,1),(2,1),(3,1),(4,1)]:Array (Nat×Nat))[i]?) #[(.bool false),(.int .i64 0),(.bool false),(.string ⟨#[]⟩),(.bool false)] parts:=by kernel_rfl
theorem LG {n:Nat}{c:Cx}{l:Fr}{H:List Ent}{d:Option Nat}{ty:TypeId}{pos:String}{af:Array Edge}{g:Option (Nat×Bool)}{x0:Operand}{r0:Rp}(h0:ev l x0=some r0)(u0:r0.one=true){x1:Operand}{r1:Rp}(h1:ev l x1=some r1)(u1:r1.one=true){x2:Operand}{r2:Rp}(h2:ev l x2=some r2)(u2:r2.one=true):Bv Tryz.prog n c l H { dst:=d,op:=.build 161 #[(0,x0),(1,x1),(2,x2)],type:=ty,pos:=pos,after:=af,guard:=g } (Bz [r0,r1,r2,rS ([]:Ah),rB false]):=λa w Z ha _=>by
  have p0:=ha.ev h0;have c0:=BZ (r0.hone u0 Z _ p0);have p1:=ha.ev h1;have c1:=BZ (r1.hone u1 Z _ p1);have p2:=ha.ev h2;have c2:=BZ (r2.hone u2 Z _ p2);have hb:Tryz.prog.built 161 [(0,a.eval x0),(1,a.eval x1),(2,a.eval x2)]=some #[a.eval x0,a.eval x1,a.eval x2,(.string ⟨#[]⟩),(.bool false)]:=by
    rw[WN];generalize a.eval x0=v0 at *;generalize a.eval x1=v1 at *;generalize a.eval x2=v2 at *;simp[Instr.fill,c0,c1,c2]
  refine⟨.agg #[a.eval x0,a.eval x1,a.eval x2,(.string ⟨#[]⟩),(.bool false)],⟨[a.eval x0,a.eval x1,a.eval x2,(.string ⟨#[]⟩),(.bool false)],rfl,p0,p1,p2,rfl,rfl,trivial⟩,?_⟩;have:=run_build w 161 #[(0,a.eval x0),(1,a.eval x1),(2,a.eval x2)] _ (by simpa using hb);simp[execOp,this]
theorem VU (n:Int)(r:Bool)(h:BG n=some r):Fn Tryz.prog GE 82 [rI .i64 n] [] (λR H=>R=rB r∧H=[]):=by
 refine enter (n:=9) Tryz.func82 rfl Tryz.ntmps82 rfl (λw Z=>?_);refine Bb (l':=[(0,rI .i64 n)]) (H':=[]) rfl rfl ?_;unfold BG at h;refine Ak (wv (r:=rB false) (Ac rfl) (Ar (AA [(2,rB ((decide ((-1000000000000)≤n))&&(decide (n≤1000000000000))))] [] ?_ ?_)))
 ·refine Aj (wm rfl (wv (II rfl rfl) (wm rfl (AH (decide ((-1000000000000)≤n)) (λc1=>?_) (λc1=>?_)))))
  ·refine wo c1 (wm rfl (wo c1 (wv (II rfl rfl) (Gk rfl c1 rfl (wa rfl (Al ?_))))));exact BO c1
  ·refine wf c1 (wf c1 (wv (r:=rB false) (A4 (b:=decide ((-1000000000000)≤n)) rfl c1 rfl) (wa rfl (Al ?_))));exact BO c1
 refine Ax ?_;obtain rfl:=Az h;exact Aw (BS Tryz.results82 (AJ rfl)) sN ⟨rfl,rfl⟩
theorem Xp (F:Nat)(s:Ah)(r:Bool)(h:KD F s=some r):Fn Tryz.prog GE 149 [rS s] [] (λR H=>R=rB r∧H=[]):=by
 refine enter (n:=20) Tryz.func149 rfl Tryz.ntmps149 rfl (λw Z=>?_);refine Bb (l':=[(0,rS s)]) (H':=[]) rfl rfl ?_;unfold KD at h;refine Ak (wv (r:=rB false) (Ac rfl) (Ar (Am (Ak (wm rfl (wv (Bd BP rfl) (wv (r:=rI .i64 0) (Au rfl) (Ar (AO ?_)))))))));obtain⟨hl,hm,hi⟩:=AL h;refine BA (S:=Nat×(Int)×(Unit)) (V:=(Unit)×(Unit)) 0 (λσ=>Cg (λσ=>Io s σ) σ.1 σ.2.1=some hl) (λσ=>[(0,rS s),(5,rI .i64 (s.length:Int)),(6,rI .i64 σ.2.1)]) (λσ=>[]) (λσ=>σ.1) (F,0,()) hm (AQ.c rfl (AQ.c rfl (AQ.c rfl AQ.nil))) sN (λσ=>In =some r) (λσ=>[]) (λσ=>[]) ?_ ?_
 ·rintro⟨hz,hb,⟨⟩⟩ hn;refine Bb (l':=[(0,rS s),(5,rI .i64 (s.length:Int)),(6,rI .i64 hb)]) (H':=[]) rfl rfl ?_;obtain⟨ho,rfl,t37,hd,hf⟩:=CM hn;replace hd:Io s hb=some t37:=hd;unfold Io at hd;refine Ak (wv (Cp rfl rfl) (Ar (Am (Ap (b:=decide (hb<(s.length:Int))) rfl (λhg=>?_) (λhg=>?_)))))
  ·have hp:=AB hg hd;refine At (AN (Am (AO (Ak (wm rfl (wa rfl (Ar ?_)))))));obtain⟨hj,hk⟩:=Av hp;refine AA [(0,rS s),(5,rI .i64 (s.length:Int)),(6,rI .i64 hb),(18,rB ((decide ((AT s hb)<32))||(decide (126<(AT s hb)))))] [] ?_ ?_
   ·refine Aj (wm rfl (wm rfl (wv (AV BP rfl rfl hj) (wv (Cp rfl rfl) (wm rfl (AH (decide ((AT s hb)<32)) (λha=>?_) (λha=>?_)))))))
    ·refine wf ha (wf ha (wf ha (wf ha (wv (r:=rB true) (As (b:=decide ((AT s hb)<32)) rfl ha rfl) (Al ?_)))));exact BO ha
    ·refine wo ha (wm rfl (wo ha (wm rfl (wo ha (wv (AV BP rfl rfl hj) (wo ha (wv (Cl rfl rfl) (D4 rfl ha rfl (Al ?_)))))))));exact BO ha
   refine Ap (b:=((decide ((AT s hb)<32))||(decide (126<(AT s hb))))) rfl (λhh=>?_) (λhh=>?_)
   ·have hq:=AB hh hk;refine Ak (wv (r:=rB false) (Ac rfl) (Ar (Ax (A3 (Af (Af (Bc ?_)))))));have hr:=B1 hq hf hi;refine A3 (Af ?_);obtain rfl:=Az hr;exact Aw (BS Tryz.results149 (AJ rfl)) sN ⟨rfl,rfl⟩
   ·have hs:=AC hh hk;refine At (AK (AN (Aj ?_)));obtain⟨ht,hu⟩:=Av hs;refine wv (Bi rfl rfl ht) (wm rfl (Al ?_));have hw:=Bk hu hf;exact Aq (AG (ho,hb+1,()) ⟨hw,AaX _⟩ (AQ.c rfl (AQ.c rfl (AQ.c rfl AQ.nil))) sN)
  ·have hx:=AC hg hd;refine B9 (A5 ?_);have hy:=Cj hx hf hi;exact A5 (Br (AG ((),()) hy AQ.nil sN))
 ·rintro⟨⟨⟩,⟨⟩⟩ he;refine CR (l':=[]) (H':=[]) rfl rfl ?_;replace he:In =some r:=he;unfold In at he;refine Bm (AN (Ak (wv (r:=rB true) (Ac rfl) (Ar (Ax ?_)))));obtain rfl:=Az he;exact Aw (BS Tryz.results149 (AJ rfl)) sN ⟨rfl,rfl⟩
theorem Oj (s:Ah)(r:Int)(h:JA s=some r):Fn Tryz.prog GE 132 [rS s] [] (λR H=>R=rI .i64 r∧H=[]):=by
 refine enter (n:=12) Tryz.func132 rfl Tryz.ntmps132 rfl (λw Z=>?_);refine Bb (l':=[(0,rS s)]) (H':=[]) rfl rfl ?_;unfold JA at h;refine Ak (wv (r:=rI .i64 0) (Ac rfl) (By (wm rfl (wv (Bd BP rfl) ?_))));obtain⟨g1,h2⟩:=Av h;refine wv (Bi rfl rfl g1) (wm rfl (GB (rs:=[rS s,rS ([34]:Ah)]) (r:=rI .i64 (Lib.countByte s 34:Int)) Tryz.call150 rfl (Te s 34) rfl rfl ?_));obtain⟨g3,h4⟩:=Av h2;refine wv (Bi rfl rfl g3) (wm rfl (GB (rs:=[rS s,rS ([92]:Ah)]) (r:=rI .i64 (Lib.countByte s 92:Int)) Tryz.call150 rfl (Te s 92) rfl rfl ?_));obtain⟨g5,h6⟩:=Av h4;refine wv (Bi rfl rfl g5) (wa rfl (Ar (Ax ?_)));obtain rfl:=Az h6;exact Aw (BS Tryz.results132 (AJ rfl)) sN ⟨rfl,rfl⟩
theorem UQ (F:Nat)(c:Aa)(r:Bool)(h:Nd F c=some r):Fn Tryz.prog GE 131 [Bz (Ab c)] [] (λR H=>R=rB r∧H=[]):=by
 refine enter (n:=81) Tryz.func131 rfl Tryz.ntmps131 rfl (λw Z=>?_);refine Bb (l':=[(0,Bz (Ab c))]) (H':=[]) rfl rfl ?_;unfold Nd at h;refine Ak (C1 rfl rfl (λb1=>?_));refine wv (r:=rB false) (Ac rfl) (Ar (Am (Ak (wv (Ad B5 rfl DX rfl rfl) (wv (A0 (i:=0) Ex rfl rfl rfl) (Ar (AO (Ak (wv (B3 rfl rfl) (wa rfl (Ar (Ap (b:=decide (c.fKind=1)) rfl (λc2=>?_) (λc2=>?_)))))))))))))
 ·have h3:=AB c2 h;refine AA [(2,rB ((decide (c.fInt=0))&&((decide (c.fStr=([]:Ah)))&&(decide (c.fN=0)))))] [] ?_ ?_
  ·refine Aj (wv (Ad B5 rfl Cu rfl rfl) (wv (A0 (i:=0) Dd rfl rfl rfl) (wv (B3 rfl rfl) (wm rfl (AH (decide (c.fInt=0)) (λc4=>?_) (λc4=>?_))))))
   ·refine wo c4 (wv (Ad B5 rfl CV rfl rfl) (wo c4 (wv (A0 (i:=0) Dn rfl rfl rfl) (wo c4 (wv (G0 rfl rfl) (Gk rfl c4 rfl (wm rfl (AH (decide (c.fStr=([]:Ah))) (λc5=>?_) (λc5=>?_)))))))))
    ·refine wo c5 (wv (Ad B5 rfl Cu rfl rfl) (wo c5 (wv (A0 (i:=0) Dd rfl rfl rfl) (wo c5 (wv (B3 rfl rfl) (Gk rfl c5 rfl (wa rfl (Al ?_))))))));exact BO (And.intro c4 c5)
    ·refine wf c5 (wf c5 (wf c5 (wv (r:=rB false) (A4 (b:=decide (c.fStr=([]:Ah))) rfl c5 rfl) (wa rfl (Al ?_)))));exact BO (And.intro c4 c5)
   ·refine wf c4 (wf c4 (wf c4 (wv (r:=rB false) (A4 (b:=decide (c.fInt=0)) rfl c4 rfl) (wm rfl (An (b:=false) rfl rfl rfl rfl (An (b:=false) rfl rfl rfl rfl (An (b:=false) rfl rfl rfl rfl (wv (r:=rB false) (A4 (b:=false) rfl rfl rfl) (wa rfl (Al ?_))))))))));exact BO c4
  refine Ax (A3 (Af ?_));obtain rfl:=Az h3;exact Aw (BS MW (AJ rfl)) sN ⟨rfl,rfl⟩
 ·have h6:=AC c2 h;refine Ak (wv (B3 rfl rfl) (wa rfl (Ar (Ap (b:=decide (c.fKind=2)) rfl (λc7=>?_) (λc7=>?_)))))
  ·have h8:=AB c7 h6;refine AA [(2,rB (bif decide (c.fInt=0) then((decide (c.fStr=([]:Ah)))&&(decide (c.fN=0))) else((decide (c.fInt=1))&&((decide (c.fStr=([]:Ah)))&&(decide (c.fN=0))))))] [] ?_ ?_
   ·refine Aj (wv (Ad B5 rfl Cu rfl rfl) (wv (A0 (i:=0) Dd rfl rfl rfl) (wv (B3 rfl rfl) (wm rfl (AH (decide (c.fInt=0)) (λc9=>?_) (λc9=>?_))))))
    ·refine wf c9 (wf c9 (wf c9 (wv (r:=rB true) (As (b:=decide (c.fInt=0)) rfl c9 rfl) (wm rfl (AW (b:=true) rfl rfl rfl (wv (Ad B5 rfl CV rfl rfl) (AW (b:=true) rfl rfl rfl (wv (A0 (i:=0) Dn rfl rfl rfl) (AW (b:=true) rfl rfl rfl (wv (G0 rfl rfl) (wv (r:=rB (decide (c.fStr=([]:Ah)))) (As (b:=true) rfl rfl rfl) (wm rfl (AH (decide (c.fStr=([]:Ah))) (λhg=>?_) (λhg=>?_))))))))))))))
     ·refine wo hg (wv (Ad B5 rfl Cu rfl rfl) (wo hg (wv (A0 (i:=0) Dd rfl rfl rfl) (wo hg (wv (B3 rfl rfl) (Gk rfl hg rfl (wa rfl (Al ?_))))))));exact BO (And.intro c9 hg)
     ·refine wf hg (wf hg (wf hg (wv (r:=rB false) (A4 (b:=decide (c.fStr=([]:Ah))) rfl hg rfl) (wa rfl (Al ?_)))));exact BO (And.intro c9 hg)
    ·refine wo c9 (wv (Ad B5 rfl Cu rfl rfl) (wo c9 (wv (A0 (i:=0) Dd rfl rfl rfl) (wo c9 (wv (B3 rfl rfl) (D4 rfl c9 rfl (wm rfl (AH (decide (c.fInt=1)) (λhb=>?_) (λhb=>?_)))))))))
     ·refine wo hb (wv (Ad B5 rfl CV rfl rfl) (wo hb (wv (A0 (i:=0) Dn rfl rfl rfl) (wo hb (wv (G0 rfl rfl) (Gk rfl hb rfl (wm rfl (AH (decide (c.fStr=([]:Ah))) (λhh=>?_) (λhh=>?_)))))))))
      ·refine wo hh (wv (Ad B5 rfl Cu rfl rfl) (wo hh (wv (A0 (i:=0) Dd rfl rfl rfl) (wo hh (wv (B3 rfl rfl) (Gk rfl hh rfl (wa rfl (Al ?_))))))));exact BO (And.intro c9 (And.intro hb hh))
      ·refine wf hh (wf hh (wf hh (wv (r:=rB false) (A4 (b:=decide (c.fStr=([]:Ah))) rfl hh rfl) (wa rfl (Al ?_)))));exact BO (And.intro c9 (And.intro hb hh))
     ·refine wf hb (wf hb (wf hb (wv (r:=rB false) (A4 (b:=decide (c.fInt=1)) rfl hb rfl) (wm rfl (An (b:=false) rfl rfl rfl rfl (An (b:=false) rfl rfl rfl rfl (An (b:=false) rfl rfl rfl rfl (wv (r:=rB false) (A4 (b:=false) rfl rfl rfl) (wa rfl (Al ?_))))))))));exact BO (And.intro c9 hb)
   refine Ax (A3 (Af ?_));obtain rfl:=Az h8;exact Aw (BS MW (AJ rfl)) sN ⟨rfl,rfl⟩
  ·have hp:=AC c7 h6;refine Ak (wv (B3 rfl rfl) (wa rfl (Ar (Ap (b:=decide (c.fKind=3)) rfl (λhm=>?_) (λhm=>?_)))))
   ·have ht:=AB hm hp;refine AA [(2,rB ((decide (c.fStr=([]:Ah)))&&(decide (c.fN=0))))] [] ?_ ?_
    ·refine Aj (wv (Ad B5 rfl CV rfl rfl) (wv (A0 (i:=0) Dn rfl rfl rfl) (wv (G0 rfl rfl) (wm rfl (AH (decide (c.fStr=([]:Ah))) (λhi=>?_) (λhi=>?_))))))
     ·refine wo hi (wv (Ad B5 rfl Cu rfl rfl) (wo hi (wv (A0 (i:=0) Dd rfl rfl rfl) (wo hi (wv (B3 rfl rfl) (Gk rfl hi rfl (wa rfl (Al ?_))))))));exact BO hi
     ·refine wf hi (wf hi (wf hi (wv (r:=rB false) (A4 (b:=decide (c.fStr=([]:Ah))) rfl hi rfl) (wa rfl (Al ?_)))));exact BO hi
    refine Ax (A3 (Af ?_));obtain rfl:=Az ht;exact Aw (BS MW (AJ rfl)) sN ⟨rfl,rfl⟩
   ·have hq:=AC hm hp;refine Ak (wv (B3 rfl rfl) (wa rfl (Ar (Ap (b:=decide (c.fKind=4)) rfl (λhn=>?_) (λhn=>?_)))))
    ·have hu:=AB hn hq;obtain⟨hw,hx⟩:=Av hu;refine AA [(2,rB ((decide (c.fInt=0))&&((decide (c.fN=0))&&(ov (KD F c.fStr)))))] [] ?_ ?_
     ·refine Aj (wv (Ad B5 rfl Cu rfl rfl) (wv (A0 (i:=0) Dd rfl rfl rfl) (wv (B3 rfl rfl) (wm rfl (AH (decide (c.fInt=0)) (λha=>?_) (λha=>?_))))))
      ·refine wo ha (wv (Ad B5 rfl Cu rfl rfl) (wo ha (wv (A0 (i:=0) Dd rfl rfl rfl) (wo ha (wv (B3 rfl rfl) (Gk rfl ha rfl (wm rfl (AH (decide (c.fN=0)) (λhd=>?_) (λhd=>?_)))))))))
       ·refine wo hd (wv (Ad B5 rfl CV rfl rfl) (wo hd (wv (A0 (i:=0) Dn rfl rfl rfl) (wo hd (Co Tryz.call149 (Xp F c.fStr (ov (KD F c.fStr)) (Gr (C0 (C0 hw ha) hd))) rfl (Gk rfl hd rfl (wa rfl (Al ?_))))))));exact BO (And.intro ha hd)
       ·refine wf hd (wf hd (wf hd (wv (r:=rB false) (A4 (b:=decide (c.fN=0)) rfl hd rfl) (wa rfl (Al ?_)))));exact BO (And.intro ha hd)
      ·refine wf ha (wf ha (wf ha (wv (r:=rB false) (A4 (b:=decide (c.fInt=0)) rfl ha rfl) (wm rfl (An (b:=false) rfl rfl rfl rfl (An (b:=false) rfl rfl rfl rfl (An (b:=false) rfl rfl rfl rfl (wv (r:=rB false) (A4 (b:=false) rfl rfl rfl) (wa rfl (Al ?_))))))))));exact BO ha
     refine Ax (A3 (Af ?_));obtain rfl:=Az hx;exact Aw (BS MW (AJ rfl)) sN ⟨rfl,rfl⟩
    ·have hr:=AC hn hq;refine Am (Ak (wv (B3 rfl rfl) (wa rfl (Ar (Ap (b:=decide (c.fKind=5)) rfl (λhl=>?_) (λhl=>?_))))))
     ·have hy:=AB hl hr;refine At (AN (EX rfl hl (AA [(2,rB ((decide (c.fInt=0))&&((decide (c.fStr=([]:Ah)))&&(decide (0≤c.fN)))))] [] ?_ ?_)))
      ·refine Aj (wv (Ad B5 rfl Cu rfl rfl) (wv (A0 (i:=0) Dd rfl rfl rfl) (wv (B3 rfl rfl) (wm rfl (AH (decide (c.fInt=0)) (λhe=>?_) (λhe=>?_))))))
       ·refine wo he (wv (Ad B5 rfl CV rfl rfl) (wo he (wv (A0 (i:=0) Dn rfl rfl rfl) (wo he (wv (G0 rfl rfl) (Gk rfl he rfl (wm rfl (AH (decide (c.fStr=([]:Ah))) (λhj=>?_) (λhj=>?_)))))))))
        ·refine wo hj (wv (Ad B5 rfl Cu rfl rfl) (wo hj (wv (A0 (i:=0) Dd rfl rfl rfl) (wo hj (wv (Gs rfl rfl) (Gk rfl hj rfl (wa rfl (Al ?_))))))));exact BO (And.intro he hj)
        ·refine wf hj (wf hj (wf hj (wv (r:=rB false) (A4 (b:=decide (c.fStr=([]:Ah))) rfl hj rfl) (wa rfl (Al ?_)))));exact BO (And.intro he hj)
       ·refine wf he (wf he (wf he (wv (r:=rB false) (A4 (b:=decide (c.fInt=0)) rfl he rfl) (wm rfl (An (b:=false) rfl rfl rfl rfl (An (b:=false) rfl rfl rfl rfl (An (b:=false) rfl rfl rfl rfl (wv (r:=rB false) (A4 (b:=false) rfl rfl rfl) (wa rfl (Al ?_))))))))));exact BO he
      refine Ax (A3 (Af ?_));obtain rfl:=Az hy;exact Aw (BS MW (AJ rfl)) sN ⟨rfl,rfl⟩
     ·have hs:=AC hl hr;refine Aj (wv (B3 rfl rfl) (wa rfl (Ar (Ap (b:=decide (c.fKind=6)) rfl (λho=>?_) (λho=>?_)))))
      ·have hz:=AB ho hs;refine AA [(2,rB ((decide (c.fInt=0))&&((decide (c.fStr=([]:Ah)))&&(decide (0≤c.fN)))))] [] ?_ ?_
       ·refine Aj (wv (Ad B5 rfl Cu rfl rfl) (wv (A0 (i:=0) Dd rfl rfl rfl) (wv (B3 rfl rfl) (wm rfl (AH (decide (c.fInt=0)) (λhf=>?_) (λhf=>?_))))))
        ·refine wo hf (wv (Ad B5 rfl CV rfl rfl) (wo hf (wv (A0 (i:=0) Dn rfl rfl rfl) (wo hf (wv (G0 rfl rfl) (Gk rfl hf rfl (wm rfl (AH (decide (c.fStr=([]:Ah))) (λhk=>?_) (λhk=>?_)))))))))
         ·refine wo hk (wv (Ad B5 rfl Cu rfl rfl) (wo hk (wv (A0 (i:=0) Dd rfl rfl rfl) (wo hk (wv (Gs rfl rfl) (Gk rfl hk rfl (wa rfl (Al ?_))))))));exact BO (And.intro hf hk)
         ·refine wf hk (wf hk (wf hk (wv (r:=rB false) (A4 (b:=decide (c.fStr=([]:Ah))) rfl hk rfl) (wa rfl (Al ?_)))));exact BO (And.intro hf hk)
        ·refine wf hf (wf hf (wf hf (wv (r:=rB false) (A4 (b:=decide (c.fInt=0)) rfl hf rfl) (wm rfl (An (b:=false) rfl rfl rfl rfl (An (b:=false) rfl rfl rfl rfl (An (b:=false) rfl rfl rfl rfl (wv (r:=rB false) (A4 (b:=false) rfl rfl rfl) (wa rfl (Al ?_))))))))));exact BO hf
       refine Ax (A3 (Af ?_));obtain rfl:=Az hz;exact Aw (BS MW (AJ rfl)) sN ⟨rfl,rfl⟩
      ·have h0:=AC ho hs;refine At (AK (AN (Ak (wv (r:=rB false) (Ac rfl) (Ar (Ax ?_))))));obtain rfl:=Az h0;exact Aw (BS MW (AJ rfl)) (sS sN) ⟨rfl,rfl⟩
theorem Xq (c:Aa)(r:Int)(h:PP c=some r):Fn Tryz.prog GE 133 [Bz (Ab c)] [] (λR H=>R=rI .i64 r∧H=[]):=by
 refine enter (n:=28) Tryz.func133 rfl Tryz.ntmps133 rfl (λw Z=>?_);refine Bb (l':=[(0,Bz (Ab c))]) (H':=[]) rfl rfl ?_;unfold PP at h;refine Ak (C1 rfl rfl (λb1=>?_));refine wv (r:=rI .i64 0) (Ac rfl) (Ar (Am (Ak (wv (Ad B5 rfl DX rfl rfl) (wv (A0 (i:=0) Ex rfl rfl rfl) (Ar (AO (Ak (wv (B3 rfl rfl) (wa rfl (Ar (Ap (b:=decide (c.fKind=1)) rfl (λc2=>?_) (λc2=>?_)))))))))))))
 ·have h3:=AB c2 h;refine Ak (wv (r:=rI .i64 4) (Ac rfl) (Ar (Ax (A3 (Af ?_)))));obtain rfl:=Az h3;exact Aw (BS PJ (AJ rfl)) (sS sN) ⟨rfl,rfl⟩
 ·have h4:=AC c2 h;refine Ak (wv (B3 rfl rfl) (wa rfl (Ar (Ap (b:=decide (c.fKind=2)) rfl (λc5=>?_) (λc5=>?_)))))
  ·have h6:=AB c5 h4;refine Ak (wv (Ad B5 rfl Cu rfl rfl) (wv (A0 (i:=0) Dd rfl rfl rfl) (wv (r:=rI .i64 (IntKind.wrap .i64 (5-c.fInt))) (VI rfl rfl) (wa rfl (Ar (Ax (A3 (Af ?_))))))));obtain rfl:=Az h6;exact Aw (BS PJ (AJ rfl)) (sS sN) ⟨rfl,rfl⟩
  ·have h7:=AC c5 h4;refine Ak (wv (B3 rfl rfl) (wa rfl (Ar (Ap (b:=decide (c.fKind=3)) rfl (λc8=>?_) (λc8=>?_)))))
   ·have h9:=AB c8 h7;refine Ak (wv (Ad B5 rfl Cu rfl rfl) (wv (A0 (i:=0) Dd rfl rfl rfl) ?_));obtain⟨hd,he⟩:=Av h9;refine GB (rs:=[rI .i64 c.fInt]) (r:=rS (Lib.itoa c.fInt)) Tryz.call47 rfl (ND c.fInt hd) rfl rfl (wv (Bd BP rfl) (wa rfl (Ar (Ax (A3 (Af ?_))))));obtain rfl:=Az he;exact Aw (BS PJ (AJ rfl)) (sS sN) ⟨rfl,rfl⟩
   ·have hb:=AC c8 h7;refine Ak (wv (B3 rfl rfl) (wa rfl (Ar (Ap (b:=decide (c.fKind=4)) rfl (λha=>?_) (λha=>?_)))))
    ·have hf:=AB ha hb;refine Ak (wv (Ad B5 rfl CV rfl rfl) (wv (A0 (i:=0) Dn rfl rfl rfl) ?_));obtain⟨hg,hh,hi⟩:=AL hf;refine Co Tryz.call132 (Oj c.fStr hg hh) rfl (wa rfl (Ar (Ax (A3 (Af ?_)))));obtain rfl:=Az hi;exact Aw (BS PJ (AJ rfl)) (sS sN) ⟨rfl,rfl⟩
    ·have hj:=AC ha hb;refine At (AK (AN (Ak (wv (Ad B5 rfl Cu rfl rfl) (wv (A0 (i:=0) Dd rfl rfl rfl) (wv (r:=rI .i64 (IntKind.wrap .i64 (c.fN-1))) (VI rfl rfl) (wv (Y3 P9 rfl rfl) (wv (r:=rI .i64 (IntKind.wrap .i64 (2+(max 0 (IntKind.wrap .i64 (c.fN-1)))))) (RK rfl rfl) (wa rfl (Ar (Ax ?_)))))))))));obtain rfl:=Az hj;exact Aw (BS PJ (AJ rfl)) (sS sN) ⟨rfl,rfl⟩
theorem Tz (F:Nat)(hg:Value)(stack:(List AE))(r:(List AE))(h:KI F stack=some r):Fn Tryz.prog GE 134 [rv hg] [.row hg 161 5 (List.map AD stack)] (λR H=>∃u0:Value,R=rv u0∧H=[.row u0 161 5 (List.map AD r)]):=by
 refine enter (n:=38) Tryz.func134 rfl Tryz.ntmps134 rfl (λw Z=>?_);refine Bb (l':=[(0,rv hg)]) (H':=[.row hg 161 5 (List.map AD stack)]) rfl rfl ?_;unfold KI at h;refine Ak (wv (r:=rv (.slice none 0 0)) (Ac rfl) (Ar (Am (AO ?_))));obtain⟨hq,hr,hn⟩:=AL h;refine BA (S:=Nat×((List AE))×(Value)) (V:=((List AE))×(Value)) 0 (λσ=>Cg (λσ=>Ed σ) σ.1 σ.2.1=some hq) (λσ=>[(0,rv σ.2.2),(2,rv (.slice none 0 0))]) (λσ=>[.row σ.2.2 161 5 (List.map AD σ.2.1)]) (λσ=>σ.1) (F,stack,hg) hr (AQ.c rfl (AQ.c rfl AQ.nil)) (sC sN) (λσ=>EQ σ.1=some r) (λσ=>[(0,rv σ.2),(2,rv (.slice none 0 0))]) (λσ=>[.row σ.2 161 5 (List.map AD σ.1)]) ?_ ?_
 ·rintro⟨hG,ha,hd⟩ hs;refine Bb (l':=[(0,rv hd),(2,rv (.slice none 0 0))]) (H':=[.row hd 161 5 (List.map AD ha)]) rfl rfl ?_;obtain⟨ht,rfl,hu,hh,hj⟩:=CM hs;replace hh:Ed ha=some hu:=hh;unfold Ed at hh;refine Am (Ak (wm rfl (wv (C6 (ys:=ha) (enc:=AD) (i:=0) IS rfl rfl) (wv (Cl rfl rfl) (Ar (Ap (b:=decide (0<(ha.length:Int))) rfl (λhk=>?_) (λhk=>?_)))))))
  ·have hw:=AB hk hh;refine At (AN (AO (Ak (wm rfl (wm rfl (wv (C6 (ys:=ha) (enc:=AD) (i:=0) IS rfl rfl) ?_))))));obtain⟨hx,hy⟩:=Av hw;refine wv (Gz rfl rfl hx) ?_;obtain⟨he,hz⟩:=Av hy;refine wv (r:=rv (E9 5 hd (Int.toNat ((ha.length:Int)-1)) 0)) (G8 (i:=0) IS PH rfl rfl rfl (BE he)) (wa rfl (By (wm rfl (wv (r:=rv (E9 5 hd (Int.toNat ((ha.length:Int)-1)) 0)) (Cz (k:=0) rfl (BE he) rfl rfl) (wv (r:=rv (E9 5 hd (Int.toNat ((ha.length:Int)-1)) 1)) (Eo (k:=0) IR rfl Cu rfl (BE he) rfl rfl rfl) (wv (r:=rI .i64 ((Ay ha ((ha.length:Int)-1)).fLeft)) (GP (enc:=AD) (ys:=ha) (i:=0) (j:=(ha.length:Int)-1) Dd rfl rfl he rfl) ?_))))));obtain⟨h0,h1⟩:=Av hz;refine wv (Gz rfl rfl h0) (wv (r:=rv (E9 5 hd (Int.toNat ((ha.length:Int)-1)) 0)) (Cz (k:=0) rfl (BE he) rfl rfl) (wv (r:=rv (E9 5 hd (Int.toNat ((ha.length:Int)-1)) 1)) (Eo (k:=0) IR rfl Cu rfl (BE he) rfl rfl rfl) (Ji (enc:=AD) (ys:=ha) (y':=(AE.mk ((Ay ha ((ha.length:Int)-1)).fPairs) (((Ay ha ((ha.length:Int)-1)).fLeft)-1) ((Ay ha ((ha.length:Int)-1)).fKey) ((Ay ha ((ha.length:Int)-1)).fLast) ((Ay ha ((ha.length:Int)-1)).fStarted))) (i:=0) (j:=(ha.length:Int)-1) Cu rfl rfl (Ck rfl) rfl he rfl rfl (H':=[.row hd 161 5 (List.map AD (List.set ha (Int.toNat ((ha.length:Int)-1)) (AE.mk ((Ay ha ((ha.length:Int)-1)).fPairs) (((Ay ha ((ha.length:Int)-1)).fLeft)-1) ((Ay ha ((ha.length:Int)-1)).fKey) ((Ay ha ((ha.length:Int)-1)).fLast) ((Ay ha ((ha.length:Int)-1)).fStarted))))]) rfl ?_)));obtain⟨hb,hf,ho⟩:=Ev h1;rw[← hf];refine Ar (Am (Ak (wm rfl (wv (r:=rv (E9 5 hd (Int.toNat ((ha.length:Int)-1)) 0)) (Cz (k:=0) rfl (BE (Dj he hf)) rfl rfl) (wv (r:=rv (E9 5 hd (Int.toNat ((ha.length:Int)-1)) 1)) (Eo (k:=0) IR rfl Cu rfl (BE (Dj he hf)) rfl rfl rfl) (wv (r:=rI .i64 ((Ay hb ((ha.length:Int)-1)).fLeft)) (GP (enc:=AD) (ys:=hb) (i:=0) (j:=(ha.length:Int)-1) Dd rfl rfl (Dj he hf) rfl) (wv (Cl rfl rfl) (Ar (Ap (b:=decide (0<((Ay hb ((ha.length:Int)-1)).fLeft))) rfl (λhl=>?_) (λhl=>?_))))))))))
   ·have h2:=AB hl ho;refine Ak (wm rfl (wm rfl (wv (r:=rv (E9 5 hd (Int.toNat ((ha.length:Int)-1)) 0)) (Cz (k:=0) rfl (BE (Dj he hf)) rfl rfl) (wv (r:=rv (E9 5 hd (Int.toNat ((ha.length:Int)-1)) 0)) (Eo (k:=0) IR rfl HO rfl (BE (Dj he hf)) rfl rfl rfl) (wv (r:=rB ((Ay hb ((ha.length:Int)-1)).fPairs)) (GP (enc:=AD) (ys:=hb) (i:=0) (j:=(ha.length:Int)-1) Sk rfl rfl (Dj he hf) rfl) (wv (r:=rv (E9 5 hd (Int.toNat ((ha.length:Int)-1)) 0)) (Cz (k:=0) rfl (BE (Dj he hf)) rfl rfl) (wv (r:=rv (E9 5 hd (Int.toNat ((ha.length:Int)-1)) 2)) (Eo (k:=0) IR rfl HO rfl (BE (Dj he hf)) rfl rfl rfl) (Ji (enc:=AD) (ys:=hb) (y':=(AE.mk ((Ay hb ((ha.length:Int)-1)).fPairs) ((Ay hb ((ha.length:Int)-1)).fLeft) ((Ay hb ((ha.length:Int)-1)).fPairs) ((Ay hb ((ha.length:Int)-1)).fLast) ((Ay hb ((ha.length:Int)-1)).fStarted))) (i:=0) (j:=(ha.length:Int)-1) HO rfl rfl (Ck rfl) rfl (Dj he hf) rfl rfl (H':=[.row hd 161 5 (List.map AD (List.set hb (Int.toNat ((ha.length:Int)-1)) (AE.mk ((Ay hb ((ha.length:Int)-1)).fPairs) ((Ay hb ((ha.length:Int)-1)).fLeft) ((Ay hb ((ha.length:Int)-1)).fPairs) ((Ay hb ((ha.length:Int)-1)).fLast) ((Ay hb ((ha.length:Int)-1)).fStarted))))]) rfl ?_))))))));obtain⟨hH,h3,h4⟩:=Ev h2;rw[← h3];refine By (wm rfl (wa rfl (Ar (Ax (Af (A3 (Af (Bc ?_))))))));have h5:=B1 h4 hj hn;refine A3 (Af ?_);obtain rfl:=Az h5;exact Aw (BS Tryz.results134 (AJ rfl)) (sC sN) ⟨hd,rfl,rfl⟩
   ·have h6:=AC hl ho;refine At (AN (Aj (wm rfl (wm rfl (wv (C6 (ys:=hb) (enc:=AD) (i:=0) IS rfl rfl) ?_)))));obtain⟨h7,h8⟩:=Av h6;refine wv (Gz rfl rfl h7) ?_;obtain⟨h9,hA⟩:=Av h8;refine Yz (i:=0) IS PH rfl rfl rfl h9 rfl (λhB=>?_);refine wa rfl (Al (AK ?_));have hC:=Bk hA hj;exact Aq (AG (ht,List.take (Int.toNat ((hb.length:Int)-1)) hb,hB) ⟨hC,AaX _⟩ (AQ.c rfl (AQ.c rfl AQ.nil)) (sC sN))
  ·have hD:=AC hk hh;refine B9 (A5 ?_);have hE:=Cj hD hj hn;exact A5 (Br (AG (ha,hd) hE (AQ.c rfl (AQ.c rfl AQ.nil)) (sC sN)))
 ·rintro⟨hp,hm⟩ hi;refine CR (l':=[(0,rv hm),(2,rv (.slice none 0 0))]) (H':=[.row hm 161 5 (List.map AD hp)]) rfl rfl ?_;replace hi:EQ hp=some r:=hi;unfold EQ at hi;refine Bm (AN (Ak (wm rfl (wa rfl (Ar (Ax ?_))))));obtain rfl:=Az hi;exact Aw (BS Tryz.results134 (AJ rfl)) (sC sN) ⟨hm,rfl,rfl⟩
theorem OQ (F:Nat)(v:(List Aa))(r:Int×AR×Bool)(h:IV F v=some r):Fn Tryz.prog GE 101 [Bo 4 (List.map Ab v)] [] (λR H=>R=C5 [rI .i64 r.1,Bz (AZ r.2.1),rB r.2.2]∧H=[]):=by
 refine enter (n:=152) Tryz.func101 rfl Tryz.ntmps101 rfl (λw Z=>?_);refine Bb (l':=[(0,Bo 4 (List.map Ab v))]) (H':=[]) rfl rfl ?_;unfold IV at h;refine Ak (wv (r:=rI .i64 0) (Ac rfl) (Cf (cs:=[rI .i64 0,rI .i64 0,rB false,rB false]) PF rfl rfl (λb1=>?_)));refine wv (r:=rB false) (Ac rfl) (Ar (UK (Ak (Cf (cs:=[rI .i64 0,rI .i64 0,rB false,rB false]) PF rfl rfl (λb2=>?_)))));refine By (wv (r:=rv (.slice none 0 0)) (Ac rfl) (Ar (Am (UL (AN (Am (Ak (wm rfl (wv (BT (ys:=v) (enc:=Ab) BN rfl) (wv (r:=rI .i64 0) (Au rfl) (Ar (AO (WC.nilrow (e:=161) (sz:=5) (KB (H2:=[.blk b2 [rI .i64 0,rI .i64 0,rB false,rB false] 132,.blk b1 [rI .i64 0,rI .i64 0,rB false,rB false] 132,.row (.slice none 0 0                                                                                                                                                                 ) 161 5 (List.map AD ([]:List AE))]) ((A9 (i:=1) rfl).trans (AaT _ ((A9 (i:=1) rfl).trans (AaT _ (AaP _))))) ?_))))))))))))));obtain⟨hQ,hR,hy⟩:=AL h;refine BA (S:=Nat×((List AE)×Int×AR)×(Value)) (V:=(AR)×(Unit)) 0 (λσ=>Cg (λσ=>Ec F v σ.1 σ.2.1 σ.2.2) σ.1 σ.2.1=some hQ) (λσ=>[(0,Bo 4 (List.map Ab v)),(3,rv (.pointer (some ⟨b1,0,none⟩))),(5,rv (.pointer (some ⟨b2,0,none⟩))),(6,rv σ.2.2),(11,Bo 4 (List.map Ab v)),(12,rI .i64 (v.length:Int)),(13,rI .i64 σ.2.1.2.1)]) (λσ=>[.blk b2 (AZ σ.2.1.2.2) 132,.blk b1 [rI .i64 0,rI .i64 0,rB false,rB false] 132,.row σ.2.2 161 5 (List.map AD σ.2.1.1)]) (λσ=>σ.1) (F,(([]:List AE),0,(AR.mk 0 0 false false)),(.slice none 0 0                                                                                                                                                                 )) hR (AQ.c rfl (AQ.c rfl (AQ.c5 rfl rfl rfl rfl rfl AQ.nil))) (sC (sC (sC sN))) (λσ=>KF σ.1=some r) (λσ=>[(3,rv (.pointer (some ⟨b1,0,none⟩))),(5,rv (.pointer (some ⟨b2,0,none⟩)))]) (λσ=>[.blk b2 (AZ σ.1) 132,.blk b1 [rI .i64 0,rI .i64 0,rB false,rB false] 132]) ?_ ?_
 ·rintro⟨gG,⟨hd,hb,ha⟩,he⟩ hS;refine Bb (l':=[(0,Bo 4 (List.map Ab v)),(3,rv (.pointer (some ⟨b1,0,none⟩))),(5,rv (.pointer (some ⟨b2,0,none⟩))),(6,rv he),(11,Bo 4 (List.map Ab v)),(12,rI .i64 (v.length:Int)),(13,rI .i64 hb)]) (H':=[.blk b2 (AZ ha) 132,.blk b1 [rI .i64 0,rI .i64 0,rB false,rB false] 132,.row he 161 5 (List.map AD hd)]) rfl rfl ?_;obtain⟨hT,rfl,h4,hz,hx⟩:=CM hS;replace hz:Ec F v hd hb ha=some h4:=hz;unfold Ec at hz;refine Ak (wv (Cp rfl rfl) (Ar (Am (Ap (b:=decide (hb<(v.length:Int))) rfl (λh5=>?_) (λh5=>?_)))))
  ·have hU:=AB h5 hz;refine At (AN (Dz (S:=((List AE)×AR)×(Value)) (λσ=>EE hb σ.1.1 σ.1.2=some h4) (λσ=>[(0,Bo 4 (List.map Ab v)),(3,rv (.pointer (some ⟨b1,0,none⟩))),(5,rv (.pointer (some ⟨b2,0,none⟩))),(6,rv σ.2),(11,Bo 4 (List.map Ab v)),(12,rI .i64 (v.length:Int)),(13,rI .i64 hb)]) (λσ=>[.blk b2 (AZ σ.1.2) 132,.blk b1 [rI .i64 0,rI .i64 0,rB false,rB false] 132,.row σ.2 161 5 (List.map AD σ.1.1)]) ?_ ?_))
   ·refine AO (Ak (wm rfl ?_));obtain⟨hV,hW⟩:=Av hU;refine wv (BY (enc:=Ab) (ys:=v) BN Cb rfl rfl hV) (wv (DQ L2 Cb rfl rfl rfl) (Cf (cs:=[rI .i64 0,rI .i64 0,rS ([]:Ah),rI .i64 0]) EA rfl rfl (λhf=>?_)));refine wa rfl (Bq (i:=0) Cb rfl rfl rfl (BM.c rfl) rfl rfl (cs':=[rI .i64 ((Ay v hb).fKind),rI .i64 ((Ay v hb).fInt),rS ((Ay v hb).fStr),rI .i64 ((Ay v hb).fN)]) rfl (H':=[.blk hf (Ab (Ay v hb)) 78,.blk b2 (AZ ha) 132,.blk b1 [rI .i64 0,rI .i64 0,rB false,rB false] 132,.row he 161 5 (List.map AD hd)]) rfl (Ar (Am (Ak (wv (Bs (i:=0) L2 Cb rfl rfl rfl rfl) ?_)))));obtain⟨hH,hX,hI⟩:=AL hW;refine Co Tryz.call131 (UQ F (Ay v hb) hH hX) rfl (wv (BJ rfl) (Ar (Ap (b:=!hH) rfl (λh6=>?_) (λh6=>?_))))
    ·have hY:=AB h6 hI;refine Am (Ia (H1:=[.blk hf (Ab (Ay v hb)) 78,.blk b2 (AZ ha) 132,.blk b1 (AZ ha) 132,.row he 161 5 (List.map AD hd)]) [3,5] [⟨[],Bz (AZ ha),1⟩,⟨[],rI .i64 0,0⟩,⟨[0],rv undef,2⟩,⟨[],rB false,0⟩] (rle [(3,_),(2,[.blk hf (Ab (Ay v hb)) 78,.blk b2 (AZ ha) 132,.blk b1 (AZ ha) 132,.row he 161 5 (List.map AD hd)])]) [2,4,3] ?_ ?_)
     ·refine of (Bs (i:=1) Kc Gy rfl rfl rfl rfl) (oq (Ac rfl) (Lf rfl (Q0 (DR (i:=2) Gy rfl rfl rfl (BM.c rfl) rfl rfl (cs':=[rI .i64 ha.fDepth,rI .i64 ha.fBytes,rB ha.fOutside,rB ha.fLong]) rfl (H':=[.blk hf (Ab (Ay v hb)) 78,.blk b2 (AZ ha) 132,.blk b1 (AZ ha) 132,.row he 161 5 (List.map AD hd)]) rfl)) ?_));refine oq (Ac rfl) ?_;exact CL
     refine AN (Ax (Af (A3 (Af (Af (Bc ?_))))));have hZ:=B1 hY hx hy;refine A3 (Af (J5 ?_));obtain rfl:=Az hZ;exact Aw (Z1 PL (AJ rfl) (GV (i:=2) Kc Gy rfl rfl rfl) (AJ rfl)) (sS (sS (sS (sS sN)))) ⟨rfl,rfl⟩
    ·have ga:=AC h6 hI;refine At (AN (Am (Ak (wm rfl (wv (C6 (ys:=hd) (enc:=AD) (i:=3) IS rfl rfl) (wa rfl (Ar ?_)))))));obtain⟨gb,gc⟩:=Av ga;obtain⟨h7,hJ⟩:=Av gc;refine AA [(0,Bo 4 (List.map Ab v)),(3,rv (.pointer (some ⟨b1,0,none⟩))),(5,rv (.pointer (some ⟨b2,0,none⟩))),(6,rv he),(7,rI .i64 hb),(8,rv (.pointer (some ⟨hf,0,none⟩))),(9,rI .i64 (hd.length:Int)),(11,Bo 4 (List.map Ab v)),(12,rI .i64 (v.length:Int)),(13,rI .i64 hb),(33,rB ((decide (0<(hd.length:Int)))&&((Ay hd ((hd.length:Int)-1)).fKey)))] [.blk hf (Ab (Ay v hb)) 78,.blk b2 (AZ ha) 132,.blk b1 [rI .i64 0,rI .i64 0,rB false,rB false] 132,.row he 161 5 (List.map AD hd)] ?_ ?_
     ·refine Aj (wm rfl (wv (Cl rfl rfl) (wm rfl (AH (decide (0<(hd.length:Int))) (λhi=>?_) (λhi=>?_)))))
      ·refine wo hi (wm rfl (wo hi (wm rfl (wo hi (wv (Gz rfl rfl (C0 gb hi)) (wo hi (wv (r:=rv (E9 5 he (Int.toNat ((hd.length:Int)-1)) 0)) (G8 (i:=3) IS PH rfl rfl rfl (BE (C0 h7 hi))) (wo hi (wv (r:=rv (E9 5 he (Int.toNat ((hd.length:Int)-1)) 2)) (Eo (k:=3) IR rfl HO rfl (BE (C0 h7 hi)) rfl rfl rfl) (wo hi (wv (r:=rB ((Ay hd ((hd.length:Int)-1)).fKey)) (GP (enc:=AD) (ys:=hd) (i:=3) (j:=(hd.length:Int)-1) Sk rfl rfl (C0 h7 hi) rfl) (Gk rfl hi rfl (Al ?_)))))))))))));exact BO hi
      ·refine wf hi (wf hi (wf hi (wf hi (wf hi (wf hi (wv (r:=rB false) (A4 (b:=decide (0<(hd.length:Int))) rfl hi rfl) (Al ?_)))))));exact BO hi
     refine Ap (b:=((decide (0<(hd.length:Int)))&&((Ay hd ((hd.length:Int)-1)).fKey))) rfl (λh8=>?_) (λh8=>?_)
     ·have gd:=AB h8 hJ;refine Ak (wm rfl (wm rfl ?_));obtain⟨ge,gf⟩:=Av gd;refine wv (Gz rfl rfl ge) ?_;obtain⟨hj,hK⟩:=Av gf;refine wv (r:=rv (E9 5 he (Int.toNat ((hd.length:Int)-1)) 0)) (G8 (i:=3) IS PH rfl rfl rfl (BE hj)) (wa rfl (Ar (Am (AA [(0,Bo 4 (List.map Ab v)),(3,rv (.pointer (some ⟨b1,0,none⟩))),(5,rv (.pointer (some ⟨b2,0,none⟩))),(6,rv he),(8,rv (.pointer (some ⟨hf,0,none⟩))),(10,rv (E9 5 he (Int.toNat ((hd.length:Int)-1)) 0)),(11,Bo 4 (List.map Ab v)),(12,rI .i64 (v.length:Int)),(13,rI .i64 hb),(38,rv (.pointer (some ⟨hf,0,none⟩))),(39,rI .i64 ((Ay v hb).fKind)),(40,rB (!decide (((Ay v hb).fKind)=4))),(41,rB (!decide (((Ay v hb).fKind)=4))),(55,rB ((!decide (((Ay v hb).fKind)=4))||(((Ay hd ((hd.length:Int)-1)).fStarted)&&(BI ((Ay v hb).fStr) ((Ay hd ((hd.length:Int)-1)).fLast)||decide (((Ay v hb).fStr)=((Ay hd ((hd.length:Int)-1)).fLast))))))] [.blk hf (Ab (Ay v hb)) 78,.blk b2 (AZ ha) 132,.blk b1 [rI .i64 0,rI .i64 0,rB false,rB false] 132,.row he 161 5 (List.map AD hd)] ?_ ?_))))
      ·refine AH (!decide (((Ay v hb).fKind)=4)) (λhh=>?_) (λhh=>?_)
       ·refine DI [0,3,5,6,8,10,11,12,13] [⟨[],rv (.pointer (some ⟨hf,0,none⟩)),0⟩,⟨[0],rI .i64 ((Ay v hb).fKind),1⟩,⟨[1],rB (!decide (((Ay v hb).fKind)=4)),0⟩,⟨[2],rB (!decide (((Ay v hb).fKind)=4)),0⟩,⟨[3],rv undef,0⟩,⟨[4,3],rv undef,0⟩,⟨[5,3],rv undef,0⟩,⟨[6,3],rv undef,0⟩,⟨[7,3],rv undef,0⟩,⟨[8],rv undef,0⟩,⟨[9,8],rv undef,0⟩,⟨[8],rv undef,0⟩,⟨[11,8],rv undef,0⟩,⟨[12,8],rv undef,0⟩,⟨[13,8],rv undef,0⟩,⟨[10,14,8],rv undef,0⟩,⟨[8,15,3],rv undef,0⟩,⟨[3,16],rB true,0⟩] [38,39,40,41,42,43,44,45,46,47,48,49,50,51,52,53,54,55,0,3,5,6,8,10,11,12,13] ?_ ?_
        ·refine oq (Ad B5 rfl DX rfl rfl) (of (A0 (i:=0) Ex rfl rfl rfl) (oq (CF rfl rfl) (oq (Au rfl) (oz hh (oz hh (oz hh (oz hh (oz hh (ou (ou (ou (ou (ou (ou (ou (oz hh (oq (As (b:=!decide (((Ay v hb).fKind)=4)) rfl hh rfl) ?_)))))))))))))))));exact CL
        exact BO hh
       ·refine AH ((Ay hd ((hd.length:Int)-1)).fStarted) (λhk=>?_) (λhk=>?_)
        ·refine DI [0,3,5,6,8,10,11,12,13] [⟨[],rv (.pointer (some ⟨hf,0,none⟩)),0⟩,⟨[0],rI .i64 ((Ay v hb).fKind),1⟩,⟨[1],rB (!decide (((Ay v hb).fKind)=4)),0⟩,⟨[2],rB (!decide (((Ay v hb).fKind)=4)),0⟩,⟨[3],rv (E9 5 he (Int.toNat ((hd.length:Int)-1)) 0),0⟩,⟨[4,3],rv (E9 5 he (Int.toNat ((hd.length:Int)-1)) 0),1⟩,⟨[5,3],rv (E9 5 he (Int.toNat ((hd.length:Int)-1)) 4),1⟩,⟨[6,3],rB ((Ay hd ((hd.length:Int)-1)).fStarted),1⟩,⟨[7,3],rB ((Ay hd ((hd.length:Int)-1)).fStarted),0⟩,⟨[8],rv (.pointer (some ⟨hf,2,none⟩)),0⟩,⟨[9,8],rS ((Ay v hb).fStr),1⟩,⟨[8],rv (E9 5 he (Int.toNat ((hd.length:Int)-1)) 0),0⟩,⟨[11,8],rv (E9 5 he (Int.toNat ((hd.length:Int)-1)) 0),1⟩,⟨[12,8],rv (E9 5 he (Int.toNat ((hd.length:Int)-1)) 3),1⟩,⟨[13,8],rS ((Ay hd ((hd.length:Int)-1)).fLast),1⟩,⟨[10,14,8],rB (BI ((Ay v hb).fStr) ((Ay hd ((hd.length:Int)-1)).fLast)||decide (((Ay v hb).fStr)=((Ay hd ((hd.length:Int)-1)).fLast))),0⟩,⟨[8,15,3],rB (BI ((Ay v hb).fStr) ((Ay hd ((hd.length:Int)-1)).fLast)||decide (((Ay v hb).fStr)=((Ay hd ((hd.length:Int)-1)).fLast))),0⟩,⟨[3,16],rB (BI ((Ay v hb).fStr) ((Ay hd ((hd.length:Int)-1)).fLast)||decide (((Ay v hb).fStr)=((Ay hd ((hd.length:Int)-1)).fLast))),0⟩] [38,39,40,41,42,43,44,45,46,47,48,49,50,51,52,53,54,55,0,3,5,6,8,10,11,12,13] ?_ ?_
         ·refine oq (Ad B5 rfl DX rfl rfl) (of (A0 (i:=0) Ex rfl rfl rfl) (oq (CF rfl rfl) (oq (Au rfl) (on hh (oq (Au rfl) (on hh (of (Cz (k:=3) rfl (BE hj) rfl rfl) (on hh (of (Eo (k:=3) IR rfl HO rfl (BE hj) rfl rfl rfl) (on hh (of (GP (enc:=AD) (ys:=hd) (i:=3) (j:=(hd.length:Int)-1) Sk rfl rfl hj rfl) (on hh (oq (Au rfl) (on hk (oq (Ad B5 rfl CV rfl rfl) (on hk (of (A0 (i:=0) Dn rfl rfl rfl) (on hk (oq (Au rfl) (on hk (of (Cz (k:=3) rfl (BE hj) rfl rfl) (on hk (of (Eo (k:=3) IR rfl CV rfl (BE hj) rfl rfl rfl) ?_)))))))))))))))))))))));refine on hk (of (GP (enc:=AD) (ys:=hd) (i:=3) (j:=(hd.length:Int)-1) Dn rfl rfl hj rfl) (on hk (oq (SE rfl rfl) (on hh (oq (As rfl hk rfl) (oq (A4 rfl hh rfl) ?_))))));exact CL
         exact BO (And.intro hh hk)
        ·refine DI [0,3,5,6,8,10,11,12,13] [⟨[],rv (.pointer (some ⟨hf,0,none⟩)),0⟩,⟨[0],rI .i64 ((Ay v hb).fKind),1⟩,⟨[1],rB (!decide (((Ay v hb).fKind)=4)),0⟩,⟨[2],rB (!decide (((Ay v hb).fKind)=4)),0⟩,⟨[3],rv (E9 5 he (Int.toNat ((hd.length:Int)-1)) 0),0⟩,⟨[4,3],rv (E9 5 he (Int.toNat ((hd.length:Int)-1)) 0),1⟩,⟨[5,3],rv (E9 5 he (Int.toNat ((hd.length:Int)-1)) 4),1⟩,⟨[6,3],rB ((Ay hd ((hd.length:Int)-1)).fStarted),1⟩,⟨[7,3],rB ((Ay hd ((hd.length:Int)-1)).fStarted),0⟩,⟨[8],rv undef,0⟩,⟨[9,8],rv undef,0⟩,⟨[8],rv undef,0⟩,⟨[11,8],rv undef,0⟩,⟨[12,8],rv undef,0⟩,⟨[13,8],rv undef,0⟩,⟨[10,14,8],rv undef,0⟩,⟨[8,15,3],rB false,0⟩,⟨[3,16],rB false,0⟩] [38,39,40,41,42,43,44,45,46,47,48,49,50,51,52,53,54,55,0,3,5,6,8,10,11,12,13] ?_ ?_
         ·refine oq (Ad B5 rfl DX rfl rfl) (of (A0 (i:=0) Ex rfl rfl rfl) (oq (CF rfl rfl) (oq (Au rfl) (on hh (oq (Au rfl) (on hh (of (Cz (k:=3) rfl (BE hj) rfl rfl) (on hh (of (Eo (k:=3) IR rfl HO rfl (BE hj) rfl rfl rfl) (on hh (of (GP (enc:=AD) (ys:=hd) (i:=3) (j:=(hd.length:Int)-1) Sk rfl rfl hj rfl) (on hh (oq (Au rfl) (oz hk (oz hk (oz hk (oz hk (oz hk (oz hk (oz hk (on hh (oq (A4 (b:=(Ay hd ((hd.length:Int)-1)).fStarted) rfl hk rfl) (oq (A4 rfl hh rfl) ?_)))))))))))))))))))))));exact CL
         exact BO (And.intro hh hk)
      refine Ap (b:=((!decide (((Ay v hb).fKind)=4))||(((Ay hd ((hd.length:Int)-1)).fStarted)&&(BI ((Ay v hb).fStr) ((Ay hd ((hd.length:Int)-1)).fLast)||decide (((Ay v hb).fStr)=((Ay hd ((hd.length:Int)-1)).fLast)))))) rfl (λh9=>?_) (λh9=>?_)
      ·have gg:=AB h9 hK;refine Am (Ia (H1:=[.blk hf (Ab (Ay v hb)) 78,.blk b2 (AZ ha) 132,.blk b1 (AZ ha) 132,.row he 161 5 (List.map AD hd)]) [3,5] [⟨[],Bz (AZ ha),1⟩,⟨[],rI .i64 0,0⟩,⟨[0],rv undef,2⟩,⟨[],rB false,0⟩] (rle [(3,_),(2,[.blk hf (Ab (Ay v hb)) 78,.blk b2 (AZ ha) 132,.blk b1 (AZ ha) 132,.row he 161 5 (List.map AD hd)])]) [2,4,3] ?_ ?_)
       ·refine of (Bs (i:=1) Kc Gy rfl rfl rfl rfl) (oq (Ac rfl) (Lf rfl (Q0 (DR (i:=2) Gy rfl rfl rfl (BM.c rfl) rfl rfl (cs':=[rI .i64 ha.fDepth,rI .i64 ha.fBytes,rB ha.fOutside,rB ha.fLong]) rfl (H':=[.blk hf (Ab (Ay v hb)) 78,.blk b2 (AZ ha) 132,.blk b1 (AZ ha) 132,.row he 161 5 (List.map AD hd)]) rfl)) ?_));refine oq (Ac rfl) ?_;exact CL
       refine AN (Ax (Af (Af (A3 (Af (Af (Bc ?_)))))));have gh:=B1 gg hx hy;refine A3 (Af (J5 ?_));obtain rfl:=Az gh;exact Aw (Z1 PL (AJ rfl) (GV (i:=2) Kc Gy rfl rfl rfl) (AJ rfl)) (sS (sS (sS (sS sN)))) ⟨rfl,rfl⟩
      ·have gi:=AC h9 hK;refine At (AN (Ak (wm rfl (wm rfl (wm rfl (wv (Ad B5 rfl CV rfl rfl) (wv (A0 (i:=0) Dn rfl rfl rfl) (wv (r:=rv (E9 5 he (Int.toNat ((hd.length:Int)-1)) 0)) (Cz (k:=3) rfl (BE hj) rfl rfl) (wv (r:=rv (E9 5 he (Int.toNat ((hd.length:Int)-1)) 3)) (Eo (k:=3) IR rfl CV rfl (BE hj) rfl rfl rfl) (Ji (enc:=AD) (ys:=hd) (y':=(AE.mk ((Ay hd ((hd.length:Int)-1)).fPairs) ((Ay hd ((hd.length:Int)-1)).fLeft) ((Ay hd ((hd.length:Int)-1)).fKey) ((Ay v hb).fStr) ((Ay hd ((hd.length:Int)-1)).fStarted))) (i:=3) (j:=(hd.length:Int)-1) CV rfl rfl (Ck rfl) rfl hj rfl rfl (H':=[.blk hf (Ab (Ay v hb)) 78,.blk b2 (AZ ha) 132,.blk b1 [rI .i64 0,rI .i64 0,rB false,rB false] 132,.row he 161 5 (List.map AD (List.set hd (Int.toNat ((hd.length:Int)-1)) (AE.mk ((Ay hd ((hd.length:Int)-1)).fPairs) ((Ay hd ((hd.length:Int)-1)).fLeft) ((Ay hd ((hd.length:Int)-1)).fKey) ((Ay v hb).fStr) ((Ay hd ((hd.length:Int)-1)).fStarted))))]) rfl ?_))))))))));obtain⟨hr,hw,gj⟩:=Ev gi;rw[← hw];refine wv (r:=rv (E9 5 he (Int.toNat ((hd.length:Int)-1)) 0)) (Cz (k:=3) rfl (BE (Dj hj hw)) rfl rfl) (wv (r:=rv (E9 5 he (Int.toNat ((hd.length:Int)-1)) 4)) (Eo (k:=3) IR rfl HO rfl (BE (Dj hj hw)) rfl rfl rfl) (Ji (enc:=AD) (ys:=hr) (y':=(AE.mk ((Ay hr ((hd.length:Int)-1)).fPairs) ((Ay hr ((hd.length:Int)-1)).fLeft) ((Ay hr ((hd.length:Int)-1)).fKey) ((Ay hr ((hd.length:Int)-1)).fLast) true)) (i:=3) (j:=(hd.length:Int)-1) HO rfl rfl (Ck rfl) rfl (Dj hj hw) rfl rfl (H':=[.blk hf (Ab (Ay v hb)) 78,.blk b2 (AZ ha) 132,.blk b1 [rI .i64 0,rI .i64 0,rB false,rB false] 132,.row he 161 5 (List.map AD (List.set hr (Int.toNat ((hd.length:Int)-1)) (AE.mk ((Ay hr ((hd.length:Int)-1)).fPairs) ((Ay hr ((hd.length:Int)-1)).fLeft) ((Ay hr ((hd.length:Int)-1)).fKey) ((Ay hr ((hd.length:Int)-1)).fLast) true)))]) rfl ?_));obtain⟨hs,h1,gk⟩:=Ev gj;rw[← h1];refine wv (r:=rv (E9 5 he (Int.toNat ((hd.length:Int)-1)) 0)) (Cz (k:=3) rfl (BE (Dj (Dj hj hw) h1)) rfl rfl) (wv (r:=rv (E9 5 he (Int.toNat ((hd.length:Int)-1)) 2)) (Eo (k:=3) IR rfl HO rfl (BE (Dj (Dj hj hw) h1)) rfl rfl rfl) (Ji (enc:=AD) (ys:=hs) (y':=(AE.mk ((Ay hs ((hd.length:Int)-1)).fPairs) ((Ay hs ((hd.length:Int)-1)).fLeft) false ((Ay hs ((hd.length:Int)-1)).fLast) ((Ay hs ((hd.length:Int)-1)).fStarted))) (i:=3) (j:=(hd.length:Int)-1) HO rfl rfl (Ck rfl) rfl (Dj (Dj hj hw) h1) rfl rfl (H':=[.blk hf (Ab (Ay v hb)) 78,.blk b2 (AZ ha) 132,.blk b1 [rI .i64 0,rI .i64 0,rB false,rB false] 132,.row he 161 5 (List.map AD (List.set hs (Int.toNat ((hd.length:Int)-1)) (AE.mk ((Ay hs ((hd.length:Int)-1)).fPairs) ((Ay hs ((hd.length:Int)-1)).fLeft) false ((Ay hs ((hd.length:Int)-1)).fLast) ((Ay hs ((hd.length:Int)-1)).fStarted))))]) rfl ?_));obtain⟨ht,gl,gm⟩:=Ev gk;rw[← gl];refine Ar (Am ?_);obtain⟨hl,gn,gp⟩:=AL gm;obtain⟨gq,gr⟩:=Av gp;refine Ia (H1:=[.blk hf (Ab (Ay v hb)) 78,.blk b2 [rI .i64 ha.fDepth,rI .i64 (IntKind.wrap .i64 (ha.fBytes+(hl+1))),rB ha.fOutside,rB ha.fLong] 132,.blk b1 [rI .i64 0,rI .i64 0,rB false,rB false] 132,.row he 161 5 (List.map AD ht)]) [0,3,5,6,8,11,12,13,38,39,40,41] [⟨[],rv (.pointer (some ⟨b2,1,none⟩)),0⟩,⟨[0],rI .i64 ha.fBytes,1⟩,⟨[],rv (.pointer (some ⟨hf,2,none⟩)),0⟩,⟨[2],rS ((Ay v hb).fStr),1⟩,⟨[3],rI .i64 hl,0⟩,⟨[4],rI .i64 (hl+1),0⟩,⟨[1,5],rI .i64 (IntKind.wrap .i64 (ha.fBytes+(hl+1))),0⟩,⟨[],rv (.pointer (some ⟨b2,1,none⟩)),0⟩,⟨[7,6],rv undef,2⟩] (rle [(9,_),(1,[.blk hf (Ab (Ay v hb)) 78,.blk b2 [rI .i64 ha.fDepth,rI .i64 (IntKind.wrap .i64 (ha.fBytes+(hl+1))),rB ha.fOutside,rB ha.fLong] 132,.blk b1 [rI .i64 0,rI .i64 0,rB false,rB false] 132,.row he 161 5 (List.map AD ht)])]) [68,69,70,71,72,73,74,75,0,3,5,6,8,11,12,13,38,39,40,41] ?_ ?_
       ·refine oq (Ad EV rfl Cu rfl rfl) (of (A0 (i:=1) Dd rfl rfl rfl) (oq (Ad B5 rfl CV rfl rfl) (of (A0 (i:=0) Dn rfl rfl rfl) (GX rfl (λH=>N1 Tryz.call132 (Oj ((Ay v hb).fStr) hl gn) rfl) ?_))));refine oq (Bi rfl rfl gq) (oq (RK rfl rfl) (oq (Ad EV rfl Cu rfl rfl) (Lf rfl (Q0 (OO (i:=1) Cu rfl rfl (Ck rfl) rfl rfl (cs':=[rI .i64 ha.fDepth,rI .i64 (IntKind.wrap .i64 (ha.fBytes+(hl+1))),rB ha.fOutside,rB ha.fLong]) rfl (H':=[.blk hf (Ab (Ay v hb)) 78,.blk b2 [rI .i64 ha.fDepth,rI .i64 (IntKind.wrap .i64 (ha.fBytes+(hl+1))),rB ha.fOutside,rB ha.fLong] 132,.blk b1 [rI .i64 0,rI .i64 0,rB false,rB false] 132,.row he 161 5 (List.map AD ht)]) rfl)) ?_)));exact CL
       refine AN (AA [(0,Bo 4 (List.map Ab v)),(3,rv (.pointer (some ⟨b1,0,none⟩))),(5,rv (.pointer (some ⟨b2,0,none⟩))),(6,rv he),(11,Bo 4 (List.map Ab v)),(12,rI .i64 (v.length:Int)),(13,rI .i64 hb),(38,rv (.pointer (some ⟨hf,0,none⟩))),(39,rI .i64 ((Ay v hb).fKind)),(40,rB (!decide (((Ay v hb).fKind)=4))),(41,rB (!decide (((Ay v hb).fKind)=4))),(68,rv (.pointer (some ⟨b2,1,none⟩))),(69,rI .i64 ha.fBytes),(70,rv (.pointer (some ⟨hf,2,none⟩))),(71,rS ((Ay v hb).fStr)),(72,rI .i64 hl),(73,rI .i64 (hl+1)),(74,rI .i64 (IntKind.wrap .i64 (ha.fBytes+(hl+1)))),(75,rv (.pointer (some ⟨b2,1,none⟩)))] [.blk hf (Ab (Ay v hb)) 78,.blk b2 [rI .i64 ha.fDepth,rI .i64 (IntKind.wrap .i64 (ha.fBytes+(hl+1))),rB ha.fOutside,rB (ha.fLong||(decide (200<(((Ay v hb).fStr).length:Int))))] 132,.blk b1 [rI .i64 0,rI .i64 0,rB false,rB false] 132,.row he 161 5 (List.map AD ht)] ?_ ?_)
       ·refine Aj (wv (Ad EV rfl HO rfl rfl) (wv (A0 (i:=1) Sk rfl rfl rfl) (wm rfl (AH (ha.fLong) (λho=>?_) (λho=>?_)))))
        ·refine wf ho (wf ho (wf ho (wf ho (wv (r:=rB true) (As (b:=ha.fLong) rfl ho rfl) (wv (Ad EV rfl HO rfl rfl) (BD (i:=1) HO rfl rfl (Ck rfl) rfl rfl (cs':=[rI .i64 ha.fDepth,rI .i64 (IntKind.wrap .i64 (ha.fBytes+(hl+1))),rB ha.fOutside,rB true]) rfl (H':=[.blk hf (Ab (Ay v hb)) 78,.blk b2 [rI .i64 ha.fDepth,rI .i64 (IntKind.wrap .i64 (ha.fBytes+(hl+1))),rB ha.fOutside,rB true] 132,.blk b1 [rI .i64 0,rI .i64 0,rB false,rB false] 132,.row he 161 5 (List.map AD ht)]) rfl (Al (H9 (H':=[.blk hf (Ab (Ay v hb)) 78,.blk b2 [rI .i64 ha.fDepth,rI .i64 (IntKind.wrap .i64 (ha.fBytes+(hl+1))),rB ha.fOutside,rB (ha.fLong||(decide (200<(((Ay v hb).fStr).length:Int))))] 132,.blk b1 [rI .i64 0,rI .i64 0,rB false,rB false] 132,.row he 161 5 (List.map AD ht)]) (by simp only[ho,AaW,Abc,Abm,AaZ,Abf,Abe,Abl,Abg,AaV,Abd,AaQ,AaN]) ?_))))))));exact wt
        ·refine wo ho (wv (Ad B5 rfl CV rfl rfl) (wo ho (wv (A0 (i:=0) Dn rfl rfl rfl) (wo ho (wv (Bd BP rfl) (wo ho (wv (Cl rfl rfl) (D4 rfl ho rfl (wv (Ad EV rfl HO rfl rfl) (BD (i:=1) HO rfl rfl (Ck rfl) rfl rfl (cs':=[rI .i64 ha.fDepth,rI .i64 (IntKind.wrap .i64 (ha.fBytes+(hl+1))),rB ha.fOutside,rB (decide (200<(((Ay v hb).fStr).length:Int)))]) rfl (H':=[.blk hf (Ab (Ay v hb)) 78,.blk b2 [rI .i64 ha.fDepth,rI .i64 (IntKind.wrap .i64 (ha.fBytes+(hl+1))),rB ha.fOutside,rB (decide (200<(((Ay v hb).fStr).length:Int)))] 132,.blk b1 [rI .i64 0,rI .i64 0,rB false,rB false] 132,.row he 161 5 (List.map AD ht)]) rfl (Al (H9 (H':=[.blk hf (Ab (Ay v hb)) 78,.blk b2 [rI .i64 ha.fDepth,rI .i64 (IntKind.wrap .i64 (ha.fBytes+(hl+1))),rB ha.fOutside,rB (ha.fLong||(decide (200<(((Ay v hb).fStr).length:Int))))] 132,.blk b1 [rI .i64 0,rI .i64 0,rB false,rB false] 132,.row he 161 5 (List.map AD ht)]) (by simp only[ho,AaW,Abc,Abm,AaZ,Abf,Abe,Abl,Abg,AaV,Abd,AaQ,AaN]) ?_))))))))))));exact wt
       exact B9 (A5 (Bm (Aq (AG ((ht,(AR.mk ha.fDepth (IntKind.wrap .i64 (ha.fBytes+(hl+1))) ha.fOutside (ha.fLong||(decide (200<(((Ay v hb).fStr).length:Int)))))),he) gr (AQ.c rfl (AQ.c rfl (AQ.c5 rfl rfl rfl rfl rfl AQ.nil))) (sS (sC (sC (sC sN))))))))
     ·have gs:=AC h8 hJ;refine At (AN (Ak (wv (Ad EV rfl Cu rfl rfl) (wv (A0 (i:=1) Dd rfl rfl rfl) (wm rfl (wv (C6 (ys:=hd) (enc:=AD) (i:=3) IS rfl rfl) ?_))))));obtain⟨gt,gu⟩:=Av gs;refine wv (Bi rfl rfl gt) (wv (Y3 P9 rfl rfl) (wv (Ad EV rfl Cu rfl rfl) (BD (i:=1) Cu rfl rfl (Ck rfl) rfl rfl (cs':=[rI .i64 (max ha.fDepth ((hd.length:Int)+1)),rI .i64 ha.fBytes,rB ha.fOutside,rB ha.fLong]) rfl (H':=[.blk hf (Ab (Ay v hb)) 78,.blk b2 [rI .i64 (max ha.fDepth ((hd.length:Int)+1)),rI .i64 ha.fBytes,rB ha.fOutside,rB ha.fLong] 132,.blk b1 [rI .i64 0,rI .i64 0,rB false,rB false] 132,.row he 161 5 (List.map AD hd)]) rfl (Ar (Am ?_)))));obtain⟨hg,gv,gw⟩:=AL gu;refine Ia (H1:=[.blk hf (Ab (Ay v hb)) 78,.blk b2 [rI .i64 (max ha.fDepth ((hd.length:Int)+1)),rI .i64 (IntKind.wrap .i64 (ha.fBytes+hg)),rB ha.fOutside,rB ha.fLong] 132,.blk b1 [rI .i64 0,rI .i64 0,rB false,rB false] 132,.row he 161 5 (List.map AD hd)]) [0,3,5,6,7,8,11,12,13] [⟨[],rv (.pointer (some ⟨b2,1,none⟩)),0⟩,⟨[0],rI .i64 ha.fBytes,1⟩,⟨[],Bz (Ab (Ay v hb)),1⟩,⟨[2],rI .i64 hg,0⟩,⟨[1,3],rI .i64 (IntKind.wrap .i64 (ha.fBytes+hg)),0⟩,⟨[],rv (.pointer (some ⟨b2,1,none⟩)),0⟩,⟨[5,4],rv undef,2⟩] (rle [(7,_),(1,[.blk hf (Ab (Ay v hb)) 78,.blk b2 [rI .i64 (max ha.fDepth ((hd.length:Int)+1)),rI .i64 (IntKind.wrap .i64 (ha.fBytes+hg)),rB ha.fOutside,rB ha.fLong] 132,.blk b1 [rI .i64 0,rI .i64 0,rB false,rB false] 132,.row he 161 5 (List.map AD hd)])]) [92,93,94,95,96,97,0,3,5,6,7,8,11,12,13] ?_ ?_
      ·refine oq (Ad EV rfl Cu rfl rfl) (of (A0 (i:=1) Dd rfl rfl rfl) (of (Bs (i:=0) L2 Cb rfl rfl rfl rfl) (GX rfl (λH=>N1 Tryz.call133 (Xq (Ay v hb) hg gv) rfl) ?_)));refine oq (RK rfl rfl) (oq (Ad EV rfl Cu rfl rfl) (Lf rfl (Q0 (OO (i:=1) Cu rfl rfl (Ck rfl) rfl rfl (cs':=[rI .i64 (max ha.fDepth ((hd.length:Int)+1)),rI .i64 (IntKind.wrap .i64 (ha.fBytes+hg)),rB ha.fOutside,rB ha.fLong]) rfl (H':=[.blk hf (Ab (Ay v hb)) 78,.blk b2 [rI .i64 (max ha.fDepth ((hd.length:Int)+1)),rI .i64 (IntKind.wrap .i64 (ha.fBytes+hg)),rB ha.fOutside,rB ha.fLong] 132,.blk b1 [rI .i64 0,rI .i64 0,rB false,rB false] 132,.row he 161 5 (List.map AD hd)]) rfl)) ?_));exact CL
      refine AN ?_;obtain⟨gx,hL⟩:=Av gw;refine AA [(0,Bo 4 (List.map Ab v)),(3,rv (.pointer (some ⟨b1,0,none⟩))),(5,rv (.pointer (some ⟨b2,0,none⟩))),(6,rv he),(7,rI .i64 hb),(8,rv (.pointer (some ⟨hf,0,none⟩))),(11,Bo 4 (List.map Ab v)),(12,rI .i64 (v.length:Int)),(13,rI .i64 hb),(92,rv (.pointer (some ⟨b2,1,none⟩))),(93,rI .i64 ha.fBytes),(94,Bz (Ab (Ay v hb))),(95,rI .i64 hg),(96,rI .i64 (IntKind.wrap .i64 (ha.fBytes+hg))),(97,rv (.pointer (some ⟨b2,1,none⟩)))] [.blk hf (Ab (Ay v hb)) 78,.blk b2 [rI .i64 (max ha.fDepth ((hd.length:Int)+1)),rI .i64 (IntKind.wrap .i64 (ha.fBytes+hg)),rB (ha.fOutside||((decide (((Ay v hb).fKind)=3))&&(!(ov (BG ((Ay v hb).fInt)))))),rB ha.fLong] 132,.blk b1 [rI .i64 0,rI .i64 0,rB false,rB false] 132,.row he 161 5 (List.map AD hd)] ?_ ?_
      ·refine Aj (wv (Ad EV rfl HO rfl rfl) (wv (A0 (i:=1) Sk rfl rfl rfl) (wm rfl (AH (ha.fOutside) (λhm=>?_) (λhm=>?_)))))
       ·refine wf hm (wf hm (wf hm (wf hm (wu (wu (wu (wu (wf hm (wv (r:=rB true) (As (b:=ha.fOutside) rfl hm rfl) (wv (Ad EV rfl HO rfl rfl) (BD (i:=1) HO rfl rfl (Ck rfl) rfl rfl (cs':=[rI .i64 (max ha.fDepth ((hd.length:Int)+1)),rI .i64 (IntKind.wrap .i64 (ha.fBytes+hg)),rB true,rB ha.fLong]) rfl (H':=[.blk hf (Ab (Ay v hb)) 78,.blk b2 [rI .i64 (max ha.fDepth ((hd.length:Int)+1)),rI .i64 (IntKind.wrap .i64 (ha.fBytes+hg)),rB true,rB ha.fLong] 132,.blk b1 [rI .i64 0,rI .i64 0,rB false,rB false] 132,.row he 161 5 (List.map AD hd)]) rfl (Al (H9 (H':=[.blk hf (Ab (Ay v hb)) 78,.blk b2 [rI .i64 (max ha.fDepth ((hd.length:Int)+1)),rI .i64 (IntKind.wrap .i64 (ha.fBytes+hg)),rB (ha.fOutside||((decide (((Ay v hb).fKind)=3))&&(!(ov (BG ((Ay v hb).fInt)))))),rB ha.fLong] 132,.blk b1 [rI .i64 0,rI .i64 0,rB false,rB false] 132,.row he 161 5 (List.map AD hd)]) (by simp only[hm,AaW,Abc,Abm,AaZ,Abf,Abe,Abl,Abg,AaV,Abd,AaQ,AaN]) ?_)))))))))))));exact wt
       ·refine wo hm (wv (Ad B5 rfl DX rfl rfl) (wo hm (wv (A0 (i:=0) Ex rfl rfl rfl) (wo hm (wv (B3 rfl rfl) (wo hm (wm rfl (AH (decide (((Ay v hb).fKind)=3)) (λhn=>?_) (λhn=>?_)))))))))
        ·refine wo hn (wv (Ad B5 rfl Cu rfl rfl) (wo hn (wv (A0 (i:=0) Dd rfl rfl rfl) (wo hn (Co Tryz.call82 (VU ((Ay v hb).fInt) (ov (BG ((Ay v hb).fInt))) (Gr (C0 (C4 gx hm) hn))) rfl (wo hn (wv (BJ rfl) (wo hm (Gk rfl hn rfl (D4 rfl hm rfl (wv (Ad EV rfl HO rfl rfl) (BD (i:=1) HO rfl rfl (Ck rfl) rfl rfl (cs':=[rI .i64 (max ha.fDepth ((hd.length:Int)+1)),rI .i64 (IntKind.wrap .i64 (ha.fBytes+hg)),rB (!(ov (BG ((Ay v hb).fInt)))),rB ha.fLong]) rfl (H':=[.blk hf (Ab (Ay v hb)) 78,.blk b2 [rI .i64 (max ha.fDepth ((hd.length:Int)+1)),rI .i64 (IntKind.wrap .i64 (ha.fBytes+hg)),rB (!(ov (BG ((Ay v hb).fInt)))),rB ha.fLong] 132,.blk b1 [rI .i64 0,rI .i64 0,rB false,rB false] 132,.row he 161 5 (List.map AD hd)]) rfl (Al (H9 (H':=[.blk hf (Ab (Ay v hb)) 78,.blk b2 [rI .i64 (max ha.fDepth ((hd.length:Int)+1)),rI .i64 (IntKind.wrap .i64 (ha.fBytes+hg)),rB (ha.fOutside||((decide (((Ay v hb).fKind)=3))&&(!(ov (BG ((Ay v hb).fInt)))))),rB ha.fLong] 132,.blk b1 [rI .i64 0,rI .i64 0,rB false,rB false] 132,.row he 161 5 (List.map AD hd)]) (by simp only[hm,hn,AaW,Abc,Abm,AaZ,Abf,Abe,Abl,Abg,AaV,Abd,AaQ,AaN]) ?_))))))))))))));exact wt
        ·refine wf hn (wf hn (wf hn (wf hn (wo hm (wv (r:=rB false) (A4 (b:=decide (((Ay v hb).fKind)=3)) rfl hn rfl) (D4 rfl hm rfl (wv (Ad EV rfl HO rfl rfl) (BD (i:=1) HO rfl rfl (Ck rfl) rfl rfl (cs':=[rI .i64 (max ha.fDepth ((hd.length:Int)+1)),rI .i64 (IntKind.wrap .i64 (ha.fBytes+hg)),rB false,rB ha.fLong]) rfl (H':=[.blk hf (Ab (Ay v hb)) 78,.blk b2 [rI .i64 (max ha.fDepth ((hd.length:Int)+1)),rI .i64 (IntKind.wrap .i64 (ha.fBytes+hg)),rB false,rB ha.fLong] 132,.blk b1 [rI .i64 0,rI .i64 0,rB false,rB false] 132,.row he 161 5 (List.map AD hd)]) rfl (Al (H9 (H':=[.blk hf (Ab (Ay v hb)) 78,.blk b2 [rI .i64 (max ha.fDepth ((hd.length:Int)+1)),rI .i64 (IntKind.wrap .i64 (ha.fBytes+hg)),rB (ha.fOutside||((decide (((Ay v hb).fKind)=3))&&(!(ov (BG ((Ay v hb).fInt)))))),rB ha.fLong] 132,.blk b1 [rI .i64 0,rI .i64 0,rB false,rB false] 132,.row he 161 5 (List.map AD hd)]) (by simp only[hm,hn,AaW,Abc,Abm,AaZ,Abf,Abe,Abl,Abg,AaV,Abd,AaQ,AaN]) ?_))))))))));exact wt
      refine AA [(0,Bo 4 (List.map Ab v)),(3,rv (.pointer (some ⟨b1,0,none⟩))),(5,rv (.pointer (some ⟨b2,0,none⟩))),(6,rv he),(7,rI .i64 hb),(8,rv (.pointer (some ⟨hf,0,none⟩))),(11,Bo 4 (List.map Ab v)),(12,rI .i64 (v.length:Int)),(13,rI .i64 hb),(92,rv (.pointer (some ⟨b2,1,none⟩))),(93,rI .i64 ha.fBytes),(94,Bz (Ab (Ay v hb))),(95,rI .i64 hg),(96,rI .i64 (IntKind.wrap .i64 (ha.fBytes+hg))),(97,rv (.pointer (some ⟨b2,1,none⟩)))] [.blk hf (Ab (Ay v hb)) 78,.blk b2 [rI .i64 (max ha.fDepth ((hd.length:Int)+1)),rI .i64 (IntKind.wrap .i64 (ha.fBytes+hg)),rB (ha.fOutside||((decide (((Ay v hb).fKind)=3))&&(!(ov (BG ((Ay v hb).fInt)))))),rB (ha.fLong||(decide (200<(((Ay v hb).fStr).length:Int))))] 132,.blk b1 [rI .i64 0,rI .i64 0,rB false,rB false] 132,.row he 161 5 (List.map AD hd)] ?_ ?_
      ·refine Aj (wv (Ad EV rfl HO rfl rfl) (wv (A0 (i:=1) Sk rfl rfl rfl) (wm rfl (AH (ha.fLong) (λhp=>?_) (λhp=>?_)))))
       ·refine wf hp (wf hp (wf hp (wf hp (wv (r:=rB true) (As (b:=ha.fLong) rfl hp rfl) (wv (Ad EV rfl HO rfl rfl) (BD (i:=1) HO rfl rfl (Ck rfl) rfl rfl (cs':=[rI .i64 (max ha.fDepth ((hd.length:Int)+1)),rI .i64 (IntKind.wrap .i64 (ha.fBytes+hg)),rB (ha.fOutside||((decide (((Ay v hb).fKind)=3))&&(!(ov (BG ((Ay v hb).fInt)))))),rB true]) rfl (H':=[.blk hf (Ab (Ay v hb)) 78,.blk b2 [rI .i64 (max ha.fDepth ((hd.length:Int)+1)),rI .i64 (IntKind.wrap .i64 (ha.fBytes+hg)),rB (ha.fOutside||((decide (((Ay v hb).fKind)=3))&&(!(ov (BG ((Ay v hb).fInt)))))),rB true] 132,.blk b1 [rI .i64 0,rI .i64 0,rB false,rB false] 132,.row he 161 5 (List.map AD hd)]) rfl (Al (H9 (H':=[.blk hf (Ab (Ay v hb)) 78,.blk b2 [rI .i64 (max ha.fDepth ((hd.length:Int)+1)),rI .i64 (IntKind.wrap .i64 (ha.fBytes+hg)),rB (ha.fOutside||((decide (((Ay v hb).fKind)=3))&&(!(ov (BG ((Ay v hb).fInt)))))),rB (ha.fLong||(decide (200<(((Ay v hb).fStr).length:Int))))] 132,.blk b1 [rI .i64 0,rI .i64 0,rB false,rB false] 132,.row he 161 5 (List.map AD hd)]) (by simp only[hp,AaW,Abc,Abm,AaZ,Abf,Abe,Abl,Abg,AaV,Abd,AaQ,AaN]) ?_))))))));exact wt
       ·refine wo hp (wv (Ad B5 rfl CV rfl rfl) (wo hp (wv (A0 (i:=0) Dn rfl rfl rfl) (wo hp (wv (Bd BP rfl) (wo hp (wv (Cl rfl rfl) (D4 rfl hp rfl (wv (Ad EV rfl HO rfl rfl) (BD (i:=1) HO rfl rfl (Ck rfl) rfl rfl (cs':=[rI .i64 (max ha.fDepth ((hd.length:Int)+1)),rI .i64 (IntKind.wrap .i64 (ha.fBytes+hg)),rB (ha.fOutside||((decide (((Ay v hb).fKind)=3))&&(!(ov (BG ((Ay v hb).fInt)))))),rB (decide (200<(((Ay v hb).fStr).length:Int)))]) rfl (H':=[.blk hf (Ab (Ay v hb)) 78,.blk b2 [rI .i64 (max ha.fDepth ((hd.length:Int)+1)),rI .i64 (IntKind.wrap .i64 (ha.fBytes+hg)),rB (ha.fOutside||((decide (((Ay v hb).fKind)=3))&&(!(ov (BG ((Ay v hb).fInt)))))),rB (decide (200<(((Ay v hb).fStr).length:Int)))] 132,.blk b1 [rI .i64 0,rI .i64 0,rB false,rB false] 132,.row he 161 5 (List.map AD hd)]) rfl (Al (H9 (H':=[.blk hf (Ab (Ay v hb)) 78,.blk b2 [rI .i64 (max ha.fDepth ((hd.length:Int)+1)),rI .i64 (IntKind.wrap .i64 (ha.fBytes+hg)),rB (ha.fOutside||((decide (((Ay v hb).fKind)=3))&&(!(ov (BG ((Ay v hb).fInt)))))),rB (ha.fLong||(decide (200<(((Ay v hb).fStr).length:Int))))] 132,.blk b1 [rI .i64 0,rI .i64 0,rB false,rB false] 132,.row he 161 5 (List.map AD hd)]) (by simp only[hp,AaW,Abc,Abm,AaZ,Abf,Abe,Abl,Abg,AaV,Abd,AaQ,AaN]) ?_))))))))))));exact wt
      refine Am (Ak (wv (Ad B5 rfl Cu rfl rfl) (wv (A0 (i:=0) Dd rfl rfl rfl) (wv (Cl rfl rfl) (Ar (Ap (b:=decide (0<((Ay v hb).fN))) rfl (λhA=>?_) (λhA=>?_)))))))
      ·have hN:=AB hA hL;refine Am (Ak (wv (Ad B5 rfl Cu rfl rfl) (wv (A0 (i:=0) Dd rfl rfl rfl) (wm rfl (wv (BT (ys:=v) (enc:=Ab) BN rfl) (wv (Cl rfl rfl) (Ar (Ap (b:=decide ((v.length:Int)<((Ay v hb).fN))) rfl (λhB=>?_) (λhB=>?_)))))))))
       ·have gy:=AB hB hN;refine Am (Ia (H1:=[.blk hf (Ab (Ay v hb)) 78,.blk b2 [rI .i64 (max ha.fDepth ((hd.length:Int)+1)),rI .i64 (IntKind.wrap .i64 (ha.fBytes+hg)),rB (ha.fOutside||((decide (((Ay v hb).fKind)=3))&&(!(ov (BG ((Ay v hb).fInt)))))),rB (ha.fLong||(decide (200<(((Ay v hb).fStr).length:Int))))] 132,.blk b1 [rI .i64 (max ha.fDepth ((hd.length:Int)+1)),rI .i64 (IntKind.wrap .i64 (ha.fBytes+hg)),rB (ha.fOutside||((decide (((Ay v hb).fKind)=3))&&(!(ov (BG ((Ay v hb).fInt)))))),rB (ha.fLong||(decide (200<(((Ay v hb).fStr).length:Int))))] 132,.row he 161 5 (List.map AD hd)]) [3,5] [⟨[],Bz [rI .i64 (max ha.fDepth ((hd.length:Int)+1)),rI .i64 (IntKind.wrap .i64 (ha.fBytes+hg)),rB (ha.fOutside||((decide (((Ay v hb).fKind)=3))&&(!(ov (BG ((Ay v hb).fInt)))))),rB (ha.fLong||(decide (200<(((Ay v hb).fStr).length:Int))))],1⟩,⟨[],rI .i64 0,0⟩,⟨[0],rv undef,2⟩,⟨[],rB false,0⟩] (rle [(3,_),(2,[.blk hf (Ab (Ay v hb)) 78,.blk b2 [rI .i64 (max ha.fDepth ((hd.length:Int)+1)),rI .i64 (IntKind.wrap .i64 (ha.fBytes+hg)),rB (ha.fOutside||((decide (((Ay v hb).fKind)=3))&&(!(ov (BG ((Ay v hb).fInt)))))),rB (ha.fLong||(decide (200<(((Ay v hb).fStr).length:Int))))] 132,.blk b1 [rI .i64 (max ha.fDepth ((hd.length:Int)+1)),rI .i64 (IntKind.wrap .i64 (ha.fBytes+hg)),rB (ha.fOutside||((decide (((Ay v hb).fKind)=3))&&(!(ov (BG ((Ay v hb).fInt)))))),rB (ha.fLong||(decide (200<(((Ay v hb).fStr).length:Int))))] 132,.row he 161 5 (List.map AD hd)])]) [2,4,3] ?_ ?_)
        ·refine of (Bs (i:=1) Kc Gy rfl rfl rfl rfl) (oq (Ac rfl) (Lf rfl (Q0 (DR (i:=2) Gy rfl rfl rfl (BM.c rfl) rfl rfl (cs':=[rI .i64 (max ha.fDepth ((hd.length:Int)+1)),rI .i64 (IntKind.wrap .i64 (ha.fBytes+hg)),rB (ha.fOutside||((decide (((Ay v hb).fKind)=3))&&(!(ov (BG ((Ay v hb).fInt)))))),rB (ha.fLong||(decide (200<(((Ay v hb).fStr).length:Int))))]) rfl (H':=[.blk hf (Ab (Ay v hb)) 78,.blk b2 [rI .i64 (max ha.fDepth ((hd.length:Int)+1)),rI .i64 (IntKind.wrap .i64 (ha.fBytes+hg)),rB (ha.fOutside||((decide (((Ay v hb).fKind)=3))&&(!(ov (BG ((Ay v hb).fInt)))))),rB (ha.fLong||(decide (200<(((Ay v hb).fStr).length:Int))))] 132,.blk b1 [rI .i64 (max ha.fDepth ((hd.length:Int)+1)),rI .i64 (IntKind.wrap .i64 (ha.fBytes+hg)),rB (ha.fOutside||((decide (((Ay v hb).fKind)=3))&&(!(ov (BG ((Ay v hb).fInt)))))),rB (ha.fLong||(decide (200<(((Ay v hb).fStr).length:Int))))] 132,.row he 161 5 (List.map AD hd)]) rfl)) ?_));refine oq (Ac rfl) ?_;exact CL
        refine AN (Ax (Af (Af (A3 (Af (Af (Bc ?_)))))));have gz:=B1 gy hx hy;refine A3 (Af (J5 ?_));obtain rfl:=Az gz;exact Aw (Z1 PL (AJ rfl) (GV (i:=2) Kc Gy rfl rfl rfl) (AJ rfl)) (sS (sS (sS (sS sN)))) ⟨rfl,rfl⟩
       ·have g0:=AC hB hN;refine At (AN (Ak (wm rfl (wv (Ad B5 rfl DX rfl rfl) (wv (A0 (i:=0) Ex rfl rfl rfl) (wv (B3 rfl rfl) (wv (Ad B5 rfl Cu rfl rfl) (wv (A0 (i:=0) Dd rfl rfl rfl) (wv (Ad B5 rfl DX rfl rfl) (wv (A0 (i:=0) Ex rfl rfl rfl) (wv (B3 rfl rfl) (wv (r:=Bz [rB (decide (((Ay v hb).fKind)=6)),rI .i64 ((Ay v hb).fN),rB (decide (((Ay v hb).fKind)=6)),rS ([]:Ah),rB false]) (LG rfl rfl rfl rfl rfl rfl) (AY (ys:=([(AE.mk (decide (((Ay v hb).fKind)=6)) ((Ay v hb).fN) (decide (((Ay v hb).fKind)=6)) ([]:Ah) false)]:List AE)) (enc:=AD) (css:=[[rB (decide (((Ay v hb).fKind)=6)),rI .i64 ((Ay v hb).fN),rB (decide (((Ay v hb).fKind)=6)),rS ([]:Ah),rB false]]) (xs:=[.tmp 139]) IS PH Tryz.zeroValue161 rfl rfl rfl ⟨Gw.agg ⟨Up.refl _,Up.refl _,Up.refl _,Up.refl _,Up.refl _,trivial⟩,trivial⟩ rfl IY rfl rfl rfl (λg1=>?_))))))))))))));obtain⟨g2,g3⟩:=Av g0;obtain⟨inf,hinf⟩:=XY;refine BV (xs:=hd) (ys:=([(AE.mk (decide (((Ay v hb).fKind)=6)) ((Ay v hb).fN) (decide (((Ay v hb).fKind)=6)) ([]:Ah) false)]:List AE)) (enc:=AD) (i:=4) IS hinf.1 hinf.2.1 hinf.2.2.1 hinf.2.2.2 rfl rfl rfl rfl rfl (JW.w (i:=0) rfl rfl) IY M1 g2 rfl (λhO=>?_);exact wa rfl (Ar (B9 (A5 (Bm (Ca (H2:=[.blk b2 [rI .i64 (max ha.fDepth ((hd.length:Int)+1)),rI .i64 (IntKind.wrap .i64 (ha.fBytes+hg)),rB (ha.fOutside||((decide (((Ay v hb).fKind)=3))&&(!(ov (BG ((Ay v hb).fInt)))))),rB (ha.fLong||(decide (200<(((Ay v hb).fStr).length:Int))))] 132,.blk b1 [rI .i64 0,rI .i64 0,rB false,rB false] 132,.row hO 161 5 (List.map AD (hd++([(AE.mk (decide (((Ay v hb).fKind)=6)) ((Ay v hb).fN) (decide (((Ay v hb).fKind)=6)) ([]:Ah) false)]:List AE))),.row (.slice (some ⟨g1,0,none⟩) 1 1) 161 5 (List.map AD ([(AE.mk (decide (((Ay v hb).fKind)=6)) ((Ay v hb).fN) (decide (((Ay v hb).fKind)=6)) ([]:Ah) false)]:List AE)),.blk hf (Ab (Ay v hb)) 78]) ((A9 (i:=3) rfl).trans (AaT _ ((A9 (i:=3) rfl).trans (AaT _ (AaP _))))) (Aq (AG ((hd++([(AE.mk (decide (((Ay v hb).fKind)=6)) ((Ay v hb).fN) (decide (((Ay v hb).fKind)=6)) ([]:Ah) false)]:List AE),(AR.mk (max ha.fDepth ((hd.length:Int)+1)) (IntKind.wrap .i64 (ha.fBytes+hg)) (ha.fOutside||((decide (((Ay v hb).fKind)=3))&&(!(ov (BG ((Ay v hb).fInt)))))) (ha.fLong||(decide (200<(((Ay v hb).fStr).length:Int)))))),hO) g3 (AQ.c rfl (AQ.c rfl (AQ.c5 rfl rfl rfl rfl rfl AQ.nil))) (sC (sC (sC (sS (sS sN))))))))))))
      ·have g4:=AC hA hL;refine At (AN (Ak (wm rfl ?_)));obtain⟨hu,g5,hP⟩:=AL g4;refine Gx (Hr:=[.blk hf (Ab (Ay v hb)) 78,.blk b2 [rI .i64 (max ha.fDepth ((hd.length:Int)+1)),rI .i64 (IntKind.wrap .i64 (ha.fBytes+hg)),rB (ha.fOutside||((decide (((Ay v hb).fKind)=3))&&(!(ov (BG ((Ay v hb).fInt)))))),rB (ha.fLong||(decide (200<(((Ay v hb).fStr).length:Int))))] 132,.blk b1 [rI .i64 0,rI .i64 0,rB false,rB false] 132]) Tryz.call134 (Tz F he hd hu g5) rfl ((A9 (i:=3) rfl).trans (AaT _ (AaP _))) rfl ?_;rintro _ _ ⟨h0,rfl,rfl⟩;refine wa rfl (By (wm rfl (wv (C6 (ys:=hu) (enc:=AD) (i:=0) IS rfl rfl) (wv (B3 rfl rfl) (Ar (Ap (b:=decide ((hu.length:Int)=0)) rfl (λhC=>?_) (λhC=>?_)))))))
       ·have g6:=AB hC hP;refine Am ?_;obtain⟨g7,g8⟩:=Av g6;refine Ia (H1:=[.row h0 161 5 (List.map AD hu),.blk hf (Ab (Ay v hb)) 78,.blk b2 [rI .i64 (max ha.fDepth ((hd.length:Int)+1)),rI .i64 (IntKind.wrap .i64 (ha.fBytes+hg)),rB (ha.fOutside||((decide (((Ay v hb).fKind)=3))&&(!(ov (BG ((Ay v hb).fInt)))))),rB (ha.fLong||(decide (200<(((Ay v hb).fStr).length:Int))))] 132,.blk b1 [rI .i64 (max ha.fDepth ((hd.length:Int)+1)),rI .i64 (IntKind.wrap .i64 (ha.fBytes+hg)),rB (ha.fOutside||((decide (((Ay v hb).fKind)=3))&&(!(ov (BG ((Ay v hb).fInt)))))),rB (ha.fLong||(decide (200<(((Ay v hb).fStr).length:Int))))] 132]) [3,5,7] [⟨[],rI .i64 hb,0⟩,⟨[0],rI .i64 (hb+1),0⟩,⟨[],Bz [rI .i64 (max ha.fDepth ((hd.length:Int)+1)),rI .i64 (IntKind.wrap .i64 (ha.fBytes+hg)),rB (ha.fOutside||((decide (((Ay v hb).fKind)=3))&&(!(ov (BG ((Ay v hb).fInt)))))),rB (ha.fLong||(decide (200<(((Ay v hb).fStr).length:Int))))],1⟩,⟨[1],rI .i64 (hb+1),0⟩,⟨[2],rv undef,2⟩,⟨[],rB true,0⟩] (rle [(5,_),(2,[.row h0 161 5 (List.map AD hu),.blk hf (Ab (Ay v hb)) 78,.blk b2 [rI .i64 (max ha.fDepth ((hd.length:Int)+1)),rI .i64 (IntKind.wrap .i64 (ha.fBytes+hg)),rB (ha.fOutside||((decide (((Ay v hb).fKind)=3))&&(!(ov (BG ((Ay v hb).fInt)))))),rB (ha.fLong||(decide (200<(((Ay v hb).fStr).length:Int))))] 132,.blk b1 [rI .i64 (max ha.fDepth ((hd.length:Int)+1)),rI .i64 (IntKind.wrap .i64 (ha.fBytes+hg)),rB (ha.fOutside||((decide (((Ay v hb).fKind)=3))&&(!(ov (BG ((Ay v hb).fInt)))))),rB (ha.fLong||(decide (200<(((Ay v hb).fStr).length:Int))))] 132])]) [2,4,3] ?_ ?_
        ·refine oq (Au rfl) (oq (Bi rfl rfl g7) (of (Bs (i:=2) Kc Gy rfl rfl rfl rfl) (oq (Ac rfl) (Lf rfl (Q0 (DR (i:=3) Gy rfl rfl rfl (BM.c rfl) rfl rfl (cs':=[rI .i64 (max ha.fDepth ((hd.length:Int)+1)),rI .i64 (IntKind.wrap .i64 (ha.fBytes+hg)),rB (ha.fOutside||((decide (((Ay v hb).fKind)=3))&&(!(ov (BG ((Ay v hb).fInt)))))),rB (ha.fLong||(decide (200<(((Ay v hb).fStr).length:Int))))]) rfl (H':=[.row h0 161 5 (List.map AD hu),.blk hf (Ab (Ay v hb)) 78,.blk b2 [rI .i64 (max ha.fDepth ((hd.length:Int)+1)),rI .i64 (IntKind.wrap .i64 (ha.fBytes+hg)),rB (ha.fOutside||((decide (((Ay v hb).fKind)=3))&&(!(ov (BG ((Ay v hb).fInt)))))),rB (ha.fLong||(decide (200<(((Ay v hb).fStr).length:Int))))] 132,.blk b1 [rI .i64 (max ha.fDepth ((hd.length:Int)+1)),rI .i64 (IntKind.wrap .i64 (ha.fBytes+hg)),rB (ha.fOutside||((decide (((Ay v hb).fKind)=3))&&(!(ov (BG ((Ay v hb).fInt)))))),rB (ha.fLong||(decide (200<(((Ay v hb).fStr).length:Int))))] 132]) rfl)) ?_))));refine oq (Ac rfl) ?_;exact CL
        refine AN (Ax (A3 (Af (Af (Bc ?_)))));have g9:=B1 g8 hx hy;refine A3 (Af (J5 ?_));obtain rfl:=Az g9;exact Aw (Z1 PL (AJ rfl) (GV (i:=3) Kc Gy rfl rfl rfl) (AJ rfl)) (sS (sS (sS (sS sN)))) ⟨rfl,rfl⟩
       ·have gA:=AC hC hP;exact At (AK (Ca (H2:=[.blk b2 [rI .i64 (max ha.fDepth ((hd.length:Int)+1)),rI .i64 (IntKind.wrap .i64 (ha.fBytes+hg)),rB (ha.fOutside||((decide (((Ay v hb).fKind)=3))&&(!(ov (BG ((Ay v hb).fInt)))))),rB (ha.fLong||(decide (200<(((Ay v hb).fStr).length:Int))))] 132,.blk b1 [rI .i64 0,rI .i64 0,rB false,rB false] 132,.row h0 161 5 (List.map AD hu),.blk hf (Ab (Ay v hb)) 78]) ((A9 (i:=2) rfl).trans (AaT _ ((A9 (i:=2) rfl).trans (AaT _ (AaP _))))) (Aq (AG ((hu,(AR.mk (max ha.fDepth ((hd.length:Int)+1)) (IntKind.wrap .i64 (ha.fBytes+hg)) (ha.fOutside||((decide (((Ay v hb).fKind)=3))&&(!(ov (BG ((Ay v hb).fInt)))))) (ha.fLong||(decide (200<(((Ay v hb).fStr).length:Int)))))),h0) gA (AQ.c rfl (AQ.c rfl (AQ.c5 rfl rfl rfl rfl rfl AQ.nil))) (sC (sC (sC (sS sN))))))))
   ·rintro⟨⟨hD,hE⟩,hG⟩ h2;refine Bb (l':=[(0,Bo 4 (List.map Ab v)),(3,rv (.pointer (some ⟨b1,0,none⟩))),(5,rv (.pointer (some ⟨b2,0,none⟩))),(6,rv hG),(11,Bo 4 (List.map Ab v)),(12,rI .i64 (v.length:Int)),(13,rI .i64 hb)]) (H':=[.blk b2 (AZ hE) 132,.blk b1 [rI .i64 0,rI .i64 0,rB false,rB false] 132,.row hG 161 5 (List.map AD hD)]) rfl rfl ?_;replace h2:EE hb hD hE=some h4:=h2;unfold EE at h2;refine Aj ?_;obtain⟨gB,gC⟩:=Av h2;refine wv (Bi rfl rfl gB) (wm rfl (Al ?_));have gD:=Bk gC hx;exact Aq (AG (hT,(hD,hb+1,hE),hG) ⟨gD,AaX _⟩ (AQ.c rfl (AQ.c rfl (AQ.c5 rfl rfl rfl rfl rfl AQ.nil))) (sC (sC (sC sN))))
  ·have gE:=AC h5 hz;refine B9 (A5 ?_);have gF:=Cj gE hx hy;exact A5 (Br (AG (ha,()) gF (AQ.c rfl (AQ.c rfl AQ.nil)) (sC (sC (sS sN)))))
 ·rintro⟨hq,⟨⟩⟩ h3;refine CR (l':=[(3,rv (.pointer (some ⟨b1,0,none⟩))),(5,rv (.pointer (some ⟨b2,0,none⟩)))]) (H':=[.blk b2 (AZ hq) 132,.blk b1 [rI .i64 0,rI .i64 0,rB false,rB false] 132]) rfl rfl ?_;replace h3:KF hq=some r:=h3;unfold KF at h3;refine Bm (AN (Am (Ia (H1:=[.blk b2 (AZ hq) 132,.blk b1 (AZ hq) 132]) [3,5] [⟨[],Bz (AZ hq),1⟩,⟨[],rI .i64 0,0⟩,⟨[0],rv undef,2⟩,⟨[],rB false,0⟩] (rle [(3,_),(2,[.blk b2 (AZ hq) 132,.blk b1 (AZ hq) 132])]) [2,4,3] ?_ ?_)))
  ·refine of (Bs (i:=0) Kc Gy rfl rfl rfl rfl) (oq (Ac rfl) (Lf rfl (Q0 (DR (i:=1) Gy rfl rfl rfl (BM.c rfl) rfl rfl (cs':=[rI .i64 hq.fDepth,rI .i64 hq.fBytes,rB hq.fOutside,rB hq.fLong]) rfl (H':=[.blk b2 (AZ hq) 132,.blk b1 (AZ hq) 132]) rfl)) ?_));refine oq (Ac rfl) ?_;exact CL
  refine AN (Ax (J5 ?_));obtain rfl:=Az h3;exact Aw (Z1 PL (AJ rfl) (GV (i:=1) Kc Gy rfl rfl rfl) (AJ rfl)) (sS (sS sN)) ⟨rfl,rfl⟩
theorem Nh (F:Nat)(v:(List Aa))(r:Int)(h:Kl F v=some r):Fn Tryz.prog GE 72 [Bo 4 (List.map Ab v)] [] (λR H=>R=rI .i64 r∧H=[]):=by
 refine enter (n:=42) Tryz.func72 rfl Tryz.ntmps72 rfl (λw Z=>?_);refine Bb (l':=[(0,Bo 4 (List.map Ab v))]) (H':=[]) rfl rfl ?_;unfold Kl at h;refine Ak (wv (r:=rI .i64 0) (Ac rfl) (By (wm rfl ?_)));obtain⟨r1,e3,h2⟩:=AL h;refine Co Tryz.call101 (OQ F v r1 e3) rfl (wm rfl (wv (AF rfl rfl) (wv (AF rfl rfl) (wv (AF rfl rfl) (Cf (cs:=[rI .i64 0,rI .i64 0,rB false,rB false]) PF rfl rfl (λb4=>?_))))));refine wa rfl (Bq (i:=0) Gy rfl rfl rfl (BM.c rfl) rfl rfl (cs':=[rI .i64 r1.2.1.fDepth,rI .i64 r1.2.1.fBytes,rB r1.2.1.fOutside,rB r1.2.1.fLong]) rfl (H':=[.blk b4 (AZ r1.2.1) 132]) rfl (wa rfl (Ar (Am (AO (AA [(0,Bo 4 (List.map Ab v)),(4,rv (.pointer (some ⟨b4,0,none⟩))),(12,rB ((!r1.2.2)||(!decide (r1.1=(v.length:Int)))))] [.blk b4 (AZ r1.2.1) 132] ?_ ?_))))))
 ·refine Aj (wm rfl (wv (BJ rfl) (wm rfl (AH (!r1.2.2) (λc5=>?_) (λc5=>?_)))))
  ·refine wf c5 (wf c5 (wf c5 (wf c5 (wv (r:=rB true) (As (b:=!r1.2.2) rfl c5 rfl) (wa rfl (Al ?_))))));exact BO c5
  ·refine wo c5 (wm rfl (wo c5 (wm rfl (wo c5 (wv (BT (ys:=v) (enc:=Ab) BN rfl) (wo c5 (wv (CF rfl rfl) (D4 rfl c5 rfl (wa rfl (Al ?_))))))))));exact BO c5
 refine Ap (b:=((!r1.2.2)||(!decide (r1.1=(v.length:Int))))) rfl (λc6=>?_) (λc6=>?_)
 ·have h7:=AB c6 h2;refine Ak (wv (r:=rI .i64 1) (Ac rfl) (Ar (Ax (A3 (Af ?_)))));obtain rfl:=Az h7;exact Aw (BS Xe (AJ rfl)) (sS sN) ⟨rfl,rfl⟩
 ·have h8:=AC c6 h2;refine Ak (wv (Ad EV rfl HO rfl rfl) (wv (A0 (i:=0) Sk rfl rfl rfl) (wa rfl (Ar (Ap (b:=r1.2.1.fOutside) rfl (λc9=>?_) (λc9=>?_))))))
  ·have hg:=AB c9 h8;refine Ak (wv (r:=rI .i64 2) (Ac rfl) (Ar (Ax (A3 (Af ?_)))));obtain rfl:=Az hg;exact Aw (BS Xe (AJ rfl)) (sS sN) ⟨rfl,rfl⟩
  ·have hf:=AC c9 h8;refine AA [(24,rB (r1.2.1.fLong||((decide (200<(v.length:Int)))||((decide (8<r1.2.1.fDepth))||(decide (4000<r1.2.1.fBytes))))))] [] ?_ ?_
   ·refine Aj (wv (Ad EV rfl HO rfl rfl) (wv (A0 (i:=0) Sk rfl rfl rfl) (wm rfl (AH (r1.2.1.fLong) (λha=>?_) (λha=>?_)))))
    ·refine wf ha (wf ha (wf ha (wv (r:=rB true) (As (b:=r1.2.1.fLong) rfl ha rfl) (wm rfl (An (b:=true) rfl rfl rfl rfl (An (b:=true) rfl rfl rfl rfl (An (b:=true) rfl rfl rfl rfl (wv (r:=rB true) (As (b:=true) rfl rfl rfl) (wm rfl (An (b:=true) rfl rfl rfl rfl (An (b:=true) rfl rfl rfl rfl (An (b:=true) rfl rfl rfl rfl (wv (r:=rB true) (As (b:=true) rfl rfl rfl) (wa rfl (Al ?_)))))))))))))));exact BO ha
    ·refine wo ha (wm rfl (wo ha (wv (BT (ys:=v) (enc:=Ab) BN rfl) (wo ha (wv (Cl rfl rfl) (D4 rfl ha rfl (wm rfl (AH (decide (200<(v.length:Int))) (λhb=>?_) (λhb=>?_)))))))))
     ·refine wf hb (wf hb (wf hb (wv (r:=rB true) (As (b:=decide (200<(v.length:Int))) rfl hb rfl) (wm rfl (An (b:=true) rfl rfl rfl rfl (An (b:=true) rfl rfl rfl rfl (An (b:=true) rfl rfl rfl rfl (wv (r:=rB true) (As (b:=true) rfl rfl rfl) (wa rfl (Al ?_))))))))));exact BO (And.intro ha hb)
     ·refine wo hb (wv (Ad EV rfl Cu rfl rfl) (wo hb (wv (A0 (i:=0) Dd rfl rfl rfl) (wo hb (wv (Cl rfl rfl) (D4 rfl hb rfl (wm rfl (AH (decide (8<r1.2.1.fDepth)) (λhd=>?_) (λhd=>?_)))))))))
      ·refine wf hd (wf hd (wf hd (wv (r:=rB true) (As (b:=decide (8<r1.2.1.fDepth)) rfl hd rfl) (wa rfl (Al ?_)))));exact BO (And.intro ha (And.intro hb hd))
      ·refine wo hd (wv (Ad EV rfl Cu rfl rfl) (wo hd (wv (A0 (i:=0) Dd rfl rfl rfl) (wo hd (wv (Cl rfl rfl) (D4 rfl hd rfl (wa rfl (Al ?_))))))));exact BO (And.intro ha (And.intro hb hd))
   refine Ap (b:=(r1.2.1.fLong||((decide (200<(v.length:Int)))||((decide (8<r1.2.1.fDepth))||(decide (4000<r1.2.1.fBytes)))))) rfl (λhe=>?_) (λhe=>?_)
   ·have hh:=AB he hf;refine Ak (wv (r:=rI .i64 3) (Ac rfl) (Ar (Ax (A3 (Af ?_)))));obtain rfl:=Az hh;exact Aw (BS Xe (AJ rfl)) sN ⟨rfl,rfl⟩
   ·have hi:=AC he hf;refine At (AK (AN (Ak (wv (r:=rI .i64 0) (Ac rfl) (Ar (Ax ?_))))));obtain rfl:=Az hi;exact Aw (BS Xe (AJ rfl)) sN ⟨rfl,rfl⟩
theorem Ry (F:Nat)(v:(List Aa))(r:(List Aa)×Int)(h:KJ F v=some r):Fn Tryz.prog GE 84 [Bo 4 (List.map Ab v)] [] (λR H=>R=C5 [Bo 4 (List.map Ab r.1),rI .i64 r.2]∧H=[]):=by
 refine enter (n:=11) Tryz.func84 rfl Tryz.ntmps84 rfl (λw Z=>?_);refine Bb (l':=[(0,Bo 4 (List.map Ab v))]) (H':=[]) rfl rfl ?_;unfold KJ at h;refine Ak (wv (r:=rv (.slice none 0 0)) (Ac rfl) (wv (r:=rI .i64 0) (Ac rfl) (Ar (Am (Ak (wm rfl ?_))))));obtain⟨r1,e3,h2⟩:=AL h;refine Co Tryz.call72 (Nh F v r1 e3) rfl (wa rfl (By (wm rfl (wv (CF rfl rfl) (Ar (Ap (b:=!decide (r1=0)) rfl (λc4=>?_) (λc4=>?_)))))))
 ·have h5:=AB c4 h2;refine Ak (wm rfl (wv (r:=rv (.slice none 0 0)) (Ac rfl) (wa rfl (Ar (Ax (Af (WK.up (d:=2) (r:=Bo 4 (List.map Ab ([]:List Aa))) rfl (Up.le (GJ.nil _)) ?_)))))));obtain rfl:=Az h5;exact Aw (Dg Tryz.results84 (AJ rfl) (AJ rfl)) sN ⟨rfl,rfl⟩
 ·have h6:=AC c4 h2;refine At (AN (Ak (wm rfl (wa rfl (wv (r:=rI .i64 0) (Ac rfl) (Ar (Ax ?_)))))));obtain rfl:=Az h6;exact Aw (Dg Tryz.results84 (AJ rfl) (AJ rfl)) sN ⟨rfl,rfl⟩
end Go.Proofs.YtkoiaconljdbeaaGreatDoor.Q
namespace Go.Proofs.YtkoiaconljdbeaaGreatDoor
open Go
set_option linter.unusedVariables false
def D5 (s:Ah)(ha:Int)(hb:Ah):Option (Stp (Int×Ah) (Out (Ah) (Ah))):=
 Bj (decide (ha<(s.length:Int))) (AX (CH ha (s.length:Int))<|Bj (((decide ((AT s ha)=34))||(decide ((AT s ha)=92)))) (AX (DC 1 (hb.length+1))<|AX (Bw .u8 92)<|Lx (hb++[UInt8.ofNat (Int.toNat 92)]) λhd=>AX (DC 1 (hd.length+1))<|AX (Bw .u8 (AT s ha))<|Lx (hd++[UInt8.ofNat (Int.toNat (AT s ha))]) λhe=>AX (Bw .i64 (ha+1))<|some (.next (ha+1,he))) (AX (DC 1 (hb.length+1))<|AX (Bw .u8 (AT s ha))<|Lx (hb++[UInt8.ofNat (Int.toNat (AT s ha))]) λhf=>AX (Bw .i64 (ha+1))<|some (.next (ha+1,hf)))) (some (.out (.go hb)))
def EY (ha:Ah):Option (Ah):=
 AX (DC 1 (ha.length+1))<|Lx (ha++[UInt8.ofNat (Int.toNat 34)]) λhb=>some hb
def Kk (F:Nat)(l:Ah)(s:Ah):Option (Ah):=
 AX (DC 1 (l.length+1))<|AX (Bw .u8 34)<|Lx (l++[UInt8.ofNat (Int.toNat 34)]) λr6=>Bx (Cg (λσ=>D5 s σ.1 σ.2) F (0,r6)) (BL λν=>EY ν)
def J9 (F:Nat)(hm:Ah→(List Aa)→Bool→Ah→Aa→Option (Bool×Bool×Ah))(ha:(List Aa)→Bool→Ah→Aa→Option (Bool×Ah))(l:Ah)(v:(List Aa)):Option (Ah):=
 AX (CH 0 (v.length:Int))<|Bj (decide (((Ay v 0).fKind)=1)) (AX (DC 1 (l.length+([110,117,108,108]:Ah).length))<|Lx (l++([110,117,108,108]:Ah)) λhe=>some he) (Bj (decide (((Ay v 0).fKind)=2)) (AX (CH ((Ay v 0).fInt) (([([102,97,108,115,101]:Ah),([116,114,117,101]:Ah)]:List Ah).length:Int))<|AX (DC 1 (l.length+(Ay ([([102,97,108,115,101]:Ah),([116,114,117,101]:Ah)]:List Ah) ((Ay v 0).fInt)).length))<|Lx (l++(Ay ([([102,97,108,115,101]:Ah),([116,114,117,101]:Ah)]:List Ah) ((Ay v 0).fInt))) λhf=>some hf) (Bj (decide (((Ay v 0).fKind)=3)) (AX (Bw .i64 ((Ay v 0).fInt))<|AX (DC 1 (l.length+(Lib.itoa ((Ay v 0).fInt)).length))<|Lx (l++(Lib.itoa ((Ay v 0).fInt))) λhg=>some hg) (Bj (decide (((Ay v 0).fKind)=4)) (Bx (Kk F l ((Ay v 0).fStr)) λhh=>some hh) (Bj (decide (((Ay v 0).fKind)=6)) (AX (CH 0 (([123,125]:Ah).length:Int))<|AX (DC 1 (l.length+1))<|AX (Bw .u8 (AT ([123,125]:Ah) 0))<|Lx (l++[UInt8.ofNat (Int.toNat (AT ([123,125]:Ah) 0))]) λhi=>Bx (ha v true hi (Ay v 0)) λhb=>AX (CH 1 (([123,125]:Ah).length:Int))<|AX (DC 1 (hb.2.length+1))<|AX (Bw .u8 (AT ([123,125]:Ah) 1))<|Lx (hb.2++[UInt8.ofNat (Int.toNat (AT ([123,125]:Ah) 1))]) λhj=>some hj) (AX (CH 0 (([91,93]:Ah).length:Int))<|AX (DC 1 (l.length+1))<|AX (Bw .u8 (AT ([91,93]:Ah) 0))<|Lx (l++[UInt8.ofNat (Int.toNat (AT ([91,93]:Ah) 0))]) λhk=>Bx (ha v true hk (Ay v 0)) λhd=>AX (CH 1 (([91,93]:Ah).length:Int))<|AX (DC 1 (hd.2.length+1))<|AX (Bw .u8 (AT ([91,93]:Ah) 1))<|Lx (hd.2++[UInt8.ofNat (Int.toNat (AT ([91,93]:Ah) 1))]) λhl=>some hl)))))
def KC (F:Nat)(ha:Ah→(List Aa)→Option (Ah))(key:Ah)(x:(List Aa))(first:Bool)(l:Ah)(c:Aa):Option (Bool×Bool×Ah):=
 Bj (!first) (AX (DC 1 (l.length+1))<|AX (Bw .u8 44)<|Lx (l++[UInt8.ofNat (Int.toNat 44)]) λr8=>Bj (decide (c.fKind=6)) (Bx (Kk F r8 key) λhb=>AX (DC 1 (hb.length+1))<|AX (Bw .u8 58)<|Lx (hb++[UInt8.ofNat (Int.toNat 58)]) λhe=>Bx (ha he x) λhf=>some (true,false,hf)) (Bx (ha r8 x) λhg=>some (true,false,hg))) (Bj (decide (c.fKind=6)) (Bx (Kk F l key) λhd=>AX (DC 1 (hd.length+1))<|AX (Bw .u8 58)<|Lx (hd++[UInt8.ofNat (Int.toNat 58)]) λhh=>Bx (ha hh x) λhi=>some (true,false,hi)) (Bx (ha l x) λhj=>some (true,false,hj)))
def DJ (F:Nat)(v:(List Aa))(c:Aa)(hj:Ah→(List Aa)→Bool→Ah→Aa→Option (Bool×Bool×Ah))(ha:Int)(hb:Int)(hh:Bool)(hi:Ah):Option (Stp (Int×Int×Bool×Ah) (Out (Bool×Ah) (Bool×Ah))):=
 Bj (decide (hb<((Ay v 0).fN))) (Bj (decide (((Ay v 0).fKind)=6)) (AX (CH ha (v.length:Int))<|AX (Bw .i64 (ha+1))<|AX (Hp (ha+1) (v.length:Int))<|Bx (IV F (List.drop (Int.toNat (ha+1)) v)) λhd=>AX (Bw .i64 ((ha+1)+hd.1))<|AX (Hp (ha+1) ((ha+1)+hd.1))<|AX (Hp ((ha+1)+hd.1) (v.length:Int))<|Bx (hj ((Ay v ha).fStr) (List.take (Int.toNat ((ha+1)+hd.1)-Int.toNat (ha+1)) (List.drop (Int.toNat (ha+1)) v)) hh hi c) λhe=>Bj (!he.1) (some (.out (.ret (he.2.1,he.2.2)))) (AX (Bw .i64 (hb+1))<|some (.next ((ha+1)+hd.1,hb+1,he.2.1,he.2.2)))) (AX (Hp ha (v.length:Int))<|Bx (IV F (List.drop (Int.toNat ha) v)) λhf=>AX (Bw .i64 (ha+hf.1))<|AX (Hp ha (ha+hf.1))<|AX (Hp (ha+hf.1) (v.length:Int))<|Bx (hj ([]:Ah) (List.take (Int.toNat (ha+hf.1)-Int.toNat ha) (List.drop (Int.toNat ha) v)) hh hi c) λhg=>Bj (!hg.1) (some (.out (.ret (hg.2.1,hg.2.2)))) (AX (Bw .i64 (hb+1))<|some (.next (ha+hf.1,hb+1,hg.2.1,hg.2.2))))) (some (.out (.go (hh,hi))))
def HB (ha:Bool)(hb:Ah):Option (Bool×Ah):=
 some (ha,hb)
def Im (F:Nat)(ha:Ah→(List Aa)→Bool→Ah→Aa→Option (Bool×Bool×Ah))(v:(List Aa))(first:Bool)(l:Ah)(c:Aa):Option (Bool×Ah):=
 AX (CH 0 (v.length:Int))<|Bx (Cg (λσ=>DJ F v c ha σ.1 σ.2.1 σ.2.2.1 σ.2.2.2) F (1,0,first,l)) (BL λν=>HB ν.1 ν.2)
mutual
def G5:Nat→Ah→(List Aa)→Option (Ah)
 | 0,_,_=>none
 | nn+1,l,v=>J9 nn (EM nn) (Hc nn) l v
def EM:Nat→Ah→(List Aa)→Bool→Ah→Aa→Option (Bool×Bool×Ah)
 | 0,_,_,_,_,_=>none
 | nn+1,key,x,first,l,c=>KC nn (G5 nn) key x first l c
def Hc:Nat→(List Aa)→Bool→Ah→Aa→Option (Bool×Ah)
 | 0,_,_,_,_=>none
 | nn+1,v,first,l,c=>Im nn (EM nn) v first l c
end
def KG (F:Nat)(v:(List Aa)):Option (Ah×Int):=
 Bx (Kl F v) λr1=>Bj (!decide (r1=0)) (some (([]:Ah),r1)) (Bx (G5 F ([]:Ah) v) λr8=>AX (decide (0<r8.length))<|some (r8,0))
end Go.Proofs.YtkoiaconljdbeaaGreatDoor
