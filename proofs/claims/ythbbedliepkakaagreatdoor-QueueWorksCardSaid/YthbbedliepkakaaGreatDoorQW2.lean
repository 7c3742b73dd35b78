/-
  Texts of the proof, put together: IdC, ShelfV, PlD, PlE, FwJ, IdR, TzL, QG, QS, QO, RowQ, PQB, WQB, PVa, WVa, PVb, WVb, PVc, WVc, PVd, WVd, PVe, WVe, PVf, WVf, PM, PS, PSp, PUa.
-/
import Derived.Test.YthbbedliepkakaaGreatDoorQW1
import Derived.Shelf.Strings.Builder1
import Derived.Shelf.Strings.Count
import Derived.Shelf.Strings.Search1
import Derived.Shelf.Strings.Search2
import Derived.Shelf.Strings.Search3
import Derived.Shelf.Small.Strs
import Derived.Shelf.LaysM
import Derived.Shelf.LaysC
import Derived.Test.YthbbedliepkakaaGreatDoorProg
import Derived.Lib.ItoaMem
import Derived.Shelf.Lays7
import Derived.Shelf.Spec.TrailingZeros
import Derived.Laws.BytesString
import Derived.Lib.Builder
import Derived.Lib.UnsafeStr
import Derived.Lib.AppendStr
import Derived.Laws.Externs
import Derived.Deep.Slices
import Derived.ChangeArms
import Derived.DataReads
import Derived.Laws.Tables
import Derived.Lib.Bytealg
import Derived.Lib.SmallJoins
import Derived.Laws.StructEq
namespace Go.Proofs.YthbbedliepkakaaGreatDoor
open Go Go.RowKit
set_option linter.unusedVariables false
set_option linter.unusedSimpArgs false
set_option maxRecDepth 100000
theorem T6 (p:List UInt8)(hp:p.length≤281474976710656)(w:World):Calls Tryz.prog 101 [.string (B (p))].toArray w (Ji w (.bool (GB p))):=by
 refine GH (n:=43) Tryz.func101 rfl Tryz.ntmps101 rfl (Av (Ao (A9 (Aj rfl) rfl (Ap (Az (AY ?_))))));refine Av (Ao (A9 (At rfl) rfl (A9 (Aj rfl) rfl (Ap (Az (AY ?_))))));refine AD [(0,.string (B (p))),(2,.bool (false)),(3,.string (B ((if ((decide ((0)<((p.length:Int))))&&(decide ((Cr p 0)=(45))))=true then List.drop (Int.toNat (1)) p else p))))] [] (φ:=True) ?_ (λh0=>?_)
 ·refine AD [(0,.string (B (p))),(2,.bool (false)),(3,.string (B (p))),(13,.bool (((decide ((0)<((p.length:Int))))&&(decide ((Cr p 0)=(45))))))] [] (φ:=True) ?_ (λh1=>?_)
  ·refine Ao (A9 (At rfl) rfl (A9 (BJ Eo rfl) rfl (A9 (C3 rfl rfl) rfl (A9 (At rfl) rfl (AG (decide ((0)<((p.length:Int)))) (λhd=>?_) (λhd=>?_))))))
   ·have hk:=hd;try simp only[Za,YZ] at hk
    have f61:=hd;try simp at f61
    refine Be rfl rfl hd (A9 (At rfl) rfl (Be rfl rfl hd (A9 (BT Eo rfl rfl (by first | omega | exact CM (by assumption)) (by first | omega | exact CM (by assumption))) rfl (Be rfl rfl hd (A9 (Bq rfl rfl) rfl (A9 (Ar rfl hd rfl) rfl (Ap ?_)))))));exact Az (B5 trivial ⟨rfl,rfl,rfl,fb (by first | (simp only[hd,Zr,Zw,Z1,Zn,Zx,Zv,Z2,Zy,Zi,Zp,Zl,Zh,ZG,Z8,reduceIte,Zm];done) | simp[hd]),trivial⟩ .slnil)
   ·have hk:=hd;try simp only[Za,YZ] at hk
    have f61:=hd;try simp at f61
    refine Ak rfl rfl hd rfl (Ak rfl rfl hd rfl (Ak rfl rfl hd rfl (A9 (A7 rfl hd rfl) rfl (Ap ?_))));exact Az (B5 trivial ⟨rfl,rfl,rfl,fb (by first | (simp only[hd,Zr,Zw,Z1,Zn,Zx,Zv,Z2,Zy,Zi,Zp,Zl,Zh,ZG,Z8,reduceIte,Zm];done) | simp[hd]),trivial⟩ .slnil)
  refine A2 (b:=((decide ((0)<((p.length:Int))))&&(decide ((Cr p 0)=(45))))) rfl (λhg=>?_) (λhg=>?_)
  ·have hl:=hg;try simp only[Za,YZ] at hl
   have hm:=hg;try simp at hm
   refine Ao (A9 (At rfl) rfl (A9 (Hl Eo rfl rfl (by first | omega | (simp;omega)) (by first | omega | (simp;omega))) rfl (A9 (Aj rfl) rfl (Ap ?_))));exact Az (B5 trivial ⟨rfl,rfl,fs (by first | (simp only[hg,Zr,Zw,Z1,Zn,Zx,Zv,Z2,Zy,Zi,Zp,Zl,Zh,ZG,Z8,reduceIte,Zm];done) | simp[hg]),trivial⟩ .slnil)
  ·have hl:=hg;try simp only[Za,YZ] at hl
   have hm:=hg;try simp at hm
   refine A5 ?_;exact Az (B5 trivial ⟨rfl,rfl,fs (by first | (simp only[hg,Zr,Zw,Z1,Zn,Zx,Zv,Z2,Zy,Zi,Zp,Zl,Zh,ZG,Z8,reduceIte,Zm];done) | simp[hg]),trivial⟩ .slnil)
 have hdg:Em p=(if ((decide ((0)<((p.length:Int))))&&(decide ((Cr p 0)=(45))))=true then List.drop (Int.toNat (1)) p else p):=rfl;have hdl:=Ni p;rw[hdg] at hdl;generalize(if ((decide ((0)<((p.length:Int))))&&(decide ((Cr p 0)=(45))))=true then List.drop (Int.toNat (1)) p else p)=dg at hdg hdl ⊢;refine Av (AD [(2,.bool (false)),(3,.string (B (dg))),(26,.bool (((decide ((dg)=(([]:List UInt8))))||((decide ((Cr dg 0)=(48)))&&(!(decide ((p)=(([48]:List UInt8)))))))))] [] (φ:=True) ?_ (λh2=>?_))
 ·refine Ao (A9 (At rfl) rfl (A9 (D3 rfl rfl) rfl (A9 (At rfl) rfl (AG (decide ((dg)=(([]:List UInt8)))) (λha=>?_) (λha=>?_)))))
  ·have hn:=ha;try simp only[Za,YZ] at hn
   have ho:=ha;try simp at ho
   refine Ak rfl rfl ha rfl (Ak rfl rfl ha rfl (Ak rfl rfl ha rfl (Ak rfl rfl ha rfl (Ea rfl rfl rfl (Ea rfl rfl rfl (Ak rfl rfl ha rfl (A9 (Ar rfl ha rfl) rfl (Ap ?_))))))));exact Az (B5 trivial ⟨rfl,rfl,fb (by first | (simp only[ha,Zr,Zw,Z1,Zn,Zx,Zv,Z2,Zy,Zi,Zp,Zl,Zh,ZG,Z8,reduceIte,Zm];done) | simp[ha]),trivial⟩ .slnil)
  ·have hn:=ha;try simp only[Za,YZ] at hn
   have ho:=ha;try simp at ho
   refine Be rfl rfl ha (A9 (At rfl) rfl (Be rfl rfl ha (A9 (BT Eo rfl rfl (by first | omega | exact CM (by assumption)) (by first | omega | exact CM (by assumption))) rfl (Be rfl rfl ha (A9 (Bq rfl rfl) rfl (Be rfl rfl ha (A9 (At rfl) rfl (AG (decide ((Cr dg 0)=(48))) (λhe=>?_) (λhe=>?_)))))))))
   ·have hq:=he;try simp only[Za,YZ] at hq
    have hr:=he;try simp at hr
    refine Be rfl rfl he (A9 (At rfl) rfl (Be rfl rfl he (A9 (LK rfl rfl) rfl (Be rfl rfl ha (A9 (Ar rfl he rfl) rfl (A9 (A7 rfl ha rfl) rfl (Ap ?_)))))));exact Az (B5 trivial ⟨rfl,rfl,fb (by first | (simp only[ha,he,Zr,Zw,Z1,Zn,Zx,Zv,Z2,Zy,Zi,Zp,Zl,Zh,ZG,Z8,reduceIte,Zm];done) | simp[ha,he]),trivial⟩ .slnil)
   ·have hq:=he;try simp only[Za,YZ] at hq
    have hr:=he;try simp at hr
    refine Ak rfl rfl he rfl (Ak rfl rfl he rfl (Be rfl rfl ha (A9 (A7 rfl he rfl) rfl (A9 (A7 rfl ha rfl) rfl (Ap ?_)))));exact Az (B5 trivial ⟨rfl,rfl,fb (by first | (simp only[ha,he,Zr,Zw,Z1,Zn,Zx,Zv,Z2,Zy,Zi,Zp,Zl,Zh,ZG,Z8,reduceIte,Zm];done) | simp[ha,he]),trivial⟩ .slnil)
 refine A2 (b:=((decide ((dg)=(([]:List UInt8))))||((decide ((Cr dg 0)=(48)))&&(!(decide ((p)=(([48]:List UInt8)))))))) rfl (λhf=>?_) (λhf=>?_)
 ·have hs:=hf;try simp only[Za,YZ] at hs
  have ht:=hf;try simp at ht
  refine Av (Ao (A9 (Aj rfl) rfl (Ap (Az (AY ?_)))));refine A1 (Am (A4 (B8 rfl rfl) ?_));exact GF (by simp only[GB,hdg,hf];rfl)
 ·have hs:=hf;try simp only[Za,YZ] at hs
  have ht:=hf;try simp at ht
  refine A5 (Az (AY ?_));refine Av (Av (Ao (A9 (At rfl) rfl (A9 (BJ Eo rfl) rfl (A9 (At rfl) rfl (Ap (Az (AY ?_))))))));refine AV (Ih (S:=Nat) (λ(k:Nat)=>k≤dg.length∧Bs DM 0 dg=Bs DM k (dg.drop k)) (λ(k:Nat)=>[(29,.int .i64 ((k:Int))),(3,.string (B (dg))),(28,.int .i64 ((dg.length:Int)))]) (λ(k:Nat)=>[]) (λ(k:Nat)=>dg.length-k) (0) ?_ ⟨fi (by first | rfl | (simp;done) | omega | (simp;omega)),rfl,rfl,trivial⟩ .slnil ?_)
  ·exact⟨ZN _,by simp⟩
  rintro k hi0;refine Av (Ao (A9 (Cm rfl rfl) rfl (Ap (Az (AY ?_)))));refine Av (A2 (b:=decide (((k:Int))<((dg.length:Int)))) rfl (λhh=>?_) (λhh=>?_))
  ·have hj:=hh;try simp only[Za,YZ] at hj
   have hu:=hh;try simp at hu
   refine A5 (Az (AY ?_));refine Av (AV (Av (Ao (A9 (At rfl) rfl (A9 (Aj rfl) rfl (Ap (Az (AY ?_))))))));refine AD [(3,.string (B (dg))),(4,.int .i64 ((k:Int))),(28,.int .i64 ((dg.length:Int))),(29,.int .i64 ((k:Int))),(30,.bool (decide (((k:Int))<((dg.length:Int))))),(31,.int .i64 ((k:Int))),(32,.string (B (dg))),(33,.int .i64 ((k:Int))),(34,.int .u8 (Cr dg (k:Int))),(35,.bool (decide ((Cr dg (k:Int))<(48)))),(36,.bool (decide ((Cr dg (k:Int))<(48)))),(41,.bool (((decide ((Cr dg (k:Int))<(48)))||(decide ((57)<(Cr dg (k:Int)))))))] [] (φ:=True) ?_ (λh3=>?_)
   ·refine Ao (A9 (At rfl) rfl (A9 (At rfl) rfl (A9 (BT Eo rfl rfl (by first | omega | exact CM (by assumption)) (by first | omega | exact CM (by assumption))) rfl (A9 (Cm rfl rfl) rfl (A9 (At rfl) rfl (AG (decide ((Cr dg (k:Int))<(48))) (λhb=>?_) (λhb=>?_)))))))
    ·have hw:=hb;try simp only[Za,YZ] at hw
     have hx:=hb;try simp at hx
     refine Ak rfl rfl hb rfl (Ak rfl rfl hb rfl (Ak rfl rfl hb rfl (Ak rfl rfl hb rfl (A9 (Ar rfl hb rfl) rfl (Ap ?_)))));exact Az (B5 trivial ⟨rfl,rfl,rfl,rfl,rfl,rfl,rfl,rfl,rfl,rfl,rfl,fb (by first | (simp only[hf,hh,hb,Zr,Zw,Z1,Zn,Zx,Zv,Z2,Zy,Zi,Zp,Zl,Zh,ZG,Z8,reduceIte,Zm];done) | simp[hf,hh,hb]),trivial⟩ .slnil)
    ·have hw:=hb;try simp only[Za,YZ] at hw
     have hx:=hb;try simp at hx
     refine Be rfl rfl hb (A9 (At rfl) rfl (Be rfl rfl hb (A9 (At rfl) rfl (Be rfl rfl hb (A9 (BT Eo rfl rfl (by first | omega | exact CM (by assumption)) (by first | omega | exact CM (by assumption))) rfl (Be rfl rfl hb (A9 (C3 rfl rfl) rfl (A9 (A7 rfl hb rfl) rfl (Ap ?_)))))))));exact Az (B5 trivial ⟨rfl,rfl,rfl,rfl,rfl,rfl,rfl,rfl,rfl,rfl,rfl,fb (by first | (simp only[hf,hh,hb,Zr,Zw,Z1,Zn,Zx,Zv,Z2,Zy,Zi,Zp,Zl,Zh,ZG,Z8,reduceIte,Zm];done) | simp[hf,hh,hb]),trivial⟩ .slnil)
   refine A2 (b:=((decide ((Cr dg (k:Int))<(48)))||(decide ((57)<(Cr dg (k:Int)))))) rfl (λhi=>?_) (λhi=>?_)
   ·have hy:=hi;try simp only[Za,YZ] at hy
    have hz:=hi;try simp at hz
    refine Av (Ao (A9 (Aj rfl) rfl (Ap (Az (AY ?_)))));refine A1 (AK (Am (Am (AK (Am (A4 (B8 rfl rfl) ?_))))));exact GF (by simp[GB,hdg,Vl hi0 hj hi])
   ·have hy:=hi;try simp only[Za,YZ] at hy
    have hz:=hi;try simp at hz
    refine A5 (Ba (Az (AY ?_)));refine Ao (A9 (Bv rfl rfl (IntWalk.i64_in _ (by omega))) rfl (A9 (At rfl) rfl (Ap (Az (AJ (k+1) ?_ ⟨fi (by first | rfl | (simp;done) | omega | (simp;omega)),rfl,rfl,trivial⟩ .slnil)))));exact Qs hi0 hj hi
  ·have hj:=hh;try simp only[Za,YZ] at hj
   have hu:=hh;try simp at hu
   refine B2 (A8 (A8 (Bh (Az (AY ?_)))));refine Av (Ao (A9 (Aj rfl) rfl (Ap (Az (AY ?_)))));refine A1 (A4 (B8 rfl rfl) ?_);exact GF (by simp only[GB,hdg,hf,Sg hi0 hj];rfl)
theorem Vc (m:Int)(h0 : -9223372036854775808≤m)(h1:m≤9223372036854775807)(w:World)(hE:So w):Calls Tryz.prog 65 [.int .i64 (m)].toArray w (Ji w (.string (B (Lib.itoa m)))):=by
 refine GH (n:=5) Tryz.func65 rfl Tryz.ntmps65 rfl (Av (Ao (A9 (Aj rfl) rfl (Ap (Az (AY ?_))))));refine Av (Ao (A9 (At rfl) rfl (EA Tryz.call80 rfl (λw hw=>UU m (by omega) (by omega) w (hE.st0 hw)) rfl (A9 (Aj rfl) rfl (Ap (Az (AY ?_)))))));refine A1 (A4 (B8 rfl rfl) ?_);exact GF (by first | rfl | simp[])
theorem We (p:List UInt8)(hp:p.length≤281474976710656)(w:World)(hE:So w):Calls Tryz.prog 82 [.string (B (p))].toArray w (Ji w (.tuple #[.int .i64 (B3 p),.int .i64 (Cb p)])):=by
 refine GH (n:=22) Tryz.func82 rfl Tryz.ntmps82 rfl (Av (Ao (A9 (Aj rfl) rfl (A9 (Aj rfl) rfl (Ap (Az (AY ?_)))))));refine Av (Av (Ao (A9 (At rfl) rfl (EA Tryz.call101 rfl (λw hw=>T6 p (by first | omega | (simp;done) | (simp;omega) | (simp at *;omega)) w) rfl (A9 (BW rfl) rfl (Ap (Az (AY ?_))))))));refine A2 (b:=!(GB p)) rfl (λhb=>?_) (λhb=>?_)
 ·have hf:=hb;try simp only[Za,YZ] at hf
  have ha:=hb;try simp only[Za,YZ,Zd,Zz,Zq,ZL,ZE,Z3,not_or,Int.not_lt,Int.not_le] at ha
  refine Av (Ao (A9 (Aj rfl) rfl (A9 (Aj rfl) rfl (Ap (Az (AY ?_))))));refine A1 (Am (A4 (In rfl rfl rfl) ?_));exact GF (by simp[B3,Cb,ha])
 ·have hf:=hb;try simp only[Za,YZ] at hf
  have ha:=hb;try simp only[Za,YZ,Zd,Zz,Zq,ZL,ZE,Z3,not_or,Int.not_lt,Int.not_le] at ha
  refine A5 (Az (AY ?_));refine Av (Ao (A9 (At rfl) rfl ?_));rcases Vt (p:=p) (by assumption) with⟨av,hav,hal,hah⟩ | hav
  ·refine EA Tryz.call102 rfl (λw _=>WG p (by first | omega | (simp;done) | (simp;omega) | (simp at *;omega)) av hav w) rfl (A9 (At rfl) rfl (A9 (AL rfl rfl) rfl (A9 (AL rfl rfl) rfl (A9 (Aj rfl) rfl (A9 (Aj rfl) rfl (Ap (Az (AY ?_))))))));refine Av (AD [(2,.int .i64 (0)),(3,.int .i64 (0)),(4,.int .i64 (av)),(20,.bool (!(Hg av)))] [] (φ:=True) ?_ (λhh=>?_))
   ·exact Ao (A9 (At rfl) rfl (A9 (PS Tryz.underlying137 rfl) rfl (A9 (At rfl) rfl (Be rfl rfl rfl (A9 (At rfl) rfl (Be rfl rfl rfl (EA Tryz.call103 rfl (λw hw=>VF av w) rfl (Be rfl rfl rfl (A9 (BW rfl) rfl (A9 (A7 rfl rfl rfl) rfl (Ap (Az (B5 trivial ⟨rfl,rfl,rfl,rfl,trivial⟩ .slnil)))))))))))))
   refine A2 (b:=!(Hg av)) rfl (λhd=>?_) (λhd=>?_)
   ·have hg:=hd;try simp only[Za,YZ] at hg
    have he:=hd;try simp only[Za,YZ,Zd,Zz,Zq,ZL,ZE,Z3,not_or,Int.not_lt,Int.not_le] at he
    refine Av (Ao (A9 (Aj rfl) rfl (A9 (Aj rfl) rfl (Ap (Az (AY ?_))))));refine A1 (Am (A4 (In rfl rfl rfl) ?_));exact GF (by simp[B3,Cb,hav,ha,he])
   ·have hg:=hd;try simp only[Za,YZ] at hg
    have he:=hd;try simp only[Za,YZ,Zd,Zz,Zq,ZL,ZE,Z3,not_or,Int.not_lt,Int.not_le] at he
    refine A5 (Az (AY ?_));refine Av (Ao (A9 (At rfl) rfl (A9 (Aj rfl) rfl (A9 (Aj rfl) rfl (Ap (Az (AY ?_)))))));refine A1 (A4 (In rfl rfl rfl) ?_);exact GF (by simp[B3,Cb,hav,ha,he])
  ·refine VE Tryz.call102 rfl (λw hw=>Rt p (by first | omega | (simp;done) | (simp;omega) | (simp at *;omega)) hav w (hE.st0 hw)) rfl ?_;rintro _ _ ⟨am,at_,ab,rfl,rfl⟩;refine A9 (At rfl) rfl (A9 (AL rfl rfl) rfl (A9 (AL rfl rfl) rfl (A9 (Aj rfl) rfl (A9 (Aj rfl) rfl (Ap (Az (AY ?_)))))));refine Av (AD [(2,.int .i64 (0)),(3,.int .i64 (0)),(4,.int .i64 (am)),(20,.bool (true))] [] (φ:=True) ?_ (λhi=>?_))
   ·exact Ao (A9 (At rfl) rfl (A9 (Wi Tryz.underlying137 rfl) rfl (A9 (At rfl) rfl (Ak rfl rfl rfl rfl (Ak rfl rfl rfl rfl (Ak rfl rfl rfl rfl (A9 (Ar rfl rfl rfl) rfl (Ap (Az (B5 trivial ⟨rfl,rfl,rfl,rfl,trivial⟩ .slnil))))))))))
   refine CW rfl rfl (Av (Ao (A9 (Aj rfl) rfl (A9 (Aj rfl) rfl (Ap (Az (AY ?_)))))));refine A1 (Am (A4 (In rfl rfl rfl) ?_));exact GF (by simp[B3,Cb,hav,ha])
end Go.Proofs.YthbbedliepkakaaGreatDoor
namespace Go.Proofs
open Go.Shelf
def Tryz.lays138_ren:Go.Shelf.Ren:=⟨fun | 138=>130 | 195=>149 | 218=>150 | 143=>151 | 219=>121 | 217=>136 | 225=>137 | 224=>138 | 267=>139 | 266=>156 | 314=>157 | n=>n,fun | 9=>9 | 3=>3 | 4=>4 | 5=>5 | 0=>0 | 46=>112 | 146=>181 | 51=>133 | n=>n,fun | 1=>0 | n=>n⟩
theorem Tryz.lays138:Go.Proofs.Lays.n138 Tryz.prog Tryz.lays138_ren:={
 mixed:=by kernel_rfl
 f138:=Tryz.func130.trans (congrArg some (by kernel_rfl))
 f143:=Tryz.func151.trans (congrArg some (by kernel_rfl))
 f195:=Tryz.func149.trans (congrArg some (by kernel_rfl))
 f217:=Tryz.func136.trans (congrArg some (by kernel_rfl))
 f218:=Tryz.func150.trans (congrArg some (by kernel_rfl))
 f219:=Tryz.func121.trans (congrArg some (by kernel_rfl))
 f224:=Tryz.func138.trans (congrArg some (by kernel_rfl))
 f225:=Tryz.func137.trans (congrArg some (by kernel_rfl))
 f266:=Tryz.func156.trans (congrArg some (by kernel_rfl))
 f267:=Tryz.func139.trans (congrArg some (by kernel_rfl))
 f314:=Tryz.func157.trans (congrArg some (by kernel_rfl))
 t0:=Tryz.underlying0
 a0:=Tryz.isAgg0
 z0:=Tryz.sizeOf0
 v0:=Tryz.zeroValue0
 t3:=Tryz.underlying3
 a3:=Tryz.isAgg3
 z3:=Tryz.sizeOf3
 v3:=Tryz.zeroValue3
 t4:=Tryz.underlying4
 a4:=Tryz.isAgg4
 z4:=Tryz.sizeOf4
 v4:=Tryz.zeroValue4
 t5:=Tryz.underlying5
 a5:=Tryz.isAgg5
 z5:=Tryz.sizeOf5
 v5:=Tryz.zeroValue5
 t9:=Tryz.underlying9
 a9:=Tryz.isAgg9
 z9:=Tryz.sizeOf9
 v9:=Tryz.zeroValue9
 t46:=Tryz.underlying112
 a46:=Tryz.isAgg112
 z46:=Tryz.sizeOf112
 v46:=Tryz.zeroValue112
 t51:=Tryz.underlying133
 a51:=Tryz.isAgg133
 z51:=Tryz.sizeOf133
 v51:=Tryz.zeroValue133
 t146:=Tryz.underlying181
 a146:=Tryz.isAgg181
 z146:=Tryz.sizeOf181
 v146:=Tryz.zeroValue181
 g1:=by kernel_rfl }
open Go.RowKit Go.Lib in
theorem Tryz.strings_Count_one (s:ByteArray)(c:UInt8)(w:World) :
  Calls Tryz.prog 130 #[.string s,.string ⟨#[c]⟩] w λe w'=>e = .returned (.int .i64 (Lib.countByte s.data.toList c))∧w'=w:=Any.strings_Count_one Tryz.lays138 s c w
end Go.Proofs
namespace Go.Proofs.YthbbedliepkakaaGreatDoor
open Go
set_option linter.unusedVariables false
set_option linter.unusedSimpArgs false
theorem OX {f:Nat→UInt8→Bool}:∀{l:List UInt8} {i:Nat},Bs f i l=true→∀u∈l,∃j,f j u=true
 | [],_,_,u,hu=>by simp at hu
 | x::r,i,h,u,hu=>by
  simp only[Bs,Zd] at h;rcases List.mem_cons.1 hu with rfl | hu
  ·exact⟨i,h.1⟩
  ·exact OX h.2 u hu
theorem Vf {p:List UInt8}(h:Hu p=true)(h2:Cr (p.drop 1) 0=48):GB p=false:=by
 have hd:Em p=p.drop 1:=by simp[Em,h]
 have hp:p≠[48]:=by rintro rfl;revert h;decide
 unfold GB;rw[hd,h2];simp[hp]
theorem Ve {p dg:List UInt8}(hdg:Em p=dg)(h:(decide ((dg.length:Int)=0)||(decide ((1:Int)<dg.length)&&decide (Cr dg 0=48)))=true):GB p=false:=by
 simp only[Zz,Za,Zd] at h;rcases h with h | ⟨h,h2⟩
 ·have:dg=[]:=ZA (by omega);simp[GB,hdg,this]
 ·have hp:p≠[48]:=by rintro rfl;have:=Ni [48];rw[hdg] at this;simp at this;omega
  simp[GB,hdg,h2,hp]
theorem Vd {p dg:List UInt8}(hdg:Em p=dg)(h0:Hu p=true→¬ ((0:Int)<dg.length∧Cr dg 0=48))(h:(decide ((dg.length:Int)=0)||(decide ((1:Int)<dg.length)&&decide (Cr dg 0=48)))=false)(ha:Bs DM 0 dg=true):GB p=true:=by
 simp only[Z3,YZ,ZE] at h;have hne:dg≠[]:=by rintro rfl;exact h.1 rfl
 have hpos:=CM hne;simp only[GB,hdg,ha,Zx,Zq,Z3,YZ,hne,not_false_eq_true,true_and,ZE,ZL,Za]
 by_cases hb:Cr dg 0=48
 ·right
  cases hs:Hu p
  ·have hd:dg=p:=by rw[← hdg];simp[Em,hs]
   subst hd;have hl:dg.length=1:=by rcases h.2 with h | h<;>omega
   match dg,hl with
   | [u],_=>
    have:(u.toNat:Int)=48:=hb;rw[show u=48 from UInt8.toNat_inj.1 (by simpa using(by omega:u.toNat=48))]
  ·exact absurd ⟨hpos,hb⟩ (h0 hs)
 ·exact .inl hb
def Ed:Nat→List UInt8→Option Nat
 | n,[]=>some n
 | n,u::r=>if u.toNat=45 then Ed n r else if 1000000000000<10*n+(u.toNat-48) then none else Ed (10*n+(u.toNat-48)) r
theorem Ht {p:List UInt8}(h:GB p=true){k:Nat}(hk:(k:Int)<p.length)(ha : ¬ Cr p k=45):48≤Cr p k∧Cr p k≤57:=by
 simp only[GB,Zd] at h;obtain⟨u,hu⟩:=Hb hk;rw[Kg hu] at ha ⊢;have key:u∈Em p:=by
  have hm:=Zk hu;unfold Em
  split
  ·rename_i hs
   cases p with
   | nil=>simp at hm
   | cons c r=>
    rcases List.mem_cons.1 hm with rfl | hm
    ·simp only[Hu,Zd,Za] at hs;exact absurd hs.2 ha
    ·simpa using hm
  ·exact hm
 obtain⟨j,hj⟩:=OX h.2 u key;simp[DM] at hj;omega
def W3 (l:List UInt8):Prop:=∀u∈l,48≤u.toNat∧u.toNat≤57
theorem Sh {l:List UInt8}(h:Bs DM 0 l=true):W3 l:=λu hu=>by
 obtain⟨j,hj⟩:=OX h u hu;simp[DM] at hj;omega
theorem U1:∀(l:List UInt8) (acc:Nat),W3 l→1000000000000<acc→Lib.parseUint10 acc l = .range∨∃u,Lib.parseUint10 acc l = .ok u∧1000000000000<u
 | [],acc,_,h=>.inr ⟨acc,rfl,h⟩
 | c::r,acc,hd,h=>by
  have hc:=hd c (by simp);unfold Lib.parseUint10;rw[Z4 hc]
  split
  ·exact .inl rfl
  ·split
   ·exact .inl rfl
   ·exact U1 r _ (λu hu=>hd u (by simp[hu])) (by omega)
theorem U0:∀(l:List UInt8) (acc:Nat),W3 l→acc≤1000000000000→(∃u,Ed acc l=some u∧Lib.parseUint10 acc l = .ok u∧u≤1000000000000)∨(Ed acc l=none∧(Lib.parseUint10 acc l = .range∨∃u,Lib.parseUint10 acc l = .ok u∧1000000000000<u))
 | [],acc,_,h=>.inl ⟨acc,rfl,rfl,h⟩
 | c::r,acc,hd,h=>by
  have hc:=hd c (by simp);have hr:W3 r:=λu hu=>hd u (by simp[hu]);have e1:Lib.parseUint10 acc (c::r)=Lib.parseUint10 (acc*10+(c.toNat-48)) r:=by
   conv=>lhs;unfold Lib.parseUint10
   rw[Z4 hc,Zu (by omega),Zu (by omega)]
  have e2:Ed acc (c::r)=if 1000000000000<acc*10+(c.toNat-48) then none else Ed (acc*10+(c.toNat-48)) r:=by
   conv=>lhs;unfold Ed
   rw[Zu (by omega),show 10*acc+(c.toNat-48)=acc*10+(c.toNat-48) from by omega]
  rw[e1,e2]
  by_cases hb:1000000000000<acc*10+(c.toNat-48)
  ·rw[Z4 hb];exact .inr ⟨rfl,U1 r _ hr hb⟩
  ·rw[Zu hb];exact U0 r _ hr (by omega)
theorem Uj {p:List UInt8}:Ed 0 p=Ed 0 (Em p):=by
 unfold Em
 split
 ·rename_i hs
  cases p with
  | nil=>rfl
  | cons c r=>
   simp only[Hu,Zd,Za] at hs;have:c.toNat=45:=by have:=hs.2;simp[Cr] at this;omega
   simp[Ed,this]
 ·rfl
theorem Lv {p:List UInt8}(h:GB p=true):(∀u,Ed 0 p=some u→Cb p=0∧B3 p=if Hu p=true then -(u:Int) else u)∧(Ed 0 p=none→Cb p=2∧B3 p=0):=by
 have h':=h;simp only[GB,Zd,Zq,Z3,YZ] at h';obtain⟨⟨hne,_⟩,hall⟩:=h';have hrun:=U0 (Em p) 0 (Sh hall) (by omega);have hmag:Lib.parseMag (Em p)=Lib.parseUint10 0 (Em p):=by unfold Lib.parseMag;rw[Zu hne]
 have hat:Lib.atoiAll p=if Hu p=true then Lib.signed (Lib.parseUint10 0 (Em p)) else Lib.signless (Lib.parseUint10 0 (Em p)):=by
  cases p with
  | nil=>simp[Em,Hu] at hne
  | cons c r=>
   cases hs:Hu (c::r)
   ·have hd:Em (c::r)=c::r:=by simp[Em,hs]
    rw[hd] at hall hmag ⊢;have hc:=Sh hall c (by simp);rw[Lib.atoiAll_plain c r (by omega) (by omega),hmag];simp
   ·have hc:c=45:=by
     simp only[Hu,Zd,Za] at hs;exact UInt8.toNat_inj.1 (by have:=hs.2;simp[Cr] at this;simpa using(by omega:c.toNat=45))
    subst hc;have hd:Em (45::r)=r:=by simp[Em,hs]
    rw[hd] at hmag ⊢;rw[Lib.atoiAll_minus,hmag];simp
 rw[Uj];have hbig:∀u:Nat,1000000000000<u→∀v:Int,(v=u∨v = -(u:Int))→Hg v=false:=λu hu v hv=>by
  rcases hv with rfl | rfl<;>simp[Hg]<;>omega
 constructor
 ·intro u hu;rcases hrun with⟨u',h1,h2,h3⟩ | ⟨h1,_⟩
  ·rw[hu] at h1;cases h1;rw[h2] at hat;simp only[Cb,B3,h,ZG,hat]
   cases Hu p
   ·have hv:Hg (u:Int)=true:=by simp[Hg];omega
    simp only[Zm,Z8,Lib.signless];rw[Zu (by omega)];simp[hv]
   ·have hv:Hg (-(u:Int))=true:=by simp[Hg];omega
    simp only[ZG,Lib.signed];rw[Zu (by omega)];simp[hv]
  ·rw[hu] at h1;cases h1
 ·intro hn;rcases hrun with⟨u',h1,h2,h3⟩ | ⟨_,h1⟩
  ·rw[hn] at h1;cases h1
  ·simp only[Cb,B3,h,ZG,hat];rcases h1 with h1 | ⟨u,h1,h2⟩
   ·rw[h1];cases Hu p<;>simp[Lib.signed,Lib.signless]
   ·rw[h1]
    cases Hu p
    ·simp only[Zm,Z8,Lib.signless]
     by_cases h9:9223372036854775808≤u<;>simp[h9,hbig u h2 _ (.inl rfl)]
    ·simp only[ZG,Lib.signed]
     by_cases h9:9223372036854775808<u<;>simp[h9,hbig u h2 _ (.inr rfl)]
theorem Uh {p:List UInt8}{k n:Nat}(hk:(k:Int)<p.length)(hi:Ed 0 p=Ed n (p.drop k))(h:Cr p k=45):Ed 0 p=Ed n (p.drop (k+1)):=by
 obtain⟨u,hu⟩:=Hb hk;rw[Kg hu] at h;rw[hi,Ib hu,Ed,Z4 (by omega)]
theorem Xo {p:List UInt8}{k n:Nat}(hd:GB p=true)(hk:(k:Int)<p.length)(hi:Ed 0 p=Ed n (p.drop k))(h : ¬ Cr p k=45)(hle : ¬ (1000000000000:Int)<10*(n:Int)+(Cr p k-48)) :
  (10*(n:Int)+(Cr p k-48))=((10*n+(Cr p k-48).toNat:Nat):Int)∧Ed 0 p=Ed (10*n+(Cr p k-48).toNat) (p.drop (k+1))∧10*n+(Cr p k-48).toNat≤1000000000000:=by
 have hb:=Ht hd hk h;obtain⟨u,hu⟩:=Hb hk;rw[Kg hu] at h hle hb ⊢;have e:((u.toNat:Int)-48).toNat=u.toNat-48:=by omega
 refine⟨by omega,?_,by omega⟩;rw[hi,Ib hu,Ed,Zu (by omega),Zu (by omega),e]
theorem Ug {p:List UInt8}{k n:Nat}(hd:GB p=true)(hk:(k:Int)<p.length)(hi:Ed 0 p=Ed n (p.drop k))(h : ¬ Cr p k=45)(hle:(1000000000000:Int)<10*(n:Int)+(Cr p k-48)):Ed 0 p=none:=by
 have hb:=Ht hd hk h;obtain⟨u,hu⟩:=Hb hk;rw[Kg hu] at h hle hb;rw[hi,Ib hu,Ed,Zu (by omega),Z4 (by omega)]
theorem Ui {p:List UInt8}{k n:Nat}(hd:GB p=true)(hk:(k:Int)<p.length)(hi:Ed 0 p=Ed n (p.drop k))(hn:n≤1000000000000)(h:Cr p k=45∨¬ (1000000000000:Int)<10*(n:Int)+(Cr p k-48)) :
  ∃n1:Nat,(if decide (Cr p k=45)=true then(n:Int) else 10*(n:Int)+(Cr p k-48))=(n1:Int)∧Ed 0 p=Ed n1 (p.drop (k+1))∧n1≤1000000000000:=by
 by_cases ha:Cr p k=45
 ·exact⟨n,by simp[ha],Uh hk hi ha,hn⟩
 ·have hle:=h.resolve_left ha;obtain⟨a,b,c⟩:=Xo hd hk hi ha hle;exact⟨_,by rw[Zu (by simpa using ha)];exact a,b,c⟩
theorem RB {p:List UInt8}{k n:Nat}(hi:Ed 0 p=Ed n (p.drop k))(h : ¬ (k:Int)<p.length):Ed 0 p=some n:=by
 rw[hi,List.drop_of_length_le (by omega)];rfl
def Vh (n m:Int)(s:List UInt8):Prop:=(s=[]∧m=n)∨(s≠[]∧Lib.decDigits n.natAbs=(if m=0 then[] else Lib.decDigits m.natAbs)++s)
theorem NU (m:Int):∃d1:Nat,(if decide (m.tmod 10<0)=true then -(m.tmod 10) else m.tmod 10)=(d1:Int)∧d1=m.natAbs % 10∧d1<10:=by
 refine⟨m.natAbs % 10,?_,rfl,by omega⟩
 by_cases h:0≤m
 ·have:=Int.tmod_eq_emod_of_nonneg (a:=m) (b:=10) h;rw[this,Zu (by simp;omega)];omega
 ·have:=Int.tmod_eq_emod_of_nonneg (a:=-m) (b:=10) (by omega);rw[Int.neg_tmod] at this
  by_cases hz:m.tmod 10=0
  ·rw[hz];simp;omega
  ·rw[Z4 (by simp;omega)];omega
theorem T0 {d:Nat}(h:d<10):List.take (Int.toNat ((d:Int)+1)-Int.toNat (d:Int)) (List.drop (Int.toNat (d:Int)) [48,49,50,51,52,53,54,55,56,57])=[UInt8.ofNat (48+d)]:=by
 have key:∀d:Nat,d<10→List.take (Int.toNat ((d:Int)+1)-Int.toNat (d:Int)) (List.drop (Int.toNat (d:Int)) ([48,49,50,51,52,53,54,55,56,57]:List UInt8))=[UInt8.ofNat (48+d)]:=by decide
 exact key d h
theorem ME (m:Int):(m.tdiv 10).natAbs=m.natAbs/10:=by
 rw[Int.natAbs_tdiv];rfl
theorem Tz (m:Int)(d1:Nat)(h:d1=m.natAbs % 10):Lib.decDigits m.natAbs=(if m.tdiv 10=0 then[] else Lib.decDigits (m.tdiv 10).natAbs)++[UInt8.ofNat (48+d1)]:=by
 have hz:m.tdiv 10=0↔m.natAbs<10:=by
  rw[← Int.natAbs_eq_zero,ME];omega
 rw[ME,Lib.decDigits]
 by_cases hs:m.natAbs<10
 ·rw[dif_pos hs,Z4 (hz.2 hs),h,Nat.mod_eq_of_lt hs];rfl
 ·rw[dif_neg hs,Zu (λe=>hs (hz.1 e)),h]
theorem Wy {n m:Int}{s:List UInt8}(h0 : -9223372036854775808≤n)(h1:n≤9223372036854775807)(hi:Vh n m s):s.length≤21:=by
 rcases hi with⟨rfl,_⟩ | ⟨_,h⟩
 ·simp
 ·have hl:(Lib.decDigits n.natAbs).length≤21:=by
   have:=KS n h0 h1;unfold Lib.itoa at this
   split at this
   ·simp at this;omega
   ·rwa [show n.toNat=n.natAbs from by omega] at this
  rw[h] at hl;simp at hl;omega
theorem Vg {n m:Int}{s:List UInt8}{d1:Nat}(hi:Vh n m s)(hc:(!decide (m=0)||decide (s=[]))=true)(hd:d1=m.natAbs % 10) :
  Vh n (m.tdiv 10) (List.take (Int.toNat ((d1:Int)+1)-Int.toNat (d1:Int)) (List.drop (Int.toNat (d1:Int)) [48,49,50,51,52,53,54,55,56,57])++s)∧
  (m.tdiv 10).natAbs+(if List.take (Int.toNat ((d1:Int)+1)-Int.toNat (d1:Int)) (List.drop (Int.toNat (d1:Int)) [48,49,50,51,52,53,54,55,56,57])++s=[] then 1 else 0)<m.natAbs+(if s=[] then 1 else 0):=by
 rw[T0 (by omega)];have hs:=Tz m d1 hd;refine⟨.inr ⟨by simp,?_⟩,?_⟩
 ·rcases hi with⟨rfl,rfl⟩ | ⟨h1,h2⟩
  ·rw[hs];simp
  ·have hm:m≠0:=by simpa[h1] using hc
   rw[h2,Zu hm,hs];simp
 ·rw[Zu (by simp),ME]
  by_cases hm:m=0
  ·subst hm;have:s=[]:=by simpa using hc
   simp[this]
  ·have:0<m.natAbs:=by omega
   split<;>omega
theorem Sc {n m:Int}{s:List UInt8}(hi:Vh n m s)(hc:(!decide (m=0)||decide (s=[]))=false):Lib.decDigits n.natAbs=s:=by
 simp only[Z3,ZL,Za,YZ] at hc;rcases hi with⟨h,_⟩ | ⟨_,h⟩
 ·exact absurd h hc.2
 ·rw[h,Z4 hc.1];rfl
theorem Wx {n:Int}{s:List UInt8}(h:Lib.decDigits n.natAbs=s)(hn:n<0):[45]++s=Lib.itoa n:=by
 unfold Lib.itoa;rw[Z4 hn,h];rfl
theorem Ww {n:Int}{s:List UInt8}(h:Lib.decDigits n.natAbs=s)(hn : ¬ n<0):s=Lib.itoa n:=by
 unfold Lib.itoa;rw[Zu hn,show n.toNat=n.natAbs from by omega,h]
open Go Go.RowKit
section
variable {P : Program} {n : Nat} {w0 : World} {M : List Nat} {l : Fr} {H : List Ent} {d : Option Nat} {x y : Operand} {ty t t' : TypeId} {pos : String} {af : Array Edge} {g : Option (Nat × Bool)} {k : IntKind} {p q z : Int}
theorem WW (hx:ev l x=some (.int k p))(hy:ev l y=some (.int k q))(hq:q≠0)(hz:k.wrap (p.tdiv q)=z):Br P n w0 M l H { dst:=d,op:=.binOp .quo t x y t',type:=ty,pos:=pos,after:=af,guard:=g } (.int k z):=λa w ha _=>by
 simp[execOp,ha.eval hx,ha.eval hy,B4,binOp,Op.intDiv,hq,hz]
theorem WV (hx:ev l x=some (.int k p))(hy:ev l y=some (.int k q))(hq:q≠0):Br P n w0 M l H { dst:=d,op:=.binOp .rem t x y t',type:=ty,pos:=pos,after:=af,guard:=g } (.int k (p.tmod q)):=λa w ha _=>by
 simp[execOp,ha.eval hx,ha.eval hy,B4,binOp,Op.intDiv,hq]
end
theorem SE {m:Int}(h0 : -9223372036854775808≤m)(h1:m≤9223372036854775807) : -9223372036854775808≤m.tdiv 10∧m.tdiv 10≤9223372036854775807:=by
 have e:m.tdiv 10=if 0≤m then m/10 else -((-m)/10):=by
  split
  ·rename_i h;exact Int.tdiv_eq_ediv_of_nonneg h
  ·rename_i h
   have:=Int.tdiv_eq_ediv_of_nonneg (a:=-m) (b:=10) (by omega);rw[Int.neg_tdiv] at this;omega
 rw[e];split<;>omega
theorem SD (m:Int) : -10<m.tmod 10∧m.tmod 10<10:=by
 by_cases h:0≤m
 ·have:=Int.tmod_eq_emod_of_nonneg (a:=m) (b:=10) h;omega
 ·have:=Int.tmod_eq_emod_of_nonneg (a:=-m) (b:=10) (by omega);rw[Int.neg_tmod] at this;omega
set_option maxRecDepth 100000
theorem XA (p:List UInt8)(hp:p.length≤281474976710656)(w:World):Calls Tryz.prog 128 [.string (B (p))].toArray w (Ji w (.bool (GB p))):=by
 refine GH (n:=53) Tryz.func128 rfl Tryz.ntmps128 rfl (Av (Ao (A9 (Aj rfl) rfl (Ap (Az (AY ?_))))));refine Av (Ao (A9 (At rfl) rfl (A9 (Aj rfl) rfl (Ap (Az (AY ?_))))));refine AD [(2,.bool (false)),(3,.string (B ((if ((decide ((0)<((p.length:Int))))&&(decide ((Cr p 0)=(45))))=true then List.drop (Int.toNat (1)) p else p))))] [] (φ:=(!((decide ((0)<((p.length:Int))))&&(decide ((Cr p 0)=(45))))||(!(((decide ((0)<(((List.drop (Int.toNat (1)) p).length:Int))))&&(decide ((Cr (List.drop (Int.toNat (1)) p) 0)=(48)))))))=true) ?_ (λho=>?_)
 ·refine AD [(2,.bool (false)),(3,.string (B (p))),(13,.bool (((decide ((0)<((p.length:Int))))&&(decide ((Cr p 0)=(45))))))] [] (φ:=True) ?_ (λh4=>?_)
  ·refine Ao (A9 (At rfl) rfl (A9 (BJ Eo rfl) rfl (A9 (C3 rfl rfl) rfl (A9 (At rfl) rfl (AG (decide ((0)<((p.length:Int)))) (λhe=>?_) (λhe=>?_))))))
   ·have hq:=he;try simp only[Za,YZ] at hq
    have hr:=he;try simp at hr
    refine Be rfl rfl he (A9 (At rfl) rfl (Be rfl rfl he (A9 (BT Eo rfl rfl (by first | omega | (simp;omega) | (simp at *;omega) | exact CM (by assumption)) (by first | omega | (simp;omega) | (simp at *;omega) | exact CM (by assumption))) rfl (Be rfl rfl he (A9 (Bq rfl rfl) rfl (A9 (Ar rfl he rfl) rfl (Ap ?_)))))));exact Az (B5 trivial ⟨rfl,rfl,fb (by first | (simp only[he,Zr,Zw,Z1,Zn,Zx,Zv,Z2,Zy,Zi,Zp,Zl,Zh,ZG,Z8,reduceIte,Zm];done) | simp[he]),trivial⟩ .slnil)
   ·have hq:=he;try simp only[Za,YZ] at hq
    have hr:=he;try simp at hr
    refine Ak rfl rfl he rfl (Ak rfl rfl he rfl (Ak rfl rfl he rfl (A9 (A7 rfl he rfl) rfl (Ap ?_))));exact Az (B5 trivial ⟨rfl,rfl,fb (by first | (simp only[he,Zr,Zw,Z1,Zn,Zx,Zv,Z2,Zy,Zi,Zp,Zl,Zh,ZG,Z8,reduceIte,Zm];done) | simp[he]),trivial⟩ .slnil)
  refine A2 (b:=((decide ((0)<((p.length:Int))))&&(decide ((Cr p 0)=(45))))) rfl (λhd=>?_) (λhd=>?_)
  ·have ht:=hd;try simp only[Za,YZ] at ht
   have hu:=hd;try simp at hu
   refine Av (Ao (A9 (At rfl) rfl (A9 (Hl Eo rfl rfl (by first | omega | (simp;omega)) (by first | omega | (simp;omega))) rfl (A9 (Aj rfl) rfl (Ap (Az (AY ?_)))))));refine AD [(2,.bool (false)),(3,.string (B (List.drop (Int.toNat (1)) p))),(23,.bool (((decide ((0)<(((List.drop (Int.toNat (1)) p).length:Int))))&&(decide ((Cr (List.drop (Int.toNat (1)) p) 0)=(48))))))] [] (φ:=True) ?_ (λh5=>?_)
   ·refine Ao (A9 (At rfl) rfl (A9 (BJ Eo rfl) rfl (A9 (C3 rfl rfl) rfl (A9 (At rfl) rfl (AG (decide ((0)<(((List.drop (Int.toNat (1)) p).length:Int)))) (λhf=>?_) (λhf=>?_))))))
    ·have hw:=hf;try simp only[Za,YZ] at hw
     have hy:=hf;try simp at hy
     refine Be rfl rfl hf (A9 (At rfl) rfl (Be rfl rfl hf (A9 (BT Eo rfl rfl (by first | omega | (simp;omega) | (simp at *;omega) | exact CM (by assumption)) (by first | omega | (simp;omega) | (simp at *;omega) | exact CM (by assumption))) rfl (Be rfl rfl hf (A9 (Bq rfl rfl) rfl (A9 (Ar rfl hf rfl) rfl (Ap ?_)))))));exact Az (B5 trivial ⟨rfl,rfl,fb (by first | (simp only[hd,hf,Zr,Zw,Z1,Zn,Zx,Zv,Z2,Zy,Zi,Zp,Zl,Zh,ZG,Z8,reduceIte,Zm];done) | simp[hd,hf]),trivial⟩ .slnil)
    ·have hw:=hf;try simp only[Za,YZ] at hw
     have hy:=hf;try simp at hy
     refine Ak rfl rfl hf rfl (Ak rfl rfl hf rfl (Ak rfl rfl hf rfl (A9 (A7 rfl hf rfl) rfl (Ap ?_))));exact Az (B5 trivial ⟨rfl,rfl,fb (by first | (simp only[hd,hf,Zr,Zw,Z1,Zn,Zx,Zv,Z2,Zy,Zi,Zp,Zl,Zh,ZG,Z8,reduceIte,Zm];done) | simp[hd,hf]),trivial⟩ .slnil)
   refine A2 (b:=((decide ((0)<(((List.drop (Int.toNat (1)) p).length:Int))))&&(decide ((Cr (List.drop (Int.toNat (1)) p) 0)=(48))))) rfl (λhi=>?_) (λhi=>?_)
   ·have hm:=hi;try simp only[Za,YZ] at hm
    have hk:=hi;try simp only[Za,YZ,Zd,Zz,Zq,ZL,ZE,Z3,not_or,Int.not_lt,Int.not_le] at hk
    refine Av (Ao (A9 (Aj rfl) rfl (Ap (Az (AY ?_)))));refine A1 (Am (A4 (B8 rfl rfl) ?_));exact GF (by rw[Vf (by simp only[Hu];exact hd) (hk).2])
   ·have hm:=hi;try simp only[Za,YZ] at hm
    have hk:=hi;try simp only[Za,YZ,Zd,Zz,Zq,ZL,ZE,Z3,not_or,Int.not_lt,Int.not_le] at hk
    refine A5 ?_;exact Az (B5 (by first | (simp only[hd,hi,Zr,Zw,Z1,Zn,Zx,Zv,Z2,Zy,Zi,Zp,Zl,Zh,ZG,Z8,reduceIte,Zm];done) | simp[hd,hi]) ⟨rfl,fs (by first | (simp only[hd,hi,Zr,Zw,Z1,Zn,Zx,Zv,Z2,Zy,Zi,Zp,Zl,Zh,ZG,Z8,reduceIte,Zm];done) | simp[hd,hi]),trivial⟩ .slnil)
  ·have ht:=hd;try simp only[Za,YZ] at ht
   have hu:=hd;try simp at hu
   refine A5 ?_;exact Az (B5 (by first | (simp only[hd,Zr,Zw,Z1,Zn,Zx,Zv,Z2,Zy,Zi,Zp,Zl,Zh,ZG,Z8,reduceIte,Zm];done) | simp[hd]) ⟨rfl,fs (by first | (simp only[hd,Zr,Zw,Z1,Zn,Zx,Zv,Z2,Zy,Zi,Zp,Zl,Zh,ZG,Z8,reduceIte,Zm];done) | simp[hd]),trivial⟩ .slnil)
 have hm:=ho;try simp only[Za,YZ] at hm
 have hk:=ho;try simp only[Za,YZ,Zd,Zz,Zq,ZL,ZE,Z3,not_or,Int.not_lt,Int.not_le] at hk
 have hdg:Em p=(if ((decide ((0)<((p.length:Int))))&&(decide ((Cr p 0)=(45))))=true then List.drop (Int.toNat (1)) p else p):=rfl;have hdl:=Ni p;have hform:Hu p=true→¬ ((0:Int)<(Em p).length∧Cr (Em p) 0=48):=by intro hs;rw[show Em p=List.drop 1 p from by simp[Em,hs]];simp only[Hu] at hs;intro hx;simp_all;grind
 rw[hdg] at hdl hform;clear ho hm hk;generalize(if ((decide ((0)<((p.length:Int))))&&(decide ((Cr p 0)=(45))))=true then List.drop (Int.toNat (1)) p else p)=dg at hdg hdl hform ⊢;refine Av (AD [(2,.bool (false)),(3,.string (B (dg))),(36,.bool (((decide (((dg.length:Int))=(0)))||((decide ((1)<((dg.length:Int))))&&(decide ((Cr dg 0)=(48)))))))] [] (φ:=True) ?_ (λh6=>?_))
 ·refine Ao (A9 (At rfl) rfl (A9 (BJ Eo rfl) rfl (A9 (Bq rfl rfl) rfl (A9 (At rfl) rfl (AG (decide (((dg.length:Int))=(0))) (λha=>?_) (λha=>?_))))))
  ·have hz:=ha;try simp only[Za,YZ] at hz
   have f89:=ha;try simp at f89
   refine Ak rfl rfl ha rfl (Ak rfl rfl ha rfl (Ak rfl rfl ha rfl (Ak rfl rfl ha rfl (Ea rfl rfl rfl (Ea rfl rfl rfl (Ea rfl rfl rfl (Ak rfl rfl ha rfl (A9 (Ar rfl ha rfl) rfl (Ap ?_)))))))));exact Az (B5 trivial ⟨rfl,rfl,fb (by first | (simp only[ha,Zr,Zw,Z1,Zn,Zx,Zv,Z2,Zy,Zi,Zp,Zl,Zh,ZG,Z8,reduceIte,Zm];done) | simp[ha]),trivial⟩ .slnil)
  ·have hz:=ha;try simp only[Za,YZ] at hz
   have f89:=ha;try simp at f89
   refine Be rfl rfl ha (A9 (At rfl) rfl (Be rfl rfl ha (A9 (BJ Eo rfl) rfl (Be rfl rfl ha (A9 (C3 rfl rfl) rfl (Be rfl rfl ha (A9 (At rfl) rfl (AG (decide ((1)<((dg.length:Int)))) (λhg=>?_) (λhg=>?_)))))))))
   ·have h0:=hg;try simp only[Za,YZ] at h0
    have f90:=hg;try simp at f90
    refine Be rfl rfl hg (A9 (At rfl) rfl (Be rfl rfl hg (A9 (BT Eo rfl rfl (by first | omega | (simp;omega) | (simp at *;omega) | exact CM (by assumption)) (by first | omega | (simp;omega) | (simp at *;omega) | exact CM (by assumption))) rfl (Be rfl rfl hg (A9 (Bq rfl rfl) rfl (Be rfl rfl ha (A9 (Ar rfl hg rfl) rfl (A9 (A7 rfl ha rfl) rfl (Ap ?_)))))))));exact Az (B5 trivial ⟨rfl,rfl,fb (by first | (simp only[ha,hg,Zr,Zw,Z1,Zn,Zx,Zv,Z2,Zy,Zi,Zp,Zl,Zh,ZG,Z8,reduceIte,Zm];done) | simp[ha,hg]),trivial⟩ .slnil)
   ·have h0:=hg;try simp only[Za,YZ] at h0
    have f90:=hg;try simp at f90
    refine Ak rfl rfl hg rfl (Ak rfl rfl hg rfl (Ak rfl rfl hg rfl (Be rfl rfl ha (A9 (A7 rfl hg rfl) rfl (A9 (A7 rfl ha rfl) rfl (Ap ?_))))));exact Az (B5 trivial ⟨rfl,rfl,fb (by first | (simp only[ha,hg,Zr,Zw,Z1,Zn,Zx,Zv,Z2,Zy,Zi,Zp,Zl,Zh,ZG,Z8,reduceIte,Zm];done) | simp[ha,hg]),trivial⟩ .slnil)
 refine A2 (b:=((decide (((dg.length:Int))=(0)))||((decide ((1)<((dg.length:Int))))&&(decide ((Cr dg 0)=(48)))))) rfl (λhh=>?_) (λhh=>?_)
 ·have h1:=hh;try simp only[Za,YZ] at h1
  have f92:=hh;try simp at f92
  refine Av (Ao (A9 (Aj rfl) rfl (Ap (Az (AY ?_)))));refine A1 (Am (A4 (B8 rfl rfl) ?_));exact GF (by rw[Ve hdg hh])
 ·have h1:=hh;try simp only[Za,YZ] at h1
  have f92:=hh;try simp at f92
  refine A5 (Az (AY ?_));refine Av (Av (Ao (A9 (At rfl) rfl (A9 (BJ Eo rfl) rfl (A9 (At rfl) rfl (Ap (Az (AY ?_))))))));refine AV (Ih (S:=Nat) (λ(k:Nat)=>k≤dg.length∧Bs DM 0 dg=Bs DM k (dg.drop k)) (λ(k:Nat)=>[(39,.int .i64 ((k:Int))),(3,.string (B (dg))),(38,.int .i64 ((dg.length:Int)))]) (λ(k:Nat)=>[]) (λ(k:Nat)=>dg.length-k) (0) ?_ ⟨fi (by first | rfl | (simp;done) | omega | (simp;omega)),rfl,rfl,trivial⟩ .slnil ?_)
  ·exact⟨ZN _,by simp⟩
  rintro k hi0;refine Av (Ao (A9 (Cm rfl rfl) rfl (Ap (Az (AY ?_)))));refine Av (A2 (b:=decide (((k:Int))<((dg.length:Int)))) rfl (λhj=>?_) (λhj=>?_))
  ·have hn:=hj;try simp only[Za,YZ] at hn
   have f93:=hj;try simp at f93
   refine A5 (Az (AY ?_));refine Av (AV (Av (Ao (A9 (At rfl) rfl (A9 (Aj rfl) rfl (Ap (Az (AY ?_))))))));refine AD [(3,.string (B (dg))),(4,.int .i64 ((k:Int))),(38,.int .i64 ((dg.length:Int))),(39,.int .i64 ((k:Int))),(40,.bool (decide (((k:Int))<((dg.length:Int))))),(41,.int .i64 ((k:Int))),(42,.string (B (dg))),(43,.int .i64 ((k:Int))),(44,.int .u8 (Cr dg (k:Int))),(45,.bool (decide ((Cr dg (k:Int))<(48)))),(46,.bool (decide ((Cr dg (k:Int))<(48)))),(51,.bool (((decide ((Cr dg (k:Int))<(48)))||(decide ((57)<(Cr dg (k:Int)))))))] [] (φ:=True) ?_ (λh7=>?_)
   ·refine Ao (A9 (At rfl) rfl (A9 (At rfl) rfl (A9 (BT Eo rfl rfl (by first | omega | (simp;omega) | (simp at *;omega) | exact CM (by assumption)) (by first | omega | (simp;omega) | (simp at *;omega) | exact CM (by assumption))) rfl (A9 (Cm rfl rfl) rfl (A9 (At rfl) rfl (AG (decide ((Cr dg (k:Int))<(48))) (λhb=>?_) (λhb=>?_)))))))
    ·have h2:=hb;try simp only[Za,YZ] at h2
     have f94:=hb;try simp at f94
     refine Ak rfl rfl hb rfl (Ak rfl rfl hb rfl (Ak rfl rfl hb rfl (Ak rfl rfl hb rfl (A9 (Ar rfl hb rfl) rfl (Ap ?_)))));exact Az (B5 trivial ⟨rfl,rfl,rfl,rfl,rfl,rfl,rfl,rfl,rfl,rfl,rfl,fb (by first | (simp only[hh,hj,hb,Zr,Zw,Z1,Zn,Zx,Zv,Z2,Zy,Zi,Zp,Zl,Zh,ZG,Z8,reduceIte,Zm];done) | simp[hh,hj,hb]),trivial⟩ .slnil)
    ·have h2:=hb;try simp only[Za,YZ] at h2
     have f94:=hb;try simp at f94
     refine Be rfl rfl hb (A9 (At rfl) rfl (Be rfl rfl hb (A9 (At rfl) rfl (Be rfl rfl hb (A9 (BT Eo rfl rfl (by first | omega | (simp;omega) | (simp at *;omega) | exact CM (by assumption)) (by first | omega | (simp;omega) | (simp at *;omega) | exact CM (by assumption))) rfl (Be rfl rfl hb (A9 (C3 rfl rfl) rfl (A9 (A7 rfl hb rfl) rfl (Ap ?_)))))))));exact Az (B5 trivial ⟨rfl,rfl,rfl,rfl,rfl,rfl,rfl,rfl,rfl,rfl,rfl,fb (by first | (simp only[hh,hj,hb,Zr,Zw,Z1,Zn,Zx,Zv,Z2,Zy,Zi,Zp,Zl,Zh,ZG,Z8,reduceIte,Zm];done) | simp[hh,hj,hb]),trivial⟩ .slnil)
   refine A2 (b:=((decide ((Cr dg (k:Int))<(48)))||(decide ((57)<(Cr dg (k:Int)))))) rfl (λhl=>?_) (λhl=>?_)
   ·have h3:=hl;try simp only[Za,YZ] at h3
    have f96:=hl;try simp at f96
    refine Av (Ao (A9 (Aj rfl) rfl (Ap (Az (AY ?_)))));refine A1 (AK (Am (Am (AK (Am (A4 (B8 rfl rfl) ?_))))));exact GF (by simp[GB,hdg,Vl hi0 hn hl])
   ·have h3:=hl;try simp only[Za,YZ] at h3
    have f96:=hl;try simp at f96
    refine A5 (Ba (Az (AY ?_)));refine Ao (A9 (Bv rfl rfl (IntWalk.i64_in _ (by omega))) rfl (A9 (At rfl) rfl (Ap (Az (AJ (k+1) ?_ ⟨fi (by first | rfl | (simp;done) | omega | (simp;omega)),rfl,rfl,trivial⟩ .slnil)))));exact Qs hi0 hn hl
  ·have hn:=hj;try simp only[Za,YZ] at hn
   have f93:=hj;try simp at f93
   refine B2 (A8 (A8 (Bh (Az (AY ?_)))));refine Av (Ao (A9 (Aj rfl) rfl (Ap (Az (AY ?_)))));refine A1 (A4 (B8 rfl rfl) ?_);exact GF (by rw[Vd hdg hform hh (Sg hi0 hn)])
theorem Wc (p:List UInt8)(hp:p.length≤281474976710656)(w:World):Calls Tryz.prog 108 [.string (B (p))].toArray w (Ji w (.tuple #[.int .i64 (B3 p),.int .i64 (Cb p)])):=by
 refine GH (n:=42) Tryz.func108 rfl Tryz.ntmps108 rfl (Av (Ao (A9 (Aj rfl) rfl (A9 (Aj rfl) rfl (Ap (Az (AY ?_)))))));refine AD [(0,.string (B (p))),(2,.int .i64 (0)),(3,.int .i64 (0)),(4,.bool (((decide ((0)<((p.length:Int))))&&(decide ((Cr p 0)=(45))))))] [] (φ:=True) ?_ (λhy=>?_)
 ·refine Ao (A9 (At rfl) rfl (A9 (BJ Eo rfl) rfl (A9 (C3 rfl rfl) rfl (A9 (At rfl) rfl (AG (decide ((0)<((p.length:Int)))) (λha=>?_) (λha=>?_))))))
  ·have hm:=ha;try simp only[Za,YZ] at hm
   have hn:=ha;try simp at hn
   refine Be rfl rfl ha (A9 (At rfl) rfl (Be rfl rfl ha (A9 (BT Eo rfl rfl (by first | omega | (simp;omega) | (simp at *;omega)) (by first | omega | (simp;omega) | (simp at *;omega))) rfl (Be rfl rfl ha (A9 (Bq rfl rfl) rfl (A9 (Ar rfl ha rfl) rfl (A9 (Aj rfl) rfl (Ap ?_))))))));exact Az (B5 trivial ⟨rfl,rfl,rfl,fb (by first | (simp only[ha,Zr,Zw,Z1,Zn,Zx,Zv,Z2,Zy,Zi,Zp,Zl,Zh,ZG,Z8,reduceIte,Zm];done) | simp[ha]),trivial⟩ .slnil)
  ·have hm:=ha;try simp only[Za,YZ] at hm
   have hn:=ha;try simp at hn
   refine Ak rfl rfl ha rfl (Ak rfl rfl ha rfl (Ak rfl rfl ha rfl (A9 (A7 rfl ha rfl) rfl (A9 (Aj rfl) rfl (Ap ?_)))));exact Az (B5 trivial ⟨rfl,rfl,rfl,fb (by first | (simp only[ha,Zr,Zw,Z1,Zn,Zx,Zv,Z2,Zy,Zi,Zp,Zl,Zh,ZG,Z8,reduceIte,Zm];done) | simp[ha]),trivial⟩ .slnil)
 refine Av (Av (Ao (A9 (At rfl) rfl (EA Tryz.call128 rfl (λw hw=>XA p (by first | omega | (simp;done) | (simp;omega) | (simp at *;omega) | (split<;>first | omega | (simp;omega))) w) rfl (A9 (BW rfl) rfl (Ap (Az (AY ?_))))))));refine A2 (b:=!(GB p)) rfl (λhb=>?_) (λhb=>?_)
 ·have ho:=hb;try simp only[Za,YZ] at ho
  have hf:=hb;try simp only[Za,YZ,Zd,Zz,Zq,ZL,ZE,Z3,not_or,Int.not_lt,Int.not_le] at hf
  refine Av (Ao (A9 (Aj rfl) rfl (A9 (Aj rfl) rfl (Ap (Az (AY ?_))))));refine A1 (Am (A4 (In rfl rfl rfl) ?_));exact GF (by simp[B3,Cb,hf])
 ·have ho:=hb;try simp only[Za,YZ] at ho
  have hf:=hb;try simp only[Za,YZ,Zd,Zz,Zq,ZL,ZE,Z3,not_or,Int.not_lt,Int.not_le] at hf
  refine A5 (Az (AY ?_));refine Av (Ao (A9 (Aj rfl) rfl (Ap (Az (AY ?_)))));refine Av (Av (Ao (A9 (At rfl) rfl (A9 (BJ Eo rfl) rfl (A9 (At rfl) rfl (Ap (Az (AY ?_))))))));refine AV (Ih (S:=Nat×Nat) (λ(x:Nat×Nat)=>match x with | ⟨k,n⟩=>k≤p.length∧n≤1000000000000∧Ed 0 p=Ed n (p.drop k)) (λ(x:Nat×Nat)=>match x with | ⟨k,n⟩=>[(20,.int .i64 ((k:Int))),(5,.int .i64 ((n:Int))),(0,.string (B (p))),(4,.bool (((decide ((0)<((p.length:Int))))&&(decide ((Cr p 0)=(45)))))),(19,.int .i64 ((p.length:Int)))]) (λ(x:Nat×Nat)=>match x with | ⟨k,n⟩=>[]) (λ(x:Nat×Nat)=>match x with | ⟨k,n⟩=>p.length-k) (0,0) ?_ ⟨fi (by first | rfl | (simp;done) | omega | (simp;omega)),fi (by first | rfl | (simp;done) | omega | (simp;omega)),rfl,rfl,rfl,trivial⟩ .slnil ?_)
  ·exact⟨ZN _,ZN _,by simp⟩
  rintro⟨k,n⟩ hi0;have hk1:=hi0.1;have hk2:=hi0.2.1;refine Av (Ao (A9 (Cm rfl rfl) rfl (Ap (Az (AY ?_)))));refine Av (A2 (b:=decide (((k:Int))<((p.length:Int)))) rfl (λhd=>?_) (λhd=>?_))
  ·have hh:=hd;try simp only[Za,YZ] at hh
   have hq:=hd;try simp at hq
   refine A5 (Az (AY ?_));refine AD [(0,.string (B (p))),(4,.bool (((decide ((0)<((p.length:Int))))&&(decide ((Cr p 0)=(45)))))),(5,.int .i64 ((if decide ((Cr p (k:Int))=(45))=true then(n:Int) else(10*(n:Int))+((Cr p (k:Int))-48)))),(6,.int .i64 ((k:Int))),(19,.int .i64 ((p.length:Int))),(20,.int .i64 ((k:Int))),(21,.bool (decide (((k:Int))<((p.length:Int))))),(22,.int .i64 ((k:Int))),(23,.string (B (p))),(24,.int .i64 ((k:Int))),(25,.int .u8 (Cr p (k:Int))),(26,.bool (decide ((Cr p (k:Int))=(45))))] [] (φ:=((decide ((Cr p (k:Int))=(45)))||(!(decide ((1000000000000)<((10*(n:Int))+((Cr p (k:Int))-48))))))=true) ?_ (λhu=>?_)
   ·refine AV (Av (Ao (A9 (At rfl) rfl (A9 (Aj rfl) rfl (Ap (Az (AY ?_)))))));refine Av (Av (Ao (A9 (At rfl) rfl (A9 (At rfl) rfl (A9 (BT Eo rfl rfl (by first | omega | (simp;omega) | (simp at *;omega)) (by first | omega | (simp;omega) | (simp at *;omega))) rfl (A9 (Bq rfl rfl) rfl (Ap (Az (AY ?_)))))))));refine A2 (b:=decide ((Cr p (k:Int))=(45))) rfl (λhe=>?_) (λhe=>?_)
    ·have hl:=he;try simp only[Za,YZ] at hl
     have hr:=he;try simp at hr
     refine B2 (A8 (Bh ?_));exact Az (B5 (by first | (simp only[hb,hd,he,Zr,Zw,Z1,Zn,Zx,Zv,Z2,Zy,Zi,Zp,Zl,Zh,ZG,Z8,reduceIte,Zm];done) | simp[hb,hd,he]) ⟨rfl,rfl,fi (by first | (simp only[hb,hd,he,Zr,Zw,Z1,Zn,Zx,Zv,Z2,Zy,Zi,Zp,Zl,Zh,ZG,Z8,reduceIte,Zm];done) | simp[hb,hd,he]),rfl,rfl,rfl,rfl,rfl,rfl,rfl,rfl,rfl,trivial⟩ .slnil)
    ·have hl:=he;try simp only[Za,YZ] at hl
     have hr:=he;try simp at hr
     refine A5 (Az (AY ?_));refine Av (Ao (A9 (At rfl) rfl (A9 (WX rfl rfl (IntWalk.i64_in _ (by first | omega | (have:=Ht (p:=p) (k:=k) (by simp_all) (by omega) (by simp_all);omega)))) rfl (A9 (At rfl) rfl (A9 (At rfl) rfl (A9 (BT Eo rfl rfl (by first | omega | (simp;omega) | (simp at *;omega)) (by first | omega | (simp;omega) | (simp at *;omega))) rfl (A9 (KK rfl rfl (IntWalk.u8_in _ (by first | omega | (have:=Ht (p:=p) (k:=k) (by simp_all) (by omega) (by simp_all);omega)))) rfl (A9 (MX ⟨_,Tryz.underlying5⟩ Yy rfl (IntWalk.i64_in _ (by first | omega | (have:=Ht (p:=p) (k:=k) (by simp_all) (by omega) (by simp_all);omega)))) rfl (A9 (Bv rfl rfl (IntWalk.i64_in _ (by first | omega | (have:=Ht (p:=p) (k:=k) (by simp_all) (by omega) (by simp_all);omega)))) rfl (A9 (Aj rfl) rfl (Ap (Az (AY ?_)))))))))))));refine Av (Ao (A9 (At rfl) rfl (A9 (C3 rfl rfl) rfl (Ap (Az (AY ?_))))));refine A2 (b:=decide ((1000000000000)<((10*(n:Int))+((Cr p (k:Int))-48)))) rfl (λhg=>?_) (λhg=>?_)
     ·have hi:=hg;try simp only[Za,YZ] at hi
      have hk:=hg;try simp at hk
      refine Av (Ao (A9 (Aj rfl) rfl (A9 (Aj rfl) rfl (Ap (Az (AY ?_))))));refine A1 (AK (Am (Am (AK (Am (A4 (In rfl rfl rfl) ?_))))));have hx:=(Lv hf).2 (Ug hf hh hi0.2.2 hl hi);exact GF (by rw[hx.1,hx.2])
     ·have hi:=hg;try simp only[Za,YZ] at hi
      have hk:=hg;try simp at hk
      refine A5 (Ba ?_);exact Az (B5 (by first | (simp only[hb,hd,he,hg,Zr,Zw,Z1,Zn,Zx,Zv,Z2,Zy,Zi,Zp,Zl,Zh,ZG,Z8,reduceIte,Zm];done) | simp[hb,hd,he,hg]) ⟨rfl,rfl,fi (by first | (simp only[hb,hd,he,hg,Zr,Zw,Z1,Zn,Zx,Zv,Z2,Zy,Zi,Zp,Zl,Zh,ZG,Z8,reduceIte,Zm];done) | simp[hb,hd,he,hg]),rfl,rfl,rfl,rfl,rfl,rfl,rfl,rfl,rfl,trivial⟩ .slnil)
   have hi:=hu;try simp only[Za,YZ] at hi
   have hk:=hu;try simp only[Za,YZ,Zd,Zz,Zq,ZL,ZE,Z3,not_or,Int.not_lt,Int.not_le] at hk
   obtain⟨n1,hn1,hn2,hn3⟩:=Ui (p:=p) (k:=k) (n:=n) hf hh hi0.2.2 hk2 (by simpa using hi);rw[hn1];refine Ao (A9 (Bv rfl rfl (IntWalk.i64_in _ (by first | omega | (have:=Ht (p:=p) (k:=k) (by simp_all) (by omega) (by simp_all);omega)))) rfl (A9 (At rfl) rfl (Ap (Az (AJ (k+1,n1) ?_ ⟨fi (by first | rfl | (simp;done) | omega | (simp;omega)),fi (by first | rfl | (simp;done) | omega | (simp;omega)),rfl,rfl,rfl,trivial⟩ .slnil)))));exact⟨⟨by omega,hn3,hn2⟩,by show p.length-(k+1)<p.length-k;omega⟩
  ·have hh:=hd;try simp only[Za,YZ] at hh
   have hq:=hd;try simp at hq
   refine B2 (A8 (A8 (Bh (Az (AY ?_)))));refine Av (Av (Ao (A9 (At rfl) rfl (Ap (Az (AY ?_))))));refine A2 (b:=((decide ((0)<((p.length:Int))))&&(decide ((Cr p 0)=(45))))) rfl (λhj=>?_) (λhj=>?_)
   ·have hs:=hj;try simp only[Za,YZ] at hs
    have ht:=hj;try simp at ht
    refine Av (Ao (A9 (At rfl) rfl (A9 (UE rfl (IntWalk.i64_in _ (by omega))) rfl (A9 (Aj rfl) rfl (A9 (Aj rfl) rfl (Ap (Az (AY ?_))))))));refine A1 (Am (A4 (In rfl rfl rfl) ?_));have hx:=(Lv hf).1 n (RB hi0.2.2 hh);exact GF (by rw[hx.1,hx.2];simp only[Hu];simp only[hj];simp)
   ·have hs:=hj;try simp only[Za,YZ] at hs
    have ht:=hj;try simp at ht
    refine A5 (Az (AY ?_));refine Av (Ao (A9 (At rfl) rfl (A9 (Aj rfl) rfl (A9 (Aj rfl) rfl (Ap (Az (AY ?_)))))));refine A1 (A4 (In rfl rfl rfl) ?_);have hx:=(Lv hf).1 n (RB hi0.2.2 hh);exact GF (by rw[hx.1,hx.2];simp only[Hu];simp only[hj];simp)
theorem Vb (n:Int)(h0 : -9223372036854775808≤n)(h1:n≤9223372036854775807)(w:World):Calls Tryz.prog 46 [.int .i64 (n)].toArray w (Ji w (.string (B (Lib.itoa n)))):=by
 refine GH (n:=34) Tryz.func46 rfl Tryz.ntmps46 rfl (Av (Ao (A9 (Aj rfl) rfl (Ap (Az (AY ?_))))));refine Av (Ao (A9 (Aj rfl) rfl (Ap (Az (AY ?_)))));refine Av (Ao (A9 (Aj rfl) rfl (Ap (Az (AY ?_)))));refine Av (Av (Ao (A9 (At rfl) rfl (A9 (Aj rfl) rfl (Ap (Az (AY ?_)))))));refine AV (Ih (S:=Int×List UInt8) (λ(x:Int×List UInt8)=>match x with | ⟨m,s⟩=>(-9223372036854775808≤m∧m≤9223372036854775807)∧Vh n m s) (λ(x:Int×List UInt8)=>match x with | ⟨m,s⟩=>[(5,.int .i64 (m)),(4,.string (B (s))),(0,.int .i64 (n)),(2,.string (B ([]))),(3,.string (B ([48,49,50,51,52,53,54,55,56,57])))]) (λ(x:Int×List UInt8)=>match x with | ⟨m,s⟩=>[]) (λ(x:Int×List UInt8)=>match x with | ⟨m,s⟩=>m.natAbs+(if s=[] then 1 else 0)) (n,[]) ?_ ⟨fi (by first | rfl | (simp;done) | omega | (simp;omega)),fs (by first | rfl | simp),rfl,rfl,rfl,trivial⟩ .slnil ?_)
 ·exact⟨⟨h0,h1⟩,.inl ⟨rfl,rfl⟩⟩
 rintro⟨m,s⟩ hi0;have hb:=hi0.1;have hsl:=Wy h0 h1 hi0.2;have htd:=SE hi0.1.1 hi0.1.2;have htm:=SD m;refine Av (AD [(0,.int .i64 (n)),(2,.string (B ([]))),(3,.string (B ([48,49,50,51,52,53,54,55,56,57]))),(4,.string (B (s))),(5,.int .i64 (m)),(8,.int .i64 (m)),(9,.bool (!(decide ((m)=(0))))),(10,.bool (!(decide ((m)=(0))))),(13,.bool (((!(decide ((m)=(0))))||(decide ((s)=(([]:List UInt8)))))))] [] (φ:=True) ?_ (λho=>?_))
 ·refine Ao (A9 (At rfl) rfl (A9 (DJ rfl rfl) rfl (A9 (At rfl) rfl (AG (!(decide ((m)=(0)))) (λha=>?_) (λha=>?_)))))
  ·have hh:=ha;try simp only[Za,YZ] at hh
   have hi:=ha;try simp at hi
   refine Ak rfl rfl ha rfl (Ak rfl rfl ha rfl (A9 (Ar rfl ha rfl) rfl (Ap ?_)));exact Az (B5 trivial ⟨rfl,rfl,rfl,rfl,rfl,rfl,rfl,rfl,fb (by first | (simp only[ha,Zr,Zw,Z1,Zn,Zx,Zv,Z2,Zy,Zi,Zp,Zl,Zh,ZG,Z8,reduceIte,Zm];done) | simp[ha]),trivial⟩ .slnil)
  ·have hh:=ha;try simp only[Za,YZ] at hh
   have hi:=ha;try simp at hi
   refine Be rfl rfl ha (A9 (At rfl) rfl (Be rfl rfl ha (A9 (D3 rfl rfl) rfl (A9 (A7 rfl ha rfl) rfl (Ap ?_)))));exact Az (B5 trivial ⟨rfl,rfl,rfl,rfl,rfl,rfl,rfl,rfl,fb (by first | (simp only[ha,Zr,Zw,Z1,Zn,Zx,Zv,Z2,Zy,Zi,Zp,Zl,Zh,ZG,Z8,reduceIte,Zm];done) | simp[ha]),trivial⟩ .slnil)
 refine A2 (b:=((!(decide ((m)=(0))))||(decide ((s)=(([]:List UInt8)))))) rfl (λhd=>?_) (λhd=>?_)
 ·have hj:=hd;try simp only[Za,YZ] at hj
  have hk:=hd;try simp at hk
  refine A5 (Az (AY ?_));refine Av (AV (Av (Ao (A9 (At rfl) rfl (A9 (WV rfl rfl (by decide)) rfl (A9 (Aj rfl) rfl (Ap (Az (AY ?_)))))))));refine AD [(0,.int .i64 (n)),(2,.string (B ([]))),(3,.string (B ([48,49,50,51,52,53,54,55,56,57]))),(4,.string (B (s))),(5,.int .i64 (m)),(6,.int .i64 ((if decide ((Int.tmod m 10)<(0))=true then -(Int.tmod m 10) else Int.tmod m 10))),(8,.int .i64 (m)),(9,.bool (!(decide ((m)=(0))))),(10,.bool (!(decide ((m)=(0))))),(13,.bool (((!(decide ((m)=(0))))||(decide ((s)=(([]:List UInt8))))))),(16,.int .i64 (m)),(17,.int .i64 (Int.tmod m 10)),(18,.int .i64 (Int.tmod m 10)),(19,.bool (decide ((Int.tmod m 10)<(0))))] [] (φ:=True) ?_ (λhp=>?_)
  ·refine Av (Ao (A9 (At rfl) rfl (A9 (Cm rfl rfl) rfl (Ap (Az (AY ?_))))));refine A2 (b:=decide ((Int.tmod m 10)<(0))) rfl (λhe=>?_) (λhe=>?_)
   ·have hl:=he;try simp only[Za,YZ] at hl
    have hm:=he;try simp at hm
    refine Ao (A9 (At rfl) rfl (A9 (UE rfl (IntWalk.i64_in _ (by omega))) rfl (A9 (Aj rfl) rfl (Ap ?_))));exact Az (B5 trivial ⟨rfl,rfl,rfl,rfl,rfl,fi (by first | (simp only[hd,he,Zr,Zw,Z1,Zn,Zx,Zv,Z2,Zy,Zi,Zp,Zl,Zh,ZG,Z8,reduceIte,Zm];done) | simp[hd,he]),rfl,rfl,rfl,rfl,rfl,rfl,rfl,rfl,trivial⟩ .slnil)
   ·have hl:=he;try simp only[Za,YZ] at hl
    have hm:=he;try simp at hm
    refine A5 ?_;exact Az (B5 trivial ⟨rfl,rfl,rfl,rfl,rfl,fi (by first | (simp only[hd,he,Zr,Zw,Z1,Zn,Zx,Zv,Z2,Zy,Zi,Zp,Zl,Zh,ZG,Z8,reduceIte,Zm];done) | simp[hd,he]),rfl,rfl,rfl,rfl,rfl,rfl,rfl,rfl,trivial⟩ .slnil)
  obtain⟨d1,hd1,hd2,hd3⟩:=NU m;rw[hd1];refine Ao (A9 (At rfl) rfl (A9 (At rfl) rfl (A9 (At rfl) rfl (A9 (Bv rfl rfl (IntWalk.i64_in _ (by first | omega | (have:=NU m;obtain⟨d1,hd1,hd2,hd3⟩:=this;split at hd1<;>omega)))) rfl (A9 (Iw Eo rfl rfl rfl (by first | omega | (simp;omega)) (by first | omega | (simp;omega)) (by first | omega | (simp;omega))) rfl (A9 (At rfl) rfl (A9 (CL rfl rfl (by simp;omega)) rfl (A9 (Aj rfl) rfl (Ap (Ba (Az (AY ?_))))))))))));refine Ao (A9 (At rfl) rfl (A9 (WW rfl rfl (by decide) (IntWalk.i64_in _ (by omega))) rfl (A9 (Aj rfl) rfl (Ap (Az (AJ (Int.tdiv m 10,(List.take (Int.toNat ((d1:Int)+1)-Int.toNat ((d1:Int))) (List.drop (Int.toNat ((d1:Int))) [48,49,50,51,52,53,54,55,56,57]))++s) ?_ ⟨fi (by first | rfl | (simp;done) | omega | (simp;omega)),fs (by first | rfl | simp),rfl,rfl,rfl,trivial⟩ .slnil))))));have hx:=Vg hi0.2 hd hd2;exact⟨⟨htd,hx.1⟩,hx.2⟩
 ·have hj:=hd;try simp only[Za,YZ] at hj
  have hk:=hd;try simp at hk
  refine B2 (A8 (A8 (Bh (Az (AY ?_)))));refine Av (Av (Ao (A9 (At rfl) rfl (A9 (Cm rfl rfl) rfl (Ap (Az (AY ?_)))))));refine A2 (b:=decide ((n)<(0))) rfl (λhf=>?_) (λhf=>?_)
  ·have hg:=hf;try simp only[Za,YZ] at hg
   have hn:=hf;try simp at hn
   refine Av (Ao (A9 (At rfl) rfl (A9 (CL rfl rfl (by simp;omega)) rfl (A9 (Aj rfl) rfl (Ap (Az (AY ?_)))))));refine A1 (Am (A4 (B8 rfl rfl) ?_));exact GF (by rw[Wx (Sc hi0.2 hd) hg])
  ·have hg:=hf;try simp only[Za,YZ] at hg
   have hn:=hf;try simp at hn
   refine A5 (Az (AY ?_));refine Av (Ao (A9 (At rfl) rfl (A9 (Aj rfl) rfl (Ap (Az (AY ?_))))));refine A1 (A4 (B8 rfl rfl) ?_);exact GF (by rw[← Ww (Sc hi0.2 hd) hg])
end Go.Proofs.YthbbedliepkakaaGreatDoor
namespace Go.Proofs
open Go.Shelf
end Go.Proofs
namespace Go.Proofs.YthbbedliepkakaaGreatDoor.Q
open Go Go.RowKit
set_option linter.unusedVariables false
def GE (Z:Fz):Prop:=∀w,TC Z w→So w
theorem GE.mono {Z Z':Fz}(h:Fz.le Z Z')(hg:GE Z):GE Z':=λw hw=>hg w ⟨λb o e=>hw b o (h b o e),λk i b e=>hw.nm k i b (h.nm k i b e)⟩
theorem Lg.rle {P:Program}{E:Fz→Prop}{f:FuncId}{args:List Rp}{r r':Rp}(h:Lg P E f args r)(hr:Ld r r'):Lg P E f args r':=λw Z vs hv hs=>
 (h w Z vs hv hs).mono λe w' ⟨q,v,H,Z',he,⟨hq,hH⟩,hp,ht⟩=>⟨r',v,H,Z',he,⟨rfl,hH⟩,hr Z' v (hq▸hp),ht⟩
theorem Ld.tup2 {a b:Value}:Ld (rv (.tuple #[a,b])) (DY [rv a,rv b]):=λZ v h=>⟨[a,b],h,rfl,rfl,trivial⟩
theorem Lg.of_id {P:Program}{E:Fz→Prop}{f:FuncId}{vs:List Value}{v:Value}(h:∀w,Calls P f vs.toArray w (λe w'=>e = .returned v∧w'=w)):Lg P E f (vs.map rv) (rv v):=
 Lg.of_old λw Z _ _=>(h w).mono λe w' ⟨he,hw⟩=>⟨he,by rw[hw];exact Proofs.YthbbedliepkakaaGreatDoor.St.refl w []⟩
theorem Qi (m:Int)(g:BZ .i64 m=true):Lg Tryz.prog GE 65 [rI .i64 m] (rS (Lib.itoa m)):=Lg.of_old (vs:=[.int .i64 m]) λw Z hf he=>Vc m (Gw g).1 (Gw g).2 w (he w hf)
theorem X4 (m:Int)(g:BZ .i64 m=true):Lg Tryz.prog GE 80 [rI .i64 m] (rS (Lib.itoa m)):=Lg.of_old (vs:=[.int .i64 m]) λw Z hf he=>UU m (Gw g).1 (Gw g).2 w (he w hf)
theorem Wd (s:AE)(g:IB 1 s.length=true):Lg Tryz.prog GE 82 [rS s] (DY [rI .i64 (B3 s),rI .i64 (Cb s)]):=(Lg.of_old (vs:=[.string (B s)]) λw Z hf he=>We s (by simp[IB] at g;omega) w (he w hf)).rle Ld.tup2
theorem Si (s:AE)(c:UInt8):Lg Tryz.prog GE 130 [rS s,rS [c]] (rI .i64 (Lib.countByte s c)):=Lg.of_id (vs:=[.string (B s),.string (B [c])]) λw=>by have:=Tryz.strings_Count_one (B s) c w;rwa [Rv] at this
theorem Yn (s:AE)(m:Int):Lg Tryz.prog GE 136 [rS s,rI .u8 m] (rI .i64 (Lib.indexByte s (Int.toNat m).toUInt8)):=Lg.of_old (vs:=[.string (B s),.int .u8 m]) λw Z hf he=>Qh s m w
theorem Tu (s:AE):Lg Tryz.prog GE 75 [rS s] (rB (E0 s)):=Lg.of_old (vs:=[.string (B s)]) λw Z hf he=>YH s w
theorem Ty (m:Int)(g:BZ .i64 m=true):Lg Tryz.prog GE 46 [rI .i64 m] (rS (Lib.itoa m)):=Lg.of_old (vs:=[.int .i64 m]) λw Z hf he=>Vb m (Gw g).1 (Gw g).2 w
theorem U5 (s:AE)(g:IB 1 s.length=true):Lg Tryz.prog GE 108 [rS s] (DY [rI .i64 (B3 s),rI .i64 (Cb s)]):=(Lg.of_old (vs:=[.string (B s)]) λw Z hf he=>Wc s (by simp[IB] at g;omega) w).rle Ld.tup2
set_option linter.unusedSimpArgs false
theorem N8 (l:List UInt8):((TG l).map KY).flatten=(l.map λc=>Value.int .u8 c.toNat).map rv:=by
 induction l with
 | nil=>rfl
 | cons c r ih=>simp only[TG,ZK,List.flatten_cons] at ih ⊢;rw[ih];rfl
theorem R8 (l:List UInt8):(TG l).length=l.length:=by simp[TG]
section
variable {P : Program} {n : Nat} {c : Cx} {ops : Array Oper} {Q : Exit → Act → World → Prop} {rest : List Oper} {l : Fr} {H H' : List Ent} {d : Nat} {d' : Option Nat} {x y z3 : Operand} {ty t t' e : TypeId} {pos : String} {af : Array Edge} {g : Option (Nat × Bool)} {v u : Value} {r : Rp} {sz : Nat} {K : Act → World → Prop}
theorem Fn.bld {E:Fz→Prop}{f:FuncId}{args:List Rp}{T te:TypeId}{b:Nat}{v:Value}{s s':List UInt8}{res:Rp}
  (h:∀p,(p = .pointer none∨p = .pointer (some ⟨b,0,none⟩))→Fn P E f args [.blk b [rv p,rv v] T,.row v te 1 ((TG s).map KY)] (λR H=>∃w0:Value,R=res∧H=[.blk b [rv (.pointer (some ⟨b,0,none⟩)),rv w0] T,.row w0 te 1 ((TG s').map KY)])) :
  Fn P E f args [.bld T te b v s] (λR H=>∃w0:Value,R=res∧H=[.bld T te b w0 s']):=λw Z vs hv hs=>by
 obtain⟨p,hp,h1,h2,h3⟩:=hs.has _ (List.mem_singleton.2 rfl);have hfoot:[Ent.bld T te b v s].flatMap Ent.foot=[Ent.blk b [rv p,rv v] T,Ent.row v te 1 ((TG s).map KY)].flatMap Ent.foot:=by simp[Ent.foot]
 have hs':St ⟨w,Z,[Ent.blk b [rv p,rv v] T,Ent.row v te 1 ((TG s).map KY)].flatMap Ent.foot,E,[]⟩ [Ent.blk b [rv p,rv v] T,Ent.row v te 1 ((TG s).map KY)] Z w:=by
  refine⟨rfl,rfl,rfl,Z6 _,λ_ _ _=>rfl,?_,λe he k hk=>.inr (List.mem_flatMap.2 ⟨e,he,hk⟩),?_,hs.frz,Fz.le.refl _,λ_ _ e=>.inl e,λe he k hk=>?_,hs.env,hs.emono,Lf.none rfl⟩
  ·intro e he;simp only[ZU,List.not_mem_nil,or_false] at he;rcases he with rfl | rfl
   ·exact⟨[p,v],h1,rfl,rfl,trivial⟩
   ·refine⟨λcl hcl=>by obtain⟨z,_,rfl⟩:=List.mem_map.1 hcl;rfl,_,by simpa[R8] using h2,?_⟩;rw[N8];exact Bg.rvs Z _
  ·refine List.pairwise_cons.2 ⟨λe he k hk hk'=>?_,List.pairwise_singleton ..⟩;simp only[ZC] at he;subst he;simp only[Ent.foot,ZC] at hk;subst hk;simp only[Ent.foot,Option.mem_toList] at hk';exact h3 hk'
  ·have hmem:k∈[Ent.bld T te b v s].flatMap Ent.foot:=by rw[hfoot];exact List.mem_flatMap.2 ⟨e,he,hk⟩
   obtain⟨e',he',hk'⟩:=List.mem_flatMap.1 hmem;exact hs.zdis e' he' k hk'
 rw[hfoot] at hs ⊢;refine(h p hp w Z vs hv hs').mono λe w' ⟨R,vv,H,Z',he,⟨w0,hR,hH⟩,hpR,ht⟩=>⟨R,vv,[.bld T te b w0 s'],Z',he,⟨w0,hR,rfl⟩,hpR,?_⟩
 subst hH;obtain⟨us,k1,k2⟩:=ht.has (.blk b [rv (.pointer (some ⟨b,0,none⟩)),rv w0] T) (by simp);obtain⟨k3,ws,k4,k5⟩:=ht.has (.row w0 te 1 ((TG s').map KY)) (by simp);have e1:=Bg.eq_rv (us:=[.pointer (some ⟨b,0,none⟩),w0]) k2;subst e1;rw[N8] at k5;have e2:=Bg.eq_rv k5;subst e2;have hd:=List.pairwise_cons.1 ht.dis;have hne:w0.ownBlock≠some b:=λhb=>hd.1 _ (List.mem_singleton.2 rfl) b (by simp[Ent.foot]) (by simp[Ent.foot,hb]);refine { ht with has:=?_,own:=?_,dis:=List.pairwise_singleton ..,zdis:=?_,gst:=⟨by simp[Ent.gk],by simp[Ent.gk],List.pairwise_singleton ..,ht.gst.new,by simp[Ent.gk]⟩ }
 ·intro e' he';simp only[ZC] at he';subst he';exact⟨_,.inr rfl,k1,by simpa[R8] using k4,hne⟩
 ·intro e' he' k hk;simp only[ZC] at he';subst he';simp only[Ent.foot,ZU] at hk;rcases hk with rfl | hk
  ·exact ht.own (.blk k [rv (.pointer (some ⟨k,0,none⟩)),rv w0] T) (by simp) k (by simp[Ent.foot])
  ·exact ht.own (.row w0 te 1 ((TG s').map KY)) (by simp) k hk
 ·intro e' he' k hk;simp only[ZC] at he';subst he';simp only[Ent.foot,ZU] at hk;rcases hk with rfl | hk
  ·exact ht.zdis (.blk k [rv (.pointer (some ⟨k,0,none⟩)),rv w0] T) (by simp) k (by simp[Ent.foot])
  ·exact ht.zdis (.row w0 te 1 ((TG s').map KY)) (by simp) k hk
theorem UD (hu:∃e',P.underlying t=some (.pointer e'))(hx:ev l x=some (rv (.pointer none))):Br P n c l H { dst:=d',op:=.binOp .eql t x (.const (.pointer none)) t',type:=ty,pos:=pos,after:=af,guard:=g } (rB true):=λa w Z ha _=>D7<|by
 obtain⟨e',hu⟩:=hu;have h1:∀dd:Nat,(Op.equalIn (dd+1) t (.pointer none) (.pointer none)).run P w = .ok true w:=λdd=>by simp[Op.equalIn,run_underlying hu]
 have h2:(Op.equal t (.pointer none) (.pointer none)).run P w = .ok true w:=h1 9999;have h3:(eqGuard .eql t x (.const (.pointer none)) (.pointer none) (.pointer none)).run P w = .ok () w:=by unfold eqGuard;split<;>simp
 have hy:a.eval (.const (.pointer none)) = .pointer none:=rfl;simp only[execOp,ha.eval hx,hy,Sem.run_bind,h3,Result.andThen_ok,binOp,h2,Sem.run_pure]
theorem NH {p:Addr}(hu:∃e',P.underlying t=some (.pointer e'))(hx:ev l x=some (rv (.pointer (some p)))):Br P n c l H { dst:=d',op:=.binOp .neq t x (.const (.pointer none)) t',type:=ty,pos:=pos,after:=af,guard:=g } (rB true):=λa w Z ha _=>D7<|by
 obtain⟨e',hu⟩:=hu;have h1:∀dd:Nat,(Op.equalIn (dd+1) t (.pointer (some p)) (.pointer none)).run P w = .ok false w:=λdd=>by simp[Op.equalIn,run_underlying hu]
 have h2:(Op.equal t (.pointer (some p)) (.pointer none)).run P w = .ok false w:=h1 9999;have h3:(eqGuard .neq t x (.const (.pointer none)) (.pointer (some p)) (.pointer none)).run P w = .ok () w:=by unfold eqGuard;split<;>simp
 have hy:a.eval (.const (.pointer none)) = .pointer none:=rfl;simp only[execOp,ha.eval hx,hy,Sem.run_bind,h3,Result.andThen_ok,binOp,h2,Sem.run_pure];rfl
section
variable {P : Program} {n : Nat} {c : Cx} {l : Fr} {H : List Ent} {d' : Option Nat} {x : Operand} {ty t t' e : TypeId} {pos : String} {af : Array Edge} {g : Option (Nat × Bool)} {v : Value}
end
theorem P1 {f:FuncId}{args:List Operand}{ats:Array TypeId}{o:Oper}{a:Act}{caps:List Value}(ho:o.op = .call { callee:=.value x,args:=args.toArray,argTypes:=ats })(hx:a.eval x = .func (.func f) #[] caps.toArray)
  (hcall:∀(as1:Array Value) (w:World),(callFunc f as1).run P w = .ok (.enter f as1) w) (w:World):(execOp a.eval o).run P w = .ok (.enter f (args.map a.eval++caps).toArray) w:=by
 simp[execOp,ho,resolve,hx,Deferred.ofValue,invoke,hcall]
theorem Kt {f:FuncId}{args:List Operand}{ats:Array TypeId}{rs:List Rp}{caps:List Value}{Hin Hr:List Ent}{Φ:Rp→List Ent→Prop}(hcall:∀(as1:Array Value) (w:World),(callFunc f as1).run P w = .ok (.enter f as1) w)(hx:ev l x=some (rv (.func (.func f) #[] caps.toArray)))(hv:LO l args=some rs)
  (hp:H.Perm (Hin++Hr)) (hc:Fn P c.E f (rs++caps.map rv) Hin Φ) (hn:Nat.blt d n=true) (h:∀r Ho,Φ r Ho→WL P n c ops Q rest ((d,r)::l) (Ho++Hr)) :
  WL P n c ops Q ({ dst:=some d,op:=.call { callee:=.value x,args:=args.toArray,argTypes:=ats },type:=ty,pos:=pos,after:=af,guard:=none }::rest) l H:=
 Kq (args:=λa=>(args.map a.eval++caps).toArray) (λa w Z ha hw=>⟨P1 rfl (ha.eval hx) hcall w,by
  have hw2:=hw.perm hp;refine(hc w Z _ (by have:=(GQ ha hv).append (Bg.rvs Z caps);simpa using this) hw2.enter).mono ?_;rintro e w' ⟨r,v,Ho,Z',he,hΦ,hr,hs⟩;exact⟨v,r,Ho++Hr,Z',he,hs.le,hr,hw2.call hs,h r Ho hΦ⟩⟩) hn
end
section
variable {P : Program} {n : Nat} {c : Cx} {ops : Array Oper} {Q : Exit → Act → World → Prop} {rest : List Oper} {l : Fr} {H : List Ent} {d : Nat} {ty : TypeId} {pos : String} {af : Array Edge} {r : Rp} {x y z3 : Operand}
theorem wo {d:Option Nat}{op:Op}{j dj:Nat}{want b:Bool}(hb:b=want)(h:WL P n c ops Q ({ dst:=d,op:=op,type:=ty,pos:=pos,after:=af,guard:=none }::rest) l H)(hj:El ops j=some dj:=by rfl)(hv:look l dj=some (rB b):=by rfl) :
  WL P n c ops Q ({ dst:=d,op:=op,type:=ty,pos:=pos,after:=af,guard:=some (j,want) }::rest) l H:=Be hj hv hb h
theorem wf {op:Op}{j dj:Nat}{want b:Bool}(hb:b = !want)(h:WL P n c ops Q rest ((d,rv undef)::l) H)(hj:El ops j=some dj:=by rfl)(hv:look l dj=some (rB b):=by rfl)(hn:Nat.blt d n=true:=by rfl) :
  WL P n c ops Q ({ dst:=some d,op:=op,type:=ty,pos:=pos,after:=af,guard:=some (j,want) }::rest) l H:=Ak hj hv hb hn h
theorem wu {op:Op}{j dj:Nat}{want:Bool}(h:WL P n c ops Q rest ((d,rv undef)::l) H)(hj:El ops j=some dj:=by rfl)(hv:look l dj=some (rv undef):=by rfl)(hn:Nat.blt d n=true:=by rfl) :
  WL P n c ops Q ({ dst:=some d,op:=op,type:=ty,pos:=pos,after:=af,guard:=some (j,want) }::rest) l H:=Ea hj hv hn h
theorem wv {op:Op}(hr:Br P n c l H { dst:=some d,op:=op,type:=ty,pos:=pos,after:=af,guard:=none } r)(h:WL P n c ops Q rest ((d,r)::l) H)(hn:Nat.blt d n=true:=by rfl):WL P n c ops Q ({ dst:=some d,op:=op,type:=ty,pos:=pos,after:=af,guard:=none }::rest) l H:=A9 hr hn h
theorem wm (h:ev l x=some r)(hk:WL P n c ops Q rest ((d,r)::l) H)(hn:Nat.blt d n=true:=by rfl):WL P n c ops Q ({ dst:=some d,op:=.move x,type:=ty,pos:=pos,after:=af,guard:=none }::rest) l H:=A9 (At h) hn hk
theorem wa (h:ev l x=some r)(hk:WL P n c ops Q rest ((d,r)::l) H)(hn:Nat.blt d n=true:=by rfl):WL P n c ops Q ({ dst:=some d,op:=.assign x,type:=ty,pos:=pos,after:=af,guard:=none }::rest) l H:=A9 (Aj h) hn hk
theorem ER {b:Bool}(hc:ev l z3=some (rB b))(hb:b=true)(h:ev l x=some r)(hk:WL P n c ops Q rest ((d,r)::l) H)(hn:Nat.blt d n=true:=by rfl):WL P n c ops Q ({ dst:=some d,op:=.pick z3 x y,type:=ty,pos:=pos,after:=af,guard:=none }::rest) l H:=A9 (Ar hc hb h) hn hk
theorem Dy {b:Bool}(hc:ev l z3=some (rB b))(hb:b=false)(h:ev l y=some r)(hk:WL P n c ops Q rest ((d,r)::l) H)(hn:Nat.blt d n=true:=by rfl):WL P n c ops Q ({ dst:=some d,op:=.pick z3 x y,type:=ty,pos:=pos,after:=af,guard:=none }::rest) l H:=A9 (A7 hc hb h) hn hk
theorem Dw {f:FuncId}{args:List Operand}{ats:Array TypeId}{rs:List Rp}(hcall:∀(as1:Array Value) (w:World),(callFunc f as1).run P w = .ok (.enter f as1) w)(hc:Lg P c.E f rs r)(hv:LO l args=some rs)(h:WL P n c ops Q rest ((d,r)::l) H)(hn:Nat.blt d n=true:=by rfl) :
  WL P n c ops Q ({ dst:=some d,op:=.call { callee:=.value (.func f),args:=args.toArray,argTypes:=ats },type:=ty,pos:=pos,after:=af,guard:=none }::rest) l H:=DS hcall hv hc rfl hn h
theorem D6 {f:FuncId}{args:List Operand}{ats:Array TypeId}{rs:List Rp}{Hin Hr:List Ent}{Φ:Rp→List Ent→Prop}(hcall:∀(as1:Array Value) (w:World),(callFunc f as1).run P w = .ok (.enter f as1) w)(hc:Fn P c.E f rs Hin Φ)(hv:LO l args=some rs)
  (hp:H.Perm (Hin++Hr)) (hn:Nat.blt d n=true) (h:∀r Ho,Φ r Ho→WL P n c ops Q rest ((d,r)::l) (Ho++Hr)) :
  WL P n c ops Q ({ dst:=some d,op:=.call { callee:=.value (.func f),args:=args.toArray,argTypes:=ats },type:=ty,pos:=pos,after:=af,guard:=none }::rest) l H:=EA hcall hv hp hc hn h
theorem NG {opsA:Array Oper}{f:FuncId}{args:List Operand}{ats:Array TypeId}{rs:List Rp}(hcall:∀(as1:Array Value) (w:World),(callFunc f as1).run P w = .ok (.enter f as1) w)(hc:Lg P c.E f rs r)(hv:LO l args=some rs) :
  DN P n c opsA Q l H { dst:=some d,op:=.call { callee:=.value (.func f),args:=args.toArray,argTypes:=ats },type:=ty,pos:=pos,after:=af,guard:=none } r H:=MV hcall hv hc rfl
theorem wt {K:Exit→Act→World→Prop}{l1:Fr}{H1:List Ent}(hl:AT l1 l:=by repeat (first | exact AT.nil | refine AT.c rfl ?_))(hH:H1.Sublist H:=by repeat (first | exact sN | refine sC ?_ | refine sS ?_)):WK n c (Exit.then (XN n c l1 H1) K .normal) l H:=Az (B5 hl hH)
theorem BL {p:Prop}(hp:p){K:Exit→Act→World→Prop}{l1:Fr}{H1:List Ent}(hl:p→AT l1 l:=by intro hp;repeat (first | exact AT.nil | refine AT.c rfl ?_ | refine AT.c (by first | (simp only[hp];rfl) | simp[hp]) ?_))(hH:H1.Sublist H:=by repeat (first | exact sN | refine sC ?_ | refine sS ?_)):WK n c (Exit.then (XN n c l1 H1) K .normal) l H:=Az (B5 (hl hp) hH)
end
open Go Go.RowKit Go.ChangeShapes Go.Deep
def ZW (W:World):Fz:=⟨λb=>W.heap[b]?,λ_ _=>none⟩
theorem ZW.frz (W:World):TC (ZW W) W:=⟨λ_ _ h=>h,λ_ _ _ h=>by cases h⟩
def Le (P:Program)(e:TypeId){α:Type}(enc:α→List Rp)(ok:α→Bool):Prop:=
 ∀{H:Type} {encH:TypeId×Value→H} {W:World} {sp:Nat→Bool} {held:Bool} {n:Nat} {cs:List Value} {x:DataW H×List MemPlace},DataW.trod encH P W 0 sp held n e cs=some x→∃y:α,ok y=true∧Bg (ZW W) (enc y) cs
section
variable {P : Program} {e t : TypeId}
theorem Le.int {k:IntKind}{enc:Int→List Rp}(ht:P.underlying e=some (.int k))(he:∀n,enc n=[rI k n]):Le P e enc (BZ k):=λh=>by
 obtain⟨n,rfl,_,hwf⟩:=DataW.trod_int ht h;exact⟨n,hwf,by rw[he];exact⟨rfl,trivial⟩⟩
theorem Le.str {enc:AE→List Rp}(ht:P.underlying e=some .string)(he:∀n,enc n=[rS n]):Le P e enc V6:=λh=>by
 obtain⟨s,rfl,_,hl⟩:=DataW.trod_string ht h;exact⟨s.data.toList,Zc (by rw[Array.length_toList];exact hl),by rw[he];exact⟨congrArg Value.string (YQ s),trivial⟩⟩
theorem Le.bool {enc:Bool→List Rp}(ht:P.underlying e=some .bool)(he:∀n,enc n=[rB n]):Le P e enc (λ_=>true):=λh=>by
 obtain⟨b,rfl,_⟩:=DataW.trod_bool ht h;exact⟨b,rfl,by rw[he];exact⟨rfl,trivial⟩⟩
theorem Oe {W:World}{a:Addr}{v:Value}(h:W.cell? a=some v):a.spot=none∧Iz (ZW W) a.block a.off=some v:=by
 unfold World.cell? at h;unfold Iz ZW;dsimp only
 cases hh:W.heap[a.block]? with
 | none=>rw[hh] at h;cases h
 | some o=>
  rw[hh] at h
  cases o with
  | cells cs t fz=>
   cases hs:a.spot with
   | none=>simp[hs] at h;exact⟨rfl,h⟩
   | some _=>simp[hs] at h
  | _=>simp at h
theorem Le.slice {α:Type}[Inhabited α]{enc:α→List Rp}{ok:α→Bool}{sz:Nat}(ht:P.underlying t=some (.slice e))(hc:P.cellsOf e=sz)(hsz:0<sz)(h:Le P e enc ok)(hlen:∀y,(enc y).length=sz){enc':List α→List Rp}(he:∀ys,enc' ys=[Bo sz (ys.map enc)]) :
  Le P t enc' (λys=>ys.all ok&&decide (ys.length≤9223372036854775807)):=fun {H encH W sp held n cs x} hx=>by
 rcases open_slice ht hx with⟨rfl,_⟩ | ⟨a,len,cap,m,n',D,Pl,rfl,hb,hl,hm,hmm,_,hel⟩
 ·exact⟨[],by simp,by rw[he];exact⟨Sm.nil sz _,trivial⟩⟩
 ·have hlm:len≤m:=by rw[hmm];split<;>omega
  have each:∀i,i<len→∃y:α,ok y=true∧∃cs',W.cells? 0 (a.add (i*sz)) sz=some cs'∧Bg (ZW W) (enc y) cs':=λi hi=>by
   obtain⟨cs',h1,h2⟩:=hel i (by omega);obtain⟨y,hy,hr⟩:=h h2;rw[hc] at h1;exact⟨y,hy,cs',h1,hr⟩
  obtain⟨f,hf⟩:=choose_lt each;refine⟨(List.range len).map f,?_,?_⟩
  ·simp only[Zd,ZD,List.mem_map,List.mem_range,Za];refine⟨?_,by simp;simp only[maxLen] at hm;omega⟩;rintro _ ⟨i,hi,rfl⟩;exact(hf i hi).1
  ·rw[he];refine⟨⟨some a,cap,by simp,by simpa using hl,hm,(λh=>by cases h),λi c hi=>?_⟩,trivial⟩;rw[ZY,Z9] at hi;have hil:i<len:=by
    cases hq:(List.range len)[i]? with
    | none=>rw[hq] at hi;cases hi
    | some _=>have:=(List.getElem?_eq_some_iff.1 hq).1;simpa using this
   rw[List.getElem?_range hil] at hi;simp only[Option.map_some,Option.some.injEq,Function.comp] at hi;subst hi;obtain⟨_,cs',h1,hr⟩:=hf i hil;obtain⟨_,hcl,hcell⟩:=World.cells?_some h1;have hsp:a.spot=none:=by
    obtain⟨_,cs0,g1,_⟩:=hf 0 (by omega);obtain⟨_,gcl,gcell⟩:=World.cells?_some g1;have h0:=gcell 0 hsz;rw[Zg (by omega)] at h0;have:=(Oe h0).1;simpa[Addr.add] using this
   refine⟨hlen _,a,rfl,hsp,λj r hj=>?_⟩;obtain⟨u,hu,hp⟩:=hr.at hj;have hjs:j<sz:=by have:=(List.getElem?_eq_some_iff.1 hj).1;rw[hlen] at this;exact this
   have h3:=hcell j hjs;rw[hu] at h3;have h4:=(Oe h3).2;refine⟨u,?_,hp⟩;have e1:((a.add (i*sz)).add j).block=a.block:=by simp only[Addr.add];split<;>split<;>rfl
   have e2:((a.add (i*sz)).add j).off=a.off+(i*sz+j):=by simp only[Addr.add];split<;>split<;>simp_all<;>omega
   rw[e1,e2] at h4;exact h4
theorem Mh {Z:Fz}{cs:List Value}{o:Nat}(h:cs.length=o):Bg Z [] (cs.drop o):=by rw[List.drop_of_length_le (by omega)];trivial
theorem C2 {Z:Fz}{cs:List Value}{o s o':Nat}{rs rs':List Rp}(h:Bg Z rs ((cs.drop o).take s))(ho:o+s=o')(h2:Bg Z rs' (cs.drop o')):Bg Z (rs++rs') (cs.drop o):=by
 rw[← Aaa s (cs.drop o),List.drop_drop];subst ho;exact h.append h2
theorem Le.val {α:Type}{enc:α→List Rp}{ok:α→Bool}(h:Le P e enc ok){r:α→Rp}(he:∀y,enc y=[r y]){H:Type}{encH:TypeId×Value→H}{W:World}{sp:Nat→Bool}{held:Bool}{v:Value}{d:DataW H}{ps:List MemPlace}
  (hone:v.cells = #[v]) (ht:DataW.Trod encH P W 0 sp held e v d ps):∃y:α,ok y=true∧(r y).p (ZW W) v:=by
 obtain⟨fuel,hf⟩:=ht;rw[hone] at hf;obtain⟨y,hy,hr⟩:=h hf;rw[he] at hr;exact⟨y,hy,hr.1⟩
theorem Le.valAgg {α:Type}{enc:α→List Rp}{ok:α→Bool}(h:Le P e enc ok){H:Type}{encH:TypeId×Value→H}{W:World}{sp:Nat→Bool}{held:Bool}{cs:Array Value}{d:DataW H}{ps:List MemPlace}
  (ht:DataW.Trod encH P W 0 sp held e (.agg cs) d ps):∃y:α,ok y=true∧(By (enc y)).p (ZW W) (.agg cs):=by
 obtain⟨fuel,hf⟩:=ht;obtain⟨y,hy,hr⟩:=h hf;exact⟨y,hy,cs.toList,by simp,hr⟩
end
theorem Va {W w:World}(hw:TC (ZW W) w):W.heap.size≤w.heap.size:=by
 rcases Nat.eq_zero_or_pos W.heap.size with h | h
 ·omega
 ·have h1:W.heap[W.heap.size-1]? =some (W.heap[W.heap.size-1]'(by omega)):=Array.getElem?_eq_getElem (by omega);have:=(Array.getElem?_eq_some_iff.1 (hw _ _ h1)).1;omega
theorem Tx {W:World}(hE:So W):GE (ZW W):=λw hw=>by
 have hb:Below W.heap.size W { w with os:=W.os,tape:=W.tape,output:=W.output }:=⟨rfl,rfl,rfl,(show W.heap.size≤w.heap.size from Va hw),λk hk=>by
  have h1:W.heap[k]? =some (W.heap[k]'hk):=Array.getElem?_eq_getElem hk;rw[h1];exact hw k _ h1⟩
 have hE2:=hE.st0 (St.of_below hb);exact⟨Pa.block { w with os:=W.os,tape:=W.tape,output:=W.output } w (λ_ _=>rfl) hE2.tabs,hE2.size⟩
theorem Ua {W:World}(hE:So W):St ⟨W,ZW W,[],GE,[]⟩ [] (ZW W) W where
 os:=rfl
 tape:=rfl
 output:=rfl
 size:=Z6 _
 old:=λ_ _ _=>rfl
 has:=λ_ h=>by cases h
 own:=λ_ h=>by cases h
 dis:=.nil
 frz:=ZW.frz W
 le:=Fz.le.refl _
 new:=λ_ _ h=>.inl h
 zdis:=λ_ h=>by cases h
 env:=Tx hE
 emono:=λh hg=>GE.mono h hg
 gst:=Lf.none rfl
theorem Ub {W W':World}{Z Z':Fz}{E:Fz→Prop}{H:List Ent}(h:St ⟨W,Z,[],E,[]⟩ H Z' W'):Below W.heap.size W W':=⟨h.os,h.tape,h.output,h.size,λk hk=>h.old k hk (by simp)⟩
open Go
set_option maxRecDepth 100000
set_option maxHeartbeats 4000000
end Go.Proofs.YthbbedliepkakaaGreatDoor.Q
namespace Go.Proofs.YthbbedliepkakaaGreatDoor
open Go
set_option linter.unusedVariables false
structure Au where
 fKind:Int
 fInt:Int
 fStr:AE
 fN:Int
 deriving DecidableEq,Inhabited
def Jv (s:AE)(ha:Int):Option (Stp (Int) (Out (Bool) (Unit))):=
 B0 (decide (ha<(s.length:Int))) (Bn (C6 ha (s.length:Int))<|B0 (((decide ((Cr s ha)<32))||(decide (126<(Cr s ha))))) (some (.out (.ret false))) (Bn (BZ .i64 (ha+1))<|some (.next (ha+1)))) (some (.out (.go ())))
def Ju :Option (Bool):=
 some true
def IT (F:Nat)(s:AE):Option (Bool):=
 B7 (BS (λσ=>Jv s σ) F 0) (BP λν=>Ju )
def BE (ok:Bool)(i:Int):Option (Int):=
 B0 (ok) (Bn (BZ .i64 (i+1))<|some (i+1)) (some (-1))
def LX (F:Nat)(c:Au):Option (Bool):=
 Bn (imp (decide (c.fKind=4)) (imp (decide (c.fInt=0)) (imp (decide (c.fN=0)) ((IT F c.fStr).isSome))))<|some ((decide (c.fKind=4))&&((decide (c.fInt=0))&&((decide (c.fN=0))&&(ov (IT F c.fStr)))))
def O4 (F:Nat)(ha:(List Au)→Int→Int→Option (Int))(hb:(List Au)→Int→Int→Option (Int))(v:(List Au))(i:Int):Option (Int):=
 B0 (((decide (i<0))||(decide ((v.length:Int)≤i)))) (some (-1)) (Bn (C6 i (v.length:Int))<|B0 (decide (((Ac v i).fKind)=1)) (Bn (imp (decide (((Ac v i).fInt)=0)) (imp (decide (((Ac v i).fStr)=([]:AE))) ((BE (decide (((Ac v i).fN)=0)) i).isSome)))<|Bn (imp (decide (((Ac v i).fInt)=0)) (imp (!(decide (((Ac v i).fStr)=([]:AE)))) ((BE false i).isSome)))<|Bn (imp (!(decide (((Ac v i).fInt)=0))) ((BE false i).isSome))<|some (bif decide (((Ac v i).fInt)=0) then(bif decide (((Ac v i).fStr)=([]:AE)) then(ov (BE (decide (((Ac v i).fN)=0)) i)) else(ov (BE false i))) else(ov (BE false i)))) (B0 (decide (((Ac v i).fKind)=2)) (Bn (imp (decide (((Ac v i).fInt)=0)) (imp (decide (((Ac v i).fStr)=([]:AE))) ((BE (decide (((Ac v i).fN)=0)) i).isSome)))<|Bn (imp (decide (((Ac v i).fInt)=0)) (imp (!(decide (((Ac v i).fStr)=([]:AE)))) ((BE false i).isSome)))<|Bn (imp (!(decide (((Ac v i).fInt)=0))) (imp (decide (((Ac v i).fInt)=1)) (imp (decide (((Ac v i).fStr)=([]:AE))) ((BE (decide (((Ac v i).fN)=0)) i).isSome))))<|Bn (imp (!(decide (((Ac v i).fInt)=0))) (imp (decide (((Ac v i).fInt)=1)) (imp (!(decide (((Ac v i).fStr)=([]:AE)))) ((BE false i).isSome))))<|Bn (imp (!(decide (((Ac v i).fInt)=0))) (imp (!(decide (((Ac v i).fInt)=1))) ((BE false i).isSome)))<|some (bif decide (((Ac v i).fInt)=0) then(bif decide (((Ac v i).fStr)=([]:AE)) then(ov (BE (decide (((Ac v i).fN)=0)) i)) else(ov (BE false i))) else(bif decide (((Ac v i).fInt)=1) then(bif decide (((Ac v i).fStr)=([]:AE)) then(ov (BE (decide (((Ac v i).fN)=0)) i)) else(ov (BE false i))) else(ov (BE false i))))) (B0 (decide (((Ac v i).fKind)=3)) (Bn (imp (decide (((Ac v i).fStr)=([]:AE))) ((BE (decide (((Ac v i).fN)=0)) i).isSome))<|Bn (imp (!(decide (((Ac v i).fStr)=([]:AE)))) ((BE false i).isSome))<|some (bif decide (((Ac v i).fStr)=([]:AE)) then(ov (BE (decide (((Ac v i).fN)=0)) i)) else(ov (BE false i)))) (B0 (decide (((Ac v i).fKind)=4)) (B7 (LX F (Ac v i)) λhd=>B7 (BE hd i) λhe=>some he) (B0 (((decide (((Ac v i).fKind)=5))&&((decide (((Ac v i).fInt)=0))&&((decide (((Ac v i).fStr)=([]:AE)))&&(decide (0≤((Ac v i).fN))))))) (Bn (BZ .i64 (i+1))<|B7 (ha v (i+1) ((Ac v i).fN)) λhf=>some hf) (B0 (((decide (((Ac v i).fKind)=6))&&((decide (((Ac v i).fInt)=0))&&((decide (((Ac v i).fStr)=([]:AE)))&&(decide (0≤((Ac v i).fN))))))) (Bn (BZ .i64 (i+1))<|B7 (hb v (i+1) ((Ac v i).fN)) λhg=>some hg) (some (-1))))))))
def CJ (v:(List Au))(n:Int)(he:(List Au)→Int→Option (Int))(hb:Int)(ha:Int):Option (Stp (Int×Int) (Out (Int) (Int))):=
 B0 (decide (ha<n)) (B7 (he v hb) λhd=>B0 (decide (hd<0)) (some (.out (.ret (-1)))) (Bn (BZ .i64 (ha+1))<|some (.next (hd,ha+1)))) (some (.out (.go hb)))
def Es (ha:Int):Option (Int):=
 some ha
def Is (F:Nat)(ha:(List Au)→Int→Option (Int))(v:(List Au))(i:Int)(n:Int):Option (Int):=
 B7 (BS (λσ=>CJ v n ha σ.1 σ.2) F (i,0)) (BP λν=>Es ν)
def D2 (F:Nat)(v:(List Au))(n:Int)(hf:(List Au)→Int→Option (Int))(ha:Int)(hd:AE)(hb:Int):Option (Stp (Int×AE×Int) (Out (Int) (Int))):=
 B0 (decide (hb<n)) (Bn (imp (!(decide ((v.length:Int)≤ha))) (C6 ha (v.length:Int)))<|Bn (imp (!(decide ((v.length:Int)≤ha))) ((LX F (Ac v ha)).isSome))<|B0 (((decide ((v.length:Int)≤ha))||((!(ov (LX F (Ac v ha))))||((decide (0<hb))&&(Cz ((Ac v ha).fStr) hd||decide (((Ac v ha).fStr)=hd)))))) (some (.out (.ret (-1)))) (Bn (C6 ha (v.length:Int))<|Bn (BZ .i64 (ha+1))<|B7 (hf v (ha+1)) λhe=>B0 (decide (he<0)) (some (.out (.ret (-1)))) (Bn (BZ .i64 (hb+1))<|some (.next (he,(Ac v ha).fStr,hb+1))))) (some (.out (.go ha)))
def GX (ha:Int):Option (Int):=
 some ha
def Mj (F:Nat)(ha:(List Au)→Int→Option (Int))(v:(List Au))(i:Int)(n:Int):Option (Int):=
 B7 (BS (λσ=>D2 F v n ha σ.1 σ.2.1 σ.2.2) F (i,([]:AE),0)) (BP λν=>GX ν)
mutual
def D8:Nat→(List Au)→Int→Option (Int)
 | 0,_,_=>none
 | nn+1,v,i=>O4 nn (GY nn) (Ls nn) v i
def GY:Nat→(List Au)→Int→Int→Option (Int)
 | 0,_,_,_=>none
 | nn+1,v,i,n=>Is nn (D8 nn) v i n
def Ls:Nat→(List Au)→Int→Int→Option (Int)
 | 0,_,_,_=>none
 | nn+1,v,i,n=>Mj nn (D8 nn) v i n
end
def KD (F:Nat)(v:(List Au)):Option (Bool):=
 Bn (imp (decide (0<(v.length:Int))) ((D8 F v 0).isSome))<|some ((decide (0<(v.length:Int)))&&(decide ((ov (D8 F v 0))=(v.length:Int))))
def CF (F:Nat)(v:(List Au))(i:Int)(he:(List Au)→Int→Option (Int))(hd:Int)(hb:Int)(ha:Int):Option (Stp (Int×Int×Int) (Out (Int) (Int))):=
 B0 (decide (ha<((Ac v i).fN))) (B0 (decide (((Ac v i).fKind)=6)) (Bn (BZ .i64 (hb+1))<|B7 (he v (hb+1)) λhf=>B0 (decide (hd<hf)) (B7 (D8 F v (hb+1)) λhh=>Bn (BZ .i64 (ha+1))<|some (.next (hf,hh,ha+1))) (B7 (D8 F v (hb+1)) λhi=>Bn (BZ .i64 (ha+1))<|some (.next (hd,hi,ha+1)))) (B7 (he v hb) λhg=>B0 (decide (hd<hg)) (B7 (D8 F v hb) λhj=>Bn (BZ .i64 (ha+1))<|some (.next (hg,hj,ha+1))) (B7 (D8 F v hb) λhk=>Bn (BZ .i64 (ha+1))<|some (.next (hd,hk,ha+1))))) (some (.out (.go hd)))
def Eg (ha:Int):Option (Int):=
 Bn (BZ .i64 (ha+1))<|some (ha+1)
def HQ (F:Nat)(ha:(List Au)→Int→Option (Int))(v:(List Au))(i:Int):Option (Int):=
 Bn (C6 i (v.length:Int))<|B0 (((!decide (((Ac v i).fKind)=5))&&(!decide (((Ac v i).fKind)=6)))) (some 1) (Bn (BZ .i64 (i+1))<|B7 (BS (λσ=>CF F v i ha σ.1 σ.2.1 σ.2.2) F (0,i+1,0)) (BP λν=>Eg ν))
def CI:Nat→(List Au)→Int→Option (Int)
 | 0,_,_=>none
 | nn+1,v,i=>HQ nn (CI nn) v i
def Dc (s:AE)(hb:AE)(ha:Int):Option (Stp (AE×Int) (Out (AE) (AE))):=
 B0 (decide (ha<(s.length:Int))) (Bn (C6 ha (s.length:Int))<|B0 (((decide ((Cr s ha)=34))||(decide ((Cr s ha)=92)))) (Bn (BZ .i64 ((hb.length:Int)+(([92]:AE).length:Int)))<|Bn (BZ .i64 (ha+1))<|Bn (Nf ha (ha+1))<|Bn (Nf (ha+1) (s.length:Int))<|Bn (BZ .i64 (((hb++([92]:AE)).length:Int)+((List.take (Int.toNat (ha+1)-Int.toNat ha) (List.drop (Int.toNat ha) s)).length:Int)))<|some (.next ((hb++([92]:AE))++(List.take (Int.toNat (ha+1)-Int.toNat ha) (List.drop (Int.toNat ha) s)),ha+1))) (Bn (BZ .i64 (ha+1))<|Bn (Nf ha (ha+1))<|Bn (Nf (ha+1) (s.length:Int))<|Bn (BZ .i64 ((hb.length:Int)+((List.take (Int.toNat (ha+1)-Int.toNat ha) (List.drop (Int.toNat ha) s)).length:Int)))<|some (.next (hb++(List.take (Int.toNat (ha+1)-Int.toNat ha) (List.drop (Int.toNat ha) s)),ha+1)))) (some (.out (.go hb)))
def DE (ha:AE):Option (AE):=
 Bn (BZ .i64 ((ha.length:Int)+(([34]:AE).length:Int)))<|some (ha++([34]:AE))
def Io (F:Nat)(s:AE):Option (AE):=
 B7 (BS (λσ=>Dc s σ.1 σ.2) F (([34]:AE),0)) (BP λν=>DE ν)
def Ee (F:Nat)(v:(List Au))(i:Int)(he:(List Au)→Int→Option (AE))(ha:AE)(hb:Int)(hd:Int):Option (Stp (AE×Int×Int) (Out (AE) (AE))):=
 B0 (decide (hd<((Ac v i).fN))) (B0 (decide (0<hd)) (Bn (BZ .i64 ((ha.length:Int)+(([44]:AE).length:Int)))<|B0 (decide (((Ac v i).fKind)=6)) (Bn (C6 hb (v.length:Int))<|B7 (Io F ((Ac v hb).fStr)) λhf=>Bn (BZ .i64 (((ha++([44]:AE)).length:Int)+(hf.length:Int)))<|Bn (BZ .i64 ((((ha++([44]:AE))++hf).length:Int)+(([58]:AE).length:Int)))<|Bn (BZ .i64 (hb+1))<|B7 (he v (hb+1)) λhh=>Bn (BZ .i64 (((((ha++([44]:AE))++hf)++([58]:AE)).length:Int)+(hh.length:Int)))<|B7 (D8 F v (hb+1)) λhl=>Bn (BZ .i64 (hd+1))<|some (.next ((((ha++([44]:AE))++hf)++([58]:AE))++hh,hl,hd+1))) (B7 (he v hb) λhi=>Bn (BZ .i64 (((ha++([44]:AE)).length:Int)+(hi.length:Int)))<|B7 (D8 F v hb) λhm=>Bn (BZ .i64 (hd+1))<|some (.next ((ha++([44]:AE))++hi,hm,hd+1)))) (B0 (decide (((Ac v i).fKind)=6)) (Bn (C6 hb (v.length:Int))<|B7 (Io F ((Ac v hb).fStr)) λhg=>Bn (BZ .i64 ((ha.length:Int)+(hg.length:Int)))<|Bn (BZ .i64 (((ha++hg).length:Int)+(([58]:AE).length:Int)))<|Bn (BZ .i64 (hb+1))<|B7 (he v (hb+1)) λhj=>Bn (BZ .i64 ((((ha++hg)++([58]:AE)).length:Int)+(hj.length:Int)))<|B7 (D8 F v (hb+1)) λhn=>Bn (BZ .i64 (hd+1))<|some (.next (((ha++hg)++([58]:AE))++hj,hn,hd+1))) (B7 (he v hb) λhk=>Bn (BZ .i64 ((ha.length:Int)+(hk.length:Int)))<|B7 (D8 F v hb) λho=>Bn (BZ .i64 (hd+1))<|some (.next (ha++hk,ho,hd+1))))) (some (.out (.go ha)))
def Hj (v:(List Au))(i:Int)(ha:AE):Option (AE):=
 B0 (decide (((Ac v i).fKind)=6)) (Bn (BZ .i64 ((([123]:AE).length:Int)+(ha.length:Int)))<|Bn (BZ .i64 (((([123]:AE)++ha).length:Int)+(([125]:AE).length:Int)))<|some ((([123]:AE)++ha)++([125]:AE))) (Bn (BZ .i64 ((([91]:AE).length:Int)+(ha.length:Int)))<|Bn (BZ .i64 (((([91]:AE)++ha).length:Int)+(([93]:AE).length:Int)))<|some ((([91]:AE)++ha)++([93]:AE)))
def Ln (F:Nat)(ha:(List Au)→Int→Option (AE))(v:(List Au))(i:Int):Option (AE):=
 Bn (C6 i (v.length:Int))<|B0 (decide (((Ac v i).fKind)=1)) (some ([110,117,108,108]:AE)) (B0 (decide (((Ac v i).fKind)=2)) (B0 (decide (((Ac v i).fInt)=1)) (some ([116,114,117,101]:AE)) (some ([102,97,108,115,101]:AE))) (B0 (decide (((Ac v i).fKind)=3)) (Bn (BZ .i64 ((Ac v i).fInt))<|some (Lib.itoa ((Ac v i).fInt))) (B0 (decide (((Ac v i).fKind)=4)) (B7 (Io F ((Ac v i).fStr)) λhb=>some hb) (Bn (BZ .i64 (i+1))<|B7 (BS (λσ=>Ee F v i ha σ.1 σ.2.1 σ.2.2) F (([]:AE),i+1,0)) (BP λν=>Hj v i ν)))))
def GK:Nat→(List Au)→Int→Option (AE)
 | 0,_,_=>none
 | nn+1,v,i=>Ln nn (GK nn) v i
def Et (v:(List Au))(ha:Int):Option (Stp (Int) (Out (Int) (Unit))):=
 B0 (decide (ha<(v.length:Int))) (Bn (C6 ha (v.length:Int))<|B0 (decide (200<(((Ac v ha).fStr).length:Int))) (some (.out (.ret 3))) (Bn (BZ .i64 (ha+1))<|some (.next (ha+1)))) (some (.out (.go ())))
def HR (F:Nat)(v:(List Au)):Option (Int):=
 B7 (GK F v 0) λha=>B0 (decide (4000<(ha.length:Int))) (some 3) (some 0)
def Eu (v:(List Au))(ha:Int):Option (Stp (Int) (Out (Int) (Unit))):=
 B0 (decide (ha<(v.length:Int))) (Bn (C6 ha (v.length:Int))<|B0 (((decide (((Ac v ha).fKind)=3))&&((decide (((Ac v ha).fInt)<(-1000000000000)))||(decide (1000000000000<((Ac v ha).fInt)))))) (some (.out (.ret 2))) (Bn (BZ .i64 (ha+1))<|some (.next (ha+1)))) (some (.out (.go ())))
def HS (F:Nat)(v:(List Au)):Option (Int):=
 Bn (imp (!(decide (200<(v.length:Int)))) ((CI F v 0).isSome))<|B0 (((decide (200<(v.length:Int)))||(decide (8<(ov (CI F v 0)))))) (some 3) (B7 (BS (λσ=>Et v σ) F 0) (BP λν=>HR F v ))
def MR (F:Nat)(v:(List Au)):Option (Int):=
 B7 (KD F v) λr1=>B0 (!r1) (some 1) (B7 (BS (λσ=>Eu v σ) F 0) (BP λν=>HS F v ))
end Go.Proofs.YthbbedliepkakaaGreatDoor
namespace Go.Proofs.YthbbedliepkakaaGreatDoor.Q
open Go Go.RowKit
set_option linter.unusedVariables false
set_option linter.unusedSimpArgs false
set_option maxRecDepth 100000
set_option maxHeartbeats 4000000
@[reducible] def Al (x:Au):List Rp:=[rI .i64 x.fKind,rI .i64 x.fInt,rS x.fStr,rI .i64 x.fN]
theorem Gx (x:Au):(Al x).length=4:=rfl
theorem N3 (x:Au):(Al x).all (·.one)=true:=rfl
theorem Uv (F:Nat)(s:AE)(r:Bool)(h:IT F s=some r):Fn Tryz.prog GE 161 [rS s] [] (λR H=>R=rB r∧H=[]):=by
 refine enter (n:=20) Tryz.func161 Aa Tryz.ntmps161 Aa (λw Z=>?_);refine Bd (l':=[(0,rS s)]) (H':=[]) Aa Aa ?_;unfold IT at h;refine As (wv (r:=rB false) (Aj Aa) (A0 (Av (As (wv (r:=rI .i64 0) (Aj Aa) (A0 (AV ?_)))))));obtain⟨hl,hm,hi⟩:=AX h;refine B6 (S:=Nat×(Int)×(Unit)) (V:=(Unit)×(Unit)) 0 (λσ=>BS (λσ=>Jv s σ) σ.1 σ.2.1=some hl) (λσ=>[(0,rS s),(3,rI .i64 σ.2.1)]) (λσ=>[]) (λσ=>σ.1) (F,0,()) hm (AT.c Aa (AT.c Aa AT.nil)) sN (λσ=>Ju =some r) (λσ=>[]) (λσ=>[]) ?_ ?_
 ·rintro⟨hz,hb,⟨⟩⟩ hn;refine Bd (l':=[(0,rS s),(3,rI .i64 hb)]) (H':=[]) Aa Aa ?_;obtain⟨ho,rfl,t37,hd,hf⟩:=Df hn;replace hd:Jv s hb=some t37:=hd;unfold Jv at hd;refine Av (As (wm Aa (wm Aa (wv (BJ Eo Aa) (wv (Cm Aa Aa) (A0 (A2 (b:=decide (hb<(s.length:Int))) Aa (λhg=>?_) (λhg=>?_))))))))
  ·have hp:=AM hg hd;refine A5 (Bb (Av (AV ?_)));obtain⟨hj,hk⟩:=AA hp;refine AD [(0,rS s),(3,rI .i64 hb),(19,rB ((decide ((Cr s hb)<32))||(decide (126<(Cr s hb)))))] [] ?_ ?_
   ·refine Ao (wm Aa (wm Aa (wv (BT Eo Aa Aa hj) (wv (Cm Aa Aa) (wm Aa (AG (decide ((Cr s hb)<32)) (λha=>?_) (λha=>?_)))))))
    ·refine wf ha (wf ha (wf ha (wf ha (wv (r:=rB true) (Ar (b:=decide ((Cr s hb)<32)) Aa ha Aa) (Ap ?_)))));exact BL ha
    ·refine wo ha (wm Aa (wo ha (wm Aa (wo ha (wv (BT Eo Aa Aa hj) (wo ha (wv (C3 Aa Aa) (Dy Aa ha Aa (Ap ?_)))))))));exact BL ha
   refine A2 (b:=((decide ((Cr s hb)<32))||(decide (126<(Cr s hb))))) Aa (λhh=>?_) (λhh=>?_)
   ·have hq:=AM hh hk;refine As (wv (r:=rB false) (Aj Aa) (A0 (A1 (AK (Am (Am (Bw ?_)))))));have hr:=Cc hq hf hi;refine AK (Am ?_);obtain rfl:=A6 hr;exact A4 (B8 Tryz.results161 (AW Aa)) sN ⟨Aa,Aa⟩
   ·have hs:=AN hh hk;refine A5 (Ba (Bb (Ao (wm Aa ?_))));obtain⟨ht,hu⟩:=AA hs;refine wv (Bv Aa Aa ht) (wa Aa (Ap ?_));have hw:=Bx hu hf;exact Az (AJ (ho,hb+1,()) ⟨hw,Zo _⟩ (AT.c Aa (AT.c Aa AT.nil)) sN)
  ·have hx:=AN hg hd;refine B2 (A8 ?_);have hy:=Cn hx hf hi;exact A8 (Bj (AJ ((),()) hy AT.nil sN))
 ·rintro⟨⟨⟩,⟨⟩⟩ he;refine C7 (l':=[]) (H':=[]) Aa Aa ?_;replace he:Ju =some r:=he;unfold Ju at he;refine Bh (Bb (As (wv (r:=rB true) (Aj Aa) (A0 (A1 ?_)))));obtain rfl:=A6 he;exact A4 (B8 Tryz.results161 (AW Aa)) sN ⟨Aa,Aa⟩
theorem Eh (ok:Bool)(i:Int)(r:Int)(h:BE ok i=some r):Fn Tryz.prog GE 145 [rB ok,rI .i64 i] [] (λR H=>R=rI .i64 r∧H=[]):=by
 refine enter (n:=8) Tryz.func145 Aa Tryz.ntmps145 Aa (λw Z=>?_);refine Bd (l':=[(0,rB ok),(1,rI .i64 i)]) (H':=[]) Aa Aa ?_;unfold BE at h;refine As (wv (r:=rI .i64 0) (Aj Aa) (A0 (Av (As (wm Aa (A0 (A2 (b:=ok) Aa (λc1=>?_) (λc1=>?_))))))))
 ·have h2:=AM c1 h;refine As (wm Aa ?_);obtain⟨g3,h4⟩:=AA h2;refine wv (Bv Aa Aa g3) (wa Aa (A0 (A1 (Am ?_))));obtain rfl:=A6 h4;exact A4 (B8 Tryz.results145 (AW Aa)) sN ⟨Aa,Aa⟩
 ·have h5:=AN c1 h;refine A5 (Bb (As (wv (r:=rI .i64 (-1)) (Aj Aa) (A0 (A1 ?_)))));obtain rfl:=A6 h5;exact A4 (B8 Tryz.results145 (AW Aa)) sN ⟨Aa,Aa⟩
theorem Uy (F:Nat)(c:Au)(r:Bool)(h:LX F c=some r):Fn Tryz.prog GE 146 [By (Al c)] [] (λR H=>R=rB r∧H=[]):=by
 refine enter (n:=21) Tryz.func146 Aa Tryz.ntmps146 Aa (λw Z=>?_);refine Bd (l':=[(0,By (Al c))]) (H':=[]) Aa Aa ?_;unfold LX at h;refine As (BF Aa Aa (λb1=>?_));refine wv (r:=rB false) (Aj Aa) (A0 ?_);obtain⟨g2,h3⟩:=AA h;refine AD [(2,rB ((decide (c.fKind=4))&&((decide (c.fInt=0))&&((decide (c.fN=0))&&(ov (IT F c.fStr))))))] [] ?_ ?_
 ·refine Ao (wv (Af B9 Aa Gm Aa Aa) (wv (Ax (i:=0) Gp Aa Aa Aa) (wv (Bq Aa Aa) (wm Aa (AG (decide (c.fKind=4)) (λc4=>?_) (λc4=>?_))))))
  ·refine wo c4 (wv (Af B9 Aa BG Aa Aa) (wo c4 (wv (Ax (i:=0) BO Aa Aa Aa) (wo c4 (wv (Bq Aa Aa) (ER Aa c4 Aa (wm Aa (AG (decide (c.fInt=0)) (λc5=>?_) (λc5=>?_)))))))))
   ·refine wo c5 (wv (Af B9 Aa BG Aa Aa) (wo c5 (wv (Ax (i:=0) BO Aa Aa Aa) (wo c5 (wv (Bq Aa Aa) (ER Aa c5 Aa (wm Aa (AG (decide (c.fN=0)) (λc6=>?_) (λc6=>?_)))))))))
    ·refine wo c6 (wv (Af B9 Aa Dq Aa Aa) (wo c6 (wv (Ax (i:=0) Dr Aa Aa Aa) (wo c6 (Dw Tryz.call161 (Uv F c.fStr (ov (IT F c.fStr)) (EP (CA (CA (CA g2 c4) c5) c6))) Aa (ER Aa c6 Aa (wa Aa (Ap ?_))))))));exact BL (And.intro c4 (And.intro c5 c6))
    ·refine wf c6 (wf c6 (wf c6 (wv (r:=rB false) (A7 (b:=decide (c.fN=0)) Aa c6 Aa) (wa Aa (Ap ?_)))));exact BL (And.intro c4 (And.intro c5 c6))
   ·refine wf c5 (wf c5 (wf c5 (wv (r:=rB false) (A7 (b:=decide (c.fInt=0)) Aa c5 Aa) (wm Aa (Ak (b:=false) Aa Aa Aa Aa (Ak (b:=false) Aa Aa Aa Aa (Ak (b:=false) Aa Aa Aa Aa (wv (r:=rB false) (A7 (b:=false) Aa Aa Aa) (wa Aa (Ap ?_))))))))));exact BL (And.intro c4 c5)
  ·refine wf c4 (wf c4 (wf c4 (wv (r:=rB false) (A7 (b:=decide (c.fKind=4)) Aa c4 Aa) (wm Aa (Ak (b:=false) Aa Aa Aa Aa (Ak (b:=false) Aa Aa Aa Aa (Ak (b:=false) Aa Aa Aa Aa (wv (r:=rB false) (A7 (b:=false) Aa Aa Aa) (wm Aa (Ak (b:=false) Aa Aa Aa Aa (Ak (b:=false) Aa Aa Aa Aa (Ak (b:=false) Aa Aa Aa Aa (wv (r:=rB false) (A7 (b:=false) Aa Aa Aa) (wa Aa (Ap ?_)))))))))))))));exact BL c4
 refine A1 ?_;obtain rfl:=A6 h3;exact A4 (B8 Tryz.results146 (AW Aa)) sN ⟨Aa,Aa⟩
theorem Uw (F:Nat)(hs:(List Au)→Int→Int→Option (Int))(ht:(List Au)→Int→Int→Option (Int))(h1:(∀(v:(List Au)) (i:Int) (n:Int) (r:Int),hs v i n=some r→Fn Tryz.prog GE 147 [Bo 4 (List.map Al v),rI .i64 i,rI .i64 n] [] (λR H=>R=rI .i64 r∧H=[])))(h2:(∀(v:(List Au)) (i:Int) (n:Int) (r:Int),ht v i n=some r→Fn Tryz.prog GE 148 [Bo 4 (List.map Al v),rI .i64 i,rI .i64 n] [] (λR H=>R=rI .i64 r∧H=[])))(v:(List Au))(i:Int)(r:Int)(h:O4 F hs ht v i=some r):Fn Tryz.prog GE 126 [Bo 4 (List.map Al v),rI .i64 i] [] (λR H=>R=rI .i64 r∧H=[]):=by
 refine enter (n:=127) Tryz.func126 Aa Tryz.ntmps126 Aa (λw Z=>?_);refine Bd (l':=[(0,Bo 4 (List.map Al v)),(1,rI .i64 i)]) (H':=[]) Aa Aa ?_;unfold O4 at h;refine As (wv (r:=rI .i64 0) (Aj Aa) (A0 (Av (AD [(0,Bo 4 (List.map Al v)),(1,rI .i64 i),(13,rB ((decide (i<0))||(decide ((v.length:Int)≤i))))] [] ?_ ?_))))
 ·refine Ao (wm Aa (wv (Cm Aa Aa) (wm Aa (AG (decide (i<0)) (λc1=>?_) (λc1=>?_)))))
  ·refine wf c1 (wf c1 (wf c1 (wf c1 (wv (r:=rB true) (Ar (b:=decide (i<0)) Aa c1 Aa) (Ap ?_)))));exact BL c1
  ·refine wo c1 (wm Aa (wo c1 (wm Aa (wo c1 (wv (BM (ys:=v) (enc:=Al) DW Aa) (wo c1 (wv (Gk Aa Aa) (Dy Aa c1 Aa (Ap ?_)))))))));exact BL c1
 refine A2 (b:=((decide (i<0))||(decide ((v.length:Int)≤i)))) Aa (λc2=>?_) (λc2=>?_)
 ·have h3:=AM c2 h;refine As (wv (r:=rI .i64 (-1)) (Aj Aa) (A0 (A1 (Am ?_))));obtain rfl:=A6 h3;exact A4 (B8 LB (AW Aa)) sN ⟨Aa,Aa⟩
 ·have h4:=AN c2 h;refine A5 (Bb (As (wm Aa (wm Aa ?_))));obtain⟨g5,h6⟩:=AA h4;refine wv (Ce (enc:=Al) (ys:=v) DW E1 Aa Aa g5) (wv (CX Nv E1 Aa Aa Aa) (Dn (cs:=[rI .i64 0,rI .i64 0,rS ([]:AE),rI .i64 0]) Sq Aa Aa (λb7=>?_)));refine Ch (i:=0) E1 Aa Aa Aa (C0.c Aa) Aa Aa (cs':=[rI .i64 ((Ac v i).fKind),rI .i64 ((Ac v i).fInt),rS ((Ac v i).fStr),rI .i64 ((Ac v i).fN)]) Aa (H':=[.blk b7 (Al (Ac v i)) 95]) Aa (A0 (Av (As (wv (Af B9 Aa Gm Aa Aa) (wv (Ax (i:=0) Gp Aa Aa Aa) (wv (Bq Aa Aa) (A0 (A2 (b:=decide (((Ac v i).fKind)=1)) Aa (λc8=>?_) (λc8=>?_)))))))))
  ·have h9:=AM c8 h6;obtain⟨h5,h7⟩:=AA h9;obtain⟨h8,hA⟩:=AA h7;obtain⟨hB,hC⟩:=AA hA;refine AD [(4,rI .i64 (bif decide (((Ac v i).fInt)=0) then(bif decide (((Ac v i).fStr)=([]:AE)) then(ov (BE (decide (((Ac v i).fN)=0)) i)) else(ov (BE false i))) else(ov (BE false i))))] [] ?_ ?_
   ·refine Ao (wv (Af B9 Aa BG Aa Aa) (wv (Ax (i:=0) BO Aa Aa Aa) (wv (Bq Aa Aa) (wm Aa (AG (decide (((Ac v i).fInt)=0)) (λhb=>?_) (λhb=>?_))))))
    ·refine wo hb (wv (Af B9 Aa Dq Aa Aa) (wo hb (wv (Ax (i:=0) Dr Aa Aa Aa) (wo hb (wv (D3 Aa Aa) (ER Aa hb Aa (wm Aa (AG (decide (((Ac v i).fStr)=([]:AE))) (λhe=>?_) (λhe=>?_)))))))))
     ·refine wo he (wv (Af B9 Aa BG Aa Aa) (wo he (wv (Ax (i:=0) BO Aa Aa Aa) (wo he (wv (Bq Aa Aa) (ER Aa he Aa (wm Aa (Dw IE (Eh (decide (((Ac v i).fN)=0)) i (ov (BE (decide (((Ac v i).fN)=0)) i)) (EP (CA (CA h5 hb) he))) Aa (wa Aa (Ap ?_))))))))));exact BL (And.intro hb he)
     ·refine wf he (wf he (wf he (wv (r:=rB false) (A7 (b:=decide (((Ac v i).fStr)=([]:AE))) Aa he Aa) (wm Aa (Dw IE (Eh false i (ov (BE false i)) (EP (Ca (CA h8 hb) he))) Aa (wa Aa (Ap ?_)))))));exact BL (And.intro hb he)
    ·refine wf hb (wf hb (wf hb (wv (r:=rB false) (A7 (b:=decide (((Ac v i).fInt)=0)) Aa hb Aa) (wm Aa (Ak (b:=false) Aa Aa Aa Aa (Ak (b:=false) Aa Aa Aa Aa (Ak (b:=false) Aa Aa Aa Aa (wv (r:=rB false) (A7 (b:=false) Aa Aa Aa) (wm Aa (Dw IE (Eh false i (ov (BE false i)) (EP (Ca hB hb))) Aa (wa Aa (Ap ?_))))))))))));exact BL hb
   refine A1 (Am ?_);obtain rfl:=A6 hC;exact A4 (B8 LB (AW Aa)) sN ⟨Aa,Aa⟩
  ·have hu:=AN c8 h6;refine A5 (Bb (Av (As (wv (Af B9 Aa Gm Aa Aa) (wv (Ax (i:=0) Gp Aa Aa Aa) (wv (Bq Aa Aa) (A0 (A2 (b:=decide (((Ac v i).fKind)=2)) Aa (λhn=>?_) (λhn=>?_)))))))))
   ·have hD:=AM hn hu;obtain⟨hE,hG⟩:=AA hD;obtain⟨hH,hI⟩:=AA hG;obtain⟨hJ,hK⟩:=AA hI;obtain⟨hL,hN⟩:=AA hK;obtain⟨hO,hP⟩:=AA hN;refine AD [(4,rI .i64 (bif decide (((Ac v i).fInt)=0) then(bif decide (((Ac v i).fStr)=([]:AE)) then(ov (BE (decide (((Ac v i).fN)=0)) i)) else(ov (BE false i))) else(bif decide (((Ac v i).fInt)=1) then(bif decide (((Ac v i).fStr)=([]:AE)) then(ov (BE (decide (((Ac v i).fN)=0)) i)) else(ov (BE false i))) else(ov (BE false i)))))] [] ?_ ?_
    ·refine Ao (wv (Af B9 Aa BG Aa Aa) (wv (Ax (i:=0) BO Aa Aa Aa) (wv (Bq Aa Aa) (wm Aa (AG (decide (((Ac v i).fInt)=0)) (λha=>?_) (λha=>?_))))))
     ·refine wf ha (wf ha (wf ha (wv (r:=rB true) (Ar (b:=decide (((Ac v i).fInt)=0)) Aa ha Aa) (wm Aa (Be (b:=true) Aa Aa Aa (wv (Af B9 Aa Dq Aa Aa) (Be (b:=true) Aa Aa Aa (wv (Ax (i:=0) Dr Aa Aa Aa) (Be (b:=true) Aa Aa Aa (wv (D3 Aa Aa) (wv (r:=rB (decide (((Ac v i).fStr)=([]:AE)))) (Ar (b:=true) Aa Aa Aa) (wm Aa (AG (decide (((Ac v i).fStr)=([]:AE))) (λhf=>?_) (λhf=>?_))))))))))))))
      ·refine wo hf (wv (Af B9 Aa BG Aa Aa) (wo hf (wv (Ax (i:=0) BO Aa Aa Aa) (wo hf (wv (Bq Aa Aa) (ER Aa hf Aa (wm Aa (Dw IE (Eh (decide (((Ac v i).fN)=0)) i (ov (BE (decide (((Ac v i).fN)=0)) i)) (EP (CA (CA hE ha) hf))) Aa (wa Aa (Ap ?_))))))))));exact BL (And.intro ha hf)
      ·refine wf hf (wf hf (wf hf (wv (r:=rB false) (A7 (b:=decide (((Ac v i).fStr)=([]:AE))) Aa hf Aa) (wm Aa (Dw IE (Eh false i (ov (BE false i)) (EP (Ca (CA hH ha) hf))) Aa (wa Aa (Ap ?_)))))));exact BL (And.intro ha hf)
     ·refine wo ha (wv (Af B9 Aa BG Aa Aa) (wo ha (wv (Ax (i:=0) BO Aa Aa Aa) (wo ha (wv (Bq Aa Aa) (Dy Aa ha Aa (wm Aa (AG (decide (((Ac v i).fInt)=1)) (λhd=>?_) (λhd=>?_)))))))))
      ·refine wo hd (wv (Af B9 Aa Dq Aa Aa) (wo hd (wv (Ax (i:=0) Dr Aa Aa Aa) (wo hd (wv (D3 Aa Aa) (ER Aa hd Aa (wm Aa (AG (decide (((Ac v i).fStr)=([]:AE))) (λhg=>?_) (λhg=>?_)))))))))
       ·refine wo hg (wv (Af B9 Aa BG Aa Aa) (wo hg (wv (Ax (i:=0) BO Aa Aa Aa) (wo hg (wv (Bq Aa Aa) (ER Aa hg Aa (wm Aa (Dw IE (Eh (decide (((Ac v i).fN)=0)) i (ov (BE (decide (((Ac v i).fN)=0)) i)) (EP (CA (CA (Ca hJ ha) hd) hg))) Aa (wa Aa (Ap ?_))))))))));exact BL (And.intro ha (And.intro hd hg))
       ·refine wf hg (wf hg (wf hg (wv (r:=rB false) (A7 (b:=decide (((Ac v i).fStr)=([]:AE))) Aa hg Aa) (wm Aa (Dw IE (Eh false i (ov (BE false i)) (EP (Ca (CA (Ca hL ha) hd) hg))) Aa (wa Aa (Ap ?_)))))));exact BL (And.intro ha (And.intro hd hg))
      ·refine wf hd (wf hd (wf hd (wv (r:=rB false) (A7 (b:=decide (((Ac v i).fInt)=1)) Aa hd Aa) (wm Aa (Ak (b:=false) Aa Aa Aa Aa (Ak (b:=false) Aa Aa Aa Aa (Ak (b:=false) Aa Aa Aa Aa (wv (r:=rB false) (A7 (b:=false) Aa Aa Aa) (wm Aa (Dw IE (Eh false i (ov (BE false i)) (EP (Ca (Ca hO ha) hd))) Aa (wa Aa (Ap ?_))))))))))));exact BL (And.intro ha hd)
    refine A1 (Am ?_);obtain rfl:=A6 hP;exact A4 (B8 LB (AW Aa)) sN ⟨Aa,Aa⟩
   ·have hw:=AN hn hu;refine A5 (Bb (Av (As (wv (Af B9 Aa Gm Aa Aa) (wv (Ax (i:=0) Gp Aa Aa Aa) (wv (Bq Aa Aa) (A0 (A2 (b:=decide (((Ac v i).fKind)=3)) Aa (λho=>?_) (λho=>?_)))))))))
    ·have hQ:=AM ho hw;obtain⟨hR,hS⟩:=AA hQ;obtain⟨hT,hU⟩:=AA hS;refine AD [(4,rI .i64 (bif decide (((Ac v i).fStr)=([]:AE)) then(ov (BE (decide (((Ac v i).fN)=0)) i)) else(ov (BE false i))))] [] ?_ ?_
     ·refine Ao (wv (Af B9 Aa Dq Aa Aa) (wv (Ax (i:=0) Dr Aa Aa Aa) (wv (D3 Aa Aa) (wm Aa (AG (decide (((Ac v i).fStr)=([]:AE))) (λhh=>?_) (λhh=>?_))))))
      ·refine wo hh (wv (Af B9 Aa BG Aa Aa) (wo hh (wv (Ax (i:=0) BO Aa Aa Aa) (wo hh (wv (Bq Aa Aa) (ER Aa hh Aa (wm Aa (Dw IE (Eh (decide (((Ac v i).fN)=0)) i (ov (BE (decide (((Ac v i).fN)=0)) i)) (EP (CA hR hh))) Aa (wa Aa (Ap ?_))))))))));exact BL hh
      ·refine wf hh (wf hh (wf hh (wv (r:=rB false) (A7 (b:=decide (((Ac v i).fStr)=([]:AE))) Aa hh Aa) (wm Aa (Dw IE (Eh false i (ov (BE false i)) (EP (Ca hT hh))) Aa (wa Aa (Ap ?_)))))));exact BL hh
     refine A1 (Am ?_);obtain rfl:=A6 hU;exact A4 (B8 LB (AW Aa)) sN ⟨Aa,Aa⟩
    ·have hx:=AN ho hw;refine A5 (Bb (Av (As (wv (Af B9 Aa Gm Aa Aa) (wv (Ax (i:=0) Gp Aa Aa Aa) (wv (Bq Aa Aa) (A0 (A2 (b:=decide (((Ac v i).fKind)=4)) Aa (λhp=>?_) (λhp=>?_)))))))))
     ·have hV:=AM hp hx;refine As (wv (Bm (i:=0) Nv E1 Aa Aa Aa Aa) ?_);obtain⟨hy,hW,hX⟩:=AX hV;refine Dw Tryz.call146 (Uy F (Ac v i) hy hW) Aa (wm Aa ?_);obtain⟨hY,hZ,ga⟩:=AX hX;refine Dw IE (Eh hy i hY hZ) Aa (wa Aa (A0 (A1 (Am ?_))));obtain rfl:=A6 ga;exact A4 (B8 LB (AW Aa)) (sS sN) ⟨Aa,Aa⟩
     ·have hz:=AN hp hx;refine A5 (Bb (Av (AD [(0,Bo 4 (List.map Al v)),(1,rI .i64 i),(5,rv (.pointer (some ⟨b7,0,none⟩))),(96,rB ((decide (((Ac v i).fKind)=5))&&((decide (((Ac v i).fInt)=0))&&((decide (((Ac v i).fStr)=([]:AE)))&&(decide (0≤((Ac v i).fN)))))))] [.blk b7 (Al (Ac v i)) 95] ?_ ?_)))
      ·refine Ao (wv (Af B9 Aa Gm Aa Aa) (wv (Ax (i:=0) Gp Aa Aa Aa) (wv (Bq Aa Aa) (wm Aa (AG (decide (((Ac v i).fKind)=5)) (λc53=>?_) (λc53=>?_))))))
       ·refine wo c53 (wv (Af B9 Aa BG Aa Aa) (wo c53 (wv (Ax (i:=0) BO Aa Aa Aa) (wo c53 (wv (Bq Aa Aa) (ER Aa c53 Aa (wm Aa (AG (decide (((Ac v i).fInt)=0)) (λhj=>?_) (λhj=>?_)))))))))
        ·refine wo hj (wv (Af B9 Aa Dq Aa Aa) (wo hj (wv (Ax (i:=0) Dr Aa Aa Aa) (wo hj (wv (D3 Aa Aa) (ER Aa hj Aa (wm Aa (AG (decide (((Ac v i).fStr)=([]:AE))) (λhl=>?_) (λhl=>?_)))))))))
         ·refine wo hl (wv (Af B9 Aa BG Aa Aa) (wo hl (wv (Ax (i:=0) BO Aa Aa Aa) (wo hl (wv (Gk Aa Aa) (ER Aa hl Aa (Ap ?_)))))));exact BL (And.intro c53 (And.intro hj hl))
         ·refine wf hl (wf hl (wf hl (wv (r:=rB false) (A7 (b:=decide (((Ac v i).fStr)=([]:AE))) Aa hl Aa) (Ap ?_))));exact BL (And.intro c53 (And.intro hj hl))
        ·refine wf hj (wf hj (wf hj (wv (r:=rB false) (A7 (b:=decide (((Ac v i).fInt)=0)) Aa hj Aa) (wm Aa (Ak (b:=false) Aa Aa Aa Aa (Ak (b:=false) Aa Aa Aa Aa (Ak (b:=false) Aa Aa Aa Aa (wv (r:=rB false) (A7 (b:=false) Aa Aa Aa) (Ap ?_)))))))));exact BL (And.intro c53 hj)
       ·refine wf c53 (wf c53 (wf c53 (wv (r:=rB false) (A7 (b:=decide (((Ac v i).fKind)=5)) Aa c53 Aa) (wm Aa (Ak (b:=false) Aa Aa Aa Aa (Ak (b:=false) Aa Aa Aa Aa (Ak (b:=false) Aa Aa Aa Aa (wv (r:=rB false) (A7 (b:=false) Aa Aa Aa) (wm Aa (Ak (b:=false) Aa Aa Aa Aa (Ak (b:=false) Aa Aa Aa Aa (Ak (b:=false) Aa Aa Aa Aa (wv (r:=rB false) (A7 (b:=false) Aa Aa Aa) (Ap ?_))))))))))))));exact BL c53
      refine A2 (b:=((decide (((Ac v i).fKind)=5))&&((decide (((Ac v i).fInt)=0))&&((decide (((Ac v i).fStr)=([]:AE)))&&(decide (0≤((Ac v i).fN))))))) Aa (λhq=>?_) (λhq=>?_)
      ·have gb:=AM hq hz;refine As (wm Aa (wm Aa ?_));obtain⟨gc,gd⟩:=AA gb;refine wv (Bv Aa Aa gc) (wv (Af B9 Aa BG Aa Aa) (wv (Ax (i:=0) BO Aa Aa Aa) ?_));obtain⟨ge,gf,gg⟩:=AX gd;refine Dw Tryz.call147 (h1 v (i+1) ((Ac v i).fN) ge gf) Aa (wa Aa (A0 (A1 (Am ?_))));obtain rfl:=A6 gg;exact A4 (B8 LB (AW Aa)) (sS sN) ⟨Aa,Aa⟩
      ·have h0:=AN hq hz;refine A5 (Bb (Av (AD [(0,Bo 4 (List.map Al v)),(1,rI .i64 i),(5,rv (.pointer (some ⟨b7,0,none⟩))),(120,rB ((decide (((Ac v i).fKind)=6))&&((decide (((Ac v i).fInt)=0))&&((decide (((Ac v i).fStr)=([]:AE)))&&(decide (0≤((Ac v i).fN)))))))] [.blk b7 (Al (Ac v i)) 95] ?_ ?_)))
       ·refine Ao (wv (Af B9 Aa Gm Aa Aa) (wv (Ax (i:=0) Gp Aa Aa Aa) (wv (Bq Aa Aa) (wm Aa (AG (decide (((Ac v i).fKind)=6)) (λhi=>?_) (λhi=>?_))))))
        ·refine wo hi (wv (Af B9 Aa BG Aa Aa) (wo hi (wv (Ax (i:=0) BO Aa Aa Aa) (wo hi (wv (Bq Aa Aa) (ER Aa hi Aa (wm Aa (AG (decide (((Ac v i).fInt)=0)) (λhk=>?_) (λhk=>?_)))))))))
         ·refine wo hk (wv (Af B9 Aa Dq Aa Aa) (wo hk (wv (Ax (i:=0) Dr Aa Aa Aa) (wo hk (wv (D3 Aa Aa) (ER Aa hk Aa (wm Aa (AG (decide (((Ac v i).fStr)=([]:AE))) (λhm=>?_) (λhm=>?_)))))))))
          ·refine wo hm (wv (Af B9 Aa BG Aa Aa) (wo hm (wv (Ax (i:=0) BO Aa Aa Aa) (wo hm (wv (Gk Aa Aa) (ER Aa hm Aa (Ap ?_)))))));exact BL (And.intro hi (And.intro hk hm))
          ·refine wf hm (wf hm (wf hm (wv (r:=rB false) (A7 (b:=decide (((Ac v i).fStr)=([]:AE))) Aa hm Aa) (Ap ?_))));exact BL (And.intro hi (And.intro hk hm))
         ·refine wf hk (wf hk (wf hk (wv (r:=rB false) (A7 (b:=decide (((Ac v i).fInt)=0)) Aa hk Aa) (wm Aa (Ak (b:=false) Aa Aa Aa Aa (Ak (b:=false) Aa Aa Aa Aa (Ak (b:=false) Aa Aa Aa Aa (wv (r:=rB false) (A7 (b:=false) Aa Aa Aa) (Ap ?_)))))))));exact BL (And.intro hi hk)
        ·refine wf hi (wf hi (wf hi (wv (r:=rB false) (A7 (b:=decide (((Ac v i).fKind)=6)) Aa hi Aa) (wm Aa (Ak (b:=false) Aa Aa Aa Aa (Ak (b:=false) Aa Aa Aa Aa (Ak (b:=false) Aa Aa Aa Aa (wv (r:=rB false) (A7 (b:=false) Aa Aa Aa) (wm Aa (Ak (b:=false) Aa Aa Aa Aa (Ak (b:=false) Aa Aa Aa Aa (Ak (b:=false) Aa Aa Aa Aa (wv (r:=rB false) (A7 (b:=false) Aa Aa Aa) (Ap ?_))))))))))))));exact BL hi
       refine A2 (b:=((decide (((Ac v i).fKind)=6))&&((decide (((Ac v i).fInt)=0))&&((decide (((Ac v i).fStr)=([]:AE)))&&(decide (0≤((Ac v i).fN))))))) Aa (λhr=>?_) (λhr=>?_)
       ·have gh:=AM hr h0;refine As (wm Aa (wm Aa ?_));obtain⟨gi,gj⟩:=AA gh;refine wv (Bv Aa Aa gi) (wv (Af B9 Aa BG Aa Aa) (wv (Ax (i:=0) BO Aa Aa Aa) ?_));obtain⟨gl,gm,gp⟩:=AX gj;refine Dw Tryz.call148 (h2 v (i+1) ((Ac v i).fN) gl gm) Aa (wa Aa (A0 (A1 (Am ?_))));obtain rfl:=A6 gp;exact A4 (B8 LB (AW Aa)) (sS sN) ⟨Aa,Aa⟩
       ·have gq:=AN hr h0;refine A5 (Bb (As (wv (r:=rI .i64 (-1)) (Aj Aa) (A0 (A1 ?_)))));obtain rfl:=A6 gq;exact A4 (B8 LB (AW Aa)) (sS sN) ⟨Aa,Aa⟩
theorem O5 (F:Nat)(hb:(List Au)→Int→Option (Int))(hl:(∀(v:(List Au)) (i:Int) (r:Int),hb v i=some r→Fn Tryz.prog GE 126 [Bo 4 (List.map Al v),rI .i64 i] [] (λR H=>R=rI .i64 r∧H=[])))(v:(List Au))(i:Int)(n:Int)(r:Int)(h:Is F hb v i n=some r):Fn Tryz.prog GE 147 [Bo 4 (List.map Al v),rI .i64 i,rI .i64 n] [] (λR H=>R=rI .i64 r∧H=[]):=by
 refine enter (n:=19) Tryz.func147 Aa Tryz.ntmps147 Aa (λw Z=>?_);refine Bd (l':=[(0,Bo 4 (List.map Al v)),(1,rI .i64 i),(2,rI .i64 n)]) (H':=[]) Aa Aa ?_;unfold Is at h;refine As (wv (r:=rI .i64 0) (Aj Aa) (A0 (Av (As (wv (r:=rI .i64 0) (Aj Aa) (A0 (AV ?_)))))));obtain⟨hm,hn,hi⟩:=AX h;refine B6 (S:=Nat×(Int×Int)×(Unit)) (V:=(Int)×(Unit)) 0 (λσ=>BS (λσ=>CJ v n hb σ.1 σ.2) σ.1 σ.2.1=some hm) (λσ=>[(0,Bo 4 (List.map Al v)),(1,rI .i64 σ.2.1.1),(2,rI .i64 n),(6,rI .i64 0),(7,rI .i64 σ.2.1.2)]) (λσ=>[]) (λσ=>σ.1) (F,(i,0),()) hn (AT.c5 Aa Aa Aa Aa Aa AT.nil) sN (λσ=>Es σ.1=some r) (λσ=>[(1,rI .i64 σ.1),(6,rI .i64 0)]) (λσ=>[]) ?_ ?_
 ·rintro⟨h2,⟨hd,he⟩,⟨⟩⟩ ho;refine Bd (l':=[(0,Bo 4 (List.map Al v)),(1,rI .i64 hd),(2,rI .i64 n),(6,rI .i64 0),(7,rI .i64 he)]) (H':=[]) Aa Aa ?_;obtain⟨hp,rfl,hq,ha,hg⟩:=Df ho;replace ha:CJ v n hb hd he=some hq:=ha;unfold CJ at ha;refine Av (As (wm Aa (wm Aa (wv (Cm Aa Aa) (A0 (A2 (b:=decide (he<n)) Aa (λc46=>?_) (λc46=>?_)))))))
  ·have hr:=AM c46 ha;refine A5 (Bb (Av (AV (As (wm Aa (wm Aa ?_))))));obtain⟨hh,hs,hj⟩:=AX hr;refine Dw IF (hl v hd hh hs) Aa (wa Aa (BH (wm Aa (wv (Cm Aa Aa) (A0 (A2 (b:=decide (hh<0)) Aa (λc51=>?_) (λc51=>?_)))))))
   ·have ht:=AM c51 hj;refine As (wv (r:=rI .i64 (-1)) (Aj Aa) (A0 (A1 (AK (Am (Am (Bw ?_)))))));have hu:=Cc ht hg hi;refine AK (Am ?_);obtain rfl:=A6 hu;exact A4 (B8 Tryz.results147 (AW Aa)) sN ⟨Aa,Aa⟩
   ·have hw:=AN c51 hj;refine A5 (Ba (Bb (Ao (wm Aa ?_))));obtain⟨hx,hy⟩:=AA hw;refine wv (Bv Aa Aa hx) (wa Aa (Ap ?_));have hz:=Bx hy hg;exact Az (AJ (hp,(hh,he+1),()) ⟨hz,Zo _⟩ (AT.c5 Aa Aa Aa Aa Aa AT.nil) sN)
  ·have h0:=AN c46 ha;refine B2 (A8 ?_);have h1:=Cn h0 hg hi;exact A8 (Bj (AJ (hd,()) h1 (AT.c Aa (AT.c Aa AT.nil)) sN))
 ·rintro⟨hk,⟨⟩⟩ hf;refine C7 (l':=[(1,rI .i64 hk),(6,rI .i64 0)]) (H':=[]) Aa Aa ?_;replace hf:Es hk=some r:=hf;unfold Es at hf;refine Bh (Bb (As (wm Aa (wa Aa (A0 (A1 ?_))))));obtain rfl:=A6 hf;exact A4 (B8 Tryz.results147 (AW Aa)) sN ⟨Aa,Aa⟩
theorem SX (F:Nat)(hi:(List Au)→Int→Option (Int))(hu:(∀(v:(List Au)) (i:Int) (r:Int),hi v i=some r→Fn Tryz.prog GE 126 [Bo 4 (List.map Al v),rI .i64 i] [] (λR H=>R=rI .i64 r∧H=[])))(v:(List Au))(i:Int)(n:Int)(r:Int)(h:Mj F hi v i n=some r):Fn Tryz.prog GE 148 [Bo 4 (List.map Al v),rI .i64 i,rI .i64 n] [] (λR H=>R=rI .i64 r∧H=[]):=by
 refine enter (n:=51) Tryz.func148 Aa Tryz.ntmps148 Aa (λw Z=>?_);refine Bd (l':=[(0,Bo 4 (List.map Al v)),(1,rI .i64 i),(2,rI .i64 n)]) (H':=[]) Aa Aa ?_;unfold Mj at h;refine As (wv (r:=rI .i64 0) (Aj Aa) (BH (wv (r:=rS ([]:AE)) (Aj Aa) (A0 (Av (As (wv (r:=rI .i64 0) (Aj Aa) (A0 (AV ?_)))))))));obtain⟨hw,hx,hl⟩:=AX h;refine B6 (S:=Nat×(Int×AE×Int)×(Unit)) (V:=(Int)×(Unit)) 0 (λσ=>BS (λσ=>D2 F v n hi σ.1 σ.2.1 σ.2.2) σ.1 σ.2.1=some hw) (λσ=>[(0,Bo 4 (List.map Al v)),(1,rI .i64 σ.2.1.1),(2,rI .i64 n),(7,rS σ.2.1.2.1),(8,rI .i64 σ.2.1.2.2)]) (λσ=>[]) (λσ=>σ.1) (F,(i,([]:AE),0),()) hx (AT.c5 Aa Aa Aa Aa Aa AT.nil) sN (λσ=>GX σ.1=some r) (λσ=>[(1,rI .i64 σ.1)]) (λσ=>[]) ?_ ?_
 ·rintro⟨hL,⟨hb,hg,hf⟩,⟨⟩⟩ hy;refine Bd (l':=[(0,Bo 4 (List.map Al v)),(1,rI .i64 hb),(2,rI .i64 n),(7,rS hg),(8,rI .i64 hf)]) (H':=[]) Aa Aa ?_;obtain⟨hz,rfl,h0,hh,hj⟩:=Df hy;replace hh:D2 F v n hi hb hg hf=some h0:=hh;unfold D2 at hh;refine Av (As (wm Aa (wm Aa (wv (Cm Aa Aa) (A0 (A2 (b:=decide (hf<n)) Aa (λhm=>?_) (λhm=>?_)))))))
  ·have h1:=AM hm hh;refine A5 (Bb (Av (AV (Av ?_))));obtain⟨hq,h2⟩:=AA h1;obtain⟨h3,hr⟩:=AA h2;refine AD [(0,Bo 4 (List.map Al v)),(1,rI .i64 hb),(2,rI .i64 n),(8,rI .i64 hf),(38,rB ((decide ((v.length:Int)≤hb))||((!(ov (LX F (Ac v hb))))||((decide (0<hf))&&(Cz ((Ac v hb).fStr) hg||decide (((Ac v hb).fStr)=hg))))))] [] ?_ ?_
   ·refine Ao (wm Aa (wm Aa (wv (BM (ys:=v) (enc:=Al) DW Aa) (wv (Gk Aa Aa) (wm Aa (AG (decide ((v.length:Int)≤hb)) (λha=>?_) (λha=>?_)))))))
    ·refine wf ha (wf ha (wf ha (wf ha (wf ha (wf ha (wv (r:=rB true) (Ar (b:=decide ((v.length:Int)≤hb)) Aa ha Aa) (wm Aa (Ak (b:=true) Aa Aa Aa Aa (Ak (b:=true) Aa Aa Aa Aa (Ak (b:=true) Aa Aa Aa Aa (wu (wu (wu (wu (wu (wu (wu (Ak (b:=true) Aa Aa Aa Aa (wv (r:=rB true) (Ar (b:=true) Aa Aa Aa) (Ap ?_))))))))))))))))))));exact BL ha
    ·refine wo ha (wm Aa (wo ha (wm Aa (wo ha (wv (Ce (enc:=Al) (ys:=v) DW E1 Aa Aa (Ca hq ha)) (wo ha (wv (CX Nv E1 Aa Aa Aa) (wo ha (Dw Tryz.call146 (Uy F (Ac v hb) (ov (LX F (Ac v hb))) (EP (Ca h3 ha))) Aa (wo ha (wv (BW Aa) (Dy Aa ha Aa (wm Aa (AG (!(ov (LX F (Ac v hb)))) (λhe=>?_) (λhe=>?_)))))))))))))))
     ·refine wf he (wf he (wf he (wu (wu (wu (wu (wu (wu (wu (wf he (wv (r:=rB true) (Ar (b:=!(ov (LX F (Ac v hb)))) Aa he Aa) (Ap ?_))))))))))));exact BL (And.intro ha he)
     ·refine wo he (wm Aa (wo he (wv (C3 Aa Aa) (wo he (wm Aa (AG (decide (0<hf)) (λhd=>?_) (λhd=>?_)))))))
      ·refine wo hd (wm Aa (wo hd (wm Aa (wo hd (wv (Ce (enc:=Al) (ys:=v) DW E1 Aa Aa (Ca hq ha)) (wo hd (wv (Bi B9 Aa Dq Aa Aa) (wo hd (wv (Ci Dr Aa Aa) (wo hd (wm Aa (wo hd (wv (UC Aa Aa) (wo he (ER Aa hd Aa (Dy Aa he Aa (Ap ?_)))))))))))))))));exact BL (And.intro ha (And.intro he hd))
      ·refine wf hd (wf hd (wf hd (wf hd (wf hd (wf hd (wf hd (wo he (wv (r:=rB false) (A7 (b:=decide (0<hf)) Aa hd Aa) (Dy Aa he Aa (Ap ?_))))))))));exact BL (And.intro ha (And.intro he hd))
   refine A2 (b:=((decide ((v.length:Int)≤hb))||((!(ov (LX F (Ac v hb))))||((decide (0<hf))&&(Cz ((Ac v hb).fStr) hg||decide (((Ac v hb).fStr)=hg)))))) Aa (λhn=>?_) (λhn=>?_)
   ·have h4:=AM hn hr;refine As (wv (r:=rI .i64 (-1)) (Aj Aa) (A0 (A1 (Am (AK (Am (Am (Bw ?_))))))));have h5:=Cc h4 hj hl;refine AK (Am ?_);obtain rfl:=A6 h5;exact A4 (B8 Tryz.results148 (AW Aa)) sN ⟨Aa,Aa⟩
   ·have h6:=AN hn hr;refine A5 (Bb (As (wm Aa (wm Aa ?_))));obtain⟨h7,h8⟩:=AA h6;refine wv (Ce (enc:=Al) (ys:=v) DW E1 Aa Aa h7) (wv (Bi B9 Aa Dq Aa Aa) (wv (Ci Dr Aa Aa) (wa Aa (BH (wm Aa (wm Aa ?_))))));obtain⟨h9,hA⟩:=AA h8;refine wv (Bv Aa Aa h9) ?_;obtain⟨ho,hB,hs⟩:=AX hA;refine Dw IF (hu v (hb+1) ho hB) Aa (wa Aa (BH (wm Aa (wv (Cm Aa Aa) (A0 (A2 (b:=decide (ho<0)) Aa (λhp=>?_) (λhp=>?_)))))))
    ·have hC:=AM hp hs;refine As (wv (r:=rI .i64 (-1)) (Aj Aa) (A0 (A1 (AK (Am (Am (Bw ?_)))))));have hD:=Cc hC hj hl;refine AK (Am ?_);obtain rfl:=A6 hD;exact A4 (B8 Tryz.results148 (AW Aa)) sN ⟨Aa,Aa⟩
    ·have hE:=AN hp hs;refine A5 (Ba (Bb (Ao (wm Aa ?_))));obtain⟨hG,hH⟩:=AA hE;refine wv (Bv Aa Aa hG) (wa Aa (Ap ?_));have hI:=Bx hH hj;exact Az (AJ (hz,(ho,(Ac v hb).fStr,hf+1),()) ⟨hI,Zo _⟩ (AT.c5 Aa Aa Aa Aa Aa AT.nil) sN)
  ·have hJ:=AN hm hh;refine B2 (A8 ?_);have hK:=Cn hJ hj hl;exact A8 (Bj (AJ (hb,()) hK (AT.c Aa AT.nil) sN))
 ·rintro⟨ht,⟨⟩⟩ hk;refine C7 (l':=[(1,rI .i64 ht)]) (H':=[]) Aa Aa ?_;replace hk:GX ht=some r:=hk;unfold GX at hk;refine Bh (Bb (As (wm Aa (wa Aa (A0 (A1 ?_))))));obtain rfl:=A6 hk;exact A4 (B8 Tryz.results148 (AW Aa)) sN ⟨Aa,Aa⟩
theorem HP:∀F:Nat,(∀(v:(List Au)) (i:Int) (r:Int),D8 F v i=some r→Fn Tryz.prog GE 126 [Bo 4 (List.map Al v),rI .i64 i] [] (λR H=>R=rI .i64 r∧H=[]))∧(∀(v:(List Au)) (i:Int) (n:Int) (r:Int),GY F v i n=some r→Fn Tryz.prog GE 147 [Bo 4 (List.map Al v),rI .i64 i,rI .i64 n] [] (λR H=>R=rI .i64 r∧H=[]))∧(∀(v:(List Au)) (i:Int) (n:Int) (r:Int),Ls F v i n=some r→Fn Tryz.prog GE 148 [Bo 4 (List.map Al v),rI .i64 i,rI .i64 n] [] (λR H=>R=rI .i64 r∧H=[]))
  | 0=>⟨(λ_ _ _ h=>by simp[D8] at h),(λ_ _ _ _ h=>by simp[GY] at h),(λ_ _ _ _ h=>by simp[Ls] at h)⟩
  | nn+1=>⟨(λv i r h=>Uw nn (GY nn) (Ls nn) (HP nn).2.1 (HP nn).2.2 v i r (by rw[D8] at h;exact h)),(λv i n r h=>O5 nn (D8 nn) (HP nn).1 v i n r (by rw[GY] at h;exact h)),(λv i n r h=>SX nn (D8 nn) (HP nn).1 v i n r (by rw[Ls] at h;exact h))⟩
theorem GN (F:Nat)(v:(List Au))(i:Int)(r:Int)(h:D8 F v i=some r):Fn Tryz.prog GE 126 [Bo 4 (List.map Al v),rI .i64 i] [] (λR H=>R=rI .i64 r∧H=[]):=(HP F).1 v i r h
theorem SZ (F:Nat)(v:(List Au))(r:Bool)(h:KD F v=some r):Fn Tryz.prog GE 105 [Bo 4 (List.map Al v)] [] (λR H=>R=rB r∧H=[]):=by
 refine enter (n:=13) Tryz.func105 Aa Tryz.ntmps105 Aa (λw Z=>?_);refine Bd (l':=[(0,Bo 4 (List.map Al v))]) (H':=[]) Aa Aa ?_;unfold KD at h;refine As (wv (r:=rB false) (Aj Aa) (A0 ?_));obtain⟨g1,h2⟩:=AA h;refine AD [(2,rB ((decide (0<(v.length:Int)))&&(decide ((ov (D8 F v 0))=(v.length:Int)))))] [] ?_ ?_
 ·refine Ao (wm Aa (wv (BM (ys:=v) (enc:=Al) DW Aa) (wv (C3 Aa Aa) (wm Aa (AG (decide (0<(v.length:Int))) (λc3=>?_) (λc3=>?_))))))
  ·refine wo c3 (wm Aa (wo c3 (Dw IF (GN F v 0 (ov (D8 F v 0)) (EP (CA g1 c3))) Aa (wo c3 (wm Aa (wo c3 (wv (BM (ys:=v) (enc:=Al) DW Aa) (wo c3 (wv (Bq Aa Aa) (ER Aa c3 Aa (wa Aa (Ap ?_))))))))))));exact BL c3
  ·refine wf c3 (wf c3 (wf c3 (wf c3 (wf c3 (wv (r:=rB false) (A7 (b:=decide (0<(v.length:Int))) Aa c3 Aa) (wa Aa (Ap ?_)))))));exact BL c3
 refine A1 ?_;obtain rfl:=A6 h2;exact A4 (B8 Tryz.results105 (AW Aa)) sN ⟨Aa,Aa⟩
theorem Rc (F:Nat)(hg:(List Au)→Int→Option (Int))(hp:(∀(v:(List Au)) (i:Int) (r:Int),hg v i=some r→Fn Tryz.prog GE 106 [Bo 4 (List.map Al v),rI .i64 i] [] (λR H=>R=rI .i64 r∧H=[])))(v:(List Au))(i:Int)(r:Int)(h:HQ F hg v i=some r):Fn Tryz.prog GE 106 [Bo 4 (List.map Al v),rI .i64 i] [] (λR H=>R=rI .i64 r∧H=[]):=by
 refine enter (n:=47) Tryz.func106 Aa Tryz.ntmps106 Aa (λw Z=>?_);refine Bd (l':=[(0,Bo 4 (List.map Al v)),(1,rI .i64 i)]) (H':=[]) Aa Aa ?_;unfold HQ at h;refine As (wv (r:=rI .i64 0) (Aj Aa) (BH (wm Aa (wm Aa ?_))));obtain⟨g1,h2⟩:=AA h;refine wv (Ce (enc:=Al) (ys:=v) DW E1 Aa Aa g1) (wv (CX Nv E1 Aa Aa Aa) (Dn (cs:=[rI .i64 0,rI .i64 0,rS ([]:AE),rI .i64 0]) Sq Aa Aa (λb3=>?_)));refine Ch (i:=0) E1 Aa Aa Aa (C0.c Aa) Aa Aa (cs':=[rI .i64 ((Ac v i).fKind),rI .i64 ((Ac v i).fInt),rS ((Ac v i).fStr),rI .i64 ((Ac v i).fN)]) Aa (H':=[.blk b3 (Al (Ac v i)) 95]) Aa (A0 (Av (AD [(0,Bo 4 (List.map Al v)),(1,rI .i64 i),(5,rv (.pointer (some ⟨b3,0,none⟩))),(21,rB ((!decide (((Ac v i).fKind)=5))&&(!decide (((Ac v i).fKind)=6))))] [.blk b3 (Al (Ac v i)) 95] ?_ ?_)))
 ·refine Ao (wv (Af B9 Aa Gm Aa Aa) (wv (Ax (i:=0) Gp Aa Aa Aa) (wv (DJ Aa Aa) (wm Aa (AG (!decide (((Ac v i).fKind)=5)) (λc4=>?_) (λc4=>?_))))))
  ·refine wo c4 (wv (Af B9 Aa Gm Aa Aa) (wo c4 (wv (Ax (i:=0) Gp Aa Aa Aa) (wo c4 (wv (DJ Aa Aa) (ER Aa c4 Aa (Ap ?_)))))));exact BL c4
  ·refine wf c4 (wf c4 (wf c4 (wv (r:=rB false) (A7 (b:=!decide (((Ac v i).fKind)=5)) Aa c4 Aa) (Ap ?_))));exact BL c4
 refine A2 (b:=((!decide (((Ac v i).fKind)=5))&&(!decide (((Ac v i).fKind)=6)))) Aa (λc5=>?_) (λc5=>?_)
 ·have h6:=AM c5 h2;refine As (wv (r:=rI .i64 1) (Aj Aa) (A0 (A1 (Am ?_))));obtain rfl:=A6 h6;exact A4 (B8 Tryz.results106 (AW Aa)) (sS sN) ⟨Aa,Aa⟩
 ·have h7:=AN c5 h2;refine A5 (Bb (As (wv (r:=rI .i64 0) (Aj Aa) (BH (wm Aa ?_)))));obtain⟨g8,h9⟩:=AA h7;refine wv (Bv Aa Aa g8) (wa Aa (A0 (Av (As (wv (r:=rI .i64 0) (Aj Aa) (A0 (AV ?_)))))));obtain⟨hz,h0,h1⟩:=AX h9;refine B6 (S:=Nat×(Int×Int×Int)×(Unit)) (V:=(Int)×(Unit)) 0 (λσ=>BS (λσ=>CF F v i hg σ.1 σ.2.1 σ.2.2) σ.1 σ.2.1=some hz) (λσ=>[(0,Bo 4 (List.map Al v)),(5,rv (.pointer (some ⟨b3,0,none⟩))),(6,rI .i64 σ.2.1.1),(7,rI .i64 σ.2.1.2.1),(8,rI .i64 σ.2.1.2.2)]) (λσ=>[.blk b3 (Al (Ac v i)) 95]) (λσ=>σ.1) (F,(0,i+1,0),()) h0 (AT.c5 Aa Aa Aa Aa Aa AT.nil) (sC sN) (λσ=>Eg σ.1=some r) (λσ=>[(6,rI .i64 σ.1)]) (λσ=>[]) ?_ ?_
  ·rintro⟨gi,⟨hb,ha,hd⟩,⟨⟩⟩ h3;refine Bd (l':=[(0,Bo 4 (List.map Al v)),(5,rv (.pointer (some ⟨b3,0,none⟩))),(6,rI .i64 hb),(7,rI .i64 ha),(8,rI .i64 hd)]) (H':=[.blk b3 (Al (Ac v i)) 95]) Aa Aa ?_;obtain⟨hh,rfl,h4,he,hf⟩:=Df h3;replace he:CF F v i hg hb ha hd=some h4:=he;unfold CF at he;refine Av (As (wm Aa (wv (Af B9 Aa BG Aa Aa) (wv (Ax (i:=0) BO Aa Aa Aa) (wv (Cm Aa Aa) (A0 (A2 (b:=decide (hd<((Ac v i).fN))) Aa (λhj=>?_) (λhj=>?_))))))))
   ·have hq:=AM hj he;refine A5 (Bb (Av (AV (Av (As (wv (Af B9 Aa Gm Aa Aa) (wv (Ax (i:=0) Gp Aa Aa Aa) (wv (Bq Aa Aa) (A0 (A2 (b:=decide (((Ac v i).fKind)=6)) Aa (λhk=>?_) (λhk=>?_)))))))))))
    ·have h5:=AM hk hq;refine Ao (wm Aa ?_);obtain⟨h8,hA⟩:=AA h5;refine wv (Bv Aa Aa h8) (wa Aa (BH (wm Aa (wm Aa ?_))));obtain⟨hl,hB,hr⟩:=AX hA;refine Dw Tryz.call106 (hp v (ha+1) hl hB) Aa (wa Aa (A0 (Av (As (wm Aa (wm Aa (wv (C3 Aa Aa) (A0 (A2 (b:=decide (hb<hl)) Aa (λhm=>?_) (λhm=>?_))))))))))
     ·have hC:=AM hm hr;refine Ao (wm Aa (wa Aa (A0 (Ao (wm Aa (wm Aa ?_))))));obtain⟨hs,hD,hE⟩:=AX hC;refine Dw IF (GN F v (ha+1) hs hD) Aa (wa Aa (Ap (Ba (Bb (Ao (wm Aa ?_))))));obtain⟨hG,hH⟩:=AA hE;refine wv (Bv Aa Aa hG) (wa Aa (Ap ?_));have hI:=Bx hH hf;exact Az (AJ (hh,(hl,hs,hd+1),()) ⟨hI,Zo _⟩ (AT.c5 Aa Aa Aa Aa Aa AT.nil) (sC sN))
     ·have hJ:=AN hm hr;refine A5 (Bb (Ao (wm Aa (wm Aa ?_))));obtain⟨ht,hK,hL⟩:=AX hJ;refine Dw IF (GN F v (ha+1) ht hK) Aa (wa Aa (Ap (Ba (Bb (Ao (wm Aa ?_))))));obtain⟨hN,hO⟩:=AA hL;refine wv (Bv Aa Aa hN) (wa Aa (Ap ?_));have hP:=Bx hO hf;exact Az (AJ (hh,(hb,ht,hd+1),()) ⟨hP,Zo _⟩ (AT.c5 Aa Aa Aa Aa Aa AT.nil) (sC sN))
    ·have hQ:=AN hk hq;refine A5 (Bb (As (wm Aa (wm Aa ?_))));obtain⟨hn,hR,hu⟩:=AX hQ;refine Dw Tryz.call106 (hp v ha hn hR) Aa (wa Aa (A0 (Av (As (wm Aa (wm Aa (wv (C3 Aa Aa) (A0 (A2 (b:=decide (hb<hn)) Aa (λho=>?_) (λho=>?_))))))))))
     ·have hS:=AM ho hu;refine Ao (wm Aa (wa Aa (A0 (Ao (wm Aa (wm Aa ?_))))));obtain⟨hw,hT,hU⟩:=AX hS;refine Dw IF (GN F v ha hw hT) Aa (wa Aa (Ap (Ba (Bb (Ao (wm Aa ?_))))));obtain⟨hV,hW⟩:=AA hU;refine wv (Bv Aa Aa hV) (wa Aa (Ap ?_));have hX:=Bx hW hf;exact Az (AJ (hh,(hn,hw,hd+1),()) ⟨hX,Zo _⟩ (AT.c5 Aa Aa Aa Aa Aa AT.nil) (sC sN))
     ·have hY:=AN ho hu;refine A5 (Bb (Ao (wm Aa (wm Aa ?_))));obtain⟨hx,hZ,ga⟩:=AX hY;refine Dw IF (GN F v ha hx hZ) Aa (wa Aa (Ap (Ba (Bb (Ao (wm Aa ?_))))));obtain⟨gb,gc⟩:=AA ga;refine wv (Bv Aa Aa gb) (wa Aa (Ap ?_));have gd:=Bx gc hf;exact Az (AJ (hh,(hb,hx,hd+1),()) ⟨gd,Zo _⟩ (AT.c5 Aa Aa Aa Aa Aa AT.nil) (sC sN))
   ·have ge:=AN hj he;refine B2 (A8 ?_);have gf:=Cn ge hf h1;exact A8 (Bj (AJ (hb,()) gf (AT.c Aa AT.nil) (sS sN)))
  ·rintro⟨hy,⟨⟩⟩ hi;refine C7 (l':=[(6,rI .i64 hy)]) (H':=[]) Aa Aa ?_;replace hi:Eg hy=some r:=hi;unfold Eg at hi;refine Bh (Bb (As (wm Aa ?_)));obtain⟨gg,gh⟩:=AA hi;refine wv (Bv Aa Aa gg) (wa Aa (A0 (A1 ?_)));obtain rfl:=A6 gh;exact A4 (B8 Tryz.results106 (AW Aa)) sN ⟨Aa,Aa⟩
theorem LJ:∀F:Nat,(∀(v:(List Au)) (i:Int) (r:Int),CI F v i=some r→Fn Tryz.prog GE 106 [Bo 4 (List.map Al v),rI .i64 i] [] (λR H=>R=rI .i64 r∧H=[]))
  | 0=>(λ_ _ _ h=>by simp[CI] at h)
  | nn+1=>(λv i r h=>Rc nn (CI nn) (LJ nn) v i r (by rw[CI] at h;exact h))
theorem SY (F:Nat)(v:(List Au))(i:Int)(r:Int)(h:CI F v i=some r):Fn Tryz.prog GE 106 [Bo 4 (List.map Al v),rI .i64 i] [] (λR H=>R=rI .i64 r∧H=[]):=(LJ F) v i r h
theorem Lp (F:Nat)(s:AE)(r:AE)(h:Io F s=some r):Fn Tryz.prog GE 127 [rS s] [] (λR H=>R=rS r∧H=[]):=by
 refine enter (n:=32) Tryz.func127 Aa Tryz.ntmps127 Aa (λw Z=>?_);refine Bd (l':=[(0,rS s)]) (H':=[]) Aa Aa ?_;unfold Io at h;refine As (wv (r:=rS ([]:AE)) (Aj Aa) (BH (wv (r:=rS ([34]:AE)) (Aj Aa) (A0 (Av (As (wv (r:=rI .i64 0) (Aj Aa) (A0 (AV ?_)))))))));obtain⟨hp,hq,hr⟩:=AX h;refine B6 (S:=Nat×(AE×Int)×(Unit)) (V:=(AE)×(Unit)) 0 (λσ=>BS (λσ=>Dc s σ.1 σ.2) σ.1 σ.2.1=some hp) (λσ=>[(0,rS s),(3,rS σ.2.1.1),(4,rI .i64 σ.2.1.2)]) (λσ=>[]) (λσ=>σ.1) (F,(([34]:AE),0),()) hq (AT.c Aa (AT.c Aa (AT.c Aa AT.nil))) sN (λσ=>DE σ.1=some r) (λσ=>[(3,rS σ.1)]) (λσ=>[]) ?_ ?_
 ·rintro⟨hL,⟨hd,ha⟩,⟨⟩⟩ hs;refine Bd (l':=[(0,rS s),(3,rS hd),(4,rI .i64 ha)]) (H':=[]) Aa Aa ?_;obtain⟨hj,rfl,ht,he,hg⟩:=Df hs;replace he:Dc s hd ha=some ht:=he;unfold Dc at he;refine Av (As (wm Aa (wm Aa (wv (BJ Eo Aa) (wv (Cm Aa Aa) (A0 (A2 (b:=decide (ha<(s.length:Int))) Aa (λhh=>?_) (λhh=>?_))))))))
  ·have hu:=AM hh he;refine A5 (Bb (Av (AV (Av ?_))));obtain⟨hk,hl⟩:=AA hu;refine AD [(0,rS s),(3,rS hd),(4,rI .i64 ha),(20,rB ((decide ((Cr s ha)=34))||(decide ((Cr s ha)=92))))] [] ?_ ?_
   ·refine Ao (wm Aa (wm Aa (wv (BT Eo Aa Aa hk) (wv (Bq Aa Aa) (wm Aa (AG (decide ((Cr s ha)=34)) (λhb=>?_) (λhb=>?_)))))))
    ·refine wf hb (wf hb (wf hb (wf hb (wv (r:=rB true) (Ar (b:=decide ((Cr s ha)=34)) Aa hb Aa) (Ap ?_)))));exact BL hb
    ·refine wo hb (wm Aa (wo hb (wm Aa (wo hb (wv (BT Eo Aa Aa hk) (wo hb (wv (Bq Aa Aa) (Dy Aa hb Aa (Ap ?_)))))))));exact BL hb
   refine A2 (b:=((decide ((Cr s ha)=34))||(decide ((Cr s ha)=92)))) Aa (λhi=>?_) (λhi=>?_)
   ·have hw:=AM hi hl;refine Ao (wm Aa ?_);obtain⟨hx,hy⟩:=AA hw;refine wv (CL Aa Aa hx) (wa Aa (A0 (Ao (wm Aa (wm Aa (wm Aa (wm Aa ?_)))))));obtain⟨hm,hz⟩:=AA hy;refine wv (Bv Aa Aa hm) ?_;obtain⟨h0,h1⟩:=AA hz;obtain⟨h2,h3⟩:=AA h1;refine wv (Iw Eo Aa Aa Aa h0 h2) ?_;obtain⟨h4,h5⟩:=AA h3;refine wv (CL Aa Aa h4) (wa Aa (Ap (Ba (Bb (Ao (wm Aa (wv (Bv Aa Aa hm) (wa Aa (Ap ?_)))))))));have h6:=Bx h5 hg;exact Az (AJ (hj,((hd++([92]:AE))++(List.take (Int.toNat (ha+1)-Int.toNat ha) (List.drop (Int.toNat ha) s)),ha+1),()) ⟨h6,Zo _⟩ (AT.c Aa (AT.c Aa (AT.c Aa AT.nil))) sN)
   ·have h7:=AN hi hl;refine A5 (Bb (Ao (wm Aa (wm Aa (wm Aa (wm Aa ?_))))));obtain⟨hn,h8⟩:=AA h7;refine wv (Bv Aa Aa hn) ?_;obtain⟨h9,hA⟩:=AA h8;obtain⟨hB,hC⟩:=AA hA;refine wv (Iw Eo Aa Aa Aa h9 hB) ?_;obtain⟨hD,hE⟩:=AA hC;refine wv (CL Aa Aa hD) (wa Aa (Ap (Ba (Bb (Ao (wm Aa (wv (Bv Aa Aa hn) (wa Aa (Ap ?_)))))))));have hG:=Bx hE hg;exact Az (AJ (hj,(hd++(List.take (Int.toNat (ha+1)-Int.toNat ha) (List.drop (Int.toNat ha) s)),ha+1),()) ⟨hG,Zo _⟩ (AT.c Aa (AT.c Aa (AT.c Aa AT.nil))) sN)
  ·have hH:=AN hh he;refine B2 (A8 ?_);have hI:=Cn hH hg hr;exact A8 (Bj (AJ (hd,()) hI (AT.c Aa AT.nil) sN))
 ·rintro⟨ho,⟨⟩⟩ hf;refine C7 (l':=[(3,rS ho)]) (H':=[]) Aa Aa ?_;replace hf:DE ho=some r:=hf;unfold DE at hf;refine Bh (Bb (As (wm Aa ?_)));obtain⟨hJ,hK⟩:=AA hf;refine wv (CL Aa Aa hJ) (wa Aa (A0 (A1 ?_)));obtain rfl:=A6 hK;exact A4 (B8 Tryz.results127 (AW Aa)) sN ⟨Aa,Aa⟩
theorem Us (F:Nat)(hh:(List Au)→Int→Option (AE))(hi:(∀(v:(List Au)) (i:Int) (r:AE),hh v i=some r→Fn Tryz.prog GE 107 [Bo 4 (List.map Al v),rI .i64 i] [] (λR H=>R=rS r∧H=[])))(v:(List Au))(i:Int)(r:AE)(h:Ln F hh v i=some r):Fn Tryz.prog GE 107 [Bo 4 (List.map Al v),rI .i64 i] [] (λR H=>R=rS r∧H=[]):=by
 refine enter (n:=77) Tryz.func107 Aa Tryz.ntmps107 Aa (λw Z=>?_);refine Bd (l':=[(0,Bo 4 (List.map Al v)),(1,rI .i64 i)]) (H':=[]) Aa Aa ?_;unfold Ln at h;refine As (wv (r:=rS ([]:AE)) (Aj Aa) (BH (wm Aa (wm Aa ?_))));obtain⟨g1,h2⟩:=AA h;refine wv (Ce (enc:=Al) (ys:=v) DW E1 Aa Aa g1) (wv (CX Nv E1 Aa Aa Aa) (Dn (cs:=[rI .i64 0,rI .i64 0,rS ([]:AE),rI .i64 0]) Sq Aa Aa (λb3=>?_)));refine Ch (i:=0) E1 Aa Aa Aa (C0.c Aa) Aa Aa (cs':=[rI .i64 ((Ac v i).fKind),rI .i64 ((Ac v i).fInt),rS ((Ac v i).fStr),rI .i64 ((Ac v i).fN)]) Aa (H':=[.blk b3 (Al (Ac v i)) 95]) Aa (A0 (Av (As (wv (Af B9 Aa Gm Aa Aa) (wv (Ax (i:=0) Gp Aa Aa Aa) (wv (Bq Aa Aa) (A0 (A2 (b:=decide (((Ac v i).fKind)=1)) Aa (λc4=>?_) (λc4=>?_)))))))))
 ·have h5:=AM c4 h2;refine As (wv (r:=rS ([110,117,108,108]:AE)) (Aj Aa) (A0 (A1 (Am ?_))));obtain rfl:=A6 h5;exact A4 (B8 M4 (AW Aa)) (sS sN) ⟨Aa,Aa⟩
 ·have h6:=AN c4 h2;refine A5 (Bb (Av (As (wv (Af B9 Aa Gm Aa Aa) (wv (Ax (i:=0) Gp Aa Aa Aa) (wv (Bq Aa Aa) (A0 (A2 (b:=decide (((Ac v i).fKind)=2)) Aa (λc7=>?_) (λc7=>?_)))))))))
  ·have h8:=AM c7 h6;refine Av (As (wv (Af B9 Aa BG Aa Aa) (wv (Ax (i:=0) BO Aa Aa Aa) (wv (Bq Aa Aa) (A0 (A2 (b:=decide (((Ac v i).fInt)=1)) Aa (λc9=>?_) (λc9=>?_)))))))
   ·have hB:=AM c9 h8;refine As (wv (r:=rS ([116,114,117,101]:AE)) (Aj Aa) (A0 (A1 (Am (Am ?_)))));obtain rfl:=A6 hB;exact A4 (B8 M4 (AW Aa)) (sS sN) ⟨Aa,Aa⟩
   ·have hC:=AN c9 h8;refine A5 (Bb (As (wv (r:=rS ([102,97,108,115,101]:AE)) (Aj Aa) (A0 (A1 (Am ?_))))));obtain rfl:=A6 hC;exact A4 (B8 M4 (AW Aa)) (sS sN) ⟨Aa,Aa⟩
  ·have hq:=AN c7 h6;refine A5 (Bb (Av (As (wv (Af B9 Aa Gm Aa Aa) (wv (Ax (i:=0) Gp Aa Aa Aa) (wv (Bq Aa Aa) (A0 (A2 (b:=decide (((Ac v i).fKind)=3)) Aa (λhk=>?_) (λhk=>?_)))))))))
   ·have hD:=AM hk hq;refine As (wv (Af B9 Aa BG Aa Aa) (wv (Ax (i:=0) BO Aa Aa Aa) ?_));obtain⟨g15,hE⟩:=AA hD;refine DS (rs:=[rI .i64 ((Ac v i).fInt)]) (r:=rS (Lib.itoa ((Ac v i).fInt))) Tryz.call80 Aa (X4 ((Ac v i).fInt) g15) Aa Aa (wa Aa (A0 (A1 (Am ?_))));obtain rfl:=A6 hE;exact A4 (B8 M4 (AW Aa)) (sS sN) ⟨Aa,Aa⟩
   ·have hr:=AN hk hq;refine A5 (Bb (Av (As (wv (Af B9 Aa Gm Aa Aa) (wv (Ax (i:=0) Gp Aa Aa Aa) (wv (Bq Aa Aa) (A0 (A2 (b:=decide (((Ac v i).fKind)=4)) Aa (λhl=>?_) (λhl=>?_)))))))))
    ·have hG:=AM hl hr;refine As (wv (Af B9 Aa Dq Aa Aa) (wv (Ax (i:=0) Dr Aa Aa Aa) ?_));obtain⟨hH,hI,hJ⟩:=AX hG;refine Dw Tryz.call127 (Lp F ((Ac v i).fStr) hH hI) Aa (wa Aa (A0 (A1 (Am ?_))));obtain rfl:=A6 hJ;exact A4 (B8 M4 (AW Aa)) (sS sN) ⟨Aa,Aa⟩
    ·have hK:=AN hl hr;refine A5 (Bb (As (wv (r:=rS ([]:AE)) (Aj Aa) (BH (wm Aa ?_)))));obtain⟨hL,hN⟩:=AA hK;refine wv (Bv Aa Aa hL) (wa Aa (A0 (Av (As (wv (r:=rI .i64 0) (Aj Aa) (A0 (AV ?_)))))));obtain⟨hO,hP,hQ⟩:=AX hN;refine B6 (S:=Nat×(AE×Int×Int)×(Unit)) (V:=(AE)×(Unit)) 0 (λσ=>BS (λσ=>Ee F v i hh σ.1 σ.2.1 σ.2.2) σ.1 σ.2.1=some hO) (λσ=>[(0,Bo 4 (List.map Al v)),(4,rS ([]:AE)),(5,rv (.pointer (some ⟨b3,0,none⟩))),(6,rS σ.2.1.1),(7,rI .i64 σ.2.1.2.1),(8,rI .i64 σ.2.1.2.2)]) (λσ=>[.blk b3 (Al (Ac v i)) 95]) (λσ=>σ.1) (F,(([]:AE),i+1,0),()) hP (AT.c Aa (AT.c5 Aa Aa Aa Aa Aa AT.nil)) (sC sN) (λσ=>Hj v i σ.1=some r) (λσ=>[(4,rS ([]:AE)),(5,rv (.pointer (some ⟨b3,0,none⟩))),(6,rS σ.1)]) (λσ=>[.blk b3 (Al (Ac v i)) 95]) ?_ ?_
     ·rintro⟨cj,⟨hd,ha,hb⟩,⟨⟩⟩ hR;refine Bd (l':=[(0,Bo 4 (List.map Al v)),(4,rS ([]:AE)),(5,rv (.pointer (some ⟨b3,0,none⟩))),(6,rS hd),(7,rI .i64 ha),(8,rI .i64 hb)]) (H':=[.blk b3 (Al (Ac v i)) 95]) Aa Aa ?_;obtain⟨hj,rfl,hS,he,hf⟩:=Df hR;replace he:Ee F v i hh hd ha hb=some hS:=he;unfold Ee at he;refine Av (As (wm Aa (wv (Af B9 Aa BG Aa Aa) (wv (Ax (i:=0) BO Aa Aa Aa) (wv (Cm Aa Aa) (A0 (A2 (b:=decide (hb<((Ac v i).fN))) Aa (λhm=>?_) (λhm=>?_))))))))
      ·have hs:=AM hm he;refine A5 (Bb (Av (AV (Av (As (wm Aa (wv (C3 Aa Aa) (A0 (A2 (b:=decide (0<hb)) Aa (λhn=>?_) (λhn=>?_))))))))))
       ·have hT:=AM hn hs;refine Ao (wm Aa ?_);obtain⟨hU,ht⟩:=AA hT;refine wv (CL Aa Aa hU) (wa Aa (A0 (Av (As (wv (Af B9 Aa Gm Aa Aa) (wv (Ax (i:=0) Gp Aa Aa Aa) (wv (Bq Aa Aa) (A0 (A2 (b:=decide (((Ac v i).fKind)=6)) Aa (λc233=>?_) (λc233=>?_))))))))))
        ·have hV:=AM c233 ht;refine As (wm Aa (wm Aa (wm Aa ?_)));obtain⟨hW,hX⟩:=AA hV;refine wv (Ce (enc:=Al) (ys:=v) DW E1 Aa Aa hW) (wv (Bi B9 Aa Dq Aa Aa) (wv (Ci Dr Aa Aa) ?_));obtain⟨hu,hY,hZ⟩:=AX hX;refine Dw Tryz.call127 (Lp F ((Ac v ha).fStr) hu hY) Aa ?_;obtain⟨ga,gb⟩:=AA hZ;refine wv (CL Aa Aa ga) ?_;obtain⟨gc,gd⟩:=AA gb;refine wv (CL Aa Aa gc) (wa Aa (A0 (Ao (wm Aa ?_))));obtain⟨ge,gf⟩:=AA gd;refine wv (Bv Aa Aa ge) (wa Aa (BH (wm Aa (wm Aa (wm Aa ?_)))));obtain⟨hw,gg,gh⟩:=AX gf;refine Dw Pi (hi v (ha+1) hw gg) Aa ?_;obtain⟨gi,gj⟩:=AA gh;refine wv (CL Aa Aa gi) (wa Aa (A0 (Ao (wm Aa (wm Aa ?_)))));obtain⟨hx,gl,gm⟩:=AX gj;refine Dw IF (GN F v (ha+1) hx gl) Aa (wa Aa (Ap (Ba (Bb (Ao (wm Aa ?_))))));obtain⟨gp,gq⟩:=AA gm;refine wv (Bv Aa Aa gp) (wa Aa (Ap ?_));have gr:=Bx gq hf;exact Az (AJ (hj,((((hd++([44]:AE))++hu)++([58]:AE))++hw,hx,hb+1),()) ⟨gr,Zo _⟩ (AT.c Aa (AT.c5 Aa Aa Aa Aa Aa AT.nil)) (sC sN))
        ·have gs:=AN c233 ht;refine A5 (Bb (As (wm Aa (wm Aa (wm Aa ?_)))));obtain⟨hy,gt,gu⟩:=AX gs;refine Dw Pi (hi v ha hy gt) Aa ?_;obtain⟨gv,gw⟩:=AA gu;refine wv (CL Aa Aa gv) (wa Aa (A0 (Ao (wm Aa (wm Aa ?_)))));obtain⟨hz,gx,gy⟩:=AX gw;refine Dw IF (GN F v ha hz gx) Aa (wa Aa (Ap (Ba (Bb (Ao (wm Aa ?_))))));obtain⟨gz,g0⟩:=AA gy;refine wv (Bv Aa Aa gz) (wa Aa (Ap ?_));have g2:=Bx g0 hf;exact Az (AJ (hj,((hd++([44]:AE))++hy,hz,hb+1),()) ⟨g2,Zo _⟩ (AT.c Aa (AT.c5 Aa Aa Aa Aa Aa AT.nil)) (sC sN))
       ·have h0:=AN hn hs;refine A5 (Bb (Av (As (wv (Af B9 Aa Gm Aa Aa) (wv (Ax (i:=0) Gp Aa Aa Aa) (wv (Bq Aa Aa) (A0 (A2 (b:=decide (((Ac v i).fKind)=6)) Aa (λho=>?_) (λho=>?_)))))))))
        ·have g3:=AM ho h0;refine As (wm Aa (wm Aa (wm Aa ?_)));obtain⟨g4,g5⟩:=AA g3;refine wv (Ce (enc:=Al) (ys:=v) DW E1 Aa Aa g4) (wv (Bi B9 Aa Dq Aa Aa) (wv (Ci Dr Aa Aa) ?_));obtain⟨h1,g6,g7⟩:=AX g5;refine Dw Tryz.call127 (Lp F ((Ac v ha).fStr) h1 g6) Aa ?_;obtain⟨g8,g9⟩:=AA g7;refine wv (CL Aa Aa g8) ?_;obtain⟨gA,gB⟩:=AA g9;refine wv (CL Aa Aa gA) (wa Aa (A0 (Ao (wm Aa ?_))));obtain⟨gC,gD⟩:=AA gB;refine wv (Bv Aa Aa gC) (wa Aa (BH (wm Aa (wm Aa (wm Aa ?_)))));obtain⟨h3,gE,gF⟩:=AX gD;refine Dw Pi (hi v (ha+1) h3 gE) Aa ?_;obtain⟨gG,gH⟩:=AA gF;refine wv (CL Aa Aa gG) (wa Aa (A0 (Ao (wm Aa (wm Aa ?_)))));obtain⟨h4,gI,gJ⟩:=AX gH;refine Dw IF (GN F v (ha+1) h4 gI) Aa (wa Aa (Ap (Ba (Bb (Ao (wm Aa ?_))))));obtain⟨gK,gL⟩:=AA gJ;refine wv (Bv Aa Aa gK) (wa Aa (Ap ?_));have gM:=Bx gL hf;exact Az (AJ (hj,(((hd++h1)++([58]:AE))++h3,h4,hb+1),()) ⟨gM,Zo _⟩ (AT.c Aa (AT.c5 Aa Aa Aa Aa Aa AT.nil)) (sC sN))
        ·have gN:=AN ho h0;refine A5 (Bb (As (wm Aa (wm Aa (wm Aa ?_)))));obtain⟨h7,gO,gP⟩:=AX gN;refine Dw Pi (hi v ha h7 gO) Aa ?_;obtain⟨gQ,gR⟩:=AA gP;refine wv (CL Aa Aa gQ) (wa Aa (A0 (Ao (wm Aa (wm Aa ?_)))));obtain⟨h9,gS,gT⟩:=AX gR;refine Dw IF (GN F v ha h9 gS) Aa (wa Aa (Ap (Ba (Bb (Ao (wm Aa ?_))))));obtain⟨gU,gV⟩:=AA gT;refine wv (Bv Aa Aa gU) (wa Aa (Ap ?_));have gW:=Bx gV hf;exact Az (AJ (hj,(hd++h7,h9,hb+1),()) ⟨gW,Zo _⟩ (AT.c Aa (AT.c5 Aa Aa Aa Aa Aa AT.nil)) (sC sN))
      ·have gX:=AN hm he;refine B2 (A8 ?_);have gY:=Cn gX hf hQ;exact A8 (Bj (AJ (hd,()) gY (AT.c Aa (AT.c Aa (AT.c Aa AT.nil))) (sC sN)))
     ·rintro⟨hA,⟨⟩⟩ hg;refine C7 (l':=[(4,rS ([]:AE)),(5,rv (.pointer (some ⟨b3,0,none⟩))),(6,rS hA)]) (H':=[.blk b3 (Al (Ac v i)) 95]) Aa Aa ?_;replace hg:Hj v i hA=some r:=hg;unfold Hj at hg;refine Bh (Bb (Av (As (wv (Af B9 Aa Gm Aa Aa) (wv (Ax (i:=0) Gp Aa Aa Aa) (wv (Bq Aa Aa) (A0 (A2 (b:=decide (((Ac v i).fKind)=6)) Aa (λhp=>?_) (λhp=>?_)))))))))
      ·have gZ:=AM hp hg;refine As (wm Aa ?_);obtain⟨ca,cb⟩:=AA gZ;refine wv (CL Aa Aa ca) ?_;obtain⟨cc,cd⟩:=AA cb;refine wv (CL Aa Aa cc) (wa Aa (A0 (A1 (Am ?_))));obtain rfl:=A6 cd;exact A4 (B8 M4 (AW Aa)) (sS sN) ⟨Aa,Aa⟩
      ·have ce:=AN hp hg;refine A5 (Bb (As (wm Aa ?_)));obtain⟨cf,cg⟩:=AA ce;refine wv (CL Aa Aa cf) ?_;obtain⟨ch,ci⟩:=AA cg;refine wv (CL Aa Aa ch) (wa Aa (A0 (A1 ?_)));obtain rfl:=A6 ci;exact A4 (B8 M4 (AW Aa)) (sS sN) ⟨Aa,Aa⟩
theorem NC:∀F:Nat,(∀(v:(List Au)) (i:Int) (r:AE),GK F v i=some r→Fn Tryz.prog GE 107 [Bo 4 (List.map Al v),rI .i64 i] [] (λR H=>R=rS r∧H=[]))
  | 0=>(λ_ _ _ h=>by simp[GK] at h)
  | nn+1=>(λv i r h=>Us nn (GK nn) (NC nn) v i r (by rw[GK] at h;exact h))
theorem VX (F:Nat)(v:(List Au))(i:Int)(r:AE)(h:GK F v i=some r):Fn Tryz.prog GE 107 [Bo 4 (List.map Al v),rI .i64 i] [] (λR H=>R=rS r∧H=[]):=(NC F) v i r h
theorem Uz (F:Nat)(v:(List Au))(r:Int)(h:MR F v=some r):Fn Tryz.prog GE 85 [Bo 4 (List.map Al v)] [] (λR H=>R=rI .i64 r∧H=[]):=by
 refine enter (n:=61) Tryz.func85 Aa Tryz.ntmps85 Aa (λw Z=>?_);refine Bd (l':=[(0,Bo 4 (List.map Al v))]) (H':=[]) Aa Aa ?_;unfold MR at h;refine As (wv (r:=rI .i64 0) (Aj Aa) (A0 (Av (As (wm Aa ?_)))));obtain⟨r1,e3,h2⟩:=AX h;refine Dw Tryz.call105 (SZ F v r1 e3) Aa (wv (BW Aa) (A0 (A2 (b:=!r1) Aa (λc4=>?_) (λc4=>?_))))
 ·have h5:=AM c4 h2;refine As (wv (r:=rI .i64 1) (Aj Aa) (A0 (A1 (Am ?_))));obtain rfl:=A6 h5;exact A4 (B8 Sw (AW Aa)) sN ⟨Aa,Aa⟩
 ·have h6:=AN c4 h2;refine A5 (Bb (Av (As (wv (r:=rI .i64 0) (Aj Aa) (A0 (AV ?_))))));obtain⟨h1,h3,ht⟩:=AX h6;refine B6 (S:=Nat×(Int)×(Unit)) (V:=(Unit)×(Unit)) 0 (λσ=>BS (λσ=>Eu v σ) σ.1 σ.2.1=some h1) (λσ=>[(0,Bo 4 (List.map Al v)),(3,rI .i64 σ.2.1)]) (λσ=>[]) (λσ=>σ.1) (F,0,()) h3 (AT.c Aa (AT.c Aa AT.nil)) sN (λσ=>HS F v =some r) (λσ=>[(0,Bo 4 (List.map Al v))]) (λσ=>[]) ?_ ?_
  ·rintro⟨ge,hd,⟨⟩⟩ h4;refine Bd (l':=[(0,Bo 4 (List.map Al v)),(3,rI .i64 hd)]) (H':=[]) Aa Aa ?_;obtain⟨h7,rfl,t46,hf,hk⟩:=Df h4;replace hf:Eu v hd=some t46:=hf;unfold Eu at hf;refine Av (As (wm Aa (wm Aa (wv (BM (ys:=v) (enc:=Al) DW Aa) (wv (Cm Aa Aa) (A0 (A2 (b:=decide (hd<(v.length:Int))) Aa (λhl=>?_) (λhl=>?_))))))))
   ·have h8:=AM hl hf;refine A5 (Bb (Av (AV ?_)));obtain⟨hm,hu⟩:=AA h8;refine AD [(0,Bo 4 (List.map Al v)),(3,rI .i64 hd),(35,rB ((decide (((Ac v hd).fKind)=3))&&((decide (((Ac v hd).fInt)<(-1000000000000)))||(decide (1000000000000<((Ac v hd).fInt))))))] [] ?_ ?_
    ·refine Ao (wm Aa (wm Aa (wv (Ce (enc:=Al) (ys:=v) DW E1 Aa Aa hm) (wv (Bi B9 Aa Gm Aa Aa) (wv (Ci Gp Aa Aa) (wv (Bq Aa Aa) (wm Aa (AG (decide (((Ac v hd).fKind)=3)) (λha=>?_) (λha=>?_)))))))))
     ·refine wo ha (wm Aa (wo ha (wm Aa (wo ha (wv (Ce (enc:=Al) (ys:=v) DW E1 Aa Aa hm) (wo ha (wv (Bi B9 Aa BG Aa Aa) (wo ha (wv (Ci BO Aa Aa) (wo ha (wv (Cm Aa Aa) (wo ha (wm Aa (AG (decide (((Ac v hd).fInt)<(-1000000000000))) (λhb=>?_) (λhb=>?_)))))))))))))))
      ·refine wf hb (wf hb (wf hb (wf hb (wf hb (wf hb (wo ha (wv (r:=rB true) (Ar (b:=decide (((Ac v hd).fInt)<(-1000000000000))) Aa hb Aa) (ER Aa ha Aa (Ap ?_)))))))));exact BL (And.intro ha hb)
      ·refine wo hb (wm Aa (wo hb (wm Aa (wo hb (wv (Ce (enc:=Al) (ys:=v) DW E1 Aa Aa hm) (wo hb (wv (Bi B9 Aa BG Aa Aa) (wo hb (wv (Ci BO Aa Aa) (wo hb (wv (C3 Aa Aa) (wo ha (Dy Aa hb Aa (ER Aa ha Aa (Ap ?_)))))))))))))));exact BL (And.intro ha hb)
     ·refine wf ha (wf ha (wf ha (wf ha (wf ha (wf ha (wf ha (wu (wu (wu (wu (wu (wu (wf ha (wv (r:=rB false) (A7 (b:=decide (((Ac v hd).fKind)=3)) Aa ha Aa) (Ap ?_)))))))))))))));exact BL ha
    refine A2 (b:=((decide (((Ac v hd).fKind)=3))&&((decide (((Ac v hd).fInt)<(-1000000000000)))||(decide (1000000000000<((Ac v hd).fInt)))))) Aa (λhn=>?_) (λhn=>?_)
    ·have h9:=AM hn hu;refine As (wv (r:=rI .i64 2) (Aj Aa) (A0 (A1 (AK (Am (Am (Bw ?_)))))));have hA:=Cc h9 hk ht;refine AK (Am ?_);obtain rfl:=A6 hA;exact A4 (B8 Sw (AW Aa)) sN ⟨Aa,Aa⟩
    ·have hB:=AN hn hu;refine A5 (Ba (Bb (Ao (wm Aa ?_))));obtain⟨hC,hD⟩:=AA hB;refine wv (Bv Aa Aa hC) (wa Aa (Ap ?_));have hE:=Bx hD hk;exact Az (AJ (h7,hd+1,()) ⟨hE,Zo _⟩ (AT.c Aa (AT.c Aa AT.nil)) sN)
   ·have hG:=AN hl hf;refine B2 (A8 ?_);have hH:=Cn hG hk ht;exact A8 (Bj (AJ ((),()) hH (AT.c Aa AT.nil) sN))
  ·rintro⟨⟨⟩,⟨⟩⟩ hi;refine C7 (l':=[(0,Bo 4 (List.map Al v))]) (H':=[]) Aa Aa ?_;replace hi:HS F v =some r:=hi;unfold HS at hi;refine Bh (Bb (Av ?_));obtain⟨hI,hw⟩:=AA hi;refine AD [(0,Bo 4 (List.map Al v)),(43,rB ((decide (200<(v.length:Int)))||(decide (8<(ov (CI F v 0))))))] [] ?_ ?_
   ·refine Ao (wm Aa (wv (BM (ys:=v) (enc:=Al) DW Aa) (wv (C3 Aa Aa) (wm Aa (AG (decide (200<(v.length:Int))) (λhe=>?_) (λhe=>?_))))))
    ·refine wf he (wf he (wf he (wv (r:=rB true) (Ar (b:=decide (200<(v.length:Int))) Aa he Aa) (Ap ?_))));exact BL he
    ·refine wo he (wm Aa (wo he (Dw Tryz.call106 (SY F v 0 (ov (CI F v 0)) (EP (Ca hI he))) Aa (wo he (wv (C3 Aa Aa) (Dy Aa he Aa (Ap ?_)))))));exact BL he
   refine A2 (b:=((decide (200<(v.length:Int)))||(decide (8<(ov (CI F v 0)))))) Aa (λho=>?_) (λho=>?_)
   ·have hJ:=AM ho hw;refine As (wv (r:=rI .i64 3) (Aj Aa) (A0 (A1 (Am ?_))));obtain rfl:=A6 hJ;exact A4 (B8 Sw (AW Aa)) sN ⟨Aa,Aa⟩
   ·have hK:=AN ho hw;refine A5 (Bb (Av (As (wv (r:=rI .i64 0) (Aj Aa) (A0 (AV ?_))))));obtain⟨hL,hN,hx⟩:=AX hK;refine B6 (S:=Nat×(Int)×(Unit)) (V:=(Unit)×(Unit)) 2 (λσ=>BS (λσ=>Et v σ) σ.1 σ.2.1=some hL) (λσ=>[(0,Bo 4 (List.map Al v)),(4,rI .i64 σ.2.1)]) (λσ=>[]) (λσ=>σ.1) (F,0,()) hN (AT.c Aa (AT.c Aa AT.nil)) sN (λσ=>HR F v =some r) (λσ=>[(0,Bo 4 (List.map Al v))]) (λσ=>[]) ?_ ?_
    ·rintro⟨gf,hg,⟨⟩⟩ hO;refine Bd (l':=[(0,Bo 4 (List.map Al v)),(4,rI .i64 hg)]) (H':=[]) Aa Aa ?_;obtain⟨hP,rfl,hQ,hh,hp⟩:=Df hO;replace hh:Et v hg=some hQ:=hh;unfold Et at hh;refine Av (As (wm Aa (wm Aa (wv (BM (ys:=v) (enc:=Al) DW Aa) (wv (Cm Aa Aa) (A0 (A2 (b:=decide (hg<(v.length:Int))) Aa (λhq=>?_) (λhq=>?_))))))))
     ·have hR:=AM hq hh;refine A5 (Bb (Av (AV (As (wm Aa (wm Aa ?_))))));obtain⟨hS,hy⟩:=AA hR;refine wv (Ce (enc:=Al) (ys:=v) DW E1 Aa Aa hS) (wv (Bi B9 Aa Dq Aa Aa) (wv (Ci Dr Aa Aa) (wv (BJ Eo Aa) (wv (C3 Aa Aa) (A0 (A2 (b:=decide (200<(((Ac v hg).fStr).length:Int))) Aa (λhr=>?_) (λhr=>?_)))))))
      ·have hT:=AM hr hy;refine As (wv (r:=rI .i64 3) (Aj Aa) (A0 (A1 (AK (Am (Am (Bw ?_)))))));have hU:=Cc hT hp hx;refine AK (Am ?_);obtain rfl:=A6 hU;exact A4 (B8 Sw (AW Aa)) sN ⟨Aa,Aa⟩
      ·have hV:=AN hr hy;refine A5 (Ba (Bb (Ao (wm Aa ?_))));obtain⟨hW,hX⟩:=AA hV;refine wv (Bv Aa Aa hW) (wa Aa (Ap ?_));have hY:=Bx hX hp;exact Az (AJ (hP,hg+1,()) ⟨hY,Zo _⟩ (AT.c Aa (AT.c Aa AT.nil)) sN)
     ·have hZ:=AN hq hh;refine B2 (A8 ?_);have ga:=Cn hZ hp hx;exact A8 (Bj (AJ ((),()) ga (AT.c Aa AT.nil) sN))
    ·rintro⟨⟨⟩,⟨⟩⟩ hj;refine C7 (l':=[(0,Bo 4 (List.map Al v))]) (H':=[]) Aa Aa ?_;replace hj:HR F v =some r:=hj;unfold HR at hj;refine Bh (Bb (Av (As (wm Aa ?_))));obtain⟨hz,gb,h0⟩:=AX hj;refine Dw Pi (VX F v 0 hz gb) Aa (wv (BJ Eo Aa) (wv (C3 Aa Aa) (A0 (A2 (b:=decide (4000<(hz.length:Int))) Aa (λhs=>?_) (λhs=>?_)))))
     ·have gc:=AM hs h0;refine As (wv (r:=rI .i64 3) (Aj Aa) (A0 (A1 (Am ?_))));obtain rfl:=A6 gc;exact A4 (B8 Sw (AW Aa)) sN ⟨Aa,Aa⟩
     ·have gd:=AN hs h0;refine A5 (Bb (As (wv (r:=rI .i64 0) (Aj Aa) (A0 (A1 ?_)))));obtain rfl:=A6 gd;exact A4 (B8 Sw (AW Aa)) sN ⟨Aa,Aa⟩
end Go.Proofs.YthbbedliepkakaaGreatDoor.Q
namespace Go.Proofs.YthbbedliepkakaaGreatDoor
open Go
set_option linter.unusedVariables false
structure AF where
 fPairs:Bool
 fLeft:Int
 fKey:Bool
 fLast:AE
 fStarted:Bool
 deriving DecidableEq,Inhabited
structure AS where
 fDepth:Int
 fBytes:Int
 fOutside:Bool
 fLong:Bool
 deriving DecidableEq,Inhabited
def BC (n:Int):Option (Bool):=
 some ((decide ((-1000000000000)≤n))&&(decide (n≤1000000000000)))
def HJ (s:AE)(ha:Int):Option (Stp (Int) (Out (Bool) (Unit))):=
 B0 (decide (ha<(s.length:Int))) (Bn (C6 ha (s.length:Int))<|B0 (((decide ((Cr s ha)<32))||(decide (126<(Cr s ha))))) (some (.out (.ret false))) (Bn (BZ .i64 (ha+1))<|some (.next (ha+1)))) (some (.out (.go ())))
def HI :Option (Bool):=
 some true
def Ku (F:Nat)(s:AE):Option (Bool):=
 B7 (BS (λσ=>HJ s σ) F 0) (BP λν=>HI )
def Jl (s:AE):Option (Int):=
 Bn (BZ .i64 ((s.length:Int)+2))<|Bn (BZ .i64 (((s.length:Int)+2)+(Lib.countByte s 34:Int)))<|Bn (BZ .i64 ((((s.length:Int)+2)+(Lib.countByte s 34:Int))+(Lib.countByte s 92:Int)))<|some ((((s.length:Int)+2)+(Lib.countByte s 34:Int))+(Lib.countByte s 92:Int))
def M9 (F:Nat)(c:Au):Option (Bool):=
 B0 (decide (c.fKind=1)) (some ((decide (c.fInt=0))&&((decide (c.fStr=([]:AE)))&&(decide (c.fN=0))))) (B0 (decide (c.fKind=2)) (some (bif decide (c.fInt=0) then((decide (c.fStr=([]:AE)))&&(decide (c.fN=0))) else((decide (c.fInt=1))&&((decide (c.fStr=([]:AE)))&&(decide (c.fN=0)))))) (B0 (decide (c.fKind=3)) (some ((decide (c.fStr=([]:AE)))&&(decide (c.fN=0)))) (B0 (decide (c.fKind=4)) (Bn (imp (decide (c.fInt=0)) (imp (decide (c.fN=0)) ((Ku F c.fStr).isSome)))<|some ((decide (c.fInt=0))&&((decide (c.fN=0))&&(ov (Ku F c.fStr))))) (B0 (decide (c.fKind=5)) (some ((decide (c.fInt=0))&&((decide (c.fStr=([]:AE)))&&(decide (0≤c.fN))))) (B0 (decide (c.fKind=6)) (some ((decide (c.fInt=0))&&((decide (c.fStr=([]:AE)))&&(decide (0≤c.fN))))) (some false))))))
def Pn (c:Au):Option (Int):=
 B0 (decide (c.fKind=1)) (some 4) (B0 (decide (c.fKind=2)) (some (IntKind.wrap .i64 (5-c.fInt))) (B0 (decide (c.fKind=3)) (Bn (BZ .i64 c.fInt)<|some ((Lib.itoa c.fInt).length:Int)) (B0 (decide (c.fKind=4)) (B7 (Jl c.fStr) λha=>some ha) (some (IntKind.wrap .i64 (2+(max 0 (IntKind.wrap .i64 (c.fN-1)))))))))
def Ec (ha:(List AF)):Option (Stp ((List AF)) (Out ((List AF)) ((List AF)))):=
 B0 (decide (0<(ha.length:Int))) (Bn (BZ .i64 ((ha.length:Int)-1))<|Bn (C6 ((ha.length:Int)-1) (ha.length:Int))<|Bn (BZ .i64 (((Ac ha ((ha.length:Int)-1)).fLeft)-1))<|Mw (List.set ha (Int.toNat ((ha.length:Int)-1)) (AF.mk ((Ac ha ((ha.length:Int)-1)).fPairs) (((Ac ha ((ha.length:Int)-1)).fLeft)-1) ((Ac ha ((ha.length:Int)-1)).fKey) ((Ac ha ((ha.length:Int)-1)).fLast) ((Ac ha ((ha.length:Int)-1)).fStarted))) λhb=>B0 (decide (0<((Ac hb ((ha.length:Int)-1)).fLeft))) (Mw (List.set hb (Int.toNat ((ha.length:Int)-1)) (AF.mk ((Ac hb ((ha.length:Int)-1)).fPairs) ((Ac hb ((ha.length:Int)-1)).fLeft) ((Ac hb ((ha.length:Int)-1)).fPairs) ((Ac hb ((ha.length:Int)-1)).fLast) ((Ac hb ((ha.length:Int)-1)).fStarted))) λhd=>some (.out (.ret hd))) (Bn (BZ .i64 ((hb.length:Int)-1))<|Bn (Nf ((hb.length:Int)-1) (hb.length:Int))<|some (.next (List.take (Int.toNat ((hb.length:Int)-1)) hb)))) (some (.out (.go ha)))
def EB (ha:(List AF)):Option ((List AF)):=
 some ha
def Kx (F:Nat)(stack:(List AF)):Option ((List AF)):=
 B7 (BS (λσ=>Ec σ) F stack) (BP λν=>EB ν)
def E2 (ha:Int)(hb:(List AF))(hd:AS):Option (Stp ((List AF)×Int×AS) (Out (Int×AS×Bool) (AS))):=
 Bn (BZ .i64 (ha+1))<|some (.next (hb,ha+1,hd))
def Eb (F:Nat)(v:(List Au))(ha:(List AF))(hb:Int)(hd:AS):Option (Stp ((List AF)×Int×AS) (Out (Int×AS×Bool) (AS))):=
 B0 (decide (hb<(v.length:Int))) (Bn (C6 hb (v.length:Int))<|B7 (M9 F (Ac v hb)) λhj=>B0 (!hj) (some (.out (.ret (0,hd,false)))) (Bn (imp (decide (0<(ha.length:Int))) (BZ .i64 ((ha.length:Int)-1)))<|Bn (imp (decide (0<(ha.length:Int))) (C6 ((ha.length:Int)-1) (ha.length:Int)))<|B0 (((decide (0<(ha.length:Int)))&&((Ac ha ((ha.length:Int)-1)).fKey))) (Bn (BZ .i64 ((ha.length:Int)-1))<|Bn (C6 ((ha.length:Int)-1) (ha.length:Int))<|B0 (((!decide (((Ac v hb).fKind)=4))||(((Ac ha ((ha.length:Int)-1)).fStarted)&&(Cz ((Ac v hb).fStr) ((Ac ha ((ha.length:Int)-1)).fLast)||decide (((Ac v hb).fStr)=((Ac ha ((ha.length:Int)-1)).fLast)))))) (some (.out (.ret (0,hd,false)))) (Mw (List.set ha (Int.toNat ((ha.length:Int)-1)) (AF.mk ((Ac ha ((ha.length:Int)-1)).fPairs) ((Ac ha ((ha.length:Int)-1)).fLeft) ((Ac ha ((ha.length:Int)-1)).fKey) ((Ac v hb).fStr) ((Ac ha ((ha.length:Int)-1)).fStarted))) λhe=>Mw (List.set he (Int.toNat ((ha.length:Int)-1)) (AF.mk ((Ac he ((ha.length:Int)-1)).fPairs) ((Ac he ((ha.length:Int)-1)).fLeft) ((Ac he ((ha.length:Int)-1)).fKey) ((Ac he ((ha.length:Int)-1)).fLast) true)) λhf=>Mw (List.set hf (Int.toNat ((ha.length:Int)-1)) (AF.mk ((Ac hf ((ha.length:Int)-1)).fPairs) ((Ac hf ((ha.length:Int)-1)).fLeft) false ((Ac hf ((ha.length:Int)-1)).fLast) ((Ac hf ((ha.length:Int)-1)).fStarted))) λhk=>B7 (Jl ((Ac v hb).fStr)) λhh=>Bn (BZ .i64 (hh+1))<|E2 hb hk (AS.mk hd.fDepth (IntKind.wrap .i64 (hd.fBytes+(hh+1))) hd.fOutside (hd.fLong||(decide (200<(((Ac v hb).fStr).length:Int))))))) (Bn (BZ .i64 ((ha.length:Int)+1))<|B7 (Pn (Ac v hb)) λhg=>Bn (imp (!hd.fOutside) (imp (decide (((Ac v hb).fKind)=3)) ((BC ((Ac v hb).fInt)).isSome)))<|B0 (decide (0<((Ac v hb).fN))) (B0 (decide ((v.length:Int)<((Ac v hb).fN))) (some (.out (.ret (0,(AS.mk (max hd.fDepth ((ha.length:Int)+1)) (IntKind.wrap .i64 (hd.fBytes+hg)) (hd.fOutside||((decide (((Ac v hb).fKind)=3))&&(!(ov (BC ((Ac v hb).fInt)))))) (hd.fLong||(decide (200<(((Ac v hb).fStr).length:Int))))),false)))) (Bn (IB 48 (ha.length+([(AF.mk (decide (((Ac v hb).fKind)=6)) ((Ac v hb).fN) (decide (((Ac v hb).fKind)=6)) ([]:AE) false)]:List AF).length))<|E2 hb (ha++([(AF.mk (decide (((Ac v hb).fKind)=6)) ((Ac v hb).fN) (decide (((Ac v hb).fKind)=6)) ([]:AE) false)]:List AF)) (AS.mk (max hd.fDepth ((ha.length:Int)+1)) (IntKind.wrap .i64 (hd.fBytes+hg)) (hd.fOutside||((decide (((Ac v hb).fKind)=3))&&(!(ov (BC ((Ac v hb).fInt)))))) (hd.fLong||(decide (200<(((Ac v hb).fStr).length:Int))))))) (B7 (Kx F ha) λhi=>B0 (decide ((hi.length:Int)=0)) (Bn (BZ .i64 (hb+1))<|some (.out (.ret (hb+1,(AS.mk (max hd.fDepth ((ha.length:Int)+1)) (IntKind.wrap .i64 (hd.fBytes+hg)) (hd.fOutside||((decide (((Ac v hb).fKind)=3))&&(!(ov (BC ((Ac v hb).fInt)))))) (hd.fLong||(decide (200<(((Ac v hb).fStr).length:Int))))),true)))) (E2 hb hi (AS.mk (max hd.fDepth ((ha.length:Int)+1)) (IntKind.wrap .i64 (hd.fBytes+hg)) (hd.fOutside||((decide (((Ac v hb).fKind)=3))&&(!(ov (BC ((Ac v hb).fInt)))))) (hd.fLong||(decide (200<(((Ac v hb).fStr).length:Int)))))))))) (some (.out (.go hd)))
def Kv (ha:AS):Option (Int×AS×Bool):=
 some (0,ha,false)
def Kw (F:Nat)(v:(List Au)):Option (Int×AS×Bool):=
 B7 (BS (λσ=>Eb F v σ.1 σ.2.1 σ.2.2) F (([]:List AF),0,(AS.mk 0 0 false false))) (BP λν=>Kv ν)
def MB (F:Nat)(v:(List Au)):Option (Int):=
 B7 (Kw F v) λr1=>B0 (((!r1.2.2)||(!decide (r1.1=(v.length:Int))))) (some 1) (B0 (r1.2.1.fOutside) (some 2) (B0 ((r1.2.1.fLong||((decide (200<(v.length:Int)))||((decide (8<r1.2.1.fDepth))||(decide (4000<r1.2.1.fBytes)))))) (some 3) (some 0)))
end Go.Proofs.YthbbedliepkakaaGreatDoor
namespace Go.Proofs.YthbbedliepkakaaGreatDoor.Q
open Go Go.RowKit
set_option linter.unusedVariables false
set_option linter.unusedSimpArgs false
set_option maxRecDepth 100000
set_option maxHeartbeats 4000000
@[reducible] def AC (x:AF):List Rp:=[rB x.fPairs,rI .i64 x.fLeft,rB x.fKey,rS x.fLast,rB x.fStarted]
theorem I7 (x:AF):(AC x).length=5:=rfl
theorem Mb (x:AF):(AC x).all (·.one)=true:=rfl
@[reducible] def Bf (x:AS):List Rp:=[rI .i64 x.fDepth,rI .i64 x.fBytes,rB x.fOutside,rB x.fLong]
theorem Wt:∃inf,Tryz.prog.info? 147=some inf∧inf.zero=some (.agg #[(.bool false),(.int .i64 0),(.bool false),(.string ⟨#[]⟩),(.bool false)])∧inf.size=5∧inf.bytes=48:=by
  have key:(Tryz.prog.info? 147).map (λi=>(i.zero,i.size,i.bytes))=some (some (.agg #[(.bool false),(.int .i64 0),(.bool false),(.string ⟨#[]⟩),(.bool false)]),5,48):=by kernel_rfl
  obtain⟨inf,h1,h2⟩:=Option.map_eq_some_iff.1 key;simp only[Prod.mk.injEq] at h2;exact⟨inf,h1,h2.1,h2.2.1,h2.2.2⟩
theorem Vr (parts:List (Nat×Value)):Tryz.prog.built 147 parts=Instr.fill (λi=>(#[(0,1),(1,1),(2,1),(3,1),(4,1)]:Array (Nat×Nat))[i]?) #[(.bool false),(.int .i64 0),(.bool false),(.string ⟨#[]⟩),(.bool false)] parts:=by kernel_rfl
theorem Lx {n:Nat}{c:Cx}{l:Fr}{H:List Ent}{d:Option Nat}{ty:TypeId}{pos:String}{af:Array Edge}{g:Option (Nat×Bool)}{x0:Operand}{r0:Rp}(h0:ev l x0=some r0)(u0:r0.one=true){x1:Operand}{r1:Rp}(h1:ev l x1=some r1)(u1:r1.one=true){x2:Operand}{r2:Rp}(h2:ev l x2=some r2)(u2:r2.one=true):Br Tryz.prog n c l H { dst:=d,op:=.build 147 #[(0,x0),(1,x1),(2,x2)],type:=ty,pos:=pos,after:=af,guard:=g } (By [r0,r1,r2,rS ([]:AE),rB false]):=λa w Z ha _=>by
  have p0:=ha.ev h0;have c0:=BK (r0.hone u0 Z _ p0);have p1:=ha.ev h1;have c1:=BK (r1.hone u1 Z _ p1);have p2:=ha.ev h2;have c2:=BK (r2.hone u2 Z _ p2);have hb:Tryz.prog.built 147 [(0,a.eval x0),(1,a.eval x1),(2,a.eval x2)]=some #[a.eval x0,a.eval x1,a.eval x2,(.string ⟨#[]⟩),(.bool false)]:=by
    rw[Vr];generalize a.eval x0=v0 at *;generalize a.eval x1=v1 at *;generalize a.eval x2=v2 at *;simp[Instr.fill,c0,c1,c2]
  refine⟨.agg #[a.eval x0,a.eval x1,a.eval x2,(.string ⟨#[]⟩),(.bool false)],⟨[a.eval x0,a.eval x1,a.eval x2,(.string ⟨#[]⟩),(.bool false)],rfl,p0,p1,p2,rfl,rfl,trivial⟩,?_⟩;have:=run_build w 147 #[(0,a.eval x0),(1,a.eval x1),(2,a.eval x2)] _ (by simpa using hb);simp[execOp,this]
theorem UH (n:Int)(r:Bool)(h:BC n=some r):Fn Tryz.prog GE 103 [rI .i64 n] [] (λR H=>R=rB r∧H=[]):=by
 refine enter (n:=9) Tryz.func103 Aa Tryz.ntmps103 Aa (λw Z=>?_);refine Bd (l':=[(0,rI .i64 n)]) (H':=[]) Aa Aa ?_;unfold BC at h;refine As (wv (r:=rB false) (Aj Aa) (A0 (AD [(2,rB ((decide ((-1000000000000)≤n))&&(decide (n≤1000000000000))))] [] ?_ ?_)))
 ·refine Ao (wm Aa (wv (GG Aa Aa) (wm Aa (AG (decide ((-1000000000000)≤n)) (λc1=>?_) (λc1=>?_)))))
  ·refine wo c1 (wm Aa (wo c1 (wv (GG Aa Aa) (ER Aa c1 Aa (wa Aa (Ap ?_))))));exact BL c1
  ·refine wf c1 (wf c1 (wv (r:=rB false) (A7 (b:=decide ((-1000000000000)≤n)) Aa c1 Aa) (wa Aa (Ap ?_))));exact BL c1
 refine A1 ?_;obtain rfl:=A6 h;exact A4 (B8 Tryz.results103 (AW Aa)) sN ⟨Aa,Aa⟩
theorem VG (F:Nat)(s:AE)(r:Bool)(h:Ku F s=some r):Fn Tryz.prog GE 129 [rS s] [] (λR H=>R=rB r∧H=[]):=by
 refine enter (n:=20) Tryz.func129 Aa Tryz.ntmps129 Aa (λw Z=>?_);refine Bd (l':=[(0,rS s)]) (H':=[]) Aa Aa ?_;unfold Ku at h;refine As (wv (r:=rB false) (Aj Aa) (A0 (Av (As (wm Aa (wv (BJ Eo Aa) (wv (r:=rI .i64 0) (At Aa) (A0 (AV ?_)))))))));obtain⟨hl,hm,hi⟩:=AX h;refine B6 (S:=Nat×(Int)×(Unit)) (V:=(Unit)×(Unit)) 0 (λσ=>BS (λσ=>HJ s σ) σ.1 σ.2.1=some hl) (λσ=>[(0,rS s),(5,rI .i64 (s.length:Int)),(6,rI .i64 σ.2.1)]) (λσ=>[]) (λσ=>σ.1) (F,0,()) hm (AT.c Aa (AT.c Aa (AT.c Aa AT.nil))) sN (λσ=>HI =some r) (λσ=>[]) (λσ=>[]) ?_ ?_
 ·rintro⟨hz,hb,⟨⟩⟩ hn;refine Bd (l':=[(0,rS s),(5,rI .i64 (s.length:Int)),(6,rI .i64 hb)]) (H':=[]) Aa Aa ?_;obtain⟨ho,rfl,t37,hd,hf⟩:=Df hn;replace hd:HJ s hb=some t37:=hd;unfold HJ at hd;refine As (wv (Cm Aa Aa) (A0 (Av (A2 (b:=decide (hb<(s.length:Int))) Aa (λhg=>?_) (λhg=>?_)))))
  ·have hp:=AM hg hd;refine A5 (Bb (Av (AV (As (wm Aa (wa Aa (A0 ?_)))))));obtain⟨hj,hk⟩:=AA hp;refine AD [(0,rS s),(5,rI .i64 (s.length:Int)),(6,rI .i64 hb),(18,rB ((decide ((Cr s hb)<32))||(decide (126<(Cr s hb)))))] [] ?_ ?_
   ·refine Ao (wm Aa (wm Aa (wv (BT Eo Aa Aa hj) (wv (Cm Aa Aa) (wm Aa (AG (decide ((Cr s hb)<32)) (λha=>?_) (λha=>?_)))))))
    ·refine wf ha (wf ha (wf ha (wf ha (wv (r:=rB true) (Ar (b:=decide ((Cr s hb)<32)) Aa ha Aa) (Ap ?_)))));exact BL ha
    ·refine wo ha (wm Aa (wo ha (wm Aa (wo ha (wv (BT Eo Aa Aa hj) (wo ha (wv (C3 Aa Aa) (Dy Aa ha Aa (Ap ?_)))))))));exact BL ha
   refine A2 (b:=((decide ((Cr s hb)<32))||(decide (126<(Cr s hb))))) Aa (λhh=>?_) (λhh=>?_)
   ·have hq:=AM hh hk;refine As (wv (r:=rB false) (Aj Aa) (A0 (A1 (AK (Am (Am (Bw ?_)))))));have hr:=Cc hq hf hi;refine AK (Am ?_);obtain rfl:=A6 hr;exact A4 (B8 Tryz.results129 (AW Aa)) sN ⟨Aa,Aa⟩
   ·have hs:=AN hh hk;refine A5 (Ba (Bb (Ao ?_)));obtain⟨ht,hu⟩:=AA hs;refine wv (Bv Aa Aa ht) (wm Aa (Ap ?_));have hw:=Bx hu hf;exact Az (AJ (ho,hb+1,()) ⟨hw,Zo _⟩ (AT.c Aa (AT.c Aa (AT.c Aa AT.nil))) sN)
  ·have hx:=AN hg hd;refine B2 (A8 ?_);have hy:=Cn hx hf hi;exact A8 (Bj (AJ ((),()) hy AT.nil sN))
 ·rintro⟨⟨⟩,⟨⟩⟩ he;refine C7 (l':=[]) (H':=[]) Aa Aa ?_;replace he:HI =some r:=he;unfold HI at he;refine Bh (Bb (As (wv (r:=rB true) (Aj Aa) (A0 (A1 ?_)))));obtain rfl:=A6 he;exact A4 (B8 Tryz.results129 (AW Aa)) sN ⟨Aa,Aa⟩
theorem N4 (s:AE)(r:Int)(h:Jl s=some r):Fn Tryz.prog GE 112 [rS s] [] (λR H=>R=rI .i64 r∧H=[]):=by
 refine enter (n:=12) Tryz.func112 Aa Tryz.ntmps112 Aa (λw Z=>?_);refine Bd (l':=[(0,rS s)]) (H':=[]) Aa Aa ?_;unfold Jl at h;refine As (wv (r:=rI .i64 0) (Aj Aa) (BH (wm Aa (wv (BJ Eo Aa) ?_))));obtain⟨g1,h2⟩:=AA h;refine wv (Bv Aa Aa g1) (wm Aa (DS (rs:=[rS s,rS ([34]:AE)]) (r:=rI .i64 (Lib.countByte s 34:Int)) Tryz.call130 Aa (Si s 34) Aa Aa ?_));obtain⟨g3,h4⟩:=AA h2;refine wv (Bv Aa Aa g3) (wm Aa (DS (rs:=[rS s,rS ([92]:AE)]) (r:=rI .i64 (Lib.countByte s 92:Int)) Tryz.call130 Aa (Si s 92) Aa Aa ?_));obtain⟨g5,h6⟩:=AA h4;refine wv (Bv Aa Aa g5) (wa Aa (A0 (A1 ?_)));obtain rfl:=A6 h6;exact A4 (B8 Tryz.results112 (AW Aa)) sN ⟨Aa,Aa⟩
theorem TR (F:Nat)(c:Au)(r:Bool)(h:M9 F c=some r):Fn Tryz.prog GE 111 [By (Al c)] [] (λR H=>R=rB r∧H=[]):=by
 refine enter (n:=81) Tryz.func111 Aa Tryz.ntmps111 Aa (λw Z=>?_);refine Bd (l':=[(0,By (Al c))]) (H':=[]) Aa Aa ?_;unfold M9 at h;refine As (BF Aa Aa (λb1=>?_));refine wv (r:=rB false) (Aj Aa) (A0 (Av (As (wv (Af B9 Aa Gm Aa Aa) (wv (Ax (i:=0) Gp Aa Aa Aa) (A0 (AV (As (wv (Bq Aa Aa) (wa Aa (A0 (A2 (b:=decide (c.fKind=1)) Aa (λc2=>?_) (λc2=>?_)))))))))))))
 ·have h3:=AM c2 h;refine AD [(2,rB ((decide (c.fInt=0))&&((decide (c.fStr=([]:AE)))&&(decide (c.fN=0)))))] [] ?_ ?_
  ·refine Ao (wv (Af B9 Aa BG Aa Aa) (wv (Ax (i:=0) BO Aa Aa Aa) (wv (Bq Aa Aa) (wm Aa (AG (decide (c.fInt=0)) (λc4=>?_) (λc4=>?_))))))
   ·refine wo c4 (wv (Af B9 Aa Dq Aa Aa) (wo c4 (wv (Ax (i:=0) Dr Aa Aa Aa) (wo c4 (wv (D3 Aa Aa) (ER Aa c4 Aa (wm Aa (AG (decide (c.fStr=([]:AE))) (λc5=>?_) (λc5=>?_)))))))))
    ·refine wo c5 (wv (Af B9 Aa BG Aa Aa) (wo c5 (wv (Ax (i:=0) BO Aa Aa Aa) (wo c5 (wv (Bq Aa Aa) (ER Aa c5 Aa (wa Aa (Ap ?_))))))));exact BL (And.intro c4 c5)
    ·refine wf c5 (wf c5 (wf c5 (wv (r:=rB false) (A7 (b:=decide (c.fStr=([]:AE))) Aa c5 Aa) (wa Aa (Ap ?_)))));exact BL (And.intro c4 c5)
   ·refine wf c4 (wf c4 (wf c4 (wv (r:=rB false) (A7 (b:=decide (c.fInt=0)) Aa c4 Aa) (wm Aa (Ak (b:=false) Aa Aa Aa Aa (Ak (b:=false) Aa Aa Aa Aa (Ak (b:=false) Aa Aa Aa Aa (wv (r:=rB false) (A7 (b:=false) Aa Aa Aa) (wa Aa (Ap ?_))))))))));exact BL c4
  refine A1 (AK (Am ?_));obtain rfl:=A6 h3;exact A4 (B8 M3 (AW Aa)) sN ⟨Aa,Aa⟩
 ·have h6:=AN c2 h;refine As (wv (Bq Aa Aa) (wa Aa (A0 (A2 (b:=decide (c.fKind=2)) Aa (λc7=>?_) (λc7=>?_)))))
  ·have h8:=AM c7 h6;refine AD [(2,rB (bif decide (c.fInt=0) then((decide (c.fStr=([]:AE)))&&(decide (c.fN=0))) else((decide (c.fInt=1))&&((decide (c.fStr=([]:AE)))&&(decide (c.fN=0))))))] [] ?_ ?_
   ·refine Ao (wv (Af B9 Aa BG Aa Aa) (wv (Ax (i:=0) BO Aa Aa Aa) (wv (Bq Aa Aa) (wm Aa (AG (decide (c.fInt=0)) (λc9=>?_) (λc9=>?_))))))
    ·refine wf c9 (wf c9 (wf c9 (wv (r:=rB true) (Ar (b:=decide (c.fInt=0)) Aa c9 Aa) (wm Aa (Be (b:=true) Aa Aa Aa (wv (Af B9 Aa Dq Aa Aa) (Be (b:=true) Aa Aa Aa (wv (Ax (i:=0) Dr Aa Aa Aa) (Be (b:=true) Aa Aa Aa (wv (D3 Aa Aa) (wv (r:=rB (decide (c.fStr=([]:AE)))) (Ar (b:=true) Aa Aa Aa) (wm Aa (AG (decide (c.fStr=([]:AE))) (λhg=>?_) (λhg=>?_))))))))))))))
     ·refine wo hg (wv (Af B9 Aa BG Aa Aa) (wo hg (wv (Ax (i:=0) BO Aa Aa Aa) (wo hg (wv (Bq Aa Aa) (ER Aa hg Aa (wa Aa (Ap ?_))))))));exact BL (And.intro c9 hg)
     ·refine wf hg (wf hg (wf hg (wv (r:=rB false) (A7 (b:=decide (c.fStr=([]:AE))) Aa hg Aa) (wa Aa (Ap ?_)))));exact BL (And.intro c9 hg)
    ·refine wo c9 (wv (Af B9 Aa BG Aa Aa) (wo c9 (wv (Ax (i:=0) BO Aa Aa Aa) (wo c9 (wv (Bq Aa Aa) (Dy Aa c9 Aa (wm Aa (AG (decide (c.fInt=1)) (λhb=>?_) (λhb=>?_)))))))))
     ·refine wo hb (wv (Af B9 Aa Dq Aa Aa) (wo hb (wv (Ax (i:=0) Dr Aa Aa Aa) (wo hb (wv (D3 Aa Aa) (ER Aa hb Aa (wm Aa (AG (decide (c.fStr=([]:AE))) (λhh=>?_) (λhh=>?_)))))))))
      ·refine wo hh (wv (Af B9 Aa BG Aa Aa) (wo hh (wv (Ax (i:=0) BO Aa Aa Aa) (wo hh (wv (Bq Aa Aa) (ER Aa hh Aa (wa Aa (Ap ?_))))))));exact BL (And.intro c9 (And.intro hb hh))
      ·refine wf hh (wf hh (wf hh (wv (r:=rB false) (A7 (b:=decide (c.fStr=([]:AE))) Aa hh Aa) (wa Aa (Ap ?_)))));exact BL (And.intro c9 (And.intro hb hh))
     ·refine wf hb (wf hb (wf hb (wv (r:=rB false) (A7 (b:=decide (c.fInt=1)) Aa hb Aa) (wm Aa (Ak (b:=false) Aa Aa Aa Aa (Ak (b:=false) Aa Aa Aa Aa (Ak (b:=false) Aa Aa Aa Aa (wv (r:=rB false) (A7 (b:=false) Aa Aa Aa) (wa Aa (Ap ?_))))))))));exact BL (And.intro c9 hb)
   refine A1 (AK (Am ?_));obtain rfl:=A6 h8;exact A4 (B8 M3 (AW Aa)) sN ⟨Aa,Aa⟩
  ·have hp:=AN c7 h6;refine As (wv (Bq Aa Aa) (wa Aa (A0 (A2 (b:=decide (c.fKind=3)) Aa (λhm=>?_) (λhm=>?_)))))
   ·have ht:=AM hm hp;refine AD [(2,rB ((decide (c.fStr=([]:AE)))&&(decide (c.fN=0))))] [] ?_ ?_
    ·refine Ao (wv (Af B9 Aa Dq Aa Aa) (wv (Ax (i:=0) Dr Aa Aa Aa) (wv (D3 Aa Aa) (wm Aa (AG (decide (c.fStr=([]:AE))) (λhi=>?_) (λhi=>?_))))))
     ·refine wo hi (wv (Af B9 Aa BG Aa Aa) (wo hi (wv (Ax (i:=0) BO Aa Aa Aa) (wo hi (wv (Bq Aa Aa) (ER Aa hi Aa (wa Aa (Ap ?_))))))));exact BL hi
     ·refine wf hi (wf hi (wf hi (wv (r:=rB false) (A7 (b:=decide (c.fStr=([]:AE))) Aa hi Aa) (wa Aa (Ap ?_)))));exact BL hi
    refine A1 (AK (Am ?_));obtain rfl:=A6 ht;exact A4 (B8 M3 (AW Aa)) sN ⟨Aa,Aa⟩
   ·have hq:=AN hm hp;refine As (wv (Bq Aa Aa) (wa Aa (A0 (A2 (b:=decide (c.fKind=4)) Aa (λhn=>?_) (λhn=>?_)))))
    ·have hu:=AM hn hq;obtain⟨hw,hx⟩:=AA hu;refine AD [(2,rB ((decide (c.fInt=0))&&((decide (c.fN=0))&&(ov (Ku F c.fStr)))))] [] ?_ ?_
     ·refine Ao (wv (Af B9 Aa BG Aa Aa) (wv (Ax (i:=0) BO Aa Aa Aa) (wv (Bq Aa Aa) (wm Aa (AG (decide (c.fInt=0)) (λha=>?_) (λha=>?_))))))
      ·refine wo ha (wv (Af B9 Aa BG Aa Aa) (wo ha (wv (Ax (i:=0) BO Aa Aa Aa) (wo ha (wv (Bq Aa Aa) (ER Aa ha Aa (wm Aa (AG (decide (c.fN=0)) (λhd=>?_) (λhd=>?_)))))))))
       ·refine wo hd (wv (Af B9 Aa Dq Aa Aa) (wo hd (wv (Ax (i:=0) Dr Aa Aa Aa) (wo hd (Dw Tryz.call129 (VG F c.fStr (ov (Ku F c.fStr)) (EP (CA (CA hw ha) hd))) Aa (ER Aa hd Aa (wa Aa (Ap ?_))))))));exact BL (And.intro ha hd)
       ·refine wf hd (wf hd (wf hd (wv (r:=rB false) (A7 (b:=decide (c.fN=0)) Aa hd Aa) (wa Aa (Ap ?_)))));exact BL (And.intro ha hd)
      ·refine wf ha (wf ha (wf ha (wv (r:=rB false) (A7 (b:=decide (c.fInt=0)) Aa ha Aa) (wm Aa (Ak (b:=false) Aa Aa Aa Aa (Ak (b:=false) Aa Aa Aa Aa (Ak (b:=false) Aa Aa Aa Aa (wv (r:=rB false) (A7 (b:=false) Aa Aa Aa) (wa Aa (Ap ?_))))))))));exact BL ha
     refine A1 (AK (Am ?_));obtain rfl:=A6 hx;exact A4 (B8 M3 (AW Aa)) sN ⟨Aa,Aa⟩
    ·have hr:=AN hn hq;refine Av (As (wv (Bq Aa Aa) (wa Aa (A0 (A2 (b:=decide (c.fKind=5)) Aa (λhl=>?_) (λhl=>?_))))))
     ·have hy:=AM hl hr;refine A5 (Bb (CW Aa hl (AD [(2,rB ((decide (c.fInt=0))&&((decide (c.fStr=([]:AE)))&&(decide (0≤c.fN)))))] [] ?_ ?_)))
      ·refine Ao (wv (Af B9 Aa BG Aa Aa) (wv (Ax (i:=0) BO Aa Aa Aa) (wv (Bq Aa Aa) (wm Aa (AG (decide (c.fInt=0)) (λhe=>?_) (λhe=>?_))))))
       ·refine wo he (wv (Af B9 Aa Dq Aa Aa) (wo he (wv (Ax (i:=0) Dr Aa Aa Aa) (wo he (wv (D3 Aa Aa) (ER Aa he Aa (wm Aa (AG (decide (c.fStr=([]:AE))) (λhj=>?_) (λhj=>?_)))))))))
        ·refine wo hj (wv (Af B9 Aa BG Aa Aa) (wo hj (wv (Ax (i:=0) BO Aa Aa Aa) (wo hj (wv (Gk Aa Aa) (ER Aa hj Aa (wa Aa (Ap ?_))))))));exact BL (And.intro he hj)
        ·refine wf hj (wf hj (wf hj (wv (r:=rB false) (A7 (b:=decide (c.fStr=([]:AE))) Aa hj Aa) (wa Aa (Ap ?_)))));exact BL (And.intro he hj)
       ·refine wf he (wf he (wf he (wv (r:=rB false) (A7 (b:=decide (c.fInt=0)) Aa he Aa) (wm Aa (Ak (b:=false) Aa Aa Aa Aa (Ak (b:=false) Aa Aa Aa Aa (Ak (b:=false) Aa Aa Aa Aa (wv (r:=rB false) (A7 (b:=false) Aa Aa Aa) (wa Aa (Ap ?_))))))))));exact BL he
      refine A1 (AK (Am ?_));obtain rfl:=A6 hy;exact A4 (B8 M3 (AW Aa)) sN ⟨Aa,Aa⟩
     ·have hs:=AN hl hr;refine Ao (wv (Bq Aa Aa) (wa Aa (A0 (A2 (b:=decide (c.fKind=6)) Aa (λho=>?_) (λho=>?_)))))
      ·have hz:=AM ho hs;refine AD [(2,rB ((decide (c.fInt=0))&&((decide (c.fStr=([]:AE)))&&(decide (0≤c.fN)))))] [] ?_ ?_
       ·refine Ao (wv (Af B9 Aa BG Aa Aa) (wv (Ax (i:=0) BO Aa Aa Aa) (wv (Bq Aa Aa) (wm Aa (AG (decide (c.fInt=0)) (λhf=>?_) (λhf=>?_))))))
        ·refine wo hf (wv (Af B9 Aa Dq Aa Aa) (wo hf (wv (Ax (i:=0) Dr Aa Aa Aa) (wo hf (wv (D3 Aa Aa) (ER Aa hf Aa (wm Aa (AG (decide (c.fStr=([]:AE))) (λhk=>?_) (λhk=>?_)))))))))
         ·refine wo hk (wv (Af B9 Aa BG Aa Aa) (wo hk (wv (Ax (i:=0) BO Aa Aa Aa) (wo hk (wv (Gk Aa Aa) (ER Aa hk Aa (wa Aa (Ap ?_))))))));exact BL (And.intro hf hk)
         ·refine wf hk (wf hk (wf hk (wv (r:=rB false) (A7 (b:=decide (c.fStr=([]:AE))) Aa hk Aa) (wa Aa (Ap ?_)))));exact BL (And.intro hf hk)
        ·refine wf hf (wf hf (wf hf (wv (r:=rB false) (A7 (b:=decide (c.fInt=0)) Aa hf Aa) (wm Aa (Ak (b:=false) Aa Aa Aa Aa (Ak (b:=false) Aa Aa Aa Aa (Ak (b:=false) Aa Aa Aa Aa (wv (r:=rB false) (A7 (b:=false) Aa Aa Aa) (wa Aa (Ap ?_))))))))));exact BL hf
       refine A1 (AK (Am ?_));obtain rfl:=A6 hz;exact A4 (B8 M3 (AW Aa)) sN ⟨Aa,Aa⟩
      ·have h0:=AN ho hs;refine A5 (Ba (Bb (As (wv (r:=rB false) (Aj Aa) (A0 (A1 ?_))))));obtain rfl:=A6 h0;exact A4 (B8 M3 (AW Aa)) (sS sN) ⟨Aa,Aa⟩
theorem VH (c:Au)(r:Int)(h:Pn c=some r):Fn Tryz.prog GE 113 [By (Al c)] [] (λR H=>R=rI .i64 r∧H=[]):=by
 refine enter (n:=28) Tryz.func113 Aa Tryz.ntmps113 Aa (λw Z=>?_);refine Bd (l':=[(0,By (Al c))]) (H':=[]) Aa Aa ?_;unfold Pn at h;refine As (BF Aa Aa (λb1=>?_));refine wv (r:=rI .i64 0) (Aj Aa) (A0 (Av (As (wv (Af B9 Aa Gm Aa Aa) (wv (Ax (i:=0) Gp Aa Aa Aa) (A0 (AV (As (wv (Bq Aa Aa) (wa Aa (A0 (A2 (b:=decide (c.fKind=1)) Aa (λc2=>?_) (λc2=>?_)))))))))))))
 ·have h3:=AM c2 h;refine As (wv (r:=rI .i64 4) (Aj Aa) (A0 (A1 (AK (Am ?_)))));obtain rfl:=A6 h3;exact A4 (B8 Ph (AW Aa)) (sS sN) ⟨Aa,Aa⟩
 ·have h4:=AN c2 h;refine As (wv (Bq Aa Aa) (wa Aa (A0 (A2 (b:=decide (c.fKind=2)) Aa (λc5=>?_) (λc5=>?_)))))
  ·have h6:=AM c5 h4;refine As (wv (Af B9 Aa BG Aa Aa) (wv (Ax (i:=0) BO Aa Aa Aa) (wv (r:=rI .i64 (IntKind.wrap .i64 (5-c.fInt))) (UB Aa Aa) (wa Aa (A0 (A1 (AK (Am ?_))))))));obtain rfl:=A6 h6;exact A4 (B8 Ph (AW Aa)) (sS sN) ⟨Aa,Aa⟩
  ·have h7:=AN c5 h4;refine As (wv (Bq Aa Aa) (wa Aa (A0 (A2 (b:=decide (c.fKind=3)) Aa (λc8=>?_) (λc8=>?_)))))
   ·have h9:=AM c8 h7;refine As (wv (Af B9 Aa BG Aa Aa) (wv (Ax (i:=0) BO Aa Aa Aa) ?_));obtain⟨hd,he⟩:=AA h9;refine DS (rs:=[rI .i64 c.fInt]) (r:=rS (Lib.itoa c.fInt)) Tryz.call65 Aa (Qi c.fInt hd) Aa Aa (wv (BJ Eo Aa) (wa Aa (A0 (A1 (AK (Am ?_))))));obtain rfl:=A6 he;exact A4 (B8 Ph (AW Aa)) (sS sN) ⟨Aa,Aa⟩
   ·have hb:=AN c8 h7;refine As (wv (Bq Aa Aa) (wa Aa (A0 (A2 (b:=decide (c.fKind=4)) Aa (λha=>?_) (λha=>?_)))))
    ·have hf:=AM ha hb;refine As (wv (Af B9 Aa Dq Aa Aa) (wv (Ax (i:=0) Dr Aa Aa Aa) ?_));obtain⟨hg,hh,hi⟩:=AX hf;refine Dw Tryz.call112 (N4 c.fStr hg hh) Aa (wa Aa (A0 (A1 (AK (Am ?_)))));obtain rfl:=A6 hi;exact A4 (B8 Ph (AW Aa)) (sS sN) ⟨Aa,Aa⟩
    ·have hj:=AN ha hb;refine A5 (Ba (Bb (As (wv (Af B9 Aa BG Aa Aa) (wv (Ax (i:=0) BO Aa Aa Aa) (wv (r:=rI .i64 (IntKind.wrap .i64 (c.fN-1))) (UB Aa Aa) (wv (WY Yy Aa Aa) (wv (r:=rI .i64 (IntKind.wrap .i64 (2+(max 0 (IntKind.wrap .i64 (c.fN-1)))))) (Rj Aa Aa) (wa Aa (A0 (A1 ?_)))))))))));obtain rfl:=A6 hj;exact A4 (B8 Ph (AW Aa)) (sS sN) ⟨Aa,Aa⟩
theorem S7 (F:Nat)(hg:Value)(stack:(List AF))(r:(List AF))(h:Kx F stack=some r):Fn Tryz.prog GE 114 [rv hg] [.row hg 147 5 (List.map AC stack)] (λR H=>∃u0:Value,R=rv u0∧H=[.row u0 147 5 (List.map AC r)]):=by
 refine enter (n:=38) Tryz.func114 Aa Tryz.ntmps114 Aa (λw Z=>?_);refine Bd (l':=[(0,rv hg)]) (H':=[.row hg 147 5 (List.map AC stack)]) Aa Aa ?_;unfold Kx at h;refine As (wv (r:=rv (.slice none 0 0)) (Aj Aa) (A0 (Av (AV ?_))));obtain⟨hq,hr,hn⟩:=AX h;refine B6 (S:=Nat×((List AF))×(Value)) (V:=((List AF))×(Value)) 0 (λσ=>BS (λσ=>Ec σ) σ.1 σ.2.1=some hq) (λσ=>[(0,rv σ.2.2),(2,rv (.slice none 0 0))]) (λσ=>[.row σ.2.2 147 5 (List.map AC σ.2.1)]) (λσ=>σ.1) (F,stack,hg) hr (AT.c Aa (AT.c Aa AT.nil)) (sC sN) (λσ=>EB σ.1=some r) (λσ=>[(0,rv σ.2),(2,rv (.slice none 0 0))]) (λσ=>[.row σ.2 147 5 (List.map AC σ.1)]) ?_ ?_
 ·rintro⟨hG,ha,hd⟩ hs;refine Bd (l':=[(0,rv hd),(2,rv (.slice none 0 0))]) (H':=[.row hd 147 5 (List.map AC ha)]) Aa Aa ?_;obtain⟨ht,rfl,hu,hh,hj⟩:=Df hs;replace hh:Ec ha=some hu:=hh;unfold Ec at hh;refine Av (As (wm Aa (wv (BN (ys:=ha) (enc:=AC) (i:=0) I1 Aa Aa) (wv (C3 Aa Aa) (A0 (A2 (b:=decide (0<(ha.length:Int))) Aa (λhk=>?_) (λhk=>?_)))))))
  ·have hw:=AM hk hh;refine A5 (Bb (AV (As (wm Aa (wm Aa (wv (BN (ys:=ha) (enc:=AC) (i:=0) I1 Aa Aa) ?_))))));obtain⟨hx,hy⟩:=AA hw;refine wv (KK Aa Aa hx) ?_;obtain⟨he,hz⟩:=AA hy;refine wv (r:=rv (DA 5 hd (Int.toNat ((ha.length:Int)-1)) 0)) (CG (i:=0) I1 Pg Aa Aa Aa (Bl he)) (wa Aa (BH (wm Aa (wv (r:=rv (DA 5 hd (Int.toNat ((ha.length:Int)-1)) 0)) (Cy (k:=0) Aa (Bl he) Aa Aa) (wv (r:=rv (DA 5 hd (Int.toNat ((ha.length:Int)-1)) 1)) (Dk (k:=0) I0 Aa BG Aa (Bl he) Aa Aa Aa) (wv (r:=rI .i64 ((Ac ha ((ha.length:Int)-1)).fLeft)) (Gd (enc:=AC) (ys:=ha) (i:=0) (j:=(ha.length:Int)-1) BO Aa Aa he Aa) ?_))))));obtain⟨h0,h1⟩:=AA hz;refine wv (KK Aa Aa h0) (wv (r:=rv (DA 5 hd (Int.toNat ((ha.length:Int)-1)) 0)) (Cy (k:=0) Aa (Bl he) Aa Aa) (wv (r:=rv (DA 5 hd (Int.toNat ((ha.length:Int)-1)) 1)) (Dk (k:=0) I0 Aa BG Aa (Bl he) Aa Aa Aa) (Ij (enc:=AC) (ys:=ha) (y':=(AF.mk ((Ac ha ((ha.length:Int)-1)).fPairs) (((Ac ha ((ha.length:Int)-1)).fLeft)-1) ((Ac ha ((ha.length:Int)-1)).fKey) ((Ac ha ((ha.length:Int)-1)).fLast) ((Ac ha ((ha.length:Int)-1)).fStarted))) (i:=0) (j:=(ha.length:Int)-1) BG Aa Aa (Cj Aa) Aa he Aa Aa (H':=[.row hd 147 5 (List.map AC (List.set ha (Int.toNat ((ha.length:Int)-1)) (AF.mk ((Ac ha ((ha.length:Int)-1)).fPairs) (((Ac ha ((ha.length:Int)-1)).fLeft)-1) ((Ac ha ((ha.length:Int)-1)).fKey) ((Ac ha ((ha.length:Int)-1)).fLast) ((Ac ha ((ha.length:Int)-1)).fStarted))))]) Aa ?_)));obtain⟨hb,hf,ho⟩:=Ic h1;rw[← hf];refine A0 (Av (As (wm Aa (wv (r:=rv (DA 5 hd (Int.toNat ((ha.length:Int)-1)) 0)) (Cy (k:=0) Aa (Bl (Dg he hf)) Aa Aa) (wv (r:=rv (DA 5 hd (Int.toNat ((ha.length:Int)-1)) 1)) (Dk (k:=0) I0 Aa BG Aa (Bl (Dg he hf)) Aa Aa Aa) (wv (r:=rI .i64 ((Ac hb ((ha.length:Int)-1)).fLeft)) (Gd (enc:=AC) (ys:=hb) (i:=0) (j:=(ha.length:Int)-1) BO Aa Aa (Dg he hf) Aa) (wv (C3 Aa Aa) (A0 (A2 (b:=decide (0<((Ac hb ((ha.length:Int)-1)).fLeft))) Aa (λhl=>?_) (λhl=>?_))))))))))
   ·have h2:=AM hl ho;refine As (wm Aa (wm Aa (wv (r:=rv (DA 5 hd (Int.toNat ((ha.length:Int)-1)) 0)) (Cy (k:=0) Aa (Bl (Dg he hf)) Aa Aa) (wv (r:=rv (DA 5 hd (Int.toNat ((ha.length:Int)-1)) 0)) (Dk (k:=0) I0 Aa Id Aa (Bl (Dg he hf)) Aa Aa Aa) (wv (r:=rB ((Ac hb ((ha.length:Int)-1)).fPairs)) (Gd (enc:=AC) (ys:=hb) (i:=0) (j:=(ha.length:Int)-1) TF Aa Aa (Dg he hf) Aa) (wv (r:=rv (DA 5 hd (Int.toNat ((ha.length:Int)-1)) 0)) (Cy (k:=0) Aa (Bl (Dg he hf)) Aa Aa) (wv (r:=rv (DA 5 hd (Int.toNat ((ha.length:Int)-1)) 2)) (Dk (k:=0) I0 Aa Id Aa (Bl (Dg he hf)) Aa Aa Aa) (Ij (enc:=AC) (ys:=hb) (y':=(AF.mk ((Ac hb ((ha.length:Int)-1)).fPairs) ((Ac hb ((ha.length:Int)-1)).fLeft) ((Ac hb ((ha.length:Int)-1)).fPairs) ((Ac hb ((ha.length:Int)-1)).fLast) ((Ac hb ((ha.length:Int)-1)).fStarted))) (i:=0) (j:=(ha.length:Int)-1) Id Aa Aa (Cj Aa) Aa (Dg he hf) Aa Aa (H':=[.row hd 147 5 (List.map AC (List.set hb (Int.toNat ((ha.length:Int)-1)) (AF.mk ((Ac hb ((ha.length:Int)-1)).fPairs) ((Ac hb ((ha.length:Int)-1)).fLeft) ((Ac hb ((ha.length:Int)-1)).fPairs) ((Ac hb ((ha.length:Int)-1)).fLast) ((Ac hb ((ha.length:Int)-1)).fStarted))))]) Aa ?_))))))));obtain⟨hH,h3,h4⟩:=Ic h2;rw[← h3];refine BH (wm Aa (wa Aa (A0 (A1 (Am (AK (Am (Bw ?_))))))));have h5:=Cc h4 hj hn;refine AK (Am ?_);obtain rfl:=A6 h5;exact A4 (B8 Tryz.results114 (AW Aa)) (sC sN) ⟨hd,Aa,Aa⟩
   ·have h6:=AN hl ho;refine A5 (Bb (Ao (wm Aa (wm Aa (wv (BN (ys:=hb) (enc:=AC) (i:=0) I1 Aa Aa) ?_)))));obtain⟨h7,h8⟩:=AA h6;refine wv (KK Aa Aa h7) ?_;obtain⟨h9,hA⟩:=AA h8;refine XU (i:=0) I1 Pg Aa Aa Aa h9 Aa (λhB=>?_);refine wa Aa (Ap (Ba ?_));have hC:=Bx hA hj;exact Az (AJ (ht,List.take (Int.toNat ((hb.length:Int)-1)) hb,hB) ⟨hC,Zo _⟩ (AT.c Aa (AT.c Aa AT.nil)) (sC sN))
  ·have hD:=AN hk hh;refine B2 (A8 ?_);have hE:=Cn hD hj hn;exact A8 (Bj (AJ (ha,hd) hE (AT.c Aa (AT.c Aa AT.nil)) (sC sN)))
 ·rintro⟨hp,hm⟩ hi;refine C7 (l':=[(0,rv hm),(2,rv (.slice none 0 0))]) (H':=[.row hm 147 5 (List.map AC hp)]) Aa Aa ?_;replace hi:EB hp=some r:=hi;unfold EB at hi;refine Bh (Bb (As (wm Aa (wa Aa (A0 (A1 ?_))))));obtain rfl:=A6 hi;exact A4 (B8 Tryz.results114 (AW Aa)) (sC sN) ⟨hm,Aa,Aa⟩
theorem VI (F:Nat)(v:(List Au))(r:Int×AS×Bool)(h:Kw F v=some r):Fn Tryz.prog GE 88 [Bo 4 (List.map Al v)] [] (λR H=>R=DY [rI .i64 r.1,By (Bf r.2.1),rB r.2.2]∧H=[]):=by
 refine enter (n:=152) Tryz.func88 Aa Tryz.ntmps88 Aa (λw Z=>?_);refine Bd (l':=[(0,Bo 4 (List.map Al v))]) (H':=[]) Aa Aa ?_;unfold Kw at h;refine As (wv (r:=rI .i64 0) (Aj Aa) (Dn (cs:=[rI .i64 0,rI .i64 0,rB false,rB false]) Tryz.zeroValue121 Aa Aa (λb1=>?_)));refine wv (r:=rB false) (Aj Aa) (A0 (TN (As (Dn (cs:=[rI .i64 0,rI .i64 0,rB false,rB false]) Tryz.zeroValue121 Aa Aa (λb2=>?_)))));refine BH (wv (r:=rv (.slice none 0 0)) (Aj Aa) (A0 (Av (TO (Bb (Av (As (wm Aa (wv (BM (ys:=v) (enc:=Al) DW Aa) (wv (r:=rI .i64 0) (At Aa) (A0 (AV (WC.nilrow (e:=147) (sz:=5) (EV (H2:=[.blk b2 [rI .i64 0,rI .i64 0,rB false,rB false] 121,.blk b1 [rI .i64 0,rI .i64 0,rB false,rB false] 121,.row (.slice none 0 0                                                                                                                                                   ) 147 5 (List.map AC ([]:List AF))]) ((Ah (i:=1) Aa).trans (YY _ ((Ah (i:=1) Aa).trans (YY _ (Zb _))))) ?_))))))))))))));obtain⟨hQ,hR,hy⟩:=AX h;refine B6 (S:=Nat×((List AF)×Int×AS)×(Value)) (V:=(AS)×(Unit)) 0 (λσ=>BS (λσ=>Eb F v σ.1 σ.2.1 σ.2.2) σ.1 σ.2.1=some hQ) (λσ=>[(0,Bo 4 (List.map Al v)),(3,rv (.pointer (some ⟨b1,0,none⟩))),(5,rv (.pointer (some ⟨b2,0,none⟩))),(6,rv σ.2.2),(11,Bo 4 (List.map Al v)),(12,rI .i64 (v.length:Int)),(13,rI .i64 σ.2.1.2.1)]) (λσ=>[.blk b2 (Bf σ.2.1.2.2) 121,.blk b1 [rI .i64 0,rI .i64 0,rB false,rB false] 121,.row σ.2.2 147 5 (List.map AC σ.2.1.1)]) (λσ=>σ.1) (F,(([]:List AF),0,(AS.mk 0 0 false false)),(.slice none 0 0                                                                                                                                                   )) hR (AT.c Aa (AT.c Aa (AT.c5 Aa Aa Aa Aa Aa AT.nil))) (sC (sC (sC sN))) (λσ=>Kv σ.1=some r) (λσ=>[(3,rv (.pointer (some ⟨b1,0,none⟩))),(5,rv (.pointer (some ⟨b2,0,none⟩)))]) (λσ=>[.blk b2 (Bf σ.1) 121,.blk b1 [rI .i64 0,rI .i64 0,rB false,rB false] 121]) ?_ ?_
 ·rintro⟨gI,⟨hd,hb,ha⟩,he⟩ hS;refine Bd (l':=[(0,Bo 4 (List.map Al v)),(3,rv (.pointer (some ⟨b1,0,none⟩))),(5,rv (.pointer (some ⟨b2,0,none⟩))),(6,rv he),(11,Bo 4 (List.map Al v)),(12,rI .i64 (v.length:Int)),(13,rI .i64 hb)]) (H':=[.blk b2 (Bf ha) 121,.blk b1 [rI .i64 0,rI .i64 0,rB false,rB false] 121,.row he 147 5 (List.map AC hd)]) Aa Aa ?_;obtain⟨hT,rfl,h4,hz,hx⟩:=Df hS;replace hz:Eb F v hd hb ha=some h4:=hz;unfold Eb at hz;refine As (wv (Cm Aa Aa) (A0 (Av (A2 (b:=decide (hb<(v.length:Int))) Aa (λh5=>?_) (λh5=>?_)))))
  ·have hU:=AM h5 hz;refine A5 (Bb (Ds (S:=((List AF)×AS)×(Value)) (λσ=>E2 hb σ.1.1 σ.1.2=some h4) (λσ=>[(0,Bo 4 (List.map Al v)),(3,rv (.pointer (some ⟨b1,0,none⟩))),(5,rv (.pointer (some ⟨b2,0,none⟩))),(6,rv σ.2),(11,Bo 4 (List.map Al v)),(12,rI .i64 (v.length:Int)),(13,rI .i64 hb)]) (λσ=>[.blk b2 (Bf σ.1.2) 121,.blk b1 [rI .i64 0,rI .i64 0,rB false,rB false] 121,.row σ.2 147 5 (List.map AC σ.1.1)]) ?_ ?_))
   ·refine AV (As (wm Aa ?_));obtain⟨hV,hW⟩:=AA hU;refine wv (Ce (enc:=Al) (ys:=v) DW E1 Aa Aa hV) (wv (CX Nv E1 Aa Aa Aa) (Dn (cs:=[rI .i64 0,rI .i64 0,rS ([]:AE),rI .i64 0]) Sq Aa Aa (λhf=>?_)));refine wa Aa (Ch (i:=0) E1 Aa Aa Aa (C0.c Aa) Aa Aa (cs':=[rI .i64 ((Ac v hb).fKind),rI .i64 ((Ac v hb).fInt),rS ((Ac v hb).fStr),rI .i64 ((Ac v hb).fN)]) Aa (H':=[.blk hf (Al (Ac v hb)) 95,.blk b2 (Bf ha) 121,.blk b1 [rI .i64 0,rI .i64 0,rB false,rB false] 121,.row he 147 5 (List.map AC hd)]) Aa (A0 (Av (As (wv (Bm (i:=0) Nv E1 Aa Aa Aa Aa) ?_)))));obtain⟨hH,hX,hI⟩:=AX hW;refine Dw Tryz.call111 (TR F (Ac v hb) hH hX) Aa (wv (BW Aa) (A0 (A2 (b:=!hH) Aa (λh6=>?_) (λh6=>?_))))
    ·have hY:=AM h6 hI;refine Av (Ig (H1:=[.blk hf (Al (Ac v hb)) 95,.blk b2 (Bf ha) 121,.blk b1 (Bf ha) 121,.row he 147 5 (List.map AC hd)]) [3,5] [⟨[],By (Bf ha),1⟩,⟨[],rI .i64 0,0⟩,⟨[0],rv undef,2⟩,⟨[],rB false,0⟩] (rle [(3,_),(2,[.blk hf (Al (Ac v hb)) 95,.blk b2 (Bf ha) 121,.blk b1 (Bf ha) 121,.row he 147 5 (List.map AC hd)])]) [2,4,3] ?_ ?_)
     ·refine of (Bm (i:=1) J6 GJ Aa Aa Aa Aa) (oq (Aj Aa) (KJ Aa (O9 (E7 (i:=2) GJ Aa Aa Aa (C0.c Aa) Aa Aa (cs':=[rI .i64 ha.fDepth,rI .i64 ha.fBytes,rB ha.fOutside,rB ha.fLong]) Aa (H':=[.blk hf (Al (Ac v hb)) 95,.blk b2 (Bf ha) 121,.blk b1 (Bf ha) 121,.row he 147 5 (List.map AC hd)]) Aa)) ?_));refine oq (Aj Aa) ?_;exact CE
     refine Bb (A1 (Am (AK (Am (Am (Bw ?_))))));have hZ:=Cc hY hx hy;refine AK (Am (Kr ?_));obtain rfl:=A6 hZ;exact A4 (SR TK (AW Aa) (MJ (i:=2) J6 GJ Aa Aa Aa) (AW Aa)) (sS (sS (sS (sS sN)))) ⟨Aa,Aa⟩
    ·have ga:=AN h6 hI;refine A5 (Bb (Av (As (wm Aa (wv (BN (ys:=hd) (enc:=AC) (i:=3) I1 Aa Aa) (wa Aa (A0 ?_)))))));obtain⟨gb,gc⟩:=AA ga;obtain⟨h7,hJ⟩:=AA gc;refine AD [(0,Bo 4 (List.map Al v)),(3,rv (.pointer (some ⟨b1,0,none⟩))),(5,rv (.pointer (some ⟨b2,0,none⟩))),(6,rv he),(7,rI .i64 hb),(8,rv (.pointer (some ⟨hf,0,none⟩))),(9,rI .i64 (hd.length:Int)),(11,Bo 4 (List.map Al v)),(12,rI .i64 (v.length:Int)),(13,rI .i64 hb),(33,rB ((decide (0<(hd.length:Int)))&&((Ac hd ((hd.length:Int)-1)).fKey)))] [.blk hf (Al (Ac v hb)) 95,.blk b2 (Bf ha) 121,.blk b1 [rI .i64 0,rI .i64 0,rB false,rB false] 121,.row he 147 5 (List.map AC hd)] ?_ ?_
     ·refine Ao (wm Aa (wv (C3 Aa Aa) (wm Aa (AG (decide (0<(hd.length:Int))) (λhi=>?_) (λhi=>?_)))))
      ·refine wo hi (wm Aa (wo hi (wm Aa (wo hi (wv (KK Aa Aa (CA gb hi)) (wo hi (wv (r:=rv (DA 5 he (Int.toNat ((hd.length:Int)-1)) 0)) (CG (i:=3) I1 Pg Aa Aa Aa (Bl (CA h7 hi))) (wo hi (wv (r:=rv (DA 5 he (Int.toNat ((hd.length:Int)-1)) 2)) (Dk (k:=3) I0 Aa Id Aa (Bl (CA h7 hi)) Aa Aa Aa) (wo hi (wv (r:=rB ((Ac hd ((hd.length:Int)-1)).fKey)) (Gd (enc:=AC) (ys:=hd) (i:=3) (j:=(hd.length:Int)-1) TF Aa Aa (CA h7 hi) Aa) (ER Aa hi Aa (Ap ?_)))))))))))));exact BL hi
      ·refine wf hi (wf hi (wf hi (wf hi (wf hi (wf hi (wv (r:=rB false) (A7 (b:=decide (0<(hd.length:Int))) Aa hi Aa) (Ap ?_)))))));exact BL hi
     refine A2 (b:=((decide (0<(hd.length:Int)))&&((Ac hd ((hd.length:Int)-1)).fKey))) Aa (λh8=>?_) (λh8=>?_)
     ·have gd:=AM h8 hJ;refine As (wm Aa (wm Aa ?_));obtain⟨ge,gf⟩:=AA gd;refine wv (KK Aa Aa ge) ?_;obtain⟨hj,hK⟩:=AA gf;refine wv (r:=rv (DA 5 he (Int.toNat ((hd.length:Int)-1)) 0)) (CG (i:=3) I1 Pg Aa Aa Aa (Bl hj)) (wa Aa (A0 (Av (AD [(0,Bo 4 (List.map Al v)),(3,rv (.pointer (some ⟨b1,0,none⟩))),(5,rv (.pointer (some ⟨b2,0,none⟩))),(6,rv he),(8,rv (.pointer (some ⟨hf,0,none⟩))),(10,rv (DA 5 he (Int.toNat ((hd.length:Int)-1)) 0)),(11,Bo 4 (List.map Al v)),(12,rI .i64 (v.length:Int)),(13,rI .i64 hb),(38,rv (.pointer (some ⟨hf,0,none⟩))),(39,rI .i64 ((Ac v hb).fKind)),(40,rB (!decide (((Ac v hb).fKind)=4))),(41,rB (!decide (((Ac v hb).fKind)=4))),(55,rB ((!decide (((Ac v hb).fKind)=4))||(((Ac hd ((hd.length:Int)-1)).fStarted)&&(Cz ((Ac v hb).fStr) ((Ac hd ((hd.length:Int)-1)).fLast)||decide (((Ac v hb).fStr)=((Ac hd ((hd.length:Int)-1)).fLast))))))] [.blk hf (Al (Ac v hb)) 95,.blk b2 (Bf ha) 121,.blk b1 [rI .i64 0,rI .i64 0,rB false,rB false] 121,.row he 147 5 (List.map AC hd)] ?_ ?_))))
      ·refine AG (!decide (((Ac v hb).fKind)=4)) (λhh=>?_) (λhh=>?_)
       ·refine CH [0,3,5,6,8,10,11,12,13] [⟨[],rv (.pointer (some ⟨hf,0,none⟩)),0⟩,⟨[0],rI .i64 ((Ac v hb).fKind),1⟩,⟨[1],rB (!decide (((Ac v hb).fKind)=4)),0⟩,⟨[2],rB (!decide (((Ac v hb).fKind)=4)),0⟩,⟨[3],rv undef,0⟩,⟨[4,3],rv undef,0⟩,⟨[5,3],rv undef,0⟩,⟨[6,3],rv undef,0⟩,⟨[7,3],rv undef,0⟩,⟨[8],rv undef,0⟩,⟨[9,8],rv undef,0⟩,⟨[8],rv undef,0⟩,⟨[11,8],rv undef,0⟩,⟨[12,8],rv undef,0⟩,⟨[13,8],rv undef,0⟩,⟨[10,14,8],rv undef,0⟩,⟨[8,15,3],rv undef,0⟩,⟨[3,16],rB true,0⟩] [38,39,40,41,42,43,44,45,46,47,48,49,50,51,52,53,54,55,0,3,5,6,8,10,11,12,13] ?_ ?_
        ·refine oq (Af B9 Aa Gm Aa Aa) (of (Ax (i:=0) Gp Aa Aa Aa) (oq (DJ Aa Aa) (oq (At Aa) (oz hh (oz hh (oz hh (oz hh (oz hh (ou (ou (ou (ou (ou (ou (ou (oz hh (oq (Ar (b:=!decide (((Ac v hb).fKind)=4)) Aa hh Aa) ?_)))))))))))))))));exact CE
        exact BL hh
       ·refine AG ((Ac hd ((hd.length:Int)-1)).fStarted) (λhk=>?_) (λhk=>?_)
        ·refine CH [0,3,5,6,8,10,11,12,13] [⟨[],rv (.pointer (some ⟨hf,0,none⟩)),0⟩,⟨[0],rI .i64 ((Ac v hb).fKind),1⟩,⟨[1],rB (!decide (((Ac v hb).fKind)=4)),0⟩,⟨[2],rB (!decide (((Ac v hb).fKind)=4)),0⟩,⟨[3],rv (DA 5 he (Int.toNat ((hd.length:Int)-1)) 0),0⟩,⟨[4,3],rv (DA 5 he (Int.toNat ((hd.length:Int)-1)) 0),1⟩,⟨[5,3],rv (DA 5 he (Int.toNat ((hd.length:Int)-1)) 4),1⟩,⟨[6,3],rB ((Ac hd ((hd.length:Int)-1)).fStarted),1⟩,⟨[7,3],rB ((Ac hd ((hd.length:Int)-1)).fStarted),0⟩,⟨[8],rv (.pointer (some ⟨hf,2,none⟩)),0⟩,⟨[9,8],rS ((Ac v hb).fStr),1⟩,⟨[8],rv (DA 5 he (Int.toNat ((hd.length:Int)-1)) 0),0⟩,⟨[11,8],rv (DA 5 he (Int.toNat ((hd.length:Int)-1)) 0),1⟩,⟨[12,8],rv (DA 5 he (Int.toNat ((hd.length:Int)-1)) 3),1⟩,⟨[13,8],rS ((Ac hd ((hd.length:Int)-1)).fLast),1⟩,⟨[10,14,8],rB (Cz ((Ac v hb).fStr) ((Ac hd ((hd.length:Int)-1)).fLast)||decide (((Ac v hb).fStr)=((Ac hd ((hd.length:Int)-1)).fLast))),0⟩,⟨[8,15,3],rB (Cz ((Ac v hb).fStr) ((Ac hd ((hd.length:Int)-1)).fLast)||decide (((Ac v hb).fStr)=((Ac hd ((hd.length:Int)-1)).fLast))),0⟩,⟨[3,16],rB (Cz ((Ac v hb).fStr) ((Ac hd ((hd.length:Int)-1)).fLast)||decide (((Ac v hb).fStr)=((Ac hd ((hd.length:Int)-1)).fLast))),0⟩] [38,39,40,41,42,43,44,45,46,47,48,49,50,51,52,53,54,55,0,3,5,6,8,10,11,12,13] ?_ ?_
         ·refine oq (Af B9 Aa Gm Aa Aa) (of (Ax (i:=0) Gp Aa Aa Aa) (oq (DJ Aa Aa) (oq (At Aa) (on hh (oq (At Aa) (on hh (of (Cy (k:=3) Aa (Bl hj) Aa Aa) (on hh (of (Dk (k:=3) I0 Aa Id Aa (Bl hj) Aa Aa Aa) (on hh (of (Gd (enc:=AC) (ys:=hd) (i:=3) (j:=(hd.length:Int)-1) TF Aa Aa hj Aa) (on hh (oq (At Aa) (on hk (oq (Af B9 Aa Dq Aa Aa) (on hk (of (Ax (i:=0) Dr Aa Aa Aa) (on hk (oq (At Aa) (on hk (of (Cy (k:=3) Aa (Bl hj) Aa Aa) (on hk (of (Dk (k:=3) I0 Aa Dq Aa (Bl hj) Aa Aa Aa) ?_)))))))))))))))))))))));refine on hk (of (Gd (enc:=AC) (ys:=hd) (i:=3) (j:=(hd.length:Int)-1) Dr Aa Aa hj Aa) (on hk (oq (UC Aa Aa) (on hh (oq (Ar Aa hk Aa) (oq (A7 Aa hh Aa) ?_))))));exact CE
         exact BL (And.intro hh hk)
        ·refine CH [0,3,5,6,8,10,11,12,13] [⟨[],rv (.pointer (some ⟨hf,0,none⟩)),0⟩,⟨[0],rI .i64 ((Ac v hb).fKind),1⟩,⟨[1],rB (!decide (((Ac v hb).fKind)=4)),0⟩,⟨[2],rB (!decide (((Ac v hb).fKind)=4)),0⟩,⟨[3],rv (DA 5 he (Int.toNat ((hd.length:Int)-1)) 0),0⟩,⟨[4,3],rv (DA 5 he (Int.toNat ((hd.length:Int)-1)) 0),1⟩,⟨[5,3],rv (DA 5 he (Int.toNat ((hd.length:Int)-1)) 4),1⟩,⟨[6,3],rB ((Ac hd ((hd.length:Int)-1)).fStarted),1⟩,⟨[7,3],rB ((Ac hd ((hd.length:Int)-1)).fStarted),0⟩,⟨[8],rv undef,0⟩,⟨[9,8],rv undef,0⟩,⟨[8],rv undef,0⟩,⟨[11,8],rv undef,0⟩,⟨[12,8],rv undef,0⟩,⟨[13,8],rv undef,0⟩,⟨[10,14,8],rv undef,0⟩,⟨[8,15,3],rB false,0⟩,⟨[3,16],rB false,0⟩] [38,39,40,41,42,43,44,45,46,47,48,49,50,51,52,53,54,55,0,3,5,6,8,10,11,12,13] ?_ ?_
         ·refine oq (Af B9 Aa Gm Aa Aa) (of (Ax (i:=0) Gp Aa Aa Aa) (oq (DJ Aa Aa) (oq (At Aa) (on hh (oq (At Aa) (on hh (of (Cy (k:=3) Aa (Bl hj) Aa Aa) (on hh (of (Dk (k:=3) I0 Aa Id Aa (Bl hj) Aa Aa Aa) (on hh (of (Gd (enc:=AC) (ys:=hd) (i:=3) (j:=(hd.length:Int)-1) TF Aa Aa hj Aa) (on hh (oq (At Aa) (oz hk (oz hk (oz hk (oz hk (oz hk (oz hk (oz hk (on hh (oq (A7 (b:=(Ac hd ((hd.length:Int)-1)).fStarted) Aa hk Aa) (oq (A7 Aa hh Aa) ?_)))))))))))))))))))))));exact CE
         exact BL (And.intro hh hk)
      refine A2 (b:=((!decide (((Ac v hb).fKind)=4))||(((Ac hd ((hd.length:Int)-1)).fStarted)&&(Cz ((Ac v hb).fStr) ((Ac hd ((hd.length:Int)-1)).fLast)||decide (((Ac v hb).fStr)=((Ac hd ((hd.length:Int)-1)).fLast)))))) Aa (λh9=>?_) (λh9=>?_)
      ·have gg:=AM h9 hK;refine Av (Ig (H1:=[.blk hf (Al (Ac v hb)) 95,.blk b2 (Bf ha) 121,.blk b1 (Bf ha) 121,.row he 147 5 (List.map AC hd)]) [3,5] [⟨[],By (Bf ha),1⟩,⟨[],rI .i64 0,0⟩,⟨[0],rv undef,2⟩,⟨[],rB false,0⟩] (rle [(3,_),(2,[.blk hf (Al (Ac v hb)) 95,.blk b2 (Bf ha) 121,.blk b1 (Bf ha) 121,.row he 147 5 (List.map AC hd)])]) [2,4,3] ?_ ?_)
       ·refine of (Bm (i:=1) J6 GJ Aa Aa Aa Aa) (oq (Aj Aa) (KJ Aa (O9 (E7 (i:=2) GJ Aa Aa Aa (C0.c Aa) Aa Aa (cs':=[rI .i64 ha.fDepth,rI .i64 ha.fBytes,rB ha.fOutside,rB ha.fLong]) Aa (H':=[.blk hf (Al (Ac v hb)) 95,.blk b2 (Bf ha) 121,.blk b1 (Bf ha) 121,.row he 147 5 (List.map AC hd)]) Aa)) ?_));refine oq (Aj Aa) ?_;exact CE
       refine Bb (A1 (Am (Am (AK (Am (Am (Bw ?_)))))));have gh:=Cc gg hx hy;refine AK (Am (Kr ?_));obtain rfl:=A6 gh;exact A4 (SR TK (AW Aa) (MJ (i:=2) J6 GJ Aa Aa Aa) (AW Aa)) (sS (sS (sS (sS sN)))) ⟨Aa,Aa⟩
      ·have gi:=AN h9 hK;refine A5 (Bb (As (wm Aa (wm Aa (wm Aa (wv (Af B9 Aa Dq Aa Aa) (wv (Ax (i:=0) Dr Aa Aa Aa) (wv (r:=rv (DA 5 he (Int.toNat ((hd.length:Int)-1)) 0)) (Cy (k:=3) Aa (Bl hj) Aa Aa) (wv (r:=rv (DA 5 he (Int.toNat ((hd.length:Int)-1)) 3)) (Dk (k:=3) I0 Aa Dq Aa (Bl hj) Aa Aa Aa) (Ij (enc:=AC) (ys:=hd) (y':=(AF.mk ((Ac hd ((hd.length:Int)-1)).fPairs) ((Ac hd ((hd.length:Int)-1)).fLeft) ((Ac hd ((hd.length:Int)-1)).fKey) ((Ac v hb).fStr) ((Ac hd ((hd.length:Int)-1)).fStarted))) (i:=3) (j:=(hd.length:Int)-1) Dq Aa Aa (Cj Aa) Aa hj Aa Aa (H':=[.blk hf (Al (Ac v hb)) 95,.blk b2 (Bf ha) 121,.blk b1 [rI .i64 0,rI .i64 0,rB false,rB false] 121,.row he 147 5 (List.map AC (List.set hd (Int.toNat ((hd.length:Int)-1)) (AF.mk ((Ac hd ((hd.length:Int)-1)).fPairs) ((Ac hd ((hd.length:Int)-1)).fLeft) ((Ac hd ((hd.length:Int)-1)).fKey) ((Ac v hb).fStr) ((Ac hd ((hd.length:Int)-1)).fStarted))))]) Aa ?_))))))))));obtain⟨hr,hw,gj⟩:=Ic gi;rw[← hw];refine wv (r:=rv (DA 5 he (Int.toNat ((hd.length:Int)-1)) 0)) (Cy (k:=3) Aa (Bl (Dg hj hw)) Aa Aa) (wv (r:=rv (DA 5 he (Int.toNat ((hd.length:Int)-1)) 4)) (Dk (k:=3) I0 Aa Id Aa (Bl (Dg hj hw)) Aa Aa Aa) (Ij (enc:=AC) (ys:=hr) (y':=(AF.mk ((Ac hr ((hd.length:Int)-1)).fPairs) ((Ac hr ((hd.length:Int)-1)).fLeft) ((Ac hr ((hd.length:Int)-1)).fKey) ((Ac hr ((hd.length:Int)-1)).fLast) true)) (i:=3) (j:=(hd.length:Int)-1) Id Aa Aa (Cj Aa) Aa (Dg hj hw) Aa Aa (H':=[.blk hf (Al (Ac v hb)) 95,.blk b2 (Bf ha) 121,.blk b1 [rI .i64 0,rI .i64 0,rB false,rB false] 121,.row he 147 5 (List.map AC (List.set hr (Int.toNat ((hd.length:Int)-1)) (AF.mk ((Ac hr ((hd.length:Int)-1)).fPairs) ((Ac hr ((hd.length:Int)-1)).fLeft) ((Ac hr ((hd.length:Int)-1)).fKey) ((Ac hr ((hd.length:Int)-1)).fLast) true)))]) Aa ?_));obtain⟨hs,h1,gl⟩:=Ic gj;rw[← h1];refine wv (r:=rv (DA 5 he (Int.toNat ((hd.length:Int)-1)) 0)) (Cy (k:=3) Aa (Bl (Dg (Dg hj hw) h1)) Aa Aa) (wv (r:=rv (DA 5 he (Int.toNat ((hd.length:Int)-1)) 2)) (Dk (k:=3) I0 Aa Id Aa (Bl (Dg (Dg hj hw) h1)) Aa Aa Aa) (Ij (enc:=AC) (ys:=hs) (y':=(AF.mk ((Ac hs ((hd.length:Int)-1)).fPairs) ((Ac hs ((hd.length:Int)-1)).fLeft) false ((Ac hs ((hd.length:Int)-1)).fLast) ((Ac hs ((hd.length:Int)-1)).fStarted))) (i:=3) (j:=(hd.length:Int)-1) Id Aa Aa (Cj Aa) Aa (Dg (Dg hj hw) h1) Aa Aa (H':=[.blk hf (Al (Ac v hb)) 95,.blk b2 (Bf ha) 121,.blk b1 [rI .i64 0,rI .i64 0,rB false,rB false] 121,.row he 147 5 (List.map AC (List.set hs (Int.toNat ((hd.length:Int)-1)) (AF.mk ((Ac hs ((hd.length:Int)-1)).fPairs) ((Ac hs ((hd.length:Int)-1)).fLeft) false ((Ac hs ((hd.length:Int)-1)).fLast) ((Ac hs ((hd.length:Int)-1)).fStarted))))]) Aa ?_));obtain⟨ht,gm,gp⟩:=Ic gl;rw[← gm];refine A0 (Av ?_);obtain⟨hl,gq,gr⟩:=AX gp;obtain⟨gs,gt⟩:=AA gr;refine Ig (H1:=[.blk hf (Al (Ac v hb)) 95,.blk b2 [rI .i64 ha.fDepth,rI .i64 (IntKind.wrap .i64 (ha.fBytes+(hl+1))),rB ha.fOutside,rB ha.fLong] 121,.blk b1 [rI .i64 0,rI .i64 0,rB false,rB false] 121,.row he 147 5 (List.map AC ht)]) [0,3,5,6,8,11,12,13,38,39,40,41] [⟨[],rv (.pointer (some ⟨b2,1,none⟩)),0⟩,⟨[0],rI .i64 ha.fBytes,1⟩,⟨[],rv (.pointer (some ⟨hf,2,none⟩)),0⟩,⟨[2],rS ((Ac v hb).fStr),1⟩,⟨[3],rI .i64 hl,0⟩,⟨[4],rI .i64 (hl+1),0⟩,⟨[1,5],rI .i64 (IntKind.wrap .i64 (ha.fBytes+(hl+1))),0⟩,⟨[],rv (.pointer (some ⟨b2,1,none⟩)),0⟩,⟨[7,6],rv undef,2⟩] (rle [(9,_),(1,[.blk hf (Al (Ac v hb)) 95,.blk b2 [rI .i64 ha.fDepth,rI .i64 (IntKind.wrap .i64 (ha.fBytes+(hl+1))),rB ha.fOutside,rB ha.fLong] 121,.blk b1 [rI .i64 0,rI .i64 0,rB false,rB false] 121,.row he 147 5 (List.map AC ht)])]) [68,69,70,71,72,73,74,75,0,3,5,6,8,11,12,13,38,39,40,41] ?_ ?_
       ·refine oq (Af EF Aa BG Aa Aa) (of (Ax (i:=1) BO Aa Aa Aa) (oq (Af B9 Aa Dq Aa Aa) (of (Ax (i:=0) Dr Aa Aa Aa) (MW Aa (λH=>NG Tryz.call112 (N4 ((Ac v hb).fStr) hl gq) Aa) ?_))));refine oq (Bv Aa Aa gs) (oq (Rj Aa Aa) (oq (Af EF Aa BG Aa Aa) (KJ Aa (O9 (Og (i:=1) BG Aa Aa (Cj Aa) Aa Aa (cs':=[rI .i64 ha.fDepth,rI .i64 (IntKind.wrap .i64 (ha.fBytes+(hl+1))),rB ha.fOutside,rB ha.fLong]) Aa (H':=[.blk hf (Al (Ac v hb)) 95,.blk b2 [rI .i64 ha.fDepth,rI .i64 (IntKind.wrap .i64 (ha.fBytes+(hl+1))),rB ha.fOutside,rB ha.fLong] 121,.blk b1 [rI .i64 0,rI .i64 0,rB false,rB false] 121,.row he 147 5 (List.map AC ht)]) Aa)) ?_)));exact CE
       refine Bb (AD [(0,Bo 4 (List.map Al v)),(3,rv (.pointer (some ⟨b1,0,none⟩))),(5,rv (.pointer (some ⟨b2,0,none⟩))),(6,rv he),(11,Bo 4 (List.map Al v)),(12,rI .i64 (v.length:Int)),(13,rI .i64 hb),(38,rv (.pointer (some ⟨hf,0,none⟩))),(39,rI .i64 ((Ac v hb).fKind)),(40,rB (!decide (((Ac v hb).fKind)=4))),(41,rB (!decide (((Ac v hb).fKind)=4))),(68,rv (.pointer (some ⟨b2,1,none⟩))),(69,rI .i64 ha.fBytes),(70,rv (.pointer (some ⟨hf,2,none⟩))),(71,rS ((Ac v hb).fStr)),(72,rI .i64 hl),(73,rI .i64 (hl+1)),(74,rI .i64 (IntKind.wrap .i64 (ha.fBytes+(hl+1)))),(75,rv (.pointer (some ⟨b2,1,none⟩)))] [.blk hf (Al (Ac v hb)) 95,.blk b2 [rI .i64 ha.fDepth,rI .i64 (IntKind.wrap .i64 (ha.fBytes+(hl+1))),rB ha.fOutside,rB (ha.fLong||(decide (200<(((Ac v hb).fStr).length:Int))))] 121,.blk b1 [rI .i64 0,rI .i64 0,rB false,rB false] 121,.row he 147 5 (List.map AC ht)] ?_ ?_)
       ·refine Ao (wv (Af EF Aa Id Aa Aa) (wv (Ax (i:=1) TF Aa Aa Aa) (wm Aa (AG (ha.fLong) (λho=>?_) (λho=>?_)))))
        ·refine wf ho (wf ho (wf ho (wf ho (wv (r:=rB true) (Ar (b:=ha.fLong) rfl ho rfl) (wv (Af EF rfl Id rfl rfl) (Cv (i:=1) Id rfl rfl (Cj rfl) rfl rfl (cs':=[rI .i64 ha.fDepth,rI .i64 (IntKind.wrap .i64 (ha.fBytes+(hl+1))),rB ha.fOutside,rB true]) rfl (H':=[.blk hf (Al (Ac v hb)) 95,.blk b2 [rI .i64 ha.fDepth,rI .i64 (IntKind.wrap .i64 (ha.fBytes+(hl+1))),rB ha.fOutside,rB true] 121,.blk b1 [rI .i64 0,rI .i64 0,rB false,rB false] 121,.row he 147 5 (List.map AC ht)]) rfl (Ap (JO (H':=[.blk hf (Al (Ac v hb)) 95,.blk b2 [rI .i64 ha.fDepth,rI .i64 (IntKind.wrap .i64 (ha.fBytes+(hl+1))),rB ha.fOutside,rB (ha.fLong||(decide (200<(((Ac v hb).fStr).length:Int))))] 121,.blk b1 [rI .i64 0,rI .i64 0,rB false,rB false] 121,.row he 147 5 (List.map AC ht)]) (by simp only[ho,Zr,Zw,Z1,Zn,Zx,Zv,Z2,Zy,Zi,Zp,Zl,Zh]) ?_))))))));exact wt
        ·refine wo ho (wv (Af B9 rfl Dq rfl rfl) (wo ho (wv (Ax (i:=0) Dr rfl rfl rfl) (wo ho (wv (BJ Eo rfl) (wo ho (wv (C3 rfl rfl) (Dy rfl ho rfl (wv (Af EF rfl Id rfl rfl) (Cv (i:=1) Id rfl rfl (Cj rfl) rfl rfl (cs':=[rI .i64 ha.fDepth,rI .i64 (IntKind.wrap .i64 (ha.fBytes+(hl+1))),rB ha.fOutside,rB (decide (200<(((Ac v hb).fStr).length:Int)))]) rfl (H':=[.blk hf (Al (Ac v hb)) 95,.blk b2 [rI .i64 ha.fDepth,rI .i64 (IntKind.wrap .i64 (ha.fBytes+(hl+1))),rB ha.fOutside,rB (decide (200<(((Ac v hb).fStr).length:Int)))] 121,.blk b1 [rI .i64 0,rI .i64 0,rB false,rB false] 121,.row he 147 5 (List.map AC ht)]) rfl (Ap (JO (H':=[.blk hf (Al (Ac v hb)) 95,.blk b2 [rI .i64 ha.fDepth,rI .i64 (IntKind.wrap .i64 (ha.fBytes+(hl+1))),rB ha.fOutside,rB (ha.fLong||(decide (200<(((Ac v hb).fStr).length:Int))))] 121,.blk b1 [rI .i64 0,rI .i64 0,rB false,rB false] 121,.row he 147 5 (List.map AC ht)]) (by simp only[ho,Zr,Zw,Z1,Zn,Zx,Zv,Z2,Zy,Zi,Zp,Zl,Zh]) ?_))))))))))));exact wt
       exact B2 (A8 (Bh (Az (AJ ((ht,(AS.mk ha.fDepth (IntKind.wrap .i64 (ha.fBytes+(hl+1))) ha.fOutside (ha.fLong||(decide (200<(((Ac v hb).fStr).length:Int)))))),he) gt (AT.c Aa (AT.c Aa (AT.c5 Aa Aa Aa Aa Aa AT.nil))) (sS (sC (sC (sC sN))))))))
     ·have gu:=AN h8 hJ;refine A5 (Bb (As (wv (Af EF Aa BG Aa Aa) (wv (Ax (i:=1) BO Aa Aa Aa) (wm Aa (wv (BN (ys:=hd) (enc:=AC) (i:=3) I1 Aa Aa) ?_))))));obtain⟨gv,gw⟩:=AA gu;refine wv (Bv Aa Aa gv) (wv (WY Yy Aa Aa) (wv (Af EF Aa BG Aa Aa) (Cv (i:=1) BG Aa Aa (Cj Aa) Aa Aa (cs':=[rI .i64 (max ha.fDepth ((hd.length:Int)+1)),rI .i64 ha.fBytes,rB ha.fOutside,rB ha.fLong]) Aa (H':=[.blk hf (Al (Ac v hb)) 95,.blk b2 [rI .i64 (max ha.fDepth ((hd.length:Int)+1)),rI .i64 ha.fBytes,rB ha.fOutside,rB ha.fLong] 121,.blk b1 [rI .i64 0,rI .i64 0,rB false,rB false] 121,.row he 147 5 (List.map AC hd)]) Aa (A0 (Av ?_)))));obtain⟨hg,gx,gy⟩:=AX gw;refine Ig (H1:=[.blk hf (Al (Ac v hb)) 95,.blk b2 [rI .i64 (max ha.fDepth ((hd.length:Int)+1)),rI .i64 (IntKind.wrap .i64 (ha.fBytes+hg)),rB ha.fOutside,rB ha.fLong] 121,.blk b1 [rI .i64 0,rI .i64 0,rB false,rB false] 121,.row he 147 5 (List.map AC hd)]) [0,3,5,6,7,8,11,12,13] [⟨[],rv (.pointer (some ⟨b2,1,none⟩)),0⟩,⟨[0],rI .i64 ha.fBytes,1⟩,⟨[],By (Al (Ac v hb)),1⟩,⟨[2],rI .i64 hg,0⟩,⟨[1,3],rI .i64 (IntKind.wrap .i64 (ha.fBytes+hg)),0⟩,⟨[],rv (.pointer (some ⟨b2,1,none⟩)),0⟩,⟨[5,4],rv undef,2⟩] (rle [(7,_),(1,[.blk hf (Al (Ac v hb)) 95,.blk b2 [rI .i64 (max ha.fDepth ((hd.length:Int)+1)),rI .i64 (IntKind.wrap .i64 (ha.fBytes+hg)),rB ha.fOutside,rB ha.fLong] 121,.blk b1 [rI .i64 0,rI .i64 0,rB false,rB false] 121,.row he 147 5 (List.map AC hd)])]) [92,93,94,95,96,97,0,3,5,6,7,8,11,12,13] ?_ ?_
      ·refine oq (Af EF Aa BG Aa Aa) (of (Ax (i:=1) BO Aa Aa Aa) (of (Bm (i:=0) Nv E1 Aa Aa Aa Aa) (MW Aa (λH=>NG Tryz.call113 (VH (Ac v hb) hg gx) Aa) ?_)));refine oq (Rj Aa Aa) (oq (Af EF Aa BG Aa Aa) (KJ Aa (O9 (Og (i:=1) BG Aa Aa (Cj Aa) Aa Aa (cs':=[rI .i64 (max ha.fDepth ((hd.length:Int)+1)),rI .i64 (IntKind.wrap .i64 (ha.fBytes+hg)),rB ha.fOutside,rB ha.fLong]) Aa (H':=[.blk hf (Al (Ac v hb)) 95,.blk b2 [rI .i64 (max ha.fDepth ((hd.length:Int)+1)),rI .i64 (IntKind.wrap .i64 (ha.fBytes+hg)),rB ha.fOutside,rB ha.fLong] 121,.blk b1 [rI .i64 0,rI .i64 0,rB false,rB false] 121,.row he 147 5 (List.map AC hd)]) Aa)) ?_));exact CE
      refine Bb ?_;obtain⟨gz,hL⟩:=AA gy;refine AD [(0,Bo 4 (List.map Al v)),(3,rv (.pointer (some ⟨b1,0,none⟩))),(5,rv (.pointer (some ⟨b2,0,none⟩))),(6,rv he),(7,rI .i64 hb),(8,rv (.pointer (some ⟨hf,0,none⟩))),(11,Bo 4 (List.map Al v)),(12,rI .i64 (v.length:Int)),(13,rI .i64 hb),(92,rv (.pointer (some ⟨b2,1,none⟩))),(93,rI .i64 ha.fBytes),(94,By (Al (Ac v hb))),(95,rI .i64 hg),(96,rI .i64 (IntKind.wrap .i64 (ha.fBytes+hg))),(97,rv (.pointer (some ⟨b2,1,none⟩)))] [.blk hf (Al (Ac v hb)) 95,.blk b2 [rI .i64 (max ha.fDepth ((hd.length:Int)+1)),rI .i64 (IntKind.wrap .i64 (ha.fBytes+hg)),rB (ha.fOutside||((decide (((Ac v hb).fKind)=3))&&(!(ov (BC ((Ac v hb).fInt)))))),rB ha.fLong] 121,.blk b1 [rI .i64 0,rI .i64 0,rB false,rB false] 121,.row he 147 5 (List.map AC hd)] ?_ ?_
      ·refine Ao (wv (Af EF Aa Id Aa Aa) (wv (Ax (i:=1) TF Aa Aa Aa) (wm Aa (AG (ha.fOutside) (λhm=>?_) (λhm=>?_)))))
       ·refine wf hm (wf hm (wf hm (wf hm (wu (wu (wu (wu (wf hm (wv (r:=rB true) (Ar (b:=ha.fOutside) rfl hm rfl) (wv (Af EF rfl Id rfl rfl) (Cv (i:=1) Id rfl rfl (Cj rfl) rfl rfl (cs':=[rI .i64 (max ha.fDepth ((hd.length:Int)+1)),rI .i64 (IntKind.wrap .i64 (ha.fBytes+hg)),rB true,rB ha.fLong]) rfl (H':=[.blk hf (Al (Ac v hb)) 95,.blk b2 [rI .i64 (max ha.fDepth ((hd.length:Int)+1)),rI .i64 (IntKind.wrap .i64 (ha.fBytes+hg)),rB true,rB ha.fLong] 121,.blk b1 [rI .i64 0,rI .i64 0,rB false,rB false] 121,.row he 147 5 (List.map AC hd)]) rfl (Ap (JO (H':=[.blk hf (Al (Ac v hb)) 95,.blk b2 [rI .i64 (max ha.fDepth ((hd.length:Int)+1)),rI .i64 (IntKind.wrap .i64 (ha.fBytes+hg)),rB (ha.fOutside||((decide (((Ac v hb).fKind)=3))&&(!(ov (BC ((Ac v hb).fInt)))))),rB ha.fLong] 121,.blk b1 [rI .i64 0,rI .i64 0,rB false,rB false] 121,.row he 147 5 (List.map AC hd)]) (by simp only[hm,Zr,Zw,Z1,Zn,Zx,Zv,Z2,Zy,Zi,Zp,Zl,Zh]) ?_)))))))))))));exact wt
       ·refine wo hm (wv (Af B9 Aa Gm Aa Aa) (wo hm (wv (Ax (i:=0) Gp Aa Aa Aa) (wo hm (wv (Bq Aa Aa) (wo hm (wm Aa (AG (decide (((Ac v hb).fKind)=3)) (λhn=>?_) (λhn=>?_)))))))))
        ·refine wo hn (wv (Af B9 rfl BG rfl rfl) (wo hn (wv (Ax (i:=0) BO rfl rfl rfl) (wo hn (Dw Tryz.call103 (UH ((Ac v hb).fInt) (ov (BC ((Ac v hb).fInt))) (EP (CA (Ca gz hm) hn))) rfl (wo hn (wv (BW rfl) (wo hm (ER rfl hn rfl (Dy rfl hm rfl (wv (Af EF rfl Id rfl rfl) (Cv (i:=1) Id rfl rfl (Cj rfl) rfl rfl (cs':=[rI .i64 (max ha.fDepth ((hd.length:Int)+1)),rI .i64 (IntKind.wrap .i64 (ha.fBytes+hg)),rB (!(ov (BC ((Ac v hb).fInt)))),rB ha.fLong]) rfl (H':=[.blk hf (Al (Ac v hb)) 95,.blk b2 [rI .i64 (max ha.fDepth ((hd.length:Int)+1)),rI .i64 (IntKind.wrap .i64 (ha.fBytes+hg)),rB (!(ov (BC ((Ac v hb).fInt)))),rB ha.fLong] 121,.blk b1 [rI .i64 0,rI .i64 0,rB false,rB false] 121,.row he 147 5 (List.map AC hd)]) rfl (Ap (JO (H':=[.blk hf (Al (Ac v hb)) 95,.blk b2 [rI .i64 (max ha.fDepth ((hd.length:Int)+1)),rI .i64 (IntKind.wrap .i64 (ha.fBytes+hg)),rB (ha.fOutside||((decide (((Ac v hb).fKind)=3))&&(!(ov (BC ((Ac v hb).fInt)))))),rB ha.fLong] 121,.blk b1 [rI .i64 0,rI .i64 0,rB false,rB false] 121,.row he 147 5 (List.map AC hd)]) (by simp only[hm,hn,Zr,Zw,Z1,Zn,Zx,Zv,Z2,Zy,Zi,Zp,Zl,Zh]) ?_))))))))))))));exact wt
        ·refine wf hn (wf hn (wf hn (wf hn (wo hm (wv (r:=rB false) (A7 (b:=decide (((Ac v hb).fKind)=3)) rfl hn rfl) (Dy rfl hm rfl (wv (Af EF rfl Id rfl rfl) (Cv (i:=1) Id rfl rfl (Cj rfl) rfl rfl (cs':=[rI .i64 (max ha.fDepth ((hd.length:Int)+1)),rI .i64 (IntKind.wrap .i64 (ha.fBytes+hg)),rB false,rB ha.fLong]) rfl (H':=[.blk hf (Al (Ac v hb)) 95,.blk b2 [rI .i64 (max ha.fDepth ((hd.length:Int)+1)),rI .i64 (IntKind.wrap .i64 (ha.fBytes+hg)),rB false,rB ha.fLong] 121,.blk b1 [rI .i64 0,rI .i64 0,rB false,rB false] 121,.row he 147 5 (List.map AC hd)]) rfl (Ap (JO (H':=[.blk hf (Al (Ac v hb)) 95,.blk b2 [rI .i64 (max ha.fDepth ((hd.length:Int)+1)),rI .i64 (IntKind.wrap .i64 (ha.fBytes+hg)),rB (ha.fOutside||((decide (((Ac v hb).fKind)=3))&&(!(ov (BC ((Ac v hb).fInt)))))),rB ha.fLong] 121,.blk b1 [rI .i64 0,rI .i64 0,rB false,rB false] 121,.row he 147 5 (List.map AC hd)]) (by simp only[hm,hn,Zr,Zw,Z1,Zn,Zx,Zv,Z2,Zy,Zi,Zp,Zl,Zh]) ?_))))))))));exact wt
      refine AD [(0,Bo 4 (List.map Al v)),(3,rv (.pointer (some ⟨b1,0,none⟩))),(5,rv (.pointer (some ⟨b2,0,none⟩))),(6,rv he),(7,rI .i64 hb),(8,rv (.pointer (some ⟨hf,0,none⟩))),(11,Bo 4 (List.map Al v)),(12,rI .i64 (v.length:Int)),(13,rI .i64 hb),(92,rv (.pointer (some ⟨b2,1,none⟩))),(93,rI .i64 ha.fBytes),(94,By (Al (Ac v hb))),(95,rI .i64 hg),(96,rI .i64 (IntKind.wrap .i64 (ha.fBytes+hg))),(97,rv (.pointer (some ⟨b2,1,none⟩)))] [.blk hf (Al (Ac v hb)) 95,.blk b2 [rI .i64 (max ha.fDepth ((hd.length:Int)+1)),rI .i64 (IntKind.wrap .i64 (ha.fBytes+hg)),rB (ha.fOutside||((decide (((Ac v hb).fKind)=3))&&(!(ov (BC ((Ac v hb).fInt)))))),rB (ha.fLong||(decide (200<(((Ac v hb).fStr).length:Int))))] 121,.blk b1 [rI .i64 0,rI .i64 0,rB false,rB false] 121,.row he 147 5 (List.map AC hd)] ?_ ?_
      ·refine Ao (wv (Af EF Aa Id Aa Aa) (wv (Ax (i:=1) TF Aa Aa Aa) (wm Aa (AG (ha.fLong) (λhp=>?_) (λhp=>?_)))))
       ·refine wf hp (wf hp (wf hp (wf hp (wv (r:=rB true) (Ar (b:=ha.fLong) rfl hp rfl) (wv (Af EF rfl Id rfl rfl) (Cv (i:=1) Id rfl rfl (Cj rfl) rfl rfl (cs':=[rI .i64 (max ha.fDepth ((hd.length:Int)+1)),rI .i64 (IntKind.wrap .i64 (ha.fBytes+hg)),rB (ha.fOutside||((decide (((Ac v hb).fKind)=3))&&(!(ov (BC ((Ac v hb).fInt)))))),rB true]) rfl (H':=[.blk hf (Al (Ac v hb)) 95,.blk b2 [rI .i64 (max ha.fDepth ((hd.length:Int)+1)),rI .i64 (IntKind.wrap .i64 (ha.fBytes+hg)),rB (ha.fOutside||((decide (((Ac v hb).fKind)=3))&&(!(ov (BC ((Ac v hb).fInt)))))),rB true] 121,.blk b1 [rI .i64 0,rI .i64 0,rB false,rB false] 121,.row he 147 5 (List.map AC hd)]) rfl (Ap (JO (H':=[.blk hf (Al (Ac v hb)) 95,.blk b2 [rI .i64 (max ha.fDepth ((hd.length:Int)+1)),rI .i64 (IntKind.wrap .i64 (ha.fBytes+hg)),rB (ha.fOutside||((decide (((Ac v hb).fKind)=3))&&(!(ov (BC ((Ac v hb).fInt)))))),rB (ha.fLong||(decide (200<(((Ac v hb).fStr).length:Int))))] 121,.blk b1 [rI .i64 0,rI .i64 0,rB false,rB false] 121,.row he 147 5 (List.map AC hd)]) (by simp only[hp,Zr,Zw,Z1,Zn,Zx,Zv,Z2,Zy,Zi,Zp,Zl,Zh]) ?_))))))));exact wt
       ·refine wo hp (wv (Af B9 rfl Dq rfl rfl) (wo hp (wv (Ax (i:=0) Dr rfl rfl rfl) (wo hp (wv (BJ Eo rfl) (wo hp (wv (C3 rfl rfl) (Dy rfl hp rfl (wv (Af EF rfl Id rfl rfl) (Cv (i:=1) Id rfl rfl (Cj rfl) rfl rfl (cs':=[rI .i64 (max ha.fDepth ((hd.length:Int)+1)),rI .i64 (IntKind.wrap .i64 (ha.fBytes+hg)),rB (ha.fOutside||((decide (((Ac v hb).fKind)=3))&&(!(ov (BC ((Ac v hb).fInt)))))),rB (decide (200<(((Ac v hb).fStr).length:Int)))]) rfl (H':=[.blk hf (Al (Ac v hb)) 95,.blk b2 [rI .i64 (max ha.fDepth ((hd.length:Int)+1)),rI .i64 (IntKind.wrap .i64 (ha.fBytes+hg)),rB (ha.fOutside||((decide (((Ac v hb).fKind)=3))&&(!(ov (BC ((Ac v hb).fInt)))))),rB (decide (200<(((Ac v hb).fStr).length:Int)))] 121,.blk b1 [rI .i64 0,rI .i64 0,rB false,rB false] 121,.row he 147 5 (List.map AC hd)]) rfl (Ap (JO (H':=[.blk hf (Al (Ac v hb)) 95,.blk b2 [rI .i64 (max ha.fDepth ((hd.length:Int)+1)),rI .i64 (IntKind.wrap .i64 (ha.fBytes+hg)),rB (ha.fOutside||((decide (((Ac v hb).fKind)=3))&&(!(ov (BC ((Ac v hb).fInt)))))),rB (ha.fLong||(decide (200<(((Ac v hb).fStr).length:Int))))] 121,.blk b1 [rI .i64 0,rI .i64 0,rB false,rB false] 121,.row he 147 5 (List.map AC hd)]) (by simp only[hp,Zr,Zw,Z1,Zn,Zx,Zv,Z2,Zy,Zi,Zp,Zl,Zh]) ?_))))))))))));exact wt
      refine Av (As (wv (Af B9 Aa BG Aa Aa) (wv (Ax (i:=0) BO Aa Aa Aa) (wv (C3 Aa Aa) (A0 (A2 (b:=decide (0<((Ac v hb).fN))) Aa (λhA=>?_) (λhA=>?_)))))))
      ·have hN:=AM hA hL;refine Av (As (wv (Af B9 Aa BG Aa Aa) (wv (Ax (i:=0) BO Aa Aa Aa) (wm Aa (wv (BM (ys:=v) (enc:=Al) DW Aa) (wv (C3 Aa Aa) (A0 (A2 (b:=decide ((v.length:Int)<((Ac v hb).fN))) Aa (λhB=>?_) (λhB=>?_)))))))))
       ·have g0:=AM hB hN;refine Av (Ig (H1:=[.blk hf (Al (Ac v hb)) 95,.blk b2 [rI .i64 (max ha.fDepth ((hd.length:Int)+1)),rI .i64 (IntKind.wrap .i64 (ha.fBytes+hg)),rB (ha.fOutside||((decide (((Ac v hb).fKind)=3))&&(!(ov (BC ((Ac v hb).fInt)))))),rB (ha.fLong||(decide (200<(((Ac v hb).fStr).length:Int))))] 121,.blk b1 [rI .i64 (max ha.fDepth ((hd.length:Int)+1)),rI .i64 (IntKind.wrap .i64 (ha.fBytes+hg)),rB (ha.fOutside||((decide (((Ac v hb).fKind)=3))&&(!(ov (BC ((Ac v hb).fInt)))))),rB (ha.fLong||(decide (200<(((Ac v hb).fStr).length:Int))))] 121,.row he 147 5 (List.map AC hd)]) [3,5] [⟨[],By [rI .i64 (max ha.fDepth ((hd.length:Int)+1)),rI .i64 (IntKind.wrap .i64 (ha.fBytes+hg)),rB (ha.fOutside||((decide (((Ac v hb).fKind)=3))&&(!(ov (BC ((Ac v hb).fInt)))))),rB (ha.fLong||(decide (200<(((Ac v hb).fStr).length:Int))))],1⟩,⟨[],rI .i64 0,0⟩,⟨[0],rv undef,2⟩,⟨[],rB false,0⟩] (rle [(3,_),(2,[.blk hf (Al (Ac v hb)) 95,.blk b2 [rI .i64 (max ha.fDepth ((hd.length:Int)+1)),rI .i64 (IntKind.wrap .i64 (ha.fBytes+hg)),rB (ha.fOutside||((decide (((Ac v hb).fKind)=3))&&(!(ov (BC ((Ac v hb).fInt)))))),rB (ha.fLong||(decide (200<(((Ac v hb).fStr).length:Int))))] 121,.blk b1 [rI .i64 (max ha.fDepth ((hd.length:Int)+1)),rI .i64 (IntKind.wrap .i64 (ha.fBytes+hg)),rB (ha.fOutside||((decide (((Ac v hb).fKind)=3))&&(!(ov (BC ((Ac v hb).fInt)))))),rB (ha.fLong||(decide (200<(((Ac v hb).fStr).length:Int))))] 121,.row he 147 5 (List.map AC hd)])]) [2,4,3] ?_ ?_)
        ·refine of (Bm (i:=1) J6 GJ Aa Aa Aa Aa) (oq (Aj Aa) (KJ Aa (O9 (E7 (i:=2) GJ Aa Aa Aa (C0.c Aa) Aa Aa (cs':=[rI .i64 (max ha.fDepth ((hd.length:Int)+1)),rI .i64 (IntKind.wrap .i64 (ha.fBytes+hg)),rB (ha.fOutside||((decide (((Ac v hb).fKind)=3))&&(!(ov (BC ((Ac v hb).fInt)))))),rB (ha.fLong||(decide (200<(((Ac v hb).fStr).length:Int))))]) Aa (H':=[.blk hf (Al (Ac v hb)) 95,.blk b2 [rI .i64 (max ha.fDepth ((hd.length:Int)+1)),rI .i64 (IntKind.wrap .i64 (ha.fBytes+hg)),rB (ha.fOutside||((decide (((Ac v hb).fKind)=3))&&(!(ov (BC ((Ac v hb).fInt)))))),rB (ha.fLong||(decide (200<(((Ac v hb).fStr).length:Int))))] 121,.blk b1 [rI .i64 (max ha.fDepth ((hd.length:Int)+1)),rI .i64 (IntKind.wrap .i64 (ha.fBytes+hg)),rB (ha.fOutside||((decide (((Ac v hb).fKind)=3))&&(!(ov (BC ((Ac v hb).fInt)))))),rB (ha.fLong||(decide (200<(((Ac v hb).fStr).length:Int))))] 121,.row he 147 5 (List.map AC hd)]) Aa)) ?_));refine oq (Aj Aa) ?_;exact CE
        refine Bb (A1 (Am (Am (AK (Am (Am (Bw ?_)))))));have g1:=Cc g0 hx hy;refine AK (Am (Kr ?_));obtain rfl:=A6 g1;exact A4 (SR TK (AW Aa) (MJ (i:=2) J6 GJ Aa Aa Aa) (AW Aa)) (sS (sS (sS (sS sN)))) ⟨Aa,Aa⟩
       ·have g2:=AN hB hN;refine A5 (Bb (As (wm Aa (wv (Af B9 Aa Gm Aa Aa) (wv (Ax (i:=0) Gp Aa Aa Aa) (wv (Bq Aa Aa) (wv (Af B9 Aa BG Aa Aa) (wv (Ax (i:=0) BO Aa Aa Aa) (wv (Af B9 Aa Gm Aa Aa) (wv (Ax (i:=0) Gp Aa Aa Aa) (wv (Bq Aa Aa) (wv (r:=By [rB (decide (((Ac v hb).fKind)=6)),rI .i64 ((Ac v hb).fN),rB (decide (((Ac v hb).fKind)=6)),rS ([]:AE),rB false]) (Lx Aa Aa Aa Aa Aa Aa) (C4 (ys:=([(AF.mk (decide (((Ac v hb).fKind)=6)) ((Ac v hb).fN) (decide (((Ac v hb).fKind)=6)) ([]:AE) false)]:List AF)) (enc:=AC) (css:=[[rB (decide (((Ac v hb).fKind)=6)),rI .i64 ((Ac v hb).fN),rB (decide (((Ac v hb).fKind)=6)),rS ([]:AE),rB false]]) (xs:=[.tmp 139]) I1 Pg Tryz.zeroValue147 Aa Aa Aa ⟨Pd.agg ⟨Up.refl _,Up.refl _,Up.refl _,Up.refl _,Up.refl _,trivial⟩,trivial⟩ Aa I7 Aa Aa Aa (λg3=>?_))))))))))))));obtain⟨g4,g5⟩:=AA g2;obtain⟨inf,hinf⟩:=Wt;refine D1 (xs:=hd) (ys:=([(AF.mk (decide (((Ac v hb).fKind)=6)) ((Ac v hb).fN) (decide (((Ac v hb).fKind)=6)) ([]:AE) false)]:List AF)) (enc:=AC) (i:=4) I1 hinf.1 hinf.2.1 hinf.2.2.1 hinf.2.2.2 Aa Aa Aa Aa Aa (Mz.w (i:=0) Aa Aa) I7 Mb g4 Aa (λhO=>?_);exact wa Aa (A0 (B2 (A8 (Bh (BB (H2:=[.blk b2 [rI .i64 (max ha.fDepth ((hd.length:Int)+1)),rI .i64 (IntKind.wrap .i64 (ha.fBytes+hg)),rB (ha.fOutside||((decide (((Ac v hb).fKind)=3))&&(!(ov (BC ((Ac v hb).fInt)))))),rB (ha.fLong||(decide (200<(((Ac v hb).fStr).length:Int))))] 121,.blk b1 [rI .i64 0,rI .i64 0,rB false,rB false] 121,.row hO 147 5 (List.map AC (hd++([(AF.mk (decide (((Ac v hb).fKind)=6)) ((Ac v hb).fN) (decide (((Ac v hb).fKind)=6)) ([]:AE) false)]:List AF))),.row (.slice (some ⟨g3,0,none⟩) 1 1) 147 5 (List.map AC ([(AF.mk (decide (((Ac v hb).fKind)=6)) ((Ac v hb).fN) (decide (((Ac v hb).fKind)=6)) ([]:AE) false)]:List AF)),.blk hf (Al (Ac v hb)) 95]) ((Ah (i:=3) Aa).trans (YY _ ((Ah (i:=3) Aa).trans (YY _ (Zb _))))) (Az (AJ ((hd++([(AF.mk (decide (((Ac v hb).fKind)=6)) ((Ac v hb).fN) (decide (((Ac v hb).fKind)=6)) ([]:AE) false)]:List AF),(AS.mk (max ha.fDepth ((hd.length:Int)+1)) (IntKind.wrap .i64 (ha.fBytes+hg)) (ha.fOutside||((decide (((Ac v hb).fKind)=3))&&(!(ov (BC ((Ac v hb).fInt)))))) (ha.fLong||(decide (200<(((Ac v hb).fStr).length:Int)))))),hO) g5 (AT.c Aa (AT.c Aa (AT.c5 Aa Aa Aa Aa Aa AT.nil))) (sC (sC (sC (sS (sS sN))))))))))))
      ·have g6:=AN hA hL;refine A5 (Bb (As (wm Aa ?_)));obtain⟨hu,g7,hP⟩:=AX g6;refine D6 (Hr:=[.blk hf (Al (Ac v hb)) 95,.blk b2 [rI .i64 (max ha.fDepth ((hd.length:Int)+1)),rI .i64 (IntKind.wrap .i64 (ha.fBytes+hg)),rB (ha.fOutside||((decide (((Ac v hb).fKind)=3))&&(!(ov (BC ((Ac v hb).fInt)))))),rB (ha.fLong||(decide (200<(((Ac v hb).fStr).length:Int))))] 121,.blk b1 [rI .i64 0,rI .i64 0,rB false,rB false] 121]) Tryz.call114 (S7 F he hd hu g7) Aa ((Ah (i:=3) Aa).trans (YY _ (Zb _))) Aa ?_;rintro _ _ ⟨h0,rfl,rfl⟩;refine wa Aa (BH (wm Aa (wv (BN (ys:=hu) (enc:=AC) (i:=0) I1 Aa Aa) (wv (Bq Aa Aa) (A0 (A2 (b:=decide ((hu.length:Int)=0)) Aa (λhC=>?_) (λhC=>?_)))))))
       ·have g8:=AM hC hP;refine Av ?_;obtain⟨g9,gA⟩:=AA g8;refine Ig (H1:=[.row h0 147 5 (List.map AC hu),.blk hf (Al (Ac v hb)) 95,.blk b2 [rI .i64 (max ha.fDepth ((hd.length:Int)+1)),rI .i64 (IntKind.wrap .i64 (ha.fBytes+hg)),rB (ha.fOutside||((decide (((Ac v hb).fKind)=3))&&(!(ov (BC ((Ac v hb).fInt)))))),rB (ha.fLong||(decide (200<(((Ac v hb).fStr).length:Int))))] 121,.blk b1 [rI .i64 (max ha.fDepth ((hd.length:Int)+1)),rI .i64 (IntKind.wrap .i64 (ha.fBytes+hg)),rB (ha.fOutside||((decide (((Ac v hb).fKind)=3))&&(!(ov (BC ((Ac v hb).fInt)))))),rB (ha.fLong||(decide (200<(((Ac v hb).fStr).length:Int))))] 121]) [3,5,7] [⟨[],rI .i64 hb,0⟩,⟨[0],rI .i64 (hb+1),0⟩,⟨[],By [rI .i64 (max ha.fDepth ((hd.length:Int)+1)),rI .i64 (IntKind.wrap .i64 (ha.fBytes+hg)),rB (ha.fOutside||((decide (((Ac v hb).fKind)=3))&&(!(ov (BC ((Ac v hb).fInt)))))),rB (ha.fLong||(decide (200<(((Ac v hb).fStr).length:Int))))],1⟩,⟨[1],rI .i64 (hb+1),0⟩,⟨[2],rv undef,2⟩,⟨[],rB true,0⟩] (rle [(5,_),(2,[.row h0 147 5 (List.map AC hu),.blk hf (Al (Ac v hb)) 95,.blk b2 [rI .i64 (max ha.fDepth ((hd.length:Int)+1)),rI .i64 (IntKind.wrap .i64 (ha.fBytes+hg)),rB (ha.fOutside||((decide (((Ac v hb).fKind)=3))&&(!(ov (BC ((Ac v hb).fInt)))))),rB (ha.fLong||(decide (200<(((Ac v hb).fStr).length:Int))))] 121,.blk b1 [rI .i64 (max ha.fDepth ((hd.length:Int)+1)),rI .i64 (IntKind.wrap .i64 (ha.fBytes+hg)),rB (ha.fOutside||((decide (((Ac v hb).fKind)=3))&&(!(ov (BC ((Ac v hb).fInt)))))),rB (ha.fLong||(decide (200<(((Ac v hb).fStr).length:Int))))] 121])]) [2,4,3] ?_ ?_
        ·refine oq (At Aa) (oq (Bv Aa Aa g9) (of (Bm (i:=2) J6 GJ Aa Aa Aa Aa) (oq (Aj Aa) (KJ Aa (O9 (E7 (i:=3) GJ Aa Aa Aa (C0.c Aa) Aa Aa (cs':=[rI .i64 (max ha.fDepth ((hd.length:Int)+1)),rI .i64 (IntKind.wrap .i64 (ha.fBytes+hg)),rB (ha.fOutside||((decide (((Ac v hb).fKind)=3))&&(!(ov (BC ((Ac v hb).fInt)))))),rB (ha.fLong||(decide (200<(((Ac v hb).fStr).length:Int))))]) Aa (H':=[.row h0 147 5 (List.map AC hu),.blk hf (Al (Ac v hb)) 95,.blk b2 [rI .i64 (max ha.fDepth ((hd.length:Int)+1)),rI .i64 (IntKind.wrap .i64 (ha.fBytes+hg)),rB (ha.fOutside||((decide (((Ac v hb).fKind)=3))&&(!(ov (BC ((Ac v hb).fInt)))))),rB (ha.fLong||(decide (200<(((Ac v hb).fStr).length:Int))))] 121,.blk b1 [rI .i64 (max ha.fDepth ((hd.length:Int)+1)),rI .i64 (IntKind.wrap .i64 (ha.fBytes+hg)),rB (ha.fOutside||((decide (((Ac v hb).fKind)=3))&&(!(ov (BC ((Ac v hb).fInt)))))),rB (ha.fLong||(decide (200<(((Ac v hb).fStr).length:Int))))] 121]) Aa)) ?_))));refine oq (Aj Aa) ?_;exact CE
        refine Bb (A1 (AK (Am (Am (Bw ?_)))));have gB:=Cc gA hx hy;refine AK (Am (Kr ?_));obtain rfl:=A6 gB;exact A4 (SR TK (AW Aa) (MJ (i:=3) J6 GJ Aa Aa Aa) (AW Aa)) (sS (sS (sS (sS sN)))) ⟨Aa,Aa⟩
       ·have gC:=AN hC hP;exact A5 (Ba (BB (H2:=[.blk b2 [rI .i64 (max ha.fDepth ((hd.length:Int)+1)),rI .i64 (IntKind.wrap .i64 (ha.fBytes+hg)),rB (ha.fOutside||((decide (((Ac v hb).fKind)=3))&&(!(ov (BC ((Ac v hb).fInt)))))),rB (ha.fLong||(decide (200<(((Ac v hb).fStr).length:Int))))] 121,.blk b1 [rI .i64 0,rI .i64 0,rB false,rB false] 121,.row h0 147 5 (List.map AC hu),.blk hf (Al (Ac v hb)) 95]) ((Ah (i:=2) Aa).trans (YY _ ((Ah (i:=2) Aa).trans (YY _ (Zb _))))) (Az (AJ ((hu,(AS.mk (max ha.fDepth ((hd.length:Int)+1)) (IntKind.wrap .i64 (ha.fBytes+hg)) (ha.fOutside||((decide (((Ac v hb).fKind)=3))&&(!(ov (BC ((Ac v hb).fInt)))))) (ha.fLong||(decide (200<(((Ac v hb).fStr).length:Int)))))),h0) gC (AT.c Aa (AT.c Aa (AT.c5 Aa Aa Aa Aa Aa AT.nil))) (sC (sC (sC (sS sN))))))))
   ·rintro⟨⟨hD,hE⟩,hG⟩ h2;refine Bd (l':=[(0,Bo 4 (List.map Al v)),(3,rv (.pointer (some ⟨b1,0,none⟩))),(5,rv (.pointer (some ⟨b2,0,none⟩))),(6,rv hG),(11,Bo 4 (List.map Al v)),(12,rI .i64 (v.length:Int)),(13,rI .i64 hb)]) (H':=[.blk b2 (Bf hE) 121,.blk b1 [rI .i64 0,rI .i64 0,rB false,rB false] 121,.row hG 147 5 (List.map AC hD)]) Aa Aa ?_;replace h2:E2 hb hD hE=some h4:=h2;unfold E2 at h2;refine Ao ?_;obtain⟨gD,gE⟩:=AA h2;refine wv (Bv Aa Aa gD) (wm Aa (Ap ?_));have gF:=Bx gE hx;exact Az (AJ (hT,(hD,hb+1,hE),hG) ⟨gF,Zo _⟩ (AT.c Aa (AT.c Aa (AT.c5 Aa Aa Aa Aa Aa AT.nil))) (sC (sC (sC sN))))
  ·have gG:=AN h5 hz;refine B2 (A8 ?_);have gH:=Cn gG hx hy;exact A8 (Bj (AJ (ha,()) gH (AT.c Aa (AT.c Aa AT.nil)) (sC (sC (sS sN)))))
 ·rintro⟨hq,⟨⟩⟩ h3;refine C7 (l':=[(3,rv (.pointer (some ⟨b1,0,none⟩))),(5,rv (.pointer (some ⟨b2,0,none⟩)))]) (H':=[.blk b2 (Bf hq) 121,.blk b1 [rI .i64 0,rI .i64 0,rB false,rB false] 121]) Aa Aa ?_;replace h3:Kv hq=some r:=h3;unfold Kv at h3;refine Bh (Bb (Av (Ig (H1:=[.blk b2 (Bf hq) 121,.blk b1 (Bf hq) 121]) [3,5] [⟨[],By (Bf hq),1⟩,⟨[],rI .i64 0,0⟩,⟨[0],rv undef,2⟩,⟨[],rB false,0⟩] (rle [(3,_),(2,[.blk b2 (Bf hq) 121,.blk b1 (Bf hq) 121])]) [2,4,3] ?_ ?_)))
  ·refine of (Bm (i:=0) J6 GJ Aa Aa Aa Aa) (oq (Aj Aa) (KJ Aa (O9 (E7 (i:=1) GJ Aa Aa Aa (C0.c Aa) Aa Aa (cs':=[rI .i64 hq.fDepth,rI .i64 hq.fBytes,rB hq.fOutside,rB hq.fLong]) Aa (H':=[.blk b2 (Bf hq) 121,.blk b1 (Bf hq) 121]) Aa)) ?_));refine oq (Aj Aa) ?_;exact CE
  refine Bb (A1 (Kr ?_));obtain rfl:=A6 h3;exact A4 (SR TK (AW Aa) (MJ (i:=1) J6 GJ Aa Aa Aa) (AW Aa)) (sS (sS sN)) ⟨Aa,Aa⟩
theorem TS (F:Nat)(v:(List Au))(r:Int)(h:MB F v=some r):Fn Tryz.prog GE 76 [Bo 4 (List.map Al v)] [] (λR H=>R=rI .i64 r∧H=[]):=by
 refine enter (n:=42) Tryz.func76 Aa Tryz.ntmps76 Aa (λw Z=>?_);refine Bd (l':=[(0,Bo 4 (List.map Al v))]) (H':=[]) Aa Aa ?_;unfold MB at h;refine As (wv (r:=rI .i64 0) (Aj Aa) (BH (wm Aa ?_)));obtain⟨r1,e3,h2⟩:=AX h;refine Dw Tryz.call88 (VI F v r1 e3) Aa (wm Aa (wv (AL Aa Aa) (wv (AL Aa Aa) (wv (AL Aa Aa) (Dn (cs:=[rI .i64 0,rI .i64 0,rB false,rB false]) Tryz.zeroValue121 Aa Aa (λb4=>?_))))));refine wa Aa (Ch (i:=0) GJ Aa Aa Aa (C0.c Aa) Aa Aa (cs':=[rI .i64 r1.2.1.fDepth,rI .i64 r1.2.1.fBytes,rB r1.2.1.fOutside,rB r1.2.1.fLong]) Aa (H':=[.blk b4 (Bf r1.2.1) 121]) Aa (wa Aa (A0 (Av (AV (AD [(0,Bo 4 (List.map Al v)),(4,rv (.pointer (some ⟨b4,0,none⟩))),(12,rB ((!r1.2.2)||(!decide (r1.1=(v.length:Int)))))] [.blk b4 (Bf r1.2.1) 121] ?_ ?_))))))
 ·refine Ao (wm Aa (wv (BW Aa) (wm Aa (AG (!r1.2.2) (λc5=>?_) (λc5=>?_)))))
  ·refine wf c5 (wf c5 (wf c5 (wf c5 (wv (r:=rB true) (Ar (b:=!r1.2.2) Aa c5 Aa) (wa Aa (Ap ?_))))));exact BL c5
  ·refine wo c5 (wm Aa (wo c5 (wm Aa (wo c5 (wv (BM (ys:=v) (enc:=Al) DW Aa) (wo c5 (wv (DJ Aa Aa) (Dy Aa c5 Aa (wa Aa (Ap ?_))))))))));exact BL c5
 refine A2 (b:=((!r1.2.2)||(!decide (r1.1=(v.length:Int))))) Aa (λc6=>?_) (λc6=>?_)
 ·have h7:=AM c6 h2;refine As (wv (r:=rI .i64 1) (Aj Aa) (A0 (A1 (AK (Am ?_)))));obtain rfl:=A6 h7;exact A4 (B8 V9 (AW Aa)) (sS sN) ⟨Aa,Aa⟩
 ·have h8:=AN c6 h2;refine As (wv (Af EF Aa Id Aa Aa) (wv (Ax (i:=0) TF Aa Aa Aa) (wa Aa (A0 (A2 (b:=r1.2.1.fOutside) Aa (λc9=>?_) (λc9=>?_))))))
  ·have hg:=AM c9 h8;refine As (wv (r:=rI .i64 2) (Aj Aa) (A0 (A1 (AK (Am ?_)))));obtain rfl:=A6 hg;exact A4 (B8 V9 (AW Aa)) (sS sN) ⟨Aa,Aa⟩
  ·have hf:=AN c9 h8;refine AD [(24,rB (r1.2.1.fLong||((decide (200<(v.length:Int)))||((decide (8<r1.2.1.fDepth))||(decide (4000<r1.2.1.fBytes))))))] [] ?_ ?_
   ·refine Ao (wv (Af EF Aa Id Aa Aa) (wv (Ax (i:=0) TF Aa Aa Aa) (wm Aa (AG (r1.2.1.fLong) (λha=>?_) (λha=>?_)))))
    ·refine wf ha (wf ha (wf ha (wv (r:=rB true) (Ar (b:=r1.2.1.fLong) Aa ha Aa) (wm Aa (Ak (b:=true) Aa Aa Aa Aa (Ak (b:=true) Aa Aa Aa Aa (Ak (b:=true) Aa Aa Aa Aa (wv (r:=rB true) (Ar (b:=true) Aa Aa Aa) (wm Aa (Ak (b:=true) Aa Aa Aa Aa (Ak (b:=true) Aa Aa Aa Aa (Ak (b:=true) Aa Aa Aa Aa (wv (r:=rB true) (Ar (b:=true) Aa Aa Aa) (wa Aa (Ap ?_)))))))))))))));exact BL ha
    ·refine wo ha (wm Aa (wo ha (wv (BM (ys:=v) (enc:=Al) DW Aa) (wo ha (wv (C3 Aa Aa) (Dy Aa ha Aa (wm Aa (AG (decide (200<(v.length:Int))) (λhb=>?_) (λhb=>?_)))))))))
     ·refine wf hb (wf hb (wf hb (wv (r:=rB true) (Ar (b:=decide (200<(v.length:Int))) Aa hb Aa) (wm Aa (Ak (b:=true) Aa Aa Aa Aa (Ak (b:=true) Aa Aa Aa Aa (Ak (b:=true) Aa Aa Aa Aa (wv (r:=rB true) (Ar (b:=true) Aa Aa Aa) (wa Aa (Ap ?_))))))))));exact BL (And.intro ha hb)
     ·refine wo hb (wv (Af EF Aa BG Aa Aa) (wo hb (wv (Ax (i:=0) BO Aa Aa Aa) (wo hb (wv (C3 Aa Aa) (Dy Aa hb Aa (wm Aa (AG (decide (8<r1.2.1.fDepth)) (λhd=>?_) (λhd=>?_)))))))))
      ·refine wf hd (wf hd (wf hd (wv (r:=rB true) (Ar (b:=decide (8<r1.2.1.fDepth)) Aa hd Aa) (wa Aa (Ap ?_)))));exact BL (And.intro ha (And.intro hb hd))
      ·refine wo hd (wv (Af EF Aa BG Aa Aa) (wo hd (wv (Ax (i:=0) BO Aa Aa Aa) (wo hd (wv (C3 Aa Aa) (Dy Aa hd Aa (wa Aa (Ap ?_))))))));exact BL (And.intro ha (And.intro hb hd))
   refine A2 (b:=(r1.2.1.fLong||((decide (200<(v.length:Int)))||((decide (8<r1.2.1.fDepth))||(decide (4000<r1.2.1.fBytes)))))) Aa (λhe=>?_) (λhe=>?_)
   ·have hh:=AM he hf;refine As (wv (r:=rI .i64 3) (Aj Aa) (A0 (A1 (AK (Am ?_)))));obtain rfl:=A6 hh;exact A4 (B8 V9 (AW Aa)) sN ⟨Aa,Aa⟩
   ·have hi:=AN he hf;refine A5 (Ba (Bb (As (wv (r:=rI .i64 0) (Aj Aa) (A0 (A1 ?_))))));obtain rfl:=A6 hi;exact A4 (B8 V9 (AW Aa)) sN ⟨Aa,Aa⟩
end Go.Proofs.YthbbedliepkakaaGreatDoor.Q
namespace Go.Proofs.YthbbedliepkakaaGreatDoor
open Go
set_option linter.unusedVariables false
end Go.Proofs.YthbbedliepkakaaGreatDoor
namespace Go.Proofs.YthbbedliepkakaaGreatDoor.Q
open Go Go.RowKit
set_option linter.unusedVariables false
set_option linter.unusedSimpArgs false
set_option maxRecDepth 100000
set_option maxHeartbeats 4000000
end Go.Proofs.YthbbedliepkakaaGreatDoor.Q
namespace Go.Proofs.YthbbedliepkakaaGreatDoor
open Go
set_option linter.unusedVariables false
end Go.Proofs.YthbbedliepkakaaGreatDoor
namespace Go.Proofs.YthbbedliepkakaaGreatDoor.Q
open Go Go.RowKit
set_option linter.unusedVariables false
set_option linter.unusedSimpArgs false
set_option maxRecDepth 100000
set_option maxHeartbeats 4000000
end Go.Proofs.YthbbedliepkakaaGreatDoor.Q
namespace Go.Proofs.YthbbedliepkakaaGreatDoor
open Go
set_option linter.unusedVariables false
def Hk (a:(List Au))(b:(List Au))(ha:Int):Option (Stp (Int) (Out (Bool) (Unit))):=
 B0 (decide (ha<(a.length:Int))) (Bn (C6 ha (a.length:Int))<|Bn (C6 ha (b.length:Int))<|B0 (!(decide (((Ac a ha).fKind)=((Ac b ha).fKind))&&decide (((Ac a ha).fInt)=((Ac b ha).fInt))&&decide (((Ac a ha).fStr)=((Ac b ha).fStr))&&decide (((Ac a ha).fN)=((Ac b ha).fN)))) (some (.out (.ret false))) (Bn (BZ .i64 (ha+1))<|some (.next (ha+1)))) (some (.out (.go ())))
def K9 :Option (Bool):=
 some true
def LH (F:Nat)(a:(List Au))(b:(List Au)):Option (Bool):=
 B0 (!decide ((a.length:Int)=(b.length:Int))) (some false) (B7 (BS (λσ=>Hk a b σ) F 0) (BP λν=>K9 ))
end Go.Proofs.YthbbedliepkakaaGreatDoor
namespace Go.Proofs.YthbbedliepkakaaGreatDoor.Q
open Go Go.RowKit
set_option linter.unusedVariables false
set_option linter.unusedSimpArgs false
set_option maxRecDepth 100000
set_option maxHeartbeats 4000000
theorem Vu {a0 b0:Int}{a1 b1:Int}{a2 b2:AE}{a3 b3:Int}(w:World):(Op.equalIn 10000 95 (.agg #[.int .i64 a0,.int .i64 a1,.string (B a2),.int .i64 a3]) (.agg #[.int .i64 b0,.int .i64 b1,.string (B b2),.int .i64 b3])).run Tryz.prog w = .ok (decide (a0=b0)&&decide (a1=b1)&&decide (a2=b2)&&decide (a3=b3)) w:=by
  have hS:Tryz.prog.underlying 95=some (.struct (Tryz.prog.fieldsOf 95)):=by kernel_rfl
  have hp:Tryz.prog.stoodInHeld 95=false:=by kernel_rfl
  have u3:=Yy;have ia3:=BO;have so3:=BG;have u9:=Eo;have ia9:=Dr;have so9:=Dq;have ha:=Tryz.underlying93;have hb:=Gp;have hd:=Gm;rw[show(10000:Nat)=9999+1 from rfl,run_equalIn_agg w 9999 95 _ _ hS hp];simp only[Program.fieldsOf,B9]
  go_simp
  simp only[Gi]
  by_cases h0:a0=b0<;>by_cases h1:a1=b1<;>by_cases h2:a2=b2<;>by_cases h3:a3=b3<;>simp[h0,h1,h2,h3]
theorem PV {n:Nat}{c:Cx}{l:Fr}{H:List Ent}{d:Option Nat}{ty rty:TypeId}{pos:String}{af:Array Edge}{g:Option (Nat×Bool)}{x y:Operand}{a0 b0:Int}{a1 b1:Int}{a2 b2:AE}{a3 b3:Int}(hx:ev l x=some (By [rI .i64 a0,rI .i64 a1,rS a2,rI .i64 a3]))(hy:ev l y=some (By [rI .i64 b0,rI .i64 b1,rS b2,rI .i64 b3])):Br Tryz.prog n c l H { dst:=d,op:=.binOp .neq 95 x y rty,type:=ty,pos:=pos,after:=af,guard:=g } (rB (!(decide (a0=b0)&&decide (a1=b1)&&decide (a2=b2)&&decide (a3=b3)))):=λa w Z ha hw=>by
  obtain⟨us,e1,q1⟩:=ha.ev hx;obtain⟨vs,e2,q2⟩:=ha.ev hy;have k1:=Bg.eq_rv (us:=[.int .i64 a0,.int .i64 a1,.string (B a2),.int .i64 a3]) q1;have k2:=Bg.eq_rv (us:=[.int .i64 b0,.int .i64 b1,.string (B b2),.int .i64 b3]) q2;subst k1;subst k2;have hm:Tryz.prog.eqGuardType Tryz.prog.depth 95=false:=by kernel_rfl
  have hb:=Vu (a0:=a0) (a1:=a1) (a2:=a2) (a3:=a3) (b0:=b0) (b1:=b1) (b2:=b2) (b3:=b3) w;refine⟨.bool (!(decide (a0=b0)&&decide (a1=b1)&&decide (a2=b2)&&decide (a3=b3))),rfl,?_⟩;have hg:=run_eqGuard_agg (P:=Tryz.prog) w .neq 95 x y #[.int .i64 a0,.int .i64 a1,.string (B a2),.int .i64 a3] #[.int .i64 b0,.int .i64 b1,.string (B b2),.int .i64 b3] hm;simp only[execOp,e1,e2,Sem.run_bind,hg,Result.andThen_ok,run_neq_struct,hb,Sem.run_pure]
theorem VY (F:Nat)(a:(List Au))(b:(List Au))(r:Bool)(h:LH F a b=some r):Fn Tryz.prog GE 69 [Bo 4 (List.map Al a),Bo 4 (List.map Al b)] [] (λR H=>R=rB r∧H=[]):=by
 refine enter (n:=26) Tryz.func69 Aa Tryz.ntmps69 Aa (λw Z=>?_);refine Bd (l':=[(0,Bo 4 (List.map Al a)),(1,Bo 4 (List.map Al b))]) (H':=[]) Aa Aa ?_;unfold LH at h;refine As (wv (r:=rB false) (Aj Aa) (A0 (Av (As (wm Aa (wv (BM (ys:=a) (enc:=Al) DW Aa) (wm Aa (wv (BM (ys:=b) (enc:=Al) DW Aa) (wv (DJ Aa Aa) (A0 (A2 (b:=!decide ((a.length:Int)=(b.length:Int))) Aa (λc1=>?_) (λc1=>?_))))))))))))
 ·have h2:=AM c1 h;refine As (wv (r:=rB false) (Aj Aa) (A0 (A1 (Am ?_))));obtain rfl:=A6 h2;exact A4 (B8 Tryz.results69 (AW Aa)) sN ⟨Aa,Aa⟩
 ·have h3:=AN c1 h;refine A5 (Bb (Av (As (wv (r:=rI .i64 0) (Aj Aa) (A0 (AV ?_))))));obtain⟨hj,hk,hh⟩:=AX h3;refine B6 (S:=Nat×(Int)×(Unit)) (V:=(Unit)×(Unit)) 0 (λσ=>BS (λσ=>Hk a b σ) σ.1 σ.2.1=some hj) (λσ=>[(0,Bo 4 (List.map Al a)),(1,Bo 4 (List.map Al b)),(5,rI .i64 σ.2.1)]) (λσ=>[]) (λσ=>σ.1) (F,0,()) hk (AT.c Aa (AT.c Aa (AT.c Aa AT.nil))) sN (λσ=>K9 =some r) (λσ=>[]) (λσ=>[]) ?_ ?_
  ·rintro⟨h1,ha,⟨⟩⟩ hl;refine Bd (l':=[(0,Bo 4 (List.map Al a)),(1,Bo 4 (List.map Al b)),(5,rI .i64 ha)]) (H':=[]) Aa Aa ?_;obtain⟨hm,rfl,hn,hb,he⟩:=Df hl;replace hb:Hk a b ha=some hn:=hb;unfold Hk at hb;refine Av (As (wm Aa (wm Aa (wv (BM (ys:=a) (enc:=Al) DW Aa) (wv (Cm Aa Aa) (A0 (A2 (b:=decide (ha<(a.length:Int))) Aa (λhf=>?_) (λhf=>?_))))))))
   ·have ho:=AM hf hb;refine A5 (Bb (Av (AV (Av ?_))));obtain⟨hp,hq⟩:=AA ho;obtain⟨hr,hi⟩:=AA hq;refine CH [0,1,5] [⟨[],Bo 4 (List.map Al a),0⟩,⟨[],rI .i64 ha,0⟩,⟨[0,1],J4 (Al (Ac a ha)),0⟩,⟨[2],By (Al (Ac a ha)),0⟩,⟨[],Bo 4 (List.map Al b),0⟩,⟨[],rI .i64 ha,0⟩,⟨[4,5],J4 (Al (Ac b ha)),0⟩,⟨[6],By (Al (Ac b ha)),0⟩,⟨[3,7],rB (!(decide (((Ac a ha).fKind)=((Ac b ha).fKind))&&decide (((Ac a ha).fInt)=((Ac b ha).fInt))&&decide (((Ac a ha).fStr)=((Ac b ha).fStr))&&decide (((Ac a ha).fN)=((Ac b ha).fN)))),0⟩] [17,18,19,20,21,22,23,24,25,0,1,5] ?_ ?_
    ·refine oq (At Aa) (oq (At Aa) (oq (Ce (enc:=Al) (ys:=a) DW E1 Aa Aa hp) (oq (CX Nv E1 Aa Aa Aa) (oq (At Aa) (oq (At Aa) (oq (Ce (enc:=Al) (ys:=b) DW E1 Aa Aa hr) (oq (CX Nv E1 Aa Aa Aa) (oq (PV Aa Aa) ?_))))))));exact CE
    refine Bb (A2 (b:=!(decide (((Ac a ha).fKind)=((Ac b ha).fKind))&&decide (((Ac a ha).fInt)=((Ac b ha).fInt))&&decide (((Ac a ha).fStr)=((Ac b ha).fStr))&&decide (((Ac a ha).fN)=((Ac b ha).fN)))) Aa (λhg=>?_) (λhg=>?_))
    ·have hs:=AM hg hi;refine As (wv (r:=rB false) (Aj Aa) (A0 (A1 (AK (Am (Am (Bw ?_)))))));have ht:=Cc hs he hh;refine AK (Am ?_);obtain rfl:=A6 ht;exact A4 (B8 Tryz.results69 (AW Aa)) sN ⟨Aa,Aa⟩
    ·have hu:=AN hg hi;refine A5 (Ba (Bb (Ao (wm Aa ?_))));obtain⟨hw,hx⟩:=AA hu;refine wv (Bv Aa Aa hw) (wa Aa (Ap ?_));have hy:=Bx hx he;exact Az (AJ (hm,ha+1,()) ⟨hy,Zo _⟩ (AT.c Aa (AT.c Aa (AT.c Aa AT.nil))) sN)
   ·have hz:=AN hf hb;refine B2 (A8 ?_);have h0:=Cn hz he hh;exact A8 (Bj (AJ ((),()) h0 AT.nil sN))
  ·rintro⟨⟨⟩,⟨⟩⟩ hd;refine C7 (l':=[]) (H':=[]) Aa Aa ?_;replace hd:K9 =some r:=hd;unfold K9 at hd;refine Bh (Bb (As (wv (r:=rB true) (Aj Aa) (A0 (A1 ?_)))));obtain rfl:=A6 hd;exact A4 (B8 Tryz.results69 (AW Aa)) sN ⟨Aa,Aa⟩
end Go.Proofs.YthbbedliepkakaaGreatDoor.Q
namespace Go.Proofs.YthbbedliepkakaaGreatDoor
open Go
set_option linter.unusedVariables false
end Go.Proofs.YthbbedliepkakaaGreatDoor
namespace Go.Proofs.YthbbedliepkakaaGreatDoor.Q
open Go Go.RowKit
set_option linter.unusedVariables false
set_option linter.unusedSimpArgs false
set_option maxRecDepth 100000
set_option maxHeartbeats 4000000
end Go.Proofs.YthbbedliepkakaaGreatDoor.Q
namespace Go.Proofs.YthbbedliepkakaaGreatDoor
open Go
set_option linter.unusedVariables false
set_option linter.unusedSimpArgs false
section
variable {T S : Type}
def mget:List (AE×T)→AE→Option T
 | [],_=>none
 | p::r,k=>bif decide (p.1=k) then some p.2 else mget r k
def Dl (xs:List (AE×T))(k:AE)(z:T):T:=(mget xs k).getD z
def Dh (xs:List (AE×T))(k:AE):Bool:=(mget xs k).isSome
def mins (k:AE)(v:T):List (AE×T)→List (AE×T)
 | []=>[(k,v)]
 | p::r=>bif Cz k p.1 then(k,v)::p::r else p::mins k v r
def mput (xs:List (AE×T))(k:AE)(v:T):List (AE×T):=xs.map λp=>bif decide (p.1=k) then(k,v) else p
def mset (xs:List (AE×T))(k:AE)(v:T):List (AE×T):=bif Dh xs k then mput xs k v else mins k v xs
def mdel (xs:List (AE×T))(k:AE):List (AE×T):=xs.filter λp=>!decide (p.1=k)
def AR (f:T→S)(xs:List (AE×T)):List (AE×S):=xs.map λp=>(p.1,f p.2)
theorem KO (f:T→S):∀(xs:List (AE×T)) (k:AE),mget (AR f xs) k=(mget xs k).map f
 | [],k=>rfl
 | p::r,k=>by
  show(bif decide (p.1=k) then some (f p.2) else mget (AR f r) k)=_;rw[mget,KO f r k]
  cases decide (p.1=k)<;>rfl
theorem UK (f:T→S)(xs:List (AE×T))(k:AE):Dh (AR f xs) k=Dh xs k:=by
 unfold Dh;rw[KO];cases mget xs k<;>rfl
theorem PX (f:T→S)(k:AE)(v:T):∀xs:List (AE×T),AR f (mins k v xs)=mins k (f v) (AR f xs)
 | []=>rfl
 | p::r=>by
  show AR f (bif Cz k p.1 then(k,v)::p::r else p::mins k v r)=(bif Cz k p.1 then(k,f v)::(p.1,f p.2)::AR f r else(p.1,f p.2)::mins k (f v) (AR f r));rw[← PX f k v r]
  cases Cz k p.1<;>rfl
theorem UJ (f:T→S)(xs:List (AE×T))(k:AE)(v:T):AR f (mset xs k v)=mset (AR f xs) k (f v):=by
 unfold mset;rw[UK]
 cases Dh xs k with
 | false=>exact PX f k v xs
 | true=>
  show AR f (mput xs k v)=mput (AR f xs) k (f v);unfold AR mput;rw[ZY,ZY];refine List.map_congr_left λp _=>?_;show _=(bif decide (p.1=k) then(k,f v) else(p.1,f p.2));simp only[Function.comp]
  cases decide (p.1=k)<;>rfl
theorem UL (f:T→S)(xs:List (AE×T))(k:AE):AR f (mdel xs k)=mdel (AR f xs) k:=by
 unfold AR mdel;rw[List.filter_map];rfl
theorem IX (f:T→S)(xs:List (AE×T)):(AR f xs).length=xs.length:=by simp[AR]
theorem Ly (k:AE)(v:T):∀xs:List (AE×T),(mins k v xs).Perm ((k,v)::xs)
 | []=>Zb _
 | p::r=>by
  rw[mins]
  cases Cz k p.1 with
  | true=>exact Zb _
  | false=>exact((Ly k v r).cons p).trans (List.Perm.swap _ _ _)
def GO (x:T):List T→List (List T)
 | []=>[[x]]
 | y::r=>(x::y::r)::(GO x r).map (y::·)
def JB:List T→List (List T)
 | []=>[[]]
 | x::r=>(JB r).flatMap (GO x)
theorem LL (x:T):∀(a b:List T),a++x::b∈GO x (a++b)
 | [],[]=>by simp[GO]
 | [],y::b=>by simp[GO]
 | y::a,b=>by
  simp only[ZR,GO,ZU,List.mem_map];exact .inr ⟨_,LL x a b,rfl⟩
theorem NK:∀(xs ys:List T),ys.Perm xs→ys∈JB xs
 | [],ys,h=>by rw[h.eq_nil];simp[JB]
 | x::r,ys,h=>by
  have hx:x∈ys:=h.symm.subset (List.mem_cons_self ..);obtain⟨a,b,rfl⟩:=List.append_of_mem hx;have h2:(a++b).Perm r:=(List.perm_middle.symm.trans h).cons_inv;simp only[JB,List.mem_flatMap];exact⟨a++b,NK r _ h2,LL x a b⟩
def OC {R:Type}[DecidableEq R](xs:List T)(K:List T→Option R):Option R:=match K xs with
 | none=>none
 | some r=>bif (JB xs).all (λp=>decide (K p=some r)) then some r else none
theorem OB {R:Type}[DecidableEq R]{xs:List T}{K:List T→Option R}{r:R}(h:OC xs K=some r):∀p:List T,p.Perm xs→K p=some r:=λp hp=>by
 unfold OC at h
 cases hk:K xs with
 | none=>rw[hk] at h;cases h
 | some q=>
  rw[hk] at h;simp only at h
  cases ha:(JB xs).all (λp=>decide (K p=some q)) with
  | false=>rw[ha] at h;cases h
  | true=>
   rw[ha] at h;cases h;exact ZQ (List.all_eq_true.1 ha p (NK xs p hp))
theorem HY (x:T):∀(xs ys:List T),ys∈GO x xs→ys.Perm (x::xs)
 | [],ys,h=>by simp[GO] at h;rw[h]
 | y::r,ys,h=>by
  simp only[GO,ZU,List.mem_map] at h;rcases h with rfl | ⟨z,hz,rfl⟩
  ·exact Zb _
  ·exact((HY x r z hz).cons y).trans (List.Perm.swap _ _ _)
theorem MU:∀(xs ys:List T),ys∈JB xs→ys.Perm xs
 | [],ys,h=>by simp[JB] at h;rw[h]
 | x::r,ys,h=>by
  simp only[JB,List.mem_flatMap] at h;obtain⟨z,hz,hy⟩:=h;exact(HY x z ys hy).trans ((MU r z hz).cons x)
theorem Xv {R:Type}[DecidableEq R]{xs:List T}{K:List T→Option R}{r:R}(h:∀p:List T,p.Perm xs→K p=some r):OC xs K=some r:=by
 unfold OC;rw[h xs (Zb _)];have:(JB xs).all (λp=>decide (K p=some r))=true:=List.all_eq_true.2 λp hp=>Zc (h p (MU xs p hp));simp only[this];rfl
def N1 {St O:Type}(body:T→St→Option (Stp St (Out O St))):List T→St→Option (Out O St)
 | [],s=>some (.go s)
 | x::r,s=>match body x s with
  | none=>none
  | some (.next s')=>N1 body r s'
  | some (.out o)=>some o
def Yu {St R:Type}(body:T→St→Option (Stp St (Out R St)))(ys:List T)(K:St→Option R)(r:R):Stp St (Out R St)→Prop
 | .next s'=>∀q:List T,q.Perm ys→B7 (N1 body q s') (BP K)=some r
 | .out o=>BP K o=some r
theorem RU {St R:Type}{body:T→St→Option (Stp St (Out R St))}{ys ys':List T}{p:T}{s:St}{K:St→Option R}{r:R}(h:∀q:List T,q.Perm ys→B7 (N1 body q s) (BP K)=some r)(hp:ys.Perm (p::ys')):∃t,body p s=some t∧Yu body ys' K r t:=by
 have h1:∀q:List T,q.Perm ys'→B7 (N1 body (p::q) s) (BP K)=some r:=λq hq=>h _ ((hq.cons p).trans hp.symm)
 cases hb:body p s with
 | none=>
  have:=h1 ys' (Zb _);rw[N1,hb] at this;cases this
 | some t=>
  refine⟨t,rfl,?_⟩
  cases t with
  | next s'=>
   intro q hq;have:=h1 q hq;rw[N1,hb] at this;exact this
  | out o=>
   have:=h1 ys' (Zb _);rw[N1,hb] at this;exact this
theorem Mo {St R:Type}{body:T→St→Option (Stp St (Out R St))}{ys:List T}{s:St}{K:St→Option R}{r:R}(h:∀q:List T,q.Perm ys→B7 (N1 body q s) (BP K)=some r)(hy:ys=[]):K s=some r:=by
 subst hy;exact h [] (Zb _)
theorem EL {St R:Type}{body:T→St→Option (Stp St (Out R St))}{ys:List T}{s':St}{K:St→Option R}{r:R}{t:Stp St (Out R St)}(h:some (Stp.next s')=some t)(ht:Yu body ys K r t):∀q:List T,q.Perm ys→B7 (N1 body q s') (BP K)=some r:=by cases h;exact ht
theorem H5 {ys ys':List T}{p:T}(h:ys.Perm (p::ys')):ys'.length<ys.length:=by rw[h.length_eq];exact Zo _
end
section
variable {T S : Type}
def SK (lt:T→T→Bool)(x:T):List T→List T
 | []=>[x]
 | y::r=>bif lt y x then y::SK lt x r else x::y::r
def Gq (lt:T→T→Bool):List T→List T
 | []=>[]
 | x::r=>SK lt x (Gq lt r)
theorem Ll (lt:T→T→Bool)(x:T):∀xs:List T,(SK lt x xs).Perm (x::xs)
 | []=>Zb _
 | y::r=>by
  rw[SK]
  cases lt y x with
  | true=>exact((Ll lt x r).cons y).trans (List.Perm.swap _ _ _)
  | false=>exact Zb _
theorem CZ (lt:T→T→Bool):∀xs:List T,(Gq lt xs).Perm xs
 | []=>Zb _
 | x::r=>(Ll lt x _).trans ((CZ lt r).cons x)
def E4 (lt:T→T→Bool):List T→Bool
 | []=>true
 | x::r=>r.all (λy=>lt x y||lt y x)&&E4 lt r
structure V0 (lt:T→T→Bool):Prop where
 irrefl:∀x,lt x x=false
 ntrans:∀x y z,lt x y=false→lt y z=false→lt x z=false
 asym:∀x y,lt x y=true→lt y x=false
theorem JQ {lt:T→T→Bool}:∀{xs:List T},E4 lt xs=true→xs.Pairwise λx y=>(lt x y||lt y x)=true
 | [],_=>List.Pairwise.nil
 | x::r,h=>by
  simp only[E4,Zd,ZD] at h;exact List.pairwise_cons.2 ⟨λy hy=>h.1 y hy,JQ h.2⟩
theorem KH {R:T→T→Prop}(hs:∀x y,R x y→R y x):∀{xs:List T},xs.Pairwise R→∀a b,a∈xs→b∈xs→a=b∨R a b
 | [],_,a,b,h,_=>by cases h
 | x::r,h,a,b,ha,hb=>by
  rw[List.pairwise_cons] at h;rcases List.mem_cons.1 ha with e | ha1
  ·rcases List.mem_cons.1 hb with e2 | hb1
   ·exact .inl (e.trans e2.symm)
   ·exact .inr (e▸h.1 b hb1)
  ·rcases List.mem_cons.1 hb with e2 | hb1
   ·exact .inr (hs _ _ (e2▸h.1 a ha1))
   ·exact KH hs h.2 a b ha1 hb1
theorem LF {lt:T→T→Bool}(L:V0 lt)(x:T):∀{xs:List T},(xs.Pairwise λx y=>lt y x=false)→(SK lt x xs).Pairwise λx y=>lt y x=false
 | [],_=>List.pairwise_singleton _ _
 | y::r,h=>by
  rw[List.pairwise_cons] at h;rw[SK]
  cases hy:lt y x with
  | true=>
   refine List.pairwise_cons.2 ⟨λz hz=>?_,LF L x h.2⟩;rcases List.mem_cons.1 ((Ll lt x r).subset hz) with e | h1
   ·rw[e];exact L.asym _ _ hy
   ·exact h.1 z h1
  | false=>
   refine List.pairwise_cons.2 ⟨λz hz=>?_,List.pairwise_cons.2 h⟩;rcases List.mem_cons.1 hz with e | h1
   ·rw[e];exact hy
   ·exact L.ntrans _ _ _ (h.1 z h1) hy
theorem Hi {lt:T→T→Bool}(L:V0 lt):∀xs:List T,(Gq lt xs).Pairwise λx y=>lt y x=false
 | []=>List.Pairwise.nil
 | x::r=>LF L x (Hi L r)
theorem Ou {lt:T→T→Bool}(L:V0 lt){xs ys:List T}(hd:E4 lt xs=true)(hp:ys.Perm xs)(hs:ys.Pairwise λx y=>lt y x=false):ys=Gq lt xs:=by
 refine List.Perm.eq_of_pairwise (le:=λx y=>lt y x=false) ?_ hs (Hi L xs) (hp.trans (CZ lt xs).symm);intro a b ha hb h2 h3;have hb':b∈xs:=(CZ lt xs).subset hb;rcases KH (R:=λx y=>(lt x y||lt y x)=true) (λx y h=>by rw[Bool.or_comm];exact h) (JQ hd) a b (hp.subset ha) hb' with h | h
 ·exact h
 ·rw[h2,h3] at h;cases h
theorem QT {lt:T→T→Bool}{xs ys:List T}(hd:E4 lt xs=true)(hp:ys.Perm xs):E4 lt ys=true:=by
 have h1:=(hp.symm.pairwise_iff (R:=λx y=>(lt x y||lt y x)=true) (fun {x y} h=>by rw[Bool.or_comm];exact h)).1 (JQ hd);clear hd hp
 induction ys with
 | nil=>rfl
 | cons x r ih=>
  rw[List.pairwise_cons] at h1;simp only[E4,Zd,ZD];exact⟨h1.1,ih h1.2⟩
theorem SH {lt:T→T→Bool}(L:V0 lt){xs ys:List T}(hd:E4 lt xs=true)(hp:ys.Perm xs):Gq lt ys=Gq lt xs:=Ou L hd ((CZ lt ys).trans hp) (Hi L ys)
inductive All2 (R:T→S→Prop):List T→List S→Prop
 | nil:All2 R [] []
 | cons {x y xs ys}:R x y→All2 R xs ys→All2 R (x::xs) (y::ys)
theorem All2.length {R:T→S→Prop}{xs:List T}{ys:List S}(h:All2 R xs ys):xs.length=ys.length:=by
 induction h with
 | nil=>rfl
 | cons _ _ ih=>simp[ih]
theorem All2.perm {R:T→S→Prop}{ys zs:List S}(hp:ys.Perm zs):∀{xs:List T},All2 R xs ys→∃xs',xs'.Perm xs∧All2 R xs' zs:=by
 induction hp with
 | nil=>intro xs h;exact⟨xs,Zb _,h⟩
 | cons a _ ih=>
  intro xs h
  cases h with
  | cons h1 h2=>obtain⟨x',p,h3⟩:=ih h2;exact⟨_,p.cons _,.cons h1 h3⟩
 | swap a b l=>
  intro xs h
  cases h with
  | cons h1 h2=>cases h2 with
   | cons h3 h4=>exact⟨_,List.Perm.swap _ _ _,.cons h3 (.cons h1 h4)⟩
 | trans _ _ ih1 ih2=>
  intro xs h;obtain⟨x1,p1,h1⟩:=ih1 h;obtain⟨x2,p2,h2⟩:=ih2 h1;exact⟨x2,p2.trans p1,h2⟩
end
def DU (n1 n2 p1 p2:Int):Bool:=decide (n1<n2)||(decide (n1=n2)&&decide (p1<p2))
theorem NM {n1 n2 p1 p2:Int}:DU n1 n2 p1 p2=true↔n1<n2∨(n1=n2∧p1<p2):=by
 unfold DU;simp
theorem Jz {n1 n2 p1 p2:Int}:DU n1 n2 p1 p2=false↔¬ n1<n2∧(n1=n2→¬ p1<p2):=by
 unfold DU;simp
theorem RS {T:Type}(n p:T→Int):V0 λx y=>DU (n x) (n y) (p x) (p y):=⟨λx=>Jz.2 ⟨by omega,λ_=>by omega⟩,λx y z h1 h2=>by
 rw[Jz] at *;exact⟨by omega,λe=>by omega⟩,λx y h=>by
 rw[NM] at h;rw[Jz];exact⟨by omega,λe=>by omega⟩⟩
structure Ay where
 fID:AE
 fTenant:AE
 fSource:AE
 fKey:AE
 fAt:Int
 fCause:AE
 fBody:(List Au)
 deriving DecidableEq,Inhabited
structure Ad where
 fEvent:Ay
 fAt:Int
 fReceives:Int
 fHeld:Bool
 fPlace:Int
 deriving DecidableEq,Inhabited
def OR (ys:(List Au)):Option ((List Au)):=
 Bn (IB 40 (([]:List Au).length+ys.length))<|some (([]:List Au)++ys)
def OI (c:Int):Option (Bool):=
 some ((decide (97≤c))&&(decide (c≤122)))
def Mu (c:Int):Option (Bool):=
 some ((decide (48≤c))&&(decide (c≤57)))
def Cu (ha:Bool):Option (Bool):=
 some ha
def OJ (c:Int):Option (Bool):=
 B7 (OI c) λha=>B0 (ha) (Cu true) (B0 (decide (65≤c)) (B0 (decide (c≤90)) (Cu true) (B7 (Mu c) λhb=>B0 (hb) (Cu true) (B0 (decide (c=45)) (Cu true) (B0 (decide (c=95)) (Cu true) (B0 (decide (c=46)) (Cu true) (B0 (decide (c=58)) (Cu true) (Cu (decide (c=47))))))))) (B7 (Mu c) λhd=>B0 (hd) (Cu true) (B0 (decide (c=45)) (Cu true) (B0 (decide (c=95)) (Cu true) (B0 (decide (c=46)) (Cu true) (B0 (decide (c=58)) (Cu true) (Cu (decide (c=47)))))))))
def GP (s:AE)(ha:Int):Option (Stp (Int) (Out (Bool) (Unit))):=
 B0 (decide (ha<(s.length:Int))) (Bn (C6 ha (s.length:Int))<|B7 (OJ (Cr s ha)) λhb=>B0 (!hb) (some (.out (.ret false))) (Bn (BZ .i64 (ha+1))<|some (.next (ha+1)))) (some (.out (.go ())))
def Mr :Option (Bool):=
 some true
def DL (F:Nat)(s:AE):Option (Bool):=
 B0 (((decide ((s.length:Int)<1))||(decide (64<(s.length:Int))))) (some false) (B7 (BS (λσ=>GP s σ) F 0) (BP λν=>Mr ))
def Jf (F:Nat)(e:Ay):Option (Int):=
 B0 (((!(E0 e.fID))||((!(E0 e.fTenant))||((!(E0 e.fSource))||(bif !decide (e.fKey=([]:AE)) then((!(E0 e.fKey))||((!decide (e.fCause=([]:AE)))&&(!(E0 e.fCause)))) else((!decide (e.fCause=([]:AE)))&&(!(E0 e.fCause)))))))) (some 4) (B0 (((decide (e.fAt<0))||(decide (1073741824<e.fAt)))) (some 2) (B7 (MB F e.fBody) λha=>some ha))
def BR (F:Nat)(s:AE):Option (Bool):=
 Bn (imp (!(decide (s=([]:AE)))) ((DL F s).isSome))<|some ((decide (s=([]:AE)))||(ov (DL F s)))
def IV (F:Nat)(e:Ay):Option (Int):=
 Bn ((DL F e.fID).isSome)<|Bn (imp (!(!(ov (DL F e.fID)))) ((DL F e.fTenant).isSome))<|Bn (imp (!(!(ov (DL F e.fID)))) (imp (!(!(ov (DL F e.fTenant)))) ((DL F e.fSource).isSome)))<|Bn (imp (!(!(ov (DL F e.fID)))) (imp (!(!(ov (DL F e.fTenant)))) (imp (!(!(ov (DL F e.fSource)))) ((BR F e.fKey).isSome))))<|Bn (imp (!(!(ov (DL F e.fID)))) (imp (!(!(ov (DL F e.fTenant)))) (imp (!(!(ov (DL F e.fSource)))) (imp (!(!(ov (BR F e.fKey)))) ((BR F e.fCause).isSome)))))<|B0 (((!(ov (DL F e.fID)))||((!(ov (DL F e.fTenant)))||((!(ov (DL F e.fSource)))||((!(ov (BR F e.fKey)))||(!(ov (BR F e.fCause)))))))) (some 4) (B0 (((decide (e.fAt<0))||(decide (1073741824<e.fAt)))) (some 2) (B7 (MR F e.fBody) λha=>some ha))
def Ev (F:Nat)(a:Ay)(b:Ay):Option (Bool):=
 Bn (imp (decide (a.fID=b.fID)) (imp (decide (a.fTenant=b.fTenant)) (imp (decide (a.fSource=b.fSource)) (imp (decide (a.fKey=b.fKey)) (imp (decide (a.fAt=b.fAt)) (imp (decide (a.fCause=b.fCause)) ((LH F a.fBody b.fBody).isSome)))))))<|some ((decide (a.fID=b.fID))&&((decide (a.fTenant=b.fTenant))&&((decide (a.fSource=b.fSource))&&((decide (a.fKey=b.fKey))&&((decide (a.fAt=b.fAt))&&((decide (a.fCause=b.fCause))&&(ov (LH F a.fBody b.fBody))))))))
end Go.Proofs.YthbbedliepkakaaGreatDoor
