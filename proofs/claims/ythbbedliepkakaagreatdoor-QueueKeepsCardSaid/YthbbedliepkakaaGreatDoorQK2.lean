/-
  Texts of the proof, put together: IdC, ShelfV, PlD, PlE, FwJ, IdR, TzL, QG, QS, QO, RowQ, PQB, WQB, PVa, WVa, PVb, WVb, PVc, WVc, PVd, WVd, PVe, WVe, PVf, WVf, PM, PS, PSp, PUa, QU, QT, QN, QM, QI, QW, QV, PH, QJ, QX, QL, Q6, WUa, PUb.
-/
import Derived.Test.YthbbedliepkakaaGreatDoorQK1
import Derived.Shelf.Strings.Builder1
import Derived.Shelf.Strings.Count
import Derived.Shelf.Strings.Search1
import Derived.Shelf.Strings.Search2
import Derived.Shelf.Strings.Search3
import Derived.Shelf.Small.Strs
import Derived.Shelf.LaysM
import Derived.Shelf.LaysC
import Derived.Test.YthbbedliepkakaaGreatDoorProg
import Derived.Lib.ItoaMem
import Derived.Shelf.Lays7
import Derived.Shelf.Spec.TrailingZeros
import Derived.Laws.BytesString
import Derived.Lib.Builder
import Derived.Lib.UnsafeStr
import Derived.Lib.AppendStr
import Derived.Laws.Externs
import Derived.Deep.Slices
import Derived.ChangeArms
import Derived.DataReads
import Derived.Laws.Tables
import Derived.Lib.Bytealg
import Derived.Lib.SmallJoins
import Derived.Laws.StructEq
import Derived.Laws.Cover3
import Derived.MapKept
import Derived.Maps.RangeRun
import GoSem.Op.IntBits
import GoSem.Op.Shift
import Derived.ScopeJumps
import Derived.Laws.CopyRow
import Derived.Laws.IdiomCopy
import Derived.Laws.OwnMore
namespace Go.Proofs.YthbbedliepkakaaGreatDoor
open Go Go.RowKit
set_option linter.unusedVariables false
set_option linter.unusedSimpArgs false
set_option maxRecDepth 100000
theorem QX (p:List UInt8)(hp:p.length≤281474976710656)(w:World):Calls Tryz.prog 101 [.string (B (p))].toArray w (Jb w (.bool (MD p))):=by
 refine G9 (n:=43) Tryz.func101 rfl Tryz.ntmps101 rfl (A1 (As (A3 (Aj rfl) rfl (Aq (Az (Be ?_))))));refine A1 (As (A3 (Ax rfl) rfl (A3 (Aj rfl) rfl (Aq (Az (Be ?_))))));refine AO [(0,.string (B (p))),(2,.bool (false)),(3,.string (B ((if ((decide ((0)<((p.length:Int))))&&(decide ((DL p 0)=(45))))=true then List.drop (Int.toNat (1)) p else p))))] [] (φ:=True) ?_ (λh0=>?_)
 ·refine AO [(0,.string (B (p))),(2,.bool (false)),(3,.string (B (p))),(13,.bool (((decide ((0)<((p.length:Int))))&&(decide ((DL p 0)=(45))))))] [] (φ:=True) ?_ (λh1=>?_)
  ·refine As (A3 (Ax rfl) rfl (A3 (BU GO rfl) rfl (A3 (Du rfl rfl) rfl (A3 (Ax rfl) rfl (AP (decide ((0)<((p.length:Int)))) (λhd=>?_) (λhd=>?_))))))
   ·have hk:=hd;try simp only[Wp,Wq] at hk
    have f61:=hd;try simp at f61
    refine AZ rfl rfl hd (A3 (Ax rfl) rfl (AZ rfl rfl hd (A3 (D3 GO rfl rfl (by first | omega | exact ET (by assumption)) (by first | omega | exact ET (by assumption))) rfl (AZ rfl rfl hd (A3 (B6 rfl rfl) rfl (A3 (Ar rfl hd rfl) rfl (Aq ?_)))))));exact Az (B5 trivial ⟨rfl,rfl,rfl,fb (by first | (simp only[hd,WB,WU,WO,W7,WR,WP,WS,WV,W1,WF,W4,Wz,Xo,Xd,reduceIte,WX];done) | simp[hd]),trivial⟩ .slnil)
   ·have hk:=hd;try simp only[Wp,Wq] at hk
    have f61:=hd;try simp at f61
    refine Am rfl rfl hd rfl (Am rfl rfl hd rfl (Am rfl rfl hd rfl (A3 (AE rfl hd rfl) rfl (Aq ?_))));exact Az (B5 trivial ⟨rfl,rfl,rfl,fb (by first | (simp only[hd,WB,WU,WO,W7,WR,WP,WS,WV,W1,WF,W4,Wz,Xo,Xd,reduceIte,WX];done) | simp[hd]),trivial⟩ .slnil)
  refine AC (b:=((decide ((0)<((p.length:Int))))&&(decide ((DL p 0)=(45))))) rfl (λhg=>?_) (λhg=>?_)
  ·have hl:=hg;try simp only[Wp,Wq] at hl
   have hm:=hg;try simp at hm
   refine As (A3 (Ax rfl) rfl (A3 (Id GO rfl rfl (by first | omega | (simp;omega)) (by first | omega | (simp;omega))) rfl (A3 (Aj rfl) rfl (Aq ?_))));exact Az (B5 trivial ⟨rfl,rfl,fs (by first | (simp only[hg,WB,WU,WO,W7,WR,WP,WS,WV,W1,WF,W4,Wz,Xo,Xd,reduceIte,WX];done) | simp[hg]),trivial⟩ .slnil)
  ·have hl:=hg;try simp only[Wp,Wq] at hl
   have hm:=hg;try simp at hm
   refine AH ?_;exact Az (B5 trivial ⟨rfl,rfl,fs (by first | (simp only[hg,WB,WU,WO,W7,WR,WP,WS,WV,W1,WF,W4,Wz,Xo,Xd,reduceIte,WX];done) | simp[hg]),trivial⟩ .slnil)
 have hdg:Ld p=(if ((decide ((0)<((p.length:Int))))&&(decide ((DL p 0)=(45))))=true then List.drop (Int.toNat (1)) p else p):=rfl;have hdl:=S9 p;rw[hdg] at hdl;generalize(if ((decide ((0)<((p.length:Int))))&&(decide ((DL p 0)=(45))))=true then List.drop (Int.toNat (1)) p else p)=dg at hdg hdl ⊢;refine A1 (AO [(2,.bool (false)),(3,.string (B (dg))),(26,.bool (((decide ((dg)=(([]:List UInt8))))||((decide ((DL dg 0)=(48)))&&(!(decide ((p)=(([48]:List UInt8)))))))))] [] (φ:=True) ?_ (λh2=>?_))
 ·refine As (A3 (Ax rfl) rfl (A3 (EB rfl rfl) rfl (A3 (Ax rfl) rfl (AP (decide ((dg)=(([]:List UInt8)))) (λha=>?_) (λha=>?_)))))
  ·have hn:=ha;try simp only[Wp,Wq] at hn
   have ho:=ha;try simp at ho
   refine Am rfl rfl ha rfl (Am rfl rfl ha rfl (Am rfl rfl ha rfl (Am rfl rfl ha rfl (Ed rfl rfl rfl (Ed rfl rfl rfl (Am rfl rfl ha rfl (A3 (Ar rfl ha rfl) rfl (Aq ?_))))))));exact Az (B5 trivial ⟨rfl,rfl,fb (by first | (simp only[ha,WB,WU,WO,W7,WR,WP,WS,WV,W1,WF,W4,Wz,Xo,Xd,reduceIte,WX];done) | simp[ha]),trivial⟩ .slnil)
  ·have hn:=ha;try simp only[Wp,Wq] at hn
   have ho:=ha;try simp at ho
   refine AZ rfl rfl ha (A3 (Ax rfl) rfl (AZ rfl rfl ha (A3 (D3 GO rfl rfl (by first | omega | exact ET (by assumption)) (by first | omega | exact ET (by assumption))) rfl (AZ rfl rfl ha (A3 (B6 rfl rfl) rfl (AZ rfl rfl ha (A3 (Ax rfl) rfl (AP (decide ((DL dg 0)=(48))) (λhe=>?_) (λhe=>?_)))))))))
   ·have hq:=he;try simp only[Wp,Wq] at hq
    have hr:=he;try simp at hr
    refine AZ rfl rfl he (A3 (Ax rfl) rfl (AZ rfl rfl he (A3 (NC rfl rfl) rfl (AZ rfl rfl ha (A3 (Ar rfl he rfl) rfl (A3 (AE rfl ha rfl) rfl (Aq ?_)))))));exact Az (B5 trivial ⟨rfl,rfl,fb (by first | (simp only[ha,he,WB,WU,WO,W7,WR,WP,WS,WV,W1,WF,W4,Wz,Xo,Xd,reduceIte,WX];done) | simp[ha,he]),trivial⟩ .slnil)
   ·have hq:=he;try simp only[Wp,Wq] at hq
    have hr:=he;try simp at hr
    refine Am rfl rfl he rfl (Am rfl rfl he rfl (AZ rfl rfl ha (A3 (AE rfl he rfl) rfl (A3 (AE rfl ha rfl) rfl (Aq ?_)))));exact Az (B5 trivial ⟨rfl,rfl,fb (by first | (simp only[ha,he,WB,WU,WO,W7,WR,WP,WS,WV,W1,WF,W4,Wz,Xo,Xd,reduceIte,WX];done) | simp[ha,he]),trivial⟩ .slnil)
 refine AC (b:=((decide ((dg)=(([]:List UInt8))))||((decide ((DL dg 0)=(48)))&&(!(decide ((p)=(([48]:List UInt8)))))))) rfl (λhf=>?_) (λhf=>?_)
 ·have hs:=hf;try simp only[Wp,Wq] at hs
  have ht:=hf;try simp at ht
  refine A1 (As (A3 (Aj rfl) rfl (Aq (Az (Be ?_)))));refine A7 (Ak (AA (BZ rfl rfl) ?_));exact HW (by simp only[MD,hdg,hf];rfl)
 ·have hs:=hf;try simp only[Wp,Wq] at hs
  have ht:=hf;try simp at ht
  refine AH (Az (Be ?_));refine A1 (A1 (As (A3 (Ax rfl) rfl (A3 (BU GO rfl) rfl (A3 (Ax rfl) rfl (Aq (Az (Be ?_))))))));refine Bc (Kc (S:=Nat) (λ(k:Nat)=>k≤dg.length∧Bj DG 0 dg=Bj DG k (dg.drop k)) (λ(k:Nat)=>[(29,.int .i64 ((k:Int))),(3,.string (B (dg))),(28,.int .i64 ((dg.length:Int)))]) (λ(k:Nat)=>[]) (λ(k:Nat)=>dg.length-k) (0) ?_ ⟨fi (by first | rfl | (simp;done) | omega | (simp;omega)),rfl,rfl,trivial⟩ .slnil ?_)
  ·exact⟨Xk _,by simp⟩
  rintro k hi0;refine A1 (As (A3 (EK rfl rfl) rfl (Aq (Az (Be ?_)))));refine A1 (AC (b:=decide (((k:Int))<((dg.length:Int)))) rfl (λhh=>?_) (λhh=>?_))
  ·have hj:=hh;try simp only[Wp,Wq] at hj
   have hu:=hh;try simp at hu
   refine AH (Az (Be ?_));refine A1 (Bc (A1 (As (A3 (Ax rfl) rfl (A3 (Aj rfl) rfl (Aq (Az (Be ?_))))))));refine AO [(3,.string (B (dg))),(4,.int .i64 ((k:Int))),(28,.int .i64 ((dg.length:Int))),(29,.int .i64 ((k:Int))),(30,.bool (decide (((k:Int))<((dg.length:Int))))),(31,.int .i64 ((k:Int))),(32,.string (B (dg))),(33,.int .i64 ((k:Int))),(34,.int .u8 (DL dg (k:Int))),(35,.bool (decide ((DL dg (k:Int))<(48)))),(36,.bool (decide ((DL dg (k:Int))<(48)))),(41,.bool (((decide ((DL dg (k:Int))<(48)))||(decide ((57)<(DL dg (k:Int)))))))] [] (φ:=True) ?_ (λh3=>?_)
   ·refine As (A3 (Ax rfl) rfl (A3 (Ax rfl) rfl (A3 (D3 GO rfl rfl (by first | omega | exact ET (by assumption)) (by first | omega | exact ET (by assumption))) rfl (A3 (EK rfl rfl) rfl (A3 (Ax rfl) rfl (AP (decide ((DL dg (k:Int))<(48))) (λhb=>?_) (λhb=>?_)))))))
    ·have hw:=hb;try simp only[Wp,Wq] at hw
     have hx:=hb;try simp at hx
     refine Am rfl rfl hb rfl (Am rfl rfl hb rfl (Am rfl rfl hb rfl (Am rfl rfl hb rfl (A3 (Ar rfl hb rfl) rfl (Aq ?_)))));exact Az (B5 trivial ⟨rfl,rfl,rfl,rfl,rfl,rfl,rfl,rfl,rfl,rfl,rfl,fb (by first | (simp only[hf,hh,hb,WB,WU,WO,W7,WR,WP,WS,WV,W1,WF,W4,Wz,Xo,Xd,reduceIte,WX];done) | simp[hf,hh,hb]),trivial⟩ .slnil)
    ·have hw:=hb;try simp only[Wp,Wq] at hw
     have hx:=hb;try simp at hx
     refine AZ rfl rfl hb (A3 (Ax rfl) rfl (AZ rfl rfl hb (A3 (Ax rfl) rfl (AZ rfl rfl hb (A3 (D3 GO rfl rfl (by first | omega | exact ET (by assumption)) (by first | omega | exact ET (by assumption))) rfl (AZ rfl rfl hb (A3 (Du rfl rfl) rfl (A3 (AE rfl hb rfl) rfl (Aq ?_)))))))));exact Az (B5 trivial ⟨rfl,rfl,rfl,rfl,rfl,rfl,rfl,rfl,rfl,rfl,rfl,fb (by first | (simp only[hf,hh,hb,WB,WU,WO,W7,WR,WP,WS,WV,W1,WF,W4,Wz,Xo,Xd,reduceIte,WX];done) | simp[hf,hh,hb]),trivial⟩ .slnil)
   refine AC (b:=((decide ((DL dg (k:Int))<(48)))||(decide ((57)<(DL dg (k:Int)))))) rfl (λhi=>?_) (λhi=>?_)
   ·have hy:=hi;try simp only[Wp,Wq] at hy
    have hz:=hi;try simp at hz
    refine A1 (As (A3 (Aj rfl) rfl (Aq (Az (Be ?_)))));refine A7 (AF (Ak (Ak (AF (Ak (AA (BZ rfl rfl) ?_))))));exact HW (by simp[MD,hdg,UW hi0 hj hi])
   ·have hy:=hi;try simp only[Wp,Wq] at hy
    have hz:=hi;try simp at hz
    refine AH (AY (Az (Be ?_)));refine As (A3 (C0 rfl rfl (IntWalk.i64_in _ (by omega))) rfl (A3 (Ax rfl) rfl (Aq (Az (AU (k+1) ?_ ⟨fi (by first | rfl | (simp;done) | omega | (simp;omega)),rfl,rfl,trivial⟩ .slnil)))));exact SA hi0 hj hi
  ·have hj:=hh;try simp only[Wp,Wq] at hj
   have hu:=hh;try simp at hu
   refine BN (AN (AN (B3 (Az (Be ?_)))));refine A1 (As (A3 (Aj rfl) rfl (Aq (Az (Be ?_)))));refine A7 (AA (BZ rfl rfl) ?_);exact HW (by simp only[MD,hdg,hf,TI hi0 hj];rfl)
theorem S5 (m:Int)(h0 : -9223372036854775808≤m)(h1:m≤9223372036854775807)(w:World)(hE:PS w):Calls Tryz.prog 65 [.int .i64 (m)].toArray w (Jb w (.string (B (Lib.itoa m)))):=by
 refine G9 (n:=5) Tryz.func65 rfl Tryz.ntmps65 rfl (A1 (As (A3 (Aj rfl) rfl (Aq (Az (Be ?_))))));refine A1 (As (A3 (Ax rfl) rfl (DA Tryz.call80 rfl (λw hw=>UK m (by omega) (by omega) w (hE.st0 hw)) rfl (A3 (Aj rfl) rfl (Aq (Az (Be ?_)))))));refine A7 (AA (BZ rfl rfl) ?_);exact HW (by first | rfl | simp[])
theorem Tv (p:List UInt8)(hp:p.length≤281474976710656)(w:World)(hE:PS w):Calls Tryz.prog 82 [.string (B (p))].toArray w (Jb w (.tuple #[.int .i64 (Bp p),.int .i64 (BW p)])):=by
 refine G9 (n:=22) Tryz.func82 rfl Tryz.ntmps82 rfl (A1 (As (A3 (Aj rfl) rfl (A3 (Aj rfl) rfl (Aq (Az (Be ?_)))))));refine A1 (A1 (As (A3 (Ax rfl) rfl (DA Tryz.call101 rfl (λw hw=>QX p (by first | omega | (simp;done) | (simp;omega) | (simp at *;omega)) w) rfl (A3 (Cz rfl) rfl (Aq (Az (Be ?_))))))));refine AC (b:=!(MD p)) rfl (λhb=>?_) (λhb=>?_)
 ·have hf:=hb;try simp only[Wp,Wq] at hf
  have ha:=hb;try simp only[Wp,Wq,Wu,WE,W5,Bool.not_eq_false',Xm,WN,not_or,Int.not_lt,Int.not_le] at ha
  refine A1 (As (A3 (Aj rfl) rfl (A3 (Aj rfl) rfl (Aq (Az (Be ?_))))));refine A7 (Ak (AA (Mn rfl rfl rfl) ?_));exact HW (by simp[Bp,BW,ha])
 ·have hf:=hb;try simp only[Wp,Wq] at hf
  have ha:=hb;try simp only[Wp,Wq,Wu,WE,W5,Bool.not_eq_false',Xm,WN,not_or,Int.not_lt,Int.not_le] at ha
  refine AH (Az (Be ?_));refine A1 (As (A3 (Ax rfl) rfl ?_));rcases SI (p:=p) (by assumption) with⟨av,hav,hal,hah⟩ | hav
  ·refine DA Tryz.call102 rfl (λw _=>TS p (by first | omega | (simp;done) | (simp;omega) | (simp at *;omega)) av hav w) rfl (A3 (Ax rfl) rfl (A3 (AM rfl rfl) rfl (A3 (AM rfl rfl) rfl (A3 (Aj rfl) rfl (A3 (Aj rfl) rfl (Aq (Az (Be ?_))))))));refine A1 (AO [(2,.int .i64 (0)),(3,.int .i64 (0)),(4,.int .i64 (av)),(20,.bool (!(K1 av)))] [] (φ:=True) ?_ (λhh=>?_))
   ·exact As (A3 (Ax rfl) rfl (A3 (NE Tryz.underlying137 rfl) rfl (A3 (Ax rfl) rfl (AZ rfl rfl rfl (A3 (Ax rfl) rfl (AZ rfl rfl rfl (DA Tryz.call103 rfl (λw hw=>Tb av w) rfl (AZ rfl rfl rfl (A3 (Cz rfl) rfl (A3 (AE rfl rfl rfl) rfl (Aq (Az (B5 trivial ⟨rfl,rfl,rfl,rfl,trivial⟩ .slnil)))))))))))))
   refine AC (b:=!(K1 av)) rfl (λhd=>?_) (λhd=>?_)
   ·have hg:=hd;try simp only[Wp,Wq] at hg
    have he:=hd;try simp only[Wp,Wq,Wu,WE,W5,Bool.not_eq_false',Xm,WN,not_or,Int.not_lt,Int.not_le] at he
    refine A1 (As (A3 (Aj rfl) rfl (A3 (Aj rfl) rfl (Aq (Az (Be ?_))))));refine A7 (Ak (AA (Mn rfl rfl rfl) ?_));exact HW (by simp[Bp,BW,hav,ha,he])
   ·have hg:=hd;try simp only[Wp,Wq] at hg
    have he:=hd;try simp only[Wp,Wq,Wu,WE,W5,Bool.not_eq_false',Xm,WN,not_or,Int.not_lt,Int.not_le] at he
    refine AH (Az (Be ?_));refine A1 (As (A3 (Ax rfl) rfl (A3 (Aj rfl) rfl (A3 (Aj rfl) rfl (Aq (Az (Be ?_)))))));refine A7 (AA (Mn rfl rfl rfl) ?_);exact HW (by simp[Bp,BW,hav,ha,he])
  ·refine Ta Tryz.call102 rfl (λw hw=>OU p (by first | omega | (simp;done) | (simp;omega) | (simp at *;omega)) hav w (hE.st0 hw)) rfl ?_;rintro _ _ ⟨am,at_,ab,rfl,rfl⟩;refine A3 (Ax rfl) rfl (A3 (AM rfl rfl) rfl (A3 (AM rfl rfl) rfl (A3 (Aj rfl) rfl (A3 (Aj rfl) rfl (Aq (Az (Be ?_)))))));refine A1 (AO [(2,.int .i64 (0)),(3,.int .i64 (0)),(4,.int .i64 (am)),(20,.bool (true))] [] (φ:=True) ?_ (λhi=>?_))
   ·exact As (A3 (Ax rfl) rfl (A3 (Ty Tryz.underlying137 rfl) rfl (A3 (Ax rfl) rfl (Am rfl rfl rfl rfl (Am rfl rfl rfl rfl (Am rfl rfl rfl rfl (A3 (Ar rfl rfl rfl) rfl (Aq (Az (B5 trivial ⟨rfl,rfl,rfl,rfl,trivial⟩ .slnil))))))))))
   refine C6 rfl rfl (A1 (As (A3 (Aj rfl) rfl (A3 (Aj rfl) rfl (Aq (Az (Be ?_)))))));refine A7 (Ak (AA (Mn rfl rfl rfl) ?_));exact HW (by simp[Bp,BW,hav,ha])
end Go.Proofs.YthbbedliepkakaaGreatDoor
namespace Go.Proofs
open Go.Shelf
def Tryz.lays138_ren:Go.Shelf.Ren:=⟨fun | 138=>130 | 195=>149 | 218=>150 | 143=>151 | 219=>121 | 217=>136 | 225=>137 | 224=>138 | 267=>139 | 266=>156 | 314=>157 | n=>n,fun | 9=>9 | 3=>3 | 4=>4 | 5=>5 | 0=>0 | 46=>112 | 146=>181 | 51=>133 | n=>n,fun | 1=>0 | n=>n⟩
theorem Tryz.lays138:Go.Proofs.Lays.n138 Tryz.prog Tryz.lays138_ren:={
 mixed:=by kernel_rfl
 f138:=Tryz.func130.trans (congrArg some (by kernel_rfl))
 f143:=Tryz.func151.trans (congrArg some (by kernel_rfl))
 f195:=Tryz.func149.trans (congrArg some (by kernel_rfl))
 f217:=Tryz.func136.trans (congrArg some (by kernel_rfl))
 f218:=Tryz.func150.trans (congrArg some (by kernel_rfl))
 f219:=Tryz.func121.trans (congrArg some (by kernel_rfl))
 f224:=Tryz.func138.trans (congrArg some (by kernel_rfl))
 f225:=Tryz.func137.trans (congrArg some (by kernel_rfl))
 f266:=Tryz.func156.trans (congrArg some (by kernel_rfl))
 f267:=Tryz.func139.trans (congrArg some (by kernel_rfl))
 f314:=Tryz.func157.trans (congrArg some (by kernel_rfl))
 t0:=Tryz.underlying0
 a0:=Tryz.isAgg0
 z0:=Tryz.sizeOf0
 v0:=Tryz.zeroValue0
 t3:=Tryz.underlying3
 a3:=Tryz.isAgg3
 z3:=Tryz.sizeOf3
 v3:=Tryz.zeroValue3
 t4:=Tryz.underlying4
 a4:=Tryz.isAgg4
 z4:=Tryz.sizeOf4
 v4:=Tryz.zeroValue4
 t5:=Tryz.underlying5
 a5:=Tryz.isAgg5
 z5:=Tryz.sizeOf5
 v5:=Tryz.zeroValue5
 t9:=Tryz.underlying9
 a9:=Tryz.isAgg9
 z9:=Tryz.sizeOf9
 v9:=Tryz.zeroValue9
 t46:=Tryz.underlying112
 a46:=Tryz.isAgg112
 z46:=Tryz.sizeOf112
 v46:=Tryz.zeroValue112
 t51:=Tryz.underlying133
 a51:=Tryz.isAgg133
 z51:=Tryz.sizeOf133
 v51:=Tryz.zeroValue133
 t146:=Tryz.underlying181
 a146:=Tryz.isAgg181
 z146:=Tryz.sizeOf181
 v146:=Tryz.zeroValue181
 g1:=by kernel_rfl }
open Go.RowKit Go.Lib in
theorem Tryz.strings_Count_one (s:ByteArray)(c:UInt8)(w:World) :
  Calls Tryz.prog 130 #[.string s,.string ⟨#[c]⟩] w λe w'=>e = .returned (.int .i64 (Lib.countByte s.data.toList c))∧w'=w:=Any.strings_Count_one Tryz.lays138 s c w
end Go.Proofs
namespace Go.Proofs.YthbbedliepkakaaGreatDoor
open Go
set_option linter.unusedVariables false
set_option linter.unusedSimpArgs false
open Go Go.RowKit
section
variable {P : Program} {n : Nat} {w0 : World} {M : List Nat} {l : Fr} {H : List Ent} {d : Option Nat} {x y : Operand} {ty t t' : TypeId} {pos : String} {af : Array Edge} {g : Option (Nat × Bool)} {k : IntKind} {p q z : Int}
end
set_option maxRecDepth 100000
end Go.Proofs.YthbbedliepkakaaGreatDoor
namespace Go.Proofs
open Go.Shelf
end Go.Proofs
namespace Go.Proofs.YthbbedliepkakaaGreatDoor.Q
open Go Go.RowKit
set_option linter.unusedVariables false
def GE (Z:Fz):Prop:=∀w,Re Z w→PS w
theorem GE.mono {Z Z':Fz}(h:Fz.le Z Z')(hg:GE Z):GE Z':=λw hw=>hg w ⟨λb o e=>hw b o (h b o e),λk i b e=>hw.nm k i b (h.nm k i b e)⟩
theorem Lo.rle {P:Program}{E:Fz→Prop}{f:FuncId}{args:List Rp}{r r':Rp}(h:Lo P E f args r)(hr:JO r r'):Lo P E f args r':=λw Z vs hv hs=>
 (h w Z vs hv hs).mono λe w' ⟨q,v,H,Z',he,⟨hq,hH⟩,hp,ht⟩=>⟨r',v,H,Z',he,⟨rfl,hH⟩,hr Z' v (hq▸hp),ht⟩
theorem JO.tup2 {a b:Value}:JO (rv (.tuple #[a,b])) (DK [rv a,rv b]):=λZ v h=>⟨[a,b],h,rfl,rfl,trivial⟩
theorem Lo.of_id {P:Program}{E:Fz→Prop}{f:FuncId}{vs:List Value}{v:Value}(h:∀w,Calls P f vs.toArray w (λe w'=>e = .returned v∧w'=w)):Lo P E f (vs.map rv) (rv v):=
 Lo.of_old λw Z _ _=>(h w).mono λe w' ⟨he,hw⟩=>⟨he,by rw[hw];exact Proofs.YthbbedliepkakaaGreatDoor.St.refl w []⟩
theorem NU (m:Int)(g:B7 .i64 m=true):Lo Tryz.prog GE 65 [rI .i64 m] (rS (Lib.itoa m)):=Lo.of_old (vs:=[.int .i64 m]) λw Z hf he=>S5 m (H5 g).1 (H5 g).2 w (he w hf)
theorem Tu (s:Ay)(g:HO 1 s.length=true):Lo Tryz.prog GE 82 [rS s] (DK [rI .i64 (Bp s),rI .i64 (BW s)]):=(Lo.of_old (vs:=[.string (B s)]) λw Z hf he=>Tv s (by simp[HO] at g;omega) w (he w hf)).rle JO.tup2
theorem PL (s:Ay)(c:UInt8):Lo Tryz.prog GE 130 [rS s,rS [c]] (rI .i64 (Lib.countByte s c)):=Lo.of_id (vs:=[.string (B s),.string (B [c])]) λw=>by have:=Tryz.strings_Count_one (B s) c w;rwa [OW] at this
theorem V3 (s:Ay)(m:Int):Lo Tryz.prog GE 136 [rS s,rI .u8 m] (rI .i64 (Lib.indexByte s (Int.toNat m).toUInt8)):=Lo.of_old (vs:=[.string (B s),.int .u8 m]) λw Z hf he=>NS s m w
theorem QO (s:Ay):Lo Tryz.prog GE 75 [rS s] (rB (Dg s)):=Lo.of_old (vs:=[.string (B s)]) λw Z hf he=>VT s w
set_option linter.unusedSimpArgs false
theorem L2 (l:List UInt8):((Rh l).map IW).flatten=(l.map λc=>Value.int .u8 c.toNat).map rv:=by
 induction l with
 | nil=>rfl
 | cons c r ih=>simp only[Rh,WY,List.flatten_cons] at ih ⊢;rw[ih];rfl
theorem Pm (l:List UInt8):(Rh l).length=l.length:=by simp[Rh]
section
variable {P : Program} {n : Nat} {c : Cx} {ops : Array Oper} {Q : Exit → Act → World → Prop} {rest : List Oper} {l : Fr} {H H' : List Ent} {d : Nat} {d' : Option Nat} {x y z3 : Operand} {ty t t' e : TypeId} {pos : String} {af : Array Edge} {g : Option (Nat × Bool)} {v u : Value} {r : Rp} {sz : Nat} {K : Act → World → Prop}
theorem Fn.bld {E:Fz→Prop}{f:FuncId}{args:List Rp}{T te:TypeId}{b:Nat}{v:Value}{s s':List UInt8}{res:Rp}
  (h:∀p,(p = .pointer none∨p = .pointer (some ⟨b,0,none⟩))→Fn P E f args [.blk b [rv p,rv v] T,.row v te 1 ((Rh s).map IW)] (λR H=>∃w0:Value,R=res∧H=[.blk b [rv (.pointer (some ⟨b,0,none⟩)),rv w0] T,.row w0 te 1 ((Rh s').map IW)])) :
  Fn P E f args [.bld T te b v s] (λR H=>∃w0:Value,R=res∧H=[.bld T te b w0 s']):=λw Z vs hv hs=>by
 obtain⟨p,hp,h1,h2,h3⟩:=hs.has _ (List.mem_singleton.2 rfl);have hfoot:[Ent.bld T te b v s].flatMap Ent.foot=[Ent.blk b [rv p,rv v] T,Ent.row v te 1 ((Rh s).map IW)].flatMap Ent.foot:=by simp[Ent.foot]
 have hs':St ⟨w,Z,[Ent.blk b [rv p,rv v] T,Ent.row v te 1 ((Rh s).map IW)].flatMap Ent.foot,E,[]⟩ [Ent.blk b [rv p,rv v] T,Ent.row v te 1 ((Rh s).map IW)] Z w:=by
  refine⟨rfl,rfl,rfl,W9 _,λ_ _ _=>rfl,?_,λe he k hk=>.inr (List.mem_flatMap.2 ⟨e,he,hk⟩),?_,hs.frz,Fz.le.refl _,λ_ _ e=>.inl e,λe he k hk=>?_,hs.env,hs.emono,Jc.none rfl⟩
  ·intro e he;simp only[Xl,List.not_mem_nil,or_false] at he;rcases he with rfl | rfl
   ·exact⟨[p,v],h1,rfl,rfl,trivial⟩
   ·refine⟨λcl hcl=>by obtain⟨z,_,rfl⟩:=List.mem_map.1 hcl;rfl,_,by simpa[Pm] using h2,?_⟩;rw[L2];exact AX.rvs Z _
  ·refine List.pairwise_cons.2 ⟨λe he k hk hk'=>?_,List.pairwise_singleton ..⟩;simp only[WG] at he;subst he;simp only[Ent.foot,WG] at hk;subst hk;simp only[Ent.foot,Option.mem_toList] at hk';exact h3 hk'
  ·have hmem:k∈[Ent.bld T te b v s].flatMap Ent.foot:=by rw[hfoot];exact List.mem_flatMap.2 ⟨e,he,hk⟩
   obtain⟨e',he',hk'⟩:=List.mem_flatMap.1 hmem;exact hs.zdis e' he' k hk'
 rw[hfoot] at hs ⊢;refine(h p hp w Z vs hv hs').mono λe w' ⟨R,vv,H,Z',he,⟨w0,hR,hH⟩,hpR,ht⟩=>⟨R,vv,[.bld T te b w0 s'],Z',he,⟨w0,hR,rfl⟩,hpR,?_⟩
 subst hH;obtain⟨us,k1,k2⟩:=ht.has (.blk b [rv (.pointer (some ⟨b,0,none⟩)),rv w0] T) (by simp);obtain⟨k3,ws,k4,k5⟩:=ht.has (.row w0 te 1 ((Rh s').map IW)) (by simp);have e1:=AX.eq_rv (us:=[.pointer (some ⟨b,0,none⟩),w0]) k2;subst e1;rw[L2] at k5;have e2:=AX.eq_rv k5;subst e2;have hd:=List.pairwise_cons.1 ht.dis;have hne:w0.ownBlock≠some b:=λhb=>hd.1 _ (List.mem_singleton.2 rfl) b (by simp[Ent.foot]) (by simp[Ent.foot,hb]);refine { ht with has:=?_,own:=?_,dis:=List.pairwise_singleton ..,zdis:=?_,gst:=⟨by simp[Ent.gk],by simp[Ent.gk],List.pairwise_singleton ..,ht.gst.new,by simp[Ent.gk]⟩ }
 ·intro e' he';simp only[WG] at he';subst he';exact⟨_,.inr rfl,k1,by simpa[Pm] using k4,hne⟩
 ·intro e' he' k hk;simp only[WG] at he';subst he';simp only[Ent.foot,Xl] at hk;rcases hk with rfl | hk
  ·exact ht.own (.blk k [rv (.pointer (some ⟨k,0,none⟩)),rv w0] T) (by simp) k (by simp[Ent.foot])
  ·exact ht.own (.row w0 te 1 ((Rh s').map IW)) (by simp) k hk
 ·intro e' he' k hk;simp only[WG] at he';subst he';simp only[Ent.foot,Xl] at hk;rcases hk with rfl | hk
  ·exact ht.zdis (.blk k [rv (.pointer (some ⟨k,0,none⟩)),rv w0] T) (by simp) k (by simp[Ent.foot])
  ·exact ht.zdis (.row w0 te 1 ((Rh s').map IW)) (by simp) k hk
theorem QA {p:Addr}(hu:∃e',P.underlying t=some (.pointer e'))(hx:ev l x=some (rv (.pointer (some p)))):Bl P n c l H { dst:=d',op:=.binOp .neq t x (.const (.pointer none)) t',type:=ty,pos:=pos,after:=af,guard:=g } (rB true):=λa w Z ha _=>Df<|by
 obtain⟨e',hu⟩:=hu;have h1:∀dd:Nat,(Op.equalIn (dd+1) t (.pointer (some p)) (.pointer none)).run P w = .ok false w:=λdd=>by simp[Op.equalIn,run_underlying hu]
 have h2:(Op.equal t (.pointer (some p)) (.pointer none)).run P w = .ok false w:=h1 9999;have h3:(eqGuard .neq t x (.const (.pointer none)) (.pointer (some p)) (.pointer none)).run P w = .ok () w:=by unfold eqGuard;split<;>simp
 have hy:a.eval (.const (.pointer none)) = .pointer none:=rfl;simp only[execOp,ha.eval hx,hy,Sem.run_bind,h3,Result.andThen_ok,binOp,h2,Sem.run_pure];rfl
section
variable {P : Program} {n : Nat} {c : Cx} {l : Fr} {H : List Ent} {d' : Option Nat} {x : Operand} {ty t t' e : TypeId} {pos : String} {af : Array Edge} {g : Option (Nat × Bool)} {v : Value}
end
theorem No {f:FuncId}{args:List Operand}{ats:Array TypeId}{o:Oper}{a:Act}{caps:List Value}(ho:o.op = .call { callee:=.value x,args:=args.toArray,argTypes:=ats })(hx:a.eval x = .func (.func f) #[] caps.toArray)
  (hcall:∀(as1:Array Value) (w:World),(callFunc f as1).run P w = .ok (.enter f as1) w) (w:World):(execOp a.eval o).run P w = .ok (.enter f (args.map a.eval++caps).toArray) w:=by
 simp[execOp,ho,resolve,hx,Deferred.ofValue,invoke,hcall]
theorem Ir {f:FuncId}{args:List Operand}{ats:Array TypeId}{rs:List Rp}{caps:List Value}{Hin Hr:List Ent}{Φ:Rp→List Ent→Prop}(hcall:∀(as1:Array Value) (w:World),(callFunc f as1).run P w = .ok (.enter f as1) w)(hx:ev l x=some (rv (.func (.func f) #[] caps.toArray)))(hv:JZ l args=some rs)
  (hp:H.Perm (Hin++Hr)) (hc:Fn P c.E f (rs++caps.map rv) Hin Φ) (hn:Nat.blt d n=true) (h:∀r Ho,Φ r Ho→WL P n c ops Q rest ((d,r)::l) (Ho++Hr)) :
  WL P n c ops Q ({ dst:=some d,op:=.call { callee:=.value x,args:=args.toArray,argTypes:=ats },type:=ty,pos:=pos,after:=af,guard:=none }::rest) l H:=
 Ip (args:=λa=>(args.map a.eval++caps).toArray) (λa w Z ha hw=>⟨No rfl (ha.eval hx) hcall w,by
  have hw2:=hw.perm hp;refine(hc w Z _ (by have:=(EV ha hv).append (AX.rvs Z caps);simpa using this) hw2.enter).mono ?_;rintro e w' ⟨r,v,Ho,Z',he,hΦ,hr,hs⟩;exact⟨v,r,Ho++Hr,Z',he,hs.le,hr,hw2.call hs,h r Ho hΦ⟩⟩) hn
end
section
variable {P : Program} {n : Nat} {c : Cx} {ops : Array Oper} {Q : Exit → Act → World → Prop} {rest : List Oper} {l : Fr} {H : List Ent} {d : Nat} {ty : TypeId} {pos : String} {af : Array Edge} {r : Rp} {x y z3 : Operand}
theorem wo {d:Option Nat}{op:Op}{j dj:Nat}{want b:Bool}(hb:b=want)(h:WL P n c ops Q ({ dst:=d,op:=op,type:=ty,pos:=pos,after:=af,guard:=none }::rest) l H)(hj:Da ops j=some dj:=by rfl)(hv:look l dj=some (rB b):=by rfl) :
  WL P n c ops Q ({ dst:=d,op:=op,type:=ty,pos:=pos,after:=af,guard:=some (j,want) }::rest) l H:=AZ hj hv hb h
theorem wf {op:Op}{j dj:Nat}{want b:Bool}(hb:b = !want)(h:WL P n c ops Q rest ((d,rv undef)::l) H)(hj:Da ops j=some dj:=by rfl)(hv:look l dj=some (rB b):=by rfl)(hn:Nat.blt d n=true:=by rfl) :
  WL P n c ops Q ({ dst:=some d,op:=op,type:=ty,pos:=pos,after:=af,guard:=some (j,want) }::rest) l H:=Am hj hv hb hn h
theorem wu {op:Op}{j dj:Nat}{want:Bool}(h:WL P n c ops Q rest ((d,rv undef)::l) H)(hj:Da ops j=some dj:=by rfl)(hv:look l dj=some (rv undef):=by rfl)(hn:Nat.blt d n=true:=by rfl) :
  WL P n c ops Q ({ dst:=some d,op:=op,type:=ty,pos:=pos,after:=af,guard:=some (j,want) }::rest) l H:=Ed hj hv hn h
theorem wv {op:Op}(hr:Bl P n c l H { dst:=some d,op:=op,type:=ty,pos:=pos,after:=af,guard:=none } r)(h:WL P n c ops Q rest ((d,r)::l) H)(hn:Nat.blt d n=true:=by rfl):WL P n c ops Q ({ dst:=some d,op:=op,type:=ty,pos:=pos,after:=af,guard:=none }::rest) l H:=A3 hr hn h
theorem wm (h:ev l x=some r)(hk:WL P n c ops Q rest ((d,r)::l) H)(hn:Nat.blt d n=true:=by rfl):WL P n c ops Q ({ dst:=some d,op:=.move x,type:=ty,pos:=pos,after:=af,guard:=none }::rest) l H:=A3 (Ax h) hn hk
theorem wa (h:ev l x=some r)(hk:WL P n c ops Q rest ((d,r)::l) H)(hn:Nat.blt d n=true:=by rfl):WL P n c ops Q ({ dst:=some d,op:=.assign x,type:=ty,pos:=pos,after:=af,guard:=none }::rest) l H:=A3 (Aj h) hn hk
theorem Gh {b:Bool}(hc:ev l z3=some (rB b))(hb:b=true)(h:ev l x=some r)(hk:WL P n c ops Q rest ((d,r)::l) H)(hn:Nat.blt d n=true:=by rfl):WL P n c ops Q ({ dst:=some d,op:=.pick z3 x y,type:=ty,pos:=pos,after:=af,guard:=none }::rest) l H:=A3 (Ar hc hb h) hn hk
theorem GF {b:Bool}(hc:ev l z3=some (rB b))(hb:b=false)(h:ev l y=some r)(hk:WL P n c ops Q rest ((d,r)::l) H)(hn:Nat.blt d n=true:=by rfl):WL P n c ops Q ({ dst:=some d,op:=.pick z3 x y,type:=ty,pos:=pos,after:=af,guard:=none }::rest) l H:=A3 (AE hc hb h) hn hk
theorem Ky {f:FuncId}{args:List Operand}{ats:Array TypeId}{rs:List Rp}(hcall:∀(as1:Array Value) (w:World),(callFunc f as1).run P w = .ok (.enter f as1) w)(hc:Lo P c.E f rs r)(hv:JZ l args=some rs)(h:WL P n c ops Q rest ((d,r)::l) H)(hn:Nat.blt d n=true:=by rfl) :
  WL P n c ops Q ({ dst:=some d,op:=.call { callee:=.value (.func f),args:=args.toArray,argTypes:=ats },type:=ty,pos:=pos,after:=af,guard:=none }::rest) l H:=Do hcall hv hc rfl hn h
theorem DZ {f:FuncId}{args:List Operand}{ats:Array TypeId}{rs:List Rp}{Hin Hr:List Ent}{Φ:Rp→List Ent→Prop}(hcall:∀(as1:Array Value) (w:World),(callFunc f as1).run P w = .ok (.enter f as1) w)(hc:Fn P c.E f rs Hin Φ)(hv:JZ l args=some rs)
  (hp:H.Perm (Hin++Hr)) (hn:Nat.blt d n=true) (h:∀r Ho,Φ r Ho→WL P n c ops Q rest ((d,r)::l) (Ho++Hr)) :
  WL P n c ops Q ({ dst:=some d,op:=.call { callee:=.value (.func f),args:=args.toArray,argTypes:=ats },type:=ty,pos:=pos,after:=af,guard:=none }::rest) l H:=DA hcall hv hp hc hn h
theorem RX {opsA:Array Oper}{f:FuncId}{args:List Operand}{ats:Array TypeId}{rs:List Rp}(hcall:∀(as1:Array Value) (w:World),(callFunc f as1).run P w = .ok (.enter f as1) w)(hc:Lo P c.E f rs r)(hv:JZ l args=some rs) :
  Dd P n c opsA Q l H { dst:=some d,op:=.call { callee:=.value (.func f),args:=args.toArray,argTypes:=ats },type:=ty,pos:=pos,after:=af,guard:=none } r H:=NB hcall hv hc rfl
theorem wt {K:Exit→Act→World→Prop}{l1:Fr}{H1:List Ent}(hl:AS l1 l:=by repeat (first | exact AS.nil | refine AS.c rfl ?_))(hH:H1.Sublist H:=by repeat (first | exact sN | refine sC ?_ | refine sS ?_)):WK n c (Exit.then (Ve n c l1 H1) K .normal) l H:=Az (B5 hl hH)
theorem C3 {p:Prop}(hp:p){K:Exit→Act→World→Prop}{l1:Fr}{H1:List Ent}(hl:p→AS l1 l:=by intro hp;repeat (first | exact AS.nil | refine AS.c rfl ?_ | refine AS.c (by first | (simp only[hp];rfl) | simp[hp]) ?_))(hH:H1.Sublist H:=by repeat (first | exact sN | refine sC ?_ | refine sS ?_)):WK n c (Exit.then (Ve n c l1 H1) K .normal) l H:=Az (B5 (hl hp) hH)
end
open Go Go.RowKit Go.ChangeShapes Go.Deep
def ZW (W:World):Fz:=⟨λb=>W.heap[b]?,λ_ _=>none⟩
theorem ZW.frz (W:World):Re (ZW W) W:=⟨λ_ _ h=>h,λ_ _ _ h=>by cases h⟩
def Im (P:Program)(e:TypeId){α:Type}(enc:α→List Rp)(ok:α→Bool):Prop:=
 ∀{H:Type} {encH:TypeId×Value→H} {W:World} {sp:Nat→Bool} {held:Bool} {n:Nat} {cs:List Value} {x:DataW H×List MemPlace},DataW.trod encH P W 0 sp held n e cs=some x→∃y:α,ok y=true∧AX (ZW W) (enc y) cs
section
variable {P : Program} {e t : TypeId}
theorem Im.int {k:IntKind}{enc:Int→List Rp}(ht:P.underlying e=some (.int k))(he:∀n,enc n=[rI k n]):Im P e enc (B7 k):=λh=>by
 obtain⟨n,rfl,_,hwf⟩:=DataW.trod_int ht h;exact⟨n,hwf,by rw[he];exact⟨rfl,trivial⟩⟩
theorem Im.str {enc:Ay→List Rp}(ht:P.underlying e=some .string)(he:∀n,enc n=[rS n]):Im P e enc RY:=λh=>by
 obtain⟨s,rfl,_,hl⟩:=DataW.trod_string ht h;exact⟨s.data.toList,Ws (by rw[Array.length_toList];exact hl),by rw[he];exact⟨congrArg Value.string (Wb s),trivial⟩⟩
theorem Im.bool {enc:Bool→List Rp}(ht:P.underlying e=some .bool)(he:∀n,enc n=[rB n]):Im P e enc (λ_=>true):=λh=>by
 obtain⟨b,rfl,_⟩:=DataW.trod_bool ht h;exact⟨b,rfl,by rw[he];exact⟨rfl,trivial⟩⟩
theorem LT {W:World}{a:Addr}{v:Value}(h:W.cell? a=some v):a.spot=none∧GB (ZW W) a.block a.off=some v:=by
 unfold World.cell? at h;unfold GB ZW;dsimp only
 cases hh:W.heap[a.block]? with
 | none=>rw[hh] at h;cases h
 | some o=>
  rw[hh] at h
  cases o with
  | cells cs t fz=>
   cases hs:a.spot with
   | none=>simp[hs] at h;exact⟨rfl,h⟩
   | some _=>simp[hs] at h
  | _=>simp at h
theorem Im.slice {α:Type}[Inhabited α]{enc:α→List Rp}{ok:α→Bool}{sz:Nat}(ht:P.underlying t=some (.slice e))(hc:P.cellsOf e=sz)(hsz:0<sz)(h:Im P e enc ok)(hlen:∀y,(enc y).length=sz){enc':List α→List Rp}(he:∀ys,enc' ys=[BE sz (ys.map enc)]) :
  Im P t enc' (λys=>ys.all ok&&decide (ys.length≤9223372036854775807)):=fun {H encH W sp held n cs x} hx=>by
 rcases open_slice ht hx with⟨rfl,_⟩ | ⟨a,len,cap,m,n',D,Pl,rfl,hb,hl,hm,hmm,_,hel⟩
 ·exact⟨[],by simp,by rw[he];exact⟨PQ.nil sz _,trivial⟩⟩
 ·have hlm:len≤m:=by rw[hmm];split<;>omega
  have each:∀i,i<len→∃y:α,ok y=true∧∃cs',W.cells? 0 (a.add (i*sz)) sz=some cs'∧AX (ZW W) (enc y) cs':=λi hi=>by
   obtain⟨cs',h1,h2⟩:=hel i (by omega);obtain⟨y,hy,hr⟩:=h h2;rw[hc] at h1;exact⟨y,hy,cs',h1,hr⟩
  obtain⟨f,hf⟩:=choose_lt each;refine⟨(List.range len).map f,?_,?_⟩
  ·simp only[Wu,WM,List.mem_map,List.mem_range,Wp];refine⟨?_,by simp;simp only[maxLen] at hm;omega⟩;rintro _ ⟨i,hi,rfl⟩;exact(hf i hi).1
  ·rw[he];refine⟨⟨some a,cap,by simp,by simpa using hl,hm,(λh=>by cases h),λi c hi=>?_⟩,trivial⟩;rw[Xp,Xb] at hi;have hil:i<len:=by
    cases hq:(List.range len)[i]? with
    | none=>rw[hq] at hi;cases hi
    | some _=>have:=(List.getElem?_eq_some_iff.1 hq).1;simpa using this
   rw[List.getElem?_range hil] at hi;simp only[Option.map_some,Option.some.injEq,Function.comp] at hi;subst hi;obtain⟨_,cs',h1,hr⟩:=hf i hil;obtain⟨_,hcl,hcell⟩:=World.cells?_some h1;have hsp:a.spot=none:=by
    obtain⟨_,cs0,g1,_⟩:=hf 0 (by omega);obtain⟨_,gcl,gcell⟩:=World.cells?_some g1;have h0:=gcell 0 hsz;rw[Wv (by omega)] at h0;have:=(LT h0).1;simpa[Addr.add] using this
   refine⟨hlen _,a,rfl,hsp,λj r hj=>?_⟩;obtain⟨u,hu,hp⟩:=hr.at hj;have hjs:j<sz:=by have:=(List.getElem?_eq_some_iff.1 hj).1;rw[hlen] at this;exact this
   have h3:=hcell j hjs;rw[hu] at h3;have h4:=(LT h3).2;refine⟨u,?_,hp⟩;have e1:((a.add (i*sz)).add j).block=a.block:=by simp only[Addr.add];split<;>split<;>rfl
   have e2:((a.add (i*sz)).add j).off=a.off+(i*sz+j):=by simp only[Addr.add];split<;>split<;>simp_all<;>omega
   rw[e1,e2] at h4;exact h4
theorem Kh {Z:Fz}{cs:List Value}{o:Nat}(h:cs.length=o):AX Z [] (cs.drop o):=by rw[List.drop_of_length_le (by omega)];trivial
theorem BK {Z:Fz}{cs:List Value}{o s o':Nat}{rs rs':List Rp}(h:AX Z rs ((cs.drop o).take s))(ho:o+s=o')(h2:AX Z rs' (cs.drop o')):AX Z (rs++rs') (cs.drop o):=by
 rw[← List.take_append_drop s (cs.drop o),List.drop_drop];subst ho;exact h.append h2
theorem Im.val {α:Type}{enc:α→List Rp}{ok:α→Bool}(h:Im P e enc ok){r:α→Rp}(he:∀y,enc y=[r y]){H:Type}{encH:TypeId×Value→H}{W:World}{sp:Nat→Bool}{held:Bool}{v:Value}{d:DataW H}{ps:List MemPlace}
  (hone:v.cells = #[v]) (ht:DataW.Trod encH P W 0 sp held e v d ps):∃y:α,ok y=true∧(r y).p (ZW W) v:=by
 obtain⟨fuel,hf⟩:=ht;rw[hone] at hf;obtain⟨y,hy,hr⟩:=h hf;rw[he] at hr;exact⟨y,hy,hr.1⟩
theorem Im.valAgg {α:Type}{enc:α→List Rp}{ok:α→Bool}(h:Im P e enc ok){H:Type}{encH:TypeId×Value→H}{W:World}{sp:Nat→Bool}{held:Bool}{cs:Array Value}{d:DataW H}{ps:List MemPlace}
  (ht:DataW.Trod encH P W 0 sp held e (.agg cs) d ps):∃y:α,ok y=true∧(B2 (enc y)).p (ZW W) (.agg cs):=by
 obtain⟨fuel,hf⟩:=ht;obtain⟨y,hy,hr⟩:=h hf;exact⟨y,hy,cs.toList,by simp,hr⟩
end
theorem S4 {W w:World}(hw:Re (ZW W) w):W.heap.size≤w.heap.size:=by
 rcases Nat.eq_zero_or_pos W.heap.size with h | h
 ·omega
 ·have h1:W.heap[W.heap.size-1]? =some (W.heap[W.heap.size-1]'(by omega)):=Array.getElem?_eq_getElem (by omega);have:=(Array.getElem?_eq_some_iff.1 (hw _ _ h1)).1;omega
theorem QQ {W:World}(hE:PS W):GE (ZW W):=λw hw=>by
 have hb:Below W.heap.size W { w with os:=W.os,tape:=W.tape,output:=W.output }:=⟨rfl,rfl,rfl,(show W.heap.size≤w.heap.size from S4 hw),λk hk=>by
  have h1:W.heap[k]? =some (W.heap[k]'hk):=Array.getElem?_eq_getElem hk;rw[h1];exact hw k _ h1⟩
 have hE2:=hE.st0 (St.of_below hb);exact⟨MO.block { w with os:=W.os,tape:=W.tape,output:=W.output } w (λ_ _=>rfl) hE2.tabs,hE2.size⟩
theorem R6 {W:World}(hE:PS W):St ⟨W,ZW W,[],GE,[]⟩ [] (ZW W) W where
 os:=rfl
 tape:=rfl
 output:=rfl
 size:=W9 _
 old:=λ_ _ _=>rfl
 has:=λ_ h=>by cases h
 own:=λ_ h=>by cases h
 dis:=.nil
 frz:=ZW.frz W
 le:=Fz.le.refl _
 new:=λ_ _ h=>.inl h
 zdis:=λ_ h=>by cases h
 env:=QQ hE
 emono:=λh hg=>GE.mono h hg
 gst:=Jc.none rfl
theorem R7 {W W':World}{Z Z':Fz}{E:Fz→Prop}{H:List Ent}(h:St ⟨W,Z,[],E,[]⟩ H Z' W'):Below W.heap.size W W':=⟨h.os,h.tape,h.output,h.size,λk hk=>h.old k hk (by simp)⟩
open Go
set_option maxRecDepth 100000
set_option maxHeartbeats 4000000
end Go.Proofs.YthbbedliepkakaaGreatDoor.Q
namespace Go.Proofs.YthbbedliepkakaaGreatDoor
open Go
set_option linter.unusedVariables false
structure Al where
 fKind:Int
 fInt:Int
 fStr:Ay
 fN:Int
 deriving DecidableEq,Inhabited
def Q0 (s:Ay)(ha:Int):Option (Stp (Int) (Out (Bool) (Unit))):=
 Bh (decide (ha<(s.length:Int))) (Bd (Cb ha (s.length:Int))<|Bh (((decide ((DL s ha)<32))||(decide (126<(DL s ha))))) (some (.out (.ret false))) (Bd (B7 .i64 (ha+1))<|some (.next (ha+1)))) (some (.out (.go ())))
def Qy :Option (Bool):=
 some true
def Mr (F:Nat)(s:Ay):Option (Bool):=
 Bq (BB (λσ=>Q0 s σ) F 0) (B4 λν=>Qy )
def Cl (ok:Bool)(i:Int):Option (Int):=
 Bh (ok) (Bd (B7 .i64 (i+1))<|some (i+1)) (some (-1))
def RN (F:Nat)(c:Al):Option (Bool):=
 Bd (imp (decide (c.fKind=4)) (imp (decide (c.fInt=0)) (imp (decide (c.fN=0)) ((Mr F c.fStr).isSome))))<|some ((decide (c.fKind=4))&&((decide (c.fInt=0))&&((decide (c.fN=0))&&(ov (Mr F c.fStr)))))
def RM (F:Nat)(ha:(List Al)→Int→Int→Option (Int))(hb:(List Al)→Int→Int→Option (Int))(v:(List Al))(i:Int):Option (Int):=
 Bh (((decide (i<0))||(decide ((v.length:Int)≤i)))) (some (-1)) (Bd (Cb i (v.length:Int))<|Bh (decide (((Ac v i).fKind)=1)) (Bd (imp (decide (((Ac v i).fInt)=0)) (imp (decide (((Ac v i).fStr)=([]:Ay))) ((Cl (decide (((Ac v i).fN)=0)) i).isSome)))<|Bd (imp (decide (((Ac v i).fInt)=0)) (imp (!(decide (((Ac v i).fStr)=([]:Ay)))) ((Cl false i).isSome)))<|Bd (imp (!(decide (((Ac v i).fInt)=0))) ((Cl false i).isSome))<|some (bif decide (((Ac v i).fInt)=0) then(bif decide (((Ac v i).fStr)=([]:Ay)) then(ov (Cl (decide (((Ac v i).fN)=0)) i)) else(ov (Cl false i))) else(ov (Cl false i)))) (Bh (decide (((Ac v i).fKind)=2)) (Bd (imp (decide (((Ac v i).fInt)=0)) (imp (decide (((Ac v i).fStr)=([]:Ay))) ((Cl (decide (((Ac v i).fN)=0)) i).isSome)))<|Bd (imp (decide (((Ac v i).fInt)=0)) (imp (!(decide (((Ac v i).fStr)=([]:Ay)))) ((Cl false i).isSome)))<|Bd (imp (!(decide (((Ac v i).fInt)=0))) (imp (decide (((Ac v i).fInt)=1)) (imp (decide (((Ac v i).fStr)=([]:Ay))) ((Cl (decide (((Ac v i).fN)=0)) i).isSome))))<|Bd (imp (!(decide (((Ac v i).fInt)=0))) (imp (decide (((Ac v i).fInt)=1)) (imp (!(decide (((Ac v i).fStr)=([]:Ay)))) ((Cl false i).isSome))))<|Bd (imp (!(decide (((Ac v i).fInt)=0))) (imp (!(decide (((Ac v i).fInt)=1))) ((Cl false i).isSome)))<|some (bif decide (((Ac v i).fInt)=0) then(bif decide (((Ac v i).fStr)=([]:Ay)) then(ov (Cl (decide (((Ac v i).fN)=0)) i)) else(ov (Cl false i))) else(bif decide (((Ac v i).fInt)=1) then(bif decide (((Ac v i).fStr)=([]:Ay)) then(ov (Cl (decide (((Ac v i).fN)=0)) i)) else(ov (Cl false i))) else(ov (Cl false i))))) (Bh (decide (((Ac v i).fKind)=3)) (Bd (imp (decide (((Ac v i).fStr)=([]:Ay))) ((Cl (decide (((Ac v i).fN)=0)) i).isSome))<|Bd (imp (!(decide (((Ac v i).fStr)=([]:Ay)))) ((Cl false i).isSome))<|some (bif decide (((Ac v i).fStr)=([]:Ay)) then(ov (Cl (decide (((Ac v i).fN)=0)) i)) else(ov (Cl false i)))) (Bh (decide (((Ac v i).fKind)=4)) (Bq (RN F (Ac v i)) λhd=>Bq (Cl hd i) λhe=>some he) (Bh (((decide (((Ac v i).fKind)=5))&&((decide (((Ac v i).fInt)=0))&&((decide (((Ac v i).fStr)=([]:Ay)))&&(decide (0≤((Ac v i).fN))))))) (Bd (B7 .i64 (i+1))<|Bq (ha v (i+1) ((Ac v i).fN)) λhf=>some hf) (Bh (((decide (((Ac v i).fKind)=6))&&((decide (((Ac v i).fInt)=0))&&((decide (((Ac v i).fStr)=([]:Ay)))&&(decide (0≤((Ac v i).fN))))))) (Bd (B7 .i64 (i+1))<|Bq (hb v (i+1) ((Ac v i).fN)) λhg=>some hg) (some (-1))))))))
def De (v:(List Al))(n:Int)(he:(List Al)→Int→Option (Int))(hb:Int)(ha:Int):Option (Stp (Int×Int) (Out (Int) (Int))):=
 Bh (decide (ha<n)) (Bq (he v hb) λhd=>Bh (decide (hd<0)) (some (.out (.ret (-1)))) (Bd (B7 .i64 (ha+1))<|some (.next (hd,ha+1)))) (some (.out (.go hb)))
def G4 (ha:Int):Option (Int):=
 some ha
def KO (F:Nat)(ha:(List Al)→Int→Option (Int))(v:(List Al))(i:Int)(n:Int):Option (Int):=
 Bq (BB (λσ=>De v n ha σ.1 σ.2) F (i,0)) (B4 λν=>G4 ν)
def D2 (F:Nat)(v:(List Al))(n:Int)(hf:(List Al)→Int→Option (Int))(ha:Int)(hd:Ay)(hb:Int):Option (Stp (Int×Ay×Int) (Out (Int) (Int))):=
 Bh (decide (hb<n)) (Bd (imp (!(decide ((v.length:Int)≤ha))) (Cb ha (v.length:Int)))<|Bd (imp (!(decide ((v.length:Int)≤ha))) ((RN F (Ac v ha)).isSome))<|Bh (((decide ((v.length:Int)≤ha))||((!(ov (RN F (Ac v ha))))||((decide (0<hb))&&(BM ((Ac v ha).fStr) hd||decide (((Ac v ha).fStr)=hd)))))) (some (.out (.ret (-1)))) (Bd (Cb ha (v.length:Int))<|Bd (B7 .i64 (ha+1))<|Bq (hf v (ha+1)) λhe=>Bh (decide (he<0)) (some (.out (.ret (-1)))) (Bd (B7 .i64 (hb+1))<|some (.next (he,(Ac v ha).fStr,hb+1))))) (some (.out (.go ha)))
def Jo (ha:Int):Option (Int):=
 some ha
def Pr (F:Nat)(ha:(List Al)→Int→Option (Int))(v:(List Al))(i:Int)(n:Int):Option (Int):=
 Bq (BB (λσ=>D2 F v n ha σ.1 σ.2.1 σ.2.2) F (i,([]:Ay),0)) (B4 λν=>Jo ν)
mutual
def DM:Nat→(List Al)→Int→Option (Int)
 | 0,_,_=>none
 | nn+1,v,i=>RM nn (L7 nn) (RL nn) v i
def L7:Nat→(List Al)→Int→Int→Option (Int)
 | 0,_,_,_=>none
 | nn+1,v,i,n=>KO nn (DM nn) v i n
def RL:Nat→(List Al)→Int→Int→Option (Int)
 | 0,_,_,_=>none
 | nn+1,v,i,n=>Pr nn (DM nn) v i n
end
def Mt (F:Nat)(v:(List Al)):Option (Bool):=
 Bd (imp (decide (0<(v.length:Int))) ((DM F v 0).isSome))<|some ((decide (0<(v.length:Int)))&&(decide ((ov (DM F v 0))=(v.length:Int))))
def CC (F:Nat)(v:(List Al))(i:Int)(he:(List Al)→Int→Option (Int))(hd:Int)(hb:Int)(ha:Int):Option (Stp (Int×Int×Int) (Out (Int) (Int))):=
 Bh (decide (ha<((Ac v i).fN))) (Bh (decide (((Ac v i).fKind)=6)) (Bd (B7 .i64 (hb+1))<|Bq (he v (hb+1)) λhf=>Bh (decide (hd<hf)) (Bq (DM F v (hb+1)) λhh=>Bd (B7 .i64 (ha+1))<|some (.next (hf,hh,ha+1))) (Bq (DM F v (hb+1)) λhi=>Bd (B7 .i64 (ha+1))<|some (.next (hd,hi,ha+1)))) (Bq (he v hb) λhg=>Bh (decide (hd<hg)) (Bq (DM F v hb) λhj=>Bd (B7 .i64 (ha+1))<|some (.next (hg,hj,ha+1))) (Bq (DM F v hb) λhk=>Bd (B7 .i64 (ha+1))<|some (.next (hd,hk,ha+1))))) (some (.out (.go hd)))
def EA (ha:Int):Option (Int):=
 Bd (B7 .i64 (ha+1))<|some (ha+1)
def IA (F:Nat)(ha:(List Al)→Int→Option (Int))(v:(List Al))(i:Int):Option (Int):=
 Bd (Cb i (v.length:Int))<|Bh (((!decide (((Ac v i).fKind)=5))&&(!decide (((Ac v i).fKind)=6)))) (some 1) (Bd (B7 .i64 (i+1))<|Bq (BB (λσ=>CC F v i ha σ.1 σ.2.1 σ.2.2) F (0,i+1,0)) (B4 λν=>EA ν))
def DE:Nat→(List Al)→Int→Option (Int)
 | 0,_,_=>none
 | nn+1,v,i=>IA nn (DE nn) v i
def CS (s:Ay)(hb:Ay)(ha:Int):Option (Stp (Ay×Int) (Out (Ay) (Ay))):=
 Bh (decide (ha<(s.length:Int))) (Bd (Cb ha (s.length:Int))<|Bh (((decide ((DL s ha)=34))||(decide ((DL s ha)=92)))) (Bd (B7 .i64 ((hb.length:Int)+(([92]:Ay).length:Int)))<|Bd (B7 .i64 (ha+1))<|Bd (M6 ha (ha+1))<|Bd (M6 (ha+1) (s.length:Int))<|Bd (B7 .i64 (((hb++([92]:Ay)).length:Int)+((List.take (Int.toNat (ha+1)-Int.toNat ha) (List.drop (Int.toNat ha) s)).length:Int)))<|some (.next ((hb++([92]:Ay))++(List.take (Int.toNat (ha+1)-Int.toNat ha) (List.drop (Int.toNat ha) s)),ha+1))) (Bd (B7 .i64 (ha+1))<|Bd (M6 ha (ha+1))<|Bd (M6 (ha+1) (s.length:Int))<|Bd (B7 .i64 ((hb.length:Int)+((List.take (Int.toNat (ha+1)-Int.toNat ha) (List.drop (Int.toNat ha) s)).length:Int)))<|some (.next (hb++(List.take (Int.toNat (ha+1)-Int.toNat ha) (List.drop (Int.toNat ha) s)),ha+1)))) (some (.out (.go hb)))
def DS (ha:Ay):Option (Ay):=
 Bd (B7 .i64 ((ha.length:Int)+(([34]:Ay).length:Int)))<|some (ha++([34]:Ay))
def I6 (F:Nat)(s:Ay):Option (Ay):=
 Bq (BB (λσ=>CS s σ.1 σ.2) F (([34]:Ay),0)) (B4 λν=>DS ν)
def Ek (F:Nat)(v:(List Al))(i:Int)(he:(List Al)→Int→Option (Ay))(ha:Ay)(hb:Int)(hd:Int):Option (Stp (Ay×Int×Int) (Out (Ay) (Ay))):=
 Bh (decide (hd<((Ac v i).fN))) (Bh (decide (0<hd)) (Bd (B7 .i64 ((ha.length:Int)+(([44]:Ay).length:Int)))<|Bh (decide (((Ac v i).fKind)=6)) (Bd (Cb hb (v.length:Int))<|Bq (I6 F ((Ac v hb).fStr)) λhf=>Bd (B7 .i64 (((ha++([44]:Ay)).length:Int)+(hf.length:Int)))<|Bd (B7 .i64 ((((ha++([44]:Ay))++hf).length:Int)+(([58]:Ay).length:Int)))<|Bd (B7 .i64 (hb+1))<|Bq (he v (hb+1)) λhh=>Bd (B7 .i64 (((((ha++([44]:Ay))++hf)++([58]:Ay)).length:Int)+(hh.length:Int)))<|Bq (DM F v (hb+1)) λhl=>Bd (B7 .i64 (hd+1))<|some (.next ((((ha++([44]:Ay))++hf)++([58]:Ay))++hh,hl,hd+1))) (Bq (he v hb) λhi=>Bd (B7 .i64 (((ha++([44]:Ay)).length:Int)+(hi.length:Int)))<|Bq (DM F v hb) λhm=>Bd (B7 .i64 (hd+1))<|some (.next ((ha++([44]:Ay))++hi,hm,hd+1)))) (Bh (decide (((Ac v i).fKind)=6)) (Bd (Cb hb (v.length:Int))<|Bq (I6 F ((Ac v hb).fStr)) λhg=>Bd (B7 .i64 ((ha.length:Int)+(hg.length:Int)))<|Bd (B7 .i64 (((ha++hg).length:Int)+(([58]:Ay).length:Int)))<|Bd (B7 .i64 (hb+1))<|Bq (he v (hb+1)) λhj=>Bd (B7 .i64 ((((ha++hg)++([58]:Ay)).length:Int)+(hj.length:Int)))<|Bq (DM F v (hb+1)) λhn=>Bd (B7 .i64 (hd+1))<|some (.next (((ha++hg)++([58]:Ay))++hj,hn,hd+1))) (Bq (he v hb) λhk=>Bd (B7 .i64 ((ha.length:Int)+(hk.length:Int)))<|Bq (DM F v hb) λho=>Bd (B7 .i64 (hd+1))<|some (.next (ha++hk,ho,hd+1))))) (some (.out (.go ha)))
def I4 (v:(List Al))(i:Int)(ha:Ay):Option (Ay):=
 Bh (decide (((Ac v i).fKind)=6)) (Bd (B7 .i64 ((([123]:Ay).length:Int)+(ha.length:Int)))<|Bd (B7 .i64 (((([123]:Ay)++ha).length:Int)+(([125]:Ay).length:Int)))<|some ((([123]:Ay)++ha)++([125]:Ay))) (Bd (B7 .i64 ((([91]:Ay).length:Int)+(ha.length:Int)))<|Bd (B7 .i64 (((([91]:Ay)++ha).length:Int)+(([93]:Ay).length:Int)))<|some ((([91]:Ay)++ha)++([93]:Ay)))
def Mo (F:Nat)(ha:(List Al)→Int→Option (Ay))(v:(List Al))(i:Int):Option (Ay):=
 Bd (Cb i (v.length:Int))<|Bh (decide (((Ac v i).fKind)=1)) (some ([110,117,108,108]:Ay)) (Bh (decide (((Ac v i).fKind)=2)) (Bh (decide (((Ac v i).fInt)=1)) (some ([116,114,117,101]:Ay)) (some ([102,97,108,115,101]:Ay))) (Bh (decide (((Ac v i).fKind)=3)) (Bd (B7 .i64 ((Ac v i).fInt))<|some (Lib.itoa ((Ac v i).fInt))) (Bh (decide (((Ac v i).fKind)=4)) (Bq (I6 F ((Ac v i).fStr)) λhb=>some hb) (Bd (B7 .i64 (i+1))<|Bq (BB (λσ=>Ek F v i ha σ.1 σ.2.1 σ.2.2) F (([]:Ay),i+1,0)) (B4 λν=>I4 v i ν)))))
def GV:Nat→(List Al)→Int→Option (Ay)
 | 0,_,_=>none
 | nn+1,v,i=>Mo nn (GV nn) v i
def E3 (v:(List Al))(ha:Int):Option (Stp (Int) (Out (Int) (Unit))):=
 Bh (decide (ha<(v.length:Int))) (Bd (Cb ha (v.length:Int))<|Bh (decide (200<(((Ac v ha).fStr).length:Int))) (some (.out (.ret 3))) (Bd (B7 .i64 (ha+1))<|some (.next (ha+1)))) (some (.out (.go ())))
def L8 (F:Nat)(v:(List Al)):Option (Int):=
 Bq (GV F v 0) λha=>Bh (decide (4000<(ha.length:Int))) (some 3) (some 0)
def E4 (v:(List Al))(ha:Int):Option (Stp (Int) (Out (Int) (Unit))):=
 Bh (decide (ha<(v.length:Int))) (Bd (Cb ha (v.length:Int))<|Bh (((decide (((Ac v ha).fKind)=3))&&((decide (((Ac v ha).fInt)<(-1000000000000)))||(decide (1000000000000<((Ac v ha).fInt)))))) (some (.out (.ret 2))) (Bd (B7 .i64 (ha+1))<|some (.next (ha+1)))) (some (.out (.go ())))
def L9 (F:Nat)(v:(List Al)):Option (Int):=
 Bd (imp (!(decide (200<(v.length:Int)))) ((DE F v 0).isSome))<|Bh (((decide (200<(v.length:Int)))||(decide (8<(ov (DE F v 0)))))) (some 3) (Bq (BB (λσ=>E3 v σ) F 0) (B4 λν=>L8 F v ))
def OH (F:Nat)(v:(List Al)):Option (Int):=
 Bq (Mt F v) λr1=>Bh (!r1) (some 1) (Bq (BB (λσ=>E4 v σ) F 0) (B4 λν=>L9 F v ))
end Go.Proofs.YthbbedliepkakaaGreatDoor
namespace Go.Proofs.YthbbedliepkakaaGreatDoor.Q
open Go Go.RowKit
set_option linter.unusedVariables false
set_option linter.unusedSimpArgs false
set_option maxRecDepth 100000
set_option maxHeartbeats 4000000
@[reducible] def An (x:Al):List Rp:=[rI .i64 x.fKind,rI .i64 x.fInt,rS x.fStr,rI .i64 x.fN]
theorem Ec (x:Al):(An x).length=4:=rfl
theorem Ly (x:Al):(An x).all (·.one)=true:=rfl
end Go.Proofs.YthbbedliepkakaaGreatDoor.Q
namespace Go.Proofs.YthbbedliepkakaaGreatDoor
open Go
set_option linter.unusedVariables false
structure Av where
 fPairs:Bool
 fLeft:Int
 fKey:Bool
 fLast:Ay
 fStarted:Bool
 deriving DecidableEq,Inhabited
structure A6 where
 fDepth:Int
 fBytes:Int
 fOutside:Bool
 fLong:Bool
 deriving DecidableEq,Inhabited
def Bo (n:Int):Option (Bool):=
 some ((decide ((-1000000000000)≤n))&&(decide (n≤1000000000000)))
def Gj (s:Ay)(ha:Int):Option (Stp (Int) (Out (Bool) (Unit))):=
 Bh (decide (ha<(s.length:Int))) (Bd (Cb ha (s.length:Int))<|Bh (((decide ((DL s ha)<32))||(decide (126<(DL s ha))))) (some (.out (.ret false))) (Bd (B7 .i64 (ha+1))<|some (.next (ha+1)))) (some (.out (.go ())))
def Gi :Option (Bool):=
 some true
def Is (F:Nat)(s:Ay):Option (Bool):=
 Bq (BB (λσ=>Gj s σ) F 0) (B4 λν=>Gi )
def Ht (s:Ay):Option (Int):=
 Bd (B7 .i64 ((s.length:Int)+2))<|Bd (B7 .i64 (((s.length:Int)+2)+(Lib.countByte s 34:Int)))<|Bd (B7 .i64 ((((s.length:Int)+2)+(Lib.countByte s 34:Int))+(Lib.countByte s 92:Int)))<|some ((((s.length:Int)+2)+(Lib.countByte s 34:Int))+(Lib.countByte s 92:Int))
def K3 (F:Nat)(c:Al):Option (Bool):=
 Bh (decide (c.fKind=1)) (some ((decide (c.fInt=0))&&((decide (c.fStr=([]:Ay)))&&(decide (c.fN=0))))) (Bh (decide (c.fKind=2)) (some (bif decide (c.fInt=0) then((decide (c.fStr=([]:Ay)))&&(decide (c.fN=0))) else((decide (c.fInt=1))&&((decide (c.fStr=([]:Ay)))&&(decide (c.fN=0)))))) (Bh (decide (c.fKind=3)) (some ((decide (c.fStr=([]:Ay)))&&(decide (c.fN=0)))) (Bh (decide (c.fKind=4)) (Bd (imp (decide (c.fInt=0)) (imp (decide (c.fN=0)) ((Is F c.fStr).isSome)))<|some ((decide (c.fInt=0))&&((decide (c.fN=0))&&(ov (Is F c.fStr))))) (Bh (decide (c.fKind=5)) (some ((decide (c.fInt=0))&&((decide (c.fStr=([]:Ay)))&&(decide (0≤c.fN))))) (Bh (decide (c.fKind=6)) (some ((decide (c.fInt=0))&&((decide (c.fStr=([]:Ay)))&&(decide (0≤c.fN))))) (some false))))))
def Nc (c:Al):Option (Int):=
 Bh (decide (c.fKind=1)) (some 4) (Bh (decide (c.fKind=2)) (some (IntKind.wrap .i64 (5-c.fInt))) (Bh (decide (c.fKind=3)) (Bd (B7 .i64 c.fInt)<|some ((Lib.itoa c.fInt).length:Int)) (Bh (decide (c.fKind=4)) (Bq (Ht c.fStr) λha=>some ha) (some (IntKind.wrap .i64 (2+(max 0 (IntKind.wrap .i64 (c.fN-1)))))))))
def CO (ha:(List Av)):Option (Stp ((List Av)) (Out ((List Av)) ((List Av)))):=
 Bh (decide (0<(ha.length:Int))) (Bd (B7 .i64 ((ha.length:Int)-1))<|Bd (Cb ((ha.length:Int)-1) (ha.length:Int))<|Bd (B7 .i64 (((Ac ha ((ha.length:Int)-1)).fLeft)-1))<|LV (List.set ha (Int.toNat ((ha.length:Int)-1)) (Av.mk ((Ac ha ((ha.length:Int)-1)).fPairs) (((Ac ha ((ha.length:Int)-1)).fLeft)-1) ((Ac ha ((ha.length:Int)-1)).fKey) ((Ac ha ((ha.length:Int)-1)).fLast) ((Ac ha ((ha.length:Int)-1)).fStarted))) λhb=>Bh (decide (0<((Ac hb ((ha.length:Int)-1)).fLeft))) (LV (List.set hb (Int.toNat ((ha.length:Int)-1)) (Av.mk ((Ac hb ((ha.length:Int)-1)).fPairs) ((Ac hb ((ha.length:Int)-1)).fLeft) ((Ac hb ((ha.length:Int)-1)).fPairs) ((Ac hb ((ha.length:Int)-1)).fLast) ((Ac hb ((ha.length:Int)-1)).fStarted))) λhd=>some (.out (.ret hd))) (Bd (B7 .i64 ((hb.length:Int)-1))<|Bd (M6 ((hb.length:Int)-1) (hb.length:Int))<|some (.next (List.take (Int.toNat ((hb.length:Int)-1)) hb)))) (some (.out (.go ha)))
def Dt (ha:(List Av)):Option ((List Av)):=
 some ha
def Iv (F:Nat)(stack:(List Av)):Option ((List Av)):=
 Bq (BB (λσ=>CO σ) F stack) (B4 λν=>Dt ν)
def Dh (ha:Int)(hb:(List Av))(hd:A6):Option (Stp ((List Av)×Int×A6) (Out (Int×A6×Bool) (A6))):=
 Bd (B7 .i64 (ha+1))<|some (.next (hb,ha+1,hd))
def CN (F:Nat)(v:(List Al))(ha:(List Av))(hb:Int)(hd:A6):Option (Stp ((List Av)×Int×A6) (Out (Int×A6×Bool) (A6))):=
 Bh (decide (hb<(v.length:Int))) (Bd (Cb hb (v.length:Int))<|Bq (K3 F (Ac v hb)) λhj=>Bh (!hj) (some (.out (.ret (0,hd,false)))) (Bd (imp (decide (0<(ha.length:Int))) (B7 .i64 ((ha.length:Int)-1)))<|Bd (imp (decide (0<(ha.length:Int))) (Cb ((ha.length:Int)-1) (ha.length:Int)))<|Bh (((decide (0<(ha.length:Int)))&&((Ac ha ((ha.length:Int)-1)).fKey))) (Bd (B7 .i64 ((ha.length:Int)-1))<|Bd (Cb ((ha.length:Int)-1) (ha.length:Int))<|Bh (((!decide (((Ac v hb).fKind)=4))||(((Ac ha ((ha.length:Int)-1)).fStarted)&&(BM ((Ac v hb).fStr) ((Ac ha ((ha.length:Int)-1)).fLast)||decide (((Ac v hb).fStr)=((Ac ha ((ha.length:Int)-1)).fLast)))))) (some (.out (.ret (0,hd,false)))) (LV (List.set ha (Int.toNat ((ha.length:Int)-1)) (Av.mk ((Ac ha ((ha.length:Int)-1)).fPairs) ((Ac ha ((ha.length:Int)-1)).fLeft) ((Ac ha ((ha.length:Int)-1)).fKey) ((Ac v hb).fStr) ((Ac ha ((ha.length:Int)-1)).fStarted))) λhe=>LV (List.set he (Int.toNat ((ha.length:Int)-1)) (Av.mk ((Ac he ((ha.length:Int)-1)).fPairs) ((Ac he ((ha.length:Int)-1)).fLeft) ((Ac he ((ha.length:Int)-1)).fKey) ((Ac he ((ha.length:Int)-1)).fLast) true)) λhf=>LV (List.set hf (Int.toNat ((ha.length:Int)-1)) (Av.mk ((Ac hf ((ha.length:Int)-1)).fPairs) ((Ac hf ((ha.length:Int)-1)).fLeft) false ((Ac hf ((ha.length:Int)-1)).fLast) ((Ac hf ((ha.length:Int)-1)).fStarted))) λhk=>Bq (Ht ((Ac v hb).fStr)) λhh=>Bd (B7 .i64 (hh+1))<|Dh hb hk (A6.mk hd.fDepth (IntKind.wrap .i64 (hd.fBytes+(hh+1))) hd.fOutside (hd.fLong||(decide (200<(((Ac v hb).fStr).length:Int))))))) (Bd (B7 .i64 ((ha.length:Int)+1))<|Bq (Nc (Ac v hb)) λhg=>Bd (imp (!hd.fOutside) (imp (decide (((Ac v hb).fKind)=3)) ((Bo ((Ac v hb).fInt)).isSome)))<|Bh (decide (0<((Ac v hb).fN))) (Bh (decide ((v.length:Int)<((Ac v hb).fN))) (some (.out (.ret (0,(A6.mk (max hd.fDepth ((ha.length:Int)+1)) (IntKind.wrap .i64 (hd.fBytes+hg)) (hd.fOutside||((decide (((Ac v hb).fKind)=3))&&(!(ov (Bo ((Ac v hb).fInt)))))) (hd.fLong||(decide (200<(((Ac v hb).fStr).length:Int))))),false)))) (Bd (HO 48 (ha.length+([(Av.mk (decide (((Ac v hb).fKind)=6)) ((Ac v hb).fN) (decide (((Ac v hb).fKind)=6)) ([]:Ay) false)]:List Av).length))<|Dh hb (ha++([(Av.mk (decide (((Ac v hb).fKind)=6)) ((Ac v hb).fN) (decide (((Ac v hb).fKind)=6)) ([]:Ay) false)]:List Av)) (A6.mk (max hd.fDepth ((ha.length:Int)+1)) (IntKind.wrap .i64 (hd.fBytes+hg)) (hd.fOutside||((decide (((Ac v hb).fKind)=3))&&(!(ov (Bo ((Ac v hb).fInt)))))) (hd.fLong||(decide (200<(((Ac v hb).fStr).length:Int))))))) (Bq (Iv F ha) λhi=>Bh (decide ((hi.length:Int)=0)) (Bd (B7 .i64 (hb+1))<|some (.out (.ret (hb+1,(A6.mk (max hd.fDepth ((ha.length:Int)+1)) (IntKind.wrap .i64 (hd.fBytes+hg)) (hd.fOutside||((decide (((Ac v hb).fKind)=3))&&(!(ov (Bo ((Ac v hb).fInt)))))) (hd.fLong||(decide (200<(((Ac v hb).fStr).length:Int))))),true)))) (Dh hb hi (A6.mk (max hd.fDepth ((ha.length:Int)+1)) (IntKind.wrap .i64 (hd.fBytes+hg)) (hd.fOutside||((decide (((Ac v hb).fKind)=3))&&(!(ov (Bo ((Ac v hb).fInt)))))) (hd.fLong||(decide (200<(((Ac v hb).fStr).length:Int)))))))))) (some (.out (.go hd)))
def It (ha:A6):Option (Int×A6×Bool):=
 some (0,ha,false)
def Iu (F:Nat)(v:(List Al)):Option (Int×A6×Bool):=
 Bq (BB (λσ=>CN F v σ.1 σ.2.1 σ.2.2) F (([]:List Av),0,(A6.mk 0 0 false false))) (B4 λν=>It ν)
def K5 (F:Nat)(v:(List Al)):Option (Int):=
 Bq (Iu F v) λr1=>Bh (((!r1.2.2)||(!decide (r1.1=(v.length:Int))))) (some 1) (Bh (r1.2.1.fOutside) (some 2) (Bh ((r1.2.1.fLong||((decide (200<(v.length:Int)))||((decide (8<r1.2.1.fDepth))||(decide (4000<r1.2.1.fBytes)))))) (some 3) (some 0)))
end Go.Proofs.YthbbedliepkakaaGreatDoor
namespace Go.Proofs.YthbbedliepkakaaGreatDoor.Q
open Go Go.RowKit
set_option linter.unusedVariables false
set_option linter.unusedSimpArgs false
set_option maxRecDepth 100000
set_option maxHeartbeats 4000000
@[reducible] def Au (x:Av):List Rp:=[rB x.fPairs,rI .i64 x.fLeft,rB x.fKey,rS x.fLast,rB x.fStarted]
theorem GK (x:Av):(Au x).length=5:=rfl
theorem Ka (x:Av):(Au x).all (·.one)=true:=rfl
@[reducible] def AQ (x:A6):List Rp:=[rI .i64 x.fDepth,rI .i64 x.fBytes,rB x.fOutside,rB x.fLong]
theorem TA:∃inf,Tryz.prog.info? 147=some inf∧inf.zero=some (.agg #[(.bool false),(.int .i64 0),(.bool false),(.string ⟨#[]⟩),(.bool false)])∧inf.size=5∧inf.bytes=48:=by
  have key:(Tryz.prog.info? 147).map (λi=>(i.zero,i.size,i.bytes))=some (some (.agg #[(.bool false),(.int .i64 0),(.bool false),(.string ⟨#[]⟩),(.bool false)]),5,48):=by kernel_rfl
  obtain⟨inf,h1,h2⟩:=Option.map_eq_some_iff.1 key;simp only[Prod.mk.injEq] at h2;exact⟨inf,h1,h2.1,h2.2.1,h2.2.2⟩
theorem SG (parts:List (Nat×Value)):Tryz.prog.built 147 parts=Instr.fill (λi=>(#[(0,1),(1,1),(2,1),(3,1),(4,1)]:Array (Nat×Nat))[i]?) #[(.bool false),(.int .i64 0),(.bool false),(.string ⟨#[]⟩),(.bool false)] parts:=by kernel_rfl
theorem Jt {n:Nat}{c:Cx}{l:Fr}{H:List Ent}{d:Option Nat}{ty:TypeId}{pos:String}{af:Array Edge}{g:Option (Nat×Bool)}{x0:Operand}{r0:Rp}(h0:ev l x0=some r0)(u0:r0.one=true){x1:Operand}{r1:Rp}(h1:ev l x1=some r1)(u1:r1.one=true){x2:Operand}{r2:Rp}(h2:ev l x2=some r2)(u2:r2.one=true):Bl Tryz.prog n c l H { dst:=d,op:=.build 147 #[(0,x0),(1,x1),(2,x2)],type:=ty,pos:=pos,after:=af,guard:=g } (B2 [r0,r1,r2,rS ([]:Ay),rB false]):=λa w Z ha _=>by
  have p0:=ha.ev h0;have c0:=Bw (r0.hone u0 Z _ p0);have p1:=ha.ev h1;have c1:=Bw (r1.hone u1 Z _ p1);have p2:=ha.ev h2;have c2:=Bw (r2.hone u2 Z _ p2);have hb:Tryz.prog.built 147 [(0,a.eval x0),(1,a.eval x1),(2,a.eval x2)]=some #[a.eval x0,a.eval x1,a.eval x2,(.string ⟨#[]⟩),(.bool false)]:=by
    rw[SG];generalize a.eval x0=v0 at *;generalize a.eval x1=v1 at *;generalize a.eval x2=v2 at *;simp[Instr.fill,c0,c1,c2]
  refine⟨.agg #[a.eval x0,a.eval x1,a.eval x2,(.string ⟨#[]⟩),(.bool false)],⟨[a.eval x0,a.eval x1,a.eval x2,(.string ⟨#[]⟩),(.bool false)],rfl,p0,p1,p2,rfl,rfl,trivial⟩,?_⟩;have:=run_build w 147 #[(0,a.eval x0),(1,a.eval x1),(2,a.eval x2)] _ (by simpa using hb);simp[execOp,this]
theorem Sg (n:Int)(r:Bool)(h:Bo n=some r):Fn Tryz.prog GE 103 [rI .i64 n] [] (λR H=>R=rB r∧H=[]):=by
 refine enter (n:=9) Tryz.func103 Aa Tryz.ntmps103 Aa (λw Z=>?_);refine Bi (l':=[(0,rI .i64 n)]) (H':=[]) Aa Aa ?_;unfold Bo at h;refine At (wv (r:=rB false) (Aj Aa) (A8 (AO [(2,rB ((decide ((-1000000000000)≤n))&&(decide (n≤1000000000000))))] [] ?_ ?_)))
 ·refine As (wm Aa (wv (HC Aa Aa) (wm Aa (AP (decide ((-1000000000000)≤n)) (λc1=>?_) (λc1=>?_)))))
  ·refine wo c1 (wm Aa (wo c1 (wv (HC Aa Aa) (Gh Aa c1 Aa (wa Aa (Aq ?_))))));exact C3 c1
  ·refine wf c1 (wf c1 (wv (r:=rB false) (AE (b:=decide ((-1000000000000)≤n)) Aa c1 Aa) (wa Aa (Aq ?_))));exact C3 c1
 refine A7 ?_;obtain rfl:=AI h;exact AA (BZ Tryz.results103 (Ba Aa)) sN ⟨Aa,Aa⟩
theorem Tc (F:Nat)(s:Ay)(r:Bool)(h:Is F s=some r):Fn Tryz.prog GE 129 [rS s] [] (λR H=>R=rB r∧H=[]):=by
 refine enter (n:=20) Tryz.func129 Aa Tryz.ntmps129 Aa (λw Z=>?_);refine Bi (l':=[(0,rS s)]) (H':=[]) Aa Aa ?_;unfold Is at h;refine At (wv (r:=rB false) (Aj Aa) (A8 (A1 (At (wm Aa (wv (BU GO Aa) (wv (r:=rI .i64 0) (Ax Aa) (A8 (Bc ?_)))))))));obtain⟨hl,hm,hi⟩:=Bb h;refine Ci (S:=Nat×(Int)×(Unit)) (V:=(Unit)×(Unit)) 0 (λσ=>BB (λσ=>Gj s σ) σ.1 σ.2.1=some hl) (λσ=>[(0,rS s),(5,rI .i64 (s.length:Int)),(6,rI .i64 σ.2.1)]) (λσ=>[]) (λσ=>σ.1) (F,0,()) hm (AS.c Aa (AS.c Aa (AS.c Aa AS.nil))) sN (λσ=>Gi =some r) (λσ=>[]) (λσ=>[]) ?_ ?_
 ·rintro⟨hz,hb,⟨⟩⟩ hn;refine Bi (l':=[(0,rS s),(5,rI .i64 (s.length:Int)),(6,rI .i64 hb)]) (H':=[]) Aa Aa ?_;obtain⟨ho,rfl,t37,hd,hf⟩:=Hf hn;replace hd:Gj s hb=some t37:=hd;unfold Gj at hd;refine At (wv (EK Aa Aa) (A8 (A1 (AC (b:=decide (hb<(s.length:Int))) Aa (λhg=>?_) (λhg=>?_)))))
  ·have hp:=AV hg hd;refine AH (Bm (A1 (Bc (At (wm Aa (wa Aa (A8 ?_)))))));obtain⟨hj,hk⟩:=AR hp;refine AO [(0,rS s),(5,rI .i64 (s.length:Int)),(6,rI .i64 hb),(18,rB ((decide ((DL s hb)<32))||(decide (126<(DL s hb)))))] [] ?_ ?_
   ·refine As (wm Aa (wm Aa (wv (D3 GO Aa Aa hj) (wv (EK Aa Aa) (wm Aa (AP (decide ((DL s hb)<32)) (λha=>?_) (λha=>?_)))))))
    ·refine wf ha (wf ha (wf ha (wf ha (wv (r:=rB true) (Ar (b:=decide ((DL s hb)<32)) Aa ha Aa) (Aq ?_)))));exact C3 ha
    ·refine wo ha (wm Aa (wo ha (wm Aa (wo ha (wv (D3 GO Aa Aa hj) (wo ha (wv (Du Aa Aa) (GF Aa ha Aa (Aq ?_)))))))));exact C3 ha
   refine AC (b:=((decide ((DL s hb)<32))||(decide (126<(DL s hb))))) Aa (λhh=>?_) (λhh=>?_)
   ·have hq:=AV hh hk;refine At (wv (r:=rB false) (Aj Aa) (A8 (A7 (AF (Ak (Ak (Bs ?_)))))));have hr:=BO hq hf hi;refine AF (Ak ?_);obtain rfl:=AI hr;exact AA (BZ Tryz.results129 (Ba Aa)) sN ⟨Aa,Aa⟩
   ·have hs:=AW hh hk;refine AH (AY (Bm (As ?_)));obtain⟨ht,hu⟩:=AR hs;refine wv (C0 Aa Aa ht) (wm Aa (Aq ?_));have hw:=CQ hu hf;exact Az (AU (ho,hb+1,()) ⟨hw,WZ _⟩ (AS.c Aa (AS.c Aa (AS.c Aa AS.nil))) sN)
  ·have hx:=AW hg hd;refine BN (AN ?_);have hy:=Ep hx hf hi;exact AN (B8 (AU ((),()) hy AS.nil sN))
 ·rintro⟨⟨⟩,⟨⟩⟩ he;refine E7 (l':=[]) (H':=[]) Aa Aa ?_;replace he:Gi =some r:=he;unfold Gi at he;refine B3 (Bm (At (wv (r:=rB true) (Aj Aa) (A8 (A7 ?_)))));obtain rfl:=AI he;exact AA (BZ Tryz.results129 (Ba Aa)) sN ⟨Aa,Aa⟩
theorem Lz (s:Ay)(r:Int)(h:Ht s=some r):Fn Tryz.prog GE 112 [rS s] [] (λR H=>R=rI .i64 r∧H=[]):=by
 refine enter (n:=12) Tryz.func112 Aa Tryz.ntmps112 Aa (λw Z=>?_);refine Bi (l':=[(0,rS s)]) (H':=[]) Aa Aa ?_;unfold Ht at h;refine At (wv (r:=rI .i64 0) (Aj Aa) (BI (wm Aa (wv (BU GO Aa) ?_))));obtain⟨g1,h2⟩:=AR h;refine wv (C0 Aa Aa g1) (wm Aa (Do (rs:=[rS s,rS ([34]:Ay)]) (r:=rI .i64 (Lib.countByte s 34:Int)) Tryz.call130 Aa (PL s 34) Aa Aa ?_));obtain⟨g3,h4⟩:=AR h2;refine wv (C0 Aa Aa g3) (wm Aa (Do (rs:=[rS s,rS ([92]:Ay)]) (r:=rI .i64 (Lib.countByte s 92:Int)) Tryz.call130 Aa (PL s 92) Aa Aa ?_));obtain⟨g5,h6⟩:=AR h4;refine wv (C0 Aa Aa g5) (wa Aa (A8 (A7 ?_)));obtain rfl:=AI h6;exact AA (BZ Tryz.results112 (Ba Aa)) sN ⟨Aa,Aa⟩
theorem Ry (F:Nat)(c:Al)(r:Bool)(h:K3 F c=some r):Fn Tryz.prog GE 111 [B2 (An c)] [] (λR H=>R=rB r∧H=[]):=by
 refine enter (n:=81) Tryz.func111 Aa Tryz.ntmps111 Aa (λw Z=>?_);refine Bi (l':=[(0,B2 (An c))]) (H':=[]) Aa Aa ?_;unfold K3 at h;refine At (BT Aa Aa (λb1=>?_));refine wv (r:=rB false) (Aj Aa) (A8 (A1 (At (wv (Ai C1 Aa MU Aa Aa) (wv (Aw (i:=0) MY Aa Aa Aa) (A8 (Bc (At (wv (B6 Aa Aa) (wa Aa (A8 (AC (b:=decide (c.fKind=1)) Aa (λc2=>?_) (λc2=>?_)))))))))))))
 ·have h3:=AV c2 h;refine AO [(2,rB ((decide (c.fInt=0))&&((decide (c.fStr=([]:Ay)))&&(decide (c.fN=0)))))] [] ?_ ?_
  ·refine As (wv (Ai C1 Aa Cc Aa Aa) (wv (Aw (i:=0) Cq Aa Aa Aa) (wv (B6 Aa Aa) (wm Aa (AP (decide (c.fInt=0)) (λc4=>?_) (λc4=>?_))))))
   ·refine wo c4 (wv (Ai C1 Aa EI Aa Aa) (wo c4 (wv (Aw (i:=0) EJ Aa Aa Aa) (wo c4 (wv (EB Aa Aa) (Gh Aa c4 Aa (wm Aa (AP (decide (c.fStr=([]:Ay))) (λc5=>?_) (λc5=>?_)))))))))
    ·refine wo c5 (wv (Ai C1 Aa Cc Aa Aa) (wo c5 (wv (Aw (i:=0) Cq Aa Aa Aa) (wo c5 (wv (B6 Aa Aa) (Gh Aa c5 Aa (wa Aa (Aq ?_))))))));exact C3 (And.intro c4 c5)
    ·refine wf c5 (wf c5 (wf c5 (wv (r:=rB false) (AE (b:=decide (c.fStr=([]:Ay))) Aa c5 Aa) (wa Aa (Aq ?_)))));exact C3 (And.intro c4 c5)
   ·refine wf c4 (wf c4 (wf c4 (wv (r:=rB false) (AE (b:=decide (c.fInt=0)) Aa c4 Aa) (wm Aa (Am (b:=false) Aa Aa Aa Aa (Am (b:=false) Aa Aa Aa Aa (Am (b:=false) Aa Aa Aa Aa (wv (r:=rB false) (AE (b:=false) Aa Aa Aa) (wa Aa (Aq ?_))))))))));exact C3 c4
  refine A7 (AF (Ak ?_));obtain rfl:=AI h3;exact AA (BZ Kw (Ba Aa)) sN ⟨Aa,Aa⟩
 ·have h6:=AW c2 h;refine At (wv (B6 Aa Aa) (wa Aa (A8 (AC (b:=decide (c.fKind=2)) Aa (λc7=>?_) (λc7=>?_)))))
  ·have h8:=AV c7 h6;refine AO [(2,rB (bif decide (c.fInt=0) then((decide (c.fStr=([]:Ay)))&&(decide (c.fN=0))) else((decide (c.fInt=1))&&((decide (c.fStr=([]:Ay)))&&(decide (c.fN=0))))))] [] ?_ ?_
   ·refine As (wv (Ai C1 Aa Cc Aa Aa) (wv (Aw (i:=0) Cq Aa Aa Aa) (wv (B6 Aa Aa) (wm Aa (AP (decide (c.fInt=0)) (λc9=>?_) (λc9=>?_))))))
    ·refine wf c9 (wf c9 (wf c9 (wv (r:=rB true) (Ar (b:=decide (c.fInt=0)) Aa c9 Aa) (wm Aa (AZ (b:=true) Aa Aa Aa (wv (Ai C1 Aa EI Aa Aa) (AZ (b:=true) Aa Aa Aa (wv (Aw (i:=0) EJ Aa Aa Aa) (AZ (b:=true) Aa Aa Aa (wv (EB Aa Aa) (wv (r:=rB (decide (c.fStr=([]:Ay)))) (Ar (b:=true) Aa Aa Aa) (wm Aa (AP (decide (c.fStr=([]:Ay))) (λhg=>?_) (λhg=>?_))))))))))))))
     ·refine wo hg (wv (Ai C1 Aa Cc Aa Aa) (wo hg (wv (Aw (i:=0) Cq Aa Aa Aa) (wo hg (wv (B6 Aa Aa) (Gh Aa hg Aa (wa Aa (Aq ?_))))))));exact C3 (And.intro c9 hg)
     ·refine wf hg (wf hg (wf hg (wv (r:=rB false) (AE (b:=decide (c.fStr=([]:Ay))) Aa hg Aa) (wa Aa (Aq ?_)))));exact C3 (And.intro c9 hg)
    ·refine wo c9 (wv (Ai C1 Aa Cc Aa Aa) (wo c9 (wv (Aw (i:=0) Cq Aa Aa Aa) (wo c9 (wv (B6 Aa Aa) (GF Aa c9 Aa (wm Aa (AP (decide (c.fInt=1)) (λhb=>?_) (λhb=>?_)))))))))
     ·refine wo hb (wv (Ai C1 Aa EI Aa Aa) (wo hb (wv (Aw (i:=0) EJ Aa Aa Aa) (wo hb (wv (EB Aa Aa) (Gh Aa hb Aa (wm Aa (AP (decide (c.fStr=([]:Ay))) (λhh=>?_) (λhh=>?_)))))))))
      ·refine wo hh (wv (Ai C1 Aa Cc Aa Aa) (wo hh (wv (Aw (i:=0) Cq Aa Aa Aa) (wo hh (wv (B6 Aa Aa) (Gh Aa hh Aa (wa Aa (Aq ?_))))))));exact C3 (And.intro c9 (And.intro hb hh))
      ·refine wf hh (wf hh (wf hh (wv (r:=rB false) (AE (b:=decide (c.fStr=([]:Ay))) Aa hh Aa) (wa Aa (Aq ?_)))));exact C3 (And.intro c9 (And.intro hb hh))
     ·refine wf hb (wf hb (wf hb (wv (r:=rB false) (AE (b:=decide (c.fInt=1)) Aa hb Aa) (wm Aa (Am (b:=false) Aa Aa Aa Aa (Am (b:=false) Aa Aa Aa Aa (Am (b:=false) Aa Aa Aa Aa (wv (r:=rB false) (AE (b:=false) Aa Aa Aa) (wa Aa (Aq ?_))))))))));exact C3 (And.intro c9 hb)
   refine A7 (AF (Ak ?_));obtain rfl:=AI h8;exact AA (BZ Kw (Ba Aa)) sN ⟨Aa,Aa⟩
  ·have hp:=AW c7 h6;refine At (wv (B6 Aa Aa) (wa Aa (A8 (AC (b:=decide (c.fKind=3)) Aa (λhm=>?_) (λhm=>?_)))))
   ·have ht:=AV hm hp;refine AO [(2,rB ((decide (c.fStr=([]:Ay)))&&(decide (c.fN=0))))] [] ?_ ?_
    ·refine As (wv (Ai C1 Aa EI Aa Aa) (wv (Aw (i:=0) EJ Aa Aa Aa) (wv (EB Aa Aa) (wm Aa (AP (decide (c.fStr=([]:Ay))) (λhi=>?_) (λhi=>?_))))))
     ·refine wo hi (wv (Ai C1 Aa Cc Aa Aa) (wo hi (wv (Aw (i:=0) Cq Aa Aa Aa) (wo hi (wv (B6 Aa Aa) (Gh Aa hi Aa (wa Aa (Aq ?_))))))));exact C3 hi
     ·refine wf hi (wf hi (wf hi (wv (r:=rB false) (AE (b:=decide (c.fStr=([]:Ay))) Aa hi Aa) (wa Aa (Aq ?_)))));exact C3 hi
    refine A7 (AF (Ak ?_));obtain rfl:=AI ht;exact AA (BZ Kw (Ba Aa)) sN ⟨Aa,Aa⟩
   ·have hq:=AW hm hp;refine At (wv (B6 Aa Aa) (wa Aa (A8 (AC (b:=decide (c.fKind=4)) Aa (λhn=>?_) (λhn=>?_)))))
    ·have hu:=AV hn hq;obtain⟨hw,hx⟩:=AR hu;refine AO [(2,rB ((decide (c.fInt=0))&&((decide (c.fN=0))&&(ov (Is F c.fStr)))))] [] ?_ ?_
     ·refine As (wv (Ai C1 Aa Cc Aa Aa) (wv (Aw (i:=0) Cq Aa Aa Aa) (wv (B6 Aa Aa) (wm Aa (AP (decide (c.fInt=0)) (λha=>?_) (λha=>?_))))))
      ·refine wo ha (wv (Ai C1 Aa Cc Aa Aa) (wo ha (wv (Aw (i:=0) Cq Aa Aa Aa) (wo ha (wv (B6 Aa Aa) (Gh Aa ha Aa (wm Aa (AP (decide (c.fN=0)) (λhd=>?_) (λhd=>?_)))))))))
       ·refine wo hd (wv (Ai C1 Aa EI Aa Aa) (wo hd (wv (Aw (i:=0) EJ Aa Aa Aa) (wo hd (Ky Tryz.call129 (Tc F c.fStr (ov (Is F c.fStr)) (RR (JI (JI hw ha) hd))) Aa (Gh Aa hd Aa (wa Aa (Aq ?_))))))));exact C3 (And.intro ha hd)
       ·refine wf hd (wf hd (wf hd (wv (r:=rB false) (AE (b:=decide (c.fN=0)) Aa hd Aa) (wa Aa (Aq ?_)))));exact C3 (And.intro ha hd)
      ·refine wf ha (wf ha (wf ha (wv (r:=rB false) (AE (b:=decide (c.fInt=0)) Aa ha Aa) (wm Aa (Am (b:=false) Aa Aa Aa Aa (Am (b:=false) Aa Aa Aa Aa (Am (b:=false) Aa Aa Aa Aa (wv (r:=rB false) (AE (b:=false) Aa Aa Aa) (wa Aa (Aq ?_))))))))));exact C3 ha
     refine A7 (AF (Ak ?_));obtain rfl:=AI hx;exact AA (BZ Kw (Ba Aa)) sN ⟨Aa,Aa⟩
    ·have hr:=AW hn hq;refine A1 (At (wv (B6 Aa Aa) (wa Aa (A8 (AC (b:=decide (c.fKind=5)) Aa (λhl=>?_) (λhl=>?_))))))
     ·have hy:=AV hl hr;refine AH (Bm (C6 Aa hl (AO [(2,rB ((decide (c.fInt=0))&&((decide (c.fStr=([]:Ay)))&&(decide (0≤c.fN)))))] [] ?_ ?_)))
      ·refine As (wv (Ai C1 Aa Cc Aa Aa) (wv (Aw (i:=0) Cq Aa Aa Aa) (wv (B6 Aa Aa) (wm Aa (AP (decide (c.fInt=0)) (λhe=>?_) (λhe=>?_))))))
       ·refine wo he (wv (Ai C1 Aa EI Aa Aa) (wo he (wv (Aw (i:=0) EJ Aa Aa Aa) (wo he (wv (EB Aa Aa) (Gh Aa he Aa (wm Aa (AP (decide (c.fStr=([]:Ay))) (λhj=>?_) (λhj=>?_)))))))))
        ·refine wo hj (wv (Ai C1 Aa Cc Aa Aa) (wo hj (wv (Aw (i:=0) Cq Aa Aa Aa) (wo hj (wv (IG Aa Aa) (Gh Aa hj Aa (wa Aa (Aq ?_))))))));exact C3 (And.intro he hj)
        ·refine wf hj (wf hj (wf hj (wv (r:=rB false) (AE (b:=decide (c.fStr=([]:Ay))) Aa hj Aa) (wa Aa (Aq ?_)))));exact C3 (And.intro he hj)
       ·refine wf he (wf he (wf he (wv (r:=rB false) (AE (b:=decide (c.fInt=0)) Aa he Aa) (wm Aa (Am (b:=false) Aa Aa Aa Aa (Am (b:=false) Aa Aa Aa Aa (Am (b:=false) Aa Aa Aa Aa (wv (r:=rB false) (AE (b:=false) Aa Aa Aa) (wa Aa (Aq ?_))))))))));exact C3 he
      refine A7 (AF (Ak ?_));obtain rfl:=AI hy;exact AA (BZ Kw (Ba Aa)) sN ⟨Aa,Aa⟩
     ·have hs:=AW hl hr;refine As (wv (B6 Aa Aa) (wa Aa (A8 (AC (b:=decide (c.fKind=6)) Aa (λho=>?_) (λho=>?_)))))
      ·have hz:=AV ho hs;refine AO [(2,rB ((decide (c.fInt=0))&&((decide (c.fStr=([]:Ay)))&&(decide (0≤c.fN)))))] [] ?_ ?_
       ·refine As (wv (Ai C1 Aa Cc Aa Aa) (wv (Aw (i:=0) Cq Aa Aa Aa) (wv (B6 Aa Aa) (wm Aa (AP (decide (c.fInt=0)) (λhf=>?_) (λhf=>?_))))))
        ·refine wo hf (wv (Ai C1 Aa EI Aa Aa) (wo hf (wv (Aw (i:=0) EJ Aa Aa Aa) (wo hf (wv (EB Aa Aa) (Gh Aa hf Aa (wm Aa (AP (decide (c.fStr=([]:Ay))) (λhk=>?_) (λhk=>?_)))))))))
         ·refine wo hk (wv (Ai C1 Aa Cc Aa Aa) (wo hk (wv (Aw (i:=0) Cq Aa Aa Aa) (wo hk (wv (IG Aa Aa) (Gh Aa hk Aa (wa Aa (Aq ?_))))))));exact C3 (And.intro hf hk)
         ·refine wf hk (wf hk (wf hk (wv (r:=rB false) (AE (b:=decide (c.fStr=([]:Ay))) Aa hk Aa) (wa Aa (Aq ?_)))));exact C3 (And.intro hf hk)
        ·refine wf hf (wf hf (wf hf (wv (r:=rB false) (AE (b:=decide (c.fInt=0)) Aa hf Aa) (wm Aa (Am (b:=false) Aa Aa Aa Aa (Am (b:=false) Aa Aa Aa Aa (Am (b:=false) Aa Aa Aa Aa (wv (r:=rB false) (AE (b:=false) Aa Aa Aa) (wa Aa (Aq ?_))))))))));exact C3 hf
       refine A7 (AF (Ak ?_));obtain rfl:=AI hz;exact AA (BZ Kw (Ba Aa)) sN ⟨Aa,Aa⟩
      ·have h0:=AW ho hs;refine AH (AY (Bm (At (wv (r:=rB false) (Aj Aa) (A8 (A7 ?_))))));obtain rfl:=AI h0;exact AA (BZ Kw (Ba Aa)) (sS sN) ⟨Aa,Aa⟩
theorem Td (c:Al)(r:Int)(h:Nc c=some r):Fn Tryz.prog GE 113 [B2 (An c)] [] (λR H=>R=rI .i64 r∧H=[]):=by
 refine enter (n:=28) Tryz.func113 Aa Tryz.ntmps113 Aa (λw Z=>?_);refine Bi (l':=[(0,B2 (An c))]) (H':=[]) Aa Aa ?_;unfold Nc at h;refine At (BT Aa Aa (λb1=>?_));refine wv (r:=rI .i64 0) (Aj Aa) (A8 (A1 (At (wv (Ai C1 Aa MU Aa Aa) (wv (Aw (i:=0) MY Aa Aa Aa) (A8 (Bc (At (wv (B6 Aa Aa) (wa Aa (A8 (AC (b:=decide (c.fKind=1)) Aa (λc2=>?_) (λc2=>?_)))))))))))))
 ·have h3:=AV c2 h;refine At (wv (r:=rI .i64 4) (Aj Aa) (A8 (A7 (AF (Ak ?_)))));obtain rfl:=AI h3;exact AA (BZ MX (Ba Aa)) (sS sN) ⟨Aa,Aa⟩
 ·have h4:=AW c2 h;refine At (wv (B6 Aa Aa) (wa Aa (A8 (AC (b:=decide (c.fKind=2)) Aa (λc5=>?_) (λc5=>?_)))))
  ·have h6:=AV c5 h4;refine At (wv (Ai C1 Aa Cc Aa Aa) (wv (Aw (i:=0) Cq Aa Aa Aa) (wv (r:=rI .i64 (IntKind.wrap .i64 (5-c.fInt))) (Sc Aa Aa) (wa Aa (A8 (A7 (AF (Ak ?_))))))));obtain rfl:=AI h6;exact AA (BZ MX (Ba Aa)) (sS sN) ⟨Aa,Aa⟩
  ·have h7:=AW c5 h4;refine At (wv (B6 Aa Aa) (wa Aa (A8 (AC (b:=decide (c.fKind=3)) Aa (λc8=>?_) (λc8=>?_)))))
   ·have h9:=AV c8 h7;refine At (wv (Ai C1 Aa Cc Aa Aa) (wv (Aw (i:=0) Cq Aa Aa Aa) ?_));obtain⟨hd,he⟩:=AR h9;refine Do (rs:=[rI .i64 c.fInt]) (r:=rS (Lib.itoa c.fInt)) Tryz.call65 Aa (NU c.fInt hd) Aa Aa (wv (BU GO Aa) (wa Aa (A8 (A7 (AF (Ak ?_))))));obtain rfl:=AI he;exact AA (BZ MX (Ba Aa)) (sS sN) ⟨Aa,Aa⟩
   ·have hb:=AW c8 h7;refine At (wv (B6 Aa Aa) (wa Aa (A8 (AC (b:=decide (c.fKind=4)) Aa (λha=>?_) (λha=>?_)))))
    ·have hf:=AV ha hb;refine At (wv (Ai C1 Aa EI Aa Aa) (wv (Aw (i:=0) EJ Aa Aa Aa) ?_));obtain⟨hg,hh,hi⟩:=Bb hf;refine Ky Tryz.call112 (Lz c.fStr hg hh) Aa (wa Aa (A8 (A7 (AF (Ak ?_)))));obtain rfl:=AI hi;exact AA (BZ MX (Ba Aa)) (sS sN) ⟨Aa,Aa⟩
    ·have hj:=AW ha hb;refine AH (AY (Bm (At (wv (Ai C1 Aa Cc Aa Aa) (wv (Aw (i:=0) Cq Aa Aa Aa) (wv (r:=rI .i64 (IntKind.wrap .i64 (c.fN-1))) (Sc Aa Aa) (wv (Uj Tryz.underlying3 Aa Aa) (wv (r:=rI .i64 (IntKind.wrap .i64 (2+(max 0 (IntKind.wrap .i64 (c.fN-1)))))) (OJ Aa Aa) (wa Aa (A8 (A7 ?_)))))))))));obtain rfl:=AI hj;exact AA (BZ MX (Ba Aa)) (sS sN) ⟨Aa,Aa⟩
theorem Qb (F:Nat)(hg:Value)(stack:(List Av))(r:(List Av))(h:Iv F stack=some r):Fn Tryz.prog GE 114 [rv hg] [.row hg 147 5 (List.map Au stack)] (λR H=>∃u0:Value,R=rv u0∧H=[.row u0 147 5 (List.map Au r)]):=by
 refine enter (n:=38) Tryz.func114 Aa Tryz.ntmps114 Aa (λw Z=>?_);refine Bi (l':=[(0,rv hg)]) (H':=[.row hg 147 5 (List.map Au stack)]) Aa Aa ?_;unfold Iv at h;refine At (wv (r:=rv (.slice none 0 0)) (Aj Aa) (A8 (A1 (Bc ?_))));obtain⟨hq,hr,hn⟩:=Bb h;refine Ci (S:=Nat×((List Av))×(Value)) (V:=((List Av))×(Value)) 0 (λσ=>BB (λσ=>CO σ) σ.1 σ.2.1=some hq) (λσ=>[(0,rv σ.2.2),(2,rv (.slice none 0 0))]) (λσ=>[.row σ.2.2 147 5 (List.map Au σ.2.1)]) (λσ=>σ.1) (F,stack,hg) hr (AS.c Aa (AS.c Aa AS.nil)) (sC sN) (λσ=>Dt σ.1=some r) (λσ=>[(0,rv σ.2),(2,rv (.slice none 0 0))]) (λσ=>[.row σ.2 147 5 (List.map Au σ.1)]) ?_ ?_
 ·rintro⟨hG,ha,hd⟩ hs;refine Bi (l':=[(0,rv hd),(2,rv (.slice none 0 0))]) (H':=[.row hd 147 5 (List.map Au ha)]) Aa Aa ?_;obtain⟨ht,rfl,hu,hh,hj⟩:=Hf hs;replace hh:CO ha=some hu:=hh;unfold CO at hh;refine A1 (At (wm Aa (wv (Ca (ys:=ha) (enc:=Au) (i:=0) GD Aa Aa) (wv (Du Aa Aa) (A8 (AC (b:=decide (0<(ha.length:Int))) Aa (λhk=>?_) (λhk=>?_)))))))
  ·have hw:=AV hk hh;refine AH (Bm (Bc (At (wm Aa (wm Aa (wv (Ca (ys:=ha) (enc:=Au) (i:=0) GD Aa Aa) ?_))))));obtain⟨hx,hy⟩:=AR hw;refine wv (JD Aa Aa hx) ?_;obtain⟨he,hz⟩:=AR hy;refine wv (r:=rv (Eb 5 hd (Int.toNat ((ha.length:Int)-1)) 0)) (Hb (i:=0) GD MW Aa Aa Aa (Bz he)) (wa Aa (BI (wm Aa (wv (r:=rv (Eb 5 hd (Int.toNat ((ha.length:Int)-1)) 0)) (BH (k:=0) Aa (Bz he) Aa Aa) (wv (r:=rv (Eb 5 hd (Int.toNat ((ha.length:Int)-1)) 1)) (Eq (k:=0) GC Aa Cc Aa (Bz he) Aa Aa Aa) (wv (r:=rI .i64 ((Ac ha ((ha.length:Int)-1)).fLeft)) (Gb (enc:=Au) (ys:=ha) (i:=0) (j:=(ha.length:Int)-1) Cq Aa Aa he Aa) ?_))))));obtain⟨h0,h1⟩:=AR hz;refine wv (JD Aa Aa h0) (wv (r:=rv (Eb 5 hd (Int.toNat ((ha.length:Int)-1)) 0)) (BH (k:=0) Aa (Bz he) Aa Aa) (wv (r:=rv (Eb 5 hd (Int.toNat ((ha.length:Int)-1)) 1)) (Eq (k:=0) GC Aa Cc Aa (Bz he) Aa Aa Aa) (Jg (enc:=Au) (ys:=ha) (y':=(Av.mk ((Ac ha ((ha.length:Int)-1)).fPairs) (((Ac ha ((ha.length:Int)-1)).fLeft)-1) ((Ac ha ((ha.length:Int)-1)).fKey) ((Ac ha ((ha.length:Int)-1)).fLast) ((Ac ha ((ha.length:Int)-1)).fStarted))) (i:=0) (j:=(ha.length:Int)-1) Cc Aa Aa (BJ Aa) Aa he Aa Aa (H':=[.row hd 147 5 (List.map Au (List.set ha (Int.toNat ((ha.length:Int)-1)) (Av.mk ((Ac ha ((ha.length:Int)-1)).fPairs) (((Ac ha ((ha.length:Int)-1)).fLeft)-1) ((Ac ha ((ha.length:Int)-1)).fKey) ((Ac ha ((ha.length:Int)-1)).fLast) ((Ac ha ((ha.length:Int)-1)).fStarted))))]) Aa ?_)));obtain⟨hb,hf,ho⟩:=IX h1;rw[← hf];refine A8 (A1 (At (wm Aa (wv (r:=rv (Eb 5 hd (Int.toNat ((ha.length:Int)-1)) 0)) (BH (k:=0) Aa (Bz (Cn he hf)) Aa Aa) (wv (r:=rv (Eb 5 hd (Int.toNat ((ha.length:Int)-1)) 1)) (Eq (k:=0) GC Aa Cc Aa (Bz (Cn he hf)) Aa Aa Aa) (wv (r:=rI .i64 ((Ac hb ((ha.length:Int)-1)).fLeft)) (Gb (enc:=Au) (ys:=hb) (i:=0) (j:=(ha.length:Int)-1) Cq Aa Aa (Cn he hf) Aa) (wv (Du Aa Aa) (A8 (AC (b:=decide (0<((Ac hb ((ha.length:Int)-1)).fLeft))) Aa (λhl=>?_) (λhl=>?_))))))))))
   ·have h2:=AV hl ho;refine At (wm Aa (wm Aa (wv (r:=rv (Eb 5 hd (Int.toNat ((ha.length:Int)-1)) 0)) (BH (k:=0) Aa (Bz (Cn he hf)) Aa Aa) (wv (r:=rv (Eb 5 hd (Int.toNat ((ha.length:Int)-1)) 0)) (Eq (k:=0) GC Aa Hn Aa (Bz (Cn he hf)) Aa Aa Aa) (wv (r:=rB ((Ac hb ((ha.length:Int)-1)).fPairs)) (Gb (enc:=Au) (ys:=hb) (i:=0) (j:=(ha.length:Int)-1) SQ Aa Aa (Cn he hf) Aa) (wv (r:=rv (Eb 5 hd (Int.toNat ((ha.length:Int)-1)) 0)) (BH (k:=0) Aa (Bz (Cn he hf)) Aa Aa) (wv (r:=rv (Eb 5 hd (Int.toNat ((ha.length:Int)-1)) 2)) (Eq (k:=0) GC Aa Hn Aa (Bz (Cn he hf)) Aa Aa Aa) (Jg (enc:=Au) (ys:=hb) (y':=(Av.mk ((Ac hb ((ha.length:Int)-1)).fPairs) ((Ac hb ((ha.length:Int)-1)).fLeft) ((Ac hb ((ha.length:Int)-1)).fPairs) ((Ac hb ((ha.length:Int)-1)).fLast) ((Ac hb ((ha.length:Int)-1)).fStarted))) (i:=0) (j:=(ha.length:Int)-1) Hn Aa Aa (BJ Aa) Aa (Cn he hf) Aa Aa (H':=[.row hd 147 5 (List.map Au (List.set hb (Int.toNat ((ha.length:Int)-1)) (Av.mk ((Ac hb ((ha.length:Int)-1)).fPairs) ((Ac hb ((ha.length:Int)-1)).fLeft) ((Ac hb ((ha.length:Int)-1)).fPairs) ((Ac hb ((ha.length:Int)-1)).fLast) ((Ac hb ((ha.length:Int)-1)).fStarted))))]) Aa ?_))))))));obtain⟨hH,h3,h4⟩:=IX h2;rw[← h3];refine BI (wm Aa (wa Aa (A8 (A7 (Ak (AF (Ak (Bs ?_))))))));have h5:=BO h4 hj hn;refine AF (Ak ?_);obtain rfl:=AI h5;exact AA (BZ Tryz.results114 (Ba Aa)) (sC sN) ⟨hd,Aa,Aa⟩
   ·have h6:=AW hl ho;refine AH (Bm (As (wm Aa (wm Aa (wv (Ca (ys:=hb) (enc:=Au) (i:=0) GD Aa Aa) ?_)))));obtain⟨h7,h8⟩:=AR h6;refine wv (JD Aa Aa h7) ?_;obtain⟨h9,hA⟩:=AR h8;refine Vk (i:=0) GD MW Aa Aa Aa h9 Aa (λhB=>?_);refine wa Aa (Aq (AY ?_));have hC:=CQ hA hj;exact Az (AU (ht,List.take (Int.toNat ((hb.length:Int)-1)) hb,hB) ⟨hC,WZ _⟩ (AS.c Aa (AS.c Aa AS.nil)) (sC sN))
  ·have hD:=AW hk hh;refine BN (AN ?_);have hE:=Ep hD hj hn;exact AN (B8 (AU (ha,hd) hE (AS.c Aa (AS.c Aa AS.nil)) (sC sN)))
 ·rintro⟨hp,hm⟩ hi;refine E7 (l':=[(0,rv hm),(2,rv (.slice none 0 0))]) (H':=[.row hm 147 5 (List.map Au hp)]) Aa Aa ?_;replace hi:Dt hp=some r:=hi;unfold Dt at hi;refine B3 (Bm (At (wm Aa (wa Aa (A8 (A7 ?_))))));obtain rfl:=AI hi;exact AA (BZ Tryz.results114 (Ba Aa)) (sC sN) ⟨hm,Aa,Aa⟩
theorem Te (F:Nat)(v:(List Al))(r:Int×A6×Bool)(h:Iu F v=some r):Fn Tryz.prog GE 88 [BE 4 (List.map An v)] [] (λR H=>R=DK [rI .i64 r.1,B2 (AQ r.2.1),rB r.2.2]∧H=[]):=by
 refine enter (n:=152) Tryz.func88 Aa Tryz.ntmps88 Aa (λw Z=>?_);refine Bi (l':=[(0,BE 4 (List.map An v))]) (H':=[]) Aa Aa ?_;unfold Iu at h;refine At (wv (r:=rI .i64 0) (Aj Aa) (Eu (cs:=[rI .i64 0,rI .i64 0,rB false,rB false]) Tryz.zeroValue121 Aa Aa (λb1=>?_)));refine wv (r:=rB false) (Aj Aa) (A8 (Ru (At (Eu (cs:=[rI .i64 0,rI .i64 0,rB false,rB false]) Tryz.zeroValue121 Aa Aa (λb2=>?_)))));refine BI (wv (r:=rv (.slice none 0 0)) (Aj Aa) (A8 (A1 (Rv (Bm (A1 (At (wm Aa (wv (CF (ys:=v) (enc:=An) JR Aa) (wv (r:=rI .i64 0) (Ax Aa) (A8 (Bc (WC.nilrow (e:=147) (sz:=5) (EL (H2:=[.blk b2 [rI .i64 0,rI .i64 0,rB false,rB false] 121,.blk b1 [rI .i64 0,rI .i64 0,rB false,rB false] 121,.row (.slice none 0 0                                                                                                                                                   ) 147 5 (List.map Au ([]:List Av))]) ((Ae (i:=1) Aa).trans (Wo _ ((Ae (i:=1) Aa).trans (Wo _ (Wr _))))) ?_))))))))))))));obtain⟨hQ,hR,hy⟩:=Bb h;refine Ci (S:=Nat×((List Av)×Int×A6)×(Value)) (V:=(A6)×(Unit)) 0 (λσ=>BB (λσ=>CN F v σ.1 σ.2.1 σ.2.2) σ.1 σ.2.1=some hQ) (λσ=>[(0,BE 4 (List.map An v)),(3,rv (.pointer (some ⟨b1,0,none⟩))),(5,rv (.pointer (some ⟨b2,0,none⟩))),(6,rv σ.2.2),(11,BE 4 (List.map An v)),(12,rI .i64 (v.length:Int)),(13,rI .i64 σ.2.1.2.1)]) (λσ=>[.blk b2 (AQ σ.2.1.2.2) 121,.blk b1 [rI .i64 0,rI .i64 0,rB false,rB false] 121,.row σ.2.2 147 5 (List.map Au σ.2.1.1)]) (λσ=>σ.1) (F,(([]:List Av),0,(A6.mk 0 0 false false)),(.slice none 0 0                                                                                                                                                   )) hR (AS.c Aa (AS.c Aa (AS.c5 Aa Aa Aa Aa Aa AS.nil))) (sC (sC (sC sN))) (λσ=>It σ.1=some r) (λσ=>[(3,rv (.pointer (some ⟨b1,0,none⟩))),(5,rv (.pointer (some ⟨b2,0,none⟩)))]) (λσ=>[.blk b2 (AQ σ.1) 121,.blk b1 [rI .i64 0,rI .i64 0,rB false,rB false] 121]) ?_ ?_
 ·rintro⟨gI,⟨hd,hb,ha⟩,he⟩ hS;refine Bi (l':=[(0,BE 4 (List.map An v)),(3,rv (.pointer (some ⟨b1,0,none⟩))),(5,rv (.pointer (some ⟨b2,0,none⟩))),(6,rv he),(11,BE 4 (List.map An v)),(12,rI .i64 (v.length:Int)),(13,rI .i64 hb)]) (H':=[.blk b2 (AQ ha) 121,.blk b1 [rI .i64 0,rI .i64 0,rB false,rB false] 121,.row he 147 5 (List.map Au hd)]) Aa Aa ?_;obtain⟨hT,rfl,h4,hz,hx⟩:=Hf hS;replace hz:CN F v hd hb ha=some h4:=hz;unfold CN at hz;refine At (wv (EK Aa Aa) (A8 (A1 (AC (b:=decide (hb<(v.length:Int))) Aa (λh5=>?_) (λh5=>?_)))))
  ·have hU:=AV h5 hz;refine AH (Bm (Cu (S:=((List Av)×A6)×(Value)) (λσ=>Dh hb σ.1.1 σ.1.2=some h4) (λσ=>[(0,BE 4 (List.map An v)),(3,rv (.pointer (some ⟨b1,0,none⟩))),(5,rv (.pointer (some ⟨b2,0,none⟩))),(6,rv σ.2),(11,BE 4 (List.map An v)),(12,rI .i64 (v.length:Int)),(13,rI .i64 hb)]) (λσ=>[.blk b2 (AQ σ.1.2) 121,.blk b1 [rI .i64 0,rI .i64 0,rB false,rB false] 121,.row σ.2 147 5 (List.map Au σ.1.1)]) ?_ ?_))
   ·refine Bc (At (wm Aa ?_));obtain⟨hV,hW⟩:=AR hU;refine wv (ED (enc:=An) (ys:=v) JR MT Aa Aa hV) (wv (Jr Tryz.isAgg95 MT Aa Aa Aa) (Eu (cs:=[rI .i64 0,rI .i64 0,rS ([]:Ay),rI .i64 0]) Uo Aa Aa (λhf=>?_)));refine wa Aa (CP (i:=0) MT Aa Aa Aa (CI.c Aa) Aa Aa (cs':=[rI .i64 ((Ac v hb).fKind),rI .i64 ((Ac v hb).fInt),rS ((Ac v hb).fStr),rI .i64 ((Ac v hb).fN)]) Aa (H':=[.blk hf (An (Ac v hb)) 95,.blk b2 (AQ ha) 121,.blk b1 [rI .i64 0,rI .i64 0,rB false,rB false] 121,.row he 147 5 (List.map Au hd)]) Aa (A8 (A1 (At (wv (Bx (i:=0) Tryz.isAgg95 MT Aa Aa Aa Aa) ?_)))));obtain⟨hH,hX,hI⟩:=Bb hW;refine Ky Tryz.call111 (Ry F (Ac v hb) hH hX) Aa (wv (Cz Aa) (A8 (AC (b:=!hH) Aa (λh6=>?_) (λh6=>?_))))
    ·have hY:=AV h6 hI;refine A1 (Gw (H1:=[.blk hf (An (Ac v hb)) 95,.blk b2 (AQ ha) 121,.blk b1 (AQ ha) 121,.row he 147 5 (List.map Au hd)]) [3,5] [⟨[],B2 (AQ ha),1⟩,⟨[],rI .i64 0,0⟩,⟨[0],rv undef,2⟩,⟨[],rB false,0⟩] (rle [(3,_),(2,[.blk hf (An (Ac v hb)) 95,.blk b2 (AQ ha) 121,.blk b1 (AQ ha) 121,.row he 147 5 (List.map Au hd)])]) [2,4,3] ?_ ?_)
     ·refine of (Bx (i:=1) HE Es Aa Aa Aa Aa) (oq (Aj Aa) (IF Aa (Mw (Dm (i:=2) Es Aa Aa Aa (CI.c Aa) Aa Aa (cs':=[rI .i64 ha.fDepth,rI .i64 ha.fBytes,rB ha.fOutside,rB ha.fLong]) Aa (H':=[.blk hf (An (Ac v hb)) 95,.blk b2 (AQ ha) 121,.blk b1 (AQ ha) 121,.row he 147 5 (List.map Au hd)]) Aa)) ?_));refine oq (Aj Aa) ?_;exact CV
     refine Bm (A7 (Ak (AF (Ak (Ak (Bs ?_))))));have hZ:=BO hY hx hy;refine AF (Ak (Iq ?_));obtain rfl:=AI hZ;exact AA (RH Rn (Ba Aa) (KF (i:=2) HE Es Aa Aa Aa) (Ba Aa)) (sS (sS (sS (sS sN)))) ⟨Aa,Aa⟩
    ·have ga:=AW h6 hI;refine AH (Bm (A1 (At (wm Aa (wv (Ca (ys:=hd) (enc:=Au) (i:=3) GD Aa Aa) (wa Aa (A8 ?_)))))));obtain⟨gb,gc⟩:=AR ga;obtain⟨h7,hJ⟩:=AR gc;refine AO [(0,BE 4 (List.map An v)),(3,rv (.pointer (some ⟨b1,0,none⟩))),(5,rv (.pointer (some ⟨b2,0,none⟩))),(6,rv he),(7,rI .i64 hb),(8,rv (.pointer (some ⟨hf,0,none⟩))),(9,rI .i64 (hd.length:Int)),(11,BE 4 (List.map An v)),(12,rI .i64 (v.length:Int)),(13,rI .i64 hb),(33,rB ((decide (0<(hd.length:Int)))&&((Ac hd ((hd.length:Int)-1)).fKey)))] [.blk hf (An (Ac v hb)) 95,.blk b2 (AQ ha) 121,.blk b1 [rI .i64 0,rI .i64 0,rB false,rB false] 121,.row he 147 5 (List.map Au hd)] ?_ ?_
     ·refine As (wm Aa (wv (Du Aa Aa) (wm Aa (AP (decide (0<(hd.length:Int))) (λhi=>?_) (λhi=>?_)))))
      ·refine wo hi (wm Aa (wo hi (wm Aa (wo hi (wv (JD Aa Aa (JI gb hi)) (wo hi (wv (r:=rv (Eb 5 he (Int.toNat ((hd.length:Int)-1)) 0)) (Hb (i:=3) GD MW Aa Aa Aa (Bz (JI h7 hi))) (wo hi (wv (r:=rv (Eb 5 he (Int.toNat ((hd.length:Int)-1)) 2)) (Eq (k:=3) GC Aa Hn Aa (Bz (JI h7 hi)) Aa Aa Aa) (wo hi (wv (r:=rB ((Ac hd ((hd.length:Int)-1)).fKey)) (Gb (enc:=Au) (ys:=hd) (i:=3) (j:=(hd.length:Int)-1) SQ Aa Aa (JI h7 hi) Aa) (Gh Aa hi Aa (Aq ?_)))))))))))));exact C3 hi
      ·refine wf hi (wf hi (wf hi (wf hi (wf hi (wf hi (wv (r:=rB false) (AE (b:=decide (0<(hd.length:Int))) Aa hi Aa) (Aq ?_)))))));exact C3 hi
     refine AC (b:=((decide (0<(hd.length:Int)))&&((Ac hd ((hd.length:Int)-1)).fKey))) Aa (λh8=>?_) (λh8=>?_)
     ·have gd:=AV h8 hJ;refine At (wm Aa (wm Aa ?_));obtain⟨ge,gf⟩:=AR gd;refine wv (JD Aa Aa ge) ?_;obtain⟨hj,hK⟩:=AR gf;refine wv (r:=rv (Eb 5 he (Int.toNat ((hd.length:Int)-1)) 0)) (Hb (i:=3) GD MW Aa Aa Aa (Bz hj)) (wa Aa (A8 (A1 (AO [(0,BE 4 (List.map An v)),(3,rv (.pointer (some ⟨b1,0,none⟩))),(5,rv (.pointer (some ⟨b2,0,none⟩))),(6,rv he),(8,rv (.pointer (some ⟨hf,0,none⟩))),(10,rv (Eb 5 he (Int.toNat ((hd.length:Int)-1)) 0)),(11,BE 4 (List.map An v)),(12,rI .i64 (v.length:Int)),(13,rI .i64 hb),(38,rv (.pointer (some ⟨hf,0,none⟩))),(39,rI .i64 ((Ac v hb).fKind)),(40,rB (!decide (((Ac v hb).fKind)=4))),(41,rB (!decide (((Ac v hb).fKind)=4))),(55,rB ((!decide (((Ac v hb).fKind)=4))||(((Ac hd ((hd.length:Int)-1)).fStarted)&&(BM ((Ac v hb).fStr) ((Ac hd ((hd.length:Int)-1)).fLast)||decide (((Ac v hb).fStr)=((Ac hd ((hd.length:Int)-1)).fLast))))))] [.blk hf (An (Ac v hb)) 95,.blk b2 (AQ ha) 121,.blk b1 [rI .i64 0,rI .i64 0,rB false,rB false] 121,.row he 147 5 (List.map Au hd)] ?_ ?_))))
      ·refine AP (!decide (((Ac v hb).fKind)=4)) (λhh=>?_) (λhh=>?_)
       ·refine DO [0,3,5,6,8,10,11,12,13] [⟨[],rv (.pointer (some ⟨hf,0,none⟩)),0⟩,⟨[0],rI .i64 ((Ac v hb).fKind),1⟩,⟨[1],rB (!decide (((Ac v hb).fKind)=4)),0⟩,⟨[2],rB (!decide (((Ac v hb).fKind)=4)),0⟩,⟨[3],rv undef,0⟩,⟨[4,3],rv undef,0⟩,⟨[5,3],rv undef,0⟩,⟨[6,3],rv undef,0⟩,⟨[7,3],rv undef,0⟩,⟨[8],rv undef,0⟩,⟨[9,8],rv undef,0⟩,⟨[8],rv undef,0⟩,⟨[11,8],rv undef,0⟩,⟨[12,8],rv undef,0⟩,⟨[13,8],rv undef,0⟩,⟨[10,14,8],rv undef,0⟩,⟨[8,15,3],rv undef,0⟩,⟨[3,16],rB true,0⟩] [38,39,40,41,42,43,44,45,46,47,48,49,50,51,52,53,54,55,0,3,5,6,8,10,11,12,13] ?_ ?_
        ·refine oq (Ai C1 Aa MU Aa Aa) (of (Aw (i:=0) MY Aa Aa Aa) (oq (G7 Aa Aa) (oq (Ax Aa) (oz hh (oz hh (oz hh (oz hh (oz hh (ou (ou (ou (ou (ou (ou (ou (oz hh (oq (Ar (b:=!decide (((Ac v hb).fKind)=4)) Aa hh Aa) ?_)))))))))))))))));exact CV
        exact C3 hh
       ·refine AP ((Ac hd ((hd.length:Int)-1)).fStarted) (λhk=>?_) (λhk=>?_)
        ·refine DO [0,3,5,6,8,10,11,12,13] [⟨[],rv (.pointer (some ⟨hf,0,none⟩)),0⟩,⟨[0],rI .i64 ((Ac v hb).fKind),1⟩,⟨[1],rB (!decide (((Ac v hb).fKind)=4)),0⟩,⟨[2],rB (!decide (((Ac v hb).fKind)=4)),0⟩,⟨[3],rv (Eb 5 he (Int.toNat ((hd.length:Int)-1)) 0),0⟩,⟨[4,3],rv (Eb 5 he (Int.toNat ((hd.length:Int)-1)) 0),1⟩,⟨[5,3],rv (Eb 5 he (Int.toNat ((hd.length:Int)-1)) 4),1⟩,⟨[6,3],rB ((Ac hd ((hd.length:Int)-1)).fStarted),1⟩,⟨[7,3],rB ((Ac hd ((hd.length:Int)-1)).fStarted),0⟩,⟨[8],rv (.pointer (some ⟨hf,2,none⟩)),0⟩,⟨[9,8],rS ((Ac v hb).fStr),1⟩,⟨[8],rv (Eb 5 he (Int.toNat ((hd.length:Int)-1)) 0),0⟩,⟨[11,8],rv (Eb 5 he (Int.toNat ((hd.length:Int)-1)) 0),1⟩,⟨[12,8],rv (Eb 5 he (Int.toNat ((hd.length:Int)-1)) 3),1⟩,⟨[13,8],rS ((Ac hd ((hd.length:Int)-1)).fLast),1⟩,⟨[10,14,8],rB (BM ((Ac v hb).fStr) ((Ac hd ((hd.length:Int)-1)).fLast)||decide (((Ac v hb).fStr)=((Ac hd ((hd.length:Int)-1)).fLast))),0⟩,⟨[8,15,3],rB (BM ((Ac v hb).fStr) ((Ac hd ((hd.length:Int)-1)).fLast)||decide (((Ac v hb).fStr)=((Ac hd ((hd.length:Int)-1)).fLast))),0⟩,⟨[3,16],rB (BM ((Ac v hb).fStr) ((Ac hd ((hd.length:Int)-1)).fLast)||decide (((Ac v hb).fStr)=((Ac hd ((hd.length:Int)-1)).fLast))),0⟩] [38,39,40,41,42,43,44,45,46,47,48,49,50,51,52,53,54,55,0,3,5,6,8,10,11,12,13] ?_ ?_
         ·refine oq (Ai C1 Aa MU Aa Aa) (of (Aw (i:=0) MY Aa Aa Aa) (oq (G7 Aa Aa) (oq (Ax Aa) (on hh (oq (Ax Aa) (on hh (of (BH (k:=3) Aa (Bz hj) Aa Aa) (on hh (of (Eq (k:=3) GC Aa Hn Aa (Bz hj) Aa Aa Aa) (on hh (of (Gb (enc:=Au) (ys:=hd) (i:=3) (j:=(hd.length:Int)-1) SQ Aa Aa hj Aa) (on hh (oq (Ax Aa) (on hk (oq (Ai C1 Aa EI Aa Aa) (on hk (of (Aw (i:=0) EJ Aa Aa Aa) (on hk (oq (Ax Aa) (on hk (of (BH (k:=3) Aa (Bz hj) Aa Aa) (on hk (of (Eq (k:=3) GC Aa EI Aa (Bz hj) Aa Aa Aa) ?_)))))))))))))))))))))));refine on hk (of (Gb (enc:=Au) (ys:=hd) (i:=3) (j:=(hd.length:Int)-1) EJ Aa Aa hj Aa) (on hk (oq (Ui Aa Aa) (on hh (oq (Ar Aa hk Aa) (oq (AE Aa hh Aa) ?_))))));exact CV
         exact C3 (And.intro hh hk)
        ·refine DO [0,3,5,6,8,10,11,12,13] [⟨[],rv (.pointer (some ⟨hf,0,none⟩)),0⟩,⟨[0],rI .i64 ((Ac v hb).fKind),1⟩,⟨[1],rB (!decide (((Ac v hb).fKind)=4)),0⟩,⟨[2],rB (!decide (((Ac v hb).fKind)=4)),0⟩,⟨[3],rv (Eb 5 he (Int.toNat ((hd.length:Int)-1)) 0),0⟩,⟨[4,3],rv (Eb 5 he (Int.toNat ((hd.length:Int)-1)) 0),1⟩,⟨[5,3],rv (Eb 5 he (Int.toNat ((hd.length:Int)-1)) 4),1⟩,⟨[6,3],rB ((Ac hd ((hd.length:Int)-1)).fStarted),1⟩,⟨[7,3],rB ((Ac hd ((hd.length:Int)-1)).fStarted),0⟩,⟨[8],rv undef,0⟩,⟨[9,8],rv undef,0⟩,⟨[8],rv undef,0⟩,⟨[11,8],rv undef,0⟩,⟨[12,8],rv undef,0⟩,⟨[13,8],rv undef,0⟩,⟨[10,14,8],rv undef,0⟩,⟨[8,15,3],rB false,0⟩,⟨[3,16],rB false,0⟩] [38,39,40,41,42,43,44,45,46,47,48,49,50,51,52,53,54,55,0,3,5,6,8,10,11,12,13] ?_ ?_
         ·refine oq (Ai C1 Aa MU Aa Aa) (of (Aw (i:=0) MY Aa Aa Aa) (oq (G7 Aa Aa) (oq (Ax Aa) (on hh (oq (Ax Aa) (on hh (of (BH (k:=3) Aa (Bz hj) Aa Aa) (on hh (of (Eq (k:=3) GC Aa Hn Aa (Bz hj) Aa Aa Aa) (on hh (of (Gb (enc:=Au) (ys:=hd) (i:=3) (j:=(hd.length:Int)-1) SQ Aa Aa hj Aa) (on hh (oq (Ax Aa) (oz hk (oz hk (oz hk (oz hk (oz hk (oz hk (oz hk (on hh (oq (AE (b:=(Ac hd ((hd.length:Int)-1)).fStarted) Aa hk Aa) (oq (AE Aa hh Aa) ?_)))))))))))))))))))))));exact CV
         exact C3 (And.intro hh hk)
      refine AC (b:=((!decide (((Ac v hb).fKind)=4))||(((Ac hd ((hd.length:Int)-1)).fStarted)&&(BM ((Ac v hb).fStr) ((Ac hd ((hd.length:Int)-1)).fLast)||decide (((Ac v hb).fStr)=((Ac hd ((hd.length:Int)-1)).fLast)))))) Aa (λh9=>?_) (λh9=>?_)
      ·have gg:=AV h9 hK;refine A1 (Gw (H1:=[.blk hf (An (Ac v hb)) 95,.blk b2 (AQ ha) 121,.blk b1 (AQ ha) 121,.row he 147 5 (List.map Au hd)]) [3,5] [⟨[],B2 (AQ ha),1⟩,⟨[],rI .i64 0,0⟩,⟨[0],rv undef,2⟩,⟨[],rB false,0⟩] (rle [(3,_),(2,[.blk hf (An (Ac v hb)) 95,.blk b2 (AQ ha) 121,.blk b1 (AQ ha) 121,.row he 147 5 (List.map Au hd)])]) [2,4,3] ?_ ?_)
       ·refine of (Bx (i:=1) HE Es Aa Aa Aa Aa) (oq (Aj Aa) (IF Aa (Mw (Dm (i:=2) Es Aa Aa Aa (CI.c Aa) Aa Aa (cs':=[rI .i64 ha.fDepth,rI .i64 ha.fBytes,rB ha.fOutside,rB ha.fLong]) Aa (H':=[.blk hf (An (Ac v hb)) 95,.blk b2 (AQ ha) 121,.blk b1 (AQ ha) 121,.row he 147 5 (List.map Au hd)]) Aa)) ?_));refine oq (Aj Aa) ?_;exact CV
       refine Bm (A7 (Ak (Ak (AF (Ak (Ak (Bs ?_)))))));have gh:=BO gg hx hy;refine AF (Ak (Iq ?_));obtain rfl:=AI gh;exact AA (RH Rn (Ba Aa) (KF (i:=2) HE Es Aa Aa Aa) (Ba Aa)) (sS (sS (sS (sS sN)))) ⟨Aa,Aa⟩
      ·have gi:=AW h9 hK;refine AH (Bm (At (wm Aa (wm Aa (wm Aa (wv (Ai C1 Aa EI Aa Aa) (wv (Aw (i:=0) EJ Aa Aa Aa) (wv (r:=rv (Eb 5 he (Int.toNat ((hd.length:Int)-1)) 0)) (BH (k:=3) Aa (Bz hj) Aa Aa) (wv (r:=rv (Eb 5 he (Int.toNat ((hd.length:Int)-1)) 3)) (Eq (k:=3) GC Aa EI Aa (Bz hj) Aa Aa Aa) (Jg (enc:=Au) (ys:=hd) (y':=(Av.mk ((Ac hd ((hd.length:Int)-1)).fPairs) ((Ac hd ((hd.length:Int)-1)).fLeft) ((Ac hd ((hd.length:Int)-1)).fKey) ((Ac v hb).fStr) ((Ac hd ((hd.length:Int)-1)).fStarted))) (i:=3) (j:=(hd.length:Int)-1) EI Aa Aa (BJ Aa) Aa hj Aa Aa (H':=[.blk hf (An (Ac v hb)) 95,.blk b2 (AQ ha) 121,.blk b1 [rI .i64 0,rI .i64 0,rB false,rB false] 121,.row he 147 5 (List.map Au (List.set hd (Int.toNat ((hd.length:Int)-1)) (Av.mk ((Ac hd ((hd.length:Int)-1)).fPairs) ((Ac hd ((hd.length:Int)-1)).fLeft) ((Ac hd ((hd.length:Int)-1)).fKey) ((Ac v hb).fStr) ((Ac hd ((hd.length:Int)-1)).fStarted))))]) Aa ?_))))))))));obtain⟨hr,hw,gj⟩:=IX gi;rw[← hw];refine wv (r:=rv (Eb 5 he (Int.toNat ((hd.length:Int)-1)) 0)) (BH (k:=3) Aa (Bz (Cn hj hw)) Aa Aa) (wv (r:=rv (Eb 5 he (Int.toNat ((hd.length:Int)-1)) 4)) (Eq (k:=3) GC Aa Hn Aa (Bz (Cn hj hw)) Aa Aa Aa) (Jg (enc:=Au) (ys:=hr) (y':=(Av.mk ((Ac hr ((hd.length:Int)-1)).fPairs) ((Ac hr ((hd.length:Int)-1)).fLeft) ((Ac hr ((hd.length:Int)-1)).fKey) ((Ac hr ((hd.length:Int)-1)).fLast) true)) (i:=3) (j:=(hd.length:Int)-1) Hn Aa Aa (BJ Aa) Aa (Cn hj hw) Aa Aa (H':=[.blk hf (An (Ac v hb)) 95,.blk b2 (AQ ha) 121,.blk b1 [rI .i64 0,rI .i64 0,rB false,rB false] 121,.row he 147 5 (List.map Au (List.set hr (Int.toNat ((hd.length:Int)-1)) (Av.mk ((Ac hr ((hd.length:Int)-1)).fPairs) ((Ac hr ((hd.length:Int)-1)).fLeft) ((Ac hr ((hd.length:Int)-1)).fKey) ((Ac hr ((hd.length:Int)-1)).fLast) true)))]) Aa ?_));obtain⟨hs,h1,gl⟩:=IX gj;rw[← h1];refine wv (r:=rv (Eb 5 he (Int.toNat ((hd.length:Int)-1)) 0)) (BH (k:=3) Aa (Bz (Cn (Cn hj hw) h1)) Aa Aa) (wv (r:=rv (Eb 5 he (Int.toNat ((hd.length:Int)-1)) 2)) (Eq (k:=3) GC Aa Hn Aa (Bz (Cn (Cn hj hw) h1)) Aa Aa Aa) (Jg (enc:=Au) (ys:=hs) (y':=(Av.mk ((Ac hs ((hd.length:Int)-1)).fPairs) ((Ac hs ((hd.length:Int)-1)).fLeft) false ((Ac hs ((hd.length:Int)-1)).fLast) ((Ac hs ((hd.length:Int)-1)).fStarted))) (i:=3) (j:=(hd.length:Int)-1) Hn Aa Aa (BJ Aa) Aa (Cn (Cn hj hw) h1) Aa Aa (H':=[.blk hf (An (Ac v hb)) 95,.blk b2 (AQ ha) 121,.blk b1 [rI .i64 0,rI .i64 0,rB false,rB false] 121,.row he 147 5 (List.map Au (List.set hs (Int.toNat ((hd.length:Int)-1)) (Av.mk ((Ac hs ((hd.length:Int)-1)).fPairs) ((Ac hs ((hd.length:Int)-1)).fLeft) false ((Ac hs ((hd.length:Int)-1)).fLast) ((Ac hs ((hd.length:Int)-1)).fStarted))))]) Aa ?_));obtain⟨ht,gm,gp⟩:=IX gl;rw[← gm];refine A8 (A1 ?_);obtain⟨hl,gq,gr⟩:=Bb gp;obtain⟨gs,gt⟩:=AR gr;refine Gw (H1:=[.blk hf (An (Ac v hb)) 95,.blk b2 [rI .i64 ha.fDepth,rI .i64 (IntKind.wrap .i64 (ha.fBytes+(hl+1))),rB ha.fOutside,rB ha.fLong] 121,.blk b1 [rI .i64 0,rI .i64 0,rB false,rB false] 121,.row he 147 5 (List.map Au ht)]) [0,3,5,6,8,11,12,13,38,39,40,41] [⟨[],rv (.pointer (some ⟨b2,1,none⟩)),0⟩,⟨[0],rI .i64 ha.fBytes,1⟩,⟨[],rv (.pointer (some ⟨hf,2,none⟩)),0⟩,⟨[2],rS ((Ac v hb).fStr),1⟩,⟨[3],rI .i64 hl,0⟩,⟨[4],rI .i64 (hl+1),0⟩,⟨[1,5],rI .i64 (IntKind.wrap .i64 (ha.fBytes+(hl+1))),0⟩,⟨[],rv (.pointer (some ⟨b2,1,none⟩)),0⟩,⟨[7,6],rv undef,2⟩] (rle [(9,_),(1,[.blk hf (An (Ac v hb)) 95,.blk b2 [rI .i64 ha.fDepth,rI .i64 (IntKind.wrap .i64 (ha.fBytes+(hl+1))),rB ha.fOutside,rB ha.fLong] 121,.blk b1 [rI .i64 0,rI .i64 0,rB false,rB false] 121,.row he 147 5 (List.map Au ht)])]) [68,69,70,71,72,73,74,75,0,3,5,6,8,11,12,13,38,39,40,41] ?_ ?_
       ·refine oq (Ai Dw Aa Cc Aa Aa) (of (Aw (i:=1) Cq Aa Aa Aa) (oq (Ai C1 Aa EI Aa Aa) (of (Aw (i:=0) EJ Aa Aa Aa) (LA Aa (λH=>RX Tryz.call112 (Lz ((Ac v hb).fStr) hl gq) Aa) ?_))));refine oq (C0 Aa Aa gs) (oq (OJ Aa Aa) (oq (Ai Dw Aa Cc Aa Aa) (IF Aa (Mw (LW (i:=1) Cc Aa Aa (BJ Aa) Aa Aa (cs':=[rI .i64 ha.fDepth,rI .i64 (IntKind.wrap .i64 (ha.fBytes+(hl+1))),rB ha.fOutside,rB ha.fLong]) Aa (H':=[.blk hf (An (Ac v hb)) 95,.blk b2 [rI .i64 ha.fDepth,rI .i64 (IntKind.wrap .i64 (ha.fBytes+(hl+1))),rB ha.fOutside,rB ha.fLong] 121,.blk b1 [rI .i64 0,rI .i64 0,rB false,rB false] 121,.row he 147 5 (List.map Au ht)]) Aa)) ?_)));exact CV
       refine Bm (AO [(0,BE 4 (List.map An v)),(3,rv (.pointer (some ⟨b1,0,none⟩))),(5,rv (.pointer (some ⟨b2,0,none⟩))),(6,rv he),(11,BE 4 (List.map An v)),(12,rI .i64 (v.length:Int)),(13,rI .i64 hb),(38,rv (.pointer (some ⟨hf,0,none⟩))),(39,rI .i64 ((Ac v hb).fKind)),(40,rB (!decide (((Ac v hb).fKind)=4))),(41,rB (!decide (((Ac v hb).fKind)=4))),(68,rv (.pointer (some ⟨b2,1,none⟩))),(69,rI .i64 ha.fBytes),(70,rv (.pointer (some ⟨hf,2,none⟩))),(71,rS ((Ac v hb).fStr)),(72,rI .i64 hl),(73,rI .i64 (hl+1)),(74,rI .i64 (IntKind.wrap .i64 (ha.fBytes+(hl+1)))),(75,rv (.pointer (some ⟨b2,1,none⟩)))] [.blk hf (An (Ac v hb)) 95,.blk b2 [rI .i64 ha.fDepth,rI .i64 (IntKind.wrap .i64 (ha.fBytes+(hl+1))),rB ha.fOutside,rB (ha.fLong||(decide (200<(((Ac v hb).fStr).length:Int))))] 121,.blk b1 [rI .i64 0,rI .i64 0,rB false,rB false] 121,.row he 147 5 (List.map Au ht)] ?_ ?_)
       ·refine As (wv (Ai Dw Aa Hn Aa Aa) (wv (Aw (i:=1) SQ Aa Aa Aa) (wm Aa (AP (ha.fLong) (λho=>?_) (λho=>?_)))))
        ·refine wf ho (wf ho (wf ho (wf ho (wv (r:=rB true) (Ar (b:=ha.fLong) rfl ho rfl) (wv (Ai Dw rfl Hn rfl rfl) (CK (i:=1) Hn rfl rfl (BJ rfl) rfl rfl (cs':=[rI .i64 ha.fDepth,rI .i64 (IntKind.wrap .i64 (ha.fBytes+(hl+1))),rB ha.fOutside,rB true]) rfl (H':=[.blk hf (An (Ac v hb)) 95,.blk b2 [rI .i64 ha.fDepth,rI .i64 (IntKind.wrap .i64 (ha.fBytes+(hl+1))),rB ha.fOutside,rB true] 121,.blk b1 [rI .i64 0,rI .i64 0,rB false,rB false] 121,.row he 147 5 (List.map Au ht)]) rfl (Aq (HT (H':=[.blk hf (An (Ac v hb)) 95,.blk b2 [rI .i64 ha.fDepth,rI .i64 (IntKind.wrap .i64 (ha.fBytes+(hl+1))),rB ha.fOutside,rB (ha.fLong||(decide (200<(((Ac v hb).fStr).length:Int))))] 121,.blk b1 [rI .i64 0,rI .i64 0,rB false,rB false] 121,.row he 147 5 (List.map Au ht)]) (by simp only[ho,WB,WU,WO,W7,WR,WP,WS,WV,W1,WF,W4,Wz]) ?_))))))));exact wt
        ·refine wo ho (wv (Ai C1 rfl EI rfl rfl) (wo ho (wv (Aw (i:=0) EJ rfl rfl rfl) (wo ho (wv (BU GO rfl) (wo ho (wv (Du rfl rfl) (GF rfl ho rfl (wv (Ai Dw rfl Hn rfl rfl) (CK (i:=1) Hn rfl rfl (BJ rfl) rfl rfl (cs':=[rI .i64 ha.fDepth,rI .i64 (IntKind.wrap .i64 (ha.fBytes+(hl+1))),rB ha.fOutside,rB (decide (200<(((Ac v hb).fStr).length:Int)))]) rfl (H':=[.blk hf (An (Ac v hb)) 95,.blk b2 [rI .i64 ha.fDepth,rI .i64 (IntKind.wrap .i64 (ha.fBytes+(hl+1))),rB ha.fOutside,rB (decide (200<(((Ac v hb).fStr).length:Int)))] 121,.blk b1 [rI .i64 0,rI .i64 0,rB false,rB false] 121,.row he 147 5 (List.map Au ht)]) rfl (Aq (HT (H':=[.blk hf (An (Ac v hb)) 95,.blk b2 [rI .i64 ha.fDepth,rI .i64 (IntKind.wrap .i64 (ha.fBytes+(hl+1))),rB ha.fOutside,rB (ha.fLong||(decide (200<(((Ac v hb).fStr).length:Int))))] 121,.blk b1 [rI .i64 0,rI .i64 0,rB false,rB false] 121,.row he 147 5 (List.map Au ht)]) (by simp only[ho,WB,WU,WO,W7,WR,WP,WS,WV,W1,WF,W4,Wz]) ?_))))))))))));exact wt
       exact BN (AN (B3 (Az (AU ((ht,(A6.mk ha.fDepth (IntKind.wrap .i64 (ha.fBytes+(hl+1))) ha.fOutside (ha.fLong||(decide (200<(((Ac v hb).fStr).length:Int)))))),he) gt (AS.c Aa (AS.c Aa (AS.c5 Aa Aa Aa Aa Aa AS.nil))) (sS (sC (sC (sC sN))))))))
     ·have gu:=AW h8 hJ;refine AH (Bm (At (wv (Ai Dw Aa Cc Aa Aa) (wv (Aw (i:=1) Cq Aa Aa Aa) (wm Aa (wv (Ca (ys:=hd) (enc:=Au) (i:=3) GD Aa Aa) ?_))))));obtain⟨gv,gw⟩:=AR gu;refine wv (C0 Aa Aa gv) (wv (Uj Tryz.underlying3 Aa Aa) (wv (Ai Dw Aa Cc Aa Aa) (CK (i:=1) Cc Aa Aa (BJ Aa) Aa Aa (cs':=[rI .i64 (max ha.fDepth ((hd.length:Int)+1)),rI .i64 ha.fBytes,rB ha.fOutside,rB ha.fLong]) Aa (H':=[.blk hf (An (Ac v hb)) 95,.blk b2 [rI .i64 (max ha.fDepth ((hd.length:Int)+1)),rI .i64 ha.fBytes,rB ha.fOutside,rB ha.fLong] 121,.blk b1 [rI .i64 0,rI .i64 0,rB false,rB false] 121,.row he 147 5 (List.map Au hd)]) Aa (A8 (A1 ?_)))));obtain⟨hg,gx,gy⟩:=Bb gw;refine Gw (H1:=[.blk hf (An (Ac v hb)) 95,.blk b2 [rI .i64 (max ha.fDepth ((hd.length:Int)+1)),rI .i64 (IntKind.wrap .i64 (ha.fBytes+hg)),rB ha.fOutside,rB ha.fLong] 121,.blk b1 [rI .i64 0,rI .i64 0,rB false,rB false] 121,.row he 147 5 (List.map Au hd)]) [0,3,5,6,7,8,11,12,13] [⟨[],rv (.pointer (some ⟨b2,1,none⟩)),0⟩,⟨[0],rI .i64 ha.fBytes,1⟩,⟨[],B2 (An (Ac v hb)),1⟩,⟨[2],rI .i64 hg,0⟩,⟨[1,3],rI .i64 (IntKind.wrap .i64 (ha.fBytes+hg)),0⟩,⟨[],rv (.pointer (some ⟨b2,1,none⟩)),0⟩,⟨[5,4],rv undef,2⟩] (rle [(7,_),(1,[.blk hf (An (Ac v hb)) 95,.blk b2 [rI .i64 (max ha.fDepth ((hd.length:Int)+1)),rI .i64 (IntKind.wrap .i64 (ha.fBytes+hg)),rB ha.fOutside,rB ha.fLong] 121,.blk b1 [rI .i64 0,rI .i64 0,rB false,rB false] 121,.row he 147 5 (List.map Au hd)])]) [92,93,94,95,96,97,0,3,5,6,7,8,11,12,13] ?_ ?_
      ·refine oq (Ai Dw Aa Cc Aa Aa) (of (Aw (i:=1) Cq Aa Aa Aa) (of (Bx (i:=0) Tryz.isAgg95 MT Aa Aa Aa Aa) (LA Aa (λH=>RX Tryz.call113 (Td (Ac v hb) hg gx) Aa) ?_)));refine oq (OJ Aa Aa) (oq (Ai Dw Aa Cc Aa Aa) (IF Aa (Mw (LW (i:=1) Cc Aa Aa (BJ Aa) Aa Aa (cs':=[rI .i64 (max ha.fDepth ((hd.length:Int)+1)),rI .i64 (IntKind.wrap .i64 (ha.fBytes+hg)),rB ha.fOutside,rB ha.fLong]) Aa (H':=[.blk hf (An (Ac v hb)) 95,.blk b2 [rI .i64 (max ha.fDepth ((hd.length:Int)+1)),rI .i64 (IntKind.wrap .i64 (ha.fBytes+hg)),rB ha.fOutside,rB ha.fLong] 121,.blk b1 [rI .i64 0,rI .i64 0,rB false,rB false] 121,.row he 147 5 (List.map Au hd)]) Aa)) ?_));exact CV
      refine Bm ?_;obtain⟨gz,hL⟩:=AR gy;refine AO [(0,BE 4 (List.map An v)),(3,rv (.pointer (some ⟨b1,0,none⟩))),(5,rv (.pointer (some ⟨b2,0,none⟩))),(6,rv he),(7,rI .i64 hb),(8,rv (.pointer (some ⟨hf,0,none⟩))),(11,BE 4 (List.map An v)),(12,rI .i64 (v.length:Int)),(13,rI .i64 hb),(92,rv (.pointer (some ⟨b2,1,none⟩))),(93,rI .i64 ha.fBytes),(94,B2 (An (Ac v hb))),(95,rI .i64 hg),(96,rI .i64 (IntKind.wrap .i64 (ha.fBytes+hg))),(97,rv (.pointer (some ⟨b2,1,none⟩)))] [.blk hf (An (Ac v hb)) 95,.blk b2 [rI .i64 (max ha.fDepth ((hd.length:Int)+1)),rI .i64 (IntKind.wrap .i64 (ha.fBytes+hg)),rB (ha.fOutside||((decide (((Ac v hb).fKind)=3))&&(!(ov (Bo ((Ac v hb).fInt)))))),rB ha.fLong] 121,.blk b1 [rI .i64 0,rI .i64 0,rB false,rB false] 121,.row he 147 5 (List.map Au hd)] ?_ ?_
      ·refine As (wv (Ai Dw Aa Hn Aa Aa) (wv (Aw (i:=1) SQ Aa Aa Aa) (wm Aa (AP (ha.fOutside) (λhm=>?_) (λhm=>?_)))))
       ·refine wf hm (wf hm (wf hm (wf hm (wu (wu (wu (wu (wf hm (wv (r:=rB true) (Ar (b:=ha.fOutside) rfl hm rfl) (wv (Ai Dw rfl Hn rfl rfl) (CK (i:=1) Hn rfl rfl (BJ rfl) rfl rfl (cs':=[rI .i64 (max ha.fDepth ((hd.length:Int)+1)),rI .i64 (IntKind.wrap .i64 (ha.fBytes+hg)),rB true,rB ha.fLong]) rfl (H':=[.blk hf (An (Ac v hb)) 95,.blk b2 [rI .i64 (max ha.fDepth ((hd.length:Int)+1)),rI .i64 (IntKind.wrap .i64 (ha.fBytes+hg)),rB true,rB ha.fLong] 121,.blk b1 [rI .i64 0,rI .i64 0,rB false,rB false] 121,.row he 147 5 (List.map Au hd)]) rfl (Aq (HT (H':=[.blk hf (An (Ac v hb)) 95,.blk b2 [rI .i64 (max ha.fDepth ((hd.length:Int)+1)),rI .i64 (IntKind.wrap .i64 (ha.fBytes+hg)),rB (ha.fOutside||((decide (((Ac v hb).fKind)=3))&&(!(ov (Bo ((Ac v hb).fInt)))))),rB ha.fLong] 121,.blk b1 [rI .i64 0,rI .i64 0,rB false,rB false] 121,.row he 147 5 (List.map Au hd)]) (by simp only[hm,WB,WU,WO,W7,WR,WP,WS,WV,W1,WF,W4,Wz]) ?_)))))))))))));exact wt
       ·refine wo hm (wv (Ai C1 Aa MU Aa Aa) (wo hm (wv (Aw (i:=0) MY Aa Aa Aa) (wo hm (wv (B6 Aa Aa) (wo hm (wm Aa (AP (decide (((Ac v hb).fKind)=3)) (λhn=>?_) (λhn=>?_)))))))))
        ·refine wo hn (wv (Ai C1 rfl Cc rfl rfl) (wo hn (wv (Aw (i:=0) Cq rfl rfl rfl) (wo hn (Ky Tryz.call103 (Sg ((Ac v hb).fInt) (ov (Bo ((Ac v hb).fInt))) (RR (JI (HP gz hm) hn))) rfl (wo hn (wv (Cz rfl) (wo hm (Gh rfl hn rfl (GF rfl hm rfl (wv (Ai Dw rfl Hn rfl rfl) (CK (i:=1) Hn rfl rfl (BJ rfl) rfl rfl (cs':=[rI .i64 (max ha.fDepth ((hd.length:Int)+1)),rI .i64 (IntKind.wrap .i64 (ha.fBytes+hg)),rB (!(ov (Bo ((Ac v hb).fInt)))),rB ha.fLong]) rfl (H':=[.blk hf (An (Ac v hb)) 95,.blk b2 [rI .i64 (max ha.fDepth ((hd.length:Int)+1)),rI .i64 (IntKind.wrap .i64 (ha.fBytes+hg)),rB (!(ov (Bo ((Ac v hb).fInt)))),rB ha.fLong] 121,.blk b1 [rI .i64 0,rI .i64 0,rB false,rB false] 121,.row he 147 5 (List.map Au hd)]) rfl (Aq (HT (H':=[.blk hf (An (Ac v hb)) 95,.blk b2 [rI .i64 (max ha.fDepth ((hd.length:Int)+1)),rI .i64 (IntKind.wrap .i64 (ha.fBytes+hg)),rB (ha.fOutside||((decide (((Ac v hb).fKind)=3))&&(!(ov (Bo ((Ac v hb).fInt)))))),rB ha.fLong] 121,.blk b1 [rI .i64 0,rI .i64 0,rB false,rB false] 121,.row he 147 5 (List.map Au hd)]) (by simp only[hm,hn,WB,WU,WO,W7,WR,WP,WS,WV,W1,WF,W4,Wz]) ?_))))))))))))));exact wt
        ·refine wf hn (wf hn (wf hn (wf hn (wo hm (wv (r:=rB false) (AE (b:=decide (((Ac v hb).fKind)=3)) rfl hn rfl) (GF rfl hm rfl (wv (Ai Dw rfl Hn rfl rfl) (CK (i:=1) Hn rfl rfl (BJ rfl) rfl rfl (cs':=[rI .i64 (max ha.fDepth ((hd.length:Int)+1)),rI .i64 (IntKind.wrap .i64 (ha.fBytes+hg)),rB false,rB ha.fLong]) rfl (H':=[.blk hf (An (Ac v hb)) 95,.blk b2 [rI .i64 (max ha.fDepth ((hd.length:Int)+1)),rI .i64 (IntKind.wrap .i64 (ha.fBytes+hg)),rB false,rB ha.fLong] 121,.blk b1 [rI .i64 0,rI .i64 0,rB false,rB false] 121,.row he 147 5 (List.map Au hd)]) rfl (Aq (HT (H':=[.blk hf (An (Ac v hb)) 95,.blk b2 [rI .i64 (max ha.fDepth ((hd.length:Int)+1)),rI .i64 (IntKind.wrap .i64 (ha.fBytes+hg)),rB (ha.fOutside||((decide (((Ac v hb).fKind)=3))&&(!(ov (Bo ((Ac v hb).fInt)))))),rB ha.fLong] 121,.blk b1 [rI .i64 0,rI .i64 0,rB false,rB false] 121,.row he 147 5 (List.map Au hd)]) (by simp only[hm,hn,WB,WU,WO,W7,WR,WP,WS,WV,W1,WF,W4,Wz]) ?_))))))))));exact wt
      refine AO [(0,BE 4 (List.map An v)),(3,rv (.pointer (some ⟨b1,0,none⟩))),(5,rv (.pointer (some ⟨b2,0,none⟩))),(6,rv he),(7,rI .i64 hb),(8,rv (.pointer (some ⟨hf,0,none⟩))),(11,BE 4 (List.map An v)),(12,rI .i64 (v.length:Int)),(13,rI .i64 hb),(92,rv (.pointer (some ⟨b2,1,none⟩))),(93,rI .i64 ha.fBytes),(94,B2 (An (Ac v hb))),(95,rI .i64 hg),(96,rI .i64 (IntKind.wrap .i64 (ha.fBytes+hg))),(97,rv (.pointer (some ⟨b2,1,none⟩)))] [.blk hf (An (Ac v hb)) 95,.blk b2 [rI .i64 (max ha.fDepth ((hd.length:Int)+1)),rI .i64 (IntKind.wrap .i64 (ha.fBytes+hg)),rB (ha.fOutside||((decide (((Ac v hb).fKind)=3))&&(!(ov (Bo ((Ac v hb).fInt)))))),rB (ha.fLong||(decide (200<(((Ac v hb).fStr).length:Int))))] 121,.blk b1 [rI .i64 0,rI .i64 0,rB false,rB false] 121,.row he 147 5 (List.map Au hd)] ?_ ?_
      ·refine As (wv (Ai Dw Aa Hn Aa Aa) (wv (Aw (i:=1) SQ Aa Aa Aa) (wm Aa (AP (ha.fLong) (λhp=>?_) (λhp=>?_)))))
       ·refine wf hp (wf hp (wf hp (wf hp (wv (r:=rB true) (Ar (b:=ha.fLong) rfl hp rfl) (wv (Ai Dw rfl Hn rfl rfl) (CK (i:=1) Hn rfl rfl (BJ rfl) rfl rfl (cs':=[rI .i64 (max ha.fDepth ((hd.length:Int)+1)),rI .i64 (IntKind.wrap .i64 (ha.fBytes+hg)),rB (ha.fOutside||((decide (((Ac v hb).fKind)=3))&&(!(ov (Bo ((Ac v hb).fInt)))))),rB true]) rfl (H':=[.blk hf (An (Ac v hb)) 95,.blk b2 [rI .i64 (max ha.fDepth ((hd.length:Int)+1)),rI .i64 (IntKind.wrap .i64 (ha.fBytes+hg)),rB (ha.fOutside||((decide (((Ac v hb).fKind)=3))&&(!(ov (Bo ((Ac v hb).fInt)))))),rB true] 121,.blk b1 [rI .i64 0,rI .i64 0,rB false,rB false] 121,.row he 147 5 (List.map Au hd)]) rfl (Aq (HT (H':=[.blk hf (An (Ac v hb)) 95,.blk b2 [rI .i64 (max ha.fDepth ((hd.length:Int)+1)),rI .i64 (IntKind.wrap .i64 (ha.fBytes+hg)),rB (ha.fOutside||((decide (((Ac v hb).fKind)=3))&&(!(ov (Bo ((Ac v hb).fInt)))))),rB (ha.fLong||(decide (200<(((Ac v hb).fStr).length:Int))))] 121,.blk b1 [rI .i64 0,rI .i64 0,rB false,rB false] 121,.row he 147 5 (List.map Au hd)]) (by simp only[hp,WB,WU,WO,W7,WR,WP,WS,WV,W1,WF,W4,Wz]) ?_))))))));exact wt
       ·refine wo hp (wv (Ai C1 rfl EI rfl rfl) (wo hp (wv (Aw (i:=0) EJ rfl rfl rfl) (wo hp (wv (BU GO rfl) (wo hp (wv (Du rfl rfl) (GF rfl hp rfl (wv (Ai Dw rfl Hn rfl rfl) (CK (i:=1) Hn rfl rfl (BJ rfl) rfl rfl (cs':=[rI .i64 (max ha.fDepth ((hd.length:Int)+1)),rI .i64 (IntKind.wrap .i64 (ha.fBytes+hg)),rB (ha.fOutside||((decide (((Ac v hb).fKind)=3))&&(!(ov (Bo ((Ac v hb).fInt)))))),rB (decide (200<(((Ac v hb).fStr).length:Int)))]) rfl (H':=[.blk hf (An (Ac v hb)) 95,.blk b2 [rI .i64 (max ha.fDepth ((hd.length:Int)+1)),rI .i64 (IntKind.wrap .i64 (ha.fBytes+hg)),rB (ha.fOutside||((decide (((Ac v hb).fKind)=3))&&(!(ov (Bo ((Ac v hb).fInt)))))),rB (decide (200<(((Ac v hb).fStr).length:Int)))] 121,.blk b1 [rI .i64 0,rI .i64 0,rB false,rB false] 121,.row he 147 5 (List.map Au hd)]) rfl (Aq (HT (H':=[.blk hf (An (Ac v hb)) 95,.blk b2 [rI .i64 (max ha.fDepth ((hd.length:Int)+1)),rI .i64 (IntKind.wrap .i64 (ha.fBytes+hg)),rB (ha.fOutside||((decide (((Ac v hb).fKind)=3))&&(!(ov (Bo ((Ac v hb).fInt)))))),rB (ha.fLong||(decide (200<(((Ac v hb).fStr).length:Int))))] 121,.blk b1 [rI .i64 0,rI .i64 0,rB false,rB false] 121,.row he 147 5 (List.map Au hd)]) (by simp only[hp,WB,WU,WO,W7,WR,WP,WS,WV,W1,WF,W4,Wz]) ?_))))))))))));exact wt
      refine A1 (At (wv (Ai C1 Aa Cc Aa Aa) (wv (Aw (i:=0) Cq Aa Aa Aa) (wv (Du Aa Aa) (A8 (AC (b:=decide (0<((Ac v hb).fN))) Aa (λhA=>?_) (λhA=>?_)))))))
      ·have hN:=AV hA hL;refine A1 (At (wv (Ai C1 Aa Cc Aa Aa) (wv (Aw (i:=0) Cq Aa Aa Aa) (wm Aa (wv (CF (ys:=v) (enc:=An) JR Aa) (wv (Du Aa Aa) (A8 (AC (b:=decide ((v.length:Int)<((Ac v hb).fN))) Aa (λhB=>?_) (λhB=>?_)))))))))
       ·have g0:=AV hB hN;refine A1 (Gw (H1:=[.blk hf (An (Ac v hb)) 95,.blk b2 [rI .i64 (max ha.fDepth ((hd.length:Int)+1)),rI .i64 (IntKind.wrap .i64 (ha.fBytes+hg)),rB (ha.fOutside||((decide (((Ac v hb).fKind)=3))&&(!(ov (Bo ((Ac v hb).fInt)))))),rB (ha.fLong||(decide (200<(((Ac v hb).fStr).length:Int))))] 121,.blk b1 [rI .i64 (max ha.fDepth ((hd.length:Int)+1)),rI .i64 (IntKind.wrap .i64 (ha.fBytes+hg)),rB (ha.fOutside||((decide (((Ac v hb).fKind)=3))&&(!(ov (Bo ((Ac v hb).fInt)))))),rB (ha.fLong||(decide (200<(((Ac v hb).fStr).length:Int))))] 121,.row he 147 5 (List.map Au hd)]) [3,5] [⟨[],B2 [rI .i64 (max ha.fDepth ((hd.length:Int)+1)),rI .i64 (IntKind.wrap .i64 (ha.fBytes+hg)),rB (ha.fOutside||((decide (((Ac v hb).fKind)=3))&&(!(ov (Bo ((Ac v hb).fInt)))))),rB (ha.fLong||(decide (200<(((Ac v hb).fStr).length:Int))))],1⟩,⟨[],rI .i64 0,0⟩,⟨[0],rv undef,2⟩,⟨[],rB false,0⟩] (rle [(3,_),(2,[.blk hf (An (Ac v hb)) 95,.blk b2 [rI .i64 (max ha.fDepth ((hd.length:Int)+1)),rI .i64 (IntKind.wrap .i64 (ha.fBytes+hg)),rB (ha.fOutside||((decide (((Ac v hb).fKind)=3))&&(!(ov (Bo ((Ac v hb).fInt)))))),rB (ha.fLong||(decide (200<(((Ac v hb).fStr).length:Int))))] 121,.blk b1 [rI .i64 (max ha.fDepth ((hd.length:Int)+1)),rI .i64 (IntKind.wrap .i64 (ha.fBytes+hg)),rB (ha.fOutside||((decide (((Ac v hb).fKind)=3))&&(!(ov (Bo ((Ac v hb).fInt)))))),rB (ha.fLong||(decide (200<(((Ac v hb).fStr).length:Int))))] 121,.row he 147 5 (List.map Au hd)])]) [2,4,3] ?_ ?_)
        ·refine of (Bx (i:=1) HE Es Aa Aa Aa Aa) (oq (Aj Aa) (IF Aa (Mw (Dm (i:=2) Es Aa Aa Aa (CI.c Aa) Aa Aa (cs':=[rI .i64 (max ha.fDepth ((hd.length:Int)+1)),rI .i64 (IntKind.wrap .i64 (ha.fBytes+hg)),rB (ha.fOutside||((decide (((Ac v hb).fKind)=3))&&(!(ov (Bo ((Ac v hb).fInt)))))),rB (ha.fLong||(decide (200<(((Ac v hb).fStr).length:Int))))]) Aa (H':=[.blk hf (An (Ac v hb)) 95,.blk b2 [rI .i64 (max ha.fDepth ((hd.length:Int)+1)),rI .i64 (IntKind.wrap .i64 (ha.fBytes+hg)),rB (ha.fOutside||((decide (((Ac v hb).fKind)=3))&&(!(ov (Bo ((Ac v hb).fInt)))))),rB (ha.fLong||(decide (200<(((Ac v hb).fStr).length:Int))))] 121,.blk b1 [rI .i64 (max ha.fDepth ((hd.length:Int)+1)),rI .i64 (IntKind.wrap .i64 (ha.fBytes+hg)),rB (ha.fOutside||((decide (((Ac v hb).fKind)=3))&&(!(ov (Bo ((Ac v hb).fInt)))))),rB (ha.fLong||(decide (200<(((Ac v hb).fStr).length:Int))))] 121,.row he 147 5 (List.map Au hd)]) Aa)) ?_));refine oq (Aj Aa) ?_;exact CV
        refine Bm (A7 (Ak (Ak (AF (Ak (Ak (Bs ?_)))))));have g1:=BO g0 hx hy;refine AF (Ak (Iq ?_));obtain rfl:=AI g1;exact AA (RH Rn (Ba Aa) (KF (i:=2) HE Es Aa Aa Aa) (Ba Aa)) (sS (sS (sS (sS sN)))) ⟨Aa,Aa⟩
       ·have g2:=AW hB hN;refine AH (Bm (At (wm Aa (wv (Ai C1 Aa MU Aa Aa) (wv (Aw (i:=0) MY Aa Aa Aa) (wv (B6 Aa Aa) (wv (Ai C1 Aa Cc Aa Aa) (wv (Aw (i:=0) Cq Aa Aa Aa) (wv (Ai C1 Aa MU Aa Aa) (wv (Aw (i:=0) MY Aa Aa Aa) (wv (B6 Aa Aa) (wv (r:=B2 [rB (decide (((Ac v hb).fKind)=6)),rI .i64 ((Ac v hb).fN),rB (decide (((Ac v hb).fKind)=6)),rS ([]:Ay),rB false]) (Jt Aa Aa Aa Aa Aa Aa) (Cs (ys:=([(Av.mk (decide (((Ac v hb).fKind)=6)) ((Ac v hb).fN) (decide (((Ac v hb).fKind)=6)) ([]:Ay) false)]:List Av)) (enc:=Au) (css:=[[rB (decide (((Ac v hb).fKind)=6)),rI .i64 ((Ac v hb).fN),rB (decide (((Ac v hb).fKind)=6)),rS ([]:Ay),rB false]]) (xs:=[.tmp 139]) GD MW Tryz.zeroValue147 Aa Aa Aa ⟨Rf.agg ⟨Up.refl _,Up.refl _,Up.refl _,Up.refl _,Up.refl _,trivial⟩,trivial⟩ Aa GK Aa Aa Aa (λg3=>?_))))))))))))));obtain⟨g4,g5⟩:=AR g2;obtain⟨inf,hinf⟩:=TA;refine Ee (xs:=hd) (ys:=([(Av.mk (decide (((Ac v hb).fKind)=6)) ((Ac v hb).fN) (decide (((Ac v hb).fKind)=6)) ([]:Ay) false)]:List Av)) (enc:=Au) (i:=4) GD hinf.1 hinf.2.1 hinf.2.2.1 hinf.2.2.2 Aa Aa Aa Aa Aa (Om.w (i:=0) Aa Aa) GK Ka g4 Aa (λhO=>?_);exact wa Aa (A8 (BN (AN (B3 (Br (H2:=[.blk b2 [rI .i64 (max ha.fDepth ((hd.length:Int)+1)),rI .i64 (IntKind.wrap .i64 (ha.fBytes+hg)),rB (ha.fOutside||((decide (((Ac v hb).fKind)=3))&&(!(ov (Bo ((Ac v hb).fInt)))))),rB (ha.fLong||(decide (200<(((Ac v hb).fStr).length:Int))))] 121,.blk b1 [rI .i64 0,rI .i64 0,rB false,rB false] 121,.row hO 147 5 (List.map Au (hd++([(Av.mk (decide (((Ac v hb).fKind)=6)) ((Ac v hb).fN) (decide (((Ac v hb).fKind)=6)) ([]:Ay) false)]:List Av))),.row (.slice (some ⟨g3,0,none⟩) 1 1) 147 5 (List.map Au ([(Av.mk (decide (((Ac v hb).fKind)=6)) ((Ac v hb).fN) (decide (((Ac v hb).fKind)=6)) ([]:Ay) false)]:List Av)),.blk hf (An (Ac v hb)) 95]) ((Ae (i:=3) Aa).trans (Wo _ ((Ae (i:=3) Aa).trans (Wo _ (Wr _))))) (Az (AU ((hd++([(Av.mk (decide (((Ac v hb).fKind)=6)) ((Ac v hb).fN) (decide (((Ac v hb).fKind)=6)) ([]:Ay) false)]:List Av),(A6.mk (max ha.fDepth ((hd.length:Int)+1)) (IntKind.wrap .i64 (ha.fBytes+hg)) (ha.fOutside||((decide (((Ac v hb).fKind)=3))&&(!(ov (Bo ((Ac v hb).fInt)))))) (ha.fLong||(decide (200<(((Ac v hb).fStr).length:Int)))))),hO) g5 (AS.c Aa (AS.c Aa (AS.c5 Aa Aa Aa Aa Aa AS.nil))) (sC (sC (sC (sS (sS sN))))))))))))
      ·have g6:=AW hA hL;refine AH (Bm (At (wm Aa ?_)));obtain⟨hu,g7,hP⟩:=Bb g6;refine DZ (Hr:=[.blk hf (An (Ac v hb)) 95,.blk b2 [rI .i64 (max ha.fDepth ((hd.length:Int)+1)),rI .i64 (IntKind.wrap .i64 (ha.fBytes+hg)),rB (ha.fOutside||((decide (((Ac v hb).fKind)=3))&&(!(ov (Bo ((Ac v hb).fInt)))))),rB (ha.fLong||(decide (200<(((Ac v hb).fStr).length:Int))))] 121,.blk b1 [rI .i64 0,rI .i64 0,rB false,rB false] 121]) Tryz.call114 (Qb F he hd hu g7) Aa ((Ae (i:=3) Aa).trans (Wo _ (Wr _))) Aa ?_;rintro _ _ ⟨h0,rfl,rfl⟩;refine wa Aa (BI (wm Aa (wv (Ca (ys:=hu) (enc:=Au) (i:=0) GD Aa Aa) (wv (B6 Aa Aa) (A8 (AC (b:=decide ((hu.length:Int)=0)) Aa (λhC=>?_) (λhC=>?_)))))))
       ·have g8:=AV hC hP;refine A1 ?_;obtain⟨g9,gA⟩:=AR g8;refine Gw (H1:=[.row h0 147 5 (List.map Au hu),.blk hf (An (Ac v hb)) 95,.blk b2 [rI .i64 (max ha.fDepth ((hd.length:Int)+1)),rI .i64 (IntKind.wrap .i64 (ha.fBytes+hg)),rB (ha.fOutside||((decide (((Ac v hb).fKind)=3))&&(!(ov (Bo ((Ac v hb).fInt)))))),rB (ha.fLong||(decide (200<(((Ac v hb).fStr).length:Int))))] 121,.blk b1 [rI .i64 (max ha.fDepth ((hd.length:Int)+1)),rI .i64 (IntKind.wrap .i64 (ha.fBytes+hg)),rB (ha.fOutside||((decide (((Ac v hb).fKind)=3))&&(!(ov (Bo ((Ac v hb).fInt)))))),rB (ha.fLong||(decide (200<(((Ac v hb).fStr).length:Int))))] 121]) [3,5,7] [⟨[],rI .i64 hb,0⟩,⟨[0],rI .i64 (hb+1),0⟩,⟨[],B2 [rI .i64 (max ha.fDepth ((hd.length:Int)+1)),rI .i64 (IntKind.wrap .i64 (ha.fBytes+hg)),rB (ha.fOutside||((decide (((Ac v hb).fKind)=3))&&(!(ov (Bo ((Ac v hb).fInt)))))),rB (ha.fLong||(decide (200<(((Ac v hb).fStr).length:Int))))],1⟩,⟨[1],rI .i64 (hb+1),0⟩,⟨[2],rv undef,2⟩,⟨[],rB true,0⟩] (rle [(5,_),(2,[.row h0 147 5 (List.map Au hu),.blk hf (An (Ac v hb)) 95,.blk b2 [rI .i64 (max ha.fDepth ((hd.length:Int)+1)),rI .i64 (IntKind.wrap .i64 (ha.fBytes+hg)),rB (ha.fOutside||((decide (((Ac v hb).fKind)=3))&&(!(ov (Bo ((Ac v hb).fInt)))))),rB (ha.fLong||(decide (200<(((Ac v hb).fStr).length:Int))))] 121,.blk b1 [rI .i64 (max ha.fDepth ((hd.length:Int)+1)),rI .i64 (IntKind.wrap .i64 (ha.fBytes+hg)),rB (ha.fOutside||((decide (((Ac v hb).fKind)=3))&&(!(ov (Bo ((Ac v hb).fInt)))))),rB (ha.fLong||(decide (200<(((Ac v hb).fStr).length:Int))))] 121])]) [2,4,3] ?_ ?_
        ·refine oq (Ax Aa) (oq (C0 Aa Aa g9) (of (Bx (i:=2) HE Es Aa Aa Aa Aa) (oq (Aj Aa) (IF Aa (Mw (Dm (i:=3) Es Aa Aa Aa (CI.c Aa) Aa Aa (cs':=[rI .i64 (max ha.fDepth ((hd.length:Int)+1)),rI .i64 (IntKind.wrap .i64 (ha.fBytes+hg)),rB (ha.fOutside||((decide (((Ac v hb).fKind)=3))&&(!(ov (Bo ((Ac v hb).fInt)))))),rB (ha.fLong||(decide (200<(((Ac v hb).fStr).length:Int))))]) Aa (H':=[.row h0 147 5 (List.map Au hu),.blk hf (An (Ac v hb)) 95,.blk b2 [rI .i64 (max ha.fDepth ((hd.length:Int)+1)),rI .i64 (IntKind.wrap .i64 (ha.fBytes+hg)),rB (ha.fOutside||((decide (((Ac v hb).fKind)=3))&&(!(ov (Bo ((Ac v hb).fInt)))))),rB (ha.fLong||(decide (200<(((Ac v hb).fStr).length:Int))))] 121,.blk b1 [rI .i64 (max ha.fDepth ((hd.length:Int)+1)),rI .i64 (IntKind.wrap .i64 (ha.fBytes+hg)),rB (ha.fOutside||((decide (((Ac v hb).fKind)=3))&&(!(ov (Bo ((Ac v hb).fInt)))))),rB (ha.fLong||(decide (200<(((Ac v hb).fStr).length:Int))))] 121]) Aa)) ?_))));refine oq (Aj Aa) ?_;exact CV
        refine Bm (A7 (AF (Ak (Ak (Bs ?_)))));have gB:=BO gA hx hy;refine AF (Ak (Iq ?_));obtain rfl:=AI gB;exact AA (RH Rn (Ba Aa) (KF (i:=3) HE Es Aa Aa Aa) (Ba Aa)) (sS (sS (sS (sS sN)))) ⟨Aa,Aa⟩
       ·have gC:=AW hC hP;exact AH (AY (Br (H2:=[.blk b2 [rI .i64 (max ha.fDepth ((hd.length:Int)+1)),rI .i64 (IntKind.wrap .i64 (ha.fBytes+hg)),rB (ha.fOutside||((decide (((Ac v hb).fKind)=3))&&(!(ov (Bo ((Ac v hb).fInt)))))),rB (ha.fLong||(decide (200<(((Ac v hb).fStr).length:Int))))] 121,.blk b1 [rI .i64 0,rI .i64 0,rB false,rB false] 121,.row h0 147 5 (List.map Au hu),.blk hf (An (Ac v hb)) 95]) ((Ae (i:=2) Aa).trans (Wo _ ((Ae (i:=2) Aa).trans (Wo _ (Wr _))))) (Az (AU ((hu,(A6.mk (max ha.fDepth ((hd.length:Int)+1)) (IntKind.wrap .i64 (ha.fBytes+hg)) (ha.fOutside||((decide (((Ac v hb).fKind)=3))&&(!(ov (Bo ((Ac v hb).fInt)))))) (ha.fLong||(decide (200<(((Ac v hb).fStr).length:Int)))))),h0) gC (AS.c Aa (AS.c Aa (AS.c5 Aa Aa Aa Aa Aa AS.nil))) (sC (sC (sC (sS sN))))))))
   ·rintro⟨⟨hD,hE⟩,hG⟩ h2;refine Bi (l':=[(0,BE 4 (List.map An v)),(3,rv (.pointer (some ⟨b1,0,none⟩))),(5,rv (.pointer (some ⟨b2,0,none⟩))),(6,rv hG),(11,BE 4 (List.map An v)),(12,rI .i64 (v.length:Int)),(13,rI .i64 hb)]) (H':=[.blk b2 (AQ hE) 121,.blk b1 [rI .i64 0,rI .i64 0,rB false,rB false] 121,.row hG 147 5 (List.map Au hD)]) Aa Aa ?_;replace h2:Dh hb hD hE=some h4:=h2;unfold Dh at h2;refine As ?_;obtain⟨gD,gE⟩:=AR h2;refine wv (C0 Aa Aa gD) (wm Aa (Aq ?_));have gF:=CQ gE hx;exact Az (AU (hT,(hD,hb+1,hE),hG) ⟨gF,WZ _⟩ (AS.c Aa (AS.c Aa (AS.c5 Aa Aa Aa Aa Aa AS.nil))) (sC (sC (sC sN))))
  ·have gG:=AW h5 hz;refine BN (AN ?_);have gH:=Ep gG hx hy;exact AN (B8 (AU (ha,()) gH (AS.c Aa (AS.c Aa AS.nil)) (sC (sC (sS sN)))))
 ·rintro⟨hq,⟨⟩⟩ h3;refine E7 (l':=[(3,rv (.pointer (some ⟨b1,0,none⟩))),(5,rv (.pointer (some ⟨b2,0,none⟩)))]) (H':=[.blk b2 (AQ hq) 121,.blk b1 [rI .i64 0,rI .i64 0,rB false,rB false] 121]) Aa Aa ?_;replace h3:It hq=some r:=h3;unfold It at h3;refine B3 (Bm (A1 (Gw (H1:=[.blk b2 (AQ hq) 121,.blk b1 (AQ hq) 121]) [3,5] [⟨[],B2 (AQ hq),1⟩,⟨[],rI .i64 0,0⟩,⟨[0],rv undef,2⟩,⟨[],rB false,0⟩] (rle [(3,_),(2,[.blk b2 (AQ hq) 121,.blk b1 (AQ hq) 121])]) [2,4,3] ?_ ?_)))
  ·refine of (Bx (i:=0) HE Es Aa Aa Aa Aa) (oq (Aj Aa) (IF Aa (Mw (Dm (i:=1) Es Aa Aa Aa (CI.c Aa) Aa Aa (cs':=[rI .i64 hq.fDepth,rI .i64 hq.fBytes,rB hq.fOutside,rB hq.fLong]) Aa (H':=[.blk b2 (AQ hq) 121,.blk b1 (AQ hq) 121]) Aa)) ?_));refine oq (Aj Aa) ?_;exact CV
  refine Bm (A7 (Iq ?_));obtain rfl:=AI h3;exact AA (RH Rn (Ba Aa) (KF (i:=1) HE Es Aa Aa Aa) (Ba Aa)) (sS (sS sN)) ⟨Aa,Aa⟩
theorem Rz (F:Nat)(v:(List Al))(r:Int)(h:K5 F v=some r):Fn Tryz.prog GE 76 [BE 4 (List.map An v)] [] (λR H=>R=rI .i64 r∧H=[]):=by
 refine enter (n:=42) Tryz.func76 Aa Tryz.ntmps76 Aa (λw Z=>?_);refine Bi (l':=[(0,BE 4 (List.map An v))]) (H':=[]) Aa Aa ?_;unfold K5 at h;refine At (wv (r:=rI .i64 0) (Aj Aa) (BI (wm Aa ?_)));obtain⟨r1,e3,h2⟩:=Bb h;refine Ky Tryz.call88 (Te F v r1 e3) Aa (wm Aa (wv (AM Aa Aa) (wv (AM Aa Aa) (wv (AM Aa Aa) (Eu (cs:=[rI .i64 0,rI .i64 0,rB false,rB false]) Tryz.zeroValue121 Aa Aa (λb4=>?_))))));refine wa Aa (CP (i:=0) Es Aa Aa Aa (CI.c Aa) Aa Aa (cs':=[rI .i64 r1.2.1.fDepth,rI .i64 r1.2.1.fBytes,rB r1.2.1.fOutside,rB r1.2.1.fLong]) Aa (H':=[.blk b4 (AQ r1.2.1) 121]) Aa (wa Aa (A8 (A1 (Bc (AO [(0,BE 4 (List.map An v)),(4,rv (.pointer (some ⟨b4,0,none⟩))),(12,rB ((!r1.2.2)||(!decide (r1.1=(v.length:Int)))))] [.blk b4 (AQ r1.2.1) 121] ?_ ?_))))))
 ·refine As (wm Aa (wv (Cz Aa) (wm Aa (AP (!r1.2.2) (λc5=>?_) (λc5=>?_)))))
  ·refine wf c5 (wf c5 (wf c5 (wf c5 (wv (r:=rB true) (Ar (b:=!r1.2.2) Aa c5 Aa) (wa Aa (Aq ?_))))));exact C3 c5
  ·refine wo c5 (wm Aa (wo c5 (wm Aa (wo c5 (wv (CF (ys:=v) (enc:=An) JR Aa) (wo c5 (wv (G7 Aa Aa) (GF Aa c5 Aa (wa Aa (Aq ?_))))))))));exact C3 c5
 refine AC (b:=((!r1.2.2)||(!decide (r1.1=(v.length:Int))))) Aa (λc6=>?_) (λc6=>?_)
 ·have h7:=AV c6 h2;refine At (wv (r:=rI .i64 1) (Aj Aa) (A8 (A7 (AF (Ak ?_)))));obtain rfl:=AI h7;exact AA (BZ SW (Ba Aa)) (sS sN) ⟨Aa,Aa⟩
 ·have h8:=AW c6 h2;refine At (wv (Ai Dw Aa Hn Aa Aa) (wv (Aw (i:=0) SQ Aa Aa Aa) (wa Aa (A8 (AC (b:=r1.2.1.fOutside) Aa (λc9=>?_) (λc9=>?_))))))
  ·have hg:=AV c9 h8;refine At (wv (r:=rI .i64 2) (Aj Aa) (A8 (A7 (AF (Ak ?_)))));obtain rfl:=AI hg;exact AA (BZ SW (Ba Aa)) (sS sN) ⟨Aa,Aa⟩
  ·have hf:=AW c9 h8;refine AO [(24,rB (r1.2.1.fLong||((decide (200<(v.length:Int)))||((decide (8<r1.2.1.fDepth))||(decide (4000<r1.2.1.fBytes))))))] [] ?_ ?_
   ·refine As (wv (Ai Dw Aa Hn Aa Aa) (wv (Aw (i:=0) SQ Aa Aa Aa) (wm Aa (AP (r1.2.1.fLong) (λha=>?_) (λha=>?_)))))
    ·refine wf ha (wf ha (wf ha (wv (r:=rB true) (Ar (b:=r1.2.1.fLong) Aa ha Aa) (wm Aa (Am (b:=true) Aa Aa Aa Aa (Am (b:=true) Aa Aa Aa Aa (Am (b:=true) Aa Aa Aa Aa (wv (r:=rB true) (Ar (b:=true) Aa Aa Aa) (wm Aa (Am (b:=true) Aa Aa Aa Aa (Am (b:=true) Aa Aa Aa Aa (Am (b:=true) Aa Aa Aa Aa (wv (r:=rB true) (Ar (b:=true) Aa Aa Aa) (wa Aa (Aq ?_)))))))))))))));exact C3 ha
    ·refine wo ha (wm Aa (wo ha (wv (CF (ys:=v) (enc:=An) JR Aa) (wo ha (wv (Du Aa Aa) (GF Aa ha Aa (wm Aa (AP (decide (200<(v.length:Int))) (λhb=>?_) (λhb=>?_)))))))))
     ·refine wf hb (wf hb (wf hb (wv (r:=rB true) (Ar (b:=decide (200<(v.length:Int))) Aa hb Aa) (wm Aa (Am (b:=true) Aa Aa Aa Aa (Am (b:=true) Aa Aa Aa Aa (Am (b:=true) Aa Aa Aa Aa (wv (r:=rB true) (Ar (b:=true) Aa Aa Aa) (wa Aa (Aq ?_))))))))));exact C3 (And.intro ha hb)
     ·refine wo hb (wv (Ai Dw Aa Cc Aa Aa) (wo hb (wv (Aw (i:=0) Cq Aa Aa Aa) (wo hb (wv (Du Aa Aa) (GF Aa hb Aa (wm Aa (AP (decide (8<r1.2.1.fDepth)) (λhd=>?_) (λhd=>?_)))))))))
      ·refine wf hd (wf hd (wf hd (wv (r:=rB true) (Ar (b:=decide (8<r1.2.1.fDepth)) Aa hd Aa) (wa Aa (Aq ?_)))));exact C3 (And.intro ha (And.intro hb hd))
      ·refine wo hd (wv (Ai Dw Aa Cc Aa Aa) (wo hd (wv (Aw (i:=0) Cq Aa Aa Aa) (wo hd (wv (Du Aa Aa) (GF Aa hd Aa (wa Aa (Aq ?_))))))));exact C3 (And.intro ha (And.intro hb hd))
   refine AC (b:=(r1.2.1.fLong||((decide (200<(v.length:Int)))||((decide (8<r1.2.1.fDepth))||(decide (4000<r1.2.1.fBytes)))))) Aa (λhe=>?_) (λhe=>?_)
   ·have hh:=AV he hf;refine At (wv (r:=rI .i64 3) (Aj Aa) (A8 (A7 (AF (Ak ?_)))));obtain rfl:=AI hh;exact AA (BZ SW (Ba Aa)) sN ⟨Aa,Aa⟩
   ·have hi:=AW he hf;refine AH (AY (Bm (At (wv (r:=rI .i64 0) (Aj Aa) (A8 (A7 ?_))))));obtain rfl:=AI hi;exact AA (BZ SW (Ba Aa)) sN ⟨Aa,Aa⟩
end Go.Proofs.YthbbedliepkakaaGreatDoor.Q
namespace Go.Proofs.YthbbedliepkakaaGreatDoor
open Go
set_option linter.unusedVariables false
end Go.Proofs.YthbbedliepkakaaGreatDoor
namespace Go.Proofs.YthbbedliepkakaaGreatDoor.Q
open Go Go.RowKit
set_option linter.unusedVariables false
set_option linter.unusedSimpArgs false
set_option maxRecDepth 100000
set_option maxHeartbeats 4000000
end Go.Proofs.YthbbedliepkakaaGreatDoor.Q
namespace Go.Proofs.YthbbedliepkakaaGreatDoor
open Go
set_option linter.unusedVariables false
end Go.Proofs.YthbbedliepkakaaGreatDoor
namespace Go.Proofs.YthbbedliepkakaaGreatDoor.Q
open Go Go.RowKit
set_option linter.unusedVariables false
set_option linter.unusedSimpArgs false
set_option maxRecDepth 100000
set_option maxHeartbeats 4000000
end Go.Proofs.YthbbedliepkakaaGreatDoor.Q
namespace Go.Proofs.YthbbedliepkakaaGreatDoor
open Go
set_option linter.unusedVariables false
end Go.Proofs.YthbbedliepkakaaGreatDoor
namespace Go.Proofs.YthbbedliepkakaaGreatDoor.Q
open Go Go.RowKit
set_option linter.unusedVariables false
set_option linter.unusedSimpArgs false
set_option maxRecDepth 100000
set_option maxHeartbeats 4000000
end Go.Proofs.YthbbedliepkakaaGreatDoor.Q
namespace Go.Proofs.YthbbedliepkakaaGreatDoor
open Go
set_option linter.unusedVariables false
end Go.Proofs.YthbbedliepkakaaGreatDoor
namespace Go.Proofs.YthbbedliepkakaaGreatDoor.Q
open Go Go.RowKit
set_option linter.unusedVariables false
set_option linter.unusedSimpArgs false
set_option maxRecDepth 100000
set_option maxHeartbeats 4000000
end Go.Proofs.YthbbedliepkakaaGreatDoor.Q
namespace Go.Proofs.YthbbedliepkakaaGreatDoor
open Go
set_option linter.unusedVariables false
set_option linter.unusedSimpArgs false
section
variable {T S : Type}
def mget:List (Ay×T)→Ay→Option T
 | [],_=>none
 | p::r,k=>bif decide (p.1=k) then some p.2 else mget r k
def Cr (xs:List (Ay×T))(k:Ay)(z:T):T:=(mget xs k).getD z
def Cp (xs:List (Ay×T))(k:Ay):Bool:=(mget xs k).isSome
def mins (k:Ay)(v:T):List (Ay×T)→List (Ay×T)
 | []=>[(k,v)]
 | p::r=>bif BM k p.1 then(k,v)::p::r else p::mins k v r
def mput (xs:List (Ay×T))(k:Ay)(v:T):List (Ay×T):=xs.map λp=>bif decide (p.1=k) then(k,v) else p
def mset (xs:List (Ay×T))(k:Ay)(v:T):List (Ay×T):=bif Cp xs k then mput xs k v else mins k v xs
def mdel (xs:List (Ay×T))(k:Ay):List (Ay×T):=xs.filter λp=>!decide (p.1=k)
def AB (f:T→S)(xs:List (Ay×T)):List (Ay×S):=xs.map λp=>(p.1,f p.2)
theorem IL (f:T→S):∀(xs:List (Ay×T)) (k:Ay),mget (AB f xs) k=(mget xs k).map f
 | [],k=>rfl
 | p::r,k=>by
  show(bif decide (p.1=k) then some (f p.2) else mget (AB f r) k)=_;rw[mget,IL f r k]
  cases decide (p.1=k)<;>rfl
theorem Sj (f:T→S)(xs:List (Ay×T))(k:Ay):Cp (AB f xs) k=Cp xs k:=by
 unfold Cp;rw[IL];cases mget xs k<;>rfl
theorem NH (f:T→S)(k:Ay)(v:T):∀xs:List (Ay×T),AB f (mins k v xs)=mins k (f v) (AB f xs)
 | []=>rfl
 | p::r=>by
  show AB f (bif BM k p.1 then(k,v)::p::r else p::mins k v r)=(bif BM k p.1 then(k,f v)::(p.1,f p.2)::AB f r else(p.1,f p.2)::mins k (f v) (AB f r));rw[← NH f k v r]
  cases BM k p.1<;>rfl
theorem Si (f:T→S)(xs:List (Ay×T))(k:Ay)(v:T):AB f (mset xs k v)=mset (AB f xs) k (f v):=by
 unfold mset;rw[Sj]
 cases Cp xs k with
 | false=>exact NH f k v xs
 | true=>
  show AB f (mput xs k v)=mput (AB f xs) k (f v);unfold AB mput;rw[Xp,Xp];refine List.map_congr_left λp _=>?_;show _=(bif decide (p.1=k) then(k,f v) else(p.1,f p.2));simp only[Function.comp]
  cases decide (p.1=k)<;>rfl
theorem Sk (f:T→S)(xs:List (Ay×T))(k:Ay):AB f (mdel xs k)=mdel (AB f xs) k:=by
 unfold AB mdel;rw[List.filter_map];rfl
theorem Hd (f:T→S)(xs:List (Ay×T)):(AB f xs).length=xs.length:=by simp[AB]
theorem Ju (k:Ay)(v:T):∀xs:List (Ay×T),(mins k v xs).Perm ((k,v)::xs)
 | []=>Wr _
 | p::r=>by
  rw[mins]
  cases BM k p.1 with
  | true=>exact Wr _
  | false=>exact((Ju k v r).cons p).trans (List.Perm.swap _ _ _)
def Ew (x:T):List T→List (List T)
 | []=>[[x]]
 | y::r=>(x::y::r)::(Ew x r).map (y::·)
def HH:List T→List (List T)
 | []=>[[]]
 | x::r=>(HH r).flatMap (Ew x)
theorem JG (x:T):∀(a b:List T),a++x::b∈Ew x (a++b)
 | [],[]=>by simp[Ew]
 | [],y::b=>by simp[Ew]
 | y::a,b=>by
  simp only[Xh,Ew,Xl,List.mem_map];exact .inr ⟨_,JG x a b,rfl⟩
theorem LD:∀(xs ys:List T),ys.Perm xs→ys∈HH xs
 | [],ys,h=>by rw[h.eq_nil];simp[HH]
 | x::r,ys,h=>by
  have hx:x∈ys:=h.symm.subset (List.mem_cons_self ..);obtain⟨a,b,rfl⟩:=List.append_of_mem hx;have h2:(a++b).Perm r:=(List.perm_middle.symm.trans h).cons_inv;simp only[HH,List.mem_flatMap];exact⟨a++b,LD r _ h2,JG x a b⟩
def M0 {R:Type}[DecidableEq R](xs:List T)(K:List T→Option R):Option R:=match K xs with
 | none=>none
 | some r=>bif (HH xs).all (λp=>decide (K p=some r)) then some r else none
theorem Mz {R:Type}[DecidableEq R]{xs:List T}{K:List T→Option R}{r:R}(h:M0 xs K=some r):∀p:List T,p.Perm xs→K p=some r:=λp hp=>by
 unfold M0 at h
 cases hk:K xs with
 | none=>rw[hk] at h;cases h
 | some q=>
  rw[hk] at h;simp only at h
  cases ha:(HH xs).all (λp=>decide (K p=some q)) with
  | false=>rw[ha] at h;cases h
  | true=>
   rw[ha] at h;cases h;exact Xa (List.all_eq_true.1 ha p (LD xs p hp))
theorem Gs (x:T):∀(xs ys:List T),ys∈Ew x xs→ys.Perm (x::xs)
 | [],ys,h=>by simp[Ew] at h;rw[h]
 | y::r,ys,h=>by
  simp only[Ew,Xl,List.mem_map] at h;rcases h with rfl | ⟨z,hz,rfl⟩
  ·exact Wr _
  ·exact((Gs x r z hz).cons y).trans (List.Perm.swap _ _ _)
theorem KS:∀(xs ys:List T),ys∈HH xs→ys.Perm xs
 | [],ys,h=>by simp[HH] at h;rw[h]
 | x::r,ys,h=>by
  simp only[HH,List.mem_flatMap] at h;obtain⟨z,hz,hy⟩:=h;exact(Gs x z ys hy).trans ((KS r z hz).cons x)
theorem UB {R:Type}[DecidableEq R]{xs:List T}{K:List T→Option R}{r:R}(h:∀p:List T,p.Perm xs→K p=some r):M0 xs K=some r:=by
 unfold M0;rw[h xs (Wr _)];have:(HH xs).all (λp=>decide (K p=some r))=true:=List.all_eq_true.2 λp hp=>Ws (h p (KS xs p hp));simp only[this];rfl
def Lv {St O:Type}(body:T→St→Option (Stp St (Out O St))):List T→St→Option (Out O St)
 | [],s=>some (.go s)
 | x::r,s=>match body x s with
  | none=>none
  | some (.next s')=>Lv body r s'
  | some (.out o)=>some o
def VA {St R:Type}(body:T→St→Option (Stp St (Out R St)))(ys:List T)(K:St→Option R)(r:R):Stp St (Out R St)→Prop
 | .next s'=>∀q:List T,q.Perm ys→Bq (Lv body q s') (B4 K)=some r
 | .out o=>B4 K o=some r
theorem P8 {St R:Type}{body:T→St→Option (Stp St (Out R St))}{ys ys':List T}{p:T}{s:St}{K:St→Option R}{r:R}(h:∀q:List T,q.Perm ys→Bq (Lv body q s) (B4 K)=some r)(hp:ys.Perm (p::ys')):∃t,body p s=some t∧VA body ys' K r t:=by
 have h1:∀q:List T,q.Perm ys'→Bq (Lv body (p::q) s) (B4 K)=some r:=λq hq=>h _ ((hq.cons p).trans hp.symm)
 cases hb:body p s with
 | none=>
  have:=h1 ys' (Wr _);rw[Lv,hb] at this;cases this
 | some t=>
  refine⟨t,rfl,?_⟩
  cases t with
  | next s'=>
   intro q hq;have:=h1 q hq;rw[Lv,hb] at this;exact this
  | out o=>
   have:=h1 ys' (Wr _);rw[Lv,hb] at this;exact this
theorem Km {St R:Type}{body:T→St→Option (Stp St (Out R St))}{ys:List T}{s:St}{K:St→Option R}{r:R}(h:∀q:List T,q.Perm ys→Bq (Lv body q s) (B4 K)=some r)(hy:ys=[]):K s=some r:=by
 subst hy;exact h [] (Wr _)
theorem D4 {St R:Type}{body:T→St→Option (Stp St (Out R St))}{ys:List T}{s':St}{K:St→Option R}{r:R}{t:Stp St (Out R St)}(h:some (Stp.next s')=some t)(ht:VA body ys K r t):∀q:List T,q.Perm ys→Bq (Lv body q s') (B4 K)=some r:=by cases h;exact ht
theorem ER {ys ys':List T}{p:T}(h:ys.Perm (p::ys')):ys'.length<ys.length:=by rw[h.length_eq];exact WZ _
end
section
variable {T S : Type}
def Qm (lt:T→T→Bool)(x:T):List T→List T
 | []=>[x]
 | y::r=>bif lt y x then y::Qm lt x r else x::y::r
def G2 (lt:T→T→Bool):List T→List T
 | []=>[]
 | x::r=>Qm lt x (G2 lt r)
theorem Jj (lt:T→T→Bool)(x:T):∀xs:List T,(Qm lt x xs).Perm (x::xs)
 | []=>Wr _
 | y::r=>by
  rw[Qm]
  cases lt y x with
  | true=>exact((Jj lt x r).cons y).trans (List.Perm.swap _ _ _)
  | false=>exact Wr _
theorem Di (lt:T→T→Bool):∀xs:List T,(G2 lt xs).Perm xs
 | []=>Wr _
 | x::r=>(Jj lt x _).trans ((Di lt r).cons x)
def D1 (lt:T→T→Bool):List T→Bool
 | []=>true
 | x::r=>r.all (λy=>lt x y||lt y x)&&D1 lt r
structure Ua (lt:T→T→Bool):Prop where
 irrefl:∀x,lt x x=false
 ntrans:∀x y z,lt x y=false→lt y z=false→lt x z=false
 asym:∀x y,lt x y=true→lt y x=false
theorem HV {lt:T→T→Bool}:∀{xs:List T},D1 lt xs=true→xs.Pairwise λx y=>(lt x y||lt y x)=true
 | [],_=>List.Pairwise.nil
 | x::r,h=>by
  simp only[D1,Wu,WM] at h;exact List.pairwise_cons.2 ⟨λy hy=>h.1 y hy,HV h.2⟩
theorem ID {R:T→T→Prop}(hs:∀x y,R x y→R y x):∀{xs:List T},xs.Pairwise R→∀a b,a∈xs→b∈xs→a=b∨R a b
 | [],_,a,b,h,_=>by cases h
 | x::r,h,a,b,ha,hb=>by
  rw[List.pairwise_cons] at h;rcases List.mem_cons.1 ha with e | ha1
  ·rcases List.mem_cons.1 hb with e2 | hb1
   ·exact .inl (e.trans e2.symm)
   ·exact .inr (e▸h.1 b hb1)
  ·rcases List.mem_cons.1 hb with e2 | hb1
   ·exact .inr (hs _ _ (e2▸h.1 a ha1))
   ·exact ID hs h.2 a b ha1 hb1
theorem JA {lt:T→T→Bool}(L:Ua lt)(x:T):∀{xs:List T},(xs.Pairwise λx y=>lt y x=false)→(Qm lt x xs).Pairwise λx y=>lt y x=false
 | [],_=>List.pairwise_singleton _ _
 | y::r,h=>by
  rw[List.pairwise_cons] at h;rw[Qm]
  cases hy:lt y x with
  | true=>
   refine List.pairwise_cons.2 ⟨λz hz=>?_,JA L x h.2⟩;rcases List.mem_cons.1 ((Jj lt x r).subset hz) with e | h1
   ·rw[e];exact L.asym _ _ hy
   ·exact h.1 z h1
  | false=>
   refine List.pairwise_cons.2 ⟨λz hz=>?_,List.pairwise_cons.2 h⟩;rcases List.mem_cons.1 hz with e | h1
   ·rw[e];exact hy
   ·exact L.ntrans _ _ _ (h.1 z h1) hy
theorem G1 {lt:T→T→Bool}(L:Ua lt):∀xs:List T,(G2 lt xs).Pairwise λx y=>lt y x=false
 | []=>List.Pairwise.nil
 | x::r=>JA L x (G1 L r)
theorem OA {lt:T→T→Bool}(L:Ua lt){xs ys:List T}(hd:D1 lt xs=true)(hp:ys.Perm xs)(hs:ys.Pairwise λx y=>lt y x=false):ys=G2 lt xs:=by
 refine List.Perm.eq_of_pairwise (le:=λx y=>lt y x=false) ?_ hs (G1 L xs) (hp.trans (Di lt xs).symm);intro a b ha hb h2 h3;have hb':b∈xs:=(Di lt xs).subset hb;rcases ID (R:=λx y=>(lt x y||lt y x)=true) (λx y h=>by rw[Bool.or_comm];exact h) (HV hd) a b (hp.subset ha) hb' with h | h
 ·exact h
 ·rw[h2,h3] at h;cases h
theorem OD {lt:T→T→Bool}{xs ys:List T}(hd:D1 lt xs=true)(hp:ys.Perm xs):D1 lt ys=true:=by
 have h1:=(hp.symm.pairwise_iff (R:=λx y=>(lt x y||lt y x)=true) (fun {x y} h=>by rw[Bool.or_comm];exact h)).1 (HV hd);clear hd hp
 induction ys with
 | nil=>rfl
 | cons x r ih=>
  rw[List.pairwise_cons] at h1;simp only[D1,Wu,WM];exact⟨h1.1,ih h1.2⟩
theorem Qj {lt:T→T→Bool}(L:Ua lt){xs ys:List T}(hd:D1 lt xs=true)(hp:ys.Perm xs):G2 lt ys=G2 lt xs:=OA L hd ((Di lt ys).trans hp) (G1 L ys)
inductive All2 (R:T→S→Prop):List T→List S→Prop
 | nil:All2 R [] []
 | cons {x y xs ys}:R x y→All2 R xs ys→All2 R (x::xs) (y::ys)
theorem All2.length {R:T→S→Prop}{xs:List T}{ys:List S}(h:All2 R xs ys):xs.length=ys.length:=by
 induction h with
 | nil=>rfl
 | cons _ _ ih=>simp[ih]
theorem All2.perm {R:T→S→Prop}{ys zs:List S}(hp:ys.Perm zs):∀{xs:List T},All2 R xs ys→∃xs',xs'.Perm xs∧All2 R xs' zs:=by
 induction hp with
 | nil=>intro xs h;exact⟨xs,Wr _,h⟩
 | cons a _ ih=>
  intro xs h
  cases h with
  | cons h1 h2=>obtain⟨x',p,h3⟩:=ih h2;exact⟨_,p.cons _,.cons h1 h3⟩
 | swap a b l=>
  intro xs h
  cases h with
  | cons h1 h2=>cases h2 with
   | cons h3 h4=>exact⟨_,List.Perm.swap _ _ _,.cons h3 (.cons h1 h4)⟩
 | trans _ _ ih1 ih2=>
  intro xs h;obtain⟨x1,p1,h1⟩:=ih1 h;obtain⟨x2,p2,h2⟩:=ih2 h1;exact⟨x2,p2.trans p1,h2⟩
end
def CM (n1 n2 p1 p2:Int):Bool:=decide (n1<n2)||(decide (n1=n2)&&decide (p1<p2))
theorem LF {n1 n2 p1 p2:Int}:CM n1 n2 p1 p2=true↔n1<n2∨(n1=n2∧p1<p2):=by
 unfold CM;simp
theorem H3 {n1 n2 p1 p2:Int}:CM n1 n2 p1 p2=false↔¬ n1<n2∧(n1=n2→¬ p1<p2):=by
 unfold CM;simp
theorem P6 {T:Type}(n p:T→Int):Ua λx y=>CM (n x) (n y) (p x) (p y):=⟨λx=>H3.2 ⟨by omega,λ_=>by omega⟩,λx y z h1 h2=>by
 rw[H3] at *;exact⟨by omega,λe=>by omega⟩,λx y h=>by
 rw[LF] at h;rw[H3];exact⟨by omega,λe=>by omega⟩⟩
structure Ap where
 fID:Ay
 fTenant:Ay
 fSource:Ay
 fKey:Ay
 fAt:Int
 fCause:Ay
 fBody:(List Al)
 deriving DecidableEq,Inhabited
structure Ab where
 fEvent:Ap
 fAt:Int
 fReceives:Int
 fHeld:Bool
 fPlace:Int
 deriving DecidableEq,Inhabited
def MF (ys:(List Al)):Option ((List Al)):=
 Bd (HO 40 (([]:List Al).length+ys.length))<|some (([]:List Al)++ys)
def TC (c:Int):Option (Bool):=
 some ((decide (97≤c))&&(decide (c≤122)))
def PF (c:Int):Option (Bool):=
 some ((decide (48≤c))&&(decide (c≤57)))
def BV (ha:Bool):Option (Bool):=
 some ha
def Sz (c:Int):Option (Bool):=
 Bq (TC c) λha=>Bh (ha) (BV true) (Bh (decide (65≤c)) (Bh (decide (c≤90)) (BV true) (Bq (PF c) λhb=>Bh (hb) (BV true) (Bh (decide (c=45)) (BV true) (Bh (decide (c=95)) (BV true) (Bh (decide (c=46)) (BV true) (Bh (decide (c=58)) (BV true) (BV (decide (c=47))))))))) (Bq (PF c) λhd=>Bh (hd) (BV true) (Bh (decide (c=45)) (BV true) (Bh (decide (c=95)) (BV true) (Bh (decide (c=46)) (BV true) (Bh (decide (c=58)) (BV true) (BV (decide (c=47)))))))))
def H7 (s:Ay)(ha:Int):Option (Stp (Int) (Out (Bool) (Unit))):=
 Bh (decide (ha<(s.length:Int))) (Bd (Cb ha (s.length:Int))<|Bq (Sz (DL s ha)) λhb=>Bh (!hb) (some (.out (.ret false))) (Bd (B7 .i64 (ha+1))<|some (.next (ha+1)))) (some (.out (.go ())))
def TD :Option (Bool):=
 some true
def G8 (F:Nat)(s:Ay):Option (Bool):=
 Bh (((decide ((s.length:Int)<1))||(decide (64<(s.length:Int))))) (some false) (Bq (BB (λσ=>H7 s σ) F 0) (B4 λν=>TD ))
def Hk (F:Nat)(e:Ap):Option (Int):=
 Bh (((!(Dg e.fID))||((!(Dg e.fTenant))||((!(Dg e.fSource))||(bif !decide (e.fKey=([]:Ay)) then((!(Dg e.fKey))||((!decide (e.fCause=([]:Ay)))&&(!(Dg e.fCause)))) else((!decide (e.fCause=([]:Ay)))&&(!(Dg e.fCause)))))))) (some 4) (Bh (((decide (e.fAt<0))||(decide (1073741824<e.fAt)))) (some 2) (Bq (K5 F e.fBody) λha=>some ha))
def CU (F:Nat)(s:Ay):Option (Bool):=
 Bd (imp (!(decide (s=([]:Ay)))) ((G8 F s).isSome))<|some ((decide (s=([]:Ay)))||(ov (G8 F s)))
def KP (F:Nat)(e:Ap):Option (Int):=
 Bd ((G8 F e.fID).isSome)<|Bd (imp (!(!(ov (G8 F e.fID)))) ((G8 F e.fTenant).isSome))<|Bd (imp (!(!(ov (G8 F e.fID)))) (imp (!(!(ov (G8 F e.fTenant)))) ((G8 F e.fSource).isSome)))<|Bd (imp (!(!(ov (G8 F e.fID)))) (imp (!(!(ov (G8 F e.fTenant)))) (imp (!(!(ov (G8 F e.fSource)))) ((CU F e.fKey).isSome))))<|Bd (imp (!(!(ov (G8 F e.fID)))) (imp (!(!(ov (G8 F e.fTenant)))) (imp (!(!(ov (G8 F e.fSource)))) (imp (!(!(ov (CU F e.fKey)))) ((CU F e.fCause).isSome)))))<|Bh (((!(ov (G8 F e.fID)))||((!(ov (G8 F e.fTenant)))||((!(ov (G8 F e.fSource)))||((!(ov (CU F e.fKey)))||(!(ov (CU F e.fCause)))))))) (some 4) (Bh (((decide (e.fAt<0))||(decide (1073741824<e.fAt)))) (some 2) (Bq (OH F e.fBody) λha=>some ha))
end Go.Proofs.YthbbedliepkakaaGreatDoor
namespace Go.Proofs.YthbbedliepkakaaGreatDoor.Q
open Go Go.RowKit
set_option linter.unusedVariables false
set_option linter.unusedSimpArgs false
def MG (ops:List Oper)(N:Nat):Bool:=
 let cl:=Lg ops []
 (List.range ops.length).all (λi=>(D8 (ops.getD i default)).all (·<i))&&
 (List.range ops.length).all (λi=>i<N||(List.range i).all (λj=>(cl.getD i 0).testBit j))
section
variable {P : Program} {Q : Exit → Act → World → Prop}
theorem Ob {listed:Array Bool}{len m:Nat}(hs:listed.size=len)(hm:m≤len)(h:∀j,j<len→(listed.getD j true=true↔j<m)):listed.toList.count false=len-m:=by
 have:listed.toList=List.replicate m true++List.replicate (len-m) false:=by
  apply List.ext_getElem
  ·simp[hs];omega
  ·intro j h1 h2;have hj:j<len:=by simpa[hs] using h1
   have:=h j hj;rw[Array.getD_eq_getD_getElem?,Array.getElem?_eq_getElem (by omega)] at this;simp only[WI] at this;rw[Array.getElem_toList,List.getElem_append]
   split
   ·rename_i h3
    simp at h3;simp[this.2 h3]
   ·rename_i h3
    simp at h3;simp only[List.getElem_replicate]
    cases hb:listed[j] with
    | false=>rfl
    | true=>have:=this.1 hb;omega
 rw[this];simp[List.count_append,List.count_replicate]
theorem PG {listed:Array Bool}{j:Nat}(h:j<listed.size)(d d':Bool):listed.getD j d=listed.getD j d':=by
 simp[Array.getD_eq_getD_getElem?,Array.getElem?_eq_getElem h]
theorem Lj {ops:List Oper}{listed:Array Bool}{i:Nat}{o:Oper}(ho:ops[i]? =some o)(hb:∀e∈D8 o,listed.getD e true=true)
  (hcl:∀j o,ops[j]? =some o→listed.getD j true=true→∀e∈D8 o,listed.getD e true=true) (j:Nat) (h:((Lg ops []).getD i 0).testBit j=true):j=i∨listed.getD j true=true:=
 Gu ops (λk=>k=i∨listed.getD k true=true) ops [] (λt o' ht e he hF=>by
  rcases hF with hF | hF
  ·simp at hF;subst hF;rw[ho] at ht;simp at ht;subst ht;exact .inr (hb e he)
  ·exact .inr (hcl t o' ht (by simpa using hF) e he)) (λj i hb=>by simp at hb) i j h (.inl rfl)
theorem HY {ops:List Oper}{listed:Array Bool}{i:Nat}(hsz:listed.size=ops.length)(hlt:∀i,i<ops.length→∀e∈D8 (ops.getD i default),e<i)(h:i∈Region.ready .any ops.toArray listed) :
  listed.getD i true=false∧i<ops.length∧∃o,ops[i]? =some o∧∀e∈D8 o,listed.getD e true=true:=by
 obtain⟨h1,o,ho,h2⟩:=mem_ready.1 h;have ho':ops[i]? =some o:=by simpa using ho
 have hil:=(List.getElem?_eq_some_iff.1 ho').1;refine⟨h1,hil,o,ho',λe he=>?_⟩;have hei:=hlt i hil e (by rw[Ww,ho'];exact he);simp only[D8,List.mem_map,List.mem_filter] at he;obtain⟨x,⟨hx1,hx2⟩,rfl⟩:=he;have h3:=h2 x (by simpa using hx1) hx2;rw[PG (by omega) true false];exact h3
theorem HK {ops:List Oper}{listed:Array Bool}(hsz:listed.size=ops.length)(hlt:∀i,i<ops.length→∀e∈D8 (ops.getD i default),e<i)(h:Region.ready .any ops.toArray listed=[]) :
  ∀j,j<ops.length→listed.getD j true=true:=by
 intro j
 induction j using Nat.strongRecOn with
 | ind j ih=>
  intro hj
  cases hb:listed.getD j true with
  | true=>rfl
  | false=>
   have:j∈Region.ready .any ops.toArray listed:=mem_ready.2 ⟨hb,ops[j],by simp[hj],λe he hbn=>by
    have hel:e.on<j:=hlt j hj e.on (by
     rw[Ww,Wv hj];simp only[D8,WI,List.mem_map,List.mem_filter];exact⟨e,⟨by simpa using he,hbn⟩,rfl⟩)
    rw[PG (by omega) false true];exact ih e.on hel (by omega)⟩
   rw[h] at this;cases this
theorem Kg {listed:Array Bool}{i j:Nat}(hi:i<listed.size):(listed.setIfInBounds i true).getD j true=true↔(j=i∨listed.getD j true=true):=by
 by_cases hj:i=j
 ·subst hj;simp[hi]
 ·rw[getD_set_ne true hj];exact⟨.inr,λh=>h.elim (λh=>absurd h.symm hj) id⟩
theorem Qn {listed:Array Bool}{i fuel:Nat}(hi:i<listed.size)(hun:listed.getD i true=false)(hc:listed.toList.count false=fuel+1):(listed.setIfInBounds i true).toList.count false=fuel:=by
 have hfi:listed.toList[i]? =some false:=by
  rw[Array.getD_eq_getD_getElem?,Array.getElem?_eq_getElem hi] at hun;simp at hun;simp[hi,hun]
 rw[Array.toList_setIfInBounds];have h1:=List.count_set (a:=true) (b:=false) (l:=listed.toList) (i:=i) (by simpa using hi);have h2:listed.toList[i]'(by simpa using hi)=false:=by
  have:=List.getElem?_eq_some_iff.1 hfi;exact this.2
 rw[h1,h2,hc];rfl
theorem J7 {ops:List Oper}{N:Nat}(hlt:∀i,i<ops.length→∀e∈D8 (ops.getD i default),e<i)
  (hch:∀i,N≤i→i<ops.length→∀j,j<i→((Lg ops []).getD i 0).testBit j=true):∀(k m:Nat) (listed:Array Bool) (a:Act) (w:World),m+k=ops.length→N≤m→listed.size=ops.length→
   (∀j,j<ops.length→(listed.getD j true=true↔j<m))→(∀j o,ops[j]? =some o→listed.getD j true=true→∀e∈D8 o,listed.getD e true=true)→wpList P ops.toArray Q (ops.drop m) a w→wpAny P .any ops.toArray Q k listed a w
 | 0,m,listed,a,w,hk,hN,hsz,hl,hcl,h=>by
  refine⟨?_,?_⟩
  ·cases hr:Region.ready .any ops.toArray listed with
   | nil=>rfl
   | cons i r=>
    obtain⟨h1,h2,_⟩:=HY hsz hlt (i:=i) (by rw[hr];simp);rw[(hl i h2).2 (by omega)] at h1;cases h1
  ·rw[List.drop_of_length_le (by omega)] at h;exact h
 | k+1,m,listed,a,w,hk,hN,hsz,hl,hcl,h=>by
  refine⟨λhr=>?_,λi hi=>?_⟩
  ·have:=(hl m (by omega)).1 (HK hsz hlt hr m (by omega));omega
  ·obtain⟨h1,h2,o,ho,hb⟩:=HY hsz hlt hi;have him:i=m:=by
    have hmi : ¬ i<m:=λh'=>by rw[(hl i h2).2 h'] at h1;cases h1
    by_cases e:i=m
    ·exact e
    ·rcases Lj ho hb hcl m (hch i (by omega) h2 m (by omega)) with h3 | h3
     ·exact h3.symm
     ·have:=(hl m (by omega)).1 h3;omega
   subst him;have hd:ops.drop i=o::ops.drop (i+1):=by
    rw[List.drop_eq_getElem_cons h2]
    congr 1
    exact(List.getElem?_eq_some_iff.1 ho).2
   rw[hd] at h;have ih:∀a' w',wpList P ops.toArray Q (ops.drop (i+1)) a' w'→wpAny P .any ops.toArray Q k (listed.setIfInBounds i true) a' w':=λa' w' h'=>by
    refine J7 hlt hch k (i+1) _ a' w' (by omega) (by omega) (by simpa using hsz) (λj hj=>?_) (λj o' hj hlj e he=>?_) h'
    ·rw[Kg (by omega),hl j hj];omega
    ·rw[Kg (by omega)] at hlj ⊢;rcases hlj with rfl | hlj
     ·rw[ho] at hj;simp at hj;subst hj;exact .inr (hb e he)
     ·exact .inr (hcl j o' hj hlj e he)
   unfold wpOp;have hoA:ops.toArray[i]? =some o:=by simpa using ho
   simp only[hoA];simp only[wpList] at h
   split
   ·rename_i hw'
    rw[W8 hw'] at h;exact h.imp (λh=>Oper.wp_mono ih h) (λh=>h)
   ·rename_i hw'
    rw[W6 hw'] at h;exact ih _ _ h
theorem Rs {id:Nat}{ops:List Oper}{N:Nat}(hm:P.follows .mixedOrders=true)(hB:MG ops N=true)(hN:N≤ops.length)(I:(Nat→Bool)→Act→World→Prop)
  (hext:∀S S' a w,(∀j,j<N→S j=S' j)→I S a w→I S' a w) {a:Act} {w:World} (h0:I (λ_=>false) a { w with drawn:=w.drawn+1 })
  (step:∀S i o a w,i<N→S i=false→ops[i]? =some o→(∀e∈D8 o,e<i∧S e=true)→I S a w→∀K:Act→World→Prop,(∀a' w',I (λj=>j ==i||S j) a' w'→K a' w')→
   (Region.wanted o (yielded ops.toArray a.tmps)=true→o.wp P a w K Q)∧(Region.wanted o (yielded ops.toArray a.tmps)=false→K (a.put o.dst undef) w))
  (fin:∀a w,I (λ_=>true) a w→wpList P ops.toArray Q (ops.drop N) a w):(Code.region id ops.toArray true).wp P Q a w:=by
 simp only[MG,Wu,WM,List.mem_range,Wp,WE] at hB;obtain⟨hlt,hch0⟩:=hB;have hch:∀i,N≤i→i<ops.length→∀j,j<i→((Lg ops []).getD i 0).testBit j=true:=λi h1 h2 j hj=>by
  rcases hch0 i h2 with h3 | h3
  ·omega
  ·exact h3 j hj
 refine wp_region_any hm ?_;have main:∀(fuel:Nat) (listed:Array Bool) (a:Act) (w:World),listed.size=ops.length→listed.toList.count false=fuel→I (λj=>listed.getD j true) a w→
   (∀j o,ops[j]? =some o→listed.getD j true=true→∀e∈D8 o,listed.getD e true=true)→(∀j,N≤j→j<ops.length→listed.getD j true=false)→wpAny P .any ops.toArray Q fuel listed a w:=by
  intro fuel;have allin:∀(fuel:Nat) (listed:Array Bool) (a:Act) (w:World),listed.size=ops.length→listed.toList.count false=fuel→I (λj=>listed.getD j true) a w→
   (∀j o,ops[j]? =some o→listed.getD j true=true→∀e∈D8 o,listed.getD e true=true)→(∀j,N≤j→j<ops.length→listed.getD j true=false)→(∀j,j<N→listed.getD j true=true)→wpAny P .any ops.toArray Q fuel listed a w:=by
   intro fuel listed a w hsz hc hI hcl hlast hall;have hl:∀j,j<ops.length→(listed.getD j true=true↔j<N):=λj hj=>by
    constructor
    ·intro h
     by_cases hjN:j<N
     ·exact hjN
     ·rw[hlast j (by omega) hj] at h;cases h
    ·exact hall j
   have:=Ob hsz hN hl;refine J7 hlt hch fuel N listed a w (by omega) (W9 _) hsz hl hcl (fin a w (hext _ _ a w (λj hj=>hall j hj) hI))
  induction fuel with
  | zero=>
   intro listed a w hsz hc hI hcl hlast;refine allin 0 listed a w hsz hc hI hcl hlast (λj hj=>?_)
   cases hb:listed.getD j true with
   | true=>rfl
   | false=>
    have:false∈listed.toList:=by
     rw[Array.getD_eq_getD_getElem?,Array.getElem?_eq_getElem (by omega)] at hb;simp at hb;rw[← hb];simp
    have:=List.count_pos_iff.2 this;omega
  | succ fuel ih=>
   intro listed a w hsz hc hI hcl hlast
   by_cases hall:∀j,j<N→listed.getD j true=true
   ·exact allin (fuel+1) listed a w hsz hc hI hcl hlast hall
   ·refine⟨λhr=>absurd (λj hj=>HK hsz hlt hr j (by omega)) hall,λi hi=>?_⟩;obtain⟨h1,h2,o,ho,hb⟩:=HY hsz hlt hi;have hiN:i<N:=by
     by_cases h:i<N
     ·exact h
     ·refine absurd (λj hj=>?_) hall;rcases Lj ho hb hcl j (hch i (by omega) h2 j (by omega)) with h3 | h3
      ·omega
      ·exact h3
    have K':∀a' w',I (λj=>j ==i||listed.getD j true) a' w'→wpAny P .any ops.toArray Q fuel (listed.setIfInBounds i true) a' w':=λa' w' hI'=>by
     refine ih _ a' w' (by simpa using hsz) (Qn (by omega) h1 hc) (hext _ _ a' w' (λj hj=>?_) hI') (λj o' hj hlj e he=>?_) (λj h3 h4=>?_)
     ·have:=Kg (listed:=listed) (i:=i) (j:=j) (by omega)
      cases hq:(listed.setIfInBounds i true).getD j true with
      | true=>
       rw[hq] at this;rcases this.1 rfl with h | h
       ·simp[h]
       ·simp[h]
      | false=>
       rw[hq] at this;have h5 : ¬ (j=i∨listed.getD j true=true):=λh=>by have:=this.2 h;cases this
       cases hz:listed.getD j true with
       | true=>exact absurd (.inr hz) h5
       | false=>
        have:j≠i:=λh=>h5 (.inl h);simp[this]
     ·rw[Kg (by omega)] at hlj ⊢;rcases hlj with rfl | hlj
      ·rw[ho] at hj;simp at hj;subst hj;exact .inr (hb e he)
      ·exact .inr (hcl j o' hj hlj e he)
     ·rw[getD_set_ne true (by omega)];exact hlast j h3 h4
    obtain⟨k1,k2⟩:=step _ i o a w hiN h1 ho (λe he=>⟨hlt i h2 e (by rw[Ww,ho];exact he),hb e he⟩) hI _ K';unfold wpOp;have hoA:ops.toArray[i]? =some o:=by simpa using ho
    simp only[hoA]
    split
    ·rename_i hw';exact .inl (k1 hw')
    ·rename_i hw';exact k2 (by simpa using hw')
 have e0:∀j,j<ops.length→(Array.replicate ops.length false).getD j true=false:=λj hj=>by simp[hj]
 have hsz0:ops.toArray.size=ops.length:=by simp
 rw[hsz0];refine main ops.length (Array.replicate ops.length false) a _ (by simp) (by simp) (hext _ _ _ _ (λj hj=>(e0 j (by omega)).symm) h0) (λj o hj hl=>?_) (λj _ h2=>e0 j h2);rw[e0 j (List.getElem?_eq_some_iff.1 hj).1] at hl;cases hl
end
structure Sa where
 deps:List Nat
 r:Rp
 al:Option (List Rp×TypeId):=none
 late:Option (Nat×List Rp):=none
 sto:Option Nat:=none
def Eo (sp:List Sa)(i:Nat):Sa:=sp.getD i { deps:=[],r:=rv undef }
def R9 (sp:List Sa):List Sp:=sp.map λs=>⟨s.deps,s.r,0⟩
def Jk (β:Nat→Nat)(s:Sa)(i:Nat):Rp:=match s.al with
 | none=>s.r
 | some _=>rv (.pointer (some ⟨β i,0,none⟩))
def J1 (S:Nat→Bool)(late:Option (Nat×List Rp))(cs:List Rp):List Rp:=match late with
 | none=>cs
 | some q=>if S q.1 then q.2 else cs
def Ey (S:Nat→Bool)(β:Nat→Nat):List Sa→Nat→List Ent
 | [],_=>[]
 | s::r,t=>match s.al with
  | some p=>if S t then .blk (β t) (J1 S s.late p.1) p.2::Ey S β r (t+1) else Ey S β r (t+1)
  | none=>Ey S β r (t+1)
def QT (β:Nat→Nat):List Sa→Nat→List Ent
 | [],_=>[]
 | s::r,t=>match s.al with
  | some p=>.blk (β t) (match s.late with | none=>p.1 | some q=>q.2) p.2::QT β r (t+1)
  | none=>QT β r (t+1)
def JP (β:Nat→Nat):List Oper→List Sa→Nat→Fr→Fr
 | o::os,s::sp,i,l=>match o.dst with
  | some d=>(d,Jk β s i)::JP β os sp (i+1) l
  | none=>JP β os sp (i+1) l
 | _,_,_,l=>l
theorem Ii {S S':Nat→Bool}{late:Option (Nat×List Rp)}{cs:List Rp}(h:∀q,late=some q→S q.1=S' q.1):J1 S late cs=J1 S' late cs:=by
 unfold J1
 cases late with
 | none=>rfl
 | some q=>simp only[];rw[h q rfl]
theorem D6 (S:Nat→Bool)(β:Nat→Nat)(s:Sa)(r:List Sa)(t:Nat):Ey S β (s::r) t=match s.al with
  | some p=>if S t then .blk (β t) (J1 S s.late p.1) p.2::Ey S β r (t+1) else Ey S β r (t+1)
  | none=>Ey S β r (t+1):=rfl
theorem EH {S S':Nat→Bool}{β β':Nat→Nat}:∀(r:List Sa) (t0:Nat),(∀(t:Nat) (s:Sa),r[t]? =some s→s.al≠none→S (t0+t)=S' (t0+t)∧(S (t0+t)=true→β (t0+t)=β' (t0+t)∧∀q,s.late=some q→S q.1=S' q.1))→Ey S β r t0=Ey S' β' r t0
 | [],_,_=>rfl
 | s::r,t0,h=>by
  have ih:=EH r (t0+1) (λt s hs hn=>by
   have:=h (t+1) s (by simpa using hs) hn;rw[show t0+1+t=t0+(t+1) from by omega];exact this)
  unfold Ey;rw[ih]
  cases ha:s.al with
  | none=>rfl
  | some p=>
   obtain⟨h1,h2⟩:=h 0 s rfl (by rw[ha];exact nofun);simp only[Nat.add_zero] at h1 h2;simp only[];rw[← h1]
   split
   ·rename_i hS;rw[(h2 hS).1,Ii (h2 hS).2]
   ·rfl
theorem NZ (β:Nat→Nat):∀(r:List Sa) (t0:Nat),Ey (λ_=>true) β r t0=QT β r t0
 | [],_=>rfl
 | s::r,t0=>by
  unfold Ey QT;rw[NZ β r (t0+1)]
  cases s.al with
  | none=>rfl
  | some p=>cases hl:s.late<;>simp[J1,hl]
theorem LL (β:Nat→Nat):∀(r:List Sa) (t0:Nat),Ey (λ_=>false) β r t0=[]
 | [],_=>rfl
 | s::r,t0=>by
  unfold Ey;rw[LL β r (t0+1)]
  cases s.al<;>simp
theorem NY {S:Nat→Bool}{β:Nat→Nat}{i b:Nat}{p:List Rp×TypeId}:∀(r:List Sa) (t0 k:Nat) (s:Sa),i=t0+k→r[k]? =some s→s.al=some p→S i=false→(∀(t:Nat) (s:Sa) (q:Nat×List Rp),r[t]? =some s→s.al≠none→s.late=some q→q.1≠i)→(∀q,s.late=some q→S q.1=false∧q.1≠i)→
  (Ey (λj=>j ==i||S j) (λj=>if j=i then b else β j) r t0).Perm (.blk b p.1 p.2::Ey S β r t0)
 | [],_,_,_,_,h,_,_,_,_=>by simp at h
 | s'::r,t0,0,s,hi,h,ha,hS,hne,hl=>by
  simp at h hi;subst h;subst hi;have e:=EH (S:=λj=>j ==i||S j) (S':=S) (β:=λj=>if j=i then b else β j) (β':=β) r (i+1) (λt s hs hn=>by
   have:i+1+t≠i:=by omega
   refine⟨by simp[this],λ_=>⟨by simp[this],λq hq=>?_⟩⟩;have:=hne (t+1) s q (by simpa using hs) hn hq;simp[this])
  have ec:J1 (λj=>j ==i||S j) s'.late p.1=p.1:=by
   unfold J1
   cases hq:s'.late with
   | none=>rfl
   | some q=>
    obtain⟨h1,h2⟩:=hl q hq;simp[h1,h2]
  unfold Ey;rw[e,ha];simp only[hS,BEq.rfl,WO,Xo,ec];simp
 | s'::r,t0,k+1,s,hi,h,ha,hS,hne,hl=>by
  have ih:=NY (S:=S) (β:=β) (i:=i) (b:=b) (p:=p) r (t0+1) k s (by omega) (by simpa using h) ha hS (λt s q hs=>hne (t+1) s q (by simpa using hs)) hl;have hne0:t0≠i:=by omega
  have hne':(t0 ==i)=false:=by simpa using hne0
  unfold Ey
  cases ha':s'.al with
  | none=>exact ih
  | some q=>
   simp only[hne',W7,W6 hne0];rw[Ii (S:=λj=>j ==i||S j) (S':=S) (λq hq=>by
    have:=hne 0 s' q rfl (by rw[ha'];exact nofun) hq;simp[this])]
   cases hS':S t0 with
   | true=>simpa using(Wo _ ih).trans (List.Perm.swap _ _ _)
   | false=>simpa using ih
theorem NX {S:Nat→Bool}{β:Nat→Nat}{i j:Nat}{p:List Rp×TypeId}{ncs:List Rp}:∀(r:List Sa) (t0 k:Nat) (s:Sa),j=t0+k→r[k]? =some s→s.al=some p→s.late=some (i,ncs)→S j=true→S i=false→(∀(t:Nat) (s:Sa) (q:Nat×List Rp),r[t]? =some s→s.al≠none→s.late=some q→t0+t≠j→q.1≠i)→(∀(t:Nat) (s:Sa),r[t]? =some s→s.al≠none→t0+t≠i)→
  ∃H',(Ey S β r t0).Perm (.blk (β j) p.1 p.2::H')∧(Ey (λj=>j ==i||S j) β r t0).Perm (.blk (β j) ncs p.2::H')
 | [],_,_,_,_,h,_,_,_,_,_,_=>by simp at h
 | s'::r,t0,0,s,hj,h,ha,hl,hSj,hSi,hne,hni=>by
  simp at h hj;subst h;subst hj;have e:=EH (S:=λx=>x ==i||S x) (S':=S) (β:=β) (β':=β) r (j+1) (λt s hs hn=>by
   have h1:=hni (t+1) s (by simpa using hs) hn;have h1':j+1+t≠i:=by omega
   refine⟨by simp[h1'],λ_=>⟨rfl,λq hq=>?_⟩⟩;have:=hne (t+1) s q (by simpa using hs) hn hq (by omega);simp[this])
  refine⟨Ey S β r (j+1),?_,?_⟩
  ·rw[D6];rw[ha];simp[hSj,J1,hl,hSi]
  ·rw[D6];rw[ha,e];simp[hSj,J1,hl]
 | s'::r,t0,k+1,s,hj,h,ha,hl,hSj,hSi,hne,hni=>by
  obtain⟨H',h1,h2⟩:=NX (S:=S) (β:=β) (i:=i) (j:=j) (p:=p) (ncs:=ncs) r (t0+1) k s (by omega) (by simpa using h) ha hl hSj hSi (λt s q hs hn hq hx=>hne (t+1) s q (by simpa using hs) hn hq (by omega)) (λt s hs hn=>by
   have:=hni (t+1) s (by simpa using hs) hn;omega)
  cases ha':s'.al with
  | none=>exact⟨H',by rw[D6,ha'];exact h1,by rw[D6,ha'];exact h2⟩
  | some q=>
   have hi0:=hni 0 s' rfl (by rw[ha'];exact nofun);have hi0':(t0 ==i)=false:=by simpa using hi0
   have ec:J1 (λx=>x ==i||S x) s'.late q.1=J1 S s'.late q.1:=Ii (λq hq=>by
    have:=hne 0 s' q rfl (by rw[ha'];exact nofun) hq (by omega);simp[this])
   cases hS':S t0 with
   | true=>
    refine⟨.blk (β t0) (J1 S s'.late q.1) q.2::H',?_,?_⟩
    ·rw[D6];rw[ha'];simpa[hS'] using(Wo _ h1).trans (List.Perm.swap _ _ _)
    ·rw[D6];rw[ha'];simp only[hi0',W7,hS',Xo,ec];exact(Wo _ h2).trans (List.Perm.swap _ _ _)
   | false=>
    refine⟨H',?_,?_⟩
    ·rw[D6];rw[ha'];simpa[hS'] using h1
    ·rw[D6];rw[ha'];simp only[hi0',W7,hS'];simpa using h2
def VQ (n:Nat)(ops:List Oper)(N:Nat)(keys:List Nat)(deps:List (List Nat))(als:List Bool)(lates stos:List (Option Nat)):Bool:=
 MG ops N&&decide (N≤ops.length)&&
 (List.range N).all (λi=>match BR ops i with
  | some d=>decide (d<n)&&!keys.contains d&&(List.range N).all (λj=>j ==i||BR ops j !=some d)
  | none=>true)&&
 (List.range N).all (λi=>(deps.getD i []).all (λj=>decide (j<N)&&(D8 (ops.getD i default)).contains j&&!als.getD j true))&&
 (List.range N).all (λi=>match stos.getD i none with
  | some j=>decide (j<N)&&(D8 (ops.getD i default)).contains j&&als.getD j false&&!als.getD i true
  | none=>true)&&
 (List.range N).all (λj=>match lates.getD j none with
  | some k=>decide (k<N)&&als.getD j false&&stos.getD k none ==some j
  | none=>true)
def Vf (P:Program)(n:Nat)(c:Cx)(opsA:Array Oper)(Q:Exit→Act→World→Prop)(l:Fr)(o:Oper)(p:List Rp×TypeId):Prop:=
 ∀H a w Z (K:Act→World→Prop),Ch n l a Z→St c H Z w→(∀b w',St c (.blk b p.1 p.2::H) Z w'→K (a.put o.dst (.pointer (some ⟨b,0,none⟩))) w')→
  Region.wanted o (yielded opsA a.tmps)=true∧o.wp P a w K Q
def Vd (P:Program)(n:Nat)(c:Cx)(opsA:Array Oper)(Q:Exit→Act→World→Prop)(ops:List Oper)(sp:List Sa)(l0:Fr)(H:List Ent)(i:Nat)(o:Oper):Prop:=
 match (Eo sp i).sto with
 | some j=>o.dst=none∧∃d p ncs,BR ops j=some d∧(Eo sp j).al=some p∧(Eo sp j).late=some (i,ncs)∧
   ∀b H,Dd P n c opsA Q ((d,rv (.pointer (some ⟨b,0,none⟩)))::Bv ops (R9 sp) (Eo sp i).deps l0) (.blk b p.1 p.2::H) o (rv undef) (.blk b ncs p.2::H)
 | none=>match (Eo sp i).al with
  | none=>∀E,Dd P n c opsA Q (Bv ops (R9 sp) (Eo sp i).deps l0) (H++E) o (Eo sp i).r (H++E)
  | some p=>Vf P n c opsA Q (Bv ops (R9 sp) (Eo sp i).deps l0) o p
def Il (P:Program)(n:Nat)(c:Cx)(opsA:Array Oper)(Q:Exit→Act→World→Prop)(ops:List Oper)(sp:List Sa)(l0:Fr)(H:List Ent):Nat→List Oper→Prop
 | i,o::rest=>Vd P n c opsA Q ops sp l0 H i o∧Il P n c opsA Q ops sp l0 H (i+1) rest
 | _,[]=>True
section
variable {P : Program} {n : Nat} {c : Cx} {opsA : Array Oper} {Q : Exit → Act → World → Prop} {l l0 : Fr} {H : List Ent} {sp : List Sa}
theorem Il.at {ops:List Oper}:∀{k:Nat} {rest:List Oper},Il P n c opsA Q ops sp l0 H k rest→∀(t:Nat) o,rest[t]? =some o→Vd P n c opsA Q ops sp l0 H (k+t) o
 | k,o::rest,⟨h1,h2⟩,t,o',ht=>by
  cases t with
  | zero=>simp at ht;subst ht;exact h1
  | succ t=>
   have:=Il.at h2 t o' (by simpa using ht);rw[show k+(t+1)=k+1+t from by omega];exact this
 | _,[],_,t,o,h=>by simp at h
theorem MM {β:Nat→Nat}{a:Act}{Z:Fz}(h0:Ch n l0 a Z):∀(os:List Oper) (ss:List Sa) (k:Nat),(∀(t:Nat) o s d,os[t]? =some o→ss[t]? =some s→o.dst=some d→∃v,a.tmps[d]? =some v∧(Jk β s (k+t)).p Z v)→Ch n (JP β os ss k l0) a Z
 | [],_,_,_=>by unfold JP;exact h0
 | _::_,[],_,_=>by unfold JP;exact h0
 | o::os,s::ss,k,h=>by
  have ih:=MM h0 os ss (k+1) (λt o' s' d h1 h2 h3=>by
   have:=h (t+1) o' s' d (by simpa using h1) (by simpa using h2) h3;rw[show k+1+t=k+(t+1) from by omega];exact this)
  unfold JP
  cases hd:o.dst with
  | none=>exact ih
  | some d=>
   refine⟨ih.size,ih.defers,λi r hi=>?_⟩;rw[BD] at hi
   split at hi
   ·rename_i e;subst e;simp at hi;subst hi;exact h 0 o s d rfl rfl hd
   ·exact ih.tm i r hi
theorem Us {id:Nat}{ops:List Oper}(N:Nat)(sp:List Sa)(hm:P.follows .mixedOrders=true)(hB:VQ n ops N (DF l0) (sp.map (·.deps)) (sp.map (·.al.isSome)) (sp.map (·.late.map (·.1))) (sp.map (·.sto))=true)(hl0:Rc l0 l)(hsp:sp.length=N)
  (hob:Il P n c ops.toArray Q ops sp l0 H 0 (ops.take N)) (h:∀β,WL P n c ops.toArray Q (ops.drop N) (JP β (ops.take N) sp 0 l0) (H++QT β sp 0)):WC P n c (.region id ops.toArray true) Q l H:=by
 intro a w Z ha hw;simp only[VQ,Wu,WM,List.mem_range,Wp] at hB;obtain⟨⟨⟨⟨⟨b1,bN⟩,b2⟩,b3⟩,b4⟩,b5⟩:=hB;have hget:∀i,i<N→(ops.take N)[i]? =ops[i]?:=λi hi=>by rw[Xc,W8 hi]
 have hsa:∀i,i<N→sp[i]? =some (Eo sp i):=λi hi=>by
  simp[Eo,Ww,Wv (show i<sp.length by omega)]
 have hspq:∀i,i<N→(CE (R9 sp) i)=⟨(Eo sp i).deps,(Eo sp i).r,0⟩:=λi hi=>by
  simp[CE,R9,Ww,Xb,hsa i hi]
 have hals:∀j b,j<N→(sp.map (·.al.isSome)).getD j b=(Eo sp j).al.isSome:=λj b hj=>by simp[Ww,Xb,hsa j hj]
 have hstos:∀j,j<N→(sp.map (·.sto)).getD j none=(Eo sp j).sto:=λj hj=>by simp[Ww,Xb,hsa j hj]
 have hlates:∀j,j<N→(sp.map (·.late.map (·.1))).getD j none=(Eo sp j).late.map (·.1):=λj hj=>by simp[Ww,Xb,hsa j hj]
 have S1:∀i o j,i<N→ops[i]? =some o→(Eo sp i).sto=some j→j<N∧j∈D8 o∧(Eo sp j).al≠none∧(Eo sp i).al=none:=λi o j hi ho hs=>by
  have h1:=b4 i hi;rw[hstos i hi,hs] at h1;simp only[Wu,W5,Wp] at h1;obtain⟨⟨⟨h2,h3⟩,h4⟩,h5⟩:=h1;rw[hals j _ h2] at h4;rw[hals i _ hi] at h5;rw[Ww,ho,WI,List.contains_iff_mem] at h3;exact⟨h2,h3,λe=>(by rw[e] at h4;cases h4),(by simpa using h5)⟩
 have L1:∀t q,t<N→(Eo sp t).late=some q→q.1<N∧(Eo sp q.1).sto=some t:=λt q ht hq=>by
  have h1:=b5 t ht;rw[hlates t ht,hq] at h1;simp only[Option.map_some,Wu,Wp,beq_iff_eq] at h1;obtain⟨⟨h2,h3⟩,h4⟩:=h1;rw[hstos _ h2] at h4;exact⟨h2,h4⟩
 have hops:∀j,j<N→∃o,ops[j]? =some o:=λj hj=>⟨ops[j]'(by omega),Wv (by omega)⟩
 have lt_of:∀(t:Nat) (s:Sa),sp[t]? =some s→t<N∧s=Eo sp t:=λt s hs=>by
  have h1:t<N:=by have:=(List.getElem?_eq_some_iff.1 hs).1;omega
  refine⟨h1,?_⟩;rw[hsa t h1] at hs;simpa using hs.symm
 have hdst:∀i o d,i<N→ops[i]? =some o→o.dst=some d→(d<n∧d ∉ DF l0)∧∀j,j<N→j≠i→BR ops j≠some d:=λi o d hi ho hd=>by
  have h3:=b2 i hi;have:BR ops i=some d:=by simp[BR,ho,hd]
  rw[this] at h3;simp only[Wu,W5,WM,List.mem_range,Wp] at h3;refine⟨⟨h3.1.1,λhmem=>by rw[← List.contains_iff_mem] at hmem;rw[hmem] at h3;cases h3.1.2⟩,λj hj hne he=>?_⟩;have:=h3.2 j hj;simp[hne,he] at this
 refine Rs (N:=N) hm b1 bN (λS a w=>∃ (β:Nat→Nat) (Z:Fz),St c (H++Ey S β sp 0) Z w∧Ch n l0 a Z∧(∀j o d,j<N→S j=true→ops[j]? =some o→o.dst=some d→∃v,a.tmps[d]? =some v∧(Jk β (Eo sp j) j).p Z v)∧
   ∀k j,k<N→(Eo sp k).sto=some j→S k=true→S j=true)
  (λS S' a w hS hI=>?_) ⟨λ_=>0,Z,?_,ha.subL hl0,λj o d _ hS=>(by cases hS),λk j _ _ hS=>(by cases hS)⟩ (λS i o a w hi hun ho hb hI K hK=>?_) (λa w hI=>?_)
 ·obtain⟨β,Z,h1,h2,h3,h4⟩:=hI;refine⟨β,Z,?_,h2,λj o d hj hS'=>h3 j o d hj (by rw[hS j hj];exact hS'),λk j hk hs hSk=>?_⟩
  ·rw[← EH (S:=S) (β:=β) (β':=β) sp 0 (λt s hs _=>by
    obtain⟨ht,rfl⟩:=lt_of t s hs;exact⟨hS _ (by omega),λ_=>⟨rfl,λq hq=>hS _ (L1 t q ht hq).1⟩⟩)]
   exact h1
  ·obtain⟨o,ho⟩:=hops k hk;rw[← hS j (S1 k o j hk ho hs).1];exact h4 k j hk hs (by rw[hS k hk];exact hSk)
 ·rw[LL,Xj];exact hw.drawn _
 ·obtain⟨β,Z,h1,h2,h3,hx⟩:=hI;have hput:∀k u v,a.tmps[k]? =some u→o.dst≠some k→(a.put o.dst v).tmps[k]? =some u:=λk u v hk hne=>by
   cases hd:o.dst with
   | none=>simpa[Act.put] using hk
   | some d=>
    simp only[Act.put,Array.getElem?_setIfInBounds];rw[W6 (λe=>hne (by rw[hd,e]))];exact hk
  have hagr:∀v Z',Fz.le Z Z'→Ch n l0 (a.put o.dst v) Z':=λv Z' hz=>by
   refine⟨?_,?_,λk r hk=>?_⟩
   ·cases o.dst<;>simp[Act.put,h2.size]
   ·cases o.dst<;>simp[Act.put,h2.defers]
   ·obtain⟨u,hu,hpu⟩:=h2.tm k r hk;exact⟨u,hput k u v hu (λe=>((hdst i o k hi ho e).1).2 (IN hk)),r.mono hz hpu⟩
  have hvals:∀(v:Value) (Z':Fz) (β':Nat→Nat),Fz.le Z Z'→(∀j,j≠i→β' j=β j)→(o.dst≠none→(Jk β' (Eo sp i) i).p Z' v)→∀j o' d,j<N→(j ==i||S j)=true→ops[j]? =some o'→o'.dst=some d→∃u,(a.put o.dst v).tmps[d]? =some u∧(Jk β' (Eo sp j) j).p Z' u:=by
   intro v Z' β' hz hβ hp j o' d hj hS' ho' hd
   by_cases hji:j=i
   ·subst hji;rw[ho] at ho';simp at ho';subst ho';refine⟨v,?_,hp (by simp[hd])⟩;have hdn:d<a.tmps.size:=by rw[h2.size];exact(hdst j o d hi ho hd).1.1
    simp[Act.put,hd,hdn]
   ·have hSj:S j=true:=by simpa[hji] using hS'
    obtain⟨u,hu,hpu⟩:=h3 j o' d hj hSj ho' hd;refine⟨u,hput d u v hu (λe=>(hdst i o d hi ho e).2 j hj hji (by simp[BR,ho',hd])),?_⟩;have:Jk β' (Eo sp j) j=Jk β (Eo sp j) j:=by unfold Jk;rw[hβ j hji]
    rw[this];exact(Jk β (Eo sp j) j).mono hz hpu
  have hx':∀k j,k<N→(Eo sp k).sto=some j→(k ==i||S k)=true→(j ==i||S j)=true:=λk j hk hs hSk=>by
   by_cases hki:k=i
   ·subst hki;have:=(hb j (S1 k o j hk ho hs).2.1).2;simp[this]
   ·have:S j=true:=hx k j hk hs (by simpa[hki] using hSk);simp[this]
  have hat:=hob.at i o (by rw[hget i hi];exact ho);rw[WW] at hat;unfold Vd at hat;have hag':Ch n (Bv ops (R9 sp) (Eo sp i).deps l0) a Z:=Ja h2 (λj hj d hd=>by
    have h4:=b3 i hi j (by simpa[Ww,Xb,hsa i hi] using hj);simp only[Wu,W5,Wp] at h4;obtain⟨⟨h5,h6⟩,h7⟩:=h4;rw[Ww,ho,WI,List.contains_iff_mem] at h6;have hjal:(Eo sp j).al=none:=by
     rw[hals j _ h5] at h7;simpa using h7
    obtain⟨o2,ho2⟩:=hops j h5;obtain⟨v,hv1,hv2⟩:=h3 j o2 d h5 (hb j h6).2 ho2 (by simpa[BR,ho2] using hd);refine⟨v,hv1,?_⟩;rw[hspq j h5];simpa[Jk,hjal] using hv2)
  cases hst:(Eo sp i).sto with
  | some j=>
   rw[hst] at hat;obtain⟨hod,d,p,ncs,hd,hal,hlate,hok⟩:=hat;obtain⟨hjN,hjb,_,hial⟩:=S1 i o j hi ho hst;have hSj:=(hb j hjb).2;obtain⟨H',p1,p2⟩:=NX (S:=S) (β:=β) (i:=i) (j:=j) (p:=p) (ncs:=ncs) sp 0 j (Eo sp j) (by omega) (hsa j hjN) hal hlate hSj hun (λt s q hs _ hq hne he=>by
     obtain⟨ht,rfl⟩:=lt_of t s hs;have:=(L1 t q ht hq).2;rw[he,hst] at this;simp at this;omega) (λt s hs hn he=>by
     obtain⟨ht,rfl⟩:=lt_of t s hs;rw[WW] at he;subst he;exact hn hial)
   obtain⟨o2,ho2⟩:=hops j hjN;obtain⟨v,hv1,hv2⟩:=h3 j o2 d hjN hSj ho2 (by simpa[BR,ho2] using hd);have hag2:Ch n ((d,rv (.pointer (some ⟨β j,0,none⟩)))::Bv ops (R9 sp) (Eo sp i).deps l0) a Z:=⟨hag'.size,hag'.defers,λk r hk=>by
    rw[BD] at hk
    split at hk
    ·rename_i e;subst e;simp at hk;subst hk
     exact⟨v,hv1,by simpa[Jk,hal] using hv2⟩
    ·exact hag'.tm k r hk⟩
   refine hok (β j) (H++H') a w Z K hag2 (h1.perm ((List.Perm.append_left H p1).trans List.perm_middle)) (λv w' Z' hz _ hs'=>hK _ _ ⟨β,Z',?_,hagr v Z' hz,hvals v Z' β hz (λ_ _=>rfl) (λhne=>absurd hod hne),hx'⟩);exact hs'.perm (List.perm_middle.symm.trans (List.Perm.append_left H p2.symm))
  | none=>
   rw[hst] at hat;have latene:∀t q,t<N→(Eo sp t).late=some q→q.1≠i:=λt q ht hq he=>by
    have:=(L1 t q ht hq).2;rw[he,hst] at this;cases this
   cases hal:(Eo sp i).al with
   | none=>
    rw[hal] at hat;refine hat _ a w Z K hag' h1 (λv w' Z' hz hp hst'=>hK _ _ ⟨β,Z',?_,hagr v Z' hz,hvals v Z' β hz (λ_ _=>rfl) (λ_=>by unfold Jk;rw[hal];exact hp),hx'⟩);rw[EH (S':=S) (β':=β) sp 0 (λt s hs hn=>by
     obtain⟨ht,rfl⟩:=lt_of t s hs;have:t≠i:=λe=>by subst e;exact hn hal
     refine⟨by simp[this],λ_=>⟨rfl,λq hq=>?_⟩⟩;have:=latene t q ht hq;simp[this])]
    exact hst'
   | some p=>
    rw[hal] at hat;have key:=λK' hK'=>hat (H++Ey S β sp 0) a w Z K' hag' h1 hK';have h5:∀b w',St c (.blk b p.1 p.2::(H++Ey S β sp 0)) Z w'→K (a.put o.dst (.pointer (some ⟨b,0,none⟩))) w':=λb w' hst'=>by
     refine hK _ _ ⟨λj=>if j=i then b else β j,Z,?_,hagr _ Z (Fz.le.refl _),hvals _ Z _ (Fz.le.refl _) (λj hj=>by simp[hj]) (λ_=>by simp[Jk,hal,rv]),hx'⟩;have hp:=NY (S:=S) (β:=β) (i:=i) (b:=b) (p:=p) sp 0 i (Eo sp i) (by omega) (hsa i hi) hal hun (λt s q hs _ hq=>by
      obtain⟨ht,rfl⟩:=lt_of t s hs;exact latene t q ht hq) (λq hq=>by
       refine⟨?_,latene i q hi hq⟩
       cases hS:S q.1 with
       | false=>rfl
       | true=>
        obtain⟨h6,h7⟩:=L1 i q hi hq;have:=hx q.1 i h6 h7 hS;rw[this] at hun;cases hun)
     exact hst'.perm ((List.perm_middle.symm).trans (List.Perm.append_left H hp.symm))
    refine⟨λ_=>(key K h5).2,λhw'=>?_⟩;rw[(key K h5).1] at hw';cases hw'
 ·obtain⟨β,Z,h1,h2,h3,_⟩:=hI;refine h β a w Z (MM h2 _ _ 0 (λt o s d ht hs hd=>?_)) (by rw[← NZ];exact h1);obtain⟨htN,rfl⟩:=lt_of t s hs;rw[WW];exact h3 t o d htN rfl (by rw[← hget t htN];exact ht) hd
end
theorem Va {l:Fr}{P:Program}{n:Nat}{c:Cx}{opsA:Array Oper}{Q:Exit→Act→World→Prop}{d:Nat}{e:TypeId}{x:Operand}{ty:TypeId}{pos:String}{af:Array Edge}{cs:List Rp}(hx:ev l x=some (B2 cs)) :
  Vf P n c opsA Q l { dst:=some d,op:=.box e x,type:=ty,pos:=pos,after:=af,guard:=none } (cs,e):=λH a w Z K ha hw hK=>by
 refine⟨by simp[Region.wanted],?_⟩;obtain⟨us,e1,hu⟩:=ha.ev hx;unfold Oper.wp;rw[show(execOp a.eval { dst:=some d,op:=.box e x,type:=ty,pos:=pos,after:=af,guard:=none }).run P w = .ok (.value (.pointer (some ⟨w.heap.size,0,none⟩))) (w.alloc (.cells us.toArray e)) from by simp[execOp,e1,Instr.box,newVar,newRow,newObj,Sem.run,Value.cells]];exact hK _ _ (hw.alloc _ (e:=.blk w.heap.size cs e) ⟨us,by simpa using heap_alloc_new w _,hu⟩ rfl)
section
variable {P : Program} {n : Nat} {c : Cx} {opsA : Array Oper} {Q : Exit → Act → World → Prop} {l l0 : Fr} {H : List Ent} {sp : List Sa}
theorem Pc {id:Nat}{ops:List Oper}(N:Nat)(ks0:List Nat)(sp:List Sa)(hob:Il P n c ops.toArray Q ops sp l0 H 0 (ops.take N))(h:∀β,WL P n c ops.toArray Q (ops.drop N) (JP β (ops.take N) sp 0 l0) (H++QT β sp 0))
  (h0:Kp ks0 l l0:=by repeat (first | exact Lw | (apply Jw;rfl) | (apply JX;rfl))) (hm:P.follows .mixedOrders=true:=by kernel_rfl) (hB:VQ n ops N (DF l0) (sp.map (·.deps)) (sp.map (·.al.isSome)) (sp.map (·.late.map (·.1))) (sp.map (·.sto))=true:=by kernel_rfl)
  (hsp:sp.length=N:=by rfl):WC P n c (.region id ops.toArray true) Q l H:=Us N sp hm hB h0.one hsp hob h
theorem MQ {all rest:List Oper}{d:Nat}{op:Op}{ty:TypeId}{pos:String}{af:Array Edge}{i:Nat}
  (hr:∀{H},Bl P n c (Bv all (R9 sp) (Eo sp i).deps l0) H { dst:=some d,op:=op,type:=ty,pos:=pos,after:=af,guard:=none } (Eo sp i).r) (h:Il P n c opsA Q all sp l0 H (i+1) rest) (ha:(Eo sp i).al=none:=by rfl) (hs:(Eo sp i).sto=none:=by rfl) :
  Il P n c opsA Q all sp l0 H i ({ dst:=some d,op:=op,type:=ty,pos:=pos,after:=af,guard:=none }::rest):=by
 refine⟨?_,h⟩;unfold Vd;rw[hs,ha];exact λ_=>HB hr
theorem Vh {all rest:List Oper}{d:Nat}{op:Op}{ty:TypeId}{pos:String}{af:Array Edge}{i:Nat}
  (hr:∀{E},Bl P n c (Bv all (R9 sp) (Eo sp i).deps l0) (H++E) { dst:=some d,op:=op,type:=ty,pos:=pos,after:=af,guard:=none } (Eo sp i).r) (h:Il P n c opsA Q all sp l0 H (i+1) rest) (ha:(Eo sp i).al=none:=by rfl) (hs:(Eo sp i).sto=none:=by rfl) :
  Il P n c opsA Q all sp l0 H i ({ dst:=some d,op:=op,type:=ty,pos:=pos,after:=af,guard:=none }::rest):=by
 refine⟨?_,h⟩;unfold Vd;rw[hs,ha];exact λ_=>HB hr
theorem Wk {all rest:List Oper}{o:Oper}{p:List Rp×TypeId}{i:Nat}(hr:Vf P n c opsA Q (Bv all (R9 sp) (Eo sp i).deps l0) o p)(h:Il P n c opsA Q all sp l0 H (i+1) rest)(ha:(Eo sp i).al=some p:=by rfl)(hs:(Eo sp i).sto=none:=by rfl):Il P n c opsA Q all sp l0 H i (o::rest):=by
 refine⟨?_,h⟩;unfold Vd;rw[hs,ha];exact hr
theorem We {all:List Oper}{i:Nat}:Il P n c opsA Q all sp l0 H i []:=trivial
end
structure SU (ks:List Nat) (β:Nat→Nat) (os:List Oper) (sp:List Sa) (i:Nat) (l0 l1:Fr):Prop where
 go:Kp ks (JP β os sp i l0) l1
section
variable {ks : List Nat} {β : Nat → Nat} {os : List Oper} {sp : List Sa} {i d : Nat} {l0 l1 : Fr} {ds : List Nat} {r : Rp} {p : List Rp × TypeId} {lt : Option (Nat × List Rp)} {so : Option Nat} {op : Op} {ty : TypeId} {pos : String} {af : Array Edge} {g : Option (Nat × Bool)}
theorem Vy (h:ks.contains d=true)(t:SU ks β os sp (i+1) l0 l1):SU ks β ({ dst:=some d,op:=op,type:=ty,pos:=pos,after:=af,guard:=g }::os) ({ deps:=ds,r:=r,sto:=so }::sp) i l0 ((d,r)::l1):=⟨Jw h t.go⟩
theorem V1 (h:ks.contains d=true)(t:SU ks β os sp (i+1) l0 l1):SU ks β ({ dst:=some d,op:=op,type:=ty,pos:=pos,after:=af,guard:=g }::os) ({ deps:=ds,r:=r,al:=some p,late:=lt,sto:=so }::sp) i l0 ((d,rv (.pointer (some ⟨β i,0,none⟩)))::l1):=⟨Jw h t.go⟩
theorem V0 {s:Sa}(h:ks.contains d=false)(t:SU ks β os sp (i+1) l0 l1):SU ks β ({ dst:=some d,op:=op,type:=ty,pos:=pos,after:=af,guard:=g }::os) (s::sp) i l0 l1:=⟨JX h t.go⟩
theorem Vz {s:Sa}(t:SU ks β os sp (i+1) l0 l1):SU ks β ({ dst:=none,op:=op,type:=ty,pos:=pos,after:=af,guard:=g }::os) (s::sp) i l0 l1:=⟨t.go⟩
theorem V2 (t:Kp ks l0 l1):SU ks β [] [] i l0 l1:=⟨t⟩
theorem Or {P:Program}{n:Nat}{c:Cx}{opsA:Array Oper}{Q:Exit→Act→World→Prop}{rest:List Oper}{H H1:List Ent}(ks:List Nat)(h:WL P n c opsA Q rest l1 H1)
  (hz:SU ks β os sp i l0 l1:=by repeat (first | (apply Vy;rfl) | (apply V1;rfl) | (apply V0;rfl) | apply Vz | apply V2 | exact Lw | (apply Jw;rfl) | (apply JX;rfl))) (hH:H=H1:=by rfl) :
  WL P n c opsA Q rest (JP β os sp i l0) H:=λa w Z ha hw=>h a w Z (ha.subL hz.go.one) (hH▸hw)
end
section
variable {P : Program} {n : Nat} {c : Cx} {opsA : Array Oper} {Q : Exit → Act → World → Prop} {l l0 : Fr} {H : List Ent} {sp : List Sa}
theorem VR {all rest:List Oper}{o:Oper}{i:Nat}(hr:∀{E},Dd P n c opsA Q (Bv all (R9 sp) (Eo sp i).deps l0) (H++E) o (Eo sp i).r (H++E))(h:Il P n c opsA Q all sp l0 H (i+1) rest)(ha:(Eo sp i).al=none:=by rfl)(hs:(Eo sp i).sto=none:=by rfl):Il P n c opsA Q all sp l0 H i (o::rest):=by
 refine⟨?_,h⟩;unfold Vd;rw[hs,ha];exact λ_=>hr
end
def Wd (p:Bool→Prop):Rp:=⟨λ_ v=>∃b,v = .bool b∧p b,λ_ h=>h,true,λ_ Z v ⟨b,e,_⟩=>by rw[e];rfl⟩
section
variable {P : Program} {n : Nat} {c : Cx} {ops : Array Oper} {Q : Exit → Act → World → Prop} {rest : List Oper} {l : Fr} {H : List Ent} {d : Option Nat} {ty rty t e : TypeId} {pos : String} {af : Array Edge} {g : Option (Nat × Bool)} {r : Rp} {x : Operand} {cx cy : Code} {sz : Nat} {xs : List (List Rp)}
theorem Rw {o:Operand}{p:Bool→Prop}(ho:ev l o=some (Wd p))(h1:p true→WC P n c cx Q l H)(h2:p false→WC P n c cy Q l H):WC P n c (.cond o cx cy) Q l H:=λa w Z ha hw=>by
 obtain⟨b,e,hp⟩:=ha.ev ho;exact wp_cond_split e (λe=>h1 (e▸hp) a w Z ha hw) (λe=>h2 (e▸hp) a w Z ha hw)
theorem Q9 (ht:P.underlying t=some (.slice e))(h:ev l x=some (BE sz xs)):Bl P n c l H { dst:=d,op:=.binOp .eql t x (.const (.slice none 0 0)) rty,type:=ty,pos:=pos,after:=af,guard:=g } (Wd (λb=>b=true→xs=[])):=λa w Z ha hw=>by
 obtain⟨A,cap,e1,h1,h2,h3,h4⟩:=ha.ev h;refine⟨.bool A.isNone,⟨_,rfl,λhb=>?_⟩,?_⟩
 ·cases A with
  | some a=>cases hb
  | none=>
   have:=h3 rfl;exact List.length_eq_zero_iff.1 (by omega)
 ·have:=run_equal_slice_nil (P:=P) w t e A xs.length cap ht;have e2:a.eval (.const (.slice none 0 0)) = .slice none 0 0:=rfl;simp[execOp,e1,e2,binOp,this,eqGuard]
end
section
variable {P : Program} {n : Nat} {c : Cx} {l : Fr} {H : List Ent} {d : Option Nat} {ty rty t e : TypeId} {pos : String} {af : Array Edge} {g : Option (Nat × Bool)} {x : Operand} {sz : Nat}
end
theorem D5 (s:ByteArray):MapKept.IsKey .string (.string s):=by simp[MapKept.IsKey]
theorem HQ.keys {Z:Fz}:∀{f:List (List UInt8×Rp)} {es:List MapEntry},HQ Z f es→∀x∈es,MapKept.IsKey .string x.key
 | [],[],_,x,hx=>by cases hx
 | p::f,e::es,⟨⟨h1,h2⟩,h3⟩,x,hx=>by
  rcases List.mem_cons.1 hx with rfl | hx
  ·rw[h1];exact D5 _
  ·exact HQ.keys h3 x hx
theorem HQ.at {Z:Fz}:∀{f:List (List UInt8×Rp)} {es:List MapEntry},HQ Z f es→f.length=es.length∧∀(j:Nat) (e:MapEntry),es[j]? =some e→∃k r,f[j]? =some (k,r)∧e.key = .string (B k)∧r.p Z e.val
 | [],[],_=>⟨rfl,λj e h=>by simp at h⟩
 | p::f,e::es,⟨⟨h1,h2⟩,h3⟩=>by
  obtain⟨hl,ha⟩:=HQ.at h3;refine⟨by simp[hl],λj e' hj=>?_⟩
  cases j with
  | zero=>simp at hj;subst hj;exact⟨p.1,p.2,rfl,h1,h2⟩
  | succ j=>simp at hj;simpa using ha j e' hj
theorem HQ.of {Z:Fz}:∀{f:List (List UInt8×Rp)} {es:List MapEntry},f.length=es.length→(∀(j:Nat) (e:MapEntry),es[j]? =some e→∃k r,f[j]? =some (k,r)∧e.key = .string (B k)∧r.p Z e.val)→HQ Z f es
 | [],[],_,_=>trivial
 | p::f,e::es,hl,h=>by
  obtain⟨k,r,h1,h2,h3⟩:=h 0 e rfl;simp at h1;subst h1;exact⟨⟨h2,h3⟩,HQ.of (by simpa using hl) λj e' hj=>by simpa using h (j+1) e' (by simpa using hj)⟩
 | [],_::_,hl,_=>by simp at hl
 | _::_,[],hl,_=>by simp at hl
theorem HQ.snoc {Z:Fz}{k:List UInt8}{r:Rp}{e:MapEntry}(h1:e.key = .string (B k))(h2:r.p Z e.val):∀{f:List (List UInt8×Rp)} {es:List MapEntry},HQ Z f es→HQ Z (f++[(k,r)]) (es++[e])
 | [],[],_=>⟨⟨h1,h2⟩,trivial⟩
 | p::f,e'::es,⟨h,h3⟩=>⟨h,HQ.snoc h1 h2 h3⟩
theorem HQ.filter {Z:Fz}(q:MapEntry→Bool):∀{f:List (List UInt8×Rp)} {es:List MapEntry},HQ Z f es→∃g,HQ Z g (es.filter q)∧g.Sublist f
 | [],[],_=>⟨[],trivial,List.Sublist.refl _⟩
 | p::f,e::es,⟨h,h3⟩=>by
  obtain⟨g,hg,hs⟩:=HQ.filter q h3
  cases hq:q e with
  | true=>exact⟨p::g,by rw[List.filter_cons_of_pos hq];exact⟨h,hg⟩,hs.cons_cons p⟩
  | false=>exact⟨g,by rw[List.filter_cons_of_neg (by simp[hq])];exact hg,hs.cons p⟩
theorem Hc {T:Type}:∀{m:List (Ay×T)} {k:Ay} {r:T},(m.map (·.1)).Nodup→(k,r)∈m→mget m k=some r
 | p::m,k,r,hn,h=>by
  rw[WY,List.nodup_cons] at hn;rw[mget];rcases List.mem_cons.1 h with h | h
  ·subst h;rw[Ws rfl];rfl
  ·have hne : ¬ p.1=k:=λe=>hn.1 (by rw[e];exact List.mem_map.2 ⟨(k,r),h,rfl⟩);rw[Wt hne];exact Hc hn.2 h
theorem LC {T:Type}:∀{m:List (Ay×T)} {k:Ay},(∀p∈m,p.1≠k)→mget m k=none
 | [],_,_=>rfl
 | p::m,k,h=>by
  rw[mget,Wt (h p (by simp))];exact LC λq hq=>h q (by simp[hq])
theorem VB {a b:List UInt8}(h:B a=B b):a=b:=by
 have:=congrArg ByteArray.toList h
 rwa [En,En] at this
theorem KB {a b:List UInt8}(h:Value.string (B a) = .string (B b)):a=b:=VB (by cases h;rfl)
theorem MA {Z:Fz}{m:List (List UInt8×Rp)}{es:List MapEntry}{ck:Nat}(h:DN Z m es ck)(k:List UInt8) :
  (Instr.findNow .string (.string (B k)) es 0=some none∧mget m k=none∧∀p∈m,p.1≠k)∨∃j e r,Instr.findNow .string (.string (B k)) es 0=some (some (j,e.val))∧es[j]? =some e∧e.key = .string (B k)∧mget m k=some r∧r.p Z e.val:=by
 obtain⟨h1,h2,h3,f,h4,h5⟩:=h;obtain⟨hl,ha⟩:=h5.at;rcases MapKept.findNow_spec (D5 (B k)) es 0 h5.keys with⟨q1,q2⟩ | ⟨j,e,q1,q2,q3⟩
 ·have hne:∀p∈m,p.1≠k:=λp hp e=>by
   obtain⟨j,hj⟩:=List.mem_iff_getElem?.1 (h4.symm.subset hp);have hjl:j<es.length:=by rw[← hl];exact(List.getElem?_eq_some_iff.1 hj).1
   obtain⟨k',r',e1,e2,_⟩:=ha j es[j] (Wv hjl);rw[hj] at e1;cases e1;exact q2 es[j] (List.getElem_mem hjl) (by rw[e2,← e])
  exact .inl ⟨q1,LC hne,hne⟩
 ·obtain⟨k',r,e1,e2,e3⟩:=ha j e q2;rw[q3] at e2;obtain rfl:=KB e2;exact .inr ⟨j,e,r,by simpa using q1,q2,q3,Hc h1 (h4.subset (Wy e1)),e3⟩
section
variable {P : Program} {n : Nat} {c : Cx} {ops : Array Oper} {Q : Exit → Act → World → Prop} {rest : List Oper} {l : Fr} {H : List Ent} {d : Nat} {d' : Option Nat} {ty t kt et rty : TypeId} {pos : String} {af : Array Edge} {g : Option (Nat × Bool)} {x y u : Operand} {K : Act → World → Prop} {cx : Code}
variable {T : Type} {enc : T → Rp} {xs : List (Ay × T)} {z : T} {k : Ay} {zv : Value} {i b : Nat}
theorem Ls {Z:Fz}{w:World}{m:List (List UInt8×Rp)}{rz:Rp}(ht:P.underlying t=some (.map kt et))(hk:P.underlying kt=some .string)(hz:∀w,(zeroValue et).run P w = .ok zv w)(hzr:rz.p Z zv)(hm:(Ent.map b m).holds Z w)(ok:Bool) :
  ∃v,((mget m k).getD rz).p Z v∧(Instr.lookup t (.map (some b)) (.string (B k)) ok).run P w = .ok (if ok then .tuple #[v,.bool (mget m k).isSome] else v) w:=by
 obtain⟨es,ck,h1,h2⟩:=hm;rcases MA h2 k with⟨q1,q2,_⟩ | ⟨j,e,r,q1,_,_,q2,q3⟩
 ·exact⟨zv,by rw[q2];exact hzr,by simp[Instr.lookup,run_underlying ht,MapKept.run_getObj_map h1,MapKept.run_checkKey hk (D5 _),MapKept.run_findKey hk q1,hz,q2]⟩
 ·exact⟨e.val,by rw[q2];exact q3,by simp[Instr.lookup,run_underlying ht,MapKept.run_getObj_map h1,MapKept.run_checkKey hk (D5 _),MapKept.run_findKey hk q1,q2]⟩
theorem S0 (enc:T→Rp)(xs:List (Ay×T))(k:Ay)(z:T):(mget (AB enc xs) k).getD (enc z)=enc (Cr xs k z):=by
 rw[IL];unfold Cr;cases mget xs k<;>rfl
theorem OO (enc:T→Rp)(xs:List (Ay×T))(k:Ay):(mget (AB enc xs) k).isSome=Cp xs k:=by
 rw[IL];unfold Cp;cases mget xs k<;>rfl
theorem P0 (ht:P.underlying t=some (.map kt et))(hk:P.underlying kt=some .string)(hz:∀w,(zeroValue et).run P w = .ok zv w)(hzr:∀Z,(enc z).p Z zv)(hx:ev l x=some (rv (.map (some b))))(hi:H[i]? =some (.map b (AB enc xs)))(hy:ev l y=some (rS k)) :
  Bl P n c l H { dst:=d',op:=.lookup t x y true,type:=ty,pos:=pos,after:=af,guard:=g } (DK [enc (Cr xs k z),rB (Cp xs k)]):=λa w Z ha hw=>by
 obtain⟨v,h1,h2⟩:=Ls (k:=k) ht hk hz (hzr Z) (hw.ent hi) true;rw[S0] at h1;refine⟨.tuple #[v,.bool (Cp xs k)],⟨[v,.bool (Cp xs k)],rfl,h1,rfl,trivial⟩,?_⟩;rw[OO] at h2;simp[execOp,ha.eval hx,ha.eval hy,h2]
theorem DN.length {Z:Fz}{m:List (List UInt8×Rp)}{es:List MapEntry}{ck:Nat}(h:DN Z m es ck):es.length=m.length:=by
 obtain⟨_,_,_,f,h4,h5⟩:=h;rw[← h5.at.1,h4.length_eq]
theorem Se {m:List (List UInt8×Rp)}{N:Nat}(ht:P.underlying t=some (.map kt et))(hx:ev l x=some (rv (.map (some b))))(hi:H[i]? =some (.map b m))(hN:m.length=N) :
  Bl P n c l H { dst:=d',op:=.call { callee:=.builtin .len,args:=#[x],argTypes:=#[t] },type:=ty,pos:=pos,after:=af,guard:=g } (rI .i64 N):=λa w Z ha hw=>Df<|by
 obtain⟨es,ck,h1,h2⟩:=hw.ent hi;have hl:es.size=N:=by rw[← hN,← h2.length];simp
 simp[execOp,resolve,invoke,builtin,ha.eval hx,Builtin.len_,run_underlying ht,goInt,MapKept.run_getObj_map h1,hl]
theorem QC {v:Option Nat}(ht:P.underlying t=some (.map kt et))(hx:ev l x=some (rv (.map v))):Bl P n c l H { dst:=d',op:=.binOp .neq t x (.const (.map none)) rty,type:=ty,pos:=pos,after:=af,guard:=g } (rB (!v.isNone)):=λa w Z ha hw=>Df<|by
 have e2:a.eval (.const (.map none)) = .map none:=rfl;have h:=run_equal_map_nil (P:=P) w t kt et v ht;simp[execOp,ha.eval hx,e2,eqGuard,binOp,h]
theorem RP {m f:List (Ay×Rp)}(h:f.Perm m)(k:Ay)(r:Rp):(mput f k r).Perm (mput m k r):=h.map _
theorem P3 {T:Type}:∀{f:List (Ay×T)} {j:Nat} {k:Ay} {r0:T} (r:T),(f.map (·.1)).Nodup→f[j]? =some (k,r0)→mput f k r=f.set j (k,r)
 | p::f,0,k,r0,r,hn,h=>by
  simp at h;subst h;rw[WY,List.nodup_cons] at hn;have:mput f k r=f:=by
   unfold mput;rw[List.map_congr_left (g:=id) (λq hq=>?_),List.map_id];have hne : ¬ q.1=k:=λe=>hn.1 (by rw[← e];exact List.mem_map.2 ⟨q,hq,rfl⟩);rw[Wt hne];rfl
  show(bif decide (k=k) then(k,r) else(k,r0))::mput f k r=_;rw[Ws rfl,this];rfl
 | p::f,j+1,k,r0,r,hn,h=>by
  rw[WY,List.nodup_cons] at hn;simp at h;have hne : ¬ p.1=k:=λe=>hn.1 (by rw[e];exact List.mem_map.2 ⟨(k,r0),Wy h,rfl⟩);show(bif decide (p.1=k) then(k,r) else p)::mput f k r=_;rw[Wt hne,P3 r hn.2 h];rfl
theorem P4 {T:Type}:∀{f:List (Ay×T)} {j:Nat} {k:Ay} {r0:T},(f.map (·.1)).Nodup→f[j]? =some (k,r0)→mdel f k=f.eraseIdx j
 | p::f,0,k,r0,hn,h=>by
  simp at h;subst h;rw[WY,List.nodup_cons] at hn;have:f.filter (λq=>!decide (q.1=k))=f:=List.filter_eq_self.2 λq hq=>by
   have hne : ¬ q.1=k:=λe=>hn.1 (by rw[← e];exact List.mem_map.2 ⟨q,hq,rfl⟩);simp[hne]
  unfold mdel;rw[List.filter_cons_of_neg (by simp),this];rfl
 | p::f,j+1,k,r0,hn,h=>by
  rw[WY,List.nodup_cons] at hn;simp at h;have hne : ¬ p.1=k:=λe=>hn.1 (by rw[e];exact List.mem_map.2 ⟨(k,r0),Wy h,rfl⟩);unfold mdel;rw[List.filter_cons_of_pos (by simp[hne])];show p::mdel f k=_;rw[P4 hn.2 h];rfl
theorem QG {T:Type}(m:List (Ay×T))(k:Ay)(r:T):(mput m k r).map (·.1)=m.map (·.1):=by
 unfold mput;rw[Xp];refine List.map_congr_left λp _=>?_;simp only[Function.comp]
 by_cases h:p.1=k
 ·rw[Ws h];exact h.symm
 ·rw[Wt h];rfl
theorem QH {T:Type}{m:List (Ay×T)}{k:Ay}{r:T}(h:mget m k=some r):Cp m k=true:=by unfold Cp;rw[h];rfl
theorem QJ {T:Type}{m:List (Ay×T)}{k:Ay}(h:mget m k=none):Cp m k=false:=by unfold Cp;rw[h];rfl
theorem DN.put {Z:Fz}{m:List (Ay×Rp)}{es:List MapEntry}{ck j:Nat}{e:MapEntry}{k:Ay}{r0 r:Rp}{v:Value}(h:DN Z m es ck)(he:es[j]? =some e)(hk:e.key = .string (B k))(hm:mget m k=some r0)(hr:r.p Z v) :
  DN Z (mset m k r) (es.set j { e with key:=.string (B k),val:=v }) ck:=by
 obtain⟨h1,h2,h3,f,h4,h5⟩:=h;obtain⟨hl,ha⟩:=h5.at;have hjl:=(List.getElem?_eq_some_iff.1 he).1;unfold mset;rw[QH hm,W4];obtain⟨k',r',e1,e2,_⟩:=ha j e he;rw[hk] at e2;obtain rfl:=KB e2;have hfn:(f.map (·.1)).Nodup:=(h4.map (·.1)).nodup_iff.2 h1;refine⟨by rw[QG];exact h1,?_,?_,f.set j (k,r),?_,HQ.of (by simp[hl]) λi x hx=>?_⟩
 ·rw[List.map_set];have:(es.map (·.born)).set j e.born=es.map (·.born):=by
   apply List.ext_getElem?;intro i;rw[List.getElem?_set]
   split
   ·rename_i hij;subst hij
    simp[hjl,List.getElem?_eq_some_iff.1 he |>.2]
   ·rfl
  show((es.map (·.born)).set j e.born).Nodup;rw[this];exact h2
 ·intro x hx;rcases List.mem_or_eq_of_mem_set hx with hx | rfl
  ·exact h3 x hx
  ·exact h3 e (Wy he)
 ·have:=RP h4 k r
  rwa [P3 r hfn e1] at this
 ·rw[List.getElem?_set] at hx ⊢
  split at hx
  ·rename_i hij;subst hij
   cases hx
   exact⟨k,r,by rw[W8 rfl,W8 (by rw[hl];exact hjl)],rfl,hr⟩
  ·rename_i hij
   rw[W6 hij];exact ha i x hx
theorem DN.ins {Z:Fz}{m:List (Ay×Rp)}{es:List MapEntry}{ck:Nat}{k:Ay}{r:Rp}{v:Value}(h:DN Z m es ck)(hm:mget m k=none)(hk:∀p∈m,p.1≠k)(hr:r.p Z v) :
  DN Z (mset m k r) (es++[{ key:=.string (B k),val:=v,born:=ck }]) (ck+1):=by
 obtain⟨h1,h2,h3,f,h4,h5⟩:=h;unfold mset;rw[QJ hm,Wz];have hp:=Ju k r m;refine⟨?_,?_,?_,f++[(k,r)],?_,HQ.snoc rfl hr h5⟩
 ·rw[(hp.map (·.1)).nodup_iff,WY,List.nodup_cons];exact⟨λhx=>by obtain⟨p,hp,e⟩:=List.mem_map.1 hx;exact hk p hp e,h1⟩
 ·rw[Xe,List.nodup_append];refine⟨h2,by simp,λa ha b hb e=>?_⟩;simp at hb;subst hb;obtain⟨x,hx,e'⟩:=List.mem_map.1 ha;have:=h3 x hx;omega
 ·intro x hx;rcases List.mem_append.1 hx with hx | hx
  ·have:=h3 x hx;omega
  ·simp at hx;subst hx;exact WZ _
 ·exact(List.perm_append_comm (l₁:=f) (l₂:=[(k,r)])).trans ((h4.cons (k,r)).trans hp.symm)
theorem DN.del {Z:Fz}{m:List (Ay×Rp)}{es:List MapEntry}{ck j:Nat}{e:MapEntry}{k:Ay}(h:DN Z m es ck)(he:es[j]? =some e)(hk:e.key = .string (B k)):DN Z (mdel m k) (es.eraseIdx j) ck:=by
 obtain⟨h1,h2,h3,f,h4,h5⟩:=h;obtain⟨hl,ha⟩:=h5.at;obtain⟨k',r',e1,e2,_⟩:=ha j e he;rw[hk] at e2;obtain rfl:=KB e2;have hfn:(f.map (·.1)).Nodup:=(h4.map (·.1)).nodup_iff.2 h1;have hs:=List.eraseIdx_sublist es j;refine⟨h1.sublist ((List.filter_sublist ..).map _),h2.sublist (hs.map _),λx hx=>h3 x (hs.subset hx),f.eraseIdx j,?_,HQ.of (by rw[List.length_eraseIdx,List.length_eraseIdx,hl]) λi x hx=>?_⟩
 ·rw[← P4 hfn e1];exact h4.filter _
 ·rw[List.getElem?_eraseIdx] at hx ⊢
  split at hx
  ·rename_i hij;rw[W8 hij];exact ha i x hx
  ·rename_i hij;rw[W6 hij];exact ha (i+1) x hx
theorem QK {m:List (Ay×Rp)}{k:Ay}(hk:∀p∈m,p.1≠k):mdel m k=m:=List.filter_eq_self.2 λp hp=>by simp[hk p hp]
theorem St.mapset {Z:Fz}{w:World}(h:St c H Z w){m m':List (Ay×Rp)}(hi:H[i]? =some (.map b m)){es es':Array MapEntry}{ck ck':Nat}(h1:w.heap[b]? =some (.map es ck))(h2:DN Z m' es'.toList ck') :
  St c (H.set i (.map b m')) Z { w with heap:=w.heap.setIfInBounds b (.map es' ck') }:=by
 obtain⟨q1,q2⟩:=MapKept.heap_set (o':=.map es' ck') h1;exact h.set hi rfl rfl rfl (by simp) (λk _ hk=>q2 k (by simpa[Ent.foot] using hk)) ⟨es',ck',q1,h2⟩ (by simp[Ent.foot])
theorem Mk (s:ByteArray):Instr.sameBits 10000 (.string s) (.string s)=true:=by
 show(s ==s)=true;exact(MapKept.bytes_beq s s).2 rfl |> λh=>by simpa using h
theorem Ut {r:Rp}{m:List (Ay×Rp)}(ht:P.underlying t=some (.map kt et))(hk:P.underlying kt=some .string)(hx:ev l x=some (rv (.map (some b))))(hi:H[i]? =some (.map b m))(hy:ev l y=some (rS k))(hu:ev l u=some r){H':List Ent}(hH:H.set i (.map b (mset m k r))=H')(h:WL P n c ops Q rest l H') :
  WL P n c ops Q ({ dst:=none,op:=.mapUpdate t x y u,type:=ty,pos:=pos,after:=af,guard:=none }::rest) l H:=
 LZ λa w Z ha hw=>by
  obtain⟨es,ck,h1,h2⟩:=hw.ent hi;have hv:=ha.ev hu;subst hH;rcases MA h2 k with⟨q1,q2,q3⟩ | ⟨j,e,r0,q1,q2,q3,q4,_⟩
  ·refine⟨_,_,?_,hw.mapset hi h1 (es':=es.push { key:=.string (B k),val:=a.eval u,born:=ck }) (by simpa using h2.ins q2 q3 hv),h⟩;simp[execOp,ha.eval hx,ha.eval hy,Instr.mapUpdate,run_underlying ht,MapKept.run_getObj_map h1,MapKept.run_checkKey hk (D5 _),MapKept.run_findKey hk q1,MapKept.run_setObj_map _ h1]
  ·have hje:es[j]? =some e:=by simpa using q2
   refine⟨_,_,?_,hw.mapset hi h1 (es':=es.modify j λe=>{ e with key:=.string (B k),val:=a.eval u }) (ck':=ck) (by
    have:=h2.put q2 q3 q4 hv;have e1:(es.modify j λe=>{ e with key:=.string (B k),val:=a.eval u }).toList=es.toList.set j { e with key:=.string (B k),val:=a.eval u }:=by
     rw[Array.toList_modify];rw[List.modify_eq_set,q2];rfl
    rw[e1];exact this),h⟩
   have hkey:((es[j]?).map (·.key)).getD (.string (B k)) = .string (B k):=by rw[hje];exact q3
   simp[execOp,ha.eval hx,ha.eval hy,Instr.mapUpdate,run_underlying ht,MapKept.run_getObj_map h1,MapKept.run_checkKey hk (D5 _),MapKept.run_findKey hk q1,MapKept.run_setObj_map _ h1,hkey,Instr.keyThatStays,Mk]
theorem Vj {op:Op}{ty:TypeId}{pos:String}{af:Array Edge}
  (hr:∀a w Z,Ch n l a Z→St c H Z w→∃v w' H',(execOp a.eval { dst:=none,op:=op,type:=ty,pos:=pos,after:=af,guard:=none }).run P w = .ok (.value v) w'∧St c H' Z w'∧WL P n c ops Q rest l H') :
  WL P n c ops Q ({ dst:=none,op:=op,type:=ty,pos:=pos,after:=af,guard:=none }::rest) l H:=λa w Z ha hw=>
 wpList_plain rfl λK hK=>by
  obtain⟨v,w',H',h1,h2,h3⟩:=hr a w Z ha hw;unfold Oper.wp;rw[h1];exact hK _ _ (h3 _ w' Z (ha.put_none _) h2)
theorem Uu {m:List (Ay×Rp)}(ht:P.underlying t=some (.map kt et))(hk:P.underlying kt=some .string){kt':TypeId}(hx:ev l x=some (rv (.map (some b))))(hi:H[i]? =some (.map b m))(hy:ev l y=some (rS k)){H':List Ent}(hH:H.set i (.map b (mdel m k))=H')(h:WL P n c ops Q rest l H') :
  WL P n c ops Q ({ dst:=none,op:=.call { callee:=.builtin .delete,args:=#[x,y],argTypes:=#[t,kt'] },type:=ty,pos:=pos,after:=af,guard:=none }::rest) l H:=
 Vj (λa w Z ha hw=>by
  obtain⟨es,ck,h1,h2⟩:=hw.ent hi;subst hH;rcases MA h2 k with⟨q1,q2,q3⟩ | ⟨j,e,r0,q1,q2,q3,q4,_⟩
  ·refine⟨.tuple #[],_,_,?_,hw.mapset hi h1 (es':=es) (ck':=ck) (by rw[QK q3];exact h2),h⟩;simp[execOp,resolve,invoke,builtin,ha.eval hx,ha.eval hy,Builtin.delete_,run_underlying ht,MapKept.run_getObj_map h1,MapKept.run_checkKey hk (D5 _),MapKept.run_findKey hk q1,MapKept.run_setObj_map _ h1]
  ·refine⟨.tuple #[],_,_,?_,hw.mapset hi h1 (es':=es.eraseIdxIfInBounds j) (ck':=ck) (by
    have e1:(es.eraseIdxIfInBounds j).toList=es.toList.eraseIdx j:=by simp
    rw[e1];exact h2.del q2 q3),h⟩
   simp[execOp,resolve,invoke,builtin,ha.eval hx,ha.eval hy,Builtin.delete_,run_underlying ht,MapKept.run_getObj_map h1,MapKept.run_checkKey hk (D5 _),MapKept.run_findKey hk q1,MapKept.run_setObj_map _ h1])
theorem Tf {v:T}(ht:P.underlying t=some (.map kt et))(hk:P.underlying kt=some .string)(hx:ev l x=some (rv (.map (some b))))(hi:H[i]? =some (.map b (AB enc xs)))(hy:ev l y=some (rS k))(hu:ev l u=some (enc v)){H':List Ent}(hH:H.set i (.map b (AB enc (mset xs k v)))=H')(h:WL P n c ops Q rest l H') :
  WL P n c ops Q ({ dst:=none,op:=.mapUpdate t x y u,type:=ty,pos:=pos,after:=af,guard:=none }::rest) l H:=Ut ht hk hx hi hy hu (by rw[← Si];exact hH) h
theorem Pd (ht:P.underlying t=some (.map kt et))(hk:P.underlying kt=some .string){kt':TypeId}(hx:ev l x=some (rv (.map (some b))))(hi:H[i]? =some (.map b (AB enc xs)))(hy:ev l y=some (rS k)){H':List Ent}(hH:H.set i (.map b (AB enc (mdel xs k)))=H')(h:WL P n c ops Q rest l H') :
  WL P n c ops Q ({ dst:=none,op:=.call { callee:=.builtin .delete,args:=#[x,y],argTypes:=#[t,kt'] },type:=ty,pos:=pos,after:=af,guard:=none }::rest) l H:=Uu ht hk hx hi hy (by rw[← Sk];exact hH) h
end
theorem IS {q:MapEntry→Bool}:∀{l:List MapEntry} {j:Nat} {e:MapEntry},(l.map (·.born)).Nodup→l[j]? =some e→l.filter (λx=>!(x.born ==e.born))=l.eraseIdx j
 | x::l,0,e,hn,h=>by
  simp at h;subst h;rw[WY,List.nodup_cons] at hn;rw[List.filter_cons_of_neg (by simp),List.filter_eq_self.2 λy hy=>?_];rfl;have:y.born≠x.born:=λe=>hn.1 (by rw[← e];exact List.mem_map.2 ⟨y,hy,rfl⟩);simp[this]
 | x::l,j+1,e,hn,h=>by
  rw[WY,List.nodup_cons] at hn;simp at h;have hne:x.born≠e.born:=λe'=>hn.1 (by rw[e'];exact List.mem_map.2 ⟨e,Wy h,rfl⟩);rw[List.filter_cons_of_pos (by simp[hne]),IS (q:=q) hn.2 h];rfl
theorem HQ.erase {Z:Fz}:∀{f:List (List UInt8×Rp)} {es:List MapEntry} (j:Nat),HQ Z f es→HQ Z (f.eraseIdx j) (es.eraseIdx j)
 | [],[],j,_=>by simp[HQ]
 | p::f,e::es,0,⟨_,h⟩=>h
 | p::f,e::es,j+1,⟨h,h3⟩=>⟨h,HQ.erase j h3⟩
theorem Pw {α:Type}:∀{l:List α} {j:Nat} {a:α},l[j]? =some a→l.Perm (a::l.eraseIdx j)
 | x::l,0,a,h=>by simp at h;subst h;exact Wr _
 | x::l,j+1,a,h=>by
  simp at h;exact((Pw h).cons x).trans (List.Perm.swap a x _)
theorem RQ {T:Type}{enc:T→Rp}{ys:List (Ay×T)}{f:List (Ay×Rp)}{j:Nat}{k:Ay}{r:Rp}(h:f.Perm (AB enc ys))(hj:f[j]? =some (k,r)):∃ (p:Ay×T) (ys':List (Ay×T)),ys.Perm (p::ys')∧p.1=k∧enc p.2=r∧(f.eraseIdx j).Perm (AB enc ys'):=by
 have hm:(k,r)∈AB enc ys:=h.subset (Wy hj);obtain⟨p,hp,e⟩:=List.mem_map.1 hm;simp only[Prod.mk.injEq] at e;obtain⟨a,b,rfl⟩:=List.append_of_mem hp;refine⟨p,a++b,List.perm_middle,e.1,e.2,?_⟩;have h1:f.Perm ((k,r)::f.eraseIdx j):=by
  exact Pw hj
 have h2:(AB enc (a++p::b)).Perm ((k,r)::AB enc (a++b)):=by
  have:(AB enc (a++p::b)).Perm (AB enc (p::(a++b))):=List.perm_middle.map _;refine this.trans ?_;show((p.1,enc p.2)::AB enc (a++b)).Perm _;rw[e.1,e.2]
 exact((h1.symm.trans h).trans h2).cons_inv
section
variable {P : Program} {n : Nat} {c : Cx} {ops : Array Oper} {Q : Exit → Act → World → Prop} {rest : List Oper} {l : Fr} {H : List Ent} {d : Nat} {ty t kt et rty : TypeId} {pos : String} {af : Array Edge} {x y u : Operand} {K : Act → World → Prop} {cx : Code}
variable {T : Type} {enc : T → Rp} {xs ys : List (Ay × T)} {i b it : Nat} {m lf : List (List UInt8 × Rp)} {cur : Option (List UInt8 × Rp)} {k : Ay} {r : Rp}
theorem Kd (ht:P.underlying t=some (.map kt et))(hx:ev l x=some (rv (.map (some b))))(hi:H[i]? =some (.map b m))(hn:Nat.blt d n=true)(h:∀it,WL P n c ops Q rest ((d,rv (.pointer (some ⟨it,0,none⟩)))::l) (H.set i (.mit b it m m none))) :
  WL P n c ops Q ({ dst:=some d,op:=.range t x,type:=ty,pos:=pos,after:=af,guard:=none }::rest) l H:=
 HS (λa w Z ha hw=>by
  obtain⟨es,ck,h1,h2⟩:=hw.ent hi;have hb:b<w.heap.size:=(Array.getElem?_eq_some_iff.1 h1).1;have hf:es.toList.filter (λe=>!(#[]:Array Nat).contains e.born)=es.toList:=List.filter_eq_self.2 λ_ _=>by simp
  obtain⟨f,h4,h5⟩:=h2.2.2.2;refine⟨.pointer (some ⟨w.heap.size,0,none⟩),w.alloc (.mapIter (some b) ck #[] ck),_,_,Z,?_,Fz.le.refl _,rfl,hw.set hi rfl rfl rfl (by simp) (λk hk _=>Below.heap_alloc w _ k hk) ?_ ?_,h w.heap.size⟩
  ·simp[execOp,ha.eval hx,run_range_map w t kt et b es ck ht h1]
  ·exact⟨es,ck,#[],ck,ck,(Below.heap_alloc w _ b hb).trans h1,by simpa using heap_alloc_new w _,h2,h2.2.2.1,W9 _,W9 _,Nat.ne_of_lt hb,⟨f,h4,by rw[hf];exact h5⟩,trivial⟩
  ·intro k hk;simp only[Ent.foot,Xl,List.not_mem_nil,or_false] at hk;rcases hk with rfl | rfl
   ·exact .inl (by simp[Ent.foot])
   ·exact .inr (W9 _)) hn
theorem Mb (hx:ev l x=some (rv (.pointer (some ⟨it,0,none⟩))))(hi:H[i]? =some (.mit b it m (AB enc ys) cur))(hn:Nat.blt d n=true)
  (h0:ys=[]→WL P n c ops Q rest ((d,DK [rB false])::l) H)
  (h1:∀p ys',ys.Perm (p::ys')→WL P n c ops Q rest ((d,DK [rB true,rS p.1,enc p.2])::l) (H.set i (.mit b it m (AB enc ys') (some (p.1,enc p.2))))) :
  WL P n c ops Q ({ dst:=some d,op:=.next x false,type:=ty,pos:=pos,after:=af,guard:=none }::rest) l H:=
 HS (λa w Z ha hw=>by
  obtain⟨es,ck,seen,since,c0,q1,q2,q3,q4,q5,q6,q7,⟨f,q8,q9⟩,_⟩:=hw.ent hi;have hlf:(leftOf es seen).toList=es.toList.filter λe=>!seen.contains e.born:=by simp[leftOf]
  rcases run_next_at (P:=P) w ty it b since c0 seen es ck q2 q1 q4 q5 with⟨r1,r2⟩ | ⟨e,r1,w1,r2,r3⟩
  ·have he:es.toList.filter (λe=>!seen.contains e.born)=[]:=by rw[← hlf];exact WH (by simpa using r1)
   rw[he] at q9;have hf:f=[]:=by cases f with
    | nil=>rfl
    | cons _ _=>exact absurd q9 id
   subst hf;have hy:ys=[]:=by
    have:=q8.length_eq;rw[Hd] at this;exact WH this.symm
   exact⟨.tuple #[.bool false],w,DK [rB false],H,Z,by simp[execOp,ha.eval hx,r2],Fz.le.refl _,⟨[.bool false],rfl,rfl,trivial⟩,hw,h0 hy⟩
  ·rw[hlf] at r1;obtain⟨j,hj⟩:=List.mem_iff_getElem?.1 r1;obtain⟨k,r,e1,e2,e3⟩:=q9.at.2 j e hj;obtain⟨p,ys',s1,s2,s3,s4⟩:=RQ q8 e1;have hnl:((es.toList.filter λe=>!seen.contains e.born).map (·.born)).Nodup:=q3.2.1.sublist ((List.filter_sublist ..).map _);have hleft:es.toList.filter (λx=>!(seen.push e.born).contains x.born)=(es.toList.filter λe=>!seen.contains e.born).eraseIdx j:=by
    rw[← IS (q:=λ_=>true) hnl hj,List.filter_filter];refine List.filter_congr λx _=>?_;simp only[Array.contains_push,Bool.not_or];rw[Bool.and_comm]
   have hd:St c H Z w1:=by
    rcases r2 with rfl | rfl
    ·exact hw
    ·exact hw.drawn _
   have q2':w1.heap[it]? =some (.mapIter (some b) since seen c0):=by rcases r2 with rfl | rfl<;>exact q2
   have q1':w1.heap[b]? =some (.map es ck):=by rcases r2 with rfl | rfl<;>exact q1
   obtain⟨t1,t2⟩:=MapKept.heap_set (o':=.mapIter (some b) since (seen.push e.born) ck) q2';refine⟨.tuple #[.bool true,e.key,e.val],ChangeMaps.setBlock w1 it (.mapIter (some b) since (seen.push e.born) ck),DK [rB true,rS p.1,enc p.2],H.set i (.mit b it m (AB enc ys') (some (p.1,enc p.2))),Z,by simp[execOp,ha.eval hx,r3],Fz.le.refl _,⟨[.bool true,e.key,e.val],rfl,rfl,?_,?_,trivial⟩,hd.set hi rfl rfl rfl (by simp[ChangeMaps.setBlock]) (λk' _ hk'=>t2 k' (λe'=>hk' (by simp[Ent.foot,e']))) ?_ (λk' hk'=>.inl (by simpa[Ent.foot] using hk')),h1 p ys' s1⟩
   ·show e.key = .string (B p.1);rw[s2];exact e2
   ·rw[s3];exact e3
   ·exact⟨es,ck,seen.push e.born,since,ck,(t2 b q7).trans q1',t1,q3,q4,Nat.le_trans q5 q6,W9 _,q7,⟨f.eraseIdx j,s4,by rw[hleft];exact q9.erase j⟩,rfl,seen,e,rfl,(List.mem_filter.1 r1).1,by rw[s2];exact e2,by rw[s3];exact e3⟩) hn
theorem St.unmit {Z:Fz}{w:World}(h:St c H Z w)(hi:H[i]? =some (.mit b it m lf cur)):St c (H.set i (.map b m)) Z w:=by
 obtain⟨es,ck,seen,since,c0,q1,q2,q3,_⟩:=h.ent hi;exact h.set hi rfl rfl rfl (W9 _) (λ_ _ _=>rfl) ⟨es,ck,q1,q3⟩ (by simp[Ent.foot])
theorem WK.unmit (hi:H[i]? =some (.mit b it m lf cur))(h:WK n c K l (H.set i (.map b m))):WK n c K l H:=λa w Z ha hw=>h a w Z ha (hw.unmit hi)
theorem WC.unmit (hi:H[i]? =some (.mit b it m lf cur))(h:WC P n c cx Q l (H.set i (.map b m))):WC P n c cx Q l H:=λa w Z ha hw=>h a w Z ha (hw.unmit hi)
theorem WL.unmit (hi:H[i]? =some (.mit b it m lf cur))(h:WL P n c ops Q rest l (H.set i (.map b m))):WL P n c ops Q rest l H:=λa w Z ha hw=>h a w Z ha (hw.unmit hi)
theorem St.uncur {Z:Fz}{w:World}(h:St c H Z w)(hi:H[i]? =some (.mit b it m lf cur)):St c (H.set i (.mit b it m lf none)) Z w:=by
 obtain⟨es,ck,seen,since,c0,q1,q2,q3,q4,q5,q6,q7,q8,_⟩:=h.ent hi;exact h.set hi rfl rfl rfl (W9 _) (λ_ _ _=>rfl) ⟨es,ck,seen,since,c0,q1,q2,q3,q4,q5,q6,q7,q8,trivial⟩ (λk hk=>.inl (by simpa[Ent.foot] using hk))
theorem WK.uncur (hi:H[i]? =some (.mit b it m lf cur))(h:WK n c K l (H.set i (.mit b it m lf none))):WK n c K l H:=λa w Z ha hw=>h a w Z ha (hw.uncur hi)
theorem Kl {dd:Option Nat}{g:Option (Nat×Bool)}(hx:ev l x=some (rv (.pointer (some ⟨it,0,none⟩))))(hi:H[i]? =some (.mit b it m lf (some (k,r)))) :
  Bl P n c l H { dst:=dd,op:=.entry x,type:=ty,pos:=pos,after:=af,guard:=g } (DK [rS k,r]):=λa w Z ha hw=>by
 obtain⟨es,ck,seen,since,c0,q1,q2,q3,q4,q5,q6,q7,q8,rfl,s0,e,rfl,h1,h2,h3⟩:=hw.ent hi;exact⟨.tuple #[e.key,e.val],⟨[e.key,e.val],rfl,h2,h3,trivial⟩,by simp[execOp,ha.eval hx,run_entry_at w it b since s0 es c0 e q2 q1 h1 q3.2.1]⟩
end
section
variable {P : Program} {n : Nat} {c : Cx} {opsA : Array Oper} {Q : Exit → Act → World → Prop} {l : Fr} {H : List Ent} {d : Nat} {ty : TypeId} {pos : String} {af : Array Edge}
theorem RW {f:FuncId}{args:List Operand}{ats:Array TypeId}{rs:List Rp}{r:Rp}{Hin Hout Hr:List Ent}(hcall:∀(as1:Array Value) (w:World),(callFunc f as1).run P w = .ok (.enter f as1) w)(hv:JZ l args=some rs)
  (hp:H.Perm (Hin++Hr)) (hc:Fn P c.E f rs Hin (λr' H'=>r'=r∧H'=Hout)) {H':List Ent} (hH:Hout++Hr=H'):Dd P n c opsA Q l H { dst:=some d,op:=.call { callee:=.value (.func f),args:=args.toArray,argTypes:=ats },type:=ty,pos:=pos,after:=af,guard:=none } r H':=λa w Z K ha hw hK=>
 ⟨λ_=>by
  subst hH;unfold Oper.wp;rw[DQ rfl hcall w];refine(hc w Z _ (EV ha hv) (hw.perm hp).enter).mono ?_;rintro e w' ⟨r2,v,Ho,Z',rfl,⟨rfl,rfl⟩,hr2,hs⟩;exact hK v w' Z' hs.le hr2 ((hw.perm hp).call hs),λh=>by simp[Region.wanted] at h⟩
theorem RU {f:FuncId}{args:List Operand}{ats:Array TypeId}{rs:List Rp}{r:Rp}{Hin Hr:List Ent}(hcall:∀(as1:Array Value) (w:World),(callFunc f as1).run P w = .ok (.enter f as1) w)(hv:JZ l args=some rs)
  (hp:H.Perm (Hin++Hr)) (hc:Fn P c.E f rs Hin (λr' H'=>r'=r∧H'=Hin)):Dd P n c opsA Q l H { dst:=some d,op:=.call { callee:=.value (.func f),args:=args.toArray,argTypes:=ats },type:=ty,pos:=pos,after:=af,guard:=none } r H:=λa w Z K ha hw hK=>
 RW (Hout:=Hin) hcall hv hp hc rfl a w Z K ha hw (λv w' Z' hz hr hs=>hK v w' Z' hz hr (hs.perm hp.symm))
theorem Q7 {f:FuncId}{args:List Operand}{ats:Array TypeId}{rs:List Rp}{r:Rp}{Hin Hr E:List Ent}(hcall:∀(as1:Array Value) (w:World),(callFunc f as1).run P w = .ok (.enter f as1) w)(hv:JZ l args=some rs)
  (hp:H.Perm (Hin++Hr)) (hc:Fn P c.E f rs Hin (λr' H'=>r'=r∧H'=Hin)):Dd P n c opsA Q l (H++E) { dst:=some d,op:=.call { callee:=.value (.func f),args:=args.toArray,argTypes:=ats },type:=ty,pos:=pos,after:=af,guard:=none } r (H++E):=
 RU (Hin:=Hin) (Hr:=Hr++E) hcall hv (by rw[← WD];exact hp.append_right E) hc
end
section
variable {P : Program} {n : Nat} {c : Cx} {ops : Array Oper} {Q : Exit → Act → World → Prop} {rest : List Oper} {l : Fr} {H H' : List Ent} {d : Nat} {d' : Option Nat} {x y z3 : Operand} {ty t t' e : TypeId} {pos : String} {af : Array Edge} {g : Option (Nat × Bool)} {v u : Value} {r : Rp} {sz : Nat}
end
theorem AX.d1 {Z:Fz}{r0:Rp}{us:List Value}(h:AX Z [r0] us):∃y0,us=[y0]∧AX Z [r0] [y0]:=by
 match us,h.length with
 | [y0],_=>exact⟨_,rfl,h⟩
theorem AX.d2 {Z:Fz}{r0 r1:Rp}{us:List Value}(h:AX Z [r0,r1] us):∃y0 y1,us=[y0,y1]∧AX Z [r0,r1] [y0,y1]:=by
 match us,h.length with
 | [y0,y1],_=>exact⟨_,_,rfl,h⟩
theorem AX.d7 {Z:Fz}{r0 r1 r2 r3 r4 r5 r6:Rp}{us:List Value}(h:AX Z [r0,r1,r2,r3,r4,r5,r6] us):∃y0 y1 y2 y3 y4 y5 y6,us=[y0,y1,y2,y3,y4,y5,y6]∧AX Z [r0,r1,r2,r3,r4,r5,r6] [y0,y1,y2,y3,y4,y5,y6]:=by
 match us,h.length with
 | [y0,y1,y2,y3,y4,y5,y6],_=>exact⟨_,_,_,_,_,_,_,rfl,h⟩
theorem NV {α:Type}{sz:Nat}:∀{xs:List (List α)} (hs:∀c∈xs,c.length=sz) {k:Nat} {cl:List α},xs[k]? =some cl→∀(off m:Nat),off+m≤sz→((xs.flatten).drop (k*sz+off)).take m=(cl.drop off).take m
 | [],_,k,cl,h,_,_,_=>by simp at h
 | x::r,hs,0,cl,h,off,m,hm=>by
  simp at h;subst h;have hx:=hs x (by simp);simp only[List.flatten_cons,Nat.zero_mul,WW];rw[List.drop_append_of_le_length (by omega),List.take_append_of_le_length (by simp;omega)]
 | x::r,hs,k+1,cl,h,off,m,hm=>by
  have hx:=hs x (by simp);simp only[List.flatten_cons];have e:(k+1)*sz+off=x.length+(k*sz+off):=by rw[hx,Nat.succ_mul];omega
  rw[e,List.drop_length_add_append];exact NV (λc hc=>hs c (by simp[hc])) (by simpa using h) off m hm
section
variable {P : Program} {n : Nat} {c : Cx} {ops : Array Oper} {Q : Exit → Act → World → Prop} {rest : List Oper} {l : Fr} {H H' : List Ent} {d : Nat} {d' : Option Nat} {ty t e rty : TypeId} {pos : String} {af : Array Edge} {g : Option (Nat × Bool)} {x y u : Operand} {v : Value} {sz m : Nat}
theorem P2 {α:Type}[Inhabited α]{ys:List α}{enc:α→List Rp}{i off:Nat}{j:Int}{rs:List Rp}(hag:∀w,(isAgg t).run P w = .ok true w)(hsz:∀w,(sizeOf t).run P w = .ok m w)(hx:ev l x=some (rv (Eb sz v j.toNat off)))(hi:H[i]? =some (.row v e sz (ys.map enc)))(hg:Cb j (ys.length:Int)=true)
  (hle:Nat.ble (off+m) sz=true) (hr:((enc (Ac ys j)).drop off).take m=rs) :
  Bl P n c l H { dst:=d',op:=.load t x,type:=ty,pos:=pos,after:=af,guard:=g } (B2 rs):=λa w Z ha hw=>by
 obtain⟨hs,us,⟨h1,h2⟩,h3⟩:=hw.ent hi;have h0:=(Bt hg).1;have hlt:j.toNat<ys.length:=by have:=(Bt hg).2;omega
 have eat:Ac ys j=ys[j.toNat]:=by simp[Ac,hlt]
 have hle':off+m≤sz:=by simpa using hle
 have hcl:(ys.map enc)[j.toNat]? =some (enc ys[j.toNat]):=by simp[hlt]
 have hcz:(enc ys[j.toNat]).length=sz:=hs _ (Wy hcl);have hseg:=NV hs hcl off m hle';rw[← eat,hr] at hseg;have h4:=(h3.drop (j.toNat*sz+off)).take m;rw[hseg] at h4;have hrl:rs.length=m:=by rw[← hr,eat];simp;omega
 rcases h2 with⟨rfl,hz⟩ | ⟨b,cap,cur,rfl,_,hg',hcap,hm,hcs,htk⟩
 ·simp at hz;subst hz;simp at hlt
 ·have h5:=run_loadCells_list (P:=P) w ⟨b,j.toNat*sz+off,none⟩ ((us.drop (j.toNat*sz+off)).take m) (λq w' hq=>by
   rw[HD,cell_of_row w b _ cur e (0,0) hg'];rw[Xc] at hq
   split at hq
   ·rw[List.getElem?_drop,← htk,Xc] at hq
    split at hq
    ·simpa using hq
    ·cases hq
   ·cases hq)
  rw[h4.length,hrl] at h5;exact⟨.agg ((us.drop (j.toNat*sz+off)).take m).toArray,⟨_,rfl,h4⟩,by simp[execOp,ha.eval hx,Eb,Instr.loadAt,Instr.sureAddr,loadVar,hag,hsz,h5]⟩
end
end Go.Proofs.YthbbedliepkakaaGreatDoor.Q
namespace Go.Proofs.YthbbedliepkakaaGreatDoor
open Go
end Go.Proofs.YthbbedliepkakaaGreatDoor
namespace Go.Proofs.YthbbedliepkakaaGreatDoor.Q
open Go Go.RowKit
set_option linter.unusedVariables false
set_option linter.unusedSimpArgs false
section
variable {P : Program} {n : Nat} {c : Cx} {Q : Exit → Act → World → Prop} {l : Fr} {H : List Ent} {x rest' : Code} {K : Act → World → Prop}
end
section
variable {P : Program} {n : Nat} {c : Cx} {ops : Array Oper} {Q : Exit → Act → World → Prop} {rest : List Oper} {l : Fr} {H H' : List Ent} {d : Nat} {d' : Option Nat} {x y z3 z4 : Operand} {ty t t' e : TypeId} {pos : String} {af : Array Edge} {g : Option (Nat × Bool)} {v u : Value} {r : Rp} {sz : Nat}
end
structure Sx (U:Type) where
 deps:List Nat
 r:U→Rp
 dyn:Bool:=false
 old:List Nat:=[]
def E0 {U:Type}(sp:List (Sx U))(i:Nat):Sx U:=sp.getD i { deps:=[],r:=λ_=>rv undef }
def Rj {U:Type}(sp:List (Sx U))(u:U):List Sp:=sp.map λs=>⟨s.deps,s.r u,0⟩
def Vn {U:Type}(sp:List (Sx U))(u:U):List Sa:=sp.map λs=>{ deps:=s.deps,r:=s.r u }
def Ll {U:Type}:List (Sx U)→Prop
 | []=>True
 | s::r=>(s.dyn=false→∀u u',s.r u=s.r u')∧Ll r
theorem Ll.at {U:Type}:∀{sp:List (Sx U)},Ll sp→∀{i:Nat} {s:Sx U},sp[i]? =some s→s.dyn=false→∀u u',s.r u=s.r u'
 | [],_,i,s,h=>by simp at h
 | x::sp,⟨h1,h2⟩,0,s,h=>by simp at h;subst h;exact h1
 | x::sp,⟨h1,h2⟩,i+1,s,h=>Ll.at h2 (by simpa using h)
theorem VN {U:Type}{ds os:List Nat}{r:Rp}{sp:List (Sx U)}(h:Ll sp):Ll ({ deps:=ds,r:=λ_=>r,old:=os }::sp):=⟨λ_ _ _=>rfl,h⟩
theorem VM {U:Type}{ds os:List Nat}{r:U→Rp}{sp:List (Sx U)}(h:Ll sp):Ll ({ deps:=ds,r:=r,dyn:=true,old:=os }::sp):=⟨λh'=>(by cases h'),h⟩
def El (lw:Fr):List Nat→Fr→Fr
 | [],l=>l
 | d::r,l=>match look lw d with
  | some q=>(d,q)::El lw r l
  | none=>El lw r l
theorem PN {n:Nat}{lw l:Fr}{a:Act}{Z:Fz}(h0:Ch n l a Z):∀{ds:List Nat},(∀d∈ds,∀q,look lw d=some q→∃v,a.tmps[d]? =some v∧q.p Z v)→Ch n (El lw ds l) a Z
 | [],_=>h0
 | d::ds,h=>by
  have ih:=PN h0 (ds:=ds) (λd' hd'=>h d' (by simp[hd']));unfold El
  cases hd:look lw d with
  | none=>exact ih
  | some q=>
   refine⟨ih.size,ih.defers,λi r hi=>?_⟩;rw[BD] at hi
   split at hi
   ·rename_i e;subst e;simp at hi;subst hi;exact h d (by simp) q hd
   ·exact ih.tm i r hi
theorem VL {U:Type}:Ll ([]:List (Sx U)):=trivial
def VP (n:Nat)(ops:List Oper)(N i0:Nat)(keys:List Nat)(deps:List (List Nat))(dyns:List Bool)(olds:List (List Nat)):Bool:=
 MG ops N&&decide (N≤ops.length)&&decide (i0<N)&&
 (List.range N).all (λi=>match BR ops i with
  | some d=>decide (d<n)&&!keys.contains d&&(List.range N).all (λj=>j ==i||BR ops j !=some d)
  | none=>true)&&
 (List.range N).all (λi=>(deps.getD i []).all (λj=>decide (j<N)&&(D8 (ops.getD i default)).contains j))&&
 (List.range N).all (λi=>!dyns.getD i false||i ==i0||(D8 (ops.getD i default)).any (λe=>decide (e<N)&&(e ==i0||dyns.getD e false)))&&
 (List.range N).all (λi=>(olds.getD i []).all (λd=>(List.range N).all (λw=>BR ops w !=some d||(D8 (ops.getD w default)).contains i)))
section
variable (P : Program) (n : Nat) (c : Cx) (opsA : Array Oper) (Q : Exit → Act → World → Prop)
def VG {U:Type}(l:Fr)(H:List Ent)(o:Oper)(r:U→Rp)(H1:U→List Ent):Prop:=
 ∀a w Z (K:Act→World→Prop),Ch n l a Z→St c H Z w→(∀u v w' Z',Fz.le Z Z'→(r u).p Z' v→St c (H1 u) Z' w'→K (a.put o.dst v) w')→
  Region.wanted o (yielded opsA a.tmps)=true∧o.wp P a w K Q
def Ik {U:Type}(ops:List Oper)(sp:List (Sx U))(l0 lw:Fr)(i0:Nat)(H:List Ent)(H1:U→List Ent):Nat→List Oper→Prop
 | i,o::rest=>(if i=i0 then(∀u,VG P n c opsA Q (El lw (E0 sp i).old (Bv ops (Rj sp u) (E0 sp i).deps l0)) H o (E0 sp i).r H1) else ∀u H',(H'=H∨H'=H1 u)→Dd P n c opsA Q (El lw (E0 sp i).old (Bv ops (Rj sp u) (E0 sp i).deps l0)) H' o ((E0 sp i).r u) H')∧Ik ops sp l0 lw i0 H H1 (i+1) rest
 | _,[]=>True
end
section
variable {P : Program} {n : Nat} {c : Cx} {opsA : Array Oper} {Q : Exit → Act → World → Prop} {l l0 lw : Fr} {U : Type} {H : List Ent} {H1 : U → List Ent} {sp : List (Sx U)} {i0 : Nat}
theorem Ik.at {ops:List Oper}:∀{k:Nat} {rest:List Oper},Ik P n c opsA Q ops sp l0 lw i0 H H1 k rest→∀(t:Nat) o,rest[t]? =some o→
  (if k+t=i0 then(∀u,VG P n c opsA Q (El lw (E0 sp (k+t)).old (Bv ops (Rj sp u) (E0 sp (k+t)).deps l0)) H o (E0 sp (k+t)).r H1) else ∀u H',(H'=H∨H'=H1 u)→Dd P n c opsA Q (El lw (E0 sp (k+t)).old (Bv ops (Rj sp u) (E0 sp (k+t)).deps l0)) H' o ((E0 sp (k+t)).r u) H')
 | k,o::rest,⟨h1,h2⟩,t,o',ht=>by
  cases t with
  | zero=>simp at ht;subst ht;exact h1
  | succ t=>
   have:=Ik.at h2 t o' (by simpa using ht);rw[show k+(t+1)=k+1+t from by omega];exact this
 | _,[],_,t,o,h=>by simp at h
theorem SZ {id:Nat}{ops:List Oper}[Inhabited U](N i0:Nat)(sp:List (Sx U))(hm:P.follows .mixedOrders=true)(hB:VP n ops N i0 (DF l0) (sp.map (·.deps)) (sp.map (·.dyn)) (sp.map (·.old))=true)(hl0:Rc l0 l)(hlw:Rc lw l)(hsp:sp.length=N)(hst:Ll sp)
  (hob:Ik P n c ops.toArray Q ops sp l0 lw i0 H H1 0 (ops.take N)) (h:∀u,WL P n c ops.toArray Q (ops.drop N) (JP (λ_=>0) (ops.take N) (Vn sp u) 0 l0) (H1 u)):WC P n c (.region id ops.toArray true) Q l H:=by
 intro a w Z ha hw;simp only[VP,Wu,WM,List.mem_range,Wp] at hB;obtain⟨⟨⟨⟨⟨⟨b1,bN⟩,b0⟩,b2⟩,b3⟩,b4⟩,b5⟩:=hB;have hget:∀i,i<N→(ops.take N)[i]? =ops[i]?:=λi hi=>by rw[Xc,W8 hi]
 have hsa:∀i,i<N→sp[i]? =some (E0 sp i):=λi hi=>by
  simp[E0,Ww,Wv (show i<sp.length by omega)]
 have hspq:∀u i,i<N→(CE (Rj sp u) i)=⟨(E0 sp i).deps,(E0 sp i).r u,0⟩:=λu i hi=>by
  simp[CE,Rj,Ww,Xb,hsa i hi]
 have hdyn:∀j,j<N→(sp.map (·.dyn)).getD j false=(E0 sp j).dyn:=λj hj=>by simp[Ww,Xb,hsa j hj]
 have hdep:∀j,j<N→(sp.map (·.deps)).getD j []=(E0 sp j).deps:=λj hj=>by simp[Ww,Xb,hsa j hj]
 have hops:∀j,j<N→∃o,ops[j]? =some o:=λj hj=>⟨ops[j]'(by omega),Wv (by omega)⟩
 have hdst:∀i o d,i<N→ops[i]? =some o→o.dst=some d→(d<n∧d ∉ DF l0)∧∀j,j<N→j≠i→BR ops j≠some d:=λi o d hi ho hd=>by
  have h3:=b2 i hi;have:BR ops i=some d:=by simp[BR,ho,hd]
  rw[this] at h3;simp only[Wu,W5,WM,List.mem_range,Wp] at h3;refine⟨⟨h3.1.1,λhmem=>by rw[← List.contains_iff_mem] at hmem;rw[hmem] at h3;cases h3.1.2⟩,λj hj hne he=>?_⟩;have:=h3.2 j hj;simp[hne,he] at this
 refine Rs (N:=N) hm b1 bN (λS a w=>∃ (u:U) (Z:Fz),St c (if S i0=true then H1 u else H) Z w∧Ch n l0 a Z∧(∀j o d,j<N→S j=true→ops[j]? =some o→o.dst=some d→∃v,a.tmps[d]? =some v∧((E0 sp j).r u).p Z v)∧
   (∀j,j<N→(E0 sp j).dyn=true→S j=true→S i0=true)∧
   (∀d q,look lw d=some q→(∀wr,wr<N→BR ops wr=some d→S wr=false)→∃v,a.tmps[d]? =some v∧q.p Z v)∧
   ∀wr i d,wr<N→i<N→BR ops wr=some d→d∈(E0 sp i).old→S wr=true→S i=true)
  (λS S' a w hS hI=>?_) ⟨default,Z,?_,ha.subL hl0,λj o d _ hS=>(by cases hS),λj _ _ hS=>(by cases hS),λd q hd _=>(ha.subL hlw).tm d q hd,λwr i d _ _ _ _ hS=>(by cases hS)⟩ (λS i o a w hi hun ho hb hI K hK=>?_) (λa w hI=>?_)
 ·obtain⟨u,Z,h1,h2,h3,h4,h5,h6⟩:=hI;refine⟨u,Z,?_,h2,λj o d hj hS'=>h3 j o d hj (by rw[hS j hj];exact hS'),λj hj hd hSj=>?_,λd q hd hw'=>h5 d q hd (λwr hwr hdw=>by rw[hS wr hwr];exact hw' wr hwr hdw),λwr i d hwr hi hdw hold hSw=>by rw[← hS i hi];exact h6 wr i d hwr hi hdw hold (by rw[hS wr hwr];exact hSw)⟩
  ·rw[← hS i0 b0];exact h1
  ·rw[← hS i0 b0];exact h4 j hj hd (by rw[hS j hj];exact hSj)
 ·exact hw.drawn _
 ·obtain⟨u,Z,h1,h2,h3,hx,ho5,ho6⟩:=hI;have hput:∀k u v,a.tmps[k]? =some u→o.dst≠some k→(a.put o.dst v).tmps[k]? =some u:=λk u v hk hne=>by
   cases hd:o.dst with
   | none=>simpa[Act.put] using hk
   | some d=>
    simp only[Act.put,Array.getElem?_setIfInBounds];rw[W6 (λe=>hne (by rw[hd,e]))];exact hk
  have hagr:∀v Z',Fz.le Z Z'→Ch n l0 (a.put o.dst v) Z':=λv Z' hz=>by
   refine⟨?_,?_,λk r hk=>?_⟩
   ·cases o.dst<;>simp[Act.put,h2.size]
   ·cases o.dst<;>simp[Act.put,h2.defers]
   ·obtain⟨u,hu,hpu⟩:=h2.tm k r hk;exact⟨u,hput k u v hu (λe=>((hdst i o k hi ho e).1).2 (IN hk)),r.mono hz hpu⟩
  have hvals:∀(v:Value) (Z':Fz) (u':U),Fz.le Z Z'→(∀j,j<N→j≠i→S j=true→(E0 sp j).r u'=(E0 sp j).r u)→(o.dst≠none→((E0 sp i).r u').p Z' v)→∀j o' d,j<N→(j ==i||S j)=true→ops[j]? =some o'→o'.dst=some d→∃q,(a.put o.dst v).tmps[d]? =some q∧((E0 sp j).r u').p Z' q:=by
   intro v Z' u' hz hβ hp j o' d hj hS' ho' hd
   by_cases hji:j=i
   ·subst hji;rw[ho] at ho';simp at ho';subst ho';refine⟨v,?_,hp (by simp[hd])⟩;have hdn:d<a.tmps.size:=by rw[h2.size];exact(hdst j o d hi ho hd).1.1
    simp[Act.put,hd,hdn]
   ·have hSj:S j=true:=by simpa[hji] using hS'
    obtain⟨q,hu,hpu⟩:=h3 j o' d hj hSj ho' hd;refine⟨q,hput d q v hu (λe=>(hdst i o d hi ho e).2 j hj hji (by simp[BR,ho',hd])),?_⟩;rw[hβ j hj hji hSj];exact((E0 sp j).r u).mono hz hpu
  have hat:=hob.at i o (by rw[hget i hi];exact ho);rw[WW] at hat;have hold':∀Z',Fz.le Z Z'→∀v d q,look lw d=some q→(∀wr,wr<N→BR ops wr=some d→(wr ==i||S wr)=false)→∃v',(a.put o.dst v).tmps[d]? =some v'∧q.p Z' v':=λZ' hz v d q hd hw'=>by
   obtain⟨v',e1,e2⟩:=ho5 d q hd (λwr hwr hdw=>by have:=hw' wr hwr hdw;simp only[WN] at this;exact this.2);refine⟨v',hput d v' v e1 (λe=>?_),q.mono hz e2⟩;have:=hw' i hi (by simp[BR,ho,e]);simp at this
  have hord:∀wr k d,wr<N→k<N→BR ops wr=some d→d∈(E0 sp k).old→(wr ==i||S wr)=true→(k ==i||S k)=true:=λwr k d hwr hk hdw hmem hSw=>by
   by_cases hwi:wr=i
   ·subst hwi;have h7:=b5 k hk d (by simpa[Ww,Xb,hsa k hk] using hmem) wr hwr;simp only[WE,bne_iff_ne,ne_eq,hdw,not_true_eq_false,false_or] at h7;rw[Ww,ho,WI,List.contains_iff_mem] at h7;simp[(hb k h7).2]
   ·have:S k=true:=ho6 wr k d hwr hk hdw hmem (by simpa[hwi] using hSw);simp[this]
  have hag':Ch n (El lw (E0 sp i).old (Bv ops (Rj sp u) (E0 sp i).deps l0)) a Z:=PN (Ja h2 (λj hj d hd=>by
    obtain⟨h5,h6⟩:=b3 i hi j (by rw[hdep i hi];exact hj);rw[Ww,ho,WI,List.contains_iff_mem] at h6;obtain⟨o2,ho2⟩:=hops j h5;obtain⟨v,hv1,hv2⟩:=h3 j o2 d h5 (hb j h6).2 ho2 (by simpa[BR,ho2] using hd);refine⟨v,hv1,?_⟩;rw[hspq u j h5];exact hv2)) (λd hd q hq=>ho5 d q hq (λwr hwr hdw=>by
     cases hS:S wr with
     | false=>rfl
     | true=>have:=ho6 wr i d hwr hi hdw hd hS;rw[this] at hun;cases hun))
  by_cases hi0:i=i0
  ·subst hi0;rw[W8 rfl] at hat;rw[hun] at h1;have h1':St c H Z w:=by simpa using h1
   have key:=λK' hK'=>hat u a w Z K' hag' h1' hK';have h5:∀u' v w' Z',Fz.le Z Z'→((E0 sp i).r u').p Z' v→St c (H1 u') Z' w'→K (a.put o.dst v) w':=λu' v w' Z' hz hpv hs'=>by
    refine hK _ _ ⟨u',Z',by simpa using hs',hagr v Z' hz,hvals v Z' u' hz (λj hj hji hSj=>?_) (λ_=>hpv),λj _ _ _=>by simp,hold' Z' hz v,hord⟩;refine hst.at (hsa j hj) ?_ u' u
    cases hd:(E0 sp j).dyn with
    | false=>rfl
    | true=>have:=hx j hj hd hSj;rw[this] at hun;cases hun
   refine⟨λ_=>(key K h5).2,λhw'=>?_⟩;rw[(key K h5).1] at hw';cases hw'
  ·rw[W6 hi0] at hat;refine hat u _ (by split;exact .inr rfl;exact .inl rfl) a w Z K hag' h1 (λv w' Z' hz hp hst'=>hK _ _ ⟨u,Z',?_,hagr v Z' hz,hvals v Z' u hz (λ_ _ _ _=>rfl) (λ_=>hp),λj hj hd hSj=>?_,hold' Z' hz v,hord⟩)
   ·have hiS:(i0 ==i||S i0)=S i0:=by
     have:(i0 ==i)=false:=by simpa using λe=>hi0 e.symm
     rw[this];rfl
    show St c (if (i0 ==i||S i0)=true then H1 u else H) Z' w';rw[hiS];exact hst'
   ·have hii:(i0 ==i)=false:=by simpa using λe=>hi0 e.symm
    show(i0 ==i||S i0)=true;rw[hii,W7]
    by_cases hji:j=i
    ·subst hji;have h7:=b4 j hj;rw[hdyn j hj,hd] at h7;simp only[W1,W7,WE,beq_iff_eq,hi0,false_or,List.any_eq_true,Wu,Wp] at h7;obtain⟨e,he,heN,h8⟩:=h7;rw[Ww,ho,WI] at he;have hSe:=(hb e he).2;rcases h8 with h8 | h8
     ·subst h8;exact hSe
     ·rw[hdyn e heN] at h8;exact hx e heN h8 hSe
    ·exact hx j hj hd (by simpa[hji] using hSj)
 ·obtain⟨u,Z,h1,h2,h3,_,_,_⟩:=hI;have hsl:(Vn sp u).length=N:=by simp[Vn,hsp]
  refine h u a w Z (MM h2 _ _ 0 (λt o s d ht hs hd=>?_)) (by simpa using h1);have htN:t<N:=by have:=(List.getElem?_eq_some_iff.1 hs).1;omega
  have hs':s = { deps:=(E0 sp t).deps,r:=(E0 sp t).r u }:=by
   simp only[Vn,Xb,hsa t htN,Option.map_some,Option.some.injEq] at hs;exact hs.symm
  subst hs';rw[WW];exact h3 t o d htN rfl (by rw[← hget t htN];exact ht) hd
theorem Ur [Inhabited U]{id:Nat}{ops:List Oper}(N i0:Nat)(ks0 ksw:List Nat)(sp:List (Sx U))(H1:U→List Ent)(hob:Ik P n c ops.toArray Q ops sp l0 lw i0 H H1 0 (ops.take N))(h:∀u,WL P n c ops.toArray Q (ops.drop N) (JP (λ_=>0) (ops.take N) (Vn sp u) 0 l0) (H1 u))
  (h0:Kp ks0 l l0:=by repeat (first | exact Lw | (apply Jw;rfl) | (apply JX;rfl))) (hw:Kp ksw l lw:=by repeat (first | exact Lw | (apply Jw;rfl) | (apply JX;rfl))) (hm:P.follows .mixedOrders=true:=by kernel_rfl) (hB:VP n ops N i0 (DF l0) (sp.map (·.deps)) (sp.map (·.dyn)) (sp.map (·.old))=true:=by kernel_rfl)
  (hsp:sp.length=N:=by rfl) (hst:Ll sp:=by repeat (first | exact VL | apply VN | apply VM)):WC P n c (.region id ops.toArray true) Q l H:=SZ N i0 sp hm hB h0.one hw.one hsp hst hob h
theorem Vq {all rest:List Oper}{d:Nat}{op:Op}{ty:TypeId}{pos:String}{af:Array Edge}{i:Nat}(hr:∀{u H},Bl P n c (El lw (E0 sp i).old (Bv all (Rj sp u) (E0 sp i).deps l0)) H { dst:=some d,op:=op,type:=ty,pos:=pos,after:=af,guard:=none } ((E0 sp i).r u))(h:Ik P n c opsA Q all sp l0 lw i0 H H1 (i+1) rest)(hne:Nat.beq i i0=false:=by rfl) :
  Ik P n c opsA Q all sp l0 lw i0 H H1 i ({ dst:=some d,op:=op,type:=ty,pos:=pos,after:=af,guard:=none }::rest):=by
 refine⟨?_,h⟩;rw[W6 (λe=>by subst e;simp at hne)];exact λu H _=>HB hr
theorem Wj {all rest:List Oper}{o:Oper}{i:Nat}(hr:∀{u H},Dd P n c opsA Q (El lw (E0 sp i).old (Bv all (Rj sp u) (E0 sp i).deps l0)) H o ((E0 sp i).r u) H)(h:Ik P n c opsA Q all sp l0 lw i0 H H1 (i+1) rest)(hne:Nat.beq i i0=false:=by rfl):Ik P n c opsA Q all sp l0 lw i0 H H1 i (o::rest):=by
 refine⟨?_,h⟩;rw[W6 (λe=>by subst e;simp at hne)];exact λu H _=>hr
theorem VD {all rest:List Oper}{o:Oper}{i:Nat}(hr:∀{u},Dd P n c opsA Q (El lw (E0 sp i).old (Bv all (Rj sp u) (E0 sp i).deps l0)) H o ((E0 sp i).r u) H)(hr1:∀{u},Dd P n c opsA Q (El lw (E0 sp i).old (Bv all (Rj sp u) (E0 sp i).deps l0)) (H1 u) o ((E0 sp i).r u) (H1 u))(h:Ik P n c opsA Q all sp l0 lw i0 H H1 (i+1) rest)(hne:Nat.beq i i0=false:=by rfl):Ik P n c opsA Q all sp l0 lw i0 H H1 i (o::rest):=by
 refine⟨?_,h⟩;rw[W6 (λe=>by subst e;simp at hne)];intro u H' hH';rcases hH' with e | e
 ·subst e;exact hr
 ·subst e;exact hr1
theorem Wh {all rest:List Oper}{o:Oper}(hr:∀{u},VG P n c opsA Q (El lw (E0 sp i0).old (Bv all (Rj sp u) (E0 sp i0).deps l0)) H o (E0 sp i0).r H1)(h:Ik P n c opsA Q all sp l0 lw i0 H H1 (i0+1) rest):Ik P n c opsA Q all sp l0 lw i0 H H1 i0 (o::rest):=by
 refine⟨?_,h⟩;rw[W8 rfl];exact λu=>hr
theorem Wi {all:List Oper}{i:Nat}:Ik P n c opsA Q all sp l0 lw i0 H H1 i []:=trivial
end
section
variable {P : Program} {n : Nat} {c : Cx} {opsA : Array Oper} {Q : Exit → Act → World → Prop} {l : Fr} {H : List Ent} {d : Nat} {x y : Operand} {ty t e : TypeId} {pos : String} {af : Array Edge} {v : Value} {sz : Nat}
theorem Rr {α:Type}{xs ys:List α}{enc:α→List Rp}{i:Nat}{inf:TypeInfo}{z:Value}{bytes:Nat}(ht:P.underlying t=some (.slice e))(hinf:P.info? e=some inf)(hz:inf.zero=some z)(hsize:inf.size=sz)(hby:inf.bytes=bytes)(hzs:z.cells.size=sz)(hsz:Nat.blt 0 sz=true)(hbp:Nat.blt 0 bytes=true)
  (hx:ev l x=some (rv v)) (hi:H[i]? =some (.row v e sz (xs.map enc))) (hy:Om P n c l H y sz ys.length (ys.map enc).flatten) (henc:∀z,(enc z).length=sz) (hone:∀z,(enc z).all (·.one)=true) (hg:HO bytes (xs.length+ys.length)=true) :
  VG P n c opsA Q l H { dst:=some d,op:=.call { callee:=.builtin .append,args:=#[x,y],argTypes:=#[t,t] },type:=ty,pos:=pos,after:=af,guard:=none } (λv'=>rv v') (λv'=>.row v' e sz ((xs++ys).map enc)::H.eraseIdx i):=λa w Z K ha hw hK=>by
  obtain⟨h0,us,h1,h2⟩:=hw.ent hi;obtain⟨ws,h3,h4⟩:=hy a w Z ha hw;have hsz':0<sz:=by simpa using hsz
  have hbp':0<bytes:=by simpa using hbp
  have hb:(xs.length+ys.length)*bytes≤140737488355328:=by simpa[HO] using hg
  have hle:xs.length+ys.length≤(xs.length+ys.length)*bytes:=Nat.le_mul_of_pos_right _ hbp';have hws:∀y∈ws,y.oneCell'=true:=AX.one (rs:=(ys.map enc).flatten) (by
   rw[WM];intro r hr;obtain⟨cl,hcl,hrc⟩:=List.mem_flatten.1 hr;obtain⟨z',_,rfl⟩:=List.mem_map.1 hcl;exact List.all_eq_true.1 (hone z') r hrc) h3
  have hxl:(xs.map enc).length=xs.length:=W3 ..;rw[hxl] at h1;obtain⟨v',w',e1,e2,e3,e4⟩:=EX (P:=P) ty ht hinf hz hsize hby hzs hsz' h1 h4 hws hb (by simp only[maxLen];omega);have hent:(Ent.row v' e sz ((xs++ys).map enc)).holds Z w':=⟨λcl hcl=>by obtain⟨z',_,rfl⟩:=List.mem_map.1 hcl;exact henc z',us++ws,by simpa using e2,by rw[Xe,List.flatten_append];exact h2.append h3⟩
  have hst:=hw.callF hi (St.one (e':=.row v' e sz ((xs++ys).map enc)) (M:=(Ent.row v e sz (xs.map enc)).foot) hw.frz hw.env hw.emono e3.os e3.tape e3.output e3.size (λk hk hne=>e3.block k hk (λe1=>hne (by simp[Ent.foot,← e1])))
   (hw.zdis _ (Wy hi)) hent (λk hk=>by
    simp only[Ent.foot,Option.mem_toList] at hk ⊢;rcases e4 with e4 | e4
    ·exact .inl (e4▸hk)
    ·exact .inr (e4 k hk)))
  refine⟨by simp[Region.wanted],?_⟩;unfold Oper.wp;rw[show(execOp a.eval { dst:=some d,op:=.call { callee:=.builtin .append,args:=#[x,y],argTypes:=#[t,t] },type:=ty,pos:=pos,after:=af,guard:=none }).run P w = .ok (.value v') w' from by simp[execOp,resolve,invoke,builtin,ha.eval hx,e1]];exact hK v' v' w' Z (Fz.le.refl _) rfl hst
end
abbrev Ux:=Nat→Nat→Value×Nat
def Ag (k:Nat)(u u':Ux):Prop:=∀j,j<k→u j=u' j
def ux (u:Ux)(k:Nat)(f:List (Value×Nat)):Ux:=λj=>bif Nat.beq j k then λq=>f.getD q (undef,0) else u j
structure Sy where
 deps:List Nat
 r:Ux→Rp
 lv:Nat:=0
 fx:Bool:=false
 old:List Nat:=[]
def Ri (sp:List Sy)(i:Nat):Sy:=sp.getD i { deps:=[],r:=λ_=>rv undef }
def VJ (sp:List Sy)(u:Ux):List Sp:=sp.map λs=>⟨s.deps,s.r u,0⟩
def PP:List Sy→Prop
 | []=>True
 | s::r=>(∀u u',Ag s.lv u u'→s.r u=s.r u')∧PP r
theorem PP.at:∀{sp:List Sy},PP sp→∀{i:Nat} {s:Sy},sp[i]? =some s→∀u u',Ag s.lv u u'→s.r u=s.r u'
 | [],_,i,s,h=>by simp at h
 | x::sp,⟨h1,h2⟩,0,s,h=>by simp at h;subst h;exact h1
 | x::sp,⟨h1,h2⟩,i+1,s,h=>PP.at h2 (by simpa using h)
def cnt (S:Nat→Bool)(is:List Nat):Nat:=(is.filter S).length
section
variable (P : Program) (n : Nat) (c : Cx) (opsA : Array Oper) (Q : Exit → Act → World → Prop)
def Wl (l:Fr)(H:List Ent)(o:Oper)(k:Nat)(u:Ux)(r:Ux→Rp)(H1:Ux→List Ent):Prop:=
 ∀a w Z (K:Act→World→Prop),Ch n l a Z→St c H Z w→(∀u' v w' Z',Ag k u u'→Fz.le Z Z'→(r u').p Z' v→St c (H1 u') Z' w'→K (a.put o.dst v) w')→
  Region.wanted o (yielded opsA a.tmps)=true∧o.wp P a w K Q
def Wg (ops:List Oper)(sp:List Sy)(l0 lw:Fr)(is:List Nat)(hs:List (Ux→List Ent))(i:Nat)(o:Oper):Prop:=
 match is.findIdx? (λx=>Nat.beq x i) with
 | some k=>∀u,Wl P n c opsA Q (El lw (Ri sp i).old (Bv ops (VJ sp u) (Ri sp i).deps l0)) (hs.getD k (λ_=>[]) u) o k u (Ri sp i).r (hs.getD (k+1) (λ_=>[]))
 | none=>if (Ri sp i).fx=true then ∀u,Dd P n c opsA Q (El lw (Ri sp i).old (Bv ops (VJ sp u) (Ri sp i).deps l0)) (hs.getD (Ri sp i).lv (λ_=>[]) u) o ((Ri sp i).r u) (hs.getD (Ri sp i).lv (λ_=>[]) u)
  else ∀u k,k≤is.length→Dd P n c opsA Q (El lw (Ri sp i).old (Bv ops (VJ sp u) (Ri sp i).deps l0)) (hs.getD k (λ_=>[]) u) o ((Ri sp i).r u) (hs.getD k (λ_=>[]) u)
def TZ (ops:List Oper)(sp:List Sy)(l0 lw:Fr)(is:List Nat)(hs:List (Ux→List Ent)):Nat→List Oper→Prop
 | i,o::rest=>Wg P n c opsA Q ops sp l0 lw is hs i o∧TZ ops sp l0 lw is hs (i+1) rest
 | _,[]=>True
end
section
variable {P : Program} {n : Nat} {c : Cx} {opsA : Array Oper} {Q : Exit → Act → World → Prop} {l l0 lw : Fr} {H : List Ent} {hs : List (Ux → List Ent)} {sp : List Sy} {is : List Nat}
theorem TZ.at {ops:List Oper}:∀{k:Nat} {rest:List Oper},TZ P n c opsA Q ops sp l0 lw is hs k rest→∀(t:Nat) o,rest[t]? =some o→Wg P n c opsA Q ops sp l0 lw is hs (k+t) o
 | k,o::rest,⟨h1,h2⟩,t,o',ht=>by
  cases t with
  | zero=>simp at ht;subst ht;exact h1
  | succ t=>
   have:=TZ.at h2 t o' (by simpa using ht);rw[show k+(t+1)=k+1+t from by omega];exact this
 | _,[],_,t,o,h=>by simp at h
def Uc (p:List Ent→Prop)(u:Ux):List (Ux→List Ent)→Prop
 | []=>True
 | f::r=>p (f u)∧Uc p u r
theorem Uc.at {p:List Ent→Prop}{u:Ux}:∀{hs:List (Ux→List Ent)},Uc p u hs→∀k,k<hs.length→p (hs.getD k (λ_=>[]) u)
 | [],_,k,h=>absurd h (Nat.not_lt_zero _)
 | f::r,⟨h1,h2⟩,0,_=>h1
 | f::r,⟨h1,h2⟩,k+1,h=>Uc.at h2 k (by simpa using h)
end
section
variable {P : Program} {n : Nat} {c : Cx} {opsA : Array Oper} {Q : Exit → Act → World → Prop} {l : Fr} {H : List Ent} {d : Nat} {x y : Operand} {ty t e : TypeId} {pos : String} {af : Array Edge} {v : Value} {sz : Nat}
end
def LX (k:Nat)(i:Int)(off:Nat)(Z:Fz)(v:Value):Prop:=if i<0 then v = .pointer none else ∃b,Z.nm k i.toNat=some b∧v = .pointer (some ⟨b,off,none⟩)
def BG (k:Nat)(i:Int)(off:Nat):Rp:=⟨LX k i off,fun {Z Z' v} h hp=>by
 unfold LX at *
 split
 ·rename_i h0;rwa [W8 h0] at hp
 ·rename_i h0;rw[W6 h0] at hp;obtain⟨b,h1,h2⟩:=hp;exact⟨b,h.nm k _ b h1,h2⟩,true,λ_ Z v hp=>by
 change LX k i off Z v at hp
 unfold LX at hp
 split at hp
 ·rw[hp];rfl
 ·obtain⟨b,_,h2⟩:=hp;rw[h2];rfl⟩
@[reducible] def eP (k:Nat) (i:Int):List Rp:=[BG k i 0]
theorem Hj (k:Nat)(i:Int):(eP k i).length=1:=rfl
theorem MB (k:Nat)(i:Int):(eP k i).all (·.one)=true:=rfl
@[reducible] def mP (k:Nat) (i:Int):Rp:=BG k i 0
theorem Vw (k:Nat)(Z:Fz):(mP k (-1)).p Z (.pointer none):=rfl
theorem JO.pnil (k:Nat):JO (rv (.pointer none)) (BG k (-1) 0):=λZ v h=>h
section
variable {P : Program} {n : Nat} {c : Cx} {ops : Array Oper} {Q : Exit → Act → World → Prop} {rest : List Oper} {l : Fr} {H H' : List Ent} {d : Nat} {d' : Option Nat} {x y : Operand} {ty t t' e : TypeId} {pos : String} {af : Array Edge} {g : Option (Nat × Bool)} {v u : Value} {r : Rp} {sz k : Nat} {pv : Value} {α : Type} [Inhabited α] {xs : List α} {enc : α → List Rp}
theorem Kk {Z:Fz}{w:World}{j off:Nat}{i:Int}(hw:St c H Z w)(hi:H[j]? =some (.pool k pv e (xs.map enc)))(hg:Cb i (xs.length:Int)=true)(hp:(BG k i off).p Z v) :
  ∃b us,v = .pointer (some ⟨b,off,none⟩)∧(Cy pv)[i.toNat]? =some b∧w.heap[b]? =some (.cells us.toArray e (0,0))∧AX Z (enc (Ac xs i)) us:=by
 obtain⟨h0,hl,h⟩:=hw.ent hi;have hi0:=(Bt hg).1;have hi1:i.toNat<xs.length:=by have:=(Bt hg).2;omega
 have hb:i.toNat<(Cy pv).length:=by rw[hl,W3];exact hi1
 obtain⟨h1,us,h2,h3⟩:=h i.toNat (Cy pv)[i.toNat] (enc xs[i.toNat]) (Wv hb) (by simp[hi1])
 change LX k i off Z v at hp
 unfold LX at hp;rw[W6 (by omega)] at hp;obtain⟨b,h4,h5⟩:=hp;rw[h1] at h4;obtain rfl:=Option.some.inj h4;exact⟨_,us,h5,Wv hb,h2,by rw[show Ac xs i=xs[i.toNat] from by simp[Ac,hi1]];exact h3⟩
theorem Cm {j off:Nat}{i:Int}(hag:∀w,(isAgg t).run P w = .ok false w)(hx:ev l x=some (BG k i off))(hi:H[j]? =some (.pool k pv e (xs.map enc)))(hg:Cb i (xs.length:Int)=true)(hc:(enc (Ac xs i))[off]? =some r) :
  Bl P n c l H { dst:=d',op:=.load t x,type:=ty,pos:=pos,after:=af,guard:=g } r:=λa w Z ha hw=>by
 obtain⟨b,us,e1,_,h1,h2⟩:=Kk hw hi hg (ha.ev hx);obtain⟨u,hu,hp⟩:=h2.at hc;have hcell:w.cell? ⟨b,off,none⟩=some u:=by rw[cell_of_row w b off _ e (0,0) h1];simpa using hu
 exact⟨u,hp,by simp[execOp,e1,Instr.loadAt,Instr.sureAddr,loadVar,hag,hcell]⟩
theorem Js {j off:Nat}{i:Int}{rs:List Rp}(hag:∀w,(isAgg t).run P w = .ok true w)(hsz:∀w,(sizeOf t).run P w = .ok sz w)(hx:ev l x=some (BG k i off))(hi:H[j]? =some (.pool k pv e (xs.map enc)))(hg:Cb i (xs.length:Int)=true)
  (hr:((enc (Ac xs i)).drop off).take sz=rs) (hl:rs.length=sz):Bl P n c l H { dst:=d',op:=.load t x,type:=ty,pos:=pos,after:=af,guard:=g } (B2 rs):=λa w Z ha hw=>by
 obtain⟨b,us,e1,_,h1,h2⟩:=Kk hw hi hg (ha.ev hx);have h3:=(h2.drop off).take sz;rw[hr] at h3;have hlen:=h3.length;have h4:=run_loadCells_list (P:=P) w ⟨b,off,none⟩ ((us.drop off).take sz) (λj u hj=>by
  rw[HD,cell_of_row w b _ _ e (0,0) h1];rw[Xc] at hj
  split at hj
  ·simpa using hj
  ·cases hj)
 rw[hlen,hl] at h4;exact⟨.agg ((us.drop off).take sz).toArray,⟨_,rfl,h3⟩,by simp[execOp,e1,Instr.loadAt,Instr.sureAddr,loadVar,hag,hsz,h4]⟩
theorem Bf {off:Nat}{i:Int}(hx:ev l x=some (BG k i off))(hg:decide (0≤i)=true):Bl P n c l H { dst:=d',op:=.nilCheck x,type:=ty,pos:=pos,after:=af,guard:=g } (BG k i off):=λa w Z ha hw=>by
 have h:=ha.ev hx;have h':=h
 change LX k i off Z _ at h
 unfold LX at h;rw[W6 (by have:=Xa hg;omega)] at h;obtain⟨b,_,e1⟩:=h;exact⟨a.eval x,h',by simp[execOp,e1]⟩
theorem BQ {off off' i:Nat}{q:Int}{fs:Array Field}{f:Field}(hu:P.underlying t=some (.struct fs))(hf:fs[i]? =some f)(hsz:∀w,(sizeOf f.type).run P w = .ok (sz+1) w)
  (hx:ev l x=some (BG k q off)) (hg:decide (0≤q)=true) (ho:off+f.offset=off'):Bl P n c l H { dst:=d',op:=.fieldAddr t x i,type:=ty,pos:=pos,after:=af,guard:=g } (BG k q off'):=λa w Z ha hw=>by
 have h:=ha.ev hx
 change LX k q off Z _ at h
 unfold LX at h;have h0:=Xa hg;rw[W6 (by omega)] at h;obtain⟨b,h1,e1⟩:=h;subst ho;refine⟨.pointer (some ⟨b,off+f.offset,none⟩),?_,by simp[execOp,e1,Instr.fieldAt,run_underlying hu,hf,Instr.sureAddr,fieldPlace,hsz,HD]⟩;show LX k q (off+f.offset) Z _;unfold LX;rw[W6 (by omega)];exact⟨b,h1,rfl⟩
theorem St.poolset {β:Type}{xs:List β}{enc:β→List Rp}{Z:Fz}{w:World}{j b:Nat}{i:Int}{us us':List Value}{y':β}(hw:St c H Z w)(hi:H[j]? =some (.pool k pv e (xs.map enc)))(hb:(Cy pv)[i.toNat]? =some b)(h1:w.heap[b]? =some (.cells us.toArray e (0,0)))(h2:AX Z (enc y') us') :
  St c (H.set j (.pool k pv e ((xs.set i.toNat y').map enc))) Z (w.setRow b us'.toArray):=by
 obtain⟨h0,hl,h⟩:=hw.ent hi;have hbl:=(List.getElem?_eq_some_iff.1 hb).1;refine hw.setp hi rfl rfl rfl (by simp[World.setRow]) (λq _ hq=>?_) ⟨h0,by simpa using hl,λi' b' cs h3 h4=>?_⟩ (λq hq=>.inl hq) rfl rfl
 ·have:q≠b:=λe=>hq (by subst e;exact Wy hb);simp only[World.setRow,Array.getElem?_modify];rw[W6 (λe=>this e.symm)]
 ·rw[List.map_set,List.getElem?_set] at h4
  split at h4
  ·rename_i hii
   subst hii
   split at h4
   ·rw[hb] at h3;obtain rfl:=Option.some.inj h3;obtain rfl:=Option.some.inj h4;obtain⟨g1,_⟩:=h i.toNat b _ hb (Wv (by omega));exact⟨g1,us',setRow_heap w b _ _ e (0,0) h1,h2⟩
   ·cases h4
  ·rename_i hii
   obtain⟨g1,vs,g2,g3⟩:=h i' b' cs h3 h4;have hne:b'≠b:=λe=>hii (by
    subst e;have e1:=(List.getElem?_eq_some_iff.1 h3)
    have e2:=(List.getElem?_eq_some_iff.1 hb)
    exact(List.getElem_inj h0).1 (e2.2.trans e1.2.symm))
   refine⟨g1,vs,?_,g3⟩;simp only[World.setRow,Array.getElem?_modify];rw[W6 (λe=>hne e.symm)];exact g2
theorem JN {j off:Nat}{i:Int}{y':α}(hag:∀w,(sizeOf t).run P w = .ok 1 w)(hx:ev l x=some (BG k i off))(hy:ev l y=some r)(hv:MP H r)(hi:H[j]? =some (.pool k pv e (xs.map enc)))(hg:Cb i (xs.length:Int)=true)
  (hy':(enc (Ac xs i)).set off r=enc y') (hlt:Nat.blt off (enc (Ac xs i)).length=true) (hH:H.set j (.pool k pv e ((xs.set i.toNat y').map enc))=H') :
  TX P n c l H { dst:=none,op:=.store t x y,type:=ty,pos:=pos,after:=af,guard:=none } H':=λa w Z ha hw=>by
  obtain⟨b,us,e1,hb,h1,h2⟩:=Kk hw hi hg (ha.ev hx);have hr:=ha.ev hy;have hone:=hv c Z w _ hw hr;have hlen:=h2.length;have hlt':off<us.length:=by rw[hlen];simpa using hlt
  have h4:=run_storeCells_at P b off e [a.eval y] 0 us.toArray w h1 (by simp;omega) (by simpa using hone);have hcv:=Bw hone;have h3:us.take off++[a.eval y]++us.drop (off+1)=us.set off (a.eval y):=by
   simp[List.set_eq_take_append_cons_drop,hlt']
  simp only[Nat.add_zero,Wx,Xf,WW] at h4;rw[h3] at h4;refine⟨w.setRow b (us.set off (a.eval y)).toArray,?_,?_⟩
  ·simp[execOp,e1,Instr.storeAt,Instr.sureAddr,storeVar,hag,hcv,h4]
  ·subst hH;exact hw.poolset hi hb h1 (by rw[← hy'];exact h2.set off hr)
theorem Hv {j off:Nat}{i:Int}{y':α}(hag:∀w,(sizeOf t).run P w = .ok 1 w)(hx:ev l x=some (BG k i off))(hy:ev l y=some r)(hv:MP H r)(hi:H[j]? =some (.pool k pv e (xs.map enc)))(hg:Cb i (xs.length:Int)=true)
  (hy':(enc (Ac xs i)).set off r=enc y') (hlt:Nat.blt off (enc (Ac xs i)).length=true) (hH:H.set j (.pool k pv e ((xs.set i.toNat y').map enc))=H') (h:WL P n c ops Q rest l H') :
  WL P n c ops Q ({ dst:=none,op:=.store t x y,type:=ty,pos:=pos,after:=af,guard:=none }::rest) l H:=
 LZ λa w Z ha hw=>by
  obtain⟨b,us,e1,hb,h1,h2⟩:=Kk hw hi hg (ha.ev hx);have hr:=ha.ev hy;have hone:=hv c Z w _ hw hr;have hlen:=h2.length;have hlt':off<us.length:=by rw[hlen];simpa using hlt
  have h4:=run_storeCells_at P b off e [a.eval y] 0 us.toArray w h1 (by simp;omega) (by simpa using hone);have hcv:=Bw hone;have h3:us.take off++[a.eval y]++us.drop (off+1)=us.set off (a.eval y):=by
   simp[List.set_eq_take_append_cons_drop,hlt']
  simp only[Nat.add_zero,Wx,Xf,WW] at h4;rw[h3] at h4;refine⟨w.setRow b (us.set off (a.eval y)).toArray,H',?_,?_,h⟩
  ·simp[execOp,e1,Instr.storeAt,Instr.sureAddr,storeVar,hag,hcv,h4]
  ·subst hH;exact hw.poolset hi hb h1 (by rw[← hy'];exact h2.set off hr)
theorem St.adopt0 {Z:Fz}{w:World}{b:Nat}{cs:List Rp}{ys:List (List Rp)}{Hr:List Ent}{pv':Value}(h:St c (.blk b cs e::.pool k pv e ys::Hr) Z w)(hpv:Cy pv'=Cy pv++[b]):∃Z',Fz.le Z Z'∧Z'.nm k ys.length=some b∧St c (.pool k pv' e (ys++[cs])::Hr) Z' w:=by
 obtain⟨us,hb1,hb2⟩:=h.has (.blk b cs e) (by simp);obtain⟨h0,hl,hp⟩:=h.has (.pool k pv e ys) (by simp);have hd:=List.pairwise_cons.1 h.dis;have hd2:=List.pairwise_cons.1 hd.2;have gd:=List.pairwise_cons.1 h.gst.dis;have gd2:=List.pairwise_cons.1 gd.2;have hcap:=h.gst.cap (.pool k pv e ys) (by simp) k (by simp[Ent.gk]);have hksz:=h.gst.sz (.pool k pv e ys) (by simp) k (by simp[Ent.gk]);have hkown:=h.gst.own (.pool k pv e ys) (by simp) k (by simp[Ent.gk])
 let Z':Fz:=⟨Z.f,λq i=>if q=k∧i=ys.length then some b else Z.nm q i⟩
 have hnew:Z'.nm k ys.length=some b:=by simp[Z']
 have hle:Fz.le Z Z':=⟨λ_ _ h=>h,λq i b' hq=>by
  by_cases hqi:q=k∧i=ys.length
  ·obtain⟨rfl,rfl⟩:=hqi;rw[hcap _ (by simp[Ent.gn,hl])] at hq;cases hq
  ·simpa[Z',hqi] using hq⟩
 have hbn:b ∉ Cy pv:=λhbs=>hd.1 (.pool k pv e ys) (by simp) b (by simp[Ent.foot]) hbs;refine⟨Z',hle,hnew,h.os,h.tape,h.output,h.size,h.old,λen he=>?_,λen he q hq=>?_,?_,⟨λb o hb=>h.frz.f b o hb,λq i b' hq=>?_⟩,h.le.trans hle,λb o hb=>h.new b o hb,λen he q hq=>?_,h.emono hle h.env,h.emono,⟨λen he q hq=>?_,λen he q hq=>?_,?_,λq i b' hq=>?_,λen he q hq i hi=>?_⟩⟩
 ·rcases List.mem_cons.1 he with rfl | he
  ·refine⟨by rw[hpv];exact List.nodup_append.2 ⟨h0,by simp,λx hx y hy e=>by simp at hy;subst hy;exact hbn (e▸hx)⟩,by rw[hpv];simp[hl],λi b' cs' h1 h2=>?_⟩
   ·rw[hpv] at h1
    by_cases hi:i<(Cy pv).length
    ·rw[Xi hi] at h1;rw[Xi (by omega)] at h2;obtain⟨g1,vs,g2,g3⟩:=hp i b' cs' h1 h2;exact⟨hle.nm k i b' g1,vs,g2,g3.mono hle⟩
    ·have hi2:i=(Cy pv).length:=by have:=(List.getElem?_eq_some_iff.1 h1).1;simp at this;omega
     subst hi2;simp at h1;subst h1;rw[hl] at h2;simp at h2;subst h2;exact⟨by rw[hl];exact hnew,us,hb1,hb2.mono hle⟩
  ·exact Ent.keep (h.has en (by simp[he])) hle λ_ _=>rfl
 ·rcases List.mem_cons.1 he with rfl | he
  ·rcases List.mem_append.1 (hpv▸(show q∈Cy pv' from hq)) with hq | hq
   ·exact h.own (.pool k pv e ys) (by simp) q hq
   ·simp at hq;subst hq;exact h.own (.blk q cs e) (by simp) q (by simp[Ent.foot])
  ·exact h.own en (by simp[he]) q hq
 ·refine List.pairwise_cons.2 ⟨λen he q hq hq'=>?_,hd2.2⟩;rcases List.mem_append.1 (hpv▸(show q∈Cy pv' from hq)) with hq | hq
  ·exact hd2.1 en he q hq hq'
  ·simp at hq;subst hq;exact hd.1 en (by simp[he]) q (by simp[Ent.foot]) hq'
 ·by_cases hqi:q=k∧i=ys.length
  ·rw[hqi.1];exact hksz
  ·exact h.frz.nm q i b' (by simpa[Z',hqi] using hq)
 ·rcases List.mem_cons.1 he with rfl | he
  ·rcases List.mem_append.1 (hpv▸(show q∈Cy pv' from hq)) with hq | hq
   ·exact h.zdis (.pool k pv e ys) (by simp) q hq
   ·simp at hq;subst hq;exact h.zdis (.blk q cs e) (by simp) q (by simp[Ent.foot])
  ·exact h.zdis en (by simp[he]) q hq
 ·rcases List.mem_cons.1 he with rfl | he
  ·simp[Ent.gk] at hq;subst hq;exact hkown
  ·exact h.gst.own en (by simp[he]) q hq
 ·rcases List.mem_cons.1 he with rfl | he
  ·simp[Ent.gk] at hq;subst hq;exact hksz
  ·exact h.gst.sz en (by simp[he]) q hq
 ·exact List.pairwise_cons.2 ⟨λen he q hq hq'=>gd2.1 en he q hq hq',gd2.2⟩
 ·by_cases hqi:q=k∧i=ys.length
  ·rw[hqi.1];exact .inr hkown
  ·exact h.gst.new q i b' (by simpa[Z',hqi] using hq)
 ·rcases List.mem_cons.1 he with rfl | he
  ·simp[Ent.gk] at hq;subst hq;simp[Ent.gn,hpv] at hi;have : ¬ i=ys.length:=by omega
   simp only[Z',this,and_false,Xd];exact hcap i (by simp[Ent.gn];omega)
  ·have hqk:q≠k:=λe1=>gd2.1 en he k (by simp[Ent.gk]) (e1▸hq);simp only[Z',hqk,false_and,Xd];exact h.gst.cap en (by simp[he]) q hq i hi
theorem St.adopt {Z:Fz}{w:World}{b:Nat}{cs:List Rp}{ys:List (List Rp)}{Hr:List Ent}(h:St c (.blk b cs e::.pool k pv e ys::Hr) Z w):∃Z',Fz.le Z Z'∧Z'.nm k ys.length=some b∧St c (.pool k (UC (Cy pv++[b])) e (ys++[cs])::Hr) Z' w:=St.adopt0 h (TR _)
theorem LX.of {Z:Fz}{b N:Nat}(h:Z.nm k N=some b):∀v,(rv (.pointer (some ⟨b,0,none⟩))).p Z v→(BG k (N:Int) 0).p Z v:=λv hv=>by
 show LX k N 0 Z v;unfold LX;rw[W6 (by omega)];exact⟨b,by simpa using h,hv⟩
def SO (l:Fr)(b:Nat):List Nat→Prop
 | []=>True
 | d::ds=>look l d=some (rv (.pointer (some ⟨b,0,none⟩)))∧SO l b ds
def Vi (k N:Nat):List Nat→Fr→Fr
 | [],l=>l
 | d::ds,l=>(d,BG k (N:Int) 0)::Vi k N ds l
theorem MK {Z:Fz}{a:Act}{b N:Nat}{l:Fr}(ha:Ch n l a Z)(hn:Z.nm k N=some b):∀{ds:List Nat},SO l b ds→Ch n (Vi k N ds l) a Z
 | [],_=>ha
 | d::ds,⟨h1,h2⟩=>by
  have h3:=MK ha hn h2;refine⟨h3.size,h3.defers,λi u hi=>?_⟩;rw[Vi,BD] at hi
  split at hi
  ·rename_i e;subst e;simp at hi;subst hi
   obtain⟨v,h4,h5⟩:=ha.tm d _ h1;exact⟨v,h4,LX.of hn v h5⟩
  ·exact h3.tm i u hi
theorem St.adoptE {β:Type}{xs:List β}{enc:β→List Rp}{Z:Fz}{w:World}{b:Nat}{y:β}{Hr:List Ent}{cs:List Rp}(hw:St c H Z w)(hp:H.Perm (.blk b cs e::.pool k pv e (xs.map enc)::Hr))(hcs:cs=enc y) :
  ∃Z' pv',Fz.le Z Z'∧Z'.nm k xs.length=some b∧St c (.pool k pv' e ((xs++[y]).map enc)::Hr) Z' w:=by
 obtain⟨Z',h1,h2,h3⟩:=(hw.perm hp).adopt;subst hcs;rw[W3] at h2;exact⟨Z',_,h1,h2,by rw[Xe];exact h3⟩
theorem WL.adopt {β:Type}{xs:List β}{enc:β→List Rp}{b:Nat}{y:β}{Hr:List Ent}{cs:List Rp}(hp:H.Perm (.blk b cs e::.pool k pv e (xs.map enc)::Hr))(ds:List Nat)(hd:SO l b ds)(hcs:cs=enc y)
  (h:∀pv',WL P n c ops Q rest (Vi k xs.length ds l) (.pool k pv' e ((xs++[y]).map enc)::Hr)):WL P n c ops Q rest l H:=λa w Z ha hw=>by
 obtain⟨Z',pv',h1,h2,h3⟩:=St.adoptE hw hp hcs;exact h pv' a w Z' (MK (ha.mono h1) h2 hd) h3
theorem WC.adopt {β:Type}{xs:List β}{enc:β→List Rp}{b:Nat}{y:β}{Hr:List Ent}{cs:List Rp}{xx:Code}(hp:H.Perm (.blk b cs e::.pool k pv e (xs.map enc)::Hr))(ds:List Nat)(hd:SO l b ds)(hcs:cs=enc y)
  (h:∀pv',WC P n c xx Q (Vi k xs.length ds l) (.pool k pv' e ((xs++[y]).map enc)::Hr)):WC P n c xx Q l H:=λa w Z ha hw=>by
 obtain⟨Z',pv',h1,h2,h3⟩:=St.adoptE hw hp hcs;exact h pv' a w Z' (MK (ha.mono h1) h2 hd) h3
theorem WK.adopt {β:Type}{xs:List β}{enc:β→List Rp}{b:Nat}{y:β}{Hr:List Ent}{cs:List Rp}{K:Act→World→Prop}(hp:H.Perm (.blk b cs e::.pool k pv e (xs.map enc)::Hr))(ds:List Nat)(hd:SO l b ds)(hcs:cs=enc y)
  (h:∀pv',WK n c K (Vi k xs.length ds l) (.pool k pv' e ((xs++[y]).map enc)::Hr)):WK n c K l H:=λa w Z ha hw=>by
 obtain⟨Z',pv',h1,h2,h3⟩:=St.adoptE hw hp hcs;exact h pv' a w Z' (MK (ha.mono h1) h2 hd) h3
theorem Hl:Cy (.tuple #[])=[]:=rfl
theorem GP (hn:Nat.blt d n=true)(h:∀b,WL P n c ops Q rest ((d,rv (.map (some b)))::l) (.pool b (.tuple #[]) e []::.map b []::H)) :
  WL P n c ops Q ({ dst:=some d,op:=.makeMap t none,type:=ty,pos:=pos,after:=af,guard:=none }::rest) l H:=
 HS (λa w Z ha hw=>by
  have h1:=hw.alloc (.map #[] 0) (e:=.map w.heap.size []) ⟨#[],0,by simpa using heap_alloc_new w _,by simp,by simp,by simp,[],Wr _,trivial⟩ rfl;refine⟨_,w.alloc (.map #[] 0),_,_,Z,by simp[execOp,run_makeMap],Fz.le.refl _,rfl,?_,h w.heap.size⟩;have hz:∀i,Z.nm w.heap.size i=none:=λi=>by
   cases hq:Z.nm w.heap.size i with
   | none=>rfl
   | some b=>have:=hw.frz.nm _ _ _ hq;omega
  have hold:∀en∈(Ent.map w.heap.size []::H),∀q∈en.gk,q<w.heap.size:=λen he q hq=>by
   rcases List.mem_cons.1 he with rfl | he
   ·simp[Ent.gk] at hq
   ·exact hw.gst.sz en he q hq
  refine { h1 with has:=λen he=>?_,own:=λen he q hq=>?_,dis:=List.pairwise_cons.2 ⟨λen he q hq=>by simp[Ent.foot,Hl] at hq,h1.dis⟩,zdis:=λen he q hq=>?_,gst:=⟨λen he q hq=>?_,λen he q hq=>?_,List.pairwise_cons.2 ⟨λen he q hq hq'=>?_,h1.gst.dis⟩,h1.gst.new,λen he q hq i hi=>?_⟩ }
  ·rcases List.mem_cons.1 he with rfl | he
   ·exact⟨by simp[Hl],by simp[Hl],by simp⟩
   ·exact h1.has en he
  ·rcases List.mem_cons.1 he with rfl | he
   ·simp[Ent.foot,Hl] at hq
   ·exact h1.own en he q hq
  ·rcases List.mem_cons.1 he with rfl | he
   ·simp[Ent.foot,Hl] at hq
   ·exact h1.zdis en he q hq
  ·rcases List.mem_cons.1 he with rfl | he
   ·simp[Ent.gk] at hq;subst hq;exact .inl hw.size
   ·exact h1.gst.own en he q hq
  ·rcases List.mem_cons.1 he with rfl | he
   ·simp[Ent.gk] at hq;subst hq;simp
   ·exact h1.gst.sz en he q hq
  ·simp[Ent.gk] at hq;subst hq;have:=hold en he _ hq';omega
  ·rcases List.mem_cons.1 he with rfl | he
   ·simp[Ent.gk] at hq;subst hq;exact hz i
   ·exact h1.gst.cap en he q hq i hi) hn
end
set_option maxRecDepth 100000
set_option maxHeartbeats 4000000
@[reducible] def Af (x:Ap):List Rp:=[rS x.fID,rS x.fTenant,rS x.fSource,rS x.fKey,rI .i64 x.fAt,rS x.fCause,BE 4 (List.map An x.fBody)]
theorem Hi (x:Ap):(Af x).length=7:=rfl
theorem Lb (x:Ap):(Af x).all (·.one)=true:=rfl
@[reducible] def Ad (x:Ab):List Rp:=[rS x.fEvent.fID,rS x.fEvent.fTenant,rS x.fEvent.fSource,rS x.fEvent.fKey,rI .i64 x.fEvent.fAt,rS x.fEvent.fCause,BE 4 (List.map An x.fEvent.fBody),rI .i64 x.fAt,rI .i64 x.fReceives,rB x.fHeld,rI .i64 x.fPlace]
theorem UL:∃inf,Tryz.prog.info? 95=some inf∧inf.zero=some (.agg #[(.int .i64 0),(.int .i64 0),(.string ⟨#[]⟩),(.int .i64 0)])∧inf.size=4∧inf.bytes=40:=by
  have key:(Tryz.prog.info? 95).map (λi=>(i.zero,i.size,i.bytes))=some (some (.agg #[(.int .i64 0),(.int .i64 0),(.string ⟨#[]⟩),(.int .i64 0)]),4,40):=by kernel_rfl
  obtain⟨inf,h1,h2⟩:=Option.map_eq_some_iff.1 key;simp only[Prod.mk.injEq] at h2;exact⟨inf,h1,h2.1,h2.2.1,h2.2.2⟩
theorem SC (ys:(List Al))(r:(List Al))(h:MF ys=some r):Fn Tryz.prog GE 66 [BE 4 (List.map An ys)] [] (λR H=>R=BE 4 (List.map An r)∧H=[]):=by
 refine enter (n:=8) Tryz.func66 Aa Tryz.ntmps66 Aa (λw Z=>?_);refine Bi (l':=[(0,BE 4 (List.map An ys))]) (H':=[]) Aa Aa ?_;unfold MF at h;refine At (wv (r:=rv (.slice none 0 0)) (Aj Aa) (A8 (A1 (At (wm Aa (wv (Q9 JR Aa) (A8 (Rw Aa (λc1=>?_) (λc1=>?_)))))))))
 ·have e2:ys=[]:=List.map_eq_nil_iff.1 (c1 rfl);have h3:some ([]:List Al)=some r:=by rw[e2] at h;exact(AR h).2
  refine At (wv (r:=rv (.slice none 0 0)) (Aj Aa) (A8 (A7 (Ak (WK.up (d:=2) (r:=BE 4 (List.map An ([]:List Al))) Aa (Up.le (JO.nil _)) ?_)))));obtain rfl:=AI h3;exact AA (BZ Tryz.results66 (Ba Aa)) sN ⟨Aa,Aa⟩
 ·refine AH (Bm (At (Cs (ys:=([]:List Al)) (enc:=An) (css:=[]) (xs:=[]) JR MT Uo Aa Aa Aa trivial Aa Ec Aa Aa Aa (λb4=>?_))));refine wm Aa ?_;obtain⟨g6,h7⟩:=AR h;obtain⟨inf,hinf⟩:=UL;refine Ee (xs:=([]:List Al)) (ys:=ys) (enc:=An) (i:=0) JR hinf.1 hinf.2.1 hinf.2.2.1 hinf.2.2.2 Aa Aa Aa Aa Aa (Om.z Aa Aa) Ec Ly g6 Aa (λv5=>?_);refine wa Aa (A8 (A7 (WK.freeze (i:=0) Aa (WK.up (d:=2) (r:=BE 4 (List.map An (([]:List Al)++ys))) Aa (Up.fact (i:=0) Aa) ?_))));obtain rfl:=AI h7;exact AA (BZ Tryz.results66 (Ba Aa)) (sS sN) ⟨Aa,Aa⟩
theorem S8 (F:Nat)(e:Ap)(r:Int)(h:Hk F e=some r):Fn Tryz.prog GE 58 [B2 (Af e)] [] (λR H=>R=rI .i64 r∧H=[]):=by
 refine enter (n:=52) Tryz.func58 Aa Tryz.ntmps58 Aa (λw Z=>?_);refine Bi (l':=[(0,B2 (Af e))]) (H':=[]) Aa Aa ?_;unfold Hk at h;refine At (BT Aa Aa (λb1=>?_));refine wv (r:=rI .i64 0) (Aj Aa) (A8 (A1 (AO [(1,rv (.pointer (some ⟨b1,0,none⟩))),(40,rB ((!(Dg e.fID))||((!(Dg e.fTenant))||((!(Dg e.fSource))||(bif !decide (e.fKey=([]:Ay)) then((!(Dg e.fKey))||((!decide (e.fCause=([]:Ay)))&&(!(Dg e.fCause)))) else((!decide (e.fCause=([]:Ay)))&&(!(Dg e.fCause))))))))] [.blk b1 (Af e) 33] ?_ ?_)))
 ·refine As (wv (Ai Ds Aa EI Aa Aa) (wv (Aw (i:=0) EJ Aa Aa Aa) (Do (rs:=[rS e.fID]) (r:=rB (Dg e.fID)) PY Aa (QO e.fID) Aa Aa (wv (Cz Aa) (wm Aa (AP (!(Dg e.fID)) (λc2=>?_) (λc2=>?_)))))))
  ·refine wf c2 (wf c2 (wf c2 (wf c2 (wv (r:=rB true) (Ar (b:=!(Dg e.fID)) Aa c2 Aa) (wm Aa (Am (b:=true) Aa Aa Aa Aa (Am (b:=true) Aa Aa Aa Aa (Am (b:=true) Aa Aa Aa Aa (Am (b:=true) Aa Aa Aa Aa (wv (r:=rB true) (Ar (b:=true) Aa Aa Aa) (wm Aa (Am (b:=true) Aa Aa Aa Aa (Am (b:=true) Aa Aa Aa Aa (Am (b:=true) Aa Aa Aa Aa (Am (b:=true) Aa Aa Aa Aa (wu (wu (wu (wu (Am (b:=true) Aa Aa Aa Aa (wv (r:=rB true) (Ar (b:=true) Aa Aa Aa) (wm Aa (Am (b:=true) Aa Aa Aa Aa ?_)))))))))))))))))))))));refine Am (b:=true) Aa Aa Aa Aa (Am (b:=true) Aa Aa Aa Aa (Am (b:=true) Aa Aa Aa Aa (wu (wu (wu (wu (Am (b:=true) Aa Aa Aa Aa (wv (r:=rB true) (Ar (b:=true) Aa Aa Aa) (Aq ?_)))))))));exact C3 c2
  ·refine wo c2 (wv (Ai Ds Aa EI Aa Aa) (wo c2 (wv (Aw (i:=0) EJ Aa Aa Aa) (wo c2 (Do (rs:=[rS e.fTenant]) (r:=rB (Dg e.fTenant)) PY Aa (QO e.fTenant) Aa Aa (wo c2 (wv (Cz Aa) (GF Aa c2 Aa (wm Aa (AP (!(Dg e.fTenant)) (λc3=>?_) (λc3=>?_)))))))))))
   ·refine wf c3 (wf c3 (wf c3 (wf c3 (wv (r:=rB true) (Ar (b:=!(Dg e.fTenant)) Aa c3 Aa) (wm Aa (Am (b:=true) Aa Aa Aa Aa (Am (b:=true) Aa Aa Aa Aa (Am (b:=true) Aa Aa Aa Aa (Am (b:=true) Aa Aa Aa Aa (wu (wu (wu (wu (Am (b:=true) Aa Aa Aa Aa (wv (r:=rB true) (Ar (b:=true) Aa Aa Aa) (wm Aa (Am (b:=true) Aa Aa Aa Aa (Am (b:=true) Aa Aa Aa Aa (Am (b:=true) Aa Aa Aa Aa (Am (b:=true) Aa Aa Aa Aa (wu (wu (wu ?_)))))))))))))))))))))));refine wu (Am (b:=true) Aa Aa Aa Aa (wv (r:=rB true) (Ar (b:=true) Aa Aa Aa) (Aq ?_)));exact C3 (And.intro c2 c3)
   ·refine wo c3 (wv (Ai Ds Aa EI Aa Aa) (wo c3 (wv (Aw (i:=0) EJ Aa Aa Aa) (wo c3 (Do (rs:=[rS e.fSource]) (r:=rB (Dg e.fSource)) PY Aa (QO e.fSource) Aa Aa (wo c3 (wv (Cz Aa) (GF Aa c3 Aa (wm Aa (AP (!(Dg e.fSource)) (λc4=>?_) (λc4=>?_)))))))))))
    ·refine wf c4 (wf c4 (wf c4 (wf c4 (wu (wu (wu (wu (wf c4 (wv (r:=rB true) (Ar (b:=!(Dg e.fSource)) Aa c4 Aa) (wm Aa (Am (b:=true) Aa Aa Aa Aa (Am (b:=true) Aa Aa Aa Aa (Am (b:=true) Aa Aa Aa Aa (Am (b:=true) Aa Aa Aa Aa (wu (wu (wu (wu (Am (b:=true) Aa Aa Aa Aa (wv (r:=rB true) (Ar (b:=true) Aa Aa Aa) (Aq ?_)))))))))))))))))))));exact C3 (And.intro c2 (And.intro c3 c4))
    ·refine wo c4 (wv (Ai Ds Aa EI Aa Aa) (wo c4 (wv (Aw (i:=0) EJ Aa Aa Aa) (wo c4 (wv (NC Aa Aa) (wo c4 (wm Aa (AP (!decide (e.fKey=([]:Ay))) (λc5=>?_) (λc5=>?_)))))))))
     ·refine wo c5 (wv (Ai Ds Aa EI Aa Aa) (wo c5 (wv (Aw (i:=0) EJ Aa Aa Aa) (wo c5 (Do (rs:=[rS e.fKey]) (r:=rB (Dg e.fKey)) PY Aa (QO e.fKey) Aa Aa (wo c5 (wv (Cz Aa) (wo c4 (Gh Aa c5 Aa (GF Aa c4 Aa (wm Aa (AP (!(Dg e.fKey)) (λc6=>?_) (λc6=>?_)))))))))))))
      ·refine wf c6 (wf c6 (wf c6 (wf c6 (wu (wu (wu (wu (wf c6 (wv (r:=rB true) (Ar (b:=!(Dg e.fKey)) Aa c6 Aa) (Aq ?_))))))))));exact C3 (And.intro c2 (And.intro c3 (And.intro c4 (And.intro c5 c6))))
      ·refine wo c6 (wv (Ai Ds Aa EI Aa Aa) (wo c6 (wv (Aw (i:=0) EJ Aa Aa Aa) (wo c6 (wv (NC Aa Aa) (wo c6 (wm Aa (AP (!decide (e.fCause=([]:Ay))) (λc7=>?_) (λc7=>?_)))))))))
       ·refine wo c7 (wv (Ai Ds Aa EI Aa Aa) (wo c7 (wv (Aw (i:=0) EJ Aa Aa Aa) (wo c7 (Do (rs:=[rS e.fCause]) (r:=rB (Dg e.fCause)) PY Aa (QO e.fCause) Aa Aa (wo c7 (wv (Cz Aa) (wo c6 (Gh Aa c7 Aa (GF Aa c6 Aa (Aq ?_)))))))))));exact C3 (And.intro c2 (And.intro c3 (And.intro c4 (And.intro c5 (And.intro c6 c7)))))
       ·refine wf c7 (wf c7 (wf c7 (wf c7 (wo c6 (wv (r:=rB false) (AE (b:=!decide (e.fCause=([]:Ay))) Aa c7 Aa) (GF Aa c6 Aa (Aq ?_)))))));exact C3 (And.intro c2 (And.intro c3 (And.intro c4 (And.intro c5 (And.intro c6 c7)))))
     ·refine wf c5 (wf c5 (wf c5 (wf c5 (wo c4 (wv (r:=rB false) (AE (b:=!decide (e.fKey=([]:Ay))) Aa c5 Aa) (GF Aa c4 Aa (wm Aa (AZ (b:=false) Aa Aa Aa (wv (Ai Ds Aa EI Aa Aa) (AZ (b:=false) Aa Aa Aa (wv (Aw (i:=0) EJ Aa Aa Aa) (AZ (b:=false) Aa Aa Aa (wv (NC Aa Aa) (AZ (b:=false) Aa Aa Aa (wm Aa (AP (!decide (e.fCause=([]:Ay))) (λc8=>?_) (λc8=>?_)))))))))))))))))
      ·refine wo c8 (wv (Ai Ds Aa EI Aa Aa) (wo c8 (wv (Aw (i:=0) EJ Aa Aa Aa) (wo c8 (Do (rs:=[rS e.fCause]) (r:=rB (Dg e.fCause)) PY Aa (QO e.fCause) Aa Aa (wo c8 (wv (Cz Aa) (AZ (b:=false) Aa Aa Aa (Gh Aa c8 Aa (wv (r:=rB (!(Dg e.fCause))) (AE (b:=false) Aa Aa Aa) (Aq ?_)))))))))));exact C3 (And.intro c2 (And.intro c3 (And.intro c4 (And.intro c5 c8))))
      ·refine wf c8 (wf c8 (wf c8 (wf c8 (AZ (b:=false) Aa Aa Aa (wv (r:=rB false) (AE (b:=!decide (e.fCause=([]:Ay))) Aa c8 Aa) (wv (r:=rB false) (AE (b:=false) Aa Aa Aa) (Aq ?_)))))));exact C3 (And.intro c2 (And.intro c3 (And.intro c4 (And.intro c5 c8))))
 refine AC (b:=((!(Dg e.fID))||((!(Dg e.fTenant))||((!(Dg e.fSource))||(bif !decide (e.fKey=([]:Ay)) then((!(Dg e.fKey))||((!decide (e.fCause=([]:Ay)))&&(!(Dg e.fCause)))) else((!decide (e.fCause=([]:Ay)))&&(!(Dg e.fCause)))))))) Aa (λc9=>?_) (λc9=>?_)
 ·have he:=AV c9 h;refine At (wv (r:=rI .i64 4) (Aj Aa) (A8 (A7 (Ak ?_))));obtain rfl:=AI he;exact AA (BZ Tryz.results58 (Ba Aa)) (sS sN) ⟨Aa,Aa⟩
 ·have hd:=AW c9 h;refine AH (Bm (A1 (AO [(1,rv (.pointer (some ⟨b1,0,none⟩))),(48,rB ((decide (e.fAt<0))||(decide (1073741824<e.fAt))))] [.blk b1 (Af e) 33] ?_ ?_)))
  ·refine As (wv (Ai Ds Aa Cc Aa Aa) (wv (Aw (i:=0) Cq Aa Aa Aa) (wv (EK Aa Aa) (wm Aa (AP (decide (e.fAt<0)) (λha=>?_) (λha=>?_))))))
   ·refine wf ha (wf ha (wf ha (wv (r:=rB true) (Ar (b:=decide (e.fAt<0)) Aa ha Aa) (Aq ?_))));exact C3 ha
   ·refine wo ha (wv (Ai Ds Aa Cc Aa Aa) (wo ha (wv (Aw (i:=0) Cq Aa Aa Aa) (wo ha (wv (Du Aa Aa) (GF Aa ha Aa (Aq ?_)))))));exact C3 ha
  refine AC (b:=((decide (e.fAt<0))||(decide (1073741824<e.fAt)))) Aa (λhb=>?_) (λhb=>?_)
  ·have hf:=AV hb hd;refine At (wv (r:=rI .i64 2) (Aj Aa) (A8 (A7 (Ak ?_))));obtain rfl:=AI hf;exact AA (BZ Tryz.results58 (Ba Aa)) (sS sN) ⟨Aa,Aa⟩
  ·have hg:=AW hb hd;refine AH (Bm (At (wv (Ai Ds Aa Oo Aa Aa) (wv (Aw (i:=0) Rq Aa Aa Aa) ?_))));obtain⟨hh,hi,hj⟩:=Bb hg;refine Ky Tryz.call76 (Rz F e.fBody hh hi) Aa (wa Aa (A8 (A7 ?_)));obtain rfl:=AI hj;exact AA (BZ Tryz.results58 (Ba Aa)) (sS sN) ⟨Aa,Aa⟩
end Go.Proofs.YthbbedliepkakaaGreatDoor.Q
namespace Go.Proofs.YthbbedliepkakaaGreatDoor
open Go
set_option linter.unusedVariables false
structure AG where
 fVisible:Int
 fReceives:Int
 deriving DecidableEq,Inhabited
structure Ah where
 fPolicy:AG
 fWaiting:(List (Ay×Int))
 fDead:(List Ap)
 fNow:Int
 fArrived:Int
 deriving DecidableEq,Inhabited
def K7 (n:Int):Option (Bool):=
 some ((decide (0≤n))&&(decide (n≤1073741824)))
def O3 (e:Ap):Option (Ap):=
 Bq (MF e.fBody) λr3=>some (Ap.mk e.fID e.fTenant e.fSource e.fKey e.fAt e.fCause r3)
def Ix (p:AG):Option ((Ah×(List Ab))×Unit):=
 Bh (((decide (p.fVisible<1))||((decide (1073741824<p.fVisible))||((decide (p.fReceives<1))||(decide (10<p.fReceives)))))) (none) (some (((Ah.mk p ([]:List (Ay×Int)) ([]:List Ap) 0 0),([]:List Ab)),()))
def Nk (p:AG):Option (Unit×Unit):=
 Bh (((decide (p.fVisible<1))||((decide (1073741824<p.fVisible))||((decide (p.fReceives<1))||(decide (10<p.fReceives)))))) (some ((),())) (none)
def Ue (q:Ah):Option (Bool):=
 some true
def Ej (x4:Bool):Option (Bool):=
 some x4
def KA (q:Ah)(now:Int):Option (Bool):=
 Bh (decide (q.fNow≤now)) (Ej (decide (now≤1073741824))) (Ej false)
def Nj (q:Ah)(x:Int)(x_p:(List Ab))(now:Int):Option (Bool):=
 Bd (decide (0≤x))<|Bd (Cb x (x_p.length:Int))<|some ((decide (((Ac x_p x).fAt)≤now))&&(decide (q.fPolicy.fReceives≤((Ac x_p x).fReceives))))
def Tj (x:Int)(x_p:(List Ab))(q:Ah)(now:Int):Option (Bool):=
 Bq (Nj (Ah.mk q.fPolicy [] ([]:List Ap) q.fNow q.fArrived) x x_p now) λr1=>some r1
def Ei (q:Ah)(q_p2:(List Ab))(now:Int)(he:Ay)(ha:Int)(hb:(List Int)):Option (Stp ((List Int)) (Out ((List Int)) ((List Int)))):=
 Bq (Tj ha q_p2 q now) λhd=>Bh (hd) (Bd (HO 8 (hb.length+([ha]:List Int).length))<|some (.next (hb++([ha]:List Int)))) (some (.next hb))
def D0 (q_p2:(List Ab))(ha:(List Int)):Option ((List Int)):=
 Bd (ha.all (λi=>Cb i (q_p2.length:Int)))<|Bd (D1 (λx y:Int=>CM (Ac q_p2 x).fAt (Ac q_p2 y).fAt (Ac q_p2 x).fPlace (Ac q_p2 y).fPlace) ha)<|Bd (Nat.blt ha.length 4611686018427387904)<|some (G2 (λx y:Int=>CM (Ac q_p2 x).fAt (Ac q_p2 y).fAt (Ac q_p2 x).fPlace (Ac q_p2 y).fPlace) ha)
def GT (q:Ah)(q_p2:(List Ab))(now:Int):Option ((List Int)):=
 M0 q.fWaiting λord=>Bq (Lv (λpe τ=>Ei q q_p2 now pe.1 pe.2 τ) ord ([]:List Int)) (B4 λν=>D0 q_p2 ν)
def Tg (x:Int)(x_p:(List Ab))(now:Int):Option (Bool):=
 Bd (decide (0≤x))<|Bd (Cb x (x_p.length:Int))<|some (decide (((Ac x_p x).fAt)≤now))
def Eh (q_p2:(List Ab))(now:Int)(he:Ay)(ha:Int)(hb:(List Int)):Option (Stp ((List Int)) (Out ((List Int)) ((List Int)))):=
 Bq (Tg ha q_p2 now) λhd=>Bh (hd) (Bd (HO 8 (hb.length+([ha]:List Int).length))<|some (.next (hb++([ha]:List Int)))) (some (.next hb))
def Dx (q_p2:(List Ab))(ha:(List Int)):Option ((List Int)):=
 Bd (ha.all (λi=>Cb i (q_p2.length:Int)))<|Bd (D1 (λx y:Int=>CM (Ac q_p2 x).fAt (Ac q_p2 y).fAt (Ac q_p2 x).fPlace (Ac q_p2 y).fPlace) ha)<|Bd (Nat.blt ha.length 4611686018427387904)<|some (G2 (λx y:Int=>CM (Ac q_p2 x).fAt (Ac q_p2 y).fAt (Ac q_p2 x).fPlace (Ac q_p2 y).fPlace) ha)
def GS (q:Ah)(q_p2:(List Ab))(now:Int):Option ((List Int)):=
 M0 q.fWaiting λord=>Bq (Lv (λpe τ=>Eh q_p2 now pe.1 pe.2 τ) ord ([]:List Int)) (B4 λν=>Dx q_p2 ν)
def U0 (x:Int)(x_p:(List Ab))(now:Int):Option (Bool):=
 Bd (decide (0≤x))<|Bd (Cb x (x_p.length:Int))<|some (decide (((Ac x_p x).fAt)≤now))
def EO (q_p2:(List Ab))(now:Int)(he:Ay)(ha:Int)(hb:(List Int)):Option (Stp ((List Int)) (Out ((List Int)) ((List Int)))):=
 Bq (U0 ha q_p2 now) λhd=>Bh (hd) (Bd (HO 8 (hb.length+([ha]:List Int).length))<|some (.next (hb++([ha]:List Int)))) (some (.next hb))
def Dz (q_p2:(List Ab))(ha:(List Int)):Option ((List Int)):=
 Bd (ha.all (λi=>Cb i (q_p2.length:Int)))<|Bd (D1 (λx y:Int=>CM (Ac q_p2 x).fAt (Ac q_p2 y).fAt (Ac q_p2 x).fPlace (Ac q_p2 y).fPlace) ha)<|Bd (Nat.blt ha.length 4611686018427387904)<|some (G2 (λx y:Int=>CM (Ac q_p2 x).fAt (Ac q_p2 y).fAt (Ac q_p2 x).fPlace (Ac q_p2 y).fPlace) ha)
def K9 (q:Ah)(q_p2:(List Ab))(now:Int):Option ((List Int)):=
 M0 q.fWaiting λord=>Bq (Lv (λpe τ=>EO q_p2 now pe.1 pe.2 τ) ord ([]:List Int)) (B4 λν=>Dz q_p2 ν)
def Uy (x:Int)(x_p:(List Ab))(q:Ah)(now:Int):Option (Bool):=
 Bq (Nj (Ah.mk q.fPolicy [] ([]:List Ap) q.fNow q.fArrived) x x_p now) λr1=>some r1
def EN (q:Ah)(q_p2:(List Ab))(now:Int)(he:Ay)(ha:Int)(hb:(List Int)):Option (Stp ((List Int)) (Out ((List Int)) ((List Int)))):=
 Bq (Uy ha q_p2 q now) λhd=>Bh (hd) (Bd (HO 8 (hb.length+([ha]:List Int).length))<|some (.next (hb++([ha]:List Int)))) (some (.next hb))
def Dy (q_p2:(List Ab))(ha:(List Int)):Option ((List Int)):=
 Bd (ha.all (λi=>Cb i (q_p2.length:Int)))<|Bd (D1 (λx y:Int=>CM (Ac q_p2 x).fAt (Ac q_p2 y).fAt (Ac q_p2 x).fPlace (Ac q_p2 y).fPlace) ha)<|Bd (Nat.blt ha.length 4611686018427387904)<|some (G2 (λx y:Int=>CM (Ac q_p2 x).fAt (Ac q_p2 y).fAt (Ac q_p2 x).fPlace (Ac q_p2 y).fPlace) ha)
def K8 (q:Ah)(q_p2:(List Ab))(now:Int):Option ((List Int)):=
 M0 q.fWaiting λord=>Bq (Lv (λpe τ=>EN q q_p2 now pe.1 pe.2 τ) ord ([]:List Int)) (B4 λν=>Dy q_p2 ν)
end Go.Proofs.YthbbedliepkakaaGreatDoor
