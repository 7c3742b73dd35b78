/-
  Texts of the proof, put together: IdC, ShelfV, PlD, PlE, FwJ, IdR, TzL, QG, QS, QO, RowQ, PQB, WQB, PVa, WVa, PVb, WVb, PVc, WVc, PVd, WVd, PVe, WVe, PVf, WVf, PM, PS, PSp, PUa, QU, QT, QN, QM, QI, QW, QV, PH, QJ, QX, QL, Q6, WUa, PUb, Q8.
-/
import Derived.Test.YthbbedliepkakaaGreatDoorQR1
import Derived.Shelf.Strings.Builder1
import Derived.Shelf.Strings.Count
import Derived.Shelf.Strings.Search1
import Derived.Shelf.Strings.Search2
import Derived.Shelf.Strings.Search3
import Derived.Shelf.Small.Strs
import Derived.Shelf.LaysM
import Derived.Shelf.LaysC
import Derived.Test.YthbbedliepkakaaGreatDoorProg
import Derived.Lib.ItoaMem
import Derived.Shelf.Lays7
import Derived.Shelf.Spec.TrailingZeros
import Derived.Laws.BytesString
import Derived.Lib.Builder
import Derived.Lib.UnsafeStr
import Derived.Lib.AppendStr
import Derived.Laws.Externs
import Derived.Deep.Slices
import Derived.ChangeArms
import Derived.DataReads
import Derived.Laws.Tables
import Derived.Lib.Bytealg
import Derived.Lib.SmallJoins
import Derived.Laws.StructEq
import Derived.Laws.Cover3
import Derived.MapKept
import Derived.Maps.RangeRun
import GoSem.Op.IntBits
import GoSem.Op.Shift
import Derived.ScopeJumps
import Derived.Laws.CopyRow
import Derived.Laws.IdiomCopy
import Derived.Laws.OwnMore
import Derived.Shelf.SlSortCmp.NoneTotal
namespace Go.Proofs.YthbbedliepkakaaGreatDoor
open Go Go.RowKit
set_option linter.unusedVariables false
set_option linter.unusedSimpArgs false
set_option maxRecDepth 100000
theorem OY (p:List UInt8)(hp:p.length≤281474976710656)(w:World):Calls Tryz.prog 101 [.string (B (p))].toArray w (Iv w (.bool (Kb p))):=by
 refine Gg (n:=43) Tryz.func101 rfl Tryz.ntmps101 rfl (Ax (At (A0 (Aj rfl) rfl (Ar (Az (Bc ?_))))));refine Ax (At (A0 (Aq rfl) rfl (A0 (Aj rfl) rfl (Ar (Az (Bc ?_))))));refine AM [(0,.string (B (p))),(2,.bool (false)),(3,.string (B ((if ((decide ((0)<((p.length:Int))))&&(decide ((Eb p 0)=(45))))=true then List.drop (Int.toNat (1)) p else p))))] [] (φ:=True) ?_ (λh0=>?_)
 ·refine AM [(0,.string (B (p))),(2,.bool (false)),(3,.string (B (p))),(13,.bool (((decide ((0)<((p.length:Int))))&&(decide ((Eb p 0)=(45))))))] [] (φ:=True) ?_ (λh1=>?_)
  ·refine At (A0 (Aq rfl) rfl (A0 (BS GF rfl) rfl (A0 (Dt rfl rfl) rfl (A0 (Aq rfl) rfl (AL (decide ((0)<((p.length:Int)))) (λhd=>?_) (λhd=>?_))))))
   ·have hk:=hd;try simp only[U2,U1] at hk
    have f61:=hd;try simp at f61
    refine AW rfl rfl hd (A0 (Aq rfl) rfl (AW rfl rfl hd (A0 (Dp GF rfl rfl (by first | omega | exact EC (by assumption)) (by first | omega | exact EC (by assumption))) rfl (AW rfl rfl hd (A0 (B6 rfl rfl) rfl (A0 (Ap rfl hd rfl) rfl (Ar ?_)))))));exact Az (Bx trivial ⟨rfl,rfl,rfl,fb (by first | (simp only[hd,UN,US,UW,UH,UU,UT,Va,UX,UC,UJ,UF,U9,Vp,Vk,reduceIte,Vc];done) | simp[hd]),trivial⟩ .slnil)
   ·have hk:=hd;try simp only[U2,U1] at hk
    have f61:=hd;try simp at f61
    refine Ak rfl rfl hd rfl (Ak rfl rfl hd rfl (Ak rfl rfl hd rfl (A0 (AG rfl hd rfl) rfl (Ar ?_))));exact Az (Bx trivial ⟨rfl,rfl,rfl,fb (by first | (simp only[hd,UN,US,UW,UH,UU,UT,Va,UX,UC,UJ,UF,U9,Vp,Vk,reduceIte,Vc];done) | simp[hd]),trivial⟩ .slnil)
  refine AD (b:=((decide ((0)<((p.length:Int))))&&(decide ((Eb p 0)=(45))))) rfl (λhg=>?_) (λhg=>?_)
  ·have hl:=hg;try simp only[U2,U1] at hl
   have hm:=hg;try simp at hm
   refine At (A0 (Aq rfl) rfl (A0 (H6 GF rfl rfl (by first | omega | (simp;omega)) (by first | omega | (simp;omega))) rfl (A0 (Aj rfl) rfl (Ar ?_))));exact Az (Bx trivial ⟨rfl,rfl,fs (by first | (simp only[hg,UN,US,UW,UH,UU,UT,Va,UX,UC,UJ,UF,U9,Vp,Vk,reduceIte,Vc];done) | simp[hg]),trivial⟩ .slnil)
  ·have hl:=hg;try simp only[U2,U1] at hl
   have hm:=hg;try simp at hm
   refine AF ?_;exact Az (Bx trivial ⟨rfl,rfl,fs (by first | (simp only[hg,UN,US,UW,UH,UU,UT,Va,UX,UC,UJ,UF,U9,Vp,Vk,reduceIte,Vc];done) | simp[hg]),trivial⟩ .slnil)
 have hdg:II p=(if ((decide ((0)<((p.length:Int))))&&(decide ((Eb p 0)=(45))))=true then List.drop (Int.toNat (1)) p else p):=rfl;have hdl:=Q6 p;rw[hdg] at hdl;generalize(if ((decide ((0)<((p.length:Int))))&&(decide ((Eb p 0)=(45))))=true then List.drop (Int.toNat (1)) p else p)=dg at hdg hdl ⊢;refine Ax (AM [(2,.bool (false)),(3,.string (B (dg))),(26,.bool (((decide ((dg)=(([]:List UInt8))))||((decide ((Eb dg 0)=(48)))&&(!(decide ((p)=(([48]:List UInt8)))))))))] [] (φ:=True) ?_ (λh2=>?_))
 ·refine At (A0 (Aq rfl) rfl (A0 (Ei rfl rfl) rfl (A0 (Aq rfl) rfl (AL (decide ((dg)=(([]:List UInt8)))) (λha=>?_) (λha=>?_)))))
  ·have hn:=ha;try simp only[U2,U1] at hn
   have ho:=ha;try simp at ho
   refine Ak rfl rfl ha rfl (Ak rfl rfl ha rfl (Ak rfl rfl ha rfl (Ak rfl rfl ha rfl (DS rfl rfl rfl (DS rfl rfl rfl (Ak rfl rfl ha rfl (A0 (Ap rfl ha rfl) rfl (Ar ?_))))))));exact Az (Bx trivial ⟨rfl,rfl,fb (by first | (simp only[ha,UN,US,UW,UH,UU,UT,Va,UX,UC,UJ,UF,U9,Vp,Vk,reduceIte,Vc];done) | simp[ha]),trivial⟩ .slnil)
  ·have hn:=ha;try simp only[U2,U1] at hn
   have ho:=ha;try simp at ho
   refine AW rfl rfl ha (A0 (Aq rfl) rfl (AW rfl rfl ha (A0 (Dp GF rfl rfl (by first | omega | exact EC (by assumption)) (by first | omega | exact EC (by assumption))) rfl (AW rfl rfl ha (A0 (B6 rfl rfl) rfl (AW rfl rfl ha (A0 (Aq rfl) rfl (AL (decide ((Eb dg 0)=(48))) (λhe=>?_) (λhe=>?_)))))))))
   ·have hq:=he;try simp only[U2,U1] at hq
    have hr:=he;try simp at hr
    refine AW rfl rfl he (A0 (Aq rfl) rfl (AW rfl rfl he (A0 (Mk rfl rfl) rfl (AW rfl rfl ha (A0 (Ap rfl he rfl) rfl (A0 (AG rfl ha rfl) rfl (Ar ?_)))))));exact Az (Bx trivial ⟨rfl,rfl,fb (by first | (simp only[ha,he,UN,US,UW,UH,UU,UT,Va,UX,UC,UJ,UF,U9,Vp,Vk,reduceIte,Vc];done) | simp[ha,he]),trivial⟩ .slnil)
   ·have hq:=he;try simp only[U2,U1] at hq
    have hr:=he;try simp at hr
    refine Ak rfl rfl he rfl (Ak rfl rfl he rfl (AW rfl rfl ha (A0 (AG rfl he rfl) rfl (A0 (AG rfl ha rfl) rfl (Ar ?_)))));exact Az (Bx trivial ⟨rfl,rfl,fb (by first | (simp only[ha,he,UN,US,UW,UH,UU,UT,Va,UX,UC,UJ,UF,U9,Vp,Vk,reduceIte,Vc];done) | simp[ha,he]),trivial⟩ .slnil)
 refine AD (b:=((decide ((dg)=(([]:List UInt8))))||((decide ((Eb dg 0)=(48)))&&(!(decide ((p)=(([48]:List UInt8)))))))) rfl (λhf=>?_) (λhf=>?_)
 ·have hs:=hf;try simp only[U2,U1] at hs
  have ht:=hf;try simp at ht
  refine Ax (At (A0 (Aj rfl) rfl (Ar (Az (Bc ?_)))));refine A5 (Am (A7 (BW rfl rfl) ?_));exact H0 (by simp only[Kb,hdg,hf];rfl)
 ·have hs:=hf;try simp only[U2,U1] at hs
  have ht:=hf;try simp at ht
  refine AF (Az (Bc ?_));refine Ax (Ax (At (A0 (Aq rfl) rfl (A0 (BS GF rfl) rfl (A0 (Aq rfl) rfl (Ar (Az (Bc ?_))))))));refine AS (Jr (S:=Nat) (λ(k:Nat)=>k≤dg.length∧Bg CZ 0 dg=Bg CZ k (dg.drop k)) (λ(k:Nat)=>[(29,.int .i64 ((k:Int))),(3,.string (B (dg))),(28,.int .i64 ((dg.length:Int)))]) (λ(k:Nat)=>[]) (λ(k:Nat)=>dg.length-k) (0) ?_ ⟨fi (by first | rfl | (simp;done) | omega | (simp;omega)),rfl,rfl,trivial⟩ .slnil ?_)
  ·exact⟨Vo _,by simp⟩
  rintro k hi0;refine Ax (At (A0 (DE rfl rfl) rfl (Ar (Az (Bc ?_)))));refine Ax (AD (b:=decide (((k:Int))<((dg.length:Int)))) rfl (λhh=>?_) (λhh=>?_))
  ·have hj:=hh;try simp only[U2,U1] at hj
   have hu:=hh;try simp at hu
   refine AF (Az (Bc ?_));refine Ax (AS (Ax (At (A0 (Aq rfl) rfl (A0 (Aj rfl) rfl (Ar (Az (Bc ?_))))))));refine AM [(3,.string (B (dg))),(4,.int .i64 ((k:Int))),(28,.int .i64 ((dg.length:Int))),(29,.int .i64 ((k:Int))),(30,.bool (decide (((k:Int))<((dg.length:Int))))),(31,.int .i64 ((k:Int))),(32,.string (B (dg))),(33,.int .i64 ((k:Int))),(34,.int .u8 (Eb dg (k:Int))),(35,.bool (decide ((Eb dg (k:Int))<(48)))),(36,.bool (decide ((Eb dg (k:Int))<(48)))),(41,.bool (((decide ((Eb dg (k:Int))<(48)))||(decide ((57)<(Eb dg (k:Int)))))))] [] (φ:=True) ?_ (λh3=>?_)
   ·refine At (A0 (Aq rfl) rfl (A0 (Aq rfl) rfl (A0 (Dp GF rfl rfl (by first | omega | exact EC (by assumption)) (by first | omega | exact EC (by assumption))) rfl (A0 (DE rfl rfl) rfl (A0 (Aq rfl) rfl (AL (decide ((Eb dg (k:Int))<(48))) (λhb=>?_) (λhb=>?_)))))))
    ·have hw:=hb;try simp only[U2,U1] at hw
     have hx:=hb;try simp at hx
     refine Ak rfl rfl hb rfl (Ak rfl rfl hb rfl (Ak rfl rfl hb rfl (Ak rfl rfl hb rfl (A0 (Ap rfl hb rfl) rfl (Ar ?_)))));exact Az (Bx trivial ⟨rfl,rfl,rfl,rfl,rfl,rfl,rfl,rfl,rfl,rfl,rfl,fb (by first | (simp only[hf,hh,hb,UN,US,UW,UH,UU,UT,Va,UX,UC,UJ,UF,U9,Vp,Vk,reduceIte,Vc];done) | simp[hf,hh,hb]),trivial⟩ .slnil)
    ·have hw:=hb;try simp only[U2,U1] at hw
     have hx:=hb;try simp at hx
     refine AW rfl rfl hb (A0 (Aq rfl) rfl (AW rfl rfl hb (A0 (Aq rfl) rfl (AW rfl rfl hb (A0 (Dp GF rfl rfl (by first | omega | exact EC (by assumption)) (by first | omega | exact EC (by assumption))) rfl (AW rfl rfl hb (A0 (Dt rfl rfl) rfl (A0 (AG rfl hb rfl) rfl (Ar ?_)))))))));exact Az (Bx trivial ⟨rfl,rfl,rfl,rfl,rfl,rfl,rfl,rfl,rfl,rfl,rfl,fb (by first | (simp only[hf,hh,hb,UN,US,UW,UH,UU,UT,Va,UX,UC,UJ,UF,U9,Vp,Vk,reduceIte,Vc];done) | simp[hf,hh,hb]),trivial⟩ .slnil)
   refine AD (b:=((decide ((Eb dg (k:Int))<(48)))||(decide ((57)<(Eb dg (k:Int)))))) rfl (λhi=>?_) (λhi=>?_)
   ·have hy:=hi;try simp only[U2,U1] at hy
    have hz:=hi;try simp at hz
    refine Ax (At (A0 (Aj rfl) rfl (Ar (Az (Bc ?_)))));refine A5 (AJ (Am (Am (AJ (Am (A7 (BW rfl rfl) ?_))))));exact H0 (by simp[Kb,hdg,Tj hi0 hj hi])
   ·have hy:=hi;try simp only[U2,U1] at hy
    have hz:=hi;try simp at hz
    refine AF (AX (Az (Bc ?_)));refine At (A0 (BN rfl rfl (IntWalk.i64_in _ (by omega))) rfl (A0 (Aq rfl) rfl (Ar (Az (AT (k+1) ?_ ⟨fi (by first | rfl | (simp;done) | omega | (simp;omega)),rfl,rfl,trivial⟩ .slnil)))));exact Q7 hi0 hj hi
  ·have hj:=hh;try simp only[U2,U1] at hj
   have hu:=hh;try simp at hu
   refine B3 (A9 (A9 (Bk (Az (Bc ?_)))));refine Ax (At (A0 (Aj rfl) rfl (Ar (Az (Bc ?_)))));refine A5 (A7 (BW rfl rfl) ?_);exact H0 (by simp only[Kb,hdg,hf,RK hi0 hj];rfl)
theorem Q3 (m:Int)(h0 : -9223372036854775808≤m)(h1:m≤9223372036854775807)(w:World)(hE:Of w):Calls Tryz.prog 65 [.int .i64 (m)].toArray w (Iv w (.string (B (Lib.itoa m)))):=by
 refine Gg (n:=5) Tryz.func65 rfl Tryz.ntmps65 rfl (Ax (At (A0 (Aj rfl) rfl (Ar (Az (Bc ?_))))));refine Ax (At (A0 (Aq rfl) rfl (Dw Tryz.call80 rfl (λw hw=>SU m (by omega) (by omega) w (hE.st0 hw)) rfl (A0 (Aj rfl) rfl (Ar (Az (Bc ?_)))))));refine A5 (A7 (BW rfl rfl) ?_);exact H0 (by first | rfl | simp[])
theorem R3 (p:List UInt8)(hp:p.length≤281474976710656)(w:World)(hE:Of w):Calls Tryz.prog 82 [.string (B (p))].toArray w (Iv w (.tuple #[.int .i64 (B0 p),.int .i64 (C1 p)])):=by
 refine Gg (n:=22) Tryz.func82 rfl Tryz.ntmps82 rfl (Ax (At (A0 (Aj rfl) rfl (A0 (Aj rfl) rfl (Ar (Az (Bc ?_)))))));refine Ax (Ax (At (A0 (Aq rfl) rfl (Dw Tryz.call101 rfl (λw hw=>OY p (by first | omega | (simp;done) | (simp;omega) | (simp at *;omega)) w) rfl (A0 (CA rfl) rfl (Ar (Az (Bc ?_))))))));refine AD (b:=!(Kb p)) rfl (λhb=>?_) (λhb=>?_)
 ·have hf:=hb;try simp only[U2,U1] at hf
  have ha:=hb;try simp only[U2,U1,U6,UV,UK,Bool.not_eq_false',Vt,UY,not_or,Int.not_lt,Int.not_le] at ha
  refine Ax (At (A0 (Aj rfl) rfl (A0 (Aj rfl) rfl (Ar (Az (Bc ?_))))));refine A5 (Am (A7 (Li rfl rfl rfl) ?_));exact H0 (by simp[B0,C1,ha])
 ·have hf:=hb;try simp only[U2,U1] at hf
  have ha:=hb;try simp only[U2,U1,U6,UV,UK,Bool.not_eq_false',Vt,UY,not_or,Int.not_lt,Int.not_le] at ha
  refine AF (Az (Bc ?_));refine Ax (At (A0 (Aq rfl) rfl ?_));rcases QK (p:=p) (by assumption) with⟨av,hav,hal,hah⟩ | hav
  ·refine Dw Tryz.call102 rfl (λw _=>Sc p (by first | omega | (simp;done) | (simp;omega) | (simp at *;omega)) av hav w) rfl (A0 (Aq rfl) rfl (A0 (AE rfl rfl) rfl (A0 (AE rfl rfl) rfl (A0 (Aj rfl) rfl (A0 (Aj rfl) rfl (Ar (Az (Bc ?_))))))));refine Ax (AM [(2,.int .i64 (0)),(3,.int .i64 (0)),(4,.int .i64 (av)),(20,.bool (!(Hv av)))] [] (φ:=True) ?_ (λhh=>?_))
   ·exact At (A0 (Aq rfl) rfl (A0 (Mm Tryz.underlying137 rfl) rfl (A0 (Aq rfl) rfl (AW rfl rfl rfl (A0 (Aq rfl) rfl (AW rfl rfl rfl (Dw Tryz.call103 rfl (λw hw=>Rd av w) rfl (AW rfl rfl rfl (A0 (CA rfl) rfl (A0 (AG rfl rfl rfl) rfl (Ar (Az (Bx trivial ⟨rfl,rfl,rfl,rfl,trivial⟩ .slnil)))))))))))))
   refine AD (b:=!(Hv av)) rfl (λhd=>?_) (λhd=>?_)
   ·have hg:=hd;try simp only[U2,U1] at hg
    have he:=hd;try simp only[U2,U1,U6,UV,UK,Bool.not_eq_false',Vt,UY,not_or,Int.not_lt,Int.not_le] at he
    refine Ax (At (A0 (Aj rfl) rfl (A0 (Aj rfl) rfl (Ar (Az (Bc ?_))))));refine A5 (Am (A7 (Li rfl rfl rfl) ?_));exact H0 (by simp[B0,C1,hav,ha,he])
   ·have hg:=hd;try simp only[U2,U1] at hg
    have he:=hd;try simp only[U2,U1,U6,UV,UK,Bool.not_eq_false',Vt,UY,not_or,Int.not_lt,Int.not_le] at he
    refine AF (Az (Bc ?_));refine Ax (At (A0 (Aq rfl) rfl (A0 (Aj rfl) rfl (A0 (Aj rfl) rfl (Ar (Az (Bc ?_)))))));refine A5 (A7 (Li rfl rfl rfl) ?_);exact H0 (by simp[B0,C1,hav,ha,he])
  ·refine Rc Tryz.call102 rfl (λw hw=>Nu p (by first | omega | (simp;done) | (simp;omega) | (simp at *;omega)) hav w (hE.st0 hw)) rfl ?_;rintro _ _ ⟨am,at_,ab,rfl,rfl⟩;refine A0 (Aq rfl) rfl (A0 (AE rfl rfl) rfl (A0 (AE rfl rfl) rfl (A0 (Aj rfl) rfl (A0 (Aj rfl) rfl (Ar (Az (Bc ?_)))))));refine Ax (AM [(2,.int .i64 (0)),(3,.int .i64 (0)),(4,.int .i64 (am)),(20,.bool (true))] [] (φ:=True) ?_ (λhi=>?_))
   ·exact At (A0 (Aq rfl) rfl (A0 (R7 Tryz.underlying137 rfl) rfl (A0 (Aq rfl) rfl (Ak rfl rfl rfl rfl (Ak rfl rfl rfl rfl (Ak rfl rfl rfl rfl (A0 (Ap rfl rfl rfl) rfl (Ar (Az (Bx trivial ⟨rfl,rfl,rfl,rfl,trivial⟩ .slnil))))))))))
   refine BY rfl rfl (Ax (At (A0 (Aj rfl) rfl (A0 (Aj rfl) rfl (Ar (Az (Bc ?_)))))));refine A5 (Am (A7 (Li rfl rfl rfl) ?_));exact H0 (by simp[B0,C1,hav,ha])
end Go.Proofs.YthbbedliepkakaaGreatDoor
namespace Go.Proofs
open Go.Shelf
def Tryz.lays138_ren:Go.Shelf.Ren:=⟨fun | 138=>130 | 195=>149 | 218=>150 | 143=>151 | 219=>121 | 217=>136 | 225=>137 | 224=>138 | 267=>139 | 266=>156 | 314=>157 | n=>n,fun | 9=>9 | 3=>3 | 4=>4 | 5=>5 | 0=>0 | 46=>112 | 146=>181 | 51=>133 | n=>n,fun | 1=>0 | n=>n⟩
theorem Tryz.lays138:Go.Proofs.Lays.n138 Tryz.prog Tryz.lays138_ren:={
 mixed:=by kernel_rfl
 f138:=Tryz.func130.trans (congrArg some (by kernel_rfl))
 f143:=Tryz.func151.trans (congrArg some (by kernel_rfl))
 f195:=Tryz.func149.trans (congrArg some (by kernel_rfl))
 f217:=Tryz.func136.trans (congrArg some (by kernel_rfl))
 f218:=Tryz.func150.trans (congrArg some (by kernel_rfl))
 f219:=Tryz.func121.trans (congrArg some (by kernel_rfl))
 f224:=Tryz.func138.trans (congrArg some (by kernel_rfl))
 f225:=Tryz.func137.trans (congrArg some (by kernel_rfl))
 f266:=Tryz.func156.trans (congrArg some (by kernel_rfl))
 f267:=Tryz.func139.trans (congrArg some (by kernel_rfl))
 f314:=Tryz.func157.trans (congrArg some (by kernel_rfl))
 t0:=Tryz.underlying0
 a0:=Tryz.isAgg0
 z0:=Tryz.sizeOf0
 v0:=Tryz.zeroValue0
 t3:=Tryz.underlying3
 a3:=Tryz.isAgg3
 z3:=Tryz.sizeOf3
 v3:=Tryz.zeroValue3
 t4:=Tryz.underlying4
 a4:=Tryz.isAgg4
 z4:=Tryz.sizeOf4
 v4:=Tryz.zeroValue4
 t5:=Tryz.underlying5
 a5:=Tryz.isAgg5
 z5:=Tryz.sizeOf5
 v5:=Tryz.zeroValue5
 t9:=Tryz.underlying9
 a9:=Tryz.isAgg9
 z9:=Tryz.sizeOf9
 v9:=Tryz.zeroValue9
 t46:=Tryz.underlying112
 a46:=Tryz.isAgg112
 z46:=Tryz.sizeOf112
 v46:=Tryz.zeroValue112
 t51:=Tryz.underlying133
 a51:=Tryz.isAgg133
 z51:=Tryz.sizeOf133
 v51:=Tryz.zeroValue133
 t146:=Tryz.underlying181
 a146:=Tryz.isAgg181
 z146:=Tryz.sizeOf181
 v146:=Tryz.zeroValue181
 g1:=by kernel_rfl }
open Go.RowKit Go.Lib in
theorem Tryz.strings_Count_one (s:ByteArray)(c:UInt8)(w:World) :
  Calls Tryz.prog 130 #[.string s,.string ⟨#[c]⟩] w λe w'=>e = .returned (.int .i64 (Lib.countByte s.data.toList c))∧w'=w:=Any.strings_Count_one Tryz.lays138 s c w
end Go.Proofs
namespace Go.Proofs.YthbbedliepkakaaGreatDoor
open Go
set_option linter.unusedVariables false
set_option linter.unusedSimpArgs false
theorem QL {f:Nat→UInt8→Bool}:∀{l:List UInt8} {i:Nat},(∀j,∀u∈l,f j u=true)→Bg f i l=true
 | [],_,_=>rfl
 | x::r,i,h=>by simp only[Bg,U6];exact⟨h i x (by simp),QL λj u hu=>h j u (by simp[hu])⟩
theorem NA:∀(l:List UInt8) (acc v:Nat) (c:UInt8),Lib.parseUint10 acc l = .ok v→48≤c.toNat→c.toNat≤57→v<1844674407370955161→Lib.parseUint10 acc (l++[c]) = .ok (v*10+(c.toNat-48))
 | [],acc,v,c,h,h0,h1,hv=>by
  simp only[Lib.parseUint10,Lib.NumEnd.ok.injEq] at h;subst h;simp only[List.nil_append,Lib.parseUint10];rw[UM ⟨h0,h1⟩,UD (by omega),UD (by omega)]
 | x::r,acc,v,c,h,h0,h1,hv=>by
  simp only[List.cons_append,Lib.parseUint10] at h ⊢
  split at h
  ·rename_i hx
   rw[UM hx]
   split at h
   ·cases h
   ·rename_i hy
    rw[UD hy]
    split at h
    ·cases h
    ·rename_i hz
     rw[UD hz];exact NA r _ v c h h0 h1 hv
  ·cases h
theorem H5 {d:Nat}(h:d<10):(UInt8.ofNat (48+d)).toNat=48+d:=by
 simp[UInt8.toNat_ofNat'];omega
theorem RM (u:Nat):∀c∈Lib.decDigits u,48≤c.toNat∧c.toNat≤57:=by
 induction u using Nat.strongRecOn with
 | ind u ih=>
  intro c hc;rw[Lib.decDigits] at hc
  split at hc
  ·simp only[UL] at hc;subst hc;rw[H5 (by omega)];omega
  ·rcases List.mem_append.1 hc with hc | hc
   ·exact ih (u/10) (by omega) c hc
   ·simp only[UL] at hc;subst hc;rw[H5 (by omega)];omega
theorem OZ (u:Nat):u<18446744073709551610→Lib.parseUint10 0 (Lib.decDigits u) = .ok u:=by
 induction u using Nat.strongRecOn with
 | ind u ih=>
  intro hu;rw[Lib.decDigits]
  split
  ·rename_i h
   simp only[Lib.parseUint10];rw[H5 h,UM (by omega),UD (by omega),UD (by omega)]
   congr 1;omega
  ·rename_i h
   have:=NA (Lib.decDigits (u/10)) 0 (u/10) (UInt8.ofNat (48+u % 10)) (ih (u/10) (by omega) (by omega)) (by rw[H5 (by omega)];omega) (by rw[H5 (by omega)];omega) (by omega);rw[this,H5 (by omega)]
   congr 1;omega
theorem Q8 (u:Nat):Lib.decDigits u≠[]:=by
 rw[Lib.decDigits];split<;>simp
theorem Pa (u:Nat):1≤u→Eb (Lib.decDigits u) 0≠48:=by
 induction u using Nat.strongRecOn with
 | ind u ih=>
  intro hu;rw[Lib.decDigits]
  split
  ·rename_i h
   have:=H5 h;simp only[Eb,Int.toNat_zero,List.getElem?_cons_zero,UP];rw[this];omega
  ·rename_i h
   have h1:=ih (u/10) (by omega) (by omega);have hne:=Q8 (u/10);unfold Eb at h1 ⊢;rw[show(0:Int).toNat=0 from rfl] at h1 ⊢
   rwa [Vj (by cases hd:Lib.decDigits (u/10) with | nil=>exact absurd hd hne | cons=>simp)]
theorem RL (u:Nat)(h:u<10):Lib.decDigits u=[UInt8.ofNat (48+u)]:=by rw[Lib.decDigits];simp[h]
theorem Qw {m:Int}(h0:0≤m):Lib.itoa m=Lib.decDigits m.toNat:=by
 have:=Lib.itoa_nonneg m.toNat
 rwa [show((m.toNat:Nat):Int)=m from by omega] at this
theorem OR {m:Int}(h0:0≤m)(h1:m≤1000000000000):C1 (Lib.itoa m)=0∧B0 (Lib.itoa m)=m:=by
 rw[Qw h0];generalize hu:m.toNat=u;have hub:u≤1000000000000:=by omega
 have hall:=RM u;have hne:=Q8 u;have hd0:∃c r,Lib.decDigits u=c::r:=by cases h:Lib.decDigits u with | nil=>exact absurd h hne | cons c r=>exact⟨c,r,rfl⟩
 obtain⟨c,r,hcr⟩:=hd0;have hc:48≤c.toNat∧c.toNat≤57:=hall c (by simp[hcr]);have hs:O2 (Lib.decDigits u)=false:=by
  rw[hcr];have e:Eb (c::r) 0=c.toNat:=rfl;simp only[O2,e,Vt,U1]
  right;omega
 have hdg:II (Lib.decDigits u)=Lib.decDigits u:=by simp[II,hs]
 have hdec:Kb (Lib.decDigits u)=true:=by
  simp only[Kb,hdg];have h2:Bg CZ 0 (Lib.decDigits u)=true:=QL λj x hx=>by
   have:=hall x hx;simp[CZ];omega
  rw[h2];have h3:decide (Lib.decDigits u=[])=false:=by simpa using hne
  rw[h3]
  by_cases hz:u=0
  ·subst hz;rw[RL 0 (by omega)];rfl
  ·have:=Pa u (by omega);simp[this]
 have hat:Lib.atoiAll (Lib.decDigits u) = .ok (u:Int):=by
  have h4:=OZ u (by omega);rw[hcr] at h4 ⊢;rw[Lib.atoiAll_plain c r (by omega) (by omega)];have:Lib.parseMag (c::r) = .ok u:=by unfold Lib.parseMag;rw[UD (by simp)];exact h4
  rw[this];simp only[Lib.signless];rw[UD (by omega)]
 have hv:Hv (u:Int)=true:=by simp[Hv];omega
 simp only[C1,B0,hdec,Vp,hat,hv];exact⟨trivial,by omega⟩
open Go Go.RowKit
section
variable {P : Program} {n : Nat} {w0 : World} {M : List Nat} {l : Fr} {H : List Ent} {d : Option Nat} {x y : Operand} {ty t t' : TypeId} {pos : String} {af : Array Edge} {g : Option (Nat × Bool)} {k : IntKind} {p q z : Int}
end
set_option maxRecDepth 100000
end Go.Proofs.YthbbedliepkakaaGreatDoor
namespace Go.Proofs
open Go.Shelf
end Go.Proofs
namespace Go.Proofs.YthbbedliepkakaaGreatDoor.Q
open Go Go.RowKit
set_option linter.unusedVariables false
def GE (Z:Fz):Prop:=∀w,Pi Z w→Of w
theorem GE.mono {Z Z':Fz}(h:Fz.le Z Z')(hg:GE Z):GE Z':=λw hw=>hg w ⟨λb o e=>hw b o (h b o e),λk i b e=>hw.nm k i b (h.nm k i b e)⟩
theorem Kl.rle {P:Program}{E:Fz→Prop}{f:FuncId}{args:List Rp}{r r':Rp}(h:Kl P E f args r)(hr:Jd r r'):Kl P E f args r':=λw Z vs hv hs=>
 (h w Z vs hv hs).mono λe w' ⟨q,v,H,Z',he,⟨hq,hH⟩,hp,ht⟩=>⟨r',v,H,Z',he,⟨rfl,hH⟩,hr Z' v (hq▸hp),ht⟩
theorem Jd.tup2 {a b:Value}:Jd (rv (.tuple #[a,b])) (D8 [rv a,rv b]):=λZ v h=>⟨[a,b],h,rfl,rfl,trivial⟩
theorem Kl.of_id {P:Program}{E:Fz→Prop}{f:FuncId}{vs:List Value}{v:Value}(h:∀w,Calls P f vs.toArray w (λe w'=>e = .returned v∧w'=w)):Kl P E f (vs.map rv) (rv v):=
 Kl.of_old λw Z _ _=>(h w).mono λe w' ⟨he,hw⟩=>⟨he,by rw[hw];exact Proofs.YthbbedliepkakaaGreatDoor.St.refl w []⟩
theorem M4 (m:Int)(g:BT .i64 m=true):Kl Tryz.prog GE 65 [rI .i64 m] (rS (Lib.itoa m)):=Kl.of_old (vs:=[.int .i64 m]) λw Z hf he=>Q3 m (GR g).1 (GR g).2 w (he w hf)
theorem R2 (s:AA)(g:JX 1 s.length=true):Kl Tryz.prog GE 82 [rS s] (D8 [rI .i64 (B0 s),rI .i64 (C1 s)]):=(Kl.of_old (vs:=[.string (B s)]) λw Z hf he=>R3 s (by simp[JX] at g;omega) w (he w hf)).rle Jd.tup2
theorem NX (s:AA)(c:UInt8):Kl Tryz.prog GE 130 [rS s,rS [c]] (rI .i64 (Lib.countByte s c)):=Kl.of_id (vs:=[.string (B s),.string (B [c])]) λw=>by have:=Tryz.strings_Count_one (B s) c w;rwa [Nw] at this
theorem TD (s:AA)(m:Int):Kl Tryz.prog GE 136 [rS s,rI .u8 m] (rI .i64 (Lib.indexByte s (Int.toNat m).toUInt8)):=Kl.of_old (vs:=[.string (B s),.int .u8 m]) λw Z hf he=>M1 s m w
theorem OS (s:AA):Kl Tryz.prog GE 75 [rS s] (rB (DO s)):=Kl.of_old (vs:=[.string (B s)]) λw Z hf he=>Ug s w
set_option linter.unusedSimpArgs false
theorem K2 (l:List UInt8):((Pm l).map Io).flatten=(l.map λc=>Value.int .u8 c.toNat).map rv:=by
 induction l with
 | nil=>rfl
 | cons c r ih=>simp only[Pm,Vm,List.flatten_cons] at ih ⊢;rw[ih];rfl
theorem N5 (l:List UInt8):(Pm l).length=l.length:=by simp[Pm]
section
variable {P : Program} {n : Nat} {c : Cx} {ops : Array Oper} {Q : Exit → Act → World → Prop} {rest : List Oper} {l : Fr} {H H' : List Ent} {d : Nat} {d' : Option Nat} {x y z3 : Operand} {ty t t' e : TypeId} {pos : String} {af : Array Edge} {g : Option (Nat × Bool)} {v u : Value} {r : Rp} {sz : Nat} {K : Act → World → Prop}
theorem Fn.bld {E:Fz→Prop}{f:FuncId}{args:List Rp}{T te:TypeId}{b:Nat}{v:Value}{s s':List UInt8}{res:Rp}
  (h:∀p,(p = .pointer none∨p = .pointer (some ⟨b,0,none⟩))→Fn P E f args [.blk b [rv p,rv v] T,.row v te 1 ((Pm s).map Io)] (λR H=>∃w0:Value,R=res∧H=[.blk b [rv (.pointer (some ⟨b,0,none⟩)),rv w0] T,.row w0 te 1 ((Pm s').map Io)])) :
  Fn P E f args [.bld T te b v s] (λR H=>∃w0:Value,R=res∧H=[.bld T te b w0 s']):=λw Z vs hv hs=>by
 obtain⟨p,hp,h1,h2,h3⟩:=hs.has _ (List.mem_singleton.2 rfl);have hfoot:[Ent.bld T te b v s].flatMap Ent.foot=[Ent.blk b [rv p,rv v] T,Ent.row v te 1 ((Pm s).map Io)].flatMap Ent.foot:=by simp[Ent.foot]
 have hs':St ⟨w,Z,[Ent.blk b [rv p,rv v] T,Ent.row v te 1 ((Pm s).map Io)].flatMap Ent.foot,E,[]⟩ [Ent.blk b [rv p,rv v] T,Ent.row v te 1 ((Pm s).map Io)] Z w:=by
  refine⟨rfl,rfl,rfl,UI _,λ_ _ _=>rfl,?_,λe he k hk=>.inr (List.mem_flatMap.2 ⟨e,he,hk⟩),?_,hs.frz,Fz.le.refl _,λ_ _ e=>.inl e,λe he k hk=>?_,hs.env,hs.emono,Iw.none rfl⟩
  ·intro e he;simp only[Vs,List.not_mem_nil,or_false] at he;rcases he with rfl | rfl
   ·exact⟨[p,v],h1,rfl,rfl,trivial⟩
   ·refine⟨λcl hcl=>by obtain⟨z,_,rfl⟩:=List.mem_map.1 hcl;rfl,_,by simpa[N5] using h2,?_⟩;rw[K2];exact AP.rvs Z _
  ·refine List.pairwise_cons.2 ⟨λe he k hk hk'=>?_,List.pairwise_singleton ..⟩;simp only[UL] at he;subst he;simp only[Ent.foot,UL] at hk;subst hk;simp only[Ent.foot,Option.mem_toList] at hk';exact h3 hk'
  ·have hmem:k∈[Ent.bld T te b v s].flatMap Ent.foot:=by rw[hfoot];exact List.mem_flatMap.2 ⟨e,he,hk⟩
   obtain⟨e',he',hk'⟩:=List.mem_flatMap.1 hmem;exact hs.zdis e' he' k hk'
 rw[hfoot] at hs ⊢;refine(h p hp w Z vs hv hs').mono λe w' ⟨R,vv,H,Z',he,⟨w0,hR,hH⟩,hpR,ht⟩=>⟨R,vv,[.bld T te b w0 s'],Z',he,⟨w0,hR,rfl⟩,hpR,?_⟩
 subst hH;obtain⟨us,k1,k2⟩:=ht.has (.blk b [rv (.pointer (some ⟨b,0,none⟩)),rv w0] T) (by simp);obtain⟨k3,ws,k4,k5⟩:=ht.has (.row w0 te 1 ((Pm s').map Io)) (by simp);have e1:=AP.eq_rv (us:=[.pointer (some ⟨b,0,none⟩),w0]) k2;subst e1;rw[K2] at k5;have e2:=AP.eq_rv k5;subst e2;have hd:=List.pairwise_cons.1 ht.dis;have hne:w0.ownBlock≠some b:=λhb=>hd.1 _ (List.mem_singleton.2 rfl) b (by simp[Ent.foot]) (by simp[Ent.foot,hb]);refine { ht with has:=?_,own:=?_,dis:=List.pairwise_singleton ..,zdis:=?_,gst:=⟨by simp[Ent.gk],by simp[Ent.gk],List.pairwise_singleton ..,ht.gst.new,by simp[Ent.gk]⟩ }
 ·intro e' he';simp only[UL] at he';subst he';exact⟨_,.inr rfl,k1,by simpa[N5] using k4,hne⟩
 ·intro e' he' k hk;simp only[UL] at he';subst he';simp only[Ent.foot,Vs] at hk;rcases hk with rfl | hk
  ·exact ht.own (.blk k [rv (.pointer (some ⟨k,0,none⟩)),rv w0] T) (by simp) k (by simp[Ent.foot])
  ·exact ht.own (.row w0 te 1 ((Pm s').map Io)) (by simp) k hk
 ·intro e' he' k hk;simp only[UL] at he';subst he';simp only[Ent.foot,Vs] at hk;rcases hk with rfl | hk
  ·exact ht.zdis (.blk k [rv (.pointer (some ⟨k,0,none⟩)),rv w0] T) (by simp) k (by simp[Ent.foot])
  ·exact ht.zdis (.row w0 te 1 ((Pm s').map Io)) (by simp) k hk
theorem Qf (hu:∃e',P.underlying t=some (.pointer e'))(hx:ev l x=some (rv (.pointer none))):Bi P n c l H { dst:=d',op:=.binOp .eql t x (.const (.pointer none)) t',type:=ty,pos:=pos,after:=af,guard:=g } (rB true):=λa w Z ha _=>CO<|by
 obtain⟨e',hu⟩:=hu;have h1:∀dd:Nat,(Op.equalIn (dd+1) t (.pointer none) (.pointer none)).run P w = .ok true w:=λdd=>by simp[Op.equalIn,run_underlying hu]
 have h2:(Op.equal t (.pointer none) (.pointer none)).run P w = .ok true w:=h1 9999;have h3:(eqGuard .eql t x (.const (.pointer none)) (.pointer none) (.pointer none)).run P w = .ok () w:=by unfold eqGuard;split<;>simp
 have hy:a.eval (.const (.pointer none)) = .pointer none:=rfl;simp only[execOp,ha.eval hx,hy,Sem.run_bind,h3,Result.andThen_ok,binOp,h2,Sem.run_pure]
theorem I7 {p:Addr}(hu:∃e',P.underlying t=some (.pointer e'))(hx:ev l x=some (rv (.pointer (some p)))):Bi P n c l H { dst:=d',op:=.binOp .neq t x (.const (.pointer none)) t',type:=ty,pos:=pos,after:=af,guard:=g } (rB true):=λa w Z ha _=>CO<|by
 obtain⟨e',hu⟩:=hu;have h1:∀dd:Nat,(Op.equalIn (dd+1) t (.pointer (some p)) (.pointer none)).run P w = .ok false w:=λdd=>by simp[Op.equalIn,run_underlying hu]
 have h2:(Op.equal t (.pointer (some p)) (.pointer none)).run P w = .ok false w:=h1 9999;have h3:(eqGuard .neq t x (.const (.pointer none)) (.pointer (some p)) (.pointer none)).run P w = .ok () w:=by unfold eqGuard;split<;>simp
 have hy:a.eval (.const (.pointer none)) = .pointer none:=rfl;simp only[execOp,ha.eval hx,hy,Sem.run_bind,h3,Result.andThen_ok,binOp,h2,Sem.run_pure];rfl
section
variable {P : Program} {n : Nat} {c : Cx} {l : Fr} {H : List Ent} {d' : Option Nat} {x : Operand} {ty t t' e : TypeId} {pos : String} {af : Array Edge} {g : Option (Nat × Bool)} {v : Value}
end
theorem Mb {f:FuncId}{args:List Operand}{ats:Array TypeId}{o:Oper}{a:Act}{caps:List Value}(ho:o.op = .call { callee:=.value x,args:=args.toArray,argTypes:=ats })(hx:a.eval x = .func (.func f) #[] caps.toArray)
  (hcall:∀(as1:Array Value) (w:World),(callFunc f as1).run P w = .ok (.enter f as1) w) (w:World):(execOp a.eval o).run P w = .ok (.enter f (args.map a.eval++caps).toArray) w:=by
 simp[execOp,ho,resolve,hx,Deferred.ofValue,invoke,hcall]
theorem HJ {f:FuncId}{args:List Operand}{ats:Array TypeId}{rs:List Rp}{caps:List Value}{Hin Hr:List Ent}{Φ:Rp→List Ent→Prop}(hcall:∀(as1:Array Value) (w:World),(callFunc f as1).run P w = .ok (.enter f as1) w)(hx:ev l x=some (rv (.func (.func f) #[] caps.toArray)))(hv:Jm l args=some rs)
  (hp:H.Perm (Hin++Hr)) (hc:Fn P c.E f (rs++caps.map rv) Hin Φ) (hn:Nat.blt d n=true) (h:∀r Ho,Φ r Ho→WL P n c ops Q rest ((d,r)::l) (Ho++Hr)) :
  WL P n c ops Q ({ dst:=some d,op:=.call { callee:=.value x,args:=args.toArray,argTypes:=ats },type:=ty,pos:=pos,after:=af,guard:=none }::rest) l H:=
 HH (args:=λa=>(args.map a.eval++caps).toArray) (λa w Z ha hw=>⟨Mb rfl (ha.eval hx) hcall w,by
  have hw2:=hw.perm hp;refine(hc w Z _ (by have:=(EE ha hv).append (AP.rvs Z caps);simpa using this) hw2.enter).mono ?_;rintro e w' ⟨r,v,Ho,Z',he,hΦ,hr,hs⟩;exact⟨v,r,Ho++Hr,Z',he,hs.le,hr,hw2.call hs,h r Ho hΦ⟩⟩) hn
end
section
variable {P : Program} {n : Nat} {c : Cx} {ops : Array Oper} {Q : Exit → Act → World → Prop} {rest : List Oper} {l : Fr} {H : List Ent} {d : Nat} {ty : TypeId} {pos : String} {af : Array Edge} {r : Rp} {x y z3 : Operand}
theorem wo {d:Option Nat}{op:Op}{j dj:Nat}{want b:Bool}(hb:b=want)(h:WL P n c ops Q ({ dst:=d,op:=op,type:=ty,pos:=pos,after:=af,guard:=none }::rest) l H)(hj:CH ops j=some dj:=by rfl)(hv:look l dj=some (rB b):=by rfl) :
  WL P n c ops Q ({ dst:=d,op:=op,type:=ty,pos:=pos,after:=af,guard:=some (j,want) }::rest) l H:=AW hj hv hb h
theorem wf {op:Op}{j dj:Nat}{want b:Bool}(hb:b = !want)(h:WL P n c ops Q rest ((d,rv undef)::l) H)(hj:CH ops j=some dj:=by rfl)(hv:look l dj=some (rB b):=by rfl)(hn:Nat.blt d n=true:=by rfl) :
  WL P n c ops Q ({ dst:=some d,op:=op,type:=ty,pos:=pos,after:=af,guard:=some (j,want) }::rest) l H:=Ak hj hv hb hn h
theorem wu {op:Op}{j dj:Nat}{want:Bool}(h:WL P n c ops Q rest ((d,rv undef)::l) H)(hj:CH ops j=some dj:=by rfl)(hv:look l dj=some (rv undef):=by rfl)(hn:Nat.blt d n=true:=by rfl) :
  WL P n c ops Q ({ dst:=some d,op:=op,type:=ty,pos:=pos,after:=af,guard:=some (j,want) }::rest) l H:=DS hj hv hn h
theorem wv {op:Op}(hr:Bi P n c l H { dst:=some d,op:=op,type:=ty,pos:=pos,after:=af,guard:=none } r)(h:WL P n c ops Q rest ((d,r)::l) H)(hn:Nat.blt d n=true:=by rfl):WL P n c ops Q ({ dst:=some d,op:=op,type:=ty,pos:=pos,after:=af,guard:=none }::rest) l H:=A0 hr hn h
theorem wm (h:ev l x=some r)(hk:WL P n c ops Q rest ((d,r)::l) H)(hn:Nat.blt d n=true:=by rfl):WL P n c ops Q ({ dst:=some d,op:=.move x,type:=ty,pos:=pos,after:=af,guard:=none }::rest) l H:=A0 (Aq h) hn hk
theorem wa (h:ev l x=some r)(hk:WL P n c ops Q rest ((d,r)::l) H)(hn:Nat.blt d n=true:=by rfl):WL P n c ops Q ({ dst:=some d,op:=.assign x,type:=ty,pos:=pos,after:=af,guard:=none }::rest) l H:=A0 (Aj h) hn hk
theorem GI {b:Bool}(hc:ev l z3=some (rB b))(hb:b=true)(h:ev l x=some r)(hk:WL P n c ops Q rest ((d,r)::l) H)(hn:Nat.blt d n=true:=by rfl):WL P n c ops Q ({ dst:=some d,op:=.pick z3 x y,type:=ty,pos:=pos,after:=af,guard:=none }::rest) l H:=A0 (Ap hc hb h) hn hk
theorem EY {b:Bool}(hc:ev l z3=some (rB b))(hb:b=false)(h:ev l y=some r)(hk:WL P n c ops Q rest ((d,r)::l) H)(hn:Nat.blt d n=true:=by rfl):WL P n c ops Q ({ dst:=some d,op:=.pick z3 x y,type:=ty,pos:=pos,after:=af,guard:=none }::rest) l H:=A0 (AG hc hb h) hn hk
theorem IT {f:FuncId}{args:List Operand}{ats:Array TypeId}{rs:List Rp}(hcall:∀(as1:Array Value) (w:World),(callFunc f as1).run P w = .ok (.enter f as1) w)(hc:Kl P c.E f rs r)(hv:Jm l args=some rs)(h:WL P n c ops Q rest ((d,r)::l) H)(hn:Nat.blt d n=true:=by rfl) :
  WL P n c ops Q ({ dst:=some d,op:=.call { callee:=.value (.func f),args:=args.toArray,argTypes:=ats },type:=ty,pos:=pos,after:=af,guard:=none }::rest) l H:=Dd hcall hv hc rfl hn h
theorem DJ {f:FuncId}{args:List Operand}{ats:Array TypeId}{rs:List Rp}{Hin Hr:List Ent}{Φ:Rp→List Ent→Prop}(hcall:∀(as1:Array Value) (w:World),(callFunc f as1).run P w = .ok (.enter f as1) w)(hc:Fn P c.E f rs Hin Φ)(hv:Jm l args=some rs)
  (hp:H.Perm (Hin++Hr)) (hn:Nat.blt d n=true) (h:∀r Ho,Φ r Ho→WL P n c ops Q rest ((d,r)::l) (Ho++Hr)) :
  WL P n c ops Q ({ dst:=some d,op:=.call { callee:=.value (.func f),args:=args.toArray,argTypes:=ats },type:=ty,pos:=pos,after:=af,guard:=none }::rest) l H:=Dw hcall hv hp hc hn h
theorem Qb {opsA:Array Oper}{f:FuncId}{args:List Operand}{ats:Array TypeId}{rs:List Rp}(hcall:∀(as1:Array Value) (w:World),(callFunc f as1).run P w = .ok (.enter f as1) w)(hc:Kl P c.E f rs r)(hv:Jm l args=some rs) :
  CJ P n c opsA Q l H { dst:=some d,op:=.call { callee:=.value (.func f),args:=args.toArray,argTypes:=ats },type:=ty,pos:=pos,after:=af,guard:=none } r H:=Mj hcall hv hc rfl
theorem wt {K:Exit→Act→World→Prop}{l1:Fr}{H1:List Ent}(hl:AR l1 l:=by repeat (first | exact AR.nil | refine AR.c rfl ?_))(hH:H1.Sublist H:=by repeat (first | exact sN | refine sC ?_ | refine sS ?_)):WK n c (Exit.then (Tr n c l1 H1) K .normal) l H:=Az (Bx hl hH)
theorem Cw {p:Prop}(hp:p){K:Exit→Act→World→Prop}{l1:Fr}{H1:List Ent}(hl:p→AR l1 l:=by intro hp;repeat (first | exact AR.nil | refine AR.c rfl ?_ | refine AR.c (by first | (simp only[hp];rfl) | simp[hp]) ?_))(hH:H1.Sublist H:=by repeat (first | exact sN | refine sC ?_ | refine sS ?_)):WK n c (Exit.then (Tr n c l1 H1) K .normal) l H:=Az (Bx (hl hp) hH)
end
open Go Go.RowKit Go.ChangeShapes Go.Deep
def ZW (W:World):Fz:=⟨λb=>W.heap[b]?,λ_ _=>none⟩
theorem ZW.frz (W:World):Pi (ZW W) W:=⟨λ_ _ h=>h,λ_ _ _ h=>by cases h⟩
def Hm (P:Program)(e:TypeId){α:Type}(enc:α→List Rp)(ok:α→Bool):Prop:=
 ∀{H:Type} {encH:TypeId×Value→H} {W:World} {sp:Nat→Bool} {held:Bool} {n:Nat} {cs:List Value} {x:DataW H×List MemPlace},DataW.trod encH P W 0 sp held n e cs=some x→∃y:α,ok y=true∧AP (ZW W) (enc y) cs
section
variable {P : Program} {e t : TypeId}
theorem Hm.int {k:IntKind}{enc:Int→List Rp}(ht:P.underlying e=some (.int k))(he:∀n,enc n=[rI k n]):Hm P e enc (BT k):=λh=>by
 obtain⟨n,rfl,_,hwf⟩:=DataW.trod_int ht h;exact⟨n,hwf,by rw[he];exact⟨rfl,trivial⟩⟩
theorem Hm.str {enc:AA→List Rp}(ht:P.underlying e=some .string)(he:∀n,enc n=[rS n]):Hm P e enc QT:=λh=>by
 obtain⟨s,rfl,_,hl⟩:=DataW.trod_string ht h;exact⟨s.data.toList,U4 (by rw[Array.length_toList];exact hl),by rw[he];exact⟨congrArg Value.string (Ul s),trivial⟩⟩
theorem Hm.bool {enc:Bool→List Rp}(ht:P.underlying e=some .bool)(he:∀n,enc n=[rB n]):Hm P e enc (λ_=>true):=λh=>by
 obtain⟨b,rfl,_⟩:=DataW.trod_bool ht h;exact⟨b,rfl,by rw[he];exact⟨rfl,trivial⟩⟩
theorem KP {W:World}{a:Addr}{v:Value}(h:W.cell? a=some v):a.spot=none∧Gj (ZW W) a.block a.off=some v:=by
 unfold World.cell? at h;unfold Gj ZW;dsimp only
 cases hh:W.heap[a.block]? with
 | none=>rw[hh] at h;cases h
 | some o=>
  rw[hh] at h
  cases o with
  | cells cs t fz=>
   cases hs:a.spot with
   | none=>simp[hs] at h;exact⟨rfl,h⟩
   | some _=>simp[hs] at h
  | _=>simp at h
theorem Hm.slice {α:Type}[Inhabited α]{enc:α→List Rp}{ok:α→Bool}{sz:Nat}(ht:P.underlying t=some (.slice e))(hc:P.cellsOf e=sz)(hsz:0<sz)(h:Hm P e enc ok)(hlen:∀y,(enc y).length=sz){enc':List α→List Rp}(he:∀ys,enc' ys=[Bw sz (ys.map enc)]) :
  Hm P t enc' (λys=>ys.all ok&&decide (ys.length≤9223372036854775807)):=fun {H encH W sp held n cs x} hx=>by
 rcases open_slice ht hx with⟨rfl,_⟩ | ⟨a,len,cap,m,n',D,Pl,rfl,hb,hl,hm,hmm,_,hel⟩
 ·exact⟨[],by simp,by rw[he];exact⟨Od.nil sz _,trivial⟩⟩
 ·have hlm:len≤m:=by rw[hmm];split<;>omega
  have each:∀i,i<len→∃y:α,ok y=true∧∃cs',W.cells? 0 (a.add (i*sz)) sz=some cs'∧AP (ZW W) (enc y) cs':=λi hi=>by
   obtain⟨cs',h1,h2⟩:=hel i (by omega);obtain⟨y,hy,hr⟩:=h h2;rw[hc] at h1;exact⟨y,hy,cs',h1,hr⟩
  obtain⟨f,hf⟩:=choose_lt each;refine⟨(List.range len).map f,?_,?_⟩
  ·simp only[U6,UR,List.mem_map,List.mem_range,U2];refine⟨?_,by simp;simp only[maxLen] at hm;omega⟩;rintro _ ⟨i,hi,rfl⟩;exact(hf i hi).1
  ·rw[he];refine⟨⟨some a,cap,by simp,by simpa using hl,hm,(λh=>by cases h),λi c hi=>?_⟩,trivial⟩;rw[Vr,Vf] at hi;have hil:i<len:=by
    cases hq:(List.range len)[i]? with
    | none=>rw[hq] at hi;cases hi
    | some _=>have:=(List.getElem?_eq_some_iff.1 hq).1;simpa using this
   rw[List.getElem?_range hil] at hi;simp only[Option.map_some,Option.some.injEq,Function.comp] at hi;subst hi;obtain⟨_,cs',h1,hr⟩:=hf i hil;obtain⟨_,hcl,hcell⟩:=World.cells?_some h1;have hsp:a.spot=none:=by
    obtain⟨_,cs0,g1,_⟩:=hf 0 (by omega);obtain⟨_,gcl,gcell⟩:=World.cells?_some g1;have h0:=gcell 0 hsz;rw[U5 (by omega)] at h0;have:=(KP h0).1;simpa[Addr.add] using this
   refine⟨hlen _,a,rfl,hsp,λj r hj=>?_⟩;obtain⟨u,hu,hp⟩:=hr.at hj;have hjs:j<sz:=by have:=(List.getElem?_eq_some_iff.1 hj).1;rw[hlen] at this;exact this
   have h3:=hcell j hjs;rw[hu] at h3;have h4:=(KP h3).2;refine⟨u,?_,hp⟩;have e1:((a.add (i*sz)).add j).block=a.block:=by simp only[Addr.add];split<;>split<;>rfl
   have e2:((a.add (i*sz)).add j).off=a.off+(i*sz+j):=by simp only[Addr.add];split<;>split<;>simp_all<;>omega
   rw[e1,e2] at h4;exact h4
theorem Jx {Z:Fz}{cs:List Value}{o:Nat}(h:cs.length=o):AP Z [] (cs.drop o):=by rw[List.drop_of_length_le (by omega)];trivial
theorem BH {Z:Fz}{cs:List Value}{o s o':Nat}{rs rs':List Rp}(h:AP Z rs ((cs.drop o).take s))(ho:o+s=o')(h2:AP Z rs' (cs.drop o')):AP Z (rs++rs') (cs.drop o):=by
 rw[← List.take_append_drop s (cs.drop o),List.drop_drop];subst ho;exact h.append h2
theorem Hm.val {α:Type}{enc:α→List Rp}{ok:α→Bool}(h:Hm P e enc ok){r:α→Rp}(he:∀y,enc y=[r y]){H:Type}{encH:TypeId×Value→H}{W:World}{sp:Nat→Bool}{held:Bool}{v:Value}{d:DataW H}{ps:List MemPlace}
  (hone:v.cells = #[v]) (ht:DataW.Trod encH P W 0 sp held e v d ps):∃y:α,ok y=true∧(r y).p (ZW W) v:=by
 obtain⟨fuel,hf⟩:=ht;rw[hone] at hf;obtain⟨y,hy,hr⟩:=h hf;rw[he] at hr;exact⟨y,hy,hr.1⟩
theorem Hm.valAgg {α:Type}{enc:α→List Rp}{ok:α→Bool}(h:Hm P e enc ok){H:Type}{encH:TypeId×Value→H}{W:World}{sp:Nat→Bool}{held:Bool}{cs:Array Value}{d:DataW H}{ps:List MemPlace}
  (ht:DataW.Trod encH P W 0 sp held e (.agg cs) d ps):∃y:α,ok y=true∧(Bu (enc y)).p (ZW W) (.agg cs):=by
 obtain⟨fuel,hf⟩:=ht;obtain⟨y,hy,hr⟩:=h hf;exact⟨y,hy,cs.toList,by simp,hr⟩
end
theorem Q2 {W w:World}(hw:Pi (ZW W) w):W.heap.size≤w.heap.size:=by
 rcases Nat.eq_zero_or_pos W.heap.size with h | h
 ·omega
 ·have h1:W.heap[W.heap.size-1]? =some (W.heap[W.heap.size-1]'(by omega)):=Array.getElem?_eq_getElem (by omega);have:=(Array.getElem?_eq_some_iff.1 (hw _ _ h1)).1;omega
theorem OT {W:World}(hE:Of W):GE (ZW W):=λw hw=>by
 have hb:Below W.heap.size W { w with os:=W.os,tape:=W.tape,output:=W.output }:=⟨rfl,rfl,rfl,(show W.heap.size≤w.heap.size from Q2 hw),λk hk=>by
  have h1:W.heap[k]? =some (W.heap[k]'hk):=Array.getElem?_eq_getElem hk;rw[h1];exact hw k _ h1⟩
 have hE2:=hE.st0 (St.of_below hb);exact⟨LD.block { w with os:=W.os,tape:=W.tape,output:=W.output } w (λ_ _=>rfl) hE2.tabs,hE2.size⟩
theorem PD {W:World}(hE:Of W):St ⟨W,ZW W,[],GE,[]⟩ [] (ZW W) W where
 os:=rfl
 tape:=rfl
 output:=rfl
 size:=UI _
 old:=λ_ _ _=>rfl
 has:=λ_ h=>by cases h
 own:=λ_ h=>by cases h
 dis:=.nil
 frz:=ZW.frz W
 le:=Fz.le.refl _
 new:=λ_ _ h=>.inl h
 zdis:=λ_ h=>by cases h
 env:=OT hE
 emono:=λh hg=>GE.mono h hg
 gst:=Iw.none rfl
theorem PE {W W':World}{Z Z':Fz}{E:Fz→Prop}{H:List Ent}(h:St ⟨W,Z,[],E,[]⟩ H Z' W'):Below W.heap.size W W':=⟨h.os,h.tape,h.output,h.size,λk hk=>h.old k hk (by simp)⟩
open Go
set_option maxRecDepth 100000
set_option maxHeartbeats 4000000
end Go.Proofs.YthbbedliepkakaaGreatDoor.Q
namespace Go.Proofs.YthbbedliepkakaaGreatDoor
open Go
set_option linter.unusedVariables false
structure Ao where
 fKind:Int
 fInt:Int
 fStr:AA
 fN:Int
 deriving DecidableEq,Inhabited
def O8 (s:AA)(ha:Int):Option (Stp (Int) (Out (Bool) (Unit))):=
 B7 (decide (ha<(s.length:Int))) (Bn (C2 ha (s.length:Int))<|B7 (((decide ((Eb s ha)<32))||(decide (126<(Eb s ha))))) (some (.out (.ret false))) (Bn (BT .i64 (ha+1))<|some (.next (ha+1)))) (some (.out (.go ())))
def O6 :Option (Bool):=
 some true
def Lk (F:Nat)(s:AA):Option (Bool):=
 B5 (BP (λσ=>O8 s σ) F 0) (BQ λν=>O6 )
def Cd (ok:Bool)(i:Int):Option (Int):=
 B7 (ok) (Bn (BT .i64 (i+1))<|some (i+1)) (some (-1))
def PS (F:Nat)(c:Ao):Option (Bool):=
 Bn (imp (decide (c.fKind=4)) (imp (decide (c.fInt=0)) (imp (decide (c.fN=0)) ((Lk F c.fStr).isSome))))<|some ((decide (c.fKind=4))&&((decide (c.fInt=0))&&((decide (c.fN=0))&&(ov (Lk F c.fStr)))))
def PQ (F:Nat)(ha:(List Ao)→Int→Int→Option (Int))(hb:(List Ao)→Int→Int→Option (Int))(v:(List Ao))(i:Int):Option (Int):=
 B7 (((decide (i<0))||(decide ((v.length:Int)≤i)))) (some (-1)) (Bn (C2 i (v.length:Int))<|B7 (decide (((Ac v i).fKind)=1)) (Bn (imp (decide (((Ac v i).fInt)=0)) (imp (decide (((Ac v i).fStr)=([]:AA))) ((Cd (decide (((Ac v i).fN)=0)) i).isSome)))<|Bn (imp (decide (((Ac v i).fInt)=0)) (imp (!(decide (((Ac v i).fStr)=([]:AA)))) ((Cd false i).isSome)))<|Bn (imp (!(decide (((Ac v i).fInt)=0))) ((Cd false i).isSome))<|some (bif decide (((Ac v i).fInt)=0) then(bif decide (((Ac v i).fStr)=([]:AA)) then(ov (Cd (decide (((Ac v i).fN)=0)) i)) else(ov (Cd false i))) else(ov (Cd false i)))) (B7 (decide (((Ac v i).fKind)=2)) (Bn (imp (decide (((Ac v i).fInt)=0)) (imp (decide (((Ac v i).fStr)=([]:AA))) ((Cd (decide (((Ac v i).fN)=0)) i).isSome)))<|Bn (imp (decide (((Ac v i).fInt)=0)) (imp (!(decide (((Ac v i).fStr)=([]:AA)))) ((Cd false i).isSome)))<|Bn (imp (!(decide (((Ac v i).fInt)=0))) (imp (decide (((Ac v i).fInt)=1)) (imp (decide (((Ac v i).fStr)=([]:AA))) ((Cd (decide (((Ac v i).fN)=0)) i).isSome))))<|Bn (imp (!(decide (((Ac v i).fInt)=0))) (imp (decide (((Ac v i).fInt)=1)) (imp (!(decide (((Ac v i).fStr)=([]:AA)))) ((Cd false i).isSome))))<|Bn (imp (!(decide (((Ac v i).fInt)=0))) (imp (!(decide (((Ac v i).fInt)=1))) ((Cd false i).isSome)))<|some (bif decide (((Ac v i).fInt)=0) then(bif decide (((Ac v i).fStr)=([]:AA)) then(ov (Cd (decide (((Ac v i).fN)=0)) i)) else(ov (Cd false i))) else(bif decide (((Ac v i).fInt)=1) then(bif decide (((Ac v i).fStr)=([]:AA)) then(ov (Cd (decide (((Ac v i).fN)=0)) i)) else(ov (Cd false i))) else(ov (Cd false i))))) (B7 (decide (((Ac v i).fKind)=3)) (Bn (imp (decide (((Ac v i).fStr)=([]:AA))) ((Cd (decide (((Ac v i).fN)=0)) i).isSome))<|Bn (imp (!(decide (((Ac v i).fStr)=([]:AA)))) ((Cd false i).isSome))<|some (bif decide (((Ac v i).fStr)=([]:AA)) then(ov (Cd (decide (((Ac v i).fN)=0)) i)) else(ov (Cd false i)))) (B7 (decide (((Ac v i).fKind)=4)) (B5 (PS F (Ac v i)) λhd=>B5 (Cd hd i) λhe=>some he) (B7 (((decide (((Ac v i).fKind)=5))&&((decide (((Ac v i).fInt)=0))&&((decide (((Ac v i).fStr)=([]:AA)))&&(decide (0≤((Ac v i).fN))))))) (Bn (BT .i64 (i+1))<|B5 (ha v (i+1) ((Ac v i).fN)) λhf=>some hf) (B7 (((decide (((Ac v i).fKind)=6))&&((decide (((Ac v i).fInt)=0))&&((decide (((Ac v i).fStr)=([]:AA)))&&(decide (0≤((Ac v i).fN))))))) (Bn (BT .i64 (i+1))<|B5 (hb v (i+1) ((Ac v i).fN)) λhg=>some hg) (some (-1))))))))
def CN (v:(List Ao))(n:Int)(he:(List Ao)→Int→Option (Int))(hb:Int)(ha:Int):Option (Stp (Int×Int) (Out (Int) (Int))):=
 B7 (decide (ha<n)) (B5 (he v hb) λhd=>B7 (decide (hd<0)) (some (.out (.ret (-1)))) (Bn (BT .i64 (ha+1))<|some (.next (hd,ha+1)))) (some (.out (.go hb)))
def Ge (ha:Int):Option (Int):=
 some ha
def JN (F:Nat)(ha:(List Ao)→Int→Option (Int))(v:(List Ao))(i:Int)(n:Int):Option (Int):=
 B5 (BP (λσ=>CN v n ha σ.1 σ.2) F (i,0)) (BQ λν=>Ge ν)
def Do (F:Nat)(v:(List Ao))(n:Int)(hf:(List Ao)→Int→Option (Int))(ha:Int)(hd:AA)(hb:Int):Option (Stp (Int×AA×Int) (Out (Int) (Int))):=
 B7 (decide (hb<n)) (Bn (imp (!(decide ((v.length:Int)≤ha))) (C2 ha (v.length:Int)))<|Bn (imp (!(decide ((v.length:Int)≤ha))) ((PS F (Ac v ha)).isSome))<|B7 (((decide ((v.length:Int)≤ha))||((!(ov (PS F (Ac v ha))))||((decide (0<hb))&&(BJ ((Ac v ha).fStr) hd||decide (((Ac v ha).fStr)=hd)))))) (some (.out (.ret (-1)))) (Bn (C2 ha (v.length:Int))<|Bn (BT .i64 (ha+1))<|B5 (hf v (ha+1)) λhe=>B7 (decide (he<0)) (some (.out (.ret (-1)))) (Bn (BT .i64 (hb+1))<|some (.next (he,(Ac v ha).fStr,hb+1))))) (some (.out (.go ha)))
def I3 (ha:Int):Option (Int):=
 some ha
def N8 (F:Nat)(ha:(List Ao)→Int→Option (Int))(v:(List Ao))(i:Int)(n:Int):Option (Int):=
 B5 (BP (λσ=>Do F v n ha σ.1 σ.2.1 σ.2.2) F (i,([]:AA),0)) (BQ λν=>I3 ν)
mutual
def K5:Nat→(List Ao)→Int→Option (Int)
 | 0,_,_=>none
 | nn+1,v,i=>PQ nn (K6 nn) (PP nn) v i
def K6:Nat→(List Ao)→Int→Int→Option (Int)
 | 0,_,_,_=>none
 | nn+1,v,i,n=>JN nn (K5 nn) v i n
def PP:Nat→(List Ao)→Int→Int→Option (Int)
 | 0,_,_,_=>none
 | nn+1,v,i,n=>N8 nn (K5 nn) v i n
end
end Go.Proofs.YthbbedliepkakaaGreatDoor
namespace Go.Proofs.YthbbedliepkakaaGreatDoor.Q
open Go Go.RowKit
set_option linter.unusedVariables false
set_option linter.unusedSimpArgs false
set_option maxRecDepth 100000
set_option maxHeartbeats 4000000
@[reducible] def Al (x:Ao):List Rp:=[rI .i64 x.fKind,rI .i64 x.fInt,rS x.fStr,rI .i64 x.fN]
theorem DQ (x:Ao):(Al x).length=4:=rfl
theorem Kw (x:Ao):(Al x).all (·.one)=true:=rfl
end Go.Proofs.YthbbedliepkakaaGreatDoor.Q
namespace Go.Proofs.YthbbedliepkakaaGreatDoor
open Go
set_option linter.unusedVariables false
structure Av where
 fPairs:Bool
 fLeft:Int
 fKey:Bool
 fLast:AA
 fStarted:Bool
 deriving DecidableEq,Inhabited
structure A1 where
 fDepth:Int
 fBytes:Int
 fOutside:Bool
 fLong:Bool
 deriving DecidableEq,Inhabited
def Bj (n:Int):Option (Bool):=
 some ((decide ((-1000000000000)≤n))&&(decide (n≤1000000000000)))
def EO (s:AA)(ha:Int):Option (Stp (Int) (Out (Bool) (Unit))):=
 B7 (decide (ha<(s.length:Int))) (Bn (C2 ha (s.length:Int))<|B7 (((decide ((Eb s ha)<32))||(decide (126<(Eb s ha))))) (some (.out (.ret false))) (Bn (BT .i64 (ha+1))<|some (.next (ha+1)))) (some (.out (.go ())))
def EN :Option (Bool):=
 some true
def HK (F:Nat)(s:AA):Option (Bool):=
 B5 (BP (λσ=>EO s σ) F 0) (BQ λν=>EN )
def GJ (s:AA):Option (Int):=
 Bn (BT .i64 ((s.length:Int)+2))<|Bn (BT .i64 (((s.length:Int)+2)+(Lib.countByte s 34:Int)))<|Bn (BT .i64 ((((s.length:Int)+2)+(Lib.countByte s 34:Int))+(Lib.countByte s 92:Int)))<|some ((((s.length:Int)+2)+(Lib.countByte s 34:Int))+(Lib.countByte s 92:Int))
def JC (F:Nat)(c:Ao):Option (Bool):=
 B7 (decide (c.fKind=1)) (some ((decide (c.fInt=0))&&((decide (c.fStr=([]:AA)))&&(decide (c.fN=0))))) (B7 (decide (c.fKind=2)) (some (bif decide (c.fInt=0) then((decide (c.fStr=([]:AA)))&&(decide (c.fN=0))) else((decide (c.fInt=1))&&((decide (c.fStr=([]:AA)))&&(decide (c.fN=0)))))) (B7 (decide (c.fKind=3)) (some ((decide (c.fStr=([]:AA)))&&(decide (c.fN=0)))) (B7 (decide (c.fKind=4)) (Bn (imp (decide (c.fInt=0)) (imp (decide (c.fN=0)) ((HK F c.fStr).isSome)))<|some ((decide (c.fInt=0))&&((decide (c.fN=0))&&(ov (HK F c.fStr))))) (B7 (decide (c.fKind=5)) (some ((decide (c.fInt=0))&&((decide (c.fStr=([]:AA)))&&(decide (0≤c.fN))))) (B7 (decide (c.fKind=6)) (some ((decide (c.fInt=0))&&((decide (c.fStr=([]:AA)))&&(decide (0≤c.fN))))) (some false))))))
def LP (c:Ao):Option (Int):=
 B7 (decide (c.fKind=1)) (some 4) (B7 (decide (c.fKind=2)) (some (IntKind.wrap .i64 (5-c.fInt))) (B7 (decide (c.fKind=3)) (Bn (BT .i64 c.fInt)<|some ((Lib.itoa c.fInt).length:Int)) (B7 (decide (c.fKind=4)) (B5 (GJ c.fStr) λha=>some ha) (some (IntKind.wrap .i64 (2+(max 0 (IntKind.wrap .i64 (c.fN-1)))))))))
def CD (ha:(List Av)):Option (Stp ((List Av)) (Out ((List Av)) ((List Av)))):=
 B7 (decide (0<(ha.length:Int))) (Bn (BT .i64 ((ha.length:Int)-1))<|Bn (C2 ((ha.length:Int)-1) (ha.length:Int))<|Bn (BT .i64 (((Ac ha ((ha.length:Int)-1)).fLeft)-1))<|MI (List.set ha (Int.toNat ((ha.length:Int)-1)) (Av.mk ((Ac ha ((ha.length:Int)-1)).fPairs) (((Ac ha ((ha.length:Int)-1)).fLeft)-1) ((Ac ha ((ha.length:Int)-1)).fKey) ((Ac ha ((ha.length:Int)-1)).fLast) ((Ac ha ((ha.length:Int)-1)).fStarted))) λhb=>B7 (decide (0<((Ac hb ((ha.length:Int)-1)).fLeft))) (MI (List.set hb (Int.toNat ((ha.length:Int)-1)) (Av.mk ((Ac hb ((ha.length:Int)-1)).fPairs) ((Ac hb ((ha.length:Int)-1)).fLeft) ((Ac hb ((ha.length:Int)-1)).fPairs) ((Ac hb ((ha.length:Int)-1)).fLast) ((Ac hb ((ha.length:Int)-1)).fStarted))) λhd=>some (.out (.ret hd))) (Bn (BT .i64 ((hb.length:Int)-1))<|Bn (Qy ((hb.length:Int)-1) (hb.length:Int))<|some (.next (List.take (Int.toNat ((hb.length:Int)-1)) hb)))) (some (.out (.go ha)))
def Df (ha:(List Av)):Option ((List Av)):=
 some ha
def HN (F:Nat)(stack:(List Av)):Option ((List Av)):=
 B5 (BP (λσ=>CD σ) F stack) (BQ λν=>Df ν)
def CU (ha:Int)(hb:(List Av))(hd:A1):Option (Stp ((List Av)×Int×A1) (Out (Int×A1×Bool) (A1))):=
 Bn (BT .i64 (ha+1))<|some (.next (hb,ha+1,hd))
def CC (F:Nat)(v:(List Ao))(ha:(List Av))(hb:Int)(hd:A1):Option (Stp ((List Av)×Int×A1) (Out (Int×A1×Bool) (A1))):=
 B7 (decide (hb<(v.length:Int))) (Bn (C2 hb (v.length:Int))<|B5 (JC F (Ac v hb)) λhj=>B7 (!hj) (some (.out (.ret (0,hd,false)))) (Bn (imp (decide (0<(ha.length:Int))) (BT .i64 ((ha.length:Int)-1)))<|Bn (imp (decide (0<(ha.length:Int))) (C2 ((ha.length:Int)-1) (ha.length:Int)))<|B7 (((decide (0<(ha.length:Int)))&&((Ac ha ((ha.length:Int)-1)).fKey))) (Bn (BT .i64 ((ha.length:Int)-1))<|Bn (C2 ((ha.length:Int)-1) (ha.length:Int))<|B7 (((!decide (((Ac v hb).fKind)=4))||(((Ac ha ((ha.length:Int)-1)).fStarted)&&(BJ ((Ac v hb).fStr) ((Ac ha ((ha.length:Int)-1)).fLast)||decide (((Ac v hb).fStr)=((Ac ha ((ha.length:Int)-1)).fLast)))))) (some (.out (.ret (0,hd,false)))) (MI (List.set ha (Int.toNat ((ha.length:Int)-1)) (Av.mk ((Ac ha ((ha.length:Int)-1)).fPairs) ((Ac ha ((ha.length:Int)-1)).fLeft) ((Ac ha ((ha.length:Int)-1)).fKey) ((Ac v hb).fStr) ((Ac ha ((ha.length:Int)-1)).fStarted))) λhe=>MI (List.set he (Int.toNat ((ha.length:Int)-1)) (Av.mk ((Ac he ((ha.length:Int)-1)).fPairs) ((Ac he ((ha.length:Int)-1)).fLeft) ((Ac he ((ha.length:Int)-1)).fKey) ((Ac he ((ha.length:Int)-1)).fLast) true)) λhf=>MI (List.set hf (Int.toNat ((ha.length:Int)-1)) (Av.mk ((Ac hf ((ha.length:Int)-1)).fPairs) ((Ac hf ((ha.length:Int)-1)).fLeft) false ((Ac hf ((ha.length:Int)-1)).fLast) ((Ac hf ((ha.length:Int)-1)).fStarted))) λhk=>B5 (GJ ((Ac v hb).fStr)) λhh=>Bn (BT .i64 (hh+1))<|CU hb hk (A1.mk hd.fDepth (IntKind.wrap .i64 (hd.fBytes+(hh+1))) hd.fOutside (hd.fLong||(decide (200<(((Ac v hb).fStr).length:Int))))))) (Bn (BT .i64 ((ha.length:Int)+1))<|B5 (LP (Ac v hb)) λhg=>Bn (imp (!hd.fOutside) (imp (decide (((Ac v hb).fKind)=3)) ((Bj ((Ac v hb).fInt)).isSome)))<|B7 (decide (0<((Ac v hb).fN))) (B7 (decide ((v.length:Int)<((Ac v hb).fN))) (some (.out (.ret (0,(A1.mk (max hd.fDepth ((ha.length:Int)+1)) (IntKind.wrap .i64 (hd.fBytes+hg)) (hd.fOutside||((decide (((Ac v hb).fKind)=3))&&(!(ov (Bj ((Ac v hb).fInt)))))) (hd.fLong||(decide (200<(((Ac v hb).fStr).length:Int))))),false)))) (Bn (JX 48 (ha.length+([(Av.mk (decide (((Ac v hb).fKind)=6)) ((Ac v hb).fN) (decide (((Ac v hb).fKind)=6)) ([]:AA) false)]:List Av).length))<|CU hb (ha++([(Av.mk (decide (((Ac v hb).fKind)=6)) ((Ac v hb).fN) (decide (((Ac v hb).fKind)=6)) ([]:AA) false)]:List Av)) (A1.mk (max hd.fDepth ((ha.length:Int)+1)) (IntKind.wrap .i64 (hd.fBytes+hg)) (hd.fOutside||((decide (((Ac v hb).fKind)=3))&&(!(ov (Bj ((Ac v hb).fInt)))))) (hd.fLong||(decide (200<(((Ac v hb).fStr).length:Int))))))) (B5 (HN F ha) λhi=>B7 (decide ((hi.length:Int)=0)) (Bn (BT .i64 (hb+1))<|some (.out (.ret (hb+1,(A1.mk (max hd.fDepth ((ha.length:Int)+1)) (IntKind.wrap .i64 (hd.fBytes+hg)) (hd.fOutside||((decide (((Ac v hb).fKind)=3))&&(!(ov (Bj ((Ac v hb).fInt)))))) (hd.fLong||(decide (200<(((Ac v hb).fStr).length:Int))))),true)))) (CU hb hi (A1.mk (max hd.fDepth ((ha.length:Int)+1)) (IntKind.wrap .i64 (hd.fBytes+hg)) (hd.fOutside||((decide (((Ac v hb).fKind)=3))&&(!(ov (Bj ((Ac v hb).fInt)))))) (hd.fLong||(decide (200<(((Ac v hb).fStr).length:Int)))))))))) (some (.out (.go hd)))
def HL (ha:A1):Option (Int×A1×Bool):=
 some (0,ha,false)
def HM (F:Nat)(v:(List Ao)):Option (Int×A1×Bool):=
 B5 (BP (λσ=>CC F v σ.1 σ.2.1 σ.2.2) F (([]:List Av),0,(A1.mk 0 0 false false))) (BQ λν=>HL ν)
def JE (F:Nat)(v:(List Ao)):Option (Int):=
 B5 (HM F v) λr1=>B7 (((!r1.2.2)||(!decide (r1.1=(v.length:Int))))) (some 1) (B7 (r1.2.1.fOutside) (some 2) (B7 ((r1.2.1.fLong||((decide (200<(v.length:Int)))||((decide (8<r1.2.1.fDepth))||(decide (4000<r1.2.1.fBytes)))))) (some 3) (some 0)))
end Go.Proofs.YthbbedliepkakaaGreatDoor
namespace Go.Proofs.YthbbedliepkakaaGreatDoor.Q
open Go Go.RowKit
set_option linter.unusedVariables false
set_option linter.unusedSimpArgs false
set_option maxRecDepth 100000
set_option maxHeartbeats 4000000
@[reducible] def Au (x:Av):List Rp:=[rB x.fPairs,rI .i64 x.fLeft,rB x.fKey,rS x.fLast,rB x.fStarted]
theorem Gn (x:Av):(Au x).length=5:=rfl
theorem Jn (x:Av):(Au x).all (·.one)=true:=rfl
@[reducible] def AK (x:A1):List Rp:=[rI .i64 x.fDepth,rI .i64 x.fBytes,rB x.fOutside,rB x.fLong]
theorem RF:∃inf,Tryz.prog.info? 147=some inf∧inf.zero=some (.agg #[(.bool false),(.int .i64 0),(.bool false),(.string ⟨#[]⟩),(.bool false)])∧inf.size=5∧inf.bytes=48:=by
  have key:(Tryz.prog.info? 147).map (λi=>(i.zero,i.size,i.bytes))=some (some (.agg #[(.bool false),(.int .i64 0),(.bool false),(.string ⟨#[]⟩),(.bool false)]),5,48):=by kernel_rfl
  obtain⟨inf,h1,h2⟩:=Option.map_eq_some_iff.1 key;simp only[Prod.mk.injEq] at h2;exact⟨inf,h1,h2.1,h2.2.1,h2.2.2⟩
theorem QH (parts:List (Nat×Value)):Tryz.prog.built 147 parts=Instr.fill (λi=>(#[(0,1),(1,1),(2,1),(3,1),(4,1)]:Array (Nat×Nat))[i]?) #[(.bool false),(.int .i64 0),(.bool false),(.string ⟨#[]⟩),(.bool false)] parts:=by kernel_rfl
theorem I9 {n:Nat}{c:Cx}{l:Fr}{H:List Ent}{d:Option Nat}{ty:TypeId}{pos:String}{af:Array Edge}{g:Option (Nat×Bool)}{x0:Operand}{r0:Rp}(h0:ev l x0=some r0)(u0:r0.one=true){x1:Operand}{r1:Rp}(h1:ev l x1=some r1)(u1:r1.one=true){x2:Operand}{r2:Rp}(h2:ev l x2=some r2)(u2:r2.one=true):Bi Tryz.prog n c l H { dst:=d,op:=.build 147 #[(0,x0),(1,x1),(2,x2)],type:=ty,pos:=pos,after:=af,guard:=g } (Bu [r0,r1,r2,rS ([]:AA),rB false]):=λa w Z ha _=>by
  have p0:=ha.ev h0;have c0:=Bs (r0.hone u0 Z _ p0);have p1:=ha.ev h1;have c1:=Bs (r1.hone u1 Z _ p1);have p2:=ha.ev h2;have c2:=Bs (r2.hone u2 Z _ p2);have hb:Tryz.prog.built 147 [(0,a.eval x0),(1,a.eval x1),(2,a.eval x2)]=some #[a.eval x0,a.eval x1,a.eval x2,(.string ⟨#[]⟩),(.bool false)]:=by
    rw[QH];generalize a.eval x0=v0 at *;generalize a.eval x1=v1 at *;generalize a.eval x2=v2 at *;simp[Instr.fill,c0,c1,c2]
  refine⟨.agg #[a.eval x0,a.eval x1,a.eval x2,(.string ⟨#[]⟩),(.bool false)],⟨[a.eval x0,a.eval x1,a.eval x2,(.string ⟨#[]⟩),(.bool false)],rfl,p0,p1,p2,rfl,rfl,trivial⟩,?_⟩;have:=run_build w 147 #[(0,a.eval x0),(1,a.eval x1),(2,a.eval x2)] _ (by simpa using hb);simp[execOp,this]
theorem Qj (n:Int)(r:Bool)(h:Bj n=some r):Fn Tryz.prog GE 103 [rI .i64 n] [] (λR H=>R=rB r∧H=[]):=by
 refine enter (n:=9) Tryz.func103 Aa Tryz.ntmps103 Aa (λw Z=>?_);refine Bh (l':=[(0,rI .i64 n)]) (H':=[]) Aa Aa ?_;unfold Bj at h;refine As (wv (r:=rB false) (Aj Aa) (A3 (AM [(2,rB ((decide ((-1000000000000)≤n))&&(decide (n≤1000000000000))))] [] ?_ ?_)))
 ·refine At (wm Aa (wv (Ha Aa Aa) (wm Aa (AL (decide ((-1000000000000)≤n)) (λc1=>?_) (λc1=>?_)))))
  ·refine wo c1 (wm Aa (wo c1 (wv (Ha Aa Aa) (GI Aa c1 Aa (wa Aa (Ar ?_))))));exact Cw c1
  ·refine wf c1 (wf c1 (wv (r:=rB false) (AG (b:=decide ((-1000000000000)≤n)) Aa c1 Aa) (wa Aa (Ar ?_))));exact Cw c1
 refine A5 ?_;obtain rfl:=AC h;exact A7 (BW Tryz.results103 (AY Aa)) sN ⟨Aa,Aa⟩
theorem Re (F:Nat)(s:AA)(r:Bool)(h:HK F s=some r):Fn Tryz.prog GE 129 [rS s] [] (λR H=>R=rB r∧H=[]):=by
 refine enter (n:=20) Tryz.func129 Aa Tryz.ntmps129 Aa (λw Z=>?_);refine Bh (l':=[(0,rS s)]) (H':=[]) Aa Aa ?_;unfold HK at h;refine As (wv (r:=rB false) (Aj Aa) (A3 (Ax (As (wm Aa (wv (BS GF Aa) (wv (r:=rI .i64 0) (Aq Aa) (A3 (AS ?_)))))))));obtain⟨hl,hm,hi⟩:=AV h;refine B9 (S:=Nat×(Int)×(Unit)) (V:=(Unit)×(Unit)) 0 (λσ=>BP (λσ=>EO s σ) σ.1 σ.2.1=some hl) (λσ=>[(0,rS s),(5,rI .i64 (s.length:Int)),(6,rI .i64 σ.2.1)]) (λσ=>[]) (λσ=>σ.1) (F,0,()) hm (AR.c Aa (AR.c Aa (AR.c Aa AR.nil))) sN (λσ=>EN =some r) (λσ=>[]) (λσ=>[]) ?_ ?_
 ·rintro⟨hz,hb,⟨⟩⟩ hn;refine Bh (l':=[(0,rS s),(5,rI .i64 (s.length:Int)),(6,rI .i64 hb)]) (H':=[]) Aa Aa ?_;obtain⟨ho,rfl,t37,hd,hf⟩:=Ey hn;replace hd:EO s hb=some t37:=hd;unfold EO at hd;refine As (wv (DE Aa Aa) (A3 (Ax (AD (b:=decide (hb<(s.length:Int))) Aa (λhg=>?_) (λhg=>?_)))))
  ·have hp:=AZ hg hd;refine AF (Bd (Ax (AS (As (wm Aa (wa Aa (A3 ?_)))))));obtain⟨hj,hk⟩:=AH hp;refine AM [(0,rS s),(5,rI .i64 (s.length:Int)),(6,rI .i64 hb),(18,rB ((decide ((Eb s hb)<32))||(decide (126<(Eb s hb)))))] [] ?_ ?_
   ·refine At (wm Aa (wm Aa (wv (Dp GF Aa Aa hj) (wv (DE Aa Aa) (wm Aa (AL (decide ((Eb s hb)<32)) (λha=>?_) (λha=>?_)))))))
    ·refine wf ha (wf ha (wf ha (wf ha (wv (r:=rB true) (Ap (b:=decide ((Eb s hb)<32)) Aa ha Aa) (Ar ?_)))));exact Cw ha
    ·refine wo ha (wm Aa (wo ha (wm Aa (wo ha (wv (Dp GF Aa Aa hj) (wo ha (wv (Dt Aa Aa) (EY Aa ha Aa (Ar ?_)))))))));exact Cw ha
   refine AD (b:=((decide ((Eb s hb)<32))||(decide (126<(Eb s hb))))) Aa (λhh=>?_) (λhh=>?_)
   ·have hq:=AZ hh hk;refine As (wv (r:=rB false) (Aj Aa) (A3 (A5 (AJ (Am (Am (BI ?_)))))));have hr:=CM hq hf hi;refine AJ (Am ?_);obtain rfl:=AC hr;exact A7 (BW Tryz.results129 (AY Aa)) sN ⟨Aa,Aa⟩
   ·have hs:=Ba hh hk;refine AF (AX (Bd (At ?_)));obtain⟨ht,hu⟩:=AH hs;refine wv (BN Aa Aa ht) (wm Aa (Ar ?_));have hw:=BK hu hf;exact Az (AT (ho,hb+1,()) ⟨hw,UQ _⟩ (AR.c Aa (AR.c Aa (AR.c Aa AR.nil))) sN)
  ·have hx:=Ba hg hd;refine B3 (A9 ?_);have hy:=CR hx hf hi;exact A9 (Bo (AT ((),()) hy AR.nil sN))
 ·rintro⟨⟨⟩,⟨⟩⟩ he;refine Dv (l':=[]) (H':=[]) Aa Aa ?_;replace he:EN =some r:=he;unfold EN at he;refine Bk (Bd (As (wv (r:=rB true) (Aj Aa) (A3 (A5 ?_)))));obtain rfl:=AC he;exact A7 (BW Tryz.results129 (AY Aa)) sN ⟨Aa,Aa⟩
theorem Kx (s:AA)(r:Int)(h:GJ s=some r):Fn Tryz.prog GE 112 [rS s] [] (λR H=>R=rI .i64 r∧H=[]):=by
 refine enter (n:=12) Tryz.func112 Aa Tryz.ntmps112 Aa (λw Z=>?_);refine Bh (l':=[(0,rS s)]) (H':=[]) Aa Aa ?_;unfold GJ at h;refine As (wv (r:=rI .i64 0) (Aj Aa) (BG (wm Aa (wv (BS GF Aa) ?_))));obtain⟨g1,h2⟩:=AH h;refine wv (BN Aa Aa g1) (wm Aa (Dd (rs:=[rS s,rS ([34]:AA)]) (r:=rI .i64 (Lib.countByte s 34:Int)) Tryz.call130 Aa (NX s 34) Aa Aa ?_));obtain⟨g3,h4⟩:=AH h2;refine wv (BN Aa Aa g3) (wm Aa (Dd (rs:=[rS s,rS ([92]:AA)]) (r:=rI .i64 (Lib.countByte s 92:Int)) Tryz.call130 Aa (NX s 92) Aa Aa ?_));obtain⟨g5,h6⟩:=AH h4;refine wv (BN Aa Aa g5) (wa Aa (A3 (A5 ?_)));obtain rfl:=AC h6;exact A7 (BW Tryz.results112 (AY Aa)) sN ⟨Aa,Aa⟩
theorem P3 (F:Nat)(c:Ao)(r:Bool)(h:JC F c=some r):Fn Tryz.prog GE 111 [Bu (Al c)] [] (λR H=>R=rB r∧H=[]):=by
 refine enter (n:=81) Tryz.func111 Aa Tryz.ntmps111 Aa (λw Z=>?_);refine Bh (l':=[(0,Bu (Al c))]) (H':=[]) Aa Aa ?_;unfold JC at h;refine As (BD Aa Aa (λb1=>?_));refine wv (r:=rB false) (Aj Aa) (A3 (Ax (As (wv (Ai Cv Aa LJ Aa Aa) (wv (Ay (i:=0) LM Aa Aa Aa) (A3 (AS (As (wv (B6 Aa Aa) (wa Aa (A3 (AD (b:=decide (c.fKind=1)) Aa (λc2=>?_) (λc2=>?_)))))))))))))
 ·have h3:=AZ c2 h;refine AM [(2,rB ((decide (c.fInt=0))&&((decide (c.fStr=([]:AA)))&&(decide (c.fN=0)))))] [] ?_ ?_
  ·refine At (wv (Ai Cv Aa Ca Aa Aa) (wv (Ay (i:=0) Cl Aa Aa Aa) (wv (B6 Aa Aa) (wm Aa (AL (decide (c.fInt=0)) (λc4=>?_) (λc4=>?_))))))
   ·refine wo c4 (wv (Ai Cv Aa DG Aa Aa) (wo c4 (wv (Ay (i:=0) DI Aa Aa Aa) (wo c4 (wv (Ei Aa Aa) (GI Aa c4 Aa (wm Aa (AL (decide (c.fStr=([]:AA))) (λc5=>?_) (λc5=>?_)))))))))
    ·refine wo c5 (wv (Ai Cv Aa Ca Aa Aa) (wo c5 (wv (Ay (i:=0) Cl Aa Aa Aa) (wo c5 (wv (B6 Aa Aa) (GI Aa c5 Aa (wa Aa (Ar ?_))))))));exact Cw (And.intro c4 c5)
    ·refine wf c5 (wf c5 (wf c5 (wv (r:=rB false) (AG (b:=decide (c.fStr=([]:AA))) Aa c5 Aa) (wa Aa (Ar ?_)))));exact Cw (And.intro c4 c5)
   ·refine wf c4 (wf c4 (wf c4 (wv (r:=rB false) (AG (b:=decide (c.fInt=0)) Aa c4 Aa) (wm Aa (Ak (b:=false) Aa Aa Aa Aa (Ak (b:=false) Aa Aa Aa Aa (Ak (b:=false) Aa Aa Aa Aa (wv (r:=rB false) (AG (b:=false) Aa Aa Aa) (wa Aa (Ar ?_))))))))));exact Cw c4
  refine A5 (AJ (Am ?_));obtain rfl:=AC h3;exact A7 (BW J8 (AY Aa)) sN ⟨Aa,Aa⟩
 ·have h6:=Ba c2 h;refine As (wv (B6 Aa Aa) (wa Aa (A3 (AD (b:=decide (c.fKind=2)) Aa (λc7=>?_) (λc7=>?_)))))
  ·have h8:=AZ c7 h6;refine AM [(2,rB (bif decide (c.fInt=0) then((decide (c.fStr=([]:AA)))&&(decide (c.fN=0))) else((decide (c.fInt=1))&&((decide (c.fStr=([]:AA)))&&(decide (c.fN=0))))))] [] ?_ ?_
   ·refine At (wv (Ai Cv Aa Ca Aa Aa) (wv (Ay (i:=0) Cl Aa Aa Aa) (wv (B6 Aa Aa) (wm Aa (AL (decide (c.fInt=0)) (λc9=>?_) (λc9=>?_))))))
    ·refine wf c9 (wf c9 (wf c9 (wv (r:=rB true) (Ap (b:=decide (c.fInt=0)) Aa c9 Aa) (wm Aa (AW (b:=true) Aa Aa Aa (wv (Ai Cv Aa DG Aa Aa) (AW (b:=true) Aa Aa Aa (wv (Ay (i:=0) DI Aa Aa Aa) (AW (b:=true) Aa Aa Aa (wv (Ei Aa Aa) (wv (r:=rB (decide (c.fStr=([]:AA)))) (Ap (b:=true) Aa Aa Aa) (wm Aa (AL (decide (c.fStr=([]:AA))) (λhg=>?_) (λhg=>?_))))))))))))))
     ·refine wo hg (wv (Ai Cv Aa Ca Aa Aa) (wo hg (wv (Ay (i:=0) Cl Aa Aa Aa) (wo hg (wv (B6 Aa Aa) (GI Aa hg Aa (wa Aa (Ar ?_))))))));exact Cw (And.intro c9 hg)
     ·refine wf hg (wf hg (wf hg (wv (r:=rB false) (AG (b:=decide (c.fStr=([]:AA))) Aa hg Aa) (wa Aa (Ar ?_)))));exact Cw (And.intro c9 hg)
    ·refine wo c9 (wv (Ai Cv Aa Ca Aa Aa) (wo c9 (wv (Ay (i:=0) Cl Aa Aa Aa) (wo c9 (wv (B6 Aa Aa) (EY Aa c9 Aa (wm Aa (AL (decide (c.fInt=1)) (λhb=>?_) (λhb=>?_)))))))))
     ·refine wo hb (wv (Ai Cv Aa DG Aa Aa) (wo hb (wv (Ay (i:=0) DI Aa Aa Aa) (wo hb (wv (Ei Aa Aa) (GI Aa hb Aa (wm Aa (AL (decide (c.fStr=([]:AA))) (λhh=>?_) (λhh=>?_)))))))))
      ·refine wo hh (wv (Ai Cv Aa Ca Aa Aa) (wo hh (wv (Ay (i:=0) Cl Aa Aa Aa) (wo hh (wv (B6 Aa Aa) (GI Aa hh Aa (wa Aa (Ar ?_))))))));exact Cw (And.intro c9 (And.intro hb hh))
      ·refine wf hh (wf hh (wf hh (wv (r:=rB false) (AG (b:=decide (c.fStr=([]:AA))) Aa hh Aa) (wa Aa (Ar ?_)))));exact Cw (And.intro c9 (And.intro hb hh))
     ·refine wf hb (wf hb (wf hb (wv (r:=rB false) (AG (b:=decide (c.fInt=1)) Aa hb Aa) (wm Aa (Ak (b:=false) Aa Aa Aa Aa (Ak (b:=false) Aa Aa Aa Aa (Ak (b:=false) Aa Aa Aa Aa (wv (r:=rB false) (AG (b:=false) Aa Aa Aa) (wa Aa (Ar ?_))))))))));exact Cw (And.intro c9 hb)
   refine A5 (AJ (Am ?_));obtain rfl:=AC h8;exact A7 (BW J8 (AY Aa)) sN ⟨Aa,Aa⟩
  ·have hp:=Ba c7 h6;refine As (wv (B6 Aa Aa) (wa Aa (A3 (AD (b:=decide (c.fKind=3)) Aa (λhm=>?_) (λhm=>?_)))))
   ·have ht:=AZ hm hp;refine AM [(2,rB ((decide (c.fStr=([]:AA)))&&(decide (c.fN=0))))] [] ?_ ?_
    ·refine At (wv (Ai Cv Aa DG Aa Aa) (wv (Ay (i:=0) DI Aa Aa Aa) (wv (Ei Aa Aa) (wm Aa (AL (decide (c.fStr=([]:AA))) (λhi=>?_) (λhi=>?_))))))
     ·refine wo hi (wv (Ai Cv Aa Ca Aa Aa) (wo hi (wv (Ay (i:=0) Cl Aa Aa Aa) (wo hi (wv (B6 Aa Aa) (GI Aa hi Aa (wa Aa (Ar ?_))))))));exact Cw hi
     ·refine wf hi (wf hi (wf hi (wv (r:=rB false) (AG (b:=decide (c.fStr=([]:AA))) Aa hi Aa) (wa Aa (Ar ?_)))));exact Cw hi
    refine A5 (AJ (Am ?_));obtain rfl:=AC ht;exact A7 (BW J8 (AY Aa)) sN ⟨Aa,Aa⟩
   ·have hq:=Ba hm hp;refine As (wv (B6 Aa Aa) (wa Aa (A3 (AD (b:=decide (c.fKind=4)) Aa (λhn=>?_) (λhn=>?_)))))
    ·have hu:=AZ hn hq;obtain⟨hw,hx⟩:=AH hu;refine AM [(2,rB ((decide (c.fInt=0))&&((decide (c.fN=0))&&(ov (HK F c.fStr)))))] [] ?_ ?_
     ·refine At (wv (Ai Cv Aa Ca Aa Aa) (wv (Ay (i:=0) Cl Aa Aa Aa) (wv (B6 Aa Aa) (wm Aa (AL (decide (c.fInt=0)) (λha=>?_) (λha=>?_))))))
      ·refine wo ha (wv (Ai Cv Aa Ca Aa Aa) (wo ha (wv (Ay (i:=0) Cl Aa Aa Aa) (wo ha (wv (B6 Aa Aa) (GI Aa ha Aa (wm Aa (AL (decide (c.fN=0)) (λhd=>?_) (λhd=>?_)))))))))
       ·refine wo hd (wv (Ai Cv Aa DG Aa Aa) (wo hd (wv (Ay (i:=0) DI Aa Aa Aa) (wo hd (IT Tryz.call129 (Re F c.fStr (ov (HK F c.fStr)) (SH (JY (JY hw ha) hd))) Aa (GI Aa hd Aa (wa Aa (Ar ?_))))))));exact Cw (And.intro ha hd)
       ·refine wf hd (wf hd (wf hd (wv (r:=rB false) (AG (b:=decide (c.fN=0)) Aa hd Aa) (wa Aa (Ar ?_)))));exact Cw (And.intro ha hd)
      ·refine wf ha (wf ha (wf ha (wv (r:=rB false) (AG (b:=decide (c.fInt=0)) Aa ha Aa) (wm Aa (Ak (b:=false) Aa Aa Aa Aa (Ak (b:=false) Aa Aa Aa Aa (Ak (b:=false) Aa Aa Aa Aa (wv (r:=rB false) (AG (b:=false) Aa Aa Aa) (wa Aa (Ar ?_))))))))));exact Cw ha
     refine A5 (AJ (Am ?_));obtain rfl:=AC hx;exact A7 (BW J8 (AY Aa)) sN ⟨Aa,Aa⟩
    ·have hr:=Ba hn hq;refine Ax (As (wv (B6 Aa Aa) (wa Aa (A3 (AD (b:=decide (c.fKind=5)) Aa (λhl=>?_) (λhl=>?_))))))
     ·have hy:=AZ hl hr;refine AF (Bd (BY Aa hl (AM [(2,rB ((decide (c.fInt=0))&&((decide (c.fStr=([]:AA)))&&(decide (0≤c.fN)))))] [] ?_ ?_)))
      ·refine At (wv (Ai Cv Aa Ca Aa Aa) (wv (Ay (i:=0) Cl Aa Aa Aa) (wv (B6 Aa Aa) (wm Aa (AL (decide (c.fInt=0)) (λhe=>?_) (λhe=>?_))))))
       ·refine wo he (wv (Ai Cv Aa DG Aa Aa) (wo he (wv (Ay (i:=0) DI Aa Aa Aa) (wo he (wv (Ei Aa Aa) (GI Aa he Aa (wm Aa (AL (decide (c.fStr=([]:AA))) (λhj=>?_) (λhj=>?_)))))))))
        ·refine wo hj (wv (Ai Cv Aa Ca Aa Aa) (wo hj (wv (Ay (i:=0) Cl Aa Aa Aa) (wo hj (wv (H7 Aa Aa) (GI Aa hj Aa (wa Aa (Ar ?_))))))));exact Cw (And.intro he hj)
        ·refine wf hj (wf hj (wf hj (wv (r:=rB false) (AG (b:=decide (c.fStr=([]:AA))) Aa hj Aa) (wa Aa (Ar ?_)))));exact Cw (And.intro he hj)
       ·refine wf he (wf he (wf he (wv (r:=rB false) (AG (b:=decide (c.fInt=0)) Aa he Aa) (wm Aa (Ak (b:=false) Aa Aa Aa Aa (Ak (b:=false) Aa Aa Aa Aa (Ak (b:=false) Aa Aa Aa Aa (wv (r:=rB false) (AG (b:=false) Aa Aa Aa) (wa Aa (Ar ?_))))))))));exact Cw he
      refine A5 (AJ (Am ?_));obtain rfl:=AC hy;exact A7 (BW J8 (AY Aa)) sN ⟨Aa,Aa⟩
     ·have hs:=Ba hl hr;refine At (wv (B6 Aa Aa) (wa Aa (A3 (AD (b:=decide (c.fKind=6)) Aa (λho=>?_) (λho=>?_)))))
      ·have hz:=AZ ho hs;refine AM [(2,rB ((decide (c.fInt=0))&&((decide (c.fStr=([]:AA)))&&(decide (0≤c.fN)))))] [] ?_ ?_
       ·refine At (wv (Ai Cv Aa Ca Aa Aa) (wv (Ay (i:=0) Cl Aa Aa Aa) (wv (B6 Aa Aa) (wm Aa (AL (decide (c.fInt=0)) (λhf=>?_) (λhf=>?_))))))
        ·refine wo hf (wv (Ai Cv Aa DG Aa Aa) (wo hf (wv (Ay (i:=0) DI Aa Aa Aa) (wo hf (wv (Ei Aa Aa) (GI Aa hf Aa (wm Aa (AL (decide (c.fStr=([]:AA))) (λhk=>?_) (λhk=>?_)))))))))
         ·refine wo hk (wv (Ai Cv Aa Ca Aa Aa) (wo hk (wv (Ay (i:=0) Cl Aa Aa Aa) (wo hk (wv (H7 Aa Aa) (GI Aa hk Aa (wa Aa (Ar ?_))))))));exact Cw (And.intro hf hk)
         ·refine wf hk (wf hk (wf hk (wv (r:=rB false) (AG (b:=decide (c.fStr=([]:AA))) Aa hk Aa) (wa Aa (Ar ?_)))));exact Cw (And.intro hf hk)
        ·refine wf hf (wf hf (wf hf (wv (r:=rB false) (AG (b:=decide (c.fInt=0)) Aa hf Aa) (wm Aa (Ak (b:=false) Aa Aa Aa Aa (Ak (b:=false) Aa Aa Aa Aa (Ak (b:=false) Aa Aa Aa Aa (wv (r:=rB false) (AG (b:=false) Aa Aa Aa) (wa Aa (Ar ?_))))))))));exact Cw hf
       refine A5 (AJ (Am ?_));obtain rfl:=AC hz;exact A7 (BW J8 (AY Aa)) sN ⟨Aa,Aa⟩
      ·have h0:=Ba ho hs;refine AF (AX (Bd (As (wv (r:=rB false) (Aj Aa) (A3 (A5 ?_))))));obtain rfl:=AC h0;exact A7 (BW J8 (AY Aa)) (sS sN) ⟨Aa,Aa⟩
theorem Rf (c:Ao)(r:Int)(h:LP c=some r):Fn Tryz.prog GE 113 [Bu (Al c)] [] (λR H=>R=rI .i64 r∧H=[]):=by
 refine enter (n:=28) Tryz.func113 Aa Tryz.ntmps113 Aa (λw Z=>?_);refine Bh (l':=[(0,Bu (Al c))]) (H':=[]) Aa Aa ?_;unfold LP at h;refine As (BD Aa Aa (λb1=>?_));refine wv (r:=rI .i64 0) (Aj Aa) (A3 (Ax (As (wv (Ai Cv Aa LJ Aa Aa) (wv (Ay (i:=0) LM Aa Aa Aa) (A3 (AS (As (wv (B6 Aa Aa) (wa Aa (A3 (AD (b:=decide (c.fKind=1)) Aa (λc2=>?_) (λc2=>?_)))))))))))))
 ·have h3:=AZ c2 h;refine As (wv (r:=rI .i64 4) (Aj Aa) (A3 (A5 (AJ (Am ?_)))));obtain rfl:=AC h3;exact A7 (BW LL (AY Aa)) (sS sN) ⟨Aa,Aa⟩
 ·have h4:=Ba c2 h;refine As (wv (B6 Aa Aa) (wa Aa (A3 (AD (b:=decide (c.fKind=2)) Aa (λc5=>?_) (λc5=>?_)))))
  ·have h6:=AZ c5 h4;refine As (wv (Ai Cv Aa Ca Aa Aa) (wv (Ay (i:=0) Cl Aa Aa Aa) (wv (r:=rI .i64 (IntKind.wrap .i64 (5-c.fInt))) (Qe Aa Aa) (wa Aa (A3 (A5 (AJ (Am ?_))))))));obtain rfl:=AC h6;exact A7 (BW LL (AY Aa)) (sS sN) ⟨Aa,Aa⟩
  ·have h7:=Ba c5 h4;refine As (wv (B6 Aa Aa) (wa Aa (A3 (AD (b:=decide (c.fKind=3)) Aa (λc8=>?_) (λc8=>?_)))))
   ·have h9:=AZ c8 h7;refine As (wv (Ai Cv Aa Ca Aa Aa) (wv (Ay (i:=0) Cl Aa Aa Aa) ?_));obtain⟨hd,he⟩:=AH h9;refine Dd (rs:=[rI .i64 c.fInt]) (r:=rS (Lib.itoa c.fInt)) Tryz.call65 Aa (M4 c.fInt hd) Aa Aa (wv (BS GF Aa) (wa Aa (A3 (A5 (AJ (Am ?_))))));obtain rfl:=AC he;exact A7 (BW LL (AY Aa)) (sS sN) ⟨Aa,Aa⟩
   ·have hb:=Ba c8 h7;refine As (wv (B6 Aa Aa) (wa Aa (A3 (AD (b:=decide (c.fKind=4)) Aa (λha=>?_) (λha=>?_)))))
    ·have hf:=AZ ha hb;refine As (wv (Ai Cv Aa DG Aa Aa) (wv (Ay (i:=0) DI Aa Aa Aa) ?_));obtain⟨hg,hh,hi⟩:=AV hf;refine IT Tryz.call112 (Kx c.fStr hg hh) Aa (wa Aa (A3 (A5 (AJ (Am ?_)))));obtain rfl:=AC hi;exact A7 (BW LL (AY Aa)) (sS sN) ⟨Aa,Aa⟩
    ·have hj:=Ba ha hb;refine AF (AX (Bd (As (wv (Ai Cv Aa Ca Aa Aa) (wv (Ay (i:=0) Cl Aa Aa Aa) (wv (r:=rI .i64 (IntKind.wrap .i64 (c.fN-1))) (Qe Aa Aa) (wv (Qi TL Aa Aa) (wv (r:=rI .i64 (IntKind.wrap .i64 (2+(max 0 (IntKind.wrap .i64 (c.fN-1)))))) (Nl Aa Aa) (wa Aa (A3 (A5 ?_)))))))))));obtain rfl:=AC hj;exact A7 (BW LL (AY Aa)) (sS sN) ⟨Aa,Aa⟩
theorem Ot (F:Nat)(hg:Value)(stack:(List Av))(r:(List Av))(h:HN F stack=some r):Fn Tryz.prog GE 114 [rv hg] [.row hg 147 5 (List.map Au stack)] (λR H=>∃u0:Value,R=rv u0∧H=[.row u0 147 5 (List.map Au r)]):=by
 refine enter (n:=38) Tryz.func114 Aa Tryz.ntmps114 Aa (λw Z=>?_);refine Bh (l':=[(0,rv hg)]) (H':=[.row hg 147 5 (List.map Au stack)]) Aa Aa ?_;unfold HN at h;refine As (wv (r:=rv (.slice none 0 0)) (Aj Aa) (A3 (Ax (AS ?_))));obtain⟨hq,hr,hn⟩:=AV h;refine B9 (S:=Nat×((List Av))×(Value)) (V:=((List Av))×(Value)) 0 (λσ=>BP (λσ=>CD σ) σ.1 σ.2.1=some hq) (λσ=>[(0,rv σ.2.2),(2,rv (.slice none 0 0))]) (λσ=>[.row σ.2.2 147 5 (List.map Au σ.2.1)]) (λσ=>σ.1) (F,stack,hg) hr (AR.c Aa (AR.c Aa AR.nil)) (sC sN) (λσ=>Df σ.1=some r) (λσ=>[(0,rv σ.2),(2,rv (.slice none 0 0))]) (λσ=>[.row σ.2 147 5 (List.map Au σ.1)]) ?_ ?_
 ·rintro⟨hG,ha,hd⟩ hs;refine Bh (l':=[(0,rv hd),(2,rv (.slice none 0 0))]) (H':=[.row hd 147 5 (List.map Au ha)]) Aa Aa ?_;obtain⟨ht,rfl,hu,hh,hj⟩:=Ey hs;replace hh:CD ha=some hu:=hh;unfold CD at hh;refine Ax (As (wm Aa (wv (BR (ys:=ha) (enc:=Au) (i:=0) Gl Aa Aa) (wv (Dt Aa Aa) (A3 (AD (b:=decide (0<(ha.length:Int))) Aa (λhk=>?_) (λhk=>?_)))))))
  ·have hw:=AZ hk hh;refine AF (Bd (AS (As (wm Aa (wm Aa (wv (BR (ys:=ha) (enc:=Au) (i:=0) Gl Aa Aa) ?_))))));obtain⟨hx,hy⟩:=AH hw;refine wv (Ia Aa Aa hx) ?_;obtain⟨he,hz⟩:=AH hy;refine wv (r:=rv (DP 5 hd (Int.toNat ((ha.length:Int)-1)) 0)) (G2 (i:=0) Gl LK Aa Aa Aa (Bv he)) (wa Aa (BG (wm Aa (wv (r:=rv (DP 5 hd (Int.toNat ((ha.length:Int)-1)) 0)) (BB (k:=0) Aa (Bv he) Aa Aa) (wv (r:=rv (DP 5 hd (Int.toNat ((ha.length:Int)-1)) 1)) (Ef (k:=0) Gk Aa Ca Aa (Bv he) Aa Aa Aa) (wv (r:=rI .i64 ((Ac ha ((ha.length:Int)-1)).fLeft)) (EK (enc:=Au) (ys:=ha) (i:=0) (j:=(ha.length:Int)-1) Cl Aa Aa he Aa) ?_))))));obtain⟨h0,h1⟩:=AH hz;refine wv (Ia Aa Aa h0) (wv (r:=rv (DP 5 hd (Int.toNat ((ha.length:Int)-1)) 0)) (BB (k:=0) Aa (Bv he) Aa Aa) (wv (r:=rv (DP 5 hd (Int.toNat ((ha.length:Int)-1)) 1)) (Ef (k:=0) Gk Aa Ca Aa (Bv he) Aa Aa Aa) (Iy (enc:=Au) (ys:=ha) (y':=(Av.mk ((Ac ha ((ha.length:Int)-1)).fPairs) (((Ac ha ((ha.length:Int)-1)).fLeft)-1) ((Ac ha ((ha.length:Int)-1)).fKey) ((Ac ha ((ha.length:Int)-1)).fLast) ((Ac ha ((ha.length:Int)-1)).fStarted))) (i:=0) (j:=(ha.length:Int)-1) Ca Aa Aa (BE Aa) Aa he Aa Aa (H':=[.row hd 147 5 (List.map Au (List.set ha (Int.toNat ((ha.length:Int)-1)) (Av.mk ((Ac ha ((ha.length:Int)-1)).fPairs) (((Ac ha ((ha.length:Int)-1)).fLeft)-1) ((Ac ha ((ha.length:Int)-1)).fKey) ((Ac ha ((ha.length:Int)-1)).fLast) ((Ac ha ((ha.length:Int)-1)).fStarted))))]) Aa ?_)));obtain⟨hb,hf,ho⟩:=Ip h1;rw[← hf];refine A3 (Ax (As (wm Aa (wv (r:=rv (DP 5 hd (Int.toNat ((ha.length:Int)-1)) 0)) (BB (k:=0) Aa (Bv (Cf he hf)) Aa Aa) (wv (r:=rv (DP 5 hd (Int.toNat ((ha.length:Int)-1)) 1)) (Ef (k:=0) Gk Aa Ca Aa (Bv (Cf he hf)) Aa Aa Aa) (wv (r:=rI .i64 ((Ac hb ((ha.length:Int)-1)).fLeft)) (EK (enc:=Au) (ys:=hb) (i:=0) (j:=(ha.length:Int)-1) Cl Aa Aa (Cf he hf) Aa) (wv (Dt Aa Aa) (A3 (AD (b:=decide (0<((Ac hb ((ha.length:Int)-1)).fLeft))) Aa (λhl=>?_) (λhl=>?_))))))))))
   ·have h2:=AZ hl ho;refine As (wm Aa (wm Aa (wv (r:=rv (DP 5 hd (Int.toNat ((ha.length:Int)-1)) 0)) (BB (k:=0) Aa (Bv (Cf he hf)) Aa Aa) (wv (r:=rv (DP 5 hd (Int.toNat ((ha.length:Int)-1)) 0)) (Ef (k:=0) Gk Aa GG Aa (Bv (Cf he hf)) Aa Aa Aa) (wv (r:=rB ((Ac hb ((ha.length:Int)-1)).fPairs)) (EK (enc:=Au) (ys:=hb) (i:=0) (j:=(ha.length:Int)-1) QR Aa Aa (Cf he hf) Aa) (wv (r:=rv (DP 5 hd (Int.toNat ((ha.length:Int)-1)) 0)) (BB (k:=0) Aa (Bv (Cf he hf)) Aa Aa) (wv (r:=rv (DP 5 hd (Int.toNat ((ha.length:Int)-1)) 2)) (Ef (k:=0) Gk Aa GG Aa (Bv (Cf he hf)) Aa Aa Aa) (Iy (enc:=Au) (ys:=hb) (y':=(Av.mk ((Ac hb ((ha.length:Int)-1)).fPairs) ((Ac hb ((ha.length:Int)-1)).fLeft) ((Ac hb ((ha.length:Int)-1)).fPairs) ((Ac hb ((ha.length:Int)-1)).fLast) ((Ac hb ((ha.length:Int)-1)).fStarted))) (i:=0) (j:=(ha.length:Int)-1) GG Aa Aa (BE Aa) Aa (Cf he hf) Aa Aa (H':=[.row hd 147 5 (List.map Au (List.set hb (Int.toNat ((ha.length:Int)-1)) (Av.mk ((Ac hb ((ha.length:Int)-1)).fPairs) ((Ac hb ((ha.length:Int)-1)).fLeft) ((Ac hb ((ha.length:Int)-1)).fPairs) ((Ac hb ((ha.length:Int)-1)).fLast) ((Ac hb ((ha.length:Int)-1)).fStarted))))]) Aa ?_))))))));obtain⟨hH,h3,h4⟩:=Ip h2;rw[← h3];refine BG (wm Aa (wa Aa (A3 (A5 (Am (AJ (Am (BI ?_))))))));have h5:=CM h4 hj hn;refine AJ (Am ?_);obtain rfl:=AC h5;exact A7 (BW Tryz.results114 (AY Aa)) (sC sN) ⟨hd,Aa,Aa⟩
   ·have h6:=Ba hl ho;refine AF (Bd (At (wm Aa (wm Aa (wv (BR (ys:=hb) (enc:=Au) (i:=0) Gl Aa Aa) ?_)))));obtain⟨h7,h8⟩:=AH h6;refine wv (Ia Aa Aa h7) ?_;obtain⟨h9,hA⟩:=AH h8;refine Tw (i:=0) Gl LK Aa Aa Aa h9 Aa (λhB=>?_);refine wa Aa (Ar (AX ?_));have hC:=BK hA hj;exact Az (AT (ht,List.take (Int.toNat ((hb.length:Int)-1)) hb,hB) ⟨hC,UQ _⟩ (AR.c Aa (AR.c Aa AR.nil)) (sC sN))
  ·have hD:=Ba hk hh;refine B3 (A9 ?_);have hE:=CR hD hj hn;exact A9 (Bo (AT (ha,hd) hE (AR.c Aa (AR.c Aa AR.nil)) (sC sN)))
 ·rintro⟨hp,hm⟩ hi;refine Dv (l':=[(0,rv hm),(2,rv (.slice none 0 0))]) (H':=[.row hm 147 5 (List.map Au hp)]) Aa Aa ?_;replace hi:Df hp=some r:=hi;unfold Df at hi;refine Bk (Bd (As (wm Aa (wa Aa (A3 (A5 ?_))))));obtain rfl:=AC hi;exact A7 (BW Tryz.results114 (AY Aa)) (sC sN) ⟨hm,Aa,Aa⟩
theorem Rg (F:Nat)(v:(List Ao))(r:Int×A1×Bool)(h:HM F v=some r):Fn Tryz.prog GE 88 [Bw 4 (List.map Al v)] [] (λR H=>R=D8 [rI .i64 r.1,Bu (AK r.2.1),rB r.2.2]∧H=[]):=by
 refine enter (n:=152) Tryz.func88 Aa Tryz.ntmps88 Aa (λw Z=>?_);refine Bh (l':=[(0,Bw 4 (List.map Al v))]) (H':=[]) Aa Aa ?_;unfold HM at h;refine As (wv (r:=rI .i64 0) (Aj Aa) (E6 (cs:=[rI .i64 0,rI .i64 0,rB false,rB false]) Tryz.zeroValue121 Aa Aa (λb1=>?_)));refine wv (r:=rB false) (Aj Aa) (A3 (Pz (As (E6 (cs:=[rI .i64 0,rI .i64 0,rB false,rB false]) Tryz.zeroValue121 Aa Aa (λb2=>?_)))));refine BG (wv (r:=rv (.slice none 0 0)) (Aj Aa) (A3 (Ax (P0 (Bd (Ax (As (wm Aa (wv (BC (ys:=v) (enc:=Al) Jg Aa) (wv (r:=rI .i64 0) (Aq Aa) (A3 (AS (WC.nilrow (e:=147) (sz:=5) (Ek (H2:=[.blk b2 [rI .i64 0,rI .i64 0,rB false,rB false] 121,.blk b1 [rI .i64 0,rI .i64 0,rB false,rB false] 121,.row (.slice none 0 0                                                                                                                                                   ) 147 5 (List.map Au ([]:List Av))]) ((Ae (i:=1) Aa).trans (U0 _ ((Ae (i:=1) Aa).trans (U0 _ (U3 _))))) ?_))))))))))))));obtain⟨hQ,hR,hy⟩:=AV h;refine B9 (S:=Nat×((List Av)×Int×A1)×(Value)) (V:=(A1)×(Unit)) 0 (λσ=>BP (λσ=>CC F v σ.1 σ.2.1 σ.2.2) σ.1 σ.2.1=some hQ) (λσ=>[(0,Bw 4 (List.map Al v)),(3,rv (.pointer (some ⟨b1,0,none⟩))),(5,rv (.pointer (some ⟨b2,0,none⟩))),(6,rv σ.2.2),(11,Bw 4 (List.map Al v)),(12,rI .i64 (v.length:Int)),(13,rI .i64 σ.2.1.2.1)]) (λσ=>[.blk b2 (AK σ.2.1.2.2) 121,.blk b1 [rI .i64 0,rI .i64 0,rB false,rB false] 121,.row σ.2.2 147 5 (List.map Au σ.2.1.1)]) (λσ=>σ.1) (F,(([]:List Av),0,(A1.mk 0 0 false false)),(.slice none 0 0                                                                                                                                                   )) hR (AR.c Aa (AR.c Aa (AR.c5 Aa Aa Aa Aa Aa AR.nil))) (sC (sC (sC sN))) (λσ=>HL σ.1=some r) (λσ=>[(3,rv (.pointer (some ⟨b1,0,none⟩))),(5,rv (.pointer (some ⟨b2,0,none⟩)))]) (λσ=>[.blk b2 (AK σ.1) 121,.blk b1 [rI .i64 0,rI .i64 0,rB false,rB false] 121]) ?_ ?_
 ·rintro⟨gI,⟨hd,hb,ha⟩,he⟩ hS;refine Bh (l':=[(0,Bw 4 (List.map Al v)),(3,rv (.pointer (some ⟨b1,0,none⟩))),(5,rv (.pointer (some ⟨b2,0,none⟩))),(6,rv he),(11,Bw 4 (List.map Al v)),(12,rI .i64 (v.length:Int)),(13,rI .i64 hb)]) (H':=[.blk b2 (AK ha) 121,.blk b1 [rI .i64 0,rI .i64 0,rB false,rB false] 121,.row he 147 5 (List.map Au hd)]) Aa Aa ?_;obtain⟨hT,rfl,h4,hz,hx⟩:=Ey hS;replace hz:CC F v hd hb ha=some h4:=hz;unfold CC at hz;refine As (wv (DE Aa Aa) (A3 (Ax (AD (b:=decide (hb<(v.length:Int))) Aa (λh5=>?_) (λh5=>?_)))))
  ·have hU:=AZ h5 hz;refine AF (Bd (Et (S:=((List Av)×A1)×(Value)) (λσ=>CU hb σ.1.1 σ.1.2=some h4) (λσ=>[(0,Bw 4 (List.map Al v)),(3,rv (.pointer (some ⟨b1,0,none⟩))),(5,rv (.pointer (some ⟨b2,0,none⟩))),(6,rv σ.2),(11,Bw 4 (List.map Al v)),(12,rI .i64 (v.length:Int)),(13,rI .i64 hb)]) (λσ=>[.blk b2 (AK σ.1.2) 121,.blk b1 [rI .i64 0,rI .i64 0,rB false,rB false] 121,.row σ.2 147 5 (List.map Au σ.1.1)]) ?_ ?_))
   ·refine AS (As (wm Aa ?_));obtain⟨hV,hW⟩:=AH hU;refine wv (BF (enc:=Al) (ys:=v) Jg LI Aa Aa hV) (wv (Er Tryz.isAgg95 LI Aa Aa Aa) (E6 (cs:=[rI .i64 0,rI .i64 0,rS ([]:AA),rI .i64 0]) S2 Aa Aa (λhf=>?_)));refine wa Aa (Di (i:=0) LI Aa Aa Aa (CK.c Aa) Aa Aa (cs':=[rI .i64 ((Ac v hb).fKind),rI .i64 ((Ac v hb).fInt),rS ((Ac v hb).fStr),rI .i64 ((Ac v hb).fN)]) Aa (H':=[.blk hf (Al (Ac v hb)) 95,.blk b2 (AK ha) 121,.blk b1 [rI .i64 0,rI .i64 0,rB false,rB false] 121,.row he 147 5 (List.map Au hd)]) Aa (A3 (Ax (As (wv (Bt (i:=0) Tryz.isAgg95 LI Aa Aa Aa Aa) ?_)))));obtain⟨hH,hX,hI⟩:=AV hW;refine IT Tryz.call111 (P3 F (Ac v hb) hH hX) Aa (wv (CA Aa) (A3 (AD (b:=!hH) Aa (λh6=>?_) (λh6=>?_))))
    ·have hY:=AZ h6 hI;refine Ax (Ga (H1:=[.blk hf (Al (Ac v hb)) 95,.blk b2 (AK ha) 121,.blk b1 (AK ha) 121,.row he 147 5 (List.map Au hd)]) [3,5] [⟨[],Bu (AK ha),1⟩,⟨[],rI .i64 0,0⟩,⟨[0],rv undef,2⟩,⟨[],rB false,0⟩] (rle [(3,_),(2,[.blk hf (Al (Ac v hb)) 95,.blk b2 (AK ha) 121,.blk b1 (AK ha) 121,.row he 147 5 (List.map Au hd)])]) [2,4,3] ?_ ?_)
     ·refine of (Bt (i:=1) Hc Eh Aa Aa Aa Aa) (oq (Aj Aa) (HZ Aa (Ln (Db (i:=2) Eh Aa Aa Aa (CK.c Aa) Aa Aa (cs':=[rI .i64 ha.fDepth,rI .i64 ha.fBytes,rB ha.fOutside,rB ha.fLong]) Aa (H':=[.blk hf (Al (Ac v hb)) 95,.blk b2 (AK ha) 121,.blk b1 (AK ha) 121,.row he 147 5 (List.map Au hd)]) Aa)) ?_));refine oq (Aj Aa) ?_;exact Cu
     refine Bd (A5 (Am (AJ (Am (Am (BI ?_))))));have hZ:=CM hY hx hy;refine AJ (Am (HI ?_));obtain rfl:=AC hZ;exact A7 (PO Pr (AY Aa) (JK (i:=2) Hc Eh Aa Aa Aa) (AY Aa)) (sS (sS (sS (sS sN)))) ⟨Aa,Aa⟩
    ·have ga:=Ba h6 hI;refine AF (Bd (Ax (As (wm Aa (wv (BR (ys:=hd) (enc:=Au) (i:=3) Gl Aa Aa) (wa Aa (A3 ?_)))))));obtain⟨gb,gc⟩:=AH ga;obtain⟨h7,hJ⟩:=AH gc;refine AM [(0,Bw 4 (List.map Al v)),(3,rv (.pointer (some ⟨b1,0,none⟩))),(5,rv (.pointer (some ⟨b2,0,none⟩))),(6,rv he),(7,rI .i64 hb),(8,rv (.pointer (some ⟨hf,0,none⟩))),(9,rI .i64 (hd.length:Int)),(11,Bw 4 (List.map Al v)),(12,rI .i64 (v.length:Int)),(13,rI .i64 hb),(33,rB ((decide (0<(hd.length:Int)))&&((Ac hd ((hd.length:Int)-1)).fKey)))] [.blk hf (Al (Ac v hb)) 95,.blk b2 (AK ha) 121,.blk b1 [rI .i64 0,rI .i64 0,rB false,rB false] 121,.row he 147 5 (List.map Au hd)] ?_ ?_
     ·refine At (wm Aa (wv (Dt Aa Aa) (wm Aa (AL (decide (0<(hd.length:Int))) (λhi=>?_) (λhi=>?_)))))
      ·refine wo hi (wm Aa (wo hi (wm Aa (wo hi (wv (Ia Aa Aa (JY gb hi)) (wo hi (wv (r:=rv (DP 5 he (Int.toNat ((hd.length:Int)-1)) 0)) (G2 (i:=3) Gl LK Aa Aa Aa (Bv (JY h7 hi))) (wo hi (wv (r:=rv (DP 5 he (Int.toNat ((hd.length:Int)-1)) 2)) (Ef (k:=3) Gk Aa GG Aa (Bv (JY h7 hi)) Aa Aa Aa) (wo hi (wv (r:=rB ((Ac hd ((hd.length:Int)-1)).fKey)) (EK (enc:=Au) (ys:=hd) (i:=3) (j:=(hd.length:Int)-1) QR Aa Aa (JY h7 hi) Aa) (GI Aa hi Aa (Ar ?_)))))))))))));exact Cw hi
      ·refine wf hi (wf hi (wf hi (wf hi (wf hi (wf hi (wv (r:=rB false) (AG (b:=decide (0<(hd.length:Int))) Aa hi Aa) (Ar ?_)))))));exact Cw hi
     refine AD (b:=((decide (0<(hd.length:Int)))&&((Ac hd ((hd.length:Int)-1)).fKey))) Aa (λh8=>?_) (λh8=>?_)
     ·have gd:=AZ h8 hJ;refine As (wm Aa (wm Aa ?_));obtain⟨ge,gf⟩:=AH gd;refine wv (Ia Aa Aa ge) ?_;obtain⟨hj,hK⟩:=AH gf;refine wv (r:=rv (DP 5 he (Int.toNat ((hd.length:Int)-1)) 0)) (G2 (i:=3) Gl LK Aa Aa Aa (Bv hj)) (wa Aa (A3 (Ax (AM [(0,Bw 4 (List.map Al v)),(3,rv (.pointer (some ⟨b1,0,none⟩))),(5,rv (.pointer (some ⟨b2,0,none⟩))),(6,rv he),(8,rv (.pointer (some ⟨hf,0,none⟩))),(10,rv (DP 5 he (Int.toNat ((hd.length:Int)-1)) 0)),(11,Bw 4 (List.map Al v)),(12,rI .i64 (v.length:Int)),(13,rI .i64 hb),(38,rv (.pointer (some ⟨hf,0,none⟩))),(39,rI .i64 ((Ac v hb).fKind)),(40,rB (!decide (((Ac v hb).fKind)=4))),(41,rB (!decide (((Ac v hb).fKind)=4))),(55,rB ((!decide (((Ac v hb).fKind)=4))||(((Ac hd ((hd.length:Int)-1)).fStarted)&&(BJ ((Ac v hb).fStr) ((Ac hd ((hd.length:Int)-1)).fLast)||decide (((Ac v hb).fStr)=((Ac hd ((hd.length:Int)-1)).fLast))))))] [.blk hf (Al (Ac v hb)) 95,.blk b2 (AK ha) 121,.blk b1 [rI .i64 0,rI .i64 0,rB false,rB false] 121,.row he 147 5 (List.map Au hd)] ?_ ?_))))
      ·refine AL (!decide (((Ac v hb).fKind)=4)) (λhh=>?_) (λhh=>?_)
       ·refine CQ [0,3,5,6,8,10,11,12,13] [⟨[],rv (.pointer (some ⟨hf,0,none⟩)),0⟩,⟨[0],rI .i64 ((Ac v hb).fKind),1⟩,⟨[1],rB (!decide (((Ac v hb).fKind)=4)),0⟩,⟨[2],rB (!decide (((Ac v hb).fKind)=4)),0⟩,⟨[3],rv undef,0⟩,⟨[4,3],rv undef,0⟩,⟨[5,3],rv undef,0⟩,⟨[6,3],rv undef,0⟩,⟨[7,3],rv undef,0⟩,⟨[8],rv undef,0⟩,⟨[9,8],rv undef,0⟩,⟨[8],rv undef,0⟩,⟨[11,8],rv undef,0⟩,⟨[12,8],rv undef,0⟩,⟨[13,8],rv undef,0⟩,⟨[10,14,8],rv undef,0⟩,⟨[8,15,3],rv undef,0⟩,⟨[3,16],rB true,0⟩] [38,39,40,41,42,43,44,45,46,47,48,49,50,51,52,53,54,55,0,3,5,6,8,10,11,12,13] ?_ ?_
        ·refine oq (Ai Cv Aa LJ Aa Aa) (of (Ay (i:=0) LM Aa Aa Aa) (oq (E4 Aa Aa) (oq (Aq Aa) (oz hh (oz hh (oz hh (oz hh (oz hh (ou (ou (ou (ou (ou (ou (ou (oz hh (oq (Ap (b:=!decide (((Ac v hb).fKind)=4)) Aa hh Aa) ?_)))))))))))))))));exact Cu
        exact Cw hh
       ·refine AL ((Ac hd ((hd.length:Int)-1)).fStarted) (λhk=>?_) (λhk=>?_)
        ·refine CQ [0,3,5,6,8,10,11,12,13] [⟨[],rv (.pointer (some ⟨hf,0,none⟩)),0⟩,⟨[0],rI .i64 ((Ac v hb).fKind),1⟩,⟨[1],rB (!decide (((Ac v hb).fKind)=4)),0⟩,⟨[2],rB (!decide (((Ac v hb).fKind)=4)),0⟩,⟨[3],rv (DP 5 he (Int.toNat ((hd.length:Int)-1)) 0),0⟩,⟨[4,3],rv (DP 5 he (Int.toNat ((hd.length:Int)-1)) 0),1⟩,⟨[5,3],rv (DP 5 he (Int.toNat ((hd.length:Int)-1)) 4),1⟩,⟨[6,3],rB ((Ac hd ((hd.length:Int)-1)).fStarted),1⟩,⟨[7,3],rB ((Ac hd ((hd.length:Int)-1)).fStarted),0⟩,⟨[8],rv (.pointer (some ⟨hf,2,none⟩)),0⟩,⟨[9,8],rS ((Ac v hb).fStr),1⟩,⟨[8],rv (DP 5 he (Int.toNat ((hd.length:Int)-1)) 0),0⟩,⟨[11,8],rv (DP 5 he (Int.toNat ((hd.length:Int)-1)) 0),1⟩,⟨[12,8],rv (DP 5 he (Int.toNat ((hd.length:Int)-1)) 3),1⟩,⟨[13,8],rS ((Ac hd ((hd.length:Int)-1)).fLast),1⟩,⟨[10,14,8],rB (BJ ((Ac v hb).fStr) ((Ac hd ((hd.length:Int)-1)).fLast)||decide (((Ac v hb).fStr)=((Ac hd ((hd.length:Int)-1)).fLast))),0⟩,⟨[8,15,3],rB (BJ ((Ac v hb).fStr) ((Ac hd ((hd.length:Int)-1)).fLast)||decide (((Ac v hb).fStr)=((Ac hd ((hd.length:Int)-1)).fLast))),0⟩,⟨[3,16],rB (BJ ((Ac v hb).fStr) ((Ac hd ((hd.length:Int)-1)).fLast)||decide (((Ac v hb).fStr)=((Ac hd ((hd.length:Int)-1)).fLast))),0⟩] [38,39,40,41,42,43,44,45,46,47,48,49,50,51,52,53,54,55,0,3,5,6,8,10,11,12,13] ?_ ?_
         ·refine oq (Ai Cv Aa LJ Aa Aa) (of (Ay (i:=0) LM Aa Aa Aa) (oq (E4 Aa Aa) (oq (Aq Aa) (on hh (oq (Aq Aa) (on hh (of (BB (k:=3) Aa (Bv hj) Aa Aa) (on hh (of (Ef (k:=3) Gk Aa GG Aa (Bv hj) Aa Aa Aa) (on hh (of (EK (enc:=Au) (ys:=hd) (i:=3) (j:=(hd.length:Int)-1) QR Aa Aa hj Aa) (on hh (oq (Aq Aa) (on hk (oq (Ai Cv Aa DG Aa Aa) (on hk (of (Ay (i:=0) DI Aa Aa Aa) (on hk (oq (Aq Aa) (on hk (of (BB (k:=3) Aa (Bv hj) Aa Aa) (on hk (of (Ef (k:=3) Gk Aa DG Aa (Bv hj) Aa Aa Aa) ?_)))))))))))))))))))))));refine on hk (of (EK (enc:=Au) (ys:=hd) (i:=3) (j:=(hd.length:Int)-1) DI Aa Aa hj Aa) (on hk (oq (Sr Aa Aa) (on hh (oq (Ap Aa hk Aa) (oq (AG Aa hh Aa) ?_))))));exact Cu
         exact Cw (And.intro hh hk)
        ·refine CQ [0,3,5,6,8,10,11,12,13] [⟨[],rv (.pointer (some ⟨hf,0,none⟩)),0⟩,⟨[0],rI .i64 ((Ac v hb).fKind),1⟩,⟨[1],rB (!decide (((Ac v hb).fKind)=4)),0⟩,⟨[2],rB (!decide (((Ac v hb).fKind)=4)),0⟩,⟨[3],rv (DP 5 he (Int.toNat ((hd.length:Int)-1)) 0),0⟩,⟨[4,3],rv (DP 5 he (Int.toNat ((hd.length:Int)-1)) 0),1⟩,⟨[5,3],rv (DP 5 he (Int.toNat ((hd.length:Int)-1)) 4),1⟩,⟨[6,3],rB ((Ac hd ((hd.length:Int)-1)).fStarted),1⟩,⟨[7,3],rB ((Ac hd ((hd.length:Int)-1)).fStarted),0⟩,⟨[8],rv undef,0⟩,⟨[9,8],rv undef,0⟩,⟨[8],rv undef,0⟩,⟨[11,8],rv undef,0⟩,⟨[12,8],rv undef,0⟩,⟨[13,8],rv undef,0⟩,⟨[10,14,8],rv undef,0⟩,⟨[8,15,3],rB false,0⟩,⟨[3,16],rB false,0⟩] [38,39,40,41,42,43,44,45,46,47,48,49,50,51,52,53,54,55,0,3,5,6,8,10,11,12,13] ?_ ?_
         ·refine oq (Ai Cv Aa LJ Aa Aa) (of (Ay (i:=0) LM Aa Aa Aa) (oq (E4 Aa Aa) (oq (Aq Aa) (on hh (oq (Aq Aa) (on hh (of (BB (k:=3) Aa (Bv hj) Aa Aa) (on hh (of (Ef (k:=3) Gk Aa GG Aa (Bv hj) Aa Aa Aa) (on hh (of (EK (enc:=Au) (ys:=hd) (i:=3) (j:=(hd.length:Int)-1) QR Aa Aa hj Aa) (on hh (oq (Aq Aa) (oz hk (oz hk (oz hk (oz hk (oz hk (oz hk (oz hk (on hh (oq (AG (b:=(Ac hd ((hd.length:Int)-1)).fStarted) Aa hk Aa) (oq (AG Aa hh Aa) ?_)))))))))))))))))))))));exact Cu
         exact Cw (And.intro hh hk)
      refine AD (b:=((!decide (((Ac v hb).fKind)=4))||(((Ac hd ((hd.length:Int)-1)).fStarted)&&(BJ ((Ac v hb).fStr) ((Ac hd ((hd.length:Int)-1)).fLast)||decide (((Ac v hb).fStr)=((Ac hd ((hd.length:Int)-1)).fLast)))))) Aa (λh9=>?_) (λh9=>?_)
      ·have gg:=AZ h9 hK;refine Ax (Ga (H1:=[.blk hf (Al (Ac v hb)) 95,.blk b2 (AK ha) 121,.blk b1 (AK ha) 121,.row he 147 5 (List.map Au hd)]) [3,5] [⟨[],Bu (AK ha),1⟩,⟨[],rI .i64 0,0⟩,⟨[0],rv undef,2⟩,⟨[],rB false,0⟩] (rle [(3,_),(2,[.blk hf (Al (Ac v hb)) 95,.blk b2 (AK ha) 121,.blk b1 (AK ha) 121,.row he 147 5 (List.map Au hd)])]) [2,4,3] ?_ ?_)
       ·refine of (Bt (i:=1) Hc Eh Aa Aa Aa Aa) (oq (Aj Aa) (HZ Aa (Ln (Db (i:=2) Eh Aa Aa Aa (CK.c Aa) Aa Aa (cs':=[rI .i64 ha.fDepth,rI .i64 ha.fBytes,rB ha.fOutside,rB ha.fLong]) Aa (H':=[.blk hf (Al (Ac v hb)) 95,.blk b2 (AK ha) 121,.blk b1 (AK ha) 121,.row he 147 5 (List.map Au hd)]) Aa)) ?_));refine oq (Aj Aa) ?_;exact Cu
       refine Bd (A5 (Am (Am (AJ (Am (Am (BI ?_)))))));have gh:=CM gg hx hy;refine AJ (Am (HI ?_));obtain rfl:=AC gh;exact A7 (PO Pr (AY Aa) (JK (i:=2) Hc Eh Aa Aa Aa) (AY Aa)) (sS (sS (sS (sS sN)))) ⟨Aa,Aa⟩
      ·have gi:=Ba h9 hK;refine AF (Bd (As (wm Aa (wm Aa (wm Aa (wv (Ai Cv Aa DG Aa Aa) (wv (Ay (i:=0) DI Aa Aa Aa) (wv (r:=rv (DP 5 he (Int.toNat ((hd.length:Int)-1)) 0)) (BB (k:=3) Aa (Bv hj) Aa Aa) (wv (r:=rv (DP 5 he (Int.toNat ((hd.length:Int)-1)) 3)) (Ef (k:=3) Gk Aa DG Aa (Bv hj) Aa Aa Aa) (Iy (enc:=Au) (ys:=hd) (y':=(Av.mk ((Ac hd ((hd.length:Int)-1)).fPairs) ((Ac hd ((hd.length:Int)-1)).fLeft) ((Ac hd ((hd.length:Int)-1)).fKey) ((Ac v hb).fStr) ((Ac hd ((hd.length:Int)-1)).fStarted))) (i:=3) (j:=(hd.length:Int)-1) DG Aa Aa (BE Aa) Aa hj Aa Aa (H':=[.blk hf (Al (Ac v hb)) 95,.blk b2 (AK ha) 121,.blk b1 [rI .i64 0,rI .i64 0,rB false,rB false] 121,.row he 147 5 (List.map Au (List.set hd (Int.toNat ((hd.length:Int)-1)) (Av.mk ((Ac hd ((hd.length:Int)-1)).fPairs) ((Ac hd ((hd.length:Int)-1)).fLeft) ((Ac hd ((hd.length:Int)-1)).fKey) ((Ac v hb).fStr) ((Ac hd ((hd.length:Int)-1)).fStarted))))]) Aa ?_))))))))));obtain⟨hr,hw,gj⟩:=Ip gi;rw[← hw];refine wv (r:=rv (DP 5 he (Int.toNat ((hd.length:Int)-1)) 0)) (BB (k:=3) Aa (Bv (Cf hj hw)) Aa Aa) (wv (r:=rv (DP 5 he (Int.toNat ((hd.length:Int)-1)) 4)) (Ef (k:=3) Gk Aa GG Aa (Bv (Cf hj hw)) Aa Aa Aa) (Iy (enc:=Au) (ys:=hr) (y':=(Av.mk ((Ac hr ((hd.length:Int)-1)).fPairs) ((Ac hr ((hd.length:Int)-1)).fLeft) ((Ac hr ((hd.length:Int)-1)).fKey) ((Ac hr ((hd.length:Int)-1)).fLast) true)) (i:=3) (j:=(hd.length:Int)-1) GG Aa Aa (BE Aa) Aa (Cf hj hw) Aa Aa (H':=[.blk hf (Al (Ac v hb)) 95,.blk b2 (AK ha) 121,.blk b1 [rI .i64 0,rI .i64 0,rB false,rB false] 121,.row he 147 5 (List.map Au (List.set hr (Int.toNat ((hd.length:Int)-1)) (Av.mk ((Ac hr ((hd.length:Int)-1)).fPairs) ((Ac hr ((hd.length:Int)-1)).fLeft) ((Ac hr ((hd.length:Int)-1)).fKey) ((Ac hr ((hd.length:Int)-1)).fLast) true)))]) Aa ?_));obtain⟨hs,h1,gl⟩:=Ip gj;rw[← h1];refine wv (r:=rv (DP 5 he (Int.toNat ((hd.length:Int)-1)) 0)) (BB (k:=3) Aa (Bv (Cf (Cf hj hw) h1)) Aa Aa) (wv (r:=rv (DP 5 he (Int.toNat ((hd.length:Int)-1)) 2)) (Ef (k:=3) Gk Aa GG Aa (Bv (Cf (Cf hj hw) h1)) Aa Aa Aa) (Iy (enc:=Au) (ys:=hs) (y':=(Av.mk ((Ac hs ((hd.length:Int)-1)).fPairs) ((Ac hs ((hd.length:Int)-1)).fLeft) false ((Ac hs ((hd.length:Int)-1)).fLast) ((Ac hs ((hd.length:Int)-1)).fStarted))) (i:=3) (j:=(hd.length:Int)-1) GG Aa Aa (BE Aa) Aa (Cf (Cf hj hw) h1) Aa Aa (H':=[.blk hf (Al (Ac v hb)) 95,.blk b2 (AK ha) 121,.blk b1 [rI .i64 0,rI .i64 0,rB false,rB false] 121,.row he 147 5 (List.map Au (List.set hs (Int.toNat ((hd.length:Int)-1)) (Av.mk ((Ac hs ((hd.length:Int)-1)).fPairs) ((Ac hs ((hd.length:Int)-1)).fLeft) false ((Ac hs ((hd.length:Int)-1)).fLast) ((Ac hs ((hd.length:Int)-1)).fStarted))))]) Aa ?_));obtain⟨ht,gm,gp⟩:=Ip gl;rw[← gm];refine A3 (Ax ?_);obtain⟨hl,gq,gr⟩:=AV gp;obtain⟨gs,gt⟩:=AH gr;refine Ga (H1:=[.blk hf (Al (Ac v hb)) 95,.blk b2 [rI .i64 ha.fDepth,rI .i64 (IntKind.wrap .i64 (ha.fBytes+(hl+1))),rB ha.fOutside,rB ha.fLong] 121,.blk b1 [rI .i64 0,rI .i64 0,rB false,rB false] 121,.row he 147 5 (List.map Au ht)]) [0,3,5,6,8,11,12,13,38,39,40,41] [⟨[],rv (.pointer (some ⟨b2,1,none⟩)),0⟩,⟨[0],rI .i64 ha.fBytes,1⟩,⟨[],rv (.pointer (some ⟨hf,2,none⟩)),0⟩,⟨[2],rS ((Ac v hb).fStr),1⟩,⟨[3],rI .i64 hl,0⟩,⟨[4],rI .i64 (hl+1),0⟩,⟨[1,5],rI .i64 (IntKind.wrap .i64 (ha.fBytes+(hl+1))),0⟩,⟨[],rv (.pointer (some ⟨b2,1,none⟩)),0⟩,⟨[7,6],rv undef,2⟩] (rle [(9,_),(1,[.blk hf (Al (Ac v hb)) 95,.blk b2 [rI .i64 ha.fDepth,rI .i64 (IntKind.wrap .i64 (ha.fBytes+(hl+1))),rB ha.fOutside,rB ha.fLong] 121,.blk b1 [rI .i64 0,rI .i64 0,rB false,rB false] 121,.row he 147 5 (List.map Au ht)])]) [68,69,70,71,72,73,74,75,0,3,5,6,8,11,12,13,38,39,40,41] ?_ ?_
       ·refine oq (Ai Dh Aa Ca Aa Aa) (of (Ay (i:=1) Cl Aa Aa Aa) (oq (Ai Cv Aa DG Aa Aa) (of (Ay (i:=0) DI Aa Aa Aa) (K7 Aa (λH=>Qb Tryz.call112 (Kx ((Ac v hb).fStr) hl gq) Aa) ?_))));refine oq (BN Aa Aa gs) (oq (Nl Aa Aa) (oq (Ai Dh Aa Ca Aa Aa) (HZ Aa (Ln (KQ (i:=1) Ca Aa Aa (BE Aa) Aa Aa (cs':=[rI .i64 ha.fDepth,rI .i64 (IntKind.wrap .i64 (ha.fBytes+(hl+1))),rB ha.fOutside,rB ha.fLong]) Aa (H':=[.blk hf (Al (Ac v hb)) 95,.blk b2 [rI .i64 ha.fDepth,rI .i64 (IntKind.wrap .i64 (ha.fBytes+(hl+1))),rB ha.fOutside,rB ha.fLong] 121,.blk b1 [rI .i64 0,rI .i64 0,rB false,rB false] 121,.row he 147 5 (List.map Au ht)]) Aa)) ?_)));exact Cu
       refine Bd (AM [(0,Bw 4 (List.map Al v)),(3,rv (.pointer (some ⟨b1,0,none⟩))),(5,rv (.pointer (some ⟨b2,0,none⟩))),(6,rv he),(11,Bw 4 (List.map Al v)),(12,rI .i64 (v.length:Int)),(13,rI .i64 hb),(38,rv (.pointer (some ⟨hf,0,none⟩))),(39,rI .i64 ((Ac v hb).fKind)),(40,rB (!decide (((Ac v hb).fKind)=4))),(41,rB (!decide (((Ac v hb).fKind)=4))),(68,rv (.pointer (some ⟨b2,1,none⟩))),(69,rI .i64 ha.fBytes),(70,rv (.pointer (some ⟨hf,2,none⟩))),(71,rS ((Ac v hb).fStr)),(72,rI .i64 hl),(73,rI .i64 (hl+1)),(74,rI .i64 (IntKind.wrap .i64 (ha.fBytes+(hl+1)))),(75,rv (.pointer (some ⟨b2,1,none⟩)))] [.blk hf (Al (Ac v hb)) 95,.blk b2 [rI .i64 ha.fDepth,rI .i64 (IntKind.wrap .i64 (ha.fBytes+(hl+1))),rB ha.fOutside,rB (ha.fLong||(decide (200<(((Ac v hb).fStr).length:Int))))] 121,.blk b1 [rI .i64 0,rI .i64 0,rB false,rB false] 121,.row he 147 5 (List.map Au ht)] ?_ ?_)
       ·refine At (wv (Ai Dh Aa GG Aa Aa) (wv (Ay (i:=1) QR Aa Aa Aa) (wm Aa (AL (ha.fLong) (λho=>?_) (λho=>?_)))))
        ·refine wf ho (wf ho (wf ho (wf ho (wv (r:=rB true) (Ap (b:=ha.fLong) rfl ho rfl) (wv (Ai Dh rfl GG rfl rfl) (C9 (i:=1) GG rfl rfl (BE rfl) rfl rfl (cs':=[rI .i64 ha.fDepth,rI .i64 (IntKind.wrap .i64 (ha.fBytes+(hl+1))),rB ha.fOutside,rB true]) rfl (H':=[.blk hf (Al (Ac v hb)) 95,.blk b2 [rI .i64 ha.fDepth,rI .i64 (IntKind.wrap .i64 (ha.fBytes+(hl+1))),rB ha.fOutside,rB true] 121,.blk b1 [rI .i64 0,rI .i64 0,rB false,rB false] 121,.row he 147 5 (List.map Au ht)]) rfl (Ar (Hu (H':=[.blk hf (Al (Ac v hb)) 95,.blk b2 [rI .i64 ha.fDepth,rI .i64 (IntKind.wrap .i64 (ha.fBytes+(hl+1))),rB ha.fOutside,rB (ha.fLong||(decide (200<(((Ac v hb).fStr).length:Int))))] 121,.blk b1 [rI .i64 0,rI .i64 0,rB false,rB false] 121,.row he 147 5 (List.map Au ht)]) (by simp only[ho,UN,US,UW,UH,UU,UT,Va,UX,UC,UJ,UF,U9]) ?_))))))));exact wt
        ·refine wo ho (wv (Ai Cv rfl DG rfl rfl) (wo ho (wv (Ay (i:=0) DI rfl rfl rfl) (wo ho (wv (BS GF rfl) (wo ho (wv (Dt rfl rfl) (EY rfl ho rfl (wv (Ai Dh rfl GG rfl rfl) (C9 (i:=1) GG rfl rfl (BE rfl) rfl rfl (cs':=[rI .i64 ha.fDepth,rI .i64 (IntKind.wrap .i64 (ha.fBytes+(hl+1))),rB ha.fOutside,rB (decide (200<(((Ac v hb).fStr).length:Int)))]) rfl (H':=[.blk hf (Al (Ac v hb)) 95,.blk b2 [rI .i64 ha.fDepth,rI .i64 (IntKind.wrap .i64 (ha.fBytes+(hl+1))),rB ha.fOutside,rB (decide (200<(((Ac v hb).fStr).length:Int)))] 121,.blk b1 [rI .i64 0,rI .i64 0,rB false,rB false] 121,.row he 147 5 (List.map Au ht)]) rfl (Ar (Hu (H':=[.blk hf (Al (Ac v hb)) 95,.blk b2 [rI .i64 ha.fDepth,rI .i64 (IntKind.wrap .i64 (ha.fBytes+(hl+1))),rB ha.fOutside,rB (ha.fLong||(decide (200<(((Ac v hb).fStr).length:Int))))] 121,.blk b1 [rI .i64 0,rI .i64 0,rB false,rB false] 121,.row he 147 5 (List.map Au ht)]) (by simp only[ho,UN,US,UW,UH,UU,UT,Va,UX,UC,UJ,UF,U9]) ?_))))))))))));exact wt
       exact B3 (A9 (Bk (Az (AT ((ht,(A1.mk ha.fDepth (IntKind.wrap .i64 (ha.fBytes+(hl+1))) ha.fOutside (ha.fLong||(decide (200<(((Ac v hb).fStr).length:Int)))))),he) gt (AR.c Aa (AR.c Aa (AR.c5 Aa Aa Aa Aa Aa AR.nil))) (sS (sC (sC (sC sN))))))))
     ·have gu:=Ba h8 hJ;refine AF (Bd (As (wv (Ai Dh Aa Ca Aa Aa) (wv (Ay (i:=1) Cl Aa Aa Aa) (wm Aa (wv (BR (ys:=hd) (enc:=Au) (i:=3) Gl Aa Aa) ?_))))));obtain⟨gv,gw⟩:=AH gu;refine wv (BN Aa Aa gv) (wv (Qi TL Aa Aa) (wv (Ai Dh Aa Ca Aa Aa) (C9 (i:=1) Ca Aa Aa (BE Aa) Aa Aa (cs':=[rI .i64 (max ha.fDepth ((hd.length:Int)+1)),rI .i64 ha.fBytes,rB ha.fOutside,rB ha.fLong]) Aa (H':=[.blk hf (Al (Ac v hb)) 95,.blk b2 [rI .i64 (max ha.fDepth ((hd.length:Int)+1)),rI .i64 ha.fBytes,rB ha.fOutside,rB ha.fLong] 121,.blk b1 [rI .i64 0,rI .i64 0,rB false,rB false] 121,.row he 147 5 (List.map Au hd)]) Aa (A3 (Ax ?_)))));obtain⟨hg,gx,gy⟩:=AV gw;refine Ga (H1:=[.blk hf (Al (Ac v hb)) 95,.blk b2 [rI .i64 (max ha.fDepth ((hd.length:Int)+1)),rI .i64 (IntKind.wrap .i64 (ha.fBytes+hg)),rB ha.fOutside,rB ha.fLong] 121,.blk b1 [rI .i64 0,rI .i64 0,rB false,rB false] 121,.row he 147 5 (List.map Au hd)]) [0,3,5,6,7,8,11,12,13] [⟨[],rv (.pointer (some ⟨b2,1,none⟩)),0⟩,⟨[0],rI .i64 ha.fBytes,1⟩,⟨[],Bu (Al (Ac v hb)),1⟩,⟨[2],rI .i64 hg,0⟩,⟨[1,3],rI .i64 (IntKind.wrap .i64 (ha.fBytes+hg)),0⟩,⟨[],rv (.pointer (some ⟨b2,1,none⟩)),0⟩,⟨[5,4],rv undef,2⟩] (rle [(7,_),(1,[.blk hf (Al (Ac v hb)) 95,.blk b2 [rI .i64 (max ha.fDepth ((hd.length:Int)+1)),rI .i64 (IntKind.wrap .i64 (ha.fBytes+hg)),rB ha.fOutside,rB ha.fLong] 121,.blk b1 [rI .i64 0,rI .i64 0,rB false,rB false] 121,.row he 147 5 (List.map Au hd)])]) [92,93,94,95,96,97,0,3,5,6,7,8,11,12,13] ?_ ?_
      ·refine oq (Ai Dh Aa Ca Aa Aa) (of (Ay (i:=1) Cl Aa Aa Aa) (of (Bt (i:=0) Tryz.isAgg95 LI Aa Aa Aa Aa) (K7 Aa (λH=>Qb Tryz.call113 (Rf (Ac v hb) hg gx) Aa) ?_)));refine oq (Nl Aa Aa) (oq (Ai Dh Aa Ca Aa Aa) (HZ Aa (Ln (KQ (i:=1) Ca Aa Aa (BE Aa) Aa Aa (cs':=[rI .i64 (max ha.fDepth ((hd.length:Int)+1)),rI .i64 (IntKind.wrap .i64 (ha.fBytes+hg)),rB ha.fOutside,rB ha.fLong]) Aa (H':=[.blk hf (Al (Ac v hb)) 95,.blk b2 [rI .i64 (max ha.fDepth ((hd.length:Int)+1)),rI .i64 (IntKind.wrap .i64 (ha.fBytes+hg)),rB ha.fOutside,rB ha.fLong] 121,.blk b1 [rI .i64 0,rI .i64 0,rB false,rB false] 121,.row he 147 5 (List.map Au hd)]) Aa)) ?_));exact Cu
      refine Bd ?_;obtain⟨gz,hL⟩:=AH gy;refine AM [(0,Bw 4 (List.map Al v)),(3,rv (.pointer (some ⟨b1,0,none⟩))),(5,rv (.pointer (some ⟨b2,0,none⟩))),(6,rv he),(7,rI .i64 hb),(8,rv (.pointer (some ⟨hf,0,none⟩))),(11,Bw 4 (List.map Al v)),(12,rI .i64 (v.length:Int)),(13,rI .i64 hb),(92,rv (.pointer (some ⟨b2,1,none⟩))),(93,rI .i64 ha.fBytes),(94,Bu (Al (Ac v hb))),(95,rI .i64 hg),(96,rI .i64 (IntKind.wrap .i64 (ha.fBytes+hg))),(97,rv (.pointer (some ⟨b2,1,none⟩)))] [.blk hf (Al (Ac v hb)) 95,.blk b2 [rI .i64 (max ha.fDepth ((hd.length:Int)+1)),rI .i64 (IntKind.wrap .i64 (ha.fBytes+hg)),rB (ha.fOutside||((decide (((Ac v hb).fKind)=3))&&(!(ov (Bj ((Ac v hb).fInt)))))),rB ha.fLong] 121,.blk b1 [rI .i64 0,rI .i64 0,rB false,rB false] 121,.row he 147 5 (List.map Au hd)] ?_ ?_
      ·refine At (wv (Ai Dh Aa GG Aa Aa) (wv (Ay (i:=1) QR Aa Aa Aa) (wm Aa (AL (ha.fOutside) (λhm=>?_) (λhm=>?_)))))
       ·refine wf hm (wf hm (wf hm (wf hm (wu (wu (wu (wu (wf hm (wv (r:=rB true) (Ap (b:=ha.fOutside) rfl hm rfl) (wv (Ai Dh rfl GG rfl rfl) (C9 (i:=1) GG rfl rfl (BE rfl) rfl rfl (cs':=[rI .i64 (max ha.fDepth ((hd.length:Int)+1)),rI .i64 (IntKind.wrap .i64 (ha.fBytes+hg)),rB true,rB ha.fLong]) rfl (H':=[.blk hf (Al (Ac v hb)) 95,.blk b2 [rI .i64 (max ha.fDepth ((hd.length:Int)+1)),rI .i64 (IntKind.wrap .i64 (ha.fBytes+hg)),rB true,rB ha.fLong] 121,.blk b1 [rI .i64 0,rI .i64 0,rB false,rB false] 121,.row he 147 5 (List.map Au hd)]) rfl (Ar (Hu (H':=[.blk hf (Al (Ac v hb)) 95,.blk b2 [rI .i64 (max ha.fDepth ((hd.length:Int)+1)),rI .i64 (IntKind.wrap .i64 (ha.fBytes+hg)),rB (ha.fOutside||((decide (((Ac v hb).fKind)=3))&&(!(ov (Bj ((Ac v hb).fInt)))))),rB ha.fLong] 121,.blk b1 [rI .i64 0,rI .i64 0,rB false,rB false] 121,.row he 147 5 (List.map Au hd)]) (by simp only[hm,UN,US,UW,UH,UU,UT,Va,UX,UC,UJ,UF,U9]) ?_)))))))))))));exact wt
       ·refine wo hm (wv (Ai Cv Aa LJ Aa Aa) (wo hm (wv (Ay (i:=0) LM Aa Aa Aa) (wo hm (wv (B6 Aa Aa) (wo hm (wm Aa (AL (decide (((Ac v hb).fKind)=3)) (λhn=>?_) (λhn=>?_)))))))))
        ·refine wo hn (wv (Ai Cv rfl Ca rfl rfl) (wo hn (wv (Ay (i:=0) Cl rfl rfl rfl) (wo hn (IT Tryz.call103 (Qj ((Ac v hb).fInt) (ov (Bj ((Ac v hb).fInt))) (SH (JY (EU gz hm) hn))) rfl (wo hn (wv (CA rfl) (wo hm (GI rfl hn rfl (EY rfl hm rfl (wv (Ai Dh rfl GG rfl rfl) (C9 (i:=1) GG rfl rfl (BE rfl) rfl rfl (cs':=[rI .i64 (max ha.fDepth ((hd.length:Int)+1)),rI .i64 (IntKind.wrap .i64 (ha.fBytes+hg)),rB (!(ov (Bj ((Ac v hb).fInt)))),rB ha.fLong]) rfl (H':=[.blk hf (Al (Ac v hb)) 95,.blk b2 [rI .i64 (max ha.fDepth ((hd.length:Int)+1)),rI .i64 (IntKind.wrap .i64 (ha.fBytes+hg)),rB (!(ov (Bj ((Ac v hb).fInt)))),rB ha.fLong] 121,.blk b1 [rI .i64 0,rI .i64 0,rB false,rB false] 121,.row he 147 5 (List.map Au hd)]) rfl (Ar (Hu (H':=[.blk hf (Al (Ac v hb)) 95,.blk b2 [rI .i64 (max ha.fDepth ((hd.length:Int)+1)),rI .i64 (IntKind.wrap .i64 (ha.fBytes+hg)),rB (ha.fOutside||((decide (((Ac v hb).fKind)=3))&&(!(ov (Bj ((Ac v hb).fInt)))))),rB ha.fLong] 121,.blk b1 [rI .i64 0,rI .i64 0,rB false,rB false] 121,.row he 147 5 (List.map Au hd)]) (by simp only[hm,hn,UN,US,UW,UH,UU,UT,Va,UX,UC,UJ,UF,U9]) ?_))))))))))))));exact wt
        ·refine wf hn (wf hn (wf hn (wf hn (wo hm (wv (r:=rB false) (AG (b:=decide (((Ac v hb).fKind)=3)) rfl hn rfl) (EY rfl hm rfl (wv (Ai Dh rfl GG rfl rfl) (C9 (i:=1) GG rfl rfl (BE rfl) rfl rfl (cs':=[rI .i64 (max ha.fDepth ((hd.length:Int)+1)),rI .i64 (IntKind.wrap .i64 (ha.fBytes+hg)),rB false,rB ha.fLong]) rfl (H':=[.blk hf (Al (Ac v hb)) 95,.blk b2 [rI .i64 (max ha.fDepth ((hd.length:Int)+1)),rI .i64 (IntKind.wrap .i64 (ha.fBytes+hg)),rB false,rB ha.fLong] 121,.blk b1 [rI .i64 0,rI .i64 0,rB false,rB false] 121,.row he 147 5 (List.map Au hd)]) rfl (Ar (Hu (H':=[.blk hf (Al (Ac v hb)) 95,.blk b2 [rI .i64 (max ha.fDepth ((hd.length:Int)+1)),rI .i64 (IntKind.wrap .i64 (ha.fBytes+hg)),rB (ha.fOutside||((decide (((Ac v hb).fKind)=3))&&(!(ov (Bj ((Ac v hb).fInt)))))),rB ha.fLong] 121,.blk b1 [rI .i64 0,rI .i64 0,rB false,rB false] 121,.row he 147 5 (List.map Au hd)]) (by simp only[hm,hn,UN,US,UW,UH,UU,UT,Va,UX,UC,UJ,UF,U9]) ?_))))))))));exact wt
      refine AM [(0,Bw 4 (List.map Al v)),(3,rv (.pointer (some ⟨b1,0,none⟩))),(5,rv (.pointer (some ⟨b2,0,none⟩))),(6,rv he),(7,rI .i64 hb),(8,rv (.pointer (some ⟨hf,0,none⟩))),(11,Bw 4 (List.map Al v)),(12,rI .i64 (v.length:Int)),(13,rI .i64 hb),(92,rv (.pointer (some ⟨b2,1,none⟩))),(93,rI .i64 ha.fBytes),(94,Bu (Al (Ac v hb))),(95,rI .i64 hg),(96,rI .i64 (IntKind.wrap .i64 (ha.fBytes+hg))),(97,rv (.pointer (some ⟨b2,1,none⟩)))] [.blk hf (Al (Ac v hb)) 95,.blk b2 [rI .i64 (max ha.fDepth ((hd.length:Int)+1)),rI .i64 (IntKind.wrap .i64 (ha.fBytes+hg)),rB (ha.fOutside||((decide (((Ac v hb).fKind)=3))&&(!(ov (Bj ((Ac v hb).fInt)))))),rB (ha.fLong||(decide (200<(((Ac v hb).fStr).length:Int))))] 121,.blk b1 [rI .i64 0,rI .i64 0,rB false,rB false] 121,.row he 147 5 (List.map Au hd)] ?_ ?_
      ·refine At (wv (Ai Dh Aa GG Aa Aa) (wv (Ay (i:=1) QR Aa Aa Aa) (wm Aa (AL (ha.fLong) (λhp=>?_) (λhp=>?_)))))
       ·refine wf hp (wf hp (wf hp (wf hp (wv (r:=rB true) (Ap (b:=ha.fLong) rfl hp rfl) (wv (Ai Dh rfl GG rfl rfl) (C9 (i:=1) GG rfl rfl (BE rfl) rfl rfl (cs':=[rI .i64 (max ha.fDepth ((hd.length:Int)+1)),rI .i64 (IntKind.wrap .i64 (ha.fBytes+hg)),rB (ha.fOutside||((decide (((Ac v hb).fKind)=3))&&(!(ov (Bj ((Ac v hb).fInt)))))),rB true]) rfl (H':=[.blk hf (Al (Ac v hb)) 95,.blk b2 [rI .i64 (max ha.fDepth ((hd.length:Int)+1)),rI .i64 (IntKind.wrap .i64 (ha.fBytes+hg)),rB (ha.fOutside||((decide (((Ac v hb).fKind)=3))&&(!(ov (Bj ((Ac v hb).fInt)))))),rB true] 121,.blk b1 [rI .i64 0,rI .i64 0,rB false,rB false] 121,.row he 147 5 (List.map Au hd)]) rfl (Ar (Hu (H':=[.blk hf (Al (Ac v hb)) 95,.blk b2 [rI .i64 (max ha.fDepth ((hd.length:Int)+1)),rI .i64 (IntKind.wrap .i64 (ha.fBytes+hg)),rB (ha.fOutside||((decide (((Ac v hb).fKind)=3))&&(!(ov (Bj ((Ac v hb).fInt)))))),rB (ha.fLong||(decide (200<(((Ac v hb).fStr).length:Int))))] 121,.blk b1 [rI .i64 0,rI .i64 0,rB false,rB false] 121,.row he 147 5 (List.map Au hd)]) (by simp only[hp,UN,US,UW,UH,UU,UT,Va,UX,UC,UJ,UF,U9]) ?_))))))));exact wt
       ·refine wo hp (wv (Ai Cv rfl DG rfl rfl) (wo hp (wv (Ay (i:=0) DI rfl rfl rfl) (wo hp (wv (BS GF rfl) (wo hp (wv (Dt rfl rfl) (EY rfl hp rfl (wv (Ai Dh rfl GG rfl rfl) (C9 (i:=1) GG rfl rfl (BE rfl) rfl rfl (cs':=[rI .i64 (max ha.fDepth ((hd.length:Int)+1)),rI .i64 (IntKind.wrap .i64 (ha.fBytes+hg)),rB (ha.fOutside||((decide (((Ac v hb).fKind)=3))&&(!(ov (Bj ((Ac v hb).fInt)))))),rB (decide (200<(((Ac v hb).fStr).length:Int)))]) rfl (H':=[.blk hf (Al (Ac v hb)) 95,.blk b2 [rI .i64 (max ha.fDepth ((hd.length:Int)+1)),rI .i64 (IntKind.wrap .i64 (ha.fBytes+hg)),rB (ha.fOutside||((decide (((Ac v hb).fKind)=3))&&(!(ov (Bj ((Ac v hb).fInt)))))),rB (decide (200<(((Ac v hb).fStr).length:Int)))] 121,.blk b1 [rI .i64 0,rI .i64 0,rB false,rB false] 121,.row he 147 5 (List.map Au hd)]) rfl (Ar (Hu (H':=[.blk hf (Al (Ac v hb)) 95,.blk b2 [rI .i64 (max ha.fDepth ((hd.length:Int)+1)),rI .i64 (IntKind.wrap .i64 (ha.fBytes+hg)),rB (ha.fOutside||((decide (((Ac v hb).fKind)=3))&&(!(ov (Bj ((Ac v hb).fInt)))))),rB (ha.fLong||(decide (200<(((Ac v hb).fStr).length:Int))))] 121,.blk b1 [rI .i64 0,rI .i64 0,rB false,rB false] 121,.row he 147 5 (List.map Au hd)]) (by simp only[hp,UN,US,UW,UH,UU,UT,Va,UX,UC,UJ,UF,U9]) ?_))))))))))));exact wt
      refine Ax (As (wv (Ai Cv Aa Ca Aa Aa) (wv (Ay (i:=0) Cl Aa Aa Aa) (wv (Dt Aa Aa) (A3 (AD (b:=decide (0<((Ac v hb).fN))) Aa (λhA=>?_) (λhA=>?_)))))))
      ·have hN:=AZ hA hL;refine Ax (As (wv (Ai Cv Aa Ca Aa Aa) (wv (Ay (i:=0) Cl Aa Aa Aa) (wm Aa (wv (BC (ys:=v) (enc:=Al) Jg Aa) (wv (Dt Aa Aa) (A3 (AD (b:=decide ((v.length:Int)<((Ac v hb).fN))) Aa (λhB=>?_) (λhB=>?_)))))))))
       ·have g0:=AZ hB hN;refine Ax (Ga (H1:=[.blk hf (Al (Ac v hb)) 95,.blk b2 [rI .i64 (max ha.fDepth ((hd.length:Int)+1)),rI .i64 (IntKind.wrap .i64 (ha.fBytes+hg)),rB (ha.fOutside||((decide (((Ac v hb).fKind)=3))&&(!(ov (Bj ((Ac v hb).fInt)))))),rB (ha.fLong||(decide (200<(((Ac v hb).fStr).length:Int))))] 121,.blk b1 [rI .i64 (max ha.fDepth ((hd.length:Int)+1)),rI .i64 (IntKind.wrap .i64 (ha.fBytes+hg)),rB (ha.fOutside||((decide (((Ac v hb).fKind)=3))&&(!(ov (Bj ((Ac v hb).fInt)))))),rB (ha.fLong||(decide (200<(((Ac v hb).fStr).length:Int))))] 121,.row he 147 5 (List.map Au hd)]) [3,5] [⟨[],Bu [rI .i64 (max ha.fDepth ((hd.length:Int)+1)),rI .i64 (IntKind.wrap .i64 (ha.fBytes+hg)),rB (ha.fOutside||((decide (((Ac v hb).fKind)=3))&&(!(ov (Bj ((Ac v hb).fInt)))))),rB (ha.fLong||(decide (200<(((Ac v hb).fStr).length:Int))))],1⟩,⟨[],rI .i64 0,0⟩,⟨[0],rv undef,2⟩,⟨[],rB false,0⟩] (rle [(3,_),(2,[.blk hf (Al (Ac v hb)) 95,.blk b2 [rI .i64 (max ha.fDepth ((hd.length:Int)+1)),rI .i64 (IntKind.wrap .i64 (ha.fBytes+hg)),rB (ha.fOutside||((decide (((Ac v hb).fKind)=3))&&(!(ov (Bj ((Ac v hb).fInt)))))),rB (ha.fLong||(decide (200<(((Ac v hb).fStr).length:Int))))] 121,.blk b1 [rI .i64 (max ha.fDepth ((hd.length:Int)+1)),rI .i64 (IntKind.wrap .i64 (ha.fBytes+hg)),rB (ha.fOutside||((decide (((Ac v hb).fKind)=3))&&(!(ov (Bj ((Ac v hb).fInt)))))),rB (ha.fLong||(decide (200<(((Ac v hb).fStr).length:Int))))] 121,.row he 147 5 (List.map Au hd)])]) [2,4,3] ?_ ?_)
        ·refine of (Bt (i:=1) Hc Eh Aa Aa Aa Aa) (oq (Aj Aa) (HZ Aa (Ln (Db (i:=2) Eh Aa Aa Aa (CK.c Aa) Aa Aa (cs':=[rI .i64 (max ha.fDepth ((hd.length:Int)+1)),rI .i64 (IntKind.wrap .i64 (ha.fBytes+hg)),rB (ha.fOutside||((decide (((Ac v hb).fKind)=3))&&(!(ov (Bj ((Ac v hb).fInt)))))),rB (ha.fLong||(decide (200<(((Ac v hb).fStr).length:Int))))]) Aa (H':=[.blk hf (Al (Ac v hb)) 95,.blk b2 [rI .i64 (max ha.fDepth ((hd.length:Int)+1)),rI .i64 (IntKind.wrap .i64 (ha.fBytes+hg)),rB (ha.fOutside||((decide (((Ac v hb).fKind)=3))&&(!(ov (Bj ((Ac v hb).fInt)))))),rB (ha.fLong||(decide (200<(((Ac v hb).fStr).length:Int))))] 121,.blk b1 [rI .i64 (max ha.fDepth ((hd.length:Int)+1)),rI .i64 (IntKind.wrap .i64 (ha.fBytes+hg)),rB (ha.fOutside||((decide (((Ac v hb).fKind)=3))&&(!(ov (Bj ((Ac v hb).fInt)))))),rB (ha.fLong||(decide (200<(((Ac v hb).fStr).length:Int))))] 121,.row he 147 5 (List.map Au hd)]) Aa)) ?_));refine oq (Aj Aa) ?_;exact Cu
        refine Bd (A5 (Am (Am (AJ (Am (Am (BI ?_)))))));have g1:=CM g0 hx hy;refine AJ (Am (HI ?_));obtain rfl:=AC g1;exact A7 (PO Pr (AY Aa) (JK (i:=2) Hc Eh Aa Aa Aa) (AY Aa)) (sS (sS (sS (sS sN)))) ⟨Aa,Aa⟩
       ·have g2:=Ba hB hN;refine AF (Bd (As (wm Aa (wv (Ai Cv Aa LJ Aa Aa) (wv (Ay (i:=0) LM Aa Aa Aa) (wv (B6 Aa Aa) (wv (Ai Cv Aa Ca Aa Aa) (wv (Ay (i:=0) Cl Aa Aa Aa) (wv (Ai Cv Aa LJ Aa Aa) (wv (Ay (i:=0) LM Aa Aa Aa) (wv (B6 Aa Aa) (wv (r:=Bu [rB (decide (((Ac v hb).fKind)=6)),rI .i64 ((Ac v hb).fN),rB (decide (((Ac v hb).fKind)=6)),rS ([]:AA),rB false]) (I9 Aa Aa Aa Aa Aa Aa) (Cj (ys:=([(Av.mk (decide (((Ac v hb).fKind)=6)) ((Ac v hb).fN) (decide (((Ac v hb).fKind)=6)) ([]:AA) false)]:List Av)) (enc:=Au) (css:=[[rB (decide (((Ac v hb).fKind)=6)),rI .i64 ((Ac v hb).fN),rB (decide (((Ac v hb).fKind)=6)),rS ([]:AA),rB false]]) (xs:=[.tmp 139]) Gl LK Tryz.zeroValue147 Aa Aa Aa ⟨Pj.agg ⟨Up.refl _,Up.refl _,Up.refl _,Up.refl _,Up.refl _,trivial⟩,trivial⟩ Aa Gn Aa Aa Aa (λg3=>?_))))))))))))));obtain⟨g4,g5⟩:=AH g2;obtain⟨inf,hinf⟩:=RF;refine DT (xs:=hd) (ys:=([(Av.mk (decide (((Ac v hb).fKind)=6)) ((Ac v hb).fN) (decide (((Ac v hb).fKind)=6)) ([]:AA) false)]:List Av)) (enc:=Au) (i:=4) Gl hinf.1 hinf.2.1 hinf.2.2.1 hinf.2.2.2 Aa Aa Aa Aa Aa (MJ.w (i:=0) Aa Aa) Gn Jn g4 Aa (λhO=>?_);exact wa Aa (A3 (B3 (A9 (Bk (Bq (H2:=[.blk b2 [rI .i64 (max ha.fDepth ((hd.length:Int)+1)),rI .i64 (IntKind.wrap .i64 (ha.fBytes+hg)),rB (ha.fOutside||((decide (((Ac v hb).fKind)=3))&&(!(ov (Bj ((Ac v hb).fInt)))))),rB (ha.fLong||(decide (200<(((Ac v hb).fStr).length:Int))))] 121,.blk b1 [rI .i64 0,rI .i64 0,rB false,rB false] 121,.row hO 147 5 (List.map Au (hd++([(Av.mk (decide (((Ac v hb).fKind)=6)) ((Ac v hb).fN) (decide (((Ac v hb).fKind)=6)) ([]:AA) false)]:List Av))),.row (.slice (some ⟨g3,0,none⟩) 1 1) 147 5 (List.map Au ([(Av.mk (decide (((Ac v hb).fKind)=6)) ((Ac v hb).fN) (decide (((Ac v hb).fKind)=6)) ([]:AA) false)]:List Av)),.blk hf (Al (Ac v hb)) 95]) ((Ae (i:=3) Aa).trans (U0 _ ((Ae (i:=3) Aa).trans (U0 _ (U3 _))))) (Az (AT ((hd++([(Av.mk (decide (((Ac v hb).fKind)=6)) ((Ac v hb).fN) (decide (((Ac v hb).fKind)=6)) ([]:AA) false)]:List Av),(A1.mk (max ha.fDepth ((hd.length:Int)+1)) (IntKind.wrap .i64 (ha.fBytes+hg)) (ha.fOutside||((decide (((Ac v hb).fKind)=3))&&(!(ov (Bj ((Ac v hb).fInt)))))) (ha.fLong||(decide (200<(((Ac v hb).fStr).length:Int)))))),hO) g5 (AR.c Aa (AR.c Aa (AR.c5 Aa Aa Aa Aa Aa AR.nil))) (sC (sC (sC (sS (sS sN))))))))))))
      ·have g6:=Ba hA hL;refine AF (Bd (As (wm Aa ?_)));obtain⟨hu,g7,hP⟩:=AV g6;refine DJ (Hr:=[.blk hf (Al (Ac v hb)) 95,.blk b2 [rI .i64 (max ha.fDepth ((hd.length:Int)+1)),rI .i64 (IntKind.wrap .i64 (ha.fBytes+hg)),rB (ha.fOutside||((decide (((Ac v hb).fKind)=3))&&(!(ov (Bj ((Ac v hb).fInt)))))),rB (ha.fLong||(decide (200<(((Ac v hb).fStr).length:Int))))] 121,.blk b1 [rI .i64 0,rI .i64 0,rB false,rB false] 121]) Tryz.call114 (Ot F he hd hu g7) Aa ((Ae (i:=3) Aa).trans (U0 _ (U3 _))) Aa ?_;rintro _ _ ⟨h0,rfl,rfl⟩;refine wa Aa (BG (wm Aa (wv (BR (ys:=hu) (enc:=Au) (i:=0) Gl Aa Aa) (wv (B6 Aa Aa) (A3 (AD (b:=decide ((hu.length:Int)=0)) Aa (λhC=>?_) (λhC=>?_)))))))
       ·have g8:=AZ hC hP;refine Ax ?_;obtain⟨g9,gA⟩:=AH g8;refine Ga (H1:=[.row h0 147 5 (List.map Au hu),.blk hf (Al (Ac v hb)) 95,.blk b2 [rI .i64 (max ha.fDepth ((hd.length:Int)+1)),rI .i64 (IntKind.wrap .i64 (ha.fBytes+hg)),rB (ha.fOutside||((decide (((Ac v hb).fKind)=3))&&(!(ov (Bj ((Ac v hb).fInt)))))),rB (ha.fLong||(decide (200<(((Ac v hb).fStr).length:Int))))] 121,.blk b1 [rI .i64 (max ha.fDepth ((hd.length:Int)+1)),rI .i64 (IntKind.wrap .i64 (ha.fBytes+hg)),rB (ha.fOutside||((decide (((Ac v hb).fKind)=3))&&(!(ov (Bj ((Ac v hb).fInt)))))),rB (ha.fLong||(decide (200<(((Ac v hb).fStr).length:Int))))] 121]) [3,5,7] [⟨[],rI .i64 hb,0⟩,⟨[0],rI .i64 (hb+1),0⟩,⟨[],Bu [rI .i64 (max ha.fDepth ((hd.length:Int)+1)),rI .i64 (IntKind.wrap .i64 (ha.fBytes+hg)),rB (ha.fOutside||((decide (((Ac v hb).fKind)=3))&&(!(ov (Bj ((Ac v hb).fInt)))))),rB (ha.fLong||(decide (200<(((Ac v hb).fStr).length:Int))))],1⟩,⟨[1],rI .i64 (hb+1),0⟩,⟨[2],rv undef,2⟩,⟨[],rB true,0⟩] (rle [(5,_),(2,[.row h0 147 5 (List.map Au hu),.blk hf (Al (Ac v hb)) 95,.blk b2 [rI .i64 (max ha.fDepth ((hd.length:Int)+1)),rI .i64 (IntKind.wrap .i64 (ha.fBytes+hg)),rB (ha.fOutside||((decide (((Ac v hb).fKind)=3))&&(!(ov (Bj ((Ac v hb).fInt)))))),rB (ha.fLong||(decide (200<(((Ac v hb).fStr).length:Int))))] 121,.blk b1 [rI .i64 (max ha.fDepth ((hd.length:Int)+1)),rI .i64 (IntKind.wrap .i64 (ha.fBytes+hg)),rB (ha.fOutside||((decide (((Ac v hb).fKind)=3))&&(!(ov (Bj ((Ac v hb).fInt)))))),rB (ha.fLong||(decide (200<(((Ac v hb).fStr).length:Int))))] 121])]) [2,4,3] ?_ ?_
        ·refine oq (Aq Aa) (oq (BN Aa Aa g9) (of (Bt (i:=2) Hc Eh Aa Aa Aa Aa) (oq (Aj Aa) (HZ Aa (Ln (Db (i:=3) Eh Aa Aa Aa (CK.c Aa) Aa Aa (cs':=[rI .i64 (max ha.fDepth ((hd.length:Int)+1)),rI .i64 (IntKind.wrap .i64 (ha.fBytes+hg)),rB (ha.fOutside||((decide (((Ac v hb).fKind)=3))&&(!(ov (Bj ((Ac v hb).fInt)))))),rB (ha.fLong||(decide (200<(((Ac v hb).fStr).length:Int))))]) Aa (H':=[.row h0 147 5 (List.map Au hu),.blk hf (Al (Ac v hb)) 95,.blk b2 [rI .i64 (max ha.fDepth ((hd.length:Int)+1)),rI .i64 (IntKind.wrap .i64 (ha.fBytes+hg)),rB (ha.fOutside||((decide (((Ac v hb).fKind)=3))&&(!(ov (Bj ((Ac v hb).fInt)))))),rB (ha.fLong||(decide (200<(((Ac v hb).fStr).length:Int))))] 121,.blk b1 [rI .i64 (max ha.fDepth ((hd.length:Int)+1)),rI .i64 (IntKind.wrap .i64 (ha.fBytes+hg)),rB (ha.fOutside||((decide (((Ac v hb).fKind)=3))&&(!(ov (Bj ((Ac v hb).fInt)))))),rB (ha.fLong||(decide (200<(((Ac v hb).fStr).length:Int))))] 121]) Aa)) ?_))));refine oq (Aj Aa) ?_;exact Cu
        refine Bd (A5 (AJ (Am (Am (BI ?_)))));have gB:=CM gA hx hy;refine AJ (Am (HI ?_));obtain rfl:=AC gB;exact A7 (PO Pr (AY Aa) (JK (i:=3) Hc Eh Aa Aa Aa) (AY Aa)) (sS (sS (sS (sS sN)))) ⟨Aa,Aa⟩
       ·have gC:=Ba hC hP;exact AF (AX (Bq (H2:=[.blk b2 [rI .i64 (max ha.fDepth ((hd.length:Int)+1)),rI .i64 (IntKind.wrap .i64 (ha.fBytes+hg)),rB (ha.fOutside||((decide (((Ac v hb).fKind)=3))&&(!(ov (Bj ((Ac v hb).fInt)))))),rB (ha.fLong||(decide (200<(((Ac v hb).fStr).length:Int))))] 121,.blk b1 [rI .i64 0,rI .i64 0,rB false,rB false] 121,.row h0 147 5 (List.map Au hu),.blk hf (Al (Ac v hb)) 95]) ((Ae (i:=2) Aa).trans (U0 _ ((Ae (i:=2) Aa).trans (U0 _ (U3 _))))) (Az (AT ((hu,(A1.mk (max ha.fDepth ((hd.length:Int)+1)) (IntKind.wrap .i64 (ha.fBytes+hg)) (ha.fOutside||((decide (((Ac v hb).fKind)=3))&&(!(ov (Bj ((Ac v hb).fInt)))))) (ha.fLong||(decide (200<(((Ac v hb).fStr).length:Int)))))),h0) gC (AR.c Aa (AR.c Aa (AR.c5 Aa Aa Aa Aa Aa AR.nil))) (sC (sC (sC (sS sN))))))))
   ·rintro⟨⟨hD,hE⟩,hG⟩ h2;refine Bh (l':=[(0,Bw 4 (List.map Al v)),(3,rv (.pointer (some ⟨b1,0,none⟩))),(5,rv (.pointer (some ⟨b2,0,none⟩))),(6,rv hG),(11,Bw 4 (List.map Al v)),(12,rI .i64 (v.length:Int)),(13,rI .i64 hb)]) (H':=[.blk b2 (AK hE) 121,.blk b1 [rI .i64 0,rI .i64 0,rB false,rB false] 121,.row hG 147 5 (List.map Au hD)]) Aa Aa ?_;replace h2:CU hb hD hE=some h4:=h2;unfold CU at h2;refine At ?_;obtain⟨gD,gE⟩:=AH h2;refine wv (BN Aa Aa gD) (wm Aa (Ar ?_));have gF:=BK gE hx;exact Az (AT (hT,(hD,hb+1,hE),hG) ⟨gF,UQ _⟩ (AR.c Aa (AR.c Aa (AR.c5 Aa Aa Aa Aa Aa AR.nil))) (sC (sC (sC sN))))
  ·have gG:=Ba h5 hz;refine B3 (A9 ?_);have gH:=CR gG hx hy;exact A9 (Bo (AT (ha,()) gH (AR.c Aa (AR.c Aa AR.nil)) (sC (sC (sS sN)))))
 ·rintro⟨hq,⟨⟩⟩ h3;refine Dv (l':=[(3,rv (.pointer (some ⟨b1,0,none⟩))),(5,rv (.pointer (some ⟨b2,0,none⟩)))]) (H':=[.blk b2 (AK hq) 121,.blk b1 [rI .i64 0,rI .i64 0,rB false,rB false] 121]) Aa Aa ?_;replace h3:HL hq=some r:=h3;unfold HL at h3;refine Bk (Bd (Ax (Ga (H1:=[.blk b2 (AK hq) 121,.blk b1 (AK hq) 121]) [3,5] [⟨[],Bu (AK hq),1⟩,⟨[],rI .i64 0,0⟩,⟨[0],rv undef,2⟩,⟨[],rB false,0⟩] (rle [(3,_),(2,[.blk b2 (AK hq) 121,.blk b1 (AK hq) 121])]) [2,4,3] ?_ ?_)))
  ·refine of (Bt (i:=0) Hc Eh Aa Aa Aa Aa) (oq (Aj Aa) (HZ Aa (Ln (Db (i:=1) Eh Aa Aa Aa (CK.c Aa) Aa Aa (cs':=[rI .i64 hq.fDepth,rI .i64 hq.fBytes,rB hq.fOutside,rB hq.fLong]) Aa (H':=[.blk b2 (AK hq) 121,.blk b1 (AK hq) 121]) Aa)) ?_));refine oq (Aj Aa) ?_;exact Cu
  refine Bd (A5 (HI ?_));obtain rfl:=AC h3;exact A7 (PO Pr (AY Aa) (JK (i:=1) Hc Eh Aa Aa Aa) (AY Aa)) (sS (sS sN)) ⟨Aa,Aa⟩
theorem P4 (F:Nat)(v:(List Ao))(r:Int)(h:JE F v=some r):Fn Tryz.prog GE 76 [Bw 4 (List.map Al v)] [] (λR H=>R=rI .i64 r∧H=[]):=by
 refine enter (n:=42) Tryz.func76 Aa Tryz.ntmps76 Aa (λw Z=>?_);refine Bh (l':=[(0,Bw 4 (List.map Al v))]) (H':=[]) Aa Aa ?_;unfold JE at h;refine As (wv (r:=rI .i64 0) (Aj Aa) (BG (wm Aa ?_)));obtain⟨r1,e3,h2⟩:=AV h;refine IT Tryz.call88 (Rg F v r1 e3) Aa (wm Aa (wv (AE Aa Aa) (wv (AE Aa Aa) (wv (AE Aa Aa) (E6 (cs:=[rI .i64 0,rI .i64 0,rB false,rB false]) Tryz.zeroValue121 Aa Aa (λb4=>?_))))));refine wa Aa (Di (i:=0) Eh Aa Aa Aa (CK.c Aa) Aa Aa (cs':=[rI .i64 r1.2.1.fDepth,rI .i64 r1.2.1.fBytes,rB r1.2.1.fOutside,rB r1.2.1.fLong]) Aa (H':=[.blk b4 (AK r1.2.1) 121]) Aa (wa Aa (A3 (Ax (AS (AM [(0,Bw 4 (List.map Al v)),(4,rv (.pointer (some ⟨b4,0,none⟩))),(12,rB ((!r1.2.2)||(!decide (r1.1=(v.length:Int)))))] [.blk b4 (AK r1.2.1) 121] ?_ ?_))))))
 ·refine At (wm Aa (wv (CA Aa) (wm Aa (AL (!r1.2.2) (λc5=>?_) (λc5=>?_)))))
  ·refine wf c5 (wf c5 (wf c5 (wf c5 (wv (r:=rB true) (Ap (b:=!r1.2.2) Aa c5 Aa) (wa Aa (Ar ?_))))));exact Cw c5
  ·refine wo c5 (wm Aa (wo c5 (wm Aa (wo c5 (wv (BC (ys:=v) (enc:=Al) Jg Aa) (wo c5 (wv (E4 Aa Aa) (EY Aa c5 Aa (wa Aa (Ar ?_))))))))));exact Cw c5
 refine AD (b:=((!r1.2.2)||(!decide (r1.1=(v.length:Int))))) Aa (λc6=>?_) (λc6=>?_)
 ·have h7:=AZ c6 h2;refine As (wv (r:=rI .i64 1) (Aj Aa) (A3 (A5 (AJ (Am ?_)))));obtain rfl:=AC h7;exact A7 (BW QX (AY Aa)) (sS sN) ⟨Aa,Aa⟩
 ·have h8:=Ba c6 h2;refine As (wv (Ai Dh Aa GG Aa Aa) (wv (Ay (i:=0) QR Aa Aa Aa) (wa Aa (A3 (AD (b:=r1.2.1.fOutside) Aa (λc9=>?_) (λc9=>?_))))))
  ·have hg:=AZ c9 h8;refine As (wv (r:=rI .i64 2) (Aj Aa) (A3 (A5 (AJ (Am ?_)))));obtain rfl:=AC hg;exact A7 (BW QX (AY Aa)) (sS sN) ⟨Aa,Aa⟩
  ·have hf:=Ba c9 h8;refine AM [(24,rB (r1.2.1.fLong||((decide (200<(v.length:Int)))||((decide (8<r1.2.1.fDepth))||(decide (4000<r1.2.1.fBytes))))))] [] ?_ ?_
   ·refine At (wv (Ai Dh Aa GG Aa Aa) (wv (Ay (i:=0) QR Aa Aa Aa) (wm Aa (AL (r1.2.1.fLong) (λha=>?_) (λha=>?_)))))
    ·refine wf ha (wf ha (wf ha (wv (r:=rB true) (Ap (b:=r1.2.1.fLong) Aa ha Aa) (wm Aa (Ak (b:=true) Aa Aa Aa Aa (Ak (b:=true) Aa Aa Aa Aa (Ak (b:=true) Aa Aa Aa Aa (wv (r:=rB true) (Ap (b:=true) Aa Aa Aa) (wm Aa (Ak (b:=true) Aa Aa Aa Aa (Ak (b:=true) Aa Aa Aa Aa (Ak (b:=true) Aa Aa Aa Aa (wv (r:=rB true) (Ap (b:=true) Aa Aa Aa) (wa Aa (Ar ?_)))))))))))))));exact Cw ha
    ·refine wo ha (wm Aa (wo ha (wv (BC (ys:=v) (enc:=Al) Jg Aa) (wo ha (wv (Dt Aa Aa) (EY Aa ha Aa (wm Aa (AL (decide (200<(v.length:Int))) (λhb=>?_) (λhb=>?_)))))))))
     ·refine wf hb (wf hb (wf hb (wv (r:=rB true) (Ap (b:=decide (200<(v.length:Int))) Aa hb Aa) (wm Aa (Ak (b:=true) Aa Aa Aa Aa (Ak (b:=true) Aa Aa Aa Aa (Ak (b:=true) Aa Aa Aa Aa (wv (r:=rB true) (Ap (b:=true) Aa Aa Aa) (wa Aa (Ar ?_))))))))));exact Cw (And.intro ha hb)
     ·refine wo hb (wv (Ai Dh Aa Ca Aa Aa) (wo hb (wv (Ay (i:=0) Cl Aa Aa Aa) (wo hb (wv (Dt Aa Aa) (EY Aa hb Aa (wm Aa (AL (decide (8<r1.2.1.fDepth)) (λhd=>?_) (λhd=>?_)))))))))
      ·refine wf hd (wf hd (wf hd (wv (r:=rB true) (Ap (b:=decide (8<r1.2.1.fDepth)) Aa hd Aa) (wa Aa (Ar ?_)))));exact Cw (And.intro ha (And.intro hb hd))
      ·refine wo hd (wv (Ai Dh Aa Ca Aa Aa) (wo hd (wv (Ay (i:=0) Cl Aa Aa Aa) (wo hd (wv (Dt Aa Aa) (EY Aa hd Aa (wa Aa (Ar ?_))))))));exact Cw (And.intro ha (And.intro hb hd))
   refine AD (b:=(r1.2.1.fLong||((decide (200<(v.length:Int)))||((decide (8<r1.2.1.fDepth))||(decide (4000<r1.2.1.fBytes)))))) Aa (λhe=>?_) (λhe=>?_)
   ·have hh:=AZ he hf;refine As (wv (r:=rI .i64 3) (Aj Aa) (A3 (A5 (AJ (Am ?_)))));obtain rfl:=AC hh;exact A7 (BW QX (AY Aa)) sN ⟨Aa,Aa⟩
   ·have hi:=Ba he hf;refine AF (AX (Bd (As (wv (r:=rI .i64 0) (Aj Aa) (A3 (A5 ?_))))));obtain rfl:=AC hi;exact A7 (BW QX (AY Aa)) sN ⟨Aa,Aa⟩
end Go.Proofs.YthbbedliepkakaaGreatDoor.Q
namespace Go.Proofs.YthbbedliepkakaaGreatDoor
open Go
set_option linter.unusedVariables false
end Go.Proofs.YthbbedliepkakaaGreatDoor
namespace Go.Proofs.YthbbedliepkakaaGreatDoor.Q
open Go Go.RowKit
set_option linter.unusedVariables false
set_option linter.unusedSimpArgs false
set_option maxRecDepth 100000
set_option maxHeartbeats 4000000
end Go.Proofs.YthbbedliepkakaaGreatDoor.Q
namespace Go.Proofs.YthbbedliepkakaaGreatDoor
open Go
set_option linter.unusedVariables false
end Go.Proofs.YthbbedliepkakaaGreatDoor
namespace Go.Proofs.YthbbedliepkakaaGreatDoor.Q
open Go Go.RowKit
set_option linter.unusedVariables false
set_option linter.unusedSimpArgs false
set_option maxRecDepth 100000
set_option maxHeartbeats 4000000
end Go.Proofs.YthbbedliepkakaaGreatDoor.Q
namespace Go.Proofs.YthbbedliepkakaaGreatDoor
open Go
set_option linter.unusedVariables false
end Go.Proofs.YthbbedliepkakaaGreatDoor
namespace Go.Proofs.YthbbedliepkakaaGreatDoor.Q
open Go Go.RowKit
set_option linter.unusedVariables false
set_option linter.unusedSimpArgs false
set_option maxRecDepth 100000
set_option maxHeartbeats 4000000
end Go.Proofs.YthbbedliepkakaaGreatDoor.Q
namespace Go.Proofs.YthbbedliepkakaaGreatDoor
open Go
set_option linter.unusedVariables false
end Go.Proofs.YthbbedliepkakaaGreatDoor
namespace Go.Proofs.YthbbedliepkakaaGreatDoor.Q
open Go Go.RowKit
set_option linter.unusedVariables false
set_option linter.unusedSimpArgs false
set_option maxRecDepth 100000
set_option maxHeartbeats 4000000
end Go.Proofs.YthbbedliepkakaaGreatDoor.Q
namespace Go.Proofs.YthbbedliepkakaaGreatDoor
open Go
set_option linter.unusedVariables false
set_option linter.unusedSimpArgs false
section
variable {T S : Type}
def mget:List (AA×T)→AA→Option T
 | [],_=>none
 | p::r,k=>bif decide (p.1=k) then some p.2 else mget r k
def Ch (xs:List (AA×T))(k:AA)(z:T):T:=(mget xs k).getD z
def Ck (xs:List (AA×T))(k:AA):Bool:=(mget xs k).isSome
def mins (k:AA)(v:T):List (AA×T)→List (AA×T)
 | []=>[(k,v)]
 | p::r=>bif BJ k p.1 then(k,v)::p::r else p::mins k v r
def mput (xs:List (AA×T))(k:AA)(v:T):List (AA×T):=xs.map λp=>bif decide (p.1=k) then(k,v) else p
def mset (xs:List (AA×T))(k:AA)(v:T):List (AA×T):=bif Ck xs k then mput xs k v else mins k v xs
def mdel (xs:List (AA×T))(k:AA):List (AA×T):=xs.filter λp=>!decide (p.1=k)
def A6 (f:T→S)(xs:List (AA×T)):List (AA×S):=xs.map λp=>(p.1,f p.2)
theorem Ie (f:T→S):∀(xs:List (AA×T)) (k:AA),mget (A6 f xs) k=(mget xs k).map f
 | [],k=>rfl
 | p::r,k=>by
  show(bif decide (p.1=k) then some (f p.2) else mget (A6 f r) k)=_;rw[mget,Ie f r k]
  cases decide (p.1=k)<;>rfl
theorem Qm (f:T→S)(xs:List (AA×T))(k:AA):Ck (A6 f xs) k=Ck xs k:=by
 unfold Ck;rw[Ie];cases mget xs k<;>rfl
theorem Mq (f:T→S)(k:AA)(v:T):∀xs:List (AA×T),A6 f (mins k v xs)=mins k (f v) (A6 f xs)
 | []=>rfl
 | p::r=>by
  show A6 f (bif BJ k p.1 then(k,v)::p::r else p::mins k v r)=(bif BJ k p.1 then(k,f v)::(p.1,f p.2)::A6 f r else(p.1,f p.2)::mins k (f v) (A6 f r));rw[← Mq f k v r]
  cases BJ k p.1<;>rfl
theorem Ql (f:T→S)(xs:List (AA×T))(k:AA)(v:T):A6 f (mset xs k v)=mset (A6 f xs) k (f v):=by
 unfold mset;rw[Qm]
 cases Ck xs k with
 | false=>exact Mq f k v xs
 | true=>
  show A6 f (mput xs k v)=mput (A6 f xs) k (f v);unfold A6 mput;rw[Vr,Vr];refine List.map_congr_left λp _=>?_;show _=(bif decide (p.1=k) then(k,f v) else(p.1,f p.2));simp only[Function.comp]
  cases decide (p.1=k)<;>rfl
theorem Qn (f:T→S)(xs:List (AA×T))(k:AA):A6 f (mdel xs k)=mdel (A6 f xs) k:=by
 unfold A6 mdel;rw[List.filter_map];rfl
theorem G4 (f:T→S)(xs:List (AA×T)):(A6 f xs).length=xs.length:=by simp[A6]
theorem IA (k:AA)(v:T):∀xs:List (AA×T),(mins k v xs).Perm ((k,v)::xs)
 | []=>U3 _
 | p::r=>by
  rw[mins]
  cases BJ k p.1 with
  | true=>exact U3 _
  | false=>exact((IA k v r).cons p).trans (List.Perm.swap _ _ _)
def El (x:T):List T→List (List T)
 | []=>[[x]]
 | y::r=>(x::y::r)::(El x r).map (y::·)
def Hf:List T→List (List T)
 | []=>[[]]
 | x::r=>(Hf r).flatMap (El x)
theorem IY (x:T):∀(a b:List T),a++x::b∈El x (a++b)
 | [],[]=>by simp[El]
 | [],y::b=>by simp[El]
 | y::a,b=>by
  simp only[List.cons_append,El,Vs,List.mem_map];exact .inr ⟨_,IY x a b,rfl⟩
theorem KA:∀(xs ys:List T),ys.Perm xs→ys∈Hf xs
 | [],ys,h=>by rw[h.eq_nil];simp[Hf]
 | x::r,ys,h=>by
  have hx:x∈ys:=h.symm.subset (List.mem_cons_self ..);obtain⟨a,b,rfl⟩:=List.append_of_mem hx;have h2:(a++b).Perm r:=(List.perm_middle.symm.trans h).cons_inv;simp only[Hf,List.mem_flatMap];exact⟨a++b,KA r _ h2,IY x a b⟩
def Lp {R:Type}[DecidableEq R](xs:List T)(K:List T→Option R):Option R:=match K xs with
 | none=>none
 | some r=>bif (Hf xs).all (λp=>decide (K p=some r)) then some r else none
theorem Lo {R:Type}[DecidableEq R]{xs:List T}{K:List T→Option R}{r:R}(h:Lp xs K=some r):∀p:List T,p.Perm xs→K p=some r:=λp hp=>by
 unfold Lp at h
 cases hk:K xs with
 | none=>rw[hk] at h;cases h
 | some q=>
  rw[hk] at h;simp only at h
  cases ha:(Hf xs).all (λp=>decide (K p=some q)) with
  | false=>rw[ha] at h;cases h
  | true=>
   rw[ha] at h;cases h;exact Vl (List.all_eq_true.1 ha p (KA xs p hp))
theorem ET (x:T):∀(xs ys:List T),ys∈El x xs→ys.Perm (x::xs)
 | [],ys,h=>by simp[El] at h;rw[h]
 | y::r,ys,h=>by
  simp only[El,Vs,List.mem_map] at h;rcases h with rfl | ⟨z,hz,rfl⟩
  ·exact U3 _
  ·exact((ET x r z hz).cons y).trans (List.Perm.swap _ _ _)
theorem JP:∀(xs ys:List T),ys∈Hf xs→ys.Perm xs
 | [],ys,h=>by simp[Hf] at h;rw[h]
 | x::r,ys,h=>by
  simp only[Hf,List.mem_flatMap] at h;obtain⟨z,hz,hy⟩:=h;exact(ET x z ys hy).trans ((JP r z hz).cons x)
theorem SL {R:Type}[DecidableEq R]{xs:List T}{K:List T→Option R}{r:R}(h:∀p:List T,p.Perm xs→K p=some r):Lp xs K=some r:=by
 unfold Lp;rw[h xs (U3 _)];have:(Hf xs).all (λp=>decide (K p=some r))=true:=List.all_eq_true.2 λp hp=>U4 (h p (JP xs p hp));simp only[this];rfl
def Kt {St O:Type}(body:T→St→Option (Stp St (Out O St))):List T→St→Option (Out O St)
 | [],s=>some (.go s)
 | x::r,s=>match body x s with
  | none=>none
  | some (.next s')=>Kt body r s'
  | some (.out o)=>some o
def TJ {St R:Type}(body:T→St→Option (Stp St (Out R St)))(ys:List T)(K:St→Option R)(r:R):Stp St (Out R St)→Prop
 | .next s'=>∀q:List T,q.Perm ys→B5 (Kt body q s') (BQ K)=some r
 | .out o=>BQ K o=some r
theorem NO {St R:Type}{body:T→St→Option (Stp St (Out R St))}{ys ys':List T}{p:T}{s:St}{K:St→Option R}{r:R}(h:∀q:List T,q.Perm ys→B5 (Kt body q s) (BQ K)=some r)(hp:ys.Perm (p::ys')):∃t,body p s=some t∧TJ body ys' K r t:=by
 have h1:∀q:List T,q.Perm ys'→B5 (Kt body (p::q) s) (BQ K)=some r:=λq hq=>h _ ((hq.cons p).trans hp.symm)
 cases hb:body p s with
 | none=>
  have:=h1 ys' (U3 _);rw[Kt,hb] at this;cases this
 | some t=>
  refine⟨t,rfl,?_⟩
  cases t with
  | next s'=>
   intro q hq;have:=h1 q hq;rw[Kt,hb] at this;exact this
  | out o=>
   have:=h1 ys' (U3 _);rw[Kt,hb] at this;exact this
theorem J2 {St R:Type}{body:T→St→Option (Stp St (Out R St))}{ys:List T}{s:St}{K:St→Option R}{r:R}(h:∀q:List T,q.Perm ys→B5 (Kt body q s) (BQ K)=some r)(hy:ys=[]):K s=some r:=by
 subst hy;exact h [] (U3 _)
theorem Dq {St R:Type}{body:T→St→Option (Stp St (Out R St))}{ys:List T}{s':St}{K:St→Option R}{r:R}{t:Stp St (Out R St)}(h:some (Stp.next s')=some t)(ht:TJ body ys K r t):∀q:List T,q.Perm ys→B5 (Kt body q s') (BQ K)=some r:=by cases h;exact ht
theorem EB {ys ys':List T}{p:T}(h:ys.Perm (p::ys')):ys'.length<ys.length:=by rw[h.length_eq];exact UQ _
end
section
variable {T S : Type}
def O1 (lt:T→T→Bool)(x:T):List T→List T
 | []=>[x]
 | y::r=>bif lt y x then y::O1 lt x r else x::y::r
def Gd (lt:T→T→Bool):List T→List T
 | []=>[]
 | x::r=>O1 lt x (Gd lt r)
theorem I1 (lt:T→T→Bool)(x:T):∀xs:List T,(O1 lt x xs).Perm (x::xs)
 | []=>U3 _
 | y::r=>by
  rw[O1]
  cases lt y x with
  | true=>exact((I1 lt x r).cons y).trans (List.Perm.swap _ _ _)
  | false=>exact U3 _
theorem CW (lt:T→T→Bool):∀xs:List T,(Gd lt xs).Perm xs
 | []=>U3 _
 | x::r=>(I1 lt x _).trans ((CW lt r).cons x)
def Dx (lt:T→T→Bool):List T→Bool
 | []=>true
 | x::r=>r.all (λy=>lt x y||lt y x)&&Dx lt r
structure Sw (lt:T→T→Bool):Prop where
 irrefl:∀x,lt x x=false
 ntrans:∀x y z,lt x y=false→lt y z=false→lt x z=false
 asym:∀x y,lt x y=true→lt y x=false
theorem Hz {lt:T→T→Bool}:∀{xs:List T},Dx lt xs=true→xs.Pairwise λx y=>(lt x y||lt y x)=true
 | [],_=>List.Pairwise.nil
 | x::r,h=>by
  simp only[Dx,U6,UR] at h;exact List.pairwise_cons.2 ⟨λy hy=>h.1 y hy,Hz h.2⟩
theorem HX {R:T→T→Prop}(hs:∀x y,R x y→R y x):∀{xs:List T},xs.Pairwise R→∀a b,a∈xs→b∈xs→a=b∨R a b
 | [],_,a,b,h,_=>by cases h
 | x::r,h,a,b,ha,hb=>by
  rw[List.pairwise_cons] at h;rcases List.mem_cons.1 ha with e | ha1
  ·rcases List.mem_cons.1 hb with e2 | hb1
   ·exact .inl (e.trans e2.symm)
   ·exact .inr (e▸h.1 b hb1)
  ·rcases List.mem_cons.1 hb with e2 | hb1
   ·exact .inr (hs _ _ (e2▸h.1 a ha1))
   ·exact HX hs h.2 a b ha1 hb1
theorem IW {lt:T→T→Bool}(L:Sw lt)(x:T):∀{xs:List T},(xs.Pairwise λx y=>lt y x=false)→(O1 lt x xs).Pairwise λx y=>lt y x=false
 | [],_=>List.pairwise_singleton _ _
 | y::r,h=>by
  rw[List.pairwise_cons] at h;rw[O1]
  cases hy:lt y x with
  | true=>
   refine List.pairwise_cons.2 ⟨λz hz=>?_,IW L x h.2⟩;rcases List.mem_cons.1 ((I1 lt x r).subset hz) with e | h1
   ·rw[e];exact L.asym _ _ hy
   ·exact h.1 z h1
  | false=>
   refine List.pairwise_cons.2 ⟨λz hz=>?_,List.pairwise_cons.2 h⟩;rcases List.mem_cons.1 hz with e | h1
   ·rw[e];exact hy
   ·exact L.ntrans _ _ _ (h.1 z h1) hy
theorem Hy {lt:T→T→Bool}(L:Sw lt):∀xs:List T,(Gd lt xs).Pairwise λx y=>lt y x=false
 | []=>List.Pairwise.nil
 | x::r=>IW L x (Hy L r)
theorem PF {lt:T→T→Bool}(L:Sw lt){xs ys:List T}(hd:Dx lt xs=true)(hp:ys.Perm xs)(hs:ys.Pairwise λx y=>lt y x=false):ys=Gd lt xs:=by
 refine List.Perm.eq_of_pairwise (le:=λx y=>lt y x=false) ?_ hs (Hy L xs) (hp.trans (CW lt xs).symm);intro a b ha hb h2 h3;have hb':b∈xs:=(CW lt xs).subset hb;rcases HX (R:=λx y=>(lt x y||lt y x)=true) (λx y h=>by rw[Bool.or_comm];exact h) (Hz hd) a b (hp.subset ha) hb' with h | h
 ·exact h
 ·rw[h2,h3] at h;cases h
theorem Nh {lt:T→T→Bool}{xs ys:List T}(hd:Dx lt xs=true)(hp:ys.Perm xs):Dx lt ys=true:=by
 have h1:=(hp.symm.pairwise_iff (R:=λx y=>(lt x y||lt y x)=true) (fun {x y} h=>by rw[Bool.or_comm];exact h)).1 (Hz hd);clear hd hp
 induction ys with
 | nil=>rfl
 | cons x r ih=>
  rw[List.pairwise_cons] at h1;simp only[Dx,U6,UR];exact⟨h1.1,ih h1.2⟩
theorem O0 {lt:T→T→Bool}(L:Sw lt){xs ys:List T}(hd:Dx lt xs=true)(hp:ys.Perm xs):Gd lt ys=Gd lt xs:=PF L hd ((CW lt ys).trans hp) (Hy L ys)
inductive All2 (R:T→S→Prop):List T→List S→Prop
 | nil:All2 R [] []
 | cons {x y xs ys}:R x y→All2 R xs ys→All2 R (x::xs) (y::ys)
theorem All2.length {R:T→S→Prop}{xs:List T}{ys:List S}(h:All2 R xs ys):xs.length=ys.length:=by
 induction h with
 | nil=>rfl
 | cons _ _ ih=>simp[ih]
theorem All2.perm {R:T→S→Prop}{ys zs:List S}(hp:ys.Perm zs):∀{xs:List T},All2 R xs ys→∃xs',xs'.Perm xs∧All2 R xs' zs:=by
 induction hp with
 | nil=>intro xs h;exact⟨xs,U3 _,h⟩
 | cons a _ ih=>
  intro xs h
  cases h with
  | cons h1 h2=>obtain⟨x',p,h3⟩:=ih h2;exact⟨_,p.cons _,.cons h1 h3⟩
 | swap a b l=>
  intro xs h
  cases h with
  | cons h1 h2=>cases h2 with
   | cons h3 h4=>exact⟨_,List.Perm.swap _ _ _,.cons h3 (.cons h1 h4)⟩
 | trans _ _ ih1 ih2=>
  intro xs h;obtain⟨x1,p1,h1⟩:=ih1 h;obtain⟨x2,p2,h2⟩:=ih2 h1;exact⟨x2,p2.trans p1,h2⟩
end
def CB (n1 n2 p1 p2:Int):Bool:=decide (n1<n2)||(decide (n1=n2)&&decide (p1<p2))
theorem KC {n1 n2 p1 p2:Int}:CB n1 n2 p1 p2=true↔n1<n2∨(n1=n2∧p1<p2):=by
 unfold CB;simp
theorem Ih {n1 n2 p1 p2:Int}:CB n1 n2 p1 p2=false↔¬ n1<n2∧(n1=n2→¬ p1<p2):=by
 unfold CB;simp
theorem NL {T:Type}(n p:T→Int):Sw λx y=>CB (n x) (n y) (p x) (p y):=⟨λx=>Ih.2 ⟨by omega,λ_=>by omega⟩,λx y z h1 h2=>by
 rw[Ih] at *;exact⟨by omega,λe=>by omega⟩,λx y h=>by
 rw[KC] at h;rw[Ih];exact⟨by omega,λe=>by omega⟩⟩
structure Aw where
 fID:AA
 fTenant:AA
 fSource:AA
 fKey:AA
 fAt:Int
 fCause:AA
 fBody:(List Ao)
 deriving DecidableEq,Inhabited
structure Ab where
 fEvent:Aw
 fAt:Int
 fReceives:Int
 fHeld:Bool
 fPlace:Int
 deriving DecidableEq,Inhabited
def L5 (ys:(List Ao)):Option ((List Ao)):=
 Bn (JX 40 (([]:List Ao).length+ys.length))<|some (([]:List Ao)++ys)
def GB (F:Nat)(e:Aw):Option (Int):=
 B7 (((!(DO e.fID))||((!(DO e.fTenant))||((!(DO e.fSource))||(bif !decide (e.fKey=([]:AA)) then((!(DO e.fKey))||((!decide (e.fCause=([]:AA)))&&(!(DO e.fCause)))) else((!decide (e.fCause=([]:AA)))&&(!(DO e.fCause)))))))) (some 4) (B7 (((decide (e.fAt<0))||(decide (1073741824<e.fAt)))) (some 2) (B5 (JE F e.fBody) λha=>some ha))
end Go.Proofs.YthbbedliepkakaaGreatDoor
namespace Go.Proofs.YthbbedliepkakaaGreatDoor.Q
open Go Go.RowKit
set_option linter.unusedVariables false
set_option linter.unusedSimpArgs false
def L7 (ops:List Oper)(N:Nat):Bool:=
 let cl:=Ke ops []
 (List.range ops.length).all (λi=>(Du (ops.getD i default)).all (·<i))&&
 (List.range ops.length).all (λi=>i<N||(List.range i).all (λj=>(cl.getD i 0).testBit j))
section
variable {P : Program} {Q : Exit → Act → World → Prop}
theorem MC {listed:Array Bool}{len m:Nat}(hs:listed.size=len)(hm:m≤len)(h:∀j,j<len→(listed.getD j true=true↔j<m)):listed.toList.count false=len-m:=by
 have:listed.toList=List.replicate m true++List.replicate (len-m) false:=by
  apply List.ext_getElem
  ·simp[hs];omega
  ·intro j h1 h2;have hj:j<len:=by simpa[hs] using h1
   have:=h j hj;rw[Array.getD_eq_getD_getElem?,Array.getElem?_eq_getElem (by omega)] at this;simp only[UP] at this;rw[Array.getElem_toList,List.getElem_append]
   split
   ·rename_i h3
    simp at h3;simp[this.2 h3]
   ·rename_i h3
    simp at h3;simp only[List.getElem_replicate]
    cases hb:listed[j] with
    | false=>rfl
    | true=>have:=this.1 hb;omega
 rw[this];simp[List.count_append,List.count_replicate]
theorem NS {listed:Array Bool}{j:Nat}(h:j<listed.size)(d d':Bool):listed.getD j d=listed.getD j d':=by
 simp[Array.getD_eq_getD_getElem?,Array.getElem?_eq_getElem h]
theorem Kg {ops:List Oper}{listed:Array Bool}{i:Nat}{o:Oper}(ho:ops[i]? =some o)(hb:∀e∈Du o,listed.getD e true=true)
  (hcl:∀j o,ops[j]? =some o→listed.getD j true=true→∀e∈Du o,listed.getD e true=true) (j:Nat) (h:((Ke ops []).getD i 0).testBit j=true):j=i∨listed.getD j true=true:=
 EW ops (λk=>k=i∨listed.getD k true=true) ops [] (λt o' ht e he hF=>by
  rcases hF with hF | hF
  ·simp at hF;subst hF;rw[ho] at ht;simp at ht;subst ht;exact .inr (hb e he)
  ·exact .inr (hcl t o' ht (by simpa using hF) e he)) (λj i hb=>by simp at hb) i j h (.inl rfl)
theorem H4 {ops:List Oper}{listed:Array Bool}{i:Nat}(hsz:listed.size=ops.length)(hlt:∀i,i<ops.length→∀e∈Du (ops.getD i default),e<i)(h:i∈Region.ready .any ops.toArray listed) :
  listed.getD i true=false∧i<ops.length∧∃o,ops[i]? =some o∧∀e∈Du o,listed.getD e true=true:=by
 obtain⟨h1,o,ho,h2⟩:=mem_ready.1 h;have ho':ops[i]? =some o:=by simpa using ho
 have hil:=(List.getElem?_eq_some_iff.1 ho').1;refine⟨h1,hil,o,ho',λe he=>?_⟩;have hei:=hlt i hil e (by rw[U8,ho'];exact he);simp only[Du,List.mem_map,List.mem_filter] at he;obtain⟨x,⟨hx1,hx2⟩,rfl⟩:=he;have h3:=h2 x (by simpa using hx1) hx2;rw[NS (by omega) true false];exact h3
theorem Hj {ops:List Oper}{listed:Array Bool}(hsz:listed.size=ops.length)(hlt:∀i,i<ops.length→∀e∈Du (ops.getD i default),e<i)(h:Region.ready .any ops.toArray listed=[]) :
  ∀j,j<ops.length→listed.getD j true=true:=by
 intro j
 induction j using Nat.strongRecOn with
 | ind j ih=>
  intro hj
  cases hb:listed.getD j true with
  | true=>rfl
  | false=>
   have:j∈Region.ready .any ops.toArray listed:=mem_ready.2 ⟨hb,ops[j],by simp[hj],λe he hbn=>by
    have hel:e.on<j:=hlt j hj e.on (by
     rw[U8,U5 hj];simp only[Du,UP,List.mem_map,List.mem_filter];exact⟨e,⟨by simpa using he,hbn⟩,rfl⟩)
    rw[NS (by omega) false true];exact ih e.on hel (by omega)⟩
   rw[h] at this;cases this
theorem Jw {listed:Array Bool}{i j:Nat}(hi:i<listed.size):(listed.setIfInBounds i true).getD j true=true↔(j=i∨listed.getD j true=true):=by
 by_cases hj:i=j
 ·subst hj;simp[hi]
 ·rw[getD_set_ne true hj];exact⟨.inr,λh=>h.elim (λh=>absurd h.symm hj) id⟩
theorem O3 {listed:Array Bool}{i fuel:Nat}(hi:i<listed.size)(hun:listed.getD i true=false)(hc:listed.toList.count false=fuel+1):(listed.setIfInBounds i true).toList.count false=fuel:=by
 have hfi:listed.toList[i]? =some false:=by
  rw[Array.getD_eq_getD_getElem?,Array.getElem?_eq_getElem hi] at hun;simp at hun;simp[hi,hun]
 rw[Array.toList_setIfInBounds];have h1:=List.count_set (a:=true) (b:=false) (l:=listed.toList) (i:=i) (by simpa using hi);have h2:listed.toList[i]'(by simpa using hi)=false:=by
  have:=List.getElem?_eq_some_iff.1 hfi;exact this.2
 rw[h1,h2,hc];rfl
theorem IR {ops:List Oper}{N:Nat}(hlt:∀i,i<ops.length→∀e∈Du (ops.getD i default),e<i)
  (hch:∀i,N≤i→i<ops.length→∀j,j<i→((Ke ops []).getD i 0).testBit j=true):∀(k m:Nat) (listed:Array Bool) (a:Act) (w:World),m+k=ops.length→N≤m→listed.size=ops.length→
   (∀j,j<ops.length→(listed.getD j true=true↔j<m))→(∀j o,ops[j]? =some o→listed.getD j true=true→∀e∈Du o,listed.getD e true=true)→wpList P ops.toArray Q (ops.drop m) a w→wpAny P .any ops.toArray Q k listed a w
 | 0,m,listed,a,w,hk,hN,hsz,hl,hcl,h=>by
  refine⟨?_,?_⟩
  ·cases hr:Region.ready .any ops.toArray listed with
   | nil=>rfl
   | cons i r=>
    obtain⟨h1,h2,_⟩:=H4 hsz hlt (i:=i) (by rw[hr];simp);rw[(hl i h2).2 (by omega)] at h1;cases h1
  ·rw[List.drop_of_length_le (by omega)] at h;exact h
 | k+1,m,listed,a,w,hk,hN,hsz,hl,hcl,h=>by
  refine⟨λhr=>?_,λi hi=>?_⟩
  ·have:=(hl m (by omega)).1 (Hj hsz hlt hr m (by omega));omega
  ·obtain⟨h1,h2,o,ho,hb⟩:=H4 hsz hlt hi;have him:i=m:=by
    have hmi : ¬ i<m:=λh'=>by rw[(hl i h2).2 h'] at h1;cases h1
    by_cases e:i=m
    ·exact e
    ·rcases Kg ho hb hcl m (hch i (by omega) h2 m (by omega)) with h3 | h3
     ·exact h3.symm
     ·have:=(hl m (by omega)).1 h3;omega
   subst him;have hd:ops.drop i=o::ops.drop (i+1):=by
    rw[List.drop_eq_getElem_cons h2]
    congr 1
    exact(List.getElem?_eq_some_iff.1 ho).2
   rw[hd] at h;have ih:∀a' w',wpList P ops.toArray Q (ops.drop (i+1)) a' w'→wpAny P .any ops.toArray Q k (listed.setIfInBounds i true) a' w':=λa' w' h'=>by
    refine IR hlt hch k (i+1) _ a' w' (by omega) (by omega) (by simpa using hsz) (λj hj=>?_) (λj o' hj hlj e he=>?_) h'
    ·rw[Jw (by omega),hl j hj];omega
    ·rw[Jw (by omega)] at hlj ⊢;rcases hlj with rfl | hlj
     ·rw[ho] at hj;simp at hj;subst hj;exact .inr (hb e he)
     ·exact .inr (hcl j o' hj hlj e he)
   unfold wpOp;have hoA:ops.toArray[i]? =some o:=by simpa using ho
   simp only[hoA];simp only[wpList] at h
   split
   ·rename_i hw'
    rw[UM hw'] at h;exact h.imp (λh=>Oper.wp_mono ih h) (λh=>h)
   ·rename_i hw'
    rw[UD hw'] at h;exact ih _ _ h
theorem Px {id:Nat}{ops:List Oper}{N:Nat}(hm:P.follows .mixedOrders=true)(hB:L7 ops N=true)(hN:N≤ops.length)(I:(Nat→Bool)→Act→World→Prop)
  (hext:∀S S' a w,(∀j,j<N→S j=S' j)→I S a w→I S' a w) {a:Act} {w:World} (h0:I (λ_=>false) a { w with drawn:=w.drawn+1 })
  (step:∀S i o a w,i<N→S i=false→ops[i]? =some o→(∀e∈Du o,e<i∧S e=true)→I S a w→∀K:Act→World→Prop,(∀a' w',I (λj=>j ==i||S j) a' w'→K a' w')→
   (Region.wanted o (yielded ops.toArray a.tmps)=true→o.wp P a w K Q)∧(Region.wanted o (yielded ops.toArray a.tmps)=false→K (a.put o.dst undef) w))
  (fin:∀a w,I (λ_=>true) a w→wpList P ops.toArray Q (ops.drop N) a w):(Code.region id ops.toArray true).wp P Q a w:=by
 simp only[L7,U6,UR,List.mem_range,U2,UV] at hB;obtain⟨hlt,hch0⟩:=hB;have hch:∀i,N≤i→i<ops.length→∀j,j<i→((Ke ops []).getD i 0).testBit j=true:=λi h1 h2 j hj=>by
  rcases hch0 i h2 with h3 | h3
  ·omega
  ·exact h3 j hj
 refine wp_region_any hm ?_;have main:∀(fuel:Nat) (listed:Array Bool) (a:Act) (w:World),listed.size=ops.length→listed.toList.count false=fuel→I (λj=>listed.getD j true) a w→
   (∀j o,ops[j]? =some o→listed.getD j true=true→∀e∈Du o,listed.getD e true=true)→(∀j,N≤j→j<ops.length→listed.getD j true=false)→wpAny P .any ops.toArray Q fuel listed a w:=by
  intro fuel;have allin:∀(fuel:Nat) (listed:Array Bool) (a:Act) (w:World),listed.size=ops.length→listed.toList.count false=fuel→I (λj=>listed.getD j true) a w→
   (∀j o,ops[j]? =some o→listed.getD j true=true→∀e∈Du o,listed.getD e true=true)→(∀j,N≤j→j<ops.length→listed.getD j true=false)→(∀j,j<N→listed.getD j true=true)→wpAny P .any ops.toArray Q fuel listed a w:=by
   intro fuel listed a w hsz hc hI hcl hlast hall;have hl:∀j,j<ops.length→(listed.getD j true=true↔j<N):=λj hj=>by
    constructor
    ·intro h
     by_cases hjN:j<N
     ·exact hjN
     ·rw[hlast j (by omega) hj] at h;cases h
    ·exact hall j
   have:=MC hsz hN hl;refine IR hlt hch fuel N listed a w (by omega) (UI _) hsz hl hcl (fin a w (hext _ _ a w (λj hj=>hall j hj) hI))
  induction fuel with
  | zero=>
   intro listed a w hsz hc hI hcl hlast;refine allin 0 listed a w hsz hc hI hcl hlast (λj hj=>?_)
   cases hb:listed.getD j true with
   | true=>rfl
   | false=>
    have:false∈listed.toList:=by
     rw[Array.getD_eq_getD_getElem?,Array.getElem?_eq_getElem (by omega)] at hb;simp at hb;rw[← hb];simp
    have:=List.count_pos_iff.2 this;omega
  | succ fuel ih=>
   intro listed a w hsz hc hI hcl hlast
   by_cases hall:∀j,j<N→listed.getD j true=true
   ·exact allin (fuel+1) listed a w hsz hc hI hcl hlast hall
   ·refine⟨λhr=>absurd (λj hj=>Hj hsz hlt hr j (by omega)) hall,λi hi=>?_⟩;obtain⟨h1,h2,o,ho,hb⟩:=H4 hsz hlt hi;have hiN:i<N:=by
     by_cases h:i<N
     ·exact h
     ·refine absurd (λj hj=>?_) hall;rcases Kg ho hb hcl j (hch i (by omega) h2 j (by omega)) with h3 | h3
      ·omega
      ·exact h3
    have K':∀a' w',I (λj=>j ==i||listed.getD j true) a' w'→wpAny P .any ops.toArray Q fuel (listed.setIfInBounds i true) a' w':=λa' w' hI'=>by
     refine ih _ a' w' (by simpa using hsz) (O3 (by omega) h1 hc) (hext _ _ a' w' (λj hj=>?_) hI') (λj o' hj hlj e he=>?_) (λj h3 h4=>?_)
     ·have:=Jw (listed:=listed) (i:=i) (j:=j) (by omega)
      cases hq:(listed.setIfInBounds i true).getD j true with
      | true=>
       rw[hq] at this;rcases this.1 rfl with h | h
       ·simp[h]
       ·simp[h]
      | false=>
       rw[hq] at this;have h5 : ¬ (j=i∨listed.getD j true=true):=λh=>by have:=this.2 h;cases this
       cases hz:listed.getD j true with
       | true=>exact absurd (.inr hz) h5
       | false=>
        have:j≠i:=λh=>h5 (.inl h);simp[this]
     ·rw[Jw (by omega)] at hlj ⊢;rcases hlj with rfl | hlj
      ·rw[ho] at hj;simp at hj;subst hj;exact .inr (hb e he)
      ·exact .inr (hcl j o' hj hlj e he)
     ·rw[getD_set_ne true (by omega)];exact hlast j h3 h4
    obtain⟨k1,k2⟩:=step _ i o a w hiN h1 ho (λe he=>⟨hlt i h2 e (by rw[U8,ho];exact he),hb e he⟩) hI _ K';unfold wpOp;have hoA:ops.toArray[i]? =some o:=by simpa using ho
    simp only[hoA]
    split
    ·rename_i hw';exact .inl (k1 hw')
    ·rename_i hw';exact k2 (by simpa using hw')
 have e0:∀j,j<ops.length→(Array.replicate ops.length false).getD j true=false:=λj hj=>by simp[hj]
 have hsz0:ops.toArray.size=ops.length:=by simp
 rw[hsz0];refine main ops.length (Array.replicate ops.length false) a _ (by simp) (by simp) (hext _ _ _ _ (λj hj=>(e0 j (by omega)).symm) h0) (λj o hj hl=>?_) (λj _ h2=>e0 j h2);rw[e0 j (List.getElem?_eq_some_iff.1 hj).1] at hl;cases hl
end
structure Sa where
 deps:List Nat
 r:Rp
 al:Option (List Rp×TypeId):=none
 late:Option (Nat×List Rp):=none
 sto:Option Nat:=none
def Ed (sp:List Sa)(i:Nat):Sa:=sp.getD i { deps:=[],r:=rv undef }
def PG (sp:List Sa):List Sp:=sp.map λs=>⟨s.deps,s.r,0⟩
def I2 (β:Nat→Nat)(s:Sa)(i:Nat):Rp:=match s.al with
 | none=>s.r
 | some _=>rv (.pointer (some ⟨β i,0,none⟩))
def IK (S:Nat→Bool)(late:Option (Nat×List Rp))(cs:List Rp):List Rp:=match late with
 | none=>cs
 | some q=>if S q.1 then q.2 else cs
def Em (S:Nat→Bool)(β:Nat→Nat):List Sa→Nat→List Ent
 | [],_=>[]
 | s::r,t=>match s.al with
  | some p=>if S t then .blk (β t) (IK S s.late p.1) p.2::Em S β r (t+1) else Em S β r (t+1)
  | none=>Em S β r (t+1)
def OU (β:Nat→Nat):List Sa→Nat→List Ent
 | [],_=>[]
 | s::r,t=>match s.al with
  | some p=>.blk (β t) (match s.late with | none=>p.1 | some q=>q.2) p.2::OU β r (t+1)
  | none=>OU β r (t+1)
def Je (β:Nat→Nat):List Oper→List Sa→Nat→Fr→Fr
 | o::os,s::sp,i,l=>match o.dst with
  | some d=>(d,I2 β s i)::Je β os sp (i+1) l
  | none=>Je β os sp (i+1) l
 | _,_,_,l=>l
theorem HA {S S':Nat→Bool}{late:Option (Nat×List Rp)}{cs:List Rp}(h:∀q,late=some q→S q.1=S' q.1):IK S late cs=IK S' late cs:=by
 unfold IK
 cases late with
 | none=>rfl
 | some q=>simp only[];rw[h q rfl]
theorem Ds (S:Nat→Bool)(β:Nat→Nat)(s:Sa)(r:List Sa)(t:Nat):Em S β (s::r) t=match s.al with
  | some p=>if S t then .blk (β t) (IK S s.late p.1) p.2::Em S β r (t+1) else Em S β r (t+1)
  | none=>Em S β r (t+1):=rfl
theorem E2 {S S':Nat→Bool}{β β':Nat→Nat}:∀(r:List Sa) (t0:Nat),(∀(t:Nat) (s:Sa),r[t]? =some s→s.al≠none→S (t0+t)=S' (t0+t)∧(S (t0+t)=true→β (t0+t)=β' (t0+t)∧∀q,s.late=some q→S q.1=S' q.1))→Em S β r t0=Em S' β' r t0
 | [],_,_=>rfl
 | s::r,t0,h=>by
  have ih:=E2 r (t0+1) (λt s hs hn=>by
   have:=h (t+1) s (by simpa using hs) hn;rw[show t0+1+t=t0+(t+1) from by omega];exact this)
  unfold Em;rw[ih]
  cases ha:s.al with
  | none=>rfl
  | some p=>
   obtain⟨h1,h2⟩:=h 0 s rfl (by rw[ha];exact nofun);simp only[Nat.add_zero] at h1 h2;simp only[];rw[← h1]
   split
   ·rename_i hS;rw[(h2 hS).1,HA (h2 hS).2]
   ·rfl
theorem MA (β:Nat→Nat):∀(r:List Sa) (t0:Nat),Em (λ_=>true) β r t0=OU β r t0
 | [],_=>rfl
 | s::r,t0=>by
  unfold Em OU;rw[MA β r (t0+1)]
  cases s.al with
  | none=>rfl
  | some p=>cases hl:s.late<;>simp[IK,hl]
theorem KH (β:Nat→Nat):∀(r:List Sa) (t0:Nat),Em (λ_=>false) β r t0=[]
 | [],_=>rfl
 | s::r,t0=>by
  unfold Em;rw[KH β r (t0+1)]
  cases s.al<;>simp
theorem M9 {S:Nat→Bool}{β:Nat→Nat}{i b:Nat}{p:List Rp×TypeId}:∀(r:List Sa) (t0 k:Nat) (s:Sa),i=t0+k→r[k]? =some s→s.al=some p→S i=false→(∀(t:Nat) (s:Sa) (q:Nat×List Rp),r[t]? =some s→s.al≠none→s.late=some q→q.1≠i)→(∀q,s.late=some q→S q.1=false∧q.1≠i)→
  (Em (λj=>j ==i||S j) (λj=>if j=i then b else β j) r t0).Perm (.blk b p.1 p.2::Em S β r t0)
 | [],_,_,_,_,h,_,_,_,_=>by simp at h
 | s'::r,t0,0,s,hi,h,ha,hS,hne,hl=>by
  simp at h hi;subst h;subst hi;have e:=E2 (S:=λj=>j ==i||S j) (S':=S) (β:=λj=>if j=i then b else β j) (β':=β) r (i+1) (λt s hs hn=>by
   have:i+1+t≠i:=by omega
   refine⟨by simp[this],λ_=>⟨by simp[this],λq hq=>?_⟩⟩;have:=hne (t+1) s q (by simpa using hs) hn hq;simp[this])
  have ec:IK (λj=>j ==i||S j) s'.late p.1=p.1:=by
   unfold IK
   cases hq:s'.late with
   | none=>rfl
   | some q=>
    obtain⟨h1,h2⟩:=hl q hq;simp[h1,h2]
  unfold Em;rw[e,ha];simp only[hS,BEq.rfl,UW,Vp,ec];simp
 | s'::r,t0,k+1,s,hi,h,ha,hS,hne,hl=>by
  have ih:=M9 (S:=S) (β:=β) (i:=i) (b:=b) (p:=p) r (t0+1) k s (by omega) (by simpa using h) ha hS (λt s q hs=>hne (t+1) s q (by simpa using hs)) hl;have hne0:t0≠i:=by omega
  have hne':(t0 ==i)=false:=by simpa using hne0
  unfold Em
  cases ha':s'.al with
  | none=>exact ih
  | some q=>
   simp only[hne',UH,UD hne0];rw[HA (S:=λj=>j ==i||S j) (S':=S) (λq hq=>by
    have:=hne 0 s' q rfl (by rw[ha'];exact nofun) hq;simp[this])]
   cases hS':S t0 with
   | true=>simpa using(U0 _ ih).trans (List.Perm.swap _ _ _)
   | false=>simpa using ih
theorem M8 {S:Nat→Bool}{β:Nat→Nat}{i j:Nat}{p:List Rp×TypeId}{ncs:List Rp}:∀(r:List Sa) (t0 k:Nat) (s:Sa),j=t0+k→r[k]? =some s→s.al=some p→s.late=some (i,ncs)→S j=true→S i=false→(∀(t:Nat) (s:Sa) (q:Nat×List Rp),r[t]? =some s→s.al≠none→s.late=some q→t0+t≠j→q.1≠i)→(∀(t:Nat) (s:Sa),r[t]? =some s→s.al≠none→t0+t≠i)→
  ∃H',(Em S β r t0).Perm (.blk (β j) p.1 p.2::H')∧(Em (λj=>j ==i||S j) β r t0).Perm (.blk (β j) ncs p.2::H')
 | [],_,_,_,_,h,_,_,_,_,_,_=>by simp at h
 | s'::r,t0,0,s,hj,h,ha,hl,hSj,hSi,hne,hni=>by
  simp at h hj;subst h;subst hj;have e:=E2 (S:=λx=>x ==i||S x) (S':=S) (β:=β) (β':=β) r (j+1) (λt s hs hn=>by
   have h1:=hni (t+1) s (by simpa using hs) hn;have h1':j+1+t≠i:=by omega
   refine⟨by simp[h1'],λ_=>⟨rfl,λq hq=>?_⟩⟩;have:=hne (t+1) s q (by simpa using hs) hn hq (by omega);simp[this])
  refine⟨Em S β r (j+1),?_,?_⟩
  ·rw[Ds];rw[ha];simp[hSj,IK,hl,hSi]
  ·rw[Ds];rw[ha,e];simp[hSj,IK,hl]
 | s'::r,t0,k+1,s,hj,h,ha,hl,hSj,hSi,hne,hni=>by
  obtain⟨H',h1,h2⟩:=M8 (S:=S) (β:=β) (i:=i) (j:=j) (p:=p) (ncs:=ncs) r (t0+1) k s (by omega) (by simpa using h) ha hl hSj hSi (λt s q hs hn hq hx=>hne (t+1) s q (by simpa using hs) hn hq (by omega)) (λt s hs hn=>by
   have:=hni (t+1) s (by simpa using hs) hn;omega)
  cases ha':s'.al with
  | none=>exact⟨H',by rw[Ds,ha'];exact h1,by rw[Ds,ha'];exact h2⟩
  | some q=>
   have hi0:=hni 0 s' rfl (by rw[ha'];exact nofun);have hi0':(t0 ==i)=false:=by simpa using hi0
   have ec:IK (λx=>x ==i||S x) s'.late q.1=IK S s'.late q.1:=HA (λq hq=>by
    have:=hne 0 s' q rfl (by rw[ha'];exact nofun) hq (by omega);simp[this])
   cases hS':S t0 with
   | true=>
    refine⟨.blk (β t0) (IK S s'.late q.1) q.2::H',?_,?_⟩
    ·rw[Ds];rw[ha'];simpa[hS'] using(U0 _ h1).trans (List.Perm.swap _ _ _)
    ·rw[Ds];rw[ha'];simp only[hi0',UH,hS',Vp,ec];exact(U0 _ h2).trans (List.Perm.swap _ _ _)
   | false=>
    refine⟨H',?_,?_⟩
    ·rw[Ds];rw[ha'];simpa[hS'] using h1
    ·rw[Ds];rw[ha'];simp only[hi0',UH,hS'];simpa using h2
def Uc (n:Nat)(ops:List Oper)(N:Nat)(keys:List Nat)(deps:List (List Nat))(als:List Bool)(lates stos:List (Option Nat)):Bool:=
 L7 ops N&&decide (N≤ops.length)&&
 (List.range N).all (λi=>match BO ops i with
  | some d=>decide (d<n)&&!keys.contains d&&(List.range N).all (λj=>j ==i||BO ops j !=some d)
  | none=>true)&&
 (List.range N).all (λi=>(deps.getD i []).all (λj=>decide (j<N)&&(Du (ops.getD i default)).contains j&&!als.getD j true))&&
 (List.range N).all (λi=>match stos.getD i none with
  | some j=>decide (j<N)&&(Du (ops.getD i default)).contains j&&als.getD j false&&!als.getD i true
  | none=>true)&&
 (List.range N).all (λj=>match lates.getD j none with
  | some k=>decide (k<N)&&als.getD j false&&stos.getD k none ==some j
  | none=>true)
def Ts (P:Program)(n:Nat)(c:Cx)(opsA:Array Oper)(Q:Exit→Act→World→Prop)(l:Fr)(o:Oper)(p:List Rp×TypeId):Prop:=
 ∀H a w Z (K:Act→World→Prop),BZ n l a Z→St c H Z w→(∀b w',St c (.blk b p.1 p.2::H) Z w'→K (a.put o.dst (.pointer (some ⟨b,0,none⟩))) w')→
  Region.wanted o (yielded opsA a.tmps)=true∧o.wp P a w K Q
def Tp (P:Program)(n:Nat)(c:Cx)(opsA:Array Oper)(Q:Exit→Act→World→Prop)(ops:List Oper)(sp:List Sa)(l0:Fr)(H:List Ent)(i:Nat)(o:Oper):Prop:=
 match (Ed sp i).sto with
 | some j=>o.dst=none∧∃d p ncs,BO ops j=some d∧(Ed sp j).al=some p∧(Ed sp j).late=some (i,ncs)∧
   ∀b H,CJ P n c opsA Q ((d,rv (.pointer (some ⟨b,0,none⟩)))::Br ops (PG sp) (Ed sp i).deps l0) (.blk b p.1 p.2::H) o (rv undef) (.blk b ncs p.2::H)
 | none=>match (Ed sp i).al with
  | none=>∀E,CJ P n c opsA Q (Br ops (PG sp) (Ed sp i).deps l0) (H++E) o (Ed sp i).r (H++E)
  | some p=>Ts P n c opsA Q (Br ops (PG sp) (Ed sp i).deps l0) o p
def HD (P:Program)(n:Nat)(c:Cx)(opsA:Array Oper)(Q:Exit→Act→World→Prop)(ops:List Oper)(sp:List Sa)(l0:Fr)(H:List Ent):Nat→List Oper→Prop
 | i,o::rest=>Tp P n c opsA Q ops sp l0 H i o∧HD P n c opsA Q ops sp l0 H (i+1) rest
 | _,[]=>True
section
variable {P : Program} {n : Nat} {c : Cx} {opsA : Array Oper} {Q : Exit → Act → World → Prop} {l l0 : Fr} {H : List Ent} {sp : List Sa}
theorem HD.at {ops:List Oper}:∀{k:Nat} {rest:List Oper},HD P n c opsA Q ops sp l0 H k rest→∀(t:Nat) o,rest[t]? =some o→Tp P n c opsA Q ops sp l0 H (k+t) o
 | k,o::rest,⟨h1,h2⟩,t,o',ht=>by
  cases t with
  | zero=>simp at ht;subst ht;exact h1
  | succ t=>
   have:=HD.at h2 t o' (by simpa using ht);rw[show k+(t+1)=k+1+t from by omega];exact this
 | _,[],_,t,o,h=>by simp at h
theorem LB {β:Nat→Nat}{a:Act}{Z:Fz}(h0:BZ n l0 a Z):∀(os:List Oper) (ss:List Sa) (k:Nat),(∀(t:Nat) o s d,os[t]? =some o→ss[t]? =some s→o.dst=some d→∃v,a.tmps[d]? =some v∧(I2 β s (k+t)).p Z v)→BZ n (Je β os ss k l0) a Z
 | [],_,_,_=>by unfold Je;exact h0
 | _::_,[],_,_=>by unfold Je;exact h0
 | o::os,s::ss,k,h=>by
  have ih:=LB h0 os ss (k+1) (λt o' s' d h1 h2 h3=>by
   have:=h (t+1) o' s' d (by simpa using h1) (by simpa using h2) h3;rw[show k+1+t=k+(t+1) from by omega];exact this)
  unfold Je
  cases hd:o.dst with
  | none=>exact ih
  | some d=>
   refine⟨ih.size,ih.defers,λi r hi=>?_⟩;rw[B4] at hi
   split at hi
   ·rename_i e;subst e;simp at hi;subst hi;exact h 0 o s d rfl rfl hd
   ·exact ih.tm i r hi
theorem S4 {id:Nat}{ops:List Oper}(N:Nat)(sp:List Sa)(hm:P.follows .mixedOrders=true)(hB:Uc n ops N (D2 l0) (sp.map (·.deps)) (sp.map (·.al.isSome)) (sp.map (·.late.map (·.1))) (sp.map (·.sto))=true)(hl0:Pg l0 l)(hsp:sp.length=N)
  (hob:HD P n c ops.toArray Q ops sp l0 H 0 (ops.take N)) (h:∀β,WL P n c ops.toArray Q (ops.drop N) (Je β (ops.take N) sp 0 l0) (H++OU β sp 0)):WC P n c (.region id ops.toArray true) Q l H:=by
 intro a w Z ha hw;simp only[Uc,U6,UR,List.mem_range,U2] at hB;obtain⟨⟨⟨⟨⟨b1,bN⟩,b2⟩,b3⟩,b4⟩,b5⟩:=hB;have hget:∀i,i<N→(ops.take N)[i]? =ops[i]?:=λi hi=>by rw[Vh,UM hi]
 have hsa:∀i,i<N→sp[i]? =some (Ed sp i):=λi hi=>by
  simp[Ed,U8,U5 (show i<sp.length by omega)]
 have hspq:∀i,i<N→(C5 (PG sp) i)=⟨(Ed sp i).deps,(Ed sp i).r,0⟩:=λi hi=>by
  simp[C5,PG,U8,Vf,hsa i hi]
 have hals:∀j b,j<N→(sp.map (·.al.isSome)).getD j b=(Ed sp j).al.isSome:=λj b hj=>by simp[U8,Vf,hsa j hj]
 have hstos:∀j,j<N→(sp.map (·.sto)).getD j none=(Ed sp j).sto:=λj hj=>by simp[U8,Vf,hsa j hj]
 have hlates:∀j,j<N→(sp.map (·.late.map (·.1))).getD j none=(Ed sp j).late.map (·.1):=λj hj=>by simp[U8,Vf,hsa j hj]
 have S1:∀i o j,i<N→ops[i]? =some o→(Ed sp i).sto=some j→j<N∧j∈Du o∧(Ed sp j).al≠none∧(Ed sp i).al=none:=λi o j hi ho hs=>by
  have h1:=b4 i hi;rw[hstos i hi,hs] at h1;simp only[U6,UK,U2] at h1;obtain⟨⟨⟨h2,h3⟩,h4⟩,h5⟩:=h1;rw[hals j _ h2] at h4;rw[hals i _ hi] at h5;rw[U8,ho,UP,List.contains_iff_mem] at h3;exact⟨h2,h3,λe=>(by rw[e] at h4;cases h4),(by simpa using h5)⟩
 have L1:∀t q,t<N→(Ed sp t).late=some q→q.1<N∧(Ed sp q.1).sto=some t:=λt q ht hq=>by
  have h1:=b5 t ht;rw[hlates t ht,hq] at h1;simp only[Option.map_some,U6,U2,beq_iff_eq] at h1;obtain⟨⟨h2,h3⟩,h4⟩:=h1;rw[hstos _ h2] at h4;exact⟨h2,h4⟩
 have hops:∀j,j<N→∃o,ops[j]? =some o:=λj hj=>⟨ops[j]'(by omega),U5 (by omega)⟩
 have lt_of:∀(t:Nat) (s:Sa),sp[t]? =some s→t<N∧s=Ed sp t:=λt s hs=>by
  have h1:t<N:=by have:=(List.getElem?_eq_some_iff.1 hs).1;omega
  refine⟨h1,?_⟩;rw[hsa t h1] at hs;simpa using hs.symm
 have hdst:∀i o d,i<N→ops[i]? =some o→o.dst=some d→(d<n∧d ∉ D2 l0)∧∀j,j<N→j≠i→BO ops j≠some d:=λi o d hi ho hd=>by
  have h3:=b2 i hi;have:BO ops i=some d:=by simp[BO,ho,hd]
  rw[this] at h3;simp only[U6,UK,UR,List.mem_range,U2] at h3;refine⟨⟨h3.1.1,λhmem=>by rw[← List.contains_iff_mem] at hmem;rw[hmem] at h3;cases h3.1.2⟩,λj hj hne he=>?_⟩;have:=h3.2 j hj;simp[hne,he] at this
 refine Px (N:=N) hm b1 bN (λS a w=>∃ (β:Nat→Nat) (Z:Fz),St c (H++Em S β sp 0) Z w∧BZ n l0 a Z∧(∀j o d,j<N→S j=true→ops[j]? =some o→o.dst=some d→∃v,a.tmps[d]? =some v∧(I2 β (Ed sp j) j).p Z v)∧
   ∀k j,k<N→(Ed sp k).sto=some j→S k=true→S j=true)
  (λS S' a w hS hI=>?_) ⟨λ_=>0,Z,?_,ha.subL hl0,λj o d _ hS=>(by cases hS),λk j _ _ hS=>(by cases hS)⟩ (λS i o a w hi hun ho hb hI K hK=>?_) (λa w hI=>?_)
 ·obtain⟨β,Z,h1,h2,h3,h4⟩:=hI;refine⟨β,Z,?_,h2,λj o d hj hS'=>h3 j o d hj (by rw[hS j hj];exact hS'),λk j hk hs hSk=>?_⟩
  ·rw[← E2 (S:=S) (β:=β) (β':=β) sp 0 (λt s hs _=>by
    obtain⟨ht,rfl⟩:=lt_of t s hs;exact⟨hS _ (by omega),λ_=>⟨rfl,λq hq=>hS _ (L1 t q ht hq).1⟩⟩)]
   exact h1
  ·obtain⟨o,ho⟩:=hops k hk;rw[← hS j (S1 k o j hk ho hs).1];exact h4 k j hk hs (by rw[hS k hk];exact hSk)
 ·rw[KH,List.append_nil];exact hw.drawn _
 ·obtain⟨β,Z,h1,h2,h3,hx⟩:=hI;have hput:∀k u v,a.tmps[k]? =some u→o.dst≠some k→(a.put o.dst v).tmps[k]? =some u:=λk u v hk hne=>by
   cases hd:o.dst with
   | none=>simpa[Act.put] using hk
   | some d=>
    simp only[Act.put,Array.getElem?_setIfInBounds];rw[UD (λe=>hne (by rw[hd,e]))];exact hk
  have hagr:∀v Z',Fz.le Z Z'→BZ n l0 (a.put o.dst v) Z':=λv Z' hz=>by
   refine⟨?_,?_,λk r hk=>?_⟩
   ·cases o.dst<;>simp[Act.put,h2.size]
   ·cases o.dst<;>simp[Act.put,h2.defers]
   ·obtain⟨u,hu,hpu⟩:=h2.tm k r hk;exact⟨u,hput k u v hu (λe=>((hdst i o k hi ho e).1).2 (Ig hk)),r.mono hz hpu⟩
  have hvals:∀(v:Value) (Z':Fz) (β':Nat→Nat),Fz.le Z Z'→(∀j,j≠i→β' j=β j)→(o.dst≠none→(I2 β' (Ed sp i) i).p Z' v)→∀j o' d,j<N→(j ==i||S j)=true→ops[j]? =some o'→o'.dst=some d→∃u,(a.put o.dst v).tmps[d]? =some u∧(I2 β' (Ed sp j) j).p Z' u:=by
   intro v Z' β' hz hβ hp j o' d hj hS' ho' hd
   by_cases hji:j=i
   ·subst hji;rw[ho] at ho';simp at ho';subst ho';refine⟨v,?_,hp (by simp[hd])⟩;have hdn:d<a.tmps.size:=by rw[h2.size];exact(hdst j o d hi ho hd).1.1
    simp[Act.put,hd,hdn]
   ·have hSj:S j=true:=by simpa[hji] using hS'
    obtain⟨u,hu,hpu⟩:=h3 j o' d hj hSj ho' hd;refine⟨u,hput d u v hu (λe=>(hdst i o d hi ho e).2 j hj hji (by simp[BO,ho',hd])),?_⟩;have:I2 β' (Ed sp j) j=I2 β (Ed sp j) j:=by unfold I2;rw[hβ j hji]
    rw[this];exact(I2 β (Ed sp j) j).mono hz hpu
  have hx':∀k j,k<N→(Ed sp k).sto=some j→(k ==i||S k)=true→(j ==i||S j)=true:=λk j hk hs hSk=>by
   by_cases hki:k=i
   ·subst hki;have:=(hb j (S1 k o j hk ho hs).2.1).2;simp[this]
   ·have:S j=true:=hx k j hk hs (by simpa[hki] using hSk);simp[this]
  have hat:=hob.at i o (by rw[hget i hi];exact ho);rw[UZ] at hat;unfold Tp at hat;have hag':BZ n (Br ops (PG sp) (Ed sp i).deps l0) a Z:=Is h2 (λj hj d hd=>by
    have h4:=b3 i hi j (by simpa[U8,Vf,hsa i hi] using hj);simp only[U6,UK,U2] at h4;obtain⟨⟨h5,h6⟩,h7⟩:=h4;rw[U8,ho,UP,List.contains_iff_mem] at h6;have hjal:(Ed sp j).al=none:=by
     rw[hals j _ h5] at h7;simpa using h7
    obtain⟨o2,ho2⟩:=hops j h5;obtain⟨v,hv1,hv2⟩:=h3 j o2 d h5 (hb j h6).2 ho2 (by simpa[BO,ho2] using hd);refine⟨v,hv1,?_⟩;rw[hspq j h5];simpa[I2,hjal] using hv2)
  cases hst:(Ed sp i).sto with
  | some j=>
   rw[hst] at hat;obtain⟨hod,d,p,ncs,hd,hal,hlate,hok⟩:=hat;obtain⟨hjN,hjb,_,hial⟩:=S1 i o j hi ho hst;have hSj:=(hb j hjb).2;obtain⟨H',p1,p2⟩:=M8 (S:=S) (β:=β) (i:=i) (j:=j) (p:=p) (ncs:=ncs) sp 0 j (Ed sp j) (by omega) (hsa j hjN) hal hlate hSj hun (λt s q hs _ hq hne he=>by
     obtain⟨ht,rfl⟩:=lt_of t s hs;have:=(L1 t q ht hq).2;rw[he,hst] at this;simp at this;omega) (λt s hs hn he=>by
     obtain⟨ht,rfl⟩:=lt_of t s hs;rw[UZ] at he;subst he;exact hn hial)
   obtain⟨o2,ho2⟩:=hops j hjN;obtain⟨v,hv1,hv2⟩:=h3 j o2 d hjN hSj ho2 (by simpa[BO,ho2] using hd);have hag2:BZ n ((d,rv (.pointer (some ⟨β j,0,none⟩)))::Br ops (PG sp) (Ed sp i).deps l0) a Z:=⟨hag'.size,hag'.defers,λk r hk=>by
    rw[B4] at hk
    split at hk
    ·rename_i e;subst e;simp at hk;subst hk
     exact⟨v,hv1,by simpa[I2,hal] using hv2⟩
    ·exact hag'.tm k r hk⟩
   refine hok (β j) (H++H') a w Z K hag2 (h1.perm ((List.Perm.append_left H p1).trans List.perm_middle)) (λv w' Z' hz _ hs'=>hK _ _ ⟨β,Z',?_,hagr v Z' hz,hvals v Z' β hz (λ_ _=>rfl) (λhne=>absurd hod hne),hx'⟩);exact hs'.perm (List.perm_middle.symm.trans (List.Perm.append_left H p2.symm))
  | none=>
   rw[hst] at hat;have latene:∀t q,t<N→(Ed sp t).late=some q→q.1≠i:=λt q ht hq he=>by
    have:=(L1 t q ht hq).2;rw[he,hst] at this;cases this
   cases hal:(Ed sp i).al with
   | none=>
    rw[hal] at hat;refine hat _ a w Z K hag' h1 (λv w' Z' hz hp hst'=>hK _ _ ⟨β,Z',?_,hagr v Z' hz,hvals v Z' β hz (λ_ _=>rfl) (λ_=>by unfold I2;rw[hal];exact hp),hx'⟩);rw[E2 (S':=S) (β':=β) sp 0 (λt s hs hn=>by
     obtain⟨ht,rfl⟩:=lt_of t s hs;have:t≠i:=λe=>by subst e;exact hn hal
     refine⟨by simp[this],λ_=>⟨rfl,λq hq=>?_⟩⟩;have:=latene t q ht hq;simp[this])]
    exact hst'
   | some p=>
    rw[hal] at hat;have key:=λK' hK'=>hat (H++Em S β sp 0) a w Z K' hag' h1 hK';have h5:∀b w',St c (.blk b p.1 p.2::(H++Em S β sp 0)) Z w'→K (a.put o.dst (.pointer (some ⟨b,0,none⟩))) w':=λb w' hst'=>by
     refine hK _ _ ⟨λj=>if j=i then b else β j,Z,?_,hagr _ Z (Fz.le.refl _),hvals _ Z _ (Fz.le.refl _) (λj hj=>by simp[hj]) (λ_=>by simp[I2,hal,rv]),hx'⟩;have hp:=M9 (S:=S) (β:=β) (i:=i) (b:=b) (p:=p) sp 0 i (Ed sp i) (by omega) (hsa i hi) hal hun (λt s q hs _ hq=>by
      obtain⟨ht,rfl⟩:=lt_of t s hs;exact latene t q ht hq) (λq hq=>by
       refine⟨?_,latene i q hi hq⟩
       cases hS:S q.1 with
       | false=>rfl
       | true=>
        obtain⟨h6,h7⟩:=L1 i q hi hq;have:=hx q.1 i h6 h7 hS;rw[this] at hun;cases hun)
     exact hst'.perm ((List.perm_middle.symm).trans (List.Perm.append_left H hp.symm))
    refine⟨λ_=>(key K h5).2,λhw'=>?_⟩;rw[(key K h5).1] at hw';cases hw'
 ·obtain⟨β,Z,h1,h2,h3,_⟩:=hI;refine h β a w Z (LB h2 _ _ 0 (λt o s d ht hs hd=>?_)) (by rw[← MA];exact h1);obtain⟨htN,rfl⟩:=lt_of t s hs;rw[UZ];exact h3 t o d htN rfl (by rw[← hget t htN];exact ht) hd
end
theorem Tm {l:Fr}{P:Program}{n:Nat}{c:Cx}{opsA:Array Oper}{Q:Exit→Act→World→Prop}{d:Nat}{e:TypeId}{x:Operand}{ty:TypeId}{pos:String}{af:Array Edge}{cs:List Rp}(hx:ev l x=some (Bu cs)) :
  Ts P n c opsA Q l { dst:=some d,op:=.box e x,type:=ty,pos:=pos,after:=af,guard:=none } (cs,e):=λH a w Z K ha hw hK=>by
 refine⟨by simp[Region.wanted],?_⟩;obtain⟨us,e1,hu⟩:=ha.ev hx;unfold Oper.wp;rw[show(execOp a.eval { dst:=some d,op:=.box e x,type:=ty,pos:=pos,after:=af,guard:=none }).run P w = .ok (.value (.pointer (some ⟨w.heap.size,0,none⟩))) (w.alloc (.cells us.toArray e)) from by simp[execOp,e1,Instr.box,newVar,newRow,newObj,Sem.run,Value.cells]];exact hK _ _ (hw.alloc _ (e:=.blk w.heap.size cs e) ⟨us,by simpa using heap_alloc_new w _,hu⟩ rfl)
section
variable {P : Program} {n : Nat} {c : Cx} {opsA : Array Oper} {Q : Exit → Act → World → Prop} {l l0 : Fr} {H : List Ent} {sp : List Sa}
theorem Ny {id:Nat}{ops:List Oper}(N:Nat)(ks0:List Nat)(sp:List Sa)(hob:HD P n c ops.toArray Q ops sp l0 H 0 (ops.take N))(h:∀β,WL P n c ops.toArray Q (ops.drop N) (Je β (ops.take N) sp 0 l0) (H++OU β sp 0))
  (h0:Kp ks0 l l0:=by repeat (first | exact Ku | (apply ID;rfl) | (apply Jl;rfl))) (hm:P.follows .mixedOrders=true:=by kernel_rfl) (hB:Uc n ops N (D2 l0) (sp.map (·.deps)) (sp.map (·.al.isSome)) (sp.map (·.late.map (·.1))) (sp.map (·.sto))=true:=by kernel_rfl)
  (hsp:sp.length=N:=by rfl):WC P n c (.region id ops.toArray true) Q l H:=S4 N sp hm hB h0.one hsp hob h
theorem LF {all rest:List Oper}{d:Nat}{op:Op}{ty:TypeId}{pos:String}{af:Array Edge}{i:Nat}
  (hr:∀{H},Bi P n c (Br all (PG sp) (Ed sp i).deps l0) H { dst:=some d,op:=op,type:=ty,pos:=pos,after:=af,guard:=none } (Ed sp i).r) (h:HD P n c opsA Q all sp l0 H (i+1) rest) (ha:(Ed sp i).al=none:=by rfl) (hs:(Ed sp i).sto=none:=by rfl) :
  HD P n c opsA Q all sp l0 H i ({ dst:=some d,op:=op,type:=ty,pos:=pos,after:=af,guard:=none }::rest):=by
 refine⟨?_,h⟩;unfold Tp;rw[hs,ha];exact λ_=>GZ hr
theorem Tt {all rest:List Oper}{d:Nat}{op:Op}{ty:TypeId}{pos:String}{af:Array Edge}{i:Nat}
  (hr:∀{E},Bi P n c (Br all (PG sp) (Ed sp i).deps l0) (H++E) { dst:=some d,op:=op,type:=ty,pos:=pos,after:=af,guard:=none } (Ed sp i).r) (h:HD P n c opsA Q all sp l0 H (i+1) rest) (ha:(Ed sp i).al=none:=by rfl) (hs:(Ed sp i).sto=none:=by rfl) :
  HD P n c opsA Q all sp l0 H i ({ dst:=some d,op:=op,type:=ty,pos:=pos,after:=af,guard:=none }::rest):=by
 refine⟨?_,h⟩;unfold Tp;rw[hs,ha];exact λ_=>GZ hr
theorem Uv {all rest:List Oper}{o:Oper}{p:List Rp×TypeId}{i:Nat}(hr:Ts P n c opsA Q (Br all (PG sp) (Ed sp i).deps l0) o p)(h:HD P n c opsA Q all sp l0 H (i+1) rest)(ha:(Ed sp i).al=some p:=by rfl)(hs:(Ed sp i).sto=none:=by rfl):HD P n c opsA Q all sp l0 H i (o::rest):=by
 refine⟨?_,h⟩;unfold Tp;rw[hs,ha];exact hr
theorem Uo {all:List Oper}{i:Nat}:HD P n c opsA Q all sp l0 H i []:=trivial
end
structure QV (ks:List Nat) (β:Nat→Nat) (os:List Oper) (sp:List Sa) (i:Nat) (l0 l1:Fr):Prop where
 go:Kp ks (Je β os sp i l0) l1
section
variable {ks : List Nat} {β : Nat → Nat} {os : List Oper} {sp : List Sa} {i d : Nat} {l0 l1 : Fr} {ds : List Nat} {r : Rp} {p : List Rp × TypeId} {lt : Option (Nat × List Rp)} {so : Option Nat} {op : Op} {ty : TypeId} {pos : String} {af : Array Edge} {g : Option (Nat × Bool)}
theorem T7 (h:ks.contains d=true)(t:QV ks β os sp (i+1) l0 l1):QV ks β ({ dst:=some d,op:=op,type:=ty,pos:=pos,after:=af,guard:=g }::os) ({ deps:=ds,r:=r,sto:=so }::sp) i l0 ((d,r)::l1):=⟨ID h t.go⟩
theorem TA (h:ks.contains d=true)(t:QV ks β os sp (i+1) l0 l1):QV ks β ({ dst:=some d,op:=op,type:=ty,pos:=pos,after:=af,guard:=g }::os) ({ deps:=ds,r:=r,al:=some p,late:=lt,sto:=so }::sp) i l0 ((d,rv (.pointer (some ⟨β i,0,none⟩)))::l1):=⟨ID h t.go⟩
theorem T9 {s:Sa}(h:ks.contains d=false)(t:QV ks β os sp (i+1) l0 l1):QV ks β ({ dst:=some d,op:=op,type:=ty,pos:=pos,after:=af,guard:=g }::os) (s::sp) i l0 l1:=⟨Jl h t.go⟩
theorem T8 {s:Sa}(t:QV ks β os sp (i+1) l0 l1):QV ks β ({ dst:=none,op:=op,type:=ty,pos:=pos,after:=af,guard:=g }::os) (s::sp) i l0 l1:=⟨t.go⟩
theorem TB (t:Kp ks l0 l1):QV ks β [] [] i l0 l1:=⟨t⟩
theorem MO {P:Program}{n:Nat}{c:Cx}{opsA:Array Oper}{Q:Exit→Act→World→Prop}{rest:List Oper}{H H1:List Ent}(ks:List Nat)(h:WL P n c opsA Q rest l1 H1)
  (hz:QV ks β os sp i l0 l1:=by repeat (first | (apply T7;rfl) | (apply TA;rfl) | (apply T9;rfl) | apply T8 | apply TB | exact Ku | (apply ID;rfl) | (apply Jl;rfl))) (hH:H=H1:=by rfl) :
  WL P n c opsA Q rest (Je β os sp i l0) H:=λa w Z ha hw=>h a w Z (ha.subL hz.go.one) (hH▸hw)
end
section
variable {P : Program} {n : Nat} {c : Cx} {opsA : Array Oper} {Q : Exit → Act → World → Prop} {l l0 : Fr} {H : List Ent} {sp : List Sa}
theorem Ud {all rest:List Oper}{o:Oper}{i:Nat}(hr:∀{E},CJ P n c opsA Q (Br all (PG sp) (Ed sp i).deps l0) (H++E) o (Ed sp i).r (H++E))(h:HD P n c opsA Q all sp l0 H (i+1) rest)(ha:(Ed sp i).al=none:=by rfl)(hs:(Ed sp i).sto=none:=by rfl):HD P n c opsA Q all sp l0 H i (o::rest):=by
 refine⟨?_,h⟩;unfold Tp;rw[hs,ha];exact λ_=>hr
end
def Un (p:Bool→Prop):Rp:=⟨λ_ v=>∃b,v = .bool b∧p b,λ_ h=>h,true,λ_ Z v ⟨b,e,_⟩=>by rw[e];rfl⟩
section
variable {P : Program} {n : Nat} {c : Cx} {ops : Array Oper} {Q : Exit → Act → World → Prop} {rest : List Oper} {l : Fr} {H : List Ent} {d : Option Nat} {ty rty t e : TypeId} {pos : String} {af : Array Edge} {g : Option (Nat × Bool)} {r : Rp} {x : Operand} {cx cy : Code} {sz : Nat} {xs : List (List Rp)}
theorem P1 {o:Operand}{p:Bool→Prop}(ho:ev l o=some (Un p))(h1:p true→WC P n c cx Q l H)(h2:p false→WC P n c cy Q l H):WC P n c (.cond o cx cy) Q l H:=λa w Z ha hw=>by
 obtain⟨b,e,hp⟩:=ha.ev ho;exact wp_cond_split e (λe=>h1 (e▸hp) a w Z ha hw) (λe=>h2 (e▸hp) a w Z ha hw)
theorem OG (ht:P.underlying t=some (.slice e))(h:ev l x=some (Bw sz xs)):Bi P n c l H { dst:=d,op:=.binOp .eql t x (.const (.slice none 0 0)) rty,type:=ty,pos:=pos,after:=af,guard:=g } (Un (λb=>b=true→xs=[])):=λa w Z ha hw=>by
 obtain⟨A,cap,e1,h1,h2,h3,h4⟩:=ha.ev h;refine⟨.bool A.isNone,⟨_,rfl,λhb=>?_⟩,?_⟩
 ·cases A with
  | some a=>cases hb
  | none=>
   have:=h3 rfl;exact List.length_eq_zero_iff.1 (by omega)
 ·have:=run_equal_slice_nil (P:=P) w t e A xs.length cap ht;have e2:a.eval (.const (.slice none 0 0)) = .slice none 0 0:=rfl;simp[execOp,e1,e2,binOp,this,eqGuard]
end
section
variable {P : Program} {n : Nat} {c : Cx} {l : Fr} {H : List Ent} {d : Option Nat} {ty rty t e : TypeId} {pos : String} {af : Array Edge} {g : Option (Nat × Bool)} {x : Operand} {sz : Nat}
end
theorem Dr (s:ByteArray):MapKept.IsKey .string (.string s):=by simp[MapKept.IsKey]
theorem Hn.keys {Z:Fz}:∀{f:List (List UInt8×Rp)} {es:List MapEntry},Hn Z f es→∀x∈es,MapKept.IsKey .string x.key
 | [],[],_,x,hx=>by cases hx
 | p::f,e::es,⟨⟨h1,h2⟩,h3⟩,x,hx=>by
  rcases List.mem_cons.1 hx with rfl | hx
  ·rw[h1];exact Dr _
  ·exact Hn.keys h3 x hx
theorem Hn.at {Z:Fz}:∀{f:List (List UInt8×Rp)} {es:List MapEntry},Hn Z f es→f.length=es.length∧∀(j:Nat) (e:MapEntry),es[j]? =some e→∃k r,f[j]? =some (k,r)∧e.key = .string (B k)∧r.p Z e.val
 | [],[],_=>⟨rfl,λj e h=>by simp at h⟩
 | p::f,e::es,⟨⟨h1,h2⟩,h3⟩=>by
  obtain⟨hl,ha⟩:=Hn.at h3;refine⟨by simp[hl],λj e' hj=>?_⟩
  cases j with
  | zero=>simp at hj;subst hj;exact⟨p.1,p.2,rfl,h1,h2⟩
  | succ j=>simp at hj;simpa using ha j e' hj
theorem Hn.of {Z:Fz}:∀{f:List (List UInt8×Rp)} {es:List MapEntry},f.length=es.length→(∀(j:Nat) (e:MapEntry),es[j]? =some e→∃k r,f[j]? =some (k,r)∧e.key = .string (B k)∧r.p Z e.val)→Hn Z f es
 | [],[],_,_=>trivial
 | p::f,e::es,hl,h=>by
  obtain⟨k,r,h1,h2,h3⟩:=h 0 e rfl;simp at h1;subst h1;exact⟨⟨h2,h3⟩,Hn.of (by simpa using hl) λj e' hj=>by simpa using h (j+1) e' (by simpa using hj)⟩
 | [],_::_,hl,_=>by simp at hl
 | _::_,[],hl,_=>by simp at hl
theorem Hn.snoc {Z:Fz}{k:List UInt8}{r:Rp}{e:MapEntry}(h1:e.key = .string (B k))(h2:r.p Z e.val):∀{f:List (List UInt8×Rp)} {es:List MapEntry},Hn Z f es→Hn Z (f++[(k,r)]) (es++[e])
 | [],[],_=>⟨⟨h1,h2⟩,trivial⟩
 | p::f,e'::es,⟨h,h3⟩=>⟨h,Hn.snoc h1 h2 h3⟩
theorem Hn.filter {Z:Fz}(q:MapEntry→Bool):∀{f:List (List UInt8×Rp)} {es:List MapEntry},Hn Z f es→∃g,Hn Z g (es.filter q)∧g.Sublist f
 | [],[],_=>⟨[],trivial,List.Sublist.refl _⟩
 | p::f,e::es,⟨h,h3⟩=>by
  obtain⟨g,hg,hs⟩:=Hn.filter q h3
  cases hq:q e with
  | true=>exact⟨p::g,by rw[List.filter_cons_of_pos hq];exact⟨h,hg⟩,hs.cons_cons p⟩
  | false=>exact⟨g,by rw[List.filter_cons_of_neg (by simp[hq])];exact hg,hs.cons p⟩
theorem G3 {T:Type}:∀{m:List (AA×T)} {k:AA} {r:T},(m.map (·.1)).Nodup→(k,r)∈m→mget m k=some r
 | p::m,k,r,hn,h=>by
  rw[Vm,List.nodup_cons] at hn;rw[mget];rcases List.mem_cons.1 h with h | h
  ·subst h;rw[U4 rfl];rfl
  ·have hne : ¬ p.1=k:=λe=>hn.1 (by rw[e];exact List.mem_map.2 ⟨(k,r),h,rfl⟩);rw[U7 hne];exact G3 hn.2 h
theorem K9 {T:Type}:∀{m:List (AA×T)} {k:AA},(∀p∈m,p.1≠k)→mget m k=none
 | [],_,_=>rfl
 | p::m,k,h=>by
  rw[mget,U7 (h p (by simp))];exact K9 λq hq=>h q (by simp[hq])
theorem TK {a b:List UInt8}(h:B a=B b):a=b:=by
 have:=congrArg ByteArray.toList h
 rwa [Ec,Ec] at this
theorem JH {a b:List UInt8}(h:Value.string (B a) = .string (B b)):a=b:=TK (by cases h;rfl)
theorem L0 {Z:Fz}{m:List (List UInt8×Rp)}{es:List MapEntry}{ck:Nat}(h:DB Z m es ck)(k:List UInt8) :
  (Instr.findNow .string (.string (B k)) es 0=some none∧mget m k=none∧∀p∈m,p.1≠k)∨∃j e r,Instr.findNow .string (.string (B k)) es 0=some (some (j,e.val))∧es[j]? =some e∧e.key = .string (B k)∧mget m k=some r∧r.p Z e.val:=by
 obtain⟨h1,h2,h3,f,h4,h5⟩:=h;obtain⟨hl,ha⟩:=h5.at;rcases MapKept.findNow_spec (Dr (B k)) es 0 h5.keys with⟨q1,q2⟩ | ⟨j,e,q1,q2,q3⟩
 ·have hne:∀p∈m,p.1≠k:=λp hp e=>by
   obtain⟨j,hj⟩:=List.mem_iff_getElem?.1 (h4.symm.subset hp);have hjl:j<es.length:=by rw[← hl];exact(List.getElem?_eq_some_iff.1 hj).1
   obtain⟨k',r',e1,e2,_⟩:=ha j es[j] (U5 hjl);rw[hj] at e1;cases e1;exact q2 es[j] (List.getElem_mem hjl) (by rw[e2,← e])
  exact .inl ⟨q1,K9 hne,hne⟩
 ·obtain⟨k',r,e1,e2,e3⟩:=ha j e q2;rw[q3] at e2;obtain rfl:=JH e2;exact .inr ⟨j,e,r,by simpa using q1,q2,q3,G3 h1 (h4.subset (UE e1)),e3⟩
section
variable {P : Program} {n : Nat} {c : Cx} {ops : Array Oper} {Q : Exit → Act → World → Prop} {rest : List Oper} {l : Fr} {H : List Ent} {d : Nat} {d' : Option Nat} {ty t kt et rty : TypeId} {pos : String} {af : Array Edge} {g : Option (Nat × Bool)} {x y u : Operand} {K : Act → World → Prop} {cx : Code}
variable {T : Type} {enc : T → Rp} {xs : List (AA × T)} {z : T} {k : AA} {zv : Value} {i b : Nat}
theorem Ko {Z:Fz}{w:World}{m:List (List UInt8×Rp)}{rz:Rp}(ht:P.underlying t=some (.map kt et))(hk:P.underlying kt=some .string)(hz:∀w,(zeroValue et).run P w = .ok zv w)(hzr:rz.p Z zv)(hm:(Ent.map b m).holds Z w)(ok:Bool) :
  ∃v,((mget m k).getD rz).p Z v∧(Instr.lookup t (.map (some b)) (.string (B k)) ok).run P w = .ok (if ok then .tuple #[v,.bool (mget m k).isSome] else v) w:=by
 obtain⟨es,ck,h1,h2⟩:=hm;rcases L0 h2 k with⟨q1,q2,_⟩ | ⟨j,e,r,q1,_,_,q2,q3⟩
 ·exact⟨zv,by rw[q2];exact hzr,by simp[Instr.lookup,run_underlying ht,MapKept.run_getObj_map h1,MapKept.run_checkKey hk (Dr _),MapKept.run_findKey hk q1,hz,q2]⟩
 ·exact⟨e.val,by rw[q2];exact q3,by simp[Instr.lookup,run_underlying ht,MapKept.run_getObj_map h1,MapKept.run_checkKey hk (Dr _),MapKept.run_findKey hk q1,q2]⟩
theorem Qz (enc:T→Rp)(xs:List (AA×T))(k:AA)(z:T):(mget (A6 enc xs) k).getD (enc z)=enc (Ch xs k z):=by
 rw[Ie];unfold Ch;cases mget xs k<;>rfl
theorem Np (enc:T→Rp)(xs:List (AA×T))(k:AA):(mget (A6 enc xs) k).isSome=Ck xs k:=by
 rw[Ie];unfold Ck;cases mget xs k<;>rfl
theorem NF (ht:P.underlying t=some (.map kt et))(hk:P.underlying kt=some .string)(hz:∀w,(zeroValue et).run P w = .ok zv w)(hzr:∀Z,(enc z).p Z zv)(hx:ev l x=some (rv (.map (some b))))(hi:H[i]? =some (.map b (A6 enc xs)))(hy:ev l y=some (rS k)) :
  Bi P n c l H { dst:=d',op:=.lookup t x y true,type:=ty,pos:=pos,after:=af,guard:=g } (D8 [enc (Ch xs k z),rB (Ck xs k)]):=λa w Z ha hw=>by
 obtain⟨v,h1,h2⟩:=Ko (k:=k) ht hk hz (hzr Z) (hw.ent hi) true;rw[Qz] at h1;refine⟨.tuple #[v,.bool (Ck xs k)],⟨[v,.bool (Ck xs k)],rfl,h1,rfl,trivial⟩,?_⟩;rw[Np] at h2;simp[execOp,ha.eval hx,ha.eval hy,h2]
theorem DB.length {Z:Fz}{m:List (List UInt8×Rp)}{es:List MapEntry}{ck:Nat}(h:DB Z m es ck):es.length=m.length:=by
 obtain⟨_,_,_,f,h4,h5⟩:=h;rw[← h5.at.1,h4.length_eq]
theorem Qh {m:List (List UInt8×Rp)}{N:Nat}(ht:P.underlying t=some (.map kt et))(hx:ev l x=some (rv (.map (some b))))(hi:H[i]? =some (.map b m))(hN:m.length=N) :
  Bi P n c l H { dst:=d',op:=.call { callee:=.builtin .len,args:=#[x],argTypes:=#[t] },type:=ty,pos:=pos,after:=af,guard:=g } (rI .i64 N):=λa w Z ha hw=>CO<|by
 obtain⟨es,ck,h1,h2⟩:=hw.ent hi;have hl:es.size=N:=by rw[← hN,← h2.length];simp
 simp[execOp,resolve,invoke,builtin,ha.eval hx,Builtin.len_,run_underlying ht,goInt,MapKept.run_getObj_map h1,hl]
theorem OH {v:Option Nat}(ht:P.underlying t=some (.map kt et))(hx:ev l x=some (rv (.map v))):Bi P n c l H { dst:=d',op:=.binOp .neq t x (.const (.map none)) rty,type:=ty,pos:=pos,after:=af,guard:=g } (rB (!v.isNone)):=λa w Z ha hw=>CO<|by
 have e2:a.eval (.const (.map none)) = .map none:=rfl;have h:=run_equal_map_nil (P:=P) w t kt et v ht;simp[execOp,ha.eval hx,e2,eqGuard,binOp,h]
theorem PV {m f:List (AA×Rp)}(h:f.Perm m)(k:AA)(r:Rp):(mput f k r).Perm (mput m k r):=h.map _
theorem NI {T:Type}:∀{f:List (AA×T)} {j:Nat} {k:AA} {r0:T} (r:T),(f.map (·.1)).Nodup→f[j]? =some (k,r0)→mput f k r=f.set j (k,r)
 | p::f,0,k,r0,r,hn,h=>by
  simp at h;subst h;rw[Vm,List.nodup_cons] at hn;have:mput f k r=f:=by
   unfold mput;rw[List.map_congr_left (g:=id) (λq hq=>?_),List.map_id];have hne : ¬ q.1=k:=λe=>hn.1 (by rw[← e];exact List.mem_map.2 ⟨q,hq,rfl⟩);rw[U7 hne];rfl
  show(bif decide (k=k) then(k,r) else(k,r0))::mput f k r=_;rw[U4 rfl,this];rfl
 | p::f,j+1,k,r0,r,hn,h=>by
  rw[Vm,List.nodup_cons] at hn;simp at h;have hne : ¬ p.1=k:=λe=>hn.1 (by rw[e];exact List.mem_map.2 ⟨(k,r0),UE h,rfl⟩);show(bif decide (p.1=k) then(k,r) else p)::mput f k r=_;rw[U7 hne,NI r hn.2 h];rfl
theorem NJ {T:Type}:∀{f:List (AA×T)} {j:Nat} {k:AA} {r0:T},(f.map (·.1)).Nodup→f[j]? =some (k,r0)→mdel f k=f.eraseIdx j
 | p::f,0,k,r0,hn,h=>by
  simp at h;subst h;rw[Vm,List.nodup_cons] at hn;have:f.filter (λq=>!decide (q.1=k))=f:=List.filter_eq_self.2 λq hq=>by
   have hne : ¬ q.1=k:=λe=>hn.1 (by rw[← e];exact List.mem_map.2 ⟨q,hq,rfl⟩);simp[hne]
  unfold mdel;rw[List.filter_cons_of_neg (by simp),this];rfl
 | p::f,j+1,k,r0,hn,h=>by
  rw[Vm,List.nodup_cons] at hn;simp at h;have hne : ¬ p.1=k:=λe=>hn.1 (by rw[e];exact List.mem_map.2 ⟨(k,r0),UE h,rfl⟩);unfold mdel;rw[List.filter_cons_of_pos (by simp[hne])];show p::mdel f k=_;rw[NJ hn.2 h];rfl
theorem OL {T:Type}(m:List (AA×T))(k:AA)(r:T):(mput m k r).map (·.1)=m.map (·.1):=by
 unfold mput;rw[Vr];refine List.map_congr_left λp _=>?_;simp only[Function.comp]
 by_cases h:p.1=k
 ·rw[U4 h];exact h.symm
 ·rw[U7 h];rfl
theorem OM {T:Type}{m:List (AA×T)}{k:AA}{r:T}(h:mget m k=some r):Ck m k=true:=by unfold Ck;rw[h];rfl
theorem ON {T:Type}{m:List (AA×T)}{k:AA}(h:mget m k=none):Ck m k=false:=by unfold Ck;rw[h];rfl
theorem DB.put {Z:Fz}{m:List (AA×Rp)}{es:List MapEntry}{ck j:Nat}{e:MapEntry}{k:AA}{r0 r:Rp}{v:Value}(h:DB Z m es ck)(he:es[j]? =some e)(hk:e.key = .string (B k))(hm:mget m k=some r0)(hr:r.p Z v) :
  DB Z (mset m k r) (es.set j { e with key:=.string (B k),val:=v }) ck:=by
 obtain⟨h1,h2,h3,f,h4,h5⟩:=h;obtain⟨hl,ha⟩:=h5.at;have hjl:=(List.getElem?_eq_some_iff.1 he).1;unfold mset;rw[OM hm,UF];obtain⟨k',r',e1,e2,_⟩:=ha j e he;rw[hk] at e2;obtain rfl:=JH e2;have hfn:(f.map (·.1)).Nodup:=(h4.map (·.1)).nodup_iff.2 h1;refine⟨by rw[OL];exact h1,?_,?_,f.set j (k,r),?_,Hn.of (by simp[hl]) λi x hx=>?_⟩
 ·rw[List.map_set];have:(es.map (·.born)).set j e.born=es.map (·.born):=by
   apply List.ext_getElem?;intro i;rw[List.getElem?_set]
   split
   ·rename_i hij;subst hij
    simp[hjl,List.getElem?_eq_some_iff.1 he |>.2]
   ·rfl
  show((es.map (·.born)).set j e.born).Nodup;rw[this];exact h2
 ·intro x hx;rcases List.mem_or_eq_of_mem_set hx with hx | rfl
  ·exact h3 x hx
  ·exact h3 e (UE he)
 ·have:=PV h4 k r
  rwa [NI r hfn e1] at this
 ·rw[List.getElem?_set] at hx ⊢
  split at hx
  ·rename_i hij;subst hij
   cases hx
   exact⟨k,r,by rw[UM rfl,UM (by rw[hl];exact hjl)],rfl,hr⟩
  ·rename_i hij
   rw[UD hij];exact ha i x hx
theorem DB.ins {Z:Fz}{m:List (AA×Rp)}{es:List MapEntry}{ck:Nat}{k:AA}{r:Rp}{v:Value}(h:DB Z m es ck)(hm:mget m k=none)(hk:∀p∈m,p.1≠k)(hr:r.p Z v) :
  DB Z (mset m k r) (es++[{ key:=.string (B k),val:=v,born:=ck }]) (ck+1):=by
 obtain⟨h1,h2,h3,f,h4,h5⟩:=h;unfold mset;rw[ON hm,U9];have hp:=IA k r m;refine⟨?_,?_,?_,f++[(k,r)],?_,Hn.snoc rfl hr h5⟩
 ·rw[(hp.map (·.1)).nodup_iff,Vm,List.nodup_cons];exact⟨λhx=>by obtain⟨p,hp,e⟩:=List.mem_map.1 hx;exact hk p hp e,h1⟩
 ·rw[Vq,List.nodup_append];refine⟨h2,by simp,λa ha b hb e=>?_⟩;simp at hb;subst hb;obtain⟨x,hx,e'⟩:=List.mem_map.1 ha;have:=h3 x hx;omega
 ·intro x hx;rcases List.mem_append.1 hx with hx | hx
  ·have:=h3 x hx;omega
  ·simp at hx;subst hx;exact UQ _
 ·exact(List.perm_append_comm (l₁:=f) (l₂:=[(k,r)])).trans ((h4.cons (k,r)).trans hp.symm)
theorem DB.del {Z:Fz}{m:List (AA×Rp)}{es:List MapEntry}{ck j:Nat}{e:MapEntry}{k:AA}(h:DB Z m es ck)(he:es[j]? =some e)(hk:e.key = .string (B k)):DB Z (mdel m k) (es.eraseIdx j) ck:=by
 obtain⟨h1,h2,h3,f,h4,h5⟩:=h;obtain⟨hl,ha⟩:=h5.at;obtain⟨k',r',e1,e2,_⟩:=ha j e he;rw[hk] at e2;obtain rfl:=JH e2;have hfn:(f.map (·.1)).Nodup:=(h4.map (·.1)).nodup_iff.2 h1;have hs:=List.eraseIdx_sublist es j;refine⟨h1.sublist ((List.filter_sublist ..).map _),h2.sublist (hs.map _),λx hx=>h3 x (hs.subset hx),f.eraseIdx j,?_,Hn.of (by rw[List.length_eraseIdx,List.length_eraseIdx,hl]) λi x hx=>?_⟩
 ·rw[← NJ hfn e1];exact h4.filter _
 ·rw[List.getElem?_eraseIdx] at hx ⊢
  split at hx
  ·rename_i hij;rw[UM hij];exact ha i x hx
  ·rename_i hij;rw[UD hij];exact ha (i+1) x hx
theorem OO {m:List (AA×Rp)}{k:AA}(hk:∀p∈m,p.1≠k):mdel m k=m:=List.filter_eq_self.2 λp hp=>by simp[hk p hp]
theorem St.mapset {Z:Fz}{w:World}(h:St c H Z w){m m':List (AA×Rp)}(hi:H[i]? =some (.map b m)){es es':Array MapEntry}{ck ck':Nat}(h1:w.heap[b]? =some (.map es ck))(h2:DB Z m' es'.toList ck') :
  St c (H.set i (.map b m')) Z { w with heap:=w.heap.setIfInBounds b (.map es' ck') }:=by
 obtain⟨q1,q2⟩:=MapKept.heap_set (o':=.map es' ck') h1;exact h.set hi rfl rfl rfl (by simp) (λk _ hk=>q2 k (by simpa[Ent.foot] using hk)) ⟨es',ck',q1,h2⟩ (by simp[Ent.foot])
theorem Lh (s:ByteArray):Instr.sameBits 10000 (.string s) (.string s)=true:=by
 show(s ==s)=true;exact(MapKept.bytes_beq s s).2 rfl |> λh=>by simpa using h
theorem S5 {r:Rp}{m:List (AA×Rp)}(ht:P.underlying t=some (.map kt et))(hk:P.underlying kt=some .string)(hx:ev l x=some (rv (.map (some b))))(hi:H[i]? =some (.map b m))(hy:ev l y=some (rS k))(hu:ev l u=some r){H':List Ent}(hH:H.set i (.map b (mset m k r))=H')(h:WL P n c ops Q rest l H') :
  WL P n c ops Q ({ dst:=none,op:=.mapUpdate t x y u,type:=ty,pos:=pos,after:=af,guard:=none }::rest) l H:=
 KT λa w Z ha hw=>by
  obtain⟨es,ck,h1,h2⟩:=hw.ent hi;have hv:=ha.ev hu;subst hH;rcases L0 h2 k with⟨q1,q2,q3⟩ | ⟨j,e,r0,q1,q2,q3,q4,_⟩
  ·refine⟨_,_,?_,hw.mapset hi h1 (es':=es.push { key:=.string (B k),val:=a.eval u,born:=ck }) (by simpa using h2.ins q2 q3 hv),h⟩;simp[execOp,ha.eval hx,ha.eval hy,Instr.mapUpdate,run_underlying ht,MapKept.run_getObj_map h1,MapKept.run_checkKey hk (Dr _),MapKept.run_findKey hk q1,MapKept.run_setObj_map _ h1]
  ·have hje:es[j]? =some e:=by simpa using q2
   refine⟨_,_,?_,hw.mapset hi h1 (es':=es.modify j λe=>{ e with key:=.string (B k),val:=a.eval u }) (ck':=ck) (by
    have:=h2.put q2 q3 q4 hv;have e1:(es.modify j λe=>{ e with key:=.string (B k),val:=a.eval u }).toList=es.toList.set j { e with key:=.string (B k),val:=a.eval u }:=by
     rw[Array.toList_modify];rw[List.modify_eq_set,q2];rfl
    rw[e1];exact this),h⟩
   have hkey:((es[j]?).map (·.key)).getD (.string (B k)) = .string (B k):=by rw[hje];exact q3
   simp[execOp,ha.eval hx,ha.eval hy,Instr.mapUpdate,run_underlying ht,MapKept.run_getObj_map h1,MapKept.run_checkKey hk (Dr _),MapKept.run_findKey hk q1,MapKept.run_setObj_map _ h1,hkey,Instr.keyThatStays,Lh]
theorem Tv {op:Op}{ty:TypeId}{pos:String}{af:Array Edge}
  (hr:∀a w Z,BZ n l a Z→St c H Z w→∃v w' H',(execOp a.eval { dst:=none,op:=op,type:=ty,pos:=pos,after:=af,guard:=none }).run P w = .ok (.value v) w'∧St c H' Z w'∧WL P n c ops Q rest l H') :
  WL P n c ops Q ({ dst:=none,op:=op,type:=ty,pos:=pos,after:=af,guard:=none }::rest) l H:=λa w Z ha hw=>
 wpList_plain rfl λK hK=>by
  obtain⟨v,w',H',h1,h2,h3⟩:=hr a w Z ha hw;unfold Oper.wp;rw[h1];exact hK _ _ (h3 _ w' Z (ha.put_none _) h2)
theorem S6 {m:List (AA×Rp)}(ht:P.underlying t=some (.map kt et))(hk:P.underlying kt=some .string){kt':TypeId}(hx:ev l x=some (rv (.map (some b))))(hi:H[i]? =some (.map b m))(hy:ev l y=some (rS k)){H':List Ent}(hH:H.set i (.map b (mdel m k))=H')(h:WL P n c ops Q rest l H') :
  WL P n c ops Q ({ dst:=none,op:=.call { callee:=.builtin .delete,args:=#[x,y],argTypes:=#[t,kt'] },type:=ty,pos:=pos,after:=af,guard:=none }::rest) l H:=
 Tv (λa w Z ha hw=>by
  obtain⟨es,ck,h1,h2⟩:=hw.ent hi;subst hH;rcases L0 h2 k with⟨q1,q2,q3⟩ | ⟨j,e,r0,q1,q2,q3,q4,_⟩
  ·refine⟨.tuple #[],_,_,?_,hw.mapset hi h1 (es':=es) (ck':=ck) (by rw[OO q3];exact h2),h⟩;simp[execOp,resolve,invoke,builtin,ha.eval hx,ha.eval hy,Builtin.delete_,run_underlying ht,MapKept.run_getObj_map h1,MapKept.run_checkKey hk (Dr _),MapKept.run_findKey hk q1,MapKept.run_setObj_map _ h1]
  ·refine⟨.tuple #[],_,_,?_,hw.mapset hi h1 (es':=es.eraseIdxIfInBounds j) (ck':=ck) (by
    have e1:(es.eraseIdxIfInBounds j).toList=es.toList.eraseIdx j:=by simp
    rw[e1];exact h2.del q2 q3),h⟩
   simp[execOp,resolve,invoke,builtin,ha.eval hx,ha.eval hy,Builtin.delete_,run_underlying ht,MapKept.run_getObj_map h1,MapKept.run_checkKey hk (Dr _),MapKept.run_findKey hk q1,MapKept.run_setObj_map _ h1])
theorem Rh {v:T}(ht:P.underlying t=some (.map kt et))(hk:P.underlying kt=some .string)(hx:ev l x=some (rv (.map (some b))))(hi:H[i]? =some (.map b (A6 enc xs)))(hy:ev l y=some (rS k))(hu:ev l u=some (enc v)){H':List Ent}(hH:H.set i (.map b (A6 enc (mset xs k v)))=H')(h:WL P n c ops Q rest l H') :
  WL P n c ops Q ({ dst:=none,op:=.mapUpdate t x y u,type:=ty,pos:=pos,after:=af,guard:=none }::rest) l H:=S5 ht hk hx hi hy hu (by rw[← Ql];exact hH) h
theorem Nz (ht:P.underlying t=some (.map kt et))(hk:P.underlying kt=some .string){kt':TypeId}(hx:ev l x=some (rv (.map (some b))))(hi:H[i]? =some (.map b (A6 enc xs)))(hy:ev l y=some (rS k)){H':List Ent}(hH:H.set i (.map b (A6 enc (mdel xs k)))=H')(h:WL P n c ops Q rest l H') :
  WL P n c ops Q ({ dst:=none,op:=.call { callee:=.builtin .delete,args:=#[x,y],argTypes:=#[t,kt'] },type:=ty,pos:=pos,after:=af,guard:=none }::rest) l H:=S6 ht hk hx hi hy (by rw[← Qn];exact hH) h
end
theorem Il {q:MapEntry→Bool}:∀{l:List MapEntry} {j:Nat} {e:MapEntry},(l.map (·.born)).Nodup→l[j]? =some e→l.filter (λx=>!(x.born ==e.born))=l.eraseIdx j
 | x::l,0,e,hn,h=>by
  simp at h;subst h;rw[Vm,List.nodup_cons] at hn;rw[List.filter_cons_of_neg (by simp),List.filter_eq_self.2 λy hy=>?_];rfl;have:y.born≠x.born:=λe=>hn.1 (by rw[← e];exact List.mem_map.2 ⟨y,hy,rfl⟩);simp[this]
 | x::l,j+1,e,hn,h=>by
  rw[Vm,List.nodup_cons] at hn;simp at h;have hne:x.born≠e.born:=λe'=>hn.1 (by rw[e'];exact List.mem_map.2 ⟨e,UE h,rfl⟩);rw[List.filter_cons_of_pos (by simp[hne]),Il (q:=q) hn.2 h];rfl
theorem Hn.erase {Z:Fz}:∀{f:List (List UInt8×Rp)} {es:List MapEntry} (j:Nat),Hn Z f es→Hn Z (f.eraseIdx j) (es.eraseIdx j)
 | [],[],j,_=>by simp[Hn]
 | p::f,e::es,0,⟨_,h⟩=>h
 | p::f,e::es,j+1,⟨h,h3⟩=>⟨h,Hn.erase j h3⟩
theorem NC {α:Type}:∀{l:List α} {j:Nat} {a:α},l[j]? =some a→l.Perm (a::l.eraseIdx j)
 | x::l,0,a,h=>by simp at h;subst h;exact U3 _
 | x::l,j+1,a,h=>by
  simp at h;exact((NC h).cons x).trans (List.Perm.swap a x _)
theorem PW {T:Type}{enc:T→Rp}{ys:List (AA×T)}{f:List (AA×Rp)}{j:Nat}{k:AA}{r:Rp}(h:f.Perm (A6 enc ys))(hj:f[j]? =some (k,r)):∃ (p:AA×T) (ys':List (AA×T)),ys.Perm (p::ys')∧p.1=k∧enc p.2=r∧(f.eraseIdx j).Perm (A6 enc ys'):=by
 have hm:(k,r)∈A6 enc ys:=h.subset (UE hj);obtain⟨p,hp,e⟩:=List.mem_map.1 hm;simp only[Prod.mk.injEq] at e;obtain⟨a,b,rfl⟩:=List.append_of_mem hp;refine⟨p,a++b,List.perm_middle,e.1,e.2,?_⟩;have h1:f.Perm ((k,r)::f.eraseIdx j):=by
  exact NC hj
 have h2:(A6 enc (a++p::b)).Perm ((k,r)::A6 enc (a++b)):=by
  have:(A6 enc (a++p::b)).Perm (A6 enc (p::(a++b))):=List.perm_middle.map _;refine this.trans ?_;show((p.1,enc p.2)::A6 enc (a++b)).Perm _;rw[e.1,e.2]
 exact((h1.symm.trans h).trans h2).cons_inv
section
variable {P : Program} {n : Nat} {c : Cx} {ops : Array Oper} {Q : Exit → Act → World → Prop} {rest : List Oper} {l : Fr} {H : List Ent} {d : Nat} {ty t kt et rty : TypeId} {pos : String} {af : Array Edge} {x y u : Operand} {K : Act → World → Prop} {cx : Code}
variable {T : Type} {enc : T → Rp} {xs ys : List (AA × T)} {i b it : Nat} {m lf : List (List UInt8 × Rp)} {cur : Option (List UInt8 × Rp)} {k : AA} {r : Rp}
theorem Js (ht:P.underlying t=some (.map kt et))(hx:ev l x=some (rv (.map (some b))))(hi:H[i]? =some (.map b m))(hn:Nat.blt d n=true)(h:∀it,WL P n c ops Q rest ((d,rv (.pointer (some ⟨it,0,none⟩)))::l) (H.set i (.mit b it m m none))) :
  WL P n c ops Q ({ dst:=some d,op:=.range t x,type:=ty,pos:=pos,after:=af,guard:=none }::rest) l H:=
 Ht (λa w Z ha hw=>by
  obtain⟨es,ck,h1,h2⟩:=hw.ent hi;have hb:b<w.heap.size:=(Array.getElem?_eq_some_iff.1 h1).1;have hf:es.toList.filter (λe=>!(#[]:Array Nat).contains e.born)=es.toList:=List.filter_eq_self.2 λ_ _=>by simp
  obtain⟨f,h4,h5⟩:=h2.2.2.2;refine⟨.pointer (some ⟨w.heap.size,0,none⟩),w.alloc (.mapIter (some b) ck #[] ck),_,_,Z,?_,Fz.le.refl _,rfl,hw.set hi rfl rfl rfl (by simp) (λk hk _=>Below.heap_alloc w _ k hk) ?_ ?_,h w.heap.size⟩
  ·simp[execOp,ha.eval hx,run_range_map w t kt et b es ck ht h1]
  ·exact⟨es,ck,#[],ck,ck,(Below.heap_alloc w _ b hb).trans h1,by simpa using heap_alloc_new w _,h2,h2.2.2.1,UI _,UI _,Nat.ne_of_lt hb,⟨f,h4,by rw[hf];exact h5⟩,trivial⟩
  ·intro k hk;simp only[Ent.foot,Vs,List.not_mem_nil,or_false] at hk;rcases hk with rfl | rfl
   ·exact .inl (by simp[Ent.foot])
   ·exact .inr (UI _)) hn
theorem KV (hx:ev l x=some (rv (.pointer (some ⟨it,0,none⟩))))(hi:H[i]? =some (.mit b it m (A6 enc ys) cur))(hn:Nat.blt d n=true)
  (h0:ys=[]→WL P n c ops Q rest ((d,D8 [rB false])::l) H)
  (h1:∀p ys',ys.Perm (p::ys')→WL P n c ops Q rest ((d,D8 [rB true,rS p.1,enc p.2])::l) (H.set i (.mit b it m (A6 enc ys') (some (p.1,enc p.2))))) :
  WL P n c ops Q ({ dst:=some d,op:=.next x false,type:=ty,pos:=pos,after:=af,guard:=none }::rest) l H:=
 Ht (λa w Z ha hw=>by
  obtain⟨es,ck,seen,since,c0,q1,q2,q3,q4,q5,q6,q7,⟨f,q8,q9⟩,_⟩:=hw.ent hi;have hlf:(leftOf es seen).toList=es.toList.filter λe=>!seen.contains e.born:=by simp[leftOf]
  rcases run_next_at (P:=P) w ty it b since c0 seen es ck q2 q1 q4 q5 with⟨r1,r2⟩ | ⟨e,r1,w1,r2,r3⟩
  ·have he:es.toList.filter (λe=>!seen.contains e.born)=[]:=by rw[← hlf];exact UO (by simpa using r1)
   rw[he] at q9;have hf:f=[]:=by cases f with
    | nil=>rfl
    | cons _ _=>exact absurd q9 id
   subst hf;have hy:ys=[]:=by
    have:=q8.length_eq;rw[G4] at this;exact UO this.symm
   exact⟨.tuple #[.bool false],w,D8 [rB false],H,Z,by simp[execOp,ha.eval hx,r2],Fz.le.refl _,⟨[.bool false],rfl,rfl,trivial⟩,hw,h0 hy⟩
  ·rw[hlf] at r1;obtain⟨j,hj⟩:=List.mem_iff_getElem?.1 r1;obtain⟨k,r,e1,e2,e3⟩:=q9.at.2 j e hj;obtain⟨p,ys',s1,s2,s3,s4⟩:=PW q8 e1;have hnl:((es.toList.filter λe=>!seen.contains e.born).map (·.born)).Nodup:=q3.2.1.sublist ((List.filter_sublist ..).map _);have hleft:es.toList.filter (λx=>!(seen.push e.born).contains x.born)=(es.toList.filter λe=>!seen.contains e.born).eraseIdx j:=by
    rw[← Il (q:=λ_=>true) hnl hj,List.filter_filter];refine List.filter_congr λx _=>?_;simp only[Array.contains_push,Bool.not_or];rw[Bool.and_comm]
   have hd:St c H Z w1:=by
    rcases r2 with rfl | rfl
    ·exact hw
    ·exact hw.drawn _
   have q2':w1.heap[it]? =some (.mapIter (some b) since seen c0):=by rcases r2 with rfl | rfl<;>exact q2
   have q1':w1.heap[b]? =some (.map es ck):=by rcases r2 with rfl | rfl<;>exact q1
   obtain⟨t1,t2⟩:=MapKept.heap_set (o':=.mapIter (some b) since (seen.push e.born) ck) q2';refine⟨.tuple #[.bool true,e.key,e.val],ChangeMaps.setBlock w1 it (.mapIter (some b) since (seen.push e.born) ck),D8 [rB true,rS p.1,enc p.2],H.set i (.mit b it m (A6 enc ys') (some (p.1,enc p.2))),Z,by simp[execOp,ha.eval hx,r3],Fz.le.refl _,⟨[.bool true,e.key,e.val],rfl,rfl,?_,?_,trivial⟩,hd.set hi rfl rfl rfl (by simp[ChangeMaps.setBlock]) (λk' _ hk'=>t2 k' (λe'=>hk' (by simp[Ent.foot,e']))) ?_ (λk' hk'=>.inl (by simpa[Ent.foot] using hk')),h1 p ys' s1⟩
   ·show e.key = .string (B p.1);rw[s2];exact e2
   ·rw[s3];exact e3
   ·exact⟨es,ck,seen.push e.born,since,ck,(t2 b q7).trans q1',t1,q3,q4,Nat.le_trans q5 q6,UI _,q7,⟨f.eraseIdx j,s4,by rw[hleft];exact q9.erase j⟩,rfl,seen,e,rfl,(List.mem_filter.1 r1).1,by rw[s2];exact e2,by rw[s3];exact e3⟩) hn
theorem St.unmit {Z:Fz}{w:World}(h:St c H Z w)(hi:H[i]? =some (.mit b it m lf cur)):St c (H.set i (.map b m)) Z w:=by
 obtain⟨es,ck,seen,since,c0,q1,q2,q3,_⟩:=h.ent hi;exact h.set hi rfl rfl rfl (UI _) (λ_ _ _=>rfl) ⟨es,ck,q1,q3⟩ (by simp[Ent.foot])
theorem WK.unmit (hi:H[i]? =some (.mit b it m lf cur))(h:WK n c K l (H.set i (.map b m))):WK n c K l H:=λa w Z ha hw=>h a w Z ha (hw.unmit hi)
theorem WC.unmit (hi:H[i]? =some (.mit b it m lf cur))(h:WC P n c cx Q l (H.set i (.map b m))):WC P n c cx Q l H:=λa w Z ha hw=>h a w Z ha (hw.unmit hi)
theorem WL.unmit (hi:H[i]? =some (.mit b it m lf cur))(h:WL P n c ops Q rest l (H.set i (.map b m))):WL P n c ops Q rest l H:=λa w Z ha hw=>h a w Z ha (hw.unmit hi)
theorem St.uncur {Z:Fz}{w:World}(h:St c H Z w)(hi:H[i]? =some (.mit b it m lf cur)):St c (H.set i (.mit b it m lf none)) Z w:=by
 obtain⟨es,ck,seen,since,c0,q1,q2,q3,q4,q5,q6,q7,q8,_⟩:=h.ent hi;exact h.set hi rfl rfl rfl (UI _) (λ_ _ _=>rfl) ⟨es,ck,seen,since,c0,q1,q2,q3,q4,q5,q6,q7,q8,trivial⟩ (λk hk=>.inl (by simpa[Ent.foot] using hk))
theorem WK.uncur (hi:H[i]? =some (.mit b it m lf cur))(h:WK n c K l (H.set i (.mit b it m lf none))):WK n c K l H:=λa w Z ha hw=>h a w Z ha (hw.uncur hi)
theorem J1 {dd:Option Nat}{g:Option (Nat×Bool)}(hx:ev l x=some (rv (.pointer (some ⟨it,0,none⟩))))(hi:H[i]? =some (.mit b it m lf (some (k,r)))) :
  Bi P n c l H { dst:=dd,op:=.entry x,type:=ty,pos:=pos,after:=af,guard:=g } (D8 [rS k,r]):=λa w Z ha hw=>by
 obtain⟨es,ck,seen,since,c0,q1,q2,q3,q4,q5,q6,q7,q8,rfl,s0,e,rfl,h1,h2,h3⟩:=hw.ent hi;exact⟨.tuple #[e.key,e.val],⟨[e.key,e.val],rfl,h2,h3,trivial⟩,by simp[execOp,ha.eval hx,run_entry_at w it b since s0 es c0 e q2 q1 h1 q3.2.1]⟩
end
section
variable {P : Program} {n : Nat} {c : Cx} {opsA : Array Oper} {Q : Exit → Act → World → Prop} {l : Fr} {H : List Ent} {d : Nat} {ty : TypeId} {pos : String} {af : Array Edge}
theorem Qa {f:FuncId}{args:List Operand}{ats:Array TypeId}{rs:List Rp}{r:Rp}{Hin Hout Hr:List Ent}(hcall:∀(as1:Array Value) (w:World),(callFunc f as1).run P w = .ok (.enter f as1) w)(hv:Jm l args=some rs)
  (hp:H.Perm (Hin++Hr)) (hc:Fn P c.E f rs Hin (λr' H'=>r'=r∧H'=Hout)) {H':List Ent} (hH:Hout++Hr=H'):CJ P n c opsA Q l H { dst:=some d,op:=.call { callee:=.value (.func f),args:=args.toArray,argTypes:=ats },type:=ty,pos:=pos,after:=af,guard:=none } r H':=λa w Z K ha hw hK=>
 ⟨λ_=>by
  subst hH;unfold Oper.wp;rw[DD rfl hcall w];refine(hc w Z _ (EE ha hv) (hw.perm hp).enter).mono ?_;rintro e w' ⟨r2,v,Ho,Z',rfl,⟨rfl,rfl⟩,hr2,hs⟩;exact hK v w' Z' hs.le hr2 ((hw.perm hp).call hs),λh=>by simp[Region.wanted] at h⟩
theorem PZ {f:FuncId}{args:List Operand}{ats:Array TypeId}{rs:List Rp}{r:Rp}{Hin Hr:List Ent}(hcall:∀(as1:Array Value) (w:World),(callFunc f as1).run P w = .ok (.enter f as1) w)(hv:Jm l args=some rs)
  (hp:H.Perm (Hin++Hr)) (hc:Fn P c.E f rs Hin (λr' H'=>r'=r∧H'=Hin)):CJ P n c opsA Q l H { dst:=some d,op:=.call { callee:=.value (.func f),args:=args.toArray,argTypes:=ats },type:=ty,pos:=pos,after:=af,guard:=none } r H:=λa w Z K ha hw hK=>
 Qa (Hout:=Hin) hcall hv hp hc rfl a w Z K ha hw (λv w' Z' hz hr hs=>hK v w' Z' hz hr (hs.perm hp.symm))
theorem OE {f:FuncId}{args:List Operand}{ats:Array TypeId}{rs:List Rp}{r:Rp}{Hin Hr E:List Ent}(hcall:∀(as1:Array Value) (w:World),(callFunc f as1).run P w = .ok (.enter f as1) w)(hv:Jm l args=some rs)
  (hp:H.Perm (Hin++Hr)) (hc:Fn P c.E f rs Hin (λr' H'=>r'=r∧H'=Hin)):CJ P n c opsA Q l (H++E) { dst:=some d,op:=.call { callee:=.value (.func f),args:=args.toArray,argTypes:=ats },type:=ty,pos:=pos,after:=af,guard:=none } r (H++E):=
 PZ (Hin:=Hin) (Hr:=Hr++E) hcall hv (by rw[← Vg];exact hp.append_right E) hc
end
section
variable {P : Program} {n : Nat} {c : Cx} {ops : Array Oper} {Q : Exit → Act → World → Prop} {rest : List Oper} {l : Fr} {H H' : List Ent} {d : Nat} {d' : Option Nat} {x y z3 : Operand} {ty t t' e : TypeId} {pos : String} {af : Array Edge} {g : Option (Nat × Bool)} {v u : Value} {r : Rp} {sz : Nat}
end
theorem AP.d1 {Z:Fz}{r0:Rp}{us:List Value}(h:AP Z [r0] us):∃y0,us=[y0]∧AP Z [r0] [y0]:=by
 match us,h.length with
 | [y0],_=>exact⟨_,rfl,h⟩
theorem AP.d2 {Z:Fz}{r0 r1:Rp}{us:List Value}(h:AP Z [r0,r1] us):∃y0 y1,us=[y0,y1]∧AP Z [r0,r1] [y0,y1]:=by
 match us,h.length with
 | [y0,y1],_=>exact⟨_,_,rfl,h⟩
theorem AP.d3 {Z:Fz}{r0 r1 r2:Rp}{us:List Value}(h:AP Z [r0,r1,r2] us):∃y0 y1 y2,us=[y0,y1,y2]∧AP Z [r0,r1,r2] [y0,y1,y2]:=by
 match us,h.length with
 | [y0,y1,y2],_=>exact⟨_,_,_,rfl,h⟩
theorem AP.d4 {Z:Fz}{r0 r1 r2 r3:Rp}{us:List Value}(h:AP Z [r0,r1,r2,r3] us):∃y0 y1 y2 y3,us=[y0,y1,y2,y3]∧AP Z [r0,r1,r2,r3] [y0,y1,y2,y3]:=by
 match us,h.length with
 | [y0,y1,y2,y3],_=>exact⟨_,_,_,_,rfl,h⟩
theorem AP.d7 {Z:Fz}{r0 r1 r2 r3 r4 r5 r6:Rp}{us:List Value}(h:AP Z [r0,r1,r2,r3,r4,r5,r6] us):∃y0 y1 y2 y3 y4 y5 y6,us=[y0,y1,y2,y3,y4,y5,y6]∧AP Z [r0,r1,r2,r3,r4,r5,r6] [y0,y1,y2,y3,y4,y5,y6]:=by
 match us,h.length with
 | [y0,y1,y2,y3,y4,y5,y6],_=>exact⟨_,_,_,_,_,_,_,rfl,h⟩
theorem M6 {α:Type}{sz:Nat}:∀{xs:List (List α)} (hs:∀c∈xs,c.length=sz) {k:Nat} {cl:List α},xs[k]? =some cl→∀(off m:Nat),off+m≤sz→((xs.flatten).drop (k*sz+off)).take m=(cl.drop off).take m
 | [],_,k,cl,h,_,_,_=>by simp at h
 | x::r,hs,0,cl,h,off,m,hm=>by
  simp at h;subst h;have hx:=hs x (by simp);simp only[List.flatten_cons,Nat.zero_mul,UZ];rw[List.drop_append_of_le_length (by omega),List.take_append_of_le_length (by simp;omega)]
 | x::r,hs,k+1,cl,h,off,m,hm=>by
  have hx:=hs x (by simp);simp only[List.flatten_cons];have e:(k+1)*sz+off=x.length+(k*sz+off):=by rw[hx,Nat.succ_mul];omega
  rw[e,List.drop_length_add_append];exact M6 (λc hc=>hs c (by simp[hc])) (by simpa using h) off m hm
section
variable {P : Program} {n : Nat} {c : Cx} {ops : Array Oper} {Q : Exit → Act → World → Prop} {rest : List Oper} {l : Fr} {H H' : List Ent} {d : Nat} {d' : Option Nat} {ty t e rty : TypeId} {pos : String} {af : Array Edge} {g : Option (Nat × Bool)} {x y u : Operand} {v : Value} {sz m : Nat}
theorem NH {α:Type}[Inhabited α]{ys:List α}{enc:α→List Rp}{i off:Nat}{j:Int}{rs:List Rp}(hag:∀w,(isAgg t).run P w = .ok true w)(hsz:∀w,(sizeOf t).run P w = .ok m w)(hx:ev l x=some (rv (DP sz v j.toNat off)))(hi:H[i]? =some (.row v e sz (ys.map enc)))(hg:C2 j (ys.length:Int)=true)
  (hle:Nat.ble (off+m) sz=true) (hr:((enc (Ac ys j)).drop off).take m=rs) :
  Bi P n c l H { dst:=d',op:=.load t x,type:=ty,pos:=pos,after:=af,guard:=g } (Bu rs):=λa w Z ha hw=>by
 obtain⟨hs,us,⟨h1,h2⟩,h3⟩:=hw.ent hi;have h0:=(Bl hg).1;have hlt:j.toNat<ys.length:=by have:=(Bl hg).2;omega
 have eat:Ac ys j=ys[j.toNat]:=by simp[Ac,hlt]
 have hle':off+m≤sz:=by simpa using hle
 have hcl:(ys.map enc)[j.toNat]? =some (enc ys[j.toNat]):=by simp[hlt]
 have hcz:(enc ys[j.toNat]).length=sz:=hs _ (UE hcl);have hseg:=M6 hs hcl off m hle';rw[← eat,hr] at hseg;have h4:=(h3.drop (j.toNat*sz+off)).take m;rw[hseg] at h4;have hrl:rs.length=m:=by rw[← hr,eat];simp;omega
 rcases h2 with⟨rfl,hz⟩ | ⟨b,cap,cur,rfl,_,hg',hcap,hm,hcs,htk⟩
 ·simp at hz;subst hz;simp at hlt
 ·have h5:=run_loadCells_list (P:=P) w ⟨b,j.toNat*sz+off,none⟩ ((us.drop (j.toNat*sz+off)).take m) (λq w' hq=>by
   rw[Hb,cell_of_row w b _ cur e (0,0) hg'];rw[Vh] at hq
   split at hq
   ·rw[List.getElem?_drop,← htk,Vh] at hq
    split at hq
    ·simpa using hq
    ·cases hq
   ·cases hq)
  rw[h4.length,hrl] at h5;exact⟨.agg ((us.drop (j.toNat*sz+off)).take m).toArray,⟨_,rfl,h4⟩,by simp[execOp,ha.eval hx,DP,Instr.loadAt,Instr.sureAddr,loadVar,hag,hsz,h5]⟩
end
end Go.Proofs.YthbbedliepkakaaGreatDoor.Q
namespace Go.Proofs.YthbbedliepkakaaGreatDoor
open Go
end Go.Proofs.YthbbedliepkakaaGreatDoor
namespace Go.Proofs.YthbbedliepkakaaGreatDoor.Q
open Go Go.RowKit
set_option linter.unusedVariables false
set_option linter.unusedSimpArgs false
section
variable {P : Program} {n : Nat} {c : Cx} {Q : Exit → Act → World → Prop} {l : Fr} {H : List Ent} {x rest' : Code} {K : Act → World → Prop}
end
section
variable {P : Program} {n : Nat} {c : Cx} {ops : Array Oper} {Q : Exit → Act → World → Prop} {rest : List Oper} {l : Fr} {H H' : List Ent} {d : Nat} {d' : Option Nat} {x y z3 z4 : Operand} {ty t t' e : TypeId} {pos : String} {af : Array Edge} {g : Option (Nat × Bool)} {v u : Value} {r : Rp} {sz : Nat}
end
structure Sx (U:Type) where
 deps:List Nat
 r:U→Rp
 dyn:Bool:=false
 old:List Nat:=[]
def Eo {U:Type}(sp:List (Sx U))(i:Nat):Sx U:=sp.getD i { deps:=[],r:=λ_=>rv undef }
def Po {U:Type}(sp:List (Sx U))(u:U):List Sp:=sp.map λs=>⟨s.deps,s.r u,0⟩
def Tz {U:Type}(sp:List (Sx U))(u:U):List Sa:=sp.map λs=>{ deps:=s.deps,r:=s.r u }
def Ki {U:Type}:List (Sx U)→Prop
 | []=>True
 | s::r=>(s.dyn=false→∀u u',s.r u=s.r u')∧Ki r
theorem Ki.at {U:Type}:∀{sp:List (Sx U)},Ki sp→∀{i:Nat} {s:Sx U},sp[i]? =some s→s.dyn=false→∀u u',s.r u=s.r u'
 | [],_,i,s,h=>by simp at h
 | x::sp,⟨h1,h2⟩,0,s,h=>by simp at h;subst h;exact h1
 | x::sp,⟨h1,h2⟩,i+1,s,h=>Ki.at h2 (by simpa using h)
theorem TY {U:Type}{ds os:List Nat}{r:Rp}{sp:List (Sx U)}(h:Ki sp):Ki ({ deps:=ds,r:=λ_=>r,old:=os }::sp):=⟨λ_ _ _=>rfl,h⟩
theorem TX {U:Type}{ds os:List Nat}{r:U→Rp}{sp:List (Sx U)}(h:Ki sp):Ki ({ deps:=ds,r:=r,dyn:=true,old:=os }::sp):=⟨λh'=>(by cases h'),h⟩
def DZ (lw:Fr):List Nat→Fr→Fr
 | [],l=>l
 | d::r,l=>match look lw d with
  | some q=>(d,q)::DZ lw r l
  | none=>DZ lw r l
theorem Oa {n:Nat}{lw l:Fr}{a:Act}{Z:Fz}(h0:BZ n l a Z):∀{ds:List Nat},(∀d∈ds,∀q,look lw d=some q→∃v,a.tmps[d]? =some v∧q.p Z v)→BZ n (DZ lw ds l) a Z
 | [],_=>h0
 | d::ds,h=>by
  have ih:=Oa h0 (ds:=ds) (λd' hd'=>h d' (by simp[hd']));unfold DZ
  cases hd:look lw d with
  | none=>exact ih
  | some q=>
   refine⟨ih.size,ih.defers,λi r hi=>?_⟩;rw[B4] at hi
   split at hi
   ·rename_i e;subst e;simp at hi;subst hi;exact h d (by simp) q hd
   ·exact ih.tm i r hi
theorem TW {U:Type}:Ki ([]:List (Sx U)):=trivial
def Ub (n:Nat)(ops:List Oper)(N i0:Nat)(keys:List Nat)(deps:List (List Nat))(dyns:List Bool)(olds:List (List Nat)):Bool:=
 L7 ops N&&decide (N≤ops.length)&&decide (i0<N)&&
 (List.range N).all (λi=>match BO ops i with
  | some d=>decide (d<n)&&!keys.contains d&&(List.range N).all (λj=>j ==i||BO ops j !=some d)
  | none=>true)&&
 (List.range N).all (λi=>(deps.getD i []).all (λj=>decide (j<N)&&(Du (ops.getD i default)).contains j))&&
 (List.range N).all (λi=>!dyns.getD i false||i ==i0||(Du (ops.getD i default)).any (λe=>decide (e<N)&&(e ==i0||dyns.getD e false)))&&
 (List.range N).all (λi=>(olds.getD i []).all (λd=>(List.range N).all (λw=>BO ops w !=some d||(Du (ops.getD w default)).contains i)))
section
variable (P : Program) (n : Nat) (c : Cx) (opsA : Array Oper) (Q : Exit → Act → World → Prop)
def TR {U:Type}(l:Fr)(H:List Ent)(o:Oper)(r:U→Rp)(H1:U→List Ent):Prop:=
 ∀a w Z (K:Act→World→Prop),BZ n l a Z→St c H Z w→(∀u v w' Z',Fz.le Z Z'→(r u).p Z' v→St c (H1 u) Z' w'→K (a.put o.dst v) w')→
  Region.wanted o (yielded opsA a.tmps)=true∧o.wp P a w K Q
def HC {U:Type}(ops:List Oper)(sp:List (Sx U))(l0 lw:Fr)(i0:Nat)(H:List Ent)(H1:U→List Ent):Nat→List Oper→Prop
 | i,o::rest=>(if i=i0 then(∀u,TR P n c opsA Q (DZ lw (Eo sp i).old (Br ops (Po sp u) (Eo sp i).deps l0)) H o (Eo sp i).r H1) else ∀u H',(H'=H∨H'=H1 u)→CJ P n c opsA Q (DZ lw (Eo sp i).old (Br ops (Po sp u) (Eo sp i).deps l0)) H' o ((Eo sp i).r u) H')∧HC ops sp l0 lw i0 H H1 (i+1) rest
 | _,[]=>True
end
section
variable {P : Program} {n : Nat} {c : Cx} {opsA : Array Oper} {Q : Exit → Act → World → Prop} {l l0 lw : Fr} {U : Type} {H : List Ent} {H1 : U → List Ent} {sp : List (Sx U)} {i0 : Nat}
theorem HC.at {ops:List Oper}:∀{k:Nat} {rest:List Oper},HC P n c opsA Q ops sp l0 lw i0 H H1 k rest→∀(t:Nat) o,rest[t]? =some o→
  (if k+t=i0 then(∀u,TR P n c opsA Q (DZ lw (Eo sp (k+t)).old (Br ops (Po sp u) (Eo sp (k+t)).deps l0)) H o (Eo sp (k+t)).r H1) else ∀u H',(H'=H∨H'=H1 u)→CJ P n c opsA Q (DZ lw (Eo sp (k+t)).old (Br ops (Po sp u) (Eo sp (k+t)).deps l0)) H' o ((Eo sp (k+t)).r u) H')
 | k,o::rest,⟨h1,h2⟩,t,o',ht=>by
  cases t with
  | zero=>simp at ht;subst ht;exact h1
  | succ t=>
   have:=HC.at h2 t o' (by simpa using ht);rw[show k+(t+1)=k+1+t from by omega];exact this
 | _,[],_,t,o,h=>by simp at h
theorem Rb {id:Nat}{ops:List Oper}[Inhabited U](N i0:Nat)(sp:List (Sx U))(hm:P.follows .mixedOrders=true)(hB:Ub n ops N i0 (D2 l0) (sp.map (·.deps)) (sp.map (·.dyn)) (sp.map (·.old))=true)(hl0:Pg l0 l)(hlw:Pg lw l)(hsp:sp.length=N)(hst:Ki sp)
  (hob:HC P n c ops.toArray Q ops sp l0 lw i0 H H1 0 (ops.take N)) (h:∀u,WL P n c ops.toArray Q (ops.drop N) (Je (λ_=>0) (ops.take N) (Tz sp u) 0 l0) (H1 u)):WC P n c (.region id ops.toArray true) Q l H:=by
 intro a w Z ha hw;simp only[Ub,U6,UR,List.mem_range,U2] at hB;obtain⟨⟨⟨⟨⟨⟨b1,bN⟩,b0⟩,b2⟩,b3⟩,b4⟩,b5⟩:=hB;have hget:∀i,i<N→(ops.take N)[i]? =ops[i]?:=λi hi=>by rw[Vh,UM hi]
 have hsa:∀i,i<N→sp[i]? =some (Eo sp i):=λi hi=>by
  simp[Eo,U8,U5 (show i<sp.length by omega)]
 have hspq:∀u i,i<N→(C5 (Po sp u) i)=⟨(Eo sp i).deps,(Eo sp i).r u,0⟩:=λu i hi=>by
  simp[C5,Po,U8,Vf,hsa i hi]
 have hdyn:∀j,j<N→(sp.map (·.dyn)).getD j false=(Eo sp j).dyn:=λj hj=>by simp[U8,Vf,hsa j hj]
 have hdep:∀j,j<N→(sp.map (·.deps)).getD j []=(Eo sp j).deps:=λj hj=>by simp[U8,Vf,hsa j hj]
 have hops:∀j,j<N→∃o,ops[j]? =some o:=λj hj=>⟨ops[j]'(by omega),U5 (by omega)⟩
 have hdst:∀i o d,i<N→ops[i]? =some o→o.dst=some d→(d<n∧d ∉ D2 l0)∧∀j,j<N→j≠i→BO ops j≠some d:=λi o d hi ho hd=>by
  have h3:=b2 i hi;have:BO ops i=some d:=by simp[BO,ho,hd]
  rw[this] at h3;simp only[U6,UK,UR,List.mem_range,U2] at h3;refine⟨⟨h3.1.1,λhmem=>by rw[← List.contains_iff_mem] at hmem;rw[hmem] at h3;cases h3.1.2⟩,λj hj hne he=>?_⟩;have:=h3.2 j hj;simp[hne,he] at this
 refine Px (N:=N) hm b1 bN (λS a w=>∃ (u:U) (Z:Fz),St c (if S i0=true then H1 u else H) Z w∧BZ n l0 a Z∧(∀j o d,j<N→S j=true→ops[j]? =some o→o.dst=some d→∃v,a.tmps[d]? =some v∧((Eo sp j).r u).p Z v)∧
   (∀j,j<N→(Eo sp j).dyn=true→S j=true→S i0=true)∧
   (∀d q,look lw d=some q→(∀wr,wr<N→BO ops wr=some d→S wr=false)→∃v,a.tmps[d]? =some v∧q.p Z v)∧
   ∀wr i d,wr<N→i<N→BO ops wr=some d→d∈(Eo sp i).old→S wr=true→S i=true)
  (λS S' a w hS hI=>?_) ⟨default,Z,?_,ha.subL hl0,λj o d _ hS=>(by cases hS),λj _ _ hS=>(by cases hS),λd q hd _=>(ha.subL hlw).tm d q hd,λwr i d _ _ _ _ hS=>(by cases hS)⟩ (λS i o a w hi hun ho hb hI K hK=>?_) (λa w hI=>?_)
 ·obtain⟨u,Z,h1,h2,h3,h4,h5,h6⟩:=hI;refine⟨u,Z,?_,h2,λj o d hj hS'=>h3 j o d hj (by rw[hS j hj];exact hS'),λj hj hd hSj=>?_,λd q hd hw'=>h5 d q hd (λwr hwr hdw=>by rw[hS wr hwr];exact hw' wr hwr hdw),λwr i d hwr hi hdw hold hSw=>by rw[← hS i hi];exact h6 wr i d hwr hi hdw hold (by rw[hS wr hwr];exact hSw)⟩
  ·rw[← hS i0 b0];exact h1
  ·rw[← hS i0 b0];exact h4 j hj hd (by rw[hS j hj];exact hSj)
 ·exact hw.drawn _
 ·obtain⟨u,Z,h1,h2,h3,hx,ho5,ho6⟩:=hI;have hput:∀k u v,a.tmps[k]? =some u→o.dst≠some k→(a.put o.dst v).tmps[k]? =some u:=λk u v hk hne=>by
   cases hd:o.dst with
   | none=>simpa[Act.put] using hk
   | some d=>
    simp only[Act.put,Array.getElem?_setIfInBounds];rw[UD (λe=>hne (by rw[hd,e]))];exact hk
  have hagr:∀v Z',Fz.le Z Z'→BZ n l0 (a.put o.dst v) Z':=λv Z' hz=>by
   refine⟨?_,?_,λk r hk=>?_⟩
   ·cases o.dst<;>simp[Act.put,h2.size]
   ·cases o.dst<;>simp[Act.put,h2.defers]
   ·obtain⟨u,hu,hpu⟩:=h2.tm k r hk;exact⟨u,hput k u v hu (λe=>((hdst i o k hi ho e).1).2 (Ig hk)),r.mono hz hpu⟩
  have hvals:∀(v:Value) (Z':Fz) (u':U),Fz.le Z Z'→(∀j,j<N→j≠i→S j=true→(Eo sp j).r u'=(Eo sp j).r u)→(o.dst≠none→((Eo sp i).r u').p Z' v)→∀j o' d,j<N→(j ==i||S j)=true→ops[j]? =some o'→o'.dst=some d→∃q,(a.put o.dst v).tmps[d]? =some q∧((Eo sp j).r u').p Z' q:=by
   intro v Z' u' hz hβ hp j o' d hj hS' ho' hd
   by_cases hji:j=i
   ·subst hji;rw[ho] at ho';simp at ho';subst ho';refine⟨v,?_,hp (by simp[hd])⟩;have hdn:d<a.tmps.size:=by rw[h2.size];exact(hdst j o d hi ho hd).1.1
    simp[Act.put,hd,hdn]
   ·have hSj:S j=true:=by simpa[hji] using hS'
    obtain⟨q,hu,hpu⟩:=h3 j o' d hj hSj ho' hd;refine⟨q,hput d q v hu (λe=>(hdst i o d hi ho e).2 j hj hji (by simp[BO,ho',hd])),?_⟩;rw[hβ j hj hji hSj];exact((Eo sp j).r u).mono hz hpu
  have hat:=hob.at i o (by rw[hget i hi];exact ho);rw[UZ] at hat;have hold':∀Z',Fz.le Z Z'→∀v d q,look lw d=some q→(∀wr,wr<N→BO ops wr=some d→(wr ==i||S wr)=false)→∃v',(a.put o.dst v).tmps[d]? =some v'∧q.p Z' v':=λZ' hz v d q hd hw'=>by
   obtain⟨v',e1,e2⟩:=ho5 d q hd (λwr hwr hdw=>by have:=hw' wr hwr hdw;simp only[UY] at this;exact this.2);refine⟨v',hput d v' v e1 (λe=>?_),q.mono hz e2⟩;have:=hw' i hi (by simp[BO,ho,e]);simp at this
  have hord:∀wr k d,wr<N→k<N→BO ops wr=some d→d∈(Eo sp k).old→(wr ==i||S wr)=true→(k ==i||S k)=true:=λwr k d hwr hk hdw hmem hSw=>by
   by_cases hwi:wr=i
   ·subst hwi;have h7:=b5 k hk d (by simpa[U8,Vf,hsa k hk] using hmem) wr hwr;simp only[UV,bne_iff_ne,ne_eq,hdw,not_true_eq_false,false_or] at h7;rw[U8,ho,UP,List.contains_iff_mem] at h7;simp[(hb k h7).2]
   ·have:S k=true:=ho6 wr k d hwr hk hdw hmem (by simpa[hwi] using hSw);simp[this]
  have hag':BZ n (DZ lw (Eo sp i).old (Br ops (Po sp u) (Eo sp i).deps l0)) a Z:=Oa (Is h2 (λj hj d hd=>by
    obtain⟨h5,h6⟩:=b3 i hi j (by rw[hdep i hi];exact hj);rw[U8,ho,UP,List.contains_iff_mem] at h6;obtain⟨o2,ho2⟩:=hops j h5;obtain⟨v,hv1,hv2⟩:=h3 j o2 d h5 (hb j h6).2 ho2 (by simpa[BO,ho2] using hd);refine⟨v,hv1,?_⟩;rw[hspq u j h5];exact hv2)) (λd hd q hq=>ho5 d q hq (λwr hwr hdw=>by
     cases hS:S wr with
     | false=>rfl
     | true=>have:=ho6 wr i d hwr hi hdw hd hS;rw[this] at hun;cases hun))
  by_cases hi0:i=i0
  ·subst hi0;rw[UM rfl] at hat;rw[hun] at h1;have h1':St c H Z w:=by simpa using h1
   have key:=λK' hK'=>hat u a w Z K' hag' h1' hK';have h5:∀u' v w' Z',Fz.le Z Z'→((Eo sp i).r u').p Z' v→St c (H1 u') Z' w'→K (a.put o.dst v) w':=λu' v w' Z' hz hpv hs'=>by
    refine hK _ _ ⟨u',Z',by simpa using hs',hagr v Z' hz,hvals v Z' u' hz (λj hj hji hSj=>?_) (λ_=>hpv),λj _ _ _=>by simp,hold' Z' hz v,hord⟩;refine hst.at (hsa j hj) ?_ u' u
    cases hd:(Eo sp j).dyn with
    | false=>rfl
    | true=>have:=hx j hj hd hSj;rw[this] at hun;cases hun
   refine⟨λ_=>(key K h5).2,λhw'=>?_⟩;rw[(key K h5).1] at hw';cases hw'
  ·rw[UD hi0] at hat;refine hat u _ (by split;exact .inr rfl;exact .inl rfl) a w Z K hag' h1 (λv w' Z' hz hp hst'=>hK _ _ ⟨u,Z',?_,hagr v Z' hz,hvals v Z' u hz (λ_ _ _ _=>rfl) (λ_=>hp),λj hj hd hSj=>?_,hold' Z' hz v,hord⟩)
   ·have hiS:(i0 ==i||S i0)=S i0:=by
     have:(i0 ==i)=false:=by simpa using λe=>hi0 e.symm
     rw[this];rfl
    show St c (if (i0 ==i||S i0)=true then H1 u else H) Z' w';rw[hiS];exact hst'
   ·have hii:(i0 ==i)=false:=by simpa using λe=>hi0 e.symm
    show(i0 ==i||S i0)=true;rw[hii,UH]
    by_cases hji:j=i
    ·subst hji;have h7:=b4 j hj;rw[hdyn j hj,hd] at h7;simp only[UC,UH,UV,beq_iff_eq,hi0,false_or,List.any_eq_true,U6,U2] at h7;obtain⟨e,he,heN,h8⟩:=h7;rw[U8,ho,UP] at he;have hSe:=(hb e he).2;rcases h8 with h8 | h8
     ·subst h8;exact hSe
     ·rw[hdyn e heN] at h8;exact hx e heN h8 hSe
    ·exact hx j hj hd (by simpa[hji] using hSj)
 ·obtain⟨u,Z,h1,h2,h3,_,_,_⟩:=hI;have hsl:(Tz sp u).length=N:=by simp[Tz,hsp]
  refine h u a w Z (LB h2 _ _ 0 (λt o s d ht hs hd=>?_)) (by simpa using h1);have htN:t<N:=by have:=(List.getElem?_eq_some_iff.1 hs).1;omega
  have hs':s = { deps:=(Eo sp t).deps,r:=(Eo sp t).r u }:=by
   simp only[Tz,Vf,hsa t htN,Option.map_some,Option.some.injEq] at hs;exact hs.symm
  subst hs';rw[UZ];exact h3 t o d htN rfl (by rw[← hget t htN];exact ht) hd
theorem S3 [Inhabited U]{id:Nat}{ops:List Oper}(N i0:Nat)(ks0 ksw:List Nat)(sp:List (Sx U))(H1:U→List Ent)(hob:HC P n c ops.toArray Q ops sp l0 lw i0 H H1 0 (ops.take N))(h:∀u,WL P n c ops.toArray Q (ops.drop N) (Je (λ_=>0) (ops.take N) (Tz sp u) 0 l0) (H1 u))
  (h0:Kp ks0 l l0:=by repeat (first | exact Ku | (apply ID;rfl) | (apply Jl;rfl))) (hw:Kp ksw l lw:=by repeat (first | exact Ku | (apply ID;rfl) | (apply Jl;rfl))) (hm:P.follows .mixedOrders=true:=by kernel_rfl) (hB:Ub n ops N i0 (D2 l0) (sp.map (·.deps)) (sp.map (·.dyn)) (sp.map (·.old))=true:=by kernel_rfl)
  (hsp:sp.length=N:=by rfl) (hst:Ki sp:=by repeat (first | exact TW | apply TY | apply TX)):WC P n c (.region id ops.toArray true) Q l H:=Rb N i0 sp hm hB h0.one hw.one hsp hst hob h
theorem T0 {all rest:List Oper}{d:Nat}{op:Op}{ty:TypeId}{pos:String}{af:Array Edge}{i:Nat}(hr:∀{u H},Bi P n c (DZ lw (Eo sp i).old (Br all (Po sp u) (Eo sp i).deps l0)) H { dst:=some d,op:=op,type:=ty,pos:=pos,after:=af,guard:=none } ((Eo sp i).r u))(h:HC P n c opsA Q all sp l0 lw i0 H H1 (i+1) rest)(hne:Nat.beq i i0=false:=by rfl) :
  HC P n c opsA Q all sp l0 lw i0 H H1 i ({ dst:=some d,op:=op,type:=ty,pos:=pos,after:=af,guard:=none }::rest):=by
 refine⟨?_,h⟩;rw[UD (λe=>by subst e;simp at hne)];exact λu H _=>GZ hr
theorem Uu {all rest:List Oper}{o:Oper}{i:Nat}(hr:∀{u H},CJ P n c opsA Q (DZ lw (Eo sp i).old (Br all (Po sp u) (Eo sp i).deps l0)) H o ((Eo sp i).r u) H)(h:HC P n c opsA Q all sp l0 lw i0 H H1 (i+1) rest)(hne:Nat.beq i i0=false:=by rfl):HC P n c opsA Q all sp l0 lw i0 H H1 i (o::rest):=by
 refine⟨?_,h⟩;rw[UD (λe=>by subst e;simp at hne)];exact λu H _=>hr
theorem TN {all rest:List Oper}{o:Oper}{i:Nat}(hr:∀{u},CJ P n c opsA Q (DZ lw (Eo sp i).old (Br all (Po sp u) (Eo sp i).deps l0)) H o ((Eo sp i).r u) H)(hr1:∀{u},CJ P n c opsA Q (DZ lw (Eo sp i).old (Br all (Po sp u) (Eo sp i).deps l0)) (H1 u) o ((Eo sp i).r u) (H1 u))(h:HC P n c opsA Q all sp l0 lw i0 H H1 (i+1) rest)(hne:Nat.beq i i0=false:=by rfl):HC P n c opsA Q all sp l0 lw i0 H H1 i (o::rest):=by
 refine⟨?_,h⟩;rw[UD (λe=>by subst e;simp at hne)];intro u H' hH';rcases hH' with e | e
 ·subst e;exact hr
 ·subst e;exact hr1
theorem Us {all rest:List Oper}{o:Oper}(hr:∀{u},TR P n c opsA Q (DZ lw (Eo sp i0).old (Br all (Po sp u) (Eo sp i0).deps l0)) H o (Eo sp i0).r H1)(h:HC P n c opsA Q all sp l0 lw i0 H H1 (i0+1) rest):HC P n c opsA Q all sp l0 lw i0 H H1 i0 (o::rest):=by
 refine⟨?_,h⟩;rw[UM rfl];exact λu=>hr
theorem Ut {all:List Oper}{i:Nat}:HC P n c opsA Q all sp l0 lw i0 H H1 i []:=trivial
end
section
variable {P : Program} {n : Nat} {c : Cx} {opsA : Array Oper} {Q : Exit → Act → World → Prop} {l : Fr} {H : List Ent} {d : Nat} {x y : Operand} {ty t e : TypeId} {pos : String} {af : Array Edge} {v : Value} {sz : Nat}
theorem Pw {α:Type}{xs ys:List α}{enc:α→List Rp}{i:Nat}{inf:TypeInfo}{z:Value}{bytes:Nat}(ht:P.underlying t=some (.slice e))(hinf:P.info? e=some inf)(hz:inf.zero=some z)(hsize:inf.size=sz)(hby:inf.bytes=bytes)(hzs:z.cells.size=sz)(hsz:Nat.blt 0 sz=true)(hbp:Nat.blt 0 bytes=true)
  (hx:ev l x=some (rv v)) (hi:H[i]? =some (.row v e sz (xs.map enc))) (hy:MJ P n c l H y sz ys.length (ys.map enc).flatten) (henc:∀z,(enc z).length=sz) (hone:∀z,(enc z).all (·.one)=true) (hg:JX bytes (xs.length+ys.length)=true) :
  TR P n c opsA Q l H { dst:=some d,op:=.call { callee:=.builtin .append,args:=#[x,y],argTypes:=#[t,t] },type:=ty,pos:=pos,after:=af,guard:=none } (λv'=>rv v') (λv'=>.row v' e sz ((xs++ys).map enc)::H.eraseIdx i):=λa w Z K ha hw hK=>by
  obtain⟨h0,us,h1,h2⟩:=hw.ent hi;obtain⟨ws,h3,h4⟩:=hy a w Z ha hw;have hsz':0<sz:=by simpa using hsz
  have hbp':0<bytes:=by simpa using hbp
  have hb:(xs.length+ys.length)*bytes≤140737488355328:=by simpa[JX] using hg
  have hle:xs.length+ys.length≤(xs.length+ys.length)*bytes:=Nat.le_mul_of_pos_right _ hbp';have hws:∀y∈ws,y.oneCell'=true:=AP.one (rs:=(ys.map enc).flatten) (by
   rw[UR];intro r hr;obtain⟨cl,hcl,hrc⟩:=List.mem_flatten.1 hr;obtain⟨z',_,rfl⟩:=List.mem_map.1 hcl;exact List.all_eq_true.1 (hone z') r hrc) h3
  have hxl:(xs.map enc).length=xs.length:=UB ..;rw[hxl] at h1;obtain⟨v',w',e1,e2,e3,e4⟩:=EH (P:=P) ty ht hinf hz hsize hby hzs hsz' h1 h4 hws hb (by simp only[maxLen];omega);have hent:(Ent.row v' e sz ((xs++ys).map enc)).holds Z w':=⟨λcl hcl=>by obtain⟨z',_,rfl⟩:=List.mem_map.1 hcl;exact henc z',us++ws,by simpa using e2,by rw[Vq,List.flatten_append];exact h2.append h3⟩
  have hst:=hw.callF hi (St.one (e':=.row v' e sz ((xs++ys).map enc)) (M:=(Ent.row v e sz (xs.map enc)).foot) hw.frz hw.env hw.emono e3.os e3.tape e3.output e3.size (λk hk hne=>e3.block k hk (λe1=>hne (by simp[Ent.foot,← e1])))
   (hw.zdis _ (UE hi)) hent (λk hk=>by
    simp only[Ent.foot,Option.mem_toList] at hk ⊢;rcases e4 with e4 | e4
    ·exact .inl (e4▸hk)
    ·exact .inr (e4 k hk)))
  refine⟨by simp[Region.wanted],?_⟩;unfold Oper.wp;rw[show(execOp a.eval { dst:=some d,op:=.call { callee:=.builtin .append,args:=#[x,y],argTypes:=#[t,t] },type:=ty,pos:=pos,after:=af,guard:=none }).run P w = .ok (.value v') w' from by simp[execOp,resolve,invoke,builtin,ha.eval hx,e1]];exact hK v' v' w' Z (Fz.le.refl _) rfl hst
end
abbrev Ux:=Nat→Nat→Value×Nat
def Ag (k:Nat)(u u':Ux):Prop:=∀j,j<k→u j=u' j
def ux (u:Ux)(k:Nat)(f:List (Value×Nat)):Ux:=λj=>bif Nat.beq j k then λq=>f.getD q (undef,0) else u j
structure Sy where
 deps:List Nat
 r:Ux→Rp
 lv:Nat:=0
 fx:Bool:=false
 old:List Nat:=[]
def Pn (sp:List Sy)(i:Nat):Sy:=sp.getD i { deps:=[],r:=λ_=>rv undef }
def TU (sp:List Sy)(u:Ux):List Sp:=sp.map λs=>⟨s.deps,s.r u,0⟩
def Oc:List Sy→Prop
 | []=>True
 | s::r=>(∀u u',Ag s.lv u u'→s.r u=s.r u')∧Oc r
theorem Oc.at:∀{sp:List Sy},Oc sp→∀{i:Nat} {s:Sy},sp[i]? =some s→∀u u',Ag s.lv u u'→s.r u=s.r u'
 | [],_,i,s,h=>by simp at h
 | x::sp,⟨h1,h2⟩,0,s,h=>by simp at h;subst h;exact h1
 | x::sp,⟨h1,h2⟩,i+1,s,h=>Oc.at h2 (by simpa using h)
def cnt (S:Nat→Bool)(is:List Nat):Nat:=(is.filter S).length
section
variable (P : Program) (n : Nat) (c : Cx) (opsA : Array Oper) (Q : Exit → Act → World → Prop)
def Uw (l:Fr)(H:List Ent)(o:Oper)(k:Nat)(u:Ux)(r:Ux→Rp)(H1:Ux→List Ent):Prop:=
 ∀a w Z (K:Act→World→Prop),BZ n l a Z→St c H Z w→(∀u' v w' Z',Ag k u u'→Fz.le Z Z'→(r u').p Z' v→St c (H1 u') Z' w'→K (a.put o.dst v) w')→
  Region.wanted o (yielded opsA a.tmps)=true∧o.wp P a w K Q
def Ur (ops:List Oper)(sp:List Sy)(l0 lw:Fr)(is:List Nat)(hs:List (Ux→List Ent))(i:Nat)(o:Oper):Prop:=
 match is.findIdx? (λx=>Nat.beq x i) with
 | some k=>∀u,Uw P n c opsA Q (DZ lw (Pn sp i).old (Br ops (TU sp u) (Pn sp i).deps l0)) (hs.getD k (λ_=>[]) u) o k u (Pn sp i).r (hs.getD (k+1) (λ_=>[]))
 | none=>if (Pn sp i).fx=true then ∀u,CJ P n c opsA Q (DZ lw (Pn sp i).old (Br ops (TU sp u) (Pn sp i).deps l0)) (hs.getD (Pn sp i).lv (λ_=>[]) u) o ((Pn sp i).r u) (hs.getD (Pn sp i).lv (λ_=>[]) u)
  else ∀u k,k≤is.length→CJ P n c opsA Q (DZ lw (Pn sp i).old (Br ops (TU sp u) (Pn sp i).deps l0)) (hs.getD k (λ_=>[]) u) o ((Pn sp i).r u) (hs.getD k (λ_=>[]) u)
def Sj (ops:List Oper)(sp:List Sy)(l0 lw:Fr)(is:List Nat)(hs:List (Ux→List Ent)):Nat→List Oper→Prop
 | i,o::rest=>Ur P n c opsA Q ops sp l0 lw is hs i o∧Sj ops sp l0 lw is hs (i+1) rest
 | _,[]=>True
end
section
variable {P : Program} {n : Nat} {c : Cx} {opsA : Array Oper} {Q : Exit → Act → World → Prop} {l l0 lw : Fr} {H : List Ent} {hs : List (Ux → List Ent)} {sp : List Sy} {is : List Nat}
theorem Sj.at {ops:List Oper}:∀{k:Nat} {rest:List Oper},Sj P n c opsA Q ops sp l0 lw is hs k rest→∀(t:Nat) o,rest[t]? =some o→Ur P n c opsA Q ops sp l0 lw is hs (k+t) o
 | k,o::rest,⟨h1,h2⟩,t,o',ht=>by
  cases t with
  | zero=>simp at ht;subst ht;exact h1
  | succ t=>
   have:=Sj.at h2 t o' (by simpa using ht);rw[show k+(t+1)=k+1+t from by omega];exact this
 | _,[],_,t,o,h=>by simp at h
def Sk (p:List Ent→Prop)(u:Ux):List (Ux→List Ent)→Prop
 | []=>True
 | f::r=>p (f u)∧Sk p u r
theorem Sk.at {p:List Ent→Prop}{u:Ux}:∀{hs:List (Ux→List Ent)},Sk p u hs→∀k,k<hs.length→p (hs.getD k (λ_=>[]) u)
 | [],_,k,h=>absurd h (Nat.not_lt_zero _)
 | f::r,⟨h1,h2⟩,0,_=>h1
 | f::r,⟨h1,h2⟩,k+1,h=>Sk.at h2 k (by simpa using h)
end
section
variable {P : Program} {n : Nat} {c : Cx} {opsA : Array Oper} {Q : Exit → Act → World → Prop} {l : Fr} {H : List Ent} {d : Nat} {x y : Operand} {ty t e : TypeId} {pos : String} {af : Array Edge} {v : Value} {sz : Nat}
end
def KR (k:Nat)(i:Int)(off:Nat)(Z:Fz)(v:Value):Prop:=if i<0 then v = .pointer none else ∃b,Z.nm k i.toNat=some b∧v = .pointer (some ⟨b,off,none⟩)
def BA (k:Nat)(i:Int)(off:Nat):Rp:=⟨KR k i off,fun {Z Z' v} h hp=>by
 unfold KR at *
 split
 ·rename_i h0;rwa [UM h0] at hp
 ·rename_i h0;rw[UD h0] at hp;obtain⟨b,h1,h2⟩:=hp;exact⟨b,h.nm k _ b h1,h2⟩,true,λ_ Z v hp=>by
 change KR k i off Z v at hp
 unfold KR at hp
 split at hp
 ·rw[hp];rfl
 ·obtain⟨b,_,h2⟩:=hp;rw[h2];rfl⟩
@[reducible] def eP (k:Nat) (i:Int):List Rp:=[BA k i 0]
theorem GA (k:Nat)(i:Int):(eP k i).length=1:=rfl
theorem L3 (k:Nat)(i:Int):(eP k i).all (·.one)=true:=rfl
@[reducible] def mP (k:Nat) (i:Int):Rp:=BA k i 0
theorem T6 (k:Nat)(Z:Fz):(mP k (-1)).p Z (.pointer none):=rfl
theorem Jd.pnil (k:Nat):Jd (rv (.pointer none)) (BA k (-1) 0):=λZ v h=>h
section
variable {P : Program} {n : Nat} {c : Cx} {ops : Array Oper} {Q : Exit → Act → World → Prop} {rest : List Oper} {l : Fr} {H H' : List Ent} {d : Nat} {d' : Option Nat} {x y : Operand} {ty t t' e : TypeId} {pos : String} {af : Array Edge} {g : Option (Nat × Bool)} {v u : Value} {r : Rp} {sz k : Nat} {pv : Value} {α : Type} [Inhabited α] {xs : List α} {enc : α → List Rp}
theorem J0 {Z:Fz}{w:World}{j off:Nat}{i:Int}(hw:St c H Z w)(hi:H[j]? =some (.pool k pv e (xs.map enc)))(hg:C2 i (xs.length:Int)=true)(hp:(BA k i off).p Z v) :
  ∃b us,v = .pointer (some ⟨b,off,none⟩)∧(Ct pv)[i.toNat]? =some b∧w.heap[b]? =some (.cells us.toArray e (0,0))∧AP Z (enc (Ac xs i)) us:=by
 obtain⟨h0,hl,h⟩:=hw.ent hi;have hi0:=(Bl hg).1;have hi1:i.toNat<xs.length:=by have:=(Bl hg).2;omega
 have hb:i.toNat<(Ct pv).length:=by rw[hl,UB];exact hi1
 obtain⟨h1,us,h2,h3⟩:=h i.toNat (Ct pv)[i.toNat] (enc xs[i.toNat]) (U5 hb) (by simp[hi1])
 change KR k i off Z v at hp
 unfold KR at hp;rw[UD (by omega)] at hp;obtain⟨b,h4,h5⟩:=hp;rw[h1] at h4;obtain rfl:=Option.some.inj h4;exact⟨_,us,h5,U5 hb,h2,by rw[show Ac xs i=xs[i.toNat] from by simp[Ac,hi1]];exact h3⟩
theorem Ce {j off:Nat}{i:Int}(hag:∀w,(isAgg t).run P w = .ok false w)(hx:ev l x=some (BA k i off))(hi:H[j]? =some (.pool k pv e (xs.map enc)))(hg:C2 i (xs.length:Int)=true)(hc:(enc (Ac xs i))[off]? =some r) :
  Bi P n c l H { dst:=d',op:=.load t x,type:=ty,pos:=pos,after:=af,guard:=g } r:=λa w Z ha hw=>by
 obtain⟨b,us,e1,_,h1,h2⟩:=J0 hw hi hg (ha.ev hx);obtain⟨u,hu,hp⟩:=h2.at hc;have hcell:w.cell? ⟨b,off,none⟩=some u:=by rw[cell_of_row w b off _ e (0,0) h1];simpa using hu
 exact⟨u,hp,by simp[execOp,e1,Instr.loadAt,Instr.sureAddr,loadVar,hag,hcell]⟩
theorem I8 {j off:Nat}{i:Int}{rs:List Rp}(hag:∀w,(isAgg t).run P w = .ok true w)(hsz:∀w,(sizeOf t).run P w = .ok sz w)(hx:ev l x=some (BA k i off))(hi:H[j]? =some (.pool k pv e (xs.map enc)))(hg:C2 i (xs.length:Int)=true)
  (hr:((enc (Ac xs i)).drop off).take sz=rs) (hl:rs.length=sz):Bi P n c l H { dst:=d',op:=.load t x,type:=ty,pos:=pos,after:=af,guard:=g } (Bu rs):=λa w Z ha hw=>by
 obtain⟨b,us,e1,_,h1,h2⟩:=J0 hw hi hg (ha.ev hx);have h3:=(h2.drop off).take sz;rw[hr] at h3;have hlen:=h3.length;have h4:=run_loadCells_list (P:=P) w ⟨b,off,none⟩ ((us.drop off).take sz) (λj u hj=>by
  rw[Hb,cell_of_row w b _ _ e (0,0) h1];rw[Vh] at hj
  split at hj
  ·simpa using hj
  ·cases hj)
 rw[hlen,hl] at h4;exact⟨.agg ((us.drop off).take sz).toArray,⟨_,rfl,h3⟩,by simp[execOp,e1,Instr.loadAt,Instr.sureAddr,loadVar,hag,hsz,h4]⟩
theorem Be {off:Nat}{i:Int}(hx:ev l x=some (BA k i off))(hg:decide (0≤i)=true):Bi P n c l H { dst:=d',op:=.nilCheck x,type:=ty,pos:=pos,after:=af,guard:=g } (BA k i off):=λa w Z ha hw=>by
 have h:=ha.ev hx;have h':=h
 change KR k i off Z _ at h
 unfold KR at h;rw[UD (by have:=Vl hg;omega)] at h;obtain⟨b,_,e1⟩:=h;exact⟨a.eval x,h',by simp[execOp,e1]⟩
theorem BM {off off' i:Nat}{q:Int}{fs:Array Field}{f:Field}(hu:P.underlying t=some (.struct fs))(hf:fs[i]? =some f)(hsz:∀w,(sizeOf f.type).run P w = .ok (sz+1) w)
  (hx:ev l x=some (BA k q off)) (hg:decide (0≤q)=true) (ho:off+f.offset=off'):Bi P n c l H { dst:=d',op:=.fieldAddr t x i,type:=ty,pos:=pos,after:=af,guard:=g } (BA k q off'):=λa w Z ha hw=>by
 have h:=ha.ev hx
 change KR k q off Z _ at h
 unfold KR at h;have h0:=Vl hg;rw[UD (by omega)] at h;obtain⟨b,h1,e1⟩:=h;subst ho;refine⟨.pointer (some ⟨b,off+f.offset,none⟩),?_,by simp[execOp,e1,Instr.fieldAt,run_underlying hu,hf,Instr.sureAddr,fieldPlace,hsz,Hb]⟩;show KR k q (off+f.offset) Z _;unfold KR;rw[UD (by omega)];exact⟨b,h1,rfl⟩
theorem St.poolset {β:Type}{xs:List β}{enc:β→List Rp}{Z:Fz}{w:World}{j b:Nat}{i:Int}{us us':List Value}{y':β}(hw:St c H Z w)(hi:H[j]? =some (.pool k pv e (xs.map enc)))(hb:(Ct pv)[i.toNat]? =some b)(h1:w.heap[b]? =some (.cells us.toArray e (0,0)))(h2:AP Z (enc y') us') :
  St c (H.set j (.pool k pv e ((xs.set i.toNat y').map enc))) Z (w.setRow b us'.toArray):=by
 obtain⟨h0,hl,h⟩:=hw.ent hi;have hbl:=(List.getElem?_eq_some_iff.1 hb).1;refine hw.setp hi rfl rfl rfl (by simp[World.setRow]) (λq _ hq=>?_) ⟨h0,by simpa using hl,λi' b' cs h3 h4=>?_⟩ (λq hq=>.inl hq) rfl rfl
 ·have:q≠b:=λe=>hq (by subst e;exact UE hb);simp only[World.setRow,Array.getElem?_modify];rw[UD (λe=>this e.symm)]
 ·rw[List.map_set,List.getElem?_set] at h4
  split at h4
  ·rename_i hii
   subst hii
   split at h4
   ·rw[hb] at h3;obtain rfl:=Option.some.inj h3;obtain rfl:=Option.some.inj h4;obtain⟨g1,_⟩:=h i.toNat b _ hb (U5 (by omega));exact⟨g1,us',setRow_heap w b _ _ e (0,0) h1,h2⟩
   ·cases h4
  ·rename_i hii
   obtain⟨g1,vs,g2,g3⟩:=h i' b' cs h3 h4;have hne:b'≠b:=λe=>hii (by
    subst e;have e1:=(List.getElem?_eq_some_iff.1 h3)
    have e2:=(List.getElem?_eq_some_iff.1 hb)
    exact(List.getElem_inj h0).1 (e2.2.trans e1.2.symm))
   refine⟨g1,vs,?_,g3⟩;simp only[World.setRow,Array.getElem?_modify];rw[UD (λe=>hne e.symm)];exact g2
theorem Jc {j off:Nat}{i:Int}{y':α}(hag:∀w,(sizeOf t).run P w = .ok 1 w)(hx:ev l x=some (BA k i off))(hy:ev l y=some r)(hv:LE H r)(hi:H[j]? =some (.pool k pv e (xs.map enc)))(hg:C2 i (xs.length:Int)=true)
  (hy':(enc (Ac xs i)).set off r=enc y') (hlt:Nat.blt off (enc (Ac xs i)).length=true) (hH:H.set j (.pool k pv e ((xs.set i.toNat y').map enc))=H') :
  Sh P n c l H { dst:=none,op:=.store t x y,type:=ty,pos:=pos,after:=af,guard:=none } H':=λa w Z ha hw=>by
  obtain⟨b,us,e1,hb,h1,h2⟩:=J0 hw hi hg (ha.ev hx);have hr:=ha.ev hy;have hone:=hv c Z w _ hw hr;have hlen:=h2.length;have hlt':off<us.length:=by rw[hlen];simpa using hlt
  have h4:=run_storeCells_at P b off e [a.eval y] 0 us.toArray w h1 (by simp;omega) (by simpa using hone);have hcv:=Bs hone;have h3:us.take off++[a.eval y]++us.drop (off+1)=us.set off (a.eval y):=by
   simp[List.set_eq_take_append_cons_drop,hlt']
  simp only[Nat.add_zero,UA,Ve,UZ] at h4;rw[h3] at h4;refine⟨w.setRow b (us.set off (a.eval y)).toArray,?_,?_⟩
  ·simp[execOp,e1,Instr.storeAt,Instr.sureAddr,storeVar,hag,hcv,h4]
  ·subst hH;exact hw.poolset hi hb h1 (by rw[← hy'];exact h2.set off hr)
theorem GK {j off:Nat}{i:Int}{y':α}(hag:∀w,(sizeOf t).run P w = .ok 1 w)(hx:ev l x=some (BA k i off))(hy:ev l y=some r)(hv:LE H r)(hi:H[j]? =some (.pool k pv e (xs.map enc)))(hg:C2 i (xs.length:Int)=true)
  (hy':(enc (Ac xs i)).set off r=enc y') (hlt:Nat.blt off (enc (Ac xs i)).length=true) (hH:H.set j (.pool k pv e ((xs.set i.toNat y').map enc))=H') (h:WL P n c ops Q rest l H') :
  WL P n c ops Q ({ dst:=none,op:=.store t x y,type:=ty,pos:=pos,after:=af,guard:=none }::rest) l H:=
 KT λa w Z ha hw=>by
  obtain⟨b,us,e1,hb,h1,h2⟩:=J0 hw hi hg (ha.ev hx);have hr:=ha.ev hy;have hone:=hv c Z w _ hw hr;have hlen:=h2.length;have hlt':off<us.length:=by rw[hlen];simpa using hlt
  have h4:=run_storeCells_at P b off e [a.eval y] 0 us.toArray w h1 (by simp;omega) (by simpa using hone);have hcv:=Bs hone;have h3:us.take off++[a.eval y]++us.drop (off+1)=us.set off (a.eval y):=by
   simp[List.set_eq_take_append_cons_drop,hlt']
  simp only[Nat.add_zero,UA,Ve,UZ] at h4;rw[h3] at h4;refine⟨w.setRow b (us.set off (a.eval y)).toArray,H',?_,?_,h⟩
  ·simp[execOp,e1,Instr.storeAt,Instr.sureAddr,storeVar,hag,hcv,h4]
  ·subst hH;exact hw.poolset hi hb h1 (by rw[← hy'];exact h2.set off hr)
theorem St.adopt0 {Z:Fz}{w:World}{b:Nat}{cs:List Rp}{ys:List (List Rp)}{Hr:List Ent}{pv':Value}(h:St c (.blk b cs e::.pool k pv e ys::Hr) Z w)(hpv:Ct pv'=Ct pv++[b]):∃Z',Fz.le Z Z'∧Z'.nm k ys.length=some b∧St c (.pool k pv' e (ys++[cs])::Hr) Z' w:=by
 obtain⟨us,hb1,hb2⟩:=h.has (.blk b cs e) (by simp);obtain⟨h0,hl,hp⟩:=h.has (.pool k pv e ys) (by simp);have hd:=List.pairwise_cons.1 h.dis;have hd2:=List.pairwise_cons.1 hd.2;have gd:=List.pairwise_cons.1 h.gst.dis;have gd2:=List.pairwise_cons.1 gd.2;have hcap:=h.gst.cap (.pool k pv e ys) (by simp) k (by simp[Ent.gk]);have hksz:=h.gst.sz (.pool k pv e ys) (by simp) k (by simp[Ent.gk]);have hkown:=h.gst.own (.pool k pv e ys) (by simp) k (by simp[Ent.gk])
 let Z':Fz:=⟨Z.f,λq i=>if q=k∧i=ys.length then some b else Z.nm q i⟩
 have hnew:Z'.nm k ys.length=some b:=by simp[Z']
 have hle:Fz.le Z Z':=⟨λ_ _ h=>h,λq i b' hq=>by
  by_cases hqi:q=k∧i=ys.length
  ·obtain⟨rfl,rfl⟩:=hqi;rw[hcap _ (by simp[Ent.gn,hl])] at hq;cases hq
  ·simpa[Z',hqi] using hq⟩
 have hbn:b ∉ Ct pv:=λhbs=>hd.1 (.pool k pv e ys) (by simp) b (by simp[Ent.foot]) hbs;refine⟨Z',hle,hnew,h.os,h.tape,h.output,h.size,h.old,λen he=>?_,λen he q hq=>?_,?_,⟨λb o hb=>h.frz.f b o hb,λq i b' hq=>?_⟩,h.le.trans hle,λb o hb=>h.new b o hb,λen he q hq=>?_,h.emono hle h.env,h.emono,⟨λen he q hq=>?_,λen he q hq=>?_,?_,λq i b' hq=>?_,λen he q hq i hi=>?_⟩⟩
 ·rcases List.mem_cons.1 he with rfl | he
  ·refine⟨by rw[hpv];exact List.nodup_append.2 ⟨h0,by simp,λx hx y hy e=>by simp at hy;subst hy;exact hbn (e▸hx)⟩,by rw[hpv];simp[hl],λi b' cs' h1 h2=>?_⟩
   ·rw[hpv] at h1
    by_cases hi:i<(Ct pv).length
    ·rw[Vj hi] at h1;rw[Vj (by omega)] at h2;obtain⟨g1,vs,g2,g3⟩:=hp i b' cs' h1 h2;exact⟨hle.nm k i b' g1,vs,g2,g3.mono hle⟩
    ·have hi2:i=(Ct pv).length:=by have:=(List.getElem?_eq_some_iff.1 h1).1;simp at this;omega
     subst hi2;simp at h1;subst h1;rw[hl] at h2;simp at h2;subst h2;exact⟨by rw[hl];exact hnew,us,hb1,hb2.mono hle⟩
  ·exact Ent.keep (h.has en (by simp[he])) hle λ_ _=>rfl
 ·rcases List.mem_cons.1 he with rfl | he
  ·rcases List.mem_append.1 (hpv▸(show q∈Ct pv' from hq)) with hq | hq
   ·exact h.own (.pool k pv e ys) (by simp) q hq
   ·simp at hq;subst hq;exact h.own (.blk q cs e) (by simp) q (by simp[Ent.foot])
  ·exact h.own en (by simp[he]) q hq
 ·refine List.pairwise_cons.2 ⟨λen he q hq hq'=>?_,hd2.2⟩;rcases List.mem_append.1 (hpv▸(show q∈Ct pv' from hq)) with hq | hq
  ·exact hd2.1 en he q hq hq'
  ·simp at hq;subst hq;exact hd.1 en (by simp[he]) q (by simp[Ent.foot]) hq'
 ·by_cases hqi:q=k∧i=ys.length
  ·rw[hqi.1];exact hksz
  ·exact h.frz.nm q i b' (by simpa[Z',hqi] using hq)
 ·rcases List.mem_cons.1 he with rfl | he
  ·rcases List.mem_append.1 (hpv▸(show q∈Ct pv' from hq)) with hq | hq
   ·exact h.zdis (.pool k pv e ys) (by simp) q hq
   ·simp at hq;subst hq;exact h.zdis (.blk q cs e) (by simp) q (by simp[Ent.foot])
  ·exact h.zdis en (by simp[he]) q hq
 ·rcases List.mem_cons.1 he with rfl | he
  ·simp[Ent.gk] at hq;subst hq;exact hkown
  ·exact h.gst.own en (by simp[he]) q hq
 ·rcases List.mem_cons.1 he with rfl | he
  ·simp[Ent.gk] at hq;subst hq;exact hksz
  ·exact h.gst.sz en (by simp[he]) q hq
 ·exact List.pairwise_cons.2 ⟨λen he q hq hq'=>gd2.1 en he q hq hq',gd2.2⟩
 ·by_cases hqi:q=k∧i=ys.length
  ·rw[hqi.1];exact .inr hkown
  ·exact h.gst.new q i b' (by simpa[Z',hqi] using hq)
 ·rcases List.mem_cons.1 he with rfl | he
  ·simp[Ent.gk] at hq;subst hq;simp[Ent.gn,hpv] at hi;have : ¬ i=ys.length:=by omega
   simp only[Z',this,and_false,Vk];exact hcap i (by simp[Ent.gn];omega)
  ·have hqk:q≠k:=λe1=>gd2.1 en he k (by simp[Ent.gk]) (e1▸hq);simp only[Z',hqk,false_and,Vk];exact h.gst.cap en (by simp[he]) q hq i hi
theorem St.adopt {Z:Fz}{w:World}{b:Nat}{cs:List Rp}{ys:List (List Rp)}{Hr:List Ent}(h:St c (.blk b cs e::.pool k pv e ys::Hr) Z w):∃Z',Fz.le Z Z'∧Z'.nm k ys.length=some b∧St c (.pool k (SM (Ct pv++[b])) e (ys++[cs])::Hr) Z' w:=St.adopt0 h (RW _)
theorem KR.of {Z:Fz}{b N:Nat}(h:Z.nm k N=some b):∀v,(rv (.pointer (some ⟨b,0,none⟩))).p Z v→(BA k (N:Int) 0).p Z v:=λv hv=>by
 show KR k N 0 Z v;unfold KR;rw[UD (by omega)];exact⟨b,by simpa using h,hv⟩
def QP (l:Fr)(b:Nat):List Nat→Prop
 | []=>True
 | d::ds=>look l d=some (rv (.pointer (some ⟨b,0,none⟩)))∧QP l b ds
def Tu (k N:Nat):List Nat→Fr→Fr
 | [],l=>l
 | d::ds,l=>(d,BA k (N:Int) 0)::Tu k N ds l
theorem L9 {Z:Fz}{a:Act}{b N:Nat}{l:Fr}(ha:BZ n l a Z)(hn:Z.nm k N=some b):∀{ds:List Nat},QP l b ds→BZ n (Tu k N ds l) a Z
 | [],_=>ha
 | d::ds,⟨h1,h2⟩=>by
  have h3:=L9 ha hn h2;refine⟨h3.size,h3.defers,λi u hi=>?_⟩;rw[Tu,B4] at hi
  split at hi
  ·rename_i e;subst e;simp at hi;subst hi
   obtain⟨v,h4,h5⟩:=ha.tm d _ h1;exact⟨v,h4,KR.of hn v h5⟩
  ·exact h3.tm i u hi
theorem St.adoptE {β:Type}{xs:List β}{enc:β→List Rp}{Z:Fz}{w:World}{b:Nat}{y:β}{Hr:List Ent}{cs:List Rp}(hw:St c H Z w)(hp:H.Perm (.blk b cs e::.pool k pv e (xs.map enc)::Hr))(hcs:cs=enc y) :
  ∃Z' pv',Fz.le Z Z'∧Z'.nm k xs.length=some b∧St c (.pool k pv' e ((xs++[y]).map enc)::Hr) Z' w:=by
 obtain⟨Z',h1,h2,h3⟩:=(hw.perm hp).adopt;subst hcs;rw[UB] at h2;exact⟨Z',_,h1,h2,by rw[Vq];exact h3⟩
theorem WL.adopt {β:Type}{xs:List β}{enc:β→List Rp}{b:Nat}{y:β}{Hr:List Ent}{cs:List Rp}(hp:H.Perm (.blk b cs e::.pool k pv e (xs.map enc)::Hr))(ds:List Nat)(hd:QP l b ds)(hcs:cs=enc y)
  (h:∀pv',WL P n c ops Q rest (Tu k xs.length ds l) (.pool k pv' e ((xs++[y]).map enc)::Hr)):WL P n c ops Q rest l H:=λa w Z ha hw=>by
 obtain⟨Z',pv',h1,h2,h3⟩:=St.adoptE hw hp hcs;exact h pv' a w Z' (L9 (ha.mono h1) h2 hd) h3
theorem WC.adopt {β:Type}{xs:List β}{enc:β→List Rp}{b:Nat}{y:β}{Hr:List Ent}{cs:List Rp}{xx:Code}(hp:H.Perm (.blk b cs e::.pool k pv e (xs.map enc)::Hr))(ds:List Nat)(hd:QP l b ds)(hcs:cs=enc y)
  (h:∀pv',WC P n c xx Q (Tu k xs.length ds l) (.pool k pv' e ((xs++[y]).map enc)::Hr)):WC P n c xx Q l H:=λa w Z ha hw=>by
 obtain⟨Z',pv',h1,h2,h3⟩:=St.adoptE hw hp hcs;exact h pv' a w Z' (L9 (ha.mono h1) h2 hd) h3
theorem WK.adopt {β:Type}{xs:List β}{enc:β→List Rp}{b:Nat}{y:β}{Hr:List Ent}{cs:List Rp}{K:Act→World→Prop}(hp:H.Perm (.blk b cs e::.pool k pv e (xs.map enc)::Hr))(ds:List Nat)(hd:QP l b ds)(hcs:cs=enc y)
  (h:∀pv',WK n c K (Tu k xs.length ds l) (.pool k pv' e ((xs++[y]).map enc)::Hr)):WK n c K l H:=λa w Z ha hw=>by
 obtain⟨Z',pv',h1,h2,h3⟩:=St.adoptE hw hp hcs;exact h pv' a w Z' (L9 (ha.mono h1) h2 hd) h3
theorem GC:Ct (.tuple #[])=[]:=rfl
theorem Gu (hn:Nat.blt d n=true)(h:∀b,WL P n c ops Q rest ((d,rv (.map (some b)))::l) (.pool b (.tuple #[]) e []::.map b []::H)) :
  WL P n c ops Q ({ dst:=some d,op:=.makeMap t none,type:=ty,pos:=pos,after:=af,guard:=none }::rest) l H:=
 Ht (λa w Z ha hw=>by
  have h1:=hw.alloc (.map #[] 0) (e:=.map w.heap.size []) ⟨#[],0,by simpa using heap_alloc_new w _,by simp,by simp,by simp,[],U3 _,trivial⟩ rfl;refine⟨_,w.alloc (.map #[] 0),_,_,Z,by simp[execOp,run_makeMap],Fz.le.refl _,rfl,?_,h w.heap.size⟩;have hz:∀i,Z.nm w.heap.size i=none:=λi=>by
   cases hq:Z.nm w.heap.size i with
   | none=>rfl
   | some b=>have:=hw.frz.nm _ _ _ hq;omega
  have hold:∀en∈(Ent.map w.heap.size []::H),∀q∈en.gk,q<w.heap.size:=λen he q hq=>by
   rcases List.mem_cons.1 he with rfl | he
   ·simp[Ent.gk] at hq
   ·exact hw.gst.sz en he q hq
  refine { h1 with has:=λen he=>?_,own:=λen he q hq=>?_,dis:=List.pairwise_cons.2 ⟨λen he q hq=>by simp[Ent.foot,GC] at hq,h1.dis⟩,zdis:=λen he q hq=>?_,gst:=⟨λen he q hq=>?_,λen he q hq=>?_,List.pairwise_cons.2 ⟨λen he q hq hq'=>?_,h1.gst.dis⟩,h1.gst.new,λen he q hq i hi=>?_⟩ }
  ·rcases List.mem_cons.1 he with rfl | he
   ·exact⟨by simp[GC],by simp[GC],by simp⟩
   ·exact h1.has en he
  ·rcases List.mem_cons.1 he with rfl | he
   ·simp[Ent.foot,GC] at hq
   ·exact h1.own en he q hq
  ·rcases List.mem_cons.1 he with rfl | he
   ·simp[Ent.foot,GC] at hq
   ·exact h1.zdis en he q hq
  ·rcases List.mem_cons.1 he with rfl | he
   ·simp[Ent.gk] at hq;subst hq;exact .inl hw.size
   ·exact h1.gst.own en he q hq
  ·rcases List.mem_cons.1 he with rfl | he
   ·simp[Ent.gk] at hq;subst hq;simp
   ·exact h1.gst.sz en he q hq
  ·simp[Ent.gk] at hq;subst hq;have:=hold en he _ hq';omega
  ·rcases List.mem_cons.1 he with rfl | he
   ·simp[Ent.gk] at hq;subst hq;exact hz i
   ·exact h1.gst.cap en he q hq i hi) hn
end
set_option maxRecDepth 100000
set_option maxHeartbeats 4000000
@[reducible] def Af (x:Aw):List Rp:=[rS x.fID,rS x.fTenant,rS x.fSource,rS x.fKey,rI .i64 x.fAt,rS x.fCause,Bw 4 (List.map Al x.fBody)]
theorem G9 (x:Aw):(Af x).length=7:=rfl
theorem JZ (x:Aw):(Af x).all (·.one)=true:=rfl
@[reducible] def Ad (x:Ab):List Rp:=[rS x.fEvent.fID,rS x.fEvent.fTenant,rS x.fEvent.fSource,rS x.fEvent.fKey,rI .i64 x.fEvent.fAt,rS x.fEvent.fCause,Bw 4 (List.map Al x.fEvent.fBody),rI .i64 x.fAt,rI .i64 x.fReceives,rB x.fHeld,rI .i64 x.fPlace]
theorem SV:∃inf,Tryz.prog.info? 95=some inf∧inf.zero=some (.agg #[(.int .i64 0),(.int .i64 0),(.string ⟨#[]⟩),(.int .i64 0)])∧inf.size=4∧inf.bytes=40:=by
  have key:(Tryz.prog.info? 95).map (λi=>(i.zero,i.size,i.bytes))=some (some (.agg #[(.int .i64 0),(.int .i64 0),(.string ⟨#[]⟩),(.int .i64 0)]),4,40):=by kernel_rfl
  obtain⟨inf,h1,h2⟩:=Option.map_eq_some_iff.1 key;simp only[Prod.mk.injEq] at h2;exact⟨inf,h1,h2.1,h2.2.1,h2.2.2⟩
theorem QA (ys:(List Ao))(r:(List Ao))(h:L5 ys=some r):Fn Tryz.prog GE 66 [Bw 4 (List.map Al ys)] [] (λR H=>R=Bw 4 (List.map Al r)∧H=[]):=by
 refine enter (n:=8) Tryz.func66 Aa Tryz.ntmps66 Aa (λw Z=>?_);refine Bh (l':=[(0,Bw 4 (List.map Al ys))]) (H':=[]) Aa Aa ?_;unfold L5 at h;refine As (wv (r:=rv (.slice none 0 0)) (Aj Aa) (A3 (Ax (As (wm Aa (wv (OG Jg Aa) (A3 (P1 Aa (λc1=>?_) (λc1=>?_)))))))))
 ·have e2:ys=[]:=List.map_eq_nil_iff.1 (c1 rfl);have h3:some ([]:List Ao)=some r:=by rw[e2] at h;exact(AH h).2
  refine As (wv (r:=rv (.slice none 0 0)) (Aj Aa) (A3 (A5 (Am (WK.up (d:=2) (r:=Bw 4 (List.map Al ([]:List Ao))) Aa (Up.le (Jd.nil _)) ?_)))));obtain rfl:=AC h3;exact A7 (BW Tryz.results66 (AY Aa)) sN ⟨Aa,Aa⟩
 ·refine AF (Bd (As (Cj (ys:=([]:List Ao)) (enc:=Al) (css:=[]) (xs:=[]) Jg LI S2 Aa Aa Aa trivial Aa DQ Aa Aa Aa (λb4=>?_))));refine wm Aa ?_;obtain⟨g6,h7⟩:=AH h;obtain⟨inf,hinf⟩:=SV;refine DT (xs:=([]:List Ao)) (ys:=ys) (enc:=Al) (i:=0) Jg hinf.1 hinf.2.1 hinf.2.2.1 hinf.2.2.2 Aa Aa Aa Aa Aa (MJ.z Aa Aa) DQ Kw g6 Aa (λv5=>?_);refine wa Aa (A3 (A5 (WK.freeze (i:=0) Aa (WK.up (d:=2) (r:=Bw 4 (List.map Al (([]:List Ao)++ys))) Aa (Up.fact (i:=0) Aa) ?_))));obtain rfl:=AC h7;exact A7 (BW Tryz.results66 (AY Aa)) (sS sN) ⟨Aa,Aa⟩
theorem Q5 (F:Nat)(e:Aw)(r:Int)(h:GB F e=some r):Fn Tryz.prog GE 58 [Bu (Af e)] [] (λR H=>R=rI .i64 r∧H=[]):=by
 refine enter (n:=52) Tryz.func58 Aa Tryz.ntmps58 Aa (λw Z=>?_);refine Bh (l':=[(0,Bu (Af e))]) (H':=[]) Aa Aa ?_;unfold GB at h;refine As (BD Aa Aa (λb1=>?_));refine wv (r:=rI .i64 0) (Aj Aa) (A3 (Ax (AM [(1,rv (.pointer (some ⟨b1,0,none⟩))),(40,rB ((!(DO e.fID))||((!(DO e.fTenant))||((!(DO e.fSource))||(bif !decide (e.fKey=([]:AA)) then((!(DO e.fKey))||((!decide (e.fCause=([]:AA)))&&(!(DO e.fCause)))) else((!decide (e.fCause=([]:AA)))&&(!(DO e.fCause))))))))] [.blk b1 (Af e) 33] ?_ ?_)))
 ·refine At (wv (Ai CP Aa DG Aa Aa) (wv (Ay (i:=0) DI Aa Aa Aa) (Dd (rs:=[rS e.fID]) (r:=rB (DO e.fID)) Ol Aa (OS e.fID) Aa Aa (wv (CA Aa) (wm Aa (AL (!(DO e.fID)) (λc2=>?_) (λc2=>?_)))))))
  ·refine wf c2 (wf c2 (wf c2 (wf c2 (wv (r:=rB true) (Ap (b:=!(DO e.fID)) Aa c2 Aa) (wm Aa (Ak (b:=true) Aa Aa Aa Aa (Ak (b:=true) Aa Aa Aa Aa (Ak (b:=true) Aa Aa Aa Aa (Ak (b:=true) Aa Aa Aa Aa (wv (r:=rB true) (Ap (b:=true) Aa Aa Aa) (wm Aa (Ak (b:=true) Aa Aa Aa Aa (Ak (b:=true) Aa Aa Aa Aa (Ak (b:=true) Aa Aa Aa Aa (Ak (b:=true) Aa Aa Aa Aa (wu (wu (wu (wu (Ak (b:=true) Aa Aa Aa Aa (wv (r:=rB true) (Ap (b:=true) Aa Aa Aa) (wm Aa (Ak (b:=true) Aa Aa Aa Aa ?_)))))))))))))))))))))));refine Ak (b:=true) Aa Aa Aa Aa (Ak (b:=true) Aa Aa Aa Aa (Ak (b:=true) Aa Aa Aa Aa (wu (wu (wu (wu (Ak (b:=true) Aa Aa Aa Aa (wv (r:=rB true) (Ap (b:=true) Aa Aa Aa) (Ar ?_)))))))));exact Cw c2
  ·refine wo c2 (wv (Ai CP Aa DG Aa Aa) (wo c2 (wv (Ay (i:=0) DI Aa Aa Aa) (wo c2 (Dd (rs:=[rS e.fTenant]) (r:=rB (DO e.fTenant)) Ol Aa (OS e.fTenant) Aa Aa (wo c2 (wv (CA Aa) (EY Aa c2 Aa (wm Aa (AL (!(DO e.fTenant)) (λc3=>?_) (λc3=>?_)))))))))))
   ·refine wf c3 (wf c3 (wf c3 (wf c3 (wv (r:=rB true) (Ap (b:=!(DO e.fTenant)) Aa c3 Aa) (wm Aa (Ak (b:=true) Aa Aa Aa Aa (Ak (b:=true) Aa Aa Aa Aa (Ak (b:=true) Aa Aa Aa Aa (Ak (b:=true) Aa Aa Aa Aa (wu (wu (wu (wu (Ak (b:=true) Aa Aa Aa Aa (wv (r:=rB true) (Ap (b:=true) Aa Aa Aa) (wm Aa (Ak (b:=true) Aa Aa Aa Aa (Ak (b:=true) Aa Aa Aa Aa (Ak (b:=true) Aa Aa Aa Aa (Ak (b:=true) Aa Aa Aa Aa (wu (wu (wu ?_)))))))))))))))))))))));refine wu (Ak (b:=true) Aa Aa Aa Aa (wv (r:=rB true) (Ap (b:=true) Aa Aa Aa) (Ar ?_)));exact Cw (And.intro c2 c3)
   ·refine wo c3 (wv (Ai CP Aa DG Aa Aa) (wo c3 (wv (Ay (i:=0) DI Aa Aa Aa) (wo c3 (Dd (rs:=[rS e.fSource]) (r:=rB (DO e.fSource)) Ol Aa (OS e.fSource) Aa Aa (wo c3 (wv (CA Aa) (EY Aa c3 Aa (wm Aa (AL (!(DO e.fSource)) (λc4=>?_) (λc4=>?_)))))))))))
    ·refine wf c4 (wf c4 (wf c4 (wf c4 (wu (wu (wu (wu (wf c4 (wv (r:=rB true) (Ap (b:=!(DO e.fSource)) Aa c4 Aa) (wm Aa (Ak (b:=true) Aa Aa Aa Aa (Ak (b:=true) Aa Aa Aa Aa (Ak (b:=true) Aa Aa Aa Aa (Ak (b:=true) Aa Aa Aa Aa (wu (wu (wu (wu (Ak (b:=true) Aa Aa Aa Aa (wv (r:=rB true) (Ap (b:=true) Aa Aa Aa) (Ar ?_)))))))))))))))))))));exact Cw (And.intro c2 (And.intro c3 c4))
    ·refine wo c4 (wv (Ai CP Aa DG Aa Aa) (wo c4 (wv (Ay (i:=0) DI Aa Aa Aa) (wo c4 (wv (Mk Aa Aa) (wo c4 (wm Aa (AL (!decide (e.fKey=([]:AA))) (λc5=>?_) (λc5=>?_)))))))))
     ·refine wo c5 (wv (Ai CP Aa DG Aa Aa) (wo c5 (wv (Ay (i:=0) DI Aa Aa Aa) (wo c5 (Dd (rs:=[rS e.fKey]) (r:=rB (DO e.fKey)) Ol Aa (OS e.fKey) Aa Aa (wo c5 (wv (CA Aa) (wo c4 (GI Aa c5 Aa (EY Aa c4 Aa (wm Aa (AL (!(DO e.fKey)) (λc6=>?_) (λc6=>?_)))))))))))))
      ·refine wf c6 (wf c6 (wf c6 (wf c6 (wu (wu (wu (wu (wf c6 (wv (r:=rB true) (Ap (b:=!(DO e.fKey)) Aa c6 Aa) (Ar ?_))))))))));exact Cw (And.intro c2 (And.intro c3 (And.intro c4 (And.intro c5 c6))))
      ·refine wo c6 (wv (Ai CP Aa DG Aa Aa) (wo c6 (wv (Ay (i:=0) DI Aa Aa Aa) (wo c6 (wv (Mk Aa Aa) (wo c6 (wm Aa (AL (!decide (e.fCause=([]:AA))) (λc7=>?_) (λc7=>?_)))))))))
       ·refine wo c7 (wv (Ai CP Aa DG Aa Aa) (wo c7 (wv (Ay (i:=0) DI Aa Aa Aa) (wo c7 (Dd (rs:=[rS e.fCause]) (r:=rB (DO e.fCause)) Ol Aa (OS e.fCause) Aa Aa (wo c7 (wv (CA Aa) (wo c6 (GI Aa c7 Aa (EY Aa c6 Aa (Ar ?_)))))))))));exact Cw (And.intro c2 (And.intro c3 (And.intro c4 (And.intro c5 (And.intro c6 c7)))))
       ·refine wf c7 (wf c7 (wf c7 (wf c7 (wo c6 (wv (r:=rB false) (AG (b:=!decide (e.fCause=([]:AA))) Aa c7 Aa) (EY Aa c6 Aa (Ar ?_)))))));exact Cw (And.intro c2 (And.intro c3 (And.intro c4 (And.intro c5 (And.intro c6 c7)))))
     ·refine wf c5 (wf c5 (wf c5 (wf c5 (wo c4 (wv (r:=rB false) (AG (b:=!decide (e.fKey=([]:AA))) Aa c5 Aa) (EY Aa c4 Aa (wm Aa (AW (b:=false) Aa Aa Aa (wv (Ai CP Aa DG Aa Aa) (AW (b:=false) Aa Aa Aa (wv (Ay (i:=0) DI Aa Aa Aa) (AW (b:=false) Aa Aa Aa (wv (Mk Aa Aa) (AW (b:=false) Aa Aa Aa (wm Aa (AL (!decide (e.fCause=([]:AA))) (λc8=>?_) (λc8=>?_)))))))))))))))))
      ·refine wo c8 (wv (Ai CP Aa DG Aa Aa) (wo c8 (wv (Ay (i:=0) DI Aa Aa Aa) (wo c8 (Dd (rs:=[rS e.fCause]) (r:=rB (DO e.fCause)) Ol Aa (OS e.fCause) Aa Aa (wo c8 (wv (CA Aa) (AW (b:=false) Aa Aa Aa (GI Aa c8 Aa (wv (r:=rB (!(DO e.fCause))) (AG (b:=false) Aa Aa Aa) (Ar ?_)))))))))));exact Cw (And.intro c2 (And.intro c3 (And.intro c4 (And.intro c5 c8))))
      ·refine wf c8 (wf c8 (wf c8 (wf c8 (AW (b:=false) Aa Aa Aa (wv (r:=rB false) (AG (b:=!decide (e.fCause=([]:AA))) Aa c8 Aa) (wv (r:=rB false) (AG (b:=false) Aa Aa Aa) (Ar ?_)))))));exact Cw (And.intro c2 (And.intro c3 (And.intro c4 (And.intro c5 c8))))
 refine AD (b:=((!(DO e.fID))||((!(DO e.fTenant))||((!(DO e.fSource))||(bif !decide (e.fKey=([]:AA)) then((!(DO e.fKey))||((!decide (e.fCause=([]:AA)))&&(!(DO e.fCause)))) else((!decide (e.fCause=([]:AA)))&&(!(DO e.fCause)))))))) Aa (λc9=>?_) (λc9=>?_)
 ·have he:=AZ c9 h;refine As (wv (r:=rI .i64 4) (Aj Aa) (A3 (A5 (Am ?_))));obtain rfl:=AC he;exact A7 (BW Tryz.results58 (AY Aa)) (sS sN) ⟨Aa,Aa⟩
 ·have hd:=Ba c9 h;refine AF (Bd (Ax (AM [(1,rv (.pointer (some ⟨b1,0,none⟩))),(48,rB ((decide (e.fAt<0))||(decide (1073741824<e.fAt))))] [.blk b1 (Af e) 33] ?_ ?_)))
  ·refine At (wv (Ai CP Aa Ca Aa Aa) (wv (Ay (i:=0) Cl Aa Aa Aa) (wv (DE Aa Aa) (wm Aa (AL (decide (e.fAt<0)) (λha=>?_) (λha=>?_))))))
   ·refine wf ha (wf ha (wf ha (wv (r:=rB true) (Ap (b:=decide (e.fAt<0)) Aa ha Aa) (Ar ?_))));exact Cw ha
   ·refine wo ha (wv (Ai CP Aa Ca Aa Aa) (wo ha (wv (Ay (i:=0) Cl Aa Aa Aa) (wo ha (wv (Dt Aa Aa) (EY Aa ha Aa (Ar ?_)))))));exact Cw ha
  refine AD (b:=((decide (e.fAt<0))||(decide (1073741824<e.fAt)))) Aa (λhb=>?_) (λhb=>?_)
  ·have hf:=AZ hb hd;refine As (wv (r:=rI .i64 2) (Aj Aa) (A3 (A5 (Am ?_))));obtain rfl:=AC hf;exact A7 (BW Tryz.results58 (AY Aa)) (sS sN) ⟨Aa,Aa⟩
  ·have hg:=Ba hb hd;refine AF (Bd (As (wv (Ai CP Aa ML Aa Aa) (wv (Ay (i:=0) Pu Aa Aa Aa) ?_))));obtain⟨hh,hi,hj⟩:=AV hg;refine IT Tryz.call76 (P4 F e.fBody hh hi) Aa (wa Aa (A3 (A5 ?_)));obtain rfl:=AC hj;exact A7 (BW Tryz.results58 (AY Aa)) (sS sN) ⟨Aa,Aa⟩
end Go.Proofs.YthbbedliepkakaaGreatDoor.Q
namespace Go.Proofs.YthbbedliepkakaaGreatDoor
open Go
set_option linter.unusedVariables false
structure A8 where
 fVisible:Int
 fReceives:Int
 deriving DecidableEq,Inhabited
structure Ah where
 fPolicy:A8
 fWaiting:(List (AA×Int))
 fDead:(List Aw)
 fNow:Int
 fArrived:Int
 deriving DecidableEq,Inhabited
def JG (n:Int):Option (Bool):=
 some ((decide (0≤n))&&(decide (n≤1073741824)))
def MZ (e:Aw):Option (Aw):=
 B5 (L5 e.fBody) λr3=>some (Aw.mk e.fID e.fTenant e.fSource e.fKey e.fAt e.fCause r3)
def Gm (p:A8):Option ((Ah×(List Ab))×Unit):=
 B7 (((decide (p.fVisible<1))||((decide (1073741824<p.fVisible))||((decide (p.fReceives<1))||(decide (10<p.fReceives)))))) (none) (some (((Ah.mk p ([]:List (AA×Int)) ([]:List Aw) 0 0),([]:List Ab)),()))
def K1 (p:A8):Option (Unit×Unit):=
 B7 (((decide (p.fVisible<1))||((decide (1073741824<p.fVisible))||((decide (p.fReceives<1))||(decide (10<p.fReceives)))))) (some ((),())) (none)
def Sm (q:Ah):Option (Bool):=
 some true
def Dn (x4:Bool):Option (Bool):=
 some x4
def HR (q:Ah)(now:Int):Option (Bool):=
 B7 (decide (q.fNow≤now)) (Dn (decide (now≤1073741824))) (Dn false)
def K0 (q:Ah)(x:Int)(x_p:(List Ab))(now:Int):Option (Bool):=
 Bn (decide (0≤x))<|Bn (C2 x (x_p.length:Int))<|some ((decide (((Ac x_p x).fAt)≤now))&&(decide (q.fPolicy.fReceives≤((Ac x_p x).fReceives))))
def Rn (x:Int)(x_p:(List Ab))(q:Ah)(now:Int):Option (Bool):=
 B5 (K0 (Ah.mk q.fPolicy [] ([]:List Aw) q.fNow q.fArrived) x x_p now) λr1=>some r1
def DY (q:Ah)(q_p2:(List Ab))(now:Int)(he:AA)(ha:Int)(hb:(List Int)):Option (Stp ((List Int)) (Out ((List Int)) ((List Int)))):=
 B5 (Rn ha q_p2 q now) λhd=>B7 (hd) (Bn (JX 8 (hb.length+([ha]:List Int).length))<|some (.next (hb++([ha]:List Int)))) (some (.next hb))
def Dm (q_p2:(List Ab))(ha:(List Int)):Option ((List Int)):=
 Bn (ha.all (λi=>C2 i (q_p2.length:Int)))<|Bn (Dx (λx y:Int=>CB (Ac q_p2 x).fAt (Ac q_p2 y).fAt (Ac q_p2 x).fPlace (Ac q_p2 y).fPlace) ha)<|Bn (Nat.blt ha.length 4611686018427387904)<|some (Gd (λx y:Int=>CB (Ac q_p2 x).fAt (Ac q_p2 y).fAt (Ac q_p2 x).fPlace (Ac q_p2 y).fPlace) ha)
def Gz (q:Ah)(q_p2:(List Ab))(now:Int):Option ((List Int)):=
 Lp q.fWaiting λord=>B5 (Kt (λpe τ=>DY q q_p2 now pe.1 pe.2 τ) ord ([]:List Int)) (BQ λν=>Dm q_p2 ν)
def Ri (x:Int)(x_p:(List Ab))(now:Int):Option (Bool):=
 Bn (decide (0≤x))<|Bn (C2 x (x_p.length:Int))<|some (decide (((Ac x_p x).fAt)≤now))
def DV (q_p2:(List Ab))(now:Int)(he:AA)(ha:Int)(hb:(List Int)):Option (Stp ((List Int)) (Out ((List Int)) ((List Int)))):=
 B5 (Ri ha q_p2 now) λhd=>B7 (hd) (Bn (JX 8 (hb.length+([ha]:List Int).length))<|some (.next (hb++([ha]:List Int)))) (some (.next hb))
def Dj (q_p2:(List Ab))(ha:(List Int)):Option ((List Int)):=
 Bn (ha.all (λi=>C2 i (q_p2.length:Int)))<|Bn (Dx (λx y:Int=>CB (Ac q_p2 x).fAt (Ac q_p2 y).fAt (Ac q_p2 x).fPlace (Ac q_p2 y).fPlace) ha)<|Bn (Nat.blt ha.length 4611686018427387904)<|some (Gd (λx y:Int=>CB (Ac q_p2 x).fAt (Ac q_p2 y).fAt (Ac q_p2 x).fPlace (Ac q_p2 y).fPlace) ha)
def Gw (q:Ah)(q_p2:(List Ab))(now:Int):Option ((List Int)):=
 Lp q.fWaiting λord=>B5 (Kt (λpe τ=>DV q_p2 now pe.1 pe.2 τ) ord ([]:List Int)) (BQ λν=>Dj q_p2 ν)
def Rm (x:Int)(x_p:(List Ab))(now:Int):Option (Bool):=
 Bn (decide (0≤x))<|Bn (C2 x (x_p.length:Int))<|some (decide (((Ac x_p x).fAt)≤now))
def DX (q_p2:(List Ab))(now:Int)(he:AA)(ha:Int)(hb:(List Int)):Option (Stp ((List Int)) (Out ((List Int)) ((List Int)))):=
 B5 (Rm ha q_p2 now) λhd=>B7 (hd) (Bn (JX 8 (hb.length+([ha]:List Int).length))<|some (.next (hb++([ha]:List Int)))) (some (.next hb))
def Dl (q_p2:(List Ab))(ha:(List Int)):Option ((List Int)):=
 Bn (ha.all (λi=>C2 i (q_p2.length:Int)))<|Bn (Dx (λx y:Int=>CB (Ac q_p2 x).fAt (Ac q_p2 y).fAt (Ac q_p2 x).fPlace (Ac q_p2 y).fPlace) ha)<|Bn (Nat.blt ha.length 4611686018427387904)<|some (Gd (λx y:Int=>CB (Ac q_p2 x).fAt (Ac q_p2 y).fAt (Ac q_p2 x).fPlace (Ac q_p2 y).fPlace) ha)
def Gy (q:Ah)(q_p2:(List Ab))(now:Int):Option ((List Int)):=
 Lp q.fWaiting λord=>B5 (Kt (λpe τ=>DX q_p2 now pe.1 pe.2 τ) ord ([]:List Int)) (BQ λν=>Dl q_p2 ν)
def Rl (x:Int)(x_p:(List Ab))(q:Ah)(now:Int):Option (Bool):=
 B5 (K0 (Ah.mk q.fPolicy [] ([]:List Aw) q.fNow q.fArrived) x x_p now) λr1=>some r1
def DW (q:Ah)(q_p2:(List Ab))(now:Int)(he:AA)(ha:Int)(hb:(List Int)):Option (Stp ((List Int)) (Out ((List Int)) ((List Int)))):=
 B5 (Rl ha q_p2 q now) λhd=>B7 (hd) (Bn (JX 8 (hb.length+([ha]:List Int).length))<|some (.next (hb++([ha]:List Int)))) (some (.next hb))
def Dk (q_p2:(List Ab))(ha:(List Int)):Option ((List Int)):=
 Bn (ha.all (λi=>C2 i (q_p2.length:Int)))<|Bn (Dx (λx y:Int=>CB (Ac q_p2 x).fAt (Ac q_p2 y).fAt (Ac q_p2 x).fPlace (Ac q_p2 y).fPlace) ha)<|Bn (Nat.blt ha.length 4611686018427387904)<|some (Gd (λx y:Int=>CB (Ac q_p2 x).fAt (Ac q_p2 y).fAt (Ac q_p2 x).fPlace (Ac q_p2 y).fPlace) ha)
def Gx (q:Ah)(q_p2:(List Ab))(now:Int):Option ((List Int)):=
 Lp q.fWaiting λord=>B5 (Kt (λpe τ=>DW q q_p2 now pe.1 pe.2 τ) ord ([]:List Int)) (BQ λν=>Dk q_p2 ν)
end Go.Proofs.YthbbedliepkakaaGreatDoor
namespace Go.Proofs.YthbbedliepkakaaGreatDoor.Q
open Go Go.RowKit Go.Sort Go.Shelf Go.Proofs
set_option linter.unusedVariables false
set_option linter.unusedSimpArgs false
theorem NT {l:List Nat}{i:Nat}(h:i<l.length):l.getD i 0=l[i]:=by simp[List.getD,h]
def Eg (n:Nat)(i:Int):Nat:=if i.toNat<n∧0≤i then i.toNat else 0
theorem IL {n:Nat}{i:Int}(h:C2 i (n:Int)=true):Eg n i=i.toNat:=by
 have h0:=(Bl h).1;have h1:=(Bl h).2;unfold Eg;rw[UM ⟨by omega,h0⟩]
theorem KO {n:Nat}(h:0<n)(i:Int):Eg n i<n:=by
 unfold Eg
 split
 ·rename_i h1;exact h1.1
 ·exact h
def OA (bs:List Nat)(i:Int):Value:=.pointer (some ⟨bs.getD (Eg bs.length i) 0,0,none⟩)
theorem Rz (bs:List Nat):OneCell (OA bs):=λ_=>rfl
theorem Ly {α:Type}[Inhabited α]{raw:α→Value}{w:World}{g n:Nat}{os:Array Obj}{cur:Array Value}{e:TypeId}{fr:Nat×Nat}(d:Array α)(hb:w.heap[g]? =some (.cells cur e fr)) :
  (sortWorld raw w g 0 n d os).heap[g]? =some (.cells (putCells raw 0 d cur) e fr):=by
 have hg:g<w.heap.size:=(Array.getElem?_eq_some_iff.1 hb).1;unfold sortWorld;rw[heap_grow_old _ _ (by rw[Sort.size_putRow];exact hg)];simp[putRow,mapBlock,Sort.ahead,Array.getElem?_modify,hb,onCells]
theorem Dg {α:Type}[Inhabited α]{raw:α→Value}{w:World}{g n:Nat}{os:Array Obj}(d:Array α){j:Nat}(hj:j<w.heap.size)(hne:j≠g) :
  (sortWorld raw w g 0 n d os).heap[j]? =w.heap[j]?:=by
 unfold sortWorld;rw[heap_grow_old _ _ (by rw[Sort.size_putRow];exact hj)];simp[putRow,mapBlock,Sort.ahead,Array.getElem?_modify,Ne.symm hne]
theorem Le {α:Type}[Inhabited α]{raw:α→Value}{w:World}{g n:Nat}{os:Array Obj}(d:Array α):w.heap.size≤(sortWorld raw w g 0 n d os).heap.size:=by
 unfold sortWorld;rw[size_grow,Sort.size_putRow];exact Nat.le_add_right _ _
theorem Oy {α:Type}[Inhabited α](raw:α→Value)(cur:Array Value)(d:Array α)(h:d.size≤cur.size):(putCells raw 0 d cur).toList.take d.size=d.toList.map raw:=by
 apply List.ext_getElem?;intro j
 by_cases hj:j<d.size
 ·rw[List.getElem?_take_of_lt hj,Array.getElem?_toList];simp[putCells,hj,show j<cur.size by omega]
 ·rw[List.getElem?_take_eq_none (by omega),List.getElem?_eq_none (by simp;omega)]
theorem SC {P:Program}{E:Fz→Prop}{ρ:Ren}(L:SlLaysF.n6 P ρ){T:Type}[Inhabited T]{enc:T→List Rp}{te:TypeId}
  (cf:T→T→Int) (hO:SWO (ltOf cf)) {less:T→T→Bool} (hless:∀x y,less x y=ltOf cf x y) (hL:Sw less)
  (g:Nat) (eg:∀args w,(callFunc g args).run P w = .ok (.enter g args) w)
  (hcmp:∀(x y:T) (b b':Nat) (us us':List Value) (Z:Fz) (W:World),W.heap[b]? =some (.cells us.toArray te (0,0))→W.heap[b']? =some (.cells us'.toArray te (0,0))→AP Z (enc x) us→AP Z (enc y) us'→
   Calls P g #[.pointer (some ⟨b,0,none⟩),.pointer (some ⟨b',0,none⟩)] W λe w'=>e = .returned (.int .i64 (cf x y))∧∃q os',w'=grow (W.drewN q) os')
  {v pv:Value} {e:TypeId} {k:Nat} {xs:List Int} {ps:List T} (hin:xs.all (λi=>C2 i (ps.length:Int))=true) (hd:Dx (λi j=>less (Ac ps i) (Ac ps j)) xs=true) (hsz:Nat.blt xs.length 4611686018427387904=true) :
  Fn P E (ρ.f 6) [rv v,rv (.func (.func g) #[] #[])] [.row v e 1 (xs.map (eP k)),.pool k pv te (ps.map enc)] (λR H=>R=rv (.tuple #[])∧H=[.row v e 1 ((Gd (λi j=>less (Ac ps i) (Ac ps j)) xs).map (eP k)),.pool k pv te (ps.map enc)]):=λw Z vs hv hs=>by
 have e0:vs=[v,.func (.func g) #[] #[]]:=AP.eq_rv (us:=[v,.func (.func g) #[] #[]]) hv;subst e0;have hsz':xs.length<4611686018427387904:=by simpa using hsz
 rw[UR] at hin;obtain⟨h0,us,⟨h2,h3⟩,h4⟩:=hs.ent (i:=0) rfl;obtain⟨hq0,hql,hq⟩:=hs.ent (i:=1) rfl;rcases h3 with⟨rfl,hz0⟩ | ⟨b,cap,cur,rfl,_,hb,hcap,hm,hcs,htk⟩
 ·simp at hz0;subst hz0;refine(AnyF.slices_SortFunc_none (P:=P) (ρ:=ρ) { L with } none 0 (.func (.func g) #[] #[]) w).mono ?_;rintro e' w' ⟨rfl,rfl⟩;exact⟨_,_,_,Z,rfl,⟨rfl,rfl⟩,rfl,hs⟩
 ·rw[UB] at hql;have hbl:(Ct pv).length=ps.length:=hql;have hnm:∀i∈xs,Z.nm k i.toNat=some ((Ct pv).getD (Eg (Ct pv).length i) 0):=λi hi=>by
   have h5:=hin i hi;have h6:=(Bl h5).1;have h7:=(Bl h5).2;have hb':i.toNat<(Ct pv).length:=by omega
   obtain⟨h8,_⟩:=hq i.toNat (Ct pv)[i.toNat] (enc (ps[i.toNat]'(by omega))) (U5 hb') (by simp[show i.toNat<ps.length by omega]);rw[h8,hbl,IL h5,NT hb']
  have hval:∀i∈xs,∀u,(BA k i 0).p Z u→u=OA (Ct pv) i:=λi hi u hu=>by
   change KR k i 0 Z u at hu
   unfold KR at hu;rw[UD (by have:=(Bl (hin i hi)).1;omega)] at hu;obtain⟨b',h5,h6⟩:=hu;rw[hnm i hi] at h5;rw[h6,← Option.some.inj h5];rfl
  have hback:∀i∈xs,(BA k i 0).p Z (OA (Ct pv) i):=λi hi=>by
   show KR k i 0 Z _;unfold KR;rw[UD (by have:=(Bl (hin i hi)).1;omega)];exact⟨_,hnm i hi,rfl⟩
  have hus:∀(ys:List Int) (us:List Value),(∀i∈ys,i∈xs)→AP Z (ys.map (eP k)).flatten us→us=ys.map (OA (Ct pv)):=by
   intro ys
   induction ys with
   | nil=>
    intro us _ h
    cases us with
    | nil=>rfl
    | cons _ _=>exact absurd h id
   | cons y r ih=>
    intro us hy h
    cases us with
    | nil=>exact absurd h id
    | cons u us=>
     obtain⟨h5,h6⟩:=h;rw[hval y (hy y (by simp)) u h5,ih us (λi hi=>hy i (by simp[hi])) h6];rfl
  have hto:∀(ys:List Int),(∀i∈ys,i∈xs)→AP Z (ys.map (eP k)).flatten (ys.map (OA (Ct pv))):=by
   intro ys
   induction ys with
   | nil=>intro _;exact trivial
   | cons y r ih=>intro hy;exact⟨hback y (hy y (by simp)),ih (λi hi=>hy i (by simp[hi]))⟩
  have eus:=hus xs us (λ_ h=>h) h4;subst eus;simp only[UB,Nat.mul_one] at h2 hcap htk;have hblk:b<w.heap.size:=(Array.getElem?_eq_some_iff.1 hb).1;rcases Nat.eq_zero_or_pos xs.length with hx0 | hx0
  ·have hxn:xs=[]:=UO hx0;subst hxn;refine(AnyF.slices_SortFunc_none (P:=P) (ρ:=ρ) { L with } (some ⟨b,0,none⟩) cap (.func (.func g) #[] #[]) w).mono ?_;rintro e' w' ⟨rfl,rfl⟩;exact⟨_,_,_,Z,rfl,⟨rfl,rfl⟩,rfl,hs⟩
  ·have hpos:0<ps.length:=by
    obtain⟨x,hx⟩:=List.exists_mem_of_length_pos hx0;have:=Bl (hin x hx);omega
   let cfI:Int→Int→Int:=λi j=>cf (Ac ps (Eg ps.length i:Nat)) (Ac ps (Eg ps.length j:Nat))
   have hOI:SWO (ltOf cfI):=⟨λx=>hO.irrefl _,λx y z h1 h2=>hO.trans _ _ _ h1 h2,λx y z h1 h2=>hO.ntrans _ _ _ h1 h2⟩
   have hH:Holds (OA (Ct pv)) w b 0 xs.toArray:=by
    intro j hj;have hj':j<xs.length:=by simpa using hj
    refine⟨?_,by simp[World.frozen?,hb]⟩;have h5:(cur.toList.take xs.length)[j]? =(xs.map (OA (Ct pv)))[j]?:=by rw[htk]
    rw[List.getElem?_take_of_lt (by omega)] at h5;simp only[World.cell?,hb,UZ,Option.isSome_none,Vc,Vk];rw[← Array.getElem?_toList,h5];simp[hj']
   have hblkp:∀i:Nat,i<ps.length→∃us,w.heap[(Ct pv).getD i 0]? =some (.cells us.toArray te (0,0))∧AP Z (enc (Ac ps (i:Int))) us∧(Ct pv).getD i 0≠b:=λi hi=>by
    have hb':i<(Ct pv).length:=by omega
    obtain⟨h8,us,h9,ha⟩:=hq i (Ct pv)[i] (enc (ps[i]'hi)) (U5 hb') (by simp[hi]);rw[NT hb'];refine⟨us,h9,by rw[show Ac ps (i:Int)=ps[i] from by simp[Ac,hi]];exact ha,λe1=>?_⟩;have hdis:=hs.dis;rw[List.pairwise_cons] at hdis;exact hdis.1 (.pool k pv te (ps.map enc)) (by simp) b (by simp[Ent.foot,Value.ownBlock]) (by rw[← e1];exact List.getElem_mem hb')
   have hcl:CmpLays1 P g #[] (OA (Ct pv)) cfI b 0 xs.toArray.size w:=λm os dk hdk x y=>by
    obtain⟨ux,hx1,hx2,hx3⟩:=hblkp (Eg ps.length x) (KO hpos x);obtain⟨uy,hy1,hy2,hy3⟩:=hblkp (Eg ps.length y) (KO hpos y);have hxl:=(Array.getElem?_eq_some_iff.1 hx1).1;have hyl:=(Array.getElem?_eq_some_iff.1 hy1).1;have:=hcmp _ _ _ _ ux uy Z (sortWorld (OA (Ct pv)) w b 0 m dk os) (by rw[Dg dk hxl hx3];exact hx1) (by rw[Dg dk hyl hy3];exact hy1) hx2 hy2;simp only[OA,hbl];exact this
   have hsl:(Value.slice (some ⟨b,0,none⟩) (xs.map (eP k)).length cap) = .slice (some ⟨b,0,none⟩) xs.toArray.size cap:=by simp
   have hcon:=Any.slices_SortFunc (P:=P) (ρ:=ρ) L (OA (Ct pv)) (Rz _) cfI hOI g #[] b 0 cap xs.toArray w eg hcl hH hblk (by simpa using hsz');have hargs:[Value.slice (some ⟨b,0,none⟩) (xs.map (eP k)).length cap,Value.func (.func g) #[] #[]].toArray = #[.slice (some ⟨b,0,none⟩) xs.toArray.size cap,.func (.func g) #[] #[]]:=by rw[hsl]
   rw[hargs];refine hcon.mono ?_;rintro e' w' ⟨rfl,d',n,os,hp,hsd,rfl⟩;have hds:d'.size=xs.length:=by simpa using hp.1
   have hperm:d'.toList.Perm xs:=by
    have:=hp.2.2;rw[Array.extract_eq_self_of_le (by rw[hp.1];exact UI _),Array.extract_eq_self_of_le (UI _)] at this;exact this
   have hmem:∀i∈d'.toList,i∈xs:=λi hi=>hperm.mem_iff.1 hi;have hpw:d'.toList.Pairwise λi j=>less (Ac ps j) (Ac ps i)=false:=by
    rw[List.pairwise_iff_getElem];intro i j hi hj hij;have hi':i<d'.size:=by simpa using hi
    have hj':j<d'.size:=by simpa using hj
    have:=hsd i j (Vo _) hij (by simpa[hds] using hj');rw[getElem!_pos d' j hj',getElem!_pos d' i hi'] at this;have ci:=IL (hin _ (hmem _ (List.getElem_mem hi)));have cj:=IL (hin _ (hmem _ (List.getElem_mem hj)));have ni:=(Bl (hin _ (hmem _ (List.getElem_mem hi)))).1;have nj:=(Bl (hin _ (hmem _ (List.getElem_mem hj)))).1;simp only[Array.getElem_toList] at ci cj ni nj ⊢;rw[hless];have h9:ltOf cfI d'[j] d'[i]=ltOf cf (Ac ps (Eg ps.length d'[j]:Nat)) (Ac ps (Eg ps.length d'[i]:Nat)):=rfl;rw[h9,ci,cj,Int.toNat_of_nonneg ni,Int.toNat_of_nonneg nj] at this;exact this
   have hLI:Sw λi j:Int=>less (Ac ps i) (Ac ps j):=⟨λx=>hL.irrefl _,λx y z h1 h2=>hL.ntrans _ _ _ h1 h2,λx y h=>hL.asym _ _ h⟩
   have hxs:d'.toList=Gd (λi j=>less (Ac ps i) (Ac ps j)) xs:=PF hLI hd hperm hpw;have hl2:(Gd (λi j=>less (Ac ps i) (Ac ps j)) xs).length=xs.length:=(CW _ xs).length_eq;have hset:=hs.set (i:=0) (w':=sortWorld (OA (Ct pv)) w b 0 n d' os) (e':=.row (.slice (some ⟨b,0,none⟩) (xs.map (eP k)).length cap) e 1 ((Gd (λi j=>less (Ac ps i) (Ac ps j)) xs).map (eP k))) rfl rfl rfl rfl (Le d') (λj hj hne=>Dg d' hj (λe1=>hne (by simp[Ent.foot,Value.ownBlock,e1])))
    ⟨λcl hcl=>by obtain⟨x,_,rfl⟩:=List.mem_map.1 hcl;rfl,d'.toList.map (OA (Ct pv)),⟨by simp[hds,hl2],.inr ⟨b,cap,_,by simp[hl2],Vo _,Ly d' hb,by simpa[hl2] using hcap,hm,by simpa[putCells] using hcs,by
     rw[UB,hl2,Nat.mul_one,← hds];exact Oy _ cur d' (by omega)⟩⟩,by rw[← hxs];exact hto _ hmem⟩ (by simp[Ent.foot,Value.ownBlock])
   exact⟨_,_,_,Z,rfl,⟨rfl,rfl⟩,rfl,hset⟩
end Go.Proofs.YthbbedliepkakaaGreatDoor.Q
