/-
  Texts of the proof, put together: IdC, ShelfV, PlD, PlE, FwJ, IdR, TzL, QG, QS, QO, RowQ, PQB, WQB, PVa, WVa, PVb, WVb, PVc, WVc, PVd.
-/
import Derived.Test.YtogdediiodmnbaaGreatDoorEB1
import Derived.Shelf.Strings.Builder1
import Derived.Shelf.Strings.Count
import Derived.Shelf.Strings.Search1
import Derived.Shelf.Strings.Search2
import Derived.Shelf.Strings.Search3
import Derived.Shelf.Small.Strs
import Derived.Shelf.LaysM
import Derived.Shelf.LaysC
import Derived.Test.YtogdediiodmnbaaGreatDoorProg
import Derived.Lib.ItoaMem
import Derived.Shelf.Lays7
import Derived.Shelf.Spec.TrailingZeros
import Derived.Laws.BytesString
import Derived.Lib.Builder
import Derived.Lib.UnsafeStr
import Derived.Lib.AppendStr
import Derived.Laws.Externs
import Derived.Deep.Slices
import Derived.ChangeArms
import Derived.DataReads
import Derived.Laws.Tables
import Derived.Lib.Bytealg
import Derived.Lib.SmallJoins
namespace Go.Proofs.YtogdediiodmnbaaGreatDoor
open Go Go.RowKit
set_option linter.unusedVariables false
set_option linter.unusedSimpArgs false
set_option maxRecDepth 100000
theorem S2 (p:List UInt8)(hp:p.length≤281474976710656)(w:World):Calls Tryz.prog 96 [.string (B (p))].toArray w (KS w (.bool (Jt p))):=by
 refine In (n:=43) Tryz.func96 rfl Tryz.ntmps96 rfl (As (At (AD (Ae rfl) rfl (Aw (AA (Bs ?_))))));refine As (At (AD (Aq rfl) rfl (AD (Ae rfl) rfl (Aw (AA (Bs ?_))))));refine AX [(0,.string (B (p))),(2,.bool (false)),(3,.string (B ((if ((decide ((0)<((p.length:Int))))&&(decide ((Br p 0)=(45))))=true then List.drop (Int.toNat (1)) p else p))))] [] (φ:=True) ?_ (λh1=>?_)
 ·refine AX [(0,.string (B (p))),(2,.bool (false)),(3,.string (B (p))),(13,.bool (((decide ((0)<((p.length:Int))))&&(decide ((Br p 0)=(45))))))] [] (φ:=True) ?_ (λh2=>?_)
  ·refine At (AD (Aq rfl) rfl (AD (BC CC rfl) rfl (AD (DN rfl rfl) rfl (AD (Aq rfl) rfl (Bb (decide ((0)<((p.length:Int)))) (λhd=>?_) (λhd=>?_))))))
   ·have hk:=hd;try simp only[Yg,Yf] at hk
    have hl:=hd;try simp at hl
    refine Bo rfl rfl hd (AD (Aq rfl) rfl (Bo rfl rfl hd (AD (BA CC rfl rfl (by first | omega | exact GG (by assumption)) (by first | omega | exact GG (by assumption))) rfl (Bo rfl rfl hd (AD (Ca rfl rfl) rfl (AD (A7 rfl hd rfl) rfl (Aw ?_)))))));exact AA (BS trivial ⟨rfl,rfl,rfl,fb (by first | (simp only[hd,Yv,Y5,YJ,Y0,Y7,YA,YK,YB,Ys,Y9,Ym,Yj,Ze,YX,reduceIte,YO];done) | simp[hd]),trivial⟩ .slnil)
   ·have hk:=hd;try simp only[Yg,Yf] at hk
    have hl:=hd;try simp at hl
    refine A3 rfl rfl hd rfl (A3 rfl rfl hd rfl (A3 rfl rfl hd rfl (AD (AP rfl hd rfl) rfl (Aw ?_))));exact AA (BS trivial ⟨rfl,rfl,rfl,fb (by first | (simp only[hd,Yv,Y5,YJ,Y0,Y7,YA,YK,YB,Ys,Y9,Ym,Yj,Ze,YX,reduceIte,YO];done) | simp[hd]),trivial⟩ .slnil)
  refine Az (b:=((decide ((0)<((p.length:Int))))&&(decide ((Br p 0)=(45))))) rfl (λhg=>?_) (λhg=>?_)
  ·have hm:=hg;try simp only[Yg,Yf] at hm
   have hn:=hg;try simp at hn
   refine At (AD (Aq rfl) rfl (AD (DY CC rfl rfl (by first | omega | (simp;omega)) (by first | omega | (simp;omega))) rfl (AD (Ae rfl) rfl (Aw ?_))));exact AA (BS trivial ⟨rfl,rfl,fs (by first | (simp only[hg,Yv,Y5,YJ,Y0,Y7,YA,YK,YB,Ys,Y9,Ym,Yj,Ze,YX,reduceIte,YO];done) | simp[hg]),trivial⟩ .slnil)
  ·have hm:=hg;try simp only[Yg,Yf] at hm
   have hn:=hg;try simp at hn
   refine A4 ?_;exact AA (BS trivial ⟨rfl,rfl,fs (by first | (simp only[hg,Yv,Y5,YJ,Y0,Y7,YA,YK,YB,Ys,Y9,Ym,Yj,Ze,YX,reduceIte,YO];done) | simp[hg]),trivial⟩ .slnil)
 have hdg:GU p=(if ((decide ((0)<((p.length:Int))))&&(decide ((Br p 0)=(45))))=true then List.drop (Int.toNat (1)) p else p):=rfl;have hdl:=U2 p;rw[hdg] at hdl;generalize(if ((decide ((0)<((p.length:Int))))&&(decide ((Br p 0)=(45))))=true then List.drop (Int.toNat (1)) p else p)=dg at hdg hdl ⊢;refine As (AX [(2,.bool (false)),(3,.string (B (dg))),(26,.bool (((decide ((dg)=(([]:List UInt8))))||((decide ((Br dg 0)=(48)))&&(!(decide ((p)=(([48]:List UInt8)))))))))] [] (φ:=True) ?_ (λh3=>?_))
 ·refine At (AD (Aq rfl) rfl (AD (Hk rfl rfl) rfl (AD (Aq rfl) rfl (Bb (decide ((dg)=(([]:List UInt8)))) (λha=>?_) (λha=>?_)))))
  ·have ho:=ha;try simp only[Yg,Yf] at ho
   have hq:=ha;try simp at hq
   refine A3 rfl rfl ha rfl (A3 rfl rfl ha rfl (A3 rfl rfl ha rfl (A3 rfl rfl ha rfl (EE rfl rfl rfl (EE rfl rfl rfl (A3 rfl rfl ha rfl (AD (A7 rfl ha rfl) rfl (Aw ?_))))))));exact AA (BS trivial ⟨rfl,rfl,fb (by first | (simp only[ha,Yv,Y5,YJ,Y0,Y7,YA,YK,YB,Ys,Y9,Ym,Yj,Ze,YX,reduceIte,YO];done) | simp[ha]),trivial⟩ .slnil)
  ·have ho:=ha;try simp only[Yg,Yf] at ho
   have hq:=ha;try simp at hq
   refine Bo rfl rfl ha (AD (Aq rfl) rfl (Bo rfl rfl ha (AD (BA CC rfl rfl (by first | omega | exact GG (by assumption)) (by first | omega | exact GG (by assumption))) rfl (Bo rfl rfl ha (AD (Ca rfl rfl) rfl (Bo rfl rfl ha (AD (Aq rfl) rfl (Bb (decide ((Br dg 0)=(48))) (λhe=>?_) (λhe=>?_)))))))))
   ·have hr:=he;try simp only[Yg,Yf] at hr
    have hs:=he;try simp at hs
    refine Bo rfl rfl he (AD (Aq rfl) rfl (Bo rfl rfl he (AD (JS rfl rfl) rfl (Bo rfl rfl ha (AD (A7 rfl he rfl) rfl (AD (AP rfl ha rfl) rfl (Aw ?_)))))));exact AA (BS trivial ⟨rfl,rfl,fb (by first | (simp only[ha,he,Yv,Y5,YJ,Y0,Y7,YA,YK,YB,Ys,Y9,Ym,Yj,Ze,YX,reduceIte,YO];done) | simp[ha,he]),trivial⟩ .slnil)
   ·have hr:=he;try simp only[Yg,Yf] at hr
    have hs:=he;try simp at hs
    refine A3 rfl rfl he rfl (A3 rfl rfl he rfl (Bo rfl rfl ha (AD (AP rfl he rfl) rfl (AD (AP rfl ha rfl) rfl (Aw ?_)))));exact AA (BS trivial ⟨rfl,rfl,fb (by first | (simp only[ha,he,Yv,Y5,YJ,Y0,Y7,YA,YK,YB,Ys,Y9,Ym,Yj,Ze,YX,reduceIte,YO];done) | simp[ha,he]),trivial⟩ .slnil)
 refine Az (b:=((decide ((dg)=(([]:List UInt8))))||((decide ((Br dg 0)=(48)))&&(!(decide ((p)=(([48]:List UInt8)))))))) rfl (λhf=>?_) (λhf=>?_)
 ·have ht:=hf;try simp only[Yg,Yf] at ht
  have hu:=hf;try simp at hu
  refine As (At (AD (Ae rfl) rfl (Aw (AA (Bs ?_)))));refine A1 (Af (A0 (Ce rfl rfl) ?_));exact JH (by simp only[Jt,hdg,hf];rfl)
 ·have ht:=hf;try simp only[Yg,Yf] at ht
  have hu:=hf;try simp at hu
  refine A4 (AA (Bs ?_));refine As (As (At (AD (Aq rfl) rfl (AD (BC CC rfl) rfl (AD (Aq rfl) rfl (Aw (AA (Bs ?_))))))));refine AY (Lw (S:=Nat) (λ(k:Nat)=>k≤dg.length∧Bt D5 0 dg=Bt D5 k (dg.drop k)) (λ(k:Nat)=>[(29,.int .i64 ((k:Int))),(3,.string (B (dg))),(28,.int .i64 ((dg.length:Int)))]) (λ(k:Nat)=>[]) (λ(k:Nat)=>dg.length-k) (0) ?_ ⟨fi (by first | rfl | (simp;done) | omega | (simp;omega)),rfl,rfl,trivial⟩ .slnil ?_)
  ·exact⟨YE _,by simp⟩
  rintro k hi0;refine As (At (AD (Dn rfl rfl) rfl (Aw (AA (Bs ?_)))));refine As (Az (b:=decide (((k:Int))<((dg.length:Int)))) rfl (λhh=>?_) (λhh=>?_))
  ·have hj:=hh;try simp only[Yg,Yf] at hj
   have hw:=hh;try simp at hw
   refine A4 (AA (Bs ?_));refine As (AY (As (At (AD (Aq rfl) rfl (AD (Ae rfl) rfl (Aw (AA (Bs ?_))))))));refine AX [(3,.string (B (dg))),(4,.int .i64 ((k:Int))),(28,.int .i64 ((dg.length:Int))),(29,.int .i64 ((k:Int))),(30,.bool (decide (((k:Int))<((dg.length:Int))))),(31,.int .i64 ((k:Int))),(32,.string (B (dg))),(33,.int .i64 ((k:Int))),(34,.int .u8 (Br dg (k:Int))),(35,.bool (decide ((Br dg (k:Int))<(48)))),(36,.bool (decide ((Br dg (k:Int))<(48)))),(41,.bool (((decide ((Br dg (k:Int))<(48)))||(decide ((57)<(Br dg (k:Int)))))))] [] (φ:=True) ?_ (λh4=>?_)
   ·refine At (AD (Aq rfl) rfl (AD (Aq rfl) rfl (AD (BA CC rfl rfl (by first | omega | exact GG (by assumption)) (by first | omega | exact GG (by assumption))) rfl (AD (Dn rfl rfl) rfl (AD (Aq rfl) rfl (Bb (decide ((Br dg (k:Int))<(48))) (λhb=>?_) (λhb=>?_)))))))
    ·have hx:=hb;try simp only[Yg,Yf] at hx
     have hy:=hb;try simp at hy
     refine A3 rfl rfl hb rfl (A3 rfl rfl hb rfl (A3 rfl rfl hb rfl (A3 rfl rfl hb rfl (AD (A7 rfl hb rfl) rfl (Aw ?_)))));exact AA (BS trivial ⟨rfl,rfl,rfl,rfl,rfl,rfl,rfl,rfl,rfl,rfl,rfl,fb (by first | (simp only[hf,hh,hb,Yv,Y5,YJ,Y0,Y7,YA,YK,YB,Ys,Y9,Ym,Yj,Ze,YX,reduceIte,YO];done) | simp[hf,hh,hb]),trivial⟩ .slnil)
    ·have hx:=hb;try simp only[Yg,Yf] at hx
     have hy:=hb;try simp at hy
     refine Bo rfl rfl hb (AD (Aq rfl) rfl (Bo rfl rfl hb (AD (Aq rfl) rfl (Bo rfl rfl hb (AD (BA CC rfl rfl (by first | omega | exact GG (by assumption)) (by first | omega | exact GG (by assumption))) rfl (Bo rfl rfl hb (AD (DN rfl rfl) rfl (AD (AP rfl hb rfl) rfl (Aw ?_)))))))));exact AA (BS trivial ⟨rfl,rfl,rfl,rfl,rfl,rfl,rfl,rfl,rfl,rfl,rfl,fb (by first | (simp only[hf,hh,hb,Yv,Y5,YJ,Y0,Y7,YA,YK,YB,Ys,Y9,Ym,Yj,Ze,YX,reduceIte,YO];done) | simp[hf,hh,hb]),trivial⟩ .slnil)
   refine Az (b:=((decide ((Br dg (k:Int))<(48)))||(decide ((57)<(Br dg (k:Int)))))) rfl (λhi=>?_) (λhi=>?_)
   ·have hz:=hi;try simp only[Yg,Yf] at hz
    have h0:=hi;try simp at h0
    refine As (At (AD (Ae rfl) rfl (Aw (AA (Bs ?_)))));refine A1 (AC (Af (Af (AC (Af (A0 (Ce rfl rfl) ?_))))));exact JH (by simp[Jt,hdg,WU hi0 hj hi])
   ·have hz:=hi;try simp only[Yg,Yf] at hz
    have h0:=hi;try simp at h0
    refine A4 (AV (AA (Bs ?_)));refine At (AD (BZ rfl rfl (IntWalk.i64_in _ (by omega))) rfl (AD (Aq rfl) rfl (Aw (AA (AU (k+1) ?_ ⟨fi (by first | rfl | (simp;done) | omega | (simp;omega)),rfl,rfl,trivial⟩ .slnil)))));exact U3 hi0 hj hi
  ·have hj:=hh;try simp only[Yg,Yf] at hj
   have hw:=hh;try simp at hw
   refine BQ (AE (AE (B4 (AA (Bs ?_)))));refine As (At (AD (Ae rfl) rfl (Aw (AA (Bs ?_)))));refine A1 (A0 (Ce rfl rfl) ?_);exact JH (by simp only[Jt,hdg,hf,VT hi0 hj];rfl)
theorem Uo (m:Int)(h0 : -9223372036854775808≤m)(h1:m≤9223372036854775807)(w:World)(hE:R0 w):Calls Tryz.prog 60 [.int .i64 (m)].toArray w (KS w (.string (B (Lib.itoa m)))):=by
 refine In (n:=5) Tryz.func60 rfl Tryz.ntmps60 rfl (As (At (AD (Ae rfl) rfl (Aw (AA (Bs ?_))))));refine As (At (AD (Aq rfl) rfl (Co Tryz.call93 rfl (λw hw=>WJ m (by omega) (by omega) w (hE.st0 hw)) rfl (AD (Ae rfl) rfl (Aw (AA (Bs ?_)))))));refine A1 (A0 (Ce rfl rfl) ?_);exact JH (by first | rfl | simp[])
theorem Vw (p:List UInt8)(hp:p.length≤281474976710656)(w:World)(hE:R0 w):Calls Tryz.prog 67 [.string (B (p))].toArray w (KS w (.tuple #[.int .i64 (Bw p),.int .i64 (BD p)])):=by
 refine In (n:=22) Tryz.func67 rfl Tryz.ntmps67 rfl (As (At (AD (Ae rfl) rfl (AD (Ae rfl) rfl (Aw (AA (Bs ?_)))))));refine As (As (At (AD (Aq rfl) rfl (Co Tryz.call96 rfl (λw hw=>S2 p (by first | omega | (simp;done) | (simp;omega) | (simp at *;omega)) w) rfl (AD (BT rfl) rfl (Aw (AA (Bs ?_))))))));refine Az (b:=!(Jt p)) rfl (λhb=>?_) (λhb=>?_)
 ·have hf:=hb;try simp only[Yg,Yf] at hf
  have ha:=hb;try simp only[Yg,Yf,Yl,YN,Yy,Bool.not_eq_false',Zb,Yz,not_or,Int.not_lt,Int.not_le] at ha
  refine As (At (AD (Ae rfl) rfl (AD (Ae rfl) rfl (Aw (AA (Bs ?_))))));refine A1 (Af (A0 (EP rfl rfl rfl) ?_));exact JH (by simp[Bw,BD,ha])
 ·have hf:=hb;try simp only[Yg,Yf] at hf
  have ha:=hb;try simp only[Yg,Yf,Yl,YN,Yy,Bool.not_eq_false',Zb,Yz,not_or,Int.not_lt,Int.not_le] at ha
  refine A4 (AA (Bs ?_));refine As (At (AD (Aq rfl) rfl ?_));rcases UJ (p:=p) (by assumption) with⟨av,hav,hal,hah⟩ | hav
  ·refine Co Tryz.call97 rfl (λw _=>Wa p (by first | omega | (simp;done) | (simp;omega) | (simp at *;omega)) av hav w) rfl (AD (Aq rfl) rfl (AD (AB rfl rfl) rfl (AD (AB rfl rfl) rfl (AD (Ae rfl) rfl (AD (Ae rfl) rfl (Aw (AA (Bs ?_))))))));refine As (AX [(2,.int .i64 (0)),(3,.int .i64 (0)),(4,.int .i64 (av)),(20,.bool (!(Ds av)))] [] (φ:=True) ?_ (λhh=>?_))
   ·exact At (AD (Aq rfl) rfl (AD (Ph Tryz.underlying136 rfl) rfl (AD (Aq rfl) rfl (Bo rfl rfl rfl (AD (Aq rfl) rfl (Bo rfl rfl rfl (Co Tryz.call98 rfl (λw hw=>Vj av w) rfl (Bo rfl rfl rfl (AD (BT rfl) rfl (AD (AP rfl rfl rfl) rfl (Aw (AA (BS trivial ⟨rfl,rfl,rfl,rfl,trivial⟩ .slnil)))))))))))))
   refine Az (b:=!(Ds av)) rfl (λhd=>?_) (λhd=>?_)
   ·have hg:=hd;try simp only[Yg,Yf] at hg
    have he:=hd;try simp only[Yg,Yf,Yl,YN,Yy,Bool.not_eq_false',Zb,Yz,not_or,Int.not_lt,Int.not_le] at he
    refine As (At (AD (Ae rfl) rfl (AD (Ae rfl) rfl (Aw (AA (Bs ?_))))));refine A1 (Af (A0 (EP rfl rfl rfl) ?_));exact JH (by simp[Bw,BD,hav,ha,he])
   ·have hg:=hd;try simp only[Yg,Yf] at hg
    have he:=hd;try simp only[Yg,Yf,Yl,YN,Yy,Bool.not_eq_false',Zb,Yz,not_or,Int.not_lt,Int.not_le] at he
    refine A4 (AA (Bs ?_));refine As (At (AD (Aq rfl) rfl (AD (Ae rfl) rfl (AD (Ae rfl) rfl (Aw (AA (Bs ?_)))))));refine A1 (A0 (EP rfl rfl rfl) ?_);exact JH (by simp[Bw,BD,hav,ha,he])
  ·refine Vi Tryz.call97 rfl (λw hw=>Q9 p (by first | omega | (simp;done) | (simp;omega) | (simp at *;omega)) hav w (hE.st0 hw)) rfl ?_;rintro _ _ ⟨am,at_,ab,rfl,rfl⟩;refine AD (Aq rfl) rfl (AD (AB rfl rfl) rfl (AD (AB rfl rfl) rfl (AD (Ae rfl) rfl (AD (Ae rfl) rfl (Aw (AA (Bs ?_)))))));refine As (AX [(2,.int .i64 (0)),(3,.int .i64 (0)),(4,.int .i64 (am)),(20,.bool (true))] [] (φ:=True) ?_ (λhi=>?_))
   ·exact At (AD (Aq rfl) rfl (AD (V3 Tryz.underlying136 rfl) rfl (AD (Aq rfl) rfl (A3 rfl rfl rfl rfl (A3 rfl rfl rfl rfl (A3 rfl rfl rfl rfl (AD (A7 rfl rfl rfl) rfl (Aw (AA (BS trivial ⟨rfl,rfl,rfl,rfl,trivial⟩ .slnil))))))))))
   refine Ed rfl rfl (As (At (AD (Ae rfl) rfl (AD (Ae rfl) rfl (Aw (AA (Bs ?_)))))));refine A1 (Af (A0 (EP rfl rfl rfl) ?_));exact JH (by simp[Bw,BD,hav,ha])
end Go.Proofs.YtogdediiodmnbaaGreatDoor
namespace Go.Proofs
open Go.Shelf
def Tryz.lays169_ren:Go.Shelf.Ren:=⟨fun | 169=>95 | n=>n,fun | 70=>128 | 9=>9 | 0=>0 | 72=>131 | 37=>129 | 127=>165 | 3=>3 | 5=>5 | n=>n,fun | n=>n⟩
theorem Tryz.lays169:Go.Proofs.Lays.n169 Tryz.prog Tryz.lays169_ren:={
 mixed:=by kernel_rfl
 f169:=Tryz.func95.trans (congrArg some (by kernel_rfl))
 t0:=Tryz.underlying0
 a0:=Tryz.isAgg0
 z0:=Tryz.sizeOf0
 v0:=Tryz.zeroValue0
 t3:=Tryz.underlying3
 a3:=Tryz.isAgg3
 z3:=Tryz.sizeOf3
 v3:=Tryz.zeroValue3
 t9:=Tryz.underlying9
 a9:=Tryz.isAgg9
 z9:=Tryz.sizeOf9
 v9:=Tryz.zeroValue9
 t37:=Tryz.underlying129
 a37:=Tryz.isAgg129
 z37:=Tryz.sizeOf129
 v37:=Tryz.zeroValue129
 t70:=Tryz.underlying128
 a70:=Tryz.isAgg128
 z70:=Tryz.sizeOf128
 v70:=Tryz.zeroValue128
 t72:=Tryz.underlying131
 a72:=Tryz.isAgg131
 z72:=Tryz.sizeOf131
 v72:=Tryz.zeroValue131
 t127:=Tryz.underlying165
 a127:=Tryz.isAgg165
 z127:=Tryz.sizeOf165
 v127:=Tryz.zeroValue165 }
theorem Tryz.Builder_Extra_169:Builder.Extra Tryz.prog Tryz.lays169_ren:={
 sizeBuilder:=by kernel_rfl
 liesBuilder:=by kernel_rfl
 t5:=Tryz.underlying5
 a5:=Tryz.isAgg5
 z5:=Tryz.sizeOf5
 v5:=Tryz.zeroValue5
 infoByte:=by kernel_rfl
 cellsByte:=by kernel_rfl
 sizeByte:=by kernel_rfl
 neB5:=by decide }
open Go.RowKit in
theorem Tryz.Builder_String_any (B b:Nat)(l:List UInt8)(w:World)(h:Lib.IsBuilder 131 5 B b (Lib.byteCells l) w)(hBw:B≤w.heap.size) :
  Calls Tryz.prog 95 #[.pointer (some ⟨b,0,none⟩)] w λe w'=>e = .returned (.string ⟨l.toArray⟩)∧Below B w w':=Any.Builder_String_any Tryz.lays169 Tryz.Builder_Extra_169 B b l w h hBw
def Tryz.lays138_ren:Go.Shelf.Ren:=⟨fun | 138=>134 | 195=>163 | 218=>164 | 143=>165 | 219=>182 | 217=>190 | 225=>191 | 224=>192 | 267=>193 | 266=>196 | 314=>197 | n=>n,fun | 9=>9 | 3=>3 | 4=>4 | 5=>5 | 0=>0 | 46=>134 | 146=>226 | 51=>186 | n=>n,fun | 1=>2 | n=>n⟩
theorem Tryz.lays138:Go.Proofs.Lays.n138 Tryz.prog Tryz.lays138_ren:={
 mixed:=by kernel_rfl
 f138:=Tryz.func134.trans (congrArg some (by kernel_rfl))
 f143:=Tryz.func165.trans (congrArg some (by kernel_rfl))
 f195:=Tryz.func163.trans (congrArg some (by kernel_rfl))
 f217:=Tryz.func190.trans (congrArg some (by kernel_rfl))
 f218:=Tryz.func164.trans (congrArg some (by kernel_rfl))
 f219:=Tryz.func182.trans (congrArg some (by kernel_rfl))
 f224:=Tryz.func192.trans (congrArg some (by kernel_rfl))
 f225:=Tryz.func191.trans (congrArg some (by kernel_rfl))
 f266:=Tryz.func196.trans (congrArg some (by kernel_rfl))
 f267:=Tryz.func193.trans (congrArg some (by kernel_rfl))
 f314:=Tryz.func197.trans (congrArg some (by kernel_rfl))
 t0:=Tryz.underlying0
 a0:=Tryz.isAgg0
 z0:=Tryz.sizeOf0
 v0:=Tryz.zeroValue0
 t3:=Tryz.underlying3
 a3:=Tryz.isAgg3
 z3:=Tryz.sizeOf3
 v3:=Tryz.zeroValue3
 t4:=Tryz.underlying4
 a4:=Tryz.isAgg4
 z4:=Tryz.sizeOf4
 v4:=Tryz.zeroValue4
 t5:=Tryz.underlying5
 a5:=Tryz.isAgg5
 z5:=Tryz.sizeOf5
 v5:=Tryz.zeroValue5
 t9:=Tryz.underlying9
 a9:=Tryz.isAgg9
 z9:=Tryz.sizeOf9
 v9:=Tryz.zeroValue9
 t46:=Tryz.underlying134
 a46:=Tryz.isAgg134
 z46:=Tryz.sizeOf134
 v46:=Tryz.zeroValue134
 t51:=Tryz.underlying186
 a51:=Tryz.isAgg186
 z51:=Tryz.sizeOf186
 v51:=Tryz.zeroValue186
 t146:=Tryz.underlying226
 a146:=Tryz.isAgg226
 z146:=Tryz.sizeOf226
 v146:=Tryz.zeroValue226
 g1:=by kernel_rfl }
open Go.RowKit Go.Lib in
theorem Tryz.strings_Count_one (s:ByteArray)(c:UInt8)(w:World) :
  Calls Tryz.prog 134 #[.string s,.string ⟨#[c]⟩] w λe w'=>e = .returned (.int .i64 (Lib.countByte s.data.toList c))∧w'=w:=Any.strings_Count_one Tryz.lays138 s c w
end Go.Proofs
namespace Go.Proofs.YtogdediiodmnbaaGreatDoor
open Go
set_option linter.unusedVariables false
set_option linter.unusedSimpArgs false
theorem UL {f:Nat→UInt8→Bool}:∀{l:List UInt8} {i:Nat},(∀j,∀u∈l,f j u=true)→Bt f i l=true
 | [],_,_=>rfl
 | x::r,i,h=>by simp only[Bt,Yl];exact⟨h i x (by simp),UL λj u hu=>h j u (by simp[hu])⟩
theorem QS:∀(l:List UInt8) (acc v:Nat) (c:UInt8),Lib.parseUint10 acc l = .ok v→48≤c.toNat→c.toNat≤57→v<1844674407370955161→Lib.parseUint10 acc (l++[c]) = .ok (v*10+(c.toNat-48))
 | [],acc,v,c,h,h0,h1,hv=>by
  simp only[Lib.parseUint10,Lib.NumEnd.ok.injEq] at h;subst h;simp only[YU,Lib.parseUint10];rw[Y6 ⟨h0,h1⟩,Yw (by omega),Yw (by omega)]
 | x::r,acc,v,c,h,h0,h1,hv=>by
  simp only[YS,Lib.parseUint10] at h ⊢
  split at h
  ·rename_i hx
   rw[Y6 hx]
   split at h
   ·cases h
   ·rename_i hy
    rw[Yw hy]
    split at h
    ·cases h
    ·rename_i hz
     rw[Yw hz];exact QS r _ v c h h0 h1 hv
  ·cases h
theorem Jm {d:Nat}(h:d<10):(UInt8.ofNat (48+d)).toNat=48+d:=by
 simp[UInt8.toNat_ofNat'];omega
theorem VW (u:Nat):∀c∈Lib.decDigits u,48≤c.toNat∧c.toNat≤57:=by
 induction u using Nat.strongRecOn with
 | ind u ih=>
  intro c hc;rw[Lib.decDigits] at hc
  split at hc
  ·simp only[Y3] at hc;subst hc;rw[Jm (by omega)];omega
  ·rcases List.mem_append.1 hc with hc | hc
   ·exact ih (u/10) (by omega) c hc
   ·simp only[Y3] at hc;subst hc;rw[Jm (by omega)];omega
theorem S3 (u:Nat):u<18446744073709551610→Lib.parseUint10 0 (Lib.decDigits u) = .ok u:=by
 induction u using Nat.strongRecOn with
 | ind u ih=>
  intro hu;rw[Lib.decDigits]
  split
  ·rename_i h
   simp only[Lib.parseUint10];rw[Jm h,Y6 (by omega),Yw (by omega),Yw (by omega)]
   congr 1;omega
  ·rename_i h
   have:=QS (Lib.decDigits (u/10)) 0 (u/10) (UInt8.ofNat (48+u % 10)) (ih (u/10) (by omega) (by omega)) (by rw[Jm (by omega)];omega) (by rw[Jm (by omega)];omega) (by omega);rw[this,Jm (by omega)]
   congr 1;omega
theorem U4 (u:Nat):Lib.decDigits u≠[]:=by
 rw[Lib.decDigits];split<;>simp
theorem S4 (u:Nat):1≤u→Br (Lib.decDigits u) 0≠48:=by
 induction u using Nat.strongRecOn with
 | ind u ih=>
  intro hu;rw[Lib.decDigits]
  split
  ·rename_i h
   have:=Jm h;simp only[Br,Int.toNat_zero,List.getElem?_cons_zero,YC];rw[this];omega
  ·rename_i h
   have h1:=ih (u/10) (by omega) (by omega);have hne:=U4 (u/10);unfold Br at h1 ⊢;rw[show(0:Int).toNat=0 from rfl] at h1 ⊢
   rwa [YP (by cases hd:Lib.decDigits (u/10) with | nil=>exact absurd hd hne | cons=>simp)]
theorem VV (u:Nat)(h:u<10):Lib.decDigits u=[UInt8.ofNat (48+u)]:=by rw[Lib.decDigits];simp[h]
theorem Ud {m:Int}(h0:0≤m):Lib.itoa m=Lib.decDigits m.toNat:=by
 have:=Lib.itoa_nonneg m.toNat
 rwa [show((m.toNat:Nat):Int)=m from by omega] at this
theorem Ss {m:Int}(h0:0≤m)(h1:m≤1000000000000):BD (Lib.itoa m)=0∧Bw (Lib.itoa m)=m:=by
 rw[Ud h0];generalize hu:m.toNat=u;have hub:u≤1000000000000:=by omega
 have hall:=VW u;have hne:=U4 u;have hd0:∃c r,Lib.decDigits u=c::r:=by cases h:Lib.decDigits u with | nil=>exact absurd h hne | cons c r=>exact⟨c,r,rfl⟩
 obtain⟨c,r,hcr⟩:=hd0;have hc:48≤c.toNat∧c.toNat≤57:=hall c (by simp[hcr]);have hs:LS (Lib.decDigits u)=false:=by
  rw[hcr];have e:Br (c::r) 0=c.toNat:=rfl;simp only[LS,e,Zb,Yf]
  right;omega
 have hdg:GU (Lib.decDigits u)=Lib.decDigits u:=by simp[GU,hs]
 have hdec:Jt (Lib.decDigits u)=true:=by
  simp only[Jt,hdg];have h2:Bt D5 0 (Lib.decDigits u)=true:=UL λj x hx=>by
   have:=hall x hx;simp[D5];omega
  rw[h2];have h3:decide (Lib.decDigits u=[])=false:=by simpa using hne
  rw[h3]
  by_cases hz:u=0
  ·subst hz;rw[VV 0 (by omega)];rfl
  ·have:=S4 u (by omega);simp[this]
 have hat:Lib.atoiAll (Lib.decDigits u) = .ok (u:Int):=by
  have h4:=S3 u (by omega);rw[hcr] at h4 ⊢;rw[Lib.atoiAll_plain c r (by omega) (by omega)];have:Lib.parseMag (c::r) = .ok u:=by unfold Lib.parseMag;rw[Yw (by simp)];exact h4
  rw[this];simp only[Lib.signless];rw[Yw (by omega)]
 have hv:Ds (u:Int)=true:=by simp[Ds];omega
 simp only[BD,Bw,hdec,Ze,hat,hv];exact⟨trivial,by omega⟩
open Go Go.RowKit
section
variable {P : Program} {n : Nat} {w0 : World} {M : List Nat} {l : Fr} {H : List Ent} {d : Option Nat} {x y : Operand} {ty t t' : TypeId} {pos : String} {af : Array Edge} {g : Option (Nat × Bool)} {k : IntKind} {p q z : Int}
end
set_option maxRecDepth 100000
end Go.Proofs.YtogdediiodmnbaaGreatDoor
namespace Go.Proofs
open Go.Shelf
end Go.Proofs
namespace Go.Proofs.YtogdediiodmnbaaGreatDoor.Q
open Go Go.RowKit
set_option linter.unusedVariables false
def GE (Z:Fz):Prop:=∀w,Rz Z w→R0 w
theorem GE.mono {Z Z':Fz}(h:Fz.le Z Z')(hg:GE Z):GE Z':=λw hw=>hg w ⟨λb o e=>hw b o (h b o e),λk i b e=>hw.nm k i b (h.nm k i b e)⟩
theorem MW.rle {P:Program}{E:Fz→Prop}{f:FuncId}{args:List Rp}{r r':Rp}(h:MW P E f args r)(hr:ER r r'):MW P E f args r':=λw Z vs hv hs=>
 (h w Z vs hv hs).mono λe w' ⟨q,v,H,Z',he,⟨hq,hH⟩,hp,ht⟩=>⟨r',v,H,Z',he,⟨rfl,hH⟩,hr Z' v (hq▸hp),ht⟩
theorem ER.tup2 {a b:Value}:ER (rv (.tuple #[a,b])) (C0 [rv a,rv b]):=λZ v h=>⟨[a,b],h,rfl,rfl,trivial⟩
theorem MW.of_id {P:Program}{E:Fz→Prop}{f:FuncId}{vs:List Value}{v:Value}(h:∀w,Calls P f vs.toArray w (λe w'=>e = .returned v∧w'=w)):MW P E f (vs.map rv) (rv v):=
 MW.of_old λw Z _ _=>(h w).mono λe w' ⟨he,hw⟩=>⟨he,by rw[hw];exact Proofs.YtogdediiodmnbaaGreatDoor.St.refl w []⟩
theorem Mw (m:Int)(g:Ci .i64 m=true):MW Tryz.prog GE 60 [rI .i64 m] (rS (Lib.itoa m)):=MW.of_old (vs:=[.int .i64 m]) λw Z hf he=>Uo m (Ke g).1 (Ke g).2 w (he w hf)
theorem QW (s:Ah)(g:DI 1 s.length=true):MW Tryz.prog GE 67 [rS s] (C0 [rI .i64 (Bw s),rI .i64 (BD s)]):=(MW.of_old (vs:=[.string (B s)]) λw Z hf he=>Vw s (by simp[DI] at g;omega) w (he w hf)).rle ER.tup2
theorem Rr (s:Ah)(c:UInt8):MW Tryz.prog GE 134 [rS s,rS [c]] (rI .i64 (Lib.countByte s c)):=MW.of_id (vs:=[.string (B s),.string (B [c])]) λw=>by have:=Tryz.strings_Count_one (B s) c w;rwa [QD] at this
theorem Xy (s:Ah):MW Tryz.prog GE 73 [rS s] (rB (Jy s)):=MW.of_old (vs:=[.string (B s)]) λw Z hf he=>XK s w
set_option linter.unusedSimpArgs false
theorem Hf (l:List UInt8):((CO l).map Bl).flatten=(l.map λc=>Value.int .u8 c.toNat).map rv:=by
 induction l with
 | nil=>rfl
 | cons c r ih=>simp only[CO,YR,List.flatten_cons] at ih ⊢;rw[ih];rfl
theorem Do (l:List UInt8):(CO l).length=l.length:=by simp[CO]
theorem JG {P:Program}{w:World}{t t' e:TypeId}{inf:TypeInfo}{v:Value}{m:Nat}{us:List Value}{s:List UInt8}(ty:TypeId)(ht:P.underlying t=some (.slice e))(hu:P.underlying t'=some .string)(hinf:P.info? e=some inf)(hz:inf.zero=some (.int .u8 0))(hsize:inf.size=1)(hby:inf.bytes=1)
  (hown:w.ownsRow 0 e 1 v m us) (hb:m+s.length≤140737488355328) :
  ∃v' w',(Builtin.append_ #[t,t'] ty #[v,.string (B s)]).run P w = .ok v' w'∧w'.ownsRow 0 e 1 v' (m+s.length) (us++s.map λc=>Value.int .u8 c.toNat)∧w.grownBy w' v.ownBlock∧(v'.ownBlock=v.ownBlock∨∀b,v'.ownBlock=some b→w.heap.size≤b):=by
 have hsz:(B s).size=s.length:=D7 s;have hcells:Lib.strCells (B s)=s.map λc=>Value.int .u8 c.toNat:=by simp[Lib.strCells,B]
 rcases hown.2 with⟨rfl,rfl⟩ | ⟨g,cap,cur,rfl,hbg,hg,hnc,hcm,hcs,htake⟩
 ·have hx:us=[]:=YF (by simpa using hown.1);subst hx;obtain⟨v',w',e1,e2,e3,_⟩:=Lib.run_append_own_string (P:=P) (w:=w) w.heap.size t t' ty e inf ht hu hinf hz hsize hby (.slice none 0 0) 0 [] (World.ownsRow_nil w _ e 1) (B s) (by rw[hsz];simp only[maxLen];omega) (by rw[hsz];omega) (Y2 _);rw[hsz,hcells] at e2;refine⟨v',w',e1,⟨e2.1,?_⟩,e3,.inr λb hb=>(e2.lt b hb).1⟩;rcases e2.2 with h | ⟨g,cap,cur,h,_,rest⟩
  ·exact .inl h
  ·exact .inr ⟨g,cap,cur,h,YE _,rest⟩
 ·obtain⟨v',w',e1,e2,e3,_⟩:=Lib.run_append_own_string (P:=P) (w:=w) 0 t t' ty e inf ht hu hinf hz hsize hby _ m us hown (B s) (by rw[hsz];simp only[maxLen];omega) (by rw[hsz];omega) (YE _);rw[hsz,hcells] at e2;refine⟨v',w',e1,e2,e3,?_⟩
  by_cases hroom:m+(B s).size≤cap
  ·have hr:=Lib.run_append_room_string (P:=P) w t t' ty e inf ht hu hinf hsize g m cap cur hg (B s) hroom (by simp at hcs;omega);rw[hr] at e1;simp only[Result.ok.injEq] at e1;rw[← e1.1];exact .inl rfl
  ·have holds:∀j u,us[j]? =some u→w.cell? ((⟨g,0,none⟩:Addr).add j)=some u:=hown.cells (g:=g) rfl;have hr:=Lib.run_append_grow_string (P:=P) w t t' ty e inf (.int .u8 0) ht hu hinf hz ⟨g,0,none⟩ m cap us (by rw[hsize];exact hown.1) holds (B s) (by omega) (by rw[hsz];omega) (by rw[hby];exact growslice_fits (by omega) (by rw[hsz];omega));rw[hr] at e1;simp only[Result.ok.injEq] at e1;rw[← e1.1];exact .inr λb hb=>by simp[Value.ownBlock] at hb;omega
section
variable {P : Program} {n : Nat} {c : Cx} {ops : Array Oper} {Q : Exit → Act → World → Prop} {rest : List Oper} {l : Fr} {H H' : List Ent} {d : Nat} {d' : Option Nat} {x y z3 : Operand} {ty t t' e : TypeId} {pos : String} {af : Array Edge} {g : Option (Nat × Bool)} {v u : Value} {r : Rp} {sz : Nat} {K : Act → World → Prop}
theorem St.tobld {Z:Fz}{w:World}(h:St c H Z w){i b:Nat}{te T:TypeId}(hi:H[i]? =some (.blk b [rv (.pointer none),rv (.slice none 0 0)] T)):St c (H.set i (.bld T te b (.slice none 0 0) [])) Z w:=by
 refine h.set hi rfl rfl rfl (Y2 _) (λ_ _ _=>rfl) ?_ (by simp[Ent.foot,Value.ownBlock]);obtain⟨us,h1,h2⟩:=h.ent hi;have:=Bd.eq_rv (us:=[.pointer none,.slice none 0 0]) h2;subst this;exact⟨_,.inl rfl,h1,⟨by simp,.inl ⟨rfl,rfl⟩⟩,by simp[Value.ownBlock]⟩
theorem WK.tobld {i b:Nat}{te T:TypeId}(hi:H[i]? =some (.blk b [rv (.pointer none),rv (.slice none 0 0)] T))(h:WK n c K l (H.set i (.bld T te b (.slice none 0 0) []))):WK n c K l H:=λa w Z ha hw=>h a w Z ha (St.tobld hw hi)
theorem WL.tobld {i b:Nat}{te T:TypeId}(hi:H[i]? =some (.blk b [rv (.pointer none),rv (.slice none 0 0)] T))(h:WL P n c ops Q rest l (H.set i (.bld T te b (.slice none 0 0) []))):WL P n c ops Q rest l H:=λa w Z ha hw=>h a w Z ha (St.tobld hw hi)
theorem WC.tobld {xx:Code}{i b:Nat}{te T:TypeId}(hi:H[i]? =some (.blk b [rv (.pointer none),rv (.slice none 0 0)] T))(h:WC P n c xx Q l (H.set i (.bld T te b (.slice none 0 0) []))):WC P n c xx Q l H:=λa w Z ha hw=>h a w Z ha (St.tobld hw hi)
theorem Fn.bld {E:Fz→Prop}{f:FuncId}{args:List Rp}{T te:TypeId}{b:Nat}{v:Value}{s s':List UInt8}{res:Rp}
  (h:∀p,(p = .pointer none∨p = .pointer (some ⟨b,0,none⟩))→Fn P E f args [.blk b [rv p,rv v] T,.row v te 1 ((CO s).map Bl)] (λR H=>∃w0:Value,R=res∧H=[.blk b [rv (.pointer (some ⟨b,0,none⟩)),rv w0] T,.row w0 te 1 ((CO s').map Bl)])) :
  Fn P E f args [.bld T te b v s] (λR H=>∃w0:Value,R=res∧H=[.bld T te b w0 s']):=λw Z vs hv hs=>by
 obtain⟨p,hp,h1,h2,h3⟩:=hs.has _ (List.mem_singleton.2 rfl);have hfoot:[Ent.bld T te b v s].flatMap Ent.foot=[Ent.blk b [rv p,rv v] T,Ent.row v te 1 ((CO s).map Bl)].flatMap Ent.foot:=by simp[Ent.foot]
 have hs':St ⟨w,Z,[Ent.blk b [rv p,rv v] T,Ent.row v te 1 ((CO s).map Bl)].flatMap Ent.foot,E,[]⟩ [Ent.blk b [rv p,rv v] T,Ent.row v te 1 ((CO s).map Bl)] Z w:=by
  refine⟨rfl,rfl,rfl,Y2 _,λ_ _ _=>rfl,?_,λe he k hk=>.inr (List.mem_flatMap.2 ⟨e,he,hk⟩),?_,hs.frz,Fz.le.refl _,λ_ _ e=>.inl e,λe he k hk=>?_,hs.env,hs.emono,Kq.none rfl⟩
  ·intro e he;simp only[YW,List.not_mem_nil,or_false] at he;rcases he with rfl | rfl
   ·exact⟨[p,v],h1,rfl,rfl,trivial⟩
   ·refine⟨λcl hcl=>by obtain⟨z,_,rfl⟩:=List.mem_map.1 hcl;rfl,_,by simpa[Do] using h2,?_⟩;rw[Hf];exact Bd.rvs Z _
  ·refine List.pairwise_cons.2 ⟨λe he k hk hk'=>?_,List.pairwise_singleton ..⟩;simp only[Y3] at he;subst he;simp only[Ent.foot,Y3] at hk;subst hk;simp only[Ent.foot,Option.mem_toList] at hk';exact h3 hk'
  ·have hmem:k∈[Ent.bld T te b v s].flatMap Ent.foot:=by rw[hfoot];exact List.mem_flatMap.2 ⟨e,he,hk⟩
   obtain⟨e',he',hk'⟩:=List.mem_flatMap.1 hmem;exact hs.zdis e' he' k hk'
 rw[hfoot] at hs ⊢;refine(h p hp w Z vs hv hs').mono λe w' ⟨R,vv,H,Z',he,⟨w0,hR,hH⟩,hpR,ht⟩=>⟨R,vv,[.bld T te b w0 s'],Z',he,⟨w0,hR,rfl⟩,hpR,?_⟩
 subst hH;obtain⟨us,k1,k2⟩:=ht.has (.blk b [rv (.pointer (some ⟨b,0,none⟩)),rv w0] T) (by simp);obtain⟨k3,ws,k4,k5⟩:=ht.has (.row w0 te 1 ((CO s').map Bl)) (by simp);have e1:=Bd.eq_rv (us:=[.pointer (some ⟨b,0,none⟩),w0]) k2;subst e1;rw[Hf] at k5;have e2:=Bd.eq_rv k5;subst e2;have hd:=List.pairwise_cons.1 ht.dis;have hne:w0.ownBlock≠some b:=λhb=>hd.1 _ (List.mem_singleton.2 rfl) b (by simp[Ent.foot]) (by simp[Ent.foot,hb]);refine { ht with has:=?_,own:=?_,dis:=List.pairwise_singleton ..,zdis:=?_,gst:=⟨by simp[Ent.gk],by simp[Ent.gk],List.pairwise_singleton ..,ht.gst.new,by simp[Ent.gk]⟩ }
 ·intro e' he';simp only[Y3] at he';subst he';exact⟨_,.inr rfl,k1,by simpa[Do] using k4,hne⟩
 ·intro e' he' k hk;simp only[Y3] at he';subst he';simp only[Ent.foot,YW] at hk;rcases hk with rfl | hk
  ·exact ht.own (.blk k [rv (.pointer (some ⟨k,0,none⟩)),rv w0] T) (by simp) k (by simp[Ent.foot])
  ·exact ht.own (.row w0 te 1 ((CO s').map Bl)) (by simp) k hk
 ·intro e' he' k hk;simp only[Y3] at he';subst he';simp only[Ent.foot,YW] at hk;rcases hk with rfl | hk
  ·exact ht.zdis (.blk k [rv (.pointer (some ⟨k,0,none⟩)),rv w0] T) (by simp) k (by simp[Ent.foot])
  ·exact ht.zdis (.row w0 te 1 ((CO s').map Bl)) (by simp) k hk
theorem Fn.bldS {E:Fz→Prop}{f:FuncId}{args:List Rp}{T te:TypeId}{b:Nat}{v:Value}{s:List UInt8}{res:Rp}
  (h:∀p,(p = .pointer none∨p = .pointer (some ⟨b,0,none⟩))→Fn P E f args [.blk b [rv p,rv v] T,.row v te 1 ((CO s).map Bl)] (λR H=>R=res∧H=[])) :
  Fn P E f args [.bld T te b v s] (λR H=>R=res∧H=[]):=λw Z vs hv hs=>by
 obtain⟨p,hp,h1,h2,h3⟩:=hs.has _ (List.mem_singleton.2 rfl);have hfoot:[Ent.bld T te b v s].flatMap Ent.foot=[Ent.blk b [rv p,rv v] T,Ent.row v te 1 ((CO s).map Bl)].flatMap Ent.foot:=by simp[Ent.foot]
 have hs':St ⟨w,Z,[Ent.blk b [rv p,rv v] T,Ent.row v te 1 ((CO s).map Bl)].flatMap Ent.foot,E,[]⟩ [Ent.blk b [rv p,rv v] T,Ent.row v te 1 ((CO s).map Bl)] Z w:=by
  refine⟨rfl,rfl,rfl,Y2 _,λ_ _ _=>rfl,?_,λe he k hk=>.inr (List.mem_flatMap.2 ⟨e,he,hk⟩),?_,hs.frz,Fz.le.refl _,λ_ _ e=>.inl e,λe he k hk=>?_,hs.env,hs.emono,Kq.none rfl⟩
  ·intro e he;simp only[YW,List.not_mem_nil,or_false] at he;rcases he with rfl | rfl
   ·exact⟨[p,v],h1,rfl,rfl,trivial⟩
   ·refine⟨λcl hcl=>by obtain⟨z,_,rfl⟩:=List.mem_map.1 hcl;rfl,_,by simpa[Do] using h2,?_⟩;rw[Hf];exact Bd.rvs Z _
  ·refine List.pairwise_cons.2 ⟨λe he k hk hk'=>?_,List.pairwise_singleton ..⟩;simp only[Y3] at he;subst he;simp only[Ent.foot,Y3] at hk;subst hk;simp only[Ent.foot,Option.mem_toList] at hk';exact h3 hk'
  ·have hmem:k∈[Ent.bld T te b v s].flatMap Ent.foot:=by rw[hfoot];exact List.mem_flatMap.2 ⟨e,he,hk⟩
   obtain⟨e',he',hk'⟩:=List.mem_flatMap.1 hmem;exact hs.zdis e' he' k hk'
 rw[hfoot] at hs ⊢;exact h p hp w Z vs hv hs'
theorem TB (hu:∃e',P.underlying t=some (.pointer e'))(hx:ev l x=some (rv (.pointer none))):Bn P n c l H { dst:=d',op:=.binOp .eql t x (.const (.pointer none)) t',type:=ty,pos:=pos,after:=af,guard:=g } (rB true):=λa w Z ha _=>CN<|by
 obtain⟨e',hu⟩:=hu;have h1:∀dd:Nat,(Op.equalIn (dd+1) t (.pointer none) (.pointer none)).run P w = .ok true w:=λdd=>by simp[Op.equalIn,run_underlying hu]
 have h2:(Op.equal t (.pointer none) (.pointer none)).run P w = .ok true w:=h1 9999;have h3:(eqGuard .eql t x (.const (.pointer none)) (.pointer none) (.pointer none)).run P w = .ok () w:=by unfold eqGuard;split<;>simp
 have hy:a.eval (.const (.pointer none)) = .pointer none:=rfl;simp only[execOp,ha.eval hx,hy,Sem.run_bind,h3,Result.andThen_ok,binOp,h2,Sem.run_pure]
theorem RZ {p:Addr}(hu:∃e',P.underlying t=some (.pointer e'))(hx:ev l x=some (rv (.pointer (some p)))):Bn P n c l H { dst:=d',op:=.binOp .neq t x (.const (.pointer none)) t',type:=ty,pos:=pos,after:=af,guard:=g } (rB true):=λa w Z ha _=>CN<|by
 obtain⟨e',hu⟩:=hu;have h1:∀dd:Nat,(Op.equalIn (dd+1) t (.pointer (some p)) (.pointer none)).run P w = .ok false w:=λdd=>by simp[Op.equalIn,run_underlying hu]
 have h2:(Op.equal t (.pointer (some p)) (.pointer none)).run P w = .ok false w:=h1 9999;have h3:(eqGuard .neq t x (.const (.pointer none)) (.pointer (some p)) (.pointer none)).run P w = .ok () w:=by unfold eqGuard;split<;>simp
 have hy:a.eval (.const (.pointer none)) = .pointer none:=rfl;simp only[execOp,ha.eval hx,hy,Sem.run_bind,h3,Result.andThen_ok,binOp,h2,Sem.run_pure];rfl
theorem Qj {p:Addr}{te:TypeId}(hu:P.underlying t=some (.pointer te))(hi:∃j,P.info? te=some j)(hx:ev l x=some (rv (.pointer (some p))))(hy:ev l y=some (rv (.pointer (some p)))):Bn P n c l H { dst:=d',op:=.binOp .neq t x y t',type:=ty,pos:=pos,after:=af,guard:=g } (rB false):=λa w Z ha _=>CN<|by
 obtain⟨j,hj⟩:=hi;have h3:(eqGuard .neq t x y (.pointer (some p)) (.pointer (some p))).run P w = .ok () w:=by unfold eqGuard;split<;>simp
 simp only[execOp,ha.eval hx,ha.eval hy,Sem.run_bind,h3,Result.andThen_ok,Lib.run_neq_ptr_same w p hu hj,Sem.run_pure]
theorem Ng {w:World}{Z:Fz}{i b:Nat}{cs:List Rp}(hw:St c H Z w)(hi:H[i]? =some (.blk b cs e)):w.shape? b=some (e,cs.length):=by
 obtain⟨us,h1,h2⟩:=hw.ent hi;simp[World.shape?,h1,h2.length]
theorem Pe {i b:Nat}{cs:List Rp}{te:TypeId}(hs:P.underlying t=some (.pointer te))(hd:P.underlying t'=some .unsafePointer)(hj:∃j,P.info? te=some j∧j.size≠0)(hx:ev l x=some (rv (.pointer (some ⟨b,0,none⟩))))(hi:H[i]? =some (.blk b cs e))(hl:Nat.blt 0 cs.length=true) :
  Bn P n c l H { dst:=d',op:=.convert t t' x,type:=ty,pos:=pos,after:=af,guard:=g } (rv (.pointer (some ⟨b,0,none⟩))):=λa w Z ha hw=>CN<|by
 obtain⟨j,hj1,hj2⟩:=hj;have:=Lib.run_to_unsafe (P:=P) w ⟨b,0,none⟩ hs hd hj1 hj2 (Ng hw hi) (by simpa using hl);simp[execOp,ha.eval hx,this]
theorem MO {i b:Nat}{cs:List Rp}{te:TypeId}(hs:P.underlying t=some .unsafePointer)(hd:P.underlying t'=some (.pointer te))(hj:∃j,P.info? te=some j)(hx:ev l x=some (rv (.pointer (some ⟨b,0,none⟩))))(hi:H[i]? =some (.blk b cs e))(hl:liesAt P P.depth e (cs.length/P.cellsOf e) 0 te 1=true) :
  Bn P n c l H { dst:=d',op:=.convert t t' x,type:=ty,pos:=pos,after:=af,guard:=g } (rv (.pointer (some ⟨b,0,none⟩))):=λa w Z ha hw=>CN<|by
 obtain⟨j,hj1⟩:=hj;have:=Lib.run_from_unsafe (P:=P) w ⟨b,0,none⟩ hs hd hj1 (Ng hw hi) hl;simp[execOp,ha.eval hx,this]
theorem V1 {f : FuncId} {fn : Func} {ats : Array TypeId} (hf : P.funcs[f]? = some fn) (hname : (fn.name == "runtime.NumGoroutine") = false) (hb : fn.body.isNone = true) (hn : Extern.findNext fn = none) (he : Extern.find fn = some Extern.AbiNoEscape.same) (hx : ev l x = some (rv v)) :
  Bn P n c l H { dst:=d',op:=.call { callee:=.value (.func f),args:=#[x],argTypes:=ats },type:=ty,pos:=pos,after:=af,guard:=g } (rv v):=λa w Z ha hw=>CN<|by
 have h1:=run_callFunc_extern (P:=P) (w:=w) (args:=#[v]) hf hname hb hn he;rw[Lib.run_noEscape] at h1;simp only[execOp,resolve,Sem.run_bind,Sem.run_pure,Result.andThen_ok,Act.eval,Deferred.ofValue,invoke];simp only[List.map_toArray,YR,List.map_nil,ha.eval hx,Array.append_empty,Array.empty_append];simpa using h1
theorem L3 {α:Type}{xs:List α}{enc:α→List Rp}(h:decide (0<xs.length)=true):decide (0<(xs.map enc).length)=true:=by simpa using h
section
variable {P : Program} {n : Nat} {c : Cx} {l : Fr} {H : List Ent} {d' : Option Nat} {x : Operand} {ty t t' e : TypeId} {pos : String} {af : Array Edge} {g : Option (Nat × Bool)} {v : Value}
theorem Wu:∀(ns:List Int) (p:List UInt8),ns.foldl (λr n=>r.push (UInt8.ofNat n.toNat)) (B p)=B (p++PI ns)
 | [],p=>by simp[PI]
 | n::ns,p=>by
  have e:(B p).push (UInt8.ofNat n.toNat)=B (p++[UInt8.ofNat n.toNat]):=by simp[B,ByteArray.push]
  simp only[List.foldl_cons,e];rw[Wu ns];simp[PI]
theorem U0 (xs:List Int):(xs.map Bl).flatten=(xs.map λc=>Value.int .u8 c).map rv:=by
 induction xs with
 | nil=>rfl
 | cons a r ih=>simp[Bl,ih]
theorem Wp {i:Nat}{xs:List Int}(hs:P.underlying t=some (.slice e))(hd:P.underlying t'=some .string)(he:P.underlying e=some (.int .u8))(hx:ev l x=some (rv v))(hi:H[i]? =some (.row v e 1 (xs.map Bl))) :
  Bn P n c l H { dst:=d',op:=.convert t t' x,type:=ty,pos:=pos,after:=af,guard:=g } (rS (PI xs)):=λa w Z ha hw=>by
 obtain⟨_,us,⟨h1,h2⟩,h3⟩:=hw.ent hi;rw[U0] at h3;have e2:=Bd.eq_rv h3;subst e2;refine⟨.string (B (PI xs)),rfl,?_⟩;have hlx:=ha.eval hx;rcases h2 with⟨rfl,hz⟩ | ⟨b,cap,cur,rfl,_,hb,hcap,hm,hcs,htk⟩
 ·have hx0:xs=[]:=by simpa using hz
  subst hx0;have:=run_convert_bytes_string w t t' e none 0 0 hs he hd;simp only[execOp,hlx];have e3:(Conv.bytesToString (.slice none 0 0)).run P w = .ok (.string (B [])) w:=rfl;rw[e3] at this;simp[this,PI]
 ·simp only[Yt,Nat.mul_one] at htk hcap hcs h1;have hld:=run_loadCells_list (P:=P) w ⟨b,0,none⟩ (xs.map λc=>Value.int .u8 c) (λj u hj=>by
   rw[HH,YQ,cell_of_row w b j cur e (0,0) hb];rw[← htk,YM] at hj
   split at hj
   ·simpa using hj
   ·cases hj)
  rw[Yt] at hld;have h4:=run_bytesToString w ⟨b,0,none⟩ xs.length cap xs hld;have h5:=run_convert_bytes_string w t t' e (some ⟨b,0,none⟩) xs.length cap hs he hd;have h6:=Wu xs [];rw[h4,show ByteArray.empty=B [] from rfl,h6] at h5;simp[execOp,hlx,h5]
end
def Xc:Value→Value
 | .slice a _ _=>.pointer a
 | v=>v
theorem Le {i:Nat}{ts:Array TypeId}{xs:List (List Rp)}(hx:ev l x=some (rv v))(hi:H[i]? =some (.row v e sz xs))(hg:decide (0<xs.length)=true) :
  Bn P n c l H { dst:=d',op:=.call { callee:=.builtin .unsafeSliceData,args:=#[x],argTypes:=ts },type:=ty,pos:=pos,after:=af,guard:=g } (rv (Xc v)):=λa w Z ha hw=>CN<|by
 obtain⟨_,us,⟨_,h2⟩,_⟩:=hw.ent hi;have h0:0<xs.length:=by simpa using hg
 rcases h2 with⟨rfl,hz⟩ | ⟨b,cap,cur,rfl,_,_,hc,_⟩
 ·omega
 ·have:=Lib.run_unsafeSliceData_row (P:=P) w ts ty ⟨b,0,none⟩ xs.length cap (by omega);simp[execOp,resolve,invoke,builtin,ha.eval hx,this,Xc]
def X4 (P:Program)(n:Nat)(c:Cx)(l:Fr)(H:List Ent)(o:Oper)(r:Rp)(H':List Ent):Prop:=∀a w Z,C6 n l a Z→St c H Z w→∃v w' Z',Fz.le Z Z'∧r.p Z' v∧(execOp a.eval o).run P w = .ok (.value v) w'∧St c H' Z' w'
theorem Xm {opsA:Array Oper}{op:Op}(hr:X4 P n c l H { dst:=some d,op:=op,type:=ty,pos:=pos,after:=af,guard:=none } r H'):DR P n c opsA Q l H { dst:=some d,op:=op,type:=ty,pos:=pos,after:=af,guard:=none } r H':=λa w Z K0 ha hw hK=>
 ⟨λ_=>by
  obtain⟨v,w',Z',hz,hv,he,hs⟩:=hr a w Z ha hw;unfold Oper.wp;rw[he];exact hK v w' Z' hz hv hs,λh=>by simp[Region.wanted] at h⟩
theorem It {i:Nat}{pt it:TypeId}{s:List UInt8}(hp:P.underlying pt=some (.pointer e))(hc:P.cellsOf e=1)(hx:ev l x=some (rv (Xc v)))(hy:ev l y=some (rI .i64 ((CO s).length:Int)))(hi:H[i]? =some (.row v e 1 ((CO s).map Bl)))(hg:decide (0<((CO s).map Bl).length)=true)(hH:H.eraseIdx i=H') :
  X4 P n c l H { dst:=some d,op:=.call { callee:=.builtin .unsafeString,args:=#[x,y],argTypes:=#[pt,it] },type:=ty,pos:=pos,after:=af,guard:=none } (rS s) H':=λa w Z ha hw=>by
 obtain⟨_,us,⟨h1,h2⟩,h3⟩:=hw.ent hi;rw[Hf] at h3;have e2:=Bd.eq_rv h3;subst e2;have h0:0<s.length:=by simpa[Do] using hg
 rcases h2 with⟨rfl,hz⟩ | ⟨b,cap,cur,rfl,_,hb,hcap,hm,hcs,htk⟩
 ·simp[Do] at hz;subst hz;simp at h0
 ·simp only[Yt,Do,Nat.mul_one] at htk hcap hcs h1;have hus:=Lib.run_unsafeString_row (P:=P) w pt it ty e hp hc b cur.size (by simp[World.shape?,hb]) s (by intro e;subst e;simp at h0) (by omega) (by simp only[maxLen] at hm;omega) (λj x hj=>by
   rw[HH,YQ,cell_of_row w b j cur e (0,0) hb];have:(s.map λc=>Value.int .u8 c.toNat)[j]? =some (.int .u8 x.toNat):=by simp[hj]
   rw[← htk,YM] at this
   split at this
   ·simpa using this
   ·cases this)
  have hmem:=Yu hi;have hfr:=hw.front hi;have hd:=List.pairwise_cons.1 hfr.dis;have hst:=hfr.sub (List.sublist_cons_self _ _);have hkeep:∀k,k≠b→(w.freeze ⟨b,0,none⟩ s.length).heap[k]? =w.heap[k]?:=λk hk=>by
   simp only[World.freeze]
   split
   ·rfl
   ·simp only[Array.getElem?_modify];rw[Yw (λe=>hk e.symm)]
  have hzb:Z b=none:=hw.zdis _ hmem b (by simp[Ent.foot,Value.ownBlock]);refine⟨.string ⟨s.toArray⟩,w.freeze ⟨b,0,none⟩ s.length,Z,Fz.le.refl _,rfl,?_,?_⟩
  ·have hlx:=ha.eval hx;have hly:=ha.eval hy;rw[Do] at hly;simp[execOp,resolve,invoke,builtin,hlx,hly,Xc,hus]
  ·subst hH;have hfz:∀(f:World→Prop),True:=λ_=>trivial;refine { hst with os:=?_,tape:=?_,output:=?_,size:=?_,old:=λk hk hkM=>?_,has:=λen he=>?_,frz:=⟨λb' o hb'=>?_,λk i b hb=>Nat.lt_of_lt_of_le (hst.frz.nm k i b hb) (by simp only[World.freeze];split<;>simp)⟩,gst:=hst.gst.grow (by simp only[World.freeze];split<;>simp) }
   ·rw[← hst.os];simp only[World.freeze];split<;>rfl
   ·rw[← hst.tape];simp only[World.freeze];split<;>rfl
   ·rw[← hst.output];simp only[World.freeze];split<;>rfl
   ·refine Nat.le_trans hst.size ?_;simp only[World.freeze];split<;>simp
   ·have hkb:k≠b:=λe=>by
     subst e;rcases hw.own _ hmem k (by simp[Ent.foot,Value.ownBlock]) with h4 | h4
     ·omega
     ·exact hkM h4
    rw[hkeep k hkb];exact hst.old k hk hkM
   ·exact Ent.keep (hst.has en he) (Fz.le.refl _) λk hk=>hkeep k (λe=>hd.1 en he b (by simp[Ent.foot,Value.ownBlock]) (e▸hk))
   ·rw[hkeep b' (λe=>by subst e;rw[hzb] at hb';cases hb')];exact hst.frz b' o hb'
theorem Ld {f:FuncId}{args:List Operand}{ats:Array TypeId}{o:Oper}{a:Act}{caps:List Value}(ho:o.op = .call { callee:=.value x,args:=args.toArray,argTypes:=ats })(hx:a.eval x = .func (.func f) #[] caps.toArray)
  (hcall:∀(as1:Array Value) (w:World),(callFunc f as1).run P w = .ok (.enter f as1) w) (w:World):(execOp a.eval o).run P w = .ok (.enter f (args.map a.eval++caps).toArray) w:=by
 simp[execOp,ho,resolve,hx,Deferred.ofValue,invoke,hcall]
theorem NL {f:FuncId}{args:List Operand}{ats:Array TypeId}{rs:List Rp}{caps:List Value}{Hin Hr:List Ent}{Φ:Rp→List Ent→Prop}(hcall:∀(as1:Array Value) (w:World),(callFunc f as1).run P w = .ok (.enter f as1) w)(hx:ev l x=some (rv (.func (.func f) #[] caps.toArray)))(hv:MB l args=some rs)
  (hp:H.Perm (Hin++Hr)) (hc:Fn P c.E f (rs++caps.map rv) Hin Φ) (hn:Nat.blt d n=true) (h:∀r Ho,Φ r Ho→WL P n c ops Q rest ((d,r)::l) (Ho++Hr)) :
  WL P n c ops Q ({ dst:=some d,op:=.call { callee:=.value x,args:=args.toArray,argTypes:=ats },type:=ty,pos:=pos,after:=af,guard:=none }::rest) l H:=
 J3 (args:=λa=>(args.map a.eval++caps).toArray) (λa w Z ha hw=>⟨Ld rfl (ha.eval hx) hcall w,by
  have hw2:=hw.perm hp;refine(hc w Z _ (by have:=(GI ha hv).append (Bd.rvs Z caps);simpa using this) hw2.enter).mono ?_;rintro e w' ⟨r,v,Ho,Z',he,hΦ,hr,hs⟩;exact⟨v,r,Ho++Hr,Z',he,hs.le,hr,hw2.call hs,h r Ho hΦ⟩⟩) hn
theorem H0 {xs:List Int}{s:List UInt8}{i:Nat}{inf:TypeInfo}(ht:P.underlying t=some (.slice e))(hu:P.underlying t'=some .string)(hinf:P.info? e=some inf)(hz:inf.zero=some (.int .u8 0))(hsize:inf.size=1)(hby:inf.bytes=1)
  (hx:ev l x=some (rv v)) (hy:ev l y=some (rS s)) (hi:H[i]? =some (.row v e 1 (xs.map Bl))) (hg:DI 1 (xs.length+s.length)=true) (hn:Nat.blt d n=true)
  (h:∀v',WL P n c ops Q rest ((d,rv v')::l) (.row v' e 1 ((xs++CO s).map Bl)::H.eraseIdx i)) :
  WL P n c ops Q ({ dst:=some d,op:=.call { callee:=.builtin .append,args:=#[x,y],argTypes:=#[t,t'] },type:=ty,pos:=pos,after:=af,guard:=none }::rest) l H:=
 IP (λa w Z ha hw=>by
  obtain⟨h0,us,h1,h2⟩:=hw.ent hi;have hb:(xs.length+s.length)*1≤140737488355328:=by simpa[DI] using hg
  rw[Yt] at h1;obtain⟨v',w',e1,e2,e3,e4⟩:=JG (P:=P) (w:=w) ty ht hu hinf hz hsize hby h1 (s:=s) (by omega);have hent:(Ent.row v' e 1 ((xs++CO s).map Bl)).holds Z w':=⟨λcl hcl=>by obtain⟨z',_,rfl⟩:=List.mem_map.1 hcl;rfl,us++s.map (λc=>Value.int .u8 c.toNat),by simpa[Do] using e2,by
   rw[Zd,List.flatten_append,Hf];exact h2.append (Bd.rvs Z _)⟩
  have hst:=hw.callF hi (St.one (e':=.row v' e 1 ((xs++CO s).map Bl)) (M:=(Ent.row v e 1 (xs.map Bl)).foot) hw.frz hw.env hw.emono e3.os e3.tape e3.output e3.size (λk hk hne=>e3.block k hk (λe1=>hne (by simp[Ent.foot,← e1])))
   (hw.zdis _ (Yu hi)) hent (λk hk=>by
    simp only[Ent.foot,Option.mem_toList] at hk ⊢;rcases e4 with e4 | e4
    ·exact .inl (e4▸hk)
    ·exact .inr (e4 k hk)))
  exact⟨v',w',rv v',_,Z,by simp[execOp,resolve,invoke,builtin,ha.eval hx,ha.eval hy,e1],Fz.le.refl _,rfl,hst,h v'⟩) hn
end
section
variable {P : Program} {n : Nat} {c : Cx} {ops : Array Oper} {Q : Exit → Act → World → Prop} {rest : List Oper} {l : Fr} {H : List Ent} {d : Nat} {ty : TypeId} {pos : String} {af : Array Edge} {r : Rp} {x y z3 : Operand}
theorem wo {d:Option Nat}{op:Op}{j dj:Nat}{want b:Bool}(hb:b=want)(h:WL P n c ops Q ({ dst:=d,op:=op,type:=ty,pos:=pos,after:=af,guard:=none }::rest) l H)(hj:D4 ops j=some dj:=by rfl)(hv:look l dj=some (rB b):=by rfl) :
  WL P n c ops Q ({ dst:=d,op:=op,type:=ty,pos:=pos,after:=af,guard:=some (j,want) }::rest) l H:=Bo hj hv hb h
theorem wf {op:Op}{j dj:Nat}{want b:Bool}(hb:b = !want)(h:WL P n c ops Q rest ((d,rv undef)::l) H)(hj:D4 ops j=some dj:=by rfl)(hv:look l dj=some (rB b):=by rfl)(hn:Nat.blt d n=true:=by rfl) :
  WL P n c ops Q ({ dst:=some d,op:=op,type:=ty,pos:=pos,after:=af,guard:=some (j,want) }::rest) l H:=A3 hj hv hb hn h
theorem wu {op:Op}{j dj:Nat}{want:Bool}(h:WL P n c ops Q rest ((d,rv undef)::l) H)(hj:D4 ops j=some dj:=by rfl)(hv:look l dj=some (rv undef):=by rfl)(hn:Nat.blt d n=true:=by rfl) :
  WL P n c ops Q ({ dst:=some d,op:=op,type:=ty,pos:=pos,after:=af,guard:=some (j,want) }::rest) l H:=EE hj hv hn h
theorem wv {op:Op}(hr:Bn P n c l H { dst:=some d,op:=op,type:=ty,pos:=pos,after:=af,guard:=none } r)(h:WL P n c ops Q rest ((d,r)::l) H)(hn:Nat.blt d n=true:=by rfl):WL P n c ops Q ({ dst:=some d,op:=op,type:=ty,pos:=pos,after:=af,guard:=none }::rest) l H:=AD hr hn h
theorem wm (h:ev l x=some r)(hk:WL P n c ops Q rest ((d,r)::l) H)(hn:Nat.blt d n=true:=by rfl):WL P n c ops Q ({ dst:=some d,op:=.move x,type:=ty,pos:=pos,after:=af,guard:=none }::rest) l H:=AD (Aq h) hn hk
theorem wa (h:ev l x=some r)(hk:WL P n c ops Q rest ((d,r)::l) H)(hn:Nat.blt d n=true:=by rfl):WL P n c ops Q ({ dst:=some d,op:=.assign x,type:=ty,pos:=pos,after:=af,guard:=none }::rest) l H:=AD (Ae h) hn hk
theorem Jx {b:Bool}(hc:ev l z3=some (rB b))(hb:b=true)(h:ev l x=some r)(hk:WL P n c ops Q rest ((d,r)::l) H)(hn:Nat.blt d n=true:=by rfl):WL P n c ops Q ({ dst:=some d,op:=.pick z3 x y,type:=ty,pos:=pos,after:=af,guard:=none }::rest) l H:=AD (A7 hc hb h) hn hk
theorem HU {b:Bool}(hc:ev l z3=some (rB b))(hb:b=false)(h:ev l y=some r)(hk:WL P n c ops Q rest ((d,r)::l) H)(hn:Nat.blt d n=true:=by rfl):WL P n c ops Q ({ dst:=some d,op:=.pick z3 x y,type:=ty,pos:=pos,after:=af,guard:=none }::rest) l H:=AD (AP hc hb h) hn hk
theorem D9 {f:FuncId}{args:List Operand}{ats:Array TypeId}{rs:List Rp}(hcall:∀(as1:Array Value) (w:World),(callFunc f as1).run P w = .ok (.enter f as1) w)(hc:MW P c.E f rs r)(hv:MB l args=some rs)(h:WL P n c ops Q rest ((d,r)::l) H)(hn:Nat.blt d n=true:=by rfl) :
  WL P n c ops Q ({ dst:=some d,op:=.call { callee:=.value (.func f),args:=args.toArray,argTypes:=ats },type:=ty,pos:=pos,after:=af,guard:=none }::rest) l H:=Hz hcall hv hc rfl hn h
theorem EL {f:FuncId}{args:List Operand}{ats:Array TypeId}{rs:List Rp}{Hin Hr:List Ent}{Φ:Rp→List Ent→Prop}(hcall:∀(as1:Array Value) (w:World),(callFunc f as1).run P w = .ok (.enter f as1) w)(hc:Fn P c.E f rs Hin Φ)(hv:MB l args=some rs)
  (hp:H.Perm (Hin++Hr)) (hn:Nat.blt d n=true) (h:∀r Ho,Φ r Ho→WL P n c ops Q rest ((d,r)::l) (Ho++Hr)) :
  WL P n c ops Q ({ dst:=some d,op:=.call { callee:=.value (.func f),args:=args.toArray,argTypes:=ats },type:=ty,pos:=pos,after:=af,guard:=none }::rest) l H:=Co hcall hv hp hc hn h
theorem G8 {opsA:Array Oper}{f:FuncId}{args:List Operand}{ats:Array TypeId}{rs:List Rp}(hcall:∀(as1:Array Value) (w:World),(callFunc f as1).run P w = .ok (.enter f as1) w)(hc:MW P c.E f rs r)(hv:MB l args=some rs) :
  DR P n c opsA Q l H { dst:=some d,op:=.call { callee:=.value (.func f),args:=args.toArray,argTypes:=ats },type:=ty,pos:=pos,after:=af,guard:=none } r H:=JQ hcall hv hc rfl
theorem wt {K:Exit→Act→World→Prop}{l1:Fr}{H1:List Ent}(hl:AT l1 l:=by repeat (first | exact AT.nil | refine AT.c rfl ?_))(hH:H1.Sublist H:=by repeat (first | exact sN | refine sC ?_ | refine sS ?_)):WK n c (Exit.then (Xa n c l1 H1) K .normal) l H:=AA (BS hl hH)
theorem CW {p:Prop}(hp:p){K:Exit→Act→World→Prop}{l1:Fr}{H1:List Ent}(hl:p→AT l1 l:=by intro hp;repeat (first | exact AT.nil | refine AT.c rfl ?_ | refine AT.c (by first | (simp only[hp];rfl) | simp[hp]) ?_))(hH:H1.Sublist H:=by repeat (first | exact sN | refine sC ?_ | refine sS ?_)):WK n c (Exit.then (Xa n c l1 H1) K .normal) l H:=AA (BS (hl hp) hH)
end
open Go Go.RowKit Go.ChangeShapes Go.Deep
def ZW (W:World):Fz:=⟨λb=>W.heap[b]?,λ_ _=>none⟩
theorem ZW.frz (W:World):Rz (ZW W) W:=⟨λ_ _ h=>h,λ_ _ _ h=>by cases h⟩
def Kt (P:Program)(e:TypeId){α:Type}(enc:α→List Rp)(ok:α→Bool):Prop:=
 ∀{H:Type} {encH:TypeId×Value→H} {W:World} {sp:Nat→Bool} {held:Bool} {n:Nat} {cs:List Value} {x:DataW H×List MemPlace},DataW.trod encH P W 0 sp held n e cs=some x→∃y:α,ok y=true∧Bd (ZW W) (enc y) cs
section
variable {P : Program} {e t : TypeId}
theorem Kt.int {k:IntKind}{enc:Int→List Rp}(ht:P.underlying e=some (.int k))(he:∀n,enc n=[rI k n]):Kt P e enc (Ci k):=λh=>by
 obtain⟨n,rfl,_,hwf⟩:=DataW.trod_int ht h;exact⟨n,hwf,by rw[he];exact⟨rfl,trivial⟩⟩
theorem Kt.str {enc:Ah→List Rp}(ht:P.underlying e=some .string)(he:∀n,enc n=[rS n]):Kt P e enc UR:=λh=>by
 obtain⟨s,rfl,_,hl⟩:=DataW.trod_string ht h;exact⟨s.data.toList,Yr (by rw[Array.length_toList];exact hl),by rw[he];exact⟨congrArg Value.string (XU s),trivial⟩⟩
theorem Kt.bool {enc:Bool→List Rp}(ht:P.underlying e=some .bool)(he:∀n,enc n=[rB n]):Kt P e enc (λ_=>true):=λh=>by
 obtain⟨b,rfl,_⟩:=DataW.trod_bool ht h;exact⟨b,rfl,by rw[he];exact⟨rfl,trivial⟩⟩
theorem ND {W:World}{a:Addr}{v:Value}(h:W.cell? a=some v):a.spot=none∧HI (ZW W) a.block a.off=some v:=by
 unfold World.cell? at h;unfold HI ZW;dsimp only
 cases hh:W.heap[a.block]? with
 | none=>rw[hh] at h;cases h
 | some o=>
  rw[hh] at h
  cases o with
  | cells cs t fz=>
   cases hs:a.spot with
   | none=>simp[hs] at h;exact⟨rfl,h⟩
   | some _=>simp[hs] at h
  | _=>simp at h
theorem Kt.slice {α:Type}[Inhabited α]{enc:α→List Rp}{ok:α→Bool}{sz:Nat}(ht:P.underlying t=some (.slice e))(hc:P.cellsOf e=sz)(hsz:0<sz)(h:Kt P e enc ok)(hlen:∀y,(enc y).length=sz){enc':List α→List Rp}(he:∀ys,enc' ys=[AQ sz (ys.map enc)]) :
  Kt P t enc' (λys=>ys.all ok&&decide (ys.length≤9223372036854775807)):=fun {H encH W sp held n cs x} hx=>by
 rcases open_slice ht hx with⟨rfl,_⟩ | ⟨a,len,cap,m,n',D,Pl,rfl,hb,hl,hm,hmm,_,hel⟩
 ·exact⟨[],by simp,by rw[he];exact⟨Rx.nil sz _,trivial⟩⟩
 ·have hlm:len≤m:=by rw[hmm];split<;>omega
  have each:∀i,i<len→∃y:α,ok y=true∧∃cs',W.cells? 0 (a.add (i*sz)) sz=some cs'∧Bd (ZW W) (enc y) cs':=λi hi=>by
   obtain⟨cs',h1,h2⟩:=hel i (by omega);obtain⟨y,hy,hr⟩:=h h2;rw[hc] at h1;exact⟨y,hy,cs',h1,hr⟩
  obtain⟨f,hf⟩:=choose_lt each;refine⟨(List.range len).map f,?_,?_⟩
  ·simp only[Yl,YD,List.mem_map,List.mem_range,Yg];refine⟨?_,by simp;simp only[maxLen] at hm;omega⟩;rintro _ ⟨i,hi,rfl⟩;exact(hf i hi).1
  ·rw[he];refine⟨⟨some a,cap,by simp,by simpa using hl,hm,(λh=>by cases h),λi c hi=>?_⟩,trivial⟩;rw[Zc,YH] at hi;have hil:i<len:=by
    cases hq:(List.range len)[i]? with
    | none=>rw[hq] at hi;cases hi
    | some _=>have:=(List.getElem?_eq_some_iff.1 hq).1;simpa using this
   rw[List.getElem?_range hil] at hi;simp only[Option.map_some,Option.some.injEq,Function.comp] at hi;subst hi;obtain⟨_,cs',h1,hr⟩:=hf i hil;obtain⟨_,hcl,hcell⟩:=World.cells?_some h1;have hsp:a.spot=none:=by
    obtain⟨_,cs0,g1,_⟩:=hf 0 (by omega);obtain⟨_,gcl,gcell⟩:=World.cells?_some g1;have h0:=gcell 0 hsz;rw[Yp (by omega)] at h0;have:=(ND h0).1;simpa[Addr.add] using this
   refine⟨hlen _,a,rfl,hsp,λj r hj=>?_⟩;obtain⟨u,hu,hp⟩:=hr.at hj;have hjs:j<sz:=by have:=(List.getElem?_eq_some_iff.1 hj).1;rw[hlen] at this;exact this
   have h3:=hcell j hjs;rw[hu] at h3;have h4:=(ND h3).2;refine⟨u,?_,hp⟩;have e1:((a.add (i*sz)).add j).block=a.block:=by simp only[Addr.add];split<;>split<;>rfl
   have e2:((a.add (i*sz)).add j).off=a.off+(i*sz+j):=by simp only[Addr.add];split<;>split<;>simp_all<;>omega
   rw[e1,e2] at h4;exact h4
theorem QM {Z:Fz}{cs:List Value}{o:Nat}(h:cs.length=o):Bd Z [] (cs.drop o):=by rw[List.drop_of_length_le (by omega)];trivial
theorem EF {Z:Fz}{cs:List Value}{o s o':Nat}{rs rs':List Rp}(h:Bd Z rs ((cs.drop o).take s))(ho:o+s=o')(h2:Bd Z rs' (cs.drop o')):Bd Z (rs++rs') (cs.drop o):=by
 rw[← Za s (cs.drop o),List.drop_drop];subst ho;exact h.append h2
theorem Kt.val {α:Type}{enc:α→List Rp}{ok:α→Bool}(h:Kt P e enc ok){r:α→Rp}(he:∀y,enc y=[r y]){H:Type}{encH:TypeId×Value→H}{W:World}{sp:Nat→Bool}{held:Bool}{v:Value}{d:DataW H}{ps:List MemPlace}
  (hone:v.cells = #[v]) (ht:DataW.Trod encH P W 0 sp held e v d ps):∃y:α,ok y=true∧(r y).p (ZW W) v:=by
 obtain⟨fuel,hf⟩:=ht;rw[hone] at hf;obtain⟨y,hy,hr⟩:=h hf;rw[he] at hr;exact⟨y,hy,hr.1⟩
theorem Kt.valAgg {α:Type}{enc:α→List Rp}{ok:α→Bool}(h:Kt P e enc ok){H:Type}{encH:TypeId×Value→H}{W:World}{sp:Nat→Bool}{held:Bool}{cs:Array Value}{d:DataW H}{ps:List MemPlace}
  (ht:DataW.Trod encH P W 0 sp held e (.agg cs) d ps):∃y:α,ok y=true∧(Bg (enc y)).p (ZW W) (.agg cs):=by
 obtain⟨fuel,hf⟩:=ht;obtain⟨y,hy,hr⟩:=h hf;exact⟨y,hy,cs.toList,by simp,hr⟩
end
theorem Un {W w:World}(hw:Rz (ZW W) w):W.heap.size≤w.heap.size:=by
 rcases Nat.eq_zero_or_pos W.heap.size with h | h
 ·omega
 ·have h1:W.heap[W.heap.size-1]? =some (W.heap[W.heap.size-1]'(by omega)):=Array.getElem?_eq_getElem (by omega);have:=(Array.getElem?_eq_some_iff.1 (hw _ _ h1)).1;omega
theorem Sw {W:World}(hE:R0 W):GE (ZW W):=λw hw=>by
 have hb:Below W.heap.size W { w with os:=W.os,tape:=W.tape,output:=W.output }:=⟨rfl,rfl,rfl,(show W.heap.size≤w.heap.size from Un hw),λk hk=>by
  have h1:W.heap[k]? =some (W.heap[k]'hk):=Array.getElem?_eq_getElem hk;rw[h1];exact hw k _ h1⟩
 have hE2:=hE.st0 (St.of_below hb);exact⟨Oy.block { w with os:=W.os,tape:=W.tape,output:=W.output } w (λ_ _=>rfl) hE2.tabs,hE2.size⟩
theorem Tk {W:World}(hE:R0 W):St ⟨W,ZW W,[],GE,[]⟩ [] (ZW W) W where
 os:=rfl
 tape:=rfl
 output:=rfl
 size:=Y2 _
 old:=λ_ _ _=>rfl
 has:=λ_ h=>by cases h
 own:=λ_ h=>by cases h
 dis:=.nil
 frz:=ZW.frz W
 le:=Fz.le.refl _
 new:=λ_ _ h=>.inl h
 zdis:=λ_ h=>by cases h
 env:=Sw hE
 emono:=λh hg=>GE.mono h hg
 gst:=Kq.none rfl
theorem Tl {W W':World}{Z Z':Fz}{E:Fz→Prop}{H:List Ent}(h:St ⟨W,Z,[],E,[]⟩ H Z' W'):Below W.heap.size W W':=⟨h.os,h.tape,h.output,h.size,λk hk=>h.old k hk (by simp)⟩
open Go
def KO (l:(List Int)):Option ((List Int)):=
 some l
def Is (l:(List Int))(c:Int):Option (Unit×(List Int)):=
 B8 (KO l) λr1=>Bj (DI 1 (r1.length+([c]:List Int).length))<|some ((),r1++([c]:List Int))
def GW (l:(List Int))(s:Ah):Option (Int×Unit×(List Int)):=
 B8 (KO l) λr1=>Bj (DI 1 (r1.length+s.length))<|some ((s.length:Int),(),r1++CO s)
def M7 (l:Ah):Option (Ah):=
 Bj (decide (0<(CO l).length))<|some l
def KN (l:(List Int)):Option ((List Int)):=
 some l
def Ir (l:(List Int))(c:Int):Option (Unit×(List Int)):=
 B8 (KN l) λr1=>Bj (DI 1 (r1.length+([c]:List Int).length))<|some ((),r1++([c]:List Int))
def GV (l:(List Int))(s:Ah):Option (Int×Unit×(List Int)):=
 B8 (KN l) λr1=>Bj (DI 1 (r1.length+s.length))<|some ((s.length:Int),(),r1++CO s)
def M6 (l:Ah):Option (Ah):=
 Bj (decide (0<(CO l).length))<|some l
set_option maxRecDepth 100000
set_option maxHeartbeats 4000000
theorem Mv:∃inf,Tryz.prog.info? 5=some inf∧inf.zero=some (.int .u8 0)∧inf.size=1∧inf.bytes=1:=by
  have key:(Tryz.prog.info? 5).map (λi=>(i.zero,i.size,i.bytes))=some (some (.int .u8 0),1,1):=by kernel_rfl
  obtain⟨inf,h1,h2⟩:=Option.map_eq_some_iff.1 key;simp only[Prod.mk.injEq] at h2;exact⟨inf,h1,h2.1,h2.2.1,h2.2.2⟩
theorem Py:∃j,Tryz.prog.info? 131=some j∧j.size≠0:=by
  have key:(Tryz.prog.info? 131).map (λi=>i.size)=some 2:=by kernel_rfl
  obtain⟨j,h1,h2⟩:=Option.map_eq_some_iff.1 key;exact⟨j,h1,by rw[h2];decide⟩
theorem Pz:∃j,Tryz.prog.info? 131=some j:=Py.imp λ_ h=>h.1
theorem PG (ha:Nat)(hb:Value)(l:(List Int))(r:(List Int))(h:KO l=some r):Fn Tryz.prog GE 155 [rv (.pointer (some ⟨ha,0,none⟩))] [.blk ha [rv (.pointer none),rv hb] 131,.row hb 5 1 (List.map Bl l)] (λR H=>∃w0:Value,R=rv (.tuple #[])∧H=[.blk ha [rv (.pointer (some ⟨ha,0,none⟩)),rv w0] 131,.row w0 5 1 (List.map Bl r)]):=by
 refine enter (n:=20) Tryz.func155 Aa Tryz.ntmps155 Aa (λw Z=>?_);refine Be (l':=[(0,rv (.pointer (some ⟨ha,0,none⟩)))]) (H':=[.blk ha [rv (.pointer none),rv hb] 131,.row hb 5 1 (List.map Bl l)]) Aa Aa ?_;unfold KO at h;refine Al (wm Aa (wv (Ar Aa) (wv (Ad EM Aa O9 Aa Aa) (wv (Au (i:=0) Ec Aa Aa Aa) (wv (r:=rB true) (TB ⟨_,O6⟩ Aa) (Av (Ed Aa Aa (At (wm Aa (wm Aa (wv (r:=rv (.pointer (some ⟨ha,0,none⟩))) (Pe (i:=0) O6 Tryz.underlying208 Py Aa Aa Aa) (AD (r:=rv (.pointer (some ⟨ha,0,none⟩))) (V1 Tryz.func177 (by kernel_rfl) (by kernel_rfl) (by kernel_rfl) (by kernel_rfl) Aa) Aa (wv (r:=rv (.pointer (some ⟨ha,0,none⟩))) (MO (i:=0) Tryz.underlying208 O6 Pz Aa Aa (by kernel_rfl)) (wv (Ar Aa) (wv (Ad EM Aa O9 Aa Aa) (Bu (i:=0) O9 Aa Aa (BV Aa) Aa Aa (cs':=[rv (.pointer (some ⟨ha,0,none⟩)),rv hb]) Aa (H':=[.blk ha [rv (.pointer (some ⟨ha,0,none⟩)),rv hb] 131,.row hb 5 1 (List.map Bl l)]) Aa (Aw ?_)))))))))))))))));obtain rfl:=A2 h;exact Gh (RJ Tryz.results155) (sC (sC sN)) ⟨hb,Aa,Aa⟩
theorem MV (ha:Nat)(hb:Value)(l:(List Int))(c:Int)(r:Unit×(List Int))(h:Is l c=some r):Fn Tryz.prog GE 119 [rv (.pointer (some ⟨ha,0,none⟩)),rI .u8 c] [.blk ha [rv (.pointer none),rv hb] 131,.row hb 5 1 (List.map Bl l)] (λR H=>∃w0:Value,R=rv (.nilIface)∧H=[.blk ha [rv (.pointer (some ⟨ha,0,none⟩)),rv w0] 131,.row w0 5 1 (List.map Bl r.2)]):=by
 refine enter (n:=17) Tryz.func119 Aa Tryz.ntmps119 Aa (λw Z=>?_);refine Be (l':=[(0,rv (.pointer (some ⟨ha,0,none⟩))),(1,rI .u8 c)]) (H':=[.blk ha [rv (.pointer none),rv hb] 131,.row hb 5 1 (List.map Bl l)]) Aa Aa ?_;unfold Is at h;refine Al (wv (r:=rv (.nilIface)) (Ae Aa) (By (wm Aa ?_)));obtain⟨r1,e3,h2⟩:=AM h;refine EL (Hr:=[]) Tryz.call155 (PG ha hb l r1 e3) Aa (Yi _) Aa ?_;rintro _ _ ⟨v4,rfl,rfl⟩;refine By (wm Aa (wm Aa (wv (Ar Aa) (wv (Ad EM Aa EO Aa Aa) (wv (Au (i:=0) KV Aa Aa Aa) (wm Aa (Bc (ys:=([c]:List Int)) (enc:=Bl) (css:=[[rI .u8 c]]) (xs:=[.tmp 12]) EN Xi Xh Aa Aa Aa ⟨G2.one Aa (Up.refl _),trivial⟩ Aa DD Aa Aa Aa (λb5=>?_))))))));obtain⟨g7,h8⟩:=A8 h2;obtain⟨inf,hinf⟩:=Mv;refine BX (xs:=r1) (ys:=([c]:List Int)) (enc:=Bl) (i:=2) EN hinf.1 hinf.2.1 hinf.2.2.1 hinf.2.2.2 Aa Aa Aa Aa Aa (J0.w (i:=0) Aa Aa) DD IN g7 Aa (λv6=>?_);refine wv (Ar Aa) (wv (Ad EM Aa EO Aa Aa) (Bu (i:=2) EO Aa Aa (CG (i:=0) Aa) Aa Aa (cs':=[rv (.pointer (some ⟨ha,0,none⟩)),rv v6]) Aa (H':=[.row v6 5 1 (List.map Bl (r1++([c]:List Int))),.row (.slice (some ⟨b5,0,none⟩) 1 1) 5 1 (List.map Bl ([c]:List Int)),.blk ha [rv (.pointer (some ⟨ha,0,none⟩)),rv v6] 131]) Aa (By (wv (r:=rv (.nilIface)) (Ae Aa) (Av (A1 (BN (H2:=[.blk ha [rv (.pointer (some ⟨ha,0,none⟩)),rv v6] 131,.row v6 5 1 (List.map Bl (r1++([c]:List Int))),.row (.slice (some ⟨b5,0,none⟩) 1 1) 5 1 (List.map Bl ([c]:List Int))]) ((Ai (i:=2) Aa).trans (Yh _ (Yi _))) ?_)))))));obtain rfl:=A2 h8;exact A0 (Ce Tryz.results119 (AO Aa)) (sC (sC (sS sN))) ⟨v6,Aa,Aa⟩
theorem Lu (ha:Nat)(hb:Value)(l:(List Int))(s:Ah)(r:Int×Unit×(List Int))(h:GW l s=some r):Fn Tryz.prog GE 117 [rv (.pointer (some ⟨ha,0,none⟩)),rS s] [.blk ha [rv (.pointer none),rv hb] 131,.row hb 5 1 (List.map Bl l)] (λR H=>∃w0:Value,R=C0 [rI .i64 r.1,rv (.nilIface)]∧H=[.blk ha [rv (.pointer (some ⟨ha,0,none⟩)),rv w0] 131,.row w0 5 1 (List.map Bl r.2.2)]):=by
 refine enter (n:=19) Tryz.func117 Aa Tryz.ntmps117 Aa (λw Z=>?_);refine Be (l':=[(0,rv (.pointer (some ⟨ha,0,none⟩))),(1,rS s)]) (H':=[.blk ha [rv (.pointer none),rv hb] 131,.row hb 5 1 (List.map Bl l)]) Aa Aa ?_;unfold GW at h;refine Al (wv (r:=rI .i64 0) (Ae Aa) (wv (r:=rv (.nilIface)) (Ae Aa) (By (wm Aa ?_))));obtain⟨r1,e3,h2⟩:=AM h;refine EL (Hr:=[]) Tryz.call155 (PG ha hb l r1 e3) Aa (Yi _) Aa ?_;rintro _ _ ⟨v4,rfl,rfl⟩;refine By (wm Aa (wm Aa (wv (Ar Aa) (wv (Ad EM Aa EO Aa Aa) (wv (Au (i:=0) KV Aa Aa Aa) (wm Aa ?_))))));obtain⟨g6,h7⟩:=A8 h2;obtain⟨inf,hinf⟩:=Mv;refine H0 (xs:=r1) (i:=1) EN CC hinf.1 hinf.2.1 hinf.2.2.1 hinf.2.2.2 Aa Aa Aa g6 Aa (λv5=>?_);refine wv (Ar Aa) (wv (Ad EM Aa EO Aa Aa) (Bu (i:=1) EO Aa Aa (CG (i:=0) Aa) Aa Aa (cs':=[rv (.pointer (some ⟨ha,0,none⟩)),rv v5]) Aa (H':=[.row v5 5 1 (List.map Bl (r1++CO s)),.blk ha [rv (.pointer (some ⟨ha,0,none⟩)),rv v5] 131]) Aa (By (wm Aa (wv (BC CC Aa) (wa Aa (wv (r:=rv (.nilIface)) (Ae Aa) (Av (A1 (BN (H2:=[.blk ha [rv (.pointer (some ⟨ha,0,none⟩)),rv v5] 131,.row v5 5 1 (List.map Bl (r1++CO s))]) ((Ai (i:=1) Aa).trans (Yh _ (Yi _))) ?_))))))))));obtain rfl:=A2 h7;exact A0 (EP Tryz.results117 (AO Aa) (AO Aa)) (sC (sC sN)) ⟨v5,Aa,Aa⟩
theorem Q8 (ha:Nat)(hb:Value)(l:Ah)(r:Ah)(h:M7 l=some r):Fn Tryz.prog GE 95 [rv (.pointer (some ⟨ha,0,none⟩))] [.blk ha [rv (.pointer none),rv hb] 131,.row hb 5 1 (List.map Bl (CO l))] (λR H=>R=rS r∧H=[]):=by
 refine enter (n:=14) Tryz.func95 Aa Tryz.ntmps95 Aa (λw Z=>?_);refine Be (l':=[(0,rv (.pointer (some ⟨ha,0,none⟩)))]) (H':=[.blk ha [rv (.pointer none),rv hb] 131,.row hb 5 1 (List.map Bl (CO l))]) Aa Aa ?_;unfold M7 at h;refine Al (wv (r:=rS ([]:Ah)) (Ae Aa) (Av (As ?_)));obtain⟨g1,h2⟩:=A8 h;refine GN (H1:=[.blk ha [rv (.pointer none),rv hb] 131]) [0] [⟨[],rv (.pointer (some ⟨ha,0,none⟩)),0⟩,⟨[0],rv (.pointer (some ⟨ha,0,none⟩)),0⟩,⟨[1],rv (.pointer (some ⟨ha,1,none⟩)),0⟩,⟨[2],rv hb,1⟩,⟨[3],rv (Xc hb),1⟩,⟨[],rv (.pointer (some ⟨ha,0,none⟩)),0⟩,⟨[5],rv (.pointer (some ⟨ha,0,none⟩)),0⟩,⟨[6],rv (.pointer (some ⟨ha,1,none⟩)),0⟩,⟨[7],rv hb,1⟩,⟨[8],rI .i64 ((CO l).length:Int),1⟩,⟨[4,9],rS l,2⟩,⟨[10],rS l,0⟩] (rle [(11,_),(2,[.blk ha [rv (.pointer none),rv hb] 131])]) [2] ?_ ?_
 ·refine oq (Aq Aa) (oq (Ar Aa) (oq (Ad EM Aa EO Aa Aa) (of (Au (i:=0) KV Aa Aa Aa) (of (Le (i:=1) Aa Aa (L3 g1)) (oq (Aq Aa) (oq (Ar Aa) (oq (Ad EM Aa EO Aa Aa) (of (Au (i:=0) KV Aa Aa Aa) (of (CL (ys:=CO l) (enc:=Bl) (i:=1) EN Aa Aa) (JR Aa (Xm (It (i:=1) Tryz.underlying165 (by kernel_rfl) Aa Aa Aa (L3 g1) Aa)) ?_))))))))));refine oq (Ae Aa) ?_;exact Cn
 refine AW (A1 ?_);obtain rfl:=A2 h2;exact A0 (Ce Tryz.results95 (AO Aa)) (sS sN) ⟨Aa,Aa⟩
theorem PF (ha:Nat)(hb:Value)(l:(List Int))(r:(List Int))(h:KN l=some r):Fn Tryz.prog GE 155 [rv (.pointer (some ⟨ha,0,none⟩))] [.blk ha [rv (.pointer (some ⟨ha,0,none⟩)),rv hb] 131,.row hb 5 1 (List.map Bl l)] (λR H=>∃w0:Value,R=rv (.tuple #[])∧H=[.blk ha [rv (.pointer (some ⟨ha,0,none⟩)),rv w0] 131,.row w0 5 1 (List.map Bl r)]):=by
 refine enter (n:=20) Tryz.func155 Aa Tryz.ntmps155 Aa (λw Z=>?_);refine Be (l':=[(0,rv (.pointer (some ⟨ha,0,none⟩)))]) (H':=[.blk ha [rv (.pointer (some ⟨ha,0,none⟩)),rv hb] 131,.row hb 5 1 (List.map Bl l)]) Aa Aa ?_;unfold KN at h;refine Al (wm Aa (wv (Ar Aa) (wv (Ad EM Aa O9 Aa Aa) (wv (Au (i:=0) Ec Aa Aa Aa) (wv (r:=rB false) (W9 ⟨_,O6⟩ Aa) (Av (DA Aa Aa (Al (wm Aa (wv (Ar Aa) (wv (Ad EM Aa O9 Aa Aa) (wv (Au (i:=0) Ec Aa Aa Aa) (wm Aa (wv (r:=rB false) (Qj O6 Pz Aa Aa) (Av (DA Aa Aa (A4 ?_)))))))))))))))));obtain rfl:=A2 h;exact Gh (RJ Tryz.results155) (sC (sC sN)) ⟨hb,Aa,Aa⟩
theorem MU (ha:Nat)(hb:Value)(l:(List Int))(c:Int)(r:Unit×(List Int))(h:Ir l c=some r):Fn Tryz.prog GE 119 [rv (.pointer (some ⟨ha,0,none⟩)),rI .u8 c] [.blk ha [rv (.pointer (some ⟨ha,0,none⟩)),rv hb] 131,.row hb 5 1 (List.map Bl l)] (λR H=>∃w0:Value,R=rv (.nilIface)∧H=[.blk ha [rv (.pointer (some ⟨ha,0,none⟩)),rv w0] 131,.row w0 5 1 (List.map Bl r.2)]):=by
 refine enter (n:=17) Tryz.func119 Aa Tryz.ntmps119 Aa (λw Z=>?_);refine Be (l':=[(0,rv (.pointer (some ⟨ha,0,none⟩))),(1,rI .u8 c)]) (H':=[.blk ha [rv (.pointer (some ⟨ha,0,none⟩)),rv hb] 131,.row hb 5 1 (List.map Bl l)]) Aa Aa ?_;unfold Ir at h;refine Al (wv (r:=rv (.nilIface)) (Ae Aa) (By (wm Aa ?_)));obtain⟨r1,e3,h2⟩:=AM h;refine EL (Hr:=[]) Tryz.call155 (PF ha hb l r1 e3) Aa (Yi _) Aa ?_;rintro _ _ ⟨v4,rfl,rfl⟩;refine By (wm Aa (wm Aa (wv (Ar Aa) (wv (Ad EM Aa EO Aa Aa) (wv (Au (i:=0) KV Aa Aa Aa) (wm Aa (Bc (ys:=([c]:List Int)) (enc:=Bl) (css:=[[rI .u8 c]]) (xs:=[.tmp 12]) EN Xi Xh Aa Aa Aa ⟨G2.one Aa (Up.refl _),trivial⟩ Aa DD Aa Aa Aa (λb5=>?_))))))));obtain⟨g7,h8⟩:=A8 h2;obtain⟨inf,hinf⟩:=Mv;refine BX (xs:=r1) (ys:=([c]:List Int)) (enc:=Bl) (i:=2) EN hinf.1 hinf.2.1 hinf.2.2.1 hinf.2.2.2 Aa Aa Aa Aa Aa (J0.w (i:=0) Aa Aa) DD IN g7 Aa (λv6=>?_);refine wv (Ar Aa) (wv (Ad EM Aa EO Aa Aa) (Bu (i:=2) EO Aa Aa (CG (i:=0) Aa) Aa Aa (cs':=[rv (.pointer (some ⟨ha,0,none⟩)),rv v6]) Aa (H':=[.row v6 5 1 (List.map Bl (r1++([c]:List Int))),.row (.slice (some ⟨b5,0,none⟩) 1 1) 5 1 (List.map Bl ([c]:List Int)),.blk ha [rv (.pointer (some ⟨ha,0,none⟩)),rv v6] 131]) Aa (By (wv (r:=rv (.nilIface)) (Ae Aa) (Av (A1 (BN (H2:=[.blk ha [rv (.pointer (some ⟨ha,0,none⟩)),rv v6] 131,.row v6 5 1 (List.map Bl (r1++([c]:List Int))),.row (.slice (some ⟨b5,0,none⟩) 1 1) 5 1 (List.map Bl ([c]:List Int))]) ((Ai (i:=2) Aa).trans (Yh _ (Yi _))) ?_)))))));obtain rfl:=A2 h8;exact A0 (Ce Tryz.results119 (AO Aa)) (sC (sC (sS sN))) ⟨v6,Aa,Aa⟩
theorem Lt (ha:Nat)(hb:Value)(l:(List Int))(s:Ah)(r:Int×Unit×(List Int))(h:GV l s=some r):Fn Tryz.prog GE 117 [rv (.pointer (some ⟨ha,0,none⟩)),rS s] [.blk ha [rv (.pointer (some ⟨ha,0,none⟩)),rv hb] 131,.row hb 5 1 (List.map Bl l)] (λR H=>∃w0:Value,R=C0 [rI .i64 r.1,rv (.nilIface)]∧H=[.blk ha [rv (.pointer (some ⟨ha,0,none⟩)),rv w0] 131,.row w0 5 1 (List.map Bl r.2.2)]):=by
 refine enter (n:=19) Tryz.func117 Aa Tryz.ntmps117 Aa (λw Z=>?_);refine Be (l':=[(0,rv (.pointer (some ⟨ha,0,none⟩))),(1,rS s)]) (H':=[.blk ha [rv (.pointer (some ⟨ha,0,none⟩)),rv hb] 131,.row hb 5 1 (List.map Bl l)]) Aa Aa ?_;unfold GV at h;refine Al (wv (r:=rI .i64 0) (Ae Aa) (wv (r:=rv (.nilIface)) (Ae Aa) (By (wm Aa ?_))));obtain⟨r1,e3,h2⟩:=AM h;refine EL (Hr:=[]) Tryz.call155 (PF ha hb l r1 e3) Aa (Yi _) Aa ?_;rintro _ _ ⟨v4,rfl,rfl⟩;refine By (wm Aa (wm Aa (wv (Ar Aa) (wv (Ad EM Aa EO Aa Aa) (wv (Au (i:=0) KV Aa Aa Aa) (wm Aa ?_))))));obtain⟨g6,h7⟩:=A8 h2;obtain⟨inf,hinf⟩:=Mv;refine H0 (xs:=r1) (i:=1) EN CC hinf.1 hinf.2.1 hinf.2.2.1 hinf.2.2.2 Aa Aa Aa g6 Aa (λv5=>?_);refine wv (Ar Aa) (wv (Ad EM Aa EO Aa Aa) (Bu (i:=1) EO Aa Aa (CG (i:=0) Aa) Aa Aa (cs':=[rv (.pointer (some ⟨ha,0,none⟩)),rv v5]) Aa (H':=[.row v5 5 1 (List.map Bl (r1++CO s)),.blk ha [rv (.pointer (some ⟨ha,0,none⟩)),rv v5] 131]) Aa (By (wm Aa (wv (BC CC Aa) (wa Aa (wv (r:=rv (.nilIface)) (Ae Aa) (Av (A1 (BN (H2:=[.blk ha [rv (.pointer (some ⟨ha,0,none⟩)),rv v5] 131,.row v5 5 1 (List.map Bl (r1++CO s))]) ((Ai (i:=1) Aa).trans (Yh _ (Yi _))) ?_))))))))));obtain rfl:=A2 h7;exact A0 (EP Tryz.results117 (AO Aa) (AO Aa)) (sC (sC sN)) ⟨v5,Aa,Aa⟩
theorem Q7 (ha:Nat)(hb:Value)(l:Ah)(r:Ah)(h:M6 l=some r):Fn Tryz.prog GE 95 [rv (.pointer (some ⟨ha,0,none⟩))] [.blk ha [rv (.pointer (some ⟨ha,0,none⟩)),rv hb] 131,.row hb 5 1 (List.map Bl (CO l))] (λR H=>R=rS r∧H=[]):=by
 refine enter (n:=14) Tryz.func95 Aa Tryz.ntmps95 Aa (λw Z=>?_);refine Be (l':=[(0,rv (.pointer (some ⟨ha,0,none⟩)))]) (H':=[.blk ha [rv (.pointer (some ⟨ha,0,none⟩)),rv hb] 131,.row hb 5 1 (List.map Bl (CO l))]) Aa Aa ?_;unfold M6 at h;refine Al (wv (r:=rS ([]:Ah)) (Ae Aa) (Av (As ?_)));obtain⟨g1,h2⟩:=A8 h;refine GN (H1:=[.blk ha [rv (.pointer (some ⟨ha,0,none⟩)),rv hb] 131]) [0] [⟨[],rv (.pointer (some ⟨ha,0,none⟩)),0⟩,⟨[0],rv (.pointer (some ⟨ha,0,none⟩)),0⟩,⟨[1],rv (.pointer (some ⟨ha,1,none⟩)),0⟩,⟨[2],rv hb,1⟩,⟨[3],rv (Xc hb),1⟩,⟨[],rv (.pointer (some ⟨ha,0,none⟩)),0⟩,⟨[5],rv (.pointer (some ⟨ha,0,none⟩)),0⟩,⟨[6],rv (.pointer (some ⟨ha,1,none⟩)),0⟩,⟨[7],rv hb,1⟩,⟨[8],rI .i64 ((CO l).length:Int),1⟩,⟨[4,9],rS l,2⟩,⟨[10],rS l,0⟩] (rle [(11,_),(2,[.blk ha [rv (.pointer (some ⟨ha,0,none⟩)),rv hb] 131])]) [2] ?_ ?_
 ·refine oq (Aq Aa) (oq (Ar Aa) (oq (Ad EM Aa EO Aa Aa) (of (Au (i:=0) KV Aa Aa Aa) (of (Le (i:=1) Aa Aa (L3 g1)) (oq (Aq Aa) (oq (Ar Aa) (oq (Ad EM Aa EO Aa Aa) (of (Au (i:=0) KV Aa Aa Aa) (of (CL (ys:=CO l) (enc:=Bl) (i:=1) EN Aa Aa) (JR Aa (Xm (It (i:=1) Tryz.underlying165 (by kernel_rfl) Aa Aa Aa (L3 g1) Aa)) ?_))))))))));refine oq (Ae Aa) ?_;exact Cn
 refine AW (A1 ?_);obtain rfl:=A2 h2;exact A0 (Ce Tryz.results95 (AO Aa)) (sS sN) ⟨Aa,Aa⟩
theorem Cm (b:Nat)(v:Value)(l:Ah)(c:Int)(g1:DI 1 (l.length+1)=true)(g2:Ci .u8 c=true):Fn Tryz.prog GE 119 [rv (.pointer (some ⟨b,0,none⟩)),rI .u8 c] [.bld 131 5 b v l] (λR H=>∃w0:Value,R=rv .nilIface∧H=[.bld 131 5 b w0 (l++[UInt8.ofNat c.toNat])]):=by
  have hc:CO (l++[UInt8.ofNat c.toNat])=CO l++[c]:=by
    have:=(by simpa[Ci,IntKind.min,IntKind.max,IntKind.signed,IntKind.bits] using g2:0≤c∧c≤255)
    simp only[CO,Zd,YR,List.map_nil]
    congr 2
    simp;omega
  refine Fn.bld (res:=rv .nilIface) λp hp=>?_;rw[hc];rcases hp with rfl | rfl
  · refine(MV b v (CO l) c (((),CO l++[c])) ?_).sub (G1.refl _) (λr H h=>by obtain⟨w0,h1,h2⟩:=h;exact⟨w0,h1,h2⟩)
    simp only[Is,KO,B8,Do];simp[Bj,g1]
  · refine(MU b v (CO l) c (((),CO l++[c])) ?_).sub (G1.refl _) (λr H h=>by obtain⟨w0,h1,h2⟩:=h;exact⟨w0,h1,h2⟩)
    simp only[Ir,KN,B8,Do];simp[Bj,g1]
theorem GM (b:Nat)(v:Value)(l s:Ah)(g1:DI 1 (l.length+s.length)=true):Fn Tryz.prog GE 117 [rv (.pointer (some ⟨b,0,none⟩)),rS s] [.bld 131 5 b v l] (λR H=>∃w0:Value,R=C0 [rI .i64 (s.length:Int),rv .nilIface]∧H=[.bld 131 5 b w0 (l++s)]):=by
  have hc:CO (l++s)=CO l++CO s:=by simp[CO]
  refine Fn.bld (res:=C0 [rI .i64 (s.length:Int),rv .nilIface]) λp hp=>?_;rw[hc];rcases hp with rfl | rfl
  · refine(Lu b v (CO l) s (((s.length:Int),(),CO l++CO s)) ?_).sub (G1.refl _) (λr H h=>by obtain⟨w0,h1,h2⟩:=h;exact⟨w0,h1,h2⟩)
    simp only[GW,KO,B8,Do];simp[Bj,g1]
  · refine(Lt b v (CO l) s (((s.length:Int),(),CO l++CO s)) ?_).sub (G1.refl _) (λr H h=>by obtain⟨w0,h1,h2⟩:=h;exact⟨w0,h1,h2⟩)
    simp only[GV,KN,B8,Do];simp[Bj,g1]
theorem SB (b:Nat)(v:Value)(l:Ah)(g1:decide (0<l.length)=true):Fn Tryz.prog GE 95 [rv (.pointer (some ⟨b,0,none⟩))] [.bld 131 5 b v l] (λR H=>R=rS l∧H=[]):=by
  refine Fn.bldS (res:=rS l) λp hp=>?_;rcases hp with rfl | rfl
  · exact Q8 b v l l (by simp only[M7,Do];simp[Bj,g1])
  · exact Q7 b v l l (by simp only[M6,Do];simp[Bj,g1])
end Go.Proofs.YtogdediiodmnbaaGreatDoor.Q
namespace Go.Proofs.YtogdediiodmnbaaGreatDoor
open Go
set_option linter.unusedVariables false
structure Ab where
 fKind:Int
 fInt:Int
 fStr:Ah
 fN:Int
 deriving DecidableEq,Inhabited
def RN (s:Ah)(ha:Int):Option (Stp (Int) (Out (Bool) (Unit))):=
 B3 (decide (ha<(s.length:Int))) (Bj (C2 ha (s.length:Int))<|B3 (((decide ((Br s ha)<32))||(decide (126<(Br s ha))))) (some (.out (.ret false))) (Bj (Ci .i64 (ha+1))<|some (.next (ha+1)))) (some (.out (.go ())))
def RL :Option (Bool):=
 some true
def NT (F:Nat)(s:Ah):Option (Bool):=
 B8 (Ch (λσ=>RN s σ) F 0) (Cg λν=>RL )
def CF (ok:Bool)(i:Int):Option (Int):=
 B3 (ok) (Bj (Ci .i64 (i+1))<|some (i+1)) (some (-1))
def Tu (F:Nat)(c:Ab):Option (Bool):=
 Bj (imp (decide (c.fKind=4)) (imp (decide (c.fInt=0)) (imp (decide (c.fN=0)) ((NT F c.fStr).isSome))))<|some ((decide (c.fKind=4))&&((decide (c.fInt=0))&&((decide (c.fN=0))&&(ov (NT F c.fStr)))))
def Ts (F:Nat)(ha:(List Ab)→Int→Int→Option (Int))(hb:(List Ab)→Int→Int→Option (Int))(v:(List Ab))(i:Int):Option (Int):=
 B3 (((decide (i<0))||(decide ((v.length:Int)≤i)))) (some (-1)) (Bj (C2 i (v.length:Int))<|B3 (decide (((Aj v i).fKind)=1)) (Bj (imp (decide (((Aj v i).fInt)=0)) (imp (decide (((Aj v i).fStr)=([]:Ah))) ((CF (decide (((Aj v i).fN)=0)) i).isSome)))<|Bj (imp (decide (((Aj v i).fInt)=0)) (imp (!(decide (((Aj v i).fStr)=([]:Ah)))) ((CF false i).isSome)))<|Bj (imp (!(decide (((Aj v i).fInt)=0))) ((CF false i).isSome))<|some (bif decide (((Aj v i).fInt)=0) then(bif decide (((Aj v i).fStr)=([]:Ah)) then(ov (CF (decide (((Aj v i).fN)=0)) i)) else(ov (CF false i))) else(ov (CF false i)))) (B3 (decide (((Aj v i).fKind)=2)) (Bj (imp (decide (((Aj v i).fInt)=0)) (imp (decide (((Aj v i).fStr)=([]:Ah))) ((CF (decide (((Aj v i).fN)=0)) i).isSome)))<|Bj (imp (decide (((Aj v i).fInt)=0)) (imp (!(decide (((Aj v i).fStr)=([]:Ah)))) ((CF false i).isSome)))<|Bj (imp (!(decide (((Aj v i).fInt)=0))) (imp (decide (((Aj v i).fInt)=1)) (imp (decide (((Aj v i).fStr)=([]:Ah))) ((CF (decide (((Aj v i).fN)=0)) i).isSome))))<|Bj (imp (!(decide (((Aj v i).fInt)=0))) (imp (decide (((Aj v i).fInt)=1)) (imp (!(decide (((Aj v i).fStr)=([]:Ah)))) ((CF false i).isSome))))<|Bj (imp (!(decide (((Aj v i).fInt)=0))) (imp (!(decide (((Aj v i).fInt)=1))) ((CF false i).isSome)))<|some (bif decide (((Aj v i).fInt)=0) then(bif decide (((Aj v i).fStr)=([]:Ah)) then(ov (CF (decide (((Aj v i).fN)=0)) i)) else(ov (CF false i))) else(bif decide (((Aj v i).fInt)=1) then(bif decide (((Aj v i).fStr)=([]:Ah)) then(ov (CF (decide (((Aj v i).fN)=0)) i)) else(ov (CF false i))) else(ov (CF false i))))) (B3 (decide (((Aj v i).fKind)=3)) (Bj (imp (decide (((Aj v i).fStr)=([]:Ah))) ((CF (decide (((Aj v i).fN)=0)) i).isSome))<|Bj (imp (!(decide (((Aj v i).fStr)=([]:Ah)))) ((CF false i).isSome))<|some (bif decide (((Aj v i).fStr)=([]:Ah)) then(ov (CF (decide (((Aj v i).fN)=0)) i)) else(ov (CF false i)))) (B3 (decide (((Aj v i).fKind)=4)) (B8 (Tu F (Aj v i)) λhd=>B8 (CF hd i) λhe=>some he) (B3 (((decide (((Aj v i).fKind)=5))&&((decide (((Aj v i).fInt)=0))&&((decide (((Aj v i).fStr)=([]:Ah)))&&(decide (0≤((Aj v i).fN))))))) (Bj (Ci .i64 (i+1))<|B8 (ha v (i+1) ((Aj v i).fN)) λhf=>some hf) (B3 (((decide (((Aj v i).fKind)=6))&&((decide (((Aj v i).fInt)=0))&&((decide (((Aj v i).fStr)=([]:Ah)))&&(decide (0≤((Aj v i).fN))))))) (Bj (Ci .i64 (i+1))<|B8 (hb v (i+1) ((Aj v i).fN)) λhg=>some hg) (some (-1))))))))
def DB (v:(List Ab))(n:Int)(he:(List Ab)→Int→Option (Int))(hb:Int)(ha:Int):Option (Stp (Int×Int) (Out (Int) (Int))):=
 B3 (decide (ha<n)) (B8 (he v hb) λhd=>B3 (decide (hd<0)) (some (.out (.ret (-1)))) (Bj (Ci .i64 (ha+1))<|some (.next (hd,ha+1)))) (some (.out (.go hb)))
def H5 (ha:Int):Option (Int):=
 some ha
def LU (F:Nat)(ha:(List Ab)→Int→Option (Int))(v:(List Ab))(i:Int)(n:Int):Option (Int):=
 B8 (Ch (λσ=>DB v n ha σ.1 σ.2) F (i,0)) (Cg λν=>H5 ν)
def Ef (F:Nat)(v:(List Ab))(n:Int)(hf:(List Ab)→Int→Option (Int))(ha:Int)(hd:Ah)(hb:Int):Option (Stp (Int×Ah×Int) (Out (Int) (Int))):=
 B3 (decide (hb<n)) (Bj (imp (!(decide ((v.length:Int)≤ha))) (C2 ha (v.length:Int)))<|Bj (imp (!(decide ((v.length:Int)≤ha))) ((Tu F (Aj v ha)).isSome))<|B3 (((decide ((v.length:Int)≤ha))||((!(ov (Tu F (Aj v ha))))||((decide (0<hb))&&(Cu ((Aj v ha).fStr) hd||decide (((Aj v ha).fStr)=hd)))))) (some (.out (.ret (-1)))) (Bj (C2 ha (v.length:Int))<|Bj (Ci .i64 (ha+1))<|B8 (hf v (ha+1)) λhe=>B3 (decide (he<0)) (some (.out (.ret (-1)))) (Bj (Ci .i64 (hb+1))<|some (.next (he,(Aj v ha).fStr,hb+1))))) (some (.out (.go ha)))
def K2 (ha:Int):Option (Int):=
 some ha
def QO (F:Nat)(ha:(List Ab)→Int→Option (Int))(v:(List Ab))(i:Int)(n:Int):Option (Int):=
 B8 (Ch (λσ=>Ef F v n ha σ.1 σ.2.1 σ.2.2) F (i,([]:Ah),0)) (Cg λν=>K2 ν)
mutual
def Nj:Nat→(List Ab)→Int→Option (Int)
 | 0,_,_=>none
 | nn+1,v,i=>Ts nn (Nk nn) (Tr nn) v i
def Nk:Nat→(List Ab)→Int→Int→Option (Int)
 | 0,_,_,_=>none
 | nn+1,v,i,n=>LU nn (Nj nn) v i n
def Tr:Nat→(List Ab)→Int→Int→Option (Int)
 | 0,_,_,_=>none
 | nn+1,v,i,n=>QO nn (Nj nn) v i n
end
end Go.Proofs.YtogdediiodmnbaaGreatDoor
namespace Go.Proofs.YtogdediiodmnbaaGreatDoor.Q
open Go Go.RowKit
set_option linter.unusedVariables false
set_option linter.unusedSimpArgs false
set_option maxRecDepth 100000
set_option maxHeartbeats 4000000
@[reducible] def Ac (x:Ab):List Rp:=[rI .i64 x.fKind,rI .i64 x.fInt,rS x.fStr,rI .i64 x.fN]
theorem Bi (x:Ab):(Ac x).length=4:=rfl
theorem C1 (x:Ab):(Ac x).all (·.one)=true:=rfl
end Go.Proofs.YtogdediiodmnbaaGreatDoor.Q
namespace Go.Proofs.YtogdediiodmnbaaGreatDoor
open Go
set_option linter.unusedVariables false
structure A6 where
 fPairs:Bool
 fLeft:Int
 fKey:Bool
 fLast:Ah
 fStarted:Bool
 deriving DecidableEq,Inhabited
structure AF where
 fDepth:Int
 fBytes:Int
 fOutside:Bool
 fLong:Bool
 deriving DecidableEq,Inhabited
def B6 (n:Int):Option (Bool):=
 some ((decide ((-1000000000000)≤n))&&(decide (n≤1000000000000)))
def Hc (s:Ah)(ha:Int):Option (Stp (Int) (Out (Bool) (Unit))):=
 B3 (decide (ha<(s.length:Int))) (Bj (C2 ha (s.length:Int))<|B3 (((decide ((Br s ha)<32))||(decide (126<(Br s ha))))) (some (.out (.ret false))) (Bj (Ci .i64 (ha+1))<|some (.next (ha+1)))) (some (.out (.go ())))
def Hb :Option (Bool):=
 some true
def J5 (F:Nat)(s:Ah):Option (Bool):=
 B8 (Ch (λσ=>Hc s σ) F 0) (Cg λν=>Hb )
def I2 (s:Ah):Option (Int):=
 Bj (Ci .i64 ((s.length:Int)+2))<|Bj (Ci .i64 (((s.length:Int)+2)+(Lib.countByte s 34:Int)))<|Bj (Ci .i64 ((((s.length:Int)+2)+(Lib.countByte s 34:Int))+(Lib.countByte s 92:Int)))<|some ((((s.length:Int)+2)+(Lib.countByte s 34:Int))+(Lib.countByte s 92:Int))
def LN (F:Nat)(c:Ab):Option (Bool):=
 B3 (decide (c.fKind=1)) (some ((decide (c.fInt=0))&&((decide (c.fStr=([]:Ah)))&&(decide (c.fN=0))))) (B3 (decide (c.fKind=2)) (some (bif decide (c.fInt=0) then((decide (c.fStr=([]:Ah)))&&(decide (c.fN=0))) else((decide (c.fInt=1))&&((decide (c.fStr=([]:Ah)))&&(decide (c.fN=0)))))) (B3 (decide (c.fKind=3)) (some ((decide (c.fStr=([]:Ah)))&&(decide (c.fN=0)))) (B3 (decide (c.fKind=4)) (Bj (imp (decide (c.fInt=0)) (imp (decide (c.fN=0)) ((J5 F c.fStr).isSome)))<|some ((decide (c.fInt=0))&&((decide (c.fN=0))&&(ov (J5 F c.fStr))))) (B3 (decide (c.fKind=5)) (some ((decide (c.fInt=0))&&((decide (c.fStr=([]:Ah)))&&(decide (0≤c.fN))))) (B3 (decide (c.fKind=6)) (some ((decide (c.fInt=0))&&((decide (c.fStr=([]:Ah)))&&(decide (0≤c.fN))))) (some false))))))
def OG (c:Ab):Option (Int):=
 B3 (decide (c.fKind=1)) (some 4) (B3 (decide (c.fKind=2)) (some (IntKind.wrap .i64 (5-c.fInt))) (B3 (decide (c.fKind=3)) (Bj (Ci .i64 c.fInt)<|some ((Lib.itoa c.fInt).length:Int)) (B3 (decide (c.fKind=4)) (B8 (I2 c.fStr) λha=>some ha) (some (IntKind.wrap .i64 (2+(max 0 (IntKind.wrap .i64 (c.fN-1)))))))))
def Dx (ha:(List A6)):Option (Stp ((List A6)) (Out ((List A6)) ((List A6)))):=
 B3 (decide (0<(ha.length:Int))) (Bj (Ci .i64 ((ha.length:Int)-1))<|Bj (C2 ((ha.length:Int)-1) (ha.length:Int))<|Bj (Ci .i64 (((Aj ha ((ha.length:Int)-1)).fLeft)-1))<|Jz (List.set ha (Int.toNat ((ha.length:Int)-1)) (A6.mk ((Aj ha ((ha.length:Int)-1)).fPairs) (((Aj ha ((ha.length:Int)-1)).fLeft)-1) ((Aj ha ((ha.length:Int)-1)).fKey) ((Aj ha ((ha.length:Int)-1)).fLast) ((Aj ha ((ha.length:Int)-1)).fStarted))) λhb=>B3 (decide (0<((Aj hb ((ha.length:Int)-1)).fLeft))) (Jz (List.set hb (Int.toNat ((ha.length:Int)-1)) (A6.mk ((Aj hb ((ha.length:Int)-1)).fPairs) ((Aj hb ((ha.length:Int)-1)).fLeft) ((Aj hb ((ha.length:Int)-1)).fPairs) ((Aj hb ((ha.length:Int)-1)).fLast) ((Aj hb ((ha.length:Int)-1)).fStarted))) λhd=>some (.out (.ret hd))) (Bj (Ci .i64 ((hb.length:Int)-1))<|Bj (Jb ((hb.length:Int)-1) (hb.length:Int))<|some (.next (List.take (Int.toNat ((hb.length:Int)-1)) hb)))) (some (.out (.go ha)))
def DX (ha:(List A6)):Option ((List A6)):=
 some ha
def JA (F:Nat)(stack:(List A6)):Option ((List A6)):=
 B8 (Ch (λσ=>Dx σ) F stack) (Cg λν=>DX ν)
def DM (ha:Int)(hb:(List A6))(hd:AF):Option (Stp ((List A6)×Int×AF) (Out (Int×AF×Bool) (AF))):=
 Bj (Ci .i64 (ha+1))<|some (.next (hb,ha+1,hd))
def Dw (F:Nat)(v:(List Ab))(ha:(List A6))(hb:Int)(hd:AF):Option (Stp ((List A6)×Int×AF) (Out (Int×AF×Bool) (AF))):=
 B3 (decide (hb<(v.length:Int))) (Bj (C2 hb (v.length:Int))<|B8 (LN F (Aj v hb)) λhj=>B3 (!hj) (some (.out (.ret (0,hd,false)))) (Bj (imp (decide (0<(ha.length:Int))) (Ci .i64 ((ha.length:Int)-1)))<|Bj (imp (decide (0<(ha.length:Int))) (C2 ((ha.length:Int)-1) (ha.length:Int)))<|B3 (((decide (0<(ha.length:Int)))&&((Aj ha ((ha.length:Int)-1)).fKey))) (Bj (Ci .i64 ((ha.length:Int)-1))<|Bj (C2 ((ha.length:Int)-1) (ha.length:Int))<|B3 (((!decide (((Aj v hb).fKind)=4))||(((Aj ha ((ha.length:Int)-1)).fStarted)&&(Cu ((Aj v hb).fStr) ((Aj ha ((ha.length:Int)-1)).fLast)||decide (((Aj v hb).fStr)=((Aj ha ((ha.length:Int)-1)).fLast)))))) (some (.out (.ret (0,hd,false)))) (Jz (List.set ha (Int.toNat ((ha.length:Int)-1)) (A6.mk ((Aj ha ((ha.length:Int)-1)).fPairs) ((Aj ha ((ha.length:Int)-1)).fLeft) ((Aj ha ((ha.length:Int)-1)).fKey) ((Aj v hb).fStr) ((Aj ha ((ha.length:Int)-1)).fStarted))) λhe=>Jz (List.set he (Int.toNat ((ha.length:Int)-1)) (A6.mk ((Aj he ((ha.length:Int)-1)).fPairs) ((Aj he ((ha.length:Int)-1)).fLeft) ((Aj he ((ha.length:Int)-1)).fKey) ((Aj he ((ha.length:Int)-1)).fLast) true)) λhf=>Jz (List.set hf (Int.toNat ((ha.length:Int)-1)) (A6.mk ((Aj hf ((ha.length:Int)-1)).fPairs) ((Aj hf ((ha.length:Int)-1)).fLeft) false ((Aj hf ((ha.length:Int)-1)).fLast) ((Aj hf ((ha.length:Int)-1)).fStarted))) λhk=>B8 (I2 ((Aj v hb).fStr)) λhh=>Bj (Ci .i64 (hh+1))<|DM hb hk (AF.mk hd.fDepth (IntKind.wrap .i64 (hd.fBytes+(hh+1))) hd.fOutside (hd.fLong||(decide (200<(((Aj v hb).fStr).length:Int))))))) (Bj (Ci .i64 ((ha.length:Int)+1))<|B8 (OG (Aj v hb)) λhg=>Bj (imp (!hd.fOutside) (imp (decide (((Aj v hb).fKind)=3)) ((B6 ((Aj v hb).fInt)).isSome)))<|B3 (decide (0<((Aj v hb).fN))) (B3 (decide ((v.length:Int)<((Aj v hb).fN))) (some (.out (.ret (0,(AF.mk (max hd.fDepth ((ha.length:Int)+1)) (IntKind.wrap .i64 (hd.fBytes+hg)) (hd.fOutside||((decide (((Aj v hb).fKind)=3))&&(!(ov (B6 ((Aj v hb).fInt)))))) (hd.fLong||(decide (200<(((Aj v hb).fStr).length:Int))))),false)))) (Bj (DI 48 (ha.length+([(A6.mk (decide (((Aj v hb).fKind)=6)) ((Aj v hb).fN) (decide (((Aj v hb).fKind)=6)) ([]:Ah) false)]:List A6).length))<|DM hb (ha++([(A6.mk (decide (((Aj v hb).fKind)=6)) ((Aj v hb).fN) (decide (((Aj v hb).fKind)=6)) ([]:Ah) false)]:List A6)) (AF.mk (max hd.fDepth ((ha.length:Int)+1)) (IntKind.wrap .i64 (hd.fBytes+hg)) (hd.fOutside||((decide (((Aj v hb).fKind)=3))&&(!(ov (B6 ((Aj v hb).fInt)))))) (hd.fLong||(decide (200<(((Aj v hb).fStr).length:Int))))))) (B8 (JA F ha) λhi=>B3 (decide ((hi.length:Int)=0)) (Bj (Ci .i64 (hb+1))<|some (.out (.ret (hb+1,(AF.mk (max hd.fDepth ((ha.length:Int)+1)) (IntKind.wrap .i64 (hd.fBytes+hg)) (hd.fOutside||((decide (((Aj v hb).fKind)=3))&&(!(ov (B6 ((Aj v hb).fInt)))))) (hd.fLong||(decide (200<(((Aj v hb).fStr).length:Int))))),true)))) (DM hb hi (AF.mk (max hd.fDepth ((ha.length:Int)+1)) (IntKind.wrap .i64 (hd.fBytes+hg)) (hd.fOutside||((decide (((Aj v hb).fKind)=3))&&(!(ov (B6 ((Aj v hb).fInt)))))) (hd.fLong||(decide (200<(((Aj v hb).fStr).length:Int)))))))))) (some (.out (.go hd)))
def J7 (ha:AF):Option (Int×AF×Bool):=
 some (0,ha,false)
def HM (F:Nat)(v:(List Ab)):Option (Int×AF×Bool):=
 B8 (Ch (λσ=>Dw F v σ.1 σ.2.1 σ.2.2) F (([]:List A6),0,(AF.mk 0 0 false false))) (Cg λν=>J7 ν)
def Ib (F:Nat)(v:(List Ab)):Option (Int):=
 B8 (HM F v) λr1=>B3 (((!r1.2.2)||(!decide (r1.1=(v.length:Int))))) (some 1) (B3 (r1.2.1.fOutside) (some 2) (B3 ((r1.2.1.fLong||((decide (200<(v.length:Int)))||((decide (8<r1.2.1.fDepth))||(decide (4000<r1.2.1.fBytes)))))) (some 3) (some 0)))
def JB (F:Nat)(v:(List Ab)):Option ((List Ab)×Int):=
 B8 (Ib F v) λr1=>B3 (!decide (r1=0)) (some (([]:List Ab),r1)) (some (v,0))
def OL :Option ((List Ab)):=
 some ([(Ab.mk 1 0 ([]:Ah) 0)]:List Ab)
def QJ (b:Bool):Option ((List Ab)):=
 B3 (b) (some ([(Ab.mk 2 1 ([]:Ah) 0)]:List Ab)) (some ([(Ab.mk 2 0 ([]:Ah) 0)]:List Ab))
end Go.Proofs.YtogdediiodmnbaaGreatDoor
namespace Go.Proofs.YtogdediiodmnbaaGreatDoor.Q
open Go Go.RowKit
set_option linter.unusedVariables false
set_option linter.unusedSimpArgs false
set_option maxRecDepth 100000
set_option maxHeartbeats 4000000
@[reducible] def A5 (x:A6):List Rp:=[rB x.fPairs,rI .i64 x.fLeft,rB x.fKey,rS x.fLast,rB x.fStarted]
theorem HP (x:A6):(A5 x).length=5:=rfl
theorem Lr (x:A6):(A5 x).all (·.one)=true:=rfl
@[reducible] def AR (x:AF):List Rp:=[rI .i64 x.fDepth,rI .i64 x.fBytes,rB x.fOutside,rB x.fLong]
theorem VJ:∃inf,Tryz.prog.info? 151=some inf∧inf.zero=some (.agg #[(.bool false),(.int .i64 0),(.bool false),(.string ⟨#[]⟩),(.bool false)])∧inf.size=5∧inf.bytes=48:=by
  have key:(Tryz.prog.info? 151).map (λi=>(i.zero,i.size,i.bytes))=some (some (.agg #[(.bool false),(.int .i64 0),(.bool false),(.string ⟨#[]⟩),(.bool false)]),5,48):=by kernel_rfl
  obtain⟨inf,h1,h2⟩:=Option.map_eq_some_iff.1 key;simp only[Prod.mk.injEq] at h2;exact⟨inf,h1,h2.1,h2.2.1,h2.2.2⟩
theorem Or (parts:List (Nat×Value)):Tryz.prog.built 63 parts=Instr.fill (λi=>(#[(0,1),(1,1),(2,1),(3,1)]:Array (Nat×Nat))[i]?) #[(.int .i64 0),(.int .i64 0),(.string ⟨#[]⟩),(.int .i64 0)] parts:=by kernel_rfl
theorem Eg {n:Nat}{c:Cx}{l:Fr}{H:List Ent}{d:Option Nat}{ty:TypeId}{pos:String}{af:Array Edge}{g:Option (Nat×Bool)}{x0:Operand}{r0:Rp}(h0:ev l x0=some r0)(u0:r0.one=true):Bn Tryz.prog n c l H { dst:=d,op:=.build 63 #[(0,x0)],type:=ty,pos:=pos,after:=af,guard:=g } (Bg [r0,rI .i64 0,rS ([]:Ah),rI .i64 0]):=λa w Z ha _=>by
  have p0:=ha.ev h0;have c0:=B1 (r0.hone u0 Z _ p0);have hb:Tryz.prog.built 63 [(0,a.eval x0)]=some #[a.eval x0,(.int .i64 0),(.string ⟨#[]⟩),(.int .i64 0)]:=by
    rw[Or];generalize a.eval x0=v0 at *;simp[Instr.fill,c0]
  refine⟨.agg #[a.eval x0,(.int .i64 0),(.string ⟨#[]⟩),(.int .i64 0)],⟨[a.eval x0,(.int .i64 0),(.string ⟨#[]⟩),(.int .i64 0)],rfl,p0,rfl,rfl,rfl,trivial⟩,?_⟩;have:=run_build w 63 #[(0,a.eval x0)] _ (by simpa using hb);simp[execOp,this]
theorem UD (parts:List (Nat×Value)):Tryz.prog.built 151 parts=Instr.fill (λi=>(#[(0,1),(1,1),(2,1),(3,1),(4,1)]:Array (Nat×Nat))[i]?) #[(.bool false),(.int .i64 0),(.bool false),(.string ⟨#[]⟩),(.bool false)] parts:=by kernel_rfl
theorem K7 {n:Nat}{c:Cx}{l:Fr}{H:List Ent}{d:Option Nat}{ty:TypeId}{pos:String}{af:Array Edge}{g:Option (Nat×Bool)}{x0:Operand}{r0:Rp}(h0:ev l x0=some r0)(u0:r0.one=true){x1:Operand}{r1:Rp}(h1:ev l x1=some r1)(u1:r1.one=true){x2:Operand}{r2:Rp}(h2:ev l x2=some r2)(u2:r2.one=true):Bn Tryz.prog n c l H { dst:=d,op:=.build 151 #[(0,x0),(1,x1),(2,x2)],type:=ty,pos:=pos,after:=af,guard:=g } (Bg [r0,r1,r2,rS ([]:Ah),rB false]):=λa w Z ha _=>by
  have p0:=ha.ev h0;have c0:=B1 (r0.hone u0 Z _ p0);have p1:=ha.ev h1;have c1:=B1 (r1.hone u1 Z _ p1);have p2:=ha.ev h2;have c2:=B1 (r2.hone u2 Z _ p2);have hb:Tryz.prog.built 151 [(0,a.eval x0),(1,a.eval x1),(2,a.eval x2)]=some #[a.eval x0,a.eval x1,a.eval x2,(.string ⟨#[]⟩),(.bool false)]:=by
    rw[UD];generalize a.eval x0=v0 at *;generalize a.eval x1=v1 at *;generalize a.eval x2=v2 at *;simp[Instr.fill,c0,c1,c2]
  refine⟨.agg #[a.eval x0,a.eval x1,a.eval x2,(.string ⟨#[]⟩),(.bool false)],⟨[a.eval x0,a.eval x1,a.eval x2,(.string ⟨#[]⟩),(.bool false)],rfl,p0,p1,p2,rfl,rfl,trivial⟩,?_⟩;have:=run_build w 151 #[(0,a.eval x0),(1,a.eval x1),(2,a.eval x2)] _ (by simpa using hb);simp[execOp,this]
theorem Md (n:Int)(r:Bool)(h:B6 n=some r):Fn Tryz.prog GE 98 [rI .i64 n] [] (λR H=>R=rB r∧H=[]):=by
 refine enter (n:=9) Tryz.func98 Aa Tryz.ntmps98 Aa (λw Z=>?_);refine Be (l':=[(0,rI .i64 n)]) (H':=[]) Aa Aa ?_;unfold B6 at h;refine Al (wv (r:=rB false) (Ae Aa) (Av (AX [(2,rB ((decide ((-1000000000000)≤n))&&(decide (n≤1000000000000))))] [] ?_ ?_)))
 ·refine At (wm Aa (wv (MN Aa Aa) (wm Aa (Bb (decide ((-1000000000000)≤n)) (λc1=>?_) (λc1=>?_)))))
  ·refine wo c1 (wm Aa (wo c1 (wv (MN Aa Aa) (Jx Aa c1 Aa (wa Aa (Aw ?_))))));exact CW c1
  ·refine wf c1 (wf c1 (wv (r:=rB false) (AP (b:=decide ((-1000000000000)≤n)) Aa c1 Aa) (wa Aa (Aw ?_))));exact CW c1
 refine A1 ?_;obtain rfl:=A2 h;exact A0 (Ce Tryz.results98 (AO Aa)) sN ⟨Aa,Aa⟩
theorem Vk (F:Nat)(s:Ah)(r:Bool)(h:J5 F s=some r):Fn Tryz.prog GE 133 [rS s] [] (λR H=>R=rB r∧H=[]):=by
 refine enter (n:=20) Tryz.func133 Aa Tryz.ntmps133 Aa (λw Z=>?_);refine Be (l':=[(0,rS s)]) (H':=[]) Aa Aa ?_;unfold J5 at h;refine Al (wv (r:=rB false) (Ae Aa) (Av (As (Al (wm Aa (wv (BC CC Aa) (wv (r:=rI .i64 0) (Aq Aa) (Av (AY ?_)))))))));obtain⟨hl,hm,hi⟩:=AM h;refine BJ (S:=Nat×(Int)×(Unit)) (V:=(Unit)×(Unit)) 0 (λσ=>Ch (λσ=>Hc s σ) σ.1 σ.2.1=some hl) (λσ=>[(0,rS s),(5,rI .i64 (s.length:Int)),(6,rI .i64 σ.2.1)]) (λσ=>[]) (λσ=>σ.1) (F,0,()) hm (AT.c Aa (AT.c Aa (AT.c Aa AT.nil))) sN (λσ=>Hb =some r) (λσ=>[]) (λσ=>[]) ?_ ?_
 ·rintro⟨hz,hb,⟨⟩⟩ hn;refine Be (l':=[(0,rS s),(5,rI .i64 (s.length:Int)),(6,rI .i64 hb)]) (H':=[]) Aa Aa ?_;obtain⟨ho,rfl,t37,hd,hf⟩:=Dh hn;replace hd:Hc s hb=some t37:=hd;unfold Hc at hd;refine Al (wv (Dn Aa Aa) (Av (As (Az (b:=decide (hb<(s.length:Int))) Aa (λhg=>?_) (λhg=>?_)))))
  ·have hp:=AK hg hd;refine A4 (AW (As (AY (Al (wm Aa (wa Aa (Av ?_)))))));obtain⟨hj,hk⟩:=A8 hp;refine AX [(0,rS s),(5,rI .i64 (s.length:Int)),(6,rI .i64 hb),(18,rB ((decide ((Br s hb)<32))||(decide (126<(Br s hb)))))] [] ?_ ?_
   ·refine At (wm Aa (wm Aa (wv (BA CC Aa Aa hj) (wv (Dn Aa Aa) (wm Aa (Bb (decide ((Br s hb)<32)) (λha=>?_) (λha=>?_)))))))
    ·refine wf ha (wf ha (wf ha (wf ha (wv (r:=rB true) (A7 (b:=decide ((Br s hb)<32)) Aa ha Aa) (Aw ?_)))));exact CW ha
    ·refine wo ha (wm Aa (wo ha (wm Aa (wo ha (wv (BA CC Aa Aa hj) (wo ha (wv (DN Aa Aa) (HU Aa ha Aa (Aw ?_)))))))));exact CW ha
   refine Az (b:=((decide ((Br s hb)<32))||(decide (126<(Br s hb))))) Aa (λhh=>?_) (λhh=>?_)
   ·have hq:=AK hh hk;refine Al (wv (r:=rB false) (Ae Aa) (Av (A1 (AC (Af (Af (Bq ?_)))))));have hr:=BF hq hf hi;refine AC (Af ?_);obtain rfl:=A2 hr;exact A0 (Ce Tryz.results133 (AO Aa)) sN ⟨Aa,Aa⟩
   ·have hs:=AL hh hk;refine A4 (AV (AW (At ?_)));obtain⟨ht,hu⟩:=A8 hs;refine wv (BZ Aa Aa ht) (wm Aa (Aw ?_));have hw:=BG hu hf;exact AA (AU (ho,hb+1,()) ⟨hw,Y1 _⟩ (AT.c Aa (AT.c Aa (AT.c Aa AT.nil))) sN)
  ·have hx:=AL hg hd;refine BQ (AE ?_);have hy:=CE hx hf hi;exact AE (B7 (AU ((),()) hy AT.nil sN))
 ·rintro⟨⟨⟩,⟨⟩⟩ he;refine Dr (l':=[]) (H':=[]) Aa Aa ?_;replace he:Hb =some r:=he;unfold Hb at he;refine B4 (AW (Al (wv (r:=rB true) (Ae Aa) (Av (A1 ?_)))));obtain rfl:=A2 he;exact A0 (Ce Tryz.results133 (AO Aa)) sN ⟨Aa,Aa⟩
theorem MZ (s:Ah)(r:Int)(h:I2 s=some r):Fn Tryz.prog GE 106 [rS s] [] (λR H=>R=rI .i64 r∧H=[]):=by
 refine enter (n:=12) Tryz.func106 Aa Tryz.ntmps106 Aa (λw Z=>?_);refine Be (l':=[(0,rS s)]) (H':=[]) Aa Aa ?_;unfold I2 at h;refine Al (wv (r:=rI .i64 0) (Ae Aa) (By (wm Aa (wv (BC CC Aa) ?_))));obtain⟨g1,h2⟩:=A8 h;refine wv (BZ Aa Aa g1) (wm Aa (Hz (rs:=[rS s,rS ([34]:Ah)]) (r:=rI .i64 (Lib.countByte s 34:Int)) Tryz.call134 Aa (Rr s 34) Aa Aa ?_));obtain⟨g3,h4⟩:=A8 h2;refine wv (BZ Aa Aa g3) (wm Aa (Hz (rs:=[rS s,rS ([92]:Ah)]) (r:=rI .i64 (Lib.countByte s 92:Int)) Tryz.call134 Aa (Rr s 92) Aa Aa ?_));obtain⟨g5,h6⟩:=A8 h4;refine wv (BZ Aa Aa g5) (wa Aa (Av (A1 ?_)));obtain rfl:=A2 h6;exact A0 (Ce Tryz.results106 (AO Aa)) sN ⟨Aa,Aa⟩
theorem Td (F:Nat)(c:Ab)(r:Bool)(h:LN F c=some r):Fn Tryz.prog GE 105 [Bg (Ac c)] [] (λR H=>R=rB r∧H=[]):=by
 refine enter (n:=81) Tryz.func105 Aa Tryz.ntmps105 Aa (λw Z=>?_);refine Be (l':=[(0,Bg (Ac c))]) (H':=[]) Aa Aa ?_;unfold LN at h;refine Al (BW Aa Aa (λb1=>?_));refine wv (r:=rB false) (Ae Aa) (Av (As (Al (wv (Ad Cc Aa HX Aa Aa) (wv (Au (i:=0) HY Aa Aa Aa) (Av (AY (Al (wv (Ca Aa Aa) (wa Aa (Av (Az (b:=decide (c.fKind=1)) Aa (λc2=>?_) (λc2=>?_)))))))))))))
 ·have h3:=AK c2 h;refine AX [(2,rB ((decide (c.fInt=0))&&((decide (c.fStr=([]:Ah)))&&(decide (c.fN=0)))))] [] ?_ ?_
  ·refine At (wv (Ad Cc Aa C4 Aa Aa) (wv (Au (i:=0) D8 Aa Aa Aa) (wv (Ca Aa Aa) (wm Aa (Bb (decide (c.fInt=0)) (λc4=>?_) (λc4=>?_))))))
   ·refine wo c4 (wv (Ad Cc Aa CM Aa Aa) (wo c4 (wv (Au (i:=0) Dk Aa Aa Aa) (wo c4 (wv (Hk Aa Aa) (Jx Aa c4 Aa (wm Aa (Bb (decide (c.fStr=([]:Ah))) (λc5=>?_) (λc5=>?_)))))))))
    ·refine wo c5 (wv (Ad Cc Aa C4 Aa Aa) (wo c5 (wv (Au (i:=0) D8 Aa Aa Aa) (wo c5 (wv (Ca Aa Aa) (Jx Aa c5 Aa (wa Aa (Aw ?_))))))));exact CW (And.intro c4 c5)
    ·refine wf c5 (wf c5 (wf c5 (wv (r:=rB false) (AP (b:=decide (c.fStr=([]:Ah))) Aa c5 Aa) (wa Aa (Aw ?_)))));exact CW (And.intro c4 c5)
   ·refine wf c4 (wf c4 (wf c4 (wv (r:=rB false) (AP (b:=decide (c.fInt=0)) Aa c4 Aa) (wm Aa (A3 (b:=false) Aa Aa Aa Aa (A3 (b:=false) Aa Aa Aa Aa (A3 (b:=false) Aa Aa Aa Aa (wv (r:=rB false) (AP (b:=false) Aa Aa Aa) (wa Aa (Aw ?_))))))))));exact CW c4
  refine A1 (AC (Af ?_));obtain rfl:=A2 h3;exact A0 (Ce LE (AO Aa)) sN ⟨Aa,Aa⟩
 ·have h6:=AL c2 h;refine Al (wv (Ca Aa Aa) (wa Aa (Av (Az (b:=decide (c.fKind=2)) Aa (λc7=>?_) (λc7=>?_)))))
  ·have h8:=AK c7 h6;refine AX [(2,rB (bif decide (c.fInt=0) then((decide (c.fStr=([]:Ah)))&&(decide (c.fN=0))) else((decide (c.fInt=1))&&((decide (c.fStr=([]:Ah)))&&(decide (c.fN=0))))))] [] ?_ ?_
   ·refine At (wv (Ad Cc Aa C4 Aa Aa) (wv (Au (i:=0) D8 Aa Aa Aa) (wv (Ca Aa Aa) (wm Aa (Bb (decide (c.fInt=0)) (λc9=>?_) (λc9=>?_))))))
    ·refine wf c9 (wf c9 (wf c9 (wv (r:=rB true) (A7 (b:=decide (c.fInt=0)) Aa c9 Aa) (wm Aa (Bo (b:=true) Aa Aa Aa (wv (Ad Cc Aa CM Aa Aa) (Bo (b:=true) Aa Aa Aa (wv (Au (i:=0) Dk Aa Aa Aa) (Bo (b:=true) Aa Aa Aa (wv (Hk Aa Aa) (wv (r:=rB (decide (c.fStr=([]:Ah)))) (A7 (b:=true) Aa Aa Aa) (wm Aa (Bb (decide (c.fStr=([]:Ah))) (λhg=>?_) (λhg=>?_))))))))))))))
     ·refine wo hg (wv (Ad Cc Aa C4 Aa Aa) (wo hg (wv (Au (i:=0) D8 Aa Aa Aa) (wo hg (wv (Ca Aa Aa) (Jx Aa hg Aa (wa Aa (Aw ?_))))))));exact CW (And.intro c9 hg)
     ·refine wf hg (wf hg (wf hg (wv (r:=rB false) (AP (b:=decide (c.fStr=([]:Ah))) Aa hg Aa) (wa Aa (Aw ?_)))));exact CW (And.intro c9 hg)
    ·refine wo c9 (wv (Ad Cc Aa C4 Aa Aa) (wo c9 (wv (Au (i:=0) D8 Aa Aa Aa) (wo c9 (wv (Ca Aa Aa) (HU Aa c9 Aa (wm Aa (Bb (decide (c.fInt=1)) (λhb=>?_) (λhb=>?_)))))))))
     ·refine wo hb (wv (Ad Cc Aa CM Aa Aa) (wo hb (wv (Au (i:=0) Dk Aa Aa Aa) (wo hb (wv (Hk Aa Aa) (Jx Aa hb Aa (wm Aa (Bb (decide (c.fStr=([]:Ah))) (λhh=>?_) (λhh=>?_)))))))))
      ·refine wo hh (wv (Ad Cc Aa C4 Aa Aa) (wo hh (wv (Au (i:=0) D8 Aa Aa Aa) (wo hh (wv (Ca Aa Aa) (Jx Aa hh Aa (wa Aa (Aw ?_))))))));exact CW (And.intro c9 (And.intro hb hh))
      ·refine wf hh (wf hh (wf hh (wv (r:=rB false) (AP (b:=decide (c.fStr=([]:Ah))) Aa hh Aa) (wa Aa (Aw ?_)))));exact CW (And.intro c9 (And.intro hb hh))
     ·refine wf hb (wf hb (wf hb (wv (r:=rB false) (AP (b:=decide (c.fInt=1)) Aa hb Aa) (wm Aa (A3 (b:=false) Aa Aa Aa Aa (A3 (b:=false) Aa Aa Aa Aa (A3 (b:=false) Aa Aa Aa Aa (wv (r:=rB false) (AP (b:=false) Aa Aa Aa) (wa Aa (Aw ?_))))))))));exact CW (And.intro c9 hb)
   refine A1 (AC (Af ?_));obtain rfl:=A2 h8;exact A0 (Ce LE (AO Aa)) sN ⟨Aa,Aa⟩
  ·have hp:=AL c7 h6;refine Al (wv (Ca Aa Aa) (wa Aa (Av (Az (b:=decide (c.fKind=3)) Aa (λhm=>?_) (λhm=>?_)))))
   ·have ht:=AK hm hp;refine AX [(2,rB ((decide (c.fStr=([]:Ah)))&&(decide (c.fN=0))))] [] ?_ ?_
    ·refine At (wv (Ad Cc Aa CM Aa Aa) (wv (Au (i:=0) Dk Aa Aa Aa) (wv (Hk Aa Aa) (wm Aa (Bb (decide (c.fStr=([]:Ah))) (λhi=>?_) (λhi=>?_))))))
     ·refine wo hi (wv (Ad Cc Aa C4 Aa Aa) (wo hi (wv (Au (i:=0) D8 Aa Aa Aa) (wo hi (wv (Ca Aa Aa) (Jx Aa hi Aa (wa Aa (Aw ?_))))))));exact CW hi
     ·refine wf hi (wf hi (wf hi (wv (r:=rB false) (AP (b:=decide (c.fStr=([]:Ah))) Aa hi Aa) (wa Aa (Aw ?_)))));exact CW hi
    refine A1 (AC (Af ?_));obtain rfl:=A2 ht;exact A0 (Ce LE (AO Aa)) sN ⟨Aa,Aa⟩
   ·have hq:=AL hm hp;refine Al (wv (Ca Aa Aa) (wa Aa (Av (Az (b:=decide (c.fKind=4)) Aa (λhn=>?_) (λhn=>?_)))))
    ·have hu:=AK hn hq;obtain⟨hw,hx⟩:=A8 hu;refine AX [(2,rB ((decide (c.fInt=0))&&((decide (c.fN=0))&&(ov (J5 F c.fStr)))))] [] ?_ ?_
     ·refine At (wv (Ad Cc Aa C4 Aa Aa) (wv (Au (i:=0) D8 Aa Aa Aa) (wv (Ca Aa Aa) (wm Aa (Bb (decide (c.fInt=0)) (λha=>?_) (λha=>?_))))))
      ·refine wo ha (wv (Ad Cc Aa C4 Aa Aa) (wo ha (wv (Au (i:=0) D8 Aa Aa Aa) (wo ha (wv (Ca Aa Aa) (Jx Aa ha Aa (wm Aa (Bb (decide (c.fN=0)) (λhd=>?_) (λhd=>?_)))))))))
       ·refine wo hd (wv (Ad Cc Aa CM Aa Aa) (wo hd (wv (Au (i:=0) Dk Aa Aa Aa) (wo hd (D9 Tryz.call133 (Vk F c.fStr (ov (J5 F c.fStr)) (T3 (GH (GH hw ha) hd))) Aa (Jx Aa hd Aa (wa Aa (Aw ?_))))))));exact CW (And.intro ha hd)
       ·refine wf hd (wf hd (wf hd (wv (r:=rB false) (AP (b:=decide (c.fN=0)) Aa hd Aa) (wa Aa (Aw ?_)))));exact CW (And.intro ha hd)
      ·refine wf ha (wf ha (wf ha (wv (r:=rB false) (AP (b:=decide (c.fInt=0)) Aa ha Aa) (wm Aa (A3 (b:=false) Aa Aa Aa Aa (A3 (b:=false) Aa Aa Aa Aa (A3 (b:=false) Aa Aa Aa Aa (wv (r:=rB false) (AP (b:=false) Aa Aa Aa) (wa Aa (Aw ?_))))))))));exact CW ha
     refine A1 (AC (Af ?_));obtain rfl:=A2 hx;exact A0 (Ce LE (AO Aa)) sN ⟨Aa,Aa⟩
    ·have hr:=AL hn hq;refine As (Al (wv (Ca Aa Aa) (wa Aa (Av (Az (b:=decide (c.fKind=5)) Aa (λhl=>?_) (λhl=>?_))))))
     ·have hy:=AK hl hr;refine A4 (AW (Ed Aa hl (AX [(2,rB ((decide (c.fInt=0))&&((decide (c.fStr=([]:Ah)))&&(decide (0≤c.fN)))))] [] ?_ ?_)))
      ·refine At (wv (Ad Cc Aa C4 Aa Aa) (wv (Au (i:=0) D8 Aa Aa Aa) (wv (Ca Aa Aa) (wm Aa (Bb (decide (c.fInt=0)) (λhe=>?_) (λhe=>?_))))))
       ·refine wo he (wv (Ad Cc Aa CM Aa Aa) (wo he (wv (Au (i:=0) Dk Aa Aa Aa) (wo he (wv (Hk Aa Aa) (Jx Aa he Aa (wm Aa (Bb (decide (c.fStr=([]:Ah))) (λhj=>?_) (λhj=>?_)))))))))
        ·refine wo hj (wv (Ad Cc Aa C4 Aa Aa) (wo hj (wv (Au (i:=0) D8 Aa Aa Aa) (wo hj (wv (K6 Aa Aa) (Jx Aa hj Aa (wa Aa (Aw ?_))))))));exact CW (And.intro he hj)
        ·refine wf hj (wf hj (wf hj (wv (r:=rB false) (AP (b:=decide (c.fStr=([]:Ah))) Aa hj Aa) (wa Aa (Aw ?_)))));exact CW (And.intro he hj)
       ·refine wf he (wf he (wf he (wv (r:=rB false) (AP (b:=decide (c.fInt=0)) Aa he Aa) (wm Aa (A3 (b:=false) Aa Aa Aa Aa (A3 (b:=false) Aa Aa Aa Aa (A3 (b:=false) Aa Aa Aa Aa (wv (r:=rB false) (AP (b:=false) Aa Aa Aa) (wa Aa (Aw ?_))))))))));exact CW he
      refine A1 (AC (Af ?_));obtain rfl:=A2 hy;exact A0 (Ce LE (AO Aa)) sN ⟨Aa,Aa⟩
     ·have hs:=AL hl hr;refine At (wv (Ca Aa Aa) (wa Aa (Av (Az (b:=decide (c.fKind=6)) Aa (λho=>?_) (λho=>?_)))))
      ·have hz:=AK ho hs;refine AX [(2,rB ((decide (c.fInt=0))&&((decide (c.fStr=([]:Ah)))&&(decide (0≤c.fN)))))] [] ?_ ?_
       ·refine At (wv (Ad Cc Aa C4 Aa Aa) (wv (Au (i:=0) D8 Aa Aa Aa) (wv (Ca Aa Aa) (wm Aa (Bb (decide (c.fInt=0)) (λhf=>?_) (λhf=>?_))))))
        ·refine wo hf (wv (Ad Cc Aa CM Aa Aa) (wo hf (wv (Au (i:=0) Dk Aa Aa Aa) (wo hf (wv (Hk Aa Aa) (Jx Aa hf Aa (wm Aa (Bb (decide (c.fStr=([]:Ah))) (λhk=>?_) (λhk=>?_)))))))))
         ·refine wo hk (wv (Ad Cc Aa C4 Aa Aa) (wo hk (wv (Au (i:=0) D8 Aa Aa Aa) (wo hk (wv (K6 Aa Aa) (Jx Aa hk Aa (wa Aa (Aw ?_))))))));exact CW (And.intro hf hk)
         ·refine wf hk (wf hk (wf hk (wv (r:=rB false) (AP (b:=decide (c.fStr=([]:Ah))) Aa hk Aa) (wa Aa (Aw ?_)))));exact CW (And.intro hf hk)
        ·refine wf hf (wf hf (wf hf (wv (r:=rB false) (AP (b:=decide (c.fInt=0)) Aa hf Aa) (wm Aa (A3 (b:=false) Aa Aa Aa Aa (A3 (b:=false) Aa Aa Aa Aa (A3 (b:=false) Aa Aa Aa Aa (wv (r:=rB false) (AP (b:=false) Aa Aa Aa) (wa Aa (Aw ?_))))))))));exact CW hf
       refine A1 (AC (Af ?_));obtain rfl:=A2 hz;exact A0 (Ce LE (AO Aa)) sN ⟨Aa,Aa⟩
      ·have h0:=AL ho hs;refine A4 (AV (AW (Al (wv (r:=rB false) (Ae Aa) (Av (A1 ?_))))));obtain rfl:=A2 h0;exact A0 (Ce LE (AO Aa)) (sS sN) ⟨Aa,Aa⟩
theorem Vl (c:Ab)(r:Int)(h:OG c=some r):Fn Tryz.prog GE 107 [Bg (Ac c)] [] (λR H=>R=rI .i64 r∧H=[]):=by
 refine enter (n:=28) Tryz.func107 Aa Tryz.ntmps107 Aa (λw Z=>?_);refine Be (l':=[(0,Bg (Ac c))]) (H':=[]) Aa Aa ?_;unfold OG at h;refine Al (BW Aa Aa (λb1=>?_));refine wv (r:=rI .i64 0) (Ae Aa) (Av (As (Al (wv (Ad Cc Aa HX Aa Aa) (wv (Au (i:=0) HY Aa Aa Aa) (Av (AY (Al (wv (Ca Aa Aa) (wa Aa (Av (Az (b:=decide (c.fKind=1)) Aa (λc2=>?_) (λc2=>?_)))))))))))))
 ·have h3:=AK c2 h;refine Al (wv (r:=rI .i64 4) (Ae Aa) (Av (A1 (AC (Af ?_)))));obtain rfl:=A2 h3;exact A0 (Ce OC (AO Aa)) (sS sN) ⟨Aa,Aa⟩
 ·have h4:=AL c2 h;refine Al (wv (Ca Aa Aa) (wa Aa (Av (Az (b:=decide (c.fKind=2)) Aa (λc5=>?_) (λc5=>?_)))))
  ·have h6:=AK c5 h4;refine Al (wv (Ad Cc Aa C4 Aa Aa) (wv (Au (i:=0) D8 Aa Aa Aa) (wv (r:=rI .i64 (IntKind.wrap .i64 (5-c.fInt))) (T9 Aa Aa) (wa Aa (Av (A1 (AC (Af ?_))))))));obtain rfl:=A2 h6;exact A0 (Ce OC (AO Aa)) (sS sN) ⟨Aa,Aa⟩
  ·have h7:=AL c5 h4;refine Al (wv (Ca Aa Aa) (wa Aa (Av (Az (b:=decide (c.fKind=3)) Aa (λc8=>?_) (λc8=>?_)))))
   ·have h9:=AK c8 h7;refine Al (wv (Ad Cc Aa C4 Aa Aa) (wv (Au (i:=0) D8 Aa Aa Aa) ?_));obtain⟨hd,he⟩:=A8 h9;refine Hz (rs:=[rI .i64 c.fInt]) (r:=rS (Lib.itoa c.fInt)) Tryz.call60 Aa (Mw c.fInt hd) Aa Aa (wv (BC CC Aa) (wa Aa (Av (A1 (AC (Af ?_))))));obtain rfl:=A2 he;exact A0 (Ce OC (AO Aa)) (sS sN) ⟨Aa,Aa⟩
   ·have hb:=AL c8 h7;refine Al (wv (Ca Aa Aa) (wa Aa (Av (Az (b:=decide (c.fKind=4)) Aa (λha=>?_) (λha=>?_)))))
    ·have hf:=AK ha hb;refine Al (wv (Ad Cc Aa CM Aa Aa) (wv (Au (i:=0) Dk Aa Aa Aa) ?_));obtain⟨hg,hh,hi⟩:=AM hf;refine D9 Tryz.call106 (MZ c.fStr hg hh) Aa (wa Aa (Av (A1 (AC (Af ?_)))));obtain rfl:=A2 hi;exact A0 (Ce OC (AO Aa)) (sS sN) ⟨Aa,Aa⟩
    ·have hj:=AL ha hb;refine A4 (AV (AW (Al (wv (Ad Cc Aa C4 Aa Aa) (wv (Au (i:=0) D8 Aa Aa Aa) (wv (r:=rI .i64 (IntKind.wrap .i64 (c.fN-1))) (T9 Aa Aa) (wv (Wo UY Aa Aa) (wv (r:=rI .i64 (IntKind.wrap .i64 (2+(max 0 (IntKind.wrap .i64 (c.fN-1)))))) (Qk Aa Aa) (wa Aa (Av (A1 ?_)))))))))));obtain rfl:=A2 hj;exact A0 (Ce OC (AO Aa)) (sS sN) ⟨Aa,Aa⟩
theorem RC (F:Nat)(hg:Value)(stack:(List A6))(r:(List A6))(h:JA F stack=some r):Fn Tryz.prog GE 108 [rv hg] [.row hg 151 5 (List.map A5 stack)] (λR H=>∃u0:Value,R=rv u0∧H=[.row u0 151 5 (List.map A5 r)]):=by
 refine enter (n:=38) Tryz.func108 Aa Tryz.ntmps108 Aa (λw Z=>?_);refine Be (l':=[(0,rv hg)]) (H':=[.row hg 151 5 (List.map A5 stack)]) Aa Aa ?_;unfold JA at h;refine Al (wv (r:=rv (.slice none 0 0)) (Ae Aa) (Av (As (AY ?_))));obtain⟨hq,hr,hn⟩:=AM h;refine BJ (S:=Nat×((List A6))×(Value)) (V:=((List A6))×(Value)) 0 (λσ=>Ch (λσ=>Dx σ) σ.1 σ.2.1=some hq) (λσ=>[(0,rv σ.2.2),(2,rv (.slice none 0 0))]) (λσ=>[.row σ.2.2 151 5 (List.map A5 σ.2.1)]) (λσ=>σ.1) (F,stack,hg) hr (AT.c Aa (AT.c Aa AT.nil)) (sC sN) (λσ=>DX σ.1=some r) (λσ=>[(0,rv σ.2),(2,rv (.slice none 0 0))]) (λσ=>[.row σ.2 151 5 (List.map A5 σ.1)]) ?_ ?_
 ·rintro⟨hG,ha,hd⟩ hs;refine Be (l':=[(0,rv hd),(2,rv (.slice none 0 0))]) (H':=[.row hd 151 5 (List.map A5 ha)]) Aa Aa ?_;obtain⟨ht,rfl,hu,hh,hj⟩:=Dh hs;replace hh:Dx ha=some hu:=hh;unfold Dx at hh;refine As (Al (wm Aa (wv (CL (ys:=ha) (enc:=A5) (i:=0) HK Aa Aa) (wv (DN Aa Aa) (Av (Az (b:=decide (0<(ha.length:Int))) Aa (λhk=>?_) (λhk=>?_)))))))
  ·have hw:=AK hk hh;refine A4 (AW (AY (Al (wm Aa (wm Aa (wv (CL (ys:=ha) (enc:=A5) (i:=0) HK Aa Aa) ?_))))));obtain⟨hx,hy⟩:=A8 hw;refine wv (Nm Aa Aa hx) ?_;obtain⟨he,hz⟩:=A8 hy;refine wv (r:=rv (EC 5 hd (Int.toNat ((ha.length:Int)-1)) 0)) (Ig (i:=0) HK O8 Aa Aa Aa (BH he)) (wa Aa (By (wm Aa (wv (r:=rv (EC 5 hd (Int.toNat ((ha.length:Int)-1)) 0)) (Ck (k:=0) Aa (BH he) Aa Aa) (wv (r:=rv (EC 5 hd (Int.toNat ((ha.length:Int)-1)) 1)) (Es (k:=0) HJ Aa C4 Aa (BH he) Aa Aa Aa) (wv (r:=rI .i64 ((Aj ha ((ha.length:Int)-1)).fLeft)) (GR (enc:=A5) (ys:=ha) (i:=0) (j:=(ha.length:Int)-1) D8 Aa Aa he Aa) ?_))))));obtain⟨h0,h1⟩:=A8 hz;refine wv (Nm Aa Aa h0) (wv (r:=rv (EC 5 hd (Int.toNat ((ha.length:Int)-1)) 0)) (Ck (k:=0) Aa (BH he) Aa Aa) (wv (r:=rv (EC 5 hd (Int.toNat ((ha.length:Int)-1)) 1)) (Es (k:=0) HJ Aa C4 Aa (BH he) Aa Aa Aa) (Ic (enc:=A5) (ys:=ha) (y':=(A6.mk ((Aj ha ((ha.length:Int)-1)).fPairs) (((Aj ha ((ha.length:Int)-1)).fLeft)-1) ((Aj ha ((ha.length:Int)-1)).fKey) ((Aj ha ((ha.length:Int)-1)).fLast) ((Aj ha ((ha.length:Int)-1)).fStarted))) (i:=0) (j:=(ha.length:Int)-1) C4 Aa Aa (BV Aa) Aa he Aa Aa (H':=[.row hd 151 5 (List.map A5 (List.set ha (Int.toNat ((ha.length:Int)-1)) (A6.mk ((Aj ha ((ha.length:Int)-1)).fPairs) (((Aj ha ((ha.length:Int)-1)).fLeft)-1) ((Aj ha ((ha.length:Int)-1)).fKey) ((Aj ha ((ha.length:Int)-1)).fLast) ((Aj ha ((ha.length:Int)-1)).fStarted))))]) Aa ?_)));obtain⟨hb,hf,ho⟩:=Dq h1;rw[← hf];refine Av (As (Al (wm Aa (wv (r:=rv (EC 5 hd (Int.toNat ((ha.length:Int)-1)) 0)) (Ck (k:=0) Aa (BH (CH he hf)) Aa Aa) (wv (r:=rv (EC 5 hd (Int.toNat ((ha.length:Int)-1)) 1)) (Es (k:=0) HJ Aa C4 Aa (BH (CH he hf)) Aa Aa Aa) (wv (r:=rI .i64 ((Aj hb ((ha.length:Int)-1)).fLeft)) (GR (enc:=A5) (ys:=hb) (i:=0) (j:=(ha.length:Int)-1) D8 Aa Aa (CH he hf) Aa) (wv (DN Aa Aa) (Av (Az (b:=decide (0<((Aj hb ((ha.length:Int)-1)).fLeft))) Aa (λhl=>?_) (λhl=>?_))))))))))
   ·have h2:=AK hl ho;refine Al (wm Aa (wm Aa (wv (r:=rv (EC 5 hd (Int.toNat ((ha.length:Int)-1)) 0)) (Ck (k:=0) Aa (BH (CH he hf)) Aa Aa) (wv (r:=rv (EC 5 hd (Int.toNat ((ha.length:Int)-1)) 0)) (Es (k:=0) HJ Aa Hx Aa (BH (CH he hf)) Aa Aa Aa) (wv (r:=rB ((Aj hb ((ha.length:Int)-1)).fPairs)) (GR (enc:=A5) (ys:=hb) (i:=0) (j:=(ha.length:Int)-1) SH Aa Aa (CH he hf) Aa) (wv (r:=rv (EC 5 hd (Int.toNat ((ha.length:Int)-1)) 0)) (Ck (k:=0) Aa (BH (CH he hf)) Aa Aa) (wv (r:=rv (EC 5 hd (Int.toNat ((ha.length:Int)-1)) 2)) (Es (k:=0) HJ Aa Hx Aa (BH (CH he hf)) Aa Aa Aa) (Ic (enc:=A5) (ys:=hb) (y':=(A6.mk ((Aj hb ((ha.length:Int)-1)).fPairs) ((Aj hb ((ha.length:Int)-1)).fLeft) ((Aj hb ((ha.length:Int)-1)).fPairs) ((Aj hb ((ha.length:Int)-1)).fLast) ((Aj hb ((ha.length:Int)-1)).fStarted))) (i:=0) (j:=(ha.length:Int)-1) Hx Aa Aa (BV Aa) Aa (CH he hf) Aa Aa (H':=[.row hd 151 5 (List.map A5 (List.set hb (Int.toNat ((ha.length:Int)-1)) (A6.mk ((Aj hb ((ha.length:Int)-1)).fPairs) ((Aj hb ((ha.length:Int)-1)).fLeft) ((Aj hb ((ha.length:Int)-1)).fPairs) ((Aj hb ((ha.length:Int)-1)).fLast) ((Aj hb ((ha.length:Int)-1)).fStarted))))]) Aa ?_))))))));obtain⟨hH,h3,h4⟩:=Dq h2;rw[← h3];refine By (wm Aa (wa Aa (Av (A1 (Af (AC (Af (Bq ?_))))))));have h5:=BF h4 hj hn;refine AC (Af ?_);obtain rfl:=A2 h5;exact A0 (Ce Tryz.results108 (AO Aa)) (sC sN) ⟨hd,Aa,Aa⟩
   ·have h6:=AL hl ho;refine A4 (AW (At (wm Aa (wm Aa (wv (CL (ys:=hb) (enc:=A5) (i:=0) HK Aa Aa) ?_)))));obtain⟨h7,h8⟩:=A8 h6;refine wv (Nm Aa Aa h7) ?_;obtain⟨h9,hA⟩:=A8 h8;refine Xj (i:=0) HK O8 Aa Aa Aa h9 Aa (λhB=>?_);refine wa Aa (Aw (AV ?_));have hC:=BG hA hj;exact AA (AU (ht,List.take (Int.toNat ((hb.length:Int)-1)) hb,hB) ⟨hC,Y1 _⟩ (AT.c Aa (AT.c Aa AT.nil)) (sC sN))
  ·have hD:=AL hk hh;refine BQ (AE ?_);have hE:=CE hD hj hn;exact AE (B7 (AU (ha,hd) hE (AT.c Aa (AT.c Aa AT.nil)) (sC sN)))
 ·rintro⟨hp,hm⟩ hi;refine Dr (l':=[(0,rv hm),(2,rv (.slice none 0 0))]) (H':=[.row hm 151 5 (List.map A5 hp)]) Aa Aa ?_;replace hi:DX hp=some r:=hi;unfold DX at hi;refine B4 (AW (Al (wm Aa (wa Aa (Av (A1 ?_))))));obtain rfl:=A2 hi;exact A0 (Ce Tryz.results108 (AO Aa)) (sC sN) ⟨hm,Aa,Aa⟩
theorem NN (F:Nat)(v:(List Ab))(r:Int×AF×Bool)(h:HM F v=some r):Fn Tryz.prog GE 74 [AQ 4 (List.map Ac v)] [] (λR H=>R=C0 [rI .i64 r.1,Bg (AR r.2.1),rB r.2.2]∧H=[]):=by
 refine enter (n:=152) Tryz.func74 Aa Tryz.ntmps74 Aa (λw Z=>?_);refine Be (l':=[(0,AQ 4 (List.map Ac v))]) (H':=[]) Aa Aa ?_;unfold HM at h;refine Al (wv (r:=rI .i64 0) (Ae Aa) (BR (cs:=[rI .i64 0,rI .i64 0,rB false,rB false]) O2 Aa Aa (λb1=>?_)));refine wv (r:=rB false) (Ae Aa) (Av (SW (Al (BR (cs:=[rI .i64 0,rI .i64 0,rB false,rB false]) O2 Aa Aa (λb2=>?_)))));refine By (wv (r:=rv (.slice none 0 0)) (Ae Aa) (Av (As (SX (AW (As (Al (wm Aa (wv (Bz (ys:=v) (enc:=Ac) Cb Aa) (wv (r:=rI .i64 0) (Aq Aa) (Av (AY (WC.nilrow (e:=151) (sz:=5) (Iz (H2:=[.blk b2 [rI .i64 0,rI .i64 0,rB false,rB false] 119,.blk b1 [rI .i64 0,rI .i64 0,rB false,rB false] 119,.row (.slice none 0 0                                                                                                                                                       ) 151 5 (List.map A5 ([]:List A6))]) ((Ai (i:=1) Aa).trans (Yh _ ((Ai (i:=1) Aa).trans (Yh _ (Yi _))))) ?_))))))))))))));obtain⟨hQ,hR,hy⟩:=AM h;refine BJ (S:=Nat×((List A6)×Int×AF)×(Value)) (V:=(AF)×(Unit)) 0 (λσ=>Ch (λσ=>Dw F v σ.1 σ.2.1 σ.2.2) σ.1 σ.2.1=some hQ) (λσ=>[(0,AQ 4 (List.map Ac v)),(3,rv (.pointer (some ⟨b1,0,none⟩))),(5,rv (.pointer (some ⟨b2,0,none⟩))),(6,rv σ.2.2),(11,AQ 4 (List.map Ac v)),(12,rI .i64 (v.length:Int)),(13,rI .i64 σ.2.1.2.1)]) (λσ=>[.blk b2 (AR σ.2.1.2.2) 119,.blk b1 [rI .i64 0,rI .i64 0,rB false,rB false] 119,.row σ.2.2 151 5 (List.map A5 σ.2.1.1)]) (λσ=>σ.1) (F,(([]:List A6),0,(AF.mk 0 0 false false)),(.slice none 0 0                                                                                                                                                       )) hR (AT.c Aa (AT.c Aa (AT.c5 Aa Aa Aa Aa Aa AT.nil))) (sC (sC (sC sN))) (λσ=>J7 σ.1=some r) (λσ=>[(3,rv (.pointer (some ⟨b1,0,none⟩))),(5,rv (.pointer (some ⟨b2,0,none⟩)))]) (λσ=>[.blk b2 (AR σ.1) 119,.blk b1 [rI .i64 0,rI .i64 0,rB false,rB false] 119]) ?_ ?_
 ·rintro⟨gI,⟨hd,hb,ha⟩,he⟩ hS;refine Be (l':=[(0,AQ 4 (List.map Ac v)),(3,rv (.pointer (some ⟨b1,0,none⟩))),(5,rv (.pointer (some ⟨b2,0,none⟩))),(6,rv he),(11,AQ 4 (List.map Ac v)),(12,rI .i64 (v.length:Int)),(13,rI .i64 hb)]) (H':=[.blk b2 (AR ha) 119,.blk b1 [rI .i64 0,rI .i64 0,rB false,rB false] 119,.row he 151 5 (List.map A5 hd)]) Aa Aa ?_;obtain⟨hT,rfl,h4,hz,hx⟩:=Dh hS;replace hz:Dw F v hd hb ha=some h4:=hz;unfold Dw at hz;refine Al (wv (Dn Aa Aa) (Av (As (Az (b:=decide (hb<(v.length:Int))) Aa (λh5=>?_) (λh5=>?_)))))
  ·have hU:=AK h5 hz;refine A4 (AW (CZ (S:=((List A6)×AF)×(Value)) (λσ=>DM hb σ.1.1 σ.1.2=some h4) (λσ=>[(0,AQ 4 (List.map Ac v)),(3,rv (.pointer (some ⟨b1,0,none⟩))),(5,rv (.pointer (some ⟨b2,0,none⟩))),(6,rv σ.2),(11,AQ 4 (List.map Ac v)),(12,rI .i64 (v.length:Int)),(13,rI .i64 hb)]) (λσ=>[.blk b2 (AR σ.1.2) 119,.blk b1 [rI .i64 0,rI .i64 0,rB false,rB false] 119,.row σ.2 151 5 (List.map A5 σ.1.1)]) ?_ ?_))
   ·refine AY (Al (wm Aa ?_));obtain⟨hV,hW⟩:=A8 hU;refine wv (BE (enc:=Ac) (ys:=v) Cb C3 Aa Aa hV) (wv (E8 ME C3 Aa Aa Aa) (BR (cs:=[rI .i64 0,rI .i64 0,rS ([]:Ah),rI .i64 0]) HS Aa Aa (λhf=>?_)));refine wa Aa (AN (i:=0) C3 Aa Aa Aa (Bm.c Aa) Aa Aa (cs':=[rI .i64 ((Aj v hb).fKind),rI .i64 ((Aj v hb).fInt),rS ((Aj v hb).fStr),rI .i64 ((Aj v hb).fN)]) Aa (H':=[.blk hf (Ac (Aj v hb)) 63,.blk b2 (AR ha) 119,.blk b1 [rI .i64 0,rI .i64 0,rB false,rB false] 119,.row he 151 5 (List.map A5 hd)]) Aa (Av (As (Al (wv (Bk (i:=0) ME C3 Aa Aa Aa Aa) ?_)))));obtain⟨hH,hX,hI⟩:=AM hW;refine D9 Tryz.call105 (Td F (Aj v hb) hH hX) Aa (wv (BT Aa) (Av (Az (b:=!hH) Aa (λh6=>?_) (λh6=>?_))))
    ·have hY:=AK h6 hI;refine As (GN (H1:=[.blk hf (Ac (Aj v hb)) 63,.blk b2 (AR ha) 119,.blk b1 (AR ha) 119,.row he 151 5 (List.map A5 hd)]) [3,5] [⟨[],Bg (AR ha),1⟩,⟨[],rI .i64 0,0⟩,⟨[0],rv undef,2⟩,⟨[],rB false,0⟩] (rle [(3,_),(2,[.blk hf (Ac (Aj v hb)) 63,.blk b2 (AR ha) 119,.blk b1 (AR ha) 119,.row he 151 5 (List.map A5 hd)])]) [2,4,3] ?_ ?_)
     ·refine of (Bk (i:=1) IT Ez Aa Aa Aa Aa) (oq (Ae Aa) (JR Aa (Pd (Dm (i:=2) Ez Aa Aa Aa (Bm.c Aa) Aa Aa (cs':=[rI .i64 ha.fDepth,rI .i64 ha.fBytes,rB ha.fOutside,rB ha.fLong]) Aa (H':=[.blk hf (Ac (Aj v hb)) 63,.blk b2 (AR ha) 119,.blk b1 (AR ha) 119,.row he 151 5 (List.map A5 hd)]) Aa)) ?_));refine oq (Ae Aa) ?_;exact Cn
     refine AW (A1 (Af (AC (Af (Af (Bq ?_))))));have hZ:=BF hY hx hy;refine AC (Af (Iw ?_));obtain rfl:=A2 hZ;exact A0 (NR SN (AO Aa) (Cq (i:=2) IT Ez Aa Aa Aa) (AO Aa)) (sS (sS (sS (sS sN)))) ⟨Aa,Aa⟩
    ·have ga:=AL h6 hI;refine A4 (AW (As (Al (wm Aa (wv (CL (ys:=hd) (enc:=A5) (i:=3) HK Aa Aa) (wa Aa (Av ?_)))))));obtain⟨gb,gc⟩:=A8 ga;obtain⟨h7,hJ⟩:=A8 gc;refine AX [(0,AQ 4 (List.map Ac v)),(3,rv (.pointer (some ⟨b1,0,none⟩))),(5,rv (.pointer (some ⟨b2,0,none⟩))),(6,rv he),(7,rI .i64 hb),(8,rv (.pointer (some ⟨hf,0,none⟩))),(9,rI .i64 (hd.length:Int)),(11,AQ 4 (List.map Ac v)),(12,rI .i64 (v.length:Int)),(13,rI .i64 hb),(33,rB ((decide (0<(hd.length:Int)))&&((Aj hd ((hd.length:Int)-1)).fKey)))] [.blk hf (Ac (Aj v hb)) 63,.blk b2 (AR ha) 119,.blk b1 [rI .i64 0,rI .i64 0,rB false,rB false] 119,.row he 151 5 (List.map A5 hd)] ?_ ?_
     ·refine At (wm Aa (wv (DN Aa Aa) (wm Aa (Bb (decide (0<(hd.length:Int))) (λhi=>?_) (λhi=>?_)))))
      ·refine wo hi (wm Aa (wo hi (wm Aa (wo hi (wv (Nm Aa Aa (GH gb hi)) (wo hi (wv (r:=rv (EC 5 he (Int.toNat ((hd.length:Int)-1)) 0)) (Ig (i:=3) HK O8 Aa Aa Aa (BH (GH h7 hi))) (wo hi (wv (r:=rv (EC 5 he (Int.toNat ((hd.length:Int)-1)) 2)) (Es (k:=3) HJ Aa Hx Aa (BH (GH h7 hi)) Aa Aa Aa) (wo hi (wv (r:=rB ((Aj hd ((hd.length:Int)-1)).fKey)) (GR (enc:=A5) (ys:=hd) (i:=3) (j:=(hd.length:Int)-1) SH Aa Aa (GH h7 hi) Aa) (Jx Aa hi Aa (Aw ?_)))))))))))));exact CW hi
      ·refine wf hi (wf hi (wf hi (wf hi (wf hi (wf hi (wv (r:=rB false) (AP (b:=decide (0<(hd.length:Int))) Aa hi Aa) (Aw ?_)))))));exact CW hi
     refine Az (b:=((decide (0<(hd.length:Int)))&&((Aj hd ((hd.length:Int)-1)).fKey))) Aa (λh8=>?_) (λh8=>?_)
     ·have gd:=AK h8 hJ;refine Al (wm Aa (wm Aa ?_));obtain⟨ge,gf⟩:=A8 gd;refine wv (Nm Aa Aa ge) ?_;obtain⟨hj,hK⟩:=A8 gf;refine wv (r:=rv (EC 5 he (Int.toNat ((hd.length:Int)-1)) 0)) (Ig (i:=3) HK O8 Aa Aa Aa (BH hj)) (wa Aa (Av (As (AX [(0,AQ 4 (List.map Ac v)),(3,rv (.pointer (some ⟨b1,0,none⟩))),(5,rv (.pointer (some ⟨b2,0,none⟩))),(6,rv he),(8,rv (.pointer (some ⟨hf,0,none⟩))),(10,rv (EC 5 he (Int.toNat ((hd.length:Int)-1)) 0)),(11,AQ 4 (List.map Ac v)),(12,rI .i64 (v.length:Int)),(13,rI .i64 hb),(38,rv (.pointer (some ⟨hf,0,none⟩))),(39,rI .i64 ((Aj v hb).fKind)),(40,rB (!decide (((Aj v hb).fKind)=4))),(41,rB (!decide (((Aj v hb).fKind)=4))),(55,rB ((!decide (((Aj v hb).fKind)=4))||(((Aj hd ((hd.length:Int)-1)).fStarted)&&(Cu ((Aj v hb).fStr) ((Aj hd ((hd.length:Int)-1)).fLast)||decide (((Aj v hb).fStr)=((Aj hd ((hd.length:Int)-1)).fLast))))))] [.blk hf (Ac (Aj v hb)) 63,.blk b2 (AR ha) 119,.blk b1 [rI .i64 0,rI .i64 0,rB false,rB false] 119,.row he 151 5 (List.map A5 hd)] ?_ ?_))))
      ·refine Bb (!decide (((Aj v hb).fKind)=4)) (λhh=>?_) (λhh=>?_)
       ·refine CD [0,3,5,6,8,10,11,12,13] [⟨[],rv (.pointer (some ⟨hf,0,none⟩)),0⟩,⟨[0],rI .i64 ((Aj v hb).fKind),1⟩,⟨[1],rB (!decide (((Aj v hb).fKind)=4)),0⟩,⟨[2],rB (!decide (((Aj v hb).fKind)=4)),0⟩,⟨[3],rv undef,0⟩,⟨[4,3],rv undef,0⟩,⟨[5,3],rv undef,0⟩,⟨[6,3],rv undef,0⟩,⟨[7,3],rv undef,0⟩,⟨[8],rv undef,0⟩,⟨[9,8],rv undef,0⟩,⟨[8],rv undef,0⟩,⟨[11,8],rv undef,0⟩,⟨[12,8],rv undef,0⟩,⟨[13,8],rv undef,0⟩,⟨[10,14,8],rv undef,0⟩,⟨[8,15,3],rv undef,0⟩,⟨[3,16],rB true,0⟩] [38,39,40,41,42,43,44,45,46,47,48,49,50,51,52,53,54,55,0,3,5,6,8,10,11,12,13] ?_ ?_
        ·refine oq (Ad Cc Aa HX Aa Aa) (of (Au (i:=0) HY Aa Aa Aa) (oq (CX Aa Aa) (oq (Aq Aa) (oz hh (oz hh (oz hh (oz hh (oz hh (ou (ou (ou (ou (ou (ou (ou (oz hh (oq (A7 (b:=!decide (((Aj v hb).fKind)=4)) Aa hh Aa) ?_)))))))))))))))));exact Cn
        exact CW hh
       ·refine Bb ((Aj hd ((hd.length:Int)-1)).fStarted) (λhk=>?_) (λhk=>?_)
        ·refine CD [0,3,5,6,8,10,11,12,13] [⟨[],rv (.pointer (some ⟨hf,0,none⟩)),0⟩,⟨[0],rI .i64 ((Aj v hb).fKind),1⟩,⟨[1],rB (!decide (((Aj v hb).fKind)=4)),0⟩,⟨[2],rB (!decide (((Aj v hb).fKind)=4)),0⟩,⟨[3],rv (EC 5 he (Int.toNat ((hd.length:Int)-1)) 0),0⟩,⟨[4,3],rv (EC 5 he (Int.toNat ((hd.length:Int)-1)) 0),1⟩,⟨[5,3],rv (EC 5 he (Int.toNat ((hd.length:Int)-1)) 4),1⟩,⟨[6,3],rB ((Aj hd ((hd.length:Int)-1)).fStarted),1⟩,⟨[7,3],rB ((Aj hd ((hd.length:Int)-1)).fStarted),0⟩,⟨[8],rv (.pointer (some ⟨hf,2,none⟩)),0⟩,⟨[9,8],rS ((Aj v hb).fStr),1⟩,⟨[8],rv (EC 5 he (Int.toNat ((hd.length:Int)-1)) 0),0⟩,⟨[11,8],rv (EC 5 he (Int.toNat ((hd.length:Int)-1)) 0),1⟩,⟨[12,8],rv (EC 5 he (Int.toNat ((hd.length:Int)-1)) 3),1⟩,⟨[13,8],rS ((Aj hd ((hd.length:Int)-1)).fLast),1⟩,⟨[10,14,8],rB (Cu ((Aj v hb).fStr) ((Aj hd ((hd.length:Int)-1)).fLast)||decide (((Aj v hb).fStr)=((Aj hd ((hd.length:Int)-1)).fLast))),0⟩,⟨[8,15,3],rB (Cu ((Aj v hb).fStr) ((Aj hd ((hd.length:Int)-1)).fLast)||decide (((Aj v hb).fStr)=((Aj hd ((hd.length:Int)-1)).fLast))),0⟩,⟨[3,16],rB (Cu ((Aj v hb).fStr) ((Aj hd ((hd.length:Int)-1)).fLast)||decide (((Aj v hb).fStr)=((Aj hd ((hd.length:Int)-1)).fLast))),0⟩] [38,39,40,41,42,43,44,45,46,47,48,49,50,51,52,53,54,55,0,3,5,6,8,10,11,12,13] ?_ ?_
         ·refine oq (Ad Cc Aa HX Aa Aa) (of (Au (i:=0) HY Aa Aa Aa) (oq (CX Aa Aa) (oq (Aq Aa) (on hh (oq (Aq Aa) (on hh (of (Ck (k:=3) Aa (BH hj) Aa Aa) (on hh (of (Es (k:=3) HJ Aa Hx Aa (BH hj) Aa Aa Aa) (on hh (of (GR (enc:=A5) (ys:=hd) (i:=3) (j:=(hd.length:Int)-1) SH Aa Aa hj Aa) (on hh (oq (Aq Aa) (on hk (oq (Ad Cc Aa CM Aa Aa) (on hk (of (Au (i:=0) Dk Aa Aa Aa) (on hk (oq (Aq Aa) (on hk (of (Ck (k:=3) Aa (BH hj) Aa Aa) (on hk (of (Es (k:=3) HJ Aa CM Aa (BH hj) Aa Aa Aa) ?_)))))))))))))))))))))));refine on hk (of (GR (enc:=A5) (ys:=hd) (i:=3) (j:=(hd.length:Int)-1) Dk Aa Aa hj Aa) (on hk (oq (TA Aa Aa) (on hh (oq (A7 Aa hk Aa) (oq (AP Aa hh Aa) ?_))))));exact Cn
         exact CW (And.intro hh hk)
        ·refine CD [0,3,5,6,8,10,11,12,13] [⟨[],rv (.pointer (some ⟨hf,0,none⟩)),0⟩,⟨[0],rI .i64 ((Aj v hb).fKind),1⟩,⟨[1],rB (!decide (((Aj v hb).fKind)=4)),0⟩,⟨[2],rB (!decide (((Aj v hb).fKind)=4)),0⟩,⟨[3],rv (EC 5 he (Int.toNat ((hd.length:Int)-1)) 0),0⟩,⟨[4,3],rv (EC 5 he (Int.toNat ((hd.length:Int)-1)) 0),1⟩,⟨[5,3],rv (EC 5 he (Int.toNat ((hd.length:Int)-1)) 4),1⟩,⟨[6,3],rB ((Aj hd ((hd.length:Int)-1)).fStarted),1⟩,⟨[7,3],rB ((Aj hd ((hd.length:Int)-1)).fStarted),0⟩,⟨[8],rv undef,0⟩,⟨[9,8],rv undef,0⟩,⟨[8],rv undef,0⟩,⟨[11,8],rv undef,0⟩,⟨[12,8],rv undef,0⟩,⟨[13,8],rv undef,0⟩,⟨[10,14,8],rv undef,0⟩,⟨[8,15,3],rB false,0⟩,⟨[3,16],rB false,0⟩] [38,39,40,41,42,43,44,45,46,47,48,49,50,51,52,53,54,55,0,3,5,6,8,10,11,12,13] ?_ ?_
         ·refine oq (Ad Cc Aa HX Aa Aa) (of (Au (i:=0) HY Aa Aa Aa) (oq (CX Aa Aa) (oq (Aq Aa) (on hh (oq (Aq Aa) (on hh (of (Ck (k:=3) Aa (BH hj) Aa Aa) (on hh (of (Es (k:=3) HJ Aa Hx Aa (BH hj) Aa Aa Aa) (on hh (of (GR (enc:=A5) (ys:=hd) (i:=3) (j:=(hd.length:Int)-1) SH Aa Aa hj Aa) (on hh (oq (Aq Aa) (oz hk (oz hk (oz hk (oz hk (oz hk (oz hk (oz hk (on hh (oq (AP (b:=(Aj hd ((hd.length:Int)-1)).fStarted) Aa hk Aa) (oq (AP Aa hh Aa) ?_)))))))))))))))))))))));exact Cn
         exact CW (And.intro hh hk)
      refine Az (b:=((!decide (((Aj v hb).fKind)=4))||(((Aj hd ((hd.length:Int)-1)).fStarted)&&(Cu ((Aj v hb).fStr) ((Aj hd ((hd.length:Int)-1)).fLast)||decide (((Aj v hb).fStr)=((Aj hd ((hd.length:Int)-1)).fLast)))))) Aa (λh9=>?_) (λh9=>?_)
      ·have gg:=AK h9 hK;refine As (GN (H1:=[.blk hf (Ac (Aj v hb)) 63,.blk b2 (AR ha) 119,.blk b1 (AR ha) 119,.row he 151 5 (List.map A5 hd)]) [3,5] [⟨[],Bg (AR ha),1⟩,⟨[],rI .i64 0,0⟩,⟨[0],rv undef,2⟩,⟨[],rB false,0⟩] (rle [(3,_),(2,[.blk hf (Ac (Aj v hb)) 63,.blk b2 (AR ha) 119,.blk b1 (AR ha) 119,.row he 151 5 (List.map A5 hd)])]) [2,4,3] ?_ ?_)
       ·refine of (Bk (i:=1) IT Ez Aa Aa Aa Aa) (oq (Ae Aa) (JR Aa (Pd (Dm (i:=2) Ez Aa Aa Aa (Bm.c Aa) Aa Aa (cs':=[rI .i64 ha.fDepth,rI .i64 ha.fBytes,rB ha.fOutside,rB ha.fLong]) Aa (H':=[.blk hf (Ac (Aj v hb)) 63,.blk b2 (AR ha) 119,.blk b1 (AR ha) 119,.row he 151 5 (List.map A5 hd)]) Aa)) ?_));refine oq (Ae Aa) ?_;exact Cn
       refine AW (A1 (Af (Af (AC (Af (Af (Bq ?_)))))));have gh:=BF gg hx hy;refine AC (Af (Iw ?_));obtain rfl:=A2 gh;exact A0 (NR SN (AO Aa) (Cq (i:=2) IT Ez Aa Aa Aa) (AO Aa)) (sS (sS (sS (sS sN)))) ⟨Aa,Aa⟩
      ·have gi:=AL h9 hK;refine A4 (AW (Al (wm Aa (wm Aa (wm Aa (wv (Ad Cc Aa CM Aa Aa) (wv (Au (i:=0) Dk Aa Aa Aa) (wv (r:=rv (EC 5 he (Int.toNat ((hd.length:Int)-1)) 0)) (Ck (k:=3) Aa (BH hj) Aa Aa) (wv (r:=rv (EC 5 he (Int.toNat ((hd.length:Int)-1)) 3)) (Es (k:=3) HJ Aa CM Aa (BH hj) Aa Aa Aa) (Ic (enc:=A5) (ys:=hd) (y':=(A6.mk ((Aj hd ((hd.length:Int)-1)).fPairs) ((Aj hd ((hd.length:Int)-1)).fLeft) ((Aj hd ((hd.length:Int)-1)).fKey) ((Aj v hb).fStr) ((Aj hd ((hd.length:Int)-1)).fStarted))) (i:=3) (j:=(hd.length:Int)-1) CM Aa Aa (BV Aa) Aa hj Aa Aa (H':=[.blk hf (Ac (Aj v hb)) 63,.blk b2 (AR ha) 119,.blk b1 [rI .i64 0,rI .i64 0,rB false,rB false] 119,.row he 151 5 (List.map A5 (List.set hd (Int.toNat ((hd.length:Int)-1)) (A6.mk ((Aj hd ((hd.length:Int)-1)).fPairs) ((Aj hd ((hd.length:Int)-1)).fLeft) ((Aj hd ((hd.length:Int)-1)).fKey) ((Aj v hb).fStr) ((Aj hd ((hd.length:Int)-1)).fStarted))))]) Aa ?_))))))))));obtain⟨hr,hw,gj⟩:=Dq gi;rw[← hw];refine wv (r:=rv (EC 5 he (Int.toNat ((hd.length:Int)-1)) 0)) (Ck (k:=3) Aa (BH (CH hj hw)) Aa Aa) (wv (r:=rv (EC 5 he (Int.toNat ((hd.length:Int)-1)) 4)) (Es (k:=3) HJ Aa Hx Aa (BH (CH hj hw)) Aa Aa Aa) (Ic (enc:=A5) (ys:=hr) (y':=(A6.mk ((Aj hr ((hd.length:Int)-1)).fPairs) ((Aj hr ((hd.length:Int)-1)).fLeft) ((Aj hr ((hd.length:Int)-1)).fKey) ((Aj hr ((hd.length:Int)-1)).fLast) true)) (i:=3) (j:=(hd.length:Int)-1) Hx Aa Aa (BV Aa) Aa (CH hj hw) Aa Aa (H':=[.blk hf (Ac (Aj v hb)) 63,.blk b2 (AR ha) 119,.blk b1 [rI .i64 0,rI .i64 0,rB false,rB false] 119,.row he 151 5 (List.map A5 (List.set hr (Int.toNat ((hd.length:Int)-1)) (A6.mk ((Aj hr ((hd.length:Int)-1)).fPairs) ((Aj hr ((hd.length:Int)-1)).fLeft) ((Aj hr ((hd.length:Int)-1)).fKey) ((Aj hr ((hd.length:Int)-1)).fLast) true)))]) Aa ?_));obtain⟨hs,h1,gl⟩:=Dq gj;rw[← h1];refine wv (r:=rv (EC 5 he (Int.toNat ((hd.length:Int)-1)) 0)) (Ck (k:=3) Aa (BH (CH (CH hj hw) h1)) Aa Aa) (wv (r:=rv (EC 5 he (Int.toNat ((hd.length:Int)-1)) 2)) (Es (k:=3) HJ Aa Hx Aa (BH (CH (CH hj hw) h1)) Aa Aa Aa) (Ic (enc:=A5) (ys:=hs) (y':=(A6.mk ((Aj hs ((hd.length:Int)-1)).fPairs) ((Aj hs ((hd.length:Int)-1)).fLeft) false ((Aj hs ((hd.length:Int)-1)).fLast) ((Aj hs ((hd.length:Int)-1)).fStarted))) (i:=3) (j:=(hd.length:Int)-1) Hx Aa Aa (BV Aa) Aa (CH (CH hj hw) h1) Aa Aa (H':=[.blk hf (Ac (Aj v hb)) 63,.blk b2 (AR ha) 119,.blk b1 [rI .i64 0,rI .i64 0,rB false,rB false] 119,.row he 151 5 (List.map A5 (List.set hs (Int.toNat ((hd.length:Int)-1)) (A6.mk ((Aj hs ((hd.length:Int)-1)).fPairs) ((Aj hs ((hd.length:Int)-1)).fLeft) false ((Aj hs ((hd.length:Int)-1)).fLast) ((Aj hs ((hd.length:Int)-1)).fStarted))))]) Aa ?_));obtain⟨ht,gm,gp⟩:=Dq gl;rw[← gm];refine Av (As ?_);obtain⟨hl,gq,gr⟩:=AM gp;obtain⟨gs,gt⟩:=A8 gr;refine GN (H1:=[.blk hf (Ac (Aj v hb)) 63,.blk b2 [rI .i64 ha.fDepth,rI .i64 (IntKind.wrap .i64 (ha.fBytes+(hl+1))),rB ha.fOutside,rB ha.fLong] 119,.blk b1 [rI .i64 0,rI .i64 0,rB false,rB false] 119,.row he 151 5 (List.map A5 ht)]) [0,3,5,6,8,11,12,13,38,39,40,41] [⟨[],rv (.pointer (some ⟨b2,1,none⟩)),0⟩,⟨[0],rI .i64 ha.fBytes,1⟩,⟨[],rv (.pointer (some ⟨hf,2,none⟩)),0⟩,⟨[2],rS ((Aj v hb).fStr),1⟩,⟨[3],rI .i64 hl,0⟩,⟨[4],rI .i64 (hl+1),0⟩,⟨[1,5],rI .i64 (IntKind.wrap .i64 (ha.fBytes+(hl+1))),0⟩,⟨[],rv (.pointer (some ⟨b2,1,none⟩)),0⟩,⟨[7,6],rv undef,2⟩] (rle [(9,_),(1,[.blk hf (Ac (Aj v hb)) 63,.blk b2 [rI .i64 ha.fDepth,rI .i64 (IntKind.wrap .i64 (ha.fBytes+(hl+1))),rB ha.fOutside,rB ha.fLong] 119,.blk b1 [rI .i64 0,rI .i64 0,rB false,rB false] 119,.row he 151 5 (List.map A5 ht)])]) [68,69,70,71,72,73,74,75,0,3,5,6,8,11,12,13,38,39,40,41] ?_ ?_
       ·refine oq (Ad Eb Aa C4 Aa Aa) (of (Au (i:=1) D8 Aa Aa Aa) (oq (Ad Cc Aa CM Aa Aa) (of (Au (i:=0) Dk Aa Aa Aa) (CU Aa (λH=>G8 Tryz.call106 (MZ ((Aj v hb).fStr) hl gq) Aa) ?_))));refine oq (BZ Aa Aa gs) (oq (Qk Aa Aa) (oq (Ad Eb Aa C4 Aa Aa) (JR Aa (Pd (NG (i:=1) C4 Aa Aa (BV Aa) Aa Aa (cs':=[rI .i64 ha.fDepth,rI .i64 (IntKind.wrap .i64 (ha.fBytes+(hl+1))),rB ha.fOutside,rB ha.fLong]) Aa (H':=[.blk hf (Ac (Aj v hb)) 63,.blk b2 [rI .i64 ha.fDepth,rI .i64 (IntKind.wrap .i64 (ha.fBytes+(hl+1))),rB ha.fOutside,rB ha.fLong] 119,.blk b1 [rI .i64 0,rI .i64 0,rB false,rB false] 119,.row he 151 5 (List.map A5 ht)]) Aa)) ?_)));exact Cn
       refine AW (AX [(0,AQ 4 (List.map Ac v)),(3,rv (.pointer (some ⟨b1,0,none⟩))),(5,rv (.pointer (some ⟨b2,0,none⟩))),(6,rv he),(11,AQ 4 (List.map Ac v)),(12,rI .i64 (v.length:Int)),(13,rI .i64 hb),(38,rv (.pointer (some ⟨hf,0,none⟩))),(39,rI .i64 ((Aj v hb).fKind)),(40,rB (!decide (((Aj v hb).fKind)=4))),(41,rB (!decide (((Aj v hb).fKind)=4))),(68,rv (.pointer (some ⟨b2,1,none⟩))),(69,rI .i64 ha.fBytes),(70,rv (.pointer (some ⟨hf,2,none⟩))),(71,rS ((Aj v hb).fStr)),(72,rI .i64 hl),(73,rI .i64 (hl+1)),(74,rI .i64 (IntKind.wrap .i64 (ha.fBytes+(hl+1)))),(75,rv (.pointer (some ⟨b2,1,none⟩)))] [.blk hf (Ac (Aj v hb)) 63,.blk b2 [rI .i64 ha.fDepth,rI .i64 (IntKind.wrap .i64 (ha.fBytes+(hl+1))),rB ha.fOutside,rB (ha.fLong||(decide (200<(((Aj v hb).fStr).length:Int))))] 119,.blk b1 [rI .i64 0,rI .i64 0,rB false,rB false] 119,.row he 151 5 (List.map A5 ht)] ?_ ?_)
       ·refine At (wv (Ad Eb Aa Hx Aa Aa) (wv (Au (i:=1) SH Aa Aa Aa) (wm Aa (Bb (ha.fLong) (λho=>?_) (λho=>?_)))))
        ·refine wf ho (wf ho (wf ho (wf ho (wv (r:=rB true) (A7 (b:=ha.fLong) rfl ho rfl) (wv (Ad Eb rfl Hx rfl rfl) (Bu (i:=1) Hx rfl rfl (BV rfl) rfl rfl (cs':=[rI .i64 ha.fDepth,rI .i64 (IntKind.wrap .i64 (ha.fBytes+(hl+1))),rB ha.fOutside,rB true]) rfl (H':=[.blk hf (Ac (Aj v hb)) 63,.blk b2 [rI .i64 ha.fDepth,rI .i64 (IntKind.wrap .i64 (ha.fBytes+(hl+1))),rB ha.fOutside,rB true] 119,.blk b1 [rI .i64 0,rI .i64 0,rB false,rB false] 119,.row he 151 5 (List.map A5 ht)]) rfl (Aw (Hy (H':=[.blk hf (Ac (Aj v hb)) 63,.blk b2 [rI .i64 ha.fDepth,rI .i64 (IntKind.wrap .i64 (ha.fBytes+(hl+1))),rB ha.fOutside,rB (ha.fLong||(decide (200<(((Aj v hb).fStr).length:Int))))] 119,.blk b1 [rI .i64 0,rI .i64 0,rB false,rB false] 119,.row he 151 5 (List.map A5 ht)]) (by simp only[ho,Yv,Y5,YJ,Y0,Y7,YA,YK,YB,Ys,Y9,Ym,Yj]) ?_))))))));exact wt
        ·refine wo ho (wv (Ad Cc rfl CM rfl rfl) (wo ho (wv (Au (i:=0) Dk rfl rfl rfl) (wo ho (wv (BC CC rfl) (wo ho (wv (DN rfl rfl) (HU rfl ho rfl (wv (Ad Eb rfl Hx rfl rfl) (Bu (i:=1) Hx rfl rfl (BV rfl) rfl rfl (cs':=[rI .i64 ha.fDepth,rI .i64 (IntKind.wrap .i64 (ha.fBytes+(hl+1))),rB ha.fOutside,rB (decide (200<(((Aj v hb).fStr).length:Int)))]) rfl (H':=[.blk hf (Ac (Aj v hb)) 63,.blk b2 [rI .i64 ha.fDepth,rI .i64 (IntKind.wrap .i64 (ha.fBytes+(hl+1))),rB ha.fOutside,rB (decide (200<(((Aj v hb).fStr).length:Int)))] 119,.blk b1 [rI .i64 0,rI .i64 0,rB false,rB false] 119,.row he 151 5 (List.map A5 ht)]) rfl (Aw (Hy (H':=[.blk hf (Ac (Aj v hb)) 63,.blk b2 [rI .i64 ha.fDepth,rI .i64 (IntKind.wrap .i64 (ha.fBytes+(hl+1))),rB ha.fOutside,rB (ha.fLong||(decide (200<(((Aj v hb).fStr).length:Int))))] 119,.blk b1 [rI .i64 0,rI .i64 0,rB false,rB false] 119,.row he 151 5 (List.map A5 ht)]) (by simp only[ho,Yv,Y5,YJ,Y0,Y7,YA,YK,YB,Ys,Y9,Ym,Yj]) ?_))))))))))));exact wt
       exact BQ (AE (B4 (AA (AU ((ht,(AF.mk ha.fDepth (IntKind.wrap .i64 (ha.fBytes+(hl+1))) ha.fOutside (ha.fLong||(decide (200<(((Aj v hb).fStr).length:Int)))))),he) gt (AT.c Aa (AT.c Aa (AT.c5 Aa Aa Aa Aa Aa AT.nil))) (sS (sC (sC (sC sN))))))))
     ·have gu:=AL h8 hJ;refine A4 (AW (Al (wv (Ad Eb Aa C4 Aa Aa) (wv (Au (i:=1) D8 Aa Aa Aa) (wm Aa (wv (CL (ys:=hd) (enc:=A5) (i:=3) HK Aa Aa) ?_))))));obtain⟨gv,gw⟩:=A8 gu;refine wv (BZ Aa Aa gv) (wv (Wo UY Aa Aa) (wv (Ad Eb Aa C4 Aa Aa) (Bu (i:=1) C4 Aa Aa (BV Aa) Aa Aa (cs':=[rI .i64 (max ha.fDepth ((hd.length:Int)+1)),rI .i64 ha.fBytes,rB ha.fOutside,rB ha.fLong]) Aa (H':=[.blk hf (Ac (Aj v hb)) 63,.blk b2 [rI .i64 (max ha.fDepth ((hd.length:Int)+1)),rI .i64 ha.fBytes,rB ha.fOutside,rB ha.fLong] 119,.blk b1 [rI .i64 0,rI .i64 0,rB false,rB false] 119,.row he 151 5 (List.map A5 hd)]) Aa (Av (As ?_)))));obtain⟨hg,gx,gy⟩:=AM gw;refine GN (H1:=[.blk hf (Ac (Aj v hb)) 63,.blk b2 [rI .i64 (max ha.fDepth ((hd.length:Int)+1)),rI .i64 (IntKind.wrap .i64 (ha.fBytes+hg)),rB ha.fOutside,rB ha.fLong] 119,.blk b1 [rI .i64 0,rI .i64 0,rB false,rB false] 119,.row he 151 5 (List.map A5 hd)]) [0,3,5,6,7,8,11,12,13] [⟨[],rv (.pointer (some ⟨b2,1,none⟩)),0⟩,⟨[0],rI .i64 ha.fBytes,1⟩,⟨[],Bg (Ac (Aj v hb)),1⟩,⟨[2],rI .i64 hg,0⟩,⟨[1,3],rI .i64 (IntKind.wrap .i64 (ha.fBytes+hg)),0⟩,⟨[],rv (.pointer (some ⟨b2,1,none⟩)),0⟩,⟨[5,4],rv undef,2⟩] (rle [(7,_),(1,[.blk hf (Ac (Aj v hb)) 63,.blk b2 [rI .i64 (max ha.fDepth ((hd.length:Int)+1)),rI .i64 (IntKind.wrap .i64 (ha.fBytes+hg)),rB ha.fOutside,rB ha.fLong] 119,.blk b1 [rI .i64 0,rI .i64 0,rB false,rB false] 119,.row he 151 5 (List.map A5 hd)])]) [92,93,94,95,96,97,0,3,5,6,7,8,11,12,13] ?_ ?_
      ·refine oq (Ad Eb Aa C4 Aa Aa) (of (Au (i:=1) D8 Aa Aa Aa) (of (Bk (i:=0) ME C3 Aa Aa Aa Aa) (CU Aa (λH=>G8 Tryz.call107 (Vl (Aj v hb) hg gx) Aa) ?_)));refine oq (Qk Aa Aa) (oq (Ad Eb Aa C4 Aa Aa) (JR Aa (Pd (NG (i:=1) C4 Aa Aa (BV Aa) Aa Aa (cs':=[rI .i64 (max ha.fDepth ((hd.length:Int)+1)),rI .i64 (IntKind.wrap .i64 (ha.fBytes+hg)),rB ha.fOutside,rB ha.fLong]) Aa (H':=[.blk hf (Ac (Aj v hb)) 63,.blk b2 [rI .i64 (max ha.fDepth ((hd.length:Int)+1)),rI .i64 (IntKind.wrap .i64 (ha.fBytes+hg)),rB ha.fOutside,rB ha.fLong] 119,.blk b1 [rI .i64 0,rI .i64 0,rB false,rB false] 119,.row he 151 5 (List.map A5 hd)]) Aa)) ?_));exact Cn
      refine AW ?_;obtain⟨gz,hL⟩:=A8 gy;refine AX [(0,AQ 4 (List.map Ac v)),(3,rv (.pointer (some ⟨b1,0,none⟩))),(5,rv (.pointer (some ⟨b2,0,none⟩))),(6,rv he),(7,rI .i64 hb),(8,rv (.pointer (some ⟨hf,0,none⟩))),(11,AQ 4 (List.map Ac v)),(12,rI .i64 (v.length:Int)),(13,rI .i64 hb),(92,rv (.pointer (some ⟨b2,1,none⟩))),(93,rI .i64 ha.fBytes),(94,Bg (Ac (Aj v hb))),(95,rI .i64 hg),(96,rI .i64 (IntKind.wrap .i64 (ha.fBytes+hg))),(97,rv (.pointer (some ⟨b2,1,none⟩)))] [.blk hf (Ac (Aj v hb)) 63,.blk b2 [rI .i64 (max ha.fDepth ((hd.length:Int)+1)),rI .i64 (IntKind.wrap .i64 (ha.fBytes+hg)),rB (ha.fOutside||((decide (((Aj v hb).fKind)=3))&&(!(ov (B6 ((Aj v hb).fInt)))))),rB ha.fLong] 119,.blk b1 [rI .i64 0,rI .i64 0,rB false,rB false] 119,.row he 151 5 (List.map A5 hd)] ?_ ?_
      ·refine At (wv (Ad Eb Aa Hx Aa Aa) (wv (Au (i:=1) SH Aa Aa Aa) (wm Aa (Bb (ha.fOutside) (λhm=>?_) (λhm=>?_)))))
       ·refine wf hm (wf hm (wf hm (wf hm (wu (wu (wu (wu (wf hm (wv (r:=rB true) (A7 (b:=ha.fOutside) rfl hm rfl) (wv (Ad Eb rfl Hx rfl rfl) (Bu (i:=1) Hx rfl rfl (BV rfl) rfl rfl (cs':=[rI .i64 (max ha.fDepth ((hd.length:Int)+1)),rI .i64 (IntKind.wrap .i64 (ha.fBytes+hg)),rB true,rB ha.fLong]) rfl (H':=[.blk hf (Ac (Aj v hb)) 63,.blk b2 [rI .i64 (max ha.fDepth ((hd.length:Int)+1)),rI .i64 (IntKind.wrap .i64 (ha.fBytes+hg)),rB true,rB ha.fLong] 119,.blk b1 [rI .i64 0,rI .i64 0,rB false,rB false] 119,.row he 151 5 (List.map A5 hd)]) rfl (Aw (Hy (H':=[.blk hf (Ac (Aj v hb)) 63,.blk b2 [rI .i64 (max ha.fDepth ((hd.length:Int)+1)),rI .i64 (IntKind.wrap .i64 (ha.fBytes+hg)),rB (ha.fOutside||((decide (((Aj v hb).fKind)=3))&&(!(ov (B6 ((Aj v hb).fInt)))))),rB ha.fLong] 119,.blk b1 [rI .i64 0,rI .i64 0,rB false,rB false] 119,.row he 151 5 (List.map A5 hd)]) (by simp only[hm,Yv,Y5,YJ,Y0,Y7,YA,YK,YB,Ys,Y9,Ym,Yj]) ?_)))))))))))));exact wt
       ·refine wo hm (wv (Ad Cc Aa HX Aa Aa) (wo hm (wv (Au (i:=0) HY Aa Aa Aa) (wo hm (wv (Ca Aa Aa) (wo hm (wm Aa (Bb (decide (((Aj v hb).fKind)=3)) (λhn=>?_) (λhn=>?_)))))))))
        ·refine wo hn (wv (Ad Cc rfl C4 rfl rfl) (wo hn (wv (Au (i:=0) D8 rfl rfl rfl) (wo hn (D9 Tryz.call98 (Md ((Aj v hb).fInt) (ov (B6 ((Aj v hb).fInt))) (T3 (GH (N0 gz hm) hn))) rfl (wo hn (wv (BT rfl) (wo hm (Jx rfl hn rfl (HU rfl hm rfl (wv (Ad Eb rfl Hx rfl rfl) (Bu (i:=1) Hx rfl rfl (BV rfl) rfl rfl (cs':=[rI .i64 (max ha.fDepth ((hd.length:Int)+1)),rI .i64 (IntKind.wrap .i64 (ha.fBytes+hg)),rB (!(ov (B6 ((Aj v hb).fInt)))),rB ha.fLong]) rfl (H':=[.blk hf (Ac (Aj v hb)) 63,.blk b2 [rI .i64 (max ha.fDepth ((hd.length:Int)+1)),rI .i64 (IntKind.wrap .i64 (ha.fBytes+hg)),rB (!(ov (B6 ((Aj v hb).fInt)))),rB ha.fLong] 119,.blk b1 [rI .i64 0,rI .i64 0,rB false,rB false] 119,.row he 151 5 (List.map A5 hd)]) rfl (Aw (Hy (H':=[.blk hf (Ac (Aj v hb)) 63,.blk b2 [rI .i64 (max ha.fDepth ((hd.length:Int)+1)),rI .i64 (IntKind.wrap .i64 (ha.fBytes+hg)),rB (ha.fOutside||((decide (((Aj v hb).fKind)=3))&&(!(ov (B6 ((Aj v hb).fInt)))))),rB ha.fLong] 119,.blk b1 [rI .i64 0,rI .i64 0,rB false,rB false] 119,.row he 151 5 (List.map A5 hd)]) (by simp only[hm,hn,Yv,Y5,YJ,Y0,Y7,YA,YK,YB,Ys,Y9,Ym,Yj]) ?_))))))))))))));exact wt
        ·refine wf hn (wf hn (wf hn (wf hn (wo hm (wv (r:=rB false) (AP (b:=decide (((Aj v hb).fKind)=3)) rfl hn rfl) (HU rfl hm rfl (wv (Ad Eb rfl Hx rfl rfl) (Bu (i:=1) Hx rfl rfl (BV rfl) rfl rfl (cs':=[rI .i64 (max ha.fDepth ((hd.length:Int)+1)),rI .i64 (IntKind.wrap .i64 (ha.fBytes+hg)),rB false,rB ha.fLong]) rfl (H':=[.blk hf (Ac (Aj v hb)) 63,.blk b2 [rI .i64 (max ha.fDepth ((hd.length:Int)+1)),rI .i64 (IntKind.wrap .i64 (ha.fBytes+hg)),rB false,rB ha.fLong] 119,.blk b1 [rI .i64 0,rI .i64 0,rB false,rB false] 119,.row he 151 5 (List.map A5 hd)]) rfl (Aw (Hy (H':=[.blk hf (Ac (Aj v hb)) 63,.blk b2 [rI .i64 (max ha.fDepth ((hd.length:Int)+1)),rI .i64 (IntKind.wrap .i64 (ha.fBytes+hg)),rB (ha.fOutside||((decide (((Aj v hb).fKind)=3))&&(!(ov (B6 ((Aj v hb).fInt)))))),rB ha.fLong] 119,.blk b1 [rI .i64 0,rI .i64 0,rB false,rB false] 119,.row he 151 5 (List.map A5 hd)]) (by simp only[hm,hn,Yv,Y5,YJ,Y0,Y7,YA,YK,YB,Ys,Y9,Ym,Yj]) ?_))))))))));exact wt
      refine AX [(0,AQ 4 (List.map Ac v)),(3,rv (.pointer (some ⟨b1,0,none⟩))),(5,rv (.pointer (some ⟨b2,0,none⟩))),(6,rv he),(7,rI .i64 hb),(8,rv (.pointer (some ⟨hf,0,none⟩))),(11,AQ 4 (List.map Ac v)),(12,rI .i64 (v.length:Int)),(13,rI .i64 hb),(92,rv (.pointer (some ⟨b2,1,none⟩))),(93,rI .i64 ha.fBytes),(94,Bg (Ac (Aj v hb))),(95,rI .i64 hg),(96,rI .i64 (IntKind.wrap .i64 (ha.fBytes+hg))),(97,rv (.pointer (some ⟨b2,1,none⟩)))] [.blk hf (Ac (Aj v hb)) 63,.blk b2 [rI .i64 (max ha.fDepth ((hd.length:Int)+1)),rI .i64 (IntKind.wrap .i64 (ha.fBytes+hg)),rB (ha.fOutside||((decide (((Aj v hb).fKind)=3))&&(!(ov (B6 ((Aj v hb).fInt)))))),rB (ha.fLong||(decide (200<(((Aj v hb).fStr).length:Int))))] 119,.blk b1 [rI .i64 0,rI .i64 0,rB false,rB false] 119,.row he 151 5 (List.map A5 hd)] ?_ ?_
      ·refine At (wv (Ad Eb Aa Hx Aa Aa) (wv (Au (i:=1) SH Aa Aa Aa) (wm Aa (Bb (ha.fLong) (λhp=>?_) (λhp=>?_)))))
       ·refine wf hp (wf hp (wf hp (wf hp (wv (r:=rB true) (A7 (b:=ha.fLong) rfl hp rfl) (wv (Ad Eb rfl Hx rfl rfl) (Bu (i:=1) Hx rfl rfl (BV rfl) rfl rfl (cs':=[rI .i64 (max ha.fDepth ((hd.length:Int)+1)),rI .i64 (IntKind.wrap .i64 (ha.fBytes+hg)),rB (ha.fOutside||((decide (((Aj v hb).fKind)=3))&&(!(ov (B6 ((Aj v hb).fInt)))))),rB true]) rfl (H':=[.blk hf (Ac (Aj v hb)) 63,.blk b2 [rI .i64 (max ha.fDepth ((hd.length:Int)+1)),rI .i64 (IntKind.wrap .i64 (ha.fBytes+hg)),rB (ha.fOutside||((decide (((Aj v hb).fKind)=3))&&(!(ov (B6 ((Aj v hb).fInt)))))),rB true] 119,.blk b1 [rI .i64 0,rI .i64 0,rB false,rB false] 119,.row he 151 5 (List.map A5 hd)]) rfl (Aw (Hy (H':=[.blk hf (Ac (Aj v hb)) 63,.blk b2 [rI .i64 (max ha.fDepth ((hd.length:Int)+1)),rI .i64 (IntKind.wrap .i64 (ha.fBytes+hg)),rB (ha.fOutside||((decide (((Aj v hb).fKind)=3))&&(!(ov (B6 ((Aj v hb).fInt)))))),rB (ha.fLong||(decide (200<(((Aj v hb).fStr).length:Int))))] 119,.blk b1 [rI .i64 0,rI .i64 0,rB false,rB false] 119,.row he 151 5 (List.map A5 hd)]) (by simp only[hp,Yv,Y5,YJ,Y0,Y7,YA,YK,YB,Ys,Y9,Ym,Yj]) ?_))))))));exact wt
       ·refine wo hp (wv (Ad Cc rfl CM rfl rfl) (wo hp (wv (Au (i:=0) Dk rfl rfl rfl) (wo hp (wv (BC CC rfl) (wo hp (wv (DN rfl rfl) (HU rfl hp rfl (wv (Ad Eb rfl Hx rfl rfl) (Bu (i:=1) Hx rfl rfl (BV rfl) rfl rfl (cs':=[rI .i64 (max ha.fDepth ((hd.length:Int)+1)),rI .i64 (IntKind.wrap .i64 (ha.fBytes+hg)),rB (ha.fOutside||((decide (((Aj v hb).fKind)=3))&&(!(ov (B6 ((Aj v hb).fInt)))))),rB (decide (200<(((Aj v hb).fStr).length:Int)))]) rfl (H':=[.blk hf (Ac (Aj v hb)) 63,.blk b2 [rI .i64 (max ha.fDepth ((hd.length:Int)+1)),rI .i64 (IntKind.wrap .i64 (ha.fBytes+hg)),rB (ha.fOutside||((decide (((Aj v hb).fKind)=3))&&(!(ov (B6 ((Aj v hb).fInt)))))),rB (decide (200<(((Aj v hb).fStr).length:Int)))] 119,.blk b1 [rI .i64 0,rI .i64 0,rB false,rB false] 119,.row he 151 5 (List.map A5 hd)]) rfl (Aw (Hy (H':=[.blk hf (Ac (Aj v hb)) 63,.blk b2 [rI .i64 (max ha.fDepth ((hd.length:Int)+1)),rI .i64 (IntKind.wrap .i64 (ha.fBytes+hg)),rB (ha.fOutside||((decide (((Aj v hb).fKind)=3))&&(!(ov (B6 ((Aj v hb).fInt)))))),rB (ha.fLong||(decide (200<(((Aj v hb).fStr).length:Int))))] 119,.blk b1 [rI .i64 0,rI .i64 0,rB false,rB false] 119,.row he 151 5 (List.map A5 hd)]) (by simp only[hp,Yv,Y5,YJ,Y0,Y7,YA,YK,YB,Ys,Y9,Ym,Yj]) ?_))))))))))));exact wt
      refine As (Al (wv (Ad Cc Aa C4 Aa Aa) (wv (Au (i:=0) D8 Aa Aa Aa) (wv (DN Aa Aa) (Av (Az (b:=decide (0<((Aj v hb).fN))) Aa (λhA=>?_) (λhA=>?_)))))))
      ·have hN:=AK hA hL;refine As (Al (wv (Ad Cc Aa C4 Aa Aa) (wv (Au (i:=0) D8 Aa Aa Aa) (wm Aa (wv (Bz (ys:=v) (enc:=Ac) Cb Aa) (wv (DN Aa Aa) (Av (Az (b:=decide ((v.length:Int)<((Aj v hb).fN))) Aa (λhB=>?_) (λhB=>?_)))))))))
       ·have g0:=AK hB hN;refine As (GN (H1:=[.blk hf (Ac (Aj v hb)) 63,.blk b2 [rI .i64 (max ha.fDepth ((hd.length:Int)+1)),rI .i64 (IntKind.wrap .i64 (ha.fBytes+hg)),rB (ha.fOutside||((decide (((Aj v hb).fKind)=3))&&(!(ov (B6 ((Aj v hb).fInt)))))),rB (ha.fLong||(decide (200<(((Aj v hb).fStr).length:Int))))] 119,.blk b1 [rI .i64 (max ha.fDepth ((hd.length:Int)+1)),rI .i64 (IntKind.wrap .i64 (ha.fBytes+hg)),rB (ha.fOutside||((decide (((Aj v hb).fKind)=3))&&(!(ov (B6 ((Aj v hb).fInt)))))),rB (ha.fLong||(decide (200<(((Aj v hb).fStr).length:Int))))] 119,.row he 151 5 (List.map A5 hd)]) [3,5] [⟨[],Bg [rI .i64 (max ha.fDepth ((hd.length:Int)+1)),rI .i64 (IntKind.wrap .i64 (ha.fBytes+hg)),rB (ha.fOutside||((decide (((Aj v hb).fKind)=3))&&(!(ov (B6 ((Aj v hb).fInt)))))),rB (ha.fLong||(decide (200<(((Aj v hb).fStr).length:Int))))],1⟩,⟨[],rI .i64 0,0⟩,⟨[0],rv undef,2⟩,⟨[],rB false,0⟩] (rle [(3,_),(2,[.blk hf (Ac (Aj v hb)) 63,.blk b2 [rI .i64 (max ha.fDepth ((hd.length:Int)+1)),rI .i64 (IntKind.wrap .i64 (ha.fBytes+hg)),rB (ha.fOutside||((decide (((Aj v hb).fKind)=3))&&(!(ov (B6 ((Aj v hb).fInt)))))),rB (ha.fLong||(decide (200<(((Aj v hb).fStr).length:Int))))] 119,.blk b1 [rI .i64 (max ha.fDepth ((hd.length:Int)+1)),rI .i64 (IntKind.wrap .i64 (ha.fBytes+hg)),rB (ha.fOutside||((decide (((Aj v hb).fKind)=3))&&(!(ov (B6 ((Aj v hb).fInt)))))),rB (ha.fLong||(decide (200<(((Aj v hb).fStr).length:Int))))] 119,.row he 151 5 (List.map A5 hd)])]) [2,4,3] ?_ ?_)
        ·refine of (Bk (i:=1) IT Ez Aa Aa Aa Aa) (oq (Ae Aa) (JR Aa (Pd (Dm (i:=2) Ez Aa Aa Aa (Bm.c Aa) Aa Aa (cs':=[rI .i64 (max ha.fDepth ((hd.length:Int)+1)),rI .i64 (IntKind.wrap .i64 (ha.fBytes+hg)),rB (ha.fOutside||((decide (((Aj v hb).fKind)=3))&&(!(ov (B6 ((Aj v hb).fInt)))))),rB (ha.fLong||(decide (200<(((Aj v hb).fStr).length:Int))))]) Aa (H':=[.blk hf (Ac (Aj v hb)) 63,.blk b2 [rI .i64 (max ha.fDepth ((hd.length:Int)+1)),rI .i64 (IntKind.wrap .i64 (ha.fBytes+hg)),rB (ha.fOutside||((decide (((Aj v hb).fKind)=3))&&(!(ov (B6 ((Aj v hb).fInt)))))),rB (ha.fLong||(decide (200<(((Aj v hb).fStr).length:Int))))] 119,.blk b1 [rI .i64 (max ha.fDepth ((hd.length:Int)+1)),rI .i64 (IntKind.wrap .i64 (ha.fBytes+hg)),rB (ha.fOutside||((decide (((Aj v hb).fKind)=3))&&(!(ov (B6 ((Aj v hb).fInt)))))),rB (ha.fLong||(decide (200<(((Aj v hb).fStr).length:Int))))] 119,.row he 151 5 (List.map A5 hd)]) Aa)) ?_));refine oq (Ae Aa) ?_;exact Cn
        refine AW (A1 (Af (Af (AC (Af (Af (Bq ?_)))))));have g1:=BF g0 hx hy;refine AC (Af (Iw ?_));obtain rfl:=A2 g1;exact A0 (NR SN (AO Aa) (Cq (i:=2) IT Ez Aa Aa Aa) (AO Aa)) (sS (sS (sS (sS sN)))) ⟨Aa,Aa⟩
       ·have g2:=AL hB hN;refine A4 (AW (Al (wm Aa (wv (Ad Cc Aa HX Aa Aa) (wv (Au (i:=0) HY Aa Aa Aa) (wv (Ca Aa Aa) (wv (Ad Cc Aa C4 Aa Aa) (wv (Au (i:=0) D8 Aa Aa Aa) (wv (Ad Cc Aa HX Aa Aa) (wv (Au (i:=0) HY Aa Aa Aa) (wv (Ca Aa Aa) (wv (r:=Bg [rB (decide (((Aj v hb).fKind)=6)),rI .i64 ((Aj v hb).fN),rB (decide (((Aj v hb).fKind)=6)),rS ([]:Ah),rB false]) (K7 Aa Aa Aa Aa Aa Aa) (Bc (ys:=([(A6.mk (decide (((Aj v hb).fKind)=6)) ((Aj v hb).fN) (decide (((Aj v hb).fKind)=6)) ([]:Ah) false)]:List A6)) (enc:=A5) (css:=[[rB (decide (((Aj v hb).fKind)=6)),rI .i64 ((Aj v hb).fN),rB (decide (((Aj v hb).fKind)=6)),rS ([]:Ah),rB false]]) (xs:=[.tmp 139]) HK O8 Tryz.zeroValue151 Aa Aa Aa ⟨G2.agg ⟨Up.refl _,Up.refl _,Up.refl _,Up.refl _,Up.refl _,trivial⟩,trivial⟩ Aa HP Aa Aa Aa (λg3=>?_))))))))))))));obtain⟨g4,g5⟩:=A8 g2;obtain⟨inf,hinf⟩:=VJ;refine BX (xs:=hd) (ys:=([(A6.mk (decide (((Aj v hb).fKind)=6)) ((Aj v hb).fN) (decide (((Aj v hb).fKind)=6)) ([]:Ah) false)]:List A6)) (enc:=A5) (i:=4) HK hinf.1 hinf.2.1 hinf.2.2.1 hinf.2.2.2 Aa Aa Aa Aa Aa (J0.w (i:=0) Aa Aa) HP Lr g4 Aa (λhO=>?_);exact wa Aa (Av (BQ (AE (B4 (BN (H2:=[.blk b2 [rI .i64 (max ha.fDepth ((hd.length:Int)+1)),rI .i64 (IntKind.wrap .i64 (ha.fBytes+hg)),rB (ha.fOutside||((decide (((Aj v hb).fKind)=3))&&(!(ov (B6 ((Aj v hb).fInt)))))),rB (ha.fLong||(decide (200<(((Aj v hb).fStr).length:Int))))] 119,.blk b1 [rI .i64 0,rI .i64 0,rB false,rB false] 119,.row hO 151 5 (List.map A5 (hd++([(A6.mk (decide (((Aj v hb).fKind)=6)) ((Aj v hb).fN) (decide (((Aj v hb).fKind)=6)) ([]:Ah) false)]:List A6))),.row (.slice (some ⟨g3,0,none⟩) 1 1) 151 5 (List.map A5 ([(A6.mk (decide (((Aj v hb).fKind)=6)) ((Aj v hb).fN) (decide (((Aj v hb).fKind)=6)) ([]:Ah) false)]:List A6)),.blk hf (Ac (Aj v hb)) 63]) ((Ai (i:=3) Aa).trans (Yh _ ((Ai (i:=3) Aa).trans (Yh _ (Yi _))))) (AA (AU ((hd++([(A6.mk (decide (((Aj v hb).fKind)=6)) ((Aj v hb).fN) (decide (((Aj v hb).fKind)=6)) ([]:Ah) false)]:List A6),(AF.mk (max ha.fDepth ((hd.length:Int)+1)) (IntKind.wrap .i64 (ha.fBytes+hg)) (ha.fOutside||((decide (((Aj v hb).fKind)=3))&&(!(ov (B6 ((Aj v hb).fInt)))))) (ha.fLong||(decide (200<(((Aj v hb).fStr).length:Int)))))),hO) g5 (AT.c Aa (AT.c Aa (AT.c5 Aa Aa Aa Aa Aa AT.nil))) (sC (sC (sC (sS (sS sN))))))))))))
      ·have g6:=AL hA hL;refine A4 (AW (Al (wm Aa ?_)));obtain⟨hu,g7,hP⟩:=AM g6;refine EL (Hr:=[.blk hf (Ac (Aj v hb)) 63,.blk b2 [rI .i64 (max ha.fDepth ((hd.length:Int)+1)),rI .i64 (IntKind.wrap .i64 (ha.fBytes+hg)),rB (ha.fOutside||((decide (((Aj v hb).fKind)=3))&&(!(ov (B6 ((Aj v hb).fInt)))))),rB (ha.fLong||(decide (200<(((Aj v hb).fStr).length:Int))))] 119,.blk b1 [rI .i64 0,rI .i64 0,rB false,rB false] 119]) Tryz.call108 (RC F he hd hu g7) Aa ((Ai (i:=3) Aa).trans (Yh _ (Yi _))) Aa ?_;rintro _ _ ⟨h0,rfl,rfl⟩;refine wa Aa (By (wm Aa (wv (CL (ys:=hu) (enc:=A5) (i:=0) HK Aa Aa) (wv (Ca Aa Aa) (Av (Az (b:=decide ((hu.length:Int)=0)) Aa (λhC=>?_) (λhC=>?_)))))))
       ·have g8:=AK hC hP;refine As ?_;obtain⟨g9,gA⟩:=A8 g8;refine GN (H1:=[.row h0 151 5 (List.map A5 hu),.blk hf (Ac (Aj v hb)) 63,.blk b2 [rI .i64 (max ha.fDepth ((hd.length:Int)+1)),rI .i64 (IntKind.wrap .i64 (ha.fBytes+hg)),rB (ha.fOutside||((decide (((Aj v hb).fKind)=3))&&(!(ov (B6 ((Aj v hb).fInt)))))),rB (ha.fLong||(decide (200<(((Aj v hb).fStr).length:Int))))] 119,.blk b1 [rI .i64 (max ha.fDepth ((hd.length:Int)+1)),rI .i64 (IntKind.wrap .i64 (ha.fBytes+hg)),rB (ha.fOutside||((decide (((Aj v hb).fKind)=3))&&(!(ov (B6 ((Aj v hb).fInt)))))),rB (ha.fLong||(decide (200<(((Aj v hb).fStr).length:Int))))] 119]) [3,5,7] [⟨[],rI .i64 hb,0⟩,⟨[0],rI .i64 (hb+1),0⟩,⟨[],Bg [rI .i64 (max ha.fDepth ((hd.length:Int)+1)),rI .i64 (IntKind.wrap .i64 (ha.fBytes+hg)),rB (ha.fOutside||((decide (((Aj v hb).fKind)=3))&&(!(ov (B6 ((Aj v hb).fInt)))))),rB (ha.fLong||(decide (200<(((Aj v hb).fStr).length:Int))))],1⟩,⟨[1],rI .i64 (hb+1),0⟩,⟨[2],rv undef,2⟩,⟨[],rB true,0⟩] (rle [(5,_),(2,[.row h0 151 5 (List.map A5 hu),.blk hf (Ac (Aj v hb)) 63,.blk b2 [rI .i64 (max ha.fDepth ((hd.length:Int)+1)),rI .i64 (IntKind.wrap .i64 (ha.fBytes+hg)),rB (ha.fOutside||((decide (((Aj v hb).fKind)=3))&&(!(ov (B6 ((Aj v hb).fInt)))))),rB (ha.fLong||(decide (200<(((Aj v hb).fStr).length:Int))))] 119,.blk b1 [rI .i64 (max ha.fDepth ((hd.length:Int)+1)),rI .i64 (IntKind.wrap .i64 (ha.fBytes+hg)),rB (ha.fOutside||((decide (((Aj v hb).fKind)=3))&&(!(ov (B6 ((Aj v hb).fInt)))))),rB (ha.fLong||(decide (200<(((Aj v hb).fStr).length:Int))))] 119])]) [2,4,3] ?_ ?_
        ·refine oq (Aq Aa) (oq (BZ Aa Aa g9) (of (Bk (i:=2) IT Ez Aa Aa Aa Aa) (oq (Ae Aa) (JR Aa (Pd (Dm (i:=3) Ez Aa Aa Aa (Bm.c Aa) Aa Aa (cs':=[rI .i64 (max ha.fDepth ((hd.length:Int)+1)),rI .i64 (IntKind.wrap .i64 (ha.fBytes+hg)),rB (ha.fOutside||((decide (((Aj v hb).fKind)=3))&&(!(ov (B6 ((Aj v hb).fInt)))))),rB (ha.fLong||(decide (200<(((Aj v hb).fStr).length:Int))))]) Aa (H':=[.row h0 151 5 (List.map A5 hu),.blk hf (Ac (Aj v hb)) 63,.blk b2 [rI .i64 (max ha.fDepth ((hd.length:Int)+1)),rI .i64 (IntKind.wrap .i64 (ha.fBytes+hg)),rB (ha.fOutside||((decide (((Aj v hb).fKind)=3))&&(!(ov (B6 ((Aj v hb).fInt)))))),rB (ha.fLong||(decide (200<(((Aj v hb).fStr).length:Int))))] 119,.blk b1 [rI .i64 (max ha.fDepth ((hd.length:Int)+1)),rI .i64 (IntKind.wrap .i64 (ha.fBytes+hg)),rB (ha.fOutside||((decide (((Aj v hb).fKind)=3))&&(!(ov (B6 ((Aj v hb).fInt)))))),rB (ha.fLong||(decide (200<(((Aj v hb).fStr).length:Int))))] 119]) Aa)) ?_))));refine oq (Ae Aa) ?_;exact Cn
        refine AW (A1 (AC (Af (Af (Bq ?_)))));have gB:=BF gA hx hy;refine AC (Af (Iw ?_));obtain rfl:=A2 gB;exact A0 (NR SN (AO Aa) (Cq (i:=3) IT Ez Aa Aa Aa) (AO Aa)) (sS (sS (sS (sS sN)))) ⟨Aa,Aa⟩
       ·have gC:=AL hC hP;exact A4 (AV (BN (H2:=[.blk b2 [rI .i64 (max ha.fDepth ((hd.length:Int)+1)),rI .i64 (IntKind.wrap .i64 (ha.fBytes+hg)),rB (ha.fOutside||((decide (((Aj v hb).fKind)=3))&&(!(ov (B6 ((Aj v hb).fInt)))))),rB (ha.fLong||(decide (200<(((Aj v hb).fStr).length:Int))))] 119,.blk b1 [rI .i64 0,rI .i64 0,rB false,rB false] 119,.row h0 151 5 (List.map A5 hu),.blk hf (Ac (Aj v hb)) 63]) ((Ai (i:=2) Aa).trans (Yh _ ((Ai (i:=2) Aa).trans (Yh _ (Yi _))))) (AA (AU ((hu,(AF.mk (max ha.fDepth ((hd.length:Int)+1)) (IntKind.wrap .i64 (ha.fBytes+hg)) (ha.fOutside||((decide (((Aj v hb).fKind)=3))&&(!(ov (B6 ((Aj v hb).fInt)))))) (ha.fLong||(decide (200<(((Aj v hb).fStr).length:Int)))))),h0) gC (AT.c Aa (AT.c Aa (AT.c5 Aa Aa Aa Aa Aa AT.nil))) (sC (sC (sC (sS sN))))))))
   ·rintro⟨⟨hD,hE⟩,hG⟩ h2;refine Be (l':=[(0,AQ 4 (List.map Ac v)),(3,rv (.pointer (some ⟨b1,0,none⟩))),(5,rv (.pointer (some ⟨b2,0,none⟩))),(6,rv hG),(11,AQ 4 (List.map Ac v)),(12,rI .i64 (v.length:Int)),(13,rI .i64 hb)]) (H':=[.blk b2 (AR hE) 119,.blk b1 [rI .i64 0,rI .i64 0,rB false,rB false] 119,.row hG 151 5 (List.map A5 hD)]) Aa Aa ?_;replace h2:DM hb hD hE=some h4:=h2;unfold DM at h2;refine At ?_;obtain⟨gD,gE⟩:=A8 h2;refine wv (BZ Aa Aa gD) (wm Aa (Aw ?_));have gF:=BG gE hx;exact AA (AU (hT,(hD,hb+1,hE),hG) ⟨gF,Y1 _⟩ (AT.c Aa (AT.c Aa (AT.c5 Aa Aa Aa Aa Aa AT.nil))) (sC (sC (sC sN))))
  ·have gG:=AL h5 hz;refine BQ (AE ?_);have gH:=CE gG hx hy;exact AE (B7 (AU (ha,()) gH (AT.c Aa (AT.c Aa AT.nil)) (sC (sC (sS sN)))))
 ·rintro⟨hq,⟨⟩⟩ h3;refine Dr (l':=[(3,rv (.pointer (some ⟨b1,0,none⟩))),(5,rv (.pointer (some ⟨b2,0,none⟩)))]) (H':=[.blk b2 (AR hq) 119,.blk b1 [rI .i64 0,rI .i64 0,rB false,rB false] 119]) Aa Aa ?_;replace h3:J7 hq=some r:=h3;unfold J7 at h3;refine B4 (AW (As (GN (H1:=[.blk b2 (AR hq) 119,.blk b1 (AR hq) 119]) [3,5] [⟨[],Bg (AR hq),1⟩,⟨[],rI .i64 0,0⟩,⟨[0],rv undef,2⟩,⟨[],rB false,0⟩] (rle [(3,_),(2,[.blk b2 (AR hq) 119,.blk b1 (AR hq) 119])]) [2,4,3] ?_ ?_)))
  ·refine of (Bk (i:=0) IT Ez Aa Aa Aa Aa) (oq (Ae Aa) (JR Aa (Pd (Dm (i:=1) Ez Aa Aa Aa (Bm.c Aa) Aa Aa (cs':=[rI .i64 hq.fDepth,rI .i64 hq.fBytes,rB hq.fOutside,rB hq.fLong]) Aa (H':=[.blk b2 (AR hq) 119,.blk b1 (AR hq) 119]) Aa)) ?_));refine oq (Ae Aa) ?_;exact Cn
  refine AW (A1 (Iw ?_));obtain rfl:=A2 h3;exact A0 (NR SN (AO Aa) (Cq (i:=1) IT Ez Aa Aa Aa) (AO Aa)) (sS (sS sN)) ⟨Aa,Aa⟩
theorem JC (F:Nat)(v:(List Ab))(r:Int)(h:Ib F v=some r):Fn Tryz.prog GE 44 [AQ 4 (List.map Ac v)] [] (λR H=>R=rI .i64 r∧H=[]):=by
 refine enter (n:=42) Tryz.func44 Aa Tryz.ntmps44 Aa (λw Z=>?_);refine Be (l':=[(0,AQ 4 (List.map Ac v))]) (H':=[]) Aa Aa ?_;unfold Ib at h;refine Al (wv (r:=rI .i64 0) (Ae Aa) (By (wm Aa ?_)));obtain⟨r1,e3,h2⟩:=AM h;refine D9 Tryz.call74 (NN F v r1 e3) Aa (wm Aa (wv (AB Aa Aa) (wv (AB Aa Aa) (wv (AB Aa Aa) (BR (cs:=[rI .i64 0,rI .i64 0,rB false,rB false]) O2 Aa Aa (λb4=>?_))))));refine wa Aa (AN (i:=0) Ez Aa Aa Aa (Bm.c Aa) Aa Aa (cs':=[rI .i64 r1.2.1.fDepth,rI .i64 r1.2.1.fBytes,rB r1.2.1.fOutside,rB r1.2.1.fLong]) Aa (H':=[.blk b4 (AR r1.2.1) 119]) Aa (wa Aa (Av (As (AY (AX [(0,AQ 4 (List.map Ac v)),(4,rv (.pointer (some ⟨b4,0,none⟩))),(12,rB ((!r1.2.2)||(!decide (r1.1=(v.length:Int)))))] [.blk b4 (AR r1.2.1) 119] ?_ ?_))))))
 ·refine At (wm Aa (wv (BT Aa) (wm Aa (Bb (!r1.2.2) (λc5=>?_) (λc5=>?_)))))
  ·refine wf c5 (wf c5 (wf c5 (wf c5 (wv (r:=rB true) (A7 (b:=!r1.2.2) Aa c5 Aa) (wa Aa (Aw ?_))))));exact CW c5
  ·refine wo c5 (wm Aa (wo c5 (wm Aa (wo c5 (wv (Bz (ys:=v) (enc:=Ac) Cb Aa) (wo c5 (wv (CX Aa Aa) (HU Aa c5 Aa (wa Aa (Aw ?_))))))))));exact CW c5
 refine Az (b:=((!r1.2.2)||(!decide (r1.1=(v.length:Int))))) Aa (λc6=>?_) (λc6=>?_)
 ·have h7:=AK c6 h2;refine Al (wv (r:=rI .i64 1) (Ae Aa) (Av (A1 (AC (Af ?_)))));obtain rfl:=A2 h7;exact A0 (Ce Vc (AO Aa)) (sS sN) ⟨Aa,Aa⟩
 ·have h8:=AL c6 h2;refine Al (wv (Ad Eb Aa Hx Aa Aa) (wv (Au (i:=0) SH Aa Aa Aa) (wa Aa (Av (Az (b:=r1.2.1.fOutside) Aa (λc9=>?_) (λc9=>?_))))))
  ·have hg:=AK c9 h8;refine Al (wv (r:=rI .i64 2) (Ae Aa) (Av (A1 (AC (Af ?_)))));obtain rfl:=A2 hg;exact A0 (Ce Vc (AO Aa)) (sS sN) ⟨Aa,Aa⟩
  ·have hf:=AL c9 h8;refine AX [(24,rB (r1.2.1.fLong||((decide (200<(v.length:Int)))||((decide (8<r1.2.1.fDepth))||(decide (4000<r1.2.1.fBytes))))))] [] ?_ ?_
   ·refine At (wv (Ad Eb Aa Hx Aa Aa) (wv (Au (i:=0) SH Aa Aa Aa) (wm Aa (Bb (r1.2.1.fLong) (λha=>?_) (λha=>?_)))))
    ·refine wf ha (wf ha (wf ha (wv (r:=rB true) (A7 (b:=r1.2.1.fLong) Aa ha Aa) (wm Aa (A3 (b:=true) Aa Aa Aa Aa (A3 (b:=true) Aa Aa Aa Aa (A3 (b:=true) Aa Aa Aa Aa (wv (r:=rB true) (A7 (b:=true) Aa Aa Aa) (wm Aa (A3 (b:=true) Aa Aa Aa Aa (A3 (b:=true) Aa Aa Aa Aa (A3 (b:=true) Aa Aa Aa Aa (wv (r:=rB true) (A7 (b:=true) Aa Aa Aa) (wa Aa (Aw ?_)))))))))))))));exact CW ha
    ·refine wo ha (wm Aa (wo ha (wv (Bz (ys:=v) (enc:=Ac) Cb Aa) (wo ha (wv (DN Aa Aa) (HU Aa ha Aa (wm Aa (Bb (decide (200<(v.length:Int))) (λhb=>?_) (λhb=>?_)))))))))
     ·refine wf hb (wf hb (wf hb (wv (r:=rB true) (A7 (b:=decide (200<(v.length:Int))) Aa hb Aa) (wm Aa (A3 (b:=true) Aa Aa Aa Aa (A3 (b:=true) Aa Aa Aa Aa (A3 (b:=true) Aa Aa Aa Aa (wv (r:=rB true) (A7 (b:=true) Aa Aa Aa) (wa Aa (Aw ?_))))))))));exact CW (And.intro ha hb)
     ·refine wo hb (wv (Ad Eb Aa C4 Aa Aa) (wo hb (wv (Au (i:=0) D8 Aa Aa Aa) (wo hb (wv (DN Aa Aa) (HU Aa hb Aa (wm Aa (Bb (decide (8<r1.2.1.fDepth)) (λhd=>?_) (λhd=>?_)))))))))
      ·refine wf hd (wf hd (wf hd (wv (r:=rB true) (A7 (b:=decide (8<r1.2.1.fDepth)) Aa hd Aa) (wa Aa (Aw ?_)))));exact CW (And.intro ha (And.intro hb hd))
      ·refine wo hd (wv (Ad Eb Aa C4 Aa Aa) (wo hd (wv (Au (i:=0) D8 Aa Aa Aa) (wo hd (wv (DN Aa Aa) (HU Aa hd Aa (wa Aa (Aw ?_))))))));exact CW (And.intro ha (And.intro hb hd))
   refine Az (b:=(r1.2.1.fLong||((decide (200<(v.length:Int)))||((decide (8<r1.2.1.fDepth))||(decide (4000<r1.2.1.fBytes)))))) Aa (λhe=>?_) (λhe=>?_)
   ·have hh:=AK he hf;refine Al (wv (r:=rI .i64 3) (Ae Aa) (Av (A1 (AC (Af ?_)))));obtain rfl:=A2 hh;exact A0 (Ce Vc (AO Aa)) sN ⟨Aa,Aa⟩
   ·have hi:=AL he hf;refine A4 (AV (AW (Al (wv (r:=rI .i64 0) (Ae Aa) (Av (A1 ?_))))));obtain rfl:=A2 hi;exact A0 (Ce Vc (AO Aa)) sN ⟨Aa,Aa⟩
theorem PW (F:Nat)(v:(List Ab))(r:(List Ab)×Int)(h:JB F v=some r):Fn Tryz.prog GE 100 [AQ 4 (List.map Ac v)] [] (λR H=>R=C0 [AQ 4 (List.map Ac r.1),rI .i64 r.2]∧H=[]):=by
 refine enter (n:=11) Tryz.func100 Aa Tryz.ntmps100 Aa (λw Z=>?_);refine Be (l':=[(0,AQ 4 (List.map Ac v))]) (H':=[]) Aa Aa ?_;unfold JB at h;refine Al (wv (r:=rv (.slice none 0 0)) (Ae Aa) (wv (r:=rI .i64 0) (Ae Aa) (Av (As (Al (wm Aa ?_))))));obtain⟨r1,e3,h2⟩:=AM h;refine D9 Tryz.call44 (JC F v r1 e3) Aa (wa Aa (By (wm Aa (wv (CX Aa Aa) (Av (Az (b:=!decide (r1=0)) Aa (λc4=>?_) (λc4=>?_)))))))
 ·have h5:=AK c4 h2;refine Al (wm Aa (wv (r:=rv (.slice none 0 0)) (Ae Aa) (wa Aa (Av (A1 (Af (WK.up (d:=2) (r:=AQ 4 (List.map Ac ([]:List Ab))) Aa (Up.le (ER.nil _)) ?_)))))));obtain rfl:=A2 h5;exact A0 (EP Tryz.results100 (AO Aa) (AO Aa)) sN ⟨Aa,Aa⟩
 ·have h6:=AL c4 h2;refine A4 (AW (Al (wm Aa (wa Aa (wv (r:=rI .i64 0) (Ae Aa) (Av (A1 ?_)))))));obtain rfl:=A2 h6;exact A0 (EP Tryz.results100 (AO Aa) (AO Aa)) sN ⟨Aa,Aa⟩
theorem NM  (r:(List Ab))(h:OL=some r):Fn Tryz.prog GE 54 [] [] (λR H=>R=AQ 4 (List.map Ac r)∧H=[]):=by
 refine enter (n:=3) Tryz.func54 Aa Tryz.ntmps54 Aa (λw Z=>?_);refine Be (l':=[]) (H':=[]) Aa Aa ?_;unfold OL at h;refine Al (wv (r:=rv (.slice none 0 0)) (Ae Aa) (By (wv (r:=Bg [rI .i64 1,rI .i64 0,rS ([]:Ah),rI .i64 0]) (Eg Aa Aa) (Bc (ys:=([(Ab.mk 1 0 ([]:Ah) 0)]:List Ab)) (enc:=Ac) (css:=[[rI .i64 1,rI .i64 0,rS ([]:Ah),rI .i64 0]]) (xs:=[.tmp 1]) Cb C3 HS Aa Aa Aa ⟨G2.agg ⟨Up.refl _,Up.refl _,Up.refl _,Up.refl _,trivial⟩,trivial⟩ Aa Bi Aa Aa Aa (λb1=>?_)))));refine wa Aa (Av (A1 (WK.freeze (i:=0) Aa (WK.up (d:=0) (r:=AQ 4 (List.map Ac ([(Ab.mk 1 0 ([]:Ah) 0)]:List Ab))) Aa (Up.fact (i:=0) Aa) ?_))));obtain rfl:=A2 h;exact A0 (Ce Tryz.results54 (AO Aa)) (sS sN) ⟨Aa,Aa⟩
theorem QI (b:Bool)(r:(List Ab))(h:QJ b=some r):Fn Tryz.prog GE 80 [rB b] [] (λR H=>R=AQ 4 (List.map Ac r)∧H=[]):=by
 refine enter (n:=9) Tryz.func80 Aa Tryz.ntmps80 Aa (λw Z=>?_);refine Be (l':=[(0,rB b)]) (H':=[]) Aa Aa ?_;unfold QJ at h;refine Al (wv (r:=rv (.slice none 0 0)) (Ae Aa) (By (wv (r:=Bg [rI .i64 2,rI .i64 0,rS ([]:Ah),rI .i64 0]) (Eg Aa Aa) (BR (cs:=[rI .i64 0,rI .i64 0,rS ([]:Ah),rI .i64 0]) HS Aa Aa (λb1=>?_)))));refine AN (i:=0) C3 Aa Aa Aa (Bm.c Aa) Aa Aa (cs':=[rI .i64 2,rI .i64 0,rS ([]:Ah),rI .i64 0]) Aa (H':=[.blk b1 [rI .i64 2,rI .i64 0,rS ([]:Ah),rI .i64 0] 63]) Aa (Av (As (Al (wm Aa (Av (Az (b:=b) Aa (λc2=>?_) (λc2=>?_)))))))
 ·have h3:=AK c2 h;refine At (wv (Ad Cc Aa C4 Aa Aa) (Bu (i:=0) C4 Aa Aa (BV Aa) Aa Aa (cs':=[rI .i64 2,rI .i64 1,rS ([]:Ah),rI .i64 0]) Aa (H':=[.blk b1 [rI .i64 2,rI .i64 1,rS ([]:Ah),rI .i64 0] 63]) Aa (By (wv (Bk (i:=0) ME C3 Aa Aa Aa Aa) (Bc (ys:=([(Ab.mk 2 1 ([]:Ah) 0)]:List Ab)) (enc:=Ac) (css:=[[rI .i64 2,rI .i64 1,rS ([]:Ah),rI .i64 0]]) (xs:=[.tmp 7]) Cb C3 HS Aa Aa Aa ⟨G2.agg ⟨Up.refl _,Up.refl _,Up.refl _,Up.refl _,trivial⟩,trivial⟩ Aa Bi Aa Aa Aa (λb4=>?_))))));refine wa Aa (Av (A1 (WK.freeze (i:=0) Aa (WK.up (d:=2) (r:=AQ 4 (List.map Ac ([(Ab.mk 2 1 ([]:Ah) 0)]:List Ab))) Aa (Up.fact (i:=0) Aa) ?_))));obtain rfl:=A2 h3;exact A0 (Ce Tryz.results80 (AO Aa)) (sS (sS sN)) ⟨Aa,Aa⟩
 ·have h5:=AL c2 h;refine A4 (AW (Al (wv (Bk (i:=0) ME C3 Aa Aa Aa Aa) (Bc (ys:=([(Ab.mk 2 0 ([]:Ah) 0)]:List Ab)) (enc:=Ac) (css:=[[rI .i64 2,rI .i64 0,rS ([]:Ah),rI .i64 0]]) (xs:=[.tmp 7]) Cb C3 HS Aa Aa Aa ⟨G2.agg ⟨Up.refl _,Up.refl _,Up.refl _,Up.refl _,trivial⟩,trivial⟩ Aa Bi Aa Aa Aa (λb6=>?_)))));refine wa Aa (Av (A1 (WK.freeze (i:=0) Aa (WK.up (d:=2) (r:=AQ 4 (List.map Ac ([(Ab.mk 2 0 ([]:Ah) 0)]:List Ab))) Aa (Up.fact (i:=0) Aa) ?_))));obtain rfl:=A2 h5;exact A0 (Ce Tryz.results80 (AO Aa)) (sS (sS sN)) ⟨Aa,Aa⟩
end Go.Proofs.YtogdediiodmnbaaGreatDoor.Q
namespace Go.Proofs.YtogdediiodmnbaaGreatDoor
open Go
set_option linter.unusedVariables false
def CS (s:Ah)(ha:Int)(hb:Ah):Option (Stp (Int×Ah) (Out (Ah) (Ah))):=
 B3 (decide (ha<(s.length:Int))) (Bj (C2 ha (s.length:Int))<|B3 (((decide ((Br s ha)=34))||(decide ((Br s ha)=92)))) (Bj (DI 1 (hb.length+1))<|Bj (Ci .u8 92)<|Jz (hb++[UInt8.ofNat (Int.toNat 92)]) λhd=>Bj (DI 1 (hd.length+1))<|Bj (Ci .u8 (Br s ha))<|Jz (hd++[UInt8.ofNat (Int.toNat (Br s ha))]) λhe=>Bj (Ci .i64 (ha+1))<|some (.next (ha+1,he))) (Bj (DI 1 (hb.length+1))<|Bj (Ci .u8 (Br s ha))<|Jz (hb++[UInt8.ofNat (Int.toNat (Br s ha))]) λhf=>Bj (Ci .i64 (ha+1))<|some (.next (ha+1,hf)))) (some (.out (.go hb)))
def Ee (ha:Ah):Option (Ah):=
 Bj (DI 1 (ha.length+1))<|Jz (ha++[UInt8.ofNat (Int.toNat 34)]) λhb=>some hb
def Jh (F:Nat)(l:Ah)(s:Ah):Option (Ah):=
 Bj (DI 1 (l.length+1))<|Bj (Ci .u8 34)<|Jz (l++[UInt8.ofNat (Int.toNat 34)]) λr6=>B8 (Ch (λσ=>CS s σ.1 σ.2) F (0,r6)) (Cg λν=>Ee ν)
def I1 (F:Nat)(hm:Ah→(List Ab)→Bool→Ah→Ab→Option (Bool×Bool×Ah))(ha:(List Ab)→Bool→Ah→Ab→Option (Bool×Ah))(l:Ah)(v:(List Ab)):Option (Ah):=
 Bj (C2 0 (v.length:Int))<|B3 (decide (((Aj v 0).fKind)=1)) (Bj (DI 1 (l.length+([110,117,108,108]:Ah).length))<|Jz (l++([110,117,108,108]:Ah)) λhe=>some he) (B3 (decide (((Aj v 0).fKind)=2)) (Bj (C2 ((Aj v 0).fInt) (([([102,97,108,115,101]:Ah),([116,114,117,101]:Ah)]:List Ah).length:Int))<|Bj (DI 1 (l.length+(Aj ([([102,97,108,115,101]:Ah),([116,114,117,101]:Ah)]:List Ah) ((Aj v 0).fInt)).length))<|Jz (l++(Aj ([([102,97,108,115,101]:Ah),([116,114,117,101]:Ah)]:List Ah) ((Aj v 0).fInt))) λhf=>some hf) (B3 (decide (((Aj v 0).fKind)=3)) (Bj (Ci .i64 ((Aj v 0).fInt))<|Bj (DI 1 (l.length+(Lib.itoa ((Aj v 0).fInt)).length))<|Jz (l++(Lib.itoa ((Aj v 0).fInt))) λhg=>some hg) (B3 (decide (((Aj v 0).fKind)=4)) (B8 (Jh F l ((Aj v 0).fStr)) λhh=>some hh) (B3 (decide (((Aj v 0).fKind)=6)) (Bj (C2 0 (([123,125]:Ah).length:Int))<|Bj (DI 1 (l.length+1))<|Bj (Ci .u8 (Br ([123,125]:Ah) 0))<|Jz (l++[UInt8.ofNat (Int.toNat (Br ([123,125]:Ah) 0))]) λhi=>B8 (ha v true hi (Aj v 0)) λhb=>Bj (C2 1 (([123,125]:Ah).length:Int))<|Bj (DI 1 (hb.2.length+1))<|Bj (Ci .u8 (Br ([123,125]:Ah) 1))<|Jz (hb.2++[UInt8.ofNat (Int.toNat (Br ([123,125]:Ah) 1))]) λhj=>some hj) (Bj (C2 0 (([91,93]:Ah).length:Int))<|Bj (DI 1 (l.length+1))<|Bj (Ci .u8 (Br ([91,93]:Ah) 0))<|Jz (l++[UInt8.ofNat (Int.toNat (Br ([91,93]:Ah) 0))]) λhk=>B8 (ha v true hk (Aj v 0)) λhd=>Bj (C2 1 (([91,93]:Ah).length:Int))<|Bj (DI 1 (hd.2.length+1))<|Bj (Ci .u8 (Br ([91,93]:Ah) 1))<|Jz (hd.2++[UInt8.ofNat (Int.toNat (Br ([91,93]:Ah) 1))]) λhl=>some hl)))))
def J4 (F:Nat)(ha:Ah→(List Ab)→Option (Ah))(key:Ah)(x:(List Ab))(first:Bool)(l:Ah)(c:Ab):Option (Bool×Bool×Ah):=
 B3 (!first) (Bj (DI 1 (l.length+1))<|Bj (Ci .u8 44)<|Jz (l++[UInt8.ofNat (Int.toNat 44)]) λr8=>B3 (decide (c.fKind=6)) (B8 (Jh F r8 key) λhb=>Bj (DI 1 (hb.length+1))<|Bj (Ci .u8 58)<|Jz (hb++[UInt8.ofNat (Int.toNat 58)]) λhe=>B8 (ha he x) λhf=>some (true,false,hf)) (B8 (ha r8 x) λhg=>some (true,false,hg))) (B3 (decide (c.fKind=6)) (B8 (Jh F l key) λhd=>Bj (DI 1 (hd.length+1))<|Bj (Ci .u8 58)<|Jz (hd++[UInt8.ofNat (Int.toNat 58)]) λhh=>B8 (ha hh x) λhi=>some (true,false,hi)) (B8 (ha l x) λhj=>some (true,false,hj)))
def Da (F:Nat)(v:(List Ab))(c:Ab)(hj:Ah→(List Ab)→Bool→Ah→Ab→Option (Bool×Bool×Ah))(ha:Int)(hb:Int)(hh:Bool)(hi:Ah):Option (Stp (Int×Int×Bool×Ah) (Out (Bool×Ah) (Bool×Ah))):=
 B3 (decide (hb<((Aj v 0).fN))) (B3 (decide (((Aj v 0).fKind)=6)) (Bj (C2 ha (v.length:Int))<|Bj (Ci .i64 (ha+1))<|Bj (Jb (ha+1) (v.length:Int))<|B8 (HM F (List.drop (Int.toNat (ha+1)) v)) λhd=>Bj (Ci .i64 ((ha+1)+hd.1))<|Bj (Jb (ha+1) ((ha+1)+hd.1))<|Bj (Jb ((ha+1)+hd.1) (v.length:Int))<|B8 (hj ((Aj v ha).fStr) (List.take (Int.toNat ((ha+1)+hd.1)-Int.toNat (ha+1)) (List.drop (Int.toNat (ha+1)) v)) hh hi c) λhe=>B3 (!he.1) (some (.out (.ret (he.2.1,he.2.2)))) (Bj (Ci .i64 (hb+1))<|some (.next ((ha+1)+hd.1,hb+1,he.2.1,he.2.2)))) (Bj (Jb ha (v.length:Int))<|B8 (HM F (List.drop (Int.toNat ha) v)) λhf=>Bj (Ci .i64 (ha+hf.1))<|Bj (Jb ha (ha+hf.1))<|Bj (Jb (ha+hf.1) (v.length:Int))<|B8 (hj ([]:Ah) (List.take (Int.toNat (ha+hf.1)-Int.toNat ha) (List.drop (Int.toNat ha) v)) hh hi c) λhg=>B3 (!hg.1) (some (.out (.ret (hg.2.1,hg.2.2)))) (Bj (Ci .i64 (hb+1))<|some (.next (ha+hf.1,hb+1,hg.2.1,hg.2.2))))) (some (.out (.go (hh,hi))))
def Gj (ha:Bool)(hb:Ah):Option (Bool×Ah):=
 some (ha,hb)
def Ha (F:Nat)(ha:Ah→(List Ab)→Bool→Ah→Ab→Option (Bool×Bool×Ah))(v:(List Ab))(first:Bool)(l:Ah)(c:Ab):Option (Bool×Ah):=
 Bj (C2 0 (v.length:Int))<|B8 (Ch (λσ=>Da F v c ha σ.1 σ.2.1 σ.2.2.1 σ.2.2.2) F (1,0,first,l)) (Cg λν=>Gj ν.1 ν.2)
mutual
def E4:Nat→Ah→(List Ab)→Option (Ah)
 | 0,_,_=>none
 | nn+1,l,v=>I1 nn (DS nn) (ES nn) l v
def DS:Nat→Ah→(List Ab)→Bool→Ah→Ab→Option (Bool×Bool×Ah)
 | 0,_,_,_,_,_=>none
 | nn+1,key,x,first,l,c=>J4 nn (E4 nn) key x first l c
def ES:Nat→(List Ab)→Bool→Ah→Ab→Option (Bool×Ah)
 | 0,_,_,_,_=>none
 | nn+1,v,first,l,c=>Ha nn (DS nn) v first l c
end
def J8 (F:Nat)(v:(List Ab)):Option (Ah×Int):=
 B8 (Ib F v) λr1=>B3 (!decide (r1=0)) (some (([]:Ah),r1)) (B8 (E4 F ([]:Ah) v) λr8=>Bj (decide (0<r8.length))<|some (r8,0))
end Go.Proofs.YtogdediiodmnbaaGreatDoor
namespace Go.Proofs.YtogdediiodmnbaaGreatDoor.Q
open Go Go.RowKit
set_option linter.unusedVariables false
set_option linter.unusedSimpArgs false
set_option maxRecDepth 100000
set_option maxHeartbeats 4000000
theorem LM (F:Nat)(ha:Nat)(hh:Value)(l:Ah)(s:Ah)(r:Ah)(h:Jh F l s=some r):Fn Tryz.prog GE 118 [rv (.pointer (some ⟨ha,0,none⟩)),rS s] [.bld 131 5 ha hh l] (λR H=>∃w0b:Value,R=rv (.tuple #[])∧H=[.bld 131 5 ha w0b r]):=by
 refine enter (n:=32) Tryz.func118 Aa Tryz.ntmps118 Aa (λw Z=>?_);refine Be (l':=[(0,rv (.pointer (some ⟨ha,0,none⟩))),(1,rS s)]) (H':=[.bld 131 5 ha hh l]) Aa Aa ?_;unfold Jh at h;refine Al (wm Aa ?_);obtain⟨g1,h2⟩:=A8 h;obtain⟨g3,h4⟩:=A8 h2;refine Co (rs:=[rv (.pointer (some ⟨ha,0,none⟩)),rI .u8 34]) (Hin:=[.bld 131 5 ha hh l]) (Hr:=[]) HL Aa (Yi _) (Cm ha hh l 34 g1 g3) Aa ?_;rintro _ _ ⟨v5,rfl,rfl⟩;obtain⟨r6,e8,h7⟩:=Dq h4;rw[← e8];refine Av (As (Al (wm Aa (wv (BC CC Aa) (wv (r:=rI .i64 0) (Aq Aa) (Av (AY ?_)))))));obtain⟨ht,hu,hw⟩:=AM h7;refine BJ (S:=Nat×(Int×Ah)×(Value)) (V:=(Ah)×(Value)) 0 (λσ=>Ch (λσ=>CS s σ.1 σ.2) σ.1 σ.2.1=some ht) (λσ=>[(0,rv (.pointer (some ⟨ha,0,none⟩))),(1,rS s),(8,rI .i64 (s.length:Int)),(9,rI .i64 σ.2.1.1)]) (λσ=>[.bld 131 5 ha σ.2.2 σ.2.1.2]) (λσ=>σ.1) (F,(0,r6),v5) hu (AT.c Aa (AT.c Aa (AT.c Aa (AT.c Aa AT.nil)))) (sC sN) (λσ=>Ee σ.1=some r) (λσ=>[(0,rv (.pointer (some ⟨ha,0,none⟩)))]) (λσ=>[.bld 131 5 ha σ.2 σ.1]) ?_ ?_
 ·rintro⟨gf,⟨hb,he⟩,hf⟩ hx;refine Be (l':=[(0,rv (.pointer (some ⟨ha,0,none⟩))),(1,rS s),(8,rI .i64 (s.length:Int)),(9,rI .i64 hb)]) (H':=[.bld 131 5 ha hf he]) Aa Aa ?_;obtain⟨hp,rfl,t127,hg,hl⟩:=Dh hx;replace hg:CS s hb he=some t127:=hg;unfold CS at hg;refine Al (wv (Dn Aa Aa) (Av (As (Az (b:=decide (hb<(s.length:Int))) Aa (λhm=>?_) (λhm=>?_)))))
  ·have hy:=AK hm hg;refine A4 (AW (As (AY (Al (wm Aa (wa Aa (Av (As ?_))))))));obtain⟨hi,hq⟩:=A8 hy;refine AX [(0,rv (.pointer (some ⟨ha,0,none⟩))),(1,rS s),(4,rI .i64 hb),(8,rI .i64 (s.length:Int)),(9,rI .i64 hb),(21,rB ((decide ((Br s hb)=34))||(decide ((Br s hb)=92))))] [.bld 131 5 ha hf he] ?_ ?_
   ·refine At (wm Aa (wm Aa (wv (BA CC Aa Aa hi) (wv (Ca Aa Aa) (wm Aa (Bb (decide ((Br s hb)=34)) (λhd=>?_) (λhd=>?_)))))))
    ·refine wf hd (wf hd (wf hd (wf hd (wv (r:=rB true) (A7 (b:=decide ((Br s hb)=34)) Aa hd Aa) (Aw ?_)))));exact CW hd
    ·refine wo hd (wm Aa (wo hd (wm Aa (wo hd (wv (BA CC Aa Aa hi) (wo hd (wv (Ca Aa Aa) (HU Aa hd Aa (Aw ?_)))))))));exact CW hd
   refine Az (b:=((decide ((Br s hb)=34))||(decide ((Br s hb)=92)))) Aa (λhn=>?_) (λhn=>?_)
   ·have hz:=AK hn hq;refine At (wm Aa ?_);obtain⟨h0,h1⟩:=A8 hz;obtain⟨h3,h5⟩:=A8 h1;refine Co (rs:=[rv (.pointer (some ⟨ha,0,none⟩)),rI .u8 92]) (Hin:=[.bld 131 5 ha hf he]) (Hr:=[]) HL Aa (Yi _) (Cm ha hf he 92 h0 h3) Aa ?_;rintro _ _ ⟨hr,rfl,rfl⟩;obtain⟨hs,h6,h8⟩:=Dq h5;rw[← h6];refine Av (At (wm Aa (wm Aa (wm Aa (wv (BA CC Aa Aa hi) ?_)))));obtain⟨h9,hA⟩:=A8 h8;obtain⟨hB,hC⟩:=A8 hA;refine Co (rs:=[rv (.pointer (some ⟨ha,0,none⟩)),rI .u8 (Br s hb)]) (Hin:=[.bld 131 5 ha hr hs]) (Hr:=[]) HL Aa (Yi _) (Cm ha hr hs (Br s hb) h9 hB) Aa ?_;rintro _ _ ⟨hD,rfl,rfl⟩;obtain⟨hE,hG,hH⟩:=Dq hC;rw[← hG];refine Aw (AV (AW (At ?_)));obtain⟨hI,hJ⟩:=A8 hH;refine wv (BZ Aa Aa hI) (wm Aa (Aw ?_));have hK:=BG hJ hl;exact AA (AU (hp,(hb+1,hE),hD) ⟨hK,Y1 _⟩ (AT.c Aa (AT.c Aa (AT.c Aa (AT.c Aa AT.nil)))) (sC sN))
   ·have hL:=AL hn hq;refine A4 (AW (At (wm Aa (wm Aa (wm Aa (wv (BA CC Aa Aa hi) ?_))))));obtain⟨hN,hO⟩:=A8 hL;obtain⟨hP,hQ⟩:=A8 hO;refine Co (rs:=[rv (.pointer (some ⟨ha,0,none⟩)),rI .u8 (Br s hb)]) (Hin:=[.bld 131 5 ha hf he]) (Hr:=[]) HL Aa (Yi _) (Cm ha hf he (Br s hb) hN hP) Aa ?_;rintro _ _ ⟨hR,rfl,rfl⟩;obtain⟨hS,hT,hU⟩:=Dq hQ;rw[← hT];refine Aw (AV (AW (At ?_)));obtain⟨hV,hW⟩:=A8 hU;refine wv (BZ Aa Aa hV) (wm Aa (Aw ?_));have hX:=BG hW hl;exact AA (AU (hp,(hb+1,hS),hR) ⟨hX,Y1 _⟩ (AT.c Aa (AT.c Aa (AT.c Aa (AT.c Aa AT.nil)))) (sC sN))
  ·have hY:=AL hm hg;refine BQ (AE ?_);have hZ:=CE hY hl hw;exact AE (B7 (AU (he,hf) hZ (AT.c Aa AT.nil) (sC sN)))
 ·rintro⟨hj,ho⟩ hk;refine Dr (l':=[(0,rv (.pointer (some ⟨ha,0,none⟩)))]) (H':=[.bld 131 5 ha ho hj]) Aa Aa ?_;replace hk:Ee hj=some r:=hk;unfold Ee at hk;refine B4 (AW (At (wm Aa ?_)));obtain⟨ga,gb⟩:=A8 hk;refine Co (rs:=[rv (.pointer (some ⟨ha,0,none⟩)),rI .u8 34]) (Hin:=[.bld 131 5 ha ho hj]) (Hr:=[]) HL Aa (Yi _) (Cm ha ho hj 34 ga g3) Aa ?_;rintro _ _ ⟨gc,rfl,rfl⟩;obtain⟨gg,gd,ge⟩:=Dq gb;rw[← gd];refine Aw ?_;obtain rfl:=A2 ge;exact Gh (RJ Tryz.results118) (sC sN) ⟨gc,Aa,Aa⟩
theorem R5 (F:Nat)(hp:Ah→(List Ab)→Bool→Ah→Ab→Option (Bool×Bool×Ah))(hq:(List Ab)→Bool→Ah→Ab→Option (Bool×Ah))(g6:(∀(hd:Nat) (he:Nat) (ha:Nat) (hb:Value) (hf:Nat) (key:Ah) (x:(List Ab)) (first:Bool) (l:Ah) (c:Ab) (r:Bool×Bool×Ah),hp key x first l c=some r→Fn Tryz.prog GE 121 [rS key,AQ 4 (List.map Ac x),rv (.pointer (some ⟨hd,0,none⟩)),rv (.pointer (some ⟨he,0,none⟩)),rv (.pointer (some ⟨hf,0,none⟩))] [.blk hd [rB first] 4,.blk he [rv (.pointer (some ⟨ha,0,none⟩))] 128,.bld 131 5 ha hb l,.blk hf (Ac c) 63] (λR H=>∃w3b:Value,R=rB r.1∧H=[.blk hd [rB r.2.1] 4,.blk he [rv (.pointer (some ⟨ha,0,none⟩))] 128,.bld 131 5 ha w3b r.2.2,.blk hf (Ac c) 63])))(hr:(∀(hd:Nat) (he:Nat) (ha:Nat) (hb:Value) (hf:Nat) (v:(List Ab)) (first:Bool) (l:Ah) (c:Ab) (r:Bool×Ah),hq v first l c=some r→Fn Tryz.prog GE 120 [AQ 4 (List.map Ac v),rv (.func (.func 121) #[] #[(.pointer (some ⟨hd,0,none⟩)),(.pointer (some ⟨he,0,none⟩)),(.pointer (some ⟨hf,0,none⟩))])] [.blk hd [rB first] 4,.blk he [rv (.pointer (some ⟨ha,0,none⟩))] 128,.bld 131 5 ha hb l,.blk hf (Ac c) 63] (λR H=>∃w1_1b:Value,R=rv (.tuple #[])∧H=[.blk hd [rB r.1] 4,.blk he [rv (.pointer (some ⟨ha,0,none⟩))] 128,.bld 131 5 ha w1_1b r.2,.blk hf (Ac c) 63])))(ha:Nat)(hb:Value)(l:Ah)(v:(List Ab))(r:Ah)(h:I1 F hp hq l v=some r):Fn Tryz.prog GE 94 [rv (.pointer (some ⟨ha,0,none⟩)),AQ 4 (List.map Ac v)] [.bld 131 5 ha hb l] (λR H=>∃w0b:Value,R=rv (.tuple #[])∧H=[.bld 131 5 ha w0b r]):=by
 refine enter (n:=52) Tryz.func94 Aa Tryz.ntmps94 Aa (λw Z=>?_);refine Be (l':=[(0,rv (.pointer (some ⟨ha,0,none⟩))),(1,AQ 4 (List.map Ac v))]) (H':=[.bld 131 5 ha hb l]) Aa Aa ?_;unfold I1 at h;refine Al (Wk Aa (BV Aa) Aa (λb1=>?_));refine By (wm Aa ?_);obtain⟨g2,h3⟩:=A8 h;refine wv (BE (enc:=Ac) (ys:=v) Cb C3 Aa Aa g2) (wv (E8 ME C3 Aa Aa Aa) (BR (cs:=[rI .i64 0,rI .i64 0,rS ([]:Ah),rI .i64 0]) HS Aa Aa (λb4=>?_)));refine AN (i:=0) C3 Aa Aa Aa (Bm.c Aa) Aa Aa (cs':=[rI .i64 ((Aj v 0).fKind),rI .i64 ((Aj v 0).fInt),rS ((Aj v 0).fStr),rI .i64 ((Aj v 0).fN)]) Aa (H':=[.blk b4 (Ac (Aj v 0)) 63,.blk b1 [rv (.pointer (some ⟨ha,0,none⟩))] 128,.bld 131 5 ha hb l]) Aa (By (wv (Ad Cc Aa HX Aa Aa) (wv (Au (i:=0) HY Aa Aa Aa) (Av (AY (Al (wv (Ca Aa Aa) (wa Aa (Av (Az (b:=decide (((Aj v 0).fKind)=1)) Aa (λc5=>?_) (λc5=>?_)))))))))))
 ·have h6:=AK c5 h3;refine At (wv (Au (i:=1) Ec Aa Aa Aa) ?_);obtain⟨g7,h8⟩:=A8 h6;refine Co (rs:=[rv (.pointer (some ⟨ha,0,none⟩)),rS ([110,117,108,108]:Ah)]) (Hin:=[.bld 131 5 ha hb l]) (Hr:=[.blk b4 (Ac (Aj v 0)) 63,.blk b1 [rv (.pointer (some ⟨ha,0,none⟩))] 128]) Tryz.call117 Aa ((Ai (i:=2) Aa).trans (Yh _ (Yi _))) (GM ha hb l ([110,117,108,108]:Ah) g7) Aa ?_;rintro _ _ ⟨v9,rfl,rfl⟩;obtain⟨g8,h0,h1⟩:=Dq h8;rw[← h0];refine Aw (AV ?_);obtain rfl:=A2 h1;exact Gh (RJ R2) (sC (sS (sS sN))) ⟨v9,Aa,Aa⟩
 ·have hs:=AL c5 h3;refine Al (wv (Ca Aa Aa) (wa Aa (Av (Az (b:=decide (((Aj v 0).fKind)=2)) Aa (λhk=>?_) (λhk=>?_)))))
  ·have h2:=AK hk hs;obtain⟨g16,h4⟩:=A8 h2;refine Iy (H1:=[.blk b4 (Ac (Aj v 0)) 63,.blk b1 [rv (.pointer (some ⟨ha,0,none⟩))] 128,.bld 131 5 ha hb l]) 6 [2,4] [⟨[],rv (.pointer (some ⟨ha,0,none⟩)),1⟩,⟨[],AQ 1 (List.map eS ([([102,97,108,115,101]:Ah),([116,114,117,101]:Ah)]:List Ah)),0⟩,⟨[],rv (.pointer (some ⟨b4,1,none⟩)),0⟩,⟨[2],rI .i64 ((Aj v 0).fInt),1⟩,⟨[1,3],OX [rS (Aj ([([102,97,108,115,101]:Ah),([116,114,117,101]:Ah)]:List Ah) ((Aj v 0).fInt))],0⟩,⟨[4],rS (Aj ([([102,97,108,115,101]:Ah),([116,114,117,101]:Ah)]:List Ah) ((Aj v 0).fInt)),0⟩] (rle [(7,_)]) [32,33,34,35,36,37,2,4] ?_ ?_
   ·refine of (Au (i:=1) Ec Aa Aa Aa) (CU Aa (λH=>GQ (ys:=([([102,97,108,115,101]:Ah),([116,114,117,101]:Ah)]:List Ah)) (enc:=eS) (css:=[[rS ([102,97,108,115,101]:Ah)],[rS ([116,114,117,101]:Ah)]]) (xs:=[.const (.string ⟨#[102,97,108,115,101]⟩),.const (.string ⟨#[116,114,117,101]⟩)]) DU CM W1 Aa Aa Aa ⟨G2.one Aa (Up.refl _),G2.one Aa (Up.refl _),trivial⟩ Aa GT Aa Aa) ?_);refine oq (Ad Cc Aa C4 Aa Aa) (of (Au (i:=0) D8 Aa Aa Aa) (oq (BE (enc:=eS) (ys:=([([102,97,108,115,101]:Ah),([116,114,117,101]:Ah)]:List Ah)) DU CM Aa Aa g16) (oq (Bv Dk Aa Aa) ?_)));exact Cn
   obtain⟨g18,h5⟩:=A8 h4;refine Co (rs:=[rv (.pointer (some ⟨ha,0,none⟩)),rS (Aj ([([102,97,108,115,101]:Ah),([116,114,117,101]:Ah)]:List Ah) ((Aj v 0).fInt))]) (Hin:=[.bld 131 5 ha hb l]) (Hr:=[.blk b4 (Ac (Aj v 0)) 63,.blk b1 [rv (.pointer (some ⟨ha,0,none⟩))] 128]) Tryz.call117 Aa ((Ai (i:=2) Aa).trans (Yh _ (Yi _))) (GM ha hb l (Aj ([([102,97,108,115,101]:Ah),([116,114,117,101]:Ah)]:List Ah) ((Aj v 0).fInt)) g18) Aa ?_;rintro _ _ ⟨v20,rfl,rfl⟩;obtain⟨g9,h7,h9⟩:=Dq h5;rw[← h7];refine Aw (AV ?_);obtain rfl:=A2 h9;exact Gh (RJ R2) (sC (sS (sS sN))) ⟨v20,Aa,Aa⟩
  ·have ht:=AL hk hs;refine Al (wv (Ca Aa Aa) (wa Aa (Av (Az (b:=decide (((Aj v 0).fKind)=3)) Aa (λhl=>?_) (λhl=>?_)))))
   ·have hA:=AK hl ht;obtain⟨hB,hC⟩:=A8 hA;refine Iy (H1:=[.blk b4 (Ac (Aj v 0)) 63,.blk b1 [rv (.pointer (some ⟨ha,0,none⟩))] 128,.bld 131 5 ha hb l]) 4 [2,4] [⟨[],rv (.pointer (some ⟨ha,0,none⟩)),1⟩,⟨[],rv (.pointer (some ⟨b4,1,none⟩)),0⟩,⟨[1],rI .i64 ((Aj v 0).fInt),1⟩,⟨[2],rS (Lib.itoa ((Aj v 0).fInt)),0⟩] (rle [(5,_)]) [41,42,43,44,2,4] ?_ ?_
    ·refine of (Au (i:=1) Ec Aa Aa Aa) (oq (Ad Cc Aa C4 Aa Aa) (of (Au (i:=0) D8 Aa Aa Aa) (CU Aa (λH=>JQ (rs:=[rI .i64 ((Aj v 0).fInt)]) (r:=rS (Lib.itoa ((Aj v 0).fInt))) Tryz.call60 Aa (Mw ((Aj v 0).fInt) hB) Aa) ?_)));exact Cn
    obtain⟨hD,hE⟩:=A8 hC;refine Co (rs:=[rv (.pointer (some ⟨ha,0,none⟩)),rS (Lib.itoa ((Aj v 0).fInt))]) (Hin:=[.bld 131 5 ha hb l]) (Hr:=[.blk b4 (Ac (Aj v 0)) 63,.blk b1 [rv (.pointer (some ⟨ha,0,none⟩))] 128]) Tryz.call117 Aa ((Ai (i:=2) Aa).trans (Yh _ (Yi _))) (GM ha hb l (Lib.itoa ((Aj v 0).fInt)) hD) Aa ?_;rintro _ _ ⟨hG,rfl,rfl⟩;obtain⟨gA,hH,hI⟩:=Dq hE;rw[← hH];refine Aw (AV ?_);obtain rfl:=A2 hI;exact Gh (RJ R2) (sC (sS (sS sN))) ⟨hG,Aa,Aa⟩
   ·have hu:=AL hl ht;refine Al (wv (Ca Aa Aa) (wa Aa (Av (Az (b:=decide (((Aj v 0).fKind)=4)) Aa (λhm=>?_) (λhm=>?_)))))
    ·have hJ:=AK hm hu;refine At (wv (Au (i:=1) Ec Aa Aa Aa) (wv (Ad Cc Aa CM Aa Aa) (wv (Au (i:=0) Dk Aa Aa Aa) ?_)));obtain⟨hK,hL,hN⟩:=AM hJ;refine EL (Hr:=[.blk b4 (Ac (Aj v 0)) 63,.blk b1 [rv (.pointer (some ⟨ha,0,none⟩))] 128]) Tryz.call118 (LM F ha hb l ((Aj v 0).fStr) hK hL) Aa ((Ai (i:=2) Aa).trans (Yh _ (Yi _))) Aa ?_;rintro _ _ ⟨v41,rfl,rfl⟩;refine Aw (AV ?_);obtain rfl:=A2 hN;exact Gh (RJ R2) (sC (sS (sS sN))) ⟨v41,Aa,Aa⟩
    ·have hw:=AL hm hu;refine Al (wv (r:=rS ([91,93]:Ah)) (Ae Aa) (Av (As (Al (wv (Ad Cc Aa HX Aa Aa) (wv (Au (i:=0) HY Aa Aa Aa) (wv (Ca Aa Aa) (Av (Az (b:=decide (((Aj v 0).fKind)=6)) Aa (λhn=>?_) (λhn=>?_))))))))))
     ·have hO:=AK hn hw;refine At (wv (r:=rS ([123,125]:Ah)) (Ae Aa) (Av (As ?_)));obtain⟨hP,hQ⟩:=A8 hO;refine Iy (H1:=[.blk b4 (Ac (Aj v 0)) 63,.blk b1 [rv (.pointer (some ⟨ha,0,none⟩))] 128,.bld 131 5 ha hb l]) 3 [1,2,4,5] [⟨[],rv (.pointer (some ⟨ha,0,none⟩)),1⟩,⟨[],rS ([123,125]:Ah),0⟩,⟨[1],rI .u8 (Br ([123,125]:Ah) 0),0⟩] (rle [(4,_)]) [15,16,17,1,2,4,5] ?_ ?_
      ·refine of (Au (i:=1) Ec Aa Aa Aa) (oq (Aq Aa) (oq (BA CC Aa Aa hP) ?_));exact Cn
      obtain⟨hR,hS⟩:=A8 hQ;obtain⟨hT,hU⟩:=A8 hS;refine Co (rs:=[rv (.pointer (some ⟨ha,0,none⟩)),rI .u8 (Br ([123,125]:Ah) 0)]) (Hin:=[.bld 131 5 ha hb l]) (Hr:=[.blk b4 (Ac (Aj v 0)) 63,.blk b1 [rv (.pointer (some ⟨ha,0,none⟩))] 128]) HL Aa ((Ai (i:=2) Aa).trans (Yh _ (Yi _))) (Cm ha hb l (Br ([123,125]:Ah) 0) hR hT) Aa ?_;rintro _ _ ⟨v51,rfl,rfl⟩;obtain⟨hx,hV,hW⟩:=Dq hU;rw[← hV];refine By (BR (cs:=[rB false]) Tryz.zeroValue4 Aa Aa (λhi=>?_));refine Bu (i:=0) Hx Aa Aa (BV Aa) Aa Aa (cs':=[rB true]) Aa (H':=[.blk hi [rB true] 4,.bld 131 5 ha v51 hx,.blk b4 (Ac (Aj v 0)) 63,.blk b1 [rv (.pointer (some ⟨ha,0,none⟩))] 128]) Aa (By (wm Aa (wv (r:=rv (.func (.func 121) #[] #[(.pointer (some ⟨hi,0,none⟩)),(.pointer (some ⟨b1,0,none⟩)),(.pointer (some ⟨b4,0,none⟩))])) (LZ Aa) ?_)));obtain⟨hg,hX,hY⟩:=AM hW;refine EL (Hr:=[]) Tryz.call120 (hr hi b1 ha v51 b4 v true hx (Aj v 0) hg hX) Aa ((Ai (i:=0) Aa).trans (Yh _ ((Ai (i:=2) Aa).trans (Yh _ (Yi _))))) Aa ?_;rintro _ _ ⟨ho,rfl,rfl⟩;refine Av ?_;obtain⟨hZ,ga⟩:=A8 hY;refine Iy (H1:=[.blk hi [rB hg.1] 4,.blk b1 [rv (.pointer (some ⟨ha,0,none⟩))] 128,.bld 131 5 ha ho hg.2,.blk b4 (Ac (Aj v 0)) 63]) 3 [2,5] [⟨[],rv (.pointer (some ⟨ha,0,none⟩)),1⟩,⟨[],rS ([123,125]:Ah),0⟩,⟨[1],rI .u8 (Br ([123,125]:Ah) 1),0⟩] (rle [(4,_)]) [22,23,24,2,5] ?_ ?_
      ·refine of (Au (i:=1) Ec Aa Aa Aa) (oq (Aq Aa) (oq (BA CC Aa Aa hZ) ?_));exact Cn
      obtain⟨gb,gc⟩:=A8 ga;obtain⟨gd,ge⟩:=A8 gc;refine Co (rs:=[rv (.pointer (some ⟨ha,0,none⟩)),rI .u8 (Br ([123,125]:Ah) 1)]) (Hin:=[.bld 131 5 ha ho hg.2]) (Hr:=[.blk hi [rB hg.1] 4,.blk b1 [rv (.pointer (some ⟨ha,0,none⟩))] 128,.blk b4 (Ac (Aj v 0)) 63]) HL Aa ((Ai (i:=2) Aa).trans (Yh _ (Yi _))) (Cm ha ho hg.2 (Br ([123,125]:Ah) 1) gb gd) Aa ?_;rintro _ _ ⟨gf,rfl,rfl⟩;obtain⟨gB,gg,gh⟩:=Dq ge;rw[← gg];refine Aw (AV ?_);obtain rfl:=A2 gh;exact Gh (RJ R2) (sC (sS (sS (sS sN)))) ⟨gf,Aa,Aa⟩
     ·have gi:=AL hn hw;refine A4 (AW (As ?_));obtain⟨gj,gl⟩:=A8 gi;refine Iy (H1:=[.blk b4 (Ac (Aj v 0)) 63,.blk b1 [rv (.pointer (some ⟨ha,0,none⟩))] 128,.bld 131 5 ha hb l]) 3 [1,2,4,5] [⟨[],rv (.pointer (some ⟨ha,0,none⟩)),1⟩,⟨[],rS ([91,93]:Ah),0⟩,⟨[1],rI .u8 (Br ([91,93]:Ah) 0),0⟩] (rle [(4,_)]) [15,16,17,1,2,4,5] ?_ ?_
      ·refine of (Au (i:=1) Ec Aa Aa Aa) (oq (Aq Aa) (oq (BA CC Aa Aa gj) ?_));exact Cn
      obtain⟨gm,gp⟩:=A8 gl;obtain⟨gq,gr⟩:=A8 gp;refine Co (rs:=[rv (.pointer (some ⟨ha,0,none⟩)),rI .u8 (Br ([91,93]:Ah) 0)]) (Hin:=[.bld 131 5 ha hb l]) (Hr:=[.blk b4 (Ac (Aj v 0)) 63,.blk b1 [rv (.pointer (some ⟨ha,0,none⟩))] 128]) HL Aa ((Ai (i:=2) Aa).trans (Yh _ (Yi _))) (Cm ha hb l (Br ([91,93]:Ah) 0) gm gq) Aa ?_;rintro _ _ ⟨hy,rfl,rfl⟩;obtain⟨hz,gs,gt⟩:=Dq gr;rw[← gs];refine By (BR (cs:=[rB false]) Tryz.zeroValue4 Aa Aa (λhj=>?_));refine Bu (i:=0) Hx Aa Aa (BV Aa) Aa Aa (cs':=[rB true]) Aa (H':=[.blk hj [rB true] 4,.bld 131 5 ha hy hz,.blk b4 (Ac (Aj v 0)) 63,.blk b1 [rv (.pointer (some ⟨ha,0,none⟩))] 128]) Aa (By (wm Aa (wv (r:=rv (.func (.func 121) #[] #[(.pointer (some ⟨hj,0,none⟩)),(.pointer (some ⟨b1,0,none⟩)),(.pointer (some ⟨b4,0,none⟩))])) (LZ Aa) ?_)));obtain⟨hh,gu,gv⟩:=AM gt;refine EL (Hr:=[]) Tryz.call120 (hr hj b1 ha hy b4 v true hz (Aj v 0) hh gu) Aa ((Ai (i:=0) Aa).trans (Yh _ ((Ai (i:=2) Aa).trans (Yh _ (Yi _))))) Aa ?_;rintro _ _ ⟨v85,rfl,rfl⟩;refine Av ?_;obtain⟨gw,gx⟩:=A8 gv;refine Iy (H1:=[.blk hj [rB hh.1] 4,.blk b1 [rv (.pointer (some ⟨ha,0,none⟩))] 128,.bld 131 5 ha v85 hh.2,.blk b4 (Ac (Aj v 0)) 63]) 3 [2,5] [⟨[],rv (.pointer (some ⟨ha,0,none⟩)),1⟩,⟨[],rS ([91,93]:Ah),0⟩,⟨[1],rI .u8 (Br ([91,93]:Ah) 1),0⟩] (rle [(4,_)]) [22,23,24,2,5] ?_ ?_
      ·refine of (Au (i:=1) Ec Aa Aa Aa) (oq (Aq Aa) (oq (BA CC Aa Aa gw) ?_));exact Cn
      obtain⟨gy,gz⟩:=A8 gx;obtain⟨g0,g1⟩:=A8 gz;refine Co (rs:=[rv (.pointer (some ⟨ha,0,none⟩)),rI .u8 (Br ([91,93]:Ah) 1)]) (Hin:=[.bld 131 5 ha v85 hh.2]) (Hr:=[.blk hj [rB hh.1] 4,.blk b1 [rv (.pointer (some ⟨ha,0,none⟩))] 128,.blk b4 (Ac (Aj v 0)) 63]) HL Aa ((Ai (i:=2) Aa).trans (Yh _ (Yi _))) (Cm ha v85 hh.2 (Br ([91,93]:Ah) 1) gy g0) Aa ?_;rintro _ _ ⟨g3,rfl,rfl⟩;obtain⟨gC,g4,g5⟩:=Dq g1;rw[← g4];refine Aw (AV ?_);obtain rfl:=A2 g5;exact Gh (RJ R2) (sC (sS (sS (sS sN)))) ⟨g3,Aa,Aa⟩
theorem PR (F:Nat)(hl:Ah→(List Ab)→Option (Ah))(hg:(∀(ha:Nat) (hf:Value) (l:Ah) (v:(List Ab)) (r:Ah),hl l v=some r→Fn Tryz.prog GE 94 [rv (.pointer (some ⟨ha,0,none⟩)),AQ 4 (List.map Ac v)] [.bld 131 5 ha hf l] (λR H=>∃w0b:Value,R=rv (.tuple #[])∧H=[.bld 131 5 ha w0b r])))(hb:Nat)(hd:Nat)(ha:Nat)(hf:Value)(he:Nat)(key:Ah)(x:(List Ab))(first:Bool)(l:Ah)(c:Ab)(r:Bool×Bool×Ah)(h:J4 F hl key x first l c=some r):Fn Tryz.prog GE 121 [rS key,AQ 4 (List.map Ac x),rv (.pointer (some ⟨hb,0,none⟩)),rv (.pointer (some ⟨hd,0,none⟩)),rv (.pointer (some ⟨he,0,none⟩))] [.blk hb [rB first] 4,.blk hd [rv (.pointer (some ⟨ha,0,none⟩))] 128,.bld 131 5 ha hf l,.blk he (Ac c) 63] (λR H=>∃w3b:Value,R=rB r.1∧H=[.blk hb [rB r.2.1] 4,.blk hd [rv (.pointer (some ⟨ha,0,none⟩))] 128,.bld 131 5 ha w3b r.2.2,.blk he (Ac c) 63]):=by
 refine enter (n:=23) Tryz.func121 Aa Tryz.ntmps121 Aa (λw Z=>?_);refine Be (l':=[(0,rS key),(1,AQ 4 (List.map Ac x)),(2,rv (.pointer (some ⟨hb,0,none⟩))),(3,rv (.pointer (some ⟨hd,0,none⟩))),(4,rv (.pointer (some ⟨he,0,none⟩)))]) (H':=[.blk hb [rB first] 4,.blk hd [rv (.pointer (some ⟨ha,0,none⟩))] 128,.bld 131 5 ha hf l,.blk he (Ac c) 63]) Aa Aa ?_;unfold J4 at h;refine Al (wv (r:=rB false) (Ae Aa) (Av (As (Al (wv (Au (i:=0) SH Aa Aa Aa) (wv (BT Aa) (Av (Az (b:=!first) Aa (λc1=>?_) (λc1=>?_)))))))))
 ·have h2:=AK c1 h;refine At (wv (Au (i:=1) Ec Aa Aa Aa) ?_);obtain⟨g3,h4⟩:=A8 h2;obtain⟨g5,h6⟩:=A8 h4;refine Co (rs:=[rv (.pointer (some ⟨ha,0,none⟩)),rI .u8 44]) (Hin:=[.bld 131 5 ha hf l]) (Hr:=[.blk hb [rB first] 4,.blk hd [rv (.pointer (some ⟨ha,0,none⟩))] 128,.blk he (Ac c) 63]) HL Aa ((Ai (i:=2) Aa).trans (Yh _ (Yi _))) (Cm ha hf l 44 g3 g5) Aa ?_;rintro _ _ ⟨v7,rfl,rfl⟩;obtain⟨r8,hu,h9⟩:=Dq h6;rw[← hu];refine By (Bu (i:=1) Hx Aa Aa (BV Aa) Aa Aa (cs':=[rB false]) Aa (H':=[.bld 131 5 ha v7 r8,.blk hb [rB false] 4,.blk hd [rv (.pointer (some ⟨ha,0,none⟩))] 128,.blk he (Ac c) 63]) Aa (Av (As (Al (wv (Ad Cc Aa HX Aa Aa) (wv (Au (i:=3) HY Aa Aa Aa) (wv (Ca Aa Aa) (Av (Az (b:=decide (c.fKind=6)) Aa (λhh=>?_) (λhh=>?_))))))))))
  ·have hw:=AK hh h9;refine Al (wv (Au (i:=2) Ec Aa Aa Aa) (wm Aa ?_));obtain⟨hi,hx,hy⟩:=AM hw;refine EL (Hr:=[.blk hb [rB false] 4,.blk hd [rv (.pointer (some ⟨ha,0,none⟩))] 128,.blk he (Ac c) 63]) Tryz.call118 (LM F ha v7 r8 key hi hx) Aa (Yi _) Aa ?_;rintro _ _ ⟨hm,rfl,rfl⟩;refine Av (At (wv (Au (i:=2) Ec Aa Aa Aa) ?_));obtain⟨g17,hz⟩:=A8 hy;obtain⟨g19,h0⟩:=A8 hz;refine Co (rs:=[rv (.pointer (some ⟨ha,0,none⟩)),rI .u8 58]) (Hin:=[.bld 131 5 ha hm hi]) (Hr:=[.blk hb [rB false] 4,.blk hd [rv (.pointer (some ⟨ha,0,none⟩))] 128,.blk he (Ac c) 63]) HL Aa (Yi _) (Cm ha hm hi 58 g17 g19) Aa ?_;rintro _ _ ⟨v21,rfl,rfl⟩;obtain⟨h1,h3,h5⟩:=Dq h0;rw[← h3];refine By (wv (Au (i:=2) Ec Aa Aa Aa) (wm Aa ?_));obtain⟨hn,h7,h8⟩:=AM h5;refine EL (Hr:=[.blk hb [rB false] 4,.blk hd [rv (.pointer (some ⟨ha,0,none⟩))] 128,.blk he (Ac c) 63]) SP (hg ha v21 h1 x hn h7) Aa (Yi _) Aa ?_;rintro _ _ ⟨v28,rfl,rfl⟩;refine By (wv (r:=rB true) (Ae Aa) (Av (A1 (BN (H2:=[.blk hb [rB false] 4,.blk hd [rv (.pointer (some ⟨ha,0,none⟩))] 128,.bld 131 5 ha v28 hn,.blk he (Ac c) 63]) ((Ai (i:=1) Aa).trans (Yh _ ((Ai (i:=1) Aa).trans (Yh _ (Yi _))))) ?_))));obtain rfl:=A2 h8;exact A0 (Ce QE (AO Aa)) (sC (sC (sC (sC sN)))) ⟨v28,Aa,Aa⟩
  ·have hA:=AL hh h9;refine A4 (AW (Al (wv (Au (i:=2) Ec Aa Aa Aa) (wm Aa ?_))));obtain⟨ho,hB,hC⟩:=AM hA;refine EL (Hr:=[.blk hb [rB false] 4,.blk hd [rv (.pointer (some ⟨ha,0,none⟩))] 128,.blk he (Ac c) 63]) SP (hg ha v7 r8 x ho hB) Aa (Yi _) Aa ?_;rintro _ _ ⟨v33,rfl,rfl⟩;refine By (wv (r:=rB true) (Ae Aa) (Av (A1 (BN (H2:=[.blk hb [rB false] 4,.blk hd [rv (.pointer (some ⟨ha,0,none⟩))] 128,.bld 131 5 ha v33 ho,.blk he (Ac c) 63]) ((Ai (i:=1) Aa).trans (Yh _ ((Ai (i:=1) Aa).trans (Yh _ (Yi _))))) ?_))));obtain rfl:=A2 hC;exact A0 (Ce QE (AO Aa)) (sC (sC (sC (sC sN)))) ⟨v33,Aa,Aa⟩
 ·have hp:=AL c1 h;refine A4 (AW (Al (Bu (i:=0) Hx Aa Aa (BV Aa) Aa Aa (cs':=[rB false]) Aa (H':=[.blk hb [rB false] 4,.blk hd [rv (.pointer (some ⟨ha,0,none⟩))] 128,.bld 131 5 ha hf l,.blk he (Ac c) 63]) Aa (Av (As (Al (wv (Ad Cc Aa HX Aa Aa) (wv (Au (i:=3) HY Aa Aa Aa) (wv (Ca Aa Aa) (Av (Az (b:=decide (c.fKind=6)) Aa (λhj=>?_) (λhj=>?_))))))))))))
  ·have hD:=AK hj hp;refine Al (wv (Au (i:=1) Ec Aa Aa Aa) (wm Aa ?_));obtain⟨hk,hE,hG⟩:=AM hD;refine EL (Hr:=[.blk hb [rB false] 4,.blk hd [rv (.pointer (some ⟨ha,0,none⟩))] 128,.blk he (Ac c) 63]) Tryz.call118 (LM F ha hf l key hk hE) Aa ((Ai (i:=2) Aa).trans (Yh _ (Yi _))) Aa ?_;rintro _ _ ⟨hq,rfl,rfl⟩;refine Av (At (wv (Au (i:=2) Ec Aa Aa Aa) ?_));obtain⟨hH,hI⟩:=A8 hG;obtain⟨hJ,hK⟩:=A8 hI;refine Co (rs:=[rv (.pointer (some ⟨ha,0,none⟩)),rI .u8 58]) (Hin:=[.bld 131 5 ha hq hk]) (Hr:=[.blk hb [rB false] 4,.blk hd [rv (.pointer (some ⟨ha,0,none⟩))] 128,.blk he (Ac c) 63]) HL Aa (Yi _) (Cm ha hq hk 58 hH hJ) Aa ?_;rintro _ _ ⟨hL,rfl,rfl⟩;obtain⟨hN,hO,hP⟩:=Dq hK;rw[← hO];refine By (wv (Au (i:=2) Ec Aa Aa Aa) (wm Aa ?_));obtain⟨hr,hQ,hR⟩:=AM hP;refine EL (Hr:=[.blk hb [rB false] 4,.blk hd [rv (.pointer (some ⟨ha,0,none⟩))] 128,.blk he (Ac c) 63]) SP (hg ha hL hN x hr hQ) Aa (Yi _) Aa ?_;rintro _ _ ⟨hs,rfl,rfl⟩;refine By (wv (r:=rB true) (Ae Aa) (Av (A1 (BN (H2:=[.blk hb [rB false] 4,.blk hd [rv (.pointer (some ⟨ha,0,none⟩))] 128,.bld 131 5 ha hs hr,.blk he (Ac c) 63]) ((Ai (i:=1) Aa).trans (Yh _ ((Ai (i:=1) Aa).trans (Yh _ (Yi _))))) ?_))));obtain rfl:=A2 hR;exact A0 (Ce QE (AO Aa)) (sC (sC (sC (sC sN)))) ⟨hs,Aa,Aa⟩
  ·have hS:=AL hj hp;refine A4 (AW (Al (wv (Au (i:=1) Ec Aa Aa Aa) (wm Aa ?_))));obtain⟨ht,hT,hU⟩:=AM hS;refine EL (Hr:=[.blk hb [rB false] 4,.blk hd [rv (.pointer (some ⟨ha,0,none⟩))] 128,.blk he (Ac c) 63]) SP (hg ha hf l x ht hT) Aa ((Ai (i:=2) Aa).trans (Yh _ (Yi _))) Aa ?_;rintro _ _ ⟨v57,rfl,rfl⟩;refine By (wv (r:=rB true) (Ae Aa) (Av (A1 (BN (H2:=[.blk hb [rB false] 4,.blk hd [rv (.pointer (some ⟨ha,0,none⟩))] 128,.bld 131 5 ha v57 ht,.blk he (Ac c) 63]) ((Ai (i:=1) Aa).trans (Yh _ ((Ai (i:=1) Aa).trans (Yh _ (Yi _))))) ?_))));obtain rfl:=A2 hU;exact A0 (Ce QE (AO Aa)) (sC (sC (sC (sC sN)))) ⟨v57,Aa,Aa⟩
theorem PQ (F:Nat)(hp:Ah→(List Ab)→Bool→Ah→Ab→Option (Bool×Bool×Ah))(h0:(∀(hd:Nat) (he:Nat) (ha:Nat) (hl:Value) (hf:Nat) (key:Ah) (x:(List Ab)) (first:Bool) (l:Ah) (c:Ab) (r:Bool×Bool×Ah),hp key x first l c=some r→Fn Tryz.prog GE 121 [rS key,AQ 4 (List.map Ac x),rv (.pointer (some ⟨hd,0,none⟩)),rv (.pointer (some ⟨he,0,none⟩)),rv (.pointer (some ⟨hf,0,none⟩))] [.blk hd [rB first] 4,.blk he [rv (.pointer (some ⟨ha,0,none⟩))] 128,.bld 131 5 ha hl l,.blk hf (Ac c) 63] (λR H=>∃w3b:Value,R=rB r.1∧H=[.blk hd [rB r.2.1] 4,.blk he [rv (.pointer (some ⟨ha,0,none⟩))] 128,.bld 131 5 ha w3b r.2.2,.blk hf (Ac c) 63])))(hd:Nat)(he:Nat)(ha:Nat)(hl:Value)(hf:Nat)(v:(List Ab))(first:Bool)(l:Ah)(c:Ab)(r:Bool×Ah)(h:Ha F hp v first l c=some r):Fn Tryz.prog GE 120 [AQ 4 (List.map Ac v),rv (.func (.func 121) #[] #[(.pointer (some ⟨hd,0,none⟩)),(.pointer (some ⟨he,0,none⟩)),(.pointer (some ⟨hf,0,none⟩))])] [.blk hd [rB first] 4,.blk he [rv (.pointer (some ⟨ha,0,none⟩))] 128,.bld 131 5 ha hl l,.blk hf (Ac c) 63] (λR H=>∃w1_1b:Value,R=rv (.tuple #[])∧H=[.blk hd [rB r.1] 4,.blk he [rv (.pointer (some ⟨ha,0,none⟩))] 128,.bld 131 5 ha w1_1b r.2,.blk hf (Ac c) 63]):=by
 refine enter (n:=52) Tryz.func120 Aa Tryz.ntmps120 Aa (λw Z=>?_);refine Be (l':=[(0,AQ 4 (List.map Ac v)),(1,rv (.func (.func 121) #[] #[(.pointer (some ⟨hd,0,none⟩)),(.pointer (some ⟨he,0,none⟩)),(.pointer (some ⟨hf,0,none⟩))]))]) (H':=[.blk hd [rB first] 4,.blk he [rv (.pointer (some ⟨ha,0,none⟩))] 128,.bld 131 5 ha hl l,.blk hf (Ac c) 63]) Aa Aa ?_;unfold Ha at h;refine Al (wv (r:=rI .i64 1) (Ae Aa) (By (wm Aa ?_)));obtain⟨g1,h2⟩:=A8 h;refine wv (BE (enc:=Ac) (ys:=v) Cb C3 Aa Aa g1) (wv (BU Cc Aa C4 Aa Aa) (wv (Bv D8 Aa Aa) (wv (r:=rI .i64 0) (Aq Aa) (Av (AY ?_)))));obtain⟨hD,hE,ht⟩:=AM h2;refine BJ (S:=Nat×(Int×Int×Bool×Ah)×(Value)) (V:=(Bool×Ah)×(Value)) 0 (λσ=>Ch (λσ=>Da F v c hp σ.1 σ.2.1 σ.2.2.1 σ.2.2.2) σ.1 σ.2.1=some hD) (λσ=>[(0,AQ 4 (List.map Ac v)),(1,rv (.func (.func 121) #[] #[(.pointer (some ⟨hd,0,none⟩)),(.pointer (some ⟨he,0,none⟩)),(.pointer (some ⟨hf,0,none⟩))])),(4,rI .i64 σ.2.1.1),(12,rI .i64 ((Aj v 0).fN)),(13,rI .i64 σ.2.1.2.1)]) (λσ=>[.blk hd [rB σ.2.1.2.2.1] 4,.blk he [rv (.pointer (some ⟨ha,0,none⟩))] 128,.bld 131 5 ha σ.2.2 σ.2.1.2.2.2,.blk hf (Ac c) 63]) (λσ=>σ.1) (F,(1,0,first,l),hl) hE (AT.c5 Aa Aa Aa Aa Aa AT.nil) (sC (sC (sC (sC sN)))) (λσ=>Gj σ.1.1 σ.1.2=some r) (λσ=>[]) (λσ=>[.blk hd [rB σ.1.1] 4,.blk he [rv (.pointer (some ⟨ha,0,none⟩))] 128,.bld 131 5 ha σ.2 σ.1.2,.blk hf (Ac c) 63]) ?_ ?_
 ·rintro⟨g0,⟨hb,hm,hi,hj⟩,hk⟩ hG;refine Be (l':=[(0,AQ 4 (List.map Ac v)),(1,rv (.func (.func 121) #[] #[(.pointer (some ⟨hd,0,none⟩)),(.pointer (some ⟨he,0,none⟩)),(.pointer (some ⟨hf,0,none⟩))])),(4,rI .i64 hb),(12,rI .i64 ((Aj v 0).fN)),(13,rI .i64 hm)]) (H':=[.blk hd [rB hi] 4,.blk he [rv (.pointer (some ⟨ha,0,none⟩))] 128,.bld 131 5 ha hk hj,.blk hf (Ac c) 63]) Aa Aa ?_;obtain⟨h1,rfl,hH,hn,ho⟩:=Dh hG;replace hn:Da F v c hp hb hm hi hj=some hH:=hn;unfold Da at hn;refine Al (wv (Dn Aa Aa) (Av (As (Az (b:=decide (hm<((Aj v 0).fN))) Aa (λc175=>?_) (λc175=>?_)))))
  ·have h3:=AK c175 hn;refine A4 (AW (As (AY (Al (wv (r:=rS ([]:Ah)) (Ae Aa) (Av (As (Al (wm Aa (wv (BE (enc:=Ac) (ys:=v) Cb C3 Aa Aa g1) (wv (BU Cc Aa HX Aa Aa) (wv (Bv HY Aa Aa) (wv (Ca Aa Aa) (Av (Az (b:=decide (((Aj v 0).fKind)=6)) Aa (λhu=>?_) (λhu=>?_))))))))))))))))
   ·have hI:=AK hu h3;refine Al (wm Aa (wm Aa ?_));obtain⟨hJ,hK⟩:=A8 hI;refine wv (BE (enc:=Ac) (ys:=v) Cb C3 Aa Aa hJ) (wv (BU Cc Aa CM Aa Aa) (wv (Bv Dk Aa Aa) (wa Aa (Av (At (wm Aa ?_))))));obtain⟨hL,hN⟩:=A8 hK;refine wv (BZ Aa Aa hL) (wa Aa (By (wm Aa (wm Aa ?_))));obtain⟨hO,hP⟩:=A8 hN;refine wv (r:=AQ 4 (List.map Ac (List.drop (Int.toNat (hb+1)) v))) (Jn Cb C3 Aa Aa hO) ?_;obtain⟨hg,hQ,hR⟩:=AM hP;refine D9 Tryz.call74 (NN F (List.drop (Int.toNat (hb+1)) v) hg hQ) Aa (wm Aa (wv (AB Aa Aa) (wv (AB Aa Aa) (wv (AB Aa Aa) (BR (cs:=[rI .i64 0,rI .i64 0,rB false,rB false]) O2 Aa Aa (λh4=>?_))))));refine wa Aa (AN (i:=0) Ez Aa Aa Aa (Bm.c Aa) Aa Aa (cs':=[rI .i64 hg.2.1.fDepth,rI .i64 hg.2.1.fBytes,rB hg.2.1.fOutside,rB hg.2.1.fLong]) Aa (H':=[.blk h4 (AR hg.2.1) 119,.blk hd [rB hi] 4,.blk he [rv (.pointer (some ⟨ha,0,none⟩))] 128,.bld 131 5 ha hk hj,.blk hf (Ac c) 63]) Aa (wa Aa (Av (As (Al (wm Aa (wm Aa (wm Aa (wm Aa (wm Aa (wm Aa ?_)))))))))));obtain⟨hw,hS⟩:=A8 hR;refine wv (BZ Aa Aa hw) (wm Aa (wm Aa (wv (BZ Aa Aa hw) ?_)));obtain⟨hT,hU⟩:=A8 hS;obtain⟨hV,hW⟩:=A8 hU;refine wv (r:=AQ 4 (List.map Ac (List.take (Int.toNat ((hb+1)+hg.1)-Int.toNat (hb+1)) (List.drop (Int.toNat (hb+1)) v)))) (LX Cb C3 Aa Aa Aa Aa hT hV) ?_;obtain⟨hq,hX,h5⟩:=AM hW;refine NL (rs:=[rS ((Aj v hb).fStr),AQ 4 (List.map Ac (List.take (Int.toNat ((hb+1)+hg.1)-Int.toNat (hb+1)) (List.drop (Int.toNat (hb+1)) v)))]) (Hin:=[.blk hd [rB hi] 4,.blk he [rv (.pointer (some ⟨ha,0,none⟩))] 128,.bld 131 5 ha hk hj,.blk hf (Ac c) 63]) (Hr:=[.blk h4 (AR hg.2.1) 119]) Tryz.call121 Aa Aa ((Ai (i:=1) Aa).trans (Yh _ ((Ai (i:=1) Aa).trans (Yh _ ((Ai (i:=1) Aa).trans (Yh _ ((Ai (i:=1) Aa).trans (Yh _ (Yi _))))))))) (h0 hd he ha hk hf ((Aj v hb).fStr) (List.take (Int.toNat ((hb+1)+hg.1)-Int.toNat (hb+1)) (List.drop (Int.toNat (hb+1)) v)) hi hj c hq hX) Aa ?_;rintro _ _ ⟨h6,rfl,rfl⟩;refine wv (BT Aa) (Av (Az (b:=!hq.1) Aa (λhx=>?_) (λhx=>?_)))
    ·have hY:=AK hx h5;refine A1 (Af (AC (Af (Af (Bq ?_)))));have hZ:=BF hY ho ht;refine AC ?_;obtain rfl:=A2 hZ;exact A0 (RJ Tryz.results120) (sC (sC (sC (sC (sS sN))))) ⟨h6,Aa,Aa⟩
    ·have ga:=AL hx h5;refine A4 (AW (At (wm Aa (wm Aa (wv (BZ Aa Aa hw) (wa Aa (Aw (AV (AW (At ?_))))))))));obtain⟨gb,gc⟩:=A8 ga;refine wv (BZ Aa Aa gb) (wm Aa (Aw ?_));have gd:=BG gc ho;exact AA (AU (h1,((hb+1)+hg.1,hm+1,hq.2.1,hq.2.2),h6) ⟨gd,Y1 _⟩ (AT.c5 Aa Aa Aa Aa Aa AT.nil) (sC (sC (sC (sC (sS sN))))))
   ·have ge:=AL hu h3;refine A4 (AW (Al (wm Aa (wm Aa ?_))));obtain⟨gf,gg⟩:=A8 ge;refine wv (r:=AQ 4 (List.map Ac (List.drop (Int.toNat hb) v))) (Jn Cb C3 Aa Aa gf) ?_;obtain⟨hh,gh,gi⟩:=AM gg;refine D9 Tryz.call74 (NN F (List.drop (Int.toNat hb) v) hh gh) Aa (wm Aa (wv (AB Aa Aa) (wv (AB Aa Aa) (wv (AB Aa Aa) (BR (cs:=[rI .i64 0,rI .i64 0,rB false,rB false]) O2 Aa Aa (λh7=>?_))))));refine wa Aa (AN (i:=0) Ez Aa Aa Aa (Bm.c Aa) Aa Aa (cs':=[rI .i64 hh.2.1.fDepth,rI .i64 hh.2.1.fBytes,rB hh.2.1.fOutside,rB hh.2.1.fLong]) Aa (H':=[.blk h7 (AR hh.2.1) 119,.blk hd [rB hi] 4,.blk he [rv (.pointer (some ⟨ha,0,none⟩))] 128,.bld 131 5 ha hk hj,.blk hf (Ac c) 63]) Aa (wa Aa (Av (As (Al (wm Aa (wm Aa (wm Aa (wm Aa (wm Aa (wm Aa ?_)))))))))));obtain⟨hy,gj⟩:=A8 gi;refine wv (BZ Aa Aa hy) (wm Aa (wm Aa (wv (BZ Aa Aa hy) ?_)));obtain⟨gl,gm⟩:=A8 gj;obtain⟨gp,gq⟩:=A8 gm;refine wv (r:=AQ 4 (List.map Ac (List.take (Int.toNat (hb+hh.1)-Int.toNat hb) (List.drop (Int.toNat hb) v)))) (LX Cb C3 Aa Aa Aa Aa gl gp) ?_;obtain⟨hr,gr,h8⟩:=AM gq;refine NL (rs:=[rS ([]:Ah),AQ 4 (List.map Ac (List.take (Int.toNat (hb+hh.1)-Int.toNat hb) (List.drop (Int.toNat hb) v)))]) (Hin:=[.blk hd [rB hi] 4,.blk he [rv (.pointer (some ⟨ha,0,none⟩))] 128,.bld 131 5 ha hk hj,.blk hf (Ac c) 63]) (Hr:=[.blk h7 (AR hh.2.1) 119]) Tryz.call121 Aa Aa ((Ai (i:=1) Aa).trans (Yh _ ((Ai (i:=1) Aa).trans (Yh _ ((Ai (i:=1) Aa).trans (Yh _ ((Ai (i:=1) Aa).trans (Yh _ (Yi _))))))))) (h0 hd he ha hk hf ([]:Ah) (List.take (Int.toNat (hb+hh.1)-Int.toNat hb) (List.drop (Int.toNat hb) v)) hi hj c hr gr) Aa ?_;rintro _ _ ⟨h9,rfl,rfl⟩;refine wv (BT Aa) (Av (Az (b:=!hr.1) Aa (λhz=>?_) (λhz=>?_)))
    ·have gs:=AK hz h8;refine A1 (Af (AC (Af (Af (Bq ?_)))));have gt:=BF gs ho ht;refine AC ?_;obtain rfl:=A2 gt;exact A0 (RJ Tryz.results120) (sC (sC (sC (sC (sS sN))))) ⟨h9,Aa,Aa⟩
    ·have gu:=AL hz h8;refine A4 (AW (At (wm Aa (wm Aa (wv (BZ Aa Aa hy) (wa Aa (Aw (AV (AW (At ?_))))))))));obtain⟨gv,gw⟩:=A8 gu;refine wv (BZ Aa Aa gv) (wm Aa (Aw ?_));have gx:=BG gw ho;exact AA (AU (h1,(hb+hh.1,hm+1,hr.2.1,hr.2.2),h9) ⟨gx,Y1 _⟩ (AT.c5 Aa Aa Aa Aa Aa AT.nil) (sC (sC (sC (sC (sS sN))))))
  ·have gy:=AL c175 hn;refine BQ (AE ?_);have gz:=CE gy ho ht;exact AE (B7 (AU ((hi,hj),hk) gz AT.nil (sC (sC (sC (sC sN))))))
 ·rintro⟨⟨hA,hB⟩,hC⟩ hs;refine Dr (l':=[]) (H':=[.blk hd [rB hA] 4,.blk he [rv (.pointer (some ⟨ha,0,none⟩))] 128,.bld 131 5 ha hC hB,.blk hf (Ac c) 63]) Aa Aa ?_;replace hs:Gj hA hB=some r:=hs;unfold Gj at hs;refine B4 ?_;obtain rfl:=A2 hs;exact Gh (RJ Tryz.results120) (sC (sC (sC (sC sN)))) ⟨hC,Aa,Aa⟩
theorem Gi:∀F:Nat,(∀(ha:Nat) (hb:Value) (l:Ah) (v:(List Ab)) (r:Ah),E4 F l v=some r→Fn Tryz.prog GE 94 [rv (.pointer (some ⟨ha,0,none⟩)),AQ 4 (List.map Ac v)] [.bld 131 5 ha hb l] (λR H=>∃w0b:Value,R=rv (.tuple #[])∧H=[.bld 131 5 ha w0b r]))∧(∀(hd:Nat) (he:Nat) (ha:Nat) (hb:Value) (hf:Nat) (key:Ah) (x:(List Ab)) (first:Bool) (l:Ah) (c:Ab) (r:Bool×Bool×Ah),DS F key x first l c=some r→Fn Tryz.prog GE 121 [rS key,AQ 4 (List.map Ac x),rv (.pointer (some ⟨hd,0,none⟩)),rv (.pointer (some ⟨he,0,none⟩)),rv (.pointer (some ⟨hf,0,none⟩))] [.blk hd [rB first] 4,.blk he [rv (.pointer (some ⟨ha,0,none⟩))] 128,.bld 131 5 ha hb l,.blk hf (Ac c) 63] (λR H=>∃w3b:Value,R=rB r.1∧H=[.blk hd [rB r.2.1] 4,.blk he [rv (.pointer (some ⟨ha,0,none⟩))] 128,.bld 131 5 ha w3b r.2.2,.blk hf (Ac c) 63]))∧(∀(hd:Nat) (he:Nat) (ha:Nat) (hb:Value) (hf:Nat) (v:(List Ab)) (first:Bool) (l:Ah) (c:Ab) (r:Bool×Ah),ES F v first l c=some r→Fn Tryz.prog GE 120 [AQ 4 (List.map Ac v),rv (.func (.func 121) #[] #[(.pointer (some ⟨hd,0,none⟩)),(.pointer (some ⟨he,0,none⟩)),(.pointer (some ⟨hf,0,none⟩))])] [.blk hd [rB first] 4,.blk he [rv (.pointer (some ⟨ha,0,none⟩))] 128,.bld 131 5 ha hb l,.blk hf (Ac c) 63] (λR H=>∃w1_1b:Value,R=rv (.tuple #[])∧H=[.blk hd [rB r.1] 4,.blk he [rv (.pointer (some ⟨ha,0,none⟩))] 128,.bld 131 5 ha w1_1b r.2,.blk hf (Ac c) 63]))
  | 0=>⟨(λ_ _ _ _ _ h=>by simp[E4] at h),(λ_ _ _ _ _ _ _ _ _ _ _ h=>by simp[DS] at h),(λ_ _ _ _ _ _ _ _ _ _ h=>by simp[ES] at h)⟩
  | nn+1=>⟨(λha hb l v r h=>R5 nn (DS nn) (ES nn) (Gi nn).2.1 (Gi nn).2.2 ha hb l v r (by rw[E4] at h;exact h)),(λhd he ha hb hf key x first l c r h=>PR nn (E4 nn) (Gi nn).1 hd he ha hb hf key x first l c r (by rw[DS] at h;exact h)),(λhd he ha hb hf v first l c r h=>PQ nn (DS nn) (Gi nn).2.1 hd he ha hb hf v first l c r (by rw[ES] at h;exact h))⟩
theorem Ta (F:Nat)(ha:Nat)(hb:Value)(l:Ah)(v:(List Ab))(r:Ah)(h:E4 F l v=some r):Fn Tryz.prog GE 94 [rv (.pointer (some ⟨ha,0,none⟩)),AQ 4 (List.map Ac v)] [.bld 131 5 ha hb l] (λR H=>∃w0b:Value,R=rv (.tuple #[])∧H=[.bld 131 5 ha w0b r]):=(Gi F).1 ha hb l v r h
theorem RA (F:Nat)(v:(List Ab))(r:Ah×Int)(h:J8 F v=some r):Fn Tryz.prog GE 61 [AQ 4 (List.map Ac v)] [] (λR H=>R=C0 [rS r.1,rI .i64 r.2]∧H=[]):=by
 refine enter (n:=14) Tryz.func61 Aa Tryz.ntmps61 Aa (λw Z=>?_);refine Be (l':=[(0,AQ 4 (List.map Ac v))]) (H':=[]) Aa Aa ?_;unfold J8 at h;refine Al (wv (r:=rS ([]:Ah)) (Ae Aa) (wv (r:=rI .i64 0) (Ae Aa) (Av (As (Al (wm Aa ?_))))));obtain⟨r1,e3,h2⟩:=AM h;refine D9 Tryz.call44 (JC F v r1 e3) Aa (wa Aa (By (wm Aa (wv (CX Aa Aa) (Av (Az (b:=!decide (r1=0)) Aa (λc4=>?_) (λc4=>?_)))))))
 ·have h5:=AK c4 h2;refine Al (wm Aa (wv (r:=rS ([]:Ah)) (Ae Aa) (wa Aa (Av (A1 (Af ?_))))));obtain rfl:=A2 h5;exact A0 (EP Tryz.results61 (AO Aa) (AO Aa)) sN ⟨Aa,Aa⟩
 ·have h6:=AL c4 h2;refine A4 (AW (Al (BR (cs:=[rv (.pointer none),rv (.slice none 0 0)]) Tryz.zeroValue131 Aa Aa (λb7=>?_))));refine By (wm Aa (WL.tobld (te:=5) (i:=0) Aa ?_));obtain⟨r8,hb,h9⟩:=AM h6;refine EL (Hr:=[]) SP (Ta F b7 (.slice none 0 0) ([]:Ah) v r8 hb) Aa (Yi _) Aa ?_;rintro _ _ ⟨ha,rfl,rfl⟩;refine By ?_;obtain⟨hd,he⟩:=A8 h9;refine Co (rs:=[rv (.pointer (some ⟨b7,0,none⟩))]) (Hin:=[.bld 131 5 b7 ha r8]) (Hr:=[]) Tryz.call95 Aa (Yi _) (SB b7 ha r8  hd) Aa ?_;rintro _ _ ⟨rfl,rfl⟩;refine wa Aa (wv (r:=rI .i64 0) (Ae Aa) (Av (A1 ?_)));obtain rfl:=A2 he;exact A0 (EP Tryz.results61 (AO Aa) (AO Aa)) sN ⟨Aa,Aa⟩
end Go.Proofs.YtogdediiodmnbaaGreatDoor.Q
namespace Go.Proofs.YtogdediiodmnbaaGreatDoor
open Go
set_option linter.unusedVariables false
structure Ao where
 fS:Ah
 fAt:Int
 fCells:(List Ab)
 fGreat:Bool
 deriving DecidableEq,Inhabited
def G6 (s:Ah)(p:Ah):Option (Bool):=
 Bj (imp (decide ((p.length:Int)≤(s.length:Int))) (Jb (p.length:Int) (s.length:Int)))<|some ((decide ((p.length:Int)≤(s.length:Int)))&&(decide ((List.take (Int.toNat (p.length:Int)) s)=p)))
def Ge (s:Ah)(p:Ah):Option (Bool):=
 B8 (G6 s p) λr1=>some r1
def Dt (q:Ao)(s:Ah):Option (Bool×Ao):=
 Bj (Jb q.fAt (q.fS.length:Int))<|B8 (Ge (List.drop (Int.toNat q.fAt) q.fS) s) λr3=>B3 (!r3) (some (false,q)) (Bj (Ci .i64 (q.fAt+(s.length:Int)))<|some (true,(Ao.mk q.fS (q.fAt+(s.length:Int)) q.fCells q.fGreat)))
def Ep (ha:(List Int))(hb:Int)(hd:Int):Option (Stp ((List Int)×Int) (Out (Ah×Bool×Ao) (Int))):=
 Bj (DI 1 (ha.length+([hb]:List Int).length))<|some (.next (ha++([hb]:List Int),hd))
def DK (r1:Bool×Ao)(hb:(List Int))(ha:Int):Option (Stp ((List Int)×Int) (Out (Ah×Bool×Ao) (Int))):=
 B3 (decide (ha<(r1.2.fS.length:Int))) (Bj (C2 ha (r1.2.fS.length:Int))<|Bj (Ci .i64 (ha+1))<|B3 (decide ((Br r1.2.fS ha)=34)) (some (.out (.ret (PI hb,true,(Ao.mk r1.2.fS (ha+1) r1.2.fCells r1.2.fGreat))))) (B3 (((decide ((Br r1.2.fS ha)<32))||(decide (126<(Br r1.2.fS ha))))) (some (.out (.ret (([]:Ah),false,(Ao.mk r1.2.fS (ha+1) r1.2.fCells r1.2.fGreat))))) (B3 (decide ((Br r1.2.fS ha)=92)) (Bj (imp (!(decide ((r1.2.fS.length:Int)≤(ha+1)))) (C2 (ha+1) (r1.2.fS.length:Int)))<|B3 (((decide ((r1.2.fS.length:Int)≤(ha+1)))||((!decide ((Br r1.2.fS (ha+1))=34))&&(!decide ((Br r1.2.fS (ha+1))=92))))) (some (.out (.ret (([]:Ah),false,(Ao.mk r1.2.fS (ha+1) r1.2.fCells r1.2.fGreat))))) (Bj (C2 (ha+1) (r1.2.fS.length:Int))<|Bj (Ci .i64 ((ha+1)+1))<|Ep hb (Br r1.2.fS (ha+1)) ((ha+1)+1))) (Ep hb (Br r1.2.fS ha) (ha+1))))) (some (.out (.go ha)))
def Hd (r1:Bool×Ao)(ha:Int):Option (Ah×Bool×Ao):=
 some (([]:Ah),false,(Ao.mk r1.2.fS ha r1.2.fCells r1.2.fGreat))
def LJ (F:Nat)(q:Ao):Option (Ah×Bool×Ao):=
 B8 (Dt q ([34]:Ah)) λr1=>B3 (!r1.1) (some (([]:Ah),false,r1.2)) (B8 (Ch (λσ=>DK r1 σ.1 σ.2) F (([]:List Int),r1.2.fAt)) (Cg λν=>Hd r1 ν))
def DL (r1:Bool×Ao)(ha:Int):Option (Stp (Int) (Out (Bool×Ao) (Int))):=
 Bj (imp (decide (ha<(r1.2.fS.length:Int))) (C2 ha (r1.2.fS.length:Int)))<|B3 (((decide (ha<(r1.2.fS.length:Int)))&&((decide (48≤(Br r1.2.fS ha)))&&(decide ((Br r1.2.fS ha)≤57))))) (Bj (Ci .i64 (ha+1))<|some (.next (ha+1))) (some (.out (.go ha)))
def Ia (q:Ao)(r1:Bool×Ao)(ha:Int):Option (Bool×Ao):=
 Bj (Jb q.fAt ha)<|Bj (Jb ha (r1.2.fS.length:Int))<|Bj (DI 1 (List.take (Int.toNat ha-Int.toNat q.fAt) (List.drop (Int.toNat q.fAt) r1.2.fS)).length)<|B3 (((decide ((BD (List.take (Int.toNat ha-Int.toNat q.fAt) (List.drop (Int.toNat q.fAt) r1.2.fS)))=1))||(decide (r1.2.fAt=ha)))) (some (false,(Ao.mk r1.2.fS ha r1.2.fCells r1.2.fGreat))) (Bj (DI 40 (r1.2.fCells.length+([(Ab.mk 3 (Bw (List.take (Int.toNat ha-Int.toNat q.fAt) (List.drop (Int.toNat q.fAt) r1.2.fS))) ([]:Ah) 0)]:List Ab).length))<|some (true,(Ao.mk r1.2.fS ha (r1.2.fCells++([(Ab.mk 3 (Bw (List.take (Int.toNat ha-Int.toNat q.fAt) (List.drop (Int.toNat q.fAt) r1.2.fS))) ([]:Ah) 0)]:List Ab)) (r1.2.fGreat||(!decide ((BD (List.take (Int.toNat ha-Int.toNat q.fAt) (List.drop (Int.toNat q.fAt) r1.2.fS)))=0))))))
def LK (F:Nat)(q:Ao):Option (Bool×Ao):=
 B8 (Dt q ([45]:Ah)) λr1=>B8 (Ch (λσ=>DL r1 σ) F r1.2.fAt) (Cg λν=>Ia q r1 ν)
def Dv (ha:Ah)(hb:Int)(hd:(List Ab))(he:Bool):Option (Bool×Ao):=
 some (true,(Ao.mk ha hb hd he))
def He (F:Nat)(q:Ao):Option (Bool×Ao):=
 B8 (Dt q ([110,117,108,108]:Ah)) λhd=>B3 (hd.1) (Bj (DI 40 (hd.2.fCells.length+([(Ab.mk 1 0 ([]:Ah) 0)]:List Ab).length))<|Dv hd.2.fS hd.2.fAt (hd.2.fCells++([(Ab.mk 1 0 ([]:Ah) 0)]:List Ab)) hd.2.fGreat) (B8 (Dt hd.2 ([116,114,117,101]:Ah)) λhe=>B3 (he.1) (Bj (DI 40 (he.2.fCells.length+([(Ab.mk 2 1 ([]:Ah) 0)]:List Ab).length))<|Dv he.2.fS he.2.fAt (he.2.fCells++([(Ab.mk 2 1 ([]:Ah) 0)]:List Ab)) he.2.fGreat) (B8 (Dt he.2 ([102,97,108,115,101]:Ah)) λha=>B3 (ha.1) (Bj (DI 40 (ha.2.fCells.length+([(Ab.mk 2 0 ([]:Ah) 0)]:List Ab).length))<|Dv ha.2.fS ha.2.fAt (ha.2.fCells++([(Ab.mk 2 0 ([]:Ah) 0)]:List Ab)) ha.2.fGreat) (Bj (Jb ha.2.fAt (ha.2.fS.length:Int))<|B8 (Ge (List.drop (Int.toNat ha.2.fAt) ha.2.fS) ([34]:Ah)) λhg=>B3 (hg) (B8 (LJ F ha.2) λhb=>B3 (!hb.2.1) (some (false,hb.2.2)) (Bj (DI 40 (hb.2.2.fCells.length+([(Ab.mk 4 0 hb.1 0)]:List Ab).length))<|Dv hb.2.2.fS hb.2.2.fAt (hb.2.2.fCells++([(Ab.mk 4 0 hb.1 0)]:List Ab)) hb.2.2.fGreat)) (B8 (LK F ha.2) λhf=>some (hf.1,hf.2)))))
def DW (hf:Ao→Option (Bool×Ao))(x16:(List Ab))(hd:Int)(hg:Ah)(hh:Int)(hi:(List Ab))(hj:Bool):Option (Stp (Int×Ah×Int×(List Ab)×Bool) (Out (Bool×Ao) (Unit))):=
 B8 (hf (Ao.mk hg hh hi hj)) λha=>B3 (!ha.1) (some (.out (.ret (false,ha.2)))) (Bj (C2 (x16.length:Int) (ha.2.fCells.length:Int))<|Jz (List.set ha.2.fCells (Int.toNat (x16.length:Int)) (Ab.mk ((Aj ha.2.fCells (x16.length:Int)).fKind) ((Aj ha.2.fCells (x16.length:Int)).fInt) ((Aj ha.2.fCells (x16.length:Int)).fStr) hd)) λhk=>B8 (Dt (Ao.mk ha.2.fS ha.2.fAt hk ha.2.fGreat) ([93]:Ah)) λhe=>B3 (he.1) (some (.out (.ret (true,he.2)))) (B8 (Dt he.2 ([44]:Ah)) λhb=>B3 (!hb.1) (some (.out (.ret (false,hb.2)))) (Bj (Ci .i64 (hd+1))<|some (.next (hd+1,hb.2.fS,hb.2.fAt,hb.2.fCells,hb.2.fGreat)))))
def Gl :Option (Bool×Ao):=
 none
def Cd (hk:Ao→Option (Bool×Ao))(x16:(List Ab))(hd:Int)(he:Ah×Bool×Ao)(hn:Bool)(ho:Bool)(hl:Bool)(hh:Ah)(hi:Int)(hf:(List Ab))(hj:Bool):Option (Stp (Ah×Int×Ah×Int×(List Ab)×Bool) (Out (Bool×Ao) (Unit))):=
 B3 (hl) (some (.out (.ret (false,(Ao.mk hh hi hf hj))))) (Bj (DI 40 (hf.length+([(Ab.mk 4 0 he.1 0)]:List Ab).length))<|B8 (hk (Ao.mk hh hi (hf++([(Ab.mk 4 0 he.1 0)]:List Ab)) hj)) λha=>B3 (!ha.1) (some (.out (.ret (false,ha.2)))) (Bj (C2 (x16.length:Int) (ha.2.fCells.length:Int))<|Jz (List.set ha.2.fCells (Int.toNat (x16.length:Int)) (Ab.mk ((Aj ha.2.fCells (x16.length:Int)).fKind) ((Aj ha.2.fCells (x16.length:Int)).fInt) ((Aj ha.2.fCells (x16.length:Int)).fStr) hd)) λhm=>B8 (Dt (Ao.mk ha.2.fS ha.2.fAt hm ha.2.fGreat) ([125]:Ah)) λhg=>B3 (hg.1) (some (.out (.ret (true,hg.2)))) (B8 (Dt hg.2 ([44]:Ah)) λhb=>B3 (!hb.1) (some (.out (.ret (false,hb.2)))) (Bj (Ci .i64 (hd+1))<|some (.next (he.1,hd+1,hb.2.fS,hb.2.fAt,hb.2.fCells,hb.2.fGreat))))))
def DV (F:Nat)(hg:Ao→Option (Bool×Ao))(x16:(List Ab))(hb:Ah)(hd:Int)(hh:Ah)(hi:Int)(hj:(List Ab))(hk:Bool):Option (Stp (Ah×Int×Ah×Int×(List Ab)×Bool) (Out (Bool×Ao) (Unit))):=
 B8 (LJ F (Ao.mk hh hi hj hk)) λha=>B3 (!ha.2.1) (Cd hg x16 hd ha true true true ha.2.2.fS ha.2.2.fAt ha.2.2.fCells ha.2.2.fGreat) (B3 (decide (1<hd)) (B3 (Cu ha.1 hb||decide (ha.1=hb)) (Cd hg x16 hd ha (Cu ha.1 hb||decide (ha.1=hb)) (Cu ha.1 hb||decide (ha.1=hb)) true ha.2.2.fS ha.2.2.fAt ha.2.2.fCells ha.2.2.fGreat) (B8 (Dt ha.2.2 ([58]:Ah)) λhe=>Cd hg x16 hd ha (Cu ha.1 hb||decide (ha.1=hb)) (Cu ha.1 hb||decide (ha.1=hb)) (!he.1) he.2.fS he.2.fAt he.2.fCells he.2.fGreat)) (B8 (Dt ha.2.2 ([58]:Ah)) λhf=>Cd hg x16 hd ha false false (!hf.1) hf.2.fS hf.2.fAt hf.2.fCells hf.2.fGreat))
def Gk :Option (Bool×Ao):=
 none
def Du (F:Nat)(hg:Ao→Option (Bool×Ao))(r1:Bool×Ao)(hi:Bool)(hd:Ah)(he:Int)(x16:(List Ab))(hf:Bool):Option (Bool×Ao):=
 B3 (hi) (B8 (He F (Ao.mk hd he x16 hf)) λhh=>some (hh.1,hh.2)) (B3 (r1.1) (Bj (DI 40 (x16.length+([(Ab.mk 5 0 ([]:Ah) 0)]:List Ab).length))<|B8 (Dt (Ao.mk hd he (x16++([(Ab.mk 5 0 ([]:Ah) 0)]:List Ab)) hf) ([93]:Ah)) λha=>B3 (ha.1) (some (true,ha.2)) (B8 (Ch (λσ=>DW hg x16 σ.1 σ.2.1 σ.2.2.1 σ.2.2.2.1 σ.2.2.2.2) F (1,ha.2.fS,ha.2.fAt,ha.2.fCells,ha.2.fGreat)) (Cg λν=>Gl ))) (Bj (DI 40 (x16.length+([(Ab.mk 6 0 ([]:Ah) 0)]:List Ab).length))<|B8 (Dt (Ao.mk hd he (x16++([(Ab.mk 6 0 ([]:Ah) 0)]:List Ab)) hf) ([125]:Ah)) λhb=>B3 (hb.1) (some (true,hb.2)) (B8 (Ch (λσ=>DV F hg x16 σ.1 σ.2.1 σ.2.2.1 σ.2.2.2.1 σ.2.2.2.2.1 σ.2.2.2.2.2) F (([]:Ah),1,hb.2.fS,hb.2.fAt,hb.2.fCells,hb.2.fGreat)) (Cg λν=>Gk ))))
def J6 (F:Nat)(hb:Ao→Option (Bool×Ao))(q:Ao):Option (Bool×Ao):=
 B8 (Dt q ([91]:Ah)) λr1=>B3 (!r1.1) (B8 (Dt r1.2 ([123]:Ah)) λha=>Du F hb r1 (!ha.1) ha.2.fS ha.2.fAt ha.2.fCells ha.2.fGreat) (Du F hb r1 false r1.2.fS r1.2.fAt r1.2.fCells r1.2.fGreat)
def Cj:Nat→Ao→Option (Bool×Ao)
 | 0,_=>none
 | nn+1,q=>J6 nn (Cj nn) q
def E5 (F:Nat)(hb:Bool)(hf:Ah)(hg:Int)(hd:(List Ab))(he:Bool):Option ((List Ab)×Int):=
 B3 (hb) (some (([]:List Ab),1)) (B3 (he) (some (([]:List Ab),2)) (B8 (JB F hd) λha=>some (ha.1,ha.2)))
def J9 (F:Nat)(s:Ah):Option ((List Ab)×Int):=
 B3 (decide (4000<(s.length:Int))) (some (([]:List Ab),3)) (B8 (Cj F (Ao.mk s 0 ([]:List Ab) false)) λha=>B3 (!ha.1) (E5 F true ha.2.fS ha.2.fAt ha.2.fCells ha.2.fGreat) (E5 F (!decide (ha.2.fAt=(s.length:Int))) ha.2.fS ha.2.fAt ha.2.fCells ha.2.fGreat))
end Go.Proofs.YtogdediiodmnbaaGreatDoor
