/-
  Texts of the proof, put together: IdA, PlB, IdB, PlC, IdC, ShelfV, PlD, PlE, FwJ, IdR, QG, QO, RowQ, PQB, WQB, PVa, WVa, PVb, WVb, PVc, WVc, PVd, WVd, PVe, WVe, PVf, WVf, PM, QT, QN.
-/
import Derived.Test.YtjfnokmpfekniaaGreatDoorKP1
import Derived.Test.YtjfnokmpfekniaaGreatDoorProg
import Derived.Lib.Bytealg
import Derived.Lib.AtoiAllCases
import Derived.Lib.ItoaNum
import Derived.Lib.ItoaLen
import Derived.Shelf.Strings.Builder1
import Derived.Shelf.Strings.Count
import Derived.Shelf.Strings.Search1
import Derived.Shelf.Strings.Search2
import Derived.Shelf.Strings.Search3
import Derived.Shelf.Small.Strs
import Derived.Shelf.LaysM
import Derived.Shelf.LaysC
import Derived.Lib.ItoaMem
import Derived.Deep.Slices
import Derived.ChangeArms
import Derived.DataReads
import Derived.Laws.Tables
import Derived.Lib.SmallJoins
import Derived.Laws.StructEq
import Derived.Laws.Cover3
namespace Go.Proofs.YtjfnokmpfekniaaGreatDoor
open Go Go.RowKit
set_option linter.unusedVariables false
set_option linter.unusedSimpArgs false
set_option maxRecDepth 100000
theorem XL (c:Int)(w:World):Calls Tryz.prog 142 [.int .i32 (c)].toArray w (LE w (.bool (Ll c))):=by
 refine IM (n:=9) Tryz.func142 rfl Tryz.ntmps142 rfl (Ao (An (A9 (Aw rfl) rfl (At (A4 (Bk ?_))))));refine AO [(2,.bool (((decide ((97)≤(c)))&&(decide ((c)≤(122))))))] [] (φ:=True) ?_ (λhm1=>?_)
 ·refine An (A9 (Al rfl) rfl (A9 (J2 rfl rfl) rfl (A9 (Al rfl) rfl (AY (decide ((97)≤(c))) (λh1=>?_) (λh1=>?_)))))
  ·have g1:=h1;try simp only[Abh,Abi] at g1
   refine Bg rfl rfl h1 (A9 (Al rfl) rfl (Bg rfl rfl h1 (A9 (NR rfl rfl) rfl (A9 (A7 rfl h1 rfl) rfl (A9 (Aw rfl) rfl (At ?_))))));exact A4 (BP trivial ⟨fb (by simp[h1]),trivial⟩ .slnil)
  ·have g1:=h1;try simp only[Abh,Abi] at g1
   refine AI rfl rfl h1 rfl (AI rfl rfl h1 rfl (A9 (AM rfl h1 rfl) rfl (A9 (Aw rfl) rfl (At ?_))));exact A4 (BP trivial ⟨fb (by simp[h1]),trivial⟩ .slnil)
 refine Ay (Ax (Ct rfl rfl) ?_);exact K1 (by first | rfl | simp[])
theorem Y5 (c:Int)(w:World):Calls Tryz.prog 143 [.int .i32 (c)].toArray w (LE w (.bool (L2 c))):=by
 refine IM (n:=9) Tryz.func143 rfl Tryz.ntmps143 rfl (Ao (An (A9 (Aw rfl) rfl (At (A4 (Bk ?_))))));refine AO [(2,.bool (((decide ((48)≤(c)))&&(decide ((c)≤(57))))))] [] (φ:=True) ?_ (λhm3=>?_)
 ·refine An (A9 (Al rfl) rfl (A9 (J2 rfl rfl) rfl (A9 (Al rfl) rfl (AY (decide ((48)≤(c))) (λh3=>?_) (λh3=>?_)))))
  ·have g3:=h3;try simp only[Abh,Abi] at g3
   refine Bg rfl rfl h3 (A9 (Al rfl) rfl (Bg rfl rfl h3 (A9 (NR rfl rfl) rfl (A9 (A7 rfl h3 rfl) rfl (A9 (Aw rfl) rfl (At ?_))))));exact A4 (BP trivial ⟨fb (by simp[h3]),trivial⟩ .slnil)
  ·have g3:=h3;try simp only[Abh,Abi] at g3
   refine AI rfl rfl h3 rfl (AI rfl rfl h3 rfl (A9 (AM rfl h3 rfl) rfl (A9 (Aw rfl) rfl (At ?_))));exact A4 (BP trivial ⟨fb (by simp[h3]),trivial⟩ .slnil)
 refine Ay (Ax (Ct rfl rfl) ?_);exact K1 (by first | rfl | simp[])
theorem Wg (c:Int)(w:World):Calls Tryz.prog 105 [.int .i32 (c)].toArray w (LE w (.bool (CP c))):=by
 refine IM (n:=37) Tryz.func105 rfl Tryz.ntmps105 rfl (Ao (An (A9 (Aw rfl) rfl (At (A4 (Bk ?_))))));refine AO [(2,.bool (((Ll c)||((L2 c)||(bif decide ((65)≤(c)) then((decide ((c)≤(90)))||((decide ((c)=(45)))||((decide ((c)=(95)))||((decide ((c)=(46)))||((decide ((c)=(58)))||(decide ((c)=(47)))))))) else((decide ((c)=(45)))||((decide ((c)=(95)))||((decide ((c)=(46)))||((decide ((c)=(58)))||(decide ((c)=(47))))))))))))] [] (φ:=True) ?_ (λhn=>?_)
 ·refine An (A9 (Al rfl) rfl (Cl Tryz.call142 rfl (λw hw=>XL c w) rfl (A9 (Al rfl) rfl (AY (Ll c) (λh5=>?_) (λh5=>?_)))))
  ·have g5:=h5;try simp only[Abh,Abi] at g5
   refine AI rfl rfl h5 rfl (AI rfl rfl h5 rfl (A9 (A7 rfl h5 rfl) rfl (A9 (Al rfl) rfl (AI rfl rfl rfl rfl (AI rfl rfl rfl rfl (AI rfl rfl rfl rfl (EP rfl rfl rfl (EP rfl rfl rfl (AI rfl rfl rfl rfl (A9 (A7 rfl rfl rfl) rfl (A9 (Al rfl) rfl (AI rfl rfl rfl rfl (AI rfl rfl rfl rfl (A9 (A7 rfl rfl rfl) rfl (A9 (Al rfl) rfl (AI rfl rfl rfl rfl (AI rfl rfl rfl rfl (A9 (A7 rfl rfl rfl) rfl (A9 (Al rfl) rfl (AI rfl rfl rfl rfl (AI rfl rfl rfl rfl (A9 (A7 rfl rfl rfl) rfl (A9 (Al rfl) rfl ?_)))))))))))))))))))))));refine AI rfl rfl rfl rfl (AI rfl rfl rfl rfl (A9 (A7 rfl rfl rfl) rfl (A9 (Al rfl) rfl (AI rfl rfl rfl rfl (AI rfl rfl rfl rfl (A9 (A7 rfl rfl rfl) rfl (A9 (Aw rfl) rfl (At ?_))))))));exact A4 (BP trivial ⟨fb (by simp[h5]),trivial⟩ .slnil)
  ·have g5:=h5;try simp only[Abh,Abi] at g5
   refine Bg rfl rfl h5 (A9 (Al rfl) rfl (Bg rfl rfl h5 (Cl Tryz.call143 rfl (λw hw=>Y5 c w) rfl (A9 (AM rfl h5 rfl) rfl (A9 (Al rfl) rfl (AY (L2 c) (λh6=>?_) (λh6=>?_)))))))
   ·have g6:=h6;try simp only[Abh,Abi] at g6
    refine AI rfl rfl h6 rfl (AI rfl rfl h6 rfl (AI rfl rfl h6 rfl (EP rfl rfl rfl (EP rfl rfl rfl (AI rfl rfl h6 rfl (A9 (A7 rfl h6 rfl) rfl (A9 (Al rfl) rfl (AI rfl rfl rfl rfl (AI rfl rfl rfl rfl (A9 (A7 rfl rfl rfl) rfl (A9 (Al rfl) rfl (AI rfl rfl rfl rfl (AI rfl rfl rfl rfl (A9 (A7 rfl rfl rfl) rfl (A9 (Al rfl) rfl (AI rfl rfl rfl rfl (AI rfl rfl rfl rfl (A9 (A7 rfl rfl rfl) rfl (A9 (Al rfl) rfl (AI rfl rfl rfl rfl (AI rfl rfl rfl rfl (A9 (A7 rfl rfl rfl) rfl (A9 (Al rfl) rfl ?_)))))))))))))))))))))));refine AI rfl rfl rfl rfl (AI rfl rfl rfl rfl (A9 (A7 rfl rfl rfl) rfl (A9 (Aw rfl) rfl (At ?_))));exact A4 (BP trivial ⟨fb (by simp[h5,h6]),trivial⟩ .slnil)
   ·have g6:=h6;try simp only[Abh,Abi] at g6
    refine Bg rfl rfl h6 (A9 (Al rfl) rfl (Bg rfl rfl h6 (A9 (J2 rfl rfl) rfl (Bg rfl rfl h6 (A9 (Al rfl) rfl (AY (decide ((65)≤(c))) (λh7=>?_) (λh7=>?_)))))))
    ·have g7:=h7;try simp only[Abh,Abi] at g7
     refine Bg rfl rfl h7 (A9 (Al rfl) rfl (Bg rfl rfl h7 (A9 (NR rfl rfl) rfl (Bg rfl rfl h6 (A9 (A7 rfl h7 rfl) rfl (A9 (AM rfl h6 rfl) rfl (A9 (Al rfl) rfl (AY (decide ((c)≤(90))) (λh8=>?_) (λh8=>?_)))))))))
     ·have g8:=h8;try simp only[Abh,Abi] at g8
      refine AI rfl rfl h8 rfl (AI rfl rfl h8 rfl (A9 (A7 rfl h8 rfl) rfl (A9 (Al rfl) rfl (AI rfl rfl rfl rfl (AI rfl rfl rfl rfl (A9 (A7 rfl rfl rfl) rfl (A9 (Al rfl) rfl (AI rfl rfl rfl rfl (AI rfl rfl rfl rfl (A9 (A7 rfl rfl rfl) rfl (A9 (Al rfl) rfl (AI rfl rfl rfl rfl (AI rfl rfl rfl rfl (A9 (A7 rfl rfl rfl) rfl (A9 (Al rfl) rfl (AI rfl rfl rfl rfl (AI rfl rfl rfl rfl (A9 (A7 rfl rfl rfl) rfl (A9 (Aw rfl) rfl (At ?_))))))))))))))))))));exact A4 (BP trivial ⟨fb (by simp[h5,h6,h7,h8]),trivial⟩ .slnil)
     ·have g8:=h8;try simp only[Abh,Abi] at g8
      refine Bg rfl rfl h8 (A9 (Al rfl) rfl (Bg rfl rfl h8 (A9 (BT rfl rfl) rfl (A9 (AM rfl h8 rfl) rfl (A9 (Al rfl) rfl (AY (decide ((c)=(45))) (λh9=>?_) (λh9=>?_)))))))
      ·have g9:=h9;try simp only[Abh,Abi] at g9
       refine AI rfl rfl h9 rfl (AI rfl rfl h9 rfl (A9 (A7 rfl h9 rfl) rfl (A9 (Al rfl) rfl (AI rfl rfl rfl rfl (AI rfl rfl rfl rfl (A9 (A7 rfl rfl rfl) rfl (A9 (Al rfl) rfl (AI rfl rfl rfl rfl (AI rfl rfl rfl rfl (A9 (A7 rfl rfl rfl) rfl (A9 (Al rfl) rfl (AI rfl rfl rfl rfl (AI rfl rfl rfl rfl (A9 (A7 rfl rfl rfl) rfl (A9 (Aw rfl) rfl (At ?_))))))))))))))));exact A4 (BP trivial ⟨fb (by simp[h5,h6,h7,h8,h9]),trivial⟩ .slnil)
      ·have g9:=h9;try simp only[Abh,Abi] at g9
       refine Bg rfl rfl h9 (A9 (Al rfl) rfl (Bg rfl rfl h9 (A9 (BT rfl rfl) rfl (A9 (AM rfl h9 rfl) rfl (A9 (Al rfl) rfl (AY (decide ((c)=(95))) (λhb=>?_) (λhb=>?_)))))))
       ·have hi:=hb;try simp only[Abh,Abi] at hi
        refine AI rfl rfl hb rfl (AI rfl rfl hb rfl (A9 (A7 rfl hb rfl) rfl (A9 (Al rfl) rfl (AI rfl rfl rfl rfl (AI rfl rfl rfl rfl (A9 (A7 rfl rfl rfl) rfl (A9 (Al rfl) rfl (AI rfl rfl rfl rfl (AI rfl rfl rfl rfl (A9 (A7 rfl rfl rfl) rfl (A9 (Aw rfl) rfl (At ?_))))))))))));exact A4 (BP trivial ⟨fb (by simp[h5,h6,h7,h8,h9,hb]),trivial⟩ .slnil)
       ·have hi:=hb;try simp only[Abh,Abi] at hi
        refine Bg rfl rfl hb (A9 (Al rfl) rfl (Bg rfl rfl hb (A9 (BT rfl rfl) rfl (A9 (AM rfl hb rfl) rfl (A9 (Al rfl) rfl (AY (decide ((c)=(46))) (λhe=>?_) (λhe=>?_)))))))
        ·have hj:=he;try simp only[Abh,Abi] at hj
         refine AI rfl rfl he rfl (AI rfl rfl he rfl (A9 (A7 rfl he rfl) rfl (A9 (Al rfl) rfl (AI rfl rfl rfl rfl (AI rfl rfl rfl rfl (A9 (A7 rfl rfl rfl) rfl (A9 (Aw rfl) rfl (At ?_))))))));exact A4 (BP trivial ⟨fb (by simp[h5,h6,h7,h8,h9,hb,he]),trivial⟩ .slnil)
        ·have hj:=he;try simp only[Abh,Abi] at hj
         refine Bg rfl rfl he (A9 (Al rfl) rfl (Bg rfl rfl he (A9 (BT rfl rfl) rfl (A9 (AM rfl he rfl) rfl (A9 (Al rfl) rfl (AY (decide ((c)=(58))) (λhg=>?_) (λhg=>?_)))))))
         ·have hk:=hg;try simp only[Abh,Abi] at hk
          refine AI rfl rfl hg rfl (AI rfl rfl hg rfl (A9 (A7 rfl hg rfl) rfl (A9 (Aw rfl) rfl (At ?_))));exact A4 (BP trivial ⟨fb (by simp[h5,h6,h7,h8,h9,hb,he,hg]),trivial⟩ .slnil)
         ·have hk:=hg;try simp only[Abh,Abi] at hk
          refine Bg rfl rfl hg (A9 (Al rfl) rfl (Bg rfl rfl hg (A9 (BT rfl rfl) rfl (A9 (AM rfl hg rfl) rfl (A9 (Aw rfl) rfl (At ?_))))));exact A4 (BP trivial ⟨fb (by simp[h5,h6,h7,h8,h9,hb,he,hg]),trivial⟩ .slnil)
    ·have g7:=h7;try simp only[Abh,Abi] at g7
     refine AI rfl rfl h7 rfl (AI rfl rfl h7 rfl (Bg rfl rfl h6 (A9 (AM rfl h7 rfl) rfl (A9 (AM rfl h6 rfl) rfl (A9 (Al rfl) rfl (Bg rfl rfl rfl (A9 (Al rfl) rfl (Bg rfl rfl rfl (A9 (BT rfl rfl) rfl (A9 (AM rfl rfl rfl) rfl (A9 (Al rfl) rfl (AY (decide ((c)=(45))) (λha=>?_) (λha=>?_)))))))))))))
     ·have hl:=ha;try simp only[Abh,Abi] at hl
      refine AI rfl rfl ha rfl (AI rfl rfl ha rfl (A9 (A7 rfl ha rfl) rfl (A9 (Al rfl) rfl (AI rfl rfl rfl rfl (AI rfl rfl rfl rfl (A9 (A7 rfl rfl rfl) rfl (A9 (Al rfl) rfl (AI rfl rfl rfl rfl (AI rfl rfl rfl rfl (A9 (A7 rfl rfl rfl) rfl (A9 (Al rfl) rfl (AI rfl rfl rfl rfl (AI rfl rfl rfl rfl (A9 (A7 rfl rfl rfl) rfl (A9 (Aw rfl) rfl (At ?_))))))))))))))));exact A4 (BP trivial ⟨fb (by simp[h5,h6,h7,ha]),trivial⟩ .slnil)
     ·have hl:=ha;try simp only[Abh,Abi] at hl
      refine Bg rfl rfl ha (A9 (Al rfl) rfl (Bg rfl rfl ha (A9 (BT rfl rfl) rfl (A9 (AM rfl ha rfl) rfl (A9 (Al rfl) rfl (AY (decide ((c)=(95))) (λhd=>?_) (λhd=>?_)))))))
      ·have hm:=hd;try simp only[Abh,Abi] at hm
       refine AI rfl rfl hd rfl (AI rfl rfl hd rfl (A9 (A7 rfl hd rfl) rfl (A9 (Al rfl) rfl (AI rfl rfl rfl rfl (AI rfl rfl rfl rfl (A9 (A7 rfl rfl rfl) rfl (A9 (Al rfl) rfl (AI rfl rfl rfl rfl (AI rfl rfl rfl rfl (A9 (A7 rfl rfl rfl) rfl (A9 (Aw rfl) rfl (At ?_))))))))))));exact A4 (BP trivial ⟨fb (by simp[h5,h6,h7,ha,hd]),trivial⟩ .slnil)
      ·have hm:=hd;try simp only[Abh,Abi] at hm
       refine Bg rfl rfl hd (A9 (Al rfl) rfl (Bg rfl rfl hd (A9 (BT rfl rfl) rfl (A9 (AM rfl hd rfl) rfl (A9 (Al rfl) rfl (AY (decide ((c)=(46))) (λhf=>?_) (λhf=>?_)))))))
       ·have g15:=hf;try simp only[Abh,Abi] at g15
        refine AI rfl rfl hf rfl (AI rfl rfl hf rfl (A9 (A7 rfl hf rfl) rfl (A9 (Al rfl) rfl (AI rfl rfl rfl rfl (AI rfl rfl rfl rfl (A9 (A7 rfl rfl rfl) rfl (A9 (Aw rfl) rfl (At ?_))))))));exact A4 (BP trivial ⟨fb (by simp[h5,h6,h7,ha,hd,hf]),trivial⟩ .slnil)
       ·have g15:=hf;try simp only[Abh,Abi] at g15
        refine Bg rfl rfl hf (A9 (Al rfl) rfl (Bg rfl rfl hf (A9 (BT rfl rfl) rfl (A9 (AM rfl hf rfl) rfl (A9 (Al rfl) rfl (AY (decide ((c)=(58))) (λhh=>?_) (λhh=>?_)))))))
        ·have g16:=hh;try simp only[Abh,Abi] at g16
         refine AI rfl rfl hh rfl (AI rfl rfl hh rfl (A9 (A7 rfl hh rfl) rfl (A9 (Aw rfl) rfl (At ?_))));exact A4 (BP trivial ⟨fb (by simp[h5,h6,h7,ha,hd,hf,hh]),trivial⟩ .slnil)
        ·have g16:=hh;try simp only[Abh,Abi] at g16
         refine Bg rfl rfl hh (A9 (Al rfl) rfl (Bg rfl rfl hh (A9 (BT rfl rfl) rfl (A9 (AM rfl hh rfl) rfl (A9 (Aw rfl) rfl (At ?_))))));exact A4 (BP trivial ⟨fb (by simp[h5,h6,h7,ha,hd,hf,hh]),trivial⟩ .slnil)
 refine Ay (Ax (Ct rfl rfl) ?_);exact K1 (by simp only[CP];by_cases h:65≤c<;>simp[h,Bool.or_assoc])
theorem XC (m:Int)(w:World):Calls Tryz.prog 99 [.int .i64 (m)].toArray w (LE w (.bool (D4 m))):=by
 refine IM (n:=9) Tryz.func99 rfl Tryz.ntmps99 rfl (Ao (An (A9 (Aw rfl) rfl (At (A4 (Bk ?_))))));refine AO [(2,.bool (((decide ((-1000000000000)≤(m)))&&(decide ((m)≤(1000000000000))))))] [] (φ:=True) ?_ (λhd=>?_)
 ·refine An (A9 (Al rfl) rfl (A9 (NR rfl rfl) rfl (A9 (Al rfl) rfl (AY (decide ((-1000000000000)≤(m))) (λha=>?_) (λha=>?_)))))
  ·have hb:=ha;try simp only[Abh,Abi] at hb
   refine Bg rfl rfl ha (A9 (Al rfl) rfl (Bg rfl rfl ha (A9 (NR rfl rfl) rfl (A9 (A7 rfl ha rfl) rfl (A9 (Aw rfl) rfl (At ?_))))));exact A4 (BP trivial ⟨fb (by first | (simp only[ha,Aby,AbC,AbT,Ab5,AbA,AbF,AbM,AbI,Abw,AbB,Abr,Abk,Ach,Acc,reduceIte,AbL];done) | simp[ha]),trivial⟩ .slnil)
  ·have hb:=ha;try simp only[Abh,Abi] at hb
   refine AI rfl rfl ha rfl (AI rfl rfl ha rfl (A9 (AM rfl ha rfl) rfl (A9 (Aw rfl) rfl (At ?_))));exact A4 (BP trivial ⟨fb (by first | (simp only[ha,Aby,AbC,AbT,Ab5,AbA,AbF,AbM,AbI,Abw,AbB,Abr,Abk,Ach,Acc,reduceIte,AbL];done) | simp[ha]),trivial⟩ .slnil)
 refine Ay (Ax (Ct rfl rfl) ?_);exact K1 (by first | rfl | simp[])
theorem AaR (p:List UInt8)(w:World):Calls Tryz.prog 79 [.string (B p)].toArray w (LE w (.bool (PB p))):=by
 refine IM (n:=21) Tryz.func79 rfl Tryz.ntmps79 rfl (Ao (An (A9 (Aw rfl) rfl (At (A4 (Bk ?_))))));refine Ao (Ao (An (A9 (Al rfl) rfl (Ts C3 rfl rfl (λhd=>?_)))));refine At (A4 (Bk ?_));refine AK (Mr (S:=Nat) (λ(k:Nat)=>k≤p.length∧Bf Ly 0 p=Bf Ly k (p.drop k)) (λ(k:Nat)=>[(0,.string (B (p))),(2,.bool (false)),(6,.pointer (some ⟨hd,0,none⟩))]) (λ(k:Nat)=>[.blk hd (.stringIter (B p) (k))]) (λ(k:Nat)=>p.length-k) (0) ?_ ⟨rfl,rfl,rfl,trivial⟩ (.cons_cons _ (.slnil)) ?_)
 ·exact⟨AbS _,by simp⟩
 rintro k hi0;refine Ao (An (Vc (i:=0) rfl rfl rfl (λhend=>?_) (λhj hg hi hh hlu39 hhu39 hwu39=>?_)))
 ·refine A9 (AF rfl rfl) rfl (At (A4 (Bk ?_)));refine Ao (Dp rfl rfl (B1 (A3 (A3 (Be (A4 (Bk ?_)))))));refine AO [(2,.bool (((decide ((1)≤((p.length:Int))))&&(decide (((p.length:Int))≤(64))))))] [.blk hd (.stringIter (B p) (k))] (φ:=True) ?_ (λhk=>?_)
  ·refine An (A9 (Al rfl) rfl (A9 (Bv C3 rfl) rfl (A9 (J2 rfl rfl) rfl (A9 (Al rfl) rfl (AY (decide ((1)≤((p.length:Int)))) (λha=>?_) (λha=>?_))))))
   ·have he:=ha;try simp only[Abh,Abi] at he
    refine Bg rfl rfl ha (A9 (Al rfl) rfl (Bg rfl rfl ha (A9 (Bv C3 rfl) rfl (Bg rfl rfl ha (A9 (NR rfl rfl) rfl (A9 (A7 rfl ha rfl) rfl (A9 (Aw rfl) rfl (At ?_))))))));exact A4 (BP trivial ⟨fb (by first | (simp only[ha,Aby,AbC,AbT,Ab5,AbA,AbF,AbM,AbI,Abw,AbB,Abr,Abk,Ach,Acc,reduceIte,AbL];done) | simp[ha]),trivial⟩ (.cons_cons _ (.slnil)))
   ·have he:=ha;try simp only[Abh,Abi] at he
    refine AI rfl rfl ha rfl (AI rfl rfl ha rfl (AI rfl rfl ha rfl (A9 (AM rfl ha rfl) rfl (A9 (Aw rfl) rfl (At ?_)))));exact A4 (BP trivial ⟨fb (by first | (simp only[ha,Aby,AbC,AbT,Ab5,AbA,AbF,AbM,AbI,Abw,AbB,Abr,Abk,Ach,Acc,reduceIte,AbL];done) | simp[ha]),trivial⟩ (.cons_cons _ (.slnil)))
  refine Ay (Ax (Ct rfl rfl) ?_);exact K1 (by rw[ZD hi0 hend])
 ·refine A9 (AF rfl rfl) rfl (At (A4 (Bk ?_)));refine Ao (E8 rfl rfl (A2 (A4 (Bk ?_))));refine AK (Ao (An (A9 (AF rfl rfl) rfl (A9 (Aw rfl) rfl (At (A4 (Bk ?_)))))));refine Ao (An (A9 (Al rfl) rfl (Cl Tryz.call105 rfl (λw hw=>Wg (hg:Int) w) rfl (A9 (Cj rfl) rfl (At (A4 (Bk ?_)))))));refine EN (b:=!(CP (hg:Int))) rfl (λhb=>?_) (λhb=>?_)
  ·have hf:=hb;try simp only[Abh,Abi] at hf
   refine Ao (An (A9 (Aw rfl) rfl (At (A4 (Bk ?_)))));refine Ay (A0 (Ac (A0 (Ac (Ax (Ct rfl rfl) ?_)))));exact K1 (by rw[Aaz hi0 hh hlu39 hhu39 hb])
  ·have hf:=hb;try simp only[Abh,Abi] at hf
   refine A2 (AJ (A4 (AG (k+hi) ?_ ⟨rfl,rfl,rfl,trivial⟩ (.cons_cons _ (.slnil)))));exact Ys hi0 hh hlu39 hhu39 hb
open Go
def MV (p:List UInt8):Bool:=decide ((0:Int)<p.length)&&decide (Ba p 0=45)
def Hn (p:List UInt8):List UInt8:=if MV p=true then p.drop 1 else p
theorem WT (p:List UInt8):(Hn p).length≤p.length:=by unfold Hn;split<;>simp
def DF (_:Nat)(u:UInt8):Bool:=!(decide ((u.toNat:Int)<48)||decide (57<(u.toNat:Int)))
def Kc (p:List UInt8):Bool:=!(decide (Hn p=[])||(decide (Ba (Hn p) 0=48)&&!decide (p=[48])))&&Bf DF 0 (Hn p)
theorem Hc {p:List UInt8}(h : ¬ p=[]):(0:Int)<p.length:=by
 cases p with
 | nil=>exact absurd rfl h
 | cons a r=>simp
theorem OF {p:List UInt8}{k:Nat}(h:(k:Int)<p.length):∃u,p[k]? =some u:=⟨p[k]'(by omega),Abs (by omega)⟩
theorem WU {p:List UInt8}{k:Nat}(hi:k≤p.length∧Bf DF 0 p=Bf DF k (p.drop k))(h:(k:Int)<p.length)(ht:(decide (Ba p k<48)||decide (57<Ba p k))=false) :
  (k+1≤p.length∧Bf DF 0 p=Bf DF (k+1) (p.drop (k+1)))∧p.length-(k+1)<p.length-k:=by
 obtain⟨u,hu⟩:=OF h;rw[Xl hu] at ht;exact Qd hi hu (by simp only[DF,ht];rfl)
theorem ZL {p:List UInt8}{k:Nat}(hi:k≤p.length∧Bf DF 0 p=Bf DF k (p.drop k))(h:(k:Int)<p.length)(ht:(decide (Ba p k<48)||decide (57<Ba p k))=true):Bf DF 0 p=false:=by
 obtain⟨u,hu⟩:=OF h;rw[Xl hu] at ht;exact Vz hi hu (by simp only[DF,ht];rfl)
theorem Y6 {p:List UInt8}{k:Nat}(hi:k≤p.length∧Bf DF 0 p=Bf DF k (p.drop k))(h : ¬ (k:Int)<p.length):Bf DF 0 p=true:=S2 hi (by omega)
def BD (p:List UInt8):Int:=if Kc p=true then(match Lib.atoiAll p with | .ok v=>if D4 v=true then 0 else 2 | _=>2) else 1
def Bm (p:List UInt8):Int:=if Kc p=true then(match Lib.atoiAll p with | .ok v=>if D4 v=true then v else 0 | _=>0) else 0
theorem NA:∀(l:List UInt8) (i acc:Nat),Bf DF i l=true→(∃u,Lib.parseUint10 acc l = .ok u)∨Lib.parseUint10 acc l = .range
 | [],_,acc,_=>.inl ⟨acc,rfl⟩
 | c::r,i,acc,h=>by
  simp only[Bf,Abp] at h;have hc:48≤c.toNat∧c.toNat≤57:=by have:=h.1;simp[DF] at this;omega
  unfold Lib.parseUint10;rw[AbY hc]
  split
  ·exact .inr rfl
  ·split
   ·exact .inr rfl
   ·exact NA r _ _ h.2
theorem SN {l:List UInt8}(hne:l≠[])(h:Bf DF 0 l=true):(∃u,Lib.parseMag l = .ok u)∨Lib.parseMag l = .range:=by
 unfold Lib.parseMag;rw[AbN hne];exact NA l 0 0 h
theorem OZ {e:Lib.NumEnd Nat}(h:(∃u,e = .ok u)∨e = .range):(∃v,Lib.signless e = .ok v)∨Lib.signless e = .range:=by
 rcases h with⟨u,rfl⟩ | rfl
 ·unfold Lib.signless
  by_cases h:9223372036854775808≤u
  ·exact .inr (by simp[h])
  ·exact .inl ⟨_,by simp[h];rfl⟩
 ·exact .inr rfl
theorem R2 {e:Lib.NumEnd Nat}(h:(∃u,e = .ok u)∨e = .range):(∃v,Lib.signed e = .ok v)∨Lib.signed e = .range:=by
 rcases h with⟨u,rfl⟩ | rfl
 ·unfold Lib.signed
  by_cases h:9223372036854775808<u
  ·exact .inr (by simp[h])
  ·exact .inl ⟨_,by simp[h];rfl⟩
 ·exact .inr rfl
theorem Xp {p:List UInt8}(h:Kc p=true):(∃v,Lib.atoiAll p = .ok v∧-9223372036854775808≤v∧v≤9223372036854775807)∨Lib.atoiAll p = .range:=by
 have key:(∃v,Lib.atoiAll p = .ok v)∨Lib.atoiAll p = .range:=by
  simp only[Kc,Abp,Ab0,Ab8,Abi] at h;obtain⟨⟨hne,_⟩,hall⟩:=h
  cases p with
  | nil=>simp[Hn,MV] at hne
  | cons c r=>
   by_cases hc:c=45
   ·subst hc;have hd:Hn (45::r)=r:=by simp[Hn,MV,Ba]
    rw[hd] at hne hall;rw[Lib.atoiAll_minus];exact R2 (SN hne hall)
   ·have hb : ¬ Ba (c::r) 0=45:=by
     simp only[Ba,Int.toNat_zero,List.getElem?_cons_zero,AbD];intro e;exact hc (UInt8.toNat_inj.1 (by simpa using(by omega:c.toNat=45)))
    have hd:Hn (c::r)=c::r:=by simp[Hn,MV,hb]
    rw[hd] at hne hall;have ha:48≤c.toNat:=by
     simp only[Bf,Abp] at hall;have:=hall.1;simp[DF] at this;omega
    rw[Lib.atoiAll_plain c r (by omega) (by omega)];exact OZ (SN hne hall)
 rcases key with⟨v,hv⟩ | h
 ·exact .inl ⟨v,hv,Lib.atoiAll_bounds hv⟩
 ·exact .inr h
theorem Wv (m:Int)(h0 : -9223372036854775808≤m)(h1:m≤9223372036854775807):(Lib.itoa m).length≤21:=Lib.itoa_length_le m h0 h1
theorem U4 (p:List UInt8)(hp:p.length≤281474976710656)(w:World):Calls Tryz.prog 97 [.string (B (p))].toArray w (LE w (.bool (Kc p))):=by
 refine IM (n:=43) Tryz.func97 rfl Tryz.ntmps97 rfl (Ao (An (A9 (Aw rfl) rfl (At (A4 (Bk ?_))))));refine Ao (An (A9 (Al rfl) rfl (A9 (Aw rfl) rfl (At (A4 (Bk ?_))))));refine AO [(0,.string (B (p))),(2,.bool (false)),(3,.string (B ((if ((decide ((0)<((p.length:Int))))&&(decide ((Ba p 0)=(45))))=true then List.drop (Int.toNat (1)) p else p))))] [] (φ:=True) ?_ (λhz=>?_)
 ·refine AO [(0,.string (B (p))),(2,.bool (false)),(3,.string (B (p))),(13,.bool (((decide ((0)<((p.length:Int))))&&(decide ((Ba p 0)=(45))))))] [] (φ:=True) ?_ (λh0=>?_)
  ·refine An (A9 (Al rfl) rfl (A9 (Bv C3 rfl) rfl (A9 (DM rfl rfl) rfl (A9 (Al rfl) rfl (AY (decide ((0)<((p.length:Int)))) (λhd=>?_) (λhd=>?_))))))
   ·have hk:=hd;try simp only[Abh,Abi] at hk
    have f61:=hd;try simp at f61
    refine Bg rfl rfl hd (A9 (Al rfl) rfl (Bg rfl rfl hd (A9 (Bq C3 rfl rfl (by first | omega | exact Hc (by assumption)) (by first | omega | exact Hc (by assumption))) rfl (Bg rfl rfl hd (A9 (BT rfl rfl) rfl (A9 (A7 rfl hd rfl) rfl (At ?_)))))));exact A4 (BP trivial ⟨rfl,rfl,rfl,fb (by first | (simp only[hd,Aby,AbC,AbT,Ab5,AbA,AbF,AbM,AbI,Abw,AbB,Abr,Abk,Ach,Acc,reduceIte,AbL];done) | simp[hd]),trivial⟩ .slnil)
   ·have hk:=hd;try simp only[Abh,Abi] at hk
    have f61:=hd;try simp at f61
    refine AI rfl rfl hd rfl (AI rfl rfl hd rfl (AI rfl rfl hd rfl (A9 (AM rfl hd rfl) rfl (At ?_))));exact A4 (BP trivial ⟨rfl,rfl,rfl,fb (by first | (simp only[hd,Aby,AbC,AbT,Ab5,AbA,AbF,AbM,AbI,Abw,AbB,Abr,Abk,Ach,Acc,reduceIte,AbL];done) | simp[hd]),trivial⟩ .slnil)
  refine EN (b:=((decide ((0)<((p.length:Int))))&&(decide ((Ba p 0)=(45))))) rfl (λhg=>?_) (λhg=>?_)
  ·have hl:=hg;try simp only[Abh,Abi] at hl
   have f63:=hg;try simp at f63
   refine An (A9 (Al rfl) rfl (A9 (Di C3 rfl rfl (by first | omega | (simp;omega)) (by first | omega | (simp;omega))) rfl (A9 (Aw rfl) rfl (At ?_))));exact A4 (BP trivial ⟨rfl,rfl,fs (by first | (simp only[hg,Aby,AbC,AbT,Ab5,AbA,AbF,AbM,AbI,Abw,AbB,Abr,Abk,Ach,Acc,reduceIte,AbL];done) | simp[hg]),trivial⟩ .slnil)
  ·have hl:=hg;try simp only[Abh,Abi] at hl
   have f63:=hg;try simp at f63
   refine A2 ?_;exact A4 (BP trivial ⟨rfl,rfl,fs (by first | (simp only[hg,Aby,AbC,AbT,Ab5,AbA,AbF,AbM,AbI,Abw,AbB,Abr,Abk,Ach,Acc,reduceIte,AbL];done) | simp[hg]),trivial⟩ .slnil)
 have hdg:Hn p=(if ((decide ((0)<((p.length:Int))))&&(decide ((Ba p 0)=(45))))=true then List.drop (Int.toNat (1)) p else p):=rfl;have hdl:=WT p;rw[hdg] at hdl;generalize(if ((decide ((0)<((p.length:Int))))&&(decide ((Ba p 0)=(45))))=true then List.drop (Int.toNat (1)) p else p)=dg at hdg hdl ⊢;refine Ao (AO [(2,.bool (false)),(3,.string (B (dg))),(26,.bool (((decide ((dg)=(([]:List UInt8))))||((decide ((Ba dg 0)=(48)))&&(!(decide ((p)=(([48]:List UInt8)))))))))] [] (φ:=True) ?_ (λh1=>?_))
 ·refine An (A9 (Al rfl) rfl (A9 (H9 rfl rfl) rfl (A9 (Al rfl) rfl (AY (decide ((dg)=(([]:List UInt8)))) (λha=>?_) (λha=>?_)))))
  ·have hm:=ha;try simp only[Abh,Abi] at hm
   have hn:=ha;try simp at hn
   refine AI rfl rfl ha rfl (AI rfl rfl ha rfl (AI rfl rfl ha rfl (AI rfl rfl ha rfl (EP rfl rfl rfl (EP rfl rfl rfl (AI rfl rfl ha rfl (A9 (A7 rfl ha rfl) rfl (At ?_))))))));exact A4 (BP trivial ⟨rfl,rfl,fb (by first | (simp only[ha,Aby,AbC,AbT,Ab5,AbA,AbF,AbM,AbI,Abw,AbB,Abr,Abk,Ach,Acc,reduceIte,AbL];done) | simp[ha]),trivial⟩ .slnil)
  ·have hm:=ha;try simp only[Abh,Abi] at hm
   have hn:=ha;try simp at hn
   refine Bg rfl rfl ha (A9 (Al rfl) rfl (Bg rfl rfl ha (A9 (Bq C3 rfl rfl (by first | omega | exact Hc (by assumption)) (by first | omega | exact Hc (by assumption))) rfl (Bg rfl rfl ha (A9 (BT rfl rfl) rfl (Bg rfl rfl ha (A9 (Al rfl) rfl (AY (decide ((Ba dg 0)=(48))) (λhe=>?_) (λhe=>?_)))))))))
   ·have ho:=he;try simp only[Abh,Abi] at ho
    have hq:=he;try simp at hq
    refine Bg rfl rfl he (A9 (Al rfl) rfl (Bg rfl rfl he (A9 (KE rfl rfl) rfl (Bg rfl rfl ha (A9 (A7 rfl he rfl) rfl (A9 (AM rfl ha rfl) rfl (At ?_)))))));exact A4 (BP trivial ⟨rfl,rfl,fb (by first | (simp only[ha,he,Aby,AbC,AbT,Ab5,AbA,AbF,AbM,AbI,Abw,AbB,Abr,Abk,Ach,Acc,reduceIte,AbL];done) | simp[ha,he]),trivial⟩ .slnil)
   ·have ho:=he;try simp only[Abh,Abi] at ho
    have hq:=he;try simp at hq
    refine AI rfl rfl he rfl (AI rfl rfl he rfl (Bg rfl rfl ha (A9 (AM rfl he rfl) rfl (A9 (AM rfl ha rfl) rfl (At ?_)))));exact A4 (BP trivial ⟨rfl,rfl,fb (by first | (simp only[ha,he,Aby,AbC,AbT,Ab5,AbA,AbF,AbM,AbI,Abw,AbB,Abr,Abk,Ach,Acc,reduceIte,AbL];done) | simp[ha,he]),trivial⟩ .slnil)
 refine EN (b:=((decide ((dg)=(([]:List UInt8))))||((decide ((Ba dg 0)=(48)))&&(!(decide ((p)=(([48]:List UInt8)))))))) rfl (λhf=>?_) (λhf=>?_)
 ·have hr:=hf;try simp only[Abh,Abi] at hr
  have hs:=hf;try simp at hs
  refine Ao (An (A9 (Aw rfl) rfl (At (A4 (Bk ?_)))));refine Ay (Ac (Ax (Ct rfl rfl) ?_));exact K1 (by simp only[Kc,hdg,hf];rfl)
 ·have hr:=hf;try simp only[Abh,Abi] at hr
  have hs:=hf;try simp at hs
  refine A2 (A4 (Bk ?_));refine Ao (Ao (An (A9 (Al rfl) rfl (A9 (Bv C3 rfl) rfl (A9 (Al rfl) rfl (At (A4 (Bk ?_))))))));refine AK (Mr (S:=Nat) (λ(k:Nat)=>k≤dg.length∧Bf DF 0 dg=Bf DF k (dg.drop k)) (λ(k:Nat)=>[(29,.int .i64 ((k:Int))),(3,.string (B (dg))),(28,.int .i64 ((dg.length:Int)))]) (λ(k:Nat)=>[]) (λ(k:Nat)=>dg.length-k) (0) ?_ ⟨fi (by first | rfl | (simp;done) | omega | (simp;omega)),rfl,rfl,trivial⟩ .slnil ?_)
  ·exact⟨AbS _,by simp⟩
  rintro k hi0;refine Ao (An (A9 (Dv rfl rfl) rfl (At (A4 (Bk ?_)))));refine Ao (EN (b:=decide (((k:Int))<((dg.length:Int)))) rfl (λhh=>?_) (λhh=>?_))
  ·have hj:=hh;try simp only[Abh,Abi] at hj
   have ht:=hh;try simp at ht
   refine A2 (A4 (Bk ?_));refine Ao (AK (Ao (An (A9 (Al rfl) rfl (A9 (Aw rfl) rfl (At (A4 (Bk ?_))))))));refine AO [(3,.string (B (dg))),(4,.int .i64 ((k:Int))),(28,.int .i64 ((dg.length:Int))),(29,.int .i64 ((k:Int))),(30,.bool (decide (((k:Int))<((dg.length:Int))))),(31,.int .i64 ((k:Int))),(32,.string (B (dg))),(33,.int .i64 ((k:Int))),(34,.int .u8 (Ba dg (k:Int))),(35,.bool (decide ((Ba dg (k:Int))<(48)))),(36,.bool (decide ((Ba dg (k:Int))<(48)))),(41,.bool (((decide ((Ba dg (k:Int))<(48)))||(decide ((57)<(Ba dg (k:Int)))))))] [] (φ:=True) ?_ (λh2=>?_)
   ·refine An (A9 (Al rfl) rfl (A9 (Al rfl) rfl (A9 (Bq C3 rfl rfl (by first | omega | exact Hc (by assumption)) (by first | omega | exact Hc (by assumption))) rfl (A9 (Dv rfl rfl) rfl (A9 (Al rfl) rfl (AY (decide ((Ba dg (k:Int))<(48))) (λhb=>?_) (λhb=>?_)))))))
    ·have hu:=hb;try simp only[Abh,Abi] at hu
     have hw:=hb;try simp at hw
     refine AI rfl rfl hb rfl (AI rfl rfl hb rfl (AI rfl rfl hb rfl (AI rfl rfl hb rfl (A9 (A7 rfl hb rfl) rfl (At ?_)))));exact A4 (BP trivial ⟨rfl,rfl,rfl,rfl,rfl,rfl,rfl,rfl,rfl,rfl,rfl,fb (by first | (simp only[hf,hh,hb,Aby,AbC,AbT,Ab5,AbA,AbF,AbM,AbI,Abw,AbB,Abr,Abk,Ach,Acc,reduceIte,AbL];done) | simp[hf,hh,hb]),trivial⟩ .slnil)
    ·have hu:=hb;try simp only[Abh,Abi] at hu
     have hw:=hb;try simp at hw
     refine Bg rfl rfl hb (A9 (Al rfl) rfl (Bg rfl rfl hb (A9 (Al rfl) rfl (Bg rfl rfl hb (A9 (Bq C3 rfl rfl (by first | omega | exact Hc (by assumption)) (by first | omega | exact Hc (by assumption))) rfl (Bg rfl rfl hb (A9 (DM rfl rfl) rfl (A9 (AM rfl hb rfl) rfl (At ?_)))))))));exact A4 (BP trivial ⟨rfl,rfl,rfl,rfl,rfl,rfl,rfl,rfl,rfl,rfl,rfl,fb (by first | (simp only[hf,hh,hb,Aby,AbC,AbT,Ab5,AbA,AbF,AbM,AbI,Abw,AbB,Abr,Abk,Ach,Acc,reduceIte,AbL];done) | simp[hf,hh,hb]),trivial⟩ .slnil)
   refine EN (b:=((decide ((Ba dg (k:Int))<(48)))||(decide ((57)<(Ba dg (k:Int)))))) rfl (λhi=>?_) (λhi=>?_)
   ·have hx:=hi;try simp only[Abh,Abi] at hx
    have hy:=hi;try simp at hy
    refine Ao (An (A9 (Aw rfl) rfl (At (A4 (Bk ?_)))));refine Ay (A0 (Ac (Ac (A0 (Ac (Ax (Ct rfl rfl) ?_))))));exact K1 (by simp[Kc,hdg,ZL hi0 hj hi])
   ·have hx:=hi;try simp only[Abh,Abi] at hx
    have hy:=hi;try simp at hy
    refine A2 (AJ (A4 (Bk ?_)));refine An (A9 (BL rfl rfl (IntWalk.i64_in _ (by omega))) rfl (A9 (Al rfl) rfl (At (A4 (AG (k+1) ?_ ⟨fi (by first | rfl | (simp;done) | omega | (simp;omega)),rfl,rfl,trivial⟩ .slnil)))));exact WU hi0 hj hi
  ·have hj:=hh;try simp only[Abh,Abi] at hj
   have ht:=hh;try simp at ht
   refine B1 (A3 (A3 (Be (A4 (Bk ?_)))));refine Ao (An (A9 (Aw rfl) rfl (At (A4 (Bk ?_)))));refine Ay (Ax (Ct rfl rfl) ?_);exact K1 (by simp only[Kc,hdg,hf,Y6 hi0 hj];rfl)
theorem W9 (m:Int)(h0 : -9223372036854775808≤m)(h1:m≤9223372036854775807)(w:World)(hE:Tm w):Calls Tryz.prog 67 [.int .i64 (m)].toArray w (LE w (.string (B (Lib.itoa m)))):=by
 refine IM (n:=5) Tryz.func67 rfl Tryz.ntmps67 rfl (Ao (An (A9 (Aw rfl) rfl (At (A4 (Bk ?_))))));refine Ao (An (A9 (Al rfl) rfl (Cl Tryz.call89 rfl (λw hw=>Z8 m (by omega) (by omega) w (hE.st0 hw)) rfl (A9 (Aw rfl) rfl (At (A4 (Bk ?_)))))));refine Ay (Ax (Ct rfl rfl) ?_);exact K1 (by first | rfl | simp[])
theorem XP (p:List UInt8)(hp:p.length≤281474976710656)(w:World)(hE:Tm w):Calls Tryz.prog 73 [.string (B (p))].toArray w (LE w (.tuple #[.int .i64 (Bm p),.int .i64 (BD p)])):=by
 refine IM (n:=22) Tryz.func73 rfl Tryz.ntmps73 rfl (Ao (An (A9 (Aw rfl) rfl (A9 (Aw rfl) rfl (At (A4 (Bk ?_)))))));refine Ao (Ao (An (A9 (Al rfl) rfl (Cl Tryz.call97 rfl (λw hw=>U4 p (by first | omega | (simp;done) | (simp;omega) | (simp at *;omega)) w) rfl (A9 (Cj rfl) rfl (At (A4 (Bk ?_))))))));refine EN (b:=!(Kc p)) rfl (λhb=>?_) (λhb=>?_)
 ·have hf:=hb;try simp only[Abh,Abi] at hf
  have ha:=hb;try simp only[Abh,Abi,Abp,AbQ,Ab0,Bool.not_eq_false',AbZ,Ab8,not_or,Int.not_lt,Int.not_le] at ha
  refine Ao (An (A9 (Aw rfl) rfl (A9 (Aw rfl) rfl (At (A4 (Bk ?_))))));refine Ay (Ac (Ax (EB rfl rfl rfl) ?_));exact K1 (by simp[Bm,BD,ha])
 ·have hf:=hb;try simp only[Abh,Abi] at hf
  have ha:=hb;try simp only[Abh,Abi,Abp,AbQ,Ab0,Bool.not_eq_false',AbZ,Ab8,not_or,Int.not_lt,Int.not_le] at ha
  refine A2 (A4 (Bk ?_));refine Ao (An (A9 (Al rfl) rfl ?_));rcases Xp (p:=p) (by assumption) with⟨av,hav,hal,hah⟩ | hav
  ·refine Cl Tryz.call98 rfl (λw _=>YE p (by first | omega | (simp;done) | (simp;omega) | (simp at *;omega)) av hav w) rfl (A9 (Al rfl) rfl (A9 (AF rfl rfl) rfl (A9 (AF rfl rfl) rfl (A9 (Aw rfl) rfl (A9 (Aw rfl) rfl (At (A4 (Bk ?_))))))));refine Ao (AO [(2,.int .i64 (0)),(3,.int .i64 (0)),(4,.int .i64 (av)),(20,.bool (!(D4 av)))] [] (φ:=True) ?_ (λhh=>?_))
   ·exact An (A9 (Al rfl) rfl (A9 (Q0 Tryz.underlying121 rfl) rfl (A9 (Al rfl) rfl (Bg rfl rfl rfl (A9 (Al rfl) rfl (Bg rfl rfl rfl (Cl Tryz.call99 rfl (λw hw=>XC av w) rfl (Bg rfl rfl rfl (A9 (Cj rfl) rfl (A9 (AM rfl rfl rfl) rfl (At (A4 (BP trivial ⟨rfl,rfl,rfl,rfl,trivial⟩ .slnil)))))))))))))
   refine EN (b:=!(D4 av)) rfl (λhd=>?_) (λhd=>?_)
   ·have hg:=hd;try simp only[Abh,Abi] at hg
    have he:=hd;try simp only[Abh,Abi,Abp,AbQ,Ab0,Bool.not_eq_false',AbZ,Ab8,not_or,Int.not_lt,Int.not_le] at he
    refine Ao (An (A9 (Aw rfl) rfl (A9 (Aw rfl) rfl (At (A4 (Bk ?_))))));refine Ay (Ac (Ax (EB rfl rfl rfl) ?_));exact K1 (by simp[Bm,BD,hav,ha,he])
   ·have hg:=hd;try simp only[Abh,Abi] at hg
    have he:=hd;try simp only[Abh,Abi,Abp,AbQ,Ab0,Bool.not_eq_false',AbZ,Ab8,not_or,Int.not_lt,Int.not_le] at he
    refine A2 (A4 (Bk ?_));refine Ao (An (A9 (Al rfl) rfl (A9 (Aw rfl) rfl (A9 (Aw rfl) rfl (At (A4 (Bk ?_)))))));refine Ay (Ax (EB rfl rfl rfl) ?_);exact K1 (by simp[Bm,BD,hav,ha,he])
  ·refine XB Tryz.call98 rfl (λw hw=>Si p (by first | omega | (simp;done) | (simp;omega) | (simp at *;omega)) hav w (hE.st0 hw)) rfl ?_;rintro _ _ ⟨am,at_,ab,rfl,rfl⟩;refine A9 (Al rfl) rfl (A9 (AF rfl rfl) rfl (A9 (AF rfl rfl) rfl (A9 (Aw rfl) rfl (A9 (Aw rfl) rfl (At (A4 (Bk ?_)))))));refine Ao (AO [(2,.int .i64 (0)),(3,.int .i64 (0)),(4,.int .i64 (am)),(20,.bool (true))] [] (φ:=True) ?_ (λhi=>?_))
   ·exact An (A9 (Al rfl) rfl (A9 (XW Tryz.underlying121 rfl) rfl (A9 (Al rfl) rfl (AI rfl rfl rfl rfl (AI rfl rfl rfl rfl (AI rfl rfl rfl rfl (A9 (A7 rfl rfl rfl) rfl (At (A4 (BP trivial ⟨rfl,rfl,rfl,rfl,trivial⟩ .slnil))))))))))
   refine E8 rfl rfl (Ao (An (A9 (Aw rfl) rfl (A9 (Aw rfl) rfl (At (A4 (Bk ?_)))))));refine Ay (Ac (Ax (EB rfl rfl rfl) ?_));exact K1 (by simp[Bm,BD,hav,ha])
end Go.Proofs.YtjfnokmpfekniaaGreatDoor
namespace Go.Proofs
open Go.Shelf
def Tryz.lays169_ren:Go.Shelf.Ren:=⟨fun | 169=>88 | n=>n,fun | 70=>110 | 9=>9 | 0=>0 | 72=>112 | 37=>94 | 127=>150 | 3=>3 | 5=>5 | n=>n,fun | n=>n⟩
theorem Tryz.lays169:Go.Proofs.Lays.n169 Tryz.prog Tryz.lays169_ren:={
 mixed:=by kernel_rfl
 f169:=Tryz.func88.trans (congrArg some (by kernel_rfl))
 t0:=Tryz.underlying0
 a0:=Tryz.isAgg0
 z0:=Tryz.sizeOf0
 v0:=Tryz.zeroValue0
 t3:=Tryz.underlying3
 a3:=Tryz.isAgg3
 z3:=Tryz.sizeOf3
 v3:=Tryz.zeroValue3
 t9:=Tryz.underlying9
 a9:=Tryz.isAgg9
 z9:=Tryz.sizeOf9
 v9:=Tryz.zeroValue9
 t37:=Tryz.underlying94
 a37:=Tryz.isAgg94
 z37:=Tryz.sizeOf94
 v37:=Tryz.zeroValue94
 t70:=Tryz.underlying110
 a70:=Tryz.isAgg110
 z70:=Tryz.sizeOf110
 v70:=Tryz.zeroValue110
 t72:=Tryz.underlying112
 a72:=Tryz.isAgg112
 z72:=Tryz.sizeOf112
 v72:=Tryz.zeroValue112
 t127:=Tryz.underlying150
 a127:=Tryz.isAgg150
 z127:=Tryz.sizeOf150
 v127:=Tryz.zeroValue150 }
theorem Tryz.Builder_Extra_169:Builder.Extra Tryz.prog Tryz.lays169_ren:={
 sizeBuilder:=by kernel_rfl
 liesBuilder:=by kernel_rfl
 t5:=Tryz.underlying5
 a5:=Tryz.isAgg5
 z5:=Tryz.sizeOf5
 v5:=Tryz.zeroValue5
 infoByte:=by kernel_rfl
 cellsByte:=by kernel_rfl
 sizeByte:=by kernel_rfl
 neB5:=by decide }
open Go.RowKit in
theorem Tryz.Builder_String_any (B b:Nat)(l:List UInt8)(w:World)(h:Lib.IsBuilder 112 5 B b (Lib.byteCells l) w)(hBw:B≤w.heap.size) :
  Calls Tryz.prog 88 #[.pointer (some ⟨b,0,none⟩)] w λe w'=>e = .returned (.string ⟨l.toArray⟩)∧Below B w w':=Any.Builder_String_any Tryz.lays169 Tryz.Builder_Extra_169 B b l w h hBw
def Tryz.lays138_ren:Go.Shelf.Ren:=⟨fun | 138=>164 | 195=>174 | 218=>175 | 143=>176 | 219=>183 | 217=>186 | 225=>187 | 224=>188 | 267=>189 | 266=>190 | 314=>191 | n=>n,fun | 9=>9 | 3=>3 | 4=>4 | 5=>5 | 0=>0 | 46=>109 | 146=>210 | 51=>116 | n=>n,fun | 1=>3 | n=>n⟩
theorem Tryz.lays138:Go.Proofs.Lays.n138 Tryz.prog Tryz.lays138_ren:={
 mixed:=by kernel_rfl
 f138:=Tryz.func164.trans (congrArg some (by kernel_rfl))
 f143:=Tryz.func176.trans (congrArg some (by kernel_rfl))
 f195:=Tryz.func174.trans (congrArg some (by kernel_rfl))
 f217:=Tryz.func186.trans (congrArg some (by kernel_rfl))
 f218:=Tryz.func175.trans (congrArg some (by kernel_rfl))
 f219:=Tryz.func183.trans (congrArg some (by kernel_rfl))
 f224:=Tryz.func188.trans (congrArg some (by kernel_rfl))
 f225:=Tryz.func187.trans (congrArg some (by kernel_rfl))
 f266:=Tryz.func190.trans (congrArg some (by kernel_rfl))
 f267:=Tryz.func189.trans (congrArg some (by kernel_rfl))
 f314:=Tryz.func191.trans (congrArg some (by kernel_rfl))
 t0:=Tryz.underlying0
 a0:=Tryz.isAgg0
 z0:=Tryz.sizeOf0
 v0:=Tryz.zeroValue0
 t3:=Tryz.underlying3
 a3:=Tryz.isAgg3
 z3:=Tryz.sizeOf3
 v3:=Tryz.zeroValue3
 t4:=Tryz.underlying4
 a4:=Tryz.isAgg4
 z4:=Tryz.sizeOf4
 v4:=Tryz.zeroValue4
 t5:=Tryz.underlying5
 a5:=Tryz.isAgg5
 z5:=Tryz.sizeOf5
 v5:=Tryz.zeroValue5
 t9:=Tryz.underlying9
 a9:=Tryz.isAgg9
 z9:=Tryz.sizeOf9
 v9:=Tryz.zeroValue9
 t46:=Tryz.underlying109
 a46:=Tryz.isAgg109
 z46:=Tryz.sizeOf109
 v46:=Tryz.zeroValue109
 t51:=Tryz.underlying116
 a51:=Tryz.isAgg116
 z51:=Tryz.sizeOf116
 v51:=Tryz.zeroValue116
 t146:=Tryz.underlying210
 a146:=Tryz.isAgg210
 z146:=Tryz.sizeOf210
 v146:=Tryz.zeroValue210
 g1:=by kernel_rfl }
open Go.RowKit Go.Lib in
theorem Tryz.strings_Count_one (s:ByteArray)(c:UInt8)(w:World) :
  Calls Tryz.prog 164 #[.string s,.string ⟨#[c]⟩] w λe w'=>e = .returned (.int .i64 (Lib.countByte s.data.toList c))∧w'=w:=Any.strings_Count_one Tryz.lays138 s c w
end Go.Proofs
namespace Go.Proofs.YtjfnokmpfekniaaGreatDoor
open Go
set_option linter.unusedVariables false
set_option linter.unusedSimpArgs false
theorem Xs {f:Nat→UInt8→Bool}:∀{l:List UInt8} {i:Nat},(∀j,∀u∈l,f j u=true)→Bf f i l=true
 | [],_,_=>rfl
 | x::r,i,h=>by simp only[Bf,Abp];exact⟨h i x (by simp),Xs λj u hu=>h j u (by simp[hu])⟩
theorem S8:∀(l:List UInt8) (acc v:Nat) (c:UInt8),Lib.parseUint10 acc l = .ok v→48≤c.toNat→c.toNat≤57→v<1844674407370955161→Lib.parseUint10 acc (l++[c]) = .ok (v*10+(c.toNat-48))
 | [],acc,v,c,h,h0,h1,hv=>by
  simp only[Lib.parseUint10,Lib.NumEnd.ok.injEq] at h;subst h;simp only[AbJ,Lib.parseUint10];rw[AbY ⟨h0,h1⟩,AbN (by omega),AbN (by omega)]
 | x::r,acc,v,c,h,h0,h1,hv=>by
  simp only[AbP,Lib.parseUint10] at h ⊢
  split at h
  ·rename_i hx
   rw[AbY hx]
   split at h
   ·cases h
   ·rename_i hy
    rw[AbN hy]
    split at h
    ·cases h
    ·rename_i hz
     rw[AbN hz];exact S8 r _ v c h h0 h1 hv
  ·cases h
theorem JT {d:Nat}(h:d<10):(UInt8.ofNat (48+d)).toNat=48+d:=by
 simp[UInt8.toNat_ofNat'];omega
theorem Y9 (u:Nat):∀c∈Lib.decDigits u,48≤c.toNat∧c.toNat≤57:=by
 induction u using Nat.strongRecOn with
 | ind u ih=>
  intro c hc;rw[Lib.decDigits] at hc
  split at hc
  ·simp only[AbG] at hc;subst hc;rw[JT (by omega)];omega
  ·rcases List.mem_append.1 hc with hc | hc
   ·exact ih (u/10) (by omega) c hc
   ·simp only[AbG] at hc;subst hc;rw[JT (by omega)];omega
theorem U5 (u:Nat):u<18446744073709551610→Lib.parseUint10 0 (Lib.decDigits u) = .ok u:=by
 induction u using Nat.strongRecOn with
 | ind u ih=>
  intro hu;rw[Lib.decDigits]
  split
  ·rename_i h
   simp only[Lib.parseUint10];rw[JT h,AbY (by omega),AbN (by omega),AbN (by omega)]
   congr 1;omega
  ·rename_i h
   have:=S8 (Lib.decDigits (u/10)) 0 (u/10) (UInt8.ofNat (48+u % 10)) (ih (u/10) (by omega) (by omega)) (by rw[JT (by omega)];omega) (by rw[JT (by omega)];omega) (by omega);rw[this,JT (by omega)]
   congr 1;omega
theorem WV (u:Nat):Lib.decDigits u≠[]:=by
 rw[Lib.decDigits];split<;>simp
theorem U6 (u:Nat):1≤u→Ba (Lib.decDigits u) 0≠48:=by
 induction u using Nat.strongRecOn with
 | ind u ih=>
  intro hu;rw[Lib.decDigits]
  split
  ·rename_i h
   have:=JT h;simp only[Ba,Int.toNat_zero,List.getElem?_cons_zero,AbD];rw[this];omega
  ·rename_i h
   have h1:=ih (u/10) (by omega) (by omega);have hne:=WV (u/10);unfold Ba at h1 ⊢;rw[show(0:Int).toNat=0 from rfl] at h1 ⊢
   rwa [Acj (by cases hd:Lib.decDigits (u/10) with | nil=>exact absurd hd hne | cons=>simp)]
theorem Y8 (u:Nat)(h:u<10):Lib.decDigits u=[UInt8.ofNat (48+u)]:=by rw[Lib.decDigits];simp[h]
theorem Ww {m:Int}(h0:0≤m):Lib.itoa m=Lib.decDigits m.toNat:=by
 have:=Lib.itoa_nonneg m.toNat
 rwa [show((m.toNat:Nat):Int)=m from by omega] at this
theorem Us {m:Int}(h0:0≤m)(h1:m≤1000000000000):BD (Lib.itoa m)=0∧Bm (Lib.itoa m)=m:=by
 rw[Ww h0];generalize hu:m.toNat=u;have hub:u≤1000000000000:=by omega
 have hall:=Y9 u;have hne:=WV u;have hd0:∃c r,Lib.decDigits u=c::r:=by cases h:Lib.decDigits u with | nil=>exact absurd h hne | cons c r=>exact⟨c,r,rfl⟩
 obtain⟨c,r,hcr⟩:=hd0;have hc:48≤c.toNat∧c.toNat≤57:=hall c (by simp[hcr]);have hs:MV (Lib.decDigits u)=false:=by
  rw[hcr];have e:Ba (c::r) 0=c.toNat:=rfl;simp only[MV,e,AbZ,Abi]
  right;omega
 have hdg:Hn (Lib.decDigits u)=Lib.decDigits u:=by simp[Hn,hs]
 have hdec:Kc (Lib.decDigits u)=true:=by
  simp only[Kc,hdg];have h2:Bf DF 0 (Lib.decDigits u)=true:=Xs λj x hx=>by
   have:=hall x hx;simp[DF];omega
  rw[h2];have h3:decide (Lib.decDigits u=[])=false:=by simpa using hne
  rw[h3]
  by_cases hz:u=0
  ·subst hz;rw[Y8 0 (by omega)];rfl
  ·have:=U6 u (by omega);simp[this]
 have hat:Lib.atoiAll (Lib.decDigits u) = .ok (u:Int):=by
  have h4:=U5 u (by omega);rw[hcr] at h4 ⊢;rw[Lib.atoiAll_plain c r (by omega) (by omega)];have:Lib.parseMag (c::r) = .ok u:=by unfold Lib.parseMag;rw[AbN (by simp)];exact h4
  rw[this];simp only[Lib.signless];rw[AbN (by omega)]
 have hv:D4 (u:Int)=true:=by simp[D4];omega
 simp only[BD,Bm,hdec,Ach,hat,hv];exact⟨trivial,by omega⟩
open Go Go.RowKit
section
variable {P : Program} {n : Nat} {w0 : World} {M : List Nat} {l : Fr} {H : List Ent} {d : Option Nat} {x y : Operand} {ty t t' : TypeId} {pos : String} {af : Array Edge} {g : Option (Nat × Bool)} {k : IntKind} {p q z : Int}
end
set_option maxRecDepth 100000
end Go.Proofs.YtjfnokmpfekniaaGreatDoor
namespace Go.Proofs.YtjfnokmpfekniaaGreatDoor.Q
open Go Go.RowKit
set_option linter.unusedVariables false
def GE (Z:Fz):Prop:=∀w,X0 Z w→Tm w
theorem GE.mono {Z Z':Fz}(h:Fz.le Z Z')(hg:GE Z):GE Z':=λw hw=>hg w (λb o e=>hw b o (h b o e))
theorem OS.rle {P:Program}{E:Fz→Prop}{f:FuncId}{args:List Rp}{r r':Rp}(h:OS P E f args r)(hr:Iw r r'):OS P E f args r':=λw Z vs hv hs=>
 (h w Z vs hv hs).mono λe w' ⟨q,v,H,Z',he,⟨hq,hH⟩,hp,ht⟩=>⟨r',v,H,Z',he,⟨rfl,hH⟩,hr Z' v (hq▸hp),ht⟩
theorem Iw.tup2 {a b:Value}:Iw (rv (.tuple #[a,b])) (C2 [rv a,rv b]):=λZ v h=>⟨[a,b],h,rfl,rfl,trivial⟩
theorem OS.of_id {P:Program}{E:Fz→Prop}{f:FuncId}{vs:List Value}{v:Value}(h:∀w,Calls P f vs.toArray w (λe w'=>e = .returned v∧w'=w)):OS P E f (vs.map rv) (rv v):=
 OS.of_old λw Z _ _=>(h w).mono λe w' ⟨he,hw⟩=>⟨he,by rw[hw];exact Proofs.YtjfnokmpfekniaaGreatDoor.St.refl w []⟩
theorem KR (m:Int)(g:B7 .i64 m=true):OS Tryz.prog GE 67 [rI .i64 m] (rS (Lib.itoa m)):=OS.of_old (vs:=[.int .i64 m]) λw Z hf he=>W9 m (If g).1 (If g).2 w (he w hf)
theorem SE (s:Ag)(g:Dw 1 s.length=true):OS Tryz.prog GE 73 [rS s] (C2 [rI .i64 (Bm s),rI .i64 (BD s)]):=(OS.of_old (vs:=[.string (B s)]) λw Z hf he=>XP s (by simp[Dw] at g;omega) w (he w hf)).rle Iw.tup2
theorem Te (s:Ag)(c:UInt8):OS Tryz.prog GE 164 [rS s,rS [c]] (rI .i64 (Lib.countByte s c)):=OS.of_id (vs:=[.string (B s),.string (B [c])]) λw=>by have:=Tryz.strings_Count_one (B s) c w;rwa [Sm] at this
theorem AaQ (s:Ag):OS Tryz.prog GE 79 [rS s] (rB (PB s)):=OS.of_old (vs:=[.string (B s)]) λw Z hf he=>AaR s w
open Go Go.RowKit Go.ChangeShapes Go.Deep
set_option linter.unusedSimpArgs false
def ZW (W:World):Fz:=λb=>W.heap[b]?
theorem ZW.frz (W:World):X0 (ZW W) W:=λ_ _ h=>h
def Lg (P:Program)(e:TypeId){α:Type}(enc:α→List Rp)(ok:α→Bool):Prop:=
 ∀{H:Type} {encH:TypeId×Value→H} {W:World} {sp:Nat→Bool} {held:Bool} {n:Nat} {cs:List Value} {x:DataW H×List MemPlace},DataW.trod encH P W 0 sp held n e cs=some x→∃y:α,ok y=true∧AZ (ZW W) (enc y) cs
section
variable {P : Program} {e t : TypeId}
theorem Lg.int {k:IntKind}{enc:Int→List Rp}(ht:P.underlying e=some (.int k))(he:∀n,enc n=[rI k n]):Lg P e enc (B7 k):=λh=>by
 obtain⟨n,rfl,_,hwf⟩:=DataW.trod_int ht h;exact⟨n,hwf,by rw[he];exact⟨rfl,trivial⟩⟩
theorem Lg.str {enc:Ag→List Rp}(ht:P.underlying e=some .string)(he:∀n,enc n=[rS n]):Lg P e enc YM:=λh=>by
 obtain⟨s,rfl,_,hl⟩:=DataW.trod_string ht h;exact⟨s.data.toList,Abm (by rw[Array.length_toList];exact hl),by rw[he];exact⟨congrArg Value.string (AaV s),trivial⟩⟩
theorem Lg.bool {enc:Bool→List Rp}(ht:P.underlying e=some .bool)(he:∀n,enc n=[rB n]):Lg P e enc (λ_=>true):=λh=>by
 obtain⟨b,rfl,_⟩:=DataW.trod_bool ht h;exact⟨b,rfl,by rw[he];exact⟨rfl,trivial⟩⟩
theorem OQ {W:World}{a:Addr}{v:Value}(h:W.cell? a=some v):a.spot=none∧Ik (ZW W) a.block a.off=some v:=by
 unfold World.cell? at h;unfold Ik ZW
 cases hh:W.heap[a.block]? with
 | none=>rw[hh] at h;cases h
 | some o=>
  rw[hh] at h
  cases o with
  | cells cs t fz=>
   cases hs:a.spot with
   | none=>simp[hs] at h;exact⟨rfl,h⟩
   | some _=>simp[hs] at h
  | _=>simp at h
theorem Lg.slice {α:Type}[Inhabited α]{enc:α→List Rp}{ok:α→Bool}{sz:Nat}(ht:P.underlying t=some (.slice e))(hc:P.cellsOf e=sz)(hsz:0<sz)(h:Lg P e enc ok)(hlen:∀y,(enc y).length=sz){enc':List α→List Rp}(he:∀ys,enc' ys=[AU sz (ys.map enc)]) :
  Lg P t enc' (λys=>ys.all ok&&decide (ys.length≤9223372036854775807)):=fun {H encH W sp held n cs x} hx=>by
 rcases open_slice ht hx with⟨rfl,_⟩ | ⟨a,len,cap,m,n',D,Pl,rfl,hb,hl,hm,hmm,_,hel⟩
 ·exact⟨[],by simp,by rw[he];exact⟨Sk.nil sz _,trivial⟩⟩
 ·have hlm:len≤m:=by rw[hmm];split<;>omega
  have each:∀i,i<len→∃y:α,ok y=true∧∃cs',W.cells? 0 (a.add (i*sz)) sz=some cs'∧AZ (ZW W) (enc y) cs':=λi hi=>by
   obtain⟨cs',h1,h2⟩:=hel i (by omega);obtain⟨y,hy,hr⟩:=h h2;rw[hc] at h1;exact⟨y,hy,cs',h1,hr⟩
  obtain⟨f,hf⟩:=choose_lt each;refine⟨(List.range len).map f,?_,?_⟩
  ·simp only[Abp,AbE,List.mem_map,List.mem_range,Abh];refine⟨?_,by simp;simp only[maxLen] at hm;omega⟩;rintro _ ⟨i,hi,rfl⟩;exact(hf i hi).1
  ·rw[he];refine⟨⟨some a,cap,by simp,by simpa using hl,hm,(λh=>by cases h),λi c hi=>?_⟩,trivial⟩;rw[Ace,AbO] at hi;have hil:i<len:=by
    cases hq:(List.range len)[i]? with
    | none=>rw[hq] at hi;cases hi
    | some _=>have:=(List.getElem?_eq_some_iff.1 hq).1;simpa using this
   rw[List.getElem?_range hil] at hi;simp only[Option.map_some,Option.some.injEq,Function.comp] at hi;subst hi;obtain⟨_,cs',h1,hr⟩:=hf i hil;obtain⟨_,hcl,hcell⟩:=World.cells?_some h1;have hsp:a.spot=none:=by
    obtain⟨_,cs0,g1,_⟩:=hf 0 (by omega);obtain⟨_,gcl,gcell⟩:=World.cells?_some g1;have h0:=gcell 0 hsz;rw[Abs (by omega)] at h0;have:=(OQ h0).1;simpa[Addr.add] using this
   refine⟨hlen _,a,rfl,hsp,λj r hj=>?_⟩;obtain⟨u,hu,hp⟩:=hr.at hj;have hjs:j<sz:=by have:=(List.getElem?_eq_some_iff.1 hj).1;rw[hlen] at this;exact this
   have h3:=hcell j hjs;rw[hu] at h3;have h4:=(OQ h3).2;refine⟨u,?_,hp⟩;have e1:((a.add (i*sz)).add j).block=a.block:=by simp only[Addr.add];split<;>split<;>rfl
   have e2:((a.add (i*sz)).add j).off=a.off+(i*sz+j):=by simp only[Addr.add];split<;>split<;>simp_all<;>omega
   rw[e1,e2] at h4;exact h4
theorem Sy {Z:Fz}{cs:List Value}{o:Nat}(h:cs.length=o):AZ Z [] (cs.drop o):=by rw[List.drop_of_length_le (by omega)];trivial
theorem ER {Z:Fz}{cs:List Value}{o s o':Nat}{rs rs':List Rp}(h:AZ Z rs ((cs.drop o).take s))(ho:o+s=o')(h2:AZ Z rs' (cs.drop o')):AZ Z (rs++rs') (cs.drop o):=by
 rw[← AbW s (cs.drop o),Aci];subst ho;exact h.append h2
theorem Lg.val {α:Type}{enc:α→List Rp}{ok:α→Bool}(h:Lg P e enc ok){r:α→Rp}(he:∀y,enc y=[r y]){H:Type}{encH:TypeId×Value→H}{W:World}{sp:Nat→Bool}{held:Bool}{v:Value}{d:DataW H}{ps:List MemPlace}
  (hone:v.cells = #[v]) (ht:DataW.Trod encH P W 0 sp held e v d ps):∃y:α,ok y=true∧(r y).p (ZW W) v:=by
 obtain⟨fuel,hf⟩:=ht;rw[hone] at hf;obtain⟨y,hy,hr⟩:=h hf;rw[he] at hr;exact⟨y,hy,hr.1⟩
end
theorem W7 {W w:World}(hw:X0 (ZW W) w):W.heap.size≤w.heap.size:=by
 rcases Nat.eq_zero_or_pos W.heap.size with h | h
 ·omega
 ·have h1:W.heap[W.heap.size-1]? =some (W.heap[W.heap.size-1]'(by omega)):=Array.getElem?_eq_getElem (by omega);have:=(Array.getElem?_eq_some_iff.1 (hw _ _ h1)).1;omega
theorem U0 {W:World}(hE:Tm W):GE (ZW W):=λw hw=>by
 have hb:Below W.heap.size W { w with os:=W.os,tape:=W.tape,output:=W.output }:=⟨rfl,rfl,rfl,W7 hw,λk hk=>by
  have h1:W.heap[k]? =some (W.heap[k]'hk):=Array.getElem?_eq_getElem hk;rw[h1];exact hw k _ h1⟩
 have hE2:=hE.st0 (St.of_below hb);exact⟨PA.block { w with os:=W.os,tape:=W.tape,output:=W.output } w (λ_ _=>rfl) hE2.tabs,hE2.size⟩
theorem Vp {W:World}(hE:Tm W):St ⟨W,ZW W,[],GE⟩ [] (ZW W) W where
 os:=rfl
 tape:=rfl
 output:=rfl
 size:=Ab3 _
 old:=λ_ _ _=>rfl
 has:=λ_ h=>by cases h
 own:=λ_ h=>by cases h
 dis:=.nil
 frz:=ZW.frz W
 le:=Fz.le.refl _
 new:=λ_ _ h=>.inl h
 zdis:=λ_ h=>by cases h
 env:=U0 hE
 emono:=λh hg=>GE.mono h hg
theorem Vq {W W':World}{Z Z':Fz}{E:Fz→Prop}{H:List Ent}(h:St ⟨W,Z,[],E⟩ H Z' W'):Below W.heap.size W W':=⟨h.os,h.tape,h.output,h.size,λk hk=>h.old k hk (by simp)⟩
open Go
def LA (l:(List Int)):Option ((List Int)):=
 some l
def IR (l:(List Int))(c:Int):Option (Unit×(List Int)):=
 Bi (LA l) λr1=>AR (Dw 1 (r1.length+([c]:List Int).length))<|some ((),r1++([c]:List Int))
def Ht (l:(List Int))(s:Ag):Option (Int×Unit×(List Int)):=
 Bi (LA l) λr1=>AR (Dw 1 (r1.length+s.length))<|some ((s.length:Int),(),r1++CC s)
def NH (l:Ag):Option (Ag):=
 AR (decide (0<(CC l).length))<|some l
def L9 (l:(List Int)):Option ((List Int)):=
 some l
def IQ (l:(List Int))(c:Int):Option (Unit×(List Int)):=
 Bi (L9 l) λr1=>AR (Dw 1 (r1.length+([c]:List Int).length))<|some ((),r1++([c]:List Int))
def Hq (l:(List Int))(s:Ag):Option (Int×Unit×(List Int)):=
 Bi (L9 l) λr1=>AR (Dw 1 (r1.length+s.length))<|some ((s.length:Int),(),r1++CC s)
def NG (l:Ag):Option (Ag):=
 AR (decide (0<(CC l).length))<|some l
set_option maxRecDepth 100000
set_option maxHeartbeats 4000000
theorem LW:∃inf,Tryz.prog.info? 5=some inf∧inf.zero=some (.int .u8 0)∧inf.size=1∧inf.bytes=1:=by
  have key:(Tryz.prog.info? 5).map (λi=>(i.zero,i.size,i.bytes))=some (some (.int .u8 0),1,1):=by kernel_rfl
  obtain⟨inf,h1,h2⟩:=Option.map_eq_some_iff.1 key;simp only[Prod.mk.injEq] at h2;exact⟨inf,h1,h2.1,h2.2.1,h2.2.2⟩
theorem QN:∃j,Tryz.prog.info? 112=some j∧j.size≠0:=by
  have key:(Tryz.prog.info? 112).map (λi=>i.size)=some 2:=by kernel_rfl
  obtain⟨j,h1,h2⟩:=Option.map_eq_some_iff.1 key;exact⟨j,h1,by rw[h2];decide⟩
theorem QO:∃j,Tryz.prog.info? 112=some j:=QN.imp λ_ h=>h.1
theorem Rj (ha:Nat)(hb:Value)(l:(List Int))(r:(List Int))(h:LA l=some r):Fn Tryz.prog GE 154 [rP ha 0] [.blk ha [rv (.pointer none),rv hb] 112,.row hb 5 1 (AE Bc l)] (λR H=>∃w0:Value,R=rv (.tuple #[])∧H=[.blk ha [rP ha 0,rv w0] 112,.row w0 5 1 (AE Bc r)]):=by
 refine enter (n:=20) Tryz.func154 rfl Tryz.ntmps154 rfl (λw Z=>?_);unfold LA at h;refine Ah (wm rfl (wv (Ar rfl) (vF Gf rfl PH (vL 0 Ei rfl (wv (r:=rB true) (VP ⟨_,PF⟩ rfl) (Aq (E8 rfl rfl (An (wm rfl (wm rfl (wv (r:=rP ha 0) (Qy (i:=0) PF Tryz.underlying188 QN rfl rfl rfl) (A9 (r:=rP ha 0) (XU Tryz.func166 (by kernel_rfl) (by kernel_rfl) (by kernel_rfl) (by kernel_rfl) rfl) rfl (wv (r:=rP ha 0) (NS (i:=0) Tryz.underlying188 PF QO rfl rfl (by kernel_rfl)) (wv (Ar rfl) (vF Gf rfl PH (B5 (i:=0) PH rfl rfl (Cu rfl) rfl rfl (cs':=[rP ha 0,rv hb]) rfl (H':=[.blk ha [rP ha 0,rv hb] 112,.row hb 5 1 (AE Bc l)]) rfl (At ?_)))))))))))))))));obtain rfl:=Az h;exact G6 (T7 Tryz.results154) (sC (sC sN)) ⟨hb,rfl,rfl⟩
theorem Od (ha:Nat)(hb:Value)(l:(List Int))(c:Int)(r:Unit×(List Int))(h:IR l c=some r):Fn Tryz.prog GE 122 [rP ha 0,rI .u8 c] [.blk ha [rv (.pointer none),rv hb] 112,.row hb 5 1 (AE Bc l)] (λR H=>∃w0:Value,R=rv (.nilIface)∧H=[.blk ha [rP ha 0,rv w0] 112,.row w0 5 1 (AE Bc r.2)]):=by
 refine enter (n:=17) Tryz.func122 rfl Tryz.ntmps122 rfl (λw Z=>?_);unfold IR at h;refine Ah (wa rfl (Bx (wm rfl (ob h λr1 e3 h2=>DY (Hr:=[]) Tryz.call154 (Rj ha hb l r1 e3) rfl (Abo _) rfl ?_))));rintro _ _ ⟨v4,rfl,rfl⟩;refine Bx (wm rfl (wm rfl (wv (Ar rfl) (vF Gf rfl Jz (vL 0 PL rfl (wm rfl (AW (ys:=([c]:List Int)) (enc:=Bc) (css:=[[rI .u8 c]]) (xs:=[.tmp 12]) GS ys5 ZZ rfl rfl rfl ⟨GR.one rfl (Up.refl _),trivial⟩ rfl Dr rfl rfl rfl (λb5=>?_))))))));refine ck h2 λg7 h8=>Exists.elim LW λinf hinf=>Cb (xs:=r1) (ys:=([c]:List Int)) (enc:=Bc) (i:=2) GS hinf.1 hinf.2.1 hinf.2.2.1 hinf.2.2.2 rfl rfl rfl rfl rfl (LD.w (i:=0) rfl rfl) Dr Jx g7 rfl (λv6=>?_);refine wv (Ar rfl) (vF Gf rfl Jz (B5 (i:=2) Jz rfl rfl (DL (i:=0) rfl) rfl rfl (cs':=[rP ha 0,rv v6]) rfl (H':=[.row v6 5 1 (AE Bc (r1++([c]:List Int))),.row (.slice (some ⟨b5,0,none⟩) 1 1) 5 1 (AE Bc ([c]:List Int)),.blk ha [rP ha 0,rv v6] 112]) rfl (Bx (wa rfl (Aq (Ay (Ca (H2:=[.blk ha [rP ha 0,rv v6] 112,.row v6 5 1 (AE Bc (r1++([c]:List Int))),.row (.slice (some ⟨b5,0,none⟩) 1 1) 5 1 (AE Bc ([c]:List Int))]) ((Aj (i:=2) rfl).trans (Abn _ (Abo _))) ?_)))))));obtain rfl:=Az h8;exact Ax (Ct Tryz.results122 (AL rfl)) (sC (sC (sS sN))) ⟨v6,rfl,rfl⟩
theorem Mn (ha:Nat)(hb:Value)(l:(List Int))(s:Ag)(r:Int×Unit×(List Int))(h:Ht l s=some r):Fn Tryz.prog GE 120 [rP ha 0,rS s] [.blk ha [rv (.pointer none),rv hb] 112,.row hb 5 1 (AE Bc l)] (λR H=>∃w0:Value,R=C2 [Am r.1,rv (.nilIface)]∧H=[.blk ha [rP ha 0,rv w0] 112,.row w0 5 1 (AE Bc r.2.2)]):=by
 refine enter (n:=19) Tryz.func120 rfl Tryz.ntmps120 rfl (λw Z=>?_);unfold Ht at h;refine Ah (wa rfl (wa rfl (Bx (wm rfl (ob h λr1 e3 h2=>DY (Hr:=[]) Tryz.call154 (Rj ha hb l r1 e3) rfl (Abo _) rfl ?_)))));rintro _ _ ⟨v4,rfl,rfl⟩;refine Bx (wm rfl (wm rfl (wv (Ar rfl) (vF Gf rfl Jz (vL 0 PL rfl (wm rfl (ck h2 λg6 h7=>Exists.elim LW λinf hinf=>Gj (xs:=r1) (i:=1) GS C3 hinf.1 hinf.2.1 hinf.2.2.1 hinf.2.2.2 rfl rfl rfl g6 rfl (λv5=>?_))))))));refine wv (Ar rfl) (vF Gf rfl Jz (B5 (i:=1) Jz rfl rfl (DL (i:=0) rfl) rfl rfl (cs':=[rP ha 0,rv v5]) rfl (H':=[.row v5 5 1 (AE Bc (r1++CC s)),.blk ha [rP ha 0,rv v5] 112]) rfl (Bx (wm rfl (wv (Bv C3 rfl) (wa rfl (wa rfl (Aq (Ay (Ca (H2:=[.blk ha [rP ha 0,rv v5] 112,.row v5 5 1 (AE Bc (r1++CC s))]) ((Aj (i:=1) rfl).trans (Abn _ (Abo _))) ?_))))))))));obtain rfl:=Az h7;exact Ax (EB Tryz.results120 (AL rfl) (AL rfl)) (sC (sC sN)) ⟨v5,rfl,rfl⟩
theorem Sh (ha:Nat)(hb:Value)(l:Ag)(r:Ag)(h:NH l=some r):Fn Tryz.prog GE 88 [rP ha 0] [.blk ha [rv (.pointer none),rv hb] 112,.row hb 5 1 (AE Bc (CC l))] (λR H=>R=rS r∧H=[]):=by
 refine enter (n:=14) Tryz.func88 rfl Tryz.ntmps88 rfl (λw Z=>?_);unfold NH at h;refine Ah (wv (r:=rS ([]:Ag)) (Aw rfl) (Aq (Ao (ck h λg1 h2=>G7 (H1:=[.blk ha [rv (.pointer none),rv hb] 112]) [0] [⟨[],rP ha 0,0⟩,⟨[0],rP ha 0,0⟩,⟨[1],rP ha 1,0⟩,⟨[2],rv hb,1⟩,⟨[3],rv (slp hb),1⟩,⟨[],rP ha 0,0⟩,⟨[5],rP ha 0,0⟩,⟨[6],rP ha 1,0⟩,⟨[7],rv hb,1⟩,⟨[8],Am ((CC l).length:Int),1⟩,⟨[4,9],rS l,2⟩,⟨[10],rS l,0⟩] (rle [(11,_),(2,[.blk ha [rv (.pointer none),rv hb] 112])]) [2] ?_ ?_))))
 ·refine oq (Al rfl) (oq (Ar rfl) (oq (A5 Gf rfl Jz rfl rfl) (of (AT (i:=0) PL rfl rfl rfl) (of (LS (i:=1) rfl rfl (My g1)) (oq (Al rfl) (oq (Ar rfl) (oq (A5 Gf rfl Jz rfl rfl) (of (AT (i:=0) PL rfl rfl rfl) (of (C5 (ys:=CC l) (enc:=Bc) (i:=1) GS rfl rfl) (JC rfl (Aal (IS (i:=1) Tryz.underlying150 (by kernel_rfl) rfl rfl rfl (My g1) rfl)) ?_))))))))));refine oq (Aw rfl) ?_;exact Ci
 refine AP (Ay ?_);obtain rfl:=Az h2;exact Ax (Ct Tryz.results88 (AL rfl)) (sS sN) ⟨rfl,rfl⟩
theorem Ri (ha:Nat)(hb:Value)(l:(List Int))(r:(List Int))(h:L9 l=some r):Fn Tryz.prog GE 154 [rP ha 0] [.blk ha [rP ha 0,rv hb] 112,.row hb 5 1 (AE Bc l)] (λR H=>∃w0:Value,R=rv (.tuple #[])∧H=[.blk ha [rP ha 0,rv w0] 112,.row w0 5 1 (AE Bc r)]):=by
 refine enter (n:=20) Tryz.func154 rfl Tryz.ntmps154 rfl (λw Z=>?_);unfold L9 at h;refine Ah (wm rfl (wv (Ar rfl) (vF Gf rfl PH (vL 0 Ei rfl (wv (r:=rB false) (Pp ⟨_,PF⟩ rfl) (Aq (Dp rfl rfl (Ah (wm rfl (wv (Ar rfl) (vF Gf rfl PH (vL 0 Ei rfl (wm rfl (wv (r:=rB false) (RI PF QO rfl rfl) (Aq (Dp rfl rfl (A2 ?_)))))))))))))))));obtain rfl:=Az h;exact G6 (T7 Tryz.results154) (sC (sC sN)) ⟨hb,rfl,rfl⟩
theorem Oc (ha:Nat)(hb:Value)(l:(List Int))(c:Int)(r:Unit×(List Int))(h:IQ l c=some r):Fn Tryz.prog GE 122 [rP ha 0,rI .u8 c] [.blk ha [rP ha 0,rv hb] 112,.row hb 5 1 (AE Bc l)] (λR H=>∃w0:Value,R=rv (.nilIface)∧H=[.blk ha [rP ha 0,rv w0] 112,.row w0 5 1 (AE Bc r.2)]):=by
 refine enter (n:=17) Tryz.func122 rfl Tryz.ntmps122 rfl (λw Z=>?_);unfold IQ at h;refine Ah (wa rfl (Bx (wm rfl (ob h λr1 e3 h2=>DY (Hr:=[]) Tryz.call154 (Ri ha hb l r1 e3) rfl (Abo _) rfl ?_))));rintro _ _ ⟨v4,rfl,rfl⟩;refine Bx (wm rfl (wm rfl (wv (Ar rfl) (vF Gf rfl Jz (vL 0 PL rfl (wm rfl (AW (ys:=([c]:List Int)) (enc:=Bc) (css:=[[rI .u8 c]]) (xs:=[.tmp 12]) GS ys5 ZZ rfl rfl rfl ⟨GR.one rfl (Up.refl _),trivial⟩ rfl Dr rfl rfl rfl (λb5=>?_))))))));refine ck h2 λg7 h8=>Exists.elim LW λinf hinf=>Cb (xs:=r1) (ys:=([c]:List Int)) (enc:=Bc) (i:=2) GS hinf.1 hinf.2.1 hinf.2.2.1 hinf.2.2.2 rfl rfl rfl rfl rfl (LD.w (i:=0) rfl rfl) Dr Jx g7 rfl (λv6=>?_);refine wv (Ar rfl) (vF Gf rfl Jz (B5 (i:=2) Jz rfl rfl (DL (i:=0) rfl) rfl rfl (cs':=[rP ha 0,rv v6]) rfl (H':=[.row v6 5 1 (AE Bc (r1++([c]:List Int))),.row (.slice (some ⟨b5,0,none⟩) 1 1) 5 1 (AE Bc ([c]:List Int)),.blk ha [rP ha 0,rv v6] 112]) rfl (Bx (wa rfl (Aq (Ay (Ca (H2:=[.blk ha [rP ha 0,rv v6] 112,.row v6 5 1 (AE Bc (r1++([c]:List Int))),.row (.slice (some ⟨b5,0,none⟩) 1 1) 5 1 (AE Bc ([c]:List Int))]) ((Aj (i:=2) rfl).trans (Abn _ (Abo _))) ?_)))))));obtain rfl:=Az h8;exact Ax (Ct Tryz.results122 (AL rfl)) (sC (sC (sS sN))) ⟨v6,rfl,rfl⟩
theorem Mm (ha:Nat)(hb:Value)(l:(List Int))(s:Ag)(r:Int×Unit×(List Int))(h:Hq l s=some r):Fn Tryz.prog GE 120 [rP ha 0,rS s] [.blk ha [rP ha 0,rv hb] 112,.row hb 5 1 (AE Bc l)] (λR H=>∃w0:Value,R=C2 [Am r.1,rv (.nilIface)]∧H=[.blk ha [rP ha 0,rv w0] 112,.row w0 5 1 (AE Bc r.2.2)]):=by
 refine enter (n:=19) Tryz.func120 rfl Tryz.ntmps120 rfl (λw Z=>?_);unfold Hq at h;refine Ah (wa rfl (wa rfl (Bx (wm rfl (ob h λr1 e3 h2=>DY (Hr:=[]) Tryz.call154 (Ri ha hb l r1 e3) rfl (Abo _) rfl ?_)))));rintro _ _ ⟨v4,rfl,rfl⟩;refine Bx (wm rfl (wm rfl (wv (Ar rfl) (vF Gf rfl Jz (vL 0 PL rfl (wm rfl (ck h2 λg6 h7=>Exists.elim LW λinf hinf=>Gj (xs:=r1) (i:=1) GS C3 hinf.1 hinf.2.1 hinf.2.2.1 hinf.2.2.2 rfl rfl rfl g6 rfl (λv5=>?_))))))));refine wv (Ar rfl) (vF Gf rfl Jz (B5 (i:=1) Jz rfl rfl (DL (i:=0) rfl) rfl rfl (cs':=[rP ha 0,rv v5]) rfl (H':=[.row v5 5 1 (AE Bc (r1++CC s)),.blk ha [rP ha 0,rv v5] 112]) rfl (Bx (wm rfl (wv (Bv C3 rfl) (wa rfl (wa rfl (Aq (Ay (Ca (H2:=[.blk ha [rP ha 0,rv v5] 112,.row v5 5 1 (AE Bc (r1++CC s))]) ((Aj (i:=1) rfl).trans (Abn _ (Abo _))) ?_))))))))));obtain rfl:=Az h7;exact Ax (EB Tryz.results120 (AL rfl) (AL rfl)) (sC (sC sN)) ⟨v5,rfl,rfl⟩
theorem Sg (ha:Nat)(hb:Value)(l:Ag)(r:Ag)(h:NG l=some r):Fn Tryz.prog GE 88 [rP ha 0] [.blk ha [rP ha 0,rv hb] 112,.row hb 5 1 (AE Bc (CC l))] (λR H=>R=rS r∧H=[]):=by
 refine enter (n:=14) Tryz.func88 rfl Tryz.ntmps88 rfl (λw Z=>?_);unfold NG at h;refine Ah (wv (r:=rS ([]:Ag)) (Aw rfl) (Aq (Ao (ck h λg1 h2=>G7 (H1:=[.blk ha [rP ha 0,rv hb] 112]) [0] [⟨[],rP ha 0,0⟩,⟨[0],rP ha 0,0⟩,⟨[1],rP ha 1,0⟩,⟨[2],rv hb,1⟩,⟨[3],rv (slp hb),1⟩,⟨[],rP ha 0,0⟩,⟨[5],rP ha 0,0⟩,⟨[6],rP ha 1,0⟩,⟨[7],rv hb,1⟩,⟨[8],Am ((CC l).length:Int),1⟩,⟨[4,9],rS l,2⟩,⟨[10],rS l,0⟩] (rle [(11,_),(2,[.blk ha [rP ha 0,rv hb] 112])]) [2] ?_ ?_))))
 ·refine oq (Al rfl) (oq (Ar rfl) (oq (A5 Gf rfl Jz rfl rfl) (of (AT (i:=0) PL rfl rfl rfl) (of (LS (i:=1) rfl rfl (My g1)) (oq (Al rfl) (oq (Ar rfl) (oq (A5 Gf rfl Jz rfl rfl) (of (AT (i:=0) PL rfl rfl rfl) (of (C5 (ys:=CC l) (enc:=Bc) (i:=1) GS rfl rfl) (JC rfl (Aal (IS (i:=1) Tryz.underlying150 (by kernel_rfl) rfl rfl rfl (My g1) rfl)) ?_))))))))));refine oq (Aw rfl) ?_;exact Ci
 refine AP (Ay ?_);obtain rfl:=Az h2;exact Ax (Ct Tryz.results88 (AL rfl)) (sS sN) ⟨rfl,rfl⟩
theorem Cg (b:Nat)(v:Value)(l:Ag)(c:Int)(g1:Dw 1 (l.length+1)=true)(g2:B7 .u8 c=true):Fn Tryz.prog GE 122 [rP b 0,rI .u8 c] [.bld 112 5 b v l] (λR H=>∃w0:Value,R=rv .nilIface∧H=[.bld 112 5 b w0 (l++[UInt8.ofNat c.toNat])]):=by
  have hc:CC (l++[UInt8.ofNat c.toNat])=CC l++[c]:=by
    have:=(by simpa[B7,IntKind.min,IntKind.max,IntKind.signed,IntKind.bits] using g2:0≤c∧c≤255)
    simp only[CC,Ack,AbR,List.map_nil]
    congr 2
    simp;omega
  refine Fn.bld (res:=rv .nilIface) λp hp=>?_;rw[hc];rcases hp with rfl | rfl
  · refine(Od b v (CC l) c (((),CC l++[c])) ?_).sub (GQ.refl _) (λr H h=>by obtain⟨w0,h1,h2⟩:=h;exact⟨w0,h1,h2⟩)
    simp only[IR,LA,Bi,C0];simp[AR,g1]
  · refine(Oc b v (CC l) c (((),CC l++[c])) ?_).sub (GQ.refl _) (λr H h=>by obtain⟨w0,h1,h2⟩:=h;exact⟨w0,h1,h2⟩)
    simp only[IQ,L9,Bi,C0];simp[AR,g1]
theorem Hj (b:Nat)(v:Value)(l s:Ag)(g1:Dw 1 (l.length+s.length)=true):Fn Tryz.prog GE 120 [rP b 0,rS s] [.bld 112 5 b v l] (λR H=>∃w0:Value,R=C2 [Am (s.length:Int),rv .nilIface]∧H=[.bld 112 5 b w0 (l++s)]):=by
  have hc:CC (l++s)=CC l++CC s:=by simp[CC]
  refine Fn.bld (res:=C2 [Am (s.length:Int),rv .nilIface]) λp hp=>?_;rw[hc];rcases hp with rfl | rfl
  · refine(Mn b v (CC l) s (((s.length:Int),(),CC l++CC s)) ?_).sub (GQ.refl _) (λr H h=>by obtain⟨w0,h1,h2⟩:=h;exact⟨w0,h1,h2⟩)
    simp only[Ht,LA,Bi,C0];simp[AR,g1]
  · refine(Mm b v (CC l) s (((s.length:Int),(),CC l++CC s)) ?_).sub (GQ.refl _) (λr H h=>by obtain⟨w0,h1,h2⟩:=h;exact⟨w0,h1,h2⟩)
    simp only[Hq,L9,Bi,C0];simp[AR,g1]
theorem UD (b:Nat)(v:Value)(l:Ag)(g1:decide (0<l.length)=true):Fn Tryz.prog GE 88 [rP b 0] [.bld 112 5 b v l] (λR H=>R=rS l∧H=[]):=by
  refine Fn.bldS (res:=rS l) λp hp=>?_;rcases hp with rfl | rfl
  · exact Sh b v l l (by simp only[NH,C0];simp[AR,g1])
  · exact Sg b v l l (by simp only[NG,C0];simp[AR,g1])
end Go.Proofs.YtjfnokmpfekniaaGreatDoor.Q
namespace Go.Proofs.YtjfnokmpfekniaaGreatDoor
open Go
set_option linter.unusedVariables false
structure Aa where
 fKind:Int
 fInt:Int
 fStr:Ag
 fN:Int
 deriving DecidableEq,Inhabited
def TC (s:Ag)(ha:Int):Option (Stp (Int) (Out (Bool) (Unit))):=
 AV (decide (ha<(s.length:Int))) (AR (CG ha (s.length:Int))<|AV (((decide ((Ba s ha)<32))||(decide (126<(Ba s ha))))) (some (.out (.ret false))) (AR (B7 .i64 (ha+1))<|some (.next (ha+1)))) (some (.out (.go ())))
def TA :Option (Bool):=
 some true
def Pf (F:Nat)(s:Ag):Option (Bool):=
 Bi (BE (λσ=>TC s σ) F 0) (By λν=>TA )
def CF (ok:Bool)(i:Int):Option (Int):=
 AV (ok) (AR (B7 .i64 (i+1))<|some (i+1)) (some (-1))
def V4 (F:Nat)(c:Aa):Option (Bool):=
 AR (imp (decide (c.fKind=4)) (imp (decide (c.fInt=0)) (imp (decide (c.fN=0)) ((Pf F c.fStr).isSome))))<|some ((decide (c.fKind=4))&&((decide (c.fInt=0))&&((decide (c.fN=0))&&(ov (Pf F c.fStr)))))
def V3 (F:Nat)(ha:(List Aa)→Int→Int→Option (Int))(hb:(List Aa)→Int→Int→Option (Int))(v:(List Aa))(i:Int):Option (Int):=
 AV (((decide (i<0))||(decide ((v.length:Int)≤i)))) (some (-1)) (AR (CG i (v.length:Int))<|AV (decide (((Ap v i).fKind)=1)) (AR (imp (decide (((Ap v i).fInt)=0)) (imp (decide (((Ap v i).fStr)=([]:Ag))) ((CF (decide (((Ap v i).fN)=0)) i).isSome)))<|AR (imp (decide (((Ap v i).fInt)=0)) (imp (!(decide (((Ap v i).fStr)=([]:Ag)))) ((CF false i).isSome)))<|AR (imp (!(decide (((Ap v i).fInt)=0))) ((CF false i).isSome))<|some (bif decide (((Ap v i).fInt)=0) then(bif decide (((Ap v i).fStr)=([]:Ag)) then(ov (CF (decide (((Ap v i).fN)=0)) i)) else(ov (CF false i))) else(ov (CF false i)))) (AV (decide (((Ap v i).fKind)=2)) (AR (imp (decide (((Ap v i).fInt)=0)) (imp (decide (((Ap v i).fStr)=([]:Ag))) ((CF (decide (((Ap v i).fN)=0)) i).isSome)))<|AR (imp (decide (((Ap v i).fInt)=0)) (imp (!(decide (((Ap v i).fStr)=([]:Ag)))) ((CF false i).isSome)))<|AR (imp (!(decide (((Ap v i).fInt)=0))) (imp (decide (((Ap v i).fInt)=1)) (imp (decide (((Ap v i).fStr)=([]:Ag))) ((CF (decide (((Ap v i).fN)=0)) i).isSome))))<|AR (imp (!(decide (((Ap v i).fInt)=0))) (imp (decide (((Ap v i).fInt)=1)) (imp (!(decide (((Ap v i).fStr)=([]:Ag)))) ((CF false i).isSome))))<|AR (imp (!(decide (((Ap v i).fInt)=0))) (imp (!(decide (((Ap v i).fInt)=1))) ((CF false i).isSome)))<|some (bif decide (((Ap v i).fInt)=0) then(bif decide (((Ap v i).fStr)=([]:Ag)) then(ov (CF (decide (((Ap v i).fN)=0)) i)) else(ov (CF false i))) else(bif decide (((Ap v i).fInt)=1) then(bif decide (((Ap v i).fStr)=([]:Ag)) then(ov (CF (decide (((Ap v i).fN)=0)) i)) else(ov (CF false i))) else(ov (CF false i))))) (AV (decide (((Ap v i).fKind)=3)) (AR (imp (decide (((Ap v i).fStr)=([]:Ag))) ((CF (decide (((Ap v i).fN)=0)) i).isSome))<|AR (imp (!(decide (((Ap v i).fStr)=([]:Ag)))) ((CF false i).isSome))<|some (bif decide (((Ap v i).fStr)=([]:Ag)) then(ov (CF (decide (((Ap v i).fN)=0)) i)) else(ov (CF false i)))) (AV (decide (((Ap v i).fKind)=4)) (Bi (V4 F (Ap v i)) λhd=>Bi (CF hd i) λhe=>some he) (AV (((decide (((Ap v i).fKind)=5))&&((decide (((Ap v i).fInt)=0))&&((decide (((Ap v i).fStr)=([]:Ag)))&&(decide (0≤((Ap v i).fN))))))) (AR (B7 .i64 (i+1))<|Bi (ha v (i+1) ((Ap v i).fN)) λhf=>some hf) (AV (((decide (((Ap v i).fKind)=6))&&((decide (((Ap v i).fInt)=0))&&((decide (((Ap v i).fStr)=([]:Ag)))&&(decide (0≤((Ap v i).fN))))))) (AR (B7 .i64 (i+1))<|Bi (hb v (i+1) ((Ap v i).fN)) λhg=>some hg) (some (-1))))))))
def DJ (v:(List Aa))(n:Int)(he:(List Aa)→Int→Option (Int))(hb:Int)(ha:Int):Option (Stp (Int×Int) (Out (Int) (Int))):=
 AV (decide (ha<n)) (Bi (he v hb) λhd=>AV (decide (hd<0)) (some (.out (.ret (-1)))) (AR (B7 .i64 (ha+1))<|some (.next (hd,ha+1)))) (some (.out (.go hb)))
def HY (ha:Int):Option (Int):=
 some ha
def MY (F:Nat)(ha:(List Aa)→Int→Option (Int))(v:(List Aa))(i:Int)(n:Int):Option (Int):=
 Bi (BE (λσ=>DJ v n ha σ.1 σ.2) F (i,0)) (By λν=>HY ν)
def El (F:Nat)(v:(List Aa))(n:Int)(hf:(List Aa)→Int→Option (Int))(ha:Int)(hd:Ag)(hb:Int):Option (Stp (Int×Ag×Int) (Out (Int) (Int))):=
 AV (decide (hb<n)) (AR (imp (!(decide ((v.length:Int)≤ha))) (CG ha (v.length:Int)))<|AR (imp (!(decide ((v.length:Int)≤ha))) ((V4 F (Ap v ha)).isSome))<|AV (((decide ((v.length:Int)≤ha))||((!(ov (V4 F (Ap v ha))))||((decide (0<hb))&&(B3 ((Ap v ha).fStr) hd||decide (((Ap v ha).fStr)=hd)))))) (some (.out (.ret (-1)))) (AR (CG ha (v.length:Int))<|AR (B7 .i64 (ha+1))<|Bi (hf v (ha+1)) λhe=>AV (decide (he<0)) (some (.out (.ret (-1)))) (AR (B7 .i64 (hb+1))<|some (.next (he,(Ap v ha).fStr,hb+1))))) (some (.out (.go ha)))
def Ln (ha:Int):Option (Int):=
 some ha
def S4 (F:Nat)(ha:(List Aa)→Int→Option (Int))(v:(List Aa))(i:Int)(n:Int):Option (Int):=
 Bi (BE (λσ=>El F v n ha σ.1 σ.2.1 σ.2.2) F (i,([]:Ag),0)) (By λν=>Ln ν)
mutual
def E4:Nat→(List Aa)→Int→Option (Int)
 | 0,_,_=>none
 | nn+1,v,i=>V3 nn (Ot nn) (V2 nn) v i
def Ot:Nat→(List Aa)→Int→Int→Option (Int)
 | 0,_,_,_=>none
 | nn+1,v,i,n=>MY nn (E4 nn) v i n
def V2:Nat→(List Aa)→Int→Int→Option (Int)
 | 0,_,_,_=>none
 | nn+1,v,i,n=>S4 nn (E4 nn) v i n
end
def Pg (F:Nat)(v:(List Aa)):Option (Bool):=
 AR (imp (decide (0<(v.length:Int))) ((E4 F v 0).isSome))<|some ((decide (0<(v.length:Int)))&&(decide ((ov (E4 F v 0))=(v.length:Int))))
def Dg (F:Nat)(v:(List Aa))(i:Int)(he:(List Aa)→Int→Option (Int))(hd:Int)(hb:Int)(ha:Int):Option (Stp (Int×Int×Int) (Out (Int) (Int))):=
 AV (decide (ha<((Ap v i).fN))) (AV (decide (((Ap v i).fKind)=6)) (AR (B7 .i64 (hb+1))<|Bi (he v (hb+1)) λhf=>AV (decide (hd<hf)) (Bi (E4 F v (hb+1)) λhh=>AR (B7 .i64 (ha+1))<|some (.next (hf,hh,ha+1))) (Bi (E4 F v (hb+1)) λhi=>AR (B7 .i64 (ha+1))<|some (.next (hd,hi,ha+1)))) (Bi (he v hb) λhg=>AV (decide (hd<hg)) (Bi (E4 F v hb) λhj=>AR (B7 .i64 (ha+1))<|some (.next (hg,hj,ha+1))) (Bi (E4 F v hb) λhk=>AR (B7 .i64 (ha+1))<|some (.next (hd,hk,ha+1))))) (some (.out (.go hd)))
def GD (ha:Int):Option (Int):=
 AR (B7 .i64 (ha+1))<|some (ha+1)
def K4 (F:Nat)(ha:(List Aa)→Int→Option (Int))(v:(List Aa))(i:Int):Option (Int):=
 AR (CG i (v.length:Int))<|AV (((!decide (((Ap v i).fKind)=5))&&(!decide (((Ap v i).fKind)=6)))) (some 1) (AR (B7 .i64 (i+1))<|Bi (BE (λσ=>Dg F v i ha σ.1 σ.2.1 σ.2.2) F (0,i+1,0)) (By λν=>GD ν))
def Es:Nat→(List Aa)→Int→Option (Int)
 | 0,_,_=>none
 | nn+1,v,i=>K4 nn (Es nn) v i
def DA (s:Ag)(hb:Ag)(ha:Int):Option (Stp (Ag×Int) (Out (Ag) (Ag))):=
 AV (decide (ha<(s.length:Int))) (AR (CG ha (s.length:Int))<|AV (((decide ((Ba s ha)=34))||(decide ((Ba s ha)=92)))) (AR (B7 .i64 ((hb.length:Int)+(([92]:Ag).length:Int)))<|AR (B7 .i64 (ha+1))<|AR (GU ha (ha+1))<|AR (GU (ha+1) (s.length:Int))<|AR (B7 .i64 (((hb++([92]:Ag)).length:Int)+((List.take (Int.toNat (ha+1)-Int.toNat ha) (List.drop (Int.toNat ha) s)).length:Int)))<|some (.next ((hb++([92]:Ag))++(List.take (Int.toNat (ha+1)-Int.toNat ha) (List.drop (Int.toNat ha) s)),ha+1))) (AR (B7 .i64 (ha+1))<|AR (GU ha (ha+1))<|AR (GU (ha+1) (s.length:Int))<|AR (B7 .i64 ((hb.length:Int)+((List.take (Int.toNat (ha+1)-Int.toNat ha) (List.drop (Int.toNat ha) s)).length:Int)))<|some (.next (hb++(List.take (Int.toNat (ha+1)-Int.toNat ha) (List.drop (Int.toNat ha) s)),ha+1)))) (some (.out (.go hb)))
def EC (ha:Ag):Option (Ag):=
 AR (B7 .i64 ((ha.length:Int)+(([34]:Ag).length:Int)))<|some (ha++([34]:Ag))
def K3 (F:Nat)(s:Ag):Option (Ag):=
 Bi (BE (λσ=>DA s σ.1 σ.2) F (([34]:Ag),0)) (By λν=>EC ν)
def ES (F:Nat)(v:(List Aa))(i:Int)(he:(List Aa)→Int→Option (Ag))(ha:Ag)(hb:Int)(hd:Int):Option (Stp (Ag×Int×Int) (Out (Ag) (Ag))):=
 AV (decide (hd<((Ap v i).fN))) (AV (decide (0<hd)) (AR (B7 .i64 ((ha.length:Int)+(([44]:Ag).length:Int)))<|AV (decide (((Ap v i).fKind)=6)) (AR (CG hb (v.length:Int))<|Bi (K3 F ((Ap v hb).fStr)) λhf=>AR (B7 .i64 (((ha++([44]:Ag)).length:Int)+(hf.length:Int)))<|AR (B7 .i64 ((((ha++([44]:Ag))++hf).length:Int)+(([58]:Ag).length:Int)))<|AR (B7 .i64 (hb+1))<|Bi (he v (hb+1)) λhh=>AR (B7 .i64 (((((ha++([44]:Ag))++hf)++([58]:Ag)).length:Int)+(hh.length:Int)))<|Bi (E4 F v (hb+1)) λhl=>AR (B7 .i64 (hd+1))<|some (.next ((((ha++([44]:Ag))++hf)++([58]:Ag))++hh,hl,hd+1))) (Bi (he v hb) λhi=>AR (B7 .i64 (((ha++([44]:Ag)).length:Int)+(hi.length:Int)))<|Bi (E4 F v hb) λhm=>AR (B7 .i64 (hd+1))<|some (.next ((ha++([44]:Ag))++hi,hm,hd+1)))) (AV (decide (((Ap v i).fKind)=6)) (AR (CG hb (v.length:Int))<|Bi (K3 F ((Ap v hb).fStr)) λhg=>AR (B7 .i64 ((ha.length:Int)+(hg.length:Int)))<|AR (B7 .i64 (((ha++hg).length:Int)+(([58]:Ag).length:Int)))<|AR (B7 .i64 (hb+1))<|Bi (he v (hb+1)) λhj=>AR (B7 .i64 ((((ha++hg)++([58]:Ag)).length:Int)+(hj.length:Int)))<|Bi (E4 F v (hb+1)) λhn=>AR (B7 .i64 (hd+1))<|some (.next (((ha++hg)++([58]:Ag))++hj,hn,hd+1))) (Bi (he v hb) λhk=>AR (B7 .i64 ((ha.length:Int)+(hk.length:Int)))<|Bi (E4 F v hb) λho=>AR (B7 .i64 (hd+1))<|some (.next (ha++hk,ho,hd+1))))) (some (.out (.go ha)))
def K2 (v:(List Aa))(i:Int)(ha:Ag):Option (Ag):=
 AV (decide (((Ap v i).fKind)=6)) (AR (B7 .i64 ((([123]:Ag).length:Int)+(ha.length:Int)))<|AR (B7 .i64 (((([123]:Ag)++ha).length:Int)+(([125]:Ag).length:Int)))<|some ((([123]:Ag)++ha)++([125]:Ag))) (AR (B7 .i64 ((([91]:Ag).length:Int)+(ha.length:Int)))<|AR (B7 .i64 (((([91]:Ag)++ha).length:Int)+(([93]:Ag).length:Int)))<|some ((([91]:Ag)++ha)++([93]:Ag)))
def Pc (F:Nat)(ha:(List Aa)→Int→Option (Ag))(v:(List Aa))(i:Int):Option (Ag):=
 AR (CG i (v.length:Int))<|AV (decide (((Ap v i).fKind)=1)) (some ([110,117,108,108]:Ag)) (AV (decide (((Ap v i).fKind)=2)) (AV (decide (((Ap v i).fInt)=1)) (some ([116,114,117,101]:Ag)) (some ([102,97,108,115,101]:Ag))) (AV (decide (((Ap v i).fKind)=3)) (AR (B7 .i64 ((Ap v i).fInt))<|some (Lib.itoa ((Ap v i).fInt))) (AV (decide (((Ap v i).fKind)=4)) (Bi (K3 F ((Ap v i).fStr)) λhb=>some hb) (AR (B7 .i64 (i+1))<|Bi (BE (λσ=>ES F v i ha σ.1 σ.2.1 σ.2.2) F (([]:Ag),i+1,0)) (By λν=>K2 v i ν)))))
def IA:Nat→(List Aa)→Int→Option (Ag)
 | 0,_,_=>none
 | nn+1,v,i=>Pc nn (IA nn) v i
def Gx (v:(List Aa))(ha:Int):Option (Stp (Int) (Out (Int) (Unit))):=
 AV (decide (ha<(v.length:Int))) (AR (CG ha (v.length:Int))<|AV (decide (200<(((Ap v ha).fStr).length:Int))) (some (.out (.ret 3))) (AR (B7 .i64 (ha+1))<|some (.next (ha+1)))) (some (.out (.go ())))
def Ou (F:Nat)(v:(List Aa)):Option (Int):=
 Bi (IA F v 0) λha=>AV (decide (4000<(ha.length:Int))) (some 3) (some 0)
def Gy (v:(List Aa))(ha:Int):Option (Stp (Int) (Out (Int) (Unit))):=
 AV (decide (ha<(v.length:Int))) (AR (CG ha (v.length:Int))<|AV (((decide (((Ap v ha).fKind)=3))&&((decide (((Ap v ha).fInt)<(-1000000000000)))||(decide (1000000000000<((Ap v ha).fInt)))))) (some (.out (.ret 2))) (AR (B7 .i64 (ha+1))<|some (.next (ha+1)))) (some (.out (.go ())))
def Ov (F:Nat)(v:(List Aa)):Option (Int):=
 AR (imp (!(decide (200<(v.length:Int)))) ((Es F v 0).isSome))<|AV (((decide (200<(v.length:Int)))||(decide (8<(ov (Es F v 0)))))) (some 3) (Bi (BE (λσ=>Gx v σ) F 0) (By λν=>Ou F v ))
def R9 (F:Nat)(v:(List Aa)):Option (Int):=
 Bi (Pg F v) λr1=>AV (!r1) (some 1) (Bi (BE (λσ=>Gy v σ) F 0) (By λν=>Ov F v ))
end Go.Proofs.YtjfnokmpfekniaaGreatDoor
namespace Go.Proofs.YtjfnokmpfekniaaGreatDoor.Q
open Go Go.RowKit
set_option linter.unusedVariables false
set_option linter.unusedSimpArgs false
set_option maxRecDepth 100000
set_option maxHeartbeats 4000000
@[reducible] def Ab (x:Aa):List Rp:=[Am x.fKind,Am x.fInt,rS x.fStr,Am x.fN]
theorem Bo (x:Aa):(Ab x).length=4:=rfl
theorem Cw (x:Aa):(Ab x).all (·.one)=true:=rfl
end Go.Proofs.YtjfnokmpfekniaaGreatDoor.Q
namespace Go.Proofs.YtjfnokmpfekniaaGreatDoor
open Go
set_option linter.unusedVariables false
structure A1 where
 fPairs:Bool
 fLeft:Int
 fKey:Bool
 fLast:Ag
 fStarted:Bool
 deriving DecidableEq,Inhabited
structure AC where
 fDepth:Int
 fBytes:Int
 fOutside:Bool
 fLong:Bool
 deriving DecidableEq,Inhabited
def Bz (n:Int):Option (Bool):=
 some ((decide ((-1000000000000)≤n))&&(decide (n≤1000000000000)))
def Hx (s:Ag)(ha:Int):Option (Stp (Int) (Out (Bool) (Unit))):=
 AV (decide (ha<(s.length:Int))) (AR (CG ha (s.length:Int))<|AV (((decide ((Ba s ha)<32))||(decide (126<(Ba s ha))))) (some (.out (.ret false))) (AR (B7 .i64 (ha+1))<|some (.next (ha+1)))) (some (.out (.go ())))
def Hw :Option (Bool):=
 some true
def Kn (F:Nat)(s:Ag):Option (Bool):=
 Bi (BE (λσ=>Hx s σ) F 0) (By λν=>Hw )
def Jb (s:Ag):Option (Int):=
 AR (B7 .i64 ((s.length:Int)+2))<|AR (B7 .i64 (((s.length:Int)+2)+(Lib.countByte s 34:Int)))<|AR (B7 .i64 ((((s.length:Int)+2)+(Lib.countByte s 34:Int))+(Lib.countByte s 92:Int)))<|some ((((s.length:Int)+2)+(Lib.countByte s 34:Int))+(Lib.countByte s 92:Int))
def MM (F:Nat)(c:Aa):Option (Bool):=
 AV (decide (c.fKind=1)) (some ((decide (c.fInt=0))&&((decide (c.fStr=([]:Ag)))&&(decide (c.fN=0))))) (AV (decide (c.fKind=2)) (some (bif decide (c.fInt=0) then((decide (c.fStr=([]:Ag)))&&(decide (c.fN=0))) else((decide (c.fInt=1))&&((decide (c.fStr=([]:Ag)))&&(decide (c.fN=0)))))) (AV (decide (c.fKind=3)) (some ((decide (c.fStr=([]:Ag)))&&(decide (c.fN=0)))) (AV (decide (c.fKind=4)) (AR (imp (decide (c.fInt=0)) (imp (decide (c.fN=0)) ((Kn F c.fStr).isSome)))<|some ((decide (c.fInt=0))&&((decide (c.fN=0))&&(ov (Kn F c.fStr))))) (AV (decide (c.fKind=5)) (some ((decide (c.fInt=0))&&((decide (c.fStr=([]:Ag)))&&(decide (0≤c.fN))))) (AV (decide (c.fKind=6)) (some ((decide (c.fInt=0))&&((decide (c.fStr=([]:Ag)))&&(decide (0≤c.fN))))) (some false))))))
def PQ (c:Aa):Option (Int):=
 AV (decide (c.fKind=1)) (some 4) (AV (decide (c.fKind=2)) (some (IntKind.wrap .i64 (5-c.fInt))) (AV (decide (c.fKind=3)) (AR (B7 .i64 c.fInt)<|some ((Lib.itoa c.fInt).length:Int)) (AV (decide (c.fKind=4)) (Bi (Jb c.fStr) λha=>some ha) (some (IntKind.wrap .i64 (2+(max 0 (IntKind.wrap .i64 (c.fN-1)))))))))
def D9 (ha:(List A1)):Option (Stp ((List A1)) (Out ((List A1)) ((List A1)))):=
 AV (decide (0<(ha.length:Int))) (AR (B7 .i64 ((ha.length:Int)-1))<|AR (CG ((ha.length:Int)-1) (ha.length:Int))<|AR (B7 .i64 (((Ap ha ((ha.length:Int)-1)).fLeft)-1))<|Lb (List.set ha (Int.toNat ((ha.length:Int)-1)) (A1.mk ((Ap ha ((ha.length:Int)-1)).fPairs) (((Ap ha ((ha.length:Int)-1)).fLeft)-1) ((Ap ha ((ha.length:Int)-1)).fKey) ((Ap ha ((ha.length:Int)-1)).fLast) ((Ap ha ((ha.length:Int)-1)).fStarted))) λhb=>AV (decide (0<((Ap hb ((ha.length:Int)-1)).fLeft))) (Lb (List.set hb (Int.toNat ((ha.length:Int)-1)) (A1.mk ((Ap hb ((ha.length:Int)-1)).fPairs) ((Ap hb ((ha.length:Int)-1)).fLeft) ((Ap hb ((ha.length:Int)-1)).fPairs) ((Ap hb ((ha.length:Int)-1)).fLast) ((Ap hb ((ha.length:Int)-1)).fStarted))) λhd=>some (.out (.ret hd))) (AR (B7 .i64 ((hb.length:Int)-1))<|AR (GU ((hb.length:Int)-1) (hb.length:Int))<|some (.next (List.take (Int.toNat ((hb.length:Int)-1)) hb)))) (some (.out (.go ha)))
def Ee (ha:(List A1)):Option ((List A1)):=
 some ha
def Kt (F:Nat)(stack:(List A1)):Option ((List A1)):=
 Bi (BE (λσ=>D9 σ) F stack) (By λν=>Ee ν)
def DV (ha:Int)(hb:(List A1))(hd:AC):Option (Stp ((List A1)×Int×AC) (Out (Int×AC×Bool) (AC))):=
 AR (B7 .i64 (ha+1))<|some (.next (hb,ha+1,hd))
def D8 (F:Nat)(v:(List Aa))(ha:(List A1))(hb:Int)(hd:AC):Option (Stp ((List A1)×Int×AC) (Out (Int×AC×Bool) (AC))):=
 AV (decide (hb<(v.length:Int))) (AR (CG hb (v.length:Int))<|Bi (MM F (Ap v hb)) λhj=>AV (!hj) (some (.out (.ret (0,hd,false)))) (AR (imp (decide (0<(ha.length:Int))) (B7 .i64 ((ha.length:Int)-1)))<|AR (imp (decide (0<(ha.length:Int))) (CG ((ha.length:Int)-1) (ha.length:Int)))<|AV (((decide (0<(ha.length:Int)))&&((Ap ha ((ha.length:Int)-1)).fKey))) (AR (B7 .i64 ((ha.length:Int)-1))<|AR (CG ((ha.length:Int)-1) (ha.length:Int))<|AV (((!decide (((Ap v hb).fKind)=4))||(((Ap ha ((ha.length:Int)-1)).fStarted)&&(B3 ((Ap v hb).fStr) ((Ap ha ((ha.length:Int)-1)).fLast)||decide (((Ap v hb).fStr)=((Ap ha ((ha.length:Int)-1)).fLast)))))) (some (.out (.ret (0,hd,false)))) (Lb (List.set ha (Int.toNat ((ha.length:Int)-1)) (A1.mk ((Ap ha ((ha.length:Int)-1)).fPairs) ((Ap ha ((ha.length:Int)-1)).fLeft) ((Ap ha ((ha.length:Int)-1)).fKey) ((Ap v hb).fStr) ((Ap ha ((ha.length:Int)-1)).fStarted))) λhe=>Lb (List.set he (Int.toNat ((ha.length:Int)-1)) (A1.mk ((Ap he ((ha.length:Int)-1)).fPairs) ((Ap he ((ha.length:Int)-1)).fLeft) ((Ap he ((ha.length:Int)-1)).fKey) ((Ap he ((ha.length:Int)-1)).fLast) true)) λhf=>Lb (List.set hf (Int.toNat ((ha.length:Int)-1)) (A1.mk ((Ap hf ((ha.length:Int)-1)).fPairs) ((Ap hf ((ha.length:Int)-1)).fLeft) false ((Ap hf ((ha.length:Int)-1)).fLast) ((Ap hf ((ha.length:Int)-1)).fStarted))) λhk=>Bi (Jb ((Ap v hb).fStr)) λhh=>AR (B7 .i64 (hh+1))<|DV hb hk (AC.mk hd.fDepth (IntKind.wrap .i64 (hd.fBytes+(hh+1))) hd.fOutside (hd.fLong||(decide (200<(((Ap v hb).fStr).length:Int))))))) (AR (B7 .i64 ((ha.length:Int)+1))<|Bi (PQ (Ap v hb)) λhg=>AR (imp (!hd.fOutside) (imp (decide (((Ap v hb).fKind)=3)) ((Bz ((Ap v hb).fInt)).isSome)))<|AV (decide (0<((Ap v hb).fN))) (AV (decide ((v.length:Int)<((Ap v hb).fN))) (some (.out (.ret (0,(AC.mk (max hd.fDepth ((ha.length:Int)+1)) (IntKind.wrap .i64 (hd.fBytes+hg)) (hd.fOutside||((decide (((Ap v hb).fKind)=3))&&(!(ov (Bz ((Ap v hb).fInt)))))) (hd.fLong||(decide (200<(((Ap v hb).fStr).length:Int))))),false)))) (AR (Dw 48 (ha.length+([(A1.mk (decide (((Ap v hb).fKind)=6)) ((Ap v hb).fN) (decide (((Ap v hb).fKind)=6)) ([]:Ag) false)]:List A1).length))<|DV hb (ha++([(A1.mk (decide (((Ap v hb).fKind)=6)) ((Ap v hb).fN) (decide (((Ap v hb).fKind)=6)) ([]:Ag) false)]:List A1)) (AC.mk (max hd.fDepth ((ha.length:Int)+1)) (IntKind.wrap .i64 (hd.fBytes+hg)) (hd.fOutside||((decide (((Ap v hb).fKind)=3))&&(!(ov (Bz ((Ap v hb).fInt)))))) (hd.fLong||(decide (200<(((Ap v hb).fStr).length:Int))))))) (Bi (Kt F ha) λhi=>AV (decide ((hi.length:Int)=0)) (AR (B7 .i64 (hb+1))<|some (.out (.ret (hb+1,(AC.mk (max hd.fDepth ((ha.length:Int)+1)) (IntKind.wrap .i64 (hd.fBytes+hg)) (hd.fOutside||((decide (((Ap v hb).fKind)=3))&&(!(ov (Bz ((Ap v hb).fInt)))))) (hd.fLong||(decide (200<(((Ap v hb).fStr).length:Int))))),true)))) (DV hb hi (AC.mk (max hd.fDepth ((ha.length:Int)+1)) (IntKind.wrap .i64 (hd.fBytes+hg)) (hd.fOutside||((decide (((Ap v hb).fKind)=3))&&(!(ov (Bz ((Ap v hb).fInt)))))) (hd.fLong||(decide (200<(((Ap v hb).fStr).length:Int)))))))))) (some (.out (.go hd)))
def Kq (ha:AC):Option (Int×AC×Bool):=
 some (0,ha,false)
def Ip (F:Nat)(v:(List Aa)):Option (Int×AC×Bool):=
 Bi (BE (λσ=>D8 F v σ.1 σ.2.1 σ.2.2) F (([]:List A1),0,(AC.mk 0 0 false false))) (By λν=>Kq ν)
def JO (F:Nat)(v:(List Aa)):Option (Int):=
 Bi (Ip F v) λr1=>AV (((!r1.2.2)||(!decide (r1.1=(v.length:Int))))) (some 1) (AV (r1.2.1.fOutside) (some 2) (AV ((r1.2.1.fLong||((decide (200<(v.length:Int)))||((decide (8<r1.2.1.fDepth))||(decide (4000<r1.2.1.fBytes)))))) (some 3) (some 0)))
def Ku (F:Nat)(v:(List Aa)):Option ((List Aa)×Int):=
 Bi (JO F v) λr1=>AV (!decide (r1=0)) (some (([]:List Aa),r1)) (some (v,0))
end Go.Proofs.YtjfnokmpfekniaaGreatDoor
namespace Go.Proofs.YtjfnokmpfekniaaGreatDoor.Q
open Go Go.RowKit
set_option linter.unusedVariables false
set_option linter.unusedSimpArgs false
set_option maxRecDepth 100000
set_option maxHeartbeats 4000000
@[reducible] def Av (x:A1):List Rp:=[rB x.fPairs,Am x.fLeft,rB x.fKey,rS x.fLast,rB x.fStarted]
theorem It (x:A1):(Av x).length=5:=rfl
theorem Mk (x:A1):(Av x).all (·.one)=true:=rfl
@[reducible] def AN (x:AC):List Rp:=[Am x.fDepth,Am x.fBytes,rB x.fOutside,rB x.fLong]
theorem Yq:∃inf,Tryz.prog.info? 166=some inf∧inf.zero=some (.agg #[(.bool false),(.int .i64 0),(.bool false),(.string ⟨#[]⟩),(.bool false)])∧inf.size=5∧inf.bytes=48:=by
  have key:(Tryz.prog.info? 166).map (λi=>(i.zero,i.size,i.bytes))=some (some (.agg #[(.bool false),(.int .i64 0),(.bool false),(.string ⟨#[]⟩),(.bool false)]),5,48):=by kernel_rfl
  obtain⟨inf,h1,h2⟩:=Option.map_eq_some_iff.1 key;simp only[Prod.mk.injEq] at h2;exact⟨inf,h1,h2.1,h2.2.1,h2.2.2⟩
theorem Xj (parts:List (Nat×Value)):Tryz.prog.built 166 parts=Instr.fill (λi=>(#[(0,1),(1,1),(2,1),(3,1),(4,1)]:Array (Nat×Nat))[i]?) #[(.bool false),(.int .i64 0),(.bool false),(.string ⟨#[]⟩),(.bool false)] parts:=by kernel_rfl
theorem Lr {n:Nat}{c:Cx}{l:Fr}{H:List Ent}{d:Option Nat}{ty:TypeId}{pos:String}{af:Array Edge}{g:Option (Nat×Bool)}{x0:Operand}{r0:Rp}(h0:ev l x0=some r0)(u0:r0.one=true){x1:Operand}{r1:Rp}(h1:ev l x1=some r1)(u1:r1.one=true){x2:Operand}{r2:Rp}(h2:ev l x2=some r2)(u2:r2.one=true):Bb Tryz.prog n c l H { dst:=d,op:=.build 166 #[(0,x0),(1,x1),(2,x2)],type:=ty,pos:=pos,after:=af,guard:=g } (BC [r0,r1,r2,rS ([]:Ag),rB false]):=λa w Z ha _=>by
  have p0:=ha.ev h0;have c0:=B4 (r0.hone u0 Z _ p0);have p1:=ha.ev h1;have c1:=B4 (r1.hone u1 Z _ p1);have p2:=ha.ev h2;have c2:=B4 (r2.hone u2 Z _ p2);have hb:Tryz.prog.built 166 [(0,a.eval x0),(1,a.eval x1),(2,a.eval x2)]=some #[a.eval x0,a.eval x1,a.eval x2,(.string ⟨#[]⟩),(.bool false)]:=by
    rw[Xj];generalize a.eval x0=v0 at *;generalize a.eval x1=v1 at *;generalize a.eval x2=v2 at *;simp[Instr.fill,c0,c1,c2]
  refine⟨.agg #[a.eval x0,a.eval x1,a.eval x2,(.string ⟨#[]⟩),(.bool false)],⟨[a.eval x0,a.eval x1,a.eval x2,(.string ⟨#[]⟩),(.bool false)],rfl,p0,p1,p2,rfl,rfl,trivial⟩,?_⟩;have:=run_build w 166 #[(0,a.eval x0),(1,a.eval x1),(2,a.eval x2)] _ (by simpa using hb);simp[execOp,this]
theorem VW (n:Int)(r:Bool)(h:Bz n=some r):Fn Tryz.prog GE 99 [Am n] [] (λR H=>R=rB r∧H=[]):=by
 refine enter (n:=9) Tryz.func99 rfl Tryz.ntmps99 rfl (λw Z=>?_);unfold Bz at h;refine Ah (wa rfl (Aq (AO [(2,rB ((decide ((-1000000000000)≤n))&&(decide (n≤1000000000000))))] [] ?_ ?_)))
 ·refine An (wm rfl (wv (NR rfl rfl) (wm rfl (AY (decide ((-1000000000000)≤n)) (λc1=>?_) (λc1=>?_)))))
  ·refine wo c1 (wm rfl (wo c1 (wv (NR rfl rfl) (Kf rfl c1 rfl (wa rfl (At ?_))))));exact D3 c1
  ·refine wf c1 (wf c1 (wv (r:=rB false) (AM rfl c1 rfl) (wa rfl (At ?_))));exact D3 c1
 refine Ay ?_;obtain rfl:=Az h;exact Ax (Ct Tryz.results99 (AL rfl)) sN ⟨rfl,rfl⟩
theorem XD (F:Nat)(s:Ag)(r:Bool)(h:Kn F s=some r):Fn Tryz.prog GE 163 [rS s] [] (λR H=>R=rB r∧H=[]):=by
 refine enter (n:=20) Tryz.func163 rfl Tryz.ntmps163 rfl (λw Z=>?_);unfold Kn at h;refine Ah (wa rfl (Aq (Ao (Ah (wm rfl (wv (Bv C3 rfl) (wv (r:=Am 0) (Al rfl) (Aq (AK (ob h λhi hj hg=>B0 (S:=Nat×(Int)×(Unit)) (V:=(Unit)×(Unit)) 0 (λσ=>BE (λσ=>Hx s σ) σ.1 σ.2.1=some hi) (λσ=>[(0,rS s),(5,Am (s.length:Int)),(6,Am σ.2.1)]) (λσ=>[]) (λσ=>σ.1) (F,0,()) hj (AD.c rfl (AD.c rfl (AD.c rfl AD.nil))) sN (λσ=>Hw =some r) (λσ=>[]) (λσ=>[]) ?_ ?_))))))))))
 ·rintro⟨hz,hb,⟨⟩⟩ hk;refine BY (l':=[(0,rS s),(5,Am (s.length:Int)),(6,Am hb)]) (H':=[]) rfl rfl ?_;obtain⟨hl,rfl,t37,hd,hf⟩:=CO hk;replace hd:Hx s hb=some t37:=hd;unfold Hx at hd;refine Ah (wv (Dv rfl rfl) (Aq (Ao (cz hd rfl (λhm hn=>?_) (λhm ho=>?_)))))
  ·refine A2 (AP (Ao (AK (Ah (wm rfl (wa rfl (Aq (ck hn λhh hp=>AO [(0,rS s),(5,Am (s.length:Int)),(6,Am hb),(18,rB ((decide ((Ba s hb)<32))||(decide (126<(Ba s hb)))))] [] ?_ ?_))))))))
   ·refine An (wm rfl (wm rfl (wv (Bq C3 rfl rfl hh) (wv (Dv rfl rfl) (wm rfl (AY (decide ((Ba s hb)<32)) (λha=>?_) (λha=>?_)))))))
    ·refine wf ha (wf ha (wf ha (wf ha (wv (r:=rB true) (A7 rfl ha rfl) (At ?_)))));exact D3 ha
    ·refine wo ha (wm rfl (wo ha (wm rfl (wo ha (wv (Bq C3 rfl rfl hh) (wo ha (wv (DM rfl rfl) (Lf rfl ha rfl (At ?_)))))))));exact D3 ha
   refine cz hp rfl (λhq hr=>?_) (λhq hs=>?_)
   ·refine Ah (wa rfl (Aq (Ay (A0 (Ac (Ac (AX ?_)))))));have ht:=B2 hr hf hg;refine A0 (Ac ?_);obtain rfl:=Az ht;exact Ax (Ct Tryz.results163 (AL rfl)) sN ⟨rfl,rfl⟩
   ·refine A2 (AJ (AP (An (ck hs λhu hw=>wv (BL rfl rfl hu) (wm rfl (At ?_))))));have hx:=B6 hw hf;exact A4 (AG (hl,hb+1,()) ⟨hx,Ab1 _⟩ (AD.c rfl (AD.c rfl (AD.c rfl AD.nil))) sN)
  ·refine B1 (A3 ?_);have hy:=Cm ho hf hg;exact A3 (Bj (AG ((),()) hy AD.nil sN))
 ·rintro⟨⟨⟩,⟨⟩⟩ he;refine CU (l':=[]) (H':=[]) rfl rfl ?_;replace he:Hw =some r:=he;unfold Hw at he;refine Be (AP (Ah (wa rfl (Aq (Ay ?_)))));obtain rfl:=Az he;exact Ax (Ct Tryz.results163 (AL rfl)) sN ⟨rfl,rfl⟩
theorem Oh (s:Ag)(r:Int)(h:Jb s=some r):Fn Tryz.prog GE 145 [rS s] [] (λR H=>R=Am r∧H=[]):=by
 refine enter (n:=12) Tryz.func145 rfl Tryz.ntmps145 rfl (λw Z=>?_);unfold Jb at h;refine Ah (wa rfl (Bx (wm rfl (wv (Bv C3 rfl) (ck h λg1 h2=>wv (BL rfl rfl g1) (wm rfl (IZ (rs:=[rS s,rS ([34]:Ag)]) (r:=Am (Lib.countByte s 34:Int)) Tryz.call164 rfl (Te s 34) rfl rfl (ck h2 λg3 h4=>wv (BL rfl rfl g3) (wm rfl (IZ (rs:=[rS s,rS ([92]:Ag)]) (r:=Am (Lib.countByte s 92:Int)) Tryz.call164 rfl (Te s 92) rfl rfl (ck h4 λg5 h6=>wv (BL rfl rfl g5) (wa rfl (Aq (Ay ?_))))))))))))));obtain rfl:=Az h6;exact Ax (Ct Tryz.results145 (AL rfl)) sN ⟨rfl,rfl⟩
theorem Vf (F:Nat)(c:Aa)(r:Bool)(h:MM F c=some r):Fn Tryz.prog GE 144 [BC (Ab c)] [] (λR H=>R=rB r∧H=[]):=by
 refine enter (n:=81) Tryz.func144 rfl Tryz.ntmps144 rfl (λw Z=>?_);unfold MM at h;refine Ah (Ej rfl rfl (λb1=>?_));refine wa rfl (Aq (Ao (Ah (vF Cp rfl Ki (vL 0 Kj rfl (Aq (AK (Ah (wv (BT rfl rfl) (wa rfl (Aq (cz h rfl (λc2 h3=>?_) (λc2 h6=>?_)))))))))))))
 ·refine AO [(2,rB ((decide (c.fInt=0))&&((decide (c.fStr=([]:Ag)))&&(decide (c.fN=0)))))] [] ?_ ?_
  ·refine An (vF Cp rfl CD (vL 0 Du rfl (wv (BT rfl rfl) (wm rfl (AY (decide (c.fInt=0)) (λc4=>?_) (λc4=>?_))))))
   ·refine wo c4 (vF Cp rfl D1 (wo c4 (vL 0 Eb rfl (wo c4 (wv (H9 rfl rfl) (Kf rfl c4 rfl (wm rfl (AY (decide (c.fStr=([]:Ag))) (λc5=>?_) (λc5=>?_)))))))))
    ·refine wo c5 (vF Cp rfl CD (wo c5 (vL 0 Du rfl (wo c5 (wv (BT rfl rfl) (Kf rfl c5 rfl (wa rfl (At ?_))))))));exact D3 (And.intro c4 c5)
    ·refine wf c5 (wf c5 (wf c5 (wv (r:=rB false) (AM rfl c5 rfl) (wa rfl (At ?_)))));exact D3 (And.intro c4 c5)
   ·refine wf c4 (wf c4 (wf c4 (wv (r:=rB false) (AM rfl c4 rfl) (wm rfl (wz rfl rfl (wz rfl rfl (wz rfl rfl (wv (r:=rB false) (AM (b:=false) rfl rfl rfl) (wa rfl (At ?_))))))))));exact D3 c4
  refine Ay (A0 (Ac ?_));obtain rfl:=Az h3;exact Ax (Ct MB (AL rfl)) sN ⟨rfl,rfl⟩
 ·refine Ah (wv (BT rfl rfl) (wa rfl (Aq (cz h6 rfl (λc7 h8=>?_) (λc7 hm=>?_)))))
  ·refine AO [(2,rB (bif decide (c.fInt=0) then((decide (c.fStr=([]:Ag)))&&(decide (c.fN=0))) else((decide (c.fInt=1))&&((decide (c.fStr=([]:Ag)))&&(decide (c.fN=0))))))] [] ?_ ?_
   ·refine An (vF Cp rfl CD (vL 0 Du rfl (wv (BT rfl rfl) (wm rfl (AY (decide (c.fInt=0)) (λc9=>?_) (λc9=>?_))))))
    ·refine wf c9 (wf c9 (wf c9 (wv (r:=rB true) (A7 rfl c9 rfl) (wm rfl (Bg (b:=true) rfl rfl rfl (vF Cp rfl D1 (Bg (b:=true) rfl rfl rfl (vL 0 Eb rfl (Bg (b:=true) rfl rfl rfl (wv (H9 rfl rfl) (wv (r:=rB (decide (c.fStr=([]:Ag)))) (A7 (b:=true) rfl rfl rfl) (wm rfl (AY (decide (c.fStr=([]:Ag))) (λhg=>?_) (λhg=>?_))))))))))))))
     ·refine wo hg (vF Cp rfl CD (wo hg (vL 0 Du rfl (wo hg (wv (BT rfl rfl) (Kf rfl hg rfl (wa rfl (At ?_))))))));exact D3 (And.intro c9 hg)
     ·refine wf hg (wf hg (wf hg (wv (r:=rB false) (AM rfl hg rfl) (wa rfl (At ?_)))));exact D3 (And.intro c9 hg)
    ·refine wo c9 (vF Cp rfl CD (wo c9 (vL 0 Du rfl (wo c9 (wv (BT rfl rfl) (Lf rfl c9 rfl (wm rfl (AY (decide (c.fInt=1)) (λhb=>?_) (λhb=>?_)))))))))
     ·refine wo hb (vF Cp rfl D1 (wo hb (vL 0 Eb rfl (wo hb (wv (H9 rfl rfl) (Kf rfl hb rfl (wm rfl (AY (decide (c.fStr=([]:Ag))) (λhh=>?_) (λhh=>?_)))))))))
      ·refine wo hh (vF Cp rfl CD (wo hh (vL 0 Du rfl (wo hh (wv (BT rfl rfl) (Kf rfl hh rfl (wa rfl (At ?_))))))));exact D3 (And.intro c9 (And.intro hb hh))
      ·refine wf hh (wf hh (wf hh (wv (r:=rB false) (AM rfl hh rfl) (wa rfl (At ?_)))));exact D3 (And.intro c9 (And.intro hb hh))
     ·refine wf hb (wf hb (wf hb (wv (r:=rB false) (AM rfl hb rfl) (wm rfl (wz rfl rfl (wz rfl rfl (wz rfl rfl (wv (r:=rB false) (AM (b:=false) rfl rfl rfl) (wa rfl (At ?_))))))))));exact D3 (And.intro c9 hb)
   refine Ay (A0 (Ac ?_));obtain rfl:=Az h8;exact Ax (Ct MB (AL rfl)) sN ⟨rfl,rfl⟩
  ·refine Ah (wv (BT rfl rfl) (wa rfl (Aq (cz hm rfl (λhn ho=>?_) (λhn hp=>?_)))))
   ·refine AO [(2,rB ((decide (c.fStr=([]:Ag)))&&(decide (c.fN=0))))] [] ?_ ?_
    ·refine An (vF Cp rfl D1 (vL 0 Eb rfl (wv (H9 rfl rfl) (wm rfl (AY (decide (c.fStr=([]:Ag))) (λhi=>?_) (λhi=>?_))))))
     ·refine wo hi (vF Cp rfl CD (wo hi (vL 0 Du rfl (wo hi (wv (BT rfl rfl) (Kf rfl hi rfl (wa rfl (At ?_))))))));exact D3 hi
     ·refine wf hi (wf hi (wf hi (wv (r:=rB false) (AM rfl hi rfl) (wa rfl (At ?_)))));exact D3 hi
    refine Ay (A0 (Ac ?_));obtain rfl:=Az ho;exact Ax (Ct MB (AL rfl)) sN ⟨rfl,rfl⟩
   ·refine Ah (wv (BT rfl rfl) (wa rfl (Aq (cz hp rfl (λhq hr=>?_) (λhq hs=>?_)))))
    ·refine ck hr λht hu=>AO [(2,rB ((decide (c.fInt=0))&&((decide (c.fN=0))&&(ov (Kn F c.fStr)))))] [] ?_ ?_
     ·refine An (vF Cp rfl CD (vL 0 Du rfl (wv (BT rfl rfl) (wm rfl (AY (decide (c.fInt=0)) (λha=>?_) (λha=>?_))))))
      ·refine wo ha (vF Cp rfl CD (wo ha (vL 0 Du rfl (wo ha (wv (BT rfl rfl) (Kf rfl ha rfl (wm rfl (AY (decide (c.fN=0)) (λhd=>?_) (λhd=>?_)))))))))
       ·refine wo hd (vF Cp rfl D1 (wo hd (vL 0 Eb rfl (wo hd (Gb Tryz.call163 (XD F c.fStr (ov (Kn F c.fStr)) (Zn (IH (IH ht ha) hd))) rfl (Kf rfl hd rfl (wa rfl (At ?_))))))));exact D3 (And.intro ha hd)
       ·refine wf hd (wf hd (wf hd (wv (r:=rB false) (AM rfl hd rfl) (wa rfl (At ?_)))));exact D3 (And.intro ha hd)
      ·refine wf ha (wf ha (wf ha (wv (r:=rB false) (AM rfl ha rfl) (wm rfl (wz rfl rfl (wz rfl rfl (wz rfl rfl (wv (r:=rB false) (AM (b:=false) rfl rfl rfl) (wa rfl (At ?_))))))))));exact D3 ha
     refine Ay (A0 (Ac ?_));obtain rfl:=Az hu;exact Ax (Ct MB (AL rfl)) sN ⟨rfl,rfl⟩
    ·refine Ao (Ah (wv (BT rfl rfl) (wa rfl (Aq (cz hs rfl (λhl hw=>?_) (λhl hx=>?_))))))
     ·refine A2 (AP (E8 rfl hl (AO [(2,rB ((decide (c.fInt=0))&&((decide (c.fStr=([]:Ag)))&&(decide (0≤c.fN)))))] [] ?_ ?_)))
      ·refine An (vF Cp rfl CD (vL 0 Du rfl (wv (BT rfl rfl) (wm rfl (AY (decide (c.fInt=0)) (λhe=>?_) (λhe=>?_))))))
       ·refine wo he (vF Cp rfl D1 (wo he (vL 0 Eb rfl (wo he (wv (H9 rfl rfl) (Kf rfl he rfl (wm rfl (AY (decide (c.fStr=([]:Ag))) (λhj=>?_) (λhj=>?_)))))))))
        ·refine wo hj (vF Cp rfl CD (wo hj (vL 0 Du rfl (wo hj (wv (J2 rfl rfl) (Kf rfl hj rfl (wa rfl (At ?_))))))));exact D3 (And.intro he hj)
        ·refine wf hj (wf hj (wf hj (wv (r:=rB false) (AM rfl hj rfl) (wa rfl (At ?_)))));exact D3 (And.intro he hj)
       ·refine wf he (wf he (wf he (wv (r:=rB false) (AM rfl he rfl) (wm rfl (wz rfl rfl (wz rfl rfl (wz rfl rfl (wv (r:=rB false) (AM (b:=false) rfl rfl rfl) (wa rfl (At ?_))))))))));exact D3 he
      refine Ay (A0 (Ac ?_));obtain rfl:=Az hw;exact Ax (Ct MB (AL rfl)) sN ⟨rfl,rfl⟩
     ·refine An (wv (BT rfl rfl) (wa rfl (Aq (cz hx rfl (λhy hz=>?_) (λhy h0=>?_)))))
      ·refine AO [(2,rB ((decide (c.fInt=0))&&((decide (c.fStr=([]:Ag)))&&(decide (0≤c.fN)))))] [] ?_ ?_
       ·refine An (vF Cp rfl CD (vL 0 Du rfl (wv (BT rfl rfl) (wm rfl (AY (decide (c.fInt=0)) (λhf=>?_) (λhf=>?_))))))
        ·refine wo hf (vF Cp rfl D1 (wo hf (vL 0 Eb rfl (wo hf (wv (H9 rfl rfl) (Kf rfl hf rfl (wm rfl (AY (decide (c.fStr=([]:Ag))) (λhk=>?_) (λhk=>?_)))))))))
         ·refine wo hk (vF Cp rfl CD (wo hk (vL 0 Du rfl (wo hk (wv (J2 rfl rfl) (Kf rfl hk rfl (wa rfl (At ?_))))))));exact D3 (And.intro hf hk)
         ·refine wf hk (wf hk (wf hk (wv (r:=rB false) (AM rfl hk rfl) (wa rfl (At ?_)))));exact D3 (And.intro hf hk)
        ·refine wf hf (wf hf (wf hf (wv (r:=rB false) (AM rfl hf rfl) (wm rfl (wz rfl rfl (wz rfl rfl (wz rfl rfl (wv (r:=rB false) (AM (b:=false) rfl rfl rfl) (wa rfl (At ?_))))))))));exact D3 hf
       refine Ay (A0 (Ac ?_));obtain rfl:=Az hz;exact Ax (Ct MB (AL rfl)) sN ⟨rfl,rfl⟩
      ·refine A2 (AJ (AP (Ah (wa rfl (Aq (Ay ?_))))));obtain rfl:=Az h0;exact Ax (Ct MB (AL rfl)) (sS sN) ⟨rfl,rfl⟩
theorem XE (c:Aa)(r:Int)(h:PQ c=some r):Fn Tryz.prog GE 146 [BC (Ab c)] [] (λR H=>R=Am r∧H=[]):=by
 refine enter (n:=28) Tryz.func146 rfl Tryz.ntmps146 rfl (λw Z=>?_);unfold PQ at h;refine Ah (Ej rfl rfl (λb1=>?_));refine wa rfl (Aq (Ao (Ah (vF Cp rfl Ki (vL 0 Kj rfl (Aq (AK (Ah (wv (BT rfl rfl) (wa rfl (Aq (cz h rfl (λc2 h3=>?_) (λc2 h4=>?_)))))))))))))
 ·refine Ah (wa rfl (Aq (Ay (A0 (Ac ?_)))));obtain rfl:=Az h3;exact Ax (Ct PI (AL rfl)) (sS sN) ⟨rfl,rfl⟩
 ·refine Ah (wv (BT rfl rfl) (wa rfl (Aq (cz h4 rfl (λc5 h6=>?_) (λc5 h7=>?_)))))
  ·refine Ah (vF Cp rfl CD (vL 0 Du rfl (wv (r:=Am (IntKind.wrap .i64 (5-c.fInt))) (VN rfl rfl) (wa rfl (Aq (Ay (A0 (Ac ?_))))))));obtain rfl:=Az h6;exact Ax (Ct PI (AL rfl)) (sS sN) ⟨rfl,rfl⟩
  ·refine Ah (wv (BT rfl rfl) (wa rfl (Aq (cz h7 rfl (λc8 h9=>?_) (λc8 ha=>?_)))))
   ·refine Ah (vF Cp rfl CD (vL 0 Du rfl (ck h9 λhb hd=>IZ (rs:=[Am c.fInt]) (r:=rS (Lib.itoa c.fInt)) Tryz.call67 rfl (KR c.fInt hb) rfl rfl (wv (Bv C3 rfl) (wa rfl (Aq (Ay (A0 (Ac ?_)))))))));obtain rfl:=Az hd;exact Ax (Ct PI (AL rfl)) (sS sN) ⟨rfl,rfl⟩
   ·refine Ah (wv (BT rfl rfl) (wa rfl (Aq (cz ha rfl (λhe hf=>?_) (λhe hg=>?_)))))
    ·refine Ah (vF Cp rfl D1 (vL 0 Eb rfl (ob hf λhh hi hj=>Gb Tryz.call145 (Oh c.fStr hh hi) rfl (wa rfl (Aq (Ay (A0 (Ac ?_))))))));obtain rfl:=Az hj;exact Ax (Ct PI (AL rfl)) (sS sN) ⟨rfl,rfl⟩
    ·refine A2 (AJ (AP (Ah (vF Cp rfl CD (vL 0 Du rfl (wv (r:=Am (IntKind.wrap .i64 (c.fN-1))) (VN rfl rfl) (wv (YO UM rfl rfl) (wv (r:=Am (IntKind.wrap .i64 (2+(max 0 (IntKind.wrap .i64 (c.fN-1)))))) (RK rfl rfl) (wa rfl (Aq (Ay ?_)))))))))));obtain rfl:=Az hg;exact Ax (Ct PI (AL rfl)) (sS sN) ⟨rfl,rfl⟩
theorem T0 (F:Nat)(hi:Value)(stack:(List A1))(r:(List A1))(h:Kt F stack=some r):Fn Tryz.prog GE 147 [rv hi] [.row hi 166 5 (AE Av stack)] (λR H=>∃u0:Value,R=rv u0∧H=[.row u0 166 5 (AE Av r)]):=by
 refine enter (n:=38) Tryz.func147 rfl Tryz.ntmps147 rfl (λw Z=>?_);unfold Kt at h;refine Ah (wa rfl (Aq (Ao (AK (ob h λhn ho hl=>B0 (S:=Nat×((List A1))×(Value)) (V:=((List A1))×(Value)) 0 (λσ=>BE (λσ=>D9 σ) σ.1 σ.2.1=some hn) (λσ=>[(0,rv σ.2.2),(2,rv (.slice none 0 0))]) (λσ=>[.row σ.2.2 166 5 (AE Av σ.2.1)]) (λσ=>σ.1) (F,stack,hi) ho (AD.c rfl (AD.c rfl AD.nil)) (sC sN) (λσ=>Ee σ.1=some r) (λσ=>[(0,rv σ.2),(2,rv (.slice none 0 0))]) (λσ=>[.row σ.2 166 5 (AE Av σ.1)]) ?_ ?_)))))
 ·rintro⟨hG,ha,hd⟩ hp;refine BY (l':=[(0,rv hd),(2,rv (.slice none 0 0))]) (H':=[.row hd 166 5 (AE Av ha)]) rfl rfl ?_;obtain⟨hq,rfl,hr,hg,hj⟩:=CO hp;replace hg:D9 ha=some hr:=hg;unfold D9 at hg;refine Ao (Ah (wm rfl (wv (C5 (ys:=ha) (enc:=Av) (i:=0) Im rfl rfl) (wv (DM rfl rfl) (Aq (cz hg rfl (λhs ht=>?_) (λhs hu=>?_)))))))
  ·refine A2 (AP (AK (Ah (wm rfl (wm rfl (wv (C5 (ys:=ha) (enc:=Av) (i:=0) Im rfl rfl) (ck ht λhw hx=>wv (LQ rfl rfl hw) (ck hx λhe hy=>wv (r:=rv (EY 5 hd (Bt ((ha.length:Int)-1)) 0)) (JW (i:=0) Im PG rfl rfl rfl (BI he)) (wa rfl (Bx (wm rfl (wv (r:=rv (EY 5 hd (Bt ((ha.length:Int)-1)) 0)) (Cd (k:=0) rfl (BI he) rfl rfl) (wv (r:=rv (EY 5 hd (Bt ((ha.length:Int)-1)) 1)) (Ev (k:=0) Il rfl CD rfl (BI he) rfl rfl rfl) (wv (r:=Am ((Ap ha ((ha.length:Int)-1)).fLeft)) (Ib (enc:=Av) (ys:=ha) (i:=0) (j:=(ha.length:Int)-1) Du rfl rfl he rfl) (ck hy λhz h0=>wv (LQ rfl rfl hz) (wv (r:=rv (EY 5 hd (Bt ((ha.length:Int)-1)) 0)) (Cd (k:=0) rfl (BI he) rfl rfl) (wv (r:=rv (EY 5 hd (Bt ((ha.length:Int)-1)) 1)) (Ev (k:=0) Il rfl CD rfl (BI he) rfl rfl rfl) (I6 (enc:=Av) (ys:=ha) (y':=(A1.mk ((Ap ha ((ha.length:Int)-1)).fPairs) (((Ap ha ((ha.length:Int)-1)).fLeft)-1) ((Ap ha ((ha.length:Int)-1)).fKey) ((Ap ha ((ha.length:Int)-1)).fLast) ((Ap ha ((ha.length:Int)-1)).fStarted))) (i:=0) (j:=(ha.length:Int)-1) CD rfl rfl (Cu rfl) rfl he rfl rfl (H':=[.row hd 166 5 (AE Av (List.set ha (Bt ((ha.length:Int)-1)) (A1.mk ((Ap ha ((ha.length:Int)-1)).fPairs) (((Ap ha ((ha.length:Int)-1)).fLeft)-1) ((Ap ha ((ha.length:Int)-1)).fKey) ((Ap ha ((ha.length:Int)-1)).fLast) ((Ap ha ((ha.length:Int)-1)).fStarted))))]) rfl (bd h0 λhb hf h1=>?_)))))))))))))))))));rw[← hf];refine Aq (Ao (Ah (wm rfl (wv (r:=rv (EY 5 hd (Bt ((ha.length:Int)-1)) 0)) (Cd (k:=0) rfl (BI (CH he hf)) rfl rfl) (wv (r:=rv (EY 5 hd (Bt ((ha.length:Int)-1)) 1)) (Ev (k:=0) Il rfl CD rfl (BI (CH he hf)) rfl rfl rfl) (wv (r:=Am ((Ap hb ((ha.length:Int)-1)).fLeft)) (Ib (enc:=Av) (ys:=hb) (i:=0) (j:=(ha.length:Int)-1) Du rfl rfl (CH he hf) rfl) (wv (DM rfl rfl) (Aq (cz h1 rfl (λh2 h3=>?_) (λh2 h4=>?_))))))))))
   ·refine Ah (wm rfl (wm rfl (wv (r:=rv (EY 5 hd (Bt ((ha.length:Int)-1)) 0)) (Cd (k:=0) rfl (BI (CH he hf)) rfl rfl) (wv (r:=rv (EY 5 hd (Bt ((ha.length:Int)-1)) 0)) (Ev (k:=0) Il rfl GW rfl (BI (CH he hf)) rfl rfl rfl) (wv (r:=rB ((Ap hb ((ha.length:Int)-1)).fPairs)) (Ib (enc:=Av) (ys:=hb) (i:=0) (j:=(ha.length:Int)-1) PM rfl rfl (CH he hf) rfl) (wv (r:=rv (EY 5 hd (Bt ((ha.length:Int)-1)) 0)) (Cd (k:=0) rfl (BI (CH he hf)) rfl rfl) (wv (r:=rv (EY 5 hd (Bt ((ha.length:Int)-1)) 2)) (Ev (k:=0) Il rfl GW rfl (BI (CH he hf)) rfl rfl rfl) (I6 (enc:=Av) (ys:=hb) (y':=(A1.mk ((Ap hb ((ha.length:Int)-1)).fPairs) ((Ap hb ((ha.length:Int)-1)).fLeft) ((Ap hb ((ha.length:Int)-1)).fPairs) ((Ap hb ((ha.length:Int)-1)).fLast) ((Ap hb ((ha.length:Int)-1)).fStarted))) (i:=0) (j:=(ha.length:Int)-1) GW rfl rfl (Cu rfl) rfl (CH he hf) rfl rfl (H':=[.row hd 166 5 (AE Av (List.set hb (Bt ((ha.length:Int)-1)) (A1.mk ((Ap hb ((ha.length:Int)-1)).fPairs) ((Ap hb ((ha.length:Int)-1)).fLeft) ((Ap hb ((ha.length:Int)-1)).fPairs) ((Ap hb ((ha.length:Int)-1)).fLast) ((Ap hb ((ha.length:Int)-1)).fStarted))))]) rfl (bd h3 λhH h5 h6=>?_)))))))));rw[← h5];refine Bx (wm rfl (wa rfl (Aq (Ay (Ac (A0 (Ac (AX ?_))))))));have h7:=B2 h6 hj hl;refine A0 (Ac ?_);obtain rfl:=Az h7;exact Ax (Ct Tryz.results147 (AL rfl)) (sC sN) ⟨hd,rfl,rfl⟩
   ·refine A2 (AP (An (wm rfl (wm rfl (wv (C5 (ys:=hb) (enc:=Av) (i:=0) Im rfl rfl) (ck h4 λh8 h9=>wv (LQ rfl rfl h8) (ck h9 λhA hB=>Aai (i:=0) Im PG rfl rfl rfl hA rfl (λhC=>?_))))))));refine wa rfl (At (AJ ?_));have hD:=B6 hB hj;exact A4 (AG (hq,List.take (Bt ((hb.length:Int)-1)) hb,hC) ⟨hD,Ab1 _⟩ (AD.c rfl (AD.c rfl AD.nil)) (sC sN))
  ·refine B1 (A3 ?_);have hE:=Cm hu hj hl;exact A3 (Bj (AG (ha,hd) hE (AD.c rfl (AD.c rfl AD.nil)) (sC sN)))
 ·rintro⟨hm,hk⟩ hh;refine CU (l':=[(0,rv hk),(2,rv (.slice none 0 0))]) (H':=[.row hk 166 5 (AE Av hm)]) rfl rfl ?_;replace hh:Ee hm=some r:=hh;unfold Ee at hh;refine Be (AP (Ah (wm rfl (wa rfl (Aq (Ay ?_))))));obtain rfl:=Az hh;exact Ax (Ct Tryz.results147 (AL rfl)) (sC sN) ⟨hk,rfl,rfl⟩
theorem OX (F:Nat)(v:(List Aa))(r:Int×AC×Bool)(h:Ip F v=some r):Fn Tryz.prog GE 106 [AU 4 (AE Ab v)] [] (λR H=>R=C2 [Am r.1,BC (AN r.2.1),rB r.2.2]∧H=[]):=by
 refine enter (n:=152) Tryz.func106 rfl Tryz.ntmps106 rfl (λw Z=>?_);unfold Ip at h;refine Ah (wa rfl (BN (cs:=[Am 0,Am 0,rB false,rB false]) PE rfl rfl (λb1=>?_)));refine wa rfl (Aq (UZ (Ah (BN (cs:=[Am 0,Am 0,rB false,rB false]) PE rfl rfl (λb2=>?_)))));refine Bx (wa rfl (Aq (Ao (Va (AP (Ao (Ah (wm rfl (wv (B8 (ys:=v) (enc:=Ab) CJ rfl) (wv (r:=Am 0) (Al rfl) (Aq (AK (WC.nilrow (e:=166) (sz:=5) (OW (H2:=[.blk b2 [Am 0,Am 0,rB false,rB false] 133,.blk b1 [Am 0,Am 0,rB false,rB false] 133,.row (.slice none 0 0                                                                                                                                                                      ) 166 5 (AE Av ([]:List A1))]) ((Aj (i:=1) rfl).trans (Abn _ ((Aj (i:=1) rfl).trans (Abn _ (Abo _))))) (ob h λhA hB hy=>B0 (S:=Nat×((List A1)×Int×AC)×(Value)) (V:=(AC)×(Unit)) 0 (λσ=>BE (λσ=>D8 F v σ.1 σ.2.1 σ.2.2) σ.1 σ.2.1=some hA) (λσ=>[(0,AU 4 (AE Ab v)),(3,rP b1 0),(5,rP b2 0),(6,rv σ.2.2),(11,AU 4 (AE Ab v)),(12,Am (v.length:Int)),(13,Am σ.2.1.2.1)]) (λσ=>[.blk b2 (AN σ.2.1.2.2) 133,.blk b1 [Am 0,Am 0,rB false,rB false] 133,.row σ.2.2 166 5 (AE Av σ.2.1.1)]) (λσ=>σ.1) (F,(([]:List A1),0,(AC.mk 0 0 false false)),(.slice none 0 0                                                                                                                                                                      )) hB (AD.c rfl (AD.c rfl (AD.c5 rfl rfl rfl rfl rfl AD.nil))) (sC (sC (sC sN))) (λσ=>Kq σ.1=some r) (λσ=>[(3,rP b1 0),(5,rP b2 0)]) (λσ=>[.blk b2 (AN σ.1) 133,.blk b1 [Am 0,Am 0,rB false,rB false] 133]) ?_ ?_)))))))))))))))
 ·rintro⟨gG,⟨hd,hb,ha⟩,he⟩ hC;refine BY (l':=[(0,AU 4 (AE Ab v)),(3,rP b1 0),(5,rP b2 0),(6,rv he),(11,AU 4 (AE Ab v)),(12,Am (v.length:Int)),(13,Am hb)]) (H':=[.blk b2 (AN ha) 133,.blk b1 [Am 0,Am 0,rB false,rB false] 133,.row he 166 5 (AE Av hd)]) rfl rfl ?_;obtain⟨hD,rfl,h4,h0,hx⟩:=CO hC;replace h0:D8 F v hd hb ha=some h4:=h0;unfold D8 at h0;refine Ah (wv (Dv rfl rfl) (Aq (Ao (cz h0 rfl (λhE hG=>?_) (λhE hH=>?_)))))
  ·refine A2 (AP (CE (S:=((List A1)×AC)×(Value)) (λσ=>DV hb σ.1.1 σ.1.2=some h4) (λσ=>[(0,AU 4 (AE Ab v)),(3,rP b1 0),(5,rP b2 0),(6,rv σ.2),(11,AU 4 (AE Ab v)),(12,Am (v.length:Int)),(13,Am hb)]) (λσ=>[.blk b2 (AN σ.1.2) 133,.blk b1 [Am 0,Am 0,rB false,rB false] 133,.row σ.2 166 5 (AE Av σ.1.1)]) ?_ ?_))
   ·refine AK (Ah (wm rfl (ck hG λhI hJ=>wv (BB (enc:=Ab) (ys:=v) CJ DR rfl rfl hI) (wv (EF Tq DR rfl rfl rfl) (BN (cs:=[Am 0,Am 0,rS ([]:Ag),Am 0]) Me rfl rfl (λhf=>?_))))));refine wa rfl (Bh (i:=0) DR rfl rfl rfl (BK.c rfl) rfl rfl (cs':=[Am ((Ap v hb).fKind),Am ((Ap v hb).fInt),rS ((Ap v hb).fStr),Am ((Ap v hb).fN)]) rfl (H':=[.blk hf (Ab (Ap v hb)) 78,.blk b2 (AN ha) 133,.blk b1 [Am 0,Am 0,rB false,rB false] 133,.row he 166 5 (AE Av hd)]) rfl (Aq (Ao (Ah (wv (BH (i:=0) Tq DR rfl rfl rfl rfl) (ob hJ λhK hL hN=>Gb Tryz.call144 (Vf F (Ap v hb) hK hL) rfl (wv (Cj rfl) (Aq (cz hN rfl (λhO hP=>?_) (λhO hQ=>?_))))))))))
    ·refine Ao (G7 (H1:=[.blk hf (Ab (Ap v hb)) 78,.blk b2 (AN ha) 133,.blk b1 (AN ha) 133,.row he 166 5 (AE Av hd)]) [3,5] [⟨[],BC (AN ha),1⟩,⟨[],Am 0,0⟩,⟨[0],rv undef,2⟩,⟨[],rB false,0⟩] (rle [(3,_),(2,[.blk hf (Ab (Ap v hb)) 78,.blk b2 (AN ha) 133,.blk b1 (AN ha) 133,.row he 166 5 (AE Av hd)])]) [2,4,3] ?_ ?_)
     ·refine of (BH (i:=1) J7 E3 rfl rfl rfl rfl) (oq (Aw rfl) (JC rfl (Qw (Ds (i:=2) E3 rfl rfl rfl (BK.c rfl) rfl rfl (cs':=[Am ha.fDepth,Am ha.fBytes,rB ha.fOutside,rB ha.fLong]) rfl (H':=[.blk hf (Ab (Ap v hb)) 78,.blk b2 (AN ha) 133,.blk b1 (AN ha) 133,.row he 166 5 (AE Av hd)]) rfl)) ?_));refine oq (Aw rfl) ?_;exact Ci
     refine AP (Ay (Ac (A0 (Ac (Ac (AX ?_))))));have hR:=B2 hP hx hy;refine A0 (Ac (IV ?_));obtain rfl:=Az hR;exact Ax (V0 PK (AL rfl) (Gh (i:=2) J7 E3 rfl rfl rfl) (AL rfl)) (sS (sS (sS (sS sN)))) ⟨rfl,rfl⟩
    ·refine A2 (AP (Ao (Ah (wm rfl (wv (C5 (ys:=hd) (enc:=Av) (i:=3) Im rfl rfl) (wa rfl (Aq (ck hQ λhS hT=>ck hT λh5 hU=>AO [(0,AU 4 (AE Ab v)),(3,rP b1 0),(5,rP b2 0),(6,rv he),(7,Am hb),(8,rP hf 0),(9,Am (hd.length:Int)),(11,AU 4 (AE Ab v)),(12,Am (v.length:Int)),(13,Am hb),(33,rB ((decide (0<(hd.length:Int)))&&((Ap hd ((hd.length:Int)-1)).fKey)))] [.blk hf (Ab (Ap v hb)) 78,.blk b2 (AN ha) 133,.blk b1 [Am 0,Am 0,rB false,rB false] 133,.row he 166 5 (AE Av hd)] ?_ ?_))))))))
     ·refine An (wm rfl (wv (DM rfl rfl) (wm rfl (AY (decide (0<(hd.length:Int))) (λhi=>?_) (λhi=>?_)))))
      ·refine wo hi (wm rfl (wo hi (wm rfl (wo hi (wv (LQ rfl rfl (IH hS hi)) (wo hi (wv (r:=rv (EY 5 he (Bt ((hd.length:Int)-1)) 0)) (JW (i:=3) Im PG rfl rfl rfl (BI (IH h5 hi))) (wo hi (wv (r:=rv (EY 5 he (Bt ((hd.length:Int)-1)) 2)) (Ev (k:=3) Il rfl GW rfl (BI (IH h5 hi)) rfl rfl rfl) (wo hi (wv (r:=rB ((Ap hd ((hd.length:Int)-1)).fKey)) (Ib (enc:=Av) (ys:=hd) (i:=3) (j:=(hd.length:Int)-1) PM rfl rfl (IH h5 hi) rfl) (Kf rfl hi rfl (At ?_)))))))))))));exact D3 hi
      ·refine wf hi (wf hi (wf hi (wf hi (wf hi (wf hi (wv (r:=rB false) (AM rfl hi rfl) (At ?_)))))));exact D3 hi
     refine cz hU rfl (λhV hW=>?_) (λhV hX=>?_)
     ·refine Ah (wm rfl (wm rfl (ck hW λhY hZ=>wv (LQ rfl rfl hY) (ck hZ λhj ga=>wv (r:=rv (EY 5 he (Bt ((hd.length:Int)-1)) 0)) (JW (i:=3) Im PG rfl rfl rfl (BI hj)) (wa rfl (Aq (Ao (AO [(0,AU 4 (AE Ab v)),(3,rP b1 0),(5,rP b2 0),(6,rv he),(8,rP hf 0),(10,rv (EY 5 he (Bt ((hd.length:Int)-1)) 0)),(11,AU 4 (AE Ab v)),(12,Am (v.length:Int)),(13,Am hb),(38,rP hf 0),(39,Am ((Ap v hb).fKind)),(40,rB (!decide (((Ap v hb).fKind)=4))),(41,rB (!decide (((Ap v hb).fKind)=4))),(55,rB ((!decide (((Ap v hb).fKind)=4))||(((Ap hd ((hd.length:Int)-1)).fStarted)&&(B3 ((Ap v hb).fStr) ((Ap hd ((hd.length:Int)-1)).fLast)||decide (((Ap v hb).fStr)=((Ap hd ((hd.length:Int)-1)).fLast))))))] [.blk hf (Ab (Ap v hb)) 78,.blk b2 (AN ha) 133,.blk b1 [Am 0,Am 0,rB false,rB false] 133,.row he 166 5 (AE Av hd)] ?_ ?_))))))))
      ·refine AY (!decide (((Ap v hb).fKind)=4)) (λhh=>?_) (λhh=>?_)
       ·refine CM [0,3,5,6,8,10,11,12,13] [⟨[],rP hf 0,0⟩,⟨[0],Am ((Ap v hb).fKind),1⟩,⟨[1],rB (!decide (((Ap v hb).fKind)=4)),0⟩,⟨[2],rB (!decide (((Ap v hb).fKind)=4)),0⟩,⟨[3],rv undef,0⟩,⟨[4,3],rv undef,0⟩,⟨[5,3],rv undef,0⟩,⟨[6,3],rv undef,0⟩,⟨[7,3],rv undef,0⟩,⟨[8],rv undef,0⟩,⟨[9,8],rv undef,0⟩,⟨[8],rv undef,0⟩,⟨[11,8],rv undef,0⟩,⟨[12,8],rv undef,0⟩,⟨[13,8],rv undef,0⟩,⟨[10,14,8],rv undef,0⟩,⟨[8,15,3],rv undef,0⟩,⟨[3,16],rB true,0⟩] [38,39,40,41,42,43,44,45,46,47,48,49,50,51,52,53,54,55,0,3,5,6,8,10,11,12,13] ?_ ?_
        ·refine oq (A5 Cp rfl Ki rfl rfl) (of (AT (i:=0) Kj rfl rfl rfl) (oq (Dj rfl rfl) (oq (Al rfl) (oz hh (oz hh (oz hh (oz hh (oz hh (ou (ou (ou (ou (ou (ou (ou (oz hh (oq (A7 (b:=!decide (((Ap v hb).fKind)=4)) rfl hh rfl) ?_)))))))))))))))));exact Ci
        exact D3 hh
       ·refine AY ((Ap hd ((hd.length:Int)-1)).fStarted) (λhk=>?_) (λhk=>?_)
        ·refine CM [0,3,5,6,8,10,11,12,13] [⟨[],rP hf 0,0⟩,⟨[0],Am ((Ap v hb).fKind),1⟩,⟨[1],rB (!decide (((Ap v hb).fKind)=4)),0⟩,⟨[2],rB (!decide (((Ap v hb).fKind)=4)),0⟩,⟨[3],rv (EY 5 he (Bt ((hd.length:Int)-1)) 0),0⟩,⟨[4,3],rv (EY 5 he (Bt ((hd.length:Int)-1)) 0),1⟩,⟨[5,3],rv (EY 5 he (Bt ((hd.length:Int)-1)) 4),1⟩,⟨[6,3],rB ((Ap hd ((hd.length:Int)-1)).fStarted),1⟩,⟨[7,3],rB ((Ap hd ((hd.length:Int)-1)).fStarted),0⟩,⟨[8],rP hf 2,0⟩,⟨[9,8],rS ((Ap v hb).fStr),1⟩,⟨[8],rv (EY 5 he (Bt ((hd.length:Int)-1)) 0),0⟩,⟨[11,8],rv (EY 5 he (Bt ((hd.length:Int)-1)) 0),1⟩,⟨[12,8],rv (EY 5 he (Bt ((hd.length:Int)-1)) 3),1⟩,⟨[13,8],rS ((Ap hd ((hd.length:Int)-1)).fLast),1⟩,⟨[10,14,8],rB (B3 ((Ap v hb).fStr) ((Ap hd ((hd.length:Int)-1)).fLast)||decide (((Ap v hb).fStr)=((Ap hd ((hd.length:Int)-1)).fLast))),0⟩,⟨[8,15,3],rB (B3 ((Ap v hb).fStr) ((Ap hd ((hd.length:Int)-1)).fLast)||decide (((Ap v hb).fStr)=((Ap hd ((hd.length:Int)-1)).fLast))),0⟩,⟨[3,16],rB (B3 ((Ap v hb).fStr) ((Ap hd ((hd.length:Int)-1)).fLast)||decide (((Ap v hb).fStr)=((Ap hd ((hd.length:Int)-1)).fLast))),0⟩] [38,39,40,41,42,43,44,45,46,47,48,49,50,51,52,53,54,55,0,3,5,6,8,10,11,12,13] ?_ ?_
         ·refine oq (A5 Cp rfl Ki rfl rfl) (of (AT (i:=0) Kj rfl rfl rfl) (oq (Dj rfl rfl) (oq (Al rfl) (on hh (oq (Al rfl) (on hh (of (Cd (k:=3) rfl (BI hj) rfl rfl) (on hh (of (Ev (k:=3) Il rfl GW rfl (BI hj) rfl rfl rfl) (on hh (of (Ib (enc:=Av) (ys:=hd) (i:=3) (j:=(hd.length:Int)-1) PM rfl rfl hj rfl) (on hh (oq (Al rfl) (on hk (oq (A5 Cp rfl D1 rfl rfl) (on hk (of (AT (i:=0) Eb rfl rfl rfl) (on hk (oq (Al rfl) (on hk (of (Cd (k:=3) rfl (BI hj) rfl rfl) (on hk (of (Ev (k:=3) Il rfl D1 rfl (BI hj) rfl rfl rfl) ?_)))))))))))))))))))))));refine on hk (of (Ib (enc:=Av) (ys:=hd) (i:=3) (j:=(hd.length:Int)-1) Eb rfl rfl hj rfl) (on hk (oq (VO rfl rfl) (on hh (oq (A7 rfl hk rfl) (oq (AM rfl hh rfl) ?_))))));exact Ci
         exact D3 (And.intro hh hk)
        ·refine CM [0,3,5,6,8,10,11,12,13] [⟨[],rP hf 0,0⟩,⟨[0],Am ((Ap v hb).fKind),1⟩,⟨[1],rB (!decide (((Ap v hb).fKind)=4)),0⟩,⟨[2],rB (!decide (((Ap v hb).fKind)=4)),0⟩,⟨[3],rv (EY 5 he (Bt ((hd.length:Int)-1)) 0),0⟩,⟨[4,3],rv (EY 5 he (Bt ((hd.length:Int)-1)) 0),1⟩,⟨[5,3],rv (EY 5 he (Bt ((hd.length:Int)-1)) 4),1⟩,⟨[6,3],rB ((Ap hd ((hd.length:Int)-1)).fStarted),1⟩,⟨[7,3],rB ((Ap hd ((hd.length:Int)-1)).fStarted),0⟩,⟨[8],rv undef,0⟩,⟨[9,8],rv undef,0⟩,⟨[8],rv undef,0⟩,⟨[11,8],rv undef,0⟩,⟨[12,8],rv undef,0⟩,⟨[13,8],rv undef,0⟩,⟨[10,14,8],rv undef,0⟩,⟨[8,15,3],rB false,0⟩,⟨[3,16],rB false,0⟩] [38,39,40,41,42,43,44,45,46,47,48,49,50,51,52,53,54,55,0,3,5,6,8,10,11,12,13] ?_ ?_
         ·refine oq (A5 Cp rfl Ki rfl rfl) (of (AT (i:=0) Kj rfl rfl rfl) (oq (Dj rfl rfl) (oq (Al rfl) (on hh (oq (Al rfl) (on hh (of (Cd (k:=3) rfl (BI hj) rfl rfl) (on hh (of (Ev (k:=3) Il rfl GW rfl (BI hj) rfl rfl rfl) (on hh (of (Ib (enc:=Av) (ys:=hd) (i:=3) (j:=(hd.length:Int)-1) PM rfl rfl hj rfl) (on hh (oq (Al rfl) (oz hk (oz hk (oz hk (oz hk (oz hk (oz hk (oz hk (on hh (oq (AM (b:=(Ap hd ((hd.length:Int)-1)).fStarted) rfl hk rfl) (oq (AM rfl hh rfl) ?_)))))))))))))))))))))));exact Ci
         exact D3 (And.intro hh hk)
      refine cz ga rfl (λgb gc=>?_) (λgb gd=>?_)
      ·refine Ao (G7 (H1:=[.blk hf (Ab (Ap v hb)) 78,.blk b2 (AN ha) 133,.blk b1 (AN ha) 133,.row he 166 5 (AE Av hd)]) [3,5] [⟨[],BC (AN ha),1⟩,⟨[],Am 0,0⟩,⟨[0],rv undef,2⟩,⟨[],rB false,0⟩] (rle [(3,_),(2,[.blk hf (Ab (Ap v hb)) 78,.blk b2 (AN ha) 133,.blk b1 (AN ha) 133,.row he 166 5 (AE Av hd)])]) [2,4,3] ?_ ?_)
       ·refine of (BH (i:=1) J7 E3 rfl rfl rfl rfl) (oq (Aw rfl) (JC rfl (Qw (Ds (i:=2) E3 rfl rfl rfl (BK.c rfl) rfl rfl (cs':=[Am ha.fDepth,Am ha.fBytes,rB ha.fOutside,rB ha.fLong]) rfl (H':=[.blk hf (Ab (Ap v hb)) 78,.blk b2 (AN ha) 133,.blk b1 (AN ha) 133,.row he 166 5 (AE Av hd)]) rfl)) ?_));refine oq (Aw rfl) ?_;exact Ci
       refine AP (Ay (Ac (Ac (A0 (Ac (Ac (AX ?_)))))));have ge:=B2 gc hx hy;refine A0 (Ac (IV ?_));obtain rfl:=Az ge;exact Ax (V0 PK (AL rfl) (Gh (i:=2) J7 E3 rfl rfl rfl) (AL rfl)) (sS (sS (sS (sS sN)))) ⟨rfl,rfl⟩
      ·refine A2 (AP (Ah (wm rfl (wm rfl (wm rfl (vF Cp rfl D1 (vL 0 Eb rfl (wv (r:=rv (EY 5 he (Bt ((hd.length:Int)-1)) 0)) (Cd (k:=3) rfl (BI hj) rfl rfl) (wv (r:=rv (EY 5 he (Bt ((hd.length:Int)-1)) 3)) (Ev (k:=3) Il rfl D1 rfl (BI hj) rfl rfl rfl) (I6 (enc:=Av) (ys:=hd) (y':=(A1.mk ((Ap hd ((hd.length:Int)-1)).fPairs) ((Ap hd ((hd.length:Int)-1)).fLeft) ((Ap hd ((hd.length:Int)-1)).fKey) ((Ap v hb).fStr) ((Ap hd ((hd.length:Int)-1)).fStarted))) (i:=3) (j:=(hd.length:Int)-1) D1 rfl rfl (Cu rfl) rfl hj rfl rfl (H':=[.blk hf (Ab (Ap v hb)) 78,.blk b2 (AN ha) 133,.blk b1 [Am 0,Am 0,rB false,rB false] 133,.row he 166 5 (AE Av (List.set hd (Bt ((hd.length:Int)-1)) (A1.mk ((Ap hd ((hd.length:Int)-1)).fPairs) ((Ap hd ((hd.length:Int)-1)).fLeft) ((Ap hd ((hd.length:Int)-1)).fKey) ((Ap v hb).fStr) ((Ap hd ((hd.length:Int)-1)).fStarted))))]) rfl (bd gd λhr hu gf=>?_)))))))))));rw[← hu];refine wv (r:=rv (EY 5 he (Bt ((hd.length:Int)-1)) 0)) (Cd (k:=3) rfl (BI (CH hj hu)) rfl rfl) (wv (r:=rv (EY 5 he (Bt ((hd.length:Int)-1)) 4)) (Ev (k:=3) Il rfl GW rfl (BI (CH hj hu)) rfl rfl rfl) (I6 (enc:=Av) (ys:=hr) (y':=(A1.mk ((Ap hr ((hd.length:Int)-1)).fPairs) ((Ap hr ((hd.length:Int)-1)).fLeft) ((Ap hr ((hd.length:Int)-1)).fKey) ((Ap hr ((hd.length:Int)-1)).fLast) true)) (i:=3) (j:=(hd.length:Int)-1) GW rfl rfl (Cu rfl) rfl (CH hj hu) rfl rfl (H':=[.blk hf (Ab (Ap v hb)) 78,.blk b2 (AN ha) 133,.blk b1 [Am 0,Am 0,rB false,rB false] 133,.row he 166 5 (AE Av (List.set hr (Bt ((hd.length:Int)-1)) (A1.mk ((Ap hr ((hd.length:Int)-1)).fPairs) ((Ap hr ((hd.length:Int)-1)).fLeft) ((Ap hr ((hd.length:Int)-1)).fKey) ((Ap hr ((hd.length:Int)-1)).fLast) true)))]) rfl (bd gf λhs h1 gg=>?_)));rw[← h1];refine wv (r:=rv (EY 5 he (Bt ((hd.length:Int)-1)) 0)) (Cd (k:=3) rfl (BI (CH (CH hj hu) h1)) rfl rfl) (wv (r:=rv (EY 5 he (Bt ((hd.length:Int)-1)) 2)) (Ev (k:=3) Il rfl GW rfl (BI (CH (CH hj hu) h1)) rfl rfl rfl) (I6 (enc:=Av) (ys:=hs) (y':=(A1.mk ((Ap hs ((hd.length:Int)-1)).fPairs) ((Ap hs ((hd.length:Int)-1)).fLeft) false ((Ap hs ((hd.length:Int)-1)).fLast) ((Ap hs ((hd.length:Int)-1)).fStarted))) (i:=3) (j:=(hd.length:Int)-1) GW rfl rfl (Cu rfl) rfl (CH (CH hj hu) h1) rfl rfl (H':=[.blk hf (Ab (Ap v hb)) 78,.blk b2 (AN ha) 133,.blk b1 [Am 0,Am 0,rB false,rB false] 133,.row he 166 5 (AE Av (List.set hs (Bt ((hd.length:Int)-1)) (A1.mk ((Ap hs ((hd.length:Int)-1)).fPairs) ((Ap hs ((hd.length:Int)-1)).fLeft) false ((Ap hs ((hd.length:Int)-1)).fLast) ((Ap hs ((hd.length:Int)-1)).fStarted))))]) rfl (bd gg λht gh gi=>?_)));rw[← gh];refine Aq (Ao (ob gi λhl gj gk=>ck gk λgl gm=>G7 (H1:=[.blk hf (Ab (Ap v hb)) 78,.blk b2 [Am ha.fDepth,Am (IntKind.wrap .i64 (ha.fBytes+(hl+1))),rB ha.fOutside,rB ha.fLong] 133,.blk b1 [Am 0,Am 0,rB false,rB false] 133,.row he 166 5 (AE Av ht)]) [0,3,5,6,8,11,12,13,38,39,40,41] [⟨[],rP b2 1,0⟩,⟨[0],Am ha.fBytes,1⟩,⟨[],rP hf 2,0⟩,⟨[2],rS ((Ap v hb).fStr),1⟩,⟨[3],Am hl,0⟩,⟨[4],Am (hl+1),0⟩,⟨[1,5],Am (IntKind.wrap .i64 (ha.fBytes+(hl+1))),0⟩,⟨[],rP b2 1,0⟩,⟨[7,6],rv undef,2⟩] (rle [(9,_),(1,[.blk hf (Ab (Ap v hb)) 78,.blk b2 [Am ha.fDepth,Am (IntKind.wrap .i64 (ha.fBytes+(hl+1))),rB ha.fOutside,rB ha.fLong] 133,.blk b1 [Am 0,Am 0,rB false,rB false] 133,.row he 166 5 (AE Av ht)])]) [68,69,70,71,72,73,74,75,0,3,5,6,8,11,12,13,38,39,40,41] ?_ ?_))
       ·refine oq (A5 Eh rfl CD rfl rfl) (of (AT (i:=1) Du rfl rfl rfl) (oq (A5 Cp rfl D1 rfl rfl) (of (AT (i:=0) Eb rfl rfl rfl) (ET rfl (λH=>KD Tryz.call145 (Oh ((Ap v hb).fStr) hl gj) rfl) ?_))));refine oq (BL rfl rfl gl) (oq (RK rfl rfl) (oq (A5 Eh rfl CD rfl rfl) (JC rfl (Qw (OR (i:=1) CD rfl rfl (Cu rfl) rfl rfl (cs':=[Am ha.fDepth,Am (IntKind.wrap .i64 (ha.fBytes+(hl+1))),rB ha.fOutside,rB ha.fLong]) rfl (H':=[.blk hf (Ab (Ap v hb)) 78,.blk b2 [Am ha.fDepth,Am (IntKind.wrap .i64 (ha.fBytes+(hl+1))),rB ha.fOutside,rB ha.fLong] 133,.blk b1 [Am 0,Am 0,rB false,rB false] 133,.row he 166 5 (AE Av ht)]) rfl)) ?_)));exact Ci
       refine AP (AO [(0,AU 4 (AE Ab v)),(3,rP b1 0),(5,rP b2 0),(6,rv he),(11,AU 4 (AE Ab v)),(12,Am (v.length:Int)),(13,Am hb),(38,rP hf 0),(39,Am ((Ap v hb).fKind)),(40,rB (!decide (((Ap v hb).fKind)=4))),(41,rB (!decide (((Ap v hb).fKind)=4))),(68,rP b2 1),(69,Am ha.fBytes),(70,rP hf 2),(71,rS ((Ap v hb).fStr)),(72,Am hl),(73,Am (hl+1)),(74,Am (IntKind.wrap .i64 (ha.fBytes+(hl+1)))),(75,rP b2 1)] [.blk hf (Ab (Ap v hb)) 78,.blk b2 [Am ha.fDepth,Am (IntKind.wrap .i64 (ha.fBytes+(hl+1))),rB ha.fOutside,rB (ha.fLong||(decide (200<(((Ap v hb).fStr).length:Int))))] 133,.blk b1 [Am 0,Am 0,rB false,rB false] 133,.row he 166 5 (AE Av ht)] ?_ ?_)
       ·refine An (vF Eh rfl GW (vL 1 PM rfl (wm rfl (AY (ha.fLong) (λho=>?_) (λho=>?_)))))
        ·refine wf ho (wf ho (wf ho (wf ho (wv (r:=rB true) (A7 rfl ho rfl) (vF Eh rfl GW (B5 (i:=1) GW rfl rfl (Cu rfl) rfl rfl (cs':=[Am ha.fDepth,Am (IntKind.wrap .i64 (ha.fBytes+(hl+1))),rB ha.fOutside,rB true]) rfl (H':=[.blk hf (Ab (Ap v hb)) 78,.blk b2 [Am ha.fDepth,Am (IntKind.wrap .i64 (ha.fBytes+(hl+1))),rB ha.fOutside,rB true] 133,.blk b1 [Am 0,Am 0,rB false,rB false] 133,.row he 166 5 (AE Av ht)]) rfl (At (HV (H':=[.blk hf (Ab (Ap v hb)) 78,.blk b2 [Am ha.fDepth,Am (IntKind.wrap .i64 (ha.fBytes+(hl+1))),rB ha.fOutside,rB (ha.fLong||(decide (200<(((Ap v hb).fStr).length:Int))))] 133,.blk b1 [Am 0,Am 0,rB false,rB false] 133,.row he 166 5 (AE Av ht)]) (by simp only[ho,Aby,AbC,AbT,Ab5,AbA,AbF,AbM,AbI,Abw,AbB,Abr,Abk]) ?_))))))));exact wt
        ·refine wo ho (vF Cp rfl D1 (wo ho (vL 0 Eb rfl (wo ho (wv (Bv C3 rfl) (wo ho (wv (DM rfl rfl) (Lf rfl ho rfl (vF Eh rfl GW (B5 (i:=1) GW rfl rfl (Cu rfl) rfl rfl (cs':=[Am ha.fDepth,Am (IntKind.wrap .i64 (ha.fBytes+(hl+1))),rB ha.fOutside,rB (decide (200<(((Ap v hb).fStr).length:Int)))]) rfl (H':=[.blk hf (Ab (Ap v hb)) 78,.blk b2 [Am ha.fDepth,Am (IntKind.wrap .i64 (ha.fBytes+(hl+1))),rB ha.fOutside,rB (decide (200<(((Ap v hb).fStr).length:Int)))] 133,.blk b1 [Am 0,Am 0,rB false,rB false] 133,.row he 166 5 (AE Av ht)]) rfl (At (HV (H':=[.blk hf (Ab (Ap v hb)) 78,.blk b2 [Am ha.fDepth,Am (IntKind.wrap .i64 (ha.fBytes+(hl+1))),rB ha.fOutside,rB (ha.fLong||(decide (200<(((Ap v hb).fStr).length:Int))))] 133,.blk b1 [Am 0,Am 0,rB false,rB false] 133,.row he 166 5 (AE Av ht)]) (by simp only[ho,Aby,AbC,AbT,Ab5,AbA,AbF,AbM,AbI,Abw,AbB,Abr,Abk]) ?_))))))))))));exact wt
       exact B1 (A3 (Be (A4 (AG ((ht,(AC.mk ha.fDepth (IntKind.wrap .i64 (ha.fBytes+(hl+1))) ha.fOutside (ha.fLong||(decide (200<(((Ap v hb).fStr).length:Int)))))),he) gm (AD.c rfl (AD.c rfl (AD.c5 rfl rfl rfl rfl rfl AD.nil))) (sS (sC (sC (sC sN))))))))
     ·refine A2 (AP (Ah (vF Eh rfl CD (vL 1 Du rfl (wm rfl (wv (C5 (ys:=hd) (enc:=Av) (i:=3) Im rfl rfl) (ck hX λgn gp=>wv (BL rfl rfl gn) (wv (YO UM rfl rfl) (vF Eh rfl CD (B5 (i:=1) CD rfl rfl (Cu rfl) rfl rfl (cs':=[Am (max ha.fDepth ((hd.length:Int)+1)),Am ha.fBytes,rB ha.fOutside,rB ha.fLong]) rfl (H':=[.blk hf (Ab (Ap v hb)) 78,.blk b2 [Am (max ha.fDepth ((hd.length:Int)+1)),Am ha.fBytes,rB ha.fOutside,rB ha.fLong] 133,.blk b1 [Am 0,Am 0,rB false,rB false] 133,.row he 166 5 (AE Av hd)]) rfl (Aq (Ao (ob gp λhg gq gr=>G7 (H1:=[.blk hf (Ab (Ap v hb)) 78,.blk b2 [Am (max ha.fDepth ((hd.length:Int)+1)),Am (IntKind.wrap .i64 (ha.fBytes+hg)),rB ha.fOutside,rB ha.fLong] 133,.blk b1 [Am 0,Am 0,rB false,rB false] 133,.row he 166 5 (AE Av hd)]) [0,3,5,6,7,8,11,12,13] [⟨[],rP b2 1,0⟩,⟨[0],Am ha.fBytes,1⟩,⟨[],BC (Ab (Ap v hb)),1⟩,⟨[2],Am hg,0⟩,⟨[1,3],Am (IntKind.wrap .i64 (ha.fBytes+hg)),0⟩,⟨[],rP b2 1,0⟩,⟨[5,4],rv undef,2⟩] (rle [(7,_),(1,[.blk hf (Ab (Ap v hb)) 78,.blk b2 [Am (max ha.fDepth ((hd.length:Int)+1)),Am (IntKind.wrap .i64 (ha.fBytes+hg)),rB ha.fOutside,rB ha.fLong] 133,.blk b1 [Am 0,Am 0,rB false,rB false] 133,.row he 166 5 (AE Av hd)])]) [92,93,94,95,96,97,0,3,5,6,7,8,11,12,13] ?_ ?_)))))))))))))
      ·refine oq (A5 Eh rfl CD rfl rfl) (of (AT (i:=1) Du rfl rfl rfl) (of (BH (i:=0) Tq DR rfl rfl rfl rfl) (ET rfl (λH=>KD Tryz.call146 (XE (Ap v hb) hg gq) rfl) ?_)));refine oq (RK rfl rfl) (oq (A5 Eh rfl CD rfl rfl) (JC rfl (Qw (OR (i:=1) CD rfl rfl (Cu rfl) rfl rfl (cs':=[Am (max ha.fDepth ((hd.length:Int)+1)),Am (IntKind.wrap .i64 (ha.fBytes+hg)),rB ha.fOutside,rB ha.fLong]) rfl (H':=[.blk hf (Ab (Ap v hb)) 78,.blk b2 [Am (max ha.fDepth ((hd.length:Int)+1)),Am (IntKind.wrap .i64 (ha.fBytes+hg)),rB ha.fOutside,rB ha.fLong] 133,.blk b1 [Am 0,Am 0,rB false,rB false] 133,.row he 166 5 (AE Av hd)]) rfl)) ?_));exact Ci
      refine AP (ck gr λgs gt=>AO [(0,AU 4 (AE Ab v)),(3,rP b1 0),(5,rP b2 0),(6,rv he),(7,Am hb),(8,rP hf 0),(11,AU 4 (AE Ab v)),(12,Am (v.length:Int)),(13,Am hb),(92,rP b2 1),(93,Am ha.fBytes),(94,BC (Ab (Ap v hb))),(95,Am hg),(96,Am (IntKind.wrap .i64 (ha.fBytes+hg))),(97,rP b2 1)] [.blk hf (Ab (Ap v hb)) 78,.blk b2 [Am (max ha.fDepth ((hd.length:Int)+1)),Am (IntKind.wrap .i64 (ha.fBytes+hg)),rB (ha.fOutside||((decide (((Ap v hb).fKind)=3))&&(!(ov (Bz ((Ap v hb).fInt)))))),rB ha.fLong] 133,.blk b1 [Am 0,Am 0,rB false,rB false] 133,.row he 166 5 (AE Av hd)] ?_ ?_)
      ·refine An (vF Eh rfl GW (vL 1 PM rfl (wm rfl (AY (ha.fOutside) (λhm=>?_) (λhm=>?_)))))
       ·refine wf hm (wf hm (wf hm (wf hm (wu (wu (wu (wu (wf hm (wv (r:=rB true) (A7 rfl hm rfl) (vF Eh rfl GW (B5 (i:=1) GW rfl rfl (Cu rfl) rfl rfl (cs':=[Am (max ha.fDepth ((hd.length:Int)+1)),Am (IntKind.wrap .i64 (ha.fBytes+hg)),rB true,rB ha.fLong]) rfl (H':=[.blk hf (Ab (Ap v hb)) 78,.blk b2 [Am (max ha.fDepth ((hd.length:Int)+1)),Am (IntKind.wrap .i64 (ha.fBytes+hg)),rB true,rB ha.fLong] 133,.blk b1 [Am 0,Am 0,rB false,rB false] 133,.row he 166 5 (AE Av hd)]) rfl (At (HV (H':=[.blk hf (Ab (Ap v hb)) 78,.blk b2 [Am (max ha.fDepth ((hd.length:Int)+1)),Am (IntKind.wrap .i64 (ha.fBytes+hg)),rB (ha.fOutside||((decide (((Ap v hb).fKind)=3))&&(!(ov (Bz ((Ap v hb).fInt)))))),rB ha.fLong] 133,.blk b1 [Am 0,Am 0,rB false,rB false] 133,.row he 166 5 (AE Av hd)]) (by simp only[hm,Aby,AbC,AbT,Ab5,AbA,AbF,AbM,AbI,Abw,AbB,Abr,Abk]) ?_)))))))))))));exact wt
       ·refine wo hm (vF Cp rfl Ki (wo hm (vL 0 Kj rfl (wo hm (wv (BT rfl rfl) (wo hm (wm rfl (AY (decide (((Ap v hb).fKind)=3)) (λhn=>?_) (λhn=>?_)))))))))
        ·refine wo hn (vF Cp rfl CD (wo hn (vL 0 Du rfl (wo hn (Gb Tryz.call99 (VW ((Ap v hb).fInt) (ov (Bz ((Ap v hb).fInt))) (Zn (IH (II gs hm) hn))) rfl (wo hn (wv (Cj rfl) (wo hm (Kf rfl hn rfl (Lf rfl hm rfl (vF Eh rfl GW (B5 (i:=1) GW rfl rfl (Cu rfl) rfl rfl (cs':=[Am (max ha.fDepth ((hd.length:Int)+1)),Am (IntKind.wrap .i64 (ha.fBytes+hg)),rB (!(ov (Bz ((Ap v hb).fInt)))),rB ha.fLong]) rfl (H':=[.blk hf (Ab (Ap v hb)) 78,.blk b2 [Am (max ha.fDepth ((hd.length:Int)+1)),Am (IntKind.wrap .i64 (ha.fBytes+hg)),rB (!(ov (Bz ((Ap v hb).fInt)))),rB ha.fLong] 133,.blk b1 [Am 0,Am 0,rB false,rB false] 133,.row he 166 5 (AE Av hd)]) rfl (At (HV (H':=[.blk hf (Ab (Ap v hb)) 78,.blk b2 [Am (max ha.fDepth ((hd.length:Int)+1)),Am (IntKind.wrap .i64 (ha.fBytes+hg)),rB (ha.fOutside||((decide (((Ap v hb).fKind)=3))&&(!(ov (Bz ((Ap v hb).fInt)))))),rB ha.fLong] 133,.blk b1 [Am 0,Am 0,rB false,rB false] 133,.row he 166 5 (AE Av hd)]) (by simp only[hm,hn,Aby,AbC,AbT,Ab5,AbA,AbF,AbM,AbI,Abw,AbB,Abr,Abk]) ?_))))))))))))));exact wt
        ·refine wf hn (wf hn (wf hn (wf hn (wo hm (wv (r:=rB false) (AM rfl hn rfl) (Lf rfl hm rfl (vF Eh rfl GW (B5 (i:=1) GW rfl rfl (Cu rfl) rfl rfl (cs':=[Am (max ha.fDepth ((hd.length:Int)+1)),Am (IntKind.wrap .i64 (ha.fBytes+hg)),rB false,rB ha.fLong]) rfl (H':=[.blk hf (Ab (Ap v hb)) 78,.blk b2 [Am (max ha.fDepth ((hd.length:Int)+1)),Am (IntKind.wrap .i64 (ha.fBytes+hg)),rB false,rB ha.fLong] 133,.blk b1 [Am 0,Am 0,rB false,rB false] 133,.row he 166 5 (AE Av hd)]) rfl (At (HV (H':=[.blk hf (Ab (Ap v hb)) 78,.blk b2 [Am (max ha.fDepth ((hd.length:Int)+1)),Am (IntKind.wrap .i64 (ha.fBytes+hg)),rB (ha.fOutside||((decide (((Ap v hb).fKind)=3))&&(!(ov (Bz ((Ap v hb).fInt)))))),rB ha.fLong] 133,.blk b1 [Am 0,Am 0,rB false,rB false] 133,.row he 166 5 (AE Av hd)]) (by simp only[hm,hn,Aby,AbC,AbT,Ab5,AbA,AbF,AbM,AbI,Abw,AbB,Abr,Abk]) ?_))))))))));exact wt
      refine AO [(0,AU 4 (AE Ab v)),(3,rP b1 0),(5,rP b2 0),(6,rv he),(7,Am hb),(8,rP hf 0),(11,AU 4 (AE Ab v)),(12,Am (v.length:Int)),(13,Am hb),(92,rP b2 1),(93,Am ha.fBytes),(94,BC (Ab (Ap v hb))),(95,Am hg),(96,Am (IntKind.wrap .i64 (ha.fBytes+hg))),(97,rP b2 1)] [.blk hf (Ab (Ap v hb)) 78,.blk b2 [Am (max ha.fDepth ((hd.length:Int)+1)),Am (IntKind.wrap .i64 (ha.fBytes+hg)),rB (ha.fOutside||((decide (((Ap v hb).fKind)=3))&&(!(ov (Bz ((Ap v hb).fInt)))))),rB (ha.fLong||(decide (200<(((Ap v hb).fStr).length:Int))))] 133,.blk b1 [Am 0,Am 0,rB false,rB false] 133,.row he 166 5 (AE Av hd)] ?_ ?_
      ·refine An (vF Eh rfl GW (vL 1 PM rfl (wm rfl (AY (ha.fLong) (λhp=>?_) (λhp=>?_)))))
       ·refine wf hp (wf hp (wf hp (wf hp (wv (r:=rB true) (A7 rfl hp rfl) (vF Eh rfl GW (B5 (i:=1) GW rfl rfl (Cu rfl) rfl rfl (cs':=[Am (max ha.fDepth ((hd.length:Int)+1)),Am (IntKind.wrap .i64 (ha.fBytes+hg)),rB (ha.fOutside||((decide (((Ap v hb).fKind)=3))&&(!(ov (Bz ((Ap v hb).fInt)))))),rB true]) rfl (H':=[.blk hf (Ab (Ap v hb)) 78,.blk b2 [Am (max ha.fDepth ((hd.length:Int)+1)),Am (IntKind.wrap .i64 (ha.fBytes+hg)),rB (ha.fOutside||((decide (((Ap v hb).fKind)=3))&&(!(ov (Bz ((Ap v hb).fInt)))))),rB true] 133,.blk b1 [Am 0,Am 0,rB false,rB false] 133,.row he 166 5 (AE Av hd)]) rfl (At (HV (H':=[.blk hf (Ab (Ap v hb)) 78,.blk b2 [Am (max ha.fDepth ((hd.length:Int)+1)),Am (IntKind.wrap .i64 (ha.fBytes+hg)),rB (ha.fOutside||((decide (((Ap v hb).fKind)=3))&&(!(ov (Bz ((Ap v hb).fInt)))))),rB (ha.fLong||(decide (200<(((Ap v hb).fStr).length:Int))))] 133,.blk b1 [Am 0,Am 0,rB false,rB false] 133,.row he 166 5 (AE Av hd)]) (by simp only[hp,Aby,AbC,AbT,Ab5,AbA,AbF,AbM,AbI,Abw,AbB,Abr,Abk]) ?_))))))));exact wt
       ·refine wo hp (vF Cp rfl D1 (wo hp (vL 0 Eb rfl (wo hp (wv (Bv C3 rfl) (wo hp (wv (DM rfl rfl) (Lf rfl hp rfl (vF Eh rfl GW (B5 (i:=1) GW rfl rfl (Cu rfl) rfl rfl (cs':=[Am (max ha.fDepth ((hd.length:Int)+1)),Am (IntKind.wrap .i64 (ha.fBytes+hg)),rB (ha.fOutside||((decide (((Ap v hb).fKind)=3))&&(!(ov (Bz ((Ap v hb).fInt)))))),rB (decide (200<(((Ap v hb).fStr).length:Int)))]) rfl (H':=[.blk hf (Ab (Ap v hb)) 78,.blk b2 [Am (max ha.fDepth ((hd.length:Int)+1)),Am (IntKind.wrap .i64 (ha.fBytes+hg)),rB (ha.fOutside||((decide (((Ap v hb).fKind)=3))&&(!(ov (Bz ((Ap v hb).fInt)))))),rB (decide (200<(((Ap v hb).fStr).length:Int)))] 133,.blk b1 [Am 0,Am 0,rB false,rB false] 133,.row he 166 5 (AE Av hd)]) rfl (At (HV (H':=[.blk hf (Ab (Ap v hb)) 78,.blk b2 [Am (max ha.fDepth ((hd.length:Int)+1)),Am (IntKind.wrap .i64 (ha.fBytes+hg)),rB (ha.fOutside||((decide (((Ap v hb).fKind)=3))&&(!(ov (Bz ((Ap v hb).fInt)))))),rB (ha.fLong||(decide (200<(((Ap v hb).fStr).length:Int))))] 133,.blk b1 [Am 0,Am 0,rB false,rB false] 133,.row he 166 5 (AE Av hd)]) (by simp only[hp,Aby,AbC,AbT,Ab5,AbA,AbF,AbM,AbI,Abw,AbB,Abr,Abk]) ?_))))))))))));exact wt
      refine Ao (Ah (vF Cp rfl CD (vL 0 Du rfl (wv (DM rfl rfl) (Aq (cz gt rfl (λgu gv=>?_) (λgu gw=>?_)))))))
      ·refine Ao (Ah (vF Cp rfl CD (vL 0 Du rfl (wm rfl (wv (B8 (ys:=v) (enc:=Ab) CJ rfl) (wv (DM rfl rfl) (Aq (cz gv rfl (λgx gy=>?_) (λgx gz=>?_)))))))))
       ·refine Ao (G7 (H1:=[.blk hf (Ab (Ap v hb)) 78,.blk b2 [Am (max ha.fDepth ((hd.length:Int)+1)),Am (IntKind.wrap .i64 (ha.fBytes+hg)),rB (ha.fOutside||((decide (((Ap v hb).fKind)=3))&&(!(ov (Bz ((Ap v hb).fInt)))))),rB (ha.fLong||(decide (200<(((Ap v hb).fStr).length:Int))))] 133,.blk b1 [Am (max ha.fDepth ((hd.length:Int)+1)),Am (IntKind.wrap .i64 (ha.fBytes+hg)),rB (ha.fOutside||((decide (((Ap v hb).fKind)=3))&&(!(ov (Bz ((Ap v hb).fInt)))))),rB (ha.fLong||(decide (200<(((Ap v hb).fStr).length:Int))))] 133,.row he 166 5 (AE Av hd)]) [3,5] [⟨[],BC [Am (max ha.fDepth ((hd.length:Int)+1)),Am (IntKind.wrap .i64 (ha.fBytes+hg)),rB (ha.fOutside||((decide (((Ap v hb).fKind)=3))&&(!(ov (Bz ((Ap v hb).fInt)))))),rB (ha.fLong||(decide (200<(((Ap v hb).fStr).length:Int))))],1⟩,⟨[],Am 0,0⟩,⟨[0],rv undef,2⟩,⟨[],rB false,0⟩] (rle [(3,_),(2,[.blk hf (Ab (Ap v hb)) 78,.blk b2 [Am (max ha.fDepth ((hd.length:Int)+1)),Am (IntKind.wrap .i64 (ha.fBytes+hg)),rB (ha.fOutside||((decide (((Ap v hb).fKind)=3))&&(!(ov (Bz ((Ap v hb).fInt)))))),rB (ha.fLong||(decide (200<(((Ap v hb).fStr).length:Int))))] 133,.blk b1 [Am (max ha.fDepth ((hd.length:Int)+1)),Am (IntKind.wrap .i64 (ha.fBytes+hg)),rB (ha.fOutside||((decide (((Ap v hb).fKind)=3))&&(!(ov (Bz ((Ap v hb).fInt)))))),rB (ha.fLong||(decide (200<(((Ap v hb).fStr).length:Int))))] 133,.row he 166 5 (AE Av hd)])]) [2,4,3] ?_ ?_)
        ·refine of (BH (i:=1) J7 E3 rfl rfl rfl rfl) (oq (Aw rfl) (JC rfl (Qw (Ds (i:=2) E3 rfl rfl rfl (BK.c rfl) rfl rfl (cs':=[Am (max ha.fDepth ((hd.length:Int)+1)),Am (IntKind.wrap .i64 (ha.fBytes+hg)),rB (ha.fOutside||((decide (((Ap v hb).fKind)=3))&&(!(ov (Bz ((Ap v hb).fInt)))))),rB (ha.fLong||(decide (200<(((Ap v hb).fStr).length:Int))))]) rfl (H':=[.blk hf (Ab (Ap v hb)) 78,.blk b2 [Am (max ha.fDepth ((hd.length:Int)+1)),Am (IntKind.wrap .i64 (ha.fBytes+hg)),rB (ha.fOutside||((decide (((Ap v hb).fKind)=3))&&(!(ov (Bz ((Ap v hb).fInt)))))),rB (ha.fLong||(decide (200<(((Ap v hb).fStr).length:Int))))] 133,.blk b1 [Am (max ha.fDepth ((hd.length:Int)+1)),Am (IntKind.wrap .i64 (ha.fBytes+hg)),rB (ha.fOutside||((decide (((Ap v hb).fKind)=3))&&(!(ov (Bz ((Ap v hb).fInt)))))),rB (ha.fLong||(decide (200<(((Ap v hb).fStr).length:Int))))] 133,.row he 166 5 (AE Av hd)]) rfl)) ?_));refine oq (Aw rfl) ?_;exact Ci
        refine AP (Ay (Ac (Ac (A0 (Ac (Ac (AX ?_)))))));have g0:=B2 gy hx hy;refine A0 (Ac (IV ?_));obtain rfl:=Az g0;exact Ax (V0 PK (AL rfl) (Gh (i:=2) J7 E3 rfl rfl rfl) (AL rfl)) (sS (sS (sS (sS sN)))) ⟨rfl,rfl⟩
       ·refine A2 (AP (Ah (wm rfl (vF Cp rfl Ki (vL 0 Kj rfl (wv (BT rfl rfl) (vF Cp rfl CD (vL 0 Du rfl (vF Cp rfl Ki (vL 0 Kj rfl (wv (BT rfl rfl) (wv (r:=BC [rB (decide (((Ap v hb).fKind)=6)),Am ((Ap v hb).fN),rB (decide (((Ap v hb).fKind)=6)),rS ([]:Ag),rB false]) (Lr rfl rfl rfl rfl rfl rfl) (AW (ys:=([(A1.mk (decide (((Ap v hb).fKind)=6)) ((Ap v hb).fN) (decide (((Ap v hb).fKind)=6)) ([]:Ag) false)]:List A1)) (enc:=Av) (css:=[[rB (decide (((Ap v hb).fKind)=6)),Am ((Ap v hb).fN),rB (decide (((Ap v hb).fKind)=6)),rS ([]:Ag),rB false]]) (xs:=[.tmp 139]) Im PG Tryz.zeroValue166 rfl rfl rfl ⟨GR.agg ⟨Up.refl _,Up.refl _,Up.refl _,Up.refl _,Up.refl _,trivial⟩,trivial⟩ rfl It rfl rfl rfl (λg1=>?_))))))))))))));refine ck gz λg2 g3=>Exists.elim Yq λinf hinf=>Cb (xs:=hd) (ys:=([(A1.mk (decide (((Ap v hb).fKind)=6)) ((Ap v hb).fN) (decide (((Ap v hb).fKind)=6)) ([]:Ag) false)]:List A1)) (enc:=Av) (i:=4) Im hinf.1 hinf.2.1 hinf.2.2.1 hinf.2.2.2 rfl rfl rfl rfl rfl (LD.w (i:=0) rfl rfl) It Mk g2 rfl (λh9=>?_);exact wa rfl (Aq (B1 (A3 (Be (Ca (H2:=[.blk b2 [Am (max ha.fDepth ((hd.length:Int)+1)),Am (IntKind.wrap .i64 (ha.fBytes+hg)),rB (ha.fOutside||((decide (((Ap v hb).fKind)=3))&&(!(ov (Bz ((Ap v hb).fInt)))))),rB (ha.fLong||(decide (200<(((Ap v hb).fStr).length:Int))))] 133,.blk b1 [Am 0,Am 0,rB false,rB false] 133,.row h9 166 5 (AE Av (hd++([(A1.mk (decide (((Ap v hb).fKind)=6)) ((Ap v hb).fN) (decide (((Ap v hb).fKind)=6)) ([]:Ag) false)]:List A1))),.row (.slice (some ⟨g1,0,none⟩) 1 1) 166 5 (AE Av ([(A1.mk (decide (((Ap v hb).fKind)=6)) ((Ap v hb).fN) (decide (((Ap v hb).fKind)=6)) ([]:Ag) false)]:List A1)),.blk hf (Ab (Ap v hb)) 78]) ((Aj (i:=3) rfl).trans (Abn _ ((Aj (i:=3) rfl).trans (Abn _ (Abo _))))) (A4 (AG ((hd++([(A1.mk (decide (((Ap v hb).fKind)=6)) ((Ap v hb).fN) (decide (((Ap v hb).fKind)=6)) ([]:Ag) false)]:List A1),(AC.mk (max ha.fDepth ((hd.length:Int)+1)) (IntKind.wrap .i64 (ha.fBytes+hg)) (ha.fOutside||((decide (((Ap v hb).fKind)=3))&&(!(ov (Bz ((Ap v hb).fInt)))))) (ha.fLong||(decide (200<(((Ap v hb).fStr).length:Int)))))),h9) g3 (AD.c rfl (AD.c rfl (AD.c5 rfl rfl rfl rfl rfl AD.nil))) (sC (sC (sC (sS (sS sN))))))))))))
      ·refine A2 (AP (Ah (wm rfl (ob gw λhw g4 g5=>DY (Hr:=[.blk hf (Ab (Ap v hb)) 78,.blk b2 [Am (max ha.fDepth ((hd.length:Int)+1)),Am (IntKind.wrap .i64 (ha.fBytes+hg)),rB (ha.fOutside||((decide (((Ap v hb).fKind)=3))&&(!(ov (Bz ((Ap v hb).fInt)))))),rB (ha.fLong||(decide (200<(((Ap v hb).fStr).length:Int))))] 133,.blk b1 [Am 0,Am 0,rB false,rB false] 133]) Tryz.call147 (T0 F he hd hw g4) rfl ((Aj (i:=3) rfl).trans (Abn _ (Abo _))) rfl ?_))));rintro _ _ ⟨hz,rfl,rfl⟩;refine wa rfl (Bx (wm rfl (wv (C5 (ys:=hw) (enc:=Av) (i:=0) Im rfl rfl) (wv (BT rfl rfl) (Aq (cz g5 rfl (λg6 g7=>?_) (λg6 g8=>?_)))))))
       ·refine Ao (ck g7 λg9 gA=>G7 (H1:=[.row hz 166 5 (AE Av hw),.blk hf (Ab (Ap v hb)) 78,.blk b2 [Am (max ha.fDepth ((hd.length:Int)+1)),Am (IntKind.wrap .i64 (ha.fBytes+hg)),rB (ha.fOutside||((decide (((Ap v hb).fKind)=3))&&(!(ov (Bz ((Ap v hb).fInt)))))),rB (ha.fLong||(decide (200<(((Ap v hb).fStr).length:Int))))] 133,.blk b1 [Am (max ha.fDepth ((hd.length:Int)+1)),Am (IntKind.wrap .i64 (ha.fBytes+hg)),rB (ha.fOutside||((decide (((Ap v hb).fKind)=3))&&(!(ov (Bz ((Ap v hb).fInt)))))),rB (ha.fLong||(decide (200<(((Ap v hb).fStr).length:Int))))] 133]) [3,5,7] [⟨[],Am hb,0⟩,⟨[0],Am (hb+1),0⟩,⟨[],BC [Am (max ha.fDepth ((hd.length:Int)+1)),Am (IntKind.wrap .i64 (ha.fBytes+hg)),rB (ha.fOutside||((decide (((Ap v hb).fKind)=3))&&(!(ov (Bz ((Ap v hb).fInt)))))),rB (ha.fLong||(decide (200<(((Ap v hb).fStr).length:Int))))],1⟩,⟨[1],Am (hb+1),0⟩,⟨[2],rv undef,2⟩,⟨[],rB true,0⟩] (rle [(5,_),(2,[.row hz 166 5 (AE Av hw),.blk hf (Ab (Ap v hb)) 78,.blk b2 [Am (max ha.fDepth ((hd.length:Int)+1)),Am (IntKind.wrap .i64 (ha.fBytes+hg)),rB (ha.fOutside||((decide (((Ap v hb).fKind)=3))&&(!(ov (Bz ((Ap v hb).fInt)))))),rB (ha.fLong||(decide (200<(((Ap v hb).fStr).length:Int))))] 133,.blk b1 [Am (max ha.fDepth ((hd.length:Int)+1)),Am (IntKind.wrap .i64 (ha.fBytes+hg)),rB (ha.fOutside||((decide (((Ap v hb).fKind)=3))&&(!(ov (Bz ((Ap v hb).fInt)))))),rB (ha.fLong||(decide (200<(((Ap v hb).fStr).length:Int))))] 133])]) [2,4,3] ?_ ?_)
        ·refine oq (Al rfl) (oq (BL rfl rfl g9) (of (BH (i:=2) J7 E3 rfl rfl rfl rfl) (oq (Aw rfl) (JC rfl (Qw (Ds (i:=3) E3 rfl rfl rfl (BK.c rfl) rfl rfl (cs':=[Am (max ha.fDepth ((hd.length:Int)+1)),Am (IntKind.wrap .i64 (ha.fBytes+hg)),rB (ha.fOutside||((decide (((Ap v hb).fKind)=3))&&(!(ov (Bz ((Ap v hb).fInt)))))),rB (ha.fLong||(decide (200<(((Ap v hb).fStr).length:Int))))]) rfl (H':=[.row hz 166 5 (AE Av hw),.blk hf (Ab (Ap v hb)) 78,.blk b2 [Am (max ha.fDepth ((hd.length:Int)+1)),Am (IntKind.wrap .i64 (ha.fBytes+hg)),rB (ha.fOutside||((decide (((Ap v hb).fKind)=3))&&(!(ov (Bz ((Ap v hb).fInt)))))),rB (ha.fLong||(decide (200<(((Ap v hb).fStr).length:Int))))] 133,.blk b1 [Am (max ha.fDepth ((hd.length:Int)+1)),Am (IntKind.wrap .i64 (ha.fBytes+hg)),rB (ha.fOutside||((decide (((Ap v hb).fKind)=3))&&(!(ov (Bz ((Ap v hb).fInt)))))),rB (ha.fLong||(decide (200<(((Ap v hb).fStr).length:Int))))] 133]) rfl)) ?_))));refine oq (Aw rfl) ?_;exact Ci
        refine AP (Ay (A0 (Ac (Ac (AX ?_)))));have gB:=B2 gA hx hy;refine A0 (Ac (IV ?_));obtain rfl:=Az gB;exact Ax (V0 PK (AL rfl) (Gh (i:=3) J7 E3 rfl rfl rfl) (AL rfl)) (sS (sS (sS (sS sN)))) ⟨rfl,rfl⟩
       ·exact A2 (AJ (Ca (H2:=[.blk b2 [Am (max ha.fDepth ((hd.length:Int)+1)),Am (IntKind.wrap .i64 (ha.fBytes+hg)),rB (ha.fOutside||((decide (((Ap v hb).fKind)=3))&&(!(ov (Bz ((Ap v hb).fInt)))))),rB (ha.fLong||(decide (200<(((Ap v hb).fStr).length:Int))))] 133,.blk b1 [Am 0,Am 0,rB false,rB false] 133,.row hz 166 5 (AE Av hw),.blk hf (Ab (Ap v hb)) 78]) ((Aj (i:=2) rfl).trans (Abn _ ((Aj (i:=2) rfl).trans (Abn _ (Abo _))))) (A4 (AG ((hw,(AC.mk (max ha.fDepth ((hd.length:Int)+1)) (IntKind.wrap .i64 (ha.fBytes+hg)) (ha.fOutside||((decide (((Ap v hb).fKind)=3))&&(!(ov (Bz ((Ap v hb).fInt)))))) (ha.fLong||(decide (200<(((Ap v hb).fStr).length:Int)))))),hz) g8 (AD.c rfl (AD.c rfl (AD.c5 rfl rfl rfl rfl rfl AD.nil))) (sC (sC (sC (sS sN))))))))
   ·rintro⟨⟨h6,h7⟩,h8⟩ h2;refine BY (l':=[(0,AU 4 (AE Ab v)),(3,rP b1 0),(5,rP b2 0),(6,rv h8),(11,AU 4 (AE Ab v)),(12,Am (v.length:Int)),(13,Am hb)]) (H':=[.blk b2 (AN h7) 133,.blk b1 [Am 0,Am 0,rB false,rB false] 133,.row h8 166 5 (AE Av h6)]) rfl rfl ?_;replace h2:DV hb h6 h7=some h4:=h2;unfold DV at h2;refine An (ck h2 λgC gD=>wv (BL rfl rfl gC) (wm rfl (At ?_)));have gE:=B6 gD hx;exact A4 (AG (hD,(h6,hb+1,h7),h8) ⟨gE,Ab1 _⟩ (AD.c rfl (AD.c rfl (AD.c5 rfl rfl rfl rfl rfl AD.nil))) (sC (sC (sC sN))))
  ·refine B1 (A3 ?_);have gF:=Cm hH hx hy;exact A3 (Bj (AG (ha,()) gF (AD.c rfl (AD.c rfl AD.nil)) (sC (sC (sS sN)))))
 ·rintro⟨hq,⟨⟩⟩ h3;refine CU (l':=[(3,rP b1 0),(5,rP b2 0)]) (H':=[.blk b2 (AN hq) 133,.blk b1 [Am 0,Am 0,rB false,rB false] 133]) rfl rfl ?_;replace h3:Kq hq=some r:=h3;unfold Kq at h3;refine Be (AP (Ao (G7 (H1:=[.blk b2 (AN hq) 133,.blk b1 (AN hq) 133]) [3,5] [⟨[],BC (AN hq),1⟩,⟨[],Am 0,0⟩,⟨[0],rv undef,2⟩,⟨[],rB false,0⟩] (rle [(3,_),(2,[.blk b2 (AN hq) 133,.blk b1 (AN hq) 133])]) [2,4,3] ?_ ?_)))
  ·refine of (BH (i:=0) J7 E3 rfl rfl rfl rfl) (oq (Aw rfl) (JC rfl (Qw (Ds (i:=1) E3 rfl rfl rfl (BK.c rfl) rfl rfl (cs':=[Am hq.fDepth,Am hq.fBytes,rB hq.fOutside,rB hq.fLong]) rfl (H':=[.blk b2 (AN hq) 133,.blk b1 (AN hq) 133]) rfl)) ?_));refine oq (Aw rfl) ?_;exact Ci
  refine AP (Ay (IV ?_));obtain rfl:=Az h3;exact Ax (V0 PK (AL rfl) (Gh (i:=1) J7 E3 rfl rfl rfl) (AL rfl)) (sS (sS sN)) ⟨rfl,rfl⟩
theorem MP (F:Nat)(v:(List Aa))(r:Int)(h:JO F v=some r):Fn Tryz.prog GE 80 [AU 4 (AE Ab v)] [] (λR H=>R=Am r∧H=[]):=by
 refine enter (n:=42) Tryz.func80 rfl Tryz.ntmps80 rfl (λw Z=>?_);unfold JO at h;refine Ah (wa rfl (Bx (wm rfl (ob h λr1 e3 h2=>Gb Tryz.call106 (OX F v r1 e3) rfl (wm rfl (wv (AF rfl rfl) (wv (AF rfl rfl) (wv (AF rfl rfl) (BN (cs:=[Am 0,Am 0,rB false,rB false]) PE rfl rfl (λb4=>?_))))))))));refine wa rfl (Bh (i:=0) E3 rfl rfl rfl (BK.c rfl) rfl rfl (cs':=[Am r1.2.1.fDepth,Am r1.2.1.fBytes,rB r1.2.1.fOutside,rB r1.2.1.fLong]) rfl (H':=[.blk b4 (AN r1.2.1) 133]) rfl (wa rfl (Aq (Ao (AK (AO [(0,AU 4 (AE Ab v)),(4,rP b4 0),(12,rB ((!r1.2.2)||(!decide (r1.1=(v.length:Int)))))] [.blk b4 (AN r1.2.1) 133] ?_ ?_))))))
 ·refine An (wm rfl (wv (Cj rfl) (wm rfl (AY (!r1.2.2) (λc5=>?_) (λc5=>?_)))))
  ·refine wf c5 (wf c5 (wf c5 (wf c5 (wv (r:=rB true) (A7 rfl c5 rfl) (wa rfl (At ?_))))));exact D3 c5
  ·refine wo c5 (wm rfl (wo c5 (wm rfl (wo c5 (wv (B8 (ys:=v) (enc:=Ab) CJ rfl) (wo c5 (wv (Dj rfl rfl) (Lf rfl c5 rfl (wa rfl (At ?_))))))))));exact D3 c5
 refine cz h2 rfl (λc6 h7=>?_) (λc6 h8=>?_)
 ·refine Ah (wa rfl (Aq (Ay (A0 (Ac ?_)))));obtain rfl:=Az h7;exact Ax (Ct X2 (AL rfl)) (sS sN) ⟨rfl,rfl⟩
 ·refine Ah (vF Eh rfl GW (vL 0 PM rfl (wa rfl (Aq (cz h8 rfl (λc9 he=>?_) (λc9 hf=>?_))))))
  ·refine Ah (wa rfl (Aq (Ay (A0 (Ac ?_)))));obtain rfl:=Az he;exact Ax (Ct X2 (AL rfl)) (sS sN) ⟨rfl,rfl⟩
  ·refine AO [(24,rB (r1.2.1.fLong||((decide (200<(v.length:Int)))||((decide (8<r1.2.1.fDepth))||(decide (4000<r1.2.1.fBytes))))))] [] ?_ ?_
   ·refine An (vF Eh rfl GW (vL 0 PM rfl (wm rfl (AY (r1.2.1.fLong) (λha=>?_) (λha=>?_)))))
    ·refine wf ha (wf ha (wf ha (wv (r:=rB true) (A7 rfl ha rfl) (wm rfl (wz rfl rfl (wz rfl rfl (wz rfl rfl (wv (r:=rB true) (A7 (b:=true) rfl rfl rfl) (wm rfl (wz rfl rfl (wz rfl rfl (wz rfl rfl (wv (r:=rB true) (A7 (b:=true) rfl rfl rfl) (wa rfl (At ?_)))))))))))))));exact D3 ha
    ·refine wo ha (wm rfl (wo ha (wv (B8 (ys:=v) (enc:=Ab) CJ rfl) (wo ha (wv (DM rfl rfl) (Lf rfl ha rfl (wm rfl (AY (decide (200<(v.length:Int))) (λhb=>?_) (λhb=>?_)))))))))
     ·refine wf hb (wf hb (wf hb (wv (r:=rB true) (A7 rfl hb rfl) (wm rfl (wz rfl rfl (wz rfl rfl (wz rfl rfl (wv (r:=rB true) (A7 (b:=true) rfl rfl rfl) (wa rfl (At ?_))))))))));exact D3 (And.intro ha hb)
     ·refine wo hb (vF Eh rfl CD (wo hb (vL 0 Du rfl (wo hb (wv (DM rfl rfl) (Lf rfl hb rfl (wm rfl (AY (decide (8<r1.2.1.fDepth)) (λhd=>?_) (λhd=>?_)))))))))
      ·refine wf hd (wf hd (wf hd (wv (r:=rB true) (A7 rfl hd rfl) (wa rfl (At ?_)))));exact D3 (And.intro ha (And.intro hb hd))
      ·refine wo hd (vF Eh rfl CD (wo hd (vL 0 Du rfl (wo hd (wv (DM rfl rfl) (Lf rfl hd rfl (wa rfl (At ?_))))))));exact D3 (And.intro ha (And.intro hb hd))
   refine cz hf rfl (λhg hh=>?_) (λhg hi=>?_)
   ·refine Ah (wa rfl (Aq (Ay (A0 (Ac ?_)))));obtain rfl:=Az hh;exact Ax (Ct X2 (AL rfl)) sN ⟨rfl,rfl⟩
   ·refine A2 (AJ (AP (Ah (wa rfl (Aq (Ay ?_))))));obtain rfl:=Az hi;exact Ax (Ct X2 (AL rfl)) sN ⟨rfl,rfl⟩
theorem Rx (F:Nat)(v:(List Aa))(r:(List Aa)×Int)(h:Ku F v=some r):Fn Tryz.prog GE 101 [AU 4 (AE Ab v)] [] (λR H=>R=C2 [AU 4 (AE Ab r.1),Am r.2]∧H=[]):=by
 refine enter (n:=11) Tryz.func101 rfl Tryz.ntmps101 rfl (λw Z=>?_);unfold Ku at h;refine Ah (wa rfl (wa rfl (Aq (Ao (Ah (wm rfl (ob h λr1 e3 h2=>Gb Tryz.call80 (MP F v r1 e3) rfl (wa rfl (Bx (wm rfl (wv (Dj rfl rfl) (Aq (cz h2 rfl (λc4 h5=>?_) (λc4 h6=>?_))))))))))))))
 ·refine Ah (wm rfl (wa rfl (wa rfl (Aq (Ay (Ac (WK.up (d:=2) (r:=AU 4 (AE Ab ([]:List Aa))) rfl (Up.le (Iw.nil _)) ?_)))))));obtain rfl:=Az h5;exact Ax (EB Tryz.results101 (AL rfl) (AL rfl)) sN ⟨rfl,rfl⟩
 ·refine A2 (AP (Ah (wm rfl (wa rfl (wa rfl (Aq (Ay ?_)))))));obtain rfl:=Az h6;exact Ax (EB Tryz.results101 (AL rfl) (AL rfl)) sN ⟨rfl,rfl⟩
end Go.Proofs.YtjfnokmpfekniaaGreatDoor.Q
namespace Go.Proofs.YtjfnokmpfekniaaGreatDoor
open Go
set_option linter.unusedVariables false
def CW (s:Ag)(ha:Int)(hb:Ag):Option (Stp (Int×Ag) (Out (Ag) (Ag))):=
 AV (decide (ha<(s.length:Int))) (AR (CG ha (s.length:Int))<|AV (((decide ((Ba s ha)=34))||(decide ((Ba s ha)=92)))) (AR (Dw 1 (hb.length+1))<|AR (B7 .u8 92)<|Lb (hb++[UInt8.ofNat (Int.toNat 92)]) λhd=>AR (Dw 1 (hd.length+1))<|AR (B7 .u8 (Ba s ha))<|Lb (hd++[UInt8.ofNat (Int.toNat (Ba s ha))]) λhe=>AR (B7 .i64 (ha+1))<|some (.next (ha+1,he))) (AR (Dw 1 (hb.length+1))<|AR (B7 .u8 (Ba s ha))<|Lb (hb++[UInt8.ofNat (Int.toNat (Ba s ha))]) λhf=>AR (B7 .i64 (ha+1))<|some (.next (ha+1,hf)))) (some (.out (.go hb)))
def Ek (ha:Ag):Option (Ag):=
 AR (Dw 1 (ha.length+1))<|Lb (ha++[UInt8.ofNat (Int.toNat 34)]) λhb=>some hb
def JN (F:Nat)(l:Ag)(s:Ag):Option (Ag):=
 AR (Dw 1 (l.length+1))<|AR (B7 .u8 34)<|Lb (l++[UInt8.ofNat (Int.toNat 34)]) λr6=>Bi (BE (λσ=>CW s σ.1 σ.2) F (0,r6)) (By λν=>Ek ν)
def Ja (F:Nat)(hm:Ag→(List Aa)→Bool→Ag→Aa→Option (Bool×Bool×Ag))(ha:(List Aa)→Bool→Ag→Aa→Option (Bool×Ag))(l:Ag)(v:(List Aa)):Option (Ag):=
 AR (CG 0 (v.length:Int))<|AV (decide (((Ap v 0).fKind)=1)) (AR (Dw 1 (l.length+([110,117,108,108]:Ag).length))<|Lb (l++([110,117,108,108]:Ag)) λhe=>some he) (AV (decide (((Ap v 0).fKind)=2)) (AR (CG ((Ap v 0).fInt) (([([102,97,108,115,101]:Ag),([116,114,117,101]:Ag)]:List Ag).length:Int))<|AR (Dw 1 (l.length+(Ap ([([102,97,108,115,101]:Ag),([116,114,117,101]:Ag)]:List Ag) ((Ap v 0).fInt)).length))<|Lb (l++(Ap ([([102,97,108,115,101]:Ag),([116,114,117,101]:Ag)]:List Ag) ((Ap v 0).fInt))) λhf=>some hf) (AV (decide (((Ap v 0).fKind)=3)) (AR (B7 .i64 ((Ap v 0).fInt))<|AR (Dw 1 (l.length+(Lib.itoa ((Ap v 0).fInt)).length))<|Lb (l++(Lib.itoa ((Ap v 0).fInt))) λhg=>some hg) (AV (decide (((Ap v 0).fKind)=4)) (Bi (JN F l ((Ap v 0).fStr)) λhh=>some hh) (AV (decide (((Ap v 0).fKind)=6)) (AR (CG 0 (([123,125]:Ag).length:Int))<|AR (Dw 1 (l.length+1))<|AR (B7 .u8 (Ba ([123,125]:Ag) 0))<|Lb (l++[UInt8.ofNat (Int.toNat (Ba ([123,125]:Ag) 0))]) λhi=>Bi (ha v true hi (Ap v 0)) λhb=>AR (CG 1 (([123,125]:Ag).length:Int))<|AR (Dw 1 (hb.2.length+1))<|AR (B7 .u8 (Ba ([123,125]:Ag) 1))<|Lb (hb.2++[UInt8.ofNat (Int.toNat (Ba ([123,125]:Ag) 1))]) λhj=>some hj) (AR (CG 0 (([91,93]:Ag).length:Int))<|AR (Dw 1 (l.length+1))<|AR (B7 .u8 (Ba ([91,93]:Ag) 0))<|Lb (l++[UInt8.ofNat (Int.toNat (Ba ([91,93]:Ag) 0))]) λhk=>Bi (ha v true hk (Ap v 0)) λhd=>AR (CG 1 (([91,93]:Ag).length:Int))<|AR (Dw 1 (hd.2.length+1))<|AR (B7 .u8 (Ba ([91,93]:Ag) 1))<|Lb (hd.2++[UInt8.ofNat (Int.toNat (Ba ([91,93]:Ag) 1))]) λhl=>some hl)))))
def Km (F:Nat)(ha:Ag→(List Aa)→Option (Ag))(key:Ag)(x:(List Aa))(first:Bool)(l:Ag)(c:Aa):Option (Bool×Bool×Ag):=
 AV (!first) (AR (Dw 1 (l.length+1))<|AR (B7 .u8 44)<|Lb (l++[UInt8.ofNat (Int.toNat 44)]) λr8=>AV (decide (c.fKind=6)) (Bi (JN F r8 key) λhb=>AR (Dw 1 (hb.length+1))<|AR (B7 .u8 58)<|Lb (hb++[UInt8.ofNat (Int.toNat 58)]) λhe=>Bi (ha he x) λhf=>some (true,false,hf)) (Bi (ha r8 x) λhg=>some (true,false,hg))) (AV (decide (c.fKind=6)) (Bi (JN F l key) λhd=>AR (Dw 1 (hd.length+1))<|AR (B7 .u8 58)<|Lb (hd++[UInt8.ofNat (Int.toNat 58)]) λhh=>Bi (ha hh x) λhi=>some (true,false,hi)) (Bi (ha l x) λhj=>some (true,false,hj)))
def De (F:Nat)(v:(List Aa))(c:Aa)(hj:Ag→(List Aa)→Bool→Ag→Aa→Option (Bool×Bool×Ag))(ha:Int)(hb:Int)(hh:Bool)(hi:Ag):Option (Stp (Int×Int×Bool×Ag) (Out (Bool×Ag) (Bool×Ag))):=
 AV (decide (hb<((Ap v 0).fN))) (AV (decide (((Ap v 0).fKind)=6)) (AR (CG ha (v.length:Int))<|AR (B7 .i64 (ha+1))<|AR (GU (ha+1) (v.length:Int))<|Bi (Ip F (List.drop (Int.toNat (ha+1)) v)) λhd=>AR (B7 .i64 ((ha+1)+hd.1))<|AR (GU (ha+1) ((ha+1)+hd.1))<|AR (GU ((ha+1)+hd.1) (v.length:Int))<|Bi (hj ((Ap v ha).fStr) (List.take (Int.toNat ((ha+1)+hd.1)-Int.toNat (ha+1)) (List.drop (Int.toNat (ha+1)) v)) hh hi c) λhe=>AV (!he.1) (some (.out (.ret (he.2.1,he.2.2)))) (AR (B7 .i64 (hb+1))<|some (.next ((ha+1)+hd.1,hb+1,he.2.1,he.2.2)))) (AR (GU ha (v.length:Int))<|Bi (Ip F (List.drop (Int.toNat ha) v)) λhf=>AR (B7 .i64 (ha+hf.1))<|AR (GU ha (ha+hf.1))<|AR (GU (ha+hf.1) (v.length:Int))<|Bi (hj ([]:Ag) (List.take (Int.toNat (ha+hf.1)-Int.toNat ha) (List.drop (Int.toNat ha) v)) hh hi c) λhg=>AV (!hg.1) (some (.out (.ret (hg.2.1,hg.2.2)))) (AR (B7 .i64 (hb+1))<|some (.next (ha+hf.1,hb+1,hg.2.1,hg.2.2))))) (some (.out (.go (hh,hi))))
def G9 (ha:Bool)(hb:Ag):Option (Bool×Ag):=
 some (ha,hb)
def Hv (F:Nat)(ha:Ag→(List Aa)→Bool→Ag→Aa→Option (Bool×Bool×Ag))(v:(List Aa))(first:Bool)(l:Ag)(c:Aa):Option (Bool×Ag):=
 AR (CG 0 (v.length:Int))<|Bi (BE (λσ=>De F v c ha σ.1 σ.2.1 σ.2.2.1 σ.2.2.2) F (1,0,first,l)) (By λν=>G9 ν.1 ν.2)
mutual
def E9:Nat→Ag→(List Aa)→Option (Ag)
 | 0,_,_=>none
 | nn+1,l,v=>Ja nn (DZ nn) (Gk nn) l v
def DZ:Nat→Ag→(List Aa)→Bool→Ag→Aa→Option (Bool×Bool×Ag)
 | 0,_,_,_,_,_=>none
 | nn+1,key,x,first,l,c=>Km nn (E9 nn) key x first l c
def Gk:Nat→(List Aa)→Bool→Ag→Aa→Option (Bool×Ag)
 | 0,_,_,_,_=>none
 | nn+1,v,first,l,c=>Hv nn (DZ nn) v first l c
end
def Kr (F:Nat)(v:(List Aa)):Option (Ag×Int):=
 Bi (JO F v) λr1=>AV (!decide (r1=0)) (some (([]:Ag),r1)) (Bi (E9 F ([]:Ag) v) λr8=>AR (decide (0<r8.length))<|some (r8,0))
end Go.Proofs.YtjfnokmpfekniaaGreatDoor
namespace Go.Proofs.YtjfnokmpfekniaaGreatDoor.Q
open Go Go.RowKit
set_option linter.unusedVariables false
set_option linter.unusedSimpArgs false
set_option maxRecDepth 100000
set_option maxHeartbeats 4000000
theorem ML (F:Nat)(ha:Nat)(hk:Value)(l:Ag)(s:Ag)(r:Ag)(h:JN F l s=some r):Fn Tryz.prog GE 121 [rP ha 0,rS s] [.bld 112 5 ha hk l] (λR H=>∃w0b:Value,R=rv (.tuple #[])∧H=[.bld 112 5 ha w0b r]):=by
 refine enter (n:=32) Tryz.func121 rfl Tryz.ntmps121 rfl (λw Z=>?_);unfold JN at h;refine Ah (wm rfl (ck h λg1 h2=>ck h2 λg3 h4=>Cl (rs:=[rP ha 0,rI .u8 34]) (Hin:=[.bld 112 5 ha hk l]) (Hr:=[]) Io rfl (Abo _) (Cg ha hk l 34 g1 g3) rfl ?_));rintro _ _ ⟨v5,rfl,rfl⟩;refine bd h4 λr6 e8 h7=>?_;rw[← e8];refine Aq (Ao (Ah (wm rfl (wv (Bv C3 rfl) (wv (r:=Am 0) (Al rfl) (Aq (AK (ob h7 λhq hr hs=>B0 (S:=Nat×(Int×Ag)×(Value)) (V:=(Ag)×(Value)) 0 (λσ=>BE (λσ=>CW s σ.1 σ.2) σ.1 σ.2.1=some hq) (λσ=>[(0,rP ha 0),(1,rS s),(8,Am (s.length:Int)),(9,Am σ.2.1.1)]) (λσ=>[.bld 112 5 ha σ.2.2 σ.2.1.2]) (λσ=>σ.1) (F,(0,r6),v5) hr (AD.c rfl (AD.c rfl (AD.c rfl (AD.c rfl AD.nil)))) (sC sN) (λσ=>Ek σ.1=some r) (λσ=>[(0,rP ha 0)]) (λσ=>[.bld 112 5 ha σ.2 σ.1]) ?_ ?_))))))))
 ·rintro⟨gf,⟨hb,he⟩,hf⟩ ht;refine BY (l':=[(0,rP ha 0),(1,rS s),(8,Am (s.length:Int)),(9,Am hb)]) (H':=[.bld 112 5 ha hf he]) rfl rfl ?_;obtain⟨hn,rfl,t127,hg,hl⟩:=CO ht;replace hg:CW s hb he=some t127:=hg;unfold CW at hg;refine Ah (wv (Dv rfl rfl) (Aq (Ao (cz hg rfl (λhu hw=>?_) (λhu hx=>?_)))))
  ·refine A2 (AP (Ao (AK (Ah (wm rfl (wa rfl (Aq (Ao (ck hw λhh hy=>AO [(0,rP ha 0),(1,rS s),(4,Am hb),(8,Am (s.length:Int)),(9,Am hb),(21,rB ((decide ((Ba s hb)=34))||(decide ((Ba s hb)=92))))] [.bld 112 5 ha hf he] ?_ ?_)))))))))
   ·refine An (wm rfl (wm rfl (wv (Bq C3 rfl rfl hh) (wv (BT rfl rfl) (wm rfl (AY (decide ((Ba s hb)=34)) (λhd=>?_) (λhd=>?_)))))))
    ·refine wf hd (wf hd (wf hd (wf hd (wv (r:=rB true) (A7 rfl hd rfl) (At ?_)))));exact D3 hd
    ·refine wo hd (wm rfl (wo hd (wm rfl (wo hd (wv (Bq C3 rfl rfl hh) (wo hd (wv (BT rfl rfl) (Lf rfl hd rfl (At ?_)))))))));exact D3 hd
   refine cz hy rfl (λhz h0=>?_) (λhz h1=>?_)
   ·refine An (wm rfl (ck h0 λh3 h5=>ck h5 λh6 h8=>Cl (rs:=[rP ha 0,rI .u8 92]) (Hin:=[.bld 112 5 ha hf he]) (Hr:=[]) Io rfl (Abo _) (Cg ha hf he 92 h3 h6) rfl ?_));rintro _ _ ⟨ho,rfl,rfl⟩;refine bd h8 λhp h9 hA=>?_;rw[← h9];refine Aq (An (wm rfl (wm rfl (wm rfl (wv (Bq C3 rfl rfl hh) (ck hA λhB hC=>ck hC λhD hE=>Cl (rs:=[rP ha 0,rI .u8 (Ba s hb)]) (Hin:=[.bld 112 5 ha ho hp]) (Hr:=[]) Io rfl (Abo _) (Cg ha ho hp (Ba s hb) hB hD) rfl ?_))))));rintro _ _ ⟨hG,rfl,rfl⟩;refine bd hE λhH hI hJ=>?_;rw[← hI];refine At (AJ (AP (An (ck hJ λhK hL=>wv (BL rfl rfl hK) (wm rfl (At ?_))))));have hN:=B6 hL hl;exact A4 (AG (hn,(hb+1,hH),hG) ⟨hN,Ab1 _⟩ (AD.c rfl (AD.c rfl (AD.c rfl (AD.c rfl AD.nil)))) (sC sN))
   ·refine A2 (AP (An (wm rfl (wm rfl (wm rfl (wv (Bq C3 rfl rfl hh) (ck h1 λhO hP=>ck hP λhQ hR=>Cl (rs:=[rP ha 0,rI .u8 (Ba s hb)]) (Hin:=[.bld 112 5 ha hf he]) (Hr:=[]) Io rfl (Abo _) (Cg ha hf he (Ba s hb) hO hQ) rfl ?_)))))));rintro _ _ ⟨hS,rfl,rfl⟩;refine bd hR λhT hU hV=>?_;rw[← hU];refine At (AJ (AP (An (ck hV λhW hX=>wv (BL rfl rfl hW) (wm rfl (At ?_))))));have hY:=B6 hX hl;exact A4 (AG (hn,(hb+1,hT),hS) ⟨hY,Ab1 _⟩ (AD.c rfl (AD.c rfl (AD.c rfl (AD.c rfl AD.nil)))) (sC sN))
  ·refine B1 (A3 ?_);have hZ:=Cm hx hl hs;exact A3 (Bj (AG (he,hf) hZ (AD.c rfl AD.nil) (sC sN)))
 ·rintro⟨hi,hm⟩ hj;refine CU (l':=[(0,rP ha 0)]) (H':=[.bld 112 5 ha hm hi]) rfl rfl ?_;replace hj:Ek hi=some r:=hj;unfold Ek at hj;refine Be (AP (An (wm rfl (ck hj λga gb=>Cl (rs:=[rP ha 0,rI .u8 34]) (Hin:=[.bld 112 5 ha hm hi]) (Hr:=[]) Io rfl (Abo _) (Cg ha hm hi 34 ga g3) rfl ?_))));rintro _ _ ⟨gc,rfl,rfl⟩;refine bd gb λgg gd ge=>?_;rw[← gd];refine At ?_;obtain rfl:=Az ge;exact G6 (T7 Tryz.results121) (sC sN) ⟨gc,rfl,rfl⟩
theorem Tt (F:Nat)(hl:Ag→(List Aa)→Bool→Ag→Aa→Option (Bool×Bool×Ag))(hm:(List Aa)→Bool→Ag→Aa→Option (Bool×Ag))(g4:(∀(hd:Nat) (he:Nat) (ha:Nat) (hb:Value) (hf:Nat) (key:Ag) (x:(List Aa)) (first:Bool) (l:Ag) (c:Aa) (r:Bool×Bool×Ag),hl key x first l c=some r→Fn Tryz.prog GE 124 [rS key,AU 4 (AE Ab x),rP hd 0,rP he 0,rP hf 0] [.blk hd [rB first] 4,.blk he [rP ha 0] 110,.bld 112 5 ha hb l,.blk hf (Ab c) 78] (λR H=>∃w3b:Value,R=rB r.1∧H=[.blk hd [rB r.2.1] 4,.blk he [rP ha 0] 110,.bld 112 5 ha w3b r.2.2,.blk hf (Ab c) 78])))(hn:(∀(hd:Nat) (he:Nat) (ha:Nat) (hb:Value) (hf:Nat) (v:(List Aa)) (first:Bool) (l:Ag) (c:Aa) (r:Bool×Ag),hm v first l c=some r→Fn Tryz.prog GE 123 [AU 4 (AE Ab v),rv (.func (.func 124) #[] #[(.pointer (some ⟨hd,0,none⟩)),(.pointer (some ⟨he,0,none⟩)),(.pointer (some ⟨hf,0,none⟩))])] [.blk hd [rB first] 4,.blk he [rP ha 0] 110,.bld 112 5 ha hb l,.blk hf (Ab c) 78] (λR H=>∃w1_1b:Value,R=rv (.tuple #[])∧H=[.blk hd [rB r.1] 4,.blk he [rP ha 0] 110,.bld 112 5 ha w1_1b r.2,.blk hf (Ab c) 78])))(ha:Nat)(hb:Value)(l:Ag)(v:(List Aa))(r:Ag)(h:Ja F hl hm l v=some r):Fn Tryz.prog GE 87 [rP ha 0,AU 4 (AE Ab v)] [.bld 112 5 ha hb l] (λR H=>∃w0b:Value,R=rv (.tuple #[])∧H=[.bld 112 5 ha w0b r]):=by
 refine enter (n:=52) Tryz.func87 rfl Tryz.ntmps87 rfl (λw Z=>?_);unfold Ja at h;refine Ah (YJ rfl (Cu rfl) rfl (λb1=>?_));refine Bx (wm rfl (ck h λg2 h3=>wv (BB (enc:=Ab) (ys:=v) CJ DR rfl rfl g2) (wv (EF Tq DR rfl rfl rfl) (BN (cs:=[Am 0,Am 0,rS ([]:Ag),Am 0]) Me rfl rfl (λb4=>?_)))));refine Bh (i:=0) DR rfl rfl rfl (BK.c rfl) rfl rfl (cs':=[Am ((Ap v 0).fKind),Am ((Ap v 0).fInt),rS ((Ap v 0).fStr),Am ((Ap v 0).fN)]) rfl (H':=[.blk b4 (Ab (Ap v 0)) 78,.blk b1 [rP ha 0] 110,.bld 112 5 ha hb l]) rfl (Bx (vF Cp rfl Ki (vL 0 Kj rfl (Aq (AK (Ah (wv (BT rfl rfl) (wa rfl (Aq (cz h3 rfl (λc5 h6=>?_) (λc5 hr=>?_)))))))))))
 ·refine An (vL 1 Ei rfl (ck h6 λg7 h8=>Cl (rs:=[rP ha 0,rS ([110,117,108,108]:Ag)]) (Hin:=[.bld 112 5 ha hb l]) (Hr:=[.blk b4 (Ab (Ap v 0)) 78,.blk b1 [rP ha 0] 110]) Tryz.call120 rfl ((Aj (i:=2) rfl).trans (Abn _ (Abo _))) (Hj ha hb l ([110,117,108,108]:Ag) g7) rfl ?_));rintro _ _ ⟨v9,rfl,rfl⟩;refine bd h8 λg5 hs ht=>?_;rw[← hs];refine At (AJ ?_);obtain rfl:=Az ht;exact G6 (T7 To) (sC (sS (sS sN))) ⟨v9,rfl,rfl⟩
 ·refine Ah (wv (BT rfl rfl) (wa rfl (Aq (cz hr rfl (λhu hw=>?_) (λhu hx=>?_)))))
  ·refine ck hw λg16 hy=>IX (H1:=[.blk b4 (Ab (Ap v 0)) 78,.blk b1 [rP ha 0] 110,.bld 112 5 ha hb l]) 6 [2,4] [⟨[],rP ha 0,1⟩,⟨[],AU 1 (AE eS ([([102,97,108,115,101]:Ag),([116,114,117,101]:Ag)]:List Ag)),0⟩,⟨[],rP b4 1,0⟩,⟨[2],Am ((Ap v 0).fInt),1⟩,⟨[1,3],HZ [rS (Ap ([([102,97,108,115,101]:Ag),([116,114,117,101]:Ag)]:List Ag) ((Ap v 0).fInt))],0⟩,⟨[4],rS (Ap ([([102,97,108,115,101]:Ag),([116,114,117,101]:Ag)]:List Ag) ((Ap v 0).fInt)),0⟩] (rle [(7,_)]) [32,33,34,35,36,37,2,4] ?_ ?_
   ·refine of (AT (i:=1) Ei rfl rfl rfl) (ET rfl (λH=>EO (ys:=([([102,97,108,115,101]:Ag),([116,114,117,101]:Ag)]:List Ag)) (enc:=eS) (css:=[[rS ([102,97,108,115,101]:Ag)],[rS ([116,114,117,101]:Ag)]]) (xs:=[.const (.string ⟨#[102,97,108,115,101]⟩),.const (.string ⟨#[116,114,117,101]⟩)]) D2 D1 ZY rfl rfl rfl ⟨GR.one rfl (Up.refl _),GR.one rfl (Up.refl _),trivial⟩ rfl Ih rfl rfl) ?_);refine oq (A5 Cp rfl CD rfl rfl) (of (AT (i:=0) Du rfl rfl rfl) (oq (BB (enc:=eS) (ys:=([([102,97,108,115,101]:Ag),([116,114,117,101]:Ag)]:List Ag)) D2 D1 rfl rfl g16) (oq (Bu Eb rfl rfl) ?_)));exact Ci
   refine ck hy λg18 hz=>Cl (rs:=[rP ha 0,rS (Ap ([([102,97,108,115,101]:Ag),([116,114,117,101]:Ag)]:List Ag) ((Ap v 0).fInt))]) (Hin:=[.bld 112 5 ha hb l]) (Hr:=[.blk b4 (Ab (Ap v 0)) 78,.blk b1 [rP ha 0] 110]) Tryz.call120 rfl ((Aj (i:=2) rfl).trans (Abn _ (Abo _))) (Hj ha hb l (Ap ([([102,97,108,115,101]:Ag),([116,114,117,101]:Ag)]:List Ag) ((Ap v 0).fInt)) g18) rfl ?_;rintro _ _ ⟨v20,rfl,rfl⟩;refine bd hz λg6 h0 h1=>?_;rw[← h0];refine At (AJ ?_);obtain rfl:=Az h1;exact G6 (T7 To) (sC (sS (sS sN))) ⟨v20,rfl,rfl⟩
  ·refine Ah (wv (BT rfl rfl) (wa rfl (Aq (cz hx rfl (λh2 h4=>?_) (λh2 h5=>?_)))))
   ·refine ck h4 λh7 h9=>IX (H1:=[.blk b4 (Ab (Ap v 0)) 78,.blk b1 [rP ha 0] 110,.bld 112 5 ha hb l]) 4 [2,4] [⟨[],rP ha 0,1⟩,⟨[],rP b4 1,0⟩,⟨[1],Am ((Ap v 0).fInt),1⟩,⟨[2],rS (Lib.itoa ((Ap v 0).fInt)),0⟩] (rle [(5,_)]) [41,42,43,44,2,4] ?_ ?_
    ·refine of (AT (i:=1) Ei rfl rfl rfl) (oq (A5 Cp rfl CD rfl rfl) (of (AT (i:=0) Du rfl rfl rfl) (ET rfl (λH=>IB (rs:=[Am ((Ap v 0).fInt)]) (r:=rS (Lib.itoa ((Ap v 0).fInt))) Tryz.call67 rfl (KR ((Ap v 0).fInt) h7) rfl) ?_)));exact Ci
    refine ck h9 λhA hB=>Cl (rs:=[rP ha 0,rS (Lib.itoa ((Ap v 0).fInt))]) (Hin:=[.bld 112 5 ha hb l]) (Hr:=[.blk b4 (Ab (Ap v 0)) 78,.blk b1 [rP ha 0] 110]) Tryz.call120 rfl ((Aj (i:=2) rfl).trans (Abn _ (Abo _))) (Hj ha hb l (Lib.itoa ((Ap v 0).fInt)) hA) rfl ?_;rintro _ _ ⟨hC,rfl,rfl⟩;refine bd hB λg8 hD hE=>?_;rw[← hD];refine At (AJ ?_);obtain rfl:=Az hE;exact G6 (T7 To) (sC (sS (sS sN))) ⟨hC,rfl,rfl⟩
   ·refine Ah (wv (BT rfl rfl) (wa rfl (Aq (cz h5 rfl (λhG hH=>?_) (λhG hI=>?_)))))
    ·refine An (vL 1 Ei rfl (vF Cp rfl D1 (vL 0 Eb rfl (ob hH λhJ hK hL=>DY (Hr:=[.blk b4 (Ab (Ap v 0)) 78,.blk b1 [rP ha 0] 110]) Tryz.call121 (ML F ha hb l ((Ap v 0).fStr) hJ hK) rfl ((Aj (i:=2) rfl).trans (Abn _ (Abo _))) rfl ?_))));rintro _ _ ⟨v41,rfl,rfl⟩;refine At (AJ ?_);obtain rfl:=Az hL;exact G6 (T7 To) (sC (sS (sS sN))) ⟨v41,rfl,rfl⟩
    ·refine Ah (wv (r:=rS ([91,93]:Ag)) (Aw rfl) (Aq (Ao (Ah (vF Cp rfl Ki (vL 0 Kj rfl (wv (BT rfl rfl) (Aq (cz hI rfl (λhN hO=>?_) (λhN hP=>?_))))))))))
     ·refine An (wv (r:=rS ([123,125]:Ag)) (Aw rfl) (Aq (Ao (ck hO λhQ hR=>IX (H1:=[.blk b4 (Ab (Ap v 0)) 78,.blk b1 [rP ha 0] 110,.bld 112 5 ha hb l]) 3 [1,2,4,5] [⟨[],rP ha 0,1⟩,⟨[],rS ([123,125]:Ag),0⟩,⟨[1],rI .u8 (Ba ([123,125]:Ag) 0),0⟩] (rle [(4,_)]) [15,16,17,1,2,4,5] ?_ ?_))))
      ·refine of (AT (i:=1) Ei rfl rfl rfl) (oq (Al rfl) (oq (Bq C3 rfl rfl hQ) ?_));exact Ci
      refine ck hR λhS hT=>ck hT λhU hV=>Cl (rs:=[rP ha 0,rI .u8 (Ba ([123,125]:Ag) 0)]) (Hin:=[.bld 112 5 ha hb l]) (Hr:=[.blk b4 (Ab (Ap v 0)) 78,.blk b1 [rP ha 0] 110]) Io rfl ((Aj (i:=2) rfl).trans (Abn _ (Abo _))) (Cg ha hb l (Ba ([123,125]:Ag) 0) hS hU) rfl ?_;rintro _ _ ⟨v51,rfl,rfl⟩;refine bd hV λho hW hX=>?_;rw[← hW];refine Bx (BN (cs:=[rB false]) Tryz.zeroValue4 rfl rfl (λhi=>?_));refine B5 (i:=0) GW rfl rfl (Cu rfl) rfl rfl (cs':=[rB true]) rfl (H':=[.blk hi [rB true] 4,.bld 112 5 ha v51 ho,.blk b4 (Ab (Ap v 0)) 78,.blk b1 [rP ha 0] 110]) rfl (Bx (wm rfl (wv (r:=rv (.func (.func 124) #[] #[(.pointer (some ⟨hi,0,none⟩)),(.pointer (some ⟨b1,0,none⟩)),(.pointer (some ⟨b4,0,none⟩))])) (Ni rfl) (ob hX λhg hY hZ=>DY (Hr:=[]) Tryz.call123 (hn hi b1 ha v51 b4 v true ho (Ap v 0) hg hY) rfl ((Aj (i:=0) rfl).trans (Abn _ ((Aj (i:=2) rfl).trans (Abn _ (Abo _))))) rfl ?_))));rintro _ _ ⟨hk,rfl,rfl⟩;refine Aq (ck hZ λga gb=>IX (H1:=[.blk hi [rB hg.1] 4,.blk b1 [rP ha 0] 110,.bld 112 5 ha hk hg.2,.blk b4 (Ab (Ap v 0)) 78]) 3 [2,5] [⟨[],rP ha 0,1⟩,⟨[],rS ([123,125]:Ag),0⟩,⟨[1],rI .u8 (Ba ([123,125]:Ag) 1),0⟩] (rle [(4,_)]) [22,23,24,2,5] ?_ ?_)
      ·refine of (AT (i:=1) Ei rfl rfl rfl) (oq (Al rfl) (oq (Bq C3 rfl rfl ga) ?_));exact Ci
      refine ck gb λgc gd=>ck gd λge gf=>Cl (rs:=[rP ha 0,rI .u8 (Ba ([123,125]:Ag) 1)]) (Hin:=[.bld 112 5 ha hk hg.2]) (Hr:=[.blk hi [rB hg.1] 4,.blk b1 [rP ha 0] 110,.blk b4 (Ab (Ap v 0)) 78]) Io rfl ((Aj (i:=2) rfl).trans (Abn _ (Abo _))) (Cg ha hk hg.2 (Ba ([123,125]:Ag) 1) gc ge) rfl ?_;rintro _ _ ⟨gg,rfl,rfl⟩;refine bd gf λg9 gh gi=>?_;rw[← gh];refine At (AJ ?_);obtain rfl:=Az gi;exact G6 (T7 To) (sC (sS (sS (sS sN)))) ⟨gg,rfl,rfl⟩
     ·refine A2 (AP (Ao (ck hP λgj gk=>IX (H1:=[.blk b4 (Ab (Ap v 0)) 78,.blk b1 [rP ha 0] 110,.bld 112 5 ha hb l]) 3 [1,2,4,5] [⟨[],rP ha 0,1⟩,⟨[],rS ([91,93]:Ag),0⟩,⟨[1],rI .u8 (Ba ([91,93]:Ag) 0),0⟩] (rle [(4,_)]) [15,16,17,1,2,4,5] ?_ ?_)))
      ·refine of (AT (i:=1) Ei rfl rfl rfl) (oq (Al rfl) (oq (Bq C3 rfl rfl gj) ?_));exact Ci
      refine ck gk λgl gm=>ck gm λgn gp=>Cl (rs:=[rP ha 0,rI .u8 (Ba ([91,93]:Ag) 0)]) (Hin:=[.bld 112 5 ha hb l]) (Hr:=[.blk b4 (Ab (Ap v 0)) 78,.blk b1 [rP ha 0] 110]) Io rfl ((Aj (i:=2) rfl).trans (Abn _ (Abo _))) (Cg ha hb l (Ba ([91,93]:Ag) 0) gl gn) rfl ?_;rintro _ _ ⟨hp,rfl,rfl⟩;refine bd gp λhq gq gr=>?_;rw[← gq];refine Bx (BN (cs:=[rB false]) Tryz.zeroValue4 rfl rfl (λhj=>?_));refine B5 (i:=0) GW rfl rfl (Cu rfl) rfl rfl (cs':=[rB true]) rfl (H':=[.blk hj [rB true] 4,.bld 112 5 ha hp hq,.blk b4 (Ab (Ap v 0)) 78,.blk b1 [rP ha 0] 110]) rfl (Bx (wm rfl (wv (r:=rv (.func (.func 124) #[] #[(.pointer (some ⟨hj,0,none⟩)),(.pointer (some ⟨b1,0,none⟩)),(.pointer (some ⟨b4,0,none⟩))])) (Ni rfl) (ob gr λhh gs gt=>DY (Hr:=[]) Tryz.call123 (hn hj b1 ha hp b4 v true hq (Ap v 0) hh gs) rfl ((Aj (i:=0) rfl).trans (Abn _ ((Aj (i:=2) rfl).trans (Abn _ (Abo _))))) rfl ?_))));rintro _ _ ⟨v85,rfl,rfl⟩;refine Aq (ck gt λgu gv=>IX (H1:=[.blk hj [rB hh.1] 4,.blk b1 [rP ha 0] 110,.bld 112 5 ha v85 hh.2,.blk b4 (Ab (Ap v 0)) 78]) 3 [2,5] [⟨[],rP ha 0,1⟩,⟨[],rS ([91,93]:Ag),0⟩,⟨[1],rI .u8 (Ba ([91,93]:Ag) 1),0⟩] (rle [(4,_)]) [22,23,24,2,5] ?_ ?_)
      ·refine of (AT (i:=1) Ei rfl rfl rfl) (oq (Al rfl) (oq (Bq C3 rfl rfl gu) ?_));exact Ci
      refine ck gv λgw gx=>ck gx λgy gz=>Cl (rs:=[rP ha 0,rI .u8 (Ba ([91,93]:Ag) 1)]) (Hin:=[.bld 112 5 ha v85 hh.2]) (Hr:=[.blk hj [rB hh.1] 4,.blk b1 [rP ha 0] 110,.blk b4 (Ab (Ap v 0)) 78]) Io rfl ((Aj (i:=2) rfl).trans (Abn _ (Abo _))) (Cg ha v85 hh.2 (Ba ([91,93]:Ag) 1) gw gy) rfl ?_;rintro _ _ ⟨g0,rfl,rfl⟩;refine bd gz λgA g1 g3=>?_;rw[← g1];refine At (AJ ?_);obtain rfl:=Az g3;exact G6 (T7 To) (sC (sS (sS (sS sN)))) ⟨g0,rfl,rfl⟩
theorem Rs (F:Nat)(hj:Ag→(List Aa)→Option (Ag))(hg:(∀(ha:Nat) (hf:Value) (l:Ag) (v:(List Aa)) (r:Ag),hj l v=some r→Fn Tryz.prog GE 87 [rP ha 0,AU 4 (AE Ab v)] [.bld 112 5 ha hf l] (λR H=>∃w0b:Value,R=rv (.tuple #[])∧H=[.bld 112 5 ha w0b r])))(hb:Nat)(hd:Nat)(ha:Nat)(hf:Value)(he:Nat)(key:Ag)(x:(List Aa))(first:Bool)(l:Ag)(c:Aa)(r:Bool×Bool×Ag)(h:Km F hj key x first l c=some r):Fn Tryz.prog GE 124 [rS key,AU 4 (AE Ab x),rP hb 0,rP hd 0,rP he 0] [.blk hb [rB first] 4,.blk hd [rP ha 0] 110,.bld 112 5 ha hf l,.blk he (Ab c) 78] (λR H=>∃w3b:Value,R=rB r.1∧H=[.blk hb [rB r.2.1] 4,.blk hd [rP ha 0] 110,.bld 112 5 ha w3b r.2.2,.blk he (Ab c) 78]):=by
 refine enter (n:=23) Tryz.func124 rfl Tryz.ntmps124 rfl (λw Z=>?_);unfold Km at h;refine Ah (wa rfl (Aq (Ao (Ah (vL 0 PM rfl (wv (Cj rfl) (Aq (cz h rfl (λc1 h2=>?_) (λc1 hr=>?_)))))))))
 ·refine An (vL 1 Ei rfl (ck h2 λg3 h4=>ck h4 λg5 h6=>Cl (rs:=[rP ha 0,rI .u8 44]) (Hin:=[.bld 112 5 ha hf l]) (Hr:=[.blk hb [rB first] 4,.blk hd [rP ha 0] 110,.blk he (Ab c) 78]) Io rfl ((Aj (i:=2) rfl).trans (Abn _ (Abo _))) (Cg ha hf l 44 g3 g5) rfl ?_));rintro _ _ ⟨v7,rfl,rfl⟩;refine bd h6 λr8 hs h9=>?_;rw[← hs];refine Bx (B5 (i:=1) GW rfl rfl (Cu rfl) rfl rfl (cs':=[rB false]) rfl (H':=[.bld 112 5 ha v7 r8,.blk hb [rB false] 4,.blk hd [rP ha 0] 110,.blk he (Ab c) 78]) rfl (Aq (Ao (Ah (vF Cp rfl Ki (vL 3 Kj rfl (wv (BT rfl rfl) (Aq (cz h9 rfl (λht hu=>?_) (λht hw=>?_))))))))))
  ·refine Ah (vL 2 Ei rfl (wm rfl (ob hu λhh hx hy=>DY (Hr:=[.blk hb [rB false] 4,.blk hd [rP ha 0] 110,.blk he (Ab c) 78]) Tryz.call121 (ML F ha v7 r8 key hh hx) rfl (Abo _) rfl ?_)));rintro _ _ ⟨hk,rfl,rfl⟩;refine Aq (An (vL 2 Ei rfl (ck hy λg17 hz=>ck hz λg19 h0=>Cl (rs:=[rP ha 0,rI .u8 58]) (Hin:=[.bld 112 5 ha hk hh]) (Hr:=[.blk hb [rB false] 4,.blk hd [rP ha 0] 110,.blk he (Ab c) 78]) Io rfl (Abo _) (Cg ha hk hh 58 g17 g19) rfl ?_)));rintro _ _ ⟨v21,rfl,rfl⟩;refine bd h0 λh1 h3 h5=>?_;rw[← h3];refine Bx (vL 2 Ei rfl (wm rfl (ob h5 λhl h7 h8=>DY (Hr:=[.blk hb [rB false] 4,.blk hd [rP ha 0] 110,.blk he (Ab c) 78]) UT (hg ha v21 h1 x hl h7) rfl (Abo _) rfl ?_)));rintro _ _ ⟨v28,rfl,rfl⟩;refine Bx (wa rfl (Aq (Ay (Ca (H2:=[.blk hb [rB false] 4,.blk hd [rP ha 0] 110,.bld 112 5 ha v28 hl,.blk he (Ab c) 78]) ((Aj (i:=1) rfl).trans (Abn _ ((Aj (i:=1) rfl).trans (Abn _ (Abo _))))) ?_))));obtain rfl:=Az h8;exact Ax (Ct So (AL rfl)) (sC (sC (sC (sC sN)))) ⟨v28,rfl,rfl⟩
  ·refine A2 (AP (Ah (vL 2 Ei rfl (wm rfl (ob hw λhm hA hB=>DY (Hr:=[.blk hb [rB false] 4,.blk hd [rP ha 0] 110,.blk he (Ab c) 78]) UT (hg ha v7 r8 x hm hA) rfl (Abo _) rfl ?_)))));rintro _ _ ⟨v33,rfl,rfl⟩;refine Bx (wa rfl (Aq (Ay (Ca (H2:=[.blk hb [rB false] 4,.blk hd [rP ha 0] 110,.bld 112 5 ha v33 hm,.blk he (Ab c) 78]) ((Aj (i:=1) rfl).trans (Abn _ ((Aj (i:=1) rfl).trans (Abn _ (Abo _))))) ?_))));obtain rfl:=Az hB;exact Ax (Ct So (AL rfl)) (sC (sC (sC (sC sN)))) ⟨v33,rfl,rfl⟩
 ·refine A2 (AP (Ah (B5 (i:=0) GW rfl rfl (Cu rfl) rfl rfl (cs':=[rB false]) rfl (H':=[.blk hb [rB false] 4,.blk hd [rP ha 0] 110,.bld 112 5 ha hf l,.blk he (Ab c) 78]) rfl (Aq (Ao (Ah (vF Cp rfl Ki (vL 3 Kj rfl (wv (BT rfl rfl) (Aq (cz hr rfl (λhC hD=>?_) (λhC hE=>?_))))))))))))
  ·refine Ah (vL 1 Ei rfl (wm rfl (ob hD λhi hG hH=>DY (Hr:=[.blk hb [rB false] 4,.blk hd [rP ha 0] 110,.blk he (Ab c) 78]) Tryz.call121 (ML F ha hf l key hi hG) rfl ((Aj (i:=2) rfl).trans (Abn _ (Abo _))) rfl ?_)));rintro _ _ ⟨hn,rfl,rfl⟩;refine Aq (An (vL 2 Ei rfl (ck hH λhI hJ=>ck hJ λhK hL=>Cl (rs:=[rP ha 0,rI .u8 58]) (Hin:=[.bld 112 5 ha hn hi]) (Hr:=[.blk hb [rB false] 4,.blk hd [rP ha 0] 110,.blk he (Ab c) 78]) Io rfl (Abo _) (Cg ha hn hi 58 hI hK) rfl ?_)));rintro _ _ ⟨hN,rfl,rfl⟩;refine bd hL λhO hP hQ=>?_;rw[← hP];refine Bx (vL 2 Ei rfl (wm rfl (ob hQ λho hR hS=>DY (Hr:=[.blk hb [rB false] 4,.blk hd [rP ha 0] 110,.blk he (Ab c) 78]) UT (hg ha hN hO x ho hR) rfl (Abo _) rfl ?_)));rintro _ _ ⟨hp,rfl,rfl⟩;refine Bx (wa rfl (Aq (Ay (Ca (H2:=[.blk hb [rB false] 4,.blk hd [rP ha 0] 110,.bld 112 5 ha hp ho,.blk he (Ab c) 78]) ((Aj (i:=1) rfl).trans (Abn _ ((Aj (i:=1) rfl).trans (Abn _ (Abo _))))) ?_))));obtain rfl:=Az hS;exact Ax (Ct So (AL rfl)) (sC (sC (sC (sC sN)))) ⟨hp,rfl,rfl⟩
  ·refine A2 (AP (Ah (vL 1 Ei rfl (wm rfl (ob hE λhq hT hU=>DY (Hr:=[.blk hb [rB false] 4,.blk hd [rP ha 0] 110,.blk he (Ab c) 78]) UT (hg ha hf l x hq hT) rfl ((Aj (i:=2) rfl).trans (Abn _ (Abo _))) rfl ?_)))));rintro _ _ ⟨v57,rfl,rfl⟩;refine Bx (wa rfl (Aq (Ay (Ca (H2:=[.blk hb [rB false] 4,.blk hd [rP ha 0] 110,.bld 112 5 ha v57 hq,.blk he (Ab c) 78]) ((Aj (i:=1) rfl).trans (Abn _ ((Aj (i:=1) rfl).trans (Abn _ (Abo _))))) ?_))));obtain rfl:=Az hU;exact Ax (Ct So (AL rfl)) (sC (sC (sC (sC sN)))) ⟨v57,rfl,rfl⟩
theorem Rr (F:Nat)(hm:Ag→(List Aa)→Bool→Ag→Aa→Option (Bool×Bool×Ag))(hx:(∀(hd:Nat) (he:Nat) (hb:Nat) (hn:Value) (hf:Nat) (key:Ag) (x:(List Aa)) (first:Bool) (l:Ag) (c:Aa) (r:Bool×Bool×Ag),hm key x first l c=some r→Fn Tryz.prog GE 124 [rS key,AU 4 (AE Ab x),rP hd 0,rP he 0,rP hf 0] [.blk hd [rB first] 4,.blk he [rP hb 0] 110,.bld 112 5 hb hn l,.blk hf (Ab c) 78] (λR H=>∃w3b:Value,R=rB r.1∧H=[.blk hd [rB r.2.1] 4,.blk he [rP hb 0] 110,.bld 112 5 hb w3b r.2.2,.blk hf (Ab c) 78])))(hd:Nat)(he:Nat)(hb:Nat)(hn:Value)(hf:Nat)(v:(List Aa))(first:Bool)(l:Ag)(c:Aa)(r:Bool×Ag)(h:Hv F hm v first l c=some r):Fn Tryz.prog GE 123 [AU 4 (AE Ab v),rv (.func (.func 124) #[] #[(.pointer (some ⟨hd,0,none⟩)),(.pointer (some ⟨he,0,none⟩)),(.pointer (some ⟨hf,0,none⟩))])] [.blk hd [rB first] 4,.blk he [rP hb 0] 110,.bld 112 5 hb hn l,.blk hf (Ab c) 78] (λR H=>∃w1_1b:Value,R=rv (.tuple #[])∧H=[.blk hd [rB r.1] 4,.blk he [rP hb 0] 110,.bld 112 5 hb w1_1b r.2,.blk hf (Ab c) 78]):=by
 refine enter (n:=52) Tryz.func123 rfl Tryz.ntmps123 rfl (λw Z=>?_);unfold Hv at h;refine Ah (wa rfl (Bx (wm rfl (ck h λg1 h2=>wv (BB (enc:=Ab) (ys:=v) CJ DR rfl rfl g1) (wv (Bn Cp rfl CD rfl rfl) (wv (Bu Du rfl rfl) (wv (r:=Am 0) (Al rfl) (Aq (AK (ob h2 λh7 h8 hr=>B0 (S:=Nat×(Int×Int×Bool×Ag)×(Value)) (V:=(Bool×Ag)×(Value)) 0 (λσ=>BE (λσ=>De F v c hm σ.1 σ.2.1 σ.2.2.1 σ.2.2.2) σ.1 σ.2.1=some h7) (λσ=>[(0,AU 4 (AE Ab v)),(1,rv (.func (.func 124) #[] #[(.pointer (some ⟨hd,0,none⟩)),(.pointer (some ⟨he,0,none⟩)),(.pointer (some ⟨hf,0,none⟩))])),(4,Am σ.2.1.1),(12,Am ((Ap v 0).fN)),(13,Am σ.2.1.2.1)]) (λσ=>[.blk hd [rB σ.2.1.2.2.1] 4,.blk he [rP hb 0] 110,.bld 112 5 hb σ.2.2 σ.2.1.2.2.2,.blk hf (Ab c) 78]) (λσ=>σ.1) (F,(1,0,first,l),hn) h8 (AD.c5 rfl rfl rfl rfl rfl AD.nil) (sC (sC (sC (sC sN)))) (λσ=>G9 σ.1.1 σ.1.2=some r) (λσ=>[]) (λσ=>[.blk hd [rB σ.1.1] 4,.blk he [rP hb 0] 110,.bld 112 5 hb σ.2 σ.1.2,.blk hf (Ab c) 78]) ?_ ?_))))))))))
 ·rintro⟨gy,⟨ha,ho,hi,hj⟩,hk⟩ h9;refine BY (l':=[(0,AU 4 (AE Ab v)),(1,rv (.func (.func 124) #[] #[(.pointer (some ⟨hd,0,none⟩)),(.pointer (some ⟨he,0,none⟩)),(.pointer (some ⟨hf,0,none⟩))])),(4,Am ha),(12,Am ((Ap v 0).fN)),(13,Am ho)]) (H':=[.blk hd [rB hi] 4,.blk he [rP hb 0] 110,.bld 112 5 hb hk hj,.blk hf (Ab c) 78]) rfl rfl ?_;obtain⟨hy,rfl,hA,hp,hl⟩:=CO h9;replace hp:De F v c hm ha ho hi hj=some hA:=hp;unfold De at hp;refine Ah (wv (Dv rfl rfl) (Aq (Ao (cz hp rfl (λc175 hB=>?_) (λc175 hC=>?_)))))
  ·refine A2 (AP (Ao (AK (Ah (wv (r:=rS ([]:Ag)) (Aw rfl) (Aq (Ao (Ah (wm rfl (wv (BB (enc:=Ab) (ys:=v) CJ DR rfl rfl g1) (wv (Bn Cp rfl Ki rfl rfl) (wv (Bu Kj rfl rfl) (wv (BT rfl rfl) (Aq (cz hB rfl (λhD hE=>?_) (λhD hG=>?_))))))))))))))))
   ·refine Ah (wm rfl (wm rfl (ck hE λhH hI=>wv (BB (enc:=Ab) (ys:=v) CJ DR rfl rfl hH) (wv (Bn Cp rfl D1 rfl rfl) (wv (Bu Eb rfl rfl) (wa rfl (Aq (An (wm rfl (ck hI λhJ hK=>wv (BL rfl rfl hJ) (wa rfl (Bx (wm rfl (wm rfl (ck hK λhL hN=>wv (r:=AU 4 (AE Ab (List.drop (Bt (ha+1)) v))) (Nh CJ DR rfl rfl hL) (ob hN λhg hO hP=>Gb Tryz.call106 (OX F (List.drop (Bt (ha+1)) v) hg hO) rfl (wm rfl (wv (AF rfl rfl) (wv (AF rfl rfl) ?_)))))))))))))))))));refine wv (AF rfl rfl) (BN (cs:=[Am 0,Am 0,rB false,rB false]) PE rfl rfl (λhz=>?_));refine wa rfl (Bh (i:=0) E3 rfl rfl rfl (BK.c rfl) rfl rfl (cs':=[Am hg.2.1.fDepth,Am hg.2.1.fBytes,rB hg.2.1.fOutside,rB hg.2.1.fLong]) rfl (H':=[.blk hz (AN hg.2.1) 133,.blk hd [rB hi] 4,.blk he [rP hb 0] 110,.bld 112 5 hb hk hj,.blk hf (Ab c) 78]) rfl (wa rfl (Aq (Ao (Ah (wm rfl (wm rfl (wm rfl (wm rfl (wm rfl (wm rfl (ck hP λhs hQ=>wv (BL rfl rfl hs) (wm rfl (wm rfl (wv (BL rfl rfl hs) (ck hQ λhR hS=>ck hS λhT hU=>wv (r:=AU 4 (AE Ab (List.take (Bt ((ha+1)+hg.1)-Bt (ha+1)) (List.drop (Bt (ha+1)) v)))) (Ng CJ DR rfl rfl rfl rfl hR hT) (ob hU λht hV hW=>Sq (rs:=[rS ((Ap v ha).fStr),AU 4 (AE Ab (List.take (Bt ((ha+1)+hg.1)-Bt (ha+1)) (List.drop (Bt (ha+1)) v)))]) (Hin:=[.blk hd [rB hi] 4,.blk he [rP hb 0] 110,.bld 112 5 hb hk hj,.blk hf (Ab c) 78]) (Hr:=[.blk hz (AN hg.2.1) 133]) Tryz.call124 rfl rfl ((Aj (i:=1) rfl).trans (Abn _ ((Aj (i:=1) rfl).trans (Abn _ ((Aj (i:=1) rfl).trans (Abn _ ((Aj (i:=1) rfl).trans (Abn _ (Abo _))))))))) (hx hd he hb hk hf ((Ap v ha).fStr) (List.take (Bt ((ha+1)+hg.1)-Bt (ha+1)) (List.drop (Bt (ha+1)) v)) hi hj c ht hV) rfl ?_)))))))))))))))));rintro _ _ ⟨h0,rfl,rfl⟩;refine wv (Cj rfl) (Aq (cz hW rfl (λhX hY=>?_) (λhX hZ=>?_)))
    ·refine Ay (Ac (A0 (Ac (Ac (AX ?_)))));have ga:=B2 hY hl hr;refine A0 ?_;obtain rfl:=Az ga;exact Ax (T7 Tryz.results123) (sC (sC (sC (sC (sS sN))))) ⟨h0,rfl,rfl⟩
    ·refine A2 (AP (An (wm rfl (wm rfl (wv (BL rfl rfl hs) (wa rfl (At (AJ (AP (An (ck hZ λgb gc=>wv (BL rfl rfl gb) (wm rfl (At ?_)))))))))))));have gd:=B6 gc hl;exact A4 (AG (hy,((ha+1)+hg.1,ho+1,ht.2.1,ht.2.2),h0) ⟨gd,Ab1 _⟩ (AD.c5 rfl rfl rfl rfl rfl AD.nil) (sC (sC (sC (sC (sS sN))))))
   ·refine A2 (AP (Ah (wm rfl (wm rfl (ck hG λge gf=>wv (r:=AU 4 (AE Ab (List.drop (Bt ha) v))) (Nh CJ DR rfl rfl ge) (ob gf λhh gg gh=>Gb Tryz.call106 (OX F (List.drop (Bt ha) v) hh gg) rfl (wm rfl (wv (AF rfl rfl) (wv (AF rfl rfl) (wv (AF rfl rfl) (BN (cs:=[Am 0,Am 0,rB false,rB false]) PE rfl rfl (λh1=>?_))))))))))));refine wa rfl (Bh (i:=0) E3 rfl rfl rfl (BK.c rfl) rfl rfl (cs':=[Am hh.2.1.fDepth,Am hh.2.1.fBytes,rB hh.2.1.fOutside,rB hh.2.1.fLong]) rfl (H':=[.blk h1 (AN hh.2.1) 133,.blk hd [rB hi] 4,.blk he [rP hb 0] 110,.bld 112 5 hb hk hj,.blk hf (Ab c) 78]) rfl (wa rfl (Aq (Ao (Ah (wm rfl (wm rfl (wm rfl (wm rfl (wm rfl (wm rfl (ck gh λhu gi=>wv (BL rfl rfl hu) (wm rfl (wm rfl (wv (BL rfl rfl hu) (ck gi λgj gk=>ck gk λgl gm=>wv (r:=AU 4 (AE Ab (List.take (Bt (ha+hh.1)-Bt ha) (List.drop (Bt ha) v)))) (Ng CJ DR rfl rfl rfl rfl gj gl) (ob gm λhw gn gp=>Sq (rs:=[rS ([]:Ag),AU 4 (AE Ab (List.take (Bt (ha+hh.1)-Bt ha) (List.drop (Bt ha) v)))]) (Hin:=[.blk hd [rB hi] 4,.blk he [rP hb 0] 110,.bld 112 5 hb hk hj,.blk hf (Ab c) 78]) (Hr:=[.blk h1 (AN hh.2.1) 133]) Tryz.call124 rfl rfl ((Aj (i:=1) rfl).trans (Abn _ ((Aj (i:=1) rfl).trans (Abn _ ((Aj (i:=1) rfl).trans (Abn _ ((Aj (i:=1) rfl).trans (Abn _ (Abo _))))))))) (hx hd he hb hk hf ([]:Ag) (List.take (Bt (ha+hh.1)-Bt ha) (List.drop (Bt ha) v)) hi hj c hw gn) rfl ?_)))))))))))))))));rintro _ _ ⟨h3,rfl,rfl⟩;refine wv (Cj rfl) (Aq (cz gp rfl (λgq gr=>?_) (λgq gs=>?_)))
    ·refine Ay (Ac (A0 (Ac (Ac (AX ?_)))));have gt:=B2 gr hl hr;refine A0 ?_;obtain rfl:=Az gt;exact Ax (T7 Tryz.results123) (sC (sC (sC (sC (sS sN))))) ⟨h3,rfl,rfl⟩
    ·refine A2 (AP (An (wm rfl (wm rfl (wv (BL rfl rfl hu) (wa rfl (At (AJ (AP (An (ck gs λgu gv=>wv (BL rfl rfl gu) (wm rfl (At ?_)))))))))))));have gw:=B6 gv hl;exact A4 (AG (hy,(ha+hh.1,ho+1,hw.2.1,hw.2.2),h3) ⟨gw,Ab1 _⟩ (AD.c5 rfl rfl rfl rfl rfl AD.nil) (sC (sC (sC (sC (sS sN))))))
  ·refine B1 (A3 ?_);have gx:=Cm hC hl hr;exact A3 (Bj (AG ((hi,hj),hk) gx AD.nil (sC (sC (sC (sC sN))))))
 ·rintro⟨⟨h4,h5⟩,h6⟩ hq;refine CU (l':=[]) (H':=[.blk hd [rB h4] 4,.blk he [rP hb 0] 110,.bld 112 5 hb h6 h5,.blk hf (Ab c) 78]) rfl rfl ?_;replace hq:G9 h4 h5=some r:=hq;unfold G9 at hq;refine Be ?_;obtain rfl:=Az hq;exact G6 (T7 Tryz.results123) (sC (sC (sC (sC sN)))) ⟨h6,rfl,rfl⟩
theorem G8:∀F:Nat,(∀(ha:Nat) (hb:Value) (l:Ag) (v:(List Aa)) (r:Ag),E9 F l v=some r→Fn Tryz.prog GE 87 [rP ha 0,AU 4 (AE Ab v)] [.bld 112 5 ha hb l] (λR H=>∃w0b:Value,R=rv (.tuple #[])∧H=[.bld 112 5 ha w0b r]))∧(∀(hd:Nat) (he:Nat) (ha:Nat) (hb:Value) (hf:Nat) (key:Ag) (x:(List Aa)) (first:Bool) (l:Ag) (c:Aa) (r:Bool×Bool×Ag),DZ F key x first l c=some r→Fn Tryz.prog GE 124 [rS key,AU 4 (AE Ab x),rP hd 0,rP he 0,rP hf 0] [.blk hd [rB first] 4,.blk he [rP ha 0] 110,.bld 112 5 ha hb l,.blk hf (Ab c) 78] (λR H=>∃w3b:Value,R=rB r.1∧H=[.blk hd [rB r.2.1] 4,.blk he [rP ha 0] 110,.bld 112 5 ha w3b r.2.2,.blk hf (Ab c) 78]))∧(∀(hd:Nat) (he:Nat) (ha:Nat) (hb:Value) (hf:Nat) (v:(List Aa)) (first:Bool) (l:Ag) (c:Aa) (r:Bool×Ag),Gk F v first l c=some r→Fn Tryz.prog GE 123 [AU 4 (AE Ab v),rv (.func (.func 124) #[] #[(.pointer (some ⟨hd,0,none⟩)),(.pointer (some ⟨he,0,none⟩)),(.pointer (some ⟨hf,0,none⟩))])] [.blk hd [rB first] 4,.blk he [rP ha 0] 110,.bld 112 5 ha hb l,.blk hf (Ab c) 78] (λR H=>∃w1_1b:Value,R=rv (.tuple #[])∧H=[.blk hd [rB r.1] 4,.blk he [rP ha 0] 110,.bld 112 5 ha w1_1b r.2,.blk hf (Ab c) 78]))
  | 0=>⟨(λ_ _ _ _ _ h=>by simp[E9] at h),(λ_ _ _ _ _ _ _ _ _ _ _ h=>by simp[DZ] at h),(λ_ _ _ _ _ _ _ _ _ _ h=>by simp[Gk] at h)⟩
  | nn+1=>⟨(λha hb l v r h=>Tt nn (DZ nn) (Gk nn) (G8 nn).2.1 (G8 nn).2.2 ha hb l v r (by rw[E9] at h;exact h)),(λhd he ha hb hf key x first l c r h=>Rs nn (E9 nn) (G8 nn).1 hd he ha hb hf key x first l c r (by rw[DZ] at h;exact h)),(λhd he ha hb hf v first l c r h=>Rr nn (DZ nn) (G8 nn).2.1 hd he ha hb hf v first l c r (by rw[Gk] at h;exact h))⟩
theorem Vd (F:Nat)(ha:Nat)(hb:Value)(l:Ag)(v:(List Aa))(r:Ag)(h:E9 F l v=some r):Fn Tryz.prog GE 87 [rP ha 0,AU 4 (AE Ab v)] [.bld 112 5 ha hb l] (λR H=>∃w0b:Value,R=rv (.tuple #[])∧H=[.bld 112 5 ha w0b r]):=(G8 F).1 ha hb l v r h
theorem Ty (F:Nat)(v:(List Aa))(r:Ag×Int)(h:Kr F v=some r):Fn Tryz.prog GE 65 [AU 4 (AE Ab v)] [] (λR H=>R=C2 [rS r.1,Am r.2]∧H=[]):=by
 refine enter (n:=14) Tryz.func65 rfl Tryz.ntmps65 rfl (λw Z=>?_);unfold Kr at h;refine Ah (wv (r:=rS ([]:Ag)) (Aw rfl) (wa rfl (Aq (Ao (Ah (wm rfl (ob h λr1 e3 h2=>Gb Tryz.call80 (MP F v r1 e3) rfl (wa rfl (Bx (wm rfl (wv (Dj rfl rfl) (Aq (cz h2 rfl (λc4 h5=>?_) (λc4 h6=>?_))))))))))))))
 ·refine Ah (wm rfl (wv (r:=rS ([]:Ag)) (Aw rfl) (wa rfl (Aq (Ay (Ac ?_))))));obtain rfl:=Az h5;exact Ax (EB Tryz.results65 (AL rfl) (AL rfl)) sN ⟨rfl,rfl⟩
 ·refine A2 (AP (Ah (BN (cs:=[rv (.pointer none),rv (.slice none 0 0)]) Tryz.zeroValue112 rfl rfl (λb7=>?_))));refine Bx (wm rfl (WL.tobld (te:=5) (i:=0) rfl (ob h6 λr8 hb h9=>DY (Hr:=[]) UT (Vd F b7 (.slice none 0 0) ([]:Ag) v r8 hb) rfl (Abo _) rfl ?_)));rintro _ _ ⟨ha,rfl,rfl⟩;refine Bx (ck h9 λhd he=>Cl (rs:=[rP b7 0]) (Hin:=[.bld 112 5 b7 ha r8]) (Hr:=[]) Tryz.call88 rfl (Abo _) (UD b7 ha r8  hd) rfl ?_);rintro _ _ ⟨rfl,rfl⟩;refine wa rfl (wa rfl (Aq (Ay ?_)));obtain rfl:=Az he;exact Ax (EB Tryz.results65 (AL rfl) (AL rfl)) sN ⟨rfl,rfl⟩
end Go.Proofs.YtjfnokmpfekniaaGreatDoor.Q
namespace Go.Proofs.YtjfnokmpfekniaaGreatDoor
open Go
set_option linter.unusedVariables false
structure Ak where
 fS:Ag
 fAt:Int
 fCells:(List Aa)
 fGreat:Bool
 deriving DecidableEq,Inhabited
def EQ (s:Ag)(p:Ag):Option (Bool):=
 AR (imp (decide ((p.length:Int)≤(s.length:Int))) (GU (p.length:Int) (s.length:Int)))<|some ((decide ((p.length:Int)≤(s.length:Int)))&&(decide ((List.take (Int.toNat (p.length:Int)) s)=p)))
def DP (s:Ag)(p:Ag):Option (Bool):=
 Bi (EQ s p) λr1=>some r1
def D5 (q:Ak)(s:Ag):Option (Bool×Ak):=
 AR (GU q.fAt (q.fS.length:Int))<|Bi (DP (List.drop (Int.toNat q.fAt) q.fS) s) λr3=>AV (!r3) (some (false,q)) (AR (B7 .i64 (q.fAt+(s.length:Int)))<|some (true,(Ak.mk q.fS (q.fAt+(s.length:Int)) q.fCells q.fGreat)))
def Er (ha:(List Int))(hb:Int)(hd:Int):Option (Stp ((List Int)×Int) (Out (Ag×Bool×Ak) (Int))):=
 AR (Dw 1 (ha.length+([hb]:List Int).length))<|some (.next (ha++([hb]:List Int),hd))
def DT (r1:Bool×Ak)(hb:(List Int))(ha:Int):Option (Stp ((List Int)×Int) (Out (Ag×Bool×Ak) (Int))):=
 AV (decide (ha<(r1.2.fS.length:Int))) (AR (CG ha (r1.2.fS.length:Int))<|AR (B7 .i64 (ha+1))<|AV (decide ((Ba r1.2.fS ha)=34)) (some (.out (.ret (NQ hb,true,(Ak.mk r1.2.fS (ha+1) r1.2.fCells r1.2.fGreat))))) (AV (((decide ((Ba r1.2.fS ha)<32))||(decide (126<(Ba r1.2.fS ha))))) (some (.out (.ret (([]:Ag),false,(Ak.mk r1.2.fS (ha+1) r1.2.fCells r1.2.fGreat))))) (AV (decide ((Ba r1.2.fS ha)=92)) (AR (imp (!(decide ((r1.2.fS.length:Int)≤(ha+1)))) (CG (ha+1) (r1.2.fS.length:Int)))<|AV (((decide ((r1.2.fS.length:Int)≤(ha+1)))||((!decide ((Ba r1.2.fS (ha+1))=34))&&(!decide ((Ba r1.2.fS (ha+1))=92))))) (some (.out (.ret (([]:Ag),false,(Ak.mk r1.2.fS (ha+1) r1.2.fCells r1.2.fGreat))))) (AR (CG (ha+1) (r1.2.fS.length:Int))<|AR (B7 .i64 ((ha+1)+1))<|Er hb (Ba r1.2.fS (ha+1)) ((ha+1)+1))) (Er hb (Ba r1.2.fS ha) (ha+1))))) (some (.out (.go ha)))
def Hy (r1:Bool×Ak)(ha:Int):Option (Ag×Bool×Ak):=
 some (([]:Ag),false,(Ak.mk r1.2.fS ha r1.2.fCells r1.2.fGreat))
def MI (F:Nat)(q:Ak):Option (Ag×Bool×Ak):=
 Bi (D5 q ([34]:Ag)) λr1=>AV (!r1.1) (some (([]:Ag),false,r1.2)) (Bi (BE (λσ=>DT r1 σ.1 σ.2) F (([]:List Int),r1.2.fAt)) (By λν=>Hy r1 ν))
def DU (r1:Bool×Ak)(ha:Int):Option (Stp (Int) (Out (Bool×Ak) (Int))):=
 AR (imp (decide (ha<(r1.2.fS.length:Int))) (CG ha (r1.2.fS.length:Int)))<|AV (((decide (ha<(r1.2.fS.length:Int)))&&((decide (48≤(Ba r1.2.fS ha)))&&(decide ((Ba r1.2.fS ha)≤57))))) (AR (B7 .i64 (ha+1))<|some (.next (ha+1))) (some (.out (.go ha)))
def I5 (q:Ak)(r1:Bool×Ak)(ha:Int):Option (Bool×Ak):=
 AR (GU q.fAt ha)<|AR (GU ha (r1.2.fS.length:Int))<|AR (Dw 1 (List.take (Int.toNat ha-Int.toNat q.fAt) (List.drop (Int.toNat q.fAt) r1.2.fS)).length)<|AV (((decide ((BD (List.take (Int.toNat ha-Int.toNat q.fAt) (List.drop (Int.toNat q.fAt) r1.2.fS)))=1))||(decide (r1.2.fAt=ha)))) (some (false,(Ak.mk r1.2.fS ha r1.2.fCells r1.2.fGreat))) (AR (Dw 40 (r1.2.fCells.length+([(Aa.mk 3 (Bm (List.take (Int.toNat ha-Int.toNat q.fAt) (List.drop (Int.toNat q.fAt) r1.2.fS))) ([]:Ag) 0)]:List Aa).length))<|some (true,(Ak.mk r1.2.fS ha (r1.2.fCells++([(Aa.mk 3 (Bm (List.take (Int.toNat ha-Int.toNat q.fAt) (List.drop (Int.toNat q.fAt) r1.2.fS))) ([]:Ag) 0)]:List Aa)) (r1.2.fGreat||(!decide ((BD (List.take (Int.toNat ha-Int.toNat q.fAt) (List.drop (Int.toNat q.fAt) r1.2.fS)))=0))))))
def MJ (F:Nat)(q:Ak):Option (Bool×Ak):=
 Bi (D5 q ([45]:Ag)) λr1=>Bi (BE (λσ=>DU r1 σ) F r1.2.fAt) (By λν=>I5 q r1 ν)
def D7 (ha:Ag)(hb:Int)(hd:(List Aa))(he:Bool):Option (Bool×Ak):=
 some (true,(Ak.mk ha hb hd he))
def Hz (F:Nat)(q:Ak):Option (Bool×Ak):=
 Bi (D5 q ([110,117,108,108]:Ag)) λhd=>AV (hd.1) (AR (Dw 40 (hd.2.fCells.length+([(Aa.mk 1 0 ([]:Ag) 0)]:List Aa).length))<|D7 hd.2.fS hd.2.fAt (hd.2.fCells++([(Aa.mk 1 0 ([]:Ag) 0)]:List Aa)) hd.2.fGreat) (Bi (D5 hd.2 ([116,114,117,101]:Ag)) λhe=>AV (he.1) (AR (Dw 40 (he.2.fCells.length+([(Aa.mk 2 1 ([]:Ag) 0)]:List Aa).length))<|D7 he.2.fS he.2.fAt (he.2.fCells++([(Aa.mk 2 1 ([]:Ag) 0)]:List Aa)) he.2.fGreat) (Bi (D5 he.2 ([102,97,108,115,101]:Ag)) λha=>AV (ha.1) (AR (Dw 40 (ha.2.fCells.length+([(Aa.mk 2 0 ([]:Ag) 0)]:List Aa).length))<|D7 ha.2.fS ha.2.fAt (ha.2.fCells++([(Aa.mk 2 0 ([]:Ag) 0)]:List Aa)) ha.2.fGreat) (AR (GU ha.2.fAt (ha.2.fS.length:Int))<|Bi (DP (List.drop (Int.toNat ha.2.fAt) ha.2.fS) ([34]:Ag)) λhg=>AV (hg) (Bi (MI F ha.2) λhb=>AV (!hb.2.1) (some (false,hb.2.2)) (AR (Dw 40 (hb.2.2.fCells.length+([(Aa.mk 4 0 hb.1 0)]:List Aa).length))<|D7 hb.2.2.fS hb.2.2.fAt (hb.2.2.fCells++([(Aa.mk 4 0 hb.1 0)]:List Aa)) hb.2.2.fGreat)) (Bi (MJ F ha.2) λhf=>some (hf.1,hf.2)))))
def Ed (hf:Ak→Option (Bool×Ak))(x16:(List Aa))(hd:Int)(hg:Ag)(hh:Int)(hi:(List Aa))(hj:Bool):Option (Stp (Int×Ag×Int×(List Aa)×Bool) (Out (Bool×Ak) (Unit))):=
 Bi (hf (Ak.mk hg hh hi hj)) λha=>AV (!ha.1) (some (.out (.ret (false,ha.2)))) (AR (CG (x16.length:Int) (ha.2.fCells.length:Int))<|Lb (List.set ha.2.fCells (Int.toNat (x16.length:Int)) (Aa.mk ((Ap ha.2.fCells (x16.length:Int)).fKind) ((Ap ha.2.fCells (x16.length:Int)).fInt) ((Ap ha.2.fCells (x16.length:Int)).fStr) hd)) λhk=>Bi (D5 (Ak.mk ha.2.fS ha.2.fAt hk ha.2.fGreat) ([93]:Ag)) λhe=>AV (he.1) (some (.out (.ret (true,he.2)))) (Bi (D5 he.2 ([44]:Ag)) λhb=>AV (!hb.1) (some (.out (.ret (false,hb.2)))) (AR (B7 .i64 (hd+1))<|some (.next (hd+1,hb.2.fS,hb.2.fAt,hb.2.fCells,hb.2.fGreat)))))
def GB :Option (Bool×Ak):=
 none
def BW (hk:Ak→Option (Bool×Ak))(x16:(List Aa))(hd:Int)(he:Ag×Bool×Ak)(hn:Bool)(ho:Bool)(hl:Bool)(hh:Ag)(hi:Int)(hf:(List Aa))(hj:Bool):Option (Stp (Ag×Int×Ag×Int×(List Aa)×Bool) (Out (Bool×Ak) (Unit))):=
 AV (hl) (some (.out (.ret (false,(Ak.mk hh hi hf hj))))) (AR (Dw 40 (hf.length+([(Aa.mk 4 0 he.1 0)]:List Aa).length))<|Bi (hk (Ak.mk hh hi (hf++([(Aa.mk 4 0 he.1 0)]:List Aa)) hj)) λha=>AV (!ha.1) (some (.out (.ret (false,ha.2)))) (AR (CG (x16.length:Int) (ha.2.fCells.length:Int))<|Lb (List.set ha.2.fCells (Int.toNat (x16.length:Int)) (Aa.mk ((Ap ha.2.fCells (x16.length:Int)).fKind) ((Ap ha.2.fCells (x16.length:Int)).fInt) ((Ap ha.2.fCells (x16.length:Int)).fStr) hd)) λhm=>Bi (D5 (Ak.mk ha.2.fS ha.2.fAt hm ha.2.fGreat) ([125]:Ag)) λhg=>AV (hg.1) (some (.out (.ret (true,hg.2)))) (Bi (D5 hg.2 ([44]:Ag)) λhb=>AV (!hb.1) (some (.out (.ret (false,hb.2)))) (AR (B7 .i64 (hd+1))<|some (.next (he.1,hd+1,hb.2.fS,hb.2.fAt,hb.2.fCells,hb.2.fGreat))))))
def Ec (F:Nat)(hg:Ak→Option (Bool×Ak))(x16:(List Aa))(hb:Ag)(hd:Int)(hh:Ag)(hi:Int)(hj:(List Aa))(hk:Bool):Option (Stp (Ag×Int×Ag×Int×(List Aa)×Bool) (Out (Bool×Ak) (Unit))):=
 Bi (MI F (Ak.mk hh hi hj hk)) λha=>AV (!ha.2.1) (BW hg x16 hd ha true true true ha.2.2.fS ha.2.2.fAt ha.2.2.fCells ha.2.2.fGreat) (AV (decide (1<hd)) (AV (B3 ha.1 hb||decide (ha.1=hb)) (BW hg x16 hd ha (B3 ha.1 hb||decide (ha.1=hb)) (B3 ha.1 hb||decide (ha.1=hb)) true ha.2.2.fS ha.2.2.fAt ha.2.2.fCells ha.2.2.fGreat) (Bi (D5 ha.2.2 ([58]:Ag)) λhe=>BW hg x16 hd ha (B3 ha.1 hb||decide (ha.1=hb)) (B3 ha.1 hb||decide (ha.1=hb)) (!he.1) he.2.fS he.2.fAt he.2.fCells he.2.fGreat)) (Bi (D5 ha.2.2 ([58]:Ag)) λhf=>BW hg x16 hd ha false false (!hf.1) hf.2.fS hf.2.fAt hf.2.fCells hf.2.fGreat))
def GA :Option (Bool×Ak):=
 none
def D6 (F:Nat)(hg:Ak→Option (Bool×Ak))(r1:Bool×Ak)(hi:Bool)(hd:Ag)(he:Int)(x16:(List Aa))(hf:Bool):Option (Bool×Ak):=
 AV (hi) (Bi (Hz F (Ak.mk hd he x16 hf)) λhh=>some (hh.1,hh.2)) (AV (r1.1) (AR (Dw 40 (x16.length+([(Aa.mk 5 0 ([]:Ag) 0)]:List Aa).length))<|Bi (D5 (Ak.mk hd he (x16++([(Aa.mk 5 0 ([]:Ag) 0)]:List Aa)) hf) ([93]:Ag)) λha=>AV (ha.1) (some (true,ha.2)) (Bi (BE (λσ=>Ed hg x16 σ.1 σ.2.1 σ.2.2.1 σ.2.2.2.1 σ.2.2.2.2) F (1,ha.2.fS,ha.2.fAt,ha.2.fCells,ha.2.fGreat)) (By λν=>GB ))) (AR (Dw 40 (x16.length+([(Aa.mk 6 0 ([]:Ag) 0)]:List Aa).length))<|Bi (D5 (Ak.mk hd he (x16++([(Aa.mk 6 0 ([]:Ag) 0)]:List Aa)) hf) ([125]:Ag)) λhb=>AV (hb.1) (some (true,hb.2)) (Bi (BE (λσ=>Ec F hg x16 σ.1 σ.2.1 σ.2.2.1 σ.2.2.2.1 σ.2.2.2.2.1 σ.2.2.2.2.2) F (([]:Ag),1,hb.2.fS,hb.2.fAt,hb.2.fCells,hb.2.fGreat)) (By λν=>GA ))))
def Ko (F:Nat)(hb:Ak→Option (Bool×Ak))(q:Ak):Option (Bool×Ak):=
 Bi (D5 q ([91]:Ag)) λr1=>AV (!r1.1) (Bi (D5 r1.2 ([123]:Ag)) λha=>D6 F hb r1 (!ha.1) ha.2.fS ha.2.fAt ha.2.fCells ha.2.fGreat) (D6 F hb r1 false r1.2.fS r1.2.fAt r1.2.fCells r1.2.fGreat)
def Cc:Nat→Ak→Option (Bool×Ak)
 | 0,_=>none
 | nn+1,q=>Ko nn (Cc nn) q
def EA (F:Nat)(hb:Bool)(hf:Ag)(hg:Int)(hd:(List Aa))(he:Bool):Option ((List Aa)×Int):=
 AV (hb) (some (([]:List Aa),1)) (AV (he) (some (([]:List Aa),2)) (Bi (Ku F hd) λha=>some (ha.1,ha.2)))
def Ks (F:Nat)(s:Ag):Option ((List Aa)×Int):=
 AV (decide (4000<(s.length:Int))) (some (([]:List Aa),3)) (Bi (Cc F (Ak.mk s 0 ([]:List Aa) false)) λha=>AV (!ha.1) (EA F true ha.2.fS ha.2.fAt ha.2.fCells ha.2.fGreat) (EA F (!decide (ha.2.fAt=(s.length:Int))) ha.2.fS ha.2.fAt ha.2.fCells ha.2.fGreat))
end Go.Proofs.YtjfnokmpfekniaaGreatDoor
namespace Go.Proofs.YtjfnokmpfekniaaGreatDoor.Q
open Go Go.RowKit
set_option linter.unusedVariables false
set_option linter.unusedSimpArgs false
set_option maxRecDepth 100000
set_option maxHeartbeats 4000000
theorem Ie:∃inf,Tryz.prog.info? 78=some inf∧inf.zero=some (.agg #[(.int .i64 0),(.int .i64 0),(.string ⟨#[]⟩),(.int .i64 0)])∧inf.size=4∧inf.bytes=40:=by
  have key:(Tryz.prog.info? 78).map (λi=>(i.zero,i.size,i.bytes))=some (some (.agg #[(.int .i64 0),(.int .i64 0),(.string ⟨#[]⟩),(.int .i64 0)]),4,40):=by kernel_rfl
  obtain⟨inf,h1,h2⟩:=Option.map_eq_some_iff.1 key;simp only[Prod.mk.injEq] at h2;exact⟨inf,h1,h2.1,h2.2.1,h2.2.2⟩
theorem P6 (parts:List (Nat×Value)):Tryz.prog.built 78 parts=Instr.fill (λi=>(#[(0,1),(1,1),(2,1),(3,1)]:Array (Nat×Nat))[i]?) #[(.int .i64 0),(.int .i64 0),(.string ⟨#[]⟩),(.int .i64 0)] parts:=by kernel_rfl
theorem Ha {n:Nat}{c:Cx}{l:Fr}{H:List Ent}{d:Option Nat}{ty:TypeId}{pos:String}{af:Array Edge}{g:Option (Nat×Bool)}{x0:Operand}{r0:Rp}(h0:ev l x0=some r0)(u0:r0.one=true):Bb Tryz.prog n c l H { dst:=d,op:=.build 78 #[(0,x0)],type:=ty,pos:=pos,after:=af,guard:=g } (BC [r0,Am 0,rS ([]:Ag),Am 0]):=λa w Z ha _=>by
  have p0:=ha.ev h0;have c0:=B4 (r0.hone u0 Z _ p0);have hb:Tryz.prog.built 78 [(0,a.eval x0)]=some #[a.eval x0,(.int .i64 0),(.string ⟨#[]⟩),(.int .i64 0)]:=by
    rw[P6];generalize a.eval x0=v0 at *;simp[Instr.fill,c0]
  refine⟨.agg #[a.eval x0,(.int .i64 0),(.string ⟨#[]⟩),(.int .i64 0)],⟨[a.eval x0,(.int .i64 0),(.string ⟨#[]⟩),(.int .i64 0)],rfl,p0,rfl,rfl,rfl,trivial⟩,?_⟩;have:=run_build w 78 #[(0,a.eval x0)] _ (by simpa using hb);simp[execOp,this]
theorem Hm {n:Nat}{c:Cx}{l:Fr}{H:List Ent}{d:Option Nat}{ty:TypeId}{pos:String}{af:Array Edge}{g:Option (Nat×Bool)}{x0:Operand}{r0:Rp}(h0:ev l x0=some r0)(u0:r0.one=true){x1:Operand}{r1:Rp}(h1:ev l x1=some r1)(u1:r1.one=true):Bb Tryz.prog n c l H { dst:=d,op:=.build 78 #[(0,x0),(1,x1)],type:=ty,pos:=pos,after:=af,guard:=g } (BC [r0,r1,rS ([]:Ag),Am 0]):=λa w Z ha _=>by
  have p0:=ha.ev h0;have c0:=B4 (r0.hone u0 Z _ p0);have p1:=ha.ev h1;have c1:=B4 (r1.hone u1 Z _ p1);have hb:Tryz.prog.built 78 [(0,a.eval x0),(1,a.eval x1)]=some #[a.eval x0,a.eval x1,(.string ⟨#[]⟩),(.int .i64 0)]:=by
    rw[P6];generalize a.eval x0=v0 at *;generalize a.eval x1=v1 at *;simp[Instr.fill,c0,c1]
  refine⟨.agg #[a.eval x0,a.eval x1,(.string ⟨#[]⟩),(.int .i64 0)],⟨[a.eval x0,a.eval x1,(.string ⟨#[]⟩),(.int .i64 0)],rfl,p0,p1,rfl,rfl,trivial⟩,?_⟩;have:=run_build w 78 #[(0,a.eval x0),(1,a.eval x1)] _ (by simpa using hb);simp[execOp,this]
theorem JD {n:Nat}{c:Cx}{l:Fr}{H:List Ent}{d:Option Nat}{ty:TypeId}{pos:String}{af:Array Edge}{g:Option (Nat×Bool)}{x0:Operand}{r0:Rp}(h0:ev l x0=some r0)(u0:r0.one=true){x2:Operand}{r2:Rp}(h2:ev l x2=some r2)(u2:r2.one=true):Bb Tryz.prog n c l H { dst:=d,op:=.build 78 #[(0,x0),(2,x2)],type:=ty,pos:=pos,after:=af,guard:=g } (BC [r0,Am 0,r2,Am 0]):=λa w Z ha _=>by
  have p0:=ha.ev h0;have c0:=B4 (r0.hone u0 Z _ p0);have p2:=ha.ev h2;have c2:=B4 (r2.hone u2 Z _ p2);have hb:Tryz.prog.built 78 [(0,a.eval x0),(2,a.eval x2)]=some #[a.eval x0,(.int .i64 0),a.eval x2,(.int .i64 0)]:=by
    rw[P6];generalize a.eval x0=v0 at *;generalize a.eval x2=v2 at *;simp[Instr.fill,c0,c2]
  refine⟨.agg #[a.eval x0,(.int .i64 0),a.eval x2,(.int .i64 0)],⟨[a.eval x0,(.int .i64 0),a.eval x2,(.int .i64 0)],rfl,p0,rfl,p2,rfl,trivial⟩,?_⟩;have:=run_build w 78 #[(0,a.eval x0),(2,a.eval x2)] _ (by simpa using hb);simp[execOp,this]
theorem Xk (parts:List (Nat×Value)):Tryz.prog.built 127 parts=Instr.fill (λi=>(#[(0,1),(1,1),(2,1),(3,1)]:Array (Nat×Nat))[i]?) #[(.string ⟨#[]⟩),(.int .i64 0),((.slice none 0 0)),(.bool false)] parts:=by kernel_rfl
theorem Pq {n:Nat}{c:Cx}{l:Fr}{H:List Ent}{d:Option Nat}{ty:TypeId}{pos:String}{af:Array Edge}{g:Option (Nat×Bool)}{x0:Operand}{r0:Rp}(h0:ev l x0=some r0)(u0:r0.one=true):Bb Tryz.prog n c l H { dst:=d,op:=.build 127 #[(0,x0)],type:=ty,pos:=pos,after:=af,guard:=g } (BC [r0,Am 0,rv (.slice none 0 0),rB false]):=λa w Z ha _=>by
  have p0:=ha.ev h0;have c0:=B4 (r0.hone u0 Z _ p0);have hb:Tryz.prog.built 127 [(0,a.eval x0)]=some #[a.eval x0,(.int .i64 0),((.slice none 0 0)),(.bool false)]:=by
    rw[Xk];generalize a.eval x0=v0 at *;simp[Instr.fill,c0]
  refine⟨.agg #[a.eval x0,(.int .i64 0),((.slice none 0 0)),(.bool false)],⟨[a.eval x0,(.int .i64 0),((.slice none 0 0)),(.bool false)],rfl,p0,rfl,rfl,rfl,trivial⟩,?_⟩;have:=run_build w 127 #[(0,a.eval x0)] _ (by simpa using hb);simp[execOp,this]
theorem NP (s:Ag)(p:Ag)(r:Bool)(h:EQ s p=some r):Fn Tryz.prog GE 64 [rS s,rS p] [] (λR H=>R=rB r∧H=[]):=by
 refine enter (n:=18) Tryz.func64 rfl Tryz.ntmps64 rfl (λw Z=>?_);unfold EQ at h;refine Ah (wa rfl (Aq (ck h λg1 h2=>AO [(4,rB ((decide ((p.length:Int)≤(s.length:Int)))&&(decide ((List.take (Bt (p.length:Int)) s)=p))))] [] ?_ ?_)))
 ·refine An (wm rfl (wv (Bv C3 rfl) (wm rfl (wv (Bv C3 rfl) (wv (J2 rfl rfl) (wm rfl (AY (decide ((p.length:Int)≤(s.length:Int))) (λc3=>?_) (λc3=>?_))))))))
  ·refine wo c3 (wm rfl (wo c3 (wm rfl (wo c3 (wv (Bv C3 rfl) (wo c3 (wv (JV C3 rfl rfl (IH g1 c3)) (wo c3 (wm rfl (wo c3 (wv (H9 rfl rfl) (Kf rfl c3 rfl (wa rfl (At ?_))))))))))))));exact D3 c3
  ·refine wf c3 (wf c3 (wf c3 (wf c3 (wf c3 (wf c3 (wv (r:=rB false) (AM rfl c3 rfl) (wa rfl (At ?_))))))));exact D3 c3
 refine Ay ?_;obtain rfl:=Az h2;exact Ax (Ct Tryz.results64 (AL rfl)) sN ⟨rfl,rfl⟩
theorem IJ (s:Ag)(p:Ag)(r:Bool)(h:DP s p=some r):Fn Tryz.prog GE 44 [rS s,rS p] [] (λR H=>R=rB r∧H=[]):=by
 refine enter (n:=8) Tryz.func44 rfl Tryz.ntmps44 rfl (λw Z=>?_);unfold DP at h;refine Ah (wa rfl (Bx (wm rfl (wm rfl (ob h λr1 e3 h2=>Gb Tryz.call64 (NP s p r1 e3) rfl (wa rfl (Aq (Ay ?_))))))));obtain rfl:=Az h2;exact Ax (Ct Tryz.results44 (AL rfl)) sN ⟨rfl,rfl⟩
theorem Df (ha:Nat)(hb:Value)(q:Ak)(s:Ag)(r:Bool×Ak)(h:D5 q s=some r):Fn Tryz.prog GE 133 [rP ha 0,rS s] [.blk ha [rS q.fS,Am q.fAt,rv hb,rB q.fGreat] 127,.row hb 78 4 (AE Ab q.fCells)] (λR H=>∃w0_2:Value,R=rB r.1∧H=[.blk ha [rS r.2.fS,Am r.2.fAt,rv w0_2,rB r.2.fGreat] 127,.row w0_2 78 4 (AE Ab r.2.fCells)]):=by
 refine enter (n:=26) Tryz.func133 rfl Tryz.ntmps133 rfl (λw Z=>?_);unfold D5 at h;refine Ah (wa rfl (Aq (Ao (Ao (ck h λg1 h2=>ob h2 λr3 e5 h4=>CM [0,1] [⟨[],rP ha 0,0⟩,⟨[0],rP ha 0,0⟩,⟨[1],rP ha 0,0⟩,⟨[2],rS q.fS,1⟩,⟨[],rP ha 0,0⟩,⟨[4],rP ha 0,0⟩,⟨[5],rP ha 1,0⟩,⟨[6],Am q.fAt,1⟩,⟨[3,7],rS (List.drop (Bt q.fAt) q.fS),0⟩,⟨[],rS s,0⟩,⟨[8,9],rB r3,0⟩,⟨[10],rB (!r3),0⟩] [16,0,1] ?_ ?_)))))
 ·refine oq (Al rfl) (oq (Ar rfl) (oq (A5 Br rfl D1 rfl rfl) (of (AT (i:=0) Eb rfl rfl rfl) (oq (Al rfl) (oq (Ar rfl) (oq (A5 Br rfl CD rfl rfl) (of (AT (i:=0) Du rfl rfl rfl) (oq (Di C3 rfl rfl g1) (oq (Al rfl) (ET rfl (λH=>KD Tryz.call44 (IJ (List.drop (Bt q.fAt) q.fS) s r3 e5) rfl) ?_))))))))));refine oq (Cj rfl) ?_;exact Ci
 refine AP (cz h4 rfl (λc6 h7=>?_) (λc6 h8=>?_))
 ·refine Ah (wa rfl (Aq (Ay (Ac ?_))));obtain rfl:=Az h7;exact Ax (Ct Tryz.results133 (AL rfl)) (sC (sC sN)) ⟨hb,rfl,rfl⟩
 ·refine A2 (AP (Ah (wm rfl (wv (Ar rfl) (vF Br rfl CD (vL 0 Du rfl (wm rfl (wv (Bv C3 rfl) (ck h8 λg9 hd=>wv (BL rfl rfl g9) (wv (Ar rfl) (vF Br rfl CD (B5 (i:=0) CD rfl rfl (Cu rfl) rfl rfl (cs':=[rS q.fS,Am (q.fAt+(s.length:Int)),rv hb,rB q.fGreat]) rfl (H':=[.blk ha [rS q.fS,Am (q.fAt+(s.length:Int)),rv hb,rB q.fGreat] 127,.row hb 78 4 (AE Ab q.fCells)]) rfl (Bx (wa rfl (Aq (Ay ?_))))))))))))))));obtain rfl:=Az hd;exact Ax (Ct Tryz.results133 (AL rfl)) (sC (sC sN)) ⟨hb,rfl,rfl⟩
theorem Sr (F:Nat)(ha:Nat)(hp:Value)(q:Ak)(r:Ag×Bool×Ak)(h:MI F q=some r):Fn Tryz.prog GE 135 [rP ha 0] [.blk ha [rS q.fS,Am q.fAt,rv hp,rB q.fGreat] 127,.row hp 78 4 (AE Ab q.fCells)] (λR H=>∃w0_2:Value,R=C2 [rS r.1,rB r.2.1]∧H=[.blk ha [rS r.2.2.fS,Am r.2.2.fAt,rv w0_2,rB r.2.2.fGreat] 127,.row w0_2 78 4 (AE Ab r.2.2.fCells)]):=by
 refine enter (n:=104) Tryz.func135 rfl Tryz.ntmps135 rfl (λw Z=>?_);unfold MI at h;refine Ah (wv (r:=rS ([]:Ag)) (Aw rfl) (wa rfl (Aq (Ao (Ah (wm rfl (ob h λr1 e3 h2=>DY (Hr:=[]) G4 (Df ha hp q ([34]:Ag) r1 e3) rfl (Abo _) rfl ?_)))))));rintro _ _ ⟨v4,rfl,rfl⟩;refine wv (Cj rfl) (Aq (cz h2 rfl (λc5 h6=>?_) (λc5 h7=>?_)))
 ·refine Ah (wv (r:=rS ([]:Ag)) (Aw rfl) (wa rfl (Aq (Ay (Ac ?_)))));obtain rfl:=Az h6;exact Ax (EB PJ (AL rfl) (AL rfl)) (sC (sC sN)) ⟨v4,rfl,rfl⟩
 ·refine A2 (AP (Ah (wa rfl (Aq (Ao (AK (WC.nilrow (e:=5) (sz:=1) (OW (H2:=[.blk ha [rS r1.2.fS,Am r1.2.fAt,rv v4,rB r1.2.fGreat] 127,.row v4 78 4 (AE Ab r1.2.fCells),.row (.slice none 0 0     ) 5 1 (AE Bc ([]:List Int))]) ((Aj (i:=1) rfl).trans (Abn _ ((Aj (i:=1) rfl).trans (Abn _ (Abo _))))) (ob h7 λhu hw hk=>B0 (S:=Nat×((List Int)×Int)×(Value)) (V:=(Int)×(Unit)) 0 (λσ=>BE (λσ=>DT r1 σ.1 σ.2) σ.1 σ.2.1=some hu) (λσ=>[(0,rP ha 0),(4,rv σ.2.2)]) (λσ=>[.blk ha [rS r1.2.fS,Am σ.2.1.2,rv v4,rB r1.2.fGreat] 127,.row v4 78 4 (AE Ab r1.2.fCells),.row σ.2.2 5 1 (AE Bc σ.2.1.1)]) (λσ=>σ.1) (F,(([]:List Int),r1.2.fAt),(.slice none 0 0     )) hw (AD.c rfl (AD.c rfl AD.nil)) (sC (sC (sC sN))) (λσ=>Hy r1 σ.1=some r) (λσ=>[]) (λσ=>[.blk ha [rS r1.2.fS,Am σ.1,rv v4,rB r1.2.fGreat] 127,.row v4 78 4 (AE Ab r1.2.fCells)]) ?_ ?_)))))))))
  ·rintro⟨ga,⟨hf,hb⟩,hg⟩ hx;refine BY (l':=[(0,rP ha 0),(4,rv hg)]) (H':=[.blk ha [rS r1.2.fS,Am hb,rv v4,rB r1.2.fGreat] 127,.row v4 78 4 (AE Ab r1.2.fCells),.row hg 5 1 (AE Bc hf)]) rfl rfl ?_;obtain⟨hy,rfl,hq,hl,hj⟩:=CO hx;replace hl:DT r1 hf hb=some hq:=hl;unfold DT at hl;refine Ao (Ao (CM [0,4] [⟨[],rP ha 0,0⟩,⟨[0],rP ha 0,0⟩,⟨[1],rP ha 1,0⟩,⟨[2],Am hb,1⟩,⟨[],rP ha 0,0⟩,⟨[4],rP ha 0,0⟩,⟨[5],rP ha 0,0⟩,⟨[6],rS r1.2.fS,1⟩,⟨[7],Am (r1.2.fS.length:Int),0⟩,⟨[3,8],rB (decide (hb<(r1.2.fS.length:Int))),0⟩] [9,10,11,12,13,14,15,16,17,18,0,4] ?_ ?_))
   ·refine oq (Al rfl) (oq (Ar rfl) (oq (A5 Br rfl CD rfl rfl) (of (AT (i:=0) Du rfl rfl rfl) (oq (Al rfl) (oq (Ar rfl) (oq (A5 Br rfl D1 rfl rfl) (of (AT (i:=0) Eb rfl rfl rfl) (oq (Bv C3 rfl) (oq (Dv rfl rfl) ?_)))))))));exact Ci
   refine AP (cz hl rfl (λhz h0=>?_) (λhz h1=>?_))
   ·refine A2 (AP (AK (Ao (ck h0 λh3 h4=>CM [0,4,9,10,11,12,13,14,15,16,17] [⟨[],rP ha 0,0⟩,⟨[0],rP ha 0,0⟩,⟨[1],rP ha 0,0⟩,⟨[2],rS r1.2.fS,1⟩,⟨[],rP ha 0,0⟩,⟨[4],rP ha 0,0⟩,⟨[5],rP ha 1,0⟩,⟨[6],Am hb,1⟩,⟨[3,7],rI .u8 (Ba r1.2.fS hb),0⟩,⟨[8],rI .u8 (Ba r1.2.fS hb),0⟩] [19,20,21,22,23,24,25,26,27,5,0,4,9,10,11,12,13,14,15,16,17] ?_ ?_))))
    ·refine oq (Al rfl) (oq (Ar rfl) (oq (A5 Br rfl D1 rfl rfl) (of (AT (i:=0) Eb rfl rfl rfl) (oq (Al rfl) (oq (Ar rfl) (oq (A5 Br rfl CD rfl rfl) (of (AT (i:=0) Du rfl rfl rfl) (oq (Bq C3 rfl rfl h3) (oq (Aw rfl) ?_)))))))));exact Ci
    refine AP (Ah (wm rfl (wv (Ar rfl) (vF Br rfl CD (vL 0 Du rfl (ck h4 λh5 h8=>wv (BL rfl rfl h5) (wv (Ar rfl) (vF Br rfl CD (B5 (i:=0) CD rfl rfl (Cu rfl) rfl rfl (cs':=[rS r1.2.fS,Am (hb+1),rv v4,rB r1.2.fGreat]) rfl (H':=[.blk ha [rS r1.2.fS,Am (hb+1),rv v4,rB r1.2.fGreat] 127,.row v4 78 4 (AE Ab r1.2.fCells),.row hg 5 1 (AE Bc hf)]) rfl (Aq (CE (S:=(Int×Int)×(Unit)) (λσ=>Er hf σ.1.1 σ.1.2=some hq) (λσ=>[(0,rP ha 0),(4,rv hg),(5,rI .u8 σ.1.1),(9,rP ha 0),(10,rP ha 0),(11,rP ha 1),(12,Am hb),(13,rP ha 0),(14,rP ha 0),(15,rP ha 0),(16,rS r1.2.fS),(17,Am (r1.2.fS.length:Int)),(19,rP ha 0),(20,rP ha 0),(21,rP ha 0),(22,rS r1.2.fS),(23,rP ha 0),(24,rP ha 0),(25,rP ha 1),(26,Am hb),(27,rI .u8 (Ba r1.2.fS hb))]) (λσ=>[.blk ha [rS r1.2.fS,Am σ.1.2,rv v4,rB r1.2.fGreat] 127,.row v4 78 4 (AE Ab r1.2.fCells),.row hg 5 1 (AE Bc hf)]) ?_ ?_)))))))))))
    ·refine AK (Ah (wm rfl (wv (BT rfl rfl) (wa rfl (Aq (cz h8 rfl (λh9 hA=>?_) (λh9 hB=>?_)))))))
     ·refine Ah (wm rfl (wv (r:=rS (NQ hf)) (SJ (xs:=hf) (i:=2) GS C3 Oe rfl rfl) (wa rfl (wa rfl (Aq (Ay (A0 (Ac (A0 (Ac (AX ?_)))))))))));have hC:=B2 hA hj hk;refine A0 (Ac ?_);obtain rfl:=Az hC;exact Ax (EB PJ (AL rfl) (AL rfl)) (sC (sC (sS sN))) ⟨v4,rfl,rfl⟩
     ·refine AO [(0,rP ha 0),(4,rv hg),(5,rI .u8 (Ba r1.2.fS hb)),(9,rP ha 0),(10,rP ha 0),(11,rP ha 1),(12,Am hb),(13,rP ha 0),(14,rP ha 0),(15,rP ha 0),(16,rS r1.2.fS),(17,Am (r1.2.fS.length:Int)),(19,rP ha 0),(20,rP ha 0),(21,rP ha 0),(22,rS r1.2.fS),(23,rP ha 0),(24,rP ha 0),(25,rP ha 1),(26,Am hb),(27,rI .u8 (Ba r1.2.fS hb)),(40,rB ((decide ((Ba r1.2.fS hb)<32))||(decide (126<(Ba r1.2.fS hb)))))] [.blk ha [rS r1.2.fS,Am (hb+1),rv v4,rB r1.2.fGreat] 127,.row v4 78 4 (AE Ab r1.2.fCells),.row hg 5 1 (AE Bc hf)] ?_ ?_
      ·refine An (wm rfl (wv (Dv rfl rfl) (wm rfl (AY (decide ((Ba r1.2.fS hb)<32)) (λhh=>?_) (λhh=>?_)))))
       ·refine wf hh (wf hh (wv (r:=rB true) (A7 rfl hh rfl) (wa rfl (At ?_))));exact D3 hh
       ·refine wo hh (wm rfl (wo hh (wv (DM rfl rfl) (Lf rfl hh rfl (wa rfl (At ?_))))));exact D3 hh
      refine cz hB rfl (λhD hE=>?_) (λhD hG=>?_)
      ·refine Ah (wv (r:=rS ([]:Ag)) (Aw rfl) (wa rfl (Aq (Ay (A0 (Ac (A0 (Ac (AX ?_)))))))));have hH:=B2 hE hj hk;refine A0 (Ac ?_);obtain rfl:=Az hH;exact Ax (EB PJ (AL rfl) (AL rfl)) (sC (sC (sS sN))) ⟨v4,rfl,rfl⟩
      ·refine Ah (wm rfl (wv (BT rfl rfl) (wa rfl (Aq (cz hG rfl (λhI hJ=>?_) (λhI hK=>?_))))))
       ·refine Ao (ck hJ λhr hL=>AO [(0,rP ha 0),(4,rv hg),(9,rP ha 0),(10,rP ha 0),(11,rP ha 1),(12,Am hb),(13,rP ha 0),(14,rP ha 0),(15,rP ha 0),(16,rS r1.2.fS),(17,Am (r1.2.fS.length:Int)),(19,rP ha 0),(20,rP ha 0),(21,rP ha 0),(22,rS r1.2.fS),(23,rP ha 0),(24,rP ha 0),(25,rP ha 1),(26,Am hb),(27,rI .u8 (Ba r1.2.fS hb)),(50,rP ha 0),(51,rP ha 0),(52,rP ha 1),(53,Am (hb+1)),(54,rP ha 0),(55,rP ha 0),(56,rP ha 0),(57,rS r1.2.fS),(58,Am (r1.2.fS.length:Int)),(59,rB (decide ((r1.2.fS.length:Int)≤(hb+1)))),(60,rB (decide ((r1.2.fS.length:Int)≤(hb+1)))),(83,rB ((decide ((r1.2.fS.length:Int)≤(hb+1)))||((!decide ((Ba r1.2.fS (hb+1))=34))&&(!decide ((Ba r1.2.fS (hb+1))=92)))))] [.blk ha [rS r1.2.fS,Am (hb+1),rv v4,rB r1.2.fGreat] 127,.row v4 78 4 (AE Ab r1.2.fCells),.row hg 5 1 (AE Bc hf)] ?_ ?_)
        ·refine AY (decide ((r1.2.fS.length:Int)≤(hb+1))) (λhd=>?_) (λhd=>?_)
         ·refine CM [0,4,9,10,11,12,13,14,15,16,17,19,20,21,22,23,24,25,26,27] [⟨[],rP ha 0,0⟩,⟨[0],rP ha 0,0⟩,⟨[1],rP ha 1,0⟩,⟨[2],Am (hb+1),1⟩,⟨[],rP ha 0,0⟩,⟨[4],rP ha 0,0⟩,⟨[5],rP ha 0,0⟩,⟨[6],rS r1.2.fS,1⟩,⟨[7],Am (r1.2.fS.length:Int),0⟩,⟨[3,8],rB (decide ((r1.2.fS.length:Int)≤(hb+1))),0⟩,⟨[9],rB (decide ((r1.2.fS.length:Int)≤(hb+1))),0⟩,⟨[10],rv undef,0⟩,⟨[11,10],rv undef,0⟩,⟨[12,10],rv undef,0⟩,⟨[13,10],rv undef,0⟩,⟨[10],rv undef,0⟩,⟨[15,10],rv undef,0⟩,⟨[16,10],rv undef,0⟩,⟨[17,10],rv undef,0⟩,⟨[14,18,10],rv undef,0⟩,⟨[19,10],rv undef,0⟩,⟨[20,10],rv undef,0⟩,⟨[21],rv undef,0⟩,⟨[22,21],rv undef,0⟩,⟨[23,21],rv undef,0⟩,⟨[24,21],rv undef,0⟩,⟨[21],rv undef,0⟩,⟨[26,21],rv undef,0⟩,⟨[27,21],rv undef,0⟩,⟨[28,21],rv undef,0⟩,⟨[25,29,21],rv undef,0⟩,⟨[30,21],rv undef,0⟩,⟨[21,31,10],rv undef,0⟩,⟨[10,32],rB true,0⟩] [50,51,52,53,54,55,56,57,58,59,60,61,62,63,64,65,66,67,68,69,70,71,72,73,74,75,76,77,78,79,80,81,82,83,0,4,9,10,11,12,13,14,15,16,17,19,20,21,22,23,24,25,26,27] ?_ ?_
          ·refine oq (Al rfl) (oq (Ar rfl) (oq (A5 Br rfl CD rfl rfl) (of (AT (i:=0) Du rfl rfl rfl) (oq (Al rfl) (oq (Ar rfl) (oq (A5 Br rfl D1 rfl rfl) (of (AT (i:=0) Eb rfl rfl rfl) (oq (Bv C3 rfl) (oq (J2 rfl rfl) (oq (Al rfl) (oz hd (oz hd (oz hd (oz hd (oz hd (oz hd (oz hd (oz hd (oz hd (oz hd (oz hd (ou (ou ?_)))))))))))))))))))))));refine ou (ou (ou (ou (ou (ou (ou (ou (oz hd (oq (A7 (b:=decide ((r1.2.fS.length:Int)≤(hb+1))) rfl hd rfl) ?_)))))))));exact Ci
          exact D3 hd
         ·refine AY (!decide ((Ba r1.2.fS (hb+1))=34)) (λhe=>?_) (λhe=>?_)
          ·refine CM [0,4,9,10,11,12,13,14,15,16,17,19,20,21,22,23,24,25,26,27] [⟨[],rP ha 0,0⟩,⟨[0],rP ha 0,0⟩,⟨[1],rP ha 1,0⟩,⟨[2],Am (hb+1),1⟩,⟨[],rP ha 0,0⟩,⟨[4],rP ha 0,0⟩,⟨[5],rP ha 0,0⟩,⟨[6],rS r1.2.fS,1⟩,⟨[7],Am (r1.2.fS.length:Int),0⟩,⟨[3,8],rB (decide ((r1.2.fS.length:Int)≤(hb+1))),0⟩,⟨[9],rB (decide ((r1.2.fS.length:Int)≤(hb+1))),0⟩,⟨[10],rP ha 0,0⟩,⟨[11,10],rP ha 0,0⟩,⟨[12,10],rP ha 0,0⟩,⟨[13,10],rS r1.2.fS,1⟩,⟨[10],rP ha 0,0⟩,⟨[15,10],rP ha 0,0⟩,⟨[16,10],rP ha 1,0⟩,⟨[17,10],Am (hb+1),1⟩,⟨[14,18,10],rI .u8 (Ba r1.2.fS (hb+1)),0⟩,⟨[19,10],rB (!decide ((Ba r1.2.fS (hb+1))=34)),0⟩,⟨[20,10],rB (!decide ((Ba r1.2.fS (hb+1))=34)),0⟩,⟨[21],rP ha 0,0⟩,⟨[22,21],rP ha 0,0⟩,⟨[23,21],rP ha 0,0⟩,⟨[24,21],rS r1.2.fS,1⟩,⟨[21],rP ha 0,0⟩,⟨[26,21],rP ha 0,0⟩,⟨[27,21],rP ha 1,0⟩,⟨[28,21],Am (hb+1),1⟩,⟨[25,29,21],rI .u8 (Ba r1.2.fS (hb+1)),0⟩,⟨[30,21],rB (!decide ((Ba r1.2.fS (hb+1))=92)),0⟩,⟨[21,31,10],rB (!decide ((Ba r1.2.fS (hb+1))=92)),0⟩,⟨[10,32],rB (!decide ((Ba r1.2.fS (hb+1))=92)),0⟩] [50,51,52,53,54,55,56,57,58,59,60,61,62,63,64,65,66,67,68,69,70,71,72,73,74,75,76,77,78,79,80,81,82,83,0,4,9,10,11,12,13,14,15,16,17,19,20,21,22,23,24,25,26,27] ?_ ?_
           ·refine oq (Al rfl) (oq (Ar rfl) (oq (A5 Br rfl CD rfl rfl) (of (AT (i:=0) Du rfl rfl rfl) (oq (Al rfl) (oq (Ar rfl) (oq (A5 Br rfl D1 rfl rfl) (of (AT (i:=0) Eb rfl rfl rfl) (oq (Bv C3 rfl) (oq (J2 rfl rfl) (oq (Al rfl) (on hd (oq (Al rfl) (on hd (oq (Ar rfl) (on hd (oq (A5 Br rfl D1 rfl rfl) (on hd (of (AT (i:=0) Eb rfl rfl rfl) (on hd (oq (Al rfl) (on hd (oq (Ar rfl) (on hd ?_)))))))))))))))))))))));refine oq (A5 Br rfl CD rfl rfl) (on hd (of (AT (i:=0) Du rfl rfl rfl) (on hd (oq (Bq C3 rfl rfl (II hr hd)) (on hd (oq (Dj rfl rfl) (on hd (oq (Al rfl) (on he (oq (Al rfl) (on he (oq (Ar rfl) (on he (oq (A5 Br rfl D1 rfl rfl) (on he (of (AT (i:=0) Eb rfl rfl rfl) (on he (oq (Al rfl) (on he (oq (Ar rfl) (on he (oq (A5 Br rfl CD rfl rfl) (on he ?_)))))))))))))))))))))));refine of (AT (i:=0) Du rfl rfl rfl) (on he (oq (Bq C3 rfl rfl (II hr hd)) (on he (oq (Dj rfl rfl) (on hd (oq (A7 rfl he rfl) (oq (AM rfl hd rfl) ?_)))))));exact Ci
           exact D3 (And.intro hd he)
          ·refine CM [0,4,9,10,11,12,13,14,15,16,17,19,20,21,22,23,24,25,26,27] [⟨[],rP ha 0,0⟩,⟨[0],rP ha 0,0⟩,⟨[1],rP ha 1,0⟩,⟨[2],Am (hb+1),1⟩,⟨[],rP ha 0,0⟩,⟨[4],rP ha 0,0⟩,⟨[5],rP ha 0,0⟩,⟨[6],rS r1.2.fS,1⟩,⟨[7],Am (r1.2.fS.length:Int),0⟩,⟨[3,8],rB (decide ((r1.2.fS.length:Int)≤(hb+1))),0⟩,⟨[9],rB (decide ((r1.2.fS.length:Int)≤(hb+1))),0⟩,⟨[10],rP ha 0,0⟩,⟨[11,10],rP ha 0,0⟩,⟨[12,10],rP ha 0,0⟩,⟨[13,10],rS r1.2.fS,1⟩,⟨[10],rP ha 0,0⟩,⟨[15,10],rP ha 0,0⟩,⟨[16,10],rP ha 1,0⟩,⟨[17,10],Am (hb+1),1⟩,⟨[14,18,10],rI .u8 (Ba r1.2.fS (hb+1)),0⟩,⟨[19,10],rB (!decide ((Ba r1.2.fS (hb+1))=34)),0⟩,⟨[20,10],rB (!decide ((Ba r1.2.fS (hb+1))=34)),0⟩,⟨[21],rv undef,0⟩,⟨[22,21],rv undef,0⟩,⟨[23,21],rv undef,0⟩,⟨[24,21],rv undef,0⟩,⟨[21],rv undef,0⟩,⟨[26,21],rv undef,0⟩,⟨[27,21],rv undef,0⟩,⟨[28,21],rv undef,0⟩,⟨[25,29,21],rv undef,0⟩,⟨[30,21],rv undef,0⟩,⟨[21,31,10],rB false,0⟩,⟨[10,32],rB false,0⟩] [50,51,52,53,54,55,56,57,58,59,60,61,62,63,64,65,66,67,68,69,70,71,72,73,74,75,76,77,78,79,80,81,82,83,0,4,9,10,11,12,13,14,15,16,17,19,20,21,22,23,24,25,26,27] ?_ ?_
           ·refine oq (Al rfl) (oq (Ar rfl) (oq (A5 Br rfl CD rfl rfl) (of (AT (i:=0) Du rfl rfl rfl) (oq (Al rfl) (oq (Ar rfl) (oq (A5 Br rfl D1 rfl rfl) (of (AT (i:=0) Eb rfl rfl rfl) (oq (Bv C3 rfl) (oq (J2 rfl rfl) (oq (Al rfl) (on hd (oq (Al rfl) (on hd (oq (Ar rfl) (on hd (oq (A5 Br rfl D1 rfl rfl) (on hd (of (AT (i:=0) Eb rfl rfl rfl) (on hd (oq (Al rfl) (on hd (oq (Ar rfl) (on hd ?_)))))))))))))))))))))));refine oq (A5 Br rfl CD rfl rfl) (on hd (of (AT (i:=0) Du rfl rfl rfl) (on hd (oq (Bq C3 rfl rfl (II hr hd)) (on hd (oq (Dj rfl rfl) (on hd (oq (Al rfl) (oz he (oz he (oz he (oz he (oz he (oz he (oz he (oz he (oz he (oz he (on hd (oq (AM (b:=!decide ((Ba r1.2.fS (hb+1))=34)) rfl he rfl) (oq (AM rfl hd rfl) ?_)))))))))))))))))))));exact Ci
           exact D3 (And.intro hd he)
        refine cz hL rfl (λhN hO=>?_) (λhN hP=>?_)
        ·refine Ah (wv (r:=rS ([]:Ag)) (Aw rfl) (wa rfl (Aq (Ay (Ac (A0 (Ac (A0 (Ac (AX ?_))))))))));have hQ:=B2 hO hj hk;refine A0 (Ac ?_);obtain rfl:=Az hQ;exact Ax (EB PJ (AL rfl) (AL rfl)) (sC (sC (sS sN))) ⟨v4,rfl,rfl⟩
        ·refine A2 (AP (Ao (ck hP λhR hS=>CM [0,4,9,10,11,12,13,14,15,16,17,19,20,21,22,23,24,25,26,27,50,51,52,53,54,55,56,57,58,59,60] [⟨[],rP ha 0,0⟩,⟨[0],rP ha 0,0⟩,⟨[1],rP ha 0,0⟩,⟨[2],rS r1.2.fS,1⟩,⟨[],rP ha 0,0⟩,⟨[4],rP ha 0,0⟩,⟨[5],rP ha 1,0⟩,⟨[6],Am (hb+1),1⟩,⟨[3,7],rI .u8 (Ba r1.2.fS (hb+1)),0⟩,⟨[8],rI .u8 (Ba r1.2.fS (hb+1)),0⟩] [84,85,86,87,88,89,90,91,92,5,0,4,9,10,11,12,13,14,15,16,17,19,20,21,22,23,24,25,26,27,50,51,52,53,54,55,56,57,58,59,60] ?_ ?_)))
         ·refine oq (Al rfl) (oq (Ar rfl) (oq (A5 Br rfl D1 rfl rfl) (of (AT (i:=0) Eb rfl rfl rfl) (oq (Al rfl) (oq (Ar rfl) (oq (A5 Br rfl CD rfl rfl) (of (AT (i:=0) Du rfl rfl rfl) (oq (Bq C3 rfl rfl hR) (oq (Aw rfl) ?_)))))))));exact Ci
         exact AP (An (wm rfl (wv (Ar rfl) (vF Br rfl CD (vL 0 Du rfl (ck hS λhT hU=>wv (BL rfl rfl hT) (wv (Ar rfl) (vF Br rfl CD (B5 (i:=0) CD rfl rfl (Cu rfl) rfl rfl (cs':=[rS r1.2.fS,Am ((hb+1)+1),rv v4,rB r1.2.fGreat]) rfl (H':=[.blk ha [rS r1.2.fS,Am ((hb+1)+1),rv v4,rB r1.2.fGreat] 127,.row v4 78 4 (AE Ab r1.2.fCells),.row hg 5 1 (AE Bc hf)]) rfl (At (AJ (A4 (AG ((Ba r1.2.fS (hb+1),(hb+1)+1),()) hU (AD.c rfl (AD.c5 rfl rfl rfl rfl rfl (AD.c5 rfl rfl rfl rfl rfl (AD.c5 rfl rfl rfl rfl rfl (AD.c5 rfl rfl rfl rfl rfl AD.nil))))) (sC (sC (sC sN))))))))))))))))
       ·exact A2 (AJ (A4 (AG ((Ba r1.2.fS hb,hb+1),()) hK (AD.c rfl (AD.c5 rfl rfl rfl rfl rfl (AD.c5 rfl rfl rfl rfl rfl (AD.c5 rfl rfl rfl rfl rfl (AD.c5 rfl rfl rfl rfl rfl AD.nil))))) (sC (sC (sC sN))))))
    ·rintro⟨⟨hi,hm⟩,⟨⟩⟩ hn;refine BY (l':=[(0,rP ha 0),(4,rv hg),(5,rI .u8 hi),(9,rP ha 0),(10,rP ha 0),(11,rP ha 1),(12,Am hb),(13,rP ha 0),(14,rP ha 0),(15,rP ha 0),(16,rS r1.2.fS),(17,Am (r1.2.fS.length:Int)),(19,rP ha 0),(20,rP ha 0),(21,rP ha 0),(22,rS r1.2.fS),(23,rP ha 0),(24,rP ha 0),(25,rP ha 1),(26,Am hb),(27,rI .u8 (Ba r1.2.fS hb))]) (H':=[.blk ha [rS r1.2.fS,Am hm,rv v4,rB r1.2.fGreat] 127,.row v4 78 4 (AE Ab r1.2.fCells),.row hg 5 1 (AE Bc hf)]) rfl rfl ?_;replace hn:Er hf hi hm=some hq:=hn;unfold Er at hn;refine An (wm rfl (wm rfl (AW (ys:=([hi]:List Int)) (enc:=Bc) (css:=[[rI .u8 hi]]) (xs:=[.tmp 101]) GS ys5 ZZ rfl rfl rfl ⟨GR.one rfl (Up.refl _),trivial⟩ rfl Dr rfl rfl rfl (λhV=>?_))));refine ck hn λhW hX=>Exists.elim LW λinf hinf=>Cb (xs:=hf) (ys:=([hi]:List Int)) (enc:=Bc) (i:=3) GS hinf.1 hinf.2.1 hinf.2.2.1 hinf.2.2.2 rfl rfl rfl rfl rfl (LD.w (i:=0) rfl rfl) Dr Jx hW rfl (λhs=>?_);refine wa rfl (At (AJ (Ca (H2:=[.blk ha [rS r1.2.fS,Am hm,rv v4,rB r1.2.fGreat] 127,.row v4 78 4 (AE Ab r1.2.fCells),.row hs 5 1 (AE Bc (hf++([hi]:List Int))),.row (.slice (some ⟨hV,0,none⟩) 1 1) 5 1 (AE Bc ([hi]:List Int))]) ((Aj (i:=2) rfl).trans (Abn _ ((Aj (i:=2) rfl).trans (Abn _ (Abo _))))) ?_)));have hY:=B6 hX hj;exact A4 (AG (hy,(hf++([hi]:List Int),hm),hs) ⟨hY,Ab1 _⟩ (AD.c rfl (AD.c rfl AD.nil)) (sC (sC (sC (sS sN)))))
   ·refine B1 (A3 ?_);have hZ:=Cm h1 hj hk;exact A3 (Bj (AG (hb,()) hZ AD.nil (sC (sC (sS sN)))))
  ·rintro⟨ht,⟨⟩⟩ ho;refine CU (l':=[]) (H':=[.blk ha [rS r1.2.fS,Am ht,rv v4,rB r1.2.fGreat] 127,.row v4 78 4 (AE Ab r1.2.fCells)]) rfl rfl ?_;replace ho:Hy r1 ht=some r:=ho;unfold Hy at ho;refine Be (AP (Ah (wv (r:=rS ([]:Ag)) (Aw rfl) (wa rfl (Aq (Ay ?_))))));obtain rfl:=Az ho;exact Ax (EB PJ (AL rfl) (AL rfl)) (sC (sC sN)) ⟨v4,rfl,rfl⟩
theorem XF (F:Nat)(ha:Nat)(hl:Value)(q:Ak)(r:Bool×Ak)(h:MJ F q=some r):Fn Tryz.prog GE 162 [rP ha 0] [.blk ha [rS q.fS,Am q.fAt,rv hl,rB q.fGreat] 127,.row hl 78 4 (AE Ab q.fCells)] (λR H=>∃w0_2:Value,R=rB r.1∧H=[.blk ha [rS r.2.fS,Am r.2.fAt,rv w0_2,rB r.2.fGreat] 127,.row w0_2 78 4 (AE Ab r.2.fCells)]):=by
 refine enter (n:=104) Tryz.func162 rfl Tryz.ntmps162 rfl (λw Z=>?_);unfold MJ at h;refine Ah (wa rfl (Bx (wm rfl (wv (Ar rfl) (vF Br rfl CD (vL 0 Du rfl (wa rfl (Bx (wm rfl (ob h λr1 e3 h2=>DY (Hr:=[]) G4 (Df ha hl q ([45]:Ag) r1 e3) rfl (Abo _) rfl ?_))))))))));rintro _ _ ⟨v4,rfl,rfl⟩;refine Bx (wm rfl (wv (Ar rfl) (vF Br rfl CD (vL 0 Du rfl (wa rfl (Aq (Ao (AK (ob h2 λhp hq hr=>B0 (S:=Nat×(Int)×(Unit)) (V:=(Int)×(Unit)) 0 (λσ=>BE (λσ=>DU r1 σ) σ.1 σ.2.1=some hp) (λσ=>[(0,rP ha 0),(3,Am q.fAt),(4,Am r1.2.fAt)]) (λσ=>[.blk ha [rS r1.2.fS,Am σ.2.1,rv v4,rB r1.2.fGreat] 127,.row v4 78 4 (AE Ab r1.2.fCells)]) (λσ=>σ.1) (F,r1.2.fAt,()) hq (AD.c rfl (AD.c rfl (AD.c rfl AD.nil))) (sC (sC sN)) (λσ=>I5 q r1 σ.1=some r) (λσ=>[(0,rP ha 0),(3,Am q.fAt),(4,Am r1.2.fAt)]) (λσ=>[.blk ha [rS r1.2.fS,Am σ.1,rv v4,rB r1.2.fGreat] 127,.row v4 78 4 (AE Ab r1.2.fCells)]) ?_ ?_)))))))))
 ·rintro⟨hH,hd,⟨⟩⟩ hs;refine BY (l':=[(0,rP ha 0),(3,Am q.fAt),(4,Am r1.2.fAt)]) (H':=[.blk ha [rS r1.2.fS,Am hd,rv v4,rB r1.2.fGreat] 127,.row v4 78 4 (AE Ab r1.2.fCells)]) rfl rfl ?_;obtain⟨ht,rfl,hu,hj,hn⟩:=CO hs;replace hj:DU r1 hd=some hu:=hj;unfold DU at hj;refine Ao (ck hj λhm hw=>AO [(0,rP ha 0),(3,Am q.fAt),(4,Am r1.2.fAt),(17,rP ha 0),(18,rP ha 0),(19,rP ha 1),(20,Am hd),(21,rP ha 0),(22,rP ha 0),(23,rP ha 0),(24,rS r1.2.fS),(25,Am (r1.2.fS.length:Int)),(26,rB (decide (hd<(r1.2.fS.length:Int)))),(27,rB (decide (hd<(r1.2.fS.length:Int)))),(38,rB ((decide (hd<(r1.2.fS.length:Int)))&&(decide (48≤(Ba r1.2.fS hd))))),(39,rB ((decide (hd<(r1.2.fS.length:Int)))&&(decide (48≤(Ba r1.2.fS hd))))),(50,rB ((decide (hd<(r1.2.fS.length:Int)))&&((decide (48≤(Ba r1.2.fS hd)))&&(decide ((Ba r1.2.fS hd)≤57)))))] [.blk ha [rS r1.2.fS,Am hd,rv v4,rB r1.2.fGreat] 127,.row v4 78 4 (AE Ab r1.2.fCells)] ?_ ?_)
  ·refine AY (decide (hd<(r1.2.fS.length:Int))) (λhe=>?_) (λhe=>?_)
   ·refine AY (decide (48≤(Ba r1.2.fS hd))) (λhf=>?_) (λhf=>?_)
    ·refine CM [0,3,4] [⟨[],rP ha 0,0⟩,⟨[0],rP ha 0,0⟩,⟨[1],rP ha 1,0⟩,⟨[2],Am hd,1⟩,⟨[],rP ha 0,0⟩,⟨[4],rP ha 0,0⟩,⟨[5],rP ha 0,0⟩,⟨[6],rS r1.2.fS,1⟩,⟨[7],Am (r1.2.fS.length:Int),0⟩,⟨[3,8],rB (decide (hd<(r1.2.fS.length:Int))),0⟩,⟨[9],rB (decide (hd<(r1.2.fS.length:Int))),0⟩,⟨[10],rP ha 0,0⟩,⟨[11,10],rP ha 0,0⟩,⟨[12,10],rP ha 0,0⟩,⟨[13,10],rS r1.2.fS,1⟩,⟨[10],rP ha 0,0⟩,⟨[15,10],rP ha 0,0⟩,⟨[16,10],rP ha 1,0⟩,⟨[17,10],Am hd,1⟩,⟨[14,18,10],rI .u8 (Ba r1.2.fS hd),0⟩,⟨[19,10],rB (decide (48≤(Ba r1.2.fS hd))),0⟩,⟨[10,20],rB (decide (48≤(Ba r1.2.fS hd))),0⟩,⟨[21],rB (decide (48≤(Ba r1.2.fS hd))),0⟩,⟨[22],rP ha 0,0⟩,⟨[23,22],rP ha 0,0⟩,⟨[24,22],rP ha 0,0⟩,⟨[25,22],rS r1.2.fS,1⟩,⟨[22],rP ha 0,0⟩,⟨[27,22],rP ha 0,0⟩,⟨[28,22],rP ha 1,0⟩,⟨[29,22],Am hd,1⟩,⟨[26,30,22],rI .u8 (Ba r1.2.fS hd),0⟩,⟨[31,22],rB (decide ((Ba r1.2.fS hd)≤57)),0⟩,⟨[22,32],rB (decide ((Ba r1.2.fS hd)≤57)),0⟩] [17,18,19,20,21,22,23,24,25,26,27,28,29,30,31,32,33,34,35,36,37,38,39,40,41,42,43,44,45,46,47,48,49,50,0,3,4] ?_ ?_
     ·refine oq (Al rfl) (oq (Ar rfl) (oq (A5 Br rfl CD rfl rfl) (of (AT (i:=0) Du rfl rfl rfl) (oq (Al rfl) (oq (Ar rfl) (oq (A5 Br rfl D1 rfl rfl) (of (AT (i:=0) Eb rfl rfl rfl) (oq (Bv C3 rfl) (oq (Dv rfl rfl) (oq (Al rfl) (on he (oq (Al rfl) (on he (oq (Ar rfl) (on he (oq (A5 Br rfl D1 rfl rfl) (on he (of (AT (i:=0) Eb rfl rfl rfl) (on he (oq (Al rfl) (on he (oq (Ar rfl) (on he ?_)))))))))))))))))))))));refine oq (A5 Br rfl CD rfl rfl) (on he (of (AT (i:=0) Du rfl rfl rfl) (on he (oq (Bq C3 rfl rfl (IH hm he)) (on he (oq (J2 rfl rfl) (oq (A7 rfl he rfl) (oq (Al rfl) (on hf (oq (Al rfl) (on hf (oq (Ar rfl) (on hf (oq (A5 Br rfl D1 rfl rfl) (on hf (of (AT (i:=0) Eb rfl rfl rfl) (on hf (oq (Al rfl) (on hf (oq (Ar rfl) (on hf (oq (A5 Br rfl CD rfl rfl) (on hf ?_)))))))))))))))))))))));refine of (AT (i:=0) Du rfl rfl rfl) (on hf (oq (Bq C3 rfl rfl (IH hm he)) (on hf (oq (NR rfl rfl) (oq (A7 rfl hf rfl) ?_)))));exact Ci
     exact D3 (And.intro he hf)
    ·refine CM [0,3,4] [⟨[],rP ha 0,0⟩,⟨[0],rP ha 0,0⟩,⟨[1],rP ha 1,0⟩,⟨[2],Am hd,1⟩,⟨[],rP ha 0,0⟩,⟨[4],rP ha 0,0⟩,⟨[5],rP ha 0,0⟩,⟨[6],rS r1.2.fS,1⟩,⟨[7],Am (r1.2.fS.length:Int),0⟩,⟨[3,8],rB (decide (hd<(r1.2.fS.length:Int))),0⟩,⟨[9],rB (decide (hd<(r1.2.fS.length:Int))),0⟩,⟨[10],rP ha 0,0⟩,⟨[11,10],rP ha 0,0⟩,⟨[12,10],rP ha 0,0⟩,⟨[13,10],rS r1.2.fS,1⟩,⟨[10],rP ha 0,0⟩,⟨[15,10],rP ha 0,0⟩,⟨[16,10],rP ha 1,0⟩,⟨[17,10],Am hd,1⟩,⟨[14,18,10],rI .u8 (Ba r1.2.fS hd),0⟩,⟨[19,10],rB (decide (48≤(Ba r1.2.fS hd))),0⟩,⟨[10,20],rB (decide (48≤(Ba r1.2.fS hd))),0⟩,⟨[21],rB (decide (48≤(Ba r1.2.fS hd))),0⟩,⟨[22],rv undef,0⟩,⟨[23,22],rv undef,0⟩,⟨[24,22],rv undef,0⟩,⟨[25,22],rv undef,0⟩,⟨[22],rv undef,0⟩,⟨[27,22],rv undef,0⟩,⟨[28,22],rv undef,0⟩,⟨[29,22],rv undef,0⟩,⟨[26,30,22],rv undef,0⟩,⟨[31,22],rv undef,0⟩,⟨[22,32],rB false,0⟩] [17,18,19,20,21,22,23,24,25,26,27,28,29,30,31,32,33,34,35,36,37,38,39,40,41,42,43,44,45,46,47,48,49,50,0,3,4] ?_ ?_
     ·refine oq (Al rfl) (oq (Ar rfl) (oq (A5 Br rfl CD rfl rfl) (of (AT (i:=0) Du rfl rfl rfl) (oq (Al rfl) (oq (Ar rfl) (oq (A5 Br rfl D1 rfl rfl) (of (AT (i:=0) Eb rfl rfl rfl) (oq (Bv C3 rfl) (oq (Dv rfl rfl) (oq (Al rfl) (on he (oq (Al rfl) (on he (oq (Ar rfl) (on he (oq (A5 Br rfl D1 rfl rfl) (on he (of (AT (i:=0) Eb rfl rfl rfl) (on he (oq (Al rfl) (on he (oq (Ar rfl) (on he ?_)))))))))))))))))))))));refine oq (A5 Br rfl CD rfl rfl) (on he (of (AT (i:=0) Du rfl rfl rfl) (on he (oq (Bq C3 rfl rfl (IH hm he)) (on he (oq (J2 rfl rfl) (oq (A7 rfl he rfl) (oq (Al rfl) (oz hf (oz hf (oz hf (oz hf (oz hf (oz hf (oz hf (oz hf (oz hf (oz hf (oq (AM (b:=decide (48≤(Ba r1.2.fS hd))) rfl hf rfl) ?_)))))))))))))))))));exact Ci
     exact D3 (And.intro he hf)
   ·refine CM [0,3,4] [⟨[],rP ha 0,0⟩,⟨[0],rP ha 0,0⟩,⟨[1],rP ha 1,0⟩,⟨[2],Am hd,1⟩,⟨[],rP ha 0,0⟩,⟨[4],rP ha 0,0⟩,⟨[5],rP ha 0,0⟩,⟨[6],rS r1.2.fS,1⟩,⟨[7],Am (r1.2.fS.length:Int),0⟩,⟨[3,8],rB (decide (hd<(r1.2.fS.length:Int))),0⟩,⟨[9],rB (decide (hd<(r1.2.fS.length:Int))),0⟩,⟨[10],rv undef,0⟩,⟨[11,10],rv undef,0⟩,⟨[12,10],rv undef,0⟩,⟨[13,10],rv undef,0⟩,⟨[10],rv undef,0⟩,⟨[15,10],rv undef,0⟩,⟨[16,10],rv undef,0⟩,⟨[17,10],rv undef,0⟩,⟨[14,18,10],rv undef,0⟩,⟨[19,10],rv undef,0⟩,⟨[10,20],rB false,0⟩,⟨[21],rB false,0⟩,⟨[22],rv undef,0⟩,⟨[23,22],rv undef,0⟩,⟨[24,22],rv undef,0⟩,⟨[25,22],rv undef,0⟩,⟨[22],rv undef,0⟩,⟨[27,22],rv undef,0⟩,⟨[28,22],rv undef,0⟩,⟨[29,22],rv undef,0⟩,⟨[26,30,22],rv undef,0⟩,⟨[31,22],rv undef,0⟩,⟨[22,32],rB false,0⟩] [17,18,19,20,21,22,23,24,25,26,27,28,29,30,31,32,33,34,35,36,37,38,39,40,41,42,43,44,45,46,47,48,49,50,0,3,4] ?_ ?_
    ·refine oq (Al rfl) (oq (Ar rfl) (oq (A5 Br rfl CD rfl rfl) (of (AT (i:=0) Du rfl rfl rfl) (oq (Al rfl) (oq (Ar rfl) (oq (A5 Br rfl D1 rfl rfl) (of (AT (i:=0) Eb rfl rfl rfl) (oq (Bv C3 rfl) (oq (Dv rfl rfl) (oq (Al rfl) (oz he (oz he (oz he (oz he (oz he (oz he (oz he (oz he (oz he (oz he (oq (AM (b:=decide (hd<(r1.2.fS.length:Int))) rfl he rfl) (oq (Al rfl) (oz rfl ?_)))))))))))))))))))))));refine oz rfl (oz rfl (oz rfl (oz rfl (oz rfl (oz rfl (oz rfl (oz rfl (oz rfl (oq (AM (b:=false) rfl rfl rfl) ?_)))))))));exact Ci
    exact D3 he
  refine cz hw rfl (λhx hy=>?_) (λhx hz=>?_)
  ·refine A2 (AP (AK (An (wm rfl (wv (Ar rfl) (vF Br rfl CD (vL 0 Du rfl (ck hy λh0 h1=>wv (BL rfl rfl h0) (wv (Ar rfl) (vF Br rfl CD (B5 (i:=0) CD rfl rfl (Cu rfl) rfl rfl (cs':=[rS r1.2.fS,Am (hd+1),rv v4,rB r1.2.fGreat]) rfl (H':=[.blk ha [rS r1.2.fS,Am (hd+1),rv v4,rB r1.2.fGreat] 127,.row v4 78 4 (AE Ab r1.2.fCells)]) rfl (At (AJ ?_)))))))))))));have h3:=B6 h1 hn;exact A4 (AG (ht,hd+1,()) ⟨h3,Ab1 _⟩ (AD.c rfl (AD.c rfl (AD.c rfl AD.nil))) (sC (sC sN)))
  ·refine B1 (A3 ?_);have h4:=Cm hz hn hr;exact A3 (Bj (AG (hd,()) h4 (AD.c rfl (AD.c rfl (AD.c rfl AD.nil))) (sC (sC sN))))
 ·rintro⟨hb,⟨⟩⟩ hk;refine CU (l':=[(0,rP ha 0),(3,Am q.fAt),(4,Am r1.2.fAt)]) (H':=[.blk ha [rS r1.2.fS,Am hb,rv v4,rB r1.2.fGreat] 127,.row v4 78 4 (AE Ab r1.2.fCells)]) rfl rfl ?_;replace hk:I5 q r1 hb=some r:=hk;unfold I5 at hk;refine Be (AP (Ao (ck hk λh5 h6=>ck h6 λh7 h8=>ck h8 λh9 hA=>CM [0,3,4] [⟨[],rP ha 0,0⟩,⟨[0],rP ha 0,0⟩,⟨[1],rP ha 0,0⟩,⟨[2],rS r1.2.fS,1⟩,⟨[],Am q.fAt,0⟩,⟨[],rP ha 0,0⟩,⟨[5],rP ha 0,0⟩,⟨[6],rP ha 1,0⟩,⟨[7],Am hb,1⟩,⟨[3,4,8],rS (List.take (Bt hb-Bt q.fAt) (List.drop (Bt q.fAt) r1.2.fS)),0⟩,⟨[9],C2 [Am (Bm (List.take (Bt hb-Bt q.fAt) (List.drop (Bt q.fAt) r1.2.fS))),Am (BD (List.take (Bt hb-Bt q.fAt) (List.drop (Bt q.fAt) r1.2.fS)))],0⟩,⟨[10],C2 [Am (Bm (List.take (Bt hb-Bt q.fAt) (List.drop (Bt q.fAt) r1.2.fS))),Am (BD (List.take (Bt hb-Bt q.fAt) (List.drop (Bt q.fAt) r1.2.fS)))],0⟩,⟨[11],Am (Bm (List.take (Bt hb-Bt q.fAt) (List.drop (Bt q.fAt) r1.2.fS))),0⟩,⟨[11],Am (BD (List.take (Bt hb-Bt q.fAt) (List.drop (Bt q.fAt) r1.2.fS))),0⟩,⟨[12],Am (Bm (List.take (Bt hb-Bt q.fAt) (List.drop (Bt q.fAt) r1.2.fS))),0⟩,⟨[13],Am (BD (List.take (Bt hb-Bt q.fAt) (List.drop (Bt q.fAt) r1.2.fS))),0⟩] [5,6,0,4] ?_ ?_)))
  ·refine oq (Al rfl) (oq (Ar rfl) (oq (A5 Br rfl D1 rfl rfl) (of (AT (i:=0) Eb rfl rfl rfl) (oq (Al rfl) (oq (Al rfl) (oq (Ar rfl) (oq (A5 Br rfl CD rfl rfl) (of (AT (i:=0) Du rfl rfl rfl) (oq (JU C3 rfl rfl rfl h5 h7) (ET rfl (λH=>IB (rs:=[rS (List.take (Bt hb-Bt q.fAt) (List.drop (Bt q.fAt) r1.2.fS))]) (r:=C2 [Am (Bm (List.take (Bt hb-Bt q.fAt) (List.drop (Bt q.fAt) r1.2.fS))),Am (BD (List.take (Bt hb-Bt q.fAt) (List.drop (Bt q.fAt) r1.2.fS)))]) Tryz.call73 rfl (SE (List.take (Bt hb-Bt q.fAt) (List.drop (Bt q.fAt) r1.2.fS)) h9) rfl) ?_))))))))));refine oq (Al rfl) (oq (AF rfl rfl) (oq (AF rfl rfl) (oq (Aw rfl) (oq (Aw rfl) ?_))));exact Ci
  refine AP (Ao (AO [(0,rP ha 0),(5,Am (Bm (List.take (Bt hb-Bt q.fAt) (List.drop (Bt q.fAt) r1.2.fS)))),(6,Am (BD (List.take (Bt hb-Bt q.fAt) (List.drop (Bt q.fAt) r1.2.fS)))),(81,rB ((decide ((BD (List.take (Bt hb-Bt q.fAt) (List.drop (Bt q.fAt) r1.2.fS)))=1))||(decide (r1.2.fAt=hb))))] [.blk ha [rS r1.2.fS,Am hb,rv v4,rB r1.2.fGreat] 127,.row v4 78 4 (AE Ab r1.2.fCells)] ?_ ?_))
  ·refine An (wm rfl (wv (BT rfl rfl) (wm rfl (AY (decide ((BD (List.take (Bt hb-Bt q.fAt) (List.drop (Bt q.fAt) r1.2.fS)))=1)) (λhg=>?_) (λhg=>?_)))))
   ·refine wf hg (wf hg (wf hg (wf hg (wf hg (wf hg (wv (r:=rB true) (A7 rfl hg rfl) (At ?_)))))));exact D3 hg
   ·refine wo hg (wm rfl (wo hg (wm rfl (wo hg (wv (Ar rfl) (wo hg (vF Br rfl CD (wo hg (vL 0 Du rfl (wo hg (wv (BT rfl rfl) (Lf rfl hg rfl (At ?_)))))))))))));exact D3 hg
  refine cz hA rfl (λhB hC=>?_) (λhB hD=>?_)
  ·refine Ah (wa rfl (Aq (Ay (Ac ?_))));obtain rfl:=Az hC;exact Ax (Ct Tryz.results162 (AL rfl)) (sC (sC sN)) ⟨v4,rfl,rfl⟩
  ·refine A2 (AP (AO [(0,rP ha 0),(5,Am (Bm (List.take (Bt hb-Bt q.fAt) (List.drop (Bt q.fAt) r1.2.fS))))] [.blk ha [rS r1.2.fS,Am hb,rv v4,rB (r1.2.fGreat||(!decide ((BD (List.take (Bt hb-Bt q.fAt) (List.drop (Bt q.fAt) r1.2.fS)))=0)))] 127,.row v4 78 4 (AE Ab r1.2.fCells)] ?_ ?_))
   ·refine An (wm rfl (wm rfl (wv (Ar rfl) (vF Br rfl GW (vL 0 PM rfl (wm rfl (AY (r1.2.fGreat) (λhh=>?_) (λhh=>?_))))))))
    ·refine wf hh (wf hh (wv (r:=rB true) (A7 rfl hh rfl) (wv (Ar rfl) (vF Br rfl GW (B5 (i:=0) GW rfl rfl (Cu rfl) rfl rfl (cs':=[rS r1.2.fS,Am hb,rv v4,rB true]) rfl (H':=[.blk ha [rS r1.2.fS,Am hb,rv v4,rB true] 127,.row v4 78 4 (AE Ab r1.2.fCells)]) rfl (At (HV (H':=[.blk ha [rS r1.2.fS,Am hb,rv v4,rB (r1.2.fGreat||(!decide ((BD (List.take (Bt hb-Bt q.fAt) (List.drop (Bt q.fAt) r1.2.fS)))=0)))] 127,.row v4 78 4 (AE Ab r1.2.fCells)]) (by simp only[hh,Aby,AbC,AbT,Ab5,AbA,AbF,AbM,AbI,Abw,AbB,Abr,Abk]) ?_)))))));exact wt
    ·refine wo hh (wm rfl (wo hh (wv (Dj rfl rfl) (Lf rfl hh rfl (wv (Ar rfl) (vF Br rfl GW (B5 (i:=0) GW rfl rfl (Cu rfl) rfl rfl (cs':=[rS r1.2.fS,Am hb,rv v4,rB (!decide ((BD (List.take (Bt hb-Bt q.fAt) (List.drop (Bt q.fAt) r1.2.fS)))=0))]) rfl (H':=[.blk ha [rS r1.2.fS,Am hb,rv v4,rB (!decide ((BD (List.take (Bt hb-Bt q.fAt) (List.drop (Bt q.fAt) r1.2.fS)))=0))] 127,.row v4 78 4 (AE Ab r1.2.fCells)]) rfl (At (HV (H':=[.blk ha [rS r1.2.fS,Am hb,rv v4,rB (r1.2.fGreat||(!decide ((BD (List.take (Bt hb-Bt q.fAt) (List.drop (Bt q.fAt) r1.2.fS)))=0)))] 127,.row v4 78 4 (AE Ab r1.2.fCells)]) (by simp only[hh,Aby,AbC,AbT,Ab5,AbA,AbF,AbM,AbI,Abw,AbB,Abr,Abk]) ?_)))))))));exact wt
   refine Ah (wm rfl (wm rfl (wv (Ar rfl) (vF Br rfl CS (vL 0 G5 rfl (wm rfl (wv (r:=BC [Am 3,Am (Bm (List.take (Bt hb-Bt q.fAt) (List.drop (Bt q.fAt) r1.2.fS))),rS ([]:Ag),Am 0]) (Hm rfl rfl rfl rfl) (AW (ys:=([(Aa.mk 3 (Bm (List.take (Bt hb-Bt q.fAt) (List.drop (Bt q.fAt) r1.2.fS))) ([]:Ag) 0)]:List Aa)) (enc:=Ab) (css:=[[Am 3,Am (Bm (List.take (Bt hb-Bt q.fAt) (List.drop (Bt q.fAt) r1.2.fS))),rS ([]:Ag),Am 0]]) (xs:=[.tmp 99]) CJ DR Me rfl rfl rfl ⟨GR.agg ⟨Up.refl _,Up.refl _,Up.refl _,Up.refl _,trivial⟩,trivial⟩ rfl Bo rfl rfl rfl (λho=>?_)))))))));refine ck hD λhE hG=>Exists.elim Ie λinf hinf=>Cb (xs:=r1.2.fCells) (ys:=([(Aa.mk 3 (Bm (List.take (Bt hb-Bt q.fAt) (List.drop (Bt q.fAt) r1.2.fS))) ([]:Ag) 0)]:List Aa)) (enc:=Ab) (i:=2) CJ hinf.1 hinf.2.1 hinf.2.2.1 hinf.2.2.2 rfl rfl rfl rfl rfl (LD.w (i:=0) rfl rfl) Bo Cw hE rfl (λhi=>?_);refine wv (Ar rfl) (vF Br rfl CS (B5 (i:=2) CS rfl rfl (DL (i:=0) rfl) rfl rfl (cs':=[rS r1.2.fS,Am hb,rv hi,rB (r1.2.fGreat||(!decide ((BD (List.take (Bt hb-Bt q.fAt) (List.drop (Bt q.fAt) r1.2.fS)))=0)))]) rfl (H':=[.row hi 78 4 (AE Ab (r1.2.fCells++([(Aa.mk 3 (Bm (List.take (Bt hb-Bt q.fAt) (List.drop (Bt q.fAt) r1.2.fS))) ([]:Ag) 0)]:List Aa))),.row (.slice (some ⟨ho,0,none⟩) 1 1) 78 4 (AE Ab ([(Aa.mk 3 (Bm (List.take (Bt hb-Bt q.fAt) (List.drop (Bt q.fAt) r1.2.fS))) ([]:Ag) 0)]:List Aa)),.blk ha [rS r1.2.fS,Am hb,rv hi,rB (r1.2.fGreat||(!decide ((BD (List.take (Bt hb-Bt q.fAt) (List.drop (Bt q.fAt) r1.2.fS)))=0)))] 127]) rfl (Bx (wa rfl (Aq (Ay (Ca (H2:=[.blk ha [rS r1.2.fS,Am hb,rv hi,rB (r1.2.fGreat||(!decide ((BD (List.take (Bt hb-Bt q.fAt) (List.drop (Bt q.fAt) r1.2.fS)))=0)))] 127,.row hi 78 4 (AE Ab (r1.2.fCells++([(Aa.mk 3 (Bm (List.take (Bt hb-Bt q.fAt) (List.drop (Bt q.fAt) r1.2.fS))) ([]:Ag) 0)]:List Aa))),.row (.slice (some ⟨ho,0,none⟩) 1 1) 78 4 (AE Ab ([(Aa.mk 3 (Bm (List.take (Bt hb-Bt q.fAt) (List.drop (Bt q.fAt) r1.2.fS))) ([]:Ag) 0)]:List Aa))]) ((Aj (i:=2) rfl).trans (Abn _ (Abo _))) ?_)))))));obtain rfl:=Az hG;exact Ax (Ct Tryz.results162 (AL rfl)) (sC (sC (sS sN))) ⟨hi,rfl,rfl⟩
theorem Rv (F:Nat)(hd:Nat)(hk:Value)(q:Ak)(r:Bool×Ak)(h:Hz F q=some r):Fn Tryz.prog GE 134 [rP hd 0] [.blk hd [rS q.fS,Am q.fAt,rv hk,rB q.fGreat] 127,.row hk 78 4 (AE Ab q.fCells)] (λR H=>∃w0_2:Value,R=rB r.1∧H=[.blk hd [rS r.2.fS,Am r.2.fAt,rv w0_2,rB r.2.fGreat] 127,.row w0_2 78 4 (AE Ab r.2.fCells)]):=by
 refine enter (n:=75) Tryz.func134 rfl Tryz.ntmps134 rfl (λw Z=>?_);unfold Hz at h;refine Ah (wa rfl (Aq (CE (S:=(Ag×Int×(List Aa)×Bool)×(Value)) (λσ=>D7 σ.1.1 σ.1.2.1 σ.1.2.2.1 σ.1.2.2.2=some r) (λσ=>[]) (λσ=>[.blk hd [rS σ.1.1,Am σ.1.2.1,rv σ.2,rB σ.1.2.2.2] 127,.row σ.2 78 4 (AE Ab σ.1.2.2.1)]) ?_ ?_)))
 ·refine AK (Ah (wm rfl (ob h λhe hx hy=>DY (Hr:=[]) G4 (Df hd hk q ([110,117,108,108]:Ag) he hx) rfl (Abo _) rfl ?_)));rintro _ _ ⟨hz,rfl,rfl⟩;refine wa rfl (Aq (cz hy rfl (λh0 h1=>?_) (λh0 h2=>?_)))
  ·refine An (wm rfl (wm rfl (wv (Ar rfl) (vF Br rfl CS (vL 0 G5 rfl (wv (r:=BC [Am 1,Am 0,rS ([]:Ag),Am 0]) (Ha rfl rfl) (AW (ys:=([(Aa.mk 1 0 ([]:Ag) 0)]:List Aa)) (enc:=Ab) (css:=[[Am 1,Am 0,rS ([]:Ag),Am 0]]) (xs:=[.tmp 15]) CJ DR Me rfl rfl rfl ⟨GR.agg ⟨Up.refl _,Up.refl _,Up.refl _,Up.refl _,trivial⟩,trivial⟩ rfl Bo rfl rfl rfl (λhn=>?_))))))));refine ck h1 λh3 h4=>Exists.elim Ie λinf hinf=>Cb (xs:=he.2.fCells) (ys:=([(Aa.mk 1 0 ([]:Ag) 0)]:List Aa)) (enc:=Ab) (i:=2) CJ hinf.1 hinf.2.1 hinf.2.2.1 hinf.2.2.2 rfl rfl rfl rfl rfl (LD.w (i:=0) rfl rfl) Bo Cw h3 rfl (λhg=>?_);exact wv (Ar rfl) (vF Br rfl CS (B5 (i:=2) CS rfl rfl (DL (i:=0) rfl) rfl rfl (cs':=[rS he.2.fS,Am he.2.fAt,rv hg,rB he.2.fGreat]) rfl (H':=[.row hg 78 4 (AE Ab (he.2.fCells++([(Aa.mk 1 0 ([]:Ag) 0)]:List Aa))),.row (.slice (some ⟨hn,0,none⟩) 1 1) 78 4 (AE Ab ([(Aa.mk 1 0 ([]:Ag) 0)]:List Aa)),.blk hd [rS he.2.fS,Am he.2.fAt,rv hg,rB he.2.fGreat] 127]) rfl (At (AJ (Ca (H2:=[.blk hd [rS he.2.fS,Am he.2.fAt,rv hg,rB he.2.fGreat] 127,.row hg 78 4 (AE Ab (he.2.fCells++([(Aa.mk 1 0 ([]:Ag) 0)]:List Aa))),.row (.slice (some ⟨hn,0,none⟩) 1 1) 78 4 (AE Ab ([(Aa.mk 1 0 ([]:Ag) 0)]:List Aa))]) ((Aj (i:=2) rfl).trans (Abn _ (Abo _))) (A4 (AG ((he.2.fS,he.2.fAt,he.2.fCells++([(Aa.mk 1 0 ([]:Ag) 0)]:List Aa),he.2.fGreat),hg) h4 AD.nil (sC (sC (sS sN))))))))))
  ·refine Ah (wm rfl (ob h2 λhf h5 h6=>DY (Hr:=[]) G4 (Df hd hz he.2 ([116,114,117,101]:Ag) hf h5) rfl (Abo _) rfl ?_));rintro _ _ ⟨v76,rfl,rfl⟩;refine wa rfl (Aq (cz h6 rfl (λh7 h8=>?_) (λh7 h9=>?_)))
   ·refine An (wm rfl (wm rfl (wv (Ar rfl) (vF Br rfl CS (vL 0 G5 rfl (wv (r:=BC [Am 2,Am 1,rS ([]:Ag),Am 0]) (Hm rfl rfl rfl rfl) (AW (ys:=([(Aa.mk 2 1 ([]:Ag) 0)]:List Aa)) (enc:=Ab) (css:=[[Am 2,Am 1,rS ([]:Ag),Am 0]]) (xs:=[.tmp 28]) CJ DR Me rfl rfl rfl ⟨GR.agg ⟨Up.refl _,Up.refl _,Up.refl _,Up.refl _,trivial⟩,trivial⟩ rfl Bo rfl rfl rfl (λho=>?_))))))));refine ck h8 λhA hB=>Exists.elim Ie λinf hinf=>Cb (xs:=hf.2.fCells) (ys:=([(Aa.mk 2 1 ([]:Ag) 0)]:List Aa)) (enc:=Ab) (i:=2) CJ hinf.1 hinf.2.1 hinf.2.2.1 hinf.2.2.2 rfl rfl rfl rfl rfl (LD.w (i:=0) rfl rfl) Bo Cw hA rfl (λv80=>?_);exact wv (Ar rfl) (vF Br rfl CS (B5 (i:=2) CS rfl rfl (DL (i:=0) rfl) rfl rfl (cs':=[rS hf.2.fS,Am hf.2.fAt,rv v80,rB hf.2.fGreat]) rfl (H':=[.row v80 78 4 (AE Ab (hf.2.fCells++([(Aa.mk 2 1 ([]:Ag) 0)]:List Aa))),.row (.slice (some ⟨ho,0,none⟩) 1 1) 78 4 (AE Ab ([(Aa.mk 2 1 ([]:Ag) 0)]:List Aa)),.blk hd [rS hf.2.fS,Am hf.2.fAt,rv v80,rB hf.2.fGreat] 127]) rfl (At (AJ (Ca (H2:=[.blk hd [rS hf.2.fS,Am hf.2.fAt,rv v80,rB hf.2.fGreat] 127,.row v80 78 4 (AE Ab (hf.2.fCells++([(Aa.mk 2 1 ([]:Ag) 0)]:List Aa))),.row (.slice (some ⟨ho,0,none⟩) 1 1) 78 4 (AE Ab ([(Aa.mk 2 1 ([]:Ag) 0)]:List Aa))]) ((Aj (i:=2) rfl).trans (Abn _ (Abo _))) (A4 (AG ((hf.2.fS,hf.2.fAt,hf.2.fCells++([(Aa.mk 2 1 ([]:Ag) 0)]:List Aa),hf.2.fGreat),v80) hB AD.nil (sC (sC (sS sN))))))))))
   ·refine Ah (wm rfl (ob h9 λhb hC hD=>DY (Hr:=[]) G4 (Df hd v76 hf.2 ([102,97,108,115,101]:Ag) hb hC) rfl (Abo _) rfl ?_));rintro _ _ ⟨hp,rfl,rfl⟩;refine wa rfl (Aq (cz hD rfl (λhE hG=>?_) (λhE hH=>?_)))
    ·refine An (wm rfl (wm rfl (wv (Ar rfl) (vF Br rfl CS (vL 0 G5 rfl (wv (r:=BC [Am 2,Am 0,rS ([]:Ag),Am 0]) (Ha rfl rfl) (AW (ys:=([(Aa.mk 2 0 ([]:Ag) 0)]:List Aa)) (enc:=Ab) (css:=[[Am 2,Am 0,rS ([]:Ag),Am 0]]) (xs:=[.tmp 41]) CJ DR Me rfl rfl rfl ⟨GR.agg ⟨Up.refl _,Up.refl _,Up.refl _,Up.refl _,trivial⟩,trivial⟩ rfl Bo rfl rfl rfl (λhq=>?_))))))));refine ck hG λhI hJ=>Exists.elim Ie λinf hinf=>Cb (xs:=hb.2.fCells) (ys:=([(Aa.mk 2 0 ([]:Ag) 0)]:List Aa)) (enc:=Ab) (i:=2) CJ hinf.1 hinf.2.1 hinf.2.2.1 hinf.2.2.2 rfl rfl rfl rfl rfl (LD.w (i:=0) rfl rfl) Bo Cw hI rfl (λhh=>?_);exact wv (Ar rfl) (vF Br rfl CS (B5 (i:=2) CS rfl rfl (DL (i:=0) rfl) rfl rfl (cs':=[rS hb.2.fS,Am hb.2.fAt,rv hh,rB hb.2.fGreat]) rfl (H':=[.row hh 78 4 (AE Ab (hb.2.fCells++([(Aa.mk 2 0 ([]:Ag) 0)]:List Aa))),.row (.slice (some ⟨hq,0,none⟩) 1 1) 78 4 (AE Ab ([(Aa.mk 2 0 ([]:Ag) 0)]:List Aa)),.blk hd [rS hb.2.fS,Am hb.2.fAt,rv hh,rB hb.2.fGreat] 127]) rfl (At (AJ (Ca (H2:=[.blk hd [rS hb.2.fS,Am hb.2.fAt,rv hh,rB hb.2.fGreat] 127,.row hh 78 4 (AE Ab (hb.2.fCells++([(Aa.mk 2 0 ([]:Ag) 0)]:List Aa))),.row (.slice (some ⟨hq,0,none⟩) 1 1) 78 4 (AE Ab ([(Aa.mk 2 0 ([]:Ag) 0)]:List Aa))]) ((Aj (i:=2) rfl).trans (Abn _ (Abo _))) (A4 (AG ((hb.2.fS,hb.2.fAt,hb.2.fCells++([(Aa.mk 2 0 ([]:Ag) 0)]:List Aa),hb.2.fGreat),hh) hJ AD.nil (sC (sC (sS sN))))))))))
    ·refine Ao (ck hH λhK hL=>ob hL λhl hN hO=>CM [0] [⟨[],rP hd 0,0⟩,⟨[0],rP hd 0,0⟩,⟨[1],rP hd 0,0⟩,⟨[2],rS hb.2.fS,1⟩,⟨[],rP hd 0,0⟩,⟨[4],rP hd 0,0⟩,⟨[5],rP hd 1,0⟩,⟨[6],Am hb.2.fAt,1⟩,⟨[3,7],rS (List.drop (Bt hb.2.fAt) hb.2.fS),0⟩,⟨[8],rB hl,0⟩,⟨[9],rB hl,0⟩] [46,0] ?_ ?_)
     ·refine oq (Al rfl) (oq (Ar rfl) (oq (A5 Br rfl D1 rfl rfl) (of (AT (i:=0) Eb rfl rfl rfl) (oq (Al rfl) (oq (Ar rfl) (oq (A5 Br rfl CD rfl rfl) (of (AT (i:=0) Du rfl rfl rfl) (oq (Di C3 rfl rfl hK) (ET rfl (λH=>KD Tryz.call44 (IJ (List.drop (Bt hb.2.fAt) hb.2.fS) ([34]:Ag) hl hN) rfl) ?_)))))))));refine oq (Aw rfl) ?_;exact Ci
     refine AP (cz hO rfl (λhP hQ=>?_) (λhP hR=>?_))
     ·refine Ah (wm rfl (ob hQ λha hS hT=>DY (Hr:=[]) Tryz.call135 (Sr F hd hp hb.2 ha hS) rfl (Abo _) rfl ?_));rintro _ _ ⟨hU,rfl,rfl⟩;refine wm rfl (wv (AF rfl rfl) (wv (AF rfl rfl) (wa rfl (wa rfl (Aq (Ao (Ah (wm rfl (wv (Cj rfl) (Aq (cz hT rfl (λhV hW=>?_) (λhV hX=>?_))))))))))))
      ·refine Ah (wa rfl (Aq (Ay (Ac (A0 (Ac ?_))))));obtain rfl:=Az hW;exact Ax (Ct Tryz.results134 (AL rfl)) (sC (sC sN)) ⟨hU,rfl,rfl⟩
      ·refine A2 (AP (An (wm rfl (wm rfl (wv (Ar rfl) (vF Br rfl CS (vL 0 G5 rfl (wm rfl (wv (r:=BC [Am 4,Am 0,rS ha.1,Am 0]) (JD rfl rfl rfl rfl) (AW (ys:=([(Aa.mk 4 0 ha.1 0)]:List Aa)) (enc:=Ab) (css:=[[Am 4,Am 0,rS ha.1,Am 0]]) (xs:=[.tmp 70]) CJ DR Me rfl rfl rfl ⟨GR.agg ⟨Up.refl _,Up.refl _,Up.refl _,Up.refl _,trivial⟩,trivial⟩ rfl Bo rfl rfl rfl (λhr=>?_)))))))))));refine ck hX λhY hZ=>Exists.elim Ie λinf hinf=>Cb (xs:=ha.2.2.fCells) (ys:=([(Aa.mk 4 0 ha.1 0)]:List Aa)) (enc:=Ab) (i:=2) CJ hinf.1 hinf.2.1 hinf.2.2.1 hinf.2.2.2 rfl rfl rfl rfl rfl (LD.w (i:=0) rfl rfl) Bo Cw hY rfl (λhi=>?_);exact wv (Ar rfl) (vF Br rfl CS (B5 (i:=2) CS rfl rfl (DL (i:=0) rfl) rfl rfl (cs':=[rS ha.2.2.fS,Am ha.2.2.fAt,rv hi,rB ha.2.2.fGreat]) rfl (H':=[.row hi 78 4 (AE Ab (ha.2.2.fCells++([(Aa.mk 4 0 ha.1 0)]:List Aa))),.row (.slice (some ⟨hr,0,none⟩) 1 1) 78 4 (AE Ab ([(Aa.mk 4 0 ha.1 0)]:List Aa)),.blk hd [rS ha.2.2.fS,Am ha.2.2.fAt,rv hi,rB ha.2.2.fGreat] 127]) rfl (At (AJ (Ca (H2:=[.blk hd [rS ha.2.2.fS,Am ha.2.2.fAt,rv hi,rB ha.2.2.fGreat] 127,.row hi 78 4 (AE Ab (ha.2.2.fCells++([(Aa.mk 4 0 ha.1 0)]:List Aa))),.row (.slice (some ⟨hr,0,none⟩) 1 1) 78 4 (AE Ab ([(Aa.mk 4 0 ha.1 0)]:List Aa))]) ((Aj (i:=2) rfl).trans (Abn _ (Abo _))) (A4 (AG ((ha.2.2.fS,ha.2.2.fAt,ha.2.2.fCells++([(Aa.mk 4 0 ha.1 0)]:List Aa),ha.2.2.fGreat),hi) hZ AD.nil (sC (sC (sS sN))))))))))
     ·refine Ah (wm rfl (ob hR λga gb gc=>DY (Hr:=[]) Tryz.call162 (XF F hd hp hb.2 ga gb) rfl (Abo _) rfl ?_));rintro _ _ ⟨gd,rfl,rfl⟩;refine wa rfl (Aq (Ay (A0 (Ac ?_))));obtain rfl:=Az gc;exact Ax (Ct Tryz.results134 (AL rfl)) (sC (sC sN)) ⟨gd,rfl,rfl⟩
 ·rintro⟨⟨hs,ht,hu,hw⟩,hm⟩ hj;refine BY (l':=[]) (H':=[.blk hd [rS hs,Am ht,rv hm,rB hw] 127,.row hm 78 4 (AE Ab hu)]) rfl rfl ?_;replace hj:D7 hs ht hu hw=some r:=hj;unfold D7 at hj;refine Ah (wa rfl (Aq (Ay ?_)));obtain rfl:=Az hj;exact Ax (Ct Tryz.results134 (AL rfl)) (sC (sC sN)) ⟨hm,rfl,rfl⟩
theorem Rt (F:Nat)(hh:Ak→Option (Bool×Ak))(ga:(∀(hb:Nat) (hq:Value) (q:Ak) (r:Bool×Ak),hh q=some r→Fn Tryz.prog GE 100 [rP hb 0] [.blk hb [rS q.fS,Am q.fAt,rv hq,rB q.fGreat] 127,.row hq 78 4 (AE Ab q.fCells)] (λR H=>∃w0_2:Value,R=rB r.1∧H=[.blk hb [rS r.2.fS,Am r.2.fAt,rv w0_2,rB r.2.fGreat] 127,.row w0_2 78 4 (AE Ab r.2.fCells)])))(hb:Nat)(hq:Value)(q:Ak)(r:Bool×Ak)(h:Ko F hh q=some r):Fn Tryz.prog GE 100 [rP hb 0] [.blk hb [rS q.fS,Am q.fAt,rv hq,rB q.fGreat] 127,.row hq 78 4 (AE Ab q.fCells)] (λR H=>∃w0_2:Value,R=rB r.1∧H=[.blk hb [rS r.2.fS,Am r.2.fAt,rv w0_2,rB r.2.fGreat] 127,.row w0_2 78 4 (AE Ab r.2.fCells)]):=by
 refine enter (n:=96) Tryz.func100 rfl Tryz.ntmps100 rfl (λw Z=>?_);unfold Ko at h;refine Ah (wa rfl (Bx (wm rfl (ob h λr1 e3 h2=>DY (Hr:=[]) G4 (Df hb hq q ([91]:Ag) r1 e3) rfl (Abo _) rfl ?_))));rintro _ _ ⟨v4,rfl,rfl⟩;refine wa rfl (Aq (Ao (CE (S:=(Bool×Ag×Int×(List Aa)×Bool)×(Value)) (λσ=>D6 F hh r1 σ.1.1 σ.1.2.1 σ.1.2.2.1 σ.1.2.2.2.1 σ.1.2.2.2.2=some r) (λσ=>[(0,rP hb 0),(2,rB false),(3,rB r1.1),(19,rB σ.1.1)]) (λσ=>[.blk hb [rS σ.1.2.1,Am σ.1.2.2.1,rv σ.2,rB σ.1.2.2.2.2] 127,.row σ.2 78 4 (AE Ab σ.1.2.2.2.1)]) ?_ ?_)))
 ·refine An (wm rfl (wv (Cj rfl) (wm rfl (bz h2 (λhi gq=>?_) (λhi gr=>?_)))))
  ·refine wo hi (wm rfl (wo hi (ob gq λhr gs gt=>DY (Hr:=[]) G4 (Df hb v4 r1.2 ([123]:Ag) hr gs) rfl (Abo _) rfl ?_)));rintro _ _ ⟨v24,rfl,rfl⟩;exact wo hi (wv (Cj rfl) (Kf rfl hi rfl (At (A4 (AG ((!hr.1,hr.2.fS,hr.2.fAt,hr.2.fCells,hr.2.fGreat),v24) gt (AD.c rfl (AD.c rfl (AD.c rfl (AD.c rfl AD.nil)))) (sC (sC sN)))))))
  ·exact wf hi (wf hi (wf hi (wv (r:=rB false) (AM rfl hi rfl) (At (A4 (AG ((false,r1.2.fS,r1.2.fAt,r1.2.fCells,r1.2.fGreat),v4) gr (AD.c rfl (AD.c rfl (AD.c rfl (AD.c rfl AD.nil)))) (sC (sC sN))))))))
 ·rintro⟨⟨gb,hj,hk,x16,hl⟩,hI⟩ h8;refine BY (l':=[(0,rP hb 0),(2,rB false),(3,rB r1.1),(19,rB gb)]) (H':=[.blk hb [rS hj,Am hk,rv hI,rB hl] 127,.row hI 78 4 (AE Ab x16)]) rfl rfl ?_;replace h8:D6 F hh r1 gb hj hk x16 hl=some r:=h8;unfold D6 at h8;refine cz h8 rfl (λgu gv=>?_) (λgu gw=>?_)
  ·refine Ah (wm rfl (ob gv λgx gy gz=>DY (Hr:=[]) Tryz.call134 (Rv F hb hI (Ak.mk hj hk x16 hl) gx gy) rfl (Abo _) rfl ?_));rintro _ _ ⟨v32,rfl,rfl⟩;refine wa rfl (Aq (Ay (Ac ?_)));obtain rfl:=Az gz;exact Ax (Ct J6 (AL rfl)) (sC (sC sN)) ⟨v32,rfl,rfl⟩
  ·refine A2 (AP (Ah (wa rfl (wv (r:=rS ([125]:Ag)) (Aw rfl) (Aq (Ao (Ah (wm rfl (Aq (cz gw rfl (λhJ g0=>?_) (λhJ g1=>?_)))))))))))
   ·refine An (wa rfl (wv (r:=rS ([93]:Ag)) (Aw rfl) (Bx (wm rfl (wv (Ar rfl) (vF Br rfl CS (vL 0 G5 rfl (wv (C5 (ys:=x16) (enc:=Ab) (i:=1) CJ rfl rfl) (wa rfl (Bx (wm rfl (wm rfl (wv (Ar rfl) (vF Br rfl CS (vL 0 G5 rfl (wm rfl (wv (r:=BC [Am 5,Am 0,rS ([]:Ag),Am 0]) (Ha rfl rfl) (AW (ys:=([(Aa.mk 5 0 ([]:Ag) 0)]:List Aa)) (enc:=Ab) (css:=[[Am 5,Am 0,rS ([]:Ag),Am 0]]) (xs:=[.tmp 34]) CJ DR Me rfl rfl rfl ⟨GR.agg ⟨Up.refl _,Up.refl _,Up.refl _,Up.refl _,trivial⟩,trivial⟩ rfl Bo rfl rfl rfl (λgc=>?_)))))))))))))))))));refine ck g0 λg2 g3=>Exists.elim Ie λinf hinf=>Cb (xs:=x16) (ys:=([(Aa.mk 5 0 ([]:Ag) 0)]:List Aa)) (enc:=Ab) (i:=2) CJ hinf.1 hinf.2.1 hinf.2.2.1 hinf.2.2.2 rfl rfl rfl rfl rfl (LD.w (i:=0) rfl rfl) Bo Cw g2 rfl (λv37=>?_);refine wv (Ar rfl) (vF Br rfl CS (B5 (i:=2) CS rfl rfl (DL (i:=0) rfl) rfl rfl (cs':=[rS hj,Am hk,rv v37,rB hl]) rfl (H':=[.row v37 78 4 (AE Ab (x16++([(Aa.mk 5 0 ([]:Ag) 0)]:List Aa))),.row (.slice (some ⟨gc,0,none⟩) 1 1) 78 4 (AE Ab ([(Aa.mk 5 0 ([]:Ag) 0)]:List Aa)),.blk hb [rS hj,Am hk,rv v37,rB hl] 127]) rfl (Aq (Ao (Ah (wm rfl (wm rfl (ob g3 λhw g4 g5=>DY (Hr:=[.row (.slice (some ⟨gc,0,none⟩) 1 1) 78 4 (AE Ab ([(Aa.mk 5 0 ([]:Ag) 0)]:List Aa))]) G4 (Df hb v37 (Ak.mk hj hk (x16++([(Aa.mk 5 0 ([]:Ag) 0)]:List Aa)) hl) ([93]:Ag) hw g4) rfl ((Aj (i:=2) rfl).trans (Abn _ (Abo _))) rfl ?_))))))));rintro _ _ ⟨gd,rfl,rfl⟩;refine Aq (cz g5 rfl (λg6 g7=>?_) (λg6 g8=>?_))
    ·refine Ah (wa rfl (Aq (Ay (Ac ?_))));obtain rfl:=Az g7;exact Ax (Ct J6 (AL rfl)) (sC (sC (sS sN))) ⟨gd,rfl,rfl⟩
    ·refine A2 (AP (Ah (wv (r:=rS ([]:Ag)) (Aw rfl) (Bx (wa rfl (Aq (AK (ob g8 λg9 gA hK=>B0 (S:=Nat×(Int×Ag×Int×(List Aa)×Bool)×(Value)) (V:=(Unit)×(Unit)) 0 (λσ=>BE (λσ=>Ed hh x16 σ.1 σ.2.1 σ.2.2.1 σ.2.2.2.1 σ.2.2.2.2) σ.1 σ.2.1=some g9) (λσ=>[(0,rP hb 0),(2,rB false),(3,rB r1.1),(5,rS ([93]:Ag)),(6,Am (x16.length:Int)),(7,rS ([]:Ag)),(8,Am σ.2.1.1)]) (λσ=>[.blk hb [rS σ.2.1.2.1,Am σ.2.1.2.2.1,rv σ.2.2,rB σ.2.1.2.2.2.2] 127,.row σ.2.2 78 4 (AE Ab σ.2.1.2.2.2.1)]) (λσ=>σ.1) (F,(1,hw.2.fS,hw.2.fAt,hw.2.fCells,hw.2.fGreat),gd) gA (AD.c rfl (AD.c rfl (AD.c5 rfl rfl rfl rfl rfl AD.nil))) (sC (sC (sS sN))) (λσ=>GB =some r) (λσ=>[]) (λσ=>[]) ?_ ?_))))))))
     ·rintro⟨xb,⟨hx,hL,hN,hO,hP⟩,hQ⟩ gB;refine BY (l':=[(0,rP hb 0),(2,rB false),(3,rB r1.1),(5,rS ([93]:Ag)),(6,Am (x16.length:Int)),(7,rS ([]:Ag)),(8,Am hx)]) (H':=[.blk hb [rS hL,Am hN,rv hQ,rB hP] 127,.row hQ 78 4 (AE Ab hO)]) rfl rfl ?_;obtain⟨gC,rfl,gD,h9,hA⟩:=CO gB;replace h9:Ed hh x16 hx hL hN hO hP=some gD:=h9;unfold Ed at h9;refine Ao (AK (Ao (Ah (wm rfl (wv (Cj rfl) (Aq (Dp rfl (Aaq hJ) (A2 (AP (Ao (Ah (wm rfl (ob h9 λhd gE gF=>DY (Hr:=[]) Tryz.call100 (ga hb hQ (Ak.mk hL hN hO hP) hd gE) rfl (Abo _) rfl ?_)))))))))))));rintro _ _ ⟨hs,rfl,rfl⟩;refine wv (Cj rfl) (Aq (cz gF rfl (λgG gH=>?_) (λgG gI=>?_)))
      ·refine Ah (wa rfl (Aq (Ay (Ac (A0 (Ac (Ac (AX ?_))))))));have gJ:=B2 gH hA hK;refine A0 ?_;obtain rfl:=Az gJ;exact Ax (Ct J6 (AL rfl)) (sC (sC sN)) ⟨hs,rfl,rfl⟩
      ·refine A2 (AP (Ah (wm rfl (wv (Ar rfl) (vF Br rfl CS (vL 0 G5 rfl (wm rfl (wm rfl (ck gI λhR gK=>wv (r:=rv (EY 4 hs (Bt (x16.length:Int)) 0)) (JW (i:=1) CJ DR rfl rfl rfl (BI hR)) (wv (r:=rv (EY 4 hs (Bt (x16.length:Int)) 3)) (Ev (k:=1) Cp rfl CD rfl (BI hR) rfl rfl rfl) (I6 (enc:=Ab) (ys:=hd.2.fCells) (y':=(Aa.mk ((Ap hd.2.fCells (x16.length:Int)).fKind) ((Ap hd.2.fCells (x16.length:Int)).fInt) ((Ap hd.2.fCells (x16.length:Int)).fStr) hx)) (i:=1) (j:=(x16.length:Int)) CD rfl rfl (Cu rfl) rfl hR rfl rfl (H':=[.blk hb [rS hd.2.fS,Am hd.2.fAt,rv hs,rB hd.2.fGreat] 127,.row hs 78 4 (AE Ab (List.set hd.2.fCells (Bt (x16.length:Int)) (Aa.mk ((Ap hd.2.fCells (x16.length:Int)).fKind) ((Ap hd.2.fCells (x16.length:Int)).fInt) ((Ap hd.2.fCells (x16.length:Int)).fStr) hx)))]) rfl (bd gK λgL gM gN=>?_))))))))))));rw[← gM];refine Aq (Ao (Ah (wm rfl (wm rfl (ob gN λge gO gP=>DY (Hr:=[]) G4 (Df hb hs (Ak.mk hd.2.fS hd.2.fAt gL hd.2.fGreat) ([93]:Ag) ge gO) rfl (Abo _) rfl ?_)))));rintro _ _ ⟨gf,rfl,rfl⟩;refine Aq (cz gP rfl (λc167 gQ=>?_) (λc167 gR=>?_))
       ·refine Ah (wa rfl (Aq (Ay (Ac (A0 (Ac (Ac (AX ?_))))))));have gS:=B2 gQ hA hK;refine A0 ?_;obtain rfl:=Az gS;exact Ax (Ct J6 (AL rfl)) (sC (sC sN)) ⟨gf,rfl,rfl⟩
       ·refine A2 (AP (Ah (wm rfl (ob gR λhy gT gU=>DY (Hr:=[]) G4 (Df hb gf ge.2 ([44]:Ag) hy gT) rfl (Abo _) rfl ?_))));rintro _ _ ⟨gg,rfl,rfl⟩;refine wv (Cj rfl) (Aq (cz gU rfl (λc175 gV=>?_) (λc175 gW=>?_)))
        ·refine Ah (wa rfl (Aq (Ay (A0 (Ac (Ac (AX ?_)))))));have gX:=B2 gV hA hK;refine A0 ?_;obtain rfl:=Az gX;exact Ax (Ct J6 (AL rfl)) (sC (sC sN)) ⟨gg,rfl,rfl⟩
        ·refine A2 (AJ (AP (An (wm rfl (ck gW λgY gZ=>wv (BL rfl rfl gY) (wa rfl (At ?_)))))));have ca:=B6 gZ hA;exact A4 (AG (gC,(hx+1,hy.2.fS,hy.2.fAt,hy.2.fCells,hy.2.fGreat),gg) ⟨ca,Ab1 _⟩ (AD.c rfl (AD.c rfl (AD.c5 rfl rfl rfl rfl rfl AD.nil))) (sC (sC sN)))
     ·rintro⟨⟨⟩,⟨⟩⟩ cb
      cases cb
   ·refine A2 (AP (Ah (wm rfl (wv (Ar rfl) (vF Br rfl CS (vL 0 G5 rfl (wv (C5 (ys:=x16) (enc:=Ab) (i:=1) CJ rfl rfl) (wa rfl (Bx (wm rfl (wm rfl (wv (Ar rfl) (vF Br rfl CS (vL 0 G5 rfl (wm rfl (wv (r:=BC [Am 6,Am 0,rS ([]:Ag),Am 0]) (Ha rfl rfl) (AW (ys:=([(Aa.mk 6 0 ([]:Ag) 0)]:List Aa)) (enc:=Ab) (css:=[[Am 6,Am 0,rS ([]:Ag),Am 0]]) (xs:=[.tmp 34]) CJ DR Me rfl rfl rfl ⟨GR.agg ⟨Up.refl _,Up.refl _,Up.refl _,Up.refl _,trivial⟩,trivial⟩ rfl Bo rfl rfl rfl (λgh=>?_))))))))))))))))));refine ck g1 λcc cd=>Exists.elim Ie λinf hinf=>Cb (xs:=x16) (ys:=([(Aa.mk 6 0 ([]:Ag) 0)]:List Aa)) (enc:=Ab) (i:=2) CJ hinf.1 hinf.2.1 hinf.2.2.1 hinf.2.2.2 rfl rfl rfl rfl rfl (LD.w (i:=0) rfl rfl) Bo Cw cc rfl (λhB=>?_);refine wv (Ar rfl) (vF Br rfl CS (B5 (i:=2) CS rfl rfl (DL (i:=0) rfl) rfl rfl (cs':=[rS hj,Am hk,rv hB,rB hl]) rfl (H':=[.row hB 78 4 (AE Ab (x16++([(Aa.mk 6 0 ([]:Ag) 0)]:List Aa))),.row (.slice (some ⟨gh,0,none⟩) 1 1) 78 4 (AE Ab ([(Aa.mk 6 0 ([]:Ag) 0)]:List Aa)),.blk hb [rS hj,Am hk,rv hB,rB hl] 127]) rfl (Aq (Ao (Ah (wm rfl (wm rfl (ob cd λhz ce cf=>DY (Hr:=[.row (.slice (some ⟨gh,0,none⟩) 1 1) 78 4 (AE Ab ([(Aa.mk 6 0 ([]:Ag) 0)]:List Aa))]) G4 (Df hb hB (Ak.mk hj hk (x16++([(Aa.mk 6 0 ([]:Ag) 0)]:List Aa)) hl) ([125]:Ag) hz ce) rfl ((Aj (i:=2) rfl).trans (Abn _ (Abo _))) rfl ?_))))))));rintro _ _ ⟨gi,rfl,rfl⟩;refine Aq (cz cf rfl (λcg ci=>?_) (λcg cj=>?_))
    ·refine Ah (wa rfl (Aq (Ay (Ac ?_))));obtain rfl:=Az ci;exact Ax (Ct J6 (AL rfl)) (sC (sC (sS sN))) ⟨gi,rfl,rfl⟩
    ·refine A2 (AP (Ah (wv (r:=rS ([]:Ag)) (Aw rfl) (Bx (wa rfl (Aq (AK (ob cj λcl cm hC=>B0 (S:=Nat×(Ag×Int×Ag×Int×(List Aa)×Bool)×(Value)) (V:=(Unit)×(Unit)) 0 (λσ=>BE (λσ=>Ec F hh x16 σ.1 σ.2.1 σ.2.2.1 σ.2.2.2.1 σ.2.2.2.2.1 σ.2.2.2.2.2) σ.1 σ.2.1=some cl) (λσ=>[(0,rP hb 0),(2,rB false),(3,rB r1.1),(5,rS ([125]:Ag)),(6,Am (x16.length:Int)),(7,rS σ.2.1.1),(8,Am σ.2.1.2.1)]) (λσ=>[.blk hb [rS σ.2.1.2.2.1,Am σ.2.1.2.2.2.1,rv σ.2.2,rB σ.2.1.2.2.2.2.2] 127,.row σ.2.2 78 4 (AE Ab σ.2.1.2.2.2.2.1)]) (λσ=>σ.1) (F,(([]:Ag),1,hz.2.fS,hz.2.fAt,hz.2.fCells,hz.2.fGreat),gi) cm (AD.c rfl (AD.c rfl (AD.c5 rfl rfl rfl rfl rfl AD.nil))) (sC (sC (sS sN))) (λσ=>GA =some r) (λσ=>[]) (λσ=>[]) ?_ ?_))))))))
     ·rintro⟨xc,⟨hg,hm,hS,hT,hU,hV⟩,hW⟩ cn;refine BY (l':=[(0,rP hb 0),(2,rB false),(3,rB r1.1),(5,rS ([125]:Ag)),(6,Am (x16.length:Int)),(7,rS hg),(8,Am hm)]) (H':=[.blk hb [rS hS,Am hT,rv hW,rB hV] 127,.row hW 78 4 (AE Ab hU)]) rfl rfl ?_;obtain⟨co,rfl,hX,hD,h0⟩:=CO cn;replace hD:Ec F hh x16 hg hm hS hT hU hV=some hX:=hD;unfold Ec at hD;refine Ao (AK (Ao (Ah (wm rfl (wv (Cj rfl) (Aq (E8 rfl (Aar hJ) (Ah (wm rfl (ob hD λha cp cq=>DY (Hr:=[]) Tryz.call135 (Sr F hb hW (Ak.mk hS hT hU hV) ha cp) rfl (Abo _) rfl ?_))))))))));rintro _ _ ⟨hE,rfl,rfl⟩;refine wm rfl (wv (AF rfl rfl) (wv (AF rfl rfl) (wa rfl (wa rfl (Aq (Ao (CE (S:=(Bool×Bool×Bool×Ag×Int×(List Aa)×Bool)×(Value)) (λσ=>BW hh x16 hm ha σ.1.1 σ.1.2.1 σ.1.2.2.1 σ.1.2.2.2.1 σ.1.2.2.2.2.1 σ.1.2.2.2.2.2.1 σ.1.2.2.2.2.2.2=some hX) (λσ=>[(0,rP hb 0),(2,rB false),(3,rB r1.1),(5,rS ([125]:Ag)),(6,Am (x16.length:Int)),(7,rS hg),(8,Am hm),(9,rS ha.1),(10,rB ha.2.1),(44,rB r1.1),(45,rB (!r1.1)),(46,C2 [rS ha.1,rB ha.2.1]),(47,rP hb 0),(48,C2 [rS ha.1,rB ha.2.1]),(49,rS ha.1),(50,rB ha.2.1),(51,rB ha.2.1),(52,rB (!ha.2.1)),(53,rB (!ha.2.1)),(61,rB σ.1.1),(62,rB σ.1.2.1),(66,rB σ.1.2.2.1)]) (λσ=>[.blk hb [rS σ.1.2.2.2.1,Am σ.1.2.2.2.2.1,rv σ.2,rB σ.1.2.2.2.2.2.2] 127,.row σ.2 78 4 (AE Ab σ.1.2.2.2.2.2.1)]) ?_ ?_)))))))
      ·refine An (wm rfl (wv (Cj rfl) (wm rfl (bz cq (λhf cr=>?_) (λhf cs=>?_)))))
       ·exact wf hf (wf hf (wf hf (wu (wu (wu (wf hf (wv (r:=rB true) (A7 rfl hf rfl) (wm rfl (wz rfl rfl (wz rfl rfl (wz rfl rfl (wv (r:=rB true) (A7 (b:=true) rfl rfl rfl) (At (A4 (AG ((true,true,true,ha.2.2.fS,ha.2.2.fAt,ha.2.2.fCells,ha.2.2.fGreat),hE) cr (AD.c rfl (AD.c rfl (AD.c5 rfl rfl rfl rfl rfl (AD.c5 rfl rfl rfl rfl rfl (AD.c5 rfl rfl rfl rfl rfl (AD.c5 rfl rfl rfl rfl rfl AD.nil)))))) (sC (sC sN)))))))))))))))))
       ·refine wo hf (wm rfl (wo hf (wv (DM rfl rfl) (wo hf (wm rfl (bz cs (λhn ct=>?_) (λhn cu=>?_)))))))
        ·refine wo hn (wm rfl (wo hn (wm rfl (wo hn (wv (VO rfl rfl) (wo hf (Kf rfl hn rfl (Lf rfl hf rfl (wm rfl (bz ct (λho cv=>?_) (λho cw=>?_)))))))))))
         ·exact wf ho (wf ho (wf ho (wv (r:=rB true) (A7 rfl ho rfl) (At (A4 (AG ((B3 ha.1 hg||decide (ha.1=hg),B3 ha.1 hg||decide (ha.1=hg),true,ha.2.2.fS,ha.2.2.fAt,ha.2.2.fCells,ha.2.2.fGreat),hE) cv (AD.c rfl (AD.c rfl (AD.c5 rfl rfl rfl rfl rfl (AD.c5 rfl rfl rfl rfl rfl (AD.c5 rfl rfl rfl rfl rfl (AD.c5 rfl rfl rfl rfl rfl AD.nil)))))) (sC (sC sN))))))))
         ·refine wo ho (wm rfl (wo ho (ob cw λht cx cy=>DY (Hr:=[]) G4 (Df hb hE ha.2.2 ([58]:Ag) ht cx) rfl (Abo _) rfl ?_)));rintro _ _ ⟨c0,rfl,rfl⟩;exact wo ho (wv (Cj rfl) (Lf rfl ho rfl (At (A4 (AG ((B3 ha.1 hg||decide (ha.1=hg),B3 ha.1 hg||decide (ha.1=hg),!ht.1,ht.2.fS,ht.2.fAt,ht.2.fCells,ht.2.fGreat),c0) cy (AD.c rfl (AD.c rfl (AD.c5 rfl rfl rfl rfl rfl (AD.c5 rfl rfl rfl rfl rfl (AD.c5 rfl rfl rfl rfl rfl (AD.c5 rfl rfl rfl rfl rfl AD.nil)))))) (sC (sC sN)))))))
        ·refine wf hn (wf hn (wf hn (wo hf (wv (r:=rB false) (AM rfl hn rfl) (Lf rfl hf rfl (wm rfl (Bg (b:=false) rfl rfl rfl (wm rfl (Bg (b:=false) rfl rfl rfl (ob cu λhp c1 c2=>DY (Hr:=[]) G4 (Df hb hE ha.2.2 ([58]:Ag) hp c1) rfl (Abo _) rfl ?_))))))))));rintro _ _ ⟨c3,rfl,rfl⟩;exact Bg (b:=false) rfl rfl rfl (wv (Cj rfl) (wv (r:=rB (!hp.1)) (AM (b:=false) rfl rfl rfl) (At (A4 (AG ((false,false,!hp.1,hp.2.fS,hp.2.fAt,hp.2.fCells,hp.2.fGreat),c3) c2 (AD.c rfl (AD.c rfl (AD.c5 rfl rfl rfl rfl rfl (AD.c5 rfl rfl rfl rfl rfl (AD.c5 rfl rfl rfl rfl rfl (AD.c5 rfl rfl rfl rfl rfl AD.nil)))))) (sC (sC sN)))))))
      ·rintro⟨⟨gj,gk,gl,h1,h3,h4,h5⟩,hY⟩ hG;refine BY (l':=[(0,rP hb 0),(2,rB false),(3,rB r1.1),(5,rS ([125]:Ag)),(6,Am (x16.length:Int)),(7,rS hg),(8,Am hm),(9,rS ha.1),(10,rB ha.2.1),(44,rB r1.1),(45,rB (!r1.1)),(46,C2 [rS ha.1,rB ha.2.1]),(47,rP hb 0),(48,C2 [rS ha.1,rB ha.2.1]),(49,rS ha.1),(50,rB ha.2.1),(51,rB ha.2.1),(52,rB (!ha.2.1)),(53,rB (!ha.2.1)),(61,rB gj),(62,rB gk),(66,rB gl)]) (H':=[.blk hb [rS h1,Am h3,rv hY,rB h5] 127,.row hY 78 4 (AE Ab h4)]) rfl rfl ?_;replace hG:BW hh x16 hm ha gj gk gl h1 h3 h4 h5=some hX:=hG;unfold BW at hG;refine cz hG rfl (λc4 c6=>?_) (λc4 c7=>?_)
       ·refine Ah (wa rfl (Aq (Ay (Ac (Ac (A0 (Ac (Ac (AX ?_)))))))));have c8:=B2 c6 h0 hC;refine A0 ?_;obtain rfl:=Az c8;exact Ax (Ct J6 (AL rfl)) (sC (sC sN)) ⟨hY,rfl,rfl⟩
       ·refine A2 (AP (Ah (wm rfl (wa rfl (Aq (An (wm rfl (wm rfl (wv (Ar rfl) (vF Br rfl CS (vL 0 G5 rfl (wm rfl (wv (r:=BC [Am 4,Am 0,rS ha.1,Am 0]) (JD rfl rfl rfl rfl) (AW (ys:=([(Aa.mk 4 0 ha.1 0)]:List Aa)) (enc:=Ab) (css:=[[Am 4,Am 0,rS ha.1,Am 0]]) (xs:=[.tmp 74]) CJ DR Me rfl rfl rfl ⟨GR.agg ⟨Up.refl _,Up.refl _,Up.refl _,Up.refl _,trivial⟩,trivial⟩ rfl Bo rfl rfl rfl (λh6=>?_)))))))))))))));refine ck c7 λc9 cA=>Exists.elim Ie λinf hinf=>Cb (xs:=h4) (ys:=([(Aa.mk 4 0 ha.1 0)]:List Aa)) (enc:=Ab) (i:=2) CJ hinf.1 hinf.2.1 hinf.2.2.1 hinf.2.2.2 rfl rfl rfl rfl rfl (LD.w (i:=0) rfl rfl) Bo Cw c9 rfl (λhH=>?_);refine wv (Ar rfl) (vF Br rfl CS (B5 (i:=2) CS rfl rfl (DL (i:=0) rfl) rfl rfl (cs':=[rS h1,Am h3,rv hH,rB h5]) rfl (H':=[.row hH 78 4 (AE Ab (h4++([(Aa.mk 4 0 ha.1 0)]:List Aa))),.row (.slice (some ⟨h6,0,none⟩) 1 1) 78 4 (AE Ab ([(Aa.mk 4 0 ha.1 0)]:List Aa)),.blk hb [rS h1,Am h3,rv hH,rB h5] 127]) rfl (Aq (Ao (Ah (wm rfl (ob cA λhe cB cC=>DY (Hr:=[.row (.slice (some ⟨h6,0,none⟩) 1 1) 78 4 (AE Ab ([(Aa.mk 4 0 ha.1 0)]:List Aa))]) Tryz.call100 (ga hb hH (Ak.mk h1 h3 (h4++([(Aa.mk 4 0 ha.1 0)]:List Aa)) h5) he cB) rfl ((Aj (i:=2) rfl).trans (Abn _ (Abo _))) rfl ?_)))))));rintro _ _ ⟨hu,rfl,rfl⟩;refine wv (Cj rfl) (Aq (cz cC rfl (λcD cE=>?_) (λcD cF=>?_)))
        ·refine Ah (wa rfl (Aq (Ay (Ac (A0 (Ac (Ac (AX ?_))))))));have cG:=B2 cE h0 hC;refine A0 ?_;obtain rfl:=Az cG;exact Ax (Ct J6 (AL rfl)) (sC (sC (sS sN))) ⟨hu,rfl,rfl⟩
        ·refine A2 (AP (Ah (wm rfl (wv (Ar rfl) (vF Br rfl CS (vL 0 G5 rfl (wm rfl (wm rfl (ck cF λhZ cH=>wv (r:=rv (EY 4 hu (Bt (x16.length:Int)) 0)) (JW (i:=1) CJ DR rfl rfl rfl (BI hZ)) (wv (r:=rv (EY 4 hu (Bt (x16.length:Int)) 3)) (Ev (k:=1) Cp rfl CD rfl (BI hZ) rfl rfl rfl) (I6 (enc:=Ab) (ys:=he.2.fCells) (y':=(Aa.mk ((Ap he.2.fCells (x16.length:Int)).fKind) ((Ap he.2.fCells (x16.length:Int)).fInt) ((Ap he.2.fCells (x16.length:Int)).fStr) hm)) (i:=1) (j:=(x16.length:Int)) CD rfl rfl (Cu rfl) rfl hZ rfl rfl (H':=[.blk hb [rS he.2.fS,Am he.2.fAt,rv hu,rB he.2.fGreat] 127,.row hu 78 4 (AE Ab (List.set he.2.fCells (Bt (x16.length:Int)) (Aa.mk ((Ap he.2.fCells (x16.length:Int)).fKind) ((Ap he.2.fCells (x16.length:Int)).fInt) ((Ap he.2.fCells (x16.length:Int)).fStr) hm))),.row (.slice (some ⟨h6,0,none⟩) 1 1) 78 4 (AE Ab ([(Aa.mk 4 0 ha.1 0)]:List Aa))]) rfl (bd cH λcI cJ cK=>?_))))))))))));rw[← cJ];refine Aq (Ao (Ah (wm rfl (wm rfl (ob cK λgm cL cM=>DY (Hr:=[.row (.slice (some ⟨h6,0,none⟩) 1 1) 78 4 (AE Ab ([(Aa.mk 4 0 ha.1 0)]:List Aa))]) G4 (Df hb hu (Ak.mk he.2.fS he.2.fAt cI he.2.fGreat) ([125]:Ag) gm cL) rfl (Abo _) rfl ?_)))));rintro _ _ ⟨gn,rfl,rfl⟩;refine Aq (cz cM rfl (λcN cO=>?_) (λcN cP=>?_))
         ·refine Ah (wa rfl (Aq (Ay (Ac (A0 (Ac (Ac (AX ?_))))))));have cQ:=B2 cO h0 hC;refine A0 ?_;obtain rfl:=Az cQ;exact Ax (Ct J6 (AL rfl)) (sC (sC (sS sN))) ⟨gn,rfl,rfl⟩
         ·refine A2 (AP (Ah (wm rfl (ob cP λh7 cR cS=>DY (Hr:=[.row (.slice (some ⟨h6,0,none⟩) 1 1) 78 4 (AE Ab ([(Aa.mk 4 0 ha.1 0)]:List Aa))]) G4 (Df hb gn gm.2 ([44]:Ag) h7 cR) rfl (Abo _) rfl ?_))));rintro _ _ ⟨gp,rfl,rfl⟩;refine wv (Cj rfl) (Aq (cz cS rfl (λcT cU=>?_) (λcT cV=>?_)))
          ·refine Ah (wa rfl (Aq (Ay (A0 (Ac (Ac (AX ?_)))))));have cW:=B2 cU h0 hC;refine A0 ?_;obtain rfl:=Az cW;exact Ax (Ct J6 (AL rfl)) (sC (sC (sS sN))) ⟨gp,rfl,rfl⟩
          ·refine A2 (AJ (AP (An (wm rfl (ck cV λcX cY=>wv (BL rfl rfl cX) (wa rfl (At ?_)))))));have cZ:=B6 cY h0;exact A4 (AG (co,(ha.1,hm+1,h7.2.fS,h7.2.fAt,h7.2.fCells,h7.2.fGreat),gp) ⟨cZ,Ab1 _⟩ (AD.c rfl (AD.c rfl (AD.c5 rfl rfl rfl rfl rfl AD.nil))) (sC (sC (sS sN))))
     ·rintro⟨⟨⟩,⟨⟩⟩ xa
      cases xa
theorem LL:∀F:Nat,(∀(ha:Nat) (hb:Value) (q:Ak) (r:Bool×Ak),Cc F q=some r→Fn Tryz.prog GE 100 [rP ha 0] [.blk ha [rS q.fS,Am q.fAt,rv hb,rB q.fGreat] 127,.row hb 78 4 (AE Ab q.fCells)] (λR H=>∃w0_2:Value,R=rB r.1∧H=[.blk ha [rS r.2.fS,Am r.2.fAt,rv w0_2,rB r.2.fGreat] 127,.row w0_2 78 4 (AE Ab r.2.fCells)]))
  | 0=>(λ_ _ _ _ h=>by simp[Cc] at h)
  | nn+1=>(λha hb q r h=>Rt nn (Cc nn) (LL nn) ha hb q r (by rw[Cc] at h;exact h))
theorem Tv (F:Nat)(ha:Nat)(hb:Value)(q:Ak)(r:Bool×Ak)(h:Cc F q=some r):Fn Tryz.prog GE 100 [rP ha 0] [.blk ha [rS q.fS,Am q.fAt,rv hb,rB q.fGreat] 127,.row hb 78 4 (AE Ab q.fCells)] (λR H=>∃w0_2:Value,R=rB r.1∧H=[.blk ha [rS r.2.fS,Am r.2.fAt,rv w0_2,rB r.2.fGreat] 127,.row w0_2 78 4 (AE Ab r.2.fCells)]):=(LL F) ha hb q r h
theorem Tz (F:Nat)(s:Ag)(r:(List Aa)×Int)(h:Ks F s=some r):Fn Tryz.prog GE 74 [rS s] [] (λR H=>R=C2 [AU 4 (AE Ab r.1),Am r.2]∧H=[]):=by
 refine enter (n:=34) Tryz.func74 rfl Tryz.ntmps74 rfl (λw Z=>?_);unfold Ks at h;refine Ah (wa rfl (wa rfl (Aq (Ao (Ah (wm rfl (wv (Bv C3 rfl) (wv (DM rfl rfl) (Aq (cz h rfl (λc1 h2=>?_) (λc1 h3=>?_)))))))))))
 ·refine Ah (wa rfl (wa rfl (Aq (Ay (Ac (WK.up (d:=2) (r:=AU 4 (AE Ab ([]:List Aa))) rfl (Up.le (Iw.nil _)) ?_))))));obtain rfl:=Az h2;exact Ax (EB X3 (AL rfl) (AL rfl)) sN ⟨rfl,rfl⟩
 ·refine A2 (AP (Ah (wm rfl (wv (r:=BC [rS s,Am 0,rv (.slice none 0 0),rB false]) (Pq rfl rfl) (Ej rfl rfl (λb4=>?_))))));refine wa rfl (Aq (Ao (CE (S:=(Bool×Ag×Int×(List Aa)×Bool)×(Value)) (λσ=>EA F σ.1.1 σ.1.2.1 σ.1.2.2.1 σ.1.2.2.2.1 σ.1.2.2.2.2=some r) (λσ=>[(2,rv (.slice none 0 0)),(3,Am 0),(4,rP b4 0),(22,rB σ.1.1)]) (λσ=>[.blk b4 [rS σ.1.2.1,Am σ.1.2.2.1,rv σ.2,rB σ.1.2.2.2.2] 127,.row σ.2 78 4 (AE Ab σ.1.2.2.2.1)]) ?_ ?_)))
  ·refine An (wm rfl (WL.nilrow (e:=78) (sz:=4) (ob h3 λhb hk hl=>DY (Hr:=[]) Tryz.call100 (Tv F b4 (.slice none 0 0                                                                              ) (Ak.mk s 0 ([]:List Aa) false) hb hk) rfl ((Aj (i:=1) rfl).trans (Abn _ (Abo _))) rfl ?_)));rintro _ _ ⟨v21,rfl,rfl⟩;refine wv (Cj rfl) (wm rfl (bz hl (λha hm=>?_) (λha hn=>?_)))
   ·exact wf ha (wf ha (wf ha (wf ha (wf ha (wf ha (wf ha (wv (r:=rB true) (A7 rfl ha rfl) (At (A4 (AG ((true,hb.2.fS,hb.2.fAt,hb.2.fCells,hb.2.fGreat),v21) hm (AD.c rfl (AD.c rfl (AD.c rfl (AD.c rfl AD.nil)))) (sC (sC sN))))))))))))
   ·exact wo ha (wm rfl (wo ha (wv (Ar rfl) (wo ha (vF Br rfl CD (wo ha (vL 0 Du rfl (wo ha (wm rfl (wo ha (wv (Bv C3 rfl) (wo ha (wv (Dj rfl rfl) (Lf rfl ha rfl (At (A4 (AG ((!decide (hb.2.fAt=(s.length:Int)),hb.2.fS,hb.2.fAt,hb.2.fCells,hb.2.fGreat),v21) hn (AD.c rfl (AD.c rfl (AD.c rfl (AD.c rfl AD.nil)))) (sC (sC sN)))))))))))))))))))
  ·rintro⟨⟨hf,hg,hh,hd,hi⟩,hj⟩ he;refine BY (l':=[(2,rv (.slice none 0 0)),(3,Am 0),(4,rP b4 0),(22,rB hf)]) (H':=[.blk b4 [rS hg,Am hh,rv hj,rB hi] 127,.row hj 78 4 (AE Ab hd)]) rfl rfl ?_;replace he:EA F hf hg hh hd hi=some r:=he;unfold EA at he;refine cz he rfl (λho hp=>?_) (λho hq=>?_)
   ·refine Ah (wa rfl (wa rfl (Aq (Ay (Ac (WK.up (d:=2) (r:=AU 4 (AE Ab ([]:List Aa))) rfl (Up.le (Iw.nil _)) ?_))))));obtain rfl:=Az hp;exact Ax (EB X3 (AL rfl) (AL rfl)) (sS (sS sN)) ⟨rfl,rfl⟩
   ·refine A2 (AP (Ao (Ah (wm rfl (wv (Ar rfl) (vF Br rfl GW (vL 0 PM rfl (Aq (cz hq rfl (λhr hs=>?_) (λhr ht=>?_))))))))))
    ·refine Ah (wa rfl (wa rfl (Aq (Ay (Ac (WK.up (d:=2) (r:=AU 4 (AE Ab ([]:List Aa))) rfl (Up.le (Iw.nil _)) ?_))))));obtain rfl:=Az hs;exact Ax (EB X3 (AL rfl) (AL rfl)) (sS (sS sN)) ⟨rfl,rfl⟩
    ·refine A2 (AP (Ah (wm rfl (wv (Ar rfl) (vF Br rfl CS (vL 0 G5 rfl (WL.freeze (i:=1) rfl (WL.up (d:=30) (r:=AU 4 (AE Ab hd)) rfl (Up.fact (i:=0) rfl) (ob ht λhu hw hx=>Gb Tryz.call101 (Rx F hd hu hw) rfl (wv (AF rfl rfl) (wv (AF rfl rfl) (wa rfl (wa rfl (Aq (Ay ?_)))))))))))))));obtain rfl:=Az hx;exact Ax (EB X3 (AL rfl) (AL rfl)) (sS (sS sN)) ⟨rfl,rfl⟩
end Go.Proofs.YtjfnokmpfekniaaGreatDoor.Q
namespace Go.Proofs.YtjfnokmpfekniaaGreatDoor
open Go
set_option linter.unusedVariables false
end Go.Proofs.YtjfnokmpfekniaaGreatDoor
namespace Go.Proofs.YtjfnokmpfekniaaGreatDoor.Q
open Go Go.RowKit
set_option linter.unusedVariables false
set_option linter.unusedSimpArgs false
set_option maxRecDepth 100000
set_option maxHeartbeats 4000000
end Go.Proofs.YtjfnokmpfekniaaGreatDoor.Q
namespace Go.Proofs.YtjfnokmpfekniaaGreatDoor
open Go
set_option linter.unusedVariables false
end Go.Proofs.YtjfnokmpfekniaaGreatDoor
namespace Go.Proofs.YtjfnokmpfekniaaGreatDoor.Q
open Go Go.RowKit
set_option linter.unusedVariables false
set_option linter.unusedSimpArgs false
set_option maxRecDepth 100000
set_option maxHeartbeats 4000000
end Go.Proofs.YtjfnokmpfekniaaGreatDoor.Q
namespace Go.Proofs.YtjfnokmpfekniaaGreatDoor
open Go
set_option linter.unusedVariables false
set_option linter.unusedSimpArgs false
section
variable {T S : Type}
def Bl:List (Ag×T)→Ag→Option T
 | [],_=>none
 | p::r,k=>bif decide (p.1=k) then some p.2 else Bl r k
def Cn (xs:List (Ag×T))(k:Ag)(z:T):T:=(Bl xs k).getD z
def Ce (xs:List (Ag×T))(k:Ag):Bool:=(Bl xs k).isSome
def mins (k:Ag)(v:T):List (Ag×T)→List (Ag×T)
 | []=>[(k,v)]
 | p::r=>bif B3 k p.1 then(k,v)::p::r else p::mins k v r
def mput (xs:List (Ag×T))(k:Ag)(v:T):List (Ag×T):=xs.map λp=>bif decide (p.1=k) then(k,v) else p
def mset (xs:List (Ag×T))(k:Ag)(v:T):List (Ag×T):=bif Ce xs k then mput xs k v else mins k v xs
def mdel (xs:List (Ag×T))(k:Ag):List (Ag×T):=xs.filter λp=>!decide (p.1=k)
def AH (f:T→S)(xs:List (Ag×T)):List (Ag×S):=xs.map λp=>(p.1,f p.2)
theorem KH (f:T→S):∀(xs:List (Ag×T)) (k:Ag),Bl (AH f xs) k=(Bl xs k).map f
 | [],k=>rfl
 | p::r,k=>by
  show(bif decide (p.1=k) then some (f p.2) else Bl (AH f r) k)=_;rw[Bl,KH f r k]
  cases decide (p.1=k)<;>rfl
theorem VZ (f:T→S)(xs:List (Ag×T))(k:Ag):Ce (AH f xs) k=Ce xs k:=by
 unfold Ce;rw[KH];cases Bl xs k<;>rfl
theorem Q7 (f:T→S)(k:Ag)(v:T):∀xs:List (Ag×T),AH f (mins k v xs)=mins k (f v) (AH f xs)
 | []=>rfl
 | p::r=>by
  show AH f (bif B3 k p.1 then(k,v)::p::r else p::mins k v r)=(bif B3 k p.1 then(k,f v)::(p.1,f p.2)::AH f r else(p.1,f p.2)::mins k (f v) (AH f r));rw[← Q7 f k v r]
  cases B3 k p.1<;>rfl
theorem VX (f:T→S)(xs:List (Ag×T))(k:Ag)(v:T):AH f (mset xs k v)=mset (AH f xs) k (f v):=by
 unfold mset;rw[VZ]
 cases Ce xs k with
 | false=>exact Q7 f k v xs
 | true=>
  show AH f (mput xs k v)=mput (AH f xs) k (f v);unfold AH mput;rw[Ace,Ace];refine List.map_congr_left λp _=>?_;show _=(bif decide (p.1=k) then(k,f v) else(p.1,f p.2));simp only[Function.comp]
  cases decide (p.1=k)<;>rfl
theorem Wa (f:T→S)(xs:List (Ag×T))(k:Ag):AH f (mdel xs k)=mdel (AH f xs) k:=by
 unfold AH mdel;rw[List.filter_map];rfl
theorem Hb (f:T→S)(xs:List (Ag×T)):(AH f xs).length=xs.length:=by simp[AH]
theorem Ls (k:Ag)(v:T):∀xs:List (Ag×T),(mins k v xs).Perm ((k,v)::xs)
 | []=>Abo _
 | p::r=>by
  rw[mins]
  cases B3 k p.1 with
  | true=>exact Abo _
  | false=>exact((Ls k v r).cons p).trans (List.Perm.swap _ _ _)
def Gq (x:T):List T→List (List T)
 | []=>[[x]]
 | y::r=>(x::y::r)::(Gq x r).map (y::·)
def JB:List T→List (List T)
 | []=>[[]]
 | x::r=>(JB r).flatMap (Gq x)
theorem LU (x:T):∀(a b:List T),a++x::b∈Gq x (a++b)
 | [],[]=>by simp[Gq]
 | [],y::b=>by simp[Gq]
 | y::a,b=>by
  simp only[AbP,Gq,Acd,List.mem_map];exact .inr ⟨_,LU x a b,rfl⟩
theorem O5:∀(xs ys:List T),ys.Perm xs→ys∈JB xs
 | [],ys,h=>by rw[h.eq_nil];simp[JB]
 | x::r,ys,h=>by
  have hx:x∈ys:=h.symm.subset (List.mem_cons_self ..);obtain⟨a,b,rfl⟩:=List.append_of_mem hx;have h2:(a++b).Perm r:=(List.perm_middle.symm.trans h).cons_inv;simp only[JB,List.mem_flatMap];exact⟨a++b,O5 r _ h2,LU x a b⟩
def VY {R:Type}[DecidableEq R](xs:List T)(K:List T→Option R):Option R:=match K xs with
 | none=>none
 | some r=>bif (JB xs).all (λp=>decide (K p=some r)) then some r else none
theorem Zu {R:Type}[DecidableEq R]{xs:List T}{K:List T→Option R}{r:R}(h:VY xs K=some r):∀p:List T,p.Perm xs→K p=some r:=λp hp=>by
 unfold VY at h
 cases hk:K xs with
 | none=>rw[hk] at h;cases h
 | some q=>
  rw[hk] at h;simp only at h
  cases ha:(JB xs).all (λp=>decide (K p=some q)) with
  | false=>rw[ha] at h;cases h
  | true=>
   rw[ha] at h;cases h;exact Abt (List.all_eq_true.1 ha p (O5 xs p hp))
theorem HB (x:T):∀(xs ys:List T),ys∈Gq x xs→ys.Perm (x::xs)
 | [],ys,h=>by simp[Gq] at h;rw[h]
 | y::r,ys,h=>by
  simp only[Gq,Acd,List.mem_map] at h;rcases h with rfl | ⟨z,hz,rfl⟩
  ·exact Abo _
  ·exact((HB x r z hz).cons y).trans (List.Perm.swap _ _ _)
theorem Nc:∀(xs ys:List T),ys∈JB xs→ys.Perm xs
 | [],ys,h=>by simp[JB] at h;rw[h]
 | x::r,ys,h=>by
  simp only[JB,List.mem_flatMap] at h;obtain⟨z,hz,hy⟩:=h;exact(HB x z ys hy).trans ((Nc r z hz).cons x)
theorem Zt {R:Type}[DecidableEq R]{xs:List T}{K:List T→Option R}{r:R}(h:∀p:List T,p.Perm xs→K p=some r):VY xs K=some r:=by
 unfold VY;rw[h xs (Abo _)];have:(JB xs).all (λp=>decide (K p=some r))=true:=List.all_eq_true.2 λp hp=>Abm (h p (Nc xs p hp));simp only[this];rfl
def Uf {St O:Type}(body:T→St→Option (Stp St (Out O St))):List T→St→Option (Out O St)
 | [],s=>some (.go s)
 | x::r,s=>match body x s with
  | none=>none
  | some (.next s')=>Uf body r s'
  | some (.out o)=>some o
def AaC {St R:Type}(body:T→St→Option (Stp St (Out R St)))(ys:List T)(K:St→Option R)(r:R):Stp St (Out R St)→Prop
 | .next s'=>∀q:List T,q.Perm ys→Bi (Uf body q s') (By K)=some r
 | .out o=>By K o=some r
theorem Aas {St R:Type}{body:T→St→Option (Stp St (Out R St))}{ys ys':List T}{p:T}{s:St}{K:St→Option R}{r:R}(h:∀q:List T,q.Perm ys→Bi (Uf body q s) (By K)=some r)(hp:ys.Perm (p::ys')):∃t,body p s=some t∧AaC body ys' K r t:=by
 have h1:∀q:List T,q.Perm ys'→Bi (Uf body (p::q) s) (By K)=some r:=λq hq=>h _ ((hq.cons p).trans hp.symm)
 cases hb:body p s with
 | none=>
  have:=h1 ys' (Abo _);rw[Uf,hb] at this;cases this
 | some t=>
  refine⟨t,rfl,?_⟩
  cases t with
  | next s'=>
   intro q hq;have:=h1 q hq;rw[Uf,hb] at this;exact this
  | out o=>
   have:=h1 ys' (Abo _);rw[Uf,hb] at this;exact this
theorem Yg {St R:Type}{body:T→St→Option (Stp St (Out R St))}{ys:List T}{s:St}{K:St→Option R}{r:R}(h:∀q:List T,q.Perm ys→Bi (Uf body q s) (By K)=some r)(hy:ys=[]):K s=some r:=by
 subst hy;exact h [] (Abo _)
theorem O7 {St R:Type}{body:T→St→Option (Stp St (Out R St))}{ys:List T}{s':St}{K:St→Option R}{r:R}{t:Stp St (Out R St)}(h:some (Stp.next s')=some t)(ht:AaC body ys K r t):∀q:List T,q.Perm ys→Bi (Uf body q s') (By K)=some r:=by cases h;exact ht
theorem SC {ys ys':List T}{p:T}(h:ys.Perm (p::ys')):ys'.length<ys.length:=by rw[h.length_eq];exact Ab1 _
end
end Go.Proofs.YtjfnokmpfekniaaGreatDoor
namespace Go.Proofs.YtjfnokmpfekniaaGreatDoor.Q
open Go Go.RowKit
set_option linter.unusedVariables false
set_option linter.unusedSimpArgs false
def rBx (p:Bool→Prop):Rp:=⟨λ_ v=>∃b,v = .bool b∧p b,λ_ h=>h,true,λ_ Z v ⟨b,e,_⟩=>by rw[e];rfl⟩
section
variable {P : Program} {n : Nat} {c : Cx} {ops : Array Oper} {Q : Exit → Act → World → Prop} {rest : List Oper} {l : Fr} {H : List Ent} {d : Option Nat} {ty rty t e : TypeId} {pos : String} {af : Array Edge} {g : Option (Nat × Bool)} {r : Rp} {x : Operand} {cx cy : Code} {sz : Nat} {xs : List (List Rp)}
theorem Vb {o:Operand}{p:Bool→Prop}(ho:ev l o=some (rBx p))(h1:p true→WC P n c cx Q l H)(h2:p false→WC P n c cy Q l H):WC P n c (.cond o cx cy) Q l H:=λa w Z ha hw=>by
 obtain⟨b,e,hp⟩:=ha.ev ho;exact wp_cond_split e (λe=>h1 (e▸hp) a w Z ha hw) (λe=>h2 (e▸hp) a w Z ha hw)
theorem TO (ht:P.underlying t=some (.slice e))(h:ev l x=some (AU sz xs)):Bb P n c l H { dst:=d,op:=.binOp .eql t x (.const (.slice none 0 0)) rty,type:=ty,pos:=pos,after:=af,guard:=g } (rBx (λb=>b=true→xs=[])):=λa w Z ha hw=>by
 obtain⟨A,cap,e1,h1,h2,h3,h4⟩:=ha.ev h;refine⟨.bool A.isNone,⟨_,rfl,λhb=>?_⟩,?_⟩
 ·cases A with
  | some a=>cases hb
  | none=>
   have:=h3 rfl;exact List.length_eq_zero_iff.1 (by omega)
 ·have:=run_equal_slice_nil (P:=P) w t e A xs.length cap ht;have e2:a.eval (.const (.slice none 0 0)) = .slice none 0 0:=rfl;simp[execOp,e1,e2,binOp,this,eqGuard]
end
section
variable {P : Program} {n : Nat} {c : Cx} {l : Fr} {H : List Ent} {d : Option Nat} {ty rty t e : TypeId} {pos : String} {af : Array Edge} {g : Option (Nat × Bool)} {x : Operand} {sz : Nat}
end
end Go.Proofs.YtjfnokmpfekniaaGreatDoor.Q
