/-
  Texts of the proof, put together: IdA, PlB, IdB, PlC, IdC, ShelfV, PlD, PlE, FwJ, IdR, QG, QO, RowQ, PQB, WQB, PVa, WVa, PVb, WVb, PVc, WVc, PVd.
-/
import Derived.Test.YtjfnokmpfekniaaGreatDoorKM1
import Derived.Test.YtjfnokmpfekniaaGreatDoorProg
import Derived.Lib.Bytealg
import Derived.Lib.AtoiAllCases
import Derived.Lib.ItoaNum
import Derived.Lib.ItoaLen
import Derived.Shelf.Strings.Builder1
import Derived.Shelf.Strings.Count
import Derived.Shelf.Strings.Search1
import Derived.Shelf.Strings.Search2
import Derived.Shelf.Strings.Search3
import Derived.Shelf.Small.Strs
import Derived.Shelf.LaysM
import Derived.Shelf.LaysC
import Derived.Lib.ItoaMem
import Derived.Deep.Slices
import Derived.ChangeArms
import Derived.DataReads
import Derived.Laws.Tables
import Derived.Lib.SmallJoins
namespace Go.Proofs.YtjfnokmpfekniaaGreatDoor
open Go Go.RowKit
set_option linter.unusedVariables false
set_option linter.unusedSimpArgs false
set_option maxRecDepth 100000
theorem AaG (c:Int)(w:World):Calls Tryz.prog 142 [.int .i32 (c)].toArray w (LI w (.bool (MR c))):=by
 refine IM (n:=9) Tryz.func142 rfl Tryz.ntmps142 rfl (Ai (Ag (A9 (Aw rfl) rfl (Aj (Av (AZ ?_))))));refine A8 [(2,.bool (((decide ((97)≤(c)))&&(decide ((c)≤(122))))))] [] (φ:=True) ?_ (λhm1=>?_)
 ·refine Ag (A9 (Ap rfl) rfl (A9 (Ga rfl rfl) rfl (A9 (Ap rfl) rfl (AN (decide ((97)≤(c))) (λh1=>?_) (λh1=>?_)))))
  ·have g1:=h1;try simp only[Aed,Aee] at g1
   refine Bj rfl rfl h1 (A9 (Ap rfl) rfl (Bj rfl rfl h1 (A9 (Lh rfl rfl) rfl (A9 (A1 rfl h1 rfl) rfl (A9 (Aw rfl) rfl (Aj ?_))))));exact Av (BK trivial ⟨fb (by simp[h1]),trivial⟩ .slnil)
  ·have g1:=h1;try simp only[Aed,Aee] at g1
   refine AO rfl rfl h1 rfl (AO rfl rfl h1 rfl (A9 (A6 rfl h1 rfl) rfl (A9 (Aw rfl) rfl (Aj ?_))));exact Av (BK trivial ⟨fb (by simp[h1]),trivial⟩ .slnil)
 refine As (Ar (Cb rfl rfl) ?_);exact I0 (by first | rfl | simp[])
theorem Ab5 (c:Int)(w:World):Calls Tryz.prog 143 [.int .i32 (c)].toArray w (LI w (.bool (Np c))):=by
 refine IM (n:=9) Tryz.func143 rfl Tryz.ntmps143 rfl (Ai (Ag (A9 (Aw rfl) rfl (Aj (Av (AZ ?_))))));refine A8 [(2,.bool (((decide ((48)≤(c)))&&(decide ((c)≤(57))))))] [] (φ:=True) ?_ (λhm3=>?_)
 ·refine Ag (A9 (Ap rfl) rfl (A9 (Ga rfl rfl) rfl (A9 (Ap rfl) rfl (AN (decide ((48)≤(c))) (λh3=>?_) (λh3=>?_)))))
  ·have g3:=h3;try simp only[Aed,Aee] at g3
   refine Bj rfl rfl h3 (A9 (Ap rfl) rfl (Bj rfl rfl h3 (A9 (Lh rfl rfl) rfl (A9 (A1 rfl h3 rfl) rfl (A9 (Aw rfl) rfl (Aj ?_))))));exact Av (BK trivial ⟨fb (by simp[h3]),trivial⟩ .slnil)
  ·have g3:=h3;try simp only[Aed,Aee] at g3
   refine AO rfl rfl h3 rfl (AO rfl rfl h3 rfl (A9 (A6 rfl h3 rfl) rfl (A9 (Aw rfl) rfl (Aj ?_))));exact Av (BK trivial ⟨fb (by simp[h3]),trivial⟩ .slnil)
 refine As (Ar (Cb rfl rfl) ?_);exact I0 (by first | rfl | simp[])
theorem YV (c:Int)(w:World):Calls Tryz.prog 105 [.int .i32 (c)].toArray w (LI w (.bool (DN c))):=by
 refine IM (n:=37) Tryz.func105 rfl Tryz.ntmps105 rfl (Ai (Ag (A9 (Aw rfl) rfl (Aj (Av (AZ ?_))))));refine A8 [(2,.bool (((MR c)||((Np c)||(bif decide ((65)≤(c)) then((decide ((c)≤(90)))||((decide ((c)=(45)))||((decide ((c)=(95)))||((decide ((c)=(46)))||((decide ((c)=(58)))||(decide ((c)=(47)))))))) else((decide ((c)=(45)))||((decide ((c)=(95)))||((decide ((c)=(46)))||((decide ((c)=(58)))||(decide ((c)=(47))))))))))))] [] (φ:=True) ?_ (λhn=>?_)
 ·refine Ag (A9 (Ap rfl) rfl (CA Tryz.call142 rfl (λw hw=>AaG c w) rfl (A9 (Ap rfl) rfl (AN (MR c) (λh5=>?_) (λh5=>?_)))))
  ·have g5:=h5;try simp only[Aed,Aee] at g5
   refine AO rfl rfl h5 rfl (AO rfl rfl h5 rfl (A9 (A1 rfl h5 rfl) rfl (A9 (Ap rfl) rfl (AO rfl rfl rfl rfl (AO rfl rfl rfl rfl (AO rfl rfl rfl rfl (Ev rfl rfl rfl (Ev rfl rfl rfl (AO rfl rfl rfl rfl (A9 (A1 rfl rfl rfl) rfl (A9 (Ap rfl) rfl (AO rfl rfl rfl rfl (AO rfl rfl rfl rfl (A9 (A1 rfl rfl rfl) rfl (A9 (Ap rfl) rfl (AO rfl rfl rfl rfl (AO rfl rfl rfl rfl (A9 (A1 rfl rfl rfl) rfl (A9 (Ap rfl) rfl (AO rfl rfl rfl rfl (AO rfl rfl rfl rfl (A9 (A1 rfl rfl rfl) rfl (A9 (Ap rfl) rfl ?_)))))))))))))))))))))));refine AO rfl rfl rfl rfl (AO rfl rfl rfl rfl (A9 (A1 rfl rfl rfl) rfl (A9 (Ap rfl) rfl (AO rfl rfl rfl rfl (AO rfl rfl rfl rfl (A9 (A1 rfl rfl rfl) rfl (A9 (Aw rfl) rfl (Aj ?_))))))));exact Av (BK trivial ⟨fb (by simp[h5]),trivial⟩ .slnil)
  ·have g5:=h5;try simp only[Aed,Aee] at g5
   refine Bj rfl rfl h5 (A9 (Ap rfl) rfl (Bj rfl rfl h5 (CA Tryz.call143 rfl (λw hw=>Ab5 c w) rfl (A9 (A6 rfl h5 rfl) rfl (A9 (Ap rfl) rfl (AN (Np c) (λh6=>?_) (λh6=>?_)))))))
   ·have g6:=h6;try simp only[Aed,Aee] at g6
    refine AO rfl rfl h6 rfl (AO rfl rfl h6 rfl (AO rfl rfl h6 rfl (Ev rfl rfl rfl (Ev rfl rfl rfl (AO rfl rfl h6 rfl (A9 (A1 rfl h6 rfl) rfl (A9 (Ap rfl) rfl (AO rfl rfl rfl rfl (AO rfl rfl rfl rfl (A9 (A1 rfl rfl rfl) rfl (A9 (Ap rfl) rfl (AO rfl rfl rfl rfl (AO rfl rfl rfl rfl (A9 (A1 rfl rfl rfl) rfl (A9 (Ap rfl) rfl (AO rfl rfl rfl rfl (AO rfl rfl rfl rfl (A9 (A1 rfl rfl rfl) rfl (A9 (Ap rfl) rfl (AO rfl rfl rfl rfl (AO rfl rfl rfl rfl (A9 (A1 rfl rfl rfl) rfl (A9 (Ap rfl) rfl ?_)))))))))))))))))))))));refine AO rfl rfl rfl rfl (AO rfl rfl rfl rfl (A9 (A1 rfl rfl rfl) rfl (A9 (Aw rfl) rfl (Aj ?_))));exact Av (BK trivial ⟨fb (by simp[h5,h6]),trivial⟩ .slnil)
   ·have g6:=h6;try simp only[Aed,Aee] at g6
    refine Bj rfl rfl h6 (A9 (Ap rfl) rfl (Bj rfl rfl h6 (A9 (Ga rfl rfl) rfl (Bj rfl rfl h6 (A9 (Ap rfl) rfl (AN (decide ((65)≤(c))) (λh7=>?_) (λh7=>?_)))))))
    ·have g7:=h7;try simp only[Aed,Aee] at g7
     refine Bj rfl rfl h7 (A9 (Ap rfl) rfl (Bj rfl rfl h7 (A9 (Lh rfl rfl) rfl (Bj rfl rfl h6 (A9 (A1 rfl h7 rfl) rfl (A9 (A6 rfl h6 rfl) rfl (A9 (Ap rfl) rfl (AN (decide ((c)≤(90))) (λh8=>?_) (λh8=>?_)))))))))
     ·have g8:=h8;try simp only[Aed,Aee] at g8
      refine AO rfl rfl h8 rfl (AO rfl rfl h8 rfl (A9 (A1 rfl h8 rfl) rfl (A9 (Ap rfl) rfl (AO rfl rfl rfl rfl (AO rfl rfl rfl rfl (A9 (A1 rfl rfl rfl) rfl (A9 (Ap rfl) rfl (AO rfl rfl rfl rfl (AO rfl rfl rfl rfl (A9 (A1 rfl rfl rfl) rfl (A9 (Ap rfl) rfl (AO rfl rfl rfl rfl (AO rfl rfl rfl rfl (A9 (A1 rfl rfl rfl) rfl (A9 (Ap rfl) rfl (AO rfl rfl rfl rfl (AO rfl rfl rfl rfl (A9 (A1 rfl rfl rfl) rfl (A9 (Aw rfl) rfl (Aj ?_))))))))))))))))))));exact Av (BK trivial ⟨fb (by simp[h5,h6,h7,h8]),trivial⟩ .slnil)
     ·have g8:=h8;try simp only[Aed,Aee] at g8
      refine Bj rfl rfl h8 (A9 (Ap rfl) rfl (Bj rfl rfl h8 (A9 (B3 rfl rfl) rfl (A9 (A6 rfl h8 rfl) rfl (A9 (Ap rfl) rfl (AN (decide ((c)=(45))) (λh9=>?_) (λh9=>?_)))))))
      ·have g9:=h9;try simp only[Aed,Aee] at g9
       refine AO rfl rfl h9 rfl (AO rfl rfl h9 rfl (A9 (A1 rfl h9 rfl) rfl (A9 (Ap rfl) rfl (AO rfl rfl rfl rfl (AO rfl rfl rfl rfl (A9 (A1 rfl rfl rfl) rfl (A9 (Ap rfl) rfl (AO rfl rfl rfl rfl (AO rfl rfl rfl rfl (A9 (A1 rfl rfl rfl) rfl (A9 (Ap rfl) rfl (AO rfl rfl rfl rfl (AO rfl rfl rfl rfl (A9 (A1 rfl rfl rfl) rfl (A9 (Aw rfl) rfl (Aj ?_))))))))))))))));exact Av (BK trivial ⟨fb (by simp[h5,h6,h7,h8,h9]),trivial⟩ .slnil)
      ·have g9:=h9;try simp only[Aed,Aee] at g9
       refine Bj rfl rfl h9 (A9 (Ap rfl) rfl (Bj rfl rfl h9 (A9 (B3 rfl rfl) rfl (A9 (A6 rfl h9 rfl) rfl (A9 (Ap rfl) rfl (AN (decide ((c)=(95))) (λhb=>?_) (λhb=>?_)))))))
       ·have hi:=hb;try simp only[Aed,Aee] at hi
        refine AO rfl rfl hb rfl (AO rfl rfl hb rfl (A9 (A1 rfl hb rfl) rfl (A9 (Ap rfl) rfl (AO rfl rfl rfl rfl (AO rfl rfl rfl rfl (A9 (A1 rfl rfl rfl) rfl (A9 (Ap rfl) rfl (AO rfl rfl rfl rfl (AO rfl rfl rfl rfl (A9 (A1 rfl rfl rfl) rfl (A9 (Aw rfl) rfl (Aj ?_))))))))))));exact Av (BK trivial ⟨fb (by simp[h5,h6,h7,h8,h9,hb]),trivial⟩ .slnil)
       ·have hi:=hb;try simp only[Aed,Aee] at hi
        refine Bj rfl rfl hb (A9 (Ap rfl) rfl (Bj rfl rfl hb (A9 (B3 rfl rfl) rfl (A9 (A6 rfl hb rfl) rfl (A9 (Ap rfl) rfl (AN (decide ((c)=(46))) (λhe=>?_) (λhe=>?_)))))))
        ·have hj:=he;try simp only[Aed,Aee] at hj
         refine AO rfl rfl he rfl (AO rfl rfl he rfl (A9 (A1 rfl he rfl) rfl (A9 (Ap rfl) rfl (AO rfl rfl rfl rfl (AO rfl rfl rfl rfl (A9 (A1 rfl rfl rfl) rfl (A9 (Aw rfl) rfl (Aj ?_))))))));exact Av (BK trivial ⟨fb (by simp[h5,h6,h7,h8,h9,hb,he]),trivial⟩ .slnil)
        ·have hj:=he;try simp only[Aed,Aee] at hj
         refine Bj rfl rfl he (A9 (Ap rfl) rfl (Bj rfl rfl he (A9 (B3 rfl rfl) rfl (A9 (A6 rfl he rfl) rfl (A9 (Ap rfl) rfl (AN (decide ((c)=(58))) (λhg=>?_) (λhg=>?_)))))))
         ·have hk:=hg;try simp only[Aed,Aee] at hk
          refine AO rfl rfl hg rfl (AO rfl rfl hg rfl (A9 (A1 rfl hg rfl) rfl (A9 (Aw rfl) rfl (Aj ?_))));exact Av (BK trivial ⟨fb (by simp[h5,h6,h7,h8,h9,hb,he,hg]),trivial⟩ .slnil)
         ·have hk:=hg;try simp only[Aed,Aee] at hk
          refine Bj rfl rfl hg (A9 (Ap rfl) rfl (Bj rfl rfl hg (A9 (B3 rfl rfl) rfl (A9 (A6 rfl hg rfl) rfl (A9 (Aw rfl) rfl (Aj ?_))))));exact Av (BK trivial ⟨fb (by simp[h5,h6,h7,h8,h9,hb,he,hg]),trivial⟩ .slnil)
    ·have g7:=h7;try simp only[Aed,Aee] at g7
     refine AO rfl rfl h7 rfl (AO rfl rfl h7 rfl (Bj rfl rfl h6 (A9 (A6 rfl h7 rfl) rfl (A9 (A6 rfl h6 rfl) rfl (A9 (Ap rfl) rfl (Bj rfl rfl rfl (A9 (Ap rfl) rfl (Bj rfl rfl rfl (A9 (B3 rfl rfl) rfl (A9 (A6 rfl rfl rfl) rfl (A9 (Ap rfl) rfl (AN (decide ((c)=(45))) (λha=>?_) (λha=>?_)))))))))))))
     ·have hl:=ha;try simp only[Aed,Aee] at hl
      refine AO rfl rfl ha rfl (AO rfl rfl ha rfl (A9 (A1 rfl ha rfl) rfl (A9 (Ap rfl) rfl (AO rfl rfl rfl rfl (AO rfl rfl rfl rfl (A9 (A1 rfl rfl rfl) rfl (A9 (Ap rfl) rfl (AO rfl rfl rfl rfl (AO rfl rfl rfl rfl (A9 (A1 rfl rfl rfl) rfl (A9 (Ap rfl) rfl (AO rfl rfl rfl rfl (AO rfl rfl rfl rfl (A9 (A1 rfl rfl rfl) rfl (A9 (Aw rfl) rfl (Aj ?_))))))))))))))));exact Av (BK trivial ⟨fb (by simp[h5,h6,h7,ha]),trivial⟩ .slnil)
     ·have hl:=ha;try simp only[Aed,Aee] at hl
      refine Bj rfl rfl ha (A9 (Ap rfl) rfl (Bj rfl rfl ha (A9 (B3 rfl rfl) rfl (A9 (A6 rfl ha rfl) rfl (A9 (Ap rfl) rfl (AN (decide ((c)=(95))) (λhd=>?_) (λhd=>?_)))))))
      ·have hm:=hd;try simp only[Aed,Aee] at hm
       refine AO rfl rfl hd rfl (AO rfl rfl hd rfl (A9 (A1 rfl hd rfl) rfl (A9 (Ap rfl) rfl (AO rfl rfl rfl rfl (AO rfl rfl rfl rfl (A9 (A1 rfl rfl rfl) rfl (A9 (Ap rfl) rfl (AO rfl rfl rfl rfl (AO rfl rfl rfl rfl (A9 (A1 rfl rfl rfl) rfl (A9 (Aw rfl) rfl (Aj ?_))))))))))));exact Av (BK trivial ⟨fb (by simp[h5,h6,h7,ha,hd]),trivial⟩ .slnil)
      ·have hm:=hd;try simp only[Aed,Aee] at hm
       refine Bj rfl rfl hd (A9 (Ap rfl) rfl (Bj rfl rfl hd (A9 (B3 rfl rfl) rfl (A9 (A6 rfl hd rfl) rfl (A9 (Ap rfl) rfl (AN (decide ((c)=(46))) (λhf=>?_) (λhf=>?_)))))))
       ·have g15:=hf;try simp only[Aed,Aee] at g15
        refine AO rfl rfl hf rfl (AO rfl rfl hf rfl (A9 (A1 rfl hf rfl) rfl (A9 (Ap rfl) rfl (AO rfl rfl rfl rfl (AO rfl rfl rfl rfl (A9 (A1 rfl rfl rfl) rfl (A9 (Aw rfl) rfl (Aj ?_))))))));exact Av (BK trivial ⟨fb (by simp[h5,h6,h7,ha,hd,hf]),trivial⟩ .slnil)
       ·have g15:=hf;try simp only[Aed,Aee] at g15
        refine Bj rfl rfl hf (A9 (Ap rfl) rfl (Bj rfl rfl hf (A9 (B3 rfl rfl) rfl (A9 (A6 rfl hf rfl) rfl (A9 (Ap rfl) rfl (AN (decide ((c)=(58))) (λhh=>?_) (λhh=>?_)))))))
        ·have g16:=hh;try simp only[Aed,Aee] at g16
         refine AO rfl rfl hh rfl (AO rfl rfl hh rfl (A9 (A1 rfl hh rfl) rfl (A9 (Aw rfl) rfl (Aj ?_))));exact Av (BK trivial ⟨fb (by simp[h5,h6,h7,ha,hd,hf,hh]),trivial⟩ .slnil)
        ·have g16:=hh;try simp only[Aed,Aee] at g16
         refine Bj rfl rfl hh (A9 (Ap rfl) rfl (Bj rfl rfl hh (A9 (B3 rfl rfl) rfl (A9 (A6 rfl hh rfl) rfl (A9 (Aw rfl) rfl (Aj ?_))))));exact Av (BK trivial ⟨fb (by simp[h5,h6,h7,ha,hd,hf,hh]),trivial⟩ .slnil)
 refine As (Ar (Cb rfl rfl) ?_);exact I0 (by simp only[DN];by_cases h:65≤c<;>simp[h,Bool.or_assoc])
theorem Aa7 (m:Int)(w:World):Calls Tryz.prog 99 [.int .i64 (m)].toArray w (LI w (.bool (D4 m))):=by
 refine IM (n:=9) Tryz.func99 rfl Tryz.ntmps99 rfl (Ai (Ag (A9 (Aw rfl) rfl (Aj (Av (AZ ?_))))));refine A8 [(2,.bool (((decide ((-1000000000000)≤(m)))&&(decide ((m)≤(1000000000000))))))] [] (φ:=True) ?_ (λhd=>?_)
 ·refine Ag (A9 (Ap rfl) rfl (A9 (Lh rfl rfl) rfl (A9 (Ap rfl) rfl (AN (decide ((-1000000000000)≤(m))) (λha=>?_) (λha=>?_)))))
  ·have hb:=ha;try simp only[Aed,Aee] at hb
   refine Bj rfl rfl ha (A9 (Ap rfl) rfl (Bj rfl rfl ha (A9 (Lh rfl rfl) rfl (A9 (A1 rfl ha rfl) rfl (A9 (Aw rfl) rfl (Aj ?_))))));exact Av (BK trivial ⟨fb (by first | (simp only[ha,Aer,Ae1,Ae9,Aew,Ae2,Ae3,Ae7,Ae6,Aes,Ae0,Aek,Aeh,AeT,AeP,reduceIte,Aez];done) | simp[ha]),trivial⟩ .slnil)
  ·have hb:=ha;try simp only[Aed,Aee] at hb
   refine AO rfl rfl ha rfl (AO rfl rfl ha rfl (A9 (A6 rfl ha rfl) rfl (A9 (Aw rfl) rfl (Aj ?_))));exact Av (BK trivial ⟨fb (by first | (simp only[ha,Aer,Ae1,Ae9,Aew,Ae2,Ae3,Ae7,Ae6,Aes,Ae0,Aek,Aeh,AeT,AeP,reduceIte,Aez];done) | simp[ha]),trivial⟩ .slnil)
 refine As (Ar (Cb rfl rfl) ?_);exact I0 (by first | rfl | simp[])
theorem AdM (p:List UInt8)(w:World):Calls Tryz.prog 79 [.string (B p)].toArray w (LI w (.bool (Rr p))):=by
 refine IM (n:=21) Tryz.func79 rfl Tryz.ntmps79 rfl (Ai (Ag (A9 (Aw rfl) rfl (Aj (Av (AZ ?_))))));refine Ai (Ai (Ag (A9 (Ap rfl) rfl (VN BQ rfl rfl (λhd=>?_)))));refine Aj (Av (AZ ?_));refine AF (KB (S:=Nat) (λ(k:Nat)=>k≤p.length∧B0 Nm 0 p=B0 Nm k (p.drop k)) (λ(k:Nat)=>[(0,.string (B (p))),(2,.bool (false)),(6,.pointer (some ⟨hd,0,none⟩))]) (λ(k:Nat)=>[.blk hd (.stringIter (B p) (k))]) (λ(k:Nat)=>p.length-k) (0) ?_ ⟨rfl,rfl,rfl,trivial⟩ (.cons_cons _ (.slnil)) ?_)
 ·exact⟨AeL _,by simp⟩
 rintro k hi0;refine Ai (Ag (XD (i:=0) rfl rfl rfl (λhend=>?_) (λhj hg hi hh hlu39 hhu39 hwu39=>?_)))
 ·refine A9 (AB rfl rfl) rfl (Aj (Av (AZ ?_)));refine Ai (Db rfl rfl (Bq (Ax (Ax (Bc (Av (AZ ?_)))))));refine A8 [(2,.bool (((decide ((1)≤((p.length:Int))))&&(decide (((p.length:Int))≤(64))))))] [.blk hd (.stringIter (B p) (k))] (φ:=True) ?_ (λhk=>?_)
  ·refine Ag (A9 (Ap rfl) rfl (A9 (Bg BQ rfl) rfl (A9 (Ga rfl rfl) rfl (A9 (Ap rfl) rfl (AN (decide ((1)≤((p.length:Int)))) (λha=>?_) (λha=>?_))))))
   ·have he:=ha;try simp only[Aed,Aee] at he
    refine Bj rfl rfl ha (A9 (Ap rfl) rfl (Bj rfl rfl ha (A9 (Bg BQ rfl) rfl (Bj rfl rfl ha (A9 (Lh rfl rfl) rfl (A9 (A1 rfl ha rfl) rfl (A9 (Aw rfl) rfl (Aj ?_))))))));exact Av (BK trivial ⟨fb (by first | (simp only[ha,Aer,Ae1,Ae9,Aew,Ae2,Ae3,Ae7,Ae6,Aes,Ae0,Aek,Aeh,AeT,AeP,reduceIte,Aez];done) | simp[ha]),trivial⟩ (.cons_cons _ (.slnil)))
   ·have he:=ha;try simp only[Aed,Aee] at he
    refine AO rfl rfl ha rfl (AO rfl rfl ha rfl (AO rfl rfl ha rfl (A9 (A6 rfl ha rfl) rfl (A9 (Aw rfl) rfl (Aj ?_)))));exact Av (BK trivial ⟨fb (by first | (simp only[ha,Aer,Ae1,Ae9,Aew,Ae2,Ae3,Ae7,Ae6,Aes,Ae0,Aek,Aeh,AeT,AeP,reduceIte,Aez];done) | simp[ha]),trivial⟩ (.cons_cons _ (.slnil)))
  refine As (Ar (Cb rfl rfl) ?_);exact I0 (by rw[AcG hi0 hend])
 ·refine A9 (AB rfl rfl) rfl (Aj (Av (AZ ?_)));refine Ai (EF rfl rfl (Am (Av (AZ ?_))));refine AF (Ai (Ag (A9 (AB rfl rfl) rfl (A9 (Aw rfl) rfl (Aj (Av (AZ ?_)))))));refine Ai (Ag (A9 (Ap rfl) rfl (CA Tryz.call105 rfl (λw hw=>YV (hg:Int) w) rfl (A9 (Cc rfl) rfl (Aj (Av (AZ ?_)))))));refine CS (b:=!(DN (hg:Int))) rfl (λhb=>?_) (λhb=>?_)
  ·have hf:=hb;try simp only[Aed,Aee] at hf
   refine Ai (Ag (A9 (Aw rfl) rfl (Aj (Av (AZ ?_)))));refine As (Ay (Ac (Ay (Ac (Ar (Cb rfl rfl) ?_)))));exact I0 (by rw[Adx hi0 hh hlu39 hhu39 hb])
  ·have hf:=hb;try simp only[Aed,Aee] at hf
   refine Am (AA (Av (A5 (k+hi) ?_ ⟨rfl,rfl,rfl,trivial⟩ (.cons_cons _ (.slnil)))));exact Abu hi0 hh hlu39 hhu39 hb
open Go
def G8 (p:List UInt8):Bool:=decide ((0:Int)<p.length)&&decide (AM p 0=45)
def DH (p:List UInt8):List UInt8:=if G8 p=true then p.drop 1 else p
theorem P6 (p:List UInt8):(DH p).length≤p.length:=by unfold DH;split<;>simp
def DO (_:Nat)(u:UInt8):Bool:=!(decide ((u.toNat:Int)<48)||decide (57<(u.toNat:Int)))
def Gc (p:List UInt8):Bool:=!(decide (DH p=[])||(decide (AM (DH p) 0=48)&&!decide (p=[48])))&&B0 DO 0 (DH p)
theorem Dt {p:List UInt8}(h : ¬ p=[]):(0:Int)<p.length:=by
 cases p with
 | nil=>exact absurd rfl h
 | cons a r=>simp
theorem Ib {p:List UInt8}{k:Nat}(h:(k:Int)<p.length):∃u,p[k]? =some u:=⟨p[k]'(by omega),Aeq (by omega)⟩
theorem T2 {p:List UInt8}{k:Nat}(hi:k≤p.length∧B0 DO 0 p=B0 DO k (p.drop k))(h:(k:Int)<p.length)(ht:(decide (AM p k<48)||decide (57<AM p k))=false) :
  (k+1≤p.length∧B0 DO 0 p=B0 DO (k+1) (p.drop (k+1)))∧p.length-(k+1)<p.length-k:=by
 obtain⟨u,hu⟩:=Ib h;rw[Nt hu] at ht;exact Sl hi hu (by simp only[DO,ht];rfl)
theorem ZN {p:List UInt8}{k:Nat}(hi:k≤p.length∧B0 DO 0 p=B0 DO k (p.drop k))(h:(k:Int)<p.length)(ht:(decide (AM p k<48)||decide (57<AM p k))=true):B0 DO 0 p=false:=by
 obtain⟨u,hu⟩:=Ib h;rw[Nt hu] at ht;exact Yd hi hu (by simp only[DO,ht];rfl)
theorem V4 {p:List UInt8}{k:Nat}(hi:k≤p.length∧B0 DO 0 p=B0 DO k (p.drop k))(h : ¬ (k:Int)<p.length):B0 DO 0 p=true:=UR hi (by omega)
def BI (p:List UInt8):Int:=if Gc p=true then(match Lib.atoiAll p with | .ok v=>if D4 v=true then 0 else 2 | _=>2) else 1
def AL (p:List UInt8):Int:=if Gc p=true then(match Lib.atoiAll p with | .ok v=>if D4 v=true then v else 0 | _=>0) else 0
theorem P7:∀(l:List UInt8) (i acc:Nat),B0 DO i l=true→(∃u,Lib.parseUint10 acc l = .ok u)∨Lib.parseUint10 acc l = .range
 | [],_,acc,_=>.inl ⟨acc,rfl⟩
 | c::r,i,acc,h=>by
  simp only[B0,Aej] at h;have hc:48≤c.toNat∧c.toNat≤57:=by have:=h.1;simp[DO] at this;omega
  unfold Lib.parseUint10;rw[AeY hc]
  split
  ·exact .inr rfl
  ·split
   ·exact .inr rfl
   ·exact P7 r _ _ h.2
theorem Vn {l:List UInt8}(hne:l≠[])(h:B0 DO 0 l=true):(∃u,Lib.parseMag l = .ok u)∨Lib.parseMag l = .range:=by
 unfold Lib.parseMag;rw[AeK hne];exact P7 l 0 0 h
theorem QT {e:Lib.NumEnd Nat}(h:(∃u,e = .ok u)∨e = .range):(∃v,Lib.signless e = .ok v)∨Lib.signless e = .range:=by
 rcases h with⟨u,rfl⟩ | rfl
 ·unfold Lib.signless
  by_cases h:9223372036854775808≤u
  ·exact .inr (by simp[h])
  ·exact .inl ⟨_,by simp[h];rfl⟩
 ·exact .inr rfl
theorem TT {e:Lib.NumEnd Nat}(h:(∃u,e = .ok u)∨e = .range):(∃v,Lib.signed e = .ok v)∨Lib.signed e = .range:=by
 rcases h with⟨u,rfl⟩ | rfl
 ·unfold Lib.signed
  by_cases h:9223372036854775808<u
  ·exact .inr (by simp[h])
  ·exact .inl ⟨_,by simp[h];rfl⟩
 ·exact .inr rfl
theorem Aag {p:List UInt8}(h:Gc p=true):(∃v,Lib.atoiAll p = .ok v∧-9223372036854775808≤v∧v≤9223372036854775807)∨Lib.atoiAll p = .range:=by
 have key:(∃v,Lib.atoiAll p = .ok v)∨Lib.atoiAll p = .range:=by
  simp only[Gc,Aej,Aex,Ae4,Aee] at h;obtain⟨⟨hne,_⟩,hall⟩:=h
  cases p with
  | nil=>simp[DH,G8] at hne
  | cons c r=>
   by_cases hc:c=45
   ·subst hc;have hd:DH (45::r)=r:=by simp[DH,G8,AM]
    rw[hd] at hne hall;rw[Lib.atoiAll_minus];exact TT (Vn hne hall)
   ·have hb : ¬ AM (c::r) 0=45:=by
     simp only[AM,Int.toNat_zero,List.getElem?_cons_zero,AeH];intro e;exact hc (UInt8.toNat_inj.1 (by simpa using(by omega:c.toNat=45)))
    have hd:DH (c::r)=c::r:=by simp[DH,G8,hb]
    rw[hd] at hne hall;have ha:48≤c.toNat:=by
     simp only[B0,Aej] at hall;have:=hall.1;simp[DO] at this;omega
    rw[Lib.atoiAll_plain c r (by omega) (by omega)];exact QT (Vn hne hall)
 rcases key with⟨v,hv⟩ | h
 ·exact .inl ⟨v,hv,Lib.atoiAll_bounds hv⟩
 ·exact .inr h
theorem Zo (m:Int)(h0 : -9223372036854775808≤m)(h1:m≤9223372036854775807):(Lib.itoa m).length≤21:=Lib.itoa_length_le m h0 h1
theorem Xk (p:List UInt8)(hp:p.length≤281474976710656)(w:World):Calls Tryz.prog 97 [.string (B (p))].toArray w (LI w (.bool (Gc p))):=by
 refine IM (n:=43) Tryz.func97 rfl Tryz.ntmps97 rfl (Ai (Ag (A9 (Aw rfl) rfl (Aj (Av (AZ ?_))))));refine Ai (Ag (A9 (Ap rfl) rfl (A9 (Aw rfl) rfl (Aj (Av (AZ ?_))))));refine A8 [(0,.string (B (p))),(2,.bool (false)),(3,.string (B ((if ((decide ((0)<((p.length:Int))))&&(decide ((AM p 0)=(45))))=true then List.drop (Int.toNat (1)) p else p))))] [] (φ:=True) ?_ (λhz=>?_)
 ·refine A8 [(0,.string (B (p))),(2,.bool (false)),(3,.string (B (p))),(13,.bool (((decide ((0)<((p.length:Int))))&&(decide ((AM p 0)=(45))))))] [] (φ:=True) ?_ (λh0=>?_)
  ·refine Ag (A9 (Ap rfl) rfl (A9 (Bg BQ rfl) rfl (A9 (Cm rfl rfl) rfl (A9 (Ap rfl) rfl (AN (decide ((0)<((p.length:Int)))) (λhd=>?_) (λhd=>?_))))))
   ·have hk:=hd;try simp only[Aed,Aee] at hk
    have f61:=hd;try simp at f61
    refine Bj rfl rfl hd (A9 (Ap rfl) rfl (Bj rfl rfl hd (A9 (AS BQ rfl rfl (by first | omega | exact Dt (by assumption)) (by first | omega | exact Dt (by assumption))) rfl (Bj rfl rfl hd (A9 (B3 rfl rfl) rfl (A9 (A1 rfl hd rfl) rfl (Aj ?_)))))));exact Av (BK trivial ⟨rfl,rfl,rfl,fb (by first | (simp only[hd,Aer,Ae1,Ae9,Aew,Ae2,Ae3,Ae7,Ae6,Aes,Ae0,Aek,Aeh,AeT,AeP,reduceIte,Aez];done) | simp[hd]),trivial⟩ .slnil)
   ·have hk:=hd;try simp only[Aed,Aee] at hk
    have f61:=hd;try simp at f61
    refine AO rfl rfl hd rfl (AO rfl rfl hd rfl (AO rfl rfl hd rfl (A9 (A6 rfl hd rfl) rfl (Aj ?_))));exact Av (BK trivial ⟨rfl,rfl,rfl,fb (by first | (simp only[hd,Aer,Ae1,Ae9,Aew,Ae2,Ae3,Ae7,Ae6,Aes,Ae0,Aek,Aeh,AeT,AeP,reduceIte,Aez];done) | simp[hd]),trivial⟩ .slnil)
  refine CS (b:=((decide ((0)<((p.length:Int))))&&(decide ((AM p 0)=(45))))) rfl (λhg=>?_) (λhg=>?_)
  ·have hl:=hg;try simp only[Aed,Aee] at hl
   have f63:=hg;try simp at f63
   refine Ag (A9 (Ap rfl) rfl (A9 (D7 BQ rfl rfl (by first | omega | (simp;omega)) (by first | omega | (simp;omega))) rfl (A9 (Aw rfl) rfl (Aj ?_))));exact Av (BK trivial ⟨rfl,rfl,fs (by first | (simp only[hg,Aer,Ae1,Ae9,Aew,Ae2,Ae3,Ae7,Ae6,Aes,Ae0,Aek,Aeh,AeT,AeP,reduceIte,Aez];done) | simp[hg]),trivial⟩ .slnil)
  ·have hl:=hg;try simp only[Aed,Aee] at hl
   have f63:=hg;try simp at f63
   refine Am ?_;exact Av (BK trivial ⟨rfl,rfl,fs (by first | (simp only[hg,Aer,Ae1,Ae9,Aew,Ae2,Ae3,Ae7,Ae6,Aes,Ae0,Aek,Aeh,AeT,AeP,reduceIte,Aez];done) | simp[hg]),trivial⟩ .slnil)
 have hdg:DH p=(if ((decide ((0)<((p.length:Int))))&&(decide ((AM p 0)=(45))))=true then List.drop (Int.toNat (1)) p else p):=rfl;have hdl:=P6 p;rw[hdg] at hdl;generalize(if ((decide ((0)<((p.length:Int))))&&(decide ((AM p 0)=(45))))=true then List.drop (Int.toNat (1)) p else p)=dg at hdg hdl ⊢;refine Ai (A8 [(2,.bool (false)),(3,.string (B (dg))),(26,.bool (((decide ((dg)=(([]:List UInt8))))||((decide ((AM dg 0)=(48)))&&(!(decide ((p)=(([48]:List UInt8)))))))))] [] (φ:=True) ?_ (λh1=>?_))
 ·refine Ag (A9 (Ap rfl) rfl (A9 (El rfl rfl) rfl (A9 (Ap rfl) rfl (AN (decide ((dg)=(([]:List UInt8)))) (λha=>?_) (λha=>?_)))))
  ·have hm:=ha;try simp only[Aed,Aee] at hm
   have hn:=ha;try simp at hn
   refine AO rfl rfl ha rfl (AO rfl rfl ha rfl (AO rfl rfl ha rfl (AO rfl rfl ha rfl (Ev rfl rfl rfl (Ev rfl rfl rfl (AO rfl rfl ha rfl (A9 (A1 rfl ha rfl) rfl (Aj ?_))))))));exact Av (BK trivial ⟨rfl,rfl,fb (by first | (simp only[ha,Aer,Ae1,Ae9,Aew,Ae2,Ae3,Ae7,Ae6,Aes,Ae0,Aek,Aeh,AeT,AeP,reduceIte,Aez];done) | simp[ha]),trivial⟩ .slnil)
  ·have hm:=ha;try simp only[Aed,Aee] at hm
   have hn:=ha;try simp at hn
   refine Bj rfl rfl ha (A9 (Ap rfl) rfl (Bj rfl rfl ha (A9 (AS BQ rfl rfl (by first | omega | exact Dt (by assumption)) (by first | omega | exact Dt (by assumption))) rfl (Bj rfl rfl ha (A9 (B3 rfl rfl) rfl (Bj rfl rfl ha (A9 (Ap rfl) rfl (AN (decide ((AM dg 0)=(48))) (λhe=>?_) (λhe=>?_)))))))))
   ·have ho:=he;try simp only[Aed,Aee] at ho
    have hq:=he;try simp at hq
    refine Bj rfl rfl he (A9 (Ap rfl) rfl (Bj rfl rfl he (A9 (JS rfl rfl) rfl (Bj rfl rfl ha (A9 (A1 rfl he rfl) rfl (A9 (A6 rfl ha rfl) rfl (Aj ?_)))))));exact Av (BK trivial ⟨rfl,rfl,fb (by first | (simp only[ha,he,Aer,Ae1,Ae9,Aew,Ae2,Ae3,Ae7,Ae6,Aes,Ae0,Aek,Aeh,AeT,AeP,reduceIte,Aez];done) | simp[ha,he]),trivial⟩ .slnil)
   ·have ho:=he;try simp only[Aed,Aee] at ho
    have hq:=he;try simp at hq
    refine AO rfl rfl he rfl (AO rfl rfl he rfl (Bj rfl rfl ha (A9 (A6 rfl he rfl) rfl (A9 (A6 rfl ha rfl) rfl (Aj ?_)))));exact Av (BK trivial ⟨rfl,rfl,fb (by first | (simp only[ha,he,Aer,Ae1,Ae9,Aew,Ae2,Ae3,Ae7,Ae6,Aes,Ae0,Aek,Aeh,AeT,AeP,reduceIte,Aez];done) | simp[ha,he]),trivial⟩ .slnil)
 refine CS (b:=((decide ((dg)=(([]:List UInt8))))||((decide ((AM dg 0)=(48)))&&(!(decide ((p)=(([48]:List UInt8)))))))) rfl (λhf=>?_) (λhf=>?_)
 ·have hr:=hf;try simp only[Aed,Aee] at hr
  have hs:=hf;try simp at hs
  refine Ai (Ag (A9 (Aw rfl) rfl (Aj (Av (AZ ?_)))));refine As (Ac (Ar (Cb rfl rfl) ?_));exact I0 (by simp only[Gc,hdg,hf];rfl)
 ·have hr:=hf;try simp only[Aed,Aee] at hr
  have hs:=hf;try simp at hs
  refine Am (Av (AZ ?_));refine Ai (Ai (Ag (A9 (Ap rfl) rfl (A9 (Bg BQ rfl) rfl (A9 (Ap rfl) rfl (Aj (Av (AZ ?_))))))));refine AF (KB (S:=Nat) (λ(k:Nat)=>k≤dg.length∧B0 DO 0 dg=B0 DO k (dg.drop k)) (λ(k:Nat)=>[(29,.int .i64 ((k:Int))),(3,.string (B (dg))),(28,.int .i64 ((dg.length:Int)))]) (λ(k:Nat)=>[]) (λ(k:Nat)=>dg.length-k) (0) ?_ ⟨fi (by first | rfl | (simp;done) | omega | (simp;omega)),rfl,rfl,trivial⟩ .slnil ?_)
  ·exact⟨AeL _,by simp⟩
  rintro k hi0;refine Ai (Ag (A9 (Cf rfl rfl) rfl (Aj (Av (AZ ?_)))));refine Ai (CS (b:=decide (((k:Int))<((dg.length:Int)))) rfl (λhh=>?_) (λhh=>?_))
  ·have hj:=hh;try simp only[Aed,Aee] at hj
   have ht:=hh;try simp at ht
   refine Am (Av (AZ ?_));refine Ai (AF (Ai (Ag (A9 (Ap rfl) rfl (A9 (Aw rfl) rfl (Aj (Av (AZ ?_))))))));refine A8 [(3,.string (B (dg))),(4,.int .i64 ((k:Int))),(28,.int .i64 ((dg.length:Int))),(29,.int .i64 ((k:Int))),(30,.bool (decide (((k:Int))<((dg.length:Int))))),(31,.int .i64 ((k:Int))),(32,.string (B (dg))),(33,.int .i64 ((k:Int))),(34,.int .u8 (AM dg (k:Int))),(35,.bool (decide ((AM dg (k:Int))<(48)))),(36,.bool (decide ((AM dg (k:Int))<(48)))),(41,.bool (((decide ((AM dg (k:Int))<(48)))||(decide ((57)<(AM dg (k:Int)))))))] [] (φ:=True) ?_ (λh2=>?_)
   ·refine Ag (A9 (Ap rfl) rfl (A9 (Ap rfl) rfl (A9 (AS BQ rfl rfl (by first | omega | exact Dt (by assumption)) (by first | omega | exact Dt (by assumption))) rfl (A9 (Cf rfl rfl) rfl (A9 (Ap rfl) rfl (AN (decide ((AM dg (k:Int))<(48))) (λhb=>?_) (λhb=>?_)))))))
    ·have hu:=hb;try simp only[Aed,Aee] at hu
     have hw:=hb;try simp at hw
     refine AO rfl rfl hb rfl (AO rfl rfl hb rfl (AO rfl rfl hb rfl (AO rfl rfl hb rfl (A9 (A1 rfl hb rfl) rfl (Aj ?_)))));exact Av (BK trivial ⟨rfl,rfl,rfl,rfl,rfl,rfl,rfl,rfl,rfl,rfl,rfl,fb (by first | (simp only[hf,hh,hb,Aer,Ae1,Ae9,Aew,Ae2,Ae3,Ae7,Ae6,Aes,Ae0,Aek,Aeh,AeT,AeP,reduceIte,Aez];done) | simp[hf,hh,hb]),trivial⟩ .slnil)
    ·have hu:=hb;try simp only[Aed,Aee] at hu
     have hw:=hb;try simp at hw
     refine Bj rfl rfl hb (A9 (Ap rfl) rfl (Bj rfl rfl hb (A9 (Ap rfl) rfl (Bj rfl rfl hb (A9 (AS BQ rfl rfl (by first | omega | exact Dt (by assumption)) (by first | omega | exact Dt (by assumption))) rfl (Bj rfl rfl hb (A9 (Cm rfl rfl) rfl (A9 (A6 rfl hb rfl) rfl (Aj ?_)))))))));exact Av (BK trivial ⟨rfl,rfl,rfl,rfl,rfl,rfl,rfl,rfl,rfl,rfl,rfl,fb (by first | (simp only[hf,hh,hb,Aer,Ae1,Ae9,Aew,Ae2,Ae3,Ae7,Ae6,Aes,Ae0,Aek,Aeh,AeT,AeP,reduceIte,Aez];done) | simp[hf,hh,hb]),trivial⟩ .slnil)
   refine CS (b:=((decide ((AM dg (k:Int))<(48)))||(decide ((57)<(AM dg (k:Int)))))) rfl (λhi=>?_) (λhi=>?_)
   ·have hx:=hi;try simp only[Aed,Aee] at hx
    have hy:=hi;try simp at hy
    refine Ai (Ag (A9 (Aw rfl) rfl (Aj (Av (AZ ?_)))));refine As (Ay (Ac (Ac (Ay (Ac (Ar (Cb rfl rfl) ?_))))));exact I0 (by simp[Gc,hdg,ZN hi0 hj hi])
   ·have hx:=hi;try simp only[Aed,Aee] at hx
    have hy:=hi;try simp at hy
    refine Am (AA (Av (AZ ?_)));refine Ag (A9 (Bb rfl rfl (IntWalk.i64_in _ (by omega))) rfl (A9 (Ap rfl) rfl (Aj (Av (A5 (k+1) ?_ ⟨fi (by first | rfl | (simp;done) | omega | (simp;omega)),rfl,rfl,trivial⟩ .slnil)))));exact T2 hi0 hj hi
  ·have hj:=hh;try simp only[Aed,Aee] at hj
   have ht:=hh;try simp at ht
   refine Bq (Ax (Ax (Bc (Av (AZ ?_)))));refine Ai (Ag (A9 (Aw rfl) rfl (Aj (Av (AZ ?_)))));refine As (Ar (Cb rfl rfl) ?_);exact I0 (by simp only[Gc,hdg,hf,V4 hi0 hj];rfl)
theorem Z4 (m:Int)(h0 : -9223372036854775808≤m)(h1:m≤9223372036854775807)(w:World)(hE:VG w):Calls Tryz.prog 67 [.int .i64 (m)].toArray w (LI w (.string (B (Lib.itoa m)))):=by
 refine IM (n:=5) Tryz.func67 rfl Tryz.ntmps67 rfl (Ai (Ag (A9 (Aw rfl) rfl (Aj (Av (AZ ?_))))));refine Ai (Ag (A9 (Ap rfl) rfl (CA Tryz.call89 rfl (λw hw=>Zq m (by omega) (by omega) w (hE.st0 hw)) rfl (A9 (Aw rfl) rfl (Aj (Av (AZ ?_)))))));refine As (Ar (Cb rfl rfl) ?_);exact I0 (by first | rfl | simp[])
theorem AaS (p:List UInt8)(hp:p.length≤281474976710656)(w:World)(hE:VG w):Calls Tryz.prog 73 [.string (B (p))].toArray w (LI w (.tuple #[.int .i64 (AL p),.int .i64 (BI p)])):=by
 refine IM (n:=22) Tryz.func73 rfl Tryz.ntmps73 rfl (Ai (Ag (A9 (Aw rfl) rfl (A9 (Aw rfl) rfl (Aj (Av (AZ ?_)))))));refine Ai (Ai (Ag (A9 (Ap rfl) rfl (CA Tryz.call97 rfl (λw hw=>Xk p (by first | omega | (simp;done) | (simp;omega) | (simp at *;omega)) w) rfl (A9 (Cc rfl) rfl (Aj (Av (AZ ?_))))))));refine CS (b:=!(Gc p)) rfl (λhb=>?_) (λhb=>?_)
 ·have hf:=hb;try simp only[Aed,Aee] at hf
  have ha:=hb;try simp only[Aed,Aee,Aej,AeG,Aex,AeW,AeJ,Ae4,not_or,Int.not_lt,Int.not_le] at ha
  refine Ai (Ag (A9 (Aw rfl) rfl (A9 (Aw rfl) rfl (Aj (Av (AZ ?_))))));refine As (Ac (Ar (C6 rfl rfl rfl) ?_));exact I0 (by simp[AL,BI,ha])
 ·have hf:=hb;try simp only[Aed,Aee] at hf
  have ha:=hb;try simp only[Aed,Aee,Aej,AeG,Aex,AeW,AeJ,Ae4,not_or,Int.not_lt,Int.not_le] at ha
  refine Am (Av (AZ ?_));refine Ai (Ag (A9 (Ap rfl) rfl ?_));rcases Aag (p:=p) (by assumption) with⟨av,hav,hal,hah⟩ | hav
  ·refine CA Tryz.call98 rfl (λw _=>AbE p (by first | omega | (simp;done) | (simp;omega) | (simp at *;omega)) av hav w) rfl (A9 (Ap rfl) rfl (A9 (AB rfl rfl) rfl (A9 (AB rfl rfl) rfl (A9 (Aw rfl) rfl (A9 (Aw rfl) rfl (Aj (Av (AZ ?_))))))));refine Ai (A8 [(2,.int .i64 (0)),(3,.int .i64 (0)),(4,.int .i64 (av)),(20,.bool (!(D4 av)))] [] (φ:=True) ?_ (λhh=>?_))
   ·exact Ag (A9 (Ap rfl) rfl (A9 (SL Tryz.underlying121 rfl) rfl (A9 (Ap rfl) rfl (Bj rfl rfl rfl (A9 (Ap rfl) rfl (Bj rfl rfl rfl (CA Tryz.call99 rfl (λw hw=>Aa7 av w) rfl (Bj rfl rfl rfl (A9 (Cc rfl) rfl (A9 (A6 rfl rfl rfl) rfl (Aj (Av (BK trivial ⟨rfl,rfl,rfl,rfl,trivial⟩ .slnil)))))))))))))
   refine CS (b:=!(D4 av)) rfl (λhd=>?_) (λhd=>?_)
   ·have hg:=hd;try simp only[Aed,Aee] at hg
    have he:=hd;try simp only[Aed,Aee,Aej,AeG,Aex,AeW,AeJ,Ae4,not_or,Int.not_lt,Int.not_le] at he
    refine Ai (Ag (A9 (Aw rfl) rfl (A9 (Aw rfl) rfl (Aj (Av (AZ ?_))))));refine As (Ac (Ar (C6 rfl rfl rfl) ?_));exact I0 (by simp[AL,BI,hav,ha,he])
   ·have hg:=hd;try simp only[Aed,Aee] at hg
    have he:=hd;try simp only[Aed,Aee,Aej,AeG,Aex,AeW,AeJ,Ae4,not_or,Int.not_lt,Int.not_le] at he
    refine Am (Av (AZ ?_));refine Ai (Ag (A9 (Ap rfl) rfl (A9 (Aw rfl) rfl (A9 (Aw rfl) rfl (Aj (Av (AZ ?_)))))));refine As (Ar (C6 rfl rfl rfl) ?_);exact I0 (by simp[AL,BI,hav,ha,he])
  ·refine Aa6 Tryz.call98 rfl (λw hw=>U9 p (by first | omega | (simp;done) | (simp;omega) | (simp at *;omega)) hav w (hE.st0 hw)) rfl ?_;rintro _ _ ⟨am,at_,ab,rfl,rfl⟩;refine A9 (Ap rfl) rfl (A9 (AB rfl rfl) rfl (A9 (AB rfl rfl) rfl (A9 (Aw rfl) rfl (A9 (Aw rfl) rfl (Aj (Av (AZ ?_)))))));refine Ai (A8 [(2,.int .i64 (0)),(3,.int .i64 (0)),(4,.int .i64 (am)),(20,.bool (true))] [] (φ:=True) ?_ (λhi=>?_))
   ·exact Ag (A9 (Ap rfl) rfl (A9 (Abb Tryz.underlying121 rfl) rfl (A9 (Ap rfl) rfl (AO rfl rfl rfl rfl (AO rfl rfl rfl rfl (AO rfl rfl rfl rfl (A9 (A1 rfl rfl rfl) rfl (Aj (Av (BK trivial ⟨rfl,rfl,rfl,rfl,trivial⟩ .slnil))))))))))
   refine EF rfl rfl (Ai (Ag (A9 (Aw rfl) rfl (A9 (Aw rfl) rfl (Aj (Av (AZ ?_)))))));refine As (Ac (Ar (C6 rfl rfl rfl) ?_));exact I0 (by simp[AL,BI,hav,ha])
end Go.Proofs.YtjfnokmpfekniaaGreatDoor
namespace Go.Proofs
open Go.Shelf
def Tryz.lays169_ren:Go.Shelf.Ren:=⟨fun | 169=>88 | n=>n,fun | 70=>110 | 9=>9 | 0=>0 | 72=>112 | 37=>94 | 127=>150 | 3=>3 | 5=>5 | n=>n,fun | n=>n⟩
theorem Tryz.lays169:Go.Proofs.Lays.n169 Tryz.prog Tryz.lays169_ren:={
 mixed:=by kernel_rfl
 f169:=Tryz.func88.trans (congrArg some (by kernel_rfl))
 t0:=Tryz.underlying0
 a0:=Tryz.isAgg0
 z0:=Tryz.sizeOf0
 v0:=Tryz.zeroValue0
 t3:=Tryz.underlying3
 a3:=Tryz.isAgg3
 z3:=Tryz.sizeOf3
 v3:=Tryz.zeroValue3
 t9:=Tryz.underlying9
 a9:=Tryz.isAgg9
 z9:=Tryz.sizeOf9
 v9:=Tryz.zeroValue9
 t37:=Tryz.underlying94
 a37:=Tryz.isAgg94
 z37:=Tryz.sizeOf94
 v37:=Tryz.zeroValue94
 t70:=Tryz.underlying110
 a70:=Tryz.isAgg110
 z70:=Tryz.sizeOf110
 v70:=Tryz.zeroValue110
 t72:=Tryz.underlying112
 a72:=Tryz.isAgg112
 z72:=Tryz.sizeOf112
 v72:=Tryz.zeroValue112
 t127:=Tryz.underlying150
 a127:=Tryz.isAgg150
 z127:=Tryz.sizeOf150
 v127:=Tryz.zeroValue150 }
theorem Tryz.Builder_Extra_169:Builder.Extra Tryz.prog Tryz.lays169_ren:={
 sizeBuilder:=by kernel_rfl
 liesBuilder:=by kernel_rfl
 t5:=Tryz.underlying5
 a5:=Tryz.isAgg5
 z5:=Tryz.sizeOf5
 v5:=Tryz.zeroValue5
 infoByte:=by kernel_rfl
 cellsByte:=by kernel_rfl
 sizeByte:=by kernel_rfl
 neB5:=by decide }
open Go.RowKit in
theorem Tryz.Builder_String_any (B b:Nat)(l:List UInt8)(w:World)(h:Lib.IsBuilder 112 5 B b (Lib.byteCells l) w)(hBw:B≤w.heap.size) :
  Calls Tryz.prog 88 #[.pointer (some ⟨b,0,none⟩)] w λe w'=>e = .returned (.string ⟨l.toArray⟩)∧Below B w w':=Any.Builder_String_any Tryz.lays169 Tryz.Builder_Extra_169 B b l w h hBw
def Tryz.lays138_ren:Go.Shelf.Ren:=⟨fun | 138=>164 | 195=>174 | 218=>175 | 143=>176 | 219=>183 | 217=>186 | 225=>187 | 224=>188 | 267=>189 | 266=>190 | 314=>191 | n=>n,fun | 9=>9 | 3=>3 | 4=>4 | 5=>5 | 0=>0 | 46=>109 | 146=>210 | 51=>116 | n=>n,fun | 1=>3 | n=>n⟩
theorem Tryz.lays138:Go.Proofs.Lays.n138 Tryz.prog Tryz.lays138_ren:={
 mixed:=by kernel_rfl
 f138:=Tryz.func164.trans (congrArg some (by kernel_rfl))
 f143:=Tryz.func176.trans (congrArg some (by kernel_rfl))
 f195:=Tryz.func174.trans (congrArg some (by kernel_rfl))
 f217:=Tryz.func186.trans (congrArg some (by kernel_rfl))
 f218:=Tryz.func175.trans (congrArg some (by kernel_rfl))
 f219:=Tryz.func183.trans (congrArg some (by kernel_rfl))
 f224:=Tryz.func188.trans (congrArg some (by kernel_rfl))
 f225:=Tryz.func187.trans (congrArg some (by kernel_rfl))
 f266:=Tryz.func190.trans (congrArg some (by kernel_rfl))
 f267:=Tryz.func189.trans (congrArg some (by kernel_rfl))
 f314:=Tryz.func191.trans (congrArg some (by kernel_rfl))
 t0:=Tryz.underlying0
 a0:=Tryz.isAgg0
 z0:=Tryz.sizeOf0
 v0:=Tryz.zeroValue0
 t3:=Tryz.underlying3
 a3:=Tryz.isAgg3
 z3:=Tryz.sizeOf3
 v3:=Tryz.zeroValue3
 t4:=Tryz.underlying4
 a4:=Tryz.isAgg4
 z4:=Tryz.sizeOf4
 v4:=Tryz.zeroValue4
 t5:=Tryz.underlying5
 a5:=Tryz.isAgg5
 z5:=Tryz.sizeOf5
 v5:=Tryz.zeroValue5
 t9:=Tryz.underlying9
 a9:=Tryz.isAgg9
 z9:=Tryz.sizeOf9
 v9:=Tryz.zeroValue9
 t46:=Tryz.underlying109
 a46:=Tryz.isAgg109
 z46:=Tryz.sizeOf109
 v46:=Tryz.zeroValue109
 t51:=Tryz.underlying116
 a51:=Tryz.isAgg116
 z51:=Tryz.sizeOf116
 v51:=Tryz.zeroValue116
 t146:=Tryz.underlying210
 a146:=Tryz.isAgg210
 z146:=Tryz.sizeOf210
 v146:=Tryz.zeroValue210
 g1:=by kernel_rfl }
open Go.RowKit Go.Lib in
theorem Tryz.strings_Count_one (s:ByteArray)(c:UInt8)(w:World) :
  Calls Tryz.prog 164 #[.string s,.string ⟨#[c]⟩] w λe w'=>e = .returned (.int .i64 (Lib.countByte s.data.toList c))∧w'=w:=Any.strings_Count_one Tryz.lays138 s c w
end Go.Proofs
namespace Go.Proofs.YtjfnokmpfekniaaGreatDoor
open Go
set_option linter.unusedVariables false
set_option linter.unusedSimpArgs false
theorem R7 {f:Nat→UInt8→Bool}:∀{l:List UInt8} {i:Nat},B0 f i l=true→∀u∈l,∃j,f j u=true
 | [],_,_,u,hu=>by simp at hu
 | x::r,i,h,u,hu=>by
  simp only[B0,Aej] at h;rcases List.mem_cons.1 hu with rfl | hu
  ·exact⟨i,h.1⟩
  ·exact R7 h.2 u hu
theorem Aaj {f:Nat→UInt8→Bool}:∀{l:List UInt8} {i:Nat},(∀j,∀u∈l,f j u=true)→B0 f i l=true
 | [],_,_=>rfl
 | x::r,i,h=>by simp only[B0,Aej];exact⟨h i x (by simp),Aaj λj u hu=>h j u (by simp[hu])⟩
theorem UW:∀(l:List UInt8) (acc v:Nat) (c:UInt8),Lib.parseUint10 acc l = .ok v→48≤c.toNat→c.toNat≤57→v<1844674407370955161→Lib.parseUint10 acc (l++[c]) = .ok (v*10+(c.toNat-48))
 | [],acc,v,c,h,h0,h1,hv=>by
  simp only[Lib.parseUint10,Lib.NumEnd.ok.injEq] at h;subst h;simp only[AeE,Lib.parseUint10];rw[AeY ⟨h0,h1⟩,AeK (by omega),AeK (by omega)]
 | x::r,acc,v,c,h,h0,h1,hv=>by
  simp only[AeO,Lib.parseUint10] at h ⊢
  split at h
  ·rename_i hx
   rw[AeY hx]
   split at h
   ·cases h
   ·rename_i hy
    rw[AeK hy]
    split at h
    ·cases h
    ·rename_i hz
     rw[AeK hz];exact UW r _ v c h h0 h1 hv
  ·cases h
theorem L8 {d:Nat}(h:d<10):(UInt8.ofNat (48+d)).toNat=48+d:=by
 simp[UInt8.toNat_ofNat'];omega
theorem Ab8 (u:Nat):∀c∈Lib.decDigits u,48≤c.toNat∧c.toNat≤57:=by
 induction u using Nat.strongRecOn with
 | ind u ih=>
  intro c hc;rw[Lib.decDigits] at hc
  split at hc
  ·simp only[AeM] at hc;subst hc;rw[L8 (by omega)];omega
  ·rcases List.mem_append.1 hc with hc | hc
   ·exact ih (u/10) (by omega) c hc
   ·simp only[AeM] at hc;subst hc;rw[L8 (by omega)];omega
theorem Xl (u:Nat):u<18446744073709551610→Lib.parseUint10 0 (Lib.decDigits u) = .ok u:=by
 induction u using Nat.strongRecOn with
 | ind u ih=>
  intro hu;rw[Lib.decDigits]
  split
  ·rename_i h
   simp only[Lib.parseUint10];rw[L8 h,AeY (by omega),AeK (by omega),AeK (by omega)]
   congr 1;omega
  ·rename_i h
   have:=UW (Lib.decDigits (u/10)) 0 (u/10) (UInt8.ofNat (48+u % 10)) (ih (u/10) (by omega) (by omega)) (by rw[L8 (by omega)];omega) (by rw[L8 (by omega)];omega) (by omega);rw[this,L8 (by omega)]
   congr 1;omega
theorem ZO (u:Nat):Lib.decDigits u≠[]:=by
 rw[Lib.decDigits];split<;>simp
theorem Xm (u:Nat):1≤u→AM (Lib.decDigits u) 0≠48:=by
 induction u using Nat.strongRecOn with
 | ind u ih=>
  intro hu;rw[Lib.decDigits]
  split
  ·rename_i h
   have:=L8 h;simp only[AM,Int.toNat_zero,List.getElem?_cons_zero,AeH];rw[this];omega
  ·rename_i h
   have h1:=ih (u/10) (by omega) (by omega);have hne:=ZO (u/10);unfold AM at h1 ⊢;rw[show(0:Int).toNat=0 from rfl] at h1 ⊢
   rwa [Afi (by cases hd:Lib.decDigits (u/10) with | nil=>exact absurd hd hne | cons=>simp)]
theorem Ab7 (u:Nat)(h:u<10):Lib.decDigits u=[UInt8.ofNat (48+u)]:=by rw[Lib.decDigits];simp[h]
theorem Zp {m:Int}(h0:0≤m):Lib.itoa m=Lib.decDigits m.toNat:=by
 have:=Lib.itoa_nonneg m.toNat
 rwa [show((m.toNat:Nat):Int)=m from by omega] at this
theorem WY {m:Int}(h0:0≤m)(h1:m≤1000000000000):BI (Lib.itoa m)=0∧AL (Lib.itoa m)=m:=by
 rw[Zp h0];generalize hu:m.toNat=u;have hub:u≤1000000000000:=by omega
 have hall:=Ab8 u;have hne:=ZO u;have hd0:∃c r,Lib.decDigits u=c::r:=by cases h:Lib.decDigits u with | nil=>exact absurd h hne | cons c r=>exact⟨c,r,rfl⟩
 obtain⟨c,r,hcr⟩:=hd0;have hc:48≤c.toNat∧c.toNat≤57:=hall c (by simp[hcr]);have hs:G8 (Lib.decDigits u)=false:=by
  rw[hcr];have e:AM (c::r) 0=c.toNat:=rfl;simp only[G8,e,AeJ,Aee]
  right;omega
 have hdg:DH (Lib.decDigits u)=Lib.decDigits u:=by simp[DH,hs]
 have hdec:Gc (Lib.decDigits u)=true:=by
  simp only[Gc,hdg];have h2:B0 DO 0 (Lib.decDigits u)=true:=Aaj λj x hx=>by
   have:=hall x hx;simp[DO];omega
  rw[h2];have h3:decide (Lib.decDigits u=[])=false:=by simpa using hne
  rw[h3]
  by_cases hz:u=0
  ·subst hz;rw[Ab7 0 (by omega)];rfl
  ·have:=Xm u (by omega);simp[this]
 have hat:Lib.atoiAll (Lib.decDigits u) = .ok (u:Int):=by
  have h4:=Xl u (by omega);rw[hcr] at h4 ⊢;rw[Lib.atoiAll_plain c r (by omega) (by omega)];have:Lib.parseMag (c::r) = .ok u:=by unfold Lib.parseMag;rw[AeK (by simp)];exact h4
  rw[this];simp only[Lib.signless];rw[AeK (by omega)]
 have hv:D4 (u:Int)=true:=by simp[D4];omega
 simp only[BI,AL,hdec,AeT,hat,hv];exact⟨trivial,by omega⟩
theorem Z7 {p:List UInt8}(h:G8 p=true)(h2:AM (p.drop 1) 0=48):Gc p=false:=by
 have hd:DH p=p.drop 1:=by simp[DH,h]
 have hp:p≠[48]:=by rintro rfl;revert h;decide
 unfold Gc;rw[hd,h2];simp[hp]
theorem Z6 {p dg:List UInt8}(hdg:DH p=dg)(h:(decide ((dg.length:Int)=0)||(decide ((1:Int)<dg.length)&&decide (AM dg 0=48)))=true):Gc p=false:=by
 simp only[AeG,Aed,Aej] at h;rcases h with h | ⟨h,h2⟩
 ·have:dg=[]:=AeD (by omega);simp[Gc,hdg,this]
 ·have hp:p≠[48]:=by rintro rfl;have:=P6 [48];rw[hdg] at this;simp at this;omega
  simp[Gc,hdg,h2,hp]
theorem Z5 {p dg:List UInt8}(hdg:DH p=dg)(h0:G8 p=true→¬ ((0:Int)<dg.length∧AM dg 0=48))(h:(decide ((dg.length:Int)=0)||(decide ((1:Int)<dg.length)&&decide (AM dg 0=48)))=false)(ha:B0 DO 0 dg=true):Gc p=true:=by
 simp only[Ae4,Aee,AeJ] at h;have hne:dg≠[]:=by rintro rfl;exact h.1 rfl
 have hpos:=Dt hne;simp only[Gc,hdg,ha,Ae2,Aex,Ae4,Aee,hne,not_false_eq_true,true_and,AeJ,AeW,Aed]
 by_cases hb:AM dg 0=48
 ·right
  cases hs:G8 p
  ·have hd:dg=p:=by rw[← hdg];simp[DH,hs]
   subst hd;have hl:dg.length=1:=by rcases h.2 with h | h<;>omega
   match dg,hl with
   | [u],_=>
    have:(u.toNat:Int)=48:=hb;rw[show u=48 from UInt8.toNat_inj.1 (by simpa using(by omega:u.toNat=48))]
  ·exact absurd ⟨hpos,hb⟩ (h0 hs)
 ·exact .inl hb
def E1:Nat→List UInt8→Option Nat
 | n,[]=>some n
 | n,u::r=>if u.toNat=45 then E1 n r else if 1000000000000<10*n+(u.toNat-48) then none else E1 (10*n+(u.toNat-48)) r
theorem Iy {p:List UInt8}(h:Gc p=true){k:Nat}(hk:(k:Int)<p.length)(ha : ¬ AM p k=45):48≤AM p k∧AM p k≤57:=by
 simp only[Gc,Aej] at h;obtain⟨u,hu⟩:=Ib hk;rw[Nt hu] at ha ⊢;have key:u∈DH p:=by
  have hm:=Aet hu;unfold DH
  split
  ·rename_i hs
   cases p with
   | nil=>simp at hm
   | cons c r=>
    rcases List.mem_cons.1 hm with rfl | hm
    ·simp only[G8,Aej,Aed] at hs;exact absurd hs.2 ha
    ·simpa using hm
  ·exact hm
 obtain⟨j,hj⟩:=R7 h.2 u key;simp[DO] at hj;omega
def Ab6 (l:List UInt8):Prop:=∀u∈l,48≤u.toNat∧u.toNat≤57
theorem V6 {l:List UInt8}(h:B0 DO 0 l=true):Ab6 l:=λu hu=>by
 obtain⟨j,hj⟩:=R7 h u hu;simp[DO] at hj;omega
theorem Yx:∀(l:List UInt8) (acc:Nat),Ab6 l→1000000000000<acc→Lib.parseUint10 acc l = .range∨∃u,Lib.parseUint10 acc l = .ok u∧1000000000000<u
 | [],acc,_,h=>.inr ⟨acc,rfl,h⟩
 | c::r,acc,hd,h=>by
  have hc:=hd c (by simp);unfold Lib.parseUint10;rw[AeY hc]
  split
  ·exact .inl rfl
  ·split
   ·exact .inl rfl
   ·exact Yx r _ (λu hu=>hd u (by simp[hu])) (by omega)
theorem Yw:∀(l:List UInt8) (acc:Nat),Ab6 l→acc≤1000000000000→(∃u,E1 acc l=some u∧Lib.parseUint10 acc l = .ok u∧u≤1000000000000)∨(E1 acc l=none∧(Lib.parseUint10 acc l = .range∨∃u,Lib.parseUint10 acc l = .ok u∧1000000000000<u))
 | [],acc,_,h=>.inl ⟨acc,rfl,rfl,h⟩
 | c::r,acc,hd,h=>by
  have hc:=hd c (by simp);have hr:Ab6 r:=λu hu=>hd u (by simp[hu]);have e1:Lib.parseUint10 acc (c::r)=Lib.parseUint10 (acc*10+(c.toNat-48)) r:=by
   conv=>lhs;unfold Lib.parseUint10
   rw[AeY hc,AeK (by omega),AeK (by omega)]
  have e2:E1 acc (c::r)=if 1000000000000<acc*10+(c.toNat-48) then none else E1 (acc*10+(c.toNat-48)) r:=by
   conv=>lhs;unfold E1
   rw[AeK (by omega),show 10*acc+(c.toNat-48)=acc*10+(c.toNat-48) from by omega]
  rw[e1,e2]
  by_cases hb:1000000000000<acc*10+(c.toNat-48)
  ·rw[AeY hb];exact .inr ⟨rfl,Yx r _ hr hb⟩
  ·rw[AeK hb];exact Yw r _ hr (by omega)
theorem Yb {p:List UInt8}:E1 0 p=E1 0 (DH p):=by
 unfold DH
 split
 ·rename_i hs
  cases p with
  | nil=>rfl
  | cons c r=>
   simp only[G8,Aej,Aed] at hs;have:c.toNat=45:=by have:=hs.2;simp[AM] at this;omega
   simp[E1,this]
 ·rfl
theorem Nc {p:List UInt8}(h:Gc p=true):(∀u,E1 0 p=some u→BI p=0∧AL p=if G8 p=true then -(u:Int) else u)∧(E1 0 p=none→BI p=2∧AL p=0):=by
 have h':=h;simp only[Gc,Aej,Aex,Ae4,Aee] at h';obtain⟨⟨hne,_⟩,hall⟩:=h';have hrun:=Yw (DH p) 0 (V6 hall) (by omega);have hmag:Lib.parseMag (DH p)=Lib.parseUint10 0 (DH p):=by unfold Lib.parseMag;rw[AeK hne]
 have hat:Lib.atoiAll p=if G8 p=true then Lib.signed (Lib.parseUint10 0 (DH p)) else Lib.signless (Lib.parseUint10 0 (DH p)):=by
  cases p with
  | nil=>simp[DH,G8] at hne
  | cons c r=>
   cases hs:G8 (c::r)
   ·have hd:DH (c::r)=c::r:=by simp[DH,hs]
    rw[hd] at hall hmag ⊢;have hc:=V6 hall c (by simp);rw[Lib.atoiAll_plain c r (by omega) (by omega),hmag];simp
   ·have hc:c=45:=by
     simp only[G8,Aej,Aed] at hs;exact UInt8.toNat_inj.1 (by have:=hs.2;simp[AM] at this;simpa using(by omega:c.toNat=45))
    subst hc;have hd:DH (45::r)=r:=by simp[DH,hs]
    rw[hd] at hmag ⊢;rw[Lib.atoiAll_minus,hmag];simp
 rw[Yb];have hbig:∀u:Nat,1000000000000<u→∀v:Int,(v=u∨v = -(u:Int))→D4 v=false:=λu hu v hv=>by
  rcases hv with rfl | rfl<;>simp[D4]<;>omega
 constructor
 ·intro u hu;rcases hrun with⟨u',h1,h2,h3⟩ | ⟨h1,_⟩
  ·rw[hu] at h1;cases h1;rw[h2] at hat;simp only[BI,AL,h,AeT,hat]
   cases G8 p
   ·have hv:D4 (u:Int)=true:=by simp[D4];omega
    simp only[Aez,AeP,Lib.signless];rw[AeK (by omega)];simp[hv]
   ·have hv:D4 (-(u:Int))=true:=by simp[D4];omega
    simp only[AeT,Lib.signed];rw[AeK (by omega)];simp[hv]
  ·rw[hu] at h1;cases h1
 ·intro hn;rcases hrun with⟨u',h1,h2,h3⟩ | ⟨_,h1⟩
  ·rw[hn] at h1;cases h1
  ·simp only[BI,AL,h,AeT,hat];rcases h1 with h1 | ⟨u,h1,h2⟩
   ·rw[h1];cases G8 p<;>simp[Lib.signed,Lib.signless]
   ·rw[h1]
    cases G8 p
    ·simp only[Aez,AeP,Lib.signless]
     by_cases h9:9223372036854775808≤u<;>simp[h9,hbig u h2 _ (.inl rfl)]
    ·simp only[AeT,Lib.signed]
     by_cases h9:9223372036854775808<u<;>simp[h9,hbig u h2 _ (.inr rfl)]
theorem XZ {p:List UInt8}{k n:Nat}(hk:(k:Int)<p.length)(hi:E1 0 p=E1 n (p.drop k))(h:AM p k=45):E1 0 p=E1 n (p.drop (k+1)):=by
 obtain⟨u,hu⟩:=Ib hk;rw[Nt hu] at h;rw[hi,Ju hu,E1,AeY (by omega)]
theorem Acn {p:List UInt8}{k n:Nat}(hd:Gc p=true)(hk:(k:Int)<p.length)(hi:E1 0 p=E1 n (p.drop k))(h : ¬ AM p k=45)(hle : ¬ (1000000000000:Int)<10*(n:Int)+(AM p k-48)) :
  (10*(n:Int)+(AM p k-48))=((10*n+(AM p k-48).toNat:Nat):Int)∧E1 0 p=E1 (10*n+(AM p k-48).toNat) (p.drop (k+1))∧10*n+(AM p k-48).toNat≤1000000000000:=by
 have hb:=Iy hd hk h;obtain⟨u,hu⟩:=Ib hk;rw[Nt hu] at h hle hb ⊢;have e:((u.toNat:Int)-48).toNat=u.toNat-48:=by omega
 refine⟨by omega,?_,by omega⟩;rw[hi,Ju hu,E1,AeK (by omega),AeK (by omega),e]
theorem XY {p:List UInt8}{k n:Nat}(hd:Gc p=true)(hk:(k:Int)<p.length)(hi:E1 0 p=E1 n (p.drop k))(h : ¬ AM p k=45)(hle:(1000000000000:Int)<10*(n:Int)+(AM p k-48)):E1 0 p=none:=by
 have hb:=Iy hd hk h;obtain⟨u,hu⟩:=Ib hk;rw[Nt hu] at h hle hb;rw[hi,Ju hu,E1,AeK (by omega),AeY (by omega)]
theorem Ya {p:List UInt8}{k n:Nat}(hd:Gc p=true)(hk:(k:Int)<p.length)(hi:E1 0 p=E1 n (p.drop k))(hn:n≤1000000000000)(h:AM p k=45∨¬ (1000000000000:Int)<10*(n:Int)+(AM p k-48)) :
  ∃n1:Nat,(if decide (AM p k=45)=true then(n:Int) else 10*(n:Int)+(AM p k-48))=(n1:Int)∧E1 0 p=E1 n1 (p.drop (k+1))∧n1≤1000000000000:=by
 by_cases ha:AM p k=45
 ·exact⟨n,by simp[ha],XZ hk hi ha,hn⟩
 ·have hle:=h.resolve_left ha;obtain⟨a,b,c⟩:=Acn hd hk hi ha hle;exact⟨_,by rw[AeK (by simpa using ha)];exact a,b,c⟩
theorem UQ {p:List UInt8}{k n:Nat}(hi:E1 0 p=E1 n (p.drop k))(h : ¬ (k:Int)<p.length):E1 0 p=some n:=by
 rw[hi,List.drop_of_length_le (by omega)];rfl
open Go Go.RowKit
section
variable {P : Program} {n : Nat} {w0 : World} {M : List Nat} {l : Fr} {H : List Ent} {d : Option Nat} {x y : Operand} {ty t t' : TypeId} {pos : String} {af : Array Edge} {g : Option (Nat × Bool)} {k : IntKind} {p q z : Int}
end
set_option maxRecDepth 100000
theorem AcL (p:List UInt8)(hp:p.length≤281474976710656)(w:World):Calls Tryz.prog 102 [.string (B (p))].toArray w (LI w (.bool (Gc p))):=by
 refine IM (n:=53) Tryz.func102 rfl Tryz.ntmps102 rfl (Ai (Ag (A9 (Aw rfl) rfl (Aj (Av (AZ ?_))))));refine Ai (Ag (A9 (Ap rfl) rfl (A9 (Aw rfl) rfl (Aj (Av (AZ ?_))))));refine A8 [(2,.bool (false)),(3,.string (B ((if ((decide ((0)<((p.length:Int))))&&(decide ((AM p 0)=(45))))=true then List.drop (Int.toNat (1)) p else p))))] [] (φ:=(!((decide ((0)<((p.length:Int))))&&(decide ((AM p 0)=(45))))||(!(((decide ((0)<(((List.drop (Int.toNat (1)) p).length:Int))))&&(decide ((AM (List.drop (Int.toNat (1)) p) 0)=(48)))))))=true) ?_ (λho=>?_)
 ·refine A8 [(2,.bool (false)),(3,.string (B (p))),(13,.bool (((decide ((0)<((p.length:Int))))&&(decide ((AM p 0)=(45))))))] [] (φ:=True) ?_ (λh8=>?_)
  ·refine Ag (A9 (Ap rfl) rfl (A9 (Bg BQ rfl) rfl (A9 (Cm rfl rfl) rfl (A9 (Ap rfl) rfl (AN (decide ((0)<((p.length:Int)))) (λhe=>?_) (λhe=>?_))))))
   ·have hq:=he;try simp only[Aed,Aee] at hq
    have hr:=he;try simp at hr
    refine Bj rfl rfl he (A9 (Ap rfl) rfl (Bj rfl rfl he (A9 (AS BQ rfl rfl (by first | omega | (simp;omega) | (simp at *;omega) | exact Dt (by assumption)) (by first | omega | (simp;omega) | (simp at *;omega) | exact Dt (by assumption))) rfl (Bj rfl rfl he (A9 (B3 rfl rfl) rfl (A9 (A1 rfl he rfl) rfl (Aj ?_)))))));exact Av (BK trivial ⟨rfl,rfl,fb (by first | (simp only[he,Aer,Ae1,Ae9,Aew,Ae2,Ae3,Ae7,Ae6,Aes,Ae0,Aek,Aeh,AeT,AeP,reduceIte,Aez];done) | simp[he]),trivial⟩ .slnil)
   ·have hq:=he;try simp only[Aed,Aee] at hq
    have hr:=he;try simp at hr
    refine AO rfl rfl he rfl (AO rfl rfl he rfl (AO rfl rfl he rfl (A9 (A6 rfl he rfl) rfl (Aj ?_))));exact Av (BK trivial ⟨rfl,rfl,fb (by first | (simp only[he,Aer,Ae1,Ae9,Aew,Ae2,Ae3,Ae7,Ae6,Aes,Ae0,Aek,Aeh,AeT,AeP,reduceIte,Aez];done) | simp[he]),trivial⟩ .slnil)
  refine CS (b:=((decide ((0)<((p.length:Int))))&&(decide ((AM p 0)=(45))))) rfl (λhd=>?_) (λhd=>?_)
  ·have ht:=hd;try simp only[Aed,Aee] at ht
   have f84:=hd;try simp at f84
   refine Ai (Ag (A9 (Ap rfl) rfl (A9 (D7 BQ rfl rfl (by first | omega | (simp;omega)) (by first | omega | (simp;omega))) rfl (A9 (Aw rfl) rfl (Aj (Av (AZ ?_)))))));refine A8 [(2,.bool (false)),(3,.string (B (List.drop (Int.toNat (1)) p))),(23,.bool (((decide ((0)<(((List.drop (Int.toNat (1)) p).length:Int))))&&(decide ((AM (List.drop (Int.toNat (1)) p) 0)=(48))))))] [] (φ:=True) ?_ (λh9=>?_)
   ·refine Ag (A9 (Ap rfl) rfl (A9 (Bg BQ rfl) rfl (A9 (Cm rfl rfl) rfl (A9 (Ap rfl) rfl (AN (decide ((0)<(((List.drop (Int.toNat (1)) p).length:Int)))) (λhf=>?_) (λhf=>?_))))))
    ·have hu:=hf;try simp only[Aed,Aee] at hu
     have f85:=hf;try simp at f85
     refine Bj rfl rfl hf (A9 (Ap rfl) rfl (Bj rfl rfl hf (A9 (AS BQ rfl rfl (by first | omega | (simp;omega) | (simp at *;omega) | exact Dt (by assumption)) (by first | omega | (simp;omega) | (simp at *;omega) | exact Dt (by assumption))) rfl (Bj rfl rfl hf (A9 (B3 rfl rfl) rfl (A9 (A1 rfl hf rfl) rfl (Aj ?_)))))));exact Av (BK trivial ⟨rfl,rfl,fb (by first | (simp only[hd,hf,Aer,Ae1,Ae9,Aew,Ae2,Ae3,Ae7,Ae6,Aes,Ae0,Aek,Aeh,AeT,AeP,reduceIte,Aez];done) | simp[hd,hf]),trivial⟩ .slnil)
    ·have hu:=hf;try simp only[Aed,Aee] at hu
     have f85:=hf;try simp at f85
     refine AO rfl rfl hf rfl (AO rfl rfl hf rfl (AO rfl rfl hf rfl (A9 (A6 rfl hf rfl) rfl (Aj ?_))));exact Av (BK trivial ⟨rfl,rfl,fb (by first | (simp only[hd,hf,Aer,Ae1,Ae9,Aew,Ae2,Ae3,Ae7,Ae6,Aes,Ae0,Aek,Aeh,AeT,AeP,reduceIte,Aez];done) | simp[hd,hf]),trivial⟩ .slnil)
   refine CS (b:=((decide ((0)<(((List.drop (Int.toNat (1)) p).length:Int))))&&(decide ((AM (List.drop (Int.toNat (1)) p) 0)=(48))))) rfl (λhi=>?_) (λhi=>?_)
   ·have hm:=hi;try simp only[Aed,Aee] at hm
    have hk:=hi;try simp only[Aed,Aee,Aej,AeG,Aex,AeW,AeJ,Ae4,not_or,Int.not_lt,Int.not_le] at hk
    refine Ai (Ag (A9 (Aw rfl) rfl (Aj (Av (AZ ?_)))));refine As (Ac (Ar (Cb rfl rfl) ?_));exact I0 (by rw[Z7 (by simp only[G8];exact hd) (hk).2])
   ·have hm:=hi;try simp only[Aed,Aee] at hm
    have hk:=hi;try simp only[Aed,Aee,Aej,AeG,Aex,AeW,AeJ,Ae4,not_or,Int.not_lt,Int.not_le] at hk
    refine Am ?_;exact Av (BK (by first | (simp only[hd,hi,Aer,Ae1,Ae9,Aew,Ae2,Ae3,Ae7,Ae6,Aes,Ae0,Aek,Aeh,AeT,AeP,reduceIte,Aez];done) | simp[hd,hi]) ⟨rfl,fs (by first | (simp only[hd,hi,Aer,Ae1,Ae9,Aew,Ae2,Ae3,Ae7,Ae6,Aes,Ae0,Aek,Aeh,AeT,AeP,reduceIte,Aez];done) | simp[hd,hi]),trivial⟩ .slnil)
  ·have ht:=hd;try simp only[Aed,Aee] at ht
   have f84:=hd;try simp at f84
   refine Am ?_;exact Av (BK (by first | (simp only[hd,Aer,Ae1,Ae9,Aew,Ae2,Ae3,Ae7,Ae6,Aes,Ae0,Aek,Aeh,AeT,AeP,reduceIte,Aez];done) | simp[hd]) ⟨rfl,fs (by first | (simp only[hd,Aer,Ae1,Ae9,Aew,Ae2,Ae3,Ae7,Ae6,Aes,Ae0,Aek,Aeh,AeT,AeP,reduceIte,Aez];done) | simp[hd]),trivial⟩ .slnil)
 have hm:=ho;try simp only[Aed,Aee] at hm
 have hk:=ho;try simp only[Aed,Aee,Aej,AeG,Aex,AeW,AeJ,Ae4,not_or,Int.not_lt,Int.not_le] at hk
 have hdg:DH p=(if ((decide ((0)<((p.length:Int))))&&(decide ((AM p 0)=(45))))=true then List.drop (Int.toNat (1)) p else p):=rfl;have hdl:=P6 p;have hform:G8 p=true→¬ ((0:Int)<(DH p).length∧AM (DH p) 0=48):=by intro hs;rw[show DH p=List.drop 1 p from by simp[DH,hs]];simp only[G8] at hs;intro hx;simp_all;grind
 rw[hdg] at hdl hform;clear ho hm hk;generalize(if ((decide ((0)<((p.length:Int))))&&(decide ((AM p 0)=(45))))=true then List.drop (Int.toNat (1)) p else p)=dg at hdg hdl hform ⊢;refine Ai (A8 [(2,.bool (false)),(3,.string (B (dg))),(36,.bool (((decide (((dg.length:Int))=(0)))||((decide ((1)<((dg.length:Int))))&&(decide ((AM dg 0)=(48)))))))] [] (φ:=True) ?_ (λhA=>?_))
 ·refine Ag (A9 (Ap rfl) rfl (A9 (Bg BQ rfl) rfl (A9 (B3 rfl rfl) rfl (A9 (Ap rfl) rfl (AN (decide (((dg.length:Int))=(0))) (λha=>?_) (λha=>?_))))))
  ·have hw:=ha;try simp only[Aed,Aee] at hw
   have hy:=ha;try simp at hy
   refine AO rfl rfl ha rfl (AO rfl rfl ha rfl (AO rfl rfl ha rfl (AO rfl rfl ha rfl (Ev rfl rfl rfl (Ev rfl rfl rfl (Ev rfl rfl rfl (AO rfl rfl ha rfl (A9 (A1 rfl ha rfl) rfl (Aj ?_)))))))));exact Av (BK trivial ⟨rfl,rfl,fb (by first | (simp only[ha,Aer,Ae1,Ae9,Aew,Ae2,Ae3,Ae7,Ae6,Aes,Ae0,Aek,Aeh,AeT,AeP,reduceIte,Aez];done) | simp[ha]),trivial⟩ .slnil)
  ·have hw:=ha;try simp only[Aed,Aee] at hw
   have hy:=ha;try simp at hy
   refine Bj rfl rfl ha (A9 (Ap rfl) rfl (Bj rfl rfl ha (A9 (Bg BQ rfl) rfl (Bj rfl rfl ha (A9 (Cm rfl rfl) rfl (Bj rfl rfl ha (A9 (Ap rfl) rfl (AN (decide ((1)<((dg.length:Int)))) (λhg=>?_) (λhg=>?_)))))))))
   ·have hz:=hg;try simp only[Aed,Aee] at hz
    have h0:=hg;try simp at h0
    refine Bj rfl rfl hg (A9 (Ap rfl) rfl (Bj rfl rfl hg (A9 (AS BQ rfl rfl (by first | omega | (simp;omega) | (simp at *;omega) | exact Dt (by assumption)) (by first | omega | (simp;omega) | (simp at *;omega) | exact Dt (by assumption))) rfl (Bj rfl rfl hg (A9 (B3 rfl rfl) rfl (Bj rfl rfl ha (A9 (A1 rfl hg rfl) rfl (A9 (A6 rfl ha rfl) rfl (Aj ?_)))))))));exact Av (BK trivial ⟨rfl,rfl,fb (by first | (simp only[ha,hg,Aer,Ae1,Ae9,Aew,Ae2,Ae3,Ae7,Ae6,Aes,Ae0,Aek,Aeh,AeT,AeP,reduceIte,Aez];done) | simp[ha,hg]),trivial⟩ .slnil)
   ·have hz:=hg;try simp only[Aed,Aee] at hz
    have h0:=hg;try simp at h0
    refine AO rfl rfl hg rfl (AO rfl rfl hg rfl (AO rfl rfl hg rfl (Bj rfl rfl ha (A9 (A6 rfl hg rfl) rfl (A9 (A6 rfl ha rfl) rfl (Aj ?_))))));exact Av (BK trivial ⟨rfl,rfl,fb (by first | (simp only[ha,hg,Aer,Ae1,Ae9,Aew,Ae2,Ae3,Ae7,Ae6,Aes,Ae0,Aek,Aeh,AeT,AeP,reduceIte,Aez];done) | simp[ha,hg]),trivial⟩ .slnil)
 refine CS (b:=((decide (((dg.length:Int))=(0)))||((decide ((1)<((dg.length:Int))))&&(decide ((AM dg 0)=(48)))))) rfl (λhh=>?_) (λhh=>?_)
 ·have h1:=hh;try simp only[Aed,Aee] at h1
  have h2:=hh;try simp at h2
  refine Ai (Ag (A9 (Aw rfl) rfl (Aj (Av (AZ ?_)))));refine As (Ac (Ar (Cb rfl rfl) ?_));exact I0 (by rw[Z6 hdg hh])
 ·have h1:=hh;try simp only[Aed,Aee] at h1
  have h2:=hh;try simp at h2
  refine Am (Av (AZ ?_));refine Ai (Ai (Ag (A9 (Ap rfl) rfl (A9 (Bg BQ rfl) rfl (A9 (Ap rfl) rfl (Aj (Av (AZ ?_))))))));refine AF (KB (S:=Nat) (λ(k:Nat)=>k≤dg.length∧B0 DO 0 dg=B0 DO k (dg.drop k)) (λ(k:Nat)=>[(39,.int .i64 ((k:Int))),(3,.string (B (dg))),(38,.int .i64 ((dg.length:Int)))]) (λ(k:Nat)=>[]) (λ(k:Nat)=>dg.length-k) (0) ?_ ⟨fi (by first | rfl | (simp;done) | omega | (simp;omega)),rfl,rfl,trivial⟩ .slnil ?_)
  ·exact⟨AeL _,by simp⟩
  rintro k hi0;refine Ai (Ag (A9 (Cf rfl rfl) rfl (Aj (Av (AZ ?_)))));refine Ai (CS (b:=decide (((k:Int))<((dg.length:Int)))) rfl (λhj=>?_) (λhj=>?_))
  ·have hn:=hj;try simp only[Aed,Aee] at hn
   have h3:=hj;try simp at h3
   refine Am (Av (AZ ?_));refine Ai (AF (Ai (Ag (A9 (Ap rfl) rfl (A9 (Aw rfl) rfl (Aj (Av (AZ ?_))))))));refine A8 [(3,.string (B (dg))),(4,.int .i64 ((k:Int))),(38,.int .i64 ((dg.length:Int))),(39,.int .i64 ((k:Int))),(40,.bool (decide (((k:Int))<((dg.length:Int))))),(41,.int .i64 ((k:Int))),(42,.string (B (dg))),(43,.int .i64 ((k:Int))),(44,.int .u8 (AM dg (k:Int))),(45,.bool (decide ((AM dg (k:Int))<(48)))),(46,.bool (decide ((AM dg (k:Int))<(48)))),(51,.bool (((decide ((AM dg (k:Int))<(48)))||(decide ((57)<(AM dg (k:Int)))))))] [] (φ:=True) ?_ (λhB=>?_)
   ·refine Ag (A9 (Ap rfl) rfl (A9 (Ap rfl) rfl (A9 (AS BQ rfl rfl (by first | omega | (simp;omega) | (simp at *;omega) | exact Dt (by assumption)) (by first | omega | (simp;omega) | (simp at *;omega) | exact Dt (by assumption))) rfl (A9 (Cf rfl rfl) rfl (A9 (Ap rfl) rfl (AN (decide ((AM dg (k:Int))<(48))) (λhb=>?_) (λhb=>?_)))))))
    ·have h4:=hb;try simp only[Aed,Aee] at h4
     have h5:=hb;try simp at h5
     refine AO rfl rfl hb rfl (AO rfl rfl hb rfl (AO rfl rfl hb rfl (AO rfl rfl hb rfl (A9 (A1 rfl hb rfl) rfl (Aj ?_)))));exact Av (BK trivial ⟨rfl,rfl,rfl,rfl,rfl,rfl,rfl,rfl,rfl,rfl,rfl,fb (by first | (simp only[hh,hj,hb,Aer,Ae1,Ae9,Aew,Ae2,Ae3,Ae7,Ae6,Aes,Ae0,Aek,Aeh,AeT,AeP,reduceIte,Aez];done) | simp[hh,hj,hb]),trivial⟩ .slnil)
    ·have h4:=hb;try simp only[Aed,Aee] at h4
     have h5:=hb;try simp at h5
     refine Bj rfl rfl hb (A9 (Ap rfl) rfl (Bj rfl rfl hb (A9 (Ap rfl) rfl (Bj rfl rfl hb (A9 (AS BQ rfl rfl (by first | omega | (simp;omega) | (simp at *;omega) | exact Dt (by assumption)) (by first | omega | (simp;omega) | (simp at *;omega) | exact Dt (by assumption))) rfl (Bj rfl rfl hb (A9 (Cm rfl rfl) rfl (A9 (A6 rfl hb rfl) rfl (Aj ?_)))))))));exact Av (BK trivial ⟨rfl,rfl,rfl,rfl,rfl,rfl,rfl,rfl,rfl,rfl,rfl,fb (by first | (simp only[hh,hj,hb,Aer,Ae1,Ae9,Aew,Ae2,Ae3,Ae7,Ae6,Aes,Ae0,Aek,Aeh,AeT,AeP,reduceIte,Aez];done) | simp[hh,hj,hb]),trivial⟩ .slnil)
   refine CS (b:=((decide ((AM dg (k:Int))<(48)))||(decide ((57)<(AM dg (k:Int)))))) rfl (λhl=>?_) (λhl=>?_)
   ·have h6:=hl;try simp only[Aed,Aee] at h6
    have h7:=hl;try simp at h7
    refine Ai (Ag (A9 (Aw rfl) rfl (Aj (Av (AZ ?_)))));refine As (Ay (Ac (Ac (Ay (Ac (Ar (Cb rfl rfl) ?_))))));exact I0 (by simp[Gc,hdg,ZN hi0 hn hl])
   ·have h6:=hl;try simp only[Aed,Aee] at h6
    have h7:=hl;try simp at h7
    refine Am (AA (Av (AZ ?_)));refine Ag (A9 (Bb rfl rfl (IntWalk.i64_in _ (by omega))) rfl (A9 (Ap rfl) rfl (Aj (Av (A5 (k+1) ?_ ⟨fi (by first | rfl | (simp;done) | omega | (simp;omega)),rfl,rfl,trivial⟩ .slnil)))));exact T2 hi0 hn hl
  ·have hn:=hj;try simp only[Aed,Aee] at hn
   have h3:=hj;try simp at h3
   refine Bq (Ax (Ax (Bc (Av (AZ ?_)))));refine Ai (Ag (A9 (Aw rfl) rfl (Aj (Av (AZ ?_)))));refine As (Ar (Cb rfl rfl) ?_);exact I0 (by rw[Z5 hdg hform hh (V4 hi0 hn)])
theorem AaR (p:List UInt8)(hp:p.length≤281474976710656)(w:World):Calls Tryz.prog 77 [.string (B (p))].toArray w (LI w (.tuple #[.int .i64 (AL p),.int .i64 (BI p)])):=by
 refine IM (n:=42) Tryz.func77 rfl Tryz.ntmps77 rfl (Ai (Ag (A9 (Aw rfl) rfl (A9 (Aw rfl) rfl (Aj (Av (AZ ?_)))))));refine A8 [(0,.string (B (p))),(2,.int .i64 (0)),(3,.int .i64 (0)),(4,.bool (((decide ((0)<((p.length:Int))))&&(decide ((AM p 0)=(45))))))] [] (φ:=True) ?_ (λhy=>?_)
 ·refine Ag (A9 (Ap rfl) rfl (A9 (Bg BQ rfl) rfl (A9 (Cm rfl rfl) rfl (A9 (Ap rfl) rfl (AN (decide ((0)<((p.length:Int)))) (λha=>?_) (λha=>?_))))))
  ·have hm:=ha;try simp only[Aed,Aee] at hm
   have hn:=ha;try simp at hn
   refine Bj rfl rfl ha (A9 (Ap rfl) rfl (Bj rfl rfl ha (A9 (AS BQ rfl rfl (by first | omega | (simp;omega) | (simp at *;omega)) (by first | omega | (simp;omega) | (simp at *;omega))) rfl (Bj rfl rfl ha (A9 (B3 rfl rfl) rfl (A9 (A1 rfl ha rfl) rfl (A9 (Aw rfl) rfl (Aj ?_))))))));exact Av (BK trivial ⟨rfl,rfl,rfl,fb (by first | (simp only[ha,Aer,Ae1,Ae9,Aew,Ae2,Ae3,Ae7,Ae6,Aes,Ae0,Aek,Aeh,AeT,AeP,reduceIte,Aez];done) | simp[ha]),trivial⟩ .slnil)
  ·have hm:=ha;try simp only[Aed,Aee] at hm
   have hn:=ha;try simp at hn
   refine AO rfl rfl ha rfl (AO rfl rfl ha rfl (AO rfl rfl ha rfl (A9 (A6 rfl ha rfl) rfl (A9 (Aw rfl) rfl (Aj ?_)))));exact Av (BK trivial ⟨rfl,rfl,rfl,fb (by first | (simp only[ha,Aer,Ae1,Ae9,Aew,Ae2,Ae3,Ae7,Ae6,Aes,Ae0,Aek,Aeh,AeT,AeP,reduceIte,Aez];done) | simp[ha]),trivial⟩ .slnil)
 refine Ai (Ai (Ag (A9 (Ap rfl) rfl (CA Tryz.call102 rfl (λw hw=>AcL p (by first | omega | (simp;done) | (simp;omega) | (simp at *;omega) | (split<;>first | omega | (simp;omega))) w) rfl (A9 (Cc rfl) rfl (Aj (Av (AZ ?_))))))));refine CS (b:=!(Gc p)) rfl (λhb=>?_) (λhb=>?_)
 ·have ho:=hb;try simp only[Aed,Aee] at ho
  have hf:=hb;try simp only[Aed,Aee,Aej,AeG,Aex,AeW,AeJ,Ae4,not_or,Int.not_lt,Int.not_le] at hf
  refine Ai (Ag (A9 (Aw rfl) rfl (A9 (Aw rfl) rfl (Aj (Av (AZ ?_))))));refine As (Ac (Ar (C6 rfl rfl rfl) ?_));exact I0 (by simp[AL,BI,hf])
 ·have ho:=hb;try simp only[Aed,Aee] at ho
  have hf:=hb;try simp only[Aed,Aee,Aej,AeG,Aex,AeW,AeJ,Ae4,not_or,Int.not_lt,Int.not_le] at hf
  refine Am (Av (AZ ?_));refine Ai (Ag (A9 (Aw rfl) rfl (Aj (Av (AZ ?_)))));refine Ai (Ai (Ag (A9 (Ap rfl) rfl (A9 (Bg BQ rfl) rfl (A9 (Ap rfl) rfl (Aj (Av (AZ ?_))))))));refine AF (KB (S:=Nat×Nat) (λ(x:Nat×Nat)=>match x with | ⟨k,n⟩=>k≤p.length∧n≤1000000000000∧E1 0 p=E1 n (p.drop k)) (λ(x:Nat×Nat)=>match x with | ⟨k,n⟩=>[(20,.int .i64 ((k:Int))),(5,.int .i64 ((n:Int))),(0,.string (B (p))),(4,.bool (((decide ((0)<((p.length:Int))))&&(decide ((AM p 0)=(45)))))),(19,.int .i64 ((p.length:Int)))]) (λ(x:Nat×Nat)=>match x with | ⟨k,n⟩=>[]) (λ(x:Nat×Nat)=>match x with | ⟨k,n⟩=>p.length-k) (0,0) ?_ ⟨fi (by first | rfl | (simp;done) | omega | (simp;omega)),fi (by first | rfl | (simp;done) | omega | (simp;omega)),rfl,rfl,rfl,trivial⟩ .slnil ?_)
  ·exact⟨AeL _,AeL _,by simp⟩
  rintro⟨k,n⟩ hi0;have hk1:=hi0.1;have hk2:=hi0.2.1;refine Ai (Ag (A9 (Cf rfl rfl) rfl (Aj (Av (AZ ?_)))));refine Ai (CS (b:=decide (((k:Int))<((p.length:Int)))) rfl (λhd=>?_) (λhd=>?_))
  ·have hh:=hd;try simp only[Aed,Aee] at hh
   have hq:=hd;try simp at hq
   refine Am (Av (AZ ?_));refine A8 [(0,.string (B (p))),(4,.bool (((decide ((0)<((p.length:Int))))&&(decide ((AM p 0)=(45)))))),(5,.int .i64 ((if decide ((AM p (k:Int))=(45))=true then(n:Int) else(10*(n:Int))+((AM p (k:Int))-48)))),(6,.int .i64 ((k:Int))),(19,.int .i64 ((p.length:Int))),(20,.int .i64 ((k:Int))),(21,.bool (decide (((k:Int))<((p.length:Int))))),(22,.int .i64 ((k:Int))),(23,.string (B (p))),(24,.int .i64 ((k:Int))),(25,.int .u8 (AM p (k:Int))),(26,.bool (decide ((AM p (k:Int))=(45))))] [] (φ:=((decide ((AM p (k:Int))=(45)))||(!(decide ((1000000000000)<((10*(n:Int))+((AM p (k:Int))-48))))))=true) ?_ (λhu=>?_)
   ·refine AF (Ai (Ag (A9 (Ap rfl) rfl (A9 (Aw rfl) rfl (Aj (Av (AZ ?_)))))));refine Ai (Ai (Ag (A9 (Ap rfl) rfl (A9 (Ap rfl) rfl (A9 (AS BQ rfl rfl (by first | omega | (simp;omega) | (simp at *;omega)) (by first | omega | (simp;omega) | (simp at *;omega))) rfl (A9 (B3 rfl rfl) rfl (Aj (Av (AZ ?_)))))))));refine CS (b:=decide ((AM p (k:Int))=(45))) rfl (λhe=>?_) (λhe=>?_)
    ·have hl:=he;try simp only[Aed,Aee] at hl
     have hr:=he;try simp at hr
     refine Bq (Ax (Bc ?_));exact Av (BK (by first | (simp only[hb,hd,he,Aer,Ae1,Ae9,Aew,Ae2,Ae3,Ae7,Ae6,Aes,Ae0,Aek,Aeh,AeT,AeP,reduceIte,Aez];done) | simp[hb,hd,he]) ⟨rfl,rfl,fi (by first | (simp only[hb,hd,he,Aer,Ae1,Ae9,Aew,Ae2,Ae3,Ae7,Ae6,Aes,Ae0,Aek,Aeh,AeT,AeP,reduceIte,Aez];done) | simp[hb,hd,he]),rfl,rfl,rfl,rfl,rfl,rfl,rfl,rfl,rfl,trivial⟩ .slnil)
    ·have hl:=he;try simp only[Aed,Aee] at hl
     have hr:=he;try simp at hr
     refine Am (Av (AZ ?_));refine Ai (Ag (A9 (Ap rfl) rfl (A9 (ND rfl rfl (IntWalk.i64_in _ (by first | omega | (have:=Iy (p:=p) (k:=k) (by simp_all) (by omega) (by simp_all);omega)))) rfl (A9 (Ap rfl) rfl (A9 (Ap rfl) rfl (A9 (AS BQ rfl rfl (by first | omega | (simp;omega) | (simp at *;omega)) (by first | omega | (simp;omega) | (simp at *;omega))) rfl (A9 (EZ rfl rfl (IntWalk.u8_in _ (by first | omega | (have:=Iy (p:=p) (k:=k) (by simp_all) (by omega) (by simp_all);omega)))) rfl (A9 (CF ⟨_,Kc⟩ PM rfl (IntWalk.i64_in _ (by first | omega | (have:=Iy (p:=p) (k:=k) (by simp_all) (by omega) (by simp_all);omega)))) rfl (A9 (Bb rfl rfl (IntWalk.i64_in _ (by first | omega | (have:=Iy (p:=p) (k:=k) (by simp_all) (by omega) (by simp_all);omega)))) rfl (A9 (Aw rfl) rfl (Aj (Av (AZ ?_)))))))))))));refine Ai (Ag (A9 (Ap rfl) rfl (A9 (Cm rfl rfl) rfl (Aj (Av (AZ ?_))))));refine CS (b:=decide ((1000000000000)<((10*(n:Int))+((AM p (k:Int))-48)))) rfl (λhg=>?_) (λhg=>?_)
     ·have hi:=hg;try simp only[Aed,Aee] at hi
      have hk:=hg;try simp at hk
      refine Ai (Ag (A9 (Aw rfl) rfl (A9 (Aw rfl) rfl (Aj (Av (AZ ?_))))));refine As (Ay (Ac (Ac (Ay (Ac (Ar (C6 rfl rfl rfl) ?_))))));have hx:=(Nc hf).2 (XY hf hh hi0.2.2 hl hi);exact I0 (by rw[hx.1,hx.2])
     ·have hi:=hg;try simp only[Aed,Aee] at hi
      have hk:=hg;try simp at hk
      refine Am (AA ?_);exact Av (BK (by first | (simp only[hb,hd,he,hg,Aer,Ae1,Ae9,Aew,Ae2,Ae3,Ae7,Ae6,Aes,Ae0,Aek,Aeh,AeT,AeP,reduceIte,Aez];done) | simp[hb,hd,he,hg]) ⟨rfl,rfl,fi (by first | (simp only[hb,hd,he,hg,Aer,Ae1,Ae9,Aew,Ae2,Ae3,Ae7,Ae6,Aes,Ae0,Aek,Aeh,AeT,AeP,reduceIte,Aez];done) | simp[hb,hd,he,hg]),rfl,rfl,rfl,rfl,rfl,rfl,rfl,rfl,rfl,trivial⟩ .slnil)
   have hi:=hu;try simp only[Aed,Aee] at hi
   have hk:=hu;try simp only[Aed,Aee,Aej,AeG,Aex,AeW,AeJ,Ae4,not_or,Int.not_lt,Int.not_le] at hk
   obtain⟨n1,hn1,hn2,hn3⟩:=Ya (p:=p) (k:=k) (n:=n) hf hh hi0.2.2 hk2 (by simpa using hi);rw[hn1];refine Ag (A9 (Bb rfl rfl (IntWalk.i64_in _ (by first | omega | (have:=Iy (p:=p) (k:=k) (by simp_all) (by omega) (by simp_all);omega)))) rfl (A9 (Ap rfl) rfl (Aj (Av (A5 (k+1,n1) ?_ ⟨fi (by first | rfl | (simp;done) | omega | (simp;omega)),fi (by first | rfl | (simp;done) | omega | (simp;omega)),rfl,rfl,rfl,trivial⟩ .slnil)))));exact⟨⟨by omega,hn3,hn2⟩,by show p.length-(k+1)<p.length-k;omega⟩
  ·have hh:=hd;try simp only[Aed,Aee] at hh
   have hq:=hd;try simp at hq
   refine Bq (Ax (Ax (Bc (Av (AZ ?_)))));refine Ai (Ai (Ag (A9 (Ap rfl) rfl (Aj (Av (AZ ?_))))));refine CS (b:=((decide ((0)<((p.length:Int))))&&(decide ((AM p 0)=(45))))) rfl (λhj=>?_) (λhj=>?_)
   ·have hs:=hj;try simp only[Aed,Aee] at hs
    have ht:=hj;try simp at ht
    refine Ai (Ag (A9 (Ap rfl) rfl (A9 (Qu rfl (IntWalk.i64_in _ (by omega))) rfl (A9 (Aw rfl) rfl (A9 (Aw rfl) rfl (Aj (Av (AZ ?_))))))));refine As (Ac (Ar (C6 rfl rfl rfl) ?_));have hx:=(Nc hf).1 n (UQ hi0.2.2 hh);exact I0 (by rw[hx.1,hx.2];simp only[G8];simp only[hj];simp)
   ·have hs:=hj;try simp only[Aed,Aee] at hs
    have ht:=hj;try simp at ht
    refine Am (Av (AZ ?_));refine Ai (Ag (A9 (Ap rfl) rfl (A9 (Aw rfl) rfl (A9 (Aw rfl) rfl (Aj (Av (AZ ?_)))))));refine As (Ar (C6 rfl rfl rfl) ?_);have hx:=(Nc hf).1 n (UQ hi0.2.2 hh);exact I0 (by rw[hx.1,hx.2];simp only[G8];simp only[hj];simp)
end Go.Proofs.YtjfnokmpfekniaaGreatDoor
namespace Go.Proofs.YtjfnokmpfekniaaGreatDoor.Q
open Go Go.RowKit
set_option linter.unusedVariables false
def GE (Z:Fz):Prop:=∀w,Frz Z w→VG w
theorem GE.mono {Z Z':Fz}(h:Fz.le Z Z')(hg:GE Z):GE Z':=λw hw=>hg w (λb o e=>hw b o (h b o e))
theorem O2.rle {P:Program}{E:Fz→Prop}{f:FuncId}{args:List Rp}{r r':Rp}(h:O2 P E f args r)(hr:Ek r r'):O2 P E f args r':=λw Z vs hv hs=>
 (h w Z vs hv hs).mono λe w' ⟨q,v,H,Z',he,⟨hq,hH⟩,hp,ht⟩=>⟨r',v,H,Z',he,⟨rfl,hH⟩,hr Z' v (hq▸hp),ht⟩
theorem Ek.tup2 {a b:Value}:Ek (rv (.tuple #[a,b])) (Ct [rv a,rv b]):=λZ v h=>⟨[a,b],h,rfl,rfl,trivial⟩
theorem O2.of_id {P:Program}{E:Fz→Prop}{f:FuncId}{vs:List Value}{v:Value}(h:∀w,Calls P f vs.toArray w (λe w'=>e = .returned v∧w'=w)):O2 P E f (vs.map rv) (rv v):=
 O2.of_old λw Z _ _=>(h w).mono λe w' ⟨he,hw⟩=>⟨he,by rw[hw];exact Proofs.YtjfnokmpfekniaaGreatDoor.St.refl w []⟩
theorem M8 (m:Int)(g:Bs .i64 m=true):O2 Tryz.prog GE 67 [rI .i64 m] (rS (Lib.itoa m)):=O2.of_old (vs:=[.int .i64 m]) λw Z hf he=>Z4 m (HO g).1 (HO g).2 w (he w hf)
theorem AcE (m:Int)(g:Bs .i64 m=true):O2 Tryz.prog GE 89 [rI .i64 m] (rS (Lib.itoa m)):=O2.of_old (vs:=[.int .i64 m]) λw Z hf he=>Zq m (HO g).1 (HO g).2 w (he w hf)
theorem Vc (s:Af)(g:Dw 1 s.length=true):O2 Tryz.prog GE 73 [rS s] (Ct [rI .i64 (AL s),rI .i64 (BI s)]):=(O2.of_old (vs:=[.string (B s)]) λw Z hf he=>AaS s (by simp[Dw] at g;omega) w (he w hf)).rle Ek.tup2
theorem VA (s:Af)(c:UInt8):O2 Tryz.prog GE 164 [rS s,rS [c]] (rI .i64 (Lib.countByte s c)):=O2.of_id (vs:=[.string (B s),.string (B [c])]) λw=>by have:=Tryz.strings_Count_one (B s) c w;rwa [UE] at this
theorem AdL (s:Af):O2 Tryz.prog GE 79 [rS s] (rB (Rr s)):=O2.of_old (vs:=[.string (B s)]) λw Z hf he=>AdM s w
theorem Y2 (s:Af)(g:Dw 1 s.length=true):O2 Tryz.prog GE 77 [rS s] (Ct [rI .i64 (AL s),rI .i64 (BI s)]):=(O2.of_old (vs:=[.string (B s)]) λw Z hf he=>AaR s (by simp[Dw] at g;omega) w).rle Ek.tup2
open Go Go.RowKit Go.ChangeShapes Go.Deep
set_option linter.unusedSimpArgs false
def ZW (W:World):Fz:=λb=>W.heap[b]?
theorem ZW.frz (W:World):Frz (ZW W) W:=λ_ _ h=>h
def MN (P:Program)(e:TypeId){α:Type}(enc:α→List Rp)(ok:α→Bool):Prop:=
 ∀{H:Type} {encH:TypeId×Value→H} {W:World} {sp:Nat→Bool} {held:Bool} {n:Nat} {cs:List Value} {x:DataW H×List MemPlace},DataW.trod encH P W 0 sp held n e cs=some x→∃y:α,ok y=true∧B1 (ZW W) (enc y) cs
section
variable {P : Program} {e t : TypeId}
theorem MN.int {k:IntKind}{enc:Int→List Rp}(ht:P.underlying e=some (.int k))(he:∀n,enc n=[rI k n]):MN P e enc (Bs k):=λh=>by
 obtain⟨n,rfl,_,hwf⟩:=DataW.trod_int ht h;exact⟨n,hwf,by rw[he];exact⟨rfl,trivial⟩⟩
theorem MN.str {enc:Af→List Rp}(ht:P.underlying e=some .string)(he:∀n,enc n=[rS n]):MN P e enc okS:=λh=>by
 obtain⟨s,rfl,_,hl⟩:=DataW.trod_string ht h;exact⟨s.data.toList,Aei (by rw[Array.length_toList];exact hl),by rw[he];exact⟨congrArg Value.string (AdQ s),trivial⟩⟩
theorem MN.bool {enc:Bool→List Rp}(ht:P.underlying e=some .bool)(he:∀n,enc n=[rB n]):MN P e enc (λ_=>true):=λh=>by
 obtain⟨b,rfl,_⟩:=DataW.trod_bool ht h;exact⟨b,rfl,by rw[he];exact⟨rfl,trivial⟩⟩
theorem QO {W:World}{a:Addr}{v:Value}(h:W.cell? a=some v):a.spot=none∧JK (ZW W) a.block a.off=some v:=by
 unfold World.cell? at h;unfold JK ZW
 cases hh:W.heap[a.block]? with
 | none=>rw[hh] at h;cases h
 | some o=>
  rw[hh] at h
  cases o with
  | cells cs t fz=>
   cases hs:a.spot with
   | none=>simp[hs] at h;exact⟨rfl,h⟩
   | some _=>simp[hs] at h
  | _=>simp at h
theorem MN.slice {α:Type}[Inhabited α]{enc:α→List Rp}{ok:α→Bool}{sz:Nat}(ht:P.underlying t=some (.slice e))(hc:P.cellsOf e=sz)(hsz:0<sz)(h:MN P e enc ok)(hlen:∀y,(enc y).length=sz){enc':List α→List Rp}(he:∀ys,enc' ys=[AX sz (ys.map enc)]) :
  MN P t enc' (λys=>ys.all ok&&decide (ys.length≤9223372036854775807)):=fun {H encH W sp held n cs x} hx=>by
 rcases open_slice ht hx with⟨rfl,_⟩ | ⟨a,len,cap,m,n',D,Pl,rfl,hb,hl,hm,hmm,_,hel⟩
 ·exact⟨[],by simp,by rw[he];exact⟨UC.nil sz _,trivial⟩⟩
 ·have hlm:len≤m:=by rw[hmm];split<;>omega
  have each:∀i,i<len→∃y:α,ok y=true∧∃cs',W.cells? 0 (a.add (i*sz)) sz=some cs'∧B1 (ZW W) (enc y) cs':=λi hi=>by
   obtain⟨cs',h1,h2⟩:=hel i (by omega);obtain⟨y,hy,hr⟩:=h h2;rw[hc] at h1;exact⟨y,hy,cs',h1,hr⟩
  obtain⟨f,hf⟩:=choose_lt each;refine⟨(List.range len).map f,?_,?_⟩
  ·simp only[Aej,AeI,List.mem_map,List.mem_range,Aed];refine⟨?_,by simp;simp only[maxLen] at hm;omega⟩;rintro _ ⟨i,hi,rfl⟩;exact(hf i hi).1
  ·rw[he];refine⟨⟨some a,cap,by simp,by simpa using hl,hm,(λh=>by cases h),λi c hi=>?_⟩,trivial⟩;rw[Aff,AeQ] at hi;have hil:i<len:=by
    cases hq:(List.range len)[i]? with
    | none=>rw[hq] at hi;cases hi
    | some _=>have:=(List.getElem?_eq_some_iff.1 hq).1;simpa using this
   rw[List.getElem?_range hil] at hi;simp only[Option.map_some,Option.some.injEq,Function.comp] at hi;subst hi;obtain⟨_,cs',h1,hr⟩:=hf i hil;obtain⟨_,hcl,hcell⟩:=World.cells?_some h1;have hsp:a.spot=none:=by
    obtain⟨_,cs0,g1,_⟩:=hf 0 (by omega);obtain⟨_,gcl,gcell⟩:=World.cells?_some g1;have h0:=gcell 0 hsz;rw[Aeq (by omega)] at h0;have:=(QO h0).1;simpa[Addr.add] using this
   refine⟨hlen _,a,rfl,hsp,λj r hj=>?_⟩;obtain⟨u,hu,hp⟩:=hr.at hj;have hjs:j<sz:=by have:=(List.getElem?_eq_some_iff.1 hj).1;rw[hlen] at this;exact this
   have h3:=hcell j hjs;rw[hu] at h3;have h4:=(QO h3).2;refine⟨u,?_,hp⟩;have e1:((a.add (i*sz)).add j).block=a.block:=by simp only[Addr.add];split<;>split<;>rfl
   have e2:((a.add (i*sz)).add j).off=a.off+(i*sz+j):=by simp only[Addr.add];split<;>split<;>simp_all<;>omega
   rw[e1,e2] at h4;exact h4
theorem UO {Z:Fz}{cs:List Value}{o:Nat}(h:cs.length=o):B1 Z [] (cs.drop o):=by rw[List.drop_of_length_le (by omega)];trivial
theorem Hi {Z:Fz}{cs:List Value}{o s o':Nat}{rs rs':List Rp}(h:B1 Z rs ((cs.drop o).take s))(ho:o+s=o')(h2:B1 Z rs' (cs.drop o')):B1 Z (rs++rs') (cs.drop o):=by
 rw[← AeZ s (cs.drop o),Afb];subst ho;exact h.append h2
theorem MN.val {α:Type}{enc:α→List Rp}{ok:α→Bool}(h:MN P e enc ok){r:α→Rp}(he:∀y,enc y=[r y]){H:Type}{encH:TypeId×Value→H}{W:World}{sp:Nat→Bool}{held:Bool}{v:Value}{d:DataW H}{ps:List MemPlace}
  (hone:v.cells = #[v]) (ht:DataW.Trod encH P W 0 sp held e v d ps):∃y:α,ok y=true∧(r y).p (ZW W) v:=by
 obtain⟨fuel,hf⟩:=ht;rw[hone] at hf;obtain⟨y,hy,hr⟩:=h hf;rw[he] at hr;exact⟨y,hy,hr.1⟩
end
theorem Z3 {W w:World}(hw:Frz (ZW W) w):W.heap.size≤w.heap.size:=by
 rcases Nat.eq_zero_or_pos W.heap.size with h | h
 ·omega
 ·have h1:W.heap[W.heap.size-1]? =some (W.heap[W.heap.size-1]'(by omega)):=Array.getElem?_eq_getElem (by omega);have:=(Array.getElem?_eq_some_iff.1 (hw _ _ h1)).1;omega
theorem Xg {W:World}(hE:VG W):GE (ZW W):=λw hw=>by
 have hb:Below W.heap.size W { w with os:=W.os,tape:=W.tape,output:=W.output }:=⟨rfl,rfl,rfl,Z3 hw,λk hk=>by
  have h1:W.heap[k]? =some (W.heap[k]'hk):=Array.getElem?_eq_getElem hk;rw[h1];exact hw k _ h1⟩
 have hE2:=hE.st0 (St.of_below hb);exact⟨RA.block { w with os:=W.os,tape:=W.tape,output:=W.output } w (λ_ _=>rfl) hE2.tabs,hE2.size⟩
theorem XQ {W:World}(hE:VG W):St ⟨W,ZW W,[],GE⟩ [] (ZW W) W where
 os:=rfl
 tape:=rfl
 output:=rfl
 size:=AeA _
 old:=λ_ _ _=>rfl
 has:=λ_ h=>by cases h
 own:=λ_ h=>by cases h
 dis:=.nil
 frz:=ZW.frz W
 le:=Fz.le.refl _
 new:=λ_ _ h=>.inl h
 zdis:=λ_ h=>by cases h
 env:=Xg hE
 emono:=λh hg=>GE.mono h hg
theorem XR {W W':World}{Z Z':Fz}{E:Fz→Prop}{H:List Ent}(h:St ⟨W,Z,[],E⟩ H Z' W'):Below W.heap.size W W':=⟨h.os,h.tape,h.output,h.size,λk hk=>h.old k hk (by simp)⟩
open Go
def Nv (l:(List Int)):Option ((List Int)):=
 some l
def K3 (l:(List Int))(c:Int):Option (Unit×(List Int)):=
 Br (Nv l) λr1=>AQ (Dw 1 (r1.length+([c]:List Int).length))<|some ((),r1++([c]:List Int))
def IO (l:(List Int))(s:Af):Option (Int×Unit×(List Int)):=
 Br (Nv l) λr1=>AQ (Dw 1 (r1.length+s.length))<|some ((s.length:Int),(),r1++Dy s)
def PH (l:Af):Option (Af):=
 AQ (decide (0<(Dy l).length))<|some l
def Nu (l:(List Int)):Option ((List Int)):=
 some l
def K2 (l:(List Int))(c:Int):Option (Unit×(List Int)):=
 Br (Nu l) λr1=>AQ (Dw 1 (r1.length+([c]:List Int).length))<|some ((),r1++([c]:List Int))
def IN (l:(List Int))(s:Af):Option (Int×Unit×(List Int)):=
 Br (Nu l) λr1=>AQ (Dw 1 (r1.length+s.length))<|some ((s.length:Int),(),r1++Dy s)
def PG (l:Af):Option (Af):=
 AQ (decide (0<(Dy l).length))<|some l
set_option maxRecDepth 100000
set_option maxHeartbeats 4000000
theorem NG:∃inf,Tryz.prog.info? 5=some inf∧inf.zero=some (.int .u8 0)∧inf.size=1∧inf.bytes=1:=by
  have key:(Tryz.prog.info? 5).map (λi=>(i.zero,i.size,i.bytes))=some (some (.int .u8 0),1,1):=by kernel_rfl
  obtain⟨inf,h1,h2⟩:=Option.map_eq_some_iff.1 key;simp only[Prod.mk.injEq] at h2;exact⟨inf,h1,h2.1,h2.2.1,h2.2.2⟩
theorem Tm:∃j,Tryz.prog.info? 112=some j∧j.size≠0:=by
  have key:(Tryz.prog.info? 112).map (λi=>i.size)=some 2:=by kernel_rfl
  obtain⟨j,h1,h2⟩:=Option.map_eq_some_iff.1 key;exact⟨j,h1,by rw[h2];decide⟩
theorem Tn:∃j,Tryz.prog.info? 112=some j:=Tm.imp λ_ h=>h.1
theorem TA (ha:Nat)(hb:Value)(l:(List Int))(r:(List Int))(h:Nv l=some r):Fn Tryz.prog GE 154 [rP ha 0] [.blk ha [rv (.pointer none),rv hb] 112,.row hb 5 1 (AE Bz l)] (λR H=>∃w0:Value,R=rv (.tuple #[])∧H=[.blk ha [rP ha 0,rv w0] 112,.row w0 5 1 (AE Bz r)]):=by
 refine enter (n:=20) Tryz.func154 rfl Tryz.ntmps154 rfl (λw Z=>?_);unfold Nv at h;refine Ad (wm rfl (wv (A3 rfl) (vF Hz rfl RI (vL 0 Gv rfl (wv (r:=rB true) (YD ⟨_,RG⟩ rfl) (Ak (EF rfl rfl (Ag (wm rfl (wm rfl (wv (r:=rP ha 0) (SJ (i:=0) RG Tryz.underlying188 Tm rfl rfl rfl) (A9 (r:=rP ha 0) (AaZ Tryz.func166 (by kernel_rfl) (by kernel_rfl) (by kernel_rfl) (by kernel_rfl) rfl) rfl (wv (r:=rP ha 0) (PU (i:=0) Tryz.underlying188 RG Tn rfl rfl (by kernel_rfl)) (wv (A3 rfl) (vF Hz rfl RI (BH (i:=0) RI rfl rfl (Cy rfl) rfl rfl (cs':=[rP ha 0,rv hb]) rfl (H':=[.blk ha [rP ha 0,rv hb] 112,.row hb 5 1 (AE Bz l)]) rfl (Aj ?_)))))))))))))))));obtain rfl:=Au h;exact Ih (Wc Tryz.results154) (sC (sC sN)) ⟨hb,rfl,rfl⟩
theorem Qb (ha:Nat)(hb:Value)(l:(List Int))(c:Int)(r:Unit×(List Int))(h:K3 l c=some r):Fn Tryz.prog GE 122 [rP ha 0,rI .u8 c] [.blk ha [rv (.pointer none),rv hb] 112,.row hb 5 1 (AE Bz l)] (λR H=>∃w0:Value,R=rv (.nilIface)∧H=[.blk ha [rP ha 0,rv w0] 112,.row w0 5 1 (AE Bz r.2)]):=by
 refine enter (n:=17) Tryz.func122 rfl Tryz.ntmps122 rfl (λw Z=>?_);unfold K3 at h;refine Ad (wa rfl (Bm (wm rfl (ob h λr1 e3 h2=>Gj (Hr:=[]) Tryz.call154 (TA ha hb l r1 e3) rfl (Ael _) rfl ?_))));rintro _ _ ⟨v4,rfl,rfl⟩;refine Bm (wm rfl (wm rfl (wv (A3 rfl) (vF Hz rfl Lf (vL 0 RP rfl (wm rfl (AT (ys:=([c]:List Int)) (enc:=Bz) (css:=[[rI .u8 c]]) (xs:=[.tmp 12]) H8 ys5 yz5 rfl rfl rfl ⟨Eu.one rfl (Up.refl _),trivial⟩ rfl DZ rfl rfl rfl (λb5=>?_))))))));refine ck h2 λg7 h8=>Exists.elim NG λinf hinf=>B9 (xs:=r1) (ys:=([c]:List Int)) (enc:=Bz) (i:=2) H8 hinf.1 hinf.2.1 hinf.2.2.1 hinf.2.2.2 rfl rfl rfl rfl rfl (Id.w (i:=0) rfl rfl) DZ La g7 rfl (λv6=>?_);refine wv (A3 rfl) (vF Hz rfl Lf (BH (i:=2) Lf rfl rfl (EO (i:=0) rfl) rfl rfl (cs':=[rP ha 0,rv v6]) rfl (H':=[.row v6 5 1 (AE Bz (r1++([c]:List Int))),.row (.slice (some ⟨b5,0,none⟩) 1 1) 5 1 (AE Bz ([c]:List Int)),.blk ha [rP ha 0,rv v6] 112]) rfl (Bm (wa rfl (Ak (As (Cn (H2:=[.blk ha [rP ha 0,rv v6] 112,.row v6 5 1 (AE Bz (r1++([c]:List Int))),.row (.slice (some ⟨b5,0,none⟩) 1 1) 5 1 (AE Bz ([c]:List Int))]) ((A0 (i:=2) rfl).trans (Aem _ (Ael _))) ?_)))))));obtain rfl:=Au h8;exact Ar (Cb Tryz.results122 (A7 rfl)) (sC (sC (sS sN))) ⟨v6,rfl,rfl⟩
theorem NX (ha:Nat)(hb:Value)(l:(List Int))(s:Af)(r:Int×Unit×(List Int))(h:IO l s=some r):Fn Tryz.prog GE 120 [rP ha 0,rS s] [.blk ha [rv (.pointer none),rv hb] 112,.row hb 5 1 (AE Bz l)] (λR H=>∃w0:Value,R=Ct [Al r.1,rv (.nilIface)]∧H=[.blk ha [rP ha 0,rv w0] 112,.row w0 5 1 (AE Bz r.2.2)]):=by
 refine enter (n:=19) Tryz.func120 rfl Tryz.ntmps120 rfl (λw Z=>?_);unfold IO at h;refine Ad (wa rfl (wa rfl (Bm (wm rfl (ob h λr1 e3 h2=>Gj (Hr:=[]) Tryz.call154 (TA ha hb l r1 e3) rfl (Ael _) rfl ?_)))));rintro _ _ ⟨v4,rfl,rfl⟩;refine Bm (wm rfl (wm rfl (wv (A3 rfl) (vF Hz rfl Lf (vL 0 RP rfl (wm rfl (ck h2 λg6 h7=>Exists.elim NG λinf hinf=>HA (xs:=r1) (i:=1) H8 BQ hinf.1 hinf.2.1 hinf.2.2.1 hinf.2.2.2 rfl rfl rfl g6 rfl (λv5=>?_))))))));refine wv (A3 rfl) (vF Hz rfl Lf (BH (i:=1) Lf rfl rfl (EO (i:=0) rfl) rfl rfl (cs':=[rP ha 0,rv v5]) rfl (H':=[.row v5 5 1 (AE Bz (r1++Dy s)),.blk ha [rP ha 0,rv v5] 112]) rfl (Bm (wm rfl (wv (Bg BQ rfl) (wa rfl (wa rfl (Ak (As (Cn (H2:=[.blk ha [rP ha 0,rv v5] 112,.row v5 5 1 (AE Bz (r1++Dy s))]) ((A0 (i:=1) rfl).trans (Aem _ (Ael _))) ?_))))))))));obtain rfl:=Au h7;exact Ar (C6 Tryz.results120 (A7 rfl) (A7 rfl)) (sC (sC sN)) ⟨v5,rfl,rfl⟩
theorem U8 (ha:Nat)(hb:Value)(l:Af)(r:Af)(h:PH l=some r):Fn Tryz.prog GE 88 [rP ha 0] [.blk ha [rv (.pointer none),rv hb] 112,.row hb 5 1 (AE Bz (Dy l))] (λR H=>R=rS r∧H=[]):=by
 refine enter (n:=14) Tryz.func88 rfl Tryz.ntmps88 rfl (λw Z=>?_);unfold PH at h;refine Ad (wv (r:=rS ([]:Af)) (Aw rfl) (Ak (Ai (ck h λg1 h2=>Gk (H1:=[.blk ha [rv (.pointer none),rv hb] 112]) [0] [⟨[],rP ha 0,0⟩,⟨[0],rP ha 0,0⟩,⟨[1],rP ha 1,0⟩,⟨[2],rv hb,1⟩,⟨[3],rv (slp hb),1⟩,⟨[],rP ha 0,0⟩,⟨[5],rP ha 0,0⟩,⟨[6],rP ha 1,0⟩,⟨[7],rv hb,1⟩,⟨[8],Al ((Dy l).length:Int),1⟩,⟨[4,9],rS l,2⟩,⟨[10],rS l,0⟩] (rle [(11,_),(2,[.blk ha [rv (.pointer none),rv hb] 112])]) [2] ?_ ?_))))
 ·refine oq (Ap rfl) (oq (A3 rfl) (oq (AK Hz rfl Lf rfl rfl) (of (Bu (i:=0) RP rfl rfl rfl) (of (NC (i:=1) rfl rfl (Ol g1)) (oq (Ap rfl) (oq (A3 rfl) (oq (AK Hz rfl Lf rfl rfl) (of (Bu (i:=0) RP rfl rfl rfl) (of (Dl (ys:=Dy l) (enc:=Bz) (i:=1) H8 rfl rfl) (I4 rfl (Adm (K4 (i:=1) Tryz.underlying150 (by kernel_rfl) rfl rfl rfl (Ol g1) rfl)) ?_))))))))));refine oq (Aw rfl) ?_;exact Cp
 refine AJ (As ?_);obtain rfl:=Au h2;exact Ar (Cb Tryz.results88 (A7 rfl)) (sS sN) ⟨rfl,rfl⟩
theorem T9 (ha:Nat)(hb:Value)(l:(List Int))(r:(List Int))(h:Nu l=some r):Fn Tryz.prog GE 154 [rP ha 0] [.blk ha [rP ha 0,rv hb] 112,.row hb 5 1 (AE Bz l)] (λR H=>∃w0:Value,R=rv (.tuple #[])∧H=[.blk ha [rP ha 0,rv w0] 112,.row w0 5 1 (AE Bz r)]):=by
 refine enter (n:=20) Tryz.func154 rfl Tryz.ntmps154 rfl (λw Z=>?_);unfold Nu at h;refine Ad (wm rfl (wv (A3 rfl) (vF Hz rfl RI (vL 0 Gv rfl (wv (r:=rB false) (Nf ⟨_,RG⟩ rfl) (Ak (Db rfl rfl (Ad (wm rfl (wv (A3 rfl) (vF Hz rfl RI (vL 0 Gv rfl (wm rfl (wv (r:=rB false) (Um RG Tn rfl rfl) (Ak (Db rfl rfl (Am ?_)))))))))))))))));obtain rfl:=Au h;exact Ih (Wc Tryz.results154) (sC (sC sN)) ⟨hb,rfl,rfl⟩
theorem Qa (ha:Nat)(hb:Value)(l:(List Int))(c:Int)(r:Unit×(List Int))(h:K2 l c=some r):Fn Tryz.prog GE 122 [rP ha 0,rI .u8 c] [.blk ha [rP ha 0,rv hb] 112,.row hb 5 1 (AE Bz l)] (λR H=>∃w0:Value,R=rv (.nilIface)∧H=[.blk ha [rP ha 0,rv w0] 112,.row w0 5 1 (AE Bz r.2)]):=by
 refine enter (n:=17) Tryz.func122 rfl Tryz.ntmps122 rfl (λw Z=>?_);unfold K2 at h;refine Ad (wa rfl (Bm (wm rfl (ob h λr1 e3 h2=>Gj (Hr:=[]) Tryz.call154 (T9 ha hb l r1 e3) rfl (Ael _) rfl ?_))));rintro _ _ ⟨v4,rfl,rfl⟩;refine Bm (wm rfl (wm rfl (wv (A3 rfl) (vF Hz rfl Lf (vL 0 RP rfl (wm rfl (AT (ys:=([c]:List Int)) (enc:=Bz) (css:=[[rI .u8 c]]) (xs:=[.tmp 12]) H8 ys5 yz5 rfl rfl rfl ⟨Eu.one rfl (Up.refl _),trivial⟩ rfl DZ rfl rfl rfl (λb5=>?_))))))));refine ck h2 λg7 h8=>Exists.elim NG λinf hinf=>B9 (xs:=r1) (ys:=([c]:List Int)) (enc:=Bz) (i:=2) H8 hinf.1 hinf.2.1 hinf.2.2.1 hinf.2.2.2 rfl rfl rfl rfl rfl (Id.w (i:=0) rfl rfl) DZ La g7 rfl (λv6=>?_);refine wv (A3 rfl) (vF Hz rfl Lf (BH (i:=2) Lf rfl rfl (EO (i:=0) rfl) rfl rfl (cs':=[rP ha 0,rv v6]) rfl (H':=[.row v6 5 1 (AE Bz (r1++([c]:List Int))),.row (.slice (some ⟨b5,0,none⟩) 1 1) 5 1 (AE Bz ([c]:List Int)),.blk ha [rP ha 0,rv v6] 112]) rfl (Bm (wa rfl (Ak (As (Cn (H2:=[.blk ha [rP ha 0,rv v6] 112,.row v6 5 1 (AE Bz (r1++([c]:List Int))),.row (.slice (some ⟨b5,0,none⟩) 1 1) 5 1 (AE Bz ([c]:List Int))]) ((A0 (i:=2) rfl).trans (Aem _ (Ael _))) ?_)))))));obtain rfl:=Au h8;exact Ar (Cb Tryz.results122 (A7 rfl)) (sC (sC (sS sN))) ⟨v6,rfl,rfl⟩
theorem NW (ha:Nat)(hb:Value)(l:(List Int))(s:Af)(r:Int×Unit×(List Int))(h:IN l s=some r):Fn Tryz.prog GE 120 [rP ha 0,rS s] [.blk ha [rP ha 0,rv hb] 112,.row hb 5 1 (AE Bz l)] (λR H=>∃w0:Value,R=Ct [Al r.1,rv (.nilIface)]∧H=[.blk ha [rP ha 0,rv w0] 112,.row w0 5 1 (AE Bz r.2.2)]):=by
 refine enter (n:=19) Tryz.func120 rfl Tryz.ntmps120 rfl (λw Z=>?_);unfold IN at h;refine Ad (wa rfl (wa rfl (Bm (wm rfl (ob h λr1 e3 h2=>Gj (Hr:=[]) Tryz.call154 (T9 ha hb l r1 e3) rfl (Ael _) rfl ?_)))));rintro _ _ ⟨v4,rfl,rfl⟩;refine Bm (wm rfl (wm rfl (wv (A3 rfl) (vF Hz rfl Lf (vL 0 RP rfl (wm rfl (ck h2 λg6 h7=>Exists.elim NG λinf hinf=>HA (xs:=r1) (i:=1) H8 BQ hinf.1 hinf.2.1 hinf.2.2.1 hinf.2.2.2 rfl rfl rfl g6 rfl (λv5=>?_))))))));refine wv (A3 rfl) (vF Hz rfl Lf (BH (i:=1) Lf rfl rfl (EO (i:=0) rfl) rfl rfl (cs':=[rP ha 0,rv v5]) rfl (H':=[.row v5 5 1 (AE Bz (r1++Dy s)),.blk ha [rP ha 0,rv v5] 112]) rfl (Bm (wm rfl (wv (Bg BQ rfl) (wa rfl (wa rfl (Ak (As (Cn (H2:=[.blk ha [rP ha 0,rv v5] 112,.row v5 5 1 (AE Bz (r1++Dy s))]) ((A0 (i:=1) rfl).trans (Aem _ (Ael _))) ?_))))))))));obtain rfl:=Au h7;exact Ar (C6 Tryz.results120 (A7 rfl) (A7 rfl)) (sC (sC sN)) ⟨v5,rfl,rfl⟩
theorem U7 (ha:Nat)(hb:Value)(l:Af)(r:Af)(h:PG l=some r):Fn Tryz.prog GE 88 [rP ha 0] [.blk ha [rP ha 0,rv hb] 112,.row hb 5 1 (AE Bz (Dy l))] (λR H=>R=rS r∧H=[]):=by
 refine enter (n:=14) Tryz.func88 rfl Tryz.ntmps88 rfl (λw Z=>?_);unfold PG at h;refine Ad (wv (r:=rS ([]:Af)) (Aw rfl) (Ak (Ai (ck h λg1 h2=>Gk (H1:=[.blk ha [rP ha 0,rv hb] 112]) [0] [⟨[],rP ha 0,0⟩,⟨[0],rP ha 0,0⟩,⟨[1],rP ha 1,0⟩,⟨[2],rv hb,1⟩,⟨[3],rv (slp hb),1⟩,⟨[],rP ha 0,0⟩,⟨[5],rP ha 0,0⟩,⟨[6],rP ha 1,0⟩,⟨[7],rv hb,1⟩,⟨[8],Al ((Dy l).length:Int),1⟩,⟨[4,9],rS l,2⟩,⟨[10],rS l,0⟩] (rle [(11,_),(2,[.blk ha [rP ha 0,rv hb] 112])]) [2] ?_ ?_))))
 ·refine oq (Ap rfl) (oq (A3 rfl) (oq (AK Hz rfl Lf rfl rfl) (of (Bu (i:=0) RP rfl rfl rfl) (of (NC (i:=1) rfl rfl (Ol g1)) (oq (Ap rfl) (oq (A3 rfl) (oq (AK Hz rfl Lf rfl rfl) (of (Bu (i:=0) RP rfl rfl rfl) (of (Dl (ys:=Dy l) (enc:=Bz) (i:=1) H8 rfl rfl) (I4 rfl (Adm (K4 (i:=1) Tryz.underlying150 (by kernel_rfl) rfl rfl rfl (Ol g1) rfl)) ?_))))))))));refine oq (Aw rfl) ?_;exact Cp
 refine AJ (As ?_);obtain rfl:=Au h2;exact Ar (Cb Tryz.results88 (A7 rfl)) (sS sN) ⟨rfl,rfl⟩
theorem CI (b:Nat)(v:Value)(l:Af)(c:Int)(g1:Dw 1 (l.length+1)=true)(g2:Bs .u8 c=true):Fn Tryz.prog GE 122 [rP b 0,rI .u8 c] [.bld 112 5 b v l] (λR H=>∃w0:Value,R=rv .nilIface∧H=[.bld 112 5 b w0 (l++[UInt8.ofNat c.toNat])]):=by
  have hc:Dy (l++[UInt8.ofNat c.toNat])=Dy l++[c]:=by
    have:=(by simpa[Bs,IntKind.min,IntKind.max,IntKind.signed,IntKind.bits] using g2:0≤c∧c≤255)
    simp only[Dy,Afj,AeR,List.map_nil]
    congr 2
    simp;omega
  refine Fn.bld (res:=rv .nilIface) λp hp=>?_;rw[hc];rcases hp with rfl | rfl
  · refine(Qb b v (Dy l) c (((),Dy l++[c])) ?_).sub (Iz.refl _) (λr H h=>by obtain⟨w0,h1,h2⟩:=h;exact⟨w0,h1,h2⟩)
    simp only[K3,Nv,Br,Dc];simp[AQ,g1]
  · refine(Qa b v (Dy l) c (((),Dy l++[c])) ?_).sub (Iz.refl _) (λr H h=>by obtain⟨w0,h1,h2⟩:=h;exact⟨w0,h1,h2⟩)
    simp only[K2,Nu,Br,Dc];simp[AQ,g1]
theorem IF (b:Nat)(v:Value)(l s:Af)(g1:Dw 1 (l.length+s.length)=true):Fn Tryz.prog GE 120 [rP b 0,rS s] [.bld 112 5 b v l] (λR H=>∃w0:Value,R=Ct [Al (s.length:Int),rv .nilIface]∧H=[.bld 112 5 b w0 (l++s)]):=by
  have hc:Dy (l++s)=Dy l++Dy s:=by simp[Dy]
  refine Fn.bld (res:=Ct [Al (s.length:Int),rv .nilIface]) λp hp=>?_;rw[hc];rcases hp with rfl | rfl
  · refine(NX b v (Dy l) s (((s.length:Int),(),Dy l++Dy s)) ?_).sub (Iz.refl _) (λr H h=>by obtain⟨w0,h1,h2⟩:=h;exact⟨w0,h1,h2⟩)
    simp only[IO,Nv,Br,Dc];simp[AQ,g1]
  · refine(NW b v (Dy l) s (((s.length:Int),(),Dy l++Dy s)) ?_).sub (Iz.refl _) (λr H h=>by obtain⟨w0,h1,h2⟩:=h;exact⟨w0,h1,h2⟩)
    simp only[IN,Nu,Br,Dc];simp[AQ,g1]
theorem Xr (b:Nat)(v:Value)(l:Af)(g1:decide (0<l.length)=true):Fn Tryz.prog GE 88 [rP b 0] [.bld 112 5 b v l] (λR H=>R=rS l∧H=[]):=by
  refine Fn.bldS (res:=rS l) λp hp=>?_;rcases hp with rfl | rfl
  · exact U8 b v l l (by simp only[PH,Dc];simp[AQ,g1])
  · exact U7 b v l l (by simp only[PG,Dc];simp[AQ,g1])
end Go.Proofs.YtjfnokmpfekniaaGreatDoor.Q
namespace Go.Proofs.YtjfnokmpfekniaaGreatDoor
open Go
set_option linter.unusedVariables false
structure Aa where
 fKind:Int
 fInt:Int
 fStr:Af
 fN:Int
 deriving DecidableEq,Inhabited
def KH (s:Af)(ha:Int):Option (Stp (Int) (Out (Bool) (Unit))):=
 Bi (decide (ha<(s.length:Int))) (AQ (Cw ha (s.length:Int))<|Bi (((decide ((AM s ha)<32))||(decide (126<(AM s ha))))) (some (.out (.ret false))) (AQ (Bs .i64 (ha+1))<|some (.next (ha+1)))) (some (.out (.go ())))
def KG :Option (Bool):=
 some true
def Km (F:Nat)(s:Af):Option (Bool):=
 Br (BJ (λσ=>KH s σ) F 0) (BE λν=>KG )
def BX (ok:Bool)(i:Int):Option (Int):=
 Bi (ok) (AQ (Bs .i64 (i+1))<|some (i+1)) (some (-1))
def PT (F:Nat)(c:Aa):Option (Bool):=
 AQ (imp (decide (c.fKind=4)) (imp (decide (c.fInt=0)) (imp (decide (c.fN=0)) ((Km F c.fStr).isSome))))<|some ((decide (c.fKind=4))&&((decide (c.fInt=0))&&((decide (c.fN=0))&&(ov (Km F c.fStr)))))
def Rb (F:Nat)(ha:(List Aa)→Int→Int→Option (Int))(hb:(List Aa)→Int→Int→Option (Int))(v:(List Aa))(i:Int):Option (Int):=
 Bi (((decide (i<0))||(decide ((v.length:Int)≤i)))) (some (-1)) (AQ (Cw i (v.length:Int))<|Bi (decide (((Aq v i).fKind)=1)) (AQ (imp (decide (((Aq v i).fInt)=0)) (imp (decide (((Aq v i).fStr)=([]:Af))) ((BX (decide (((Aq v i).fN)=0)) i).isSome)))<|AQ (imp (decide (((Aq v i).fInt)=0)) (imp (!(decide (((Aq v i).fStr)=([]:Af)))) ((BX false i).isSome)))<|AQ (imp (!(decide (((Aq v i).fInt)=0))) ((BX false i).isSome))<|some (bif decide (((Aq v i).fInt)=0) then(bif decide (((Aq v i).fStr)=([]:Af)) then(ov (BX (decide (((Aq v i).fN)=0)) i)) else(ov (BX false i))) else(ov (BX false i)))) (Bi (decide (((Aq v i).fKind)=2)) (AQ (imp (decide (((Aq v i).fInt)=0)) (imp (decide (((Aq v i).fStr)=([]:Af))) ((BX (decide (((Aq v i).fN)=0)) i).isSome)))<|AQ (imp (decide (((Aq v i).fInt)=0)) (imp (!(decide (((Aq v i).fStr)=([]:Af)))) ((BX false i).isSome)))<|AQ (imp (!(decide (((Aq v i).fInt)=0))) (imp (decide (((Aq v i).fInt)=1)) (imp (decide (((Aq v i).fStr)=([]:Af))) ((BX (decide (((Aq v i).fN)=0)) i).isSome))))<|AQ (imp (!(decide (((Aq v i).fInt)=0))) (imp (decide (((Aq v i).fInt)=1)) (imp (!(decide (((Aq v i).fStr)=([]:Af)))) ((BX false i).isSome))))<|AQ (imp (!(decide (((Aq v i).fInt)=0))) (imp (!(decide (((Aq v i).fInt)=1))) ((BX false i).isSome)))<|some (bif decide (((Aq v i).fInt)=0) then(bif decide (((Aq v i).fStr)=([]:Af)) then(ov (BX (decide (((Aq v i).fN)=0)) i)) else(ov (BX false i))) else(bif decide (((Aq v i).fInt)=1) then(bif decide (((Aq v i).fStr)=([]:Af)) then(ov (BX (decide (((Aq v i).fN)=0)) i)) else(ov (BX false i))) else(ov (BX false i))))) (Bi (decide (((Aq v i).fKind)=3)) (AQ (imp (decide (((Aq v i).fStr)=([]:Af))) ((BX (decide (((Aq v i).fN)=0)) i).isSome))<|AQ (imp (!(decide (((Aq v i).fStr)=([]:Af)))) ((BX false i).isSome))<|some (bif decide (((Aq v i).fStr)=([]:Af)) then(ov (BX (decide (((Aq v i).fN)=0)) i)) else(ov (BX false i)))) (Bi (decide (((Aq v i).fKind)=4)) (Br (PT F (Aq v i)) λhd=>Br (BX hd i) λhe=>some he) (Bi (((decide (((Aq v i).fKind)=5))&&((decide (((Aq v i).fInt)=0))&&((decide (((Aq v i).fStr)=([]:Af)))&&(decide (0≤((Aq v i).fN))))))) (AQ (Bs .i64 (i+1))<|Br (ha v (i+1) ((Aq v i).fN)) λhf=>some hf) (Bi (((decide (((Aq v i).fKind)=6))&&((decide (((Aq v i).fInt)=0))&&((decide (((Aq v i).fStr)=([]:Af)))&&(decide (0≤((Aq v i).fN))))))) (AQ (Bs .i64 (i+1))<|Br (hb v (i+1) ((Aq v i).fN)) λhg=>some hg) (some (-1))))))))
def Dr (v:(List Aa))(n:Int)(he:(List Aa)→Int→Option (Int))(hb:Int)(ha:Int):Option (Stp (Int×Int) (Out (Int) (Int))):=
 Bi (decide (ha<n)) (Br (he v hb) λhd=>Bi (decide (hd<0)) (some (.out (.ret (-1)))) (AQ (Bs .i64 (ha+1))<|some (.next (hd,ha+1)))) (some (.out (.go hb)))
def EK (ha:Int):Option (Int):=
 some ha
def JA (F:Nat)(ha:(List Aa)→Int→Option (Int))(v:(List Aa))(i:Int)(n:Int):Option (Int):=
 Br (BJ (λσ=>Dr v n ha σ.1 σ.2) F (i,0)) (BE λν=>EK ν)
def DV (F:Nat)(v:(List Aa))(n:Int)(hf:(List Aa)→Int→Option (Int))(ha:Int)(hd:Af)(hb:Int):Option (Stp (Int×Af×Int) (Out (Int) (Int))):=
 Bi (decide (hb<n)) (AQ (imp (!(decide ((v.length:Int)≤ha))) (Cw ha (v.length:Int)))<|AQ (imp (!(decide ((v.length:Int)≤ha))) ((PT F (Aq v ha)).isSome))<|Bi (((decide ((v.length:Int)≤ha))||((!(ov (PT F (Aq v ha))))||((decide (0<hb))&&(BR ((Aq v ha).fStr) hd||decide (((Aq v ha).fStr)=hd)))))) (some (.out (.ret (-1)))) (AQ (Cw ha (v.length:Int))<|AQ (Bs .i64 (ha+1))<|Br (hf v (ha+1)) λhe=>Bi (decide (he<0)) (some (.out (.ret (-1)))) (AQ (Bs .i64 (hb+1))<|some (.next (he,(Aq v ha).fStr,hb+1))))) (some (.out (.go ha)))
def HV (ha:Int):Option (Int):=
 some ha
def Of (F:Nat)(ha:(List Aa)→Int→Option (Int))(v:(List Aa))(i:Int)(n:Int):Option (Int):=
 Br (BJ (λσ=>DV F v n ha σ.1 σ.2.1 σ.2.2) F (i,([]:Af),0)) (BE λν=>HV ν)
mutual
def Eb:Nat→(List Aa)→Int→Option (Int)
 | 0,_,_=>none
 | nn+1,v,i=>Rb nn (HW nn) (MX nn) v i
def HW:Nat→(List Aa)→Int→Int→Option (Int)
 | 0,_,_,_=>none
 | nn+1,v,i,n=>JA nn (Eb nn) v i n
def MX:Nat→(List Aa)→Int→Int→Option (Int)
 | 0,_,_,_=>none
 | nn+1,v,i,n=>Of nn (Eb nn) v i n
end
def Md (F:Nat)(v:(List Aa)):Option (Bool):=
 AQ (imp (decide (0<(v.length:Int))) ((Eb F v 0).isSome))<|some ((decide (0<(v.length:Int)))&&(decide ((ov (Eb F v 0))=(v.length:Int))))
def Dh (F:Nat)(v:(List Aa))(i:Int)(he:(List Aa)→Int→Option (Int))(hd:Int)(hb:Int)(ha:Int):Option (Stp (Int×Int×Int) (Out (Int) (Int))):=
 Bi (decide (ha<((Aq v i).fN))) (Bi (decide (((Aq v i).fKind)=6)) (AQ (Bs .i64 (hb+1))<|Br (he v (hb+1)) λhf=>Bi (decide (hd<hf)) (Br (Eb F v (hb+1)) λhh=>AQ (Bs .i64 (ha+1))<|some (.next (hf,hh,ha+1))) (Br (Eb F v (hb+1)) λhi=>AQ (Bs .i64 (ha+1))<|some (.next (hd,hi,ha+1)))) (Br (he v hb) λhg=>Bi (decide (hd<hg)) (Br (Eb F v hb) λhj=>AQ (Bs .i64 (ha+1))<|some (.next (hg,hj,ha+1))) (Br (Eb F v hb) λhk=>AQ (Bs .i64 (ha+1))<|some (.next (hd,hk,ha+1))))) (some (.out (.go hd)))
def E3 (ha:Int):Option (Int):=
 AQ (Bs .i64 (ha+1))<|some (ha+1)
def Je (F:Nat)(ha:(List Aa)→Int→Option (Int))(v:(List Aa))(i:Int):Option (Int):=
 AQ (Cw i (v.length:Int))<|Bi (((!decide (((Aq v i).fKind)=5))&&(!decide (((Aq v i).fKind)=6)))) (some 1) (AQ (Bs .i64 (i+1))<|Br (BJ (λσ=>Dh F v i ha σ.1 σ.2.1 σ.2.2) F (0,i+1,0)) (BE λν=>E3 ν))
def D8:Nat→(List Aa)→Int→Option (Int)
 | 0,_,_=>none
 | nn+1,v,i=>Je nn (D8 nn) v i
def D5 (s:Af)(hb:Af)(ha:Int):Option (Stp (Af×Int) (Out (Af) (Af))):=
 Bi (decide (ha<(s.length:Int))) (AQ (Cw ha (s.length:Int))<|Bi (((decide ((AM s ha)=34))||(decide ((AM s ha)=92)))) (AQ (Bs .i64 ((hb.length:Int)+(([92]:Af).length:Int)))<|AQ (Bs .i64 (ha+1))<|AQ (Gr ha (ha+1))<|AQ (Gr (ha+1) (s.length:Int))<|AQ (Bs .i64 (((hb++([92]:Af)).length:Int)+((List.take (Int.toNat (ha+1)-Int.toNat ha) (List.drop (Int.toNat ha) s)).length:Int)))<|some (.next ((hb++([92]:Af))++(List.take (Int.toNat (ha+1)-Int.toNat ha) (List.drop (Int.toNat ha) s)),ha+1))) (AQ (Bs .i64 (ha+1))<|AQ (Gr ha (ha+1))<|AQ (Gr (ha+1) (s.length:Int))<|AQ (Bs .i64 ((hb.length:Int)+((List.take (Int.toNat (ha+1)-Int.toNat ha) (List.drop (Int.toNat ha) s)).length:Int)))<|some (.next (hb++(List.take (Int.toNat (ha+1)-Int.toNat ha) (List.drop (Int.toNat ha) s)),ha+1)))) (some (.out (.go hb)))
def Ef (ha:Af):Option (Af):=
 AQ (Bs .i64 ((ha.length:Int)+(([34]:Af).length:Int)))<|some (ha++([34]:Af))
def J9 (F:Nat)(s:Af):Option (Af):=
 Br (BJ (λσ=>D5 s σ.1 σ.2) F (([34]:Af),0)) (BE λν=>Ef ν)
def E2 (F:Nat)(v:(List Aa))(i:Int)(he:(List Aa)→Int→Option (Af))(ha:Af)(hb:Int)(hd:Int):Option (Stp (Af×Int×Int) (Out (Af) (Af))):=
 Bi (decide (hd<((Aq v i).fN))) (Bi (decide (0<hd)) (AQ (Bs .i64 ((ha.length:Int)+(([44]:Af).length:Int)))<|Bi (decide (((Aq v i).fKind)=6)) (AQ (Cw hb (v.length:Int))<|Br (J9 F ((Aq v hb).fStr)) λhf=>AQ (Bs .i64 (((ha++([44]:Af)).length:Int)+(hf.length:Int)))<|AQ (Bs .i64 ((((ha++([44]:Af))++hf).length:Int)+(([58]:Af).length:Int)))<|AQ (Bs .i64 (hb+1))<|Br (he v (hb+1)) λhh=>AQ (Bs .i64 (((((ha++([44]:Af))++hf)++([58]:Af)).length:Int)+(hh.length:Int)))<|Br (Eb F v (hb+1)) λhl=>AQ (Bs .i64 (hd+1))<|some (.next ((((ha++([44]:Af))++hf)++([58]:Af))++hh,hl,hd+1))) (Br (he v hb) λhi=>AQ (Bs .i64 (((ha++([44]:Af)).length:Int)+(hi.length:Int)))<|Br (Eb F v hb) λhm=>AQ (Bs .i64 (hd+1))<|some (.next ((ha++([44]:Af))++hi,hm,hd+1)))) (Bi (decide (((Aq v i).fKind)=6)) (AQ (Cw hb (v.length:Int))<|Br (J9 F ((Aq v hb).fStr)) λhg=>AQ (Bs .i64 ((ha.length:Int)+(hg.length:Int)))<|AQ (Bs .i64 (((ha++hg).length:Int)+(([58]:Af).length:Int)))<|AQ (Bs .i64 (hb+1))<|Br (he v (hb+1)) λhj=>AQ (Bs .i64 ((((ha++hg)++([58]:Af)).length:Int)+(hj.length:Int)))<|Br (Eb F v (hb+1)) λhn=>AQ (Bs .i64 (hd+1))<|some (.next (((ha++hg)++([58]:Af))++hj,hn,hd+1))) (Br (he v hb) λhk=>AQ (Bs .i64 ((ha.length:Int)+(hk.length:Int)))<|Br (Eb F v hb) λho=>AQ (Bs .i64 (hd+1))<|some (.next (ha++hk,ho,hd+1))))) (some (.out (.go ha)))
def In (v:(List Aa))(i:Int)(ha:Af):Option (Af):=
 Bi (decide (((Aq v i).fKind)=6)) (AQ (Bs .i64 ((([123]:Af).length:Int)+(ha.length:Int)))<|AQ (Bs .i64 (((([123]:Af)++ha).length:Int)+(([125]:Af).length:Int)))<|some ((([123]:Af)++ha)++([125]:Af))) (AQ (Bs .i64 ((([91]:Af).length:Int)+(ha.length:Int)))<|AQ (Bs .i64 (((([91]:Af)++ha).length:Int)+(([93]:Af).length:Int)))<|some ((([91]:Af)++ha)++([93]:Af)))
def MT (F:Nat)(ha:(List Aa)→Int→Option (Af))(v:(List Aa))(i:Int):Option (Af):=
 AQ (Cw i (v.length:Int))<|Bi (decide (((Aq v i).fKind)=1)) (some ([110,117,108,108]:Af)) (Bi (decide (((Aq v i).fKind)=2)) (Bi (decide (((Aq v i).fInt)=1)) (some ([116,114,117,101]:Af)) (some ([102,97,108,115,101]:Af))) (Bi (decide (((Aq v i).fKind)=3)) (AQ (Bs .i64 ((Aq v i).fInt))<|some (Lib.itoa ((Aq v i).fInt))) (Bi (decide (((Aq v i).fKind)=4)) (Br (J9 F ((Aq v i).fStr)) λhb=>some hb) (AQ (Bs .i64 (i+1))<|Br (BJ (λσ=>E2 F v i ha σ.1 σ.2.1 σ.2.2) F (([]:Af),i+1,0)) (BE λν=>In v i ν)))))
def H3:Nat→(List Aa)→Int→Option (Af)
 | 0,_,_=>none
 | nn+1,v,i=>MT nn (H3 nn) v i
def EL (v:(List Aa))(ha:Int):Option (Stp (Int) (Out (Int) (Unit))):=
 Bi (decide (ha<(v.length:Int))) (AQ (Cw ha (v.length:Int))<|Bi (decide (200<(((Aq v ha).fStr).length:Int))) (some (.out (.ret 3))) (AQ (Bs .i64 (ha+1))<|some (.next (ha+1)))) (some (.out (.go ())))
def Jf (F:Nat)(v:(List Aa)):Option (Int):=
 Br (H3 F v 0) λha=>Bi (decide (4000<(ha.length:Int))) (some 3) (some 0)
def EM (v:(List Aa))(ha:Int):Option (Stp (Int) (Out (Int) (Unit))):=
 Bi (decide (ha<(v.length:Int))) (AQ (Cw ha (v.length:Int))<|Bi (((decide (((Aq v ha).fKind)=3))&&((decide (((Aq v ha).fInt)<(-1000000000000)))||(decide (1000000000000<((Aq v ha).fInt)))))) (some (.out (.ret 2))) (AQ (Bs .i64 (ha+1))<|some (.next (ha+1)))) (some (.out (.go ())))
def Jg (F:Nat)(v:(List Aa)):Option (Int):=
 AQ (imp (!(decide (200<(v.length:Int)))) ((D8 F v 0).isSome))<|Bi (((decide (200<(v.length:Int)))||(decide (8<(ov (D8 F v 0)))))) (some 3) (Br (BJ (λσ=>EL v σ) F 0) (BE λν=>Jf F v ))
def MZ (F:Nat)(v:(List Aa)):Option (Int):=
 Br (Md F v) λr1=>Bi (!r1) (some 1) (Br (BJ (λσ=>EM v σ) F 0) (BE λν=>Jg F v ))
end Go.Proofs.YtjfnokmpfekniaaGreatDoor
namespace Go.Proofs.YtjfnokmpfekniaaGreatDoor.Q
open Go Go.RowKit
set_option linter.unusedVariables false
set_option linter.unusedSimpArgs false
set_option maxRecDepth 100000
set_option maxHeartbeats 4000000
@[reducible] def Ab (x:Aa):List Rp:=[Al x.fKind,Al x.fInt,rS x.fStr,Al x.fN]
theorem AU (x:Aa):(Ab x).length=4:=rfl
theorem BP (x:Aa):(Ab x).all (·.one)=true:=rfl
theorem Yl (F:Nat)(s:Af)(r:Bool)(h:Km F s=some r):Fn Tryz.prog GE 156 [rS s] [] (λR H=>R=rB r∧H=[]):=by
 refine enter (n:=20) Tryz.func156 rfl Tryz.ntmps156 rfl (λw Z=>?_);unfold Km at h;refine Ad (wa rfl (Ak (Ai (Ad (wa rfl (Ak (AF (ob h λhi hj hg=>Bo (S:=Nat×(Int)×(Unit)) (V:=(Unit)×(Unit)) 0 (λσ=>BJ (λσ=>KH s σ) σ.1 σ.2.1=some hi) (λσ=>[(0,rS s),(3,Al σ.2.1)]) (λσ=>[]) (λσ=>σ.1) (F,0,()) hj (AD.c rfl (AD.c rfl AD.nil)) sN (λσ=>KG =some r) (λσ=>[]) (λσ=>[]) ?_ ?_))))))))
 ·rintro⟨hz,hb,⟨⟩⟩ hk;refine BO (l':=[(0,rS s),(3,Al hb)]) (H':=[]) rfl rfl ?_;obtain⟨hl,rfl,t37,hd,hf⟩:=Ck hk;replace hd:KH s hb=some t37:=hd;unfold KH at hd;refine Ai (Ad (wm rfl (wm rfl (wv (Bg BQ rfl) (wv (Cf rfl rfl) (Ak (cz hd rfl (λhm hn=>?_) (λhm ho=>?_))))))))
  ·refine Am (AJ (Ai (AF (ck hn λhh hp=>A8 [(0,rS s),(3,Al hb),(19,rB ((decide ((AM s hb)<32))||(decide (126<(AM s hb)))))] [] ?_ ?_))))
   ·refine Ag (wm rfl (wm rfl (wv (AS BQ rfl rfl hh) (wv (Cf rfl rfl) (wm rfl (AN (decide ((AM s hb)<32)) (λha=>?_) (λha=>?_)))))))
    ·refine wf ha (wf ha (wf ha (wf ha (wv (r:=rB true) (A1 rfl ha rfl) (Aj ?_)))));exact Ca ha
    ·refine wo ha (wm rfl (wo ha (wm rfl (wo ha (wv (AS BQ rfl rfl hh) (wo ha (wv (Cm rfl rfl) (Et rfl ha rfl (Aj ?_)))))))));exact Ca ha
   refine cz hp rfl (λhq hr=>?_) (λhq hs=>?_)
   ·refine Ad (wa rfl (Ak (As (Ay (Ac (Ac (AY ?_)))))));have ht:=Bt hr hf hg;refine Ay (Ac ?_);obtain rfl:=Au ht;exact Ar (Cb Tryz.results156 (A7 rfl)) sN ⟨rfl,rfl⟩
   ·refine Am (AA (AJ (Ag (wm rfl (ck hs λhu hw=>wv (Bb rfl rfl hu) (wa rfl (Aj ?_)))))));have hx:=Be hw hf;exact Av (A5 (hl,hb+1,()) ⟨hx,Aeo _⟩ (AD.c rfl (AD.c rfl AD.nil)) sN)
  ·refine Bq (Ax ?_);have hy:=BL ho hf hg;exact Ax (Bd (A5 ((),()) hy AD.nil sN))
 ·rintro⟨⟨⟩,⟨⟩⟩ he;refine Cl (l':=[]) (H':=[]) rfl rfl ?_;replace he:KG =some r:=he;unfold KG at he;refine Bc (AJ (Ad (wa rfl (Ak (As ?_)))));obtain rfl:=Au he;exact Ar (Cb Tryz.results156 (A7 rfl)) sN ⟨rfl,rfl⟩
theorem E4 (ok:Bool)(i:Int)(r:Int)(h:BX ok i=some r):Fn Tryz.prog GE 127 [rB ok,Al i] [] (λR H=>R=Al r∧H=[]):=by
 refine enter (n:=8) Tryz.func127 rfl Tryz.ntmps127 rfl (λw Z=>?_);unfold BX at h;refine Ad (wa rfl (Ak (Ai (Ad (wm rfl (Ak (cz h rfl (λc1 h2=>?_) (λc1 h5=>?_))))))))
 ·refine Ad (wm rfl (ck h2 λg3 h4=>wv (Bb rfl rfl g3) (wa rfl (Ak (As (Ac ?_))))));obtain rfl:=Au h4;exact Ar (Cb Tryz.results127 (A7 rfl)) sN ⟨rfl,rfl⟩
 ·refine Am (AJ (Ad (wv (r:=Al (-1)) (Aw rfl) (Ak (As ?_)))));obtain rfl:=Au h5;exact Ar (Cb Tryz.results127 (A7 rfl)) sN ⟨rfl,rfl⟩
theorem Yo (F:Nat)(c:Aa)(r:Bool)(h:PT F c=some r):Fn Tryz.prog GE 128 [BC (Ab c)] [] (λR H=>R=rB r∧H=[]):=by
 refine enter (n:=21) Tryz.func128 rfl Tryz.ntmps128 rfl (λw Z=>?_);unfold PT at h;refine Ad (DI rfl rfl (λb1=>?_));refine wa rfl (Ak (ck h λg2 h3=>A8 [(2,rB ((decide (c.fKind=4))&&((decide (c.fInt=0))&&((decide (c.fN=0))&&(ov (Km F c.fStr))))))] [] ?_ ?_))
 ·refine Ag (vF B8 rfl Er (vL 0 EE rfl (wv (B3 rfl rfl) (wm rfl (AN (decide (c.fKind=4)) (λc4=>?_) (λc4=>?_))))))
  ·refine wo c4 (vF B8 rfl Cs (wo c4 (vL 0 CR rfl (wo c4 (wv (B3 rfl rfl) (Es rfl c4 rfl (wm rfl (AN (decide (c.fInt=0)) (λc5=>?_) (λc5=>?_)))))))))
   ·refine wo c5 (vF B8 rfl Cs (wo c5 (vL 0 CR rfl (wo c5 (wv (B3 rfl rfl) (Es rfl c5 rfl (wm rfl (AN (decide (c.fN=0)) (λc6=>?_) (λc6=>?_)))))))))
    ·refine wo c6 (vF B8 rfl Da (wo c6 (vL 0 DE rfl (wo c6 (Cu Tryz.call156 (Yl F c.fStr (ov (Km F c.fStr)) (HI (Cz (Cz (Cz g2 c4) c5) c6))) rfl (Es rfl c6 rfl (wa rfl (Aj ?_))))))));exact Ca (And.intro c4 (And.intro c5 c6))
    ·refine wf c6 (wf c6 (wf c6 (wv (r:=rB false) (A6 rfl c6 rfl) (wa rfl (Aj ?_)))));exact Ca (And.intro c4 (And.intro c5 c6))
   ·refine wf c5 (wf c5 (wf c5 (wv (r:=rB false) (A6 rfl c5 rfl) (wm rfl (wz rfl rfl (wz rfl rfl (wz rfl rfl (wv (r:=rB false) (A6 (b:=false) rfl rfl rfl) (wa rfl (Aj ?_))))))))));exact Ca (And.intro c4 c5)
  ·refine wf c4 (wf c4 (wf c4 (wv (r:=rB false) (A6 rfl c4 rfl) (wm rfl (wz rfl rfl (wz rfl rfl (wz rfl rfl (wv (r:=rB false) (A6 (b:=false) rfl rfl rfl) (wm rfl (wz rfl rfl (wz rfl rfl (wz rfl rfl (wv (r:=rB false) (A6 (b:=false) rfl rfl rfl) (wa rfl (Aj ?_)))))))))))))));exact Ca c4
 refine As ?_;obtain rfl:=Au h3;exact Ar (Cb Tryz.results128 (A7 rfl)) sN ⟨rfl,rfl⟩
theorem Yn (F:Nat)(hn:(List Aa)→Int→Int→Option (Int))(ho:(List Aa)→Int→Int→Option (Int))(hq:(∀(v:(List Aa)) (i:Int) (n:Int) (r:Int),hn v i n=some r→Fn Tryz.prog GE 129 [AX 4 (AE Ab v),Al i,Al n] [] (λR H=>R=Al r∧H=[])))(hr:(∀(v:(List Aa)) (i:Int) (n:Int) (r:Int),ho v i n=some r→Fn Tryz.prog GE 130 [AX 4 (AE Ab v),Al i,Al n] [] (λR H=>R=Al r∧H=[])))(v:(List Aa))(i:Int)(r:Int)(h:Rb F hn ho v i=some r):Fn Tryz.prog GE 93 [AX 4 (AE Ab v),Al i] [] (λR H=>R=Al r∧H=[]):=by
 refine enter (n:=127) Tryz.func93 rfl Tryz.ntmps93 rfl (λw Z=>?_);unfold Rb at h;refine Ad (wa rfl (Ak (Ai (A8 [(0,AX 4 (AE Ab v)),(1,Al i),(13,rB ((decide (i<0))||(decide ((v.length:Int)≤i))))] [] ?_ ?_))))
 ·refine Ag (wm rfl (wv (Cf rfl rfl) (wm rfl (AN (decide (i<0)) (λc1=>?_) (λc1=>?_)))))
  ·refine wf c1 (wf c1 (wf c1 (wf c1 (wv (r:=rB true) (A1 rfl c1 rfl) (Aj ?_)))));exact Ca c1
  ·refine wo c1 (wm rfl (wo c1 (wm rfl (wo c1 (wv (Bv (ys:=v) (enc:=Ab) BY rfl) (wo c1 (wv (Ga rfl rfl) (Et rfl c1 rfl (Aj ?_)))))))));exact Ca c1
 refine cz h rfl (λc2 h3=>?_) (λc2 h4=>?_)
 ·refine Ad (wv (r:=Al (-1)) (Aw rfl) (Ak (As (Ac ?_))));obtain rfl:=Au h3;exact Ar (Cb RJ (A7 rfl)) sN ⟨rfl,rfl⟩
 ·refine Am (AJ (Ad (wm rfl (wm rfl (ck h4 λg5 h6=>wv (By (enc:=Ab) (ys:=v) BY Co rfl rfl g5) (wv (Dd MP Co rfl rfl rfl) (Cd (cs:=[Al 0,Al 0,rS ([]:Af),Al 0]) EU rfl rfl (λb7=>?_))))))));refine Bp (i:=0) Co rfl rfl rfl (BM.c rfl) rfl rfl (cs':=[Al ((Aq v i).fKind),Al ((Aq v i).fInt),rS ((Aq v i).fStr),Al ((Aq v i).fN)]) rfl (H':=[.blk b7 (Ab (Aq v i)) 78]) rfl (Ak (Ai (Ad (vF B8 rfl Er (vL 0 EE rfl (wv (B3 rfl rfl) (Ak (cz h6 rfl (λc8 h9=>?_) (λc8 hs=>?_)))))))))
  ·refine ck h9 λht hu=>ck hu λhw hx=>ck hx λhy hz=>A8 [(4,Al (bif decide (((Aq v i).fInt)=0) then(bif decide (((Aq v i).fStr)=([]:Af)) then(ov (BX (decide (((Aq v i).fN)=0)) i)) else(ov (BX false i))) else(ov (BX false i))))] [] ?_ ?_
   ·refine Ag (vF B8 rfl Cs (vL 0 CR rfl (wv (B3 rfl rfl) (wm rfl (AN (decide (((Aq v i).fInt)=0)) (λhb=>?_) (λhb=>?_))))))
    ·refine wo hb (vF B8 rfl Da (wo hb (vL 0 DE rfl (wo hb (wv (El rfl rfl) (Es rfl hb rfl (wm rfl (AN (decide (((Aq v i).fStr)=([]:Af))) (λhe=>?_) (λhe=>?_)))))))))
     ·refine wo he (vF B8 rfl Cs (wo he (vL 0 CR rfl (wo he (wv (B3 rfl rfl) (Es rfl he rfl (wm rfl (Cu Kf (E4 (decide (((Aq v i).fN)=0)) i (ov (BX (decide (((Aq v i).fN)=0)) i)) (HI (Cz (Cz ht hb) he))) rfl (wa rfl (Aj ?_))))))))));exact Ca (And.intro hb he)
     ·refine wf he (wf he (wf he (wv (r:=rB false) (A6 rfl he rfl) (wm rfl (Cu Kf (E4 false i (ov (BX false i)) (HI (CQ (Cz hw hb) he))) rfl (wa rfl (Aj ?_)))))));exact Ca (And.intro hb he)
    ·refine wf hb (wf hb (wf hb (wv (r:=rB false) (A6 rfl hb rfl) (wm rfl (wz rfl rfl (wz rfl rfl (wz rfl rfl (wv (r:=rB false) (A6 (b:=false) rfl rfl rfl) (wm rfl (Cu Kf (E4 false i (ov (BX false i)) (HI (CQ hy hb))) rfl (wa rfl (Aj ?_))))))))))));exact Ca hb
   refine As (Ac ?_);obtain rfl:=Au hz;exact Ar (Cb RJ (A7 rfl)) sN ⟨rfl,rfl⟩
  ·refine Am (AJ (Ai (Ad (vF B8 rfl Er (vL 0 EE rfl (wv (B3 rfl rfl) (Ak (cz hs rfl (λh0 h1=>?_) (λh0 h2=>?_)))))))))
   ·refine ck h1 λh5 h7=>ck h7 λh8 hA=>ck hA λhB hC=>ck hC λhD hE=>ck hE λhG hH=>A8 [(4,Al (bif decide (((Aq v i).fInt)=0) then(bif decide (((Aq v i).fStr)=([]:Af)) then(ov (BX (decide (((Aq v i).fN)=0)) i)) else(ov (BX false i))) else(bif decide (((Aq v i).fInt)=1) then(bif decide (((Aq v i).fStr)=([]:Af)) then(ov (BX (decide (((Aq v i).fN)=0)) i)) else(ov (BX false i))) else(ov (BX false i)))))] [] ?_ ?_
    ·refine Ag (vF B8 rfl Cs (vL 0 CR rfl (wv (B3 rfl rfl) (wm rfl (AN (decide (((Aq v i).fInt)=0)) (λha=>?_) (λha=>?_))))))
     ·refine wf ha (wf ha (wf ha (wv (r:=rB true) (A1 rfl ha rfl) (wm rfl (Bj (b:=true) rfl rfl rfl (vF B8 rfl Da (Bj (b:=true) rfl rfl rfl (vL 0 DE rfl (Bj (b:=true) rfl rfl rfl (wv (El rfl rfl) (wv (r:=rB (decide (((Aq v i).fStr)=([]:Af)))) (A1 (b:=true) rfl rfl rfl) (wm rfl (AN (decide (((Aq v i).fStr)=([]:Af))) (λhf=>?_) (λhf=>?_))))))))))))))
      ·refine wo hf (vF B8 rfl Cs (wo hf (vL 0 CR rfl (wo hf (wv (B3 rfl rfl) (Es rfl hf rfl (wm rfl (Cu Kf (E4 (decide (((Aq v i).fN)=0)) i (ov (BX (decide (((Aq v i).fN)=0)) i)) (HI (Cz (Cz h5 ha) hf))) rfl (wa rfl (Aj ?_))))))))));exact Ca (And.intro ha hf)
      ·refine wf hf (wf hf (wf hf (wv (r:=rB false) (A6 rfl hf rfl) (wm rfl (Cu Kf (E4 false i (ov (BX false i)) (HI (CQ (Cz h8 ha) hf))) rfl (wa rfl (Aj ?_)))))));exact Ca (And.intro ha hf)
     ·refine wo ha (vF B8 rfl Cs (wo ha (vL 0 CR rfl (wo ha (wv (B3 rfl rfl) (Et rfl ha rfl (wm rfl (AN (decide (((Aq v i).fInt)=1)) (λhd=>?_) (λhd=>?_)))))))))
      ·refine wo hd (vF B8 rfl Da (wo hd (vL 0 DE rfl (wo hd (wv (El rfl rfl) (Es rfl hd rfl (wm rfl (AN (decide (((Aq v i).fStr)=([]:Af))) (λhg=>?_) (λhg=>?_)))))))))
       ·refine wo hg (vF B8 rfl Cs (wo hg (vL 0 CR rfl (wo hg (wv (B3 rfl rfl) (Es rfl hg rfl (wm rfl (Cu Kf (E4 (decide (((Aq v i).fN)=0)) i (ov (BX (decide (((Aq v i).fN)=0)) i)) (HI (Cz (Cz (CQ hB ha) hd) hg))) rfl (wa rfl (Aj ?_))))))))));exact Ca (And.intro ha (And.intro hd hg))
       ·refine wf hg (wf hg (wf hg (wv (r:=rB false) (A6 rfl hg rfl) (wm rfl (Cu Kf (E4 false i (ov (BX false i)) (HI (CQ (Cz (CQ hD ha) hd) hg))) rfl (wa rfl (Aj ?_)))))));exact Ca (And.intro ha (And.intro hd hg))
      ·refine wf hd (wf hd (wf hd (wv (r:=rB false) (A6 rfl hd rfl) (wm rfl (wz rfl rfl (wz rfl rfl (wz rfl rfl (wv (r:=rB false) (A6 (b:=false) rfl rfl rfl) (wm rfl (Cu Kf (E4 false i (ov (BX false i)) (HI (CQ (CQ hG ha) hd))) rfl (wa rfl (Aj ?_))))))))))));exact Ca (And.intro ha hd)
    refine As (Ac ?_);obtain rfl:=Au hH;exact Ar (Cb RJ (A7 rfl)) sN ⟨rfl,rfl⟩
   ·refine Am (AJ (Ai (Ad (vF B8 rfl Er (vL 0 EE rfl (wv (B3 rfl rfl) (Ak (cz h2 rfl (λhI hJ=>?_) (λhI hK=>?_)))))))))
    ·refine ck hJ λhL hN=>ck hN λhO hP=>A8 [(4,Al (bif decide (((Aq v i).fStr)=([]:Af)) then(ov (BX (decide (((Aq v i).fN)=0)) i)) else(ov (BX false i))))] [] ?_ ?_
     ·refine Ag (vF B8 rfl Da (vL 0 DE rfl (wv (El rfl rfl) (wm rfl (AN (decide (((Aq v i).fStr)=([]:Af))) (λhh=>?_) (λhh=>?_))))))
      ·refine wo hh (vF B8 rfl Cs (wo hh (vL 0 CR rfl (wo hh (wv (B3 rfl rfl) (Es rfl hh rfl (wm rfl (Cu Kf (E4 (decide (((Aq v i).fN)=0)) i (ov (BX (decide (((Aq v i).fN)=0)) i)) (HI (Cz hL hh))) rfl (wa rfl (Aj ?_))))))))));exact Ca hh
      ·refine wf hh (wf hh (wf hh (wv (r:=rB false) (A6 rfl hh rfl) (wm rfl (Cu Kf (E4 false i (ov (BX false i)) (HI (CQ hO hh))) rfl (wa rfl (Aj ?_)))))));exact Ca hh
     refine As (Ac ?_);obtain rfl:=Au hP;exact Ar (Cb RJ (A7 rfl)) sN ⟨rfl,rfl⟩
    ·refine Am (AJ (Ai (Ad (vF B8 rfl Er (vL 0 EE rfl (wv (B3 rfl rfl) (Ak (cz hK rfl (λhQ hR=>?_) (λhQ hS=>?_)))))))))
     ·refine Ad (wv (B5 (i:=0) MP Co rfl rfl rfl rfl) (ob hR λhp hT hU=>Cu Tryz.call128 (Yo F (Aq v i) hp hT) rfl (wm rfl (ob hU λhV hW hX=>Cu Kf (E4 hp i hV hW) rfl (wa rfl (Ak (As (Ac ?_))))))));obtain rfl:=Au hX;exact Ar (Cb RJ (A7 rfl)) (sS sN) ⟨rfl,rfl⟩
     ·refine Am (AJ (Ai (A8 [(0,AX 4 (AE Ab v)),(1,Al i),(5,rP b7 0),(96,rB ((decide (((Aq v i).fKind)=5))&&((decide (((Aq v i).fInt)=0))&&((decide (((Aq v i).fStr)=([]:Af)))&&(decide (0≤((Aq v i).fN)))))))] [.blk b7 (Ab (Aq v i)) 78] ?_ ?_)))
      ·refine Ag (vF B8 rfl Er (vL 0 EE rfl (wv (B3 rfl rfl) (wm rfl (AN (decide (((Aq v i).fKind)=5)) (λc53=>?_) (λc53=>?_))))))
       ·refine wo c53 (vF B8 rfl Cs (wo c53 (vL 0 CR rfl (wo c53 (wv (B3 rfl rfl) (Es rfl c53 rfl (wm rfl (AN (decide (((Aq v i).fInt)=0)) (λhj=>?_) (λhj=>?_)))))))))
        ·refine wo hj (vF B8 rfl Da (wo hj (vL 0 DE rfl (wo hj (wv (El rfl rfl) (Es rfl hj rfl (wm rfl (AN (decide (((Aq v i).fStr)=([]:Af))) (λhl=>?_) (λhl=>?_)))))))))
         ·refine wo hl (vF B8 rfl Cs (wo hl (vL 0 CR rfl (wo hl (wv (Ga rfl rfl) (Es rfl hl rfl (Aj ?_)))))));exact Ca (And.intro c53 (And.intro hj hl))
         ·refine wf hl (wf hl (wf hl (wv (r:=rB false) (A6 rfl hl rfl) (Aj ?_))));exact Ca (And.intro c53 (And.intro hj hl))
        ·refine wf hj (wf hj (wf hj (wv (r:=rB false) (A6 rfl hj rfl) (wm rfl (wz rfl rfl (wz rfl rfl (wz rfl rfl (wv (r:=rB false) (A6 (b:=false) rfl rfl rfl) (Aj ?_)))))))));exact Ca (And.intro c53 hj)
       ·refine wf c53 (wf c53 (wf c53 (wv (r:=rB false) (A6 rfl c53 rfl) (wm rfl (wz rfl rfl (wz rfl rfl (wz rfl rfl (wv (r:=rB false) (A6 (b:=false) rfl rfl rfl) (wm rfl (wz rfl rfl (wz rfl rfl (wz rfl rfl (wv (r:=rB false) (A6 (b:=false) rfl rfl rfl) (Aj ?_))))))))))))));exact Ca c53
      refine cz hS rfl (λhY hZ=>?_) (λhY ga=>?_)
      ·refine Ad (wm rfl (wm rfl (ck hZ λgb gc=>wv (Bb rfl rfl gb) (vF B8 rfl Cs (vL 0 CR rfl (ob gc λgd ge gf=>Cu Tryz.call129 (hq v (i+1) ((Aq v i).fN) gd ge) rfl (wa rfl (Ak (As (Ac ?_))))))))));obtain rfl:=Au gf;exact Ar (Cb RJ (A7 rfl)) (sS sN) ⟨rfl,rfl⟩
      ·refine Am (AJ (Ai (A8 [(0,AX 4 (AE Ab v)),(1,Al i),(5,rP b7 0),(120,rB ((decide (((Aq v i).fKind)=6))&&((decide (((Aq v i).fInt)=0))&&((decide (((Aq v i).fStr)=([]:Af)))&&(decide (0≤((Aq v i).fN)))))))] [.blk b7 (Ab (Aq v i)) 78] ?_ ?_)))
       ·refine Ag (vF B8 rfl Er (vL 0 EE rfl (wv (B3 rfl rfl) (wm rfl (AN (decide (((Aq v i).fKind)=6)) (λhi=>?_) (λhi=>?_))))))
        ·refine wo hi (vF B8 rfl Cs (wo hi (vL 0 CR rfl (wo hi (wv (B3 rfl rfl) (Es rfl hi rfl (wm rfl (AN (decide (((Aq v i).fInt)=0)) (λhk=>?_) (λhk=>?_)))))))))
         ·refine wo hk (vF B8 rfl Da (wo hk (vL 0 DE rfl (wo hk (wv (El rfl rfl) (Es rfl hk rfl (wm rfl (AN (decide (((Aq v i).fStr)=([]:Af))) (λhm=>?_) (λhm=>?_)))))))))
          ·refine wo hm (vF B8 rfl Cs (wo hm (vL 0 CR rfl (wo hm (wv (Ga rfl rfl) (Es rfl hm rfl (Aj ?_)))))));exact Ca (And.intro hi (And.intro hk hm))
          ·refine wf hm (wf hm (wf hm (wv (r:=rB false) (A6 rfl hm rfl) (Aj ?_))));exact Ca (And.intro hi (And.intro hk hm))
         ·refine wf hk (wf hk (wf hk (wv (r:=rB false) (A6 rfl hk rfl) (wm rfl (wz rfl rfl (wz rfl rfl (wz rfl rfl (wv (r:=rB false) (A6 (b:=false) rfl rfl rfl) (Aj ?_)))))))));exact Ca (And.intro hi hk)
        ·refine wf hi (wf hi (wf hi (wv (r:=rB false) (A6 rfl hi rfl) (wm rfl (wz rfl rfl (wz rfl rfl (wz rfl rfl (wv (r:=rB false) (A6 (b:=false) rfl rfl rfl) (wm rfl (wz rfl rfl (wz rfl rfl (wz rfl rfl (wv (r:=rB false) (A6 (b:=false) rfl rfl rfl) (Aj ?_))))))))))))));exact Ca hi
       refine cz ga rfl (λgg gh=>?_) (λgg gi=>?_)
       ·refine Ad (wm rfl (wm rfl (ck gh λgj gk=>wv (Bb rfl rfl gj) (vF B8 rfl Cs (vL 0 CR rfl (ob gk λgl gm gn=>Cu Tryz.call130 (hr v (i+1) ((Aq v i).fN) gl gm) rfl (wa rfl (Ak (As (Ac ?_))))))))));obtain rfl:=Au gn;exact Ar (Cb RJ (A7 rfl)) (sS sN) ⟨rfl,rfl⟩
       ·refine Am (AJ (Ad (wv (r:=Al (-1)) (Aw rfl) (Ak (As ?_)))));obtain rfl:=Au gi;exact Ar (Cb RJ (A7 rfl)) (sS sN) ⟨rfl,rfl⟩
theorem Rc (F:Nat)(ha:(List Aa)→Int→Option (Int))(hk:(∀(v:(List Aa)) (i:Int) (r:Int),ha v i=some r→Fn Tryz.prog GE 93 [AX 4 (AE Ab v),Al i] [] (λR H=>R=Al r∧H=[])))(v:(List Aa))(i:Int)(n:Int)(r:Int)(h:JA F ha v i n=some r):Fn Tryz.prog GE 129 [AX 4 (AE Ab v),Al i,Al n] [] (λR H=>R=Al r∧H=[]):=by
 refine enter (n:=19) Tryz.func129 rfl Tryz.ntmps129 rfl (λw Z=>?_);unfold JA at h;refine Ad (wa rfl (Ak (Ai (Ad (wa rfl (Ak (AF (ob h λhl hm hh=>Bo (S:=Nat×(Int×Int)×(Unit)) (V:=(Int)×(Unit)) 0 (λσ=>BJ (λσ=>Dr v n ha σ.1 σ.2) σ.1 σ.2.1=some hl) (λσ=>[(0,AX 4 (AE Ab v)),(1,Al σ.2.1.1),(2,Al n),(6,Al 0),(7,Al σ.2.1.2)]) (λσ=>[]) (λσ=>σ.1) (F,(i,0),()) hm (AD.c5 rfl rfl rfl rfl rfl AD.nil) sN (λσ=>EK σ.1=some r) (λσ=>[(1,Al σ.1),(6,Al 0)]) (λσ=>[]) ?_ ?_))))))))
 ·rintro⟨h2,⟨hb,hf⟩,⟨⟩⟩ hn;refine BO (l':=[(0,AX 4 (AE Ab v)),(1,Al hb),(2,Al n),(6,Al 0),(7,Al hf)]) (H':=[]) rfl rfl ?_;obtain⟨ho,rfl,hp,hd,hg⟩:=Ck hn;replace hd:Dr v n ha hb hf=some hp:=hd;unfold Dr at hd;refine Ai (Ad (wm rfl (wm rfl (wv (Cf rfl rfl) (Ak (cz hd rfl (λc46 hq=>?_) (λc46 hr=>?_)))))))
  ·refine Am (AJ (Ai (AF (Ad (wm rfl (wm rfl (ob hq λhi hs ht=>Cu O6 (hk v hb hi hs) rfl (wa rfl (Bm (wm rfl (wv (Cf rfl rfl) (Ak (cz ht rfl (λc51 hu=>?_) (λc51 hw=>?_))))))))))))))
   ·refine Ad (wv (r:=Al (-1)) (Aw rfl) (Ak (As (Ay (Ac (Ac (AY ?_)))))));have hx:=Bt hu hg hh;refine Ay (Ac ?_);obtain rfl:=Au hx;exact Ar (Cb Tryz.results129 (A7 rfl)) sN ⟨rfl,rfl⟩
   ·refine Am (AA (AJ (Ag (wm rfl (ck hw λhy hz=>wv (Bb rfl rfl hy) (wa rfl (Aj ?_)))))));have h0:=Be hz hg;exact Av (A5 (ho,(hi,hf+1),()) ⟨h0,Aeo _⟩ (AD.c5 rfl rfl rfl rfl rfl AD.nil) sN)
  ·refine Bq (Ax ?_);have h1:=BL hr hg hh;exact Ax (Bd (A5 (hb,()) h1 (AD.c rfl (AD.c rfl AD.nil)) sN))
 ·rintro⟨hj,⟨⟩⟩ he;refine Cl (l':=[(1,Al hj),(6,Al 0)]) (H':=[]) rfl rfl ?_;replace he:EK hj=some r:=he;unfold EK at he;refine Bc (AJ (Ad (wm rfl (wa rfl (Ak (As ?_))))));obtain rfl:=Au he;exact Ar (Cb Tryz.results129 (A7 rfl)) sN ⟨rfl,rfl⟩
theorem Wh (F:Nat)(hg:(List Aa)→Int→Option (Int))(hp:(∀(v:(List Aa)) (i:Int) (r:Int),hg v i=some r→Fn Tryz.prog GE 93 [AX 4 (AE Ab v),Al i] [] (λR H=>R=Al r∧H=[])))(v:(List Aa))(i:Int)(n:Int)(r:Int)(h:Of F hg v i n=some r):Fn Tryz.prog GE 130 [AX 4 (AE Ab v),Al i,Al n] [] (λR H=>R=Al r∧H=[]):=by
 refine enter (n:=51) Tryz.func130 rfl Tryz.ntmps130 rfl (λw Z=>?_);unfold Of at h;refine Ad (wa rfl (Bm (wv (r:=rS ([]:Af)) (Aw rfl) (Ak (Ai (Ad (wa rfl (Ak (AF (ob h λhq hr hl=>Bo (S:=Nat×(Int×Af×Int)×(Unit)) (V:=(Int)×(Unit)) 0 (λσ=>BJ (λσ=>DV F v n hg σ.1 σ.2.1 σ.2.2) σ.1 σ.2.1=some hq) (λσ=>[(0,AX 4 (AE Ab v)),(1,Al σ.2.1.1),(2,Al n),(7,rS σ.2.1.2.1),(8,Al σ.2.1.2.2)]) (λσ=>[]) (λσ=>σ.1) (F,(i,([]:Af),0),()) hr (AD.c5 rfl rfl rfl rfl rfl AD.nil) sN (λσ=>HV σ.1=some r) (λσ=>[(1,Al σ.1)]) (λσ=>[]) ?_ ?_))))))))))
 ·rintro⟨hL,⟨he,hh,hf⟩,⟨⟩⟩ hs;refine BO (l':=[(0,AX 4 (AE Ab v)),(1,Al he),(2,Al n),(7,rS hh),(8,Al hf)]) (H':=[]) rfl rfl ?_;obtain⟨ht,rfl,hu,hi,hj⟩:=Ck hs;replace hi:DV F v n hg he hh hf=some hu:=hi;unfold DV at hi;refine Ai (Ad (wm rfl (wm rfl (wv (Cf rfl rfl) (Ak (cz hi rfl (λhw hx=>?_) (λhw hy=>?_)))))))
  ·refine Am (AJ (Ai (AF (Ai (ck hx λhm hz=>ck hz λh0 h1=>A8 [(0,AX 4 (AE Ab v)),(1,Al he),(2,Al n),(8,Al hf),(38,rB ((decide ((v.length:Int)≤he))||((!(ov (PT F (Aq v he))))||((decide (0<hf))&&(BR ((Aq v he).fStr) hh||decide (((Aq v he).fStr)=hh))))))] [] ?_ ?_)))))
   ·refine Ag (wm rfl (wm rfl (wv (Bv (ys:=v) (enc:=Ab) BY rfl) (wv (Ga rfl rfl) (wm rfl (AN (decide ((v.length:Int)≤he)) (λha=>?_) (λha=>?_)))))))
    ·refine wf ha (wf ha (wf ha (wf ha (wf ha (wf ha (wv (r:=rB true) (A1 rfl ha rfl) (wm rfl (wz rfl rfl (wz rfl rfl (wz rfl rfl (wu (wu (wu (wu (wu (wu (wu (wz rfl rfl (wv (r:=rB true) (A1 (b:=true) rfl rfl rfl) (Aj ?_))))))))))))))))))));exact Ca ha
    ·refine wo ha (wm rfl (wo ha (wm rfl (wo ha (wv (By (enc:=Ab) (ys:=v) BY Co rfl rfl (CQ hm ha)) (wo ha (wv (Dd MP Co rfl rfl rfl) (wo ha (Cu Tryz.call128 (Yo F (Aq v he) (ov (PT F (Aq v he))) (HI (CQ h0 ha))) rfl (wo ha (wv (Cc rfl) (Et rfl ha rfl (wm rfl (AN (!(ov (PT F (Aq v he)))) (λhd=>?_) (λhd=>?_)))))))))))))))
     ·refine wf hd (wf hd (wf hd (wu (wu (wu (wu (wu (wu (wu (wf hd (wv (r:=rB true) (A1 rfl hd rfl) (Aj ?_))))))))))));exact Ca (And.intro ha hd)
     ·refine wo hd (wm rfl (wo hd (wv (Cm rfl rfl) (wo hd (wm rfl (AN (decide (0<hf)) (λhb=>?_) (λhb=>?_)))))))
      ·refine wo hb (wm rfl (wo hb (wm rfl (wo hb (wv (By (enc:=Ab) (ys:=v) BY Co rfl rfl (CQ hm ha)) (wo hb (wv (Bk B8 rfl Da rfl rfl) (wo hb (wv (Bn DE rfl rfl) (wo hb (wm rfl (wo hb (wv (Vd rfl rfl) (wo hd (Es rfl hb rfl (Et rfl hd rfl (Aj ?_)))))))))))))))));exact Ca (And.intro ha (And.intro hd hb))
      ·refine wf hb (wf hb (wf hb (wf hb (wf hb (wf hb (wf hb (wo hd (wv (r:=rB false) (A6 rfl hb rfl) (Et rfl hd rfl (Aj ?_))))))))));exact Ca (And.intro ha (And.intro hd hb))
   refine cz h1 rfl (λh2 h3=>?_) (λh2 h4=>?_)
   ·refine Ad (wv (r:=Al (-1)) (Aw rfl) (Ak (As (Ac (Ay (Ac (Ac (AY ?_))))))));have h5:=Bt h3 hj hl;refine Ay (Ac ?_);obtain rfl:=Au h5;exact Ar (Cb Tryz.results130 (A7 rfl)) sN ⟨rfl,rfl⟩
   ·refine Am (AJ (Ad (wm rfl (wm rfl (ck h4 λh6 h7=>wv (By (enc:=Ab) (ys:=v) BY Co rfl rfl h6) (wv (Bk B8 rfl Da rfl rfl) (wv (Bn DE rfl rfl) (wa rfl (Bm (wm rfl (wm rfl (ck h7 λh8 h9=>wv (Bb rfl rfl h8) (ob h9 λhn hA hB=>Cu O6 (hp v (he+1) hn hA) rfl (wa rfl (Bm (wm rfl (wv (Cf rfl rfl) (Ak (cz hB rfl (λhC hD=>?_) (λhC hE=>?_))))))))))))))))))))
    ·refine Ad (wv (r:=Al (-1)) (Aw rfl) (Ak (As (Ay (Ac (Ac (AY ?_)))))));have hG:=Bt hD hj hl;refine Ay (Ac ?_);obtain rfl:=Au hG;exact Ar (Cb Tryz.results130 (A7 rfl)) sN ⟨rfl,rfl⟩
    ·refine Am (AA (AJ (Ag (wm rfl (ck hE λhH hI=>wv (Bb rfl rfl hH) (wa rfl (Aj ?_)))))));have hJ:=Be hI hj;exact Av (A5 (ht,(hn,(Aq v he).fStr,hf+1),()) ⟨hJ,Aeo _⟩ (AD.c5 rfl rfl rfl rfl rfl AD.nil) sN)
  ·refine Bq (Ax ?_);have hK:=BL hy hj hl;exact Ax (Bd (A5 (he,()) hK (AD.c rfl AD.nil) sN))
 ·rintro⟨ho,⟨⟩⟩ hk;refine Cl (l':=[(1,Al ho)]) (H':=[]) rfl rfl ?_;replace hk:HV ho=some r:=hk;unfold HV at hk;refine Bc (AJ (Ad (wm rfl (wa rfl (Ak (As ?_))))));obtain rfl:=Au hk;exact Ar (Cb Tryz.results130 (A7 rfl)) sN ⟨rfl,rfl⟩
theorem Jd:∀F:Nat,(∀(v:(List Aa)) (i:Int) (r:Int),Eb F v i=some r→Fn Tryz.prog GE 93 [AX 4 (AE Ab v),Al i] [] (λR H=>R=Al r∧H=[]))∧(∀(v:(List Aa)) (i:Int) (n:Int) (r:Int),HW F v i n=some r→Fn Tryz.prog GE 129 [AX 4 (AE Ab v),Al i,Al n] [] (λR H=>R=Al r∧H=[]))∧(∀(v:(List Aa)) (i:Int) (n:Int) (r:Int),MX F v i n=some r→Fn Tryz.prog GE 130 [AX 4 (AE Ab v),Al i,Al n] [] (λR H=>R=Al r∧H=[]))
  | 0=>⟨(λ_ _ _ h=>by simp[Eb] at h),(λ_ _ _ _ h=>by simp[HW] at h),(λ_ _ _ _ h=>by simp[MX] at h)⟩
  | nn+1=>⟨(λv i r h=>Yn nn (HW nn) (MX nn) (Jd nn).2.1 (Jd nn).2.2 v i r (by rw[Eb] at h;exact h)),(λv i n r h=>Rc nn (Eb nn) (Jd nn).1 v i n r (by rw[HW] at h;exact h)),(λv i n r h=>Wh nn (Eb nn) (Jd nn).1 v i n r (by rw[MX] at h;exact h))⟩
theorem HH (F:Nat)(v:(List Aa))(i:Int)(r:Int)(h:Eb F v i=some r):Fn Tryz.prog GE 93 [AX 4 (AE Ab v),Al i] [] (λR H=>R=Al r∧H=[]):=(Jd F).1 v i r h
theorem Wl (F:Nat)(v:(List Aa))(r:Bool)(h:Md F v=some r):Fn Tryz.prog GE 82 [AX 4 (AE Ab v)] [] (λR H=>R=rB r∧H=[]):=by
 refine enter (n:=13) Tryz.func82 rfl Tryz.ntmps82 rfl (λw Z=>?_);unfold Md at h;refine Ad (wa rfl (Ak (ck h λg1 h2=>A8 [(2,rB ((decide (0<(v.length:Int)))&&(decide ((ov (Eb F v 0))=(v.length:Int)))))] [] ?_ ?_)))
 ·refine Ag (wm rfl (wv (Bv (ys:=v) (enc:=Ab) BY rfl) (wv (Cm rfl rfl) (wm rfl (AN (decide (0<(v.length:Int))) (λc3=>?_) (λc3=>?_))))))
  ·refine wo c3 (wm rfl (wo c3 (Cu O6 (HH F v 0 (ov (Eb F v 0)) (HI (Cz g1 c3))) rfl (wo c3 (wm rfl (wo c3 (wv (Bv (ys:=v) (enc:=Ab) BY rfl) (wo c3 (wv (B3 rfl rfl) (Es rfl c3 rfl (wa rfl (Aj ?_))))))))))));exact Ca c3
  ·refine wf c3 (wf c3 (wf c3 (wf c3 (wf c3 (wv (r:=rB false) (A6 rfl c3 rfl) (wa rfl (Aj ?_)))))));exact Ca c3
 refine As ?_;obtain rfl:=Au h2;exact Ar (Cb Tryz.results82 (A7 rfl)) sN ⟨rfl,rfl⟩
theorem TW (F:Nat)(hf:(List Aa)→Int→Option (Int))(hj:(∀(v:(List Aa)) (i:Int) (r:Int),hf v i=some r→Fn Tryz.prog GE 83 [AX 4 (AE Ab v),Al i] [] (λR H=>R=Al r∧H=[])))(v:(List Aa))(i:Int)(r:Int)(h:Je F hf v i=some r):Fn Tryz.prog GE 83 [AX 4 (AE Ab v),Al i] [] (λR H=>R=Al r∧H=[]):=by
 refine enter (n:=47) Tryz.func83 rfl Tryz.ntmps83 rfl (λw Z=>?_);unfold Je at h;refine Ad (wa rfl (Bm (wm rfl (wm rfl (ck h λg1 h2=>wv (By (enc:=Ab) (ys:=v) BY Co rfl rfl g1) (wv (Dd MP Co rfl rfl rfl) (Cd (cs:=[Al 0,Al 0,rS ([]:Af),Al 0]) EU rfl rfl (λb3=>?_))))))));refine Bp (i:=0) Co rfl rfl rfl (BM.c rfl) rfl rfl (cs':=[Al ((Aq v i).fKind),Al ((Aq v i).fInt),rS ((Aq v i).fStr),Al ((Aq v i).fN)]) rfl (H':=[.blk b3 (Ab (Aq v i)) 78]) rfl (Ak (Ai (A8 [(0,AX 4 (AE Ab v)),(1,Al i),(5,rP b3 0),(21,rB ((!decide (((Aq v i).fKind)=5))&&(!decide (((Aq v i).fKind)=6))))] [.blk b3 (Ab (Aq v i)) 78] ?_ ?_)))
 ·refine Ag (vF B8 rfl Er (vL 0 EE rfl (wv (CV rfl rfl) (wm rfl (AN (!decide (((Aq v i).fKind)=5)) (λc4=>?_) (λc4=>?_))))))
  ·refine wo c4 (vF B8 rfl Er (wo c4 (vL 0 EE rfl (wo c4 (wv (CV rfl rfl) (Es rfl c4 rfl (Aj ?_)))))));exact Ca c4
  ·refine wf c4 (wf c4 (wf c4 (wv (r:=rB false) (A6 rfl c4 rfl) (Aj ?_))));exact Ca c4
 refine cz h2 rfl (λc5 h6=>?_) (λc5 h7=>?_)
 ·refine Ad (wa rfl (Ak (As (Ac ?_))));obtain rfl:=Au h6;exact Ar (Cb Tryz.results83 (A7 rfl)) (sS sN) ⟨rfl,rfl⟩
 ·refine Am (AJ (Ad (wa rfl (Bm (wm rfl (ck h7 λg8 h9=>wv (Bb rfl rfl g8) (wa rfl (Ak (Ai (Ad (wa rfl (Ak (AF (ob h9 λhr hs ht=>Bo (S:=Nat×(Int×Int×Int)×(Unit)) (V:=(Int)×(Unit)) 0 (λσ=>BJ (λσ=>Dh F v i hf σ.1 σ.2.1 σ.2.2) σ.1 σ.2.1=some hr) (λσ=>[(0,AX 4 (AE Ab v)),(5,rP b3 0),(6,Al σ.2.1.1),(7,Al σ.2.1.2.1),(8,Al σ.2.1.2.2)]) (λσ=>[.blk b3 (Ab (Aq v i)) 78]) (λσ=>σ.1) (F,(0,i+1,0),()) hs (AD.c5 rfl rfl rfl rfl rfl AD.nil) (sC sN) (λσ=>E3 σ.1=some r) (λσ=>[(6,Al σ.1)]) (λσ=>[]) ?_ ?_))))))))))))))
  ·rintro⟨gi,⟨hd,ha,hb⟩,⟨⟩⟩ hu;refine BO (l':=[(0,AX 4 (AE Ab v)),(5,rP b3 0),(6,Al hd),(7,Al ha),(8,Al hb)]) (H':=[.blk b3 (Ab (Aq v i)) 78]) rfl rfl ?_;obtain⟨hg,rfl,hw,hh,he⟩:=Ck hu;replace hh:Dh F v i hf hd ha hb=some hw:=hh;unfold Dh at hh;refine Ai (Ad (wm rfl (vF B8 rfl Cs (vL 0 CR rfl (wv (Cf rfl rfl) (Ak (cz hh rfl (λhx hy=>?_) (λhx hz=>?_))))))))
   ·refine Am (AJ (Ai (AF (Ai (Ad (vF B8 rfl Er (vL 0 EE rfl (wv (B3 rfl rfl) (Ak (cz hy rfl (λh0 h1=>?_) (λh0 h3=>?_)))))))))))
    ·refine Ag (wm rfl (ck h1 λh4 h5=>wv (Bb rfl rfl h4) (wa rfl (Bm (wm rfl (wm rfl (ob h5 λhk h8 hA=>Cu Tryz.call83 (hj v (ha+1) hk h8) rfl (wa rfl (Ak (Ai (Ad (wm rfl (wm rfl (wv (Cm rfl rfl) (Ak (cz hA rfl (λhB hC=>?_) (λhB hD=>?_)))))))))))))))))
     ·refine Ag (wm rfl (wa rfl (Ak (Ag (wm rfl (wm rfl (ob hC λhl hE hG=>Cu O6 (HH F v (ha+1) hl hE) rfl (wa rfl (Aj (AA (AJ (Ag (wm rfl (ck hG λhH hI=>wv (Bb rfl rfl hH) (wa rfl (Aj ?_))))))))))))))));have hJ:=Be hI he;exact Av (A5 (hg,(hk,hl,hb+1),()) ⟨hJ,Aeo _⟩ (AD.c5 rfl rfl rfl rfl rfl AD.nil) (sC sN))
     ·refine Am (AJ (Ag (wm rfl (wm rfl (ob hD λhm hK hL=>Cu O6 (HH F v (ha+1) hm hK) rfl (wa rfl (Aj (AA (AJ (Ag (wm rfl (ck hL λhN hO=>wv (Bb rfl rfl hN) (wa rfl (Aj ?_))))))))))))));have hP:=Be hO he;exact Av (A5 (hg,(hd,hm,hb+1),()) ⟨hP,Aeo _⟩ (AD.c5 rfl rfl rfl rfl rfl AD.nil) (sC sN))
    ·refine Am (AJ (Ad (wm rfl (wm rfl (ob h3 λhn hQ hR=>Cu Tryz.call83 (hj v ha hn hQ) rfl (wa rfl (Ak (Ai (Ad (wm rfl (wm rfl (wv (Cm rfl rfl) (Ak (cz hR rfl (λhS hT=>?_) (λhS hU=>?_)))))))))))))))
     ·refine Ag (wm rfl (wa rfl (Ak (Ag (wm rfl (wm rfl (ob hT λho hV hW=>Cu O6 (HH F v ha ho hV) rfl (wa rfl (Aj (AA (AJ (Ag (wm rfl (ck hW λhX hY=>wv (Bb rfl rfl hX) (wa rfl (Aj ?_))))))))))))))));have hZ:=Be hY he;exact Av (A5 (hg,(hn,ho,hb+1),()) ⟨hZ,Aeo _⟩ (AD.c5 rfl rfl rfl rfl rfl AD.nil) (sC sN))
     ·refine Am (AJ (Ag (wm rfl (wm rfl (ob hU λhp ga gb=>Cu O6 (HH F v ha hp ga) rfl (wa rfl (Aj (AA (AJ (Ag (wm rfl (ck gb λgc gd=>wv (Bb rfl rfl gc) (wa rfl (Aj ?_))))))))))))));have ge:=Be gd he;exact Av (A5 (hg,(hd,hp,hb+1),()) ⟨ge,Aeo _⟩ (AD.c5 rfl rfl rfl rfl rfl AD.nil) (sC sN))
   ·refine Bq (Ax ?_);have gf:=BL hz he ht;exact Ax (Bd (A5 (hd,()) gf (AD.c rfl AD.nil) (sS sN)))
  ·rintro⟨hq,⟨⟩⟩ hi;refine Cl (l':=[(6,Al hq)]) (H':=[]) rfl rfl ?_;replace hi:E3 hq=some r:=hi;unfold E3 at hi;refine Bc (AJ (Ad (wm rfl (ck hi λgg gh=>wv (Bb rfl rfl gg) (wa rfl (Ak (As ?_)))))));obtain rfl:=Au gh;exact Ar (Cb Tryz.results83 (A7 rfl)) sN ⟨rfl,rfl⟩
theorem N9:∀F:Nat,(∀(v:(List Aa)) (i:Int) (r:Int),D8 F v i=some r→Fn Tryz.prog GE 83 [AX 4 (AE Ab v),Al i] [] (λR H=>R=Al r∧H=[]))
  | 0=>(λ_ _ _ h=>by simp[D8] at h)
  | nn+1=>(λv i r h=>TW nn (D8 nn) (N9 nn) v i r (by rw[D8] at h;exact h))
theorem Wj (F:Nat)(v:(List Aa))(i:Int)(r:Int)(h:D8 F v i=some r):Fn Tryz.prog GE 83 [AX 4 (AE Ab v),Al i] [] (λR H=>R=Al r∧H=[]):=(N9 F) v i r h
theorem MW (F:Nat)(s:Af)(r:Af)(h:J9 F s=some r):Fn Tryz.prog GE 92 [rS s] [] (λR H=>R=rS r∧H=[]):=by
 refine enter (n:=32) Tryz.func92 rfl Tryz.ntmps92 rfl (λw Z=>?_);unfold J9 at h;refine Ad (wv (r:=rS ([]:Af)) (Aw rfl) (Bm (wv (r:=rS ([34]:Af)) (Aw rfl) (Ak (Ai (Ad (wa rfl (Ak (AF (ob h λhm hn ho=>Bo (S:=Nat×(Af×Int)×(Unit)) (V:=(Af)×(Unit)) 0 (λσ=>BJ (λσ=>D5 s σ.1 σ.2) σ.1 σ.2.1=some hm) (λσ=>[(0,rS s),(3,rS σ.2.1.1),(4,Al σ.2.1.2)]) (λσ=>[]) (λσ=>σ.1) (F,(([34]:Af),0),()) hn (AD.c rfl (AD.c rfl (AD.c rfl AD.nil))) sN (λσ=>Ef σ.1=some r) (λσ=>[(3,rS σ.1)]) (λσ=>[]) ?_ ?_))))))))))
 ·rintro⟨hL,⟨hd,ha⟩,⟨⟩⟩ hp;refine BO (l':=[(0,rS s),(3,rS hd),(4,Al ha)]) (H':=[]) rfl rfl ?_;obtain⟨hh,rfl,hq,he,hg⟩:=Ck hp;replace he:D5 s hd ha=some hq:=he;unfold D5 at he;refine Ai (Ad (wm rfl (wm rfl (wv (Bg BQ rfl) (wv (Cf rfl rfl) (Ak (cz he rfl (λhr hs=>?_) (λhr ht=>?_))))))))
  ·refine Am (AJ (Ai (AF (Ai (ck hs λhi hu=>A8 [(0,rS s),(3,rS hd),(4,Al ha),(20,rB ((decide ((AM s ha)=34))||(decide ((AM s ha)=92))))] [] ?_ ?_)))))
   ·refine Ag (wm rfl (wm rfl (wv (AS BQ rfl rfl hi) (wv (B3 rfl rfl) (wm rfl (AN (decide ((AM s ha)=34)) (λhb=>?_) (λhb=>?_)))))))
    ·refine wf hb (wf hb (wf hb (wf hb (wv (r:=rB true) (A1 rfl hb rfl) (Aj ?_)))));exact Ca hb
    ·refine wo hb (wm rfl (wo hb (wm rfl (wo hb (wv (AS BQ rfl rfl hi) (wo hb (wv (B3 rfl rfl) (Et rfl hb rfl (Aj ?_)))))))));exact Ca hb
   refine cz hu rfl (λhw hx=>?_) (λhw hy=>?_)
   ·refine Ag (wm rfl (ck hx λhz h0=>wv (DG rfl rfl hz) (wa rfl (Ak (Ag (wm rfl (wm rfl (wm rfl (wm rfl (ck h0 λhj h1=>wv (Bb rfl rfl hj) (ck h1 λh2 h3=>ck h3 λh4 h5=>wv (Di BQ rfl rfl rfl h2 h4) (ck h5 λh6 h7=>wv (DG rfl rfl h6) (wa rfl (Aj (AA (AJ (Ag (wm rfl ?_))))))))))))))))));refine wv (Bb rfl rfl hj) (wa rfl (Aj ?_));have h8:=Be h7 hg;exact Av (A5 (hh,((hd++([92]:Af))++(List.take (Bw (ha+1)-Bw ha) (List.drop (Bw ha) s)),ha+1),()) ⟨h8,Aeo _⟩ (AD.c rfl (AD.c rfl (AD.c rfl AD.nil))) sN)
   ·refine Am (AJ (Ag (wm rfl (wm rfl (wm rfl (wm rfl (ck hy λhk h9=>wv (Bb rfl rfl hk) (ck h9 λhA hB=>ck hB λhC hD=>wv (Di BQ rfl rfl rfl hA hC) (ck hD λhE hG=>wv (DG rfl rfl hE) (wa rfl (Aj (AA (AJ (Ag (wm rfl (wv (Bb rfl rfl hk) (wa rfl (Aj ?_))))))))))))))))));have hH:=Be hG hg;exact Av (A5 (hh,(hd++(List.take (Bw (ha+1)-Bw ha) (List.drop (Bw ha) s)),ha+1),()) ⟨hH,Aeo _⟩ (AD.c rfl (AD.c rfl (AD.c rfl AD.nil))) sN)
  ·refine Bq (Ax ?_);have hI:=BL ht hg ho;exact Ax (Bd (A5 (hd,()) hI (AD.c rfl AD.nil) sN))
 ·rintro⟨hl,⟨⟩⟩ hf;refine Cl (l':=[(3,rS hl)]) (H':=[]) rfl rfl ?_;replace hf:Ef hl=some r:=hf;unfold Ef at hf;refine Bc (AJ (Ad (wm rfl (ck hf λhJ hK=>wv (DG rfl rfl hJ) (wa rfl (Ak (As ?_)))))));obtain rfl:=Au hK;exact Ar (Cb Tryz.results92 (A7 rfl)) sN ⟨rfl,rfl⟩
theorem Yf (F:Nat)(hf:(List Aa)→Int→Option (Af))(hg:(∀(v:(List Aa)) (i:Int) (r:Af),hf v i=some r→Fn Tryz.prog GE 69 [AX 4 (AE Ab v),Al i] [] (λR H=>R=rS r∧H=[])))(v:(List Aa))(i:Int)(r:Af)(h:MT F hf v i=some r):Fn Tryz.prog GE 69 [AX 4 (AE Ab v),Al i] [] (λR H=>R=rS r∧H=[]):=by
 refine enter (n:=77) Tryz.func69 rfl Tryz.ntmps69 rfl (λw Z=>?_);unfold MT at h;refine Ad (wv (r:=rS ([]:Af)) (Aw rfl) (Bm (wm rfl (wm rfl (ck h λg1 h2=>wv (By (enc:=Ab) (ys:=v) BY Co rfl rfl g1) (wv (Dd MP Co rfl rfl rfl) (Cd (cs:=[Al 0,Al 0,rS ([]:Af),Al 0]) EU rfl rfl (λb3=>?_))))))));refine Bp (i:=0) Co rfl rfl rfl (BM.c rfl) rfl rfl (cs':=[Al ((Aq v i).fKind),Al ((Aq v i).fInt),rS ((Aq v i).fStr),Al ((Aq v i).fN)]) rfl (H':=[.blk b3 (Ab (Aq v i)) 78]) rfl (Ak (Ai (Ad (vF B8 rfl Er (vL 0 EE rfl (wv (B3 rfl rfl) (Ak (cz h2 rfl (λc4 h5=>?_) (λc4 h6=>?_)))))))))
 ·refine Ad (wv (r:=rS ([110,117,108,108]:Af)) (Aw rfl) (Ak (As (Ac ?_))));obtain rfl:=Au h5;exact Ar (Cb TG (A7 rfl)) (sS sN) ⟨rfl,rfl⟩
 ·refine Am (AJ (Ai (Ad (vF B8 rfl Er (vL 0 EE rfl (wv (B3 rfl rfl) (Ak (cz h6 rfl (λc7 h8=>?_) (λc7 hw=>?_)))))))))
  ·refine Ai (Ad (vF B8 rfl Cs (vL 0 CR rfl (wv (B3 rfl rfl) (Ak (cz h8 rfl (λc9 hx=>?_) (λc9 hy=>?_)))))))
   ·refine Ad (wv (r:=rS ([116,114,117,101]:Af)) (Aw rfl) (Ak (As (Ac (Ac ?_)))));obtain rfl:=Au hx;exact Ar (Cb TG (A7 rfl)) (sS sN) ⟨rfl,rfl⟩
   ·refine Am (AJ (Ad (wv (r:=rS ([102,97,108,115,101]:Af)) (Aw rfl) (Ak (As (Ac ?_))))));obtain rfl:=Au hy;exact Ar (Cb TG (A7 rfl)) (sS sN) ⟨rfl,rfl⟩
  ·refine Am (AJ (Ai (Ad (vF B8 rfl Er (vL 0 EE rfl (wv (B3 rfl rfl) (Ak (cz hw rfl (λhz h0=>?_) (λhz h1=>?_)))))))))
   ·refine Ad (vF B8 rfl Cs (vL 0 CR rfl (ck h0 λg15 h3=>I2 (rs:=[Al ((Aq v i).fInt)]) (r:=rS (Lib.itoa ((Aq v i).fInt))) Tryz.call89 rfl (AcE ((Aq v i).fInt) g15) rfl rfl (wa rfl (Ak (As (Ac ?_)))))));obtain rfl:=Au h3;exact Ar (Cb TG (A7 rfl)) (sS sN) ⟨rfl,rfl⟩
   ·refine Am (AJ (Ai (Ad (vF B8 rfl Er (vL 0 EE rfl (wv (B3 rfl rfl) (Ak (cz h1 rfl (λh4 h7=>?_) (λh4 h9=>?_)))))))))
    ·refine Ad (vF B8 rfl Da (vL 0 DE rfl (ob h7 λhA hB hC=>Cu Tryz.call92 (MW F ((Aq v i).fStr) hA hB) rfl (wa rfl (Ak (As (Ac ?_)))))));obtain rfl:=Au hC;exact Ar (Cb TG (A7 rfl)) (sS sN) ⟨rfl,rfl⟩
    ·refine Am (AJ (Ad (wv (r:=rS ([]:Af)) (Aw rfl) (Bm (wm rfl (ck h9 λhD hE=>wv (Bb rfl rfl hD) (wa rfl (Ak (Ai (Ad (wa rfl (Ak (AF (ob hE λhG hH hI=>Bo (S:=Nat×(Af×Int×Int)×(Unit)) (V:=(Af)×(Unit)) 0 (λσ=>BJ (λσ=>E2 F v i hf σ.1 σ.2.1 σ.2.2) σ.1 σ.2.1=some hG) (λσ=>[(0,AX 4 (AE Ab v)),(4,rS ([]:Af)),(5,rP b3 0),(6,rS σ.2.1.1),(7,Al σ.2.1.2.1),(8,Al σ.2.1.2.2)]) (λσ=>[.blk b3 (Ab (Aq v i)) 78]) (λσ=>σ.1) (F,(([]:Af),i+1,0),()) hH (AD.c rfl (AD.c5 rfl rfl rfl rfl rfl AD.nil)) (sC sN) (λσ=>In v i σ.1=some r) (λσ=>[(4,rS ([]:Af)),(5,rP b3 0),(6,rS σ.1)]) (λσ=>[.blk b3 (Ab (Aq v i)) 78]) ?_ ?_))))))))))))))
     ·rintro⟨ci,⟨hb,ha,hd⟩,⟨⟩⟩ hJ;refine BO (l':=[(0,AX 4 (AE Ab v)),(4,rS ([]:Af)),(5,rP b3 0),(6,rS hb),(7,Al ha),(8,Al hd)]) (H':=[.blk b3 (Ab (Aq v i)) 78]) rfl rfl ?_;obtain⟨hh,rfl,hK,hi,he⟩:=Ck hJ;replace hi:E2 F v i hf hb ha hd=some hK:=hi;unfold E2 at hi;refine Ai (Ad (wm rfl (vF B8 rfl Cs (vL 0 CR rfl (wv (Cf rfl rfl) (Ak (cz hi rfl (λhL hN=>?_) (λhL hO=>?_))))))))
      ·refine Am (AJ (Ai (AF (Ai (Ad (wm rfl (wv (Cm rfl rfl) (Ak (cz hN rfl (λhP hQ=>?_) (λhP hR=>?_))))))))))
       ·refine Ag (wm rfl (ck hQ λhS hT=>wv (DG rfl rfl hS) (wa rfl (Ak (Ai (Ad (vF B8 rfl Er (vL 0 EE rfl (wv (B3 rfl rfl) (Ak (cz hT rfl (λc233 hU=>?_) (λc233 hV=>?_))))))))))))
        ·refine Ad (wm rfl (wm rfl (wm rfl (ck hU λhW hX=>wv (By (enc:=Ab) (ys:=v) BY Co rfl rfl hW) (wv (Bk B8 rfl Da rfl rfl) (wv (Bn DE rfl rfl) (ob hX λhk hY hZ=>Cu Tryz.call92 (MW F ((Aq v ha).fStr) hk hY) rfl (ck hZ λga gb=>wv (DG rfl rfl ga) (ck gb λgc gd=>wv (DG rfl rfl gc) (wa rfl (Ak (Ag (wm rfl (ck gd λge gf=>wv (Bb rfl rfl ge) (wa rfl (Bm (wm rfl (wm rfl ?_))))))))))))))))));refine wm rfl (ob gf λhl gg gh=>Cu X5 (hg v (ha+1) hl gg) rfl (ck gh λgi gj=>wv (DG rfl rfl gi) (wa rfl (Ak (Ag (wm rfl (wm rfl (ob gj λhm gk gl=>Cu O6 (HH F v (ha+1) hm gk) rfl (wa rfl (Aj (AA (AJ (Ag (wm rfl (ck gl λgm gn=>wv (Bb rfl rfl gm) (wa rfl (Aj ?_)))))))))))))))));have gp:=Be gn he;exact Av (A5 (hh,((((hb++([44]:Af))++hk)++([58]:Af))++hl,hm,hd+1),()) ⟨gp,Aeo _⟩ (AD.c rfl (AD.c5 rfl rfl rfl rfl rfl AD.nil)) (sC sN))
        ·refine Am (AJ (Ad (wm rfl (wm rfl (wm rfl (ob hV λhn gq gr=>Cu X5 (hg v ha hn gq) rfl (ck gr λgs gt=>wv (DG rfl rfl gs) (wa rfl (Ak (Ag (wm rfl (wm rfl (ob gt λho gu gv=>Cu O6 (HH F v ha ho gu) rfl (wa rfl (Aj (AA (AJ (Ag (wm rfl (ck gv λgw gx=>?_))))))))))))))))))));refine wv (Bb rfl rfl gw) (wa rfl (Aj ?_));have gy:=Be gx he;exact Av (A5 (hh,((hb++([44]:Af))++hn,ho,hd+1),()) ⟨gy,Aeo _⟩ (AD.c rfl (AD.c5 rfl rfl rfl rfl rfl AD.nil)) (sC sN))
       ·refine Am (AJ (Ai (Ad (vF B8 rfl Er (vL 0 EE rfl (wv (B3 rfl rfl) (Ak (cz hR rfl (λgz g0=>?_) (λgz g2=>?_)))))))))
        ·refine Ad (wm rfl (wm rfl (wm rfl (ck g0 λg3 g4=>wv (By (enc:=Ab) (ys:=v) BY Co rfl rfl g3) (wv (Bk B8 rfl Da rfl rfl) (wv (Bn DE rfl rfl) (ob g4 λhp g5 g6=>Cu Tryz.call92 (MW F ((Aq v ha).fStr) hp g5) rfl (ck g6 λg7 g8=>wv (DG rfl rfl g7) (ck g8 λg9 gA=>wv (DG rfl rfl g9) (wa rfl (Ak (Ag (wm rfl (ck gA λgB gC=>wv (Bb rfl rfl gB) (wa rfl (Bm (wm rfl (wm rfl ?_))))))))))))))))));refine wm rfl (ob gC λhq gD gE=>Cu X5 (hg v (ha+1) hq gD) rfl (ck gE λgF gG=>wv (DG rfl rfl gF) (wa rfl (Ak (Ag (wm rfl (wm rfl (ob gG λhr gH gI=>Cu O6 (HH F v (ha+1) hr gH) rfl (wa rfl (Aj (AA (AJ (Ag (wm rfl (ck gI λgJ gK=>wv (Bb rfl rfl gJ) (wa rfl (Aj ?_)))))))))))))))));have gL:=Be gK he;exact Av (A5 (hh,(((hb++hp)++([58]:Af))++hq,hr,hd+1),()) ⟨gL,Aeo _⟩ (AD.c rfl (AD.c5 rfl rfl rfl rfl rfl AD.nil)) (sC sN))
        ·refine Am (AJ (Ad (wm rfl (wm rfl (wm rfl (ob g2 λhs gM gN=>Cu X5 (hg v ha hs gM) rfl (ck gN λgO gP=>wv (DG rfl rfl gO) (wa rfl (Ak (Ag (wm rfl (wm rfl (ob gP λht gQ gR=>Cu O6 (HH F v ha ht gQ) rfl (wa rfl (Aj (AA (AJ (Ag (wm rfl (ck gR λgS gT=>?_))))))))))))))))))));refine wv (Bb rfl rfl gS) (wa rfl (Aj ?_));have gU:=Be gT he;exact Av (A5 (hh,(hb++hs,ht,hd+1),()) ⟨gU,Aeo _⟩ (AD.c rfl (AD.c5 rfl rfl rfl rfl rfl AD.nil)) (sC sN))
      ·refine Bq (Ax ?_);have gV:=BL hO he hI;exact Ax (Bd (A5 (hb,()) gV (AD.c rfl (AD.c rfl (AD.c rfl AD.nil))) (sC sN)))
     ·rintro⟨hu,⟨⟩⟩ hj;refine Cl (l':=[(4,rS ([]:Af)),(5,rP b3 0),(6,rS hu)]) (H':=[.blk b3 (Ab (Aq v i)) 78]) rfl rfl ?_;replace hj:In v i hu=some r:=hj;unfold In at hj;refine Bc (AJ (Ai (Ad (vF B8 rfl Er (vL 0 EE rfl (wv (B3 rfl rfl) (Ak (cz hj rfl (λgW gX=>?_) (λgW gY=>?_)))))))))
      ·refine Ad (wm rfl (ck gX λgZ ca=>wv (DG rfl rfl gZ) (ck ca λcb cc=>wv (DG rfl rfl cb) (wa rfl (Ak (As (Ac ?_)))))));obtain rfl:=Au cc;exact Ar (Cb TG (A7 rfl)) (sS sN) ⟨rfl,rfl⟩
      ·refine Am (AJ (Ad (wm rfl (ck gY λcd ce=>wv (DG rfl rfl cd) (ck ce λcf cg=>wv (DG rfl rfl cf) (wa rfl (Ak (As ?_))))))));obtain rfl:=Au cg;exact Ar (Cb TG (A7 rfl)) (sS sN) ⟨rfl,rfl⟩
theorem Qn:∀F:Nat,(∀(v:(List Aa)) (i:Int) (r:Af),H3 F v i=some r→Fn Tryz.prog GE 69 [AX 4 (AE Ab v),Al i] [] (λR H=>R=rS r∧H=[]))
  | 0=>(λ_ _ _ h=>by simp[H3] at h)
  | nn+1=>(λv i r h=>Yf nn (H3 nn) (Qn nn) v i r (by rw[H3] at h;exact h))
theorem AaI (F:Nat)(v:(List Aa))(i:Int)(r:Af)(h:H3 F v i=some r):Fn Tryz.prog GE 69 [AX 4 (AE Ab v),Al i] [] (λR H=>R=rS r∧H=[]):=(Qn F) v i r h
theorem S2 (F:Nat)(v:(List Aa))(r:Int)(h:MZ F v=some r):Fn Tryz.prog GE 57 [AX 4 (AE Ab v)] [] (λR H=>R=Al r∧H=[]):=by
 refine enter (n:=61) Tryz.func57 rfl Tryz.ntmps57 rfl (λw Z=>?_);unfold MZ at h;refine Ad (wa rfl (Ak (Ai (Ad (wm rfl (ob h λr1 e3 h2=>Cu Tryz.call82 (Wl F v r1 e3) rfl (wv (Cc rfl) (Ak (cz h2 rfl (λc4 h5=>?_) (λc4 h6=>?_))))))))))
 ·refine Ad (wa rfl (Ak (As (Ac ?_))));obtain rfl:=Au h5;exact Ar (Cb VK (A7 rfl)) sN ⟨rfl,rfl⟩
 ·refine Am (AJ (Ai (Ad (wa rfl (Ak (AF (ob h6 λhp hq hn=>Bo (S:=Nat×(Int)×(Unit)) (V:=(Unit)×(Unit)) 0 (λσ=>BJ (λσ=>EM v σ) σ.1 σ.2.1=some hp) (λσ=>[(0,AX 4 (AE Ab v)),(3,Al σ.2.1)]) (λσ=>[]) (λσ=>σ.1) (F,0,()) hq (AD.c rfl (AD.c rfl AD.nil)) sN (λσ=>Jg F v =some r) (λσ=>[(0,AX 4 (AE Ab v))]) (λσ=>[]) ?_ ?_)))))))
  ·rintro⟨ge,he,⟨⟩⟩ hr;refine BO (l':=[(0,AX 4 (AE Ab v)),(3,Al he)]) (H':=[]) rfl rfl ?_;obtain⟨hs,rfl,t46,hf,hj⟩:=Ck hr;replace hf:EM v he=some t46:=hf;unfold EM at hf;refine Ai (Ad (wm rfl (wm rfl (wv (Bv (ys:=v) (enc:=Ab) BY rfl) (wv (Cf rfl rfl) (Ak (cz hf rfl (λht hu=>?_) (λht hw=>?_))))))))
   ·refine Am (AJ (Ai (AF (ck hu λhk hx=>A8 [(0,AX 4 (AE Ab v)),(3,Al he),(35,rB ((decide (((Aq v he).fKind)=3))&&((decide (((Aq v he).fInt)<(-1000000000000)))||(decide (1000000000000<((Aq v he).fInt))))))] [] ?_ ?_))))
    ·refine Ag (wm rfl (wm rfl (wv (By (enc:=Ab) (ys:=v) BY Co rfl rfl hk) (wv (Bk B8 rfl Er rfl rfl) (wv (Bn EE rfl rfl) (wv (B3 rfl rfl) (wm rfl (AN (decide (((Aq v he).fKind)=3)) (λha=>?_) (λha=>?_)))))))))
     ·refine wo ha (wm rfl (wo ha (wm rfl (wo ha (wv (By (enc:=Ab) (ys:=v) BY Co rfl rfl hk) (wo ha (wv (Bk B8 rfl Cs rfl rfl) (wo ha (wv (Bn CR rfl rfl) (wo ha (wv (Cf rfl rfl) (wo ha (wm rfl (AN (decide (((Aq v he).fInt)<(-1000000000000))) (λhb=>?_) (λhb=>?_)))))))))))))))
      ·refine wf hb (wf hb (wf hb (wf hb (wf hb (wf hb (wo ha (wv (r:=rB true) (A1 rfl hb rfl) (Es rfl ha rfl (Aj ?_)))))))));exact Ca (And.intro ha hb)
      ·refine wo hb (wm rfl (wo hb (wm rfl (wo hb (wv (By (enc:=Ab) (ys:=v) BY Co rfl rfl hk) (wo hb (wv (Bk B8 rfl Cs rfl rfl) (wo hb (wv (Bn CR rfl rfl) (wo hb (wv (Cm rfl rfl) (wo ha (Et rfl hb rfl (Es rfl ha rfl (Aj ?_)))))))))))))));exact Ca (And.intro ha hb)
     ·refine wf ha (wf ha (wf ha (wf ha (wf ha (wf ha (wf ha (wu (wu (wu (wu (wu (wu (wf ha (wv (r:=rB false) (A6 rfl ha rfl) (Aj ?_)))))))))))))));exact Ca ha
    refine cz hx rfl (λhy hz=>?_) (λhy h0=>?_)
    ·refine Ad (wa rfl (Ak (As (Ay (Ac (Ac (AY ?_)))))));have h1:=Bt hz hj hn;refine Ay (Ac ?_);obtain rfl:=Au h1;exact Ar (Cb VK (A7 rfl)) sN ⟨rfl,rfl⟩
    ·refine Am (AA (AJ (Ag (wm rfl (ck h0 λh3 h4=>wv (Bb rfl rfl h3) (wa rfl (Aj ?_)))))));have h7:=Be h4 hj;exact Av (A5 (hs,he+1,()) ⟨h7,Aeo _⟩ (AD.c rfl (AD.c rfl AD.nil)) sN)
   ·refine Bq (Ax ?_);have h8:=BL hw hj hn;exact Ax (Bd (A5 ((),()) h8 (AD.c rfl AD.nil) sN))
  ·rintro⟨⟨⟩,⟨⟩⟩ hg;refine Cl (l':=[(0,AX 4 (AE Ab v))]) (H':=[]) rfl rfl ?_;replace hg:Jg F v =some r:=hg;unfold Jg at hg;refine Bc (AJ (Ai (ck hg λh9 hA=>A8 [(0,AX 4 (AE Ab v)),(43,rB ((decide (200<(v.length:Int)))||(decide (8<(ov (D8 F v 0))))))] [] ?_ ?_)))
   ·refine Ag (wm rfl (wv (Bv (ys:=v) (enc:=Ab) BY rfl) (wv (Cm rfl rfl) (wm rfl (AN (decide (200<(v.length:Int))) (λhd=>?_) (λhd=>?_))))))
    ·refine wf hd (wf hd (wf hd (wv (r:=rB true) (A1 rfl hd rfl) (Aj ?_))));exact Ca hd
    ·refine wo hd (wm rfl (wo hd (Cu Tryz.call83 (Wj F v 0 (ov (D8 F v 0)) (HI (CQ h9 hd))) rfl (wo hd (wv (Cm rfl rfl) (Et rfl hd rfl (Aj ?_)))))));exact Ca hd
   refine cz hA rfl (λhB hC=>?_) (λhB hD=>?_)
   ·refine Ad (wa rfl (Ak (As (Ac ?_))));obtain rfl:=Au hC;exact Ar (Cb VK (A7 rfl)) sN ⟨rfl,rfl⟩
   ·refine Am (AJ (Ai (Ad (wa rfl (Ak (AF (ob hD λhE hG ho=>Bo (S:=Nat×(Int)×(Unit)) (V:=(Unit)×(Unit)) 2 (λσ=>BJ (λσ=>EL v σ) σ.1 σ.2.1=some hE) (λσ=>[(0,AX 4 (AE Ab v)),(4,Al σ.2.1)]) (λσ=>[]) (λσ=>σ.1) (F,0,()) hG (AD.c rfl (AD.c rfl AD.nil)) sN (λσ=>Jf F v =some r) (λσ=>[(0,AX 4 (AE Ab v))]) (λσ=>[]) ?_ ?_)))))))
    ·rintro⟨gf,hl,⟨⟩⟩ hH;refine BO (l':=[(0,AX 4 (AE Ab v)),(4,Al hl)]) (H':=[]) rfl rfl ?_;obtain⟨hI,rfl,hJ,hh,hm⟩:=Ck hH;replace hh:EL v hl=some hJ:=hh;unfold EL at hh;refine Ai (Ad (wm rfl (wm rfl (wv (Bv (ys:=v) (enc:=Ab) BY rfl) (wv (Cf rfl rfl) (Ak (cz hh rfl (λhK hL=>?_) (λhK hN=>?_))))))))
     ·refine Am (AJ (Ai (AF (Ad (wm rfl (wm rfl (ck hL λhO hP=>wv (By (enc:=Ab) (ys:=v) BY Co rfl rfl hO) (wv (Bk B8 rfl Da rfl rfl) (wv (Bn DE rfl rfl) (wv (Bg BQ rfl) (wv (Cm rfl rfl) (Ak (cz hP rfl (λhQ hR=>?_) (λhQ hS=>?_))))))))))))))
      ·refine Ad (wa rfl (Ak (As (Ay (Ac (Ac (AY ?_)))))));have hT:=Bt hR hm ho;refine Ay (Ac ?_);obtain rfl:=Au hT;exact Ar (Cb VK (A7 rfl)) sN ⟨rfl,rfl⟩
      ·refine Am (AA (AJ (Ag (wm rfl (ck hS λhU hV=>wv (Bb rfl rfl hU) (wa rfl (Aj ?_)))))));have hW:=Be hV hm;exact Av (A5 (hI,hl+1,()) ⟨hW,Aeo _⟩ (AD.c rfl (AD.c rfl AD.nil)) sN)
     ·refine Bq (Ax ?_);have hX:=BL hN hm ho;exact Ax (Bd (A5 ((),()) hX (AD.c rfl AD.nil) sN))
    ·rintro⟨⟨⟩,⟨⟩⟩ hi;refine Cl (l':=[(0,AX 4 (AE Ab v))]) (H':=[]) rfl rfl ?_;replace hi:Jf F v =some r:=hi;unfold Jf at hi;refine Bc (AJ (Ai (Ad (wm rfl (ob hi λhY hZ ga=>Cu X5 (AaI F v 0 hY hZ) rfl (wv (Bg BQ rfl) (wv (Cm rfl rfl) (Ak (cz ga rfl (λgb gc=>?_) (λgb gd=>?_))))))))))
     ·refine Ad (wa rfl (Ak (As (Ac ?_))));obtain rfl:=Au gc;exact Ar (Cb VK (A7 rfl)) sN ⟨rfl,rfl⟩
     ·refine Am (AJ (Ad (wa rfl (Ak (As ?_)))));obtain rfl:=Au gd;exact Ar (Cb VK (A7 rfl)) sN ⟨rfl,rfl⟩
end Go.Proofs.YtjfnokmpfekniaaGreatDoor.Q
namespace Go.Proofs.YtjfnokmpfekniaaGreatDoor
open Go
set_option linter.unusedVariables false
structure AH where
 fPairs:Bool
 fLeft:Int
 fKey:Bool
 fLast:Af
 fStarted:Bool
 deriving DecidableEq,Inhabited
structure AP where
 fDepth:Int
 fBytes:Int
 fOutside:Bool
 fLong:Bool
 deriving DecidableEq,Inhabited
def BU (n:Int):Option (Bool):=
 some ((decide ((-1000000000000)≤n))&&(decide (n≤1000000000000)))
def IS (s:Af)(ha:Int):Option (Stp (Int) (Out (Bool) (Unit))):=
 Bi (decide (ha<(s.length:Int))) (AQ (Cw ha (s.length:Int))<|Bi (((decide ((AM s ha)<32))||(decide (126<(AM s ha))))) (some (.out (.ret false))) (AQ (Bs .i64 (ha+1))<|some (.next (ha+1)))) (some (.out (.go ())))
def IR :Option (Bool):=
 some true
def LQ (F:Nat)(s:Af):Option (Bool):=
 Br (BJ (λσ=>IS s σ) F 0) (BE λν=>IR )
def KE (s:Af):Option (Int):=
 AQ (Bs .i64 ((s.length:Int)+2))<|AQ (Bs .i64 (((s.length:Int)+2)+(Lib.countByte s 34:Int)))<|AQ (Bs .i64 ((((s.length:Int)+2)+(Lib.countByte s 34:Int))+(Lib.countByte s 92:Int)))<|some ((((s.length:Int)+2)+(Lib.countByte s 34:Int))+(Lib.countByte s 92:Int))
def OG (F:Nat)(c:Aa):Option (Bool):=
 Bi (decide (c.fKind=1)) (some ((decide (c.fInt=0))&&((decide (c.fStr=([]:Af)))&&(decide (c.fN=0))))) (Bi (decide (c.fKind=2)) (some (bif decide (c.fInt=0) then((decide (c.fStr=([]:Af)))&&(decide (c.fN=0))) else((decide (c.fInt=1))&&((decide (c.fStr=([]:Af)))&&(decide (c.fN=0)))))) (Bi (decide (c.fKind=3)) (some ((decide (c.fStr=([]:Af)))&&(decide (c.fN=0)))) (Bi (decide (c.fKind=4)) (AQ (imp (decide (c.fInt=0)) (imp (decide (c.fN=0)) ((LQ F c.fStr).isSome)))<|some ((decide (c.fInt=0))&&((decide (c.fN=0))&&(ov (LQ F c.fStr))))) (Bi (decide (c.fKind=5)) (some ((decide (c.fInt=0))&&((decide (c.fStr=([]:Af)))&&(decide (0≤c.fN))))) (Bi (decide (c.fKind=6)) (some ((decide (c.fInt=0))&&((decide (c.fStr=([]:Af)))&&(decide (0≤c.fN))))) (some false))))))
def RT (c:Aa):Option (Int):=
 Bi (decide (c.fKind=1)) (some 4) (Bi (decide (c.fKind=2)) (some (IntKind.wrap .i64 (5-c.fInt))) (Bi (decide (c.fKind=3)) (AQ (Bs .i64 c.fInt)<|some ((Lib.itoa c.fInt).length:Int)) (Bi (decide (c.fKind=4)) (Br (KE c.fStr) λha=>some ha) (some (IntKind.wrap .i64 (2+(max 0 (IntKind.wrap .i64 (c.fN-1)))))))))
def E0 (ha:(List AH)):Option (Stp ((List AH)) (Out ((List AH)) ((List AH)))):=
 Bi (decide (0<(ha.length:Int))) (AQ (Bs .i64 ((ha.length:Int)-1))<|AQ (Cw ((ha.length:Int)-1) (ha.length:Int))<|AQ (Bs .i64 (((Aq ha ((ha.length:Int)-1)).fLeft)-1))<|MJ (List.set ha (Int.toNat ((ha.length:Int)-1)) (AH.mk ((Aq ha ((ha.length:Int)-1)).fPairs) (((Aq ha ((ha.length:Int)-1)).fLeft)-1) ((Aq ha ((ha.length:Int)-1)).fKey) ((Aq ha ((ha.length:Int)-1)).fLast) ((Aq ha ((ha.length:Int)-1)).fStarted))) λhb=>Bi (decide (0<((Aq hb ((ha.length:Int)-1)).fLeft))) (MJ (List.set hb (Int.toNat ((ha.length:Int)-1)) (AH.mk ((Aq hb ((ha.length:Int)-1)).fPairs) ((Aq hb ((ha.length:Int)-1)).fLeft) ((Aq hb ((ha.length:Int)-1)).fPairs) ((Aq hb ((ha.length:Int)-1)).fLast) ((Aq hb ((ha.length:Int)-1)).fStarted))) λhd=>some (.out (.ret hd))) (AQ (Bs .i64 ((hb.length:Int)-1))<|AQ (Gr ((hb.length:Int)-1) (hb.length:Int))<|some (.next (List.take (Int.toNat ((hb.length:Int)-1)) hb)))) (some (.out (.go ha)))
def Gn (ha:(List AH)):Option ((List AH)):=
 some ha
def LV (F:Nat)(stack:(List AH)):Option ((List AH)):=
 Br (BJ (λσ=>E0 σ) F stack) (BE λν=>Gn ν)
def EX (ha:Int)(hb:(List AH))(hd:AP):Option (Stp ((List AH)×Int×AP) (Out (Int×AP×Bool) (AP))):=
 AQ (Bs .i64 (ha+1))<|some (.next (hb,ha+1,hd))
def Ez (F:Nat)(v:(List Aa))(ha:(List AH))(hb:Int)(hd:AP):Option (Stp ((List AH)×Int×AP) (Out (Int×AP×Bool) (AP))):=
 Bi (decide (hb<(v.length:Int))) (AQ (Cw hb (v.length:Int))<|Br (OG F (Aq v hb)) λhj=>Bi (!hj) (some (.out (.ret (0,hd,false)))) (AQ (imp (decide (0<(ha.length:Int))) (Bs .i64 ((ha.length:Int)-1)))<|AQ (imp (decide (0<(ha.length:Int))) (Cw ((ha.length:Int)-1) (ha.length:Int)))<|Bi (((decide (0<(ha.length:Int)))&&((Aq ha ((ha.length:Int)-1)).fKey))) (AQ (Bs .i64 ((ha.length:Int)-1))<|AQ (Cw ((ha.length:Int)-1) (ha.length:Int))<|Bi (((!decide (((Aq v hb).fKind)=4))||(((Aq ha ((ha.length:Int)-1)).fStarted)&&(BR ((Aq v hb).fStr) ((Aq ha ((ha.length:Int)-1)).fLast)||decide (((Aq v hb).fStr)=((Aq ha ((ha.length:Int)-1)).fLast)))))) (some (.out (.ret (0,hd,false)))) (MJ (List.set ha (Int.toNat ((ha.length:Int)-1)) (AH.mk ((Aq ha ((ha.length:Int)-1)).fPairs) ((Aq ha ((ha.length:Int)-1)).fLeft) ((Aq ha ((ha.length:Int)-1)).fKey) ((Aq v hb).fStr) ((Aq ha ((ha.length:Int)-1)).fStarted))) λhe=>MJ (List.set he (Int.toNat ((ha.length:Int)-1)) (AH.mk ((Aq he ((ha.length:Int)-1)).fPairs) ((Aq he ((ha.length:Int)-1)).fLeft) ((Aq he ((ha.length:Int)-1)).fKey) ((Aq he ((ha.length:Int)-1)).fLast) true)) λhf=>MJ (List.set hf (Int.toNat ((ha.length:Int)-1)) (AH.mk ((Aq hf ((ha.length:Int)-1)).fPairs) ((Aq hf ((ha.length:Int)-1)).fLeft) false ((Aq hf ((ha.length:Int)-1)).fLast) ((Aq hf ((ha.length:Int)-1)).fStarted))) λhk=>Br (KE ((Aq v hb).fStr)) λhh=>AQ (Bs .i64 (hh+1))<|EX hb hk (AP.mk hd.fDepth (IntKind.wrap .i64 (hd.fBytes+(hh+1))) hd.fOutside (hd.fLong||(decide (200<(((Aq v hb).fStr).length:Int))))))) (AQ (Bs .i64 ((ha.length:Int)+1))<|Br (RT (Aq v hb)) λhg=>AQ (imp (!hd.fOutside) (imp (decide (((Aq v hb).fKind)=3)) ((BU ((Aq v hb).fInt)).isSome)))<|Bi (decide (0<((Aq v hb).fN))) (Bi (decide ((v.length:Int)<((Aq v hb).fN))) (some (.out (.ret (0,(AP.mk (max hd.fDepth ((ha.length:Int)+1)) (IntKind.wrap .i64 (hd.fBytes+hg)) (hd.fOutside||((decide (((Aq v hb).fKind)=3))&&(!(ov (BU ((Aq v hb).fInt)))))) (hd.fLong||(decide (200<(((Aq v hb).fStr).length:Int))))),false)))) (AQ (Dw 48 (ha.length+([(AH.mk (decide (((Aq v hb).fKind)=6)) ((Aq v hb).fN) (decide (((Aq v hb).fKind)=6)) ([]:Af) false)]:List AH).length))<|EX hb (ha++([(AH.mk (decide (((Aq v hb).fKind)=6)) ((Aq v hb).fN) (decide (((Aq v hb).fKind)=6)) ([]:Af) false)]:List AH)) (AP.mk (max hd.fDepth ((ha.length:Int)+1)) (IntKind.wrap .i64 (hd.fBytes+hg)) (hd.fOutside||((decide (((Aq v hb).fKind)=3))&&(!(ov (BU ((Aq v hb).fInt)))))) (hd.fLong||(decide (200<(((Aq v hb).fStr).length:Int))))))) (Br (LV F ha) λhi=>Bi (decide ((hi.length:Int)=0)) (AQ (Bs .i64 (hb+1))<|some (.out (.ret (hb+1,(AP.mk (max hd.fDepth ((ha.length:Int)+1)) (IntKind.wrap .i64 (hd.fBytes+hg)) (hd.fOutside||((decide (((Aq v hb).fKind)=3))&&(!(ov (BU ((Aq v hb).fInt)))))) (hd.fLong||(decide (200<(((Aq v hb).fStr).length:Int))))),true)))) (EX hb hi (AP.mk (max hd.fDepth ((ha.length:Int)+1)) (IntKind.wrap .i64 (hd.fBytes+hg)) (hd.fOutside||((decide (((Aq v hb).fKind)=3))&&(!(ov (BU ((Aq v hb).fInt)))))) (hd.fLong||(decide (200<(((Aq v hb).fStr).length:Int)))))))))) (some (.out (.go hd)))
def LS (ha:AP):Option (Int×AP×Bool):=
 some (0,ha,false)
def JP (F:Nat)(v:(List Aa)):Option (Int×AP×Bool):=
 Br (BJ (λσ=>Ez F v σ.1 σ.2.1 σ.2.2) F (([]:List AH),0,(AP.mk 0 0 false false))) (BE λν=>LS ν)
def L0 (F:Nat)(v:(List Aa)):Option (Int):=
 Br (JP F v) λr1=>Bi (((!r1.2.2)||(!decide (r1.1=(v.length:Int))))) (some 1) (Bi (r1.2.1.fOutside) (some 2) (Bi ((r1.2.1.fLong||((decide (200<(v.length:Int)))||((decide (8<r1.2.1.fDepth))||(decide (4000<r1.2.1.fBytes)))))) (some 3) (some 0)))
def LW (F:Nat)(v:(List Aa)):Option ((List Aa)×Int):=
 Br (L0 F v) λr1=>Bi (!decide (r1=0)) (some (([]:List Aa),r1)) (some (v,0))
end Go.Proofs.YtjfnokmpfekniaaGreatDoor
namespace Go.Proofs.YtjfnokmpfekniaaGreatDoor.Q
open Go Go.RowKit
set_option linter.unusedVariables false
set_option linter.unusedSimpArgs false
set_option maxRecDepth 100000
set_option maxHeartbeats 4000000
@[reducible] def AG (x:AH):List Rp:=[rB x.fPairs,Al x.fLeft,rB x.fKey,rS x.fLast,rB x.fStarted]
theorem JU (x:AH):(AG x).length=5:=rfl
theorem NV (x:AH):(AG x).all (·.one)=true:=rfl
@[reducible] def Bf (x:AP):List Rp:=[Al x.fDepth,Al x.fBytes,rB x.fOutside,rB x.fLong]
theorem Abs:∃inf,Tryz.prog.info? 166=some inf∧inf.zero=some (.agg #[(.bool false),(.int .i64 0),(.bool false),(.string ⟨#[]⟩),(.bool false)])∧inf.size=5∧inf.bytes=48:=by
  have key:(Tryz.prog.info? 166).map (λi=>(i.zero,i.size,i.bytes))=some (some (.agg #[(.bool false),(.int .i64 0),(.bool false),(.string ⟨#[]⟩),(.bool false)]),5,48):=by kernel_rfl
  obtain⟨inf,h1,h2⟩:=Option.map_eq_some_iff.1 key;simp only[Prod.mk.injEq] at h2;exact⟨inf,h1,h2.1,h2.2.1,h2.2.2⟩
theorem Aac (parts:List (Nat×Value)):Tryz.prog.built 166 parts=Instr.fill (λi=>(#[(0,1),(1,1),(2,1),(3,1),(4,1)]:Array (Nat×Nat))[i]?) #[(.bool false),(.int .i64 0),(.bool false),(.string ⟨#[]⟩),(.bool false)] parts:=by kernel_rfl
theorem Ng {n:Nat}{c:Cx}{l:Fr}{H:List Ent}{d:Option Nat}{ty:TypeId}{pos:String}{af:Array Edge}{g:Option (Nat×Bool)}{x0:Operand}{r0:Rp}(h0:ev l x0=some r0)(u0:r0.one=true){x1:Operand}{r1:Rp}(h1:ev l x1=some r1)(u1:r1.one=true){x2:Operand}{r2:Rp}(h2:ev l x2=some r2)(u2:r2.one=true):Bx Tryz.prog n c l H { dst:=d,op:=.build 166 #[(0,x0),(1,x1),(2,x2)],type:=ty,pos:=pos,after:=af,guard:=g } (BC [r0,r1,r2,rS ([]:Af),rB false]):=λa w Z ha _=>by
  have p0:=ha.ev h0;have c0:=BT (r0.hone u0 Z _ p0);have p1:=ha.ev h1;have c1:=BT (r1.hone u1 Z _ p1);have p2:=ha.ev h2;have c2:=BT (r2.hone u2 Z _ p2);have hb:Tryz.prog.built 166 [(0,a.eval x0),(1,a.eval x1),(2,a.eval x2)]=some #[a.eval x0,a.eval x1,a.eval x2,(.string ⟨#[]⟩),(.bool false)]:=by
    rw[Aac];generalize a.eval x0=v0 at *;generalize a.eval x1=v1 at *;generalize a.eval x2=v2 at *;simp[Instr.fill,c0,c1,c2]
  refine⟨.agg #[a.eval x0,a.eval x1,a.eval x2,(.string ⟨#[]⟩),(.bool false)],⟨[a.eval x0,a.eval x1,a.eval x2,(.string ⟨#[]⟩),(.bool false)],rfl,p0,p1,p2,rfl,rfl,trivial⟩,?_⟩;have:=run_build w 166 #[(0,a.eval x0),(1,a.eval x1),(2,a.eval x2)] _ (by simpa using hb);simp[execOp,this]
theorem YL (n:Int)(r:Bool)(h:BU n=some r):Fn Tryz.prog GE 99 [Al n] [] (λR H=>R=rB r∧H=[]):=by
 refine enter (n:=9) Tryz.func99 rfl Tryz.ntmps99 rfl (λw Z=>?_);unfold BU at h;refine Ad (wa rfl (Ak (A8 [(2,rB ((decide ((-1000000000000)≤n))&&(decide (n≤1000000000000))))] [] ?_ ?_)))
 ·refine Ag (wm rfl (wv (Lh rfl rfl) (wm rfl (AN (decide ((-1000000000000)≤n)) (λc1=>?_) (λc1=>?_)))))
  ·refine wo c1 (wm rfl (wo c1 (wv (Lh rfl rfl) (Es rfl c1 rfl (wa rfl (Aj ?_))))));exact Ca c1
  ·refine wf c1 (wf c1 (wv (r:=rB false) (A6 rfl c1 rfl) (wa rfl (Aj ?_))));exact Ca c1
 refine As ?_;obtain rfl:=Au h;exact Ar (Cb Tryz.results99 (A7 rfl)) sN ⟨rfl,rfl⟩
theorem Aa8 (F:Nat)(s:Af)(r:Bool)(h:LQ F s=some r):Fn Tryz.prog GE 163 [rS s] [] (λR H=>R=rB r∧H=[]):=by
 refine enter (n:=20) Tryz.func163 rfl Tryz.ntmps163 rfl (λw Z=>?_);unfold LQ at h;refine Ad (wa rfl (Ak (Ai (Ad (wm rfl (wv (Bg BQ rfl) (wv (r:=Al 0) (Ap rfl) (Ak (AF (ob h λhi hj hg=>Bo (S:=Nat×(Int)×(Unit)) (V:=(Unit)×(Unit)) 0 (λσ=>BJ (λσ=>IS s σ) σ.1 σ.2.1=some hi) (λσ=>[(0,rS s),(5,Al (s.length:Int)),(6,Al σ.2.1)]) (λσ=>[]) (λσ=>σ.1) (F,0,()) hj (AD.c rfl (AD.c rfl (AD.c rfl AD.nil))) sN (λσ=>IR =some r) (λσ=>[]) (λσ=>[]) ?_ ?_))))))))))
 ·rintro⟨hz,hb,⟨⟩⟩ hk;refine BO (l':=[(0,rS s),(5,Al (s.length:Int)),(6,Al hb)]) (H':=[]) rfl rfl ?_;obtain⟨hl,rfl,t37,hd,hf⟩:=Ck hk;replace hd:IS s hb=some t37:=hd;unfold IS at hd;refine Ad (wv (Cf rfl rfl) (Ak (Ai (cz hd rfl (λhm hn=>?_) (λhm ho=>?_)))))
  ·refine Am (AJ (Ai (AF (Ad (wm rfl (wa rfl (Ak (ck hn λhh hp=>A8 [(0,rS s),(5,Al (s.length:Int)),(6,Al hb),(18,rB ((decide ((AM s hb)<32))||(decide (126<(AM s hb)))))] [] ?_ ?_))))))))
   ·refine Ag (wm rfl (wm rfl (wv (AS BQ rfl rfl hh) (wv (Cf rfl rfl) (wm rfl (AN (decide ((AM s hb)<32)) (λha=>?_) (λha=>?_)))))))
    ·refine wf ha (wf ha (wf ha (wf ha (wv (r:=rB true) (A1 rfl ha rfl) (Aj ?_)))));exact Ca ha
    ·refine wo ha (wm rfl (wo ha (wm rfl (wo ha (wv (AS BQ rfl rfl hh) (wo ha (wv (Cm rfl rfl) (Et rfl ha rfl (Aj ?_)))))))));exact Ca ha
   refine cz hp rfl (λhq hr=>?_) (λhq hs=>?_)
   ·refine Ad (wa rfl (Ak (As (Ay (Ac (Ac (AY ?_)))))));have ht:=Bt hr hf hg;refine Ay (Ac ?_);obtain rfl:=Au ht;exact Ar (Cb Tryz.results163 (A7 rfl)) sN ⟨rfl,rfl⟩
   ·refine Am (AA (AJ (Ag (ck hs λhu hw=>wv (Bb rfl rfl hu) (wm rfl (Aj ?_))))));have hx:=Be hw hf;exact Av (A5 (hl,hb+1,()) ⟨hx,Aeo _⟩ (AD.c rfl (AD.c rfl (AD.c rfl AD.nil))) sN)
  ·refine Bq (Ax ?_);have hy:=BL ho hf hg;exact Ax (Bd (A5 ((),()) hy AD.nil sN))
 ·rintro⟨⟨⟩,⟨⟩⟩ he;refine Cl (l':=[]) (H':=[]) rfl rfl ?_;replace he:IR =some r:=he;unfold IR at he;refine Bc (AJ (Ad (wa rfl (Ak (As ?_)))));obtain rfl:=Au he;exact Ar (Cb Tryz.results163 (A7 rfl)) sN ⟨rfl,rfl⟩
theorem Qe (s:Af)(r:Int)(h:KE s=some r):Fn Tryz.prog GE 145 [rS s] [] (λR H=>R=Al r∧H=[]):=by
 refine enter (n:=12) Tryz.func145 rfl Tryz.ntmps145 rfl (λw Z=>?_);unfold KE at h;refine Ad (wa rfl (Bm (wm rfl (wv (Bg BQ rfl) (ck h λg1 h2=>wv (Bb rfl rfl g1) (wm rfl (I2 (rs:=[rS s,rS ([34]:Af)]) (r:=Al (Lib.countByte s 34:Int)) Tryz.call164 rfl (VA s 34) rfl rfl (ck h2 λg3 h4=>wv (Bb rfl rfl g3) (wm rfl (I2 (rs:=[rS s,rS ([92]:Af)]) (r:=Al (Lib.countByte s 92:Int)) Tryz.call164 rfl (VA s 92) rfl rfl (ck h4 λg5 h6=>wv (Bb rfl rfl g5) (wa rfl (Ak (As ?_))))))))))))));obtain rfl:=Au h6;exact Ar (Cb Tryz.results145 (A7 rfl)) sN ⟨rfl,rfl⟩
theorem XG (F:Nat)(c:Aa)(r:Bool)(h:OG F c=some r):Fn Tryz.prog GE 144 [BC (Ab c)] [] (λR H=>R=rB r∧H=[]):=by
 refine enter (n:=81) Tryz.func144 rfl Tryz.ntmps144 rfl (λw Z=>?_);unfold OG at h;refine Ad (DI rfl rfl (λb1=>?_));refine wa rfl (Ak (Ai (Ad (vF B8 rfl Er (vL 0 EE rfl (Ak (AF (Ad (wv (B3 rfl rfl) (wa rfl (Ak (cz h rfl (λc2 h3=>?_) (λc2 h6=>?_)))))))))))))
 ·refine A8 [(2,rB ((decide (c.fInt=0))&&((decide (c.fStr=([]:Af)))&&(decide (c.fN=0)))))] [] ?_ ?_
  ·refine Ag (vF B8 rfl Cs (vL 0 CR rfl (wv (B3 rfl rfl) (wm rfl (AN (decide (c.fInt=0)) (λc4=>?_) (λc4=>?_))))))
   ·refine wo c4 (vF B8 rfl Da (wo c4 (vL 0 DE rfl (wo c4 (wv (El rfl rfl) (Es rfl c4 rfl (wm rfl (AN (decide (c.fStr=([]:Af))) (λc5=>?_) (λc5=>?_)))))))))
    ·refine wo c5 (vF B8 rfl Cs (wo c5 (vL 0 CR rfl (wo c5 (wv (B3 rfl rfl) (Es rfl c5 rfl (wa rfl (Aj ?_))))))));exact Ca (And.intro c4 c5)
    ·refine wf c5 (wf c5 (wf c5 (wv (r:=rB false) (A6 rfl c5 rfl) (wa rfl (Aj ?_)))));exact Ca (And.intro c4 c5)
   ·refine wf c4 (wf c4 (wf c4 (wv (r:=rB false) (A6 rfl c4 rfl) (wm rfl (wz rfl rfl (wz rfl rfl (wz rfl rfl (wv (r:=rB false) (A6 (b:=false) rfl rfl rfl) (wa rfl (Aj ?_))))))))));exact Ca c4
  refine As (Ay (Ac ?_));obtain rfl:=Au h3;exact Ar (Cb O4 (A7 rfl)) sN ⟨rfl,rfl⟩
 ·refine Ad (wv (B3 rfl rfl) (wa rfl (Ak (cz h6 rfl (λc7 h8=>?_) (λc7 hm=>?_)))))
  ·refine A8 [(2,rB (bif decide (c.fInt=0) then((decide (c.fStr=([]:Af)))&&(decide (c.fN=0))) else((decide (c.fInt=1))&&((decide (c.fStr=([]:Af)))&&(decide (c.fN=0))))))] [] ?_ ?_
   ·refine Ag (vF B8 rfl Cs (vL 0 CR rfl (wv (B3 rfl rfl) (wm rfl (AN (decide (c.fInt=0)) (λc9=>?_) (λc9=>?_))))))
    ·refine wf c9 (wf c9 (wf c9 (wv (r:=rB true) (A1 rfl c9 rfl) (wm rfl (Bj (b:=true) rfl rfl rfl (vF B8 rfl Da (Bj (b:=true) rfl rfl rfl (vL 0 DE rfl (Bj (b:=true) rfl rfl rfl (wv (El rfl rfl) (wv (r:=rB (decide (c.fStr=([]:Af)))) (A1 (b:=true) rfl rfl rfl) (wm rfl (AN (decide (c.fStr=([]:Af))) (λhg=>?_) (λhg=>?_))))))))))))))
     ·refine wo hg (vF B8 rfl Cs (wo hg (vL 0 CR rfl (wo hg (wv (B3 rfl rfl) (Es rfl hg rfl (wa rfl (Aj ?_))))))));exact Ca (And.intro c9 hg)
     ·refine wf hg (wf hg (wf hg (wv (r:=rB false) (A6 rfl hg rfl) (wa rfl (Aj ?_)))));exact Ca (And.intro c9 hg)
    ·refine wo c9 (vF B8 rfl Cs (wo c9 (vL 0 CR rfl (wo c9 (wv (B3 rfl rfl) (Et rfl c9 rfl (wm rfl (AN (decide (c.fInt=1)) (λhb=>?_) (λhb=>?_)))))))))
     ·refine wo hb (vF B8 rfl Da (wo hb (vL 0 DE rfl (wo hb (wv (El rfl rfl) (Es rfl hb rfl (wm rfl (AN (decide (c.fStr=([]:Af))) (λhh=>?_) (λhh=>?_)))))))))
      ·refine wo hh (vF B8 rfl Cs (wo hh (vL 0 CR rfl (wo hh (wv (B3 rfl rfl) (Es rfl hh rfl (wa rfl (Aj ?_))))))));exact Ca (And.intro c9 (And.intro hb hh))
      ·refine wf hh (wf hh (wf hh (wv (r:=rB false) (A6 rfl hh rfl) (wa rfl (Aj ?_)))));exact Ca (And.intro c9 (And.intro hb hh))
     ·refine wf hb (wf hb (wf hb (wv (r:=rB false) (A6 rfl hb rfl) (wm rfl (wz rfl rfl (wz rfl rfl (wz rfl rfl (wv (r:=rB false) (A6 (b:=false) rfl rfl rfl) (wa rfl (Aj ?_))))))))));exact Ca (And.intro c9 hb)
   refine As (Ay (Ac ?_));obtain rfl:=Au h8;exact Ar (Cb O4 (A7 rfl)) sN ⟨rfl,rfl⟩
  ·refine Ad (wv (B3 rfl rfl) (wa rfl (Ak (cz hm rfl (λhn ho=>?_) (λhn hp=>?_)))))
   ·refine A8 [(2,rB ((decide (c.fStr=([]:Af)))&&(decide (c.fN=0))))] [] ?_ ?_
    ·refine Ag (vF B8 rfl Da (vL 0 DE rfl (wv (El rfl rfl) (wm rfl (AN (decide (c.fStr=([]:Af))) (λhi=>?_) (λhi=>?_))))))
     ·refine wo hi (vF B8 rfl Cs (wo hi (vL 0 CR rfl (wo hi (wv (B3 rfl rfl) (Es rfl hi rfl (wa rfl (Aj ?_))))))));exact Ca hi
     ·refine wf hi (wf hi (wf hi (wv (r:=rB false) (A6 rfl hi rfl) (wa rfl (Aj ?_)))));exact Ca hi
    refine As (Ay (Ac ?_));obtain rfl:=Au ho;exact Ar (Cb O4 (A7 rfl)) sN ⟨rfl,rfl⟩
   ·refine Ad (wv (B3 rfl rfl) (wa rfl (Ak (cz hp rfl (λhq hr=>?_) (λhq hs=>?_)))))
    ·refine ck hr λht hu=>A8 [(2,rB ((decide (c.fInt=0))&&((decide (c.fN=0))&&(ov (LQ F c.fStr)))))] [] ?_ ?_
     ·refine Ag (vF B8 rfl Cs (vL 0 CR rfl (wv (B3 rfl rfl) (wm rfl (AN (decide (c.fInt=0)) (λha=>?_) (λha=>?_))))))
      ·refine wo ha (vF B8 rfl Cs (wo ha (vL 0 CR rfl (wo ha (wv (B3 rfl rfl) (Es rfl ha rfl (wm rfl (AN (decide (c.fN=0)) (λhd=>?_) (λhd=>?_)))))))))
       ·refine wo hd (vF B8 rfl Da (wo hd (vL 0 DE rfl (wo hd (Cu Tryz.call163 (Aa8 F c.fStr (ov (LQ F c.fStr)) (HI (Cz (Cz ht ha) hd))) rfl (Es rfl hd rfl (wa rfl (Aj ?_))))))));exact Ca (And.intro ha hd)
       ·refine wf hd (wf hd (wf hd (wv (r:=rB false) (A6 rfl hd rfl) (wa rfl (Aj ?_)))));exact Ca (And.intro ha hd)
      ·refine wf ha (wf ha (wf ha (wv (r:=rB false) (A6 rfl ha rfl) (wm rfl (wz rfl rfl (wz rfl rfl (wz rfl rfl (wv (r:=rB false) (A6 (b:=false) rfl rfl rfl) (wa rfl (Aj ?_))))))))));exact Ca ha
     refine As (Ay (Ac ?_));obtain rfl:=Au hu;exact Ar (Cb O4 (A7 rfl)) sN ⟨rfl,rfl⟩
    ·refine Ai (Ad (wv (B3 rfl rfl) (wa rfl (Ak (cz hs rfl (λhl hw=>?_) (λhl hx=>?_))))))
     ·refine Am (AJ (EF rfl hl (A8 [(2,rB ((decide (c.fInt=0))&&((decide (c.fStr=([]:Af)))&&(decide (0≤c.fN)))))] [] ?_ ?_)))
      ·refine Ag (vF B8 rfl Cs (vL 0 CR rfl (wv (B3 rfl rfl) (wm rfl (AN (decide (c.fInt=0)) (λhe=>?_) (λhe=>?_))))))
       ·refine wo he (vF B8 rfl Da (wo he (vL 0 DE rfl (wo he (wv (El rfl rfl) (Es rfl he rfl (wm rfl (AN (decide (c.fStr=([]:Af))) (λhj=>?_) (λhj=>?_)))))))))
        ·refine wo hj (vF B8 rfl Cs (wo hj (vL 0 CR rfl (wo hj (wv (Ga rfl rfl) (Es rfl hj rfl (wa rfl (Aj ?_))))))));exact Ca (And.intro he hj)
        ·refine wf hj (wf hj (wf hj (wv (r:=rB false) (A6 rfl hj rfl) (wa rfl (Aj ?_)))));exact Ca (And.intro he hj)
       ·refine wf he (wf he (wf he (wv (r:=rB false) (A6 rfl he rfl) (wm rfl (wz rfl rfl (wz rfl rfl (wz rfl rfl (wv (r:=rB false) (A6 (b:=false) rfl rfl rfl) (wa rfl (Aj ?_))))))))));exact Ca he
      refine As (Ay (Ac ?_));obtain rfl:=Au hw;exact Ar (Cb O4 (A7 rfl)) sN ⟨rfl,rfl⟩
     ·refine Ag (wv (B3 rfl rfl) (wa rfl (Ak (cz hx rfl (λhy hz=>?_) (λhy h0=>?_)))))
      ·refine A8 [(2,rB ((decide (c.fInt=0))&&((decide (c.fStr=([]:Af)))&&(decide (0≤c.fN)))))] [] ?_ ?_
       ·refine Ag (vF B8 rfl Cs (vL 0 CR rfl (wv (B3 rfl rfl) (wm rfl (AN (decide (c.fInt=0)) (λhf=>?_) (λhf=>?_))))))
        ·refine wo hf (vF B8 rfl Da (wo hf (vL 0 DE rfl (wo hf (wv (El rfl rfl) (Es rfl hf rfl (wm rfl (AN (decide (c.fStr=([]:Af))) (λhk=>?_) (λhk=>?_)))))))))
         ·refine wo hk (vF B8 rfl Cs (wo hk (vL 0 CR rfl (wo hk (wv (Ga rfl rfl) (Es rfl hk rfl (wa rfl (Aj ?_))))))));exact Ca (And.intro hf hk)
         ·refine wf hk (wf hk (wf hk (wv (r:=rB false) (A6 rfl hk rfl) (wa rfl (Aj ?_)))));exact Ca (And.intro hf hk)
        ·refine wf hf (wf hf (wf hf (wv (r:=rB false) (A6 rfl hf rfl) (wm rfl (wz rfl rfl (wz rfl rfl (wz rfl rfl (wv (r:=rB false) (A6 (b:=false) rfl rfl rfl) (wa rfl (Aj ?_))))))))));exact Ca hf
       refine As (Ay (Ac ?_));obtain rfl:=Au hz;exact Ar (Cb O4 (A7 rfl)) sN ⟨rfl,rfl⟩
      ·refine Am (AA (AJ (Ad (wa rfl (Ak (As ?_))))));obtain rfl:=Au h0;exact Ar (Cb O4 (A7 rfl)) (sS sN) ⟨rfl,rfl⟩
theorem Aa9 (c:Aa)(r:Int)(h:RT c=some r):Fn Tryz.prog GE 146 [BC (Ab c)] [] (λR H=>R=Al r∧H=[]):=by
 refine enter (n:=28) Tryz.func146 rfl Tryz.ntmps146 rfl (λw Z=>?_);unfold RT at h;refine Ad (DI rfl rfl (λb1=>?_));refine wa rfl (Ak (Ai (Ad (vF B8 rfl Er (vL 0 EE rfl (Ak (AF (Ad (wv (B3 rfl rfl) (wa rfl (Ak (cz h rfl (λc2 h3=>?_) (λc2 h4=>?_)))))))))))))
 ·refine Ad (wa rfl (Ak (As (Ay (Ac ?_)))));obtain rfl:=Au h3;exact Ar (Cb RL (A7 rfl)) (sS sN) ⟨rfl,rfl⟩
 ·refine Ad (wv (B3 rfl rfl) (wa rfl (Ak (cz h4 rfl (λc5 h6=>?_) (λc5 h7=>?_)))))
  ·refine Ad (vF B8 rfl Cs (vL 0 CR rfl (wv (r:=Al (IntKind.wrap .i64 (5-c.fInt))) (YC rfl rfl) (wa rfl (Ak (As (Ay (Ac ?_))))))));obtain rfl:=Au h6;exact Ar (Cb RL (A7 rfl)) (sS sN) ⟨rfl,rfl⟩
  ·refine Ad (wv (B3 rfl rfl) (wa rfl (Ak (cz h7 rfl (λc8 h9=>?_) (λc8 ha=>?_)))))
   ·refine Ad (vF B8 rfl Cs (vL 0 CR rfl (ck h9 λhb hd=>I2 (rs:=[Al c.fInt]) (r:=rS (Lib.itoa c.fInt)) Tryz.call67 rfl (M8 c.fInt hb) rfl rfl (wv (Bg BQ rfl) (wa rfl (Ak (As (Ay (Ac ?_)))))))));obtain rfl:=Au hd;exact Ar (Cb RL (A7 rfl)) (sS sN) ⟨rfl,rfl⟩
   ·refine Ad (wv (B3 rfl rfl) (wa rfl (Ak (cz ha rfl (λhe hf=>?_) (λhe hg=>?_)))))
    ·refine Ad (vF B8 rfl Da (vL 0 DE rfl (ob hf λhh hi hj=>Cu Tryz.call145 (Qe c.fStr hh hi) rfl (wa rfl (Ak (As (Ay (Ac ?_))))))));obtain rfl:=Au hj;exact Ar (Cb RL (A7 rfl)) (sS sN) ⟨rfl,rfl⟩
    ·refine Am (AA (AJ (Ad (vF B8 rfl Cs (vL 0 CR rfl (wv (r:=Al (IntKind.wrap .i64 (c.fN-1))) (YC rfl rfl) (wv (AbP PM rfl rfl) (wv (r:=Al (IntKind.wrap .i64 (2+(max 0 (IntKind.wrap .i64 (c.fN-1)))))) (Uo rfl rfl) (wa rfl (Ak (As ?_)))))))))));obtain rfl:=Au hg;exact Ar (Cb RL (A7 rfl)) (sS sN) ⟨rfl,rfl⟩
theorem VV (F:Nat)(hi:Value)(stack:(List AH))(r:(List AH))(h:LV F stack=some r):Fn Tryz.prog GE 147 [rv hi] [.row hi 166 5 (AE AG stack)] (λR H=>∃u0:Value,R=rv u0∧H=[.row u0 166 5 (AE AG r)]):=by
 refine enter (n:=38) Tryz.func147 rfl Tryz.ntmps147 rfl (λw Z=>?_);unfold LV at h;refine Ad (wa rfl (Ak (Ai (AF (ob h λhn ho hl=>Bo (S:=Nat×((List AH))×(Value)) (V:=((List AH))×(Value)) 0 (λσ=>BJ (λσ=>E0 σ) σ.1 σ.2.1=some hn) (λσ=>[(0,rv σ.2.2),(2,rv (.slice none 0 0))]) (λσ=>[.row σ.2.2 166 5 (AE AG σ.2.1)]) (λσ=>σ.1) (F,stack,hi) ho (AD.c rfl (AD.c rfl AD.nil)) (sC sN) (λσ=>Gn σ.1=some r) (λσ=>[(0,rv σ.2),(2,rv (.slice none 0 0))]) (λσ=>[.row σ.2 166 5 (AE AG σ.1)]) ?_ ?_)))))
 ·rintro⟨hG,ha,hd⟩ hp;refine BO (l':=[(0,rv hd),(2,rv (.slice none 0 0))]) (H':=[.row hd 166 5 (AE AG ha)]) rfl rfl ?_;obtain⟨hq,rfl,hr,hg,hj⟩:=Ck hp;replace hg:E0 ha=some hr:=hg;unfold E0 at hg;refine Ai (Ad (wm rfl (wv (Dl (ys:=ha) (enc:=AG) (i:=0) JM rfl rfl) (wv (Cm rfl rfl) (Ak (cz hg rfl (λhs ht=>?_) (λhs hu=>?_)))))))
  ·refine Am (AJ (AF (Ad (wm rfl (wm rfl (wv (Dl (ys:=ha) (enc:=AG) (i:=0) JM rfl rfl) (ck ht λhw hx=>wv (EZ rfl rfl hw) (ck hx λhe hy=>wv (r:=rv (Hq 5 hd (Bw ((ha.length:Int)-1)) 0)) (L9 (i:=0) JM RH rfl rfl rfl (Cj he)) (wa rfl (Bm (wm rfl (wv (r:=rv (Hq 5 hd (Bw ((ha.length:Int)-1)) 0)) (CE (k:=0) rfl (Cj he) rfl rfl) (wv (r:=rv (Hq 5 hd (Bw ((ha.length:Int)-1)) 1)) (GB (k:=0) JL rfl Cs rfl (Cj he) rfl rfl rfl) (wv (r:=Al ((Aq ha ((ha.length:Int)-1)).fLeft)) (JD (enc:=AG) (ys:=ha) (i:=0) (j:=(ha.length:Int)-1) CR rfl rfl he rfl) (ck hy λhz h0=>wv (EZ rfl rfl hz) (wv (r:=rv (Hq 5 hd (Bw ((ha.length:Int)-1)) 0)) (CE (k:=0) rfl (Cj he) rfl rfl) (wv (r:=rv (Hq 5 hd (Bw ((ha.length:Int)-1)) 1)) (GB (k:=0) JL rfl Cs rfl (Cj he) rfl rfl rfl) (Ki (enc:=AG) (ys:=ha) (y':=(AH.mk ((Aq ha ((ha.length:Int)-1)).fPairs) (((Aq ha ((ha.length:Int)-1)).fLeft)-1) ((Aq ha ((ha.length:Int)-1)).fKey) ((Aq ha ((ha.length:Int)-1)).fLast) ((Aq ha ((ha.length:Int)-1)).fStarted))) (i:=0) (j:=(ha.length:Int)-1) Cs rfl rfl (Cy rfl) rfl he rfl rfl (H':=[.row hd 166 5 (AE AG (List.set ha (Bw ((ha.length:Int)-1)) (AH.mk ((Aq ha ((ha.length:Int)-1)).fPairs) (((Aq ha ((ha.length:Int)-1)).fLeft)-1) ((Aq ha ((ha.length:Int)-1)).fKey) ((Aq ha ((ha.length:Int)-1)).fLast) ((Aq ha ((ha.length:Int)-1)).fStarted))))]) rfl (bd h0 λhb hf h1=>?_)))))))))))))))))));rw[← hf];refine Ak (Ai (Ad (wm rfl (wv (r:=rv (Hq 5 hd (Bw ((ha.length:Int)-1)) 0)) (CE (k:=0) rfl (Cj (D9 he hf)) rfl rfl) (wv (r:=rv (Hq 5 hd (Bw ((ha.length:Int)-1)) 1)) (GB (k:=0) JL rfl Cs rfl (Cj (D9 he hf)) rfl rfl rfl) (wv (r:=Al ((Aq hb ((ha.length:Int)-1)).fLeft)) (JD (enc:=AG) (ys:=hb) (i:=0) (j:=(ha.length:Int)-1) CR rfl rfl (D9 he hf) rfl) (wv (Cm rfl rfl) (Ak (cz h1 rfl (λh2 h3=>?_) (λh2 h4=>?_))))))))))
   ·refine Ad (wm rfl (wm rfl (wv (r:=rv (Hq 5 hd (Bw ((ha.length:Int)-1)) 0)) (CE (k:=0) rfl (Cj (D9 he hf)) rfl rfl) (wv (r:=rv (Hq 5 hd (Bw ((ha.length:Int)-1)) 0)) (GB (k:=0) JL rfl Hu rfl (Cj (D9 he hf)) rfl rfl rfl) (wv (r:=rB ((Aq hb ((ha.length:Int)-1)).fPairs)) (JD (enc:=AG) (ys:=hb) (i:=0) (j:=(ha.length:Int)-1) NZ rfl rfl (D9 he hf) rfl) (wv (r:=rv (Hq 5 hd (Bw ((ha.length:Int)-1)) 0)) (CE (k:=0) rfl (Cj (D9 he hf)) rfl rfl) (wv (r:=rv (Hq 5 hd (Bw ((ha.length:Int)-1)) 2)) (GB (k:=0) JL rfl Hu rfl (Cj (D9 he hf)) rfl rfl rfl) (Ki (enc:=AG) (ys:=hb) (y':=(AH.mk ((Aq hb ((ha.length:Int)-1)).fPairs) ((Aq hb ((ha.length:Int)-1)).fLeft) ((Aq hb ((ha.length:Int)-1)).fPairs) ((Aq hb ((ha.length:Int)-1)).fLast) ((Aq hb ((ha.length:Int)-1)).fStarted))) (i:=0) (j:=(ha.length:Int)-1) Hu rfl rfl (Cy rfl) rfl (D9 he hf) rfl rfl (H':=[.row hd 166 5 (AE AG (List.set hb (Bw ((ha.length:Int)-1)) (AH.mk ((Aq hb ((ha.length:Int)-1)).fPairs) ((Aq hb ((ha.length:Int)-1)).fLeft) ((Aq hb ((ha.length:Int)-1)).fPairs) ((Aq hb ((ha.length:Int)-1)).fLast) ((Aq hb ((ha.length:Int)-1)).fStarted))))]) rfl (bd h3 λhH h5 h6=>?_)))))))));rw[← h5];refine Bm (wm rfl (wa rfl (Ak (As (Ac (Ay (Ac (AY ?_))))))));have h7:=Bt h6 hj hl;refine Ay (Ac ?_);obtain rfl:=Au h7;exact Ar (Cb Tryz.results147 (A7 rfl)) (sC sN) ⟨hd,rfl,rfl⟩
   ·refine Am (AJ (Ag (wm rfl (wm rfl (wv (Dl (ys:=hb) (enc:=AG) (i:=0) JM rfl rfl) (ck h4 λh8 h9=>wv (EZ rfl rfl h8) (ck h9 λhA hB=>Adi (i:=0) JM RH rfl rfl rfl hA rfl (λhC=>?_))))))));refine wa rfl (Aj (AA ?_));have hD:=Be hB hj;exact Av (A5 (hq,List.take (Bw ((hb.length:Int)-1)) hb,hC) ⟨hD,Aeo _⟩ (AD.c rfl (AD.c rfl AD.nil)) (sC sN))
  ·refine Bq (Ax ?_);have hE:=BL hu hj hl;exact Ax (Bd (A5 (ha,hd) hE (AD.c rfl (AD.c rfl AD.nil)) (sC sN)))
 ·rintro⟨hm,hk⟩ hh;refine Cl (l':=[(0,rv hk),(2,rv (.slice none 0 0))]) (H':=[.row hk 166 5 (AE AG hm)]) rfl rfl ?_;replace hh:Gn hm=some r:=hh;unfold Gn at hh;refine Bc (AJ (Ad (wm rfl (wa rfl (Ak (As ?_))))));obtain rfl:=Au hh;exact Ar (Cb Tryz.results147 (A7 rfl)) (sC sN) ⟨hk,rfl,rfl⟩
theorem QR (F:Nat)(v:(List Aa))(r:Int×AP×Bool)(h:JP F v=some r):Fn Tryz.prog GE 106 [AX 4 (AE Ab v)] [] (λR H=>R=Ct [Al r.1,BC (Bf r.2.1),rB r.2.2]∧H=[]):=by
 refine enter (n:=152) Tryz.func106 rfl Tryz.ntmps106 rfl (λw Z=>?_);unfold JP at h;refine Ad (wa rfl (Cd (cs:=[Al 0,Al 0,rB false,rB false]) RE rfl rfl (λb1=>?_)));refine wa rfl (Ak (XA (Ad (Cd (cs:=[Al 0,Al 0,rB false,rB false]) RE rfl rfl (λb2=>?_)))));refine Bm (wa rfl (Ak (Ai (XB (AJ (Ai (Ad (wm rfl (wv (Bv (ys:=v) (enc:=Ab) BY rfl) (wv (r:=Al 0) (Ap rfl) (Ak (AF (WC.nilrow (e:=166) (sz:=5) (KA (H2:=[.blk b2 [Al 0,Al 0,rB false,rB false] 133,.blk b1 [Al 0,Al 0,rB false,rB false] 133,.row (.slice none 0 0                                                                                                                                                                      ) 166 5 (AE AG ([]:List AH))]) ((A0 (i:=1) rfl).trans (Aem _ ((A0 (i:=1) rfl).trans (Aem _ (Ael _))))) (ob h λhA hB hy=>Bo (S:=Nat×((List AH)×Int×AP)×(Value)) (V:=(AP)×(Unit)) 0 (λσ=>BJ (λσ=>Ez F v σ.1 σ.2.1 σ.2.2) σ.1 σ.2.1=some hA) (λσ=>[(0,AX 4 (AE Ab v)),(3,rP b1 0),(5,rP b2 0),(6,rv σ.2.2),(11,AX 4 (AE Ab v)),(12,Al (v.length:Int)),(13,Al σ.2.1.2.1)]) (λσ=>[.blk b2 (Bf σ.2.1.2.2) 133,.blk b1 [Al 0,Al 0,rB false,rB false] 133,.row σ.2.2 166 5 (AE AG σ.2.1.1)]) (λσ=>σ.1) (F,(([]:List AH),0,(AP.mk 0 0 false false)),(.slice none 0 0                                                                                                                                                                      )) hB (AD.c rfl (AD.c rfl (AD.c5 rfl rfl rfl rfl rfl AD.nil))) (sC (sC (sC sN))) (λσ=>LS σ.1=some r) (λσ=>[(3,rP b1 0),(5,rP b2 0)]) (λσ=>[.blk b2 (Bf σ.1) 133,.blk b1 [Al 0,Al 0,rB false,rB false] 133]) ?_ ?_)))))))))))))))
 ·rintro⟨gG,⟨hd,hb,ha⟩,he⟩ hC;refine BO (l':=[(0,AX 4 (AE Ab v)),(3,rP b1 0),(5,rP b2 0),(6,rv he),(11,AX 4 (AE Ab v)),(12,Al (v.length:Int)),(13,Al hb)]) (H':=[.blk b2 (Bf ha) 133,.blk b1 [Al 0,Al 0,rB false,rB false] 133,.row he 166 5 (AE AG hd)]) rfl rfl ?_;obtain⟨hD,rfl,h4,h0,hx⟩:=Ck hC;replace h0:Ez F v hd hb ha=some h4:=h0;unfold Ez at h0;refine Ad (wv (Cf rfl rfl) (Ak (Ai (cz h0 rfl (λhE hG=>?_) (λhE hH=>?_)))))
  ·refine Am (AJ (Df (S:=((List AH)×AP)×(Value)) (λσ=>EX hb σ.1.1 σ.1.2=some h4) (λσ=>[(0,AX 4 (AE Ab v)),(3,rP b1 0),(5,rP b2 0),(6,rv σ.2),(11,AX 4 (AE Ab v)),(12,Al (v.length:Int)),(13,Al hb)]) (λσ=>[.blk b2 (Bf σ.1.2) 133,.blk b1 [Al 0,Al 0,rB false,rB false] 133,.row σ.2 166 5 (AE AG σ.1.1)]) ?_ ?_))
   ·refine AF (Ad (wm rfl (ck hG λhI hJ=>wv (By (enc:=Ab) (ys:=v) BY Co rfl rfl hI) (wv (Dd MP Co rfl rfl rfl) (Cd (cs:=[Al 0,Al 0,rS ([]:Af),Al 0]) EU rfl rfl (λhf=>?_))))));refine wa rfl (Bp (i:=0) Co rfl rfl rfl (BM.c rfl) rfl rfl (cs':=[Al ((Aq v hb).fKind),Al ((Aq v hb).fInt),rS ((Aq v hb).fStr),Al ((Aq v hb).fN)]) rfl (H':=[.blk hf (Ab (Aq v hb)) 78,.blk b2 (Bf ha) 133,.blk b1 [Al 0,Al 0,rB false,rB false] 133,.row he 166 5 (AE AG hd)]) rfl (Ak (Ai (Ad (wv (B5 (i:=0) MP Co rfl rfl rfl rfl) (ob hJ λhK hL hN=>Cu Tryz.call144 (XG F (Aq v hb) hK hL) rfl (wv (Cc rfl) (Ak (cz hN rfl (λhO hP=>?_) (λhO hQ=>?_))))))))))
    ·refine Ai (Gk (H1:=[.blk hf (Ab (Aq v hb)) 78,.blk b2 (Bf ha) 133,.blk b1 (Bf ha) 133,.row he 166 5 (AE AG hd)]) [3,5] [⟨[],BC (Bf ha),1⟩,⟨[],Al 0,0⟩,⟨[0],rv undef,2⟩,⟨[],rB false,0⟩] (rle [(3,_),(2,[.blk hf (Ab (Aq v hb)) 78,.blk b2 (Bf ha) 133,.blk b1 (Bf ha) 133,.row he 166 5 (AE AG hd)])]) [2,4,3] ?_ ?_)
     ·refine of (B5 (i:=1) Lm GJ rfl rfl rfl rfl) (oq (Aw rfl) (I4 rfl (NQ (C9 (i:=2) GJ rfl rfl rfl (BM.c rfl) rfl rfl (cs':=[Al ha.fDepth,Al ha.fBytes,rB ha.fOutside,rB ha.fLong]) rfl (H':=[.blk hf (Ab (Aq v hb)) 78,.blk b2 (Bf ha) 133,.blk b1 (Bf ha) 133,.row he 166 5 (AE AG hd)]) rfl)) ?_));refine oq (Aw rfl) ?_;exact Cp
     refine AJ (As (Ac (Ay (Ac (Ac (AY ?_))))));have hR:=Bt hP hx hy;refine Ay (Ac (K7 ?_));obtain rfl:=Au hR;exact Ar (TD RN (A7 rfl) (Gx (i:=2) Lm GJ rfl rfl rfl) (A7 rfl)) (sS (sS (sS (sS sN)))) ⟨rfl,rfl⟩
    ·refine Am (AJ (Ai (Ad (wm rfl (wv (Dl (ys:=hd) (enc:=AG) (i:=3) JM rfl rfl) (wa rfl (Ak (ck hQ λhS hT=>ck hT λh5 hU=>A8 [(0,AX 4 (AE Ab v)),(3,rP b1 0),(5,rP b2 0),(6,rv he),(7,Al hb),(8,rP hf 0),(9,Al (hd.length:Int)),(11,AX 4 (AE Ab v)),(12,Al (v.length:Int)),(13,Al hb),(33,rB ((decide (0<(hd.length:Int)))&&((Aq hd ((hd.length:Int)-1)).fKey)))] [.blk hf (Ab (Aq v hb)) 78,.blk b2 (Bf ha) 133,.blk b1 [Al 0,Al 0,rB false,rB false] 133,.row he 166 5 (AE AG hd)] ?_ ?_))))))))
     ·refine Ag (wm rfl (wv (Cm rfl rfl) (wm rfl (AN (decide (0<(hd.length:Int))) (λhi=>?_) (λhi=>?_)))))
      ·refine wo hi (wm rfl (wo hi (wm rfl (wo hi (wv (EZ rfl rfl (Cz hS hi)) (wo hi (wv (r:=rv (Hq 5 he (Bw ((hd.length:Int)-1)) 0)) (L9 (i:=3) JM RH rfl rfl rfl (Cj (Cz h5 hi))) (wo hi (wv (r:=rv (Hq 5 he (Bw ((hd.length:Int)-1)) 2)) (GB (k:=3) JL rfl Hu rfl (Cj (Cz h5 hi)) rfl rfl rfl) (wo hi (wv (r:=rB ((Aq hd ((hd.length:Int)-1)).fKey)) (JD (enc:=AG) (ys:=hd) (i:=3) (j:=(hd.length:Int)-1) NZ rfl rfl (Cz h5 hi) rfl) (Es rfl hi rfl (Aj ?_)))))))))))));exact Ca hi
      ·refine wf hi (wf hi (wf hi (wf hi (wf hi (wf hi (wv (r:=rB false) (A6 rfl hi rfl) (Aj ?_)))))));exact Ca hi
     refine cz hU rfl (λhV hW=>?_) (λhV hX=>?_)
     ·refine Ad (wm rfl (wm rfl (ck hW λhY hZ=>wv (EZ rfl rfl hY) (ck hZ λhj ga=>wv (r:=rv (Hq 5 he (Bw ((hd.length:Int)-1)) 0)) (L9 (i:=3) JM RH rfl rfl rfl (Cj hj)) (wa rfl (Ak (Ai (A8 [(0,AX 4 (AE Ab v)),(3,rP b1 0),(5,rP b2 0),(6,rv he),(8,rP hf 0),(10,rv (Hq 5 he (Bw ((hd.length:Int)-1)) 0)),(11,AX 4 (AE Ab v)),(12,Al (v.length:Int)),(13,Al hb),(38,rP hf 0),(39,Al ((Aq v hb).fKind)),(40,rB (!decide (((Aq v hb).fKind)=4))),(41,rB (!decide (((Aq v hb).fKind)=4))),(55,rB ((!decide (((Aq v hb).fKind)=4))||(((Aq hd ((hd.length:Int)-1)).fStarted)&&(BR ((Aq v hb).fStr) ((Aq hd ((hd.length:Int)-1)).fLast)||decide (((Aq v hb).fStr)=((Aq hd ((hd.length:Int)-1)).fLast))))))] [.blk hf (Ab (Aq v hb)) 78,.blk b2 (Bf ha) 133,.blk b1 [Al 0,Al 0,rB false,rB false] 133,.row he 166 5 (AE AG hd)] ?_ ?_))))))))
      ·refine AN (!decide (((Aq v hb).fKind)=4)) (λhh=>?_) (λhh=>?_)
       ·refine CN [0,3,5,6,8,10,11,12,13] [⟨[],rP hf 0,0⟩,⟨[0],Al ((Aq v hb).fKind),1⟩,⟨[1],rB (!decide (((Aq v hb).fKind)=4)),0⟩,⟨[2],rB (!decide (((Aq v hb).fKind)=4)),0⟩,⟨[3],rv undef,0⟩,⟨[4,3],rv undef,0⟩,⟨[5,3],rv undef,0⟩,⟨[6,3],rv undef,0⟩,⟨[7,3],rv undef,0⟩,⟨[8],rv undef,0⟩,⟨[9,8],rv undef,0⟩,⟨[8],rv undef,0⟩,⟨[11,8],rv undef,0⟩,⟨[12,8],rv undef,0⟩,⟨[13,8],rv undef,0⟩,⟨[10,14,8],rv undef,0⟩,⟨[8,15,3],rv undef,0⟩,⟨[3,16],rB true,0⟩] [38,39,40,41,42,43,44,45,46,47,48,49,50,51,52,53,54,55,0,3,5,6,8,10,11,12,13] ?_ ?_
        ·refine oq (AK B8 rfl Er rfl rfl) (of (Bu (i:=0) EE rfl rfl rfl) (oq (CV rfl rfl) (oq (Ap rfl) (oz hh (oz hh (oz hh (oz hh (oz hh (ou (ou (ou (ou (ou (ou (ou (oz hh (oq (A1 (b:=!decide (((Aq v hb).fKind)=4)) rfl hh rfl) ?_)))))))))))))))));exact Cp
        exact Ca hh
       ·refine AN ((Aq hd ((hd.length:Int)-1)).fStarted) (λhk=>?_) (λhk=>?_)
        ·refine CN [0,3,5,6,8,10,11,12,13] [⟨[],rP hf 0,0⟩,⟨[0],Al ((Aq v hb).fKind),1⟩,⟨[1],rB (!decide (((Aq v hb).fKind)=4)),0⟩,⟨[2],rB (!decide (((Aq v hb).fKind)=4)),0⟩,⟨[3],rv (Hq 5 he (Bw ((hd.length:Int)-1)) 0),0⟩,⟨[4,3],rv (Hq 5 he (Bw ((hd.length:Int)-1)) 0),1⟩,⟨[5,3],rv (Hq 5 he (Bw ((hd.length:Int)-1)) 4),1⟩,⟨[6,3],rB ((Aq hd ((hd.length:Int)-1)).fStarted),1⟩,⟨[7,3],rB ((Aq hd ((hd.length:Int)-1)).fStarted),0⟩,⟨[8],rP hf 2,0⟩,⟨[9,8],rS ((Aq v hb).fStr),1⟩,⟨[8],rv (Hq 5 he (Bw ((hd.length:Int)-1)) 0),0⟩,⟨[11,8],rv (Hq 5 he (Bw ((hd.length:Int)-1)) 0),1⟩,⟨[12,8],rv (Hq 5 he (Bw ((hd.length:Int)-1)) 3),1⟩,⟨[13,8],rS ((Aq hd ((hd.length:Int)-1)).fLast),1⟩,⟨[10,14,8],rB (BR ((Aq v hb).fStr) ((Aq hd ((hd.length:Int)-1)).fLast)||decide (((Aq v hb).fStr)=((Aq hd ((hd.length:Int)-1)).fLast))),0⟩,⟨[8,15,3],rB (BR ((Aq v hb).fStr) ((Aq hd ((hd.length:Int)-1)).fLast)||decide (((Aq v hb).fStr)=((Aq hd ((hd.length:Int)-1)).fLast))),0⟩,⟨[3,16],rB (BR ((Aq v hb).fStr) ((Aq hd ((hd.length:Int)-1)).fLast)||decide (((Aq v hb).fStr)=((Aq hd ((hd.length:Int)-1)).fLast))),0⟩] [38,39,40,41,42,43,44,45,46,47,48,49,50,51,52,53,54,55,0,3,5,6,8,10,11,12,13] ?_ ?_
         ·refine oq (AK B8 rfl Er rfl rfl) (of (Bu (i:=0) EE rfl rfl rfl) (oq (CV rfl rfl) (oq (Ap rfl) (on hh (oq (Ap rfl) (on hh (of (CE (k:=3) rfl (Cj hj) rfl rfl) (on hh (of (GB (k:=3) JL rfl Hu rfl (Cj hj) rfl rfl rfl) (on hh (of (JD (enc:=AG) (ys:=hd) (i:=3) (j:=(hd.length:Int)-1) NZ rfl rfl hj rfl) (on hh (oq (Ap rfl) (on hk (oq (AK B8 rfl Da rfl rfl) (on hk (of (Bu (i:=0) DE rfl rfl rfl) (on hk (oq (Ap rfl) (on hk (of (CE (k:=3) rfl (Cj hj) rfl rfl) (on hk (of (GB (k:=3) JL rfl Da rfl (Cj hj) rfl rfl rfl) ?_)))))))))))))))))))))));refine on hk (of (JD (enc:=AG) (ys:=hd) (i:=3) (j:=(hd.length:Int)-1) DE rfl rfl hj rfl) (on hk (oq (Vd rfl rfl) (on hh (oq (A1 rfl hk rfl) (oq (A6 rfl hh rfl) ?_))))));exact Cp
         exact Ca (And.intro hh hk)
        ·refine CN [0,3,5,6,8,10,11,12,13] [⟨[],rP hf 0,0⟩,⟨[0],Al ((Aq v hb).fKind),1⟩,⟨[1],rB (!decide (((Aq v hb).fKind)=4)),0⟩,⟨[2],rB (!decide (((Aq v hb).fKind)=4)),0⟩,⟨[3],rv (Hq 5 he (Bw ((hd.length:Int)-1)) 0),0⟩,⟨[4,3],rv (Hq 5 he (Bw ((hd.length:Int)-1)) 0),1⟩,⟨[5,3],rv (Hq 5 he (Bw ((hd.length:Int)-1)) 4),1⟩,⟨[6,3],rB ((Aq hd ((hd.length:Int)-1)).fStarted),1⟩,⟨[7,3],rB ((Aq hd ((hd.length:Int)-1)).fStarted),0⟩,⟨[8],rv undef,0⟩,⟨[9,8],rv undef,0⟩,⟨[8],rv undef,0⟩,⟨[11,8],rv undef,0⟩,⟨[12,8],rv undef,0⟩,⟨[13,8],rv undef,0⟩,⟨[10,14,8],rv undef,0⟩,⟨[8,15,3],rB false,0⟩,⟨[3,16],rB false,0⟩] [38,39,40,41,42,43,44,45,46,47,48,49,50,51,52,53,54,55,0,3,5,6,8,10,11,12,13] ?_ ?_
         ·refine oq (AK B8 rfl Er rfl rfl) (of (Bu (i:=0) EE rfl rfl rfl) (oq (CV rfl rfl) (oq (Ap rfl) (on hh (oq (Ap rfl) (on hh (of (CE (k:=3) rfl (Cj hj) rfl rfl) (on hh (of (GB (k:=3) JL rfl Hu rfl (Cj hj) rfl rfl rfl) (on hh (of (JD (enc:=AG) (ys:=hd) (i:=3) (j:=(hd.length:Int)-1) NZ rfl rfl hj rfl) (on hh (oq (Ap rfl) (oz hk (oz hk (oz hk (oz hk (oz hk (oz hk (oz hk (on hh (oq (A6 (b:=(Aq hd ((hd.length:Int)-1)).fStarted) rfl hk rfl) (oq (A6 rfl hh rfl) ?_)))))))))))))))))))))));exact Cp
         exact Ca (And.intro hh hk)
      refine cz ga rfl (λgb gc=>?_) (λgb gd=>?_)
      ·refine Ai (Gk (H1:=[.blk hf (Ab (Aq v hb)) 78,.blk b2 (Bf ha) 133,.blk b1 (Bf ha) 133,.row he 166 5 (AE AG hd)]) [3,5] [⟨[],BC (Bf ha),1⟩,⟨[],Al 0,0⟩,⟨[0],rv undef,2⟩,⟨[],rB false,0⟩] (rle [(3,_),(2,[.blk hf (Ab (Aq v hb)) 78,.blk b2 (Bf ha) 133,.blk b1 (Bf ha) 133,.row he 166 5 (AE AG hd)])]) [2,4,3] ?_ ?_)
       ·refine of (B5 (i:=1) Lm GJ rfl rfl rfl rfl) (oq (Aw rfl) (I4 rfl (NQ (C9 (i:=2) GJ rfl rfl rfl (BM.c rfl) rfl rfl (cs':=[Al ha.fDepth,Al ha.fBytes,rB ha.fOutside,rB ha.fLong]) rfl (H':=[.blk hf (Ab (Aq v hb)) 78,.blk b2 (Bf ha) 133,.blk b1 (Bf ha) 133,.row he 166 5 (AE AG hd)]) rfl)) ?_));refine oq (Aw rfl) ?_;exact Cp
       refine AJ (As (Ac (Ac (Ay (Ac (Ac (AY ?_)))))));have ge:=Bt gc hx hy;refine Ay (Ac (K7 ?_));obtain rfl:=Au ge;exact Ar (TD RN (A7 rfl) (Gx (i:=2) Lm GJ rfl rfl rfl) (A7 rfl)) (sS (sS (sS (sS sN)))) ⟨rfl,rfl⟩
      ·refine Am (AJ (Ad (wm rfl (wm rfl (wm rfl (vF B8 rfl Da (vL 0 DE rfl (wv (r:=rv (Hq 5 he (Bw ((hd.length:Int)-1)) 0)) (CE (k:=3) rfl (Cj hj) rfl rfl) (wv (r:=rv (Hq 5 he (Bw ((hd.length:Int)-1)) 3)) (GB (k:=3) JL rfl Da rfl (Cj hj) rfl rfl rfl) (Ki (enc:=AG) (ys:=hd) (y':=(AH.mk ((Aq hd ((hd.length:Int)-1)).fPairs) ((Aq hd ((hd.length:Int)-1)).fLeft) ((Aq hd ((hd.length:Int)-1)).fKey) ((Aq v hb).fStr) ((Aq hd ((hd.length:Int)-1)).fStarted))) (i:=3) (j:=(hd.length:Int)-1) Da rfl rfl (Cy rfl) rfl hj rfl rfl (H':=[.blk hf (Ab (Aq v hb)) 78,.blk b2 (Bf ha) 133,.blk b1 [Al 0,Al 0,rB false,rB false] 133,.row he 166 5 (AE AG (List.set hd (Bw ((hd.length:Int)-1)) (AH.mk ((Aq hd ((hd.length:Int)-1)).fPairs) ((Aq hd ((hd.length:Int)-1)).fLeft) ((Aq hd ((hd.length:Int)-1)).fKey) ((Aq v hb).fStr) ((Aq hd ((hd.length:Int)-1)).fStarted))))]) rfl (bd gd λhr hu gf=>?_)))))))))));rw[← hu];refine wv (r:=rv (Hq 5 he (Bw ((hd.length:Int)-1)) 0)) (CE (k:=3) rfl (Cj (D9 hj hu)) rfl rfl) (wv (r:=rv (Hq 5 he (Bw ((hd.length:Int)-1)) 4)) (GB (k:=3) JL rfl Hu rfl (Cj (D9 hj hu)) rfl rfl rfl) (Ki (enc:=AG) (ys:=hr) (y':=(AH.mk ((Aq hr ((hd.length:Int)-1)).fPairs) ((Aq hr ((hd.length:Int)-1)).fLeft) ((Aq hr ((hd.length:Int)-1)).fKey) ((Aq hr ((hd.length:Int)-1)).fLast) true)) (i:=3) (j:=(hd.length:Int)-1) Hu rfl rfl (Cy rfl) rfl (D9 hj hu) rfl rfl (H':=[.blk hf (Ab (Aq v hb)) 78,.blk b2 (Bf ha) 133,.blk b1 [Al 0,Al 0,rB false,rB false] 133,.row he 166 5 (AE AG (List.set hr (Bw ((hd.length:Int)-1)) (AH.mk ((Aq hr ((hd.length:Int)-1)).fPairs) ((Aq hr ((hd.length:Int)-1)).fLeft) ((Aq hr ((hd.length:Int)-1)).fKey) ((Aq hr ((hd.length:Int)-1)).fLast) true)))]) rfl (bd gf λhs h1 gg=>?_)));rw[← h1];refine wv (r:=rv (Hq 5 he (Bw ((hd.length:Int)-1)) 0)) (CE (k:=3) rfl (Cj (D9 (D9 hj hu) h1)) rfl rfl) (wv (r:=rv (Hq 5 he (Bw ((hd.length:Int)-1)) 2)) (GB (k:=3) JL rfl Hu rfl (Cj (D9 (D9 hj hu) h1)) rfl rfl rfl) (Ki (enc:=AG) (ys:=hs) (y':=(AH.mk ((Aq hs ((hd.length:Int)-1)).fPairs) ((Aq hs ((hd.length:Int)-1)).fLeft) false ((Aq hs ((hd.length:Int)-1)).fLast) ((Aq hs ((hd.length:Int)-1)).fStarted))) (i:=3) (j:=(hd.length:Int)-1) Hu rfl rfl (Cy rfl) rfl (D9 (D9 hj hu) h1) rfl rfl (H':=[.blk hf (Ab (Aq v hb)) 78,.blk b2 (Bf ha) 133,.blk b1 [Al 0,Al 0,rB false,rB false] 133,.row he 166 5 (AE AG (List.set hs (Bw ((hd.length:Int)-1)) (AH.mk ((Aq hs ((hd.length:Int)-1)).fPairs) ((Aq hs ((hd.length:Int)-1)).fLeft) false ((Aq hs ((hd.length:Int)-1)).fLast) ((Aq hs ((hd.length:Int)-1)).fStarted))))]) rfl (bd gg λht gh gi=>?_)));rw[← gh];refine Ak (Ai (ob gi λhl gj gk=>ck gk λgl gm=>Gk (H1:=[.blk hf (Ab (Aq v hb)) 78,.blk b2 [Al ha.fDepth,Al (IntKind.wrap .i64 (ha.fBytes+(hl+1))),rB ha.fOutside,rB ha.fLong] 133,.blk b1 [Al 0,Al 0,rB false,rB false] 133,.row he 166 5 (AE AG ht)]) [0,3,5,6,8,11,12,13,38,39,40,41] [⟨[],rP b2 1,0⟩,⟨[0],Al ha.fBytes,1⟩,⟨[],rP hf 2,0⟩,⟨[2],rS ((Aq v hb).fStr),1⟩,⟨[3],Al hl,0⟩,⟨[4],Al (hl+1),0⟩,⟨[1,5],Al (IntKind.wrap .i64 (ha.fBytes+(hl+1))),0⟩,⟨[],rP b2 1,0⟩,⟨[7,6],rv undef,2⟩] (rle [(9,_),(1,[.blk hf (Ab (Aq v hb)) 78,.blk b2 [Al ha.fDepth,Al (IntKind.wrap .i64 (ha.fBytes+(hl+1))),rB ha.fOutside,rB ha.fLong] 133,.blk b1 [Al 0,Al 0,rB false,rB false] 133,.row he 166 5 (AE AG ht)])]) [68,69,70,71,72,73,74,75,0,3,5,6,8,11,12,13,38,39,40,41] ?_ ?_))
       ·refine oq (AK Gu rfl Cs rfl rfl) (of (Bu (i:=1) CR rfl rfl rfl) (oq (AK B8 rfl Da rfl rfl) (of (Bu (i:=0) DE rfl rfl rfl) (EY rfl (λH=>JR Tryz.call145 (Qe ((Aq v hb).fStr) hl gj) rfl) ?_))));refine oq (Bb rfl rfl gl) (oq (Uo rfl rfl) (oq (AK Gu rfl Cs rfl rfl) (I4 rfl (NQ (QP (i:=1) Cs rfl rfl (Cy rfl) rfl rfl (cs':=[Al ha.fDepth,Al (IntKind.wrap .i64 (ha.fBytes+(hl+1))),rB ha.fOutside,rB ha.fLong]) rfl (H':=[.blk hf (Ab (Aq v hb)) 78,.blk b2 [Al ha.fDepth,Al (IntKind.wrap .i64 (ha.fBytes+(hl+1))),rB ha.fOutside,rB ha.fLong] 133,.blk b1 [Al 0,Al 0,rB false,rB false] 133,.row he 166 5 (AE AG ht)]) rfl)) ?_)));exact Cp
       refine AJ (A8 [(0,AX 4 (AE Ab v)),(3,rP b1 0),(5,rP b2 0),(6,rv he),(11,AX 4 (AE Ab v)),(12,Al (v.length:Int)),(13,Al hb),(38,rP hf 0),(39,Al ((Aq v hb).fKind)),(40,rB (!decide (((Aq v hb).fKind)=4))),(41,rB (!decide (((Aq v hb).fKind)=4))),(68,rP b2 1),(69,Al ha.fBytes),(70,rP hf 2),(71,rS ((Aq v hb).fStr)),(72,Al hl),(73,Al (hl+1)),(74,Al (IntKind.wrap .i64 (ha.fBytes+(hl+1)))),(75,rP b2 1)] [.blk hf (Ab (Aq v hb)) 78,.blk b2 [Al ha.fDepth,Al (IntKind.wrap .i64 (ha.fBytes+(hl+1))),rB ha.fOutside,rB (ha.fLong||(decide (200<(((Aq v hb).fStr).length:Int))))] 133,.blk b1 [Al 0,Al 0,rB false,rB false] 133,.row he 166 5 (AE AG ht)] ?_ ?_)
       ·refine Ag (vF Gu rfl Hu (vL 1 NZ rfl (wm rfl (AN (ha.fLong) (λho=>?_) (λho=>?_)))))
        ·refine wf ho (wf ho (wf ho (wf ho (wv (r:=rB true) (A1 rfl ho rfl) (vF Gu rfl Hu (BH (i:=1) Hu rfl rfl (Cy rfl) rfl rfl (cs':=[Al ha.fDepth,Al (IntKind.wrap .i64 (ha.fBytes+(hl+1))),rB ha.fOutside,rB true]) rfl (H':=[.blk hf (Ab (Aq v hb)) 78,.blk b2 [Al ha.fDepth,Al (IntKind.wrap .i64 (ha.fBytes+(hl+1))),rB ha.fOutside,rB true] 133,.blk b1 [Al 0,Al 0,rB false,rB false] 133,.row he 166 5 (AE AG ht)]) rfl (Aj (J4 (H':=[.blk hf (Ab (Aq v hb)) 78,.blk b2 [Al ha.fDepth,Al (IntKind.wrap .i64 (ha.fBytes+(hl+1))),rB ha.fOutside,rB (ha.fLong||(decide (200<(((Aq v hb).fStr).length:Int))))] 133,.blk b1 [Al 0,Al 0,rB false,rB false] 133,.row he 166 5 (AE AG ht)]) (by simp only[ho,Aer,Ae1,Ae9,Aew,Ae2,Ae3,Ae7,Ae6,Aes,Ae0,Aek,Aeh]) ?_))))))));exact wt
        ·refine wo ho (vF B8 rfl Da (wo ho (vL 0 DE rfl (wo ho (wv (Bg BQ rfl) (wo ho (wv (Cm rfl rfl) (Et rfl ho rfl (vF Gu rfl Hu (BH (i:=1) Hu rfl rfl (Cy rfl) rfl rfl (cs':=[Al ha.fDepth,Al (IntKind.wrap .i64 (ha.fBytes+(hl+1))),rB ha.fOutside,rB (decide (200<(((Aq v hb).fStr).length:Int)))]) rfl (H':=[.blk hf (Ab (Aq v hb)) 78,.blk b2 [Al ha.fDepth,Al (IntKind.wrap .i64 (ha.fBytes+(hl+1))),rB ha.fOutside,rB (decide (200<(((Aq v hb).fStr).length:Int)))] 133,.blk b1 [Al 0,Al 0,rB false,rB false] 133,.row he 166 5 (AE AG ht)]) rfl (Aj (J4 (H':=[.blk hf (Ab (Aq v hb)) 78,.blk b2 [Al ha.fDepth,Al (IntKind.wrap .i64 (ha.fBytes+(hl+1))),rB ha.fOutside,rB (ha.fLong||(decide (200<(((Aq v hb).fStr).length:Int))))] 133,.blk b1 [Al 0,Al 0,rB false,rB false] 133,.row he 166 5 (AE AG ht)]) (by simp only[ho,Aer,Ae1,Ae9,Aew,Ae2,Ae3,Ae7,Ae6,Aes,Ae0,Aek,Aeh]) ?_))))))))))));exact wt
       exact Bq (Ax (Bc (Av (A5 ((ht,(AP.mk ha.fDepth (IntKind.wrap .i64 (ha.fBytes+(hl+1))) ha.fOutside (ha.fLong||(decide (200<(((Aq v hb).fStr).length:Int)))))),he) gm (AD.c rfl (AD.c rfl (AD.c5 rfl rfl rfl rfl rfl AD.nil))) (sS (sC (sC (sC sN))))))))
     ·refine Am (AJ (Ad (vF Gu rfl Cs (vL 1 CR rfl (wm rfl (wv (Dl (ys:=hd) (enc:=AG) (i:=3) JM rfl rfl) (ck hX λgn gp=>wv (Bb rfl rfl gn) (wv (AbP PM rfl rfl) (vF Gu rfl Cs (BH (i:=1) Cs rfl rfl (Cy rfl) rfl rfl (cs':=[Al (max ha.fDepth ((hd.length:Int)+1)),Al ha.fBytes,rB ha.fOutside,rB ha.fLong]) rfl (H':=[.blk hf (Ab (Aq v hb)) 78,.blk b2 [Al (max ha.fDepth ((hd.length:Int)+1)),Al ha.fBytes,rB ha.fOutside,rB ha.fLong] 133,.blk b1 [Al 0,Al 0,rB false,rB false] 133,.row he 166 5 (AE AG hd)]) rfl (Ak (Ai (ob gp λhg gq gr=>Gk (H1:=[.blk hf (Ab (Aq v hb)) 78,.blk b2 [Al (max ha.fDepth ((hd.length:Int)+1)),Al (IntKind.wrap .i64 (ha.fBytes+hg)),rB ha.fOutside,rB ha.fLong] 133,.blk b1 [Al 0,Al 0,rB false,rB false] 133,.row he 166 5 (AE AG hd)]) [0,3,5,6,7,8,11,12,13] [⟨[],rP b2 1,0⟩,⟨[0],Al ha.fBytes,1⟩,⟨[],BC (Ab (Aq v hb)),1⟩,⟨[2],Al hg,0⟩,⟨[1,3],Al (IntKind.wrap .i64 (ha.fBytes+hg)),0⟩,⟨[],rP b2 1,0⟩,⟨[5,4],rv undef,2⟩] (rle [(7,_),(1,[.blk hf (Ab (Aq v hb)) 78,.blk b2 [Al (max ha.fDepth ((hd.length:Int)+1)),Al (IntKind.wrap .i64 (ha.fBytes+hg)),rB ha.fOutside,rB ha.fLong] 133,.blk b1 [Al 0,Al 0,rB false,rB false] 133,.row he 166 5 (AE AG hd)])]) [92,93,94,95,96,97,0,3,5,6,7,8,11,12,13] ?_ ?_)))))))))))))
      ·refine oq (AK Gu rfl Cs rfl rfl) (of (Bu (i:=1) CR rfl rfl rfl) (of (B5 (i:=0) MP Co rfl rfl rfl rfl) (EY rfl (λH=>JR Tryz.call146 (Aa9 (Aq v hb) hg gq) rfl) ?_)));refine oq (Uo rfl rfl) (oq (AK Gu rfl Cs rfl rfl) (I4 rfl (NQ (QP (i:=1) Cs rfl rfl (Cy rfl) rfl rfl (cs':=[Al (max ha.fDepth ((hd.length:Int)+1)),Al (IntKind.wrap .i64 (ha.fBytes+hg)),rB ha.fOutside,rB ha.fLong]) rfl (H':=[.blk hf (Ab (Aq v hb)) 78,.blk b2 [Al (max ha.fDepth ((hd.length:Int)+1)),Al (IntKind.wrap .i64 (ha.fBytes+hg)),rB ha.fOutside,rB ha.fLong] 133,.blk b1 [Al 0,Al 0,rB false,rB false] 133,.row he 166 5 (AE AG hd)]) rfl)) ?_));exact Cp
      refine AJ (ck gr λgs gt=>A8 [(0,AX 4 (AE Ab v)),(3,rP b1 0),(5,rP b2 0),(6,rv he),(7,Al hb),(8,rP hf 0),(11,AX 4 (AE Ab v)),(12,Al (v.length:Int)),(13,Al hb),(92,rP b2 1),(93,Al ha.fBytes),(94,BC (Ab (Aq v hb))),(95,Al hg),(96,Al (IntKind.wrap .i64 (ha.fBytes+hg))),(97,rP b2 1)] [.blk hf (Ab (Aq v hb)) 78,.blk b2 [Al (max ha.fDepth ((hd.length:Int)+1)),Al (IntKind.wrap .i64 (ha.fBytes+hg)),rB (ha.fOutside||((decide (((Aq v hb).fKind)=3))&&(!(ov (BU ((Aq v hb).fInt)))))),rB ha.fLong] 133,.blk b1 [Al 0,Al 0,rB false,rB false] 133,.row he 166 5 (AE AG hd)] ?_ ?_)
      ·refine Ag (vF Gu rfl Hu (vL 1 NZ rfl (wm rfl (AN (ha.fOutside) (λhm=>?_) (λhm=>?_)))))
       ·refine wf hm (wf hm (wf hm (wf hm (wu (wu (wu (wu (wf hm (wv (r:=rB true) (A1 rfl hm rfl) (vF Gu rfl Hu (BH (i:=1) Hu rfl rfl (Cy rfl) rfl rfl (cs':=[Al (max ha.fDepth ((hd.length:Int)+1)),Al (IntKind.wrap .i64 (ha.fBytes+hg)),rB true,rB ha.fLong]) rfl (H':=[.blk hf (Ab (Aq v hb)) 78,.blk b2 [Al (max ha.fDepth ((hd.length:Int)+1)),Al (IntKind.wrap .i64 (ha.fBytes+hg)),rB true,rB ha.fLong] 133,.blk b1 [Al 0,Al 0,rB false,rB false] 133,.row he 166 5 (AE AG hd)]) rfl (Aj (J4 (H':=[.blk hf (Ab (Aq v hb)) 78,.blk b2 [Al (max ha.fDepth ((hd.length:Int)+1)),Al (IntKind.wrap .i64 (ha.fBytes+hg)),rB (ha.fOutside||((decide (((Aq v hb).fKind)=3))&&(!(ov (BU ((Aq v hb).fInt)))))),rB ha.fLong] 133,.blk b1 [Al 0,Al 0,rB false,rB false] 133,.row he 166 5 (AE AG hd)]) (by simp only[hm,Aer,Ae1,Ae9,Aew,Ae2,Ae3,Ae7,Ae6,Aes,Ae0,Aek,Aeh]) ?_)))))))))))));exact wt
       ·refine wo hm (vF B8 rfl Er (wo hm (vL 0 EE rfl (wo hm (wv (B3 rfl rfl) (wo hm (wm rfl (AN (decide (((Aq v hb).fKind)=3)) (λhn=>?_) (λhn=>?_)))))))))
        ·refine wo hn (vF B8 rfl Cs (wo hn (vL 0 CR rfl (wo hn (Cu Tryz.call99 (YL ((Aq v hb).fInt) (ov (BU ((Aq v hb).fInt))) (HI (Cz (CQ gs hm) hn))) rfl (wo hn (wv (Cc rfl) (wo hm (Es rfl hn rfl (Et rfl hm rfl (vF Gu rfl Hu (BH (i:=1) Hu rfl rfl (Cy rfl) rfl rfl (cs':=[Al (max ha.fDepth ((hd.length:Int)+1)),Al (IntKind.wrap .i64 (ha.fBytes+hg)),rB (!(ov (BU ((Aq v hb).fInt)))),rB ha.fLong]) rfl (H':=[.blk hf (Ab (Aq v hb)) 78,.blk b2 [Al (max ha.fDepth ((hd.length:Int)+1)),Al (IntKind.wrap .i64 (ha.fBytes+hg)),rB (!(ov (BU ((Aq v hb).fInt)))),rB ha.fLong] 133,.blk b1 [Al 0,Al 0,rB false,rB false] 133,.row he 166 5 (AE AG hd)]) rfl (Aj (J4 (H':=[.blk hf (Ab (Aq v hb)) 78,.blk b2 [Al (max ha.fDepth ((hd.length:Int)+1)),Al (IntKind.wrap .i64 (ha.fBytes+hg)),rB (ha.fOutside||((decide (((Aq v hb).fKind)=3))&&(!(ov (BU ((Aq v hb).fInt)))))),rB ha.fLong] 133,.blk b1 [Al 0,Al 0,rB false,rB false] 133,.row he 166 5 (AE AG hd)]) (by simp only[hm,hn,Aer,Ae1,Ae9,Aew,Ae2,Ae3,Ae7,Ae6,Aes,Ae0,Aek,Aeh]) ?_))))))))))))));exact wt
        ·refine wf hn (wf hn (wf hn (wf hn (wo hm (wv (r:=rB false) (A6 rfl hn rfl) (Et rfl hm rfl (vF Gu rfl Hu (BH (i:=1) Hu rfl rfl (Cy rfl) rfl rfl (cs':=[Al (max ha.fDepth ((hd.length:Int)+1)),Al (IntKind.wrap .i64 (ha.fBytes+hg)),rB false,rB ha.fLong]) rfl (H':=[.blk hf (Ab (Aq v hb)) 78,.blk b2 [Al (max ha.fDepth ((hd.length:Int)+1)),Al (IntKind.wrap .i64 (ha.fBytes+hg)),rB false,rB ha.fLong] 133,.blk b1 [Al 0,Al 0,rB false,rB false] 133,.row he 166 5 (AE AG hd)]) rfl (Aj (J4 (H':=[.blk hf (Ab (Aq v hb)) 78,.blk b2 [Al (max ha.fDepth ((hd.length:Int)+1)),Al (IntKind.wrap .i64 (ha.fBytes+hg)),rB (ha.fOutside||((decide (((Aq v hb).fKind)=3))&&(!(ov (BU ((Aq v hb).fInt)))))),rB ha.fLong] 133,.blk b1 [Al 0,Al 0,rB false,rB false] 133,.row he 166 5 (AE AG hd)]) (by simp only[hm,hn,Aer,Ae1,Ae9,Aew,Ae2,Ae3,Ae7,Ae6,Aes,Ae0,Aek,Aeh]) ?_))))))))));exact wt
      refine A8 [(0,AX 4 (AE Ab v)),(3,rP b1 0),(5,rP b2 0),(6,rv he),(7,Al hb),(8,rP hf 0),(11,AX 4 (AE Ab v)),(12,Al (v.length:Int)),(13,Al hb),(92,rP b2 1),(93,Al ha.fBytes),(94,BC (Ab (Aq v hb))),(95,Al hg),(96,Al (IntKind.wrap .i64 (ha.fBytes+hg))),(97,rP b2 1)] [.blk hf (Ab (Aq v hb)) 78,.blk b2 [Al (max ha.fDepth ((hd.length:Int)+1)),Al (IntKind.wrap .i64 (ha.fBytes+hg)),rB (ha.fOutside||((decide (((Aq v hb).fKind)=3))&&(!(ov (BU ((Aq v hb).fInt)))))),rB (ha.fLong||(decide (200<(((Aq v hb).fStr).length:Int))))] 133,.blk b1 [Al 0,Al 0,rB false,rB false] 133,.row he 166 5 (AE AG hd)] ?_ ?_
      ·refine Ag (vF Gu rfl Hu (vL 1 NZ rfl (wm rfl (AN (ha.fLong) (λhp=>?_) (λhp=>?_)))))
       ·refine wf hp (wf hp (wf hp (wf hp (wv (r:=rB true) (A1 rfl hp rfl) (vF Gu rfl Hu (BH (i:=1) Hu rfl rfl (Cy rfl) rfl rfl (cs':=[Al (max ha.fDepth ((hd.length:Int)+1)),Al (IntKind.wrap .i64 (ha.fBytes+hg)),rB (ha.fOutside||((decide (((Aq v hb).fKind)=3))&&(!(ov (BU ((Aq v hb).fInt)))))),rB true]) rfl (H':=[.blk hf (Ab (Aq v hb)) 78,.blk b2 [Al (max ha.fDepth ((hd.length:Int)+1)),Al (IntKind.wrap .i64 (ha.fBytes+hg)),rB (ha.fOutside||((decide (((Aq v hb).fKind)=3))&&(!(ov (BU ((Aq v hb).fInt)))))),rB true] 133,.blk b1 [Al 0,Al 0,rB false,rB false] 133,.row he 166 5 (AE AG hd)]) rfl (Aj (J4 (H':=[.blk hf (Ab (Aq v hb)) 78,.blk b2 [Al (max ha.fDepth ((hd.length:Int)+1)),Al (IntKind.wrap .i64 (ha.fBytes+hg)),rB (ha.fOutside||((decide (((Aq v hb).fKind)=3))&&(!(ov (BU ((Aq v hb).fInt)))))),rB (ha.fLong||(decide (200<(((Aq v hb).fStr).length:Int))))] 133,.blk b1 [Al 0,Al 0,rB false,rB false] 133,.row he 166 5 (AE AG hd)]) (by simp only[hp,Aer,Ae1,Ae9,Aew,Ae2,Ae3,Ae7,Ae6,Aes,Ae0,Aek,Aeh]) ?_))))))));exact wt
       ·refine wo hp (vF B8 rfl Da (wo hp (vL 0 DE rfl (wo hp (wv (Bg BQ rfl) (wo hp (wv (Cm rfl rfl) (Et rfl hp rfl (vF Gu rfl Hu (BH (i:=1) Hu rfl rfl (Cy rfl) rfl rfl (cs':=[Al (max ha.fDepth ((hd.length:Int)+1)),Al (IntKind.wrap .i64 (ha.fBytes+hg)),rB (ha.fOutside||((decide (((Aq v hb).fKind)=3))&&(!(ov (BU ((Aq v hb).fInt)))))),rB (decide (200<(((Aq v hb).fStr).length:Int)))]) rfl (H':=[.blk hf (Ab (Aq v hb)) 78,.blk b2 [Al (max ha.fDepth ((hd.length:Int)+1)),Al (IntKind.wrap .i64 (ha.fBytes+hg)),rB (ha.fOutside||((decide (((Aq v hb).fKind)=3))&&(!(ov (BU ((Aq v hb).fInt)))))),rB (decide (200<(((Aq v hb).fStr).length:Int)))] 133,.blk b1 [Al 0,Al 0,rB false,rB false] 133,.row he 166 5 (AE AG hd)]) rfl (Aj (J4 (H':=[.blk hf (Ab (Aq v hb)) 78,.blk b2 [Al (max ha.fDepth ((hd.length:Int)+1)),Al (IntKind.wrap .i64 (ha.fBytes+hg)),rB (ha.fOutside||((decide (((Aq v hb).fKind)=3))&&(!(ov (BU ((Aq v hb).fInt)))))),rB (ha.fLong||(decide (200<(((Aq v hb).fStr).length:Int))))] 133,.blk b1 [Al 0,Al 0,rB false,rB false] 133,.row he 166 5 (AE AG hd)]) (by simp only[hp,Aer,Ae1,Ae9,Aew,Ae2,Ae3,Ae7,Ae6,Aes,Ae0,Aek,Aeh]) ?_))))))))))));exact wt
      refine Ai (Ad (vF B8 rfl Cs (vL 0 CR rfl (wv (Cm rfl rfl) (Ak (cz gt rfl (λgu gv=>?_) (λgu gw=>?_)))))))
      ·refine Ai (Ad (vF B8 rfl Cs (vL 0 CR rfl (wm rfl (wv (Bv (ys:=v) (enc:=Ab) BY rfl) (wv (Cm rfl rfl) (Ak (cz gv rfl (λgx gy=>?_) (λgx gz=>?_)))))))))
       ·refine Ai (Gk (H1:=[.blk hf (Ab (Aq v hb)) 78,.blk b2 [Al (max ha.fDepth ((hd.length:Int)+1)),Al (IntKind.wrap .i64 (ha.fBytes+hg)),rB (ha.fOutside||((decide (((Aq v hb).fKind)=3))&&(!(ov (BU ((Aq v hb).fInt)))))),rB (ha.fLong||(decide (200<(((Aq v hb).fStr).length:Int))))] 133,.blk b1 [Al (max ha.fDepth ((hd.length:Int)+1)),Al (IntKind.wrap .i64 (ha.fBytes+hg)),rB (ha.fOutside||((decide (((Aq v hb).fKind)=3))&&(!(ov (BU ((Aq v hb).fInt)))))),rB (ha.fLong||(decide (200<(((Aq v hb).fStr).length:Int))))] 133,.row he 166 5 (AE AG hd)]) [3,5] [⟨[],BC [Al (max ha.fDepth ((hd.length:Int)+1)),Al (IntKind.wrap .i64 (ha.fBytes+hg)),rB (ha.fOutside||((decide (((Aq v hb).fKind)=3))&&(!(ov (BU ((Aq v hb).fInt)))))),rB (ha.fLong||(decide (200<(((Aq v hb).fStr).length:Int))))],1⟩,⟨[],Al 0,0⟩,⟨[0],rv undef,2⟩,⟨[],rB false,0⟩] (rle [(3,_),(2,[.blk hf (Ab (Aq v hb)) 78,.blk b2 [Al (max ha.fDepth ((hd.length:Int)+1)),Al (IntKind.wrap .i64 (ha.fBytes+hg)),rB (ha.fOutside||((decide (((Aq v hb).fKind)=3))&&(!(ov (BU ((Aq v hb).fInt)))))),rB (ha.fLong||(decide (200<(((Aq v hb).fStr).length:Int))))] 133,.blk b1 [Al (max ha.fDepth ((hd.length:Int)+1)),Al (IntKind.wrap .i64 (ha.fBytes+hg)),rB (ha.fOutside||((decide (((Aq v hb).fKind)=3))&&(!(ov (BU ((Aq v hb).fInt)))))),rB (ha.fLong||(decide (200<(((Aq v hb).fStr).length:Int))))] 133,.row he 166 5 (AE AG hd)])]) [2,4,3] ?_ ?_)
        ·refine of (B5 (i:=1) Lm GJ rfl rfl rfl rfl) (oq (Aw rfl) (I4 rfl (NQ (C9 (i:=2) GJ rfl rfl rfl (BM.c rfl) rfl rfl (cs':=[Al (max ha.fDepth ((hd.length:Int)+1)),Al (IntKind.wrap .i64 (ha.fBytes+hg)),rB (ha.fOutside||((decide (((Aq v hb).fKind)=3))&&(!(ov (BU ((Aq v hb).fInt)))))),rB (ha.fLong||(decide (200<(((Aq v hb).fStr).length:Int))))]) rfl (H':=[.blk hf (Ab (Aq v hb)) 78,.blk b2 [Al (max ha.fDepth ((hd.length:Int)+1)),Al (IntKind.wrap .i64 (ha.fBytes+hg)),rB (ha.fOutside||((decide (((Aq v hb).fKind)=3))&&(!(ov (BU ((Aq v hb).fInt)))))),rB (ha.fLong||(decide (200<(((Aq v hb).fStr).length:Int))))] 133,.blk b1 [Al (max ha.fDepth ((hd.length:Int)+1)),Al (IntKind.wrap .i64 (ha.fBytes+hg)),rB (ha.fOutside||((decide (((Aq v hb).fKind)=3))&&(!(ov (BU ((Aq v hb).fInt)))))),rB (ha.fLong||(decide (200<(((Aq v hb).fStr).length:Int))))] 133,.row he 166 5 (AE AG hd)]) rfl)) ?_));refine oq (Aw rfl) ?_;exact Cp
        refine AJ (As (Ac (Ac (Ay (Ac (Ac (AY ?_)))))));have g0:=Bt gy hx hy;refine Ay (Ac (K7 ?_));obtain rfl:=Au g0;exact Ar (TD RN (A7 rfl) (Gx (i:=2) Lm GJ rfl rfl rfl) (A7 rfl)) (sS (sS (sS (sS sN)))) ⟨rfl,rfl⟩
       ·refine Am (AJ (Ad (wm rfl (vF B8 rfl Er (vL 0 EE rfl (wv (B3 rfl rfl) (vF B8 rfl Cs (vL 0 CR rfl (vF B8 rfl Er (vL 0 EE rfl (wv (B3 rfl rfl) (wv (r:=BC [rB (decide (((Aq v hb).fKind)=6)),Al ((Aq v hb).fN),rB (decide (((Aq v hb).fKind)=6)),rS ([]:Af),rB false]) (Ng rfl rfl rfl rfl rfl rfl) (AT (ys:=([(AH.mk (decide (((Aq v hb).fKind)=6)) ((Aq v hb).fN) (decide (((Aq v hb).fKind)=6)) ([]:Af) false)]:List AH)) (enc:=AG) (css:=[[rB (decide (((Aq v hb).fKind)=6)),Al ((Aq v hb).fN),rB (decide (((Aq v hb).fKind)=6)),rS ([]:Af),rB false]]) (xs:=[.tmp 139]) JM RH Tryz.zeroValue166 rfl rfl rfl ⟨Eu.agg ⟨Up.refl _,Up.refl _,Up.refl _,Up.refl _,Up.refl _,trivial⟩,trivial⟩ rfl JU rfl rfl rfl (λg1=>?_))))))))))))));refine ck gz λg2 g3=>Exists.elim Abs λinf hinf=>B9 (xs:=hd) (ys:=([(AH.mk (decide (((Aq v hb).fKind)=6)) ((Aq v hb).fN) (decide (((Aq v hb).fKind)=6)) ([]:Af) false)]:List AH)) (enc:=AG) (i:=4) JM hinf.1 hinf.2.1 hinf.2.2.1 hinf.2.2.2 rfl rfl rfl rfl rfl (Id.w (i:=0) rfl rfl) JU NV g2 rfl (λh9=>?_);exact wa rfl (Ak (Bq (Ax (Bc (Cn (H2:=[.blk b2 [Al (max ha.fDepth ((hd.length:Int)+1)),Al (IntKind.wrap .i64 (ha.fBytes+hg)),rB (ha.fOutside||((decide (((Aq v hb).fKind)=3))&&(!(ov (BU ((Aq v hb).fInt)))))),rB (ha.fLong||(decide (200<(((Aq v hb).fStr).length:Int))))] 133,.blk b1 [Al 0,Al 0,rB false,rB false] 133,.row h9 166 5 (AE AG (hd++([(AH.mk (decide (((Aq v hb).fKind)=6)) ((Aq v hb).fN) (decide (((Aq v hb).fKind)=6)) ([]:Af) false)]:List AH))),.row (.slice (some ⟨g1,0,none⟩) 1 1) 166 5 (AE AG ([(AH.mk (decide (((Aq v hb).fKind)=6)) ((Aq v hb).fN) (decide (((Aq v hb).fKind)=6)) ([]:Af) false)]:List AH)),.blk hf (Ab (Aq v hb)) 78]) ((A0 (i:=3) rfl).trans (Aem _ ((A0 (i:=3) rfl).trans (Aem _ (Ael _))))) (Av (A5 ((hd++([(AH.mk (decide (((Aq v hb).fKind)=6)) ((Aq v hb).fN) (decide (((Aq v hb).fKind)=6)) ([]:Af) false)]:List AH),(AP.mk (max ha.fDepth ((hd.length:Int)+1)) (IntKind.wrap .i64 (ha.fBytes+hg)) (ha.fOutside||((decide (((Aq v hb).fKind)=3))&&(!(ov (BU ((Aq v hb).fInt)))))) (ha.fLong||(decide (200<(((Aq v hb).fStr).length:Int)))))),h9) g3 (AD.c rfl (AD.c rfl (AD.c5 rfl rfl rfl rfl rfl AD.nil))) (sC (sC (sC (sS (sS sN))))))))))))
      ·refine Am (AJ (Ad (wm rfl (ob gw λhw g4 g5=>Gj (Hr:=[.blk hf (Ab (Aq v hb)) 78,.blk b2 [Al (max ha.fDepth ((hd.length:Int)+1)),Al (IntKind.wrap .i64 (ha.fBytes+hg)),rB (ha.fOutside||((decide (((Aq v hb).fKind)=3))&&(!(ov (BU ((Aq v hb).fInt)))))),rB (ha.fLong||(decide (200<(((Aq v hb).fStr).length:Int))))] 133,.blk b1 [Al 0,Al 0,rB false,rB false] 133]) Tryz.call147 (VV F he hd hw g4) rfl ((A0 (i:=3) rfl).trans (Aem _ (Ael _))) rfl ?_))));rintro _ _ ⟨hz,rfl,rfl⟩;refine wa rfl (Bm (wm rfl (wv (Dl (ys:=hw) (enc:=AG) (i:=0) JM rfl rfl) (wv (B3 rfl rfl) (Ak (cz g5 rfl (λg6 g7=>?_) (λg6 g8=>?_)))))))
       ·refine Ai (ck g7 λg9 gA=>Gk (H1:=[.row hz 166 5 (AE AG hw),.blk hf (Ab (Aq v hb)) 78,.blk b2 [Al (max ha.fDepth ((hd.length:Int)+1)),Al (IntKind.wrap .i64 (ha.fBytes+hg)),rB (ha.fOutside||((decide (((Aq v hb).fKind)=3))&&(!(ov (BU ((Aq v hb).fInt)))))),rB (ha.fLong||(decide (200<(((Aq v hb).fStr).length:Int))))] 133,.blk b1 [Al (max ha.fDepth ((hd.length:Int)+1)),Al (IntKind.wrap .i64 (ha.fBytes+hg)),rB (ha.fOutside||((decide (((Aq v hb).fKind)=3))&&(!(ov (BU ((Aq v hb).fInt)))))),rB (ha.fLong||(decide (200<(((Aq v hb).fStr).length:Int))))] 133]) [3,5,7] [⟨[],Al hb,0⟩,⟨[0],Al (hb+1),0⟩,⟨[],BC [Al (max ha.fDepth ((hd.length:Int)+1)),Al (IntKind.wrap .i64 (ha.fBytes+hg)),rB (ha.fOutside||((decide (((Aq v hb).fKind)=3))&&(!(ov (BU ((Aq v hb).fInt)))))),rB (ha.fLong||(decide (200<(((Aq v hb).fStr).length:Int))))],1⟩,⟨[1],Al (hb+1),0⟩,⟨[2],rv undef,2⟩,⟨[],rB true,0⟩] (rle [(5,_),(2,[.row hz 166 5 (AE AG hw),.blk hf (Ab (Aq v hb)) 78,.blk b2 [Al (max ha.fDepth ((hd.length:Int)+1)),Al (IntKind.wrap .i64 (ha.fBytes+hg)),rB (ha.fOutside||((decide (((Aq v hb).fKind)=3))&&(!(ov (BU ((Aq v hb).fInt)))))),rB (ha.fLong||(decide (200<(((Aq v hb).fStr).length:Int))))] 133,.blk b1 [Al (max ha.fDepth ((hd.length:Int)+1)),Al (IntKind.wrap .i64 (ha.fBytes+hg)),rB (ha.fOutside||((decide (((Aq v hb).fKind)=3))&&(!(ov (BU ((Aq v hb).fInt)))))),rB (ha.fLong||(decide (200<(((Aq v hb).fStr).length:Int))))] 133])]) [2,4,3] ?_ ?_)
        ·refine oq (Ap rfl) (oq (Bb rfl rfl g9) (of (B5 (i:=2) Lm GJ rfl rfl rfl rfl) (oq (Aw rfl) (I4 rfl (NQ (C9 (i:=3) GJ rfl rfl rfl (BM.c rfl) rfl rfl (cs':=[Al (max ha.fDepth ((hd.length:Int)+1)),Al (IntKind.wrap .i64 (ha.fBytes+hg)),rB (ha.fOutside||((decide (((Aq v hb).fKind)=3))&&(!(ov (BU ((Aq v hb).fInt)))))),rB (ha.fLong||(decide (200<(((Aq v hb).fStr).length:Int))))]) rfl (H':=[.row hz 166 5 (AE AG hw),.blk hf (Ab (Aq v hb)) 78,.blk b2 [Al (max ha.fDepth ((hd.length:Int)+1)),Al (IntKind.wrap .i64 (ha.fBytes+hg)),rB (ha.fOutside||((decide (((Aq v hb).fKind)=3))&&(!(ov (BU ((Aq v hb).fInt)))))),rB (ha.fLong||(decide (200<(((Aq v hb).fStr).length:Int))))] 133,.blk b1 [Al (max ha.fDepth ((hd.length:Int)+1)),Al (IntKind.wrap .i64 (ha.fBytes+hg)),rB (ha.fOutside||((decide (((Aq v hb).fKind)=3))&&(!(ov (BU ((Aq v hb).fInt)))))),rB (ha.fLong||(decide (200<(((Aq v hb).fStr).length:Int))))] 133]) rfl)) ?_))));refine oq (Aw rfl) ?_;exact Cp
        refine AJ (As (Ay (Ac (Ac (AY ?_)))));have gB:=Bt gA hx hy;refine Ay (Ac (K7 ?_));obtain rfl:=Au gB;exact Ar (TD RN (A7 rfl) (Gx (i:=3) Lm GJ rfl rfl rfl) (A7 rfl)) (sS (sS (sS (sS sN)))) ⟨rfl,rfl⟩
       ·exact Am (AA (Cn (H2:=[.blk b2 [Al (max ha.fDepth ((hd.length:Int)+1)),Al (IntKind.wrap .i64 (ha.fBytes+hg)),rB (ha.fOutside||((decide (((Aq v hb).fKind)=3))&&(!(ov (BU ((Aq v hb).fInt)))))),rB (ha.fLong||(decide (200<(((Aq v hb).fStr).length:Int))))] 133,.blk b1 [Al 0,Al 0,rB false,rB false] 133,.row hz 166 5 (AE AG hw),.blk hf (Ab (Aq v hb)) 78]) ((A0 (i:=2) rfl).trans (Aem _ ((A0 (i:=2) rfl).trans (Aem _ (Ael _))))) (Av (A5 ((hw,(AP.mk (max ha.fDepth ((hd.length:Int)+1)) (IntKind.wrap .i64 (ha.fBytes+hg)) (ha.fOutside||((decide (((Aq v hb).fKind)=3))&&(!(ov (BU ((Aq v hb).fInt)))))) (ha.fLong||(decide (200<(((Aq v hb).fStr).length:Int)))))),hz) g8 (AD.c rfl (AD.c rfl (AD.c5 rfl rfl rfl rfl rfl AD.nil))) (sC (sC (sC (sS sN))))))))
   ·rintro⟨⟨h6,h7⟩,h8⟩ h2;refine BO (l':=[(0,AX 4 (AE Ab v)),(3,rP b1 0),(5,rP b2 0),(6,rv h8),(11,AX 4 (AE Ab v)),(12,Al (v.length:Int)),(13,Al hb)]) (H':=[.blk b2 (Bf h7) 133,.blk b1 [Al 0,Al 0,rB false,rB false] 133,.row h8 166 5 (AE AG h6)]) rfl rfl ?_;replace h2:EX hb h6 h7=some h4:=h2;unfold EX at h2;refine Ag (ck h2 λgC gD=>wv (Bb rfl rfl gC) (wm rfl (Aj ?_)));have gE:=Be gD hx;exact Av (A5 (hD,(h6,hb+1,h7),h8) ⟨gE,Aeo _⟩ (AD.c rfl (AD.c rfl (AD.c5 rfl rfl rfl rfl rfl AD.nil))) (sC (sC (sC sN))))
  ·refine Bq (Ax ?_);have gF:=BL hH hx hy;exact Ax (Bd (A5 (ha,()) gF (AD.c rfl (AD.c rfl AD.nil)) (sC (sC (sS sN)))))
 ·rintro⟨hq,⟨⟩⟩ h3;refine Cl (l':=[(3,rP b1 0),(5,rP b2 0)]) (H':=[.blk b2 (Bf hq) 133,.blk b1 [Al 0,Al 0,rB false,rB false] 133]) rfl rfl ?_;replace h3:LS hq=some r:=h3;unfold LS at h3;refine Bc (AJ (Ai (Gk (H1:=[.blk b2 (Bf hq) 133,.blk b1 (Bf hq) 133]) [3,5] [⟨[],BC (Bf hq),1⟩,⟨[],Al 0,0⟩,⟨[0],rv undef,2⟩,⟨[],rB false,0⟩] (rle [(3,_),(2,[.blk b2 (Bf hq) 133,.blk b1 (Bf hq) 133])]) [2,4,3] ?_ ?_)))
  ·refine of (B5 (i:=0) Lm GJ rfl rfl rfl rfl) (oq (Aw rfl) (I4 rfl (NQ (C9 (i:=1) GJ rfl rfl rfl (BM.c rfl) rfl rfl (cs':=[Al hq.fDepth,Al hq.fBytes,rB hq.fOutside,rB hq.fLong]) rfl (H':=[.blk b2 (Bf hq) 133,.blk b1 (Bf hq) 133]) rfl)) ?_));refine oq (Aw rfl) ?_;exact Cp
  refine AJ (As (K7 ?_));obtain rfl:=Au h3;exact Ar (TD RN (A7 rfl) (Gx (i:=1) Lm GJ rfl rfl rfl) (A7 rfl)) (sS (sS sN)) ⟨rfl,rfl⟩
theorem OJ (F:Nat)(v:(List Aa))(r:Int)(h:L0 F v=some r):Fn Tryz.prog GE 80 [AX 4 (AE Ab v)] [] (λR H=>R=Al r∧H=[]):=by
 refine enter (n:=42) Tryz.func80 rfl Tryz.ntmps80 rfl (λw Z=>?_);unfold L0 at h;refine Ad (wa rfl (Bm (wm rfl (ob h λr1 e3 h2=>Cu Tryz.call106 (QR F v r1 e3) rfl (wm rfl (wv (AB rfl rfl) (wv (AB rfl rfl) (wv (AB rfl rfl) (Cd (cs:=[Al 0,Al 0,rB false,rB false]) RE rfl rfl (λb4=>?_))))))))));refine wa rfl (Bp (i:=0) GJ rfl rfl rfl (BM.c rfl) rfl rfl (cs':=[Al r1.2.1.fDepth,Al r1.2.1.fBytes,rB r1.2.1.fOutside,rB r1.2.1.fLong]) rfl (H':=[.blk b4 (Bf r1.2.1) 133]) rfl (wa rfl (Ak (Ai (AF (A8 [(0,AX 4 (AE Ab v)),(4,rP b4 0),(12,rB ((!r1.2.2)||(!decide (r1.1=(v.length:Int)))))] [.blk b4 (Bf r1.2.1) 133] ?_ ?_))))))
 ·refine Ag (wm rfl (wv (Cc rfl) (wm rfl (AN (!r1.2.2) (λc5=>?_) (λc5=>?_)))))
  ·refine wf c5 (wf c5 (wf c5 (wf c5 (wv (r:=rB true) (A1 rfl c5 rfl) (wa rfl (Aj ?_))))));exact Ca c5
  ·refine wo c5 (wm rfl (wo c5 (wm rfl (wo c5 (wv (Bv (ys:=v) (enc:=Ab) BY rfl) (wo c5 (wv (CV rfl rfl) (Et rfl c5 rfl (wa rfl (Aj ?_))))))))));exact Ca c5
 refine cz h2 rfl (λc6 h7=>?_) (λc6 h8=>?_)
 ·refine Ad (wa rfl (Ak (As (Ay (Ac ?_)))));obtain rfl:=Au h7;exact Ar (Cb Aat (A7 rfl)) (sS sN) ⟨rfl,rfl⟩
 ·refine Ad (vF Gu rfl Hu (vL 0 NZ rfl (wa rfl (Ak (cz h8 rfl (λc9 he=>?_) (λc9 hf=>?_))))))
  ·refine Ad (wa rfl (Ak (As (Ay (Ac ?_)))));obtain rfl:=Au he;exact Ar (Cb Aat (A7 rfl)) (sS sN) ⟨rfl,rfl⟩
  ·refine A8 [(24,rB (r1.2.1.fLong||((decide (200<(v.length:Int)))||((decide (8<r1.2.1.fDepth))||(decide (4000<r1.2.1.fBytes))))))] [] ?_ ?_
   ·refine Ag (vF Gu rfl Hu (vL 0 NZ rfl (wm rfl (AN (r1.2.1.fLong) (λha=>?_) (λha=>?_)))))
    ·refine wf ha (wf ha (wf ha (wv (r:=rB true) (A1 rfl ha rfl) (wm rfl (wz rfl rfl (wz rfl rfl (wz rfl rfl (wv (r:=rB true) (A1 (b:=true) rfl rfl rfl) (wm rfl (wz rfl rfl (wz rfl rfl (wz rfl rfl (wv (r:=rB true) (A1 (b:=true) rfl rfl rfl) (wa rfl (Aj ?_)))))))))))))));exact Ca ha
    ·refine wo ha (wm rfl (wo ha (wv (Bv (ys:=v) (enc:=Ab) BY rfl) (wo ha (wv (Cm rfl rfl) (Et rfl ha rfl (wm rfl (AN (decide (200<(v.length:Int))) (λhb=>?_) (λhb=>?_)))))))))
     ·refine wf hb (wf hb (wf hb (wv (r:=rB true) (A1 rfl hb rfl) (wm rfl (wz rfl rfl (wz rfl rfl (wz rfl rfl (wv (r:=rB true) (A1 (b:=true) rfl rfl rfl) (wa rfl (Aj ?_))))))))));exact Ca (And.intro ha hb)
     ·refine wo hb (vF Gu rfl Cs (wo hb (vL 0 CR rfl (wo hb (wv (Cm rfl rfl) (Et rfl hb rfl (wm rfl (AN (decide (8<r1.2.1.fDepth)) (λhd=>?_) (λhd=>?_)))))))))
      ·refine wf hd (wf hd (wf hd (wv (r:=rB true) (A1 rfl hd rfl) (wa rfl (Aj ?_)))));exact Ca (And.intro ha (And.intro hb hd))
      ·refine wo hd (vF Gu rfl Cs (wo hd (vL 0 CR rfl (wo hd (wv (Cm rfl rfl) (Et rfl hd rfl (wa rfl (Aj ?_))))))));exact Ca (And.intro ha (And.intro hb hd))
   refine cz hf rfl (λhg hh=>?_) (λhg hi=>?_)
   ·refine Ad (wa rfl (Ak (As (Ay (Ac ?_)))));obtain rfl:=Au hh;exact Ar (Cb Aat (A7 rfl)) sN ⟨rfl,rfl⟩
   ·refine Am (AA (AJ (Ad (wa rfl (Ak (As ?_))))));obtain rfl:=Au hi;exact Ar (Cb Aat (A7 rfl)) sN ⟨rfl,rfl⟩
theorem TP (F:Nat)(v:(List Aa))(r:(List Aa)×Int)(h:LW F v=some r):Fn Tryz.prog GE 101 [AX 4 (AE Ab v)] [] (λR H=>R=Ct [AX 4 (AE Ab r.1),Al r.2]∧H=[]):=by
 refine enter (n:=11) Tryz.func101 rfl Tryz.ntmps101 rfl (λw Z=>?_);unfold LW at h;refine Ad (wa rfl (wa rfl (Ak (Ai (Ad (wm rfl (ob h λr1 e3 h2=>Cu Tryz.call80 (OJ F v r1 e3) rfl (wa rfl (Bm (wm rfl (wv (CV rfl rfl) (Ak (cz h2 rfl (λc4 h5=>?_) (λc4 h6=>?_))))))))))))))
 ·refine Ad (wm rfl (wa rfl (wa rfl (Ak (As (Ac (WK.up (d:=2) (r:=AX 4 (AE Ab ([]:List Aa))) rfl (Up.le (Ek.nil _)) ?_)))))));obtain rfl:=Au h5;exact Ar (C6 Tryz.results101 (A7 rfl) (A7 rfl)) sN ⟨rfl,rfl⟩
 ·refine Am (AJ (Ad (wm rfl (wa rfl (wa rfl (Ak (As ?_)))))));obtain rfl:=Au h6;exact Ar (C6 Tryz.results101 (A7 rfl) (A7 rfl)) sN ⟨rfl,rfl⟩
end Go.Proofs.YtjfnokmpfekniaaGreatDoor.Q
namespace Go.Proofs.YtjfnokmpfekniaaGreatDoor
open Go
set_option linter.unusedVariables false
def DT (s:Af)(ha:Int)(hb:Af):Option (Stp (Int×Af) (Out (Af) (Af))):=
 Bi (decide (ha<(s.length:Int))) (AQ (Cw ha (s.length:Int))<|Bi (((decide ((AM s ha)=34))||(decide ((AM s ha)=92)))) (AQ (Dw 1 (hb.length+1))<|AQ (Bs .u8 92)<|MJ (hb++[UInt8.ofNat (Int.toNat 92)]) λhd=>AQ (Dw 1 (hd.length+1))<|AQ (Bs .u8 (AM s ha))<|MJ (hd++[UInt8.ofNat (Int.toNat (AM s ha))]) λhe=>AQ (Bs .i64 (ha+1))<|some (.next (ha+1,he))) (AQ (Dw 1 (hb.length+1))<|AQ (Bs .u8 (AM s ha))<|MJ (hb++[UInt8.ofNat (Int.toNat (AM s ha))]) λhf=>AQ (Bs .i64 (ha+1))<|some (.next (ha+1,hf)))) (some (.out (.go hb)))
def Gw (ha:Af):Option (Af):=
 AQ (Dw 1 (ha.length+1))<|MJ (ha++[UInt8.ofNat (Int.toNat 34)]) λhb=>some hb
def Lz (F:Nat)(l:Af)(s:Af):Option (Af):=
 AQ (Dw 1 (l.length+1))<|AQ (Bs .u8 34)<|MJ (l++[UInt8.ofNat (Int.toNat 34)]) λr6=>Br (BJ (λσ=>DT s σ.1 σ.2) F (0,r6)) (BE λν=>Gw ν)
def KD (F:Nat)(hm:Af→(List Aa)→Bool→Af→Aa→Option (Bool×Bool×Af))(ha:(List Aa)→Bool→Af→Aa→Option (Bool×Af))(l:Af)(v:(List Aa)):Option (Af):=
 AQ (Cw 0 (v.length:Int))<|Bi (decide (((Aq v 0).fKind)=1)) (AQ (Dw 1 (l.length+([110,117,108,108]:Af).length))<|MJ (l++([110,117,108,108]:Af)) λhe=>some he) (Bi (decide (((Aq v 0).fKind)=2)) (AQ (Cw ((Aq v 0).fInt) (([([102,97,108,115,101]:Af),([116,114,117,101]:Af)]:List Af).length:Int))<|AQ (Dw 1 (l.length+(Aq ([([102,97,108,115,101]:Af),([116,114,117,101]:Af)]:List Af) ((Aq v 0).fInt)).length))<|MJ (l++(Aq ([([102,97,108,115,101]:Af),([116,114,117,101]:Af)]:List Af) ((Aq v 0).fInt))) λhf=>some hf) (Bi (decide (((Aq v 0).fKind)=3)) (AQ (Bs .i64 ((Aq v 0).fInt))<|AQ (Dw 1 (l.length+(Lib.itoa ((Aq v 0).fInt)).length))<|MJ (l++(Lib.itoa ((Aq v 0).fInt))) λhg=>some hg) (Bi (decide (((Aq v 0).fKind)=4)) (Br (Lz F l ((Aq v 0).fStr)) λhh=>some hh) (Bi (decide (((Aq v 0).fKind)=6)) (AQ (Cw 0 (([123,125]:Af).length:Int))<|AQ (Dw 1 (l.length+1))<|AQ (Bs .u8 (AM ([123,125]:Af) 0))<|MJ (l++[UInt8.ofNat (Int.toNat (AM ([123,125]:Af) 0))]) λhi=>Br (ha v true hi (Aq v 0)) λhb=>AQ (Cw 1 (([123,125]:Af).length:Int))<|AQ (Dw 1 (hb.2.length+1))<|AQ (Bs .u8 (AM ([123,125]:Af) 1))<|MJ (hb.2++[UInt8.ofNat (Int.toNat (AM ([123,125]:Af) 1))]) λhj=>some hj) (AQ (Cw 0 (([91,93]:Af).length:Int))<|AQ (Dw 1 (l.length+1))<|AQ (Bs .u8 (AM ([91,93]:Af) 0))<|MJ (l++[UInt8.ofNat (Int.toNat (AM ([91,93]:Af) 0))]) λhk=>Br (ha v true hk (Aq v 0)) λhd=>AQ (Cw 1 (([91,93]:Af).length:Int))<|AQ (Dw 1 (hd.2.length+1))<|AQ (Bs .u8 (AM ([91,93]:Af) 1))<|MJ (hd.2++[UInt8.ofNat (Int.toNat (AM ([91,93]:Af) 1))]) λhl=>some hl)))))
def LP (F:Nat)(ha:Af→(List Aa)→Option (Af))(key:Af)(x:(List Aa))(first:Bool)(l:Af)(c:Aa):Option (Bool×Bool×Af):=
 Bi (!first) (AQ (Dw 1 (l.length+1))<|AQ (Bs .u8 44)<|MJ (l++[UInt8.ofNat (Int.toNat 44)]) λr8=>Bi (decide (c.fKind=6)) (Br (Lz F r8 key) λhb=>AQ (Dw 1 (hb.length+1))<|AQ (Bs .u8 58)<|MJ (hb++[UInt8.ofNat (Int.toNat 58)]) λhe=>Br (ha he x) λhf=>some (true,false,hf)) (Br (ha r8 x) λhg=>some (true,false,hg))) (Bi (decide (c.fKind=6)) (Br (Lz F l key) λhd=>AQ (Dw 1 (hd.length+1))<|AQ (Bs .u8 58)<|MJ (hd++[UInt8.ofNat (Int.toNat 58)]) λhh=>Br (ha hh x) λhi=>some (true,false,hi)) (Br (ha l x) λhj=>some (true,false,hj)))
def Ed (F:Nat)(v:(List Aa))(c:Aa)(hj:Af→(List Aa)→Bool→Af→Aa→Option (Bool×Bool×Af))(ha:Int)(hb:Int)(hh:Bool)(hi:Af):Option (Stp (Int×Int×Bool×Af) (Out (Bool×Af) (Bool×Af))):=
 Bi (decide (hb<((Aq v 0).fN))) (Bi (decide (((Aq v 0).fKind)=6)) (AQ (Cw ha (v.length:Int))<|AQ (Bs .i64 (ha+1))<|AQ (Gr (ha+1) (v.length:Int))<|Br (JP F (List.drop (Int.toNat (ha+1)) v)) λhd=>AQ (Bs .i64 ((ha+1)+hd.1))<|AQ (Gr (ha+1) ((ha+1)+hd.1))<|AQ (Gr ((ha+1)+hd.1) (v.length:Int))<|Br (hj ((Aq v ha).fStr) (List.take (Int.toNat ((ha+1)+hd.1)-Int.toNat (ha+1)) (List.drop (Int.toNat (ha+1)) v)) hh hi c) λhe=>Bi (!he.1) (some (.out (.ret (he.2.1,he.2.2)))) (AQ (Bs .i64 (hb+1))<|some (.next ((ha+1)+hd.1,hb+1,he.2.1,he.2.2)))) (AQ (Gr ha (v.length:Int))<|Br (JP F (List.drop (Int.toNat ha) v)) λhf=>AQ (Bs .i64 (ha+hf.1))<|AQ (Gr ha (ha+hf.1))<|AQ (Gr (ha+hf.1) (v.length:Int))<|Br (hj ([]:Af) (List.take (Int.toNat (ha+hf.1)-Int.toNat ha) (List.drop (Int.toNat ha) v)) hh hi c) λhg=>Bi (!hg.1) (some (.out (.ret (hg.2.1,hg.2.2)))) (AQ (Bs .i64 (hb+1))<|some (.next (ha+hf.1,hb+1,hg.2.1,hg.2.2))))) (some (.out (.go (hh,hi))))
def Ij (ha:Bool)(hb:Af):Option (Bool×Af):=
 some (ha,hb)
def IQ (F:Nat)(ha:Af→(List Aa)→Bool→Af→Aa→Option (Bool×Bool×Af))(v:(List Aa))(first:Bool)(l:Af)(c:Aa):Option (Bool×Af):=
 AQ (Cw 0 (v.length:Int))<|Br (BJ (λσ=>Ed F v c ha σ.1 σ.2.1 σ.2.2.1 σ.2.2.2) F (1,0,first,l)) (BE λν=>Ij ν.1 ν.2)
mutual
def GQ:Nat→Af→(List Aa)→Option (Af)
 | 0,_,_=>none
 | nn+1,l,v=>KD nn (Gh nn) (HB nn) l v
def Gh:Nat→Af→(List Aa)→Bool→Af→Aa→Option (Bool×Bool×Af)
 | 0,_,_,_,_,_=>none
 | nn+1,key,x,first,l,c=>LP nn (GQ nn) key x first l c
def HB:Nat→(List Aa)→Bool→Af→Aa→Option (Bool×Af)
 | 0,_,_,_,_=>none
 | nn+1,v,first,l,c=>IQ nn (Gh nn) v first l c
end
def LT (F:Nat)(v:(List Aa)):Option (Af×Int):=
 Br (L0 F v) λr1=>Bi (!decide (r1=0)) (some (([]:Af),r1)) (Br (GQ F ([]:Af) v) λr8=>AQ (decide (0<r8.length))<|some (r8,0))
end Go.Proofs.YtjfnokmpfekniaaGreatDoor
namespace Go.Proofs.YtjfnokmpfekniaaGreatDoor.Q
open Go Go.RowKit
set_option linter.unusedVariables false
set_option linter.unusedSimpArgs false
set_option maxRecDepth 100000
set_option maxHeartbeats 4000000
theorem OF (F:Nat)(ha:Nat)(hk:Value)(l:Af)(s:Af)(r:Af)(h:Lz F l s=some r):Fn Tryz.prog GE 121 [rP ha 0,rS s] [.bld 112 5 ha hk l] (λR H=>∃w0b:Value,R=rv (.tuple #[])∧H=[.bld 112 5 ha w0b r]):=by
 refine enter (n:=32) Tryz.func121 rfl Tryz.ntmps121 rfl (λw Z=>?_);unfold Lz at h;refine Ad (wm rfl (ck h λg1 h2=>ck h2 λg3 h4=>CA (rs:=[rP ha 0,rI .u8 34]) (Hin:=[.bld 112 5 ha hk l]) (Hr:=[]) JO rfl (Ael _) (CI ha hk l 34 g1 g3) rfl ?_));rintro _ _ ⟨v5,rfl,rfl⟩;refine bd h4 λr6 e8 h7=>?_;rw[← e8];refine Ak (Ai (Ad (wm rfl (wv (Bg BQ rfl) (wv (r:=Al 0) (Ap rfl) (Ak (AF (ob h7 λhq hr hs=>Bo (S:=Nat×(Int×Af)×(Value)) (V:=(Af)×(Value)) 0 (λσ=>BJ (λσ=>DT s σ.1 σ.2) σ.1 σ.2.1=some hq) (λσ=>[(0,rP ha 0),(1,rS s),(8,Al (s.length:Int)),(9,Al σ.2.1.1)]) (λσ=>[.bld 112 5 ha σ.2.2 σ.2.1.2]) (λσ=>σ.1) (F,(0,r6),v5) hr (AD.c rfl (AD.c rfl (AD.c rfl (AD.c rfl AD.nil)))) (sC sN) (λσ=>Gw σ.1=some r) (λσ=>[(0,rP ha 0)]) (λσ=>[.bld 112 5 ha σ.2 σ.1]) ?_ ?_))))))))
 ·rintro⟨gf,⟨hb,he⟩,hf⟩ ht;refine BO (l':=[(0,rP ha 0),(1,rS s),(8,Al (s.length:Int)),(9,Al hb)]) (H':=[.bld 112 5 ha hf he]) rfl rfl ?_;obtain⟨hn,rfl,t127,hg,hl⟩:=Ck ht;replace hg:DT s hb he=some t127:=hg;unfold DT at hg;refine Ad (wv (Cf rfl rfl) (Ak (Ai (cz hg rfl (λhu hw=>?_) (λhu hx=>?_)))))
  ·refine Am (AJ (Ai (AF (Ad (wm rfl (wa rfl (Ak (Ai (ck hw λhh hy=>A8 [(0,rP ha 0),(1,rS s),(4,Al hb),(8,Al (s.length:Int)),(9,Al hb),(21,rB ((decide ((AM s hb)=34))||(decide ((AM s hb)=92))))] [.bld 112 5 ha hf he] ?_ ?_)))))))))
   ·refine Ag (wm rfl (wm rfl (wv (AS BQ rfl rfl hh) (wv (B3 rfl rfl) (wm rfl (AN (decide ((AM s hb)=34)) (λhd=>?_) (λhd=>?_)))))))
    ·refine wf hd (wf hd (wf hd (wf hd (wv (r:=rB true) (A1 rfl hd rfl) (Aj ?_)))));exact Ca hd
    ·refine wo hd (wm rfl (wo hd (wm rfl (wo hd (wv (AS BQ rfl rfl hh) (wo hd (wv (B3 rfl rfl) (Et rfl hd rfl (Aj ?_)))))))));exact Ca hd
   refine cz hy rfl (λhz h0=>?_) (λhz h1=>?_)
   ·refine Ag (wm rfl (ck h0 λh3 h5=>ck h5 λh6 h8=>CA (rs:=[rP ha 0,rI .u8 92]) (Hin:=[.bld 112 5 ha hf he]) (Hr:=[]) JO rfl (Ael _) (CI ha hf he 92 h3 h6) rfl ?_));rintro _ _ ⟨ho,rfl,rfl⟩;refine bd h8 λhp h9 hA=>?_;rw[← h9];refine Ak (Ag (wm rfl (wm rfl (wm rfl (wv (AS BQ rfl rfl hh) (ck hA λhB hC=>ck hC λhD hE=>CA (rs:=[rP ha 0,rI .u8 (AM s hb)]) (Hin:=[.bld 112 5 ha ho hp]) (Hr:=[]) JO rfl (Ael _) (CI ha ho hp (AM s hb) hB hD) rfl ?_))))));rintro _ _ ⟨hG,rfl,rfl⟩;refine bd hE λhH hI hJ=>?_;rw[← hI];refine Aj (AA (AJ (Ag (ck hJ λhK hL=>wv (Bb rfl rfl hK) (wm rfl (Aj ?_))))));have hN:=Be hL hl;exact Av (A5 (hn,(hb+1,hH),hG) ⟨hN,Aeo _⟩ (AD.c rfl (AD.c rfl (AD.c rfl (AD.c rfl AD.nil)))) (sC sN))
   ·refine Am (AJ (Ag (wm rfl (wm rfl (wm rfl (wv (AS BQ rfl rfl hh) (ck h1 λhO hP=>ck hP λhQ hR=>CA (rs:=[rP ha 0,rI .u8 (AM s hb)]) (Hin:=[.bld 112 5 ha hf he]) (Hr:=[]) JO rfl (Ael _) (CI ha hf he (AM s hb) hO hQ) rfl ?_)))))));rintro _ _ ⟨hS,rfl,rfl⟩;refine bd hR λhT hU hV=>?_;rw[← hU];refine Aj (AA (AJ (Ag (ck hV λhW hX=>wv (Bb rfl rfl hW) (wm rfl (Aj ?_))))));have hY:=Be hX hl;exact Av (A5 (hn,(hb+1,hT),hS) ⟨hY,Aeo _⟩ (AD.c rfl (AD.c rfl (AD.c rfl (AD.c rfl AD.nil)))) (sC sN))
  ·refine Bq (Ax ?_);have hZ:=BL hx hl hs;exact Ax (Bd (A5 (he,hf) hZ (AD.c rfl AD.nil) (sC sN)))
 ·rintro⟨hi,hm⟩ hj;refine Cl (l':=[(0,rP ha 0)]) (H':=[.bld 112 5 ha hm hi]) rfl rfl ?_;replace hj:Gw hi=some r:=hj;unfold Gw at hj;refine Bc (AJ (Ag (wm rfl (ck hj λga gb=>CA (rs:=[rP ha 0,rI .u8 34]) (Hin:=[.bld 112 5 ha hm hi]) (Hr:=[]) JO rfl (Ael _) (CI ha hm hi 34 ga g3) rfl ?_))));rintro _ _ ⟨gc,rfl,rfl⟩;refine bd gb λgg gd ge=>?_;rw[← gd];refine Aj ?_;obtain rfl:=Au ge;exact Ih (Wc Tryz.results121) (sC sN) ⟨gc,rfl,rfl⟩
theorem VO (F:Nat)(hl:Af→(List Aa)→Bool→Af→Aa→Option (Bool×Bool×Af))(hm:(List Aa)→Bool→Af→Aa→Option (Bool×Af))(g4:(∀(hd:Nat) (he:Nat) (ha:Nat) (hb:Value) (hf:Nat) (key:Af) (x:(List Aa)) (first:Bool) (l:Af) (c:Aa) (r:Bool×Bool×Af),hl key x first l c=some r→Fn Tryz.prog GE 124 [rS key,AX 4 (AE Ab x),rP hd 0,rP he 0,rP hf 0] [.blk hd [rB first] 4,.blk he [rP ha 0] 110,.bld 112 5 ha hb l,.blk hf (Ab c) 78] (λR H=>∃w3b:Value,R=rB r.1∧H=[.blk hd [rB r.2.1] 4,.blk he [rP ha 0] 110,.bld 112 5 ha w3b r.2.2,.blk hf (Ab c) 78])))(hn:(∀(hd:Nat) (he:Nat) (ha:Nat) (hb:Value) (hf:Nat) (v:(List Aa)) (first:Bool) (l:Af) (c:Aa) (r:Bool×Af),hm v first l c=some r→Fn Tryz.prog GE 123 [AX 4 (AE Ab v),rv (.func (.func 124) #[] #[(.pointer (some ⟨hd,0,none⟩)),(.pointer (some ⟨he,0,none⟩)),(.pointer (some ⟨hf,0,none⟩))])] [.blk hd [rB first] 4,.blk he [rP ha 0] 110,.bld 112 5 ha hb l,.blk hf (Ab c) 78] (λR H=>∃w1_1b:Value,R=rv (.tuple #[])∧H=[.blk hd [rB r.1] 4,.blk he [rP ha 0] 110,.bld 112 5 ha w1_1b r.2,.blk hf (Ab c) 78])))(ha:Nat)(hb:Value)(l:Af)(v:(List Aa))(r:Af)(h:KD F hl hm l v=some r):Fn Tryz.prog GE 87 [rP ha 0,AX 4 (AE Ab v)] [.bld 112 5 ha hb l] (λR H=>∃w0b:Value,R=rv (.tuple #[])∧H=[.bld 112 5 ha w0b r]):=by
 refine enter (n:=52) Tryz.func87 rfl Tryz.ntmps87 rfl (λw Z=>?_);unfold KD at h;refine Ad (AbJ rfl (Cy rfl) rfl (λb1=>?_));refine Bm (wm rfl (ck h λg2 h3=>wv (By (enc:=Ab) (ys:=v) BY Co rfl rfl g2) (wv (Dd MP Co rfl rfl rfl) (Cd (cs:=[Al 0,Al 0,rS ([]:Af),Al 0]) EU rfl rfl (λb4=>?_)))));refine Bp (i:=0) Co rfl rfl rfl (BM.c rfl) rfl rfl (cs':=[Al ((Aq v 0).fKind),Al ((Aq v 0).fInt),rS ((Aq v 0).fStr),Al ((Aq v 0).fN)]) rfl (H':=[.blk b4 (Ab (Aq v 0)) 78,.blk b1 [rP ha 0] 110,.bld 112 5 ha hb l]) rfl (Bm (vF B8 rfl Er (vL 0 EE rfl (Ak (AF (Ad (wv (B3 rfl rfl) (wa rfl (Ak (cz h3 rfl (λc5 h6=>?_) (λc5 hr=>?_)))))))))))
 ·refine Ag (vL 1 Gv rfl (ck h6 λg7 h8=>CA (rs:=[rP ha 0,rS ([110,117,108,108]:Af)]) (Hin:=[.bld 112 5 ha hb l]) (Hr:=[.blk b4 (Ab (Aq v 0)) 78,.blk b1 [rP ha 0] 110]) Tryz.call120 rfl ((A0 (i:=2) rfl).trans (Aem _ (Ael _))) (IF ha hb l ([110,117,108,108]:Af) g7) rfl ?_));rintro _ _ ⟨v9,rfl,rfl⟩;refine bd h8 λg5 hs ht=>?_;rw[← hs];refine Aj (AA ?_);obtain rfl:=Au ht;exact Ih (Wc VJ) (sC (sS (sS sN))) ⟨v9,rfl,rfl⟩
 ·refine Ad (wv (B3 rfl rfl) (wa rfl (Ak (cz hr rfl (λhu hw=>?_) (λhu hx=>?_)))))
  ·refine ck hw λg16 hy=>K9 (H1:=[.blk b4 (Ab (Aq v 0)) 78,.blk b1 [rP ha 0] 110,.bld 112 5 ha hb l]) 6 [2,4] [⟨[],rP ha 0,1⟩,⟨[],AX 1 (AE eS ([([102,97,108,115,101]:Af),([116,114,117,101]:Af)]:List Af)),0⟩,⟨[],rP b4 1,0⟩,⟨[2],Al ((Aq v 0).fInt),1⟩,⟨[1,3],I1 [rS (Aq ([([102,97,108,115,101]:Af),([116,114,117,101]:Af)]:List Af) ((Aq v 0).fInt))],0⟩,⟨[4],rS (Aq ([([102,97,108,115,101]:Af),([116,114,117,101]:Af)]:List Af) ((Aq v 0).fInt)),0⟩] (rle [(7,_)]) [32,33,34,35,36,37,2,4] ?_ ?_
   ·refine of (Bu (i:=1) Gv rfl rfl rfl) (EY rfl (λH=>He (ys:=([([102,97,108,115,101]:Af),([116,114,117,101]:Af)]:List Af)) (enc:=eS) (css:=[[rS ([102,97,108,115,101]:Af)],[rS ([116,114,117,101]:Af)]]) (xs:=[.const (.string ⟨#[102,97,108,115,101]⟩),.const (.string ⟨#[116,114,117,101]⟩)]) De Da yz9 rfl rfl rfl ⟨Eu.one rfl (Up.refl _),Eu.one rfl (Up.refl _),trivial⟩ rfl Hb rfl rfl) ?_);refine oq (AK B8 rfl Cs rfl rfl) (of (Bu (i:=0) CR rfl rfl rfl) (oq (By (enc:=eS) (ys:=([([102,97,108,115,101]:Af),([116,114,117,101]:Af)]:List Af)) De Da rfl rfl g16) (oq (Bn DE rfl rfl) ?_)));exact Cp
   refine ck hy λg18 hz=>CA (rs:=[rP ha 0,rS (Aq ([([102,97,108,115,101]:Af),([116,114,117,101]:Af)]:List Af) ((Aq v 0).fInt))]) (Hin:=[.bld 112 5 ha hb l]) (Hr:=[.blk b4 (Ab (Aq v 0)) 78,.blk b1 [rP ha 0] 110]) Tryz.call120 rfl ((A0 (i:=2) rfl).trans (Aem _ (Ael _))) (IF ha hb l (Aq ([([102,97,108,115,101]:Af),([116,114,117,101]:Af)]:List Af) ((Aq v 0).fInt)) g18) rfl ?_;rintro _ _ ⟨v20,rfl,rfl⟩;refine bd hz λg6 h0 h1=>?_;rw[← h0];refine Aj (AA ?_);obtain rfl:=Au h1;exact Ih (Wc VJ) (sC (sS (sS sN))) ⟨v20,rfl,rfl⟩
  ·refine Ad (wv (B3 rfl rfl) (wa rfl (Ak (cz hx rfl (λh2 h4=>?_) (λh2 h5=>?_)))))
   ·refine ck h4 λh7 h9=>K9 (H1:=[.blk b4 (Ab (Aq v 0)) 78,.blk b1 [rP ha 0] 110,.bld 112 5 ha hb l]) 4 [2,4] [⟨[],rP ha 0,1⟩,⟨[],rP b4 1,0⟩,⟨[1],Al ((Aq v 0).fInt),1⟩,⟨[2],rS (Lib.itoa ((Aq v 0).fInt)),0⟩] (rle [(5,_)]) [41,42,43,44,2,4] ?_ ?_
    ·refine of (Bu (i:=1) Gv rfl rfl rfl) (oq (AK B8 rfl Cs rfl rfl) (of (Bu (i:=0) CR rfl rfl rfl) (EY rfl (λH=>Jj (rs:=[Al ((Aq v 0).fInt)]) (r:=rS (Lib.itoa ((Aq v 0).fInt))) Tryz.call67 rfl (M8 ((Aq v 0).fInt) h7) rfl) ?_)));exact Cp
    refine ck h9 λhA hB=>CA (rs:=[rP ha 0,rS (Lib.itoa ((Aq v 0).fInt))]) (Hin:=[.bld 112 5 ha hb l]) (Hr:=[.blk b4 (Ab (Aq v 0)) 78,.blk b1 [rP ha 0] 110]) Tryz.call120 rfl ((A0 (i:=2) rfl).trans (Aem _ (Ael _))) (IF ha hb l (Lib.itoa ((Aq v 0).fInt)) hA) rfl ?_;rintro _ _ ⟨hC,rfl,rfl⟩;refine bd hB λg8 hD hE=>?_;rw[← hD];refine Aj (AA ?_);obtain rfl:=Au hE;exact Ih (Wc VJ) (sC (sS (sS sN))) ⟨hC,rfl,rfl⟩
   ·refine Ad (wv (B3 rfl rfl) (wa rfl (Ak (cz h5 rfl (λhG hH=>?_) (λhG hI=>?_)))))
    ·refine Ag (vL 1 Gv rfl (vF B8 rfl Da (vL 0 DE rfl (ob hH λhJ hK hL=>Gj (Hr:=[.blk b4 (Ab (Aq v 0)) 78,.blk b1 [rP ha 0] 110]) Tryz.call121 (OF F ha hb l ((Aq v 0).fStr) hJ hK) rfl ((A0 (i:=2) rfl).trans (Aem _ (Ael _))) rfl ?_))));rintro _ _ ⟨v41,rfl,rfl⟩;refine Aj (AA ?_);obtain rfl:=Au hL;exact Ih (Wc VJ) (sC (sS (sS sN))) ⟨v41,rfl,rfl⟩
    ·refine Ad (wv (r:=rS ([91,93]:Af)) (Aw rfl) (Ak (Ai (Ad (vF B8 rfl Er (vL 0 EE rfl (wv (B3 rfl rfl) (Ak (cz hI rfl (λhN hO=>?_) (λhN hP=>?_))))))))))
     ·refine Ag (wv (r:=rS ([123,125]:Af)) (Aw rfl) (Ak (Ai (ck hO λhQ hR=>K9 (H1:=[.blk b4 (Ab (Aq v 0)) 78,.blk b1 [rP ha 0] 110,.bld 112 5 ha hb l]) 3 [1,2,4,5] [⟨[],rP ha 0,1⟩,⟨[],rS ([123,125]:Af),0⟩,⟨[1],rI .u8 (AM ([123,125]:Af) 0),0⟩] (rle [(4,_)]) [15,16,17,1,2,4,5] ?_ ?_))))
      ·refine of (Bu (i:=1) Gv rfl rfl rfl) (oq (Ap rfl) (oq (AS BQ rfl rfl hQ) ?_));exact Cp
      refine ck hR λhS hT=>ck hT λhU hV=>CA (rs:=[rP ha 0,rI .u8 (AM ([123,125]:Af) 0)]) (Hin:=[.bld 112 5 ha hb l]) (Hr:=[.blk b4 (Ab (Aq v 0)) 78,.blk b1 [rP ha 0] 110]) JO rfl ((A0 (i:=2) rfl).trans (Aem _ (Ael _))) (CI ha hb l (AM ([123,125]:Af) 0) hS hU) rfl ?_;rintro _ _ ⟨v51,rfl,rfl⟩;refine bd hV λho hW hX=>?_;rw[← hW];refine Bm (Cd (cs:=[rB false]) Tryz.zeroValue4 rfl rfl (λhi=>?_));refine BH (i:=0) Hu rfl rfl (Cy rfl) rfl rfl (cs':=[rB true]) rfl (H':=[.blk hi [rB true] 4,.bld 112 5 ha v51 ho,.blk b4 (Ab (Aq v 0)) 78,.blk b1 [rP ha 0] 110]) rfl (Bm (wm rfl (wv (r:=rv (.func (.func 124) #[] #[(.pointer (some ⟨hi,0,none⟩)),(.pointer (some ⟨b1,0,none⟩)),(.pointer (some ⟨b4,0,none⟩))])) (Pf rfl) (ob hX λhg hY hZ=>Gj (Hr:=[]) Tryz.call123 (hn hi b1 ha v51 b4 v true ho (Aq v 0) hg hY) rfl ((A0 (i:=0) rfl).trans (Aem _ ((A0 (i:=2) rfl).trans (Aem _ (Ael _))))) rfl ?_))));rintro _ _ ⟨hk,rfl,rfl⟩;refine Ak (ck hZ λga gb=>K9 (H1:=[.blk hi [rB hg.1] 4,.blk b1 [rP ha 0] 110,.bld 112 5 ha hk hg.2,.blk b4 (Ab (Aq v 0)) 78]) 3 [2,5] [⟨[],rP ha 0,1⟩,⟨[],rS ([123,125]:Af),0⟩,⟨[1],rI .u8 (AM ([123,125]:Af) 1),0⟩] (rle [(4,_)]) [22,23,24,2,5] ?_ ?_)
      ·refine of (Bu (i:=1) Gv rfl rfl rfl) (oq (Ap rfl) (oq (AS BQ rfl rfl ga) ?_));exact Cp
      refine ck gb λgc gd=>ck gd λge gf=>CA (rs:=[rP ha 0,rI .u8 (AM ([123,125]:Af) 1)]) (Hin:=[.bld 112 5 ha hk hg.2]) (Hr:=[.blk hi [rB hg.1] 4,.blk b1 [rP ha 0] 110,.blk b4 (Ab (Aq v 0)) 78]) JO rfl ((A0 (i:=2) rfl).trans (Aem _ (Ael _))) (CI ha hk hg.2 (AM ([123,125]:Af) 1) gc ge) rfl ?_;rintro _ _ ⟨gg,rfl,rfl⟩;refine bd gf λg9 gh gi=>?_;rw[← gh];refine Aj (AA ?_);obtain rfl:=Au gi;exact Ih (Wc VJ) (sC (sS (sS (sS sN)))) ⟨gg,rfl,rfl⟩
     ·refine Am (AJ (Ai (ck hP λgj gk=>K9 (H1:=[.blk b4 (Ab (Aq v 0)) 78,.blk b1 [rP ha 0] 110,.bld 112 5 ha hb l]) 3 [1,2,4,5] [⟨[],rP ha 0,1⟩,⟨[],rS ([91,93]:Af),0⟩,⟨[1],rI .u8 (AM ([91,93]:Af) 0),0⟩] (rle [(4,_)]) [15,16,17,1,2,4,5] ?_ ?_)))
      ·refine of (Bu (i:=1) Gv rfl rfl rfl) (oq (Ap rfl) (oq (AS BQ rfl rfl gj) ?_));exact Cp
      refine ck gk λgl gm=>ck gm λgn gp=>CA (rs:=[rP ha 0,rI .u8 (AM ([91,93]:Af) 0)]) (Hin:=[.bld 112 5 ha hb l]) (Hr:=[.blk b4 (Ab (Aq v 0)) 78,.blk b1 [rP ha 0] 110]) JO rfl ((A0 (i:=2) rfl).trans (Aem _ (Ael _))) (CI ha hb l (AM ([91,93]:Af) 0) gl gn) rfl ?_;rintro _ _ ⟨hp,rfl,rfl⟩;refine bd gp λhq gq gr=>?_;rw[← gq];refine Bm (Cd (cs:=[rB false]) Tryz.zeroValue4 rfl rfl (λhj=>?_));refine BH (i:=0) Hu rfl rfl (Cy rfl) rfl rfl (cs':=[rB true]) rfl (H':=[.blk hj [rB true] 4,.bld 112 5 ha hp hq,.blk b4 (Ab (Aq v 0)) 78,.blk b1 [rP ha 0] 110]) rfl (Bm (wm rfl (wv (r:=rv (.func (.func 124) #[] #[(.pointer (some ⟨hj,0,none⟩)),(.pointer (some ⟨b1,0,none⟩)),(.pointer (some ⟨b4,0,none⟩))])) (Pf rfl) (ob gr λhh gs gt=>Gj (Hr:=[]) Tryz.call123 (hn hj b1 ha hp b4 v true hq (Aq v 0) hh gs) rfl ((A0 (i:=0) rfl).trans (Aem _ ((A0 (i:=2) rfl).trans (Aem _ (Ael _))))) rfl ?_))));rintro _ _ ⟨v85,rfl,rfl⟩;refine Ak (ck gt λgu gv=>K9 (H1:=[.blk hj [rB hh.1] 4,.blk b1 [rP ha 0] 110,.bld 112 5 ha v85 hh.2,.blk b4 (Ab (Aq v 0)) 78]) 3 [2,5] [⟨[],rP ha 0,1⟩,⟨[],rS ([91,93]:Af),0⟩,⟨[1],rI .u8 (AM ([91,93]:Af) 1),0⟩] (rle [(4,_)]) [22,23,24,2,5] ?_ ?_)
      ·refine of (Bu (i:=1) Gv rfl rfl rfl) (oq (Ap rfl) (oq (AS BQ rfl rfl gu) ?_));exact Cp
      refine ck gv λgw gx=>ck gx λgy gz=>CA (rs:=[rP ha 0,rI .u8 (AM ([91,93]:Af) 1)]) (Hin:=[.bld 112 5 ha v85 hh.2]) (Hr:=[.blk hj [rB hh.1] 4,.blk b1 [rP ha 0] 110,.blk b4 (Ab (Aq v 0)) 78]) JO rfl ((A0 (i:=2) rfl).trans (Aem _ (Ael _))) (CI ha v85 hh.2 (AM ([91,93]:Af) 1) gw gy) rfl ?_;rintro _ _ ⟨g0,rfl,rfl⟩;refine bd gz λgA g1 g3=>?_;rw[← g1];refine Aj (AA ?_);obtain rfl:=Au g3;exact Ih (Wc VJ) (sC (sS (sS (sS sN)))) ⟨g0,rfl,rfl⟩
theorem TK (F:Nat)(hj:Af→(List Aa)→Option (Af))(hg:(∀(ha:Nat) (hf:Value) (l:Af) (v:(List Aa)) (r:Af),hj l v=some r→Fn Tryz.prog GE 87 [rP ha 0,AX 4 (AE Ab v)] [.bld 112 5 ha hf l] (λR H=>∃w0b:Value,R=rv (.tuple #[])∧H=[.bld 112 5 ha w0b r])))(hb:Nat)(hd:Nat)(ha:Nat)(hf:Value)(he:Nat)(key:Af)(x:(List Aa))(first:Bool)(l:Af)(c:Aa)(r:Bool×Bool×Af)(h:LP F hj key x first l c=some r):Fn Tryz.prog GE 124 [rS key,AX 4 (AE Ab x),rP hb 0,rP hd 0,rP he 0] [.blk hb [rB first] 4,.blk hd [rP ha 0] 110,.bld 112 5 ha hf l,.blk he (Ab c) 78] (λR H=>∃w3b:Value,R=rB r.1∧H=[.blk hb [rB r.2.1] 4,.blk hd [rP ha 0] 110,.bld 112 5 ha w3b r.2.2,.blk he (Ab c) 78]):=by
 refine enter (n:=23) Tryz.func124 rfl Tryz.ntmps124 rfl (λw Z=>?_);unfold LP at h;refine Ad (wa rfl (Ak (Ai (Ad (vL 0 NZ rfl (wv (Cc rfl) (Ak (cz h rfl (λc1 h2=>?_) (λc1 hr=>?_)))))))))
 ·refine Ag (vL 1 Gv rfl (ck h2 λg3 h4=>ck h4 λg5 h6=>CA (rs:=[rP ha 0,rI .u8 44]) (Hin:=[.bld 112 5 ha hf l]) (Hr:=[.blk hb [rB first] 4,.blk hd [rP ha 0] 110,.blk he (Ab c) 78]) JO rfl ((A0 (i:=2) rfl).trans (Aem _ (Ael _))) (CI ha hf l 44 g3 g5) rfl ?_));rintro _ _ ⟨v7,rfl,rfl⟩;refine bd h6 λr8 hs h9=>?_;rw[← hs];refine Bm (BH (i:=1) Hu rfl rfl (Cy rfl) rfl rfl (cs':=[rB false]) rfl (H':=[.bld 112 5 ha v7 r8,.blk hb [rB false] 4,.blk hd [rP ha 0] 110,.blk he (Ab c) 78]) rfl (Ak (Ai (Ad (vF B8 rfl Er (vL 3 EE rfl (wv (B3 rfl rfl) (Ak (cz h9 rfl (λht hu=>?_) (λht hw=>?_))))))))))
  ·refine Ad (vL 2 Gv rfl (wm rfl (ob hu λhh hx hy=>Gj (Hr:=[.blk hb [rB false] 4,.blk hd [rP ha 0] 110,.blk he (Ab c) 78]) Tryz.call121 (OF F ha v7 r8 key hh hx) rfl (Ael _) rfl ?_)));rintro _ _ ⟨hk,rfl,rfl⟩;refine Ak (Ag (vL 2 Gv rfl (ck hy λg17 hz=>ck hz λg19 h0=>CA (rs:=[rP ha 0,rI .u8 58]) (Hin:=[.bld 112 5 ha hk hh]) (Hr:=[.blk hb [rB false] 4,.blk hd [rP ha 0] 110,.blk he (Ab c) 78]) JO rfl (Ael _) (CI ha hk hh 58 g17 g19) rfl ?_)));rintro _ _ ⟨v21,rfl,rfl⟩;refine bd h0 λh1 h3 h5=>?_;rw[← h3];refine Bm (vL 2 Gv rfl (wm rfl (ob h5 λhl h7 h8=>Gj (Hr:=[.blk hb [rB false] 4,.blk hd [rP ha 0] 110,.blk he (Ab c) 78]) X4 (hg ha v21 h1 x hl h7) rfl (Ael _) rfl ?_)));rintro _ _ ⟨v28,rfl,rfl⟩;refine Bm (wa rfl (Ak (As (Cn (H2:=[.blk hb [rB false] 4,.blk hd [rP ha 0] 110,.bld 112 5 ha v28 hl,.blk he (Ab c) 78]) ((A0 (i:=1) rfl).trans (Aem _ ((A0 (i:=1) rfl).trans (Aem _ (Ael _))))) ?_))));obtain rfl:=Au h8;exact Ar (Cb UH (A7 rfl)) (sC (sC (sC (sC sN)))) ⟨v28,rfl,rfl⟩
  ·refine Am (AJ (Ad (vL 2 Gv rfl (wm rfl (ob hw λhm hA hB=>Gj (Hr:=[.blk hb [rB false] 4,.blk hd [rP ha 0] 110,.blk he (Ab c) 78]) X4 (hg ha v7 r8 x hm hA) rfl (Ael _) rfl ?_)))));rintro _ _ ⟨v33,rfl,rfl⟩;refine Bm (wa rfl (Ak (As (Cn (H2:=[.blk hb [rB false] 4,.blk hd [rP ha 0] 110,.bld 112 5 ha v33 hm,.blk he (Ab c) 78]) ((A0 (i:=1) rfl).trans (Aem _ ((A0 (i:=1) rfl).trans (Aem _ (Ael _))))) ?_))));obtain rfl:=Au hB;exact Ar (Cb UH (A7 rfl)) (sC (sC (sC (sC sN)))) ⟨v33,rfl,rfl⟩
 ·refine Am (AJ (Ad (BH (i:=0) Hu rfl rfl (Cy rfl) rfl rfl (cs':=[rB false]) rfl (H':=[.blk hb [rB false] 4,.blk hd [rP ha 0] 110,.bld 112 5 ha hf l,.blk he (Ab c) 78]) rfl (Ak (Ai (Ad (vF B8 rfl Er (vL 3 EE rfl (wv (B3 rfl rfl) (Ak (cz hr rfl (λhC hD=>?_) (λhC hE=>?_))))))))))))
  ·refine Ad (vL 1 Gv rfl (wm rfl (ob hD λhi hG hH=>Gj (Hr:=[.blk hb [rB false] 4,.blk hd [rP ha 0] 110,.blk he (Ab c) 78]) Tryz.call121 (OF F ha hf l key hi hG) rfl ((A0 (i:=2) rfl).trans (Aem _ (Ael _))) rfl ?_)));rintro _ _ ⟨hn,rfl,rfl⟩;refine Ak (Ag (vL 2 Gv rfl (ck hH λhI hJ=>ck hJ λhK hL=>CA (rs:=[rP ha 0,rI .u8 58]) (Hin:=[.bld 112 5 ha hn hi]) (Hr:=[.blk hb [rB false] 4,.blk hd [rP ha 0] 110,.blk he (Ab c) 78]) JO rfl (Ael _) (CI ha hn hi 58 hI hK) rfl ?_)));rintro _ _ ⟨hN,rfl,rfl⟩;refine bd hL λhO hP hQ=>?_;rw[← hP];refine Bm (vL 2 Gv rfl (wm rfl (ob hQ λho hR hS=>Gj (Hr:=[.blk hb [rB false] 4,.blk hd [rP ha 0] 110,.blk he (Ab c) 78]) X4 (hg ha hN hO x ho hR) rfl (Ael _) rfl ?_)));rintro _ _ ⟨hp,rfl,rfl⟩;refine Bm (wa rfl (Ak (As (Cn (H2:=[.blk hb [rB false] 4,.blk hd [rP ha 0] 110,.bld 112 5 ha hp ho,.blk he (Ab c) 78]) ((A0 (i:=1) rfl).trans (Aem _ ((A0 (i:=1) rfl).trans (Aem _ (Ael _))))) ?_))));obtain rfl:=Au hS;exact Ar (Cb UH (A7 rfl)) (sC (sC (sC (sC sN)))) ⟨hp,rfl,rfl⟩
  ·refine Am (AJ (Ad (vL 1 Gv rfl (wm rfl (ob hE λhq hT hU=>Gj (Hr:=[.blk hb [rB false] 4,.blk hd [rP ha 0] 110,.blk he (Ab c) 78]) X4 (hg ha hf l x hq hT) rfl ((A0 (i:=2) rfl).trans (Aem _ (Ael _))) rfl ?_)))));rintro _ _ ⟨v57,rfl,rfl⟩;refine Bm (wa rfl (Ak (As (Cn (H2:=[.blk hb [rB false] 4,.blk hd [rP ha 0] 110,.bld 112 5 ha v57 hq,.blk he (Ab c) 78]) ((A0 (i:=1) rfl).trans (Aem _ ((A0 (i:=1) rfl).trans (Aem _ (Ael _))))) ?_))));obtain rfl:=Au hU;exact Ar (Cb UH (A7 rfl)) (sC (sC (sC (sC sN)))) ⟨v57,rfl,rfl⟩
theorem TJ (F:Nat)(hm:Af→(List Aa)→Bool→Af→Aa→Option (Bool×Bool×Af))(hx:(∀(hd:Nat) (he:Nat) (hb:Nat) (hn:Value) (hf:Nat) (key:Af) (x:(List Aa)) (first:Bool) (l:Af) (c:Aa) (r:Bool×Bool×Af),hm key x first l c=some r→Fn Tryz.prog GE 124 [rS key,AX 4 (AE Ab x),rP hd 0,rP he 0,rP hf 0] [.blk hd [rB first] 4,.blk he [rP hb 0] 110,.bld 112 5 hb hn l,.blk hf (Ab c) 78] (λR H=>∃w3b:Value,R=rB r.1∧H=[.blk hd [rB r.2.1] 4,.blk he [rP hb 0] 110,.bld 112 5 hb w3b r.2.2,.blk hf (Ab c) 78])))(hd:Nat)(he:Nat)(hb:Nat)(hn:Value)(hf:Nat)(v:(List Aa))(first:Bool)(l:Af)(c:Aa)(r:Bool×Af)(h:IQ F hm v first l c=some r):Fn Tryz.prog GE 123 [AX 4 (AE Ab v),rv (.func (.func 124) #[] #[(.pointer (some ⟨hd,0,none⟩)),(.pointer (some ⟨he,0,none⟩)),(.pointer (some ⟨hf,0,none⟩))])] [.blk hd [rB first] 4,.blk he [rP hb 0] 110,.bld 112 5 hb hn l,.blk hf (Ab c) 78] (λR H=>∃w1_1b:Value,R=rv (.tuple #[])∧H=[.blk hd [rB r.1] 4,.blk he [rP hb 0] 110,.bld 112 5 hb w1_1b r.2,.blk hf (Ab c) 78]):=by
 refine enter (n:=52) Tryz.func123 rfl Tryz.ntmps123 rfl (λw Z=>?_);unfold IQ at h;refine Ad (wa rfl (Bm (wm rfl (ck h λg1 h2=>wv (By (enc:=Ab) (ys:=v) BY Co rfl rfl g1) (wv (Bk B8 rfl Cs rfl rfl) (wv (Bn CR rfl rfl) (wv (r:=Al 0) (Ap rfl) (Ak (AF (ob h2 λh7 h8 hr=>Bo (S:=Nat×(Int×Int×Bool×Af)×(Value)) (V:=(Bool×Af)×(Value)) 0 (λσ=>BJ (λσ=>Ed F v c hm σ.1 σ.2.1 σ.2.2.1 σ.2.2.2) σ.1 σ.2.1=some h7) (λσ=>[(0,AX 4 (AE Ab v)),(1,rv (.func (.func 124) #[] #[(.pointer (some ⟨hd,0,none⟩)),(.pointer (some ⟨he,0,none⟩)),(.pointer (some ⟨hf,0,none⟩))])),(4,Al σ.2.1.1),(12,Al ((Aq v 0).fN)),(13,Al σ.2.1.2.1)]) (λσ=>[.blk hd [rB σ.2.1.2.2.1] 4,.blk he [rP hb 0] 110,.bld 112 5 hb σ.2.2 σ.2.1.2.2.2,.blk hf (Ab c) 78]) (λσ=>σ.1) (F,(1,0,first,l),hn) h8 (AD.c5 rfl rfl rfl rfl rfl AD.nil) (sC (sC (sC (sC sN)))) (λσ=>Ij σ.1.1 σ.1.2=some r) (λσ=>[]) (λσ=>[.blk hd [rB σ.1.1] 4,.blk he [rP hb 0] 110,.bld 112 5 hb σ.2 σ.1.2,.blk hf (Ab c) 78]) ?_ ?_))))))))))
 ·rintro⟨gy,⟨ha,ho,hi,hj⟩,hk⟩ h9;refine BO (l':=[(0,AX 4 (AE Ab v)),(1,rv (.func (.func 124) #[] #[(.pointer (some ⟨hd,0,none⟩)),(.pointer (some ⟨he,0,none⟩)),(.pointer (some ⟨hf,0,none⟩))])),(4,Al ha),(12,Al ((Aq v 0).fN)),(13,Al ho)]) (H':=[.blk hd [rB hi] 4,.blk he [rP hb 0] 110,.bld 112 5 hb hk hj,.blk hf (Ab c) 78]) rfl rfl ?_;obtain⟨hy,rfl,hA,hp,hl⟩:=Ck h9;replace hp:Ed F v c hm ha ho hi hj=some hA:=hp;unfold Ed at hp;refine Ad (wv (Cf rfl rfl) (Ak (Ai (cz hp rfl (λc175 hB=>?_) (λc175 hC=>?_)))))
  ·refine Am (AJ (Ai (AF (Ad (wv (r:=rS ([]:Af)) (Aw rfl) (Ak (Ai (Ad (wm rfl (wv (By (enc:=Ab) (ys:=v) BY Co rfl rfl g1) (wv (Bk B8 rfl Er rfl rfl) (wv (Bn EE rfl rfl) (wv (B3 rfl rfl) (Ak (cz hB rfl (λhD hE=>?_) (λhD hG=>?_))))))))))))))))
   ·refine Ad (wm rfl (wm rfl (ck hE λhH hI=>wv (By (enc:=Ab) (ys:=v) BY Co rfl rfl hH) (wv (Bk B8 rfl Da rfl rfl) (wv (Bn DE rfl rfl) (wa rfl (Ak (Ag (wm rfl (ck hI λhJ hK=>wv (Bb rfl rfl hJ) (wa rfl (Bm (wm rfl (wm rfl (ck hK λhL hN=>wv (r:=AX 4 (AE Ab (List.drop (Bw (ha+1)) v))) (GU BY Co rfl rfl hL) (ob hN λhg hO hP=>Cu Tryz.call106 (QR F (List.drop (Bw (ha+1)) v) hg hO) rfl (wm rfl (wv (AB rfl rfl) (wv (AB rfl rfl) ?_)))))))))))))))))));refine wv (AB rfl rfl) (Cd (cs:=[Al 0,Al 0,rB false,rB false]) RE rfl rfl (λhz=>?_));refine wa rfl (Bp (i:=0) GJ rfl rfl rfl (BM.c rfl) rfl rfl (cs':=[Al hg.2.1.fDepth,Al hg.2.1.fBytes,rB hg.2.1.fOutside,rB hg.2.1.fLong]) rfl (H':=[.blk hz (Bf hg.2.1) 133,.blk hd [rB hi] 4,.blk he [rP hb 0] 110,.bld 112 5 hb hk hj,.blk hf (Ab c) 78]) rfl (wa rfl (Ak (Ai (Ad (wm rfl (wm rfl (wm rfl (wm rfl (wm rfl (wm rfl (ck hP λhs hQ=>wv (Bb rfl rfl hs) (wm rfl (wm rfl (wv (Bb rfl rfl hs) (ck hQ λhR hS=>ck hS λhT hU=>wv (r:=AX 4 (AE Ab (List.take (Bw ((ha+1)+hg.1)-Bw (ha+1)) (List.drop (Bw (ha+1)) v)))) (Pd BY Co rfl rfl rfl rfl hR hT) (ob hU λht hV hW=>UI (rs:=[rS ((Aq v ha).fStr),AX 4 (AE Ab (List.take (Bw ((ha+1)+hg.1)-Bw (ha+1)) (List.drop (Bw (ha+1)) v)))]) (Hin:=[.blk hd [rB hi] 4,.blk he [rP hb 0] 110,.bld 112 5 hb hk hj,.blk hf (Ab c) 78]) (Hr:=[.blk hz (Bf hg.2.1) 133]) Tryz.call124 rfl rfl ((A0 (i:=1) rfl).trans (Aem _ ((A0 (i:=1) rfl).trans (Aem _ ((A0 (i:=1) rfl).trans (Aem _ ((A0 (i:=1) rfl).trans (Aem _ (Ael _))))))))) (hx hd he hb hk hf ((Aq v ha).fStr) (List.take (Bw ((ha+1)+hg.1)-Bw (ha+1)) (List.drop (Bw (ha+1)) v)) hi hj c ht hV) rfl ?_)))))))))))))))));rintro _ _ ⟨h0,rfl,rfl⟩;refine wv (Cc rfl) (Ak (cz hW rfl (λhX hY=>?_) (λhX hZ=>?_)))
    ·refine As (Ac (Ay (Ac (Ac (AY ?_)))));have ga:=Bt hY hl hr;refine Ay ?_;obtain rfl:=Au ga;exact Ar (Wc Tryz.results123) (sC (sC (sC (sC (sS sN))))) ⟨h0,rfl,rfl⟩
    ·refine Am (AJ (Ag (wm rfl (wm rfl (wv (Bb rfl rfl hs) (wa rfl (Aj (AA (AJ (Ag (ck hZ λgb gc=>wv (Bb rfl rfl gb) (wm rfl (Aj ?_)))))))))))));have gd:=Be gc hl;exact Av (A5 (hy,((ha+1)+hg.1,ho+1,ht.2.1,ht.2.2),h0) ⟨gd,Aeo _⟩ (AD.c5 rfl rfl rfl rfl rfl AD.nil) (sC (sC (sC (sC (sS sN))))))
   ·refine Am (AJ (Ad (wm rfl (wm rfl (ck hG λge gf=>wv (r:=AX 4 (AE Ab (List.drop (Bw ha) v))) (GU BY Co rfl rfl ge) (ob gf λhh gg gh=>Cu Tryz.call106 (QR F (List.drop (Bw ha) v) hh gg) rfl (wm rfl (wv (AB rfl rfl) (wv (AB rfl rfl) (wv (AB rfl rfl) (Cd (cs:=[Al 0,Al 0,rB false,rB false]) RE rfl rfl (λh1=>?_))))))))))));refine wa rfl (Bp (i:=0) GJ rfl rfl rfl (BM.c rfl) rfl rfl (cs':=[Al hh.2.1.fDepth,Al hh.2.1.fBytes,rB hh.2.1.fOutside,rB hh.2.1.fLong]) rfl (H':=[.blk h1 (Bf hh.2.1) 133,.blk hd [rB hi] 4,.blk he [rP hb 0] 110,.bld 112 5 hb hk hj,.blk hf (Ab c) 78]) rfl (wa rfl (Ak (Ai (Ad (wm rfl (wm rfl (wm rfl (wm rfl (wm rfl (wm rfl (ck gh λhu gi=>wv (Bb rfl rfl hu) (wm rfl (wm rfl (wv (Bb rfl rfl hu) (ck gi λgj gk=>ck gk λgl gm=>wv (r:=AX 4 (AE Ab (List.take (Bw (ha+hh.1)-Bw ha) (List.drop (Bw ha) v)))) (Pd BY Co rfl rfl rfl rfl gj gl) (ob gm λhw gn gp=>UI (rs:=[rS ([]:Af),AX 4 (AE Ab (List.take (Bw (ha+hh.1)-Bw ha) (List.drop (Bw ha) v)))]) (Hin:=[.blk hd [rB hi] 4,.blk he [rP hb 0] 110,.bld 112 5 hb hk hj,.blk hf (Ab c) 78]) (Hr:=[.blk h1 (Bf hh.2.1) 133]) Tryz.call124 rfl rfl ((A0 (i:=1) rfl).trans (Aem _ ((A0 (i:=1) rfl).trans (Aem _ ((A0 (i:=1) rfl).trans (Aem _ ((A0 (i:=1) rfl).trans (Aem _ (Ael _))))))))) (hx hd he hb hk hf ([]:Af) (List.take (Bw (ha+hh.1)-Bw ha) (List.drop (Bw ha) v)) hi hj c hw gn) rfl ?_)))))))))))))))));rintro _ _ ⟨h3,rfl,rfl⟩;refine wv (Cc rfl) (Ak (cz gp rfl (λgq gr=>?_) (λgq gs=>?_)))
    ·refine As (Ac (Ay (Ac (Ac (AY ?_)))));have gt:=Bt gr hl hr;refine Ay ?_;obtain rfl:=Au gt;exact Ar (Wc Tryz.results123) (sC (sC (sC (sC (sS sN))))) ⟨h3,rfl,rfl⟩
    ·refine Am (AJ (Ag (wm rfl (wm rfl (wv (Bb rfl rfl hu) (wa rfl (Aj (AA (AJ (Ag (ck gs λgu gv=>wv (Bb rfl rfl gu) (wm rfl (Aj ?_)))))))))))));have gw:=Be gv hl;exact Av (A5 (hy,(ha+hh.1,ho+1,hw.2.1,hw.2.2),h3) ⟨gw,Aeo _⟩ (AD.c5 rfl rfl rfl rfl rfl AD.nil) (sC (sC (sC (sC (sS sN))))))
  ·refine Bq (Ax ?_);have gx:=BL hC hl hr;exact Ax (Bd (A5 ((hi,hj),hk) gx AD.nil (sC (sC (sC (sC sN))))))
 ·rintro⟨⟨h4,h5⟩,h6⟩ hq;refine Cl (l':=[]) (H':=[.blk hd [rB h4] 4,.blk he [rP hb 0] 110,.bld 112 5 hb h6 h5,.blk hf (Ab c) 78]) rfl rfl ?_;replace hq:Ij h4 h5=some r:=hq;unfold Ij at hq;refine Bc ?_;obtain rfl:=Au hq;exact Ih (Wc Tryz.results123) (sC (sC (sC (sC sN)))) ⟨h6,rfl,rfl⟩
theorem Ii:∀F:Nat,(∀(ha:Nat) (hb:Value) (l:Af) (v:(List Aa)) (r:Af),GQ F l v=some r→Fn Tryz.prog GE 87 [rP ha 0,AX 4 (AE Ab v)] [.bld 112 5 ha hb l] (λR H=>∃w0b:Value,R=rv (.tuple #[])∧H=[.bld 112 5 ha w0b r]))∧(∀(hd:Nat) (he:Nat) (ha:Nat) (hb:Value) (hf:Nat) (key:Af) (x:(List Aa)) (first:Bool) (l:Af) (c:Aa) (r:Bool×Bool×Af),Gh F key x first l c=some r→Fn Tryz.prog GE 124 [rS key,AX 4 (AE Ab x),rP hd 0,rP he 0,rP hf 0] [.blk hd [rB first] 4,.blk he [rP ha 0] 110,.bld 112 5 ha hb l,.blk hf (Ab c) 78] (λR H=>∃w3b:Value,R=rB r.1∧H=[.blk hd [rB r.2.1] 4,.blk he [rP ha 0] 110,.bld 112 5 ha w3b r.2.2,.blk hf (Ab c) 78]))∧(∀(hd:Nat) (he:Nat) (ha:Nat) (hb:Value) (hf:Nat) (v:(List Aa)) (first:Bool) (l:Af) (c:Aa) (r:Bool×Af),HB F v first l c=some r→Fn Tryz.prog GE 123 [AX 4 (AE Ab v),rv (.func (.func 124) #[] #[(.pointer (some ⟨hd,0,none⟩)),(.pointer (some ⟨he,0,none⟩)),(.pointer (some ⟨hf,0,none⟩))])] [.blk hd [rB first] 4,.blk he [rP ha 0] 110,.bld 112 5 ha hb l,.blk hf (Ab c) 78] (λR H=>∃w1_1b:Value,R=rv (.tuple #[])∧H=[.blk hd [rB r.1] 4,.blk he [rP ha 0] 110,.bld 112 5 ha w1_1b r.2,.blk hf (Ab c) 78]))
  | 0=>⟨(λ_ _ _ _ _ h=>by simp[GQ] at h),(λ_ _ _ _ _ _ _ _ _ _ _ h=>by simp[Gh] at h),(λ_ _ _ _ _ _ _ _ _ _ h=>by simp[HB] at h)⟩
  | nn+1=>⟨(λha hb l v r h=>VO nn (Gh nn) (HB nn) (Ii nn).2.1 (Ii nn).2.2 ha hb l v r (by rw[GQ] at h;exact h)),(λhd he ha hb hf key x first l c r h=>TK nn (GQ nn) (Ii nn).1 hd he ha hb hf key x first l c r (by rw[Gh] at h;exact h)),(λhd he ha hb hf v first l c r h=>TJ nn (Gh nn) (Ii nn).2.1 hd he ha hb hf v first l c r (by rw[HB] at h;exact h))⟩
theorem XE (F:Nat)(ha:Nat)(hb:Value)(l:Af)(v:(List Aa))(r:Af)(h:GQ F l v=some r):Fn Tryz.prog GE 87 [rP ha 0,AX 4 (AE Ab v)] [.bld 112 5 ha hb l] (λR H=>∃w0b:Value,R=rv (.tuple #[])∧H=[.bld 112 5 ha w0b r]):=(Ii F).1 ha hb l v r h
theorem VT (F:Nat)(v:(List Aa))(r:Af×Int)(h:LT F v=some r):Fn Tryz.prog GE 65 [AX 4 (AE Ab v)] [] (λR H=>R=Ct [rS r.1,Al r.2]∧H=[]):=by
 refine enter (n:=14) Tryz.func65 rfl Tryz.ntmps65 rfl (λw Z=>?_);unfold LT at h;refine Ad (wv (r:=rS ([]:Af)) (Aw rfl) (wa rfl (Ak (Ai (Ad (wm rfl (ob h λr1 e3 h2=>Cu Tryz.call80 (OJ F v r1 e3) rfl (wa rfl (Bm (wm rfl (wv (CV rfl rfl) (Ak (cz h2 rfl (λc4 h5=>?_) (λc4 h6=>?_))))))))))))))
 ·refine Ad (wm rfl (wv (r:=rS ([]:Af)) (Aw rfl) (wa rfl (Ak (As (Ac ?_))))));obtain rfl:=Au h5;exact Ar (C6 Tryz.results65 (A7 rfl) (A7 rfl)) sN ⟨rfl,rfl⟩
 ·refine Am (AJ (Ad (Cd (cs:=[rv (.pointer none),rv (.slice none 0 0)]) Tryz.zeroValue112 rfl rfl (λb7=>?_))));refine Bm (wm rfl (WL.tobld (te:=5) (i:=0) rfl (ob h6 λr8 hb h9=>Gj (Hr:=[]) X4 (XE F b7 (.slice none 0 0) ([]:Af) v r8 hb) rfl (Ael _) rfl ?_)));rintro _ _ ⟨ha,rfl,rfl⟩;refine Bm (ck h9 λhd he=>CA (rs:=[rP b7 0]) (Hin:=[.bld 112 5 b7 ha r8]) (Hr:=[]) Tryz.call88 rfl (Ael _) (Xr b7 ha r8  hd) rfl ?_);rintro _ _ ⟨rfl,rfl⟩;refine wa rfl (wa rfl (Ak (As ?_)));obtain rfl:=Au he;exact Ar (C6 Tryz.results65 (A7 rfl) (A7 rfl)) sN ⟨rfl,rfl⟩
end Go.Proofs.YtjfnokmpfekniaaGreatDoor.Q
namespace Go.Proofs.YtjfnokmpfekniaaGreatDoor
open Go
set_option linter.unusedVariables false
structure Az where
 fS:Af
 fAt:Int
 fCells:(List Aa)
 fGreat:Bool
 deriving DecidableEq,Inhabited
def Hh (s:Af)(p:Af):Option (Bool):=
 AQ (imp (decide ((p.length:Int)≤(s.length:Int))) (Gr (p.length:Int) (s.length:Int)))<|some ((decide ((p.length:Int)≤(s.length:Int)))&&(decide ((List.take (Int.toNat (p.length:Int)) s)=p)))
def ER (s:Af)(p:Af):Option (Bool):=
 Br (Hh s p) λr1=>some r1
def Ew (q:Az)(s:Af):Option (Bool×Az):=
 AQ (Gr q.fAt (q.fS.length:Int))<|Br (ER (List.drop (Int.toNat q.fAt) q.fS) s) λr3=>Bi (!r3) (some (false,q)) (AQ (Bs .i64 (q.fAt+(s.length:Int)))<|some (true,(Az.mk q.fS (q.fAt+(s.length:Int)) q.fCells q.fGreat)))
def G7 (ha:(List Int))(hb:Int)(hd:Int):Option (Stp ((List Int)×Int) (Out (Af×Bool×Az) (Int))):=
 AQ (Dw 1 (ha.length+([hb]:List Int).length))<|some (.next (ha++([hb]:List Int),hd))
def EV (r1:Bool×Az)(hb:(List Int))(ha:Int):Option (Stp ((List Int)×Int) (Out (Af×Bool×Az) (Int))):=
 Bi (decide (ha<(r1.2.fS.length:Int))) (AQ (Cw ha (r1.2.fS.length:Int))<|AQ (Bs .i64 (ha+1))<|Bi (decide ((AM r1.2.fS ha)=34)) (some (.out (.ret (Nd hb,true,(Az.mk r1.2.fS (ha+1) r1.2.fCells r1.2.fGreat))))) (Bi (((decide ((AM r1.2.fS ha)<32))||(decide (126<(AM r1.2.fS ha))))) (some (.out (.ret (([]:Af),false,(Az.mk r1.2.fS (ha+1) r1.2.fCells r1.2.fGreat))))) (Bi (decide ((AM r1.2.fS ha)=92)) (AQ (imp (!(decide ((r1.2.fS.length:Int)≤(ha+1)))) (Cw (ha+1) (r1.2.fS.length:Int)))<|Bi (((decide ((r1.2.fS.length:Int)≤(ha+1)))||((!decide ((AM r1.2.fS (ha+1))=34))&&(!decide ((AM r1.2.fS (ha+1))=92))))) (some (.out (.ret (([]:Af),false,(Az.mk r1.2.fS (ha+1) r1.2.fCells r1.2.fGreat))))) (AQ (Cw (ha+1) (r1.2.fS.length:Int))<|AQ (Bs .i64 ((ha+1)+1))<|G7 hb (AM r1.2.fS (ha+1)) ((ha+1)+1))) (G7 hb (AM r1.2.fS ha) (ha+1))))) (some (.out (.go ha)))
def IT (r1:Bool×Az)(ha:Int):Option (Af×Bool×Az):=
 some (([]:Af),false,(Az.mk r1.2.fS ha r1.2.fCells r1.2.fGreat))
def OC (F:Nat)(q:Az):Option (Af×Bool×Az):=
 Br (Ew q ([34]:Af)) λr1=>Bi (!r1.1) (some (([]:Af),false,r1.2)) (Br (BJ (λσ=>EV r1 σ.1 σ.2) F (([]:List Int),r1.2.fAt)) (BE λν=>IT r1 ν))
def EW (r1:Bool×Az)(ha:Int):Option (Stp (Int) (Out (Bool×Az) (Int))):=
 AQ (imp (decide (ha<(r1.2.fS.length:Int))) (Cw ha (r1.2.fS.length:Int)))<|Bi (((decide (ha<(r1.2.fS.length:Int)))&&((decide (48≤(AM r1.2.fS ha)))&&(decide ((AM r1.2.fS ha)≤57))))) (AQ (Bs .i64 (ha+1))<|some (.next (ha+1))) (some (.out (.go ha)))
def Kh (q:Az)(r1:Bool×Az)(ha:Int):Option (Bool×Az):=
 AQ (Gr q.fAt ha)<|AQ (Gr ha (r1.2.fS.length:Int))<|AQ (Dw 1 (List.take (Int.toNat ha-Int.toNat q.fAt) (List.drop (Int.toNat q.fAt) r1.2.fS)).length)<|Bi (((decide ((BI (List.take (Int.toNat ha-Int.toNat q.fAt) (List.drop (Int.toNat q.fAt) r1.2.fS)))=1))||(decide (r1.2.fAt=ha)))) (some (false,(Az.mk r1.2.fS ha r1.2.fCells r1.2.fGreat))) (AQ (Dw 40 (r1.2.fCells.length+([(Aa.mk 3 (AL (List.take (Int.toNat ha-Int.toNat q.fAt) (List.drop (Int.toNat q.fAt) r1.2.fS))) ([]:Af) 0)]:List Aa).length))<|some (true,(Az.mk r1.2.fS ha (r1.2.fCells++([(Aa.mk 3 (AL (List.take (Int.toNat ha-Int.toNat q.fAt) (List.drop (Int.toNat q.fAt) r1.2.fS))) ([]:Af) 0)]:List Aa)) (r1.2.fGreat||(!decide ((BI (List.take (Int.toNat ha-Int.toNat q.fAt) (List.drop (Int.toNat q.fAt) r1.2.fS)))=0))))))
def OD (F:Nat)(q:Az):Option (Bool×Az):=
 Br (Ew q ([45]:Af)) λr1=>Br (BJ (λσ=>EW r1 σ) F r1.2.fAt) (BE λν=>Kh q r1 ν)
def Ey (ha:Af)(hb:Int)(hd:(List Aa))(he:Bool):Option (Bool×Az):=
 some (true,(Az.mk ha hb hd he))
def IU (F:Nat)(q:Az):Option (Bool×Az):=
 Br (Ew q ([110,117,108,108]:Af)) λhd=>Bi (hd.1) (AQ (Dw 40 (hd.2.fCells.length+([(Aa.mk 1 0 ([]:Af) 0)]:List Aa).length))<|Ey hd.2.fS hd.2.fAt (hd.2.fCells++([(Aa.mk 1 0 ([]:Af) 0)]:List Aa)) hd.2.fGreat) (Br (Ew hd.2 ([116,114,117,101]:Af)) λhe=>Bi (he.1) (AQ (Dw 40 (he.2.fCells.length+([(Aa.mk 2 1 ([]:Af) 0)]:List Aa).length))<|Ey he.2.fS he.2.fAt (he.2.fCells++([(Aa.mk 2 1 ([]:Af) 0)]:List Aa)) he.2.fGreat) (Br (Ew he.2 ([102,97,108,115,101]:Af)) λha=>Bi (ha.1) (AQ (Dw 40 (ha.2.fCells.length+([(Aa.mk 2 0 ([]:Af) 0)]:List Aa).length))<|Ey ha.2.fS ha.2.fAt (ha.2.fCells++([(Aa.mk 2 0 ([]:Af) 0)]:List Aa)) ha.2.fGreat) (AQ (Gr ha.2.fAt (ha.2.fS.length:Int))<|Br (ER (List.drop (Int.toNat ha.2.fAt) ha.2.fS) ([34]:Af)) λhg=>Bi (hg) (Br (OC F ha.2) λhb=>Bi (!hb.2.1) (some (false,hb.2.2)) (AQ (Dw 40 (hb.2.2.fCells.length+([(Aa.mk 4 0 hb.1 0)]:List Aa).length))<|Ey hb.2.2.fS hb.2.2.fAt (hb.2.2.fCells++([(Aa.mk 4 0 hb.1 0)]:List Aa)) hb.2.2.fGreat)) (Br (OD F ha.2) λhf=>some (hf.1,hf.2)))))
def Gm (hf:Az→Option (Bool×Az))(x16:(List Aa))(hd:Int)(hg:Af)(hh:Int)(hi:(List Aa))(hj:Bool):Option (Stp (Int×Af×Int×(List Aa)×Bool) (Out (Bool×Az) (Unit))):=
 Br (hf (Az.mk hg hh hi hj)) λha=>Bi (!ha.1) (some (.out (.ret (false,ha.2)))) (AQ (Cw (x16.length:Int) (ha.2.fCells.length:Int))<|MJ (List.set ha.2.fCells (Int.toNat (x16.length:Int)) (Aa.mk ((Aq ha.2.fCells (x16.length:Int)).fKind) ((Aq ha.2.fCells (x16.length:Int)).fInt) ((Aq ha.2.fCells (x16.length:Int)).fStr) hd)) λhk=>Br (Ew (Az.mk ha.2.fS ha.2.fAt hk ha.2.fGreat) ([93]:Af)) λhe=>Bi (he.1) (some (.out (.ret (true,he.2)))) (Br (Ew he.2 ([44]:Af)) λhb=>Bi (!hb.1) (some (.out (.ret (false,hb.2)))) (AQ (Bs .i64 (hd+1))<|some (.next (hd+1,hb.2.fS,hb.2.fAt,hb.2.fCells,hb.2.fGreat)))))
def Il :Option (Bool×Az):=
 none
def C2 (hk:Az→Option (Bool×Az))(x16:(List Aa))(hd:Int)(he:Af×Bool×Az)(hn:Bool)(ho:Bool)(hl:Bool)(hh:Af)(hi:Int)(hf:(List Aa))(hj:Bool):Option (Stp (Af×Int×Af×Int×(List Aa)×Bool) (Out (Bool×Az) (Unit))):=
 Bi (hl) (some (.out (.ret (false,(Az.mk hh hi hf hj))))) (AQ (Dw 40 (hf.length+([(Aa.mk 4 0 he.1 0)]:List Aa).length))<|Br (hk (Az.mk hh hi (hf++([(Aa.mk 4 0 he.1 0)]:List Aa)) hj)) λha=>Bi (!ha.1) (some (.out (.ret (false,ha.2)))) (AQ (Cw (x16.length:Int) (ha.2.fCells.length:Int))<|MJ (List.set ha.2.fCells (Int.toNat (x16.length:Int)) (Aa.mk ((Aq ha.2.fCells (x16.length:Int)).fKind) ((Aq ha.2.fCells (x16.length:Int)).fInt) ((Aq ha.2.fCells (x16.length:Int)).fStr) hd)) λhm=>Br (Ew (Az.mk ha.2.fS ha.2.fAt hm ha.2.fGreat) ([125]:Af)) λhg=>Bi (hg.1) (some (.out (.ret (true,hg.2)))) (Br (Ew hg.2 ([44]:Af)) λhb=>Bi (!hb.1) (some (.out (.ret (false,hb.2)))) (AQ (Bs .i64 (hd+1))<|some (.next (he.1,hd+1,hb.2.fS,hb.2.fAt,hb.2.fCells,hb.2.fGreat))))))
def Gl (F:Nat)(hg:Az→Option (Bool×Az))(x16:(List Aa))(hb:Af)(hd:Int)(hh:Af)(hi:Int)(hj:(List Aa))(hk:Bool):Option (Stp (Af×Int×Af×Int×(List Aa)×Bool) (Out (Bool×Az) (Unit))):=
 Br (OC F (Az.mk hh hi hj hk)) λha=>Bi (!ha.2.1) (C2 hg x16 hd ha true true true ha.2.2.fS ha.2.2.fAt ha.2.2.fCells ha.2.2.fGreat) (Bi (decide (1<hd)) (Bi (BR ha.1 hb||decide (ha.1=hb)) (C2 hg x16 hd ha (BR ha.1 hb||decide (ha.1=hb)) (BR ha.1 hb||decide (ha.1=hb)) true ha.2.2.fS ha.2.2.fAt ha.2.2.fCells ha.2.2.fGreat) (Br (Ew ha.2.2 ([58]:Af)) λhe=>C2 hg x16 hd ha (BR ha.1 hb||decide (ha.1=hb)) (BR ha.1 hb||decide (ha.1=hb)) (!he.1) he.2.fS he.2.fAt he.2.fCells he.2.fGreat)) (Br (Ew ha.2.2 ([58]:Af)) λhf=>C2 hg x16 hd ha false false (!hf.1) hf.2.fS hf.2.fAt hf.2.fCells hf.2.fGreat))
def Ik :Option (Bool×Az):=
 none
def Ex (F:Nat)(hg:Az→Option (Bool×Az))(r1:Bool×Az)(hi:Bool)(hd:Af)(he:Int)(x16:(List Aa))(hf:Bool):Option (Bool×Az):=
 Bi (hi) (Br (IU F (Az.mk hd he x16 hf)) λhh=>some (hh.1,hh.2)) (Bi (r1.1) (AQ (Dw 40 (x16.length+([(Aa.mk 5 0 ([]:Af) 0)]:List Aa).length))<|Br (Ew (Az.mk hd he (x16++([(Aa.mk 5 0 ([]:Af) 0)]:List Aa)) hf) ([93]:Af)) λha=>Bi (ha.1) (some (true,ha.2)) (Br (BJ (λσ=>Gm hg x16 σ.1 σ.2.1 σ.2.2.1 σ.2.2.2.1 σ.2.2.2.2) F (1,ha.2.fS,ha.2.fAt,ha.2.fCells,ha.2.fGreat)) (BE λν=>Il ))) (AQ (Dw 40 (x16.length+([(Aa.mk 6 0 ([]:Af) 0)]:List Aa).length))<|Br (Ew (Az.mk hd he (x16++([(Aa.mk 6 0 ([]:Af) 0)]:List Aa)) hf) ([125]:Af)) λhb=>Bi (hb.1) (some (true,hb.2)) (Br (BJ (λσ=>Gl F hg x16 σ.1 σ.2.1 σ.2.2.1 σ.2.2.2.1 σ.2.2.2.2.1 σ.2.2.2.2.2) F (([]:Af),1,hb.2.fS,hb.2.fAt,hb.2.fCells,hb.2.fGreat)) (BE λν=>Ik ))))
def LR (F:Nat)(hb:Az→Option (Bool×Az))(q:Az):Option (Bool×Az):=
 Br (Ew q ([91]:Af)) λr1=>Bi (!r1.1) (Br (Ew r1.2 ([123]:Af)) λha=>Ex F hb r1 (!ha.1) ha.2.fS ha.2.fAt ha.2.fCells ha.2.fGreat) (Ex F hb r1 false r1.2.fS r1.2.fAt r1.2.fCells r1.2.fGreat)
def CB:Nat→Az→Option (Bool×Az)
 | 0,_=>none
 | nn+1,q=>LR nn (CB nn) q
def GR (F:Nat)(hb:Bool)(hf:Af)(hg:Int)(hd:(List Aa))(he:Bool):Option ((List Aa)×Int):=
 Bi (hb) (some (([]:List Aa),1)) (Bi (he) (some (([]:List Aa),2)) (Br (LW F hd) λha=>some (ha.1,ha.2)))
def LU (F:Nat)(s:Af):Option ((List Aa)×Int):=
 Bi (decide (4000<(s.length:Int))) (some (([]:List Aa),3)) (Br (CB F (Az.mk s 0 ([]:List Aa) false)) λha=>Bi (!ha.1) (GR F true ha.2.fS ha.2.fAt ha.2.fCells ha.2.fGreat) (GR F (!decide (ha.2.fAt=(s.length:Int))) ha.2.fS ha.2.fAt ha.2.fCells ha.2.fGreat))
end Go.Proofs.YtjfnokmpfekniaaGreatDoor
