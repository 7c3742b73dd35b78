/-
  Texts of the proof, put together: IdA, PlB, IdB, PlC, IdC, ShelfV, PlD, PlE, FwJ, IdR, QG, QO, RowQ, PQB, WQB, PVa, WVa, PVb, WVb, PVc, WVc, PVd.
-/
import Derived.Test.YtjfnokmpfekniaaGreatDoorKS1
import Derived.Test.YtjfnokmpfekniaaGreatDoorProg
import Derived.Lib.Bytealg
import Derived.Lib.AtoiAllCases
import Derived.Lib.ItoaNum
import Derived.Lib.ItoaLen
import Derived.Shelf.Strings.Builder1
import Derived.Shelf.Strings.Count
import Derived.Shelf.Strings.Search1
import Derived.Shelf.Strings.Search2
import Derived.Shelf.Strings.Search3
import Derived.Shelf.Small.Strs
import Derived.Shelf.LaysM
import Derived.Shelf.LaysC
import Derived.Lib.ItoaMem
import Derived.Deep.Slices
import Derived.ChangeArms
import Derived.DataReads
import Derived.Laws.Tables
import Derived.Lib.SmallJoins
namespace Go.Proofs.YtjfnokmpfekniaaGreatDoor
open Go Go.RowKit
set_option linter.unusedVariables false
set_option linter.unusedSimpArgs false
set_option maxRecDepth 100000
theorem Zx (c:Int)(w:World):Calls Tryz.prog 142 [.int .i32 (c)].toArray w (Mf w (.bool (Mp c))):=by
 refine Jf (n:=9) Tryz.func142 rfl Tryz.ntmps142 rfl (Ai (Ah (AD (Ax rfl) rfl (Ak (Az (Bd ?_))))));refine AK [(2,.bool (((decide ((97)≤(c)))&&(decide ((c)≤(122))))))] [] (φ:=True) ?_ (λhm1=>?_)
 ·refine Ah (AD (Al rfl) rfl (AD (H5 rfl rfl) rfl (AD (Al rfl) rfl (AS (decide ((97)≤(c))) (λh1=>?_) (λh1=>?_)))))
  ·have g1:=h1;try simp only[Ac9,AcA] at g1
   refine Bt rfl rfl h1 (AD (Al rfl) rfl (Bt rfl rfl h1 (AD (M0 rfl rfl) rfl (AD (A1 rfl h1 rfl) rfl (AD (Ax rfl) rfl (Ak ?_))))));exact Az (BS trivial ⟨fb (by simp[h1]),trivial⟩ .slnil)
  ·have g1:=h1;try simp only[Ac9,AcA] at g1
   refine AO rfl rfl h1 rfl (AO rfl rfl h1 rfl (AD (AC rfl h1 rfl) rfl (AD (Ax rfl) rfl (Ak ?_))));exact Az (BS trivial ⟨fb (by simp[h1]),trivial⟩ .slnil)
 refine Av (Au (BQ rfl rfl) ?_);exact K5 (by first | rfl | simp[])
theorem Aak (c:Int)(w:World):Calls Tryz.prog 143 [.int .i32 (c)].toArray w (Mf w (.bool (MC c))):=by
 refine Jf (n:=9) Tryz.func143 rfl Tryz.ntmps143 rfl (Ai (Ah (AD (Ax rfl) rfl (Ak (Az (Bd ?_))))));refine AK [(2,.bool (((decide ((48)≤(c)))&&(decide ((c)≤(57))))))] [] (φ:=True) ?_ (λhm3=>?_)
 ·refine Ah (AD (Al rfl) rfl (AD (H5 rfl rfl) rfl (AD (Al rfl) rfl (AS (decide ((48)≤(c))) (λh3=>?_) (λh3=>?_)))))
  ·have g3:=h3;try simp only[Ac9,AcA] at g3
   refine Bt rfl rfl h3 (AD (Al rfl) rfl (Bt rfl rfl h3 (AD (M0 rfl rfl) rfl (AD (A1 rfl h3 rfl) rfl (AD (Ax rfl) rfl (Ak ?_))))));exact Az (BS trivial ⟨fb (by simp[h3]),trivial⟩ .slnil)
  ·have g3:=h3;try simp only[Ac9,AcA] at g3
   refine AO rfl rfl h3 rfl (AO rfl rfl h3 rfl (AD (AC rfl h3 rfl) rfl (AD (Ax rfl) rfl (Ak ?_))));exact Az (BS trivial ⟨fb (by simp[h3]),trivial⟩ .slnil)
 refine Av (Au (BQ rfl rfl) ?_);exact K5 (by first | rfl | simp[])
theorem XH (c:Int)(w:World):Calls Tryz.prog 105 [.int .i32 (c)].toArray w (Mf w (.bool (Dr c))):=by
 refine Jf (n:=37) Tryz.func105 rfl Tryz.ntmps105 rfl (Ai (Ah (AD (Ax rfl) rfl (Ak (Az (Bd ?_))))));refine AK [(2,.bool (((Mp c)||((MC c)||(bif decide ((65)≤(c)) then((decide ((c)≤(90)))||((decide ((c)=(45)))||((decide ((c)=(95)))||((decide ((c)=(46)))||((decide ((c)=(58)))||(decide ((c)=(47)))))))) else((decide ((c)=(45)))||((decide ((c)=(95)))||((decide ((c)=(46)))||((decide ((c)=(58)))||(decide ((c)=(47))))))))))))] [] (φ:=True) ?_ (λhn=>?_)
 ·refine Ah (AD (Al rfl) rfl (CH Tryz.call142 rfl (λw hw=>Zx c w) rfl (AD (Al rfl) rfl (AS (Mp c) (λh5=>?_) (λh5=>?_)))))
  ·have g5:=h5;try simp only[Ac9,AcA] at g5
   refine AO rfl rfl h5 rfl (AO rfl rfl h5 rfl (AD (A1 rfl h5 rfl) rfl (AD (Al rfl) rfl (AO rfl rfl rfl rfl (AO rfl rfl rfl rfl (AO rfl rfl rfl rfl (GG rfl rfl rfl (GG rfl rfl rfl (AO rfl rfl rfl rfl (AD (A1 rfl rfl rfl) rfl (AD (Al rfl) rfl (AO rfl rfl rfl rfl (AO rfl rfl rfl rfl (AD (A1 rfl rfl rfl) rfl (AD (Al rfl) rfl (AO rfl rfl rfl rfl (AO rfl rfl rfl rfl (AD (A1 rfl rfl rfl) rfl (AD (Al rfl) rfl (AO rfl rfl rfl rfl (AO rfl rfl rfl rfl (AD (A1 rfl rfl rfl) rfl (AD (Al rfl) rfl ?_)))))))))))))))))))))));refine AO rfl rfl rfl rfl (AO rfl rfl rfl rfl (AD (A1 rfl rfl rfl) rfl (AD (Al rfl) rfl (AO rfl rfl rfl rfl (AO rfl rfl rfl rfl (AD (A1 rfl rfl rfl) rfl (AD (Ax rfl) rfl (Ak ?_))))))));exact Az (BS trivial ⟨fb (by simp[h5]),trivial⟩ .slnil)
  ·have g5:=h5;try simp only[Ac9,AcA] at g5
   refine Bt rfl rfl h5 (AD (Al rfl) rfl (Bt rfl rfl h5 (CH Tryz.call143 rfl (λw hw=>Aak c w) rfl (AD (AC rfl h5 rfl) rfl (AD (Al rfl) rfl (AS (MC c) (λh6=>?_) (λh6=>?_)))))))
   ·have g6:=h6;try simp only[Ac9,AcA] at g6
    refine AO rfl rfl h6 rfl (AO rfl rfl h6 rfl (AO rfl rfl h6 rfl (GG rfl rfl rfl (GG rfl rfl rfl (AO rfl rfl h6 rfl (AD (A1 rfl h6 rfl) rfl (AD (Al rfl) rfl (AO rfl rfl rfl rfl (AO rfl rfl rfl rfl (AD (A1 rfl rfl rfl) rfl (AD (Al rfl) rfl (AO rfl rfl rfl rfl (AO rfl rfl rfl rfl (AD (A1 rfl rfl rfl) rfl (AD (Al rfl) rfl (AO rfl rfl rfl rfl (AO rfl rfl rfl rfl (AD (A1 rfl rfl rfl) rfl (AD (Al rfl) rfl (AO rfl rfl rfl rfl (AO rfl rfl rfl rfl (AD (A1 rfl rfl rfl) rfl (AD (Al rfl) rfl ?_)))))))))))))))))))))));refine AO rfl rfl rfl rfl (AO rfl rfl rfl rfl (AD (A1 rfl rfl rfl) rfl (AD (Ax rfl) rfl (Ak ?_))));exact Az (BS trivial ⟨fb (by simp[h5,h6]),trivial⟩ .slnil)
   ·have g6:=h6;try simp only[Ac9,AcA] at g6
    refine Bt rfl rfl h6 (AD (Al rfl) rfl (Bt rfl rfl h6 (AD (H5 rfl rfl) rfl (Bt rfl rfl h6 (AD (Al rfl) rfl (AS (decide ((65)≤(c))) (λh7=>?_) (λh7=>?_)))))))
    ·have g7:=h7;try simp only[Ac9,AcA] at g7
     refine Bt rfl rfl h7 (AD (Al rfl) rfl (Bt rfl rfl h7 (AD (M0 rfl rfl) rfl (Bt rfl rfl h6 (AD (A1 rfl h7 rfl) rfl (AD (AC rfl h6 rfl) rfl (AD (Al rfl) rfl (AS (decide ((c)≤(90))) (λh8=>?_) (λh8=>?_)))))))))
     ·have g8:=h8;try simp only[Ac9,AcA] at g8
      refine AO rfl rfl h8 rfl (AO rfl rfl h8 rfl (AD (A1 rfl h8 rfl) rfl (AD (Al rfl) rfl (AO rfl rfl rfl rfl (AO rfl rfl rfl rfl (AD (A1 rfl rfl rfl) rfl (AD (Al rfl) rfl (AO rfl rfl rfl rfl (AO rfl rfl rfl rfl (AD (A1 rfl rfl rfl) rfl (AD (Al rfl) rfl (AO rfl rfl rfl rfl (AO rfl rfl rfl rfl (AD (A1 rfl rfl rfl) rfl (AD (Al rfl) rfl (AO rfl rfl rfl rfl (AO rfl rfl rfl rfl (AD (A1 rfl rfl rfl) rfl (AD (Ax rfl) rfl (Ak ?_))))))))))))))))))));exact Az (BS trivial ⟨fb (by simp[h5,h6,h7,h8]),trivial⟩ .slnil)
     ·have g8:=h8;try simp only[Ac9,AcA] at g8
      refine Bt rfl rfl h8 (AD (Al rfl) rfl (Bt rfl rfl h8 (AD (B6 rfl rfl) rfl (AD (AC rfl h8 rfl) rfl (AD (Al rfl) rfl (AS (decide ((c)=(45))) (λh9=>?_) (λh9=>?_)))))))
      ·have g9:=h9;try simp only[Ac9,AcA] at g9
       refine AO rfl rfl h9 rfl (AO rfl rfl h9 rfl (AD (A1 rfl h9 rfl) rfl (AD (Al rfl) rfl (AO rfl rfl rfl rfl (AO rfl rfl rfl rfl (AD (A1 rfl rfl rfl) rfl (AD (Al rfl) rfl (AO rfl rfl rfl rfl (AO rfl rfl rfl rfl (AD (A1 rfl rfl rfl) rfl (AD (Al rfl) rfl (AO rfl rfl rfl rfl (AO rfl rfl rfl rfl (AD (A1 rfl rfl rfl) rfl (AD (Ax rfl) rfl (Ak ?_))))))))))))))));exact Az (BS trivial ⟨fb (by simp[h5,h6,h7,h8,h9]),trivial⟩ .slnil)
      ·have g9:=h9;try simp only[Ac9,AcA] at g9
       refine Bt rfl rfl h9 (AD (Al rfl) rfl (Bt rfl rfl h9 (AD (B6 rfl rfl) rfl (AD (AC rfl h9 rfl) rfl (AD (Al rfl) rfl (AS (decide ((c)=(95))) (λhb=>?_) (λhb=>?_)))))))
       ·have hi:=hb;try simp only[Ac9,AcA] at hi
        refine AO rfl rfl hb rfl (AO rfl rfl hb rfl (AD (A1 rfl hb rfl) rfl (AD (Al rfl) rfl (AO rfl rfl rfl rfl (AO rfl rfl rfl rfl (AD (A1 rfl rfl rfl) rfl (AD (Al rfl) rfl (AO rfl rfl rfl rfl (AO rfl rfl rfl rfl (AD (A1 rfl rfl rfl) rfl (AD (Ax rfl) rfl (Ak ?_))))))))))));exact Az (BS trivial ⟨fb (by simp[h5,h6,h7,h8,h9,hb]),trivial⟩ .slnil)
       ·have hi:=hb;try simp only[Ac9,AcA] at hi
        refine Bt rfl rfl hb (AD (Al rfl) rfl (Bt rfl rfl hb (AD (B6 rfl rfl) rfl (AD (AC rfl hb rfl) rfl (AD (Al rfl) rfl (AS (decide ((c)=(46))) (λhe=>?_) (λhe=>?_)))))))
        ·have hj:=he;try simp only[Ac9,AcA] at hj
         refine AO rfl rfl he rfl (AO rfl rfl he rfl (AD (A1 rfl he rfl) rfl (AD (Al rfl) rfl (AO rfl rfl rfl rfl (AO rfl rfl rfl rfl (AD (A1 rfl rfl rfl) rfl (AD (Ax rfl) rfl (Ak ?_))))))));exact Az (BS trivial ⟨fb (by simp[h5,h6,h7,h8,h9,hb,he]),trivial⟩ .slnil)
        ·have hj:=he;try simp only[Ac9,AcA] at hj
         refine Bt rfl rfl he (AD (Al rfl) rfl (Bt rfl rfl he (AD (B6 rfl rfl) rfl (AD (AC rfl he rfl) rfl (AD (Al rfl) rfl (AS (decide ((c)=(58))) (λhg=>?_) (λhg=>?_)))))))
         ·have hk:=hg;try simp only[Ac9,AcA] at hk
          refine AO rfl rfl hg rfl (AO rfl rfl hg rfl (AD (A1 rfl hg rfl) rfl (AD (Ax rfl) rfl (Ak ?_))));exact Az (BS trivial ⟨fb (by simp[h5,h6,h7,h8,h9,hb,he,hg]),trivial⟩ .slnil)
         ·have hk:=hg;try simp only[Ac9,AcA] at hk
          refine Bt rfl rfl hg (AD (Al rfl) rfl (Bt rfl rfl hg (AD (B6 rfl rfl) rfl (AD (AC rfl hg rfl) rfl (AD (Ax rfl) rfl (Ak ?_))))));exact Az (BS trivial ⟨fb (by simp[h5,h6,h7,h8,h9,hb,he,hg]),trivial⟩ .slnil)
    ·have g7:=h7;try simp only[Ac9,AcA] at g7
     refine AO rfl rfl h7 rfl (AO rfl rfl h7 rfl (Bt rfl rfl h6 (AD (AC rfl h7 rfl) rfl (AD (AC rfl h6 rfl) rfl (AD (Al rfl) rfl (Bt rfl rfl rfl (AD (Al rfl) rfl (Bt rfl rfl rfl (AD (B6 rfl rfl) rfl (AD (AC rfl rfl rfl) rfl (AD (Al rfl) rfl (AS (decide ((c)=(45))) (λha=>?_) (λha=>?_)))))))))))))
     ·have hl:=ha;try simp only[Ac9,AcA] at hl
      refine AO rfl rfl ha rfl (AO rfl rfl ha rfl (AD (A1 rfl ha rfl) rfl (AD (Al rfl) rfl (AO rfl rfl rfl rfl (AO rfl rfl rfl rfl (AD (A1 rfl rfl rfl) rfl (AD (Al rfl) rfl (AO rfl rfl rfl rfl (AO rfl rfl rfl rfl (AD (A1 rfl rfl rfl) rfl (AD (Al rfl) rfl (AO rfl rfl rfl rfl (AO rfl rfl rfl rfl (AD (A1 rfl rfl rfl) rfl (AD (Ax rfl) rfl (Ak ?_))))))))))))))));exact Az (BS trivial ⟨fb (by simp[h5,h6,h7,ha]),trivial⟩ .slnil)
     ·have hl:=ha;try simp only[Ac9,AcA] at hl
      refine Bt rfl rfl ha (AD (Al rfl) rfl (Bt rfl rfl ha (AD (B6 rfl rfl) rfl (AD (AC rfl ha rfl) rfl (AD (Al rfl) rfl (AS (decide ((c)=(95))) (λhd=>?_) (λhd=>?_)))))))
      ·have hm:=hd;try simp only[Ac9,AcA] at hm
       refine AO rfl rfl hd rfl (AO rfl rfl hd rfl (AD (A1 rfl hd rfl) rfl (AD (Al rfl) rfl (AO rfl rfl rfl rfl (AO rfl rfl rfl rfl (AD (A1 rfl rfl rfl) rfl (AD (Al rfl) rfl (AO rfl rfl rfl rfl (AO rfl rfl rfl rfl (AD (A1 rfl rfl rfl) rfl (AD (Ax rfl) rfl (Ak ?_))))))))))));exact Az (BS trivial ⟨fb (by simp[h5,h6,h7,ha,hd]),trivial⟩ .slnil)
      ·have hm:=hd;try simp only[Ac9,AcA] at hm
       refine Bt rfl rfl hd (AD (Al rfl) rfl (Bt rfl rfl hd (AD (B6 rfl rfl) rfl (AD (AC rfl hd rfl) rfl (AD (Al rfl) rfl (AS (decide ((c)=(46))) (λhf=>?_) (λhf=>?_)))))))
       ·have g15:=hf;try simp only[Ac9,AcA] at g15
        refine AO rfl rfl hf rfl (AO rfl rfl hf rfl (AD (A1 rfl hf rfl) rfl (AD (Al rfl) rfl (AO rfl rfl rfl rfl (AO rfl rfl rfl rfl (AD (A1 rfl rfl rfl) rfl (AD (Ax rfl) rfl (Ak ?_))))))));exact Az (BS trivial ⟨fb (by simp[h5,h6,h7,ha,hd,hf]),trivial⟩ .slnil)
       ·have g15:=hf;try simp only[Ac9,AcA] at g15
        refine Bt rfl rfl hf (AD (Al rfl) rfl (Bt rfl rfl hf (AD (B6 rfl rfl) rfl (AD (AC rfl hf rfl) rfl (AD (Al rfl) rfl (AS (decide ((c)=(58))) (λhh=>?_) (λhh=>?_)))))))
        ·have g16:=hh;try simp only[Ac9,AcA] at g16
         refine AO rfl rfl hh rfl (AO rfl rfl hh rfl (AD (A1 rfl hh rfl) rfl (AD (Ax rfl) rfl (Ak ?_))));exact Az (BS trivial ⟨fb (by simp[h5,h6,h7,ha,hd,hf,hh]),trivial⟩ .slnil)
        ·have g16:=hh;try simp only[Ac9,AcA] at g16
         refine Bt rfl rfl hh (AD (Al rfl) rfl (Bt rfl rfl hh (AD (B6 rfl rfl) rfl (AD (AC rfl hh rfl) rfl (AD (Ax rfl) rfl (Ak ?_))))));exact Az (BS trivial ⟨fb (by simp[h5,h6,h7,ha,hd,hf,hh]),trivial⟩ .slnil)
 refine Av (Au (BQ rfl rfl) ?_);exact K5 (by simp only[Dr];by_cases h:65≤c<;>simp[h,Bool.or_assoc])
theorem Zo (m:Int)(w:World):Calls Tryz.prog 99 [.int .i64 (m)].toArray w (Mf w (.bool (Eb m))):=by
 refine Jf (n:=9) Tryz.func99 rfl Tryz.ntmps99 rfl (Ai (Ah (AD (Ax rfl) rfl (Ak (Az (Bd ?_))))));refine AK [(2,.bool (((decide ((-1000000000000)≤(m)))&&(decide ((m)≤(1000000000000))))))] [] (φ:=True) ?_ (λhd=>?_)
 ·refine Ah (AD (Al rfl) rfl (AD (M0 rfl rfl) rfl (AD (Al rfl) rfl (AS (decide ((-1000000000000)≤(m))) (λha=>?_) (λha=>?_)))))
  ·have hb:=ha;try simp only[Ac9,AcA] at hb
   refine Bt rfl rfl ha (AD (Al rfl) rfl (Bt rfl rfl ha (AD (M0 rfl rfl) rfl (AD (A1 rfl ha rfl) rfl (AD (Ax rfl) rfl (Ak ?_))))));exact Az (BS trivial ⟨fb (by first | (simp only[ha,AcQ,Adb,Adq,AcW,AcZ,Add,Adl,Adi,AcP,Ada,AcH,AcD,Ad7,Ad3,reduceIte,Adh];done) | simp[ha]),trivial⟩ .slnil)
  ·have hb:=ha;try simp only[Ac9,AcA] at hb
   refine AO rfl rfl ha rfl (AO rfl rfl ha rfl (AD (AC rfl ha rfl) rfl (AD (Ax rfl) rfl (Ak ?_))));exact Az (BS trivial ⟨fb (by first | (simp only[ha,AcQ,Adb,Adq,AcW,AcZ,Add,Adl,Adi,AcP,Ada,AcH,AcD,Ad7,Ad3,reduceIte,Adh];done) | simp[ha]),trivial⟩ .slnil)
 refine Av (Au (BQ rfl rfl) ?_);exact K5 (by first | rfl | simp[])
theorem Acu (p:List UInt8)(w:World):Calls Tryz.prog 79 [.string (B p)].toArray w (Mf w (.bool (Pd p))):=by
 refine Jf (n:=21) Tryz.func79 rfl Tryz.ntmps79 rfl (Ai (Ah (AD (Ax rfl) rfl (Ak (Az (Bd ?_))))));refine Ai (Ai (Ah (AD (Al rfl) rfl (UA Ce rfl rfl (λhd=>?_)))));refine Ak (Az (Bd ?_));refine A9 (Lp (S:=Nat) (λ(k:Nat)=>k≤p.length∧Bx M8 0 p=Bx M8 k (p.drop k)) (λ(k:Nat)=>[(0,.string (B (p))),(2,.bool (false)),(6,.pointer (some ⟨hd,0,none⟩))]) (λ(k:Nat)=>[.blk hd (.stringIter (B p) (k))]) (λ(k:Nat)=>p.length-k) (0) ?_ ⟨rfl,rfl,rfl,trivial⟩ (.cons_cons _ (.slnil)) ?_)
 ·exact⟨Adt _,by simp⟩
 rintro k hi0;refine Ai (Ah (Ww (i:=0) rfl rfl rfl (λhend=>?_) (λhj hg hi hh hlu39 hhu39 hwu39=>?_)))
 ·refine AD (AE rfl rfl) rfl (Ak (Az (Bd ?_)));refine Ai (DQ rfl rfl (Bl (As (As (AW (Az (Bd ?_)))))));refine AK [(2,.bool (((decide ((1)≤((p.length:Int))))&&(decide (((p.length:Int))≤(64))))))] [.blk hd (.stringIter (B p) (k))] (φ:=True) ?_ (λhk=>?_)
  ·refine Ah (AD (Al rfl) rfl (AD (Bj Ce rfl) rfl (AD (H5 rfl rfl) rfl (AD (Al rfl) rfl (AS (decide ((1)≤((p.length:Int)))) (λha=>?_) (λha=>?_))))))
   ·have he:=ha;try simp only[Ac9,AcA] at he
    refine Bt rfl rfl ha (AD (Al rfl) rfl (Bt rfl rfl ha (AD (Bj Ce rfl) rfl (Bt rfl rfl ha (AD (M0 rfl rfl) rfl (AD (A1 rfl ha rfl) rfl (AD (Ax rfl) rfl (Ak ?_))))))));exact Az (BS trivial ⟨fb (by first | (simp only[ha,AcQ,Adb,Adq,AcW,AcZ,Add,Adl,Adi,AcP,Ada,AcH,AcD,Ad7,Ad3,reduceIte,Adh];done) | simp[ha]),trivial⟩ (.cons_cons _ (.slnil)))
   ·have he:=ha;try simp only[Ac9,AcA] at he
    refine AO rfl rfl ha rfl (AO rfl rfl ha rfl (AO rfl rfl ha rfl (AD (AC rfl ha rfl) rfl (AD (Ax rfl) rfl (Ak ?_)))));exact Az (BS trivial ⟨fb (by first | (simp only[ha,AcQ,Adb,Adq,AcW,AcZ,Add,Adl,Adi,AcP,Ada,AcH,AcD,Ad7,Ad3,reduceIte,Adh];done) | simp[ha]),trivial⟩ (.cons_cons _ (.slnil)))
  refine Av (Au (BQ rfl rfl) ?_);exact K5 (by rw[Abi hi0 hend])
 ·refine AD (AE rfl rfl) rfl (Ak (Az (Bd ?_)));refine Ai (Gx rfl rfl (Ar (Az (Bd ?_))));refine A9 (Ai (Ah (AD (AE rfl rfl) rfl (AD (Ax rfl) rfl (Ak (Az (Bd ?_)))))));refine Ai (Ah (AD (Al rfl) rfl (CH Tryz.call105 rfl (λw hw=>XH (hg:Int) w) rfl (AD (Ci rfl) rfl (Ak (Az (Bd ?_)))))));refine DZ (b:=!(Dr (hg:Int))) rfl (λhb=>?_) (λhb=>?_)
  ·have hf:=hb;try simp only[Ac9,AcA] at hf
   refine Ai (Ah (AD (Ax rfl) rfl (Ak (Az (Bd ?_)))));refine Av (Ay (Ac (Ay (Ac (Au (BQ rfl rfl) ?_)))));exact K5 (by rw[AbR hi0 hh hlu39 hhu39 hb])
  ·have hf:=hb;try simp only[Ac9,AcA] at hf
   refine Ar (AA (Az (A3 (k+hi) ?_ ⟨rfl,rfl,rfl,trivial⟩ (.cons_cons _ (.slnil)))));exact ZV hi0 hh hlu39 hhu39 hb
open Go
def Oh (p:List UInt8):Bool:=decide ((0:Int)<p.length)&&decide (Bm p 0=45)
def Ik (p:List UInt8):List UInt8:=if Oh p=true then p.drop 1 else p
theorem Y3 (p:List UInt8):(Ik p).length≤p.length:=by unfold Ik;split<;>simp
def En (_:Nat)(u:UInt8):Bool:=!(decide ((u.toNat:Int)<48)||decide (57<(u.toNat:Int)))
def Li (p:List UInt8):Bool:=!(decide (Ik p=[])||(decide (Bm (Ik p) 0=48)&&!decide (p=[48])))&&Bx En 0 (Ik p)
theorem HR {p:List UInt8}(h : ¬ p=[]):(0:Int)<p.length:=by
 cases p with
 | nil=>exact absurd rfl h
 | cons a r=>simp
theorem PR {p:List UInt8}{k:Nat}(h:(k:Int)<p.length):∃u,p[k]? =some u:=⟨p[k]'(by omega),AcL (by omega)⟩
theorem Y4 {p:List UInt8}{k:Nat}(hi:k≤p.length∧Bx En 0 p=Bx En k (p.drop k))(h:(k:Int)<p.length)(ht:(decide (Bm p k<48)||decide (57<Bm p k))=false) :
  (k+1≤p.length∧Bx En 0 p=Bx En (k+1) (p.drop (k+1)))∧p.length-(k+1)<p.length-k:=by
 obtain⟨u,hu⟩:=PR h;rw[YK hu] at ht;exact Rq hi hu (by simp only[En,ht];rfl)
theorem Abp {p:List UInt8}{k:Nat}(hi:k≤p.length∧Bx En 0 p=Bx En k (p.drop k))(h:(k:Int)<p.length)(ht:(decide (Bm p k<48)||decide (57<Bm p k))=true):Bx En 0 p=false:=by
 obtain⟨u,hu⟩:=PR h;rw[YK hu] at ht;exact WJ hi hu (by simp only[En,ht];rfl)
theorem Aal {p:List UInt8}{k:Nat}(hi:k≤p.length∧Bx En 0 p=Bx En k (p.drop k))(h : ¬ (k:Int)<p.length):Bx En 0 p=true:=TE hi (by omega)
def BP (p:List UInt8):Int:=if Li p=true then(match Lib.atoiAll p with | .ok v=>if Eb v=true then 0 else 2 | _=>2) else 1
def By (p:List UInt8):Int:=if Li p=true then(match Lib.atoiAll p with | .ok v=>if Eb v=true then v else 0 | _=>0) else 0
theorem OQ:∀(l:List UInt8) (i acc:Nat),Bx En i l=true→(∃u,Lib.parseUint10 acc l = .ok u)∨Lib.parseUint10 acc l = .range
 | [],_,acc,_=>.inl ⟨acc,rfl⟩
 | c::r,i,acc,h=>by
  simp only[Bx,AcG] at h;have hc:48≤c.toNat∧c.toNat≤57:=by have:=h.1;simp[En] at this;omega
  unfold Lib.parseUint10;rw[Ad2 hc]
  split
  ·exact .inr rfl
  ·split
   ·exact .inr rfl
   ·exact OQ r _ _ h.2
theorem Ub {l:List UInt8}(hne:l≠[])(h:Bx En 0 l=true):(∃u,Lib.parseMag l = .ok u)∨Lib.parseMag l = .range:=by
 unfold Lib.parseMag;rw[Adp hne];exact OQ l 0 0 h
theorem Qm {e:Lib.NumEnd Nat}(h:(∃u,e = .ok u)∨e = .range):(∃v,Lib.signless e = .ok v)∨Lib.signless e = .range:=by
 rcases h with⟨u,rfl⟩ | rfl
 ·unfold Lib.signless
  by_cases h:9223372036854775808≤u
  ·exact .inr (by simp[h])
  ·exact .inl ⟨_,by simp[h];rfl⟩
 ·exact .inr rfl
theorem SR {e:Lib.NumEnd Nat}(h:(∃u,e = .ok u)∨e = .range):(∃v,Lib.signed e = .ok v)∨Lib.signed e = .range:=by
 rcases h with⟨u,rfl⟩ | rfl
 ·unfold Lib.signed
  by_cases h:9223372036854775808<u
  ·exact .inr (by simp[h])
  ·exact .inl ⟨_,by simp[h];rfl⟩
 ·exact .inr rfl
theorem YN {p:List UInt8}(h:Li p=true):(∃v,Lib.atoiAll p = .ok v∧-9223372036854775808≤v∧v≤9223372036854775807)∨Lib.atoiAll p = .range:=by
 have key:(∃v,Lib.atoiAll p = .ok v)∨Lib.atoiAll p = .range:=by
  simp only[Li,AcG,AcV,Adf,AcA] at h;obtain⟨⟨hne,_⟩,hall⟩:=h
  cases p with
  | nil=>simp[Ik,Oh] at hne
  | cons c r=>
   by_cases hc:c=45
   ·subst hc;have hd:Ik (45::r)=r:=by simp[Ik,Oh,Bm]
    rw[hd] at hne hall;rw[Lib.atoiAll_minus];exact SR (Ub hne hall)
   ·have hb : ¬ Bm (c::r) 0=45:=by
     simp only[Bm,Int.toNat_zero,List.getElem?_cons_zero,Adj];intro e;exact hc (UInt8.toNat_inj.1 (by simpa using(by omega:c.toNat=45)))
    have hd:Ik (c::r)=c::r:=by simp[Ik,Oh,hb]
    rw[hd] at hne hall;have ha:48≤c.toNat:=by
     simp only[Bx,AcG] at hall;have:=hall.1;simp[En] at this;omega
    rw[Lib.atoiAll_plain c r (by omega) (by omega)];exact Qm (Ub hne hall)
 rcases key with⟨v,hv⟩ | h
 ·exact .inl ⟨v,hv,Lib.atoiAll_bounds hv⟩
 ·exact .inr h
theorem Sh (m:Int)(h0 : -9223372036854775808≤m)(h1:m≤9223372036854775807):(Lib.itoa m).length≤21:=Lib.itoa_length_le m h0 h1
theorem VS (p:List UInt8)(hp:p.length≤281474976710656)(w:World):Calls Tryz.prog 97 [.string (B (p))].toArray w (Mf w (.bool (Li p))):=by
 refine Jf (n:=43) Tryz.func97 rfl Tryz.ntmps97 rfl (Ai (Ah (AD (Ax rfl) rfl (Ak (Az (Bd ?_))))));refine Ai (Ah (AD (Al rfl) rfl (AD (Ax rfl) rfl (Ak (Az (Bd ?_))))));refine AK [(0,.string (B (p))),(2,.bool (false)),(3,.string (B ((if ((decide ((0)<((p.length:Int))))&&(decide ((Bm p 0)=(45))))=true then List.drop (Int.toNat (1)) p else p))))] [] (φ:=True) ?_ (λh1=>?_)
 ·refine AK [(0,.string (B (p))),(2,.bool (false)),(3,.string (B (p))),(13,.bool (((decide ((0)<((p.length:Int))))&&(decide ((Bm p 0)=(45))))))] [] (φ:=True) ?_ (λh2=>?_)
  ·refine Ah (AD (Al rfl) rfl (AD (Bj Ce rfl) rfl (AD (C3 rfl rfl) rfl (AD (Al rfl) rfl (AS (decide ((0)<((p.length:Int)))) (λhd=>?_) (λhd=>?_))))))
   ·have hk:=hd;try simp only[Ac9,AcA] at hk
    have hl:=hd;try simp at hl
    refine Bt rfl rfl hd (AD (Al rfl) rfl (Bt rfl rfl hd (AD (Bq Ce rfl rfl (by first | omega | exact HR (by assumption)) (by first | omega | exact HR (by assumption))) rfl (Bt rfl rfl hd (AD (B6 rfl rfl) rfl (AD (A1 rfl hd rfl) rfl (Ak ?_)))))));exact Az (BS trivial ⟨rfl,rfl,rfl,fb (by first | (simp only[hd,AcQ,Adb,Adq,AcW,AcZ,Add,Adl,Adi,AcP,Ada,AcH,AcD,Ad7,Ad3,reduceIte,Adh];done) | simp[hd]),trivial⟩ .slnil)
   ·have hk:=hd;try simp only[Ac9,AcA] at hk
    have hl:=hd;try simp at hl
    refine AO rfl rfl hd rfl (AO rfl rfl hd rfl (AO rfl rfl hd rfl (AD (AC rfl hd rfl) rfl (Ak ?_))));exact Az (BS trivial ⟨rfl,rfl,rfl,fb (by first | (simp only[hd,AcQ,Adb,Adq,AcW,AcZ,Add,Adl,Adi,AcP,Ada,AcH,AcD,Ad7,Ad3,reduceIte,Adh];done) | simp[hd]),trivial⟩ .slnil)
  refine DZ (b:=((decide ((0)<((p.length:Int))))&&(decide ((Bm p 0)=(45))))) rfl (λhg=>?_) (λhg=>?_)
  ·have hm:=hg;try simp only[Ac9,AcA] at hm
   have hn:=hg;try simp at hn
   refine Ah (AD (Al rfl) rfl (AD (DG Ce rfl rfl (by first | omega | (simp;omega)) (by first | omega | (simp;omega))) rfl (AD (Ax rfl) rfl (Ak ?_))));exact Az (BS trivial ⟨rfl,rfl,fs (by first | (simp only[hg,AcQ,Adb,Adq,AcW,AcZ,Add,Adl,Adi,AcP,Ada,AcH,AcD,Ad7,Ad3,reduceIte,Adh];done) | simp[hg]),trivial⟩ .slnil)
  ·have hm:=hg;try simp only[Ac9,AcA] at hm
   have hn:=hg;try simp at hn
   refine Ar ?_;exact Az (BS trivial ⟨rfl,rfl,fs (by first | (simp only[hg,AcQ,Adb,Adq,AcW,AcZ,Add,Adl,Adi,AcP,Ada,AcH,AcD,Ad7,Ad3,reduceIte,Adh];done) | simp[hg]),trivial⟩ .slnil)
 have hdg:Ik p=(if ((decide ((0)<((p.length:Int))))&&(decide ((Bm p 0)=(45))))=true then List.drop (Int.toNat (1)) p else p):=rfl;have hdl:=Y3 p;rw[hdg] at hdl;generalize(if ((decide ((0)<((p.length:Int))))&&(decide ((Bm p 0)=(45))))=true then List.drop (Int.toNat (1)) p else p)=dg at hdg hdl ⊢;refine Ai (AK [(2,.bool (false)),(3,.string (B (dg))),(26,.bool (((decide ((dg)=(([]:List UInt8))))||((decide ((Bm dg 0)=(48)))&&(!(decide ((p)=(([48]:List UInt8)))))))))] [] (φ:=True) ?_ (λh3=>?_))
 ·refine Ah (AD (Al rfl) rfl (AD (EC rfl rfl) rfl (AD (Al rfl) rfl (AS (decide ((dg)=(([]:List UInt8)))) (λha=>?_) (λha=>?_)))))
  ·have ho:=ha;try simp only[Ac9,AcA] at ho
   have hq:=ha;try simp at hq
   refine AO rfl rfl ha rfl (AO rfl rfl ha rfl (AO rfl rfl ha rfl (AO rfl rfl ha rfl (GG rfl rfl rfl (GG rfl rfl rfl (AO rfl rfl ha rfl (AD (A1 rfl ha rfl) rfl (Ak ?_))))))));exact Az (BS trivial ⟨rfl,rfl,fb (by first | (simp only[ha,AcQ,Adb,Adq,AcW,AcZ,Add,Adl,Adi,AcP,Ada,AcH,AcD,Ad7,Ad3,reduceIte,Adh];done) | simp[ha]),trivial⟩ .slnil)
  ·have ho:=ha;try simp only[Ac9,AcA] at ho
   have hq:=ha;try simp at hq
   refine Bt rfl rfl ha (AD (Al rfl) rfl (Bt rfl rfl ha (AD (Bq Ce rfl rfl (by first | omega | exact HR (by assumption)) (by first | omega | exact HR (by assumption))) rfl (Bt rfl rfl ha (AD (B6 rfl rfl) rfl (Bt rfl rfl ha (AD (Al rfl) rfl (AS (decide ((Bm dg 0)=(48))) (λhe=>?_) (λhe=>?_)))))))))
   ·have hr:=he;try simp only[Ac9,AcA] at hr
    have hs:=he;try simp at hs
    refine Bt rfl rfl he (AD (Al rfl) rfl (Bt rfl rfl he (AD (JE rfl rfl) rfl (Bt rfl rfl ha (AD (A1 rfl he rfl) rfl (AD (AC rfl ha rfl) rfl (Ak ?_)))))));exact Az (BS trivial ⟨rfl,rfl,fb (by first | (simp only[ha,he,AcQ,Adb,Adq,AcW,AcZ,Add,Adl,Adi,AcP,Ada,AcH,AcD,Ad7,Ad3,reduceIte,Adh];done) | simp[ha,he]),trivial⟩ .slnil)
   ·have hr:=he;try simp only[Ac9,AcA] at hr
    have hs:=he;try simp at hs
    refine AO rfl rfl he rfl (AO rfl rfl he rfl (Bt rfl rfl ha (AD (AC rfl he rfl) rfl (AD (AC rfl ha rfl) rfl (Ak ?_)))));exact Az (BS trivial ⟨rfl,rfl,fb (by first | (simp only[ha,he,AcQ,Adb,Adq,AcW,AcZ,Add,Adl,Adi,AcP,Ada,AcH,AcD,Ad7,Ad3,reduceIte,Adh];done) | simp[ha,he]),trivial⟩ .slnil)
 refine DZ (b:=((decide ((dg)=(([]:List UInt8))))||((decide ((Bm dg 0)=(48)))&&(!(decide ((p)=(([48]:List UInt8)))))))) rfl (λhf=>?_) (λhf=>?_)
 ·have ht:=hf;try simp only[Ac9,AcA] at ht
  have hu:=hf;try simp at hu
  refine Ai (Ah (AD (Ax rfl) rfl (Ak (Az (Bd ?_)))));refine Av (Ac (Au (BQ rfl rfl) ?_));exact K5 (by simp only[Li,hdg,hf];rfl)
 ·have ht:=hf;try simp only[Ac9,AcA] at ht
  have hu:=hf;try simp at hu
  refine Ar (Az (Bd ?_));refine Ai (Ai (Ah (AD (Al rfl) rfl (AD (Bj Ce rfl) rfl (AD (Al rfl) rfl (Ak (Az (Bd ?_))))))));refine A9 (Lp (S:=Nat) (λ(k:Nat)=>k≤dg.length∧Bx En 0 dg=Bx En k (dg.drop k)) (λ(k:Nat)=>[(29,.int .i64 ((k:Int))),(3,.string (B (dg))),(28,.int .i64 ((dg.length:Int)))]) (λ(k:Nat)=>[]) (λ(k:Nat)=>dg.length-k) (0) ?_ ⟨fi (by first | rfl | (simp;done) | omega | (simp;omega)),rfl,rfl,trivial⟩ .slnil ?_)
  ·exact⟨Adt _,by simp⟩
  rintro k hi0;refine Ai (Ah (AD (Cj rfl rfl) rfl (Ak (Az (Bd ?_)))));refine Ai (DZ (b:=decide (((k:Int))<((dg.length:Int)))) rfl (λhh=>?_) (λhh=>?_))
  ·have hj:=hh;try simp only[Ac9,AcA] at hj
   have hw:=hh;try simp at hw
   refine Ar (Az (Bd ?_));refine Ai (A9 (Ai (Ah (AD (Al rfl) rfl (AD (Ax rfl) rfl (Ak (Az (Bd ?_))))))));refine AK [(3,.string (B (dg))),(4,.int .i64 ((k:Int))),(28,.int .i64 ((dg.length:Int))),(29,.int .i64 ((k:Int))),(30,.bool (decide (((k:Int))<((dg.length:Int))))),(31,.int .i64 ((k:Int))),(32,.string (B (dg))),(33,.int .i64 ((k:Int))),(34,.int .u8 (Bm dg (k:Int))),(35,.bool (decide ((Bm dg (k:Int))<(48)))),(36,.bool (decide ((Bm dg (k:Int))<(48)))),(41,.bool (((decide ((Bm dg (k:Int))<(48)))||(decide ((57)<(Bm dg (k:Int)))))))] [] (φ:=True) ?_ (λh4=>?_)
   ·refine Ah (AD (Al rfl) rfl (AD (Al rfl) rfl (AD (Bq Ce rfl rfl (by first | omega | exact HR (by assumption)) (by first | omega | exact HR (by assumption))) rfl (AD (Cj rfl rfl) rfl (AD (Al rfl) rfl (AS (decide ((Bm dg (k:Int))<(48))) (λhb=>?_) (λhb=>?_)))))))
    ·have hx:=hb;try simp only[Ac9,AcA] at hx
     have hy:=hb;try simp at hy
     refine AO rfl rfl hb rfl (AO rfl rfl hb rfl (AO rfl rfl hb rfl (AO rfl rfl hb rfl (AD (A1 rfl hb rfl) rfl (Ak ?_)))));exact Az (BS trivial ⟨rfl,rfl,rfl,rfl,rfl,rfl,rfl,rfl,rfl,rfl,rfl,fb (by first | (simp only[hf,hh,hb,AcQ,Adb,Adq,AcW,AcZ,Add,Adl,Adi,AcP,Ada,AcH,AcD,Ad7,Ad3,reduceIte,Adh];done) | simp[hf,hh,hb]),trivial⟩ .slnil)
    ·have hx:=hb;try simp only[Ac9,AcA] at hx
     have hy:=hb;try simp at hy
     refine Bt rfl rfl hb (AD (Al rfl) rfl (Bt rfl rfl hb (AD (Al rfl) rfl (Bt rfl rfl hb (AD (Bq Ce rfl rfl (by first | omega | exact HR (by assumption)) (by first | omega | exact HR (by assumption))) rfl (Bt rfl rfl hb (AD (C3 rfl rfl) rfl (AD (AC rfl hb rfl) rfl (Ak ?_)))))))));exact Az (BS trivial ⟨rfl,rfl,rfl,rfl,rfl,rfl,rfl,rfl,rfl,rfl,rfl,fb (by first | (simp only[hf,hh,hb,AcQ,Adb,Adq,AcW,AcZ,Add,Adl,Adi,AcP,Ada,AcH,AcD,Ad7,Ad3,reduceIte,Adh];done) | simp[hf,hh,hb]),trivial⟩ .slnil)
   refine DZ (b:=((decide ((Bm dg (k:Int))<(48)))||(decide ((57)<(Bm dg (k:Int)))))) rfl (λhi=>?_) (λhi=>?_)
   ·have hz:=hi;try simp only[Ac9,AcA] at hz
    have h0:=hi;try simp at h0
    refine Ai (Ah (AD (Ax rfl) rfl (Ak (Az (Bd ?_)))));refine Av (Ay (Ac (Ac (Ay (Ac (Au (BQ rfl rfl) ?_))))));exact K5 (by simp[Li,hdg,Abp hi0 hj hi])
   ·have hz:=hi;try simp only[Ac9,AcA] at hz
    have h0:=hi;try simp at h0
    refine Ar (AA (Az (Bd ?_)));refine Ah (AD (Bk rfl rfl (IntWalk.i64_in _ (by omega))) rfl (AD (Al rfl) rfl (Ak (Az (A3 (k+1) ?_ ⟨fi (by first | rfl | (simp;done) | omega | (simp;omega)),rfl,rfl,trivial⟩ .slnil)))));exact Y4 hi0 hj hi
  ·have hj:=hh;try simp only[Ac9,AcA] at hj
   have hw:=hh;try simp at hw
   refine Bl (As (As (AW (Az (Bd ?_)))));refine Ai (Ah (AD (Ax rfl) rfl (Ak (Az (Bd ?_)))));refine Av (Au (BQ rfl rfl) ?_);exact K5 (by simp only[Li,hdg,hf,Aal hi0 hj];rfl)
theorem Yl (m:Int)(h0 : -9223372036854775808≤m)(h1:m≤9223372036854775807)(w:World)(hE:U2 w):Calls Tryz.prog 67 [.int .i64 (m)].toArray w (Mf w (.string (B (Lib.itoa m)))):=by
 refine Jf (n:=5) Tryz.func67 rfl Tryz.ntmps67 rfl (Ai (Ah (AD (Ax rfl) rfl (Ak (Az (Bd ?_))))));refine Ai (Ah (AD (Al rfl) rfl (CH Tryz.call89 rfl (λw hw=>XX m (by omega) (by omega) w (hE.st0 hw)) rfl (AD (Ax rfl) rfl (Ak (Az (Bd ?_)))))));refine Av (Au (BQ rfl rfl) ?_);exact K5 (by first | rfl | simp[])
theorem Z2 (p:List UInt8)(hp:p.length≤281474976710656)(w:World)(hE:U2 w):Calls Tryz.prog 73 [.string (B (p))].toArray w (Mf w (.tuple #[.int .i64 (By p),.int .i64 (BP p)])):=by
 refine Jf (n:=22) Tryz.func73 rfl Tryz.ntmps73 rfl (Ai (Ah (AD (Ax rfl) rfl (AD (Ax rfl) rfl (Ak (Az (Bd ?_)))))));refine Ai (Ai (Ah (AD (Al rfl) rfl (CH Tryz.call97 rfl (λw hw=>VS p (by first | omega | (simp;done) | (simp;omega) | (simp at *;omega)) w) rfl (AD (Ci rfl) rfl (Ak (Az (Bd ?_))))))));refine DZ (b:=!(Li p)) rfl (λhb=>?_) (λhb=>?_)
 ·have hf:=hb;try simp only[Ac9,AcA] at hf
  have ha:=hb;try simp only[Ac9,AcA,AcG,Adu,AcV,AdD,Ad4,Adf,not_or,Int.not_lt,Int.not_le] at ha
  refine Ai (Ah (AD (Ax rfl) rfl (AD (Ax rfl) rfl (Ak (Az (Bd ?_))))));refine Av (Ac (Au (DC rfl rfl rfl) ?_));exact K5 (by simp[By,BP,ha])
 ·have hf:=hb;try simp only[Ac9,AcA] at hf
  have ha:=hb;try simp only[Ac9,AcA,AcG,Adu,AcV,AdD,Ad4,Adf,not_or,Int.not_lt,Int.not_le] at ha
  refine Ar (Az (Bd ?_));refine Ai (Ah (AD (Al rfl) rfl ?_));rcases YN (p:=p) (by assumption) with⟨av,hav,hal,hah⟩ | hav
  ·refine CH Tryz.call98 rfl (λw _=>Aat p (by first | omega | (simp;done) | (simp;omega) | (simp at *;omega)) av hav w) rfl (AD (Al rfl) rfl (AD (AE rfl rfl) rfl (AD (AE rfl rfl) rfl (AD (Ax rfl) rfl (AD (Ax rfl) rfl (Ak (Az (Bd ?_))))))));refine Ai (AK [(2,.int .i64 (0)),(3,.int .i64 (0)),(4,.int .i64 (av)),(20,.bool (!(Eb av)))] [] (φ:=True) ?_ (λhh=>?_))
   ·exact Ah (AD (Al rfl) rfl (AD (RI Tryz.underlying121 rfl) rfl (AD (Al rfl) rfl (Bt rfl rfl rfl (AD (Al rfl) rfl (Bt rfl rfl rfl (CH Tryz.call99 rfl (λw hw=>Zo av w) rfl (Bt rfl rfl rfl (AD (Ci rfl) rfl (AD (AC rfl rfl rfl) rfl (Ak (Az (BS trivial ⟨rfl,rfl,rfl,rfl,trivial⟩ .slnil)))))))))))))
   refine DZ (b:=!(Eb av)) rfl (λhd=>?_) (λhd=>?_)
   ·have hg:=hd;try simp only[Ac9,AcA] at hg
    have he:=hd;try simp only[Ac9,AcA,AcG,Adu,AcV,AdD,Ad4,Adf,not_or,Int.not_lt,Int.not_le] at he
    refine Ai (Ah (AD (Ax rfl) rfl (AD (Ax rfl) rfl (Ak (Az (Bd ?_))))));refine Av (Ac (Au (DC rfl rfl rfl) ?_));exact K5 (by simp[By,BP,hav,ha,he])
   ·have hg:=hd;try simp only[Ac9,AcA] at hg
    have he:=hd;try simp only[Ac9,AcA,AcG,Adu,AcV,AdD,Ad4,Adf,not_or,Int.not_lt,Int.not_le] at he
    refine Ar (Az (Bd ?_));refine Ai (Ah (AD (Al rfl) rfl (AD (Ax rfl) rfl (AD (Ax rfl) rfl (Ak (Az (Bd ?_)))))));refine Av (Au (DC rfl rfl rfl) ?_);exact K5 (by simp[By,BP,hav,ha,he])
  ·refine Zn Tryz.call98 rfl (λw hw=>Tz p (by first | omega | (simp;done) | (simp;omega) | (simp at *;omega)) hav w (hE.st0 hw)) rfl ?_;rintro _ _ ⟨am,at_,ab,rfl,rfl⟩;refine AD (Al rfl) rfl (AD (AE rfl rfl) rfl (AD (AE rfl rfl) rfl (AD (Ax rfl) rfl (AD (Ax rfl) rfl (Ak (Az (Bd ?_)))))));refine Ai (AK [(2,.int .i64 (0)),(3,.int .i64 (0)),(4,.int .i64 (am)),(20,.bool (true))] [] (φ:=True) ?_ (λhi=>?_))
   ·exact Ah (AD (Al rfl) rfl (AD (Z8 Tryz.underlying121 rfl) rfl (AD (Al rfl) rfl (AO rfl rfl rfl rfl (AO rfl rfl rfl rfl (AO rfl rfl rfl rfl (AD (A1 rfl rfl rfl) rfl (Ak (Az (BS trivial ⟨rfl,rfl,rfl,rfl,trivial⟩ .slnil))))))))))
   refine Gx rfl rfl (Ai (Ah (AD (Ax rfl) rfl (AD (Ax rfl) rfl (Ak (Az (Bd ?_)))))));refine Av (Ac (Au (DC rfl rfl rfl) ?_));exact K5 (by simp[By,BP,hav,ha])
end Go.Proofs.YtjfnokmpfekniaaGreatDoor
namespace Go.Proofs
open Go.Shelf
def Tryz.lays169_ren:Go.Shelf.Ren:=⟨fun | 169=>88 | n=>n,fun | 70=>110 | 9=>9 | 0=>0 | 72=>112 | 37=>94 | 127=>150 | 3=>3 | 5=>5 | n=>n,fun | n=>n⟩
theorem Tryz.lays169:Go.Proofs.Lays.n169 Tryz.prog Tryz.lays169_ren:={
 mixed:=by kernel_rfl
 f169:=Tryz.func88.trans (congrArg some (by kernel_rfl))
 t0:=Tryz.underlying0
 a0:=Tryz.isAgg0
 z0:=Tryz.sizeOf0
 v0:=Tryz.zeroValue0
 t3:=Tryz.underlying3
 a3:=Tryz.isAgg3
 z3:=Tryz.sizeOf3
 v3:=Tryz.zeroValue3
 t9:=Tryz.underlying9
 a9:=Tryz.isAgg9
 z9:=Tryz.sizeOf9
 v9:=Tryz.zeroValue9
 t37:=Tryz.underlying94
 a37:=Tryz.isAgg94
 z37:=Tryz.sizeOf94
 v37:=Tryz.zeroValue94
 t70:=Tryz.underlying110
 a70:=Tryz.isAgg110
 z70:=Tryz.sizeOf110
 v70:=Tryz.zeroValue110
 t72:=Tryz.underlying112
 a72:=Tryz.isAgg112
 z72:=Tryz.sizeOf112
 v72:=Tryz.zeroValue112
 t127:=Tryz.underlying150
 a127:=Tryz.isAgg150
 z127:=Tryz.sizeOf150
 v127:=Tryz.zeroValue150 }
theorem Tryz.Builder_Extra_169:Builder.Extra Tryz.prog Tryz.lays169_ren:={
 sizeBuilder:=by kernel_rfl
 liesBuilder:=by kernel_rfl
 t5:=Tryz.underlying5
 a5:=Tryz.isAgg5
 z5:=Tryz.sizeOf5
 v5:=Tryz.zeroValue5
 infoByte:=by kernel_rfl
 cellsByte:=by kernel_rfl
 sizeByte:=by kernel_rfl
 neB5:=by decide }
open Go.RowKit in
theorem Tryz.Builder_String_any (B b:Nat)(l:List UInt8)(w:World)(h:Lib.IsBuilder 112 5 B b (Lib.byteCells l) w)(hBw:B≤w.heap.size) :
  Calls Tryz.prog 88 #[.pointer (some ⟨b,0,none⟩)] w λe w'=>e = .returned (.string ⟨l.toArray⟩)∧Below B w w':=Any.Builder_String_any Tryz.lays169 Tryz.Builder_Extra_169 B b l w h hBw
def Tryz.lays138_ren:Go.Shelf.Ren:=⟨fun | 138=>164 | 195=>174 | 218=>175 | 143=>176 | 219=>183 | 217=>186 | 225=>187 | 224=>188 | 267=>189 | 266=>190 | 314=>191 | n=>n,fun | 9=>9 | 3=>3 | 4=>4 | 5=>5 | 0=>0 | 46=>109 | 146=>210 | 51=>116 | n=>n,fun | 1=>3 | n=>n⟩
theorem Tryz.lays138:Go.Proofs.Lays.n138 Tryz.prog Tryz.lays138_ren:={
 mixed:=by kernel_rfl
 f138:=Tryz.func164.trans (congrArg some (by kernel_rfl))
 f143:=Tryz.func176.trans (congrArg some (by kernel_rfl))
 f195:=Tryz.func174.trans (congrArg some (by kernel_rfl))
 f217:=Tryz.func186.trans (congrArg some (by kernel_rfl))
 f218:=Tryz.func175.trans (congrArg some (by kernel_rfl))
 f219:=Tryz.func183.trans (congrArg some (by kernel_rfl))
 f224:=Tryz.func188.trans (congrArg some (by kernel_rfl))
 f225:=Tryz.func187.trans (congrArg some (by kernel_rfl))
 f266:=Tryz.func190.trans (congrArg some (by kernel_rfl))
 f267:=Tryz.func189.trans (congrArg some (by kernel_rfl))
 f314:=Tryz.func191.trans (congrArg some (by kernel_rfl))
 t0:=Tryz.underlying0
 a0:=Tryz.isAgg0
 z0:=Tryz.sizeOf0
 v0:=Tryz.zeroValue0
 t3:=Tryz.underlying3
 a3:=Tryz.isAgg3
 z3:=Tryz.sizeOf3
 v3:=Tryz.zeroValue3
 t4:=Tryz.underlying4
 a4:=Tryz.isAgg4
 z4:=Tryz.sizeOf4
 v4:=Tryz.zeroValue4
 t5:=Tryz.underlying5
 a5:=Tryz.isAgg5
 z5:=Tryz.sizeOf5
 v5:=Tryz.zeroValue5
 t9:=Tryz.underlying9
 a9:=Tryz.isAgg9
 z9:=Tryz.sizeOf9
 v9:=Tryz.zeroValue9
 t46:=Tryz.underlying109
 a46:=Tryz.isAgg109
 z46:=Tryz.sizeOf109
 v46:=Tryz.zeroValue109
 t51:=Tryz.underlying116
 a51:=Tryz.isAgg116
 z51:=Tryz.sizeOf116
 v51:=Tryz.zeroValue116
 t146:=Tryz.underlying210
 a146:=Tryz.isAgg210
 z146:=Tryz.sizeOf210
 v146:=Tryz.zeroValue210
 g1:=by kernel_rfl }
open Go.RowKit Go.Lib in
theorem Tryz.strings_Count_one (s:ByteArray)(c:UInt8)(w:World) :
  Calls Tryz.prog 164 #[.string s,.string ⟨#[c]⟩] w λe w'=>e = .returned (.int .i64 (Lib.countByte s.data.toList c))∧w'=w:=Any.strings_Count_one Tryz.lays138 s c w
end Go.Proofs
namespace Go.Proofs.YtjfnokmpfekniaaGreatDoor
open Go
set_option linter.unusedVariables false
set_option linter.unusedSimpArgs false
theorem YR {f:Nat→UInt8→Bool}:∀{l:List UInt8} {i:Nat},(∀j,∀u∈l,f j u=true)→Bx f i l=true
 | [],_,_=>rfl
 | x::r,i,h=>by simp only[Bx,AcG];exact⟨h i x (by simp),YR λj u hu=>h j u (by simp[hu])⟩
theorem TK:∀(l:List UInt8) (acc v:Nat) (c:UInt8),Lib.parseUint10 acc l = .ok v→48≤c.toNat→c.toNat≤57→v<1844674407370955161→Lib.parseUint10 acc (l++[c]) = .ok (v*10+(c.toNat-48))
 | [],acc,v,c,h,h0,h1,hv=>by
  simp only[Lib.parseUint10,Lib.NumEnd.ok.injEq] at h;subst h;simp only[Adg,Lib.parseUint10];rw[Ad2 ⟨h0,h1⟩,Adp (by omega),Adp (by omega)]
 | x::r,acc,v,c,h,h0,h1,hv=>by
  simp only[Ads,Lib.parseUint10] at h ⊢
  split at h
  ·rename_i hx
   rw[Ad2 hx]
   split at h
   ·cases h
   ·rename_i hy
    rw[Adp hy]
    split at h
    ·cases h
    ·rename_i hz
     rw[Adp hz];exact TK r _ v c h h0 h1 hv
  ·cases h
theorem KZ {d:Nat}(h:d<10):(UInt8.ofNat (48+d)).toNat=48+d:=by
 simp[UInt8.toNat_ofNat'];omega
theorem Aao (u:Nat):∀c∈Lib.decDigits u,48≤c.toNat∧c.toNat≤57:=by
 induction u using Nat.strongRecOn with
 | ind u ih=>
  intro c hc;rw[Lib.decDigits] at hc
  split at hc
  ·simp only[Adm] at hc;subst hc;rw[KZ (by omega)];omega
  ·rcases List.mem_append.1 hc with hc | hc
   ·exact ih (u/10) (by omega) c hc
   ·simp only[Adm] at hc;subst hc;rw[KZ (by omega)];omega
theorem VT (u:Nat):u<18446744073709551610→Lib.parseUint10 0 (Lib.decDigits u) = .ok u:=by
 induction u using Nat.strongRecOn with
 | ind u ih=>
  intro hu;rw[Lib.decDigits]
  split
  ·rename_i h
   simp only[Lib.parseUint10];rw[KZ h,Ad2 (by omega),Adp (by omega),Adp (by omega)]
   congr 1;omega
  ·rename_i h
   have:=TK (Lib.decDigits (u/10)) 0 (u/10) (UInt8.ofNat (48+u % 10)) (ih (u/10) (by omega) (by omega)) (by rw[KZ (by omega)];omega) (by rw[KZ (by omega)];omega) (by omega);rw[this,KZ (by omega)]
   congr 1;omega
theorem Y5 (u:Nat):Lib.decDigits u≠[]:=by
 rw[Lib.decDigits];split<;>simp
theorem VU (u:Nat):1≤u→Bm (Lib.decDigits u) 0≠48:=by
 induction u using Nat.strongRecOn with
 | ind u ih=>
  intro hu;rw[Lib.decDigits]
  split
  ·rename_i h
   have:=KZ h;simp only[Bm,Int.toNat_zero,List.getElem?_cons_zero,Adj];rw[this];omega
  ·rename_i h
   have h1:=ih (u/10) (by omega) (by omega);have hne:=Y5 (u/10);unfold Bm at h1 ⊢;rw[show(0:Int).toNat=0 from rfl] at h1 ⊢
   rwa [AdE (by cases hd:Lib.decDigits (u/10) with | nil=>exact absurd hd hne | cons=>simp)]
theorem Aan (u:Nat)(h:u<10):Lib.decDigits u=[UInt8.ofNat (48+u)]:=by rw[Lib.decDigits];simp[h]
theorem XW {m:Int}(h0:0≤m):Lib.itoa m=Lib.decDigits m.toNat:=by
 have:=Lib.itoa_nonneg m.toNat
 rwa [show((m.toNat:Nat):Int)=m from by omega] at this
theorem VD {m:Int}(h0:0≤m)(h1:m≤1000000000000):BP (Lib.itoa m)=0∧By (Lib.itoa m)=m:=by
 rw[XW h0];generalize hu:m.toNat=u;have hub:u≤1000000000000:=by omega
 have hall:=Aao u;have hne:=Y5 u;have hd0:∃c r,Lib.decDigits u=c::r:=by cases h:Lib.decDigits u with | nil=>exact absurd h hne | cons c r=>exact⟨c,r,rfl⟩
 obtain⟨c,r,hcr⟩:=hd0;have hc:48≤c.toNat∧c.toNat≤57:=hall c (by simp[hcr]);have hs:Oh (Lib.decDigits u)=false:=by
  rw[hcr];have e:Bm (c::r) 0=c.toNat:=rfl;simp only[Oh,e,Ad4,AcA]
  right;omega
 have hdg:Ik (Lib.decDigits u)=Lib.decDigits u:=by simp[Ik,hs]
 have hdec:Li (Lib.decDigits u)=true:=by
  simp only[Li,hdg];have h2:Bx En 0 (Lib.decDigits u)=true:=YR λj x hx=>by
   have:=hall x hx;simp[En];omega
  rw[h2];have h3:decide (Lib.decDigits u=[])=false:=by simpa using hne
  rw[h3]
  by_cases hz:u=0
  ·subst hz;rw[Aan 0 (by omega)];rfl
  ·have:=VU u (by omega);simp[this]
 have hat:Lib.atoiAll (Lib.decDigits u) = .ok (u:Int):=by
  have h4:=VT u (by omega);rw[hcr] at h4 ⊢;rw[Lib.atoiAll_plain c r (by omega) (by omega)];have:Lib.parseMag (c::r) = .ok u:=by unfold Lib.parseMag;rw[Adp (by simp)];exact h4
  rw[this];simp only[Lib.signless];rw[Adp (by omega)]
 have hv:Eb (u:Int)=true:=by simp[Eb];omega
 simp only[BP,By,hdec,Ad7,hat,hv];exact⟨trivial,by omega⟩
def Yo (n m:Int)(s:List UInt8):Prop:=(s=[]∧m=n)∨(s≠[]∧Lib.decDigits n.natAbs=(if m=0 then[] else Lib.decDigits m.natAbs)++s)
theorem PS (m:Int):∃d1:Nat,(if decide (m.tmod 10<0)=true then -(m.tmod 10) else m.tmod 10)=(d1:Int)∧d1=m.natAbs % 10∧d1<10:=by
 refine⟨m.natAbs % 10,?_,rfl,by omega⟩
 by_cases h:0≤m
 ·have:=Int.tmod_eq_emod_of_nonneg (a:=m) (b:=10) h;rw[this,Adp (by simp;omega)];omega
 ·have:=Int.tmod_eq_emod_of_nonneg (a:=-m) (b:=10) (by omega);rw[Int.neg_tmod] at this
  by_cases hz:m.tmod 10=0
  ·rw[hz];simp;omega
  ·rw[Ad2 (by simp;omega)];omega
theorem VO {d:Nat}(h:d<10):List.take (Int.toNat ((d:Int)+1)-Int.toNat (d:Int)) (List.drop (Int.toNat (d:Int)) [48,49,50,51,52,53,54,55,56,57])=[UInt8.ofNat (48+d)]:=by
 have key:∀d:Nat,d<10→List.take (Int.toNat ((d:Int)+1)-Int.toNat (d:Int)) (List.drop (Int.toNat (d:Int)) ([48,49,50,51,52,53,54,55,56,57]:List UInt8))=[UInt8.ofNat (48+d)]:=by decide
 exact key d h
theorem Ob (m:Int):(m.tdiv 10).natAbs=m.natAbs/10:=by
 rw[Int.natAbs_tdiv];rfl
theorem VN (m:Int)(d1:Nat)(h:d1=m.natAbs % 10):Lib.decDigits m.natAbs=(if m.tdiv 10=0 then[] else Lib.decDigits (m.tdiv 10).natAbs)++[UInt8.ofNat (48+d1)]:=by
 have hz:m.tdiv 10=0↔m.natAbs<10:=by
  rw[← Int.natAbs_eq_zero,Ob];omega
 rw[Ob,Lib.decDigits]
 by_cases hs:m.natAbs<10
 ·rw[dif_pos hs,Ad2 (hz.2 hs),h,Nat.mod_eq_of_lt hs];rfl
 ·rw[dif_neg hs,Adp (λe=>hs (hz.1 e)),h]
theorem Aac {n m:Int}{s:List UInt8}(h0 : -9223372036854775808≤n)(h1:n≤9223372036854775807)(hi:Yo n m s):s.length≤21:=by
 rcases hi with⟨rfl,_⟩ | ⟨_,h⟩
 ·simp
 ·have hl:(Lib.decDigits n.natAbs).length≤21:=by
   have:=Sh n h0 h1;unfold Lib.itoa at this
   split at this
   ·simp at this;omega
   ·rwa [show n.toNat=n.natAbs from by omega] at this
  rw[h] at hl;simp at hl;omega
theorem Yn {n m:Int}{s:List UInt8}{d1:Nat}(hi:Yo n m s)(hc:(!decide (m=0)||decide (s=[]))=true)(hd:d1=m.natAbs % 10) :
  Yo n (m.tdiv 10) (List.take (Int.toNat ((d1:Int)+1)-Int.toNat (d1:Int)) (List.drop (Int.toNat (d1:Int)) [48,49,50,51,52,53,54,55,56,57])++s)∧
  (m.tdiv 10).natAbs+(if List.take (Int.toNat ((d1:Int)+1)-Int.toNat (d1:Int)) (List.drop (Int.toNat (d1:Int)) [48,49,50,51,52,53,54,55,56,57])++s=[] then 1 else 0)<m.natAbs+(if s=[] then 1 else 0):=by
 rw[VO (by omega)];have hs:=VN m d1 hd;refine⟨.inr ⟨by simp,?_⟩,?_⟩
 ·rcases hi with⟨rfl,rfl⟩ | ⟨h1,h2⟩
  ·rw[hs];simp
  ·have hm:m≠0:=by simpa[h1] using hc
   rw[h2,Adp hm,hs];simp
 ·rw[Adp (by simp),Ob]
  by_cases hm:m=0
  ·subst hm;have:s=[]:=by simpa using hc
   simp[this]
  ·have:0<m.natAbs:=by omega
   split<;>omega
theorem Um {n m:Int}{s:List UInt8}(hi:Yo n m s)(hc:(!decide (m=0)||decide (s=[]))=false):Lib.decDigits n.natAbs=s:=by
 simp only[Adf,AdD,Ac9,AcA] at hc;rcases hi with⟨h,_⟩ | ⟨_,h⟩
 ·exact absurd h hc.2
 ·rw[h,Ad2 hc.1];rfl
theorem Aab {n:Int}{s:List UInt8}(h:Lib.decDigits n.natAbs=s)(hn:n<0):[45]++s=Lib.itoa n:=by
 unfold Lib.itoa;rw[Ad2 hn,h];rfl
theorem Aaa {n:Int}{s:List UInt8}(h:Lib.decDigits n.natAbs=s)(hn : ¬ n<0):s=Lib.itoa n:=by
 unfold Lib.itoa;rw[Adp hn,show n.toNat=n.natAbs from by omega,h]
open Go Go.RowKit
section
variable {P : Program} {n : Nat} {w0 : World} {M : List Nat} {l : Fr} {H : List Ent} {d : Option Nat} {x y : Operand} {ty t t' : TypeId} {pos : String} {af : Array Edge} {g : Option (Nat × Bool)} {k : IntKind} {p q z : Int}
theorem Xw (hx:ev l x=some (.int k p))(hy:ev l y=some (.int k q))(hq:q≠0)(hz:k.wrap (p.tdiv q)=z):Bn P n w0 M l H { dst:=d,op:=.binOp .quo t x y t',type:=ty,pos:=pos,after:=af,guard:=g } (.int k z):=λa w ha _=>by
 simp[execOp,ha.eval hx,ha.eval hy,Bw,binOp,Op.intDiv,hq,hz]
theorem Xv (hx:ev l x=some (.int k p))(hy:ev l y=some (.int k q))(hq:q≠0):Bn P n w0 M l H { dst:=d,op:=.binOp .rem t x y t',type:=ty,pos:=pos,after:=af,guard:=g } (.int k (p.tmod q)):=λa w ha _=>by
 simp[execOp,ha.eval hx,ha.eval hy,Bw,binOp,Op.intDiv,hq]
end
theorem UM {m:Int}(h0 : -9223372036854775808≤m)(h1:m≤9223372036854775807) : -9223372036854775808≤m.tdiv 10∧m.tdiv 10≤9223372036854775807:=by
 have e:m.tdiv 10=if 0≤m then m/10 else -((-m)/10):=by
  split
  ·rename_i h;exact Int.tdiv_eq_ediv_of_nonneg h
  ·rename_i h
   have:=Int.tdiv_eq_ediv_of_nonneg (a:=-m) (b:=10) (by omega);rw[Int.neg_tdiv] at this;omega
 rw[e];split<;>omega
theorem UL (m:Int) : -10<m.tmod 10∧m.tmod 10<10:=by
 by_cases h:0≤m
 ·have:=Int.tmod_eq_emod_of_nonneg (a:=m) (b:=10) h;omega
 ·have:=Int.tmod_eq_emod_of_nonneg (a:=-m) (b:=10) (by omega);rw[Int.neg_tmod] at this;omega
set_option maxRecDepth 100000
theorem Yk (n:Int)(h0 : -9223372036854775808≤n)(h1:n≤9223372036854775807)(w:World):Calls Tryz.prog 47 [.int .i64 (n)].toArray w (Mf w (.string (B (Lib.itoa n)))):=by
 refine Jf (n:=34) Tryz.func47 rfl Tryz.ntmps47 rfl (Ai (Ah (AD (Ax rfl) rfl (Ak (Az (Bd ?_))))));refine Ai (Ah (AD (Ax rfl) rfl (Ak (Az (Bd ?_)))));refine Ai (Ah (AD (Ax rfl) rfl (Ak (Az (Bd ?_)))));refine Ai (Ai (Ah (AD (Al rfl) rfl (AD (Ax rfl) rfl (Ak (Az (Bd ?_)))))));refine A9 (Lp (S:=Int×List UInt8) (λ(x:Int×List UInt8)=>match x with | ⟨m,s⟩=>(-9223372036854775808≤m∧m≤9223372036854775807)∧Yo n m s) (λ(x:Int×List UInt8)=>match x with | ⟨m,s⟩=>[(5,.int .i64 (m)),(4,.string (B (s))),(0,.int .i64 (n)),(2,.string (B ([]))),(3,.string (B ([48,49,50,51,52,53,54,55,56,57])))]) (λ(x:Int×List UInt8)=>match x with | ⟨m,s⟩=>[]) (λ(x:Int×List UInt8)=>match x with | ⟨m,s⟩=>m.natAbs+(if s=[] then 1 else 0)) (n,[]) ?_ ⟨fi (by first | rfl | (simp;done) | omega | (simp;omega)),fs (by first | rfl | simp),rfl,rfl,rfl,trivial⟩ .slnil ?_)
 ·exact⟨⟨h0,h1⟩,.inl ⟨rfl,rfl⟩⟩
 rintro⟨m,s⟩ hi0;have hb:=hi0.1;have hsl:=Aac h0 h1 hi0.2;have htd:=UM hi0.1.1 hi0.1.2;have htm:=UL m;refine Ai (AK [(0,.int .i64 (n)),(2,.string (B ([]))),(3,.string (B ([48,49,50,51,52,53,54,55,56,57]))),(4,.string (B (s))),(5,.int .i64 (m)),(8,.int .i64 (m)),(9,.bool (!(decide ((m)=(0))))),(10,.bool (!(decide ((m)=(0))))),(13,.bool (((!(decide ((m)=(0))))||(decide ((s)=(([]:List UInt8)))))))] [] (φ:=True) ?_ (λho=>?_))
 ·refine Ah (AD (Al rfl) rfl (AD (CQ rfl rfl) rfl (AD (Al rfl) rfl (AS (!(decide ((m)=(0)))) (λha=>?_) (λha=>?_)))))
  ·have hh:=ha;try simp only[Ac9,AcA] at hh
   have hi:=ha;try simp at hi
   refine AO rfl rfl ha rfl (AO rfl rfl ha rfl (AD (A1 rfl ha rfl) rfl (Ak ?_)));exact Az (BS trivial ⟨rfl,rfl,rfl,rfl,rfl,rfl,rfl,rfl,fb (by first | (simp only[ha,AcQ,Adb,Adq,AcW,AcZ,Add,Adl,Adi,AcP,Ada,AcH,AcD,Ad7,Ad3,reduceIte,Adh];done) | simp[ha]),trivial⟩ .slnil)
  ·have hh:=ha;try simp only[Ac9,AcA] at hh
   have hi:=ha;try simp at hi
   refine Bt rfl rfl ha (AD (Al rfl) rfl (Bt rfl rfl ha (AD (EC rfl rfl) rfl (AD (AC rfl ha rfl) rfl (Ak ?_)))));exact Az (BS trivial ⟨rfl,rfl,rfl,rfl,rfl,rfl,rfl,rfl,fb (by first | (simp only[ha,AcQ,Adb,Adq,AcW,AcZ,Add,Adl,Adi,AcP,Ada,AcH,AcD,Ad7,Ad3,reduceIte,Adh];done) | simp[ha]),trivial⟩ .slnil)
 refine DZ (b:=((!(decide ((m)=(0))))||(decide ((s)=(([]:List UInt8)))))) rfl (λhd=>?_) (λhd=>?_)
 ·have hj:=hd;try simp only[Ac9,AcA] at hj
  have hk:=hd;try simp at hk
  refine Ar (Az (Bd ?_));refine Ai (A9 (Ai (Ah (AD (Al rfl) rfl (AD (Xv rfl rfl (by decide)) rfl (AD (Ax rfl) rfl (Ak (Az (Bd ?_)))))))));refine AK [(0,.int .i64 (n)),(2,.string (B ([]))),(3,.string (B ([48,49,50,51,52,53,54,55,56,57]))),(4,.string (B (s))),(5,.int .i64 (m)),(6,.int .i64 ((if decide ((Int.tmod m 10)<(0))=true then -(Int.tmod m 10) else Int.tmod m 10))),(8,.int .i64 (m)),(9,.bool (!(decide ((m)=(0))))),(10,.bool (!(decide ((m)=(0))))),(13,.bool (((!(decide ((m)=(0))))||(decide ((s)=(([]:List UInt8))))))),(16,.int .i64 (m)),(17,.int .i64 (Int.tmod m 10)),(18,.int .i64 (Int.tmod m 10)),(19,.bool (decide ((Int.tmod m 10)<(0))))] [] (φ:=True) ?_ (λhp=>?_)
  ·refine Ai (Ah (AD (Al rfl) rfl (AD (Cj rfl rfl) rfl (Ak (Az (Bd ?_))))));refine DZ (b:=decide ((Int.tmod m 10)<(0))) rfl (λhe=>?_) (λhe=>?_)
   ·have hl:=he;try simp only[Ac9,AcA] at hl
    have hm:=he;try simp at hm
    refine Ah (AD (Al rfl) rfl (AD (Aa0 rfl (IntWalk.i64_in _ (by omega))) rfl (AD (Ax rfl) rfl (Ak ?_))));exact Az (BS trivial ⟨rfl,rfl,rfl,rfl,rfl,fi (by first | (simp only[hd,he,AcQ,Adb,Adq,AcW,AcZ,Add,Adl,Adi,AcP,Ada,AcH,AcD,Ad7,Ad3,reduceIte,Adh];done) | simp[hd,he]),rfl,rfl,rfl,rfl,rfl,rfl,rfl,rfl,trivial⟩ .slnil)
   ·have hl:=he;try simp only[Ac9,AcA] at hl
    have hm:=he;try simp at hm
    refine Ar ?_;exact Az (BS trivial ⟨rfl,rfl,rfl,rfl,rfl,fi (by first | (simp only[hd,he,AcQ,Adb,Adq,AcW,AcZ,Add,Adl,Adi,AcP,Ada,AcH,AcD,Ad7,Ad3,reduceIte,Adh];done) | simp[hd,he]),rfl,rfl,rfl,rfl,rfl,rfl,rfl,rfl,trivial⟩ .slnil)
  obtain⟨d1,hd1,hd2,hd3⟩:=PS m;rw[hd1];refine Ah (AD (Al rfl) rfl (AD (Al rfl) rfl (AD (Al rfl) rfl (AD (Bk rfl rfl (IntWalk.i64_in _ (by first | omega | (have:=PS m;obtain⟨d1,hd1,hd2,hd3⟩:=this;split at hd1<;>omega)))) rfl (AD (G3 Ce rfl rfl rfl (by first | omega | (simp;omega)) (by first | omega | (simp;omega)) (by first | omega | (simp;omega))) rfl (AD (Al rfl) rfl (AD (Da rfl rfl (by simp;omega)) rfl (AD (Ax rfl) rfl (Ak (AA (Az (Bd ?_))))))))))));refine Ah (AD (Al rfl) rfl (AD (Xw rfl rfl (by decide) (IntWalk.i64_in _ (by omega))) rfl (AD (Ax rfl) rfl (Ak (Az (A3 (Int.tdiv m 10,(List.take (Int.toNat ((d1:Int)+1)-Int.toNat ((d1:Int))) (List.drop (Int.toNat ((d1:Int))) [48,49,50,51,52,53,54,55,56,57]))++s) ?_ ⟨fi (by first | rfl | (simp;done) | omega | (simp;omega)),fs (by first | rfl | simp),rfl,rfl,rfl,trivial⟩ .slnil))))));have hx:=Yn hi0.2 hd hd2;exact⟨⟨htd,hx.1⟩,hx.2⟩
 ·have hj:=hd;try simp only[Ac9,AcA] at hj
  have hk:=hd;try simp at hk
  refine Bl (As (As (AW (Az (Bd ?_)))));refine Ai (Ai (Ah (AD (Al rfl) rfl (AD (Cj rfl rfl) rfl (Ak (Az (Bd ?_)))))));refine DZ (b:=decide ((n)<(0))) rfl (λhf=>?_) (λhf=>?_)
  ·have hg:=hf;try simp only[Ac9,AcA] at hg
   have hn:=hf;try simp at hn
   refine Ai (Ah (AD (Al rfl) rfl (AD (Da rfl rfl (by simp;omega)) rfl (AD (Ax rfl) rfl (Ak (Az (Bd ?_)))))));refine Av (Ac (Au (BQ rfl rfl) ?_));exact K5 (by rw[Aab (Um hi0.2 hd) hg])
  ·have hg:=hf;try simp only[Ac9,AcA] at hg
   have hn:=hf;try simp at hn
   refine Ar (Az (Bd ?_));refine Ai (Ah (AD (Al rfl) rfl (AD (Ax rfl) rfl (Ak (Az (Bd ?_))))));refine Av (Au (BQ rfl rfl) ?_);exact K5 (by rw[← Aaa (Um hi0.2 hd) hg])
end Go.Proofs.YtjfnokmpfekniaaGreatDoor
namespace Go.Proofs.YtjfnokmpfekniaaGreatDoor.Q
open Go Go.RowKit
set_option linter.unusedVariables false
def GE (Z:Fz):Prop:=∀w,YZ Z w→U2 w
theorem GE.mono {Z Z':Fz}(h:Fz.le Z Z')(hg:GE Z):GE Z':=λw hw=>hg w (λb o e=>hw b o (h b o e))
theorem NJ.rle {P:Program}{E:Fz→Prop}{f:FuncId}{args:List Rp}{r r':Rp}(h:NJ P E f args r)(hr:HK r r'):NJ P E f args r':=λw Z vs hv hs=>
 (h w Z vs hv hs).mono λe w' ⟨q,v,H,Z',he,⟨hq,hH⟩,hp,ht⟩=>⟨r',v,H,Z',he,⟨rfl,hH⟩,hr Z' v (hq▸hp),ht⟩
theorem HK.tup2 {a b:Value}:HK (rv (.tuple #[a,b])) (C2 [rv a,rv b]):=λZ v h=>⟨[a,b],h,rfl,rfl,trivial⟩
theorem NJ.of_id {P:Program}{E:Fz→Prop}{f:FuncId}{vs:List Value}{v:Value}(h:∀w,Calls P f vs.toArray w (λe w'=>e = .returned v∧w'=w)):NJ P E f (vs.map rv) (rv v):=
 NJ.of_old λw Z _ _=>(h w).mono λe w' ⟨he,hw⟩=>⟨he,by rw[hw];exact Proofs.YtjfnokmpfekniaaGreatDoor.St.refl w []⟩
theorem LT (m:Int)(g:B9 .i64 m=true):NJ Tryz.prog GE 67 [rI .i64 m] (rS (Lib.itoa m)):=NJ.of_old (vs:=[.int .i64 m]) λw Z hf he=>Yl m (GD g).1 (GD g).2 w (he w hf)
theorem Abh (m:Int)(g:B9 .i64 m=true):NJ Tryz.prog GE 89 [rI .i64 m] (rS (Lib.itoa m)):=NJ.of_old (vs:=[.int .i64 m]) λw Z hf he=>XX m (GD g).1 (GD g).2 w (he w hf)
theorem TQ (s:Af)(g:Dw 1 s.length=true):NJ Tryz.prog GE 73 [rS s] (C2 [rI .i64 (By s),rI .i64 (BP s)]):=(NJ.of_old (vs:=[.string (B s)]) λw Z hf he=>Z2 s (by simp[Dw] at g;omega) w (he w hf)).rle HK.tup2
theorem Uu (s:Af)(c:UInt8):NJ Tryz.prog GE 164 [rS s,rS [c]] (rI .i64 (Lib.countByte s c)):=NJ.of_id (vs:=[.string (B s),.string (B [c])]) λw=>by have:=Tryz.strings_Count_one (B s) c w;rwa [T3] at this
theorem Acs (s:Af):NJ Tryz.prog GE 79 [rS s] (rB (Pd s)):=NJ.of_old (vs:=[.string (B s)]) λw Z hf he=>Acu s w
theorem VM (m:Int)(g:B9 .i64 m=true):NJ Tryz.prog GE 47 [rI .i64 m] (rS (Lib.itoa m)):=NJ.of_old (vs:=[.int .i64 m]) λw Z hf he=>Yk m (GD g).1 (GD g).2 w
open Go Go.RowKit Go.ChangeShapes Go.Deep
set_option linter.unusedSimpArgs false
def ZW (W:World):Fz:=λb=>W.heap[b]?
theorem ZW.frz (W:World):YZ (ZW W) W:=λ_ _ h=>h
def NI (P:Program)(e:TypeId){α:Type}(enc:α→List Rp)(ok:α→Bool):Prop:=
 ∀{H:Type} {encH:TypeId×Value→H} {W:World} {sp:Nat→Bool} {held:Bool} {n:Nat} {cs:List Value} {x:DataW H×List MemPlace},DataW.trod encH P W 0 sp held n e cs=some x→∃y:α,ok y=true∧Bp (ZW W) (enc y) cs
section
variable {P : Program} {e t : TypeId}
theorem NI.int {k:IntKind}{enc:Int→List Rp}(ht:P.underlying e=some (.int k))(he:∀n,enc n=[rI k n]):NI P e enc (B9 k):=λh=>by
 obtain⟨n,rfl,_,hwf⟩:=DataW.trod_int ht h;exact⟨n,hwf,by rw[he];exact⟨rfl,trivial⟩⟩
theorem NI.str {enc:Af→List Rp}(ht:P.underlying e=some .string)(he:∀n,enc n=[rS n]):NI P e enc okS:=λh=>by
 obtain⟨s,rfl,_,hl⟩:=DataW.trod_string ht h;exact⟨s.data.toList,AcC (by rw[Array.length_toList];exact hl),by rw[he];exact⟨congrArg Value.string (Acy s),trivial⟩⟩
theorem NI.bool {enc:Bool→List Rp}(ht:P.underlying e=some .bool)(he:∀n,enc n=[rB n]):NI P e enc (λ_=>true):=λh=>by
 obtain⟨b,rfl,_⟩:=DataW.trod_bool ht h;exact⟨b,rfl,by rw[he];exact⟨rfl,trivial⟩⟩
theorem Qe {W:World}{a:Addr}{v:Value}(h:W.cell? a=some v):a.spot=none∧Jj (ZW W) a.block a.off=some v:=by
 unfold World.cell? at h;unfold Jj ZW
 cases hh:W.heap[a.block]? with
 | none=>rw[hh] at h;cases h
 | some o=>
  rw[hh] at h
  cases o with
  | cells cs t fz=>
   cases hs:a.spot with
   | none=>simp[hs] at h;exact⟨rfl,h⟩
   | some _=>simp[hs] at h
  | _=>simp at h
theorem NI.slice {α:Type}[Inhabited α]{enc:α→List Rp}{ok:α→Bool}{sz:Nat}(ht:P.underlying t=some (.slice e))(hc:P.cellsOf e=sz)(hsz:0<sz)(h:NI P e enc ok)(hlen:∀y,(enc y).length=sz){enc':List α→List Rp}(he:∀ys,enc' ys=[AQ sz (ys.map enc)]) :
  NI P t enc' (λys=>ys.all ok&&decide (ys.length≤9223372036854775807)):=fun {H encH W sp held n cs x} hx=>by
 rcases open_slice ht hx with⟨rfl,_⟩ | ⟨a,len,cap,m,n',D,Pl,rfl,hb,hl,hm,hmm,_,hel⟩
 ·exact⟨[],by simp,by rw[he];exact⟨T1.nil sz _,trivial⟩⟩
 ·have hlm:len≤m:=by rw[hmm];split<;>omega
  have each:∀i,i<len→∃y:α,ok y=true∧∃cs',W.cells? 0 (a.add (i*sz)) sz=some cs'∧Bp (ZW W) (enc y) cs':=λi hi=>by
   obtain⟨cs',h1,h2⟩:=hel i (by omega);obtain⟨y,hy,hr⟩:=h h2;rw[hc] at h1;exact⟨y,hy,cs',h1,hr⟩
  obtain⟨f,hf⟩:=choose_lt each;refine⟨(List.range len).map f,?_,?_⟩
  ·simp only[AcG,Adn,List.mem_map,List.mem_range,Ac9];refine⟨?_,by simp;simp only[maxLen] at hm;omega⟩;rintro _ ⟨i,hi,rfl⟩;exact(hf i hi).1
  ·rw[he];refine⟨⟨some a,cap,by simp,by simpa using hl,hm,(λh=>by cases h),λi c hi=>?_⟩,trivial⟩;rw[AdB,Adr] at hi;have hil:i<len:=by
    cases hq:(List.range len)[i]? with
    | none=>rw[hq] at hi;cases hi
    | some _=>have:=(List.getElem?_eq_some_iff.1 hq).1;simpa using this
   rw[List.getElem?_range hil] at hi;simp only[Option.map_some,Option.some.injEq,Function.comp] at hi;subst hi;obtain⟨_,cs',h1,hr⟩:=hf i hil;obtain⟨_,hcl,hcell⟩:=World.cells?_some h1;have hsp:a.spot=none:=by
    obtain⟨_,cs0,g1,_⟩:=hf 0 (by omega);obtain⟨_,gcl,gcell⟩:=World.cells?_some g1;have h0:=gcell 0 hsz;rw[AcL (by omega)] at h0;have:=(Qe h0).1;simpa[Addr.add] using this
   refine⟨hlen _,a,rfl,hsp,λj r hj=>?_⟩;obtain⟨u,hu,hp⟩:=hr.at hj;have hjs:j<sz:=by have:=(List.getElem?_eq_some_iff.1 hj).1;rw[hlen] at this;exact this
   have h3:=hcell j hjs;rw[hu] at h3;have h4:=(Qe h3).2;refine⟨u,?_,hp⟩;have e1:((a.add (i*sz)).add j).block=a.block:=by simp only[Addr.add];split<;>split<;>rfl
   have e2:((a.add (i*sz)).add j).off=a.off+(i*sz+j):=by simp only[Addr.add];split<;>split<;>simp_all<;>omega
   rw[e1,e2] at h4;exact h4
theorem TC {Z:Fz}{cs:List Value}{o:Nat}(h:cs.length=o):Bp Z [] (cs.drop o):=by rw[List.drop_of_length_le (by omega)];trivial
theorem Hz {Z:Fz}{cs:List Value}{o s o':Nat}{rs rs':List Rp}(h:Bp Z rs ((cs.drop o).take s))(ho:o+s=o')(h2:Bp Z rs' (cs.drop o')):Bp Z (rs++rs') (cs.drop o):=by
 rw[← Ady s (cs.drop o),AdC];subst ho;exact h.append h2
theorem NI.val {α:Type}{enc:α→List Rp}{ok:α→Bool}(h:NI P e enc ok){r:α→Rp}(he:∀y,enc y=[r y]){H:Type}{encH:TypeId×Value→H}{W:World}{sp:Nat→Bool}{held:Bool}{v:Value}{d:DataW H}{ps:List MemPlace}
  (hone:v.cells = #[v]) (ht:DataW.Trod encH P W 0 sp held e v d ps):∃y:α,ok y=true∧(r y).p (ZW W) v:=by
 obtain⟨fuel,hf⟩:=ht;rw[hone] at hf;obtain⟨y,hy,hr⟩:=h hf;rw[he] at hr;exact⟨y,hy,hr.1⟩
end
theorem Yj {W w:World}(hw:YZ (ZW W) w):W.heap.size≤w.heap.size:=by
 rcases Nat.eq_zero_or_pos W.heap.size with h | h
 ·omega
 ·have h1:W.heap[W.heap.size-1]? =some (W.heap[W.heap.size-1]'(by omega)):=Array.getElem?_eq_getElem (by omega);have:=(Array.getElem?_eq_some_iff.1 (hw _ _ h1)).1;omega
theorem VL {W:World}(hE:U2 W):GE (ZW W):=λw hw=>by
 have hb:Below W.heap.size W { w with os:=W.os,tape:=W.tape,output:=W.output }:=⟨rfl,rfl,rfl,Yj hw,λk hk=>by
  have h1:W.heap[k]? =some (W.heap[k]'hk):=Array.getElem?_eq_getElem hk;rw[h1];exact hw k _ h1⟩
 have hE2:=hE.st0 (St.of_below hb);exact⟨QN.block { w with os:=W.os,tape:=W.tape,output:=W.output } w (λ_ _=>rfl) hE2.tabs,hE2.size⟩
theorem W9 {W:World}(hE:U2 W):St ⟨W,ZW W,[],GE⟩ [] (ZW W) W where
 os:=rfl
 tape:=rfl
 output:=rfl
 size:=AcY _
 old:=λ_ _ _=>rfl
 has:=λ_ h=>by cases h
 own:=λ_ h=>by cases h
 dis:=.nil
 frz:=ZW.frz W
 le:=Fz.le.refl _
 new:=λ_ _ h=>.inl h
 zdis:=λ_ h=>by cases h
 env:=VL hE
 emono:=λh hg=>GE.mono h hg
theorem WA {W W':World}{Z Z':Fz}{E:Fz→Prop}{H:List Ent}(h:St ⟨W,Z,[],E⟩ H Z' W'):Below W.heap.size W W':=⟨h.os,h.tape,h.output,h.size,λk hk=>h.old k hk (by simp)⟩
open Go
def MH (l:(List Int)):Option ((List Int)):=
 some l
def JS (l:(List Int))(c:Int):Option (Unit×(List Int)):=
 Br (MH l) λr1=>AX (Dw 1 (r1.length+([c]:List Int).length))<|some ((),r1++([c]:List Int))
def In (l:(List Int))(s:Af):Option (Int×Unit×(List Int)):=
 Br (MH l) λr1=>AX (Dw 1 (r1.length+s.length))<|some ((s.length:Int),(),r1++C8 s)
def OZ (l:Af):Option (Af):=
 AX (decide (0<(C8 l).length))<|some l
def MG (l:(List Int)):Option ((List Int)):=
 some l
def JR (l:(List Int))(c:Int):Option (Unit×(List Int)):=
 Br (MG l) λr1=>AX (Dw 1 (r1.length+([c]:List Int).length))<|some ((),r1++([c]:List Int))
def Im (l:(List Int))(s:Af):Option (Int×Unit×(List Int)):=
 Br (MG l) λr1=>AX (Dw 1 (r1.length+s.length))<|some ((s.length:Int),(),r1++C8 s)
def OY (l:Af):Option (Af):=
 AX (decide (0<(C8 l).length))<|some l
set_option maxRecDepth 100000
set_option maxHeartbeats 4000000
theorem Js:∃inf,Tryz.prog.info? 5=some inf∧inf.zero=some (.int .u8 0)∧inf.size=1∧inf.bytes=1:=by
  have key:(Tryz.prog.info? 5).map (λi=>(i.zero,i.size,i.bytes))=some (some (.int .u8 0),1,1):=by kernel_rfl
  obtain⟨inf,h1,h2⟩:=Option.map_eq_some_iff.1 key;simp only[Prod.mk.injEq] at h2;exact⟨inf,h1,h2.1,h2.2.1,h2.2.2⟩
theorem Si:∃j,Tryz.prog.info? 112=some j∧j.size≠0:=by
  have key:(Tryz.prog.info? 112).map (λi=>i.size)=some 2:=by kernel_rfl
  obtain⟨j,h1,h2⟩:=Option.map_eq_some_iff.1 key;exact⟨j,h1,by rw[h2];decide⟩
theorem Sj:∃j,Tryz.prog.info? 112=some j:=Si.imp λ_ h=>h.1
theorem S9 (ha:Nat)(hb:Value)(l:(List Int))(r:(List Int))(h:MH l=some r):Fn Tryz.prog GE 154 [rP ha 0] [.blk ha [rv (.pointer none),rv hb] 112,.row hb 5 1 (A8 Bc l)] (λR H=>∃w0:Value,R=rv (.tuple #[])∧H=[.blk ha [rP ha 0,rv w0] 112,.row w0 5 1 (A8 Bc r)]):=by
 refine enter (n:=20) Tryz.func154 rfl Tryz.ntmps154 rfl (λw Z=>?_);unfold MH at h;refine Ag (wm rfl (wv (A2 rfl) (vF GP rfl QU (vL 0 ET rfl (wv (r:=rB true) (Xx ⟨_,QS⟩ rfl) (Am (Gx rfl rfl (Ah (wm rfl (wm rfl (wv (r:=rP ha 0) (RG (i:=0) QS Tryz.underlying188 Si rfl rfl rfl) (AD (r:=rP ha 0) (Z6 Tryz.func166 (by kernel_rfl) (by kernel_rfl) (by kernel_rfl) (by kernel_rfl) rfl) rfl (wv (r:=rP ha 0) (Pm (i:=0) Tryz.underlying188 QS Sj rfl rfl (by kernel_rfl)) (wv (A2 rfl) (vF GP rfl QU (BI (i:=0) QU rfl rfl (C0 rfl) rfl rfl (cs':=[rP ha 0,rv hb]) rfl (H':=[.blk ha [rP ha 0,rv hb] 112,.row hb 5 1 (A8 Bc l)]) rfl (Ak ?_)))))))))))))))));obtain rfl:=Aw h;exact Ht (US Tryz.results154) (sC (sC sN)) ⟨hb,rfl,rfl⟩
theorem Pr (ha:Nat)(hb:Value)(l:(List Int))(c:Int)(r:Unit×(List Int))(h:JS l c=some r):Fn Tryz.prog GE 122 [rP ha 0,rI .u8 c] [.blk ha [rv (.pointer none),rv hb] 112,.row hb 5 1 (A8 Bc l)] (λR H=>∃w0:Value,R=rv (.nilIface)∧H=[.blk ha [rP ha 0,rv w0] 112,.row w0 5 1 (A8 Bc r.2)]):=by
 refine enter (n:=17) Tryz.func122 rfl Tryz.ntmps122 rfl (λw Z=>?_);unfold JS at h;refine Ag (wa rfl (Bv (wm rfl (ob h λr1 e3 h2=>Gt (Hr:=[]) Tryz.call154 (S9 ha hb l r1 e3) rfl (AcI _) rfl ?_))));rintro _ _ ⟨v4,rfl,rfl⟩;refine Bv (wm rfl (wm rfl (wv (A2 rfl) (vF GP rfl K4 (vL 0 QZ rfl (wm rfl (AZ (ys:=([c]:List Int)) (enc:=Bc) (css:=[[rI .u8 c]]) (xs:=[.tmp 12]) E3 Zb Za rfl rfl rfl ⟨EI.one rfl (Up.refl _),trivial⟩ rfl CN rfl rfl rfl (λb5=>?_))))))));refine ck h2 λg7 h8=>Exists.elim Js λinf hinf=>BY (xs:=r1) (ys:=([c]:List Int)) (enc:=Bc) (i:=2) E3 hinf.1 hinf.2.1 hinf.2.2.1 hinf.2.2.2 rfl rfl rfl rfl rfl (KA.w (i:=0) rfl rfl) CN IL g7 rfl (λv6=>?_);refine wv (A2 rfl) (vF GP rfl K4 (BI (i:=2) K4 rfl rfl (Ey (i:=0) rfl) rfl rfl (cs':=[rP ha 0,rv v6]) rfl (H':=[.row v6 5 1 (A8 Bc (r1++([c]:List Int))),.row (.slice (some ⟨b5,0,none⟩) 1 1) 5 1 (A8 Bc ([c]:List Int)),.blk ha [rP ha 0,rv v6] 112]) rfl (Bv (wa rfl (Am (Av (Dh (H2:=[.blk ha [rP ha 0,rv v6] 112,.row v6 5 1 (A8 Bc (r1++([c]:List Int))),.row (.slice (some ⟨b5,0,none⟩) 1 1) 5 1 (A8 Bc ([c]:List Int))]) ((A4 (i:=2) rfl).trans (AcJ _ (AcI _))) ?_)))))));obtain rfl:=Aw h8;exact Au (BQ Tryz.results122 (AG rfl)) (sC (sC (sS sN))) ⟨v6,rfl,rfl⟩
theorem Nu (ha:Nat)(hb:Value)(l:(List Int))(s:Af)(r:Int×Unit×(List Int))(h:In l s=some r):Fn Tryz.prog GE 120 [rP ha 0,rS s] [.blk ha [rv (.pointer none),rv hb] 112,.row hb 5 1 (A8 Bc l)] (λR H=>∃w0:Value,R=C2 [Ap r.1,rv (.nilIface)]∧H=[.blk ha [rP ha 0,rv w0] 112,.row w0 5 1 (A8 Bc r.2.2)]):=by
 refine enter (n:=19) Tryz.func120 rfl Tryz.ntmps120 rfl (λw Z=>?_);unfold In at h;refine Ag (wa rfl (wa rfl (Bv (wm rfl (ob h λr1 e3 h2=>Gt (Hr:=[]) Tryz.call154 (S9 ha hb l r1 e3) rfl (AcI _) rfl ?_)))));rintro _ _ ⟨v4,rfl,rfl⟩;refine Bv (wm rfl (wm rfl (wv (A2 rfl) (vF GP rfl K4 (vL 0 QZ rfl (wm rfl (ck h2 λg6 h7=>Exists.elim Js λinf hinf=>Eo (xs:=r1) (i:=1) E3 Ce hinf.1 hinf.2.1 hinf.2.2.1 hinf.2.2.2 rfl rfl rfl g6 rfl (λv5=>?_))))))));refine wv (A2 rfl) (vF GP rfl K4 (BI (i:=1) K4 rfl rfl (Ey (i:=0) rfl) rfl rfl (cs':=[rP ha 0,rv v5]) rfl (H':=[.row v5 5 1 (A8 Bc (r1++C8 s)),.blk ha [rP ha 0,rv v5] 112]) rfl (Bv (wm rfl (wv (Bj Ce rfl) (wa rfl (wa rfl (Am (Av (Dh (H2:=[.blk ha [rP ha 0,rv v5] 112,.row v5 5 1 (A8 Bc (r1++C8 s))]) ((A4 (i:=1) rfl).trans (AcJ _ (AcI _))) ?_))))))))));obtain rfl:=Aw h7;exact Au (DC Tryz.results120 (AG rfl) (AG rfl)) (sC (sC sN)) ⟨v5,rfl,rfl⟩
theorem Ty (ha:Nat)(hb:Value)(l:Af)(r:Af)(h:OZ l=some r):Fn Tryz.prog GE 88 [rP ha 0] [.blk ha [rv (.pointer none),rv hb] 112,.row hb 5 1 (A8 Bc (C8 l))] (λR H=>R=rS r∧H=[]):=by
 refine enter (n:=14) Tryz.func88 rfl Tryz.ntmps88 rfl (λw Z=>?_);unfold OZ at h;refine Ag (wv (r:=rS ([]:Af)) (Ax rfl) (Am (Ai (ck h λg1 h2=>GM (H1:=[.blk ha [rv (.pointer none),rv hb] 112]) [0] [⟨[],rP ha 0,0⟩,⟨[0],rP ha 0,0⟩,⟨[1],rP ha 1,0⟩,⟨[2],rv hb,1⟩,⟨[3],rv (slp hb),1⟩,⟨[],rP ha 0,0⟩,⟨[5],rP ha 0,0⟩,⟨[6],rP ha 1,0⟩,⟨[7],rv hb,1⟩,⟨[8],Ap ((C8 l).length:Int),1⟩,⟨[4,9],rS l,2⟩,⟨[10],rS l,0⟩] (rle [(11,_),(2,[.blk ha [rv (.pointer none),rv hb] 112])]) [2] ?_ ?_))))
 ·refine oq (Al rfl) (oq (A2 rfl) (oq (AH GP rfl K4 rfl rfl) (of (Bi (i:=0) QZ rfl rfl rfl) (of (Na (i:=1) rfl rfl (N4 g1)) (oq (Al rfl) (oq (A2 rfl) (oq (AH GP rfl K4 rfl rfl) (of (Bi (i:=0) QZ rfl rfl rfl) (of (Dg (ys:=C8 l) (enc:=Bc) (i:=1) E3 rfl rfl) (JD rfl (AbB (JT (i:=1) Tryz.underlying150 (by kernel_rfl) rfl rfl rfl (N4 g1) rfl)) ?_))))))))));refine oq (Ax rfl) ?_;exact Cd
 refine AJ (Av ?_);obtain rfl:=Aw h2;exact Au (BQ Tryz.results88 (AG rfl)) (sS sN) ⟨rfl,rfl⟩
theorem S8 (ha:Nat)(hb:Value)(l:(List Int))(r:(List Int))(h:MG l=some r):Fn Tryz.prog GE 154 [rP ha 0] [.blk ha [rP ha 0,rv hb] 112,.row hb 5 1 (A8 Bc l)] (λR H=>∃w0:Value,R=rv (.tuple #[])∧H=[.blk ha [rP ha 0,rv w0] 112,.row w0 5 1 (A8 Bc r)]):=by
 refine enter (n:=20) Tryz.func154 rfl Tryz.ntmps154 rfl (λw Z=>?_);unfold MG at h;refine Ag (wm rfl (wv (A2 rfl) (vF GP rfl QU (vL 0 ET rfl (wv (r:=rB false) (Te ⟨_,QS⟩ rfl) (Am (DQ rfl rfl (Ag (wm rfl (wv (A2 rfl) (vF GP rfl QU (vL 0 ET rfl (wm rfl (wv (r:=rB false) (Td QS Sj rfl rfl) (Am (DQ rfl rfl (Ar ?_)))))))))))))))));obtain rfl:=Aw h;exact Ht (US Tryz.results154) (sC (sC sN)) ⟨hb,rfl,rfl⟩
theorem Pq (ha:Nat)(hb:Value)(l:(List Int))(c:Int)(r:Unit×(List Int))(h:JR l c=some r):Fn Tryz.prog GE 122 [rP ha 0,rI .u8 c] [.blk ha [rP ha 0,rv hb] 112,.row hb 5 1 (A8 Bc l)] (λR H=>∃w0:Value,R=rv (.nilIface)∧H=[.blk ha [rP ha 0,rv w0] 112,.row w0 5 1 (A8 Bc r.2)]):=by
 refine enter (n:=17) Tryz.func122 rfl Tryz.ntmps122 rfl (λw Z=>?_);unfold JR at h;refine Ag (wa rfl (Bv (wm rfl (ob h λr1 e3 h2=>Gt (Hr:=[]) Tryz.call154 (S8 ha hb l r1 e3) rfl (AcI _) rfl ?_))));rintro _ _ ⟨v4,rfl,rfl⟩;refine Bv (wm rfl (wm rfl (wv (A2 rfl) (vF GP rfl K4 (vL 0 QZ rfl (wm rfl (AZ (ys:=([c]:List Int)) (enc:=Bc) (css:=[[rI .u8 c]]) (xs:=[.tmp 12]) E3 Zb Za rfl rfl rfl ⟨EI.one rfl (Up.refl _),trivial⟩ rfl CN rfl rfl rfl (λb5=>?_))))))));refine ck h2 λg7 h8=>Exists.elim Js λinf hinf=>BY (xs:=r1) (ys:=([c]:List Int)) (enc:=Bc) (i:=2) E3 hinf.1 hinf.2.1 hinf.2.2.1 hinf.2.2.2 rfl rfl rfl rfl rfl (KA.w (i:=0) rfl rfl) CN IL g7 rfl (λv6=>?_);refine wv (A2 rfl) (vF GP rfl K4 (BI (i:=2) K4 rfl rfl (Ey (i:=0) rfl) rfl rfl (cs':=[rP ha 0,rv v6]) rfl (H':=[.row v6 5 1 (A8 Bc (r1++([c]:List Int))),.row (.slice (some ⟨b5,0,none⟩) 1 1) 5 1 (A8 Bc ([c]:List Int)),.blk ha [rP ha 0,rv v6] 112]) rfl (Bv (wa rfl (Am (Av (Dh (H2:=[.blk ha [rP ha 0,rv v6] 112,.row v6 5 1 (A8 Bc (r1++([c]:List Int))),.row (.slice (some ⟨b5,0,none⟩) 1 1) 5 1 (A8 Bc ([c]:List Int))]) ((A4 (i:=2) rfl).trans (AcJ _ (AcI _))) ?_)))))));obtain rfl:=Aw h8;exact Au (BQ Tryz.results122 (AG rfl)) (sC (sC (sS sN))) ⟨v6,rfl,rfl⟩
theorem Nt (ha:Nat)(hb:Value)(l:(List Int))(s:Af)(r:Int×Unit×(List Int))(h:Im l s=some r):Fn Tryz.prog GE 120 [rP ha 0,rS s] [.blk ha [rP ha 0,rv hb] 112,.row hb 5 1 (A8 Bc l)] (λR H=>∃w0:Value,R=C2 [Ap r.1,rv (.nilIface)]∧H=[.blk ha [rP ha 0,rv w0] 112,.row w0 5 1 (A8 Bc r.2.2)]):=by
 refine enter (n:=19) Tryz.func120 rfl Tryz.ntmps120 rfl (λw Z=>?_);unfold Im at h;refine Ag (wa rfl (wa rfl (Bv (wm rfl (ob h λr1 e3 h2=>Gt (Hr:=[]) Tryz.call154 (S8 ha hb l r1 e3) rfl (AcI _) rfl ?_)))));rintro _ _ ⟨v4,rfl,rfl⟩;refine Bv (wm rfl (wm rfl (wv (A2 rfl) (vF GP rfl K4 (vL 0 QZ rfl (wm rfl (ck h2 λg6 h7=>Exists.elim Js λinf hinf=>Eo (xs:=r1) (i:=1) E3 Ce hinf.1 hinf.2.1 hinf.2.2.1 hinf.2.2.2 rfl rfl rfl g6 rfl (λv5=>?_))))))));refine wv (A2 rfl) (vF GP rfl K4 (BI (i:=1) K4 rfl rfl (Ey (i:=0) rfl) rfl rfl (cs':=[rP ha 0,rv v5]) rfl (H':=[.row v5 5 1 (A8 Bc (r1++C8 s)),.blk ha [rP ha 0,rv v5] 112]) rfl (Bv (wm rfl (wv (Bj Ce rfl) (wa rfl (wa rfl (Am (Av (Dh (H2:=[.blk ha [rP ha 0,rv v5] 112,.row v5 5 1 (A8 Bc (r1++C8 s))]) ((A4 (i:=1) rfl).trans (AcJ _ (AcI _))) ?_))))))))));obtain rfl:=Aw h7;exact Au (DC Tryz.results120 (AG rfl) (AG rfl)) (sC (sC sN)) ⟨v5,rfl,rfl⟩
theorem Tx (ha:Nat)(hb:Value)(l:Af)(r:Af)(h:OY l=some r):Fn Tryz.prog GE 88 [rP ha 0] [.blk ha [rP ha 0,rv hb] 112,.row hb 5 1 (A8 Bc (C8 l))] (λR H=>R=rS r∧H=[]):=by
 refine enter (n:=14) Tryz.func88 rfl Tryz.ntmps88 rfl (λw Z=>?_);unfold OY at h;refine Ag (wv (r:=rS ([]:Af)) (Ax rfl) (Am (Ai (ck h λg1 h2=>GM (H1:=[.blk ha [rP ha 0,rv hb] 112]) [0] [⟨[],rP ha 0,0⟩,⟨[0],rP ha 0,0⟩,⟨[1],rP ha 1,0⟩,⟨[2],rv hb,1⟩,⟨[3],rv (slp hb),1⟩,⟨[],rP ha 0,0⟩,⟨[5],rP ha 0,0⟩,⟨[6],rP ha 1,0⟩,⟨[7],rv hb,1⟩,⟨[8],Ap ((C8 l).length:Int),1⟩,⟨[4,9],rS l,2⟩,⟨[10],rS l,0⟩] (rle [(11,_),(2,[.blk ha [rP ha 0,rv hb] 112])]) [2] ?_ ?_))))
 ·refine oq (Al rfl) (oq (A2 rfl) (oq (AH GP rfl K4 rfl rfl) (of (Bi (i:=0) QZ rfl rfl rfl) (of (Na (i:=1) rfl rfl (N4 g1)) (oq (Al rfl) (oq (A2 rfl) (oq (AH GP rfl K4 rfl rfl) (of (Bi (i:=0) QZ rfl rfl rfl) (of (Dg (ys:=C8 l) (enc:=Bc) (i:=1) E3 rfl rfl) (JD rfl (AbB (JT (i:=1) Tryz.underlying150 (by kernel_rfl) rfl rfl rfl (N4 g1) rfl)) ?_))))))))));refine oq (Ax rfl) ?_;exact Cd
 refine AJ (Av ?_);obtain rfl:=Aw h2;exact Au (BQ Tryz.results88 (AG rfl)) (sS sN) ⟨rfl,rfl⟩
theorem Cz (b:Nat)(v:Value)(l:Af)(c:Int)(g1:Dw 1 (l.length+1)=true)(g2:B9 .u8 c=true):Fn Tryz.prog GE 122 [rP b 0,rI .u8 c] [.bld 112 5 b v l] (λR H=>∃w0:Value,R=rv .nilIface∧H=[.bld 112 5 b w0 (l++[UInt8.ofNat c.toNat])]):=by
  have hc:C8 (l++[UInt8.ofNat c.toNat])=C8 l++[c]:=by
    have:=(by simpa[B9,IntKind.min,IntKind.max,IntKind.signed,IntKind.bits] using g2:0≤c∧c≤255)
    simp only[C8,AdA,Adx,List.map_nil]
    congr 2
    simp;omega
  refine Fn.bld (res:=rv .nilIface) λp hp=>?_;rw[hc];rcases hp with rfl | rfl
  · refine(Pr b v (C8 l) c (((),C8 l++[c])) ?_).sub (HI.refl _) (λr H h=>by obtain⟨w0,h1,h2⟩:=h;exact⟨w0,h1,h2⟩)
    simp only[JS,MH,Br,C9];simp[AX,g1]
  · refine(Pq b v (C8 l) c (((),C8 l++[c])) ?_).sub (HI.refl _) (λr H h=>by obtain⟨w0,h1,h2⟩:=h;exact⟨w0,h1,h2⟩)
    simp only[JR,MG,Br,C9];simp[AX,g1]
theorem HZ (b:Nat)(v:Value)(l s:Af)(g1:Dw 1 (l.length+s.length)=true):Fn Tryz.prog GE 120 [rP b 0,rS s] [.bld 112 5 b v l] (λR H=>∃w0:Value,R=C2 [Ap (s.length:Int),rv .nilIface]∧H=[.bld 112 5 b w0 (l++s)]):=by
  have hc:C8 (l++s)=C8 l++C8 s:=by simp[C8]
  refine Fn.bld (res:=C2 [Ap (s.length:Int),rv .nilIface]) λp hp=>?_;rw[hc];rcases hp with rfl | rfl
  · refine(Nu b v (C8 l) s (((s.length:Int),(),C8 l++C8 s)) ?_).sub (HI.refl _) (λr H h=>by obtain⟨w0,h1,h2⟩:=h;exact⟨w0,h1,h2⟩)
    simp only[In,MH,Br,C9];simp[AX,g1]
  · refine(Nt b v (C8 l) s (((s.length:Int),(),C8 l++C8 s)) ?_).sub (HI.refl _) (λr H h=>by obtain⟨w0,h1,h2⟩:=h;exact⟨w0,h1,h2⟩)
    simp only[Im,MG,Br,C9];simp[AX,g1]
theorem Wa (b:Nat)(v:Value)(l:Af)(g1:decide (0<l.length)=true):Fn Tryz.prog GE 88 [rP b 0] [.bld 112 5 b v l] (λR H=>R=rS l∧H=[]):=by
  refine Fn.bldS (res:=rS l) λp hp=>?_;rcases hp with rfl | rfl
  · exact Ty b v l l (by simp only[OZ,C9];simp[AX,g1])
  · exact Tx b v l l (by simp only[OY,C9];simp[AX,g1])
end Go.Proofs.YtjfnokmpfekniaaGreatDoor.Q
namespace Go.Proofs.YtjfnokmpfekniaaGreatDoor
open Go
set_option linter.unusedVariables false
structure Aa where
 fKind:Int
 fInt:Int
 fStr:Af
 fN:Int
 deriving DecidableEq,Inhabited
def Ke (s:Af)(ha:Int):Option (Stp (Int) (Out (Bool) (Unit))):=
 Bf (decide (ha<(s.length:Int))) (AX (CJ ha (s.length:Int))<|Bf (((decide ((Bm s ha)<32))||(decide (126<(Bm s ha))))) (some (.out (.ret false))) (AX (B9 .i64 (ha+1))<|some (.next (ha+1)))) (some (.out (.go ())))
def Kd :Option (Bool):=
 some true
def JA (F:Nat)(s:Af):Option (Bool):=
 Br (B7 (λσ=>Ke s σ) F 0) (B5 λν=>Kd )
def BF (ok:Bool)(i:Int):Option (Int):=
 Bf (ok) (AX (B9 .i64 (i+1))<|some (i+1)) (some (-1))
def Pk (F:Nat)(c:Aa):Option (Bool):=
 AX (imp (decide (c.fKind=4)) (imp (decide (c.fInt=0)) (imp (decide (c.fN=0)) ((JA F c.fStr).isSome))))<|some ((decide (c.fKind=4))&&((decide (c.fInt=0))&&((decide (c.fN=0))&&(ov (JA F c.fStr)))))
def Qt (F:Nat)(ha:(List Aa)→Int→Int→Option (Int))(hb:(List Aa)→Int→Int→Option (Int))(v:(List Aa))(i:Int):Option (Int):=
 Bf (((decide (i<0))||(decide ((v.length:Int)≤i)))) (some (-1)) (AX (CJ i (v.length:Int))<|Bf (decide (((Ao v i).fKind)=1)) (AX (imp (decide (((Ao v i).fInt)=0)) (imp (decide (((Ao v i).fStr)=([]:Af))) ((BF (decide (((Ao v i).fN)=0)) i).isSome)))<|AX (imp (decide (((Ao v i).fInt)=0)) (imp (!(decide (((Ao v i).fStr)=([]:Af)))) ((BF false i).isSome)))<|AX (imp (!(decide (((Ao v i).fInt)=0))) ((BF false i).isSome))<|some (bif decide (((Ao v i).fInt)=0) then(bif decide (((Ao v i).fStr)=([]:Af)) then(ov (BF (decide (((Ao v i).fN)=0)) i)) else(ov (BF false i))) else(ov (BF false i)))) (Bf (decide (((Ao v i).fKind)=2)) (AX (imp (decide (((Ao v i).fInt)=0)) (imp (decide (((Ao v i).fStr)=([]:Af))) ((BF (decide (((Ao v i).fN)=0)) i).isSome)))<|AX (imp (decide (((Ao v i).fInt)=0)) (imp (!(decide (((Ao v i).fStr)=([]:Af)))) ((BF false i).isSome)))<|AX (imp (!(decide (((Ao v i).fInt)=0))) (imp (decide (((Ao v i).fInt)=1)) (imp (decide (((Ao v i).fStr)=([]:Af))) ((BF (decide (((Ao v i).fN)=0)) i).isSome))))<|AX (imp (!(decide (((Ao v i).fInt)=0))) (imp (decide (((Ao v i).fInt)=1)) (imp (!(decide (((Ao v i).fStr)=([]:Af)))) ((BF false i).isSome))))<|AX (imp (!(decide (((Ao v i).fInt)=0))) (imp (!(decide (((Ao v i).fInt)=1))) ((BF false i).isSome)))<|some (bif decide (((Ao v i).fInt)=0) then(bif decide (((Ao v i).fStr)=([]:Af)) then(ov (BF (decide (((Ao v i).fN)=0)) i)) else(ov (BF false i))) else(bif decide (((Ao v i).fInt)=1) then(bif decide (((Ao v i).fStr)=([]:Af)) then(ov (BF (decide (((Ao v i).fN)=0)) i)) else(ov (BF false i))) else(ov (BF false i))))) (Bf (decide (((Ao v i).fKind)=3)) (AX (imp (decide (((Ao v i).fStr)=([]:Af))) ((BF (decide (((Ao v i).fN)=0)) i).isSome))<|AX (imp (!(decide (((Ao v i).fStr)=([]:Af)))) ((BF false i).isSome))<|some (bif decide (((Ao v i).fStr)=([]:Af)) then(ov (BF (decide (((Ao v i).fN)=0)) i)) else(ov (BF false i)))) (Bf (decide (((Ao v i).fKind)=4)) (Br (Pk F (Ao v i)) λhd=>Br (BF hd i) λhe=>some he) (Bf (((decide (((Ao v i).fKind)=5))&&((decide (((Ao v i).fInt)=0))&&((decide (((Ao v i).fStr)=([]:Af)))&&(decide (0≤((Ao v i).fN))))))) (AX (B9 .i64 (i+1))<|Br (ha v (i+1) ((Ao v i).fN)) λhf=>some hf) (Bf (((decide (((Ao v i).fKind)=6))&&((decide (((Ao v i).fInt)=0))&&((decide (((Ao v i).fStr)=([]:Af)))&&(decide (0≤((Ao v i).fN))))))) (AX (B9 .i64 (i+1))<|Br (hb v (i+1) ((Ao v i).fN)) λhg=>some hg) (some (-1))))))))
def CZ (v:(List Aa))(n:Int)(he:(List Aa)→Int→Option (Int))(hb:Int)(ha:Int):Option (Stp (Int×Int) (Out (Int) (Int))):=
 Bf (decide (ha<n)) (Br (he v hb) λhd=>Bf (decide (hd<0)) (some (.out (.ret (-1)))) (AX (B9 .i64 (ha+1))<|some (.next (hd,ha+1)))) (some (.out (.go hb)))
def Es (ha:Int):Option (Int):=
 some ha
def IY (F:Nat)(ha:(List Aa)→Int→Option (Int))(v:(List Aa))(i:Int)(n:Int):Option (Int):=
 Br (B7 (λσ=>CZ v n ha σ.1 σ.2) F (i,0)) (B5 λν=>Es ν)
def D1 (F:Nat)(v:(List Aa))(n:Int)(hf:(List Aa)→Int→Option (Int))(ha:Int)(hd:Af)(hb:Int):Option (Stp (Int×Af×Int) (Out (Int) (Int))):=
 Bf (decide (hb<n)) (AX (imp (!(decide ((v.length:Int)≤ha))) (CJ ha (v.length:Int)))<|AX (imp (!(decide ((v.length:Int)≤ha))) ((Pk F (Ao v ha)).isSome))<|Bf (((decide ((v.length:Int)≤ha))||((!(ov (Pk F (Ao v ha))))||((decide (0<hb))&&(BE ((Ao v ha).fStr) hd||decide (((Ao v ha).fStr)=hd)))))) (some (.out (.ret (-1)))) (AX (CJ ha (v.length:Int))<|AX (B9 .i64 (ha+1))<|Br (hf v (ha+1)) λhe=>Bf (decide (he<0)) (some (.out (.ret (-1)))) (AX (B9 .i64 (hb+1))<|some (.next (he,(Ao v ha).fStr,hb+1))))) (some (.out (.go ha)))
def Hf (ha:Int):Option (Int):=
 some ha
def N0 (F:Nat)(ha:(List Aa)→Int→Option (Int))(v:(List Aa))(i:Int)(n:Int):Option (Int):=
 Br (B7 (λσ=>D1 F v n ha σ.1 σ.2.1 σ.2.2) F (i,([]:Af),0)) (B5 λν=>Hf ν)
mutual
def D7:Nat→(List Aa)→Int→Option (Int)
 | 0,_,_=>none
 | nn+1,v,i=>Qt nn (Hg nn) (Mu nn) v i
def Hg:Nat→(List Aa)→Int→Int→Option (Int)
 | 0,_,_,_=>none
 | nn+1,v,i,n=>IY nn (D7 nn) v i n
def Mu:Nat→(List Aa)→Int→Int→Option (Int)
 | 0,_,_,_=>none
 | nn+1,v,i,n=>N0 nn (D7 nn) v i n
end
def L5 (F:Nat)(v:(List Aa)):Option (Bool):=
 AX (imp (decide (0<(v.length:Int))) ((D7 F v 0).isSome))<|some ((decide (0<(v.length:Int)))&&(decide ((ov (D7 F v 0))=(v.length:Int))))
def CP (F:Nat)(v:(List Aa))(i:Int)(he:(List Aa)→Int→Option (Int))(hd:Int)(hb:Int)(ha:Int):Option (Stp (Int×Int×Int) (Out (Int) (Int))):=
 Bf (decide (ha<((Ao v i).fN))) (Bf (decide (((Ao v i).fKind)=6)) (AX (B9 .i64 (hb+1))<|Br (he v (hb+1)) λhf=>Bf (decide (hd<hf)) (Br (D7 F v (hb+1)) λhh=>AX (B9 .i64 (ha+1))<|some (.next (hf,hh,ha+1))) (Br (D7 F v (hb+1)) λhi=>AX (B9 .i64 (ha+1))<|some (.next (hd,hi,ha+1)))) (Br (he v hb) λhg=>Bf (decide (hd<hg)) (Br (D7 F v hb) λhj=>AX (B9 .i64 (ha+1))<|some (.next (hg,hj,ha+1))) (Br (D7 F v hb) λhk=>AX (B9 .i64 (ha+1))<|some (.next (hd,hk,ha+1))))) (some (.out (.go hd)))
def Ei (ha:Int):Option (Int):=
 AX (B9 .i64 (ha+1))<|some (ha+1)
def Iz (F:Nat)(ha:(List Aa)→Int→Option (Int))(v:(List Aa))(i:Int):Option (Int):=
 AX (CJ i (v.length:Int))<|Bf (((!decide (((Ao v i).fKind)=5))&&(!decide (((Ao v i).fKind)=6)))) (some 1) (AX (B9 .i64 (i+1))<|Br (B7 (λσ=>CP F v i ha σ.1 σ.2.1 σ.2.2) F (0,i+1,0)) (B5 λν=>Ei ν))
def Di:Nat→(List Aa)→Int→Option (Int)
 | 0,_,_=>none
 | nn+1,v,i=>Iz nn (Di nn) v i
def Df (s:Af)(hb:Af)(ha:Int):Option (Stp (Af×Int) (Out (Af) (Af))):=
 Bf (decide (ha<(s.length:Int))) (AX (CJ ha (s.length:Int))<|Bf (((decide ((Bm s ha)=34))||(decide ((Bm s ha)=92)))) (AX (B9 .i64 ((hb.length:Int)+(([92]:Af).length:Int)))<|AX (B9 .i64 (ha+1))<|AX (HU ha (ha+1))<|AX (HU (ha+1) (s.length:Int))<|AX (B9 .i64 (((hb++([92]:Af)).length:Int)+((List.take (Int.toNat (ha+1)-Int.toNat ha) (List.drop (Int.toNat ha) s)).length:Int)))<|some (.next ((hb++([92]:Af))++(List.take (Int.toNat (ha+1)-Int.toNat ha) (List.drop (Int.toNat ha) s)),ha+1))) (AX (B9 .i64 (ha+1))<|AX (HU ha (ha+1))<|AX (HU (ha+1) (s.length:Int))<|AX (B9 .i64 ((hb.length:Int)+((List.take (Int.toNat (ha+1)-Int.toNat ha) (List.drop (Int.toNat ha) s)).length:Int)))<|some (.next (hb++(List.take (Int.toNat (ha+1)-Int.toNat ha) (List.drop (Int.toNat ha) s)),ha+1)))) (some (.out (.go hb)))
def DD (ha:Af):Option (Af):=
 AX (B9 .i64 ((ha.length:Int)+(([34]:Af).length:Int)))<|some (ha++([34]:Af))
def IX (F:Nat)(s:Af):Option (Af):=
 Br (B7 (λσ=>Df s σ.1 σ.2) F (([34]:Af),0)) (B5 λν=>DD ν)
def Eh (F:Nat)(v:(List Aa))(i:Int)(he:(List Aa)→Int→Option (Af))(ha:Af)(hb:Int)(hd:Int):Option (Stp (Af×Int×Int) (Out (Af) (Af))):=
 Bf (decide (hd<((Ao v i).fN))) (Bf (decide (0<hd)) (AX (B9 .i64 ((ha.length:Int)+(([44]:Af).length:Int)))<|Bf (decide (((Ao v i).fKind)=6)) (AX (CJ hb (v.length:Int))<|Br (IX F ((Ao v hb).fStr)) λhf=>AX (B9 .i64 (((ha++([44]:Af)).length:Int)+(hf.length:Int)))<|AX (B9 .i64 ((((ha++([44]:Af))++hf).length:Int)+(([58]:Af).length:Int)))<|AX (B9 .i64 (hb+1))<|Br (he v (hb+1)) λhh=>AX (B9 .i64 (((((ha++([44]:Af))++hf)++([58]:Af)).length:Int)+(hh.length:Int)))<|Br (D7 F v (hb+1)) λhl=>AX (B9 .i64 (hd+1))<|some (.next ((((ha++([44]:Af))++hf)++([58]:Af))++hh,hl,hd+1))) (Br (he v hb) λhi=>AX (B9 .i64 (((ha++([44]:Af)).length:Int)+(hi.length:Int)))<|Br (D7 F v hb) λhm=>AX (B9 .i64 (hd+1))<|some (.next ((ha++([44]:Af))++hi,hm,hd+1)))) (Bf (decide (((Ao v i).fKind)=6)) (AX (CJ hb (v.length:Int))<|Br (IX F ((Ao v hb).fStr)) λhg=>AX (B9 .i64 ((ha.length:Int)+(hg.length:Int)))<|AX (B9 .i64 (((ha++hg).length:Int)+(([58]:Af).length:Int)))<|AX (B9 .i64 (hb+1))<|Br (he v (hb+1)) λhj=>AX (B9 .i64 ((((ha++hg)++([58]:Af)).length:Int)+(hj.length:Int)))<|Br (D7 F v (hb+1)) λhn=>AX (B9 .i64 (hd+1))<|some (.next (((ha++hg)++([58]:Af))++hj,hn,hd+1))) (Br (he v hb) λhk=>AX (B9 .i64 ((ha.length:Int)+(hk.length:Int)))<|Br (D7 F v hb) λho=>AX (B9 .i64 (hd+1))<|some (.next (ha++hk,ho,hd+1))))) (some (.out (.go ha)))
def H0 (v:(List Aa))(i:Int)(ha:Af):Option (Af):=
 Bf (decide (((Ao v i).fKind)=6)) (AX (B9 .i64 ((([123]:Af).length:Int)+(ha.length:Int)))<|AX (B9 .i64 (((([123]:Af)++ha).length:Int)+(([125]:Af).length:Int)))<|some ((([123]:Af)++ha)++([125]:Af))) (AX (B9 .i64 ((([91]:Af).length:Int)+(ha.length:Int)))<|AX (B9 .i64 (((([91]:Af)++ha).length:Int)+(([93]:Af).length:Int)))<|some ((([91]:Af)++ha)++([93]:Af)))
def Mr (F:Nat)(ha:(List Aa)→Int→Option (Af))(v:(List Aa))(i:Int):Option (Af):=
 AX (CJ i (v.length:Int))<|Bf (decide (((Ao v i).fKind)=1)) (some ([110,117,108,108]:Af)) (Bf (decide (((Ao v i).fKind)=2)) (Bf (decide (((Ao v i).fInt)=1)) (some ([116,114,117,101]:Af)) (some ([102,97,108,115,101]:Af))) (Bf (decide (((Ao v i).fKind)=3)) (AX (B9 .i64 ((Ao v i).fInt))<|some (Lib.itoa ((Ao v i).fInt))) (Bf (decide (((Ao v i).fKind)=4)) (Br (IX F ((Ao v i).fStr)) λhb=>some hb) (AX (B9 .i64 (i+1))<|Br (B7 (λσ=>Eh F v i ha σ.1 σ.2.1 σ.2.2) F (([]:Af),i+1,0)) (B5 λν=>H0 v i ν)))))
def GH:Nat→(List Aa)→Int→Option (Af)
 | 0,_,_=>none
 | nn+1,v,i=>Mr nn (GH nn) v i
def Et (v:(List Aa))(ha:Int):Option (Stp (Int) (Out (Int) (Unit))):=
 Bf (decide (ha<(v.length:Int))) (AX (CJ ha (v.length:Int))<|Bf (decide (200<(((Ao v ha).fStr).length:Int))) (some (.out (.ret 3))) (AX (B9 .i64 (ha+1))<|some (.next (ha+1)))) (some (.out (.go ())))
def I1 (F:Nat)(v:(List Aa)):Option (Int):=
 Br (GH F v 0) λha=>Bf (decide (4000<(ha.length:Int))) (some 3) (some 0)
def Eu (v:(List Aa))(ha:Int):Option (Stp (Int) (Out (Int) (Unit))):=
 Bf (decide (ha<(v.length:Int))) (AX (CJ ha (v.length:Int))<|Bf (((decide (((Ao v ha).fKind)=3))&&((decide (((Ao v ha).fInt)<(-1000000000000)))||(decide (1000000000000<((Ao v ha).fInt)))))) (some (.out (.ret 2))) (AX (B9 .i64 (ha+1))<|some (.next (ha+1)))) (some (.out (.go ())))
def I2 (F:Nat)(v:(List Aa)):Option (Int):=
 AX (imp (!(decide (200<(v.length:Int)))) ((Di F v 0).isSome))<|Bf (((decide (200<(v.length:Int)))||(decide (8<(ov (Di F v 0)))))) (some 3) (Br (B7 (λσ=>Et v σ) F 0) (B5 λν=>I1 F v ))
def KY (F:Nat)(v:(List Aa)):Option (Int):=
 Br (L5 F v) λr1=>Bf (!r1) (some 1) (Br (B7 (λσ=>Eu v σ) F 0) (B5 λν=>I2 F v ))
def L6 (F:Nat)(v:(List Aa)):Option (Af×Int):=
 Br (KY F v) λr1=>Bf (!decide (r1=0)) (some (([]:Af),r1)) (Br (GH F v 0) λr7=>some (r7,0))
end Go.Proofs.YtjfnokmpfekniaaGreatDoor
namespace Go.Proofs.YtjfnokmpfekniaaGreatDoor.Q
open Go Go.RowKit
set_option linter.unusedVariables false
set_option linter.unusedSimpArgs false
set_option maxRecDepth 100000
set_option maxHeartbeats 4000000
@[reducible] def Ab (x:Aa):List Rp:=[Ap x.fKind,Ap x.fInt,rS x.fStr,Ap x.fN]
theorem Bz (x:Aa):(Ab x).length=4:=rfl
theorem CF (x:Aa):(Ab x).all (·.one)=true:=rfl
theorem WT (F:Nat)(s:Af)(r:Bool)(h:JA F s=some r):Fn Tryz.prog GE 156 [rS s] [] (λR H=>R=rB r∧H=[]):=by
 refine enter (n:=20) Tryz.func156 rfl Tryz.ntmps156 rfl (λw Z=>?_);unfold JA at h;refine Ag (wa rfl (Am (Ai (Ag (wa rfl (Am (A9 (ob h λhi hj hg=>Bg (S:=Nat×(Int)×(Unit)) (V:=(Unit)×(Unit)) 0 (λσ=>B7 (λσ=>Ke s σ) σ.1 σ.2.1=some hi) (λσ=>[(0,rS s),(3,Ap σ.2.1)]) (λσ=>[]) (λσ=>σ.1) (F,0,()) hj (A6.c rfl (A6.c rfl A6.nil)) sN (λσ=>Kd =some r) (λσ=>[]) (λσ=>[]) ?_ ?_))))))))
 ·rintro⟨hz,hb,⟨⟩⟩ hk;refine BG (l':=[(0,rS s),(3,Ap hb)]) (H':=[]) rfl rfl ?_;obtain⟨hl,rfl,t37,hd,hf⟩:=BZ hk;replace hd:Ke s hb=some t37:=hd;unfold Ke at hd;refine Ai (Ag (wm rfl (wm rfl (wv (Bj Ce rfl) (wv (Cj rfl rfl) (Am (cz hd rfl (λhm hn=>?_) (λhm ho=>?_))))))))
  ·refine Ar (AJ (Ai (A9 (ck hn λhh hp=>AK [(0,rS s),(3,Ap hb),(19,rB ((decide ((Bm s hb)<32))||(decide (126<(Bm s hb)))))] [] ?_ ?_))))
   ·refine Ah (wm rfl (wm rfl (wv (Bq Ce rfl rfl hh) (wv (Cj rfl rfl) (wm rfl (AS (decide ((Bm s hb)<32)) (λha=>?_) (λha=>?_)))))))
    ·refine wf ha (wf ha (wf ha (wf ha (wv (r:=rB true) (A1 rfl ha rfl) (Ak ?_)))));exact Cm ha
    ·refine wo ha (wm rfl (wo ha (wm rfl (wo ha (wv (Bq Ce rfl rfl hh) (wo ha (wv (C3 rfl rfl) (GK rfl ha rfl (Ak ?_)))))))));exact Cm ha
   refine cz hp rfl (λhq hr=>?_) (λhq hs=>?_)
   ·refine Ag (wa rfl (Am (Av (Ay (Ac (Ac (AR ?_)))))));have ht:=Bo hr hf hg;refine Ay (Ac ?_);obtain rfl:=Aw ht;exact Au (BQ Tryz.results156 (AG rfl)) sN ⟨rfl,rfl⟩
   ·refine Ar (AA (AJ (Ah (wm rfl (ck hs λhu hw=>wv (Bk rfl rfl hu) (wa rfl (Ak ?_)))))));have hx:=Ba hw hf;exact Az (A3 (hl,hb+1,()) ⟨hx,AcM _⟩ (A6.c rfl (A6.c rfl A6.nil)) sN)
  ·refine Bl (As ?_);have hy:=BB ho hf hg;exact As (AV (A3 ((),()) hy A6.nil sN))
 ·rintro⟨⟨⟩,⟨⟩⟩ he;refine Cb (l':=[]) (H':=[]) rfl rfl ?_;replace he:Kd =some r:=he;unfold Kd at he;refine AW (AJ (Ag (wa rfl (Am (Av ?_)))));obtain rfl:=Aw he;exact Au (BQ Tryz.results156 (AG rfl)) sN ⟨rfl,rfl⟩
theorem Ej (ok:Bool)(i:Int)(r:Int)(h:BF ok i=some r):Fn Tryz.prog GE 127 [rB ok,Ap i] [] (λR H=>R=Ap r∧H=[]):=by
 refine enter (n:=8) Tryz.func127 rfl Tryz.ntmps127 rfl (λw Z=>?_);unfold BF at h;refine Ag (wa rfl (Am (Ai (Ag (wm rfl (Am (cz h rfl (λc1 h2=>?_) (λc1 h5=>?_))))))))
 ·refine Ag (wm rfl (ck h2 λg3 h4=>wv (Bk rfl rfl g3) (wa rfl (Am (Av (Ac ?_))))));obtain rfl:=Aw h4;exact Au (BQ Tryz.results127 (AG rfl)) sN ⟨rfl,rfl⟩
 ·refine Ar (AJ (Ag (wv (r:=Ap (-1)) (Ax rfl) (Am (Av ?_)))));obtain rfl:=Aw h5;exact Au (BQ Tryz.results127 (AG rfl)) sN ⟨rfl,rfl⟩
theorem WV (F:Nat)(c:Aa)(r:Bool)(h:Pk F c=some r):Fn Tryz.prog GE 128 [BK (Ab c)] [] (λR H=>R=rB r∧H=[]):=by
 refine enter (n:=21) Tryz.func128 rfl Tryz.ntmps128 rfl (λw Z=>?_);unfold Pk at h;refine Ag (DR rfl rfl (λb1=>?_));refine wa rfl (Am (ck h λg2 h3=>AK [(2,rB ((decide (c.fKind=4))&&((decide (c.fInt=0))&&((decide (c.fN=0))&&(ov (JA F c.fStr))))))] [] ?_ ?_))
 ·refine Ah (vF B4 rfl E7 (vL 0 E8 rfl (wv (B6 rfl rfl) (wm rfl (AS (decide (c.fKind=4)) (λc4=>?_) (λc4=>?_))))))
  ·refine wo c4 (vF B4 rfl Ct (wo c4 (vL 0 CX rfl (wo c4 (wv (B6 rfl rfl) (GC rfl c4 rfl (wm rfl (AS (decide (c.fInt=0)) (λc5=>?_) (λc5=>?_)))))))))
   ·refine wo c5 (vF B4 rfl Ct (wo c5 (vL 0 CX rfl (wo c5 (wv (B6 rfl rfl) (GC rfl c5 rfl (wm rfl (AS (decide (c.fN=0)) (λc6=>?_) (λc6=>?_)))))))))
    ·refine wo c6 (vF B4 rfl Cs (wo c6 (vL 0 CU rfl (wo c6 (CG Tryz.call156 (WT F c.fStr (ov (JA F c.fStr)) (Jy (DP (DP (DP g2 c4) c5) c6))) rfl (GC rfl c6 rfl (wa rfl (Ak ?_))))))));exact Cm (And.intro c4 (And.intro c5 c6))
    ·refine wf c6 (wf c6 (wf c6 (wv (r:=rB false) (AC rfl c6 rfl) (wa rfl (Ak ?_)))));exact Cm (And.intro c4 (And.intro c5 c6))
   ·refine wf c5 (wf c5 (wf c5 (wv (r:=rB false) (AC rfl c5 rfl) (wm rfl (wz rfl rfl (wz rfl rfl (wz rfl rfl (wv (r:=rB false) (AC (b:=false) rfl rfl rfl) (wa rfl (Ak ?_))))))))));exact Cm (And.intro c4 c5)
  ·refine wf c4 (wf c4 (wf c4 (wv (r:=rB false) (AC rfl c4 rfl) (wm rfl (wz rfl rfl (wz rfl rfl (wz rfl rfl (wv (r:=rB false) (AC (b:=false) rfl rfl rfl) (wm rfl (wz rfl rfl (wz rfl rfl (wz rfl rfl (wv (r:=rB false) (AC (b:=false) rfl rfl rfl) (wa rfl (Ak ?_)))))))))))))));exact Cm c4
 refine Av ?_;obtain rfl:=Aw h3;exact Au (BQ Tryz.results128 (AG rfl)) sN ⟨rfl,rfl⟩
theorem WU (F:Nat)(hn:(List Aa)→Int→Int→Option (Int))(ho:(List Aa)→Int→Int→Option (Int))(hq:(∀(v:(List Aa)) (i:Int) (n:Int) (r:Int),hn v i n=some r→Fn Tryz.prog GE 129 [AQ 4 (A8 Ab v),Ap i,Ap n] [] (λR H=>R=Ap r∧H=[])))(hr:(∀(v:(List Aa)) (i:Int) (n:Int) (r:Int),ho v i n=some r→Fn Tryz.prog GE 130 [AQ 4 (A8 Ab v),Ap i,Ap n] [] (λR H=>R=Ap r∧H=[])))(v:(List Aa))(i:Int)(r:Int)(h:Qt F hn ho v i=some r):Fn Tryz.prog GE 93 [AQ 4 (A8 Ab v),Ap i] [] (λR H=>R=Ap r∧H=[]):=by
 refine enter (n:=127) Tryz.func93 rfl Tryz.ntmps93 rfl (λw Z=>?_);unfold Qt at h;refine Ag (wa rfl (Am (Ai (AK [(0,AQ 4 (A8 Ab v)),(1,Ap i),(13,rB ((decide (i<0))||(decide ((v.length:Int)≤i))))] [] ?_ ?_))))
 ·refine Ah (wm rfl (wv (Cj rfl rfl) (wm rfl (AS (decide (i<0)) (λc1=>?_) (λc1=>?_)))))
  ·refine wf c1 (wf c1 (wf c1 (wf c1 (wv (r:=rB true) (A1 rfl c1 rfl) (Ak ?_)))));exact Cm c1
  ·refine wo c1 (wm rfl (wo c1 (wm rfl (wo c1 (wv (Be (ys:=v) (enc:=Ab) Cg rfl) (wo c1 (wv (H5 rfl rfl) (GK rfl c1 rfl (Ak ?_)))))))));exact Cm c1
 refine cz h rfl (λc2 h3=>?_) (λc2 h4=>?_)
 ·refine Ag (wv (r:=Ap (-1)) (Ax rfl) (Am (Av (Ac ?_))));obtain rfl:=Aw h3;exact Au (BQ QV (AG rfl)) sN ⟨rfl,rfl⟩
 ·refine Ar (AJ (Ag (wm rfl (wm rfl (ck h4 λg5 h6=>wv (Bb (enc:=Ab) (ys:=v) Cg CK rfl rfl g5) (wv (Dc NN CK rfl rfl rfl) (BM (cs:=[Ap 0,Ap 0,rS ([]:Af),Ap 0]) KO rfl rfl (λb7=>?_))))))));refine Bh (i:=0) CK rfl rfl rfl (BJ.c rfl) rfl rfl (cs':=[Ap ((Ao v i).fKind),Ap ((Ao v i).fInt),rS ((Ao v i).fStr),Ap ((Ao v i).fN)]) rfl (H':=[.blk b7 (Ab (Ao v i)) 78]) rfl (Am (Ai (Ag (vF B4 rfl E7 (vL 0 E8 rfl (wv (B6 rfl rfl) (Am (cz h6 rfl (λc8 h9=>?_) (λc8 hs=>?_)))))))))
  ·refine ck h9 λht hu=>ck hu λhw hx=>ck hx λhy hz=>AK [(4,Ap (bif decide (((Ao v i).fInt)=0) then(bif decide (((Ao v i).fStr)=([]:Af)) then(ov (BF (decide (((Ao v i).fN)=0)) i)) else(ov (BF false i))) else(ov (BF false i))))] [] ?_ ?_
   ·refine Ah (vF B4 rfl Ct (vL 0 CX rfl (wv (B6 rfl rfl) (wm rfl (AS (decide (((Ao v i).fInt)=0)) (λhb=>?_) (λhb=>?_))))))
    ·refine wo hb (vF B4 rfl Cs (wo hb (vL 0 CU rfl (wo hb (wv (EC rfl rfl) (GC rfl hb rfl (wm rfl (AS (decide (((Ao v i).fStr)=([]:Af))) (λhe=>?_) (λhe=>?_)))))))))
     ·refine wo he (vF B4 rfl Ct (wo he (vL 0 CX rfl (wo he (wv (B6 rfl rfl) (GC rfl he rfl (wm rfl (CG J2 (Ej (decide (((Ao v i).fN)=0)) i (ov (BF (decide (((Ao v i).fN)=0)) i)) (Jy (DP (DP ht hb) he))) rfl (wa rfl (Ak ?_))))))))));exact Cm (And.intro hb he)
     ·refine wf he (wf he (wf he (wv (r:=rB false) (AC rfl he rfl) (wm rfl (CG J2 (Ej false i (ov (BF false i)) (Jy (D6 (DP hw hb) he))) rfl (wa rfl (Ak ?_)))))));exact Cm (And.intro hb he)
    ·refine wf hb (wf hb (wf hb (wv (r:=rB false) (AC rfl hb rfl) (wm rfl (wz rfl rfl (wz rfl rfl (wz rfl rfl (wv (r:=rB false) (AC (b:=false) rfl rfl rfl) (wm rfl (CG J2 (Ej false i (ov (BF false i)) (Jy (D6 hy hb))) rfl (wa rfl (Ak ?_))))))))))));exact Cm hb
   refine Av (Ac ?_);obtain rfl:=Aw hz;exact Au (BQ QV (AG rfl)) sN ⟨rfl,rfl⟩
  ·refine Ar (AJ (Ai (Ag (vF B4 rfl E7 (vL 0 E8 rfl (wv (B6 rfl rfl) (Am (cz hs rfl (λh0 h1=>?_) (λh0 h2=>?_)))))))))
   ·refine ck h1 λh5 h7=>ck h7 λh8 hA=>ck hA λhB hC=>ck hC λhD hE=>ck hE λhG hH=>AK [(4,Ap (bif decide (((Ao v i).fInt)=0) then(bif decide (((Ao v i).fStr)=([]:Af)) then(ov (BF (decide (((Ao v i).fN)=0)) i)) else(ov (BF false i))) else(bif decide (((Ao v i).fInt)=1) then(bif decide (((Ao v i).fStr)=([]:Af)) then(ov (BF (decide (((Ao v i).fN)=0)) i)) else(ov (BF false i))) else(ov (BF false i)))))] [] ?_ ?_
    ·refine Ah (vF B4 rfl Ct (vL 0 CX rfl (wv (B6 rfl rfl) (wm rfl (AS (decide (((Ao v i).fInt)=0)) (λha=>?_) (λha=>?_))))))
     ·refine wf ha (wf ha (wf ha (wv (r:=rB true) (A1 rfl ha rfl) (wm rfl (Bt (b:=true) rfl rfl rfl (vF B4 rfl Cs (Bt (b:=true) rfl rfl rfl (vL 0 CU rfl (Bt (b:=true) rfl rfl rfl (wv (EC rfl rfl) (wv (r:=rB (decide (((Ao v i).fStr)=([]:Af)))) (A1 (b:=true) rfl rfl rfl) (wm rfl (AS (decide (((Ao v i).fStr)=([]:Af))) (λhf=>?_) (λhf=>?_))))))))))))))
      ·refine wo hf (vF B4 rfl Ct (wo hf (vL 0 CX rfl (wo hf (wv (B6 rfl rfl) (GC rfl hf rfl (wm rfl (CG J2 (Ej (decide (((Ao v i).fN)=0)) i (ov (BF (decide (((Ao v i).fN)=0)) i)) (Jy (DP (DP h5 ha) hf))) rfl (wa rfl (Ak ?_))))))))));exact Cm (And.intro ha hf)
      ·refine wf hf (wf hf (wf hf (wv (r:=rB false) (AC rfl hf rfl) (wm rfl (CG J2 (Ej false i (ov (BF false i)) (Jy (D6 (DP h8 ha) hf))) rfl (wa rfl (Ak ?_)))))));exact Cm (And.intro ha hf)
     ·refine wo ha (vF B4 rfl Ct (wo ha (vL 0 CX rfl (wo ha (wv (B6 rfl rfl) (GK rfl ha rfl (wm rfl (AS (decide (((Ao v i).fInt)=1)) (λhd=>?_) (λhd=>?_)))))))))
      ·refine wo hd (vF B4 rfl Cs (wo hd (vL 0 CU rfl (wo hd (wv (EC rfl rfl) (GC rfl hd rfl (wm rfl (AS (decide (((Ao v i).fStr)=([]:Af))) (λhg=>?_) (λhg=>?_)))))))))
       ·refine wo hg (vF B4 rfl Ct (wo hg (vL 0 CX rfl (wo hg (wv (B6 rfl rfl) (GC rfl hg rfl (wm rfl (CG J2 (Ej (decide (((Ao v i).fN)=0)) i (ov (BF (decide (((Ao v i).fN)=0)) i)) (Jy (DP (DP (D6 hB ha) hd) hg))) rfl (wa rfl (Ak ?_))))))))));exact Cm (And.intro ha (And.intro hd hg))
       ·refine wf hg (wf hg (wf hg (wv (r:=rB false) (AC rfl hg rfl) (wm rfl (CG J2 (Ej false i (ov (BF false i)) (Jy (D6 (DP (D6 hD ha) hd) hg))) rfl (wa rfl (Ak ?_)))))));exact Cm (And.intro ha (And.intro hd hg))
      ·refine wf hd (wf hd (wf hd (wv (r:=rB false) (AC rfl hd rfl) (wm rfl (wz rfl rfl (wz rfl rfl (wz rfl rfl (wv (r:=rB false) (AC (b:=false) rfl rfl rfl) (wm rfl (CG J2 (Ej false i (ov (BF false i)) (Jy (D6 (D6 hG ha) hd))) rfl (wa rfl (Ak ?_))))))))))));exact Cm (And.intro ha hd)
    refine Av (Ac ?_);obtain rfl:=Aw hH;exact Au (BQ QV (AG rfl)) sN ⟨rfl,rfl⟩
   ·refine Ar (AJ (Ai (Ag (vF B4 rfl E7 (vL 0 E8 rfl (wv (B6 rfl rfl) (Am (cz h2 rfl (λhI hJ=>?_) (λhI hK=>?_)))))))))
    ·refine ck hJ λhL hN=>ck hN λhO hP=>AK [(4,Ap (bif decide (((Ao v i).fStr)=([]:Af)) then(ov (BF (decide (((Ao v i).fN)=0)) i)) else(ov (BF false i))))] [] ?_ ?_
     ·refine Ah (vF B4 rfl Cs (vL 0 CU rfl (wv (EC rfl rfl) (wm rfl (AS (decide (((Ao v i).fStr)=([]:Af))) (λhh=>?_) (λhh=>?_))))))
      ·refine wo hh (vF B4 rfl Ct (wo hh (vL 0 CX rfl (wo hh (wv (B6 rfl rfl) (GC rfl hh rfl (wm rfl (CG J2 (Ej (decide (((Ao v i).fN)=0)) i (ov (BF (decide (((Ao v i).fN)=0)) i)) (Jy (DP hL hh))) rfl (wa rfl (Ak ?_))))))))));exact Cm hh
      ·refine wf hh (wf hh (wf hh (wv (r:=rB false) (AC rfl hh rfl) (wm rfl (CG J2 (Ej false i (ov (BF false i)) (Jy (D6 hO hh))) rfl (wa rfl (Ak ?_)))))));exact Cm hh
     refine Av (Ac ?_);obtain rfl:=Aw hP;exact Au (BQ QV (AG rfl)) sN ⟨rfl,rfl⟩
    ·refine Ar (AJ (Ai (Ag (vF B4 rfl E7 (vL 0 E8 rfl (wv (B6 rfl rfl) (Am (cz hK rfl (λhQ hR=>?_) (λhQ hS=>?_)))))))))
     ·refine Ag (wv (BC (i:=0) NN CK rfl rfl rfl rfl) (ob hR λhp hT hU=>CG Tryz.call128 (WV F (Ao v i) hp hT) rfl (wm rfl (ob hU λhV hW hX=>CG J2 (Ej hp i hV hW) rfl (wa rfl (Am (Av (Ac ?_))))))));obtain rfl:=Aw hX;exact Au (BQ QV (AG rfl)) (sS sN) ⟨rfl,rfl⟩
     ·refine Ar (AJ (Ai (AK [(0,AQ 4 (A8 Ab v)),(1,Ap i),(5,rP b7 0),(96,rB ((decide (((Ao v i).fKind)=5))&&((decide (((Ao v i).fInt)=0))&&((decide (((Ao v i).fStr)=([]:Af)))&&(decide (0≤((Ao v i).fN)))))))] [.blk b7 (Ab (Ao v i)) 78] ?_ ?_)))
      ·refine Ah (vF B4 rfl E7 (vL 0 E8 rfl (wv (B6 rfl rfl) (wm rfl (AS (decide (((Ao v i).fKind)=5)) (λc53=>?_) (λc53=>?_))))))
       ·refine wo c53 (vF B4 rfl Ct (wo c53 (vL 0 CX rfl (wo c53 (wv (B6 rfl rfl) (GC rfl c53 rfl (wm rfl (AS (decide (((Ao v i).fInt)=0)) (λhj=>?_) (λhj=>?_)))))))))
        ·refine wo hj (vF B4 rfl Cs (wo hj (vL 0 CU rfl (wo hj (wv (EC rfl rfl) (GC rfl hj rfl (wm rfl (AS (decide (((Ao v i).fStr)=([]:Af))) (λhl=>?_) (λhl=>?_)))))))))
         ·refine wo hl (vF B4 rfl Ct (wo hl (vL 0 CX rfl (wo hl (wv (H5 rfl rfl) (GC rfl hl rfl (Ak ?_)))))));exact Cm (And.intro c53 (And.intro hj hl))
         ·refine wf hl (wf hl (wf hl (wv (r:=rB false) (AC rfl hl rfl) (Ak ?_))));exact Cm (And.intro c53 (And.intro hj hl))
        ·refine wf hj (wf hj (wf hj (wv (r:=rB false) (AC rfl hj rfl) (wm rfl (wz rfl rfl (wz rfl rfl (wz rfl rfl (wv (r:=rB false) (AC (b:=false) rfl rfl rfl) (Ak ?_)))))))));exact Cm (And.intro c53 hj)
       ·refine wf c53 (wf c53 (wf c53 (wv (r:=rB false) (AC rfl c53 rfl) (wm rfl (wz rfl rfl (wz rfl rfl (wz rfl rfl (wv (r:=rB false) (AC (b:=false) rfl rfl rfl) (wm rfl (wz rfl rfl (wz rfl rfl (wz rfl rfl (wv (r:=rB false) (AC (b:=false) rfl rfl rfl) (Ak ?_))))))))))))));exact Cm c53
      refine cz hS rfl (λhY hZ=>?_) (λhY ga=>?_)
      ·refine Ag (wm rfl (wm rfl (ck hZ λgb gc=>wv (Bk rfl rfl gb) (vF B4 rfl Ct (vL 0 CX rfl (ob gc λgd ge gf=>CG Tryz.call129 (hq v (i+1) ((Ao v i).fN) gd ge) rfl (wa rfl (Am (Av (Ac ?_))))))))));obtain rfl:=Aw gf;exact Au (BQ QV (AG rfl)) (sS sN) ⟨rfl,rfl⟩
      ·refine Ar (AJ (Ai (AK [(0,AQ 4 (A8 Ab v)),(1,Ap i),(5,rP b7 0),(120,rB ((decide (((Ao v i).fKind)=6))&&((decide (((Ao v i).fInt)=0))&&((decide (((Ao v i).fStr)=([]:Af)))&&(decide (0≤((Ao v i).fN)))))))] [.blk b7 (Ab (Ao v i)) 78] ?_ ?_)))
       ·refine Ah (vF B4 rfl E7 (vL 0 E8 rfl (wv (B6 rfl rfl) (wm rfl (AS (decide (((Ao v i).fKind)=6)) (λhi=>?_) (λhi=>?_))))))
        ·refine wo hi (vF B4 rfl Ct (wo hi (vL 0 CX rfl (wo hi (wv (B6 rfl rfl) (GC rfl hi rfl (wm rfl (AS (decide (((Ao v i).fInt)=0)) (λhk=>?_) (λhk=>?_)))))))))
         ·refine wo hk (vF B4 rfl Cs (wo hk (vL 0 CU rfl (wo hk (wv (EC rfl rfl) (GC rfl hk rfl (wm rfl (AS (decide (((Ao v i).fStr)=([]:Af))) (λhm=>?_) (λhm=>?_)))))))))
          ·refine wo hm (vF B4 rfl Ct (wo hm (vL 0 CX rfl (wo hm (wv (H5 rfl rfl) (GC rfl hm rfl (Ak ?_)))))));exact Cm (And.intro hi (And.intro hk hm))
          ·refine wf hm (wf hm (wf hm (wv (r:=rB false) (AC rfl hm rfl) (Ak ?_))));exact Cm (And.intro hi (And.intro hk hm))
         ·refine wf hk (wf hk (wf hk (wv (r:=rB false) (AC rfl hk rfl) (wm rfl (wz rfl rfl (wz rfl rfl (wz rfl rfl (wv (r:=rB false) (AC (b:=false) rfl rfl rfl) (Ak ?_)))))))));exact Cm (And.intro hi hk)
        ·refine wf hi (wf hi (wf hi (wv (r:=rB false) (AC rfl hi rfl) (wm rfl (wz rfl rfl (wz rfl rfl (wz rfl rfl (wv (r:=rB false) (AC (b:=false) rfl rfl rfl) (wm rfl (wz rfl rfl (wz rfl rfl (wz rfl rfl (wv (r:=rB false) (AC (b:=false) rfl rfl rfl) (Ak ?_))))))))))))));exact Cm hi
       refine cz ga rfl (λgg gh=>?_) (λgg gi=>?_)
       ·refine Ag (wm rfl (wm rfl (ck gh λgj gk=>wv (Bk rfl rfl gj) (vF B4 rfl Ct (vL 0 CX rfl (ob gk λgl gm gn=>CG Tryz.call130 (hr v (i+1) ((Ao v i).fN) gl gm) rfl (wa rfl (Am (Av (Ac ?_))))))))));obtain rfl:=Aw gn;exact Au (BQ QV (AG rfl)) (sS sN) ⟨rfl,rfl⟩
       ·refine Ar (AJ (Ag (wv (r:=Ap (-1)) (Ax rfl) (Am (Av ?_)))));obtain rfl:=Aw gi;exact Au (BQ QV (AG rfl)) (sS sN) ⟨rfl,rfl⟩
theorem Qu (F:Nat)(ha:(List Aa)→Int→Option (Int))(hk:(∀(v:(List Aa)) (i:Int) (r:Int),ha v i=some r→Fn Tryz.prog GE 93 [AQ 4 (A8 Ab v),Ap i] [] (λR H=>R=Ap r∧H=[])))(v:(List Aa))(i:Int)(n:Int)(r:Int)(h:IY F ha v i n=some r):Fn Tryz.prog GE 129 [AQ 4 (A8 Ab v),Ap i,Ap n] [] (λR H=>R=Ap r∧H=[]):=by
 refine enter (n:=19) Tryz.func129 rfl Tryz.ntmps129 rfl (λw Z=>?_);unfold IY at h;refine Ag (wa rfl (Am (Ai (Ag (wa rfl (Am (A9 (ob h λhl hm hh=>Bg (S:=Nat×(Int×Int)×(Unit)) (V:=(Int)×(Unit)) 0 (λσ=>B7 (λσ=>CZ v n ha σ.1 σ.2) σ.1 σ.2.1=some hl) (λσ=>[(0,AQ 4 (A8 Ab v)),(1,Ap σ.2.1.1),(2,Ap n),(6,Ap 0),(7,Ap σ.2.1.2)]) (λσ=>[]) (λσ=>σ.1) (F,(i,0),()) hm (A6.c5 rfl rfl rfl rfl rfl A6.nil) sN (λσ=>Es σ.1=some r) (λσ=>[(1,Ap σ.1),(6,Ap 0)]) (λσ=>[]) ?_ ?_))))))))
 ·rintro⟨h2,⟨hb,hf⟩,⟨⟩⟩ hn;refine BG (l':=[(0,AQ 4 (A8 Ab v)),(1,Ap hb),(2,Ap n),(6,Ap 0),(7,Ap hf)]) (H':=[]) rfl rfl ?_;obtain⟨ho,rfl,hp,hd,hg⟩:=BZ hn;replace hd:CZ v n ha hb hf=some hp:=hd;unfold CZ at hd;refine Ai (Ag (wm rfl (wm rfl (wv (Cj rfl rfl) (Am (cz hd rfl (λc46 hq=>?_) (λc46 hr=>?_)))))))
  ·refine Ar (AJ (Ai (A9 (Ag (wm rfl (wm rfl (ob hq λhi hs ht=>CG NM (hk v hb hi hs) rfl (wa rfl (Bv (wm rfl (wv (Cj rfl rfl) (Am (cz ht rfl (λc51 hu=>?_) (λc51 hw=>?_))))))))))))))
   ·refine Ag (wv (r:=Ap (-1)) (Ax rfl) (Am (Av (Ay (Ac (Ac (AR ?_)))))));have hx:=Bo hu hg hh;refine Ay (Ac ?_);obtain rfl:=Aw hx;exact Au (BQ Tryz.results129 (AG rfl)) sN ⟨rfl,rfl⟩
   ·refine Ar (AA (AJ (Ah (wm rfl (ck hw λhy hz=>wv (Bk rfl rfl hy) (wa rfl (Ak ?_)))))));have h0:=Ba hz hg;exact Az (A3 (ho,(hi,hf+1),()) ⟨h0,AcM _⟩ (A6.c5 rfl rfl rfl rfl rfl A6.nil) sN)
  ·refine Bl (As ?_);have h1:=BB hr hg hh;exact As (AV (A3 (hb,()) h1 (A6.c rfl (A6.c rfl A6.nil)) sN))
 ·rintro⟨hj,⟨⟩⟩ he;refine Cb (l':=[(1,Ap hj),(6,Ap 0)]) (H':=[]) rfl rfl ?_;replace he:Es hj=some r:=he;unfold Es at he;refine AW (AJ (Ag (wm rfl (wa rfl (Am (Av ?_))))));obtain rfl:=Aw he;exact Au (BQ Tryz.results129 (AG rfl)) sN ⟨rfl,rfl⟩
theorem UX (F:Nat)(hg:(List Aa)→Int→Option (Int))(hp:(∀(v:(List Aa)) (i:Int) (r:Int),hg v i=some r→Fn Tryz.prog GE 93 [AQ 4 (A8 Ab v),Ap i] [] (λR H=>R=Ap r∧H=[])))(v:(List Aa))(i:Int)(n:Int)(r:Int)(h:N0 F hg v i n=some r):Fn Tryz.prog GE 130 [AQ 4 (A8 Ab v),Ap i,Ap n] [] (λR H=>R=Ap r∧H=[]):=by
 refine enter (n:=51) Tryz.func130 rfl Tryz.ntmps130 rfl (λw Z=>?_);unfold N0 at h;refine Ag (wa rfl (Bv (wv (r:=rS ([]:Af)) (Ax rfl) (Am (Ai (Ag (wa rfl (Am (A9 (ob h λhq hr hl=>Bg (S:=Nat×(Int×Af×Int)×(Unit)) (V:=(Int)×(Unit)) 0 (λσ=>B7 (λσ=>D1 F v n hg σ.1 σ.2.1 σ.2.2) σ.1 σ.2.1=some hq) (λσ=>[(0,AQ 4 (A8 Ab v)),(1,Ap σ.2.1.1),(2,Ap n),(7,rS σ.2.1.2.1),(8,Ap σ.2.1.2.2)]) (λσ=>[]) (λσ=>σ.1) (F,(i,([]:Af),0),()) hr (A6.c5 rfl rfl rfl rfl rfl A6.nil) sN (λσ=>Hf σ.1=some r) (λσ=>[(1,Ap σ.1)]) (λσ=>[]) ?_ ?_))))))))))
 ·rintro⟨hL,⟨he,hh,hf⟩,⟨⟩⟩ hs;refine BG (l':=[(0,AQ 4 (A8 Ab v)),(1,Ap he),(2,Ap n),(7,rS hh),(8,Ap hf)]) (H':=[]) rfl rfl ?_;obtain⟨ht,rfl,hu,hi,hj⟩:=BZ hs;replace hi:D1 F v n hg he hh hf=some hu:=hi;unfold D1 at hi;refine Ai (Ag (wm rfl (wm rfl (wv (Cj rfl rfl) (Am (cz hi rfl (λhw hx=>?_) (λhw hy=>?_)))))))
  ·refine Ar (AJ (Ai (A9 (Ai (ck hx λhm hz=>ck hz λh0 h1=>AK [(0,AQ 4 (A8 Ab v)),(1,Ap he),(2,Ap n),(8,Ap hf),(38,rB ((decide ((v.length:Int)≤he))||((!(ov (Pk F (Ao v he))))||((decide (0<hf))&&(BE ((Ao v he).fStr) hh||decide (((Ao v he).fStr)=hh))))))] [] ?_ ?_)))))
   ·refine Ah (wm rfl (wm rfl (wv (Be (ys:=v) (enc:=Ab) Cg rfl) (wv (H5 rfl rfl) (wm rfl (AS (decide ((v.length:Int)≤he)) (λha=>?_) (λha=>?_)))))))
    ·refine wf ha (wf ha (wf ha (wf ha (wf ha (wf ha (wv (r:=rB true) (A1 rfl ha rfl) (wm rfl (wz rfl rfl (wz rfl rfl (wz rfl rfl (wu (wu (wu (wu (wu (wu (wu (wz rfl rfl (wv (r:=rB true) (A1 (b:=true) rfl rfl rfl) (Ak ?_))))))))))))))))))));exact Cm ha
    ·refine wo ha (wm rfl (wo ha (wm rfl (wo ha (wv (Bb (enc:=Ab) (ys:=v) Cg CK rfl rfl (D6 hm ha)) (wo ha (wv (Dc NN CK rfl rfl rfl) (wo ha (CG Tryz.call128 (WV F (Ao v he) (ov (Pk F (Ao v he))) (Jy (D6 h0 ha))) rfl (wo ha (wv (Ci rfl) (GK rfl ha rfl (wm rfl (AS (!(ov (Pk F (Ao v he)))) (λhd=>?_) (λhd=>?_)))))))))))))))
     ·refine wf hd (wf hd (wf hd (wu (wu (wu (wu (wu (wu (wu (wf hd (wv (r:=rB true) (A1 rfl hd rfl) (Ak ?_))))))))))));exact Cm (And.intro ha hd)
     ·refine wo hd (wm rfl (wo hd (wv (C3 rfl rfl) (wo hd (wm rfl (AS (decide (0<hf)) (λhb=>?_) (λhb=>?_)))))))
      ·refine wo hb (wm rfl (wo hb (wm rfl (wo hb (wv (Bb (enc:=Ab) (ys:=v) Cg CK rfl rfl (D6 hm ha)) (wo hb (wv (AN B4 rfl Cs rfl rfl) (wo hb (wv (AU CU rfl rfl) (wo hb (wm rfl (wo hb (wv (TS rfl rfl) (wo hd (GC rfl hb rfl (GK rfl hd rfl (Ak ?_)))))))))))))))));exact Cm (And.intro ha (And.intro hd hb))
      ·refine wf hb (wf hb (wf hb (wf hb (wf hb (wf hb (wf hb (wo hd (wv (r:=rB false) (AC rfl hb rfl) (GK rfl hd rfl (Ak ?_))))))))));exact Cm (And.intro ha (And.intro hd hb))
   refine cz h1 rfl (λh2 h3=>?_) (λh2 h4=>?_)
   ·refine Ag (wv (r:=Ap (-1)) (Ax rfl) (Am (Av (Ac (Ay (Ac (Ac (AR ?_))))))));have h5:=Bo h3 hj hl;refine Ay (Ac ?_);obtain rfl:=Aw h5;exact Au (BQ Tryz.results130 (AG rfl)) sN ⟨rfl,rfl⟩
   ·refine Ar (AJ (Ag (wm rfl (wm rfl (ck h4 λh6 h7=>wv (Bb (enc:=Ab) (ys:=v) Cg CK rfl rfl h6) (wv (AN B4 rfl Cs rfl rfl) (wv (AU CU rfl rfl) (wa rfl (Bv (wm rfl (wm rfl (ck h7 λh8 h9=>wv (Bk rfl rfl h8) (ob h9 λhn hA hB=>CG NM (hp v (he+1) hn hA) rfl (wa rfl (Bv (wm rfl (wv (Cj rfl rfl) (Am (cz hB rfl (λhC hD=>?_) (λhC hE=>?_))))))))))))))))))))
    ·refine Ag (wv (r:=Ap (-1)) (Ax rfl) (Am (Av (Ay (Ac (Ac (AR ?_)))))));have hG:=Bo hD hj hl;refine Ay (Ac ?_);obtain rfl:=Aw hG;exact Au (BQ Tryz.results130 (AG rfl)) sN ⟨rfl,rfl⟩
    ·refine Ar (AA (AJ (Ah (wm rfl (ck hE λhH hI=>wv (Bk rfl rfl hH) (wa rfl (Ak ?_)))))));have hJ:=Ba hI hj;exact Az (A3 (ht,(hn,(Ao v he).fStr,hf+1),()) ⟨hJ,AcM _⟩ (A6.c5 rfl rfl rfl rfl rfl A6.nil) sN)
  ·refine Bl (As ?_);have hK:=BB hy hj hl;exact As (AV (A3 (he,()) hK (A6.c rfl A6.nil) sN))
 ·rintro⟨ho,⟨⟩⟩ hk;refine Cb (l':=[(1,Ap ho)]) (H':=[]) rfl rfl ?_;replace hk:Hf ho=some r:=hk;unfold Hf at hk;refine AW (AJ (Ag (wm rfl (wa rfl (Am (Av ?_))))));obtain rfl:=Aw hk;exact Au (BQ Tryz.results130 (AG rfl)) sN ⟨rfl,rfl⟩
theorem Iy:∀F:Nat,(∀(v:(List Aa)) (i:Int) (r:Int),D7 F v i=some r→Fn Tryz.prog GE 93 [AQ 4 (A8 Ab v),Ap i] [] (λR H=>R=Ap r∧H=[]))∧(∀(v:(List Aa)) (i:Int) (n:Int) (r:Int),Hg F v i n=some r→Fn Tryz.prog GE 129 [AQ 4 (A8 Ab v),Ap i,Ap n] [] (λR H=>R=Ap r∧H=[]))∧(∀(v:(List Aa)) (i:Int) (n:Int) (r:Int),Mu F v i n=some r→Fn Tryz.prog GE 130 [AQ 4 (A8 Ab v),Ap i,Ap n] [] (λR H=>R=Ap r∧H=[]))
  | 0=>⟨(λ_ _ _ h=>by simp[D7] at h),(λ_ _ _ _ h=>by simp[Hg] at h),(λ_ _ _ _ h=>by simp[Mu] at h)⟩
  | nn+1=>⟨(λv i r h=>WU nn (Hg nn) (Mu nn) (Iy nn).2.1 (Iy nn).2.2 v i r (by rw[D7] at h;exact h)),(λv i n r h=>Qu nn (D7 nn) (Iy nn).1 v i n r (by rw[Hg] at h;exact h)),(λv i n r h=>UX nn (D7 nn) (Iy nn).1 v i n r (by rw[Mu] at h;exact h))⟩
theorem GW (F:Nat)(v:(List Aa))(i:Int)(r:Int)(h:D7 F v i=some r):Fn Tryz.prog GE 93 [AQ 4 (A8 Ab v),Ap i] [] (λR H=>R=Ap r∧H=[]):=(Iy F).1 v i r h
theorem UZ (F:Nat)(v:(List Aa))(r:Bool)(h:L5 F v=some r):Fn Tryz.prog GE 82 [AQ 4 (A8 Ab v)] [] (λR H=>R=rB r∧H=[]):=by
 refine enter (n:=13) Tryz.func82 rfl Tryz.ntmps82 rfl (λw Z=>?_);unfold L5 at h;refine Ag (wa rfl (Am (ck h λg1 h2=>AK [(2,rB ((decide (0<(v.length:Int)))&&(decide ((ov (D7 F v 0))=(v.length:Int)))))] [] ?_ ?_)))
 ·refine Ah (wm rfl (wv (Be (ys:=v) (enc:=Ab) Cg rfl) (wv (C3 rfl rfl) (wm rfl (AS (decide (0<(v.length:Int))) (λc3=>?_) (λc3=>?_))))))
  ·refine wo c3 (wm rfl (wo c3 (CG NM (GW F v 0 (ov (D7 F v 0)) (Jy (DP g1 c3))) rfl (wo c3 (wm rfl (wo c3 (wv (Be (ys:=v) (enc:=Ab) Cg rfl) (wo c3 (wv (B6 rfl rfl) (GC rfl c3 rfl (wa rfl (Ak ?_))))))))))));exact Cm c3
  ·refine wf c3 (wf c3 (wf c3 (wf c3 (wf c3 (wv (r:=rB false) (AC rfl c3 rfl) (wa rfl (Ak ?_)))))));exact Cm c3
 refine Av ?_;obtain rfl:=Aw h2;exact Au (BQ Tryz.results82 (AG rfl)) sN ⟨rfl,rfl⟩
theorem SU (F:Nat)(hf:(List Aa)→Int→Option (Int))(hj:(∀(v:(List Aa)) (i:Int) (r:Int),hf v i=some r→Fn Tryz.prog GE 83 [AQ 4 (A8 Ab v),Ap i] [] (λR H=>R=Ap r∧H=[])))(v:(List Aa))(i:Int)(r:Int)(h:Iz F hf v i=some r):Fn Tryz.prog GE 83 [AQ 4 (A8 Ab v),Ap i] [] (λR H=>R=Ap r∧H=[]):=by
 refine enter (n:=47) Tryz.func83 rfl Tryz.ntmps83 rfl (λw Z=>?_);unfold Iz at h;refine Ag (wa rfl (Bv (wm rfl (wm rfl (ck h λg1 h2=>wv (Bb (enc:=Ab) (ys:=v) Cg CK rfl rfl g1) (wv (Dc NN CK rfl rfl rfl) (BM (cs:=[Ap 0,Ap 0,rS ([]:Af),Ap 0]) KO rfl rfl (λb3=>?_))))))));refine Bh (i:=0) CK rfl rfl rfl (BJ.c rfl) rfl rfl (cs':=[Ap ((Ao v i).fKind),Ap ((Ao v i).fInt),rS ((Ao v i).fStr),Ap ((Ao v i).fN)]) rfl (H':=[.blk b3 (Ab (Ao v i)) 78]) rfl (Am (Ai (AK [(0,AQ 4 (A8 Ab v)),(1,Ap i),(5,rP b3 0),(21,rB ((!decide (((Ao v i).fKind)=5))&&(!decide (((Ao v i).fKind)=6))))] [.blk b3 (Ab (Ao v i)) 78] ?_ ?_)))
 ·refine Ah (vF B4 rfl E7 (vL 0 E8 rfl (wv (CQ rfl rfl) (wm rfl (AS (!decide (((Ao v i).fKind)=5)) (λc4=>?_) (λc4=>?_))))))
  ·refine wo c4 (vF B4 rfl E7 (wo c4 (vL 0 E8 rfl (wo c4 (wv (CQ rfl rfl) (GC rfl c4 rfl (Ak ?_)))))));exact Cm c4
  ·refine wf c4 (wf c4 (wf c4 (wv (r:=rB false) (AC rfl c4 rfl) (Ak ?_))));exact Cm c4
 refine cz h2 rfl (λc5 h6=>?_) (λc5 h7=>?_)
 ·refine Ag (wa rfl (Am (Av (Ac ?_))));obtain rfl:=Aw h6;exact Au (BQ Tryz.results83 (AG rfl)) (sS sN) ⟨rfl,rfl⟩
 ·refine Ar (AJ (Ag (wa rfl (Bv (wm rfl (ck h7 λg8 h9=>wv (Bk rfl rfl g8) (wa rfl (Am (Ai (Ag (wa rfl (Am (A9 (ob h9 λhr hs ht=>Bg (S:=Nat×(Int×Int×Int)×(Unit)) (V:=(Int)×(Unit)) 0 (λσ=>B7 (λσ=>CP F v i hf σ.1 σ.2.1 σ.2.2) σ.1 σ.2.1=some hr) (λσ=>[(0,AQ 4 (A8 Ab v)),(5,rP b3 0),(6,Ap σ.2.1.1),(7,Ap σ.2.1.2.1),(8,Ap σ.2.1.2.2)]) (λσ=>[.blk b3 (Ab (Ao v i)) 78]) (λσ=>σ.1) (F,(0,i+1,0),()) hs (A6.c5 rfl rfl rfl rfl rfl A6.nil) (sC sN) (λσ=>Ei σ.1=some r) (λσ=>[(6,Ap σ.1)]) (λσ=>[]) ?_ ?_))))))))))))))
  ·rintro⟨gi,⟨hd,ha,hb⟩,⟨⟩⟩ hu;refine BG (l':=[(0,AQ 4 (A8 Ab v)),(5,rP b3 0),(6,Ap hd),(7,Ap ha),(8,Ap hb)]) (H':=[.blk b3 (Ab (Ao v i)) 78]) rfl rfl ?_;obtain⟨hg,rfl,hw,hh,he⟩:=BZ hu;replace hh:CP F v i hf hd ha hb=some hw:=hh;unfold CP at hh;refine Ai (Ag (wm rfl (vF B4 rfl Ct (vL 0 CX rfl (wv (Cj rfl rfl) (Am (cz hh rfl (λhx hy=>?_) (λhx hz=>?_))))))))
   ·refine Ar (AJ (Ai (A9 (Ai (Ag (vF B4 rfl E7 (vL 0 E8 rfl (wv (B6 rfl rfl) (Am (cz hy rfl (λh0 h1=>?_) (λh0 h3=>?_)))))))))))
    ·refine Ah (wm rfl (ck h1 λh4 h5=>wv (Bk rfl rfl h4) (wa rfl (Bv (wm rfl (wm rfl (ob h5 λhk h8 hA=>CG Tryz.call83 (hj v (ha+1) hk h8) rfl (wa rfl (Am (Ai (Ag (wm rfl (wm rfl (wv (C3 rfl rfl) (Am (cz hA rfl (λhB hC=>?_) (λhB hD=>?_)))))))))))))))))
     ·refine Ah (wm rfl (wa rfl (Am (Ah (wm rfl (wm rfl (ob hC λhl hE hG=>CG NM (GW F v (ha+1) hl hE) rfl (wa rfl (Ak (AA (AJ (Ah (wm rfl (ck hG λhH hI=>wv (Bk rfl rfl hH) (wa rfl (Ak ?_))))))))))))))));have hJ:=Ba hI he;exact Az (A3 (hg,(hk,hl,hb+1),()) ⟨hJ,AcM _⟩ (A6.c5 rfl rfl rfl rfl rfl A6.nil) (sC sN))
     ·refine Ar (AJ (Ah (wm rfl (wm rfl (ob hD λhm hK hL=>CG NM (GW F v (ha+1) hm hK) rfl (wa rfl (Ak (AA (AJ (Ah (wm rfl (ck hL λhN hO=>wv (Bk rfl rfl hN) (wa rfl (Ak ?_))))))))))))));have hP:=Ba hO he;exact Az (A3 (hg,(hd,hm,hb+1),()) ⟨hP,AcM _⟩ (A6.c5 rfl rfl rfl rfl rfl A6.nil) (sC sN))
    ·refine Ar (AJ (Ag (wm rfl (wm rfl (ob h3 λhn hQ hR=>CG Tryz.call83 (hj v ha hn hQ) rfl (wa rfl (Am (Ai (Ag (wm rfl (wm rfl (wv (C3 rfl rfl) (Am (cz hR rfl (λhS hT=>?_) (λhS hU=>?_)))))))))))))))
     ·refine Ah (wm rfl (wa rfl (Am (Ah (wm rfl (wm rfl (ob hT λho hV hW=>CG NM (GW F v ha ho hV) rfl (wa rfl (Ak (AA (AJ (Ah (wm rfl (ck hW λhX hY=>wv (Bk rfl rfl hX) (wa rfl (Ak ?_))))))))))))))));have hZ:=Ba hY he;exact Az (A3 (hg,(hn,ho,hb+1),()) ⟨hZ,AcM _⟩ (A6.c5 rfl rfl rfl rfl rfl A6.nil) (sC sN))
     ·refine Ar (AJ (Ah (wm rfl (wm rfl (ob hU λhp ga gb=>CG NM (GW F v ha hp ga) rfl (wa rfl (Ak (AA (AJ (Ah (wm rfl (ck gb λgc gd=>wv (Bk rfl rfl gc) (wa rfl (Ak ?_))))))))))))));have ge:=Ba gd he;exact Az (A3 (hg,(hd,hp,hb+1),()) ⟨ge,AcM _⟩ (A6.c5 rfl rfl rfl rfl rfl A6.nil) (sC sN))
   ·refine Bl (As ?_);have gf:=BB hz he ht;exact As (AV (A3 (hd,()) gf (A6.c rfl A6.nil) (sS sN)))
  ·rintro⟨hq,⟨⟩⟩ hi;refine Cb (l':=[(6,Ap hq)]) (H':=[]) rfl rfl ?_;replace hi:Ei hq=some r:=hi;unfold Ei at hi;refine AW (AJ (Ag (wm rfl (ck hi λgg gh=>wv (Bk rfl rfl gg) (wa rfl (Am (Av ?_)))))));obtain rfl:=Aw gh;exact Au (BQ Tryz.results83 (AG rfl)) sN ⟨rfl,rfl⟩
theorem MV:∀F:Nat,(∀(v:(List Aa)) (i:Int) (r:Int),Di F v i=some r→Fn Tryz.prog GE 83 [AQ 4 (A8 Ab v),Ap i] [] (λR H=>R=Ap r∧H=[]))
  | 0=>(λ_ _ _ h=>by simp[Di] at h)
  | nn+1=>(λv i r h=>SU nn (Di nn) (MV nn) v i r (by rw[Di] at h;exact h))
theorem UY (F:Nat)(v:(List Aa))(i:Int)(r:Int)(h:Di F v i=some r):Fn Tryz.prog GE 83 [AQ 4 (A8 Ab v),Ap i] [] (λR H=>R=Ap r∧H=[]):=(MV F) v i r h
theorem Mt (F:Nat)(s:Af)(r:Af)(h:IX F s=some r):Fn Tryz.prog GE 92 [rS s] [] (λR H=>R=rS r∧H=[]):=by
 refine enter (n:=32) Tryz.func92 rfl Tryz.ntmps92 rfl (λw Z=>?_);unfold IX at h;refine Ag (wv (r:=rS ([]:Af)) (Ax rfl) (Bv (wv (r:=rS ([34]:Af)) (Ax rfl) (Am (Ai (Ag (wa rfl (Am (A9 (ob h λhm hn ho=>Bg (S:=Nat×(Af×Int)×(Unit)) (V:=(Af)×(Unit)) 0 (λσ=>B7 (λσ=>Df s σ.1 σ.2) σ.1 σ.2.1=some hm) (λσ=>[(0,rS s),(3,rS σ.2.1.1),(4,Ap σ.2.1.2)]) (λσ=>[]) (λσ=>σ.1) (F,(([34]:Af),0),()) hn (A6.c rfl (A6.c rfl (A6.c rfl A6.nil))) sN (λσ=>DD σ.1=some r) (λσ=>[(3,rS σ.1)]) (λσ=>[]) ?_ ?_))))))))))
 ·rintro⟨hL,⟨hd,ha⟩,⟨⟩⟩ hp;refine BG (l':=[(0,rS s),(3,rS hd),(4,Ap ha)]) (H':=[]) rfl rfl ?_;obtain⟨hh,rfl,hq,he,hg⟩:=BZ hp;replace he:Df s hd ha=some hq:=he;unfold Df at he;refine Ai (Ag (wm rfl (wm rfl (wv (Bj Ce rfl) (wv (Cj rfl rfl) (Am (cz he rfl (λhr hs=>?_) (λhr ht=>?_))))))))
  ·refine Ar (AJ (Ai (A9 (Ai (ck hs λhi hu=>AK [(0,rS s),(3,rS hd),(4,Ap ha),(20,rB ((decide ((Bm s ha)=34))||(decide ((Bm s ha)=92))))] [] ?_ ?_)))))
   ·refine Ah (wm rfl (wm rfl (wv (Bq Ce rfl rfl hi) (wv (B6 rfl rfl) (wm rfl (AS (decide ((Bm s ha)=34)) (λhb=>?_) (λhb=>?_)))))))
    ·refine wf hb (wf hb (wf hb (wf hb (wv (r:=rB true) (A1 rfl hb rfl) (Ak ?_)))));exact Cm hb
    ·refine wo hb (wm rfl (wo hb (wm rfl (wo hb (wv (Bq Ce rfl rfl hi) (wo hb (wv (B6 rfl rfl) (GK rfl hb rfl (Ak ?_)))))))));exact Cm hb
   refine cz hu rfl (λhw hx=>?_) (λhw hy=>?_)
   ·refine Ah (wm rfl (ck hx λhz h0=>wv (Da rfl rfl hz) (wa rfl (Am (Ah (wm rfl (wm rfl (wm rfl (wm rfl (ck h0 λhj h1=>wv (Bk rfl rfl hj) (ck h1 λh2 h3=>ck h3 λh4 h5=>wv (G3 Ce rfl rfl rfl h2 h4) (ck h5 λh6 h7=>wv (Da rfl rfl h6) (wa rfl (Ak (AA (AJ (Ah (wm rfl ?_))))))))))))))))));refine wv (Bk rfl rfl hj) (wa rfl (Ak ?_));have h8:=Ba h7 hg;exact Az (A3 (hh,((hd++([92]:Af))++(List.take (B3 (ha+1)-B3 ha) (List.drop (B3 ha) s)),ha+1),()) ⟨h8,AcM _⟩ (A6.c rfl (A6.c rfl (A6.c rfl A6.nil))) sN)
   ·refine Ar (AJ (Ah (wm rfl (wm rfl (wm rfl (wm rfl (ck hy λhk h9=>wv (Bk rfl rfl hk) (ck h9 λhA hB=>ck hB λhC hD=>wv (G3 Ce rfl rfl rfl hA hC) (ck hD λhE hG=>wv (Da rfl rfl hE) (wa rfl (Ak (AA (AJ (Ah (wm rfl (wv (Bk rfl rfl hk) (wa rfl (Ak ?_))))))))))))))))));have hH:=Ba hG hg;exact Az (A3 (hh,(hd++(List.take (B3 (ha+1)-B3 ha) (List.drop (B3 ha) s)),ha+1),()) ⟨hH,AcM _⟩ (A6.c rfl (A6.c rfl (A6.c rfl A6.nil))) sN)
  ·refine Bl (As ?_);have hI:=BB ht hg ho;exact As (AV (A3 (hd,()) hI (A6.c rfl A6.nil) sN))
 ·rintro⟨hl,⟨⟩⟩ hf;refine Cb (l':=[(3,rS hl)]) (H':=[]) rfl rfl ?_;replace hf:DD hl=some r:=hf;unfold DD at hf;refine AW (AJ (Ag (wm rfl (ck hf λhJ hK=>wv (Da rfl rfl hJ) (wa rfl (Am (Av ?_)))))));obtain rfl:=Aw hK;exact Au (BQ Tryz.results92 (AG rfl)) sN ⟨rfl,rfl⟩
theorem WP (F:Nat)(hf:(List Aa)→Int→Option (Af))(hg:(∀(v:(List Aa)) (i:Int) (r:Af),hf v i=some r→Fn Tryz.prog GE 69 [AQ 4 (A8 Ab v),Ap i] [] (λR H=>R=rS r∧H=[])))(v:(List Aa))(i:Int)(r:Af)(h:Mr F hf v i=some r):Fn Tryz.prog GE 69 [AQ 4 (A8 Ab v),Ap i] [] (λR H=>R=rS r∧H=[]):=by
 refine enter (n:=77) Tryz.func69 rfl Tryz.ntmps69 rfl (λw Z=>?_);unfold Mr at h;refine Ag (wv (r:=rS ([]:Af)) (Ax rfl) (Bv (wm rfl (wm rfl (ck h λg1 h2=>wv (Bb (enc:=Ab) (ys:=v) Cg CK rfl rfl g1) (wv (Dc NN CK rfl rfl rfl) (BM (cs:=[Ap 0,Ap 0,rS ([]:Af),Ap 0]) KO rfl rfl (λb3=>?_))))))));refine Bh (i:=0) CK rfl rfl rfl (BJ.c rfl) rfl rfl (cs':=[Ap ((Ao v i).fKind),Ap ((Ao v i).fInt),rS ((Ao v i).fStr),Ap ((Ao v i).fN)]) rfl (H':=[.blk b3 (Ab (Ao v i)) 78]) rfl (Am (Ai (Ag (vF B4 rfl E7 (vL 0 E8 rfl (wv (B6 rfl rfl) (Am (cz h2 rfl (λc4 h5=>?_) (λc4 h6=>?_)))))))))
 ·refine Ag (wv (r:=rS ([110,117,108,108]:Af)) (Ax rfl) (Am (Av (Ac ?_))));obtain rfl:=Aw h5;exact Au (BQ SF (AG rfl)) (sS sN) ⟨rfl,rfl⟩
 ·refine Ar (AJ (Ai (Ag (vF B4 rfl E7 (vL 0 E8 rfl (wv (B6 rfl rfl) (Am (cz h6 rfl (λc7 h8=>?_) (λc7 hw=>?_)))))))))
  ·refine Ai (Ag (vF B4 rfl Ct (vL 0 CX rfl (wv (B6 rfl rfl) (Am (cz h8 rfl (λc9 hx=>?_) (λc9 hy=>?_)))))))
   ·refine Ag (wv (r:=rS ([116,114,117,101]:Af)) (Ax rfl) (Am (Av (Ac (Ac ?_)))));obtain rfl:=Aw hx;exact Au (BQ SF (AG rfl)) (sS sN) ⟨rfl,rfl⟩
   ·refine Ar (AJ (Ag (wv (r:=rS ([102,97,108,115,101]:Af)) (Ax rfl) (Am (Av (Ac ?_))))));obtain rfl:=Aw hy;exact Au (BQ SF (AG rfl)) (sS sN) ⟨rfl,rfl⟩
  ·refine Ar (AJ (Ai (Ag (vF B4 rfl E7 (vL 0 E8 rfl (wv (B6 rfl rfl) (Am (cz hw rfl (λhz h0=>?_) (λhz h1=>?_)))))))))
   ·refine Ag (vF B4 rfl Ct (vL 0 CX rfl (ck h0 λg15 h3=>IU (rs:=[Ap ((Ao v i).fInt)]) (r:=rS (Lib.itoa ((Ao v i).fInt))) Tryz.call89 rfl (Abh ((Ao v i).fInt) g15) rfl rfl (wa rfl (Am (Av (Ac ?_)))))));obtain rfl:=Aw h3;exact Au (BQ SF (AG rfl)) (sS sN) ⟨rfl,rfl⟩
   ·refine Ar (AJ (Ai (Ag (vF B4 rfl E7 (vL 0 E8 rfl (wv (B6 rfl rfl) (Am (cz h1 rfl (λh4 h7=>?_) (λh4 h9=>?_)))))))))
    ·refine Ag (vF B4 rfl Cs (vL 0 CU rfl (ob h7 λhA hB hC=>CG Tryz.call92 (Mt F ((Ao v i).fStr) hA hB) rfl (wa rfl (Am (Av (Ac ?_)))))));obtain rfl:=Aw hC;exact Au (BQ SF (AG rfl)) (sS sN) ⟨rfl,rfl⟩
    ·refine Ar (AJ (Ag (wv (r:=rS ([]:Af)) (Ax rfl) (Bv (wm rfl (ck h9 λhD hE=>wv (Bk rfl rfl hD) (wa rfl (Am (Ai (Ag (wa rfl (Am (A9 (ob hE λhG hH hI=>Bg (S:=Nat×(Af×Int×Int)×(Unit)) (V:=(Af)×(Unit)) 0 (λσ=>B7 (λσ=>Eh F v i hf σ.1 σ.2.1 σ.2.2) σ.1 σ.2.1=some hG) (λσ=>[(0,AQ 4 (A8 Ab v)),(4,rS ([]:Af)),(5,rP b3 0),(6,rS σ.2.1.1),(7,Ap σ.2.1.2.1),(8,Ap σ.2.1.2.2)]) (λσ=>[.blk b3 (Ab (Ao v i)) 78]) (λσ=>σ.1) (F,(([]:Af),i+1,0),()) hH (A6.c rfl (A6.c5 rfl rfl rfl rfl rfl A6.nil)) (sC sN) (λσ=>H0 v i σ.1=some r) (λσ=>[(4,rS ([]:Af)),(5,rP b3 0),(6,rS σ.1)]) (λσ=>[.blk b3 (Ab (Ao v i)) 78]) ?_ ?_))))))))))))))
     ·rintro⟨ci,⟨hb,ha,hd⟩,⟨⟩⟩ hJ;refine BG (l':=[(0,AQ 4 (A8 Ab v)),(4,rS ([]:Af)),(5,rP b3 0),(6,rS hb),(7,Ap ha),(8,Ap hd)]) (H':=[.blk b3 (Ab (Ao v i)) 78]) rfl rfl ?_;obtain⟨hh,rfl,hK,hi,he⟩:=BZ hJ;replace hi:Eh F v i hf hb ha hd=some hK:=hi;unfold Eh at hi;refine Ai (Ag (wm rfl (vF B4 rfl Ct (vL 0 CX rfl (wv (Cj rfl rfl) (Am (cz hi rfl (λhL hN=>?_) (λhL hO=>?_))))))))
      ·refine Ar (AJ (Ai (A9 (Ai (Ag (wm rfl (wv (C3 rfl rfl) (Am (cz hN rfl (λhP hQ=>?_) (λhP hR=>?_))))))))))
       ·refine Ah (wm rfl (ck hQ λhS hT=>wv (Da rfl rfl hS) (wa rfl (Am (Ai (Ag (vF B4 rfl E7 (vL 0 E8 rfl (wv (B6 rfl rfl) (Am (cz hT rfl (λc233 hU=>?_) (λc233 hV=>?_))))))))))))
        ·refine Ag (wm rfl (wm rfl (wm rfl (ck hU λhW hX=>wv (Bb (enc:=Ab) (ys:=v) Cg CK rfl rfl hW) (wv (AN B4 rfl Cs rfl rfl) (wv (AU CU rfl rfl) (ob hX λhk hY hZ=>CG Tryz.call92 (Mt F ((Ao v ha).fStr) hk hY) rfl (ck hZ λga gb=>wv (Da rfl rfl ga) (ck gb λgc gd=>wv (Da rfl rfl gc) (wa rfl (Am (Ah (wm rfl (ck gd λge gf=>wv (Bk rfl rfl ge) (wa rfl (Bv (wm rfl (wm rfl ?_))))))))))))))))));refine wm rfl (ob gf λhl gg gh=>CG U7 (hg v (ha+1) hl gg) rfl (ck gh λgi gj=>wv (Da rfl rfl gi) (wa rfl (Am (Ah (wm rfl (wm rfl (ob gj λhm gk gl=>CG NM (GW F v (ha+1) hm gk) rfl (wa rfl (Ak (AA (AJ (Ah (wm rfl (ck gl λgm gn=>wv (Bk rfl rfl gm) (wa rfl (Ak ?_)))))))))))))))));have gp:=Ba gn he;exact Az (A3 (hh,((((hb++([44]:Af))++hk)++([58]:Af))++hl,hm,hd+1),()) ⟨gp,AcM _⟩ (A6.c rfl (A6.c5 rfl rfl rfl rfl rfl A6.nil)) (sC sN))
        ·refine Ar (AJ (Ag (wm rfl (wm rfl (wm rfl (ob hV λhn gq gr=>CG U7 (hg v ha hn gq) rfl (ck gr λgs gt=>wv (Da rfl rfl gs) (wa rfl (Am (Ah (wm rfl (wm rfl (ob gt λho gu gv=>CG NM (GW F v ha ho gu) rfl (wa rfl (Ak (AA (AJ (Ah (wm rfl (ck gv λgw gx=>?_))))))))))))))))))));refine wv (Bk rfl rfl gw) (wa rfl (Ak ?_));have gy:=Ba gx he;exact Az (A3 (hh,((hb++([44]:Af))++hn,ho,hd+1),()) ⟨gy,AcM _⟩ (A6.c rfl (A6.c5 rfl rfl rfl rfl rfl A6.nil)) (sC sN))
       ·refine Ar (AJ (Ai (Ag (vF B4 rfl E7 (vL 0 E8 rfl (wv (B6 rfl rfl) (Am (cz hR rfl (λgz g0=>?_) (λgz g2=>?_)))))))))
        ·refine Ag (wm rfl (wm rfl (wm rfl (ck g0 λg3 g4=>wv (Bb (enc:=Ab) (ys:=v) Cg CK rfl rfl g3) (wv (AN B4 rfl Cs rfl rfl) (wv (AU CU rfl rfl) (ob g4 λhp g5 g6=>CG Tryz.call92 (Mt F ((Ao v ha).fStr) hp g5) rfl (ck g6 λg7 g8=>wv (Da rfl rfl g7) (ck g8 λg9 gA=>wv (Da rfl rfl g9) (wa rfl (Am (Ah (wm rfl (ck gA λgB gC=>wv (Bk rfl rfl gB) (wa rfl (Bv (wm rfl (wm rfl ?_))))))))))))))))));refine wm rfl (ob gC λhq gD gE=>CG U7 (hg v (ha+1) hq gD) rfl (ck gE λgF gG=>wv (Da rfl rfl gF) (wa rfl (Am (Ah (wm rfl (wm rfl (ob gG λhr gH gI=>CG NM (GW F v (ha+1) hr gH) rfl (wa rfl (Ak (AA (AJ (Ah (wm rfl (ck gI λgJ gK=>wv (Bk rfl rfl gJ) (wa rfl (Ak ?_)))))))))))))))));have gL:=Ba gK he;exact Az (A3 (hh,(((hb++hp)++([58]:Af))++hq,hr,hd+1),()) ⟨gL,AcM _⟩ (A6.c rfl (A6.c5 rfl rfl rfl rfl rfl A6.nil)) (sC sN))
        ·refine Ar (AJ (Ag (wm rfl (wm rfl (wm rfl (ob g2 λhs gM gN=>CG U7 (hg v ha hs gM) rfl (ck gN λgO gP=>wv (Da rfl rfl gO) (wa rfl (Am (Ah (wm rfl (wm rfl (ob gP λht gQ gR=>CG NM (GW F v ha ht gQ) rfl (wa rfl (Ak (AA (AJ (Ah (wm rfl (ck gR λgS gT=>?_))))))))))))))))))));refine wv (Bk rfl rfl gS) (wa rfl (Ak ?_));have gU:=Ba gT he;exact Az (A3 (hh,(hb++hs,ht,hd+1),()) ⟨gU,AcM _⟩ (A6.c rfl (A6.c5 rfl rfl rfl rfl rfl A6.nil)) (sC sN))
      ·refine Bl (As ?_);have gV:=BB hO he hI;exact As (AV (A3 (hb,()) gV (A6.c rfl (A6.c rfl (A6.c rfl A6.nil))) (sC sN)))
     ·rintro⟨hu,⟨⟩⟩ hj;refine Cb (l':=[(4,rS ([]:Af)),(5,rP b3 0),(6,rS hu)]) (H':=[.blk b3 (Ab (Ao v i)) 78]) rfl rfl ?_;replace hj:H0 v i hu=some r:=hj;unfold H0 at hj;refine AW (AJ (Ai (Ag (vF B4 rfl E7 (vL 0 E8 rfl (wv (B6 rfl rfl) (Am (cz hj rfl (λgW gX=>?_) (λgW gY=>?_)))))))))
      ·refine Ag (wm rfl (ck gX λgZ ca=>wv (Da rfl rfl gZ) (ck ca λcb cc=>wv (Da rfl rfl cb) (wa rfl (Am (Av (Ac ?_)))))));obtain rfl:=Aw cc;exact Au (BQ SF (AG rfl)) (sS sN) ⟨rfl,rfl⟩
      ·refine Ar (AJ (Ag (wm rfl (ck gY λcd ce=>wv (Da rfl rfl cd) (ck ce λcf cg=>wv (Da rfl rfl cf) (wa rfl (Am (Av ?_))))))));obtain rfl:=Aw cg;exact Au (BQ SF (AG rfl)) (sS sN) ⟨rfl,rfl⟩
theorem P1:∀F:Nat,(∀(v:(List Aa)) (i:Int) (r:Af),GH F v i=some r→Fn Tryz.prog GE 69 [AQ 4 (A8 Ab v),Ap i] [] (λR H=>R=rS r∧H=[]))
  | 0=>(λ_ _ _ h=>by simp[GH] at h)
  | nn+1=>(λv i r h=>WP nn (GH nn) (P1 nn) v i r (by rw[GH] at h;exact h))
theorem TF (F:Nat)(v:(List Aa))(i:Int)(r:Af)(h:GH F v i=some r):Fn Tryz.prog GE 69 [AQ 4 (A8 Ab v),Ap i] [] (λR H=>R=rS r∧H=[]):=(P1 F) v i r h
theorem Ol (F:Nat)(v:(List Aa))(r:Int)(h:KY F v=some r):Fn Tryz.prog GE 57 [AQ 4 (A8 Ab v)] [] (λR H=>R=Ap r∧H=[]):=by
 refine enter (n:=61) Tryz.func57 rfl Tryz.ntmps57 rfl (λw Z=>?_);unfold KY at h;refine Ag (wa rfl (Am (Ai (Ag (wm rfl (ob h λr1 e3 h2=>CG Tryz.call82 (UZ F v r1 e3) rfl (wv (Ci rfl) (Am (cz h2 rfl (λc4 h5=>?_) (λc4 h6=>?_))))))))))
 ·refine Ag (wa rfl (Am (Av (Ac ?_))));obtain rfl:=Aw h5;exact Au (BQ U4 (AG rfl)) sN ⟨rfl,rfl⟩
 ·refine Ar (AJ (Ai (Ag (wa rfl (Am (A9 (ob h6 λhp hq hn=>Bg (S:=Nat×(Int)×(Unit)) (V:=(Unit)×(Unit)) 0 (λσ=>B7 (λσ=>Eu v σ) σ.1 σ.2.1=some hp) (λσ=>[(0,AQ 4 (A8 Ab v)),(3,Ap σ.2.1)]) (λσ=>[]) (λσ=>σ.1) (F,0,()) hq (A6.c rfl (A6.c rfl A6.nil)) sN (λσ=>I2 F v =some r) (λσ=>[(0,AQ 4 (A8 Ab v))]) (λσ=>[]) ?_ ?_)))))))
  ·rintro⟨ge,he,⟨⟩⟩ hr;refine BG (l':=[(0,AQ 4 (A8 Ab v)),(3,Ap he)]) (H':=[]) rfl rfl ?_;obtain⟨hs,rfl,t46,hf,hj⟩:=BZ hr;replace hf:Eu v he=some t46:=hf;unfold Eu at hf;refine Ai (Ag (wm rfl (wm rfl (wv (Be (ys:=v) (enc:=Ab) Cg rfl) (wv (Cj rfl rfl) (Am (cz hf rfl (λht hu=>?_) (λht hw=>?_))))))))
   ·refine Ar (AJ (Ai (A9 (ck hu λhk hx=>AK [(0,AQ 4 (A8 Ab v)),(3,Ap he),(35,rB ((decide (((Ao v he).fKind)=3))&&((decide (((Ao v he).fInt)<(-1000000000000)))||(decide (1000000000000<((Ao v he).fInt))))))] [] ?_ ?_))))
    ·refine Ah (wm rfl (wm rfl (wv (Bb (enc:=Ab) (ys:=v) Cg CK rfl rfl hk) (wv (AN B4 rfl E7 rfl rfl) (wv (AU E8 rfl rfl) (wv (B6 rfl rfl) (wm rfl (AS (decide (((Ao v he).fKind)=3)) (λha=>?_) (λha=>?_)))))))))
     ·refine wo ha (wm rfl (wo ha (wm rfl (wo ha (wv (Bb (enc:=Ab) (ys:=v) Cg CK rfl rfl hk) (wo ha (wv (AN B4 rfl Ct rfl rfl) (wo ha (wv (AU CX rfl rfl) (wo ha (wv (Cj rfl rfl) (wo ha (wm rfl (AS (decide (((Ao v he).fInt)<(-1000000000000))) (λhb=>?_) (λhb=>?_)))))))))))))))
      ·refine wf hb (wf hb (wf hb (wf hb (wf hb (wf hb (wo ha (wv (r:=rB true) (A1 rfl hb rfl) (GC rfl ha rfl (Ak ?_)))))))));exact Cm (And.intro ha hb)
      ·refine wo hb (wm rfl (wo hb (wm rfl (wo hb (wv (Bb (enc:=Ab) (ys:=v) Cg CK rfl rfl hk) (wo hb (wv (AN B4 rfl Ct rfl rfl) (wo hb (wv (AU CX rfl rfl) (wo hb (wv (C3 rfl rfl) (wo ha (GK rfl hb rfl (GC rfl ha rfl (Ak ?_)))))))))))))));exact Cm (And.intro ha hb)
     ·refine wf ha (wf ha (wf ha (wf ha (wf ha (wf ha (wf ha (wu (wu (wu (wu (wu (wu (wf ha (wv (r:=rB false) (AC rfl ha rfl) (Ak ?_)))))))))))))));exact Cm ha
    refine cz hx rfl (λhy hz=>?_) (λhy h0=>?_)
    ·refine Ag (wa rfl (Am (Av (Ay (Ac (Ac (AR ?_)))))));have h1:=Bo hz hj hn;refine Ay (Ac ?_);obtain rfl:=Aw h1;exact Au (BQ U4 (AG rfl)) sN ⟨rfl,rfl⟩
    ·refine Ar (AA (AJ (Ah (wm rfl (ck h0 λh3 h4=>wv (Bk rfl rfl h3) (wa rfl (Ak ?_)))))));have h7:=Ba h4 hj;exact Az (A3 (hs,he+1,()) ⟨h7,AcM _⟩ (A6.c rfl (A6.c rfl A6.nil)) sN)
   ·refine Bl (As ?_);have h8:=BB hw hj hn;exact As (AV (A3 ((),()) h8 (A6.c rfl A6.nil) sN))
  ·rintro⟨⟨⟩,⟨⟩⟩ hg;refine Cb (l':=[(0,AQ 4 (A8 Ab v))]) (H':=[]) rfl rfl ?_;replace hg:I2 F v =some r:=hg;unfold I2 at hg;refine AW (AJ (Ai (ck hg λh9 hA=>AK [(0,AQ 4 (A8 Ab v)),(43,rB ((decide (200<(v.length:Int)))||(decide (8<(ov (Di F v 0))))))] [] ?_ ?_)))
   ·refine Ah (wm rfl (wv (Be (ys:=v) (enc:=Ab) Cg rfl) (wv (C3 rfl rfl) (wm rfl (AS (decide (200<(v.length:Int))) (λhd=>?_) (λhd=>?_))))))
    ·refine wf hd (wf hd (wf hd (wv (r:=rB true) (A1 rfl hd rfl) (Ak ?_))));exact Cm hd
    ·refine wo hd (wm rfl (wo hd (CG Tryz.call83 (UY F v 0 (ov (Di F v 0)) (Jy (D6 h9 hd))) rfl (wo hd (wv (C3 rfl rfl) (GK rfl hd rfl (Ak ?_)))))));exact Cm hd
   refine cz hA rfl (λhB hC=>?_) (λhB hD=>?_)
   ·refine Ag (wa rfl (Am (Av (Ac ?_))));obtain rfl:=Aw hC;exact Au (BQ U4 (AG rfl)) sN ⟨rfl,rfl⟩
   ·refine Ar (AJ (Ai (Ag (wa rfl (Am (A9 (ob hD λhE hG ho=>Bg (S:=Nat×(Int)×(Unit)) (V:=(Unit)×(Unit)) 2 (λσ=>B7 (λσ=>Et v σ) σ.1 σ.2.1=some hE) (λσ=>[(0,AQ 4 (A8 Ab v)),(4,Ap σ.2.1)]) (λσ=>[]) (λσ=>σ.1) (F,0,()) hG (A6.c rfl (A6.c rfl A6.nil)) sN (λσ=>I1 F v =some r) (λσ=>[(0,AQ 4 (A8 Ab v))]) (λσ=>[]) ?_ ?_)))))))
    ·rintro⟨gf,hl,⟨⟩⟩ hH;refine BG (l':=[(0,AQ 4 (A8 Ab v)),(4,Ap hl)]) (H':=[]) rfl rfl ?_;obtain⟨hI,rfl,hJ,hh,hm⟩:=BZ hH;replace hh:Et v hl=some hJ:=hh;unfold Et at hh;refine Ai (Ag (wm rfl (wm rfl (wv (Be (ys:=v) (enc:=Ab) Cg rfl) (wv (Cj rfl rfl) (Am (cz hh rfl (λhK hL=>?_) (λhK hN=>?_))))))))
     ·refine Ar (AJ (Ai (A9 (Ag (wm rfl (wm rfl (ck hL λhO hP=>wv (Bb (enc:=Ab) (ys:=v) Cg CK rfl rfl hO) (wv (AN B4 rfl Cs rfl rfl) (wv (AU CU rfl rfl) (wv (Bj Ce rfl) (wv (C3 rfl rfl) (Am (cz hP rfl (λhQ hR=>?_) (λhQ hS=>?_))))))))))))))
      ·refine Ag (wa rfl (Am (Av (Ay (Ac (Ac (AR ?_)))))));have hT:=Bo hR hm ho;refine Ay (Ac ?_);obtain rfl:=Aw hT;exact Au (BQ U4 (AG rfl)) sN ⟨rfl,rfl⟩
      ·refine Ar (AA (AJ (Ah (wm rfl (ck hS λhU hV=>wv (Bk rfl rfl hU) (wa rfl (Ak ?_)))))));have hW:=Ba hV hm;exact Az (A3 (hI,hl+1,()) ⟨hW,AcM _⟩ (A6.c rfl (A6.c rfl A6.nil)) sN)
     ·refine Bl (As ?_);have hX:=BB hN hm ho;exact As (AV (A3 ((),()) hX (A6.c rfl A6.nil) sN))
    ·rintro⟨⟨⟩,⟨⟩⟩ hi;refine Cb (l':=[(0,AQ 4 (A8 Ab v))]) (H':=[]) rfl rfl ?_;replace hi:I1 F v =some r:=hi;unfold I1 at hi;refine AW (AJ (Ai (Ag (wm rfl (ob hi λhY hZ ga=>CG U7 (TF F v 0 hY hZ) rfl (wv (Bj Ce rfl) (wv (C3 rfl rfl) (Am (cz ga rfl (λgb gc=>?_) (λgb gd=>?_))))))))))
     ·refine Ag (wa rfl (Am (Av (Ac ?_))));obtain rfl:=Aw gc;exact Au (BQ U4 (AG rfl)) sN ⟨rfl,rfl⟩
     ·refine Ar (AJ (Ag (wa rfl (Am (Av ?_)))));obtain rfl:=Aw gd;exact Au (BQ U4 (AG rfl)) sN ⟨rfl,rfl⟩
theorem Va (F:Nat)(v:(List Aa))(r:Af×Int)(h:L6 F v=some r):Fn Tryz.prog GE 48 [AQ 4 (A8 Ab v)] [] (λR H=>R=C2 [rS r.1,Ap r.2]∧H=[]):=by
 refine enter (n:=12) Tryz.func48 rfl Tryz.ntmps48 rfl (λw Z=>?_);unfold L6 at h;refine Ag (wv (r:=rS ([]:Af)) (Ax rfl) (wa rfl (Bv (wm rfl (ob h λr1 e3 h2=>CG Tryz.call57 (Ol F v r1 e3) rfl (wa rfl (Am (Ai (Ag (wm rfl (wv (CQ rfl rfl) (Am (cz h2 rfl (λc4 h5=>?_) (λc4 h6=>?_))))))))))))))
 ·refine Ag (wm rfl (wv (r:=rS ([]:Af)) (Ax rfl) (wa rfl (Am (Av (Ac ?_))))));obtain rfl:=Aw h5;exact Au (DC Tryz.results48 (AG rfl) (AG rfl)) sN ⟨rfl,rfl⟩
 ·refine Ar (AJ (Ag (wm rfl (ob h6 λr7 e9 h8=>CG U7 (TF F v 0 r7 e9) rfl (wa rfl (wa rfl (Am (Av ?_))))))));obtain rfl:=Aw h8;exact Au (DC Tryz.results48 (AG rfl) (AG rfl)) sN ⟨rfl,rfl⟩
end Go.Proofs.YtjfnokmpfekniaaGreatDoor.Q
namespace Go.Proofs.YtjfnokmpfekniaaGreatDoor
open Go
set_option linter.unusedVariables false
structure A7 where
 fPairs:Bool
 fLeft:Int
 fKey:Bool
 fLast:Af
 fStarted:Bool
 deriving DecidableEq,Inhabited
structure AL where
 fDepth:Int
 fBytes:Int
 fOutside:Bool
 fLong:Bool
 deriving DecidableEq,Inhabited
def BD (n:Int):Option (Bool):=
 some ((decide ((-1000000000000)≤n))&&(decide (n≤1000000000000)))
def Ir (s:Af)(ha:Int):Option (Stp (Int) (Out (Bool) (Unit))):=
 Bf (decide (ha<(s.length:Int))) (AX (CJ ha (s.length:Int))<|Bf (((decide ((Bm s ha)<32))||(decide (126<(Bm s ha))))) (some (.out (.ret false))) (AX (B9 .i64 (ha+1))<|some (.next (ha+1)))) (some (.out (.go ())))
def Iq :Option (Bool):=
 some true
def Lr (F:Nat)(s:Af):Option (Bool):=
 Br (B7 (λσ=>Ir s σ) F 0) (B5 λν=>Iq )
def Ka (s:Af):Option (Int):=
 AX (B9 .i64 ((s.length:Int)+2))<|AX (B9 .i64 (((s.length:Int)+2)+(Lib.countByte s 34:Int)))<|AX (B9 .i64 ((((s.length:Int)+2)+(Lib.countByte s 34:Int))+(Lib.countByte s 92:Int)))<|some ((((s.length:Int)+2)+(Lib.countByte s 34:Int))+(Lib.countByte s 92:Int))
def NX (F:Nat)(c:Aa):Option (Bool):=
 Bf (decide (c.fKind=1)) (some ((decide (c.fInt=0))&&((decide (c.fStr=([]:Af)))&&(decide (c.fN=0))))) (Bf (decide (c.fKind=2)) (some (bif decide (c.fInt=0) then((decide (c.fStr=([]:Af)))&&(decide (c.fN=0))) else((decide (c.fInt=1))&&((decide (c.fStr=([]:Af)))&&(decide (c.fN=0)))))) (Bf (decide (c.fKind=3)) (some ((decide (c.fStr=([]:Af)))&&(decide (c.fN=0)))) (Bf (decide (c.fKind=4)) (AX (imp (decide (c.fInt=0)) (imp (decide (c.fN=0)) ((Lr F c.fStr).isSome)))<|some ((decide (c.fInt=0))&&((decide (c.fN=0))&&(ov (Lr F c.fStr))))) (Bf (decide (c.fKind=5)) (some ((decide (c.fInt=0))&&((decide (c.fStr=([]:Af)))&&(decide (0≤c.fN))))) (Bf (decide (c.fKind=6)) (some ((decide (c.fInt=0))&&((decide (c.fStr=([]:Af)))&&(decide (0≤c.fN))))) (some false))))))
def Rd (c:Aa):Option (Int):=
 Bf (decide (c.fKind=1)) (some 4) (Bf (decide (c.fKind=2)) (some (IntKind.wrap .i64 (5-c.fInt))) (Bf (decide (c.fKind=3)) (AX (B9 .i64 c.fInt)<|some ((Lib.itoa c.fInt).length:Int)) (Bf (decide (c.fKind=4)) (Br (Ka c.fStr) λha=>some ha) (some (IntKind.wrap .i64 (2+(max 0 (IntKind.wrap .i64 (c.fN-1)))))))))
def Eg (ha:(List A7)):Option (Stp ((List A7)) (Out ((List A7)) ((List A7)))):=
 Bf (decide (0<(ha.length:Int))) (AX (B9 .i64 ((ha.length:Int)-1))<|AX (CJ ((ha.length:Int)-1) (ha.length:Int))<|AX (B9 .i64 (((Ao ha ((ha.length:Int)-1)).fLeft)-1))<|Ll (List.set ha (Int.toNat ((ha.length:Int)-1)) (A7.mk ((Ao ha ((ha.length:Int)-1)).fPairs) (((Ao ha ((ha.length:Int)-1)).fLeft)-1) ((Ao ha ((ha.length:Int)-1)).fKey) ((Ao ha ((ha.length:Int)-1)).fLast) ((Ao ha ((ha.length:Int)-1)).fStarted))) λhb=>Bf (decide (0<((Ao hb ((ha.length:Int)-1)).fLeft))) (Ll (List.set hb (Int.toNat ((ha.length:Int)-1)) (A7.mk ((Ao hb ((ha.length:Int)-1)).fPairs) ((Ao hb ((ha.length:Int)-1)).fLeft) ((Ao hb ((ha.length:Int)-1)).fPairs) ((Ao hb ((ha.length:Int)-1)).fLast) ((Ao hb ((ha.length:Int)-1)).fStarted))) λhd=>some (.out (.ret hd))) (AX (B9 .i64 ((hb.length:Int)-1))<|AX (HU ((hb.length:Int)-1) (hb.length:Int))<|some (.next (List.take (Int.toNat ((hb.length:Int)-1)) hb)))) (some (.out (.go ha)))
def EO (ha:(List A7)):Option ((List A7)):=
 some ha
def Lw (F:Nat)(stack:(List A7)):Option ((List A7)):=
 Br (B7 (λσ=>Eg σ) F stack) (B5 λν=>EO ν)
def EB (ha:Int)(hb:(List A7))(hd:AL):Option (Stp ((List A7)×Int×AL) (Out (Int×AL×Bool) (AL))):=
 AX (B9 .i64 (ha+1))<|some (.next (hb,ha+1,hd))
def Ef (F:Nat)(v:(List Aa))(ha:(List A7))(hb:Int)(hd:AL):Option (Stp ((List A7)×Int×AL) (Out (Int×AL×Bool) (AL))):=
 Bf (decide (hb<(v.length:Int))) (AX (CJ hb (v.length:Int))<|Br (NX F (Ao v hb)) λhj=>Bf (!hj) (some (.out (.ret (0,hd,false)))) (AX (imp (decide (0<(ha.length:Int))) (B9 .i64 ((ha.length:Int)-1)))<|AX (imp (decide (0<(ha.length:Int))) (CJ ((ha.length:Int)-1) (ha.length:Int)))<|Bf (((decide (0<(ha.length:Int)))&&((Ao ha ((ha.length:Int)-1)).fKey))) (AX (B9 .i64 ((ha.length:Int)-1))<|AX (CJ ((ha.length:Int)-1) (ha.length:Int))<|Bf (((!decide (((Ao v hb).fKind)=4))||(((Ao ha ((ha.length:Int)-1)).fStarted)&&(BE ((Ao v hb).fStr) ((Ao ha ((ha.length:Int)-1)).fLast)||decide (((Ao v hb).fStr)=((Ao ha ((ha.length:Int)-1)).fLast)))))) (some (.out (.ret (0,hd,false)))) (Ll (List.set ha (Int.toNat ((ha.length:Int)-1)) (A7.mk ((Ao ha ((ha.length:Int)-1)).fPairs) ((Ao ha ((ha.length:Int)-1)).fLeft) ((Ao ha ((ha.length:Int)-1)).fKey) ((Ao v hb).fStr) ((Ao ha ((ha.length:Int)-1)).fStarted))) λhe=>Ll (List.set he (Int.toNat ((ha.length:Int)-1)) (A7.mk ((Ao he ((ha.length:Int)-1)).fPairs) ((Ao he ((ha.length:Int)-1)).fLeft) ((Ao he ((ha.length:Int)-1)).fKey) ((Ao he ((ha.length:Int)-1)).fLast) true)) λhf=>Ll (List.set hf (Int.toNat ((ha.length:Int)-1)) (A7.mk ((Ao hf ((ha.length:Int)-1)).fPairs) ((Ao hf ((ha.length:Int)-1)).fLeft) false ((Ao hf ((ha.length:Int)-1)).fLast) ((Ao hf ((ha.length:Int)-1)).fStarted))) λhk=>Br (Ka ((Ao v hb).fStr)) λhh=>AX (B9 .i64 (hh+1))<|EB hb hk (AL.mk hd.fDepth (IntKind.wrap .i64 (hd.fBytes+(hh+1))) hd.fOutside (hd.fLong||(decide (200<(((Ao v hb).fStr).length:Int))))))) (AX (B9 .i64 ((ha.length:Int)+1))<|Br (Rd (Ao v hb)) λhg=>AX (imp (!hd.fOutside) (imp (decide (((Ao v hb).fKind)=3)) ((BD ((Ao v hb).fInt)).isSome)))<|Bf (decide (0<((Ao v hb).fN))) (Bf (decide ((v.length:Int)<((Ao v hb).fN))) (some (.out (.ret (0,(AL.mk (max hd.fDepth ((ha.length:Int)+1)) (IntKind.wrap .i64 (hd.fBytes+hg)) (hd.fOutside||((decide (((Ao v hb).fKind)=3))&&(!(ov (BD ((Ao v hb).fInt)))))) (hd.fLong||(decide (200<(((Ao v hb).fStr).length:Int))))),false)))) (AX (Dw 48 (ha.length+([(A7.mk (decide (((Ao v hb).fKind)=6)) ((Ao v hb).fN) (decide (((Ao v hb).fKind)=6)) ([]:Af) false)]:List A7).length))<|EB hb (ha++([(A7.mk (decide (((Ao v hb).fKind)=6)) ((Ao v hb).fN) (decide (((Ao v hb).fKind)=6)) ([]:Af) false)]:List A7)) (AL.mk (max hd.fDepth ((ha.length:Int)+1)) (IntKind.wrap .i64 (hd.fBytes+hg)) (hd.fOutside||((decide (((Ao v hb).fKind)=3))&&(!(ov (BD ((Ao v hb).fInt)))))) (hd.fLong||(decide (200<(((Ao v hb).fStr).length:Int))))))) (Br (Lw F ha) λhi=>Bf (decide ((hi.length:Int)=0)) (AX (B9 .i64 (hb+1))<|some (.out (.ret (hb+1,(AL.mk (max hd.fDepth ((ha.length:Int)+1)) (IntKind.wrap .i64 (hd.fBytes+hg)) (hd.fOutside||((decide (((Ao v hb).fKind)=3))&&(!(ov (BD ((Ao v hb).fInt)))))) (hd.fLong||(decide (200<(((Ao v hb).fStr).length:Int))))),true)))) (EB hb hi (AL.mk (max hd.fDepth ((ha.length:Int)+1)) (IntKind.wrap .i64 (hd.fBytes+hg)) (hd.fOutside||((decide (((Ao v hb).fKind)=3))&&(!(ov (BD ((Ao v hb).fInt)))))) (hd.fLong||(decide (200<(((Ao v hb).fStr).length:Int)))))))))) (some (.out (.go hd)))
def Lt (ha:AL):Option (Int×AL×Bool):=
 some (0,ha,false)
def Jn (F:Nat)(v:(List Aa)):Option (Int×AL×Bool):=
 Br (B7 (λσ=>Ef F v σ.1 σ.2.1 σ.2.2) F (([]:List A7),0,(AL.mk 0 0 false false))) (B5 λν=>Lt ν)
def KT (F:Nat)(v:(List Aa)):Option (Int):=
 Br (Jn F v) λr1=>Bf (((!r1.2.2)||(!decide (r1.1=(v.length:Int))))) (some 1) (Bf (r1.2.1.fOutside) (some 2) (Bf ((r1.2.1.fLong||((decide (200<(v.length:Int)))||((decide (8<r1.2.1.fDepth))||(decide (4000<r1.2.1.fBytes)))))) (some 3) (some 0)))
def Lx (F:Nat)(v:(List Aa)):Option ((List Aa)×Int):=
 Br (KT F v) λr1=>Bf (!decide (r1=0)) (some (([]:List Aa),r1)) (some (v,0))
end Go.Proofs.YtjfnokmpfekniaaGreatDoor
namespace Go.Proofs.YtjfnokmpfekniaaGreatDoor.Q
open Go Go.RowKit
set_option linter.unusedVariables false
set_option linter.unusedSimpArgs false
set_option maxRecDepth 100000
set_option maxHeartbeats 4000000
@[reducible] def A5 (x:A7):List Rp:=[rB x.fPairs,Ap x.fLeft,rB x.fKey,rS x.fLast,rB x.fStarted]
theorem Jt (x:A7):(A5 x).length=5:=rfl
theorem Ns (x:A7):(A5 x).all (·.one)=true:=rfl
@[reducible] def AT (x:AL):List Rp:=[Ap x.fDepth,Ap x.fBytes,rB x.fOutside,rB x.fLong]
theorem ZT:∃inf,Tryz.prog.info? 166=some inf∧inf.zero=some (.agg #[(.bool false),(.int .i64 0),(.bool false),(.string ⟨#[]⟩),(.bool false)])∧inf.size=5∧inf.bytes=48:=by
  have key:(Tryz.prog.info? 166).map (λi=>(i.zero,i.size,i.bytes))=some (some (.agg #[(.bool false),(.int .i64 0),(.bool false),(.string ⟨#[]⟩),(.bool false)]),5,48):=by kernel_rfl
  obtain⟨inf,h1,h2⟩:=Option.map_eq_some_iff.1 key;simp only[Prod.mk.injEq] at h2;exact⟨inf,h1,h2.1,h2.2.1,h2.2.2⟩
theorem YI (parts:List (Nat×Value)):Tryz.prog.built 166 parts=Instr.fill (λi=>(#[(0,1),(1,1),(2,1),(3,1),(4,1)]:Array (Nat×Nat))[i]?) #[(.bool false),(.int .i64 0),(.bool false),(.string ⟨#[]⟩),(.bool false)] parts:=by kernel_rfl
theorem M1 {n:Nat}{c:Cx}{l:Fr}{H:List Ent}{d:Option Nat}{ty:TypeId}{pos:String}{af:Array Edge}{g:Option (Nat×Bool)}{x0:Operand}{r0:Rp}(h0:ev l x0=some r0)(u0:r0.one=true){x1:Operand}{r1:Rp}(h1:ev l x1=some r1)(u1:r1.one=true){x2:Operand}{r2:Rp}(h2:ev l x2=some r2)(u2:r2.one=true):Bn Tryz.prog n c l H { dst:=d,op:=.build 166 #[(0,x0),(1,x1),(2,x2)],type:=ty,pos:=pos,after:=af,guard:=g } (BK [r0,r1,r2,rS ([]:Af),rB false]):=λa w Z ha _=>by
  have p0:=ha.ev h0;have c0:=BA (r0.hone u0 Z _ p0);have p1:=ha.ev h1;have c1:=BA (r1.hone u1 Z _ p1);have p2:=ha.ev h2;have c2:=BA (r2.hone u2 Z _ p2);have hb:Tryz.prog.built 166 [(0,a.eval x0),(1,a.eval x1),(2,a.eval x2)]=some #[a.eval x0,a.eval x1,a.eval x2,(.string ⟨#[]⟩),(.bool false)]:=by
    rw[YI];generalize a.eval x0=v0 at *;generalize a.eval x1=v1 at *;generalize a.eval x2=v2 at *;simp[Instr.fill,c0,c1,c2]
  refine⟨.agg #[a.eval x0,a.eval x1,a.eval x2,(.string ⟨#[]⟩),(.bool false)],⟨[a.eval x0,a.eval x1,a.eval x2,(.string ⟨#[]⟩),(.bool false)],rfl,p0,p1,p2,rfl,rfl,trivial⟩,?_⟩;have:=run_build w 166 #[(0,a.eval x0),(1,a.eval x1),(2,a.eval x2)] _ (by simpa using hb);simp[execOp,this]
theorem X5 (n:Int)(r:Bool)(h:BD n=some r):Fn Tryz.prog GE 99 [Ap n] [] (λR H=>R=rB r∧H=[]):=by
 refine enter (n:=9) Tryz.func99 rfl Tryz.ntmps99 rfl (λw Z=>?_);unfold BD at h;refine Ag (wa rfl (Am (AK [(2,rB ((decide ((-1000000000000)≤n))&&(decide (n≤1000000000000))))] [] ?_ ?_)))
 ·refine Ah (wm rfl (wv (M0 rfl rfl) (wm rfl (AS (decide ((-1000000000000)≤n)) (λc1=>?_) (λc1=>?_)))))
  ·refine wo c1 (wm rfl (wo c1 (wv (M0 rfl rfl) (GC rfl c1 rfl (wa rfl (Ak ?_))))));exact Cm c1
  ·refine wf c1 (wf c1 (wv (r:=rB false) (AC rfl c1 rfl) (wa rfl (Ak ?_))));exact Cm c1
 refine Av ?_;obtain rfl:=Aw h;exact Au (BQ Tryz.results99 (AG rfl)) sN ⟨rfl,rfl⟩
theorem Zp (F:Nat)(s:Af)(r:Bool)(h:Lr F s=some r):Fn Tryz.prog GE 163 [rS s] [] (λR H=>R=rB r∧H=[]):=by
 refine enter (n:=20) Tryz.func163 rfl Tryz.ntmps163 rfl (λw Z=>?_);unfold Lr at h;refine Ag (wa rfl (Am (Ai (Ag (wm rfl (wv (Bj Ce rfl) (wv (r:=Ap 0) (Al rfl) (Am (A9 (ob h λhi hj hg=>Bg (S:=Nat×(Int)×(Unit)) (V:=(Unit)×(Unit)) 0 (λσ=>B7 (λσ=>Ir s σ) σ.1 σ.2.1=some hi) (λσ=>[(0,rS s),(5,Ap (s.length:Int)),(6,Ap σ.2.1)]) (λσ=>[]) (λσ=>σ.1) (F,0,()) hj (A6.c rfl (A6.c rfl (A6.c rfl A6.nil))) sN (λσ=>Iq =some r) (λσ=>[]) (λσ=>[]) ?_ ?_))))))))))
 ·rintro⟨hz,hb,⟨⟩⟩ hk;refine BG (l':=[(0,rS s),(5,Ap (s.length:Int)),(6,Ap hb)]) (H':=[]) rfl rfl ?_;obtain⟨hl,rfl,t37,hd,hf⟩:=BZ hk;replace hd:Ir s hb=some t37:=hd;unfold Ir at hd;refine Ag (wv (Cj rfl rfl) (Am (Ai (cz hd rfl (λhm hn=>?_) (λhm ho=>?_)))))
  ·refine Ar (AJ (Ai (A9 (Ag (wm rfl (wa rfl (Am (ck hn λhh hp=>AK [(0,rS s),(5,Ap (s.length:Int)),(6,Ap hb),(18,rB ((decide ((Bm s hb)<32))||(decide (126<(Bm s hb)))))] [] ?_ ?_))))))))
   ·refine Ah (wm rfl (wm rfl (wv (Bq Ce rfl rfl hh) (wv (Cj rfl rfl) (wm rfl (AS (decide ((Bm s hb)<32)) (λha=>?_) (λha=>?_)))))))
    ·refine wf ha (wf ha (wf ha (wf ha (wv (r:=rB true) (A1 rfl ha rfl) (Ak ?_)))));exact Cm ha
    ·refine wo ha (wm rfl (wo ha (wm rfl (wo ha (wv (Bq Ce rfl rfl hh) (wo ha (wv (C3 rfl rfl) (GK rfl ha rfl (Ak ?_)))))))));exact Cm ha
   refine cz hp rfl (λhq hr=>?_) (λhq hs=>?_)
   ·refine Ag (wa rfl (Am (Av (Ay (Ac (Ac (AR ?_)))))));have ht:=Bo hr hf hg;refine Ay (Ac ?_);obtain rfl:=Aw ht;exact Au (BQ Tryz.results163 (AG rfl)) sN ⟨rfl,rfl⟩
   ·refine Ar (AA (AJ (Ah (ck hs λhu hw=>wv (Bk rfl rfl hu) (wm rfl (Ak ?_))))));have hx:=Ba hw hf;exact Az (A3 (hl,hb+1,()) ⟨hx,AcM _⟩ (A6.c rfl (A6.c rfl (A6.c rfl A6.nil))) sN)
  ·refine Bl (As ?_);have hy:=BB ho hf hg;exact As (AV (A3 ((),()) hy A6.nil sN))
 ·rintro⟨⟨⟩,⟨⟩⟩ he;refine Cb (l':=[]) (H':=[]) rfl rfl ?_;replace he:Iq =some r:=he;unfold Iq at he;refine AW (AJ (Ag (wa rfl (Am (Av ?_)))));obtain rfl:=Aw he;exact Au (BQ Tryz.results163 (AG rfl)) sN ⟨rfl,rfl⟩
theorem Pt (s:Af)(r:Int)(h:Ka s=some r):Fn Tryz.prog GE 145 [rS s] [] (λR H=>R=Ap r∧H=[]):=by
 refine enter (n:=12) Tryz.func145 rfl Tryz.ntmps145 rfl (λw Z=>?_);unfold Ka at h;refine Ag (wa rfl (Bv (wm rfl (wv (Bj Ce rfl) (ck h λg1 h2=>wv (Bk rfl rfl g1) (wm rfl (IU (rs:=[rS s,rS ([34]:Af)]) (r:=Ap (Lib.countByte s 34:Int)) Tryz.call164 rfl (Uu s 34) rfl rfl (ck h2 λg3 h4=>wv (Bk rfl rfl g3) (wm rfl (IU (rs:=[rS s,rS ([92]:Af)]) (r:=Ap (Lib.countByte s 92:Int)) Tryz.call164 rfl (Uu s 92) rfl rfl (ck h4 λg5 h6=>wv (Bk rfl rfl g5) (wa rfl (Am (Av ?_))))))))))))));obtain rfl:=Aw h6;exact Au (BQ Tryz.results145 (AG rfl)) sN ⟨rfl,rfl⟩
theorem Wz (F:Nat)(c:Aa)(r:Bool)(h:NX F c=some r):Fn Tryz.prog GE 144 [BK (Ab c)] [] (λR H=>R=rB r∧H=[]):=by
 refine enter (n:=81) Tryz.func144 rfl Tryz.ntmps144 rfl (λw Z=>?_);unfold NX at h;refine Ag (DR rfl rfl (λb1=>?_));refine wa rfl (Am (Ai (Ag (vF B4 rfl E7 (vL 0 E8 rfl (Am (A9 (Ag (wv (B6 rfl rfl) (wa rfl (Am (cz h rfl (λc2 h3=>?_) (λc2 h6=>?_)))))))))))))
 ·refine AK [(2,rB ((decide (c.fInt=0))&&((decide (c.fStr=([]:Af)))&&(decide (c.fN=0)))))] [] ?_ ?_
  ·refine Ah (vF B4 rfl Ct (vL 0 CX rfl (wv (B6 rfl rfl) (wm rfl (AS (decide (c.fInt=0)) (λc4=>?_) (λc4=>?_))))))
   ·refine wo c4 (vF B4 rfl Cs (wo c4 (vL 0 CU rfl (wo c4 (wv (EC rfl rfl) (GC rfl c4 rfl (wm rfl (AS (decide (c.fStr=([]:Af))) (λc5=>?_) (λc5=>?_)))))))))
    ·refine wo c5 (vF B4 rfl Ct (wo c5 (vL 0 CX rfl (wo c5 (wv (B6 rfl rfl) (GC rfl c5 rfl (wa rfl (Ak ?_))))))));exact Cm (And.intro c4 c5)
    ·refine wf c5 (wf c5 (wf c5 (wv (r:=rB false) (AC rfl c5 rfl) (wa rfl (Ak ?_)))));exact Cm (And.intro c4 c5)
   ·refine wf c4 (wf c4 (wf c4 (wv (r:=rB false) (AC rfl c4 rfl) (wm rfl (wz rfl rfl (wz rfl rfl (wz rfl rfl (wv (r:=rB false) (AC (b:=false) rfl rfl rfl) (wa rfl (Ak ?_))))))))));exact Cm c4
  refine Av (Ay (Ac ?_));obtain rfl:=Aw h3;exact Au (BQ NL (AG rfl)) sN ⟨rfl,rfl⟩
 ·refine Ag (wv (B6 rfl rfl) (wa rfl (Am (cz h6 rfl (λc7 h8=>?_) (λc7 hm=>?_)))))
  ·refine AK [(2,rB (bif decide (c.fInt=0) then((decide (c.fStr=([]:Af)))&&(decide (c.fN=0))) else((decide (c.fInt=1))&&((decide (c.fStr=([]:Af)))&&(decide (c.fN=0))))))] [] ?_ ?_
   ·refine Ah (vF B4 rfl Ct (vL 0 CX rfl (wv (B6 rfl rfl) (wm rfl (AS (decide (c.fInt=0)) (λc9=>?_) (λc9=>?_))))))
    ·refine wf c9 (wf c9 (wf c9 (wv (r:=rB true) (A1 rfl c9 rfl) (wm rfl (Bt (b:=true) rfl rfl rfl (vF B4 rfl Cs (Bt (b:=true) rfl rfl rfl (vL 0 CU rfl (Bt (b:=true) rfl rfl rfl (wv (EC rfl rfl) (wv (r:=rB (decide (c.fStr=([]:Af)))) (A1 (b:=true) rfl rfl rfl) (wm rfl (AS (decide (c.fStr=([]:Af))) (λhg=>?_) (λhg=>?_))))))))))))))
     ·refine wo hg (vF B4 rfl Ct (wo hg (vL 0 CX rfl (wo hg (wv (B6 rfl rfl) (GC rfl hg rfl (wa rfl (Ak ?_))))))));exact Cm (And.intro c9 hg)
     ·refine wf hg (wf hg (wf hg (wv (r:=rB false) (AC rfl hg rfl) (wa rfl (Ak ?_)))));exact Cm (And.intro c9 hg)
    ·refine wo c9 (vF B4 rfl Ct (wo c9 (vL 0 CX rfl (wo c9 (wv (B6 rfl rfl) (GK rfl c9 rfl (wm rfl (AS (decide (c.fInt=1)) (λhb=>?_) (λhb=>?_)))))))))
     ·refine wo hb (vF B4 rfl Cs (wo hb (vL 0 CU rfl (wo hb (wv (EC rfl rfl) (GC rfl hb rfl (wm rfl (AS (decide (c.fStr=([]:Af))) (λhh=>?_) (λhh=>?_)))))))))
      ·refine wo hh (vF B4 rfl Ct (wo hh (vL 0 CX rfl (wo hh (wv (B6 rfl rfl) (GC rfl hh rfl (wa rfl (Ak ?_))))))));exact Cm (And.intro c9 (And.intro hb hh))
      ·refine wf hh (wf hh (wf hh (wv (r:=rB false) (AC rfl hh rfl) (wa rfl (Ak ?_)))));exact Cm (And.intro c9 (And.intro hb hh))
     ·refine wf hb (wf hb (wf hb (wv (r:=rB false) (AC rfl hb rfl) (wm rfl (wz rfl rfl (wz rfl rfl (wz rfl rfl (wv (r:=rB false) (AC (b:=false) rfl rfl rfl) (wa rfl (Ak ?_))))))))));exact Cm (And.intro c9 hb)
   refine Av (Ay (Ac ?_));obtain rfl:=Aw h8;exact Au (BQ NL (AG rfl)) sN ⟨rfl,rfl⟩
  ·refine Ag (wv (B6 rfl rfl) (wa rfl (Am (cz hm rfl (λhn ho=>?_) (λhn hp=>?_)))))
   ·refine AK [(2,rB ((decide (c.fStr=([]:Af)))&&(decide (c.fN=0))))] [] ?_ ?_
    ·refine Ah (vF B4 rfl Cs (vL 0 CU rfl (wv (EC rfl rfl) (wm rfl (AS (decide (c.fStr=([]:Af))) (λhi=>?_) (λhi=>?_))))))
     ·refine wo hi (vF B4 rfl Ct (wo hi (vL 0 CX rfl (wo hi (wv (B6 rfl rfl) (GC rfl hi rfl (wa rfl (Ak ?_))))))));exact Cm hi
     ·refine wf hi (wf hi (wf hi (wv (r:=rB false) (AC rfl hi rfl) (wa rfl (Ak ?_)))));exact Cm hi
    refine Av (Ay (Ac ?_));obtain rfl:=Aw ho;exact Au (BQ NL (AG rfl)) sN ⟨rfl,rfl⟩
   ·refine Ag (wv (B6 rfl rfl) (wa rfl (Am (cz hp rfl (λhq hr=>?_) (λhq hs=>?_)))))
    ·refine ck hr λht hu=>AK [(2,rB ((decide (c.fInt=0))&&((decide (c.fN=0))&&(ov (Lr F c.fStr)))))] [] ?_ ?_
     ·refine Ah (vF B4 rfl Ct (vL 0 CX rfl (wv (B6 rfl rfl) (wm rfl (AS (decide (c.fInt=0)) (λha=>?_) (λha=>?_))))))
      ·refine wo ha (vF B4 rfl Ct (wo ha (vL 0 CX rfl (wo ha (wv (B6 rfl rfl) (GC rfl ha rfl (wm rfl (AS (decide (c.fN=0)) (λhd=>?_) (λhd=>?_)))))))))
       ·refine wo hd (vF B4 rfl Cs (wo hd (vL 0 CU rfl (wo hd (CG Tryz.call163 (Zp F c.fStr (ov (Lr F c.fStr)) (Jy (DP (DP ht ha) hd))) rfl (GC rfl hd rfl (wa rfl (Ak ?_))))))));exact Cm (And.intro ha hd)
       ·refine wf hd (wf hd (wf hd (wv (r:=rB false) (AC rfl hd rfl) (wa rfl (Ak ?_)))));exact Cm (And.intro ha hd)
      ·refine wf ha (wf ha (wf ha (wv (r:=rB false) (AC rfl ha rfl) (wm rfl (wz rfl rfl (wz rfl rfl (wz rfl rfl (wv (r:=rB false) (AC (b:=false) rfl rfl rfl) (wa rfl (Ak ?_))))))))));exact Cm ha
     refine Av (Ay (Ac ?_));obtain rfl:=Aw hu;exact Au (BQ NL (AG rfl)) sN ⟨rfl,rfl⟩
    ·refine Ai (Ag (wv (B6 rfl rfl) (wa rfl (Am (cz hs rfl (λhl hw=>?_) (λhl hx=>?_))))))
     ·refine Ar (AJ (Gx rfl hl (AK [(2,rB ((decide (c.fInt=0))&&((decide (c.fStr=([]:Af)))&&(decide (0≤c.fN)))))] [] ?_ ?_)))
      ·refine Ah (vF B4 rfl Ct (vL 0 CX rfl (wv (B6 rfl rfl) (wm rfl (AS (decide (c.fInt=0)) (λhe=>?_) (λhe=>?_))))))
       ·refine wo he (vF B4 rfl Cs (wo he (vL 0 CU rfl (wo he (wv (EC rfl rfl) (GC rfl he rfl (wm rfl (AS (decide (c.fStr=([]:Af))) (λhj=>?_) (λhj=>?_)))))))))
        ·refine wo hj (vF B4 rfl Ct (wo hj (vL 0 CX rfl (wo hj (wv (H5 rfl rfl) (GC rfl hj rfl (wa rfl (Ak ?_))))))));exact Cm (And.intro he hj)
        ·refine wf hj (wf hj (wf hj (wv (r:=rB false) (AC rfl hj rfl) (wa rfl (Ak ?_)))));exact Cm (And.intro he hj)
       ·refine wf he (wf he (wf he (wv (r:=rB false) (AC rfl he rfl) (wm rfl (wz rfl rfl (wz rfl rfl (wz rfl rfl (wv (r:=rB false) (AC (b:=false) rfl rfl rfl) (wa rfl (Ak ?_))))))))));exact Cm he
      refine Av (Ay (Ac ?_));obtain rfl:=Aw hw;exact Au (BQ NL (AG rfl)) sN ⟨rfl,rfl⟩
     ·refine Ah (wv (B6 rfl rfl) (wa rfl (Am (cz hx rfl (λhy hz=>?_) (λhy h0=>?_)))))
      ·refine AK [(2,rB ((decide (c.fInt=0))&&((decide (c.fStr=([]:Af)))&&(decide (0≤c.fN)))))] [] ?_ ?_
       ·refine Ah (vF B4 rfl Ct (vL 0 CX rfl (wv (B6 rfl rfl) (wm rfl (AS (decide (c.fInt=0)) (λhf=>?_) (λhf=>?_))))))
        ·refine wo hf (vF B4 rfl Cs (wo hf (vL 0 CU rfl (wo hf (wv (EC rfl rfl) (GC rfl hf rfl (wm rfl (AS (decide (c.fStr=([]:Af))) (λhk=>?_) (λhk=>?_)))))))))
         ·refine wo hk (vF B4 rfl Ct (wo hk (vL 0 CX rfl (wo hk (wv (H5 rfl rfl) (GC rfl hk rfl (wa rfl (Ak ?_))))))));exact Cm (And.intro hf hk)
         ·refine wf hk (wf hk (wf hk (wv (r:=rB false) (AC rfl hk rfl) (wa rfl (Ak ?_)))));exact Cm (And.intro hf hk)
        ·refine wf hf (wf hf (wf hf (wv (r:=rB false) (AC rfl hf rfl) (wm rfl (wz rfl rfl (wz rfl rfl (wz rfl rfl (wv (r:=rB false) (AC (b:=false) rfl rfl rfl) (wa rfl (Ak ?_))))))))));exact Cm hf
       refine Av (Ay (Ac ?_));obtain rfl:=Aw hz;exact Au (BQ NL (AG rfl)) sN ⟨rfl,rfl⟩
      ·refine Ar (AA (AJ (Ag (wa rfl (Am (Av ?_))))));obtain rfl:=Aw h0;exact Au (BQ NL (AG rfl)) (sS sN) ⟨rfl,rfl⟩
theorem Zq (c:Aa)(r:Int)(h:Rd c=some r):Fn Tryz.prog GE 146 [BK (Ab c)] [] (λR H=>R=Ap r∧H=[]):=by
 refine enter (n:=28) Tryz.func146 rfl Tryz.ntmps146 rfl (λw Z=>?_);unfold Rd at h;refine Ag (DR rfl rfl (λb1=>?_));refine wa rfl (Am (Ai (Ag (vF B4 rfl E7 (vL 0 E8 rfl (Am (A9 (Ag (wv (B6 rfl rfl) (wa rfl (Am (cz h rfl (λc2 h3=>?_) (λc2 h4=>?_)))))))))))))
 ·refine Ag (wa rfl (Am (Av (Ay (Ac ?_)))));obtain rfl:=Aw h3;exact Au (BQ QW (AG rfl)) (sS sN) ⟨rfl,rfl⟩
 ·refine Ag (wv (B6 rfl rfl) (wa rfl (Am (cz h4 rfl (λc5 h6=>?_) (λc5 h7=>?_)))))
  ·refine Ag (vF B4 rfl Ct (vL 0 CX rfl (wv (r:=Ap (IntKind.wrap .i64 (5-c.fInt))) (Xu rfl rfl) (wa rfl (Am (Av (Ay (Ac ?_))))))));obtain rfl:=Aw h6;exact Au (BQ QW (AG rfl)) (sS sN) ⟨rfl,rfl⟩
  ·refine Ag (wv (B6 rfl rfl) (wa rfl (Am (cz h7 rfl (λc8 h9=>?_) (λc8 ha=>?_)))))
   ·refine Ag (vF B4 rfl Ct (vL 0 CX rfl (ck h9 λhb hd=>IU (rs:=[Ap c.fInt]) (r:=rS (Lib.itoa c.fInt)) Tryz.call67 rfl (LT c.fInt hb) rfl rfl (wv (Bj Ce rfl) (wa rfl (Am (Av (Ay (Ac ?_)))))))));obtain rfl:=Aw hd;exact Au (BQ QW (AG rfl)) (sS sN) ⟨rfl,rfl⟩
   ·refine Ag (wv (B6 rfl rfl) (wa rfl (Am (cz ha rfl (λhe hf=>?_) (λhe hg=>?_)))))
    ·refine Ag (vF B4 rfl Cs (vL 0 CU rfl (ob hf λhh hi hj=>CG Tryz.call145 (Pt c.fStr hh hi) rfl (wa rfl (Am (Av (Ay (Ac ?_))))))));obtain rfl:=Aw hj;exact Au (BQ QW (AG rfl)) (sS sN) ⟨rfl,rfl⟩
    ·refine Ar (AA (AJ (Ag (vF B4 rfl Ct (vL 0 CX rfl (wv (r:=Ap (IntKind.wrap .i64 (c.fN-1))) (Xu rfl rfl) (wv (Aa1 SD rfl rfl) (wv (r:=Ap (IntKind.wrap .i64 (2+(max 0 (IntKind.wrap .i64 (c.fN-1)))))) (Tg rfl rfl) (wa rfl (Am (Av ?_)))))))))));obtain rfl:=Aw hg;exact Au (BQ QW (AG rfl)) (sS sN) ⟨rfl,rfl⟩
theorem UI (F:Nat)(hi:Value)(stack:(List A7))(r:(List A7))(h:Lw F stack=some r):Fn Tryz.prog GE 147 [rv hi] [.row hi 166 5 (A8 A5 stack)] (λR H=>∃u0:Value,R=rv u0∧H=[.row u0 166 5 (A8 A5 r)]):=by
 refine enter (n:=38) Tryz.func147 rfl Tryz.ntmps147 rfl (λw Z=>?_);unfold Lw at h;refine Ag (wa rfl (Am (Ai (A9 (ob h λhn ho hl=>Bg (S:=Nat×((List A7))×(Value)) (V:=((List A7))×(Value)) 0 (λσ=>B7 (λσ=>Eg σ) σ.1 σ.2.1=some hn) (λσ=>[(0,rv σ.2.2),(2,rv (.slice none 0 0))]) (λσ=>[.row σ.2.2 166 5 (A8 A5 σ.2.1)]) (λσ=>σ.1) (F,stack,hi) ho (A6.c rfl (A6.c rfl A6.nil)) (sC sN) (λσ=>EO σ.1=some r) (λσ=>[(0,rv σ.2),(2,rv (.slice none 0 0))]) (λσ=>[.row σ.2 166 5 (A8 A5 σ.1)]) ?_ ?_)))))
 ·rintro⟨hG,ha,hd⟩ hp;refine BG (l':=[(0,rv hd),(2,rv (.slice none 0 0))]) (H':=[.row hd 166 5 (A8 A5 ha)]) rfl rfl ?_;obtain⟨hq,rfl,hr,hg,hj⟩:=BZ hp;replace hg:Eg ha=some hr:=hg;unfold Eg at hg;refine Ai (Ag (wm rfl (wv (Dg (ys:=ha) (enc:=A5) (i:=0) Jl rfl rfl) (wv (C3 rfl rfl) (Am (cz hg rfl (λhs ht=>?_) (λhs hu=>?_)))))))
  ·refine Ar (AJ (A9 (Ag (wm rfl (wm rfl (wv (Dg (ys:=ha) (enc:=A5) (i:=0) Jl rfl rfl) (ck ht λhw hx=>wv (MY rfl rfl hw) (ck hx λhe hy=>wv (r:=rv (GF 5 hd (B3 ((ha.length:Int)-1)) 0)) (JH (i:=0) Jl QT rfl rfl rfl (BO he)) (wa rfl (Bv (wm rfl (wv (r:=rv (GF 5 hd (B3 ((ha.length:Int)-1)) 0)) (Cv (k:=0) rfl (BO he) rfl rfl) (wv (r:=rv (GF 5 hd (B3 ((ha.length:Int)-1)) 1)) (Gi (k:=0) Jk rfl Ct rfl (BO he) rfl rfl rfl) (wv (r:=Ap ((Ao ha ((ha.length:Int)-1)).fLeft)) (JG (enc:=A5) (ys:=ha) (i:=0) (j:=(ha.length:Int)-1) CX rfl rfl he rfl) (ck hy λhz h0=>wv (MY rfl rfl hz) (wv (r:=rv (GF 5 hd (B3 ((ha.length:Int)-1)) 0)) (Cv (k:=0) rfl (BO he) rfl rfl) (wv (r:=rv (GF 5 hd (B3 ((ha.length:Int)-1)) 1)) (Gi (k:=0) Jk rfl Ct rfl (BO he) rfl rfl rfl) (Ia (enc:=A5) (ys:=ha) (y':=(A7.mk ((Ao ha ((ha.length:Int)-1)).fPairs) (((Ao ha ((ha.length:Int)-1)).fLeft)-1) ((Ao ha ((ha.length:Int)-1)).fKey) ((Ao ha ((ha.length:Int)-1)).fLast) ((Ao ha ((ha.length:Int)-1)).fStarted))) (i:=0) (j:=(ha.length:Int)-1) Ct rfl rfl (C0 rfl) rfl he rfl rfl (H':=[.row hd 166 5 (A8 A5 (List.set ha (B3 ((ha.length:Int)-1)) (A7.mk ((Ao ha ((ha.length:Int)-1)).fPairs) (((Ao ha ((ha.length:Int)-1)).fLeft)-1) ((Ao ha ((ha.length:Int)-1)).fKey) ((Ao ha ((ha.length:Int)-1)).fLast) ((Ao ha ((ha.length:Int)-1)).fStarted))))]) rfl (bd h0 λhb hf h1=>?_)))))))))))))))))));rw[← hf];refine Am (Ai (Ag (wm rfl (wv (r:=rv (GF 5 hd (B3 ((ha.length:Int)-1)) 0)) (Cv (k:=0) rfl (BO (Dj he hf)) rfl rfl) (wv (r:=rv (GF 5 hd (B3 ((ha.length:Int)-1)) 1)) (Gi (k:=0) Jk rfl Ct rfl (BO (Dj he hf)) rfl rfl rfl) (wv (r:=Ap ((Ao hb ((ha.length:Int)-1)).fLeft)) (JG (enc:=A5) (ys:=hb) (i:=0) (j:=(ha.length:Int)-1) CX rfl rfl (Dj he hf) rfl) (wv (C3 rfl rfl) (Am (cz h1 rfl (λh2 h3=>?_) (λh2 h4=>?_))))))))))
   ·refine Ag (wm rfl (wm rfl (wv (r:=rv (GF 5 hd (B3 ((ha.length:Int)-1)) 0)) (Cv (k:=0) rfl (BO (Dj he hf)) rfl rfl) (wv (r:=rv (GF 5 hd (B3 ((ha.length:Int)-1)) 0)) (Gi (k:=0) Jk rfl HJ rfl (BO (Dj he hf)) rfl rfl rfl) (wv (r:=rB ((Ao hb ((ha.length:Int)-1)).fPairs)) (JG (enc:=A5) (ys:=hb) (i:=0) (j:=(ha.length:Int)-1) Qg rfl rfl (Dj he hf) rfl) (wv (r:=rv (GF 5 hd (B3 ((ha.length:Int)-1)) 0)) (Cv (k:=0) rfl (BO (Dj he hf)) rfl rfl) (wv (r:=rv (GF 5 hd (B3 ((ha.length:Int)-1)) 2)) (Gi (k:=0) Jk rfl HJ rfl (BO (Dj he hf)) rfl rfl rfl) (Ia (enc:=A5) (ys:=hb) (y':=(A7.mk ((Ao hb ((ha.length:Int)-1)).fPairs) ((Ao hb ((ha.length:Int)-1)).fLeft) ((Ao hb ((ha.length:Int)-1)).fPairs) ((Ao hb ((ha.length:Int)-1)).fLast) ((Ao hb ((ha.length:Int)-1)).fStarted))) (i:=0) (j:=(ha.length:Int)-1) HJ rfl rfl (C0 rfl) rfl (Dj he hf) rfl rfl (H':=[.row hd 166 5 (A8 A5 (List.set hb (B3 ((ha.length:Int)-1)) (A7.mk ((Ao hb ((ha.length:Int)-1)).fPairs) ((Ao hb ((ha.length:Int)-1)).fLeft) ((Ao hb ((ha.length:Int)-1)).fPairs) ((Ao hb ((ha.length:Int)-1)).fLast) ((Ao hb ((ha.length:Int)-1)).fStarted))))]) rfl (bd h3 λhH h5 h6=>?_)))))))));rw[← h5];refine Bv (wm rfl (wa rfl (Am (Av (Ac (Ay (Ac (AR ?_))))))));have h7:=Bo h6 hj hl;refine Ay (Ac ?_);obtain rfl:=Aw h7;exact Au (BQ Tryz.results147 (AG rfl)) (sC sN) ⟨hd,rfl,rfl⟩
   ·refine Ar (AJ (Ah (wm rfl (wm rfl (wv (Dg (ys:=hb) (enc:=A5) (i:=0) Jl rfl rfl) (ck h4 λh8 h9=>wv (MY rfl rfl h8) (ck h9 λhA hB=>Ab8 (i:=0) Jl QT rfl rfl rfl hA rfl (λhC=>?_))))))));refine wa rfl (Ak (AA ?_));have hD:=Ba hB hj;exact Az (A3 (hq,List.take (B3 ((hb.length:Int)-1)) hb,hC) ⟨hD,AcM _⟩ (A6.c rfl (A6.c rfl A6.nil)) (sC sN))
  ·refine Bl (As ?_);have hE:=BB hu hj hl;exact As (AV (A3 (ha,hd) hE (A6.c rfl (A6.c rfl A6.nil)) (sC sN)))
 ·rintro⟨hm,hk⟩ hh;refine Cb (l':=[(0,rv hk),(2,rv (.slice none 0 0))]) (H':=[.row hk 166 5 (A8 A5 hm)]) rfl rfl ?_;replace hh:EO hm=some r:=hh;unfold EO at hh;refine AW (AJ (Ag (wm rfl (wa rfl (Am (Av ?_))))));obtain rfl:=Aw hh;exact Au (BQ Tryz.results147 (AG rfl)) (sC sN) ⟨hk,rfl,rfl⟩
theorem Qj (F:Nat)(v:(List Aa))(r:Int×AL×Bool)(h:Jn F v=some r):Fn Tryz.prog GE 106 [AQ 4 (A8 Ab v)] [] (λR H=>R=C2 [Ap r.1,BK (AT r.2.1),rB r.2.2]∧H=[]):=by
 refine enter (n:=152) Tryz.func106 rfl Tryz.ntmps106 rfl (λw Z=>?_);unfold Jn at h;refine Ag (wa rfl (BM (cs:=[Ap 0,Ap 0,rB false,rB false]) QR rfl rfl (λb1=>?_)));refine wa rfl (Am (Wt (Ag (BM (cs:=[Ap 0,Ap 0,rB false,rB false]) QR rfl rfl (λb2=>?_)))));refine Bv (wa rfl (Am (Ai (Wu (AJ (Ai (Ag (wm rfl (wv (Be (ys:=v) (enc:=Ab) Cg rfl) (wv (r:=Ap 0) (Al rfl) (Am (A9 (WC.nilrow (e:=166) (sz:=5) (Qi (H2:=[.blk b2 [Ap 0,Ap 0,rB false,rB false] 133,.blk b1 [Ap 0,Ap 0,rB false,rB false] 133,.row (.slice none 0 0                                                                                                                                                                      ) 166 5 (A8 A5 ([]:List A7))]) ((A4 (i:=1) rfl).trans (AcJ _ ((A4 (i:=1) rfl).trans (AcJ _ (AcI _))))) (ob h λhA hB hy=>Bg (S:=Nat×((List A7)×Int×AL)×(Value)) (V:=(AL)×(Unit)) 0 (λσ=>B7 (λσ=>Ef F v σ.1 σ.2.1 σ.2.2) σ.1 σ.2.1=some hA) (λσ=>[(0,AQ 4 (A8 Ab v)),(3,rP b1 0),(5,rP b2 0),(6,rv σ.2.2),(11,AQ 4 (A8 Ab v)),(12,Ap (v.length:Int)),(13,Ap σ.2.1.2.1)]) (λσ=>[.blk b2 (AT σ.2.1.2.2) 133,.blk b1 [Ap 0,Ap 0,rB false,rB false] 133,.row σ.2.2 166 5 (A8 A5 σ.2.1.1)]) (λσ=>σ.1) (F,(([]:List A7),0,(AL.mk 0 0 false false)),(.slice none 0 0                                                                                                                                                                      )) hB (A6.c rfl (A6.c rfl (A6.c5 rfl rfl rfl rfl rfl A6.nil))) (sC (sC (sC sN))) (λσ=>Lt σ.1=some r) (λσ=>[(3,rP b1 0),(5,rP b2 0)]) (λσ=>[.blk b2 (AT σ.1) 133,.blk b1 [Ap 0,Ap 0,rB false,rB false] 133]) ?_ ?_)))))))))))))))
 ·rintro⟨gG,⟨hd,hb,ha⟩,he⟩ hC;refine BG (l':=[(0,AQ 4 (A8 Ab v)),(3,rP b1 0),(5,rP b2 0),(6,rv he),(11,AQ 4 (A8 Ab v)),(12,Ap (v.length:Int)),(13,Ap hb)]) (H':=[.blk b2 (AT ha) 133,.blk b1 [Ap 0,Ap 0,rB false,rB false] 133,.row he 166 5 (A8 A5 hd)]) rfl rfl ?_;obtain⟨hD,rfl,h4,h0,hx⟩:=BZ hC;replace h0:Ef F v hd hb ha=some h4:=h0;unfold Ef at h0;refine Ag (wv (Cj rfl rfl) (Am (Ai (cz h0 rfl (λhE hG=>?_) (λhE hH=>?_)))))
  ·refine Ar (AJ (De (S:=((List A7)×AL)×(Value)) (λσ=>EB hb σ.1.1 σ.1.2=some h4) (λσ=>[(0,AQ 4 (A8 Ab v)),(3,rP b1 0),(5,rP b2 0),(6,rv σ.2),(11,AQ 4 (A8 Ab v)),(12,Ap (v.length:Int)),(13,Ap hb)]) (λσ=>[.blk b2 (AT σ.1.2) 133,.blk b1 [Ap 0,Ap 0,rB false,rB false] 133,.row σ.2 166 5 (A8 A5 σ.1.1)]) ?_ ?_))
   ·refine A9 (Ag (wm rfl (ck hG λhI hJ=>wv (Bb (enc:=Ab) (ys:=v) Cg CK rfl rfl hI) (wv (Dc NN CK rfl rfl rfl) (BM (cs:=[Ap 0,Ap 0,rS ([]:Af),Ap 0]) KO rfl rfl (λhf=>?_))))));refine wa rfl (Bh (i:=0) CK rfl rfl rfl (BJ.c rfl) rfl rfl (cs':=[Ap ((Ao v hb).fKind),Ap ((Ao v hb).fInt),rS ((Ao v hb).fStr),Ap ((Ao v hb).fN)]) rfl (H':=[.blk hf (Ab (Ao v hb)) 78,.blk b2 (AT ha) 133,.blk b1 [Ap 0,Ap 0,rB false,rB false] 133,.row he 166 5 (A8 A5 hd)]) rfl (Am (Ai (Ag (wv (BC (i:=0) NN CK rfl rfl rfl rfl) (ob hJ λhK hL hN=>CG Tryz.call144 (Wz F (Ao v hb) hK hL) rfl (wv (Ci rfl) (Am (cz hN rfl (λhO hP=>?_) (λhO hQ=>?_))))))))))
    ·refine Ai (GM (H1:=[.blk hf (Ab (Ao v hb)) 78,.blk b2 (AT ha) 133,.blk b1 (AT ha) 133,.row he 166 5 (A8 A5 hd)]) [3,5] [⟨[],BK (AT ha),1⟩,⟨[],Ap 0,0⟩,⟨[0],rv undef,2⟩,⟨[],rB false,0⟩] (rle [(3,_),(2,[.blk hf (Ab (Ao v hb)) 78,.blk b2 (AT ha) 133,.blk b1 (AT ha) 133,.row he 166 5 (A8 A5 hd)])]) [2,4,3] ?_ ?_)
     ·refine of (BC (i:=1) KD Gs rfl rfl rfl rfl) (oq (Ax rfl) (JD rfl (RD (DV (i:=2) Gs rfl rfl rfl (BJ.c rfl) rfl rfl (cs':=[Ap ha.fDepth,Ap ha.fBytes,rB ha.fOutside,rB ha.fLong]) rfl (H':=[.blk hf (Ab (Ao v hb)) 78,.blk b2 (AT ha) 133,.blk b1 (AT ha) 133,.row he 166 5 (A8 A5 hd)]) rfl)) ?_));refine oq (Ax rfl) ?_;exact Cd
     refine AJ (Av (Ac (Ay (Ac (Ac (AR ?_))))));have hR:=Bo hP hx hy;refine Ay (Ac (JV ?_));obtain rfl:=Aw hR;exact Au (WN QY (AG rfl) (GR (i:=2) KD Gs rfl rfl rfl) (AG rfl)) (sS (sS (sS (sS sN)))) ⟨rfl,rfl⟩
    ·refine Ar (AJ (Ai (Ag (wm rfl (wv (Dg (ys:=hd) (enc:=A5) (i:=3) Jl rfl rfl) (wa rfl (Am (ck hQ λhS hT=>ck hT λh5 hU=>AK [(0,AQ 4 (A8 Ab v)),(3,rP b1 0),(5,rP b2 0),(6,rv he),(7,Ap hb),(8,rP hf 0),(9,Ap (hd.length:Int)),(11,AQ 4 (A8 Ab v)),(12,Ap (v.length:Int)),(13,Ap hb),(33,rB ((decide (0<(hd.length:Int)))&&((Ao hd ((hd.length:Int)-1)).fKey)))] [.blk hf (Ab (Ao v hb)) 78,.blk b2 (AT ha) 133,.blk b1 [Ap 0,Ap 0,rB false,rB false] 133,.row he 166 5 (A8 A5 hd)] ?_ ?_))))))))
     ·refine Ah (wm rfl (wv (C3 rfl rfl) (wm rfl (AS (decide (0<(hd.length:Int))) (λhi=>?_) (λhi=>?_)))))
      ·refine wo hi (wm rfl (wo hi (wm rfl (wo hi (wv (MY rfl rfl (DP hS hi)) (wo hi (wv (r:=rv (GF 5 he (B3 ((hd.length:Int)-1)) 0)) (JH (i:=3) Jl QT rfl rfl rfl (BO (DP h5 hi))) (wo hi (wv (r:=rv (GF 5 he (B3 ((hd.length:Int)-1)) 2)) (Gi (k:=3) Jk rfl HJ rfl (BO (DP h5 hi)) rfl rfl rfl) (wo hi (wv (r:=rB ((Ao hd ((hd.length:Int)-1)).fKey)) (JG (enc:=A5) (ys:=hd) (i:=3) (j:=(hd.length:Int)-1) Qg rfl rfl (DP h5 hi) rfl) (GC rfl hi rfl (Ak ?_)))))))))))));exact Cm hi
      ·refine wf hi (wf hi (wf hi (wf hi (wf hi (wf hi (wv (r:=rB false) (AC rfl hi rfl) (Ak ?_)))))));exact Cm hi
     refine cz hU rfl (λhV hW=>?_) (λhV hX=>?_)
     ·refine Ag (wm rfl (wm rfl (ck hW λhY hZ=>wv (MY rfl rfl hY) (ck hZ λhj ga=>wv (r:=rv (GF 5 he (B3 ((hd.length:Int)-1)) 0)) (JH (i:=3) Jl QT rfl rfl rfl (BO hj)) (wa rfl (Am (Ai (AK [(0,AQ 4 (A8 Ab v)),(3,rP b1 0),(5,rP b2 0),(6,rv he),(8,rP hf 0),(10,rv (GF 5 he (B3 ((hd.length:Int)-1)) 0)),(11,AQ 4 (A8 Ab v)),(12,Ap (v.length:Int)),(13,Ap hb),(38,rP hf 0),(39,Ap ((Ao v hb).fKind)),(40,rB (!decide (((Ao v hb).fKind)=4))),(41,rB (!decide (((Ao v hb).fKind)=4))),(55,rB ((!decide (((Ao v hb).fKind)=4))||(((Ao hd ((hd.length:Int)-1)).fStarted)&&(BE ((Ao v hb).fStr) ((Ao hd ((hd.length:Int)-1)).fLast)||decide (((Ao v hb).fStr)=((Ao hd ((hd.length:Int)-1)).fLast))))))] [.blk hf (Ab (Ao v hb)) 78,.blk b2 (AT ha) 133,.blk b1 [Ap 0,Ap 0,rB false,rB false] 133,.row he 166 5 (A8 A5 hd)] ?_ ?_))))))))
      ·refine AS (!decide (((Ao v hb).fKind)=4)) (λhh=>?_) (λhh=>?_)
       ·refine C1 [0,3,5,6,8,10,11,12,13] [⟨[],rP hf 0,0⟩,⟨[0],Ap ((Ao v hb).fKind),1⟩,⟨[1],rB (!decide (((Ao v hb).fKind)=4)),0⟩,⟨[2],rB (!decide (((Ao v hb).fKind)=4)),0⟩,⟨[3],rv undef,0⟩,⟨[4,3],rv undef,0⟩,⟨[5,3],rv undef,0⟩,⟨[6,3],rv undef,0⟩,⟨[7,3],rv undef,0⟩,⟨[8],rv undef,0⟩,⟨[9,8],rv undef,0⟩,⟨[8],rv undef,0⟩,⟨[11,8],rv undef,0⟩,⟨[12,8],rv undef,0⟩,⟨[13,8],rv undef,0⟩,⟨[10,14,8],rv undef,0⟩,⟨[8,15,3],rv undef,0⟩,⟨[3,16],rB true,0⟩] [38,39,40,41,42,43,44,45,46,47,48,49,50,51,52,53,54,55,0,3,5,6,8,10,11,12,13] ?_ ?_
        ·refine oq (AH B4 rfl E7 rfl rfl) (of (Bi (i:=0) E8 rfl rfl rfl) (oq (CQ rfl rfl) (oq (Al rfl) (oz hh (oz hh (oz hh (oz hh (oz hh (ou (ou (ou (ou (ou (ou (ou (oz hh (oq (A1 (b:=!decide (((Ao v hb).fKind)=4)) rfl hh rfl) ?_)))))))))))))))));exact Cd
        exact Cm hh
       ·refine AS ((Ao hd ((hd.length:Int)-1)).fStarted) (λhk=>?_) (λhk=>?_)
        ·refine C1 [0,3,5,6,8,10,11,12,13] [⟨[],rP hf 0,0⟩,⟨[0],Ap ((Ao v hb).fKind),1⟩,⟨[1],rB (!decide (((Ao v hb).fKind)=4)),0⟩,⟨[2],rB (!decide (((Ao v hb).fKind)=4)),0⟩,⟨[3],rv (GF 5 he (B3 ((hd.length:Int)-1)) 0),0⟩,⟨[4,3],rv (GF 5 he (B3 ((hd.length:Int)-1)) 0),1⟩,⟨[5,3],rv (GF 5 he (B3 ((hd.length:Int)-1)) 4),1⟩,⟨[6,3],rB ((Ao hd ((hd.length:Int)-1)).fStarted),1⟩,⟨[7,3],rB ((Ao hd ((hd.length:Int)-1)).fStarted),0⟩,⟨[8],rP hf 2,0⟩,⟨[9,8],rS ((Ao v hb).fStr),1⟩,⟨[8],rv (GF 5 he (B3 ((hd.length:Int)-1)) 0),0⟩,⟨[11,8],rv (GF 5 he (B3 ((hd.length:Int)-1)) 0),1⟩,⟨[12,8],rv (GF 5 he (B3 ((hd.length:Int)-1)) 3),1⟩,⟨[13,8],rS ((Ao hd ((hd.length:Int)-1)).fLast),1⟩,⟨[10,14,8],rB (BE ((Ao v hb).fStr) ((Ao hd ((hd.length:Int)-1)).fLast)||decide (((Ao v hb).fStr)=((Ao hd ((hd.length:Int)-1)).fLast))),0⟩,⟨[8,15,3],rB (BE ((Ao v hb).fStr) ((Ao hd ((hd.length:Int)-1)).fLast)||decide (((Ao v hb).fStr)=((Ao hd ((hd.length:Int)-1)).fLast))),0⟩,⟨[3,16],rB (BE ((Ao v hb).fStr) ((Ao hd ((hd.length:Int)-1)).fLast)||decide (((Ao v hb).fStr)=((Ao hd ((hd.length:Int)-1)).fLast))),0⟩] [38,39,40,41,42,43,44,45,46,47,48,49,50,51,52,53,54,55,0,3,5,6,8,10,11,12,13] ?_ ?_
         ·refine oq (AH B4 rfl E7 rfl rfl) (of (Bi (i:=0) E8 rfl rfl rfl) (oq (CQ rfl rfl) (oq (Al rfl) (on hh (oq (Al rfl) (on hh (of (Cv (k:=3) rfl (BO hj) rfl rfl) (on hh (of (Gi (k:=3) Jk rfl HJ rfl (BO hj) rfl rfl rfl) (on hh (of (JG (enc:=A5) (ys:=hd) (i:=3) (j:=(hd.length:Int)-1) Qg rfl rfl hj rfl) (on hh (oq (Al rfl) (on hk (oq (AH B4 rfl Cs rfl rfl) (on hk (of (Bi (i:=0) CU rfl rfl rfl) (on hk (oq (Al rfl) (on hk (of (Cv (k:=3) rfl (BO hj) rfl rfl) (on hk (of (Gi (k:=3) Jk rfl Cs rfl (BO hj) rfl rfl rfl) ?_)))))))))))))))))))))));refine on hk (of (JG (enc:=A5) (ys:=hd) (i:=3) (j:=(hd.length:Int)-1) CU rfl rfl hj rfl) (on hk (oq (TS rfl rfl) (on hh (oq (A1 rfl hk rfl) (oq (AC rfl hh rfl) ?_))))));exact Cd
         exact Cm (And.intro hh hk)
        ·refine C1 [0,3,5,6,8,10,11,12,13] [⟨[],rP hf 0,0⟩,⟨[0],Ap ((Ao v hb).fKind),1⟩,⟨[1],rB (!decide (((Ao v hb).fKind)=4)),0⟩,⟨[2],rB (!decide (((Ao v hb).fKind)=4)),0⟩,⟨[3],rv (GF 5 he (B3 ((hd.length:Int)-1)) 0),0⟩,⟨[4,3],rv (GF 5 he (B3 ((hd.length:Int)-1)) 0),1⟩,⟨[5,3],rv (GF 5 he (B3 ((hd.length:Int)-1)) 4),1⟩,⟨[6,3],rB ((Ao hd ((hd.length:Int)-1)).fStarted),1⟩,⟨[7,3],rB ((Ao hd ((hd.length:Int)-1)).fStarted),0⟩,⟨[8],rv undef,0⟩,⟨[9,8],rv undef,0⟩,⟨[8],rv undef,0⟩,⟨[11,8],rv undef,0⟩,⟨[12,8],rv undef,0⟩,⟨[13,8],rv undef,0⟩,⟨[10,14,8],rv undef,0⟩,⟨[8,15,3],rB false,0⟩,⟨[3,16],rB false,0⟩] [38,39,40,41,42,43,44,45,46,47,48,49,50,51,52,53,54,55,0,3,5,6,8,10,11,12,13] ?_ ?_
         ·refine oq (AH B4 rfl E7 rfl rfl) (of (Bi (i:=0) E8 rfl rfl rfl) (oq (CQ rfl rfl) (oq (Al rfl) (on hh (oq (Al rfl) (on hh (of (Cv (k:=3) rfl (BO hj) rfl rfl) (on hh (of (Gi (k:=3) Jk rfl HJ rfl (BO hj) rfl rfl rfl) (on hh (of (JG (enc:=A5) (ys:=hd) (i:=3) (j:=(hd.length:Int)-1) Qg rfl rfl hj rfl) (on hh (oq (Al rfl) (oz hk (oz hk (oz hk (oz hk (oz hk (oz hk (oz hk (on hh (oq (AC (b:=(Ao hd ((hd.length:Int)-1)).fStarted) rfl hk rfl) (oq (AC rfl hh rfl) ?_)))))))))))))))))))))));exact Cd
         exact Cm (And.intro hh hk)
      refine cz ga rfl (λgb gc=>?_) (λgb gd=>?_)
      ·refine Ai (GM (H1:=[.blk hf (Ab (Ao v hb)) 78,.blk b2 (AT ha) 133,.blk b1 (AT ha) 133,.row he 166 5 (A8 A5 hd)]) [3,5] [⟨[],BK (AT ha),1⟩,⟨[],Ap 0,0⟩,⟨[0],rv undef,2⟩,⟨[],rB false,0⟩] (rle [(3,_),(2,[.blk hf (Ab (Ao v hb)) 78,.blk b2 (AT ha) 133,.blk b1 (AT ha) 133,.row he 166 5 (A8 A5 hd)])]) [2,4,3] ?_ ?_)
       ·refine of (BC (i:=1) KD Gs rfl rfl rfl rfl) (oq (Ax rfl) (JD rfl (RD (DV (i:=2) Gs rfl rfl rfl (BJ.c rfl) rfl rfl (cs':=[Ap ha.fDepth,Ap ha.fBytes,rB ha.fOutside,rB ha.fLong]) rfl (H':=[.blk hf (Ab (Ao v hb)) 78,.blk b2 (AT ha) 133,.blk b1 (AT ha) 133,.row he 166 5 (A8 A5 hd)]) rfl)) ?_));refine oq (Ax rfl) ?_;exact Cd
       refine AJ (Av (Ac (Ac (Ay (Ac (Ac (AR ?_)))))));have ge:=Bo gc hx hy;refine Ay (Ac (JV ?_));obtain rfl:=Aw ge;exact Au (WN QY (AG rfl) (GR (i:=2) KD Gs rfl rfl rfl) (AG rfl)) (sS (sS (sS (sS sN)))) ⟨rfl,rfl⟩
      ·refine Ar (AJ (Ag (wm rfl (wm rfl (wm rfl (vF B4 rfl Cs (vL 0 CU rfl (wv (r:=rv (GF 5 he (B3 ((hd.length:Int)-1)) 0)) (Cv (k:=3) rfl (BO hj) rfl rfl) (wv (r:=rv (GF 5 he (B3 ((hd.length:Int)-1)) 3)) (Gi (k:=3) Jk rfl Cs rfl (BO hj) rfl rfl rfl) (Ia (enc:=A5) (ys:=hd) (y':=(A7.mk ((Ao hd ((hd.length:Int)-1)).fPairs) ((Ao hd ((hd.length:Int)-1)).fLeft) ((Ao hd ((hd.length:Int)-1)).fKey) ((Ao v hb).fStr) ((Ao hd ((hd.length:Int)-1)).fStarted))) (i:=3) (j:=(hd.length:Int)-1) Cs rfl rfl (C0 rfl) rfl hj rfl rfl (H':=[.blk hf (Ab (Ao v hb)) 78,.blk b2 (AT ha) 133,.blk b1 [Ap 0,Ap 0,rB false,rB false] 133,.row he 166 5 (A8 A5 (List.set hd (B3 ((hd.length:Int)-1)) (A7.mk ((Ao hd ((hd.length:Int)-1)).fPairs) ((Ao hd ((hd.length:Int)-1)).fLeft) ((Ao hd ((hd.length:Int)-1)).fKey) ((Ao v hb).fStr) ((Ao hd ((hd.length:Int)-1)).fStarted))))]) rfl (bd gd λhr hu gf=>?_)))))))))));rw[← hu];refine wv (r:=rv (GF 5 he (B3 ((hd.length:Int)-1)) 0)) (Cv (k:=3) rfl (BO (Dj hj hu)) rfl rfl) (wv (r:=rv (GF 5 he (B3 ((hd.length:Int)-1)) 4)) (Gi (k:=3) Jk rfl HJ rfl (BO (Dj hj hu)) rfl rfl rfl) (Ia (enc:=A5) (ys:=hr) (y':=(A7.mk ((Ao hr ((hd.length:Int)-1)).fPairs) ((Ao hr ((hd.length:Int)-1)).fLeft) ((Ao hr ((hd.length:Int)-1)).fKey) ((Ao hr ((hd.length:Int)-1)).fLast) true)) (i:=3) (j:=(hd.length:Int)-1) HJ rfl rfl (C0 rfl) rfl (Dj hj hu) rfl rfl (H':=[.blk hf (Ab (Ao v hb)) 78,.blk b2 (AT ha) 133,.blk b1 [Ap 0,Ap 0,rB false,rB false] 133,.row he 166 5 (A8 A5 (List.set hr (B3 ((hd.length:Int)-1)) (A7.mk ((Ao hr ((hd.length:Int)-1)).fPairs) ((Ao hr ((hd.length:Int)-1)).fLeft) ((Ao hr ((hd.length:Int)-1)).fKey) ((Ao hr ((hd.length:Int)-1)).fLast) true)))]) rfl (bd gf λhs h1 gg=>?_)));rw[← h1];refine wv (r:=rv (GF 5 he (B3 ((hd.length:Int)-1)) 0)) (Cv (k:=3) rfl (BO (Dj (Dj hj hu) h1)) rfl rfl) (wv (r:=rv (GF 5 he (B3 ((hd.length:Int)-1)) 2)) (Gi (k:=3) Jk rfl HJ rfl (BO (Dj (Dj hj hu) h1)) rfl rfl rfl) (Ia (enc:=A5) (ys:=hs) (y':=(A7.mk ((Ao hs ((hd.length:Int)-1)).fPairs) ((Ao hs ((hd.length:Int)-1)).fLeft) false ((Ao hs ((hd.length:Int)-1)).fLast) ((Ao hs ((hd.length:Int)-1)).fStarted))) (i:=3) (j:=(hd.length:Int)-1) HJ rfl rfl (C0 rfl) rfl (Dj (Dj hj hu) h1) rfl rfl (H':=[.blk hf (Ab (Ao v hb)) 78,.blk b2 (AT ha) 133,.blk b1 [Ap 0,Ap 0,rB false,rB false] 133,.row he 166 5 (A8 A5 (List.set hs (B3 ((hd.length:Int)-1)) (A7.mk ((Ao hs ((hd.length:Int)-1)).fPairs) ((Ao hs ((hd.length:Int)-1)).fLeft) false ((Ao hs ((hd.length:Int)-1)).fLast) ((Ao hs ((hd.length:Int)-1)).fStarted))))]) rfl (bd gg λht gh gi=>?_)));rw[← gh];refine Am (Ai (ob gi λhl gj gk=>ck gk λgl gm=>GM (H1:=[.blk hf (Ab (Ao v hb)) 78,.blk b2 [Ap ha.fDepth,Ap (IntKind.wrap .i64 (ha.fBytes+(hl+1))),rB ha.fOutside,rB ha.fLong] 133,.blk b1 [Ap 0,Ap 0,rB false,rB false] 133,.row he 166 5 (A8 A5 ht)]) [0,3,5,6,8,11,12,13,38,39,40,41] [⟨[],rP b2 1,0⟩,⟨[0],Ap ha.fBytes,1⟩,⟨[],rP hf 2,0⟩,⟨[2],rS ((Ao v hb).fStr),1⟩,⟨[3],Ap hl,0⟩,⟨[4],Ap (hl+1),0⟩,⟨[1,5],Ap (IntKind.wrap .i64 (ha.fBytes+(hl+1))),0⟩,⟨[],rP b2 1,0⟩,⟨[7,6],rv undef,2⟩] (rle [(9,_),(1,[.blk hf (Ab (Ao v hb)) 78,.blk b2 [Ap ha.fDepth,Ap (IntKind.wrap .i64 (ha.fBytes+(hl+1))),rB ha.fOutside,rB ha.fLong] 133,.blk b1 [Ap 0,Ap 0,rB false,rB false] 133,.row he 166 5 (A8 A5 ht)])]) [68,69,70,71,72,73,74,75,0,3,5,6,8,11,12,13,38,39,40,41] ?_ ?_))
       ·refine oq (AH ES rfl Ct rfl rfl) (of (Bi (i:=1) CX rfl rfl rfl) (oq (AH B4 rfl Cs rfl rfl) (of (Bi (i:=0) CU rfl rfl rfl) (DN rfl (λH=>HP Tryz.call145 (Pt ((Ao v hb).fStr) hl gj) rfl) ?_))));refine oq (Bk rfl rfl gl) (oq (Tg rfl rfl) (oq (AH ES rfl Ct rfl rfl) (JD rfl (RD (Qf (i:=1) Ct rfl rfl (C0 rfl) rfl rfl (cs':=[Ap ha.fDepth,Ap (IntKind.wrap .i64 (ha.fBytes+(hl+1))),rB ha.fOutside,rB ha.fLong]) rfl (H':=[.blk hf (Ab (Ao v hb)) 78,.blk b2 [Ap ha.fDepth,Ap (IntKind.wrap .i64 (ha.fBytes+(hl+1))),rB ha.fOutside,rB ha.fLong] 133,.blk b1 [Ap 0,Ap 0,rB false,rB false] 133,.row he 166 5 (A8 A5 ht)]) rfl)) ?_)));exact Cd
       refine AJ (AK [(0,AQ 4 (A8 Ab v)),(3,rP b1 0),(5,rP b2 0),(6,rv he),(11,AQ 4 (A8 Ab v)),(12,Ap (v.length:Int)),(13,Ap hb),(38,rP hf 0),(39,Ap ((Ao v hb).fKind)),(40,rB (!decide (((Ao v hb).fKind)=4))),(41,rB (!decide (((Ao v hb).fKind)=4))),(68,rP b2 1),(69,Ap ha.fBytes),(70,rP hf 2),(71,rS ((Ao v hb).fStr)),(72,Ap hl),(73,Ap (hl+1)),(74,Ap (IntKind.wrap .i64 (ha.fBytes+(hl+1)))),(75,rP b2 1)] [.blk hf (Ab (Ao v hb)) 78,.blk b2 [Ap ha.fDepth,Ap (IntKind.wrap .i64 (ha.fBytes+(hl+1))),rB ha.fOutside,rB (ha.fLong||(decide (200<(((Ao v hb).fStr).length:Int))))] 133,.blk b1 [Ap 0,Ap 0,rB false,rB false] 133,.row he 166 5 (A8 A5 ht)] ?_ ?_)
       ·refine Ah (vF ES rfl HJ (vL 1 Qg rfl (wm rfl (AS (ha.fLong) (λho=>?_) (λho=>?_)))))
        ·refine wf ho (wf ho (wf ho (wf ho (wv (r:=rB true) (A1 rfl ho rfl) (vF ES rfl HJ (BI (i:=1) HJ rfl rfl (C0 rfl) rfl rfl (cs':=[Ap ha.fDepth,Ap (IntKind.wrap .i64 (ha.fBytes+(hl+1))),rB ha.fOutside,rB true]) rfl (H':=[.blk hf (Ab (Ao v hb)) 78,.blk b2 [Ap ha.fDepth,Ap (IntKind.wrap .i64 (ha.fBytes+(hl+1))),rB ha.fOutside,rB true] 133,.blk b1 [Ap 0,Ap 0,rB false,rB false] 133,.row he 166 5 (A8 A5 ht)]) rfl (Ak (IT (H':=[.blk hf (Ab (Ao v hb)) 78,.blk b2 [Ap ha.fDepth,Ap (IntKind.wrap .i64 (ha.fBytes+(hl+1))),rB ha.fOutside,rB (ha.fLong||(decide (200<(((Ao v hb).fStr).length:Int))))] 133,.blk b1 [Ap 0,Ap 0,rB false,rB false] 133,.row he 166 5 (A8 A5 ht)]) (by simp only[ho,AcQ,Adb,Adq,AcW,AcZ,Add,Adl,Adi,AcP,Ada,AcH,AcD]) ?_))))))));exact wt
        ·refine wo ho (vF B4 rfl Cs (wo ho (vL 0 CU rfl (wo ho (wv (Bj Ce rfl) (wo ho (wv (C3 rfl rfl) (GK rfl ho rfl (vF ES rfl HJ (BI (i:=1) HJ rfl rfl (C0 rfl) rfl rfl (cs':=[Ap ha.fDepth,Ap (IntKind.wrap .i64 (ha.fBytes+(hl+1))),rB ha.fOutside,rB (decide (200<(((Ao v hb).fStr).length:Int)))]) rfl (H':=[.blk hf (Ab (Ao v hb)) 78,.blk b2 [Ap ha.fDepth,Ap (IntKind.wrap .i64 (ha.fBytes+(hl+1))),rB ha.fOutside,rB (decide (200<(((Ao v hb).fStr).length:Int)))] 133,.blk b1 [Ap 0,Ap 0,rB false,rB false] 133,.row he 166 5 (A8 A5 ht)]) rfl (Ak (IT (H':=[.blk hf (Ab (Ao v hb)) 78,.blk b2 [Ap ha.fDepth,Ap (IntKind.wrap .i64 (ha.fBytes+(hl+1))),rB ha.fOutside,rB (ha.fLong||(decide (200<(((Ao v hb).fStr).length:Int))))] 133,.blk b1 [Ap 0,Ap 0,rB false,rB false] 133,.row he 166 5 (A8 A5 ht)]) (by simp only[ho,AcQ,Adb,Adq,AcW,AcZ,Add,Adl,Adi,AcP,Ada,AcH,AcD]) ?_))))))))))));exact wt
       exact Bl (As (AW (Az (A3 ((ht,(AL.mk ha.fDepth (IntKind.wrap .i64 (ha.fBytes+(hl+1))) ha.fOutside (ha.fLong||(decide (200<(((Ao v hb).fStr).length:Int)))))),he) gm (A6.c rfl (A6.c rfl (A6.c5 rfl rfl rfl rfl rfl A6.nil))) (sS (sC (sC (sC sN))))))))
     ·refine Ar (AJ (Ag (vF ES rfl Ct (vL 1 CX rfl (wm rfl (wv (Dg (ys:=hd) (enc:=A5) (i:=3) Jl rfl rfl) (ck hX λgn gp=>wv (Bk rfl rfl gn) (wv (Aa1 SD rfl rfl) (vF ES rfl Ct (BI (i:=1) Ct rfl rfl (C0 rfl) rfl rfl (cs':=[Ap (max ha.fDepth ((hd.length:Int)+1)),Ap ha.fBytes,rB ha.fOutside,rB ha.fLong]) rfl (H':=[.blk hf (Ab (Ao v hb)) 78,.blk b2 [Ap (max ha.fDepth ((hd.length:Int)+1)),Ap ha.fBytes,rB ha.fOutside,rB ha.fLong] 133,.blk b1 [Ap 0,Ap 0,rB false,rB false] 133,.row he 166 5 (A8 A5 hd)]) rfl (Am (Ai (ob gp λhg gq gr=>GM (H1:=[.blk hf (Ab (Ao v hb)) 78,.blk b2 [Ap (max ha.fDepth ((hd.length:Int)+1)),Ap (IntKind.wrap .i64 (ha.fBytes+hg)),rB ha.fOutside,rB ha.fLong] 133,.blk b1 [Ap 0,Ap 0,rB false,rB false] 133,.row he 166 5 (A8 A5 hd)]) [0,3,5,6,7,8,11,12,13] [⟨[],rP b2 1,0⟩,⟨[0],Ap ha.fBytes,1⟩,⟨[],BK (Ab (Ao v hb)),1⟩,⟨[2],Ap hg,0⟩,⟨[1,3],Ap (IntKind.wrap .i64 (ha.fBytes+hg)),0⟩,⟨[],rP b2 1,0⟩,⟨[5,4],rv undef,2⟩] (rle [(7,_),(1,[.blk hf (Ab (Ao v hb)) 78,.blk b2 [Ap (max ha.fDepth ((hd.length:Int)+1)),Ap (IntKind.wrap .i64 (ha.fBytes+hg)),rB ha.fOutside,rB ha.fLong] 133,.blk b1 [Ap 0,Ap 0,rB false,rB false] 133,.row he 166 5 (A8 A5 hd)])]) [92,93,94,95,96,97,0,3,5,6,7,8,11,12,13] ?_ ?_)))))))))))))
      ·refine oq (AH ES rfl Ct rfl rfl) (of (Bi (i:=1) CX rfl rfl rfl) (of (BC (i:=0) NN CK rfl rfl rfl rfl) (DN rfl (λH=>HP Tryz.call146 (Zq (Ao v hb) hg gq) rfl) ?_)));refine oq (Tg rfl rfl) (oq (AH ES rfl Ct rfl rfl) (JD rfl (RD (Qf (i:=1) Ct rfl rfl (C0 rfl) rfl rfl (cs':=[Ap (max ha.fDepth ((hd.length:Int)+1)),Ap (IntKind.wrap .i64 (ha.fBytes+hg)),rB ha.fOutside,rB ha.fLong]) rfl (H':=[.blk hf (Ab (Ao v hb)) 78,.blk b2 [Ap (max ha.fDepth ((hd.length:Int)+1)),Ap (IntKind.wrap .i64 (ha.fBytes+hg)),rB ha.fOutside,rB ha.fLong] 133,.blk b1 [Ap 0,Ap 0,rB false,rB false] 133,.row he 166 5 (A8 A5 hd)]) rfl)) ?_));exact Cd
      refine AJ (ck gr λgs gt=>AK [(0,AQ 4 (A8 Ab v)),(3,rP b1 0),(5,rP b2 0),(6,rv he),(7,Ap hb),(8,rP hf 0),(11,AQ 4 (A8 Ab v)),(12,Ap (v.length:Int)),(13,Ap hb),(92,rP b2 1),(93,Ap ha.fBytes),(94,BK (Ab (Ao v hb))),(95,Ap hg),(96,Ap (IntKind.wrap .i64 (ha.fBytes+hg))),(97,rP b2 1)] [.blk hf (Ab (Ao v hb)) 78,.blk b2 [Ap (max ha.fDepth ((hd.length:Int)+1)),Ap (IntKind.wrap .i64 (ha.fBytes+hg)),rB (ha.fOutside||((decide (((Ao v hb).fKind)=3))&&(!(ov (BD ((Ao v hb).fInt)))))),rB ha.fLong] 133,.blk b1 [Ap 0,Ap 0,rB false,rB false] 133,.row he 166 5 (A8 A5 hd)] ?_ ?_)
      ·refine Ah (vF ES rfl HJ (vL 1 Qg rfl (wm rfl (AS (ha.fOutside) (λhm=>?_) (λhm=>?_)))))
       ·refine wf hm (wf hm (wf hm (wf hm (wu (wu (wu (wu (wf hm (wv (r:=rB true) (A1 rfl hm rfl) (vF ES rfl HJ (BI (i:=1) HJ rfl rfl (C0 rfl) rfl rfl (cs':=[Ap (max ha.fDepth ((hd.length:Int)+1)),Ap (IntKind.wrap .i64 (ha.fBytes+hg)),rB true,rB ha.fLong]) rfl (H':=[.blk hf (Ab (Ao v hb)) 78,.blk b2 [Ap (max ha.fDepth ((hd.length:Int)+1)),Ap (IntKind.wrap .i64 (ha.fBytes+hg)),rB true,rB ha.fLong] 133,.blk b1 [Ap 0,Ap 0,rB false,rB false] 133,.row he 166 5 (A8 A5 hd)]) rfl (Ak (IT (H':=[.blk hf (Ab (Ao v hb)) 78,.blk b2 [Ap (max ha.fDepth ((hd.length:Int)+1)),Ap (IntKind.wrap .i64 (ha.fBytes+hg)),rB (ha.fOutside||((decide (((Ao v hb).fKind)=3))&&(!(ov (BD ((Ao v hb).fInt)))))),rB ha.fLong] 133,.blk b1 [Ap 0,Ap 0,rB false,rB false] 133,.row he 166 5 (A8 A5 hd)]) (by simp only[hm,AcQ,Adb,Adq,AcW,AcZ,Add,Adl,Adi,AcP,Ada,AcH,AcD]) ?_)))))))))))));exact wt
       ·refine wo hm (vF B4 rfl E7 (wo hm (vL 0 E8 rfl (wo hm (wv (B6 rfl rfl) (wo hm (wm rfl (AS (decide (((Ao v hb).fKind)=3)) (λhn=>?_) (λhn=>?_)))))))))
        ·refine wo hn (vF B4 rfl Ct (wo hn (vL 0 CX rfl (wo hn (CG Tryz.call99 (X5 ((Ao v hb).fInt) (ov (BD ((Ao v hb).fInt))) (Jy (DP (D6 gs hm) hn))) rfl (wo hn (wv (Ci rfl) (wo hm (GC rfl hn rfl (GK rfl hm rfl (vF ES rfl HJ (BI (i:=1) HJ rfl rfl (C0 rfl) rfl rfl (cs':=[Ap (max ha.fDepth ((hd.length:Int)+1)),Ap (IntKind.wrap .i64 (ha.fBytes+hg)),rB (!(ov (BD ((Ao v hb).fInt)))),rB ha.fLong]) rfl (H':=[.blk hf (Ab (Ao v hb)) 78,.blk b2 [Ap (max ha.fDepth ((hd.length:Int)+1)),Ap (IntKind.wrap .i64 (ha.fBytes+hg)),rB (!(ov (BD ((Ao v hb).fInt)))),rB ha.fLong] 133,.blk b1 [Ap 0,Ap 0,rB false,rB false] 133,.row he 166 5 (A8 A5 hd)]) rfl (Ak (IT (H':=[.blk hf (Ab (Ao v hb)) 78,.blk b2 [Ap (max ha.fDepth ((hd.length:Int)+1)),Ap (IntKind.wrap .i64 (ha.fBytes+hg)),rB (ha.fOutside||((decide (((Ao v hb).fKind)=3))&&(!(ov (BD ((Ao v hb).fInt)))))),rB ha.fLong] 133,.blk b1 [Ap 0,Ap 0,rB false,rB false] 133,.row he 166 5 (A8 A5 hd)]) (by simp only[hm,hn,AcQ,Adb,Adq,AcW,AcZ,Add,Adl,Adi,AcP,Ada,AcH,AcD]) ?_))))))))))))));exact wt
        ·refine wf hn (wf hn (wf hn (wf hn (wo hm (wv (r:=rB false) (AC rfl hn rfl) (GK rfl hm rfl (vF ES rfl HJ (BI (i:=1) HJ rfl rfl (C0 rfl) rfl rfl (cs':=[Ap (max ha.fDepth ((hd.length:Int)+1)),Ap (IntKind.wrap .i64 (ha.fBytes+hg)),rB false,rB ha.fLong]) rfl (H':=[.blk hf (Ab (Ao v hb)) 78,.blk b2 [Ap (max ha.fDepth ((hd.length:Int)+1)),Ap (IntKind.wrap .i64 (ha.fBytes+hg)),rB false,rB ha.fLong] 133,.blk b1 [Ap 0,Ap 0,rB false,rB false] 133,.row he 166 5 (A8 A5 hd)]) rfl (Ak (IT (H':=[.blk hf (Ab (Ao v hb)) 78,.blk b2 [Ap (max ha.fDepth ((hd.length:Int)+1)),Ap (IntKind.wrap .i64 (ha.fBytes+hg)),rB (ha.fOutside||((decide (((Ao v hb).fKind)=3))&&(!(ov (BD ((Ao v hb).fInt)))))),rB ha.fLong] 133,.blk b1 [Ap 0,Ap 0,rB false,rB false] 133,.row he 166 5 (A8 A5 hd)]) (by simp only[hm,hn,AcQ,Adb,Adq,AcW,AcZ,Add,Adl,Adi,AcP,Ada,AcH,AcD]) ?_))))))))));exact wt
      refine AK [(0,AQ 4 (A8 Ab v)),(3,rP b1 0),(5,rP b2 0),(6,rv he),(7,Ap hb),(8,rP hf 0),(11,AQ 4 (A8 Ab v)),(12,Ap (v.length:Int)),(13,Ap hb),(92,rP b2 1),(93,Ap ha.fBytes),(94,BK (Ab (Ao v hb))),(95,Ap hg),(96,Ap (IntKind.wrap .i64 (ha.fBytes+hg))),(97,rP b2 1)] [.blk hf (Ab (Ao v hb)) 78,.blk b2 [Ap (max ha.fDepth ((hd.length:Int)+1)),Ap (IntKind.wrap .i64 (ha.fBytes+hg)),rB (ha.fOutside||((decide (((Ao v hb).fKind)=3))&&(!(ov (BD ((Ao v hb).fInt)))))),rB (ha.fLong||(decide (200<(((Ao v hb).fStr).length:Int))))] 133,.blk b1 [Ap 0,Ap 0,rB false,rB false] 133,.row he 166 5 (A8 A5 hd)] ?_ ?_
      ·refine Ah (vF ES rfl HJ (vL 1 Qg rfl (wm rfl (AS (ha.fLong) (λhp=>?_) (λhp=>?_)))))
       ·refine wf hp (wf hp (wf hp (wf hp (wv (r:=rB true) (A1 rfl hp rfl) (vF ES rfl HJ (BI (i:=1) HJ rfl rfl (C0 rfl) rfl rfl (cs':=[Ap (max ha.fDepth ((hd.length:Int)+1)),Ap (IntKind.wrap .i64 (ha.fBytes+hg)),rB (ha.fOutside||((decide (((Ao v hb).fKind)=3))&&(!(ov (BD ((Ao v hb).fInt)))))),rB true]) rfl (H':=[.blk hf (Ab (Ao v hb)) 78,.blk b2 [Ap (max ha.fDepth ((hd.length:Int)+1)),Ap (IntKind.wrap .i64 (ha.fBytes+hg)),rB (ha.fOutside||((decide (((Ao v hb).fKind)=3))&&(!(ov (BD ((Ao v hb).fInt)))))),rB true] 133,.blk b1 [Ap 0,Ap 0,rB false,rB false] 133,.row he 166 5 (A8 A5 hd)]) rfl (Ak (IT (H':=[.blk hf (Ab (Ao v hb)) 78,.blk b2 [Ap (max ha.fDepth ((hd.length:Int)+1)),Ap (IntKind.wrap .i64 (ha.fBytes+hg)),rB (ha.fOutside||((decide (((Ao v hb).fKind)=3))&&(!(ov (BD ((Ao v hb).fInt)))))),rB (ha.fLong||(decide (200<(((Ao v hb).fStr).length:Int))))] 133,.blk b1 [Ap 0,Ap 0,rB false,rB false] 133,.row he 166 5 (A8 A5 hd)]) (by simp only[hp,AcQ,Adb,Adq,AcW,AcZ,Add,Adl,Adi,AcP,Ada,AcH,AcD]) ?_))))))));exact wt
       ·refine wo hp (vF B4 rfl Cs (wo hp (vL 0 CU rfl (wo hp (wv (Bj Ce rfl) (wo hp (wv (C3 rfl rfl) (GK rfl hp rfl (vF ES rfl HJ (BI (i:=1) HJ rfl rfl (C0 rfl) rfl rfl (cs':=[Ap (max ha.fDepth ((hd.length:Int)+1)),Ap (IntKind.wrap .i64 (ha.fBytes+hg)),rB (ha.fOutside||((decide (((Ao v hb).fKind)=3))&&(!(ov (BD ((Ao v hb).fInt)))))),rB (decide (200<(((Ao v hb).fStr).length:Int)))]) rfl (H':=[.blk hf (Ab (Ao v hb)) 78,.blk b2 [Ap (max ha.fDepth ((hd.length:Int)+1)),Ap (IntKind.wrap .i64 (ha.fBytes+hg)),rB (ha.fOutside||((decide (((Ao v hb).fKind)=3))&&(!(ov (BD ((Ao v hb).fInt)))))),rB (decide (200<(((Ao v hb).fStr).length:Int)))] 133,.blk b1 [Ap 0,Ap 0,rB false,rB false] 133,.row he 166 5 (A8 A5 hd)]) rfl (Ak (IT (H':=[.blk hf (Ab (Ao v hb)) 78,.blk b2 [Ap (max ha.fDepth ((hd.length:Int)+1)),Ap (IntKind.wrap .i64 (ha.fBytes+hg)),rB (ha.fOutside||((decide (((Ao v hb).fKind)=3))&&(!(ov (BD ((Ao v hb).fInt)))))),rB (ha.fLong||(decide (200<(((Ao v hb).fStr).length:Int))))] 133,.blk b1 [Ap 0,Ap 0,rB false,rB false] 133,.row he 166 5 (A8 A5 hd)]) (by simp only[hp,AcQ,Adb,Adq,AcW,AcZ,Add,Adl,Adi,AcP,Ada,AcH,AcD]) ?_))))))))))));exact wt
      refine Ai (Ag (vF B4 rfl Ct (vL 0 CX rfl (wv (C3 rfl rfl) (Am (cz gt rfl (λgu gv=>?_) (λgu gw=>?_)))))))
      ·refine Ai (Ag (vF B4 rfl Ct (vL 0 CX rfl (wm rfl (wv (Be (ys:=v) (enc:=Ab) Cg rfl) (wv (C3 rfl rfl) (Am (cz gv rfl (λgx gy=>?_) (λgx gz=>?_)))))))))
       ·refine Ai (GM (H1:=[.blk hf (Ab (Ao v hb)) 78,.blk b2 [Ap (max ha.fDepth ((hd.length:Int)+1)),Ap (IntKind.wrap .i64 (ha.fBytes+hg)),rB (ha.fOutside||((decide (((Ao v hb).fKind)=3))&&(!(ov (BD ((Ao v hb).fInt)))))),rB (ha.fLong||(decide (200<(((Ao v hb).fStr).length:Int))))] 133,.blk b1 [Ap (max ha.fDepth ((hd.length:Int)+1)),Ap (IntKind.wrap .i64 (ha.fBytes+hg)),rB (ha.fOutside||((decide (((Ao v hb).fKind)=3))&&(!(ov (BD ((Ao v hb).fInt)))))),rB (ha.fLong||(decide (200<(((Ao v hb).fStr).length:Int))))] 133,.row he 166 5 (A8 A5 hd)]) [3,5] [⟨[],BK [Ap (max ha.fDepth ((hd.length:Int)+1)),Ap (IntKind.wrap .i64 (ha.fBytes+hg)),rB (ha.fOutside||((decide (((Ao v hb).fKind)=3))&&(!(ov (BD ((Ao v hb).fInt)))))),rB (ha.fLong||(decide (200<(((Ao v hb).fStr).length:Int))))],1⟩,⟨[],Ap 0,0⟩,⟨[0],rv undef,2⟩,⟨[],rB false,0⟩] (rle [(3,_),(2,[.blk hf (Ab (Ao v hb)) 78,.blk b2 [Ap (max ha.fDepth ((hd.length:Int)+1)),Ap (IntKind.wrap .i64 (ha.fBytes+hg)),rB (ha.fOutside||((decide (((Ao v hb).fKind)=3))&&(!(ov (BD ((Ao v hb).fInt)))))),rB (ha.fLong||(decide (200<(((Ao v hb).fStr).length:Int))))] 133,.blk b1 [Ap (max ha.fDepth ((hd.length:Int)+1)),Ap (IntKind.wrap .i64 (ha.fBytes+hg)),rB (ha.fOutside||((decide (((Ao v hb).fKind)=3))&&(!(ov (BD ((Ao v hb).fInt)))))),rB (ha.fLong||(decide (200<(((Ao v hb).fStr).length:Int))))] 133,.row he 166 5 (A8 A5 hd)])]) [2,4,3] ?_ ?_)
        ·refine of (BC (i:=1) KD Gs rfl rfl rfl rfl) (oq (Ax rfl) (JD rfl (RD (DV (i:=2) Gs rfl rfl rfl (BJ.c rfl) rfl rfl (cs':=[Ap (max ha.fDepth ((hd.length:Int)+1)),Ap (IntKind.wrap .i64 (ha.fBytes+hg)),rB (ha.fOutside||((decide (((Ao v hb).fKind)=3))&&(!(ov (BD ((Ao v hb).fInt)))))),rB (ha.fLong||(decide (200<(((Ao v hb).fStr).length:Int))))]) rfl (H':=[.blk hf (Ab (Ao v hb)) 78,.blk b2 [Ap (max ha.fDepth ((hd.length:Int)+1)),Ap (IntKind.wrap .i64 (ha.fBytes+hg)),rB (ha.fOutside||((decide (((Ao v hb).fKind)=3))&&(!(ov (BD ((Ao v hb).fInt)))))),rB (ha.fLong||(decide (200<(((Ao v hb).fStr).length:Int))))] 133,.blk b1 [Ap (max ha.fDepth ((hd.length:Int)+1)),Ap (IntKind.wrap .i64 (ha.fBytes+hg)),rB (ha.fOutside||((decide (((Ao v hb).fKind)=3))&&(!(ov (BD ((Ao v hb).fInt)))))),rB (ha.fLong||(decide (200<(((Ao v hb).fStr).length:Int))))] 133,.row he 166 5 (A8 A5 hd)]) rfl)) ?_));refine oq (Ax rfl) ?_;exact Cd
        refine AJ (Av (Ac (Ac (Ay (Ac (Ac (AR ?_)))))));have g0:=Bo gy hx hy;refine Ay (Ac (JV ?_));obtain rfl:=Aw g0;exact Au (WN QY (AG rfl) (GR (i:=2) KD Gs rfl rfl rfl) (AG rfl)) (sS (sS (sS (sS sN)))) ⟨rfl,rfl⟩
       ·refine Ar (AJ (Ag (wm rfl (vF B4 rfl E7 (vL 0 E8 rfl (wv (B6 rfl rfl) (vF B4 rfl Ct (vL 0 CX rfl (vF B4 rfl E7 (vL 0 E8 rfl (wv (B6 rfl rfl) (wv (r:=BK [rB (decide (((Ao v hb).fKind)=6)),Ap ((Ao v hb).fN),rB (decide (((Ao v hb).fKind)=6)),rS ([]:Af),rB false]) (M1 rfl rfl rfl rfl rfl rfl) (AZ (ys:=([(A7.mk (decide (((Ao v hb).fKind)=6)) ((Ao v hb).fN) (decide (((Ao v hb).fKind)=6)) ([]:Af) false)]:List A7)) (enc:=A5) (css:=[[rB (decide (((Ao v hb).fKind)=6)),Ap ((Ao v hb).fN),rB (decide (((Ao v hb).fKind)=6)),rS ([]:Af),rB false]]) (xs:=[.tmp 139]) Jl QT Tryz.zeroValue166 rfl rfl rfl ⟨EI.agg ⟨Up.refl _,Up.refl _,Up.refl _,Up.refl _,Up.refl _,trivial⟩,trivial⟩ rfl Jt rfl rfl rfl (λg1=>?_))))))))))))));refine ck gz λg2 g3=>Exists.elim ZT λinf hinf=>BY (xs:=hd) (ys:=([(A7.mk (decide (((Ao v hb).fKind)=6)) ((Ao v hb).fN) (decide (((Ao v hb).fKind)=6)) ([]:Af) false)]:List A7)) (enc:=A5) (i:=4) Jl hinf.1 hinf.2.1 hinf.2.2.1 hinf.2.2.2 rfl rfl rfl rfl rfl (KA.w (i:=0) rfl rfl) Jt Ns g2 rfl (λh9=>?_);exact wa rfl (Am (Bl (As (AW (Dh (H2:=[.blk b2 [Ap (max ha.fDepth ((hd.length:Int)+1)),Ap (IntKind.wrap .i64 (ha.fBytes+hg)),rB (ha.fOutside||((decide (((Ao v hb).fKind)=3))&&(!(ov (BD ((Ao v hb).fInt)))))),rB (ha.fLong||(decide (200<(((Ao v hb).fStr).length:Int))))] 133,.blk b1 [Ap 0,Ap 0,rB false,rB false] 133,.row h9 166 5 (A8 A5 (hd++([(A7.mk (decide (((Ao v hb).fKind)=6)) ((Ao v hb).fN) (decide (((Ao v hb).fKind)=6)) ([]:Af) false)]:List A7))),.row (.slice (some ⟨g1,0,none⟩) 1 1) 166 5 (A8 A5 ([(A7.mk (decide (((Ao v hb).fKind)=6)) ((Ao v hb).fN) (decide (((Ao v hb).fKind)=6)) ([]:Af) false)]:List A7)),.blk hf (Ab (Ao v hb)) 78]) ((A4 (i:=3) rfl).trans (AcJ _ ((A4 (i:=3) rfl).trans (AcJ _ (AcI _))))) (Az (A3 ((hd++([(A7.mk (decide (((Ao v hb).fKind)=6)) ((Ao v hb).fN) (decide (((Ao v hb).fKind)=6)) ([]:Af) false)]:List A7),(AL.mk (max ha.fDepth ((hd.length:Int)+1)) (IntKind.wrap .i64 (ha.fBytes+hg)) (ha.fOutside||((decide (((Ao v hb).fKind)=3))&&(!(ov (BD ((Ao v hb).fInt)))))) (ha.fLong||(decide (200<(((Ao v hb).fStr).length:Int)))))),h9) g3 (A6.c rfl (A6.c rfl (A6.c5 rfl rfl rfl rfl rfl A6.nil))) (sC (sC (sC (sS (sS sN))))))))))))
      ·refine Ar (AJ (Ag (wm rfl (ob gw λhw g4 g5=>Gt (Hr:=[.blk hf (Ab (Ao v hb)) 78,.blk b2 [Ap (max ha.fDepth ((hd.length:Int)+1)),Ap (IntKind.wrap .i64 (ha.fBytes+hg)),rB (ha.fOutside||((decide (((Ao v hb).fKind)=3))&&(!(ov (BD ((Ao v hb).fInt)))))),rB (ha.fLong||(decide (200<(((Ao v hb).fStr).length:Int))))] 133,.blk b1 [Ap 0,Ap 0,rB false,rB false] 133]) Tryz.call147 (UI F he hd hw g4) rfl ((A4 (i:=3) rfl).trans (AcJ _ (AcI _))) rfl ?_))));rintro _ _ ⟨hz,rfl,rfl⟩;refine wa rfl (Bv (wm rfl (wv (Dg (ys:=hw) (enc:=A5) (i:=0) Jl rfl rfl) (wv (B6 rfl rfl) (Am (cz g5 rfl (λg6 g7=>?_) (λg6 g8=>?_)))))))
       ·refine Ai (ck g7 λg9 gA=>GM (H1:=[.row hz 166 5 (A8 A5 hw),.blk hf (Ab (Ao v hb)) 78,.blk b2 [Ap (max ha.fDepth ((hd.length:Int)+1)),Ap (IntKind.wrap .i64 (ha.fBytes+hg)),rB (ha.fOutside||((decide (((Ao v hb).fKind)=3))&&(!(ov (BD ((Ao v hb).fInt)))))),rB (ha.fLong||(decide (200<(((Ao v hb).fStr).length:Int))))] 133,.blk b1 [Ap (max ha.fDepth ((hd.length:Int)+1)),Ap (IntKind.wrap .i64 (ha.fBytes+hg)),rB (ha.fOutside||((decide (((Ao v hb).fKind)=3))&&(!(ov (BD ((Ao v hb).fInt)))))),rB (ha.fLong||(decide (200<(((Ao v hb).fStr).length:Int))))] 133]) [3,5,7] [⟨[],Ap hb,0⟩,⟨[0],Ap (hb+1),0⟩,⟨[],BK [Ap (max ha.fDepth ((hd.length:Int)+1)),Ap (IntKind.wrap .i64 (ha.fBytes+hg)),rB (ha.fOutside||((decide (((Ao v hb).fKind)=3))&&(!(ov (BD ((Ao v hb).fInt)))))),rB (ha.fLong||(decide (200<(((Ao v hb).fStr).length:Int))))],1⟩,⟨[1],Ap (hb+1),0⟩,⟨[2],rv undef,2⟩,⟨[],rB true,0⟩] (rle [(5,_),(2,[.row hz 166 5 (A8 A5 hw),.blk hf (Ab (Ao v hb)) 78,.blk b2 [Ap (max ha.fDepth ((hd.length:Int)+1)),Ap (IntKind.wrap .i64 (ha.fBytes+hg)),rB (ha.fOutside||((decide (((Ao v hb).fKind)=3))&&(!(ov (BD ((Ao v hb).fInt)))))),rB (ha.fLong||(decide (200<(((Ao v hb).fStr).length:Int))))] 133,.blk b1 [Ap (max ha.fDepth ((hd.length:Int)+1)),Ap (IntKind.wrap .i64 (ha.fBytes+hg)),rB (ha.fOutside||((decide (((Ao v hb).fKind)=3))&&(!(ov (BD ((Ao v hb).fInt)))))),rB (ha.fLong||(decide (200<(((Ao v hb).fStr).length:Int))))] 133])]) [2,4,3] ?_ ?_)
        ·refine oq (Al rfl) (oq (Bk rfl rfl g9) (of (BC (i:=2) KD Gs rfl rfl rfl rfl) (oq (Ax rfl) (JD rfl (RD (DV (i:=3) Gs rfl rfl rfl (BJ.c rfl) rfl rfl (cs':=[Ap (max ha.fDepth ((hd.length:Int)+1)),Ap (IntKind.wrap .i64 (ha.fBytes+hg)),rB (ha.fOutside||((decide (((Ao v hb).fKind)=3))&&(!(ov (BD ((Ao v hb).fInt)))))),rB (ha.fLong||(decide (200<(((Ao v hb).fStr).length:Int))))]) rfl (H':=[.row hz 166 5 (A8 A5 hw),.blk hf (Ab (Ao v hb)) 78,.blk b2 [Ap (max ha.fDepth ((hd.length:Int)+1)),Ap (IntKind.wrap .i64 (ha.fBytes+hg)),rB (ha.fOutside||((decide (((Ao v hb).fKind)=3))&&(!(ov (BD ((Ao v hb).fInt)))))),rB (ha.fLong||(decide (200<(((Ao v hb).fStr).length:Int))))] 133,.blk b1 [Ap (max ha.fDepth ((hd.length:Int)+1)),Ap (IntKind.wrap .i64 (ha.fBytes+hg)),rB (ha.fOutside||((decide (((Ao v hb).fKind)=3))&&(!(ov (BD ((Ao v hb).fInt)))))),rB (ha.fLong||(decide (200<(((Ao v hb).fStr).length:Int))))] 133]) rfl)) ?_))));refine oq (Ax rfl) ?_;exact Cd
        refine AJ (Av (Ay (Ac (Ac (AR ?_)))));have gB:=Bo gA hx hy;refine Ay (Ac (JV ?_));obtain rfl:=Aw gB;exact Au (WN QY (AG rfl) (GR (i:=3) KD Gs rfl rfl rfl) (AG rfl)) (sS (sS (sS (sS sN)))) ⟨rfl,rfl⟩
       ·exact Ar (AA (Dh (H2:=[.blk b2 [Ap (max ha.fDepth ((hd.length:Int)+1)),Ap (IntKind.wrap .i64 (ha.fBytes+hg)),rB (ha.fOutside||((decide (((Ao v hb).fKind)=3))&&(!(ov (BD ((Ao v hb).fInt)))))),rB (ha.fLong||(decide (200<(((Ao v hb).fStr).length:Int))))] 133,.blk b1 [Ap 0,Ap 0,rB false,rB false] 133,.row hz 166 5 (A8 A5 hw),.blk hf (Ab (Ao v hb)) 78]) ((A4 (i:=2) rfl).trans (AcJ _ ((A4 (i:=2) rfl).trans (AcJ _ (AcI _))))) (Az (A3 ((hw,(AL.mk (max ha.fDepth ((hd.length:Int)+1)) (IntKind.wrap .i64 (ha.fBytes+hg)) (ha.fOutside||((decide (((Ao v hb).fKind)=3))&&(!(ov (BD ((Ao v hb).fInt)))))) (ha.fLong||(decide (200<(((Ao v hb).fStr).length:Int)))))),hz) g8 (A6.c rfl (A6.c rfl (A6.c5 rfl rfl rfl rfl rfl A6.nil))) (sC (sC (sC (sS sN))))))))
   ·rintro⟨⟨h6,h7⟩,h8⟩ h2;refine BG (l':=[(0,AQ 4 (A8 Ab v)),(3,rP b1 0),(5,rP b2 0),(6,rv h8),(11,AQ 4 (A8 Ab v)),(12,Ap (v.length:Int)),(13,Ap hb)]) (H':=[.blk b2 (AT h7) 133,.blk b1 [Ap 0,Ap 0,rB false,rB false] 133,.row h8 166 5 (A8 A5 h6)]) rfl rfl ?_;replace h2:EB hb h6 h7=some h4:=h2;unfold EB at h2;refine Ah (ck h2 λgC gD=>wv (Bk rfl rfl gC) (wm rfl (Ak ?_)));have gE:=Ba gD hx;exact Az (A3 (hD,(h6,hb+1,h7),h8) ⟨gE,AcM _⟩ (A6.c rfl (A6.c rfl (A6.c5 rfl rfl rfl rfl rfl A6.nil))) (sC (sC (sC sN))))
  ·refine Bl (As ?_);have gF:=BB hH hx hy;exact As (AV (A3 (ha,()) gF (A6.c rfl (A6.c rfl A6.nil)) (sC (sC (sS sN)))))
 ·rintro⟨hq,⟨⟩⟩ h3;refine Cb (l':=[(3,rP b1 0),(5,rP b2 0)]) (H':=[.blk b2 (AT hq) 133,.blk b1 [Ap 0,Ap 0,rB false,rB false] 133]) rfl rfl ?_;replace h3:Lt hq=some r:=h3;unfold Lt at h3;refine AW (AJ (Ai (GM (H1:=[.blk b2 (AT hq) 133,.blk b1 (AT hq) 133]) [3,5] [⟨[],BK (AT hq),1⟩,⟨[],Ap 0,0⟩,⟨[0],rv undef,2⟩,⟨[],rB false,0⟩] (rle [(3,_),(2,[.blk b2 (AT hq) 133,.blk b1 (AT hq) 133])]) [2,4,3] ?_ ?_)))
  ·refine of (BC (i:=0) KD Gs rfl rfl rfl rfl) (oq (Ax rfl) (JD rfl (RD (DV (i:=1) Gs rfl rfl rfl (BJ.c rfl) rfl rfl (cs':=[Ap hq.fDepth,Ap hq.fBytes,rB hq.fOutside,rB hq.fLong]) rfl (H':=[.blk b2 (AT hq) 133,.blk b1 (AT hq) 133]) rfl)) ?_));refine oq (Ax rfl) ?_;exact Cd
  refine AJ (Av (JV ?_));obtain rfl:=Aw h3;exact Au (WN QY (AG rfl) (GR (i:=1) KD Gs rfl rfl rfl) (AG rfl)) (sS (sS sN)) ⟨rfl,rfl⟩
theorem Oa (F:Nat)(v:(List Aa))(r:Int)(h:KT F v=some r):Fn Tryz.prog GE 80 [AQ 4 (A8 Ab v)] [] (λR H=>R=Ap r∧H=[]):=by
 refine enter (n:=42) Tryz.func80 rfl Tryz.ntmps80 rfl (λw Z=>?_);unfold KT at h;refine Ag (wa rfl (Bv (wm rfl (ob h λr1 e3 h2=>CG Tryz.call106 (Qj F v r1 e3) rfl (wm rfl (wv (AE rfl rfl) (wv (AE rfl rfl) (wv (AE rfl rfl) (BM (cs:=[Ap 0,Ap 0,rB false,rB false]) QR rfl rfl (λb4=>?_))))))))));refine wa rfl (Bh (i:=0) Gs rfl rfl rfl (BJ.c rfl) rfl rfl (cs':=[Ap r1.2.1.fDepth,Ap r1.2.1.fBytes,rB r1.2.1.fOutside,rB r1.2.1.fLong]) rfl (H':=[.blk b4 (AT r1.2.1) 133]) rfl (wa rfl (Am (Ai (A9 (AK [(0,AQ 4 (A8 Ab v)),(4,rP b4 0),(12,rB ((!r1.2.2)||(!decide (r1.1=(v.length:Int)))))] [.blk b4 (AT r1.2.1) 133] ?_ ?_))))))
 ·refine Ah (wm rfl (wv (Ci rfl) (wm rfl (AS (!r1.2.2) (λc5=>?_) (λc5=>?_)))))
  ·refine wf c5 (wf c5 (wf c5 (wf c5 (wv (r:=rB true) (A1 rfl c5 rfl) (wa rfl (Ak ?_))))));exact Cm c5
  ·refine wo c5 (wm rfl (wo c5 (wm rfl (wo c5 (wv (Be (ys:=v) (enc:=Ab) Cg rfl) (wo c5 (wv (CQ rfl rfl) (GK rfl c5 rfl (wa rfl (Ak ?_))))))))));exact Cm c5
 refine cz h2 rfl (λc6 h7=>?_) (λc6 h8=>?_)
 ·refine Ag (wa rfl (Am (Av (Ay (Ac ?_)))));obtain rfl:=Aw h7;exact Au (BQ Zc (AG rfl)) (sS sN) ⟨rfl,rfl⟩
 ·refine Ag (vF ES rfl HJ (vL 0 Qg rfl (wa rfl (Am (cz h8 rfl (λc9 he=>?_) (λc9 hf=>?_))))))
  ·refine Ag (wa rfl (Am (Av (Ay (Ac ?_)))));obtain rfl:=Aw he;exact Au (BQ Zc (AG rfl)) (sS sN) ⟨rfl,rfl⟩
  ·refine AK [(24,rB (r1.2.1.fLong||((decide (200<(v.length:Int)))||((decide (8<r1.2.1.fDepth))||(decide (4000<r1.2.1.fBytes))))))] [] ?_ ?_
   ·refine Ah (vF ES rfl HJ (vL 0 Qg rfl (wm rfl (AS (r1.2.1.fLong) (λha=>?_) (λha=>?_)))))
    ·refine wf ha (wf ha (wf ha (wv (r:=rB true) (A1 rfl ha rfl) (wm rfl (wz rfl rfl (wz rfl rfl (wz rfl rfl (wv (r:=rB true) (A1 (b:=true) rfl rfl rfl) (wm rfl (wz rfl rfl (wz rfl rfl (wz rfl rfl (wv (r:=rB true) (A1 (b:=true) rfl rfl rfl) (wa rfl (Ak ?_)))))))))))))));exact Cm ha
    ·refine wo ha (wm rfl (wo ha (wv (Be (ys:=v) (enc:=Ab) Cg rfl) (wo ha (wv (C3 rfl rfl) (GK rfl ha rfl (wm rfl (AS (decide (200<(v.length:Int))) (λhb=>?_) (λhb=>?_)))))))))
     ·refine wf hb (wf hb (wf hb (wv (r:=rB true) (A1 rfl hb rfl) (wm rfl (wz rfl rfl (wz rfl rfl (wz rfl rfl (wv (r:=rB true) (A1 (b:=true) rfl rfl rfl) (wa rfl (Ak ?_))))))))));exact Cm (And.intro ha hb)
     ·refine wo hb (vF ES rfl Ct (wo hb (vL 0 CX rfl (wo hb (wv (C3 rfl rfl) (GK rfl hb rfl (wm rfl (AS (decide (8<r1.2.1.fDepth)) (λhd=>?_) (λhd=>?_)))))))))
      ·refine wf hd (wf hd (wf hd (wv (r:=rB true) (A1 rfl hd rfl) (wa rfl (Ak ?_)))));exact Cm (And.intro ha (And.intro hb hd))
      ·refine wo hd (vF ES rfl Ct (wo hd (vL 0 CX rfl (wo hd (wv (C3 rfl rfl) (GK rfl hd rfl (wa rfl (Ak ?_))))))));exact Cm (And.intro ha (And.intro hb hd))
   refine cz hf rfl (λhg hh=>?_) (λhg hi=>?_)
   ·refine Ag (wa rfl (Am (Av (Ay (Ac ?_)))));obtain rfl:=Aw hh;exact Au (BQ Zc (AG rfl)) sN ⟨rfl,rfl⟩
   ·refine Ar (AA (AJ (Ag (wa rfl (Am (Av ?_))))));obtain rfl:=Aw hi;exact Au (BQ Zc (AG rfl)) sN ⟨rfl,rfl⟩
theorem SN (F:Nat)(v:(List Aa))(r:(List Aa)×Int)(h:Lx F v=some r):Fn Tryz.prog GE 101 [AQ 4 (A8 Ab v)] [] (λR H=>R=C2 [AQ 4 (A8 Ab r.1),Ap r.2]∧H=[]):=by
 refine enter (n:=11) Tryz.func101 rfl Tryz.ntmps101 rfl (λw Z=>?_);unfold Lx at h;refine Ag (wa rfl (wa rfl (Am (Ai (Ag (wm rfl (ob h λr1 e3 h2=>CG Tryz.call80 (Oa F v r1 e3) rfl (wa rfl (Bv (wm rfl (wv (CQ rfl rfl) (Am (cz h2 rfl (λc4 h5=>?_) (λc4 h6=>?_))))))))))))))
 ·refine Ag (wm rfl (wa rfl (wa rfl (Am (Av (Ac (WK.up (d:=2) (r:=AQ 4 (A8 Ab ([]:List Aa))) rfl (Up.le (HK.nil _)) ?_)))))));obtain rfl:=Aw h5;exact Au (DC Tryz.results101 (AG rfl) (AG rfl)) sN ⟨rfl,rfl⟩
 ·refine Ar (AJ (Ag (wm rfl (wa rfl (wa rfl (Am (Av ?_)))))));obtain rfl:=Aw h6;exact Au (DC Tryz.results101 (AG rfl) (AG rfl)) sN ⟨rfl,rfl⟩
end Go.Proofs.YtjfnokmpfekniaaGreatDoor.Q
namespace Go.Proofs.YtjfnokmpfekniaaGreatDoor
open Go
set_option linter.unusedVariables false
def Dz (s:Af)(ha:Int)(hb:Af):Option (Stp (Int×Af) (Out (Af) (Af))):=
 Bf (decide (ha<(s.length:Int))) (AX (CJ ha (s.length:Int))<|Bf (((decide ((Bm s ha)=34))||(decide ((Bm s ha)=92)))) (AX (Dw 1 (hb.length+1))<|AX (B9 .u8 92)<|Ll (hb++[UInt8.ofNat (Int.toNat 92)]) λhd=>AX (Dw 1 (hd.length+1))<|AX (B9 .u8 (Bm s ha))<|Ll (hd++[UInt8.ofNat (Int.toNat (Bm s ha))]) λhe=>AX (B9 .i64 (ha+1))<|some (.next (ha+1,he))) (AX (Dw 1 (hb.length+1))<|AX (B9 .u8 (Bm s ha))<|Ll (hb++[UInt8.ofNat (Int.toNat (Bm s ha))]) λhf=>AX (B9 .i64 (ha+1))<|some (.next (ha+1,hf)))) (some (.out (.go hb)))
def EU (ha:Af):Option (Af):=
 AX (Dw 1 (ha.length+1))<|Ll (ha++[UInt8.ofNat (Int.toNat 34)]) λhb=>some hb
def KS (F:Nat)(l:Af)(s:Af):Option (Af):=
 AX (Dw 1 (l.length+1))<|AX (B9 .u8 34)<|Ll (l++[UInt8.ofNat (Int.toNat 34)]) λr6=>Br (B7 (λσ=>Dz s σ.1 σ.2) F (0,r6)) (B5 λν=>EU ν)
def JZ (F:Nat)(hm:Af→(List Aa)→Bool→Af→Aa→Option (Bool×Bool×Af))(ha:(List Aa)→Bool→Af→Aa→Option (Bool×Af))(l:Af)(v:(List Aa)):Option (Af):=
 AX (CJ 0 (v.length:Int))<|Bf (decide (((Ao v 0).fKind)=1)) (AX (Dw 1 (l.length+([110,117,108,108]:Af).length))<|Ll (l++([110,117,108,108]:Af)) λhe=>some he) (Bf (decide (((Ao v 0).fKind)=2)) (AX (CJ ((Ao v 0).fInt) (([([102,97,108,115,101]:Af),([116,114,117,101]:Af)]:List Af).length:Int))<|AX (Dw 1 (l.length+(Ao ([([102,97,108,115,101]:Af),([116,114,117,101]:Af)]:List Af) ((Ao v 0).fInt)).length))<|Ll (l++(Ao ([([102,97,108,115,101]:Af),([116,114,117,101]:Af)]:List Af) ((Ao v 0).fInt))) λhf=>some hf) (Bf (decide (((Ao v 0).fKind)=3)) (AX (B9 .i64 ((Ao v 0).fInt))<|AX (Dw 1 (l.length+(Lib.itoa ((Ao v 0).fInt)).length))<|Ll (l++(Lib.itoa ((Ao v 0).fInt))) λhg=>some hg) (Bf (decide (((Ao v 0).fKind)=4)) (Br (KS F l ((Ao v 0).fStr)) λhh=>some hh) (Bf (decide (((Ao v 0).fKind)=6)) (AX (CJ 0 (([123,125]:Af).length:Int))<|AX (Dw 1 (l.length+1))<|AX (B9 .u8 (Bm ([123,125]:Af) 0))<|Ll (l++[UInt8.ofNat (Int.toNat (Bm ([123,125]:Af) 0))]) λhi=>Br (ha v true hi (Ao v 0)) λhb=>AX (CJ 1 (([123,125]:Af).length:Int))<|AX (Dw 1 (hb.2.length+1))<|AX (B9 .u8 (Bm ([123,125]:Af) 1))<|Ll (hb.2++[UInt8.ofNat (Int.toNat (Bm ([123,125]:Af) 1))]) λhj=>some hj) (AX (CJ 0 (([91,93]:Af).length:Int))<|AX (Dw 1 (l.length+1))<|AX (B9 .u8 (Bm ([91,93]:Af) 0))<|Ll (l++[UInt8.ofNat (Int.toNat (Bm ([91,93]:Af) 0))]) λhk=>Br (ha v true hk (Ao v 0)) λhd=>AX (CJ 1 (([91,93]:Af).length:Int))<|AX (Dw 1 (hd.2.length+1))<|AX (B9 .u8 (Bm ([91,93]:Af) 1))<|Ll (hd.2++[UInt8.ofNat (Int.toNat (Bm ([91,93]:Af) 1))]) λhl=>some hl)))))
def Lq (F:Nat)(ha:Af→(List Aa)→Option (Af))(key:Af)(x:(List Aa))(first:Bool)(l:Af)(c:Aa):Option (Bool×Bool×Af):=
 Bf (!first) (AX (Dw 1 (l.length+1))<|AX (B9 .u8 44)<|Ll (l++[UInt8.ofNat (Int.toNat 44)]) λr8=>Bf (decide (c.fKind=6)) (Br (KS F r8 key) λhb=>AX (Dw 1 (hb.length+1))<|AX (B9 .u8 58)<|Ll (hb++[UInt8.ofNat (Int.toNat 58)]) λhe=>Br (ha he x) λhf=>some (true,false,hf)) (Br (ha r8 x) λhg=>some (true,false,hg))) (Bf (decide (c.fKind=6)) (Br (KS F l key) λhd=>AX (Dw 1 (hd.length+1))<|AX (B9 .u8 58)<|Ll (hd++[UInt8.ofNat (Int.toNat 58)]) λhh=>Br (ha hh x) λhi=>some (true,false,hi)) (Br (ha l x) λhj=>some (true,false,hj)))
def DA (F:Nat)(v:(List Aa))(c:Aa)(hj:Af→(List Aa)→Bool→Af→Aa→Option (Bool×Bool×Af))(ha:Int)(hb:Int)(hh:Bool)(hi:Af):Option (Stp (Int×Int×Bool×Af) (Out (Bool×Af) (Bool×Af))):=
 Bf (decide (hb<((Ao v 0).fN))) (Bf (decide (((Ao v 0).fKind)=6)) (AX (CJ ha (v.length:Int))<|AX (B9 .i64 (ha+1))<|AX (HU (ha+1) (v.length:Int))<|Br (Jn F (List.drop (Int.toNat (ha+1)) v)) λhd=>AX (B9 .i64 ((ha+1)+hd.1))<|AX (HU (ha+1) ((ha+1)+hd.1))<|AX (HU ((ha+1)+hd.1) (v.length:Int))<|Br (hj ((Ao v ha).fStr) (List.take (Int.toNat ((ha+1)+hd.1)-Int.toNat (ha+1)) (List.drop (Int.toNat (ha+1)) v)) hh hi c) λhe=>Bf (!he.1) (some (.out (.ret (he.2.1,he.2.2)))) (AX (B9 .i64 (hb+1))<|some (.next ((ha+1)+hd.1,hb+1,he.2.1,he.2.2)))) (AX (HU ha (v.length:Int))<|Br (Jn F (List.drop (Int.toNat ha) v)) λhf=>AX (B9 .i64 (ha+hf.1))<|AX (HU ha (ha+hf.1))<|AX (HU (ha+hf.1) (v.length:Int))<|Br (hj ([]:Af) (List.take (Int.toNat (ha+hf.1)-Int.toNat ha) (List.drop (Int.toNat ha) v)) hh hi c) λhg=>Bf (!hg.1) (some (.out (.ret (hg.2.1,hg.2.2)))) (AX (B9 .i64 (hb+1))<|some (.next (ha+hf.1,hb+1,hg.2.1,hg.2.2))))) (some (.out (.go (hh,hi))))
def Hw (ha:Bool)(hb:Af):Option (Bool×Af):=
 some (ha,hb)
def Ip (F:Nat)(ha:Af→(List Aa)→Bool→Af→Aa→Option (Bool×Bool×Af))(v:(List Aa))(first:Bool)(l:Af)(c:Aa):Option (Bool×Af):=
 AX (CJ 0 (v.length:Int))<|Br (B7 (λσ=>DA F v c ha σ.1 σ.2.1 σ.2.2.1 σ.2.2.2) F (1,0,first,l)) (B5 λν=>Hw ν.1 ν.2)
mutual
def Gy:Nat→Af→(List Aa)→Option (Af)
 | 0,_,_=>none
 | nn+1,l,v=>JZ nn (EJ nn) (GT nn) l v
def EJ:Nat→Af→(List Aa)→Bool→Af→Aa→Option (Bool×Bool×Af)
 | 0,_,_,_,_,_=>none
 | nn+1,key,x,first,l,c=>Lq nn (Gy nn) key x first l c
def GT:Nat→(List Aa)→Bool→Af→Aa→Option (Bool×Af)
 | 0,_,_,_,_=>none
 | nn+1,v,first,l,c=>Ip nn (EJ nn) v first l c
end
def Lu (F:Nat)(v:(List Aa)):Option (Af×Int):=
 Br (KT F v) λr1=>Bf (!decide (r1=0)) (some (([]:Af),r1)) (Br (Gy F ([]:Af) v) λr8=>AX (decide (0<r8.length))<|some (r8,0))
end Go.Proofs.YtjfnokmpfekniaaGreatDoor
namespace Go.Proofs.YtjfnokmpfekniaaGreatDoor.Q
open Go Go.RowKit
set_option linter.unusedVariables false
set_option linter.unusedSimpArgs false
set_option maxRecDepth 100000
set_option maxHeartbeats 4000000
theorem NW (F:Nat)(ha:Nat)(hk:Value)(l:Af)(s:Af)(r:Af)(h:KS F l s=some r):Fn Tryz.prog GE 121 [rP ha 0,rS s] [.bld 112 5 ha hk l] (λR H=>∃w0b:Value,R=rv (.tuple #[])∧H=[.bld 112 5 ha w0b r]):=by
 refine enter (n:=32) Tryz.func121 rfl Tryz.ntmps121 rfl (λw Z=>?_);unfold KS at h;refine Ag (wm rfl (ck h λg1 h2=>ck h2 λg3 h4=>CH (rs:=[rP ha 0,rI .u8 34]) (Hin:=[.bld 112 5 ha hk l]) (Hr:=[]) Jm rfl (AcI _) (Cz ha hk l 34 g1 g3) rfl ?_));rintro _ _ ⟨v5,rfl,rfl⟩;refine bd h4 λr6 e8 h7=>?_;rw[← e8];refine Am (Ai (Ag (wm rfl (wv (Bj Ce rfl) (wv (r:=Ap 0) (Al rfl) (Am (A9 (ob h7 λhq hr hs=>Bg (S:=Nat×(Int×Af)×(Value)) (V:=(Af)×(Value)) 0 (λσ=>B7 (λσ=>Dz s σ.1 σ.2) σ.1 σ.2.1=some hq) (λσ=>[(0,rP ha 0),(1,rS s),(8,Ap (s.length:Int)),(9,Ap σ.2.1.1)]) (λσ=>[.bld 112 5 ha σ.2.2 σ.2.1.2]) (λσ=>σ.1) (F,(0,r6),v5) hr (A6.c rfl (A6.c rfl (A6.c rfl (A6.c rfl A6.nil)))) (sC sN) (λσ=>EU σ.1=some r) (λσ=>[(0,rP ha 0)]) (λσ=>[.bld 112 5 ha σ.2 σ.1]) ?_ ?_))))))))
 ·rintro⟨gf,⟨hb,he⟩,hf⟩ ht;refine BG (l':=[(0,rP ha 0),(1,rS s),(8,Ap (s.length:Int)),(9,Ap hb)]) (H':=[.bld 112 5 ha hf he]) rfl rfl ?_;obtain⟨hn,rfl,t127,hg,hl⟩:=BZ ht;replace hg:Dz s hb he=some t127:=hg;unfold Dz at hg;refine Ag (wv (Cj rfl rfl) (Am (Ai (cz hg rfl (λhu hw=>?_) (λhu hx=>?_)))))
  ·refine Ar (AJ (Ai (A9 (Ag (wm rfl (wa rfl (Am (Ai (ck hw λhh hy=>AK [(0,rP ha 0),(1,rS s),(4,Ap hb),(8,Ap (s.length:Int)),(9,Ap hb),(21,rB ((decide ((Bm s hb)=34))||(decide ((Bm s hb)=92))))] [.bld 112 5 ha hf he] ?_ ?_)))))))))
   ·refine Ah (wm rfl (wm rfl (wv (Bq Ce rfl rfl hh) (wv (B6 rfl rfl) (wm rfl (AS (decide ((Bm s hb)=34)) (λhd=>?_) (λhd=>?_)))))))
    ·refine wf hd (wf hd (wf hd (wf hd (wv (r:=rB true) (A1 rfl hd rfl) (Ak ?_)))));exact Cm hd
    ·refine wo hd (wm rfl (wo hd (wm rfl (wo hd (wv (Bq Ce rfl rfl hh) (wo hd (wv (B6 rfl rfl) (GK rfl hd rfl (Ak ?_)))))))));exact Cm hd
   refine cz hy rfl (λhz h0=>?_) (λhz h1=>?_)
   ·refine Ah (wm rfl (ck h0 λh3 h5=>ck h5 λh6 h8=>CH (rs:=[rP ha 0,rI .u8 92]) (Hin:=[.bld 112 5 ha hf he]) (Hr:=[]) Jm rfl (AcI _) (Cz ha hf he 92 h3 h6) rfl ?_));rintro _ _ ⟨ho,rfl,rfl⟩;refine bd h8 λhp h9 hA=>?_;rw[← h9];refine Am (Ah (wm rfl (wm rfl (wm rfl (wv (Bq Ce rfl rfl hh) (ck hA λhB hC=>ck hC λhD hE=>CH (rs:=[rP ha 0,rI .u8 (Bm s hb)]) (Hin:=[.bld 112 5 ha ho hp]) (Hr:=[]) Jm rfl (AcI _) (Cz ha ho hp (Bm s hb) hB hD) rfl ?_))))));rintro _ _ ⟨hG,rfl,rfl⟩;refine bd hE λhH hI hJ=>?_;rw[← hI];refine Ak (AA (AJ (Ah (ck hJ λhK hL=>wv (Bk rfl rfl hK) (wm rfl (Ak ?_))))));have hN:=Ba hL hl;exact Az (A3 (hn,(hb+1,hH),hG) ⟨hN,AcM _⟩ (A6.c rfl (A6.c rfl (A6.c rfl (A6.c rfl A6.nil)))) (sC sN))
   ·refine Ar (AJ (Ah (wm rfl (wm rfl (wm rfl (wv (Bq Ce rfl rfl hh) (ck h1 λhO hP=>ck hP λhQ hR=>CH (rs:=[rP ha 0,rI .u8 (Bm s hb)]) (Hin:=[.bld 112 5 ha hf he]) (Hr:=[]) Jm rfl (AcI _) (Cz ha hf he (Bm s hb) hO hQ) rfl ?_)))))));rintro _ _ ⟨hS,rfl,rfl⟩;refine bd hR λhT hU hV=>?_;rw[← hU];refine Ak (AA (AJ (Ah (ck hV λhW hX=>wv (Bk rfl rfl hW) (wm rfl (Ak ?_))))));have hY:=Ba hX hl;exact Az (A3 (hn,(hb+1,hT),hS) ⟨hY,AcM _⟩ (A6.c rfl (A6.c rfl (A6.c rfl (A6.c rfl A6.nil)))) (sC sN))
  ·refine Bl (As ?_);have hZ:=BB hx hl hs;exact As (AV (A3 (he,hf) hZ (A6.c rfl A6.nil) (sC sN)))
 ·rintro⟨hi,hm⟩ hj;refine Cb (l':=[(0,rP ha 0)]) (H':=[.bld 112 5 ha hm hi]) rfl rfl ?_;replace hj:EU hi=some r:=hj;unfold EU at hj;refine AW (AJ (Ah (wm rfl (ck hj λga gb=>CH (rs:=[rP ha 0,rI .u8 34]) (Hin:=[.bld 112 5 ha hm hi]) (Hr:=[]) Jm rfl (AcI _) (Cz ha hm hi 34 ga g3) rfl ?_))));rintro _ _ ⟨gc,rfl,rfl⟩;refine bd gb λgg gd ge=>?_;rw[← gd];refine Ak ?_;obtain rfl:=Aw ge;exact Ht (US Tryz.results121) (sC sN) ⟨gc,rfl,rfl⟩
theorem UB (F:Nat)(hl:Af→(List Aa)→Bool→Af→Aa→Option (Bool×Bool×Af))(hm:(List Aa)→Bool→Af→Aa→Option (Bool×Af))(g5:(∀(hd:Nat) (he:Nat) (ha:Nat) (hb:Value) (hf:Nat) (key:Af) (x:(List Aa)) (first:Bool) (l:Af) (c:Aa) (r:Bool×Bool×Af),hl key x first l c=some r→Fn Tryz.prog GE 124 [rS key,AQ 4 (A8 Ab x),rP hd 0,rP he 0,rP hf 0] [.blk hd [rB first] 4,.blk he [rP ha 0] 110,.bld 112 5 ha hb l,.blk hf (Ab c) 78] (λR H=>∃w3b:Value,R=rB r.1∧H=[.blk hd [rB r.2.1] 4,.blk he [rP ha 0] 110,.bld 112 5 ha w3b r.2.2,.blk hf (Ab c) 78])))(hn:(∀(hd:Nat) (he:Nat) (ha:Nat) (hb:Value) (hf:Nat) (v:(List Aa)) (first:Bool) (l:Af) (c:Aa) (r:Bool×Af),hm v first l c=some r→Fn Tryz.prog GE 123 [AQ 4 (A8 Ab v),rv (.func (.func 124) #[] #[(.pointer (some ⟨hd,0,none⟩)),(.pointer (some ⟨he,0,none⟩)),(.pointer (some ⟨hf,0,none⟩))])] [.blk hd [rB first] 4,.blk he [rP ha 0] 110,.bld 112 5 ha hb l,.blk hf (Ab c) 78] (λR H=>∃w1_1b:Value,R=rv (.tuple #[])∧H=[.blk hd [rB r.1] 4,.blk he [rP ha 0] 110,.bld 112 5 ha w1_1b r.2,.blk hf (Ab c) 78])))(ha:Nat)(hb:Value)(l:Af)(v:(List Aa))(r:Af)(h:JZ F hl hm l v=some r):Fn Tryz.prog GE 87 [rP ha 0,AQ 4 (A8 Ab v)] [.bld 112 5 ha hb l] (λR H=>∃w0b:Value,R=rv (.tuple #[])∧H=[.bld 112 5 ha w0b r]):=by
 refine enter (n:=52) Tryz.func87 rfl Tryz.ntmps87 rfl (λw Z=>?_);unfold JZ at h;refine Ag (Aax rfl (C0 rfl) rfl (λb1=>?_));refine Bv (wm rfl (ck h λg2 h3=>wv (Bb (enc:=Ab) (ys:=v) Cg CK rfl rfl g2) (wv (Dc NN CK rfl rfl rfl) (BM (cs:=[Ap 0,Ap 0,rS ([]:Af),Ap 0]) KO rfl rfl (λb4=>?_)))));refine Bh (i:=0) CK rfl rfl rfl (BJ.c rfl) rfl rfl (cs':=[Ap ((Ao v 0).fKind),Ap ((Ao v 0).fInt),rS ((Ao v 0).fStr),Ap ((Ao v 0).fN)]) rfl (H':=[.blk b4 (Ab (Ao v 0)) 78,.blk b1 [rP ha 0] 110,.bld 112 5 ha hb l]) rfl (Bv (vF B4 rfl E7 (vL 0 E8 rfl (Am (A9 (Ag (wv (B6 rfl rfl) (wa rfl (Am (cz h3 rfl (λc5 h6=>?_) (λc5 hr=>?_)))))))))))
 ·refine Ah (vL 1 ET rfl (ck h6 λg7 h8=>CH (rs:=[rP ha 0,rS ([110,117,108,108]:Af)]) (Hin:=[.bld 112 5 ha hb l]) (Hr:=[.blk b4 (Ab (Ao v 0)) 78,.blk b1 [rP ha 0] 110]) Tryz.call120 rfl ((A4 (i:=2) rfl).trans (AcJ _ (AcI _))) (HZ ha hb l ([110,117,108,108]:Af) g7) rfl ?_));rintro _ _ ⟨v9,rfl,rfl⟩;refine bd h8 λg6 hs ht=>?_;rw[← hs];refine Ak (AA ?_);obtain rfl:=Aw ht;exact Ht (US U3) (sC (sS (sS sN))) ⟨v9,rfl,rfl⟩
 ·refine Ag (wv (B6 rfl rfl) (wa rfl (Am (cz hr rfl (λhu hw=>?_) (λhu hx=>?_)))))
  ·refine ck hw λg16 hy=>JX (H1:=[.blk b4 (Ab (Ao v 0)) 78,.blk b1 [rP ha 0] 110,.bld 112 5 ha hb l]) 6 [2,4] [⟨[],rP ha 0,1⟩,⟨[],AQ 1 (A8 eS ([([102,97,108,115,101]:Af),([116,114,117,101]:Af)]:List Af)),0⟩,⟨[],rP b4 1,0⟩,⟨[2],Ap ((Ao v 0).fInt),1⟩,⟨[1,3],E6 [rS (Ao ([([102,97,108,115,101]:Af),([116,114,117,101]:Af)]:List Af) ((Ao v 0).fInt))],0⟩,⟨[4],rS (Ao ([([102,97,108,115,101]:Af),([116,114,117,101]:Af)]:List Af) ((Ao v 0).fInt)),0⟩] (rle [(7,_)]) [32,33,34,35,36,37,2,4] ?_ ?_
   ·refine of (Bi (i:=1) ET rfl rfl rfl) (DN rfl (λH=>CD (ys:=([([102,97,108,115,101]:Af),([116,114,117,101]:Af)]:List Af)) (enc:=eS) (css:=[[rS ([102,97,108,115,101]:Af)],[rS ([116,114,117,101]:Af)]]) (xs:=[.const (.string ⟨#[102,97,108,115,101]⟩),.const (.string ⟨#[116,114,117,101]⟩)]) Ch Cs Wj rfl rfl rfl ⟨EI.one rfl (Up.refl _),EI.one rfl (Up.refl _),trivial⟩ rfl DY rfl rfl) ?_);refine oq (AH B4 rfl Ct rfl rfl) (of (Bi (i:=0) CX rfl rfl rfl) (oq (Bb (enc:=eS) (ys:=([([102,97,108,115,101]:Af),([116,114,117,101]:Af)]:List Af)) Ch Cs rfl rfl g16) (oq (AU CU rfl rfl) ?_)));exact Cd
   refine ck hy λg18 hz=>CH (rs:=[rP ha 0,rS (Ao ([([102,97,108,115,101]:Af),([116,114,117,101]:Af)]:List Af) ((Ao v 0).fInt))]) (Hin:=[.bld 112 5 ha hb l]) (Hr:=[.blk b4 (Ab (Ao v 0)) 78,.blk b1 [rP ha 0] 110]) Tryz.call120 rfl ((A4 (i:=2) rfl).trans (AcJ _ (AcI _))) (HZ ha hb l (Ao ([([102,97,108,115,101]:Af),([116,114,117,101]:Af)]:List Af) ((Ao v 0).fInt)) g18) rfl ?_;rintro _ _ ⟨v20,rfl,rfl⟩;refine bd hz λg8 h0 h1=>?_;rw[← h0];refine Ak (AA ?_);obtain rfl:=Aw h1;exact Ht (US U3) (sC (sS (sS sN))) ⟨v20,rfl,rfl⟩
  ·refine Ag (wv (B6 rfl rfl) (wa rfl (Am (cz hx rfl (λh2 h4=>?_) (λh2 h5=>?_)))))
   ·refine ck h4 λh7 h9=>JX (H1:=[.blk b4 (Ab (Ao v 0)) 78,.blk b1 [rP ha 0] 110,.bld 112 5 ha hb l]) 4 [2,4] [⟨[],rP ha 0,1⟩,⟨[],rP b4 1,0⟩,⟨[1],Ap ((Ao v 0).fInt),1⟩,⟨[2],rS (Lib.itoa ((Ao v 0).fInt)),0⟩] (rle [(5,_)]) [41,42,43,44,2,4] ?_ ?_
    ·refine of (Bi (i:=1) ET rfl rfl rfl) (oq (AH B4 rfl Ct rfl rfl) (of (Bi (i:=0) CX rfl rfl rfl) (DN rfl (λH=>I8 (rs:=[Ap ((Ao v 0).fInt)]) (r:=rS (Lib.itoa ((Ao v 0).fInt))) Tryz.call67 rfl (LT ((Ao v 0).fInt) h7) rfl) ?_)));exact Cd
    refine ck h9 λhA hB=>CH (rs:=[rP ha 0,rS (Lib.itoa ((Ao v 0).fInt))]) (Hin:=[.bld 112 5 ha hb l]) (Hr:=[.blk b4 (Ab (Ao v 0)) 78,.blk b1 [rP ha 0] 110]) Tryz.call120 rfl ((A4 (i:=2) rfl).trans (AcJ _ (AcI _))) (HZ ha hb l (Lib.itoa ((Ao v 0).fInt)) hA) rfl ?_;rintro _ _ ⟨hC,rfl,rfl⟩;refine bd hB λg9 hD hE=>?_;rw[← hD];refine Ak (AA ?_);obtain rfl:=Aw hE;exact Ht (US U3) (sC (sS (sS sN))) ⟨hC,rfl,rfl⟩
   ·refine Ag (wv (B6 rfl rfl) (wa rfl (Am (cz h5 rfl (λhG hH=>?_) (λhG hI=>?_)))))
    ·refine Ah (vL 1 ET rfl (vF B4 rfl Cs (vL 0 CU rfl (ob hH λhJ hK hL=>Gt (Hr:=[.blk b4 (Ab (Ao v 0)) 78,.blk b1 [rP ha 0] 110]) Tryz.call121 (NW F ha hb l ((Ao v 0).fStr) hJ hK) rfl ((A4 (i:=2) rfl).trans (AcJ _ (AcI _))) rfl ?_))));rintro _ _ ⟨hN,rfl,rfl⟩;refine Ak (AA ?_);obtain rfl:=Aw hL;exact Ht (US U3) (sC (sS (sS sN))) ⟨hN,rfl,rfl⟩
    ·refine Ag (wv (r:=rS ([91,93]:Af)) (Ax rfl) (Am (Ai (Ag (vF B4 rfl E7 (vL 0 E8 rfl (wv (B6 rfl rfl) (Am (cz hI rfl (λhO hP=>?_) (λhO hQ=>?_))))))))))
     ·refine Ah (wv (r:=rS ([123,125]:Af)) (Ax rfl) (Am (Ai (ck hP λhR hS=>JX (H1:=[.blk b4 (Ab (Ao v 0)) 78,.blk b1 [rP ha 0] 110,.bld 112 5 ha hb l]) 3 [1,2,4,5] [⟨[],rP ha 0,1⟩,⟨[],rS ([123,125]:Af),0⟩,⟨[1],rI .u8 (Bm ([123,125]:Af) 0),0⟩] (rle [(4,_)]) [15,16,17,1,2,4,5] ?_ ?_))))
      ·refine of (Bi (i:=1) ET rfl rfl rfl) (oq (Al rfl) (oq (Bq Ce rfl rfl hR) ?_));exact Cd
      refine ck hS λhT hU=>ck hU λhV hW=>CH (rs:=[rP ha 0,rI .u8 (Bm ([123,125]:Af) 0)]) (Hin:=[.bld 112 5 ha hb l]) (Hr:=[.blk b4 (Ab (Ao v 0)) 78,.blk b1 [rP ha 0] 110]) Jm rfl ((A4 (i:=2) rfl).trans (AcJ _ (AcI _))) (Cz ha hb l (Bm ([123,125]:Af) 0) hT hV) rfl ?_;rintro _ _ ⟨v51,rfl,rfl⟩;refine bd hW λho hX hY=>?_;rw[← hX];refine Bv (BM (cs:=[rB false]) yz4 rfl rfl (λhi=>?_));refine BI (i:=0) HJ rfl rfl (C0 rfl) rfl rfl (cs':=[rB true]) rfl (H':=[.blk hi [rB true] 4,.bld 112 5 ha v51 ho,.blk b4 (Ab (Ao v 0)) 78,.blk b1 [rP ha 0] 110]) rfl (Bv (wm rfl (wv (r:=rv (.func (.func 124) #[] #[(.pointer (some ⟨hi,0,none⟩)),(.pointer (some ⟨b1,0,none⟩)),(.pointer (some ⟨b4,0,none⟩))])) (Oz rfl) (ob hY λhg hZ ga=>Gt (Hr:=[]) Tryz.call123 (hn hi b1 ha v51 b4 v true ho (Ao v 0) hg hZ) rfl ((A4 (i:=0) rfl).trans (AcJ _ ((A4 (i:=2) rfl).trans (AcJ _ (AcI _))))) rfl ?_))));rintro _ _ ⟨hk,rfl,rfl⟩;refine Am (ck ga λgb gc=>JX (H1:=[.blk hi [rB hg.1] 4,.blk b1 [rP ha 0] 110,.bld 112 5 ha hk hg.2,.blk b4 (Ab (Ao v 0)) 78]) 3 [2,5] [⟨[],rP ha 0,1⟩,⟨[],rS ([123,125]:Af),0⟩,⟨[1],rI .u8 (Bm ([123,125]:Af) 1),0⟩] (rle [(4,_)]) [22,23,24,2,5] ?_ ?_)
      ·refine of (Bi (i:=1) ET rfl rfl rfl) (oq (Al rfl) (oq (Bq Ce rfl rfl gb) ?_));exact Cd
      refine ck gc λgd ge=>ck ge λgf gg=>CH (rs:=[rP ha 0,rI .u8 (Bm ([123,125]:Af) 1)]) (Hin:=[.bld 112 5 ha hk hg.2]) (Hr:=[.blk hi [rB hg.1] 4,.blk b1 [rP ha 0] 110,.blk b4 (Ab (Ao v 0)) 78]) Jm rfl ((A4 (i:=2) rfl).trans (AcJ _ (AcI _))) (Cz ha hk hg.2 (Bm ([123,125]:Af) 1) gd gf) rfl ?_;rintro _ _ ⟨gh,rfl,rfl⟩;refine bd gg λgA gi gj=>?_;rw[← gi];refine Ak (AA ?_);obtain rfl:=Aw gj;exact Ht (US U3) (sC (sS (sS (sS sN)))) ⟨gh,rfl,rfl⟩
     ·refine Ar (AJ (Ai (ck hQ λgk gl=>JX (H1:=[.blk b4 (Ab (Ao v 0)) 78,.blk b1 [rP ha 0] 110,.bld 112 5 ha hb l]) 3 [1,2,4,5] [⟨[],rP ha 0,1⟩,⟨[],rS ([91,93]:Af),0⟩,⟨[1],rI .u8 (Bm ([91,93]:Af) 0),0⟩] (rle [(4,_)]) [15,16,17,1,2,4,5] ?_ ?_)))
      ·refine of (Bi (i:=1) ET rfl rfl rfl) (oq (Al rfl) (oq (Bq Ce rfl rfl gk) ?_));exact Cd
      refine ck gl λgm gn=>ck gn λgp gq=>CH (rs:=[rP ha 0,rI .u8 (Bm ([91,93]:Af) 0)]) (Hin:=[.bld 112 5 ha hb l]) (Hr:=[.blk b4 (Ab (Ao v 0)) 78,.blk b1 [rP ha 0] 110]) Jm rfl ((A4 (i:=2) rfl).trans (AcJ _ (AcI _))) (Cz ha hb l (Bm ([91,93]:Af) 0) gm gp) rfl ?_;rintro _ _ ⟨hp,rfl,rfl⟩;refine bd gq λhq gr gs=>?_;rw[← gr];refine Bv (BM (cs:=[rB false]) yz4 rfl rfl (λhj=>?_));refine BI (i:=0) HJ rfl rfl (C0 rfl) rfl rfl (cs':=[rB true]) rfl (H':=[.blk hj [rB true] 4,.bld 112 5 ha hp hq,.blk b4 (Ab (Ao v 0)) 78,.blk b1 [rP ha 0] 110]) rfl (Bv (wm rfl (wv (r:=rv (.func (.func 124) #[] #[(.pointer (some ⟨hj,0,none⟩)),(.pointer (some ⟨b1,0,none⟩)),(.pointer (some ⟨b4,0,none⟩))])) (Oz rfl) (ob gs λhh gt gu=>Gt (Hr:=[]) Tryz.call123 (hn hj b1 ha hp b4 v true hq (Ao v 0) hh gt) rfl ((A4 (i:=0) rfl).trans (AcJ _ ((A4 (i:=2) rfl).trans (AcJ _ (AcI _))))) rfl ?_))));rintro _ _ ⟨v85,rfl,rfl⟩;refine Am (ck gu λgv gw=>JX (H1:=[.blk hj [rB hh.1] 4,.blk b1 [rP ha 0] 110,.bld 112 5 ha v85 hh.2,.blk b4 (Ab (Ao v 0)) 78]) 3 [2,5] [⟨[],rP ha 0,1⟩,⟨[],rS ([91,93]:Af),0⟩,⟨[1],rI .u8 (Bm ([91,93]:Af) 1),0⟩] (rle [(4,_)]) [22,23,24,2,5] ?_ ?_)
      ·refine of (Bi (i:=1) ET rfl rfl rfl) (oq (Al rfl) (oq (Bq Ce rfl rfl gv) ?_));exact Cd
      refine ck gw λgx gy=>ck gy λgz g0=>CH (rs:=[rP ha 0,rI .u8 (Bm ([91,93]:Af) 1)]) (Hin:=[.bld 112 5 ha v85 hh.2]) (Hr:=[.blk hj [rB hh.1] 4,.blk b1 [rP ha 0] 110,.blk b4 (Ab (Ao v 0)) 78]) Jm rfl ((A4 (i:=2) rfl).trans (AcJ _ (AcI _))) (Cz ha v85 hh.2 (Bm ([91,93]:Af) 1) gx gz) rfl ?_;rintro _ _ ⟨g1,rfl,rfl⟩;refine bd g0 λgB g3 g4=>?_;rw[← g3];refine Ak (AA ?_);obtain rfl:=Aw g4;exact Ht (US U3) (sC (sS (sS (sS sN)))) ⟨g1,rfl,rfl⟩
theorem SI (F:Nat)(hj:Af→(List Aa)→Option (Af))(hg:(∀(ha:Nat) (hf:Value) (l:Af) (v:(List Aa)) (r:Af),hj l v=some r→Fn Tryz.prog GE 87 [rP ha 0,AQ 4 (A8 Ab v)] [.bld 112 5 ha hf l] (λR H=>∃w0b:Value,R=rv (.tuple #[])∧H=[.bld 112 5 ha w0b r])))(hb:Nat)(hd:Nat)(ha:Nat)(hf:Value)(he:Nat)(key:Af)(x:(List Aa))(first:Bool)(l:Af)(c:Aa)(r:Bool×Bool×Af)(h:Lq F hj key x first l c=some r):Fn Tryz.prog GE 124 [rS key,AQ 4 (A8 Ab x),rP hb 0,rP hd 0,rP he 0] [.blk hb [rB first] 4,.blk hd [rP ha 0] 110,.bld 112 5 ha hf l,.blk he (Ab c) 78] (λR H=>∃w3b:Value,R=rB r.1∧H=[.blk hb [rB r.2.1] 4,.blk hd [rP ha 0] 110,.bld 112 5 ha w3b r.2.2,.blk he (Ab c) 78]):=by
 refine enter (n:=23) Tryz.func124 rfl Tryz.ntmps124 rfl (λw Z=>?_);unfold Lq at h;refine Ag (wa rfl (Am (Ai (Ag (vL 0 Qg rfl (wv (Ci rfl) (Am (cz h rfl (λc1 h2=>?_) (λc1 hu=>?_)))))))))
 ·refine Ah (vL 1 ET rfl (ck h2 λg3 h4=>ck h4 λg5 h6=>CH (rs:=[rP ha 0,rI .u8 44]) (Hin:=[.bld 112 5 ha hf l]) (Hr:=[.blk hb [rB first] 4,.blk hd [rP ha 0] 110,.blk he (Ab c) 78]) Jm rfl ((A4 (i:=2) rfl).trans (AcJ _ (AcI _))) (Cz ha hf l 44 g3 g5) rfl ?_));rintro _ _ ⟨v7,rfl,rfl⟩;refine bd h6 λr8 hw h9=>?_;rw[← hw];refine Bv (BI (i:=1) HJ rfl rfl (C0 rfl) rfl rfl (cs':=[rB false]) rfl (H':=[.bld 112 5 ha v7 r8,.blk hb [rB false] 4,.blk hd [rP ha 0] 110,.blk he (Ab c) 78]) rfl (Am (Ai (Ag (vF B4 rfl E7 (vL 3 E8 rfl (wv (B6 rfl rfl) (Am (cz h9 rfl (λhx hy=>?_) (λhx hz=>?_))))))))))
  ·refine Ag (vL 2 ET rfl (wm rfl (ob hy λhh h0 h1=>Gt (Hr:=[.blk hb [rB false] 4,.blk hd [rP ha 0] 110,.blk he (Ab c) 78]) Tryz.call121 (NW F ha v7 r8 key hh h0) rfl (AcI _) rfl ?_)));rintro _ _ ⟨hk,rfl,rfl⟩;refine Am (Ah (vL 2 ET rfl (ck h1 λg17 h3=>ck h3 λg19 h5=>CH (rs:=[rP ha 0,rI .u8 58]) (Hin:=[.bld 112 5 ha hk hh]) (Hr:=[.blk hb [rB false] 4,.blk hd [rP ha 0] 110,.blk he (Ab c) 78]) Jm rfl (AcI _) (Cz ha hk hh 58 g17 g19) rfl ?_)));rintro _ _ ⟨v21,rfl,rfl⟩;refine bd h5 λh7 h8 hA=>?_;rw[← h8];refine Bv (vL 2 ET rfl (wm rfl (ob hA λhl hB hC=>Gt (Hr:=[.blk hb [rB false] 4,.blk hd [rP ha 0] 110,.blk he (Ab c) 78]) Wp (hg ha v21 h7 x hl hB) rfl (AcI _) rfl ?_)));rintro _ _ ⟨hm,rfl,rfl⟩;refine Bv (wa rfl (Am (Av (Dh (H2:=[.blk hb [rB false] 4,.blk hd [rP ha 0] 110,.bld 112 5 ha hm hl,.blk he (Ab c) 78]) ((A4 (i:=1) rfl).trans (AcJ _ ((A4 (i:=1) rfl).trans (AcJ _ (AcI _))))) ?_))));obtain rfl:=Aw hC;exact Au (BQ T5 (AG rfl)) (sC (sC (sC (sC sN)))) ⟨hm,rfl,rfl⟩
  ·refine Ar (AJ (Ag (vL 2 ET rfl (wm rfl (ob hz λhn hD hE=>Gt (Hr:=[.blk hb [rB false] 4,.blk hd [rP ha 0] 110,.blk he (Ab c) 78]) Wp (hg ha v7 r8 x hn hD) rfl (AcI _) rfl ?_)))));rintro _ _ ⟨ho,rfl,rfl⟩;refine Bv (wa rfl (Am (Av (Dh (H2:=[.blk hb [rB false] 4,.blk hd [rP ha 0] 110,.bld 112 5 ha ho hn,.blk he (Ab c) 78]) ((A4 (i:=1) rfl).trans (AcJ _ ((A4 (i:=1) rfl).trans (AcJ _ (AcI _))))) ?_))));obtain rfl:=Aw hE;exact Au (BQ T5 (AG rfl)) (sC (sC (sC (sC sN)))) ⟨ho,rfl,rfl⟩
 ·refine Ar (AJ (Ag (BI (i:=0) HJ rfl rfl (C0 rfl) rfl rfl (cs':=[rB false]) rfl (H':=[.blk hb [rB false] 4,.blk hd [rP ha 0] 110,.bld 112 5 ha hf l,.blk he (Ab c) 78]) rfl (Am (Ai (Ag (vF B4 rfl E7 (vL 3 E8 rfl (wv (B6 rfl rfl) (Am (cz hu rfl (λhG hH=>?_) (λhG hI=>?_))))))))))))
  ·refine Ag (vL 1 ET rfl (wm rfl (ob hH λhi hJ hK=>Gt (Hr:=[.blk hb [rB false] 4,.blk hd [rP ha 0] 110,.blk he (Ab c) 78]) Tryz.call121 (NW F ha hf l key hi hJ) rfl ((A4 (i:=2) rfl).trans (AcJ _ (AcI _))) rfl ?_)));rintro _ _ ⟨hp,rfl,rfl⟩;refine Am (Ah (vL 2 ET rfl (ck hK λhL hN=>ck hN λhO hP=>CH (rs:=[rP ha 0,rI .u8 58]) (Hin:=[.bld 112 5 ha hp hi]) (Hr:=[.blk hb [rB false] 4,.blk hd [rP ha 0] 110,.blk he (Ab c) 78]) Jm rfl (AcI _) (Cz ha hp hi 58 hL hO) rfl ?_)));rintro _ _ ⟨hQ,rfl,rfl⟩;refine bd hP λhR hS hT=>?_;rw[← hS];refine Bv (vL 2 ET rfl (wm rfl (ob hT λhq hU hV=>Gt (Hr:=[.blk hb [rB false] 4,.blk hd [rP ha 0] 110,.blk he (Ab c) 78]) Wp (hg ha hQ hR x hq hU) rfl (AcI _) rfl ?_)));rintro _ _ ⟨hr,rfl,rfl⟩;refine Bv (wa rfl (Am (Av (Dh (H2:=[.blk hb [rB false] 4,.blk hd [rP ha 0] 110,.bld 112 5 ha hr hq,.blk he (Ab c) 78]) ((A4 (i:=1) rfl).trans (AcJ _ ((A4 (i:=1) rfl).trans (AcJ _ (AcI _))))) ?_))));obtain rfl:=Aw hV;exact Au (BQ T5 (AG rfl)) (sC (sC (sC (sC sN)))) ⟨hr,rfl,rfl⟩
  ·refine Ar (AJ (Ag (vL 1 ET rfl (wm rfl (ob hI λhs hW hX=>Gt (Hr:=[.blk hb [rB false] 4,.blk hd [rP ha 0] 110,.blk he (Ab c) 78]) Wp (hg ha hf l x hs hW) rfl ((A4 (i:=2) rfl).trans (AcJ _ (AcI _))) rfl ?_)))));rintro _ _ ⟨ht,rfl,rfl⟩;refine Bv (wa rfl (Am (Av (Dh (H2:=[.blk hb [rB false] 4,.blk hd [rP ha 0] 110,.bld 112 5 ha ht hs,.blk he (Ab c) 78]) ((A4 (i:=1) rfl).trans (AcJ _ ((A4 (i:=1) rfl).trans (AcJ _ (AcI _))))) ?_))));obtain rfl:=Aw hX;exact Au (BQ T5 (AG rfl)) (sC (sC (sC (sC sN)))) ⟨ht,rfl,rfl⟩
theorem SH (F:Nat)(hm:Af→(List Aa)→Bool→Af→Aa→Option (Bool×Bool×Af))(hx:(∀(hd:Nat) (he:Nat) (hb:Nat) (hn:Value) (hf:Nat) (key:Af) (x:(List Aa)) (first:Bool) (l:Af) (c:Aa) (r:Bool×Bool×Af),hm key x first l c=some r→Fn Tryz.prog GE 124 [rS key,AQ 4 (A8 Ab x),rP hd 0,rP he 0,rP hf 0] [.blk hd [rB first] 4,.blk he [rP hb 0] 110,.bld 112 5 hb hn l,.blk hf (Ab c) 78] (λR H=>∃w3b:Value,R=rB r.1∧H=[.blk hd [rB r.2.1] 4,.blk he [rP hb 0] 110,.bld 112 5 hb w3b r.2.2,.blk hf (Ab c) 78])))(hd:Nat)(he:Nat)(hb:Nat)(hn:Value)(hf:Nat)(v:(List Aa))(first:Bool)(l:Af)(c:Aa)(r:Bool×Af)(h:Ip F hm v first l c=some r):Fn Tryz.prog GE 123 [AQ 4 (A8 Ab v),rv (.func (.func 124) #[] #[(.pointer (some ⟨hd,0,none⟩)),(.pointer (some ⟨he,0,none⟩)),(.pointer (some ⟨hf,0,none⟩))])] [.blk hd [rB first] 4,.blk he [rP hb 0] 110,.bld 112 5 hb hn l,.blk hf (Ab c) 78] (λR H=>∃w1_1b:Value,R=rv (.tuple #[])∧H=[.blk hd [rB r.1] 4,.blk he [rP hb 0] 110,.bld 112 5 hb w1_1b r.2,.blk hf (Ab c) 78]):=by
 refine enter (n:=52) Tryz.func123 rfl Tryz.ntmps123 rfl (λw Z=>?_);unfold Ip at h;refine Ag (wa rfl (Bv (wm rfl (ck h λg1 h2=>wv (Bb (enc:=Ab) (ys:=v) Cg CK rfl rfl g1) (wv (AN B4 rfl Ct rfl rfl) (wv (AU CX rfl rfl) (wv (r:=Ap 0) (Al rfl) (Am (A9 (ob h2 λh7 h8 hr=>Bg (S:=Nat×(Int×Int×Bool×Af)×(Value)) (V:=(Bool×Af)×(Value)) 0 (λσ=>B7 (λσ=>DA F v c hm σ.1 σ.2.1 σ.2.2.1 σ.2.2.2) σ.1 σ.2.1=some h7) (λσ=>[(0,AQ 4 (A8 Ab v)),(1,rv (.func (.func 124) #[] #[(.pointer (some ⟨hd,0,none⟩)),(.pointer (some ⟨he,0,none⟩)),(.pointer (some ⟨hf,0,none⟩))])),(4,Ap σ.2.1.1),(12,Ap ((Ao v 0).fN)),(13,Ap σ.2.1.2.1)]) (λσ=>[.blk hd [rB σ.2.1.2.2.1] 4,.blk he [rP hb 0] 110,.bld 112 5 hb σ.2.2 σ.2.1.2.2.2,.blk hf (Ab c) 78]) (λσ=>σ.1) (F,(1,0,first,l),hn) h8 (A6.c5 rfl rfl rfl rfl rfl A6.nil) (sC (sC (sC (sC sN)))) (λσ=>Hw σ.1.1 σ.1.2=some r) (λσ=>[]) (λσ=>[.blk hd [rB σ.1.1] 4,.blk he [rP hb 0] 110,.bld 112 5 hb σ.2 σ.1.2,.blk hf (Ab c) 78]) ?_ ?_))))))))))
 ·rintro⟨gy,⟨ha,ho,hi,hj⟩,hk⟩ h9;refine BG (l':=[(0,AQ 4 (A8 Ab v)),(1,rv (.func (.func 124) #[] #[(.pointer (some ⟨hd,0,none⟩)),(.pointer (some ⟨he,0,none⟩)),(.pointer (some ⟨hf,0,none⟩))])),(4,Ap ha),(12,Ap ((Ao v 0).fN)),(13,Ap ho)]) (H':=[.blk hd [rB hi] 4,.blk he [rP hb 0] 110,.bld 112 5 hb hk hj,.blk hf (Ab c) 78]) rfl rfl ?_;obtain⟨hy,rfl,hA,hp,hl⟩:=BZ h9;replace hp:DA F v c hm ha ho hi hj=some hA:=hp;unfold DA at hp;refine Ag (wv (Cj rfl rfl) (Am (Ai (cz hp rfl (λc175 hB=>?_) (λc175 hC=>?_)))))
  ·refine Ar (AJ (Ai (A9 (Ag (wv (r:=rS ([]:Af)) (Ax rfl) (Am (Ai (Ag (wm rfl (wv (Bb (enc:=Ab) (ys:=v) Cg CK rfl rfl g1) (wv (AN B4 rfl E7 rfl rfl) (wv (AU E8 rfl rfl) (wv (B6 rfl rfl) (Am (cz hB rfl (λhD hE=>?_) (λhD hG=>?_))))))))))))))))
   ·refine Ag (wm rfl (wm rfl (ck hE λhH hI=>wv (Bb (enc:=Ab) (ys:=v) Cg CK rfl rfl hH) (wv (AN B4 rfl Cs rfl rfl) (wv (AU CU rfl rfl) (wa rfl (Am (Ah (wm rfl (ck hI λhJ hK=>wv (Bk rfl rfl hJ) (wa rfl (Bv (wm rfl (wm rfl (ck hK λhL hN=>wv (r:=AQ 4 (A8 Ab (List.drop (B3 (ha+1)) v))) (Oy Cg CK rfl rfl hL) (ob hN λhg hO hP=>CG Tryz.call106 (Qj F (List.drop (B3 (ha+1)) v) hg hO) rfl (wm rfl (wv (AE rfl rfl) (wv (AE rfl rfl) ?_)))))))))))))))))));refine wv (AE rfl rfl) (BM (cs:=[Ap 0,Ap 0,rB false,rB false]) QR rfl rfl (λhz=>?_));refine wa rfl (Bh (i:=0) Gs rfl rfl rfl (BJ.c rfl) rfl rfl (cs':=[Ap hg.2.1.fDepth,Ap hg.2.1.fBytes,rB hg.2.1.fOutside,rB hg.2.1.fLong]) rfl (H':=[.blk hz (AT hg.2.1) 133,.blk hd [rB hi] 4,.blk he [rP hb 0] 110,.bld 112 5 hb hk hj,.blk hf (Ab c) 78]) rfl (wa rfl (Am (Ai (Ag (wm rfl (wm rfl (wm rfl (wm rfl (wm rfl (wm rfl (ck hP λhs hQ=>wv (Bk rfl rfl hs) (wm rfl (wm rfl (wv (Bk rfl rfl hs) (ck hQ λhR hS=>ck hS λhT hU=>wv (r:=AQ 4 (A8 Ab (List.take (B3 ((ha+1)+hg.1)-B3 (ha+1)) (List.drop (B3 (ha+1)) v)))) (Ox Cg CK rfl rfl rfl rfl hR hT) (ob hU λht hV hW=>T6 (rs:=[rS ((Ao v ha).fStr),AQ 4 (A8 Ab (List.take (B3 ((ha+1)+hg.1)-B3 (ha+1)) (List.drop (B3 (ha+1)) v)))]) (Hin:=[.blk hd [rB hi] 4,.blk he [rP hb 0] 110,.bld 112 5 hb hk hj,.blk hf (Ab c) 78]) (Hr:=[.blk hz (AT hg.2.1) 133]) Tryz.call124 rfl rfl ((A4 (i:=1) rfl).trans (AcJ _ ((A4 (i:=1) rfl).trans (AcJ _ ((A4 (i:=1) rfl).trans (AcJ _ ((A4 (i:=1) rfl).trans (AcJ _ (AcI _))))))))) (hx hd he hb hk hf ((Ao v ha).fStr) (List.take (B3 ((ha+1)+hg.1)-B3 (ha+1)) (List.drop (B3 (ha+1)) v)) hi hj c ht hV) rfl ?_)))))))))))))))));rintro _ _ ⟨h0,rfl,rfl⟩;refine wv (Ci rfl) (Am (cz hW rfl (λhX hY=>?_) (λhX hZ=>?_)))
    ·refine Av (Ac (Ay (Ac (Ac (AR ?_)))));have ga:=Bo hY hl hr;refine Ay ?_;obtain rfl:=Aw ga;exact Au (US Tryz.results123) (sC (sC (sC (sC (sS sN))))) ⟨h0,rfl,rfl⟩
    ·refine Ar (AJ (Ah (wm rfl (wm rfl (wv (Bk rfl rfl hs) (wa rfl (Ak (AA (AJ (Ah (ck hZ λgb gc=>wv (Bk rfl rfl gb) (wm rfl (Ak ?_)))))))))))));have gd:=Ba gc hl;exact Az (A3 (hy,((ha+1)+hg.1,ho+1,ht.2.1,ht.2.2),h0) ⟨gd,AcM _⟩ (A6.c5 rfl rfl rfl rfl rfl A6.nil) (sC (sC (sC (sC (sS sN))))))
   ·refine Ar (AJ (Ag (wm rfl (wm rfl (ck hG λge gf=>wv (r:=AQ 4 (A8 Ab (List.drop (B3 ha) v))) (Oy Cg CK rfl rfl ge) (ob gf λhh gg gh=>CG Tryz.call106 (Qj F (List.drop (B3 ha) v) hh gg) rfl (wm rfl (wv (AE rfl rfl) (wv (AE rfl rfl) (wv (AE rfl rfl) (BM (cs:=[Ap 0,Ap 0,rB false,rB false]) QR rfl rfl (λh1=>?_))))))))))));refine wa rfl (Bh (i:=0) Gs rfl rfl rfl (BJ.c rfl) rfl rfl (cs':=[Ap hh.2.1.fDepth,Ap hh.2.1.fBytes,rB hh.2.1.fOutside,rB hh.2.1.fLong]) rfl (H':=[.blk h1 (AT hh.2.1) 133,.blk hd [rB hi] 4,.blk he [rP hb 0] 110,.bld 112 5 hb hk hj,.blk hf (Ab c) 78]) rfl (wa rfl (Am (Ai (Ag (wm rfl (wm rfl (wm rfl (wm rfl (wm rfl (wm rfl (ck gh λhu gi=>wv (Bk rfl rfl hu) (wm rfl (wm rfl (wv (Bk rfl rfl hu) (ck gi λgj gk=>ck gk λgl gm=>wv (r:=AQ 4 (A8 Ab (List.take (B3 (ha+hh.1)-B3 ha) (List.drop (B3 ha) v)))) (Ox Cg CK rfl rfl rfl rfl gj gl) (ob gm λhw gn gp=>T6 (rs:=[rS ([]:Af),AQ 4 (A8 Ab (List.take (B3 (ha+hh.1)-B3 ha) (List.drop (B3 ha) v)))]) (Hin:=[.blk hd [rB hi] 4,.blk he [rP hb 0] 110,.bld 112 5 hb hk hj,.blk hf (Ab c) 78]) (Hr:=[.blk h1 (AT hh.2.1) 133]) Tryz.call124 rfl rfl ((A4 (i:=1) rfl).trans (AcJ _ ((A4 (i:=1) rfl).trans (AcJ _ ((A4 (i:=1) rfl).trans (AcJ _ ((A4 (i:=1) rfl).trans (AcJ _ (AcI _))))))))) (hx hd he hb hk hf ([]:Af) (List.take (B3 (ha+hh.1)-B3 ha) (List.drop (B3 ha) v)) hi hj c hw gn) rfl ?_)))))))))))))))));rintro _ _ ⟨h3,rfl,rfl⟩;refine wv (Ci rfl) (Am (cz gp rfl (λgq gr=>?_) (λgq gs=>?_)))
    ·refine Av (Ac (Ay (Ac (Ac (AR ?_)))));have gt:=Bo gr hl hr;refine Ay ?_;obtain rfl:=Aw gt;exact Au (US Tryz.results123) (sC (sC (sC (sC (sS sN))))) ⟨h3,rfl,rfl⟩
    ·refine Ar (AJ (Ah (wm rfl (wm rfl (wv (Bk rfl rfl hu) (wa rfl (Ak (AA (AJ (Ah (ck gs λgu gv=>wv (Bk rfl rfl gu) (wm rfl (Ak ?_)))))))))))));have gw:=Ba gv hl;exact Az (A3 (hy,(ha+hh.1,ho+1,hw.2.1,hw.2.2),h3) ⟨gw,AcM _⟩ (A6.c5 rfl rfl rfl rfl rfl A6.nil) (sC (sC (sC (sC (sS sN))))))
  ·refine Bl (As ?_);have gx:=BB hC hl hr;exact As (AV (A3 ((hi,hj),hk) gx A6.nil (sC (sC (sC (sC sN))))))
 ·rintro⟨⟨h4,h5⟩,h6⟩ hq;refine Cb (l':=[]) (H':=[.blk hd [rB h4] 4,.blk he [rP hb 0] 110,.bld 112 5 hb h6 h5,.blk hf (Ab c) 78]) rfl rfl ?_;replace hq:Hw h4 h5=some r:=hq;unfold Hw at hq;refine AW ?_;obtain rfl:=Aw hq;exact Ht (US Tryz.results123) (sC (sC (sC (sC sN)))) ⟨h6,rfl,rfl⟩
theorem Hv:∀F:Nat,(∀(ha:Nat) (hb:Value) (l:Af) (v:(List Aa)) (r:Af),Gy F l v=some r→Fn Tryz.prog GE 87 [rP ha 0,AQ 4 (A8 Ab v)] [.bld 112 5 ha hb l] (λR H=>∃w0b:Value,R=rv (.tuple #[])∧H=[.bld 112 5 ha w0b r]))∧(∀(hd:Nat) (he:Nat) (ha:Nat) (hb:Value) (hf:Nat) (key:Af) (x:(List Aa)) (first:Bool) (l:Af) (c:Aa) (r:Bool×Bool×Af),EJ F key x first l c=some r→Fn Tryz.prog GE 124 [rS key,AQ 4 (A8 Ab x),rP hd 0,rP he 0,rP hf 0] [.blk hd [rB first] 4,.blk he [rP ha 0] 110,.bld 112 5 ha hb l,.blk hf (Ab c) 78] (λR H=>∃w3b:Value,R=rB r.1∧H=[.blk hd [rB r.2.1] 4,.blk he [rP ha 0] 110,.bld 112 5 ha w3b r.2.2,.blk hf (Ab c) 78]))∧(∀(hd:Nat) (he:Nat) (ha:Nat) (hb:Value) (hf:Nat) (v:(List Aa)) (first:Bool) (l:Af) (c:Aa) (r:Bool×Af),GT F v first l c=some r→Fn Tryz.prog GE 123 [AQ 4 (A8 Ab v),rv (.func (.func 124) #[] #[(.pointer (some ⟨hd,0,none⟩)),(.pointer (some ⟨he,0,none⟩)),(.pointer (some ⟨hf,0,none⟩))])] [.blk hd [rB first] 4,.blk he [rP ha 0] 110,.bld 112 5 ha hb l,.blk hf (Ab c) 78] (λR H=>∃w1_1b:Value,R=rv (.tuple #[])∧H=[.blk hd [rB r.1] 4,.blk he [rP ha 0] 110,.bld 112 5 ha w1_1b r.2,.blk hf (Ab c) 78]))
  | 0=>⟨(λ_ _ _ _ _ h=>by simp[Gy] at h),(λ_ _ _ _ _ _ _ _ _ _ _ h=>by simp[EJ] at h),(λ_ _ _ _ _ _ _ _ _ _ h=>by simp[GT] at h)⟩
  | nn+1=>⟨(λha hb l v r h=>UB nn (EJ nn) (GT nn) (Hv nn).2.1 (Hv nn).2.2 ha hb l v r (by rw[Gy] at h;exact h)),(λhd he ha hb hf key x first l c r h=>SI nn (Gy nn) (Hv nn).1 hd he ha hb hf key x first l c r (by rw[EJ] at h;exact h)),(λhd he ha hb hf v first l c r h=>SH nn (EJ nn) (Hv nn).2.1 hd he ha hb hf v first l c r (by rw[GT] at h;exact h))⟩
theorem Wx (F:Nat)(ha:Nat)(hb:Value)(l:Af)(v:(List Aa))(r:Af)(h:Gy F l v=some r):Fn Tryz.prog GE 87 [rP ha 0,AQ 4 (A8 Ab v)] [.bld 112 5 ha hb l] (λR H=>∃w0b:Value,R=rv (.tuple #[])∧H=[.bld 112 5 ha w0b r]):=(Hv F).1 ha hb l v r h
theorem UG (F:Nat)(v:(List Aa))(r:Af×Int)(h:Lu F v=some r):Fn Tryz.prog GE 65 [AQ 4 (A8 Ab v)] [] (λR H=>R=C2 [rS r.1,Ap r.2]∧H=[]):=by
 refine enter (n:=14) Tryz.func65 rfl Tryz.ntmps65 rfl (λw Z=>?_);unfold Lu at h;refine Ag (wv (r:=rS ([]:Af)) (Ax rfl) (wa rfl (Am (Ai (Ag (wm rfl (ob h λr1 e3 h2=>CG Tryz.call80 (Oa F v r1 e3) rfl (wa rfl (Bv (wm rfl (wv (CQ rfl rfl) (Am (cz h2 rfl (λc4 h5=>?_) (λc4 h6=>?_))))))))))))))
 ·refine Ag (wm rfl (wv (r:=rS ([]:Af)) (Ax rfl) (wa rfl (Am (Av (Ac ?_))))));obtain rfl:=Aw h5;exact Au (DC Tryz.results65 (AG rfl) (AG rfl)) sN ⟨rfl,rfl⟩
 ·refine Ar (AJ (Ag (BM (cs:=[rv (.pointer none),rv (.slice none 0 0)]) Tryz.zeroValue112 rfl rfl (λb7=>?_))));refine Bv (wm rfl (WL.tobld (te:=5) (i:=0) rfl (ob h6 λr8 hb h9=>Gt (Hr:=[]) Wp (Wx F b7 (.slice none 0 0) ([]:Af) v r8 hb) rfl (AcI _) rfl ?_)));rintro _ _ ⟨ha,rfl,rfl⟩;refine Bv (ck h9 λhd he=>CH (rs:=[rP b7 0]) (Hin:=[.bld 112 5 b7 ha r8]) (Hr:=[]) Tryz.call88 rfl (AcI _) (Wa b7 ha r8  hd) rfl ?_);rintro _ _ ⟨rfl,rfl⟩;refine wa rfl (wa rfl (Am (Av ?_)));obtain rfl:=Aw he;exact Au (DC Tryz.results65 (AG rfl) (AG rfl)) sN ⟨rfl,rfl⟩
end Go.Proofs.YtjfnokmpfekniaaGreatDoor.Q
namespace Go.Proofs.YtjfnokmpfekniaaGreatDoor
open Go
set_option linter.unusedVariables false
structure At where
 fS:Af
 fAt:Int
 fCells:(List Aa)
 fGreat:Bool
 deriving DecidableEq,Inhabited
def HN (s:Af)(p:Af):Option (Bool):=
 AX (imp (decide ((p.length:Int)≤(s.length:Int))) (HU (p.length:Int) (s.length:Int)))<|some ((decide ((p.length:Int)≤(s.length:Int)))&&(decide ((List.take (Int.toNat (p.length:Int)) s)=p)))
def Hm (s:Af)(p:Af):Option (Bool):=
 Br (HN s p) λr1=>some r1
def Ec (q:At)(s:Af):Option (Bool×At):=
 AX (HU q.fAt (q.fS.length:Int))<|Br (Hm (List.drop (Int.toNat q.fAt) q.fS) s) λr3=>Bf (!r3) (some (false,q)) (AX (B9 .i64 (q.fAt+(s.length:Int)))<|some (true,(At.mk q.fS (q.fAt+(s.length:Int)) q.fCells q.fGreat)))
def Gd (ha:(List Int))(hb:Int)(hd:Int):Option (Stp ((List Int)×Int) (Out (Af×Bool×At) (Int))):=
 AX (Dw 1 (ha.length+([hb]:List Int).length))<|some (.next (ha++([hb]:List Int),hd))
def E9 (r1:Bool×At)(hb:(List Int))(ha:Int):Option (Stp ((List Int)×Int) (Out (Af×Bool×At) (Int))):=
 Bf (decide (ha<(r1.2.fS.length:Int))) (AX (CJ ha (r1.2.fS.length:Int))<|AX (B9 .i64 (ha+1))<|Bf (decide ((Bm r1.2.fS ha)=34)) (some (.out (.ret (Id hb,true,(At.mk r1.2.fS (ha+1) r1.2.fCells r1.2.fGreat))))) (Bf (((decide ((Bm r1.2.fS ha)<32))||(decide (126<(Bm r1.2.fS ha))))) (some (.out (.ret (([]:Af),false,(At.mk r1.2.fS (ha+1) r1.2.fCells r1.2.fGreat))))) (Bf (decide ((Bm r1.2.fS ha)=92)) (AX (imp (!(decide ((r1.2.fS.length:Int)≤(ha+1)))) (CJ (ha+1) (r1.2.fS.length:Int)))<|Bf (((decide ((r1.2.fS.length:Int)≤(ha+1)))||((!decide ((Bm r1.2.fS (ha+1))=34))&&(!decide ((Bm r1.2.fS (ha+1))=92))))) (some (.out (.ret (([]:Af),false,(At.mk r1.2.fS (ha+1) r1.2.fCells r1.2.fGreat))))) (AX (CJ (ha+1) (r1.2.fS.length:Int))<|AX (B9 .i64 ((ha+1)+1))<|Gd hb (Bm r1.2.fS (ha+1)) ((ha+1)+1))) (Gd hb (Bm r1.2.fS ha) (ha+1))))) (some (.out (.go ha)))
def Is (r1:Bool×At)(ha:Int):Option (Af×Bool×At):=
 some (([]:Af),false,(At.mk r1.2.fS ha r1.2.fCells r1.2.fGreat))
def NT (F:Nat)(q:At):Option (Af×Bool×At):=
 Br (Ec q ([34]:Af)) λr1=>Bf (!r1.1) (some (([]:Af),false,r1.2)) (Br (B7 (λσ=>E9 r1 σ.1 σ.2) F (([]:List Int),r1.2.fAt)) (B5 λν=>Is r1 ν))
def EA (r1:Bool×At)(ha:Int):Option (Stp (Int) (Out (Bool×At) (Int))):=
 AX (imp (decide (ha<(r1.2.fS.length:Int))) (CJ ha (r1.2.fS.length:Int)))<|Bf (((decide (ha<(r1.2.fS.length:Int)))&&((decide (48≤(Bm r1.2.fS ha)))&&(decide ((Bm r1.2.fS ha)≤57))))) (AX (B9 .i64 (ha+1))<|some (.next (ha+1))) (some (.out (.go ha)))
def J6 (q:At)(r1:Bool×At)(ha:Int):Option (Bool×At):=
 AX (HU q.fAt ha)<|AX (HU ha (r1.2.fS.length:Int))<|AX (Dw 1 (List.take (Int.toNat ha-Int.toNat q.fAt) (List.drop (Int.toNat q.fAt) r1.2.fS)).length)<|Bf (((decide ((BP (List.take (Int.toNat ha-Int.toNat q.fAt) (List.drop (Int.toNat q.fAt) r1.2.fS)))=1))||(decide (r1.2.fAt=ha)))) (some (false,(At.mk r1.2.fS ha r1.2.fCells r1.2.fGreat))) (AX (Dw 40 (r1.2.fCells.length+([(Aa.mk 3 (By (List.take (Int.toNat ha-Int.toNat q.fAt) (List.drop (Int.toNat q.fAt) r1.2.fS))) ([]:Af) 0)]:List Aa).length))<|some (true,(At.mk r1.2.fS ha (r1.2.fCells++([(Aa.mk 3 (By (List.take (Int.toNat ha-Int.toNat q.fAt) (List.drop (Int.toNat q.fAt) r1.2.fS))) ([]:Af) 0)]:List Aa)) (r1.2.fGreat||(!decide ((BP (List.take (Int.toNat ha-Int.toNat q.fAt) (List.drop (Int.toNat q.fAt) r1.2.fS)))=0))))))
def NU (F:Nat)(q:At):Option (Bool×At):=
 Br (Ec q ([45]:Af)) λr1=>Br (B7 (λσ=>EA r1 σ) F r1.2.fAt) (B5 λν=>J6 q r1 ν)
def Ee (ha:Af)(hb:Int)(hd:(List Aa))(he:Bool):Option (Bool×At):=
 some (true,(At.mk ha hb hd he))
def It (F:Nat)(q:At):Option (Bool×At):=
 Br (Ec q ([110,117,108,108]:Af)) λhd=>Bf (hd.1) (AX (Dw 40 (hd.2.fCells.length+([(Aa.mk 1 0 ([]:Af) 0)]:List Aa).length))<|Ee hd.2.fS hd.2.fAt (hd.2.fCells++([(Aa.mk 1 0 ([]:Af) 0)]:List Aa)) hd.2.fGreat) (Br (Ec hd.2 ([116,114,117,101]:Af)) λhe=>Bf (he.1) (AX (Dw 40 (he.2.fCells.length+([(Aa.mk 2 1 ([]:Af) 0)]:List Aa).length))<|Ee he.2.fS he.2.fAt (he.2.fCells++([(Aa.mk 2 1 ([]:Af) 0)]:List Aa)) he.2.fGreat) (Br (Ec he.2 ([102,97,108,115,101]:Af)) λha=>Bf (ha.1) (AX (Dw 40 (ha.2.fCells.length+([(Aa.mk 2 0 ([]:Af) 0)]:List Aa).length))<|Ee ha.2.fS ha.2.fAt (ha.2.fCells++([(Aa.mk 2 0 ([]:Af) 0)]:List Aa)) ha.2.fGreat) (AX (HU ha.2.fAt (ha.2.fS.length:Int))<|Br (Hm (List.drop (Int.toNat ha.2.fAt) ha.2.fS) ([34]:Af)) λhg=>Bf (hg) (Br (NT F ha.2) λhb=>Bf (!hb.2.1) (some (false,hb.2.2)) (AX (Dw 40 (hb.2.2.fCells.length+([(Aa.mk 4 0 hb.1 0)]:List Aa).length))<|Ee hb.2.2.fS hb.2.2.fAt (hb.2.2.fCells++([(Aa.mk 4 0 hb.1 0)]:List Aa)) hb.2.2.fGreat)) (Br (NU F ha.2) λhf=>some (hf.1,hf.2)))))
def EN (hf:At→Option (Bool×At))(x16:(List Aa))(hd:Int)(hg:Af)(hh:Int)(hi:(List Aa))(hj:Bool):Option (Stp (Int×Af×Int×(List Aa)×Bool) (Out (Bool×At) (Unit))):=
 Br (hf (At.mk hg hh hi hj)) λha=>Bf (!ha.1) (some (.out (.ret (false,ha.2)))) (AX (CJ (x16.length:Int) (ha.2.fCells.length:Int))<|Ll (List.set ha.2.fCells (Int.toNat (x16.length:Int)) (Aa.mk ((Ao ha.2.fCells (x16.length:Int)).fKind) ((Ao ha.2.fCells (x16.length:Int)).fInt) ((Ao ha.2.fCells (x16.length:Int)).fStr) hd)) λhk=>Br (Ec (At.mk ha.2.fS ha.2.fAt hk ha.2.fGreat) ([93]:Af)) λhe=>Bf (he.1) (some (.out (.ret (true,he.2)))) (Br (Ec he.2 ([44]:Af)) λhb=>Bf (!hb.1) (some (.out (.ret (false,hb.2)))) (AX (B9 .i64 (hd+1))<|some (.next (hd+1,hb.2.fS,hb.2.fAt,hb.2.fCells,hb.2.fGreat)))))
def Hy :Option (Bool×At):=
 none
def Cn (hk:At→Option (Bool×At))(x16:(List Aa))(hd:Int)(he:Af×Bool×At)(hn:Bool)(ho:Bool)(hl:Bool)(hh:Af)(hi:Int)(hf:(List Aa))(hj:Bool):Option (Stp (Af×Int×Af×Int×(List Aa)×Bool) (Out (Bool×At) (Unit))):=
 Bf (hl) (some (.out (.ret (false,(At.mk hh hi hf hj))))) (AX (Dw 40 (hf.length+([(Aa.mk 4 0 he.1 0)]:List Aa).length))<|Br (hk (At.mk hh hi (hf++([(Aa.mk 4 0 he.1 0)]:List Aa)) hj)) λha=>Bf (!ha.1) (some (.out (.ret (false,ha.2)))) (AX (CJ (x16.length:Int) (ha.2.fCells.length:Int))<|Ll (List.set ha.2.fCells (Int.toNat (x16.length:Int)) (Aa.mk ((Ao ha.2.fCells (x16.length:Int)).fKind) ((Ao ha.2.fCells (x16.length:Int)).fInt) ((Ao ha.2.fCells (x16.length:Int)).fStr) hd)) λhm=>Br (Ec (At.mk ha.2.fS ha.2.fAt hm ha.2.fGreat) ([125]:Af)) λhg=>Bf (hg.1) (some (.out (.ret (true,hg.2)))) (Br (Ec hg.2 ([44]:Af)) λhb=>Bf (!hb.1) (some (.out (.ret (false,hb.2)))) (AX (B9 .i64 (hd+1))<|some (.next (he.1,hd+1,hb.2.fS,hb.2.fAt,hb.2.fCells,hb.2.fGreat))))))
def EM (F:Nat)(hg:At→Option (Bool×At))(x16:(List Aa))(hb:Af)(hd:Int)(hh:Af)(hi:Int)(hj:(List Aa))(hk:Bool):Option (Stp (Af×Int×Af×Int×(List Aa)×Bool) (Out (Bool×At) (Unit))):=
 Br (NT F (At.mk hh hi hj hk)) λha=>Bf (!ha.2.1) (Cn hg x16 hd ha true true true ha.2.2.fS ha.2.2.fAt ha.2.2.fCells ha.2.2.fGreat) (Bf (decide (1<hd)) (Bf (BE ha.1 hb||decide (ha.1=hb)) (Cn hg x16 hd ha (BE ha.1 hb||decide (ha.1=hb)) (BE ha.1 hb||decide (ha.1=hb)) true ha.2.2.fS ha.2.2.fAt ha.2.2.fCells ha.2.2.fGreat) (Br (Ec ha.2.2 ([58]:Af)) λhe=>Cn hg x16 hd ha (BE ha.1 hb||decide (ha.1=hb)) (BE ha.1 hb||decide (ha.1=hb)) (!he.1) he.2.fS he.2.fAt he.2.fCells he.2.fGreat)) (Br (Ec ha.2.2 ([58]:Af)) λhf=>Cn hg x16 hd ha false false (!hf.1) hf.2.fS hf.2.fAt hf.2.fCells hf.2.fGreat))
def Hx :Option (Bool×At):=
 none
def Ed (F:Nat)(hg:At→Option (Bool×At))(r1:Bool×At)(hi:Bool)(hd:Af)(he:Int)(x16:(List Aa))(hf:Bool):Option (Bool×At):=
 Bf (hi) (Br (It F (At.mk hd he x16 hf)) λhh=>some (hh.1,hh.2)) (Bf (r1.1) (AX (Dw 40 (x16.length+([(Aa.mk 5 0 ([]:Af) 0)]:List Aa).length))<|Br (Ec (At.mk hd he (x16++([(Aa.mk 5 0 ([]:Af) 0)]:List Aa)) hf) ([93]:Af)) λha=>Bf (ha.1) (some (true,ha.2)) (Br (B7 (λσ=>EN hg x16 σ.1 σ.2.1 σ.2.2.1 σ.2.2.2.1 σ.2.2.2.2) F (1,ha.2.fS,ha.2.fAt,ha.2.fCells,ha.2.fGreat)) (B5 λν=>Hy ))) (AX (Dw 40 (x16.length+([(Aa.mk 6 0 ([]:Af) 0)]:List Aa).length))<|Br (Ec (At.mk hd he (x16++([(Aa.mk 6 0 ([]:Af) 0)]:List Aa)) hf) ([125]:Af)) λhb=>Bf (hb.1) (some (true,hb.2)) (Br (B7 (λσ=>EM F hg x16 σ.1 σ.2.1 σ.2.2.1 σ.2.2.2.1 σ.2.2.2.2.1 σ.2.2.2.2.2) F (([]:Af),1,hb.2.fS,hb.2.fAt,hb.2.fCells,hb.2.fGreat)) (B5 λν=>Hx ))))
def Ls (F:Nat)(hb:At→Option (Bool×At))(q:At):Option (Bool×At):=
 Br (Ec q ([91]:Af)) λr1=>Bf (!r1.1) (Br (Ec r1.2 ([123]:Af)) λha=>Ed F hb r1 (!ha.1) ha.2.fS ha.2.fAt ha.2.fCells ha.2.fGreat) (Ed F hb r1 false r1.2.fS r1.2.fAt r1.2.fCells r1.2.fGreat)
def Cu:Nat→At→Option (Bool×At)
 | 0,_=>none
 | nn+1,q=>Ls nn (Cu nn) q
def Gz (F:Nat)(hb:Bool)(hf:Af)(hg:Int)(hd:(List Aa))(he:Bool):Option ((List Aa)×Int):=
 Bf (hb) (some (([]:List Aa),1)) (Bf (he) (some (([]:List Aa),2)) (Br (Lx F hd) λha=>some (ha.1,ha.2)))
def Lv (F:Nat)(s:Af):Option ((List Aa)×Int):=
 Bf (decide (4000<(s.length:Int))) (some (([]:List Aa),3)) (Br (Cu F (At.mk s 0 ([]:List Aa) false)) λha=>Bf (!ha.1) (Gz F true ha.2.fS ha.2.fAt ha.2.fCells ha.2.fGreat) (Gz F (!decide (ha.2.fAt=(s.length:Int))) ha.2.fS ha.2.fAt ha.2.fCells ha.2.fGreat))
end Go.Proofs.YtjfnokmpfekniaaGreatDoor
