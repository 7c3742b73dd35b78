/-
  Texts of the proof, put together: IdC, ShelfV, PlD, PlE, FwJ, IdR, QG, QS, QO, RowQ, QU, QT, QW, QX, PH, QJ, QN, PM, QM, QV, ShelfS, FwI, IdD, IdE, Q5, PlF, PXa, WXa, PXb, WXb, OkIdentLists, PN, LwIdentLists.
-/
import Derived.Test.YthjcjnbngagagaaDoorIL1
import Derived.Shelf.Strings.Builder1
import Derived.Shelf.Strings.Count
import Derived.Shelf.Strings.Search1
import Derived.Shelf.Strings.Search2
import Derived.Shelf.Strings.Search3
import Derived.Shelf.Small.Strs
import Derived.Shelf.LaysM
import Derived.Shelf.LaysC
import Derived.Test.YthjcjnbngagagaaDoorProg
import Derived.Lib.ItoaMem
import Derived.Laws.BytesString
import Derived.Lib.Builder
import Derived.Lib.UnsafeStr
import Derived.Lib.AppendStr
import Derived.Laws.Externs
import Derived.Deep.Slices
import Derived.ChangeArms
import Derived.DataReads
import Derived.Laws.Cover3
import GoSem.Op.IntBits
import GoSem.Op.Shift
import Derived.ScopeJumps
import Derived.Laws.CopyRow
import Derived.Laws.IdiomCopy
import Derived.Laws.OwnMore
import Derived.MapKept
import Derived.Maps.RangeRun
import Derived.Shelf.Sort.Plain
import Derived.Shelf.Slices.CompactS
import Derived.Shelf.Slices.Clone
import Derived.Shelf.Slices.Turned
import Derived.Shelf.Slices.In.SortNone
import Derived.Sort.OwnSorted
import Derived.Lib.OwnBridge
import Derived.Lib.RowBridge
import Derived.Sort.Walk0
import GoSem.ClaimData
namespace Go.Proofs.YthjcjnbngagagaaDoor
open Go Go.RowKit
set_option linter.unusedVariables false
set_option linter.unusedSimpArgs false
set_option maxRecDepth 100000
theorem Hg (p:List UInt8)(hp:p.length≤281474976710656)(w:World):Calls Tryd.prog 40 [.string (B (p))].toArray w (AQ w (.bool (E7 p))):=by
 refine A6 (n:=43) Tryd.func40 rfl Tryd.ntmps40 rfl (Ai (Ae (Aa (Ab rfl) rfl (Ag (Ad (Af ?_))))));refine Ai (Ae (Aa (Ac rfl) rfl (Aa (Ab rfl) rfl (Ag (Ad (Af ?_))))));refine Az [(0,.string (B (p))),(2,.bool (false)),(3,.string (B ((if ((decide ((0)<((p.length:Int))))&&(decide ((Cy p 0)=(45))))=true then List.drop (Int.toNat (1)) p else p))))] [] (φ:=True) ?_ (λhz=>?_)
 ·refine Az [(0,.string (B (p))),(2,.bool (false)),(3,.string (B (p))),(13,.bool (((decide ((0)<((p.length:Int))))&&(decide ((Cy p 0)=(45))))))] [] (φ:=True) ?_ (λh0=>?_)
  ·refine Ae (Aa (Ac rfl) rfl (Aa (AE Cw rfl) rfl (Aa (GS rfl rfl) rfl (Aa (Ac rfl) rfl (A1 (decide ((0)<((p.length:Int)))) (λhc=>?_) (λhc=>?_))))))
   ·have hj:=hc;try simp only[Kk,Kj] at hj
    have hk:=hc;try simp at hk
    refine Aj rfl rfl hc (Aa (Ac rfl) rfl (Aj rfl rfl hc (Aa (BD Cw rfl rfl (by first | omega | exact BP (by assumption)) (by first | omega | exact BP (by assumption))) rfl (Aj rfl rfl hc (Aa (Cg rfl rfl) rfl (Aa (Al rfl hc rfl) rfl (Ag ?_)))))));exact Ad (As trivial ⟨rfl,rfl,rfl,fb (by first | (simp only[hc,Kr,Km,Kv,Kq,Ku,Ko,Kw,Ks,Kt,Kn,K1,Ky,K8,K3,reduceIte,Kl];done) | simp[hc]),trivial⟩ .slnil)
   ·have hj:=hc;try simp only[Kk,Kj] at hj
    have hk:=hc;try simp at hk
    refine Ah rfl rfl hc rfl (Ah rfl rfl hc rfl (Ah rfl rfl hc rfl (Aa (Am rfl hc rfl) rfl (Ag ?_))));exact Ad (As trivial ⟨rfl,rfl,rfl,fb (by first | (simp only[hc,Kr,Km,Kv,Kq,Ku,Ko,Kw,Ks,Kt,Kn,K1,Ky,K8,K3,reduceIte,Kl];done) | simp[hc]),trivial⟩ .slnil)
  refine A0 (b:=((decide ((0)<((p.length:Int))))&&(decide ((Cy p 0)=(45))))) rfl (λhf=>?_) (λhf=>?_)
  ·have hl:=hf;try simp only[Kk,Kj] at hl
   have hm:=hf;try simp at hm
   refine Ae (Aa (Ac rfl) rfl (Aa (BK Cw rfl rfl (by first | omega | (simp;omega)) (by first | omega | (simp;omega))) rfl (Aa (Ab rfl) rfl (Ag ?_))));exact Ad (As trivial ⟨rfl,rfl,fs (by first | (simp only[hf,Kr,Km,Kv,Kq,Ku,Ko,Kw,Ks,Kt,Kn,K1,Ky,K8,K3,reduceIte,Kl];done) | simp[hf]),trivial⟩ .slnil)
  ·have hl:=hf;try simp only[Kk,Kj] at hl
   have hm:=hf;try simp at hm
   refine Ax ?_;exact Ad (As trivial ⟨rfl,rfl,fs (by first | (simp only[hf,Kr,Km,Kv,Kq,Ku,Ko,Kw,Ks,Kt,Kn,K1,Ky,K8,K3,reduceIte,Kl];done) | simp[hf]),trivial⟩ .slnil)
 have hdg:DI p=(if ((decide ((0)<((p.length:Int))))&&(decide ((Cy p 0)=(45))))=true then List.drop (Int.toNat (1)) p else p):=rfl;have hdl:=HW p;rw[hdg] at hdl;generalize(if ((decide ((0)<((p.length:Int))))&&(decide ((Cy p 0)=(45))))=true then List.drop (Int.toNat (1)) p else p)=dg at hdg hdl ⊢;refine Ai (Az [(2,.bool (false)),(3,.string (B (dg))),(26,.bool (((decide ((dg)=(([]:List UInt8))))||((decide ((Cy dg 0)=(48)))&&(!(decide ((p)=(([48]:List UInt8)))))))))] [] (φ:=True) ?_ (λh1=>?_))
 ·refine Ae (Aa (Ac rfl) rfl (Aa (CU rfl rfl) rfl (Aa (Ac rfl) rfl (A1 (decide ((dg)=(([]:List UInt8)))) (λha=>?_) (λha=>?_)))))
  ·have hn:=ha;try simp only[Kk,Kj] at hn
   have ho:=ha;try simp at ho
   refine Ah rfl rfl ha rfl (Ah rfl rfl ha rfl (Ah rfl rfl ha rfl (Ah rfl rfl ha rfl (At rfl rfl rfl (At rfl rfl rfl (Ah rfl rfl ha rfl (Aa (Al rfl ha rfl) rfl (Ag ?_))))))));exact Ad (As trivial ⟨rfl,rfl,fb (by first | (simp only[ha,Kr,Km,Kv,Kq,Ku,Ko,Kw,Ks,Kt,Kn,K1,Ky,K8,K3,reduceIte,Kl];done) | simp[ha]),trivial⟩ .slnil)
  ·have hn:=ha;try simp only[Kk,Kj] at hn
   have ho:=ha;try simp at ho
   refine Aj rfl rfl ha (Aa (Ac rfl) rfl (Aj rfl rfl ha (Aa (BD Cw rfl rfl (by first | omega | exact BP (by assumption)) (by first | omega | exact BP (by assumption))) rfl (Aj rfl rfl ha (Aa (Cg rfl rfl) rfl (Aj rfl rfl ha (Aa (Ac rfl) rfl (A1 (decide ((Cy dg 0)=(48))) (λhd=>?_) (λhd=>?_)))))))))
   ·have hq:=hd;try simp only[Kk,Kj] at hq
    have hr:=hd;try simp at hr
    refine Aj rfl rfl hd (Aa (Ac rfl) rfl (Aj rfl rfl hd (Aa (Ce rfl rfl) rfl (Aj rfl rfl ha (Aa (Al rfl hd rfl) rfl (Aa (Am rfl ha rfl) rfl (Ag ?_)))))));exact Ad (As trivial ⟨rfl,rfl,fb (by first | (simp only[ha,hd,Kr,Km,Kv,Kq,Ku,Ko,Kw,Ks,Kt,Kn,K1,Ky,K8,K3,reduceIte,Kl];done) | simp[ha,hd]),trivial⟩ .slnil)
   ·have hq:=hd;try simp only[Kk,Kj] at hq
    have hr:=hd;try simp at hr
    refine Ah rfl rfl hd rfl (Ah rfl rfl hd rfl (Aj rfl rfl ha (Aa (Am rfl hd rfl) rfl (Aa (Am rfl ha rfl) rfl (Ag ?_)))));exact Ad (As trivial ⟨rfl,rfl,fb (by first | (simp only[ha,hd,Kr,Km,Kv,Kq,Ku,Ko,Kw,Ks,Kt,Kn,K1,Ky,K8,K3,reduceIte,Kl];done) | simp[ha,hd]),trivial⟩ .slnil)
 refine A0 (b:=((decide ((dg)=(([]:List UInt8))))||((decide ((Cy dg 0)=(48)))&&(!(decide ((p)=(([48]:List UInt8)))))))) rfl (λhe=>?_) (λhe=>?_)
 ·have hs:=he;try simp only[Kk,Kj] at hs
  have ht:=he;try simp at ht
  refine Ai (Ae (Aa (Ab rfl) rfl (Ag (Ad (Af ?_)))));refine Aq (An (Ap (B3 rfl rfl) ?_));exact AB (by simp only[E7,hdg,he];rfl)
 ·have hs:=he;try simp only[Kk,Kj] at hs
  have ht:=he;try simp at ht
  refine Ax (Ad (Af ?_));refine Ai (Ai (Ae (Aa (Ac rfl) rfl (Aa (AE Cw rfl) rfl (Aa (Ac rfl) rfl (Ag (Ad (Af ?_))))))));refine A5 (Ck (S:=Nat) (λ(k:Nat)=>k≤dg.length∧Au Bq 0 dg=Au Bq k (dg.drop k)) (λ(k:Nat)=>[(29,.int .i64 ((k:Int))),(3,.string (B (dg))),(28,.int .i64 ((dg.length:Int)))]) (λ(k:Nat)=>[]) (λ(k:Nat)=>dg.length-k) (0) ?_ ⟨fi (by first | rfl | (simp;done) | omega | (simp;omega)),rfl,rfl,trivial⟩ .slnil ?_)
  ·exact⟨KI _,by simp⟩
  rintro k hi0;refine Ai (Ae (Aa (Dl rfl rfl) rfl (Ag (Ad (Af ?_)))));refine Ai (A0 (b:=decide (((k:Int))<((dg.length:Int)))) rfl (λhg=>?_) (λhg=>?_))
  ·have hi:=hg;try simp only[Kk,Kj] at hi
   have hu:=hg;try simp at hu
   refine Ax (Ad (Af ?_));refine Ai (A5 (Ai (Ae (Aa (Ac rfl) rfl (Aa (Ab rfl) rfl (Ag (Ad (Af ?_))))))));refine Az [(3,.string (B (dg))),(4,.int .i64 ((k:Int))),(28,.int .i64 ((dg.length:Int))),(29,.int .i64 ((k:Int))),(30,.bool (decide (((k:Int))<((dg.length:Int))))),(31,.int .i64 ((k:Int))),(32,.string (B (dg))),(33,.int .i64 ((k:Int))),(34,.int .u8 (Cy dg (k:Int))),(35,.bool (decide ((Cy dg (k:Int))<(48)))),(36,.bool (decide ((Cy dg (k:Int))<(48)))),(41,.bool (((decide ((Cy dg (k:Int))<(48)))||(decide ((57)<(Cy dg (k:Int)))))))] [] (φ:=True) ?_ (λh2=>?_)
   ·refine Ae (Aa (Ac rfl) rfl (Aa (Ac rfl) rfl (Aa (BD Cw rfl rfl (by first | omega | exact BP (by assumption)) (by first | omega | exact BP (by assumption))) rfl (Aa (Dl rfl rfl) rfl (Aa (Ac rfl) rfl (A1 (decide ((Cy dg (k:Int))<(48))) (λhb=>?_) (λhb=>?_)))))))
    ·have hv:=hb;try simp only[Kk,Kj] at hv
     have hw:=hb;try simp at hw
     refine Ah rfl rfl hb rfl (Ah rfl rfl hb rfl (Ah rfl rfl hb rfl (Ah rfl rfl hb rfl (Aa (Al rfl hb rfl) rfl (Ag ?_)))));exact Ad (As trivial ⟨rfl,rfl,rfl,rfl,rfl,rfl,rfl,rfl,rfl,rfl,rfl,fb (by first | (simp only[he,hg,hb,Kr,Km,Kv,Kq,Ku,Ko,Kw,Ks,Kt,Kn,K1,Ky,K8,K3,reduceIte,Kl];done) | simp[he,hg,hb]),trivial⟩ .slnil)
    ·have hv:=hb;try simp only[Kk,Kj] at hv
     have hw:=hb;try simp at hw
     refine Aj rfl rfl hb (Aa (Ac rfl) rfl (Aj rfl rfl hb (Aa (Ac rfl) rfl (Aj rfl rfl hb (Aa (BD Cw rfl rfl (by first | omega | exact BP (by assumption)) (by first | omega | exact BP (by assumption))) rfl (Aj rfl rfl hb (Aa (GS rfl rfl) rfl (Aa (Am rfl hb rfl) rfl (Ag ?_)))))))));exact Ad (As trivial ⟨rfl,rfl,rfl,rfl,rfl,rfl,rfl,rfl,rfl,rfl,rfl,fb (by first | (simp only[he,hg,hb,Kr,Km,Kv,Kq,Ku,Ko,Kw,Ks,Kt,Kn,K1,Ky,K8,K3,reduceIte,Kl];done) | simp[he,hg,hb]),trivial⟩ .slnil)
   refine A0 (b:=((decide ((Cy dg (k:Int))<(48)))||(decide ((57)<(Cy dg (k:Int)))))) rfl (λhh=>?_) (λhh=>?_)
   ·have hx:=hh;try simp only[Kk,Kj] at hx
    have hy:=hh;try simp at hy
    refine Ai (Ae (Aa (Ab rfl) rfl (Ag (Ad (Af ?_)))));refine Aq (A7 (An (An (A7 (An (Ap (B3 rfl rfl) ?_))))));exact AB (by simp[E7,hdg,Jz hi0 hi hh])
   ·have hx:=hh;try simp only[Kk,Kj] at hx
    have hy:=hh;try simp at hy
    refine Ax (AC (Ad (Af ?_)));refine Ae (Aa (C3 rfl rfl (IntWalk.i64_in _ (by omega))) rfl (Aa (Ac rfl) rfl (Ag (Ad (A8 (k+1) ?_ ⟨fi (by first | rfl | (simp;done) | omega | (simp;omega)),rfl,rfl,trivial⟩ .slnil)))));exact HX hi0 hi hh
  ·have hi:=hg;try simp only[Kk,Kj] at hi
   have hu:=hg;try simp at hu
   refine Bf (Av (Av (AJ (Ad (Af ?_)))));refine Ai (Ae (Aa (Ab rfl) rfl (Ag (Ad (Af ?_)))));refine Aq (Ap (B3 rfl rfl) ?_);exact AB (by simp only[E7,hdg,he,I6 hi0 hi];rfl)
theorem HV (m:Int)(h0 : -9223372036854775808≤m)(h1:m≤9223372036854775807)(w:World)(hE:Es w):Calls Tryd.prog 28 [.int .i64 (m)].toArray w (AQ w (.string (B (Lib.itoa m)))):=by
 refine A6 (n:=5) Tryd.func28 rfl Tryd.ntmps28 rfl (Ai (Ae (Aa (Ab rfl) rfl (Ag (Ad (Af ?_))))));refine Ai (Ae (Aa (Ac rfl) rfl (Ar Tryd.call38 rfl (λw hw=>Jp m (by omega) (by omega) w (hE.st0 hw)) rfl (Aa (Ab rfl) rfl (Ag (Ad (Af ?_)))))));refine Aq (Ap (B3 rfl rfl) ?_);exact AB (by first | rfl | simp[])
theorem Gz (p:List UInt8)(hp:p.length≤281474976710656)(w:World)(hE:Es w):Calls Tryd.prog 30 [.string (B (p))].toArray w (AQ w (.tuple #[.int .i64 (AG p),.int .i64 (BV p)])):=by
 refine A6 (n:=22) Tryd.func30 rfl Tryd.ntmps30 rfl (Ai (Ae (Aa (Ab rfl) rfl (Aa (Ab rfl) rfl (Ag (Ad (Af ?_)))))));refine Ai (Ai (Ae (Aa (Ac rfl) rfl (Ar Tryd.call40 rfl (λw hw=>Hg p (by first | omega | (simp;done) | (simp;omega) | (simp at *;omega)) w) rfl (Aa (Bb rfl) rfl (Ag (Ad (Af ?_))))))));refine A0 (b:=!(E7 p)) rfl (λhb=>?_) (λhb=>?_)
 ·have he:=hb;try simp only[Kk,Kj] at he
  have ha:=hb;try simp only[Kk,Kj,K0,K6,KC,KE,KA,K7,not_or,Int.not_lt,Int.not_le] at ha
  refine Ai (Ae (Aa (Ab rfl) rfl (Aa (Ab rfl) rfl (Ag (Ad (Af ?_))))));refine Aq (An (Ap (H3 rfl rfl rfl) ?_));exact AB (by simp[AG,BV,ha])
 ·have he:=hb;try simp only[Kk,Kj] at he
  have ha:=hb;try simp only[Kk,Kj,K0,K6,KC,KE,KA,K7,not_or,Int.not_lt,Int.not_le] at ha
  refine Ax (Ad (Af ?_));refine Ai (Ae (Aa (Ac rfl) rfl ?_));rcases Ia (p:=p) (by assumption) with⟨av,hav,hal,hah⟩ | hav
  ·refine Ar Tryd.call41 rfl (λw _=>IB p (by first | omega | (simp;done) | (simp;omega) | (simp at *;omega)) av hav w) rfl (Aa (Ac rfl) rfl (Aa (Ao rfl rfl) rfl (Aa (Ao rfl rfl) rfl (Aa (Ab rfl) rfl (Aa (Ab rfl) rfl (Ag (Ad (Af ?_))))))));refine Ai (Az [(2,.int .i64 (0)),(3,.int .i64 (0)),(4,.int .i64 (av)),(20,.bool (!(De av)))] [] (φ:=True) ?_ (λhg=>?_))
   ·exact Ae (Aa (Ac rfl) rfl (Aa (ES Tryd.underlying51 rfl) rfl (Aa (Ac rfl) rfl (Aj rfl rfl rfl (Aa (Ac rfl) rfl (Aj rfl rfl rfl (Ar Tryd.call42 rfl (λw hw=>Ik av w) rfl (Aj rfl rfl rfl (Aa (Bb rfl) rfl (Aa (Am rfl rfl rfl) rfl (Ag (Ad (As trivial ⟨rfl,rfl,rfl,rfl,trivial⟩ .slnil)))))))))))))
   refine A0 (b:=!(De av)) rfl (λhc=>?_) (λhc=>?_)
   ·have hf:=hc;try simp only[Kk,Kj] at hf
    have hd:=hc;try simp only[Kk,Kj,K0,K6,KC,KE,KA,K7,not_or,Int.not_lt,Int.not_le] at hd
    refine Ai (Ae (Aa (Ab rfl) rfl (Aa (Ab rfl) rfl (Ag (Ad (Af ?_))))));refine Aq (An (Ap (H3 rfl rfl rfl) ?_));exact AB (by simp[AG,BV,hav,ha,hd])
   ·have hf:=hc;try simp only[Kk,Kj] at hf
    have hd:=hc;try simp only[Kk,Kj,K0,K6,KC,KE,KA,K7,not_or,Int.not_lt,Int.not_le] at hd
    refine Ax (Ad (Af ?_));refine Ai (Ae (Aa (Ac rfl) rfl (Aa (Ab rfl) rfl (Aa (Ab rfl) rfl (Ag (Ad (Af ?_)))))));refine Aq (Ap (H3 rfl rfl rfl) ?_);exact AB (by simp[AG,BV,hav,ha,hd])
  ·refine Et Tryd.call41 rfl (λw hw=>Gs p (by first | omega | (simp;done) | (simp;omega) | (simp at *;omega)) hav w (hE.st0 hw)) rfl ?_;rintro _ _ ⟨am,at_,ab,rfl,rfl⟩;refine Aa (Ac rfl) rfl (Aa (Ao rfl rfl) rfl (Aa (Ao rfl rfl) rfl (Aa (Ab rfl) rfl (Aa (Ab rfl) rfl (Ag (Ad (Af ?_)))))));refine Ai (Az [(2,.int .i64 (0)),(3,.int .i64 (0)),(4,.int .i64 (am)),(20,.bool (true))] [] (φ:=True) ?_ (λhh=>?_))
   ·exact Ae (Aa (Ac rfl) rfl (Aa (Ix Tryd.underlying51 rfl) rfl (Aa (Ac rfl) rfl (Ah rfl rfl rfl rfl (Ah rfl rfl rfl rfl (Ah rfl rfl rfl rfl (Aa (Al rfl rfl rfl) rfl (Ag (Ad (As trivial ⟨rfl,rfl,rfl,rfl,trivial⟩ .slnil))))))))))
   refine Ca rfl rfl (Ai (Ae (Aa (Ab rfl) rfl (Aa (Ab rfl) rfl (Ag (Ad (Af ?_)))))));refine Aq (An (Ap (H3 rfl rfl rfl) ?_));exact AB (by simp[AG,BV,hav,ha])
theorem I0 (p:List UInt8)(m:Int)(hp:p.length≤281474976710656)(w:World):Calls Tryd.prog 39 [.string (B (p)),.int .u8 (m)].toArray w (AQ w (.int .i64 (AF p m))):=by
 refine A6 (n:=19) Tryd.func39 rfl Tryd.ntmps39 rfl (Ai (Ae (Aa (Ab rfl) rfl (Ag (Ad (Af ?_))))));refine Ai (Ai (Ae (Aa (Ac rfl) rfl (Aa (AE Cw rfl) rfl (Aa (ER rfl rfl (IntWalk.i64_in _ (by omega))) rfl (Aa (Ab rfl) rfl (Ag (Ad (Af ?_)))))))));refine A5 (Ck (S:=Nat) (λ(k:Nat)=>k≤p.length∧AF p m=B1 p m k) (λ(k:Nat)=>[(5,.int .i64 ((k:Int)-1)),(0,.string (B (p))),(1,.int .u8 (m))]) (λ(k:Nat)=>[]) (λ(k:Nat)=>k) (p.length) ?_ ⟨fi (by first | rfl | (simp;done) | omega | (simp;omega)),rfl,rfl,trivial⟩ .slnil ?_)
 ·exact⟨KF _,rfl⟩
 rintro k hi0;refine Ai (Ai (Ae (Aa (Ac rfl) rfl (Aa (Dw rfl rfl) rfl (Ag (Ad (Af ?_)))))));refine A0 (b:=decide ((0)≤((k:Int)-1))) rfl (λhb=>?_) (λhb=>?_)
 ·have ha:=hb;try simp only[Kk,Kj] at ha
  have he:=hb;try simp at he
  refine Ax (Ad (Af ?_));refine Ai (A5 (Ai (Ae (Aa (Ac rfl) rfl (Aa (Ac rfl) rfl (Aa (BD Cw rfl rfl (by first | omega | (simp;omega) | (simp at *;omega)) (by first | omega | (simp;omega) | (simp at *;omega))) rfl (Aa (Ac rfl) rfl (Aa (Cg rfl rfl) rfl (Ag (Ad (Af ?_)))))))))));refine A0 (b:=decide ((Cy p ((k:Int)-1))=(m))) rfl (λhc=>?_) (λhc=>?_)
  ·have hd:=hc;try simp only[Kk,Kj] at hd
   have hf:=hc;try simp at hf
   refine Ai (Ae (Aa (Ac rfl) rfl (Aa (Ab rfl) rfl (Ag (Ad (Af ?_))))));refine Aq (A7 (An (An (A7 (An (Ap (B3 rfl rfl) ?_))))));exact AB (by rw[← HB hi0 ha hd])
  ·have hd:=hc;try simp only[Kk,Kj] at hd
   have hf:=hc;try simp at hf
   refine Ax (AC (Ad (Af ?_)));refine Ae (Aa (Ac rfl) rfl (Aa (ER rfl rfl (IntWalk.i64_in _ (by omega))) rfl (Aa (Ab rfl) rfl (Ag (Ad (A8 (k-1) ?_ ⟨fi (by first | rfl | (simp;done) | omega | (simp;omega)),rfl,rfl,trivial⟩ .slnil))))));exact GY hi0 ha hd
 ·have ha:=hb;try simp only[Kk,Kj] at ha
  have he:=hb;try simp at he
  refine Bf (Av (Av (AJ (Ad (Af ?_)))));refine Ai (Ae (Aa (Ab rfl) rfl (Ag (Ad (Af ?_)))));refine Aq (Ap (B3 rfl rfl) ?_);exact AB (by rw[← HC hi0 ha])
theorem Jn (p:List UInt8)(m:Int)(hp:p.length≤281474976710656)(w:World):Calls Tryd.prog 29 [.string (B (p)),.int .u8 (m)].toArray w (AQ w (.int .i64 (AF p m))):=by
 refine A6 (n:=8) Tryd.func29 rfl Tryd.ntmps29 rfl (Ai (Ae (Aa (Ab rfl) rfl (Ag (Ad (Af ?_))))));refine Ai (Ae (Aa (Ac rfl) rfl (Aa (Ac rfl) rfl (Ar Tryd.call39 rfl (λw hw=>I0 p m (by first | omega | (simp;done) | (simp;omega) | (simp at *;omega)) w) rfl (Aa (Ab rfl) rfl (Ag (Ad (Af ?_))))))));refine Aq (Ap (B3 rfl rfl) ?_);exact AB (by first | rfl | simp[])
theorem GJ (p:List UInt8)(hp:p.length≤281474976710656)(w:World)(hE:Es w):Calls Tryd.prog 26 [.string (B (p))].toArray w (AQ w (.bool (BH p))):=by
 refine A6 (n:=20) Tryd.func26 rfl Tryd.ntmps26 rfl (Ai (Ae (Aa (Ab rfl) rfl (Ag (Ad (Af ?_))))));refine Ai (Ae (Aa (Ac rfl) rfl (Ar Tryd.call30 rfl (λw hw=>Gz p (by first | omega | (simp;done) | (simp;omega) | (simp at *;omega)) w (hE.st0 hw)) rfl ?_)));have hg:=EN p;refine Aa (Ac rfl) rfl (Aa (Ao rfl rfl) rfl (Aa (Ao rfl rfl) rfl (Aa (Ab rfl) rfl (Aa (Ab rfl) rfl (Ag (Ad (Af ?_)))))));refine Az [(2,.bool (((decide ((BV p)=(0)))&&((decide ((1)≤(AG p)))&&(decide ((AG p)≤(32)))))))] [] (φ:=True) ?_ (λhh=>?_)
 ·refine Ae (Aa (Ac rfl) rfl (Aa (Cg rfl rfl) rfl (Aa (Ac rfl) rfl (A1 (decide ((BV p)=(0))) (λha=>?_) (λha=>?_)))))
  ·have hc:=ha;try simp only[Kk,Kj] at hc
   have hd:=ha;try simp at hd
   refine Aj rfl rfl ha (Aa (Ac rfl) rfl (Aj rfl rfl ha (Aa (Dw rfl rfl) rfl (Aa (Al rfl ha rfl) rfl (Aa (Ac rfl) rfl (A1 (decide ((1)≤(AG p))) (λhb=>?_) (λhb=>?_)))))))
   ·have he:=hb;try simp only[Kk,Kj] at he
    have hf:=hb;try simp at hf
    refine Aj rfl rfl hb (Aa (Ac rfl) rfl (Aj rfl rfl hb (Aa (DR rfl rfl) rfl (Aa (Al rfl hb rfl) rfl (Aa (Ab rfl) rfl (Ag ?_))))));exact Ad (As trivial ⟨fb (by first | (simp only[ha,hb,Kr,Km,Kv,Kq,Ku,Ko,Kw,Ks,Kt,Kn,K1,Ky,K8,K3,reduceIte,Kl];done) | simp[ha,hb]),trivial⟩ .slnil)
   ·have he:=hb;try simp only[Kk,Kj] at he
    have hf:=hb;try simp at hf
    refine Ah rfl rfl hb rfl (Ah rfl rfl hb rfl (Aa (Am rfl hb rfl) rfl (Aa (Ab rfl) rfl (Ag ?_))));exact Ad (As trivial ⟨fb (by first | (simp only[ha,hb,Kr,Km,Kv,Kq,Ku,Ko,Kw,Ks,Kt,Kn,K1,Ky,K8,K3,reduceIte,Kl];done) | simp[ha,hb]),trivial⟩ .slnil)
  ·have hc:=ha;try simp only[Kk,Kj] at hc
   have hd:=ha;try simp at hd
   refine Ah rfl rfl ha rfl (Ah rfl rfl ha rfl (Aa (Am rfl ha rfl) rfl (Aa (Ac rfl) rfl (Ah rfl rfl rfl rfl (Ah rfl rfl rfl rfl (Aa (Am rfl rfl rfl) rfl (Aa (Ab rfl) rfl (Ag ?_))))))));exact Ad (As trivial ⟨fb (by first | (simp only[ha,Kr,Km,Kv,Kq,Ku,Ko,Kw,Ks,Kt,Kn,K1,Ky,K8,K3,reduceIte,Kl];done) | simp[ha]),trivial⟩ .slnil)
 refine Aq (Ap (B3 rfl rfl) ?_);exact AB (by simp[BH,Bool.and_assoc])
theorem IG (t:List UInt8)(f:List UInt8)(q:List UInt8)(ht:t.length≤281474976710656)(hf:f.length≤281474976710656)(hq:q.length≤281474976710656)(w:World)(hE:Es w):Calls Tryd.prog 12 [.string (B (t)),.string (B (f)),.string (B (q))].toArray w (AQ w (.tuple #[.string (B (EM t f q)),.int .i64 (Gg t f q)])):=by
 refine A6 (n:=33) Tryd.func12 rfl Tryd.ntmps12 rfl (Ai (Ae (Aa (Ab rfl) rfl (Aa (Ab rfl) rfl (Ag (Ad (Af ?_)))))));refine Ai (Az [(0,.string (B (t))),(1,.string (B (f))),(2,.string (B (q))),(6,.string (B ([]))),(7,.int .i64 (0)),(25,.bool (((!(AX t))||((!(AX f))||((!(AX q))&&(!(BH q)))))))] [] (φ:=True) ?_ (λhn=>?_))
 ·refine Ae (Aa (Ac rfl) rfl (Ar Gc rfl (λw hw=>CN t w) rfl (Aa (Bb rfl) rfl (Aa (Ac rfl) rfl (A1 (!(AX t)) (λhb=>?_) (λhb=>?_))))))
  ·have hg:=hb;try simp only[Kk,Kj] at hg
   have hh:=hb;try simp at hh
   refine Ah rfl rfl hb rfl (Ah rfl rfl hb rfl (Ah rfl rfl hb rfl (Aa (Al rfl hb rfl) rfl (Aa (Ac rfl) rfl (Ah rfl rfl rfl rfl (Ah rfl rfl rfl rfl (Ah rfl rfl rfl rfl (Ah rfl rfl rfl rfl (At rfl rfl rfl (At rfl rfl rfl (At rfl rfl rfl (Ah rfl rfl rfl rfl (Aa (Al rfl rfl rfl) rfl (Ag ?_))))))))))))));exact Ad (As trivial ⟨rfl,rfl,rfl,rfl,rfl,fb (by first | (simp only[hb,Kr,Km,Kv,Kq,Ku,Ko,Kw,Ks,Kt,Kn,K1,Ky,K8,K3,reduceIte,Kl];done) | simp[hb]),trivial⟩ .slnil)
  ·have hg:=hb;try simp only[Kk,Kj] at hg
   have hh:=hb;try simp at hh
   refine Aj rfl rfl hb (Aa (Ac rfl) rfl (Aj rfl rfl hb (Ar Gc rfl (λw hw=>CN f w) rfl (Aj rfl rfl hb (Aa (Bb rfl) rfl (Aa (Am rfl hb rfl) rfl (Aa (Ac rfl) rfl (A1 (!(AX f)) (λha=>?_) (λha=>?_)))))))))
   ·have hi:=ha;try simp only[Kk,Kj] at hi
    have hj:=ha;try simp at hj
    refine Ah rfl rfl ha rfl (Ah rfl rfl ha rfl (Ah rfl rfl ha rfl (Ah rfl rfl ha rfl (At rfl rfl rfl (At rfl rfl rfl (At rfl rfl rfl (Ah rfl rfl ha rfl (Aa (Al rfl ha rfl) rfl (Ag ?_)))))))));exact Ad (As trivial ⟨rfl,rfl,rfl,rfl,rfl,fb (by first | (simp only[hb,ha,Kr,Km,Kv,Kq,Ku,Ko,Kw,Ks,Kt,Kn,K1,Ky,K8,K3,reduceIte,Kl];done) | simp[hb,ha]),trivial⟩ .slnil)
   ·have hi:=ha;try simp only[Kk,Kj] at hi
    have hj:=ha;try simp at hj
    refine Aj rfl rfl ha (Aa (Ac rfl) rfl (Aj rfl rfl ha (Ar Gc rfl (λw hw=>CN q w) rfl (Aj rfl rfl ha (Aa (Bb rfl) rfl (Aj rfl rfl ha (Aa (Ac rfl) rfl (A1 (!(AX q)) (λhc=>?_) (λhc=>?_)))))))))
    ·have hk:=hc;try simp only[Kk,Kj] at hk
     have hl:=hc;try simp at hl
     refine Aj rfl rfl hc (Aa (Ac rfl) rfl (Aj rfl rfl hc (Ar Tryd.call26 rfl (λw hw=>GJ q (by first | omega | (simp;done) | (simp;omega) | (simp at *;omega) | (split<;>first | omega | (simp;omega))) w (hE.st0 hw)) rfl (Aj rfl rfl hc (Aa (Bb rfl) rfl (Aj rfl rfl ha (Aa (Al rfl hc rfl) rfl (Aa (Am rfl ha rfl) rfl (Ag ?_)))))))));exact Ad (As trivial ⟨rfl,rfl,rfl,rfl,rfl,fb (by first | (simp only[hb,ha,hc,Kr,Km,Kv,Kq,Ku,Ko,Kw,Ks,Kt,Kn,K1,Ky,K8,K3,reduceIte,Kl];done) | simp[hb,ha,hc]),trivial⟩ .slnil)
    ·have hk:=hc;try simp only[Kk,Kj] at hk
     have hl:=hc;try simp at hl
     refine Ah rfl rfl hc rfl (Ah rfl rfl hc rfl (Ah rfl rfl hc rfl (Aj rfl rfl ha (Aa (Am rfl hc rfl) rfl (Aa (Am rfl ha rfl) rfl (Ag ?_))))));exact Ad (As trivial ⟨rfl,rfl,rfl,rfl,rfl,fb (by first | (simp only[hb,ha,hc,Kr,Km,Kv,Kq,Ku,Ko,Kw,Ks,Kt,Kn,K1,Ky,K8,K3,reduceIte,Kl];done) | simp[hb,ha,hc]),trivial⟩ .slnil)
 refine A0 (b:=((!(AX t))||((!(AX f))||((!(AX q))&&(!(BH q)))))) rfl (λhd=>?_) (λhd=>?_)
 ·have hm:=hd;try simp only[Kk,Kj] at hm
  have he:=hd;try simp only[Kk,Kj,K0,K6,KC,KE,KA,K7,not_or,Int.not_lt,Int.not_le] at he
  refine Ai (Ae (Aa (Ab rfl) rfl (Aa (Ab rfl) rfl (Ag (Ad (Af ?_))))));refine Aq (An (Ap (H3 rfl rfl rfl) ?_));have hr:D9 t f q=false:=by simp only[D9];revert he;cases AX t<;>cases AX f<;>cases AX q<;>cases BH q<;>simp
  exact AB (by simp[EM,Gg,hr,B])
 ·have hm:=hd;try simp only[Kk,Kj] at hm
  have he:=hd;try simp only[Kk,Kj,K0,K6,KC,KE,KA,K7,not_or,Int.not_lt,Int.not_le] at he
  refine Ax (Ad (Af ?_));refine Ai (Ae (Aa (Ac rfl) rfl (Aa (CM rfl rfl (by simp;omega)) rfl (Aa (Ac rfl) rfl (Aa (CM rfl rfl (by simp;omega)) rfl (Aa (CM rfl rfl (by simp;omega)) rfl (Aa (Ac rfl) rfl (Aa (CM rfl rfl (by simp;omega)) rfl (Aa (Ab rfl) rfl (Aa (Ab rfl) rfl (Ag (Ad (Af ?_)))))))))))));refine Aq (Ap (H3 rfl rfl rfl) ?_);have hr:D9 t f q=true:=by simp only[D9];revert he;cases AX t<;>cases AX f<;>cases AX q<;>cases BH q<;>simp
  exact AB (by simp[EM,Gg,hr,B])
theorem Gi (p:List UInt8)(hp:p.length≤281474976710656)(w:World)(hE:Es w):Calls Tryd.prog 13 [.string (B (p))].toArray w (AQ w (.tuple #[.string (B (CC (DB p) (II p))),.string (B (CC (DB p) (IK p))),.string (B (CC (DB p) (IJ p))),.int .i64 ((if DB p=true then(0:Int) else 1))])):=by
 refine A6 (n:=43) Tryd.func13 rfl Tryd.ntmps13 rfl (Ai (Ae (Aa (Ab rfl) rfl (Aa (Ab rfl) rfl (Aa (Ab rfl) rfl (Aa (Ab rfl) rfl (Ag (Ad (Af ?_)))))))));refine Ai (Ae (Aa (Ac rfl) rfl (Ar Tryd.call27 rfl (λw hw=>IT p (47:UInt8) (by first | omega | (simp;omega)) w) rfl ?_)));have hg:=Dc p 47;have hh:=C4 p 47;refine Aa (Ac rfl) rfl (Aa (Ao rfl rfl) rfl (Aa (Ao rfl rfl) rfl (Aa (Ao rfl rfl) rfl (Aa (Ab rfl) rfl (Aa (Ab rfl) rfl (Aa (Ab rfl) rfl (Ag (Ad (Af ?_)))))))));refine Ai (Ae (Aa (Ac rfl) rfl (Ar Tryd.call27 rfl (λw hw=>IT (AY p 47) (58:UInt8) (by first | omega | (simp;omega)) w) rfl ?_)));have hi:=Dc (AY p 47) 58;have hj:=C4 (AY p 47) 58;refine Aa (Ac rfl) rfl (Aa (Ao rfl rfl) rfl (Aa (Ao rfl rfl) rfl (Aa (Ao rfl rfl) rfl (Aa (Ab rfl) rfl (Aa (Ab rfl) rfl (Aa (Ab rfl) rfl (Ag (Ad (Af ?_)))))))));refine Ai (Ai (Ae (Aa (Ac rfl) rfl (Aa (Ac rfl) rfl (Aa (Ac rfl) rfl (Ar Tryd.call12 rfl (λw hw=>IG (BA p 47) (BA (AY p 47) 58) (AY (AY p 47) 58) (by first | omega | (simp;done) | (simp;omega) | (simp at *;omega) | (split<;>first | omega | (simp;omega))) (by first | omega | (simp;done) | (simp;omega) | (simp at *;omega) | (split<;>first | omega | (simp;omega))) (by first | omega | (simp;done) | (simp;omega) | (simp at *;omega) | (split<;>first | omega | (simp;omega))) w (hE.st0 hw)) rfl ?_))))));have hk:=EL (BA p 47) (BA (AY p 47) 58) (AY (AY p 47) 58);refine Aa (Ac rfl) rfl (Aa (Ao rfl rfl) rfl (Aa (Ao rfl rfl) rfl (Aa (Ab rfl) rfl (Aa (Ab rfl) rfl (Ag (Ad (Af ?_)))))));refine Az [(2,.string (B ([]))),(3,.string (B ([]))),(4,.string (B ([]))),(5,.int .i64 (0)),(6,.string (B (BA p 47))),(9,.string (B (BA (AY p 47) 58))),(10,.string (B (AY (AY p 47) 58))),(39,.bool (((!(decide ((Gg (BA p 47) (BA (AY p 47) 58) (AY (AY p 47) 58))=(0))))||(!(decide (((EM (BA p 47) (BA (AY p 47) 58) (AY (AY p 47) 58)))=(p)))))))] [] (φ:=True) ?_ (λhl=>?_)
 ·refine Ae (Aa (Ac rfl) rfl (Aa (Dv rfl rfl) rfl (Aa (Ac rfl) rfl (A1 (!(decide ((Gg (BA p 47) (BA (AY p 47) 58) (AY (AY p 47) 58))=(0)))) (λha=>?_) (λha=>?_)))))
  ·have hc:=ha;try simp only[Kk,Kj] at hc
   have hd:=ha;try simp at hd
   refine Ah rfl rfl ha rfl (Ah rfl rfl ha rfl (Ah rfl rfl ha rfl (Aa (Al rfl ha rfl) rfl (Ag ?_))));exact Ad (As trivial ⟨rfl,rfl,rfl,rfl,rfl,rfl,rfl,fb (by first | (simp only[ha,Kr,Km,Kv,Kq,Ku,Ko,Kw,Ks,Kt,Kn,K1,Ky,K8,K3,reduceIte,Kl];done) | simp[ha]),trivial⟩ .slnil)
  ·have hc:=ha;try simp only[Kk,Kj] at hc
   have hd:=ha;try simp at hd
   refine Aj rfl rfl ha (Aa (Ac rfl) rfl (Aj rfl rfl ha (Aa (Ac rfl) rfl (Aj rfl rfl ha (Aa (Ce rfl rfl) rfl (Aa (Am rfl ha rfl) rfl (Ag ?_)))))));exact Ad (As trivial ⟨rfl,rfl,rfl,rfl,rfl,rfl,rfl,fb (by first | (simp only[ha,Kr,Km,Kv,Kq,Ku,Ko,Kw,Ks,Kt,Kn,K1,Ky,K8,K3,reduceIte,Kl];done) | simp[ha]),trivial⟩ .slnil)
 refine A0 (b:=((!(decide ((Gg (BA p 47) (BA (AY p 47) 58) (AY (AY p 47) 58))=(0))))||(!(decide (((EM (BA p 47) (BA (AY p 47) 58) (AY (AY p 47) 58)))=(p)))))) rfl (λhb=>?_) (λhb=>?_)
 ·have he:=hb;try simp only[Kk,Kj] at he
  have hf:=hb;try simp at hf
  refine Ai (Ae (Aa (Ab rfl) rfl (Aa (Ab rfl) rfl (Aa (Ab rfl) rfl (Aa (Ab rfl) rfl (Ag (Ad (Af ?_))))))));refine Aq (An (Ap (JU rfl rfl rfl rfl rfl) ?_));have hr:DB p=false:=by simp only[DB,II,IK,IJ];grind
  exact AB (by simp only[hr,CC,II,IK,IJ];rfl)
 ·have he:=hb;try simp only[Kk,Kj] at he
  have hf:=hb;try simp at hf
  refine Ax (Ad (Af ?_));refine Ai (Ae (Aa (Ac rfl) rfl (Aa (Ac rfl) rfl (Aa (Ac rfl) rfl (Aa (Ab rfl) rfl (Aa (Ab rfl) rfl (Aa (Ab rfl) rfl (Aa (Ab rfl) rfl (Ag (Ad (Af ?_)))))))))));refine Aq (Ap (JU rfl rfl rfl rfl rfl) ?_);have hr:DB p=true:=by simp only[DB,II,IK,IJ];grind
  exact AB (by simp only[hr,CC,II,IK,IJ];rfl)
theorem GB (p:List UInt8)(m:Int)(hp:p.length≤281474976710656)(w:World)(hE:Es w):Calls Tryd.prog 14 [.string (B (p)),.int .i64 (m)].toArray w (AQ w (.tuple #[.string (B (BX p m)),.int .i64 (Bj p m)])):=by
 refine A6 (n:=25) Tryd.func14 rfl Tryd.ntmps14 rfl (Ai (Ae (Aa (Ab rfl) rfl (Aa (Ab rfl) rfl (Ag (Ad (Af ?_)))))));refine Ai (Ai (Ae (Aa (Ac rfl) rfl (Ar Hp rfl (λw hw=>HO p w) rfl (Aa (Bb rfl) rfl (Ag (Ad (Af ?_))))))));refine A0 (b:=!(Hb p)) rfl (λhb=>?_) (λhb=>?_)
 ·have he:=hb;try simp only[Kk,Kj] at he
  have hf:=hb;try simp at hf
  refine Ai (Ae (Aa (Ab rfl) rfl (Aa (Ab rfl) rfl (Ag (Ad (Af ?_))))));refine Aq (An (Ap (H3 rfl rfl rfl) ?_));have e:Bj p m=4:=by simp only[Bj,BY];grind
  exact AB (by simp[BX,e,BY,B])
 ·have he:=hb;try simp only[Kk,Kj] at he
  have hf:=hb;try simp at hf
  refine Ax (Ad (Af ?_));refine Ai (Az [(0,.string (B (p))),(1,.int .i64 (m)),(4,.string (B ([]))),(5,.int .i64 (0)),(15,.bool (((decide ((m)<(0)))||(decide ((1000000000000)<(m))))))] [] (φ:=True) ?_ (λhm=>?_))
  ·refine Ae (Aa (Ac rfl) rfl (Aa (Dl rfl rfl) rfl (Aa (Ac rfl) rfl (A1 (decide ((m)<(0))) (λha=>?_) (λha=>?_)))))
   ·have hg:=ha;try simp only[Kk,Kj] at hg
    have hh:=ha;try simp at hh
    refine Ah rfl rfl ha rfl (Ah rfl rfl ha rfl (Aa (Al rfl ha rfl) rfl (Ag ?_)));exact Ad (As trivial ⟨rfl,rfl,rfl,rfl,fb (by first | (simp only[hb,ha,Kr,Km,Kv,Kq,Ku,Ko,Kw,Ks,Kt,Kn,K1,Ky,K8,K3,reduceIte,Kl];done) | simp[hb,ha]),trivial⟩ .slnil)
   ·have hg:=ha;try simp only[Kk,Kj] at hg
    have hh:=ha;try simp at hh
    refine Aj rfl rfl ha (Aa (Ac rfl) rfl (Aj rfl rfl ha (Aa (GS rfl rfl) rfl (Aa (Am rfl ha rfl) rfl (Ag ?_)))));exact Ad (As trivial ⟨rfl,rfl,rfl,rfl,fb (by first | (simp only[hb,ha,Kr,Km,Kv,Kq,Ku,Ko,Kw,Ks,Kt,Kn,K1,Ky,K8,K3,reduceIte,Kl];done) | simp[hb,ha]),trivial⟩ .slnil)
  refine A0 (b:=((decide ((m)<(0)))||(decide ((1000000000000)<(m))))) rfl (λhc=>?_) (λhc=>?_)
  ·have hi:=hc;try simp only[Kk,Kj] at hi
   have hj:=hc;try simp at hj
   refine Ai (Ae (Aa (Ab rfl) rfl (Aa (Ab rfl) rfl (Ag (Ad (Af ?_))))));refine Aq (An (Ap (H3 rfl rfl rfl) ?_));have e:Bj p m=2:=by simp only[Bj,BY];grind
   exact AB (by simp[BX,e,BY,B])
  ·have hi:=hc;try simp only[Kk,Kj] at hi
   have hj:=hc;try simp at hj
   refine Ax (Ad (Af ?_));refine Ai (Ae (Aa (Ac rfl) rfl (Aa (CM rfl rfl (by simp;omega)) rfl (Aa (Ac rfl) rfl (Ar Tryd.call28 rfl (λw hw=>HV m (by omega) (by omega) w (hE.st0 hw)) rfl ?_)))));have hn:=HI m (by omega) (by omega);refine Aa (CM rfl rfl (by simp;omega)) rfl (Aa (Ab rfl) rfl (Ag (Ad (Af ?_))));refine Ai (Ai (Ae (Aa (Ac rfl) rfl (Aa (AE Cw rfl) rfl (Aa (GS rfl rfl) rfl (Ag (Ad (Af ?_))))))));refine A0 (b:=decide ((64)<((((p++[46])++(Lib.itoa m)).length:Int)))) rfl (λhd=>?_) (λhd=>?_)
   ·have hk:=hd;try simp only[Kk,Kj] at hk
    have hl:=hd;try simp at hl
    refine Ai (Ae (Aa (Ab rfl) rfl (Aa (Ab rfl) rfl (Ag (Ad (Af ?_))))));refine Aq (An (Ap (H3 rfl rfl rfl) ?_));have e:Bj p m=3:=by simp only[Bj,BY];grind
    exact AB (by simp[BX,e,BY,B])
   ·have hk:=hd;try simp only[Kk,Kj] at hk
    have hl:=hd;try simp at hl
    refine Ax (Ad (Af ?_));refine Ai (Ae (Aa (Ac rfl) rfl (Aa (Ab rfl) rfl (Aa (Ab rfl) rfl (Ag (Ad (Af ?_)))))));refine Aq (Ap (H3 rfl rfl rfl) ?_);have e:Bj p m=0:=by simp only[Bj,BY];grind
    exact AB (by simp[BX,e,BY,B])
theorem EO (p:List UInt8)(hp:p.length≤281474976710656)(w:World)(hE:Es w):Calls Tryd.prog 15 [.string (B (p))].toArray w (AQ w (.tuple #[.string (B (CC (Cd p) (Dk p))),.int .i64 ((if Cd p=true then AG (Du p) else(0:Int))),.bool (Cd p)])):=by
 refine A6 (n:=43) Tryd.func15 rfl Tryd.ntmps15 rfl (Ai (Ae (Aa (Ab rfl) rfl (Aa (Ab rfl) rfl (Aa (Ab rfl) rfl (Ag (Ad (Af ?_))))))));refine Ai (Ae (Aa (Ac rfl) rfl (Ar Tryd.call29 rfl (λw hw=>Jn p (46:Int) (by first | omega | (simp;done) | (simp;omega) | (simp at *;omega)) w) rfl ?_)));have hm:=HD p 46;refine Aa (Ab rfl) rfl (Ag (Ad (Af ?_)));refine Ai (Ai (Ae (Aa (Ac rfl) rfl (Aa (Dl rfl rfl) rfl (Ag (Ad (Af ?_)))))));refine A0 (b:=decide ((AF p 46)<(0))) rfl (λhb=>?_) (λhb=>?_)
 ·have he:=hb;try simp only[Kk,Kj] at he
  have hf:=hb;try simp at hf
  refine Ai (Ae (Aa (Ab rfl) rfl (Aa (Ab rfl) rfl (Aa (Ab rfl) rfl (Ag (Ad (Af ?_)))))));refine Aq (An (Ap (IH rfl rfl rfl rfl) ?_));have hr:Cd p=false:=by simp only[Cd,Dk,Du];grind
  exact AB (by simp only[hr,CC,Dk,Du];rfl)
 ·have he:=hb;try simp only[Kk,Kj] at he
  have hf:=hb;try simp at hf
  refine Ax (Ad (Af ?_));refine Ai (Ae (Aa (Ac rfl) rfl (Aa (Ac rfl) rfl (Aa (C3 rfl rfl (IntWalk.i64_in _ (by omega))) rfl (Aa (BK Cw rfl rfl (by first | omega | (simp;omega)) (by first | omega | (simp;omega))) rfl (Ar Tryd.call30 rfl (λw hw=>Gz (List.drop (Int.toNat ((AF p 46)+1)) p) (by first | omega | (simp;done) | (simp;omega) | (simp at *;omega)) w (hE.st0 hw)) rfl ?_))))));have hn:=EN (List.drop (Int.toNat ((AF p 46)+1)) p);refine Aa (Ac rfl) rfl (Aa (Ao rfl rfl) rfl (Aa (Ao rfl rfl) rfl (Aa (Ab rfl) rfl (Aa (Ab rfl) rfl (Ag (Ad (Af ?_)))))));refine Ai (Ai (Ae (Aa (Ac rfl) rfl (Aa (Dv rfl rfl) rfl (Ag (Ad (Af ?_)))))));refine A0 (b:=!(decide ((BV (List.drop (Int.toNat ((AF p 46)+1)) p))=(0)))) rfl (λhc=>?_) (λhc=>?_)
  ·have hg:=hc;try simp only[Kk,Kj] at hg
   have hh:=hc;try simp at hh
   refine Ai (Ae (Aa (Ab rfl) rfl (Aa (Ab rfl) rfl (Aa (Ab rfl) rfl (Ag (Ad (Af ?_)))))));refine Aq (An (Ap (IH rfl rfl rfl rfl) ?_));have hr:Cd p=false:=by simp only[Cd,Dk,Du];grind
   exact AB (by simp only[hr,CC,Dk,Du];rfl)
  ·have hg:=hc;try simp only[Kk,Kj] at hg
   have hh:=hc;try simp at hh
   refine Ax (Ad (Af ?_));refine Ai (Ai (Ae (Aa (Ac rfl) rfl (Aa (Ac rfl) rfl (Aa (Bz Cw rfl rfl (by first | omega | (simp;omega)) (by first | omega | (simp;omega))) rfl (Aa (Ac rfl) rfl (Ar Tryd.call14 rfl (λw hw=>GB (List.take (Int.toNat (AF p 46)) p) (AG (List.drop (Int.toNat ((AF p 46)+1)) p)) (by first | omega | (simp;done) | (simp;omega) | (simp at *;omega) | (split<;>first | omega | (simp;omega))) w (hE.st0 hw)) rfl ?_)))))));have ho:=DK (List.take (Int.toNat (AF p 46)) p) (AG (List.drop (Int.toNat ((AF p 46)+1)) p));refine Aa (Ac rfl) rfl (Aa (Ao rfl rfl) rfl (Aa (Ao rfl rfl) rfl (Aa (Ab rfl) rfl (Aa (Ab rfl) rfl (Ag (Ad (Af ?_)))))));refine Az [(0,.string (B (p))),(2,.string (B ([]))),(3,.int .i64 (0)),(4,.bool (false)),(5,.int .i64 (AF p 46)),(6,.int .i64 (AG (List.drop (Int.toNat ((AF p 46)+1)) p))),(38,.bool (((!(decide ((Bj (List.take (Int.toNat (AF p 46)) p) (AG (List.drop (Int.toNat ((AF p 46)+1)) p)))=(0))))||(!(decide (((BX (List.take (Int.toNat (AF p 46)) p) (AG (List.drop (Int.toNat ((AF p 46)+1)) p))))=(p)))))))] [] (φ:=True) ?_ (λhq=>?_)
   ·refine Ae (Aa (Ac rfl) rfl (Aa (Dv rfl rfl) rfl (Aa (Ac rfl) rfl (A1 (!(decide ((Bj (List.take (Int.toNat (AF p 46)) p) (AG (List.drop (Int.toNat ((AF p 46)+1)) p)))=(0)))) (λha=>?_) (λha=>?_)))))
    ·have hi:=ha;try simp only[Kk,Kj] at hi
     have hj:=ha;try simp at hj
     refine Ah rfl rfl ha rfl (Ah rfl rfl ha rfl (Ah rfl rfl ha rfl (Aa (Al rfl ha rfl) rfl (Ag ?_))));exact Ad (As trivial ⟨rfl,rfl,rfl,rfl,rfl,rfl,fb (by first | (simp only[hb,hc,ha,Kr,Km,Kv,Kq,Ku,Ko,Kw,Ks,Kt,Kn,K1,Ky,K8,K3,reduceIte,Kl];done) | simp[hb,hc,ha]),trivial⟩ .slnil)
    ·have hi:=ha;try simp only[Kk,Kj] at hi
     have hj:=ha;try simp at hj
     refine Aj rfl rfl ha (Aa (Ac rfl) rfl (Aj rfl rfl ha (Aa (Ac rfl) rfl (Aj rfl rfl ha (Aa (Ce rfl rfl) rfl (Aa (Am rfl ha rfl) rfl (Ag ?_)))))));exact Ad (As trivial ⟨rfl,rfl,rfl,rfl,rfl,rfl,fb (by first | (simp only[hb,hc,ha,Kr,Km,Kv,Kq,Ku,Ko,Kw,Ks,Kt,Kn,K1,Ky,K8,K3,reduceIte,Kl];done) | simp[hb,hc,ha]),trivial⟩ .slnil)
   refine A0 (b:=((!(decide ((Bj (List.take (Int.toNat (AF p 46)) p) (AG (List.drop (Int.toNat ((AF p 46)+1)) p)))=(0))))||(!(decide (((BX (List.take (Int.toNat (AF p 46)) p) (AG (List.drop (Int.toNat ((AF p 46)+1)) p))))=(p)))))) rfl (λhd=>?_) (λhd=>?_)
   ·have hk:=hd;try simp only[Kk,Kj] at hk
    have hl:=hd;try simp at hl
    refine Ai (Ae (Aa (Ab rfl) rfl (Aa (Ab rfl) rfl (Aa (Ab rfl) rfl (Ag (Ad (Af ?_)))))));refine Aq (An (Ap (IH rfl rfl rfl rfl) ?_));have hr:Cd p=false:=by simp only[Cd,Dk,Du];grind
    exact AB (by simp only[hr,CC,Dk,Du];rfl)
   ·have hk:=hd;try simp only[Kk,Kj] at hk
    have hl:=hd;try simp at hl
    refine Ax (Ad (Af ?_));refine Ai (Ae (Aa (Ac rfl) rfl (Aa (Ac rfl) rfl (Aa (Bz Cw rfl rfl (by first | omega | (simp;omega)) (by first | omega | (simp;omega))) rfl (Aa (Ac rfl) rfl (Aa (Ab rfl) rfl (Aa (Ab rfl) rfl (Aa (Ab rfl) rfl (Ag (Ad (Af ?_)))))))))));refine Aq (Ap (IH rfl rfl rfl rfl) ?_);have hr:Cd p=true:=by simp only[Cd,Dk,Du];grind
    exact AB (by simp only[hr,CC,Dk,Du];rfl)
theorem E1 (p:List UInt8)(hp:p.length≤281474976710656)(w:World):Calls Tryd.prog 32 [.string (B (p))].toArray w (AQ w (.bool (AP p [42]))):=by
 refine A6 (n:=5) Tryd.func32 rfl Tryd.ntmps32 rfl (Ai (Ae (Aa (Ab rfl) rfl (Ag (Ad (Af ?_))))));refine Ai (Ae (Aa (Ac rfl) rfl (Ar Tryd.call44 rfl (λw hw=>HQ p ([42]:List UInt8) (by first | omega | (simp;omega)) w) rfl (Aa (Ab rfl) rfl (Ag (Ad (Af ?_)))))));refine Aq (Ap (B3 rfl rfl) ?_);exact AB (by first | rfl | simp[])
theorem DA (p:List UInt8)(hp:p.length≤281474976710656)(w:World):Calls Tryd.prog 31 [.string (B (p))].toArray w (AQ w (.string (B (AT p [42])))):=by
 refine A6 (n:=5) Tryd.func31 rfl Tryd.ntmps31 rfl (Ai (Ae (Aa (Ab rfl) rfl (Ag (Ad (Af ?_))))));refine Ai (Ae (Aa (Ac rfl) rfl (Ar Tryd.call43 rfl (λw hw=>GK p ([42]:List UInt8) (by first | omega | (simp;omega)) w) rfl (Aa (Ab rfl) rfl (Ag (Ad (Af ?_)))))));refine Aq (Ap (B3 rfl rfl) ?_);exact AB (by first | rfl | simp[])
theorem Cc (p:List UInt8)(hp:p.length≤281474976710656)(w:World):Calls Tryd.prog 16 [.string (B (p))].toArray w (AQ w (.bool (Dt p))):=by
 refine A6 (n:=23) Tryd.func16 rfl Tryd.ntmps16 rfl (Ai (Ae (Aa (Ab rfl) rfl (Ag (Ad (Af ?_))))));refine Az [(2,.bool (((Hb p)||((decide ((p)=(([42]:List UInt8))))||((Hb (AT p [42]))&&((AP p [42])&&(decide (((p.length:Int))≤(64)))))))))] [] (φ:=True) ?_ (λhk=>?_)
 ·refine Ae (Aa (Ac rfl) rfl (Ar Hp rfl (λw hw=>HO p w) rfl (Aa (Ac rfl) rfl (A1 (Hb p) (λhb=>?_) (λhb=>?_)))))
  ·have he:=hb;try simp only[Kk,Kj] at he
   have f109:=hb;try simp at f109
   refine Ah rfl rfl hb rfl (Ah rfl rfl hb rfl (Aa (Al rfl hb rfl) rfl (Aa (Ac rfl) rfl (Ah rfl rfl rfl rfl (Ah rfl rfl rfl rfl (Ah rfl rfl rfl rfl (Ah rfl rfl rfl rfl (At rfl rfl rfl (At rfl rfl rfl (Ah rfl rfl rfl rfl (Ah rfl rfl rfl rfl (At rfl rfl rfl (At rfl rfl rfl (At rfl rfl rfl (Ah rfl rfl rfl rfl (Aa (Al rfl rfl rfl) rfl (Aa (Ab rfl) rfl (Ag ?_))))))))))))))))));exact Ad (As trivial ⟨fb (by first | (simp only[hb,Kr,Km,Kv,Kq,Ku,Ko,Kw,Ks,Kt,Kn,K1,Ky,K8,K3,reduceIte,Kl];done) | simp[hb]),trivial⟩ .slnil)
  ·have he:=hb;try simp only[Kk,Kj] at he
   have f109:=hb;try simp at f109
   refine Aj rfl rfl hb (Aa (Ac rfl) rfl (Aj rfl rfl hb (Aa (CU rfl rfl) rfl (Aa (Am rfl hb rfl) rfl (Aa (Ac rfl) rfl (A1 (decide ((p)=(([42]:List UInt8)))) (λha=>?_) (λha=>?_)))))))
   ·have hf:=ha;try simp only[Kk,Kj] at hf
    have f110:=ha;try simp at f110
    refine Ah rfl rfl ha rfl (Ah rfl rfl ha rfl (Ah rfl rfl ha rfl (Ah rfl rfl ha rfl (At rfl rfl rfl (At rfl rfl rfl (Ah rfl rfl ha rfl (Ah rfl rfl ha rfl (At rfl rfl rfl (At rfl rfl rfl (At rfl rfl rfl (Ah rfl rfl ha rfl (Aa (Al rfl ha rfl) rfl (Aa (Ab rfl) rfl (Ag ?_))))))))))))));exact Ad (As trivial ⟨fb (by first | (simp only[hb,ha,Kr,Km,Kv,Kq,Ku,Ko,Kw,Ks,Kt,Kn,K1,Ky,K8,K3,reduceIte,Kl];done) | simp[hb,ha]),trivial⟩ .slnil)
   ·have hf:=ha;try simp only[Kk,Kj] at hf
    have f110:=ha;try simp at f110
    refine Aj rfl rfl ha (Aa (Ac rfl) rfl (Aj rfl rfl ha (Ar Tryd.call31 rfl (λw hw=>DA p (by first | omega | (simp;done) | (simp;omega) | (simp at *;omega) | (split<;>first | omega | (simp;omega))) w) rfl ?_)));have hl:=C1 p [42];refine Aj rfl rfl ha (Ar Hp rfl (λw hw=>HO (AT p [42]) w) rfl (Aj rfl rfl ha (Aa (Ac rfl) rfl (A1 (Hb (AT p [42])) (λhc=>?_) (λhc=>?_)))))
    ·have hg:=hc;try simp only[Kk,Kj] at hg
     have hh:=hc;try simp at hh
     refine Aj rfl rfl hc (Aa (Ac rfl) rfl (Aj rfl rfl hc (Ar Tryd.call32 rfl (λw hw=>E1 p (by first | omega | (simp;done) | (simp;omega) | (simp at *;omega) | (split<;>first | omega | (simp;omega))) w) rfl (Aj rfl rfl ha (Aa (Al rfl hc rfl) rfl (Aj rfl rfl ha (Aa (Ac rfl) rfl (A1 (AP p [42]) (λhd=>?_) (λhd=>?_)))))))))
     ·have hi:=hd;try simp only[Kk,Kj] at hi
      have hj:=hd;try simp at hj
      refine Aj rfl rfl hd (Aa (Ac rfl) rfl (Aj rfl rfl hd (Aa (AE Cw rfl) rfl (Aj rfl rfl hd (Aa (DR rfl rfl) rfl (Aj rfl rfl ha (Aa (Al rfl hd rfl) rfl (Aa (Am rfl ha rfl) rfl (Aa (Ab rfl) rfl (Ag ?_))))))))));exact Ad (As trivial ⟨fb (by first | (simp only[hb,ha,hc,hd,Kr,Km,Kv,Kq,Ku,Ko,Kw,Ks,Kt,Kn,K1,Ky,K8,K3,reduceIte,Kl];done) | simp[hb,ha,hc,hd]),trivial⟩ .slnil)
     ·have hi:=hd;try simp only[Kk,Kj] at hi
      have hj:=hd;try simp at hj
      refine Ah rfl rfl hd rfl (Ah rfl rfl hd rfl (Ah rfl rfl hd rfl (Aj rfl rfl ha (Aa (Am rfl hd rfl) rfl (Aa (Am rfl ha rfl) rfl (Aa (Ab rfl) rfl (Ag ?_)))))));exact Ad (As trivial ⟨fb (by first | (simp only[hb,ha,hc,hd,Kr,Km,Kv,Kq,Ku,Ko,Kw,Ks,Kt,Kn,K1,Ky,K8,K3,reduceIte,Kl];done) | simp[hb,ha,hc,hd]),trivial⟩ .slnil)
    ·have hg:=hc;try simp only[Kk,Kj] at hg
     have hh:=hc;try simp at hh
     refine Ah rfl rfl hc rfl (Ah rfl rfl hc rfl (Aj rfl rfl ha (Aa (Am rfl hc rfl) rfl (Aj rfl rfl ha (Aa (Ac rfl) rfl (Ah rfl rfl rfl rfl (Ah rfl rfl rfl rfl (Ah rfl rfl rfl rfl (Aj rfl rfl ha (Aa (Am rfl rfl rfl) rfl (Aa (Am rfl ha rfl) rfl (Aa (Ab rfl) rfl (Ag ?_)))))))))))));exact Ad (As trivial ⟨fb (by first | (simp only[hb,ha,hc,Kr,Km,Kv,Kq,Ku,Ko,Kw,Ks,Kt,Kn,K1,Ky,K8,K3,reduceIte,Kl];done) | simp[hb,ha,hc]),trivial⟩ .slnil)
 refine Aq (Ap (B3 rfl rfl) ?_);exact AB (by first | rfl | simp[Dt])
theorem Ee (p:List UInt8)(s:List UInt8)(hp:p.length≤281474976710656)(hs:s.length≤281474976710656)(w:World):Calls Tryd.prog 17 [.string (B (p)),.string (B (s))].toArray w (AQ w (.bool (H9 p s))):=by
 refine A6 (n:=17) Tryd.func17 rfl Tryd.ntmps17 rfl (Ai (Ae (Aa (Ab rfl) rfl (Ag (Ad (Af ?_))))));refine Ai (Ai (Ae (Aa (Ac rfl) rfl (Ar Hn rfl (λw hw=>Cc p (by first | omega | (simp;done) | (simp;omega) | (simp at *;omega) | (split<;>first | omega | (simp;omega))) w) rfl (Aa (Bb rfl) rfl (Ag (Ad (Af ?_))))))));refine A0 (b:=!(Dt p)) rfl (λhb=>?_) (λhb=>?_)
 ·have he:=hb;try simp only[Kk,Kj] at he
  have ha:=hb;try simp only[Kk,Kj,K0,K6,KC,KE,KA,K7,not_or,Int.not_lt,Int.not_le] at ha
  refine Ai (Ae (Aa (Ab rfl) rfl (Ag (Ad (Af ?_)))));refine Aq (An (Ap (B3 rfl rfl) ?_));exact AB (by simp[H9,ha])
 ·have he:=hb;try simp only[Kk,Kj] at he
  have ha:=hb;try simp only[Kk,Kj,K0,K6,KC,KE,KA,K7,not_or,Int.not_lt,Int.not_le] at ha
  refine Ax (Ad (Af ?_));refine Ai (Ai (Ae (Aa (Ac rfl) rfl (Ar Tryd.call32 rfl (λw hw=>E1 p (by first | omega | (simp;done) | (simp;omega) | (simp at *;omega) | (split<;>first | omega | (simp;omega))) w) rfl (Ag (Ad (Af ?_)))))));refine A0 (b:=AP p [42]) rfl (λhc=>?_) (λhc=>?_)
  ·have hf:=hc;try simp only[Kk,Kj] at hf
   have hd:=hc;try simp only[Kk,Kj,K0,K6,KC,KE,KA,K7,not_or,Int.not_lt,Int.not_le] at hd
   refine Ai (Ae (Aa (Ac rfl) rfl (Aa (Ac rfl) rfl (Ar Tryd.call31 rfl (λw hw=>DA p (by first | omega | (simp;done) | (simp;omega) | (simp at *;omega) | (split<;>first | omega | (simp;omega))) w) rfl ?_))));have hg:=C1 p [42];refine Ar Tryd.call33 rfl (λw hw=>HR s (AT p [42]) (by first | omega | (simp;omega)) w) rfl (Aa (Ab rfl) rfl (Ag (Ad (Af ?_))));refine Aq (An (Ap (B3 rfl rfl) ?_));exact AB (by simp[H9,ha,hd])
  ·have hf:=hc;try simp only[Kk,Kj] at hf
   have hd:=hc;try simp only[Kk,Kj,K0,K6,KC,KE,KA,K7,not_or,Int.not_lt,Int.not_le] at hd
   refine Ax (Ad (Af ?_));refine Ai (Ae (Aa (Ac rfl) rfl (Aa (Ac rfl) rfl (Aa (CU rfl rfl) rfl (Aa (Ab rfl) rfl (Ag (Ad (Af ?_))))))));refine Aq (Ap (B3 rfl rfl) ?_);exact AB (by simp[H9,ha,hd])
theorem EW (p:List UInt8)(q:List UInt8)(hp:p.length≤281474976710656)(hq:q.length≤281474976710656)(w:World):Calls Tryd.prog 18 [.string (B (p)),.string (B (q))].toArray w (AQ w (.bool (J1 p q))):=by
 refine A6 (n:=26) Tryd.func18 rfl Tryd.ntmps18 rfl (Ai (Ae (Aa (Ab rfl) rfl (Ag (Ad (Af ?_))))));refine Ai (Az [(0,.string (B (p))),(1,.string (B (q))),(4,.bool (false)),(21,.bool (((!(Dt p))||((!(Dt q))||((AP q [42])&&(!(AP p [42])))))))] [] (φ:=True) ?_ (λhm=>?_))
 ·refine Ae (Aa (Ac rfl) rfl (Ar Hn rfl (λw hw=>Cc p (by first | omega | (simp;done) | (simp;omega) | (simp at *;omega) | (split<;>first | omega | (simp;omega))) w) rfl (Aa (Bb rfl) rfl (Aa (Ac rfl) rfl (A1 (!(Dt p)) (λhb=>?_) (λhb=>?_))))))
  ·have he:=hb;try simp only[Kk,Kj] at he
   have hf:=hb;try simp at hf
   refine Ah rfl rfl hb rfl (Ah rfl rfl hb rfl (Ah rfl rfl hb rfl (Aa (Al rfl hb rfl) rfl (Aa (Ac rfl) rfl (Ah rfl rfl rfl rfl (Ah rfl rfl rfl rfl (Ah rfl rfl rfl rfl (At rfl rfl rfl (At rfl rfl rfl (At rfl rfl rfl (Ah rfl rfl rfl rfl (Aa (Al rfl rfl rfl) rfl (Ag ?_)))))))))))));exact Ad (As trivial ⟨rfl,rfl,rfl,fb (by first | (simp only[hb,Kr,Km,Kv,Kq,Ku,Ko,Kw,Ks,Kt,Kn,K1,Ky,K8,K3,reduceIte,Kl];done) | simp[hb]),trivial⟩ .slnil)
  ·have he:=hb;try simp only[Kk,Kj] at he
   have hf:=hb;try simp at hf
   refine Aj rfl rfl hb (Aa (Ac rfl) rfl (Aj rfl rfl hb (Ar Hn rfl (λw hw=>Cc q (by first | omega | (simp;done) | (simp;omega) | (simp at *;omega) | (split<;>first | omega | (simp;omega))) w) rfl (Aj rfl rfl hb (Aa (Bb rfl) rfl (Aa (Am rfl hb rfl) rfl (Aa (Ac rfl) rfl (A1 (!(Dt q)) (λha=>?_) (λha=>?_)))))))))
   ·have hg:=ha;try simp only[Kk,Kj] at hg
    have hh:=ha;try simp at hh
    refine Ah rfl rfl ha rfl (Ah rfl rfl ha rfl (Ah rfl rfl ha rfl (At rfl rfl rfl (At rfl rfl rfl (At rfl rfl rfl (Ah rfl rfl ha rfl (Aa (Al rfl ha rfl) rfl (Ag ?_))))))));exact Ad (As trivial ⟨rfl,rfl,rfl,fb (by first | (simp only[hb,ha,Kr,Km,Kv,Kq,Ku,Ko,Kw,Ks,Kt,Kn,K1,Ky,K8,K3,reduceIte,Kl];done) | simp[hb,ha]),trivial⟩ .slnil)
   ·have hg:=ha;try simp only[Kk,Kj] at hg
    have hh:=ha;try simp at hh
    refine Aj rfl rfl ha (Aa (Ac rfl) rfl (Aj rfl rfl ha (Ar Tryd.call32 rfl (λw hw=>E1 q (by first | omega | (simp;done) | (simp;omega) | (simp at *;omega) | (split<;>first | omega | (simp;omega))) w) rfl (Aj rfl rfl ha (Aa (Ac rfl) rfl (A1 (AP q [42]) (λhc=>?_) (λhc=>?_)))))))
    ·have hi:=hc;try simp only[Kk,Kj] at hi
     have hj:=hc;try simp at hj
     refine Aj rfl rfl hc (Aa (Ac rfl) rfl (Aj rfl rfl hc (Ar Tryd.call32 rfl (λw hw=>E1 p (by first | omega | (simp;done) | (simp;omega) | (simp at *;omega) | (split<;>first | omega | (simp;omega))) w) rfl (Aj rfl rfl hc (Aa (Bb rfl) rfl (Aj rfl rfl ha (Aa (Al rfl hc rfl) rfl (Aa (Am rfl ha rfl) rfl (Ag ?_)))))))));exact Ad (As trivial ⟨rfl,rfl,rfl,fb (by first | (simp only[hb,ha,hc,Kr,Km,Kv,Kq,Ku,Ko,Kw,Ks,Kt,Kn,K1,Ky,K8,K3,reduceIte,Kl];done) | simp[hb,ha,hc]),trivial⟩ .slnil)
    ·have hi:=hc;try simp only[Kk,Kj] at hi
     have hj:=hc;try simp at hj
     refine Ah rfl rfl hc rfl (Ah rfl rfl hc rfl (Ah rfl rfl hc rfl (Aj rfl rfl ha (Aa (Am rfl hc rfl) rfl (Aa (Am rfl ha rfl) rfl (Ag ?_))))));exact Ad (As trivial ⟨rfl,rfl,rfl,fb (by first | (simp only[hb,ha,hc,Kr,Km,Kv,Kq,Ku,Ko,Kw,Ks,Kt,Kn,K1,Ky,K8,K3,reduceIte,Kl];done) | simp[hb,ha,hc]),trivial⟩ .slnil)
 refine A0 (b:=((!(Dt p))||((!(Dt q))||((AP q [42])&&(!(AP p [42])))))) rfl (λhd=>?_) (λhd=>?_)
 ·have hk:=hd;try simp only[Kk,Kj] at hk
  have hl:=hd;try simp at hl
  refine Ai (Ae (Aa (Ab rfl) rfl (Ag (Ad (Af ?_)))));refine Aq (An (Ap (B3 rfl rfl) ?_));exact AB (by simp only[J1];grind)
 ·have hk:=hd;try simp only[Kk,Kj] at hk
  have hl:=hd;try simp at hl
  refine Ax (Ad (Af ?_));refine Ai (Ae (Aa (Ac rfl) rfl (Aa (Ac rfl) rfl (Ar Tryd.call31 rfl (λw hw=>DA q (by first | omega | (simp;done) | (simp;omega) | (simp at *;omega) | (split<;>first | omega | (simp;omega))) w) rfl ?_))));have hn:=C1 q [42];refine Ar Tryd.call17 rfl (λw hw=>Ee p (AT q [42]) (by first | omega | (simp;done) | (simp;omega) | (simp at *;omega) | (split<;>first | omega | (simp;omega))) (by first | omega | (simp;done) | (simp;omega) | (simp at *;omega) | (split<;>first | omega | (simp;omega))) w) rfl (Aa (Ab rfl) rfl (Ag (Ad (Af ?_))));refine Aq (Ap (B3 rfl rfl) ?_);exact AB (by simp only[J1];grind)
end Go.Proofs.YthjcjnbngagagaaDoor
namespace Go.Proofs
open Go.Shelf
end Go.Proofs
namespace Go.Proofs.YthjcjnbngagagaaDoor
open Go
set_option linter.unusedVariables false
set_option linter.unusedSimpArgs false
open Go Go.RowKit
section
variable {P : Program} {n : Nat} {w0 : World} {M : List Nat} {l : Fr} {H : List Ent} {d : Option Nat} {x y : Operand} {ty t t' : TypeId} {pos : String} {af : Array Edge} {g : Option (Nat × Bool)} {k : IntKind} {p q z : Int}
end
set_option maxRecDepth 100000
end Go.Proofs.YthjcjnbngagagaaDoor
namespace Go.Proofs.YthjcjnbngagagaaDoor.Q
open Go Go.RowKit
set_option linter.unusedVariables false
def GE (Z:Fz):Prop:=∀w,Ii Z w→Es w
theorem GE.mono {Z Z':Fz}(h:Fz.le Z Z')(hg:GE Z):GE Z':=λw hw=>hg w (λb o e=>hw b o (h b o e))
set_option linter.unusedSimpArgs false
theorem DY (l:List UInt8):((Hl l).map Db).flatten=(l.map λc=>Value.int .u8 c.toNat).map rv:=by
 induction l with
 | nil=>rfl
 | cons c r ih=>simp only[Hl,List.map_cons,List.flatten_cons] at ih ⊢;rw[ih];rfl
theorem Gv (l:List UInt8):(Hl l).length=l.length:=by simp[Hl]
section
variable {P : Program} {n : Nat} {c : Cx} {ops : Array Oper} {Q : Exit → Act → World → Prop} {rest : List Oper} {l : Fr} {H H' : List Ent} {d : Nat} {d' : Option Nat} {x y z3 : Operand} {ty t t' e : TypeId} {pos : String} {af : Array Edge} {g : Option (Nat × Bool)} {v u : Value} {r : Rp} {sz : Nat} {K : Act → World → Prop}
theorem Fn.bld {E:Fz→Prop}{f:FuncId}{args:List Rp}{T te:TypeId}{b:Nat}{v:Value}{s s':List UInt8}{res:Rp}
  (h:∀p,(p = .pointer none∨p = .pointer (some ⟨b,0,none⟩))→Fn P E f args [.blk b [rv p,rv v] T,.row v te 1 ((Hl s).map Db)] (λR H=>∃w0:Value,R=res∧H=[.blk b [rv (.pointer (some ⟨b,0,none⟩)),rv w0] T,.row w0 te 1 ((Hl s').map Db)])) :
  Fn P E f args [.bld T te b v s] (λR H=>∃w0:Value,R=res∧H=[.bld T te b w0 s']):=λw Z vs hv hs=>by
 obtain⟨p,hp,h1,h2,h3⟩:=hs.has _ (List.mem_singleton.2 rfl);have hfoot:[Ent.bld T te b v s].flatMap Ent.foot=[Ent.blk b [rv p,rv v] T,Ent.row v te 1 ((Hl s).map Db)].flatMap Ent.foot:=by simp[Ent.foot]
 have hs':St ⟨w,Z,[Ent.blk b [rv p,rv v] T,Ent.row v te 1 ((Hl s).map Db)].flatMap Ent.foot,E⟩ [Ent.blk b [rv p,rv v] T,Ent.row v te 1 ((Hl s).map Db)] Z w:=by
  refine⟨rfl,rfl,rfl,KF _,λ_ _ _=>rfl,?_,λe he k hk=>.inr (List.mem_flatMap.2 ⟨e,he,hk⟩),?_,hs.frz,Fz.le.refl _,λ_ _ e=>.inl e,λe he k hk=>?_,hs.env,hs.emono⟩
  ·intro e he;simp only[List.mem_cons,List.not_mem_nil,or_false] at he;rcases he with rfl | rfl
   ·exact⟨[p,v],h1,rfl,rfl,trivial⟩
   ·refine⟨λcl hcl=>by obtain⟨z,_,rfl⟩:=List.mem_map.1 hcl;rfl,_,by simpa[Gv] using h2,?_⟩;rw[DY];exact Aw.rvs Z _
  ·refine List.pairwise_cons.2 ⟨λe he k hk hk'=>?_,List.pairwise_singleton ..⟩;simp only[K4] at he;subst he;simp only[Ent.foot,K4] at hk;subst hk;simp only[Ent.foot,Option.mem_toList] at hk';exact h3 hk'
  ·have hmem:k∈[Ent.bld T te b v s].flatMap Ent.foot:=by rw[hfoot];exact List.mem_flatMap.2 ⟨e,he,hk⟩
   obtain⟨e',he',hk'⟩:=List.mem_flatMap.1 hmem;exact hs.zdis e' he' k hk'
 rw[hfoot] at hs ⊢;refine(h p hp w Z vs hv hs').mono λe w' ⟨R,vv,H,Z',he,⟨w0,hR,hH⟩,hpR,ht⟩=>⟨R,vv,[.bld T te b w0 s'],Z',he,⟨w0,hR,rfl⟩,hpR,?_⟩
 subst hH;obtain⟨us,k1,k2⟩:=ht.has (.blk b [rv (.pointer (some ⟨b,0,none⟩)),rv w0] T) (by simp);obtain⟨k3,ws,k4,k5⟩:=ht.has (.row w0 te 1 ((Hl s').map Db)) (by simp);have e1:=Aw.eq_rv (us:=[.pointer (some ⟨b,0,none⟩),w0]) k2;subst e1;rw[DY] at k5;have e2:=Aw.eq_rv k5;subst e2;have hd:=List.pairwise_cons.1 ht.dis;have hne:w0.ownBlock≠some b:=λhb=>hd.1 _ (List.mem_singleton.2 rfl) b (by simp[Ent.foot]) (by simp[Ent.foot,hb]);refine { ht with has:=?_,own:=?_,dis:=List.pairwise_singleton ..,zdis:=?_ }
 ·intro e' he';simp only[K4] at he';subst he';exact⟨_,.inr rfl,k1,by simpa[Gv] using k4,hne⟩
 ·intro e' he' k hk;simp only[K4] at he';subst he';simp only[Ent.foot,List.mem_cons] at hk;rcases hk with rfl | hk
  ·exact ht.own (.blk k [rv (.pointer (some ⟨k,0,none⟩)),rv w0] T) (by simp) k (by simp[Ent.foot])
  ·exact ht.own (.row w0 te 1 ((Hl s').map Db)) (by simp) k hk
 ·intro e' he' k hk;simp only[K4] at he';subst he';simp only[Ent.foot,List.mem_cons] at hk;rcases hk with rfl | hk
  ·exact ht.zdis (.blk k [rv (.pointer (some ⟨k,0,none⟩)),rv w0] T) (by simp) k (by simp[Ent.foot])
  ·exact ht.zdis (.row w0 te 1 ((Hl s').map Db)) (by simp) k hk
section
variable {P : Program} {n : Nat} {c : Cx} {l : Fr} {H : List Ent} {d' : Option Nat} {x : Operand} {ty t t' e : TypeId} {pos : String} {af : Array Edge} {g : Option (Nat × Bool)} {v : Value}
end
end
section
variable {P : Program} {n : Nat} {c : Cx} {ops : Array Oper} {Q : Exit → Act → World → Prop} {rest : List Oper} {l : Fr} {H : List Ent} {d : Nat} {ty : TypeId} {pos : String} {af : Array Edge} {r : Rp} {x y z3 : Operand}
theorem wo {d:Option Nat}{op:Op}{j dj:Nat}{want b:Bool}(hb:b=want)(h:WL P n c ops Q ({ dst:=d,op:=op,type:=ty,pos:=pos,after:=af,guard:=none }::rest) l H)(hj:Bl ops j=some dj:=by rfl)(hv:look l dj=some (rB b):=by rfl) :
  WL P n c ops Q ({ dst:=d,op:=op,type:=ty,pos:=pos,after:=af,guard:=some (j,want) }::rest) l H:=Aj hj hv hb h
theorem wf {op:Op}{j dj:Nat}{want b:Bool}(hb:b = !want)(h:WL P n c ops Q rest ((d,rv undef)::l) H)(hj:Bl ops j=some dj:=by rfl)(hv:look l dj=some (rB b):=by rfl)(hn:Nat.blt d n=true:=by rfl) :
  WL P n c ops Q ({ dst:=some d,op:=op,type:=ty,pos:=pos,after:=af,guard:=some (j,want) }::rest) l H:=Ah hj hv hb hn h
theorem wv {op:Op}(hr:A3 P n c l H { dst:=some d,op:=op,type:=ty,pos:=pos,after:=af,guard:=none } r)(h:WL P n c ops Q rest ((d,r)::l) H)(hn:Nat.blt d n=true:=by rfl):WL P n c ops Q ({ dst:=some d,op:=op,type:=ty,pos:=pos,after:=af,guard:=none }::rest) l H:=Aa hr hn h
theorem wm (h:ev l x=some r)(hk:WL P n c ops Q rest ((d,r)::l) H)(hn:Nat.blt d n=true:=by rfl):WL P n c ops Q ({ dst:=some d,op:=.move x,type:=ty,pos:=pos,after:=af,guard:=none }::rest) l H:=Aa (Ac h) hn hk
theorem wa (h:ev l x=some r)(hk:WL P n c ops Q rest ((d,r)::l) H)(hn:Nat.blt d n=true:=by rfl):WL P n c ops Q ({ dst:=some d,op:=.assign x,type:=ty,pos:=pos,after:=af,guard:=none }::rest) l H:=Aa (Ab h) hn hk
theorem Ka {b:Bool}(hc:ev l z3=some (rB b))(hb:b=true)(h:ev l x=some r)(hk:WL P n c ops Q rest ((d,r)::l) H)(hn:Nat.blt d n=true:=by rfl):WL P n c ops Q ({ dst:=some d,op:=.pick z3 x y,type:=ty,pos:=pos,after:=af,guard:=none }::rest) l H:=Aa (Al hc hb h) hn hk
theorem Kf {b:Bool}(hc:ev l z3=some (rB b))(hb:b=false)(h:ev l y=some r)(hk:WL P n c ops Q rest ((d,r)::l) H)(hn:Nat.blt d n=true:=by rfl):WL P n c ops Q ({ dst:=some d,op:=.pick z3 x y,type:=ty,pos:=pos,after:=af,guard:=none }::rest) l H:=Aa (Am hc hb h) hn hk
theorem JA {f:FuncId}{args:List Operand}{ats:Array TypeId}{rs:List Rp}(hcall:∀(as1:Array Value) (w:World),(callFunc f as1).run P w = .ok (.enter f as1) w)(hc:J8 P c.E f rs r)(hv:EB l args=some rs)(h:WL P n c ops Q rest ((d,r)::l) H)(hn:Nat.blt d n=true:=by rfl) :
  WL P n c ops Q ({ dst:=some d,op:=.call { callee:=.value (.func f),args:=args.toArray,argTypes:=ats },type:=ty,pos:=pos,after:=af,guard:=none }::rest) l H:=Eu hcall hv hc rfl hn h
theorem JS {f:FuncId}{args:List Operand}{ats:Array TypeId}{rs:List Rp}{Hin Hr:List Ent}{Φ:Rp→List Ent→Prop}(hcall:∀(as1:Array Value) (w:World),(callFunc f as1).run P w = .ok (.enter f as1) w)(hc:Fn P c.E f rs Hin Φ)(hv:EB l args=some rs)
  (hp:H.Perm (Hin++Hr)) (hn:Nat.blt d n=true) (h:∀r Ho,Φ r Ho→WL P n c ops Q rest ((d,r)::l) (Ho++Hr)) :
  WL P n c ops Q ({ dst:=some d,op:=.call { callee:=.value (.func f),args:=args.toArray,argTypes:=ats },type:=ty,pos:=pos,after:=af,guard:=none }::rest) l H:=Ar hcall hv hp hc hn h
theorem JO {p:Prop}(hp:p){K:Exit→Act→World→Prop}{l1:Fr}{H1:List Ent}(hl:p→A9 l1 l:=by intro hp;repeat (first | exact A9.nil | refine A9.c rfl ?_ | refine A9.c (by first | (simp only[hp];rfl) | simp[hp]) ?_))(hH:H1.Sublist H:=by repeat (first | exact sN | refine sC ?_ | refine sS ?_)):WK n c (Exit.then (J7 n c l1 H1) K .normal) l H:=Ad (As (hl hp) hH)
end
open Go Go.RowKit Go.ChangeShapes Go.Deep
def ZW (W:World):Fz:=λb=>W.heap[b]?
theorem ZW.frz (W:World):Ii (ZW W) W:=λ_ _ h=>h
def EZ (P:Program)(e:TypeId){α:Type}(enc:α→List Rp)(ok:α→Bool):Prop:=
 ∀{H:Type} {encH:TypeId×Value→H} {W:World} {sp:Nat→Bool} {held:Bool} {n:Nat} {cs:List Value} {x:DataW H×List MemPlace},DataW.trod encH P W 0 sp held n e cs=some x→∃y:α,ok y=true∧Aw (ZW W) (enc y) cs
section
variable {P : Program} {e t : TypeId}
theorem EZ.int {k:IntKind}{enc:Int→List Rp}(ht:P.underlying e=some (.int k))(he:∀n,enc n=[rI k n]):EZ P e enc (D2 k):=λh=>by
 obtain⟨n,rfl,_,hwf⟩:=DataW.trod_int ht h;exact⟨n,hwf,by rw[he];exact⟨rfl,trivial⟩⟩
theorem EZ.str {enc:Ay→List Rp}(ht:P.underlying e=some .string)(he:∀n,enc n=[rS n]):EZ P e enc JD:=λh=>by
 obtain⟨s,rfl,_,hl⟩:=DataW.trod_string ht h;exact⟨s.data.toList,K2 (by rw[Array.length_toList];exact hl),by rw[he];exact⟨congrArg Value.string (JY s),trivial⟩⟩
theorem EZ.bool {enc:Bool→List Rp}(ht:P.underlying e=some .bool)(he:∀n,enc n=[rB n]):EZ P e enc (λ_=>true):=λh=>by
 obtain⟨b,rfl,_⟩:=DataW.trod_bool ht h;exact⟨b,rfl,by rw[he];exact⟨rfl,trivial⟩⟩
theorem Ep {W:World}{a:Addr}{v:Value}(h:W.cell? a=some v):a.spot=none∧Cz (ZW W) a.block a.off=some v:=by
 unfold World.cell? at h;unfold Cz ZW
 cases hh:W.heap[a.block]? with
 | none=>rw[hh] at h;cases h
 | some o=>
  rw[hh] at h
  cases o with
  | cells cs t fz=>
   cases hs:a.spot with
   | none=>simp[hs] at h;exact⟨rfl,h⟩
   | some _=>simp[hs] at h
  | _=>simp at h
theorem EZ.slice {α:Type}[Inhabited α]{enc:α→List Rp}{ok:α→Bool}{sz:Nat}(ht:P.underlying t=some (.slice e))(hc:P.cellsOf e=sz)(hsz:0<sz)(h:EZ P e enc ok)(hlen:∀y,(enc y).length=sz){enc':List α→List Rp}(he:∀ys,enc' ys=[Bk sz (ys.map enc)]) :
  EZ P t enc' (λys=>ys.all ok&&decide (ys.length≤9223372036854775807)):=fun {H encH W sp held n cs x} hx=>by
 rcases open_slice ht hx with⟨rfl,_⟩ | ⟨a,len,cap,m,n',D,Pl,rfl,hb,hl,hm,hmm,_,hel⟩
 ·exact⟨[],by simp,by rw[he];exact⟨GF.nil sz _,trivial⟩⟩
 ·have hlm:len≤m:=by rw[hmm];split<;>omega
  have each:∀i,i<len→∃y:α,ok y=true∧∃cs',W.cells? 0 (a.add (i*sz)) sz=some cs'∧Aw (ZW W) (enc y) cs':=λi hi=>by
   obtain⟨cs',h1,h2⟩:=hel i (by omega);obtain⟨y,hy,hr⟩:=h h2;rw[hc] at h1;exact⟨y,hy,cs',h1,hr⟩
  obtain⟨f,hf⟩:=choose_lt each;refine⟨(List.range len).map f,?_,?_⟩
  ·simp only[K0,List.all_eq_true,List.mem_map,List.mem_range,Kk];refine⟨?_,by simp;simp only[maxLen] at hm;omega⟩;rintro _ ⟨i,hi,rfl⟩;exact(hf i hi).1
  ·rw[he];refine⟨⟨some a,cap,by simp,by simpa using hl,hm,(λh=>by cases h),λi c hi=>?_⟩,trivial⟩;rw[List.map_map,List.getElem?_map] at hi;have hil:i<len:=by
    cases hq:(List.range len)[i]? with
    | none=>rw[hq] at hi;cases hi
    | some _=>have:=(List.getElem?_eq_some_iff.1 hq).1;simpa using this
   rw[List.getElem?_range hil] at hi;simp only[Option.map_some,Option.some.injEq,Function.comp] at hi;subst hi;obtain⟨_,cs',h1,hr⟩:=hf i hil;obtain⟨_,hcl,hcell⟩:=World.cells?_some h1;have hsp:a.spot=none:=by
    obtain⟨_,cs0,g1,_⟩:=hf 0 (by omega);obtain⟨_,gcl,gcell⟩:=World.cells?_some g1;have h0:=gcell 0 hsz;rw[Kx (by omega)] at h0;have:=(Ep h0).1;simpa[Addr.add] using this
   refine⟨hlen _,a,rfl,hsp,λj r hj=>?_⟩;obtain⟨u,hu,hp⟩:=hr.at hj;have hjs:j<sz:=by have:=(List.getElem?_eq_some_iff.1 hj).1;rw[hlen] at this;exact this
   have h3:=hcell j hjs;rw[hu] at h3;have h4:=(Ep h3).2;refine⟨u,?_,hp⟩;have e1:((a.add (i*sz)).add j).block=a.block:=by simp only[Addr.add];split<;>split<;>rfl
   have e2:((a.add (i*sz)).add j).off=a.off+(i*sz+j):=by simp only[Addr.add];split<;>split<;>simp_all<;>omega
   rw[e1,e2] at h4;exact h4
theorem EZ.val {α:Type}{enc:α→List Rp}{ok:α→Bool}(h:EZ P e enc ok){r:α→Rp}(he:∀y,enc y=[r y]){H:Type}{encH:TypeId×Value→H}{W:World}{sp:Nat→Bool}{held:Bool}{v:Value}{d:DataW H}{ps:List MemPlace}
  (hone:v.cells = #[v]) (ht:DataW.Trod encH P W 0 sp held e v d ps):∃y:α,ok y=true∧(r y).p (ZW W) v:=by
 obtain⟨fuel,hf⟩:=ht;rw[hone] at hf;obtain⟨y,hy,hr⟩:=h hf;rw[he] at hr;exact⟨y,hy,hr.1⟩
end
theorem HU {W w:World}(hw:Ii (ZW W) w):W.heap.size≤w.heap.size:=by
 rcases Nat.eq_zero_or_pos W.heap.size with h | h
 ·omega
 ·have h1:W.heap[W.heap.size-1]? =some (W.heap[W.heap.size-1]'(by omega)):=Array.getElem?_eq_getElem (by omega);have:=(Array.getElem?_eq_some_iff.1 (hw _ _ h1)).1;omega
theorem Hd {W:World}(hE:Es W):GE (ZW W):=λw hw=>by
 have hb:Below W.heap.size W { w with os:=W.os,tape:=W.tape,output:=W.output }:=⟨rfl,rfl,rfl,HU hw,λk hk=>by
  have h1:W.heap[k]? =some (W.heap[k]'hk):=Array.getElem?_eq_getElem hk;rw[h1];exact hw k _ h1⟩
 have hE2:=hE.st0 (St.of_below hb);exact⟨E9.block { w with os:=W.os,tape:=W.tape,output:=W.output } w (λ_ _=>rfl) hE2.tabs,hE2.size⟩
theorem Hx {W:World}(hE:Es W):St ⟨W,ZW W,[],GE⟩ [] (ZW W) W where
 os:=rfl
 tape:=rfl
 output:=rfl
 size:=KF _
 old:=λ_ _ _=>rfl
 has:=λ_ h=>by cases h
 own:=λ_ h=>by cases h
 dis:=.nil
 frz:=ZW.frz W
 le:=Fz.le.refl _
 new:=λ_ _ h=>.inl h
 zdis:=λ_ h=>by cases h
 env:=Hd hE
 emono:=λh hg=>GE.mono h hg
theorem Hy {W W':World}{Z Z':Fz}{E:Fz→Prop}{H:List Ent}(h:St ⟨W,Z,[],E⟩ H Z' W'):Below W.heap.size W W':=⟨h.os,h.tape,h.output,h.size,λk hk=>h.old k hk (by simp)⟩
section
variable {P : Program} {Q : Exit → Act → World → Prop}
end
structure Sa where
 deps:List Nat
 r:Rp
 al:Option (List Rp×TypeId):=none
 late:Option (Nat×List Rp):=none
 sto:Option Nat:=none
def Jd (sp:List Sa)(i:Nat):Sa:=sp.getD i { deps:=[],r:=rv undef }
def Kb (sp:List Sa):List Sp:=sp.map λs=>⟨s.deps,s.r,0⟩
def JT (β:Nat→Nat)(s:Sa)(i:Nat):Rp:=match s.al with
 | none=>s.r
 | some _=>rv (.pointer (some ⟨β i,0,none⟩))
def IW (β:Nat→Nat):List Oper→List Sa→Nat→Fr→Fr
 | o::os,s::sp,i,l=>match o.dst with
  | some d=>(d,JT β s i)::IW β os sp (i+1) l
  | none=>IW β os sp (i+1) l
 | _,_,_,l=>l
def JZ (P:Program)(n:Nat)(c:Cx)(opsA:Array Oper)(Q:Exit→Act→World→Prop)(o:Oper)(p:List Rp×TypeId):Prop:=
 ∀H a w Z (K:Act→World→Prop),St c H Z w→(∀b w',St c (.blk b p.1 p.2::H) Z w'→K (a.put o.dst (.pointer (some ⟨b,0,none⟩))) w')→
  Region.wanted o (yielded opsA a.tmps)=true∧o.wp P a w K Q
def Ke (P:Program)(n:Nat)(c:Cx)(opsA:Array Oper)(Q:Exit→Act→World→Prop)(ops:List Oper)(sp:List Sa)(l0:Fr)(H:List Ent)(i:Nat)(o:Oper):Prop:=
 match (Jd sp i).sto with
 | some j=>o.dst=none∧∃d p ncs,Ci ops j=some d∧(Jd sp j).al=some p∧(Jd sp j).late=some (i,ncs)∧
   ∀b H,C5 P n c opsA Q ((d,rv (.pointer (some ⟨b,0,none⟩)))::AM ops (Kb sp) (Jd sp i).deps l0) (.blk b p.1 p.2::H) o (rv undef) (.blk b ncs p.2::H)
 | none=>match (Jd sp i).al with
  | none=>∀E,C5 P n c opsA Q (AM ops (Kb sp) (Jd sp i).deps l0) (H++E) o (Jd sp i).r (H++E)
  | some p=>JZ P n c opsA Q o p
def IF (P:Program)(n:Nat)(c:Cx)(opsA:Array Oper)(Q:Exit→Act→World→Prop)(ops:List Oper)(sp:List Sa)(l0:Fr)(H:List Ent):Nat→List Oper→Prop
 | i,o::rest=>Ke P n c opsA Q ops sp l0 H i o∧IF P n c opsA Q ops sp l0 H (i+1) rest
 | _,[]=>True
section
variable {P : Program} {n : Nat} {c : Cx} {opsA : Array Oper} {Q : Exit → Act → World → Prop} {l l0 : Fr} {H : List Ent} {sp : List Sa}
theorem IF.at {ops:List Oper}:∀{k:Nat} {rest:List Oper},IF P n c opsA Q ops sp l0 H k rest→∀(t:Nat) o,rest[t]? =some o→Ke P n c opsA Q ops sp l0 H (k+t) o
 | k,o::rest,⟨h1,h2⟩,t,o',ht=>by
  cases t with
  | zero=>simp at ht;subst ht;exact h1
  | succ t=>
   have:=IF.at h2 t o' (by simpa using ht);rw[show k+(t+1)=k+1+t from by omega];exact this
 | _,[],_,t,o,h=>by simp at h
end
section
variable {P : Program} {n : Nat} {c : Cx} {opsA : Array Oper} {Q : Exit → Act → World → Prop} {l l0 : Fr} {H : List Ent} {sp : List Sa}
end
structure Ki (ks:List Nat) (β:Nat→Nat) (os:List Oper) (sp:List Sa) (i:Nat) (l0 l1:Fr):Prop where
 go:Kp ks (IW β os sp i l0) l1
section
variable {ks : List Nat} {β : Nat → Nat} {os : List Oper} {sp : List Sa} {i d : Nat} {l0 l1 : Fr} {ds : List Nat} {r : Rp} {p : List Rp × TypeId} {lt : Option (Nat × List Rp)} {so : Option Nat} {op : Op} {ty : TypeId} {pos : String} {af : Array Edge} {g : Option (Nat × Bool)}
end
section
variable {P : Program} {n : Nat} {c : Cx} {opsA : Array Oper} {Q : Exit → Act → World → Prop} {l l0 : Fr} {H : List Ent} {sp : List Sa}
end
section
variable {P : Program} {n : Nat} {c : Cx} {ops : Array Oper} {Q : Exit → Act → World → Prop} {rest : List Oper} {l : Fr} {H : List Ent} {d : Option Nat} {ty rty t e : TypeId} {pos : String} {af : Array Edge} {g : Option (Nat × Bool)} {r : Rp} {x : Operand} {cx cy : Code} {sz : Nat} {xs : List (List Rp)}
end
section
variable {P : Program} {n : Nat} {c : Cx} {opsA : Array Oper} {Q : Exit → Act → World → Prop} {l : Fr} {H : List Ent} {d : Nat} {ty : TypeId} {pos : String} {af : Array Edge}
end
section
variable {P : Program} {n : Nat} {c : Cx} {ops : Array Oper} {Q : Exit → Act → World → Prop} {rest : List Oper} {l : Fr} {H H' : List Ent} {d : Nat} {d' : Option Nat} {x y z3 : Operand} {ty t t' e : TypeId} {pos : String} {af : Array Edge} {g : Option (Nat × Bool)} {v u : Value} {r : Rp} {sz : Nat}
theorem Gk {α:Type}{ys:List α}{enc:α→List Rp}{k':IntKind}{j:Int}(ht:P.underlying t=some (.slice e))(hz:∀w,(sizeOf e).run P w = .ok sz w)(h:ev l x=some (Bk sz (ys.map enc)))(hj:ev l z3=some (rI k' j))(hg2:Ih j (ys.length:Int)=true) :
  A3 P n c l H { dst:=d',op:=.slice t x none (some z3) none,type:=ty,pos:=pos,after:=af,guard:=g } (Bk sz ((ys.take j.toNat).map enc)):=λa w Z ha hw=>by
 obtain⟨A,cap,e1,hc1,hc2,hA,hc⟩:=ha.ev h;have h2:=(BQ hg2).2;have hj0:0≤j:=(BQ hg2).1;simp only[K9] at e1 hc1;have h3:j≤(cap:Int):=by omega
 refine⟨.slice (if cap=0 then A else A.map (·.add (0*sz))) j.toNat cap,⟨if cap=0 then A else A.map (·.add (0*sz)),cap,?_,?_,by omega,?_,λq cl hq=>?_⟩,by simp[execOp,e1,ha.eval hj,Instr.sliceAt,Instr.slice,run_underlying ht,Instr.sliceBounds,AO (m:=cap) _ _ hj0 h3,hz]⟩
 ·congr 1
  simp;omega
 ·simp;omega
 ·intro hn
  split at hn
  ·have:=hA hn;omega
  ·have:=hA (by simpa using hn);omega
 ·rw[List.getElem?_map] at hq
  cases hq':(List.take j.toNat ys)[q]? with
  | none=>rw[hq'] at hq;cases hq
  | some yy=>
   rw[hq'] at hq;simp only[Option.map_some,Option.some.injEq] at hq;subst hq;rw[List.getElem?_take] at hq'
   split at hq'
   ·rename_i hlt
    obtain⟨hl,ad,rfl,hs,hcs⟩:=hc q (enc yy) (by simp[hq']);obtain⟨b,off,spot⟩:=ad;simp only at hs;subst hs;have hne : ¬ cap=0:=by omega
    refine⟨hl,⟨b,off+0*sz,none⟩,by simp[hne,EX],rfl,λq' r' hr'=>?_⟩;obtain⟨u,hu,hp⟩:=hcs q' r' hr';refine⟨u,?_,hp⟩;have:off+0*sz+(q*sz+q')=off+(q*sz+q'):=by omega
    simp only;rw[this];exact hu
   ·cases hq'
end
structure Sx (U:Type) where
 deps:List Nat
 r:U→Rp
 dyn:Bool:=false
 old:List Nat:=[]
def Hm {U:Type}(sp:List (Sx U))(i:Nat):Sx U:=sp.getD i { deps:=[],r:=λ_=>rv undef }
def JP {U:Type}(sp:List (Sx U))(u:U):List Sp:=sp.map λs=>⟨s.deps,s.r u,0⟩
def IC {U:Type}:List (Sx U)→Prop
 | []=>True
 | s::r=>(s.dyn=false→∀u u',s.r u=s.r u')∧IC r
theorem IC.at {U:Type}:∀{sp:List (Sx U)},IC sp→∀{i:Nat} {s:Sx U},sp[i]? =some s→s.dyn=false→∀u u',s.r u=s.r u'
 | [],_,i,s,h=>by simp at h
 | x::sp,⟨h1,h2⟩,0,s,h=>by simp at h;subst h;exact h1
 | x::sp,⟨h1,h2⟩,i+1,s,h=>IC.at h2 (by simpa using h)
def Eb (lw:Fr):List Nat→Fr→Fr
 | [],l=>l
 | d::r,l=>match look lw d with
  | some q=>(d,q)::Eb lw r l
  | none=>Eb lw r l
section
variable (P : Program) (n : Nat) (c : Cx) (opsA : Array Oper) (Q : Exit → Act → World → Prop)
def Kd {U:Type}(l:Fr)(H:List Ent)(o:Oper)(r:U→Rp)(H1:U→List Ent):Prop:=
 ∀a w Z (K:Act→World→Prop),AU n l a Z→St c H Z w→(∀u v w' Z',Fz.le Z Z'→(r u).p Z' v→St c (H1 u) Z' w'→K (a.put o.dst v) w')→
  Region.wanted o (yielded opsA a.tmps)=true∧o.wp P a w K Q
def IE {U:Type}(ops:List Oper)(sp:List (Sx U))(l0 lw:Fr)(i0:Nat)(H:List Ent)(H1:U→List Ent):Nat→List Oper→Prop
 | i,o::rest=>(if i=i0 then(∀u,Kd P n c opsA Q (Eb lw (Hm sp i).old (AM ops (JP sp u) (Hm sp i).deps l0)) H o (Hm sp i).r H1) else ∀u H,C5 P n c opsA Q (Eb lw (Hm sp i).old (AM ops (JP sp u) (Hm sp i).deps l0)) H o ((Hm sp i).r u) H)∧IE ops sp l0 lw i0 H H1 (i+1) rest
 | _,[]=>True
end
section
variable {P : Program} {n : Nat} {c : Cx} {opsA : Array Oper} {Q : Exit → Act → World → Prop} {l l0 lw : Fr} {U : Type} {H : List Ent} {H1 : U → List Ent} {sp : List (Sx U)} {i0 : Nat}
theorem IE.at {ops:List Oper}:∀{k:Nat} {rest:List Oper},IE P n c opsA Q ops sp l0 lw i0 H H1 k rest→∀(t:Nat) o,rest[t]? =some o→
  (if k+t=i0 then(∀u,Kd P n c opsA Q (Eb lw (Hm sp (k+t)).old (AM ops (JP sp u) (Hm sp (k+t)).deps l0)) H o (Hm sp (k+t)).r H1) else ∀u H,C5 P n c opsA Q (Eb lw (Hm sp (k+t)).old (AM ops (JP sp u) (Hm sp (k+t)).deps l0)) H o ((Hm sp (k+t)).r u) H)
 | k,o::rest,⟨h1,h2⟩,t,o',ht=>by
  cases t with
  | zero=>simp at ht;subst ht;exact h1
  | succ t=>
   have:=IE.at h2 t o' (by simpa using ht);rw[show k+(t+1)=k+1+t from by omega];exact this
 | _,[],_,t,o,h=>by simp at h
end
section
variable {P : Program} {n : Nat} {c : Cx} {opsA : Array Oper} {Q : Exit → Act → World → Prop} {l : Fr} {H : List Ent} {d : Nat} {x y : Operand} {ty t e : TypeId} {pos : String} {af : Array Edge} {v : Value} {sz : Nat}
end
end Go.Proofs.YthjcjnbngagagaaDoor.Q
namespace Go.Proofs.YthjcjnbngagagaaDoor
open Go
end Go.Proofs.YthjcjnbngagagaaDoor
namespace Go.Proofs.YthjcjnbngagagaaDoor.Q
open Go Go.RowKit
set_option linter.unusedVariables false
set_option linter.unusedSimpArgs false
section
variable {P : Program} {n : Nat} {c : Cx} {Q : Exit → Act → World → Prop} {l : Fr} {H : List Ent} {x rest' : Code} {K : Act → World → Prop}
end
section
variable {P : Program} {n : Nat} {c : Cx} {ops : Array Oper} {Q : Exit → Act → World → Prop} {rest : List Oper} {l : Fr} {H H' : List Ent} {d : Nat} {d' : Option Nat} {x y z3 z4 : Operand} {ty t t' e : TypeId} {pos : String} {af : Array Edge} {g : Option (Nat × Bool)} {v u : Value} {r : Rp} {sz : Nat}
end
section
variable {P : Program} {n : Nat} {c : Cx} {l : Fr} {H : List Ent} {d : Option Nat} {ty rty t e : TypeId} {pos : String} {af : Array Edge} {g : Option (Nat × Bool)} {x : Operand} {sz : Nat}
end
end Go.Proofs.YthjcjnbngagagaaDoor.Q
namespace Go.Proofs.YthjcjnbngagagaaDoor
open Go
set_option linter.unusedVariables false
set_option linter.unusedSimpArgs false
section
variable {T S : Type}
def B0:List (Ay×T)→Ay→Option T
 | [],_=>none
 | p::r,k=>bif decide (p.1=k) then some p.2 else B0 r k
def Iz (xs:List (Ay×T))(k:Ay):Bool:=(B0 xs k).isSome
def mins (k:Ay)(v:T):List (Ay×T)→List (Ay×T)
 | []=>[(k,v)]
 | p::r=>bif Bc k p.1 then(k,v)::p::r else p::mins k v r
def mput (xs:List (Ay×T))(k:Ay)(v:T):List (Ay×T):=xs.map λp=>bif decide (p.1=k) then(k,v) else p
def mset (xs:List (Ay×T))(k:Ay)(v:T):List (Ay×T):=bif Iz xs k then mput xs k v else mins k v xs
end
end Go.Proofs.YthjcjnbngagagaaDoor
namespace Go.Proofs.YthjcjnbngagagaaDoor.Q
open Go Go.RowKit
set_option linter.unusedVariables false
set_option linter.unusedSimpArgs false
theorem Ha (s:ByteArray):MapKept.IsKey .string (.string s):=by simp[MapKept.IsKey]
theorem DV.keys {Z:Fz}:∀{f:List (List UInt8×Rp)} {es:List MapEntry},DV Z f es→∀x∈es,MapKept.IsKey .string x.key
 | [],[],_,x,hx=>by cases hx
 | p::f,e::es,⟨⟨h1,h2⟩,h3⟩,x,hx=>by
  rcases List.mem_cons.1 hx with rfl | hx
  ·rw[h1];exact Ha _
  ·exact DV.keys h3 x hx
theorem DV.at {Z:Fz}:∀{f:List (List UInt8×Rp)} {es:List MapEntry},DV Z f es→f.length=es.length∧∀(j:Nat) (e:MapEntry),es[j]? =some e→∃k r,f[j]? =some (k,r)∧e.key = .string (B k)∧r.p Z e.val
 | [],[],_=>⟨rfl,λj e h=>by simp at h⟩
 | p::f,e::es,⟨⟨h1,h2⟩,h3⟩=>by
  obtain⟨hl,ha⟩:=DV.at h3;refine⟨by simp[hl],λj e' hj=>?_⟩
  cases j with
  | zero=>simp at hj;subst hj;exact⟨p.1,p.2,rfl,h1,h2⟩
  | succ j=>simp at hj;simpa using ha j e' hj
theorem DV.of {Z:Fz}:∀{f:List (List UInt8×Rp)} {es:List MapEntry},f.length=es.length→(∀(j:Nat) (e:MapEntry),es[j]? =some e→∃k r,f[j]? =some (k,r)∧e.key = .string (B k)∧r.p Z e.val)→DV Z f es
 | [],[],_,_=>trivial
 | p::f,e::es,hl,h=>by
  obtain⟨k,r,h1,h2,h3⟩:=h 0 e rfl;simp at h1;subst h1;exact⟨⟨h2,h3⟩,DV.of (by simpa using hl) λj e' hj=>by simpa using h (j+1) e' (by simpa using hj)⟩
 | [],_::_,hl,_=>by simp at hl
 | _::_,[],hl,_=>by simp at hl
theorem DV.filter {Z:Fz}(q:MapEntry→Bool):∀{f:List (List UInt8×Rp)} {es:List MapEntry},DV Z f es→∃g,DV Z g (es.filter q)∧g.Sublist f
 | [],[],_=>⟨[],trivial,List.Sublist.refl _⟩
 | p::f,e::es,⟨h,h3⟩=>by
  obtain⟨g,hg,hs⟩:=DV.filter q h3
  cases hq:q e with
  | true=>exact⟨p::g,by rw[List.filter_cons_of_pos hq];exact⟨h,hg⟩,hs.cons_cons p⟩
  | false=>exact⟨g,by rw[List.filter_cons_of_neg (by simp[hq])];exact hg,hs.cons p⟩
theorem JM {a b:List UInt8}(h:B a=B b):a=b:=by
 have:=congrArg ByteArray.toList h
 rwa [B4,B4] at this
theorem Hw {a b:List UInt8}(h:Value.string (B a) = .string (B b)):a=b:=JM (by cases h;rfl)
section
variable {P : Program} {n : Nat} {c : Cx} {ops : Array Oper} {Q : Exit → Act → World → Prop} {rest : List Oper} {l : Fr} {H : List Ent} {d : Nat} {d' : Option Nat} {ty t kt et rty : TypeId} {pos : String} {af : Array Edge} {g : Option (Nat × Bool)} {x y u : Operand} {K : Act → World → Prop} {cx : Code}
variable {T : Type} {enc : T → Rp} {xs : List (Ay × T)} {z : T} {k : Ay} {zv : Value} {i b : Nat}
theorem CH.length {Z:Fz}{m:List (List UInt8×Rp)}{es:List MapEntry}{ck:Nat}(h:CH Z m es ck):es.length=m.length:=by
 obtain⟨_,_,_,f,h4,h5⟩:=h;rw[← h5.at.1,h4.length_eq]
theorem H5 {m f:List (Ay×Rp)}(h:f.Perm m)(k:Ay)(r:Rp):(mput f k r).Perm (mput m k r):=h.map _
theorem G2 {T:Type}:∀{f:List (Ay×T)} {j:Nat} {k:Ay} {r0:T} (r:T),(f.map (·.1)).Nodup→f[j]? =some (k,r0)→mput f k r=f.set j (k,r)
 | p::f,0,k,r0,r,hn,h=>by
  simp at h;subst h;rw[List.map_cons,List.nodup_cons] at hn;have:mput f k r=f:=by
   unfold mput;rw[List.map_congr_left (g:=id) (λq hq=>?_),List.map_id];have hne : ¬ q.1=k:=λe=>hn.1 (by rw[← e];exact List.mem_map.2 ⟨q,hq,rfl⟩);rw[K5 hne];rfl
  show(bif decide (k=k) then(k,r) else(k,r0))::mput f k r=_;rw[K2 rfl,this];rfl
 | p::f,j+1,k,r0,r,hn,h=>by
  rw[List.map_cons,List.nodup_cons] at hn;simp at h;have hne : ¬ p.1=k:=λe=>hn.1 (by rw[e];exact List.mem_map.2 ⟨(k,r0),KG h,rfl⟩);show(bif decide (p.1=k) then(k,r) else p)::mput f k r=_;rw[K5 hne,G2 r hn.2 h];rfl
theorem GW {T:Type}(m:List (Ay×T))(k:Ay)(r:T):(mput m k r).map (·.1)=m.map (·.1):=by
 unfold mput;rw[List.map_map];refine List.map_congr_left λp _=>?_;simp only[Function.comp]
 by_cases h:p.1=k
 ·rw[K2 h];exact h.symm
 ·rw[K5 h];rfl
theorem GX {T:Type}{m:List (Ay×T)}{k:Ay}{r:T}(h:B0 m k=some r):Iz m k=true:=by unfold Iz;rw[h];rfl
theorem CH.put {Z:Fz}{m:List (Ay×Rp)}{es:List MapEntry}{ck j:Nat}{e:MapEntry}{k:Ay}{r0 r:Rp}{v:Value}(h:CH Z m es ck)(he:es[j]? =some e)(hk:e.key = .string (B k))(hm:B0 m k=some r0)(hr:r.p Z v) :
  CH Z (mset m k r) (es.set j { e with key:=.string (B k),val:=v }) ck:=by
 obtain⟨h1,h2,h3,f,h4,h5⟩:=h;obtain⟨hl,ha⟩:=h5.at;have hjl:=(List.getElem?_eq_some_iff.1 he).1;unfold mset;rw[GX hm,K1];obtain⟨k',r',e1,e2,_⟩:=ha j e he;rw[hk] at e2;obtain rfl:=Hw e2;have hfn:(f.map (·.1)).Nodup:=(h4.map (·.1)).nodup_iff.2 h1;refine⟨by rw[GW];exact h1,?_,?_,f.set j (k,r),?_,DV.of (by simp[hl]) λi x hx=>?_⟩
 ·rw[List.map_set];have:(es.map (·.born)).set j e.born=es.map (·.born):=by
   apply List.ext_getElem?;intro i;rw[List.getElem?_set]
   split
   ·rename_i hij;subst hij
    simp[hjl,List.getElem?_eq_some_iff.1 he |>.2]
   ·rfl
  show((es.map (·.born)).set j e.born).Nodup;rw[this];exact h2
 ·intro x hx;rcases List.mem_or_eq_of_mem_set hx with hx | rfl
  ·exact h3 x hx
  ·exact h3 e (KG he)
 ·have:=H5 h4 k r
  rwa [G2 r hfn e1] at this
 ·rw[List.getElem?_set] at hx ⊢
  split at hx
  ·rename_i hij;subst hij
   cases hx
   exact⟨k,r,by rw[if_pos rfl,if_pos (by rw[hl];exact hjl)],rfl,hr⟩
  ·rename_i hij
   rw[if_neg hij];exact ha i x hx
end
theorem Aw.d1 {Z:Fz}{r0:Rp}{us:List Value}(h:Aw Z [r0] us):∃y0,us=[y0]∧Aw Z [r0] [y0]:=by
 match us,h.length with
 | [y0],_=>exact⟨_,rfl,h⟩
section
variable {P : Program} {n : Nat} {c : Cx} {ops : Array Oper} {Q : Exit → Act → World → Prop} {rest : List Oper} {l : Fr} {H H' : List Ent} {d : Nat} {d' : Option Nat} {ty t e rty : TypeId} {pos : String} {af : Array Edge} {g : Option (Nat × Bool)} {x y u : Operand} {v : Value} {sz m : Nat}
end
end Go.Proofs.YthjcjnbngagagaaDoor.Q
namespace Go.Proofs
open Go.Shelf
def Tryd.lays190_ren:Go.Shelf.Ren:=⟨fun | 190=>20 | 125=>35 | 258=>34 | 128=>55 | 129=>56 | 302=>46 | 303=>47 | 304=>48 | 305=>49 | 306=>50 | 307=>51 | 308=>52 | 309=>53 | 310=>54 | 333=>63 | 329=>64 | 330=>65 | 334=>66 | 335=>67 | 336=>68 | 344=>79 | n=>n,fun | 31=>22 | 9=>9 | 3=>3 | 46=>48 | 0=>0 | 51=>65 | 53=>67 | 4=>4 | 183=>58 | 182=>57 | 131=>62 | 5=>5 | 218=>70 | 222=>74 | 228=>85 | 229=>86 | n=>n,fun | n=>n⟩
theorem Tryd.lays190:Go.Proofs.Lays.n190 Tryd.prog Tryd.lays190_ren:={
 mixed:=by kernel_rfl
 f125:=Tryd.func35.trans (congrArg some (by kernel_rfl))
 f128:=Tryd.func55.trans (congrArg some (by kernel_rfl))
 f129:=Tryd.func56.trans (congrArg some (by kernel_rfl))
 f190:=Tryd.func20.trans (congrArg some (by kernel_rfl))
 f258:=Tryd.func34.trans (congrArg some (by kernel_rfl))
 f302:=Tryd.func46.trans (congrArg some (by kernel_rfl))
 f303:=Tryd.func47.trans (congrArg some (by kernel_rfl))
 f304:=Tryd.func48.trans (congrArg some (by kernel_rfl))
 f305:=Tryd.func49.trans (congrArg some (by kernel_rfl))
 f306:=Tryd.func50.trans (congrArg some (by kernel_rfl))
 f307:=Tryd.func51.trans (congrArg some (by kernel_rfl))
 f308:=Tryd.func52.trans (congrArg some (by kernel_rfl))
 f309:=Tryd.func53.trans (congrArg some (by kernel_rfl))
 f310:=Tryd.func54.trans (congrArg some (by kernel_rfl))
 f329:=Tryd.func64.trans (congrArg some (by kernel_rfl))
 f330:=Tryd.func65.trans (congrArg some (by kernel_rfl))
 f333:=Tryd.func63.trans (congrArg some (by kernel_rfl))
 f334:=Tryd.func66.trans (congrArg some (by kernel_rfl))
 f335:=Tryd.func67.trans (congrArg some (by kernel_rfl))
 f336:=Tryd.func68.trans (congrArg some (by kernel_rfl))
 f344:=Tryd.func79.trans (congrArg some (by kernel_rfl))
 t0:=Tryd.underlying0
 a0:=Tryd.isAgg0
 z0:=Tryd.sizeOf0
 v0:=Tryd.zeroValue0
 t3:=Tryd.underlying3
 a3:=Tryd.isAgg3
 z3:=Tryd.sizeOf3
 v3:=Tryd.zeroValue3
 t4:=Tryd.underlying4
 a4:=Tryd.isAgg4
 z4:=Tryd.sizeOf4
 v4:=Tryd.zeroValue4
 t5:=Tryd.underlying5
 a5:=Tryd.isAgg5
 z5:=Tryd.sizeOf5
 v5:=Tryd.zeroValue5
 t9:=Tryd.underlying9
 a9:=Tryd.isAgg9
 z9:=Tryd.sizeOf9
 v9:=Tryd.zeroValue9
 t31:=Tryd.underlying22
 a31:=Tryd.isAgg22
 z31:=Tryd.sizeOf22
 v31:=Tryd.zeroValue22
 t46:=Tryd.underlying48
 a46:=Tryd.isAgg48
 z46:=Tryd.sizeOf48
 v46:=Tryd.zeroValue48
 t51:=Tryd.underlying65
 a51:=Tryd.isAgg65
 z51:=Tryd.sizeOf65
 v51:=Tryd.zeroValue65
 t53:=Tryd.underlying67
 a53:=Tryd.isAgg67
 z53:=Tryd.sizeOf67
 v53:=Tryd.zeroValue67
 t131:=Tryd.underlying62
 a131:=Tryd.isAgg62
 z131:=Tryd.sizeOf62
 v131:=Tryd.zeroValue62
 t182:=Tryd.underlying57
 a182:=Tryd.isAgg57
 z182:=Tryd.sizeOf57
 v182:=Tryd.zeroValue57
 t183:=Tryd.underlying58
 a183:=Tryd.isAgg58
 z183:=Tryd.sizeOf58
 v183:=Tryd.zeroValue58
 t218:=Tryd.underlying70
 a218:=Tryd.isAgg70
 z218:=Tryd.sizeOf70
 v218:=Tryd.zeroValue70
 t222:=Tryd.underlying74
 a222:=Tryd.isAgg74
 z222:=Tryd.sizeOf74
 v222:=Tryd.zeroValue74
 t228:=Tryd.underlying85
 a228:=Tryd.isAgg85
 z228:=Tryd.sizeOf85
 v228:=Tryd.zeroValue85
 t229:=Tryd.underlying86
 a229:=Tryd.isAgg86
 z229:=Tryd.sizeOf86
 v229:=Tryd.zeroValue86 }
open Go.Sort Go.RowKit in
theorem Tryd.slices_Sort_string (blk off cap:Nat)(ss:List (List UInt8))(w:World)(hH:Holds encStr w blk off ss.toArray)(hblk:blk<w.heap.size)(hsz:ss.length<4611686018427387904) :
  Calls Tryd.prog 20 #[.slice (some ⟨blk,off,none⟩) ss.length cap] w λe w'=>
   e = .returned (.tuple #[])∧∃n os,w'=grow (putRow encStr (Sort.ahead w n) blk off (ss.mergeSort λx y=>decide (x≤y)).toArray) os:=Any.slices_Sort_string Tryd.lays190 blk off cap ss w hH hblk hsz
def Tryd.lays110_ren:Go.Shelf.Ren:=⟨fun | 110=>22 | 109=>36 | n=>n,fun | 31=>22 | 9=>9 | 4=>4 | 3=>3 | 0=>0 | n=>n,fun | n=>n⟩
theorem Tryd.lays110:Go.Proofs.Lays.n110 Tryd.prog Tryd.lays110_ren:={
 mixed:=by kernel_rfl
 f109:=Tryd.func36.trans (congrArg some (by kernel_rfl))
 f110:=Tryd.func22.trans (congrArg some (by kernel_rfl))
 t0:=Tryd.underlying0
 a0:=Tryd.isAgg0
 z0:=Tryd.sizeOf0
 v0:=Tryd.zeroValue0
 t3:=Tryd.underlying3
 a3:=Tryd.isAgg3
 z3:=Tryd.sizeOf3
 v3:=Tryd.zeroValue3
 t4:=Tryd.underlying4
 a4:=Tryd.isAgg4
 z4:=Tryd.sizeOf4
 v4:=Tryd.zeroValue4
 t9:=Tryd.underlying9
 a9:=Tryd.isAgg9
 z9:=Tryd.sizeOf9
 v9:=Tryd.zeroValue9
 t31:=Tryd.underlying22
 a31:=Tryd.isAgg22
 z31:=Tryd.sizeOf22
 v31:=Tryd.zeroValue22 }
open Go.Lib in
theorem Tryd.slices_Contains_string (b off n c:Nat)(zs:List ByteArray)(x:ByteArray)(w:World)(hz:n≤zs.length)(hbig:n≤9223372036854775807)(hc:∀j,j<zs.length→w.cell? ⟨b,off+j,none⟩=some (.string (zs.getD j ByteArray.empty))) :
  Calls Tryd.prog 22 #[.slice (some ⟨b,off,none⟩) n c,.string x] w λe w'=>e = .returned (.bool (Lib.containsS (zs.take n) x))∧w'=w:=Any.slices_Contains_string Tryd.lays110 b off n c zs x w hz hbig hc
open Go.Lib in
theorem Tryd.slices_Contains_string_empty (a:Option Addr)(c:Nat)(x:ByteArray)(w:World) :
  Calls Tryd.prog 22 #[.slice a 0 c,.string x] w λe w'=>e = .returned (.bool false)∧w'=w:=Any.slices_Contains_string_empty Tryd.lays110 a c x w
def Tryd.laysNm216_ren:Go.Shelf.Ren:=⟨fun | 16=>19 | n=>n,fun | 24=>22 | 9=>9 | 4=>4 | n=>n,fun | n=>n⟩
theorem Tryd.laysNm216:Go.Proofs.Lays2.n16 Tryd.prog Tryd.laysNm216_ren:={
 mixed:=by kernel_rfl
 f16:=Tryd.func19.trans (congrArg some (by kernel_rfl))
 t4:=Tryd.underlying4
 a4:=Tryd.isAgg4
 z4:=Tryd.sizeOf4
 v4:=Tryd.zeroValue4
 t9:=Tryd.underlying9
 a9:=Tryd.isAgg9
 z9:=Tryd.sizeOf9
 v9:=Tryd.zeroValue9
 t24:=Tryd.underlying22
 a24:=Tryd.isAgg22
 z24:=Tryd.sizeOf22
 v24:=Tryd.zeroValue22
 i9:=by kernel_rfl }
open Go.RowKit Go.Lib in
theorem Tryd.slices_Clone_string (b off n c:Nat)(zs:List ByteArray)(w:World)(hz:n≤zs.length)(hbig:n*16≤140737488355328)(hc:∀j,j<zs.length→w.cell? ⟨b,off+j,none⟩=some (.string (zs.getD j ByteArray.empty))) :
  Calls Tryd.prog 19 #[.slice (some ⟨b,off,none⟩) n c] w λe w'=>∃v',e = .returned v'∧w'.ownsRow w.heap.size 9 1 v' n ((zs.take n).map (Value.string))∧v'≠.slice none 0 0∧Below w.heap.size w w':=Any.slices_Clone_string Tryd.laysNm216 b off n c zs w hz hbig hc
open Go.RowKit Go.Lib in
theorem Tryd.slices_Clone_string_nil (n c:Nat)(w:World) :
  Calls Tryd.prog 19 #[.slice none n c] w λe w'=>e = .returned (.slice none 0 0)∧w'=w:=Any.slices_Clone_string_nil Tryd.laysNm216 n c w
open Go.RowKit Go.Lib in
theorem Tryd.slices_Clone_string_zero (a:Addr)(c:Nat)(w:World) :
  Calls Tryd.prog 19 #[.slice (some a) 0 c] w λe w'=>∃v',e = .returned v'∧w'.ownsRow w.heap.size 9 1 v' 0 []∧v'≠.slice none 0 0∧Below w.heap.size w w':=Any.slices_Clone_string_zero Tryd.laysNm216 a c w
def Tryd.lays194_ren:Go.Shelf.Ren:=⟨fun | 194=>21 | n=>n,fun | 31=>22 | 9=>9 | 3=>3 | 4=>4 | 0=>0 | n=>n,fun | n=>n⟩
theorem Tryd.lays194:Go.Proofs.Lays.n194 Tryd.prog Tryd.lays194_ren:={
 mixed:=by kernel_rfl
 f194:=Tryd.func21.trans (congrArg some (by kernel_rfl))
 t0:=Tryd.underlying0
 a0:=Tryd.isAgg0
 z0:=Tryd.sizeOf0
 v0:=Tryd.zeroValue0
 t3:=Tryd.underlying3
 a3:=Tryd.isAgg3
 z3:=Tryd.sizeOf3
 v3:=Tryd.zeroValue3
 t4:=Tryd.underlying4
 a4:=Tryd.isAgg4
 z4:=Tryd.sizeOf4
 v4:=Tryd.zeroValue4
 t9:=Tryd.underlying9
 a9:=Tryd.isAgg9
 z9:=Tryd.sizeOf9
 v9:=Tryd.zeroValue9
 t31:=Tryd.underlying22
 a31:=Tryd.isAgg22
 z31:=Tryd.sizeOf22
 v31:=Tryd.zeroValue22 }
open Go.RowKit Go.Lib Go.Sort in
theorem Tryd.slices_Compact_string (blk off cap:Nat)(zs:List (List UInt8))(w:World)(hH:Holds encStr w blk off zs.toArray)(hsz:zs.length≤9223372036854775807)(hcap:zs.length≤cap) :
  Calls Tryd.prog 21 #[.slice (some ⟨blk,off,none⟩) zs.length cap] w λe w'=>e = .returned (.slice (some ⟨blk,off,none⟩) (Lib.compact zs).length cap)∧∃q,w'=putRow encStr (Sort.ahead w q) blk off (Lib.compact zs++List.replicate (zs.length-(Lib.compact zs).length) []).toArray:=Any.slices_Compact_string Tryd.lays194 blk off cap zs w hH hsz hcap
open Go.RowKit Go.Lib Go.Sort in
theorem Tryd.slices_Compact_string_empty (a:Option Addr)(cap:Nat)(w:World) :
  Calls Tryd.prog 21 #[.slice a 0 cap] w λe w'=>e = .returned (.slice a 0 cap)∧w'=w:=Any.slices_Compact_string_empty Tryd.lays194 a cap w
open Go.RowKit Go.Sort in
theorem Tryd.slices_Sort_string_none (p:Option Addr)(cap:Nat)(w:World) :
  Calls Tryd.prog 20 #[.slice p 0 cap] w λe w'=>e = .returned (.tuple #[])∧w'=w:=Any.slices_Sort_string_none Tryd.lays190 p cap w
end Go.Proofs
namespace Go.Proofs.YthjcjnbngagagaaDoor
open Go Go.RowKit Go.Sort
set_option linter.unusedVariables false
set_option linter.unusedSimpArgs false
theorem He (ss:List (List UInt8)):Hf (ss.map DO)=ss.map encStr:=by
 induction ss with
 | nil=>rfl
 | cons s r ih=>simp[Hf,DO,B,encStr] at ih ⊢;exact ih
theorem Hv (ss:List (List UInt8)):∀c∈ss.map DO,c.length=1:=by
 intro c hc;obtain⟨s,_,rfl⟩:=List.mem_map.1 hc;rfl
theorem St.of_row {w w':World}{e:TypeId}{sz n:Nat}{v:Value}{xs:List Value}(hb:Below w.heap.size w w')(h:w'.ownsRow w.heap.size e sz v n xs):St w [] [.row v e sz n xs] w':=by
 have h0:=St.of_below hb;refine⟨h0.os,h0.tape,h0.output,h0.size,h0.old,?_,?_,by simp⟩
 ·intro en he;simp only[K4] at he;subst he;refine⟨h.1,?_⟩;rcases h.2 with hn | ⟨g,cap,cur,rfl,hb,rest⟩
  ·exact .inl hn
  ·exact .inr ⟨g,cap,cur,rfl,KI _,rest⟩
 ·intro en he k hk;simp only[K4] at he;subst he;simp[Ent.foot,Option.mem_toList] at hk;exact .inl (h.lt k hk).1
theorem Bt.of_row {w:World}{v:Value}{ss:List (List UInt8)}(h:(Ent.row v 9 1 ss.length (ss.map encStr)).holds w):Bt w v ss:=by
 have h2:=EY.of_row (sz:=1) (e:=9) (vs:=ss.map DO) (w:=w) (v:=v) (by rw[He];simpa using h) (Hv ss);exact h2
theorem Bt.cells {w:World}{v:Value}{ss:List (List UInt8)}(h:Bt w v ss):(∃cap,v = .slice none 0 cap∧ss=[])∨(∃a cap,v = .slice (some a) ss.length cap∧ss=[])∨
  (∃b off cap,v = .slice (some ⟨b,off,none⟩) ss.length cap∧∀j,j<ss.length→w.cell? ⟨b,off+j,none⟩=some (.string ((ss.map B).getD j ByteArray.empty))):=by
 obtain⟨A,cap,rfl,hc,hm,hi⟩:=h
 cases A with
 | none=>
  have:ss=[]:=by
   cases ss with
   | nil=>rfl
   | cons s r=>obtain⟨_,a,h,_⟩:=hi 0 (DO s) (by simp);cases h
  subst this;exact .inl ⟨cap,rfl,rfl⟩
 | some a=>
  cases hs:ss with
  | nil=>subst hs;exact .inr (.inl ⟨a,cap,rfl,rfl⟩)
  | cons s r=>
   obtain⟨_,a',h,hsp,_,_⟩:=hi 0 (DO s) (by simp[hs]);simp at h;subst h;obtain⟨b,off,spot⟩:=a;simp only at hsp;subst hsp;refine .inr (.inr ⟨b,off,cap,by simp[hs],λj hj=>?_⟩);rw[← hs] at hj ⊢;obtain⟨_,a',h,_,_,hcell⟩:=hi j (DO ss[j]) (by simp[hj]);simp at h;subst h;have:=hcell 0 _ rfl;simpa[hj] using this
theorem I9 (v:Value)(ss:List (List UInt8))(hl:ss.length≤8796093022208)(w:World)(h:Bt w v ss) :
  Calls Tryd.prog 19 [v].toArray w (Id w [] (λu H=>H=[.row u 9 1 ss.length (ss.map encStr)])):=by
 rcases h.cells with⟨cap,rfl,rfl⟩ | ⟨a,cap,rfl,rfl⟩ | ⟨b,off,cap,rfl,hc⟩
 ·refine(Tryd.slices_Clone_string_nil 0 cap w).mono λe w' ⟨he,hw⟩=>?_;subst hw;exact⟨_,_,he,St.of_row (Below.refl _ _) ⟨rfl,.inl ⟨rfl,rfl⟩⟩,rfl⟩
 ·refine(Tryd.slices_Clone_string_zero a cap w).mono λe w' ⟨v',he,ho,_,hb⟩=>?_;exact⟨_,_,he,St.of_row hb ho,rfl⟩
 ·refine(Tryd.slices_Clone_string b off ss.length cap (ss.map B) w (by simp) (by omega) (λj hj=>hc j (by simpa using hj))).mono λe w' ⟨v',he,ho,_,hb⟩=>?_;refine⟨_,_,he,St.of_row hb ho,?_⟩;simp[List.take_of_length_le,B]
theorem Ja (v:Value)(ss:List (List UInt8))(hl:ss.length≤8796093022208)(w:World)(h:(Ent.row v 9 1 ss.length (ss.map encStr)).holds w) :
  Calls Tryd.prog 20 [v].toArray w (Id w (Ent.row v 9 1 ss.length (ss.map encStr)).foot (λu H=>u = .tuple #[]∧H=[.row v 9 1 (ss.mergeSort λx y=>decide (x≤y)).length ((ss.mergeSort λx y=>decide (x≤y)).map encStr)])):=by
 obtain⟨h1,h2⟩:=h;rcases h2 with⟨rfl,hn⟩ | ⟨g,cap,cur,rfl,_,hg,hc,hm,hsz,ht⟩
 ·have:ss=[]:=KD hn;subst this;refine(Tryd.slices_Sort_string_none none 0 w).mono λe w' ⟨he,hw⟩=>?_;subst hw;exact⟨_,_,he,St.of_row (e:=9) (sz:=1) (n:=0) (xs:=[]) (Below.refl _ _) ⟨rfl,.inl ⟨rfl,rfl⟩⟩,rfl,by simp⟩
 ·have hb:=(Array.getElem?_eq_some_iff.1 hg).1;refine(Tryd.slices_Sort_string g 0 cap ss w (holds_of_block hg (by simpa using ht)) hb (by omega)).mono λe w' ⟨he,n,os,hw⟩=>?_;subst hw;have hgb:=grownBy_sorted (w:=w) (g:=g) (n:=n) (os:=os) (ss.mergeSort λx y=>decide (x≤y)).toArray;have ho:=ownsRow_sorted (w:=w) (base:=0) (g:=g) (cap:=cap) (n:=n) (e:=9) (os:=os) (cur:=cur) (ss:=ss) (ts:=ss.mergeSort λx y=>decide (x≤y)) (by simp) (KI _) hg hc hm hsz;refine⟨_,_,he,⟨hgb.os,hgb.tape,hgb.output,hgb.size,λk hk hne=>hgb.block k hk (λe=>hne ?_),?_,?_,by simp⟩,rfl,rfl⟩
  ·simp only[Option.some.injEq] at e;simp[Ent.foot,Value.ownBlock,e]
  ·intro en he;simp only[K4] at he;subst he;rw[List.length_mergeSort];exact ho
  ·intro en he k hk;simp only[K4] at he;subst he;exact .inr hk
theorem Hh (v:Value)(ss:List (List UInt8))(hl:ss.length≤8796093022208)(w:World)(h:(Ent.row v 9 1 ss.length (ss.map encStr)).holds w) :
  Calls Tryd.prog 21 [v].toArray w (Id w (Ent.row v 9 1 ss.length (ss.map encStr)).foot (λu H=>H=[.row u 9 1 (Lib.compact ss).length ((Lib.compact ss).map encStr)])):=by
 obtain⟨h1,h2⟩:=h;rcases h2 with⟨rfl,hn⟩ | ⟨g,cap,cur,rfl,_,hg,hc,hm,hsz,ht⟩
 ·have:ss=[]:=KD hn;subst this;refine(Tryd.slices_Compact_string_empty none 0 w).mono λe w' ⟨he,hw⟩=>?_;subst hw;exact⟨_,_,he,St.of_row (Below.refl _ _) ⟨rfl,.inl ⟨rfl,rfl⟩⟩,rfl⟩
 ·have hb:=(Array.getElem?_eq_some_iff.1 hg).1;have hcl:(Lib.compact ss).length≤ss.length:=Lib.compact_length_le ss;refine(Tryd.slices_Compact_string g 0 cap ss w (holds_of_block hg (by simpa using ht)) (by omega) hc).mono λe w' ⟨he,q,hw⟩=>?_;subst hw;have ho:=Lib.ownsRow_putRow (enc:=encStr) (w:=w) (base:=0) (e:=9) (g:=g) (n:=ss.length) (cap:=cap) (q:=q) (k:=(Lib.compact ss).length) (zs:=ss) (ys:=Lib.compact ss++List.replicate (ss.length-(Lib.compact ss).length) [])
   ⟨h1,.inr ⟨g,cap,cur,rfl,KI _,hg,hc,hm,hsz,ht⟩⟩ (by simp;omega) hcl
  rw[List.take_left] at ho;refine⟨_,_,he,⟨rfl,rfl,rfl,by simp[Sort.ahead],λk hk hne=>?_,?_,?_,by simp⟩,rfl⟩
  ·have:g≠k:=λe=>hne (by simp[Ent.foot,Value.ownBlock,e]);simp[putRow,mapBlock,Sort.ahead,Array.getElem?_modify,this]
  ·intro en he;simp only[K4] at he;subst he;exact ho
  ·intro en he k hk;simp only[K4] at he;subst he;exact .inr (by simpa[Ent.foot,Value.ownBlock] using hk)
theorem Gp (v:Value)(ss:List (List UInt8))(s:List UInt8)(hl:ss.length≤8796093022208)(w:World)(h:Bt w v ss) :
  Calls Tryd.prog 22 [v,.string (B s)].toArray w (AQ w (.bool (decide (s∈ss)))):=by
 rcases h.cells with⟨cap,rfl,rfl⟩ | ⟨a,cap,rfl,rfl⟩ | ⟨b,off,cap,rfl,hc⟩
 ·refine(Tryd.slices_Contains_string_empty none cap (B s) w).mono λe w' ⟨he,hw⟩=>?_;subst hw;exact⟨by rw[he];simp,St.refl _ _⟩
 ·refine(Tryd.slices_Contains_string_empty (some a) cap (B s) w).mono λe w' ⟨he,hw⟩=>?_;subst hw;exact⟨by rw[he];simp,St.refl _ _⟩
 ·refine(Tryd.slices_Contains_string b off ss.length cap (ss.map B) (B s) w (by simp) (by omega) (λj hj=>hc j (by simpa using hj))).mono λe w' ⟨he,hw⟩=>?_;subst hw;refine⟨?_,St.refl _ _⟩;rw[he]
  congr 2
  rw[List.take_of_length_le (by simp)];rw[KH,Lib.containsS_iff,Kk,List.mem_map];exact⟨λ⟨a,ha,hab⟩=>(by simp[B] at hab;exact hab▸ha),λhs=>⟨s,hs,rfl⟩⟩
section
variable {P : Program} {n : Nat} {w0 : World} {M : List Nat} {l : Fr} {H : List Ent} {d : Option Nat} {x y : Operand} {ty t e : TypeId} {pos : String} {af : Array Edge} {g : Option (Nat × Bool)} {v : Value} {ss : List (List UInt8)} {i : Int}
theorem Gl (ht:P.underlying t=some (.slice e))(h:ev l x=some v)(hr:Bt w0 v ss):A3 P n w0 M l H { dst:=d,op:=.call { callee:=.builtin .len,args:=#[x],argTypes:=#[t] },type:=ty,pos:=pos,after:=af,guard:=g } (.int .i64 ss.length):=by
 have:=Iw (n:=n) (M:=M) (H:=H) (d:=d) (ty:=ty) (pos:=pos) (af:=af) (g:=g) ht h hr;simpa using this
theorem IP {k:IntKind}(ht:P.underlying t=some (.slice e))(hz:∀w,(sizeOf e).run P w = .ok 1 w)(h:ev l x=some v)(hi:ev l y=some (.int k i))(hr:Bt w0 v ss)(h0:0≤i)(h1:i<ss.length) :
  A3 P n w0 M l H { dst:=d,op:=.indexAddr t x y,type:=ty,pos:=pos,after:=af,guard:=g } (DN 1 v i.toNat 0):=Jm ht hz h hi hr h0 (by simpa using h1)
theorem IO (hag:∀w,(isAgg t).run P w = .ok false w)(hx:ev l x=some (DN 1 v i.toNat 0))(hr:Bt w0 v ss)(ho:IU M v)(h0:0≤i)(h1:i<ss.length) :
  A3 P n w0 M l H { dst:=d,op:=.load t x,type:=ty,pos:=pos,after:=af,guard:=g } (.string (B (CK ss i))):=Jl hag hx hr ho (Jc h0 h1) rfl
end
theorem BJ {P:Program}{t e:TypeId}{sz len:Nat}{z:Value}{parts:Array (Nat×Value)}{cs:List Value}(ht:P.underlying t=some (.slice e))(hz:∀w,(sizeOf e).run P w = .ok sz w)(hzv:∀w,(zeroValue e).run P w = .ok z w)
  (hle:Nat.ble (len*sz) 16777216=true) (w:World) (hf:Instr.fill (λi=>some (i*sz,sz)) ((Array.range (len*sz)).map ((if len*sz=0 then #[] else z.cells)[· % (if len*sz=0 then #[] else z.cells).size]!)) parts.toList=some cs.toArray) :
  (Instr.buildSlice t len parts).run P w = .ok (.slice (some ⟨w.heap.size,0,none⟩) len len) (w.alloc (.cells cs.toArray e)):=by
 have hle' : ¬ 16777216<len*sz:=by simpa using hle
 unfold Instr.buildSlice
 by_cases h0:len*sz=0
 ·have er:Array.range 0 = #[]:=rfl;simp only[h0,K8,er] at hf;have hf:Instr.fill (λi=>some (i*sz,sz)) #[] parts.toList=some cs.toArray:=by simpa using hf
  simp[run_underlying ht,hz,hle',h0,er,hf,newRow,newObj,Sem.run,Sem.run_bind]
 ·simp only[h0,K3] at hf;simp[run_underlying ht,hz,hzv,hle',h0,hf,newRow,newObj,Sem.run,Sem.run_bind]
theorem Jb {ss:List (List UInt8)}{k:Nat}(h:k<ss.length):ss[k]? =some (CK ss k):=by simp[CK,h]
theorem B2 {ss:List (List UInt8)}{k:Nat}(h:k<ss.length):ss.take (k+1)=ss.take k++[CK ss k]:=by
 rw[List.take_add_one,Jb h];rfl
def EI (a b:List (List UInt8))(k:Nat):Prop:=a.length=b.length∧k≤a.length∧a.take k=b.take k
theorem Jf {a b:List (List UInt8)}(h:a.length=b.length):EI a b 0:=⟨h,KI _,by simp⟩
theorem GP {a b:List (List UInt8)}{k:Nat}(hi:EI a b k)(h:(k:Int)<a.length)(e:CK a k=CK b k):EI a b (k+1)∧a.length-(k+1)<a.length-k:=by
 obtain⟨h1,h2,h3⟩:=hi;refine⟨⟨h1,by omega,?_⟩,by omega⟩;rw[B2 (by omega),B2 (by omega),h3,e]
theorem Im {a b:List (List UInt8)}{k:Nat}(e : ¬ CK a k=CK b k):decide (a=b)=false:=by
 rw[Kj];rintro rfl;exact e rfl
theorem H0 {a b:List (List UInt8)}{k:Nat}(hi:EI a b k)(h : ¬ (k:Int)<a.length):decide (a=b)=true:=by
 obtain⟨h1,h2,h3⟩:=hi;rw[List.take_of_length_le (by omega),List.take_of_length_le (by omega)] at h3;simpa using h3
def AA (ss:List (List UInt8)):List (List UInt8):=Lib.compact (ss.mergeSort λx y=>decide (x≤y))
theorem Ak:AA [[98],[97],[98]]=[[97],[98]]:=by
 have h:([[98],[97],[98]]:List (List UInt8)).mergeSort (λx y=>decide (x≤y))=[[97],[98],[98]]:=by
  have h1 : ¬ ([98]:List UInt8)≤[97]:=by decide
  have h2:([98]:List UInt8)≤[98]:=by decide
  have h3:([97]:List UInt8)≤[98]:=by decide
  simp[List.mergeSort,List.MergeSort.Internal.splitInTwo,List.merge,List.splitAt,List.splitAt.go,h1,h2,h3]
 rw[AA,h];decide +kernel
open Go Go.RowKit
set_option maxRecDepth 100000
theorem EG (v:Value)(ss:List (List UInt8))(hl:ss.length≤8796093022208)(w:World)(hv:Bt w v ss):Calls Tryd.prog 5 [v].toArray w (Id w [] (λu H=>H=[.row u 9 1 (AA ss).length ((AA ss).map encStr)])):=by
 refine A6 (n:=10) Tryd.func5 rfl Tryd.ntmps5 rfl (Ai (Ae (Aa (Ab rfl) rfl (Ag (Ad (Af ?_))))));refine Ai (Ae (Aa (Ac rfl) rfl (Et Tryd.call19 rfl (λw hw=>I9 v ss (by first | assumption | (simp;assumption)) w (hv.st0 hw)) rfl ?_)));rintro ha _ rfl;refine Aa (Ab rfl) rfl (Ag (Ad (Af ?_)));refine Ai (Ae (Aa (Ac rfl) rfl (Gu (i:=0) Tryd.call20 rfl rfl (λw hw he=>Ja ha ss (by first | assumption | (simp;assumption)) w he) rfl ?_)));rintro _ _ ⟨rfl,rfl⟩;refine Ag (Ad (Af ?_));refine Ai (Ae (Aa (Ac rfl) rfl (Gu (i:=0) Tryd.call21 rfl rfl (λw hw he=>Hh ha (ss.mergeSort λx y=>decide (x≤y)) (by first | assumption | (simp;assumption)) w he) rfl ?_)));rintro hb _ rfl;refine Aa (Ab rfl) rfl (Ag (Ad (Af ?_)));exact Aq (Ap (B3 rfl rfl) (λw hw=>⟨_,_,rfl,hw,rfl⟩))
theorem IR (v:Value)(ss:List (List UInt8))(s:List UInt8)(hl:ss.length≤8796093022208)(w:World)(hv:Bt w v ss):Calls Tryd.prog 8 [v,.string (B s)].toArray w (AQ w (.bool (decide (s∈ss)))):=by
 refine A6 (n:=8) Tryd.func8 rfl Tryd.ntmps8 rfl (Ai (Ae (Aa (Ab rfl) rfl (Ag (Ad (Af ?_))))));refine Ai (Ae (Aa (Ac rfl) rfl (Aa (Ac rfl) rfl (Ar Tryd.call22 rfl (λw hw=>Gp v ss s (by first | assumption | (simp;assumption)) w (hv.st0 hw)) rfl (Aa (Ab rfl) rfl (Ag (Ad (Af ?_))))))));exact Aq (Ap (B3 rfl rfl) (AB rfl))
theorem Je (v u:Value)(a b:List (List UInt8))(ha:a.length≤8796093022208)(hb:b.length≤8796093022208)(w:World)(hv:Bt w v a)(hu:Bt w u b):Calls Tryd.prog 6 [v,u].toArray w (AQ w (.bool (decide (a=b)))):=by
 refine A6 (n:=26) Tryd.func6 rfl Tryd.ntmps6 rfl (Ai (Ae (Aa (Ab rfl) rfl (Ag (Ad (Af ?_))))));refine Ai (Ai (Ae (Aa (Ac rfl) rfl (Aa (Gl AL rfl hv) rfl (Aa (Ac rfl) rfl (Aa (Gl AL rfl hu) rfl (Aa (Dv rfl rfl) rfl (Ag (Ad (Af ?_))))))))));refine A0 (b:=!(decide (((a.length:Int))=((b.length:Int))))) rfl (λhc=>?_) (λhc=>?_)
 ·have hg:=hc;try simp only[Kk,Kj] at hg
  have hh:=hc;try simp at hh
  refine Ai (Ae (Aa (Ab rfl) rfl (Ag (Ad (Af ?_)))));refine Aq (An (Ap (B3 rfl rfl) ?_));exact AB (by have e:decide (a=b)=false:=by { rw[Kj];rintro rfl;simp at hg };rw[e])
 ·have hg:=hc;try simp only[Kk,Kj] at hg
  have hh:=hc;try simp at hh
  refine Ax (Ad (Af ?_));refine Ai (Ai (Ae (Aa (Ab rfl) rfl (Ag (Ad (Af ?_))))));refine A5 (Ck (S:=Nat) (λ(k:Nat)=>EI a b k) (λ(k:Nat)=>[(5,.int .i64 ((k:Int))),(0,v),(1,u)]) (λ(k:Nat)=>[]) (λ(k:Nat)=>a.length-k) (0) ?_ ⟨fi (by first | rfl | (simp;done) | omega | (simp;omega)),rfl,rfl,trivial⟩ .slnil ?_)
  ·exact Jf (by omega)
  rintro k hi0;have hs0:=hi0.1;have hs1:=hi0.2.1;refine Ai (Ai (Ae (Aa (Ac rfl) rfl (Aa (Ac rfl) rfl (Aa (Gl AL rfl hv) rfl (Aa (Dl rfl rfl) rfl (Ag (Ad (Af ?_)))))))));refine A0 (b:=decide (((k:Int))<((a.length:Int)))) rfl (λhd=>?_) (λhd=>?_)
  ·have he:=hd;try simp only[Kk,Kj] at he
   have f128:=hd;try simp at f128
   refine Ax (Ad (Af ?_));refine Ai (A5 (Ai (Do (by kernel_rfl) (by kernel_rfl) (BT (Ac rfl) rfl (BT (Ac rfl) rfl (BT (IP AL Ds rfl rfl hv (by first | omega | (simp;omega) | (simp at *;omega)) (by first | omega | (simp;omega) | (simp at *;omega))) rfl (BT (IO Hq rfl hv (IU.nil _) (by first | omega | (simp;omega) | (simp at *;omega)) (by first | omega | (simp;omega) | (simp at *;omega))) rfl (BT (Ac rfl) rfl (BT (Ac rfl) rfl (BT (IP AL Ds rfl rfl hu (by first | omega | (simp;omega) | (simp at *;omega)) (by first | omega | (simp;omega) | (simp at *;omega))) rfl (BT (IO Hq rfl hu (IU.nil _) (by first | omega | (simp;omega) | (simp at *;omega)) (by first | omega | (simp;omega) | (simp at *;omega))) rfl (BT (Ce rfl rfl) rfl (Ht (Ad (Af ?_)))))))))))))));refine A0 (b:=!(decide (((CK a (k:Int)))=((CK b (k:Int)))))) rfl (λhf=>?_) (λhf=>?_)
   ·have hi:=hf;try simp only[Kk,Kj] at hi
    have f129:=hf;try simp only[Kk,Kj,K0,K6,KC,KE,KA,K7,not_or,Int.not_lt,Int.not_le] at f129
    refine Ai (Ae (Aa (Ab rfl) rfl (Ag (Ad (Af ?_)))));refine Aq (A7 (An (An (A7 (An (Ap (B3 rfl rfl) ?_))))));exact AB (by rw[Im f129])
   ·have hi:=hf;try simp only[Kk,Kj] at hi
    have f129:=hf;try simp only[Kk,Kj,K0,K6,KC,KE,KA,K7,not_or,Int.not_lt,Int.not_le] at f129
    refine Ax (AC (Ad (Af ?_)));refine Ae (Aa (Ac rfl) rfl (Aa (C3 rfl rfl (IntWalk.i64_in _ (by omega))) rfl (Aa (Ab rfl) rfl (Ag (Ad (A8 (k+1) ?_ ⟨fi (by first | rfl | (simp;done) | omega | (simp;omega)),rfl,rfl,trivial⟩ .slnil))))));exact GP hi0 he f129
  ·have he:=hd;try simp only[Kk,Kj] at he
   have f128:=hd;try simp at f128
   refine Bf (Av (Av (AJ (Ad (Af ?_)))));refine Ai (Ae (Aa (Ab rfl) rfl (Ag (Ad (Af ?_)))));refine Aq (Ap (B3 rfl rfl) ?_);exact AB (by rw[H0 hi0 he])
theorem IA (w:World)(hE:Es w):Calls Tryd.prog 4 [].toArray w (AQ w (.bool true)):=by
 refine A6 (n:=128) Tryd.func4 rfl Tryd.ntmps4 rfl (Ai (Ae (Aa (Ab rfl) rfl (Ag (Ad (Af ?_))))));refine Ai (Ai (Ae (Ar Gc rfl (λw hw=>CN ([97,45,49,95]:List UInt8) w) rfl (Aa (Bb rfl) rfl (Aa (Ac rfl) rfl (Aj rfl rfl (by first | decide +kernel | (simp only[Ak];decide +kernel)) (Ar Gc rfl (λw hw=>CN ([65]:List UInt8) w) rfl (Aa (Am rfl (by first | decide +kernel | (simp only[Ak];decide +kernel)) rfl) rfl (Aa (Ac rfl) rfl (Aj rfl rfl (by first | decide +kernel | (simp only[Ak];decide +kernel)) (Ar Gc rfl (λw hw=>CN ([49,97]:List UInt8) w) rfl (Aa (Am rfl (by first | decide +kernel | (simp only[Ak];decide +kernel)) rfl) rfl (Aa (Ac rfl) rfl (Aj rfl rfl (by first | decide +kernel | (simp only[Ak];decide +kernel)) (Ar Gc rfl (λw hw=>CN ([]:List UInt8) w) rfl (Aa (Am rfl (by first | decide +kernel | (simp only[Ak];decide +kernel)) rfl) rfl (Aa (Ac rfl) rfl (Aj rfl rfl (by first | decide +kernel | (simp only[Ak];decide +kernel)) (Ar Hp rfl (λw hw=>HO ([97,46,49,58,98,47,67]:List UInt8) w) rfl (Aj rfl rfl (by first | decide +kernel | (simp only[Ak];decide +kernel)) (Aa (Bb rfl) rfl (Aa (Am rfl (by first | decide +kernel | (simp only[Ak];decide +kernel)) rfl) rfl (Aa (Ac rfl) rfl ?_)))))))))))))))))))))));refine Aj rfl rfl (by first | decide +kernel | (simp only[Ak];decide +kernel)) (Ar Hp rfl (λw hw=>HO ([97,32,98]:List UInt8) w) rfl (Aa (Am rfl (by first | decide +kernel | (simp only[Ak];decide +kernel)) rfl) rfl (Ag (Ad (Af ?_)))));refine BB rfl (by first | decide +kernel | (simp only[Ak];decide +kernel)) (Ax (Ad (Af ?_)));refine Ai (Ae (Ar Tryd.call12 rfl (λw hw=>IG ([97,99,109,101]:List UInt8) ([114,101,115,105,122,101]:List UInt8) ([51]:List UInt8) (by first | omega | (simp;done) | (simp;omega) | (simp at *;omega) | (split<;>first | omega | (simp;omega))) (by first | omega | (simp;done) | (simp;omega) | (simp at *;omega) | (split<;>first | omega | (simp;omega))) (by first | omega | (simp;done) | (simp;omega) | (simp at *;omega) | (split<;>first | omega | (simp;omega))) w (hE.st0 hw)) rfl ?_));have he:=EL ([97,99,109,101]:List UInt8) ([114,101,115,105,122,101]:List UInt8) ([51]:List UInt8);refine Aa (Ac rfl) rfl (Aa (Ao rfl rfl) rfl (Aa (Ao rfl rfl) rfl (Aa (Ab rfl) rfl (Aa (Ab rfl) rfl (Ag (Ad (Af ?_)))))));refine Ai (Ae (Ar Tryd.call13 rfl (λw hw=>Gi ([97,99,109,101,47,114,101,115,105,122,101,58,108,105,118,101]:List UInt8) (by first | omega | (simp;done) | (simp;omega) | (simp at *;omega) | (split<;>first | omega | (simp;omega))) w (hE.st0 hw)) rfl ?_));have hf:=Is (DB ([97,99,109,101,47,114,101,115,105,122,101,58,108,105,118,101]:List UInt8)) ([97,99,109,101,47,114,101,115,105,122,101,58,108,105,118,101]:List UInt8);have hg:=Iu (DB ([97,99,109,101,47,114,101,115,105,122,101,58,108,105,118,101]:List UInt8)) ([97,99,109,101,47,114,101,115,105,122,101,58,108,105,118,101]:List UInt8);have hh:=It (DB ([97,99,109,101,47,114,101,115,105,122,101,58,108,105,118,101]:List UInt8)) ([97,99,109,101,47,114,101,115,105,122,101,58,108,105,118,101]:List UInt8);refine Aa (Ac rfl) rfl (Aa (Ao rfl rfl) rfl (Aa (Ao rfl rfl) rfl (Aa (Ao rfl rfl) rfl (Aa (Ao rfl rfl) rfl (Aa (Ab rfl) rfl (Aa (Ab rfl) rfl (Aa (Ab rfl) rfl (Aa (Ab rfl) rfl (Ag (Ad (Af ?_)))))))))));refine Ai (Ai (Ae (Aa (Ac rfl) rfl (Aa (Dv rfl rfl) rfl (Aa (Ac rfl) rfl (Aj rfl rfl (by first | decide +kernel | (simp only[Ak];decide +kernel)) (Aa (Ac rfl) rfl (Aj rfl rfl (by first | decide +kernel | (simp only[Ak];decide +kernel)) (Aa (Dv rfl rfl) rfl (Aa (Am rfl (by first | decide +kernel | (simp only[Ak];decide +kernel)) rfl) rfl (Aa (Ac rfl) rfl (Aj rfl rfl (by first | decide +kernel | (simp only[Ak];decide +kernel)) (Aa (Ac rfl) rfl (Aj rfl rfl (by first | decide +kernel | (simp only[Ak];decide +kernel)) (Aa (Ce rfl rfl) rfl (Aa (Am rfl (by first | decide +kernel | (simp only[Ak];decide +kernel)) rfl) rfl (Aa (Ac rfl) rfl (Aj rfl rfl (by first | decide +kernel | (simp only[Ak];decide +kernel)) (Aa (Ac rfl) rfl (Aj rfl rfl (by first | decide +kernel | (simp only[Ak];decide +kernel)) (Aa (Ce rfl rfl) rfl (Aa (Am rfl (by first | decide +kernel | (simp only[Ak];decide +kernel)) rfl) rfl (Aa (Ac rfl) rfl ?_)))))))))))))))))))))));refine Aj rfl rfl (by first | decide +kernel | (simp only[Ak];decide +kernel)) (Aa (Ac rfl) rfl (Aj rfl rfl (by first | decide +kernel | (simp only[Ak];decide +kernel)) (Aa (Ce rfl rfl) rfl (Aa (Am rfl (by first | decide +kernel | (simp only[Ak];decide +kernel)) rfl) rfl (Aa (Ac rfl) rfl (Aj rfl rfl (by first | decide +kernel | (simp only[Ak];decide +kernel)) (Aa (Ac rfl) rfl (Aj rfl rfl (by first | decide +kernel | (simp only[Ak];decide +kernel)) (Aa (Ce rfl rfl) rfl (Aa (Am rfl (by first | decide +kernel | (simp only[Ak];decide +kernel)) rfl) rfl (Ag (Ad (Af ?_)))))))))))));refine BB rfl (by first | decide +kernel | (simp only[Ak];decide +kernel)) (Ax (Ad (Af ?_)));refine Ai (Ae (Ar Tryd.call14 rfl (λw hw=>GB ([101,55]:List UInt8) (0:Int) (by first | omega | (simp;done) | (simp;omega) | (simp at *;omega) | (split<;>first | omega | (simp;omega))) w (hE.st0 hw)) rfl ?_));have hi:=DK ([101,55]:List UInt8) 0;refine Aa (Ac rfl) rfl (Aa (Ao rfl rfl) rfl (Aa (Ao rfl rfl) rfl (Aa (Ab rfl) rfl (Aa (Ab rfl) rfl (Ag (Ad (Af ?_)))))));refine Ai (Ae (Ar Tryd.call15 rfl (λw hw=>EO ([101,55,46,48]:List UInt8) (by first | omega | (simp;done) | (simp;omega) | (simp at *;omega) | (split<;>first | omega | (simp;omega))) w (hE.st0 hw)) rfl ?_));have hj:=EP (Cd ([101,55,46,48]:List UInt8)) ([101,55,46,48]:List UInt8);refine Aa (Ac rfl) rfl (Aa (Ao rfl rfl) rfl (Aa (Ao rfl rfl) rfl (Aa (Ao rfl rfl) rfl (Aa (Ab rfl) rfl (Aa (Ab rfl) rfl (Aa (Ab rfl) rfl (Ag (Ad (Af ?_)))))))));refine Ai (Ae (Ar Tryd.call15 rfl (λw hw=>EO ([101,55,46,48,48]:List UInt8) (by first | omega | (simp;done) | (simp;omega) | (simp at *;omega) | (split<;>first | omega | (simp;omega))) w (hE.st0 hw)) rfl ?_));have hk:=EP (Cd ([101,55,46,48,48]:List UInt8)) ([101,55,46,48,48]:List UInt8);refine Aa (Ac rfl) rfl (Aa (Ao rfl rfl) rfl (Aa (Ao rfl rfl) rfl (Aa (Ao rfl rfl) rfl (Aa (Ab rfl) rfl (Aa (Ab rfl) rfl (Aa (Ab rfl) rfl (Ag (Ad (Af ?_)))))))));refine Ai (Ai (Ae (Aa (Ac rfl) rfl (Aa (Dv rfl rfl) rfl (Aa (Ac rfl) rfl (Aj rfl rfl (by first | decide +kernel | (simp only[Ak];decide +kernel)) (Aa (Ac rfl) rfl (Aj rfl rfl (by first | decide +kernel | (simp only[Ak];decide +kernel)) (Aa (Ce rfl rfl) rfl (Aa (Am rfl (by first | decide +kernel | (simp only[Ak];decide +kernel)) rfl) rfl (Aa (Ac rfl) rfl (Aj rfl rfl (by first | decide +kernel | (simp only[Ak];decide +kernel)) (Aa (Ac rfl) rfl (Aj rfl rfl (by first | decide +kernel | (simp only[Ak];decide +kernel)) (Aa (Ce rfl rfl) rfl (Aa (Am rfl (by first | decide +kernel | (simp only[Ak];decide +kernel)) rfl) rfl (Aa (Ac rfl) rfl (Aj rfl rfl (by first | decide +kernel | (simp only[Ak];decide +kernel)) (Aa (Ac rfl) rfl (Aj rfl rfl (by first | decide +kernel | (simp only[Ak];decide +kernel)) (Aa (Dv rfl rfl) rfl (Aa (Am rfl (by first | decide +kernel | (simp only[Ak];decide +kernel)) rfl) rfl (Aa (Ac rfl) rfl ?_)))))))))))))))))))))));refine Aj rfl rfl (by first | decide +kernel | (simp only[Ak];decide +kernel)) (Aa (Ac rfl) rfl (Aj rfl rfl (by first | decide +kernel | (simp only[Ak];decide +kernel)) (Aa (Bb rfl) rfl (Aa (Am rfl (by first | decide +kernel | (simp only[Ak];decide +kernel)) rfl) rfl (Aa (Ac rfl) rfl (Aj rfl rfl (by first | decide +kernel | (simp only[Ak];decide +kernel)) (Aa (Ac rfl) rfl (Aa (Am rfl (by first | decide +kernel | (simp only[Ak];decide +kernel)) rfl) rfl (Ag (Ad (Af ?_)))))))))));refine BB rfl (by first | decide +kernel | (simp only[Ak];decide +kernel)) (Ax (Ad (Af ?_)));refine Ai (Ae (Ar Hn rfl (λw hw=>Cc ([42]:List UInt8) (by first | omega | (simp;done) | (simp;omega) | (simp at *;omega) | (split<;>first | omega | (simp;omega))) w) rfl (Aa (Ac rfl) rfl (Aj rfl rfl (by first | decide +kernel | (simp only[Ak];decide +kernel)) (Ar Hn rfl (λw hw=>Cc ([97,42,98]:List UInt8) (by first | omega | (simp;done) | (simp;omega) | (simp at *;omega) | (split<;>first | omega | (simp;omega))) w) rfl (Aj rfl rfl (by first | decide +kernel | (simp only[Ak];decide +kernel)) (Aa (Bb rfl) rfl (Aa (Al rfl (by first | decide +kernel | (simp only[Ak];decide +kernel)) rfl) rfl (Aa (Ac rfl) rfl (Aj rfl rfl (by first | decide +kernel | (simp only[Ak];decide +kernel)) (Ar Tryd.call17 rfl (λw hw=>Ee ([97,47,42]:List UInt8) ([97,47]:List UInt8) (by first | omega | (simp;done) | (simp;omega) | (simp at *;omega) | (split<;>first | omega | (simp;omega))) (by first | omega | (simp;done) | (simp;omega) | (simp at *;omega) | (split<;>first | omega | (simp;omega))) w) rfl (Aa (Al rfl (by first | decide +kernel | (simp only[Ak];decide +kernel)) rfl) rfl (Aa (Ac rfl) rfl (Aj rfl rfl (by first | decide +kernel | (simp only[Ak];decide +kernel)) (Ar Tryd.call18 rfl (λw hw=>EW ([97,47,42]:List UInt8) ([97,47,98,42]:List UInt8) (by first | omega | (simp;done) | (simp;omega) | (simp at *;omega) | (split<;>first | omega | (simp;omega))) (by first | omega | (simp;done) | (simp;omega) | (simp at *;omega) | (split<;>first | omega | (simp;omega))) w) rfl (Aa (Al rfl (by first | decide +kernel | (simp only[Ak];decide +kernel)) rfl) rfl (Aa (Ac rfl) rfl (Aj rfl rfl (by first | decide +kernel | (simp only[Ak];decide +kernel)) (Ar Tryd.call18 rfl (λw hw=>EW ([97,47,98]:List UInt8) ([97,47,42]:List UInt8) (by first | omega | (simp;done) | (simp;omega) | (simp at *;omega) | (split<;>first | omega | (simp;omega))) (by first | omega | (simp;done) | (simp;omega) | (simp at *;omega) | (split<;>first | omega | (simp;omega))) w) rfl (Aj rfl rfl (by first | decide +kernel | (simp only[Ak];decide +kernel)) (Aa (Bb rfl) rfl (Aa (Al rfl (by first | decide +kernel | (simp only[Ak];decide +kernel)) rfl) rfl (Aa (Ac rfl) rfl ?_)))))))))))))))))))))));refine Aj rfl rfl (by first | decide +kernel | (simp only[Ak];decide +kernel)) (AK (cs:=([([98]:List UInt8),([97]:List UInt8),([98]:List UInt8)]:List (List UInt8)).map encStr) AL Ds (λa w _=>BJ AL Ds IX rfl w (by kernel_rfl)) rfl (by simp[maxLen]) rfl (λha=>?_));refine Aj rfl rfl (by first | decide +kernel | (simp only[Ak];decide +kernel)) (Et Tryd.call5 rfl (λw hw=>EG (.slice (some ⟨ha,0,none⟩) 3 3) ([([98]:List UInt8),([97]:List UInt8),([98]:List UInt8)]:List (List UInt8)) (by first | decide +kernel | (simp only[Ak];decide +kernel)) w (Bt.of_row (hw.ent (i:=0) rfl))) rfl ?_);rintro hb _ rfl;refine Aj rfl rfl (by first | decide +kernel | (simp only[Ak];decide +kernel)) (AK (cs:=([([97]:List UInt8),([98]:List UInt8)]:List (List UInt8)).map encStr) AL Ds (λa w _=>BJ AL Ds IX rfl w (by kernel_rfl)) rfl (by simp[maxLen]) rfl (λhc=>?_));refine Aj rfl rfl (by first | decide +kernel | (simp only[Ak];decide +kernel)) (Ar JN rfl (λw hw=>Je hb (.slice (some ⟨hc,0,none⟩) 2 2) (AA ([([98]:List UInt8),([97]:List UInt8),([98]:List UInt8)]:List (List UInt8))) ([([97]:List UInt8),([98]:List UInt8)]:List (List UInt8)) (by first | decide +kernel | (simp only[Ak];decide +kernel)) (by first | decide +kernel | (simp only[Ak];decide +kernel)) w (Bt.of_row (hw.ent (i:=1) rfl)) (Bt.of_row (hw.ent (i:=0) rfl))) rfl (Aa (Al rfl (by first | decide +kernel | (simp only[Ak];decide +kernel)) rfl) rfl (Aa (Ac rfl) rfl (Aj rfl rfl (by first | decide +kernel | (simp only[Ak];decide +kernel)) (AK (cs:=([([120]:List UInt8)]:List (List UInt8)).map encStr) AL Ds (λa w _=>BJ AL Ds IX rfl w (by kernel_rfl)) rfl (by simp[maxLen]) rfl (λhd=>?_))))));refine Aj rfl rfl (by first | decide +kernel | (simp only[Ak];decide +kernel)) (Ar Tryd.call8 rfl (λw hw=>IR (.slice (some ⟨hd,0,none⟩) 1 1) ([([120]:List UInt8)]:List (List UInt8)) ([120]:List UInt8) (by first | decide +kernel | (simp only[Ak];decide +kernel)) w (Bt.of_row (hw.ent (i:=0) rfl))) rfl (Aa (Al rfl (by first | decide +kernel | (simp only[Ak];decide +kernel)) rfl) rfl (Aa (Ac rfl) rfl (Aj rfl rfl (by first | decide +kernel | (simp only[Ak];decide +kernel)) (Ar Tryd.call8 rfl (λw hw=>IR (.slice none 0 0) [] ([120]:List UInt8) (by first | decide +kernel | (simp only[Ak];decide +kernel)) w (EY.nil _ _)) rfl (Aj rfl rfl (by first | decide +kernel | (simp only[Ak];decide +kernel)) (Aa (Bb rfl) rfl (Aa (Al rfl (by first | decide +kernel | (simp only[Ak];decide +kernel)) rfl) rfl (Aa (Ab rfl) rfl (Ag (Ad (Af ?_))))))))))));refine Aq (Ap (B3 rfl rfl) ?_);exact AB (congrArg Value.bool (by first | decide +kernel | (simp only[Ak];decide +kernel)))
end Go.Proofs.YthjcjnbngagagaaDoor
namespace Go.Proofs.YthjcjnbngagagaaDoor.Q
open Go Go.RowKit Go.Proofs
set_option linter.unusedVariables false
theorem Io {Z:Fz}{v:Value}{vs:List Value}(h:Aw Z [rv v] vs):vs=[v]:=Aw.eq_rv (us:=[v]) h
theorem Gw {Z:Fz}:∀{ss:List Ay} {us:List Value},Aw Z (ss.map eS).flatten us→us=ss.map encStr
 | [],[],_=>rfl
 | s::r,u::us,⟨h1,h2⟩=>by
  rw[show u=Value.string (B s) from h1,Gw (ss:=r) (us:=us) h2];rfl
theorem Gy {Z:Fz}:∀ss:List Ay,Aw Z (ss.map eS).flatten (ss.map encStr)
 | []=>trivial
 | s::r=>⟨rfl,Gy r⟩
theorem Ip {Z:Fz}{w:World}{v:Value}{e:TypeId}{ss:List Ay}(h:(Ent.row v e 1 (ss.map eS)).holds Z w):(Proofs.YthjcjnbngagagaaDoor.Ent.row v e 1 ss.length (ss.map encStr)).holds w:=by
 obtain⟨_,us,h1,h2⟩:=h;rw[Gw h2,K9] at h1;exact h1
theorem Iq {Z:Fz}{w:World}{v:Value}{e:TypeId}{ss:List Ay}(h:(Proofs.YthjcjnbngagagaaDoor.Ent.row v e 1 ss.length (ss.map encStr)).holds w):(Ent.row v e 1 (ss.map eS)).holds Z w:=
 ⟨λc hc=>by obtain⟨y,_,rfl⟩:=List.mem_map.1 hc;rfl,ss.map encStr,by rw[K9];exact h,Gy ss⟩
theorem GZ (v:Value)(ss:List Ay)(g:I4 16 ss.length=true):Fn Tryd.prog GE 5 [rv v] [.row v 9 1 (ss.map eS)] (λR H=>∃u:Value,R=rv u∧H=[.row u 9 1 ((AA ss).map eS),.row v 9 1 (ss.map eS)]):=λw Z vs hv hs=>by
 have e:=Io hv;subst e;have hl:ss.length≤8796093022208:=by have:=of_decide_eq_true g;omega
 have hc:=EG v ss hl w (Bt.of_row (Ip (hs.ent (i:=0) rfl)));refine hc.mono ?_;rintro e w' ⟨u,H,rfl,ht,rfl⟩;refine⟨_,u,_,Z,rfl,⟨u,rfl,rfl⟩,rfl,hs.add ht.os ht.tape ht.output ht.size (λk hk=>ht.old k hk (by simp)) (Iq (ht.has _ (List.mem_cons_self ..))) (λk hk=>?_)⟩;rcases ht.own _ (List.mem_cons_self ..) k hk with h | h
 ·exact h
 ·cases h
theorem GC:J8 Tryd.prog GE 4 [] (rB true):=J8.of_old (vs:=[]) λw Z hf he=>IA w (he w hf)
end Go.Proofs.YthjcjnbngagagaaDoor.Q
namespace Go.Proofs.YthjcjnbngagagaaDoor
open Go
set_option linter.unusedVariables false
set_option linter.unusedSimpArgs false
theorem CJ (a:Ay) : ¬ a<a:=List.lt_irrefl a
theorem Df {a b c:Ay}(h:a<b)(h2:b<c):a<c:=List.lt_trans h h2
theorem GN {a b:Ay}(h:a<b) : ¬ b<a:=λh2=>CJ a (Df h h2)
theorem Ev (a b:Ay):a<b∨a=b∨b<a:=by
 by_cases h:a<b
 ·exact .inl h
 ·by_cases h2:b<a
  ·exact .inr (.inr h2)
  ·have e1:a≤b:=h2;have e2:b≤a:=h;exact .inr (.inl (List.le_antisymm e1 e2))
theorem GM {a b c:Ay}(h:a≤b)(h2:b<c):a<c:=by
 rcases Ev a b with e | e | e
 ·exact Df e h2
 ·rw[e];exact h2
 ·exact absurd e h
theorem GL {a b:Ay}(h:a≤b)(h2:a≠b):a<b:=by
 rcases Ev a b with e | e | e
 ·exact e
 ·exact absurd e h2
 ·exact absurd e h
theorem Dp:∀(a b:List Ay),a.Pairwise (· < ·)→b.Pairwise (· < ·)→(∀x,x∈a↔x∈b)→a=b
 | [],[],_,_,_=>rfl
 | [],y::b,_,_,h=>by have:=(h y).2 (by simp);simp at this
 | x::a,[],_,_,h=>by have:=(h x).1 (by simp);simp at this
 | x::a,y::b,ha,hb,h=>by
  have ha':=List.pairwise_cons.1 ha;have hb':=List.pairwise_cons.1 hb;have e:x=y:=by
   rcases List.mem_cons.1 ((h x).1 (by simp)) with e | hx
   ·exact e
   ·rcases List.mem_cons.1 ((h y).2 (by simp)) with e | hy
    ·exact e.symm
    ·exact absurd (ha'.1 y hy) (GN (hb'.1 x hx))
  subst e;have:a=b:=Dp a b ha'.2 hb'.2 λz=>by
   constructor
   ·intro hz;rcases List.mem_cons.1 ((h z).1 (by simp[hz])) with e | hz2
    ·subst e;exact absurd (ha'.1 _ hz) (CJ _)
    ·exact hz2
   ·intro hz;rcases List.mem_cons.1 ((h z).2 (by simp[hz])) with e | hz2
    ·subst e;exact absurd (hb'.1 _ hz) (CJ _)
    ·exact hz2
  rw[this]
theorem CG (zs:List Ay)(hs:zs.Pairwise (·≤·)):∀k,k≤zs.length→(Lib.compactUpTo zs.toArray k).Pairwise (· < ·)∧(∀x,x∈Lib.compactUpTo zs.toArray k↔x∈zs.take k)
 | 0,_=>by simp[Lib.compactUpTo]
 | k+1,hk=>by
  obtain⟨h1,h2⟩:=CG zs hs k (by omega);have hkl:k<zs.length:=by omega
  have hz:zs.toArray[k]! =zs[k]:=by simp[hkl]
  have ht:zs.take (k+1)=zs.take k++[zs[k]]:=by rw[List.take_add_one,Kx hkl];rfl
  have hsi:=List.pairwise_iff_getElem.1 hs;rw[Lib.compactUpTo_succ,ht]
  by_cases hkp:Lib.keeps zs.toArray k=true
  ·rw[if_pos hkp,hz];refine⟨List.pairwise_append.2 ⟨h1,by simp,λx hx y hy=>?_⟩,λx=>by rw[List.mem_append,List.mem_append,h2]⟩;simp only[K4] at hy;subst hy;obtain⟨i,hi,rfl⟩:=List.getElem_of_mem ((h2 x).1 hx);have hik:i<k:=by simp at hi;omega
   rw[List.getElem_take];simp only[Lib.keeps,Kk,hz] at hkp;have hz1:zs.toArray[k-1]! =zs[k-1]'(by omega):=by simp[show k-1<zs.length by omega]
   rw[hz1] at hkp;have hne:zs[k]≠zs[k-1]'(by omega):=hkp.resolve_left (by omega);have hlt:zs[k-1]'(by omega)<zs[k]:=GL (hsi (k-1) k (by omega) hkl (by omega)) (λe=>hne e.symm)
   by_cases he:i=k-1
   ·subst he;exact hlt
   ·exact GM (hsi i (k-1) (by omega) (by omega) (by omega)) hlt
  ·rw[if_neg hkp];refine⟨by simpa using h1,λx=>?_⟩;simp only[Lib.keeps,Kk,hz,not_or,Decidable.not_not] at hkp;have hz1:zs.toArray[k-1]! =zs[k-1]'(by omega):=by simp[show k-1<zs.length by omega]
   rw[hz1] at hkp;rw[List.append_nil,List.mem_append,h2,K4];constructor
   ·exact .inl
   ·rintro(h | rfl)
    ·exact h
    ·rw[hkp.2];have:(zs.take k)[k-1]'(by simp;omega)=zs[k-1]'(by omega):=List.getElem_take;rw[← this];exact List.getElem_mem _
theorem DP (ss:List Ay):(AA ss).Pairwise (· < ·)∧∀x,x∈AA ss↔x∈ss:=by
 have hs:(ss.mergeSort λx y=>decide (x≤y)).Pairwise (·≤·):=by
  have:=List.pairwise_mergeSort (le:=λ(x y:Ay)=>decide (x≤y)) (λa b c h1 h2=>by
   simp only[Kk] at *;exact List.le_trans h1 h2) (λa b=>by
   simp only[K6,Kk];exact List.le_total a b) ss
  exact this.imp (λh=>by simpa using h)
 have h:=CG _ hs _ (KF _);unfold AA Lib.compact;refine⟨h.1,λx=>?_⟩;rw[h.2,List.take_length,List.mem_mergeSort]
def A2:List Ay→Ay→Nat
 | [],_=>0
 | y::r,x=>if y<x then A2 r x+1 else 0
theorem C9:∀(o:List Ay) (x:Ay),A2 o x≤o.length
 | [],_=>KF _
 | y::r,x=>by have:=C9 r x;unfold A2;split<;>simp;omega
def DS (o:List Ay)(x:Ay):List Ay:=if A2 o x=o.length∨CK o (A2 o x)≠x then o.take (A2 o x)++[x]++o.drop (A2 o x) else o
def CL (l:List Ay)(k:Nat):List Ay:=(l.take k).foldl DS []
theorem Ej:∀(o:List Ay) (x:Ay),∀y∈o.take (A2 o x),y<x
 | [],x,y,h=>by simp at h
 | z::r,x,y,h=>by
  unfold A2 at h
  split at h
  ·rename_i hz
   rcases List.mem_cons.1 (by simpa using h) with rfl | h
   ·exact hz
   ·exact Ej r x y h
  ·simp at h
theorem Ek:∀(o:List Ay) (x:Ay),A2 o x<o.length→¬ CK o (A2 o x)<x
 | [],x,h=>by simp[A2] at h
 | z::r,x,h=>by
  unfold A2 at h ⊢
  by_cases hz:z<x
  ·rw[if_pos hz] at h ⊢;have:=Ek r x (by simpa using h);have e:CK (z::r) ((A2 r x+1:Nat):Int)=CK r (A2 r x):=by simp[CK]
   rw[e];exact this
  ·rw[if_neg hz];simpa[CK] using hz
theorem Gn {o:List Ay}(h:o.Pairwise (· < ·))(x:Ay):(DS o x).Pairwise (· < ·)∧∀z,z∈DS o x↔z∈o∨z=x:=by
 unfold DS
 by_cases hc:A2 o x=o.length∨CK o (A2 o x)≠x
 ·rw[if_pos hc];have hsplit:o=o.take (A2 o x)++o.drop (A2 o x):=(List.take_append_drop _ _).symm;have hp:=h;rw[hsplit] at hp;obtain⟨p1,p2,p3⟩:=List.pairwise_append.1 hp;have hgt:∀y∈o.drop (A2 o x),x<y:=λy hy=>by
   have hlt:A2 o x<o.length:=by
    rcases Nat.lt_or_ge (A2 o x) o.length with h' | h'
    ·exact h'
    ·rw[List.drop_of_length_le h'] at hy;simp at hy
   have hne:CK o (A2 o x)≠x:=hc.resolve_left (by omega);have hge:=Ek o x hlt;have hx:x<CK o (A2 o x):=by
    rcases Ev x (CK o (A2 o x)) with e | e | e
    ·exact e
    ·exact absurd e.symm hne
    ·exact absurd e hge
   rw[List.drop_eq_getElem_cons hlt] at hy p2;have e0:o[A2 o x]=CK o (A2 o x):=by simp[CK,hlt]
   rcases List.mem_cons.1 hy with rfl | hy
   ·rw[e0];exact hx
   ·exact Df hx (by rw[← e0];exact(List.pairwise_cons.1 p2).1 y hy)
  refine⟨?_,λz=>?_⟩
  ·rw[List.append_assoc];refine List.pairwise_append.2 ⟨p1,List.pairwise_cons.2 ⟨hgt,p2⟩,λa ha b hb=>?_⟩;rcases List.mem_cons.1 hb with rfl | hb
   ·exact Ej o _ a ha
   ·exact p3 a ha b hb
  ·conv=>rhs;rw[hsplit]
   simp only[List.mem_append,K4];constructor
   ·rintro((h | h) | h)
    ·exact .inl (.inl h)
    ·exact .inr h
    ·exact .inl (.inr h)
   ·rintro((h | h) | h)
    ·exact .inl (.inl h)
    ·exact .inr h
    ·exact .inl (.inr h)
 ·rw[if_neg hc];simp only[not_or,ne_eq,Decidable.not_not] at hc;refine⟨h,λz=>⟨.inl,?_⟩⟩;rintro(hz | rfl)
  ·exact hz
  ·have hlt:A2 o z<o.length:=by have:=C9 o z;omega
   have e0:o[A2 o z]=CK o (A2 o z):=by simp[CK,hlt]
   have e1:o[A2 o z]=z:=e0.trans hc.2;have:=List.getElem_mem hlt
   rwa [e1] at this
theorem EK {l:List Ay}{k:Nat}(h:k<l.length):CL l (k+1)=DS (CL l k) (CK l k):=by
 unfold CL;rw[B2 h,List.foldl_append];rfl
theorem Co (l:List Ay):∀k,k≤l.length→(CL l k).Pairwise (· < ·)∧(∀z,z∈CL l k↔z∈l.take k)∧(CL l k).length≤k
 | 0,_=>by simp[CL]
 | k+1,hk=>by
  obtain⟨h1,h2,h3⟩:=Co l k (by omega);have hi:=Gn h1 (CK l k);rw[EK (by omega)];refine⟨hi.1,λz=>?_,?_⟩
  ·rw[hi.2,h2,B2 (by omega),List.mem_append,K4]
  ·unfold DS
   split
   ·simp;have:=C9 (CL l k) (CK l k);omega
   ·omega
theorem D8 (l:List Ay):CL l l.length=AA l:=by
 have h1:=Co l l.length (KF _);have h2:=DP l;refine Dp _ _ h1.1 h2.1 λz=>?_;rw[h1.2.1,h2.2,List.take_length]
def Ba (ys:(List Ay))(x:Ay)(ha:Int):Option (Stp (Int) (Out (Int) (Unit))):=
 DU (decide (ha<(ys.length:Int))) (Dd (DM ha (ys.length:Int))<|DU (decide (x=(AN ys ha))) (some (.out (.ret ha))) (Dd (D2 .i64 (ha+1))<|some (.next (ha+1)))) (some (.out (.go ())))
def Cl :Option (Int):=
 some (-1)
def Dz (F:Nat)(ys:(List Ay))(x:Ay):Option (Int):=
 Gb (DF (λσ=>Ba ys x σ) F 0) (DQ λν=>Cl )
def Cm (F:Nat)(ys:(List Ay))(x:Ay):Option (Bool):=
 Gb (Dz F ys x) λr1=>some (decide (0≤r1))
def HP (F:Nat)(l:(List Ay))(s:Ay):Option (Bool):=
 Gb (Cm F l s) λr1=>some r1
def BN (l:(List Ay))(s:Ay)(ha:Int):Option (Stp (Int) (Out (Bool) (Unit))):=
 DU (decide (ha<(l.length:Int))) (Dd (DM ha (l.length:Int))<|DU (decide ((AN l ha)=s)) (some (.out (.ret true))) (Dd (D2 .i64 (ha+1))<|some (.next (ha+1)))) (some (.out (.go ())))
def D0 :Option (Bool):=
 some false
def H4 (F:Nat)(l:(List Ay))(s:Ay):Option (Bool):=
 Gb (DF (λσ=>BN l s σ) F 0) (DQ λν=>D0 )
def Bw (ha:Int)(hb:(List Ay)):Option (Stp ((List Ay)×Int) (Out ((List Ay)) ((List Ay)))):=
 Dd (D2 .i64 (ha+1))<|some (.next (hb,ha+1))
def Bg (l:(List Ay))(hb:(List Ay))(hc:Int)(ha:Int):Option (Stp (Int) (Out (Stp ((List Ay)×Int) (Out ((List Ay)) ((List Ay)))) (Int×Bool))):=
 Dd (imp (decide (ha<(hb.length:Int))) (DM ha (hb.length:Int)))<|Dd (imp (decide (ha<(hb.length:Int))) (DM hc (l.length:Int)))<|DU (((decide (ha<(hb.length:Int)))&&(Bc (AN hb ha) (AN l hc)))) (Dd (D2 .i64 (ha+1))<|some (.next (ha+1))) (some (.out (.go (ha,((decide (ha<(hb.length:Int)))&&(Bc (AN hb ha) (AN l hc)))))))
def Bv (l:(List Ay))(ha:(List Ay))(hc:Int)(hb:Int)(hd:Bool):Option (Stp ((List Ay)×Int) (Out ((List Ay)) ((List Ay)))):=
 Dd (imp (!(decide (hb=(ha.length:Int)))) (DM hb (ha.length:Int)))<|Dd (imp (!(decide (hb=(ha.length:Int)))) (DM hc (l.length:Int)))<|DU (((decide (hb=(ha.length:Int)))||(!decide ((AN ha hb)=(AN l hc))))) (Dd (Ih hb (ha.length:Int))<|Dd (I4 16 (([]:List Ay).length+(List.take (Int.toNat hb) ha).length))<|Dd (DM hc (l.length:Int))<|Dd (I4 16 ((([]:List Ay)++(List.take (Int.toNat hb) ha)).length+([AN l hc]:List Ay).length))<|Dd (I4 16 (((([]:List Ay)++(List.take (Int.toNat hb) ha))++([AN l hc]:List Ay)).length+(List.drop (Int.toNat hb) ha).length))<|Bw hc (((([]:List Ay)++(List.take (Int.toNat hb) ha))++([AN l hc]:List Ay))++(List.drop (Int.toNat hb) ha))) (Bw hc ha)
def Bx (F:Nat)(l:(List Ay))(ha:(List Ay))(hb:Int):Option (Stp ((List Ay)×Int) (Out ((List Ay)) ((List Ay)))):=
 DU (decide (hb<(l.length:Int))) (Gb (DF (λσ=>Bg l ha hb σ) F 0) (DQ λν=>Bv l ha hb ν.1 ν.2)) (some (.out (.go ha)))
def Cp (ha:(List Ay)):Option ((List Ay)):=
 some ha
def CS (F:Nat)(l:(List Ay)):Option ((List Ay)):=
 Gb (DF (λσ=>Bx F l σ.1 σ.2) F (([]:List Ay),0)) (DQ λν=>Cp ν)
def By (a:(List Ay))(b:(List Ay))(ha:Int):Option (Stp (Int) (Out (Bool) (Unit))):=
 DU (decide (ha<(a.length:Int))) (Dd (DM ha (a.length:Int))<|Dd (DM ha (b.length:Int))<|DU (!decide ((AN a ha)=(AN b ha))) (some (.out (.ret false))) (Dd (D2 .i64 (ha+1))<|some (.next (ha+1)))) (some (.out (.go ())))
def Cq :Option (Bool):=
 some true
def Cr (F:Nat)(a:(List Ay))(b:(List Ay)):Option (Bool):=
 DU (!decide ((a.length:Int)=(b.length:Int))) (some false) (Gb (DF (λσ=>By a b σ) F 0) (DQ λν=>Cq ))
end Go.Proofs.YthjcjnbngagagaaDoor
namespace Go.Proofs.YthjcjnbngagagaaDoor.Q
open Go Go.RowKit
set_option linter.unusedVariables false
set_option linter.unusedSimpArgs false
set_option maxRecDepth 100000
set_option maxHeartbeats 4000000
theorem G4:∃inf,Tryd.prog.info? 9=some inf∧inf.zero=some (.string ⟨#[]⟩)∧inf.size=1∧inf.bytes=16:=by
  have key:(Tryd.prog.info? 9).map (λi=>(i.zero,i.size,i.bytes))=some (some (.string ⟨#[]⟩),1,16):=by kernel_rfl
  obtain⟨inf,h1,h2⟩:=Option.map_eq_some_iff.1 key;simp only[Prod.mk.injEq] at h2;exact⟨inf,h1,h2.1,h2.2.1,h2.2.2⟩
theorem GO (F:Nat)(ys:(List Ay))(x:Ay)(r:Int)(h:Dz F ys x=some r):Fn Tryd.prog GE 36 [Bk 1 (List.map eS ys),rS x] [] (λR H=>R=rI .i64 r∧H=[]):=by
 refine enter (n:=19) Tryd.func36 rfl Tryd.ntmps36 rfl (λw Z=>?_);refine B6 (l':=[(0,Bk 1 (List.map eS ys)),(1,rS x)]) (H':=[]) rfl rfl ?_;unfold Dz at h;refine AD (wv (r:=rI .i64 0) (Ab rfl) (AZ (Ai (AD (wm rfl (wv (C2 (ys:=ys) (enc:=eS) AL rfl) (wv (r:=rI .i64 0) (Ac rfl) (AZ (A5 ?_)))))))));obtain⟨hi,hj,hg⟩:=BO h;refine BZ (S:=Nat×(Int)×(Unit)) (V:=(Unit)×(Unit)) 0 (λσ=>DF (λσ=>Ba ys x σ) σ.1 σ.2.1=some hi) (λσ=>[(0,Bk 1 (List.map eS ys)),(1,rS x),(7,rI .i64 (ys.length:Int)),(8,rI .i64 σ.2.1)]) (λσ=>[]) (λσ=>σ.1) (F,0,()) hj (A9.c rfl (A9.c rfl (A9.c rfl (A9.c rfl A9.nil)))) sN (λσ=>Cl =some r) (λσ=>[]) (λσ=>[]) ?_ ?_
 ·rintro⟨hx,ha,⟨⟩⟩ hk;refine B6 (l':=[(0,Bk 1 (List.map eS ys)),(1,rS x),(7,rI .i64 (ys.length:Int)),(8,rI .i64 ha)]) (H':=[]) rfl rfl ?_;obtain⟨hl,rfl,hm,hb,hd⟩:=Ef hk;replace hb:Ba ys x ha=some hm:=hb;unfold Ba at hb;refine AD (wv (Dl rfl rfl) (AZ (Ai (A0 (b:=decide (ha<(ys.length:Int))) rfl (λhe=>?_) (λhe=>?_)))))
  ·have hn:=B8 he hb;refine Ax (BU (Ai (A5 (AD (wm rfl (wa rfl (GH (wm rfl (wm rfl (wm rfl ?_))))))))));obtain⟨ho,hh⟩:=Bd hn;refine wv (Dm (enc:=eS) (ys:=ys) AL Ds rfl rfl ho) (wv (Cf Hq rfl rfl) (wv (CU rfl rfl) (AZ (A0 (b:=decide (x=(AN ys ha))) rfl (λhf=>?_) (λhf=>?_)))))
   ·have hp:=B8 hf hh;refine AD (wm rfl (wa rfl (AZ (Aq (A7 (An (An (CI ?_))))))));have hq:=Ew hp hd hg;refine A7 (An ?_);obtain rfl:=Bn hq;exact Ap (B3 Tryd.results36 (Di rfl)) sN ⟨rfl,rfl⟩
   ·have hr:=B9 hf hh;refine Ax (AC (BU (Ae ?_)));obtain⟨hs,ht⟩:=Bd hr;refine wv (C3 rfl rfl hs) (wm rfl (Ag ?_));have hu:=Cb ht hd;exact Ad (A8 (hl,ha+1,()) ⟨hu,Nat.lt_succ_self _⟩ (A9.c rfl (A9.c rfl (A9.c rfl (A9.c rfl A9.nil)))) sN)
  ·have hv:=B9 he hb;refine Bf (Av ?_);have hw:=Dg hv hd hg;exact Av (Bu (A8 ((),()) hw A9.nil sN))
 ·rintro⟨⟨⟩,⟨⟩⟩ hc;refine DW (l':=[]) (H':=[]) rfl rfl ?_;replace hc:Cl =some r:=hc;unfold Cl at hc;refine AJ (BU (AD (wv (r:=rI .i64 (-1)) (Ab rfl) (AZ (Aq ?_)))));obtain rfl:=Bn hc;exact Ap (B3 Tryd.results36 (Di rfl)) sN ⟨rfl,rfl⟩
theorem Ey (F:Nat)(ys:(List Ay))(x:Ay)(r:Bool)(h:Cm F ys x=some r):Fn Tryd.prog GE 22 [Bk 1 (List.map eS ys),rS x] [] (λR H=>R=rB r∧H=[]):=by
 refine enter (n:=9) Tryd.func22 rfl Tryd.ntmps22 rfl (λw Z=>?_);refine B6 (l':=[(0,Bk 1 (List.map eS ys)),(1,rS x)]) (H':=[]) rfl rfl ?_;unfold Cm at h;refine AD (wv (r:=rB false) (Ab rfl) (GH (wm rfl (wm rfl ?_))));obtain⟨r1,e3,h2⟩:=BO h;refine JA Tryd.call36 (GO F ys x r1 e3) rfl (wv (Dw rfl rfl) (wa rfl (AZ (Aq ?_))));obtain rfl:=Bn h2;exact Ap (B3 Tryd.results22 (Di rfl)) sN ⟨rfl,rfl⟩
theorem Js (F:Nat)(l:(List Ay))(s:Ay)(r:Bool)(h:HP F l s=some r):Fn Tryd.prog GE 8 [Bk 1 (List.map eS l),rS s] [] (λR H=>R=rB r∧H=[]):=by
 refine enter (n:=8) Tryd.func8 rfl Tryd.ntmps8 rfl (λw Z=>?_);refine B6 (l':=[(0,Bk 1 (List.map eS l)),(1,rS s)]) (H':=[]) rfl rfl ?_;unfold HP at h;refine AD (wv (r:=rB false) (Ab rfl) (GH (wm rfl (wm rfl ?_))));obtain⟨r1,e3,h2⟩:=BO h;refine JA Tryd.call22 (Ey F l s r1 e3) rfl (wa rfl (AZ (Aq ?_)));obtain rfl:=Bn h2;exact Ap (B3 Tryd.results8 (Di rfl)) sN ⟨rfl,rfl⟩
theorem Ji (F:Nat)(l:(List Ay))(s:Ay)(r:Bool)(h:H4 F l s=some r):Fn Tryd.prog GE 9 [Bk 1 (List.map eS l),rS s] [] (λR H=>R=rB r∧H=[]):=by
 refine enter (n:=18) Tryd.func9 rfl Tryd.ntmps9 rfl (λw Z=>?_);refine B6 (l':=[(0,Bk 1 (List.map eS l)),(1,rS s)]) (H':=[]) rfl rfl ?_;unfold H4 at h;refine AD (wv (r:=rB false) (Ab rfl) (AZ (Ai (AD (wv (r:=rI .i64 0) (Ab rfl) (AZ (A5 ?_)))))));obtain⟨hi,hj,hg⟩:=BO h;refine BZ (S:=Nat×(Int)×(Unit)) (V:=(Unit)×(Unit)) 0 (λσ=>DF (λσ=>BN l s σ) σ.1 σ.2.1=some hi) (λσ=>[(0,Bk 1 (List.map eS l)),(1,rS s),(5,rI .i64 σ.2.1)]) (λσ=>[]) (λσ=>σ.1) (F,0,()) hj (A9.c rfl (A9.c rfl (A9.c rfl A9.nil))) sN (λσ=>D0 =some r) (λσ=>[]) (λσ=>[]) ?_ ?_
 ·rintro⟨hx,ha,⟨⟩⟩ hk;refine B6 (l':=[(0,Bk 1 (List.map eS l)),(1,rS s),(5,rI .i64 ha)]) (H':=[]) rfl rfl ?_;obtain⟨hl,rfl,hm,hb,hd⟩:=Ef hk;replace hb:BN l s ha=some hm:=hb;unfold BN at hb;refine Ai (AD (wm rfl (wm rfl (wv (C2 (ys:=l) (enc:=eS) AL rfl) (wv (Dl rfl rfl) (AZ (A0 (b:=decide (ha<(l.length:Int))) rfl (λhe=>?_) (λhe=>?_))))))))
  ·have hn:=B8 he hb;refine Ax (BU (Ai (A5 (AD (wm rfl (wm rfl ?_))))));obtain⟨ho,hh⟩:=Bd hn;refine wv (Dm (enc:=eS) (ys:=l) AL Ds rfl rfl ho) (wv (Cf Hq rfl rfl) (wm rfl (wv (CU rfl rfl) (AZ (A0 (b:=decide ((AN l ha)=s)) rfl (λhf=>?_) (λhf=>?_))))))
   ·have hp:=B8 hf hh;refine AD (wv (r:=rB true) (Ab rfl) (AZ (Aq (A7 (An (An (CI ?_)))))));have hq:=Ew hp hd hg;refine A7 (An ?_);obtain rfl:=Bn hq;exact Ap (B3 Tryd.results9 (Di rfl)) sN ⟨rfl,rfl⟩
   ·have hr:=B9 hf hh;refine Ax (AC (BU (Ae (wm rfl ?_))));obtain⟨hs,ht⟩:=Bd hr;refine wv (C3 rfl rfl hs) (wa rfl (Ag ?_));have hu:=Cb ht hd;exact Ad (A8 (hl,ha+1,()) ⟨hu,Nat.lt_succ_self _⟩ (A9.c rfl (A9.c rfl (A9.c rfl A9.nil))) sN)
  ·have hv:=B9 he hb;refine Bf (Av ?_);have hw:=Dg hv hd hg;exact Av (Bu (A8 ((),()) hw A9.nil sN))
 ·rintro⟨⟨⟩,⟨⟩⟩ hc;refine DW (l':=[]) (H':=[]) rfl rfl ?_;replace hc:D0 =some r:=hc;unfold D0 at hc;refine AJ (BU (AD (wv (r:=rB false) (Ab rfl) (AZ (Aq ?_)))));obtain rfl:=Bn hc;exact Ap (B3 Tryd.results9 (Di rfl)) sN ⟨rfl,rfl⟩
theorem GQ (F:Nat)(l:(List Ay))(r:(List Ay))(h:CS F l=some r):Fn Tryd.prog GE 7 [Bk 1 (List.map eS l)] [] (λR H=>R=Bk 1 (List.map eS r)∧H=[]):=by
 refine enter (n:=64) Tryd.func7 rfl Tryd.ntmps7 rfl (λw Z=>?_);refine B6 (l':=[(0,Bk 1 (List.map eS l))]) (H':=[]) rfl rfl ?_;unfold CS at h;refine AD (wv (r:=rv (.slice none 0 0)) (Ab rfl) (GH (AK (ys:=([]:List Ay)) (enc:=eS) (css:=[]) (xs:=[]) AL Ds IX rfl rfl rfl trivial rfl Cs rfl rfl rfl (λb1=>?_))));refine wa rfl (AZ (Ai (AD (wv (r:=rI .i64 0) (Ab rfl) (AZ (A5 ?_))))));obtain⟨h2,h3,h4⟩:=BO h;refine BZ (S:=Nat×((List Ay)×Int)×(Value)) (V:=((List Ay))×(Value)) 0 (λσ=>DF (λσ=>Bx F l σ.1 σ.2) σ.1 σ.2.1=some h2) (λσ=>[(0,Bk 1 (List.map eS l)),(3,rv σ.2.2),(4,rI .i64 σ.2.1.2)]) (λσ=>[.row σ.2.2 9 1 (List.map eS σ.2.1.1)]) (λσ=>σ.1) (F,(([]:List Ay),0),(.slice (some ⟨b1,0,none⟩) 0 0)) h3 (A9.c rfl (A9.c rfl (A9.c rfl A9.nil))) (sC sN) (λσ=>Cp σ.1=some r) (λσ=>[(3,rv σ.2)]) (λσ=>[.row σ.2 9 1 (List.map eS σ.1)]) ?_ ?_
 ·rintro⟨gf,⟨ha,hb⟩,hg⟩ h5;refine B6 (l':=[(0,Bk 1 (List.map eS l)),(3,rv hg),(4,rI .i64 hb)]) (H':=[.row hg 9 1 (List.map eS ha)]) rfl rfl ?_;obtain⟨h6,rfl,hh,hi,ht⟩:=Ef h5;replace hi:Bx F l ha hb=some hh:=hi;unfold Bx at hi;refine Ai (AD (wm rfl (wm rfl (wv (C2 (ys:=l) (enc:=eS) AL rfl) (wv (Dl rfl rfl) (AZ (A0 (b:=decide (hb<(l.length:Int))) rfl (λhn=>?_) (λhn=>?_))))))))
  ·have h7:=B8 hn hi;refine Ax (BU (Cj (S:=((List Ay))×(Value)) (λσ=>Bw hb σ.1=some hh) (λσ=>[(0,Bk 1 (List.map eS l)),(3,rv σ.2),(4,rI .i64 hb)]) (λσ=>[.row σ.2 9 1 (List.map eS σ.1)]) ?_ ?_))
   ·refine A5 (AD (wv (r:=rI .i64 0) (Ab rfl) (AZ (Ai (A5 ?_)))));obtain⟨h8,h9,hA⟩:=BO h7;refine BZ (S:=Nat×(Int)×(Unit)) (V:=(Int×Bool)×(Unit)) 2 (λσ=>DF (λσ=>Bg l ha hb σ) σ.1 σ.2.1=some h8) (λσ=>[(0,Bk 1 (List.map eS l)),(3,rv hg),(4,rI .i64 hb),(5,rI .i64 σ.2.1)]) (λσ=>[.row hg 9 1 (List.map eS ha)]) (λσ=>σ.1) (F,0,()) h9 (A9.c rfl (A9.c rfl (A9.c rfl (A9.c rfl A9.nil)))) (sC sN) (λσ=>Bv l ha hb σ.1.1 σ.1.2=some hh) (λσ=>[(0,Bk 1 (List.map eS l)),(3,rv hg),(4,rI .i64 hb),(5,rI .i64 σ.1.1),(28,rB σ.1.2)]) (λσ=>[.row hg 9 1 (List.map eS ha)]) ?_ ?_
    ·rintro⟨gg,hf,⟨⟩⟩ hB;refine B6 (l':=[(0,Bk 1 (List.map eS l)),(3,rv hg),(4,rI .i64 hb),(5,rI .i64 hf)]) (H':=[.row hg 9 1 (List.map eS ha)]) rfl rfl ?_;obtain⟨hC,rfl,hD,hj,hu⟩:=Ef hB;replace hj:Bg l ha hb hf=some hD:=hj;unfold Bg at hj;refine Ai ?_;obtain⟨hv,hE⟩:=Bd hj;obtain⟨hF,hw⟩:=Bd hE;refine Az [(0,Bk 1 (List.map eS l)),(3,rv hg),(4,rI .i64 hb),(5,rI .i64 hf),(28,rB ((decide (hf<(ha.length:Int)))&&(Bc (AN ha hf) (AN l hb))))] [.row hg 9 1 (List.map eS ha)] ?_ ?_
     ·refine A1 (decide (hf<(ha.length:Int))) (λhd=>?_) (λhd=>?_)
      ·refine D5 [0,3,4,5] [⟨[],rI .i64 hf,0⟩,⟨[],rv hg,0⟩,⟨[1],rI .i64 (ha.length:Int),1⟩,⟨[0,2],rB (decide (hf<(ha.length:Int))),0⟩,⟨[3],rB (decide (hf<(ha.length:Int))),0⟩,⟨[4],rv hg,0⟩,⟨[4],rI .i64 hf,0⟩,⟨[5,6,4],rv (DN 1 hg (Int.toNat hf) 0),1⟩,⟨[7,4],rS (AN ha hf),1⟩,⟨[4],Bk 1 (List.map eS l),0⟩,⟨[4],rI .i64 hb,0⟩,⟨[9,10,4],JB [rS (AN l hb)],0⟩,⟨[11,4],rS (AN l hb),0⟩,⟨[8,12,4],rB (Bc (AN ha hf) (AN l hb)),0⟩,⟨[4,13],rB (Bc (AN ha hf) (AN l hb)),0⟩] [28,0,3,4,5] ?_ ?_
       ·refine oq (Ac rfl) (oq (Ac rfl) (of (BL (ys:=ha) (enc:=eS) (i:=0) AL rfl rfl) (oq (Dl rfl rfl) (oq (Ac rfl) (on hd (oq (Ac rfl) (on hd (oq (Ac rfl) (on hd (of (DD (i:=0) AL Ds rfl rfl rfl (D1 (HM hv hd))) (on hd (of (E2 (enc:=eS) (ys:=ha) (i:=0) (j:=hf) Hq rfl rfl (HM hv hd) rfl) (on hd (oq (Ac rfl) (on hd (oq (Ac rfl) (on hd (oq (Dm (enc:=eS) (ys:=l) AL Ds rfl rfl (HM hF hd)) (on hd (oq (Cf Hq rfl rfl) (on hd (oq (IN rfl rfl) (oq (Al rfl hd rfl) ?_)))))))))))))))))))))));exact EQ
       exact JO hd
      ·refine D5 [0,3,4,5] [⟨[],rI .i64 hf,0⟩,⟨[],rv hg,0⟩,⟨[1],rI .i64 (ha.length:Int),1⟩,⟨[0,2],rB (decide (hf<(ha.length:Int))),0⟩,⟨[3],rB (decide (hf<(ha.length:Int))),0⟩,⟨[4],rv undef,0⟩,⟨[4],rv undef,0⟩,⟨[5,6,4],rv undef,0⟩,⟨[7,4],rv undef,0⟩,⟨[4],rv undef,0⟩,⟨[4],rv undef,0⟩,⟨[9,10,4],rv undef,0⟩,⟨[11,4],rv undef,0⟩,⟨[8,12,4],rv undef,0⟩,⟨[4,13],rB false,0⟩] [28,0,3,4,5] ?_ ?_
       ·refine oq (Ac rfl) (oq (Ac rfl) (of (BL (ys:=ha) (enc:=eS) (i:=0) AL rfl rfl) (oq (Dl rfl rfl) (oq (Ac rfl) (oz hd (oz hd (oz hd (oz hd (oz hd (oz hd (oz hd (oz hd (oz hd (oq (Am (b:=decide (hf<(ha.length:Int))) rfl hd rfl) ?_))))))))))))));exact EQ
       exact JO hd
     refine A0 (b:=((decide (hf<(ha.length:Int)))&&(Bc (AN ha hf) (AN l hb)))) rfl (λho=>?_) (λho=>?_)
     ·have hG:=B8 ho hw;refine Ax (BU (A5 (Ae (wm rfl ?_))));obtain⟨hH,hI⟩:=Bd hG;refine wv (C3 rfl rfl hH) (wa rfl (Ag (AC ?_)));have hJ:=Cb hI hu;exact Ad (A8 (hC,hf+1,()) ⟨hJ,Nat.lt_succ_self _⟩ (A9.c rfl (A9.c rfl (A9.c rfl (A9.c rfl A9.nil)))) (sC sN))
     ·have hK:=B9 ho hw;refine Bf (Av ?_);have hL:=Dg hK hu hA;exact Av (Bu (A8 ((hf,((decide (hf<(ha.length:Int)))&&(Bc (AN ha hf) (AN l hb)))),()) hL (A9.c5 rfl rfl rfl rfl rfl A9.nil) (sC sN)))
    ·rintro⟨⟨hc,hx⟩,⟨⟩⟩ hk;refine DW (l':=[(0,Bk 1 (List.map eS l)),(3,rv hg),(4,rI .i64 hb),(5,rI .i64 hc),(28,rB hx)]) (H':=[.row hg 9 1 (List.map eS ha)]) rfl rfl ?_;replace hk:Bv l ha hb hc hx=some hh:=hk;unfold Bv at hk;refine AJ (BU ?_);obtain⟨hy,hM⟩:=Bd hk;obtain⟨hN,hz⟩:=Bd hM;refine Az [(0,Bk 1 (List.map eS l)),(3,rv hg),(4,rI .i64 hb),(5,rI .i64 hc),(45,rB ((decide (hc=(ha.length:Int)))||(!decide ((AN ha hc)=(AN l hb)))))] [.row hg 9 1 (List.map eS ha)] ?_ ?_
     ·refine A1 (decide (hc=(ha.length:Int))) (λhe=>?_) (λhe=>?_)
      ·refine D5 [0,3,4,5] [⟨[],rI .i64 hc,0⟩,⟨[],rv hg,0⟩,⟨[1],rI .i64 (ha.length:Int),1⟩,⟨[0,2],rB (decide (hc=(ha.length:Int))),0⟩,⟨[3],rB (decide (hc=(ha.length:Int))),0⟩,⟨[4],rv undef,0⟩,⟨[4],rv undef,0⟩,⟨[5,6,4],rv undef,0⟩,⟨[7,4],rv undef,0⟩,⟨[4],rv undef,0⟩,⟨[4],rv undef,0⟩,⟨[9,10,4],rv undef,0⟩,⟨[11,4],rv undef,0⟩,⟨[8,12,4],rv undef,0⟩,⟨[4,13],rB true,0⟩] [45,0,3,4,5] ?_ ?_
       ·refine oq (Ac rfl) (oq (Ac rfl) (of (BL (ys:=ha) (enc:=eS) (i:=0) AL rfl rfl) (oq (Cg rfl rfl) (oq (Ac rfl) (oz he (oz he (oz he (oz he (oz he (oz he (oz he (oz he (oz he (oq (Al (b:=decide (hc=(ha.length:Int))) rfl he rfl) ?_))))))))))))));exact EQ
       exact JO he
      ·refine D5 [0,3,4,5] [⟨[],rI .i64 hc,0⟩,⟨[],rv hg,0⟩,⟨[1],rI .i64 (ha.length:Int),1⟩,⟨[0,2],rB (decide (hc=(ha.length:Int))),0⟩,⟨[3],rB (decide (hc=(ha.length:Int))),0⟩,⟨[4],rv hg,0⟩,⟨[4],rI .i64 hc,0⟩,⟨[5,6,4],rv (DN 1 hg (Int.toNat hc) 0),1⟩,⟨[7,4],rS (AN ha hc),1⟩,⟨[4],Bk 1 (List.map eS l),0⟩,⟨[4],rI .i64 hb,0⟩,⟨[9,10,4],JB [rS (AN l hb)],0⟩,⟨[11,4],rS (AN l hb),0⟩,⟨[8,12,4],rB (!decide ((AN ha hc)=(AN l hb))),0⟩,⟨[4,13],rB (!decide ((AN ha hc)=(AN l hb))),0⟩] [45,0,3,4,5] ?_ ?_
       ·refine oq (Ac rfl) (oq (Ac rfl) (of (BL (ys:=ha) (enc:=eS) (i:=0) AL rfl rfl) (oq (Cg rfl rfl) (oq (Ac rfl) (on he (oq (Ac rfl) (on he (oq (Ac rfl) (on he (of (DD (i:=0) AL Ds rfl rfl rfl (D1 (HN hy he))) (on he (of (E2 (enc:=eS) (ys:=ha) (i:=0) (j:=hc) Hq rfl rfl (HN hy he) rfl) (on he (oq (Ac rfl) (on he (oq (Ac rfl) (on he (oq (Dm (enc:=eS) (ys:=l) AL Ds rfl rfl (HN hN he)) (on he (oq (Cf Hq rfl rfl) (on he (oq (Ce rfl rfl) (oq (Am rfl he rfl) ?_)))))))))))))))))))))));exact EQ
       exact JO he
     refine A0 (b:=((decide (hc=(ha.length:Int)))||(!decide ((AN ha hc)=(AN l hb))))) rfl (λhp=>?_) (λhp=>?_)
     ·have hO:=B8 hp hz;refine AD (AK (ys:=([]:List Ay)) (enc:=eS) (css:=[]) (xs:=[]) AL Ds IX rfl rfl rfl trivial rfl Cs rfl rfl rfl (λgh=>?_));refine wm rfl (wm rfl (WL.freeze (i:=1) rfl (WL.up (d:=47) (r:=Bk 1 (List.map eS ha)) rfl (Up.fact (i:=0) rfl) ?_)));obtain⟨h0,hP⟩:=Bd hO;refine wv (r:=Bk 1 (List.map eS (List.take (Int.toNat hc) ha))) (Gk AL Ds rfl rfl h0) ?_;obtain⟨hQ,hR⟩:=Bd hP;obtain⟨inf,hinf⟩:=G4;refine C0 (xs:=([]:List Ay)) (ys:=List.take (Int.toNat hc) ha) (enc:=eS) (i:=1) AL hinf.1 hinf.2.1 hinf.2.2.1 hinf.2.2.2 rfl rfl rfl rfl rfl (Ic.z rfl rfl) Cs E6 hQ rfl (λgi=>?_);refine wa rfl (GH (wm rfl (wm rfl (wm rfl ?_))));obtain⟨hS,hT⟩:=Bd hR;refine wv (Dm (enc:=eS) (ys:=l) AL Ds rfl rfl hS) (wv (Cf Hq rfl rfl) (AK (ys:=([AN l hb]:List Ay)) (enc:=eS) (css:=[[rS (AN l hb)]]) (xs:=[.tmp 55]) AL Ds IX rfl rfl rfl ⟨J9.one rfl (Up.refl _),trivial⟩ rfl Cs rfl rfl rfl (λgj=>?_)));obtain⟨hU,hV⟩:=Bd hT;obtain⟨inf,hinf⟩:=G4;refine C0 (xs:=([]:List Ay)++(List.take (Int.toNat hc) ha)) (ys:=([AN l hb]:List Ay)) (enc:=eS) (i:=1) AL hinf.1 hinf.2.1 hinf.2.2.1 hinf.2.2.2 rfl rfl rfl rfl rfl (Ic.w (i:=0) rfl rfl) Cs E6 hU rfl (λgk=>?_);refine wa rfl (AZ (Ae (wm rfl (wm rfl (wm rfl (WL.up (d:=59) (r:=Bk 1 (List.map eS ha)) rfl (Up.fact (i:=2) rfl) (wv (r:=Bk 1 (List.map eS (List.drop (Int.toNat hc) ha))) (Gj AL Ds rfl rfl h0) ?_)))))));obtain⟨hW,hX⟩:=Bd hV;obtain⟨inf,hinf⟩:=G4;refine C0 (xs:=(([]:List Ay)++(List.take (Int.toNat hc) ha))++([AN l hb]:List Ay)) (ys:=List.drop (Int.toNat hc) ha) (enc:=eS) (i:=0) AL hinf.1 hinf.2.1 hinf.2.2.1 hinf.2.2.2 rfl rfl rfl rfl rfl (Ic.z rfl rfl) Cs E6 hW rfl (λhY=>?_);exact wa rfl (Ag (AC (Ad (A8 (((([]:List Ay)++(List.take (Int.toNat hc) ha))++([AN l hb]:List Ay))++(List.drop (Int.toNat hc) ha),hY) hX (A9.c rfl (A9.c rfl (A9.c rfl A9.nil))) (sC (sS (sS sN)))))))
     ·have hZ:=B9 hp hz;exact Ax (AC (Ad (A8 (ha,hg) hZ (A9.c rfl (A9.c rfl (A9.c rfl A9.nil))) (sC sN))))
   ·rintro⟨hq,hr⟩ hl;refine B6 (l':=[(0,Bk 1 (List.map eS l)),(3,rv hr),(4,rI .i64 hb)]) (H':=[.row hr 9 1 (List.map eS hq)]) rfl rfl ?_;replace hl:Bw hb hq=some hh:=hl;unfold Bw at hl;refine Ae (wm rfl ?_);obtain⟨ga,gb⟩:=Bd hl;refine wv (C3 rfl rfl ga) (wa rfl (Ag ?_));have gc:=Cb gb ht;exact Ad (A8 (h6,(hq,hb+1),hr) ⟨gc,Nat.lt_succ_self _⟩ (A9.c rfl (A9.c rfl (A9.c rfl A9.nil))) (sC sN))
  ·have gd:=B9 hn hi;refine Bf (Av ?_);have ge:=Dg gd ht h4;exact Av (Bu (A8 (ha,hg) ge (A9.c rfl A9.nil) (sC sN)))
 ·rintro⟨hs,h1⟩ hm;refine DW (l':=[(3,rv h1)]) (H':=[.row h1 9 1 (List.map eS hs)]) rfl rfl ?_;replace hm:Cp hs=some r:=hm;unfold Cp at hm;refine AJ (BU (AD (wm rfl (wa rfl (AZ (Aq (WK.freeze (i:=0) rfl (WK.up (d:=2) (r:=Bk 1 (List.map eS hs)) rfl (Up.fact (i:=0) rfl) ?_))))))));obtain rfl:=Bn hm;exact Ap (B3 Tryd.results7 (Di rfl)) (sS sN) ⟨rfl,rfl⟩
theorem Dj (F:Nat)(hb:Value)(a:(List Ay))(b:(List Ay))(r:Bool)(h:Cr F a b=some r):Fn Tryd.prog GE 6 [rv hb,Bk 1 (List.map eS b)] [.row hb 9 1 (List.map eS a)] (λR H=>R=rB r∧H=[.row hb 9 1 (List.map eS a)]):=by
 refine enter (n:=26) Tryd.func6 rfl Tryd.ntmps6 rfl (λw Z=>?_);refine B6 (l':=[(0,rv hb),(1,Bk 1 (List.map eS b))]) (H':=[.row hb 9 1 (List.map eS a)]) rfl rfl ?_;unfold Cr at h;refine AD (wv (r:=rB false) (Ab rfl) (AZ (Ai (AD (wm rfl (wv (BL (ys:=a) (enc:=eS) (i:=0) AL rfl rfl) (wm rfl (wv (C2 (ys:=b) (enc:=eS) AL rfl) (wv (Dv rfl rfl) (AZ (A0 (b:=!decide ((a.length:Int)=(b.length:Int))) rfl (λc1=>?_) (λc1=>?_))))))))))))
 ·have h2:=B8 c1 h;refine AD (wv (r:=rB false) (Ab rfl) (AZ (Aq (An ?_))));obtain rfl:=Bn h2;exact Ap (B3 Tryd.results6 (Di rfl)) (sC sN) ⟨rfl,rfl⟩
 ·have h3:=B9 c1 h;refine Ax (BU (Ai (AD (wv (r:=rI .i64 0) (Ab rfl) (AZ (A5 ?_))))));obtain⟨hk,hl,hh⟩:=BO h3;refine BZ (S:=Nat×(Int)×(Unit)) (V:=(Unit)×(Unit)) 0 (λσ=>DF (λσ=>By a b σ) σ.1 σ.2.1=some hk) (λσ=>[(0,rv hb),(1,Bk 1 (List.map eS b)),(5,rI .i64 σ.2.1)]) (λσ=>[.row hb 9 1 (List.map eS a)]) (λσ=>σ.1) (F,0,()) hl (A9.c rfl (A9.c rfl (A9.c rfl A9.nil))) (sC sN) (λσ=>Cq =some r) (λσ=>[]) (λσ=>[.row hb 9 1 (List.map eS a)]) ?_ ?_
  ·rintro⟨h0,ha,⟨⟩⟩ hm;refine B6 (l':=[(0,rv hb),(1,Bk 1 (List.map eS b)),(5,rI .i64 ha)]) (H':=[.row hb 9 1 (List.map eS a)]) rfl rfl ?_;obtain⟨hn,rfl,ho,hc,he⟩:=Ef hm;replace hc:By a b ha=some ho:=hc;unfold By at hc;refine Ai (AD (wm rfl (wm rfl (wv (BL (ys:=a) (enc:=eS) (i:=0) AL rfl rfl) (wv (Dl rfl rfl) (AZ (A0 (b:=decide (ha<(a.length:Int))) rfl (λhf=>?_) (λhf=>?_))))))))
   ·have hp:=B8 hf hc;refine Ax (BU (Ai (A5 (Ai ?_))));obtain⟨hi,hq⟩:=Bd hp;obtain⟨hr,hj⟩:=Bd hq;refine D5 [0,1,5] [⟨[],rv hb,0⟩,⟨[],rI .i64 ha,0⟩,⟨[0,1],rv (DN 1 hb (Int.toNat ha) 0),1⟩,⟨[2],rS (AN a ha),1⟩,⟨[],Bk 1 (List.map eS b),0⟩,⟨[],rI .i64 ha,0⟩,⟨[4,5],JB [rS (AN b ha)],0⟩,⟨[6],rS (AN b ha),0⟩,⟨[3,7],rB (!decide ((AN a ha)=(AN b ha))),0⟩] [25,0,1,5] ?_ ?_
    ·refine oq (Ac rfl) (oq (Ac rfl) (of (DD (i:=0) AL Ds rfl rfl rfl (D1 hi)) (of (E2 (enc:=eS) (ys:=a) (i:=0) (j:=ha) Hq rfl rfl hi rfl) (oq (Ac rfl) (oq (Ac rfl) (oq (Dm (enc:=eS) (ys:=b) AL Ds rfl rfl hr) (oq (Cf Hq rfl rfl) (oq (Ce rfl rfl) ?_))))))));exact EQ
    refine BU (A0 (b:=!decide ((AN a ha)=(AN b ha))) rfl (λhg=>?_) (λhg=>?_))
    ·have hs:=B8 hg hj;refine AD (wv (r:=rB false) (Ab rfl) (AZ (Aq (A7 (An (An (CI ?_)))))));have ht:=Ew hs he hh;refine A7 (An ?_);obtain rfl:=Bn ht;exact Ap (B3 Tryd.results6 (Di rfl)) (sC sN) ⟨rfl,rfl⟩
    ·have hu:=B9 hg hj;refine Ax (AC (BU (Ae (wm rfl ?_))));obtain⟨hv,hw⟩:=Bd hu;refine wv (C3 rfl rfl hv) (wa rfl (Ag ?_));have hx:=Cb hw he;exact Ad (A8 (hn,ha+1,()) ⟨hx,Nat.lt_succ_self _⟩ (A9.c rfl (A9.c rfl (A9.c rfl A9.nil))) (sC sN))
   ·have hy:=B9 hf hc;refine Bf (Av ?_);have hz:=Dg hy he hh;exact Av (Bu (A8 ((),()) hz A9.nil (sC sN)))
  ·rintro⟨⟨⟩,⟨⟩⟩ hd;refine DW (l':=[]) (H':=[.row hb 9 1 (List.map eS a)]) rfl rfl ?_;replace hd:Cq =some r:=hd;unfold Cq at hd;refine AJ (BU (AD (wv (r:=rB true) (Ab rfl) (AZ (Aq ?_)))));obtain rfl:=Bn hd;exact Ap (B3 Tryd.results6 (Di rfl)) (sC sN) ⟨rfl,rfl⟩
end Go.Proofs.YthjcjnbngagagaaDoor.Q
namespace Go.Proofs.YthjcjnbngagagaaDoor
open Go
set_option linter.unusedVariables false
def BE (ha:Bool):Option (Bool):=
 some ha
def BG (ha:Int)(hb:(List Ay)):Option (Stp (Int×(List Ay)) (Out (Bool) (Unit))):=
 DU (decide (ha<(hb.length:Int))) (Dd (DM ha (hb.length:Int))<|JW (List.set hb (Int.toNat ha) ([63]:Ay)) λhc=>Dd (D2 .i64 (ha+1))<|some (.next (ha+1,hc))) (some (.out (.go ())))
def Ch (F:Nat)(l:(List Ay))(s:Ay):Option (Bool):=
 Gb (Cr F (([]:List Ay)++l) l) λha=>DU (ha) (Gb (HP F l s) λhb=>Gb (H4 F l s) λhc=>DU (hb ==hc) (BE true) (BE false)) (BE false)
def BF (F:Nat)(l:(List Ay))(s:Ay)(ha:Bool):Option (Bool):=
 DU (ha) (some false) (Gb (DF (λσ=>BG σ.1 σ.2) F (0,AA (([]:List Ay)++l))) (DQ λν=>Ch F l s ))
def DH (F:Nat)(l:(List Ay))(s:Ay):Option (Bool):=
 DU (decide (2000<(l.length:Int))) (some true) (Dd (I4 16 (([]:List Ay).length+l.length))<|Dd (I4 16 (([]:List Ay)++l).length)<|Gb (CS F l) λha=>Gb (Cr F (AA (([]:List Ay)++l)) ha) λhb=>DU (!hb) (BF F l s true) (Gb (Cr F (([]:List Ay)++l) l) λhc=>BF F l s (!hc)))
end Go.Proofs.YthjcjnbngagagaaDoor
namespace Go.Proofs.YthjcjnbngagagaaDoor.Q
open Go Go.RowKit
set_option linter.unusedVariables false
set_option linter.unusedSimpArgs false
set_option maxRecDepth 100000
set_option maxHeartbeats 4000000
theorem HF (F:Nat)(l:(List Ay))(s:Ay)(r:Bool)(h:DH F l s=some r):Fn Tryd.prog GE 3 [Bk 1 (List.map eS l),rS s] [] (λR H=>R=rB r∧H=[]):=by
 refine enter (n:=52) Tryd.func3 rfl Tryd.ntmps3 rfl (λw Z=>?_);refine B6 (l':=[(0,Bk 1 (List.map eS l)),(1,rS s)]) (H':=[]) rfl rfl ?_;unfold DH at h;refine AD (wv (r:=rB false) (Ab rfl) (AZ (Ai (AD (wm rfl (wv (C2 (ys:=l) (enc:=eS) AL rfl) (wv (GS rfl rfl) (AZ (A0 (b:=decide (2000<(l.length:Int))) rfl (λc1=>?_) (λc1=>?_))))))))))
 ·have h2:=B8 c1 h;refine AD (Eu (rs:=[]) (r:=rB true) Tryd.call4 rfl (GC ) rfl rfl (wa rfl (AZ (Aq (An ?_)))));obtain rfl:=Bn h2;exact Ap (B3 Tryd.results3 (Di rfl)) sN ⟨rfl,rfl⟩
 ·have h3:=B9 c1 h;refine Ax (BU (AD (AK (ys:=([]:List Ay)) (enc:=eS) (css:=[]) (xs:=[]) AL Ds IX rfl rfl rfl trivial rfl Cs rfl rfl rfl (λb4=>?_))));refine wm rfl ?_;obtain⟨g6,h7⟩:=Bd h3;obtain⟨inf,hinf⟩:=G4;refine C0 (xs:=([]:List Ay)) (ys:=l) (enc:=eS) (i:=0) AL hinf.1 hinf.2.1 hinf.2.2.1 hinf.2.2.2 rfl rfl rfl rfl rfl (Ic.z rfl rfl) Cs E6 g6 rfl (λv5=>?_);refine wa rfl (GH (wm rfl ?_));obtain⟨g8,h9⟩:=Bd h7;refine Ar (rs:=[rv v5]) (Hin:=[.row v5 9 1 (List.map eS (([]:List Ay)++l))]) (Hr:=[]) Tryd.call5 rfl (List.Perm.refl _) (GZ v5 (([]:List Ay)++l) g8) rfl ?_;rintro _ _ ⟨hb,rfl,rfl⟩;refine wa rfl (AZ (Ai (Cj (S:=(Bool)×(Unit)) (λσ=>BF F l s σ.1=some r) (λσ=>[(0,Bk 1 (List.map eS l)),(1,rS s),(5,rv v5),(6,rv hb),(27,rB σ.1)]) (λσ=>[.row hb 9 1 (List.map eS (AA (([]:List Ay)++l))),.row v5 9 1 (List.map eS (([]:List Ay)++l))]) ?_ ?_)))
  ·refine Ae (wm rfl (wm rfl ?_));obtain⟨hq,hy,hz⟩:=BO h9;refine JA Tryd.call7 (GQ F l hq hy) rfl ?_;obtain⟨hm,h0,hr⟩:=BO hz;refine JS (Hr:=[.row v5 9 1 (List.map eS (([]:List Ay)++l))]) JN (Dj F hb (AA (([]:List Ay)++l)) hq hm h0) rfl (List.Perm.refl _) rfl ?_;rintro _ _ ⟨rfl,rfl⟩;refine wv (Bb rfl) (wm rfl (A1 (!hm) (λhc=>?_) (λhc=>?_)))
   ·have h1:=B8 hc hr;exact wf hc (wf hc (wf hc (wf hc (wv (r:=rB true) (Al (b:=!hm) rfl hc rfl) (Ag (Ad (A8 (true,()) h1 (A9.c5 rfl rfl rfl rfl rfl A9.nil) (sC (sC sN)))))))))
   ·have h4:=B9 hc hr;refine wo hc (wm rfl (wo hc (wm rfl (wo hc ?_))));obtain⟨hs,h5,h6⟩:=BO h4;refine JS (Hr:=[.row hb 9 1 (List.map eS (AA (([]:List Ay)++l)))]) JN (Dj F v5 (([]:List Ay)++l) l hs h5) rfl ((AI (i:=1) rfl).trans (List.Perm.cons _ (List.Perm.refl _))) rfl ?_;rintro _ _ ⟨rfl,rfl⟩;exact wo hc (wv (Bb rfl) (Kf rfl hc rfl (Ag (Ij (H2:=[.row hb 9 1 (List.map eS (AA (([]:List Ay)++l))),.row v5 9 1 (List.map eS (([]:List Ay)++l))]) ((AI (i:=1) rfl).trans (List.Perm.cons _ (List.Perm.refl _))) (Ad (A8 (!hs,()) h6 (A9.c5 rfl rfl rfl rfl rfl A9.nil) (sC (sC sN))))))))
  ·rintro⟨hn,⟨⟩⟩ hg;refine B6 (l':=[(0,Bk 1 (List.map eS l)),(1,rS s),(5,rv v5),(6,rv hb),(27,rB hn)]) (H':=[.row hb 9 1 (List.map eS (AA (([]:List Ay)++l))),.row v5 9 1 (List.map eS (([]:List Ay)++l))]) rfl rfl ?_;replace hg:BF F l s hn=some r:=hg;unfold BF at hg;refine A0 (b:=hn) rfl (λc37=>?_) (λc37=>?_)
   ·have h8:=B8 c37 hg;refine AD (wv (r:=rB false) (Ab rfl) (AZ (Aq (An ?_))));obtain rfl:=Bn h8;exact Ap (B3 Tryd.results3 (Di rfl)) (sS (sS sN)) ⟨rfl,rfl⟩
   ·have hA:=B9 c37 hg;refine Ax (BU (Ai (AD (wv (r:=rI .i64 0) (Ab rfl) (AZ (A5 ?_))))));obtain⟨hB,hC,hD⟩:=BO hA;refine BZ (S:=Nat×(Int×(List Ay))×(Unit)) (V:=(Unit)×(Unit)) 0 (λσ=>DF (λσ=>BG σ.1 σ.2) σ.1 σ.2.1=some hB) (λσ=>[(0,Bk 1 (List.map eS l)),(1,rS s),(5,rv v5),(6,rv hb),(7,rI .i64 σ.2.1.1)]) (λσ=>[.row hb 9 1 (List.map eS σ.2.1.2),.row v5 9 1 (List.map eS (([]:List Ay)++l))]) (λσ=>σ.1) (F,(0,AA (([]:List Ay)++l)),()) hC (A9.c5 rfl rfl rfl rfl rfl A9.nil) (sC (sC sN)) (λσ=>Ch F l s =some r) (λσ=>[(0,Bk 1 (List.map eS l)),(1,rS s),(5,rv v5)]) (λσ=>[.row v5 9 1 (List.map eS (([]:List Ay)++l))]) ?_ ?_
    ·rintro⟨hY,⟨hd,hf⟩,⟨⟩⟩ hE;refine B6 (l':=[(0,Bk 1 (List.map eS l)),(1,rS s),(5,rv v5),(6,rv hb),(7,rI .i64 hd)]) (H':=[.row hb 9 1 (List.map eS hf),.row v5 9 1 (List.map eS (([]:List Ay)++l))]) rfl rfl ?_;obtain⟨hF,rfl,t75,hh,ht⟩:=Ef hE;replace hh:BG hd hf=some t75:=hh;unfold BG at hh;refine Ai (AD (wm rfl (wm rfl (wv (BL (ys:=hf) (enc:=eS) (i:=0) AL rfl rfl) (wv (Dl rfl rfl) (AZ (A0 (b:=decide (hd<(hf.length:Int))) rfl (λho=>?_) (λho=>?_))))))))
     ·have hG:=B8 ho hh;refine Ax (BU (Ai (A5 (Ae (wm rfl (wm rfl ?_))))));obtain⟨hu,hH⟩:=Bd hG;refine wv (r:=rv (DN 1 hb (Int.toNat hd) 0)) (DD (i:=0) AL Ds rfl rfl rfl (D1 hu)) (Hu (enc:=eS) (ys:=hf) (y':=([63]:Ay)) (i:=0) (j:=hd) Ds rfl rfl (IL rfl) rfl hu rfl rfl (H':=[.row hb 9 1 (List.map eS (List.set hf (Int.toNat hd) ([63]:Ay))),.row v5 9 1 (List.map eS (([]:List Ay)++l))]) rfl ?_);obtain⟨hI,hJ,hK⟩:=JL hH;rw[← hJ];refine Ag (AC (BU (Ae (wm rfl ?_))));obtain⟨hL,hM⟩:=Bd hK;refine wv (C3 rfl rfl hL) (wa rfl (Ag ?_));have hN:=Cb hM ht;exact Ad (A8 (hF,(hd+1,hI),()) ⟨hN,Nat.lt_succ_self _⟩ (A9.c5 rfl rfl rfl rfl rfl A9.nil) (sC (sC sN)))
     ·have hO:=B9 ho hh;refine Bf (Av ?_);have hP:=Dg hO ht hD;exact Av (Bu (A8 ((),()) hP (A9.c rfl (A9.c rfl (A9.c rfl A9.nil))) (sS (sC sN))))
    ·rintro⟨⟨⟩,⟨⟩⟩ hi;refine DW (l':=[(0,Bk 1 (List.map eS l)),(1,rS s),(5,rv v5)]) (H':=[.row v5 9 1 (List.map eS (([]:List Ay)++l))]) rfl rfl ?_;replace hi:Ch F l s =some r:=hi;unfold Ch at hi;refine AJ (BU (Cj (S:=(Bool)×(Unit)) (λσ=>BE σ.1=some r) (λσ=>[(4,rB σ.1)]) (λσ=>[]) ?_ ?_))
     ·refine Ae (wm rfl (wm rfl ?_));obtain⟨hp,hQ,hv⟩:=BO hi;refine JS (Hr:=[]) JN (Dj F v5 (([]:List Ay)++l) l hp hQ) rfl (List.Perm.refl _) rfl ?_;rintro _ _ ⟨rfl,rfl⟩;refine wm rfl (A1 (hp) (λha=>?_) (λha=>?_))
      ·have hR:=B8 ha hv;refine wo ha (wm rfl (wo ha (wm rfl (wo ha ?_))));obtain⟨hj,hS,hT⟩:=BO hR;refine JA Tryd.call8 (Js F l s hj hS) rfl (wo ha (wm rfl (wo ha (wm rfl (wo ha ?_)))));obtain⟨hk,hU,hw⟩:=BO hT;refine JA Tryd.call9 (Ji F l s hk hU) rfl (wo ha (wv (r:=rB (hj ==hk)) (IQ Tryd.underlying4 rfl rfl) (Ka rfl ha rfl (wm rfl (A1 (hj ==hk) (λhe=>?_) (λhe=>?_))))))
       ·have hV:=B8 he hw;exact wo he (Eu (rs:=[]) (r:=rB true) Tryd.call4 rfl (GC ) rfl rfl (Ka rfl he rfl (wa rfl (Ag (Ad (A8 (true,()) hV (A9.c rfl A9.nil) (sS sN)))))))
       ·have hW:=B9 he hw;exact wf he (wv (r:=rB false) (Am (b:=hj ==hk) rfl he rfl) (wa rfl (Ag (Ad (A8 (false,()) hW (A9.c rfl A9.nil) (sS sN))))))
      ·have hX:=B9 ha hv;exact wf ha (wf ha (wf ha (wf ha (wf ha (wf ha (wf ha (wv (r:=rB false) (Am (b:=hp) rfl ha rfl) (wm rfl (Ah (b:=false) rfl rfl rfl rfl (wv (r:=rB false) (Am (b:=false) rfl rfl rfl) (wa rfl (Ag (Ad (A8 (false,()) hX (A9.c rfl A9.nil) (sS sN)))))))))))))))
     ·rintro⟨hx,⟨⟩⟩ hl;refine B6 (l':=[(4,rB hx)]) (H':=[]) rfl rfl ?_;replace hl:BE hx=some r:=hl;unfold BE at hl;refine Aq ?_;obtain rfl:=Bn hl;exact Ap (B3 Tryd.results3 (Di rfl)) sN ⟨rfl,rfl⟩
end Go.Proofs.YthjcjnbngagagaaDoor.Q
namespace Go.Proofs.YthjcjnbngagagaaDoor.lawIdentLists
open Go
set_option linter.unusedVariables false
def Kg:Prop:=∀(y0:(List Ay)) (y1:Ay) (o0:(λys:(List Ay)=>ys.all JD&&decide (ys.length≤9223372036854775807)) y0=true) (o1:JD y1=true),∃F,DH F y0 y1=some true
end Go.Proofs.YthjcjnbngagagaaDoor.lawIdentLists
namespace Go.Proofs.YthjcjnbngagagaaDoor
open Go
set_option linter.unusedVariables false
set_option linter.unusedSimpArgs false
theorem Ex:∀a:Ay,Bc a a=false
 | []=>rfl
 | x::a=>by
  show Op.bytesLess (x::a) (x::a)=false;have h : ¬ x<x:=λh=>absurd h (by simp);have ih:Op.bytesLess a a=false:=Ex a;simp[Op.bytesLess,h,ih]
theorem Dy (x y:UInt8)(a b:Ay):Bc (x::a) (y::b)=(decide (x<y)||(decide (x=y)&&Bc a b)):=by
 show Op.bytesLess (x::a) (y::b)=_;simp only[Op.bytesLess]
 by_cases h:x<y
 ·simp[h]
 ·by_cases e:x=y
  ·subst e;simp[h]
  ·have:y<x:=by
    rcases Nat.lt_trichotomy x.toNat y.toNat with h1 | h1 | h1
    ·exact absurd (UInt8.lt_iff_toNat_lt.2 h1) h
    ·exact absurd (UInt8.toNat_inj.1 h1) e
    ·exact UInt8.lt_iff_toNat_lt.2 h1
   simp[h,e,this]
theorem D6:∀{a b c:Ay},Bc a b=true→Bc b c=true→Bc a c=true
 | [],[],_,h,_=>by cases h
 | [],_::_,[],_,h=>by cases h
 | [],_::_,_::_,_,_=>rfl
 | _::_,[],_,h,_=>by cases h
 | _::_,_::_,[],_,h=>by cases h
 | x::a,y::b,z::c,h,h'=>by
  rw[Dy] at h h' ⊢;simp only[K6,Kk,K0] at h h' ⊢;have t:∀{u v:UInt8},u<v↔u.toNat<v.toNat:=UInt8.lt_iff_toNat_lt;rcases h with h | ⟨rfl,h⟩
  ·rcases h' with h' | ⟨rfl,h'⟩
   ·exact .inl (t.2 (Nat.lt_trans (t.1 h) (t.1 h')))
   ·exact .inl h
  ·rcases h' with h' | ⟨rfl,h'⟩
   ·exact .inl h'
   ·exact .inr ⟨rfl,D6 h h'⟩
theorem EH:∀(a b:Ay),Bc a b=true∨a=b∨Bc b a=true
 | [],[]=>.inr (.inl rfl)
 | [],_::_=>.inl rfl
 | _::_,[]=>.inr (.inr rfl)
 | x::a,y::b=>by
  rw[Dy,Dy];simp only[K6,Kk,K0];rcases Nat.lt_trichotomy x.toNat y.toNat with h1 | h1 | h1
  ·exact .inl (.inl (UInt8.lt_iff_toNat_lt.2 h1))
  ·have e:=UInt8.toNat_inj.1 h1;subst e;rcases EH a b with h | rfl | h
   ·exact .inl (.inr ⟨rfl,h⟩)
   ·exact .inr (.inl rfl)
   ·exact .inr (.inr (.inr ⟨rfl,h⟩))
  ·exact .inr (.inr (.inl (UInt8.lt_iff_toNat_lt.2 h1)))
section
variable {T : Type}
def Ms (xs:List (Ay×T)):Prop:=xs.Pairwise λp q=>Bc p.1 q.1=true
theorem Ms.nil:Ms ([]:List (Ay×T)):=List.Pairwise.nil
theorem CW {xs:List (Ay×T)}{k:Ay}:B0 xs k=none↔∀p∈xs,p.1≠k:=by
 induction xs with
 | nil=>simp[B0]
 | cons p r ih=>
  rw[B0]
  by_cases h:p.1=k
  ·rw[K2 h];simp[h]
  ·rw[K5 h];simp[h,ih]
theorem CF {xs:List (Ay×T)}{k:Ay}{v:T}(h:B0 xs k=some v):(k,v)∈xs:=by
 induction xs with
 | nil=>cases h
 | cons p r ih=>
  rw[B0] at h
  by_cases e:p.1=k
  ·rw[K2 e] at h;cases h;subst e;exact List.mem_cons_self ..
  ·rw[K5 e] at h;exact List.mem_cons_of_mem _ (ih h)
theorem ET {k:Ay}{v:T}{q:Ay×T}:∀{xs:List (Ay×T)},q∈mins k v xs→q=(k,v)∨q∈xs
 | [],h=>by simp[mins] at h;exact .inl h
 | p::r,h=>by
  rw[mins] at h
  cases hs:Bc k p.1 with
  | true=>rw[hs] at h;simpa using h
  | false=>
   rw[hs] at h;rcases List.mem_cons.1 h with h | h
   ·exact .inr (by rw[h];exact List.mem_cons_self ..)
   ·rcases ET h with h | h
    ·exact .inl h
    ·exact .inr (List.mem_cons_of_mem _ h)
theorem Ms.mins {k:Ay}{v:T}:∀{xs:List (Ay×T)},Ms xs→B0 xs k=none→Ms (mins k v xs)
 | [],_,_=>List.pairwise_singleton ..
 | p::r,h,hk=>by
  obtain⟨h1,h2⟩:=List.pairwise_cons.1 h;rw[B0] at hk
  by_cases e:p.1=k
  ·rw[K2 e] at hk;cases hk
  ·rw[K5 e] at hk;rw[Proofs.YthjcjnbngagagaaDoor.mins]
   cases hs:Bc k p.1 with
   | true=>exact List.pairwise_cons.2 ⟨λq hq=>by
     rcases List.mem_cons.1 hq with rfl | hq
     ·exact hs
     ·exact D6 hs (h1 q hq),h⟩
   | false=>
    have hp:Bc p.1 k=true:=by
     rcases EH p.1 k with h | h | h
     ·exact h
     ·exact absurd h e
     ·rw[h] at hs;cases hs
    exact List.pairwise_cons.2 ⟨λq hq=>by
     rcases ET hq with rfl | hq
     ·exact hp
     ·exact h1 q hq,Ms.mins h2 hk⟩
theorem Ms.mput {xs:List (Ay×T)}(h:Ms xs)(k:Ay)(v:T):Ms (mput xs k v):=by
 unfold Proofs.YthjcjnbngagagaaDoor.mput;unfold Ms;rw[List.pairwise_map];refine h.imp fun {p q} hpq=>?_;have e:∀p:Ay×T,(bif decide (p.1=k) then(k,v) else p).1=p.1:=λp=>by
  by_cases hp:p.1=k
  ·rw[K2 hp];exact hp.symm
  ·rw[K5 hp];rfl
 rw[e,e];exact hpq
theorem Ms.mset {xs:List (Ay×T)}(h:Ms xs)(k:Ay)(v:T):Ms (mset xs k v):=by
 unfold Proofs.YthjcjnbngagagaaDoor.mset Iz
 cases hk:B0 xs k with
 | none=>exact h.mins hk
 | some w=>exact h.mput k v
theorem Ms.ext:∀{xs ys:List (Ay×T)},Ms xs→Ms ys→(∀k,B0 xs k=B0 ys k)→xs=ys
 | [],[],_,_,_=>rfl
 | [],q::s,_,_,h=>by
  have:=h q.1;rw[B0,B0,K2 rfl] at this;cases this
 | p::r,[],_,_,h=>by
  have:=h p.1;rw[B0,B0,K2 rfl] at this;cases this
 | p::r,q::s,hx,hy,h=>by
  obtain⟨x1,x2⟩:=List.pairwise_cons.1 hx;obtain⟨y1,y2⟩:=List.pairwise_cons.1 hy;have hpq:p.1=q.1:=by
   have a1:=h p.1;have a2:=h q.1;rw[B0,K2 rfl] at a1;rw[show B0 (q::s) q.1=bif decide (q.1=q.1) then some q.2 else B0 s q.1 from rfl,K2 rfl] at a2;simp only[K1] at a1 a2;have m1:=CF a1.symm;have m2:=CF a2;rcases List.mem_cons.1 m1 with e | m1
   ·exact congrArg Prod.fst e
   ·rcases List.mem_cons.1 m2 with e | m2
    ·exact(congrArg Prod.fst e).symm
    ·have c1:=y1 _ m1;have c2:=x1 _ m2;have:=D6 c1 c2;rw[Ex] at this;cases this
  have e:p=q:=by
   have a1:=h p.1;rw[B0,K2 rfl,B0,K2 hpq.symm] at a1;simp only[K1,Option.some.injEq] at a1;exact Prod.ext hpq a1
  subst e;rw[Ms.ext x2 y2 λk=>by
   have a1:=h k;rw[B0,B0] at a1
   by_cases e:p.1=k
   ·have n1:B0 r k=none:=CW.2 λz hz e'=>by have:=x1 z hz;rw[e',← e,Ex] at this;cases this
    have n2:B0 s k=none:=CW.2 λz hz e'=>by have:=y1 z hz;rw[e',← e,Ex] at this;cases this
    rw[n1,n2]
   ·rw[K5 e] at a1;exact a1]
end
end Go.Proofs.YthjcjnbngagagaaDoor
namespace Go.Proofs.YthjcjnbngagagaaDoor
open Go
set_option linter.unusedVariables false
set_option linter.unusedSimpArgs false
theorem Ea {R V:Type}(K:V→Option R)(v:V):DQ K (.go v)=K v:=rfl
theorem H6 {R V:Type}(K:V→Option R)(r:R):DQ K (.ret r)=some r:=rfl
theorem J2 {α β:Type}{a:α}{k:α→Option β}:JW a k=k a:=rfl
theorem Hz:∀a b:Ay,Bc a b=decide (a<b)
 | [],[]=>rfl
 | [],y::b=>by
  have:([]:Ay)<y::b:=List.nil_lt_cons ..;rw[K2 this];rfl
 | x::a,[]=>by
  have : ¬ (x::a)<([]:Ay):=List.not_lt_nil _;rw[K5 this];rfl
 | x::a,y::b=>by
  rw[Dy,Hz a b,KH];simp[List.cons_lt_cons_iff]
theorem Ib {α:Type}[Inhabited α]{l:List α}{x:Int}(h0:0≤x)(h:x<(l.length:Int)):l[x.toNat]? =some (AN l x):=by
 have hx:x.toNat<l.length:=by omega
 simp[AN,hx]
theorem DZ {α:Type}{l:List α}{k:Nat}{c:α}(h:l[k]? =some c):l.take (k+1)=l.take k++[c]:=by
 rw[List.take_add_one,h];rfl
theorem E4:∀(o:List Ay) (c:Ay) (k:Nat),(∀y∈o.take k,y<c)→(∀z,o[k]? =some z→¬ z<c)→k≤o.length→A2 o c=k
 | [],c,k,_,_,h=>by simp at h;subst h;rfl
 | y::r,c,0,_,h2,_=>by
  unfold A2;rw[if_neg (h2 y rfl)]
 | y::r,c,k+1,h1,h2,h3=>by
  unfold A2;rw[if_pos (h1 y (by simp)),E4 r c k (λz hz=>h1 z (by simp[hz])) (λz hz=>h2 z (by simpa using hz)) (by simpa using h3)]
theorem Bm {α:Type}{n:Nat}{x:Option α}(h:n≤1000000000):Dd (I4 16 n) x=x:=Cu (K2 (by omega))
theorem J3 {F:Nat}{l o:List Ay}{x:Int}(h0:0≤x)(hx:x<(l.length:Int))(hF:o.length<F)(ho:o.length≤100000):∃b,DF (λσ=>Bg l o x σ) F 0=some (.go ((A2 o (AN l x):Int),b)):=by
 obtain⟨q,h1,b,h2⟩:=C6 (body:=λσ=>Bg l o x σ) (λk=>0≤k∧k≤(o.length:Int)∧∀y∈o.take k.toNat,y<AN l x) (λk=>o.length-k.toNat) (λq=>∃b,q = .go ((A2 o (AN l x):Int),b)) (λk ⟨g0,gk,ga⟩=>by
  unfold Bg
  by_cases hlt:k<(o.length:Int)
  ·have hg:=Ib g0 hlt;rw[K2 hlt,Cu (by show imp true _=true;simp only[imp];rw[HK g0 hlt];rfl),Cu (by show imp true _=true;simp only[imp];rw[HK h0 hx];rfl),Kr]
   cases hs:Bc (AN o k) (AN l x) with
   | true=>
    have hs':AN o k<AN l x:=by rw[Hz] at hs;exact of_decide_eq_true hs
    refine .inl ⟨k+1,by rw[B5 rfl,BR (by omega) (by omega)],⟨by omega,by omega,λy hy=>?_⟩,by omega⟩;rw[show(k+1).toNat=k.toNat+1 from by omega,DZ hg] at hy;rcases List.mem_append.1 hy with hy | hy
    ·exact ga y hy
    ·rw[List.mem_singleton.1 hy];exact hs'
   | false=>
    have hs' : ¬ AN o k<AN l x:=by rw[Hz] at hs;exact of_decide_eq_false hs
    refine .inr ⟨_,Br rfl,false,?_⟩;rw[E4 o (AN l x) k.toNat ga (λz hz=>by rw[hg] at hz;rw[← Option.some.inj hz];exact hs') (by omega),show((k.toNat:Nat):Int)=k from by omega]
  ·rw[K5 hlt,Cu (by rfl),Cu (by rfl),Km];refine .inr ⟨_,Br rfl,false,?_⟩;rw[E4 o (AN l x) k.toNat ga (λz hz=>by rw[List.getElem?_eq_none (by omega)] at hz;cases hz) (by omega),show((k.toNat:Nat):Int)=k from by omega]) F 0 ⟨Int.le_refl 0,by omega,by simp⟩ (by show o.length-0<F;omega)
 exact⟨b,by rw[h1,h2]⟩
theorem Jo {l o:List Ay}{x:Int}(h0:0≤x)(hx:x<(l.length:Int))(hx2:x<100000)(ho:o.length≤100000)(b:Bool):Bv l o x (A2 o (AN l x):Int) b=some (.next (DS o (AN l x),x+1)):=by
 have hf:=C9 o (AN l x);unfold Bv DS Bw;generalize AN l x=c at *
 by_cases he:A2 o c=o.length
 ·have e1:decide (((A2 o c:Nat):Int)=(o.length:Int))=true:=K2 (by omega);rw[e1,Cu (by rfl),Cu (by rfl),B5 (by rfl),if_pos (.inl he)];rw[GA (by omega) (by omega),Bm (by simp;omega),Ct h0 hx,Bm (by simp;omega),Bm (by simp;omega),BR (by omega) (by omega),Int.toNat_natCast];rfl
 ·have e1:decide (((A2 o c:Nat):Int)=(o.length:Int))=false:=K5 (by omega);have e2:AN o ((A2 o c:Nat):Int)=CK o ((A2 o c:Nat):Int):=rfl;rw[e1,Cu (by show imp true _=true;simp only[imp];rw[HK (by omega) (by omega)];rfl),Cu (by show imp true _=true;simp only[imp];rw[HK h0 hx];rfl),e2,Kq]
  by_cases hq:CK o ((A2 o c:Nat):Int)=c
  ·rw[if_neg (by rintro(h | h);exact he h;exact h hq),Br (by rw[K2 hq];rfl),BR (by omega) (by omega)]
  ·rw[if_pos (.inr hq),B5 (by rw[K5 hq];rfl)];rw[GA (by omega) (by omega),Bm (by simp;omega),Ct h0 hx,Bm (by simp;omega),Bm (by simp;omega),BR (by omega) (by omega),Int.toNat_natCast];rfl
theorem Gh {l:List Ay}(hl:l.length≤2000):CS 3000 l=some (AA l):=by
 unfold CS;obtain⟨o,h1,h2⟩:=C6 (body:=λσ:List Ay×Int=>Bx 3000 l σ.1 σ.2) (λσ=>0≤σ.2∧σ.2≤(l.length:Int)∧σ.1=CL l σ.2.toNat) (λσ=>l.length-σ.2.toNat) (λq=>q = .go (AA l)) (λ⟨o,x⟩ ⟨h0,hx,ho⟩=>by
  dsimp only at h0 hx ho ⊢;subst ho;unfold Bx
  by_cases hlt:x<(l.length:Int)
  ·have hlen:=(Co l x.toNat (by omega)).2.2;obtain⟨b,hb⟩:=J3 (F:=3000) h0 hlt (o:=CL l x.toNat) (by omega) (by omega);refine .inl ⟨(DS (CL l x.toNat) (AN l x),x+1),?_,⟨by show 0≤x+1;omega,by show x+1≤_;omega,?_⟩,by show l.length-(x+1).toNat<l.length-x.toNat;omega⟩
   ·rw[B5 (K2 hlt),B7 hb,Ea];exact Jo h0 hlt (by omega) (by omega) b
   ·show DS (CL l x.toNat) (AN l x)=CL l (x+1).toNat;rw[show(x+1).toNat=x.toNat+1 from by omega,EK (by omega)];rw[show((x.toNat:Nat):Int)=x from by omega];rfl
  ·refine .inr ⟨_,Br (K5 hlt),?_⟩;rw[show x.toNat=l.length from by omega,D8]) 3000 ([],0) ⟨Int.le_refl 0,by show(0:Int)≤_;omega,by simp[CL]⟩ (by show l.length-0<3000;omega)
 subst h2;rw[B7 h1,Ea];rfl
theorem Dh {l:List Ay}(hl:l.length≤2000):Cr 3000 l l=some true:=by
 unfold Cr;rw[Br (by simp)];obtain⟨o,h1,h2⟩:=C6 (body:=λσ=>By l l σ) (λx=>0≤x∧x≤(l.length:Int)) (λx=>l.length-x.toNat) (λq=>q = .go ()) (λx ⟨h0,hx⟩=>by
  unfold By
  by_cases hlt:x<(l.length:Int)
  ·exact .inl ⟨x+1,by rw[B5 (K2 hlt),Ct h0 hlt,Ct h0 hlt,Br (by simp),BR (by omega) (by omega)],⟨by omega,by omega⟩,by omega⟩
  ·exact .inr ⟨_,Br (K5 hlt),rfl⟩) 3000 0 ⟨Int.le_refl 0,by omega⟩ (by show l.length-0<3000;omega)
 subst h2;rw[B7 h1,Ea];rfl
theorem Jt {l:List Ay}{s:Ay}(hl:l.length≤2000):HP 3000 l s=some (decide (s∈l))∧H4 3000 l s=some (decide (s∈l)):=by
 have key:∀{R:Type} (bd:Int→Option (Stp Int (Out R Unit))) (r:Int→R),(∀x,0≤x→x<(l.length:Int)→bd x=DU (decide (AN l x=s)) (some (.out (.ret (r x)))) (some (.next (x+1))))→bd (l.length:Int)=some (.out (.go ()))→
   (s∈l∧∃x,0≤x∧DF bd 3000 0=some (.ret (r x)))∨(¬ s∈l∧DF bd 3000 0=some (.go ())):=λbd r hb he=>by
  obtain⟨o,h1,h2⟩:=C6 (body:=bd) (λx=>0≤x∧x≤(l.length:Int)∧¬ s∈l.take x.toNat) (λx=>l.length-x.toNat) (λq=>(s∈l∧∃x,0≤x∧q = .ret (r x))∨(¬ s∈l∧q = .go ())) (λx ⟨h0,hx,hn⟩=>by
   by_cases hlt:x<(l.length:Int)
   ·have hg:=Ib h0 hlt;rw[hb x h0 hlt]
    by_cases hq:AN l x=s
    ·exact .inr ⟨_,B5 (K2 hq),.inl ⟨hq▸KG hg,x,h0,rfl⟩⟩
    ·refine .inl ⟨x+1,Br (K5 hq),⟨by omega,by omega,λhm=>?_⟩,by omega⟩;rw[show(x+1).toNat=x.toNat+1 from by omega,DZ hg] at hm;rcases List.mem_append.1 hm with hm | hm
     ·exact hn hm
     ·exact hq (List.mem_singleton.1 hm).symm
   ·have e:x=(l.length:Int):=by omega
    subst e;rw[Int.toNat_natCast,List.take_length] at hn;exact .inr ⟨_,he,.inr ⟨hn,rfl⟩⟩) 3000 0 ⟨Int.le_refl 0,by omega,by simp⟩ (by show l.length-0<3000;omega)
  rcases h2 with⟨h2,x,h3,rfl⟩ | ⟨h2,rfl⟩
  ·exact .inl ⟨h2,x,h3,h1⟩
  ·exact .inr ⟨h2,h1⟩
 constructor
 ·unfold HP Cm Dz;rcases key (λσ=>Ba l s σ) (λx=>x) (λx h0 hx=>by
   unfold Ba;rw[B5 (K2 hx),Ct h0 hx,BR (by omega) (by omega),show decide (s=AN l x)=decide (AN l x=s) from by rw[KH];simp only[Kk];exact eq_comm]) (by
   show Ba l s _=_;unfold Ba;rw[Br (K5 (by omega))]) with⟨h1,x,h2,h3⟩ | ⟨h1,h3⟩
  ·rw[B7 h3,H6,B7 rfl,B7 rfl,K2 h1,K2 h2]
  ·rw[B7 h3,Ea,K5 h1];rfl
 ·unfold H4;rcases key (λσ=>BN l s σ) (λ_=>true) (λx h0 hx=>by
   unfold BN;rw[B5 (K2 hx),Ct h0 hx,BR (by omega) (by omega)]) (by
   show BN l s _=_;unfold BN;rw[Br (K5 (by omega))]) with⟨h1,x,h2,h3⟩ | ⟨h1,h3⟩
  ·rw[B7 h3,H6,K2 h1]
  ·rw[B7 h3,Ea,K5 h1];rfl
theorem Gm (l:List Ay)(s:Ay):DH 3000 l s=some true:=by
 unfold DH
 by_cases hl:(2000:Int)<l.length
 ·rw[B5 (K2 hl)]
 ·have hl':l.length≤2000:=by omega
  have hsl:(AA l).length≤2000:=by
   rw[← D8];have:=(Co l l.length (KF _)).2.2;omega
  rw[Br (K5 hl),Bm (by simp;omega),Bm (by simp;omega),Gh hl',B7 rfl,List.nil_append,Dh hsl,B7 rfl,Br (by rfl),Dh hl',B7 rfl];unfold BF;rw[Br (by rfl)];obtain⟨o,h1,h2⟩:=C6 (body:=λσ:Int×List Ay=>BG σ.1 σ.2) (λσ=>0≤σ.1∧σ.1≤(σ.2.length:Int)∧σ.2.length≤2000) (λσ=>σ.2.length-σ.1.toNat) (λq=>q = .go ()) (λ⟨x,o⟩ ⟨h0,hx,ho⟩=>by
   dsimp only at h0 hx ho ⊢;unfold BG
   by_cases hlt:x<(o.length:Int)
   ·exact .inl ⟨(x+1,o.set x.toNat [63]),by rw[B5 (K2 hlt),Ct h0 hlt,J2,BR (by omega) (by omega)],⟨by show 0≤x+1;omega,by show x+1≤((o.set x.toNat [63]).length:Int);rw[List.length_set];omega,by show(o.set x.toNat [63]).length≤2000;rw[List.length_set];omega⟩,by show(o.set x.toNat [63]).length-(x+1).toNat<o.length-x.toNat;rw[List.length_set];omega⟩
   ·exact .inr ⟨_,Br (K5 hlt),rfl⟩) 3000 (0,AA l) ⟨Int.le_refl 0,by show(0:Int)≤_;omega,hsl⟩ (by show(AA l).length-0<3000;omega)
  subst h2;rw[List.nil_append,B7 h1,Ea];unfold Ch;obtain⟨e1,e2⟩:=Jt (s:=s) hl';rw[List.nil_append,Dh hl',B7 rfl,B5 rfl,e1,B7 rfl,e2,B7 rfl,B5 (by simp)];rfl
end Go.Proofs.YthjcjnbngagagaaDoor
namespace Go.Proofs.YthjcjnbngagagaaDoor.lawIdentLists
open Go
set_option linter.unusedVariables false
theorem Kc:Kg:=λl s _ _=>⟨3000,Gm l s⟩
end Go.Proofs.YthjcjnbngagagaaDoor.lawIdentLists
