/-
  Texts of the proof, put together: PlC, IdC, ShelfV, PlD, PlE, FwJ, IdR, QG, QO, RowQ, PQB, WQB, PVa, WVa, PVb, WVb, PVc, WVc, PVd.
-/
import Derived.Test.YtghdglcmblpbeaaGreatDoorFD1
import Derived.Lib.AtoiAllCases
import Derived.Lib.ItoaNum
import Derived.Lib.ItoaLen
import Derived.Shelf.Strings.Builder1
import Derived.Shelf.Strings.Count
import Derived.Shelf.Strings.Search1
import Derived.Shelf.Strings.Search2
import Derived.Shelf.Strings.Search3
import Derived.Shelf.Small.Strs
import Derived.Shelf.LaysM
import Derived.Shelf.LaysC
import Derived.Test.YtghdglcmblpbeaaGreatDoorProg
import Derived.Lib.ItoaMem
import Derived.Deep.Slices
import Derived.ChangeArms
import Derived.DataReads
import Derived.Laws.Tables
import Derived.Lib.Bytealg
import Derived.Lib.SmallJoins
namespace Go.Proofs.YtghdglcmblpbeaaGreatDoor
open Go
def Un (p:List UInt8):Bool:=decide ((0:Int)<p.length)&&decide (Cn p 0=45)
def MD (p:List UInt8):List UInt8:=if Un p=true then p.drop 1 else p
theorem TF (p:List UInt8):(MD p).length≤p.length:=by unfold MD;split<;>simp
def E1 (_:Nat)(u:UInt8):Bool:=!(decide ((u.toNat:Int)<48)||decide (57<(u.toNat:Int)))
def Oo (p:List UInt8):Bool:=!(decide (MD p=[])||(decide (Cn (MD p) 0=48)&&!decide (p=[48])))&&Ch E1 0 (MD p)
theorem GD {p:List UInt8}(h : ¬ p=[]):(0:Int)<p.length:=by
 cases p with
 | nil=>exact absurd rfl h
 | cons a r=>simp
theorem Nx {p:List UInt8}{k:Nat}(h:(k:Int)<p.length):∃u,p[k]? =some u:=⟨p[k]'(by omega),X5 (by omega)⟩
theorem TG {p:List UInt8}{k:Nat}(hi:k≤p.length∧Ch E1 0 p=Ch E1 k (p.drop k))(h:(k:Int)<p.length)(ht:(decide (Cn p k<48)||decide (57<Cn p k))=false) :
  (k+1≤p.length∧Ch E1 0 p=Ch E1 (k+1) (p.drop (k+1)))∧p.length-(k+1)<p.length-k:=by
 obtain⟨u,hu⟩:=Nx h;rw[TO hu] at ht;exact SY hi hu (by simp only[E1,ht];rfl)
theorem VZ {p:List UInt8}{k:Nat}(hi:k≤p.length∧Ch E1 0 p=Ch E1 k (p.drop k))(h:(k:Int)<p.length)(ht:(decide (Cn p k<48)||decide (57<Cn p k))=true):Ch E1 0 p=false:=by
 obtain⟨u,hu⟩:=Nx h;rw[TO hu] at ht;exact V1 hi hu (by simp only[E1,ht];rfl)
theorem UW {p:List UInt8}{k:Nat}(hi:k≤p.length∧Ch E1 0 p=Ch E1 k (p.drop k))(h : ¬ (k:Int)<p.length):Ch E1 0 p=true:=Uq hi (by omega)
def CM (p:List UInt8):Int:=if Oo p=true then(match Lib.atoiAll p with | .ok v=>if LQ v=true then 0 else 2 | _=>2) else 1
def CU (p:List UInt8):Int:=if Oo p=true then(match Lib.atoiAll p with | .ok v=>if LQ v=true then v else 0 | _=>0) else 0
theorem ME:∀(l:List UInt8) (i acc:Nat),Ch E1 i l=true→(∃u,Lib.parseUint10 acc l = .ok u)∨Lib.parseUint10 acc l = .range
 | [],_,acc,_=>.inl ⟨acc,rfl⟩
 | c::r,i,acc,h=>by
  simp only[Ch,X1] at h;have hc:48≤c.toNat∧c.toNat≤57:=by have:=h.1;simp[E1] at this;omega
  unfold Lib.parseUint10;rw[if_pos hc]
  split
  ·exact .inr rfl
  ·split
   ·exact .inr rfl
   ·exact ME r _ _ h.2
theorem QQ {l:List UInt8}(hne:l≠[])(h:Ch E1 0 l=true):(∃u,Lib.parseMag l = .ok u)∨Lib.parseMag l = .range:=by
 unfold Lib.parseMag;rw[Yl hne];exact ME l 0 0 h
theorem NM {e:Lib.NumEnd Nat}(h:(∃u,e = .ok u)∨e = .range):(∃v,Lib.signless e = .ok v)∨Lib.signless e = .range:=by
 rcases h with⟨u,rfl⟩ | rfl
 ·unfold Lib.signless
  by_cases h:9223372036854775808≤u
  ·exact .inr (by simp[h])
  ·exact .inl ⟨_,by simp[h];rfl⟩
 ·exact .inr rfl
theorem PZ {e:Lib.NumEnd Nat}(h:(∃u,e = .ok u)∨e = .range):(∃v,Lib.signed e = .ok v)∨Lib.signed e = .range:=by
 rcases h with⟨u,rfl⟩ | rfl
 ·unfold Lib.signed
  by_cases h:9223372036854775808<u
  ·exact .inr (by simp[h])
  ·exact .inl ⟨_,by simp[h];rfl⟩
 ·exact .inr rfl
theorem TS {p:List UInt8}(h:Oo p=true):(∃v,Lib.atoiAll p = .ok v∧-9223372036854775808≤v∧v≤9223372036854775807)∨Lib.atoiAll p = .range:=by
 have key:(∃v,Lib.atoiAll p = .ok v)∨Lib.atoiAll p = .range:=by
  simp only[Oo,X1,XD,XI,Xy] at h;obtain⟨⟨hne,_⟩,hall⟩:=h
  cases p with
  | nil=>simp[MD,Un] at hne
  | cons c r=>
   by_cases hc:c=45
   ·subst hc;have hd:MD (45::r)=r:=by simp[MD,Un,Cn]
    rw[hd] at hne hall;rw[Lib.atoiAll_minus];exact PZ (QQ hne hall)
   ·have hb : ¬ Cn (c::r) 0=45:=by
     simp only[Cn,Int.toNat_zero,List.getElem?_cons_zero,XO];intro e;exact hc (UInt8.toNat_inj.1 (by simpa using(by omega:c.toNat=45)))
    have hd:MD (c::r)=c::r:=by simp[MD,Un,hb]
    rw[hd] at hne hall;have ha:48≤c.toNat:=by
     simp only[Ch,X1] at hall;have:=hall.1;simp[E1] at this;omega
    rw[Lib.atoiAll_plain c r (by omega) (by omega)];exact NM (QQ hne hall)
 rcases key with⟨v,hv⟩ | h
 ·exact .inl ⟨v,hv,Lib.atoiAll_bounds hv⟩
 ·exact .inr h
open Go Go.RowKit
set_option linter.unusedVariables false
set_option linter.unusedSimpArgs false
set_option maxRecDepth 100000
theorem Sl (p:List UInt8)(hp:p.length≤281474976710656)(w:World):Calls Tryz.prog 157 [.string (B (p))].toArray w (O0 w (.bool (Oo p))):=by
 refine On (n:=43) Tryz.func157 rfl Tryz.ntmps157 rfl (An (Aj (B9 (AG rfl) rfl (Ai (As (BY ?_))))));refine An (Aj (B9 (A3 rfl) rfl (B9 (AG rfl) rfl (Ai (As (BY ?_))))));refine AE [(0,.string (B (p))),(2,.bool (false)),(3,.string (B ((if ((decide ((0)<((p.length:Int))))&&(decide ((Cn p 0)=(45))))=true then List.drop (Int.toNat (1)) p else p))))] [] (φ:=True) ?_ (λh1=>?_)
 ·refine AE [(0,.string (B (p))),(2,.bool (false)),(3,.string (B (p))),(13,.bool (((decide ((0)<((p.length:Int))))&&(decide ((Cn p 0)=(45))))))] [] (φ:=True) ?_ (λh2=>?_)
  ·refine Aj (B9 (A3 rfl) rfl (B9 (BP D4 rfl) rfl (B9 (CB rfl rfl) rfl (B9 (A3 rfl) rfl (AH (decide ((0)<((p.length:Int)))) (λhe=>?_) (λhe=>?_))))))
   ·have g19:=he;try simp only[Xw,Xy] at g19
    have hl:=he;try simp at hl
    refine AF rfl rfl he (B9 (A3 rfl) rfl (AF rfl rfl he (B9 (BH D4 rfl rfl (by first | omega | exact GD (by assumption)) (by first | omega | exact GD (by assumption))) rfl (AF rfl rfl he (B9 (AX rfl rfl) rfl (B9 (Av rfl he rfl) rfl (Ai ?_)))))));exact As (DO trivial ⟨rfl,rfl,rfl,fb (by first | (simp only[he,XB,XK,XP,XF,XS,XL,XQ,XR,XC,XJ,X8,X2,if_true,Yj,reduceIte,XZ];done) | simp[he]),trivial⟩ .slnil)
   ·have g19:=he;try simp only[Xw,Xy] at g19
    have hl:=he;try simp at hl
    refine Db rfl rfl he rfl (Db rfl rfl he rfl (Db rfl rfl he rfl (B9 (Ak rfl he rfl) rfl (Ai ?_))));exact As (DO trivial ⟨rfl,rfl,rfl,fb (by first | (simp only[he,XB,XK,XP,XF,XS,XL,XQ,XR,XC,XJ,X8,X2,if_true,Yj,reduceIte,XZ];done) | simp[he]),trivial⟩ .slnil)
  refine G2 (b:=((decide ((0)<((p.length:Int))))&&(decide ((Cn p 0)=(45))))) rfl (λhh=>?_) (λhh=>?_)
  ·have hm:=hh;try simp only[Xw,Xy] at hm
   have hn:=hh;try simp at hn
   refine Aj (B9 (A3 rfl) rfl (B9 (HV D4 rfl rfl (by first | omega | (simp;omega)) (by first | omega | (simp;omega))) rfl (B9 (AG rfl) rfl (Ai ?_))));exact As (DO trivial ⟨rfl,rfl,fs (by first | (simp only[hh,XB,XK,XP,XF,XS,XL,XQ,XR,XC,XJ,X8,X2,if_true,Yj,reduceIte,XZ];done) | simp[hh]),trivial⟩ .slnil)
  ·have hm:=hh;try simp only[Xw,Xy] at hm
   have hn:=hh;try simp at hn
   refine At ?_;exact As (DO trivial ⟨rfl,rfl,fs (by first | (simp only[hh,XB,XK,XP,XF,XS,XL,XQ,XR,XC,XJ,X8,X2,if_true,Yj,reduceIte,XZ];done) | simp[hh]),trivial⟩ .slnil)
 have hdg:MD p=(if ((decide ((0)<((p.length:Int))))&&(decide ((Cn p 0)=(45))))=true then List.drop (Int.toNat (1)) p else p):=rfl;have hdl:=TF p;rw[hdg] at hdl;generalize(if ((decide ((0)<((p.length:Int))))&&(decide ((Cn p 0)=(45))))=true then List.drop (Int.toNat (1)) p else p)=dg at hdg hdl ⊢;refine An (AE [(2,.bool (false)),(3,.string (B (dg))),(26,.bool (((decide ((dg)=(([]:List UInt8))))||((decide ((Cn dg 0)=(48)))&&(!(decide ((p)=(([48]:List UInt8)))))))))] [] (φ:=True) ?_ (λh3=>?_))
 ·refine Aj (B9 (A3 rfl) rfl (B9 (DT rfl rfl) rfl (B9 (A3 rfl) rfl (AH (decide ((dg)=(([]:List UInt8)))) (λha=>?_) (λha=>?_)))))
  ·have ho:=ha;try simp only[Xw,Xy] at ho
   have hq:=ha;try simp at hq
   refine Db rfl rfl ha rfl (Db rfl rfl ha rfl (Db rfl rfl ha rfl (Db rfl rfl ha rfl (J1 rfl rfl rfl (J1 rfl rfl rfl (Db rfl rfl ha rfl (B9 (Av rfl ha rfl) rfl (Ai ?_))))))));exact As (DO trivial ⟨rfl,rfl,fb (by first | (simp only[ha,XB,XK,XP,XF,XS,XL,XQ,XR,XC,XJ,X8,X2,if_true,Yj,reduceIte,XZ];done) | simp[ha]),trivial⟩ .slnil)
  ·have ho:=ha;try simp only[Xw,Xy] at ho
   have hq:=ha;try simp at hq
   refine AF rfl rfl ha (B9 (A3 rfl) rfl (AF rfl rfl ha (B9 (BH D4 rfl rfl (by first | omega | exact GD (by assumption)) (by first | omega | exact GD (by assumption))) rfl (AF rfl rfl ha (B9 (AX rfl rfl) rfl (AF rfl rfl ha (B9 (A3 rfl) rfl (AH (decide ((Cn dg 0)=(48))) (λhf=>?_) (λhf=>?_)))))))))
   ·have hr:=hf;try simp only[Xw,Xy] at hr
    have hs:=hf;try simp at hs
    refine AF rfl rfl hf (B9 (A3 rfl) rfl (AF rfl rfl hf (B9 (EH rfl rfl) rfl (AF rfl rfl ha (B9 (Av rfl hf rfl) rfl (B9 (Ak rfl ha rfl) rfl (Ai ?_)))))));exact As (DO trivial ⟨rfl,rfl,fb (by first | (simp only[ha,hf,XB,XK,XP,XF,XS,XL,XQ,XR,XC,XJ,X8,X2,if_true,Yj,reduceIte,XZ];done) | simp[ha,hf]),trivial⟩ .slnil)
   ·have hr:=hf;try simp only[Xw,Xy] at hr
    have hs:=hf;try simp at hs
    refine Db rfl rfl hf rfl (Db rfl rfl hf rfl (AF rfl rfl ha (B9 (Ak rfl hf rfl) rfl (B9 (Ak rfl ha rfl) rfl (Ai ?_)))));exact As (DO trivial ⟨rfl,rfl,fb (by first | (simp only[ha,hf,XB,XK,XP,XF,XS,XL,XQ,XR,XC,XJ,X8,X2,if_true,Yj,reduceIte,XZ];done) | simp[ha,hf]),trivial⟩ .slnil)
 refine G2 (b:=((decide ((dg)=(([]:List UInt8))))||((decide ((Cn dg 0)=(48)))&&(!(decide ((p)=(([48]:List UInt8)))))))) rfl (λhg=>?_) (λhg=>?_)
 ·have ht:=hg;try simp only[Xw,Xy] at ht
  have hu:=hg;try simp at hu
  refine An (Aj (B9 (AG rfl) rfl (Ai (As (BY ?_)))));refine Aq (Ac (Ap (Bs rfl rfl) ?_));exact NO (by simp only[Oo,hdg,hg];rfl)
 ·have ht:=hg;try simp only[Xw,Xy] at ht
  have hu:=hg;try simp at hu
  refine At (As (BY ?_));refine An (An (Aj (B9 (A3 rfl) rfl (B9 (BP D4 rfl) rfl (B9 (A3 rfl) rfl (Ai (As (BY ?_))))))));refine A6 (NG (S:=Nat) (λ(k:Nat)=>k≤dg.length∧Ch E1 0 dg=Ch E1 k (dg.drop k)) (λ(k:Nat)=>[(29,.int .i64 ((k:Int))),(3,.string (B (dg))),(28,.int .i64 ((dg.length:Int)))]) (λ(k:Nat)=>[]) (λ(k:Nat)=>dg.length-k) (0) ?_ ⟨fi (by first | rfl | (simp;done) | omega | (simp;omega)),rfl,rfl,trivial⟩ .slnil ?_)
  ·exact⟨Yb _,by simp⟩
  rintro k hi0;refine An (Aj (B9 (Cl rfl rfl) rfl (Ai (As (BY ?_)))));refine An (G2 (b:=decide (((k:Int))<((dg.length:Int)))) rfl (λhi=>?_) (λhi=>?_))
  ·have hk:=hi;try simp only[Xw,Xy] at hk
   have hw:=hi;try simp at hw
   refine At (As (BY ?_));refine An (A6 (An (Aj (B9 (A3 rfl) rfl (B9 (AG rfl) rfl (Ai (As (BY ?_))))))));refine AE [(3,.string (B (dg))),(4,.int .i64 ((k:Int))),(28,.int .i64 ((dg.length:Int))),(29,.int .i64 ((k:Int))),(30,.bool (decide (((k:Int))<((dg.length:Int))))),(31,.int .i64 ((k:Int))),(32,.string (B (dg))),(33,.int .i64 ((k:Int))),(34,.int .u8 (Cn dg (k:Int))),(35,.bool (decide ((Cn dg (k:Int))<(48)))),(36,.bool (decide ((Cn dg (k:Int))<(48)))),(41,.bool (((decide ((Cn dg (k:Int))<(48)))||(decide ((57)<(Cn dg (k:Int)))))))] [] (φ:=True) ?_ (λh4=>?_)
   ·refine Aj (B9 (A3 rfl) rfl (B9 (A3 rfl) rfl (B9 (BH D4 rfl rfl (by first | omega | exact GD (by assumption)) (by first | omega | exact GD (by assumption))) rfl (B9 (Cl rfl rfl) rfl (B9 (A3 rfl) rfl (AH (decide ((Cn dg (k:Int))<(48))) (λhb=>?_) (λhb=>?_)))))))
    ·have hx:=hb;try simp only[Xw,Xy] at hx
     have hy:=hb;try simp at hy
     refine Db rfl rfl hb rfl (Db rfl rfl hb rfl (Db rfl rfl hb rfl (Db rfl rfl hb rfl (B9 (Av rfl hb rfl) rfl (Ai ?_)))));exact As (DO trivial ⟨rfl,rfl,rfl,rfl,rfl,rfl,rfl,rfl,rfl,rfl,rfl,fb (by first | (simp only[hg,hi,hb,XB,XK,XP,XF,XS,XL,XQ,XR,XC,XJ,X8,X2,if_true,Yj,reduceIte,XZ];done) | simp[hg,hi,hb]),trivial⟩ .slnil)
    ·have hx:=hb;try simp only[Xw,Xy] at hx
     have hy:=hb;try simp at hy
     refine AF rfl rfl hb (B9 (A3 rfl) rfl (AF rfl rfl hb (B9 (A3 rfl) rfl (AF rfl rfl hb (B9 (BH D4 rfl rfl (by first | omega | exact GD (by assumption)) (by first | omega | exact GD (by assumption))) rfl (AF rfl rfl hb (B9 (CB rfl rfl) rfl (B9 (Ak rfl hb rfl) rfl (Ai ?_)))))))));exact As (DO trivial ⟨rfl,rfl,rfl,rfl,rfl,rfl,rfl,rfl,rfl,rfl,rfl,fb (by first | (simp only[hg,hi,hb,XB,XK,XP,XF,XS,XL,XQ,XR,XC,XJ,X8,X2,if_true,Yj,reduceIte,XZ];done) | simp[hg,hi,hb]),trivial⟩ .slnil)
   refine G2 (b:=((decide ((Cn dg (k:Int))<(48)))||(decide ((57)<(Cn dg (k:Int)))))) rfl (λhj=>?_) (λhj=>?_)
   ·have hz:=hj;try simp only[Xw,Xy] at hz
    have h0:=hj;try simp at h0
    refine An (Aj (B9 (AG rfl) rfl (Ai (As (BY ?_)))));refine Aq (Au (Ac (Ac (Au (Ac (Ap (Bs rfl rfl) ?_))))));exact NO (by simp[Oo,hdg,VZ hi0 hk hj])
   ·have hz:=hj;try simp only[Xw,Xy] at hz
    have h0:=hj;try simp at h0
    refine At (A4 (As (BY ?_)));refine Aj (B9 (Be rfl rfl (IntWalk.i64_in _ (by omega))) rfl (B9 (A3 rfl) rfl (Ai (As (Ar (k+1) ?_ ⟨fi (by first | rfl | (simp;done) | omega | (simp;omega)),rfl,rfl,trivial⟩ .slnil)))));exact TG hi0 hk hj
  ·have hk:=hi;try simp only[Xw,Xy] at hk
   have hw:=hi;try simp at hw
   refine Bl (Ay (Ay (AV (As (BY ?_)))));refine An (Aj (B9 (AG rfl) rfl (Ai (As (BY ?_)))));refine Aq (Ap (Bs rfl rfl) ?_);exact NO (by simp only[Oo,hdg,hg,UW hi0 hk];rfl)
theorem T1 (m:Int)(h0 : -9223372036854775808≤m)(h1:m≤9223372036854775807)(w:World)(hE:Rq w):Calls Tryz.prog 113 [.int .i64 (m)].toArray w (O0 w (.string (B (Lib.itoa m)))):=by
 refine On (n:=5) Tryz.func113 rfl Tryz.ntmps113 rfl (An (Aj (B9 (AG rfl) rfl (Ai (As (BY ?_))))));refine An (Aj (B9 (A3 rfl) rfl (CK Tryz.call105 rfl (λw hw=>Tu m (by omega) (by omega) w (hE.st0 hw)) rfl (B9 (AG rfl) rfl (Ai (As (BY ?_)))))));refine Aq (Ap (Bs rfl rfl) ?_);exact NO (by first | rfl | simp[])
theorem Uv (p:List UInt8)(hp:p.length≤281474976710656)(w:World)(hE:Rq w):Calls Tryz.prog 151 [.string (B (p))].toArray w (O0 w (.tuple #[.int .i64 (CU p),.int .i64 (CM p)])):=by
 refine On (n:=22) Tryz.func151 rfl Tryz.ntmps151 rfl (An (Aj (B9 (AG rfl) rfl (B9 (AG rfl) rfl (Ai (As (BY ?_)))))));refine An (An (Aj (B9 (A3 rfl) rfl (CK Tryz.call157 rfl (λw hw=>Sl p (by first | omega | (simp;done) | (simp;omega) | (simp at *;omega)) w) rfl (B9 (Bu rfl) rfl (Ai (As (BY ?_))))))));refine G2 (b:=!(Oo p)) rfl (λhb=>?_) (λhb=>?_)
 ·have hg:=hb;try simp only[Xw,Xy] at hg
  have ha:=hb;try simp only[Xw,Xy,X1,XY,XD,Bool.not_eq_false',Yk,XI,not_or,Int.not_lt,Int.not_le] at ha
  refine An (Aj (B9 (AG rfl) rfl (B9 (AG rfl) rfl (Ai (As (BY ?_))))));refine Aq (Ac (Ap (Eb rfl rfl rfl) ?_));exact NO (by simp[CU,CM,ha])
 ·have hg:=hb;try simp only[Xw,Xy] at hg
  have ha:=hb;try simp only[Xw,Xy,X1,XY,XD,Bool.not_eq_false',Yk,XI,not_or,Int.not_lt,Int.not_le] at ha
  refine At (As (BY ?_));refine An (Aj (B9 (A3 rfl) rfl ?_));rcases TS (p:=p) (by assumption) with⟨av,hav,hal,hah⟩ | hav
  ·refine CK Tryz.call158 rfl (λw _=>Vg p (by first | omega | (simp;done) | (simp;omega) | (simp at *;omega)) av hav w) rfl (B9 (A3 rfl) rfl (B9 (AC rfl rfl) rfl (B9 (AC rfl rfl) rfl (B9 (AG rfl) rfl (B9 (AG rfl) rfl (Ai (As (BY ?_))))))));refine An (AE [(2,.int .i64 (0)),(3,.int .i64 (0)),(4,.int .i64 (av)),(20,.bool (!(LQ av)))] [] (φ:=True) ?_ (λhi=>?_))
   ·exact Aj (B9 (A3 rfl) rfl (B9 (Pc Tryz.underlying129 rfl) rfl (B9 (A3 rfl) rfl (AF rfl rfl rfl (B9 (A3 rfl) rfl (AF rfl rfl rfl (CK Tryz.call31 rfl (λw hw=>Ue av w) rfl (AF rfl rfl rfl (B9 (Bu rfl) rfl (B9 (Ak rfl rfl rfl) rfl (Ai (As (DO trivial ⟨rfl,rfl,rfl,rfl,trivial⟩ .slnil)))))))))))))
   refine G2 (b:=!(LQ av)) rfl (λhe=>?_) (λhe=>?_)
   ·have hh:=he;try simp only[Xw,Xy] at hh
    have hf:=he;try simp only[Xw,Xy,X1,XY,XD,Bool.not_eq_false',Yk,XI,not_or,Int.not_lt,Int.not_le] at hf
    refine An (Aj (B9 (AG rfl) rfl (B9 (AG rfl) rfl (Ai (As (BY ?_))))));refine Aq (Ac (Ap (Eb rfl rfl rfl) ?_));exact NO (by simp[CU,CM,hav,ha,hf])
   ·have hh:=he;try simp only[Xw,Xy] at hh
    have hf:=he;try simp only[Xw,Xy,X1,XY,XD,Bool.not_eq_false',Yk,XI,not_or,Int.not_lt,Int.not_le] at hf
    refine At (As (BY ?_));refine An (Aj (B9 (A3 rfl) rfl (B9 (AG rfl) rfl (B9 (AG rfl) rfl (Ai (As (BY ?_)))))));refine Aq (Ap (Eb rfl rfl rfl) ?_);exact NO (by simp[CU,CM,hav,ha,hf])
  ·refine Ud Tryz.call158 rfl (λw hw=>Q2 p (by first | omega | (simp;done) | (simp;omega) | (simp at *;omega)) hav w (hE.st0 hw)) rfl ?_;rintro _ _ ⟨am,at_,ab,rfl,rfl⟩;refine B9 (A3 rfl) rfl (B9 (AC rfl rfl) rfl (B9 (AC rfl rfl) rfl (B9 (AG rfl) rfl (B9 (AG rfl) rfl (Ai (As (BY ?_)))))));refine An (AE [(2,.int .i64 (0)),(3,.int .i64 (0)),(4,.int .i64 (am)),(20,.bool (true))] [] (φ:=True) ?_ (λhj=>?_))
   ·exact Aj (B9 (A3 rfl) rfl (B9 (U2 Tryz.underlying129 rfl) rfl (B9 (A3 rfl) rfl (Db rfl rfl rfl rfl (Db rfl rfl rfl rfl (Db rfl rfl rfl rfl (B9 (Av rfl rfl rfl) rfl (Ai (As (DO trivial ⟨rfl,rfl,rfl,rfl,trivial⟩ .slnil))))))))))
   refine DF rfl rfl (An (Aj (B9 (AG rfl) rfl (B9 (AG rfl) rfl (Ai (As (BY ?_)))))));refine Aq (Ac (Ap (Eb rfl rfl rfl) ?_));exact NO (by simp[CU,CM,hav,ha])
end Go.Proofs.YtghdglcmblpbeaaGreatDoor
namespace Go.Proofs
open Go.Shelf
def Tryz.lays169_ren:Go.Shelf.Ren:=⟨fun | 169=>88 | n=>n,fun | 70=>98 | 9=>9 | 0=>0 | 72=>101 | 37=>99 | 127=>134 | 3=>3 | 5=>5 | n=>n,fun | n=>n⟩
theorem Tryz.lays169:Go.Proofs.Lays.n169 Tryz.prog Tryz.lays169_ren:={
 mixed:=by kernel_rfl
 f169:=Tryz.func88.trans (congrArg some (by kernel_rfl))
 t0:=Tryz.underlying0
 a0:=Tryz.isAgg0
 z0:=Tryz.sizeOf0
 v0:=Tryz.zeroValue0
 t3:=Tryz.underlying3
 a3:=Tryz.isAgg3
 z3:=Tryz.sizeOf3
 v3:=Tryz.zeroValue3
 t9:=Tryz.underlying9
 a9:=Tryz.isAgg9
 z9:=Tryz.sizeOf9
 v9:=Tryz.zeroValue9
 t37:=Tryz.underlying99
 a37:=Tryz.isAgg99
 z37:=Tryz.sizeOf99
 v37:=Tryz.zeroValue99
 t70:=Tryz.underlying98
 a70:=Tryz.isAgg98
 z70:=Tryz.sizeOf98
 v70:=Tryz.zeroValue98
 t72:=Tryz.underlying101
 a72:=Tryz.isAgg101
 z72:=Tryz.sizeOf101
 v72:=Tryz.zeroValue101
 t127:=Tryz.underlying134
 a127:=Tryz.isAgg134
 z127:=Tryz.sizeOf134
 v127:=Tryz.zeroValue134 }
theorem Tryz.Builder_Extra_169:Builder.Extra Tryz.prog Tryz.lays169_ren:={
 sizeBuilder:=by kernel_rfl
 liesBuilder:=by kernel_rfl
 t5:=Tryz.underlying5
 a5:=Tryz.isAgg5
 z5:=Tryz.sizeOf5
 v5:=Tryz.zeroValue5
 infoByte:=by kernel_rfl
 cellsByte:=by kernel_rfl
 sizeByte:=by kernel_rfl
 neB5:=by decide }
open Go.RowKit in
theorem Tryz.Builder_String_any (B b:Nat)(l:List UInt8)(w:World)(h:Lib.IsBuilder 101 5 B b (Lib.byteCells l) w)(hBw:B≤w.heap.size) :
  Calls Tryz.prog 88 #[.pointer (some ⟨b,0,none⟩)] w λe w'=>e = .returned (.string ⟨l.toArray⟩)∧Below B w w':=Any.Builder_String_any Tryz.lays169 Tryz.Builder_Extra_169 B b l w h hBw
def Tryz.lays138_ren:Go.Shelf.Ren:=⟨fun | 138=>138 | 195=>146 | 218=>147 | 143=>148 | 219=>152 | 217=>159 | 225=>160 | 224=>161 | 267=>162 | 266=>170 | 314=>171 | n=>n,fun | 9=>9 | 3=>3 | 4=>4 | 5=>5 | 0=>0 | 46=>160 | 146=>167 | 51=>163 | n=>n,fun | 1=>0 | n=>n⟩
theorem Tryz.lays138:Go.Proofs.Lays.n138 Tryz.prog Tryz.lays138_ren:={
 mixed:=by kernel_rfl
 f138:=Tryz.func138.trans (congrArg some (by kernel_rfl))
 f143:=Tryz.func148.trans (congrArg some (by kernel_rfl))
 f195:=Tryz.func146.trans (congrArg some (by kernel_rfl))
 f217:=Tryz.func159.trans (congrArg some (by kernel_rfl))
 f218:=Tryz.func147.trans (congrArg some (by kernel_rfl))
 f219:=Tryz.func152.trans (congrArg some (by kernel_rfl))
 f224:=Tryz.func161.trans (congrArg some (by kernel_rfl))
 f225:=Tryz.func160.trans (congrArg some (by kernel_rfl))
 f266:=Tryz.func170.trans (congrArg some (by kernel_rfl))
 f267:=Tryz.func162.trans (congrArg some (by kernel_rfl))
 f314:=Tryz.func171.trans (congrArg some (by kernel_rfl))
 t0:=Tryz.underlying0
 a0:=Tryz.isAgg0
 z0:=Tryz.sizeOf0
 v0:=Tryz.zeroValue0
 t3:=Tryz.underlying3
 a3:=Tryz.isAgg3
 z3:=Tryz.sizeOf3
 v3:=Tryz.zeroValue3
 t4:=Tryz.underlying4
 a4:=Tryz.isAgg4
 z4:=Tryz.sizeOf4
 v4:=Tryz.zeroValue4
 t5:=Tryz.underlying5
 a5:=Tryz.isAgg5
 z5:=Tryz.sizeOf5
 v5:=Tryz.zeroValue5
 t9:=Tryz.underlying9
 a9:=Tryz.isAgg9
 z9:=Tryz.sizeOf9
 v9:=Tryz.zeroValue9
 t46:=Tryz.underlying160
 a46:=Tryz.isAgg160
 z46:=Tryz.sizeOf160
 v46:=Tryz.zeroValue160
 t51:=Tryz.underlying163
 a51:=Tryz.isAgg163
 z51:=Tryz.sizeOf163
 v51:=Tryz.zeroValue163
 t146:=Tryz.underlying167
 a146:=Tryz.isAgg167
 z146:=Tryz.sizeOf167
 v146:=Tryz.zeroValue167
 g1:=by kernel_rfl }
open Go.RowKit Go.Lib in
theorem Tryz.strings_Count_one (s:ByteArray)(c:UInt8)(w:World) :
  Calls Tryz.prog 138 #[.string s,.string ⟨#[c]⟩] w λe w'=>e = .returned (.int .i64 (Lib.countByte s.data.toList c))∧w'=w:=Any.strings_Count_one Tryz.lays138 s c w
end Go.Proofs
namespace Go.Proofs.YtghdglcmblpbeaaGreatDoor
open Go
set_option linter.unusedVariables false
set_option linter.unusedSimpArgs false
open Go Go.RowKit
section
variable {P : Program} {n : Nat} {w0 : World} {M : List Nat} {l : Fr} {H : List Ent} {d : Option Nat} {x y : Operand} {ty t t' : TypeId} {pos : String} {af : Array Edge} {g : Option (Nat × Bool)} {k : IntKind} {p q z : Int}
end
set_option maxRecDepth 100000
end Go.Proofs.YtghdglcmblpbeaaGreatDoor
namespace Go.Proofs.YtghdglcmblpbeaaGreatDoor.Q
open Go Go.RowKit
set_option linter.unusedVariables false
def GE (Z:Fz):Prop:=∀w,Sv Z w→Rq w
theorem GE.mono {Z Z':Fz}(h:Fz.le Z Z')(hg:GE Z):GE Z':=λw hw=>hg w ⟨λb o e=>hw b o (h b o e),λk i b e=>hw.nm k i b (h.nm k i b e)⟩
theorem N7.rle {P:Program}{E:Fz→Prop}{f:FuncId}{args:List Rp}{r r':Rp}(h:N7 P E f args r)(hr:Et r r'):N7 P E f args r':=λw Z vs hv hs=>
 (h w Z vs hv hs).mono λe w' ⟨q,v,H,Z',he,⟨hq,hH⟩,hp,ht⟩=>⟨r',v,H,Z',he,⟨rfl,hH⟩,hr Z' v (hq▸hp),ht⟩
theorem Et.tup2 {a b:Value}:Et (rv (.tuple #[a,b])) (Dx [rv a,rv b]):=λZ v h=>⟨[a,b],h,rfl,rfl,trivial⟩
theorem N7.of_id {P:Program}{E:Fz→Prop}{f:FuncId}{vs:List Value}{v:Value}(h:∀w,Calls P f vs.toArray w (λe w'=>e = .returned v∧w'=w)):N7 P E f (vs.map rv) (rv v):=
 N7.of_old λw Z _ _=>(h w).mono λe w' ⟨he,hw⟩=>⟨he,by rw[hw];exact Proofs.YtghdglcmblpbeaaGreatDoor.St.refl w []⟩
theorem Ps (m:Int)(g:BN .i64 m=true):N7 Tryz.prog GE 113 [rI .i64 m] (rS (Lib.itoa m)):=N7.of_old (vs:=[.int .i64 m]) λw Z hf he=>T1 m (GF g).1 (GF g).2 w (he w hf)
theorem VG (m:Int)(g:BN .i64 m=true):N7 Tryz.prog GE 105 [rI .i64 m] (rS (Lib.itoa m)):=N7.of_old (vs:=[.int .i64 m]) λw Z hf he=>Tu m (GF g).1 (GF g).2 w (he w hf)
theorem Uu (s:Aw)(g:Ge 1 s.length=true):N7 Tryz.prog GE 151 [rS s] (Dx [rI .i64 (CU s),rI .i64 (CM s)]):=(N7.of_old (vs:=[.string (B s)]) λw Z hf he=>Uv s (by simp[Ge] at g;omega) w (he w hf)).rle Et.tup2
theorem Rh (s:Aw)(c:UInt8):N7 Tryz.prog GE 138 [rS s,rS [c]] (rI .i64 (Lib.countByte s c)):=N7.of_id (vs:=[.string (B s),.string (B [c])]) λw=>by have:=Tryz.strings_Count_one (B s) c w;rwa [Q5] at this
open Go Go.RowKit Go.ChangeShapes Go.Deep
set_option linter.unusedSimpArgs false
def ZW (W:World):Fz:=⟨λb=>W.heap[b]?,λ_ _=>none⟩
theorem ZW.frz (W:World):Sv (ZW W) W:=⟨λ_ _ h=>h,λ_ _ _ h=>by cases h⟩
def Jz (P:Program)(e:TypeId){α:Type}(enc:α→List Rp)(ok:α→Bool):Prop:=
 ∀{H:Type} {encH:TypeId×Value→H} {W:World} {sp:Nat→Bool} {held:Bool} {n:Nat} {cs:List Value} {x:DataW H×List MemPlace},DataW.trod encH P W 0 sp held n e cs=some x→∃y:α,ok y=true∧Bn (ZW W) (enc y) cs
section
variable {P : Program} {e t : TypeId}
theorem Jz.int {k:IntKind}{enc:Int→List Rp}(ht:P.underlying e=some (.int k))(he:∀n,enc n=[rI k n]):Jz P e enc (BN k):=λh=>by
 obtain⟨n,rfl,_,hwf⟩:=DataW.trod_int ht h;exact⟨n,hwf,by rw[he];exact⟨rfl,trivial⟩⟩
theorem Jz.str {enc:Aw→List Rp}(ht:P.underlying e=some .string)(he:∀n,enc n=[rS n]):Jz P e enc Uy:=λh=>by
 obtain⟨s,rfl,_,hl⟩:=DataW.trod_string ht h;exact⟨s.data.toList,X4 (by rw[Array.length_toList];exact hl),by rw[he];exact⟨congrArg Value.string (Xl s),trivial⟩⟩
theorem Jz.bool {enc:Bool→List Rp}(ht:P.underlying e=some .bool)(he:∀n,enc n=[rB n]):Jz P e enc (λ_=>true):=λh=>by
 obtain⟨b,rfl,_⟩:=DataW.trod_bool ht h;exact⟨b,rfl,by rw[he];exact⟨rfl,trivial⟩⟩
theorem N5 {W:World}{a:Addr}{v:Value}(h:W.cell? a=some v):a.spot=none∧Ik (ZW W) a.block a.off=some v:=by
 unfold World.cell? at h;unfold Ik ZW;dsimp only
 cases hh:W.heap[a.block]? with
 | none=>rw[hh] at h;cases h
 | some o=>
  rw[hh] at h
  cases o with
  | cells cs t fz=>
   cases hs:a.spot with
   | none=>simp[hs] at h;exact⟨rfl,h⟩
   | some _=>simp[hs] at h
  | _=>simp at h
theorem Jz.slice {α:Type}[Inhabited α]{enc:α→List Rp}{ok:α→Bool}{sz:Nat}(ht:P.underlying t=some (.slice e))(hc:P.cellsOf e=sz)(hsz:0<sz)(h:Jz P e enc ok)(hlen:∀y,(enc y).length=sz){enc':List α→List Rp}(he:∀ys,enc' ys=[AJ sz (ys.map enc)]) :
  Jz P t enc' (λys=>ys.all ok&&decide (ys.length≤9223372036854775807)):=fun {H encH W sp held n cs x} hx=>by
 rcases open_slice ht hx with⟨rfl,_⟩ | ⟨a,len,cap,m,n',D,Pl,rfl,hb,hl,hm,hmm,_,hel⟩
 ·exact⟨[],by simp,by rw[he];exact⟨O1.nil sz _,trivial⟩⟩
 ·have hlm:len≤m:=by rw[hmm];split<;>omega
  have each:∀i,i<len→∃y:α,ok y=true∧∃cs',W.cells? 0 (a.add (i*sz)) sz=some cs'∧Bn (ZW W) (enc y) cs':=λi hi=>by
   obtain⟨cs',h1,h2⟩:=hel i (by omega);obtain⟨y,hy,hr⟩:=h h2;rw[hc] at h1;exact⟨y,hy,cs',h1,hr⟩
  obtain⟨f,hf⟩:=choose_lt each;refine⟨(List.range len).map f,?_,?_⟩
  ·simp only[X1,XU,List.mem_map,List.mem_range,Xw];refine⟨?_,by simp;simp only[maxLen] at hm;omega⟩;rintro _ ⟨i,hi,rfl⟩;exact(hf i hi).1
  ·rw[he];refine⟨⟨some a,cap,by simp,by simpa using hl,hm,(λh=>by cases h),λi c hi=>?_⟩,trivial⟩;rw[List.map_map,Yd] at hi;have hil:i<len:=by
    cases hq:(List.range len)[i]? with
    | none=>rw[hq] at hi;cases hi
    | some _=>have:=(List.getElem?_eq_some_iff.1 hq).1;simpa using this
   rw[List.getElem?_range hil] at hi;simp only[Option.map_some,Option.some.injEq,Function.comp] at hi;subst hi;obtain⟨_,cs',h1,hr⟩:=hf i hil;obtain⟨_,hcl,hcell⟩:=World.cells?_some h1;have hsp:a.spot=none:=by
    obtain⟨_,cs0,g1,_⟩:=hf 0 (by omega);obtain⟨_,gcl,gcell⟩:=World.cells?_some g1;have h0:=gcell 0 hsz;rw[X5 (by omega)] at h0;have:=(N5 h0).1;simpa[Addr.add] using this
   refine⟨hlen _,a,rfl,hsp,λj r hj=>?_⟩;obtain⟨u,hu,hp⟩:=hr.at hj;have hjs:j<sz:=by have:=(List.getElem?_eq_some_iff.1 hj).1;rw[hlen] at this;exact this
   have h3:=hcell j hjs;rw[hu] at h3;have h4:=(N5 h3).2;refine⟨u,?_,hp⟩;have e1:((a.add (i*sz)).add j).block=a.block:=by simp only[Addr.add];split<;>split<;>rfl
   have e2:((a.add (i*sz)).add j).off=a.off+(i*sz+j):=by simp only[Addr.add];split<;>split<;>simp_all<;>omega
   rw[e1,e2] at h4;exact h4
theorem QG {Z:Fz}{cs:List Value}{o:Nat}(h:cs.length=o):Bn Z [] (cs.drop o):=by rw[List.drop_of_length_le (by omega)];trivial
theorem DS {Z:Fz}{cs:List Value}{o s o':Nat}{rs rs':List Rp}(h:Bn Z rs ((cs.drop o).take s))(ho:o+s=o')(h2:Bn Z rs' (cs.drop o')):Bn Z (rs++rs') (cs.drop o):=by
 rw[← List.take_append_drop s (cs.drop o),List.drop_drop];subst ho;exact h.append h2
theorem Jz.val {α:Type}{enc:α→List Rp}{ok:α→Bool}(h:Jz P e enc ok){r:α→Rp}(he:∀y,enc y=[r y]){H:Type}{encH:TypeId×Value→H}{W:World}{sp:Nat→Bool}{held:Bool}{v:Value}{d:DataW H}{ps:List MemPlace}
  (hone:v.cells = #[v]) (ht:DataW.Trod encH P W 0 sp held e v d ps):∃y:α,ok y=true∧(r y).p (ZW W) v:=by
 obtain⟨fuel,hf⟩:=ht;rw[hone] at hf;obtain⟨y,hy,hr⟩:=h hf;rw[he] at hr;exact⟨y,hy,hr.1⟩
theorem Jz.valAgg {α:Type}{enc:α→List Rp}{ok:α→Bool}(h:Jz P e enc ok){H:Type}{encH:TypeId×Value→H}{W:World}{sp:Nat→Bool}{held:Bool}{cs:Array Value}{d:DataW H}{ps:List MemPlace}
  (ht:DataW.Trod encH P W 0 sp held e (.agg cs) d ps):∃y:α,ok y=true∧(Bt (enc y)).p (ZW W) (.agg cs):=by
 obtain⟨fuel,hf⟩:=ht;obtain⟨y,hy,hr⟩:=h hf;exact⟨y,hy,cs.toList,by simp,hr⟩
end
theorem T0 {W w:World}(hw:Sv (ZW W) w):W.heap.size≤w.heap.size:=by
 rcases Nat.eq_zero_or_pos W.heap.size with h | h
 ·omega
 ·have h1:W.heap[W.heap.size-1]? =some (W.heap[W.heap.size-1]'(by omega)):=Array.getElem?_eq_getElem (by omega);have:=(Array.getElem?_eq_some_iff.1 (hw _ _ h1)).1;omega
theorem RW {W:World}(hE:Rq W):GE (ZW W):=λw hw=>by
 have hb:Below W.heap.size W { w with os:=W.os,tape:=W.tape,output:=W.output }:=⟨rfl,rfl,rfl,(show W.heap.size≤w.heap.size from T0 hw),λk hk=>by
  have h1:W.heap[k]? =some (W.heap[k]'hk):=Array.getElem?_eq_getElem hk;rw[h1];exact hw k _ h1⟩
 have hE2:=hE.st0 (St.of_below hb);exact⟨Oz.block { w with os:=W.os,tape:=W.tape,output:=W.output } w (λ_ _=>rfl) hE2.tabs,hE2.size⟩
theorem SU {W:World}(hE:Rq W):St ⟨W,ZW W,[],GE,[]⟩ [] (ZW W) W where
 os:=rfl
 tape:=rfl
 output:=rfl
 size:=XG _
 old:=λ_ _ _=>rfl
 has:=λ_ h=>by cases h
 own:=λ_ h=>by cases h
 dis:=.nil
 frz:=ZW.frz W
 le:=Fz.le.refl _
 new:=λ_ _ h=>.inl h
 zdis:=λ_ h=>by cases h
 env:=RW hE
 emono:=λh hg=>GE.mono h hg
 gst:=Kv.none rfl
theorem SV {W W':World}{Z Z':Fz}{E:Fz→Prop}{H:List Ent}(h:St ⟨W,Z,[],E,[]⟩ H Z' W'):Below W.heap.size W W':=⟨h.os,h.tape,h.output,h.size,λk hk=>h.old k hk (by simp)⟩
open Go
def KO (l:(List Int)):Option ((List Int)):=
 some l
def IJ (l:(List Int))(c:Int):Option (Unit×(List Int)):=
 Bf (KO l) λr1=>AY (Ge 1 (r1.length+([c]:List Int).length))<|some ((),r1++([c]:List Int))
def GT (l:(List Int))(s:Aw):Option (Int×Unit×(List Int)):=
 Bf (KO l) λr1=>AY (Ge 1 (r1.length+s.length))<|some ((s.length:Int),(),r1++EF s)
def MK (l:Aw):Option (Aw):=
 AY (decide (0<(EF l).length))<|some l
def KN (l:(List Int)):Option ((List Int)):=
 some l
def II (l:(List Int))(c:Int):Option (Unit×(List Int)):=
 Bf (KN l) λr1=>AY (Ge 1 (r1.length+([c]:List Int).length))<|some ((),r1++([c]:List Int))
def GS (l:(List Int))(s:Aw):Option (Int×Unit×(List Int)):=
 Bf (KN l) λr1=>AY (Ge 1 (r1.length+s.length))<|some ((s.length:Int),(),r1++EF s)
def MJ (l:Aw):Option (Aw):=
 AY (decide (0<(EF l).length))<|some l
set_option maxRecDepth 100000
set_option maxHeartbeats 4000000
theorem Pp:∃inf,Tryz.prog.info? 5=some inf∧inf.zero=some (.int .u8 0)∧inf.size=1∧inf.bytes=1:=by
  have key:(Tryz.prog.info? 5).map (λi=>(i.zero,i.size,i.bytes))=some (some (.int .u8 0),1,1):=by kernel_rfl
  obtain⟨inf,h1,h2⟩:=Option.map_eq_some_iff.1 key;simp only[Prod.mk.injEq] at h2;exact⟨inf,h1,h2.1,h2.2.1,h2.2.2⟩
theorem Pn:∃j,Tryz.prog.info? 101=some j∧j.size≠0:=by
  have key:(Tryz.prog.info? 101).map (λi=>i.size)=some 2:=by kernel_rfl
  obtain⟨j,h1,h2⟩:=Option.map_eq_some_iff.1 key;exact⟨j,h1,by rw[h2];decide⟩
theorem Po:∃j,Tryz.prog.info? 101=some j:=Pn.imp λ_ h=>h.1
theorem PH (ha:Nat)(hb:Value)(l:(List Int))(r:(List Int))(h:KO l=some r):Fn Tryz.prog GE 143 [rP ha 0] [.blk ha [rv (.pointer none),rv hb] 101,.row hb 5 1 (A2 BA l)] (λR H=>∃w0:Value,R=rv (.tuple #[])∧H=[.blk ha [rP ha 0,rv w0] 101,.row w0 5 1 (A2 BA r)]):=by
 refine enter (n:=20) Tryz.func143 rfl Tryz.ntmps143 rfl (λw Z=>?_);unfold KO at h;refine Af (wm rfl (wv (A8 rfl) (vF EQ rfl S6 (vL 0 GX rfl (wv (r:=rB true) (Tl ⟨_,S3⟩ rfl) (Am (DF rfl rfl (Aj (wm rfl (wm rfl (wv (r:=rP ha 0) (Pa (i:=0) S3 Tryz.underlying149 Pn rfl rfl rfl) (B9 (r:=rP ha 0) (U0 Tryz.func150 (by kernel_rfl) (by kernel_rfl) (by kernel_rfl) (by kernel_rfl) rfl) rfl (wv (r:=rP ha 0) (MX (i:=0) Tryz.underlying149 S3 Po rfl rfl (by kernel_rfl)) (wv (A8 rfl) (vF EQ rfl S6 (BF (i:=0) S6 rfl rfl (BQ rfl) rfl rfl (cs':=[rP ha 0,rv hb]) rfl (H':=[.blk ha [rP ha 0,rv hb] 101,.row hb 5 1 (A2 BA l)]) rfl (Ai ?_)))))))))))))))));obtain rfl:=Ao h;exact E5 (NP Tryz.results143) (sC (sC sN)) ⟨hb,rfl,rfl⟩
theorem Ne (ha:Nat)(hb:Value)(l:(List Int))(c:Int)(r:Unit×(List Int))(h:IJ l c=some r):Fn Tryz.prog GE 115 [rP ha 0,rI .u8 c] [.blk ha [rv (.pointer none),rv hb] 101,.row hb 5 1 (A2 BA l)] (λR H=>∃w0:Value,R=rv (.nilIface)∧H=[.blk ha [rP ha 0,rv w0] 101,.row w0 5 1 (A2 BA r.2)]):=by
 refine enter (n:=17) Tryz.func115 rfl Tryz.ntmps115 rfl (λw Z=>?_);unfold IJ at h;refine Af (wa rfl (Bb (wm rfl (ob h λr1 e3 h2=>DP (Hr:=[]) Tryz.call143 (PH ha hb l r1 e3) rfl (Xv _) rfl ?_))));rintro _ _ ⟨v4,rfl,rfl⟩;refine Bb (wm rfl (wm rfl (wv (A8 rfl) (vF EQ rfl Jd (vL 0 OB rfl (wm rfl (AZ (ys:=([c]:List Int)) (enc:=BA) (css:=[[rI .u8 c]]) (xs:=[.tmp 12]) LL Tryz.sizeOf5 WZ rfl rfl rfl ⟨EA.one rfl (Up.refl _),trivial⟩ rfl Gg rfl rfl rfl (λb5=>?_))))))));refine ck h2 λg7 h8=>Exists.elim Pp λinf hinf=>C1 (xs:=r1) (ys:=([c]:List Int)) (enc:=BA) (i:=2) LL hinf.1 hinf.2.1 hinf.2.2.1 hinf.2.2.2 rfl rfl rfl rfl rfl (Lz.w (i:=0) rfl rfl) Gg KK g7 rfl (λv6=>?_);refine wv (A8 rfl) (vF EQ rfl Jd (BF (i:=2) Jd rfl rfl (CZ (i:=0) rfl) rfl rfl (cs':=[rP ha 0,rv v6]) rfl (H':=[.row v6 5 1 (A2 BA (r1++([c]:List Int))),.row (.slice (some ⟨b5,0,none⟩) 1 1) 5 1 (A2 BA ([c]:List Int)),.blk ha [rP ha 0,rv v6] 101]) rfl (Bb (wa rfl (Am (Aq (CA (H2:=[.blk ha [rP ha 0,rv v6] 101,.row v6 5 1 (A2 BA (r1++([c]:List Int))),.row (.slice (some ⟨b5,0,none⟩) 1 1) 5 1 (A2 BA ([c]:List Int))]) ((A1 (i:=2) rfl).trans (Xx _ (Xv _))) ?_)))))));obtain rfl:=Ao h8;exact Ap (Bs Tryz.results115 (A5 rfl)) (sC (sC (sS sN))) ⟨v6,rfl,rfl⟩
theorem Ly (ha:Nat)(hb:Value)(l:(List Int))(s:Aw)(r:Int×Unit×(List Int))(h:GT l s=some r):Fn Tryz.prog GE 112 [rP ha 0,rS s] [.blk ha [rv (.pointer none),rv hb] 101,.row hb 5 1 (A2 BA l)] (λR H=>∃w0:Value,R=Dx [Al r.1,rv (.nilIface)]∧H=[.blk ha [rP ha 0,rv w0] 101,.row w0 5 1 (A2 BA r.2.2)]):=by
 refine enter (n:=19) Tryz.func112 rfl Tryz.ntmps112 rfl (λw Z=>?_);unfold GT at h;refine Af (wa rfl (wa rfl (Bb (wm rfl (ob h λr1 e3 h2=>DP (Hr:=[]) Tryz.call143 (PH ha hb l r1 e3) rfl (Xv _) rfl ?_)))));rintro _ _ ⟨v4,rfl,rfl⟩;refine Bb (wm rfl (wm rfl (wv (A8 rfl) (vF EQ rfl Jd (vL 0 OB rfl (wm rfl (ck h2 λg6 h7=>Exists.elim Pp λinf hinf=>J5 (xs:=r1) (i:=1) LL D4 hinf.1 hinf.2.1 hinf.2.2.1 hinf.2.2.2 rfl rfl rfl g6 rfl (λv5=>?_))))))));refine wv (A8 rfl) (vF EQ rfl Jd (BF (i:=1) Jd rfl rfl (CZ (i:=0) rfl) rfl rfl (cs':=[rP ha 0,rv v5]) rfl (H':=[.row v5 5 1 (A2 BA (r1++EF s)),.blk ha [rP ha 0,rv v5] 101]) rfl (Bb (wm rfl (wv (BP D4 rfl) (wa rfl (wa rfl (Am (Aq (CA (H2:=[.blk ha [rP ha 0,rv v5] 101,.row v5 5 1 (A2 BA (r1++EF s))]) ((A1 (i:=1) rfl).trans (Xx _ (Xv _))) ?_))))))))));obtain rfl:=Ao h7;exact Ap (Eb Tryz.results112 (A5 rfl) (A5 rfl)) (sC (sC sN)) ⟨v5,rfl,rfl⟩
theorem Q1 (ha:Nat)(hb:Value)(l:Aw)(r:Aw)(h:MK l=some r):Fn Tryz.prog GE 88 [rP ha 0] [.blk ha [rv (.pointer none),rv hb] 101,.row hb 5 1 (A2 BA (EF l))] (λR H=>R=rS r∧H=[]):=by
 refine enter (n:=14) Tryz.func88 rfl Tryz.ntmps88 rfl (λw Z=>?_);unfold MK at h;refine Af (wv (r:=rS ([]:Aw)) (AG rfl) (Am (An (ck h λg1 h2=>EO (H1:=[.blk ha [rv (.pointer none),rv hb] 101]) [0] [⟨[],rP ha 0,0⟩,⟨[0],rP ha 0,0⟩,⟨[1],rP ha 1,0⟩,⟨[2],rv hb,1⟩,⟨[3],rv (Wm hb),1⟩,⟨[],rP ha 0,0⟩,⟨[5],rP ha 0,0⟩,⟨[6],rP ha 1,0⟩,⟨[7],rv hb,1⟩,⟨[8],Al ((EF l).length:Int),1⟩,⟨[4,9],rS l,2⟩,⟨[10],rS l,0⟩] (rle [(11,_),(2,[.blk ha [rv (.pointer none),rv hb] 101])]) [2] ?_ ?_))))
 ·refine oq (A3 rfl) (oq (A8 rfl) (oq (AI EQ rfl Jd rfl rfl) (of (Bp (i:=0) OB rfl rfl rfl) (of (Li (i:=1) rfl rfl (LB g1)) (oq (A3 rfl) (oq (A8 rfl) (oq (AI EQ rfl Jd rfl rfl) (of (Bp (i:=0) OB rfl rfl rfl) (of (DU (ys:=EF l) (enc:=BA) (i:=1) LL rfl rfl) (Io rfl (Ws (IK (i:=1) Tryz.underlying134 (by kernel_rfl) rfl rfl rfl (LB g1) rfl)) ?_))))))))));refine oq (AG rfl) ?_;exact Cr
 refine AD (Aq ?_);obtain rfl:=Ao h2;exact Ap (Bs Tryz.results88 (A5 rfl)) (sS sN) ⟨rfl,rfl⟩
theorem PG (ha:Nat)(hb:Value)(l:(List Int))(r:(List Int))(h:KN l=some r):Fn Tryz.prog GE 143 [rP ha 0] [.blk ha [rP ha 0,rv hb] 101,.row hb 5 1 (A2 BA l)] (λR H=>∃w0:Value,R=rv (.tuple #[])∧H=[.blk ha [rP ha 0,rv w0] 101,.row w0 5 1 (A2 BA r)]):=by
 refine enter (n:=20) Tryz.func143 rfl Tryz.ntmps143 rfl (λw Z=>?_);unfold KN at h;refine Af (wm rfl (wv (A8 rfl) (vF EQ rfl S6 (vL 0 GX rfl (wv (r:=rB false) (V7 ⟨_,S3⟩ rfl) (Am (GY rfl rfl (Af (wm rfl (wv (A8 rfl) (vF EQ rfl S6 (vL 0 GX rfl (wm rfl (wv (r:=rB false) (Qj S3 Po rfl rfl) (Am (GY rfl rfl (At ?_)))))))))))))))));obtain rfl:=Ao h;exact E5 (NP Tryz.results143) (sC (sC sN)) ⟨hb,rfl,rfl⟩
theorem Nd (ha:Nat)(hb:Value)(l:(List Int))(c:Int)(r:Unit×(List Int))(h:II l c=some r):Fn Tryz.prog GE 115 [rP ha 0,rI .u8 c] [.blk ha [rP ha 0,rv hb] 101,.row hb 5 1 (A2 BA l)] (λR H=>∃w0:Value,R=rv (.nilIface)∧H=[.blk ha [rP ha 0,rv w0] 101,.row w0 5 1 (A2 BA r.2)]):=by
 refine enter (n:=17) Tryz.func115 rfl Tryz.ntmps115 rfl (λw Z=>?_);unfold II at h;refine Af (wa rfl (Bb (wm rfl (ob h λr1 e3 h2=>DP (Hr:=[]) Tryz.call143 (PG ha hb l r1 e3) rfl (Xv _) rfl ?_))));rintro _ _ ⟨v4,rfl,rfl⟩;refine Bb (wm rfl (wm rfl (wv (A8 rfl) (vF EQ rfl Jd (vL 0 OB rfl (wm rfl (AZ (ys:=([c]:List Int)) (enc:=BA) (css:=[[rI .u8 c]]) (xs:=[.tmp 12]) LL Tryz.sizeOf5 WZ rfl rfl rfl ⟨EA.one rfl (Up.refl _),trivial⟩ rfl Gg rfl rfl rfl (λb5=>?_))))))));refine ck h2 λg7 h8=>Exists.elim Pp λinf hinf=>C1 (xs:=r1) (ys:=([c]:List Int)) (enc:=BA) (i:=2) LL hinf.1 hinf.2.1 hinf.2.2.1 hinf.2.2.2 rfl rfl rfl rfl rfl (Lz.w (i:=0) rfl rfl) Gg KK g7 rfl (λv6=>?_);refine wv (A8 rfl) (vF EQ rfl Jd (BF (i:=2) Jd rfl rfl (CZ (i:=0) rfl) rfl rfl (cs':=[rP ha 0,rv v6]) rfl (H':=[.row v6 5 1 (A2 BA (r1++([c]:List Int))),.row (.slice (some ⟨b5,0,none⟩) 1 1) 5 1 (A2 BA ([c]:List Int)),.blk ha [rP ha 0,rv v6] 101]) rfl (Bb (wa rfl (Am (Aq (CA (H2:=[.blk ha [rP ha 0,rv v6] 101,.row v6 5 1 (A2 BA (r1++([c]:List Int))),.row (.slice (some ⟨b5,0,none⟩) 1 1) 5 1 (A2 BA ([c]:List Int))]) ((A1 (i:=2) rfl).trans (Xx _ (Xv _))) ?_)))))));obtain rfl:=Ao h8;exact Ap (Bs Tryz.results115 (A5 rfl)) (sC (sC (sS sN))) ⟨v6,rfl,rfl⟩
theorem Lx (ha:Nat)(hb:Value)(l:(List Int))(s:Aw)(r:Int×Unit×(List Int))(h:GS l s=some r):Fn Tryz.prog GE 112 [rP ha 0,rS s] [.blk ha [rP ha 0,rv hb] 101,.row hb 5 1 (A2 BA l)] (λR H=>∃w0:Value,R=Dx [Al r.1,rv (.nilIface)]∧H=[.blk ha [rP ha 0,rv w0] 101,.row w0 5 1 (A2 BA r.2.2)]):=by
 refine enter (n:=19) Tryz.func112 rfl Tryz.ntmps112 rfl (λw Z=>?_);unfold GS at h;refine Af (wa rfl (wa rfl (Bb (wm rfl (ob h λr1 e3 h2=>DP (Hr:=[]) Tryz.call143 (PG ha hb l r1 e3) rfl (Xv _) rfl ?_)))));rintro _ _ ⟨v4,rfl,rfl⟩;refine Bb (wm rfl (wm rfl (wv (A8 rfl) (vF EQ rfl Jd (vL 0 OB rfl (wm rfl (ck h2 λg6 h7=>Exists.elim Pp λinf hinf=>J5 (xs:=r1) (i:=1) LL D4 hinf.1 hinf.2.1 hinf.2.2.1 hinf.2.2.2 rfl rfl rfl g6 rfl (λv5=>?_))))))));refine wv (A8 rfl) (vF EQ rfl Jd (BF (i:=1) Jd rfl rfl (CZ (i:=0) rfl) rfl rfl (cs':=[rP ha 0,rv v5]) rfl (H':=[.row v5 5 1 (A2 BA (r1++EF s)),.blk ha [rP ha 0,rv v5] 101]) rfl (Bb (wm rfl (wv (BP D4 rfl) (wa rfl (wa rfl (Am (Aq (CA (H2:=[.blk ha [rP ha 0,rv v5] 101,.row v5 5 1 (A2 BA (r1++EF s))]) ((A1 (i:=1) rfl).trans (Xx _ (Xv _))) ?_))))))))));obtain rfl:=Ao h7;exact Ap (Eb Tryz.results112 (A5 rfl) (A5 rfl)) (sC (sC sN)) ⟨v5,rfl,rfl⟩
theorem Q0 (ha:Nat)(hb:Value)(l:Aw)(r:Aw)(h:MJ l=some r):Fn Tryz.prog GE 88 [rP ha 0] [.blk ha [rP ha 0,rv hb] 101,.row hb 5 1 (A2 BA (EF l))] (λR H=>R=rS r∧H=[]):=by
 refine enter (n:=14) Tryz.func88 rfl Tryz.ntmps88 rfl (λw Z=>?_);unfold MJ at h;refine Af (wv (r:=rS ([]:Aw)) (AG rfl) (Am (An (ck h λg1 h2=>EO (H1:=[.blk ha [rP ha 0,rv hb] 101]) [0] [⟨[],rP ha 0,0⟩,⟨[0],rP ha 0,0⟩,⟨[1],rP ha 1,0⟩,⟨[2],rv hb,1⟩,⟨[3],rv (Wm hb),1⟩,⟨[],rP ha 0,0⟩,⟨[5],rP ha 0,0⟩,⟨[6],rP ha 1,0⟩,⟨[7],rv hb,1⟩,⟨[8],Al ((EF l).length:Int),1⟩,⟨[4,9],rS l,2⟩,⟨[10],rS l,0⟩] (rle [(11,_),(2,[.blk ha [rP ha 0,rv hb] 101])]) [2] ?_ ?_))))
 ·refine oq (A3 rfl) (oq (A8 rfl) (oq (AI EQ rfl Jd rfl rfl) (of (Bp (i:=0) OB rfl rfl rfl) (of (Li (i:=1) rfl rfl (LB g1)) (oq (A3 rfl) (oq (A8 rfl) (oq (AI EQ rfl Jd rfl rfl) (of (Bp (i:=0) OB rfl rfl rfl) (of (DU (ys:=EF l) (enc:=BA) (i:=1) LL rfl rfl) (Io rfl (Ws (IK (i:=1) Tryz.underlying134 (by kernel_rfl) rfl rfl rfl (LB g1) rfl)) ?_))))))))));refine oq (AG rfl) ?_;exact Cr
 refine AD (Aq ?_);obtain rfl:=Ao h2;exact Ap (Bs Tryz.results88 (A5 rfl)) (sS sN) ⟨rfl,rfl⟩
theorem C4 (b:Nat)(v:Value)(l:Aw)(c:Int)(g1:Ge 1 (l.length+1)=true)(g2:BN .u8 c=true):Fn Tryz.prog GE 115 [rP b 0,rI .u8 c] [.bld 101 5 b v l] (λR H=>∃w0:Value,R=rv .nilIface∧H=[.bld 101 5 b w0 (l++[UInt8.ofNat c.toNat])]):=by
  have hc:EF (l++[UInt8.ofNat c.toNat])=EF l++[c]:=by
    have:=(by simpa[BN,IntKind.min,IntKind.max,IntKind.signed,IntKind.bits] using g2:0≤c∧c≤255)
    simp only[EF,List.map_append,Ym,List.map_nil]
    congr 2
    simp;omega
  refine Fn.bld (res:=rv .nilIface) λp hp=>?_;rw[hc];rcases hp with rfl | rfl
  · refine(Ne b v (EF l) c (((),EF l++[c])) ?_).sub (Gy.refl _) (λr H h=>by obtain⟨w0,h1,h2⟩:=h;exact⟨w0,h1,h2⟩)
    simp only[IJ,KO,Bf,D1];simp[AY,g1]
  · refine(Nd b v (EF l) c (((),EF l++[c])) ?_).sub (Gy.refl _) (λr H h=>by obtain⟨w0,h1,h2⟩:=h;exact⟨w0,h1,h2⟩)
    simp only[II,KN,Bf,D1];simp[AY,g1]
theorem GN (b:Nat)(v:Value)(l s:Aw)(g1:Ge 1 (l.length+s.length)=true):Fn Tryz.prog GE 112 [rP b 0,rS s] [.bld 101 5 b v l] (λR H=>∃w0:Value,R=Dx [Al (s.length:Int),rv .nilIface]∧H=[.bld 101 5 b w0 (l++s)]):=by
  have hc:EF (l++s)=EF l++EF s:=by simp[EF]
  refine Fn.bld (res:=Dx [Al (s.length:Int),rv .nilIface]) λp hp=>?_;rw[hc];rcases hp with rfl | rfl
  · refine(Ly b v (EF l) s (((s.length:Int),(),EF l++EF s)) ?_).sub (Gy.refl _) (λr H h=>by obtain⟨w0,h1,h2⟩:=h;exact⟨w0,h1,h2⟩)
    simp only[GT,KO,Bf,D1];simp[AY,g1]
  · refine(Lx b v (EF l) s (((s.length:Int),(),EF l++EF s)) ?_).sub (Gy.refl _) (λr H h=>by obtain⟨w0,h1,h2⟩:=h;exact⟨w0,h1,h2⟩)
    simp only[GS,KN,Bf,D1];simp[AY,g1]
theorem Sq (b:Nat)(v:Value)(l:Aw)(g1:decide (0<l.length)=true):Fn Tryz.prog GE 88 [rP b 0] [.bld 101 5 b v l] (λR H=>R=rS l∧H=[]):=by
  refine Fn.bldS (res:=rS l) λp hp=>?_;rcases hp with rfl | rfl
  · exact Q1 b v l l (by simp only[MK,D1];simp[AY,g1])
  · exact Q0 b v l l (by simp only[MJ,D1];simp[AY,g1])
end Go.Proofs.YtghdglcmblpbeaaGreatDoor.Q
namespace Go.Proofs.YtghdglcmblpbeaaGreatDoor
open Go
set_option linter.unusedVariables false
structure Aa where
 fKind:Int
 fInt:Int
 fStr:Aw
 fN:Int
 deriving DecidableEq,Inhabited
def IR (s:Aw)(ha:Int):Option (Stp (Int) (Out (Bool) (Unit))):=
 AO (decide (ha<(s.length:Int))) (AY (C3 ha (s.length:Int))<|AO (((decide ((Cn s ha)<32))||(decide (126<(Cn s ha))))) (some (.out (.ret false))) (AY (BN .i64 (ha+1))<|some (.next (ha+1)))) (some (.out (.go ())))
def IQ :Option (Bool):=
 some true
def I0 (F:Nat)(s:Aw):Option (Bool):=
 Bf (Cf (λσ=>IR s σ) F 0) (BS λν=>IQ )
def BK (ok:Bool)(i:Int):Option (Int):=
 AO (ok) (AY (BN .i64 (i+1))<|some (i+1)) (some (-1))
def MV (F:Nat)(c:Aa):Option (Bool):=
 AY (imp (decide (c.fKind=4)) (imp (decide (c.fInt=0)) (imp (decide (c.fN=0)) ((I0 F c.fStr).isSome))))<|some ((decide (c.fKind=4))&&((decide (c.fInt=0))&&((decide (c.fN=0))&&(ov (I0 F c.fStr)))))
def NS (F:Nat)(ha:(List Aa)→Int→Int→Option (Int))(hb:(List Aa)→Int→Int→Option (Int))(v:(List Aa))(i:Int):Option (Int):=
 AO (((decide (i<0))||(decide ((v.length:Int)≤i)))) (some (-1)) (AY (C3 i (v.length:Int))<|AO (decide (((Ax v i).fKind)=1)) (AY (imp (decide (((Ax v i).fInt)=0)) (imp (decide (((Ax v i).fStr)=([]:Aw))) ((BK (decide (((Ax v i).fN)=0)) i).isSome)))<|AY (imp (decide (((Ax v i).fInt)=0)) (imp (!(decide (((Ax v i).fStr)=([]:Aw)))) ((BK false i).isSome)))<|AY (imp (!(decide (((Ax v i).fInt)=0))) ((BK false i).isSome))<|some (bif decide (((Ax v i).fInt)=0) then(bif decide (((Ax v i).fStr)=([]:Aw)) then(ov (BK (decide (((Ax v i).fN)=0)) i)) else(ov (BK false i))) else(ov (BK false i)))) (AO (decide (((Ax v i).fKind)=2)) (AY (imp (decide (((Ax v i).fInt)=0)) (imp (decide (((Ax v i).fStr)=([]:Aw))) ((BK (decide (((Ax v i).fN)=0)) i).isSome)))<|AY (imp (decide (((Ax v i).fInt)=0)) (imp (!(decide (((Ax v i).fStr)=([]:Aw)))) ((BK false i).isSome)))<|AY (imp (!(decide (((Ax v i).fInt)=0))) (imp (decide (((Ax v i).fInt)=1)) (imp (decide (((Ax v i).fStr)=([]:Aw))) ((BK (decide (((Ax v i).fN)=0)) i).isSome))))<|AY (imp (!(decide (((Ax v i).fInt)=0))) (imp (decide (((Ax v i).fInt)=1)) (imp (!(decide (((Ax v i).fStr)=([]:Aw)))) ((BK false i).isSome))))<|AY (imp (!(decide (((Ax v i).fInt)=0))) (imp (!(decide (((Ax v i).fInt)=1))) ((BK false i).isSome)))<|some (bif decide (((Ax v i).fInt)=0) then(bif decide (((Ax v i).fStr)=([]:Aw)) then(ov (BK (decide (((Ax v i).fN)=0)) i)) else(ov (BK false i))) else(bif decide (((Ax v i).fInt)=1) then(bif decide (((Ax v i).fStr)=([]:Aw)) then(ov (BK (decide (((Ax v i).fN)=0)) i)) else(ov (BK false i))) else(ov (BK false i))))) (AO (decide (((Ax v i).fKind)=3)) (AY (imp (decide (((Ax v i).fStr)=([]:Aw))) ((BK (decide (((Ax v i).fN)=0)) i).isSome))<|AY (imp (!(decide (((Ax v i).fStr)=([]:Aw)))) ((BK false i).isSome))<|some (bif decide (((Ax v i).fStr)=([]:Aw)) then(ov (BK (decide (((Ax v i).fN)=0)) i)) else(ov (BK false i)))) (AO (decide (((Ax v i).fKind)=4)) (Bf (MV F (Ax v i)) λhe=>Bf (BK he i) λhf=>some hf) (AO (((decide (((Ax v i).fKind)=5))&&((decide (((Ax v i).fInt)=0))&&((decide (((Ax v i).fStr)=([]:Aw)))&&(decide (0≤((Ax v i).fN))))))) (AY (BN .i64 (i+1))<|Bf (ha v (i+1) ((Ax v i).fN)) λhg=>some hg) (AO (((decide (((Ax v i).fKind)=6))&&((decide (((Ax v i).fInt)=0))&&((decide (((Ax v i).fStr)=([]:Aw)))&&(decide (0≤((Ax v i).fN))))))) (AY (BN .i64 (i+1))<|Bf (hb v (i+1) ((Ax v i).fN)) λhh=>some hh) (some (-1))))))))
def CL (v:(List Aa))(n:Int)(hf:(List Aa)→Int→Option (Int))(hb:Int)(ha:Int):Option (Stp (Int×Int) (Out (Int) (Int))):=
 AO (decide (ha<n)) (Bf (hf v hb) λhe=>AO (decide (he<0)) (some (.out (.ret (-1)))) (AY (BN .i64 (ha+1))<|some (.next (he,ha+1)))) (some (.out (.go hb)))
def DG (ha:Int):Option (Int):=
 some ha
def HT (F:Nat)(ha:(List Aa)→Int→Option (Int))(v:(List Aa))(i:Int)(n:Int):Option (Int):=
 Bf (Cf (λσ=>CL v n ha σ.1 σ.2) F (i,0)) (BS λν=>DG ν)
def Dl (F:Nat)(v:(List Aa))(n:Int)(hg:(List Aa)→Int→Option (Int))(ha:Int)(he:Aw)(hb:Int):Option (Stp (Int×Aw×Int) (Out (Int) (Int))):=
 AO (decide (hb<n)) (AY (imp (!(decide ((v.length:Int)≤ha))) (C3 ha (v.length:Int)))<|AY (imp (!(decide ((v.length:Int)≤ha))) ((MV F (Ax v ha)).isSome))<|AO (((decide ((v.length:Int)≤ha))||((!(ov (MV F (Ax v ha))))||((decide (0<hb))&&(Di ((Ax v ha).fStr) he||decide (((Ax v ha).fStr)=he)))))) (some (.out (.ret (-1)))) (AY (C3 ha (v.length:Int))<|AY (BN .i64 (ha+1))<|Bf (hg v (ha+1)) λhf=>AO (decide (hf<0)) (some (.out (.ret (-1)))) (AY (BN .i64 (hb+1))<|some (.next (hf,(Ax v ha).fStr,hb+1))))) (some (.out (.go ha)))
def Gb (ha:Int):Option (Int):=
 some ha
def L8 (F:Nat)(ha:(List Aa)→Int→Option (Int))(v:(List Aa))(i:Int)(n:Int):Option (Int):=
 Bf (Cf (λσ=>Dl F v n ha σ.1 σ.2.1 σ.2.2) F (i,([]:Aw),0)) (BS λν=>Gb ν)
mutual
def Dp:Nat→(List Aa)→Int→Option (Int)
 | 0,_,_=>none
 | nn+1,v,i=>NS nn (Gc nn) (K4 nn) v i
def Gc:Nat→(List Aa)→Int→Int→Option (Int)
 | 0,_,_,_=>none
 | nn+1,v,i,n=>HT nn (Dp nn) v i n
def K4:Nat→(List Aa)→Int→Int→Option (Int)
 | 0,_,_,_=>none
 | nn+1,v,i,n=>L8 nn (Dp nn) v i n
end
def JS (F:Nat)(v:(List Aa)):Option (Bool):=
 AY (imp (decide (0<(v.length:Int))) ((Dp F v 0).isSome))<|some ((decide (0<(v.length:Int)))&&(decide ((ov (Dp F v 0))=(v.length:Int))))
def CH (F:Nat)(v:(List Aa))(i:Int)(hf:(List Aa)→Int→Option (Int))(he:Int)(hb:Int)(ha:Int):Option (Stp (Int×Int×Int) (Out (Int) (Int))):=
 AO (decide (ha<((Ax v i).fN))) (AO (decide (((Ax v i).fKind)=6)) (AY (BN .i64 (hb+1))<|Bf (hf v (hb+1)) λhg=>AO (decide (he<hg)) (Bf (Dp F v (hb+1)) λhi=>AY (BN .i64 (ha+1))<|some (.next (hg,hi,ha+1))) (Bf (Dp F v (hb+1)) λhj=>AY (BN .i64 (ha+1))<|some (.next (he,hj,ha+1)))) (Bf (hf v hb) λhh=>AO (decide (he<hh)) (Bf (Dp F v hb) λhk=>AY (BN .i64 (ha+1))<|some (.next (hh,hk,ha+1))) (Bf (Dp F v hb) λhl=>AY (BN .i64 (ha+1))<|some (.next (he,hl,ha+1))))) (some (.out (.go he)))
def D9 (ha:Int):Option (Int):=
 AY (BN .i64 (ha+1))<|some (ha+1)
def Hg (F:Nat)(ha:(List Aa)→Int→Option (Int))(v:(List Aa))(i:Int):Option (Int):=
 AY (C3 i (v.length:Int))<|AO (((!decide (((Ax v i).fKind)=5))&&(!decide (((Ax v i).fKind)=6)))) (some 1) (AY (BN .i64 (i+1))<|Bf (Cf (λσ=>CH F v i ha σ.1 σ.2.1 σ.2.2) F (0,i+1,0)) (BS λν=>D9 ν))
def CY:Nat→(List Aa)→Int→Option (Int)
 | 0,_,_=>none
 | nn+1,v,i=>Hg nn (CY nn) v i
def CT (s:Aw)(hb:Aw)(ha:Int):Option (Stp (Aw×Int) (Out (Aw) (Aw))):=
 AO (decide (ha<(s.length:Int))) (AY (C3 ha (s.length:Int))<|AO (((decide ((Cn s ha)=34))||(decide ((Cn s ha)=92)))) (AY (BN .i64 ((hb.length:Int)+(([92]:Aw).length:Int)))<|AY (BN .i64 (ha+1))<|AY (G0 ha (ha+1))<|AY (G0 (ha+1) (s.length:Int))<|AY (BN .i64 (((hb++([92]:Aw)).length:Int)+((List.take (Int.toNat (ha+1)-Int.toNat ha) (List.drop (Int.toNat ha) s)).length:Int)))<|some (.next ((hb++([92]:Aw))++(List.take (Int.toNat (ha+1)-Int.toNat ha) (List.drop (Int.toNat ha) s)),ha+1))) (AY (BN .i64 (ha+1))<|AY (G0 ha (ha+1))<|AY (G0 (ha+1) (s.length:Int))<|AY (BN .i64 ((hb.length:Int)+((List.take (Int.toNat (ha+1)-Int.toNat ha) (List.drop (Int.toNat ha) s)).length:Int)))<|some (.next (hb++(List.take (Int.toNat (ha+1)-Int.toNat ha) (List.drop (Int.toNat ha) s)),ha+1)))) (some (.out (.go hb)))
def Du (ha:Aw):Option (Aw):=
 AY (BN .i64 ((ha.length:Int)+(([34]:Aw).length:Int)))<|some (ha++([34]:Aw))
def HS (F:Nat)(s:Aw):Option (Aw):=
 Bf (Cf (λσ=>CT s σ.1 σ.2) F (([34]:Aw),0)) (BS λν=>Du ν)
def D8 (F:Nat)(v:(List Aa))(i:Int)(hf:(List Aa)→Int→Option (Aw))(ha:Aw)(hb:Int)(he:Int):Option (Stp (Aw×Int×Int) (Out (Aw) (Aw))):=
 AO (decide (he<((Ax v i).fN))) (AO (decide (0<he)) (AY (BN .i64 ((ha.length:Int)+(([44]:Aw).length:Int)))<|AO (decide (((Ax v i).fKind)=6)) (AY (C3 hb (v.length:Int))<|Bf (HS F ((Ax v hb).fStr)) λhg=>AY (BN .i64 (((ha++([44]:Aw)).length:Int)+(hg.length:Int)))<|AY (BN .i64 ((((ha++([44]:Aw))++hg).length:Int)+(([58]:Aw).length:Int)))<|AY (BN .i64 (hb+1))<|Bf (hf v (hb+1)) λhi=>AY (BN .i64 (((((ha++([44]:Aw))++hg)++([58]:Aw)).length:Int)+(hi.length:Int)))<|Bf (Dp F v (hb+1)) λhm=>AY (BN .i64 (he+1))<|some (.next ((((ha++([44]:Aw))++hg)++([58]:Aw))++hi,hm,he+1))) (Bf (hf v hb) λhj=>AY (BN .i64 (((ha++([44]:Aw)).length:Int)+(hj.length:Int)))<|Bf (Dp F v hb) λhn=>AY (BN .i64 (he+1))<|some (.next ((ha++([44]:Aw))++hj,hn,he+1)))) (AO (decide (((Ax v i).fKind)=6)) (AY (C3 hb (v.length:Int))<|Bf (HS F ((Ax v hb).fStr)) λhh=>AY (BN .i64 ((ha.length:Int)+(hh.length:Int)))<|AY (BN .i64 (((ha++hh).length:Int)+(([58]:Aw).length:Int)))<|AY (BN .i64 (hb+1))<|Bf (hf v (hb+1)) λhk=>AY (BN .i64 ((((ha++hh)++([58]:Aw)).length:Int)+(hk.length:Int)))<|Bf (Dp F v (hb+1)) λho=>AY (BN .i64 (he+1))<|some (.next (((ha++hh)++([58]:Aw))++hk,ho,he+1))) (Bf (hf v hb) λhl=>AY (BN .i64 ((ha.length:Int)+(hl.length:Int)))<|Bf (Dp F v hb) λhp=>AY (BN .i64 (he+1))<|some (.next (ha++hl,hp,he+1))))) (some (.out (.go ha)))
def Gq (v:(List Aa))(i:Int)(ha:Aw):Option (Aw):=
 AO (decide (((Ax v i).fKind)=6)) (AY (BN .i64 ((([123]:Aw).length:Int)+(ha.length:Int)))<|AY (BN .i64 (((([123]:Aw)++ha).length:Int)+(([125]:Aw).length:Int)))<|some ((([123]:Aw)++ha)++([125]:Aw))) (AY (BN .i64 ((([91]:Aw).length:Int)+(ha.length:Int)))<|AY (BN .i64 (((([91]:Aw)++ha).length:Int)+(([93]:Aw).length:Int)))<|some ((([91]:Aw)++ha)++([93]:Aw)))
def Ky (F:Nat)(ha:(List Aa)→Int→Option (Aw))(v:(List Aa))(i:Int):Option (Aw):=
 AY (C3 i (v.length:Int))<|AO (decide (((Ax v i).fKind)=1)) (some ([110,117,108,108]:Aw)) (AO (decide (((Ax v i).fKind)=2)) (AO (decide (((Ax v i).fInt)=1)) (some ([116,114,117,101]:Aw)) (some ([102,97,108,115,101]:Aw))) (AO (decide (((Ax v i).fKind)=3)) (AY (BN .i64 ((Ax v i).fInt))<|some (Lib.itoa ((Ax v i).fInt))) (AO (decide (((Ax v i).fKind)=4)) (Bf (HS F ((Ax v i).fStr)) λhb=>some hb) (AY (BN .i64 (i+1))<|Bf (Cf (λσ=>D8 F v i ha σ.1 σ.2.1 σ.2.2) F (([]:Aw),i+1,0)) (BS λν=>Gq v i ν)))))
def ES:Nat→(List Aa)→Int→Option (Aw)
 | 0,_,_=>none
 | nn+1,v,i=>Ky nn (ES nn) v i
def DH (v:(List Aa))(ha:Int):Option (Stp (Int) (Out (Int) (Unit))):=
 AO (decide (ha<(v.length:Int))) (AY (C3 ha (v.length:Int))<|AO (decide (200<(((Ax v ha).fStr).length:Int))) (some (.out (.ret 3))) (AY (BN .i64 (ha+1))<|some (.next (ha+1)))) (some (.out (.go ())))
def Hh (F:Nat)(v:(List Aa)):Option (Int):=
 Bf (ES F v 0) λha=>AO (decide (4000<(ha.length:Int))) (some 3) (some 0)
def DI (v:(List Aa))(ha:Int):Option (Stp (Int) (Out (Int) (Unit))):=
 AO (decide (ha<(v.length:Int))) (AY (C3 ha (v.length:Int))<|AO (((decide (((Ax v ha).fKind)=3))&&((decide (((Ax v ha).fInt)<(-1000000000000)))||(decide (1000000000000<((Ax v ha).fInt)))))) (some (.out (.ret 2))) (AY (BN .i64 (ha+1))<|some (.next (ha+1)))) (some (.out (.go ())))
def Hi (F:Nat)(v:(List Aa)):Option (Int):=
 AY (imp (!(decide (200<(v.length:Int)))) ((CY F v 0).isSome))<|AO (((decide (200<(v.length:Int)))||(decide (8<(ov (CY F v 0)))))) (some 3) (Bf (Cf (λσ=>DH v σ) F 0) (BS λν=>Hh F v ))
def K5 (F:Nat)(v:(List Aa)):Option (Int):=
 Bf (JS F v) λr1=>AO (!r1) (some 1) (Bf (Cf (λσ=>DI v σ) F 0) (BS λν=>Hi F v ))
end Go.Proofs.YtghdglcmblpbeaaGreatDoor
namespace Go.Proofs.YtghdglcmblpbeaaGreatDoor.Q
open Go Go.RowKit
set_option linter.unusedVariables false
set_option linter.unusedSimpArgs false
set_option maxRecDepth 100000
set_option maxHeartbeats 4000000
@[reducible] def Ab (x:Aa):List Rp:=[Al x.fKind,Al x.fInt,rS x.fStr,Al x.fN]
theorem Bi (x:Aa):(Ab x).length=4:=rfl
theorem C0 (x:Aa):(Ab x).all (·.one)=true:=rfl
theorem Tb (F:Nat)(s:Aw)(r:Bool)(h:I0 F s=some r):Fn Tryz.prog GE 145 [rS s] [] (λR H=>R=rB r∧H=[]):=by
 refine enter (n:=20) Tryz.func145 rfl Tryz.ntmps145 rfl (λw Z=>?_);unfold I0 at h;refine Af (wa rfl (Am (An (Af (wa rfl (Am (A6 (ob h λhj hk hh=>Bd (S:=Nat×(Int)×(Unit)) (V:=(Unit)×(Unit)) 0 (λσ=>Cf (λσ=>IR s σ) σ.1 σ.2.1=some hj) (λσ=>[(0,rS s),(3,Al σ.2.1)]) (λσ=>[]) (λσ=>σ.1) (F,0,()) hk (Az.c rfl (Az.c rfl Az.nil)) sN (λσ=>IQ =some r) (λσ=>[]) (λσ=>[]) ?_ ?_))))))))
 ·rintro⟨h0,hb,⟨⟩⟩ hl;refine B7 (l':=[(0,rS s),(3,Al hb)]) (H':=[]) rfl rfl ?_;obtain⟨hm,rfl,t37,he,hg⟩:=Ca hl;replace he:IR s hb=some t37:=he;unfold IR at he;refine An (Af (wm rfl (wm rfl (wv (BP D4 rfl) (wv (Cl rfl rfl) (Am (cz he rfl (λhn ho=>?_) (λhn hp=>?_))))))))
  ·refine At (AD (An (A6 (ck ho λhi hq=>AE [(0,rS s),(3,Al hb),(19,rB ((decide ((Cn s hb)<32))||(decide (126<(Cn s hb)))))] [] ?_ ?_))))
   ·refine Aj (wm rfl (wm rfl (wv (BH D4 rfl rfl hi) (wv (Cl rfl rfl) (wm rfl (AH (decide ((Cn s hb)<32)) (λha=>?_) (λha=>?_)))))))
    ·refine wf ha (wf ha (wf ha (wf ha (wv (r:=rB true) (Av rfl ha rfl) (Ai ?_)))));exact BD ha
    ·refine wo ha (wm rfl (wo ha (wm rfl (wo ha (wv (BH D4 rfl rfl hi) (wo ha (wv (CB rfl rfl) (Cc rfl ha rfl (Ai ?_)))))))));exact BD ha
   refine cz hq rfl (λhr hs=>?_) (λhr ht=>?_)
   ·refine Af (wa rfl (Am (Aq (Au (Ac (Ac (AP ?_)))))));have hu:=Bg hs hg hh;refine Au (Ac ?_);obtain rfl:=Ao hu;exact Ap (Bs Tryz.results145 (A5 rfl)) sN ⟨rfl,rfl⟩
   ·refine At (A4 (AD (Aj (wm rfl (ck ht λhw hx=>wv (Be rfl rfl hw) (wa rfl (Ai ?_)))))));have hy:=AW hx hg;exact As (Ar (hm,hb+1,()) ⟨hy,X0 _⟩ (Az.c rfl (Az.c rfl Az.nil)) sN)
  ·refine Bl (Ay ?_);have hz:=BB hp hg hh;exact Ay (AS (Ar ((),()) hz Az.nil sN))
 ·rintro⟨⟨⟩,⟨⟩⟩ hf;refine Ce (l':=[]) (H':=[]) rfl rfl ?_;replace hf:IQ =some r:=hf;unfold IQ at hf;refine AV (AD (Af (wa rfl (Am (Aq ?_)))));obtain rfl:=Ao hf;exact Ap (Bs Tryz.results145 (A5 rfl)) sN ⟨rfl,rfl⟩
theorem DA (ok:Bool)(i:Int)(r:Int)(h:BK ok i=some r):Fn Tryz.prog GE 126 [rB ok,Al i] [] (λR H=>R=Al r∧H=[]):=by
 refine enter (n:=8) Tryz.func126 rfl Tryz.ntmps126 rfl (λw Z=>?_);unfold BK at h;refine Af (wa rfl (Am (An (Af (wm rfl (Am (cz h rfl (λc1 h2=>?_) (λc1 h5=>?_))))))))
 ·refine Af (wm rfl (ck h2 λg3 h4=>wv (Be rfl rfl g3) (wa rfl (Am (Aq (Ac ?_))))));obtain rfl:=Ao h4;exact Ap (Bs Tryz.results126 (A5 rfl)) sN ⟨rfl,rfl⟩
 ·refine At (AD (Af (wv (r:=Al (-1)) (AG rfl) (Am (Aq ?_)))));obtain rfl:=Ao h5;exact Ap (Bs Tryz.results126 (A5 rfl)) sN ⟨rfl,rfl⟩
theorem Td (F:Nat)(c:Aa)(r:Bool)(h:MV F c=some r):Fn Tryz.prog GE 127 [Bt (Ab c)] [] (λR H=>R=rB r∧H=[]):=by
 refine enter (n:=21) Tryz.func127 rfl Tryz.ntmps127 rfl (λw Z=>?_);unfold MV at h;refine Af (Bq rfl rfl (λb1=>?_));refine wa rfl (Am (ck h λg2 h3=>AE [(2,rB ((decide (c.fKind=4))&&((decide (c.fInt=0))&&((decide (c.fN=0))&&(ov (I0 F c.fStr))))))] [] ?_ ?_))
 ·refine Aj (vF Bm rfl CF (vL 0 CR rfl (wv (AX rfl rfl) (wm rfl (AH (decide (c.fKind=4)) (λc4=>?_) (λc4=>?_))))))
  ·refine wo c4 (vF Bm rfl B3 (wo c4 (vL 0 BG rfl (wo c4 (wv (AX rfl rfl) (BR rfl c4 rfl (wm rfl (AH (decide (c.fInt=0)) (λc5=>?_) (λc5=>?_)))))))))
   ·refine wo c5 (vF Bm rfl B3 (wo c5 (vL 0 BG rfl (wo c5 (wv (AX rfl rfl) (BR rfl c5 rfl (wm rfl (AH (decide (c.fN=0)) (λc6=>?_) (λc6=>?_)))))))))
    ·refine wo c6 (vF Bm rfl C6 (wo c6 (vL 0 CG rfl (wo c6 (BL Tryz.call145 (Tb F c.fStr (ov (I0 F c.fStr)) (Cz (BE (BE (BE g2 c4) c5) c6))) rfl (BR rfl c6 rfl (wa rfl (Ai ?_))))))));exact BD (And.intro c4 (And.intro c5 c6))
    ·refine wf c6 (wf c6 (wf c6 (wv (r:=rB false) (Ak rfl c6 rfl) (wa rfl (Ai ?_)))));exact BD (And.intro c4 (And.intro c5 c6))
   ·refine wf c5 (wf c5 (wf c5 (wv (r:=rB false) (Ak rfl c5 rfl) (wm rfl (wz rfl rfl (wz rfl rfl (wz rfl rfl (wv (r:=rB false) (Ak (b:=false) rfl rfl rfl) (wa rfl (Ai ?_))))))))));exact BD (And.intro c4 c5)
  ·refine wf c4 (wf c4 (wf c4 (wv (r:=rB false) (Ak rfl c4 rfl) (wm rfl (wz rfl rfl (wz rfl rfl (wz rfl rfl (wv (r:=rB false) (Ak (b:=false) rfl rfl rfl) (wm rfl (wz rfl rfl (wz rfl rfl (wz rfl rfl (wv (r:=rB false) (Ak (b:=false) rfl rfl rfl) (wa rfl (Ai ?_)))))))))))))));exact BD c4
 refine Aq ?_;obtain rfl:=Ao h3;exact Ap (Bs Tryz.results127 (A5 rfl)) sN ⟨rfl,rfl⟩
theorem Tc (F:Nat)(ho:(List Aa)→Int→Int→Option (Int))(hp:(List Aa)→Int→Int→Option (Int))(hr:(∀(v:(List Aa)) (i:Int) (n:Int) (r:Int),ho v i n=some r→Fn Tryz.prog GE 128 [AJ 4 (A2 Ab v),Al i,Al n] [] (λR H=>R=Al r∧H=[])))(hs:(∀(v:(List Aa)) (i:Int) (n:Int) (r:Int),hp v i n=some r→Fn Tryz.prog GE 129 [AJ 4 (A2 Ab v),Al i,Al n] [] (λR H=>R=Al r∧H=[])))(v:(List Aa))(i:Int)(r:Int)(h:NS F ho hp v i=some r):Fn Tryz.prog GE 94 [AJ 4 (A2 Ab v),Al i] [] (λR H=>R=Al r∧H=[]):=by
 refine enter (n:=127) Tryz.func94 rfl Tryz.ntmps94 rfl (λw Z=>?_);unfold NS at h;refine Af (wa rfl (Am (An (AE [(0,AJ 4 (A2 Ab v)),(1,Al i),(13,rB ((decide (i<0))||(decide ((v.length:Int)≤i))))] [] ?_ ?_))))
 ·refine Aj (wm rfl (wv (Cl rfl rfl) (wm rfl (AH (decide (i<0)) (λc1=>?_) (λc1=>?_)))))
  ·refine wf c1 (wf c1 (wf c1 (wf c1 (wv (r:=rB true) (Av rfl c1 rfl) (Ai ?_)))));exact BD c1
  ·refine wo c1 (wm rfl (wo c1 (wm rfl (wo c1 (wv (AK (ys:=v) (enc:=Ab) Bv rfl) (wo c1 (wv (EI rfl rfl) (Cc rfl c1 rfl (Ai ?_)))))))));exact BD c1
 refine cz h rfl (λc2 h3=>?_) (λc2 h4=>?_)
 ·refine Af (wv (r:=Al (-1)) (AG rfl) (Am (Aq (Ac ?_))));obtain rfl:=Ao h3;exact Ap (Bs O7 (A5 rfl)) sN ⟨rfl,rfl⟩
 ·refine At (AD (Af (wm rfl (wm rfl (ck h4 λg5 h6=>wv (AU (enc:=Ab) (ys:=v) Bv BC rfl rfl g5) (wv (CP Jn BC rfl rfl rfl) (Cm (cs:=[Al 0,Al 0,rS ([]:Aw),Al 0]) GV rfl rfl (λb7=>?_))))))));refine Bh (i:=0) BC rfl rfl rfl (BU.c rfl) rfl rfl (cs':=[Al ((Ax v i).fKind),Al ((Ax v i).fInt),rS ((Ax v i).fStr),Al ((Ax v i).fN)]) rfl (H':=[.blk b7 (Ab (Ax v i)) 54]) rfl (Am (An (Af (vF Bm rfl CF (vL 0 CR rfl (wv (AX rfl rfl) (Am (cz h6 rfl (λc8 h9=>?_) (λc8 ht=>?_)))))))))
  ·refine ck h9 λhu hw=>ck hw λhx hy=>ck hy λhz h0=>AE [(4,Al (bif decide (((Ax v i).fInt)=0) then(bif decide (((Ax v i).fStr)=([]:Aw)) then(ov (BK (decide (((Ax v i).fN)=0)) i)) else(ov (BK false i))) else(ov (BK false i))))] [] ?_ ?_
   ·refine Aj (vF Bm rfl B3 (vL 0 BG rfl (wv (AX rfl rfl) (wm rfl (AH (decide (((Ax v i).fInt)=0)) (λhb=>?_) (λhb=>?_))))))
    ·refine wo hb (vF Bm rfl C6 (wo hb (vL 0 CG rfl (wo hb (wv (DT rfl rfl) (BR rfl hb rfl (wm rfl (AH (decide (((Ax v i).fStr)=([]:Aw))) (λhf=>?_) (λhf=>?_)))))))))
     ·refine wo hf (vF Bm rfl B3 (wo hf (vL 0 BG rfl (wo hf (wv (AX rfl rfl) (BR rfl hf rfl (wm rfl (BL Iv (DA (decide (((Ax v i).fN)=0)) i (ov (BK (decide (((Ax v i).fN)=0)) i)) (Cz (BE (BE hu hb) hf))) rfl (wa rfl (Ai ?_))))))))));exact BD (And.intro hb hf)
     ·refine wf hf (wf hf (wf hf (wv (r:=rB false) (Ak rfl hf rfl) (wm rfl (BL Iv (DA false i (ov (BK false i)) (Cz (BO (BE hx hb) hf))) rfl (wa rfl (Ai ?_)))))));exact BD (And.intro hb hf)
    ·refine wf hb (wf hb (wf hb (wv (r:=rB false) (Ak rfl hb rfl) (wm rfl (wz rfl rfl (wz rfl rfl (wz rfl rfl (wv (r:=rB false) (Ak (b:=false) rfl rfl rfl) (wm rfl (BL Iv (DA false i (ov (BK false i)) (Cz (BO hz hb))) rfl (wa rfl (Ai ?_))))))))))));exact BD hb
   refine Aq (Ac ?_);obtain rfl:=Ao h0;exact Ap (Bs O7 (A5 rfl)) sN ⟨rfl,rfl⟩
  ·refine At (AD (An (Af (vF Bm rfl CF (vL 0 CR rfl (wv (AX rfl rfl) (Am (cz ht rfl (λh1 h2=>?_) (λh1 h5=>?_)))))))))
   ·refine ck h2 λh7 h8=>ck h8 λhA hB=>ck hB λhC hD=>ck hD λhE hG=>ck hG λhH hI=>AE [(4,Al (bif decide (((Ax v i).fInt)=0) then(bif decide (((Ax v i).fStr)=([]:Aw)) then(ov (BK (decide (((Ax v i).fN)=0)) i)) else(ov (BK false i))) else(bif decide (((Ax v i).fInt)=1) then(bif decide (((Ax v i).fStr)=([]:Aw)) then(ov (BK (decide (((Ax v i).fN)=0)) i)) else(ov (BK false i))) else(ov (BK false i)))))] [] ?_ ?_
    ·refine Aj (vF Bm rfl B3 (vL 0 BG rfl (wv (AX rfl rfl) (wm rfl (AH (decide (((Ax v i).fInt)=0)) (λha=>?_) (λha=>?_))))))
     ·refine wf ha (wf ha (wf ha (wv (r:=rB true) (Av rfl ha rfl) (wm rfl (AF (b:=true) rfl rfl rfl (vF Bm rfl C6 (AF (b:=true) rfl rfl rfl (vL 0 CG rfl (AF (b:=true) rfl rfl rfl (wv (DT rfl rfl) (wv (r:=rB (decide (((Ax v i).fStr)=([]:Aw)))) (Av (b:=true) rfl rfl rfl) (wm rfl (AH (decide (((Ax v i).fStr)=([]:Aw))) (λhg=>?_) (λhg=>?_))))))))))))))
      ·refine wo hg (vF Bm rfl B3 (wo hg (vL 0 BG rfl (wo hg (wv (AX rfl rfl) (BR rfl hg rfl (wm rfl (BL Iv (DA (decide (((Ax v i).fN)=0)) i (ov (BK (decide (((Ax v i).fN)=0)) i)) (Cz (BE (BE h7 ha) hg))) rfl (wa rfl (Ai ?_))))))))));exact BD (And.intro ha hg)
      ·refine wf hg (wf hg (wf hg (wv (r:=rB false) (Ak rfl hg rfl) (wm rfl (BL Iv (DA false i (ov (BK false i)) (Cz (BO (BE hA ha) hg))) rfl (wa rfl (Ai ?_)))))));exact BD (And.intro ha hg)
     ·refine wo ha (vF Bm rfl B3 (wo ha (vL 0 BG rfl (wo ha (wv (AX rfl rfl) (Cc rfl ha rfl (wm rfl (AH (decide (((Ax v i).fInt)=1)) (λhe=>?_) (λhe=>?_)))))))))
      ·refine wo he (vF Bm rfl C6 (wo he (vL 0 CG rfl (wo he (wv (DT rfl rfl) (BR rfl he rfl (wm rfl (AH (decide (((Ax v i).fStr)=([]:Aw))) (λhh=>?_) (λhh=>?_)))))))))
       ·refine wo hh (vF Bm rfl B3 (wo hh (vL 0 BG rfl (wo hh (wv (AX rfl rfl) (BR rfl hh rfl (wm rfl (BL Iv (DA (decide (((Ax v i).fN)=0)) i (ov (BK (decide (((Ax v i).fN)=0)) i)) (Cz (BE (BE (BO hC ha) he) hh))) rfl (wa rfl (Ai ?_))))))))));exact BD (And.intro ha (And.intro he hh))
       ·refine wf hh (wf hh (wf hh (wv (r:=rB false) (Ak rfl hh rfl) (wm rfl (BL Iv (DA false i (ov (BK false i)) (Cz (BO (BE (BO hE ha) he) hh))) rfl (wa rfl (Ai ?_)))))));exact BD (And.intro ha (And.intro he hh))
      ·refine wf he (wf he (wf he (wv (r:=rB false) (Ak rfl he rfl) (wm rfl (wz rfl rfl (wz rfl rfl (wz rfl rfl (wv (r:=rB false) (Ak (b:=false) rfl rfl rfl) (wm rfl (BL Iv (DA false i (ov (BK false i)) (Cz (BO (BO hH ha) he))) rfl (wa rfl (Ai ?_))))))))))));exact BD (And.intro ha he)
    refine Aq (Ac ?_);obtain rfl:=Ao hI;exact Ap (Bs O7 (A5 rfl)) sN ⟨rfl,rfl⟩
   ·refine At (AD (An (Af (vF Bm rfl CF (vL 0 CR rfl (wv (AX rfl rfl) (Am (cz h5 rfl (λhJ hK=>?_) (λhJ hL=>?_)))))))))
    ·refine ck hK λhN hO=>ck hO λhP hQ=>AE [(4,Al (bif decide (((Ax v i).fStr)=([]:Aw)) then(ov (BK (decide (((Ax v i).fN)=0)) i)) else(ov (BK false i))))] [] ?_ ?_
     ·refine Aj (vF Bm rfl C6 (vL 0 CG rfl (wv (DT rfl rfl) (wm rfl (AH (decide (((Ax v i).fStr)=([]:Aw))) (λhi=>?_) (λhi=>?_))))))
      ·refine wo hi (vF Bm rfl B3 (wo hi (vL 0 BG rfl (wo hi (wv (AX rfl rfl) (BR rfl hi rfl (wm rfl (BL Iv (DA (decide (((Ax v i).fN)=0)) i (ov (BK (decide (((Ax v i).fN)=0)) i)) (Cz (BE hN hi))) rfl (wa rfl (Ai ?_))))))))));exact BD hi
      ·refine wf hi (wf hi (wf hi (wv (r:=rB false) (Ak rfl hi rfl) (wm rfl (BL Iv (DA false i (ov (BK false i)) (Cz (BO hP hi))) rfl (wa rfl (Ai ?_)))))));exact BD hi
     refine Aq (Ac ?_);obtain rfl:=Ao hQ;exact Ap (Bs O7 (A5 rfl)) sN ⟨rfl,rfl⟩
    ·refine At (AD (An (Af (vF Bm rfl CF (vL 0 CR rfl (wv (AX rfl rfl) (Am (cz hL rfl (λhR hS=>?_) (λhR hT=>?_)))))))))
     ·refine Af (wv (AB (i:=0) Jn BC rfl rfl rfl rfl) (ob hS λhq hU hV=>BL Tryz.call127 (Td F (Ax v i) hq hU) rfl (wm rfl (ob hV λhW hX hY=>BL Iv (DA hq i hW hX) rfl (wa rfl (Am (Aq (Ac ?_))))))));obtain rfl:=Ao hY;exact Ap (Bs O7 (A5 rfl)) (sS sN) ⟨rfl,rfl⟩
     ·refine At (AD (An (AE [(0,AJ 4 (A2 Ab v)),(1,Al i),(5,rP b7 0),(96,rB ((decide (((Ax v i).fKind)=5))&&((decide (((Ax v i).fInt)=0))&&((decide (((Ax v i).fStr)=([]:Aw)))&&(decide (0≤((Ax v i).fN)))))))] [.blk b7 (Ab (Ax v i)) 54] ?_ ?_)))
      ·refine Aj (vF Bm rfl CF (vL 0 CR rfl (wv (AX rfl rfl) (wm rfl (AH (decide (((Ax v i).fKind)=5)) (λc53=>?_) (λc53=>?_))))))
       ·refine wo c53 (vF Bm rfl B3 (wo c53 (vL 0 BG rfl (wo c53 (wv (AX rfl rfl) (BR rfl c53 rfl (wm rfl (AH (decide (((Ax v i).fInt)=0)) (λhk=>?_) (λhk=>?_)))))))))
        ·refine wo hk (vF Bm rfl C6 (wo hk (vL 0 CG rfl (wo hk (wv (DT rfl rfl) (BR rfl hk rfl (wm rfl (AH (decide (((Ax v i).fStr)=([]:Aw))) (λhm=>?_) (λhm=>?_)))))))))
         ·refine wo hm (vF Bm rfl B3 (wo hm (vL 0 BG rfl (wo hm (wv (EI rfl rfl) (BR rfl hm rfl (Ai ?_)))))));exact BD (And.intro c53 (And.intro hk hm))
         ·refine wf hm (wf hm (wf hm (wv (r:=rB false) (Ak rfl hm rfl) (Ai ?_))));exact BD (And.intro c53 (And.intro hk hm))
        ·refine wf hk (wf hk (wf hk (wv (r:=rB false) (Ak rfl hk rfl) (wm rfl (wz rfl rfl (wz rfl rfl (wz rfl rfl (wv (r:=rB false) (Ak (b:=false) rfl rfl rfl) (Ai ?_)))))))));exact BD (And.intro c53 hk)
       ·refine wf c53 (wf c53 (wf c53 (wv (r:=rB false) (Ak rfl c53 rfl) (wm rfl (wz rfl rfl (wz rfl rfl (wz rfl rfl (wv (r:=rB false) (Ak (b:=false) rfl rfl rfl) (wm rfl (wz rfl rfl (wz rfl rfl (wz rfl rfl (wv (r:=rB false) (Ak (b:=false) rfl rfl rfl) (Ai ?_))))))))))))));exact BD c53
      refine cz hT rfl (λhZ ga=>?_) (λhZ gb=>?_)
      ·refine Af (wm rfl (wm rfl (ck ga λgc gd=>wv (Be rfl rfl gc) (vF Bm rfl B3 (vL 0 BG rfl (ob gd λge gf gg=>BL Tryz.call128 (hr v (i+1) ((Ax v i).fN) ge gf) rfl (wa rfl (Am (Aq (Ac ?_))))))))));obtain rfl:=Ao gg;exact Ap (Bs O7 (A5 rfl)) (sS sN) ⟨rfl,rfl⟩
      ·refine At (AD (An (AE [(0,AJ 4 (A2 Ab v)),(1,Al i),(5,rP b7 0),(120,rB ((decide (((Ax v i).fKind)=6))&&((decide (((Ax v i).fInt)=0))&&((decide (((Ax v i).fStr)=([]:Aw)))&&(decide (0≤((Ax v i).fN)))))))] [.blk b7 (Ab (Ax v i)) 54] ?_ ?_)))
       ·refine Aj (vF Bm rfl CF (vL 0 CR rfl (wv (AX rfl rfl) (wm rfl (AH (decide (((Ax v i).fKind)=6)) (λhj=>?_) (λhj=>?_))))))
        ·refine wo hj (vF Bm rfl B3 (wo hj (vL 0 BG rfl (wo hj (wv (AX rfl rfl) (BR rfl hj rfl (wm rfl (AH (decide (((Ax v i).fInt)=0)) (λhl=>?_) (λhl=>?_)))))))))
         ·refine wo hl (vF Bm rfl C6 (wo hl (vL 0 CG rfl (wo hl (wv (DT rfl rfl) (BR rfl hl rfl (wm rfl (AH (decide (((Ax v i).fStr)=([]:Aw))) (λhn=>?_) (λhn=>?_)))))))))
          ·refine wo hn (vF Bm rfl B3 (wo hn (vL 0 BG rfl (wo hn (wv (EI rfl rfl) (BR rfl hn rfl (Ai ?_)))))));exact BD (And.intro hj (And.intro hl hn))
          ·refine wf hn (wf hn (wf hn (wv (r:=rB false) (Ak rfl hn rfl) (Ai ?_))));exact BD (And.intro hj (And.intro hl hn))
         ·refine wf hl (wf hl (wf hl (wv (r:=rB false) (Ak rfl hl rfl) (wm rfl (wz rfl rfl (wz rfl rfl (wz rfl rfl (wv (r:=rB false) (Ak (b:=false) rfl rfl rfl) (Ai ?_)))))))));exact BD (And.intro hj hl)
        ·refine wf hj (wf hj (wf hj (wv (r:=rB false) (Ak rfl hj rfl) (wm rfl (wz rfl rfl (wz rfl rfl (wz rfl rfl (wv (r:=rB false) (Ak (b:=false) rfl rfl rfl) (wm rfl (wz rfl rfl (wz rfl rfl (wz rfl rfl (wv (r:=rB false) (Ak (b:=false) rfl rfl rfl) (Ai ?_))))))))))))));exact BD hj
       refine cz gb rfl (λgh gi=>?_) (λgh gj=>?_)
       ·refine Af (wm rfl (wm rfl (ck gi λgl gm=>wv (Be rfl rfl gl) (vF Bm rfl B3 (vL 0 BG rfl (ob gm λgp gq gr=>BL Tryz.call129 (hs v (i+1) ((Ax v i).fN) gp gq) rfl (wa rfl (Am (Aq (Ac ?_))))))))));obtain rfl:=Ao gr;exact Ap (Bs O7 (A5 rfl)) (sS sN) ⟨rfl,rfl⟩
       ·refine At (AD (Af (wv (r:=Al (-1)) (AG rfl) (Am (Aq ?_)))));obtain rfl:=Ao gj;exact Ap (Bs O7 (A5 rfl)) (sS sN) ⟨rfl,rfl⟩
theorem NT (F:Nat)(ha:(List Aa)→Int→Option (Int))(hl:(∀(v:(List Aa)) (i:Int) (r:Int),ha v i=some r→Fn Tryz.prog GE 94 [AJ 4 (A2 Ab v),Al i] [] (λR H=>R=Al r∧H=[])))(v:(List Aa))(i:Int)(n:Int)(r:Int)(h:HT F ha v i n=some r):Fn Tryz.prog GE 128 [AJ 4 (A2 Ab v),Al i,Al n] [] (λR H=>R=Al r∧H=[]):=by
 refine enter (n:=19) Tryz.func128 rfl Tryz.ntmps128 rfl (λw Z=>?_);unfold HT at h;refine Af (wa rfl (Am (An (Af (wa rfl (Am (A6 (ob h λhm hn hi=>Bd (S:=Nat×(Int×Int)×(Unit)) (V:=(Int)×(Unit)) 0 (λσ=>Cf (λσ=>CL v n ha σ.1 σ.2) σ.1 σ.2.1=some hm) (λσ=>[(0,AJ 4 (A2 Ab v)),(1,Al σ.2.1.1),(2,Al n),(6,Al 0),(7,Al σ.2.1.2)]) (λσ=>[]) (λσ=>σ.1) (F,(i,0),()) hn (Az.c5 rfl rfl rfl rfl rfl Az.nil) sN (λσ=>DG σ.1=some r) (λσ=>[(1,Al σ.1),(6,Al 0)]) (λσ=>[]) ?_ ?_))))))))
 ·rintro⟨h3,⟨hb,hg⟩,⟨⟩⟩ ho;refine B7 (l':=[(0,AJ 4 (A2 Ab v)),(1,Al hb),(2,Al n),(6,Al 0),(7,Al hg)]) (H':=[]) rfl rfl ?_;obtain⟨hp,rfl,hq,he,hh⟩:=Ca ho;replace he:CL v n ha hb hg=some hq:=he;unfold CL at he;refine An (Af (wm rfl (wm rfl (wv (Cl rfl rfl) (Am (cz he rfl (λc46 hr=>?_) (λc46 hs=>?_)))))))
  ·refine At (AD (An (A6 (Af (wm rfl (wm rfl (ob hr λhj ht hu=>BL LO (hl v hb hj ht) rfl (wa rfl (Bb (wm rfl (wv (Cl rfl rfl) (Am (cz hu rfl (λc51 hw=>?_) (λc51 hx=>?_))))))))))))))
   ·refine Af (wv (r:=Al (-1)) (AG rfl) (Am (Aq (Au (Ac (Ac (AP ?_)))))));have hy:=Bg hw hh hi;refine Au (Ac ?_);obtain rfl:=Ao hy;exact Ap (Bs Tryz.results128 (A5 rfl)) sN ⟨rfl,rfl⟩
   ·refine At (A4 (AD (Aj (wm rfl (ck hx λhz h0=>wv (Be rfl rfl hz) (wa rfl (Ai ?_)))))));have h1:=AW h0 hh;exact As (Ar (hp,(hj,hg+1),()) ⟨h1,X0 _⟩ (Az.c5 rfl rfl rfl rfl rfl Az.nil) sN)
  ·refine Bl (Ay ?_);have h2:=BB hs hh hi;exact Ay (AS (Ar (hb,()) h2 (Az.c rfl (Az.c rfl Az.nil)) sN))
 ·rintro⟨hk,⟨⟩⟩ hf;refine Ce (l':=[(1,Al hk),(6,Al 0)]) (H':=[]) rfl rfl ?_;replace hf:DG hk=some r:=hf;unfold DG at hf;refine AV (AD (Af (wm rfl (wa rfl (Am (Aq ?_))))));obtain rfl:=Ao hf;exact Ap (Bs Tryz.results128 (A5 rfl)) sN ⟨rfl,rfl⟩
theorem RD (F:Nat)(hh:(List Aa)→Int→Option (Int))(hq:(∀(v:(List Aa)) (i:Int) (r:Int),hh v i=some r→Fn Tryz.prog GE 94 [AJ 4 (A2 Ab v),Al i] [] (λR H=>R=Al r∧H=[])))(v:(List Aa))(i:Int)(n:Int)(r:Int)(h:L8 F hh v i n=some r):Fn Tryz.prog GE 129 [AJ 4 (A2 Ab v),Al i,Al n] [] (λR H=>R=Al r∧H=[]):=by
 refine enter (n:=51) Tryz.func129 rfl Tryz.ntmps129 rfl (λw Z=>?_);unfold L8 at h;refine Af (wa rfl (Bb (wv (r:=rS ([]:Aw)) (AG rfl) (Am (An (Af (wa rfl (Am (A6 (ob h λhr hs hm=>Bd (S:=Nat×(Int×Aw×Int)×(Unit)) (V:=(Int)×(Unit)) 0 (λσ=>Cf (λσ=>Dl F v n hh σ.1 σ.2.1 σ.2.2) σ.1 σ.2.1=some hr) (λσ=>[(0,AJ 4 (A2 Ab v)),(1,Al σ.2.1.1),(2,Al n),(7,rS σ.2.1.2.1),(8,Al σ.2.1.2.2)]) (λσ=>[]) (λσ=>σ.1) (F,(i,([]:Aw),0),()) hs (Az.c5 rfl rfl rfl rfl rfl Az.nil) sN (λσ=>Gb σ.1=some r) (λσ=>[(1,Al σ.1)]) (λσ=>[]) ?_ ?_))))))))))
 ·rintro⟨hN,⟨hf,hi,hg⟩,⟨⟩⟩ ht;refine B7 (l':=[(0,AJ 4 (A2 Ab v)),(1,Al hf),(2,Al n),(7,rS hi),(8,Al hg)]) (H':=[]) rfl rfl ?_;obtain⟨hu,rfl,hw,hj,hk⟩:=Ca ht;replace hj:Dl F v n hh hf hi hg=some hw:=hj;unfold Dl at hj;refine An (Af (wm rfl (wm rfl (wv (Cl rfl rfl) (Am (cz hj rfl (λhx hy=>?_) (λhx hz=>?_)))))))
  ·refine At (AD (An (A6 (An (ck hy λhn h0=>ck h0 λh1 h2=>AE [(0,AJ 4 (A2 Ab v)),(1,Al hf),(2,Al n),(8,Al hg),(38,rB ((decide ((v.length:Int)≤hf))||((!(ov (MV F (Ax v hf))))||((decide (0<hg))&&(Di ((Ax v hf).fStr) hi||decide (((Ax v hf).fStr)=hi))))))] [] ?_ ?_)))))
   ·refine Aj (wm rfl (wm rfl (wv (AK (ys:=v) (enc:=Ab) Bv rfl) (wv (EI rfl rfl) (wm rfl (AH (decide ((v.length:Int)≤hf)) (λha=>?_) (λha=>?_)))))))
    ·refine wf ha (wf ha (wf ha (wf ha (wf ha (wf ha (wv (r:=rB true) (Av rfl ha rfl) (wm rfl (wz rfl rfl (wz rfl rfl (wz rfl rfl (wu (wu (wu (wu (wu (wu (wu (wz rfl rfl (wv (r:=rB true) (Av (b:=true) rfl rfl rfl) (Ai ?_))))))))))))))))))));exact BD ha
    ·refine wo ha (wm rfl (wo ha (wm rfl (wo ha (wv (AU (enc:=Ab) (ys:=v) Bv BC rfl rfl (BO hn ha)) (wo ha (wv (CP Jn BC rfl rfl rfl) (wo ha (BL Tryz.call127 (Td F (Ax v hf) (ov (MV F (Ax v hf))) (Cz (BO h1 ha))) rfl (wo ha (wv (Bu rfl) (Cc rfl ha rfl (wm rfl (AH (!(ov (MV F (Ax v hf)))) (λhe=>?_) (λhe=>?_)))))))))))))))
     ·refine wf he (wf he (wf he (wu (wu (wu (wu (wu (wu (wu (wf he (wv (r:=rB true) (Av rfl he rfl) (Ai ?_))))))))))));exact BD (And.intro ha he)
     ·refine wo he (wm rfl (wo he (wv (CB rfl rfl) (wo he (wm rfl (AH (decide (0<hg)) (λhb=>?_) (λhb=>?_)))))))
      ·refine wo hb (wm rfl (wo hb (wm rfl (wo hb (wv (AU (enc:=Ab) (ys:=v) Bv BC rfl rfl (BO hn ha)) (wo hb (wv (AR Bm rfl C6 rfl rfl) (wo hb (wv (AM CG rfl rfl) (wo hb (wm rfl (wo hb (wv (QN rfl rfl) (wo he (BR rfl hb rfl (Cc rfl he rfl (Ai ?_)))))))))))))))));exact BD (And.intro ha (And.intro he hb))
      ·refine wf hb (wf hb (wf hb (wf hb (wf hb (wf hb (wf hb (wo he (wv (r:=rB false) (Ak rfl hb rfl) (Cc rfl he rfl (Ai ?_))))))))));exact BD (And.intro ha (And.intro he hb))
   refine cz h2 rfl (λh3 h4=>?_) (λh3 h5=>?_)
   ·refine Af (wv (r:=Al (-1)) (AG rfl) (Am (Aq (Ac (Au (Ac (Ac (AP ?_))))))));have h6:=Bg h4 hk hm;refine Au (Ac ?_);obtain rfl:=Ao h6;exact Ap (Bs Tryz.results129 (A5 rfl)) sN ⟨rfl,rfl⟩
   ·refine At (AD (Af (wm rfl (wm rfl (ck h5 λh7 h8=>wv (AU (enc:=Ab) (ys:=v) Bv BC rfl rfl h7) (wv (AR Bm rfl C6 rfl rfl) (wv (AM CG rfl rfl) (wa rfl (Bb (wm rfl (wm rfl (ck h8 λh9 hA=>wv (Be rfl rfl h9) (ob hA λho hB hC=>BL LO (hq v (hf+1) ho hB) rfl (wa rfl (Bb (wm rfl (wv (Cl rfl rfl) (Am (cz hC rfl (λhD hE=>?_) (λhD hG=>?_))))))))))))))))))))
    ·refine Af (wv (r:=Al (-1)) (AG rfl) (Am (Aq (Au (Ac (Ac (AP ?_)))))));have hH:=Bg hE hk hm;refine Au (Ac ?_);obtain rfl:=Ao hH;exact Ap (Bs Tryz.results129 (A5 rfl)) sN ⟨rfl,rfl⟩
    ·refine At (A4 (AD (Aj (wm rfl (ck hG λhI hJ=>wv (Be rfl rfl hI) (wa rfl (Ai ?_)))))));have hK:=AW hJ hk;exact As (Ar (hu,(ho,(Ax v hf).fStr,hg+1),()) ⟨hK,X0 _⟩ (Az.c5 rfl rfl rfl rfl rfl Az.nil) sN)
  ·refine Bl (Ay ?_);have hL:=BB hz hk hm;exact Ay (AS (Ar (hf,()) hL (Az.c rfl Az.nil) sN))
 ·rintro⟨hp,⟨⟩⟩ hl;refine Ce (l':=[(1,Al hp)]) (H':=[]) rfl rfl ?_;replace hl:Gb hp=some r:=hl;unfold Gb at hl;refine AV (AD (Af (wm rfl (wa rfl (Am (Aq ?_))))));obtain rfl:=Ao hl;exact Ap (Bs Tryz.results129 (A5 rfl)) sN ⟨rfl,rfl⟩
theorem He:∀F:Nat,(∀(v:(List Aa)) (i:Int) (r:Int),Dp F v i=some r→Fn Tryz.prog GE 94 [AJ 4 (A2 Ab v),Al i] [] (λR H=>R=Al r∧H=[]))∧(∀(v:(List Aa)) (i:Int) (n:Int) (r:Int),Gc F v i n=some r→Fn Tryz.prog GE 128 [AJ 4 (A2 Ab v),Al i,Al n] [] (λR H=>R=Al r∧H=[]))∧(∀(v:(List Aa)) (i:Int) (n:Int) (r:Int),K4 F v i n=some r→Fn Tryz.prog GE 129 [AJ 4 (A2 Ab v),Al i,Al n] [] (λR H=>R=Al r∧H=[]))
  | 0=>⟨(λ_ _ _ h=>by simp[Dp] at h),(λ_ _ _ _ h=>by simp[Gc] at h),(λ_ _ _ _ h=>by simp[K4] at h)⟩
  | nn+1=>⟨(λv i r h=>Tc nn (Gc nn) (K4 nn) (He nn).2.1 (He nn).2.2 v i r (by rw[Dp] at h;exact h)),(λv i n r h=>NT nn (Dp nn) (He nn).1 v i n r (by rw[Gc] at h;exact h)),(λv i n r h=>RD nn (Dp nn) (He nn).1 v i n r (by rw[K4] at h;exact h))⟩
theorem EV (F:Nat)(v:(List Aa))(i:Int)(r:Int)(h:Dp F v i=some r):Fn Tryz.prog GE 94 [AJ 4 (A2 Ab v),Al i] [] (λR H=>R=Al r∧H=[]):=(He F).1 v i r h
theorem RF (F:Nat)(v:(List Aa))(r:Bool)(h:JS F v=some r):Fn Tryz.prog GE 74 [AJ 4 (A2 Ab v)] [] (λR H=>R=rB r∧H=[]):=by
 refine enter (n:=13) Tryz.func74 rfl Tryz.ntmps74 rfl (λw Z=>?_);unfold JS at h;refine Af (wa rfl (Am (ck h λg1 h2=>AE [(2,rB ((decide (0<(v.length:Int)))&&(decide ((ov (Dp F v 0))=(v.length:Int)))))] [] ?_ ?_)))
 ·refine Aj (wm rfl (wv (AK (ys:=v) (enc:=Ab) Bv rfl) (wv (CB rfl rfl) (wm rfl (AH (decide (0<(v.length:Int))) (λc3=>?_) (λc3=>?_))))))
  ·refine wo c3 (wm rfl (wo c3 (BL LO (EV F v 0 (ov (Dp F v 0)) (Cz (BE g1 c3))) rfl (wo c3 (wm rfl (wo c3 (wv (AK (ys:=v) (enc:=Ab) Bv rfl) (wo c3 (wv (AX rfl rfl) (BR rfl c3 rfl (wa rfl (Ai ?_))))))))))));exact BD c3
  ·refine wf c3 (wf c3 (wf c3 (wf c3 (wf c3 (wv (r:=rB false) (Ak rfl c3 rfl) (wa rfl (Ai ?_)))))));exact BD c3
 refine Aq ?_;obtain rfl:=Ao h2;exact Ap (Bs Tryz.results74 (A5 rfl)) sN ⟨rfl,rfl⟩
theorem Qd (F:Nat)(hg:(List Aa)→Int→Option (Int))(hk:(∀(v:(List Aa)) (i:Int) (r:Int),hg v i=some r→Fn Tryz.prog GE 75 [AJ 4 (A2 Ab v),Al i] [] (λR H=>R=Al r∧H=[])))(v:(List Aa))(i:Int)(r:Int)(h:Hg F hg v i=some r):Fn Tryz.prog GE 75 [AJ 4 (A2 Ab v),Al i] [] (λR H=>R=Al r∧H=[]):=by
 refine enter (n:=47) Tryz.func75 rfl Tryz.ntmps75 rfl (λw Z=>?_);unfold Hg at h;refine Af (wa rfl (Bb (wm rfl (wm rfl (ck h λg1 h2=>wv (AU (enc:=Ab) (ys:=v) Bv BC rfl rfl g1) (wv (CP Jn BC rfl rfl rfl) (Cm (cs:=[Al 0,Al 0,rS ([]:Aw),Al 0]) GV rfl rfl (λb3=>?_))))))));refine Bh (i:=0) BC rfl rfl rfl (BU.c rfl) rfl rfl (cs':=[Al ((Ax v i).fKind),Al ((Ax v i).fInt),rS ((Ax v i).fStr),Al ((Ax v i).fN)]) rfl (H':=[.blk b3 (Ab (Ax v i)) 54]) rfl (Am (An (AE [(0,AJ 4 (A2 Ab v)),(1,Al i),(5,rP b3 0),(21,rB ((!decide (((Ax v i).fKind)=5))&&(!decide (((Ax v i).fKind)=6))))] [.blk b3 (Ab (Ax v i)) 54] ?_ ?_)))
 ·refine Aj (vF Bm rfl CF (vL 0 CR rfl (wv (Bo rfl rfl) (wm rfl (AH (!decide (((Ax v i).fKind)=5)) (λc4=>?_) (λc4=>?_))))))
  ·refine wo c4 (vF Bm rfl CF (wo c4 (vL 0 CR rfl (wo c4 (wv (Bo rfl rfl) (BR rfl c4 rfl (Ai ?_)))))));exact BD c4
  ·refine wf c4 (wf c4 (wf c4 (wv (r:=rB false) (Ak rfl c4 rfl) (Ai ?_))));exact BD c4
 refine cz h2 rfl (λc5 h6=>?_) (λc5 h7=>?_)
 ·refine Af (wa rfl (Am (Aq (Ac ?_))));obtain rfl:=Ao h6;exact Ap (Bs Tryz.results75 (A5 rfl)) (sS sN) ⟨rfl,rfl⟩
 ·refine At (AD (Af (wa rfl (Bb (wm rfl (ck h7 λg8 h9=>wv (Be rfl rfl g8) (wa rfl (Am (An (Af (wa rfl (Am (A6 (ob h9 λhs ht hu=>Bd (S:=Nat×(Int×Int×Int)×(Unit)) (V:=(Int)×(Unit)) 0 (λσ=>Cf (λσ=>CH F v i hg σ.1 σ.2.1 σ.2.2) σ.1 σ.2.1=some hs) (λσ=>[(0,AJ 4 (A2 Ab v)),(5,rP b3 0),(6,Al σ.2.1.1),(7,Al σ.2.1.2.1),(8,Al σ.2.1.2.2)]) (λσ=>[.blk b3 (Ab (Ax v i)) 54]) (λσ=>σ.1) (F,(0,i+1,0),()) ht (Az.c5 rfl rfl rfl rfl rfl Az.nil) (sC sN) (λσ=>D9 σ.1=some r) (λσ=>[(6,Al σ.1)]) (λσ=>[]) ?_ ?_))))))))))))))
  ·rintro⟨gj,⟨he,ha,hb⟩,⟨⟩⟩ hw;refine B7 (l':=[(0,AJ 4 (A2 Ab v)),(5,rP b3 0),(6,Al he),(7,Al ha),(8,Al hb)]) (H':=[.blk b3 (Ab (Ax v i)) 54]) rfl rfl ?_;obtain⟨hh,rfl,hx,hi,hf⟩:=Ca hw;replace hi:CH F v i hg he ha hb=some hx:=hi;unfold CH at hi;refine An (Af (wm rfl (vF Bm rfl B3 (vL 0 BG rfl (wv (Cl rfl rfl) (Am (cz hi rfl (λhy hz=>?_) (λhy h0=>?_))))))))
   ·refine At (AD (An (A6 (An (Af (vF Bm rfl CF (vL 0 CR rfl (wv (AX rfl rfl) (Am (cz hz rfl (λh1 h3=>?_) (λh1 h4=>?_)))))))))))
    ·refine Aj (wm rfl (ck h3 λh5 h8=>wv (Be rfl rfl h5) (wa rfl (Bb (wm rfl (wm rfl (ob h8 λhl hA hB=>BL Tryz.call75 (hk v (ha+1) hl hA) rfl (wa rfl (Am (An (Af (wm rfl (wm rfl (wv (CB rfl rfl) (Am (cz hB rfl (λhC hD=>?_) (λhC hE=>?_)))))))))))))))))
     ·refine Aj (wm rfl (wa rfl (Am (Aj (wm rfl (wm rfl (ob hD λhm hG hH=>BL LO (EV F v (ha+1) hm hG) rfl (wa rfl (Ai (A4 (AD (Aj (wm rfl (ck hH λhI hJ=>wv (Be rfl rfl hI) (wa rfl (Ai ?_))))))))))))))));have hK:=AW hJ hf;exact As (Ar (hh,(hl,hm,hb+1),()) ⟨hK,X0 _⟩ (Az.c5 rfl rfl rfl rfl rfl Az.nil) (sC sN))
     ·refine At (AD (Aj (wm rfl (wm rfl (ob hE λhn hL hN=>BL LO (EV F v (ha+1) hn hL) rfl (wa rfl (Ai (A4 (AD (Aj (wm rfl (ck hN λhO hP=>wv (Be rfl rfl hO) (wa rfl (Ai ?_))))))))))))));have hQ:=AW hP hf;exact As (Ar (hh,(he,hn,hb+1),()) ⟨hQ,X0 _⟩ (Az.c5 rfl rfl rfl rfl rfl Az.nil) (sC sN))
    ·refine At (AD (Af (wm rfl (wm rfl (ob h4 λho hR hS=>BL Tryz.call75 (hk v ha ho hR) rfl (wa rfl (Am (An (Af (wm rfl (wm rfl (wv (CB rfl rfl) (Am (cz hS rfl (λhT hU=>?_) (λhT hV=>?_)))))))))))))))
     ·refine Aj (wm rfl (wa rfl (Am (Aj (wm rfl (wm rfl (ob hU λhp hW hX=>BL LO (EV F v ha hp hW) rfl (wa rfl (Ai (A4 (AD (Aj (wm rfl (ck hX λhY hZ=>wv (Be rfl rfl hY) (wa rfl (Ai ?_))))))))))))))));have ga:=AW hZ hf;exact As (Ar (hh,(ho,hp,hb+1),()) ⟨ga,X0 _⟩ (Az.c5 rfl rfl rfl rfl rfl Az.nil) (sC sN))
     ·refine At (AD (Aj (wm rfl (wm rfl (ob hV λhq gb gc=>BL LO (EV F v ha hq gb) rfl (wa rfl (Ai (A4 (AD (Aj (wm rfl (ck gc λgd ge=>wv (Be rfl rfl gd) (wa rfl (Ai ?_))))))))))))));have gf:=AW ge hf;exact As (Ar (hh,(he,hq,hb+1),()) ⟨gf,X0 _⟩ (Az.c5 rfl rfl rfl rfl rfl Az.nil) (sC sN))
   ·refine Bl (Ay ?_);have gg:=BB h0 hf hu;exact Ay (AS (Ar (he,()) gg (Az.c rfl Az.nil) (sS sN)))
  ·rintro⟨hr,⟨⟩⟩ hj;refine Ce (l':=[(6,Al hr)]) (H':=[]) rfl rfl ?_;replace hj:D9 hr=some r:=hj;unfold D9 at hj;refine AV (AD (Af (wm rfl (ck hj λgh gi=>wv (Be rfl rfl gh) (wa rfl (Am (Aq ?_)))))));obtain rfl:=Ao gi;exact Ap (Bs Tryz.results75 (A5 rfl)) sN ⟨rfl,rfl⟩
theorem Lh:∀F:Nat,(∀(v:(List Aa)) (i:Int) (r:Int),CY F v i=some r→Fn Tryz.prog GE 75 [AJ 4 (A2 Ab v),Al i] [] (λR H=>R=Al r∧H=[]))
  | 0=>(λ_ _ _ h=>by simp[CY] at h)
  | nn+1=>(λv i r h=>Qd nn (CY nn) (Lh nn) v i r (by rw[CY] at h;exact h))
theorem RE (F:Nat)(v:(List Aa))(i:Int)(r:Int)(h:CY F v i=some r):Fn Tryz.prog GE 75 [AJ 4 (A2 Ab v),Al i] [] (λR H=>R=Al r∧H=[]):=(Lh F) v i r h
theorem K3 (F:Nat)(s:Aw)(r:Aw)(h:HS F s=some r):Fn Tryz.prog GE 106 [rS s] [] (λR H=>R=rS r∧H=[]):=by
 refine enter (n:=32) Tryz.func106 rfl Tryz.ntmps106 rfl (λw Z=>?_);unfold HS at h;refine Af (wv (r:=rS ([]:Aw)) (AG rfl) (Bb (wv (r:=rS ([34]:Aw)) (AG rfl) (Am (An (Af (wa rfl (Am (A6 (ob h λhn ho hp=>Bd (S:=Nat×(Aw×Int)×(Unit)) (V:=(Aw)×(Unit)) 0 (λσ=>Cf (λσ=>CT s σ.1 σ.2) σ.1 σ.2.1=some hn) (λσ=>[(0,rS s),(3,rS σ.2.1.1),(4,Al σ.2.1.2)]) (λσ=>[]) (λσ=>σ.1) (F,(([34]:Aw),0),()) ho (Az.c rfl (Az.c rfl (Az.c rfl Az.nil))) sN (λσ=>Du σ.1=some r) (λσ=>[(3,rS σ.1)]) (λσ=>[]) ?_ ?_))))))))))
 ·rintro⟨hN,⟨he,ha⟩,⟨⟩⟩ hq;refine B7 (l':=[(0,rS s),(3,rS he),(4,Al ha)]) (H':=[]) rfl rfl ?_;obtain⟨hi,rfl,hr,hf,hh⟩:=Ca hq;replace hf:CT s he ha=some hr:=hf;unfold CT at hf;refine An (Af (wm rfl (wm rfl (wv (BP D4 rfl) (wv (Cl rfl rfl) (Am (cz hf rfl (λhs ht=>?_) (λhs hu=>?_))))))))
  ·refine At (AD (An (A6 (An (ck ht λhj hw=>AE [(0,rS s),(3,rS he),(4,Al ha),(20,rB ((decide ((Cn s ha)=34))||(decide ((Cn s ha)=92))))] [] ?_ ?_)))))
   ·refine Aj (wm rfl (wm rfl (wv (BH D4 rfl rfl hj) (wv (AX rfl rfl) (wm rfl (AH (decide ((Cn s ha)=34)) (λhb=>?_) (λhb=>?_)))))))
    ·refine wf hb (wf hb (wf hb (wf hb (wv (r:=rB true) (Av rfl hb rfl) (Ai ?_)))));exact BD hb
    ·refine wo hb (wm rfl (wo hb (wm rfl (wo hb (wv (BH D4 rfl rfl hj) (wo hb (wv (AX rfl rfl) (Cc rfl hb rfl (Ai ?_)))))))));exact BD hb
   refine cz hw rfl (λhx hy=>?_) (λhx hz=>?_)
   ·refine Aj (wm rfl (ck hy λh0 h1=>wv (Dz rfl rfl h0) (wa rfl (Am (Aj (wm rfl (wm rfl (wm rfl (wm rfl (ck h1 λhk h2=>wv (Be rfl rfl hk) (ck h2 λh3 h4=>ck h4 λh5 h6=>wv (HW D4 rfl rfl rfl h3 h5) (ck h6 λh7 h8=>wv (Dz rfl rfl h7) (wa rfl (Ai (A4 (AD (Aj (wm rfl ?_))))))))))))))))));refine wv (Be rfl rfl hk) (wa rfl (Ai ?_));have h9:=AW h8 hh;exact As (Ar (hi,((he++([92]:Aw))++(List.take (B0 (ha+1)-B0 ha) (List.drop (B0 ha) s)),ha+1),()) ⟨h9,X0 _⟩ (Az.c rfl (Az.c rfl (Az.c rfl Az.nil))) sN)
   ·refine At (AD (Aj (wm rfl (wm rfl (wm rfl (wm rfl (ck hz λhl hA=>wv (Be rfl rfl hl) (ck hA λhB hC=>ck hC λhD hE=>wv (HW D4 rfl rfl rfl hB hD) (ck hE λhG hH=>wv (Dz rfl rfl hG) (wa rfl (Ai (A4 (AD (Aj (wm rfl (wv (Be rfl rfl hl) (wa rfl (Ai ?_))))))))))))))))));have hI:=AW hH hh;exact As (Ar (hi,(he++(List.take (B0 (ha+1)-B0 ha) (List.drop (B0 ha) s)),ha+1),()) ⟨hI,X0 _⟩ (Az.c rfl (Az.c rfl (Az.c rfl Az.nil))) sN)
  ·refine Bl (Ay ?_);have hJ:=BB hu hh hp;exact Ay (AS (Ar (he,()) hJ (Az.c rfl Az.nil) sN))
 ·rintro⟨hm,⟨⟩⟩ hg;refine Ce (l':=[(3,rS hm)]) (H':=[]) rfl rfl ?_;replace hg:Du hm=some r:=hg;unfold Du at hg;refine AV (AD (Af (wm rfl (ck hg λhK hL=>wv (Dz rfl rfl hK) (wa rfl (Am (Aq ?_)))))));obtain rfl:=Ao hL;exact Ap (Bs Tryz.results106 (A5 rfl)) sN ⟨rfl,rfl⟩
theorem SZ (F:Nat)(hg:(List Aa)→Int→Option (Aw))(hh:(∀(v:(List Aa)) (i:Int) (r:Aw),hg v i=some r→Fn Tryz.prog GE 76 [AJ 4 (A2 Ab v),Al i] [] (λR H=>R=rS r∧H=[])))(v:(List Aa))(i:Int)(r:Aw)(h:Ky F hg v i=some r):Fn Tryz.prog GE 76 [AJ 4 (A2 Ab v),Al i] [] (λR H=>R=rS r∧H=[]):=by
 refine enter (n:=77) Tryz.func76 rfl Tryz.ntmps76 rfl (λw Z=>?_);unfold Ky at h;refine Af (wv (r:=rS ([]:Aw)) (AG rfl) (Bb (wm rfl (wm rfl (ck h λg1 h2=>wv (AU (enc:=Ab) (ys:=v) Bv BC rfl rfl g1) (wv (CP Jn BC rfl rfl rfl) (Cm (cs:=[Al 0,Al 0,rS ([]:Aw),Al 0]) GV rfl rfl (λb3=>?_))))))));refine Bh (i:=0) BC rfl rfl rfl (BU.c rfl) rfl rfl (cs':=[Al ((Ax v i).fKind),Al ((Ax v i).fInt),rS ((Ax v i).fStr),Al ((Ax v i).fN)]) rfl (H':=[.blk b3 (Ab (Ax v i)) 54]) rfl (Am (An (Af (vF Bm rfl CF (vL 0 CR rfl (wv (AX rfl rfl) (Am (cz h2 rfl (λc4 h5=>?_) (λc4 h6=>?_)))))))))
 ·refine Af (wv (r:=rS ([110,117,108,108]:Aw)) (AG rfl) (Am (Aq (Ac ?_))));obtain rfl:=Ao h5;exact Ap (Bs PK (A5 rfl)) (sS sN) ⟨rfl,rfl⟩
 ·refine At (AD (An (Af (vF Bm rfl CF (vL 0 CR rfl (wv (AX rfl rfl) (Am (cz h6 rfl (λc7 h8=>?_) (λc7 hx=>?_)))))))))
  ·refine An (Af (vF Bm rfl B3 (vL 0 BG rfl (wv (AX rfl rfl) (Am (cz h8 rfl (λc9 hy=>?_) (λc9 hz=>?_)))))))
   ·refine Af (wv (r:=rS ([116,114,117,101]:Aw)) (AG rfl) (Am (Aq (Ac (Ac ?_)))));obtain rfl:=Ao hy;exact Ap (Bs PK (A5 rfl)) (sS sN) ⟨rfl,rfl⟩
   ·refine At (AD (Af (wv (r:=rS ([102,97,108,115,101]:Aw)) (AG rfl) (Am (Aq (Ac ?_))))));obtain rfl:=Ao hz;exact Ap (Bs PK (A5 rfl)) (sS sN) ⟨rfl,rfl⟩
  ·refine At (AD (An (Af (vF Bm rfl CF (vL 0 CR rfl (wv (AX rfl rfl) (Am (cz hx rfl (λh0 h1=>?_) (λh0 h3=>?_)))))))))
   ·refine Af (vF Bm rfl B3 (vL 0 BG rfl (ck h1 λg15 h4=>J4 (rs:=[Al ((Ax v i).fInt)]) (r:=rS (Lib.itoa ((Ax v i).fInt))) Tryz.call105 rfl (VG ((Ax v i).fInt) g15) rfl rfl (wa rfl (Am (Aq (Ac ?_)))))));obtain rfl:=Ao h4;exact Ap (Bs PK (A5 rfl)) (sS sN) ⟨rfl,rfl⟩
   ·refine At (AD (An (Af (vF Bm rfl CF (vL 0 CR rfl (wv (AX rfl rfl) (Am (cz h3 rfl (λh7 h9=>?_) (λh7 hA=>?_)))))))))
    ·refine Af (vF Bm rfl C6 (vL 0 CG rfl (ob h9 λhB hC hD=>BL Tryz.call106 (K3 F ((Ax v i).fStr) hB hC) rfl (wa rfl (Am (Aq (Ac ?_)))))));obtain rfl:=Ao hD;exact Ap (Bs PK (A5 rfl)) (sS sN) ⟨rfl,rfl⟩
    ·refine At (AD (Af (wv (r:=rS ([]:Aw)) (AG rfl) (Bb (wm rfl (ck hA λhE hG=>wv (Be rfl rfl hE) (wa rfl (Am (An (Af (wa rfl (Am (A6 (ob hG λhH hI hJ=>Bd (S:=Nat×(Aw×Int×Int)×(Unit)) (V:=(Aw)×(Unit)) 0 (λσ=>Cf (λσ=>D8 F v i hg σ.1 σ.2.1 σ.2.2) σ.1 σ.2.1=some hH) (λσ=>[(0,AJ 4 (A2 Ab v)),(4,rS ([]:Aw)),(5,rP b3 0),(6,rS σ.2.1.1),(7,Al σ.2.1.2.1),(8,Al σ.2.1.2.2)]) (λσ=>[.blk b3 (Ab (Ax v i)) 54]) (λσ=>σ.1) (F,(([]:Aw),i+1,0),()) hI (Az.c rfl (Az.c5 rfl rfl rfl rfl rfl Az.nil)) (sC sN) (λσ=>Gq v i σ.1=some r) (λσ=>[(4,rS ([]:Aw)),(5,rP b3 0),(6,rS σ.1)]) (λσ=>[.blk b3 (Ab (Ax v i)) 54]) ?_ ?_))))))))))))))
     ·rintro⟨cl,⟨hb,ha,he⟩,⟨⟩⟩ hK;refine B7 (l':=[(0,AJ 4 (A2 Ab v)),(4,rS ([]:Aw)),(5,rP b3 0),(6,rS hb),(7,Al ha),(8,Al he)]) (H':=[.blk b3 (Ab (Ax v i)) 54]) rfl rfl ?_;obtain⟨hi,rfl,hL,hj,hf⟩:=Ca hK;replace hj:D8 F v i hg hb ha he=some hL:=hj;unfold D8 at hj;refine An (Af (wm rfl (vF Bm rfl B3 (vL 0 BG rfl (wv (Cl rfl rfl) (Am (cz hj rfl (λhN hO=>?_) (λhN hP=>?_))))))))
      ·refine At (AD (An (A6 (An (Af (wm rfl (wv (CB rfl rfl) (Am (cz hO rfl (λhQ hR=>?_) (λhQ hS=>?_))))))))))
       ·refine Aj (wm rfl (ck hR λhT hU=>wv (Dz rfl rfl hT) (wa rfl (Am (An (Af (vF Bm rfl CF (vL 0 CR rfl (wv (AX rfl rfl) (Am (cz hU rfl (λc233 hV=>?_) (λc233 hW=>?_))))))))))))
        ·refine Af (wm rfl (wm rfl (wm rfl (ck hV λhX hY=>wv (AU (enc:=Ab) (ys:=v) Bv BC rfl rfl hX) (wv (AR Bm rfl C6 rfl rfl) (wv (AM CG rfl rfl) (ob hY λhl hZ ga=>BL Tryz.call106 (K3 F ((Ax v ha).fStr) hl hZ) rfl (ck ga λgb gc=>wv (Dz rfl rfl gb) (ck gc λgd ge=>wv (Dz rfl rfl gd) (wa rfl (Am (Aj (wm rfl (ck ge λgf gg=>wv (Be rfl rfl gf) (wa rfl (Bb (wm rfl (wm rfl ?_))))))))))))))))));refine wm rfl (ob gg λhm gh gi=>BL SD (hh v (ha+1) hm gh) rfl (ck gi λgj gl=>wv (Dz rfl rfl gj) (wa rfl (Am (Aj (wm rfl (wm rfl (ob gl λhn gm gp=>BL LO (EV F v (ha+1) hn gm) rfl (wa rfl (Ai (A4 (AD (Aj (wm rfl (ck gp λgq gr=>wv (Be rfl rfl gq) (wa rfl (Ai ?_)))))))))))))))));have gs:=AW gr hf;exact As (Ar (hi,((((hb++([44]:Aw))++hl)++([58]:Aw))++hm,hn,he+1),()) ⟨gs,X0 _⟩ (Az.c rfl (Az.c5 rfl rfl rfl rfl rfl Az.nil)) (sC sN))
        ·refine At (AD (Af (wm rfl (wm rfl (wm rfl (ob hW λho gt gu=>BL SD (hh v ha ho gt) rfl (ck gu λgv gw=>wv (Dz rfl rfl gv) (wa rfl (Am (Aj (wm rfl (wm rfl (ob gw λhp gx gy=>BL LO (EV F v ha hp gx) rfl (wa rfl (Ai (A4 (AD (Aj (wm rfl (ck gy λgz g0=>?_))))))))))))))))))));refine wv (Be rfl rfl gz) (wa rfl (Ai ?_));have g2:=AW g0 hf;exact As (Ar (hi,((hb++([44]:Aw))++ho,hp,he+1),()) ⟨g2,X0 _⟩ (Az.c rfl (Az.c5 rfl rfl rfl rfl rfl Az.nil)) (sC sN))
       ·refine At (AD (An (Af (vF Bm rfl CF (vL 0 CR rfl (wv (AX rfl rfl) (Am (cz hS rfl (λg3 g4=>?_) (λg3 g5=>?_)))))))))
        ·refine Af (wm rfl (wm rfl (wm rfl (ck g4 λg6 g7=>wv (AU (enc:=Ab) (ys:=v) Bv BC rfl rfl g6) (wv (AR Bm rfl C6 rfl rfl) (wv (AM CG rfl rfl) (ob g7 λhq g8 g9=>BL Tryz.call106 (K3 F ((Ax v ha).fStr) hq g8) rfl (ck g9 λgA gB=>wv (Dz rfl rfl gA) (ck gB λgC gD=>wv (Dz rfl rfl gC) (wa rfl (Am (Aj (wm rfl (ck gD λgE gF=>wv (Be rfl rfl gE) (wa rfl (Bb (wm rfl (wm rfl ?_))))))))))))))))));refine wm rfl (ob gF λhr gG gH=>BL SD (hh v (ha+1) hr gG) rfl (ck gH λgI gJ=>wv (Dz rfl rfl gI) (wa rfl (Am (Aj (wm rfl (wm rfl (ob gJ λhs gK gL=>BL LO (EV F v (ha+1) hs gK) rfl (wa rfl (Ai (A4 (AD (Aj (wm rfl (ck gL λgM gN=>wv (Be rfl rfl gM) (wa rfl (Ai ?_)))))))))))))))));have gO:=AW gN hf;exact As (Ar (hi,(((hb++hq)++([58]:Aw))++hr,hs,he+1),()) ⟨gO,X0 _⟩ (Az.c rfl (Az.c5 rfl rfl rfl rfl rfl Az.nil)) (sC sN))
        ·refine At (AD (Af (wm rfl (wm rfl (wm rfl (ob g5 λht gP gQ=>BL SD (hh v ha ht gP) rfl (ck gQ λgR gS=>wv (Dz rfl rfl gR) (wa rfl (Am (Aj (wm rfl (wm rfl (ob gS λhu gT gU=>BL LO (EV F v ha hu gT) rfl (wa rfl (Ai (A4 (AD (Aj (wm rfl (ck gU λgV gW=>?_))))))))))))))))))));refine wv (Be rfl rfl gV) (wa rfl (Ai ?_));have gX:=AW gW hf;exact As (Ar (hi,(hb++ht,hu,he+1),()) ⟨gX,X0 _⟩ (Az.c rfl (Az.c5 rfl rfl rfl rfl rfl Az.nil)) (sC sN))
      ·refine Bl (Ay ?_);have gY:=BB hP hf hJ;exact Ay (AS (Ar (hb,()) gY (Az.c rfl (Az.c rfl (Az.c rfl Az.nil))) (sC sN)))
     ·rintro⟨hw,⟨⟩⟩ hk;refine Ce (l':=[(4,rS ([]:Aw)),(5,rP b3 0),(6,rS hw)]) (H':=[.blk b3 (Ab (Ax v i)) 54]) rfl rfl ?_;replace hk:Gq v i hw=some r:=hk;unfold Gq at hk;refine AV (AD (An (Af (vF Bm rfl CF (vL 0 CR rfl (wv (AX rfl rfl) (Am (cz hk rfl (λgZ ca=>?_) (λgZ cb=>?_)))))))))
      ·refine Af (wm rfl (ck ca λcc cd=>wv (Dz rfl rfl cc) (ck cd λce cf=>wv (Dz rfl rfl ce) (wa rfl (Am (Aq (Ac ?_)))))));obtain rfl:=Ao cf;exact Ap (Bs PK (A5 rfl)) (sS sN) ⟨rfl,rfl⟩
      ·refine At (AD (Af (wm rfl (ck cb λcg ch=>wv (Dz rfl rfl cg) (ck ch λci cj=>wv (Dz rfl rfl ci) (wa rfl (Am (Aq ?_))))))));obtain rfl:=Ao cj;exact Ap (Bs PK (A5 rfl)) (sS sN) ⟨rfl,rfl⟩
theorem No:∀F:Nat,(∀(v:(List Aa)) (i:Int) (r:Aw),ES F v i=some r→Fn Tryz.prog GE 76 [AJ 4 (A2 Ab v),Al i] [] (λR H=>R=rS r∧H=[]))
  | 0=>(λ_ _ _ h=>by simp[ES] at h)
  | nn+1=>(λv i r h=>SZ nn (ES nn) (No nn) v i r (by rw[ES] at h;exact h))
theorem Ur (F:Nat)(v:(List Aa))(i:Int)(r:Aw)(h:ES F v i=some r):Fn Tryz.prog GE 76 [AJ 4 (A2 Ab v),Al i] [] (λR H=>R=rS r∧H=[]):=(No F) v i r h
theorem OV (F:Nat)(v:(List Aa))(r:Int)(h:K5 F v=some r):Fn Tryz.prog GE 34 [AJ 4 (A2 Ab v)] [] (λR H=>R=Al r∧H=[]):=by
 refine enter (n:=61) Tryz.func34 rfl Tryz.ntmps34 rfl (λw Z=>?_);unfold K5 at h;refine Af (wa rfl (Am (An (Af (wm rfl (ob h λr1 e3 h2=>BL Tryz.call74 (RF F v r1 e3) rfl (wv (Bu rfl) (Am (cz h2 rfl (λc4 h5=>?_) (λc4 h6=>?_))))))))))
 ·refine Af (wa rfl (Am (Aq (Ac ?_))));obtain rfl:=Ao h5;exact Ap (Bs Rt (A5 rfl)) sN ⟨rfl,rfl⟩
 ·refine At (AD (An (Af (wa rfl (Am (A6 (ob h6 λhq hr ho=>Bd (S:=Nat×(Int)×(Unit)) (V:=(Unit)×(Unit)) 0 (λσ=>Cf (λσ=>DI v σ) σ.1 σ.2.1=some hq) (λσ=>[(0,AJ 4 (A2 Ab v)),(3,Al σ.2.1)]) (λσ=>[]) (λσ=>σ.1) (F,0,()) hr (Az.c rfl (Az.c rfl Az.nil)) sN (λσ=>Hi F v =some r) (λσ=>[(0,AJ 4 (A2 Ab v))]) (λσ=>[]) ?_ ?_)))))))
  ·rintro⟨gf,hf,⟨⟩⟩ hs;refine B7 (l':=[(0,AJ 4 (A2 Ab v)),(3,Al hf)]) (H':=[]) rfl rfl ?_;obtain⟨ht,rfl,t46,hg,hk⟩:=Ca hs;replace hg:DI v hf=some t46:=hg;unfold DI at hg;refine An (Af (wm rfl (wm rfl (wv (AK (ys:=v) (enc:=Ab) Bv rfl) (wv (Cl rfl rfl) (Am (cz hg rfl (λhu hw=>?_) (λhu hx=>?_))))))))
   ·refine At (AD (An (A6 (ck hw λhl hy=>AE [(0,AJ 4 (A2 Ab v)),(3,Al hf),(35,rB ((decide (((Ax v hf).fKind)=3))&&((decide (((Ax v hf).fInt)<(-1000000000000)))||(decide (1000000000000<((Ax v hf).fInt))))))] [] ?_ ?_))))
    ·refine Aj (wm rfl (wm rfl (wv (AU (enc:=Ab) (ys:=v) Bv BC rfl rfl hl) (wv (AR Bm rfl CF rfl rfl) (wv (AM CR rfl rfl) (wv (AX rfl rfl) (wm rfl (AH (decide (((Ax v hf).fKind)=3)) (λha=>?_) (λha=>?_)))))))))
     ·refine wo ha (wm rfl (wo ha (wm rfl (wo ha (wv (AU (enc:=Ab) (ys:=v) Bv BC rfl rfl hl) (wo ha (wv (AR Bm rfl B3 rfl rfl) (wo ha (wv (AM BG rfl rfl) (wo ha (wv (Cl rfl rfl) (wo ha (wm rfl (AH (decide (((Ax v hf).fInt)<(-1000000000000))) (λhb=>?_) (λhb=>?_)))))))))))))))
      ·refine wf hb (wf hb (wf hb (wf hb (wf hb (wf hb (wo ha (wv (r:=rB true) (Av rfl hb rfl) (BR rfl ha rfl (Ai ?_)))))))));exact BD (And.intro ha hb)
      ·refine wo hb (wm rfl (wo hb (wm rfl (wo hb (wv (AU (enc:=Ab) (ys:=v) Bv BC rfl rfl hl) (wo hb (wv (AR Bm rfl B3 rfl rfl) (wo hb (wv (AM BG rfl rfl) (wo hb (wv (CB rfl rfl) (wo ha (Cc rfl hb rfl (BR rfl ha rfl (Ai ?_)))))))))))))));exact BD (And.intro ha hb)
     ·refine wf ha (wf ha (wf ha (wf ha (wf ha (wf ha (wf ha (wu (wu (wu (wu (wu (wu (wf ha (wv (r:=rB false) (Ak rfl ha rfl) (Ai ?_)))))))))))))));exact BD ha
    refine cz hy rfl (λhz h0=>?_) (λhz h1=>?_)
    ·refine Af (wa rfl (Am (Aq (Au (Ac (Ac (AP ?_)))))));have h3:=Bg h0 hk ho;refine Au (Ac ?_);obtain rfl:=Ao h3;exact Ap (Bs Rt (A5 rfl)) sN ⟨rfl,rfl⟩
    ·refine At (A4 (AD (Aj (wm rfl (ck h1 λh4 h7=>wv (Be rfl rfl h4) (wa rfl (Ai ?_)))))));have h8:=AW h7 hk;exact As (Ar (ht,hf+1,()) ⟨h8,X0 _⟩ (Az.c rfl (Az.c rfl Az.nil)) sN)
   ·refine Bl (Ay ?_);have h9:=BB hx hk ho;exact Ay (AS (Ar ((),()) h9 (Az.c rfl Az.nil) sN))
  ·rintro⟨⟨⟩,⟨⟩⟩ hh;refine Ce (l':=[(0,AJ 4 (A2 Ab v))]) (H':=[]) rfl rfl ?_;replace hh:Hi F v =some r:=hh;unfold Hi at hh;refine AV (AD (An (ck hh λhA hB=>AE [(0,AJ 4 (A2 Ab v)),(43,rB ((decide (200<(v.length:Int)))||(decide (8<(ov (CY F v 0))))))] [] ?_ ?_)))
   ·refine Aj (wm rfl (wv (AK (ys:=v) (enc:=Ab) Bv rfl) (wv (CB rfl rfl) (wm rfl (AH (decide (200<(v.length:Int))) (λhe=>?_) (λhe=>?_))))))
    ·refine wf he (wf he (wf he (wv (r:=rB true) (Av rfl he rfl) (Ai ?_))));exact BD he
    ·refine wo he (wm rfl (wo he (BL Tryz.call75 (RE F v 0 (ov (CY F v 0)) (Cz (BO hA he))) rfl (wo he (wv (CB rfl rfl) (Cc rfl he rfl (Ai ?_)))))));exact BD he
   refine cz hB rfl (λhC hD=>?_) (λhC hE=>?_)
   ·refine Af (wa rfl (Am (Aq (Ac ?_))));obtain rfl:=Ao hD;exact Ap (Bs Rt (A5 rfl)) sN ⟨rfl,rfl⟩
   ·refine At (AD (An (Af (wa rfl (Am (A6 (ob hE λhG hH hp=>Bd (S:=Nat×(Int)×(Unit)) (V:=(Unit)×(Unit)) 2 (λσ=>Cf (λσ=>DH v σ) σ.1 σ.2.1=some hG) (λσ=>[(0,AJ 4 (A2 Ab v)),(4,Al σ.2.1)]) (λσ=>[]) (λσ=>σ.1) (F,0,()) hH (Az.c rfl (Az.c rfl Az.nil)) sN (λσ=>Hh F v =some r) (λσ=>[(0,AJ 4 (A2 Ab v))]) (λσ=>[]) ?_ ?_)))))))
    ·rintro⟨gg,hm,⟨⟩⟩ hI;refine B7 (l':=[(0,AJ 4 (A2 Ab v)),(4,Al hm)]) (H':=[]) rfl rfl ?_;obtain⟨hJ,rfl,hK,hi,hn⟩:=Ca hI;replace hi:DH v hm=some hK:=hi;unfold DH at hi;refine An (Af (wm rfl (wm rfl (wv (AK (ys:=v) (enc:=Ab) Bv rfl) (wv (Cl rfl rfl) (Am (cz hi rfl (λhL hN=>?_) (λhL hO=>?_))))))))
     ·refine At (AD (An (A6 (Af (wm rfl (wm rfl (ck hN λhP hQ=>wv (AU (enc:=Ab) (ys:=v) Bv BC rfl rfl hP) (wv (AR Bm rfl C6 rfl rfl) (wv (AM CG rfl rfl) (wv (BP D4 rfl) (wv (CB rfl rfl) (Am (cz hQ rfl (λhR hS=>?_) (λhR hT=>?_))))))))))))))
      ·refine Af (wa rfl (Am (Aq (Au (Ac (Ac (AP ?_)))))));have hU:=Bg hS hn hp;refine Au (Ac ?_);obtain rfl:=Ao hU;exact Ap (Bs Rt (A5 rfl)) sN ⟨rfl,rfl⟩
      ·refine At (A4 (AD (Aj (wm rfl (ck hT λhV hW=>wv (Be rfl rfl hV) (wa rfl (Ai ?_)))))));have hX:=AW hW hn;exact As (Ar (hJ,hm+1,()) ⟨hX,X0 _⟩ (Az.c rfl (Az.c rfl Az.nil)) sN)
     ·refine Bl (Ay ?_);have hY:=BB hO hn hp;exact Ay (AS (Ar ((),()) hY (Az.c rfl Az.nil) sN))
    ·rintro⟨⟨⟩,⟨⟩⟩ hj;refine Ce (l':=[(0,AJ 4 (A2 Ab v))]) (H':=[]) rfl rfl ?_;replace hj:Hh F v =some r:=hj;unfold Hh at hj;refine AV (AD (An (Af (wm rfl (ob hj λhZ ga gb=>BL SD (Ur F v 0 hZ ga) rfl (wv (BP D4 rfl) (wv (CB rfl rfl) (Am (cz gb rfl (λgc gd=>?_) (λgc ge=>?_))))))))))
     ·refine Af (wa rfl (Am (Aq (Ac ?_))));obtain rfl:=Ao gd;exact Ap (Bs Rt (A5 rfl)) sN ⟨rfl,rfl⟩
     ·refine At (AD (Af (wa rfl (Am (Aq ?_)))));obtain rfl:=Ao ge;exact Ap (Bs Rt (A5 rfl)) sN ⟨rfl,rfl⟩
end Go.Proofs.YtghdglcmblpbeaaGreatDoor.Q
namespace Go.Proofs.YtghdglcmblpbeaaGreatDoor
open Go
set_option linter.unusedVariables false
structure A9 where
 fPairs:Bool
 fLeft:Int
 fKey:Bool
 fLast:Aw
 fStarted:Bool
 deriving DecidableEq,Inhabited
structure AL where
 fDepth:Int
 fBytes:Int
 fOutside:Bool
 fLong:Bool
 deriving DecidableEq,Inhabited
def By (n:Int):Option (Bool):=
 some ((decide ((-1000000000000)≤n))&&(decide (n≤1000000000000)))
def Ha (s:Aw)(ha:Int):Option (Stp (Int) (Out (Bool) (Unit))):=
 AO (decide (ha<(s.length:Int))) (AY (C3 ha (s.length:Int))<|AO (((decide ((Cn s ha)<32))||(decide (126<(Cn s ha))))) (some (.out (.ret false))) (AY (BN .i64 (ha+1))<|some (.next (ha+1)))) (some (.out (.go ())))
def GZ :Option (Bool):=
 some true
def J8 (F:Nat)(s:Aw):Option (Bool):=
 Bf (Cf (λσ=>Ha s σ) F 0) (BS λν=>GZ )
def IN (s:Aw):Option (Int):=
 AY (BN .i64 ((s.length:Int)+2))<|AY (BN .i64 (((s.length:Int)+2)+(Lib.countByte s 34:Int)))<|AY (BN .i64 ((((s.length:Int)+2)+(Lib.countByte s 34:Int))+(Lib.countByte s 92:Int)))<|some ((((s.length:Int)+2)+(Lib.countByte s 34:Int))+(Lib.countByte s 92:Int))
def Mb (F:Nat)(c:Aa):Option (Bool):=
 AO (decide (c.fKind=1)) (some ((decide (c.fInt=0))&&((decide (c.fStr=([]:Aw)))&&(decide (c.fN=0))))) (AO (decide (c.fKind=2)) (some (bif decide (c.fInt=0) then((decide (c.fStr=([]:Aw)))&&(decide (c.fN=0))) else((decide (c.fInt=1))&&((decide (c.fStr=([]:Aw)))&&(decide (c.fN=0)))))) (AO (decide (c.fKind=3)) (some ((decide (c.fStr=([]:Aw)))&&(decide (c.fN=0)))) (AO (decide (c.fKind=4)) (AY (imp (decide (c.fInt=0)) (imp (decide (c.fN=0)) ((J8 F c.fStr).isSome)))<|some ((decide (c.fInt=0))&&((decide (c.fN=0))&&(ov (J8 F c.fStr))))) (AO (decide (c.fKind=5)) (some ((decide (c.fInt=0))&&((decide (c.fStr=([]:Aw)))&&(decide (0≤c.fN))))) (AO (decide (c.fKind=6)) (some ((decide (c.fInt=0))&&((decide (c.fStr=([]:Aw)))&&(decide (0≤c.fN))))) (some false))))))
def OF (c:Aa):Option (Int):=
 AO (decide (c.fKind=1)) (some 4) (AO (decide (c.fKind=2)) (some (IntKind.wrap .i64 (5-c.fInt))) (AO (decide (c.fKind=3)) (AY (BN .i64 c.fInt)<|some ((Lib.itoa c.fInt).length:Int)) (AO (decide (c.fKind=4)) (Bf (IN c.fStr) λha=>some ha) (some (IntKind.wrap .i64 (2+(max 0 (IntKind.wrap .i64 (c.fN-1)))))))))
def D7 (ha:(List A9)):Option (Stp ((List A9)) (Out ((List A9)) ((List A9)))):=
 AO (decide (0<(ha.length:Int))) (AY (BN .i64 ((ha.length:Int)-1))<|AY (C3 ((ha.length:Int)-1) (ha.length:Int))<|AY (BN .i64 (((Ax ha ((ha.length:Int)-1)).fLeft)-1))<|Ku (List.set ha (Int.toNat ((ha.length:Int)-1)) (A9.mk ((Ax ha ((ha.length:Int)-1)).fPairs) (((Ax ha ((ha.length:Int)-1)).fLeft)-1) ((Ax ha ((ha.length:Int)-1)).fKey) ((Ax ha ((ha.length:Int)-1)).fLast) ((Ax ha ((ha.length:Int)-1)).fStarted))) λhb=>AO (decide (0<((Ax hb ((ha.length:Int)-1)).fLeft))) (Ku (List.set hb (Int.toNat ((ha.length:Int)-1)) (A9.mk ((Ax hb ((ha.length:Int)-1)).fPairs) ((Ax hb ((ha.length:Int)-1)).fLeft) ((Ax hb ((ha.length:Int)-1)).fPairs) ((Ax hb ((ha.length:Int)-1)).fLast) ((Ax hb ((ha.length:Int)-1)).fStarted))) λhe=>some (.out (.ret he))) (AY (BN .i64 ((hb.length:Int)-1))<|AY (G0 ((hb.length:Int)-1) (hb.length:Int))<|some (.next (List.take (Int.toNat ((hb.length:Int)-1)) hb)))) (some (.out (.go ha)))
def Ef (ha:(List A9)):Option ((List A9)):=
 some ha
def JL (F:Nat)(stack:(List A9)):Option ((List A9)):=
 Bf (Cf (λσ=>D7 σ) F stack) (BS λν=>Ef ν)
def DQ (ha:Int)(hb:(List A9))(he:AL):Option (Stp ((List A9)×Int×AL) (Out (Int×AL×Bool) (AL))):=
 AY (BN .i64 (ha+1))<|some (.next (hb,ha+1,he))
def D6 (F:Nat)(v:(List Aa))(ha:(List A9))(hb:Int)(he:AL):Option (Stp ((List A9)×Int×AL) (Out (Int×AL×Bool) (AL))):=
 AO (decide (hb<(v.length:Int))) (AY (C3 hb (v.length:Int))<|Bf (Mb F (Ax v hb)) λhk=>AO (!hk) (some (.out (.ret (0,he,false)))) (AY (imp (decide (0<(ha.length:Int))) (BN .i64 ((ha.length:Int)-1)))<|AY (imp (decide (0<(ha.length:Int))) (C3 ((ha.length:Int)-1) (ha.length:Int)))<|AO (((decide (0<(ha.length:Int)))&&((Ax ha ((ha.length:Int)-1)).fKey))) (AY (BN .i64 ((ha.length:Int)-1))<|AY (C3 ((ha.length:Int)-1) (ha.length:Int))<|AO (((!decide (((Ax v hb).fKind)=4))||(((Ax ha ((ha.length:Int)-1)).fStarted)&&(Di ((Ax v hb).fStr) ((Ax ha ((ha.length:Int)-1)).fLast)||decide (((Ax v hb).fStr)=((Ax ha ((ha.length:Int)-1)).fLast)))))) (some (.out (.ret (0,he,false)))) (Ku (List.set ha (Int.toNat ((ha.length:Int)-1)) (A9.mk ((Ax ha ((ha.length:Int)-1)).fPairs) ((Ax ha ((ha.length:Int)-1)).fLeft) ((Ax ha ((ha.length:Int)-1)).fKey) ((Ax v hb).fStr) ((Ax ha ((ha.length:Int)-1)).fStarted))) λhf=>Ku (List.set hf (Int.toNat ((ha.length:Int)-1)) (A9.mk ((Ax hf ((ha.length:Int)-1)).fPairs) ((Ax hf ((ha.length:Int)-1)).fLeft) ((Ax hf ((ha.length:Int)-1)).fKey) ((Ax hf ((ha.length:Int)-1)).fLast) true)) λhg=>Ku (List.set hg (Int.toNat ((ha.length:Int)-1)) (A9.mk ((Ax hg ((ha.length:Int)-1)).fPairs) ((Ax hg ((ha.length:Int)-1)).fLeft) false ((Ax hg ((ha.length:Int)-1)).fLast) ((Ax hg ((ha.length:Int)-1)).fStarted))) λhl=>Bf (IN ((Ax v hb).fStr)) λhi=>AY (BN .i64 (hi+1))<|DQ hb hl (AL.mk he.fDepth (IntKind.wrap .i64 (he.fBytes+(hi+1))) he.fOutside (he.fLong||(decide (200<(((Ax v hb).fStr).length:Int))))))) (AY (BN .i64 ((ha.length:Int)+1))<|Bf (OF (Ax v hb)) λhh=>AY (imp (!he.fOutside) (imp (decide (((Ax v hb).fKind)=3)) ((By ((Ax v hb).fInt)).isSome)))<|AO (decide (0<((Ax v hb).fN))) (AO (decide ((v.length:Int)<((Ax v hb).fN))) (some (.out (.ret (0,(AL.mk (max he.fDepth ((ha.length:Int)+1)) (IntKind.wrap .i64 (he.fBytes+hh)) (he.fOutside||((decide (((Ax v hb).fKind)=3))&&(!(ov (By ((Ax v hb).fInt)))))) (he.fLong||(decide (200<(((Ax v hb).fStr).length:Int))))),false)))) (AY (Ge 48 (ha.length+([(A9.mk (decide (((Ax v hb).fKind)=6)) ((Ax v hb).fN) (decide (((Ax v hb).fKind)=6)) ([]:Aw) false)]:List A9).length))<|DQ hb (ha++([(A9.mk (decide (((Ax v hb).fKind)=6)) ((Ax v hb).fN) (decide (((Ax v hb).fKind)=6)) ([]:Aw) false)]:List A9)) (AL.mk (max he.fDepth ((ha.length:Int)+1)) (IntKind.wrap .i64 (he.fBytes+hh)) (he.fOutside||((decide (((Ax v hb).fKind)=3))&&(!(ov (By ((Ax v hb).fInt)))))) (he.fLong||(decide (200<(((Ax v hb).fStr).length:Int))))))) (Bf (JL F ha) λhj=>AO (decide ((hj.length:Int)=0)) (AY (BN .i64 (hb+1))<|some (.out (.ret (hb+1,(AL.mk (max he.fDepth ((ha.length:Int)+1)) (IntKind.wrap .i64 (he.fBytes+hh)) (he.fOutside||((decide (((Ax v hb).fKind)=3))&&(!(ov (By ((Ax v hb).fInt)))))) (he.fLong||(decide (200<(((Ax v hb).fStr).length:Int))))),true)))) (DQ hb hj (AL.mk (max he.fDepth ((ha.length:Int)+1)) (IntKind.wrap .i64 (he.fBytes+hh)) (he.fOutside||((decide (((Ax v hb).fKind)=3))&&(!(ov (By ((Ax v hb).fInt)))))) (he.fLong||(decide (200<(((Ax v hb).fStr).length:Int)))))))))) (some (.out (.go he)))
def JF (ha:AL):Option (Int×AL×Bool):=
 some (0,ha,false)
def Gl (F:Nat)(v:(List Aa)):Option (Int×AL×Bool):=
 Bf (Cf (λσ=>D6 F v σ.1 σ.2.1 σ.2.2) F (([]:List A9),0,(AL.mk 0 0 false false))) (BS λν=>JF ν)
def Dt (F:Nat)(v:(List Aa)):Option (Int):=
 Bf (Gl F v) λr1=>AO (((!r1.2.2)||(!decide (r1.1=(v.length:Int))))) (some 1) (AO (r1.2.1.fOutside) (some 2) (AO ((r1.2.1.fLong||((decide (200<(v.length:Int)))||((decide (8<r1.2.1.fDepth))||(decide (4000<r1.2.1.fBytes)))))) (some 3) (some 0)))
def EE (F:Nat)(v:(List Aa)):Option ((List Aa)×Int):=
 Bf (Dt F v) λr1=>AO (!decide (r1=0)) (some (([]:List Aa),r1)) (some (v,0))
def Uk (F:Nat)(n:Int):Option ((List Aa)×Int):=
 Bf (EE F ([(Aa.mk 3 n ([]:Aw) 0)]:List Aa)) λr2=>some (r2.1,r2.2)
def NI (F:Nat)(s:Aw):Option ((List Aa)×Int):=
 Bf (EE F ([(Aa.mk 4 0 s 0)]:List Aa)) λr2=>some (r2.1,r2.2)
def JH (F:Nat)(l:(List (List Aa)))(hb:(List Aa))(ha:Int):Option (Stp ((List Aa)×Int) (Out ((List Aa)×Int) ((List Aa)))):=
 AO (decide (ha<(l.length:Int))) (AY (C3 ha (l.length:Int))<|Bf (Dt F (Ax l ha)) λhe=>AO (!decide (he=0)) (some (.out (.ret (([]:List Aa),he)))) (AY (Ge 40 (hb.length+(Ax l ha).length))<|AY (BN .i64 (ha+1))<|some (.next (hb++(Ax l ha),ha+1)))) (some (.out (.go hb)))
def JG (F:Nat)(hb:(List Aa)):Option ((List Aa)×Int):=
 Bf (EE F hb) λha=>some (ha.1,ha.2)
def Ni (F:Nat)(l:(List (List Aa))):Option ((List Aa)×Int):=
 Bf (Cf (λσ=>JH F l σ.1 σ.2) F (([(Aa.mk 5 0 ([]:Aw) (l.length:Int))]:List Aa),0)) (BS λν=>JG F ν)
end Go.Proofs.YtghdglcmblpbeaaGreatDoor
namespace Go.Proofs.YtghdglcmblpbeaaGreatDoor.Q
open Go Go.RowKit
set_option linter.unusedVariables false
set_option linter.unusedSimpArgs false
set_option maxRecDepth 100000
set_option maxHeartbeats 4000000
@[reducible] def A7 (x:A9):List Rp:=[rB x.fPairs,Al x.fLeft,rB x.fKey,rS x.fLast,rB x.fStarted]
theorem Iq (x:A9):(A7 x).length=5:=rfl
theorem Lw (x:A9):(A7 x).all (·.one)=true:=rfl
@[reducible] def AN (x:AL):List Rp:=[Al x.fDepth,Al x.fBytes,rB x.fOutside,rB x.fLong]
@[reducible] def Ae (x:(List Aa)):List Rp:=[AJ 4 (A2 Ab x)]
theorem BW (x:(List Aa)):(Ae x).length=1:=rfl
theorem EP (x:(List Aa)):(Ae x).all (·.one)=true:=rfl
theorem GR:∃inf,Tryz.prog.info? 54=some inf∧inf.zero=some (.agg #[(.int .i64 0),(.int .i64 0),(.string ⟨#[]⟩),(.int .i64 0)])∧inf.size=4∧inf.bytes=40:=by
  have key:(Tryz.prog.info? 54).map (λi=>(i.zero,i.size,i.bytes))=some (some (.agg #[(.int .i64 0),(.int .i64 0),(.string ⟨#[]⟩),(.int .i64 0)]),4,40):=by kernel_rfl
  obtain⟨inf,h1,h2⟩:=Option.map_eq_some_iff.1 key;simp only[Prod.mk.injEq] at h2;exact⟨inf,h1,h2.1,h2.2.1,h2.2.2⟩
theorem UG:∃inf,Tryz.prog.info? 118=some inf∧inf.zero=some (.agg #[(.bool false),(.int .i64 0),(.bool false),(.string ⟨#[]⟩),(.bool false)])∧inf.size=5∧inf.bytes=48:=by
  have key:(Tryz.prog.info? 118).map (λi=>(i.zero,i.size,i.bytes))=some (some (.agg #[(.bool false),(.int .i64 0),(.bool false),(.string ⟨#[]⟩),(.bool false)]),5,48):=by kernel_rfl
  obtain⟨inf,h1,h2⟩:=Option.map_eq_some_iff.1 key;simp only[Prod.mk.injEq] at h2;exact⟨inf,h1,h2.1,h2.2.1,h2.2.2⟩
theorem LG (parts:List (Nat×Value)):Tryz.prog.built 54 parts=Instr.fill (λi=>(#[(0,1),(1,1),(2,1),(3,1)]:Array (Nat×Nat))[i]?) #[(.int .i64 0),(.int .i64 0),(.string ⟨#[]⟩),(.int .i64 0)] parts:=by kernel_rfl
theorem DW {n:Nat}{c:Cx}{l:Fr}{H:List Ent}{d:Option Nat}{ty:TypeId}{pos:String}{af:Array Edge}{g:Option (Nat×Bool)}{x0:Operand}{r0:Rp}(h0:ev l x0=some r0)(u0:r0.one=true){x1:Operand}{r1:Rp}(h1:ev l x1=some r1)(u1:r1.one=true):B2 Tryz.prog n c l H { dst:=d,op:=.build 54 #[(0,x0),(1,x1)],type:=ty,pos:=pos,after:=af,guard:=g } (Bt [r0,r1,rS ([]:Aw),Al 0]):=λa w Z ha _=>by
  have p0:=ha.ev h0;have c0:=BZ (r0.hone u0 Z _ p0);have p1:=ha.ev h1;have c1:=BZ (r1.hone u1 Z _ p1);have hb:Tryz.prog.built 54 [(0,a.eval x0),(1,a.eval x1)]=some #[a.eval x0,a.eval x1,(.string ⟨#[]⟩),(.int .i64 0)]:=by
    rw[LG];generalize a.eval x0=v0 at *;generalize a.eval x1=v1 at *;simp[Instr.fill,c0,c1]
  refine⟨.agg #[a.eval x0,a.eval x1,(.string ⟨#[]⟩),(.int .i64 0)],⟨[a.eval x0,a.eval x1,(.string ⟨#[]⟩),(.int .i64 0)],rfl,p0,p1,rfl,rfl,trivial⟩,?_⟩;have:=run_build w 54 #[(0,a.eval x0),(1,a.eval x1)] _ (by simpa using hb);simp[execOp,this]
theorem DV {n:Nat}{c:Cx}{l:Fr}{H:List Ent}{d:Option Nat}{ty:TypeId}{pos:String}{af:Array Edge}{g:Option (Nat×Bool)}{x0:Operand}{r0:Rp}(h0:ev l x0=some r0)(u0:r0.one=true){x2:Operand}{r2:Rp}(h2:ev l x2=some r2)(u2:r2.one=true):B2 Tryz.prog n c l H { dst:=d,op:=.build 54 #[(0,x0),(2,x2)],type:=ty,pos:=pos,after:=af,guard:=g } (Bt [r0,Al 0,r2,Al 0]):=λa w Z ha _=>by
  have p0:=ha.ev h0;have c0:=BZ (r0.hone u0 Z _ p0);have p2:=ha.ev h2;have c2:=BZ (r2.hone u2 Z _ p2);have hb:Tryz.prog.built 54 [(0,a.eval x0),(2,a.eval x2)]=some #[a.eval x0,(.int .i64 0),a.eval x2,(.int .i64 0)]:=by
    rw[LG];generalize a.eval x0=v0 at *;generalize a.eval x2=v2 at *;simp[Instr.fill,c0,c2]
  refine⟨.agg #[a.eval x0,(.int .i64 0),a.eval x2,(.int .i64 0)],⟨[a.eval x0,(.int .i64 0),a.eval x2,(.int .i64 0)],rfl,p0,rfl,p2,rfl,trivial⟩,?_⟩;have:=run_build w 54 #[(0,a.eval x0),(2,a.eval x2)] _ (by simpa using hb);simp[execOp,this]
theorem Jj {n:Nat}{c:Cx}{l:Fr}{H:List Ent}{d:Option Nat}{ty:TypeId}{pos:String}{af:Array Edge}{g:Option (Nat×Bool)}{x0:Operand}{r0:Rp}(h0:ev l x0=some r0)(u0:r0.one=true){x3:Operand}{r3:Rp}(h3:ev l x3=some r3)(u3:r3.one=true):B2 Tryz.prog n c l H { dst:=d,op:=.build 54 #[(0,x0),(3,x3)],type:=ty,pos:=pos,after:=af,guard:=g } (Bt [r0,Al 0,rS ([]:Aw),r3]):=λa w Z ha _=>by
  have p0:=ha.ev h0;have c0:=BZ (r0.hone u0 Z _ p0);have p3:=ha.ev h3;have c3:=BZ (r3.hone u3 Z _ p3);have hb:Tryz.prog.built 54 [(0,a.eval x0),(3,a.eval x3)]=some #[a.eval x0,(.int .i64 0),(.string ⟨#[]⟩),a.eval x3]:=by
    rw[LG];generalize a.eval x0=v0 at *;generalize a.eval x3=v3 at *;simp[Instr.fill,c0,c3]
  refine⟨.agg #[a.eval x0,(.int .i64 0),(.string ⟨#[]⟩),a.eval x3],⟨[a.eval x0,(.int .i64 0),(.string ⟨#[]⟩),a.eval x3],rfl,p0,rfl,rfl,p3,trivial⟩,?_⟩;have:=run_build w 54 #[(0,a.eval x0),(3,a.eval x3)] _ (by simpa using hb);simp[execOp,this]
theorem TM (parts:List (Nat×Value)):Tryz.prog.built 118 parts=Instr.fill (λi=>(#[(0,1),(1,1),(2,1),(3,1),(4,1)]:Array (Nat×Nat))[i]?) #[(.bool false),(.int .i64 0),(.bool false),(.string ⟨#[]⟩),(.bool false)] parts:=by kernel_rfl
theorem K9 {n:Nat}{c:Cx}{l:Fr}{H:List Ent}{d:Option Nat}{ty:TypeId}{pos:String}{af:Array Edge}{g:Option (Nat×Bool)}{x0:Operand}{r0:Rp}(h0:ev l x0=some r0)(u0:r0.one=true){x1:Operand}{r1:Rp}(h1:ev l x1=some r1)(u1:r1.one=true){x2:Operand}{r2:Rp}(h2:ev l x2=some r2)(u2:r2.one=true):B2 Tryz.prog n c l H { dst:=d,op:=.build 118 #[(0,x0),(1,x1),(2,x2)],type:=ty,pos:=pos,after:=af,guard:=g } (Bt [r0,r1,r2,rS ([]:Aw),rB false]):=λa w Z ha _=>by
  have p0:=ha.ev h0;have c0:=BZ (r0.hone u0 Z _ p0);have p1:=ha.ev h1;have c1:=BZ (r1.hone u1 Z _ p1);have p2:=ha.ev h2;have c2:=BZ (r2.hone u2 Z _ p2);have hb:Tryz.prog.built 118 [(0,a.eval x0),(1,a.eval x1),(2,a.eval x2)]=some #[a.eval x0,a.eval x1,a.eval x2,(.string ⟨#[]⟩),(.bool false)]:=by
    rw[TM];generalize a.eval x0=v0 at *;generalize a.eval x1=v1 at *;generalize a.eval x2=v2 at *;simp[Instr.fill,c0,c1,c2]
  refine⟨.agg #[a.eval x0,a.eval x1,a.eval x2,(.string ⟨#[]⟩),(.bool false)],⟨[a.eval x0,a.eval x1,a.eval x2,(.string ⟨#[]⟩),(.bool false)],rfl,p0,p1,p2,rfl,rfl,trivial⟩,?_⟩;have:=run_build w 118 #[(0,a.eval x0),(1,a.eval x1),(2,a.eval x2)] _ (by simpa using hb);simp[execOp,this]
theorem Mn (n:Int)(r:Bool)(h:By n=some r):Fn Tryz.prog GE 31 [Al n] [] (λR H=>R=rB r∧H=[]):=by
 refine enter (n:=9) Tryz.func31 rfl Tryz.ntmps31 rfl (λw Z=>?_);unfold By at h;refine Af (wa rfl (Am (AE [(2,rB ((decide ((-1000000000000)≤n))&&(decide (n≤1000000000000))))] [] ?_ ?_)))
 ·refine Aj (wm rfl (wv (JY rfl rfl) (wm rfl (AH (decide ((-1000000000000)≤n)) (λc1=>?_) (λc1=>?_)))))
  ·refine wo c1 (wm rfl (wo c1 (wv (JY rfl rfl) (BR rfl c1 rfl (wa rfl (Ai ?_))))));exact BD c1
  ·refine wf c1 (wf c1 (wv (r:=rB false) (Ak rfl c1 rfl) (wa rfl (Ai ?_))));exact BD c1
 refine Aq ?_;obtain rfl:=Ao h;exact Ap (Bs Tryz.results31 (A5 rfl)) sN ⟨rfl,rfl⟩
theorem Uf (F:Nat)(s:Aw)(r:Bool)(h:J8 F s=some r):Fn Tryz.prog GE 137 [rS s] [] (λR H=>R=rB r∧H=[]):=by
 refine enter (n:=20) Tryz.func137 rfl Tryz.ntmps137 rfl (λw Z=>?_);unfold J8 at h;refine Af (wa rfl (Am (An (Af (wm rfl (wv (BP D4 rfl) (wv (r:=Al 0) (A3 rfl) (Am (A6 (ob h λhj hk hh=>Bd (S:=Nat×(Int)×(Unit)) (V:=(Unit)×(Unit)) 0 (λσ=>Cf (λσ=>Ha s σ) σ.1 σ.2.1=some hj) (λσ=>[(0,rS s),(5,Al (s.length:Int)),(6,Al σ.2.1)]) (λσ=>[]) (λσ=>σ.1) (F,0,()) hk (Az.c rfl (Az.c rfl (Az.c rfl Az.nil))) sN (λσ=>GZ =some r) (λσ=>[]) (λσ=>[]) ?_ ?_))))))))))
 ·rintro⟨h0,hb,⟨⟩⟩ hl;refine B7 (l':=[(0,rS s),(5,Al (s.length:Int)),(6,Al hb)]) (H':=[]) rfl rfl ?_;obtain⟨hm,rfl,t37,he,hg⟩:=Ca hl;replace he:Ha s hb=some t37:=he;unfold Ha at he;refine Af (wv (Cl rfl rfl) (Am (An (cz he rfl (λhn ho=>?_) (λhn hp=>?_)))))
  ·refine At (AD (An (A6 (Af (wm rfl (wa rfl (Am (ck ho λhi hq=>AE [(0,rS s),(5,Al (s.length:Int)),(6,Al hb),(18,rB ((decide ((Cn s hb)<32))||(decide (126<(Cn s hb)))))] [] ?_ ?_))))))))
   ·refine Aj (wm rfl (wm rfl (wv (BH D4 rfl rfl hi) (wv (Cl rfl rfl) (wm rfl (AH (decide ((Cn s hb)<32)) (λha=>?_) (λha=>?_)))))))
    ·refine wf ha (wf ha (wf ha (wf ha (wv (r:=rB true) (Av rfl ha rfl) (Ai ?_)))));exact BD ha
    ·refine wo ha (wm rfl (wo ha (wm rfl (wo ha (wv (BH D4 rfl rfl hi) (wo ha (wv (CB rfl rfl) (Cc rfl ha rfl (Ai ?_)))))))));exact BD ha
   refine cz hq rfl (λhr hs=>?_) (λhr ht=>?_)
   ·refine Af (wa rfl (Am (Aq (Au (Ac (Ac (AP ?_)))))));have hu:=Bg hs hg hh;refine Au (Ac ?_);obtain rfl:=Ao hu;exact Ap (Bs Tryz.results137 (A5 rfl)) sN ⟨rfl,rfl⟩
   ·refine At (A4 (AD (Aj (ck ht λhw hx=>wv (Be rfl rfl hw) (wm rfl (Ai ?_))))));have hy:=AW hx hg;exact As (Ar (hm,hb+1,()) ⟨hy,X0 _⟩ (Az.c rfl (Az.c rfl (Az.c rfl Az.nil))) sN)
  ·refine Bl (Ay ?_);have hz:=BB hp hg hh;exact Ay (AS (Ar ((),()) hz Az.nil sN))
 ·rintro⟨⟨⟩,⟨⟩⟩ hf;refine Ce (l':=[]) (H':=[]) rfl rfl ?_;replace hf:GZ =some r:=hf;unfold GZ at hf;refine AV (AD (Af (wa rfl (Am (Aq ?_)))));obtain rfl:=Ao hf;exact Ap (Bs Tryz.results137 (A5 rfl)) sN ⟨rfl,rfl⟩
theorem Nh (s:Aw)(r:Int)(h:IN s=some r):Fn Tryz.prog GE 102 [rS s] [] (λR H=>R=Al r∧H=[]):=by
 refine enter (n:=12) Tryz.func102 rfl Tryz.ntmps102 rfl (λw Z=>?_);unfold IN at h;refine Af (wa rfl (Bb (wm rfl (wv (BP D4 rfl) (ck h λg1 h2=>wv (Be rfl rfl g1) (wm rfl (J4 (rs:=[rS s,rS ([34]:Aw)]) (r:=Al (Lib.countByte s 34:Int)) Tryz.call138 rfl (Rh s 34) rfl rfl (ck h2 λg3 h4=>wv (Be rfl rfl g3) (wm rfl (J4 (rs:=[rS s,rS ([92]:Aw)]) (r:=Al (Lib.countByte s 92:Int)) Tryz.call138 rfl (Rh s 92) rfl rfl (ck h4 λg5 h6=>wv (Be rfl rfl g5) (wa rfl (Am (Aq ?_))))))))))))));obtain rfl:=Ao h6;exact Ap (Bs Tryz.results102 (A5 rfl)) sN ⟨rfl,rfl⟩
theorem SM (F:Nat)(c:Aa)(r:Bool)(h:Mb F c=some r):Fn Tryz.prog GE 101 [Bt (Ab c)] [] (λR H=>R=rB r∧H=[]):=by
 refine enter (n:=81) Tryz.func101 rfl Tryz.ntmps101 rfl (λw Z=>?_);unfold Mb at h;refine Af (Bq rfl rfl (λb1=>?_));refine wa rfl (Am (An (Af (vF Bm rfl CF (vL 0 CR rfl (Am (A6 (Af (wv (AX rfl rfl) (wa rfl (Am (cz h rfl (λc2 h3=>?_) (λc2 h6=>?_)))))))))))))
 ·refine AE [(2,rB ((decide (c.fInt=0))&&((decide (c.fStr=([]:Aw)))&&(decide (c.fN=0)))))] [] ?_ ?_
  ·refine Aj (vF Bm rfl B3 (vL 0 BG rfl (wv (AX rfl rfl) (wm rfl (AH (decide (c.fInt=0)) (λc4=>?_) (λc4=>?_))))))
   ·refine wo c4 (vF Bm rfl C6 (wo c4 (vL 0 CG rfl (wo c4 (wv (DT rfl rfl) (BR rfl c4 rfl (wm rfl (AH (decide (c.fStr=([]:Aw))) (λc5=>?_) (λc5=>?_)))))))))
    ·refine wo c5 (vF Bm rfl B3 (wo c5 (vL 0 BG rfl (wo c5 (wv (AX rfl rfl) (BR rfl c5 rfl (wa rfl (Ai ?_))))))));exact BD (And.intro c4 c5)
    ·refine wf c5 (wf c5 (wf c5 (wv (r:=rB false) (Ak rfl c5 rfl) (wa rfl (Ai ?_)))));exact BD (And.intro c4 c5)
   ·refine wf c4 (wf c4 (wf c4 (wv (r:=rB false) (Ak rfl c4 rfl) (wm rfl (wz rfl rfl (wz rfl rfl (wz rfl rfl (wv (r:=rB false) (Ak (b:=false) rfl rfl rfl) (wa rfl (Ai ?_))))))))));exact BD c4
  refine Aq (Au (Ac ?_));obtain rfl:=Ao h3;exact Ap (Bs LN (A5 rfl)) sN ⟨rfl,rfl⟩
 ·refine Af (wv (AX rfl rfl) (wa rfl (Am (cz h6 rfl (λc7 h8=>?_) (λc7 hn=>?_)))))
  ·refine AE [(2,rB (bif decide (c.fInt=0) then((decide (c.fStr=([]:Aw)))&&(decide (c.fN=0))) else((decide (c.fInt=1))&&((decide (c.fStr=([]:Aw)))&&(decide (c.fN=0))))))] [] ?_ ?_
   ·refine Aj (vF Bm rfl B3 (vL 0 BG rfl (wv (AX rfl rfl) (wm rfl (AH (decide (c.fInt=0)) (λc9=>?_) (λc9=>?_))))))
    ·refine wf c9 (wf c9 (wf c9 (wv (r:=rB true) (Av rfl c9 rfl) (wm rfl (AF (b:=true) rfl rfl rfl (vF Bm rfl C6 (AF (b:=true) rfl rfl rfl (vL 0 CG rfl (AF (b:=true) rfl rfl rfl (wv (DT rfl rfl) (wv (r:=rB (decide (c.fStr=([]:Aw)))) (Av (b:=true) rfl rfl rfl) (wm rfl (AH (decide (c.fStr=([]:Aw))) (λhh=>?_) (λhh=>?_))))))))))))))
     ·refine wo hh (vF Bm rfl B3 (wo hh (vL 0 BG rfl (wo hh (wv (AX rfl rfl) (BR rfl hh rfl (wa rfl (Ai ?_))))))));exact BD (And.intro c9 hh)
     ·refine wf hh (wf hh (wf hh (wv (r:=rB false) (Ak rfl hh rfl) (wa rfl (Ai ?_)))));exact BD (And.intro c9 hh)
    ·refine wo c9 (vF Bm rfl B3 (wo c9 (vL 0 BG rfl (wo c9 (wv (AX rfl rfl) (Cc rfl c9 rfl (wm rfl (AH (decide (c.fInt=1)) (λhb=>?_) (λhb=>?_)))))))))
     ·refine wo hb (vF Bm rfl C6 (wo hb (vL 0 CG rfl (wo hb (wv (DT rfl rfl) (BR rfl hb rfl (wm rfl (AH (decide (c.fStr=([]:Aw))) (λhi=>?_) (λhi=>?_)))))))))
      ·refine wo hi (vF Bm rfl B3 (wo hi (vL 0 BG rfl (wo hi (wv (AX rfl rfl) (BR rfl hi rfl (wa rfl (Ai ?_))))))));exact BD (And.intro c9 (And.intro hb hi))
      ·refine wf hi (wf hi (wf hi (wv (r:=rB false) (Ak rfl hi rfl) (wa rfl (Ai ?_)))));exact BD (And.intro c9 (And.intro hb hi))
     ·refine wf hb (wf hb (wf hb (wv (r:=rB false) (Ak rfl hb rfl) (wm rfl (wz rfl rfl (wz rfl rfl (wz rfl rfl (wv (r:=rB false) (Ak (b:=false) rfl rfl rfl) (wa rfl (Ai ?_))))))))));exact BD (And.intro c9 hb)
   refine Aq (Au (Ac ?_));obtain rfl:=Ao h8;exact Ap (Bs LN (A5 rfl)) sN ⟨rfl,rfl⟩
  ·refine Af (wv (AX rfl rfl) (wa rfl (Am (cz hn rfl (λho hp=>?_) (λho hq=>?_)))))
   ·refine AE [(2,rB ((decide (c.fStr=([]:Aw)))&&(decide (c.fN=0))))] [] ?_ ?_
    ·refine Aj (vF Bm rfl C6 (vL 0 CG rfl (wv (DT rfl rfl) (wm rfl (AH (decide (c.fStr=([]:Aw))) (λhj=>?_) (λhj=>?_))))))
     ·refine wo hj (vF Bm rfl B3 (wo hj (vL 0 BG rfl (wo hj (wv (AX rfl rfl) (BR rfl hj rfl (wa rfl (Ai ?_))))))));exact BD hj
     ·refine wf hj (wf hj (wf hj (wv (r:=rB false) (Ak rfl hj rfl) (wa rfl (Ai ?_)))));exact BD hj
    refine Aq (Au (Ac ?_));obtain rfl:=Ao hp;exact Ap (Bs LN (A5 rfl)) sN ⟨rfl,rfl⟩
   ·refine Af (wv (AX rfl rfl) (wa rfl (Am (cz hq rfl (λhr hs=>?_) (λhr ht=>?_)))))
    ·refine ck hs λhu hw=>AE [(2,rB ((decide (c.fInt=0))&&((decide (c.fN=0))&&(ov (J8 F c.fStr)))))] [] ?_ ?_
     ·refine Aj (vF Bm rfl B3 (vL 0 BG rfl (wv (AX rfl rfl) (wm rfl (AH (decide (c.fInt=0)) (λha=>?_) (λha=>?_))))))
      ·refine wo ha (vF Bm rfl B3 (wo ha (vL 0 BG rfl (wo ha (wv (AX rfl rfl) (BR rfl ha rfl (wm rfl (AH (decide (c.fN=0)) (λhe=>?_) (λhe=>?_)))))))))
       ·refine wo he (vF Bm rfl C6 (wo he (vL 0 CG rfl (wo he (BL Tryz.call137 (Uf F c.fStr (ov (J8 F c.fStr)) (Cz (BE (BE hu ha) he))) rfl (BR rfl he rfl (wa rfl (Ai ?_))))))));exact BD (And.intro ha he)
       ·refine wf he (wf he (wf he (wv (r:=rB false) (Ak rfl he rfl) (wa rfl (Ai ?_)))));exact BD (And.intro ha he)
      ·refine wf ha (wf ha (wf ha (wv (r:=rB false) (Ak rfl ha rfl) (wm rfl (wz rfl rfl (wz rfl rfl (wz rfl rfl (wv (r:=rB false) (Ak (b:=false) rfl rfl rfl) (wa rfl (Ai ?_))))))))));exact BD ha
     refine Aq (Au (Ac ?_));obtain rfl:=Ao hw;exact Ap (Bs LN (A5 rfl)) sN ⟨rfl,rfl⟩
    ·refine An (Af (wv (AX rfl rfl) (wa rfl (Am (cz ht rfl (λhm hx=>?_) (λhm hy=>?_))))))
     ·refine At (AD (DF rfl hm (AE [(2,rB ((decide (c.fInt=0))&&((decide (c.fStr=([]:Aw)))&&(decide (0≤c.fN)))))] [] ?_ ?_)))
      ·refine Aj (vF Bm rfl B3 (vL 0 BG rfl (wv (AX rfl rfl) (wm rfl (AH (decide (c.fInt=0)) (λhf=>?_) (λhf=>?_))))))
       ·refine wo hf (vF Bm rfl C6 (wo hf (vL 0 CG rfl (wo hf (wv (DT rfl rfl) (BR rfl hf rfl (wm rfl (AH (decide (c.fStr=([]:Aw))) (λhk=>?_) (λhk=>?_)))))))))
        ·refine wo hk (vF Bm rfl B3 (wo hk (vL 0 BG rfl (wo hk (wv (EI rfl rfl) (BR rfl hk rfl (wa rfl (Ai ?_))))))));exact BD (And.intro hf hk)
        ·refine wf hk (wf hk (wf hk (wv (r:=rB false) (Ak rfl hk rfl) (wa rfl (Ai ?_)))));exact BD (And.intro hf hk)
       ·refine wf hf (wf hf (wf hf (wv (r:=rB false) (Ak rfl hf rfl) (wm rfl (wz rfl rfl (wz rfl rfl (wz rfl rfl (wv (r:=rB false) (Ak (b:=false) rfl rfl rfl) (wa rfl (Ai ?_))))))))));exact BD hf
      refine Aq (Au (Ac ?_));obtain rfl:=Ao hx;exact Ap (Bs LN (A5 rfl)) sN ⟨rfl,rfl⟩
     ·refine Aj (wv (AX rfl rfl) (wa rfl (Am (cz hy rfl (λhz h0=>?_) (λhz h1=>?_)))))
      ·refine AE [(2,rB ((decide (c.fInt=0))&&((decide (c.fStr=([]:Aw)))&&(decide (0≤c.fN)))))] [] ?_ ?_
       ·refine Aj (vF Bm rfl B3 (vL 0 BG rfl (wv (AX rfl rfl) (wm rfl (AH (decide (c.fInt=0)) (λhg=>?_) (λhg=>?_))))))
        ·refine wo hg (vF Bm rfl C6 (wo hg (vL 0 CG rfl (wo hg (wv (DT rfl rfl) (BR rfl hg rfl (wm rfl (AH (decide (c.fStr=([]:Aw))) (λhl=>?_) (λhl=>?_)))))))))
         ·refine wo hl (vF Bm rfl B3 (wo hl (vL 0 BG rfl (wo hl (wv (EI rfl rfl) (BR rfl hl rfl (wa rfl (Ai ?_))))))));exact BD (And.intro hg hl)
         ·refine wf hl (wf hl (wf hl (wv (r:=rB false) (Ak rfl hl rfl) (wa rfl (Ai ?_)))));exact BD (And.intro hg hl)
        ·refine wf hg (wf hg (wf hg (wv (r:=rB false) (Ak rfl hg rfl) (wm rfl (wz rfl rfl (wz rfl rfl (wz rfl rfl (wv (r:=rB false) (Ak (b:=false) rfl rfl rfl) (wa rfl (Ai ?_))))))))));exact BD hg
       refine Aq (Au (Ac ?_));obtain rfl:=Ao h0;exact Ap (Bs LN (A5 rfl)) sN ⟨rfl,rfl⟩
      ·refine At (A4 (AD (Af (wa rfl (Am (Aq ?_))))));obtain rfl:=Ao h1;exact Ap (Bs LN (A5 rfl)) (sS sN) ⟨rfl,rfl⟩
theorem Ug (c:Aa)(r:Int)(h:OF c=some r):Fn Tryz.prog GE 103 [Bt (Ab c)] [] (λR H=>R=Al r∧H=[]):=by
 refine enter (n:=28) Tryz.func103 rfl Tryz.ntmps103 rfl (λw Z=>?_);unfold OF at h;refine Af (Bq rfl rfl (λb1=>?_));refine wa rfl (Am (An (Af (vF Bm rfl CF (vL 0 CR rfl (Am (A6 (Af (wv (AX rfl rfl) (wa rfl (Am (cz h rfl (λc2 h3=>?_) (λc2 h4=>?_)))))))))))))
 ·refine Af (wa rfl (Am (Aq (Au (Ac ?_)))));obtain rfl:=Ao h3;exact Ap (Bs O9 (A5 rfl)) (sS sN) ⟨rfl,rfl⟩
 ·refine Af (wv (AX rfl rfl) (wa rfl (Am (cz h4 rfl (λc5 h6=>?_) (λc5 h7=>?_)))))
  ·refine Af (vF Bm rfl B3 (vL 0 BG rfl (wv (r:=Al (IntKind.wrap .i64 (5-c.fInt))) (Tk rfl rfl) (wa rfl (Am (Aq (Au (Ac ?_))))))));obtain rfl:=Ao h6;exact Ap (Bs O9 (A5 rfl)) (sS sN) ⟨rfl,rfl⟩
  ·refine Af (wv (AX rfl rfl) (wa rfl (Am (cz h7 rfl (λc8 h9=>?_) (λc8 ha=>?_)))))
   ·refine Af (vF Bm rfl B3 (vL 0 BG rfl (ck h9 λhb he=>J4 (rs:=[Al c.fInt]) (r:=rS (Lib.itoa c.fInt)) Tryz.call113 rfl (Ps c.fInt hb) rfl rfl (wv (BP D4 rfl) (wa rfl (Am (Aq (Au (Ac ?_)))))))));obtain rfl:=Ao he;exact Ap (Bs O9 (A5 rfl)) (sS sN) ⟨rfl,rfl⟩
   ·refine Af (wv (AX rfl rfl) (wa rfl (Am (cz ha rfl (λhf hg=>?_) (λhf hh=>?_)))))
    ·refine Af (vF Bm rfl C6 (vL 0 CG rfl (ob hg λhi hj hk=>BL Tryz.call102 (Nh c.fStr hi hj) rfl (wa rfl (Am (Aq (Au (Ac ?_))))))));obtain rfl:=Ao hk;exact Ap (Bs O9 (A5 rfl)) (sS sN) ⟨rfl,rfl⟩
    ·refine At (A4 (AD (Af (vF Bm rfl B3 (vL 0 BG rfl (wv (r:=Al (IntKind.wrap .i64 (c.fN-1))) (Tk rfl rfl) (wv (Tm Xa rfl rfl) (wv (r:=Al (IntKind.wrap .i64 (2+(max 0 (IntKind.wrap .i64 (c.fN-1)))))) (Ql rfl rfl) (wa rfl (Am (Aq ?_)))))))))));obtain rfl:=Ao hh;exact Ap (Bs O9 (A5 rfl)) (sS sN) ⟨rfl,rfl⟩
theorem R4 (F:Nat)(hj:Value)(stack:(List A9))(r:(List A9))(h:JL F stack=some r):Fn Tryz.prog GE 104 [rv hj] [.row hj 118 5 (A2 A7 stack)] (λR H=>∃u0:Value,R=rv u0∧H=[.row u0 118 5 (A2 A7 r)]):=by
 refine enter (n:=38) Tryz.func104 rfl Tryz.ntmps104 rfl (λw Z=>?_);unfold JL at h;refine Af (wa rfl (Am (An (A6 (ob h λho hp hm=>Bd (S:=Nat×((List A9))×(Value)) (V:=((List A9))×(Value)) 0 (λσ=>Cf (λσ=>D7 σ) σ.1 σ.2.1=some ho) (λσ=>[(0,rv σ.2.2),(2,rv (.slice none 0 0))]) (λσ=>[.row σ.2.2 118 5 (A2 A7 σ.2.1)]) (λσ=>σ.1) (F,stack,hj) hp (Az.c rfl (Az.c rfl Az.nil)) (sC sN) (λσ=>Ef σ.1=some r) (λσ=>[(0,rv σ.2),(2,rv (.slice none 0 0))]) (λσ=>[.row σ.2 118 5 (A2 A7 σ.1)]) ?_ ?_)))))
 ·rintro⟨hH,ha,he⟩ hq;refine B7 (l':=[(0,rv he),(2,rv (.slice none 0 0))]) (H':=[.row he 118 5 (A2 A7 ha)]) rfl rfl ?_;obtain⟨hr,rfl,hs,hh,hk⟩:=Ca hq;replace hh:D7 ha=some hs:=hh;unfold D7 at hh;refine An (Af (wm rfl (wv (DU (ys:=ha) (enc:=A7) (i:=0) Im rfl rfl) (wv (CB rfl rfl) (Am (cz hh rfl (λht hu=>?_) (λht hw=>?_)))))))
  ·refine At (AD (A6 (Af (wm rfl (wm rfl (wv (DU (ys:=ha) (enc:=A7) (i:=0) Im rfl rfl) (ck hu λhx hy=>wv (Nt rfl rfl hx) (ck hy λhf hz=>wv (r:=rv (EN 5 he (B0 ((ha.length:Int)-1)) 0)) (K8 (i:=0) Im O6 rfl rfl rfl (Cg hf)) (wa rfl (Bb (wm rfl (wv (r:=rv (EN 5 he (B0 ((ha.length:Int)-1)) 0)) (C2 (k:=0) rfl (Cg hf) rfl rfl) (wv (r:=rv (EN 5 he (B0 ((ha.length:Int)-1)) 1)) (Ex (k:=0) Il rfl B3 rfl (Cg hf) rfl rfl rfl) (wv (r:=Al ((Ax ha ((ha.length:Int)-1)).fLeft)) (I3 (enc:=A7) (ys:=ha) (i:=0) (j:=(ha.length:Int)-1) BG rfl rfl hf rfl) (ck hz λh0 h1=>wv (Nt rfl rfl h0) (wv (r:=rv (EN 5 he (B0 ((ha.length:Int)-1)) 0)) (C2 (k:=0) rfl (Cg hf) rfl rfl) (wv (r:=rv (EN 5 he (B0 ((ha.length:Int)-1)) 1)) (Ex (k:=0) Il rfl B3 rfl (Cg hf) rfl rfl rfl) (Ix (enc:=A7) (ys:=ha) (y':=(A9.mk ((Ax ha ((ha.length:Int)-1)).fPairs) (((Ax ha ((ha.length:Int)-1)).fLeft)-1) ((Ax ha ((ha.length:Int)-1)).fKey) ((Ax ha ((ha.length:Int)-1)).fLast) ((Ax ha ((ha.length:Int)-1)).fStarted))) (i:=0) (j:=(ha.length:Int)-1) B3 rfl rfl (BQ rfl) rfl hf rfl rfl (H':=[.row he 118 5 (A2 A7 (List.set ha (B0 ((ha.length:Int)-1)) (A9.mk ((Ax ha ((ha.length:Int)-1)).fPairs) (((Ax ha ((ha.length:Int)-1)).fLeft)-1) ((Ax ha ((ha.length:Int)-1)).fKey) ((Ax ha ((ha.length:Int)-1)).fLast) ((Ax ha ((ha.length:Int)-1)).fStarted))))]) rfl (bd h1 λhb hg h2=>?_)))))))))))))))))));rw[← hg];refine Am (An (Af (wm rfl (wv (r:=rv (EN 5 he (B0 ((ha.length:Int)-1)) 0)) (C2 (k:=0) rfl (Cg (Da hf hg)) rfl rfl) (wv (r:=rv (EN 5 he (B0 ((ha.length:Int)-1)) 1)) (Ex (k:=0) Il rfl B3 rfl (Cg (Da hf hg)) rfl rfl rfl) (wv (r:=Al ((Ax hb ((ha.length:Int)-1)).fLeft)) (I3 (enc:=A7) (ys:=hb) (i:=0) (j:=(ha.length:Int)-1) BG rfl rfl (Da hf hg) rfl) (wv (CB rfl rfl) (Am (cz h2 rfl (λh3 h4=>?_) (λh3 h5=>?_))))))))))
   ·refine Af (wm rfl (wm rfl (wv (r:=rv (EN 5 he (B0 ((ha.length:Int)-1)) 0)) (C2 (k:=0) rfl (Cg (Da hf hg)) rfl rfl) (wv (r:=rv (EN 5 he (B0 ((ha.length:Int)-1)) 0)) (Ex (k:=0) Il rfl HB rfl (Cg (Da hf hg)) rfl rfl rfl) (wv (r:=rB ((Ax hb ((ha.length:Int)-1)).fPairs)) (I3 (enc:=A7) (ys:=hb) (i:=0) (j:=(ha.length:Int)-1) Sw rfl rfl (Da hf hg) rfl) (wv (r:=rv (EN 5 he (B0 ((ha.length:Int)-1)) 0)) (C2 (k:=0) rfl (Cg (Da hf hg)) rfl rfl) (wv (r:=rv (EN 5 he (B0 ((ha.length:Int)-1)) 2)) (Ex (k:=0) Il rfl HB rfl (Cg (Da hf hg)) rfl rfl rfl) (Ix (enc:=A7) (ys:=hb) (y':=(A9.mk ((Ax hb ((ha.length:Int)-1)).fPairs) ((Ax hb ((ha.length:Int)-1)).fLeft) ((Ax hb ((ha.length:Int)-1)).fPairs) ((Ax hb ((ha.length:Int)-1)).fLast) ((Ax hb ((ha.length:Int)-1)).fStarted))) (i:=0) (j:=(ha.length:Int)-1) HB rfl rfl (BQ rfl) rfl (Da hf hg) rfl rfl (H':=[.row he 118 5 (A2 A7 (List.set hb (B0 ((ha.length:Int)-1)) (A9.mk ((Ax hb ((ha.length:Int)-1)).fPairs) ((Ax hb ((ha.length:Int)-1)).fLeft) ((Ax hb ((ha.length:Int)-1)).fPairs) ((Ax hb ((ha.length:Int)-1)).fLast) ((Ax hb ((ha.length:Int)-1)).fStarted))))]) rfl (bd h4 λhI h6 h7=>?_)))))))));rw[← h6];refine Bb (wm rfl (wa rfl (Am (Aq (Ac (Au (Ac (AP ?_))))))));have h8:=Bg h7 hk hm;refine Au (Ac ?_);obtain rfl:=Ao h8;exact Ap (Bs Tryz.results104 (A5 rfl)) (sC sN) ⟨he,rfl,rfl⟩
   ·refine At (AD (Aj (wm rfl (wm rfl (wv (DU (ys:=hb) (enc:=A7) (i:=0) Im rfl rfl) (ck h5 λh9 hA=>wv (Nt rfl rfl h9) (ck hA λhB hC=>Wq (i:=0) Im O6 rfl rfl rfl hB rfl (λhD=>?_))))))));refine wa rfl (Ai (A4 ?_));have hE:=AW hC hk;exact As (Ar (hr,List.take (B0 ((hb.length:Int)-1)) hb,hD) ⟨hE,X0 _⟩ (Az.c rfl (Az.c rfl Az.nil)) (sC sN))
  ·refine Bl (Ay ?_);have hG:=BB hw hk hm;exact Ay (AS (Ar (ha,he) hG (Az.c rfl (Az.c rfl Az.nil)) (sC sN)))
 ·rintro⟨hn,hl⟩ hi;refine Ce (l':=[(0,rv hl),(2,rv (.slice none 0 0))]) (H':=[.row hl 118 5 (A2 A7 hn)]) rfl rfl ?_;replace hi:Ef hn=some r:=hi;unfold Ef at hi;refine AV (AD (Af (wm rfl (wa rfl (Am (Aq ?_))))));obtain rfl:=Ao hi;exact Ap (Bs Tryz.results104 (A5 rfl)) (sC sN) ⟨hl,rfl,rfl⟩
theorem HL (F:Nat)(v:(List Aa))(r:Int×AL×Bool)(h:Gl F v=some r):Fn Tryz.prog GE 72 [AJ 4 (A2 Ab v)] [] (λR H=>R=Dx [Al r.1,Bt (AN r.2.1),rB r.2.2]∧H=[]):=by
 refine enter (n:=152) Tryz.func72 rfl Tryz.ntmps72 rfl (λw Z=>?_);unfold Gl at h;refine Af (wa rfl (Cm (cs:=[Al 0,Al 0,rB false,rB false]) N8 rfl rfl (λb1=>?_)));refine wa rfl (Am (SH (Af (Cm (cs:=[Al 0,Al 0,rB false,rB false]) N8 rfl rfl (λb2=>?_)))));refine Bb (wa rfl (Am (An (SI (AD (An (Af (wm rfl (wv (AK (ys:=v) (enc:=Ab) Bv rfl) (wv (r:=Al 0) (A3 rfl) (Am (A6 (WC.nilrow (e:=118) (sz:=5) (NF (H2:=[.blk b2 [Al 0,Al 0,rB false,rB false] 86,.blk b1 [Al 0,Al 0,rB false,rB false] 86,.row (.slice none 0 0                                                                                                                      ) 118 5 (A2 A7 ([]:List A9))]) ((A1 (i:=1) rfl).trans (Xx _ ((A1 (i:=1) rfl).trans (Xx _ (Xv _))))) (ob h λhB hC hz=>Bd (S:=Nat×((List A9)×Int×AL)×(Value)) (V:=(AL)×(Unit)) 0 (λσ=>Cf (λσ=>D6 F v σ.1 σ.2.1 σ.2.2) σ.1 σ.2.1=some hB) (λσ=>[(0,AJ 4 (A2 Ab v)),(3,rP b1 0),(5,rP b2 0),(6,rv σ.2.2),(11,AJ 4 (A2 Ab v)),(12,Al (v.length:Int)),(13,Al σ.2.1.2.1)]) (λσ=>[.blk b2 (AN σ.2.1.2.2) 86,.blk b1 [Al 0,Al 0,rB false,rB false] 86,.row σ.2.2 118 5 (A2 A7 σ.2.1.1)]) (λσ=>σ.1) (F,(([]:List A9),0,(AL.mk 0 0 false false)),(.slice none 0 0                                                                                                                      )) hC (Az.c rfl (Az.c rfl (Az.c5 rfl rfl rfl rfl rfl Az.nil))) (sC (sC (sC sN))) (λσ=>JF σ.1=some r) (λσ=>[(3,rP b1 0),(5,rP b2 0)]) (λσ=>[.blk b2 (AN σ.1) 86,.blk b1 [Al 0,Al 0,rB false,rB false] 86]) ?_ ?_)))))))))))))))
 ·rintro⟨gJ,⟨he,hb,ha⟩,hf⟩ hD;refine B7 (l':=[(0,AJ 4 (A2 Ab v)),(3,rP b1 0),(5,rP b2 0),(6,rv hf),(11,AJ 4 (A2 Ab v)),(12,Al (v.length:Int)),(13,Al hb)]) (H':=[.blk b2 (AN ha) 86,.blk b1 [Al 0,Al 0,rB false,rB false] 86,.row hf 118 5 (A2 A7 he)]) rfl rfl ?_;obtain⟨hE,rfl,h5,h1,hy⟩:=Ca hD;replace h1:D6 F v he hb ha=some h5:=h1;unfold D6 at h1;refine Af (wv (Cl rfl rfl) (Am (An (cz h1 rfl (λhG hH=>?_) (λhG hI=>?_)))))
  ·refine At (AD (BX (S:=((List A9)×AL)×(Value)) (λσ=>DQ hb σ.1.1 σ.1.2=some h5) (λσ=>[(0,AJ 4 (A2 Ab v)),(3,rP b1 0),(5,rP b2 0),(6,rv σ.2),(11,AJ 4 (A2 Ab v)),(12,Al (v.length:Int)),(13,Al hb)]) (λσ=>[.blk b2 (AN σ.1.2) 86,.blk b1 [Al 0,Al 0,rB false,rB false] 86,.row σ.2 118 5 (A2 A7 σ.1.1)]) ?_ ?_))
   ·refine A6 (Af (wm rfl (ck hH λhJ hK=>wv (AU (enc:=Ab) (ys:=v) Bv BC rfl rfl hJ) (wv (CP Jn BC rfl rfl rfl) (Cm (cs:=[Al 0,Al 0,rS ([]:Aw),Al 0]) GV rfl rfl (λhg=>?_))))));refine wa rfl (Bh (i:=0) BC rfl rfl rfl (BU.c rfl) rfl rfl (cs':=[Al ((Ax v hb).fKind),Al ((Ax v hb).fInt),rS ((Ax v hb).fStr),Al ((Ax v hb).fN)]) rfl (H':=[.blk hg (Ab (Ax v hb)) 54,.blk b2 (AN ha) 86,.blk b1 [Al 0,Al 0,rB false,rB false] 86,.row hf 118 5 (A2 A7 he)]) rfl (Am (An (Af (wv (AB (i:=0) Jn BC rfl rfl rfl rfl) (ob hK λhL hN hO=>BL Tryz.call101 (SM F (Ax v hb) hL hN) rfl (wv (Bu rfl) (Am (cz hO rfl (λhP hQ=>?_) (λhP hR=>?_))))))))))
    ·refine An (EO (H1:=[.blk hg (Ab (Ax v hb)) 54,.blk b2 (AN ha) 86,.blk b1 (AN ha) 86,.row hf 118 5 (A2 A7 he)]) [3,5] [⟨[],Bt (AN ha),1⟩,⟨[],Al 0,0⟩,⟨[0],rv undef,2⟩,⟨[],rB false,0⟩] (rle [(3,_),(2,[.blk hg (Ab (Ax v hb)) 54,.blk b2 (AN ha) 86,.blk b1 (AN ha) 86,.row hf 118 5 (A2 A7 he)])]) [2,4,3] ?_ ?_)
     ·refine of (AB (i:=1) MS Gz rfl rfl rfl rfl) (oq (AG rfl) (Io rfl (MW (Dy (i:=2) Gz rfl rfl rfl (BU.c rfl) rfl rfl (cs':=[Al ha.fDepth,Al ha.fBytes,rB ha.fOutside,rB ha.fLong]) rfl (H':=[.blk hg (Ab (Ax v hb)) 54,.blk b2 (AN ha) 86,.blk b1 (AN ha) 86,.row hf 118 5 (A2 A7 he)]) rfl)) ?_));refine oq (AG rfl) ?_;exact Cr
     refine AD (Aq (Ac (Au (Ac (Ac (AP ?_))))));have hS:=Bg hQ hy hz;refine Au (Ac (J3 ?_));obtain rfl:=Ao hS;exact Ap (Wn S8 (A5 rfl) (Ev (i:=2) MS Gz rfl rfl rfl) (A5 rfl)) (sS (sS (sS (sS sN)))) ⟨rfl,rfl⟩
    ·refine At (AD (An (Af (wm rfl (wv (DU (ys:=he) (enc:=A7) (i:=3) Im rfl rfl) (wa rfl (Am (ck hR λhT hU=>ck hU λh6 hV=>AE [(0,AJ 4 (A2 Ab v)),(3,rP b1 0),(5,rP b2 0),(6,rv hf),(7,Al hb),(8,rP hg 0),(9,Al (he.length:Int)),(11,AJ 4 (A2 Ab v)),(12,Al (v.length:Int)),(13,Al hb),(33,rB ((decide (0<(he.length:Int)))&&((Ax he ((he.length:Int)-1)).fKey)))] [.blk hg (Ab (Ax v hb)) 54,.blk b2 (AN ha) 86,.blk b1 [Al 0,Al 0,rB false,rB false] 86,.row hf 118 5 (A2 A7 he)] ?_ ?_))))))))
     ·refine Aj (wm rfl (wv (CB rfl rfl) (wm rfl (AH (decide (0<(he.length:Int))) (λhj=>?_) (λhj=>?_)))))
      ·refine wo hj (wm rfl (wo hj (wm rfl (wo hj (wv (Nt rfl rfl (BE hT hj)) (wo hj (wv (r:=rv (EN 5 hf (B0 ((he.length:Int)-1)) 0)) (K8 (i:=3) Im O6 rfl rfl rfl (Cg (BE h6 hj))) (wo hj (wv (r:=rv (EN 5 hf (B0 ((he.length:Int)-1)) 2)) (Ex (k:=3) Il rfl HB rfl (Cg (BE h6 hj)) rfl rfl rfl) (wo hj (wv (r:=rB ((Ax he ((he.length:Int)-1)).fKey)) (I3 (enc:=A7) (ys:=he) (i:=3) (j:=(he.length:Int)-1) Sw rfl rfl (BE h6 hj) rfl) (BR rfl hj rfl (Ai ?_)))))))))))));exact BD hj
      ·refine wf hj (wf hj (wf hj (wf hj (wf hj (wf hj (wv (r:=rB false) (Ak rfl hj rfl) (Ai ?_)))))));exact BD hj
     refine cz hV rfl (λhW hX=>?_) (λhW hY=>?_)
     ·refine Af (wm rfl (wm rfl (ck hX λhZ ga=>wv (Nt rfl rfl hZ) (ck ga λhk gb=>wv (r:=rv (EN 5 hf (B0 ((he.length:Int)-1)) 0)) (K8 (i:=3) Im O6 rfl rfl rfl (Cg hk)) (wa rfl (Am (An (AE [(0,AJ 4 (A2 Ab v)),(3,rP b1 0),(5,rP b2 0),(6,rv hf),(8,rP hg 0),(10,rv (EN 5 hf (B0 ((he.length:Int)-1)) 0)),(11,AJ 4 (A2 Ab v)),(12,Al (v.length:Int)),(13,Al hb),(38,rP hg 0),(39,Al ((Ax v hb).fKind)),(40,rB (!decide (((Ax v hb).fKind)=4))),(41,rB (!decide (((Ax v hb).fKind)=4))),(55,rB ((!decide (((Ax v hb).fKind)=4))||(((Ax he ((he.length:Int)-1)).fStarted)&&(Di ((Ax v hb).fStr) ((Ax he ((he.length:Int)-1)).fLast)||decide (((Ax v hb).fStr)=((Ax he ((he.length:Int)-1)).fLast))))))] [.blk hg (Ab (Ax v hb)) 54,.blk b2 (AN ha) 86,.blk b1 [Al 0,Al 0,rB false,rB false] 86,.row hf 118 5 (A2 A7 he)] ?_ ?_))))))))
      ·refine AH (!decide (((Ax v hb).fKind)=4)) (λhi=>?_) (λhi=>?_)
       ·refine C7 [0,3,5,6,8,10,11,12,13] [⟨[],rP hg 0,0⟩,⟨[0],Al ((Ax v hb).fKind),1⟩,⟨[1],rB (!decide (((Ax v hb).fKind)=4)),0⟩,⟨[2],rB (!decide (((Ax v hb).fKind)=4)),0⟩,⟨[3],rv undef,0⟩,⟨[4,3],rv undef,0⟩,⟨[5,3],rv undef,0⟩,⟨[6,3],rv undef,0⟩,⟨[7,3],rv undef,0⟩,⟨[8],rv undef,0⟩,⟨[9,8],rv undef,0⟩,⟨[8],rv undef,0⟩,⟨[11,8],rv undef,0⟩,⟨[12,8],rv undef,0⟩,⟨[13,8],rv undef,0⟩,⟨[10,14,8],rv undef,0⟩,⟨[8,15,3],rv undef,0⟩,⟨[3,16],rB true,0⟩] [38,39,40,41,42,43,44,45,46,47,48,49,50,51,52,53,54,55,0,3,5,6,8,10,11,12,13] ?_ ?_
        ·refine oq (AI Bm rfl CF rfl rfl) (of (Bp (i:=0) CR rfl rfl rfl) (oq (Bo rfl rfl) (oq (A3 rfl) (oz hi (oz hi (oz hi (oz hi (oz hi (ou (ou (ou (ou (ou (ou (ou (oz hi (oq (Av (b:=!decide (((Ax v hb).fKind)=4)) rfl hi rfl) ?_)))))))))))))))));exact Cr
        exact BD hi
       ·refine AH ((Ax he ((he.length:Int)-1)).fStarted) (λhl=>?_) (λhl=>?_)
        ·refine C7 [0,3,5,6,8,10,11,12,13] [⟨[],rP hg 0,0⟩,⟨[0],Al ((Ax v hb).fKind),1⟩,⟨[1],rB (!decide (((Ax v hb).fKind)=4)),0⟩,⟨[2],rB (!decide (((Ax v hb).fKind)=4)),0⟩,⟨[3],rv (EN 5 hf (B0 ((he.length:Int)-1)) 0),0⟩,⟨[4,3],rv (EN 5 hf (B0 ((he.length:Int)-1)) 0),1⟩,⟨[5,3],rv (EN 5 hf (B0 ((he.length:Int)-1)) 4),1⟩,⟨[6,3],rB ((Ax he ((he.length:Int)-1)).fStarted),1⟩,⟨[7,3],rB ((Ax he ((he.length:Int)-1)).fStarted),0⟩,⟨[8],rP hg 2,0⟩,⟨[9,8],rS ((Ax v hb).fStr),1⟩,⟨[8],rv (EN 5 hf (B0 ((he.length:Int)-1)) 0),0⟩,⟨[11,8],rv (EN 5 hf (B0 ((he.length:Int)-1)) 0),1⟩,⟨[12,8],rv (EN 5 hf (B0 ((he.length:Int)-1)) 3),1⟩,⟨[13,8],rS ((Ax he ((he.length:Int)-1)).fLast),1⟩,⟨[10,14,8],rB (Di ((Ax v hb).fStr) ((Ax he ((he.length:Int)-1)).fLast)||decide (((Ax v hb).fStr)=((Ax he ((he.length:Int)-1)).fLast))),0⟩,⟨[8,15,3],rB (Di ((Ax v hb).fStr) ((Ax he ((he.length:Int)-1)).fLast)||decide (((Ax v hb).fStr)=((Ax he ((he.length:Int)-1)).fLast))),0⟩,⟨[3,16],rB (Di ((Ax v hb).fStr) ((Ax he ((he.length:Int)-1)).fLast)||decide (((Ax v hb).fStr)=((Ax he ((he.length:Int)-1)).fLast))),0⟩] [38,39,40,41,42,43,44,45,46,47,48,49,50,51,52,53,54,55,0,3,5,6,8,10,11,12,13] ?_ ?_
         ·refine oq (AI Bm rfl CF rfl rfl) (of (Bp (i:=0) CR rfl rfl rfl) (oq (Bo rfl rfl) (oq (A3 rfl) (on hi (oq (A3 rfl) (on hi (of (C2 (k:=3) rfl (Cg hk) rfl rfl) (on hi (of (Ex (k:=3) Il rfl HB rfl (Cg hk) rfl rfl rfl) (on hi (of (I3 (enc:=A7) (ys:=he) (i:=3) (j:=(he.length:Int)-1) Sw rfl rfl hk rfl) (on hi (oq (A3 rfl) (on hl (oq (AI Bm rfl C6 rfl rfl) (on hl (of (Bp (i:=0) CG rfl rfl rfl) (on hl (oq (A3 rfl) (on hl (of (C2 (k:=3) rfl (Cg hk) rfl rfl) (on hl (of (Ex (k:=3) Il rfl C6 rfl (Cg hk) rfl rfl rfl) ?_)))))))))))))))))))))));refine on hl (of (I3 (enc:=A7) (ys:=he) (i:=3) (j:=(he.length:Int)-1) CG rfl rfl hk rfl) (on hl (oq (QN rfl rfl) (on hi (oq (Av rfl hl rfl) (oq (Ak rfl hi rfl) ?_))))));exact Cr
         exact BD (And.intro hi hl)
        ·refine C7 [0,3,5,6,8,10,11,12,13] [⟨[],rP hg 0,0⟩,⟨[0],Al ((Ax v hb).fKind),1⟩,⟨[1],rB (!decide (((Ax v hb).fKind)=4)),0⟩,⟨[2],rB (!decide (((Ax v hb).fKind)=4)),0⟩,⟨[3],rv (EN 5 hf (B0 ((he.length:Int)-1)) 0),0⟩,⟨[4,3],rv (EN 5 hf (B0 ((he.length:Int)-1)) 0),1⟩,⟨[5,3],rv (EN 5 hf (B0 ((he.length:Int)-1)) 4),1⟩,⟨[6,3],rB ((Ax he ((he.length:Int)-1)).fStarted),1⟩,⟨[7,3],rB ((Ax he ((he.length:Int)-1)).fStarted),0⟩,⟨[8],rv undef,0⟩,⟨[9,8],rv undef,0⟩,⟨[8],rv undef,0⟩,⟨[11,8],rv undef,0⟩,⟨[12,8],rv undef,0⟩,⟨[13,8],rv undef,0⟩,⟨[10,14,8],rv undef,0⟩,⟨[8,15,3],rB false,0⟩,⟨[3,16],rB false,0⟩] [38,39,40,41,42,43,44,45,46,47,48,49,50,51,52,53,54,55,0,3,5,6,8,10,11,12,13] ?_ ?_
         ·refine oq (AI Bm rfl CF rfl rfl) (of (Bp (i:=0) CR rfl rfl rfl) (oq (Bo rfl rfl) (oq (A3 rfl) (on hi (oq (A3 rfl) (on hi (of (C2 (k:=3) rfl (Cg hk) rfl rfl) (on hi (of (Ex (k:=3) Il rfl HB rfl (Cg hk) rfl rfl rfl) (on hi (of (I3 (enc:=A7) (ys:=he) (i:=3) (j:=(he.length:Int)-1) Sw rfl rfl hk rfl) (on hi (oq (A3 rfl) (oz hl (oz hl (oz hl (oz hl (oz hl (oz hl (oz hl (on hi (oq (Ak (b:=(Ax he ((he.length:Int)-1)).fStarted) rfl hl rfl) (oq (Ak rfl hi rfl) ?_)))))))))))))))))))))));exact Cr
         exact BD (And.intro hi hl)
      refine cz gb rfl (λgc gd=>?_) (λgc ge=>?_)
      ·refine An (EO (H1:=[.blk hg (Ab (Ax v hb)) 54,.blk b2 (AN ha) 86,.blk b1 (AN ha) 86,.row hf 118 5 (A2 A7 he)]) [3,5] [⟨[],Bt (AN ha),1⟩,⟨[],Al 0,0⟩,⟨[0],rv undef,2⟩,⟨[],rB false,0⟩] (rle [(3,_),(2,[.blk hg (Ab (Ax v hb)) 54,.blk b2 (AN ha) 86,.blk b1 (AN ha) 86,.row hf 118 5 (A2 A7 he)])]) [2,4,3] ?_ ?_)
       ·refine of (AB (i:=1) MS Gz rfl rfl rfl rfl) (oq (AG rfl) (Io rfl (MW (Dy (i:=2) Gz rfl rfl rfl (BU.c rfl) rfl rfl (cs':=[Al ha.fDepth,Al ha.fBytes,rB ha.fOutside,rB ha.fLong]) rfl (H':=[.blk hg (Ab (Ax v hb)) 54,.blk b2 (AN ha) 86,.blk b1 (AN ha) 86,.row hf 118 5 (A2 A7 he)]) rfl)) ?_));refine oq (AG rfl) ?_;exact Cr
       refine AD (Aq (Ac (Ac (Au (Ac (Ac (AP ?_)))))));have gf:=Bg gd hy hz;refine Au (Ac (J3 ?_));obtain rfl:=Ao gf;exact Ap (Wn S8 (A5 rfl) (Ev (i:=2) MS Gz rfl rfl rfl) (A5 rfl)) (sS (sS (sS (sS sN)))) ⟨rfl,rfl⟩
      ·refine At (AD (Af (wm rfl (wm rfl (wm rfl (vF Bm rfl C6 (vL 0 CG rfl (wv (r:=rv (EN 5 hf (B0 ((he.length:Int)-1)) 0)) (C2 (k:=3) rfl (Cg hk) rfl rfl) (wv (r:=rv (EN 5 hf (B0 ((he.length:Int)-1)) 3)) (Ex (k:=3) Il rfl C6 rfl (Cg hk) rfl rfl rfl) (Ix (enc:=A7) (ys:=he) (y':=(A9.mk ((Ax he ((he.length:Int)-1)).fPairs) ((Ax he ((he.length:Int)-1)).fLeft) ((Ax he ((he.length:Int)-1)).fKey) ((Ax v hb).fStr) ((Ax he ((he.length:Int)-1)).fStarted))) (i:=3) (j:=(he.length:Int)-1) C6 rfl rfl (BQ rfl) rfl hk rfl rfl (H':=[.blk hg (Ab (Ax v hb)) 54,.blk b2 (AN ha) 86,.blk b1 [Al 0,Al 0,rB false,rB false] 86,.row hf 118 5 (A2 A7 (List.set he (B0 ((he.length:Int)-1)) (A9.mk ((Ax he ((he.length:Int)-1)).fPairs) ((Ax he ((he.length:Int)-1)).fLeft) ((Ax he ((he.length:Int)-1)).fKey) ((Ax v hb).fStr) ((Ax he ((he.length:Int)-1)).fStarted))))]) rfl (bd ge λhs hw gg=>?_)))))))))));rw[← hw];refine wv (r:=rv (EN 5 hf (B0 ((he.length:Int)-1)) 0)) (C2 (k:=3) rfl (Cg (Da hk hw)) rfl rfl) (wv (r:=rv (EN 5 hf (B0 ((he.length:Int)-1)) 4)) (Ex (k:=3) Il rfl HB rfl (Cg (Da hk hw)) rfl rfl rfl) (Ix (enc:=A7) (ys:=hs) (y':=(A9.mk ((Ax hs ((he.length:Int)-1)).fPairs) ((Ax hs ((he.length:Int)-1)).fLeft) ((Ax hs ((he.length:Int)-1)).fKey) ((Ax hs ((he.length:Int)-1)).fLast) true)) (i:=3) (j:=(he.length:Int)-1) HB rfl rfl (BQ rfl) rfl (Da hk hw) rfl rfl (H':=[.blk hg (Ab (Ax v hb)) 54,.blk b2 (AN ha) 86,.blk b1 [Al 0,Al 0,rB false,rB false] 86,.row hf 118 5 (A2 A7 (List.set hs (B0 ((he.length:Int)-1)) (A9.mk ((Ax hs ((he.length:Int)-1)).fPairs) ((Ax hs ((he.length:Int)-1)).fLeft) ((Ax hs ((he.length:Int)-1)).fKey) ((Ax hs ((he.length:Int)-1)).fLast) true)))]) rfl (bd gg λht h2 gh=>?_)));rw[← h2];refine wv (r:=rv (EN 5 hf (B0 ((he.length:Int)-1)) 0)) (C2 (k:=3) rfl (Cg (Da (Da hk hw) h2)) rfl rfl) (wv (r:=rv (EN 5 hf (B0 ((he.length:Int)-1)) 2)) (Ex (k:=3) Il rfl HB rfl (Cg (Da (Da hk hw) h2)) rfl rfl rfl) (Ix (enc:=A7) (ys:=ht) (y':=(A9.mk ((Ax ht ((he.length:Int)-1)).fPairs) ((Ax ht ((he.length:Int)-1)).fLeft) false ((Ax ht ((he.length:Int)-1)).fLast) ((Ax ht ((he.length:Int)-1)).fStarted))) (i:=3) (j:=(he.length:Int)-1) HB rfl rfl (BQ rfl) rfl (Da (Da hk hw) h2) rfl rfl (H':=[.blk hg (Ab (Ax v hb)) 54,.blk b2 (AN ha) 86,.blk b1 [Al 0,Al 0,rB false,rB false] 86,.row hf 118 5 (A2 A7 (List.set ht (B0 ((he.length:Int)-1)) (A9.mk ((Ax ht ((he.length:Int)-1)).fPairs) ((Ax ht ((he.length:Int)-1)).fLeft) false ((Ax ht ((he.length:Int)-1)).fLast) ((Ax ht ((he.length:Int)-1)).fStarted))))]) rfl (bd gh λhu gi gj=>?_)));rw[← gi];refine Am (An (ob gj λhm gl gm=>ck gm λgp gq=>EO (H1:=[.blk hg (Ab (Ax v hb)) 54,.blk b2 [Al ha.fDepth,Al (IntKind.wrap .i64 (ha.fBytes+(hm+1))),rB ha.fOutside,rB ha.fLong] 86,.blk b1 [Al 0,Al 0,rB false,rB false] 86,.row hf 118 5 (A2 A7 hu)]) [0,3,5,6,8,11,12,13,38,39,40,41] [⟨[],rP b2 1,0⟩,⟨[0],Al ha.fBytes,1⟩,⟨[],rP hg 2,0⟩,⟨[2],rS ((Ax v hb).fStr),1⟩,⟨[3],Al hm,0⟩,⟨[4],Al (hm+1),0⟩,⟨[1,5],Al (IntKind.wrap .i64 (ha.fBytes+(hm+1))),0⟩,⟨[],rP b2 1,0⟩,⟨[7,6],rv undef,2⟩] (rle [(9,_),(1,[.blk hg (Ab (Ax v hb)) 54,.blk b2 [Al ha.fDepth,Al (IntKind.wrap .i64 (ha.fBytes+(hm+1))),rB ha.fOutside,rB ha.fLong] 86,.blk b1 [Al 0,Al 0,rB false,rB false] 86,.row hf 118 5 (A2 A7 hu)])]) [68,69,70,71,72,73,74,75,0,3,5,6,8,11,12,13,38,39,40,41] ?_ ?_))
       ·refine oq (AI GW rfl B3 rfl rfl) (of (Bp (i:=1) BG rfl rfl rfl) (oq (AI Bm rfl C6 rfl rfl) (of (Bp (i:=0) CG rfl rfl rfl) (CJ rfl (λH=>Dj Tryz.call102 (Nh ((Ax v hb).fStr) hm gl) rfl) ?_))));refine oq (Be rfl rfl gp) (oq (Ql rfl rfl) (oq (AI GW rfl B3 rfl rfl) (Io rfl (MW (Jc (i:=1) B3 rfl rfl (BQ rfl) rfl rfl (cs':=[Al ha.fDepth,Al (IntKind.wrap .i64 (ha.fBytes+(hm+1))),rB ha.fOutside,rB ha.fLong]) rfl (H':=[.blk hg (Ab (Ax v hb)) 54,.blk b2 [Al ha.fDepth,Al (IntKind.wrap .i64 (ha.fBytes+(hm+1))),rB ha.fOutside,rB ha.fLong] 86,.blk b1 [Al 0,Al 0,rB false,rB false] 86,.row hf 118 5 (A2 A7 hu)]) rfl)) ?_)));exact Cr
       refine AD (AE [(0,AJ 4 (A2 Ab v)),(3,rP b1 0),(5,rP b2 0),(6,rv hf),(11,AJ 4 (A2 Ab v)),(12,Al (v.length:Int)),(13,Al hb),(38,rP hg 0),(39,Al ((Ax v hb).fKind)),(40,rB (!decide (((Ax v hb).fKind)=4))),(41,rB (!decide (((Ax v hb).fKind)=4))),(68,rP b2 1),(69,Al ha.fBytes),(70,rP hg 2),(71,rS ((Ax v hb).fStr)),(72,Al hm),(73,Al (hm+1)),(74,Al (IntKind.wrap .i64 (ha.fBytes+(hm+1)))),(75,rP b2 1)] [.blk hg (Ab (Ax v hb)) 54,.blk b2 [Al ha.fDepth,Al (IntKind.wrap .i64 (ha.fBytes+(hm+1))),rB ha.fOutside,rB (ha.fLong||(decide (200<(((Ax v hb).fStr).length:Int))))] 86,.blk b1 [Al 0,Al 0,rB false,rB false] 86,.row hf 118 5 (A2 A7 hu)] ?_ ?_)
       ·refine Aj (vF GW rfl HB (vL 1 Sw rfl (wm rfl (AH (ha.fLong) (λhp=>?_) (λhp=>?_)))))
        ·refine wf hp (wf hp (wf hp (wf hp (wv (r:=rB true) (Av rfl hp rfl) (vF GW rfl HB (BF (i:=1) HB rfl rfl (BQ rfl) rfl rfl (cs':=[Al ha.fDepth,Al (IntKind.wrap .i64 (ha.fBytes+(hm+1))),rB ha.fOutside,rB true]) rfl (H':=[.blk hg (Ab (Ax v hb)) 54,.blk b2 [Al ha.fDepth,Al (IntKind.wrap .i64 (ha.fBytes+(hm+1))),rB ha.fOutside,rB true] 86,.blk b1 [Al 0,Al 0,rB false,rB false] 86,.row hf 118 5 (A2 A7 hu)]) rfl (Ai (HE (H':=[.blk hg (Ab (Ax v hb)) 54,.blk b2 [Al ha.fDepth,Al (IntKind.wrap .i64 (ha.fBytes+(hm+1))),rB ha.fOutside,rB (ha.fLong||(decide (200<(((Ax v hb).fStr).length:Int))))] 86,.blk b1 [Al 0,Al 0,rB false,rB false] 86,.row hf 118 5 (A2 A7 hu)]) (by simp only[hp,XB,XK,XP,XF,XS,XL,XQ,XR,XC,XJ,X8,X2]) ?_))))))));exact wt
        ·refine wo hp (vF Bm rfl C6 (wo hp (vL 0 CG rfl (wo hp (wv (BP D4 rfl) (wo hp (wv (CB rfl rfl) (Cc rfl hp rfl (vF GW rfl HB (BF (i:=1) HB rfl rfl (BQ rfl) rfl rfl (cs':=[Al ha.fDepth,Al (IntKind.wrap .i64 (ha.fBytes+(hm+1))),rB ha.fOutside,rB (decide (200<(((Ax v hb).fStr).length:Int)))]) rfl (H':=[.blk hg (Ab (Ax v hb)) 54,.blk b2 [Al ha.fDepth,Al (IntKind.wrap .i64 (ha.fBytes+(hm+1))),rB ha.fOutside,rB (decide (200<(((Ax v hb).fStr).length:Int)))] 86,.blk b1 [Al 0,Al 0,rB false,rB false] 86,.row hf 118 5 (A2 A7 hu)]) rfl (Ai (HE (H':=[.blk hg (Ab (Ax v hb)) 54,.blk b2 [Al ha.fDepth,Al (IntKind.wrap .i64 (ha.fBytes+(hm+1))),rB ha.fOutside,rB (ha.fLong||(decide (200<(((Ax v hb).fStr).length:Int))))] 86,.blk b1 [Al 0,Al 0,rB false,rB false] 86,.row hf 118 5 (A2 A7 hu)]) (by simp only[hp,XB,XK,XP,XF,XS,XL,XQ,XR,XC,XJ,X8,X2]) ?_))))))))))));exact wt
       exact Bl (Ay (AV (As (Ar ((hu,(AL.mk ha.fDepth (IntKind.wrap .i64 (ha.fBytes+(hm+1))) ha.fOutside (ha.fLong||(decide (200<(((Ax v hb).fStr).length:Int)))))),hf) gq (Az.c rfl (Az.c rfl (Az.c5 rfl rfl rfl rfl rfl Az.nil))) (sS (sC (sC (sC sN))))))))
     ·refine At (AD (Af (vF GW rfl B3 (vL 1 BG rfl (wm rfl (wv (DU (ys:=he) (enc:=A7) (i:=3) Im rfl rfl) (ck hY λgr gs=>wv (Be rfl rfl gr) (wv (Tm Xa rfl rfl) (vF GW rfl B3 (BF (i:=1) B3 rfl rfl (BQ rfl) rfl rfl (cs':=[Al (max ha.fDepth ((he.length:Int)+1)),Al ha.fBytes,rB ha.fOutside,rB ha.fLong]) rfl (H':=[.blk hg (Ab (Ax v hb)) 54,.blk b2 [Al (max ha.fDepth ((he.length:Int)+1)),Al ha.fBytes,rB ha.fOutside,rB ha.fLong] 86,.blk b1 [Al 0,Al 0,rB false,rB false] 86,.row hf 118 5 (A2 A7 he)]) rfl (Am (An (ob gs λhh gt gu=>EO (H1:=[.blk hg (Ab (Ax v hb)) 54,.blk b2 [Al (max ha.fDepth ((he.length:Int)+1)),Al (IntKind.wrap .i64 (ha.fBytes+hh)),rB ha.fOutside,rB ha.fLong] 86,.blk b1 [Al 0,Al 0,rB false,rB false] 86,.row hf 118 5 (A2 A7 he)]) [0,3,5,6,7,8,11,12,13] [⟨[],rP b2 1,0⟩,⟨[0],Al ha.fBytes,1⟩,⟨[],Bt (Ab (Ax v hb)),1⟩,⟨[2],Al hh,0⟩,⟨[1,3],Al (IntKind.wrap .i64 (ha.fBytes+hh)),0⟩,⟨[],rP b2 1,0⟩,⟨[5,4],rv undef,2⟩] (rle [(7,_),(1,[.blk hg (Ab (Ax v hb)) 54,.blk b2 [Al (max ha.fDepth ((he.length:Int)+1)),Al (IntKind.wrap .i64 (ha.fBytes+hh)),rB ha.fOutside,rB ha.fLong] 86,.blk b1 [Al 0,Al 0,rB false,rB false] 86,.row hf 118 5 (A2 A7 he)])]) [92,93,94,95,96,97,0,3,5,6,7,8,11,12,13] ?_ ?_)))))))))))))
      ·refine oq (AI GW rfl B3 rfl rfl) (of (Bp (i:=1) BG rfl rfl rfl) (of (AB (i:=0) Jn BC rfl rfl rfl rfl) (CJ rfl (λH=>Dj Tryz.call103 (Ug (Ax v hb) hh gt) rfl) ?_)));refine oq (Ql rfl rfl) (oq (AI GW rfl B3 rfl rfl) (Io rfl (MW (Jc (i:=1) B3 rfl rfl (BQ rfl) rfl rfl (cs':=[Al (max ha.fDepth ((he.length:Int)+1)),Al (IntKind.wrap .i64 (ha.fBytes+hh)),rB ha.fOutside,rB ha.fLong]) rfl (H':=[.blk hg (Ab (Ax v hb)) 54,.blk b2 [Al (max ha.fDepth ((he.length:Int)+1)),Al (IntKind.wrap .i64 (ha.fBytes+hh)),rB ha.fOutside,rB ha.fLong] 86,.blk b1 [Al 0,Al 0,rB false,rB false] 86,.row hf 118 5 (A2 A7 he)]) rfl)) ?_));exact Cr
      refine AD (ck gu λgv gw=>AE [(0,AJ 4 (A2 Ab v)),(3,rP b1 0),(5,rP b2 0),(6,rv hf),(7,Al hb),(8,rP hg 0),(11,AJ 4 (A2 Ab v)),(12,Al (v.length:Int)),(13,Al hb),(92,rP b2 1),(93,Al ha.fBytes),(94,Bt (Ab (Ax v hb))),(95,Al hh),(96,Al (IntKind.wrap .i64 (ha.fBytes+hh))),(97,rP b2 1)] [.blk hg (Ab (Ax v hb)) 54,.blk b2 [Al (max ha.fDepth ((he.length:Int)+1)),Al (IntKind.wrap .i64 (ha.fBytes+hh)),rB (ha.fOutside||((decide (((Ax v hb).fKind)=3))&&(!(ov (By ((Ax v hb).fInt)))))),rB ha.fLong] 86,.blk b1 [Al 0,Al 0,rB false,rB false] 86,.row hf 118 5 (A2 A7 he)] ?_ ?_)
      ·refine Aj (vF GW rfl HB (vL 1 Sw rfl (wm rfl (AH (ha.fOutside) (λhn=>?_) (λhn=>?_)))))
       ·refine wf hn (wf hn (wf hn (wf hn (wu (wu (wu (wu (wf hn (wv (r:=rB true) (Av rfl hn rfl) (vF GW rfl HB (BF (i:=1) HB rfl rfl (BQ rfl) rfl rfl (cs':=[Al (max ha.fDepth ((he.length:Int)+1)),Al (IntKind.wrap .i64 (ha.fBytes+hh)),rB true,rB ha.fLong]) rfl (H':=[.blk hg (Ab (Ax v hb)) 54,.blk b2 [Al (max ha.fDepth ((he.length:Int)+1)),Al (IntKind.wrap .i64 (ha.fBytes+hh)),rB true,rB ha.fLong] 86,.blk b1 [Al 0,Al 0,rB false,rB false] 86,.row hf 118 5 (A2 A7 he)]) rfl (Ai (HE (H':=[.blk hg (Ab (Ax v hb)) 54,.blk b2 [Al (max ha.fDepth ((he.length:Int)+1)),Al (IntKind.wrap .i64 (ha.fBytes+hh)),rB (ha.fOutside||((decide (((Ax v hb).fKind)=3))&&(!(ov (By ((Ax v hb).fInt)))))),rB ha.fLong] 86,.blk b1 [Al 0,Al 0,rB false,rB false] 86,.row hf 118 5 (A2 A7 he)]) (by simp only[hn,XB,XK,XP,XF,XS,XL,XQ,XR,XC,XJ,X8,X2]) ?_)))))))))))));exact wt
       ·refine wo hn (vF Bm rfl CF (wo hn (vL 0 CR rfl (wo hn (wv (AX rfl rfl) (wo hn (wm rfl (AH (decide (((Ax v hb).fKind)=3)) (λho=>?_) (λho=>?_)))))))))
        ·refine wo ho (vF Bm rfl B3 (wo ho (vL 0 BG rfl (wo ho (BL Tryz.call31 (Mn ((Ax v hb).fInt) (ov (By ((Ax v hb).fInt))) (Cz (BE (BO gv hn) ho))) rfl (wo ho (wv (Bu rfl) (wo hn (BR rfl ho rfl (Cc rfl hn rfl (vF GW rfl HB (BF (i:=1) HB rfl rfl (BQ rfl) rfl rfl (cs':=[Al (max ha.fDepth ((he.length:Int)+1)),Al (IntKind.wrap .i64 (ha.fBytes+hh)),rB (!(ov (By ((Ax v hb).fInt)))),rB ha.fLong]) rfl (H':=[.blk hg (Ab (Ax v hb)) 54,.blk b2 [Al (max ha.fDepth ((he.length:Int)+1)),Al (IntKind.wrap .i64 (ha.fBytes+hh)),rB (!(ov (By ((Ax v hb).fInt)))),rB ha.fLong] 86,.blk b1 [Al 0,Al 0,rB false,rB false] 86,.row hf 118 5 (A2 A7 he)]) rfl (Ai (HE (H':=[.blk hg (Ab (Ax v hb)) 54,.blk b2 [Al (max ha.fDepth ((he.length:Int)+1)),Al (IntKind.wrap .i64 (ha.fBytes+hh)),rB (ha.fOutside||((decide (((Ax v hb).fKind)=3))&&(!(ov (By ((Ax v hb).fInt)))))),rB ha.fLong] 86,.blk b1 [Al 0,Al 0,rB false,rB false] 86,.row hf 118 5 (A2 A7 he)]) (by simp only[hn,ho,XB,XK,XP,XF,XS,XL,XQ,XR,XC,XJ,X8,X2]) ?_))))))))))))));exact wt
        ·refine wf ho (wf ho (wf ho (wf ho (wo hn (wv (r:=rB false) (Ak rfl ho rfl) (Cc rfl hn rfl (vF GW rfl HB (BF (i:=1) HB rfl rfl (BQ rfl) rfl rfl (cs':=[Al (max ha.fDepth ((he.length:Int)+1)),Al (IntKind.wrap .i64 (ha.fBytes+hh)),rB false,rB ha.fLong]) rfl (H':=[.blk hg (Ab (Ax v hb)) 54,.blk b2 [Al (max ha.fDepth ((he.length:Int)+1)),Al (IntKind.wrap .i64 (ha.fBytes+hh)),rB false,rB ha.fLong] 86,.blk b1 [Al 0,Al 0,rB false,rB false] 86,.row hf 118 5 (A2 A7 he)]) rfl (Ai (HE (H':=[.blk hg (Ab (Ax v hb)) 54,.blk b2 [Al (max ha.fDepth ((he.length:Int)+1)),Al (IntKind.wrap .i64 (ha.fBytes+hh)),rB (ha.fOutside||((decide (((Ax v hb).fKind)=3))&&(!(ov (By ((Ax v hb).fInt)))))),rB ha.fLong] 86,.blk b1 [Al 0,Al 0,rB false,rB false] 86,.row hf 118 5 (A2 A7 he)]) (by simp only[hn,ho,XB,XK,XP,XF,XS,XL,XQ,XR,XC,XJ,X8,X2]) ?_))))))))));exact wt
      refine AE [(0,AJ 4 (A2 Ab v)),(3,rP b1 0),(5,rP b2 0),(6,rv hf),(7,Al hb),(8,rP hg 0),(11,AJ 4 (A2 Ab v)),(12,Al (v.length:Int)),(13,Al hb),(92,rP b2 1),(93,Al ha.fBytes),(94,Bt (Ab (Ax v hb))),(95,Al hh),(96,Al (IntKind.wrap .i64 (ha.fBytes+hh))),(97,rP b2 1)] [.blk hg (Ab (Ax v hb)) 54,.blk b2 [Al (max ha.fDepth ((he.length:Int)+1)),Al (IntKind.wrap .i64 (ha.fBytes+hh)),rB (ha.fOutside||((decide (((Ax v hb).fKind)=3))&&(!(ov (By ((Ax v hb).fInt)))))),rB (ha.fLong||(decide (200<(((Ax v hb).fStr).length:Int))))] 86,.blk b1 [Al 0,Al 0,rB false,rB false] 86,.row hf 118 5 (A2 A7 he)] ?_ ?_
      ·refine Aj (vF GW rfl HB (vL 1 Sw rfl (wm rfl (AH (ha.fLong) (λhq=>?_) (λhq=>?_)))))
       ·refine wf hq (wf hq (wf hq (wf hq (wv (r:=rB true) (Av rfl hq rfl) (vF GW rfl HB (BF (i:=1) HB rfl rfl (BQ rfl) rfl rfl (cs':=[Al (max ha.fDepth ((he.length:Int)+1)),Al (IntKind.wrap .i64 (ha.fBytes+hh)),rB (ha.fOutside||((decide (((Ax v hb).fKind)=3))&&(!(ov (By ((Ax v hb).fInt)))))),rB true]) rfl (H':=[.blk hg (Ab (Ax v hb)) 54,.blk b2 [Al (max ha.fDepth ((he.length:Int)+1)),Al (IntKind.wrap .i64 (ha.fBytes+hh)),rB (ha.fOutside||((decide (((Ax v hb).fKind)=3))&&(!(ov (By ((Ax v hb).fInt)))))),rB true] 86,.blk b1 [Al 0,Al 0,rB false,rB false] 86,.row hf 118 5 (A2 A7 he)]) rfl (Ai (HE (H':=[.blk hg (Ab (Ax v hb)) 54,.blk b2 [Al (max ha.fDepth ((he.length:Int)+1)),Al (IntKind.wrap .i64 (ha.fBytes+hh)),rB (ha.fOutside||((decide (((Ax v hb).fKind)=3))&&(!(ov (By ((Ax v hb).fInt)))))),rB (ha.fLong||(decide (200<(((Ax v hb).fStr).length:Int))))] 86,.blk b1 [Al 0,Al 0,rB false,rB false] 86,.row hf 118 5 (A2 A7 he)]) (by simp only[hq,XB,XK,XP,XF,XS,XL,XQ,XR,XC,XJ,X8,X2]) ?_))))))));exact wt
       ·refine wo hq (vF Bm rfl C6 (wo hq (vL 0 CG rfl (wo hq (wv (BP D4 rfl) (wo hq (wv (CB rfl rfl) (Cc rfl hq rfl (vF GW rfl HB (BF (i:=1) HB rfl rfl (BQ rfl) rfl rfl (cs':=[Al (max ha.fDepth ((he.length:Int)+1)),Al (IntKind.wrap .i64 (ha.fBytes+hh)),rB (ha.fOutside||((decide (((Ax v hb).fKind)=3))&&(!(ov (By ((Ax v hb).fInt)))))),rB (decide (200<(((Ax v hb).fStr).length:Int)))]) rfl (H':=[.blk hg (Ab (Ax v hb)) 54,.blk b2 [Al (max ha.fDepth ((he.length:Int)+1)),Al (IntKind.wrap .i64 (ha.fBytes+hh)),rB (ha.fOutside||((decide (((Ax v hb).fKind)=3))&&(!(ov (By ((Ax v hb).fInt)))))),rB (decide (200<(((Ax v hb).fStr).length:Int)))] 86,.blk b1 [Al 0,Al 0,rB false,rB false] 86,.row hf 118 5 (A2 A7 he)]) rfl (Ai (HE (H':=[.blk hg (Ab (Ax v hb)) 54,.blk b2 [Al (max ha.fDepth ((he.length:Int)+1)),Al (IntKind.wrap .i64 (ha.fBytes+hh)),rB (ha.fOutside||((decide (((Ax v hb).fKind)=3))&&(!(ov (By ((Ax v hb).fInt)))))),rB (ha.fLong||(decide (200<(((Ax v hb).fStr).length:Int))))] 86,.blk b1 [Al 0,Al 0,rB false,rB false] 86,.row hf 118 5 (A2 A7 he)]) (by simp only[hq,XB,XK,XP,XF,XS,XL,XQ,XR,XC,XJ,X8,X2]) ?_))))))))))));exact wt
      refine An (Af (vF Bm rfl B3 (vL 0 BG rfl (wv (CB rfl rfl) (Am (cz gw rfl (λgx gy=>?_) (λgx gz=>?_)))))))
      ·refine An (Af (vF Bm rfl B3 (vL 0 BG rfl (wm rfl (wv (AK (ys:=v) (enc:=Ab) Bv rfl) (wv (CB rfl rfl) (Am (cz gy rfl (λg0 g1=>?_) (λg0 g2=>?_)))))))))
       ·refine An (EO (H1:=[.blk hg (Ab (Ax v hb)) 54,.blk b2 [Al (max ha.fDepth ((he.length:Int)+1)),Al (IntKind.wrap .i64 (ha.fBytes+hh)),rB (ha.fOutside||((decide (((Ax v hb).fKind)=3))&&(!(ov (By ((Ax v hb).fInt)))))),rB (ha.fLong||(decide (200<(((Ax v hb).fStr).length:Int))))] 86,.blk b1 [Al (max ha.fDepth ((he.length:Int)+1)),Al (IntKind.wrap .i64 (ha.fBytes+hh)),rB (ha.fOutside||((decide (((Ax v hb).fKind)=3))&&(!(ov (By ((Ax v hb).fInt)))))),rB (ha.fLong||(decide (200<(((Ax v hb).fStr).length:Int))))] 86,.row hf 118 5 (A2 A7 he)]) [3,5] [⟨[],Bt [Al (max ha.fDepth ((he.length:Int)+1)),Al (IntKind.wrap .i64 (ha.fBytes+hh)),rB (ha.fOutside||((decide (((Ax v hb).fKind)=3))&&(!(ov (By ((Ax v hb).fInt)))))),rB (ha.fLong||(decide (200<(((Ax v hb).fStr).length:Int))))],1⟩,⟨[],Al 0,0⟩,⟨[0],rv undef,2⟩,⟨[],rB false,0⟩] (rle [(3,_),(2,[.blk hg (Ab (Ax v hb)) 54,.blk b2 [Al (max ha.fDepth ((he.length:Int)+1)),Al (IntKind.wrap .i64 (ha.fBytes+hh)),rB (ha.fOutside||((decide (((Ax v hb).fKind)=3))&&(!(ov (By ((Ax v hb).fInt)))))),rB (ha.fLong||(decide (200<(((Ax v hb).fStr).length:Int))))] 86,.blk b1 [Al (max ha.fDepth ((he.length:Int)+1)),Al (IntKind.wrap .i64 (ha.fBytes+hh)),rB (ha.fOutside||((decide (((Ax v hb).fKind)=3))&&(!(ov (By ((Ax v hb).fInt)))))),rB (ha.fLong||(decide (200<(((Ax v hb).fStr).length:Int))))] 86,.row hf 118 5 (A2 A7 he)])]) [2,4,3] ?_ ?_)
        ·refine of (AB (i:=1) MS Gz rfl rfl rfl rfl) (oq (AG rfl) (Io rfl (MW (Dy (i:=2) Gz rfl rfl rfl (BU.c rfl) rfl rfl (cs':=[Al (max ha.fDepth ((he.length:Int)+1)),Al (IntKind.wrap .i64 (ha.fBytes+hh)),rB (ha.fOutside||((decide (((Ax v hb).fKind)=3))&&(!(ov (By ((Ax v hb).fInt)))))),rB (ha.fLong||(decide (200<(((Ax v hb).fStr).length:Int))))]) rfl (H':=[.blk hg (Ab (Ax v hb)) 54,.blk b2 [Al (max ha.fDepth ((he.length:Int)+1)),Al (IntKind.wrap .i64 (ha.fBytes+hh)),rB (ha.fOutside||((decide (((Ax v hb).fKind)=3))&&(!(ov (By ((Ax v hb).fInt)))))),rB (ha.fLong||(decide (200<(((Ax v hb).fStr).length:Int))))] 86,.blk b1 [Al (max ha.fDepth ((he.length:Int)+1)),Al (IntKind.wrap .i64 (ha.fBytes+hh)),rB (ha.fOutside||((decide (((Ax v hb).fKind)=3))&&(!(ov (By ((Ax v hb).fInt)))))),rB (ha.fLong||(decide (200<(((Ax v hb).fStr).length:Int))))] 86,.row hf 118 5 (A2 A7 he)]) rfl)) ?_));refine oq (AG rfl) ?_;exact Cr
        refine AD (Aq (Ac (Ac (Au (Ac (Ac (AP ?_)))))));have g3:=Bg g1 hy hz;refine Au (Ac (J3 ?_));obtain rfl:=Ao g3;exact Ap (Wn S8 (A5 rfl) (Ev (i:=2) MS Gz rfl rfl rfl) (A5 rfl)) (sS (sS (sS (sS sN)))) ⟨rfl,rfl⟩
       ·refine At (AD (Af (wm rfl (vF Bm rfl CF (vL 0 CR rfl (wv (AX rfl rfl) (vF Bm rfl B3 (vL 0 BG rfl (vF Bm rfl CF (vL 0 CR rfl (wv (AX rfl rfl) (wv (r:=Bt [rB (decide (((Ax v hb).fKind)=6)),Al ((Ax v hb).fN),rB (decide (((Ax v hb).fKind)=6)),rS ([]:Aw),rB false]) (K9 rfl rfl rfl rfl rfl rfl) (AZ (ys:=([(A9.mk (decide (((Ax v hb).fKind)=6)) ((Ax v hb).fN) (decide (((Ax v hb).fKind)=6)) ([]:Aw) false)]:List A9)) (enc:=A7) (css:=[[rB (decide (((Ax v hb).fKind)=6)),Al ((Ax v hb).fN),rB (decide (((Ax v hb).fKind)=6)),rS ([]:Aw),rB false]]) (xs:=[.tmp 139]) Im O6 Tryz.zeroValue118 rfl rfl rfl ⟨EA.agg ⟨Up.refl _,Up.refl _,Up.refl _,Up.refl _,Up.refl _,trivial⟩,trivial⟩ rfl Iq rfl rfl rfl (λg4=>?_))))))))))))));refine ck g2 λg5 g6=>Exists.elim UG λinf hinf=>C1 (xs:=he) (ys:=([(A9.mk (decide (((Ax v hb).fKind)=6)) ((Ax v hb).fN) (decide (((Ax v hb).fKind)=6)) ([]:Aw) false)]:List A9)) (enc:=A7) (i:=4) Im hinf.1 hinf.2.1 hinf.2.2.1 hinf.2.2.2 rfl rfl rfl rfl rfl (Lz.w (i:=0) rfl rfl) Iq Lw g5 rfl (λhA=>?_);exact wa rfl (Am (Bl (Ay (AV (CA (H2:=[.blk b2 [Al (max ha.fDepth ((he.length:Int)+1)),Al (IntKind.wrap .i64 (ha.fBytes+hh)),rB (ha.fOutside||((decide (((Ax v hb).fKind)=3))&&(!(ov (By ((Ax v hb).fInt)))))),rB (ha.fLong||(decide (200<(((Ax v hb).fStr).length:Int))))] 86,.blk b1 [Al 0,Al 0,rB false,rB false] 86,.row hA 118 5 (A2 A7 (he++([(A9.mk (decide (((Ax v hb).fKind)=6)) ((Ax v hb).fN) (decide (((Ax v hb).fKind)=6)) ([]:Aw) false)]:List A9))),.row (.slice (some ⟨g4,0,none⟩) 1 1) 118 5 (A2 A7 ([(A9.mk (decide (((Ax v hb).fKind)=6)) ((Ax v hb).fN) (decide (((Ax v hb).fKind)=6)) ([]:Aw) false)]:List A9)),.blk hg (Ab (Ax v hb)) 54]) ((A1 (i:=3) rfl).trans (Xx _ ((A1 (i:=3) rfl).trans (Xx _ (Xv _))))) (As (Ar ((he++([(A9.mk (decide (((Ax v hb).fKind)=6)) ((Ax v hb).fN) (decide (((Ax v hb).fKind)=6)) ([]:Aw) false)]:List A9),(AL.mk (max ha.fDepth ((he.length:Int)+1)) (IntKind.wrap .i64 (ha.fBytes+hh)) (ha.fOutside||((decide (((Ax v hb).fKind)=3))&&(!(ov (By ((Ax v hb).fInt)))))) (ha.fLong||(decide (200<(((Ax v hb).fStr).length:Int)))))),hA) g6 (Az.c rfl (Az.c rfl (Az.c5 rfl rfl rfl rfl rfl Az.nil))) (sC (sC (sC (sS (sS sN))))))))))))
      ·refine At (AD (Af (wm rfl (ob gz λhx g7 g8=>DP (Hr:=[.blk hg (Ab (Ax v hb)) 54,.blk b2 [Al (max ha.fDepth ((he.length:Int)+1)),Al (IntKind.wrap .i64 (ha.fBytes+hh)),rB (ha.fOutside||((decide (((Ax v hb).fKind)=3))&&(!(ov (By ((Ax v hb).fInt)))))),rB (ha.fLong||(decide (200<(((Ax v hb).fStr).length:Int))))] 86,.blk b1 [Al 0,Al 0,rB false,rB false] 86]) Tryz.call104 (R4 F hf he hx g7) rfl ((A1 (i:=3) rfl).trans (Xx _ (Xv _))) rfl ?_))));rintro _ _ ⟨h0,rfl,rfl⟩;refine wa rfl (Bb (wm rfl (wv (DU (ys:=hx) (enc:=A7) (i:=0) Im rfl rfl) (wv (AX rfl rfl) (Am (cz g8 rfl (λg9 gA=>?_) (λg9 gB=>?_)))))))
       ·refine An (ck gA λgC gD=>EO (H1:=[.row h0 118 5 (A2 A7 hx),.blk hg (Ab (Ax v hb)) 54,.blk b2 [Al (max ha.fDepth ((he.length:Int)+1)),Al (IntKind.wrap .i64 (ha.fBytes+hh)),rB (ha.fOutside||((decide (((Ax v hb).fKind)=3))&&(!(ov (By ((Ax v hb).fInt)))))),rB (ha.fLong||(decide (200<(((Ax v hb).fStr).length:Int))))] 86,.blk b1 [Al (max ha.fDepth ((he.length:Int)+1)),Al (IntKind.wrap .i64 (ha.fBytes+hh)),rB (ha.fOutside||((decide (((Ax v hb).fKind)=3))&&(!(ov (By ((Ax v hb).fInt)))))),rB (ha.fLong||(decide (200<(((Ax v hb).fStr).length:Int))))] 86]) [3,5,7] [⟨[],Al hb,0⟩,⟨[0],Al (hb+1),0⟩,⟨[],Bt [Al (max ha.fDepth ((he.length:Int)+1)),Al (IntKind.wrap .i64 (ha.fBytes+hh)),rB (ha.fOutside||((decide (((Ax v hb).fKind)=3))&&(!(ov (By ((Ax v hb).fInt)))))),rB (ha.fLong||(decide (200<(((Ax v hb).fStr).length:Int))))],1⟩,⟨[1],Al (hb+1),0⟩,⟨[2],rv undef,2⟩,⟨[],rB true,0⟩] (rle [(5,_),(2,[.row h0 118 5 (A2 A7 hx),.blk hg (Ab (Ax v hb)) 54,.blk b2 [Al (max ha.fDepth ((he.length:Int)+1)),Al (IntKind.wrap .i64 (ha.fBytes+hh)),rB (ha.fOutside||((decide (((Ax v hb).fKind)=3))&&(!(ov (By ((Ax v hb).fInt)))))),rB (ha.fLong||(decide (200<(((Ax v hb).fStr).length:Int))))] 86,.blk b1 [Al (max ha.fDepth ((he.length:Int)+1)),Al (IntKind.wrap .i64 (ha.fBytes+hh)),rB (ha.fOutside||((decide (((Ax v hb).fKind)=3))&&(!(ov (By ((Ax v hb).fInt)))))),rB (ha.fLong||(decide (200<(((Ax v hb).fStr).length:Int))))] 86])]) [2,4,3] ?_ ?_)
        ·refine oq (A3 rfl) (oq (Be rfl rfl gC) (of (AB (i:=2) MS Gz rfl rfl rfl rfl) (oq (AG rfl) (Io rfl (MW (Dy (i:=3) Gz rfl rfl rfl (BU.c rfl) rfl rfl (cs':=[Al (max ha.fDepth ((he.length:Int)+1)),Al (IntKind.wrap .i64 (ha.fBytes+hh)),rB (ha.fOutside||((decide (((Ax v hb).fKind)=3))&&(!(ov (By ((Ax v hb).fInt)))))),rB (ha.fLong||(decide (200<(((Ax v hb).fStr).length:Int))))]) rfl (H':=[.row h0 118 5 (A2 A7 hx),.blk hg (Ab (Ax v hb)) 54,.blk b2 [Al (max ha.fDepth ((he.length:Int)+1)),Al (IntKind.wrap .i64 (ha.fBytes+hh)),rB (ha.fOutside||((decide (((Ax v hb).fKind)=3))&&(!(ov (By ((Ax v hb).fInt)))))),rB (ha.fLong||(decide (200<(((Ax v hb).fStr).length:Int))))] 86,.blk b1 [Al (max ha.fDepth ((he.length:Int)+1)),Al (IntKind.wrap .i64 (ha.fBytes+hh)),rB (ha.fOutside||((decide (((Ax v hb).fKind)=3))&&(!(ov (By ((Ax v hb).fInt)))))),rB (ha.fLong||(decide (200<(((Ax v hb).fStr).length:Int))))] 86]) rfl)) ?_))));refine oq (AG rfl) ?_;exact Cr
        refine AD (Aq (Au (Ac (Ac (AP ?_)))));have gE:=Bg gD hy hz;refine Au (Ac (J3 ?_));obtain rfl:=Ao gE;exact Ap (Wn S8 (A5 rfl) (Ev (i:=3) MS Gz rfl rfl rfl) (A5 rfl)) (sS (sS (sS (sS sN)))) ⟨rfl,rfl⟩
       ·exact At (A4 (CA (H2:=[.blk b2 [Al (max ha.fDepth ((he.length:Int)+1)),Al (IntKind.wrap .i64 (ha.fBytes+hh)),rB (ha.fOutside||((decide (((Ax v hb).fKind)=3))&&(!(ov (By ((Ax v hb).fInt)))))),rB (ha.fLong||(decide (200<(((Ax v hb).fStr).length:Int))))] 86,.blk b1 [Al 0,Al 0,rB false,rB false] 86,.row h0 118 5 (A2 A7 hx),.blk hg (Ab (Ax v hb)) 54]) ((A1 (i:=2) rfl).trans (Xx _ ((A1 (i:=2) rfl).trans (Xx _ (Xv _))))) (As (Ar ((hx,(AL.mk (max ha.fDepth ((he.length:Int)+1)) (IntKind.wrap .i64 (ha.fBytes+hh)) (ha.fOutside||((decide (((Ax v hb).fKind)=3))&&(!(ov (By ((Ax v hb).fInt)))))) (ha.fLong||(decide (200<(((Ax v hb).fStr).length:Int)))))),h0) gB (Az.c rfl (Az.c rfl (Az.c5 rfl rfl rfl rfl rfl Az.nil))) (sC (sC (sC (sS sN))))))))
   ·rintro⟨⟨h7,h8⟩,h9⟩ h3;refine B7 (l':=[(0,AJ 4 (A2 Ab v)),(3,rP b1 0),(5,rP b2 0),(6,rv h9),(11,AJ 4 (A2 Ab v)),(12,Al (v.length:Int)),(13,Al hb)]) (H':=[.blk b2 (AN h8) 86,.blk b1 [Al 0,Al 0,rB false,rB false] 86,.row h9 118 5 (A2 A7 h7)]) rfl rfl ?_;replace h3:DQ hb h7 h8=some h5:=h3;unfold DQ at h3;refine Aj (ck h3 λgF gG=>wv (Be rfl rfl gF) (wm rfl (Ai ?_)));have gH:=AW gG hy;exact As (Ar (hE,(h7,hb+1,h8),h9) ⟨gH,X0 _⟩ (Az.c rfl (Az.c rfl (Az.c5 rfl rfl rfl rfl rfl Az.nil))) (sC (sC (sC sN))))
  ·refine Bl (Ay ?_);have gI:=BB hI hy hz;exact Ay (AS (Ar (ha,()) gI (Az.c rfl (Az.c rfl Az.nil)) (sC (sC (sS sN)))))
 ·rintro⟨hr,⟨⟩⟩ h4;refine Ce (l':=[(3,rP b1 0),(5,rP b2 0)]) (H':=[.blk b2 (AN hr) 86,.blk b1 [Al 0,Al 0,rB false,rB false] 86]) rfl rfl ?_;replace h4:JF hr=some r:=h4;unfold JF at h4;refine AV (AD (An (EO (H1:=[.blk b2 (AN hr) 86,.blk b1 (AN hr) 86]) [3,5] [⟨[],Bt (AN hr),1⟩,⟨[],Al 0,0⟩,⟨[0],rv undef,2⟩,⟨[],rB false,0⟩] (rle [(3,_),(2,[.blk b2 (AN hr) 86,.blk b1 (AN hr) 86])]) [2,4,3] ?_ ?_)))
  ·refine of (AB (i:=0) MS Gz rfl rfl rfl rfl) (oq (AG rfl) (Io rfl (MW (Dy (i:=1) Gz rfl rfl rfl (BU.c rfl) rfl rfl (cs':=[Al hr.fDepth,Al hr.fBytes,rB hr.fOutside,rB hr.fLong]) rfl (H':=[.blk b2 (AN hr) 86,.blk b1 (AN hr) 86]) rfl)) ?_));refine oq (AG rfl) ?_;exact Cr
  refine AD (Aq (J3 ?_));obtain rfl:=Ao h4;exact Ap (Wn S8 (A5 rfl) (Ev (i:=1) MS Gz rfl rfl rfl) (A5 rfl)) (sS (sS sN)) ⟨rfl,rfl⟩
theorem DR (F:Nat)(v:(List Aa))(r:Int)(h:Dt F v=some r):Fn Tryz.prog GE 30 [AJ 4 (A2 Ab v)] [] (λR H=>R=Al r∧H=[]):=by
 refine enter (n:=42) Tryz.func30 rfl Tryz.ntmps30 rfl (λw Z=>?_);unfold Dt at h;refine Af (wa rfl (Bb (wm rfl (ob h λr1 e3 h2=>BL PO (HL F v r1 e3) rfl (wm rfl (wv (AC rfl rfl) (wv (AC rfl rfl) (wv (AC rfl rfl) (Cm (cs:=[Al 0,Al 0,rB false,rB false]) N8 rfl rfl (λb4=>?_))))))))));refine wa rfl (Bh (i:=0) Gz rfl rfl rfl (BU.c rfl) rfl rfl (cs':=[Al r1.2.1.fDepth,Al r1.2.1.fBytes,rB r1.2.1.fOutside,rB r1.2.1.fLong]) rfl (H':=[.blk b4 (AN r1.2.1) 86]) rfl (wa rfl (Am (An (A6 (AE [(0,AJ 4 (A2 Ab v)),(4,rP b4 0),(12,rB ((!r1.2.2)||(!decide (r1.1=(v.length:Int)))))] [.blk b4 (AN r1.2.1) 86] ?_ ?_))))))
 ·refine Aj (wm rfl (wv (Bu rfl) (wm rfl (AH (!r1.2.2) (λc5=>?_) (λc5=>?_)))))
  ·refine wf c5 (wf c5 (wf c5 (wf c5 (wv (r:=rB true) (Av rfl c5 rfl) (wa rfl (Ai ?_))))));exact BD c5
  ·refine wo c5 (wm rfl (wo c5 (wm rfl (wo c5 (wv (AK (ys:=v) (enc:=Ab) Bv rfl) (wo c5 (wv (Bo rfl rfl) (Cc rfl c5 rfl (wa rfl (Ai ?_))))))))));exact BD c5
 refine cz h2 rfl (λc6 h7=>?_) (λc6 h8=>?_)
 ·refine Af (wa rfl (Am (Aq (Au (Ac ?_)))));obtain rfl:=Ao h7;exact Ap (Bs Uc (A5 rfl)) (sS sN) ⟨rfl,rfl⟩
 ·refine Af (vF GW rfl HB (vL 0 Sw rfl (wa rfl (Am (cz h8 rfl (λc9 hf=>?_) (λc9 hg=>?_))))))
  ·refine Af (wa rfl (Am (Aq (Au (Ac ?_)))));obtain rfl:=Ao hf;exact Ap (Bs Uc (A5 rfl)) (sS sN) ⟨rfl,rfl⟩
  ·refine AE [(24,rB (r1.2.1.fLong||((decide (200<(v.length:Int)))||((decide (8<r1.2.1.fDepth))||(decide (4000<r1.2.1.fBytes))))))] [] ?_ ?_
   ·refine Aj (vF GW rfl HB (vL 0 Sw rfl (wm rfl (AH (r1.2.1.fLong) (λha=>?_) (λha=>?_)))))
    ·refine wf ha (wf ha (wf ha (wv (r:=rB true) (Av rfl ha rfl) (wm rfl (wz rfl rfl (wz rfl rfl (wz rfl rfl (wv (r:=rB true) (Av (b:=true) rfl rfl rfl) (wm rfl (wz rfl rfl (wz rfl rfl (wz rfl rfl (wv (r:=rB true) (Av (b:=true) rfl rfl rfl) (wa rfl (Ai ?_)))))))))))))));exact BD ha
    ·refine wo ha (wm rfl (wo ha (wv (AK (ys:=v) (enc:=Ab) Bv rfl) (wo ha (wv (CB rfl rfl) (Cc rfl ha rfl (wm rfl (AH (decide (200<(v.length:Int))) (λhb=>?_) (λhb=>?_)))))))))
     ·refine wf hb (wf hb (wf hb (wv (r:=rB true) (Av rfl hb rfl) (wm rfl (wz rfl rfl (wz rfl rfl (wz rfl rfl (wv (r:=rB true) (Av (b:=true) rfl rfl rfl) (wa rfl (Ai ?_))))))))));exact BD (And.intro ha hb)
     ·refine wo hb (vF GW rfl B3 (wo hb (vL 0 BG rfl (wo hb (wv (CB rfl rfl) (Cc rfl hb rfl (wm rfl (AH (decide (8<r1.2.1.fDepth)) (λhe=>?_) (λhe=>?_)))))))))
      ·refine wf he (wf he (wf he (wv (r:=rB true) (Av rfl he rfl) (wa rfl (Ai ?_)))));exact BD (And.intro ha (And.intro hb he))
      ·refine wo he (vF GW rfl B3 (wo he (vL 0 BG rfl (wo he (wv (CB rfl rfl) (Cc rfl he rfl (wa rfl (Ai ?_))))))));exact BD (And.intro ha (And.intro hb he))
   refine cz hg rfl (λhh hi=>?_) (λhh hj=>?_)
   ·refine Af (wa rfl (Am (Aq (Au (Ac ?_)))));obtain rfl:=Ao hi;exact Ap (Bs Uc (A5 rfl)) sN ⟨rfl,rfl⟩
   ·refine At (A4 (AD (Af (wa rfl (Am (Aq ?_))))));obtain rfl:=Ao hj;exact Ap (Bs Uc (A5 rfl)) sN ⟨rfl,rfl⟩
theorem HO (F:Nat)(v:(List Aa))(r:(List Aa)×Int)(h:EE F v=some r):Fn Tryz.prog GE 71 [AJ 4 (A2 Ab v)] [] (λR H=>R=Dx [AJ 4 (A2 Ab r.1),Al r.2]∧H=[]):=by
 refine enter (n:=11) Tryz.func71 rfl Tryz.ntmps71 rfl (λw Z=>?_);unfold EE at h;refine Af (wa rfl (wa rfl (Am (An (Af (wm rfl (ob h λr1 e3 h2=>BL MR (DR F v r1 e3) rfl (wa rfl (Bb (wm rfl (wv (Bo rfl rfl) (Am (cz h2 rfl (λc4 h5=>?_) (λc4 h6=>?_))))))))))))))
 ·refine Af (wm rfl (wa rfl (wa rfl (Am (Aq (Ac (WK.up (d:=2) (r:=AJ 4 (A2 Ab ([]:List Aa))) rfl (Up.le (Et.nil _)) ?_)))))));obtain rfl:=Ao h5;exact Ap (Eb Tryz.results71 (A5 rfl) (A5 rfl)) sN ⟨rfl,rfl⟩
 ·refine At (AD (Af (wm rfl (wa rfl (wa rfl (Am (Aq ?_)))))));obtain rfl:=Ao h6;exact Ap (Eb Tryz.results71 (A5 rfl) (A5 rfl)) sN ⟨rfl,rfl⟩
theorem SO (F:Nat)(n:Int)(r:(List Aa)×Int)(h:Uk F n=some r):Fn Tryz.prog GE 85 [Al n] [] (λR H=>R=Dx [AJ 4 (A2 Ab r.1),Al r.2]∧H=[]):=by
 refine enter (n:=10) Tryz.func85 rfl Tryz.ntmps85 rfl (λw Z=>?_);unfold Uk at h;refine Af (wa rfl (wa rfl (Bb (wm rfl (wv (r:=Bt [Al 3,Al n,rS ([]:Aw),Al 0]) (DW rfl rfl rfl rfl) (AZ (ys:=([(Aa.mk 3 n ([]:Aw) 0)]:List Aa)) (enc:=Ab) (css:=[[Al 3,Al n,rS ([]:Aw),Al 0]]) (xs:=[.tmp 5]) Bv BC GV rfl rfl rfl ⟨EA.agg ⟨Up.refl _,Up.refl _,Up.refl _,Up.refl _,trivial⟩,trivial⟩ rfl Bi rfl rfl rfl (λb1=>?_)))))));refine WL.freeze (i:=0) rfl (WL.up (d:=6) (r:=AJ 4 (A2 Ab ([(Aa.mk 3 n ([]:Aw) 0)]:List Aa))) rfl (Up.fact (i:=0) rfl) (ob h λr2 e4 h3=>BL Tryz.call71 (HO F ([(Aa.mk 3 n ([]:Aw) 0)]:List Aa) r2 e4) rfl (wv (AC rfl rfl) (wv (AC rfl rfl) (wa rfl (wa rfl (Am (Aq ?_))))))));obtain rfl:=Ao h3;exact Ap (Eb Tryz.results85 (A5 rfl) (A5 rfl)) (sS sN) ⟨rfl,rfl⟩
theorem LT (F:Nat)(s:Aw)(r:(List Aa)×Int)(h:NI F s=some r):Fn Tryz.prog GE 29 [rS s] [] (λR H=>R=Dx [AJ 4 (A2 Ab r.1),Al r.2]∧H=[]):=by
 refine enter (n:=10) Tryz.func29 rfl Tryz.ntmps29 rfl (λw Z=>?_);unfold NI at h;refine Af (wa rfl (wa rfl (Bb (wm rfl (wv (r:=Bt [Al 4,Al 0,rS s,Al 0]) (DV rfl rfl rfl rfl) (AZ (ys:=([(Aa.mk 4 0 s 0)]:List Aa)) (enc:=Ab) (css:=[[Al 4,Al 0,rS s,Al 0]]) (xs:=[.tmp 5]) Bv BC GV rfl rfl rfl ⟨EA.agg ⟨Up.refl _,Up.refl _,Up.refl _,Up.refl _,trivial⟩,trivial⟩ rfl Bi rfl rfl rfl (λb1=>?_)))))));refine WL.freeze (i:=0) rfl (WL.up (d:=6) (r:=AJ 4 (A2 Ab ([(Aa.mk 4 0 s 0)]:List Aa))) rfl (Up.fact (i:=0) rfl) (ob h λr2 e4 h3=>BL Tryz.call71 (HO F ([(Aa.mk 4 0 s 0)]:List Aa) r2 e4) rfl (wv (AC rfl rfl) (wv (AC rfl rfl) (wa rfl (wa rfl (Am (Aq ?_))))))));obtain rfl:=Ao h3;exact Ap (Eb Tryz.results29 (A5 rfl) (A5 rfl)) (sS sN) ⟨rfl,rfl⟩
theorem L3 (F:Nat)(l:(List (List Aa)))(r:(List Aa)×Int)(h:Ni F l=some r):Fn Tryz.prog GE 47 [AJ 1 (A2 Ae l)] [] (λR H=>R=Dx [AJ 4 (A2 Ab r.1),Al r.2]∧H=[]):=by
 refine enter (n:=31) Tryz.func47 rfl Tryz.ntmps47 rfl (λw Z=>?_);unfold Ni at h;refine Af (wa rfl (wa rfl (Bb (wm rfl (wv (AK (ys:=l) (enc:=Ae) Cd rfl) (wv (r:=Bt [Al 5,Al 0,rS ([]:Aw),Al (l.length:Int)]) (Jj rfl rfl rfl rfl) (AZ (ys:=([(Aa.mk 5 0 ([]:Aw) (l.length:Int))]:List Aa)) (enc:=Ab) (css:=[[Al 5,Al 0,rS ([]:Aw),Al (l.length:Int)]]) (xs:=[.tmp 10]) Bv BC GV rfl rfl rfl ⟨EA.agg ⟨Up.refl _,Up.refl _,Up.refl _,Up.refl _,trivial⟩,trivial⟩ rfl Bi rfl rfl rfl (λb1=>?_))))))));refine wa rfl (Am (An (Af (wm rfl (wv (AK (ys:=l) (enc:=Ae) Cd rfl) (wv (r:=Al 0) (A3 rfl) (Am (A6 (ob h λhl hm hj=>Bd (S:=Nat×((List Aa)×Int)×(Value)) (V:=((List Aa))×(Value)) 0 (λσ=>Cf (λσ=>JH F l σ.1 σ.2) σ.1 σ.2.1=some hl) (λσ=>[(2,rv (.slice none 0 0)),(3,Al 0),(4,rv σ.2.2),(12,AJ 1 (A2 Ae l)),(13,Al (l.length:Int)),(14,Al σ.2.1.2)]) (λσ=>[.row σ.2.2 54 4 (A2 Ab σ.2.1.1)]) (λσ=>σ.1) (F,(([(Aa.mk 5 0 ([]:Aw) (l.length:Int))]:List Aa),0),(.slice (some ⟨b1,0,none⟩) 1 1)) hm (Az.c rfl (Az.c5 rfl rfl rfl rfl rfl Az.nil)) (sC sN) (λσ=>JG F σ.1=some r) (λσ=>[(2,rv (.slice none 0 0)),(3,Al 0),(4,rv σ.2)]) (λσ=>[.row σ.2 54 4 (A2 Ab σ.1)]) ?_ ?_)))))))))
 ·rintro⟨hC,⟨hb,ha⟩,hh⟩ hn;refine B7 (l':=[(2,rv (.slice none 0 0)),(3,Al 0),(4,rv hh),(12,AJ 1 (A2 Ae l)),(13,Al (l.length:Int)),(14,Al ha)]) (H':=[.row hh 54 4 (A2 Ab hb)]) rfl rfl ?_;obtain⟨ho,rfl,hp,he,hi⟩:=Ca hn;replace he:JH F l hb ha=some hp:=he;unfold JH at he;refine Af (wv (Cl rfl rfl) (Am (An (cz he rfl (λhq hr=>?_) (λhq hs=>?_)))))
  ·refine At (AD (An (A6 (Af (ck hr λht hu=>wv (AU (enc:=Ae) (ys:=l) Cd Co rfl rfl ht) (wv (AM CS rfl rfl) (wa rfl (Am (An (Af (wm rfl (ob hu λhw hx hy=>BL MR (DR F (Ax l ha) hw hx) rfl (wa rfl (Bb (wm rfl (wv (Bo rfl rfl) (Am (cz hy rfl (λhz h0=>?_) (λhz h1=>?_)))))))))))))))))))
   ·refine Af (wm rfl (wa rfl (wa rfl (Am (Aq (Ac (Au (Ac (Ac (AP ?_))))))))));have h2:=Bg h0 hi hj;refine Au (Ac (WK.up (d:=2) (r:=AJ 4 (A2 Ab ([]:List Aa))) rfl (Up.le (Et.nil _)) ?_));obtain rfl:=Ao h2;exact Ap (Eb Tryz.results47 (A5 rfl) (A5 rfl)) (sS sN) ⟨rfl,rfl⟩
   ·refine At (AD (Aj (wm rfl (wm rfl (ck h1 λh3 h4=>Exists.elim GR λinf hinf=>C1 (xs:=hb) (ys:=Ax l ha) (enc:=Ab) (i:=0) Bv hinf.1 hinf.2.1 hinf.2.2.1 hinf.2.2.2 rfl rfl rfl rfl rfl (Lz.z rfl rfl) Bi C0 h3 rfl (λv76=>?_))))));refine wa rfl (Ai (A4 (AD (Aj (ck h4 λh5 h6=>wv (Be rfl rfl h5) (wm rfl (Ai ?_)))))));have h7:=AW h6 hi;exact As (Ar (ho,(hb++(Ax l ha),ha+1),v76) ⟨h7,X0 _⟩ (Az.c rfl (Az.c5 rfl rfl rfl rfl rfl Az.nil)) (sC sN))
  ·refine Bl (Ay ?_);have h8:=BB hs hi hj;exact Ay (AS (Ar (hb,hh) h8 (Az.c rfl (Az.c rfl (Az.c rfl Az.nil))) (sC sN)))
 ·rintro⟨hf,hk⟩ hg;refine Ce (l':=[(2,rv (.slice none 0 0)),(3,Al 0),(4,rv hk)]) (H':=[.row hk 54 4 (A2 Ab hf)]) rfl rfl ?_;replace hg:JG F hf=some r:=hg;unfold JG at hg;refine AV (AD (Af (wm rfl (WL.freeze (i:=0) rfl (WL.up (d:=27) (r:=AJ 4 (A2 Ab hf)) rfl (Up.fact (i:=0) rfl) (ob hg λh9 hA hB=>BL Tryz.call71 (HO F hf h9 hA) rfl (wv (AC rfl rfl) (wv (AC rfl rfl) (wa rfl (wa rfl (Am (Aq ?_))))))))))));obtain rfl:=Ao hB;exact Ap (Eb Tryz.results47 (A5 rfl) (A5 rfl)) (sS sN) ⟨rfl,rfl⟩
end Go.Proofs.YtghdglcmblpbeaaGreatDoor.Q
namespace Go.Proofs.YtghdglcmblpbeaaGreatDoor
open Go
set_option linter.unusedVariables false
def IP (s:Aw)(ha:Int)(hb:Aw):Option (Stp (Int×Aw) (Out (Aw) (Aw))):=
 AO (decide (ha<(s.length:Int))) (AY (C3 ha (s.length:Int))<|AO (((decide ((Cn s ha)=34))||(decide ((Cn s ha)=92)))) (AY (Ge 1 (hb.length+1))<|AY (BN .u8 92)<|Ku (hb++[UInt8.ofNat (Int.toNat 92)]) λhe=>AY (Ge 1 (he.length+1))<|AY (BN .u8 (Cn s ha))<|Ku (he++[UInt8.ofNat (Int.toNat (Cn s ha))]) λhf=>AY (BN .i64 (ha+1))<|some (.next (ha+1,hf))) (AY (Ge 1 (hb.length+1))<|AY (BN .u8 (Cn s ha))<|Ku (hb++[UInt8.ofNat (Int.toNat (Cn s ha))]) λhg=>AY (BN .i64 (ha+1))<|some (.next (ha+1,hg)))) (some (.out (.go hb)))
def IO (ha:Aw):Option (Aw):=
 AY (Ge 1 (ha.length+1))<|Ku (ha++[UInt8.ofNat (Int.toNat 34)]) λhb=>some hb
def Ma (F:Nat)(l:Aw)(s:Aw):Option (Aw):=
 AY (Ge 1 (l.length+1))<|AY (BN .u8 34)<|Ku (l++[UInt8.ofNat (Int.toNat 34)]) λr6=>Bf (Cf (λσ=>IP s σ.1 σ.2) F (0,r6)) (BS λν=>IO ν)
def NH (F:Nat)(hn:Aw→(List Aa)→Bool→Aw→Aa→Option (Bool×Bool×Aw))(ha:(List Aa)→Bool→Aw→Aa→Option (Bool×Aw))(l:Aw)(v:(List Aa)):Option (Aw):=
 AY (C3 0 (v.length:Int))<|AO (decide (((Ax v 0).fKind)=1)) (AY (Ge 1 (l.length+([110,117,108,108]:Aw).length))<|Ku (l++([110,117,108,108]:Aw)) λhf=>some hf) (AO (decide (((Ax v 0).fKind)=2)) (AY (C3 ((Ax v 0).fInt) (([([102,97,108,115,101]:Aw),([116,114,117,101]:Aw)]:List Aw).length:Int))<|AY (Ge 1 (l.length+(Ax ([([102,97,108,115,101]:Aw),([116,114,117,101]:Aw)]:List Aw) ((Ax v 0).fInt)).length))<|Ku (l++(Ax ([([102,97,108,115,101]:Aw),([116,114,117,101]:Aw)]:List Aw) ((Ax v 0).fInt))) λhg=>some hg) (AO (decide (((Ax v 0).fKind)=3)) (AY (BN .i64 ((Ax v 0).fInt))<|AY (Ge 1 (l.length+(Lib.itoa ((Ax v 0).fInt)).length))<|Ku (l++(Lib.itoa ((Ax v 0).fInt))) λhh=>some hh) (AO (decide (((Ax v 0).fKind)=4)) (Bf (Ma F l ((Ax v 0).fStr)) λhi=>some hi) (AO (decide (((Ax v 0).fKind)=6)) (AY (C3 0 (([123,125]:Aw).length:Int))<|AY (Ge 1 (l.length+1))<|AY (BN .u8 (Cn ([123,125]:Aw) 0))<|Ku (l++[UInt8.ofNat (Int.toNat (Cn ([123,125]:Aw) 0))]) λhj=>Bf (ha v true hj (Ax v 0)) λhb=>AY (C3 1 (([123,125]:Aw).length:Int))<|AY (Ge 1 (hb.2.length+1))<|AY (BN .u8 (Cn ([123,125]:Aw) 1))<|Ku (hb.2++[UInt8.ofNat (Int.toNat (Cn ([123,125]:Aw) 1))]) λhk=>some hk) (AY (C3 0 (([91,93]:Aw).length:Int))<|AY (Ge 1 (l.length+1))<|AY (BN .u8 (Cn ([91,93]:Aw) 0))<|Ku (l++[UInt8.ofNat (Int.toNat (Cn ([91,93]:Aw) 0))]) λhl=>Bf (ha v true hl (Ax v 0)) λhe=>AY (C3 1 (([91,93]:Aw).length:Int))<|AY (Ge 1 (he.2.length+1))<|AY (BN .u8 (Cn ([91,93]:Aw) 1))<|Ku (he.2++[UInt8.ofNat (Int.toNat (Cn ([91,93]:Aw) 1))]) λhm=>some hm)))))
def LS (F:Nat)(ha:Aw→(List Aa)→Option (Aw))(key:Aw)(x:(List Aa))(first:Bool)(l:Aw)(c:Aa):Option (Bool×Bool×Aw):=
 AO (!first) (AY (Ge 1 (l.length+1))<|AY (BN .u8 44)<|Ku (l++[UInt8.ofNat (Int.toNat 44)]) λr8=>AO (decide (c.fKind=6)) (Bf (Ma F r8 key) λhb=>AY (Ge 1 (hb.length+1))<|AY (BN .u8 58)<|Ku (hb++[UInt8.ofNat (Int.toNat 58)]) λhf=>Bf (ha hf x) λhg=>some (true,false,hg)) (Bf (ha r8 x) λhh=>some (true,false,hh))) (AO (decide (c.fKind=6)) (Bf (Ma F l key) λhe=>AY (Ge 1 (he.length+1))<|AY (BN .u8 58)<|Ku (he++[UInt8.ofNat (Int.toNat 58)]) λhi=>Bf (ha hi x) λhj=>some (true,false,hj)) (Bf (ha l x) λhk=>some (true,false,hk)))
def HG (F:Nat)(v:(List Aa))(c:Aa)(hk:Aw→(List Aa)→Bool→Aw→Aa→Option (Bool×Bool×Aw))(ha:Int)(hb:Int)(hi:Bool)(hj:Aw):Option (Stp (Int×Int×Bool×Aw) (Out (Bool×Aw) (Bool×Aw))):=
 AO (decide (hb<((Ax v 0).fN))) (AO (decide (((Ax v 0).fKind)=6)) (AY (C3 ha (v.length:Int))<|AY (BN .i64 (ha+1))<|AY (G0 (ha+1) (v.length:Int))<|Bf (Gl F (List.drop (Int.toNat (ha+1)) v)) λhe=>AY (BN .i64 ((ha+1)+he.1))<|AY (G0 (ha+1) ((ha+1)+he.1))<|AY (G0 ((ha+1)+he.1) (v.length:Int))<|Bf (hk ((Ax v ha).fStr) (List.take (Int.toNat ((ha+1)+he.1)-Int.toNat (ha+1)) (List.drop (Int.toNat (ha+1)) v)) hi hj c) λhf=>AO (!hf.1) (some (.out (.ret (hf.2.1,hf.2.2)))) (AY (BN .i64 (hb+1))<|some (.next ((ha+1)+he.1,hb+1,hf.2.1,hf.2.2)))) (AY (G0 ha (v.length:Int))<|Bf (Gl F (List.drop (Int.toNat ha) v)) λhg=>AY (BN .i64 (ha+hg.1))<|AY (G0 ha (ha+hg.1))<|AY (G0 (ha+hg.1) (v.length:Int))<|Bf (hk ([]:Aw) (List.take (Int.toNat (ha+hg.1)-Int.toNat ha) (List.drop (Int.toNat ha) v)) hi hj c) λhh=>AO (!hh.1) (some (.out (.ret (hh.2.1,hh.2.2)))) (AY (BN .i64 (hb+1))<|some (.next (ha+hg.1,hb+1,hh.2.1,hh.2.2))))) (some (.out (.go (hi,hj))))
def HF (ha:Bool)(hb:Aw):Option (Bool×Aw):=
 some (ha,hb)
def LR (F:Nat)(ha:Aw→(List Aa)→Bool→Aw→Aa→Option (Bool×Bool×Aw))(v:(List Aa))(first:Bool)(l:Aw)(c:Aa):Option (Bool×Aw):=
 AY (C3 0 (v.length:Int))<|Bf (Cf (λσ=>HG F v c ha σ.1 σ.2.1 σ.2.2.1 σ.2.2.2) F (1,0,first,l)) (BS λν=>HF ν.1 ν.2)
mutual
def Jq:Nat→Aw→(List Aa)→Option (Aw)
 | 0,_,_=>none
 | nn+1,l,v=>NH nn (HH nn) (J7 nn) l v
def HH:Nat→Aw→(List Aa)→Bool→Aw→Aa→Option (Bool×Bool×Aw)
 | 0,_,_,_,_,_=>none
 | nn+1,key,x,first,l,c=>LS nn (Jq nn) key x first l c
def J7:Nat→(List Aa)→Bool→Aw→Aa→Option (Bool×Aw)
 | 0,_,_,_,_=>none
 | nn+1,v,first,l,c=>LR nn (HH nn) v first l c
end
def NK (F:Nat)(v:(List Aa)):Option (Aw×Int):=
 Bf (Dt F v) λr1=>AO (!decide (r1=0)) (some (([]:Aw),r1)) (Bf (Jq F ([]:Aw) v) λr8=>AY (decide (0<r8.length))<|some (r8,0))
end Go.Proofs.YtghdglcmblpbeaaGreatDoor
namespace Go.Proofs.YtghdglcmblpbeaaGreatDoor.Q
open Go Go.RowKit
set_option linter.unusedVariables false
set_option linter.unusedSimpArgs false
set_option maxRecDepth 100000
set_option maxHeartbeats 4000000
theorem LZ (F:Nat)(ha:Nat)(hl:Value)(l:Aw)(s:Aw)(r:Aw)(h:Ma F l s=some r):Fn Tryz.prog GE 114 [rP ha 0,rS s] [.bld 101 5 ha hl l] (λR H=>∃w0b:Value,R=rv (.tuple #[])∧H=[.bld 101 5 ha w0b r]):=by
 refine enter (n:=32) Tryz.func114 rfl Tryz.ntmps114 rfl (λw Z=>?_);unfold Ma at h;refine Af (wm rfl (ck h λg1 h2=>ck h2 λg3 h4=>CK (rs:=[rP ha 0,rI .u8 34]) (Hin:=[.bld 101 5 ha hl l]) (Hr:=[]) In rfl (Xv _) (C4 ha hl l 34 g1 g3) rfl ?_));rintro _ _ ⟨v5,rfl,rfl⟩;refine bd h4 λr6 e8 h7=>?_;rw[← e8];refine Am (An (Af (wm rfl (wv (BP D4 rfl) (wv (r:=Al 0) (A3 rfl) (Am (A6 (ob h7 λhr hs ht=>Bd (S:=Nat×(Int×Aw)×(Value)) (V:=(Aw)×(Value)) 0 (λσ=>Cf (λσ=>IP s σ.1 σ.2) σ.1 σ.2.1=some hr) (λσ=>[(0,rP ha 0),(1,rS s),(8,Al (s.length:Int)),(9,Al σ.2.1.1)]) (λσ=>[.bld 101 5 ha σ.2.2 σ.2.1.2]) (λσ=>σ.1) (F,(0,r6),v5) hs (Az.c rfl (Az.c rfl (Az.c rfl (Az.c rfl Az.nil)))) (sC sN) (λσ=>IO σ.1=some r) (λσ=>[(0,rP ha 0)]) (λσ=>[.bld 101 5 ha σ.2 σ.1]) ?_ ?_))))))))
 ·rintro⟨gg,⟨hb,hf⟩,hg⟩ hu;refine B7 (l':=[(0,rP ha 0),(1,rS s),(8,Al (s.length:Int)),(9,Al hb)]) (H':=[.bld 101 5 ha hg hf]) rfl rfl ?_;obtain⟨ho,rfl,t127,hh,hm⟩:=Ca hu;replace hh:IP s hb hf=some t127:=hh;unfold IP at hh;refine Af (wv (Cl rfl rfl) (Am (An (cz hh rfl (λhw hx=>?_) (λhw hy=>?_)))))
  ·refine At (AD (An (A6 (Af (wm rfl (wa rfl (Am (An (ck hx λhi hz=>AE [(0,rP ha 0),(1,rS s),(4,Al hb),(8,Al (s.length:Int)),(9,Al hb),(21,rB ((decide ((Cn s hb)=34))||(decide ((Cn s hb)=92))))] [.bld 101 5 ha hg hf] ?_ ?_)))))))))
   ·refine Aj (wm rfl (wm rfl (wv (BH D4 rfl rfl hi) (wv (AX rfl rfl) (wm rfl (AH (decide ((Cn s hb)=34)) (λhe=>?_) (λhe=>?_)))))))
    ·refine wf he (wf he (wf he (wf he (wv (r:=rB true) (Av rfl he rfl) (Ai ?_)))));exact BD he
    ·refine wo he (wm rfl (wo he (wm rfl (wo he (wv (BH D4 rfl rfl hi) (wo he (wv (AX rfl rfl) (Cc rfl he rfl (Ai ?_)))))))));exact BD he
   refine cz hz rfl (λh0 h1=>?_) (λh0 h3=>?_)
   ·refine Aj (wm rfl (ck h1 λh5 h6=>ck h6 λh8 h9=>CK (rs:=[rP ha 0,rI .u8 92]) (Hin:=[.bld 101 5 ha hg hf]) (Hr:=[]) In rfl (Xv _) (C4 ha hg hf 92 h5 h8) rfl ?_));rintro _ _ ⟨hp,rfl,rfl⟩;refine bd h9 λhq hA hB=>?_;rw[← hA];refine Am (Aj (wm rfl (wm rfl (wm rfl (wv (BH D4 rfl rfl hi) (ck hB λhC hD=>ck hD λhE hG=>CK (rs:=[rP ha 0,rI .u8 (Cn s hb)]) (Hin:=[.bld 101 5 ha hp hq]) (Hr:=[]) In rfl (Xv _) (C4 ha hp hq (Cn s hb) hC hE) rfl ?_))))));rintro _ _ ⟨hH,rfl,rfl⟩;refine bd hG λhI hJ hK=>?_;rw[← hJ];refine Ai (A4 (AD (Aj (ck hK λhL hN=>wv (Be rfl rfl hL) (wm rfl (Ai ?_))))));have hO:=AW hN hm;exact As (Ar (ho,(hb+1,hI),hH) ⟨hO,X0 _⟩ (Az.c rfl (Az.c rfl (Az.c rfl (Az.c rfl Az.nil)))) (sC sN))
   ·refine At (AD (Aj (wm rfl (wm rfl (wm rfl (wv (BH D4 rfl rfl hi) (ck h3 λhP hQ=>ck hQ λhR hS=>CK (rs:=[rP ha 0,rI .u8 (Cn s hb)]) (Hin:=[.bld 101 5 ha hg hf]) (Hr:=[]) In rfl (Xv _) (C4 ha hg hf (Cn s hb) hP hR) rfl ?_)))))));rintro _ _ ⟨hT,rfl,rfl⟩;refine bd hS λhU hV hW=>?_;rw[← hV];refine Ai (A4 (AD (Aj (ck hW λhX hY=>wv (Be rfl rfl hX) (wm rfl (Ai ?_))))));have hZ:=AW hY hm;exact As (Ar (ho,(hb+1,hU),hT) ⟨hZ,X0 _⟩ (Az.c rfl (Az.c rfl (Az.c rfl (Az.c rfl Az.nil)))) (sC sN))
  ·refine Bl (Ay ?_);have ga:=BB hy hm ht;exact Ay (AS (Ar (hf,hg) ga (Az.c rfl Az.nil) (sC sN)))
 ·rintro⟨hj,hn⟩ hk;refine Ce (l':=[(0,rP ha 0)]) (H':=[.bld 101 5 ha hn hj]) rfl rfl ?_;replace hk:IO hj=some r:=hk;unfold IO at hk;refine AV (AD (Aj (wm rfl (ck hk λgb gc=>CK (rs:=[rP ha 0,rI .u8 34]) (Hin:=[.bld 101 5 ha hn hj]) (Hr:=[]) In rfl (Xv _) (C4 ha hn hj 34 gb g3) rfl ?_))));rintro _ _ ⟨gd,rfl,rfl⟩;refine bd gc λgh ge gf=>?_;rw[← ge];refine Ai ?_;obtain rfl:=Ao gf;exact E5 (NP Tryz.results114) (sC sN) ⟨gd,rfl,rfl⟩
theorem Rx (F:Nat)(hm:Aw→(List Aa)→Bool→Aw→Aa→Option (Bool×Bool×Aw))(hn:(List Aa)→Bool→Aw→Aa→Option (Bool×Aw))(g9:(∀(he:Nat) (hf:Nat) (ha:Nat) (hb:Value) (hg:Nat) (key:Aw) (x:(List Aa)) (first:Bool) (l:Aw) (c:Aa) (r:Bool×Bool×Aw),hm key x first l c=some r→Fn Tryz.prog GE 116 [rS key,AJ 4 (A2 Ab x),rP he 0,rP hf 0,rP hg 0] [.blk he [rB first] 4,.blk hf [rP ha 0] 98,.bld 101 5 ha hb l,.blk hg (Ab c) 54] (λR H=>∃w3b:Value,R=rB r.1∧H=[.blk he [rB r.2.1] 4,.blk hf [rP ha 0] 98,.bld 101 5 ha w3b r.2.2,.blk hg (Ab c) 54])))(ho:(∀(he:Nat) (hf:Nat) (ha:Nat) (hb:Value) (hg:Nat) (v:(List Aa)) (first:Bool) (l:Aw) (c:Aa) (r:Bool×Aw),hn v first l c=some r→Fn Tryz.prog GE 90 [AJ 4 (A2 Ab v),rv (.func (.func 116) #[] #[(.pointer (some ⟨he,0,none⟩)),(.pointer (some ⟨hf,0,none⟩)),(.pointer (some ⟨hg,0,none⟩))])] [.blk he [rB first] 4,.blk hf [rP ha 0] 98,.bld 101 5 ha hb l,.blk hg (Ab c) 54] (λR H=>∃w1_1b:Value,R=rv (.tuple #[])∧H=[.blk he [rB r.1] 4,.blk hf [rP ha 0] 98,.bld 101 5 ha w1_1b r.2,.blk hg (Ab c) 54])))(ha:Nat)(hb:Value)(l:Aw)(v:(List Aa))(r:Aw)(h:NH F hm hn l v=some r):Fn Tryz.prog GE 87 [rP ha 0,AJ 4 (A2 Ab v)] [.bld 101 5 ha hb l] (λR H=>∃w0b:Value,R=rv (.tuple #[])∧H=[.bld 101 5 ha w0b r]):=by
 refine enter (n:=52) Tryz.func87 rfl Tryz.ntmps87 rfl (λw Z=>?_);unfold NH at h;refine Af (Lb rfl (BQ rfl) rfl (λb1=>?_));refine Bb (wm rfl (ck h λg2 h3=>wv (AU (enc:=Ab) (ys:=v) Bv BC rfl rfl g2) (wv (CP Jn BC rfl rfl rfl) (Cm (cs:=[Al 0,Al 0,rS ([]:Aw),Al 0]) GV rfl rfl (λb4=>?_)))));refine Bh (i:=0) BC rfl rfl rfl (BU.c rfl) rfl rfl (cs':=[Al ((Ax v 0).fKind),Al ((Ax v 0).fInt),rS ((Ax v 0).fStr),Al ((Ax v 0).fN)]) rfl (H':=[.blk b4 (Ab (Ax v 0)) 54,.blk b1 [rP ha 0] 98,.bld 101 5 ha hb l]) rfl (Bb (vF Bm rfl CF (vL 0 CR rfl (Am (A6 (Af (wv (AX rfl rfl) (wa rfl (Am (cz h3 rfl (λc5 h6=>?_) (λc5 hs=>?_)))))))))))
 ·refine Aj (vL 1 GX rfl (ck h6 λg7 h8=>CK (rs:=[rP ha 0,rS ([110,117,108,108]:Aw)]) (Hin:=[.bld 101 5 ha hb l]) (Hr:=[.blk b4 (Ab (Ax v 0)) 54,.blk b1 [rP ha 0] 98]) Tryz.call112 rfl ((A1 (i:=2) rfl).trans (Xx _ (Xv _))) (GN ha hb l ([110,117,108,108]:Aw) g7) rfl ?_));rintro _ _ ⟨v9,rfl,rfl⟩;refine bd h8 λgA ht hu=>?_;rw[← ht];refine Ai (A4 ?_);obtain rfl:=Ao hu;exact E5 (NP Rr) (sC (sS (sS sN))) ⟨v9,rfl,rfl⟩
 ·refine Af (wv (AX rfl rfl) (wa rfl (Am (cz hs rfl (λhw hx=>?_) (λhw hy=>?_)))))
  ·refine ck hx λg16 hz=>IM (H1:=[.blk b4 (Ab (Ax v 0)) 54,.blk b1 [rP ha 0] 98,.bld 101 5 ha hb l]) 6 [2,4] [⟨[],rP ha 0,1⟩,⟨[],AJ 1 (A2 eS ([([102,97,108,115,101]:Aw),([116,114,117,101]:Aw)]:List Aw)),0⟩,⟨[],rP b4 1,0⟩,⟨[2],Al ((Ax v 0).fInt),1⟩,⟨[1,3],J0 [rS (Ax ([([102,97,108,115,101]:Aw),([116,114,117,101]:Aw)]:List Aw) ((Ax v 0).fInt))],0⟩,⟨[4],rS (Ax ([([102,97,108,115,101]:Aw),([116,114,117,101]:Aw)]:List Aw) ((Ax v 0).fInt)),0⟩] (rle [(7,_)]) [32,33,34,35,36,37,2,4] ?_ ?_
   ·refine of (Bp (i:=1) GX rfl rfl rfl) (CJ rfl (λH=>GP (ys:=([([102,97,108,115,101]:Aw),([116,114,117,101]:Aw)]:List Aw)) (enc:=eS) (css:=[[rS ([102,97,108,115,101]:Aw)],[rS ([116,114,117,101]:Aw)]]) (xs:=[.const (.string ⟨#[102,97,108,115,101]⟩),.const (.string ⟨#[116,114,117,101]⟩)]) Dc C6 Wl rfl rfl rfl ⟨EA.one rfl (Up.refl _),EA.one rfl (Up.refl _),trivial⟩ rfl IE rfl rfl) ?_);refine oq (AI Bm rfl B3 rfl rfl) (of (Bp (i:=0) BG rfl rfl rfl) (oq (AU (enc:=eS) (ys:=([([102,97,108,115,101]:Aw),([116,114,117,101]:Aw)]:List Aw)) Dc C6 rfl rfl g16) (oq (AM CG rfl rfl) ?_)));exact Cr
   refine ck hz λg18 h0=>CK (rs:=[rP ha 0,rS (Ax ([([102,97,108,115,101]:Aw),([116,114,117,101]:Aw)]:List Aw) ((Ax v 0).fInt))]) (Hin:=[.bld 101 5 ha hb l]) (Hr:=[.blk b4 (Ab (Ax v 0)) 54,.blk b1 [rP ha 0] 98]) Tryz.call112 rfl ((A1 (i:=2) rfl).trans (Xx _ (Xv _))) (GN ha hb l (Ax ([([102,97,108,115,101]:Aw),([116,114,117,101]:Aw)]:List Aw) ((Ax v 0).fInt)) g18) rfl ?_;rintro _ _ ⟨v20,rfl,rfl⟩;refine bd h0 λgB h1 h2=>?_;rw[← h1];refine Ai (A4 ?_);obtain rfl:=Ao h2;exact E5 (NP Rr) (sC (sS (sS sN))) ⟨v20,rfl,rfl⟩
  ·refine Af (wv (AX rfl rfl) (wa rfl (Am (cz hy rfl (λh4 h5=>?_) (λh4 h7=>?_)))))
   ·refine ck h5 λh9 hA=>IM (H1:=[.blk b4 (Ab (Ax v 0)) 54,.blk b1 [rP ha 0] 98,.bld 101 5 ha hb l]) 4 [2,4] [⟨[],rP ha 0,1⟩,⟨[],rP b4 1,0⟩,⟨[1],Al ((Ax v 0).fInt),1⟩,⟨[2],rS (Lib.itoa ((Ax v 0).fInt)),0⟩] (rle [(5,_)]) [41,42,43,44,2,4] ?_ ?_
    ·refine of (Bp (i:=1) GX rfl rfl rfl) (oq (AI Bm rfl B3 rfl rfl) (of (Bp (i:=0) BG rfl rfl rfl) (CJ rfl (λH=>JX (rs:=[Al ((Ax v 0).fInt)]) (r:=rS (Lib.itoa ((Ax v 0).fInt))) Tryz.call113 rfl (Ps ((Ax v 0).fInt) h9) rfl) ?_)));exact Cr
    refine ck hA λhB hC=>CK (rs:=[rP ha 0,rS (Lib.itoa ((Ax v 0).fInt))]) (Hin:=[.bld 101 5 ha hb l]) (Hr:=[.blk b4 (Ab (Ax v 0)) 54,.blk b1 [rP ha 0] 98]) Tryz.call112 rfl ((A1 (i:=2) rfl).trans (Xx _ (Xv _))) (GN ha hb l (Lib.itoa ((Ax v 0).fInt)) hB) rfl ?_;rintro _ _ ⟨hD,rfl,rfl⟩;refine bd hC λgC hE hG=>?_;rw[← hE];refine Ai (A4 ?_);obtain rfl:=Ao hG;exact E5 (NP Rr) (sC (sS (sS sN))) ⟨hD,rfl,rfl⟩
   ·refine Af (wv (AX rfl rfl) (wa rfl (Am (cz h7 rfl (λhH hI=>?_) (λhH hJ=>?_)))))
    ·refine Aj (vL 1 GX rfl (vF Bm rfl C6 (vL 0 CG rfl (ob hI λhK hL hN=>DP (Hr:=[.blk b4 (Ab (Ax v 0)) 54,.blk b1 [rP ha 0] 98]) Tryz.call114 (LZ F ha hb l ((Ax v 0).fStr) hK hL) rfl ((A1 (i:=2) rfl).trans (Xx _ (Xv _))) rfl ?_))));rintro _ _ ⟨hO,rfl,rfl⟩;refine Ai (A4 ?_);obtain rfl:=Ao hN;exact E5 (NP Rr) (sC (sS (sS sN))) ⟨hO,rfl,rfl⟩
    ·refine Af (wv (r:=rS ([91,93]:Aw)) (AG rfl) (Am (An (Af (vF Bm rfl CF (vL 0 CR rfl (wv (AX rfl rfl) (Am (cz hJ rfl (λhP hQ=>?_) (λhP hR=>?_))))))))))
     ·refine Aj (wv (r:=rS ([123,125]:Aw)) (AG rfl) (Am (An (ck hQ λhS hT=>IM (H1:=[.blk b4 (Ab (Ax v 0)) 54,.blk b1 [rP ha 0] 98,.bld 101 5 ha hb l]) 3 [1,2,4,5] [⟨[],rP ha 0,1⟩,⟨[],rS ([123,125]:Aw),0⟩,⟨[1],rI .u8 (Cn ([123,125]:Aw) 0),0⟩] (rle [(4,_)]) [15,16,17,1,2,4,5] ?_ ?_))))
      ·refine of (Bp (i:=1) GX rfl rfl rfl) (oq (A3 rfl) (oq (BH D4 rfl rfl hS) ?_));exact Cr
      refine ck hT λhU hV=>ck hV λhW hX=>CK (rs:=[rP ha 0,rI .u8 (Cn ([123,125]:Aw) 0)]) (Hin:=[.bld 101 5 ha hb l]) (Hr:=[.blk b4 (Ab (Ax v 0)) 54,.blk b1 [rP ha 0] 98]) In rfl ((A1 (i:=2) rfl).trans (Xx _ (Xv _))) (C4 ha hb l (Cn ([123,125]:Aw) 0) hU hW) rfl ?_;rintro _ _ ⟨v51,rfl,rfl⟩;refine bd hX λhp hY hZ=>?_;rw[← hY];refine Bb (Cm (cs:=[rB false]) Tryz.zeroValue4 rfl rfl (λhj=>?_));refine BF (i:=0) HB rfl rfl (BQ rfl) rfl rfl (cs':=[rB true]) rfl (H':=[.blk hj [rB true] 4,.bld 101 5 ha v51 hp,.blk b4 (Ab (Ax v 0)) 54,.blk b1 [rP ha 0] 98]) rfl (Bb (wm rfl (wv (r:=rv (.func (.func 116) #[] #[(.pointer (some ⟨hj,0,none⟩)),(.pointer (some ⟨b1,0,none⟩)),(.pointer (some ⟨b4,0,none⟩))])) (Cb rfl) (ob hZ λhh ga gb=>DP (Hr:=[]) Tryz.call90 (ho hj b1 ha v51 b4 v true hp (Ax v 0) hh ga) rfl ((A1 (i:=0) rfl).trans (Xx _ ((A1 (i:=2) rfl).trans (Xx _ (Xv _))))) rfl ?_))));rintro _ _ ⟨hl,rfl,rfl⟩;refine Am (ck gb λgc gd=>IM (H1:=[.blk hj [rB hh.1] 4,.blk b1 [rP ha 0] 98,.bld 101 5 ha hl hh.2,.blk b4 (Ab (Ax v 0)) 54]) 3 [2,5] [⟨[],rP ha 0,1⟩,⟨[],rS ([123,125]:Aw),0⟩,⟨[1],rI .u8 (Cn ([123,125]:Aw) 1),0⟩] (rle [(4,_)]) [22,23,24,2,5] ?_ ?_)
      ·refine of (Bp (i:=1) GX rfl rfl rfl) (oq (A3 rfl) (oq (BH D4 rfl rfl gc) ?_));exact Cr
      refine ck gd λge gf=>ck gf λgg gh=>CK (rs:=[rP ha 0,rI .u8 (Cn ([123,125]:Aw) 1)]) (Hin:=[.bld 101 5 ha hl hh.2]) (Hr:=[.blk hj [rB hh.1] 4,.blk b1 [rP ha 0] 98,.blk b4 (Ab (Ax v 0)) 54]) In rfl ((A1 (i:=2) rfl).trans (Xx _ (Xv _))) (C4 ha hl hh.2 (Cn ([123,125]:Aw) 1) ge gg) rfl ?_;rintro _ _ ⟨gi,rfl,rfl⟩;refine bd gh λgD gj gl=>?_;rw[← gj];refine Ai (A4 ?_);obtain rfl:=Ao gl;exact E5 (NP Rr) (sC (sS (sS (sS sN)))) ⟨gi,rfl,rfl⟩
     ·refine At (AD (An (ck hR λgm gp=>IM (H1:=[.blk b4 (Ab (Ax v 0)) 54,.blk b1 [rP ha 0] 98,.bld 101 5 ha hb l]) 3 [1,2,4,5] [⟨[],rP ha 0,1⟩,⟨[],rS ([91,93]:Aw),0⟩,⟨[1],rI .u8 (Cn ([91,93]:Aw) 0),0⟩] (rle [(4,_)]) [15,16,17,1,2,4,5] ?_ ?_)))
      ·refine of (Bp (i:=1) GX rfl rfl rfl) (oq (A3 rfl) (oq (BH D4 rfl rfl gm) ?_));exact Cr
      refine ck gp λgq gr=>ck gr λgs gt=>CK (rs:=[rP ha 0,rI .u8 (Cn ([91,93]:Aw) 0)]) (Hin:=[.bld 101 5 ha hb l]) (Hr:=[.blk b4 (Ab (Ax v 0)) 54,.blk b1 [rP ha 0] 98]) In rfl ((A1 (i:=2) rfl).trans (Xx _ (Xv _))) (C4 ha hb l (Cn ([91,93]:Aw) 0) gq gs) rfl ?_;rintro _ _ ⟨hq,rfl,rfl⟩;refine bd gt λhr gu gv=>?_;rw[← gu];refine Bb (Cm (cs:=[rB false]) Tryz.zeroValue4 rfl rfl (λhk=>?_));refine BF (i:=0) HB rfl rfl (BQ rfl) rfl rfl (cs':=[rB true]) rfl (H':=[.blk hk [rB true] 4,.bld 101 5 ha hq hr,.blk b4 (Ab (Ax v 0)) 54,.blk b1 [rP ha 0] 98]) rfl (Bb (wm rfl (wv (r:=rv (.func (.func 116) #[] #[(.pointer (some ⟨hk,0,none⟩)),(.pointer (some ⟨b1,0,none⟩)),(.pointer (some ⟨b4,0,none⟩))])) (Cb rfl) (ob gv λhi gw gx=>DP (Hr:=[]) Tryz.call90 (ho hk b1 ha hq b4 v true hr (Ax v 0) hi gw) rfl ((A1 (i:=0) rfl).trans (Xx _ ((A1 (i:=2) rfl).trans (Xx _ (Xv _))))) rfl ?_))));rintro _ _ ⟨v85,rfl,rfl⟩;refine Am (ck gx λgy gz=>IM (H1:=[.blk hk [rB hi.1] 4,.blk b1 [rP ha 0] 98,.bld 101 5 ha v85 hi.2,.blk b4 (Ab (Ax v 0)) 54]) 3 [2,5] [⟨[],rP ha 0,1⟩,⟨[],rS ([91,93]:Aw),0⟩,⟨[1],rI .u8 (Cn ([91,93]:Aw) 1),0⟩] (rle [(4,_)]) [22,23,24,2,5] ?_ ?_)
      ·refine of (Bp (i:=1) GX rfl rfl rfl) (oq (A3 rfl) (oq (BH D4 rfl rfl gy) ?_));exact Cr
      refine ck gz λg0 g1=>ck g1 λg3 g4=>CK (rs:=[rP ha 0,rI .u8 (Cn ([91,93]:Aw) 1)]) (Hin:=[.bld 101 5 ha v85 hi.2]) (Hr:=[.blk hk [rB hi.1] 4,.blk b1 [rP ha 0] 98,.blk b4 (Ab (Ax v 0)) 54]) In rfl ((A1 (i:=2) rfl).trans (Xx _ (Xv _))) (C4 ha v85 hi.2 (Cn ([91,93]:Aw) 1) g0 g3) rfl ?_;rintro _ _ ⟨g5,rfl,rfl⟩;refine bd g4 λgE g6 g8=>?_;rw[← g6];refine Ai (A4 ?_);obtain rfl:=Ao g8;exact E5 (NP Rr) (sC (sS (sS (sS sN)))) ⟨g5,rfl,rfl⟩
theorem PT (F:Nat)(hk:Aw→(List Aa)→Option (Aw))(hh:(∀(ha:Nat) (hg:Value) (l:Aw) (v:(List Aa)) (r:Aw),hk l v=some r→Fn Tryz.prog GE 87 [rP ha 0,AJ 4 (A2 Ab v)] [.bld 101 5 ha hg l] (λR H=>∃w0b:Value,R=rv (.tuple #[])∧H=[.bld 101 5 ha w0b r])))(hb:Nat)(he:Nat)(ha:Nat)(hg:Value)(hf:Nat)(key:Aw)(x:(List Aa))(first:Bool)(l:Aw)(c:Aa)(r:Bool×Bool×Aw)(h:LS F hk key x first l c=some r):Fn Tryz.prog GE 116 [rS key,AJ 4 (A2 Ab x),rP hb 0,rP he 0,rP hf 0] [.blk hb [rB first] 4,.blk he [rP ha 0] 98,.bld 101 5 ha hg l,.blk hf (Ab c) 54] (λR H=>∃w3b:Value,R=rB r.1∧H=[.blk hb [rB r.2.1] 4,.blk he [rP ha 0] 98,.bld 101 5 ha w3b r.2.2,.blk hf (Ab c) 54]):=by
 refine enter (n:=23) Tryz.func116 rfl Tryz.ntmps116 rfl (λw Z=>?_);unfold LS at h;refine Af (wa rfl (Am (An (Af (vL 0 Sw rfl (wv (Bu rfl) (Am (cz h rfl (λc1 h2=>?_) (λc1 hw=>?_)))))))))
 ·refine Aj (vL 1 GX rfl (ck h2 λg3 h4=>ck h4 λg5 h6=>CK (rs:=[rP ha 0,rI .u8 44]) (Hin:=[.bld 101 5 ha hg l]) (Hr:=[.blk hb [rB first] 4,.blk he [rP ha 0] 98,.blk hf (Ab c) 54]) In rfl ((A1 (i:=2) rfl).trans (Xx _ (Xv _))) (C4 ha hg l 44 g3 g5) rfl ?_));rintro _ _ ⟨v7,rfl,rfl⟩;refine bd h6 λr8 hx h9=>?_;rw[← hx];refine Bb (BF (i:=1) HB rfl rfl (BQ rfl) rfl rfl (cs':=[rB false]) rfl (H':=[.bld 101 5 ha v7 r8,.blk hb [rB false] 4,.blk he [rP ha 0] 98,.blk hf (Ab c) 54]) rfl (Am (An (Af (vF Bm rfl CF (vL 3 CR rfl (wv (AX rfl rfl) (Am (cz h9 rfl (λhy hz=>?_) (λhy h0=>?_))))))))))
  ·refine Af (vL 2 GX rfl (wm rfl (ob hz λhi h1 h3=>DP (Hr:=[.blk hb [rB false] 4,.blk he [rP ha 0] 98,.blk hf (Ab c) 54]) Tryz.call114 (LZ F ha v7 r8 key hi h1) rfl (Xv _) rfl ?_)));rintro _ _ ⟨hl,rfl,rfl⟩;refine Am (Aj (vL 2 GX rfl (ck h3 λg17 h5=>ck h5 λg19 h7=>CK (rs:=[rP ha 0,rI .u8 58]) (Hin:=[.bld 101 5 ha hl hi]) (Hr:=[.blk hb [rB false] 4,.blk he [rP ha 0] 98,.blk hf (Ab c) 54]) In rfl (Xv _) (C4 ha hl hi 58 g17 g19) rfl ?_)));rintro _ _ ⟨v21,rfl,rfl⟩;refine bd h7 λh8 hA hB=>?_;rw[← hA];refine Bb (vL 2 GX rfl (wm rfl (ob hB λhm hC hD=>DP (Hr:=[.blk hb [rB false] 4,.blk he [rP ha 0] 98,.blk hf (Ab c) 54]) SB (hh ha v21 h8 x hm hC) rfl (Xv _) rfl ?_)));rintro _ _ ⟨hn,rfl,rfl⟩;refine Bb (wa rfl (Am (Aq (CA (H2:=[.blk hb [rB false] 4,.blk he [rP ha 0] 98,.bld 101 5 ha hn hm,.blk hf (Ab c) 54]) ((A1 (i:=1) rfl).trans (Xx _ ((A1 (i:=1) rfl).trans (Xx _ (Xv _))))) ?_))));obtain rfl:=Ao hD;exact Ap (Bs Q7 (A5 rfl)) (sC (sC (sC (sC sN)))) ⟨hn,rfl,rfl⟩
  ·refine At (AD (Af (vL 2 GX rfl (wm rfl (ob h0 λho hE hG=>DP (Hr:=[.blk hb [rB false] 4,.blk he [rP ha 0] 98,.blk hf (Ab c) 54]) SB (hh ha v7 r8 x ho hE) rfl (Xv _) rfl ?_)))));rintro _ _ ⟨hp,rfl,rfl⟩;refine Bb (wa rfl (Am (Aq (CA (H2:=[.blk hb [rB false] 4,.blk he [rP ha 0] 98,.bld 101 5 ha hp ho,.blk hf (Ab c) 54]) ((A1 (i:=1) rfl).trans (Xx _ ((A1 (i:=1) rfl).trans (Xx _ (Xv _))))) ?_))));obtain rfl:=Ao hG;exact Ap (Bs Q7 (A5 rfl)) (sC (sC (sC (sC sN)))) ⟨hp,rfl,rfl⟩
 ·refine At (AD (Af (BF (i:=0) HB rfl rfl (BQ rfl) rfl rfl (cs':=[rB false]) rfl (H':=[.blk hb [rB false] 4,.blk he [rP ha 0] 98,.bld 101 5 ha hg l,.blk hf (Ab c) 54]) rfl (Am (An (Af (vF Bm rfl CF (vL 3 CR rfl (wv (AX rfl rfl) (Am (cz hw rfl (λhH hI=>?_) (λhH hJ=>?_))))))))))))
  ·refine Af (vL 1 GX rfl (wm rfl (ob hI λhj hK hL=>DP (Hr:=[.blk hb [rB false] 4,.blk he [rP ha 0] 98,.blk hf (Ab c) 54]) Tryz.call114 (LZ F ha hg l key hj hK) rfl ((A1 (i:=2) rfl).trans (Xx _ (Xv _))) rfl ?_)));rintro _ _ ⟨hq,rfl,rfl⟩;refine Am (Aj (vL 2 GX rfl (ck hL λhN hO=>ck hO λhP hQ=>CK (rs:=[rP ha 0,rI .u8 58]) (Hin:=[.bld 101 5 ha hq hj]) (Hr:=[.blk hb [rB false] 4,.blk he [rP ha 0] 98,.blk hf (Ab c) 54]) In rfl (Xv _) (C4 ha hq hj 58 hN hP) rfl ?_)));rintro _ _ ⟨hR,rfl,rfl⟩;refine bd hQ λhS hT hU=>?_;rw[← hT];refine Bb (vL 2 GX rfl (wm rfl (ob hU λhr hV hW=>DP (Hr:=[.blk hb [rB false] 4,.blk he [rP ha 0] 98,.blk hf (Ab c) 54]) SB (hh ha hR hS x hr hV) rfl (Xv _) rfl ?_)));rintro _ _ ⟨hs,rfl,rfl⟩;refine Bb (wa rfl (Am (Aq (CA (H2:=[.blk hb [rB false] 4,.blk he [rP ha 0] 98,.bld 101 5 ha hs hr,.blk hf (Ab c) 54]) ((A1 (i:=1) rfl).trans (Xx _ ((A1 (i:=1) rfl).trans (Xx _ (Xv _))))) ?_))));obtain rfl:=Ao hW;exact Ap (Bs Q7 (A5 rfl)) (sC (sC (sC (sC sN)))) ⟨hs,rfl,rfl⟩
  ·refine At (AD (Af (vL 1 GX rfl (wm rfl (ob hJ λht hX hY=>DP (Hr:=[.blk hb [rB false] 4,.blk he [rP ha 0] 98,.blk hf (Ab c) 54]) SB (hh ha hg l x ht hX) rfl ((A1 (i:=2) rfl).trans (Xx _ (Xv _))) rfl ?_)))));rintro _ _ ⟨hu,rfl,rfl⟩;refine Bb (wa rfl (Am (Aq (CA (H2:=[.blk hb [rB false] 4,.blk he [rP ha 0] 98,.bld 101 5 ha hu ht,.blk hf (Ab c) 54]) ((A1 (i:=1) rfl).trans (Xx _ ((A1 (i:=1) rfl).trans (Xx _ (Xv _))))) ?_))));obtain rfl:=Ao hY;exact Ap (Bs Q7 (A5 rfl)) (sC (sC (sC (sC sN)))) ⟨hu,rfl,rfl⟩
theorem PS (F:Nat)(hn:Aw→(List Aa)→Bool→Aw→Aa→Option (Bool×Bool×Aw))(hy:(∀(he:Nat) (hf:Nat) (hb:Nat) (ho:Value) (hg:Nat) (key:Aw) (x:(List Aa)) (first:Bool) (l:Aw) (c:Aa) (r:Bool×Bool×Aw),hn key x first l c=some r→Fn Tryz.prog GE 116 [rS key,AJ 4 (A2 Ab x),rP he 0,rP hf 0,rP hg 0] [.blk he [rB first] 4,.blk hf [rP hb 0] 98,.bld 101 5 hb ho l,.blk hg (Ab c) 54] (λR H=>∃w3b:Value,R=rB r.1∧H=[.blk he [rB r.2.1] 4,.blk hf [rP hb 0] 98,.bld 101 5 hb w3b r.2.2,.blk hg (Ab c) 54])))(he:Nat)(hf:Nat)(hb:Nat)(ho:Value)(hg:Nat)(v:(List Aa))(first:Bool)(l:Aw)(c:Aa)(r:Bool×Aw)(h:LR F hn v first l c=some r):Fn Tryz.prog GE 90 [AJ 4 (A2 Ab v),rv (.func (.func 116) #[] #[(.pointer (some ⟨he,0,none⟩)),(.pointer (some ⟨hf,0,none⟩)),(.pointer (some ⟨hg,0,none⟩))])] [.blk he [rB first] 4,.blk hf [rP hb 0] 98,.bld 101 5 hb ho l,.blk hg (Ab c) 54] (λR H=>∃w1_1b:Value,R=rv (.tuple #[])∧H=[.blk he [rB r.1] 4,.blk hf [rP hb 0] 98,.bld 101 5 hb w1_1b r.2,.blk hg (Ab c) 54]):=by
 refine enter (n:=52) Tryz.func90 rfl Tryz.ntmps90 rfl (λw Z=>?_);unfold LR at h;refine Af (wa rfl (Bb (wm rfl (ck h λg1 h2=>wv (AU (enc:=Ab) (ys:=v) Bv BC rfl rfl g1) (wv (AR Bm rfl B3 rfl rfl) (wv (AM BG rfl rfl) (wv (r:=Al 0) (A3 rfl) (Am (A6 (ob h2 λh8 h9 hs=>Bd (S:=Nat×(Int×Int×Bool×Aw)×(Value)) (V:=(Bool×Aw)×(Value)) 0 (λσ=>Cf (λσ=>HG F v c hn σ.1 σ.2.1 σ.2.2.1 σ.2.2.2) σ.1 σ.2.1=some h8) (λσ=>[(0,AJ 4 (A2 Ab v)),(1,rv (.func (.func 116) #[] #[(.pointer (some ⟨he,0,none⟩)),(.pointer (some ⟨hf,0,none⟩)),(.pointer (some ⟨hg,0,none⟩))])),(4,Al σ.2.1.1),(12,Al ((Ax v 0).fN)),(13,Al σ.2.1.2.1)]) (λσ=>[.blk he [rB σ.2.1.2.2.1] 4,.blk hf [rP hb 0] 98,.bld 101 5 hb σ.2.2 σ.2.1.2.2.2,.blk hg (Ab c) 54]) (λσ=>σ.1) (F,(1,0,first,l),ho) h9 (Az.c5 rfl rfl rfl rfl rfl Az.nil) (sC (sC (sC (sC sN)))) (λσ=>HF σ.1.1 σ.1.2=some r) (λσ=>[]) (λσ=>[.blk he [rB σ.1.1] 4,.blk hf [rP hb 0] 98,.bld 101 5 hb σ.2 σ.1.2,.blk hg (Ab c) 54]) ?_ ?_))))))))))
 ·rintro⟨g2,⟨ha,hp,hj,hk⟩,hl⟩ hA;refine B7 (l':=[(0,AJ 4 (A2 Ab v)),(1,rv (.func (.func 116) #[] #[(.pointer (some ⟨he,0,none⟩)),(.pointer (some ⟨hf,0,none⟩)),(.pointer (some ⟨hg,0,none⟩))])),(4,Al ha),(12,Al ((Ax v 0).fN)),(13,Al hp)]) (H':=[.blk he [rB hj] 4,.blk hf [rP hb 0] 98,.bld 101 5 hb hl hk,.blk hg (Ab c) 54]) rfl rfl ?_;obtain⟨hz,rfl,hB,hq,hm⟩:=Ca hA;replace hq:HG F v c hn ha hp hj hk=some hB:=hq;unfold HG at hq;refine Af (wv (Cl rfl rfl) (Am (An (cz hq rfl (λc175 hC=>?_) (λc175 hD=>?_)))))
  ·refine At (AD (An (A6 (Af (wv (r:=rS ([]:Aw)) (AG rfl) (Am (An (Af (wm rfl (wv (AU (enc:=Ab) (ys:=v) Bv BC rfl rfl g1) (wv (AR Bm rfl CF rfl rfl) (wv (AM CR rfl rfl) (wv (AX rfl rfl) (Am (cz hC rfl (λhE hG=>?_) (λhE hH=>?_))))))))))))))))
   ·refine Af (wm rfl (wm rfl (ck hG λhI hJ=>wv (AU (enc:=Ab) (ys:=v) Bv BC rfl rfl hI) (wv (AR Bm rfl C6 rfl rfl) (wv (AM CG rfl rfl) (wa rfl (Am (Aj (wm rfl (ck hJ λhK hL=>wv (Be rfl rfl hK) (wa rfl (Bb (wm rfl (wm rfl (ck hL λhN hO=>wv (r:=AJ 4 (A2 Ab (List.drop (B0 (ha+1)) v))) (Eg Bv BC rfl rfl hN) (ob hO λhh hP hQ=>BL PO (HL F (List.drop (B0 (ha+1)) v) hh hP) rfl (wm rfl (wv (AC rfl rfl) (wv (AC rfl rfl) ?_)))))))))))))))))));refine wv (AC rfl rfl) (Cm (cs:=[Al 0,Al 0,rB false,rB false]) N8 rfl rfl (λh0=>?_));refine wa rfl (Bh (i:=0) Gz rfl rfl rfl (BU.c rfl) rfl rfl (cs':=[Al hh.2.1.fDepth,Al hh.2.1.fBytes,rB hh.2.1.fOutside,rB hh.2.1.fLong]) rfl (H':=[.blk h0 (AN hh.2.1) 86,.blk he [rB hj] 4,.blk hf [rP hb 0] 98,.bld 101 5 hb hl hk,.blk hg (Ab c) 54]) rfl (wa rfl (Am (An (Af (wm rfl (wm rfl (wm rfl (wm rfl (wm rfl (wm rfl (ck hQ λht hR=>wv (Be rfl rfl ht) (wm rfl (wm rfl (wv (Be rfl rfl ht) (ck hR λhS hT=>ck hT λhU hV=>wv (r:=AJ 4 (A2 Ab (List.take (B0 ((ha+1)+hh.1)-B0 (ha+1)) (List.drop (B0 (ha+1)) v)))) (E6 Bv BC rfl rfl rfl rfl hS hU) (ob hV λhu hW hX=>CX (rs:=[rS ((Ax v ha).fStr),AJ 4 (A2 Ab (List.take (B0 ((ha+1)+hh.1)-B0 (ha+1)) (List.drop (B0 (ha+1)) v)))]) (Hin:=[.blk he [rB hj] 4,.blk hf [rP hb 0] 98,.bld 101 5 hb hl hk,.blk hg (Ab c) 54]) (Hr:=[.blk h0 (AN hh.2.1) 86]) Tryz.call116 rfl rfl ((A1 (i:=1) rfl).trans (Xx _ ((A1 (i:=1) rfl).trans (Xx _ ((A1 (i:=1) rfl).trans (Xx _ ((A1 (i:=1) rfl).trans (Xx _ (Xv _))))))))) (hy he hf hb hl hg ((Ax v ha).fStr) (List.take (B0 ((ha+1)+hh.1)-B0 (ha+1)) (List.drop (B0 (ha+1)) v)) hj hk c hu hW) rfl ?_)))))))))))))))));rintro _ _ ⟨h1,rfl,rfl⟩;refine wv (Bu rfl) (Am (cz hX rfl (λhY hZ=>?_) (λhY ga=>?_)))
    ·refine Aq (Ac (Au (Ac (Ac (AP ?_)))));have gb:=Bg hZ hm hs;refine Au ?_;obtain rfl:=Ao gb;exact Ap (NP NA) (sC (sC (sC (sC (sS sN))))) ⟨h1,rfl,rfl⟩
    ·refine At (AD (Aj (wm rfl (wm rfl (wv (Be rfl rfl ht) (wa rfl (Ai (A4 (AD (Aj (ck ga λgc gd=>wv (Be rfl rfl gc) (wm rfl (Ai ?_)))))))))))));have ge:=AW gd hm;exact As (Ar (hz,((ha+1)+hh.1,hp+1,hu.2.1,hu.2.2),h1) ⟨ge,X0 _⟩ (Az.c5 rfl rfl rfl rfl rfl Az.nil) (sC (sC (sC (sC (sS sN))))))
   ·refine At (AD (Af (wm rfl (wm rfl (ck hH λgf gg=>wv (r:=AJ 4 (A2 Ab (List.drop (B0 ha) v))) (Eg Bv BC rfl rfl gf) (ob gg λhi gh gi=>BL PO (HL F (List.drop (B0 ha) v) hi gh) rfl (wm rfl (wv (AC rfl rfl) (wv (AC rfl rfl) (wv (AC rfl rfl) (Cm (cs:=[Al 0,Al 0,rB false,rB false]) N8 rfl rfl (λh3=>?_))))))))))));refine wa rfl (Bh (i:=0) Gz rfl rfl rfl (BU.c rfl) rfl rfl (cs':=[Al hi.2.1.fDepth,Al hi.2.1.fBytes,rB hi.2.1.fOutside,rB hi.2.1.fLong]) rfl (H':=[.blk h3 (AN hi.2.1) 86,.blk he [rB hj] 4,.blk hf [rP hb 0] 98,.bld 101 5 hb hl hk,.blk hg (Ab c) 54]) rfl (wa rfl (Am (An (Af (wm rfl (wm rfl (wm rfl (wm rfl (wm rfl (wm rfl (ck gi λhw gj=>wv (Be rfl rfl hw) (wm rfl (wm rfl (wv (Be rfl rfl hw) (ck gj λgl gm=>ck gm λgp gq=>wv (r:=AJ 4 (A2 Ab (List.take (B0 (ha+hi.1)-B0 ha) (List.drop (B0 ha) v)))) (E6 Bv BC rfl rfl rfl rfl gl gp) (ob gq λhx gr gs=>CX (rs:=[rS ([]:Aw),AJ 4 (A2 Ab (List.take (B0 (ha+hi.1)-B0 ha) (List.drop (B0 ha) v)))]) (Hin:=[.blk he [rB hj] 4,.blk hf [rP hb 0] 98,.bld 101 5 hb hl hk,.blk hg (Ab c) 54]) (Hr:=[.blk h3 (AN hi.2.1) 86]) Tryz.call116 rfl rfl ((A1 (i:=1) rfl).trans (Xx _ ((A1 (i:=1) rfl).trans (Xx _ ((A1 (i:=1) rfl).trans (Xx _ ((A1 (i:=1) rfl).trans (Xx _ (Xv _))))))))) (hy he hf hb hl hg ([]:Aw) (List.take (B0 (ha+hi.1)-B0 ha) (List.drop (B0 ha) v)) hj hk c hx gr) rfl ?_)))))))))))))))));rintro _ _ ⟨h4,rfl,rfl⟩;refine wv (Bu rfl) (Am (cz gs rfl (λgt gu=>?_) (λgt gv=>?_)))
    ·refine Aq (Ac (Au (Ac (Ac (AP ?_)))));have gw:=Bg gu hm hs;refine Au ?_;obtain rfl:=Ao gw;exact Ap (NP NA) (sC (sC (sC (sC (sS sN))))) ⟨h4,rfl,rfl⟩
    ·refine At (AD (Aj (wm rfl (wm rfl (wv (Be rfl rfl hw) (wa rfl (Ai (A4 (AD (Aj (ck gv λgx gy=>wv (Be rfl rfl gx) (wm rfl (Ai ?_)))))))))))));have gz:=AW gy hm;exact As (Ar (hz,(ha+hi.1,hp+1,hx.2.1,hx.2.2),h4) ⟨gz,X0 _⟩ (Az.c5 rfl rfl rfl rfl rfl Az.nil) (sC (sC (sC (sC (sS sN))))))
  ·refine Bl (Ay ?_);have g0:=BB hD hm hs;exact Ay (AS (Ar ((hj,hk),hl) g0 Az.nil (sC (sC (sC (sC sN))))))
 ·rintro⟨⟨h5,h6⟩,h7⟩ hr;refine Ce (l':=[]) (H':=[.blk he [rB h5] 4,.blk hf [rP hb 0] 98,.bld 101 5 hb h7 h6,.blk hg (Ab c) 54]) rfl rfl ?_;replace hr:HF h5 h6=some r:=hr;unfold HF at hr;refine AV ?_;obtain rfl:=Ao hr;exact E5 (NP NA) (sC (sC (sC (sC sN)))) ⟨h7,rfl,rfl⟩
theorem Gj:∀F:Nat,(∀(ha:Nat) (hb:Value) (l:Aw) (v:(List Aa)) (r:Aw),Jq F l v=some r→Fn Tryz.prog GE 87 [rP ha 0,AJ 4 (A2 Ab v)] [.bld 101 5 ha hb l] (λR H=>∃w0b:Value,R=rv (.tuple #[])∧H=[.bld 101 5 ha w0b r]))∧(∀(he:Nat) (hf:Nat) (ha:Nat) (hb:Value) (hg:Nat) (key:Aw) (x:(List Aa)) (first:Bool) (l:Aw) (c:Aa) (r:Bool×Bool×Aw),HH F key x first l c=some r→Fn Tryz.prog GE 116 [rS key,AJ 4 (A2 Ab x),rP he 0,rP hf 0,rP hg 0] [.blk he [rB first] 4,.blk hf [rP ha 0] 98,.bld 101 5 ha hb l,.blk hg (Ab c) 54] (λR H=>∃w3b:Value,R=rB r.1∧H=[.blk he [rB r.2.1] 4,.blk hf [rP ha 0] 98,.bld 101 5 ha w3b r.2.2,.blk hg (Ab c) 54]))∧(∀(he:Nat) (hf:Nat) (ha:Nat) (hb:Value) (hg:Nat) (v:(List Aa)) (first:Bool) (l:Aw) (c:Aa) (r:Bool×Aw),J7 F v first l c=some r→Fn Tryz.prog GE 90 [AJ 4 (A2 Ab v),rv (.func (.func 116) #[] #[(.pointer (some ⟨he,0,none⟩)),(.pointer (some ⟨hf,0,none⟩)),(.pointer (some ⟨hg,0,none⟩))])] [.blk he [rB first] 4,.blk hf [rP ha 0] 98,.bld 101 5 ha hb l,.blk hg (Ab c) 54] (λR H=>∃w1_1b:Value,R=rv (.tuple #[])∧H=[.blk he [rB r.1] 4,.blk hf [rP ha 0] 98,.bld 101 5 ha w1_1b r.2,.blk hg (Ab c) 54]))
  | 0=>⟨(λ_ _ _ _ _ h=>by simp[Jq] at h),(λ_ _ _ _ _ _ _ _ _ _ _ h=>by simp[HH] at h),(λ_ _ _ _ _ _ _ _ _ _ h=>by simp[J7] at h)⟩
  | nn+1=>⟨(λha hb l v r h=>Rx nn (HH nn) (J7 nn) (Gj nn).2.1 (Gj nn).2.2 ha hb l v r (by rw[Jq] at h;exact h)),(λhe hf ha hb hg key x first l c r h=>PT nn (Jq nn) (Gj nn).1 he hf ha hb hg key x first l c r (by rw[HH] at h;exact h)),(λhe hf ha hb hg v first l c r h=>PS nn (HH nn) (Gj nn).2.1 he hf ha hb hg v first l c r (by rw[J7] at h;exact h))⟩
theorem SK (F:Nat)(ha:Nat)(hb:Value)(l:Aw)(v:(List Aa))(r:Aw)(h:Jq F l v=some r):Fn Tryz.prog GE 87 [rP ha 0,AJ 4 (A2 Ab v)] [.bld 101 5 ha hb l] (λR H=>∃w0b:Value,R=rv (.tuple #[])∧H=[.bld 101 5 ha w0b r]):=(Gj F).1 ha hb l v r h
theorem R2 (F:Nat)(v:(List Aa))(r:Aw×Int)(h:NK F v=some r):Fn Tryz.prog GE 49 [AJ 4 (A2 Ab v)] [] (λR H=>R=Dx [rS r.1,Al r.2]∧H=[]):=by
 refine enter (n:=14) Tryz.func49 rfl Tryz.ntmps49 rfl (λw Z=>?_);unfold NK at h;refine Af (wv (r:=rS ([]:Aw)) (AG rfl) (wa rfl (Am (An (Af (wm rfl (ob h λr1 e3 h2=>BL MR (DR F v r1 e3) rfl (wa rfl (Bb (wm rfl (wv (Bo rfl rfl) (Am (cz h2 rfl (λc4 h5=>?_) (λc4 h6=>?_))))))))))))))
 ·refine Af (wm rfl (wv (r:=rS ([]:Aw)) (AG rfl) (wa rfl (Am (Aq (Ac ?_))))));obtain rfl:=Ao h5;exact Ap (Eb Tryz.results49 (A5 rfl) (A5 rfl)) sN ⟨rfl,rfl⟩
 ·refine At (AD (Af (Cm (cs:=[rv (.pointer none),rv (.slice none 0 0)]) Tryz.zeroValue101 rfl rfl (λb7=>?_))));refine Bb (wm rfl (WL.tobld (te:=5) (i:=0) rfl (ob h6 λr8 hb h9=>DP (Hr:=[]) SB (SK F b7 (.slice none 0 0) ([]:Aw) v r8 hb) rfl (Xv _) rfl ?_)));rintro _ _ ⟨ha,rfl,rfl⟩;refine Bb (ck h9 λhe hf=>CK (rs:=[rP b7 0]) (Hin:=[.bld 101 5 b7 ha r8]) (Hr:=[]) Tryz.call88 rfl (Xv _) (Sq b7 ha r8  he) rfl ?_);rintro _ _ ⟨rfl,rfl⟩;refine wa rfl (wa rfl (Am (Aq ?_)));obtain rfl:=Ao hf;exact Ap (Eb Tryz.results49 (A5 rfl) (A5 rfl)) sN ⟨rfl,rfl⟩
end Go.Proofs.YtghdglcmblpbeaaGreatDoor.Q
namespace Go.Proofs.YtghdglcmblpbeaaGreatDoor
open Go
set_option linter.unusedVariables false
structure A0 where
 fS:Aw
 fAt:Int
 fCells:(List Aa)
 fGreat:Bool
 deriving DecidableEq,Inhabited
def G5 (s:Aw)(p:Aw):Option (Bool):=
 AY (imp (decide ((p.length:Int)≤(s.length:Int))) (G0 (p.length:Int) (s.length:Int)))<|some ((decide ((p.length:Int)≤(s.length:Int)))&&(decide ((List.take (Int.toNat (p.length:Int)) s)=p)))
def Dn (s:Aw)(p:Aw):Option (Bool):=
 Bf (G5 s p) λr1=>some r1
def ED (q:A0)(s:Aw):Option (Bool×A0):=
 AY (G0 q.fAt (q.fS.length:Int))<|Bf (Dn (List.drop (Int.toNat q.fAt) q.fS) s) λr3=>AO (!r3) (some (false,q)) (AY (BN .i64 (q.fAt+(s.length:Int)))<|some (true,(A0.mk q.fS (q.fAt+(s.length:Int)) q.fCells q.fGreat)))
def Iw (ha:(List Int))(hb:Int)(he:Int):Option (Stp ((List Int)×Int) (Out (Aw×Bool×A0) (Int))):=
 AY (Ge 1 (ha.length+([hb]:List Int).length))<|some (.next (ha++([hb]:List Int),he))
def JA (r1:Bool×A0)(hb:(List Int))(ha:Int):Option (Stp ((List Int)×Int) (Out (Aw×Bool×A0) (Int))):=
 AO (decide (ha<(r1.2.fS.length:Int))) (AY (C3 ha (r1.2.fS.length:Int))<|AY (BN .i64 (ha+1))<|AO (decide ((Cn r1.2.fS ha)=34)) (some (.out (.ret (Vo hb,true,(A0.mk r1.2.fS (ha+1) r1.2.fCells r1.2.fGreat))))) (AO (((decide ((Cn r1.2.fS ha)<32))||(decide (126<(Cn r1.2.fS ha))))) (some (.out (.ret (([]:Aw),false,(A0.mk r1.2.fS (ha+1) r1.2.fCells r1.2.fGreat))))) (AO (decide ((Cn r1.2.fS ha)=92)) (AY (imp (!(decide ((r1.2.fS.length:Int)≤(ha+1)))) (C3 (ha+1) (r1.2.fS.length:Int)))<|AO (((decide ((r1.2.fS.length:Int)≤(ha+1)))||((!decide ((Cn r1.2.fS (ha+1))=34))&&(!decide ((Cn r1.2.fS (ha+1))=92))))) (some (.out (.ret (([]:Aw),false,(A0.mk r1.2.fS (ha+1) r1.2.fCells r1.2.fGreat))))) (AY (C3 (ha+1) (r1.2.fS.length:Int))<|AY (BN .i64 ((ha+1)+1))<|Iw hb (Cn r1.2.fS (ha+1)) ((ha+1)+1))) (Iw hb (Cn r1.2.fS ha) (ha+1))))) (some (.out (.go ha)))
def J9 (r1:Bool×A0)(ha:Int):Option (Aw×Bool×A0):=
 some (([]:Aw),false,(A0.mk r1.2.fS ha r1.2.fCells r1.2.fGreat))
def QC (F:Nat)(q:A0):Option (Aw×Bool×A0):=
 Bf (ED q ([34]:Aw)) λr1=>AO (!r1.1) (some (([]:Aw),false,r1.2)) (Bf (Cf (λσ=>JA r1 σ.1 σ.2) F (([]:List Int),r1.2.fAt)) (BS λν=>J9 r1 ν))
def JC (r1:Bool×A0)(ha:Int):Option (Stp (Int) (Out (Bool×A0) (Int))):=
 AY (imp (decide (ha<(r1.2.fS.length:Int))) (C3 ha (r1.2.fS.length:Int)))<|AO (((decide (ha<(r1.2.fS.length:Int)))&&((decide (48≤(Cn r1.2.fS ha)))&&(decide ((Cn r1.2.fS ha)≤57))))) (AY (BN .i64 (ha+1))<|some (.next (ha+1))) (some (.out (.go ha)))
def JB (q:A0)(r1:Bool×A0)(ha:Int):Option (Bool×A0):=
 AY (G0 q.fAt ha)<|AY (G0 ha (r1.2.fS.length:Int))<|AY (Ge 1 (List.take (Int.toNat ha-Int.toNat q.fAt) (List.drop (Int.toNat q.fAt) r1.2.fS)).length)<|AO (((decide ((CM (List.take (Int.toNat ha-Int.toNat q.fAt) (List.drop (Int.toNat q.fAt) r1.2.fS)))=1))||(decide (r1.2.fAt=ha)))) (some (false,(A0.mk r1.2.fS ha r1.2.fCells r1.2.fGreat))) (AY (Ge 40 (r1.2.fCells.length+([(Aa.mk 3 (CU (List.take (Int.toNat ha-Int.toNat q.fAt) (List.drop (Int.toNat q.fAt) r1.2.fS))) ([]:Aw) 0)]:List Aa).length))<|some (true,(A0.mk r1.2.fS ha (r1.2.fCells++([(Aa.mk 3 (CU (List.take (Int.toNat ha-Int.toNat q.fAt) (List.drop (Int.toNat q.fAt) r1.2.fS))) ([]:Aw) 0)]:List Aa)) (r1.2.fGreat||(!decide ((CM (List.take (Int.toNat ha-Int.toNat q.fAt) (List.drop (Int.toNat q.fAt) r1.2.fS)))=0))))))
def SL (F:Nat)(q:A0):Option (Bool×A0):=
 Bf (ED q ([45]:Aw)) λr1=>Bf (Cf (λσ=>JC r1 σ) F r1.2.fAt) (BS λν=>JB q r1 ν)
def D5 (ha:Aw)(hb:Int)(he:(List Aa))(hf:Bool):Option (Bool×A0):=
 some (true,(A0.mk ha hb he hf))
def LX (F:Nat)(q:A0):Option (Bool×A0):=
 Bf (ED q ([110,117,108,108]:Aw)) λhe=>AO (he.1) (AY (Ge 40 (he.2.fCells.length+([(Aa.mk 1 0 ([]:Aw) 0)]:List Aa).length))<|D5 he.2.fS he.2.fAt (he.2.fCells++([(Aa.mk 1 0 ([]:Aw) 0)]:List Aa)) he.2.fGreat) (Bf (ED he.2 ([116,114,117,101]:Aw)) λhf=>AO (hf.1) (AY (Ge 40 (hf.2.fCells.length+([(Aa.mk 2 1 ([]:Aw) 0)]:List Aa).length))<|D5 hf.2.fS hf.2.fAt (hf.2.fCells++([(Aa.mk 2 1 ([]:Aw) 0)]:List Aa)) hf.2.fGreat) (Bf (ED hf.2 ([102,97,108,115,101]:Aw)) λha=>AO (ha.1) (AY (Ge 40 (ha.2.fCells.length+([(Aa.mk 2 0 ([]:Aw) 0)]:List Aa).length))<|D5 ha.2.fS ha.2.fAt (ha.2.fCells++([(Aa.mk 2 0 ([]:Aw) 0)]:List Aa)) ha.2.fGreat) (AY (G0 ha.2.fAt (ha.2.fS.length:Int))<|Bf (Dn (List.drop (Int.toNat ha.2.fAt) ha.2.fS) ([34]:Aw)) λhh=>AO (hh) (Bf (QC F ha.2) λhb=>AO (!hb.2.1) (some (false,hb.2.2)) (AY (Ge 40 (hb.2.2.fCells.length+([(Aa.mk 4 0 hb.1 0)]:List Aa).length))<|D5 hb.2.2.fS hb.2.2.fAt (hb.2.2.fCells++([(Aa.mk 4 0 hb.1 0)]:List Aa)) hb.2.2.fGreat)) (Bf (SL F ha.2) λhg=>some (hg.1,hg.2)))))
def HJ (hh:A0→Option (Bool×A0))(he:(List Aa))(hf:Int)(hi:Aw)(hj:Int)(hk:(List Aa))(hl:Bool):Option (Stp (Int×Aw×Int×(List Aa)×Bool) (Out (Bool×A0) (Unit))):=
 Bf (hh (A0.mk hi hj hk hl)) λha=>AO (!ha.1) (some (.out (.ret (false,ha.2)))) (AY (C3 (he.length:Int) (ha.2.fCells.length:Int))<|Ku (List.set ha.2.fCells (Int.toNat (he.length:Int)) (Aa.mk ((Ax ha.2.fCells (he.length:Int)).fKind) ((Ax ha.2.fCells (he.length:Int)).fInt) ((Ax ha.2.fCells (he.length:Int)).fStr) hf)) λhm=>Bf (ED (A0.mk ha.2.fS ha.2.fAt hm ha.2.fGreat) ([93]:Aw)) λhg=>AO (hg.1) (some (.out (.ret (true,hg.2)))) (Bf (ED hg.2 ([44]:Aw)) λhb=>AO (!hb.1) (some (.out (.ret (false,hb.2)))) (AY (BN .i64 (hf+1))<|some (.next (hf+1,hb.2.fS,hb.2.fAt,hb.2.fCells,hb.2.fGreat)))))
def LW :Option (Bool×A0):=
 none
def Ee (hm:A0→Option (Bool×A0))(he:(List Aa))(hf:Int)(hg:Aw×Bool×A0)(hp:Bool)(hq:Bool)(hn:Bool)(hj:Aw)(hk:Int)(hh:(List Aa))(hl:Bool):Option (Stp (Aw×Int×Aw×Int×(List Aa)×Bool) (Out (Bool×A0) (Unit))):=
 AO (hn) (some (.out (.ret (false,(A0.mk hj hk hh hl))))) (AY (Ge 40 (hh.length+([(Aa.mk 4 0 hg.1 0)]:List Aa).length))<|Bf (hm (A0.mk hj hk (hh++([(Aa.mk 4 0 hg.1 0)]:List Aa)) hl)) λha=>AO (!ha.1) (some (.out (.ret (false,ha.2)))) (AY (C3 (he.length:Int) (ha.2.fCells.length:Int))<|Ku (List.set ha.2.fCells (Int.toNat (he.length:Int)) (Aa.mk ((Ax ha.2.fCells (he.length:Int)).fKind) ((Ax ha.2.fCells (he.length:Int)).fInt) ((Ax ha.2.fCells (he.length:Int)).fStr) hf)) λho=>Bf (ED (A0.mk ha.2.fS ha.2.fAt ho ha.2.fGreat) ([125]:Aw)) λhi=>AO (hi.1) (some (.out (.ret (true,hi.2)))) (Bf (ED hi.2 ([44]:Aw)) λhb=>AO (!hb.1) (some (.out (.ret (false,hb.2)))) (AY (BN .i64 (hf+1))<|some (.next (hg.1,hf+1,hb.2.fS,hb.2.fAt,hb.2.fCells,hb.2.fGreat))))))
def HI (F:Nat)(hh:A0→Option (Bool×A0))(hi:(List Aa))(hb:Aw)(he:Int)(hj:Aw)(hk:Int)(hl:(List Aa))(hm:Bool):Option (Stp (Aw×Int×Aw×Int×(List Aa)×Bool) (Out (Bool×A0) (Unit))):=
 Bf (QC F (A0.mk hj hk hl hm)) λha=>AO (!ha.2.1) (Ee hh hi he ha true true true ha.2.2.fS ha.2.2.fAt ha.2.2.fCells ha.2.2.fGreat) (AO (decide (1<he)) (AO (Di ha.1 hb||decide (ha.1=hb)) (Ee hh hi he ha (Di ha.1 hb||decide (ha.1=hb)) (Di ha.1 hb||decide (ha.1=hb)) true ha.2.2.fS ha.2.2.fAt ha.2.2.fCells ha.2.2.fGreat) (Bf (ED ha.2.2 ([58]:Aw)) λhf=>Ee hh hi he ha (Di ha.1 hb||decide (ha.1=hb)) (Di ha.1 hb||decide (ha.1=hb)) (!hf.1) hf.2.fS hf.2.fAt hf.2.fCells hf.2.fGreat)) (Bf (ED ha.2.2 ([58]:Aw)) λhg=>Ee hh hi he ha false false (!hg.1) hg.2.fS hg.2.fAt hg.2.fCells hg.2.fGreat))
def LV :Option (Bool×A0):=
 none
def Gk (F:Nat)(hi:A0→Option (Bool×A0))(r1:Bool×A0)(hk:Bool)(hf:Aw)(hg:Int)(ha:(List Aa))(hh:Bool):Option (Bool×A0):=
 AO (hk) (Bf (LX F (A0.mk hf hg ha hh)) λhj=>some (hj.1,hj.2)) (AO (r1.1) (AY (Ge 40 (ha.length+([(Aa.mk 5 0 ([]:Aw) 0)]:List Aa).length))<|Bf (ED (A0.mk hf hg (ha++([(Aa.mk 5 0 ([]:Aw) 0)]:List Aa)) hh) ([93]:Aw)) λhb=>AO (hb.1) (some (true,hb.2)) (Bf (Cf (λσ=>HJ hi ha σ.1 σ.2.1 σ.2.2.1 σ.2.2.2.1 σ.2.2.2.2) F (1,hb.2.fS,hb.2.fAt,hb.2.fCells,hb.2.fGreat)) (BS λν=>LW ))) (AY (Ge 40 (ha.length+([(Aa.mk 6 0 ([]:Aw) 0)]:List Aa).length))<|Bf (ED (A0.mk hf hg (ha++([(Aa.mk 6 0 ([]:Aw) 0)]:List Aa)) hh) ([125]:Aw)) λhe=>AO (he.1) (some (true,he.2)) (Bf (Cf (λσ=>HI F hi ha σ.1 σ.2.1 σ.2.2.1 σ.2.2.2.1 σ.2.2.2.2.1 σ.2.2.2.2.2) F (([]:Aw),1,he.2.fS,he.2.fAt,he.2.fCells,he.2.fGreat)) (BS λν=>LV ))))
def LU (F:Nat)(hb:A0→Option (Bool×A0))(q:A0):Option (Bool×A0):=
 Bf (ED q ([91]:Aw)) λr1=>AO (!r1.1) (Bf (ED r1.2 ([123]:Aw)) λha=>Gk F hb r1 (!ha.1) ha.2.fS ha.2.fAt ha.2.fCells ha.2.fGreat) (Gk F hb r1 false r1.2.fS r1.2.fAt r1.2.fCells r1.2.fGreat)
def HK:Nat→A0→Option (Bool×A0)
 | 0,_=>none
 | nn+1,q=>LU nn (HK nn) q
def Gm (F:Nat)(hb:Bool)(hg:Aw)(hh:Int)(he:(List Aa))(hf:Bool):Option ((List Aa)×Int):=
 AO (hb) (some (([]:List Aa),1)) (AO (hf) (some (([]:List Aa),2)) (Bf (EE F he) λha=>some (ha.1,ha.2)))
def NL (F:Nat)(s:Aw):Option ((List Aa)×Int):=
 AO (decide (4000<(s.length:Int))) (some (([]:List Aa),3)) (Bf (HK F (A0.mk s 0 ([]:List Aa) false)) λha=>AO (!ha.1) (Gm F true ha.2.fS ha.2.fAt ha.2.fCells ha.2.fGreat) (Gm F (!decide (ha.2.fAt=(s.length:Int))) ha.2.fS ha.2.fAt ha.2.fCells ha.2.fGreat))
end Go.Proofs.YtghdglcmblpbeaaGreatDoor
