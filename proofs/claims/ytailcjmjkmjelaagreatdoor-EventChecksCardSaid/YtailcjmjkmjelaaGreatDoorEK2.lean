/-
  Texts of the proof, put together: PlC, IdC, ShelfV, PlD, PlE, FwJ, IdR, TzL, QG, QS, QO, RowQ, PQB, WQB, PVa, WVa, PVb, WVb, PVc.
-/
import Derived.Test.YtailcjmjkmjelaaGreatDoorEK1
import Derived.Lib.AtoiAllCases
import Derived.Lib.ItoaNum
import Derived.Lib.ItoaLen
import Derived.Shelf.Strings.Builder1
import Derived.Shelf.Strings.Count
import Derived.Shelf.Strings.Search1
import Derived.Shelf.Strings.Search2
import Derived.Shelf.Strings.Search3
import Derived.Shelf.Small.Strs
import Derived.Shelf.Strings.Repeat
import Derived.Shelf.LaysM
import Derived.Shelf.LaysC
import Derived.Test.YtailcjmjkmjelaaGreatDoorProg
import Derived.Lib.ItoaMem
import Derived.Shelf.Lays7
import Derived.Shelf.Spec.TrailingZeros
import Derived.Laws.BytesString
import Derived.Lib.Builder
import Derived.Lib.UnsafeStr
import Derived.Lib.AppendStr
import Derived.Laws.Externs
import Derived.Deep.Slices
import Derived.ChangeArms
import Derived.DataReads
import Derived.Laws.Tables
import Derived.Lib.Bytealg
import Derived.Lib.SmallJoins
namespace Go.Proofs.YtailcjmjkmjelaaGreatDoor
open Go
def R6 (p:List UInt8):Bool:=decide ((0:Int)<p.length)&&decide (AY p 0=45)
def KS (p:List UInt8):List UInt8:=if R6 p=true then p.drop 1 else p
theorem QW (p:List UInt8):(KS p).length≤p.length:=by unfold KS;split<;>simp
def DZ (_:Nat)(u:UInt8):Bool:=!(decide ((u.toNat:Int)<48)||decide (57<(u.toNat:Int)))
def Md (p:List UInt8):Bool:=!(decide (KS p=[])||(decide (AY (KS p) 0=48)&&!decide (p=[48])))&&Be DZ 0 (KS p)
theorem EX {p:List UInt8}(h : ¬ p=[]):(0:Int)<p.length:=by
 cases p with
 | nil=>exact absurd rfl h
 | cons a r=>simp
theorem HI {p:List UInt8}{k:Nat}(h:(k:Int)<p.length):∃u,p[k]? =some u:=⟨p[k]'(by omega),Us (by omega)⟩
theorem QX {p:List UInt8}{k:Nat}(hi:k≤p.length∧Be DZ 0 p=Be DZ k (p.drop k))(h:(k:Int)<p.length)(ht:(decide (AY p k<48)||decide (57<AY p k))=false) :
  (k+1≤p.length∧Be DZ 0 p=Be DZ (k+1) (p.drop (k+1)))∧p.length-(k+1)<p.length-k:=by
 obtain⟨u,hu⟩:=HI h;rw[Mi hu] at ht;exact M0 hi hu (by simp only[DZ,ht];rfl)
theorem Ta {p:List UInt8}{k:Nat}(hi:k≤p.length∧Be DZ 0 p=Be DZ k (p.drop k))(h:(k:Int)<p.length)(ht:(decide (AY p k<48)||decide (57<AY p k))=true):Be DZ 0 p=false:=by
 obtain⟨u,hu⟩:=HI h;rw[Mi hu] at ht;exact Qe hi hu (by simp only[DZ,ht];rfl)
theorem Se {p:List UInt8}{k:Nat}(hi:k≤p.length∧Be DZ 0 p=Be DZ k (p.drop k))(h : ¬ (k:Int)<p.length):Be DZ 0 p=true:=NX hi (by omega)
def Eh (p:List UInt8)(m:Int):Nat→Int
 | 0=>-1
 | k+1=>if AY p k=m then k else Eh p m k
def Cp (p:List UInt8)(m:Int):Int:=Eh p m p.length
theorem L5 (p:List UInt8)(m:Int):∀k,-1≤Eh p m k∧Eh p m k<k
 | 0=>by simp[Eh]
 | k+1=>by
  have:=L5 p m k;unfold Eh
  split<;>omega
theorem Q9 (p:List UInt8)(m:Int) : -1≤Cp p m∧Cp p m<p.length:=L5 p m _
theorem Q7 {p:List UInt8}{m:Int}{k:Nat}(hi:k≤p.length∧Cp p m=Eh p m k)(h:(0:Int)≤(k:Int)-1)(ht:AY p ((k:Int)-1)=m):(k:Int)-1=Cp p m:=by
 obtain⟨j,rfl⟩:∃j,k=j+1:=⟨k-1,by omega⟩
 have e:((j+1:Nat):Int)-1=j:=by omega
 rw[e] at ht ⊢;rw[hi.2,Eh,if_pos ht]
theorem Pk {p:List UInt8}{m:Int}{k:Nat}(hi:k≤p.length∧Cp p m=Eh p m k)(h:(0:Int)≤(k:Int)-1)(ht : ¬ AY p ((k:Int)-1)=m):(k-1≤p.length∧Cp p m=Eh p m (k-1))∧k-1<k:=by
 obtain⟨j,rfl⟩:∃j,k=j+1:=⟨k-1,by omega⟩
 have e:((j+1:Nat):Int)-1=j:=by omega
 rw[e] at ht;refine⟨⟨by omega,?_⟩,by omega⟩;rw[hi.2,Eh,UV ht];rfl
theorem Q8 {p:List UInt8}{m:Int}{k:Nat}(hi:k≤p.length∧Cp p m=Eh p m k)(h : ¬ (0:Int)≤(k:Int)-1):(-1:Int)=Cp p m:=by
 obtain rfl:k=0:=by omega
 rw[hi.2];rfl
def BK (p:List UInt8):Int:=if Md p=true then(match Lib.atoiAll p with | .ok v=>if Ja v=true then 0 else 2 | _=>2) else 1
def Bs (p:List UInt8):Int:=if Md p=true then(match Lib.atoiAll p with | .ok v=>if Ja v=true then v else 0 | _=>0) else 0
theorem KT:∀(l:List UInt8) (i acc:Nat),Be DZ i l=true→(∃u,Lib.parseUint10 acc l = .ok u)∨Lib.parseUint10 acc l = .range
 | [],_,acc,_=>.inl ⟨acc,rfl⟩
 | c::r,i,acc,h=>by
  simp only[Be,Uq] at h;have hc:48≤c.toNat∧c.toNat≤57:=by have:=h.1;simp[DZ] at this;omega
  unfold Lib.parseUint10;rw[if_pos hc]
  split
  ·exact .inr rfl
  ·split
   ·exact .inr rfl
   ·exact KT r _ _ h.2
theorem Ol {l:List UInt8}(hne:l≠[])(h:Be DZ 0 l=true):(∃u,Lib.parseMag l = .ok u)∨Lib.parseMag l = .range:=by
 unfold Lib.parseMag;rw[UV hne];exact KT l 0 0 h
theorem LK {e:Lib.NumEnd Nat}(h:(∃u,e = .ok u)∨e = .range):(∃v,Lib.signless e = .ok v)∨Lib.signless e = .range:=by
 rcases h with⟨u,rfl⟩ | rfl
 ·unfold Lib.signless
  by_cases h:9223372036854775808≤u
  ·exact .inr (by simp[h])
  ·exact .inl ⟨_,by simp[h];rfl⟩
 ·exact .inr rfl
theorem N1 {e:Lib.NumEnd Nat}(h:(∃u,e = .ok u)∨e = .range):(∃v,Lib.signed e = .ok v)∨Lib.signed e = .range:=by
 rcases h with⟨u,rfl⟩ | rfl
 ·unfold Lib.signed
  by_cases h:9223372036854775808<u
  ·exact .inr (by simp[h])
  ·exact .inl ⟨_,by simp[h];rfl⟩
 ·exact .inr rfl
theorem Rg {p:List UInt8}(h:Md p=true):(∃v,Lib.atoiAll p = .ok v∧-9223372036854775808≤v∧v≤9223372036854775807)∨Lib.atoiAll p = .range:=by
 have key:(∃v,Lib.atoiAll p = .ok v)∨Lib.atoiAll p = .range:=by
  simp only[Md,Uq,U5,UO,Um] at h;obtain⟨⟨hne,_⟩,hall⟩:=h
  cases p with
  | nil=>simp[KS,R6] at hne
  | cons c r=>
   by_cases hc:c=45
   ·subst hc;have hd:KS (45::r)=r:=by simp[KS,R6,AY]
    rw[hd] at hne hall;rw[Lib.atoiAll_minus];exact N1 (Ol hne hall)
   ·have hb : ¬ AY (c::r) 0=45:=by
     simp only[AY,Int.toNat_zero,List.getElem?_cons_zero,UK];intro e;exact hc (UInt8.toNat_inj.1 (by simpa using(by omega:c.toNat=45)))
    have hd:KS (c::r)=c::r:=by simp[KS,R6,hb]
    rw[hd] at hne hall;have ha:48≤c.toNat:=by
     simp only[Be,Uq] at hall;have:=hall.1;simp[DZ] at this;omega
    rw[Lib.atoiAll_plain c r (by omega) (by omega)];exact LK (Ol hne hall)
 rcases key with⟨v,hv⟩ | h
 ·exact .inl ⟨v,hv,Lib.atoiAll_bounds hv⟩
 ·exact .inr h
theorem Qn (p:List UInt8) : -1000000000000≤Bs p∧Bs p≤1000000000000:=by
 unfold Bs
 split
 ·split
  ·split
   ·rename_i h;simp[Ja] at h;omega
   ·omega
  ·omega
 ·omega
theorem MS (m:Int)(h0 : -9223372036854775808≤m)(h1:m≤9223372036854775807):(Lib.itoa m).length≤21:=Lib.itoa_length_le m h0 h1
def Jp (b:Bool)(p:List UInt8):List UInt8:=if b=true then p else[]
def Gg (id:List UInt8)(m:Int):List UInt8:=id++[46]++Lib.itoa m
def CN (id:List UInt8)(m:Int):Int:=if Cs id=true then(if 0≤m∧m≤1000000000000 then(if (Gg id m).length≤64 then 0 else 3) else 2) else 4
def C4 (id:List UInt8)(m:Int):List UInt8:=if CN id m=0 then Gg id m else[]
def GO (s:List UInt8):List UInt8:=s.take (Cp s 46).toNat
def IF (s:List UInt8):List UInt8:=s.drop (Cp s 46+1).toNat
def CZ (s:List UInt8):Bool:=decide (0≤Cp s 46)&&decide (BK (IF s)=0)&&decide (CN (GO s) (Bs (IF s))=0)&&decide (C4 (GO s) (Bs (IF s))=s)
theorem NL (id:List UInt8)(m:Int):(C4 id m).length≤64:=by
 unfold C4
 split
 ·rename_i h
  unfold CN at h
  split at h
  ·split at h
   ·split at h
    ·assumption
    ·omega
   ·omega
  ·omega
 ·simp
open Go Go.RowKit
set_option linter.unusedVariables false
set_option linter.unusedSimpArgs false
set_option maxRecDepth 100000
theorem P2 (p:List UInt8)(hp:p.length≤281474976710656)(w:World):Calls Tryz.prog 53 [.string (B (p))].toArray w (E3 w (.bool (Md p))):=by
 refine Dv (n:=43) Tryz.func53 rfl Tryz.ntmps53 rfl (Am (Ai (An (Ae rfl) rfl (Aj (Ap (A6 ?_))))));refine Am (Ai (An (Ah rfl) rfl (An (Ae rfl) rfl (Aj (Ap (A6 ?_))))));refine AB [(0,.string (B (p))),(2,.bool (false)),(3,.string (B ((if ((decide ((0)<((p.length:Int))))&&(decide ((AY p 0)=(45))))=true then List.drop (Int.toNat (1)) p else p))))] [] (φ:=True) ?_ (λh7=>?_)
 ·refine AB [(0,.string (B (p))),(2,.bool (false)),(3,.string (B (p))),(13,.bool (((decide ((0)<((p.length:Int))))&&(decide ((AY p 0)=(45))))))] [] (φ:=True) ?_ (λh8=>?_)
  ·refine Ai (An (Ah rfl) rfl (An (AZ Ce rfl) rfl (An (C1 rfl rfl) rfl (An (Ah rfl) rfl (A7 (decide ((0)<((p.length:Int)))) (λhe=>?_) (λhe=>?_))))))
   ·have hl:=he;try simp only[Un,Um] at hl
    have hm:=he;try simp at hm
    refine AQ rfl rfl he (An (Ah rfl) rfl (AQ rfl rfl he (An (Bb Ce rfl rfl (by first | omega | exact EX (by assumption)) (by first | omega | exact EX (by assumption))) rfl (AQ rfl rfl he (An (Bh rfl rfl) rfl (An (Ao rfl he rfl) rfl (Aj ?_)))))));exact Ap (Bc trivial ⟨rfl,rfl,rfl,fb (by first | (simp only[he,U3,U6,UF,U4,UB,U8,UD,U9,Uy,U7,Uz,Uu,UW,UT,reduceIte,UA];done) | simp[he]),trivial⟩ .slnil)
   ·have hl:=he;try simp only[Un,Um] at hl
    have hm:=he;try simp at hm
    refine Ag rfl rfl he rfl (Ag rfl rfl he rfl (Ag rfl rfl he rfl (An (Ar rfl he rfl) rfl (Aj ?_))));exact Ap (Bc trivial ⟨rfl,rfl,rfl,fb (by first | (simp only[he,U3,U6,UF,U4,UB,U8,UD,U9,Uy,U7,Uz,Uu,UW,UT,reduceIte,UA];done) | simp[he]),trivial⟩ .slnil)
  refine Au (b:=((decide ((0)<((p.length:Int))))&&(decide ((AY p 0)=(45))))) rfl (λhh=>?_) (λhh=>?_)
  ·have hn:=hh;try simp only[Un,Um] at hn
   have ho:=hh;try simp at ho
   refine Ai (An (Ah rfl) rfl (An (Dr Ce rfl rfl (by first | omega | (simp;omega)) (by first | omega | (simp;omega))) rfl (An (Ae rfl) rfl (Aj ?_))));exact Ap (Bc trivial ⟨rfl,rfl,fs (by first | (simp only[hh,U3,U6,UF,U4,UB,U8,UD,U9,Uy,U7,Uz,Uu,UW,UT,reduceIte,UA];done) | simp[hh]),trivial⟩ .slnil)
  ·have hn:=hh;try simp only[Un,Um] at hn
   have ho:=hh;try simp at ho
   refine Aw ?_;exact Ap (Bc trivial ⟨rfl,rfl,fs (by first | (simp only[hh,U3,U6,UF,U4,UB,U8,UD,U9,Uy,U7,Uz,Uu,UW,UT,reduceIte,UA];done) | simp[hh]),trivial⟩ .slnil)
 have hdg:KS p=(if ((decide ((0)<((p.length:Int))))&&(decide ((AY p 0)=(45))))=true then List.drop (Int.toNat (1)) p else p):=rfl;have hdl:=QW p;rw[hdg] at hdl;generalize(if ((decide ((0)<((p.length:Int))))&&(decide ((AY p 0)=(45))))=true then List.drop (Int.toNat (1)) p else p)=dg at hdg hdl ⊢;refine Am (AB [(2,.bool (false)),(3,.string (B (dg))),(26,.bool (((decide ((dg)=(([]:List UInt8))))||((decide ((AY dg 0)=(48)))&&(!(decide ((p)=(([48]:List UInt8)))))))))] [] (φ:=True) ?_ (λh9=>?_))
 ·refine Ai (An (Ah rfl) rfl (An (Co rfl rfl) rfl (An (Ah rfl) rfl (A7 (decide ((dg)=(([]:List UInt8)))) (λha=>?_) (λha=>?_)))))
  ·have hq:=ha;try simp only[Un,Um] at hq
   have hr:=ha;try simp at hr
   refine Ag rfl rfl ha rfl (Ag rfl rfl ha rfl (Ag rfl rfl ha rfl (Ag rfl rfl ha rfl (D6 rfl rfl rfl (D6 rfl rfl rfl (Ag rfl rfl ha rfl (An (Ao rfl ha rfl) rfl (Aj ?_))))))));exact Ap (Bc trivial ⟨rfl,rfl,fb (by first | (simp only[ha,U3,U6,UF,U4,UB,U8,UD,U9,Uy,U7,Uz,Uu,UW,UT,reduceIte,UA];done) | simp[ha]),trivial⟩ .slnil)
  ·have hq:=ha;try simp only[Un,Um] at hq
   have hr:=ha;try simp at hr
   refine AQ rfl rfl ha (An (Ah rfl) rfl (AQ rfl rfl ha (An (Bb Ce rfl rfl (by first | omega | exact EX (by assumption)) (by first | omega | exact EX (by assumption))) rfl (AQ rfl rfl ha (An (Bh rfl rfl) rfl (AQ rfl rfl ha (An (Ah rfl) rfl (A7 (decide ((AY dg 0)=(48))) (λhf=>?_) (λhf=>?_)))))))))
   ·have hs:=hf;try simp only[Un,Um] at hs
    have ht:=hf;try simp at ht
    refine AQ rfl rfl hf (An (Ah rfl) rfl (AQ rfl rfl hf (An (KF rfl rfl) rfl (AQ rfl rfl ha (An (Ao rfl hf rfl) rfl (An (Ar rfl ha rfl) rfl (Aj ?_)))))));exact Ap (Bc trivial ⟨rfl,rfl,fb (by first | (simp only[ha,hf,U3,U6,UF,U4,UB,U8,UD,U9,Uy,U7,Uz,Uu,UW,UT,reduceIte,UA];done) | simp[ha,hf]),trivial⟩ .slnil)
   ·have hs:=hf;try simp only[Un,Um] at hs
    have ht:=hf;try simp at ht
    refine Ag rfl rfl hf rfl (Ag rfl rfl hf rfl (AQ rfl rfl ha (An (Ar rfl hf rfl) rfl (An (Ar rfl ha rfl) rfl (Aj ?_)))));exact Ap (Bc trivial ⟨rfl,rfl,fb (by first | (simp only[ha,hf,U3,U6,UF,U4,UB,U8,UD,U9,Uy,U7,Uz,Uu,UW,UT,reduceIte,UA];done) | simp[ha,hf]),trivial⟩ .slnil)
 refine Au (b:=((decide ((dg)=(([]:List UInt8))))||((decide ((AY dg 0)=(48)))&&(!(decide ((p)=(([48]:List UInt8)))))))) rfl (λhg=>?_) (λhg=>?_)
 ·have hu:=hg;try simp only[Un,Um] at hu
  have hw:=hg;try simp at hw
  refine Am (Ai (An (Ae rfl) rfl (Aj (Ap (A6 ?_)))));refine Ay (Af (Ax (BG rfl rfl) ?_));exact D3 (by simp only[Md,hdg,hg];rfl)
 ·have hu:=hg;try simp only[Un,Um] at hu
  have hw:=hg;try simp at hw
  refine Aw (Ap (A6 ?_));refine Am (Am (Ai (An (Ah rfl) rfl (An (AZ Ce rfl) rfl (An (Ah rfl) rfl (Aj (Ap (A6 ?_))))))));refine AJ (GC (S:=Nat) (λ(k:Nat)=>k≤dg.length∧Be DZ 0 dg=Be DZ k (dg.drop k)) (λ(k:Nat)=>[(29,.int .i64 ((k:Int))),(3,.string (B (dg))),(28,.int .i64 ((dg.length:Int)))]) (λ(k:Nat)=>[]) (λ(k:Nat)=>dg.length-k) (0) ?_ ⟨fi (by first | rfl | (simp;done) | omega | (simp;omega)),rfl,rfl,trivial⟩ .slnil ?_)
  ·exact⟨UU _,by simp⟩
  rintro k hi0;refine Am (Ai (An (C8 rfl rfl) rfl (Aj (Ap (A6 ?_)))));refine Am (Au (b:=decide (((k:Int))<((dg.length:Int)))) rfl (λhi=>?_) (λhi=>?_))
  ·have hk:=hi;try simp only[Un,Um] at hk
   have hx:=hi;try simp at hx
   refine Aw (Ap (A6 ?_));refine Am (AJ (Am (Ai (An (Ah rfl) rfl (An (Ae rfl) rfl (Aj (Ap (A6 ?_))))))));refine AB [(3,.string (B (dg))),(4,.int .i64 ((k:Int))),(28,.int .i64 ((dg.length:Int))),(29,.int .i64 ((k:Int))),(30,.bool (decide (((k:Int))<((dg.length:Int))))),(31,.int .i64 ((k:Int))),(32,.string (B (dg))),(33,.int .i64 ((k:Int))),(34,.int .u8 (AY dg (k:Int))),(35,.bool (decide ((AY dg (k:Int))<(48)))),(36,.bool (decide ((AY dg (k:Int))<(48)))),(41,.bool (((decide ((AY dg (k:Int))<(48)))||(decide ((57)<(AY dg (k:Int)))))))] [] (φ:=True) ?_ (λhA=>?_)
   ·refine Ai (An (Ah rfl) rfl (An (Ah rfl) rfl (An (Bb Ce rfl rfl (by first | omega | exact EX (by assumption)) (by first | omega | exact EX (by assumption))) rfl (An (C8 rfl rfl) rfl (An (Ah rfl) rfl (A7 (decide ((AY dg (k:Int))<(48))) (λhd=>?_) (λhd=>?_)))))))
    ·have hy:=hd;try simp only[Un,Um] at hy
     have hz:=hd;try simp at hz
     refine Ag rfl rfl hd rfl (Ag rfl rfl hd rfl (Ag rfl rfl hd rfl (Ag rfl rfl hd rfl (An (Ao rfl hd rfl) rfl (Aj ?_)))));exact Ap (Bc trivial ⟨rfl,rfl,rfl,rfl,rfl,rfl,rfl,rfl,rfl,rfl,rfl,fb (by first | (simp only[hg,hi,hd,U3,U6,UF,U4,UB,U8,UD,U9,Uy,U7,Uz,Uu,UW,UT,reduceIte,UA];done) | simp[hg,hi,hd]),trivial⟩ .slnil)
    ·have hy:=hd;try simp only[Un,Um] at hy
     have hz:=hd;try simp at hz
     refine AQ rfl rfl hd (An (Ah rfl) rfl (AQ rfl rfl hd (An (Ah rfl) rfl (AQ rfl rfl hd (An (Bb Ce rfl rfl (by first | omega | exact EX (by assumption)) (by first | omega | exact EX (by assumption))) rfl (AQ rfl rfl hd (An (C1 rfl rfl) rfl (An (Ar rfl hd rfl) rfl (Aj ?_)))))))));exact Ap (Bc trivial ⟨rfl,rfl,rfl,rfl,rfl,rfl,rfl,rfl,rfl,rfl,rfl,fb (by first | (simp only[hg,hi,hd,U3,U6,UF,U4,UB,U8,UD,U9,Uy,U7,Uz,Uu,UW,UT,reduceIte,UA];done) | simp[hg,hi,hd]),trivial⟩ .slnil)
   refine Au (b:=((decide ((AY dg (k:Int))<(48)))||(decide ((57)<(AY dg (k:Int)))))) rfl (λhj=>?_) (λhj=>?_)
   ·have h0:=hj;try simp only[Un,Um] at h0
    have h6:=hj;try simp at h6
    refine Am (Ai (An (Ae rfl) rfl (Aj (Ap (A6 ?_)))));refine Ay (A5 (Af (Af (A5 (Af (Ax (BG rfl rfl) ?_))))));exact D3 (by simp[Md,hdg,Ta hi0 hk hj])
   ·have h0:=hj;try simp only[Un,Um] at h0
    have h6:=hj;try simp at h6
    refine Aw (AG (Ap (A6 ?_)));refine Ai (An (Bu rfl rfl (IntWalk.i64_in _ (by omega))) rfl (An (Ah rfl) rfl (Aj (Ap (AI (k+1) ?_ ⟨fi (by first | rfl | (simp;done) | omega | (simp;omega)),rfl,rfl,trivial⟩ .slnil)))));exact QX hi0 hk hj
  ·have hk:=hi;try simp only[Un,Um] at hk
   have hx:=hi;try simp at hx
   refine B4 (A4 (A4 (Bi (Ap (A6 ?_)))));refine Am (Ai (An (Ae rfl) rfl (Aj (Ap (A6 ?_)))));refine Ay (Ax (BG rfl rfl) ?_);exact D3 (by simp only[Md,hdg,hg,Se hi0 hk];rfl)
theorem MV (m:Int)(h0 : -9223372036854775808≤m)(h1:m≤9223372036854775807)(w:World)(hE:Nn w):Calls Tryz.prog 20 [.int .i64 (m)].toArray w (E3 w (.string (B (Lib.itoa m)))):=by
 refine Dv (n:=5) Tryz.func20 rfl Tryz.ntmps20 rfl (Am (Ai (An (Ae rfl) rfl (Aj (Ap (A6 ?_))))));refine Am (Ai (An (Ah rfl) rfl (BD Tryz.call44 rfl (λw hw=>QC m (by omega) (by omega) w (hE.st0 hw)) rfl (An (Ae rfl) rfl (Aj (Ap (A6 ?_)))))));refine Ay (Ax (BG rfl rfl) ?_);exact D3 (by first | rfl | simp[])
theorem Of (p:List UInt8)(hp:p.length≤281474976710656)(w:World)(hE:Nn w):Calls Tryz.prog 35 [.string (B (p))].toArray w (E3 w (.tuple #[.int .i64 (Bs p),.int .i64 (BK p)])):=by
 refine Dv (n:=22) Tryz.func35 rfl Tryz.ntmps35 rfl (Am (Ai (An (Ae rfl) rfl (An (Ae rfl) rfl (Aj (Ap (A6 ?_)))))));refine Am (Am (Ai (An (Ah rfl) rfl (BD Tryz.call53 rfl (λw hw=>P2 p (by first | omega | (simp;done) | (simp;omega) | (simp at *;omega)) w) rfl (An (BL rfl) rfl (Aj (Ap (A6 ?_))))))));refine Au (b:=!(Md p)) rfl (λhd=>?_) (λhd=>?_)
 ·have hg:=hd;try simp only[Un,Um] at hg
  have ha:=hd;try simp only[Un,Um,Uq,UR,U5,Ve,UX,UO,not_or,Int.not_lt,Int.not_le] at ha
  refine Am (Ai (An (Ae rfl) rfl (An (Ae rfl) rfl (Aj (Ap (A6 ?_))))));refine Ay (Af (Ax (El rfl rfl rfl) ?_));exact D3 (by simp[Bs,BK,ha])
 ·have hg:=hd;try simp only[Un,Um] at hg
  have ha:=hd;try simp only[Un,Um,Uq,UR,U5,Ve,UX,UO,not_or,Int.not_lt,Int.not_le] at ha
  refine Aw (Ap (A6 ?_));refine Am (Ai (An (Ah rfl) rfl ?_));rcases Rg (p:=p) (by assumption) with⟨av,hav,hal,hah⟩ | hav
  ·refine BD Tryz.call54 rfl (λw _=>Sh p (by first | omega | (simp;done) | (simp;omega) | (simp at *;omega)) av hav w) rfl (An (Ah rfl) rfl (An (AD rfl rfl) rfl (An (AD rfl rfl) rfl (An (Ae rfl) rfl (An (Ae rfl) rfl (Aj (Ap (A6 ?_))))))));refine Am (AB [(2,.int .i64 (0)),(3,.int .i64 (0)),(4,.int .i64 (av)),(20,.bool (!(Ja av)))] [] (φ:=True) ?_ (λhi=>?_))
   ·exact Ai (An (Ah rfl) rfl (An (MI Tryz.underlying81 rfl) rfl (An (Ah rfl) rfl (AQ rfl rfl rfl (An (Ah rfl) rfl (AQ rfl rfl rfl (BD Tryz.call55 rfl (λw hw=>Rx av w) rfl (AQ rfl rfl rfl (An (BL rfl) rfl (An (Ar rfl rfl rfl) rfl (Aj (Ap (Bc trivial ⟨rfl,rfl,rfl,rfl,trivial⟩ .slnil)))))))))))))
   refine Au (b:=!(Ja av)) rfl (λhe=>?_) (λhe=>?_)
   ·have hh:=he;try simp only[Un,Um] at hh
    have hf:=he;try simp only[Un,Um,Uq,UR,U5,Ve,UX,UO,not_or,Int.not_lt,Int.not_le] at hf
    refine Am (Ai (An (Ae rfl) rfl (An (Ae rfl) rfl (Aj (Ap (A6 ?_))))));refine Ay (Af (Ax (El rfl rfl rfl) ?_));exact D3 (by simp[Bs,BK,hav,ha,hf])
   ·have hh:=he;try simp only[Un,Um] at hh
    have hf:=he;try simp only[Un,Um,Uq,UR,U5,Ve,UX,UO,not_or,Int.not_lt,Int.not_le] at hf
    refine Aw (Ap (A6 ?_));refine Am (Ai (An (Ah rfl) rfl (An (Ae rfl) rfl (An (Ae rfl) rfl (Aj (Ap (A6 ?_)))))));refine Ay (Ax (El rfl rfl rfl) ?_);exact D3 (by simp[Bs,BK,hav,ha,hf])
  ·refine Rw Tryz.call54 rfl (λw hw=>NQ p (by first | omega | (simp;done) | (simp;omega) | (simp at *;omega)) hav w (hE.st0 hw)) rfl ?_;rintro _ _ ⟨am,at_,ab,rfl,rfl⟩;refine An (Ah rfl) rfl (An (AD rfl rfl) rfl (An (AD rfl rfl) rfl (An (Ae rfl) rfl (An (Ae rfl) rfl (Aj (Ap (A6 ?_)))))));refine Am (AB [(2,.int .i64 (0)),(3,.int .i64 (0)),(4,.int .i64 (am)),(20,.bool (true))] [] (φ:=True) ?_ (λhj=>?_))
   ·exact Ai (An (Ah rfl) rfl (An (RF Tryz.underlying81 rfl) rfl (An (Ah rfl) rfl (Ag rfl rfl rfl rfl (Ag rfl rfl rfl rfl (Ag rfl rfl rfl rfl (An (Ao rfl rfl rfl) rfl (Aj (Ap (Bc trivial ⟨rfl,rfl,rfl,rfl,trivial⟩ .slnil))))))))))
   refine Ed rfl rfl (Am (Ai (An (Ae rfl) rfl (An (Ae rfl) rfl (Aj (Ap (A6 ?_)))))));refine Ay (Af (Ax (El rfl rfl rfl) ?_));exact D3 (by simp[Bs,BK,hav,ha])
theorem RK (p:List UInt8)(m:Int)(hp:p.length≤281474976710656)(w:World):Calls Tryz.prog 86 [.string (B (p)),.int .u8 (m)].toArray w (E3 w (.int .i64 (Cp p m))):=by
 refine Dv (n:=19) Tryz.func86 rfl Tryz.ntmps86 rfl (Am (Ai (An (Ae rfl) rfl (Aj (Ap (A6 ?_))))));refine Am (Am (Ai (An (Ah rfl) rfl (An (AZ Ce rfl) rfl (An (EV rfl rfl (IntWalk.i64_in _ (by omega))) rfl (An (Ae rfl) rfl (Aj (Ap (A6 ?_)))))))));refine AJ (GC (S:=Nat) (λ(k:Nat)=>k≤p.length∧Cp p m=Eh p m k) (λ(k:Nat)=>[(5,.int .i64 ((k:Int)-1)),(0,.string (B (p))),(1,.int .u8 (m))]) (λ(k:Nat)=>[]) (λ(k:Nat)=>k) (p.length) ?_ ⟨fi (by first | rfl | (simp;done) | omega | (simp;omega)),rfl,rfl,trivial⟩ .slnil ?_)
 ·exact⟨UG _,rfl⟩
 rintro k hi0;refine Am (Am (Ai (An (Ah rfl) rfl (An (ER rfl rfl) rfl (Aj (Ap (A6 ?_)))))));refine Au (b:=decide ((0)≤((k:Int)-1))) rfl (λhd=>?_) (λhd=>?_)
 ·have ha:=hd;try simp only[Un,Um] at ha
  have hg:=hd;try simp at hg
  refine Aw (Ap (A6 ?_));refine Am (AJ (Am (Ai (An (Ah rfl) rfl (An (Ah rfl) rfl (An (Bb Ce rfl rfl (by first | omega | (simp;omega) | (simp at *;omega)) (by first | omega | (simp;omega) | (simp at *;omega))) rfl (An (Ah rfl) rfl (An (Bh rfl rfl) rfl (Aj (Ap (A6 ?_)))))))))));refine Au (b:=decide ((AY p ((k:Int)-1))=(m))) rfl (λhe=>?_) (λhe=>?_)
  ·have hf:=he;try simp only[Un,Um] at hf
   have hh:=he;try simp at hh
   refine Am (Ai (An (Ah rfl) rfl (An (Ae rfl) rfl (Aj (Ap (A6 ?_))))));refine Ay (A5 (Af (Af (A5 (Af (Ax (BG rfl rfl) ?_))))));exact D3 (by rw[← Q7 hi0 ha hf])
  ·have hf:=he;try simp only[Un,Um] at hf
   have hh:=he;try simp at hh
   refine Aw (AG (Ap (A6 ?_)));refine Ai (An (Ah rfl) rfl (An (EV rfl rfl (IntWalk.i64_in _ (by omega))) rfl (An (Ae rfl) rfl (Aj (Ap (AI (k-1) ?_ ⟨fi (by first | rfl | (simp;done) | omega | (simp;omega)),rfl,rfl,trivial⟩ .slnil))))));exact Pk hi0 ha hf
 ·have ha:=hd;try simp only[Un,Um] at ha
  have hg:=hd;try simp at hg
  refine B4 (A4 (A4 (Bi (Ap (A6 ?_)))));refine Am (Ai (An (Ae rfl) rfl (Aj (Ap (A6 ?_)))));refine Ay (Ax (BG rfl rfl) ?_);exact D3 (by rw[← Q8 hi0 ha])
theorem SI (p:List UInt8)(m:Int)(hp:p.length≤281474976710656)(w:World):Calls Tryz.prog 58 [.string (B (p)),.int .u8 (m)].toArray w (E3 w (.int .i64 (Cp p m))):=by
 refine Dv (n:=8) Tryz.func58 rfl Tryz.ntmps58 rfl (Am (Ai (An (Ae rfl) rfl (Aj (Ap (A6 ?_))))));refine Am (Ai (An (Ah rfl) rfl (An (Ah rfl) rfl (BD Tryz.call86 rfl (λw hw=>RK p m (by first | omega | (simp;done) | (simp;omega) | (simp at *;omega)) w) rfl (An (Ae rfl) rfl (Aj (Ap (A6 ?_))))))));refine Ay (Ax (BG rfl rfl) ?_);exact D3 (by first | rfl | simp[])
theorem O4 (p:List UInt8)(m:Int)(hp:p.length≤281474976710656)(w:World)(hE:Nn w):Calls Tryz.prog 37 [.string (B (p)),.int .i64 (m)].toArray w (E3 w (.tuple #[.string (B (C4 p m)),.int .i64 (CN p m)])):=by
 refine Dv (n:=25) Tryz.func37 rfl Tryz.ntmps37 rfl (Am (Ai (An (Ae rfl) rfl (An (Ae rfl) rfl (Aj (Ap (A6 ?_)))))));refine Am (Am (Ai (An (Ah rfl) rfl (BD Mq rfl (λw hw=>T8 p w) rfl (An (BL rfl) rfl (Aj (Ap (A6 ?_))))))));refine Au (b:=!(Cs p)) rfl (λhd=>?_) (λhd=>?_)
 ·have hg:=hd;try simp only[Un,Um] at hg
  have hh:=hd;try simp at hh
  refine Am (Ai (An (Ae rfl) rfl (An (Ae rfl) rfl (Aj (Ap (A6 ?_))))));refine Ay (Af (Ax (El rfl rfl rfl) ?_));have e:CN p m=4:=by simp only[CN,Gg];grind
  exact D3 (by simp[C4,e,Gg,B])
 ·have hg:=hd;try simp only[Un,Um] at hg
  have hh:=hd;try simp at hh
  refine Aw (Ap (A6 ?_));refine Am (AB [(0,.string (B (p))),(1,.int .i64 (m)),(4,.string (B ([]))),(5,.int .i64 (0)),(15,.bool (((decide ((m)<(0)))||(decide ((1000000000000)<(m))))))] [] (φ:=True) ?_ (λho=>?_))
  ·refine Ai (An (Ah rfl) rfl (An (C8 rfl rfl) rfl (An (Ah rfl) rfl (A7 (decide ((m)<(0))) (λha=>?_) (λha=>?_)))))
   ·have hi:=ha;try simp only[Un,Um] at hi
    have hj:=ha;try simp at hj
    refine Ag rfl rfl ha rfl (Ag rfl rfl ha rfl (An (Ao rfl ha rfl) rfl (Aj ?_)));exact Ap (Bc trivial ⟨rfl,rfl,rfl,rfl,fb (by first | (simp only[hd,ha,U3,U6,UF,U4,UB,U8,UD,U9,Uy,U7,Uz,Uu,UW,UT,reduceIte,UA];done) | simp[hd,ha]),trivial⟩ .slnil)
   ·have hi:=ha;try simp only[Un,Um] at hi
    have hj:=ha;try simp at hj
    refine AQ rfl rfl ha (An (Ah rfl) rfl (AQ rfl rfl ha (An (C1 rfl rfl) rfl (An (Ar rfl ha rfl) rfl (Aj ?_)))));exact Ap (Bc trivial ⟨rfl,rfl,rfl,rfl,fb (by first | (simp only[hd,ha,U3,U6,UF,U4,UB,U8,UD,U9,Uy,U7,Uz,Uu,UW,UT,reduceIte,UA];done) | simp[hd,ha]),trivial⟩ .slnil)
  refine Au (b:=((decide ((m)<(0)))||(decide ((1000000000000)<(m))))) rfl (λhe=>?_) (λhe=>?_)
  ·have hk:=he;try simp only[Un,Um] at hk
   have hl:=he;try simp at hl
   refine Am (Ai (An (Ae rfl) rfl (An (Ae rfl) rfl (Aj (Ap (A6 ?_))))));refine Ay (Af (Ax (El rfl rfl rfl) ?_));have e:CN p m=2:=by simp only[CN,Gg];grind
   exact D3 (by simp[C4,e,Gg,B])
  ·have hk:=he;try simp only[Un,Um] at hk
   have hl:=he;try simp at hl
   refine Aw (Ap (A6 ?_));refine Am (Ai (An (Ah rfl) rfl (An (Cz rfl rfl (by simp;omega)) rfl (An (Ah rfl) rfl (BD Tryz.call20 rfl (λw hw=>MV m (by omega) (by omega) w (hE.st0 hw)) rfl ?_)))));have hq:=MS m (by omega) (by omega);refine An (Cz rfl rfl (by simp;omega)) rfl (An (Ae rfl) rfl (Aj (Ap (A6 ?_))));refine Am (Am (Ai (An (Ah rfl) rfl (An (AZ Ce rfl) rfl (An (C1 rfl rfl) rfl (Aj (Ap (A6 ?_))))))));refine Au (b:=decide ((64)<((((p++[46])++(Lib.itoa m)).length:Int)))) rfl (λhf=>?_) (λhf=>?_)
   ·have hm:=hf;try simp only[Un,Um] at hm
    have hn:=hf;try simp at hn
    refine Am (Ai (An (Ae rfl) rfl (An (Ae rfl) rfl (Aj (Ap (A6 ?_))))));refine Ay (Af (Ax (El rfl rfl rfl) ?_));have e:CN p m=3:=by simp only[CN,Gg];grind
    exact D3 (by simp[C4,e,Gg,B])
   ·have hm:=hf;try simp only[Un,Um] at hm
    have hn:=hf;try simp at hn
    refine Aw (Ap (A6 ?_));refine Am (Ai (An (Ah rfl) rfl (An (Ae rfl) rfl (An (Ae rfl) rfl (Aj (Ap (A6 ?_)))))));refine Ay (Ax (El rfl rfl rfl) ?_);have e:CN p m=0:=by simp only[CN,Gg];grind
    exact D3 (by simp[C4,e,Gg,B])
theorem Qq (p:List UInt8)(hp:p.length≤281474976710656)(w:World)(hE:Nn w):Calls Tryz.prog 39 [.string (B (p))].toArray w (E3 w (.tuple #[.string (B (Jp (CZ p) (GO p))),.int .i64 ((if CZ p=true then Bs (IF p) else(0:Int))),.bool (CZ p)])):=by
 refine Dv (n:=43) Tryz.func39 rfl Tryz.ntmps39 rfl (Am (Ai (An (Ae rfl) rfl (An (Ae rfl) rfl (An (Ae rfl) rfl (Aj (Ap (A6 ?_))))))));refine Am (Ai (An (Ah rfl) rfl (BD Tryz.call58 rfl (λw hw=>SI p (46:Int) (by first | omega | (simp;done) | (simp;omega) | (simp at *;omega)) w) rfl ?_)));have ho:=Q9 p 46;refine An (Ae rfl) rfl (Aj (Ap (A6 ?_)));refine Am (Am (Ai (An (Ah rfl) rfl (An (C8 rfl rfl) rfl (Aj (Ap (A6 ?_)))))));refine Au (b:=decide ((Cp p 46)<(0))) rfl (λhd=>?_) (λhd=>?_)
 ·have hg:=hd;try simp only[Un,Um] at hg
  have hh:=hd;try simp at hh
  refine Am (Ai (An (Ae rfl) rfl (An (Ae rfl) rfl (An (Ae rfl) rfl (Aj (Ap (A6 ?_)))))));refine Ay (Af (Ax (Rl rfl rfl rfl rfl) ?_));have hr:CZ p=false:=by simp only[CZ,GO,IF];grind
  exact D3 (by simp only[hr,Jp,GO,IF];rfl)
 ·have hg:=hd;try simp only[Un,Um] at hg
  have hh:=hd;try simp at hh
  refine Aw (Ap (A6 ?_));refine Am (Ai (An (Ah rfl) rfl (An (Ah rfl) rfl (An (Bu rfl rfl (IntWalk.i64_in _ (by omega))) rfl (An (Dr Ce rfl rfl (by first | omega | (simp;omega)) (by first | omega | (simp;omega))) rfl (BD Tryz.call35 rfl (λw hw=>Of (List.drop (Int.toNat ((Cp p 46)+1)) p) (by first | omega | (simp;done) | (simp;omega) | (simp at *;omega)) w (hE.st0 hw)) rfl ?_))))));have hq:=Qn (List.drop (Int.toNat ((Cp p 46)+1)) p);refine An (Ah rfl) rfl (An (AD rfl rfl) rfl (An (AD rfl rfl) rfl (An (Ae rfl) rfl (An (Ae rfl) rfl (Aj (Ap (A6 ?_)))))));refine Am (Am (Ai (An (Ah rfl) rfl (An (DB rfl rfl) rfl (Aj (Ap (A6 ?_)))))));refine Au (b:=!(decide ((BK (List.drop (Int.toNat ((Cp p 46)+1)) p))=(0)))) rfl (λhe=>?_) (λhe=>?_)
  ·have hi:=he;try simp only[Un,Um] at hi
   have hj:=he;try simp at hj
   refine Am (Ai (An (Ae rfl) rfl (An (Ae rfl) rfl (An (Ae rfl) rfl (Aj (Ap (A6 ?_)))))));refine Ay (Af (Ax (Rl rfl rfl rfl rfl) ?_));have hr:CZ p=false:=by simp only[CZ,GO,IF];grind
   exact D3 (by simp only[hr,Jp,GO,IF];rfl)
  ·have hi:=he;try simp only[Un,Um] at hi
   have hj:=he;try simp at hj
   refine Aw (Ap (A6 ?_));refine Am (Am (Ai (An (Ah rfl) rfl (An (Ah rfl) rfl (An (EI Ce rfl rfl (by first | omega | (simp;omega)) (by first | omega | (simp;omega))) rfl (An (Ah rfl) rfl (BD Tryz.call37 rfl (λw hw=>O4 (List.take (Int.toNat (Cp p 46)) p) (Bs (List.drop (Int.toNat ((Cp p 46)+1)) p)) (by first | omega | (simp;done) | (simp;omega) | (simp at *;omega) | (split<;>first | omega | (simp;omega))) w (hE.st0 hw)) rfl ?_)))))));have hs:=NL (List.take (Int.toNat (Cp p 46)) p) (Bs (List.drop (Int.toNat ((Cp p 46)+1)) p));refine An (Ah rfl) rfl (An (AD rfl rfl) rfl (An (AD rfl rfl) rfl (An (Ae rfl) rfl (An (Ae rfl) rfl (Aj (Ap (A6 ?_)))))));refine AB [(0,.string (B (p))),(2,.string (B ([]))),(3,.int .i64 (0)),(4,.bool (false)),(5,.int .i64 (Cp p 46)),(6,.int .i64 (Bs (List.drop (Int.toNat ((Cp p 46)+1)) p))),(38,.bool (((!(decide ((CN (List.take (Int.toNat (Cp p 46)) p) (Bs (List.drop (Int.toNat ((Cp p 46)+1)) p)))=(0))))||(!(decide (((C4 (List.take (Int.toNat (Cp p 46)) p) (Bs (List.drop (Int.toNat ((Cp p 46)+1)) p))))=(p)))))))] [] (φ:=True) ?_ (λht=>?_)
   ·refine Ai (An (Ah rfl) rfl (An (DB rfl rfl) rfl (An (Ah rfl) rfl (A7 (!(decide ((CN (List.take (Int.toNat (Cp p 46)) p) (Bs (List.drop (Int.toNat ((Cp p 46)+1)) p)))=(0)))) (λha=>?_) (λha=>?_)))))
    ·have hk:=ha;try simp only[Un,Um] at hk
     have hl:=ha;try simp at hl
     refine Ag rfl rfl ha rfl (Ag rfl rfl ha rfl (Ag rfl rfl ha rfl (An (Ao rfl ha rfl) rfl (Aj ?_))));exact Ap (Bc trivial ⟨rfl,rfl,rfl,rfl,rfl,rfl,fb (by first | (simp only[hd,he,ha,U3,U6,UF,U4,UB,U8,UD,U9,Uy,U7,Uz,Uu,UW,UT,reduceIte,UA];done) | simp[hd,he,ha]),trivial⟩ .slnil)
    ·have hk:=ha;try simp only[Un,Um] at hk
     have hl:=ha;try simp at hl
     refine AQ rfl rfl ha (An (Ah rfl) rfl (AQ rfl rfl ha (An (Ah rfl) rfl (AQ rfl rfl ha (An (KF rfl rfl) rfl (An (Ar rfl ha rfl) rfl (Aj ?_)))))));exact Ap (Bc trivial ⟨rfl,rfl,rfl,rfl,rfl,rfl,fb (by first | (simp only[hd,he,ha,U3,U6,UF,U4,UB,U8,UD,U9,Uy,U7,Uz,Uu,UW,UT,reduceIte,UA];done) | simp[hd,he,ha]),trivial⟩ .slnil)
   refine Au (b:=((!(decide ((CN (List.take (Int.toNat (Cp p 46)) p) (Bs (List.drop (Int.toNat ((Cp p 46)+1)) p)))=(0))))||(!(decide (((C4 (List.take (Int.toNat (Cp p 46)) p) (Bs (List.drop (Int.toNat ((Cp p 46)+1)) p))))=(p)))))) rfl (λhf=>?_) (λhf=>?_)
   ·have hm:=hf;try simp only[Un,Um] at hm
    have hn:=hf;try simp at hn
    refine Am (Ai (An (Ae rfl) rfl (An (Ae rfl) rfl (An (Ae rfl) rfl (Aj (Ap (A6 ?_)))))));refine Ay (Af (Ax (Rl rfl rfl rfl rfl) ?_));have hr:CZ p=false:=by simp only[CZ,GO,IF];grind
    exact D3 (by simp only[hr,Jp,GO,IF];rfl)
   ·have hm:=hf;try simp only[Un,Um] at hm
    have hn:=hf;try simp at hn
    refine Aw (Ap (A6 ?_));refine Am (Ai (An (Ah rfl) rfl (An (Ah rfl) rfl (An (EI Ce rfl rfl (by first | omega | (simp;omega)) (by first | omega | (simp;omega))) rfl (An (Ah rfl) rfl (An (Ae rfl) rfl (An (Ae rfl) rfl (An (Ae rfl) rfl (Aj (Ap (A6 ?_)))))))))));refine Ay (Ax (Rl rfl rfl rfl rfl) ?_);have hr:CZ p=true:=by simp only[CZ,GO,IF];grind
    exact D3 (by simp only[hr,Jp,GO,IF];rfl)
end Go.Proofs.YtailcjmjkmjelaaGreatDoor
namespace Go.Proofs
open Go.Shelf
def Tryz.lays169_ren:Go.Shelf.Ren:=⟨fun | 169=>43 | n=>n,fun | 70=>63 | 9=>9 | 0=>0 | 72=>66 | 37=>64 | 127=>94 | 3=>3 | 5=>5 | n=>n,fun | n=>n⟩
theorem Tryz.lays169:Go.Proofs.Lays.n169 Tryz.prog Tryz.lays169_ren:={
 mixed:=by kernel_rfl
 f169:=Tryz.func43.trans (congrArg some (by kernel_rfl))
 t0:=Tryz.underlying0
 a0:=Tryz.isAgg0
 z0:=Tryz.sizeOf0
 v0:=Tryz.zeroValue0
 t3:=Tryz.underlying3
 a3:=Tryz.isAgg3
 z3:=Tryz.sizeOf3
 v3:=Tryz.zeroValue3
 t9:=Tryz.underlying9
 a9:=Tryz.isAgg9
 z9:=Tryz.sizeOf9
 v9:=Tryz.zeroValue9
 t37:=Tryz.underlying64
 a37:=Tryz.isAgg64
 z37:=Tryz.sizeOf64
 v37:=Tryz.zeroValue64
 t70:=Tryz.underlying63
 a70:=Tryz.isAgg63
 z70:=Tryz.sizeOf63
 v70:=Tryz.zeroValue63
 t72:=Tryz.underlying66
 a72:=Tryz.isAgg66
 z72:=Tryz.sizeOf66
 v72:=Tryz.zeroValue66
 t127:=Tryz.underlying94
 a127:=Tryz.isAgg94
 z127:=Tryz.sizeOf94
 v127:=Tryz.zeroValue94 }
theorem Tryz.Builder_Extra_169:Builder.Extra Tryz.prog Tryz.lays169_ren:={
 sizeBuilder:=by kernel_rfl
 liesBuilder:=by kernel_rfl
 t5:=Tryz.underlying5
 a5:=Tryz.isAgg5
 z5:=Tryz.sizeOf5
 v5:=Tryz.zeroValue5
 infoByte:=by kernel_rfl
 cellsByte:=by kernel_rfl
 sizeByte:=by kernel_rfl
 neB5:=by decide }
open Go.RowKit in
theorem Tryz.Builder_String_any (B b:Nat)(l:List UInt8)(w:World)(h:Lib.IsBuilder 66 5 B b (Lib.byteCells l) w)(hBw:B≤w.heap.size) :
  Calls Tryz.prog 43 #[.pointer (some ⟨b,0,none⟩)] w λe w'=>e = .returned (.string ⟨l.toArray⟩)∧Below B w w':=Any.Builder_String_any Tryz.lays169 Tryz.Builder_Extra_169 B b l w h hBw
def Tryz.lays106_ren:Go.Shelf.Ren:=⟨fun | 106=>41 | 213=>59 | 265=>87 | n=>n,fun | 9=>9 | 3=>3 | n=>n,fun | n=>n⟩
theorem Tryz.lays106:Go.Proofs.Lays.n106 Tryz.prog Tryz.lays106_ren:={
 mixed:=by kernel_rfl
 f106:=Tryz.func41.trans (congrArg some (by kernel_rfl))
 f213:=Tryz.func59.trans (congrArg some (by kernel_rfl))
 f265:=Tryz.func87.trans (congrArg some (by kernel_rfl))
 t3:=Tryz.underlying3
 a3:=Tryz.isAgg3
 z3:=Tryz.sizeOf3
 v3:=Tryz.zeroValue3
 t9:=Tryz.underlying9
 a9:=Tryz.isAgg9
 z9:=Tryz.sizeOf9
 v9:=Tryz.zeroValue9 }
open Go.RowKit in
theorem Tryz.strings_Compare (a b:ByteArray)(w:World) :
  Calls Tryz.prog 41 #[.string a,.string b] w λe w'=>e = .returned (.int .i64 (Lib.compareBytes a.data.toList b.data.toList))∧w'=w:=Any.strings_Compare Tryz.lays106 a b w
def Tryz.lays138_ren:Go.Shelf.Ren:=⟨fun | 138=>103 | 195=>118 | 218=>119 | 143=>120 | 219=>126 | 217=>129 | 225=>130 | 224=>131 | 267=>132 | 266=>133 | 314=>134 | n=>n,fun | 9=>9 | 3=>3 | 4=>4 | 5=>5 | 0=>0 | 46=>69 | 146=>121 | 51=>120 | n=>n,fun | 1=>0 | n=>n⟩
theorem Tryz.lays138:Go.Proofs.Lays.n138 Tryz.prog Tryz.lays138_ren:={
 mixed:=by kernel_rfl
 f138:=Tryz.func103.trans (congrArg some (by kernel_rfl))
 f143:=Tryz.func120.trans (congrArg some (by kernel_rfl))
 f195:=Tryz.func118.trans (congrArg some (by kernel_rfl))
 f217:=Tryz.func129.trans (congrArg some (by kernel_rfl))
 f218:=Tryz.func119.trans (congrArg some (by kernel_rfl))
 f219:=Tryz.func126.trans (congrArg some (by kernel_rfl))
 f224:=Tryz.func131.trans (congrArg some (by kernel_rfl))
 f225:=Tryz.func130.trans (congrArg some (by kernel_rfl))
 f266:=Tryz.func133.trans (congrArg some (by kernel_rfl))
 f267:=Tryz.func132.trans (congrArg some (by kernel_rfl))
 f314:=Tryz.func134.trans (congrArg some (by kernel_rfl))
 t0:=Tryz.underlying0
 a0:=Tryz.isAgg0
 z0:=Tryz.sizeOf0
 v0:=Tryz.zeroValue0
 t3:=Tryz.underlying3
 a3:=Tryz.isAgg3
 z3:=Tryz.sizeOf3
 v3:=Tryz.zeroValue3
 t4:=Tryz.underlying4
 a4:=Tryz.isAgg4
 z4:=Tryz.sizeOf4
 v4:=Tryz.zeroValue4
 t5:=Tryz.underlying5
 a5:=Tryz.isAgg5
 z5:=Tryz.sizeOf5
 v5:=Tryz.zeroValue5
 t9:=Tryz.underlying9
 a9:=Tryz.isAgg9
 z9:=Tryz.sizeOf9
 v9:=Tryz.zeroValue9
 t46:=Tryz.underlying69
 a46:=Tryz.isAgg69
 z46:=Tryz.sizeOf69
 v46:=Tryz.zeroValue69
 t51:=Tryz.underlying120
 a51:=Tryz.isAgg120
 z51:=Tryz.sizeOf120
 v51:=Tryz.zeroValue120
 t146:=Tryz.underlying121
 a146:=Tryz.isAgg121
 z146:=Tryz.sizeOf121
 v146:=Tryz.zeroValue121
 g1:=by kernel_rfl }
open Go.RowKit Go.Lib in
theorem Tryz.strings_Count_one (s:ByteArray)(c:UInt8)(w:World) :
  Calls Tryz.prog 103 #[.string s,.string ⟨#[c]⟩] w λe w'=>e = .returned (.int .i64 (Lib.countByte s.data.toList c))∧w'=w:=Any.strings_Count_one Tryz.lays138 s c w
def Tryz.lays105_ren:Go.Shelf.Ren:=⟨fun | 105=>47 | 212=>69 | 99=>70 | 165=>71 | 166=>60 | 170=>72 | 169=>43 | 263=>98 | 264=>99 | 206=>100 | 240=>88 | 241=>101 | 276=>110 | 277=>117 | n=>n,fun | 9=>9 | 3=>3 | 4=>4 | 20=>20 | 0=>0 | 46=>69 | 109=>96 | 5=>5 | 72=>66 | 76=>82 | 51=>120 | 146=>121 | 53=>44 | 148=>123 | 70=>63 | 37=>64 | 75=>81 | 127=>94 | 164=>131 | 80=>68 | n=>n,fun | n=>n⟩
theorem Tryz.lays105:Go.Proofs.Lays.n105 Tryz.prog Tryz.lays105_ren:={
 mixed:=by kernel_rfl
 f99:=Tryz.func70.trans (congrArg some (by kernel_rfl))
 f105:=Tryz.func47.trans (congrArg some (by kernel_rfl))
 f165:=Tryz.func71.trans (congrArg some (by kernel_rfl))
 f166:=Tryz.func60.trans (congrArg some (by kernel_rfl))
 f169:=Tryz.func43.trans (congrArg some (by kernel_rfl))
 f170:=Tryz.func72.trans (congrArg some (by kernel_rfl))
 f206:=Tryz.func100.trans (congrArg some (by kernel_rfl))
 f212:=Tryz.func69.trans (congrArg some (by kernel_rfl))
 f240:=Tryz.func88.trans (congrArg some (by kernel_rfl))
 f241:=Tryz.func101.trans (congrArg some (by kernel_rfl))
 f263:=Tryz.func98.trans (congrArg some (by kernel_rfl))
 f264:=Tryz.func99.trans (congrArg some (by kernel_rfl))
 f276:=Tryz.func110.trans (congrArg some (by kernel_rfl))
 f277:=Tryz.func117.trans (congrArg some (by kernel_rfl))
 t0:=Tryz.underlying0
 a0:=Tryz.isAgg0
 z0:=Tryz.sizeOf0
 v0:=Tryz.zeroValue0
 t3:=Tryz.underlying3
 a3:=Tryz.isAgg3
 z3:=Tryz.sizeOf3
 v3:=Tryz.zeroValue3
 t4:=Tryz.underlying4
 a4:=Tryz.isAgg4
 z4:=Tryz.sizeOf4
 v4:=Tryz.zeroValue4
 t5:=Tryz.underlying5
 a5:=Tryz.isAgg5
 z5:=Tryz.sizeOf5
 v5:=Tryz.zeroValue5
 t9:=Tryz.underlying9
 a9:=Tryz.isAgg9
 z9:=Tryz.sizeOf9
 v9:=Tryz.zeroValue9
 t20:=Tryz.underlying20
 a20:=Tryz.isAgg20
 z20:=Tryz.sizeOf20
 v20:=Tryz.zeroValue20
 t37:=Tryz.underlying64
 a37:=Tryz.isAgg64
 z37:=Tryz.sizeOf64
 v37:=Tryz.zeroValue64
 t46:=Tryz.underlying69
 a46:=Tryz.isAgg69
 z46:=Tryz.sizeOf69
 v46:=Tryz.zeroValue69
 t51:=Tryz.underlying120
 a51:=Tryz.isAgg120
 z51:=Tryz.sizeOf120
 v51:=Tryz.zeroValue120
 t53:=Tryz.underlying44
 a53:=Tryz.isAgg44
 z53:=Tryz.sizeOf44
 v53:=Tryz.zeroValue44
 t70:=Tryz.underlying63
 a70:=Tryz.isAgg63
 z70:=Tryz.sizeOf63
 v70:=Tryz.zeroValue63
 t72:=Tryz.underlying66
 a72:=Tryz.isAgg66
 z72:=Tryz.sizeOf66
 v72:=Tryz.zeroValue66
 t75:=Tryz.underlying81
 a75:=Tryz.isAgg81
 z75:=Tryz.sizeOf81
 v75:=Tryz.zeroValue81
 t76:=Tryz.underlying82
 a76:=Tryz.isAgg82
 z76:=Tryz.sizeOf82
 v76:=Tryz.zeroValue82
 t109:=Tryz.underlying96
 a109:=Tryz.isAgg96
 z109:=Tryz.sizeOf96
 v109:=Tryz.zeroValue96
 t127:=Tryz.underlying94
 a127:=Tryz.isAgg94
 z127:=Tryz.sizeOf94
 v127:=Tryz.zeroValue94
 t146:=Tryz.underlying121
 a146:=Tryz.isAgg121
 z146:=Tryz.sizeOf121
 v146:=Tryz.zeroValue121
 t148:=Tryz.underlying123
 a148:=Tryz.isAgg123
 z148:=Tryz.sizeOf123
 v148:=Tryz.zeroValue123
 t164:=Tryz.underlying131
 a164:=Tryz.isAgg131
 z164:=Tryz.sizeOf131
 v164:=Tryz.zeroValue131 }
theorem Tryz.Builder_Extra_105:Builder.Extra Tryz.prog Tryz.lays105_ren:={
 sizeBuilder:=by kernel_rfl
 liesBuilder:=by kernel_rfl
 t5:=Tryz.underlying5
 a5:=Tryz.isAgg5
 z5:=Tryz.sizeOf5
 v5:=Tryz.zeroValue5
 infoByte:=by kernel_rfl
 cellsByte:=by kernel_rfl
 sizeByte:=by kernel_rfl
 neB5:=by decide }
open Go.RowKit Go.Lib in
theorem Tryz.strings_Repeat (s:ByteArray)(c:Nat)(w:World)(hc:c≤9223372036854775807)(hlen:s.size*c≤140737488355328) :
  Calls Tryz.prog 47 #[.string s,.int .i64 c] w λe w'=>e = .returned (.string ⟨(Lib.repeatL s.data.toList c).toArray⟩)∧Below w.heap.size w w':=Any.strings_Repeat Tryz.lays105 Tryz.Builder_Extra_105 s c w hc hlen
end Go.Proofs
namespace Go.Proofs.YtailcjmjkmjelaaGreatDoor
open Go
set_option linter.unusedVariables false
set_option linter.unusedSimpArgs false
theorem Si {f:Nat→UInt8→Bool}{t:Int→Bool}{p:List UInt8}{k:Nat}(hf:∀u:UInt8,f k u=t u.toNat){c:Bool}(hi:k≤p.length∧c=Be f k (p.drop k))(h:(k:Int)<p.length)(ht:t (AY p k)=true) :
  k+1≤p.length∧c=Be f (k+1) (p.drop (k+1)):=by
 obtain⟨u,hu⟩:=HI h;rw[Mi hu] at ht;have hk:k<p.length:=by omega
 refine⟨by omega,?_⟩;rw[hi.2,HJ hu];simp[Be,hf,ht]
theorem TG {f:Nat→UInt8→Bool}{t:Int→Bool}{p:List UInt8}{k:Nat}(hf:∀u:UInt8,f k u=t u.toNat){c:Bool}(hi:k≤p.length∧c=Be f k (p.drop k))(h:(k:Int)<p.length)(ht:t (AY p k)=false):c=false:=by
 obtain⟨u,hu⟩:=HI h;rw[Mi hu] at ht;rw[hi.2,HJ hu];simp[Be,hf,ht]
theorem Tc {f:Nat→UInt8→Bool}{p:List UInt8}{k:Nat}{c:Bool}(hi:k≤p.length∧c=Be f k (p.drop k))(h : ¬ (k:Int)<p.length):c=true:=by
 rw[hi.2,List.drop_of_length_le (by omega)];rfl
theorem MU (k:Nat)(u:UInt8):In k u=CX u.toNat:=rfl
theorem T9 {p:List UInt8}(h:(decide ((p.length:Int)<1)||decide ((64:Int)<p.length))=false):Cs p=Be In 0 p:=by
 simp only[UO,Um] at h;have h1:1≤p.length:=by omega
 have h2:p.length≤64:=by omega
 simp[Cs,h1,h2]
theorem SQ {p:List UInt8}(h:(decide ((p.length:Int)<1)||decide ((64:Int)<p.length))=true):Cs p=false:=by
 simp only[UR,Un] at h;simp[Cs];omega
def QN (n m:Int)(s:List UInt8):Prop:=(s=[]∧m=n)∨(s≠[]∧Lib.decDigits n.natAbs=(if m=0 then[] else Lib.decDigits m.natAbs)++s)
theorem L6 (m:Int):∃d1:Nat,(if decide (m.tmod 10<0)=true then -(m.tmod 10) else m.tmod 10)=(d1:Int)∧d1=m.natAbs % 10∧d1<10:=by
 refine⟨m.natAbs % 10,?_,rfl,by omega⟩
 by_cases h:0≤m
 ·have:=Int.tmod_eq_emod_of_nonneg (a:=m) (b:=10) h;rw[this,UV (by simp;omega)];omega
 ·have:=Int.tmod_eq_emod_of_nonneg (a:=-m) (b:=10) (by omega);rw[Int.neg_tmod] at this
  by_cases hz:m.tmod 10=0
  ·rw[hz];simp;omega
  ·rw[if_pos (by simp;omega)];omega
theorem Ps {d:Nat}(h:d<10):List.take (Int.toNat ((d:Int)+1)-Int.toNat (d:Int)) (List.drop (Int.toNat (d:Int)) [48,49,50,51,52,53,54,55,56,57])=[UInt8.ofNat (48+d)]:=by
 have key:∀d:Nat,d<10→List.take (Int.toNat ((d:Int)+1)-Int.toNat (d:Int)) (List.drop (Int.toNat (d:Int)) ([48,49,50,51,52,53,54,55,56,57]:List UInt8))=[UInt8.ofNat (48+d)]:=by decide
 exact key d h
theorem K3 (m:Int):(m.tdiv 10).natAbs=m.natAbs/10:=by
 rw[Int.natAbs_tdiv];rfl
theorem Pr (m:Int)(d1:Nat)(h:d1=m.natAbs % 10):Lib.decDigits m.natAbs=(if m.tdiv 10=0 then[] else Lib.decDigits (m.tdiv 10).natAbs)++[UInt8.ofNat (48+d1)]:=by
 have hz:m.tdiv 10=0↔m.natAbs<10:=by
  rw[← Int.natAbs_eq_zero,K3];omega
 rw[K3,Lib.decDigits]
 by_cases hs:m.natAbs<10
 ·rw[dif_pos hs,if_pos (hz.2 hs),h,Nat.mod_eq_of_lt hs];rfl
 ·rw[dif_neg hs,UV (λe=>hs (hz.1 e)),h]
theorem RX {n m:Int}{s:List UInt8}(h0 : -9223372036854775808≤n)(h1:n≤9223372036854775807)(hi:QN n m s):s.length≤21:=by
 rcases hi with⟨rfl,_⟩ | ⟨_,h⟩
 ·simp
 ·have hl:(Lib.decDigits n.natAbs).length≤21:=by
   have:=MS n h0 h1;unfold Lib.itoa at this
   split at this
   ·simp at this;omega
   ·rwa [show n.toNat=n.natAbs from by omega] at this
  rw[h] at hl;simp at hl;omega
theorem QL {n m:Int}{s:List UInt8}{d1:Nat}(hi:QN n m s)(hc:(!decide (m=0)||decide (s=[]))=true)(hd:d1=m.natAbs % 10) :
  QN n (m.tdiv 10) (List.take (Int.toNat ((d1:Int)+1)-Int.toNat (d1:Int)) (List.drop (Int.toNat (d1:Int)) [48,49,50,51,52,53,54,55,56,57])++s)∧
  (m.tdiv 10).natAbs+(if List.take (Int.toNat ((d1:Int)+1)-Int.toNat (d1:Int)) (List.drop (Int.toNat (d1:Int)) [48,49,50,51,52,53,54,55,56,57])++s=[] then 1 else 0)<m.natAbs+(if s=[] then 1 else 0):=by
 rw[Ps (by omega)];have hs:=Pr m d1 hd;refine⟨.inr ⟨by simp,?_⟩,?_⟩
 ·rcases hi with⟨rfl,rfl⟩ | ⟨h1,h2⟩
  ·rw[hs];simp
  ·have hm:m≠0:=by simpa[h1] using hc
   rw[h2,UV hm,hs];simp
 ·rw[UV (by simp),K3]
  by_cases hm:m=0
  ·subst hm;have:s=[]:=by simpa using hc
   simp[this]
  ·have:0<m.natAbs:=by omega
   split<;>omega
theorem Ox {n m:Int}{s:List UInt8}(hi:QN n m s)(hc:(!decide (m=0)||decide (s=[]))=false):Lib.decDigits n.natAbs=s:=by
 simp only[UO,Ve,Un,Um] at hc;rcases hi with⟨h,_⟩ | ⟨_,h⟩
 ·exact absurd h hc.2
 ·rw[h,if_pos hc.1];rfl
theorem RW {n:Int}{s:List UInt8}(h:Lib.decDigits n.natAbs=s)(hn:n<0):[45]++s=Lib.itoa n:=by
 unfold Lib.itoa;rw[if_pos hn,h];rfl
theorem RU {n:Int}{s:List UInt8}(h:Lib.decDigits n.natAbs=s)(hn : ¬ n<0):s=Lib.itoa n:=by
 unfold Lib.itoa;rw[UV hn,show n.toNat=n.natAbs from by omega,h]
open Go Go.RowKit
section
variable {P : Program} {n : Nat} {w0 : World} {M : List Nat} {l : Fr} {H : List Ent} {d : Option Nat} {x y : Operand} {ty t t' : TypeId} {pos : String} {af : Array Edge} {g : Option (Nat × Bool)} {k : IntKind} {p q z : Int}
theorem Qw (hx:ev l x=some (.int k p))(hy:ev l y=some (.int k q))(hq:q≠0)(hz:k.wrap (p.tdiv q)=z):Bd P n w0 M l H { dst:=d,op:=.binOp .quo t x y t',type:=ty,pos:=pos,after:=af,guard:=g } (.int k z):=λa w ha _=>by
 simp[execOp,ha.eval hx,ha.eval hy,Ba,binOp,Op.intDiv,hq,hz]
theorem Qv (hx:ev l x=some (.int k p))(hy:ev l y=some (.int k q))(hq:q≠0):Bd P n w0 M l H { dst:=d,op:=.binOp .rem t x y t',type:=ty,pos:=pos,after:=af,guard:=g } (.int k (p.tmod q)):=λa w ha _=>by
 simp[execOp,ha.eval hx,ha.eval hy,Ba,binOp,Op.intDiv,hq]
end
theorem ON {m:Int}(h0 : -9223372036854775808≤m)(h1:m≤9223372036854775807) : -9223372036854775808≤m.tdiv 10∧m.tdiv 10≤9223372036854775807:=by
 have e:m.tdiv 10=if 0≤m then m/10 else -((-m)/10):=by
  split
  ·rename_i h;exact Int.tdiv_eq_ediv_of_nonneg h
  ·rename_i h
   have:=Int.tdiv_eq_ediv_of_nonneg (a:=-m) (b:=10) (by omega);rw[Int.neg_tdiv] at this;omega
 rw[e];split<;>omega
theorem OM (m:Int) : -10<m.tmod 10∧m.tmod 10<10:=by
 by_cases h:0≤m
 ·have:=Int.tmod_eq_emod_of_nonneg (a:=m) (b:=10) h;omega
 ·have:=Int.tmod_eq_emod_of_nonneg (a:=-m) (b:=10) (by omega);rw[Int.neg_tmod] at this;omega
set_option maxRecDepth 100000
theorem TY (p:List UInt8)(hp:p.length≤281474976710656)(w:World):Calls Tryz.prog 31 [.string (B (p))].toArray w (E3 w (.bool (Cs p))):=by
 refine Dv (n:=23) Tryz.func31 rfl Tryz.ntmps31 rfl (Am (Ai (An (Ae rfl) rfl (Aj (Ap (A6 ?_))))));refine Am (AB [(0,.string (B (p))),(2,.bool (false)),(11,.bool (((decide (((p.length:Int))<(1)))||(decide ((64)<((p.length:Int)))))))] [] (φ:=True) ?_ (λho=>?_))
 ·refine Ai (An (Ah rfl) rfl (An (AZ Ce rfl) rfl (An (C8 rfl rfl) rfl (An (Ah rfl) rfl (A7 (decide (((p.length:Int))<(1))) (λha=>?_) (λha=>?_))))))
  ·have hi:=ha;try simp only[Un,Um] at hi
   have hj:=ha;try simp at hj
   refine Ag rfl rfl ha rfl (Ag rfl rfl ha rfl (Ag rfl rfl ha rfl (An (Ao rfl ha rfl) rfl (Aj ?_))));exact Ap (Bc trivial ⟨rfl,rfl,fb (by first | (simp only[ha,U3,U6,UF,U4,UB,U8,UD,U9,Uy,U7,Uz,Uu,UW,UT,reduceIte,UA];done) | simp[ha]),trivial⟩ .slnil)
  ·have hi:=ha;try simp only[Un,Um] at hi
   have hj:=ha;try simp at hj
   refine AQ rfl rfl ha (An (Ah rfl) rfl (AQ rfl rfl ha (An (AZ Ce rfl) rfl (AQ rfl rfl ha (An (C1 rfl rfl) rfl (An (Ar rfl ha rfl) rfl (Aj ?_)))))));exact Ap (Bc trivial ⟨rfl,rfl,fb (by first | (simp only[ha,U3,U6,UF,U4,UB,U8,UD,U9,Uy,U7,Uz,Uu,UW,UT,reduceIte,UA];done) | simp[ha]),trivial⟩ .slnil)
 refine Au (b:=((decide (((p.length:Int))<(1)))||(decide ((64)<((p.length:Int)))))) rfl (λhd=>?_) (λhd=>?_)
 ·have hk:=hd;try simp only[Un,Um] at hk
  have hl:=hd;try simp at hl
  refine Am (Ai (An (Ae rfl) rfl (Aj (Ap (A6 ?_)))));refine Ay (Af (Ax (BG rfl rfl) ?_));exact D3 (by rw[SQ hd])
 ·have hk:=hd;try simp only[Un,Um] at hk
  have hl:=hd;try simp at hl
  refine Aw (Ap (A6 ?_));refine Am (Am (Ai (An (Ae rfl) rfl (Aj (Ap (A6 ?_))))));refine AJ (GC (S:=Nat) (λ(k:Nat)=>k≤p.length∧Cs p=Be In k (p.drop k)) (λ(k:Nat)=>[(3,.int .i64 ((k:Int))),(0,.string (B (p)))]) (λ(k:Nat)=>[]) (λ(k:Nat)=>p.length-k) (0) ?_ ⟨fi (by first | rfl | (simp;done) | omega | (simp;omega)),rfl,trivial⟩ .slnil ?_)
  ·exact⟨UU _,T9 hd⟩
  rintro k hi0;refine Am (Am (Ai (An (Ah rfl) rfl (An (Ah rfl) rfl (An (AZ Ce rfl) rfl (An (C8 rfl rfl) rfl (Aj (Ap (A6 ?_)))))))));refine Au (b:=decide (((k:Int))<((p.length:Int)))) rfl (λhf=>?_) (λhf=>?_)
  ·have he:=hf;try simp only[Un,Um] at he
   have hm:=hf;try simp at hm
   refine Aw (Ap (A6 ?_));refine Am (AJ (Am (Ai (An (Ah rfl) rfl (An (Ah rfl) rfl (An (Bb Ce rfl rfl (by first | omega | (simp;omega) | (simp at *;omega)) (by first | omega | (simp;omega) | (simp at *;omega))) rfl (BD Tryz.call50 rfl (λw hw=>SC (AY p (k:Int)) w) rfl (An (BL rfl) rfl (Aj (Ap (A6 ?_)))))))))));refine Au (b:=!(CX (AY p (k:Int)))) rfl (λhg=>?_) (λhg=>?_)
   ·have hn:=hg;try simp only[Un,Um] at hn
    have hh:=hg;try simp only[Un,Um,Uq,UR,U5,Ve,UX,UO,not_or,Int.not_lt,Int.not_le] at hh
    refine Am (Ai (An (Ae rfl) rfl (Aj (Ap (A6 ?_)))));refine Ay (A5 (Af (Af (A5 (Af (Ax (BG rfl rfl) ?_))))));exact D3 (by rw[TG (MU k) hi0 he hh])
   ·have hn:=hg;try simp only[Un,Um] at hn
    have hh:=hg;try simp only[Un,Um,Uq,UR,U5,Ve,UX,UO,not_or,Int.not_lt,Int.not_le] at hh
    refine Aw (AG (Ap (A6 ?_)));refine Ai (An (Ah rfl) rfl (An (Bu rfl rfl (IntWalk.i64_in _ (by omega))) rfl (An (Ae rfl) rfl (Aj (Ap (AI (k+1) ?_ ⟨fi (by first | rfl | (simp;done) | omega | (simp;omega)),rfl,trivial⟩ .slnil))))));exact⟨Si (MU k) hi0 he hh,by omega⟩
  ·have he:=hf;try simp only[Un,Um] at he
   have hm:=hf;try simp at hm
   refine B4 (A4 (A4 (Bi (Ap (A6 ?_)))));refine Am (Ai (An (Ae rfl) rfl (Aj (Ap (A6 ?_)))));refine Ay (Ax (BG rfl rfl) ?_);exact D3 (by rw[Tc hi0 he])
theorem QK (n:Int)(h0 : -9223372036854775808≤n)(h1:n≤9223372036854775807)(w:World):Calls Tryz.prog 24 [.int .i64 (n)].toArray w (E3 w (.string (B (Lib.itoa n)))):=by
 refine Dv (n:=34) Tryz.func24 rfl Tryz.ntmps24 rfl (Am (Ai (An (Ae rfl) rfl (Aj (Ap (A6 ?_))))));refine Am (Ai (An (Ae rfl) rfl (Aj (Ap (A6 ?_)))));refine Am (Ai (An (Ae rfl) rfl (Aj (Ap (A6 ?_)))));refine Am (Am (Ai (An (Ah rfl) rfl (An (Ae rfl) rfl (Aj (Ap (A6 ?_)))))));refine AJ (GC (S:=Int×List UInt8) (λ(x:Int×List UInt8)=>match x with | ⟨m,s⟩=>(-9223372036854775808≤m∧m≤9223372036854775807)∧QN n m s) (λ(x:Int×List UInt8)=>match x with | ⟨m,s⟩=>[(5,.int .i64 (m)),(4,.string (B (s))),(0,.int .i64 (n)),(2,.string (B ([]))),(3,.string (B ([48,49,50,51,52,53,54,55,56,57])))]) (λ(x:Int×List UInt8)=>match x with | ⟨m,s⟩=>[]) (λ(x:Int×List UInt8)=>match x with | ⟨m,s⟩=>m.natAbs+(if s=[] then 1 else 0)) (n,[]) ?_ ⟨fi (by first | rfl | (simp;done) | omega | (simp;omega)),fs (by first | rfl | simp),rfl,rfl,rfl,trivial⟩ .slnil ?_)
 ·exact⟨⟨h0,h1⟩,.inl ⟨rfl,rfl⟩⟩
 rintro⟨m,s⟩ hi0;have hb:=hi0.1;have hsl:=RX h0 h1 hi0.2;have htd:=ON hi0.1.1 hi0.1.2;have htm:=OM m;refine Am (AB [(0,.int .i64 (n)),(2,.string (B ([]))),(3,.string (B ([48,49,50,51,52,53,54,55,56,57]))),(4,.string (B (s))),(5,.int .i64 (m)),(8,.int .i64 (m)),(9,.bool (!(decide ((m)=(0))))),(10,.bool (!(decide ((m)=(0))))),(13,.bool (((!(decide ((m)=(0))))||(decide ((s)=(([]:List UInt8)))))))] [] (φ:=True) ?_ (λho=>?_))
 ·refine Ai (An (Ah rfl) rfl (An (DB rfl rfl) rfl (An (Ah rfl) rfl (A7 (!(decide ((m)=(0)))) (λha=>?_) (λha=>?_)))))
  ·have hh:=ha;try simp only[Un,Um] at hh
   have hi:=ha;try simp at hi
   refine Ag rfl rfl ha rfl (Ag rfl rfl ha rfl (An (Ao rfl ha rfl) rfl (Aj ?_)));exact Ap (Bc trivial ⟨rfl,rfl,rfl,rfl,rfl,rfl,rfl,rfl,fb (by first | (simp only[ha,U3,U6,UF,U4,UB,U8,UD,U9,Uy,U7,Uz,Uu,UW,UT,reduceIte,UA];done) | simp[ha]),trivial⟩ .slnil)
  ·have hh:=ha;try simp only[Un,Um] at hh
   have hi:=ha;try simp at hi
   refine AQ rfl rfl ha (An (Ah rfl) rfl (AQ rfl rfl ha (An (Co rfl rfl) rfl (An (Ar rfl ha rfl) rfl (Aj ?_)))));exact Ap (Bc trivial ⟨rfl,rfl,rfl,rfl,rfl,rfl,rfl,rfl,fb (by first | (simp only[ha,U3,U6,UF,U4,UB,U8,UD,U9,Uy,U7,Uz,Uu,UW,UT,reduceIte,UA];done) | simp[ha]),trivial⟩ .slnil)
 refine Au (b:=((!(decide ((m)=(0))))||(decide ((s)=(([]:List UInt8)))))) rfl (λhd=>?_) (λhd=>?_)
 ·have hj:=hd;try simp only[Un,Um] at hj
  have hk:=hd;try simp at hk
  refine Aw (Ap (A6 ?_));refine Am (AJ (Am (Ai (An (Ah rfl) rfl (An (Qv rfl rfl (by decide)) rfl (An (Ae rfl) rfl (Aj (Ap (A6 ?_)))))))));refine AB [(0,.int .i64 (n)),(2,.string (B ([]))),(3,.string (B ([48,49,50,51,52,53,54,55,56,57]))),(4,.string (B (s))),(5,.int .i64 (m)),(6,.int .i64 ((if decide ((Int.tmod m 10)<(0))=true then -(Int.tmod m 10) else Int.tmod m 10))),(8,.int .i64 (m)),(9,.bool (!(decide ((m)=(0))))),(10,.bool (!(decide ((m)=(0))))),(13,.bool (((!(decide ((m)=(0))))||(decide ((s)=(([]:List UInt8))))))),(16,.int .i64 (m)),(17,.int .i64 (Int.tmod m 10)),(18,.int .i64 (Int.tmod m 10)),(19,.bool (decide ((Int.tmod m 10)<(0))))] [] (φ:=True) ?_ (λhp=>?_)
  ·refine Am (Ai (An (Ah rfl) rfl (An (C8 rfl rfl) rfl (Aj (Ap (A6 ?_))))));refine Au (b:=decide ((Int.tmod m 10)<(0))) rfl (λhe=>?_) (λhe=>?_)
   ·have hl:=he;try simp only[Un,Um] at hl
    have hm:=he;try simp at hm
    refine Ai (An (Ah rfl) rfl (An (Sq rfl (IntWalk.i64_in _ (by omega))) rfl (An (Ae rfl) rfl (Aj ?_))));exact Ap (Bc trivial ⟨rfl,rfl,rfl,rfl,rfl,fi (by first | (simp only[hd,he,U3,U6,UF,U4,UB,U8,UD,U9,Uy,U7,Uz,Uu,UW,UT,reduceIte,UA];done) | simp[hd,he]),rfl,rfl,rfl,rfl,rfl,rfl,rfl,rfl,trivial⟩ .slnil)
   ·have hl:=he;try simp only[Un,Um] at hl
    have hm:=he;try simp at hm
    refine Aw ?_;exact Ap (Bc trivial ⟨rfl,rfl,rfl,rfl,rfl,fi (by first | (simp only[hd,he,U3,U6,UF,U4,UB,U8,UD,U9,Uy,U7,Uz,Uu,UW,UT,reduceIte,UA];done) | simp[hd,he]),rfl,rfl,rfl,rfl,rfl,rfl,rfl,rfl,trivial⟩ .slnil)
  obtain⟨d1,hd1,hd2,hd3⟩:=L6 m;rw[hd1];refine Ai (An (Ah rfl) rfl (An (Ah rfl) rfl (An (Ah rfl) rfl (An (Bu rfl rfl (IntWalk.i64_in _ (by first | omega | (have:=L6 m;obtain⟨d1,hd1,hd2,hd3⟩:=this;split at hd1<;>omega)))) rfl (An (Eg Ce rfl rfl rfl (by first | omega | (simp;omega)) (by first | omega | (simp;omega)) (by first | omega | (simp;omega))) rfl (An (Ah rfl) rfl (An (Cz rfl rfl (by simp;omega)) rfl (An (Ae rfl) rfl (Aj (AG (Ap (A6 ?_))))))))))));refine Ai (An (Ah rfl) rfl (An (Qw rfl rfl (by decide) (IntWalk.i64_in _ (by omega))) rfl (An (Ae rfl) rfl (Aj (Ap (AI (Int.tdiv m 10,(List.take (Int.toNat ((d1:Int)+1)-Int.toNat ((d1:Int))) (List.drop (Int.toNat ((d1:Int))) [48,49,50,51,52,53,54,55,56,57]))++s) ?_ ⟨fi (by first | rfl | (simp;done) | omega | (simp;omega)),fs (by first | rfl | simp),rfl,rfl,rfl,trivial⟩ .slnil))))));have hx:=QL hi0.2 hd hd2;exact⟨⟨htd,hx.1⟩,hx.2⟩
 ·have hj:=hd;try simp only[Un,Um] at hj
  have hk:=hd;try simp at hk
  refine B4 (A4 (A4 (Bi (Ap (A6 ?_)))));refine Am (Am (Ai (An (Ah rfl) rfl (An (C8 rfl rfl) rfl (Aj (Ap (A6 ?_)))))));refine Au (b:=decide ((n)<(0))) rfl (λhf=>?_) (λhf=>?_)
  ·have hg:=hf;try simp only[Un,Um] at hg
   have hn:=hf;try simp at hn
   refine Am (Ai (An (Ah rfl) rfl (An (Cz rfl rfl (by simp;omega)) rfl (An (Ae rfl) rfl (Aj (Ap (A6 ?_)))))));refine Ay (Af (Ax (BG rfl rfl) ?_));exact D3 (by rw[RW (Ox hi0.2 hd) hg])
  ·have hg:=hf;try simp only[Un,Um] at hg
   have hn:=hf;try simp at hn
   refine Aw (Ap (A6 ?_));refine Am (Ai (An (Ah rfl) rfl (An (Ae rfl) rfl (Aj (Ap (A6 ?_))))));refine Ay (Ax (BG rfl rfl) ?_);exact D3 (by rw[← RU (Ox hi0.2 hd) hg])
end Go.Proofs.YtailcjmjkmjelaaGreatDoor
namespace Go.Proofs
open Go.Shelf
def Tryz.TzL_ren:Go.Shelf.Ren:=⟨fun | 27=>116 | 28=>124 | 29=>125 | n=>n,fun | 25=>69 | 3=>3 | 27=>120 | 22=>44 | 4=>4 | 53=>149 | 0=>0 | 5=>5 | 54=>150 | n=>n,fun | 0=>4 | 1=>5 | n=>n⟩
theorem Tryz.TzL:Go.Proofs.Lays7.n27 Tryz.prog Tryz.TzL_ren:={
 mixed:=by kernel_rfl
 f27:=Tryz.func116.trans (congrArg some (by kernel_rfl))
 f28:=Tryz.func124.trans (congrArg some (by kernel_rfl))
 f29:=Tryz.func125.trans (congrArg some (by kernel_rfl))
 t0:=Tryz.underlying0
 a0:=Tryz.isAgg0
 z0:=Tryz.sizeOf0
 v0:=Tryz.zeroValue0
 i0:=by kernel_rfl
 t3:=Tryz.underlying3
 a3:=Tryz.isAgg3
 z3:=Tryz.sizeOf3
 v3:=Tryz.zeroValue3
 i3:=by kernel_rfl
 t4:=Tryz.underlying4
 a4:=Tryz.isAgg4
 z4:=Tryz.sizeOf4
 v4:=Tryz.zeroValue4
 i4:=by kernel_rfl
 t5:=Tryz.underlying5
 a5:=Tryz.isAgg5
 z5:=Tryz.sizeOf5
 v5:=Tryz.zeroValue5
 i5:=by kernel_rfl
 t22:=Tryz.underlying44
 a22:=Tryz.isAgg44
 z22:=Tryz.sizeOf44
 v22:=Tryz.zeroValue44
 i22:=by kernel_rfl
 t25:=Tryz.underlying69
 a25:=Tryz.isAgg69
 z25:=Tryz.sizeOf69
 v25:=Tryz.zeroValue69
 i25:=by kernel_rfl
 t27:=Tryz.underlying120
 a27:=Tryz.isAgg120
 z27:=Tryz.sizeOf120
 v27:=Tryz.zeroValue120
 i27:=by kernel_rfl
 t53:=Tryz.underlying149
 a53:=Tryz.isAgg149
 z53:=Tryz.sizeOf149
 v53:=Tryz.zeroValue149
 i53:=by kernel_rfl
 t54:=Tryz.underlying150
 a54:=Tryz.isAgg150
 z54:=Tryz.sizeOf150
 g0:=by kernel_rfl
 g1:=by kernel_rfl }
end Go.Proofs
namespace Go.Proofs.YtailcjmjkmjelaaGreatDoor.Q
open Go Go.RowKit
set_option linter.unusedVariables false
def GE (Z:Fz):Prop:=∀w,PA Z w→Nn w
theorem GE.mono {Z Z':Fz}(h:Fz.le Z Z')(hg:GE Z):GE Z':=λw hw=>hg w ⟨λb o e=>hw b o (h b o e),λk i b e=>hw.nm k i b (h.nm k i b e)⟩
theorem Hn.rle {P:Program}{E:Fz→Prop}{f:FuncId}{args:List Rp}{r r':Rp}(h:Hn P E f args r)(hr:Hi r r'):Hn P E f args r':=λw Z vs hv hs=>
 (h w Z vs hv hs).mono λe w' ⟨q,v,H,Z',he,⟨hq,hH⟩,hp,ht⟩=>⟨r',v,H,Z',he,⟨rfl,hH⟩,hr Z' v (hq▸hp),ht⟩
theorem Hi.tup2 {a b:Value}:Hi (rv (.tuple #[a,b])) (CV [rv a,rv b]):=λZ v h=>⟨[a,b],h,rfl,rfl,trivial⟩
theorem Hn.of_id {P:Program}{E:Fz→Prop}{f:FuncId}{vs:List Value}{v:Value}(h:∀w,Calls P f vs.toArray w (λe w'=>e = .returned v∧w'=w)):Hn P E f (vs.map rv) (rv v):=
 Hn.of_old λw Z _ _=>(h w).mono λe w' ⟨he,hw⟩=>⟨he,by rw[hw];exact Proofs.YtailcjmjkmjelaaGreatDoor.St.refl w []⟩
theorem KM (m:Int)(g:B6 .i64 m=true):Hn Tryz.prog GE 20 [rI .i64 m] (rS (Lib.itoa m)):=Hn.of_old (vs:=[.int .i64 m]) λw Z hf he=>MV m (DX g).1 (DX g).2 w (he w hf)
theorem SN (m:Int)(g:B6 .i64 m=true):Hn Tryz.prog GE 44 [rI .i64 m] (rS (Lib.itoa m)):=Hn.of_old (vs:=[.int .i64 m]) λw Z hf he=>QC m (DX g).1 (DX g).2 w (he w hf)
theorem Oe (s:Ak)(g:D1 1 s.length=true):Hn Tryz.prog GE 35 [rS s] (CV [rI .i64 (Bs s),rI .i64 (BK s)]):=(Hn.of_old (vs:=[.string (B s)]) λw Z hf he=>Of s (by simp[D1] at g;omega) w (he w hf)).rle Hi.tup2
theorem O3 (s:Ak)(c:UInt8):Hn Tryz.prog GE 103 [rS s,rS [c]] (rI .i64 (Lib.countByte s c)):=Hn.of_id (vs:=[.string (B s),.string (B [c])]) λw=>by have:=Tryz.strings_Count_one (B s) c w;rwa [Jy] at this
theorem P3 (a b:Ak):Hn Tryz.prog GE 41 [rS a,rS b] (rI .i64 (Lib.compareBytes a b)):=Hn.of_id (vs:=[.string (B a),.string (B b)]) λw=>by have:=Tryz.strings_Compare (B a) (B b) w;rwa [Jy,Jy] at this
theorem Tp {w : World} (hT : Lib.TabIs Tryz.prog w "math/bits.deBruijn64tab" .u8 Mx) {g : Nat} (hg : Tryz.prog.globalNamed "math/bits.deBruijn64tab" = some g) : TabAt g Lib.deBruijn64tab w := fun j hj => by
 have:=hT.cell hg j (by simpa[Mx] using hj);rw[this];simp[Mx,List.getD]
 cases h:Lib.deBruijn64tab[j]?<;>rfl
theorem TN (x:Int)(g:B6 .u64 x=true):Hn Tryz.prog GE 116 [rI .u64 x] (rI .i64 (Lib.ctz 64 x.toNat:Nat)):=Hn.of_old (vs:=[.int .u64 x]) λw Z hf he=>by
 have h0:0≤x∧x≤18446744073709551615:=by simpa[B6,IntKind.min,IntKind.max,IntKind.signed,IntKind.bits] using g
 have hx:((x.toNat:Nat):Int)=x:=Int.toNat_of_nonneg h0.1;have:=(Any7.bits_TrailingZeros Tryz.TzL x.toNat (by omega) w (λ_=>Tp (he w hf).tabs.tz TJ)).mono (R':=E3 w (.int .i64 (Lib.ctz 64 x.toNat:Nat))) λe w' ⟨he,hw⟩=>⟨he,by rw[hw];exact Proofs.YtailcjmjkmjelaaGreatDoor.St.refl w []⟩
 rw[hx] at this;exact this
theorem Qf (s:Ak)(c:Int)(g1:Da c 1000=true)(g2:decide (s.length≤1000)=true):Hn Tryz.prog GE 47 [rS s,rI .i64 c] (rS (Lib.repeatL s c.toNat)):=Hn.of_old (vs:=[.string (B s),.int .i64 c]) λw Z hf he=>by
 have h0:=C6 g1;have h1:=Va g2;have hx:((c.toNat:Nat):Int)=c:=Int.toNat_of_nonneg h0.1;have:=(Tryz.strings_Repeat (B s) c.toNat w (by omega) (by rw[CB];calc s.length*c.toNat≤1000*1000:=Nat.mul_le_mul h1 (by omega)
                                     _≤_:=by decide)).mono (R':=E3 w (.string (B (Lib.repeatL s c.toNat)))) λe w' ⟨he,hw⟩=>⟨by rw[he,Jy];rfl,St.of_below hw⟩
 rw[hx] at this;exact this
theorem Hi.tup3 {a b c:Value}:Hi (rv (.tuple #[a,b,c])) (CV [rv a,rv b,rv c]):=λZ v h=>⟨[a,b,c],h,rfl,rfl,rfl,trivial⟩
theorem NB (s:Ak):Hn Tryz.prog GE 29 [rS s] (rB (Cs s)):=Hn.of_old (vs:=[.string (B s)]) λw Z hf he=>T8 s w
theorem Sf (s:Ak)(m:Int)(g:D1 1 s.length=true)(gm:B6 .i64 m=true):Hn Tryz.prog GE 37 [rS s,rI .i64 m] (CV [rS (C4 s m),rI .i64 (CN s m)]):=(Hn.of_old (vs:=[.string (B s),.int .i64 m]) λw Z hf he=>O4 s m (by simp[D1] at g;omega) w (he w hf)).rle Hi.tup2
theorem Qp (s:Ak)(g:D1 1 s.length=true):Hn Tryz.prog GE 39 [rS s] (CV [rS (Jp (CZ s) (GO s)),rI .i64 (if CZ s=true then Bs (IF s) else(0:Int)),rB (CZ s)]):=(Hn.of_old (vs:=[.string (B s)]) λw Z hf he=>Qq s (by simp[D1] at g;omega) w (he w hf)).rle Hi.tup3
theorem Ou (s:Ak)(g:D1 1 s.length=true):Hn Tryz.prog GE 31 [rS s] (rB (Cs s)):=Hn.of_old (vs:=[.string (B s)]) λw Z hf he=>TY s (by simp[D1] at g;omega) w
theorem Pq (m:Int)(g:B6 .i64 m=true):Hn Tryz.prog GE 24 [rI .i64 m] (rS (Lib.itoa m)):=Hn.of_old (vs:=[.int .i64 m]) λw Z hf he=>QK m (DX g).1 (DX g).2 w
set_option linter.unusedSimpArgs false
theorem Gs (l:List UInt8):((CO l).map AU).flatten=(l.map λc=>Value.int .u8 c.toNat).map rv:=by
 induction l with
 | nil=>rfl
 | cons c r ih=>simp only[CO,Vh,List.flatten_cons] at ih ⊢;rw[ih];rfl
theorem De (l:List UInt8):(CO l).length=l.length:=by simp[CO]
theorem I6 {P:Program}{w:World}{t t' e:TypeId}{inf:TypeInfo}{v:Value}{m:Nat}{us:List Value}{s:List UInt8}(ty:TypeId)(ht:P.underlying t=some (.slice e))(hu:P.underlying t'=some .string)(hinf:P.info? e=some inf)(hz:inf.zero=some (.int .u8 0))(hsize:inf.size=1)(hby:inf.bytes=1)
  (hown:w.ownsRow 0 e 1 v m us) (hb:m+s.length≤140737488355328) :
  ∃v' w',(Builtin.append_ #[t,t'] ty #[v,.string (B s)]).run P w = .ok v' w'∧w'.ownsRow 0 e 1 v' (m+s.length) (us++s.map λc=>Value.int .u8 c.toNat)∧w.grownBy w' v.ownBlock∧(v'.ownBlock=v.ownBlock∨∀b,v'.ownBlock=some b→w.heap.size≤b):=by
 have hsz:(B s).size=s.length:=CB s;have hcells:Lib.strCells (B s)=s.map λc=>Value.int .u8 c.toNat:=by simp[Lib.strCells,B]
 rcases hown.2 with⟨rfl,rfl⟩ | ⟨g,cap,cur,rfl,hbg,hg,hnc,hcm,hcs,htake⟩
 ·have hx:us=[]:=UJ (by simpa using hown.1);subst hx;obtain⟨v',w',e1,e2,e3,_⟩:=Lib.run_append_own_string (P:=P) (w:=w) w.heap.size t t' ty e inf ht hu hinf hz hsize hby (.slice none 0 0) 0 [] (World.ownsRow_nil w _ e 1) (B s) (by rw[hsz];simp only[maxLen];omega) (by rw[hsz];omega) (UG _);rw[hsz,hcells] at e2;refine⟨v',w',e1,⟨e2.1,?_⟩,e3,.inr λb hb=>(e2.lt b hb).1⟩;rcases e2.2 with h | ⟨g,cap,cur,h,_,rest⟩
  ·exact .inl h
  ·exact .inr ⟨g,cap,cur,h,UU _,rest⟩
 ·obtain⟨v',w',e1,e2,e3,_⟩:=Lib.run_append_own_string (P:=P) (w:=w) 0 t t' ty e inf ht hu hinf hz hsize hby _ m us hown (B s) (by rw[hsz];simp only[maxLen];omega) (by rw[hsz];omega) (UU _);rw[hsz,hcells] at e2;refine⟨v',w',e1,e2,e3,?_⟩
  by_cases hroom:m+(B s).size≤cap
  ·have hr:=Lib.run_append_room_string (P:=P) w t t' ty e inf ht hu hinf hsize g m cap cur hg (B s) hroom (by simp at hcs;omega);rw[hr] at e1;simp only[Result.ok.injEq] at e1;rw[← e1.1];exact .inl rfl
  ·have holds:∀j u,us[j]? =some u→w.cell? ((⟨g,0,none⟩:Addr).add j)=some u:=hown.cells (g:=g) rfl;have hr:=Lib.run_append_grow_string (P:=P) w t t' ty e inf (.int .u8 0) ht hu hinf hz ⟨g,0,none⟩ m cap us (by rw[hsize];exact hown.1) holds (B s) (by omega) (by rw[hsz];omega) (by rw[hby];exact growslice_fits (by omega) (by rw[hsz];omega));rw[hr] at e1;simp only[Result.ok.injEq] at e1;rw[← e1.1];exact .inr λb hb=>by simp[Value.ownBlock] at hb;omega
section
variable {P : Program} {n : Nat} {c : Cx} {ops : Array Oper} {Q : Exit → Act → World → Prop} {rest : List Oper} {l : Fr} {H H' : List Ent} {d : Nat} {d' : Option Nat} {x y z3 : Operand} {ty t t' e : TypeId} {pos : String} {af : Array Edge} {g : Option (Nat × Bool)} {v u : Value} {r : Rp} {sz : Nat} {K : Act → World → Prop}
theorem St.tobld {Z:Fz}{w:World}(h:St c H Z w){i b:Nat}{te T:TypeId}(hi:H[i]? =some (.blk b [rv (.pointer none),rv (.slice none 0 0)] T)):St c (H.set i (.bld T te b (.slice none 0 0) [])) Z w:=by
 refine h.set hi rfl rfl rfl (UG _) (λ_ _ _=>rfl) ?_ (by simp[Ent.foot,Value.ownBlock]);obtain⟨us,h1,h2⟩:=h.ent hi;have:=AX.eq_rv (us:=[.pointer none,.slice none 0 0]) h2;subst this;exact⟨_,.inl rfl,h1,⟨by simp,.inl ⟨rfl,rfl⟩⟩,by simp[Value.ownBlock]⟩
theorem WK.tobld {i b:Nat}{te T:TypeId}(hi:H[i]? =some (.blk b [rv (.pointer none),rv (.slice none 0 0)] T))(h:WK n c K l (H.set i (.bld T te b (.slice none 0 0) []))):WK n c K l H:=λa w Z ha hw=>h a w Z ha (St.tobld hw hi)
theorem WL.tobld {i b:Nat}{te T:TypeId}(hi:H[i]? =some (.blk b [rv (.pointer none),rv (.slice none 0 0)] T))(h:WL P n c ops Q rest l (H.set i (.bld T te b (.slice none 0 0) []))):WL P n c ops Q rest l H:=λa w Z ha hw=>h a w Z ha (St.tobld hw hi)
theorem WC.tobld {xx:Code}{i b:Nat}{te T:TypeId}(hi:H[i]? =some (.blk b [rv (.pointer none),rv (.slice none 0 0)] T))(h:WC P n c xx Q l (H.set i (.bld T te b (.slice none 0 0) []))):WC P n c xx Q l H:=λa w Z ha hw=>h a w Z ha (St.tobld hw hi)
theorem Fn.bld {E:Fz→Prop}{f:FuncId}{args:List Rp}{T te:TypeId}{b:Nat}{v:Value}{s s':List UInt8}{res:Rp}
  (h:∀p,(p = .pointer none∨p = .pointer (some ⟨b,0,none⟩))→Fn P E f args [.blk b [rv p,rv v] T,.row v te 1 ((CO s).map AU)] (λR H=>∃w0:Value,R=res∧H=[.blk b [rv (.pointer (some ⟨b,0,none⟩)),rv w0] T,.row w0 te 1 ((CO s').map AU)])) :
  Fn P E f args [.bld T te b v s] (λR H=>∃w0:Value,R=res∧H=[.bld T te b w0 s']):=λw Z vs hv hs=>by
 obtain⟨p,hp,h1,h2,h3⟩:=hs.has _ (List.mem_singleton.2 rfl);have hfoot:[Ent.bld T te b v s].flatMap Ent.foot=[Ent.blk b [rv p,rv v] T,Ent.row v te 1 ((CO s).map AU)].flatMap Ent.foot:=by simp[Ent.foot]
 have hs':St ⟨w,Z,[Ent.blk b [rv p,rv v] T,Ent.row v te 1 ((CO s).map AU)].flatMap Ent.foot,E,[]⟩ [Ent.blk b [rv p,rv v] T,Ent.row v te 1 ((CO s).map AU)] Z w:=by
  refine⟨rfl,rfl,rfl,UG _,λ_ _ _=>rfl,?_,λe he k hk=>.inr (List.mem_flatMap.2 ⟨e,he,hk⟩),?_,hs.frz,Fz.le.refl _,λ_ _ e=>.inl e,λe he k hk=>?_,hs.env,hs.emono,IY.none rfl⟩
  ·intro e he;simp only[List.mem_cons,List.not_mem_nil,or_false] at he;rcases he with rfl | rfl
   ·exact⟨[p,v],h1,rfl,rfl,trivial⟩
   ·refine⟨λcl hcl=>by obtain⟨z,_,rfl⟩:=List.mem_map.1 hcl;rfl,_,by simpa[De] using h2,?_⟩;rw[Gs];exact AX.rvs Z _
  ·refine List.pairwise_cons.2 ⟨λe he k hk hk'=>?_,List.pairwise_singleton ..⟩;simp only[UL] at he;subst he;simp only[Ent.foot,UL] at hk;subst hk;simp only[Ent.foot,Option.mem_toList] at hk';exact h3 hk'
  ·have hmem:k∈[Ent.bld T te b v s].flatMap Ent.foot:=by rw[hfoot];exact List.mem_flatMap.2 ⟨e,he,hk⟩
   obtain⟨e',he',hk'⟩:=List.mem_flatMap.1 hmem;exact hs.zdis e' he' k hk'
 rw[hfoot] at hs ⊢;refine(h p hp w Z vs hv hs').mono λe w' ⟨R,vv,H,Z',he,⟨w0,hR,hH⟩,hpR,ht⟩=>⟨R,vv,[.bld T te b w0 s'],Z',he,⟨w0,hR,rfl⟩,hpR,?_⟩
 subst hH;obtain⟨us,k1,k2⟩:=ht.has (.blk b [rv (.pointer (some ⟨b,0,none⟩)),rv w0] T) (by simp);obtain⟨k3,ws,k4,k5⟩:=ht.has (.row w0 te 1 ((CO s').map AU)) (by simp);have e1:=AX.eq_rv (us:=[.pointer (some ⟨b,0,none⟩),w0]) k2;subst e1;rw[Gs] at k5;have e2:=AX.eq_rv k5;subst e2;have hd:=List.pairwise_cons.1 ht.dis;have hne:w0.ownBlock≠some b:=λhb=>hd.1 _ (List.mem_singleton.2 rfl) b (by simp[Ent.foot]) (by simp[Ent.foot,hb]);refine { ht with has:=?_,own:=?_,dis:=List.pairwise_singleton ..,zdis:=?_,gst:=⟨by simp[Ent.gk],by simp[Ent.gk],List.pairwise_singleton ..,ht.gst.new,by simp[Ent.gk]⟩ }
 ·intro e' he';simp only[UL] at he';subst he';exact⟨_,.inr rfl,k1,by simpa[De] using k4,hne⟩
 ·intro e' he' k hk;simp only[UL] at he';subst he';simp only[Ent.foot,List.mem_cons] at hk;rcases hk with rfl | hk
  ·exact ht.own (.blk k [rv (.pointer (some ⟨k,0,none⟩)),rv w0] T) (by simp) k (by simp[Ent.foot])
  ·exact ht.own (.row w0 te 1 ((CO s').map AU)) (by simp) k hk
 ·intro e' he' k hk;simp only[UL] at he';subst he';simp only[Ent.foot,List.mem_cons] at hk;rcases hk with rfl | hk
  ·exact ht.zdis (.blk k [rv (.pointer (some ⟨k,0,none⟩)),rv w0] T) (by simp) k (by simp[Ent.foot])
  ·exact ht.zdis (.row w0 te 1 ((CO s').map AU)) (by simp) k hk
theorem Fn.bldS {E:Fz→Prop}{f:FuncId}{args:List Rp}{T te:TypeId}{b:Nat}{v:Value}{s:List UInt8}{res:Rp}
  (h:∀p,(p = .pointer none∨p = .pointer (some ⟨b,0,none⟩))→Fn P E f args [.blk b [rv p,rv v] T,.row v te 1 ((CO s).map AU)] (λR H=>R=res∧H=[])) :
  Fn P E f args [.bld T te b v s] (λR H=>R=res∧H=[]):=λw Z vs hv hs=>by
 obtain⟨p,hp,h1,h2,h3⟩:=hs.has _ (List.mem_singleton.2 rfl);have hfoot:[Ent.bld T te b v s].flatMap Ent.foot=[Ent.blk b [rv p,rv v] T,Ent.row v te 1 ((CO s).map AU)].flatMap Ent.foot:=by simp[Ent.foot]
 have hs':St ⟨w,Z,[Ent.blk b [rv p,rv v] T,Ent.row v te 1 ((CO s).map AU)].flatMap Ent.foot,E,[]⟩ [Ent.blk b [rv p,rv v] T,Ent.row v te 1 ((CO s).map AU)] Z w:=by
  refine⟨rfl,rfl,rfl,UG _,λ_ _ _=>rfl,?_,λe he k hk=>.inr (List.mem_flatMap.2 ⟨e,he,hk⟩),?_,hs.frz,Fz.le.refl _,λ_ _ e=>.inl e,λe he k hk=>?_,hs.env,hs.emono,IY.none rfl⟩
  ·intro e he;simp only[List.mem_cons,List.not_mem_nil,or_false] at he;rcases he with rfl | rfl
   ·exact⟨[p,v],h1,rfl,rfl,trivial⟩
   ·refine⟨λcl hcl=>by obtain⟨z,_,rfl⟩:=List.mem_map.1 hcl;rfl,_,by simpa[De] using h2,?_⟩;rw[Gs];exact AX.rvs Z _
  ·refine List.pairwise_cons.2 ⟨λe he k hk hk'=>?_,List.pairwise_singleton ..⟩;simp only[UL] at he;subst he;simp only[Ent.foot,UL] at hk;subst hk;simp only[Ent.foot,Option.mem_toList] at hk';exact h3 hk'
  ·have hmem:k∈[Ent.bld T te b v s].flatMap Ent.foot:=by rw[hfoot];exact List.mem_flatMap.2 ⟨e,he,hk⟩
   obtain⟨e',he',hk'⟩:=List.mem_flatMap.1 hmem;exact hs.zdis e' he' k hk'
 rw[hfoot] at hs ⊢;exact h p hp w Z vs hv hs'
theorem Qx (hu:∃e',P.underlying t=some (.pointer e'))(hx:ev l x=some (rv (.pointer none))):Bd P n c l H { dst:=d',op:=.binOp .eql t x (.const (.pointer none)) t',type:=ty,pos:=pos,after:=af,guard:=g } (rB true):=λa w Z ha _=>C0<|by
 obtain⟨e',hu⟩:=hu;have h1:∀dd:Nat,(Op.equalIn (dd+1) t (.pointer none) (.pointer none)).run P w = .ok true w:=λdd=>by simp[Op.equalIn,run_underlying hu]
 have h2:(Op.equal t (.pointer none) (.pointer none)).run P w = .ok true w:=h1 9999;have h3:(eqGuard .eql t x (.const (.pointer none)) (.pointer none) (.pointer none)).run P w = .ok () w:=by unfold eqGuard;split<;>simp
 have hy:a.eval (.const (.pointer none)) = .pointer none:=rfl;simp only[execOp,ha.eval hx,hy,Sem.run_bind,h3,Result.andThen_ok,binOp,h2,Sem.run_pure]
theorem NA {p:Addr}{te:TypeId}(hu:P.underlying t=some (.pointer te))(hi:∃j,P.info? te=some j)(hx:ev l x=some (rv (.pointer (some p))))(hy:ev l y=some (rv (.pointer (some p)))):Bd P n c l H { dst:=d',op:=.binOp .neq t x y t',type:=ty,pos:=pos,after:=af,guard:=g } (rB false):=λa w Z ha _=>C0<|by
 obtain⟨j,hj⟩:=hi;have h3:(eqGuard .neq t x y (.pointer (some p)) (.pointer (some p))).run P w = .ok () w:=by unfold eqGuard;split<;>simp
 simp only[execOp,ha.eval hx,ha.eval hy,Sem.run_bind,h3,Result.andThen_ok,Lib.run_neq_ptr_same w p hu hj,Sem.run_pure]
theorem Lv {w:World}{Z:Fz}{i b:Nat}{cs:List Rp}(hw:St c H Z w)(hi:H[i]? =some (.blk b cs e)):w.shape? b=some (e,cs.length):=by
 obtain⟨us,h1,h2⟩:=hw.ent hi;simp[World.shape?,h1,h2.length]
theorem MF {i b:Nat}{cs:List Rp}{te:TypeId}(hs:P.underlying t=some (.pointer te))(hd:P.underlying t'=some .unsafePointer)(hj:∃j,P.info? te=some j∧j.size≠0)(hx:ev l x=some (rv (.pointer (some ⟨b,0,none⟩))))(hi:H[i]? =some (.blk b cs e))(hl:Nat.blt 0 cs.length=true) :
  Bd P n c l H { dst:=d',op:=.convert t t' x,type:=ty,pos:=pos,after:=af,guard:=g } (rv (.pointer (some ⟨b,0,none⟩))):=λa w Z ha hw=>C0<|by
 obtain⟨j,hj1,hj2⟩:=hj;have:=Lib.run_to_unsafe (P:=P) w ⟨b,0,none⟩ hs hd hj1 hj2 (Lv hw hi) (by simpa using hl);simp[execOp,ha.eval hx,this]
theorem Lj {i b:Nat}{cs:List Rp}{te:TypeId}(hs:P.underlying t=some .unsafePointer)(hd:P.underlying t'=some (.pointer te))(hj:∃j,P.info? te=some j)(hx:ev l x=some (rv (.pointer (some ⟨b,0,none⟩))))(hi:H[i]? =some (.blk b cs e))(hl:liesAt P P.depth e (cs.length/P.cellsOf e) 0 te 1=true) :
  Bd P n c l H { dst:=d',op:=.convert t t' x,type:=ty,pos:=pos,after:=af,guard:=g } (rv (.pointer (some ⟨b,0,none⟩))):=λa w Z ha hw=>C0<|by
 obtain⟨j,hj1⟩:=hj;have:=Lib.run_from_unsafe (P:=P) w ⟨b,0,none⟩ hs hd hj1 (Lv hw hi) hl;simp[execOp,ha.eval hx,this]
theorem RD {f : FuncId} {fn : Func} {ats : Array TypeId} (hf : P.funcs[f]? = some fn) (hname : (fn.name == "runtime.NumGoroutine") = false) (hb : fn.body.isNone = true) (hn : Extern.findNext fn = none) (he : Extern.find fn = some Extern.AbiNoEscape.same) (hx : ev l x = some (rv v)) :
  Bd P n c l H { dst:=d',op:=.call { callee:=.value (.func f),args:=#[x],argTypes:=ats },type:=ty,pos:=pos,after:=af,guard:=g } (rv v):=λa w Z ha hw=>C0<|by
 have h1:=run_callFunc_extern (P:=P) (w:=w) (args:=#[v]) hf hname hb hn he;rw[Lib.run_noEscape] at h1;simp only[execOp,resolve,Sem.run_bind,Sem.run_pure,Result.andThen_ok,Act.eval,Deferred.ofValue,invoke];simp only[List.map_toArray,Vh,List.map_nil,ha.eval hx,Array.append_empty,Array.empty_append];simpa using h1
theorem JZ {α:Type}{xs:List α}{enc:α→List Rp}(h:decide (0<xs.length)=true):decide (0<(xs.map enc).length)=true:=by simpa using h
section
variable {P : Program} {n : Nat} {c : Cx} {l : Fr} {H : List Ent} {d' : Option Nat} {x : Operand} {ty t t' e : TypeId} {pos : String} {af : Array Edge} {g : Option (Nat × Bool)} {v : Value}
theorem Ow:∀(ns:List Int) (p:List UInt8),ns.foldl (λr n=>r.push (UInt8.ofNat n.toNat)) (B p)=B (p++Li ns)
 | [],p=>by simp[Li]
 | n::ns,p=>by
  have e:(B p).push (UInt8.ofNat n.toNat)=B (p++[UInt8.ofNat n.toNat]):=by simp[B,ByteArray.push]
  simp only[List.foldl_cons,e];rw[Ow ns];simp[Li]
theorem QU (xs:List Int):(xs.map AU).flatten=(xs.map λc=>Value.int .u8 c).map rv:=by
 induction xs with
 | nil=>rfl
 | cons a r ih=>simp[AU,ih]
theorem Q0 {i:Nat}{xs:List Int}(hs:P.underlying t=some (.slice e))(hd:P.underlying t'=some .string)(he:P.underlying e=some (.int .u8))(hx:ev l x=some (rv v))(hi:H[i]? =some (.row v e 1 (xs.map AU))) :
  Bd P n c l H { dst:=d',op:=.convert t t' x,type:=ty,pos:=pos,after:=af,guard:=g } (rS (Li xs)):=λa w Z ha hw=>by
 obtain⟨_,us,⟨h1,h2⟩,h3⟩:=hw.ent hi;rw[QU] at h3;have e2:=AX.eq_rv h3;subst e2;refine⟨.string (B (Li xs)),rfl,?_⟩;have hlx:=ha.eval hx;rcases h2 with⟨rfl,hz⟩ | ⟨b,cap,cur,rfl,_,hb,hcap,hm,hcs,htk⟩
 ·have hx0:xs=[]:=by simpa using hz
  subst hx0;have:=run_convert_bytes_string w t t' e none 0 0 hs he hd;simp only[execOp,hlx];have e3:(Conv.bytesToString (.slice none 0 0)).run P w = .ok (.string (B [])) w:=rfl;rw[e3] at this;simp[this,Li]
 ·simp only[U2,Nat.mul_one] at htk hcap hcs h1;have hld:=run_loadCells_list (P:=P) w ⟨b,0,none⟩ (xs.map λc=>Value.int .u8 c) (λj u hj=>by
   rw[G7,US,cell_of_row w b j cur e (0,0) hb];rw[← htk,UQ] at hj
   split at hj
   ·simpa using hj
   ·cases hj)
  rw[U2] at hld;have h4:=run_bytesToString w ⟨b,0,none⟩ xs.length cap xs hld;have h5:=run_convert_bytes_string w t t' e (some ⟨b,0,none⟩) xs.length cap hs he hd;have h6:=Ow xs [];rw[h4,show ByteArray.empty=B [] from rfl,h6] at h5;simp[execOp,hlx,h5]
end
def Tm:Value→Value
 | .slice a _ _=>.pointer a
 | v=>v
theorem JB {i:Nat}{ts:Array TypeId}{xs:List (List Rp)}(hx:ev l x=some (rv v))(hi:H[i]? =some (.row v e sz xs))(hg:decide (0<xs.length)=true) :
  Bd P n c l H { dst:=d',op:=.call { callee:=.builtin .unsafeSliceData,args:=#[x],argTypes:=ts },type:=ty,pos:=pos,after:=af,guard:=g } (rv (Tm v)):=λa w Z ha hw=>C0<|by
 obtain⟨_,us,⟨_,h2⟩,_⟩:=hw.ent hi;have h0:0<xs.length:=by simpa using hg
 rcases h2 with⟨rfl,hz⟩ | ⟨b,cap,cur,rfl,_,_,hc,_⟩
 ·omega
 ·have:=Lib.run_unsafeSliceData_row (P:=P) w ts ty ⟨b,0,none⟩ xs.length cap (by omega);simp[execOp,resolve,invoke,builtin,ha.eval hx,this,Tm]
def TH (P:Program)(n:Nat)(c:Cx)(l:Fr)(H:List Ent)(o:Oper)(r:Rp)(H':List Ent):Prop:=∀a w Z,CA n l a Z→St c H Z w→∃v w' Z',Fz.le Z Z'∧r.p Z' v∧(execOp a.eval o).run P w = .ok (.value v) w'∧St c H' Z' w'
theorem Tt {opsA:Array Oper}{op:Op}(hr:TH P n c l H { dst:=some d,op:=op,type:=ty,pos:=pos,after:=af,guard:=none } r H'):Eb P n c opsA Q l H { dst:=some d,op:=op,type:=ty,pos:=pos,after:=af,guard:=none } r H':=λa w Z K0 ha hw hK=>
 ⟨λ_=>by
  obtain⟨v,w',Z',hz,hv,he,hs⟩:=hr a w Z ha hw;unfold Oper.wp;rw[he];exact hK v w' Z' hz hv hs,λh=>by simp[Region.wanted] at h⟩
theorem H3 {i:Nat}{pt it:TypeId}{s:List UInt8}(hp:P.underlying pt=some (.pointer e))(hc:P.cellsOf e=1)(hx:ev l x=some (rv (Tm v)))(hy:ev l y=some (rI .i64 ((CO s).length:Int)))(hi:H[i]? =some (.row v e 1 ((CO s).map AU)))(hg:decide (0<((CO s).map AU).length)=true)(hH:H.eraseIdx i=H') :
  TH P n c l H { dst:=some d,op:=.call { callee:=.builtin .unsafeString,args:=#[x,y],argTypes:=#[pt,it] },type:=ty,pos:=pos,after:=af,guard:=none } (rS s) H':=λa w Z ha hw=>by
 obtain⟨_,us,⟨h1,h2⟩,h3⟩:=hw.ent hi;rw[Gs] at h3;have e2:=AX.eq_rv h3;subst e2;have h0:0<s.length:=by simpa[De] using hg
 rcases h2 with⟨rfl,hz⟩ | ⟨b,cap,cur,rfl,_,hb,hcap,hm,hcs,htk⟩
 ·simp[De] at hz;subst hz;simp at h0
 ·simp only[U2,De,Nat.mul_one] at htk hcap hcs h1;have hus:=Lib.run_unsafeString_row (P:=P) w pt it ty e hp hc b cur.size (by simp[World.shape?,hb]) s (by intro e;subst e;simp at h0) (by omega) (by simp only[maxLen] at hm;omega) (λj x hj=>by
   rw[G7,US,cell_of_row w b j cur e (0,0) hb];have:(s.map λc=>Value.int .u8 c.toNat)[j]? =some (.int .u8 x.toNat):=by simp[hj]
   rw[← htk,UQ] at this
   split at this
   ·simpa using this
   ·cases this)
  have hmem:=U1 hi;have hfr:=hw.front hi;have hd:=List.pairwise_cons.1 hfr.dis;have hst:=hfr.sub (List.sublist_cons_self _ _);have hkeep:∀k,k≠b→(w.freeze ⟨b,0,none⟩ s.length).heap[k]? =w.heap[k]?:=λk hk=>by
   simp only[World.freeze]
   split
   ·rfl
   ·simp only[Array.getElem?_modify];rw[UV (λe=>hk e.symm)]
  have hzb:Z b=none:=hw.zdis _ hmem b (by simp[Ent.foot,Value.ownBlock]);refine⟨.string ⟨s.toArray⟩,w.freeze ⟨b,0,none⟩ s.length,Z,Fz.le.refl _,rfl,?_,?_⟩
  ·have hlx:=ha.eval hx;have hly:=ha.eval hy;rw[De] at hly;simp[execOp,resolve,invoke,builtin,hlx,hly,Tm,hus]
  ·subst hH;have hfz:∀(f:World→Prop),True:=λ_=>trivial;refine { hst with os:=?_,tape:=?_,output:=?_,size:=?_,old:=λk hk hkM=>?_,has:=λen he=>?_,frz:=⟨λb' o hb'=>?_,λk i b hb=>Nat.lt_of_lt_of_le (hst.frz.nm k i b hb) (by simp only[World.freeze];split<;>simp)⟩,gst:=hst.gst.grow (by simp only[World.freeze];split<;>simp) }
   ·rw[← hst.os];simp only[World.freeze];split<;>rfl
   ·rw[← hst.tape];simp only[World.freeze];split<;>rfl
   ·rw[← hst.output];simp only[World.freeze];split<;>rfl
   ·refine Nat.le_trans hst.size ?_;simp only[World.freeze];split<;>simp
   ·have hkb:k≠b:=λe=>by
     subst e;rcases hw.own _ hmem k (by simp[Ent.foot,Value.ownBlock]) with h4 | h4
     ·omega
     ·exact hkM h4
    rw[hkeep k hkb];exact hst.old k hk hkM
   ·exact Ent.keep (hst.has en he) (Fz.le.refl _) λk hk=>hkeep k (λe=>hd.1 en he b (by simp[Ent.foot,Value.ownBlock]) (e▸hk))
   ·rw[hkeep b' (λe=>by subst e;rw[hzb] at hb';cases hb')];exact hst.frz b' o hb'
theorem My {f:FuncId}{args:List Operand}{ats:Array TypeId}{o:Oper}{a:Act}{caps:List Value}(ho:o.op = .call { callee:=.value x,args:=args.toArray,argTypes:=ats })(hx:a.eval x = .func (.func f) #[] caps.toArray)
  (hcall:∀(as1:Array Value) (w:World),(callFunc f as1).run P w = .ok (.enter f as1) w) (w:World):(execOp a.eval o).run P w = .ok (.enter f (args.map a.eval++caps).toArray) w:=by
 simp[execOp,ho,resolve,hx,Deferred.ofValue,invoke,hcall]
theorem NT {f:FuncId}{args:List Operand}{ats:Array TypeId}{rs:List Rp}{caps:List Value}{Hin Hr:List Ent}{Φ:Rp→List Ent→Prop}(hcall:∀(as1:Array Value) (w:World),(callFunc f as1).run P w = .ok (.enter f as1) w)(hx:ev l x=some (rv (.func (.func f) #[] caps.toArray)))(hv:Ln l args=some rs)
  (hp:H.Perm (Hin++Hr)) (hc:Fn P c.E f (rs++caps.map rv) Hin Φ) (hn:Nat.blt d n=true) (h:∀r Ho,Φ r Ho→WL P n c ops Q rest ((d,r)::l) (Ho++Hr)) :
  WL P n c ops Q ({ dst:=some d,op:=.call { callee:=.value x,args:=args.toArray,argTypes:=ats },type:=ty,pos:=pos,after:=af,guard:=none }::rest) l H:=
 Is (args:=λa=>(args.map a.eval++caps).toArray) (λa w Z ha hw=>⟨My rfl (ha.eval hx) hcall w,by
  have hw2:=hw.perm hp;refine(hc w Z _ (by have:=(GT ha hv).append (AX.rvs Z caps);simpa using this) hw2.enter).mono ?_;rintro e w' ⟨r,v,Ho,Z',he,hΦ,hr,hs⟩;exact⟨v,r,Ho++Hr,Z',he,hs.le,hr,hw2.call hs,h r Ho hΦ⟩⟩) hn
theorem Ey {xs:List Int}{s:List UInt8}{i:Nat}{inf:TypeInfo}(ht:P.underlying t=some (.slice e))(hu:P.underlying t'=some .string)(hinf:P.info? e=some inf)(hz:inf.zero=some (.int .u8 0))(hsize:inf.size=1)(hby:inf.bytes=1)
  (hx:ev l x=some (rv v)) (hy:ev l y=some (rS s)) (hi:H[i]? =some (.row v e 1 (xs.map AU))) (hg:D1 1 (xs.length+s.length)=true) (hn:Nat.blt d n=true)
  (h:∀v',WL P n c ops Q rest ((d,rv v')::l) (.row v' e 1 ((xs++CO s).map AU)::H.eraseIdx i)) :
  WL P n c ops Q ({ dst:=some d,op:=.call { callee:=.builtin .append,args:=#[x,y],argTypes:=#[t,t'] },type:=ty,pos:=pos,after:=af,guard:=none }::rest) l H:=
 Ic (λa w Z ha hw=>by
  obtain⟨h0,us,h1,h2⟩:=hw.ent hi;have hb:(xs.length+s.length)*1≤140737488355328:=by simpa[D1] using hg
  rw[U2] at h1;obtain⟨v',w',e1,e2,e3,e4⟩:=I6 (P:=P) (w:=w) ty ht hu hinf hz hsize hby h1 (s:=s) (by omega);have hent:(Ent.row v' e 1 ((xs++CO s).map AU)).holds Z w':=⟨λcl hcl=>by obtain⟨z',_,rfl⟩:=List.mem_map.1 hcl;rfl,us++s.map (λc=>Value.int .u8 c.toNat),by simpa[De] using e2,by
   rw[List.map_append,List.flatten_append,Gs];exact h2.append (AX.rvs Z _)⟩
  have hst:=hw.callF hi (St.one (e':=.row v' e 1 ((xs++CO s).map AU)) (M:=(Ent.row v e 1 (xs.map AU)).foot) hw.frz hw.env hw.emono e3.os e3.tape e3.output e3.size (λk hk hne=>e3.block k hk (λe1=>hne (by simp[Ent.foot,← e1])))
   (hw.zdis _ (U1 hi)) hent (λk hk=>by
    simp only[Ent.foot,Option.mem_toList] at hk ⊢;rcases e4 with e4 | e4
    ·exact .inl (e4▸hk)
    ·exact .inr (e4 k hk)))
  exact⟨v',w',rv v',_,Z,by simp[execOp,resolve,invoke,builtin,ha.eval hx,ha.eval hy,e1],Fz.le.refl _,rfl,hst,h v'⟩) hn
end
section
variable {P : Program} {n : Nat} {c : Cx} {ops : Array Oper} {Q : Exit → Act → World → Prop} {rest : List Oper} {l : Fr} {H : List Ent} {d : Nat} {ty : TypeId} {pos : String} {af : Array Edge} {r : Rp} {x y z3 : Operand}
theorem wo {d:Option Nat}{op:Op}{j dj:Nat}{want b:Bool}(hb:b=want)(h:WL P n c ops Q ({ dst:=d,op:=op,type:=ty,pos:=pos,after:=af,guard:=none }::rest) l H)(hj:Du ops j=some dj:=by rfl)(hv:look l dj=some (rB b):=by rfl) :
  WL P n c ops Q ({ dst:=d,op:=op,type:=ty,pos:=pos,after:=af,guard:=some (j,want) }::rest) l H:=AQ hj hv hb h
theorem wf {op:Op}{j dj:Nat}{want b:Bool}(hb:b = !want)(h:WL P n c ops Q rest ((d,rv undef)::l) H)(hj:Du ops j=some dj:=by rfl)(hv:look l dj=some (rB b):=by rfl)(hn:Nat.blt d n=true:=by rfl) :
  WL P n c ops Q ({ dst:=some d,op:=op,type:=ty,pos:=pos,after:=af,guard:=some (j,want) }::rest) l H:=Ag hj hv hb hn h
theorem wu {op:Op}{j dj:Nat}{want:Bool}(h:WL P n c ops Q rest ((d,rv undef)::l) H)(hj:Du ops j=some dj:=by rfl)(hv:look l dj=some (rv undef):=by rfl)(hn:Nat.blt d n=true:=by rfl) :
  WL P n c ops Q ({ dst:=some d,op:=op,type:=ty,pos:=pos,after:=af,guard:=some (j,want) }::rest) l H:=D6 hj hv hn h
theorem wv {op:Op}(hr:Bd P n c l H { dst:=some d,op:=op,type:=ty,pos:=pos,after:=af,guard:=none } r)(h:WL P n c ops Q rest ((d,r)::l) H)(hn:Nat.blt d n=true:=by rfl):WL P n c ops Q ({ dst:=some d,op:=op,type:=ty,pos:=pos,after:=af,guard:=none }::rest) l H:=An hr hn h
theorem wm (h:ev l x=some r)(hk:WL P n c ops Q rest ((d,r)::l) H)(hn:Nat.blt d n=true:=by rfl):WL P n c ops Q ({ dst:=some d,op:=.move x,type:=ty,pos:=pos,after:=af,guard:=none }::rest) l H:=An (Ah h) hn hk
theorem wa (h:ev l x=some r)(hk:WL P n c ops Q rest ((d,r)::l) H)(hn:Nat.blt d n=true:=by rfl):WL P n c ops Q ({ dst:=some d,op:=.assign x,type:=ty,pos:=pos,after:=af,guard:=none }::rest) l H:=An (Ae h) hn hk
theorem EA {b:Bool}(hc:ev l z3=some (rB b))(hb:b=true)(h:ev l x=some r)(hk:WL P n c ops Q rest ((d,r)::l) H)(hn:Nat.blt d n=true:=by rfl):WL P n c ops Q ({ dst:=some d,op:=.pick z3 x y,type:=ty,pos:=pos,after:=af,guard:=none }::rest) l H:=An (Ao hc hb h) hn hk
theorem ET {b:Bool}(hc:ev l z3=some (rB b))(hb:b=false)(h:ev l y=some r)(hk:WL P n c ops Q rest ((d,r)::l) H)(hn:Nat.blt d n=true:=by rfl):WL P n c ops Q ({ dst:=some d,op:=.pick z3 x y,type:=ty,pos:=pos,after:=af,guard:=none }::rest) l H:=An (Ar hc hb h) hn hk
theorem C9 {f:FuncId}{args:List Operand}{ats:Array TypeId}{rs:List Rp}(hcall:∀(as1:Array Value) (w:World),(callFunc f as1).run P w = .ok (.enter f as1) w)(hc:Hn P c.E f rs r)(hv:Ln l args=some rs)(h:WL P n c ops Q rest ((d,r)::l) H)(hn:Nat.blt d n=true:=by rfl) :
  WL P n c ops Q ({ dst:=some d,op:=.call { callee:=.value (.func f),args:=args.toArray,argTypes:=ats },type:=ty,pos:=pos,after:=af,guard:=none }::rest) l H:=Ca hcall hv hc rfl hn h
theorem Hk {f:FuncId}{args:List Operand}{ats:Array TypeId}{rs:List Rp}{Hin Hr:List Ent}{Φ:Rp→List Ent→Prop}(hcall:∀(as1:Array Value) (w:World),(callFunc f as1).run P w = .ok (.enter f as1) w)(hc:Fn P c.E f rs Hin Φ)(hv:Ln l args=some rs)
  (hp:H.Perm (Hin++Hr)) (hn:Nat.blt d n=true) (h:∀r Ho,Φ r Ho→WL P n c ops Q rest ((d,r)::l) (Ho++Hr)) :
  WL P n c ops Q ({ dst:=some d,op:=.call { callee:=.value (.func f),args:=args.toArray,argTypes:=ats },type:=ty,pos:=pos,after:=af,guard:=none }::rest) l H:=BD hcall hv hp hc hn h
theorem Dg {opsA:Array Oper}{f:FuncId}{args:List Operand}{ats:Array TypeId}{rs:List Rp}(hcall:∀(as1:Array Value) (w:World),(callFunc f as1).run P w = .ok (.enter f as1) w)(hc:Hn P c.E f rs r)(hv:Ln l args=some rs) :
  Eb P n c opsA Q l H { dst:=some d,op:=.call { callee:=.value (.func f),args:=args.toArray,argTypes:=ats },type:=ty,pos:=pos,after:=af,guard:=none } r H:=Hx hcall hv hc rfl
theorem wt {K:Exit→Act→World→Prop}{l1:Fr}{H1:List Ent}(hl:AK l1 l:=by repeat (first | exact AK.nil | refine AK.c rfl ?_))(hH:H1.Sublist H:=by repeat (first | exact sN | refine sC ?_ | refine sS ?_)):WK n c (Exit.then (Ti n c l1 H1) K .normal) l H:=Ap (Bc hl hH)
theorem BO {p:Prop}(hp:p){K:Exit→Act→World→Prop}{l1:Fr}{H1:List Ent}(hl:p→AK l1 l:=by intro hp;repeat (first | exact AK.nil | refine AK.c rfl ?_ | refine AK.c (by first | (simp only[hp];rfl) | simp[hp]) ?_))(hH:H1.Sublist H:=by repeat (first | exact sN | refine sC ?_ | refine sS ?_)):WK n c (Exit.then (Ti n c l1 H1) K .normal) l H:=Ap (Bc (hl hp) hH)
end
open Go Go.RowKit Go.ChangeShapes Go.Deep
def ZW (W:World):Fz:=⟨λb=>W.heap[b]?,λ_ _=>none⟩
theorem ZW.frz (W:World):PA (ZW W) W:=⟨λ_ _ h=>h,λ_ _ _ h=>by cases h⟩
def Ki (P:Program)(e:TypeId){α:Type}(enc:α→List Rp)(ok:α→Bool):Prop:=
 ∀{H:Type} {encH:TypeId×Value→H} {W:World} {sp:Nat→Bool} {held:Bool} {n:Nat} {cs:List Value} {x:DataW H×List MemPlace},DataW.trod encH P W 0 sp held n e cs=some x→∃y:α,ok y=true∧AX (ZW W) (enc y) cs
section
variable {P : Program} {e t : TypeId}
theorem Ki.int {k:IntKind}{enc:Int→List Rp}(ht:P.underlying e=some (.int k))(he:∀n,enc n=[rI k n]):Ki P e enc (B6 k):=λh=>by
 obtain⟨n,rfl,_,hwf⟩:=DataW.trod_int ht h;exact⟨n,hwf,by rw[he];exact⟨rfl,trivial⟩⟩
theorem Ki.str {enc:Ak→List Rp}(ht:P.underlying e=some .string)(he:∀n,enc n=[rS n]):Ki P e enc Og:=λh=>by
 obtain⟨s,rfl,_,hl⟩:=DataW.trod_string ht h;exact⟨s.data.toList,UC (by rw[Array.length_toList];exact hl),by rw[he];exact⟨congrArg Value.string (Ub s),trivial⟩⟩
theorem Ki.bool {enc:Bool→List Rp}(ht:P.underlying e=some .bool)(he:∀n,enc n=[rB n]):Ki P e enc (λ_=>true):=λh=>by
 obtain⟨b,rfl,_⟩:=DataW.trod_bool ht h;exact⟨b,rfl,by rw[he];exact⟨rfl,trivial⟩⟩
theorem LE {W:World}{a:Addr}{v:Value}(h:W.cell? a=some v):a.spot=none∧GX (ZW W) a.block a.off=some v:=by
 unfold World.cell? at h;unfold GX ZW;dsimp only
 cases hh:W.heap[a.block]? with
 | none=>rw[hh] at h;cases h
 | some o=>
  rw[hh] at h
  cases o with
  | cells cs t fz=>
   cases hs:a.spot with
   | none=>simp[hs] at h;exact⟨rfl,h⟩
   | some _=>simp[hs] at h
  | _=>simp at h
theorem Ki.slice {α:Type}[Inhabited α]{enc:α→List Rp}{ok:α→Bool}{sz:Nat}(ht:P.underlying t=some (.slice e))(hc:P.cellsOf e=sz)(hsz:0<sz)(h:Ki P e enc ok)(hlen:∀y,(enc y).length=sz){enc':List α→List Rp}(he:∀ys,enc' ys=[Bl sz (ys.map enc)]) :
  Ki P t enc' (λys=>ys.all ok&&decide (ys.length≤9223372036854775807)):=fun {H encH W sp held n cs x} hx=>by
 rcases open_slice ht hx with⟨rfl,_⟩ | ⟨a,len,cap,m,n',D,Pl,rfl,hb,hl,hm,hmm,_,hel⟩
 ·exact⟨[],by simp,by rw[he];exact⟨O7.nil sz _,trivial⟩⟩
 ·have hlm:len≤m:=by rw[hmm];split<;>omega
  have each:∀i,i<len→∃y:α,ok y=true∧∃cs',W.cells? 0 (a.add (i*sz)) sz=some cs'∧AX (ZW W) (enc y) cs':=λi hi=>by
   obtain⟨cs',h1,h2⟩:=hel i (by omega);obtain⟨y,hy,hr⟩:=h h2;rw[hc] at h1;exact⟨y,hy,cs',h1,hr⟩
  obtain⟨f,hf⟩:=choose_lt each;refine⟨(List.range len).map f,?_,?_⟩
  ·simp only[Uq,UP,List.mem_map,List.mem_range,Un];refine⟨?_,by simp;simp only[maxLen] at hm;omega⟩;rintro _ ⟨i,hi,rfl⟩;exact(hf i hi).1
  ·rw[he];refine⟨⟨some a,cap,by simp,by simpa using hl,hm,(λh=>by cases h),λi c hi=>?_⟩,trivial⟩;rw[List.map_map,UN] at hi;have hil:i<len:=by
    cases hq:(List.range len)[i]? with
    | none=>rw[hq] at hi;cases hi
    | some _=>have:=(List.getElem?_eq_some_iff.1 hq).1;simpa using this
   rw[List.getElem?_range hil] at hi;simp only[Option.map_some,Option.some.injEq,Function.comp] at hi;subst hi;obtain⟨_,cs',h1,hr⟩:=hf i hil;obtain⟨_,hcl,hcell⟩:=World.cells?_some h1;have hsp:a.spot=none:=by
    obtain⟨_,cs0,g1,_⟩:=hf 0 (by omega);obtain⟨_,gcl,gcell⟩:=World.cells?_some g1;have h0:=gcell 0 hsz;rw[Us (by omega)] at h0;have:=(LE h0).1;simpa[Addr.add] using this
   refine⟨hlen _,a,rfl,hsp,λj r hj=>?_⟩;obtain⟨u,hu,hp⟩:=hr.at hj;have hjs:j<sz:=by have:=(List.getElem?_eq_some_iff.1 hj).1;rw[hlen] at this;exact this
   have h3:=hcell j hjs;rw[hu] at h3;have h4:=(LE h3).2;refine⟨u,?_,hp⟩;have e1:((a.add (i*sz)).add j).block=a.block:=by simp only[Addr.add];split<;>split<;>rfl
   have e2:((a.add (i*sz)).add j).off=a.off+(i*sz+j):=by simp only[Addr.add];split<;>split<;>simp_all<;>omega
   rw[e1,e2] at h4;exact h4
theorem NW {Z:Fz}{cs:List Value}{o:Nat}(h:cs.length=o):AX Z [] (cs.drop o):=by rw[List.drop_of_length_le (by omega)];trivial
theorem Dn {Z:Fz}{cs:List Value}{o s o':Nat}{rs rs':List Rp}(h:AX Z rs ((cs.drop o).take s))(ho:o+s=o')(h2:AX Z rs' (cs.drop o')):AX Z (rs++rs') (cs.drop o):=by
 rw[← Vf s (cs.drop o),List.drop_drop];subst ho;exact h.append h2
theorem Ki.val {α:Type}{enc:α→List Rp}{ok:α→Bool}(h:Ki P e enc ok){r:α→Rp}(he:∀y,enc y=[r y]){H:Type}{encH:TypeId×Value→H}{W:World}{sp:Nat→Bool}{held:Bool}{v:Value}{d:DataW H}{ps:List MemPlace}
  (hone:v.cells = #[v]) (ht:DataW.Trod encH P W 0 sp held e v d ps):∃y:α,ok y=true∧(r y).p (ZW W) v:=by
 obtain⟨fuel,hf⟩:=ht;rw[hone] at hf;obtain⟨y,hy,hr⟩:=h hf;rw[he] at hr;exact⟨y,hy,hr.1⟩
theorem Ki.valAgg {α:Type}{enc:α→List Rp}{ok:α→Bool}(h:Ki P e enc ok){H:Type}{encH:TypeId×Value→H}{W:World}{sp:Nat→Bool}{held:Bool}{cs:Array Value}{d:DataW H}{ps:List MemPlace}
  (ht:DataW.Trod encH P W 0 sp held e (.agg cs) d ps):∃y:α,ok y=true∧(Bo (enc y)).p (ZW W) (.agg cs):=by
 obtain⟨fuel,hf⟩:=ht;obtain⟨y,hy,hr⟩:=h hf;exact⟨y,hy,cs.toList,by simp,hr⟩
end
theorem QJ {W w:World}(hw:PA (ZW W) w):W.heap.size≤w.heap.size:=by
 rcases Nat.eq_zero_or_pos W.heap.size with h | h
 ·omega
 ·have h1:W.heap[W.heap.size-1]? =some (W.heap[W.heap.size-1]'(by omega)):=Array.getElem?_eq_getElem (by omega);have:=(Array.getElem?_eq_some_iff.1 (hw _ _ h1)).1;omega
theorem Pp {W:World}(hE:Nn W):GE (ZW W):=λw hw=>by
 have hb:Below W.heap.size W { w with os:=W.os,tape:=W.tape,output:=W.output }:=⟨rfl,rfl,rfl,(show W.heap.size≤w.heap.size from QJ hw),λk hk=>by
  have h1:W.heap[k]? =some (W.heap[k]'hk):=Array.getElem?_eq_getElem hk;rw[h1];exact hw k _ h1⟩
 have hE2:=hE.st0 (St.of_below hb);exact⟨Mk.block { w with os:=W.os,tape:=W.tape,output:=W.output } w (λ_ _=>rfl) hE2.tabs,hE2.size⟩
theorem Qa {W:World}(hE:Nn W):St ⟨W,ZW W,[],GE,[]⟩ [] (ZW W) W where
 os:=rfl
 tape:=rfl
 output:=rfl
 size:=UG _
 old:=λ_ _ _=>rfl
 has:=λ_ h=>by cases h
 own:=λ_ h=>by cases h
 dis:=.nil
 frz:=ZW.frz W
 le:=Fz.le.refl _
 new:=λ_ _ h=>.inl h
 zdis:=λ_ h=>by cases h
 env:=Pp hE
 emono:=λh hg=>GE.mono h hg
 gst:=IY.none rfl
theorem Qb {W W':World}{Z Z':Fz}{E:Fz→Prop}{H:List Ent}(h:St ⟨W,Z,[],E,[]⟩ H Z' W'):Below W.heap.size W W':=⟨h.os,h.tape,h.output,h.size,λk hk=>h.old k hk (by simp)⟩
open Go
def Ju (l:(List Int)):Option ((List Int)):=
 some l
def H0 (l:(List Int))(c:Int):Option (Unit×(List Int)):=
 B3 (Ju l) λr1=>AW (D1 1 (r1.length+([c]:List Int).length))<|some ((),r1++([c]:List Int))
def Gi (l:(List Int))(s:Ak):Option (Int×Unit×(List Int)):=
 B3 (Ju l) λr1=>AW (D1 1 (r1.length+s.length))<|some ((s.length:Int),(),r1++CO s)
def KY (l:Ak):Option (Ak):=
 AW (decide (0<(CO l).length))<|some l
def Jt (l:(List Int)):Option ((List Int)):=
 some l
def Hz (l:(List Int))(c:Int):Option (Unit×(List Int)):=
 B3 (Jt l) λr1=>AW (D1 1 (r1.length+([c]:List Int).length))<|some ((),r1++([c]:List Int))
def Gh (l:(List Int))(s:Ak):Option (Int×Unit×(List Int)):=
 B3 (Jt l) λr1=>AW (D1 1 (r1.length+s.length))<|some ((s.length:Int),(),r1++CO s)
def KX (l:Ak):Option (Ak):=
 AW (decide (0<(CO l).length))<|some l
set_option maxRecDepth 100000
set_option maxHeartbeats 4000000
theorem IM:∃inf,Tryz.prog.info? 5=some inf∧inf.zero=some (.int .u8 0)∧inf.size=1∧inf.bytes=1:=by
  have key:(Tryz.prog.info? 5).map (λi=>(i.zero,i.size,i.bytes))=some (some (.int .u8 0),1,1):=by kernel_rfl
  obtain⟨inf,h1,h2⟩:=Option.map_eq_some_iff.1 key;simp only[Prod.mk.injEq] at h2;exact⟨inf,h1,h2.1,h2.2.1,h2.2.2⟩
theorem Oo:∃j,Tryz.prog.info? 66=some j∧j.size≠0:=by
  have key:(Tryz.prog.info? 66).map (λi=>i.size)=some 2:=by kernel_rfl
  obtain⟨j,h1,h2⟩:=Option.map_eq_some_iff.1 key;exact⟨j,h1,by rw[h2];decide⟩
theorem Oq:∃j,Tryz.prog.info? 66=some j:=Oo.imp λ_ h=>h.1
theorem Ng (ha:Nat)(hd:Value)(l:(List Int))(r:(List Int))(h:Ju l=some r):Fn Tryz.prog GE 88 [rv (.pointer (some ⟨ha,0,none⟩))] [.blk ha [rv (.pointer none),rv hd] 66,.row hd 5 1 (List.map AU l)] (λR H=>∃w0:Value,R=rv (.tuple #[])∧H=[.blk ha [rv (.pointer (some ⟨ha,0,none⟩)),rv w0] 66,.row w0 5 1 (List.map AU r)]):=by
 refine enter (n:=20) Tryz.func88 Aa Tryz.ntmps88 Aa (λw Z=>?_);refine AR (l':=[(0,rv (.pointer (some ⟨ha,0,none⟩)))]) (H':=[.blk ha [rv (.pointer none),rv hd] 66,.row hd 5 1 (List.map AU l)]) Aa Aa ?_;unfold Ju at h;refine Al (wm Aa (wv (A2 Aa) (wv (Ad HM Aa PI Aa Aa) (wv (Aq (i:=0) Gn Aa Aa Aa) (wv (r:=rB true) (Qx ⟨_,PG⟩ Aa) (As (Ed Aa Aa (Ai (wm Aa (wm Aa (wv (r:=rv (.pointer (some ⟨ha,0,none⟩))) (MF (i:=0) PG Tryz.underlying131 Oo Aa Aa Aa) (An (r:=rv (.pointer (some ⟨ha,0,none⟩))) (RD Tryz.func110 (by kernel_rfl) (by kernel_rfl) (by kernel_rfl) (by kernel_rfl) Aa) Aa (wv (r:=rv (.pointer (some ⟨ha,0,none⟩))) (Lj (i:=0) Tryz.underlying131 PG Oq Aa Aa (by kernel_rfl)) (wv (A2 Aa) (wv (Ad HM Aa PI Aa Aa) (B0 (i:=0) PI Aa Aa (BV Aa) Aa Aa (cs':=[rv (.pointer (some ⟨ha,0,none⟩)),rv hd]) Aa (H':=[.blk ha [rv (.pointer (some ⟨ha,0,none⟩)),rv hd] 66,.row hd 5 1 (List.map AU l)]) Aa (Aj ?_)))))))))))))))));obtain rfl:=A0 h;exact EB (OR Tryz.results88) (sC (sC sN)) ⟨hd,Aa,Aa⟩
theorem Lq (ha:Nat)(hd:Value)(l:(List Int))(c:Int)(r:Unit×(List Int))(h:H0 l c=some r):Fn Tryz.prog GE 62 [rv (.pointer (some ⟨ha,0,none⟩)),rI .u8 c] [.blk ha [rv (.pointer none),rv hd] 66,.row hd 5 1 (List.map AU l)] (λR H=>∃w0:Value,R=rv (.nilIface)∧H=[.blk ha [rv (.pointer (some ⟨ha,0,none⟩)),rv w0] 66,.row w0 5 1 (List.map AU r.2)]):=by
 refine enter (n:=17) Tryz.func62 Aa Tryz.ntmps62 Aa (λw Z=>?_);refine AR (l':=[(0,rv (.pointer (some ⟨ha,0,none⟩))),(1,rI .u8 c)]) (H':=[.blk ha [rv (.pointer none),rv hd] 66,.row hd 5 1 (List.map AU l)]) Aa Aa ?_;unfold H0 at h;refine Al (wv (r:=rv (.nilIface)) (Ae Aa) (Bv (wm Aa ?_)));obtain⟨r1,e3,h2⟩:=AH h;refine Hk (Hr:=[]) Tryz.call88 (Ng ha hd l r1 e3) Aa (Ur _) Aa ?_;rintro _ _ ⟨v4,rfl,rfl⟩;refine Bv (wm Aa (wm Aa (wv (A2 Aa) (wv (Ad HM Aa HN Aa Aa) (wv (Aq (i:=0) Mr Aa Aa Aa) (wm Aa (Bp (ys:=([c]:List Int)) (enc:=AU) (css:=[[rI .u8 c]]) (xs:=[.tmp 12]) EQ PC S3 Aa Aa Aa ⟨Gk.one Aa (Up.refl _),trivial⟩ Aa CD Aa Aa Aa (λb5=>?_))))))));obtain⟨g7,h8⟩:=Az h2;obtain⟨inf,hinf⟩:=IM;refine Ck (xs:=r1) (ys:=([c]:List Int)) (enc:=AU) (i:=2) EQ hinf.1 hinf.2.1 hinf.2.2.1 hinf.2.2.2 Aa Aa Aa Aa Aa (Jw.w (i:=0) Aa Aa) CD G5 g7 Aa (λv6=>?_);refine wv (A2 Aa) (wv (Ad HM Aa HN Aa Aa) (B0 (i:=2) HN Aa Aa (D0 (i:=0) Aa) Aa Aa (cs':=[rv (.pointer (some ⟨ha,0,none⟩)),rv v6]) Aa (H':=[.row v6 5 1 (List.map AU (r1++([c]:List Int))),.row (.slice (some ⟨b5,0,none⟩) 1 1) 5 1 (List.map AU ([c]:List Int)),.blk ha [rv (.pointer (some ⟨ha,0,none⟩)),rv v6] 66]) Aa (Bv (wv (r:=rv (.nilIface)) (Ae Aa) (As (Ay (CH (H2:=[.blk ha [rv (.pointer (some ⟨ha,0,none⟩)),rv v6] 66,.row v6 5 1 (List.map AU (r1++([c]:List Int))),.row (.slice (some ⟨b5,0,none⟩) 1 1) 5 1 (List.map AU ([c]:List Int))]) ((AC (i:=2) Aa).trans (Uv _ (Ur _))) ?_)))))));obtain rfl:=A0 h8;exact Ax (BG Tryz.results62 (AM Aa)) (sC (sC (sS sN))) ⟨v6,Aa,Aa⟩
theorem JS (ha:Nat)(hd:Value)(l:(List Int))(s:Ak)(r:Int×Unit×(List Int))(h:Gi l s=some r):Fn Tryz.prog GE 60 [rv (.pointer (some ⟨ha,0,none⟩)),rS s] [.blk ha [rv (.pointer none),rv hd] 66,.row hd 5 1 (List.map AU l)] (λR H=>∃w0:Value,R=CV [rI .i64 r.1,rv (.nilIface)]∧H=[.blk ha [rv (.pointer (some ⟨ha,0,none⟩)),rv w0] 66,.row w0 5 1 (List.map AU r.2.2)]):=by
 refine enter (n:=19) Tryz.func60 Aa Tryz.ntmps60 Aa (λw Z=>?_);refine AR (l':=[(0,rv (.pointer (some ⟨ha,0,none⟩))),(1,rS s)]) (H':=[.blk ha [rv (.pointer none),rv hd] 66,.row hd 5 1 (List.map AU l)]) Aa Aa ?_;unfold Gi at h;refine Al (wv (r:=rI .i64 0) (Ae Aa) (wv (r:=rv (.nilIface)) (Ae Aa) (Bv (wm Aa ?_))));obtain⟨r1,e3,h2⟩:=AH h;refine Hk (Hr:=[]) Tryz.call88 (Ng ha hd l r1 e3) Aa (Ur _) Aa ?_;rintro _ _ ⟨v4,rfl,rfl⟩;refine Bv (wm Aa (wm Aa (wv (A2 Aa) (wv (Ad HM Aa HN Aa Aa) (wv (Aq (i:=0) Mr Aa Aa Aa) (wm Aa ?_))))));obtain⟨g6,h7⟩:=Az h2;obtain⟨inf,hinf⟩:=IM;refine Ey (xs:=r1) (i:=1) EQ Ce hinf.1 hinf.2.1 hinf.2.2.1 hinf.2.2.2 Aa Aa Aa g6 Aa (λv5=>?_);refine wv (A2 Aa) (wv (Ad HM Aa HN Aa Aa) (B0 (i:=1) HN Aa Aa (D0 (i:=0) Aa) Aa Aa (cs':=[rv (.pointer (some ⟨ha,0,none⟩)),rv v5]) Aa (H':=[.row v5 5 1 (List.map AU (r1++CO s)),.blk ha [rv (.pointer (some ⟨ha,0,none⟩)),rv v5] 66]) Aa (Bv (wm Aa (wv (AZ Ce Aa) (wa Aa (wv (r:=rv (.nilIface)) (Ae Aa) (As (Ay (CH (H2:=[.blk ha [rv (.pointer (some ⟨ha,0,none⟩)),rv v5] 66,.row v5 5 1 (List.map AU (r1++CO s))]) ((AC (i:=1) Aa).trans (Uv _ (Ur _))) ?_))))))))));obtain rfl:=A0 h7;exact Ax (El Tryz.results60 (AM Aa) (AM Aa)) (sC (sC sN)) ⟨v5,Aa,Aa⟩
theorem NP (ha:Nat)(hd:Value)(l:Ak)(r:Ak)(h:KY l=some r):Fn Tryz.prog GE 43 [rv (.pointer (some ⟨ha,0,none⟩))] [.blk ha [rv (.pointer none),rv hd] 66,.row hd 5 1 (List.map AU (CO l))] (λR H=>R=rS r∧H=[]):=by
 refine enter (n:=14) Tryz.func43 Aa Tryz.ntmps43 Aa (λw Z=>?_);refine AR (l':=[(0,rv (.pointer (some ⟨ha,0,none⟩)))]) (H':=[.blk ha [rv (.pointer none),rv hd] 66,.row hd 5 1 (List.map AU (CO l))]) Aa Aa ?_;unfold KY at h;refine Al (wv (r:=rS ([]:Ak)) (Ae Aa) (As (Am ?_)));obtain⟨g1,h2⟩:=Az h;refine Gd (H1:=[.blk ha [rv (.pointer none),rv hd] 66]) [0] [⟨[],rv (.pointer (some ⟨ha,0,none⟩)),0⟩,⟨[0],rv (.pointer (some ⟨ha,0,none⟩)),0⟩,⟨[1],rv (.pointer (some ⟨ha,1,none⟩)),0⟩,⟨[2],rv hd,1⟩,⟨[3],rv (Tm hd),1⟩,⟨[],rv (.pointer (some ⟨ha,0,none⟩)),0⟩,⟨[5],rv (.pointer (some ⟨ha,0,none⟩)),0⟩,⟨[6],rv (.pointer (some ⟨ha,1,none⟩)),0⟩,⟨[7],rv hd,1⟩,⟨[8],rI .i64 ((CO l).length:Int),1⟩,⟨[4,9],rS l,2⟩,⟨[10],rS l,0⟩] (rle [(11,_),(2,[.blk ha [rv (.pointer none),rv hd] 66])]) [2] ?_ ?_
 ·refine oq (Ah Aa) (oq (A2 Aa) (oq (Ad HM Aa HN Aa Aa) (of (Aq (i:=0) Mr Aa Aa Aa) (of (JB (i:=1) Aa Aa (JZ g1)) (oq (Ah Aa) (oq (A2 Aa) (oq (Ad HM Aa HN Aa Aa) (of (Aq (i:=0) Mr Aa Aa Aa) (of (CL (ys:=CO l) (enc:=AU) (i:=1) EQ Aa Aa) (IH Aa (Tt (H3 (i:=1) Tryz.underlying94 (by kernel_rfl) Aa Aa Aa (JZ g1) Aa)) ?_))))))))));refine oq (Ae Aa) ?_;exact BS
 refine AP (Ay ?_);obtain rfl:=A0 h2;exact Ax (BG Tryz.results43 (AM Aa)) (sS sN) ⟨Aa,Aa⟩
theorem Nf (ha:Nat)(hd:Value)(l:(List Int))(r:(List Int))(h:Jt l=some r):Fn Tryz.prog GE 88 [rv (.pointer (some ⟨ha,0,none⟩))] [.blk ha [rv (.pointer (some ⟨ha,0,none⟩)),rv hd] 66,.row hd 5 1 (List.map AU l)] (λR H=>∃w0:Value,R=rv (.tuple #[])∧H=[.blk ha [rv (.pointer (some ⟨ha,0,none⟩)),rv w0] 66,.row w0 5 1 (List.map AU r)]):=by
 refine enter (n:=20) Tryz.func88 Aa Tryz.ntmps88 Aa (λw Z=>?_);refine AR (l':=[(0,rv (.pointer (some ⟨ha,0,none⟩)))]) (H':=[.blk ha [rv (.pointer (some ⟨ha,0,none⟩)),rv hd] 66,.row hd 5 1 (List.map AU l)]) Aa Aa ?_;unfold Jt at h;refine Al (wm Aa (wv (A2 Aa) (wv (Ad HM Aa PI Aa Aa) (wv (Aq (i:=0) Gn Aa Aa Aa) (wv (r:=rB false) (SG ⟨_,PG⟩ Aa) (As (Db Aa Aa (Al (wm Aa (wv (A2 Aa) (wv (Ad HM Aa PI Aa Aa) (wv (Aq (i:=0) Gn Aa Aa Aa) (wm Aa (wv (r:=rB false) (NA PG Oq Aa Aa) (As (Db Aa Aa (Aw ?_)))))))))))))))));obtain rfl:=A0 h;exact EB (OR Tryz.results88) (sC (sC sN)) ⟨hd,Aa,Aa⟩
theorem Lp (ha:Nat)(hd:Value)(l:(List Int))(c:Int)(r:Unit×(List Int))(h:Hz l c=some r):Fn Tryz.prog GE 62 [rv (.pointer (some ⟨ha,0,none⟩)),rI .u8 c] [.blk ha [rv (.pointer (some ⟨ha,0,none⟩)),rv hd] 66,.row hd 5 1 (List.map AU l)] (λR H=>∃w0:Value,R=rv (.nilIface)∧H=[.blk ha [rv (.pointer (some ⟨ha,0,none⟩)),rv w0] 66,.row w0 5 1 (List.map AU r.2)]):=by
 refine enter (n:=17) Tryz.func62 Aa Tryz.ntmps62 Aa (λw Z=>?_);refine AR (l':=[(0,rv (.pointer (some ⟨ha,0,none⟩))),(1,rI .u8 c)]) (H':=[.blk ha [rv (.pointer (some ⟨ha,0,none⟩)),rv hd] 66,.row hd 5 1 (List.map AU l)]) Aa Aa ?_;unfold Hz at h;refine Al (wv (r:=rv (.nilIface)) (Ae Aa) (Bv (wm Aa ?_)));obtain⟨r1,e3,h2⟩:=AH h;refine Hk (Hr:=[]) Tryz.call88 (Nf ha hd l r1 e3) Aa (Ur _) Aa ?_;rintro _ _ ⟨v4,rfl,rfl⟩;refine Bv (wm Aa (wm Aa (wv (A2 Aa) (wv (Ad HM Aa HN Aa Aa) (wv (Aq (i:=0) Mr Aa Aa Aa) (wm Aa (Bp (ys:=([c]:List Int)) (enc:=AU) (css:=[[rI .u8 c]]) (xs:=[.tmp 12]) EQ PC S3 Aa Aa Aa ⟨Gk.one Aa (Up.refl _),trivial⟩ Aa CD Aa Aa Aa (λb5=>?_))))))));obtain⟨g7,h8⟩:=Az h2;obtain⟨inf,hinf⟩:=IM;refine Ck (xs:=r1) (ys:=([c]:List Int)) (enc:=AU) (i:=2) EQ hinf.1 hinf.2.1 hinf.2.2.1 hinf.2.2.2 Aa Aa Aa Aa Aa (Jw.w (i:=0) Aa Aa) CD G5 g7 Aa (λv6=>?_);refine wv (A2 Aa) (wv (Ad HM Aa HN Aa Aa) (B0 (i:=2) HN Aa Aa (D0 (i:=0) Aa) Aa Aa (cs':=[rv (.pointer (some ⟨ha,0,none⟩)),rv v6]) Aa (H':=[.row v6 5 1 (List.map AU (r1++([c]:List Int))),.row (.slice (some ⟨b5,0,none⟩) 1 1) 5 1 (List.map AU ([c]:List Int)),.blk ha [rv (.pointer (some ⟨ha,0,none⟩)),rv v6] 66]) Aa (Bv (wv (r:=rv (.nilIface)) (Ae Aa) (As (Ay (CH (H2:=[.blk ha [rv (.pointer (some ⟨ha,0,none⟩)),rv v6] 66,.row v6 5 1 (List.map AU (r1++([c]:List Int))),.row (.slice (some ⟨b5,0,none⟩) 1 1) 5 1 (List.map AU ([c]:List Int))]) ((AC (i:=2) Aa).trans (Uv _ (Ur _))) ?_)))))));obtain rfl:=A0 h8;exact Ax (BG Tryz.results62 (AM Aa)) (sC (sC (sS sN))) ⟨v6,Aa,Aa⟩
theorem JR (ha:Nat)(hd:Value)(l:(List Int))(s:Ak)(r:Int×Unit×(List Int))(h:Gh l s=some r):Fn Tryz.prog GE 60 [rv (.pointer (some ⟨ha,0,none⟩)),rS s] [.blk ha [rv (.pointer (some ⟨ha,0,none⟩)),rv hd] 66,.row hd 5 1 (List.map AU l)] (λR H=>∃w0:Value,R=CV [rI .i64 r.1,rv (.nilIface)]∧H=[.blk ha [rv (.pointer (some ⟨ha,0,none⟩)),rv w0] 66,.row w0 5 1 (List.map AU r.2.2)]):=by
 refine enter (n:=19) Tryz.func60 Aa Tryz.ntmps60 Aa (λw Z=>?_);refine AR (l':=[(0,rv (.pointer (some ⟨ha,0,none⟩))),(1,rS s)]) (H':=[.blk ha [rv (.pointer (some ⟨ha,0,none⟩)),rv hd] 66,.row hd 5 1 (List.map AU l)]) Aa Aa ?_;unfold Gh at h;refine Al (wv (r:=rI .i64 0) (Ae Aa) (wv (r:=rv (.nilIface)) (Ae Aa) (Bv (wm Aa ?_))));obtain⟨r1,e3,h2⟩:=AH h;refine Hk (Hr:=[]) Tryz.call88 (Nf ha hd l r1 e3) Aa (Ur _) Aa ?_;rintro _ _ ⟨v4,rfl,rfl⟩;refine Bv (wm Aa (wm Aa (wv (A2 Aa) (wv (Ad HM Aa HN Aa Aa) (wv (Aq (i:=0) Mr Aa Aa Aa) (wm Aa ?_))))));obtain⟨g6,h7⟩:=Az h2;obtain⟨inf,hinf⟩:=IM;refine Ey (xs:=r1) (i:=1) EQ Ce hinf.1 hinf.2.1 hinf.2.2.1 hinf.2.2.2 Aa Aa Aa g6 Aa (λv5=>?_);refine wv (A2 Aa) (wv (Ad HM Aa HN Aa Aa) (B0 (i:=1) HN Aa Aa (D0 (i:=0) Aa) Aa Aa (cs':=[rv (.pointer (some ⟨ha,0,none⟩)),rv v5]) Aa (H':=[.row v5 5 1 (List.map AU (r1++CO s)),.blk ha [rv (.pointer (some ⟨ha,0,none⟩)),rv v5] 66]) Aa (Bv (wm Aa (wv (AZ Ce Aa) (wa Aa (wv (r:=rv (.nilIface)) (Ae Aa) (As (Ay (CH (H2:=[.blk ha [rv (.pointer (some ⟨ha,0,none⟩)),rv v5] 66,.row v5 5 1 (List.map AU (r1++CO s))]) ((AC (i:=1) Aa).trans (Uv _ (Ur _))) ?_))))))))));obtain rfl:=A0 h7;exact Ax (El Tryz.results60 (AM Aa) (AM Aa)) (sC (sC sN)) ⟨v5,Aa,Aa⟩
theorem NO (ha:Nat)(hd:Value)(l:Ak)(r:Ak)(h:KX l=some r):Fn Tryz.prog GE 43 [rv (.pointer (some ⟨ha,0,none⟩))] [.blk ha [rv (.pointer (some ⟨ha,0,none⟩)),rv hd] 66,.row hd 5 1 (List.map AU (CO l))] (λR H=>R=rS r∧H=[]):=by
 refine enter (n:=14) Tryz.func43 Aa Tryz.ntmps43 Aa (λw Z=>?_);refine AR (l':=[(0,rv (.pointer (some ⟨ha,0,none⟩)))]) (H':=[.blk ha [rv (.pointer (some ⟨ha,0,none⟩)),rv hd] 66,.row hd 5 1 (List.map AU (CO l))]) Aa Aa ?_;unfold KX at h;refine Al (wv (r:=rS ([]:Ak)) (Ae Aa) (As (Am ?_)));obtain⟨g1,h2⟩:=Az h;refine Gd (H1:=[.blk ha [rv (.pointer (some ⟨ha,0,none⟩)),rv hd] 66]) [0] [⟨[],rv (.pointer (some ⟨ha,0,none⟩)),0⟩,⟨[0],rv (.pointer (some ⟨ha,0,none⟩)),0⟩,⟨[1],rv (.pointer (some ⟨ha,1,none⟩)),0⟩,⟨[2],rv hd,1⟩,⟨[3],rv (Tm hd),1⟩,⟨[],rv (.pointer (some ⟨ha,0,none⟩)),0⟩,⟨[5],rv (.pointer (some ⟨ha,0,none⟩)),0⟩,⟨[6],rv (.pointer (some ⟨ha,1,none⟩)),0⟩,⟨[7],rv hd,1⟩,⟨[8],rI .i64 ((CO l).length:Int),1⟩,⟨[4,9],rS l,2⟩,⟨[10],rS l,0⟩] (rle [(11,_),(2,[.blk ha [rv (.pointer (some ⟨ha,0,none⟩)),rv hd] 66])]) [2] ?_ ?_
 ·refine oq (Ah Aa) (oq (A2 Aa) (oq (Ad HM Aa HN Aa Aa) (of (Aq (i:=0) Mr Aa Aa Aa) (of (JB (i:=1) Aa Aa (JZ g1)) (oq (Ah Aa) (oq (A2 Aa) (oq (Ad HM Aa HN Aa Aa) (of (Aq (i:=0) Mr Aa Aa Aa) (of (CL (ys:=CO l) (enc:=AU) (i:=1) EQ Aa Aa) (IH Aa (Tt (H3 (i:=1) Tryz.underlying94 (by kernel_rfl) Aa Aa Aa (JZ g1) Aa)) ?_))))))))));refine oq (Ae Aa) ?_;exact BS
 refine AP (Ay ?_);obtain rfl:=A0 h2;exact Ax (BG Tryz.results43 (AM Aa)) (sS sN) ⟨Aa,Aa⟩
theorem BZ (b:Nat)(v:Value)(l:Ak)(c:Int)(g1:D1 1 (l.length+1)=true)(g2:B6 .u8 c=true):Fn Tryz.prog GE 62 [rv (.pointer (some ⟨b,0,none⟩)),rI .u8 c] [.bld 66 5 b v l] (λR H=>∃w0:Value,R=rv .nilIface∧H=[.bld 66 5 b w0 (l++[UInt8.ofNat c.toNat])]):=by
  have hc:CO (l++[UInt8.ofNat c.toNat])=CO l++[c]:=by
    have:=(by simpa[B6,IntKind.min,IntKind.max,IntKind.signed,IntKind.bits] using g2:0≤c∧c≤255)
    simp only[CO,List.map_append,Vh,List.map_nil]
    congr 2
    simp;omega
  refine Fn.bld (res:=rv .nilIface) λp hp=>?_;rw[hc];rcases hp with rfl | rfl
  · refine(Lq b v (CO l) c (((),CO l++[c])) ?_).sub (EO.refl _) (λr H h=>by obtain⟨w0,h1,h2⟩:=h;exact⟨w0,h1,h2⟩)
    simp only[H0,Ju,B3,De];simp[AW,g1]
  · refine(Lp b v (CO l) c (((),CO l++[c])) ?_).sub (EO.refl _) (λr H h=>by obtain⟨w0,h1,h2⟩:=h;exact⟨w0,h1,h2⟩)
    simp only[Hz,Jt,B3,De];simp[AW,g1]
theorem Gc (b:Nat)(v:Value)(l s:Ak)(g1:D1 1 (l.length+s.length)=true):Fn Tryz.prog GE 60 [rv (.pointer (some ⟨b,0,none⟩)),rS s] [.bld 66 5 b v l] (λR H=>∃w0:Value,R=CV [rI .i64 (s.length:Int),rv .nilIface]∧H=[.bld 66 5 b w0 (l++s)]):=by
  have hc:CO (l++s)=CO l++CO s:=by simp[CO]
  refine Fn.bld (res:=CV [rI .i64 (s.length:Int),rv .nilIface]) λp hp=>?_;rw[hc];rcases hp with rfl | rfl
  · refine(JS b v (CO l) s (((s.length:Int),(),CO l++CO s)) ?_).sub (EO.refl _) (λr H h=>by obtain⟨w0,h1,h2⟩:=h;exact⟨w0,h1,h2⟩)
    simp only[Gi,Ju,B3,De];simp[AW,g1]
  · refine(JR b v (CO l) s (((s.length:Int),(),CO l++CO s)) ?_).sub (EO.refl _) (λr H h=>by obtain⟨w0,h1,h2⟩:=h;exact⟨w0,h1,h2⟩)
    simp only[Gh,Jt,B3,De];simp[AW,g1]
theorem P7 (b:Nat)(v:Value)(l:Ak)(g1:decide (0<l.length)=true):Fn Tryz.prog GE 43 [rv (.pointer (some ⟨b,0,none⟩))] [.bld 66 5 b v l] (λR H=>R=rS l∧H=[]):=by
  refine Fn.bldS (res:=rS l) λp hp=>?_;rcases hp with rfl | rfl
  · exact NP b v l l (by simp only[KY,De];simp[AW,g1])
  · exact NO b v l l (by simp only[KX,De];simp[AW,g1])
end Go.Proofs.YtailcjmjkmjelaaGreatDoor.Q
namespace Go.Proofs.YtailcjmjkmjelaaGreatDoor
open Go
set_option linter.unusedVariables false
structure Ac where
 fKind:Int
 fInt:Int
 fStr:Ak
 fN:Int
 deriving DecidableEq,Inhabited
def HC (s:Ak)(ha:Int):Option (Stp (Int) (Out (Bool) (Unit))):=
 B1 (decide (ha<(s.length:Int))) (AW (Da ha (s.length:Int))<|B1 (((decide ((AY s ha)<32))||(decide (126<(AY s ha))))) (some (.out (.ret false))) (AW (B6 .i64 (ha+1))<|some (.next (ha+1)))) (some (.out (.go ())))
def HB :Option (Bool):=
 some true
def Hv (F:Nat)(s:Ak):Option (Bool):=
 B3 (Cn (λσ=>HC s σ) F 0) (BY λν=>HB )
def By (ok:Bool)(i:Int):Option (Int):=
 B1 (ok) (AW (B6 .i64 (i+1))<|some (i+1)) (some (-1))
def JM (F:Nat)(c:Ac):Option (Bool):=
 AW (imp (decide (c.fKind=4)) (imp (decide (c.fInt=0)) (imp (decide (c.fN=0)) ((Hv F c.fStr).isSome))))<|some ((decide (c.fKind=4))&&((decide (c.fInt=0))&&((decide (c.fN=0))&&(ov (Hv F c.fStr)))))
def LO (F:Nat)(ha:(List Ac)→Int→Int→Option (Int))(hd:(List Ac)→Int→Int→Option (Int))(v:(List Ac))(i:Int):Option (Int):=
 B1 (((decide (i<0))||(decide ((v.length:Int)≤i)))) (some (-1)) (AW (Da i (v.length:Int))<|B1 (decide (((At v i).fKind)=1)) (AW (imp (decide (((At v i).fInt)=0)) (imp (decide (((At v i).fStr)=([]:Ak))) ((By (decide (((At v i).fN)=0)) i).isSome)))<|AW (imp (decide (((At v i).fInt)=0)) (imp (!(decide (((At v i).fStr)=([]:Ak)))) ((By false i).isSome)))<|AW (imp (!(decide (((At v i).fInt)=0))) ((By false i).isSome))<|some (bif decide (((At v i).fInt)=0) then(bif decide (((At v i).fStr)=([]:Ak)) then(ov (By (decide (((At v i).fN)=0)) i)) else(ov (By false i))) else(ov (By false i)))) (B1 (decide (((At v i).fKind)=2)) (AW (imp (decide (((At v i).fInt)=0)) (imp (decide (((At v i).fStr)=([]:Ak))) ((By (decide (((At v i).fN)=0)) i).isSome)))<|AW (imp (decide (((At v i).fInt)=0)) (imp (!(decide (((At v i).fStr)=([]:Ak)))) ((By false i).isSome)))<|AW (imp (!(decide (((At v i).fInt)=0))) (imp (decide (((At v i).fInt)=1)) (imp (decide (((At v i).fStr)=([]:Ak))) ((By (decide (((At v i).fN)=0)) i).isSome))))<|AW (imp (!(decide (((At v i).fInt)=0))) (imp (decide (((At v i).fInt)=1)) (imp (!(decide (((At v i).fStr)=([]:Ak)))) ((By false i).isSome))))<|AW (imp (!(decide (((At v i).fInt)=0))) (imp (!(decide (((At v i).fInt)=1))) ((By false i).isSome)))<|some (bif decide (((At v i).fInt)=0) then(bif decide (((At v i).fStr)=([]:Ak)) then(ov (By (decide (((At v i).fN)=0)) i)) else(ov (By false i))) else(bif decide (((At v i).fInt)=1) then(bif decide (((At v i).fStr)=([]:Ak)) then(ov (By (decide (((At v i).fN)=0)) i)) else(ov (By false i))) else(ov (By false i))))) (B1 (decide (((At v i).fKind)=3)) (AW (imp (decide (((At v i).fStr)=([]:Ak))) ((By (decide (((At v i).fN)=0)) i).isSome))<|AW (imp (!(decide (((At v i).fStr)=([]:Ak)))) ((By false i).isSome))<|some (bif decide (((At v i).fStr)=([]:Ak)) then(ov (By (decide (((At v i).fN)=0)) i)) else(ov (By false i)))) (B1 (decide (((At v i).fKind)=4)) (B3 (JM F (At v i)) λhe=>B3 (By he i) λhf=>some hf) (B1 (((decide (((At v i).fKind)=5))&&((decide (((At v i).fInt)=0))&&((decide (((At v i).fStr)=([]:Ak)))&&(decide (0≤((At v i).fN))))))) (AW (B6 .i64 (i+1))<|B3 (ha v (i+1) ((At v i).fN)) λhg=>some hg) (B1 (((decide (((At v i).fKind)=6))&&((decide (((At v i).fInt)=0))&&((decide (((At v i).fStr)=([]:Ak)))&&(decide (0≤((At v i).fN))))))) (AW (B6 .i64 (i+1))<|B3 (hd v (i+1) ((At v i).fN)) λhh=>some hh) (some (-1))))))))
def Cy (v:(List Ac))(n:Int)(hf:(List Ac)→Int→Option (Int))(hd:Int)(ha:Int):Option (Stp (Int×Int) (Out (Int) (Int))):=
 B1 (decide (ha<n)) (B3 (hf v hd) λhe=>B1 (decide (he<0)) (some (.out (.ret (-1)))) (AW (B6 .i64 (ha+1))<|some (.next (he,ha+1)))) (some (.out (.go hd)))
def Dx (ha:Int):Option (Int):=
 some ha
def GL (F:Nat)(ha:(List Ac)→Int→Option (Int))(v:(List Ac))(i:Int)(n:Int):Option (Int):=
 B3 (Cn (λσ=>Cy v n ha σ.1 σ.2) F (i,0)) (BY λν=>Dx ν)
def CK (F:Nat)(v:(List Ac))(n:Int)(hg:(List Ac)→Int→Option (Int))(ha:Int)(he:Ak)(hd:Int):Option (Stp (Int×Ak×Int) (Out (Int) (Int))):=
 B1 (decide (hd<n)) (AW (imp (!(decide ((v.length:Int)≤ha))) (Da ha (v.length:Int)))<|AW (imp (!(decide ((v.length:Int)≤ha))) ((JM F (At v ha)).isSome))<|B1 (((decide ((v.length:Int)≤ha))||((!(ov (JM F (At v ha))))||((decide (0<hd))&&(C2 ((At v ha).fStr) he||decide (((At v ha).fStr)=he)))))) (some (.out (.ret (-1)))) (AW (Da ha (v.length:Int))<|AW (B6 .i64 (ha+1))<|B3 (hg v (ha+1)) λhf=>B1 (decide (hf<0)) (some (.out (.ret (-1)))) (AW (B6 .i64 (hd+1))<|some (.next (hf,(At v ha).fStr,hd+1))))) (some (.out (.go ha)))
def E6 (ha:Int):Option (Int):=
 some ha
def JW (F:Nat)(ha:(List Ac)→Int→Option (Int))(v:(List Ac))(i:Int)(n:Int):Option (Int):=
 B3 (Cn (λσ=>CK F v n ha σ.1 σ.2.1 σ.2.2) F (i,([]:Ak),0)) (BY λν=>E6 ν)
mutual
def CQ:Nat→(List Ac)→Int→Option (Int)
 | 0,_,_=>none
 | nn+1,v,i=>LO nn (E7 nn) (Jf nn) v i
def E7:Nat→(List Ac)→Int→Int→Option (Int)
 | 0,_,_,_=>none
 | nn+1,v,i,n=>GL nn (CQ nn) v i n
def Jf:Nat→(List Ac)→Int→Int→Option (Int)
 | 0,_,_,_=>none
 | nn+1,v,i,n=>JW nn (CQ nn) v i n
end
def I9 (F:Nat)(v:(List Ac)):Option (Bool):=
 AW (imp (decide (0<(v.length:Int))) ((CQ F v 0).isSome))<|some ((decide (0<(v.length:Int)))&&(decide ((ov (CQ F v 0))=(v.length:Int))))
def Cq (F:Nat)(v:(List Ac))(i:Int)(hf:(List Ac)→Int→Option (Int))(he:Int)(hd:Int)(ha:Int):Option (Stp (Int×Int×Int) (Out (Int) (Int))):=
 B1 (decide (ha<((At v i).fN))) (B1 (decide (((At v i).fKind)=6)) (AW (B6 .i64 (hd+1))<|B3 (hf v (hd+1)) λhg=>B1 (decide (he<hg)) (B3 (CQ F v (hd+1)) λhi=>AW (B6 .i64 (ha+1))<|some (.next (hg,hi,ha+1))) (B3 (CQ F v (hd+1)) λhj=>AW (B6 .i64 (ha+1))<|some (.next (he,hj,ha+1)))) (B3 (hf v hd) λhh=>B1 (decide (he<hh)) (B3 (CQ F v hd) λhk=>AW (B6 .i64 (ha+1))<|some (.next (hh,hk,ha+1))) (B3 (CQ F v hd) λhl=>AW (B6 .i64 (ha+1))<|some (.next (he,hl,ha+1))))) (some (.out (.go he)))
def Dp (ha:Int):Option (Int):=
 AW (B6 .i64 (ha+1))<|some (ha+1)
def Gv (F:Nat)(ha:(List Ac)→Int→Option (Int))(v:(List Ac))(i:Int):Option (Int):=
 AW (Da i (v.length:Int))<|B1 (((!decide (((At v i).fKind)=5))&&(!decide (((At v i).fKind)=6)))) (some 1) (AW (B6 .i64 (i+1))<|B3 (Cn (λσ=>Cq F v i ha σ.1 σ.2.1 σ.2.2) F (0,i+1,0)) (BY λν=>Dp ν))
def Cw:Nat→(List Ac)→Int→Option (Int)
 | 0,_,_=>none
 | nn+1,v,i=>Gv nn (Cw nn) v i
def C3 (s:Ak)(hd:Ak)(ha:Int):Option (Stp (Ak×Int) (Out (Ak) (Ak))):=
 B1 (decide (ha<(s.length:Int))) (AW (Da ha (s.length:Int))<|B1 (((decide ((AY s ha)=34))||(decide ((AY s ha)=92)))) (AW (B6 .i64 ((hd.length:Int)+(([92]:Ak).length:Int)))<|AW (B6 .i64 (ha+1))<|AW (Hf ha (ha+1))<|AW (Hf (ha+1) (s.length:Int))<|AW (B6 .i64 (((hd++([92]:Ak)).length:Int)+((List.take (Int.toNat (ha+1)-Int.toNat ha) (List.drop (Int.toNat ha) s)).length:Int)))<|some (.next ((hd++([92]:Ak))++(List.take (Int.toNat (ha+1)-Int.toNat ha) (List.drop (Int.toNat ha) s)),ha+1))) (AW (B6 .i64 (ha+1))<|AW (Hf ha (ha+1))<|AW (Hf (ha+1) (s.length:Int))<|AW (B6 .i64 ((hd.length:Int)+((List.take (Int.toNat (ha+1)-Int.toNat ha) (List.drop (Int.toNat ha) s)).length:Int)))<|some (.next (hd++(List.take (Int.toNat (ha+1)-Int.toNat ha) (List.drop (Int.toNat ha) s)),ha+1)))) (some (.out (.go hd)))
def CW (ha:Ak):Option (Ak):=
 AW (B6 .i64 ((ha.length:Int)+(([34]:Ak).length:Int)))<|some (ha++([34]:Ak))
def GK (F:Nat)(s:Ak):Option (Ak):=
 B3 (Cn (λσ=>C3 s σ.1 σ.2) F (([34]:Ak),0)) (BY λν=>CW ν)
def Do (F:Nat)(v:(List Ac))(i:Int)(hf:(List Ac)→Int→Option (Ak))(ha:Ak)(hd:Int)(he:Int):Option (Stp (Ak×Int×Int) (Out (Ak) (Ak))):=
 B1 (decide (he<((At v i).fN))) (B1 (decide (0<he)) (AW (B6 .i64 ((ha.length:Int)+(([44]:Ak).length:Int)))<|B1 (decide (((At v i).fKind)=6)) (AW (Da hd (v.length:Int))<|B3 (GK F ((At v hd).fStr)) λhg=>AW (B6 .i64 (((ha++([44]:Ak)).length:Int)+(hg.length:Int)))<|AW (B6 .i64 ((((ha++([44]:Ak))++hg).length:Int)+(([58]:Ak).length:Int)))<|AW (B6 .i64 (hd+1))<|B3 (hf v (hd+1)) λhi=>AW (B6 .i64 (((((ha++([44]:Ak))++hg)++([58]:Ak)).length:Int)+(hi.length:Int)))<|B3 (CQ F v (hd+1)) λhm=>AW (B6 .i64 (he+1))<|some (.next ((((ha++([44]:Ak))++hg)++([58]:Ak))++hi,hm,he+1))) (B3 (hf v hd) λhj=>AW (B6 .i64 (((ha++([44]:Ak)).length:Int)+(hj.length:Int)))<|B3 (CQ F v hd) λhn=>AW (B6 .i64 (he+1))<|some (.next ((ha++([44]:Ak))++hj,hn,he+1)))) (B1 (decide (((At v i).fKind)=6)) (AW (Da hd (v.length:Int))<|B3 (GK F ((At v hd).fStr)) λhh=>AW (B6 .i64 ((ha.length:Int)+(hh.length:Int)))<|AW (B6 .i64 (((ha++hh).length:Int)+(([58]:Ak).length:Int)))<|AW (B6 .i64 (hd+1))<|B3 (hf v (hd+1)) λhk=>AW (B6 .i64 ((((ha++hh)++([58]:Ak)).length:Int)+(hk.length:Int)))<|B3 (CQ F v (hd+1)) λho=>AW (B6 .i64 (he+1))<|some (.next (((ha++hh)++([58]:Ak))++hk,ho,he+1))) (B3 (hf v hd) λhl=>AW (B6 .i64 ((ha.length:Int)+(hl.length:Int)))<|B3 (CQ F v hd) λhp=>AW (B6 .i64 (he+1))<|some (.next (ha++hl,hp,he+1))))) (some (.out (.go ha)))
def EH (v:(List Ac))(i:Int)(ha:Ak):Option (Ak):=
 B1 (decide (((At v i).fKind)=6)) (AW (B6 .i64 ((([123]:Ak).length:Int)+(ha.length:Int)))<|AW (B6 .i64 (((([123]:Ak)++ha).length:Int)+(([125]:Ak).length:Int)))<|some ((([123]:Ak)++ha)++([125]:Ak))) (AW (B6 .i64 ((([91]:Ak).length:Int)+(ha.length:Int)))<|AW (B6 .i64 (((([91]:Ak)++ha).length:Int)+(([93]:Ak).length:Int)))<|some ((([91]:Ak)++ha)++([93]:Ak)))
def Jd (F:Nat)(ha:(List Ac)→Int→Option (Ak))(v:(List Ac))(i:Int):Option (Ak):=
 AW (Da i (v.length:Int))<|B1 (decide (((At v i).fKind)=1)) (some ([110,117,108,108]:Ak)) (B1 (decide (((At v i).fKind)=2)) (B1 (decide (((At v i).fInt)=1)) (some ([116,114,117,101]:Ak)) (some ([102,97,108,115,101]:Ak))) (B1 (decide (((At v i).fKind)=3)) (AW (B6 .i64 ((At v i).fInt))<|some (Lib.itoa ((At v i).fInt))) (B1 (decide (((At v i).fKind)=4)) (B3 (GK F ((At v i).fStr)) λhd=>some hd) (AW (B6 .i64 (i+1))<|B3 (Cn (λσ=>Do F v i ha σ.1 σ.2.1 σ.2.2) F (([]:Ak),i+1,0)) (BY λν=>EH v i ν)))))
def En:Nat→(List Ac)→Int→Option (Ak)
 | 0,_,_=>none
 | nn+1,v,i=>Jd nn (En nn) v i
def Dy (v:(List Ac))(ha:Int):Option (Stp (Int) (Out (Int) (Unit))):=
 B1 (decide (ha<(v.length:Int))) (AW (Da ha (v.length:Int))<|B1 (decide (200<(((At v ha).fStr).length:Int))) (some (.out (.ret 3))) (AW (B6 .i64 (ha+1))<|some (.next (ha+1)))) (some (.out (.go ())))
def Gx (F:Nat)(v:(List Ac)):Option (Int):=
 B3 (En F v 0) λha=>B1 (decide (4000<(ha.length:Int))) (some 3) (some 0)
def Dz (v:(List Ac))(ha:Int):Option (Stp (Int) (Out (Int) (Unit))):=
 B1 (decide (ha<(v.length:Int))) (AW (Da ha (v.length:Int))<|B1 (((decide (((At v ha).fKind)=3))&&((decide (((At v ha).fInt)<(-1000000000000)))||(decide (1000000000000<((At v ha).fInt)))))) (some (.out (.ret 2))) (AW (B6 .i64 (ha+1))<|some (.next (ha+1)))) (some (.out (.go ())))
def Gy (F:Nat)(v:(List Ac)):Option (Int):=
 AW (imp (!(decide (200<(v.length:Int)))) ((Cw F v 0).isSome))<|B1 (((decide (200<(v.length:Int)))||(decide (8<(ov (Cw F v 0)))))) (some 3) (B3 (Cn (λσ=>Dy v σ) F 0) (BY λν=>Gx F v ))
def Jg (F:Nat)(v:(List Ac)):Option (Int):=
 B3 (I9 F v) λr1=>B1 (!r1) (some 1) (B3 (Cn (λσ=>Dz v σ) F 0) (BY λν=>Gy F v ))
def IA (F:Nat)(v:(List Ac)):Option (Ak×Int):=
 B3 (Jg F v) λr1=>B1 (!decide (r1=0)) (some (([]:Ak),r1)) (B3 (En F v 0) λr7=>some (r7,0))
end Go.Proofs.YtailcjmjkmjelaaGreatDoor
namespace Go.Proofs.YtailcjmjkmjelaaGreatDoor.Q
open Go Go.RowKit
set_option linter.unusedVariables false
set_option linter.unusedSimpArgs false
set_option maxRecDepth 100000
set_option maxHeartbeats 4000000
@[reducible] def Ab (x:Ac):List Rp:=[rI .i64 x.fKind,rI .i64 x.fInt,rS x.fStr,rI .i64 x.fN]
theorem Bj (x:Ac):(Ab x).length=4:=rfl
theorem Cj (x:Ac):(Ab x).all (·.one)=true:=rfl
theorem Qh (F:Nat)(s:Ak)(r:Bool)(h:Hv F s=some r):Fn Tryz.prog GE 111 [rS s] [] (λR H=>R=rB r∧H=[]):=by
 refine enter (n:=20) Tryz.func111 Aa Tryz.ntmps111 Aa (λw Z=>?_);refine AR (l':=[(0,rS s)]) (H':=[]) Aa Aa ?_;unfold Hv at h;refine Al (wv (r:=rB false) (Ae Aa) (As (Am (Al (wv (r:=rI .i64 0) (Ae Aa) (As (AJ ?_)))))));obtain⟨hm,hn,hj⟩:=AH h;refine B2 (S:=Nat×(Int)×(Unit)) (V:=(Unit)×(Unit)) 0 (λσ=>Cn (λσ=>HC s σ) σ.1 σ.2.1=some hm) (λσ=>[(0,rS s),(3,rI .i64 σ.2.1)]) (λσ=>[]) (λσ=>σ.1) (F,0,()) hn (AK.c Aa (AK.c Aa AK.nil)) sN (λσ=>HB =some r) (λσ=>[]) (λσ=>[]) ?_ ?_
 ·rintro⟨h0,hd,⟨⟩⟩ ho;refine AR (l':=[(0,rS s),(3,rI .i64 hd)]) (H':=[]) Aa Aa ?_;obtain⟨hp,rfl,t37,he,hg⟩:=CM ho;replace he:HC s hd=some t37:=he;unfold HC at he;refine Am (Al (wm Aa (wm Aa (wv (AZ Ce Aa) (wv (C8 Aa Aa) (As (Au (b:=decide (hd<(s.length:Int))) Aa (λhh=>?_) (λhh=>?_))))))))
  ·have hq:=AE hh he;refine Aw (AP (Am (AJ ?_)));obtain⟨hk,hl⟩:=Az hq;refine AB [(0,rS s),(3,rI .i64 hd),(19,rB ((decide ((AY s hd)<32))||(decide (126<(AY s hd)))))] [] ?_ ?_
   ·refine Ai (wm Aa (wm Aa (wv (Bb Ce Aa Aa hk) (wv (C8 Aa Aa) (wm Aa (A7 (decide ((AY s hd)<32)) (λha=>?_) (λha=>?_)))))))
    ·refine wf ha (wf ha (wf ha (wf ha (wv (r:=rB true) (Ao (b:=decide ((AY s hd)<32)) Aa ha Aa) (Aj ?_)))));exact BO ha
    ·refine wo ha (wm Aa (wo ha (wm Aa (wo ha (wv (Bb Ce Aa Aa hk) (wo ha (wv (C1 Aa Aa) (ET Aa ha Aa (Aj ?_)))))))));exact BO ha
   refine Au (b:=((decide ((AY s hd)<32))||(decide (126<(AY s hd))))) Aa (λhi=>?_) (λhi=>?_)
   ·have hr:=AE hi hl;refine Al (wv (r:=rB false) (Ae Aa) (As (Ay (A5 (Af (Af (Bf ?_)))))));have hs:=B5 hr hg hj;refine A5 (Af ?_);obtain rfl:=A0 hs;exact Ax (BG Tryz.results111 (AM Aa)) sN ⟨Aa,Aa⟩
   ·have ht:=AF hi hl;refine Aw (AG (AP (Ai (wm Aa ?_))));obtain⟨hu,hw⟩:=Az ht;refine wv (Bu Aa Aa hu) (wa Aa (Aj ?_));have hx:=Bk hw hg;exact Ap (AI (hp,hd+1,()) ⟨hx,U0 _⟩ (AK.c Aa (AK.c Aa AK.nil)) sN)
  ·have hy:=AF hh he;refine B4 (A4 ?_);have hz:=Cv hy hg hj;exact A4 (Bt (AI ((),()) hz AK.nil sN))
 ·rintro⟨⟨⟩,⟨⟩⟩ hf;refine Dd (l':=[]) (H':=[]) Aa Aa ?_;replace hf:HB =some r:=hf;unfold HB at hf;refine Bi (AP (Al (wv (r:=rB true) (Ae Aa) (As (Ay ?_)))));obtain rfl:=A0 hf;exact Ax (BG Tryz.results111 (AM Aa)) sN ⟨Aa,Aa⟩
theorem Dq (ok:Bool)(i:Int)(r:Int)(h:By ok i=some r):Fn Tryz.prog GE 90 [rB ok,rI .i64 i] [] (λR H=>R=rI .i64 r∧H=[]):=by
 refine enter (n:=8) Tryz.func90 Aa Tryz.ntmps90 Aa (λw Z=>?_);refine AR (l':=[(0,rB ok),(1,rI .i64 i)]) (H':=[]) Aa Aa ?_;unfold By at h;refine Al (wv (r:=rI .i64 0) (Ae Aa) (As (Am (Al (wm Aa (As (Au (b:=ok) Aa (λc1=>?_) (λc1=>?_))))))))
 ·have h2:=AE c1 h;refine Al (wm Aa ?_);obtain⟨g3,h4⟩:=Az h2;refine wv (Bu Aa Aa g3) (wa Aa (As (Ay (Af ?_))));obtain rfl:=A0 h4;exact Ax (BG Tryz.results90 (AM Aa)) sN ⟨Aa,Aa⟩
 ·have h5:=AF c1 h;refine Aw (AP (Al (wv (r:=rI .i64 (-1)) (Ae Aa) (As (Ay ?_)))));obtain rfl:=A0 h5;exact Ax (BG Tryz.results90 (AM Aa)) sN ⟨Aa,Aa⟩
theorem Qj (F:Nat)(c:Ac)(r:Bool)(h:JM F c=some r):Fn Tryz.prog GE 91 [Bo (Ab c)] [] (λR H=>R=rB r∧H=[]):=by
 refine enter (n:=21) Tryz.func91 Aa Tryz.ntmps91 Aa (λw Z=>?_);refine AR (l':=[(0,Bo (Ab c))]) (H':=[]) Aa Aa ?_;unfold JM at h;refine Al (BP Aa Aa (λb1=>?_));refine wv (r:=rB false) (Ae Aa) (As ?_);obtain⟨g2,h3⟩:=Az h;refine AB [(2,rB ((decide (c.fKind=4))&&((decide (c.fInt=0))&&((decide (c.fN=0))&&(ov (Hv F c.fStr))))))] [] ?_ ?_
 ·refine Ai (wv (Ad Bm Aa D4 Aa Aa) (wv (Aq (i:=0) D5 Aa Aa Aa) (wv (Bh Aa Aa) (wm Aa (A7 (decide (c.fKind=4)) (λc4=>?_) (λc4=>?_))))))
  ·refine wo c4 (wv (Ad Bm Aa Cf Aa Aa) (wo c4 (wv (Aq (i:=0) CC Aa Aa Aa) (wo c4 (wv (Bh Aa Aa) (EA Aa c4 Aa (wm Aa (A7 (decide (c.fInt=0)) (λc5=>?_) (λc5=>?_)))))))))
   ·refine wo c5 (wv (Ad Bm Aa Cf Aa Aa) (wo c5 (wv (Aq (i:=0) CC Aa Aa Aa) (wo c5 (wv (Bh Aa Aa) (EA Aa c5 Aa (wm Aa (A7 (decide (c.fN=0)) (λc6=>?_) (λc6=>?_)))))))))
    ·refine wo c6 (wv (Ad Bm Aa BU Aa Aa) (wo c6 (wv (Aq (i:=0) Cg Aa Aa Aa) (wo c6 (C9 Tryz.call111 (Qh F c.fStr (ov (Hv F c.fStr)) (D9 (Ch (Ch (Ch g2 c4) c5) c6))) Aa (EA Aa c6 Aa (wa Aa (Aj ?_))))))));exact BO (And.intro c4 (And.intro c5 c6))
    ·refine wf c6 (wf c6 (wf c6 (wv (r:=rB false) (Ar (b:=decide (c.fN=0)) Aa c6 Aa) (wa Aa (Aj ?_)))));exact BO (And.intro c4 (And.intro c5 c6))
   ·refine wf c5 (wf c5 (wf c5 (wv (r:=rB false) (Ar (b:=decide (c.fInt=0)) Aa c5 Aa) (wm Aa (Ag (b:=false) Aa Aa Aa Aa (Ag (b:=false) Aa Aa Aa Aa (Ag (b:=false) Aa Aa Aa Aa (wv (r:=rB false) (Ar (b:=false) Aa Aa Aa) (wa Aa (Aj ?_))))))))));exact BO (And.intro c4 c5)
  ·refine wf c4 (wf c4 (wf c4 (wv (r:=rB false) (Ar (b:=decide (c.fKind=4)) Aa c4 Aa) (wm Aa (Ag (b:=false) Aa Aa Aa Aa (Ag (b:=false) Aa Aa Aa Aa (Ag (b:=false) Aa Aa Aa Aa (wv (r:=rB false) (Ar (b:=false) Aa Aa Aa) (wm Aa (Ag (b:=false) Aa Aa Aa Aa (Ag (b:=false) Aa Aa Aa Aa (Ag (b:=false) Aa Aa Aa Aa (wv (r:=rB false) (Ar (b:=false) Aa Aa Aa) (wa Aa (Aj ?_)))))))))))))));exact BO c4
 refine Ay ?_;obtain rfl:=A0 h3;exact Ax (BG Tryz.results91 (AM Aa)) sN ⟨Aa,Aa⟩
theorem Qi (F:Nat)(ht:(List Ac)→Int→Int→Option (Int))(hu:(List Ac)→Int→Int→Option (Int))(h8:(∀(v:(List Ac)) (i:Int) (n:Int) (r:Int),ht v i n=some r→Fn Tryz.prog GE 92 [Bl 4 (List.map Ab v),rI .i64 i,rI .i64 n] [] (λR H=>R=rI .i64 r∧H=[])))(hA:(∀(v:(List Ac)) (i:Int) (n:Int) (r:Int),hu v i n=some r→Fn Tryz.prog GE 93 [Bl 4 (List.map Ab v),rI .i64 i,rI .i64 n] [] (λR H=>R=rI .i64 r∧H=[])))(v:(List Ac))(i:Int)(r:Int)(h:LO F ht hu v i=some r):Fn Tryz.prog GE 67 [Bl 4 (List.map Ab v),rI .i64 i] [] (λR H=>R=rI .i64 r∧H=[]):=by
 refine enter (n:=127) Tryz.func67 Aa Tryz.ntmps67 Aa (λw Z=>?_);refine AR (l':=[(0,Bl 4 (List.map Ab v)),(1,rI .i64 i)]) (H':=[]) Aa Aa ?_;unfold LO at h;refine Al (wv (r:=rI .i64 0) (Ae Aa) (As (Am (AB [(0,Bl 4 (List.map Ab v)),(1,rI .i64 i),(13,rB ((decide (i<0))||(decide ((v.length:Int)≤i))))] [] ?_ ?_))))
 ·refine Ai (wm Aa (wv (C8 Aa Aa) (wm Aa (A7 (decide (i<0)) (λc1=>?_) (λc1=>?_)))))
  ·refine wf c1 (wf c1 (wf c1 (wf c1 (wv (r:=rB true) (Ao (b:=decide (i<0)) Aa c1 Aa) (Aj ?_)))));exact BO c1
  ·refine wo c1 (wm Aa (wo c1 (wm Aa (wo c1 (wv (BB (ys:=v) (enc:=Ab) BN Aa) (wo c1 (wv (ER Aa Aa) (ET Aa c1 Aa (Aj ?_)))))))));exact BO c1
 refine Au (b:=((decide (i<0))||(decide ((v.length:Int)≤i)))) Aa (λc2=>?_) (λc2=>?_)
 ·have h3:=AE c2 h;refine Al (wv (r:=rI .i64 (-1)) (Ae Aa) (As (Ay (Af ?_))));obtain rfl:=A0 h3;exact Ax (BG Mp (AM Aa)) sN ⟨Aa,Aa⟩
 ·have h4:=AF c2 h;refine Aw (AP (Al (wm Aa (wm Aa ?_))));obtain⟨g5,h6⟩:=Az h4;refine wv (BH (enc:=Ab) (ys:=v) BN Cm Aa Aa g5) (wv (DN Kn Cm Aa Aa Aa) (Ci (cs:=[rI .i64 0,rI .i64 0,rS ([]:Ak),rI .i64 0]) Ia Aa Aa (λb7=>?_)));refine Bg (i:=0) Cm Aa Aa Aa (BE.c Aa) Aa Aa (cs':=[rI .i64 ((At v i).fKind),rI .i64 ((At v i).fInt),rS ((At v i).fStr),rI .i64 ((At v i).fN)]) Aa (H':=[.blk b7 (Ab (At v i)) 50]) Aa (As (Am (Al (wv (Ad Bm Aa D4 Aa Aa) (wv (Aq (i:=0) D5 Aa Aa Aa) (wv (Bh Aa Aa) (As (Au (b:=decide (((At v i).fKind)=1)) Aa (λc8=>?_) (λc8=>?_)))))))))
  ·have h9:=AE c8 h6;obtain⟨hB,hC⟩:=Az h9;obtain⟨hD,hE⟩:=Az hC;obtain⟨hG,hH⟩:=Az hE;refine AB [(4,rI .i64 (bif decide (((At v i).fInt)=0) then(bif decide (((At v i).fStr)=([]:Ak)) then(ov (By (decide (((At v i).fN)=0)) i)) else(ov (By false i))) else(ov (By false i))))] [] ?_ ?_
   ·refine Ai (wv (Ad Bm Aa Cf Aa Aa) (wv (Aq (i:=0) CC Aa Aa Aa) (wv (Bh Aa Aa) (wm Aa (A7 (decide (((At v i).fInt)=0)) (λhd=>?_) (λhd=>?_))))))
    ·refine wo hd (wv (Ad Bm Aa BU Aa Aa) (wo hd (wv (Aq (i:=0) Cg Aa Aa Aa) (wo hd (wv (Co Aa Aa) (EA Aa hd Aa (wm Aa (A7 (decide (((At v i).fStr)=([]:Ak))) (λhf=>?_) (λhf=>?_)))))))))
     ·refine wo hf (wv (Ad Bm Aa Cf Aa Aa) (wo hf (wv (Aq (i:=0) CC Aa Aa Aa) (wo hf (wv (Bh Aa Aa) (EA Aa hf Aa (wm Aa (C9 Kk (Dq (decide (((At v i).fN)=0)) i (ov (By (decide (((At v i).fN)=0)) i)) (D9 (Ch (Ch hB hd) hf))) Aa (wa Aa (Aj ?_))))))))));exact BO (And.intro hd hf)
     ·refine wf hf (wf hf (wf hf (wv (r:=rB false) (Ar (b:=decide (((At v i).fStr)=([]:Ak))) Aa hf Aa) (wm Aa (C9 Kk (Dq false i (ov (By false i)) (D9 (CG (Ch hD hd) hf))) Aa (wa Aa (Aj ?_)))))));exact BO (And.intro hd hf)
    ·refine wf hd (wf hd (wf hd (wv (r:=rB false) (Ar (b:=decide (((At v i).fInt)=0)) Aa hd Aa) (wm Aa (Ag (b:=false) Aa Aa Aa Aa (Ag (b:=false) Aa Aa Aa Aa (Ag (b:=false) Aa Aa Aa Aa (wv (r:=rB false) (Ar (b:=false) Aa Aa Aa) (wm Aa (C9 Kk (Dq false i (ov (By false i)) (D9 (CG hG hd))) Aa (wa Aa (Aj ?_))))))))))));exact BO hd
   refine Ay (Af ?_);obtain rfl:=A0 hH;exact Ax (BG Mp (AM Aa)) sN ⟨Aa,Aa⟩
  ·have hw:=AF c8 h6;refine Aw (AP (Am (Al (wv (Ad Bm Aa D4 Aa Aa) (wv (Aq (i:=0) D5 Aa Aa Aa) (wv (Bh Aa Aa) (As (Au (b:=decide (((At v i).fKind)=2)) Aa (λho=>?_) (λho=>?_)))))))))
   ·have hI:=AE ho hw;obtain⟨hJ,hK⟩:=Az hI;obtain⟨hL,hN⟩:=Az hK;obtain⟨hO,hP⟩:=Az hN;obtain⟨hQ,hR⟩:=Az hP;obtain⟨hS,hT⟩:=Az hR;refine AB [(4,rI .i64 (bif decide (((At v i).fInt)=0) then(bif decide (((At v i).fStr)=([]:Ak)) then(ov (By (decide (((At v i).fN)=0)) i)) else(ov (By false i))) else(bif decide (((At v i).fInt)=1) then(bif decide (((At v i).fStr)=([]:Ak)) then(ov (By (decide (((At v i).fN)=0)) i)) else(ov (By false i))) else(ov (By false i)))))] [] ?_ ?_
    ·refine Ai (wv (Ad Bm Aa Cf Aa Aa) (wv (Aq (i:=0) CC Aa Aa Aa) (wv (Bh Aa Aa) (wm Aa (A7 (decide (((At v i).fInt)=0)) (λha=>?_) (λha=>?_))))))
     ·refine wf ha (wf ha (wf ha (wv (r:=rB true) (Ao (b:=decide (((At v i).fInt)=0)) Aa ha Aa) (wm Aa (AQ (b:=true) Aa Aa Aa (wv (Ad Bm Aa BU Aa Aa) (AQ (b:=true) Aa Aa Aa (wv (Aq (i:=0) Cg Aa Aa Aa) (AQ (b:=true) Aa Aa Aa (wv (Co Aa Aa) (wv (r:=rB (decide (((At v i).fStr)=([]:Ak)))) (Ao (b:=true) Aa Aa Aa) (wm Aa (A7 (decide (((At v i).fStr)=([]:Ak))) (λhg=>?_) (λhg=>?_))))))))))))))
      ·refine wo hg (wv (Ad Bm Aa Cf Aa Aa) (wo hg (wv (Aq (i:=0) CC Aa Aa Aa) (wo hg (wv (Bh Aa Aa) (EA Aa hg Aa (wm Aa (C9 Kk (Dq (decide (((At v i).fN)=0)) i (ov (By (decide (((At v i).fN)=0)) i)) (D9 (Ch (Ch hJ ha) hg))) Aa (wa Aa (Aj ?_))))))))));exact BO (And.intro ha hg)
      ·refine wf hg (wf hg (wf hg (wv (r:=rB false) (Ar (b:=decide (((At v i).fStr)=([]:Ak))) Aa hg Aa) (wm Aa (C9 Kk (Dq false i (ov (By false i)) (D9 (CG (Ch hL ha) hg))) Aa (wa Aa (Aj ?_)))))));exact BO (And.intro ha hg)
     ·refine wo ha (wv (Ad Bm Aa Cf Aa Aa) (wo ha (wv (Aq (i:=0) CC Aa Aa Aa) (wo ha (wv (Bh Aa Aa) (ET Aa ha Aa (wm Aa (A7 (decide (((At v i).fInt)=1)) (λhe=>?_) (λhe=>?_)))))))))
      ·refine wo he (wv (Ad Bm Aa BU Aa Aa) (wo he (wv (Aq (i:=0) Cg Aa Aa Aa) (wo he (wv (Co Aa Aa) (EA Aa he Aa (wm Aa (A7 (decide (((At v i).fStr)=([]:Ak))) (λhh=>?_) (λhh=>?_)))))))))
       ·refine wo hh (wv (Ad Bm Aa Cf Aa Aa) (wo hh (wv (Aq (i:=0) CC Aa Aa Aa) (wo hh (wv (Bh Aa Aa) (EA Aa hh Aa (wm Aa (C9 Kk (Dq (decide (((At v i).fN)=0)) i (ov (By (decide (((At v i).fN)=0)) i)) (D9 (Ch (Ch (CG hO ha) he) hh))) Aa (wa Aa (Aj ?_))))))))));exact BO (And.intro ha (And.intro he hh))
       ·refine wf hh (wf hh (wf hh (wv (r:=rB false) (Ar (b:=decide (((At v i).fStr)=([]:Ak))) Aa hh Aa) (wm Aa (C9 Kk (Dq false i (ov (By false i)) (D9 (CG (Ch (CG hQ ha) he) hh))) Aa (wa Aa (Aj ?_)))))));exact BO (And.intro ha (And.intro he hh))
      ·refine wf he (wf he (wf he (wv (r:=rB false) (Ar (b:=decide (((At v i).fInt)=1)) Aa he Aa) (wm Aa (Ag (b:=false) Aa Aa Aa Aa (Ag (b:=false) Aa Aa Aa Aa (Ag (b:=false) Aa Aa Aa Aa (wv (r:=rB false) (Ar (b:=false) Aa Aa Aa) (wm Aa (C9 Kk (Dq false i (ov (By false i)) (D9 (CG (CG hS ha) he))) Aa (wa Aa (Aj ?_))))))))))));exact BO (And.intro ha he)
    refine Ay (Af ?_);obtain rfl:=A0 hT;exact Ax (BG Mp (AM Aa)) sN ⟨Aa,Aa⟩
   ·have hx:=AF ho hw;refine Aw (AP (Am (Al (wv (Ad Bm Aa D4 Aa Aa) (wv (Aq (i:=0) D5 Aa Aa Aa) (wv (Bh Aa Aa) (As (Au (b:=decide (((At v i).fKind)=3)) Aa (λhp=>?_) (λhp=>?_)))))))))
    ·have hU:=AE hp hx;obtain⟨hV,hW⟩:=Az hU;obtain⟨hX,hY⟩:=Az hW;refine AB [(4,rI .i64 (bif decide (((At v i).fStr)=([]:Ak)) then(ov (By (decide (((At v i).fN)=0)) i)) else(ov (By false i))))] [] ?_ ?_
     ·refine Ai (wv (Ad Bm Aa BU Aa Aa) (wv (Aq (i:=0) Cg Aa Aa Aa) (wv (Co Aa Aa) (wm Aa (A7 (decide (((At v i).fStr)=([]:Ak))) (λhi=>?_) (λhi=>?_))))))
      ·refine wo hi (wv (Ad Bm Aa Cf Aa Aa) (wo hi (wv (Aq (i:=0) CC Aa Aa Aa) (wo hi (wv (Bh Aa Aa) (EA Aa hi Aa (wm Aa (C9 Kk (Dq (decide (((At v i).fN)=0)) i (ov (By (decide (((At v i).fN)=0)) i)) (D9 (Ch hV hi))) Aa (wa Aa (Aj ?_))))))))));exact BO hi
      ·refine wf hi (wf hi (wf hi (wv (r:=rB false) (Ar (b:=decide (((At v i).fStr)=([]:Ak))) Aa hi Aa) (wm Aa (C9 Kk (Dq false i (ov (By false i)) (D9 (CG hX hi))) Aa (wa Aa (Aj ?_)))))));exact BO hi
     refine Ay (Af ?_);obtain rfl:=A0 hY;exact Ax (BG Mp (AM Aa)) sN ⟨Aa,Aa⟩
    ·have hy:=AF hp hx;refine Aw (AP (Am (Al (wv (Ad Bm Aa D4 Aa Aa) (wv (Aq (i:=0) D5 Aa Aa Aa) (wv (Bh Aa Aa) (As (Au (b:=decide (((At v i).fKind)=4)) Aa (λhq=>?_) (λhq=>?_)))))))))
     ·have hZ:=AE hq hy;refine Al (wv (AS (i:=0) Kn Cm Aa Aa Aa Aa) ?_);obtain⟨hz,ga,gb⟩:=AH hZ;refine C9 Tryz.call91 (Qj F (At v i) hz ga) Aa (wm Aa ?_);obtain⟨gc,gd,ge⟩:=AH gb;refine C9 Kk (Dq hz i gc gd) Aa (wa Aa (As (Ay (Af ?_))));obtain rfl:=A0 ge;exact Ax (BG Mp (AM Aa)) (sS sN) ⟨Aa,Aa⟩
     ·have h0:=AF hq hy;refine Aw (AP (Am (AB [(0,Bl 4 (List.map Ab v)),(1,rI .i64 i),(5,rv (.pointer (some ⟨b7,0,none⟩))),(96,rB ((decide (((At v i).fKind)=5))&&((decide (((At v i).fInt)=0))&&((decide (((At v i).fStr)=([]:Ak)))&&(decide (0≤((At v i).fN)))))))] [.blk b7 (Ab (At v i)) 50] ?_ ?_)))
      ·refine Ai (wv (Ad Bm Aa D4 Aa Aa) (wv (Aq (i:=0) D5 Aa Aa Aa) (wv (Bh Aa Aa) (wm Aa (A7 (decide (((At v i).fKind)=5)) (λc53=>?_) (λc53=>?_))))))
       ·refine wo c53 (wv (Ad Bm Aa Cf Aa Aa) (wo c53 (wv (Aq (i:=0) CC Aa Aa Aa) (wo c53 (wv (Bh Aa Aa) (EA Aa c53 Aa (wm Aa (A7 (decide (((At v i).fInt)=0)) (λhk=>?_) (λhk=>?_)))))))))
        ·refine wo hk (wv (Ad Bm Aa BU Aa Aa) (wo hk (wv (Aq (i:=0) Cg Aa Aa Aa) (wo hk (wv (Co Aa Aa) (EA Aa hk Aa (wm Aa (A7 (decide (((At v i).fStr)=([]:Ak))) (λhm=>?_) (λhm=>?_)))))))))
         ·refine wo hm (wv (Ad Bm Aa Cf Aa Aa) (wo hm (wv (Aq (i:=0) CC Aa Aa Aa) (wo hm (wv (ER Aa Aa) (EA Aa hm Aa (Aj ?_)))))));exact BO (And.intro c53 (And.intro hk hm))
         ·refine wf hm (wf hm (wf hm (wv (r:=rB false) (Ar (b:=decide (((At v i).fStr)=([]:Ak))) Aa hm Aa) (Aj ?_))));exact BO (And.intro c53 (And.intro hk hm))
        ·refine wf hk (wf hk (wf hk (wv (r:=rB false) (Ar (b:=decide (((At v i).fInt)=0)) Aa hk Aa) (wm Aa (Ag (b:=false) Aa Aa Aa Aa (Ag (b:=false) Aa Aa Aa Aa (Ag (b:=false) Aa Aa Aa Aa (wv (r:=rB false) (Ar (b:=false) Aa Aa Aa) (Aj ?_)))))))));exact BO (And.intro c53 hk)
       ·refine wf c53 (wf c53 (wf c53 (wv (r:=rB false) (Ar (b:=decide (((At v i).fKind)=5)) Aa c53 Aa) (wm Aa (Ag (b:=false) Aa Aa Aa Aa (Ag (b:=false) Aa Aa Aa Aa (Ag (b:=false) Aa Aa Aa Aa (wv (r:=rB false) (Ar (b:=false) Aa Aa Aa) (wm Aa (Ag (b:=false) Aa Aa Aa Aa (Ag (b:=false) Aa Aa Aa Aa (Ag (b:=false) Aa Aa Aa Aa (wv (r:=rB false) (Ar (b:=false) Aa Aa Aa) (Aj ?_))))))))))))));exact BO c53
      refine Au (b:=((decide (((At v i).fKind)=5))&&((decide (((At v i).fInt)=0))&&((decide (((At v i).fStr)=([]:Ak)))&&(decide (0≤((At v i).fN))))))) Aa (λhr=>?_) (λhr=>?_)
      ·have gf:=AE hr h0;refine Al (wm Aa (wm Aa ?_));obtain⟨gg,gh⟩:=Az gf;refine wv (Bu Aa Aa gg) (wv (Ad Bm Aa Cf Aa Aa) (wv (Aq (i:=0) CC Aa Aa Aa) ?_));obtain⟨gi,gj,gl⟩:=AH gh;refine C9 Tryz.call92 (h8 v (i+1) ((At v i).fN) gi gj) Aa (wa Aa (As (Ay (Af ?_))));obtain rfl:=A0 gl;exact Ax (BG Mp (AM Aa)) (sS sN) ⟨Aa,Aa⟩
      ·have h7:=AF hr h0;refine Aw (AP (Am (AB [(0,Bl 4 (List.map Ab v)),(1,rI .i64 i),(5,rv (.pointer (some ⟨b7,0,none⟩))),(120,rB ((decide (((At v i).fKind)=6))&&((decide (((At v i).fInt)=0))&&((decide (((At v i).fStr)=([]:Ak)))&&(decide (0≤((At v i).fN)))))))] [.blk b7 (Ab (At v i)) 50] ?_ ?_)))
       ·refine Ai (wv (Ad Bm Aa D4 Aa Aa) (wv (Aq (i:=0) D5 Aa Aa Aa) (wv (Bh Aa Aa) (wm Aa (A7 (decide (((At v i).fKind)=6)) (λhj=>?_) (λhj=>?_))))))
        ·refine wo hj (wv (Ad Bm Aa Cf Aa Aa) (wo hj (wv (Aq (i:=0) CC Aa Aa Aa) (wo hj (wv (Bh Aa Aa) (EA Aa hj Aa (wm Aa (A7 (decide (((At v i).fInt)=0)) (λhl=>?_) (λhl=>?_)))))))))
         ·refine wo hl (wv (Ad Bm Aa BU Aa Aa) (wo hl (wv (Aq (i:=0) Cg Aa Aa Aa) (wo hl (wv (Co Aa Aa) (EA Aa hl Aa (wm Aa (A7 (decide (((At v i).fStr)=([]:Ak))) (λhn=>?_) (λhn=>?_)))))))))
          ·refine wo hn (wv (Ad Bm Aa Cf Aa Aa) (wo hn (wv (Aq (i:=0) CC Aa Aa Aa) (wo hn (wv (ER Aa Aa) (EA Aa hn Aa (Aj ?_)))))));exact BO (And.intro hj (And.intro hl hn))
          ·refine wf hn (wf hn (wf hn (wv (r:=rB false) (Ar (b:=decide (((At v i).fStr)=([]:Ak))) Aa hn Aa) (Aj ?_))));exact BO (And.intro hj (And.intro hl hn))
         ·refine wf hl (wf hl (wf hl (wv (r:=rB false) (Ar (b:=decide (((At v i).fInt)=0)) Aa hl Aa) (wm Aa (Ag (b:=false) Aa Aa Aa Aa (Ag (b:=false) Aa Aa Aa Aa (Ag (b:=false) Aa Aa Aa Aa (wv (r:=rB false) (Ar (b:=false) Aa Aa Aa) (Aj ?_)))))))));exact BO (And.intro hj hl)
        ·refine wf hj (wf hj (wf hj (wv (r:=rB false) (Ar (b:=decide (((At v i).fKind)=6)) Aa hj Aa) (wm Aa (Ag (b:=false) Aa Aa Aa Aa (Ag (b:=false) Aa Aa Aa Aa (Ag (b:=false) Aa Aa Aa Aa (wv (r:=rB false) (Ar (b:=false) Aa Aa Aa) (wm Aa (Ag (b:=false) Aa Aa Aa Aa (Ag (b:=false) Aa Aa Aa Aa (Ag (b:=false) Aa Aa Aa Aa (wv (r:=rB false) (Ar (b:=false) Aa Aa Aa) (Aj ?_))))))))))))));exact BO hj
       refine Au (b:=((decide (((At v i).fKind)=6))&&((decide (((At v i).fInt)=0))&&((decide (((At v i).fStr)=([]:Ak)))&&(decide (0≤((At v i).fN))))))) Aa (λhs=>?_) (λhs=>?_)
       ·have gm:=AE hs h7;refine Al (wm Aa (wm Aa ?_));obtain⟨gp,gq⟩:=Az gm;refine wv (Bu Aa Aa gp) (wv (Ad Bm Aa Cf Aa Aa) (wv (Aq (i:=0) CC Aa Aa Aa) ?_));obtain⟨gr,gs,gt⟩:=AH gq;refine C9 Tryz.call93 (hA v (i+1) ((At v i).fN) gr gs) Aa (wa Aa (As (Ay (Af ?_))));obtain rfl:=A0 gt;exact Ax (BG Mp (AM Aa)) (sS sN) ⟨Aa,Aa⟩
       ·have gu:=AF hs h7;refine Aw (AP (Al (wv (r:=rI .i64 (-1)) (Ae Aa) (As (Ay ?_)))));obtain rfl:=A0 gu;exact Ax (BG Mp (AM Aa)) (sS sN) ⟨Aa,Aa⟩
theorem LP (F:Nat)(hd:(List Ac)→Int→Option (Int))(hm:(∀(v:(List Ac)) (i:Int) (r:Int),hd v i=some r→Fn Tryz.prog GE 67 [Bl 4 (List.map Ab v),rI .i64 i] [] (λR H=>R=rI .i64 r∧H=[])))(v:(List Ac))(i:Int)(n:Int)(r:Int)(h:GL F hd v i n=some r):Fn Tryz.prog GE 92 [Bl 4 (List.map Ab v),rI .i64 i,rI .i64 n] [] (λR H=>R=rI .i64 r∧H=[]):=by
 refine enter (n:=19) Tryz.func92 Aa Tryz.ntmps92 Aa (λw Z=>?_);refine AR (l':=[(0,Bl 4 (List.map Ab v)),(1,rI .i64 i),(2,rI .i64 n)]) (H':=[]) Aa Aa ?_;unfold GL at h;refine Al (wv (r:=rI .i64 0) (Ae Aa) (As (Am (Al (wv (r:=rI .i64 0) (Ae Aa) (As (AJ ?_)))))));obtain⟨hn,ho,hj⟩:=AH h;refine B2 (S:=Nat×(Int×Int)×(Unit)) (V:=(Int)×(Unit)) 0 (λσ=>Cn (λσ=>Cy v n hd σ.1 σ.2) σ.1 σ.2.1=some hn) (λσ=>[(0,Bl 4 (List.map Ab v)),(1,rI .i64 σ.2.1.1),(2,rI .i64 n),(6,rI .i64 0),(7,rI .i64 σ.2.1.2)]) (λσ=>[]) (λσ=>σ.1) (F,(i,0),()) ho (AK.c5 Aa Aa Aa Aa Aa AK.nil) sN (λσ=>Dx σ.1=some r) (λσ=>[(1,rI .i64 σ.1),(6,rI .i64 0)]) (λσ=>[]) ?_ ?_
 ·rintro⟨h8,⟨he,hf⟩,⟨⟩⟩ hp;refine AR (l':=[(0,Bl 4 (List.map Ab v)),(1,rI .i64 he),(2,rI .i64 n),(6,rI .i64 0),(7,rI .i64 hf)]) (H':=[]) Aa Aa ?_;obtain⟨hq,rfl,hr,ha,hh⟩:=CM hp;replace ha:Cy v n hd he hf=some hr:=ha;unfold Cy at ha;refine Am (Al (wm Aa (wm Aa (wv (C8 Aa Aa) (As (Au (b:=decide (hf<n)) Aa (λc46=>?_) (λc46=>?_)))))))
  ·have hs:=AE c46 ha;refine Aw (AP (Am (AJ (Al (wm Aa (wm Aa ?_))))));obtain⟨hi,ht,hk⟩:=AH hs;refine C9 Kl (hm v he hi ht) Aa (wa Aa (Bv (wm Aa (wv (C8 Aa Aa) (As (Au (b:=decide (hi<0)) Aa (λc51=>?_) (λc51=>?_)))))))
   ·have hu:=AE c51 hk;refine Al (wv (r:=rI .i64 (-1)) (Ae Aa) (As (Ay (A5 (Af (Af (Bf ?_)))))));have hw:=B5 hu hh hj;refine A5 (Af ?_);obtain rfl:=A0 hw;exact Ax (BG Tryz.results92 (AM Aa)) sN ⟨Aa,Aa⟩
   ·have hx:=AF c51 hk;refine Aw (AG (AP (Ai (wm Aa ?_))));obtain⟨hy,hz⟩:=Az hx;refine wv (Bu Aa Aa hy) (wa Aa (Aj ?_));have h0:=Bk hz hh;exact Ap (AI (hq,(hi,hf+1),()) ⟨h0,U0 _⟩ (AK.c5 Aa Aa Aa Aa Aa AK.nil) sN)
  ·have h6:=AF c46 ha;refine B4 (A4 ?_);have h7:=Cv h6 hh hj;exact A4 (Bt (AI (he,()) h7 (AK.c Aa (AK.c Aa AK.nil)) sN))
 ·rintro⟨hl,⟨⟩⟩ hg;refine Dd (l':=[(1,rI .i64 hl),(6,rI .i64 0)]) (H':=[]) Aa Aa ?_;replace hg:Dx hl=some r:=hg;unfold Dx at hg;refine Bi (AP (Al (wm Aa (wa Aa (As (Ay ?_))))));obtain rfl:=A0 hg;exact Ax (BG Tryz.results92 (AM Aa)) sN ⟨Aa,Aa⟩
theorem OU (F:Nat)(hj:(List Ac)→Int→Option (Int))(hw:(∀(v:(List Ac)) (i:Int) (r:Int),hj v i=some r→Fn Tryz.prog GE 67 [Bl 4 (List.map Ab v),rI .i64 i] [] (λR H=>R=rI .i64 r∧H=[])))(v:(List Ac))(i:Int)(n:Int)(r:Int)(h:JW F hj v i n=some r):Fn Tryz.prog GE 93 [Bl 4 (List.map Ab v),rI .i64 i,rI .i64 n] [] (λR H=>R=rI .i64 r∧H=[]):=by
 refine enter (n:=51) Tryz.func93 Aa Tryz.ntmps93 Aa (λw Z=>?_);refine AR (l':=[(0,Bl 4 (List.map Ab v)),(1,rI .i64 i),(2,rI .i64 n)]) (H':=[]) Aa Aa ?_;unfold JW at h;refine Al (wv (r:=rI .i64 0) (Ae Aa) (Bv (wv (r:=rS ([]:Ak)) (Ae Aa) (As (Am (Al (wv (r:=rI .i64 0) (Ae Aa) (As (AJ ?_)))))))));obtain⟨hx,hy,hm⟩:=AH h;refine B2 (S:=Nat×(Int×Ak×Int)×(Unit)) (V:=(Int)×(Unit)) 0 (λσ=>Cn (λσ=>CK F v n hj σ.1 σ.2.1 σ.2.2) σ.1 σ.2.1=some hx) (λσ=>[(0,Bl 4 (List.map Ab v)),(1,rI .i64 σ.2.1.1),(2,rI .i64 n),(7,rS σ.2.1.2.1),(8,rI .i64 σ.2.1.2.2)]) (λσ=>[]) (λσ=>σ.1) (F,(i,([]:Ak),0),()) hy (AK.c5 Aa Aa Aa Aa Aa AK.nil) sN (λσ=>E6 σ.1=some r) (λσ=>[(1,rI .i64 σ.1)]) (λσ=>[]) ?_ ?_
 ·rintro⟨hS,⟨hd,hh,hg⟩,⟨⟩⟩ hz;refine AR (l':=[(0,Bl 4 (List.map Ab v)),(1,rI .i64 hd),(2,rI .i64 n),(7,rS hh),(8,rI .i64 hg)]) (H':=[]) Aa Aa ?_;obtain⟨h0,rfl,h6,hi,hk⟩:=CM hz;replace hi:CK F v n hj hd hh hg=some h6:=hi;unfold CK at hi;refine Am (Al (wm Aa (wm Aa (wv (C8 Aa Aa) (As (Au (b:=decide (hg<n)) Aa (λhn=>?_) (λhn=>?_)))))))
  ·have h7:=AE hn hi;refine Aw (AP (Am (AJ (Am ?_))));obtain⟨hr,h8⟩:=Az h7;obtain⟨h9,hs⟩:=Az h8;refine AB [(0,Bl 4 (List.map Ab v)),(1,rI .i64 hd),(2,rI .i64 n),(8,rI .i64 hg),(38,rB ((decide ((v.length:Int)≤hd))||((!(ov (JM F (At v hd))))||((decide (0<hg))&&(C2 ((At v hd).fStr) hh||decide (((At v hd).fStr)=hh))))))] [] ?_ ?_
   ·refine Ai (wm Aa (wm Aa (wv (BB (ys:=v) (enc:=Ab) BN Aa) (wv (ER Aa Aa) (wm Aa (A7 (decide ((v.length:Int)≤hd)) (λha=>?_) (λha=>?_)))))))
    ·refine wf ha (wf ha (wf ha (wf ha (wf ha (wf ha (wv (r:=rB true) (Ao (b:=decide ((v.length:Int)≤hd)) Aa ha Aa) (wm Aa (Ag (b:=true) Aa Aa Aa Aa (Ag (b:=true) Aa Aa Aa Aa (Ag (b:=true) Aa Aa Aa Aa (wu (wu (wu (wu (wu (wu (wu (Ag (b:=true) Aa Aa Aa Aa (wv (r:=rB true) (Ao (b:=true) Aa Aa Aa) (Aj ?_))))))))))))))))))));exact BO ha
    ·refine wo ha (wm Aa (wo ha (wm Aa (wo ha (wv (BH (enc:=Ab) (ys:=v) BN Cm Aa Aa (CG hr ha)) (wo ha (wv (DN Kn Cm Aa Aa Aa) (wo ha (C9 Tryz.call91 (Qj F (At v hd) (ov (JM F (At v hd))) (D9 (CG h9 ha))) Aa (wo ha (wv (BL Aa) (ET Aa ha Aa (wm Aa (A7 (!(ov (JM F (At v hd)))) (λhf=>?_) (λhf=>?_)))))))))))))))
     ·refine wf hf (wf hf (wf hf (wu (wu (wu (wu (wu (wu (wu (wf hf (wv (r:=rB true) (Ao (b:=!(ov (JM F (At v hd)))) Aa hf Aa) (Aj ?_))))))))))));exact BO (And.intro ha hf)
     ·refine wo hf (wm Aa (wo hf (wv (C1 Aa Aa) (wo hf (wm Aa (A7 (decide (0<hg)) (λhe=>?_) (λhe=>?_)))))))
      ·refine wo he (wm Aa (wo he (wm Aa (wo he (wv (BH (enc:=Ab) (ys:=v) BN Cm Aa Aa (CG hr ha)) (wo he (wv (BF Bm Aa BU Aa Aa) (wo he (wv (B7 Cg Aa Aa) (wo he (wm Aa (wo he (wv (Oi Aa Aa) (wo hf (EA Aa he Aa (ET Aa hf Aa (Aj ?_)))))))))))))))));exact BO (And.intro ha (And.intro hf he))
      ·refine wf he (wf he (wf he (wf he (wf he (wf he (wf he (wo hf (wv (r:=rB false) (Ar (b:=decide (0<hg)) Aa he Aa) (ET Aa hf Aa (Aj ?_))))))))));exact BO (And.intro ha (And.intro hf he))
   refine Au (b:=((decide ((v.length:Int)≤hd))||((!(ov (JM F (At v hd))))||((decide (0<hg))&&(C2 ((At v hd).fStr) hh||decide (((At v hd).fStr)=hh)))))) Aa (λho=>?_) (λho=>?_)
   ·have hA:=AE ho hs;refine Al (wv (r:=rI .i64 (-1)) (Ae Aa) (As (Ay (Af (A5 (Af (Af (Bf ?_))))))));have hB:=B5 hA hk hm;refine A5 (Af ?_);obtain rfl:=A0 hB;exact Ax (BG Tryz.results93 (AM Aa)) sN ⟨Aa,Aa⟩
   ·have hC:=AF ho hs;refine Aw (AP (Al (wm Aa (wm Aa ?_))));obtain⟨hD,hE⟩:=Az hC;refine wv (BH (enc:=Ab) (ys:=v) BN Cm Aa Aa hD) (wv (BF Bm Aa BU Aa Aa) (wv (B7 Cg Aa Aa) (wa Aa (Bv (wm Aa (wm Aa ?_))))));obtain⟨hG,hH⟩:=Az hE;refine wv (Bu Aa Aa hG) ?_;obtain⟨hp,hI,ht⟩:=AH hH;refine C9 Kl (hw v (hd+1) hp hI) Aa (wa Aa (Bv (wm Aa (wv (C8 Aa Aa) (As (Au (b:=decide (hp<0)) Aa (λhq=>?_) (λhq=>?_)))))))
    ·have hJ:=AE hq ht;refine Al (wv (r:=rI .i64 (-1)) (Ae Aa) (As (Ay (A5 (Af (Af (Bf ?_)))))));have hK:=B5 hJ hk hm;refine A5 (Af ?_);obtain rfl:=A0 hK;exact Ax (BG Tryz.results93 (AM Aa)) sN ⟨Aa,Aa⟩
    ·have hL:=AF hq ht;refine Aw (AG (AP (Ai (wm Aa ?_))));obtain⟨hN,hO⟩:=Az hL;refine wv (Bu Aa Aa hN) (wa Aa (Aj ?_));have hP:=Bk hO hk;exact Ap (AI (h0,(hp,(At v hd).fStr,hg+1),()) ⟨hP,U0 _⟩ (AK.c5 Aa Aa Aa Aa Aa AK.nil) sN)
  ·have hQ:=AF hn hi;refine B4 (A4 ?_);have hR:=Cv hQ hk hm;exact A4 (Bt (AI (hd,()) hR (AK.c Aa AK.nil) sN))
 ·rintro⟨hu,⟨⟩⟩ hl;refine Dd (l':=[(1,rI .i64 hu)]) (H':=[]) Aa Aa ?_;replace hl:E6 hu=some r:=hl;unfold E6 at hl;refine Bi (AP (Al (wm Aa (wa Aa (As (Ay ?_))))));obtain rfl:=A0 hl;exact Ax (BG Tryz.results93 (AM Aa)) sN ⟨Aa,Aa⟩
theorem Gu:∀F:Nat,(∀(v:(List Ac)) (i:Int) (r:Int),CQ F v i=some r→Fn Tryz.prog GE 67 [Bl 4 (List.map Ab v),rI .i64 i] [] (λR H=>R=rI .i64 r∧H=[]))∧(∀(v:(List Ac)) (i:Int) (n:Int) (r:Int),E7 F v i n=some r→Fn Tryz.prog GE 92 [Bl 4 (List.map Ab v),rI .i64 i,rI .i64 n] [] (λR H=>R=rI .i64 r∧H=[]))∧(∀(v:(List Ac)) (i:Int) (n:Int) (r:Int),Jf F v i n=some r→Fn Tryz.prog GE 93 [Bl 4 (List.map Ab v),rI .i64 i,rI .i64 n] [] (λR H=>R=rI .i64 r∧H=[]))
  | 0=>⟨(λ_ _ _ h=>by simp[CQ] at h),(λ_ _ _ _ h=>by simp[E7] at h),(λ_ _ _ _ h=>by simp[Jf] at h)⟩
  | nn+1=>⟨(λv i r h=>Qi nn (E7 nn) (Jf nn) (Gu nn).2.1 (Gu nn).2.2 v i r (by rw[CQ] at h;exact h)),(λv i n r h=>LP nn (CQ nn) (Gu nn).1 v i n r (by rw[E7] at h;exact h)),(λv i n r h=>OU nn (CQ nn) (Gu nn).1 v i n r (by rw[Jf] at h;exact h))⟩
theorem E0 (F:Nat)(v:(List Ac))(i:Int)(r:Int)(h:CQ F v i=some r):Fn Tryz.prog GE 67 [Bl 4 (List.map Ab v),rI .i64 i] [] (λR H=>R=rI .i64 r∧H=[]):=(Gu F).1 v i r h
theorem OW (F:Nat)(v:(List Ac))(r:Bool)(h:I9 F v=some r):Fn Tryz.prog GE 51 [Bl 4 (List.map Ab v)] [] (λR H=>R=rB r∧H=[]):=by
 refine enter (n:=13) Tryz.func51 Aa Tryz.ntmps51 Aa (λw Z=>?_);refine AR (l':=[(0,Bl 4 (List.map Ab v))]) (H':=[]) Aa Aa ?_;unfold I9 at h;refine Al (wv (r:=rB false) (Ae Aa) (As ?_));obtain⟨g1,h2⟩:=Az h;refine AB [(2,rB ((decide (0<(v.length:Int)))&&(decide ((ov (CQ F v 0))=(v.length:Int)))))] [] ?_ ?_
 ·refine Ai (wm Aa (wv (BB (ys:=v) (enc:=Ab) BN Aa) (wv (C1 Aa Aa) (wm Aa (A7 (decide (0<(v.length:Int))) (λc3=>?_) (λc3=>?_))))))
  ·refine wo c3 (wm Aa (wo c3 (C9 Kl (E0 F v 0 (ov (CQ F v 0)) (D9 (Ch g1 c3))) Aa (wo c3 (wm Aa (wo c3 (wv (BB (ys:=v) (enc:=Ab) BN Aa) (wo c3 (wv (Bh Aa Aa) (EA Aa c3 Aa (wa Aa (Aj ?_))))))))))));exact BO c3
  ·refine wf c3 (wf c3 (wf c3 (wf c3 (wf c3 (wv (r:=rB false) (Ar (b:=decide (0<(v.length:Int))) Aa c3 Aa) (wa Aa (Aj ?_)))))));exact BO c3
 refine Ay ?_;obtain rfl:=A0 h2;exact Ax (BG Tryz.results51 (AM Aa)) sN ⟨Aa,Aa⟩
theorem N3 (F:Nat)(hh:(List Ac)→Int→Option (Int))(hq:(∀(v:(List Ac)) (i:Int) (r:Int),hh v i=some r→Fn Tryz.prog GE 52 [Bl 4 (List.map Ab v),rI .i64 i] [] (λR H=>R=rI .i64 r∧H=[])))(v:(List Ac))(i:Int)(r:Int)(h:Gv F hh v i=some r):Fn Tryz.prog GE 52 [Bl 4 (List.map Ab v),rI .i64 i] [] (λR H=>R=rI .i64 r∧H=[]):=by
 refine enter (n:=47) Tryz.func52 Aa Tryz.ntmps52 Aa (λw Z=>?_);refine AR (l':=[(0,Bl 4 (List.map Ab v)),(1,rI .i64 i)]) (H':=[]) Aa Aa ?_;unfold Gv at h;refine Al (wv (r:=rI .i64 0) (Ae Aa) (Bv (wm Aa (wm Aa ?_))));obtain⟨g1,h2⟩:=Az h;refine wv (BH (enc:=Ab) (ys:=v) BN Cm Aa Aa g1) (wv (DN Kn Cm Aa Aa Aa) (Ci (cs:=[rI .i64 0,rI .i64 0,rS ([]:Ak),rI .i64 0]) Ia Aa Aa (λb3=>?_)));refine Bg (i:=0) Cm Aa Aa Aa (BE.c Aa) Aa Aa (cs':=[rI .i64 ((At v i).fKind),rI .i64 ((At v i).fInt),rS ((At v i).fStr),rI .i64 ((At v i).fN)]) Aa (H':=[.blk b3 (Ab (At v i)) 50]) Aa (As (Am (AB [(0,Bl 4 (List.map Ab v)),(1,rI .i64 i),(5,rv (.pointer (some ⟨b3,0,none⟩))),(21,rB ((!decide (((At v i).fKind)=5))&&(!decide (((At v i).fKind)=6))))] [.blk b3 (Ab (At v i)) 50] ?_ ?_)))
 ·refine Ai (wv (Ad Bm Aa D4 Aa Aa) (wv (Aq (i:=0) D5 Aa Aa Aa) (wv (DB Aa Aa) (wm Aa (A7 (!decide (((At v i).fKind)=5)) (λc4=>?_) (λc4=>?_))))))
  ·refine wo c4 (wv (Ad Bm Aa D4 Aa Aa) (wo c4 (wv (Aq (i:=0) D5 Aa Aa Aa) (wo c4 (wv (DB Aa Aa) (EA Aa c4 Aa (Aj ?_)))))));exact BO c4
  ·refine wf c4 (wf c4 (wf c4 (wv (r:=rB false) (Ar (b:=!decide (((At v i).fKind)=5)) Aa c4 Aa) (Aj ?_))));exact BO c4
 refine Au (b:=((!decide (((At v i).fKind)=5))&&(!decide (((At v i).fKind)=6)))) Aa (λc5=>?_) (λc5=>?_)
 ·have h6:=AE c5 h2;refine Al (wv (r:=rI .i64 1) (Ae Aa) (As (Ay (Af ?_))));obtain rfl:=A0 h6;exact Ax (BG Tryz.results52 (AM Aa)) (sS sN) ⟨Aa,Aa⟩
 ·have h7:=AF c5 h2;refine Aw (AP (Al (wv (r:=rI .i64 0) (Ae Aa) (Bv (wm Aa ?_)))));obtain⟨g8,h9⟩:=Az h7;refine wv (Bu Aa Aa g8) (wa Aa (As (Am (Al (wv (r:=rI .i64 0) (Ae Aa) (As (AJ ?_)))))));obtain⟨h0,h8,hA⟩:=AH h9;refine B2 (S:=Nat×(Int×Int×Int)×(Unit)) (V:=(Int)×(Unit)) 0 (λσ=>Cn (λσ=>Cq F v i hh σ.1 σ.2.1 σ.2.2) σ.1 σ.2.1=some h0) (λσ=>[(0,Bl 4 (List.map Ab v)),(5,rv (.pointer (some ⟨b3,0,none⟩))),(6,rI .i64 σ.2.1.1),(7,rI .i64 σ.2.1.2.1),(8,rI .i64 σ.2.1.2.2)]) (λσ=>[.blk b3 (Ab (At v i)) 50]) (λσ=>σ.1) (F,(0,i+1,0),()) h8 (AK.c5 Aa Aa Aa Aa Aa AK.nil) (sC sN) (λσ=>Dp σ.1=some r) (λσ=>[(6,rI .i64 σ.1)]) (λσ=>[]) ?_ ?_
  ·rintro⟨gq,⟨hd,ha,he⟩,⟨⟩⟩ hB;refine AR (l':=[(0,Bl 4 (List.map Ab v)),(5,rv (.pointer (some ⟨b3,0,none⟩))),(6,rI .i64 hd),(7,rI .i64 ha),(8,rI .i64 he)]) (H':=[.blk b3 (Ab (At v i)) 50]) Aa Aa ?_;obtain⟨hi,rfl,hC,hf,hg⟩:=CM hB;replace hf:Cq F v i hh hd ha he=some hC:=hf;unfold Cq at hf;refine Am (Al (wm Aa (wv (Ad Bm Aa Cf Aa Aa) (wv (Aq (i:=0) CC Aa Aa Aa) (wv (C8 Aa Aa) (As (Au (b:=decide (he<((At v i).fN))) Aa (λhk=>?_) (λhk=>?_))))))))
   ·have hr:=AE hk hf;refine Aw (AP (Am (AJ (Am (Al (wv (Ad Bm Aa D4 Aa Aa) (wv (Aq (i:=0) D5 Aa Aa Aa) (wv (Bh Aa Aa) (As (Au (b:=decide (((At v i).fKind)=6)) Aa (λhl=>?_) (λhl=>?_)))))))))))
    ·have hD:=AE hl hr;refine Ai (wm Aa ?_);obtain⟨hE,hG⟩:=Az hD;refine wv (Bu Aa Aa hE) (wa Aa (Bv (wm Aa (wm Aa ?_))));obtain⟨hm,hH,hs⟩:=AH hG;refine C9 Tryz.call52 (hq v (ha+1) hm hH) Aa (wa Aa (As (Am (Al (wm Aa (wm Aa (wv (C1 Aa Aa) (As (Au (b:=decide (hd<hm)) Aa (λhn=>?_) (λhn=>?_))))))))))
     ·have hI:=AE hn hs;refine Ai (wm Aa (wa Aa (As (Ai (wm Aa (wm Aa ?_))))));obtain⟨ht,hJ,hK⟩:=AH hI;refine C9 Kl (E0 F v (ha+1) ht hJ) Aa (wa Aa (Aj (AG (AP (Ai (wm Aa ?_))))));obtain⟨hL,hN⟩:=Az hK;refine wv (Bu Aa Aa hL) (wa Aa (Aj ?_));have hO:=Bk hN hg;exact Ap (AI (hi,(hm,ht,he+1),()) ⟨hO,U0 _⟩ (AK.c5 Aa Aa Aa Aa Aa AK.nil) (sC sN))
     ·have hP:=AF hn hs;refine Aw (AP (Ai (wm Aa (wm Aa ?_))));obtain⟨hu,hQ,hR⟩:=AH hP;refine C9 Kl (E0 F v (ha+1) hu hQ) Aa (wa Aa (Aj (AG (AP (Ai (wm Aa ?_))))));obtain⟨hS,hT⟩:=Az hR;refine wv (Bu Aa Aa hS) (wa Aa (Aj ?_));have hU:=Bk hT hg;exact Ap (AI (hi,(hd,hu,he+1),()) ⟨hU,U0 _⟩ (AK.c5 Aa Aa Aa Aa Aa AK.nil) (sC sN))
    ·have hV:=AF hl hr;refine Aw (AP (Al (wm Aa (wm Aa ?_))));obtain⟨ho,hW,hw⟩:=AH hV;refine C9 Tryz.call52 (hq v ha ho hW) Aa (wa Aa (As (Am (Al (wm Aa (wm Aa (wv (C1 Aa Aa) (As (Au (b:=decide (hd<ho)) Aa (λhp=>?_) (λhp=>?_))))))))))
     ·have hX:=AE hp hw;refine Ai (wm Aa (wa Aa (As (Ai (wm Aa (wm Aa ?_))))));obtain⟨hx,hY,hZ⟩:=AH hX;refine C9 Kl (E0 F v ha hx hY) Aa (wa Aa (Aj (AG (AP (Ai (wm Aa ?_))))));obtain⟨ga,gb⟩:=Az hZ;refine wv (Bu Aa Aa ga) (wa Aa (Aj ?_));have gc:=Bk gb hg;exact Ap (AI (hi,(ho,hx,he+1),()) ⟨gc,U0 _⟩ (AK.c5 Aa Aa Aa Aa Aa AK.nil) (sC sN))
     ·have gd:=AF hp hw;refine Aw (AP (Ai (wm Aa (wm Aa ?_))));obtain⟨hy,ge,gf⟩:=AH gd;refine C9 Kl (E0 F v ha hy ge) Aa (wa Aa (Aj (AG (AP (Ai (wm Aa ?_))))));obtain⟨gg,gh⟩:=Az gf;refine wv (Bu Aa Aa gg) (wa Aa (Aj ?_));have gi:=Bk gh hg;exact Ap (AI (hi,(hd,hy,he+1),()) ⟨gi,U0 _⟩ (AK.c5 Aa Aa Aa Aa Aa AK.nil) (sC sN))
   ·have gj:=AF hk hf;refine B4 (A4 ?_);have gl:=Cv gj hg hA;exact A4 (Bt (AI (hd,()) gl (AK.c Aa AK.nil) (sS sN)))
  ·rintro⟨hz,⟨⟩⟩ hj;refine Dd (l':=[(6,rI .i64 hz)]) (H':=[]) Aa Aa ?_;replace hj:Dp hz=some r:=hj;unfold Dp at hj;refine Bi (AP (Al (wm Aa ?_)));obtain⟨gm,gp⟩:=Az hj;refine wv (Bu Aa Aa gm) (wa Aa (As (Ay ?_)));obtain rfl:=A0 gp;exact Ax (BG Tryz.results52 (AM Aa)) sN ⟨Aa,Aa⟩
theorem J8:∀F:Nat,(∀(v:(List Ac)) (i:Int) (r:Int),Cw F v i=some r→Fn Tryz.prog GE 52 [Bl 4 (List.map Ab v),rI .i64 i] [] (λR H=>R=rI .i64 r∧H=[]))
  | 0=>(λ_ _ _ h=>by simp[Cw] at h)
  | nn+1=>(λv i r h=>N3 nn (Cw nn) (J8 nn) v i r (by rw[Cw] at h;exact h))
theorem OV (F:Nat)(v:(List Ac))(i:Int)(r:Int)(h:Cw F v i=some r):Fn Tryz.prog GE 52 [Bl 4 (List.map Ab v),rI .i64 i] [] (λR H=>R=rI .i64 r∧H=[]):=(J8 F) v i r h
theorem Je (F:Nat)(s:Ak)(r:Ak)(h:GK F s=some r):Fn Tryz.prog GE 66 [rS s] [] (λR H=>R=rS r∧H=[]):=by
 refine enter (n:=32) Tryz.func66 Aa Tryz.ntmps66 Aa (λw Z=>?_);refine AR (l':=[(0,rS s)]) (H':=[]) Aa Aa ?_;unfold GK at h;refine Al (wv (r:=rS ([]:Ak)) (Ae Aa) (Bv (wv (r:=rS ([34]:Ak)) (Ae Aa) (As (Am (Al (wv (r:=rI .i64 0) (Ae Aa) (As (AJ ?_)))))))));obtain⟨hq,hr,hs⟩:=AH h;refine B2 (S:=Nat×(Ak×Int)×(Unit)) (V:=(Ak)×(Unit)) 0 (λσ=>Cn (λσ=>C3 s σ.1 σ.2) σ.1 σ.2.1=some hq) (λσ=>[(0,rS s),(3,rS σ.2.1.1),(4,rI .i64 σ.2.1.2)]) (λσ=>[]) (λσ=>σ.1) (F,(([34]:Ak),0),()) hr (AK.c Aa (AK.c Aa (AK.c Aa AK.nil))) sN (λσ=>CW σ.1=some r) (λσ=>[(3,rS σ.1)]) (λσ=>[]) ?_ ?_
 ·rintro⟨hS,⟨he,ha⟩,⟨⟩⟩ ht;refine AR (l':=[(0,rS s),(3,rS he),(4,rI .i64 ha)]) (H':=[]) Aa Aa ?_;obtain⟨hk,rfl,hu,hf,hh⟩:=CM ht;replace hf:C3 s he ha=some hu:=hf;unfold C3 at hf;refine Am (Al (wm Aa (wm Aa (wv (AZ Ce Aa) (wv (C8 Aa Aa) (As (Au (b:=decide (ha<(s.length:Int))) Aa (λhi=>?_) (λhi=>?_))))))))
  ·have hw:=AE hi hf;refine Aw (AP (Am (AJ (Am ?_))));obtain⟨hl,hm⟩:=Az hw;refine AB [(0,rS s),(3,rS he),(4,rI .i64 ha),(20,rB ((decide ((AY s ha)=34))||(decide ((AY s ha)=92))))] [] ?_ ?_
   ·refine Ai (wm Aa (wm Aa (wv (Bb Ce Aa Aa hl) (wv (Bh Aa Aa) (wm Aa (A7 (decide ((AY s ha)=34)) (λhd=>?_) (λhd=>?_)))))))
    ·refine wf hd (wf hd (wf hd (wf hd (wv (r:=rB true) (Ao (b:=decide ((AY s ha)=34)) Aa hd Aa) (Aj ?_)))));exact BO hd
    ·refine wo hd (wm Aa (wo hd (wm Aa (wo hd (wv (Bb Ce Aa Aa hl) (wo hd (wv (Bh Aa Aa) (ET Aa hd Aa (Aj ?_)))))))));exact BO hd
   refine Au (b:=((decide ((AY s ha)=34))||(decide ((AY s ha)=92)))) Aa (λhj=>?_) (λhj=>?_)
   ·have hx:=AE hj hm;refine Ai (wm Aa ?_);obtain⟨hy,hz⟩:=Az hx;refine wv (Cz Aa Aa hy) (wa Aa (As (Ai (wm Aa (wm Aa (wm Aa (wm Aa ?_)))))));obtain⟨hn,h0⟩:=Az hz;refine wv (Bu Aa Aa hn) ?_;obtain⟨h6,h7⟩:=Az h0;obtain⟨h8,h9⟩:=Az h7;refine wv (Eg Ce Aa Aa Aa h6 h8) ?_;obtain⟨hA,hB⟩:=Az h9;refine wv (Cz Aa Aa hA) (wa Aa (Aj (AG (AP (Ai (wm Aa (wv (Bu Aa Aa hn) (wa Aa (Aj ?_)))))))));have hC:=Bk hB hh;exact Ap (AI (hk,((he++([92]:Ak))++(List.take (Int.toNat (ha+1)-Int.toNat ha) (List.drop (Int.toNat ha) s)),ha+1),()) ⟨hC,U0 _⟩ (AK.c Aa (AK.c Aa (AK.c Aa AK.nil))) sN)
   ·have hD:=AF hj hm;refine Aw (AP (Ai (wm Aa (wm Aa (wm Aa (wm Aa ?_))))));obtain⟨ho,hE⟩:=Az hD;refine wv (Bu Aa Aa ho) ?_;obtain⟨hG,hH⟩:=Az hE;obtain⟨hI,hJ⟩:=Az hH;refine wv (Eg Ce Aa Aa Aa hG hI) ?_;obtain⟨hK,hL⟩:=Az hJ;refine wv (Cz Aa Aa hK) (wa Aa (Aj (AG (AP (Ai (wm Aa (wv (Bu Aa Aa ho) (wa Aa (Aj ?_)))))))));have hN:=Bk hL hh;exact Ap (AI (hk,(he++(List.take (Int.toNat (ha+1)-Int.toNat ha) (List.drop (Int.toNat ha) s)),ha+1),()) ⟨hN,U0 _⟩ (AK.c Aa (AK.c Aa (AK.c Aa AK.nil))) sN)
  ·have hO:=AF hi hf;refine B4 (A4 ?_);have hP:=Cv hO hh hs;exact A4 (Bt (AI (he,()) hP (AK.c Aa AK.nil) sN))
 ·rintro⟨hp,⟨⟩⟩ hg;refine Dd (l':=[(3,rS hp)]) (H':=[]) Aa Aa ?_;replace hg:CW hp=some r:=hg;unfold CW at hg;refine Bi (AP (Al (wm Aa ?_)));obtain⟨hQ,hR⟩:=Az hg;refine wv (Cz Aa Aa hQ) (wa Aa (As (Ay ?_)));obtain rfl:=A0 hR;exact Ax (BG Tryz.results66 (AM Aa)) sN ⟨Aa,Aa⟩
theorem Qg (F:Nat)(hi:(List Ac)→Int→Option (Ak))(hj:(∀(v:(List Ac)) (i:Int) (r:Ak),hi v i=some r→Fn Tryz.prog GE 45 [Bl 4 (List.map Ab v),rI .i64 i] [] (λR H=>R=rS r∧H=[])))(v:(List Ac))(i:Int)(r:Ak)(h:Jd F hi v i=some r):Fn Tryz.prog GE 45 [Bl 4 (List.map Ab v),rI .i64 i] [] (λR H=>R=rS r∧H=[]):=by
 refine enter (n:=77) Tryz.func45 Aa Tryz.ntmps45 Aa (λw Z=>?_);refine AR (l':=[(0,Bl 4 (List.map Ab v)),(1,rI .i64 i)]) (H':=[]) Aa Aa ?_;unfold Jd at h;refine Al (wv (r:=rS ([]:Ak)) (Ae Aa) (Bv (wm Aa (wm Aa ?_))));obtain⟨g1,h2⟩:=Az h;refine wv (BH (enc:=Ab) (ys:=v) BN Cm Aa Aa g1) (wv (DN Kn Cm Aa Aa Aa) (Ci (cs:=[rI .i64 0,rI .i64 0,rS ([]:Ak),rI .i64 0]) Ia Aa Aa (λb3=>?_)));refine Bg (i:=0) Cm Aa Aa Aa (BE.c Aa) Aa Aa (cs':=[rI .i64 ((At v i).fKind),rI .i64 ((At v i).fInt),rS ((At v i).fStr),rI .i64 ((At v i).fN)]) Aa (H':=[.blk b3 (Ab (At v i)) 50]) Aa (As (Am (Al (wv (Ad Bm Aa D4 Aa Aa) (wv (Aq (i:=0) D5 Aa Aa Aa) (wv (Bh Aa Aa) (As (Au (b:=decide (((At v i).fKind)=1)) Aa (λc4=>?_) (λc4=>?_)))))))))
 ·have h5:=AE c4 h2;refine Al (wv (r:=rS ([110,117,108,108]:Ak)) (Ae Aa) (As (Ay (Af ?_))));obtain rfl:=A0 h5;exact Ax (BG Nq (AM Aa)) (sS sN) ⟨Aa,Aa⟩
 ·have h6:=AF c4 h2;refine Aw (AP (Am (Al (wv (Ad Bm Aa D4 Aa Aa) (wv (Aq (i:=0) D5 Aa Aa Aa) (wv (Bh Aa Aa) (As (Au (b:=decide (((At v i).fKind)=2)) Aa (λc7=>?_) (λc7=>?_)))))))))
  ·have h8:=AE c7 h6;refine Am (Al (wv (Ad Bm Aa Cf Aa Aa) (wv (Aq (i:=0) CC Aa Aa Aa) (wv (Bh Aa Aa) (As (Au (b:=decide (((At v i).fInt)=1)) Aa (λc9=>?_) (λc9=>?_)))))))
   ·have hG:=AE c9 h8;refine Al (wv (r:=rS ([116,114,117,101]:Ak)) (Ae Aa) (As (Ay (Af (Af ?_)))));obtain rfl:=A0 hG;exact Ax (BG Nq (AM Aa)) (sS sN) ⟨Aa,Aa⟩
   ·have hH:=AF c9 h8;refine Aw (AP (Al (wv (r:=rS ([102,97,108,115,101]:Ak)) (Ae Aa) (As (Ay (Af ?_))))));obtain rfl:=A0 hH;exact Ax (BG Nq (AM Aa)) (sS sN) ⟨Aa,Aa⟩
  ·have hr:=AF c7 h6;refine Aw (AP (Am (Al (wv (Ad Bm Aa D4 Aa Aa) (wv (Aq (i:=0) D5 Aa Aa Aa) (wv (Bh Aa Aa) (As (Au (b:=decide (((At v i).fKind)=3)) Aa (λhl=>?_) (λhl=>?_)))))))))
   ·have hI:=AE hl hr;refine Al (wv (Ad Bm Aa Cf Aa Aa) (wv (Aq (i:=0) CC Aa Aa Aa) ?_));obtain⟨g15,hJ⟩:=Az hI;refine Ca (rs:=[rI .i64 ((At v i).fInt)]) (r:=rS (Lib.itoa ((At v i).fInt))) Tryz.call44 Aa (SN ((At v i).fInt) g15) Aa Aa (wa Aa (As (Ay (Af ?_))));obtain rfl:=A0 hJ;exact Ax (BG Nq (AM Aa)) (sS sN) ⟨Aa,Aa⟩
   ·have hs:=AF hl hr;refine Aw (AP (Am (Al (wv (Ad Bm Aa D4 Aa Aa) (wv (Aq (i:=0) D5 Aa Aa Aa) (wv (Bh Aa Aa) (As (Au (b:=decide (((At v i).fKind)=4)) Aa (λhm=>?_) (λhm=>?_)))))))))
    ·have hK:=AE hm hs;refine Al (wv (Ad Bm Aa BU Aa Aa) (wv (Aq (i:=0) Cg Aa Aa Aa) ?_));obtain⟨hL,hN,hO⟩:=AH hK;refine C9 Tryz.call66 (Je F ((At v i).fStr) hL hN) Aa (wa Aa (As (Ay (Af ?_))));obtain rfl:=A0 hO;exact Ax (BG Nq (AM Aa)) (sS sN) ⟨Aa,Aa⟩
    ·have hP:=AF hm hs;refine Aw (AP (Al (wv (r:=rS ([]:Ak)) (Ae Aa) (Bv (wm Aa ?_)))));obtain⟨hQ,hR⟩:=Az hP;refine wv (Bu Aa Aa hQ) (wa Aa (As (Am (Al (wv (r:=rI .i64 0) (Ae Aa) (As (AJ ?_)))))));obtain⟨hS,hT,hU⟩:=AH hR;refine B2 (S:=Nat×(Ak×Int×Int)×(Unit)) (V:=(Ak)×(Unit)) 0 (λσ=>Cn (λσ=>Do F v i hi σ.1 σ.2.1 σ.2.2) σ.1 σ.2.1=some hS) (λσ=>[(0,Bl 4 (List.map Ab v)),(4,rS ([]:Ak)),(5,rv (.pointer (some ⟨b3,0,none⟩))),(6,rS σ.2.1.1),(7,rI .i64 σ.2.1.2.1),(8,rI .i64 σ.2.1.2.2)]) (λσ=>[.blk b3 (Ab (At v i)) 50]) (λσ=>σ.1) (F,(([]:Ak),i+1,0),()) hT (AK.c Aa (AK.c5 Aa Aa Aa Aa Aa AK.nil)) (sC sN) (λσ=>EH v i σ.1=some r) (λσ=>[(4,rS ([]:Ak)),(5,rv (.pointer (some ⟨b3,0,none⟩))),(6,rS σ.1)]) (λσ=>[.blk b3 (Ab (At v i)) 50]) ?_ ?_
     ·rintro⟨cn,⟨he,ha,hd⟩,⟨⟩⟩ hV;refine AR (l':=[(0,Bl 4 (List.map Ab v)),(4,rS ([]:Ak)),(5,rv (.pointer (some ⟨b3,0,none⟩))),(6,rS he),(7,rI .i64 ha),(8,rI .i64 hd)]) (H':=[.blk b3 (Ab (At v i)) 50]) Aa Aa ?_;obtain⟨hk,rfl,hW,hf,hg⟩:=CM hV;replace hf:Do F v i hi he ha hd=some hW:=hf;unfold Do at hf;refine Am (Al (wm Aa (wv (Ad Bm Aa Cf Aa Aa) (wv (Aq (i:=0) CC Aa Aa Aa) (wv (C8 Aa Aa) (As (Au (b:=decide (hd<((At v i).fN))) Aa (λhn=>?_) (λhn=>?_))))))))
      ·have ht:=AE hn hf;refine Aw (AP (Am (AJ (Am (Al (wm Aa (wv (C1 Aa Aa) (As (Au (b:=decide (0<hd)) Aa (λho=>?_) (λho=>?_))))))))))
       ·have hX:=AE ho ht;refine Ai (wm Aa ?_);obtain⟨hY,hu⟩:=Az hX;refine wv (Cz Aa Aa hY) (wa Aa (As (Am (Al (wv (Ad Bm Aa D4 Aa Aa) (wv (Aq (i:=0) D5 Aa Aa Aa) (wv (Bh Aa Aa) (As (Au (b:=decide (((At v i).fKind)=6)) Aa (λc233=>?_) (λc233=>?_))))))))))
        ·have hZ:=AE c233 hu;refine Al (wm Aa (wm Aa (wm Aa ?_)));obtain⟨ga,gb⟩:=Az hZ;refine wv (BH (enc:=Ab) (ys:=v) BN Cm Aa Aa ga) (wv (BF Bm Aa BU Aa Aa) (wv (B7 Cg Aa Aa) ?_));obtain⟨hw,gc,gd⟩:=AH gb;refine C9 Tryz.call66 (Je F ((At v ha).fStr) hw gc) Aa ?_;obtain⟨ge,gf⟩:=Az gd;refine wv (Cz Aa Aa ge) ?_;obtain⟨gg,gh⟩:=Az gf;refine wv (Cz Aa Aa gg) (wa Aa (As (Ai (wm Aa ?_))));obtain⟨gi,gj⟩:=Az gh;refine wv (Bu Aa Aa gi) (wa Aa (Bv (wm Aa (wm Aa (wm Aa ?_)))));obtain⟨hx,gl,gm⟩:=AH gj;refine C9 OC (hj v (ha+1) hx gl) Aa ?_;obtain⟨gp,gq⟩:=Az gm;refine wv (Cz Aa Aa gp) (wa Aa (As (Ai (wm Aa (wm Aa ?_)))));obtain⟨hy,gr,gs⟩:=AH gq;refine C9 Kl (E0 F v (ha+1) hy gr) Aa (wa Aa (Aj (AG (AP (Ai (wm Aa ?_))))));obtain⟨gt,gu⟩:=Az gs;refine wv (Bu Aa Aa gt) (wa Aa (Aj ?_));have gv:=Bk gu hg;exact Ap (AI (hk,((((he++([44]:Ak))++hw)++([58]:Ak))++hx,hy,hd+1),()) ⟨gv,U0 _⟩ (AK.c Aa (AK.c5 Aa Aa Aa Aa Aa AK.nil)) (sC sN))
        ·have gw:=AF c233 hu;refine Aw (AP (Al (wm Aa (wm Aa (wm Aa ?_)))));obtain⟨hz,gx,gy⟩:=AH gw;refine C9 OC (hj v ha hz gx) Aa ?_;obtain⟨gz,g0⟩:=Az gy;refine wv (Cz Aa Aa gz) (wa Aa (As (Ai (wm Aa (wm Aa ?_)))));obtain⟨h0,g2,g3⟩:=AH g0;refine C9 Kl (E0 F v ha h0 g2) Aa (wa Aa (Aj (AG (AP (Ai (wm Aa ?_))))));obtain⟨g4,g5⟩:=Az g3;refine wv (Bu Aa Aa g4) (wa Aa (Aj ?_));have g6:=Bk g5 hg;exact Ap (AI (hk,((he++([44]:Ak))++hz,h0,hd+1),()) ⟨g6,U0 _⟩ (AK.c Aa (AK.c5 Aa Aa Aa Aa Aa AK.nil)) (sC sN))
       ·have h7:=AF ho ht;refine Aw (AP (Am (Al (wv (Ad Bm Aa D4 Aa Aa) (wv (Aq (i:=0) D5 Aa Aa Aa) (wv (Bh Aa Aa) (As (Au (b:=decide (((At v i).fKind)=6)) Aa (λhp=>?_) (λhp=>?_)))))))))
        ·have g7:=AE hp h7;refine Al (wm Aa (wm Aa (wm Aa ?_)));obtain⟨g8,g9⟩:=Az g7;refine wv (BH (enc:=Ab) (ys:=v) BN Cm Aa Aa g8) (wv (BF Bm Aa BU Aa Aa) (wv (B7 Cg Aa Aa) ?_));obtain⟨h9,gA,gB⟩:=AH g9;refine C9 Tryz.call66 (Je F ((At v ha).fStr) h9 gA) Aa ?_;obtain⟨gC,gD⟩:=Az gB;refine wv (Cz Aa Aa gC) ?_;obtain⟨gE,gF⟩:=Az gD;refine wv (Cz Aa Aa gE) (wa Aa (As (Ai (wm Aa ?_))));obtain⟨gG,gH⟩:=Az gF;refine wv (Bu Aa Aa gG) (wa Aa (Bv (wm Aa (wm Aa (wm Aa ?_)))));obtain⟨hA,gI,gJ⟩:=AH gH;refine C9 OC (hj v (ha+1) hA gI) Aa ?_;obtain⟨gK,gL⟩:=Az gJ;refine wv (Cz Aa Aa gK) (wa Aa (As (Ai (wm Aa (wm Aa ?_)))));obtain⟨hB,gM,gN⟩:=AH gL;refine C9 Kl (E0 F v (ha+1) hB gM) Aa (wa Aa (Aj (AG (AP (Ai (wm Aa ?_))))));obtain⟨gO,gP⟩:=Az gN;refine wv (Bu Aa Aa gO) (wa Aa (Aj ?_));have gQ:=Bk gP hg;exact Ap (AI (hk,(((he++h9)++([58]:Ak))++hA,hB,hd+1),()) ⟨gQ,U0 _⟩ (AK.c Aa (AK.c5 Aa Aa Aa Aa Aa AK.nil)) (sC sN))
        ·have gR:=AF hp h7;refine Aw (AP (Al (wm Aa (wm Aa (wm Aa ?_)))));obtain⟨hC,gS,gT⟩:=AH gR;refine C9 OC (hj v ha hC gS) Aa ?_;obtain⟨gU,gV⟩:=Az gT;refine wv (Cz Aa Aa gU) (wa Aa (As (Ai (wm Aa (wm Aa ?_)))));obtain⟨hD,gW,gX⟩:=AH gV;refine C9 Kl (E0 F v ha hD gW) Aa (wa Aa (Aj (AG (AP (Ai (wm Aa ?_))))));obtain⟨gY,gZ⟩:=Az gX;refine wv (Bu Aa Aa gY) (wa Aa (Aj ?_));have ca:=Bk gZ hg;exact Ap (AI (hk,(he++hC,hD,hd+1),()) ⟨ca,U0 _⟩ (AK.c Aa (AK.c5 Aa Aa Aa Aa Aa AK.nil)) (sC sN))
      ·have cb:=AF hn hf;refine B4 (A4 ?_);have cc:=Cv cb hg hU;exact A4 (Bt (AI (he,()) cc (AK.c Aa (AK.c Aa (AK.c Aa AK.nil))) (sC sN)))
     ·rintro⟨hE,⟨⟩⟩ hh;refine Dd (l':=[(4,rS ([]:Ak)),(5,rv (.pointer (some ⟨b3,0,none⟩))),(6,rS hE)]) (H':=[.blk b3 (Ab (At v i)) 50]) Aa Aa ?_;replace hh:EH v i hE=some r:=hh;unfold EH at hh;refine Bi (AP (Am (Al (wv (Ad Bm Aa D4 Aa Aa) (wv (Aq (i:=0) D5 Aa Aa Aa) (wv (Bh Aa Aa) (As (Au (b:=decide (((At v i).fKind)=6)) Aa (λhq=>?_) (λhq=>?_)))))))))
      ·have cd:=AE hq hh;refine Al (wm Aa ?_);obtain⟨ce,cf⟩:=Az cd;refine wv (Cz Aa Aa ce) ?_;obtain⟨cg,ch⟩:=Az cf;refine wv (Cz Aa Aa cg) (wa Aa (As (Ay (Af ?_))));obtain rfl:=A0 ch;exact Ax (BG Nq (AM Aa)) (sS sN) ⟨Aa,Aa⟩
      ·have ci:=AF hq hh;refine Aw (AP (Al (wm Aa ?_)));obtain⟨cj,ck⟩:=Az ci;refine wv (Cz Aa Aa cj) ?_;obtain⟨cl,cm⟩:=Az ck;refine wv (Cz Aa Aa cl) (wa Aa (As (Ay ?_)));obtain rfl:=A0 cm;exact Ax (BG Nq (AM Aa)) (sS sN) ⟨Aa,Aa⟩
theorem Ly:∀F:Nat,(∀(v:(List Ac)) (i:Int) (r:Ak),En F v i=some r→Fn Tryz.prog GE 45 [Bl 4 (List.map Ab v),rI .i64 i] [] (λR H=>R=rS r∧H=[]))
  | 0=>(λ_ _ _ h=>by simp[En] at h)
  | nn+1=>(λv i r h=>Qg nn (En nn) (Ly nn) v i r (by rw[En] at h;exact h))
theorem NY (F:Nat)(v:(List Ac))(i:Int)(r:Ak)(h:En F v i=some r):Fn Tryz.prog GE 45 [Bl 4 (List.map Ab v),rI .i64 i] [] (λR H=>R=rS r∧H=[]):=(Ly F) v i r h
theorem M8 (F:Nat)(v:(List Ac))(r:Int)(h:Jg F v=some r):Fn Tryz.prog GE 33 [Bl 4 (List.map Ab v)] [] (λR H=>R=rI .i64 r∧H=[]):=by
 refine enter (n:=61) Tryz.func33 Aa Tryz.ntmps33 Aa (λw Z=>?_);refine AR (l':=[(0,Bl 4 (List.map Ab v))]) (H':=[]) Aa Aa ?_;unfold Jg at h;refine Al (wv (r:=rI .i64 0) (Ae Aa) (As (Am (Al (wm Aa ?_)))));obtain⟨r1,e3,h2⟩:=AH h;refine C9 Tryz.call51 (OW F v r1 e3) Aa (wv (BL Aa) (As (Au (b:=!r1) Aa (λc4=>?_) (λc4=>?_))))
 ·have h5:=AE c4 h2;refine Al (wv (r:=rI .i64 1) (Ae Aa) (As (Ay (Af ?_))));obtain rfl:=A0 h5;exact Ax (BG OA (AM Aa)) sN ⟨Aa,Aa⟩
 ·have h6:=AF c4 h2;refine Aw (AP (Am (Al (wv (r:=rI .i64 0) (Ae Aa) (As (AJ ?_))))));obtain⟨h8,h9,hu⟩:=AH h6;refine B2 (S:=Nat×(Int)×(Unit)) (V:=(Unit)×(Unit)) 0 (λσ=>Cn (λσ=>Dz v σ) σ.1 σ.2.1=some h8) (λσ=>[(0,Bl 4 (List.map Ab v)),(3,rI .i64 σ.2.1)]) (λσ=>[]) (λσ=>σ.1) (F,0,()) h9 (AK.c Aa (AK.c Aa AK.nil)) sN (λσ=>Gy F v =some r) (λσ=>[(0,Bl 4 (List.map Ab v))]) (λσ=>[]) ?_ ?_
  ·rintro⟨gi,he,⟨⟩⟩ hA;refine AR (l':=[(0,Bl 4 (List.map Ab v)),(3,rI .i64 he)]) (H':=[]) Aa Aa ?_;obtain⟨hB,rfl,t46,hg,hl⟩:=CM hA;replace hg:Dz v he=some t46:=hg;unfold Dz at hg;refine Am (Al (wm Aa (wm Aa (wv (BB (ys:=v) (enc:=Ab) BN Aa) (wv (C8 Aa Aa) (As (Au (b:=decide (he<(v.length:Int))) Aa (λhm=>?_) (λhm=>?_))))))))
   ·have hC:=AE hm hg;refine Aw (AP (Am (AJ ?_)));obtain⟨hn,hw⟩:=Az hC;refine AB [(0,Bl 4 (List.map Ab v)),(3,rI .i64 he),(35,rB ((decide (((At v he).fKind)=3))&&((decide (((At v he).fInt)<(-1000000000000)))||(decide (1000000000000<((At v he).fInt))))))] [] ?_ ?_
    ·refine Ai (wm Aa (wm Aa (wv (BH (enc:=Ab) (ys:=v) BN Cm Aa Aa hn) (wv (BF Bm Aa D4 Aa Aa) (wv (B7 D5 Aa Aa) (wv (Bh Aa Aa) (wm Aa (A7 (decide (((At v he).fKind)=3)) (λha=>?_) (λha=>?_)))))))))
     ·refine wo ha (wm Aa (wo ha (wm Aa (wo ha (wv (BH (enc:=Ab) (ys:=v) BN Cm Aa Aa hn) (wo ha (wv (BF Bm Aa Cf Aa Aa) (wo ha (wv (B7 CC Aa Aa) (wo ha (wv (C8 Aa Aa) (wo ha (wm Aa (A7 (decide (((At v he).fInt)<(-1000000000000))) (λhd=>?_) (λhd=>?_)))))))))))))))
      ·refine wf hd (wf hd (wf hd (wf hd (wf hd (wf hd (wo ha (wv (r:=rB true) (Ao (b:=decide (((At v he).fInt)<(-1000000000000))) Aa hd Aa) (EA Aa ha Aa (Aj ?_)))))))));exact BO (And.intro ha hd)
      ·refine wo hd (wm Aa (wo hd (wm Aa (wo hd (wv (BH (enc:=Ab) (ys:=v) BN Cm Aa Aa hn) (wo hd (wv (BF Bm Aa Cf Aa Aa) (wo hd (wv (B7 CC Aa Aa) (wo hd (wv (C1 Aa Aa) (wo ha (ET Aa hd Aa (EA Aa ha Aa (Aj ?_)))))))))))))));exact BO (And.intro ha hd)
     ·refine wf ha (wf ha (wf ha (wf ha (wf ha (wf ha (wf ha (wu (wu (wu (wu (wu (wu (wf ha (wv (r:=rB false) (Ar (b:=decide (((At v he).fKind)=3)) Aa ha Aa) (Aj ?_)))))))))))))));exact BO ha
    refine Au (b:=((decide (((At v he).fKind)=3))&&((decide (((At v he).fInt)<(-1000000000000)))||(decide (1000000000000<((At v he).fInt)))))) Aa (λho=>?_) (λho=>?_)
    ·have hD:=AE ho hw;refine Al (wv (r:=rI .i64 2) (Ae Aa) (As (Ay (A5 (Af (Af (Bf ?_)))))));have hE:=B5 hD hl hu;refine A5 (Af ?_);obtain rfl:=A0 hE;exact Ax (BG OA (AM Aa)) sN ⟨Aa,Aa⟩
    ·have hG:=AF ho hw;refine Aw (AG (AP (Ai (wm Aa ?_))));obtain⟨hH,hI⟩:=Az hG;refine wv (Bu Aa Aa hH) (wa Aa (Aj ?_));have hJ:=Bk hI hl;exact Ap (AI (hB,he+1,()) ⟨hJ,U0 _⟩ (AK.c Aa (AK.c Aa AK.nil)) sN)
   ·have hK:=AF hm hg;refine B4 (A4 ?_);have hL:=Cv hK hl hu;exact A4 (Bt (AI ((),()) hL (AK.c Aa AK.nil) sN))
  ·rintro⟨⟨⟩,⟨⟩⟩ hj;refine Dd (l':=[(0,Bl 4 (List.map Ab v))]) (H':=[]) Aa Aa ?_;replace hj:Gy F v =some r:=hj;unfold Gy at hj;refine Bi (AP (Am ?_));obtain⟨hN,hx⟩:=Az hj;refine AB [(0,Bl 4 (List.map Ab v)),(43,rB ((decide (200<(v.length:Int)))||(decide (8<(ov (Cw F v 0))))))] [] ?_ ?_
   ·refine Ai (wm Aa (wv (BB (ys:=v) (enc:=Ab) BN Aa) (wv (C1 Aa Aa) (wm Aa (A7 (decide (200<(v.length:Int))) (λhf=>?_) (λhf=>?_))))))
    ·refine wf hf (wf hf (wf hf (wv (r:=rB true) (Ao (b:=decide (200<(v.length:Int))) Aa hf Aa) (Aj ?_))));exact BO hf
    ·refine wo hf (wm Aa (wo hf (C9 Tryz.call52 (OV F v 0 (ov (Cw F v 0)) (D9 (CG hN hf))) Aa (wo hf (wv (C1 Aa Aa) (ET Aa hf Aa (Aj ?_)))))));exact BO hf
   refine Au (b:=((decide (200<(v.length:Int)))||(decide (8<(ov (Cw F v 0)))))) Aa (λhp=>?_) (λhp=>?_)
   ·have hO:=AE hp hx;refine Al (wv (r:=rI .i64 3) (Ae Aa) (As (Ay (Af ?_))));obtain rfl:=A0 hO;exact Ax (BG OA (AM Aa)) sN ⟨Aa,Aa⟩
   ·have hP:=AF hp hx;refine Aw (AP (Am (Al (wv (r:=rI .i64 0) (Ae Aa) (As (AJ ?_))))));obtain⟨hQ,hR,hy⟩:=AH hP;refine B2 (S:=Nat×(Int)×(Unit)) (V:=(Unit)×(Unit)) 2 (λσ=>Cn (λσ=>Dy v σ) σ.1 σ.2.1=some hQ) (λσ=>[(0,Bl 4 (List.map Ab v)),(4,rI .i64 σ.2.1)]) (λσ=>[]) (λσ=>σ.1) (F,0,()) hR (AK.c Aa (AK.c Aa AK.nil)) sN (λσ=>Gx F v =some r) (λσ=>[(0,Bl 4 (List.map Ab v))]) (λσ=>[]) ?_ ?_
    ·rintro⟨gj,hh,⟨⟩⟩ hS;refine AR (l':=[(0,Bl 4 (List.map Ab v)),(4,rI .i64 hh)]) (H':=[]) Aa Aa ?_;obtain⟨hT,rfl,hU,hi,hq⟩:=CM hS;replace hi:Dy v hh=some hU:=hi;unfold Dy at hi;refine Am (Al (wm Aa (wm Aa (wv (BB (ys:=v) (enc:=Ab) BN Aa) (wv (C8 Aa Aa) (As (Au (b:=decide (hh<(v.length:Int))) Aa (λhr=>?_) (λhr=>?_))))))))
     ·have hV:=AE hr hi;refine Aw (AP (Am (AJ (Al (wm Aa (wm Aa ?_))))));obtain⟨hW,hz⟩:=Az hV;refine wv (BH (enc:=Ab) (ys:=v) BN Cm Aa Aa hW) (wv (BF Bm Aa BU Aa Aa) (wv (B7 Cg Aa Aa) (wv (AZ Ce Aa) (wv (C1 Aa Aa) (As (Au (b:=decide (200<(((At v hh).fStr).length:Int))) Aa (λhs=>?_) (λhs=>?_)))))))
      ·have hX:=AE hs hz;refine Al (wv (r:=rI .i64 3) (Ae Aa) (As (Ay (A5 (Af (Af (Bf ?_)))))));have hY:=B5 hX hq hy;refine A5 (Af ?_);obtain rfl:=A0 hY;exact Ax (BG OA (AM Aa)) sN ⟨Aa,Aa⟩
      ·have hZ:=AF hs hz;refine Aw (AG (AP (Ai (wm Aa ?_))));obtain⟨ga,gb⟩:=Az hZ;refine wv (Bu Aa Aa ga) (wa Aa (Aj ?_));have gc:=Bk gb hq;exact Ap (AI (hT,hh+1,()) ⟨gc,U0 _⟩ (AK.c Aa (AK.c Aa AK.nil)) sN)
     ·have gd:=AF hr hi;refine B4 (A4 ?_);have ge:=Cv gd hq hy;exact A4 (Bt (AI ((),()) ge (AK.c Aa AK.nil) sN))
    ·rintro⟨⟨⟩,⟨⟩⟩ hk;refine Dd (l':=[(0,Bl 4 (List.map Ab v))]) (H':=[]) Aa Aa ?_;replace hk:Gx F v =some r:=hk;unfold Gx at hk;refine Bi (AP (Am (Al (wm Aa ?_))));obtain⟨h0,gf,h7⟩:=AH hk;refine C9 OC (NY F v 0 h0 gf) Aa (wv (AZ Ce Aa) (wv (C1 Aa Aa) (As (Au (b:=decide (4000<(h0.length:Int))) Aa (λht=>?_) (λht=>?_)))))
     ·have gg:=AE ht h7;refine Al (wv (r:=rI .i64 3) (Ae Aa) (As (Ay (Af ?_))));obtain rfl:=A0 gg;exact Ax (BG OA (AM Aa)) sN ⟨Aa,Aa⟩
     ·have gh:=AF ht h7;refine Aw (AP (Al (wv (r:=rI .i64 0) (Ae Aa) (As (Ay ?_)))));obtain rfl:=A0 gh;exact Ax (BG OA (AM Aa)) sN ⟨Aa,Aa⟩
theorem OX (F:Nat)(v:(List Ac))(r:Ak×Int)(h:IA F v=some r):Fn Tryz.prog GE 22 [Bl 4 (List.map Ab v)] [] (λR H=>R=CV [rS r.1,rI .i64 r.2]∧H=[]):=by
 refine enter (n:=12) Tryz.func22 Aa Tryz.ntmps22 Aa (λw Z=>?_);refine AR (l':=[(0,Bl 4 (List.map Ab v))]) (H':=[]) Aa Aa ?_;unfold IA at h;refine Al (wv (r:=rS ([]:Ak)) (Ae Aa) (wv (r:=rI .i64 0) (Ae Aa) (Bv (wm Aa ?_))));obtain⟨r1,e3,h2⟩:=AH h;refine C9 Tryz.call33 (M8 F v r1 e3) Aa (wa Aa (As (Am (Al (wm Aa (wv (DB Aa Aa) (As (Au (b:=!decide (r1=0)) Aa (λc4=>?_) (λc4=>?_)))))))))
 ·have h5:=AE c4 h2;refine Al (wm Aa (wv (r:=rS ([]:Ak)) (Ae Aa) (wa Aa (As (Ay (Af ?_))))));obtain rfl:=A0 h5;exact Ax (El Tryz.results22 (AM Aa) (AM Aa)) sN ⟨Aa,Aa⟩
 ·have h6:=AF c4 h2;refine Aw (AP (Al (wm Aa ?_)));obtain⟨r7,e9,h8⟩:=AH h6;refine C9 OC (NY F v 0 r7 e9) Aa (wa Aa (wv (r:=rI .i64 0) (Ae Aa) (As (Ay ?_))));obtain rfl:=A0 h8;exact Ax (El Tryz.results22 (AM Aa) (AM Aa)) sN ⟨Aa,Aa⟩
end Go.Proofs.YtailcjmjkmjelaaGreatDoor.Q
namespace Go.Proofs.YtailcjmjkmjelaaGreatDoor
open Go
set_option linter.unusedVariables false
structure A3 where
 fPairs:Bool
 fLeft:Int
 fKey:Bool
 fLast:Ak
 fStarted:Bool
 deriving DecidableEq,Inhabited
structure A8 where
 fDepth:Int
 fBytes:Int
 fOutside:Bool
 fLong:Bool
 deriving DecidableEq,Inhabited
def Bx (n:Int):Option (Bool):=
 some ((decide ((-1000000000000)≤n))&&(decide (n≤1000000000000)))
def Gr (s:Ak)(ha:Int):Option (Stp (Int) (Out (Bool) (Unit))):=
 B1 (decide (ha<(s.length:Int))) (AW (Da ha (s.length:Int))<|B1 (((decide ((AY s ha)<32))||(decide (126<(AY s ha))))) (some (.out (.ret false))) (AW (B6 .i64 (ha+1))<|some (.next (ha+1)))) (some (.out (.go ())))
def Gq :Option (Bool):=
 some true
def Iv (F:Nat)(s:Ak):Option (Bool):=
 B3 (Cn (λσ=>Gr s σ) F 0) (BY λν=>Gq )
def H9 (s:Ak):Option (Int):=
 AW (B6 .i64 ((s.length:Int)+2))<|AW (B6 .i64 (((s.length:Int)+2)+(Lib.countByte s 34:Int)))<|AW (B6 .i64 ((((s.length:Int)+2)+(Lib.countByte s 34:Int))+(Lib.countByte s 92:Int)))<|some ((((s.length:Int)+2)+(Lib.countByte s 34:Int))+(Lib.countByte s 92:Int))
def Kw (F:Nat)(c:Ac):Option (Bool):=
 B1 (decide (c.fKind=1)) (some ((decide (c.fInt=0))&&((decide (c.fStr=([]:Ak)))&&(decide (c.fN=0))))) (B1 (decide (c.fKind=2)) (some (bif decide (c.fInt=0) then((decide (c.fStr=([]:Ak)))&&(decide (c.fN=0))) else((decide (c.fInt=1))&&((decide (c.fStr=([]:Ak)))&&(decide (c.fN=0)))))) (B1 (decide (c.fKind=3)) (some ((decide (c.fStr=([]:Ak)))&&(decide (c.fN=0)))) (B1 (decide (c.fKind=4)) (AW (imp (decide (c.fInt=0)) (imp (decide (c.fN=0)) ((Iv F c.fStr).isSome)))<|some ((decide (c.fInt=0))&&((decide (c.fN=0))&&(ov (Iv F c.fStr))))) (B1 (decide (c.fKind=5)) (some ((decide (c.fInt=0))&&((decide (c.fStr=([]:Ak)))&&(decide (0≤c.fN))))) (B1 (decide (c.fKind=6)) (some ((decide (c.fInt=0))&&((decide (c.fStr=([]:Ak)))&&(decide (0≤c.fN))))) (some false))))))
def Mu (c:Ac):Option (Int):=
 B1 (decide (c.fKind=1)) (some 4) (B1 (decide (c.fKind=2)) (some (IntKind.wrap .i64 (5-c.fInt))) (B1 (decide (c.fKind=3)) (AW (B6 .i64 c.fInt)<|some ((Lib.itoa c.fInt).length:Int)) (B1 (decide (c.fKind=4)) (B3 (H9 c.fStr) λha=>some ha) (some (IntKind.wrap .i64 (2+(max 0 (IntKind.wrap .i64 (c.fN-1)))))))))
def Dl (ha:(List A3)):Option (Stp ((List A3)) (Out ((List A3)) ((List A3)))):=
 B1 (decide (0<(ha.length:Int))) (AW (B6 .i64 ((ha.length:Int)-1))<|AW (Da ((ha.length:Int)-1) (ha.length:Int))<|AW (B6 .i64 (((At ha ((ha.length:Int)-1)).fLeft)-1))<|IX (List.set ha (Int.toNat ((ha.length:Int)-1)) (A3.mk ((At ha ((ha.length:Int)-1)).fPairs) (((At ha ((ha.length:Int)-1)).fLeft)-1) ((At ha ((ha.length:Int)-1)).fKey) ((At ha ((ha.length:Int)-1)).fLast) ((At ha ((ha.length:Int)-1)).fStarted))) λhd=>B1 (decide (0<((At hd ((ha.length:Int)-1)).fLeft))) (IX (List.set hd (Int.toNat ((ha.length:Int)-1)) (A3.mk ((At hd ((ha.length:Int)-1)).fPairs) ((At hd ((ha.length:Int)-1)).fLeft) ((At hd ((ha.length:Int)-1)).fPairs) ((At hd ((ha.length:Int)-1)).fLast) ((At hd ((ha.length:Int)-1)).fStarted))) λhe=>some (.out (.ret he))) (AW (B6 .i64 ((hd.length:Int)-1))<|AW (Hf ((hd.length:Int)-1) (hd.length:Int))<|some (.next (List.take (Int.toNat ((hd.length:Int)-1)) hd)))) (some (.out (.go ha)))
def DJ (ha:(List A3)):Option ((List A3)):=
 some ha
def I2 (F:Nat)(stack:(List A3)):Option ((List A3)):=
 B3 (Cn (λσ=>Dl σ) F stack) (BY λν=>DJ ν)
def D7 (ha:Int)(hd:(List A3))(he:A8):Option (Stp ((List A3)×Int×A8) (Out (Int×A8×Bool) (A8))):=
 AW (B6 .i64 (ha+1))<|some (.next (hd,ha+1,he))
def Dk (F:Nat)(v:(List Ac))(ha:(List A3))(hd:Int)(he:A8):Option (Stp ((List A3)×Int×A8) (Out (Int×A8×Bool) (A8))):=
 B1 (decide (hd<(v.length:Int))) (AW (Da hd (v.length:Int))<|B3 (Kw F (At v hd)) λhk=>B1 (!hk) (some (.out (.ret (0,he,false)))) (AW (imp (decide (0<(ha.length:Int))) (B6 .i64 ((ha.length:Int)-1)))<|AW (imp (decide (0<(ha.length:Int))) (Da ((ha.length:Int)-1) (ha.length:Int)))<|B1 (((decide (0<(ha.length:Int)))&&((At ha ((ha.length:Int)-1)).fKey))) (AW (B6 .i64 ((ha.length:Int)-1))<|AW (Da ((ha.length:Int)-1) (ha.length:Int))<|B1 (((!decide (((At v hd).fKind)=4))||(((At ha ((ha.length:Int)-1)).fStarted)&&(C2 ((At v hd).fStr) ((At ha ((ha.length:Int)-1)).fLast)||decide (((At v hd).fStr)=((At ha ((ha.length:Int)-1)).fLast)))))) (some (.out (.ret (0,he,false)))) (IX (List.set ha (Int.toNat ((ha.length:Int)-1)) (A3.mk ((At ha ((ha.length:Int)-1)).fPairs) ((At ha ((ha.length:Int)-1)).fLeft) ((At ha ((ha.length:Int)-1)).fKey) ((At v hd).fStr) ((At ha ((ha.length:Int)-1)).fStarted))) λhf=>IX (List.set hf (Int.toNat ((ha.length:Int)-1)) (A3.mk ((At hf ((ha.length:Int)-1)).fPairs) ((At hf ((ha.length:Int)-1)).fLeft) ((At hf ((ha.length:Int)-1)).fKey) ((At hf ((ha.length:Int)-1)).fLast) true)) λhg=>IX (List.set hg (Int.toNat ((ha.length:Int)-1)) (A3.mk ((At hg ((ha.length:Int)-1)).fPairs) ((At hg ((ha.length:Int)-1)).fLeft) false ((At hg ((ha.length:Int)-1)).fLast) ((At hg ((ha.length:Int)-1)).fStarted))) λhl=>B3 (H9 ((At v hd).fStr)) λhi=>AW (B6 .i64 (hi+1))<|D7 hd hl (A8.mk he.fDepth (IntKind.wrap .i64 (he.fBytes+(hi+1))) he.fOutside (he.fLong||(decide (200<(((At v hd).fStr).length:Int))))))) (AW (B6 .i64 ((ha.length:Int)+1))<|B3 (Mu (At v hd)) λhh=>AW (imp (!he.fOutside) (imp (decide (((At v hd).fKind)=3)) ((Bx ((At v hd).fInt)).isSome)))<|B1 (decide (0<((At v hd).fN))) (B1 (decide ((v.length:Int)<((At v hd).fN))) (some (.out (.ret (0,(A8.mk (max he.fDepth ((ha.length:Int)+1)) (IntKind.wrap .i64 (he.fBytes+hh)) (he.fOutside||((decide (((At v hd).fKind)=3))&&(!(ov (Bx ((At v hd).fInt)))))) (he.fLong||(decide (200<(((At v hd).fStr).length:Int))))),false)))) (AW (D1 48 (ha.length+([(A3.mk (decide (((At v hd).fKind)=6)) ((At v hd).fN) (decide (((At v hd).fKind)=6)) ([]:Ak) false)]:List A3).length))<|D7 hd (ha++([(A3.mk (decide (((At v hd).fKind)=6)) ((At v hd).fN) (decide (((At v hd).fKind)=6)) ([]:Ak) false)]:List A3)) (A8.mk (max he.fDepth ((ha.length:Int)+1)) (IntKind.wrap .i64 (he.fBytes+hh)) (he.fOutside||((decide (((At v hd).fKind)=3))&&(!(ov (Bx ((At v hd).fInt)))))) (he.fLong||(decide (200<(((At v hd).fStr).length:Int))))))) (B3 (I2 F ha) λhj=>B1 (decide ((hj.length:Int)=0)) (AW (B6 .i64 (hd+1))<|some (.out (.ret (hd+1,(A8.mk (max he.fDepth ((ha.length:Int)+1)) (IntKind.wrap .i64 (he.fBytes+hh)) (he.fOutside||((decide (((At v hd).fKind)=3))&&(!(ov (Bx ((At v hd).fInt)))))) (he.fLong||(decide (200<(((At v hd).fStr).length:Int))))),true)))) (D7 hd hj (A8.mk (max he.fDepth ((ha.length:Int)+1)) (IntKind.wrap .i64 (he.fBytes+hh)) (he.fOutside||((decide (((At v hd).fKind)=3))&&(!(ov (Bx ((At v hd).fInt)))))) (he.fLong||(decide (200<(((At v hd).fStr).length:Int)))))))))) (some (.out (.go he)))
def I0 (ha:A8):Option (Int×A8×Bool):=
 some (0,ha,false)
def Ha (F:Nat)(v:(List Ac)):Option (Int×A8×Bool):=
 B3 (Cn (λσ=>Dk F v σ.1 σ.2.1 σ.2.2) F (([]:List A3),0,(A8.mk 0 0 false false))) (BY λν=>I0 ν)
def Ig (F:Nat)(v:(List Ac)):Option (Int):=
 B3 (Ha F v) λr1=>B1 (((!r1.2.2)||(!decide (r1.1=(v.length:Int))))) (some 1) (B1 (r1.2.1.fOutside) (some 2) (B1 ((r1.2.1.fLong||((decide (200<(v.length:Int)))||((decide (8<r1.2.1.fDepth))||(decide (4000<r1.2.1.fBytes)))))) (some 3) (some 0)))
def K1 (F:Nat)(v:(List Ac)):Option ((List Ac)×Int):=
 B3 (Ig F v) λr1=>B1 (!decide (r1=0)) (some (([]:List Ac),r1)) (some (v,0))
end Go.Proofs.YtailcjmjkmjelaaGreatDoor
namespace Go.Proofs.YtailcjmjkmjelaaGreatDoor.Q
open Go Go.RowKit
set_option linter.unusedVariables false
set_option linter.unusedSimpArgs false
set_option maxRecDepth 100000
set_option maxHeartbeats 4000000
@[reducible] def A1 (x:A3):List Rp:=[rB x.fPairs,rI .i64 x.fLeft,rB x.fKey,rS x.fLast,rB x.fStarted]
theorem Hg (x:A3):(A1 x).length=5:=rfl
theorem JQ (x:A3):(A1 x).all (·.one)=true:=rfl
@[reducible] def AN (x:A8):List Rp:=[rI .i64 x.fDepth,rI .i64 x.fBytes,rB x.fOutside,rB x.fLong]
theorem RO:∃inf,Tryz.prog.info? 104=some inf∧inf.zero=some (.agg #[(.bool false),(.int .i64 0),(.bool false),(.string ⟨#[]⟩),(.bool false)])∧inf.size=5∧inf.bytes=48:=by
  have key:(Tryz.prog.info? 104).map (λi=>(i.zero,i.size,i.bytes))=some (some (.agg #[(.bool false),(.int .i64 0),(.bool false),(.string ⟨#[]⟩),(.bool false)]),5,48):=by kernel_rfl
  obtain⟨inf,h1,h2⟩:=Option.map_eq_some_iff.1 key;simp only[Prod.mk.injEq] at h2;exact⟨inf,h1,h2.1,h2.2.1,h2.2.2⟩
theorem Rd (parts:List (Nat×Value)):Tryz.prog.built 104 parts=Instr.fill (λi=>(#[(0,1),(1,1),(2,1),(3,1),(4,1)]:Array (Nat×Nat))[i]?) #[(.bool false),(.int .i64 0),(.bool false),(.string ⟨#[]⟩),(.bool false)] parts:=by kernel_rfl
theorem Jk {n:Nat}{c:Cx}{l:Fr}{H:List Ent}{d:Option Nat}{ty:TypeId}{pos:String}{af:Array Edge}{g:Option (Nat×Bool)}{x0:Operand}{r0:Rp}(h0:ev l x0=some r0)(u0:r0.one=true){x1:Operand}{r1:Rp}(h1:ev l x1=some r1)(u1:r1.one=true){x2:Operand}{r2:Rp}(h2:ev l x2=some r2)(u2:r2.one=true):Bd Tryz.prog n c l H { dst:=d,op:=.build 104 #[(0,x0),(1,x1),(2,x2)],type:=ty,pos:=pos,after:=af,guard:=g } (Bo [r0,r1,r2,rS ([]:Ak),rB false]):=λa w Z ha _=>by
  have p0:=ha.ev h0;have c0:=Bw (r0.hone u0 Z _ p0);have p1:=ha.ev h1;have c1:=Bw (r1.hone u1 Z _ p1);have p2:=ha.ev h2;have c2:=Bw (r2.hone u2 Z _ p2);have hb:Tryz.prog.built 104 [(0,a.eval x0),(1,a.eval x1),(2,a.eval x2)]=some #[a.eval x0,a.eval x1,a.eval x2,(.string ⟨#[]⟩),(.bool false)]:=by
    rw[Rd];generalize a.eval x0=v0 at *;generalize a.eval x1=v1 at *;generalize a.eval x2=v2 at *;simp[Instr.fill,c0,c1,c2]
  refine⟨.agg #[a.eval x0,a.eval x1,a.eval x2,(.string ⟨#[]⟩),(.bool false)],⟨[a.eval x0,a.eval x1,a.eval x2,(.string ⟨#[]⟩),(.bool false)],rfl,p0,p1,p2,rfl,rfl,trivial⟩,?_⟩;have:=run_build w 104 #[(0,a.eval x0),(1,a.eval x1),(2,a.eval x2)] _ (by simpa using hb);simp[execOp,this]
theorem Q1 (n:Int)(r:Bool)(h:Bx n=some r):Fn Tryz.prog GE 55 [rI .i64 n] [] (λR H=>R=rB r∧H=[]):=by
 refine enter (n:=9) Tryz.func55 Aa Tryz.ntmps55 Aa (λw Z=>?_);refine AR (l':=[(0,rI .i64 n)]) (H':=[]) Aa Aa ?_;unfold Bx at h;refine Al (wv (r:=rB false) (Ae Aa) (As (AB [(2,rB ((decide ((-1000000000000)≤n))&&(decide (n≤1000000000000))))] [] ?_ ?_)))
 ·refine Ai (wm Aa (wv (Jj Aa Aa) (wm Aa (A7 (decide ((-1000000000000)≤n)) (λc1=>?_) (λc1=>?_)))))
  ·refine wo c1 (wm Aa (wo c1 (wv (Jj Aa Aa) (EA Aa c1 Aa (wa Aa (Aj ?_))))));exact BO c1
  ·refine wf c1 (wf c1 (wv (r:=rB false) (Ar (b:=decide ((-1000000000000)≤n)) Aa c1 Aa) (wa Aa (Aj ?_))));exact BO c1
 refine Ay ?_;obtain rfl:=A0 h;exact Ax (BG Tryz.results55 (AM Aa)) sN ⟨Aa,Aa⟩
theorem Ry (F:Nat)(s:Ak)(r:Bool)(h:Iv F s=some r):Fn Tryz.prog GE 102 [rS s] [] (λR H=>R=rB r∧H=[]):=by
 refine enter (n:=20) Tryz.func102 Aa Tryz.ntmps102 Aa (λw Z=>?_);refine AR (l':=[(0,rS s)]) (H':=[]) Aa Aa ?_;unfold Iv at h;refine Al (wv (r:=rB false) (Ae Aa) (As (Am (Al (wm Aa (wv (AZ Ce Aa) (wv (r:=rI .i64 0) (Ah Aa) (As (AJ ?_)))))))));obtain⟨hm,hn,hj⟩:=AH h;refine B2 (S:=Nat×(Int)×(Unit)) (V:=(Unit)×(Unit)) 0 (λσ=>Cn (λσ=>Gr s σ) σ.1 σ.2.1=some hm) (λσ=>[(0,rS s),(5,rI .i64 (s.length:Int)),(6,rI .i64 σ.2.1)]) (λσ=>[]) (λσ=>σ.1) (F,0,()) hn (AK.c Aa (AK.c Aa (AK.c Aa AK.nil))) sN (λσ=>Gq =some r) (λσ=>[]) (λσ=>[]) ?_ ?_
 ·rintro⟨h0,hd,⟨⟩⟩ ho;refine AR (l':=[(0,rS s),(5,rI .i64 (s.length:Int)),(6,rI .i64 hd)]) (H':=[]) Aa Aa ?_;obtain⟨hp,rfl,t37,he,hg⟩:=CM ho;replace he:Gr s hd=some t37:=he;unfold Gr at he;refine Al (wv (C8 Aa Aa) (As (Am (Au (b:=decide (hd<(s.length:Int))) Aa (λhh=>?_) (λhh=>?_)))))
  ·have hq:=AE hh he;refine Aw (AP (Am (AJ (Al (wm Aa (wa Aa (As ?_)))))));obtain⟨hk,hl⟩:=Az hq;refine AB [(0,rS s),(5,rI .i64 (s.length:Int)),(6,rI .i64 hd),(18,rB ((decide ((AY s hd)<32))||(decide (126<(AY s hd)))))] [] ?_ ?_
   ·refine Ai (wm Aa (wm Aa (wv (Bb Ce Aa Aa hk) (wv (C8 Aa Aa) (wm Aa (A7 (decide ((AY s hd)<32)) (λha=>?_) (λha=>?_)))))))
    ·refine wf ha (wf ha (wf ha (wf ha (wv (r:=rB true) (Ao (b:=decide ((AY s hd)<32)) Aa ha Aa) (Aj ?_)))));exact BO ha
    ·refine wo ha (wm Aa (wo ha (wm Aa (wo ha (wv (Bb Ce Aa Aa hk) (wo ha (wv (C1 Aa Aa) (ET Aa ha Aa (Aj ?_)))))))));exact BO ha
   refine Au (b:=((decide ((AY s hd)<32))||(decide (126<(AY s hd))))) Aa (λhi=>?_) (λhi=>?_)
   ·have hr:=AE hi hl;refine Al (wv (r:=rB false) (Ae Aa) (As (Ay (A5 (Af (Af (Bf ?_)))))));have hs:=B5 hr hg hj;refine A5 (Af ?_);obtain rfl:=A0 hs;exact Ax (BG Tryz.results102 (AM Aa)) sN ⟨Aa,Aa⟩
   ·have ht:=AF hi hl;refine Aw (AG (AP (Ai ?_)));obtain⟨hu,hw⟩:=Az ht;refine wv (Bu Aa Aa hu) (wm Aa (Aj ?_));have hx:=Bk hw hg;exact Ap (AI (hp,hd+1,()) ⟨hx,U0 _⟩ (AK.c Aa (AK.c Aa (AK.c Aa AK.nil))) sN)
  ·have hy:=AF hh he;refine B4 (A4 ?_);have hz:=Cv hy hg hj;exact A4 (Bt (AI ((),()) hz AK.nil sN))
 ·rintro⟨⟨⟩,⟨⟩⟩ hf;refine Dd (l':=[]) (H':=[]) Aa Aa ?_;replace hf:Gq =some r:=hf;unfold Gq at hf;refine Bi (AP (Al (wv (r:=rB true) (Ae Aa) (As (Ay ?_)))));obtain rfl:=A0 hf;exact Ax (BG Tryz.results102 (AM Aa)) sN ⟨Aa,Aa⟩
theorem Ls (s:Ak)(r:Int)(h:H9 s=some r):Fn Tryz.prog GE 76 [rS s] [] (λR H=>R=rI .i64 r∧H=[]):=by
 refine enter (n:=12) Tryz.func76 Aa Tryz.ntmps76 Aa (λw Z=>?_);refine AR (l':=[(0,rS s)]) (H':=[]) Aa Aa ?_;unfold H9 at h;refine Al (wv (r:=rI .i64 0) (Ae Aa) (Bv (wm Aa (wv (AZ Ce Aa) ?_))));obtain⟨g1,h2⟩:=Az h;refine wv (Bu Aa Aa g1) (wm Aa (Ca (rs:=[rS s,rS ([34]:Ak)]) (r:=rI .i64 (Lib.countByte s 34:Int)) Tryz.call103 Aa (O3 s 34) Aa Aa ?_));obtain⟨g3,h4⟩:=Az h2;refine wv (Bu Aa Aa g3) (wm Aa (Ca (rs:=[rS s,rS ([92]:Ak)]) (r:=rI .i64 (Lib.countByte s 92:Int)) Tryz.call103 Aa (O3 s 92) Aa Aa ?_));obtain⟨g5,h6⟩:=Az h4;refine wv (Bu Aa Aa g5) (wa Aa (As (Ay ?_)));obtain rfl:=A0 h6;exact Ax (BG Tryz.results76 (AM Aa)) sN ⟨Aa,Aa⟩
theorem PX (F:Nat)(c:Ac)(r:Bool)(h:Kw F c=some r):Fn Tryz.prog GE 75 [Bo (Ab c)] [] (λR H=>R=rB r∧H=[]):=by
 refine enter (n:=81) Tryz.func75 Aa Tryz.ntmps75 Aa (λw Z=>?_);refine AR (l':=[(0,Bo (Ab c))]) (H':=[]) Aa Aa ?_;unfold Kw at h;refine Al (BP Aa Aa (λb1=>?_));refine wv (r:=rB false) (Ae Aa) (As (Am (Al (wv (Ad Bm Aa D4 Aa Aa) (wv (Aq (i:=0) D5 Aa Aa Aa) (As (AJ (Al (wv (Bh Aa Aa) (wa Aa (As (Au (b:=decide (c.fKind=1)) Aa (λc2=>?_) (λc2=>?_)))))))))))))
 ·have h3:=AE c2 h;refine AB [(2,rB ((decide (c.fInt=0))&&((decide (c.fStr=([]:Ak)))&&(decide (c.fN=0)))))] [] ?_ ?_
  ·refine Ai (wv (Ad Bm Aa Cf Aa Aa) (wv (Aq (i:=0) CC Aa Aa Aa) (wv (Bh Aa Aa) (wm Aa (A7 (decide (c.fInt=0)) (λc4=>?_) (λc4=>?_))))))
   ·refine wo c4 (wv (Ad Bm Aa BU Aa Aa) (wo c4 (wv (Aq (i:=0) Cg Aa Aa Aa) (wo c4 (wv (Co Aa Aa) (EA Aa c4 Aa (wm Aa (A7 (decide (c.fStr=([]:Ak))) (λc5=>?_) (λc5=>?_)))))))))
    ·refine wo c5 (wv (Ad Bm Aa Cf Aa Aa) (wo c5 (wv (Aq (i:=0) CC Aa Aa Aa) (wo c5 (wv (Bh Aa Aa) (EA Aa c5 Aa (wa Aa (Aj ?_))))))));exact BO (And.intro c4 c5)
    ·refine wf c5 (wf c5 (wf c5 (wv (r:=rB false) (Ar (b:=decide (c.fStr=([]:Ak))) Aa c5 Aa) (wa Aa (Aj ?_)))));exact BO (And.intro c4 c5)
   ·refine wf c4 (wf c4 (wf c4 (wv (r:=rB false) (Ar (b:=decide (c.fInt=0)) Aa c4 Aa) (wm Aa (Ag (b:=false) Aa Aa Aa Aa (Ag (b:=false) Aa Aa Aa Aa (Ag (b:=false) Aa Aa Aa Aa (wv (r:=rB false) (Ar (b:=false) Aa Aa Aa) (wa Aa (Aj ?_))))))))));exact BO c4
  refine Ay (A5 (Af ?_));obtain rfl:=A0 h3;exact Ax (BG Np (AM Aa)) sN ⟨Aa,Aa⟩
 ·have h6:=AF c2 h;refine Al (wv (Bh Aa Aa) (wa Aa (As (Au (b:=decide (c.fKind=2)) Aa (λc7=>?_) (λc7=>?_)))))
  ·have h8:=AE c7 h6;refine AB [(2,rB (bif decide (c.fInt=0) then((decide (c.fStr=([]:Ak)))&&(decide (c.fN=0))) else((decide (c.fInt=1))&&((decide (c.fStr=([]:Ak)))&&(decide (c.fN=0))))))] [] ?_ ?_
   ·refine Ai (wv (Ad Bm Aa Cf Aa Aa) (wv (Aq (i:=0) CC Aa Aa Aa) (wv (Bh Aa Aa) (wm Aa (A7 (decide (c.fInt=0)) (λc9=>?_) (λc9=>?_))))))
    ·refine wf c9 (wf c9 (wf c9 (wv (r:=rB true) (Ao (b:=decide (c.fInt=0)) Aa c9 Aa) (wm Aa (AQ (b:=true) Aa Aa Aa (wv (Ad Bm Aa BU Aa Aa) (AQ (b:=true) Aa Aa Aa (wv (Aq (i:=0) Cg Aa Aa Aa) (AQ (b:=true) Aa Aa Aa (wv (Co Aa Aa) (wv (r:=rB (decide (c.fStr=([]:Ak)))) (Ao (b:=true) Aa Aa Aa) (wm Aa (A7 (decide (c.fStr=([]:Ak))) (λhh=>?_) (λhh=>?_))))))))))))))
     ·refine wo hh (wv (Ad Bm Aa Cf Aa Aa) (wo hh (wv (Aq (i:=0) CC Aa Aa Aa) (wo hh (wv (Bh Aa Aa) (EA Aa hh Aa (wa Aa (Aj ?_))))))));exact BO (And.intro c9 hh)
     ·refine wf hh (wf hh (wf hh (wv (r:=rB false) (Ar (b:=decide (c.fStr=([]:Ak))) Aa hh Aa) (wa Aa (Aj ?_)))));exact BO (And.intro c9 hh)
    ·refine wo c9 (wv (Ad Bm Aa Cf Aa Aa) (wo c9 (wv (Aq (i:=0) CC Aa Aa Aa) (wo c9 (wv (Bh Aa Aa) (ET Aa c9 Aa (wm Aa (A7 (decide (c.fInt=1)) (λhd=>?_) (λhd=>?_)))))))))
     ·refine wo hd (wv (Ad Bm Aa BU Aa Aa) (wo hd (wv (Aq (i:=0) Cg Aa Aa Aa) (wo hd (wv (Co Aa Aa) (EA Aa hd Aa (wm Aa (A7 (decide (c.fStr=([]:Ak))) (λhi=>?_) (λhi=>?_)))))))))
      ·refine wo hi (wv (Ad Bm Aa Cf Aa Aa) (wo hi (wv (Aq (i:=0) CC Aa Aa Aa) (wo hi (wv (Bh Aa Aa) (EA Aa hi Aa (wa Aa (Aj ?_))))))));exact BO (And.intro c9 (And.intro hd hi))
      ·refine wf hi (wf hi (wf hi (wv (r:=rB false) (Ar (b:=decide (c.fStr=([]:Ak))) Aa hi Aa) (wa Aa (Aj ?_)))));exact BO (And.intro c9 (And.intro hd hi))
     ·refine wf hd (wf hd (wf hd (wv (r:=rB false) (Ar (b:=decide (c.fInt=1)) Aa hd Aa) (wm Aa (Ag (b:=false) Aa Aa Aa Aa (Ag (b:=false) Aa Aa Aa Aa (Ag (b:=false) Aa Aa Aa Aa (wv (r:=rB false) (Ar (b:=false) Aa Aa Aa) (wa Aa (Aj ?_))))))))));exact BO (And.intro c9 hd)
   refine Ay (A5 (Af ?_));obtain rfl:=A0 h8;exact Ax (BG Np (AM Aa)) sN ⟨Aa,Aa⟩
  ·have hq:=AF c7 h6;refine Al (wv (Bh Aa Aa) (wa Aa (As (Au (b:=decide (c.fKind=3)) Aa (λhn=>?_) (λhn=>?_)))))
   ·have hu:=AE hn hq;refine AB [(2,rB ((decide (c.fStr=([]:Ak)))&&(decide (c.fN=0))))] [] ?_ ?_
    ·refine Ai (wv (Ad Bm Aa BU Aa Aa) (wv (Aq (i:=0) Cg Aa Aa Aa) (wv (Co Aa Aa) (wm Aa (A7 (decide (c.fStr=([]:Ak))) (λhj=>?_) (λhj=>?_))))))
     ·refine wo hj (wv (Ad Bm Aa Cf Aa Aa) (wo hj (wv (Aq (i:=0) CC Aa Aa Aa) (wo hj (wv (Bh Aa Aa) (EA Aa hj Aa (wa Aa (Aj ?_))))))));exact BO hj
     ·refine wf hj (wf hj (wf hj (wv (r:=rB false) (Ar (b:=decide (c.fStr=([]:Ak))) Aa hj Aa) (wa Aa (Aj ?_)))));exact BO hj
    refine Ay (A5 (Af ?_));obtain rfl:=A0 hu;exact Ax (BG Np (AM Aa)) sN ⟨Aa,Aa⟩
   ·have hr:=AF hn hq;refine Al (wv (Bh Aa Aa) (wa Aa (As (Au (b:=decide (c.fKind=4)) Aa (λho=>?_) (λho=>?_)))))
    ·have hw:=AE ho hr;obtain⟨hx,hy⟩:=Az hw;refine AB [(2,rB ((decide (c.fInt=0))&&((decide (c.fN=0))&&(ov (Iv F c.fStr)))))] [] ?_ ?_
     ·refine Ai (wv (Ad Bm Aa Cf Aa Aa) (wv (Aq (i:=0) CC Aa Aa Aa) (wv (Bh Aa Aa) (wm Aa (A7 (decide (c.fInt=0)) (λha=>?_) (λha=>?_))))))
      ·refine wo ha (wv (Ad Bm Aa Cf Aa Aa) (wo ha (wv (Aq (i:=0) CC Aa Aa Aa) (wo ha (wv (Bh Aa Aa) (EA Aa ha Aa (wm Aa (A7 (decide (c.fN=0)) (λhe=>?_) (λhe=>?_)))))))))
       ·refine wo he (wv (Ad Bm Aa BU Aa Aa) (wo he (wv (Aq (i:=0) Cg Aa Aa Aa) (wo he (C9 Tryz.call102 (Ry F c.fStr (ov (Iv F c.fStr)) (D9 (Ch (Ch hx ha) he))) Aa (EA Aa he Aa (wa Aa (Aj ?_))))))));exact BO (And.intro ha he)
       ·refine wf he (wf he (wf he (wv (r:=rB false) (Ar (b:=decide (c.fN=0)) Aa he Aa) (wa Aa (Aj ?_)))));exact BO (And.intro ha he)
      ·refine wf ha (wf ha (wf ha (wv (r:=rB false) (Ar (b:=decide (c.fInt=0)) Aa ha Aa) (wm Aa (Ag (b:=false) Aa Aa Aa Aa (Ag (b:=false) Aa Aa Aa Aa (Ag (b:=false) Aa Aa Aa Aa (wv (r:=rB false) (Ar (b:=false) Aa Aa Aa) (wa Aa (Aj ?_))))))))));exact BO ha
     refine Ay (A5 (Af ?_));obtain rfl:=A0 hy;exact Ax (BG Np (AM Aa)) sN ⟨Aa,Aa⟩
    ·have hs:=AF ho hr;refine Am (Al (wv (Bh Aa Aa) (wa Aa (As (Au (b:=decide (c.fKind=5)) Aa (λhm=>?_) (λhm=>?_))))))
     ·have hz:=AE hm hs;refine Aw (AP (Ed Aa hm (AB [(2,rB ((decide (c.fInt=0))&&((decide (c.fStr=([]:Ak)))&&(decide (0≤c.fN)))))] [] ?_ ?_)))
      ·refine Ai (wv (Ad Bm Aa Cf Aa Aa) (wv (Aq (i:=0) CC Aa Aa Aa) (wv (Bh Aa Aa) (wm Aa (A7 (decide (c.fInt=0)) (λhf=>?_) (λhf=>?_))))))
       ·refine wo hf (wv (Ad Bm Aa BU Aa Aa) (wo hf (wv (Aq (i:=0) Cg Aa Aa Aa) (wo hf (wv (Co Aa Aa) (EA Aa hf Aa (wm Aa (A7 (decide (c.fStr=([]:Ak))) (λhk=>?_) (λhk=>?_)))))))))
        ·refine wo hk (wv (Ad Bm Aa Cf Aa Aa) (wo hk (wv (Aq (i:=0) CC Aa Aa Aa) (wo hk (wv (ER Aa Aa) (EA Aa hk Aa (wa Aa (Aj ?_))))))));exact BO (And.intro hf hk)
        ·refine wf hk (wf hk (wf hk (wv (r:=rB false) (Ar (b:=decide (c.fStr=([]:Ak))) Aa hk Aa) (wa Aa (Aj ?_)))));exact BO (And.intro hf hk)
       ·refine wf hf (wf hf (wf hf (wv (r:=rB false) (Ar (b:=decide (c.fInt=0)) Aa hf Aa) (wm Aa (Ag (b:=false) Aa Aa Aa Aa (Ag (b:=false) Aa Aa Aa Aa (Ag (b:=false) Aa Aa Aa Aa (wv (r:=rB false) (Ar (b:=false) Aa Aa Aa) (wa Aa (Aj ?_))))))))));exact BO hf
      refine Ay (A5 (Af ?_));obtain rfl:=A0 hz;exact Ax (BG Np (AM Aa)) sN ⟨Aa,Aa⟩
     ·have ht:=AF hm hs;refine Ai (wv (Bh Aa Aa) (wa Aa (As (Au (b:=decide (c.fKind=6)) Aa (λhp=>?_) (λhp=>?_)))))
      ·have h0:=AE hp ht;refine AB [(2,rB ((decide (c.fInt=0))&&((decide (c.fStr=([]:Ak)))&&(decide (0≤c.fN)))))] [] ?_ ?_
       ·refine Ai (wv (Ad Bm Aa Cf Aa Aa) (wv (Aq (i:=0) CC Aa Aa Aa) (wv (Bh Aa Aa) (wm Aa (A7 (decide (c.fInt=0)) (λhg=>?_) (λhg=>?_))))))
        ·refine wo hg (wv (Ad Bm Aa BU Aa Aa) (wo hg (wv (Aq (i:=0) Cg Aa Aa Aa) (wo hg (wv (Co Aa Aa) (EA Aa hg Aa (wm Aa (A7 (decide (c.fStr=([]:Ak))) (λhl=>?_) (λhl=>?_)))))))))
         ·refine wo hl (wv (Ad Bm Aa Cf Aa Aa) (wo hl (wv (Aq (i:=0) CC Aa Aa Aa) (wo hl (wv (ER Aa Aa) (EA Aa hl Aa (wa Aa (Aj ?_))))))));exact BO (And.intro hg hl)
         ·refine wf hl (wf hl (wf hl (wv (r:=rB false) (Ar (b:=decide (c.fStr=([]:Ak))) Aa hl Aa) (wa Aa (Aj ?_)))));exact BO (And.intro hg hl)
        ·refine wf hg (wf hg (wf hg (wv (r:=rB false) (Ar (b:=decide (c.fInt=0)) Aa hg Aa) (wm Aa (Ag (b:=false) Aa Aa Aa Aa (Ag (b:=false) Aa Aa Aa Aa (Ag (b:=false) Aa Aa Aa Aa (wv (r:=rB false) (Ar (b:=false) Aa Aa Aa) (wa Aa (Aj ?_))))))))));exact BO hg
       refine Ay (A5 (Af ?_));obtain rfl:=A0 h0;exact Ax (BG Np (AM Aa)) sN ⟨Aa,Aa⟩
      ·have h7:=AF hp ht;refine Aw (AG (AP (Al (wv (r:=rB false) (Ae Aa) (As (Ay ?_))))));obtain rfl:=A0 h7;exact Ax (BG Np (AM Aa)) (sS sN) ⟨Aa,Aa⟩
theorem Rz (c:Ac)(r:Int)(h:Mu c=some r):Fn Tryz.prog GE 77 [Bo (Ab c)] [] (λR H=>R=rI .i64 r∧H=[]):=by
 refine enter (n:=28) Tryz.func77 Aa Tryz.ntmps77 Aa (λw Z=>?_);refine AR (l':=[(0,Bo (Ab c))]) (H':=[]) Aa Aa ?_;unfold Mu at h;refine Al (BP Aa Aa (λb1=>?_));refine wv (r:=rI .i64 0) (Ae Aa) (As (Am (Al (wv (Ad Bm Aa D4 Aa Aa) (wv (Aq (i:=0) D5 Aa Aa Aa) (As (AJ (Al (wv (Bh Aa Aa) (wa Aa (As (Au (b:=decide (c.fKind=1)) Aa (λc2=>?_) (λc2=>?_)))))))))))))
 ·have h3:=AE c2 h;refine Al (wv (r:=rI .i64 4) (Ae Aa) (As (Ay (A5 (Af ?_)))));obtain rfl:=A0 h3;exact Ax (BG PK (AM Aa)) (sS sN) ⟨Aa,Aa⟩
 ·have h4:=AF c2 h;refine Al (wv (Bh Aa Aa) (wa Aa (As (Au (b:=decide (c.fKind=2)) Aa (λc5=>?_) (λc5=>?_)))))
  ·have h6:=AE c5 h4;refine Al (wv (Ad Bm Aa Cf Aa Aa) (wv (Aq (i:=0) CC Aa Aa Aa) (wv (r:=rI .i64 (IntKind.wrap .i64 (5-c.fInt))) (Qt Aa Aa) (wa Aa (As (Ay (A5 (Af ?_))))))));obtain rfl:=A0 h6;exact Ax (BG PK (AM Aa)) (sS sN) ⟨Aa,Aa⟩
  ·have h7:=AF c5 h4;refine Al (wv (Bh Aa Aa) (wa Aa (As (Au (b:=decide (c.fKind=3)) Aa (λc8=>?_) (λc8=>?_)))))
   ·have h9:=AE c8 h7;refine Al (wv (Ad Bm Aa Cf Aa Aa) (wv (Aq (i:=0) CC Aa Aa Aa) ?_));obtain⟨he,hf⟩:=Az h9;refine Ca (rs:=[rI .i64 c.fInt]) (r:=rS (Lib.itoa c.fInt)) Tryz.call20 Aa (KM c.fInt he) Aa Aa (wv (AZ Ce Aa) (wa Aa (As (Ay (A5 (Af ?_))))));obtain rfl:=A0 hf;exact Ax (BG PK (AM Aa)) (sS sN) ⟨Aa,Aa⟩
   ·have hd:=AF c8 h7;refine Al (wv (Bh Aa Aa) (wa Aa (As (Au (b:=decide (c.fKind=4)) Aa (λha=>?_) (λha=>?_)))))
    ·have hg:=AE ha hd;refine Al (wv (Ad Bm Aa BU Aa Aa) (wv (Aq (i:=0) Cg Aa Aa Aa) ?_));obtain⟨hh,hi,hj⟩:=AH hg;refine C9 Tryz.call76 (Ls c.fStr hh hi) Aa (wa Aa (As (Ay (A5 (Af ?_)))));obtain rfl:=A0 hj;exact Ax (BG PK (AM Aa)) (sS sN) ⟨Aa,Aa⟩
    ·have hk:=AF ha hd;refine Aw (AG (AP (Al (wv (Ad Bm Aa Cf Aa Aa) (wv (Aq (i:=0) CC Aa Aa Aa) (wv (r:=rI .i64 (IntKind.wrap .i64 (c.fN-1))) (Qt Aa Aa) (wv (Sr Nk Aa Aa) (wv (r:=rI .i64 (IntKind.wrap .i64 (2+(max 0 (IntKind.wrap .i64 (c.fN-1)))))) (LT Aa Aa) (wa Aa (As (Ay ?_)))))))))));obtain rfl:=A0 hk;exact Ax (BG PK (AM Aa)) (sS sN) ⟨Aa,Aa⟩
theorem OL (F:Nat)(hh:Value)(stack:(List A3))(r:(List A3))(h:I2 F stack=some r):Fn Tryz.prog GE 78 [rv hh] [.row hh 104 5 (List.map A1 stack)] (λR H=>∃u0:Value,R=rv u0∧H=[.row u0 104 5 (List.map A1 r)]):=by
 refine enter (n:=38) Tryz.func78 Aa Tryz.ntmps78 Aa (λw Z=>?_);refine AR (l':=[(0,rv hh)]) (H':=[.row hh 104 5 (List.map A1 stack)]) Aa Aa ?_;unfold I2 at h;refine Al (wv (r:=rv (.slice none 0 0)) (Ae Aa) (As (Am (AJ ?_))));obtain⟨hr,hs,ho⟩:=AH h;refine B2 (S:=Nat×((List A3))×(Value)) (V:=((List A3))×(Value)) 0 (λσ=>Cn (λσ=>Dl σ) σ.1 σ.2.1=some hr) (λσ=>[(0,rv σ.2.2),(2,rv (.slice none 0 0))]) (λσ=>[.row σ.2.2 104 5 (List.map A1 σ.2.1)]) (λσ=>σ.1) (F,stack,hh) hs (AK.c Aa (AK.c Aa AK.nil)) (sC sN) (λσ=>DJ σ.1=some r) (λσ=>[(0,rv σ.2),(2,rv (.slice none 0 0))]) (λσ=>[.row σ.2 104 5 (List.map A1 σ.1)]) ?_ ?_
 ·rintro⟨hN,ha,he⟩ ht;refine AR (l':=[(0,rv he),(2,rv (.slice none 0 0))]) (H':=[.row he 104 5 (List.map A1 ha)]) Aa Aa ?_;obtain⟨hu,rfl,hw,hi,hk⟩:=CM ht;replace hi:Dl ha=some hw:=hi;unfold Dl at hi;refine Am (Al (wm Aa (wv (CL (ys:=ha) (enc:=A1) (i:=0) GZ Aa Aa) (wv (C1 Aa Aa) (As (Au (b:=decide (0<(ha.length:Int))) Aa (λhl=>?_) (λhl=>?_)))))))
  ·have hx:=AE hl hi;refine Aw (AP (AJ (Al (wm Aa (wm Aa (wv (CL (ys:=ha) (enc:=A1) (i:=0) GZ Aa Aa) ?_))))));obtain⟨hy,hz⟩:=Az hx;refine wv (EV Aa Aa hy) ?_;obtain⟨hf,h0⟩:=Az hz;refine wv (r:=rv (Et 5 he (Int.toNat ((ha.length:Int)-1)) 0)) (Ik (i:=0) GZ Mo Aa Aa Aa (B9 hf)) (wa Aa (Bv (wm Aa (wv (r:=rv (Et 5 he (Int.toNat ((ha.length:Int)-1)) 0)) (BW (k:=0) Aa (B9 hf) Aa Aa) (wv (r:=rv (Et 5 he (Int.toNat ((ha.length:Int)-1)) 1)) (DU (k:=0) GY Aa Cf Aa (B9 hf) Aa Aa Aa) (wv (r:=rI .i64 ((At ha ((ha.length:Int)-1)).fLeft)) (GP (enc:=A1) (ys:=ha) (i:=0) (j:=(ha.length:Int)-1) CC Aa Aa hf Aa) ?_))))));obtain⟨h6,h7⟩:=Az h0;refine wv (EV Aa Aa h6) (wv (r:=rv (Et 5 he (Int.toNat ((ha.length:Int)-1)) 0)) (BW (k:=0) Aa (B9 hf) Aa Aa) (wv (r:=rv (Et 5 he (Int.toNat ((ha.length:Int)-1)) 1)) (DU (k:=0) GY Aa Cf Aa (B9 hf) Aa Aa Aa) (Ht (enc:=A1) (ys:=ha) (y':=(A3.mk ((At ha ((ha.length:Int)-1)).fPairs) (((At ha ((ha.length:Int)-1)).fLeft)-1) ((At ha ((ha.length:Int)-1)).fKey) ((At ha ((ha.length:Int)-1)).fLast) ((At ha ((ha.length:Int)-1)).fStarted))) (i:=0) (j:=(ha.length:Int)-1) Cf Aa Aa (BV Aa) Aa hf Aa Aa (H':=[.row he 104 5 (List.map A1 (List.set ha (Int.toNat ((ha.length:Int)-1)) (A3.mk ((At ha ((ha.length:Int)-1)).fPairs) (((At ha ((ha.length:Int)-1)).fLeft)-1) ((At ha ((ha.length:Int)-1)).fKey) ((At ha ((ha.length:Int)-1)).fLast) ((At ha ((ha.length:Int)-1)).fStarted))))]) Aa ?_)));obtain⟨hd,hg,hp⟩:=D2 h7;rw[← hg];refine As (Am (Al (wm Aa (wv (r:=rv (Et 5 he (Int.toNat ((ha.length:Int)-1)) 0)) (BW (k:=0) Aa (B9 (C5 hf hg)) Aa Aa) (wv (r:=rv (Et 5 he (Int.toNat ((ha.length:Int)-1)) 1)) (DU (k:=0) GY Aa Cf Aa (B9 (C5 hf hg)) Aa Aa Aa) (wv (r:=rI .i64 ((At hd ((ha.length:Int)-1)).fLeft)) (GP (enc:=A1) (ys:=hd) (i:=0) (j:=(ha.length:Int)-1) CC Aa Aa (C5 hf hg) Aa) (wv (C1 Aa Aa) (As (Au (b:=decide (0<((At hd ((ha.length:Int)-1)).fLeft))) Aa (λhm=>?_) (λhm=>?_))))))))))
   ·have h8:=AE hm hp;refine Al (wm Aa (wm Aa (wv (r:=rv (Et 5 he (Int.toNat ((ha.length:Int)-1)) 0)) (BW (k:=0) Aa (B9 (C5 hf hg)) Aa Aa) (wv (r:=rv (Et 5 he (Int.toNat ((ha.length:Int)-1)) 0)) (DU (k:=0) GY Aa G9 Aa (B9 (C5 hf hg)) Aa Aa Aa) (wv (r:=rB ((At hd ((ha.length:Int)-1)).fPairs)) (GP (enc:=A1) (ys:=hd) (i:=0) (j:=(ha.length:Int)-1) PD Aa Aa (C5 hf hg) Aa) (wv (r:=rv (Et 5 he (Int.toNat ((ha.length:Int)-1)) 0)) (BW (k:=0) Aa (B9 (C5 hf hg)) Aa Aa) (wv (r:=rv (Et 5 he (Int.toNat ((ha.length:Int)-1)) 2)) (DU (k:=0) GY Aa G9 Aa (B9 (C5 hf hg)) Aa Aa Aa) (Ht (enc:=A1) (ys:=hd) (y':=(A3.mk ((At hd ((ha.length:Int)-1)).fPairs) ((At hd ((ha.length:Int)-1)).fLeft) ((At hd ((ha.length:Int)-1)).fPairs) ((At hd ((ha.length:Int)-1)).fLast) ((At hd ((ha.length:Int)-1)).fStarted))) (i:=0) (j:=(ha.length:Int)-1) G9 Aa Aa (BV Aa) Aa (C5 hf hg) Aa Aa (H':=[.row he 104 5 (List.map A1 (List.set hd (Int.toNat ((ha.length:Int)-1)) (A3.mk ((At hd ((ha.length:Int)-1)).fPairs) ((At hd ((ha.length:Int)-1)).fLeft) ((At hd ((ha.length:Int)-1)).fPairs) ((At hd ((ha.length:Int)-1)).fLast) ((At hd ((ha.length:Int)-1)).fStarted))))]) Aa ?_))))))));obtain⟨hO,h9,hA⟩:=D2 h8;rw[← h9];refine Bv (wm Aa (wa Aa (As (Ay (Af (A5 (Af (Bf ?_))))))));have hB:=B5 hA hk ho;refine A5 (Af ?_);obtain rfl:=A0 hB;exact Ax (BG Tryz.results78 (AM Aa)) (sC sN) ⟨he,Aa,Aa⟩
   ·have hC:=AF hm hp;refine Aw (AP (Ai (wm Aa (wm Aa (wv (CL (ys:=hd) (enc:=A1) (i:=0) GZ Aa Aa) ?_)))));obtain⟨hD,hE⟩:=Az hC;refine wv (EV Aa Aa hD) ?_;obtain⟨hG,hH⟩:=Az hE;refine To (i:=0) GZ Mo Aa Aa Aa hG Aa (λhI=>?_);refine wa Aa (Aj (AG ?_));have hJ:=Bk hH hk;exact Ap (AI (hu,List.take (Int.toNat ((hd.length:Int)-1)) hd,hI) ⟨hJ,U0 _⟩ (AK.c Aa (AK.c Aa AK.nil)) (sC sN))
  ·have hK:=AF hl hi;refine B4 (A4 ?_);have hL:=Cv hK hk ho;exact A4 (Bt (AI (ha,he) hL (AK.c Aa (AK.c Aa AK.nil)) (sC sN)))
 ·rintro⟨hq,hn⟩ hj;refine Dd (l':=[(0,rv hn),(2,rv (.slice none 0 0))]) (H':=[.row hn 104 5 (List.map A1 hq)]) Aa Aa ?_;replace hj:DJ hq=some r:=hj;unfold DJ at hj;refine Bi (AP (Al (wm Aa (wa Aa (As (Ay ?_))))));obtain rfl:=A0 hj;exact Ax (BG Tryz.results78 (AM Aa)) (sC sN) ⟨hn,Aa,Aa⟩
theorem LI (F:Nat)(v:(List Ac))(r:Int×A8×Bool)(h:Ha F v=some r):Fn Tryz.prog GE 49 [Bl 4 (List.map Ab v)] [] (λR H=>R=CV [rI .i64 r.1,Bo (AN r.2.1),rB r.2.2]∧H=[]):=by
 refine enter (n:=152) Tryz.func49 Aa Tryz.ntmps49 Aa (λw Z=>?_);refine AR (l':=[(0,Bl 4 (List.map Ab v))]) (H':=[]) Aa Aa ?_;unfold Ha at h;refine Al (wv (r:=rI .i64 0) (Ae Aa) (Ci (cs:=[rI .i64 0,rI .i64 0,rB false,rB false]) PF Aa Aa (λb1=>?_)));refine wv (r:=rB false) (Ae Aa) (As (PQ (Al (Ci (cs:=[rI .i64 0,rI .i64 0,rB false,rB false]) PF Aa Aa (λb2=>?_)))));refine Bv (wv (r:=rv (.slice none 0 0)) (Ae Aa) (As (Am (PR (AP (Am (Al (wm Aa (wv (BB (ys:=v) (enc:=Ab) BN Aa) (wv (r:=rI .i64 0) (Ah Aa) (As (AJ (WC.nilrow (e:=104) (sz:=5) (NS (H2:=[.blk b2 [rI .i64 0,rI .i64 0,rB false,rB false] 75,.blk b1 [rI .i64 0,rI .i64 0,rB false,rB false] 75,.row (.slice none 0 0                                                                                                        ) 104 5 (List.map A1 ([]:List A3))]) ((AC (i:=1) Aa).trans (Uv _ ((AC (i:=1) Aa).trans (Uv _ (Ur _))))) ?_))))))))))))));obtain⟨hW,hX,hz⟩:=AH h;refine B2 (S:=Nat×((List A3)×Int×A8)×(Value)) (V:=(A8)×(Unit)) 0 (λσ=>Cn (λσ=>Dk F v σ.1 σ.2.1 σ.2.2) σ.1 σ.2.1=some hW) (λσ=>[(0,Bl 4 (List.map Ab v)),(3,rv (.pointer (some ⟨b1,0,none⟩))),(5,rv (.pointer (some ⟨b2,0,none⟩))),(6,rv σ.2.2),(11,Bl 4 (List.map Ab v)),(12,rI .i64 (v.length:Int)),(13,rI .i64 σ.2.1.2.1)]) (λσ=>[.blk b2 (AN σ.2.1.2.2) 75,.blk b1 [rI .i64 0,rI .i64 0,rB false,rB false] 75,.row σ.2.2 104 5 (List.map A1 σ.2.1.1)]) (λσ=>σ.1) (F,(([]:List A3),0,(A8.mk 0 0 false false)),(.slice none 0 0                                                                                                        )) hX (AK.c Aa (AK.c Aa (AK.c5 Aa Aa Aa Aa Aa AK.nil))) (sC (sC (sC sN))) (λσ=>I0 σ.1=some r) (λσ=>[(3,rv (.pointer (some ⟨b1,0,none⟩))),(5,rv (.pointer (some ⟨b2,0,none⟩)))]) (λσ=>[.blk b2 (AN σ.1) 75,.blk b1 [rI .i64 0,rI .i64 0,rB false,rB false] 75]) ?_ ?_
 ·rintro⟨gO,⟨he,hd,ha⟩,hf⟩ hY;refine AR (l':=[(0,Bl 4 (List.map Ab v)),(3,rv (.pointer (some ⟨b1,0,none⟩))),(5,rv (.pointer (some ⟨b2,0,none⟩))),(6,rv hf),(11,Bl 4 (List.map Ab v)),(12,rI .i64 (v.length:Int)),(13,rI .i64 hd)]) (H':=[.blk b2 (AN ha) 75,.blk b1 [rI .i64 0,rI .i64 0,rB false,rB false] 75,.row hf 104 5 (List.map A1 he)]) Aa Aa ?_;obtain⟨hZ,rfl,hA,h0,hy⟩:=CM hY;replace h0:Dk F v he hd ha=some hA:=h0;unfold Dk at h0;refine Al (wv (C8 Aa Aa) (As (Am (Au (b:=decide (hd<(v.length:Int))) Aa (λhB=>?_) (λhB=>?_)))))
  ·have ga:=AE hB h0;refine Aw (AP (DH (S:=((List A3)×A8)×(Value)) (λσ=>D7 hd σ.1.1 σ.1.2=some hA) (λσ=>[(0,Bl 4 (List.map Ab v)),(3,rv (.pointer (some ⟨b1,0,none⟩))),(5,rv (.pointer (some ⟨b2,0,none⟩))),(6,rv σ.2),(11,Bl 4 (List.map Ab v)),(12,rI .i64 (v.length:Int)),(13,rI .i64 hd)]) (λσ=>[.blk b2 (AN σ.1.2) 75,.blk b1 [rI .i64 0,rI .i64 0,rB false,rB false] 75,.row σ.2 104 5 (List.map A1 σ.1.1)]) ?_ ?_))
   ·refine AJ (Al (wm Aa ?_));obtain⟨gb,gc⟩:=Az ga;refine wv (BH (enc:=Ab) (ys:=v) BN Cm Aa Aa gb) (wv (DN Kn Cm Aa Aa Aa) (Ci (cs:=[rI .i64 0,rI .i64 0,rS ([]:Ak),rI .i64 0]) Ia Aa Aa (λhg=>?_)));refine wa Aa (Bg (i:=0) Cm Aa Aa Aa (BE.c Aa) Aa Aa (cs':=[rI .i64 ((At v hd).fKind),rI .i64 ((At v hd).fInt),rS ((At v hd).fStr),rI .i64 ((At v hd).fN)]) Aa (H':=[.blk hg (Ab (At v hd)) 50,.blk b2 (AN ha) 75,.blk b1 [rI .i64 0,rI .i64 0,rB false,rB false] 75,.row hf 104 5 (List.map A1 he)]) Aa (As (Am (Al (wv (AS (i:=0) Kn Cm Aa Aa Aa Aa) ?_)))));obtain⟨hO,gd,hP⟩:=AH gc;refine C9 Tryz.call75 (PX F (At v hd) hO gd) Aa (wv (BL Aa) (As (Au (b:=!hO) Aa (λhC=>?_) (λhC=>?_))))
    ·have ge:=AE hC hP;refine Am (Gd (H1:=[.blk hg (Ab (At v hd)) 50,.blk b2 (AN ha) 75,.blk b1 (AN ha) 75,.row hf 104 5 (List.map A1 he)]) [3,5] [⟨[],Bo (AN ha),1⟩,⟨[],rI .i64 0,0⟩,⟨[0],rv undef,2⟩,⟨[],rB false,0⟩] (rle [(3,_),(2,[.blk hg (Ab (At v hd)) 50,.blk b2 (AN ha) 75,.blk b1 (AN ha) 75,.row hf 104 5 (List.map A1 he)])]) [2,4,3] ?_ ?_)
     ·refine of (AS (i:=1) Le Hj Aa Aa Aa Aa) (oq (Ae Aa) (IH Aa (N9 (DD (i:=2) Hj Aa Aa Aa (BE.c Aa) Aa Aa (cs':=[rI .i64 ha.fDepth,rI .i64 ha.fBytes,rB ha.fOutside,rB ha.fLong]) Aa (H':=[.blk hg (Ab (At v hd)) 50,.blk b2 (AN ha) 75,.blk b1 (AN ha) 75,.row hf 104 5 (List.map A1 he)]) Aa)) ?_));refine oq (Ae Aa) ?_;exact BS
     refine AP (Ay (Af (A5 (Af (Af (Bf ?_))))));have gf:=B5 ge hy hz;refine A5 (Af (H5 ?_));obtain rfl:=A0 gf;exact Ax (Rl PL (AM Aa) (Ev (i:=2) Le Hj Aa Aa Aa) (AM Aa)) (sS (sS (sS (sS sN)))) ⟨Aa,Aa⟩
    ·have gg:=AF hC hP;refine Aw (AP (Am (Al (wm Aa (wv (CL (ys:=he) (enc:=A1) (i:=3) GZ Aa Aa) (wa Aa (As ?_)))))));obtain⟨gh,gi⟩:=Az gg;obtain⟨hD,hQ⟩:=Az gi;refine AB [(0,Bl 4 (List.map Ab v)),(3,rv (.pointer (some ⟨b1,0,none⟩))),(5,rv (.pointer (some ⟨b2,0,none⟩))),(6,rv hf),(7,rI .i64 hd),(8,rv (.pointer (some ⟨hg,0,none⟩))),(9,rI .i64 (he.length:Int)),(11,Bl 4 (List.map Ab v)),(12,rI .i64 (v.length:Int)),(13,rI .i64 hd),(33,rB ((decide (0<(he.length:Int)))&&((At he ((he.length:Int)-1)).fKey)))] [.blk hg (Ab (At v hd)) 50,.blk b2 (AN ha) 75,.blk b1 [rI .i64 0,rI .i64 0,rB false,rB false] 75,.row hf 104 5 (List.map A1 he)] ?_ ?_
     ·refine Ai (wm Aa (wv (C1 Aa Aa) (wm Aa (A7 (decide (0<(he.length:Int))) (λhj=>?_) (λhj=>?_)))))
      ·refine wo hj (wm Aa (wo hj (wm Aa (wo hj (wv (EV Aa Aa (Ch gh hj)) (wo hj (wv (r:=rv (Et 5 hf (Int.toNat ((he.length:Int)-1)) 0)) (Ik (i:=3) GZ Mo Aa Aa Aa (B9 (Ch hD hj))) (wo hj (wv (r:=rv (Et 5 hf (Int.toNat ((he.length:Int)-1)) 2)) (DU (k:=3) GY Aa G9 Aa (B9 (Ch hD hj)) Aa Aa Aa) (wo hj (wv (r:=rB ((At he ((he.length:Int)-1)).fKey)) (GP (enc:=A1) (ys:=he) (i:=3) (j:=(he.length:Int)-1) PD Aa Aa (Ch hD hj) Aa) (EA Aa hj Aa (Aj ?_)))))))))))));exact BO hj
      ·refine wf hj (wf hj (wf hj (wf hj (wf hj (wf hj (wv (r:=rB false) (Ar (b:=decide (0<(he.length:Int))) Aa hj Aa) (Aj ?_)))))));exact BO hj
     refine Au (b:=((decide (0<(he.length:Int)))&&((At he ((he.length:Int)-1)).fKey))) Aa (λhE=>?_) (λhE=>?_)
     ·have gj:=AE hE hQ;refine Al (wm Aa (wm Aa ?_));obtain⟨gl,gm⟩:=Az gj;refine wv (EV Aa Aa gl) ?_;obtain⟨hk,hR⟩:=Az gm;refine wv (r:=rv (Et 5 hf (Int.toNat ((he.length:Int)-1)) 0)) (Ik (i:=3) GZ Mo Aa Aa Aa (B9 hk)) (wa Aa (As (Am (AB [(0,Bl 4 (List.map Ab v)),(3,rv (.pointer (some ⟨b1,0,none⟩))),(5,rv (.pointer (some ⟨b2,0,none⟩))),(6,rv hf),(8,rv (.pointer (some ⟨hg,0,none⟩))),(10,rv (Et 5 hf (Int.toNat ((he.length:Int)-1)) 0)),(11,Bl 4 (List.map Ab v)),(12,rI .i64 (v.length:Int)),(13,rI .i64 hd),(38,rv (.pointer (some ⟨hg,0,none⟩))),(39,rI .i64 ((At v hd).fKind)),(40,rB (!decide (((At v hd).fKind)=4))),(41,rB (!decide (((At v hd).fKind)=4))),(55,rB ((!decide (((At v hd).fKind)=4))||(((At he ((he.length:Int)-1)).fStarted)&&(C2 ((At v hd).fStr) ((At he ((he.length:Int)-1)).fLast)||decide (((At v hd).fStr)=((At he ((he.length:Int)-1)).fLast))))))] [.blk hg (Ab (At v hd)) 50,.blk b2 (AN ha) 75,.blk b1 [rI .i64 0,rI .i64 0,rB false,rB false] 75,.row hf 104 5 (List.map A1 he)] ?_ ?_))))
      ·refine A7 (!decide (((At v hd).fKind)=4)) (λhi=>?_) (λhi=>?_)
       ·refine Cu [0,3,5,6,8,10,11,12,13] [⟨[],rv (.pointer (some ⟨hg,0,none⟩)),0⟩,⟨[0],rI .i64 ((At v hd).fKind),1⟩,⟨[1],rB (!decide (((At v hd).fKind)=4)),0⟩,⟨[2],rB (!decide (((At v hd).fKind)=4)),0⟩,⟨[3],rv undef,0⟩,⟨[4,3],rv undef,0⟩,⟨[5,3],rv undef,0⟩,⟨[6,3],rv undef,0⟩,⟨[7,3],rv undef,0⟩,⟨[8],rv undef,0⟩,⟨[9,8],rv undef,0⟩,⟨[8],rv undef,0⟩,⟨[11,8],rv undef,0⟩,⟨[12,8],rv undef,0⟩,⟨[13,8],rv undef,0⟩,⟨[10,14,8],rv undef,0⟩,⟨[8,15,3],rv undef,0⟩,⟨[3,16],rB true,0⟩] [38,39,40,41,42,43,44,45,46,47,48,49,50,51,52,53,54,55,0,3,5,6,8,10,11,12,13] ?_ ?_
        ·refine oq (Ad Bm Aa D4 Aa Aa) (of (Aq (i:=0) D5 Aa Aa Aa) (oq (DB Aa Aa) (oq (Ah Aa) (oz hi (oz hi (oz hi (oz hi (oz hi (ou (ou (ou (ou (ou (ou (ou (oz hi (oq (Ao (b:=!decide (((At v hd).fKind)=4)) Aa hi Aa) ?_)))))))))))))))));exact BS
        exact BO hi
       ·refine A7 ((At he ((he.length:Int)-1)).fStarted) (λhl=>?_) (λhl=>?_)
        ·refine Cu [0,3,5,6,8,10,11,12,13] [⟨[],rv (.pointer (some ⟨hg,0,none⟩)),0⟩,⟨[0],rI .i64 ((At v hd).fKind),1⟩,⟨[1],rB (!decide (((At v hd).fKind)=4)),0⟩,⟨[2],rB (!decide (((At v hd).fKind)=4)),0⟩,⟨[3],rv (Et 5 hf (Int.toNat ((he.length:Int)-1)) 0),0⟩,⟨[4,3],rv (Et 5 hf (Int.toNat ((he.length:Int)-1)) 0),1⟩,⟨[5,3],rv (Et 5 hf (Int.toNat ((he.length:Int)-1)) 4),1⟩,⟨[6,3],rB ((At he ((he.length:Int)-1)).fStarted),1⟩,⟨[7,3],rB ((At he ((he.length:Int)-1)).fStarted),0⟩,⟨[8],rv (.pointer (some ⟨hg,2,none⟩)),0⟩,⟨[9,8],rS ((At v hd).fStr),1⟩,⟨[8],rv (Et 5 hf (Int.toNat ((he.length:Int)-1)) 0),0⟩,⟨[11,8],rv (Et 5 hf (Int.toNat ((he.length:Int)-1)) 0),1⟩,⟨[12,8],rv (Et 5 hf (Int.toNat ((he.length:Int)-1)) 3),1⟩,⟨[13,8],rS ((At he ((he.length:Int)-1)).fLast),1⟩,⟨[10,14,8],rB (C2 ((At v hd).fStr) ((At he ((he.length:Int)-1)).fLast)||decide (((At v hd).fStr)=((At he ((he.length:Int)-1)).fLast))),0⟩,⟨[8,15,3],rB (C2 ((At v hd).fStr) ((At he ((he.length:Int)-1)).fLast)||decide (((At v hd).fStr)=((At he ((he.length:Int)-1)).fLast))),0⟩,⟨[3,16],rB (C2 ((At v hd).fStr) ((At he ((he.length:Int)-1)).fLast)||decide (((At v hd).fStr)=((At he ((he.length:Int)-1)).fLast))),0⟩] [38,39,40,41,42,43,44,45,46,47,48,49,50,51,52,53,54,55,0,3,5,6,8,10,11,12,13] ?_ ?_
         ·refine oq (Ad Bm Aa D4 Aa Aa) (of (Aq (i:=0) D5 Aa Aa Aa) (oq (DB Aa Aa) (oq (Ah Aa) (on hi (oq (Ah Aa) (on hi (of (BW (k:=3) Aa (B9 hk) Aa Aa) (on hi (of (DU (k:=3) GY Aa G9 Aa (B9 hk) Aa Aa Aa) (on hi (of (GP (enc:=A1) (ys:=he) (i:=3) (j:=(he.length:Int)-1) PD Aa Aa hk Aa) (on hi (oq (Ah Aa) (on hl (oq (Ad Bm Aa BU Aa Aa) (on hl (of (Aq (i:=0) Cg Aa Aa Aa) (on hl (oq (Ah Aa) (on hl (of (BW (k:=3) Aa (B9 hk) Aa Aa) (on hl (of (DU (k:=3) GY Aa BU Aa (B9 hk) Aa Aa Aa) ?_)))))))))))))))))))))));refine on hl (of (GP (enc:=A1) (ys:=he) (i:=3) (j:=(he.length:Int)-1) Cg Aa Aa hk Aa) (on hl (oq (Oi Aa Aa) (on hi (oq (Ao Aa hl Aa) (oq (Ar Aa hi Aa) ?_))))));exact BS
         exact BO (And.intro hi hl)
        ·refine Cu [0,3,5,6,8,10,11,12,13] [⟨[],rv (.pointer (some ⟨hg,0,none⟩)),0⟩,⟨[0],rI .i64 ((At v hd).fKind),1⟩,⟨[1],rB (!decide (((At v hd).fKind)=4)),0⟩,⟨[2],rB (!decide (((At v hd).fKind)=4)),0⟩,⟨[3],rv (Et 5 hf (Int.toNat ((he.length:Int)-1)) 0),0⟩,⟨[4,3],rv (Et 5 hf (Int.toNat ((he.length:Int)-1)) 0),1⟩,⟨[5,3],rv (Et 5 hf (Int.toNat ((he.length:Int)-1)) 4),1⟩,⟨[6,3],rB ((At he ((he.length:Int)-1)).fStarted),1⟩,⟨[7,3],rB ((At he ((he.length:Int)-1)).fStarted),0⟩,⟨[8],rv undef,0⟩,⟨[9,8],rv undef,0⟩,⟨[8],rv undef,0⟩,⟨[11,8],rv undef,0⟩,⟨[12,8],rv undef,0⟩,⟨[13,8],rv undef,0⟩,⟨[10,14,8],rv undef,0⟩,⟨[8,15,3],rB false,0⟩,⟨[3,16],rB false,0⟩] [38,39,40,41,42,43,44,45,46,47,48,49,50,51,52,53,54,55,0,3,5,6,8,10,11,12,13] ?_ ?_
         ·refine oq (Ad Bm Aa D4 Aa Aa) (of (Aq (i:=0) D5 Aa Aa Aa) (oq (DB Aa Aa) (oq (Ah Aa) (on hi (oq (Ah Aa) (on hi (of (BW (k:=3) Aa (B9 hk) Aa Aa) (on hi (of (DU (k:=3) GY Aa G9 Aa (B9 hk) Aa Aa Aa) (on hi (of (GP (enc:=A1) (ys:=he) (i:=3) (j:=(he.length:Int)-1) PD Aa Aa hk Aa) (on hi (oq (Ah Aa) (oz hl (oz hl (oz hl (oz hl (oz hl (oz hl (oz hl (on hi (oq (Ar (b:=(At he ((he.length:Int)-1)).fStarted) Aa hl Aa) (oq (Ar Aa hi Aa) ?_)))))))))))))))))))))));exact BS
         exact BO (And.intro hi hl)
      refine Au (b:=((!decide (((At v hd).fKind)=4))||(((At he ((he.length:Int)-1)).fStarted)&&(C2 ((At v hd).fStr) ((At he ((he.length:Int)-1)).fLast)||decide (((At v hd).fStr)=((At he ((he.length:Int)-1)).fLast)))))) Aa (λhG=>?_) (λhG=>?_)
      ·have gp:=AE hG hR;refine Am (Gd (H1:=[.blk hg (Ab (At v hd)) 50,.blk b2 (AN ha) 75,.blk b1 (AN ha) 75,.row hf 104 5 (List.map A1 he)]) [3,5] [⟨[],Bo (AN ha),1⟩,⟨[],rI .i64 0,0⟩,⟨[0],rv undef,2⟩,⟨[],rB false,0⟩] (rle [(3,_),(2,[.blk hg (Ab (At v hd)) 50,.blk b2 (AN ha) 75,.blk b1 (AN ha) 75,.row hf 104 5 (List.map A1 he)])]) [2,4,3] ?_ ?_)
       ·refine of (AS (i:=1) Le Hj Aa Aa Aa Aa) (oq (Ae Aa) (IH Aa (N9 (DD (i:=2) Hj Aa Aa Aa (BE.c Aa) Aa Aa (cs':=[rI .i64 ha.fDepth,rI .i64 ha.fBytes,rB ha.fOutside,rB ha.fLong]) Aa (H':=[.blk hg (Ab (At v hd)) 50,.blk b2 (AN ha) 75,.blk b1 (AN ha) 75,.row hf 104 5 (List.map A1 he)]) Aa)) ?_));refine oq (Ae Aa) ?_;exact BS
       refine AP (Ay (Af (Af (A5 (Af (Af (Bf ?_)))))));have gq:=B5 gp hy hz;refine A5 (Af (H5 ?_));obtain rfl:=A0 gq;exact Ax (Rl PL (AM Aa) (Ev (i:=2) Le Hj Aa Aa Aa) (AM Aa)) (sS (sS (sS (sS sN)))) ⟨Aa,Aa⟩
      ·have gr:=AF hG hR;refine Aw (AP (Al (wm Aa (wm Aa (wm Aa (wv (Ad Bm Aa BU Aa Aa) (wv (Aq (i:=0) Cg Aa Aa Aa) (wv (r:=rv (Et 5 hf (Int.toNat ((he.length:Int)-1)) 0)) (BW (k:=3) Aa (B9 hk) Aa Aa) (wv (r:=rv (Et 5 hf (Int.toNat ((he.length:Int)-1)) 3)) (DU (k:=3) GY Aa BU Aa (B9 hk) Aa Aa Aa) (Ht (enc:=A1) (ys:=he) (y':=(A3.mk ((At he ((he.length:Int)-1)).fPairs) ((At he ((he.length:Int)-1)).fLeft) ((At he ((he.length:Int)-1)).fKey) ((At v hd).fStr) ((At he ((he.length:Int)-1)).fStarted))) (i:=3) (j:=(he.length:Int)-1) BU Aa Aa (BV Aa) Aa hk Aa Aa (H':=[.blk hg (Ab (At v hd)) 50,.blk b2 (AN ha) 75,.blk b1 [rI .i64 0,rI .i64 0,rB false,rB false] 75,.row hf 104 5 (List.map A1 (List.set he (Int.toNat ((he.length:Int)-1)) (A3.mk ((At he ((he.length:Int)-1)).fPairs) ((At he ((he.length:Int)-1)).fLeft) ((At he ((he.length:Int)-1)).fKey) ((At v hd).fStr) ((At he ((he.length:Int)-1)).fStarted))))]) Aa ?_))))))))));obtain⟨hs,hx,gs⟩:=D2 gr;rw[← hx];refine wv (r:=rv (Et 5 hf (Int.toNat ((he.length:Int)-1)) 0)) (BW (k:=3) Aa (B9 (C5 hk hx)) Aa Aa) (wv (r:=rv (Et 5 hf (Int.toNat ((he.length:Int)-1)) 4)) (DU (k:=3) GY Aa G9 Aa (B9 (C5 hk hx)) Aa Aa Aa) (Ht (enc:=A1) (ys:=hs) (y':=(A3.mk ((At hs ((he.length:Int)-1)).fPairs) ((At hs ((he.length:Int)-1)).fLeft) ((At hs ((he.length:Int)-1)).fKey) ((At hs ((he.length:Int)-1)).fLast) true)) (i:=3) (j:=(he.length:Int)-1) G9 Aa Aa (BV Aa) Aa (C5 hk hx) Aa Aa (H':=[.blk hg (Ab (At v hd)) 50,.blk b2 (AN ha) 75,.blk b1 [rI .i64 0,rI .i64 0,rB false,rB false] 75,.row hf 104 5 (List.map A1 (List.set hs (Int.toNat ((he.length:Int)-1)) (A3.mk ((At hs ((he.length:Int)-1)).fPairs) ((At hs ((he.length:Int)-1)).fLeft) ((At hs ((he.length:Int)-1)).fKey) ((At hs ((he.length:Int)-1)).fLast) true)))]) Aa ?_));obtain⟨ht,h7,gt⟩:=D2 gs;rw[← h7];refine wv (r:=rv (Et 5 hf (Int.toNat ((he.length:Int)-1)) 0)) (BW (k:=3) Aa (B9 (C5 (C5 hk hx) h7)) Aa Aa) (wv (r:=rv (Et 5 hf (Int.toNat ((he.length:Int)-1)) 2)) (DU (k:=3) GY Aa G9 Aa (B9 (C5 (C5 hk hx) h7)) Aa Aa Aa) (Ht (enc:=A1) (ys:=ht) (y':=(A3.mk ((At ht ((he.length:Int)-1)).fPairs) ((At ht ((he.length:Int)-1)).fLeft) false ((At ht ((he.length:Int)-1)).fLast) ((At ht ((he.length:Int)-1)).fStarted))) (i:=3) (j:=(he.length:Int)-1) G9 Aa Aa (BV Aa) Aa (C5 (C5 hk hx) h7) Aa Aa (H':=[.blk hg (Ab (At v hd)) 50,.blk b2 (AN ha) 75,.blk b1 [rI .i64 0,rI .i64 0,rB false,rB false] 75,.row hf 104 5 (List.map A1 (List.set ht (Int.toNat ((he.length:Int)-1)) (A3.mk ((At ht ((he.length:Int)-1)).fPairs) ((At ht ((he.length:Int)-1)).fLeft) false ((At ht ((he.length:Int)-1)).fLast) ((At ht ((he.length:Int)-1)).fStarted))))]) Aa ?_));obtain⟨hu,gu,gv⟩:=D2 gt;rw[← gu];refine As (Am ?_);obtain⟨hm,gw,gx⟩:=AH gv;obtain⟨gy,gz⟩:=Az gx;refine Gd (H1:=[.blk hg (Ab (At v hd)) 50,.blk b2 [rI .i64 ha.fDepth,rI .i64 (IntKind.wrap .i64 (ha.fBytes+(hm+1))),rB ha.fOutside,rB ha.fLong] 75,.blk b1 [rI .i64 0,rI .i64 0,rB false,rB false] 75,.row hf 104 5 (List.map A1 hu)]) [0,3,5,6,8,11,12,13,38,39,40,41] [⟨[],rv (.pointer (some ⟨b2,1,none⟩)),0⟩,⟨[0],rI .i64 ha.fBytes,1⟩,⟨[],rv (.pointer (some ⟨hg,2,none⟩)),0⟩,⟨[2],rS ((At v hd).fStr),1⟩,⟨[3],rI .i64 hm,0⟩,⟨[4],rI .i64 (hm+1),0⟩,⟨[1,5],rI .i64 (IntKind.wrap .i64 (ha.fBytes+(hm+1))),0⟩,⟨[],rv (.pointer (some ⟨b2,1,none⟩)),0⟩,⟨[7,6],rv undef,2⟩] (rle [(9,_),(1,[.blk hg (Ab (At v hd)) 50,.blk b2 [rI .i64 ha.fDepth,rI .i64 (IntKind.wrap .i64 (ha.fBytes+(hm+1))),rB ha.fOutside,rB ha.fLong] 75,.blk b1 [rI .i64 0,rI .i64 0,rB false,rB false] 75,.row hf 104 5 (List.map A1 hu)])]) [68,69,70,71,72,73,74,75,0,3,5,6,8,11,12,13,38,39,40,41] ?_ ?_
       ·refine oq (Ad Gm Aa Cf Aa Aa) (of (Aq (i:=1) CC Aa Aa Aa) (oq (Ad Bm Aa BU Aa Aa) (of (Aq (i:=0) Cg Aa Aa Aa) (Ct Aa (λH=>Dg Tryz.call76 (Ls ((At v hd).fStr) hm gw) Aa) ?_))));refine oq (Bu Aa Aa gy) (oq (LT Aa Aa) (oq (Ad Gm Aa Cf Aa Aa) (IH Aa (N9 (LF (i:=1) Cf Aa Aa (BV Aa) Aa Aa (cs':=[rI .i64 ha.fDepth,rI .i64 (IntKind.wrap .i64 (ha.fBytes+(hm+1))),rB ha.fOutside,rB ha.fLong]) Aa (H':=[.blk hg (Ab (At v hd)) 50,.blk b2 [rI .i64 ha.fDepth,rI .i64 (IntKind.wrap .i64 (ha.fBytes+(hm+1))),rB ha.fOutside,rB ha.fLong] 75,.blk b1 [rI .i64 0,rI .i64 0,rB false,rB false] 75,.row hf 104 5 (List.map A1 hu)]) Aa)) ?_)));exact BS
       refine AP (AB [(0,Bl 4 (List.map Ab v)),(3,rv (.pointer (some ⟨b1,0,none⟩))),(5,rv (.pointer (some ⟨b2,0,none⟩))),(6,rv hf),(11,Bl 4 (List.map Ab v)),(12,rI .i64 (v.length:Int)),(13,rI .i64 hd),(38,rv (.pointer (some ⟨hg,0,none⟩))),(39,rI .i64 ((At v hd).fKind)),(40,rB (!decide (((At v hd).fKind)=4))),(41,rB (!decide (((At v hd).fKind)=4))),(68,rv (.pointer (some ⟨b2,1,none⟩))),(69,rI .i64 ha.fBytes),(70,rv (.pointer (some ⟨hg,2,none⟩))),(71,rS ((At v hd).fStr)),(72,rI .i64 hm),(73,rI .i64 (hm+1)),(74,rI .i64 (IntKind.wrap .i64 (ha.fBytes+(hm+1)))),(75,rv (.pointer (some ⟨b2,1,none⟩)))] [.blk hg (Ab (At v hd)) 50,.blk b2 [rI .i64 ha.fDepth,rI .i64 (IntKind.wrap .i64 (ha.fBytes+(hm+1))),rB ha.fOutside,rB (ha.fLong||(decide (200<(((At v hd).fStr).length:Int))))] 75,.blk b1 [rI .i64 0,rI .i64 0,rB false,rB false] 75,.row hf 104 5 (List.map A1 hu)] ?_ ?_)
       ·refine Ai (wv (Ad Gm Aa G9 Aa Aa) (wv (Aq (i:=1) PD Aa Aa Aa) (wm Aa (A7 (ha.fLong) (λhp=>?_) (λhp=>?_)))))
        ·refine wf hp (wf hp (wf hp (wf hp (wv (r:=rB true) (Ao (b:=ha.fLong) rfl hp rfl) (wv (Ad Gm rfl G9 rfl rfl) (B0 (i:=1) G9 rfl rfl (BV rfl) rfl rfl (cs':=[rI .i64 ha.fDepth,rI .i64 (IntKind.wrap .i64 (ha.fBytes+(hm+1))),rB ha.fOutside,rB true]) rfl (H':=[.blk hg (Ab (At v hd)) 50,.blk b2 [rI .i64 ha.fDepth,rI .i64 (IntKind.wrap .i64 (ha.fBytes+(hm+1))),rB ha.fOutside,rB true] 75,.blk b1 [rI .i64 0,rI .i64 0,rB false,rB false] 75,.row hf 104 5 (List.map A1 hu)]) rfl (Aj (GA (H':=[.blk hg (Ab (At v hd)) 50,.blk b2 [rI .i64 ha.fDepth,rI .i64 (IntKind.wrap .i64 (ha.fBytes+(hm+1))),rB ha.fOutside,rB (ha.fLong||(decide (200<(((At v hd).fStr).length:Int))))] 75,.blk b1 [rI .i64 0,rI .i64 0,rB false,rB false] 75,.row hf 104 5 (List.map A1 hu)]) (by simp only[hp,U3,U6,UF,U4,UB,U8,UD,U9,Uy,U7,Uz,Uu]) ?_))))))));exact wt
        ·refine wo hp (wv (Ad Bm rfl BU rfl rfl) (wo hp (wv (Aq (i:=0) Cg rfl rfl rfl) (wo hp (wv (AZ Ce rfl) (wo hp (wv (C1 rfl rfl) (ET rfl hp rfl (wv (Ad Gm rfl G9 rfl rfl) (B0 (i:=1) G9 rfl rfl (BV rfl) rfl rfl (cs':=[rI .i64 ha.fDepth,rI .i64 (IntKind.wrap .i64 (ha.fBytes+(hm+1))),rB ha.fOutside,rB (decide (200<(((At v hd).fStr).length:Int)))]) rfl (H':=[.blk hg (Ab (At v hd)) 50,.blk b2 [rI .i64 ha.fDepth,rI .i64 (IntKind.wrap .i64 (ha.fBytes+(hm+1))),rB ha.fOutside,rB (decide (200<(((At v hd).fStr).length:Int)))] 75,.blk b1 [rI .i64 0,rI .i64 0,rB false,rB false] 75,.row hf 104 5 (List.map A1 hu)]) rfl (Aj (GA (H':=[.blk hg (Ab (At v hd)) 50,.blk b2 [rI .i64 ha.fDepth,rI .i64 (IntKind.wrap .i64 (ha.fBytes+(hm+1))),rB ha.fOutside,rB (ha.fLong||(decide (200<(((At v hd).fStr).length:Int))))] 75,.blk b1 [rI .i64 0,rI .i64 0,rB false,rB false] 75,.row hf 104 5 (List.map A1 hu)]) (by simp only[hp,U3,U6,UF,U4,UB,U8,UD,U9,Uy,U7,Uz,Uu]) ?_))))))))))));exact wt
       exact B4 (A4 (Bi (Ap (AI ((hu,(A8.mk ha.fDepth (IntKind.wrap .i64 (ha.fBytes+(hm+1))) ha.fOutside (ha.fLong||(decide (200<(((At v hd).fStr).length:Int)))))),hf) gz (AK.c Aa (AK.c Aa (AK.c5 Aa Aa Aa Aa Aa AK.nil))) (sS (sC (sC (sC sN))))))))
     ·have g0:=AF hE hQ;refine Aw (AP (Al (wv (Ad Gm Aa Cf Aa Aa) (wv (Aq (i:=1) CC Aa Aa Aa) (wm Aa (wv (CL (ys:=he) (enc:=A1) (i:=3) GZ Aa Aa) ?_))))));obtain⟨g1,g2⟩:=Az g0;refine wv (Bu Aa Aa g1) (wv (Sr Nk Aa Aa) (wv (Ad Gm Aa Cf Aa Aa) (B0 (i:=1) Cf Aa Aa (BV Aa) Aa Aa (cs':=[rI .i64 (max ha.fDepth ((he.length:Int)+1)),rI .i64 ha.fBytes,rB ha.fOutside,rB ha.fLong]) Aa (H':=[.blk hg (Ab (At v hd)) 50,.blk b2 [rI .i64 (max ha.fDepth ((he.length:Int)+1)),rI .i64 ha.fBytes,rB ha.fOutside,rB ha.fLong] 75,.blk b1 [rI .i64 0,rI .i64 0,rB false,rB false] 75,.row hf 104 5 (List.map A1 he)]) Aa (As (Am ?_)))));obtain⟨hh,g3,g4⟩:=AH g2;refine Gd (H1:=[.blk hg (Ab (At v hd)) 50,.blk b2 [rI .i64 (max ha.fDepth ((he.length:Int)+1)),rI .i64 (IntKind.wrap .i64 (ha.fBytes+hh)),rB ha.fOutside,rB ha.fLong] 75,.blk b1 [rI .i64 0,rI .i64 0,rB false,rB false] 75,.row hf 104 5 (List.map A1 he)]) [0,3,5,6,7,8,11,12,13] [⟨[],rv (.pointer (some ⟨b2,1,none⟩)),0⟩,⟨[0],rI .i64 ha.fBytes,1⟩,⟨[],Bo (Ab (At v hd)),1⟩,⟨[2],rI .i64 hh,0⟩,⟨[1,3],rI .i64 (IntKind.wrap .i64 (ha.fBytes+hh)),0⟩,⟨[],rv (.pointer (some ⟨b2,1,none⟩)),0⟩,⟨[5,4],rv undef,2⟩] (rle [(7,_),(1,[.blk hg (Ab (At v hd)) 50,.blk b2 [rI .i64 (max ha.fDepth ((he.length:Int)+1)),rI .i64 (IntKind.wrap .i64 (ha.fBytes+hh)),rB ha.fOutside,rB ha.fLong] 75,.blk b1 [rI .i64 0,rI .i64 0,rB false,rB false] 75,.row hf 104 5 (List.map A1 he)])]) [92,93,94,95,96,97,0,3,5,6,7,8,11,12,13] ?_ ?_
      ·refine oq (Ad Gm Aa Cf Aa Aa) (of (Aq (i:=1) CC Aa Aa Aa) (of (AS (i:=0) Kn Cm Aa Aa Aa Aa) (Ct Aa (λH=>Dg Tryz.call77 (Rz (At v hd) hh g3) Aa) ?_)));refine oq (LT Aa Aa) (oq (Ad Gm Aa Cf Aa Aa) (IH Aa (N9 (LF (i:=1) Cf Aa Aa (BV Aa) Aa Aa (cs':=[rI .i64 (max ha.fDepth ((he.length:Int)+1)),rI .i64 (IntKind.wrap .i64 (ha.fBytes+hh)),rB ha.fOutside,rB ha.fLong]) Aa (H':=[.blk hg (Ab (At v hd)) 50,.blk b2 [rI .i64 (max ha.fDepth ((he.length:Int)+1)),rI .i64 (IntKind.wrap .i64 (ha.fBytes+hh)),rB ha.fOutside,rB ha.fLong] 75,.blk b1 [rI .i64 0,rI .i64 0,rB false,rB false] 75,.row hf 104 5 (List.map A1 he)]) Aa)) ?_));exact BS
      refine AP ?_;obtain⟨g5,hS⟩:=Az g4;refine AB [(0,Bl 4 (List.map Ab v)),(3,rv (.pointer (some ⟨b1,0,none⟩))),(5,rv (.pointer (some ⟨b2,0,none⟩))),(6,rv hf),(7,rI .i64 hd),(8,rv (.pointer (some ⟨hg,0,none⟩))),(11,Bl 4 (List.map Ab v)),(12,rI .i64 (v.length:Int)),(13,rI .i64 hd),(92,rv (.pointer (some ⟨b2,1,none⟩))),(93,rI .i64 ha.fBytes),(94,Bo (Ab (At v hd))),(95,rI .i64 hh),(96,rI .i64 (IntKind.wrap .i64 (ha.fBytes+hh))),(97,rv (.pointer (some ⟨b2,1,none⟩)))] [.blk hg (Ab (At v hd)) 50,.blk b2 [rI .i64 (max ha.fDepth ((he.length:Int)+1)),rI .i64 (IntKind.wrap .i64 (ha.fBytes+hh)),rB (ha.fOutside||((decide (((At v hd).fKind)=3))&&(!(ov (Bx ((At v hd).fInt)))))),rB ha.fLong] 75,.blk b1 [rI .i64 0,rI .i64 0,rB false,rB false] 75,.row hf 104 5 (List.map A1 he)] ?_ ?_
      ·refine Ai (wv (Ad Gm Aa G9 Aa Aa) (wv (Aq (i:=1) PD Aa Aa Aa) (wm Aa (A7 (ha.fOutside) (λhn=>?_) (λhn=>?_)))))
       ·refine wf hn (wf hn (wf hn (wf hn (wu (wu (wu (wu (wf hn (wv (r:=rB true) (Ao (b:=ha.fOutside) rfl hn rfl) (wv (Ad Gm rfl G9 rfl rfl) (B0 (i:=1) G9 rfl rfl (BV rfl) rfl rfl (cs':=[rI .i64 (max ha.fDepth ((he.length:Int)+1)),rI .i64 (IntKind.wrap .i64 (ha.fBytes+hh)),rB true,rB ha.fLong]) rfl (H':=[.blk hg (Ab (At v hd)) 50,.blk b2 [rI .i64 (max ha.fDepth ((he.length:Int)+1)),rI .i64 (IntKind.wrap .i64 (ha.fBytes+hh)),rB true,rB ha.fLong] 75,.blk b1 [rI .i64 0,rI .i64 0,rB false,rB false] 75,.row hf 104 5 (List.map A1 he)]) rfl (Aj (GA (H':=[.blk hg (Ab (At v hd)) 50,.blk b2 [rI .i64 (max ha.fDepth ((he.length:Int)+1)),rI .i64 (IntKind.wrap .i64 (ha.fBytes+hh)),rB (ha.fOutside||((decide (((At v hd).fKind)=3))&&(!(ov (Bx ((At v hd).fInt)))))),rB ha.fLong] 75,.blk b1 [rI .i64 0,rI .i64 0,rB false,rB false] 75,.row hf 104 5 (List.map A1 he)]) (by simp only[hn,U3,U6,UF,U4,UB,U8,UD,U9,Uy,U7,Uz,Uu]) ?_)))))))))))));exact wt
       ·refine wo hn (wv (Ad Bm Aa D4 Aa Aa) (wo hn (wv (Aq (i:=0) D5 Aa Aa Aa) (wo hn (wv (Bh Aa Aa) (wo hn (wm Aa (A7 (decide (((At v hd).fKind)=3)) (λho=>?_) (λho=>?_)))))))))
        ·refine wo ho (wv (Ad Bm rfl Cf rfl rfl) (wo ho (wv (Aq (i:=0) CC rfl rfl rfl) (wo ho (C9 Tryz.call55 (Q1 ((At v hd).fInt) (ov (Bx ((At v hd).fInt))) (D9 (Ch (CG g5 hn) ho))) rfl (wo ho (wv (BL rfl) (wo hn (EA rfl ho rfl (ET rfl hn rfl (wv (Ad Gm rfl G9 rfl rfl) (B0 (i:=1) G9 rfl rfl (BV rfl) rfl rfl (cs':=[rI .i64 (max ha.fDepth ((he.length:Int)+1)),rI .i64 (IntKind.wrap .i64 (ha.fBytes+hh)),rB (!(ov (Bx ((At v hd).fInt)))),rB ha.fLong]) rfl (H':=[.blk hg (Ab (At v hd)) 50,.blk b2 [rI .i64 (max ha.fDepth ((he.length:Int)+1)),rI .i64 (IntKind.wrap .i64 (ha.fBytes+hh)),rB (!(ov (Bx ((At v hd).fInt)))),rB ha.fLong] 75,.blk b1 [rI .i64 0,rI .i64 0,rB false,rB false] 75,.row hf 104 5 (List.map A1 he)]) rfl (Aj (GA (H':=[.blk hg (Ab (At v hd)) 50,.blk b2 [rI .i64 (max ha.fDepth ((he.length:Int)+1)),rI .i64 (IntKind.wrap .i64 (ha.fBytes+hh)),rB (ha.fOutside||((decide (((At v hd).fKind)=3))&&(!(ov (Bx ((At v hd).fInt)))))),rB ha.fLong] 75,.blk b1 [rI .i64 0,rI .i64 0,rB false,rB false] 75,.row hf 104 5 (List.map A1 he)]) (by simp only[hn,ho,U3,U6,UF,U4,UB,U8,UD,U9,Uy,U7,Uz,Uu]) ?_))))))))))))));exact wt
        ·refine wf ho (wf ho (wf ho (wf ho (wo hn (wv (r:=rB false) (Ar (b:=decide (((At v hd).fKind)=3)) rfl ho rfl) (ET rfl hn rfl (wv (Ad Gm rfl G9 rfl rfl) (B0 (i:=1) G9 rfl rfl (BV rfl) rfl rfl (cs':=[rI .i64 (max ha.fDepth ((he.length:Int)+1)),rI .i64 (IntKind.wrap .i64 (ha.fBytes+hh)),rB false,rB ha.fLong]) rfl (H':=[.blk hg (Ab (At v hd)) 50,.blk b2 [rI .i64 (max ha.fDepth ((he.length:Int)+1)),rI .i64 (IntKind.wrap .i64 (ha.fBytes+hh)),rB false,rB ha.fLong] 75,.blk b1 [rI .i64 0,rI .i64 0,rB false,rB false] 75,.row hf 104 5 (List.map A1 he)]) rfl (Aj (GA (H':=[.blk hg (Ab (At v hd)) 50,.blk b2 [rI .i64 (max ha.fDepth ((he.length:Int)+1)),rI .i64 (IntKind.wrap .i64 (ha.fBytes+hh)),rB (ha.fOutside||((decide (((At v hd).fKind)=3))&&(!(ov (Bx ((At v hd).fInt)))))),rB ha.fLong] 75,.blk b1 [rI .i64 0,rI .i64 0,rB false,rB false] 75,.row hf 104 5 (List.map A1 he)]) (by simp only[hn,ho,U3,U6,UF,U4,UB,U8,UD,U9,Uy,U7,Uz,Uu]) ?_))))))))));exact wt
      refine AB [(0,Bl 4 (List.map Ab v)),(3,rv (.pointer (some ⟨b1,0,none⟩))),(5,rv (.pointer (some ⟨b2,0,none⟩))),(6,rv hf),(7,rI .i64 hd),(8,rv (.pointer (some ⟨hg,0,none⟩))),(11,Bl 4 (List.map Ab v)),(12,rI .i64 (v.length:Int)),(13,rI .i64 hd),(92,rv (.pointer (some ⟨b2,1,none⟩))),(93,rI .i64 ha.fBytes),(94,Bo (Ab (At v hd))),(95,rI .i64 hh),(96,rI .i64 (IntKind.wrap .i64 (ha.fBytes+hh))),(97,rv (.pointer (some ⟨b2,1,none⟩)))] [.blk hg (Ab (At v hd)) 50,.blk b2 [rI .i64 (max ha.fDepth ((he.length:Int)+1)),rI .i64 (IntKind.wrap .i64 (ha.fBytes+hh)),rB (ha.fOutside||((decide (((At v hd).fKind)=3))&&(!(ov (Bx ((At v hd).fInt)))))),rB (ha.fLong||(decide (200<(((At v hd).fStr).length:Int))))] 75,.blk b1 [rI .i64 0,rI .i64 0,rB false,rB false] 75,.row hf 104 5 (List.map A1 he)] ?_ ?_
      ·refine Ai (wv (Ad Gm Aa G9 Aa Aa) (wv (Aq (i:=1) PD Aa Aa Aa) (wm Aa (A7 (ha.fLong) (λhq=>?_) (λhq=>?_)))))
       ·refine wf hq (wf hq (wf hq (wf hq (wv (r:=rB true) (Ao (b:=ha.fLong) rfl hq rfl) (wv (Ad Gm rfl G9 rfl rfl) (B0 (i:=1) G9 rfl rfl (BV rfl) rfl rfl (cs':=[rI .i64 (max ha.fDepth ((he.length:Int)+1)),rI .i64 (IntKind.wrap .i64 (ha.fBytes+hh)),rB (ha.fOutside||((decide (((At v hd).fKind)=3))&&(!(ov (Bx ((At v hd).fInt)))))),rB true]) rfl (H':=[.blk hg (Ab (At v hd)) 50,.blk b2 [rI .i64 (max ha.fDepth ((he.length:Int)+1)),rI .i64 (IntKind.wrap .i64 (ha.fBytes+hh)),rB (ha.fOutside||((decide (((At v hd).fKind)=3))&&(!(ov (Bx ((At v hd).fInt)))))),rB true] 75,.blk b1 [rI .i64 0,rI .i64 0,rB false,rB false] 75,.row hf 104 5 (List.map A1 he)]) rfl (Aj (GA (H':=[.blk hg (Ab (At v hd)) 50,.blk b2 [rI .i64 (max ha.fDepth ((he.length:Int)+1)),rI .i64 (IntKind.wrap .i64 (ha.fBytes+hh)),rB (ha.fOutside||((decide (((At v hd).fKind)=3))&&(!(ov (Bx ((At v hd).fInt)))))),rB (ha.fLong||(decide (200<(((At v hd).fStr).length:Int))))] 75,.blk b1 [rI .i64 0,rI .i64 0,rB false,rB false] 75,.row hf 104 5 (List.map A1 he)]) (by simp only[hq,U3,U6,UF,U4,UB,U8,UD,U9,Uy,U7,Uz,Uu]) ?_))))))));exact wt
       ·refine wo hq (wv (Ad Bm rfl BU rfl rfl) (wo hq (wv (Aq (i:=0) Cg rfl rfl rfl) (wo hq (wv (AZ Ce rfl) (wo hq (wv (C1 rfl rfl) (ET rfl hq rfl (wv (Ad Gm rfl G9 rfl rfl) (B0 (i:=1) G9 rfl rfl (BV rfl) rfl rfl (cs':=[rI .i64 (max ha.fDepth ((he.length:Int)+1)),rI .i64 (IntKind.wrap .i64 (ha.fBytes+hh)),rB (ha.fOutside||((decide (((At v hd).fKind)=3))&&(!(ov (Bx ((At v hd).fInt)))))),rB (decide (200<(((At v hd).fStr).length:Int)))]) rfl (H':=[.blk hg (Ab (At v hd)) 50,.blk b2 [rI .i64 (max ha.fDepth ((he.length:Int)+1)),rI .i64 (IntKind.wrap .i64 (ha.fBytes+hh)),rB (ha.fOutside||((decide (((At v hd).fKind)=3))&&(!(ov (Bx ((At v hd).fInt)))))),rB (decide (200<(((At v hd).fStr).length:Int)))] 75,.blk b1 [rI .i64 0,rI .i64 0,rB false,rB false] 75,.row hf 104 5 (List.map A1 he)]) rfl (Aj (GA (H':=[.blk hg (Ab (At v hd)) 50,.blk b2 [rI .i64 (max ha.fDepth ((he.length:Int)+1)),rI .i64 (IntKind.wrap .i64 (ha.fBytes+hh)),rB (ha.fOutside||((decide (((At v hd).fKind)=3))&&(!(ov (Bx ((At v hd).fInt)))))),rB (ha.fLong||(decide (200<(((At v hd).fStr).length:Int))))] 75,.blk b1 [rI .i64 0,rI .i64 0,rB false,rB false] 75,.row hf 104 5 (List.map A1 he)]) (by simp only[hq,U3,U6,UF,U4,UB,U8,UD,U9,Uy,U7,Uz,Uu]) ?_))))))))))));exact wt
      refine Am (Al (wv (Ad Bm Aa Cf Aa Aa) (wv (Aq (i:=0) CC Aa Aa Aa) (wv (C1 Aa Aa) (As (Au (b:=decide (0<((At v hd).fN))) Aa (λhH=>?_) (λhH=>?_)))))))
      ·have hT:=AE hH hS;refine Am (Al (wv (Ad Bm Aa Cf Aa Aa) (wv (Aq (i:=0) CC Aa Aa Aa) (wm Aa (wv (BB (ys:=v) (enc:=Ab) BN Aa) (wv (C1 Aa Aa) (As (Au (b:=decide ((v.length:Int)<((At v hd).fN))) Aa (λhI=>?_) (λhI=>?_)))))))))
       ·have g6:=AE hI hT;refine Am (Gd (H1:=[.blk hg (Ab (At v hd)) 50,.blk b2 [rI .i64 (max ha.fDepth ((he.length:Int)+1)),rI .i64 (IntKind.wrap .i64 (ha.fBytes+hh)),rB (ha.fOutside||((decide (((At v hd).fKind)=3))&&(!(ov (Bx ((At v hd).fInt)))))),rB (ha.fLong||(decide (200<(((At v hd).fStr).length:Int))))] 75,.blk b1 [rI .i64 (max ha.fDepth ((he.length:Int)+1)),rI .i64 (IntKind.wrap .i64 (ha.fBytes+hh)),rB (ha.fOutside||((decide (((At v hd).fKind)=3))&&(!(ov (Bx ((At v hd).fInt)))))),rB (ha.fLong||(decide (200<(((At v hd).fStr).length:Int))))] 75,.row hf 104 5 (List.map A1 he)]) [3,5] [⟨[],Bo [rI .i64 (max ha.fDepth ((he.length:Int)+1)),rI .i64 (IntKind.wrap .i64 (ha.fBytes+hh)),rB (ha.fOutside||((decide (((At v hd).fKind)=3))&&(!(ov (Bx ((At v hd).fInt)))))),rB (ha.fLong||(decide (200<(((At v hd).fStr).length:Int))))],1⟩,⟨[],rI .i64 0,0⟩,⟨[0],rv undef,2⟩,⟨[],rB false,0⟩] (rle [(3,_),(2,[.blk hg (Ab (At v hd)) 50,.blk b2 [rI .i64 (max ha.fDepth ((he.length:Int)+1)),rI .i64 (IntKind.wrap .i64 (ha.fBytes+hh)),rB (ha.fOutside||((decide (((At v hd).fKind)=3))&&(!(ov (Bx ((At v hd).fInt)))))),rB (ha.fLong||(decide (200<(((At v hd).fStr).length:Int))))] 75,.blk b1 [rI .i64 (max ha.fDepth ((he.length:Int)+1)),rI .i64 (IntKind.wrap .i64 (ha.fBytes+hh)),rB (ha.fOutside||((decide (((At v hd).fKind)=3))&&(!(ov (Bx ((At v hd).fInt)))))),rB (ha.fLong||(decide (200<(((At v hd).fStr).length:Int))))] 75,.row hf 104 5 (List.map A1 he)])]) [2,4,3] ?_ ?_)
        ·refine of (AS (i:=1) Le Hj Aa Aa Aa Aa) (oq (Ae Aa) (IH Aa (N9 (DD (i:=2) Hj Aa Aa Aa (BE.c Aa) Aa Aa (cs':=[rI .i64 (max ha.fDepth ((he.length:Int)+1)),rI .i64 (IntKind.wrap .i64 (ha.fBytes+hh)),rB (ha.fOutside||((decide (((At v hd).fKind)=3))&&(!(ov (Bx ((At v hd).fInt)))))),rB (ha.fLong||(decide (200<(((At v hd).fStr).length:Int))))]) Aa (H':=[.blk hg (Ab (At v hd)) 50,.blk b2 [rI .i64 (max ha.fDepth ((he.length:Int)+1)),rI .i64 (IntKind.wrap .i64 (ha.fBytes+hh)),rB (ha.fOutside||((decide (((At v hd).fKind)=3))&&(!(ov (Bx ((At v hd).fInt)))))),rB (ha.fLong||(decide (200<(((At v hd).fStr).length:Int))))] 75,.blk b1 [rI .i64 (max ha.fDepth ((he.length:Int)+1)),rI .i64 (IntKind.wrap .i64 (ha.fBytes+hh)),rB (ha.fOutside||((decide (((At v hd).fKind)=3))&&(!(ov (Bx ((At v hd).fInt)))))),rB (ha.fLong||(decide (200<(((At v hd).fStr).length:Int))))] 75,.row hf 104 5 (List.map A1 he)]) Aa)) ?_));refine oq (Ae Aa) ?_;exact BS
        refine AP (Ay (Af (Af (A5 (Af (Af (Bf ?_)))))));have g7:=B5 g6 hy hz;refine A5 (Af (H5 ?_));obtain rfl:=A0 g7;exact Ax (Rl PL (AM Aa) (Ev (i:=2) Le Hj Aa Aa Aa) (AM Aa)) (sS (sS (sS (sS sN)))) ⟨Aa,Aa⟩
       ·have g8:=AF hI hT;refine Aw (AP (Al (wm Aa (wv (Ad Bm Aa D4 Aa Aa) (wv (Aq (i:=0) D5 Aa Aa Aa) (wv (Bh Aa Aa) (wv (Ad Bm Aa Cf Aa Aa) (wv (Aq (i:=0) CC Aa Aa Aa) (wv (Ad Bm Aa D4 Aa Aa) (wv (Aq (i:=0) D5 Aa Aa Aa) (wv (Bh Aa Aa) (wv (r:=Bo [rB (decide (((At v hd).fKind)=6)),rI .i64 ((At v hd).fN),rB (decide (((At v hd).fKind)=6)),rS ([]:Ak),rB false]) (Jk Aa Aa Aa Aa Aa Aa) (Bp (ys:=([(A3.mk (decide (((At v hd).fKind)=6)) ((At v hd).fN) (decide (((At v hd).fKind)=6)) ([]:Ak) false)]:List A3)) (enc:=A1) (css:=[[rB (decide (((At v hd).fKind)=6)),rI .i64 ((At v hd).fN),rB (decide (((At v hd).fKind)=6)),rS ([]:Ak),rB false]]) (xs:=[.tmp 139]) GZ Mo Tryz.zeroValue104 Aa Aa Aa ⟨Gk.agg ⟨Up.refl _,Up.refl _,Up.refl _,Up.refl _,Up.refl _,trivial⟩,trivial⟩ Aa Hg Aa Aa Aa (λg9=>?_))))))))))))));obtain⟨gA,gB⟩:=Az g8;obtain⟨inf,hinf⟩:=RO;refine Ck (xs:=he) (ys:=([(A3.mk (decide (((At v hd).fKind)=6)) ((At v hd).fN) (decide (((At v hd).fKind)=6)) ([]:Ak) false)]:List A3)) (enc:=A1) (i:=4) GZ hinf.1 hinf.2.1 hinf.2.2.1 hinf.2.2.2 Aa Aa Aa Aa Aa (Jw.w (i:=0) Aa Aa) Hg JQ gA Aa (λhU=>?_);exact wa Aa (As (B4 (A4 (Bi (CH (H2:=[.blk b2 [rI .i64 (max ha.fDepth ((he.length:Int)+1)),rI .i64 (IntKind.wrap .i64 (ha.fBytes+hh)),rB (ha.fOutside||((decide (((At v hd).fKind)=3))&&(!(ov (Bx ((At v hd).fInt)))))),rB (ha.fLong||(decide (200<(((At v hd).fStr).length:Int))))] 75,.blk b1 [rI .i64 0,rI .i64 0,rB false,rB false] 75,.row hU 104 5 (List.map A1 (he++([(A3.mk (decide (((At v hd).fKind)=6)) ((At v hd).fN) (decide (((At v hd).fKind)=6)) ([]:Ak) false)]:List A3))),.row (.slice (some ⟨g9,0,none⟩) 1 1) 104 5 (List.map A1 ([(A3.mk (decide (((At v hd).fKind)=6)) ((At v hd).fN) (decide (((At v hd).fKind)=6)) ([]:Ak) false)]:List A3)),.blk hg (Ab (At v hd)) 50]) ((AC (i:=3) Aa).trans (Uv _ ((AC (i:=3) Aa).trans (Uv _ (Ur _))))) (Ap (AI ((he++([(A3.mk (decide (((At v hd).fKind)=6)) ((At v hd).fN) (decide (((At v hd).fKind)=6)) ([]:Ak) false)]:List A3),(A8.mk (max ha.fDepth ((he.length:Int)+1)) (IntKind.wrap .i64 (ha.fBytes+hh)) (ha.fOutside||((decide (((At v hd).fKind)=3))&&(!(ov (Bx ((At v hd).fInt)))))) (ha.fLong||(decide (200<(((At v hd).fStr).length:Int)))))),hU) gB (AK.c Aa (AK.c Aa (AK.c5 Aa Aa Aa Aa Aa AK.nil))) (sC (sC (sC (sS (sS sN))))))))))))
      ·have gC:=AF hH hS;refine Aw (AP (Al (wm Aa ?_)));obtain⟨hw,gD,hV⟩:=AH gC;refine Hk (Hr:=[.blk hg (Ab (At v hd)) 50,.blk b2 [rI .i64 (max ha.fDepth ((he.length:Int)+1)),rI .i64 (IntKind.wrap .i64 (ha.fBytes+hh)),rB (ha.fOutside||((decide (((At v hd).fKind)=3))&&(!(ov (Bx ((At v hd).fInt)))))),rB (ha.fLong||(decide (200<(((At v hd).fStr).length:Int))))] 75,.blk b1 [rI .i64 0,rI .i64 0,rB false,rB false] 75]) Tryz.call78 (OL F hf he hw gD) Aa ((AC (i:=3) Aa).trans (Uv _ (Ur _))) Aa ?_;rintro _ _ ⟨h6,rfl,rfl⟩;refine wa Aa (Bv (wm Aa (wv (CL (ys:=hw) (enc:=A1) (i:=0) GZ Aa Aa) (wv (Bh Aa Aa) (As (Au (b:=decide ((hw.length:Int)=0)) Aa (λhJ=>?_) (λhJ=>?_)))))))
       ·have gE:=AE hJ hV;refine Am ?_;obtain⟨gF,gG⟩:=Az gE;refine Gd (H1:=[.row h6 104 5 (List.map A1 hw),.blk hg (Ab (At v hd)) 50,.blk b2 [rI .i64 (max ha.fDepth ((he.length:Int)+1)),rI .i64 (IntKind.wrap .i64 (ha.fBytes+hh)),rB (ha.fOutside||((decide (((At v hd).fKind)=3))&&(!(ov (Bx ((At v hd).fInt)))))),rB (ha.fLong||(decide (200<(((At v hd).fStr).length:Int))))] 75,.blk b1 [rI .i64 (max ha.fDepth ((he.length:Int)+1)),rI .i64 (IntKind.wrap .i64 (ha.fBytes+hh)),rB (ha.fOutside||((decide (((At v hd).fKind)=3))&&(!(ov (Bx ((At v hd).fInt)))))),rB (ha.fLong||(decide (200<(((At v hd).fStr).length:Int))))] 75]) [3,5,7] [⟨[],rI .i64 hd,0⟩,⟨[0],rI .i64 (hd+1),0⟩,⟨[],Bo [rI .i64 (max ha.fDepth ((he.length:Int)+1)),rI .i64 (IntKind.wrap .i64 (ha.fBytes+hh)),rB (ha.fOutside||((decide (((At v hd).fKind)=3))&&(!(ov (Bx ((At v hd).fInt)))))),rB (ha.fLong||(decide (200<(((At v hd).fStr).length:Int))))],1⟩,⟨[1],rI .i64 (hd+1),0⟩,⟨[2],rv undef,2⟩,⟨[],rB true,0⟩] (rle [(5,_),(2,[.row h6 104 5 (List.map A1 hw),.blk hg (Ab (At v hd)) 50,.blk b2 [rI .i64 (max ha.fDepth ((he.length:Int)+1)),rI .i64 (IntKind.wrap .i64 (ha.fBytes+hh)),rB (ha.fOutside||((decide (((At v hd).fKind)=3))&&(!(ov (Bx ((At v hd).fInt)))))),rB (ha.fLong||(decide (200<(((At v hd).fStr).length:Int))))] 75,.blk b1 [rI .i64 (max ha.fDepth ((he.length:Int)+1)),rI .i64 (IntKind.wrap .i64 (ha.fBytes+hh)),rB (ha.fOutside||((decide (((At v hd).fKind)=3))&&(!(ov (Bx ((At v hd).fInt)))))),rB (ha.fLong||(decide (200<(((At v hd).fStr).length:Int))))] 75])]) [2,4,3] ?_ ?_
        ·refine oq (Ah Aa) (oq (Bu Aa Aa gF) (of (AS (i:=2) Le Hj Aa Aa Aa Aa) (oq (Ae Aa) (IH Aa (N9 (DD (i:=3) Hj Aa Aa Aa (BE.c Aa) Aa Aa (cs':=[rI .i64 (max ha.fDepth ((he.length:Int)+1)),rI .i64 (IntKind.wrap .i64 (ha.fBytes+hh)),rB (ha.fOutside||((decide (((At v hd).fKind)=3))&&(!(ov (Bx ((At v hd).fInt)))))),rB (ha.fLong||(decide (200<(((At v hd).fStr).length:Int))))]) Aa (H':=[.row h6 104 5 (List.map A1 hw),.blk hg (Ab (At v hd)) 50,.blk b2 [rI .i64 (max ha.fDepth ((he.length:Int)+1)),rI .i64 (IntKind.wrap .i64 (ha.fBytes+hh)),rB (ha.fOutside||((decide (((At v hd).fKind)=3))&&(!(ov (Bx ((At v hd).fInt)))))),rB (ha.fLong||(decide (200<(((At v hd).fStr).length:Int))))] 75,.blk b1 [rI .i64 (max ha.fDepth ((he.length:Int)+1)),rI .i64 (IntKind.wrap .i64 (ha.fBytes+hh)),rB (ha.fOutside||((decide (((At v hd).fKind)=3))&&(!(ov (Bx ((At v hd).fInt)))))),rB (ha.fLong||(decide (200<(((At v hd).fStr).length:Int))))] 75]) Aa)) ?_))));refine oq (Ae Aa) ?_;exact BS
        refine AP (Ay (A5 (Af (Af (Bf ?_)))));have gH:=B5 gG hy hz;refine A5 (Af (H5 ?_));obtain rfl:=A0 gH;exact Ax (Rl PL (AM Aa) (Ev (i:=3) Le Hj Aa Aa Aa) (AM Aa)) (sS (sS (sS (sS sN)))) ⟨Aa,Aa⟩
       ·have gI:=AF hJ hV;exact Aw (AG (CH (H2:=[.blk b2 [rI .i64 (max ha.fDepth ((he.length:Int)+1)),rI .i64 (IntKind.wrap .i64 (ha.fBytes+hh)),rB (ha.fOutside||((decide (((At v hd).fKind)=3))&&(!(ov (Bx ((At v hd).fInt)))))),rB (ha.fLong||(decide (200<(((At v hd).fStr).length:Int))))] 75,.blk b1 [rI .i64 0,rI .i64 0,rB false,rB false] 75,.row h6 104 5 (List.map A1 hw),.blk hg (Ab (At v hd)) 50]) ((AC (i:=2) Aa).trans (Uv _ ((AC (i:=2) Aa).trans (Uv _ (Ur _))))) (Ap (AI ((hw,(A8.mk (max ha.fDepth ((he.length:Int)+1)) (IntKind.wrap .i64 (ha.fBytes+hh)) (ha.fOutside||((decide (((At v hd).fKind)=3))&&(!(ov (Bx ((At v hd).fInt)))))) (ha.fLong||(decide (200<(((At v hd).fStr).length:Int)))))),h6) gI (AK.c Aa (AK.c Aa (AK.c5 Aa Aa Aa Aa Aa AK.nil))) (sC (sC (sC (sS sN))))))))
   ·rintro⟨⟨hK,hL⟩,hN⟩ h8;refine AR (l':=[(0,Bl 4 (List.map Ab v)),(3,rv (.pointer (some ⟨b1,0,none⟩))),(5,rv (.pointer (some ⟨b2,0,none⟩))),(6,rv hN),(11,Bl 4 (List.map Ab v)),(12,rI .i64 (v.length:Int)),(13,rI .i64 hd)]) (H':=[.blk b2 (AN hL) 75,.blk b1 [rI .i64 0,rI .i64 0,rB false,rB false] 75,.row hN 104 5 (List.map A1 hK)]) Aa Aa ?_;replace h8:D7 hd hK hL=some hA:=h8;unfold D7 at h8;refine Ai ?_;obtain⟨gJ,gK⟩:=Az h8;refine wv (Bu Aa Aa gJ) (wm Aa (Aj ?_));have gL:=Bk gK hy;exact Ap (AI (hZ,(hK,hd+1,hL),hN) ⟨gL,U0 _⟩ (AK.c Aa (AK.c Aa (AK.c5 Aa Aa Aa Aa Aa AK.nil))) (sC (sC (sC sN))))
  ·have gM:=AF hB h0;refine B4 (A4 ?_);have gN:=Cv gM hy hz;exact A4 (Bt (AI (ha,()) gN (AK.c Aa (AK.c Aa AK.nil)) (sC (sC (sS sN)))))
 ·rintro⟨hr,⟨⟩⟩ h9;refine Dd (l':=[(3,rv (.pointer (some ⟨b1,0,none⟩))),(5,rv (.pointer (some ⟨b2,0,none⟩)))]) (H':=[.blk b2 (AN hr) 75,.blk b1 [rI .i64 0,rI .i64 0,rB false,rB false] 75]) Aa Aa ?_;replace h9:I0 hr=some r:=h9;unfold I0 at h9;refine Bi (AP (Am (Gd (H1:=[.blk b2 (AN hr) 75,.blk b1 (AN hr) 75]) [3,5] [⟨[],Bo (AN hr),1⟩,⟨[],rI .i64 0,0⟩,⟨[0],rv undef,2⟩,⟨[],rB false,0⟩] (rle [(3,_),(2,[.blk b2 (AN hr) 75,.blk b1 (AN hr) 75])]) [2,4,3] ?_ ?_)))
  ·refine of (AS (i:=0) Le Hj Aa Aa Aa Aa) (oq (Ae Aa) (IH Aa (N9 (DD (i:=1) Hj Aa Aa Aa (BE.c Aa) Aa Aa (cs':=[rI .i64 hr.fDepth,rI .i64 hr.fBytes,rB hr.fOutside,rB hr.fLong]) Aa (H':=[.blk b2 (AN hr) 75,.blk b1 (AN hr) 75]) Aa)) ?_));refine oq (Ae Aa) ?_;exact BS
  refine AP (Ay (H5 ?_));obtain rfl:=A0 h9;exact Ax (Rl PL (AM Aa) (Ev (i:=1) Le Hj Aa Aa Aa) (AM Aa)) (sS (sS sN)) ⟨Aa,Aa⟩
theorem K2 (F:Nat)(v:(List Ac))(r:Int)(h:Ig F v=some r):Fn Tryz.prog GE 30 [Bl 4 (List.map Ab v)] [] (λR H=>R=rI .i64 r∧H=[]):=by
 refine enter (n:=42) Tryz.func30 Aa Tryz.ntmps30 Aa (λw Z=>?_);refine AR (l':=[(0,Bl 4 (List.map Ab v))]) (H':=[]) Aa Aa ?_;unfold Ig at h;refine Al (wv (r:=rI .i64 0) (Ae Aa) (Bv (wm Aa ?_)));obtain⟨r1,e3,h2⟩:=AH h;refine C9 Tryz.call49 (LI F v r1 e3) Aa (wm Aa (wv (AD Aa Aa) (wv (AD Aa Aa) (wv (AD Aa Aa) (Ci (cs:=[rI .i64 0,rI .i64 0,rB false,rB false]) PF Aa Aa (λb4=>?_))))));refine wa Aa (Bg (i:=0) Hj Aa Aa Aa (BE.c Aa) Aa Aa (cs':=[rI .i64 r1.2.1.fDepth,rI .i64 r1.2.1.fBytes,rB r1.2.1.fOutside,rB r1.2.1.fLong]) Aa (H':=[.blk b4 (AN r1.2.1) 75]) Aa (wa Aa (As (Am (AJ (AB [(0,Bl 4 (List.map Ab v)),(4,rv (.pointer (some ⟨b4,0,none⟩))),(12,rB ((!r1.2.2)||(!decide (r1.1=(v.length:Int)))))] [.blk b4 (AN r1.2.1) 75] ?_ ?_))))))
 ·refine Ai (wm Aa (wv (BL Aa) (wm Aa (A7 (!r1.2.2) (λc5=>?_) (λc5=>?_)))))
  ·refine wf c5 (wf c5 (wf c5 (wf c5 (wv (r:=rB true) (Ao (b:=!r1.2.2) Aa c5 Aa) (wa Aa (Aj ?_))))));exact BO c5
  ·refine wo c5 (wm Aa (wo c5 (wm Aa (wo c5 (wv (BB (ys:=v) (enc:=Ab) BN Aa) (wo c5 (wv (DB Aa Aa) (ET Aa c5 Aa (wa Aa (Aj ?_))))))))));exact BO c5
 refine Au (b:=((!r1.2.2)||(!decide (r1.1=(v.length:Int))))) Aa (λc6=>?_) (λc6=>?_)
 ·have h7:=AE c6 h2;refine Al (wv (r:=rI .i64 1) (Ae Aa) (As (Ay (A5 (Af ?_)))));obtain rfl:=A0 h7;exact Ax (BG Rr (AM Aa)) (sS sN) ⟨Aa,Aa⟩
 ·have h8:=AF c6 h2;refine Al (wv (Ad Gm Aa G9 Aa Aa) (wv (Aq (i:=0) PD Aa Aa Aa) (wa Aa (As (Au (b:=r1.2.1.fOutside) Aa (λc9=>?_) (λc9=>?_))))))
  ·have hh:=AE c9 h8;refine Al (wv (r:=rI .i64 2) (Ae Aa) (As (Ay (A5 (Af ?_)))));obtain rfl:=A0 hh;exact Ax (BG Rr (AM Aa)) (sS sN) ⟨Aa,Aa⟩
  ·have hg:=AF c9 h8;refine AB [(24,rB (r1.2.1.fLong||((decide (200<(v.length:Int)))||((decide (8<r1.2.1.fDepth))||(decide (4000<r1.2.1.fBytes))))))] [] ?_ ?_
   ·refine Ai (wv (Ad Gm Aa G9 Aa Aa) (wv (Aq (i:=0) PD Aa Aa Aa) (wm Aa (A7 (r1.2.1.fLong) (λha=>?_) (λha=>?_)))))
    ·refine wf ha (wf ha (wf ha (wv (r:=rB true) (Ao (b:=r1.2.1.fLong) Aa ha Aa) (wm Aa (Ag (b:=true) Aa Aa Aa Aa (Ag (b:=true) Aa Aa Aa Aa (Ag (b:=true) Aa Aa Aa Aa (wv (r:=rB true) (Ao (b:=true) Aa Aa Aa) (wm Aa (Ag (b:=true) Aa Aa Aa Aa (Ag (b:=true) Aa Aa Aa Aa (Ag (b:=true) Aa Aa Aa Aa (wv (r:=rB true) (Ao (b:=true) Aa Aa Aa) (wa Aa (Aj ?_)))))))))))))));exact BO ha
    ·refine wo ha (wm Aa (wo ha (wv (BB (ys:=v) (enc:=Ab) BN Aa) (wo ha (wv (C1 Aa Aa) (ET Aa ha Aa (wm Aa (A7 (decide (200<(v.length:Int))) (λhd=>?_) (λhd=>?_)))))))))
     ·refine wf hd (wf hd (wf hd (wv (r:=rB true) (Ao (b:=decide (200<(v.length:Int))) Aa hd Aa) (wm Aa (Ag (b:=true) Aa Aa Aa Aa (Ag (b:=true) Aa Aa Aa Aa (Ag (b:=true) Aa Aa Aa Aa (wv (r:=rB true) (Ao (b:=true) Aa Aa Aa) (wa Aa (Aj ?_))))))))));exact BO (And.intro ha hd)
     ·refine wo hd (wv (Ad Gm Aa Cf Aa Aa) (wo hd (wv (Aq (i:=0) CC Aa Aa Aa) (wo hd (wv (C1 Aa Aa) (ET Aa hd Aa (wm Aa (A7 (decide (8<r1.2.1.fDepth)) (λhe=>?_) (λhe=>?_)))))))))
      ·refine wf he (wf he (wf he (wv (r:=rB true) (Ao (b:=decide (8<r1.2.1.fDepth)) Aa he Aa) (wa Aa (Aj ?_)))));exact BO (And.intro ha (And.intro hd he))
      ·refine wo he (wv (Ad Gm Aa Cf Aa Aa) (wo he (wv (Aq (i:=0) CC Aa Aa Aa) (wo he (wv (C1 Aa Aa) (ET Aa he Aa (wa Aa (Aj ?_))))))));exact BO (And.intro ha (And.intro hd he))
   refine Au (b:=(r1.2.1.fLong||((decide (200<(v.length:Int)))||((decide (8<r1.2.1.fDepth))||(decide (4000<r1.2.1.fBytes)))))) Aa (λhf=>?_) (λhf=>?_)
   ·have hi:=AE hf hg;refine Al (wv (r:=rI .i64 3) (Ae Aa) (As (Ay (A5 (Af ?_)))));obtain rfl:=A0 hi;exact Ax (BG Rr (AM Aa)) sN ⟨Aa,Aa⟩
   ·have hj:=AF hf hg;refine Aw (AG (AP (Al (wv (r:=rI .i64 0) (Ae Aa) (As (Ay ?_))))));obtain rfl:=A0 hj;exact Ax (BG Rr (AM Aa)) sN ⟨Aa,Aa⟩
theorem Ny (F:Nat)(v:(List Ac))(r:(List Ac)×Int)(h:K1 F v=some r):Fn Tryz.prog GE 57 [Bl 4 (List.map Ab v)] [] (λR H=>R=CV [Bl 4 (List.map Ab r.1),rI .i64 r.2]∧H=[]):=by
 refine enter (n:=11) Tryz.func57 Aa Tryz.ntmps57 Aa (λw Z=>?_);refine AR (l':=[(0,Bl 4 (List.map Ab v))]) (H':=[]) Aa Aa ?_;unfold K1 at h;refine Al (wv (r:=rv (.slice none 0 0)) (Ae Aa) (wv (r:=rI .i64 0) (Ae Aa) (As (Am (Al (wm Aa ?_))))));obtain⟨r1,e3,h2⟩:=AH h;refine C9 Tryz.call30 (K2 F v r1 e3) Aa (wa Aa (Bv (wm Aa (wv (DB Aa Aa) (As (Au (b:=!decide (r1=0)) Aa (λc4=>?_) (λc4=>?_)))))))
 ·have h5:=AE c4 h2;refine Al (wm Aa (wv (r:=rv (.slice none 0 0)) (Ae Aa) (wa Aa (As (Ay (Af (WK.up (d:=2) (r:=Bl 4 (List.map Ab ([]:List Ac))) Aa (Up.le (Hi.nil _)) ?_)))))));obtain rfl:=A0 h5;exact Ax (El Tryz.results57 (AM Aa) (AM Aa)) sN ⟨Aa,Aa⟩
 ·have h6:=AF c4 h2;refine Aw (AP (Al (wm Aa (wa Aa (wv (r:=rI .i64 0) (Ae Aa) (As (Ay ?_)))))));obtain rfl:=A0 h6;exact Ax (El Tryz.results57 (AM Aa) (AM Aa)) sN ⟨Aa,Aa⟩
end Go.Proofs.YtailcjmjkmjelaaGreatDoor.Q
namespace Go.Proofs.YtailcjmjkmjelaaGreatDoor
open Go
set_option linter.unusedVariables false
def CJ (s:Ak)(ha:Int)(hd:Ak):Option (Stp (Int×Ak) (Out (Ak) (Ak))):=
 B1 (decide (ha<(s.length:Int))) (AW (Da ha (s.length:Int))<|B1 (((decide ((AY s ha)=34))||(decide ((AY s ha)=92)))) (AW (D1 1 (hd.length+1))<|AW (B6 .u8 92)<|IX (hd++[UInt8.ofNat (Int.toNat 92)]) λhe=>AW (D1 1 (he.length+1))<|AW (B6 .u8 (AY s ha))<|IX (he++[UInt8.ofNat (Int.toNat (AY s ha))]) λhf=>AW (B6 .i64 (ha+1))<|some (.next (ha+1,hf))) (AW (D1 1 (hd.length+1))<|AW (B6 .u8 (AY s ha))<|IX (hd++[UInt8.ofNat (Int.toNat (AY s ha))]) λhg=>AW (B6 .i64 (ha+1))<|some (.next (ha+1,hg)))) (some (.out (.go hd)))
def DL (ha:Ak):Option (Ak):=
 AW (D1 1 (ha.length+1))<|IX (ha++[UInt8.ofNat (Int.toNat 34)]) λhd=>some hd
def If (F:Nat)(l:Ak)(s:Ak):Option (Ak):=
 AW (D1 1 (l.length+1))<|AW (B6 .u8 34)<|IX (l++[UInt8.ofNat (Int.toNat 34)]) λr6=>B3 (Cn (λσ=>CJ s σ.1 σ.2) F (0,r6)) (BY λν=>DL ν)
def H8 (F:Nat)(hn:Ak→(List Ac)→Bool→Ak→Ac→Option (Bool×Bool×Ak))(ha:(List Ac)→Bool→Ak→Ac→Option (Bool×Ak))(l:Ak)(v:(List Ac)):Option (Ak):=
 AW (Da 0 (v.length:Int))<|B1 (decide (((At v 0).fKind)=1)) (AW (D1 1 (l.length+([110,117,108,108]:Ak).length))<|IX (l++([110,117,108,108]:Ak)) λhf=>some hf) (B1 (decide (((At v 0).fKind)=2)) (AW (Da ((At v 0).fInt) (([([102,97,108,115,101]:Ak),([116,114,117,101]:Ak)]:List Ak).length:Int))<|AW (D1 1 (l.length+(At ([([102,97,108,115,101]:Ak),([116,114,117,101]:Ak)]:List Ak) ((At v 0).fInt)).length))<|IX (l++(At ([([102,97,108,115,101]:Ak),([116,114,117,101]:Ak)]:List Ak) ((At v 0).fInt))) λhg=>some hg) (B1 (decide (((At v 0).fKind)=3)) (AW (B6 .i64 ((At v 0).fInt))<|AW (D1 1 (l.length+(Lib.itoa ((At v 0).fInt)).length))<|IX (l++(Lib.itoa ((At v 0).fInt))) λhh=>some hh) (B1 (decide (((At v 0).fKind)=4)) (B3 (If F l ((At v 0).fStr)) λhi=>some hi) (B1 (decide (((At v 0).fKind)=6)) (AW (Da 0 (([123,125]:Ak).length:Int))<|AW (D1 1 (l.length+1))<|AW (B6 .u8 (AY ([123,125]:Ak) 0))<|IX (l++[UInt8.ofNat (Int.toNat (AY ([123,125]:Ak) 0))]) λhj=>B3 (ha v true hj (At v 0)) λhd=>AW (Da 1 (([123,125]:Ak).length:Int))<|AW (D1 1 (hd.2.length+1))<|AW (B6 .u8 (AY ([123,125]:Ak) 1))<|IX (hd.2++[UInt8.ofNat (Int.toNat (AY ([123,125]:Ak) 1))]) λhk=>some hk) (AW (Da 0 (([91,93]:Ak).length:Int))<|AW (D1 1 (l.length+1))<|AW (B6 .u8 (AY ([91,93]:Ak) 0))<|IX (l++[UInt8.ofNat (Int.toNat (AY ([91,93]:Ak) 0))]) λhl=>B3 (ha v true hl (At v 0)) λhe=>AW (Da 1 (([91,93]:Ak).length:Int))<|AW (D1 1 (he.2.length+1))<|AW (B6 .u8 (AY ([91,93]:Ak) 1))<|IX (he.2++[UInt8.ofNat (Int.toNat (AY ([91,93]:Ak) 1))]) λhm=>some hm)))))
def Iu (F:Nat)(ha:Ak→(List Ac)→Option (Ak))(key:Ak)(x:(List Ac))(first:Bool)(l:Ak)(c:Ac):Option (Bool×Bool×Ak):=
 B1 (!first) (AW (D1 1 (l.length+1))<|AW (B6 .u8 44)<|IX (l++[UInt8.ofNat (Int.toNat 44)]) λr8=>B1 (decide (c.fKind=6)) (B3 (If F r8 key) λhd=>AW (D1 1 (hd.length+1))<|AW (B6 .u8 58)<|IX (hd++[UInt8.ofNat (Int.toNat 58)]) λhf=>B3 (ha hf x) λhg=>some (true,false,hg)) (B3 (ha r8 x) λhh=>some (true,false,hh))) (B1 (decide (c.fKind=6)) (B3 (If F l key) λhe=>AW (D1 1 (he.length+1))<|AW (B6 .u8 58)<|IX (he++[UInt8.ofNat (Int.toNat 58)]) λhi=>B3 (ha hi x) λhj=>some (true,false,hj)) (B3 (ha l x) λhk=>some (true,false,hk)))
def CT (F:Nat)(v:(List Ac))(c:Ac)(hk:Ak→(List Ac)→Bool→Ak→Ac→Option (Bool×Bool×Ak))(ha:Int)(hd:Int)(hi:Bool)(hj:Ak):Option (Stp (Int×Int×Bool×Ak) (Out (Bool×Ak) (Bool×Ak))):=
 B1 (decide (hd<((At v 0).fN))) (B1 (decide (((At v 0).fKind)=6)) (AW (Da ha (v.length:Int))<|AW (B6 .i64 (ha+1))<|AW (Hf (ha+1) (v.length:Int))<|B3 (Ha F (List.drop (Int.toNat (ha+1)) v)) λhe=>AW (B6 .i64 ((ha+1)+he.1))<|AW (Hf (ha+1) ((ha+1)+he.1))<|AW (Hf ((ha+1)+he.1) (v.length:Int))<|B3 (hk ((At v ha).fStr) (List.take (Int.toNat ((ha+1)+he.1)-Int.toNat (ha+1)) (List.drop (Int.toNat (ha+1)) v)) hi hj c) λhf=>B1 (!hf.1) (some (.out (.ret (hf.2.1,hf.2.2)))) (AW (B6 .i64 (hd+1))<|some (.next ((ha+1)+he.1,hd+1,hf.2.1,hf.2.2)))) (AW (Hf ha (v.length:Int))<|B3 (Ha F (List.drop (Int.toNat ha) v)) λhg=>AW (B6 .i64 (ha+hg.1))<|AW (Hf ha (ha+hg.1))<|AW (Hf (ha+hg.1) (v.length:Int))<|B3 (hk ([]:Ak) (List.take (Int.toNat (ha+hg.1)-Int.toNat ha) (List.drop (Int.toNat ha) v)) hi hj c) λhh=>B1 (!hh.1) (some (.out (.ret (hh.2.1,hh.2.2)))) (AW (B6 .i64 (hd+1))<|some (.next (ha+hg.1,hd+1,hh.2.1,hh.2.2))))) (some (.out (.go (hi,hj))))
def ED (ha:Bool)(hd:Ak):Option (Bool×Ak):=
 some (ha,hd)
def Gp (F:Nat)(ha:Ak→(List Ac)→Bool→Ak→Ac→Option (Bool×Bool×Ak))(v:(List Ac))(first:Bool)(l:Ak)(c:Ac):Option (Bool×Ak):=
 AW (Da 0 (v.length:Int))<|B3 (Cn (λσ=>CT F v c ha σ.1 σ.2.1 σ.2.2.1 σ.2.2.2) F (1,0,first,l)) (BY λν=>ED ν.1 ν.2)
mutual
def Ee:Nat→Ak→(List Ac)→Option (Ak)
 | 0,_,_=>none
 | nn+1,l,v=>H8 nn (DF nn) (Ez nn) l v
def DF:Nat→Ak→(List Ac)→Bool→Ak→Ac→Option (Bool×Bool×Ak)
 | 0,_,_,_,_,_=>none
 | nn+1,key,x,first,l,c=>Iu nn (Ee nn) key x first l c
def Ez:Nat→(List Ac)→Bool→Ak→Ac→Option (Bool×Ak)
 | 0,_,_,_,_=>none
 | nn+1,v,first,l,c=>Gp nn (DF nn) v first l c
end
def I1 (F:Nat)(v:(List Ac)):Option (Ak×Int):=
 B3 (Ig F v) λr1=>B1 (!decide (r1=0)) (some (([]:Ak),r1)) (B3 (Ee F ([]:Ak) v) λr8=>AW (decide (0<r8.length))<|some (r8,0))
end Go.Proofs.YtailcjmjkmjelaaGreatDoor
