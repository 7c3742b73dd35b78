/-
  Texts of the proof, put together: PlC, IdC, ShelfV, PlD, PlE, FwJ, IdR, QG, QO, RowQ, PQB, WQB, PVa, WVa, PVb, WVb, PVc, WVc, PVd.
-/
import Derived.Test.YtghdglcmblpbeaaGreatDoorFT1
import Derived.Lib.AtoiAllCases
import Derived.Lib.ItoaNum
import Derived.Lib.ItoaLen
import Derived.Shelf.Strings.Builder1
import Derived.Shelf.Strings.Count
import Derived.Shelf.Strings.Search1
import Derived.Shelf.Strings.Search2
import Derived.Shelf.Strings.Search3
import Derived.Shelf.Small.Strs
import Derived.Shelf.LaysM
import Derived.Shelf.LaysC
import Derived.Test.YtghdglcmblpbeaaGreatDoorProg
import Derived.Lib.ItoaMem
import Derived.Deep.Slices
import Derived.ChangeArms
import Derived.DataReads
import Derived.Laws.Tables
import Derived.Lib.Bytealg
import Derived.Lib.SmallJoins
namespace Go.Proofs.YtghdglcmblpbeaaGreatDoor
open Go
def VB (p:List UInt8):Bool:=decide ((0:Int)<p.length)&&decide (BA p 0=45)
def NI (p:List UInt8):List UInt8:=if VB p=true then p.drop 1 else p
theorem Y1 (p:List UInt8):(NI p).length≤p.length:=by unfold NI;split<;>simp
def Gm (_:Nat)(u:UInt8):Bool:=!(decide ((u.toNat:Int)<48)||decide (57<(u.toNat:Int)))
def PS (p:List UInt8):Bool:=!(decide (NI p=[])||(decide (BA (NI p) 0=48)&&!decide (p=[48])))&&Ct Gm 0 (NI p)
theorem IO {p:List UInt8}(h : ¬ p=[]):(0:Int)<p.length:=by
 cases p with
 | nil=>exact absurd rfl h
 | cons a r=>simp
theorem QM {p:List UInt8}{k:Nat}(h:(k:Int)<p.length):∃u,p[k]? =some u:=⟨p[k]'(by omega),AcS (by omega)⟩
theorem Y2 {p:List UInt8}{k:Nat}(hi:k≤p.length∧Ct Gm 0 p=Ct Gm k (p.drop k))(h:(k:Int)<p.length)(ht:(decide (BA p k<48)||decide (57<BA p k))=false) :
  (k+1≤p.length∧Ct Gm 0 p=Ct Gm (k+1) (p.drop (k+1)))∧p.length-(k+1)<p.length-k:=by
 obtain⟨u,hu⟩:=QM h;rw[YJ hu] at ht;exact Xo hi hu (by simp only[Gm,ht];rfl)
theorem Abq {p:List UInt8}{k:Nat}(hi:k≤p.length∧Ct Gm 0 p=Ct Gm k (p.drop k))(h:(k:Int)<p.length)(ht:(decide (BA p k<48)||decide (57<BA p k))=true):Ct Gm 0 p=false:=by
 obtain⟨u,hu⟩:=QM h;rw[YJ hu] at ht;exact Aa6 hi hu (by simp only[Gm,ht];rfl)
theorem ZR {p:List UInt8}{k:Nat}(hi:k≤p.length∧Ct Gm 0 p=Ct Gm k (p.drop k))(h : ¬ (k:Int)<p.length):Ct Gm 0 p=true:=Zp hi (by omega)
def CO (p:List UInt8):Int:=if PS p=true then(match Lib.atoiAll p with | .ok v=>if Hk v=true then 0 else 2 | _=>2) else 1
def Da (p:List UInt8):Int:=if PS p=true then(match Lib.atoiAll p with | .ok v=>if Hk v=true then v else 0 | _=>0) else 0
theorem PQ:∀(l:List UInt8) (i acc:Nat),Ct Gm i l=true→(∃u,Lib.parseUint10 acc l = .ok u)∨Lib.parseUint10 acc l = .range
 | [],_,acc,_=>.inl ⟨acc,rfl⟩
 | c::r,i,acc,h=>by
  simp only[Ct,AcP] at h;have hc:48≤c.toNat∧c.toNat≤57:=by have:=h.1;simp[Gm] at this;omega
  unfold Lib.parseUint10;rw[Ad9 hc]
  split
  ·exact .inr rfl
  ·split
   ·exact .inr rfl
   ·exact PQ r _ _ h.2
theorem UU {l:List UInt8}(hne:l≠[])(h:Ct Gm 0 l=true):(∃u,Lib.parseMag l = .ok u)∨Lib.parseMag l = .range:=by
 unfold Lib.parseMag;rw[Ad2 hne];exact PQ l 0 0 h
theorem Rh {e:Lib.NumEnd Nat}(h:(∃u,e = .ok u)∨e = .range):(∃v,Lib.signless e = .ok v)∨Lib.signless e = .range:=by
 rcases h with⟨u,rfl⟩ | rfl
 ·unfold Lib.signless
  by_cases h:9223372036854775808≤u
  ·exact .inr (by simp[h])
  ·exact .inl ⟨_,by simp[h];rfl⟩
 ·exact .inr rfl
theorem TE {e:Lib.NumEnd Nat}(h:(∃u,e = .ok u)∨e = .range):(∃v,Lib.signed e = .ok v)∨Lib.signed e = .range:=by
 rcases h with⟨u,rfl⟩ | rfl
 ·unfold Lib.signed
  by_cases h:9223372036854775808<u
  ·exact .inr (by simp[h])
  ·exact .inl ⟨_,by simp[h];rfl⟩
 ·exact .inr rfl
theorem YN {p:List UInt8}(h:PS p=true):(∃v,Lib.atoiAll p = .ok v∧-9223372036854775808≤v∧v≤9223372036854775807)∨Lib.atoiAll p = .range:=by
 have key:(∃v,Lib.atoiAll p = .ok v)∨Lib.atoiAll p = .range:=by
  simp only[PS,AcP,AcW,Adc,AcN] at h;obtain⟨⟨hne,_⟩,hall⟩:=h
  cases p with
  | nil=>simp[NI,VB] at hne
  | cons c r=>
   by_cases hc:c=45
   ·subst hc;have hd:NI (45::r)=r:=by simp[NI,VB,BA]
    rw[hd] at hne hall;rw[Lib.atoiAll_minus];exact TE (UU hne hall)
   ·have hb : ¬ BA (c::r) 0=45:=by
     simp only[BA,Int.toNat_zero,List.getElem?_cons_zero,Adw];intro e;exact hc (UInt8.toNat_inj.1 (by simpa using(by omega:c.toNat=45)))
    have hd:NI (c::r)=c::r:=by simp[NI,VB,hb]
    rw[hd] at hne hall;have ha:48≤c.toNat:=by
     simp only[Ct,AcP] at hall;have:=hall.1;simp[Gm] at this;omega
    rw[Lib.atoiAll_plain c r (by omega) (by omega)];exact Rh (UU hne hall)
 rcases key with⟨v,hv⟩ | h
 ·exact .inl ⟨v,hv,Lib.atoiAll_bounds hv⟩
 ·exact .inr h
open Go Go.RowKit
set_option linter.unusedVariables false
set_option linter.unusedSimpArgs false
set_option maxRecDepth 100000
theorem Ws (p:List UInt8)(hp:p.length≤281474976710656)(w:World):Calls Tryz.prog 157 [.string (B (p))].toArray w (RL w (.bool (PS p))):=by
 refine RA (n:=43) Tryz.func157 rfl Tryz.ntmps157 rfl (Ao (Al (BN (AC rfl) rfl (Ak (Ax (Cp ?_))))));refine Ao (Al (BN (A8 rfl) rfl (BN (AC rfl) rfl (Ak (Ax (Cp ?_))))));refine AE [(0,.string (B (p))),(2,.bool (false)),(3,.string (B ((if ((decide ((0)<((p.length:Int))))&&(decide ((BA p 0)=(45))))=true then List.drop (Int.toNat (1)) p else p))))] [] (φ:=True) ?_ (λh1=>?_)
 ·refine AE [(0,.string (B (p))),(2,.bool (false)),(3,.string (B (p))),(13,.bool (((decide ((0)<((p.length:Int))))&&(decide ((BA p 0)=(45))))))] [] (φ:=True) ?_ (λh2=>?_)
  ·refine Al (BN (A8 rfl) rfl (BN (BJ Di rfl) rfl (BN (CD rfl rfl) rfl (BN (A8 rfl) rfl (AP (decide ((0)<((p.length:Int)))) (λhe=>?_) (λhe=>?_))))))
   ·have g19:=he;try simp only[AcI,AcN] at g19
    have hl:=he;try simp at hl
    refine Ba rfl rfl he (BN (A8 rfl) rfl (Ba rfl rfl he (BN (Bo Di rfl rfl (by first | omega | exact IO (by assumption)) (by first | omega | exact IO (by assumption))) rfl (Ba rfl rfl he (BN (Bj rfl rfl) rfl (BN (Aw rfl he rfl) rfl (Ak ?_)))))));exact Ax (Gb trivial ⟨rfl,rfl,rfl,fb (by first | (simp only[he,AcY,Adm,Adu,Ade,Adn,Adj,Adv,Ado,AcU,Adi,AcO,AcJ,if_true,AdC,reduceIte,Ad5];done) | simp[he]),trivial⟩ .slnil)
   ·have g19:=he;try simp only[AcI,AcN] at g19
    have hl:=he;try simp at hl
    refine DJ rfl rfl he rfl (DJ rfl rfl he rfl (DJ rfl rfl he rfl (BN (Az rfl he rfl) rfl (Ak ?_))));exact Ax (Gb trivial ⟨rfl,rfl,rfl,fb (by first | (simp only[he,AcY,Adm,Adu,Ade,Adn,Adj,Adv,Ado,AcU,Adi,AcO,AcJ,if_true,AdC,reduceIte,Ad5];done) | simp[he]),trivial⟩ .slnil)
  refine IA (b:=((decide ((0)<((p.length:Int))))&&(decide ((BA p 0)=(45))))) rfl (λhh=>?_) (λhh=>?_)
  ·have hm:=hh;try simp only[AcI,AcN] at hm
   have hn:=hh;try simp at hn
   refine Al (BN (A8 rfl) rfl (BN (Kf Di rfl rfl (by first | omega | (simp;omega)) (by first | omega | (simp;omega))) rfl (BN (AC rfl) rfl (Ak ?_))));exact Ax (Gb trivial ⟨rfl,rfl,fs (by first | (simp only[hh,AcY,Adm,Adu,Ade,Adn,Adj,Adv,Ado,AcU,Adi,AcO,AcJ,if_true,AdC,reduceIte,Ad5];done) | simp[hh]),trivial⟩ .slnil)
  ·have hm:=hh;try simp only[AcI,AcN] at hm
   have hn:=hh;try simp at hn
   refine As ?_;exact Ax (Gb trivial ⟨rfl,rfl,fs (by first | (simp only[hh,AcY,Adm,Adu,Ade,Adn,Adj,Adv,Ado,AcU,Adi,AcO,AcJ,if_true,AdC,reduceIte,Ad5];done) | simp[hh]),trivial⟩ .slnil)
 have hdg:NI p=(if ((decide ((0)<((p.length:Int))))&&(decide ((BA p 0)=(45))))=true then List.drop (Int.toNat (1)) p else p):=rfl;have hdl:=Y1 p;rw[hdg] at hdl;generalize(if ((decide ((0)<((p.length:Int))))&&(decide ((BA p 0)=(45))))=true then List.drop (Int.toNat (1)) p else p)=dg at hdg hdl ⊢;refine Ao (AE [(2,.bool (false)),(3,.string (B (dg))),(26,.bool (((decide ((dg)=(([]:List UInt8))))||((decide ((BA dg 0)=(48)))&&(!(decide ((p)=(([48]:List UInt8)))))))))] [] (φ:=True) ?_ (λh3=>?_))
 ·refine Al (BN (A8 rfl) rfl (BN (EZ rfl rfl) rfl (BN (A8 rfl) rfl (AP (decide ((dg)=(([]:List UInt8)))) (λha=>?_) (λha=>?_)))))
  ·have ho:=ha;try simp only[AcI,AcN] at ho
   have hq:=ha;try simp at hq
   refine DJ rfl rfl ha rfl (DJ rfl rfl ha rfl (DJ rfl rfl ha rfl (DJ rfl rfl ha rfl (Mh rfl rfl rfl (Mh rfl rfl rfl (DJ rfl rfl ha rfl (BN (Aw rfl ha rfl) rfl (Ak ?_))))))));exact Ax (Gb trivial ⟨rfl,rfl,fb (by first | (simp only[ha,AcY,Adm,Adu,Ade,Adn,Adj,Adv,Ado,AcU,Adi,AcO,AcJ,if_true,AdC,reduceIte,Ad5];done) | simp[ha]),trivial⟩ .slnil)
  ·have ho:=ha;try simp only[AcI,AcN] at ho
   have hq:=ha;try simp at hq
   refine Ba rfl rfl ha (BN (A8 rfl) rfl (Ba rfl rfl ha (BN (Bo Di rfl rfl (by first | omega | exact IO (by assumption)) (by first | omega | exact IO (by assumption))) rfl (Ba rfl rfl ha (BN (Bj rfl rfl) rfl (Ba rfl rfl ha (BN (A8 rfl) rfl (AP (decide ((BA dg 0)=(48))) (λhf=>?_) (λhf=>?_)))))))))
   ·have hr:=hf;try simp only[AcI,AcN] at hr
    have hs:=hf;try simp at hs
    refine Ba rfl rfl hf (BN (A8 rfl) rfl (Ba rfl rfl hf (BN (GA rfl rfl) rfl (Ba rfl rfl ha (BN (Aw rfl hf rfl) rfl (BN (Az rfl ha rfl) rfl (Ak ?_)))))));exact Ax (Gb trivial ⟨rfl,rfl,fb (by first | (simp only[ha,hf,AcY,Adm,Adu,Ade,Adn,Adj,Adv,Ado,AcU,Adi,AcO,AcJ,if_true,AdC,reduceIte,Ad5];done) | simp[ha,hf]),trivial⟩ .slnil)
   ·have hr:=hf;try simp only[AcI,AcN] at hr
    have hs:=hf;try simp at hs
    refine DJ rfl rfl hf rfl (DJ rfl rfl hf rfl (Ba rfl rfl ha (BN (Az rfl hf rfl) rfl (BN (Az rfl ha rfl) rfl (Ak ?_)))));exact Ax (Gb trivial ⟨rfl,rfl,fb (by first | (simp only[ha,hf,AcY,Adm,Adu,Ade,Adn,Adj,Adv,Ado,AcU,Adi,AcO,AcJ,if_true,AdC,reduceIte,Ad5];done) | simp[ha,hf]),trivial⟩ .slnil)
 refine IA (b:=((decide ((dg)=(([]:List UInt8))))||((decide ((BA dg 0)=(48)))&&(!(decide ((p)=(([48]:List UInt8)))))))) rfl (λhg=>?_) (λhg=>?_)
 ·have ht:=hg;try simp only[AcI,AcN] at ht
  have hu:=hg;try simp at hu
  refine Ao (Al (BN (AC rfl) rfl (Ak (Ax (Cp ?_)))));refine Ar (Ae (Aq (B2 rfl rfl) ?_));exact Rj (by simp only[PS,hdg,hg];rfl)
 ·have ht:=hg;try simp only[AcI,AcN] at ht
  have hu:=hg;try simp at hu
  refine As (Ax (Cp ?_));refine Ao (Ao (Al (BN (A8 rfl) rfl (BN (BJ Di rfl) rfl (BN (A8 rfl) rfl (Ak (Ax (Cp ?_))))))));refine AA (Re (S:=Nat) (λ(k:Nat)=>k≤dg.length∧Ct Gm 0 dg=Ct Gm k (dg.drop k)) (λ(k:Nat)=>[(29,.int .i64 ((k:Int))),(3,.string (B (dg))),(28,.int .i64 ((dg.length:Int)))]) (λ(k:Nat)=>[]) (λ(k:Nat)=>dg.length-k) (0) ?_ ⟨fi (by first | rfl | (simp;done) | omega | (simp;omega)),rfl,rfl,trivial⟩ .slnil ?_)
  ·exact⟨Adl _,by simp⟩
  rintro k hi0;refine Ao (Al (BN (Cn rfl rfl) rfl (Ak (Ax (Cp ?_)))));refine Ao (IA (b:=decide (((k:Int))<((dg.length:Int)))) rfl (λhi=>?_) (λhi=>?_))
  ·have hk:=hi;try simp only[AcI,AcN] at hk
   have hw:=hi;try simp at hw
   refine As (Ax (Cp ?_));refine Ao (AA (Ao (Al (BN (A8 rfl) rfl (BN (AC rfl) rfl (Ak (Ax (Cp ?_))))))));refine AE [(3,.string (B (dg))),(4,.int .i64 ((k:Int))),(28,.int .i64 ((dg.length:Int))),(29,.int .i64 ((k:Int))),(30,.bool (decide (((k:Int))<((dg.length:Int))))),(31,.int .i64 ((k:Int))),(32,.string (B (dg))),(33,.int .i64 ((k:Int))),(34,.int .u8 (BA dg (k:Int))),(35,.bool (decide ((BA dg (k:Int))<(48)))),(36,.bool (decide ((BA dg (k:Int))<(48)))),(41,.bool (((decide ((BA dg (k:Int))<(48)))||(decide ((57)<(BA dg (k:Int)))))))] [] (φ:=True) ?_ (λh4=>?_)
   ·refine Al (BN (A8 rfl) rfl (BN (A8 rfl) rfl (BN (Bo Di rfl rfl (by first | omega | exact IO (by assumption)) (by first | omega | exact IO (by assumption))) rfl (BN (Cn rfl rfl) rfl (BN (A8 rfl) rfl (AP (decide ((BA dg (k:Int))<(48))) (λhb=>?_) (λhb=>?_)))))))
    ·have hx:=hb;try simp only[AcI,AcN] at hx
     have hy:=hb;try simp at hy
     refine DJ rfl rfl hb rfl (DJ rfl rfl hb rfl (DJ rfl rfl hb rfl (DJ rfl rfl hb rfl (BN (Aw rfl hb rfl) rfl (Ak ?_)))));exact Ax (Gb trivial ⟨rfl,rfl,rfl,rfl,rfl,rfl,rfl,rfl,rfl,rfl,rfl,fb (by first | (simp only[hg,hi,hb,AcY,Adm,Adu,Ade,Adn,Adj,Adv,Ado,AcU,Adi,AcO,AcJ,if_true,AdC,reduceIte,Ad5];done) | simp[hg,hi,hb]),trivial⟩ .slnil)
    ·have hx:=hb;try simp only[AcI,AcN] at hx
     have hy:=hb;try simp at hy
     refine Ba rfl rfl hb (BN (A8 rfl) rfl (Ba rfl rfl hb (BN (A8 rfl) rfl (Ba rfl rfl hb (BN (Bo Di rfl rfl (by first | omega | exact IO (by assumption)) (by first | omega | exact IO (by assumption))) rfl (Ba rfl rfl hb (BN (CD rfl rfl) rfl (BN (Az rfl hb rfl) rfl (Ak ?_)))))))));exact Ax (Gb trivial ⟨rfl,rfl,rfl,rfl,rfl,rfl,rfl,rfl,rfl,rfl,rfl,fb (by first | (simp only[hg,hi,hb,AcY,Adm,Adu,Ade,Adn,Adj,Adv,Ado,AcU,Adi,AcO,AcJ,if_true,AdC,reduceIte,Ad5];done) | simp[hg,hi,hb]),trivial⟩ .slnil)
   refine IA (b:=((decide ((BA dg (k:Int))<(48)))||(decide ((57)<(BA dg (k:Int)))))) rfl (λhj=>?_) (λhj=>?_)
   ·have hz:=hj;try simp only[AcI,AcN] at hz
    have h0:=hj;try simp at h0
    refine Ao (Al (BN (AC rfl) rfl (Ak (Ax (Cp ?_)))));refine Ar (Au (Ae (Ae (Au (Ae (Aq (B2 rfl rfl) ?_))))));exact Rj (by simp[PS,hdg,Abq hi0 hk hj])
   ·have hz:=hj;try simp only[AcI,AcN] at hz
    have h0:=hj;try simp at h0
    refine As (A7 (Ax (Cp ?_)));refine Al (BN (Bh rfl rfl (IntWalk.i64_in _ (by omega))) rfl (BN (A8 rfl) rfl (Ak (Ax (Av (k+1) ?_ ⟨fi (by first | rfl | (simp;done) | omega | (simp;omega)),rfl,rfl,trivial⟩ .slnil)))));exact Y2 hi0 hk hj
  ·have hk:=hi;try simp only[AcI,AcN] at hk
   have hw:=hi;try simp at hw
   refine Bt (Ay (Ay (Bf (Ax (Cp ?_)))));refine Ao (Al (BN (AC rfl) rfl (Ak (Ax (Cp ?_)))));refine Ar (Aq (B2 rfl rfl) ?_);exact Rj (by simp only[PS,hdg,hg,ZR hi0 hk];rfl)
theorem Ym (m:Int)(h0 : -9223372036854775808≤m)(h1:m≤9223372036854775807)(w:World)(hE:Vp w):Calls Tryz.prog 113 [.int .i64 (m)].toArray w (RL w (.string (B (Lib.itoa m)))):=by
 refine RA (n:=5) Tryz.func113 rfl Tryz.ntmps113 rfl (Ao (Al (BN (AC rfl) rfl (Ak (Ax (Cp ?_))))));refine Ao (Al (BN (A8 rfl) rfl (Dq Tryz.call105 rfl (λw hw=>Yc m (by omega) (by omega) w (hE.st0 hw)) rfl (BN (AC rfl) rfl (Ak (Ax (Cp ?_)))))));refine Ar (Aq (B2 rfl rfl) ?_);exact Rj (by first | rfl | simp[])
theorem Zv (p:List UInt8)(hp:p.length≤281474976710656)(w:World)(hE:Vp w):Calls Tryz.prog 151 [.string (B (p))].toArray w (RL w (.tuple #[.int .i64 (Da p),.int .i64 (CO p)])):=by
 refine RA (n:=22) Tryz.func151 rfl Tryz.ntmps151 rfl (Ao (Al (BN (AC rfl) rfl (BN (AC rfl) rfl (Ak (Ax (Cp ?_)))))));refine Ao (Ao (Al (BN (A8 rfl) rfl (Dq Tryz.call157 rfl (λw hw=>Ws p (by first | omega | (simp;done) | (simp;omega) | (simp at *;omega)) w) rfl (BN (B7 rfl) rfl (Ak (Ax (Cp ?_))))))));refine IA (b:=!(PS p)) rfl (λhb=>?_) (λhb=>?_)
 ·have hg:=hb;try simp only[AcI,AcN] at hg
  have ha:=hb;try simp only[AcI,AcN,AcP,Ady,AcW,Bool.not_eq_false',AdB,Adc,not_or,Int.not_lt,Int.not_le] at ha
  refine Ao (Al (BN (AC rfl) rfl (BN (AC rfl) rfl (Ak (Ax (Cp ?_))))));refine Ar (Ae (Aq (CM rfl rfl rfl) ?_));exact Rj (by simp[Da,CO,ha])
 ·have hg:=hb;try simp only[AcI,AcN] at hg
  have ha:=hb;try simp only[AcI,AcN,AcP,Ady,AcW,Bool.not_eq_false',AdB,Adc,not_or,Int.not_lt,Int.not_le] at ha
  refine As (Ax (Cp ?_));refine Ao (Al (BN (A8 rfl) rfl ?_));rcases YN (p:=p) (by assumption) with⟨av,hav,hal,hah⟩ | hav
  ·refine Dq Tryz.call158 rfl (λw _=>Aae p (by first | omega | (simp;done) | (simp;omega) | (simp at *;omega)) av hav w) rfl (BN (A8 rfl) rfl (BN (A0 rfl rfl) rfl (BN (A0 rfl rfl) rfl (BN (AC rfl) rfl (BN (AC rfl) rfl (Ak (Ax (Cp ?_))))))));refine Ao (AE [(2,.int .i64 (0)),(3,.int .i64 (0)),(4,.int .i64 (av)),(20,.bool (!(Hk av)))] [] (φ:=True) ?_ (λhi=>?_))
   ·exact Al (BN (A8 rfl) rfl (BN (SJ Tryz.underlying129 rfl) rfl (BN (A8 rfl) rfl (Ba rfl rfl rfl (BN (A8 rfl) rfl (Ba rfl rfl rfl (Dq Tryz.call31 rfl (λw hw=>Zb av w) rfl (Ba rfl rfl rfl (BN (B7 rfl) rfl (BN (Az rfl rfl rfl) rfl (Ak (Ax (Gb trivial ⟨rfl,rfl,rfl,rfl,trivial⟩ .slnil)))))))))))))
   refine IA (b:=!(Hk av)) rfl (λhe=>?_) (λhe=>?_)
   ·have hh:=he;try simp only[AcI,AcN] at hh
    have hf:=he;try simp only[AcI,AcN,AcP,Ady,AcW,Bool.not_eq_false',AdB,Adc,not_or,Int.not_lt,Int.not_le] at hf
    refine Ao (Al (BN (AC rfl) rfl (BN (AC rfl) rfl (Ak (Ax (Cp ?_))))));refine Ar (Ae (Aq (CM rfl rfl rfl) ?_));exact Rj (by simp[Da,CO,hav,ha,hf])
   ·have hh:=he;try simp only[AcI,AcN] at hh
    have hf:=he;try simp only[AcI,AcN,AcP,Ady,AcW,Bool.not_eq_false',AdB,Adc,not_or,Int.not_lt,Int.not_le] at hf
    refine As (Ax (Cp ?_));refine Ao (Al (BN (A8 rfl) rfl (BN (AC rfl) rfl (BN (AC rfl) rfl (Ak (Ax (Cp ?_)))))));refine Ar (Aq (CM rfl rfl rfl) ?_);exact Rj (by simp[Da,CO,hav,ha,hf])
  ·refine Za Tryz.call158 rfl (λw hw=>Uz p (by first | omega | (simp;done) | (simp;omega) | (simp at *;omega)) hav w (hE.st0 hw)) rfl ?_;rintro _ _ ⟨am,at_,ab,rfl,rfl⟩;refine BN (A8 rfl) rfl (BN (A0 rfl rfl) rfl (BN (A0 rfl rfl) rfl (BN (AC rfl) rfl (BN (AC rfl) rfl (Ak (Ax (Cp ?_)))))));refine Ao (AE [(2,.int .i64 (0)),(3,.int .i64 (0)),(4,.int .i64 (am)),(20,.bool (true))] [] (φ:=True) ?_ (λhj=>?_))
   ·exact Al (BN (A8 rfl) rfl (BN (Z2 Tryz.underlying129 rfl) rfl (BN (A8 rfl) rfl (DJ rfl rfl rfl rfl (DJ rfl rfl rfl rfl (DJ rfl rfl rfl rfl (BN (Aw rfl rfl rfl) rfl (Ak (Ax (Gb trivial ⟨rfl,rfl,rfl,rfl,trivial⟩ .slnil))))))))))
   refine EQ rfl rfl (Ao (Al (BN (AC rfl) rfl (BN (AC rfl) rfl (Ak (Ax (Cp ?_)))))));refine Ar (Ae (Aq (CM rfl rfl rfl) ?_));exact Rj (by simp[Da,CO,hav,ha])
end Go.Proofs.YtghdglcmblpbeaaGreatDoor
namespace Go.Proofs
open Go.Shelf
def Tryz.lays169_ren:Go.Shelf.Ren:=⟨fun | 169=>88 | n=>n,fun | 70=>98 | 9=>9 | 0=>0 | 72=>101 | 37=>99 | 127=>134 | 3=>3 | 5=>5 | n=>n,fun | n=>n⟩
theorem Tryz.lays169:Go.Proofs.Lays.n169 Tryz.prog Tryz.lays169_ren:={
 mixed:=by kernel_rfl
 f169:=Tryz.func88.trans (congrArg some (by kernel_rfl))
 t0:=Tryz.underlying0
 a0:=Tryz.isAgg0
 z0:=Tryz.sizeOf0
 v0:=Tryz.zeroValue0
 t3:=Tryz.underlying3
 a3:=Tryz.isAgg3
 z3:=Tryz.sizeOf3
 v3:=Tryz.zeroValue3
 t9:=Tryz.underlying9
 a9:=Tryz.isAgg9
 z9:=Tryz.sizeOf9
 v9:=Tryz.zeroValue9
 t37:=Tryz.underlying99
 a37:=Tryz.isAgg99
 z37:=Tryz.sizeOf99
 v37:=Tryz.zeroValue99
 t70:=Tryz.underlying98
 a70:=Tryz.isAgg98
 z70:=Tryz.sizeOf98
 v70:=Tryz.zeroValue98
 t72:=Tryz.underlying101
 a72:=Tryz.isAgg101
 z72:=Tryz.sizeOf101
 v72:=Tryz.zeroValue101
 t127:=Tryz.underlying134
 a127:=Tryz.isAgg134
 z127:=Tryz.sizeOf134
 v127:=Tryz.zeroValue134 }
theorem Tryz.Builder_Extra_169:Builder.Extra Tryz.prog Tryz.lays169_ren:={
 sizeBuilder:=by kernel_rfl
 liesBuilder:=by kernel_rfl
 t5:=Tryz.underlying5
 a5:=Tryz.isAgg5
 z5:=Tryz.sizeOf5
 v5:=Tryz.zeroValue5
 infoByte:=by kernel_rfl
 cellsByte:=by kernel_rfl
 sizeByte:=by kernel_rfl
 neB5:=by decide }
open Go.RowKit in
theorem Tryz.Builder_String_any (B b:Nat)(l:List UInt8)(w:World)(h:Lib.IsBuilder 101 5 B b (Lib.byteCells l) w)(hBw:B≤w.heap.size) :
  Calls Tryz.prog 88 #[.pointer (some ⟨b,0,none⟩)] w λe w'=>e = .returned (.string ⟨l.toArray⟩)∧Below B w w':=Any.Builder_String_any Tryz.lays169 Tryz.Builder_Extra_169 B b l w h hBw
def Tryz.lays138_ren:Go.Shelf.Ren:=⟨fun | 138=>138 | 195=>146 | 218=>147 | 143=>148 | 219=>152 | 217=>159 | 225=>160 | 224=>161 | 267=>162 | 266=>170 | 314=>171 | n=>n,fun | 9=>9 | 3=>3 | 4=>4 | 5=>5 | 0=>0 | 46=>160 | 146=>167 | 51=>163 | n=>n,fun | 1=>0 | n=>n⟩
theorem Tryz.lays138:Go.Proofs.Lays.n138 Tryz.prog Tryz.lays138_ren:={
 mixed:=by kernel_rfl
 f138:=Tryz.func138.trans (congrArg some (by kernel_rfl))
 f143:=Tryz.func148.trans (congrArg some (by kernel_rfl))
 f195:=Tryz.func146.trans (congrArg some (by kernel_rfl))
 f217:=Tryz.func159.trans (congrArg some (by kernel_rfl))
 f218:=Tryz.func147.trans (congrArg some (by kernel_rfl))
 f219:=Tryz.func152.trans (congrArg some (by kernel_rfl))
 f224:=Tryz.func161.trans (congrArg some (by kernel_rfl))
 f225:=Tryz.func160.trans (congrArg some (by kernel_rfl))
 f266:=Tryz.func170.trans (congrArg some (by kernel_rfl))
 f267:=Tryz.func162.trans (congrArg some (by kernel_rfl))
 f314:=Tryz.func171.trans (congrArg some (by kernel_rfl))
 t0:=Tryz.underlying0
 a0:=Tryz.isAgg0
 z0:=Tryz.sizeOf0
 v0:=Tryz.zeroValue0
 t3:=Tryz.underlying3
 a3:=Tryz.isAgg3
 z3:=Tryz.sizeOf3
 v3:=Tryz.zeroValue3
 t4:=Tryz.underlying4
 a4:=Tryz.isAgg4
 z4:=Tryz.sizeOf4
 v4:=Tryz.zeroValue4
 t5:=Tryz.underlying5
 a5:=Tryz.isAgg5
 z5:=Tryz.sizeOf5
 v5:=Tryz.zeroValue5
 t9:=Tryz.underlying9
 a9:=Tryz.isAgg9
 z9:=Tryz.sizeOf9
 v9:=Tryz.zeroValue9
 t46:=Tryz.underlying160
 a46:=Tryz.isAgg160
 z46:=Tryz.sizeOf160
 v46:=Tryz.zeroValue160
 t51:=Tryz.underlying163
 a51:=Tryz.isAgg163
 z51:=Tryz.sizeOf163
 v51:=Tryz.zeroValue163
 t146:=Tryz.underlying167
 a146:=Tryz.isAgg167
 z146:=Tryz.sizeOf167
 v146:=Tryz.zeroValue167
 g1:=by kernel_rfl }
open Go.RowKit Go.Lib in
theorem Tryz.strings_Count_one (s:ByteArray)(c:UInt8)(w:World) :
  Calls Tryz.prog 138 #[.string s,.string ⟨#[c]⟩] w λe w'=>e = .returned (.int .i64 (Lib.countByte s.data.toList c))∧w'=w:=Any.strings_Count_one Tryz.lays138 s c w
end Go.Proofs
namespace Go.Proofs.YtghdglcmblpbeaaGreatDoor
open Go
set_option linter.unusedVariables false
set_option linter.unusedSimpArgs false
open Go Go.RowKit
section
variable {P : Program} {n : Nat} {w0 : World} {M : List Nat} {l : Fr} {H : List Ent} {d : Option Nat} {x y : Operand} {ty t t' : TypeId} {pos : String} {af : Array Edge} {g : Option (Nat × Bool)} {k : IntKind} {p q z : Int}
end
set_option maxRecDepth 100000
end Go.Proofs.YtghdglcmblpbeaaGreatDoor
namespace Go.Proofs.YtghdglcmblpbeaaGreatDoor.Q
open Go Go.RowKit
set_option linter.unusedVariables false
def GE (Z:Fz):Prop:=∀w,W0 Z w→Vp w
theorem GE.mono {Z Z':Fz}(h:Fz.le Z Z')(hg:GE Z):GE Z':=λw hw=>hg w ⟨λb o e=>hw b o (h b o e),λk i b e=>hw.nm k i b (h.nm k i b e)⟩
theorem Ra.rle {P:Program}{E:Fz→Prop}{f:FuncId}{args:List Rp}{r r':Rp}(h:Ra P E f args r)(hr:DH r r'):Ra P E f args r':=λw Z vs hv hs=>
 (h w Z vs hv hs).mono λe w' ⟨q,v,H,Z',he,⟨hq,hH⟩,hp,ht⟩=>⟨r',v,H,Z',he,⟨rfl,hH⟩,hr Z' v (hq▸hp),ht⟩
theorem DH.tup2 {a b:Value}:DH (rv (.tuple #[a,b])) (CY [rv a,rv b]):=λZ v h=>⟨[a,b],h,rfl,rfl,trivial⟩
theorem Ra.of_id {P:Program}{E:Fz→Prop}{f:FuncId}{vs:List Value}{v:Value}(h:∀w,Calls P f vs.toArray w (λe w'=>e = .returned v∧w'=w)):Ra P E f (vs.map rv) (rv v):=
 Ra.of_old λw Z _ _=>(h w).mono λe w' ⟨he,hw⟩=>⟨he,by rw[hw];exact Proofs.YtghdglcmblpbeaaGreatDoor.St.refl w []⟩
theorem SZ (m:Int)(g:Bu .i64 m=true):Ra Tryz.prog GE 113 [rI .i64 m] (rS (Lib.itoa m)):=Ra.of_old (vs:=[.int .i64 m]) λw Z hf he=>Ym m (IP g).1 (IP g).2 w (he w hf)
theorem AaO (m:Int)(g:Bu .i64 m=true):Ra Tryz.prog GE 105 [rI .i64 m] (rS (Lib.itoa m)):=Ra.of_old (vs:=[.int .i64 m]) λw Z hf he=>Yc m (IP g).1 (IP g).2 w (he w hf)
theorem Zu (s:Am)(g:DN 1 s.length=true):Ra Tryz.prog GE 151 [rS s] (CY [rI .i64 (Da s),rI .i64 (CO s)]):=(Ra.of_old (vs:=[.string (B s)]) λw Z hf he=>Zv s (by simp[DN] at g;omega) w (he w hf)).rle DH.tup2
theorem Vi (s:Am)(c:UInt8):Ra Tryz.prog GE 138 [rS s,rS [c]] (rI .i64 (Lib.countByte s c)):=Ra.of_id (vs:=[.string (B s),.string (B [c])]) λw=>by have:=Tryz.strings_Count_one (B s) c w;rwa [U4] at this
open Go Go.RowKit Go.ChangeShapes Go.Deep
set_option linter.unusedSimpArgs false
def ZW (W:World):Fz:=⟨λb=>W.heap[b]?,λ_ _=>none⟩
theorem ZW.frz (W:World):W0 (ZW W) W:=⟨λ_ _ h=>h,λ_ _ _ h=>by cases h⟩
def Me (P:Program)(e:TypeId){α:Type}(enc:α→List Rp)(ok:α→Bool):Prop:=
 ∀{H:Type} {encH:TypeId×Value→H} {W:World} {sp:Nat→Bool} {held:Bool} {n:Nat} {cs:List Value} {x:DataW H×List MemPlace},DataW.trod encH P W 0 sp held n e cs=some x→∃y:α,ok y=true∧By (ZW W) (enc y) cs
section
variable {P : Program} {e t : TypeId}
theorem Me.int {k:IntKind}{enc:Int→List Rp}(ht:P.underlying e=some (.int k))(he:∀n,enc n=[rI k n]):Me P e enc (Bu k):=λh=>by
 obtain⟨n,rfl,_,hwf⟩:=DataW.trod_int ht h;exact⟨n,hwf,by rw[he];exact⟨rfl,trivial⟩⟩
theorem Me.str {enc:Am→List Rp}(ht:P.underlying e=some .string)(he:∀n,enc n=[rS n]):Me P e enc YS:=λh=>by
 obtain⟨s,rfl,_,hl⟩:=DataW.trod_string ht h;exact⟨s.data.toList,AcL (by rw[Array.length_toList];exact hl),by rw[he];exact⟨congrArg Value.string (Ac5 s),trivial⟩⟩
theorem Me.bool {enc:Bool→List Rp}(ht:P.underlying e=some .bool)(he:∀n,enc n=[rB n]):Me P e enc (λ_=>true):=λh=>by
 obtain⟨b,rfl,_⟩:=DataW.trod_bool ht h;exact⟨b,rfl,by rw[he];exact⟨rfl,trivial⟩⟩
theorem QY {W:World}{a:Addr}{v:Value}(h:W.cell? a=some v):a.spot=none∧Ko (ZW W) a.block a.off=some v:=by
 unfold World.cell? at h;unfold Ko ZW;dsimp only
 cases hh:W.heap[a.block]? with
 | none=>rw[hh] at h;cases h
 | some o=>
  rw[hh] at h
  cases o with
  | cells cs t fz=>
   cases hs:a.spot with
   | none=>simp[hs] at h;exact⟨rfl,h⟩
   | some _=>simp[hs] at h
  | _=>simp at h
theorem Me.slice {α:Type}[Inhabited α]{enc:α→List Rp}{ok:α→Bool}{sz:Nat}(ht:P.underlying t=some (.slice e))(hc:P.cellsOf e=sz)(hsz:0<sz)(h:Me P e enc ok)(hlen:∀y,(enc y).length=sz){enc':List α→List Rp}(he:∀ys,enc' ys=[AB sz (ys.map enc)]) :
  Me P t enc' (λys=>ys.all ok&&decide (ys.length≤9223372036854775807)):=fun {H encH W sp held n cs x} hx=>by
 rcases open_slice ht hx with⟨rfl,_⟩ | ⟨a,len,cap,m,n',D,Pl,rfl,hb,hl,hm,hmm,_,hel⟩
 ·exact⟨[],by simp,by rw[he];exact⟨RN.nil sz _,trivial⟩⟩
 ·have hlm:len≤m:=by rw[hmm];split<;>omega
  have each:∀i,i<len→∃y:α,ok y=true∧∃cs',W.cells? 0 (a.add (i*sz)) sz=some cs'∧By (ZW W) (enc y) cs':=λi hi=>by
   obtain⟨cs',h1,h2⟩:=hel i (by omega);obtain⟨y,hy,hr⟩:=h h2;rw[hc] at h1;exact⟨y,hy,cs',h1,hr⟩
  obtain⟨f,hf⟩:=choose_lt each;refine⟨(List.range len).map f,?_,?_⟩
  ·simp only[AcP,Adx,List.mem_map,List.mem_range,AcI];refine⟨?_,by simp;simp only[maxLen] at hm;omega⟩;rintro _ ⟨i,hi,rfl⟩;exact(hf i hi).1
  ·rw[he];refine⟨⟨some a,cap,by simp,by simpa using hl,hm,(λh=>by cases h),λi c hi=>?_⟩,trivial⟩;rw[List.map_map,Ad6] at hi;have hil:i<len:=by
    cases hq:(List.range len)[i]? with
    | none=>rw[hq] at hi;cases hi
    | some _=>have:=(List.getElem?_eq_some_iff.1 hq).1;simpa using this
   rw[List.getElem?_range hil] at hi;simp only[Option.map_some,Option.some.injEq,Function.comp] at hi;subst hi;obtain⟨_,cs',h1,hr⟩:=hf i hil;obtain⟨_,hcl,hcell⟩:=World.cells?_some h1;have hsp:a.spot=none:=by
    obtain⟨_,cs0,g1,_⟩:=hf 0 (by omega);obtain⟨_,gcl,gcell⟩:=World.cells?_some g1;have h0:=gcell 0 hsz;rw[AcS (by omega)] at h0;have:=(QY h0).1;simpa[Addr.add] using this
   refine⟨hlen _,a,rfl,hsp,λj r hj=>?_⟩;obtain⟨u,hu,hp⟩:=hr.at hj;have hjs:j<sz:=by have:=(List.getElem?_eq_some_iff.1 hj).1;rw[hlen] at this;exact this
   have h3:=hcell j hjs;rw[hu] at h3;have h4:=(QY h3).2;refine⟨u,?_,hp⟩;have e1:((a.add (i*sz)).add j).block=a.block:=by simp only[Addr.add];split<;>split<;>rfl
   have e2:((a.add (i*sz)).add j).off=a.off+(i*sz+j):=by simp only[Addr.add];split<;>split<;>simp_all<;>omega
   rw[e1,e2] at h4;exact h4
theorem UD {Z:Fz}{cs:List Value}{o:Nat}(h:cs.length=o):By Z [] (cs.drop o):=by rw[List.drop_of_length_le (by omega)];trivial
theorem Gj {Z:Fz}{cs:List Value}{o s o':Nat}{rs rs':List Rp}(h:By Z rs ((cs.drop o).take s))(ho:o+s=o')(h2:By Z rs' (cs.drop o')):By Z (rs++rs') (cs.drop o):=by
 rw[← AdA s (cs.drop o),List.drop_drop];subst ho;exact h.append h2
theorem Me.val {α:Type}{enc:α→List Rp}{ok:α→Bool}(h:Me P e enc ok){r:α→Rp}(he:∀y,enc y=[r y]){H:Type}{encH:TypeId×Value→H}{W:World}{sp:Nat→Bool}{held:Bool}{v:Value}{d:DataW H}{ps:List MemPlace}
  (hone:v.cells = #[v]) (ht:DataW.Trod encH P W 0 sp held e v d ps):∃y:α,ok y=true∧(r y).p (ZW W) v:=by
 obtain⟨fuel,hf⟩:=ht;rw[hone] at hf;obtain⟨y,hy,hr⟩:=h hf;rw[he] at hr;exact⟨y,hy,hr.1⟩
theorem Me.valAgg {α:Type}{enc:α→List Rp}{ok:α→Bool}(h:Me P e enc ok){H:Type}{encH:TypeId×Value→H}{W:World}{sp:Nat→Bool}{held:Bool}{cs:Array Value}{d:DataW H}{ps:List MemPlace}
  (ht:DataW.Trod encH P W 0 sp held e (.agg cs) d ps):∃y:α,ok y=true∧(Bw (enc y)).p (ZW W) (.agg cs):=by
 obtain⟨fuel,hf⟩:=ht;obtain⟨y,hy,hr⟩:=h hf;exact⟨y,hy,cs.toList,by simp,hr⟩
end
theorem Yl {W w:World}(hw:W0 (ZW W) w):W.heap.size≤w.heap.size:=by
 rcases Nat.eq_zero_or_pos W.heap.size with h | h
 ·omega
 ·have h1:W.heap[W.heap.size-1]? =some (W.heap[W.heap.size-1]'(by omega)):=Array.getElem?_eq_getElem (by omega);have:=(Array.getElem?_eq_some_iff.1 (hw _ _ h1)).1;omega
theorem Wk {W:World}(hE:Vp W):GE (ZW W):=λw hw=>by
 have hb:Below W.heap.size W { w with os:=W.os,tape:=W.tape,output:=W.output }:=⟨rfl,rfl,rfl,(show W.heap.size≤w.heap.size from Yl hw),λk hk=>by
  have h1:W.heap[k]? =some (W.heap[k]'hk):=Array.getElem?_eq_getElem hk;rw[h1];exact hw k _ h1⟩
 have hE2:=hE.st0 (St.of_below hb);exact⟨RK.block { w with os:=W.os,tape:=W.tape,output:=W.output } w (λ_ _=>rfl) hE2.tabs,hE2.size⟩
theorem Xi {W:World}(hE:Vp W):St ⟨W,ZW W,[],GE,[]⟩ [] (ZW W) W where
 os:=rfl
 tape:=rfl
 output:=rfl
 size:=Adg _
 old:=λ_ _ _=>rfl
 has:=λ_ h=>by cases h
 own:=λ_ h=>by cases h
 dis:=.nil
 frz:=ZW.frz W
 le:=Fz.le.refl _
 new:=λ_ _ h=>.inl h
 zdis:=λ_ h=>by cases h
 env:=Wk hE
 emono:=λh hg=>GE.mono h hg
 gst:=Nq.none rfl
theorem Xj {W W':World}{Z Z':Fz}{E:Fz→Prop}{H:List Ent}(h:St ⟨W,Z,[],E,[]⟩ H Z' W'):Below W.heap.size W W':=⟨h.os,h.tape,h.output,h.size,λk hk=>h.old k hk (by simp)⟩
open Go
def NL (l:(List Int)):Option ((List Int)):=
 some l
def KY (l:(List Int))(c:Int):Option (Unit×(List Int)):=
 Bi (NL l) λr1=>AS (DN 1 (r1.length+([c]:List Int).length))<|some ((),r1++([c]:List Int))
def Ji (l:(List Int))(s:Am):Option (Int×Unit×(List Int)):=
 Bi (NL l) λr1=>AS (DN 1 (r1.length+s.length))<|some ((s.length:Int),(),r1++Gd s)
def PZ (l:Am):Option (Am):=
 AS (decide (0<(Gd l).length))<|some l
def NK (l:(List Int)):Option ((List Int)):=
 some l
def KX (l:(List Int))(c:Int):Option (Unit×(List Int)):=
 Bi (NK l) λr1=>AS (DN 1 (r1.length+([c]:List Int).length))<|some ((),r1++([c]:List Int))
def Jh (l:(List Int))(s:Am):Option (Int×Unit×(List Int)):=
 Bi (NK l) λr1=>AS (DN 1 (r1.length+s.length))<|some ((s.length:Int),(),r1++Gd s)
def PY (l:Am):Option (Am):=
 AS (decide (0<(Gd l).length))<|some l
set_option maxRecDepth 100000
set_option maxHeartbeats 4000000
theorem SX:∃inf,Tryz.prog.info? 5=some inf∧inf.zero=some (.int .u8 0)∧inf.size=1∧inf.bytes=1:=by
  have key:(Tryz.prog.info? 5).map (λi=>(i.zero,i.size,i.bytes))=some (some (.int .u8 0),1,1):=by kernel_rfl
  obtain⟨inf,h1,h2⟩:=Option.map_eq_some_iff.1 key;simp only[Prod.mk.injEq] at h2;exact⟨inf,h1,h2.1,h2.2.1,h2.2.2⟩
theorem SV:∃j,Tryz.prog.info? 101=some j∧j.size≠0:=by
  have key:(Tryz.prog.info? 101).map (λi=>i.size)=some 2:=by kernel_rfl
  obtain⟨j,h1,h2⟩:=Option.map_eq_some_iff.1 key;exact⟨j,h1,by rw[h2];decide⟩
theorem SW:∃j,Tryz.prog.info? 101=some j:=SV.imp λ_ h=>h.1
theorem Tu (ha:Nat)(hb:Value)(l:(List Int))(r:(List Int))(h:NL l=some r):Fn Tryz.prog GE 143 [rP ha 0] [.blk ha [rv (.pointer none),rv hb] 101,.row hb 5 1 (A1 BO l)] (λR H=>∃w0:Value,R=rv (.tuple #[])∧H=[.blk ha [rP ha 0,rv w0] 101,.row w0 5 1 (A1 BO r)]):=by
 refine enter (n:=20) Tryz.func143 Aa Tryz.ntmps143 Aa (λw Z=>?_);unfold NL at h;refine Ah (wm Aa (wv (AG Aa) (vF HG Aa W8 (vL 0 Jo Aa (wv (r:=rB true) (XC ⟨_,W5⟩ Aa) (An (EQ Aa Aa (Al (wm Aa (wm Aa (wv (r:=rP ha 0) (SG (i:=0) W5 Tryz.underlying149 SV Aa Aa Aa) (BN (r:=rP ha 0) (Zz Tryz.func150 (by kernel_rfl) (by kernel_rfl) (by kernel_rfl) (by kernel_rfl) Aa) Aa (wv (r:=rP ha 0) (Qq (i:=0) Tryz.underlying149 W5 SW Aa Aa (by kernel_rfl)) (wv (AG Aa) (vF HG Aa W8 (B5 (i:=0) W8 Aa Aa (BU Aa) Aa Aa (cs':=[rP ha 0,rv hb]) Aa (H':=[.blk ha [rP ha 0,rv hb] 101,.row hb 5 1 (A1 BO l)]) Aa (Ak ?_)))))))))))))))));obtain rfl:=Ap h;exact Hi (Rk Tryz.results143) (sC (sC sN)) ⟨hb,Aa,Aa⟩
theorem Qw (ha:Nat)(hb:Value)(l:(List Int))(c:Int)(r:Unit×(List Int))(h:KY l c=some r):Fn Tryz.prog GE 115 [rP ha 0,rI .u8 c] [.blk ha [rv (.pointer none),rv hb] 101,.row hb 5 1 (A1 BO l)] (λR H=>∃w0:Value,R=rv (.nilIface)∧H=[.blk ha [rP ha 0,rv w0] 101,.row w0 5 1 (A1 BO r.2)]):=by
 refine enter (n:=17) Tryz.func115 Aa Tryz.ntmps115 Aa (λw Z=>?_);unfold KY at h;refine Ah (wa Aa (Bd (wm Aa (ob h λr1 e3 h2=>Gc (Hr:=[]) Tryz.call143 (Tu ha hb l r1 e3) Aa (AcK _) Aa ?_))));rintro _ _ ⟨v4,rfl,rfl⟩;refine Bd (wm Aa (wm Aa (wv (AG Aa) (vF HG Aa L9 (vL 0 RZ Aa (wm Aa (AN (ys:=([c]:List Int)) (enc:=BO) (css:=[[rI .u8 c]]) (xs:=[.tmp 12]) OU Tryz.sizeOf5 yz5 Aa Aa Aa ⟨Dx.one Aa (Up.refl _),trivial⟩ Aa Ii Aa Aa Aa (λb5=>?_))))))));refine ck h2 λg7 h8=>Exists.elim SX λinf hinf=>B6 (xs:=r1) (ys:=([c]:List Int)) (enc:=BO) (i:=2) OU hinf.1 hinf.2.1 hinf.2.2.1 hinf.2.2.2 Aa Aa Aa Aa Aa (I7.w (i:=0) Aa Aa) Ii NH g7 Aa (λv6=>?_);refine wv (AG Aa) (vF HG Aa L9 (B5 (i:=2) L9 Aa Aa (Dt (i:=0) Aa) Aa Aa (cs':=[rP ha 0,rv v6]) Aa (H':=[.row v6 5 1 (A1 BO (r1++([c]:List Int))),.row (.slice (some ⟨b5,0,none⟩) 1 1) 5 1 (A1 BO ([c]:List Int)),.blk ha [rP ha 0,rv v6] 101]) Aa (Bd (wa Aa (An (Ar (Cv (H2:=[.blk ha [rP ha 0,rv v6] 101,.row v6 5 1 (A1 BO (r1++([c]:List Int))),.row (.slice (some ⟨b5,0,none⟩) 1 1) 5 1 (A1 BO ([c]:List Int))]) ((A6 (i:=2) Aa).trans (AcQ _ (AcK _))) ?_)))))));obtain rfl:=Ap h8;exact Aq (B2 Tryz.results115 (A5 Aa)) (sC (sC (sS sN))) ⟨v6,Aa,Aa⟩
theorem O1 (ha:Nat)(hb:Value)(l:(List Int))(s:Am)(r:Int×Unit×(List Int))(h:Ji l s=some r):Fn Tryz.prog GE 112 [rP ha 0,rS s] [.blk ha [rv (.pointer none),rv hb] 101,.row hb 5 1 (A1 BO l)] (λR H=>∃w0:Value,R=CY [Ai r.1,rv (.nilIface)]∧H=[.blk ha [rP ha 0,rv w0] 101,.row w0 5 1 (A1 BO r.2.2)]):=by
 refine enter (n:=19) Tryz.func112 Aa Tryz.ntmps112 Aa (λw Z=>?_);unfold Ji at h;refine Ah (wa Aa (wa Aa (Bd (wm Aa (ob h λr1 e3 h2=>Gc (Hr:=[]) Tryz.call143 (Tu ha hb l r1 e3) Aa (AcK _) Aa ?_)))));rintro _ _ ⟨v4,rfl,rfl⟩;refine Bd (wm Aa (wm Aa (wv (AG Aa) (vF HG Aa L9 (vL 0 RZ Aa (wm Aa (ck h2 λg6 h7=>Exists.elim SX λinf hinf=>Ml (xs:=r1) (i:=1) OU Di hinf.1 hinf.2.1 hinf.2.2.1 hinf.2.2.2 Aa Aa Aa g6 Aa (λv5=>?_))))))));refine wv (AG Aa) (vF HG Aa L9 (B5 (i:=1) L9 Aa Aa (Dt (i:=0) Aa) Aa Aa (cs':=[rP ha 0,rv v5]) Aa (H':=[.row v5 5 1 (A1 BO (r1++Gd s)),.blk ha [rP ha 0,rv v5] 101]) Aa (Bd (wm Aa (wv (BJ Di Aa) (wa Aa (wa Aa (An (Ar (Cv (H2:=[.blk ha [rP ha 0,rv v5] 101,.row v5 5 1 (A1 BO (r1++Gd s))]) ((A6 (i:=1) Aa).trans (AcQ _ (AcK _))) ?_))))))))));obtain rfl:=Ap h7;exact Aq (CM Tryz.results112 (A5 Aa) (A5 Aa)) (sC (sC sN)) ⟨v5,Aa,Aa⟩
theorem Uy (ha:Nat)(hb:Value)(l:Am)(r:Am)(h:PZ l=some r):Fn Tryz.prog GE 88 [rP ha 0] [.blk ha [rv (.pointer none),rv hb] 101,.row hb 5 1 (A1 BO (Gd l))] (λR H=>R=rS r∧H=[]):=by
 refine enter (n:=14) Tryz.func88 Aa Tryz.ntmps88 Aa (λw Z=>?_);unfold PZ at h;refine Ah (wv (r:=rS ([]:Am)) (AC Aa) (An (Ao (ck h λg1 h2=>E1 (H1:=[.blk ha [rv (.pointer none),rv hb] 101]) [0] [⟨[],rP ha 0,0⟩,⟨[0],rP ha 0,0⟩,⟨[1],rP ha 1,0⟩,⟨[2],rv hb,1⟩,⟨[3],rv (slp hb),1⟩,⟨[],rP ha 0,0⟩,⟨[5],rP ha 0,0⟩,⟨[6],rP ha 1,0⟩,⟨[7],rv hb,1⟩,⟨[8],Ai ((Gd l).length:Int),1⟩,⟨[4,9],rS l,2⟩,⟨[10],rS l,0⟩] (rle [(11,_),(2,[.blk ha [rv (.pointer none),rv hb] 101])]) [2] ?_ ?_))))
 ·refine oq (A8 Aa) (oq (AG Aa) (oq (AI HG Aa L9 Aa Aa) (of (Bq (i:=0) RZ Aa Aa Aa) (of (Oh (i:=1) Aa Aa (OE g1)) (oq (A8 Aa) (oq (AG Aa) (oq (AI HG Aa L9 Aa Aa) (of (Bq (i:=0) RZ Aa Aa Aa) (of (Gk (ys:=Gd l) (enc:=BO) (i:=1) OU Aa Aa) (Hg Aa (AbG (KZ (i:=1) Tryz.underlying134 (by kernel_rfl) Aa Aa Aa (OE g1) Aa)) ?_))))))))));refine oq (AC Aa) ?_;exact C7
 refine A9 (Ar ?_);obtain rfl:=Ap h2;exact Aq (B2 Tryz.results88 (A5 Aa)) (sS sN) ⟨Aa,Aa⟩
theorem Tt (ha:Nat)(hb:Value)(l:(List Int))(r:(List Int))(h:NK l=some r):Fn Tryz.prog GE 143 [rP ha 0] [.blk ha [rP ha 0,rv hb] 101,.row hb 5 1 (A1 BO l)] (λR H=>∃w0:Value,R=rv (.tuple #[])∧H=[.blk ha [rP ha 0,rv w0] 101,.row w0 5 1 (A1 BO r)]):=by
 refine enter (n:=20) Tryz.func143 Aa Tryz.ntmps143 Aa (λw Z=>?_);unfold NK at h;refine Ah (wm Aa (wv (AG Aa) (vF HG Aa W8 (vL 0 Jo Aa (wv (r:=rB false) (AaE ⟨_,W5⟩ Aa) (An (Jp Aa Aa (Ah (wm Aa (wv (AG Aa) (vF HG Aa W8 (vL 0 Jo Aa (wm Aa (wv (r:=rB false) (TT W5 SW Aa Aa) (An (Jp Aa Aa (As ?_)))))))))))))))));obtain rfl:=Ap h;exact Hi (Rk Tryz.results143) (sC (sC sN)) ⟨hb,Aa,Aa⟩
theorem Qv (ha:Nat)(hb:Value)(l:(List Int))(c:Int)(r:Unit×(List Int))(h:KX l c=some r):Fn Tryz.prog GE 115 [rP ha 0,rI .u8 c] [.blk ha [rP ha 0,rv hb] 101,.row hb 5 1 (A1 BO l)] (λR H=>∃w0:Value,R=rv (.nilIface)∧H=[.blk ha [rP ha 0,rv w0] 101,.row w0 5 1 (A1 BO r.2)]):=by
 refine enter (n:=17) Tryz.func115 Aa Tryz.ntmps115 Aa (λw Z=>?_);unfold KX at h;refine Ah (wa Aa (Bd (wm Aa (ob h λr1 e3 h2=>Gc (Hr:=[]) Tryz.call143 (Tt ha hb l r1 e3) Aa (AcK _) Aa ?_))));rintro _ _ ⟨v4,rfl,rfl⟩;refine Bd (wm Aa (wm Aa (wv (AG Aa) (vF HG Aa L9 (vL 0 RZ Aa (wm Aa (AN (ys:=([c]:List Int)) (enc:=BO) (css:=[[rI .u8 c]]) (xs:=[.tmp 12]) OU Tryz.sizeOf5 yz5 Aa Aa Aa ⟨Dx.one Aa (Up.refl _),trivial⟩ Aa Ii Aa Aa Aa (λb5=>?_))))))));refine ck h2 λg7 h8=>Exists.elim SX λinf hinf=>B6 (xs:=r1) (ys:=([c]:List Int)) (enc:=BO) (i:=2) OU hinf.1 hinf.2.1 hinf.2.2.1 hinf.2.2.2 Aa Aa Aa Aa Aa (I7.w (i:=0) Aa Aa) Ii NH g7 Aa (λv6=>?_);refine wv (AG Aa) (vF HG Aa L9 (B5 (i:=2) L9 Aa Aa (Dt (i:=0) Aa) Aa Aa (cs':=[rP ha 0,rv v6]) Aa (H':=[.row v6 5 1 (A1 BO (r1++([c]:List Int))),.row (.slice (some ⟨b5,0,none⟩) 1 1) 5 1 (A1 BO ([c]:List Int)),.blk ha [rP ha 0,rv v6] 101]) Aa (Bd (wa Aa (An (Ar (Cv (H2:=[.blk ha [rP ha 0,rv v6] 101,.row v6 5 1 (A1 BO (r1++([c]:List Int))),.row (.slice (some ⟨b5,0,none⟩) 1 1) 5 1 (A1 BO ([c]:List Int))]) ((A6 (i:=2) Aa).trans (AcQ _ (AcK _))) ?_)))))));obtain rfl:=Ap h8;exact Aq (B2 Tryz.results115 (A5 Aa)) (sC (sC (sS sN))) ⟨v6,Aa,Aa⟩
theorem O0 (ha:Nat)(hb:Value)(l:(List Int))(s:Am)(r:Int×Unit×(List Int))(h:Jh l s=some r):Fn Tryz.prog GE 112 [rP ha 0,rS s] [.blk ha [rP ha 0,rv hb] 101,.row hb 5 1 (A1 BO l)] (λR H=>∃w0:Value,R=CY [Ai r.1,rv (.nilIface)]∧H=[.blk ha [rP ha 0,rv w0] 101,.row w0 5 1 (A1 BO r.2.2)]):=by
 refine enter (n:=19) Tryz.func112 Aa Tryz.ntmps112 Aa (λw Z=>?_);unfold Jh at h;refine Ah (wa Aa (wa Aa (Bd (wm Aa (ob h λr1 e3 h2=>Gc (Hr:=[]) Tryz.call143 (Tt ha hb l r1 e3) Aa (AcK _) Aa ?_)))));rintro _ _ ⟨v4,rfl,rfl⟩;refine Bd (wm Aa (wm Aa (wv (AG Aa) (vF HG Aa L9 (vL 0 RZ Aa (wm Aa (ck h2 λg6 h7=>Exists.elim SX λinf hinf=>Ml (xs:=r1) (i:=1) OU Di hinf.1 hinf.2.1 hinf.2.2.1 hinf.2.2.2 Aa Aa Aa g6 Aa (λv5=>?_))))))));refine wv (AG Aa) (vF HG Aa L9 (B5 (i:=1) L9 Aa Aa (Dt (i:=0) Aa) Aa Aa (cs':=[rP ha 0,rv v5]) Aa (H':=[.row v5 5 1 (A1 BO (r1++Gd s)),.blk ha [rP ha 0,rv v5] 101]) Aa (Bd (wm Aa (wv (BJ Di Aa) (wa Aa (wa Aa (An (Ar (Cv (H2:=[.blk ha [rP ha 0,rv v5] 101,.row v5 5 1 (A1 BO (r1++Gd s))]) ((A6 (i:=1) Aa).trans (AcQ _ (AcK _))) ?_))))))))));obtain rfl:=Ap h7;exact Aq (CM Tryz.results112 (A5 Aa) (A5 Aa)) (sC (sC sN)) ⟨v5,Aa,Aa⟩
theorem Uw (ha:Nat)(hb:Value)(l:Am)(r:Am)(h:PY l=some r):Fn Tryz.prog GE 88 [rP ha 0] [.blk ha [rP ha 0,rv hb] 101,.row hb 5 1 (A1 BO (Gd l))] (λR H=>R=rS r∧H=[]):=by
 refine enter (n:=14) Tryz.func88 Aa Tryz.ntmps88 Aa (λw Z=>?_);unfold PY at h;refine Ah (wv (r:=rS ([]:Am)) (AC Aa) (An (Ao (ck h λg1 h2=>E1 (H1:=[.blk ha [rP ha 0,rv hb] 101]) [0] [⟨[],rP ha 0,0⟩,⟨[0],rP ha 0,0⟩,⟨[1],rP ha 1,0⟩,⟨[2],rv hb,1⟩,⟨[3],rv (slp hb),1⟩,⟨[],rP ha 0,0⟩,⟨[5],rP ha 0,0⟩,⟨[6],rP ha 1,0⟩,⟨[7],rv hb,1⟩,⟨[8],Ai ((Gd l).length:Int),1⟩,⟨[4,9],rS l,2⟩,⟨[10],rS l,0⟩] (rle [(11,_),(2,[.blk ha [rP ha 0,rv hb] 101])]) [2] ?_ ?_))))
 ·refine oq (A8 Aa) (oq (AG Aa) (oq (AI HG Aa L9 Aa Aa) (of (Bq (i:=0) RZ Aa Aa Aa) (of (Oh (i:=1) Aa Aa (OE g1)) (oq (A8 Aa) (oq (AG Aa) (oq (AI HG Aa L9 Aa Aa) (of (Bq (i:=0) RZ Aa Aa Aa) (of (Gk (ys:=Gd l) (enc:=BO) (i:=1) OU Aa Aa) (Hg Aa (AbG (KZ (i:=1) Tryz.underlying134 (by kernel_rfl) Aa Aa Aa (OE g1) Aa)) ?_))))))))));refine oq (AC Aa) ?_;exact C7
 refine A9 (Ar ?_);obtain rfl:=Ap h2;exact Aq (B2 Tryz.results88 (A5 Aa)) (sS sN) ⟨Aa,Aa⟩
theorem CV (b:Nat)(v:Value)(l:Am)(c:Int)(g1:DN 1 (l.length+1)=true)(g2:Bu .u8 c=true):Fn Tryz.prog GE 115 [rP b 0,rI .u8 c] [.bld 101 5 b v l] (λR H=>∃w0:Value,R=rv .nilIface∧H=[.bld 101 5 b w0 (l++[UInt8.ofNat c.toNat])]):=by
  have hc:Gd (l++[UInt8.ofNat c.toNat])=Gd l++[c]:=by
    have:=(by simpa[Bu,IntKind.min,IntKind.max,IntKind.signed,IntKind.bits] using g2:0≤c∧c≤255)
    simp only[Gd,List.map_append,Ad7,List.map_nil]
    congr 2
    simp;omega
  refine Fn.bld (res:=rv .nilIface) λp hp=>?_;rw[hc];rcases hp with rfl | rfl
  · refine(Qw b v (Gd l) c (((),Gd l++[c])) ?_).sub (I6.refl _) (λr H h=>by obtain⟨w0,h1,h2⟩:=h;exact⟨w0,h1,h2⟩)
    simp only[KY,NL,Bi,E3];simp[AS,g1]
  · refine(Qv b v (Gd l) c (((),Gd l++[c])) ?_).sub (I6.refl _) (λr H h=>by obtain⟨w0,h1,h2⟩:=h;exact⟨w0,h1,h2⟩)
    simp only[KX,NK,Bi,E3];simp[AS,g1]
theorem IZ (b:Nat)(v:Value)(l s:Am)(g1:DN 1 (l.length+s.length)=true):Fn Tryz.prog GE 112 [rP b 0,rS s] [.bld 101 5 b v l] (λR H=>∃w0:Value,R=CY [Ai (s.length:Int),rv .nilIface]∧H=[.bld 101 5 b w0 (l++s)]):=by
  have hc:Gd (l++s)=Gd l++Gd s:=by simp[Gd]
  refine Fn.bld (res:=CY [Ai (s.length:Int),rv .nilIface]) λp hp=>?_;rw[hc];rcases hp with rfl | rfl
  · refine(O1 b v (Gd l) s (((s.length:Int),(),Gd l++Gd s)) ?_).sub (I6.refl _) (λr H h=>by obtain⟨w0,h1,h2⟩:=h;exact⟨w0,h1,h2⟩)
    simp only[Ji,NL,Bi,E3];simp[AS,g1]
  · refine(O0 b v (Gd l) s (((s.length:Int),(),Gd l++Gd s)) ?_).sub (I6.refl _) (λr H h=>by obtain⟨w0,h1,h2⟩:=h;exact⟨w0,h1,h2⟩)
    simp only[Jh,NK,Bi,E3];simp[AS,g1]
theorem Wx (b:Nat)(v:Value)(l:Am)(g1:decide (0<l.length)=true):Fn Tryz.prog GE 88 [rP b 0] [.bld 101 5 b v l] (λR H=>R=rS l∧H=[]):=by
  refine Fn.bldS (res:=rS l) λp hp=>?_;rcases hp with rfl | rfl
  · exact Uy b v l l (by simp only[PZ,E3];simp[AS,g1])
  · exact Uw b v l l (by simp only[PY,E3];simp[AS,g1])
end Go.Proofs.YtghdglcmblpbeaaGreatDoor.Q
namespace Go.Proofs.YtghdglcmblpbeaaGreatDoor
open Go
set_option linter.unusedVariables false
structure Ab where
 fKind:Int
 fInt:Int
 fStr:Am
 fN:Int
 deriving DecidableEq,Inhabited
def Lh (s:Am)(ha:Int):Option (Stp (Int) (Out (Bool) (Unit))):=
 AT (decide (ha<(s.length:Int))) (AS (Co ha (s.length:Int))<|AT (((decide ((BA s ha)<32))||(decide (126<(BA s ha))))) (some (.out (.ret false))) (AS (Bu .i64 (ha+1))<|some (.next (ha+1)))) (some (.out (.go ())))
def Lg :Option (Bool):=
 some true
def KH (F:Nat)(s:Am):Option (Bool):=
 Bi (BS (λσ=>Lh s σ) F 0) (BP λν=>Lg )
def Cd (ok:Bool)(i:Int):Option (Int):=
 AT (ok) (AS (Bu .i64 (i+1))<|some (i+1)) (some (-1))
def Qn (F:Nat)(c:Ab):Option (Bool):=
 AS (imp (decide (c.fKind=4)) (imp (decide (c.fInt=0)) (imp (decide (c.fN=0)) ((KH F c.fStr).isSome))))<|some ((decide (c.fKind=4))&&((decide (c.fInt=0))&&((decide (c.fN=0))&&(ov (KH F c.fStr)))))
def Rq (F:Nat)(ha:(List Ab)→Int→Int→Option (Int))(hb:(List Ab)→Int→Int→Option (Int))(v:(List Ab))(i:Int):Option (Int):=
 AT (((decide (i<0))||(decide ((v.length:Int)≤i)))) (some (-1)) (AS (Co i (v.length:Int))<|AT (decide (((At v i).fKind)=1)) (AS (imp (decide (((At v i).fInt)=0)) (imp (decide (((At v i).fStr)=([]:Am))) ((Cd (decide (((At v i).fN)=0)) i).isSome)))<|AS (imp (decide (((At v i).fInt)=0)) (imp (!(decide (((At v i).fStr)=([]:Am)))) ((Cd false i).isSome)))<|AS (imp (!(decide (((At v i).fInt)=0))) ((Cd false i).isSome))<|some (bif decide (((At v i).fInt)=0) then(bif decide (((At v i).fStr)=([]:Am)) then(ov (Cd (decide (((At v i).fN)=0)) i)) else(ov (Cd false i))) else(ov (Cd false i)))) (AT (decide (((At v i).fKind)=2)) (AS (imp (decide (((At v i).fInt)=0)) (imp (decide (((At v i).fStr)=([]:Am))) ((Cd (decide (((At v i).fN)=0)) i).isSome)))<|AS (imp (decide (((At v i).fInt)=0)) (imp (!(decide (((At v i).fStr)=([]:Am)))) ((Cd false i).isSome)))<|AS (imp (!(decide (((At v i).fInt)=0))) (imp (decide (((At v i).fInt)=1)) (imp (decide (((At v i).fStr)=([]:Am))) ((Cd (decide (((At v i).fN)=0)) i).isSome))))<|AS (imp (!(decide (((At v i).fInt)=0))) (imp (decide (((At v i).fInt)=1)) (imp (!(decide (((At v i).fStr)=([]:Am)))) ((Cd false i).isSome))))<|AS (imp (!(decide (((At v i).fInt)=0))) (imp (!(decide (((At v i).fInt)=1))) ((Cd false i).isSome)))<|some (bif decide (((At v i).fInt)=0) then(bif decide (((At v i).fStr)=([]:Am)) then(ov (Cd (decide (((At v i).fN)=0)) i)) else(ov (Cd false i))) else(bif decide (((At v i).fInt)=1) then(bif decide (((At v i).fStr)=([]:Am)) then(ov (Cd (decide (((At v i).fN)=0)) i)) else(ov (Cd false i))) else(ov (Cd false i))))) (AT (decide (((At v i).fKind)=3)) (AS (imp (decide (((At v i).fStr)=([]:Am))) ((Cd (decide (((At v i).fN)=0)) i).isSome))<|AS (imp (!(decide (((At v i).fStr)=([]:Am)))) ((Cd false i).isSome))<|some (bif decide (((At v i).fStr)=([]:Am)) then(ov (Cd (decide (((At v i).fN)=0)) i)) else(ov (Cd false i)))) (AT (decide (((At v i).fKind)=4)) (Bi (Qn F (At v i)) λhe=>Bi (Cd he i) λhf=>some hf) (AT (((decide (((At v i).fKind)=5))&&((decide (((At v i).fInt)=0))&&((decide (((At v i).fStr)=([]:Am)))&&(decide (0≤((At v i).fN))))))) (AS (Bu .i64 (i+1))<|Bi (ha v (i+1) ((At v i).fN)) λhg=>some hg) (AT (((decide (((At v i).fKind)=6))&&((decide (((At v i).fInt)=0))&&((decide (((At v i).fStr)=([]:Am)))&&(decide (0≤((At v i).fN))))))) (AS (Bu .i64 (i+1))<|Bi (hb v (i+1) ((At v i).fN)) λhh=>some hh) (some (-1))))))))
def Dr (v:(List Ab))(n:Int)(hf:(List Ab)→Int→Option (Int))(hb:Int)(ha:Int):Option (Stp (Int×Int) (Out (Int) (Int))):=
 AT (decide (ha<n)) (Bi (hf v hb) λhe=>AT (decide (he<0)) (some (.out (.ret (-1)))) (AS (Bu .i64 (ha+1))<|some (.next (he,ha+1)))) (some (.out (.go hb)))
def ET (ha:Int):Option (Int):=
 some ha
def Kd (F:Nat)(ha:(List Ab)→Int→Option (Int))(v:(List Ab))(i:Int)(n:Int):Option (Int):=
 Bi (BS (λσ=>Dr v n ha σ.1 σ.2) F (i,0)) (BP λν=>ET ν)
def DX (F:Nat)(v:(List Ab))(n:Int)(hg:(List Ab)→Int→Option (Int))(ha:Int)(he:Am)(hb:Int):Option (Stp (Int×Am×Int) (Out (Int) (Int))):=
 AT (decide (hb<n)) (AS (imp (!(decide ((v.length:Int)≤ha))) (Co ha (v.length:Int)))<|AS (imp (!(decide ((v.length:Int)≤ha))) ((Qn F (At v ha)).isSome))<|AT (((decide ((v.length:Int)≤ha))||((!(ov (Qn F (At v ha))))||((decide (0<hb))&&(DI ((At v ha).fStr) he||decide (((At v ha).fStr)=he)))))) (some (.out (.ret (-1)))) (AS (Co ha (v.length:Int))<|AS (Bu .i64 (ha+1))<|Bi (hg v (ha+1)) λhf=>AT (decide (hf<0)) (some (.out (.ret (-1)))) (AS (Bu .i64 (hb+1))<|some (.next (hf,(At v ha).fStr,hb+1))))) (some (.out (.go ha)))
def Id (ha:Int):Option (Int):=
 some ha
def OA (F:Nat)(ha:(List Ab)→Int→Option (Int))(v:(List Ab))(i:Int)(n:Int):Option (Int):=
 Bi (BS (λσ=>DX F v n ha σ.1 σ.2.1 σ.2.2) F (i,([]:Am),0)) (BP λν=>Id ν)
mutual
def DR:Nat→(List Ab)→Int→Option (Int)
 | 0,_,_=>none
 | nn+1,v,i=>Rq nn (Ie nn) (Nz nn) v i
def Ie:Nat→(List Ab)→Int→Int→Option (Int)
 | 0,_,_,_=>none
 | nn+1,v,i,n=>Kd nn (DR nn) v i n
def Nz:Nat→(List Ab)→Int→Int→Option (Int)
 | 0,_,_,_=>none
 | nn+1,v,i,n=>OA nn (DR nn) v i n
end
def M6 (F:Nat)(v:(List Ab)):Option (Bool):=
 AS (imp (decide (0<(v.length:Int))) ((DR F v 0).isSome))<|some ((decide (0<(v.length:Int)))&&(decide ((ov (DR F v 0))=(v.length:Int))))
def Dk (F:Nat)(v:(List Ab))(i:Int)(hf:(List Ab)→Int→Option (Int))(he:Int)(hb:Int)(ha:Int):Option (Stp (Int×Int×Int) (Out (Int) (Int))):=
 AT (decide (ha<((At v i).fN))) (AT (decide (((At v i).fKind)=6)) (AS (Bu .i64 (hb+1))<|Bi (hf v (hb+1)) λhg=>AT (decide (he<hg)) (Bi (DR F v (hb+1)) λhi=>AS (Bu .i64 (ha+1))<|some (.next (hg,hi,ha+1))) (Bi (DR F v (hb+1)) λhj=>AS (Bu .i64 (ha+1))<|some (.next (he,hj,ha+1)))) (Bi (hf v hb) λhh=>AT (decide (he<hh)) (Bi (DR F v hb) λhk=>AS (Bu .i64 (ha+1))<|some (.next (hh,hk,ha+1))) (Bi (DR F v hb) λhl=>AS (Bu .i64 (ha+1))<|some (.next (he,hl,ha+1))))) (some (.out (.go he)))
def EC (ha:Int):Option (Int):=
 AS (Bu .i64 (ha+1))<|some (ha+1)
def J4 (F:Nat)(ha:(List Ab)→Int→Option (Int))(v:(List Ab))(i:Int):Option (Int):=
 AS (Co i (v.length:Int))<|AT (((!decide (((At v i).fKind)=5))&&(!decide (((At v i).fKind)=6)))) (some 1) (AS (Bu .i64 (i+1))<|Bi (BS (λσ=>Dk F v i ha σ.1 σ.2.1 σ.2.2) F (0,i+1,0)) (BP λν=>EC ν))
def DC:Nat→(List Ab)→Int→Option (Int)
 | 0,_,_=>none
 | nn+1,v,i=>J4 nn (DC nn) v i
def D6 (s:Am)(hb:Am)(ha:Int):Option (Stp (Am×Int) (Out (Am) (Am))):=
 AT (decide (ha<(s.length:Int))) (AS (Co ha (s.length:Int))<|AT (((decide ((BA s ha)=34))||(decide ((BA s ha)=92)))) (AS (Bu .i64 ((hb.length:Int)+(([92]:Am).length:Int)))<|AS (Bu .i64 (ha+1))<|AS (GM ha (ha+1))<|AS (GM (ha+1) (s.length:Int))<|AS (Bu .i64 (((hb++([92]:Am)).length:Int)+((List.take (Int.toNat (ha+1)-Int.toNat ha) (List.drop (Int.toNat ha) s)).length:Int)))<|some (.next ((hb++([92]:Am))++(List.take (Int.toNat (ha+1)-Int.toNat ha) (List.drop (Int.toNat ha) s)),ha+1))) (AS (Bu .i64 (ha+1))<|AS (GM ha (ha+1))<|AS (GM (ha+1) (s.length:Int))<|AS (Bu .i64 ((hb.length:Int)+((List.take (Int.toNat (ha+1)-Int.toNat ha) (List.drop (Int.toNat ha) s)).length:Int)))<|some (.next (hb++(List.take (Int.toNat (ha+1)-Int.toNat ha) (List.drop (Int.toNat ha) s)),ha+1)))) (some (.out (.go hb)))
def Et (ha:Am):Option (Am):=
 AS (Bu .i64 ((ha.length:Int)+(([34]:Am).length:Int)))<|some (ha++([34]:Am))
def Kc (F:Nat)(s:Am):Option (Am):=
 Bi (BS (λσ=>D6 s σ.1 σ.2) F (([34]:Am),0)) (BP λν=>Et ν)
def EB (F:Nat)(v:(List Ab))(i:Int)(hf:(List Ab)→Int→Option (Am))(ha:Am)(hb:Int)(he:Int):Option (Stp (Am×Int×Int) (Out (Am) (Am))):=
 AT (decide (he<((At v i).fN))) (AT (decide (0<he)) (AS (Bu .i64 ((ha.length:Int)+(([44]:Am).length:Int)))<|AT (decide (((At v i).fKind)=6)) (AS (Co hb (v.length:Int))<|Bi (Kc F ((At v hb).fStr)) λhg=>AS (Bu .i64 (((ha++([44]:Am)).length:Int)+(hg.length:Int)))<|AS (Bu .i64 ((((ha++([44]:Am))++hg).length:Int)+(([58]:Am).length:Int)))<|AS (Bu .i64 (hb+1))<|Bi (hf v (hb+1)) λhi=>AS (Bu .i64 (((((ha++([44]:Am))++hg)++([58]:Am)).length:Int)+(hi.length:Int)))<|Bi (DR F v (hb+1)) λhm=>AS (Bu .i64 (he+1))<|some (.next ((((ha++([44]:Am))++hg)++([58]:Am))++hi,hm,he+1))) (Bi (hf v hb) λhj=>AS (Bu .i64 (((ha++([44]:Am)).length:Int)+(hj.length:Int)))<|Bi (DR F v hb) λhn=>AS (Bu .i64 (he+1))<|some (.next ((ha++([44]:Am))++hj,hn,he+1)))) (AT (decide (((At v i).fKind)=6)) (AS (Co hb (v.length:Int))<|Bi (Kc F ((At v hb).fStr)) λhh=>AS (Bu .i64 ((ha.length:Int)+(hh.length:Int)))<|AS (Bu .i64 (((ha++hh).length:Int)+(([58]:Am).length:Int)))<|AS (Bu .i64 (hb+1))<|Bi (hf v (hb+1)) λhk=>AS (Bu .i64 ((((ha++hh)++([58]:Am)).length:Int)+(hk.length:Int)))<|Bi (DR F v (hb+1)) λho=>AS (Bu .i64 (he+1))<|some (.next (((ha++hh)++([58]:Am))++hk,ho,he+1))) (Bi (hf v hb) λhl=>AS (Bu .i64 ((ha.length:Int)+(hl.length:Int)))<|Bi (DR F v hb) λhp=>AS (Bu .i64 (he+1))<|some (.next (ha++hl,hp,he+1))))) (some (.out (.go ha)))
def Iw (v:(List Ab))(i:Int)(ha:Am):Option (Am):=
 AT (decide (((At v i).fKind)=6)) (AS (Bu .i64 ((([123]:Am).length:Int)+(ha.length:Int)))<|AS (Bu .i64 (((([123]:Am)++ha).length:Int)+(([125]:Am).length:Int)))<|some ((([123]:Am)++ha)++([125]:Am))) (AS (Bu .i64 ((([91]:Am).length:Int)+(ha.length:Int)))<|AS (Bu .i64 (((([91]:Am)++ha).length:Int)+(([93]:Am).length:Int)))<|some ((([91]:Am)++ha)++([93]:Am)))
def Nw (F:Nat)(ha:(List Ab)→Int→Option (Am))(v:(List Ab))(i:Int):Option (Am):=
 AS (Co i (v.length:Int))<|AT (decide (((At v i).fKind)=1)) (some ([110,117,108,108]:Am)) (AT (decide (((At v i).fKind)=2)) (AT (decide (((At v i).fInt)=1)) (some ([116,114,117,101]:Am)) (some ([102,97,108,115,101]:Am))) (AT (decide (((At v i).fKind)=3)) (AS (Bu .i64 ((At v i).fInt))<|some (Lib.itoa ((At v i).fInt))) (AT (decide (((At v i).fKind)=4)) (Bi (Kc F ((At v i).fStr)) λhb=>some hb) (AS (Bu .i64 (i+1))<|Bi (BS (λσ=>EB F v i ha σ.1 σ.2.1 σ.2.2) F (([]:Am),i+1,0)) (BP λν=>Iw v i ν)))))
def H7:Nat→(List Ab)→Int→Option (Am)
 | 0,_,_=>none
 | nn+1,v,i=>Nw nn (H7 nn) v i
def EU (v:(List Ab))(ha:Int):Option (Stp (Int) (Out (Int) (Unit))):=
 AT (decide (ha<(v.length:Int))) (AS (Co ha (v.length:Int))<|AT (decide (200<(((At v ha).fStr).length:Int))) (some (.out (.ret 3))) (AS (Bu .i64 (ha+1))<|some (.next (ha+1)))) (some (.out (.go ())))
def J5 (F:Nat)(v:(List Ab)):Option (Int):=
 Bi (H7 F v 0) λha=>AT (decide (4000<(ha.length:Int))) (some 3) (some 0)
def EV (v:(List Ab))(ha:Int):Option (Stp (Int) (Out (Int) (Unit))):=
 AT (decide (ha<(v.length:Int))) (AS (Co ha (v.length:Int))<|AT (((decide (((At v ha).fKind)=3))&&((decide (((At v ha).fInt)<(-1000000000000)))||(decide (1000000000000<((At v ha).fInt)))))) (some (.out (.ret 2))) (AS (Bu .i64 (ha+1))<|some (.next (ha+1)))) (some (.out (.go ())))
def J6 (F:Nat)(v:(List Ab)):Option (Int):=
 AS (imp (!(decide (200<(v.length:Int)))) ((DC F v 0).isSome))<|AT (((decide (200<(v.length:Int)))||(decide (8<(ov (DC F v 0)))))) (some 3) (Bi (BS (λσ=>EU v σ) F 0) (BP λν=>J5 F v ))
def KI (F:Nat)(v:(List Ab)):Option (Int):=
 Bi (M6 F v) λr1=>AT (!r1) (some 1) (Bi (BS (λσ=>EV v σ) F 0) (BP λν=>J6 F v ))
def ES (F:Nat)(v:(List Ab)):Option (Am×Int):=
 Bi (KI F v) λr1=>AT (!decide (r1=0)) (some (([]:Am),r1)) (Bi (H7 F v 0) λr7=>some (r7,0))
end Go.Proofs.YtghdglcmblpbeaaGreatDoor
namespace Go.Proofs.YtghdglcmblpbeaaGreatDoor.Q
open Go Go.RowKit
set_option linter.unusedVariables false
set_option linter.unusedSimpArgs false
set_option maxRecDepth 100000
set_option maxHeartbeats 4000000
@[reducible] def Ac (x:Ab):List Rp:=[Ai x.fKind,Ai x.fInt,rS x.fStr,Ai x.fN]
theorem AO (x:Ab):(Ac x).length=4:=rfl
theorem BG (x:Ab):(Ac x).all (·.one)=true:=rfl
theorem Xt (F:Nat)(s:Am)(r:Bool)(h:KH F s=some r):Fn Tryz.prog GE 145 [rS s] [] (λR H=>R=rB r∧H=[]):=by
 refine enter (n:=20) Tryz.func145 Aa Tryz.ntmps145 Aa (λw Z=>?_);unfold KH at h;refine Ah (wa Aa (An (Ao (Ah (wa Aa (An (AA (ob h λhj hk hh=>Bk (S:=Nat×(Int)×(Unit)) (V:=(Unit)×(Unit)) 0 (λσ=>BS (λσ=>Lh s σ) σ.1 σ.2.1=some hj) (λσ=>[(0,rS s),(3,Ai σ.2.1)]) (λσ=>[]) (λσ=>σ.1) (F,0,()) hk (A4.c Aa (A4.c Aa A4.nil)) sN (λσ=>Lg =some r) (λσ=>[]) (λσ=>[]) ?_ ?_))))))))
 ·rintro⟨h0,hb,⟨⟩⟩ hl;refine BC (l':=[(0,rS s),(3,Ai hb)]) (H':=[]) Aa Aa ?_;obtain⟨hm,rfl,t37,he,hg⟩:=Ce hl;replace he:Lh s hb=some t37:=he;unfold Lh at he;refine Ao (Ah (wm Aa (wm Aa (wv (BJ Di Aa) (wv (Cn Aa Aa) (An (cz he Aa (λhn ho=>?_) (λhn hp=>?_))))))))
  ·refine As (A9 (Ao (AA (ck ho λhi hq=>AE [(0,rS s),(3,Ai hb),(19,rB ((decide ((BA s hb)<32))||(decide (126<(BA s hb)))))] [] ?_ ?_))))
   ·refine Al (wm Aa (wm Aa (wv (Bo Di Aa Aa hi) (wv (Cn Aa Aa) (wm Aa (AP (decide ((BA s hb)<32)) (λha=>?_) (λha=>?_)))))))
    ·refine wf ha (wf ha (wf ha (wf ha (wv (r:=rB true) (Aw Aa ha Aa) (Ak ?_)))));exact BH ha
    ·refine wo ha (wm Aa (wo ha (wm Aa (wo ha (wv (Bo Di Aa Aa hi) (wo ha (wv (CD Aa Aa) (Cs Aa ha Aa (Ak ?_)))))))));exact BH ha
   refine cz hq Aa (λhr hs=>?_) (λhr ht=>?_)
   ·refine Ah (wa Aa (An (Ar (Au (Ae (Ae (AU ?_)))))));have hu:=Bm hs hg hh;refine Au (Ae ?_);obtain rfl:=Ap hu;exact Aq (B2 Tryz.results145 (A5 Aa)) sN ⟨Aa,Aa⟩
   ·refine As (A7 (A9 (Al (wm Aa (ck ht λhw hx=>wv (Bh Aa Aa hw) (wa Aa (Ak ?_)))))));have hy:=AY hx hg;exact Ax (Av (hm,hb+1,()) ⟨hy,AcR _⟩ (A4.c Aa (A4.c Aa A4.nil)) sN)
  ·refine Bt (Ay ?_);have hz:=BD hp hg hh;exact Ay (Bb (Av ((),()) hz A4.nil sN))
 ·rintro⟨⟨⟩,⟨⟩⟩ hf;refine Ci (l':=[]) (H':=[]) Aa Aa ?_;replace hf:Lg =some r:=hf;unfold Lg at hf;refine Bf (A9 (Ah (wa Aa (An (Ar ?_)))));obtain rfl:=Ap hf;exact Aq (B2 Tryz.results145 (A5 Aa)) sN ⟨Aa,Aa⟩
theorem ED (ok:Bool)(i:Int)(r:Int)(h:Cd ok i=some r):Fn Tryz.prog GE 126 [rB ok,Ai i] [] (λR H=>R=Ai r∧H=[]):=by
 refine enter (n:=8) Tryz.func126 Aa Tryz.ntmps126 Aa (λw Z=>?_);unfold Cd at h;refine Ah (wa Aa (An (Ao (Ah (wm Aa (An (cz h Aa (λc1 h2=>?_) (λc1 h5=>?_))))))))
 ·refine Ah (wm Aa (ck h2 λg3 h4=>wv (Bh Aa Aa g3) (wa Aa (An (Ar (Ae ?_))))));obtain rfl:=Ap h4;exact Aq (B2 Tryz.results126 (A5 Aa)) sN ⟨Aa,Aa⟩
 ·refine As (A9 (Ah (wv (r:=Ai (-1)) (AC Aa) (An (Ar ?_)))));obtain rfl:=Ap h5;exact Aq (B2 Tryz.results126 (A5 Aa)) sN ⟨Aa,Aa⟩
theorem Xw (F:Nat)(c:Ab)(r:Bool)(h:Qn F c=some r):Fn Tryz.prog GE 127 [Bw (Ac c)] [] (λR H=>R=rB r∧H=[]):=by
 refine enter (n:=21) Tryz.func127 Aa Tryz.ntmps127 Aa (λw Z=>?_);unfold Qn at h;refine Ah (BF Aa Aa (λb1=>?_));refine wa Aa (An (ck h λg2 h3=>AE [(2,rB ((decide (c.fKind=4))&&((decide (c.fInt=0))&&((decide (c.fN=0))&&(ov (KH F c.fStr))))))] [] ?_ ?_))
 ·refine Al (vF Bp Aa CC (vL 0 CP Aa (wv (Bj Aa Aa) (wm Aa (AP (decide (c.fKind=4)) (λc4=>?_) (λc4=>?_))))))
  ·refine wo c4 (vF Bp Aa BL (wo c4 (vL 0 Cc Aa (wo c4 (wv (Bj Aa Aa) (C3 Aa c4 Aa (wm Aa (AP (decide (c.fInt=0)) (λc5=>?_) (λc5=>?_)))))))))
   ·refine wo c5 (vF Bp Aa BL (wo c5 (vL 0 Cc Aa (wo c5 (wv (Bj Aa Aa) (C3 Aa c5 Aa (wm Aa (AP (decide (c.fN=0)) (λc6=>?_) (λc6=>?_)))))))))
    ·refine wo c6 (vF Bp Aa CX (wo c6 (vL 0 Dm Aa (wo c6 (BI Tryz.call145 (Xt F c.fStr (ov (KH F c.fStr)) (DY (Cr (Cr (Cr g2 c4) c5) c6))) Aa (C3 Aa c6 Aa (wa Aa (Ak ?_))))))));exact BH (And.intro c4 (And.intro c5 c6))
    ·refine wf c6 (wf c6 (wf c6 (wv (r:=rB false) (Az Aa c6 Aa) (wa Aa (Ak ?_)))));exact BH (And.intro c4 (And.intro c5 c6))
   ·refine wf c5 (wf c5 (wf c5 (wv (r:=rB false) (Az Aa c5 Aa) (wm Aa (wz Aa Aa (wz Aa Aa (wz Aa Aa (wv (r:=rB false) (Az (b:=false) Aa Aa Aa) (wa Aa (Ak ?_))))))))));exact BH (And.intro c4 c5)
  ·refine wf c4 (wf c4 (wf c4 (wv (r:=rB false) (Az Aa c4 Aa) (wm Aa (wz Aa Aa (wz Aa Aa (wz Aa Aa (wv (r:=rB false) (Az (b:=false) Aa Aa Aa) (wm Aa (wz Aa Aa (wz Aa Aa (wz Aa Aa (wv (r:=rB false) (Az (b:=false) Aa Aa Aa) (wa Aa (Ak ?_)))))))))))))));exact BH c4
 refine Ar ?_;obtain rfl:=Ap h3;exact Aq (B2 Tryz.results127 (A5 Aa)) sN ⟨Aa,Aa⟩
theorem Xv (F:Nat)(ho:(List Ab)→Int→Int→Option (Int))(hp:(List Ab)→Int→Int→Option (Int))(hr:(∀(v:(List Ab)) (i:Int) (n:Int) (r:Int),ho v i n=some r→Fn Tryz.prog GE 128 [AB 4 (A1 Ac v),Ai i,Ai n] [] (λR H=>R=Ai r∧H=[])))(hs:(∀(v:(List Ab)) (i:Int) (n:Int) (r:Int),hp v i n=some r→Fn Tryz.prog GE 129 [AB 4 (A1 Ac v),Ai i,Ai n] [] (λR H=>R=Ai r∧H=[])))(v:(List Ab))(i:Int)(r:Int)(h:Rq F ho hp v i=some r):Fn Tryz.prog GE 94 [AB 4 (A1 Ac v),Ai i] [] (λR H=>R=Ai r∧H=[]):=by
 refine enter (n:=127) Tryz.func94 Aa Tryz.ntmps94 Aa (λw Z=>?_);unfold Rq at h;refine Ah (wa Aa (An (Ao (AE [(0,AB 4 (A1 Ac v)),(1,Ai i),(13,rB ((decide (i<0))||(decide ((v.length:Int)≤i))))] [] ?_ ?_))))
 ·refine Al (wm Aa (wv (Cn Aa Aa) (wm Aa (AP (decide (i<0)) (λc1=>?_) (λc1=>?_)))))
  ·refine wf c1 (wf c1 (wf c1 (wf c1 (wv (r:=rB true) (Aw Aa c1 Aa) (Ak ?_)))));exact BH c1
  ·refine wo c1 (wm Aa (wo c1 (wm Aa (wo c1 (wv (AW (ys:=v) (enc:=Ac) Br Aa) (wo c1 (wv (GT Aa Aa) (Cs Aa c1 Aa (Ak ?_)))))))));exact BH c1
 refine cz h Aa (λc2 h3=>?_) (λc2 h4=>?_)
 ·refine Ah (wv (r:=Ai (-1)) (AC Aa) (An (Ar (Ae ?_))));obtain rfl:=Ap h3;exact Aq (B2 RS (A5 Aa)) sN ⟨Aa,Aa⟩
 ·refine As (A9 (Ah (wm Aa (wm Aa (ck h4 λg5 h6=>wv (AX (enc:=Ac) (ys:=v) Br Bx Aa Aa g5) (wv (DM LA Bx Aa Aa Aa) (Cg (cs:=[Ai 0,Ai 0,rS ([]:Am),Ai 0]) DU Aa Aa (λb7=>?_))))))));refine Bg (i:=0) Bx Aa Aa Aa (B3.c Aa) Aa Aa (cs':=[Ai ((At v i).fKind),Ai ((At v i).fInt),rS ((At v i).fStr),Ai ((At v i).fN)]) Aa (H':=[.blk b7 (Ac (At v i)) 54]) Aa (An (Ao (Ah (vF Bp Aa CC (vL 0 CP Aa (wv (Bj Aa Aa) (An (cz h6 Aa (λc8 h9=>?_) (λc8 ht=>?_)))))))))
  ·refine ck h9 λhu hw=>ck hw λhx hy=>ck hy λhz h0=>AE [(4,Ai (bif decide (((At v i).fInt)=0) then(bif decide (((At v i).fStr)=([]:Am)) then(ov (Cd (decide (((At v i).fN)=0)) i)) else(ov (Cd false i))) else(ov (Cd false i))))] [] ?_ ?_
   ·refine Al (vF Bp Aa BL (vL 0 Cc Aa (wv (Bj Aa Aa) (wm Aa (AP (decide (((At v i).fInt)=0)) (λhb=>?_) (λhb=>?_))))))
    ·refine wo hb (vF Bp Aa CX (wo hb (vL 0 Dm Aa (wo hb (wv (EZ Aa Aa) (C3 Aa hb Aa (wm Aa (AP (decide (((At v i).fStr)=([]:Am))) (λhf=>?_) (λhf=>?_)))))))))
     ·refine wo hf (vF Bp Aa BL (wo hf (vL 0 Cc Aa (wo hf (wv (Bj Aa Aa) (C3 Aa hf Aa (wm Aa (BI K9 (ED (decide (((At v i).fN)=0)) i (ov (Cd (decide (((At v i).fN)=0)) i)) (DY (Cr (Cr hu hb) hf))) Aa (wa Aa (Ak ?_))))))))));exact BH (And.intro hb hf)
     ·refine wf hf (wf hf (wf hf (wv (r:=rB false) (Az Aa hf Aa) (wm Aa (BI K9 (ED false i (ov (Cd false i)) (DY (BR (Cr hx hb) hf))) Aa (wa Aa (Ak ?_)))))));exact BH (And.intro hb hf)
    ·refine wf hb (wf hb (wf hb (wv (r:=rB false) (Az Aa hb Aa) (wm Aa (wz Aa Aa (wz Aa Aa (wz Aa Aa (wv (r:=rB false) (Az (b:=false) Aa Aa Aa) (wm Aa (BI K9 (ED false i (ov (Cd false i)) (DY (BR hz hb))) Aa (wa Aa (Ak ?_))))))))))));exact BH hb
   refine Ar (Ae ?_);obtain rfl:=Ap h0;exact Aq (B2 RS (A5 Aa)) sN ⟨Aa,Aa⟩
  ·refine As (A9 (Ao (Ah (vF Bp Aa CC (vL 0 CP Aa (wv (Bj Aa Aa) (An (cz ht Aa (λh1 h2=>?_) (λh1 h5=>?_)))))))))
   ·refine ck h2 λh7 h8=>ck h8 λhA hB=>ck hB λhC hD=>ck hD λhE hG=>ck hG λhH hI=>AE [(4,Ai (bif decide (((At v i).fInt)=0) then(bif decide (((At v i).fStr)=([]:Am)) then(ov (Cd (decide (((At v i).fN)=0)) i)) else(ov (Cd false i))) else(bif decide (((At v i).fInt)=1) then(bif decide (((At v i).fStr)=([]:Am)) then(ov (Cd (decide (((At v i).fN)=0)) i)) else(ov (Cd false i))) else(ov (Cd false i)))))] [] ?_ ?_
    ·refine Al (vF Bp Aa BL (vL 0 Cc Aa (wv (Bj Aa Aa) (wm Aa (AP (decide (((At v i).fInt)=0)) (λha=>?_) (λha=>?_))))))
     ·refine wf ha (wf ha (wf ha (wv (r:=rB true) (Aw Aa ha Aa) (wm Aa (Ba (b:=true) Aa Aa Aa (vF Bp Aa CX (Ba (b:=true) Aa Aa Aa (vL 0 Dm Aa (Ba (b:=true) Aa Aa Aa (wv (EZ Aa Aa) (wv (r:=rB (decide (((At v i).fStr)=([]:Am)))) (Aw (b:=true) Aa Aa Aa) (wm Aa (AP (decide (((At v i).fStr)=([]:Am))) (λhg=>?_) (λhg=>?_))))))))))))))
      ·refine wo hg (vF Bp Aa BL (wo hg (vL 0 Cc Aa (wo hg (wv (Bj Aa Aa) (C3 Aa hg Aa (wm Aa (BI K9 (ED (decide (((At v i).fN)=0)) i (ov (Cd (decide (((At v i).fN)=0)) i)) (DY (Cr (Cr h7 ha) hg))) Aa (wa Aa (Ak ?_))))))))));exact BH (And.intro ha hg)
      ·refine wf hg (wf hg (wf hg (wv (r:=rB false) (Az Aa hg Aa) (wm Aa (BI K9 (ED false i (ov (Cd false i)) (DY (BR (Cr hA ha) hg))) Aa (wa Aa (Ak ?_)))))));exact BH (And.intro ha hg)
     ·refine wo ha (vF Bp Aa BL (wo ha (vL 0 Cc Aa (wo ha (wv (Bj Aa Aa) (Cs Aa ha Aa (wm Aa (AP (decide (((At v i).fInt)=1)) (λhe=>?_) (λhe=>?_)))))))))
      ·refine wo he (vF Bp Aa CX (wo he (vL 0 Dm Aa (wo he (wv (EZ Aa Aa) (C3 Aa he Aa (wm Aa (AP (decide (((At v i).fStr)=([]:Am))) (λhh=>?_) (λhh=>?_)))))))))
       ·refine wo hh (vF Bp Aa BL (wo hh (vL 0 Cc Aa (wo hh (wv (Bj Aa Aa) (C3 Aa hh Aa (wm Aa (BI K9 (ED (decide (((At v i).fN)=0)) i (ov (Cd (decide (((At v i).fN)=0)) i)) (DY (Cr (Cr (BR hC ha) he) hh))) Aa (wa Aa (Ak ?_))))))))));exact BH (And.intro ha (And.intro he hh))
       ·refine wf hh (wf hh (wf hh (wv (r:=rB false) (Az Aa hh Aa) (wm Aa (BI K9 (ED false i (ov (Cd false i)) (DY (BR (Cr (BR hE ha) he) hh))) Aa (wa Aa (Ak ?_)))))));exact BH (And.intro ha (And.intro he hh))
      ·refine wf he (wf he (wf he (wv (r:=rB false) (Az Aa he Aa) (wm Aa (wz Aa Aa (wz Aa Aa (wz Aa Aa (wv (r:=rB false) (Az (b:=false) Aa Aa Aa) (wm Aa (BI K9 (ED false i (ov (Cd false i)) (DY (BR (BR hH ha) he))) Aa (wa Aa (Ak ?_))))))))))));exact BH (And.intro ha he)
    refine Ar (Ae ?_);obtain rfl:=Ap hI;exact Aq (B2 RS (A5 Aa)) sN ⟨Aa,Aa⟩
   ·refine As (A9 (Ao (Ah (vF Bp Aa CC (vL 0 CP Aa (wv (Bj Aa Aa) (An (cz h5 Aa (λhJ hK=>?_) (λhJ hL=>?_)))))))))
    ·refine ck hK λhN hO=>ck hO λhP hQ=>AE [(4,Ai (bif decide (((At v i).fStr)=([]:Am)) then(ov (Cd (decide (((At v i).fN)=0)) i)) else(ov (Cd false i))))] [] ?_ ?_
     ·refine Al (vF Bp Aa CX (vL 0 Dm Aa (wv (EZ Aa Aa) (wm Aa (AP (decide (((At v i).fStr)=([]:Am))) (λhi=>?_) (λhi=>?_))))))
      ·refine wo hi (vF Bp Aa BL (wo hi (vL 0 Cc Aa (wo hi (wv (Bj Aa Aa) (C3 Aa hi Aa (wm Aa (BI K9 (ED (decide (((At v i).fN)=0)) i (ov (Cd (decide (((At v i).fN)=0)) i)) (DY (Cr hN hi))) Aa (wa Aa (Ak ?_))))))))));exact BH hi
      ·refine wf hi (wf hi (wf hi (wv (r:=rB false) (Az Aa hi Aa) (wm Aa (BI K9 (ED false i (ov (Cd false i)) (DY (BR hP hi))) Aa (wa Aa (Ak ?_)))))));exact BH hi
     refine Ar (Ae ?_);obtain rfl:=Ap hQ;exact Aq (B2 RS (A5 Aa)) sN ⟨Aa,Aa⟩
    ·refine As (A9 (Ao (Ah (vF Bp Aa CC (vL 0 CP Aa (wv (Bj Aa Aa) (An (cz hL Aa (λhR hS=>?_) (λhR hT=>?_)))))))))
     ·refine Ah (wv (AM (i:=0) LA Bx Aa Aa Aa Aa) (ob hS λhq hU hV=>BI Tryz.call127 (Xw F (At v i) hq hU) Aa (wm Aa (ob hV λhW hX hY=>BI K9 (ED hq i hW hX) Aa (wa Aa (An (Ar (Ae ?_))))))));obtain rfl:=Ap hY;exact Aq (B2 RS (A5 Aa)) (sS sN) ⟨Aa,Aa⟩
     ·refine As (A9 (Ao (AE [(0,AB 4 (A1 Ac v)),(1,Ai i),(5,rP b7 0),(96,rB ((decide (((At v i).fKind)=5))&&((decide (((At v i).fInt)=0))&&((decide (((At v i).fStr)=([]:Am)))&&(decide (0≤((At v i).fN)))))))] [.blk b7 (Ac (At v i)) 54] ?_ ?_)))
      ·refine Al (vF Bp Aa CC (vL 0 CP Aa (wv (Bj Aa Aa) (wm Aa (AP (decide (((At v i).fKind)=5)) (λc53=>?_) (λc53=>?_))))))
       ·refine wo c53 (vF Bp Aa BL (wo c53 (vL 0 Cc Aa (wo c53 (wv (Bj Aa Aa) (C3 Aa c53 Aa (wm Aa (AP (decide (((At v i).fInt)=0)) (λhk=>?_) (λhk=>?_)))))))))
        ·refine wo hk (vF Bp Aa CX (wo hk (vL 0 Dm Aa (wo hk (wv (EZ Aa Aa) (C3 Aa hk Aa (wm Aa (AP (decide (((At v i).fStr)=([]:Am))) (λhm=>?_) (λhm=>?_)))))))))
         ·refine wo hm (vF Bp Aa BL (wo hm (vL 0 Cc Aa (wo hm (wv (GT Aa Aa) (C3 Aa hm Aa (Ak ?_)))))));exact BH (And.intro c53 (And.intro hk hm))
         ·refine wf hm (wf hm (wf hm (wv (r:=rB false) (Az Aa hm Aa) (Ak ?_))));exact BH (And.intro c53 (And.intro hk hm))
        ·refine wf hk (wf hk (wf hk (wv (r:=rB false) (Az Aa hk Aa) (wm Aa (wz Aa Aa (wz Aa Aa (wz Aa Aa (wv (r:=rB false) (Az (b:=false) Aa Aa Aa) (Ak ?_)))))))));exact BH (And.intro c53 hk)
       ·refine wf c53 (wf c53 (wf c53 (wv (r:=rB false) (Az Aa c53 Aa) (wm Aa (wz Aa Aa (wz Aa Aa (wz Aa Aa (wv (r:=rB false) (Az (b:=false) Aa Aa Aa) (wm Aa (wz Aa Aa (wz Aa Aa (wz Aa Aa (wv (r:=rB false) (Az (b:=false) Aa Aa Aa) (Ak ?_))))))))))))));exact BH c53
      refine cz hT Aa (λhZ ga=>?_) (λhZ gb=>?_)
      ·refine Ah (wm Aa (wm Aa (ck ga λgc gd=>wv (Bh Aa Aa gc) (vF Bp Aa BL (vL 0 Cc Aa (ob gd λge gf gg=>BI Tryz.call128 (hr v (i+1) ((At v i).fN) ge gf) Aa (wa Aa (An (Ar (Ae ?_))))))))));obtain rfl:=Ap gg;exact Aq (B2 RS (A5 Aa)) (sS sN) ⟨Aa,Aa⟩
      ·refine As (A9 (Ao (AE [(0,AB 4 (A1 Ac v)),(1,Ai i),(5,rP b7 0),(120,rB ((decide (((At v i).fKind)=6))&&((decide (((At v i).fInt)=0))&&((decide (((At v i).fStr)=([]:Am)))&&(decide (0≤((At v i).fN)))))))] [.blk b7 (Ac (At v i)) 54] ?_ ?_)))
       ·refine Al (vF Bp Aa CC (vL 0 CP Aa (wv (Bj Aa Aa) (wm Aa (AP (decide (((At v i).fKind)=6)) (λhj=>?_) (λhj=>?_))))))
        ·refine wo hj (vF Bp Aa BL (wo hj (vL 0 Cc Aa (wo hj (wv (Bj Aa Aa) (C3 Aa hj Aa (wm Aa (AP (decide (((At v i).fInt)=0)) (λhl=>?_) (λhl=>?_)))))))))
         ·refine wo hl (vF Bp Aa CX (wo hl (vL 0 Dm Aa (wo hl (wv (EZ Aa Aa) (C3 Aa hl Aa (wm Aa (AP (decide (((At v i).fStr)=([]:Am))) (λhn=>?_) (λhn=>?_)))))))))
          ·refine wo hn (vF Bp Aa BL (wo hn (vL 0 Cc Aa (wo hn (wv (GT Aa Aa) (C3 Aa hn Aa (Ak ?_)))))));exact BH (And.intro hj (And.intro hl hn))
          ·refine wf hn (wf hn (wf hn (wv (r:=rB false) (Az Aa hn Aa) (Ak ?_))));exact BH (And.intro hj (And.intro hl hn))
         ·refine wf hl (wf hl (wf hl (wv (r:=rB false) (Az Aa hl Aa) (wm Aa (wz Aa Aa (wz Aa Aa (wz Aa Aa (wv (r:=rB false) (Az (b:=false) Aa Aa Aa) (Ak ?_)))))))));exact BH (And.intro hj hl)
        ·refine wf hj (wf hj (wf hj (wv (r:=rB false) (Az Aa hj Aa) (wm Aa (wz Aa Aa (wz Aa Aa (wz Aa Aa (wv (r:=rB false) (Az (b:=false) Aa Aa Aa) (wm Aa (wz Aa Aa (wz Aa Aa (wz Aa Aa (wv (r:=rB false) (Az (b:=false) Aa Aa Aa) (Ak ?_))))))))))))));exact BH hj
       refine cz gb Aa (λgh gi=>?_) (λgh gj=>?_)
       ·refine Ah (wm Aa (wm Aa (ck gi λgl gm=>wv (Bh Aa Aa gl) (vF Bp Aa BL (vL 0 Cc Aa (ob gm λgp gq gr=>BI Tryz.call129 (hs v (i+1) ((At v i).fN) gp gq) Aa (wa Aa (An (Ar (Ae ?_))))))))));obtain rfl:=Ap gr;exact Aq (B2 RS (A5 Aa)) (sS sN) ⟨Aa,Aa⟩
       ·refine As (A9 (Ah (wv (r:=Ai (-1)) (AC Aa) (An (Ar ?_)))));obtain rfl:=Ap gj;exact Aq (B2 RS (A5 Aa)) (sS sN) ⟨Aa,Aa⟩
theorem Rr (F:Nat)(ha:(List Ab)→Int→Option (Int))(hl:(∀(v:(List Ab)) (i:Int) (r:Int),ha v i=some r→Fn Tryz.prog GE 94 [AB 4 (A1 Ac v),Ai i] [] (λR H=>R=Ai r∧H=[])))(v:(List Ab))(i:Int)(n:Int)(r:Int)(h:Kd F ha v i n=some r):Fn Tryz.prog GE 128 [AB 4 (A1 Ac v),Ai i,Ai n] [] (λR H=>R=Ai r∧H=[]):=by
 refine enter (n:=19) Tryz.func128 Aa Tryz.ntmps128 Aa (λw Z=>?_);unfold Kd at h;refine Ah (wa Aa (An (Ao (Ah (wa Aa (An (AA (ob h λhm hn hi=>Bk (S:=Nat×(Int×Int)×(Unit)) (V:=(Int)×(Unit)) 0 (λσ=>BS (λσ=>Dr v n ha σ.1 σ.2) σ.1 σ.2.1=some hm) (λσ=>[(0,AB 4 (A1 Ac v)),(1,Ai σ.2.1.1),(2,Ai n),(6,Ai 0),(7,Ai σ.2.1.2)]) (λσ=>[]) (λσ=>σ.1) (F,(i,0),()) hn (A4.c5 Aa Aa Aa Aa Aa A4.nil) sN (λσ=>ET σ.1=some r) (λσ=>[(1,Ai σ.1),(6,Ai 0)]) (λσ=>[]) ?_ ?_))))))))
 ·rintro⟨h3,⟨hb,hg⟩,⟨⟩⟩ ho;refine BC (l':=[(0,AB 4 (A1 Ac v)),(1,Ai hb),(2,Ai n),(6,Ai 0),(7,Ai hg)]) (H':=[]) Aa Aa ?_;obtain⟨hp,rfl,hq,he,hh⟩:=Ce ho;replace he:Dr v n ha hb hg=some hq:=he;unfold Dr at he;refine Ao (Ah (wm Aa (wm Aa (wv (Cn Aa Aa) (An (cz he Aa (λc46 hr=>?_) (λc46 hs=>?_)))))))
  ·refine As (A9 (Ao (AA (Ah (wm Aa (wm Aa (ob hr λhj ht hu=>BI Nr (hl v hb hj ht) Aa (wa Aa (Bd (wm Aa (wv (Cn Aa Aa) (An (cz hu Aa (λc51 hw=>?_) (λc51 hx=>?_))))))))))))))
   ·refine Ah (wv (r:=Ai (-1)) (AC Aa) (An (Ar (Au (Ae (Ae (AU ?_)))))));have hy:=Bm hw hh hi;refine Au (Ae ?_);obtain rfl:=Ap hy;exact Aq (B2 Tryz.results128 (A5 Aa)) sN ⟨Aa,Aa⟩
   ·refine As (A7 (A9 (Al (wm Aa (ck hx λhz h0=>wv (Bh Aa Aa hz) (wa Aa (Ak ?_)))))));have h1:=AY h0 hh;exact Ax (Av (hp,(hj,hg+1),()) ⟨h1,AcR _⟩ (A4.c5 Aa Aa Aa Aa Aa A4.nil) sN)
  ·refine Bt (Ay ?_);have h2:=BD hs hh hi;exact Ay (Bb (Av (hb,()) h2 (A4.c Aa (A4.c Aa A4.nil)) sN))
 ·rintro⟨hk,⟨⟩⟩ hf;refine Ci (l':=[(1,Ai hk),(6,Ai 0)]) (H':=[]) Aa Aa ?_;replace hf:ET hk=some r:=hf;unfold ET at hf;refine Bf (A9 (Ah (wm Aa (wa Aa (An (Ar ?_))))));obtain rfl:=Ap hf;exact Aq (B2 Tryz.results128 (A5 Aa)) sN ⟨Aa,Aa⟩
theorem VG (F:Nat)(hh:(List Ab)→Int→Option (Int))(hq:(∀(v:(List Ab)) (i:Int) (r:Int),hh v i=some r→Fn Tryz.prog GE 94 [AB 4 (A1 Ac v),Ai i] [] (λR H=>R=Ai r∧H=[])))(v:(List Ab))(i:Int)(n:Int)(r:Int)(h:OA F hh v i n=some r):Fn Tryz.prog GE 129 [AB 4 (A1 Ac v),Ai i,Ai n] [] (λR H=>R=Ai r∧H=[]):=by
 refine enter (n:=51) Tryz.func129 Aa Tryz.ntmps129 Aa (λw Z=>?_);unfold OA at h;refine Ah (wa Aa (Bd (wv (r:=rS ([]:Am)) (AC Aa) (An (Ao (Ah (wa Aa (An (AA (ob h λhr hs hm=>Bk (S:=Nat×(Int×Am×Int)×(Unit)) (V:=(Int)×(Unit)) 0 (λσ=>BS (λσ=>DX F v n hh σ.1 σ.2.1 σ.2.2) σ.1 σ.2.1=some hr) (λσ=>[(0,AB 4 (A1 Ac v)),(1,Ai σ.2.1.1),(2,Ai n),(7,rS σ.2.1.2.1),(8,Ai σ.2.1.2.2)]) (λσ=>[]) (λσ=>σ.1) (F,(i,([]:Am),0),()) hs (A4.c5 Aa Aa Aa Aa Aa A4.nil) sN (λσ=>Id σ.1=some r) (λσ=>[(1,Ai σ.1)]) (λσ=>[]) ?_ ?_))))))))))
 ·rintro⟨hN,⟨hf,hi,hg⟩,⟨⟩⟩ ht;refine BC (l':=[(0,AB 4 (A1 Ac v)),(1,Ai hf),(2,Ai n),(7,rS hi),(8,Ai hg)]) (H':=[]) Aa Aa ?_;obtain⟨hu,rfl,hw,hj,hk⟩:=Ce ht;replace hj:DX F v n hh hf hi hg=some hw:=hj;unfold DX at hj;refine Ao (Ah (wm Aa (wm Aa (wv (Cn Aa Aa) (An (cz hj Aa (λhx hy=>?_) (λhx hz=>?_)))))))
  ·refine As (A9 (Ao (AA (Ao (ck hy λhn h0=>ck h0 λh1 h2=>AE [(0,AB 4 (A1 Ac v)),(1,Ai hf),(2,Ai n),(8,Ai hg),(38,rB ((decide ((v.length:Int)≤hf))||((!(ov (Qn F (At v hf))))||((decide (0<hg))&&(DI ((At v hf).fStr) hi||decide (((At v hf).fStr)=hi))))))] [] ?_ ?_)))))
   ·refine Al (wm Aa (wm Aa (wv (AW (ys:=v) (enc:=Ac) Br Aa) (wv (GT Aa Aa) (wm Aa (AP (decide ((v.length:Int)≤hf)) (λha=>?_) (λha=>?_)))))))
    ·refine wf ha (wf ha (wf ha (wf ha (wf ha (wf ha (wv (r:=rB true) (Aw Aa ha Aa) (wm Aa (wz Aa Aa (wz Aa Aa (wz Aa Aa (wu (wu (wu (wu (wu (wu (wu (wz Aa Aa (wv (r:=rB true) (Aw (b:=true) Aa Aa Aa) (Ak ?_))))))))))))))))))));exact BH ha
    ·refine wo ha (wm Aa (wo ha (wm Aa (wo ha (wv (AX (enc:=Ac) (ys:=v) Br Bx Aa Aa (BR hn ha)) (wo ha (wv (DM LA Bx Aa Aa Aa) (wo ha (BI Tryz.call127 (Xw F (At v hf) (ov (Qn F (At v hf))) (DY (BR h1 ha))) Aa (wo ha (wv (B7 Aa) (Cs Aa ha Aa (wm Aa (AP (!(ov (Qn F (At v hf)))) (λhe=>?_) (λhe=>?_)))))))))))))))
     ·refine wf he (wf he (wf he (wu (wu (wu (wu (wu (wu (wu (wf he (wv (r:=rB true) (Aw Aa he Aa) (Ak ?_))))))))))));exact BH (And.intro ha he)
     ·refine wo he (wm Aa (wo he (wv (CD Aa Aa) (wo he (wm Aa (AP (decide (0<hg)) (λhb=>?_) (λhb=>?_)))))))
      ·refine wo hb (wm Aa (wo hb (wm Aa (wo hb (wv (AX (enc:=Ac) (ys:=v) Br Bx Aa Aa (BR hn ha)) (wo hb (wv (AQ Bp Aa CX Aa Aa) (wo hb (wv (AK Dm Aa Aa) (wo hb (wm Aa (wo hb (wv (UQ Aa Aa) (wo he (C3 Aa hb Aa (Cs Aa he Aa (Ak ?_)))))))))))))))));exact BH (And.intro ha (And.intro he hb))
      ·refine wf hb (wf hb (wf hb (wf hb (wf hb (wf hb (wf hb (wo he (wv (r:=rB false) (Az Aa hb Aa) (Cs Aa he Aa (Ak ?_))))))))));exact BH (And.intro ha (And.intro he hb))
   refine cz h2 Aa (λh3 h4=>?_) (λh3 h5=>?_)
   ·refine Ah (wv (r:=Ai (-1)) (AC Aa) (An (Ar (Ae (Au (Ae (Ae (AU ?_))))))));have h6:=Bm h4 hk hm;refine Au (Ae ?_);obtain rfl:=Ap h6;exact Aq (B2 Tryz.results129 (A5 Aa)) sN ⟨Aa,Aa⟩
   ·refine As (A9 (Ah (wm Aa (wm Aa (ck h5 λh7 h8=>wv (AX (enc:=Ac) (ys:=v) Br Bx Aa Aa h7) (wv (AQ Bp Aa CX Aa Aa) (wv (AK Dm Aa Aa) (wa Aa (Bd (wm Aa (wm Aa (ck h8 λh9 hA=>wv (Bh Aa Aa h9) (ob hA λho hB hC=>BI Nr (hq v (hf+1) ho hB) Aa (wa Aa (Bd (wm Aa (wv (Cn Aa Aa) (An (cz hC Aa (λhD hE=>?_) (λhD hG=>?_))))))))))))))))))))
    ·refine Ah (wv (r:=Ai (-1)) (AC Aa) (An (Ar (Au (Ae (Ae (AU ?_)))))));have hH:=Bm hE hk hm;refine Au (Ae ?_);obtain rfl:=Ap hH;exact Aq (B2 Tryz.results129 (A5 Aa)) sN ⟨Aa,Aa⟩
    ·refine As (A7 (A9 (Al (wm Aa (ck hG λhI hJ=>wv (Bh Aa Aa hI) (wa Aa (Ak ?_)))))));have hK:=AY hJ hk;exact Ax (Av (hu,(ho,(At v hf).fStr,hg+1),()) ⟨hK,AcR _⟩ (A4.c5 Aa Aa Aa Aa Aa A4.nil) sN)
  ·refine Bt (Ay ?_);have hL:=BD hz hk hm;exact Ay (Bb (Av (hf,()) hL (A4.c Aa A4.nil) sN))
 ·rintro⟨hp,⟨⟩⟩ hl;refine Ci (l':=[(1,Ai hp)]) (H':=[]) Aa Aa ?_;replace hl:Id hp=some r:=hl;unfold Id at hl;refine Bf (A9 (Ah (wm Aa (wa Aa (An (Ar ?_))))));obtain rfl:=Ap hl;exact Aq (B2 Tryz.results129 (A5 Aa)) sN ⟨Aa,Aa⟩
theorem J3:∀F:Nat,(∀(v:(List Ab)) (i:Int) (r:Int),DR F v i=some r→Fn Tryz.prog GE 94 [AB 4 (A1 Ac v),Ai i] [] (λR H=>R=Ai r∧H=[]))∧(∀(v:(List Ab)) (i:Int) (n:Int) (r:Int),Ie F v i n=some r→Fn Tryz.prog GE 128 [AB 4 (A1 Ac v),Ai i,Ai n] [] (λR H=>R=Ai r∧H=[]))∧(∀(v:(List Ab)) (i:Int) (n:Int) (r:Int),Nz F v i n=some r→Fn Tryz.prog GE 129 [AB 4 (A1 Ac v),Ai i,Ai n] [] (λR H=>R=Ai r∧H=[]))
  | 0=>⟨(λ_ _ _ h=>by simp[DR] at h),(λ_ _ _ _ h=>by simp[Ie] at h),(λ_ _ _ _ h=>by simp[Nz] at h)⟩
  | nn+1=>⟨(λv i r h=>Xv nn (Ie nn) (Nz nn) (J3 nn).2.1 (J3 nn).2.2 v i r (by rw[DR] at h;exact h)),(λv i n r h=>Rr nn (DR nn) (J3 nn).1 v i n r (by rw[Ie] at h;exact h)),(λv i n r h=>VG nn (DR nn) (J3 nn).1 v i n r (by rw[Nz] at h;exact h))⟩
theorem GR (F:Nat)(v:(List Ab))(i:Int)(r:Int)(h:DR F v i=some r):Fn Tryz.prog GE 94 [AB 4 (A1 Ac v),Ai i] [] (λR H=>R=Ai r∧H=[]):=(J3 F).1 v i r h
theorem VK (F:Nat)(v:(List Ab))(r:Bool)(h:M6 F v=some r):Fn Tryz.prog GE 74 [AB 4 (A1 Ac v)] [] (λR H=>R=rB r∧H=[]):=by
 refine enter (n:=13) Tryz.func74 Aa Tryz.ntmps74 Aa (λw Z=>?_);unfold M6 at h;refine Ah (wa Aa (An (ck h λg1 h2=>AE [(2,rB ((decide (0<(v.length:Int)))&&(decide ((ov (DR F v 0))=(v.length:Int)))))] [] ?_ ?_)))
 ·refine Al (wm Aa (wv (AW (ys:=v) (enc:=Ac) Br Aa) (wv (CD Aa Aa) (wm Aa (AP (decide (0<(v.length:Int))) (λc3=>?_) (λc3=>?_))))))
  ·refine wo c3 (wm Aa (wo c3 (BI Nr (GR F v 0 (ov (DR F v 0)) (DY (Cr g1 c3))) Aa (wo c3 (wm Aa (wo c3 (wv (AW (ys:=v) (enc:=Ac) Br Aa) (wo c3 (wv (Bj Aa Aa) (C3 Aa c3 Aa (wa Aa (Ak ?_))))))))))));exact BH c3
  ·refine wf c3 (wf c3 (wf c3 (wf c3 (wf c3 (wv (r:=rB false) (Az Aa c3 Aa) (wa Aa (Ak ?_)))))));exact BH c3
 refine Ar ?_;obtain rfl:=Ap h2;exact Aq (B2 Tryz.results74 (A5 Aa)) sN ⟨Aa,Aa⟩
theorem TK (F:Nat)(hg:(List Ab)→Int→Option (Int))(hk:(∀(v:(List Ab)) (i:Int) (r:Int),hg v i=some r→Fn Tryz.prog GE 75 [AB 4 (A1 Ac v),Ai i] [] (λR H=>R=Ai r∧H=[])))(v:(List Ab))(i:Int)(r:Int)(h:J4 F hg v i=some r):Fn Tryz.prog GE 75 [AB 4 (A1 Ac v),Ai i] [] (λR H=>R=Ai r∧H=[]):=by
 refine enter (n:=47) Tryz.func75 Aa Tryz.ntmps75 Aa (λw Z=>?_);unfold J4 at h;refine Ah (wa Aa (Bd (wm Aa (wm Aa (ck h λg1 h2=>wv (AX (enc:=Ac) (ys:=v) Br Bx Aa Aa g1) (wv (DM LA Bx Aa Aa Aa) (Cg (cs:=[Ai 0,Ai 0,rS ([]:Am),Ai 0]) DU Aa Aa (λb3=>?_))))))));refine Bg (i:=0) Bx Aa Aa Aa (B3.c Aa) Aa Aa (cs':=[Ai ((At v i).fKind),Ai ((At v i).fInt),rS ((At v i).fStr),Ai ((At v i).fN)]) Aa (H':=[.blk b3 (Ac (At v i)) 54]) Aa (An (Ao (AE [(0,AB 4 (A1 Ac v)),(1,Ai i),(5,rP b3 0),(21,rB ((!decide (((At v i).fKind)=5))&&(!decide (((At v i).fKind)=6))))] [.blk b3 (Ac (At v i)) 54] ?_ ?_)))
 ·refine Al (vF Bp Aa CC (vL 0 CP Aa (wv (Bs Aa Aa) (wm Aa (AP (!decide (((At v i).fKind)=5)) (λc4=>?_) (λc4=>?_))))))
  ·refine wo c4 (vF Bp Aa CC (wo c4 (vL 0 CP Aa (wo c4 (wv (Bs Aa Aa) (C3 Aa c4 Aa (Ak ?_)))))));exact BH c4
  ·refine wf c4 (wf c4 (wf c4 (wv (r:=rB false) (Az Aa c4 Aa) (Ak ?_))));exact BH c4
 refine cz h2 Aa (λc5 h6=>?_) (λc5 h7=>?_)
 ·refine Ah (wa Aa (An (Ar (Ae ?_))));obtain rfl:=Ap h6;exact Aq (B2 Tryz.results75 (A5 Aa)) (sS sN) ⟨Aa,Aa⟩
 ·refine As (A9 (Ah (wa Aa (Bd (wm Aa (ck h7 λg8 h9=>wv (Bh Aa Aa g8) (wa Aa (An (Ao (Ah (wa Aa (An (AA (ob h9 λhs ht hu=>Bk (S:=Nat×(Int×Int×Int)×(Unit)) (V:=(Int)×(Unit)) 0 (λσ=>BS (λσ=>Dk F v i hg σ.1 σ.2.1 σ.2.2) σ.1 σ.2.1=some hs) (λσ=>[(0,AB 4 (A1 Ac v)),(5,rP b3 0),(6,Ai σ.2.1.1),(7,Ai σ.2.1.2.1),(8,Ai σ.2.1.2.2)]) (λσ=>[.blk b3 (Ac (At v i)) 54]) (λσ=>σ.1) (F,(0,i+1,0),()) ht (A4.c5 Aa Aa Aa Aa Aa A4.nil) (sC sN) (λσ=>EC σ.1=some r) (λσ=>[(6,Ai σ.1)]) (λσ=>[]) ?_ ?_))))))))))))))
  ·rintro⟨gj,⟨he,ha,hb⟩,⟨⟩⟩ hw;refine BC (l':=[(0,AB 4 (A1 Ac v)),(5,rP b3 0),(6,Ai he),(7,Ai ha),(8,Ai hb)]) (H':=[.blk b3 (Ac (At v i)) 54]) Aa Aa ?_;obtain⟨hh,rfl,hx,hi,hf⟩:=Ce hw;replace hi:Dk F v i hg he ha hb=some hx:=hi;unfold Dk at hi;refine Ao (Ah (wm Aa (vF Bp Aa BL (vL 0 Cc Aa (wv (Cn Aa Aa) (An (cz hi Aa (λhy hz=>?_) (λhy h0=>?_))))))))
   ·refine As (A9 (Ao (AA (Ao (Ah (vF Bp Aa CC (vL 0 CP Aa (wv (Bj Aa Aa) (An (cz hz Aa (λh1 h3=>?_) (λh1 h4=>?_)))))))))))
    ·refine Al (wm Aa (ck h3 λh5 h8=>wv (Bh Aa Aa h5) (wa Aa (Bd (wm Aa (wm Aa (ob h8 λhl hA hB=>BI Tryz.call75 (hk v (ha+1) hl hA) Aa (wa Aa (An (Ao (Ah (wm Aa (wm Aa (wv (CD Aa Aa) (An (cz hB Aa (λhC hD=>?_) (λhC hE=>?_)))))))))))))))))
     ·refine Al (wm Aa (wa Aa (An (Al (wm Aa (wm Aa (ob hD λhm hG hH=>BI Nr (GR F v (ha+1) hm hG) Aa (wa Aa (Ak (A7 (A9 (Al (wm Aa (ck hH λhI hJ=>wv (Bh Aa Aa hI) (wa Aa (Ak ?_))))))))))))))));have hK:=AY hJ hf;exact Ax (Av (hh,(hl,hm,hb+1),()) ⟨hK,AcR _⟩ (A4.c5 Aa Aa Aa Aa Aa A4.nil) (sC sN))
     ·refine As (A9 (Al (wm Aa (wm Aa (ob hE λhn hL hN=>BI Nr (GR F v (ha+1) hn hL) Aa (wa Aa (Ak (A7 (A9 (Al (wm Aa (ck hN λhO hP=>wv (Bh Aa Aa hO) (wa Aa (Ak ?_))))))))))))));have hQ:=AY hP hf;exact Ax (Av (hh,(he,hn,hb+1),()) ⟨hQ,AcR _⟩ (A4.c5 Aa Aa Aa Aa Aa A4.nil) (sC sN))
    ·refine As (A9 (Ah (wm Aa (wm Aa (ob h4 λho hR hS=>BI Tryz.call75 (hk v ha ho hR) Aa (wa Aa (An (Ao (Ah (wm Aa (wm Aa (wv (CD Aa Aa) (An (cz hS Aa (λhT hU=>?_) (λhT hV=>?_)))))))))))))))
     ·refine Al (wm Aa (wa Aa (An (Al (wm Aa (wm Aa (ob hU λhp hW hX=>BI Nr (GR F v ha hp hW) Aa (wa Aa (Ak (A7 (A9 (Al (wm Aa (ck hX λhY hZ=>wv (Bh Aa Aa hY) (wa Aa (Ak ?_))))))))))))))));have ga:=AY hZ hf;exact Ax (Av (hh,(ho,hp,hb+1),()) ⟨ga,AcR _⟩ (A4.c5 Aa Aa Aa Aa Aa A4.nil) (sC sN))
     ·refine As (A9 (Al (wm Aa (wm Aa (ob hV λhq gb gc=>BI Nr (GR F v ha hq gb) Aa (wa Aa (Ak (A7 (A9 (Al (wm Aa (ck gc λgd ge=>wv (Bh Aa Aa gd) (wa Aa (Ak ?_))))))))))))));have gf:=AY ge hf;exact Ax (Av (hh,(he,hq,hb+1),()) ⟨gf,AcR _⟩ (A4.c5 Aa Aa Aa Aa Aa A4.nil) (sC sN))
   ·refine Bt (Ay ?_);have gg:=BD h0 hf hu;exact Ay (Bb (Av (he,()) gg (A4.c Aa A4.nil) (sS sN)))
  ·rintro⟨hr,⟨⟩⟩ hj;refine Ci (l':=[(6,Ai hr)]) (H':=[]) Aa Aa ?_;replace hj:EC hr=some r:=hj;unfold EC at hj;refine Bf (A9 (Ah (wm Aa (ck hj λgh gi=>wv (Bh Aa Aa gh) (wa Aa (An (Ar ?_)))))));obtain rfl:=Ap gi;exact Aq (B2 Tryz.results75 (A5 Aa)) sN ⟨Aa,Aa⟩
theorem Of:∀F:Nat,(∀(v:(List Ab)) (i:Int) (r:Int),DC F v i=some r→Fn Tryz.prog GE 75 [AB 4 (A1 Ac v),Ai i] [] (λR H=>R=Ai r∧H=[]))
  | 0=>(λ_ _ _ h=>by simp[DC] at h)
  | nn+1=>(λv i r h=>TK nn (DC nn) (Of nn) v i r (by rw[DC] at h;exact h))
theorem VI (F:Nat)(v:(List Ab))(i:Int)(r:Int)(h:DC F v i=some r):Fn Tryz.prog GE 75 [AB 4 (A1 Ac v),Ai i] [] (λR H=>R=Ai r∧H=[]):=(Of F) v i r h
theorem Ny (F:Nat)(s:Am)(r:Am)(h:Kc F s=some r):Fn Tryz.prog GE 106 [rS s] [] (λR H=>R=rS r∧H=[]):=by
 refine enter (n:=32) Tryz.func106 Aa Tryz.ntmps106 Aa (λw Z=>?_);unfold Kc at h;refine Ah (wv (r:=rS ([]:Am)) (AC Aa) (Bd (wv (r:=rS ([34]:Am)) (AC Aa) (An (Ao (Ah (wa Aa (An (AA (ob h λhn ho hp=>Bk (S:=Nat×(Am×Int)×(Unit)) (V:=(Am)×(Unit)) 0 (λσ=>BS (λσ=>D6 s σ.1 σ.2) σ.1 σ.2.1=some hn) (λσ=>[(0,rS s),(3,rS σ.2.1.1),(4,Ai σ.2.1.2)]) (λσ=>[]) (λσ=>σ.1) (F,(([34]:Am),0),()) ho (A4.c Aa (A4.c Aa (A4.c Aa A4.nil))) sN (λσ=>Et σ.1=some r) (λσ=>[(3,rS σ.1)]) (λσ=>[]) ?_ ?_))))))))))
 ·rintro⟨hN,⟨he,ha⟩,⟨⟩⟩ hq;refine BC (l':=[(0,rS s),(3,rS he),(4,Ai ha)]) (H':=[]) Aa Aa ?_;obtain⟨hi,rfl,hr,hf,hh⟩:=Ce hq;replace hf:D6 s he ha=some hr:=hf;unfold D6 at hf;refine Ao (Ah (wm Aa (wm Aa (wv (BJ Di Aa) (wv (Cn Aa Aa) (An (cz hf Aa (λhs ht=>?_) (λhs hu=>?_))))))))
  ·refine As (A9 (Ao (AA (Ao (ck ht λhj hw=>AE [(0,rS s),(3,rS he),(4,Ai ha),(20,rB ((decide ((BA s ha)=34))||(decide ((BA s ha)=92))))] [] ?_ ?_)))))
   ·refine Al (wm Aa (wm Aa (wv (Bo Di Aa Aa hj) (wv (Bj Aa Aa) (wm Aa (AP (decide ((BA s ha)=34)) (λhb=>?_) (λhb=>?_)))))))
    ·refine wf hb (wf hb (wf hb (wf hb (wv (r:=rB true) (Aw Aa hb Aa) (Ak ?_)))));exact BH hb
    ·refine wo hb (wm Aa (wo hb (wm Aa (wo hb (wv (Bo Di Aa Aa hj) (wo hb (wv (Bj Aa Aa) (Cs Aa hb Aa (Ak ?_)))))))));exact BH hb
   refine cz hw Aa (λhx hy=>?_) (λhx hz=>?_)
   ·refine Al (wm Aa (ck hy λh0 h1=>wv (Eb Aa Aa h0) (wa Aa (An (Al (wm Aa (wm Aa (wm Aa (wm Aa (ck h1 λhk h2=>wv (Bh Aa Aa hk) (ck h2 λh3 h4=>ck h4 λh5 h6=>wv (Gx Di Aa Aa Aa h3 h5) (ck h6 λh7 h8=>wv (Eb Aa Aa h7) (wa Aa (Ak (A7 (A9 (Al (wm Aa ?_))))))))))))))))));refine wv (Bh Aa Aa hk) (wa Aa (Ak ?_));have h9:=AY h8 hh;exact Ax (Av (hi,((he++([92]:Am))++(List.take (B8 (ha+1)-B8 ha) (List.drop (B8 ha) s)),ha+1),()) ⟨h9,AcR _⟩ (A4.c Aa (A4.c Aa (A4.c Aa A4.nil))) sN)
   ·refine As (A9 (Al (wm Aa (wm Aa (wm Aa (wm Aa (ck hz λhl hA=>wv (Bh Aa Aa hl) (ck hA λhB hC=>ck hC λhD hE=>wv (Gx Di Aa Aa Aa hB hD) (ck hE λhG hH=>wv (Eb Aa Aa hG) (wa Aa (Ak (A7 (A9 (Al (wm Aa (wv (Bh Aa Aa hl) (wa Aa (Ak ?_))))))))))))))))));have hI:=AY hH hh;exact Ax (Av (hi,(he++(List.take (B8 (ha+1)-B8 ha) (List.drop (B8 ha) s)),ha+1),()) ⟨hI,AcR _⟩ (A4.c Aa (A4.c Aa (A4.c Aa A4.nil))) sN)
  ·refine Bt (Ay ?_);have hJ:=BD hu hh hp;exact Ay (Bb (Av (he,()) hJ (A4.c Aa A4.nil) sN))
 ·rintro⟨hm,⟨⟩⟩ hg;refine Ci (l':=[(3,rS hm)]) (H':=[]) Aa Aa ?_;replace hg:Et hm=some r:=hg;unfold Et at hg;refine Bf (A9 (Ah (wm Aa (ck hg λhK hL=>wv (Eb Aa Aa hK) (wa Aa (An (Ar ?_)))))));obtain rfl:=Ap hL;exact Aq (B2 Tryz.results106 (A5 Aa)) sN ⟨Aa,Aa⟩
theorem Xp (F:Nat)(hg:(List Ab)→Int→Option (Am))(hh:(∀(v:(List Ab)) (i:Int) (r:Am),hg v i=some r→Fn Tryz.prog GE 76 [AB 4 (A1 Ac v),Ai i] [] (λR H=>R=rS r∧H=[])))(v:(List Ab))(i:Int)(r:Am)(h:Nw F hg v i=some r):Fn Tryz.prog GE 76 [AB 4 (A1 Ac v),Ai i] [] (λR H=>R=rS r∧H=[]):=by
 refine enter (n:=77) Tryz.func76 Aa Tryz.ntmps76 Aa (λw Z=>?_);unfold Nw at h;refine Ah (wv (r:=rS ([]:Am)) (AC Aa) (Bd (wm Aa (wm Aa (ck h λg1 h2=>wv (AX (enc:=Ac) (ys:=v) Br Bx Aa Aa g1) (wv (DM LA Bx Aa Aa Aa) (Cg (cs:=[Ai 0,Ai 0,rS ([]:Am),Ai 0]) DU Aa Aa (λb3=>?_))))))));refine Bg (i:=0) Bx Aa Aa Aa (B3.c Aa) Aa Aa (cs':=[Ai ((At v i).fKind),Ai ((At v i).fInt),rS ((At v i).fStr),Ai ((At v i).fN)]) Aa (H':=[.blk b3 (Ac (At v i)) 54]) Aa (An (Ao (Ah (vF Bp Aa CC (vL 0 CP Aa (wv (Bj Aa Aa) (An (cz h2 Aa (λc4 h5=>?_) (λc4 h6=>?_)))))))))
 ·refine Ah (wv (r:=rS ([110,117,108,108]:Am)) (AC Aa) (An (Ar (Ae ?_))));obtain rfl:=Ap h5;exact Aq (B2 Ty (A5 Aa)) (sS sN) ⟨Aa,Aa⟩
 ·refine As (A9 (Ao (Ah (vF Bp Aa CC (vL 0 CP Aa (wv (Bj Aa Aa) (An (cz h6 Aa (λc7 h8=>?_) (λc7 hx=>?_)))))))))
  ·refine Ao (Ah (vF Bp Aa BL (vL 0 Cc Aa (wv (Bj Aa Aa) (An (cz h8 Aa (λc9 hy=>?_) (λc9 hz=>?_)))))))
   ·refine Ah (wv (r:=rS ([116,114,117,101]:Am)) (AC Aa) (An (Ar (Ae (Ae ?_)))));obtain rfl:=Ap hy;exact Aq (B2 Ty (A5 Aa)) (sS sN) ⟨Aa,Aa⟩
   ·refine As (A9 (Ah (wv (r:=rS ([102,97,108,115,101]:Am)) (AC Aa) (An (Ar (Ae ?_))))));obtain rfl:=Ap hz;exact Aq (B2 Ty (A5 Aa)) (sS sN) ⟨Aa,Aa⟩
  ·refine As (A9 (Ao (Ah (vF Bp Aa CC (vL 0 CP Aa (wv (Bj Aa Aa) (An (cz hx Aa (λh0 h1=>?_) (λh0 h3=>?_)))))))))
   ·refine Ah (vF Bp Aa BL (vL 0 Cc Aa (ck h1 λg15 h4=>Mk (rs:=[Ai ((At v i).fInt)]) (r:=rS (Lib.itoa ((At v i).fInt))) Tryz.call105 Aa (AaO ((At v i).fInt) g15) Aa Aa (wa Aa (An (Ar (Ae ?_)))))));obtain rfl:=Ap h4;exact Aq (B2 Ty (A5 Aa)) (sS sN) ⟨Aa,Aa⟩
   ·refine As (A9 (Ao (Ah (vF Bp Aa CC (vL 0 CP Aa (wv (Bj Aa Aa) (An (cz h3 Aa (λh7 h9=>?_) (λh7 hA=>?_)))))))))
    ·refine Ah (vF Bp Aa CX (vL 0 Dm Aa (ob h9 λhB hC hD=>BI Tryz.call106 (Ny F ((At v i).fStr) hB hC) Aa (wa Aa (An (Ar (Ae ?_)))))));obtain rfl:=Ap hD;exact Aq (B2 Ty (A5 Aa)) (sS sN) ⟨Aa,Aa⟩
    ·refine As (A9 (Ah (wv (r:=rS ([]:Am)) (AC Aa) (Bd (wm Aa (ck hA λhE hG=>wv (Bh Aa Aa hE) (wa Aa (An (Ao (Ah (wa Aa (An (AA (ob hG λhH hI hJ=>Bk (S:=Nat×(Am×Int×Int)×(Unit)) (V:=(Am)×(Unit)) 0 (λσ=>BS (λσ=>EB F v i hg σ.1 σ.2.1 σ.2.2) σ.1 σ.2.1=some hH) (λσ=>[(0,AB 4 (A1 Ac v)),(4,rS ([]:Am)),(5,rP b3 0),(6,rS σ.2.1.1),(7,Ai σ.2.1.2.1),(8,Ai σ.2.1.2.2)]) (λσ=>[.blk b3 (Ac (At v i)) 54]) (λσ=>σ.1) (F,(([]:Am),i+1,0),()) hI (A4.c Aa (A4.c5 Aa Aa Aa Aa Aa A4.nil)) (sC sN) (λσ=>Iw v i σ.1=some r) (λσ=>[(4,rS ([]:Am)),(5,rP b3 0),(6,rS σ.1)]) (λσ=>[.blk b3 (Ac (At v i)) 54]) ?_ ?_))))))))))))))
     ·rintro⟨cl,⟨hb,ha,he⟩,⟨⟩⟩ hK;refine BC (l':=[(0,AB 4 (A1 Ac v)),(4,rS ([]:Am)),(5,rP b3 0),(6,rS hb),(7,Ai ha),(8,Ai he)]) (H':=[.blk b3 (Ac (At v i)) 54]) Aa Aa ?_;obtain⟨hi,rfl,hL,hj,hf⟩:=Ce hK;replace hj:EB F v i hg hb ha he=some hL:=hj;unfold EB at hj;refine Ao (Ah (wm Aa (vF Bp Aa BL (vL 0 Cc Aa (wv (Cn Aa Aa) (An (cz hj Aa (λhN hO=>?_) (λhN hP=>?_))))))))
      ·refine As (A9 (Ao (AA (Ao (Ah (wm Aa (wv (CD Aa Aa) (An (cz hO Aa (λhQ hR=>?_) (λhQ hS=>?_))))))))))
       ·refine Al (wm Aa (ck hR λhT hU=>wv (Eb Aa Aa hT) (wa Aa (An (Ao (Ah (vF Bp Aa CC (vL 0 CP Aa (wv (Bj Aa Aa) (An (cz hU Aa (λc233 hV=>?_) (λc233 hW=>?_))))))))))))
        ·refine Ah (wm Aa (wm Aa (wm Aa (ck hV λhX hY=>wv (AX (enc:=Ac) (ys:=v) Br Bx Aa Aa hX) (wv (AQ Bp Aa CX Aa Aa) (wv (AK Dm Aa Aa) (ob hY λhl hZ ga=>BI Tryz.call106 (Ny F ((At v ha).fStr) hl hZ) Aa (ck ga λgb gc=>wv (Eb Aa Aa gb) (ck gc λgd ge=>wv (Eb Aa Aa gd) (wa Aa (An (Al (wm Aa (ck ge λgf gg=>wv (Bh Aa Aa gf) (wa Aa (Bd (wm Aa (wm Aa ?_))))))))))))))))));refine wm Aa (ob gg λhm gh gi=>BI Vx (hh v (ha+1) hm gh) Aa (ck gi λgj gl=>wv (Eb Aa Aa gj) (wa Aa (An (Al (wm Aa (wm Aa (ob gl λhn gm gp=>BI Nr (GR F v (ha+1) hn gm) Aa (wa Aa (Ak (A7 (A9 (Al (wm Aa (ck gp λgq gr=>wv (Bh Aa Aa gq) (wa Aa (Ak ?_)))))))))))))))));have gs:=AY gr hf;exact Ax (Av (hi,((((hb++([44]:Am))++hl)++([58]:Am))++hm,hn,he+1),()) ⟨gs,AcR _⟩ (A4.c Aa (A4.c5 Aa Aa Aa Aa Aa A4.nil)) (sC sN))
        ·refine As (A9 (Ah (wm Aa (wm Aa (wm Aa (ob hW λho gt gu=>BI Vx (hh v ha ho gt) Aa (ck gu λgv gw=>wv (Eb Aa Aa gv) (wa Aa (An (Al (wm Aa (wm Aa (ob gw λhp gx gy=>BI Nr (GR F v ha hp gx) Aa (wa Aa (Ak (A7 (A9 (Al (wm Aa (ck gy λgz g0=>?_))))))))))))))))))));refine wv (Bh Aa Aa gz) (wa Aa (Ak ?_));have g2:=AY g0 hf;exact Ax (Av (hi,((hb++([44]:Am))++ho,hp,he+1),()) ⟨g2,AcR _⟩ (A4.c Aa (A4.c5 Aa Aa Aa Aa Aa A4.nil)) (sC sN))
       ·refine As (A9 (Ao (Ah (vF Bp Aa CC (vL 0 CP Aa (wv (Bj Aa Aa) (An (cz hS Aa (λg3 g4=>?_) (λg3 g5=>?_)))))))))
        ·refine Ah (wm Aa (wm Aa (wm Aa (ck g4 λg6 g7=>wv (AX (enc:=Ac) (ys:=v) Br Bx Aa Aa g6) (wv (AQ Bp Aa CX Aa Aa) (wv (AK Dm Aa Aa) (ob g7 λhq g8 g9=>BI Tryz.call106 (Ny F ((At v ha).fStr) hq g8) Aa (ck g9 λgA gB=>wv (Eb Aa Aa gA) (ck gB λgC gD=>wv (Eb Aa Aa gC) (wa Aa (An (Al (wm Aa (ck gD λgE gF=>wv (Bh Aa Aa gE) (wa Aa (Bd (wm Aa (wm Aa ?_))))))))))))))))));refine wm Aa (ob gF λhr gG gH=>BI Vx (hh v (ha+1) hr gG) Aa (ck gH λgI gJ=>wv (Eb Aa Aa gI) (wa Aa (An (Al (wm Aa (wm Aa (ob gJ λhs gK gL=>BI Nr (GR F v (ha+1) hs gK) Aa (wa Aa (Ak (A7 (A9 (Al (wm Aa (ck gL λgM gN=>wv (Bh Aa Aa gM) (wa Aa (Ak ?_)))))))))))))))));have gO:=AY gN hf;exact Ax (Av (hi,(((hb++hq)++([58]:Am))++hr,hs,he+1),()) ⟨gO,AcR _⟩ (A4.c Aa (A4.c5 Aa Aa Aa Aa Aa A4.nil)) (sC sN))
        ·refine As (A9 (Ah (wm Aa (wm Aa (wm Aa (ob g5 λht gP gQ=>BI Vx (hh v ha ht gP) Aa (ck gQ λgR gS=>wv (Eb Aa Aa gR) (wa Aa (An (Al (wm Aa (wm Aa (ob gS λhu gT gU=>BI Nr (GR F v ha hu gT) Aa (wa Aa (Ak (A7 (A9 (Al (wm Aa (ck gU λgV gW=>?_))))))))))))))))))));refine wv (Bh Aa Aa gV) (wa Aa (Ak ?_));have gX:=AY gW hf;exact Ax (Av (hi,(hb++ht,hu,he+1),()) ⟨gX,AcR _⟩ (A4.c Aa (A4.c5 Aa Aa Aa Aa Aa A4.nil)) (sC sN))
      ·refine Bt (Ay ?_);have gY:=BD hP hf hJ;exact Ay (Bb (Av (hb,()) gY (A4.c Aa (A4.c Aa (A4.c Aa A4.nil))) (sC sN)))
     ·rintro⟨hw,⟨⟩⟩ hk;refine Ci (l':=[(4,rS ([]:Am)),(5,rP b3 0),(6,rS hw)]) (H':=[.blk b3 (Ac (At v i)) 54]) Aa Aa ?_;replace hk:Iw v i hw=some r:=hk;unfold Iw at hk;refine Bf (A9 (Ao (Ah (vF Bp Aa CC (vL 0 CP Aa (wv (Bj Aa Aa) (An (cz hk Aa (λgZ ca=>?_) (λgZ cb=>?_)))))))))
      ·refine Ah (wm Aa (ck ca λcc cd=>wv (Eb Aa Aa cc) (ck cd λce cf=>wv (Eb Aa Aa ce) (wa Aa (An (Ar (Ae ?_)))))));obtain rfl:=Ap cf;exact Aq (B2 Ty (A5 Aa)) (sS sN) ⟨Aa,Aa⟩
      ·refine As (A9 (Ah (wm Aa (ck cb λcg ch=>wv (Eb Aa Aa cg) (ck ch λci cj=>wv (Eb Aa Aa ci) (wa Aa (An (Ar ?_))))))));obtain rfl:=Ap cj;exact Aq (B2 Ty (A5 Aa)) (sS sN) ⟨Aa,Aa⟩
theorem Q7:∀F:Nat,(∀(v:(List Ab)) (i:Int) (r:Am),H7 F v i=some r→Fn Tryz.prog GE 76 [AB 4 (A1 Ac v),Ai i] [] (λR H=>R=rS r∧H=[]))
  | 0=>(λ_ _ _ h=>by simp[H7] at h)
  | nn+1=>(λv i r h=>Xp nn (H7 nn) (Q7 nn) v i r (by rw[H7] at h;exact h))
theorem UE (F:Nat)(v:(List Ab))(i:Int)(r:Am)(h:H7 F v i=some r):Fn Tryz.prog GE 76 [AB 4 (A1 Ac v),Ai i] [] (λR H=>R=rS r∧H=[]):=(Q7 F) v i r h
theorem M8 (F:Nat)(v:(List Ab))(r:Int)(h:KI F v=some r):Fn Tryz.prog GE 34 [AB 4 (A1 Ac v)] [] (λR H=>R=Ai r∧H=[]):=by
 refine enter (n:=61) Tryz.func34 Aa Tryz.ntmps34 Aa (λw Z=>?_);unfold KI at h;refine Ah (wa Aa (An (Ao (Ah (wm Aa (ob h λr1 e3 h2=>BI Tryz.call74 (VK F v r1 e3) Aa (wv (B7 Aa) (An (cz h2 Aa (λc4 h5=>?_) (λc4 h6=>?_))))))))))
 ·refine Ah (wa Aa (An (Ar (Ae ?_))));obtain rfl:=Ap h5;exact Aq (B2 Vu (A5 Aa)) sN ⟨Aa,Aa⟩
 ·refine As (A9 (Ao (Ah (wa Aa (An (AA (ob h6 λhq hr ho=>Bk (S:=Nat×(Int)×(Unit)) (V:=(Unit)×(Unit)) 0 (λσ=>BS (λσ=>EV v σ) σ.1 σ.2.1=some hq) (λσ=>[(0,AB 4 (A1 Ac v)),(3,Ai σ.2.1)]) (λσ=>[]) (λσ=>σ.1) (F,0,()) hr (A4.c Aa (A4.c Aa A4.nil)) sN (λσ=>J6 F v =some r) (λσ=>[(0,AB 4 (A1 Ac v))]) (λσ=>[]) ?_ ?_)))))))
  ·rintro⟨gf,hf,⟨⟩⟩ hs;refine BC (l':=[(0,AB 4 (A1 Ac v)),(3,Ai hf)]) (H':=[]) Aa Aa ?_;obtain⟨ht,rfl,t46,hg,hk⟩:=Ce hs;replace hg:EV v hf=some t46:=hg;unfold EV at hg;refine Ao (Ah (wm Aa (wm Aa (wv (AW (ys:=v) (enc:=Ac) Br Aa) (wv (Cn Aa Aa) (An (cz hg Aa (λhu hw=>?_) (λhu hx=>?_))))))))
   ·refine As (A9 (Ao (AA (ck hw λhl hy=>AE [(0,AB 4 (A1 Ac v)),(3,Ai hf),(35,rB ((decide (((At v hf).fKind)=3))&&((decide (((At v hf).fInt)<(-1000000000000)))||(decide (1000000000000<((At v hf).fInt))))))] [] ?_ ?_))))
    ·refine Al (wm Aa (wm Aa (wv (AX (enc:=Ac) (ys:=v) Br Bx Aa Aa hl) (wv (AQ Bp Aa CC Aa Aa) (wv (AK CP Aa Aa) (wv (Bj Aa Aa) (wm Aa (AP (decide (((At v hf).fKind)=3)) (λha=>?_) (λha=>?_)))))))))
     ·refine wo ha (wm Aa (wo ha (wm Aa (wo ha (wv (AX (enc:=Ac) (ys:=v) Br Bx Aa Aa hl) (wo ha (wv (AQ Bp Aa BL Aa Aa) (wo ha (wv (AK Cc Aa Aa) (wo ha (wv (Cn Aa Aa) (wo ha (wm Aa (AP (decide (((At v hf).fInt)<(-1000000000000))) (λhb=>?_) (λhb=>?_)))))))))))))))
      ·refine wf hb (wf hb (wf hb (wf hb (wf hb (wf hb (wo ha (wv (r:=rB true) (Aw Aa hb Aa) (C3 Aa ha Aa (Ak ?_)))))))));exact BH (And.intro ha hb)
      ·refine wo hb (wm Aa (wo hb (wm Aa (wo hb (wv (AX (enc:=Ac) (ys:=v) Br Bx Aa Aa hl) (wo hb (wv (AQ Bp Aa BL Aa Aa) (wo hb (wv (AK Cc Aa Aa) (wo hb (wv (CD Aa Aa) (wo ha (Cs Aa hb Aa (C3 Aa ha Aa (Ak ?_)))))))))))))));exact BH (And.intro ha hb)
     ·refine wf ha (wf ha (wf ha (wf ha (wf ha (wf ha (wf ha (wu (wu (wu (wu (wu (wu (wf ha (wv (r:=rB false) (Az Aa ha Aa) (Ak ?_)))))))))))))));exact BH ha
    refine cz hy Aa (λhz h0=>?_) (λhz h1=>?_)
    ·refine Ah (wa Aa (An (Ar (Au (Ae (Ae (AU ?_)))))));have h3:=Bm h0 hk ho;refine Au (Ae ?_);obtain rfl:=Ap h3;exact Aq (B2 Vu (A5 Aa)) sN ⟨Aa,Aa⟩
    ·refine As (A7 (A9 (Al (wm Aa (ck h1 λh4 h7=>wv (Bh Aa Aa h4) (wa Aa (Ak ?_)))))));have h8:=AY h7 hk;exact Ax (Av (ht,hf+1,()) ⟨h8,AcR _⟩ (A4.c Aa (A4.c Aa A4.nil)) sN)
   ·refine Bt (Ay ?_);have h9:=BD hx hk ho;exact Ay (Bb (Av ((),()) h9 (A4.c Aa A4.nil) sN))
  ·rintro⟨⟨⟩,⟨⟩⟩ hh;refine Ci (l':=[(0,AB 4 (A1 Ac v))]) (H':=[]) Aa Aa ?_;replace hh:J6 F v =some r:=hh;unfold J6 at hh;refine Bf (A9 (Ao (ck hh λhA hB=>AE [(0,AB 4 (A1 Ac v)),(43,rB ((decide (200<(v.length:Int)))||(decide (8<(ov (DC F v 0))))))] [] ?_ ?_)))
   ·refine Al (wm Aa (wv (AW (ys:=v) (enc:=Ac) Br Aa) (wv (CD Aa Aa) (wm Aa (AP (decide (200<(v.length:Int))) (λhe=>?_) (λhe=>?_))))))
    ·refine wf he (wf he (wf he (wv (r:=rB true) (Aw Aa he Aa) (Ak ?_))));exact BH he
    ·refine wo he (wm Aa (wo he (BI Tryz.call75 (VI F v 0 (ov (DC F v 0)) (DY (BR hA he))) Aa (wo he (wv (CD Aa Aa) (Cs Aa he Aa (Ak ?_)))))));exact BH he
   refine cz hB Aa (λhC hD=>?_) (λhC hE=>?_)
   ·refine Ah (wa Aa (An (Ar (Ae ?_))));obtain rfl:=Ap hD;exact Aq (B2 Vu (A5 Aa)) sN ⟨Aa,Aa⟩
   ·refine As (A9 (Ao (Ah (wa Aa (An (AA (ob hE λhG hH hp=>Bk (S:=Nat×(Int)×(Unit)) (V:=(Unit)×(Unit)) 2 (λσ=>BS (λσ=>EU v σ) σ.1 σ.2.1=some hG) (λσ=>[(0,AB 4 (A1 Ac v)),(4,Ai σ.2.1)]) (λσ=>[]) (λσ=>σ.1) (F,0,()) hH (A4.c Aa (A4.c Aa A4.nil)) sN (λσ=>J5 F v =some r) (λσ=>[(0,AB 4 (A1 Ac v))]) (λσ=>[]) ?_ ?_)))))))
    ·rintro⟨gg,hm,⟨⟩⟩ hI;refine BC (l':=[(0,AB 4 (A1 Ac v)),(4,Ai hm)]) (H':=[]) Aa Aa ?_;obtain⟨hJ,rfl,hK,hi,hn⟩:=Ce hI;replace hi:EU v hm=some hK:=hi;unfold EU at hi;refine Ao (Ah (wm Aa (wm Aa (wv (AW (ys:=v) (enc:=Ac) Br Aa) (wv (Cn Aa Aa) (An (cz hi Aa (λhL hN=>?_) (λhL hO=>?_))))))))
     ·refine As (A9 (Ao (AA (Ah (wm Aa (wm Aa (ck hN λhP hQ=>wv (AX (enc:=Ac) (ys:=v) Br Bx Aa Aa hP) (wv (AQ Bp Aa CX Aa Aa) (wv (AK Dm Aa Aa) (wv (BJ Di Aa) (wv (CD Aa Aa) (An (cz hQ Aa (λhR hS=>?_) (λhR hT=>?_))))))))))))))
      ·refine Ah (wa Aa (An (Ar (Au (Ae (Ae (AU ?_)))))));have hU:=Bm hS hn hp;refine Au (Ae ?_);obtain rfl:=Ap hU;exact Aq (B2 Vu (A5 Aa)) sN ⟨Aa,Aa⟩
      ·refine As (A7 (A9 (Al (wm Aa (ck hT λhV hW=>wv (Bh Aa Aa hV) (wa Aa (Ak ?_)))))));have hX:=AY hW hn;exact Ax (Av (hJ,hm+1,()) ⟨hX,AcR _⟩ (A4.c Aa (A4.c Aa A4.nil)) sN)
     ·refine Bt (Ay ?_);have hY:=BD hO hn hp;exact Ay (Bb (Av ((),()) hY (A4.c Aa A4.nil) sN))
    ·rintro⟨⟨⟩,⟨⟩⟩ hj;refine Ci (l':=[(0,AB 4 (A1 Ac v))]) (H':=[]) Aa Aa ?_;replace hj:J5 F v =some r:=hj;unfold J5 at hj;refine Bf (A9 (Ao (Ah (wm Aa (ob hj λhZ ga gb=>BI Vx (UE F v 0 hZ ga) Aa (wv (BJ Di Aa) (wv (CD Aa Aa) (An (cz gb Aa (λgc gd=>?_) (λgc ge=>?_))))))))))
     ·refine Ah (wa Aa (An (Ar (Ae ?_))));obtain rfl:=Ap gd;exact Aq (B2 Vu (A5 Aa)) sN ⟨Aa,Aa⟩
     ·refine As (A9 (Ah (wa Aa (An (Ar ?_)))));obtain rfl:=Ap ge;exact Aq (B2 Vu (A5 Aa)) sN ⟨Aa,Aa⟩
theorem G7 (F:Nat)(v:(List Ab))(r:Am×Int)(h:ES F v=some r):Fn Tryz.prog GE 54 [AB 4 (A1 Ac v)] [] (λR H=>R=CY [rS r.1,Ai r.2]∧H=[]):=by
 refine enter (n:=12) Tryz.func54 Aa Tryz.ntmps54 Aa (λw Z=>?_);unfold ES at h;refine Ah (wv (r:=rS ([]:Am)) (AC Aa) (wa Aa (Bd (wm Aa (ob h λr1 e3 h2=>BI Tryz.call34 (M8 F v r1 e3) Aa (wa Aa (An (Ao (Ah (wm Aa (wv (Bs Aa Aa) (An (cz h2 Aa (λc4 h5=>?_) (λc4 h6=>?_))))))))))))))
 ·refine Ah (wm Aa (wv (r:=rS ([]:Am)) (AC Aa) (wa Aa (An (Ar (Ae ?_))))));obtain rfl:=Ap h5;exact Aq (CM Tryz.results54 (A5 Aa) (A5 Aa)) sN ⟨Aa,Aa⟩
 ·refine As (A9 (Ah (wm Aa (ob h6 λr7 e9 h8=>BI Vx (UE F v 0 r7 e9) Aa (wa Aa (wa Aa (An (Ar ?_))))))));obtain rfl:=Ap h8;exact Aq (CM Tryz.results54 (A5 Aa) (A5 Aa)) sN ⟨Aa,Aa⟩
end Go.Proofs.YtghdglcmblpbeaaGreatDoor.Q
namespace Go.Proofs.YtghdglcmblpbeaaGreatDoor
open Go
set_option linter.unusedVariables false
structure AH where
 fPairs:Bool
 fLeft:Int
 fKey:Bool
 fLast:Am
 fStarted:Bool
 deriving DecidableEq,Inhabited
structure AV where
 fDepth:Int
 fBytes:Int
 fOutside:Bool
 fLong:Bool
 deriving DecidableEq,Inhabited
def BE (n:Int):Option (Bool):=
 some ((decide ((-1000000000000)≤n))&&(decide (n≤1000000000000)))
def Js (s:Am)(ha:Int):Option (Stp (Int) (Out (Bool) (Unit))):=
 AT (decide (ha<(s.length:Int))) (AS (Co ha (s.length:Int))<|AT (((decide ((BA s ha)<32))||(decide (126<(BA s ha))))) (some (.out (.ret false))) (AS (Bu .i64 (ha+1))<|some (.next (ha+1)))) (some (.out (.go ())))
def Jr :Option (Bool):=
 some true
def Mn (F:Nat)(s:Am):Option (Bool):=
 Bi (BS (λσ=>Js s σ) F 0) (BP λν=>Jr )
def Le (s:Am):Option (Int):=
 AS (Bu .i64 ((s.length:Int)+2))<|AS (Bu .i64 (((s.length:Int)+2)+(Lib.countByte s 34:Int)))<|AS (Bu .i64 ((((s.length:Int)+2)+(Lib.countByte s 34:Int))+(Lib.countByte s 92:Int)))<|some ((((s.length:Int)+2)+(Lib.countByte s 34:Int))+(Lib.countByte s 92:Int))
def Pd (F:Nat)(c:Ab):Option (Bool):=
 AT (decide (c.fKind=1)) (some ((decide (c.fInt=0))&&((decide (c.fStr=([]:Am)))&&(decide (c.fN=0))))) (AT (decide (c.fKind=2)) (some (bif decide (c.fInt=0) then((decide (c.fStr=([]:Am)))&&(decide (c.fN=0))) else((decide (c.fInt=1))&&((decide (c.fStr=([]:Am)))&&(decide (c.fN=0)))))) (AT (decide (c.fKind=3)) (some ((decide (c.fStr=([]:Am)))&&(decide (c.fN=0)))) (AT (decide (c.fKind=4)) (AS (imp (decide (c.fInt=0)) (imp (decide (c.fN=0)) ((Mn F c.fStr).isSome)))<|some ((decide (c.fInt=0))&&((decide (c.fN=0))&&(ov (Mn F c.fStr))))) (AT (decide (c.fKind=5)) (some ((decide (c.fInt=0))&&((decide (c.fStr=([]:Am)))&&(decide (0≤c.fN))))) (AT (decide (c.fKind=6)) (some ((decide (c.fInt=0))&&((decide (c.fStr=([]:Am)))&&(decide (0≤c.fN))))) (some false))))))
def Se (c:Ab):Option (Int):=
 AT (decide (c.fKind=1)) (some 4) (AT (decide (c.fKind=2)) (some (IntKind.wrap .i64 (5-c.fInt))) (AT (decide (c.fKind=3)) (AS (Bu .i64 c.fInt)<|some ((Lib.itoa c.fInt).length:Int)) (AT (decide (c.fKind=4)) (Bi (Le c.fStr) λha=>some ha) (some (IntKind.wrap .i64 (2+(max 0 (IntKind.wrap .i64 (c.fN-1)))))))))
def E9 (ha:(List AH)):Option (Stp ((List AH)) (Out ((List AH)) ((List AH)))):=
 AT (decide (0<(ha.length:Int))) (AS (Bu .i64 ((ha.length:Int)-1))<|AS (Co ((ha.length:Int)-1) (ha.length:Int))<|AS (Bu .i64 (((At ha ((ha.length:Int)-1)).fLeft)-1))<|No (List.set ha (Int.toNat ((ha.length:Int)-1)) (AH.mk ((At ha ((ha.length:Int)-1)).fPairs) (((At ha ((ha.length:Int)-1)).fLeft)-1) ((At ha ((ha.length:Int)-1)).fKey) ((At ha ((ha.length:Int)-1)).fLast) ((At ha ((ha.length:Int)-1)).fStarted))) λhb=>AT (decide (0<((At hb ((ha.length:Int)-1)).fLeft))) (No (List.set hb (Int.toNat ((ha.length:Int)-1)) (AH.mk ((At hb ((ha.length:Int)-1)).fPairs) ((At hb ((ha.length:Int)-1)).fLeft) ((At hb ((ha.length:Int)-1)).fPairs) ((At hb ((ha.length:Int)-1)).fLast) ((At hb ((ha.length:Int)-1)).fStarted))) λhe=>some (.out (.ret he))) (AS (Bu .i64 ((hb.length:Int)-1))<|AS (GM ((hb.length:Int)-1) (hb.length:Int))<|some (.next (List.take (Int.toNat ((hb.length:Int)-1)) hb)))) (some (.out (.go ha)))
def Gv (ha:(List AH)):Option ((List AH)):=
 some ha
def Mx (F:Nat)(stack:(List AH)):Option ((List AH)):=
 Bi (BS (λσ=>E9 σ) F stack) (BP λν=>Gv ν)
def Gg (ha:Int)(hb:(List AH))(he:AV):Option (Stp ((List AH)×Int×AV) (Out (Int×AV×Bool) (AV))):=
 AS (Bu .i64 (ha+1))<|some (.next (hb,ha+1,he))
def E8 (F:Nat)(v:(List Ab))(ha:(List AH))(hb:Int)(he:AV):Option (Stp ((List AH)×Int×AV) (Out (Int×AV×Bool) (AV))):=
 AT (decide (hb<(v.length:Int))) (AS (Co hb (v.length:Int))<|Bi (Pd F (At v hb)) λhk=>AT (!hk) (some (.out (.ret (0,he,false)))) (AS (imp (decide (0<(ha.length:Int))) (Bu .i64 ((ha.length:Int)-1)))<|AS (imp (decide (0<(ha.length:Int))) (Co ((ha.length:Int)-1) (ha.length:Int)))<|AT (((decide (0<(ha.length:Int)))&&((At ha ((ha.length:Int)-1)).fKey))) (AS (Bu .i64 ((ha.length:Int)-1))<|AS (Co ((ha.length:Int)-1) (ha.length:Int))<|AT (((!decide (((At v hb).fKind)=4))||(((At ha ((ha.length:Int)-1)).fStarted)&&(DI ((At v hb).fStr) ((At ha ((ha.length:Int)-1)).fLast)||decide (((At v hb).fStr)=((At ha ((ha.length:Int)-1)).fLast)))))) (some (.out (.ret (0,he,false)))) (No (List.set ha (Int.toNat ((ha.length:Int)-1)) (AH.mk ((At ha ((ha.length:Int)-1)).fPairs) ((At ha ((ha.length:Int)-1)).fLeft) ((At ha ((ha.length:Int)-1)).fKey) ((At v hb).fStr) ((At ha ((ha.length:Int)-1)).fStarted))) λhf=>No (List.set hf (Int.toNat ((ha.length:Int)-1)) (AH.mk ((At hf ((ha.length:Int)-1)).fPairs) ((At hf ((ha.length:Int)-1)).fLeft) ((At hf ((ha.length:Int)-1)).fKey) ((At hf ((ha.length:Int)-1)).fLast) true)) λhg=>No (List.set hg (Int.toNat ((ha.length:Int)-1)) (AH.mk ((At hg ((ha.length:Int)-1)).fPairs) ((At hg ((ha.length:Int)-1)).fLeft) false ((At hg ((ha.length:Int)-1)).fLast) ((At hg ((ha.length:Int)-1)).fStarted))) λhl=>Bi (Le ((At v hb).fStr)) λhi=>AS (Bu .i64 (hi+1))<|Gg hb hl (AV.mk he.fDepth (IntKind.wrap .i64 (he.fBytes+(hi+1))) he.fOutside (he.fLong||(decide (200<(((At v hb).fStr).length:Int))))))) (AS (Bu .i64 ((ha.length:Int)+1))<|Bi (Se (At v hb)) λhh=>AS (imp (!he.fOutside) (imp (decide (((At v hb).fKind)=3)) ((BE ((At v hb).fInt)).isSome)))<|AT (decide (0<((At v hb).fN))) (AT (decide ((v.length:Int)<((At v hb).fN))) (some (.out (.ret (0,(AV.mk (max he.fDepth ((ha.length:Int)+1)) (IntKind.wrap .i64 (he.fBytes+hh)) (he.fOutside||((decide (((At v hb).fKind)=3))&&(!(ov (BE ((At v hb).fInt)))))) (he.fLong||(decide (200<(((At v hb).fStr).length:Int))))),false)))) (AS (DN 48 (ha.length+([(AH.mk (decide (((At v hb).fKind)=6)) ((At v hb).fN) (decide (((At v hb).fKind)=6)) ([]:Am) false)]:List AH).length))<|Gg hb (ha++([(AH.mk (decide (((At v hb).fKind)=6)) ((At v hb).fN) (decide (((At v hb).fKind)=6)) ([]:Am) false)]:List AH)) (AV.mk (max he.fDepth ((ha.length:Int)+1)) (IntKind.wrap .i64 (he.fBytes+hh)) (he.fOutside||((decide (((At v hb).fKind)=3))&&(!(ov (BE ((At v hb).fInt)))))) (he.fLong||(decide (200<(((At v hb).fStr).length:Int))))))) (Bi (Mx F ha) λhj=>AT (decide ((hj.length:Int)=0)) (AS (Bu .i64 (hb+1))<|some (.out (.ret (hb+1,(AV.mk (max he.fDepth ((ha.length:Int)+1)) (IntKind.wrap .i64 (he.fBytes+hh)) (he.fOutside||((decide (((At v hb).fKind)=3))&&(!(ov (BE ((At v hb).fInt)))))) (he.fLong||(decide (200<(((At v hb).fStr).length:Int))))),true)))) (Gg hb hj (AV.mk (max he.fDepth ((ha.length:Int)+1)) (IntKind.wrap .i64 (he.fBytes+hh)) (he.fOutside||((decide (((At v hb).fKind)=3))&&(!(ov (BE ((At v hb).fInt)))))) (he.fLong||(decide (200<(((At v hb).fStr).length:Int)))))))))) (some (.out (.go he)))
def Ms (ha:AV):Option (Int×AV×Bool):=
 some (0,ha,false)
def GO (F:Nat)(v:(List Ab)):Option (Int×AV×Bool):=
 Bi (BS (λσ=>E8 F v σ.1 σ.2.1 σ.2.2) F (([]:List AH),0,(AV.mk 0 0 false false))) (BP λν=>Ms ν)
def Es (F:Nat)(v:(List Ab)):Option (Int):=
 Bi (GO F v) λr1=>AT (((!r1.2.2)||(!decide (r1.1=(v.length:Int))))) (some 1) (AT (r1.2.1.fOutside) (some 2) (AT ((r1.2.1.fLong||((decide (200<(v.length:Int)))||((decide (8<r1.2.1.fDepth))||(decide (4000<r1.2.1.fBytes)))))) (some 3) (some 0)))
def Gh (F:Nat)(v:(List Ab)):Option ((List Ab)×Int):=
 Bi (Es F v) λr1=>AT (!decide (r1=0)) (some (([]:List Ab),r1)) (some (v,0))
def Sk (F:Nat)(n:Int):Option ((List Ab)×Int):=
 Bi (Gh F ([(Ab.mk 3 n ([]:Am) 0)]:List Ab)) λr2=>some (r2.1,r2.2)
def Qj (F:Nat)(s:Am):Option ((List Ab)×Int):=
 Bi (Gh F ([(Ab.mk 4 0 s 0)]:List Ab)) λr2=>some (r2.1,r2.2)
def Is (F:Nat)(l:(List (List Ab)))(hb:(List Ab))(ha:Int):Option (Stp ((List Ab)×Int) (Out ((List Ab)×Int) ((List Ab)))):=
 AT (decide (ha<(l.length:Int))) (AS (Co ha (l.length:Int))<|Bi (Es F (At l ha)) λhe=>AT (!decide (he=0)) (some (.out (.ret (([]:List Ab),he)))) (AS (DN 40 (hb.length+(At l ha).length))<|AS (Bu .i64 (ha+1))<|some (.next (hb++(At l ha),ha+1)))) (some (.out (.go hb)))
def Jv (F:Nat)(hb:(List Ab)):Option ((List Ab)×Int):=
 Bi (Gh F hb) λha=>some (ha.1,ha.2)
def Ku (F:Nat)(l:(List (List Ab))):Option ((List Ab)×Int):=
 Bi (BS (λσ=>Is F l σ.1 σ.2) F (([(Ab.mk 5 0 ([]:Am) (l.length:Int))]:List Ab),0)) (BP λν=>Jv F ν)
end Go.Proofs.YtghdglcmblpbeaaGreatDoor
namespace Go.Proofs.YtghdglcmblpbeaaGreatDoor.Q
open Go Go.RowKit
set_option linter.unusedVariables false
set_option linter.unusedSimpArgs false
set_option maxRecDepth 100000
set_option maxHeartbeats 4000000
@[reducible] def AF (x:AH):List Rp:=[rB x.fPairs,Ai x.fLeft,rB x.fKey,rS x.fLast,rB x.fStarted]
theorem Ky (x:AH):(AF x).length=5:=rfl
theorem Oy (x:AH):(AF x).all (·.one)=true:=rfl
@[reducible] def AZ (x:AV):List Rp:=[Ai x.fDepth,Ai x.fBytes,rB x.fOutside,rB x.fLong]
@[reducible] def Ad (x:(List Ab)):List Rp:=[AB 4 (A1 Ac x)]
theorem Be (x:(List Ab)):(Ad x).length=1:=rfl
theorem Cf (x:(List Ab)):(Ad x).all (·.one)=true:=rfl
theorem Ef:∃inf,Tryz.prog.info? 54=some inf∧inf.zero=some (.agg #[(.int .i64 0),(.int .i64 0),(.string ⟨#[]⟩),(.int .i64 0)])∧inf.size=4∧inf.bytes=40:=by
  have key:(Tryz.prog.info? 54).map (λi=>(i.zero,i.size,i.bytes))=some (some (.agg #[(.int .i64 0),(.int .i64 0),(.string ⟨#[]⟩),(.int .i64 0)]),4,40):=by kernel_rfl
  obtain⟨inf,h1,h2⟩:=Option.map_eq_some_iff.1 key;simp only[Prod.mk.injEq] at h2;exact⟨inf,h1,h2.1,h2.2.1,h2.2.2⟩
theorem ZG:∃inf,Tryz.prog.info? 118=some inf∧inf.zero=some (.agg #[(.bool false),(.int .i64 0),(.bool false),(.string ⟨#[]⟩),(.bool false)])∧inf.size=5∧inf.bytes=48:=by
  have key:(Tryz.prog.info? 118).map (λi=>(i.zero,i.size,i.bytes))=some (some (.agg #[(.bool false),(.int .i64 0),(.bool false),(.string ⟨#[]⟩),(.bool false)]),5,48):=by kernel_rfl
  obtain⟨inf,h1,h2⟩:=Option.map_eq_some_iff.1 key;simp only[Prod.mk.injEq] at h2;exact⟨inf,h1,h2.1,h2.2.1,h2.2.2⟩
theorem OP (parts:List (Nat×Value)):Tryz.prog.built 54 parts=Instr.fill (λi=>(#[(0,1),(1,1),(2,1),(3,1)]:Array (Nat×Nat))[i]?) #[(.int .i64 0),(.int .i64 0),(.string ⟨#[]⟩),(.int .i64 0)] parts:=by kernel_rfl
theorem Cj {n:Nat}{c:Cx}{l:Fr}{H:List Ent}{d:Option Nat}{ty:TypeId}{pos:String}{af:Array Edge}{g:Option (Nat×Bool)}{x0:Operand}{r0:Rp}(h0:ev l x0=some r0)(u0:r0.one=true){x1:Operand}{r1:Rp}(h1:ev l x1=some r1)(u1:r1.one=true):B9 Tryz.prog n c l H { dst:=d,op:=.build 54 #[(0,x0),(1,x1)],type:=ty,pos:=pos,after:=af,guard:=g } (Bw [r0,r1,rS ([]:Am),Ai 0]):=λa w Z ha _=>by
  have p0:=ha.ev h0;have c0:=Ck (r0.hone u0 Z _ p0);have p1:=ha.ev h1;have c1:=Ck (r1.hone u1 Z _ p1);have hb:Tryz.prog.built 54 [(0,a.eval x0),(1,a.eval x1)]=some #[a.eval x0,a.eval x1,(.string ⟨#[]⟩),(.int .i64 0)]:=by
    rw[OP];generalize a.eval x0=v0 at *;generalize a.eval x1=v1 at *;simp[Instr.fill,c0,c1]
  refine⟨.agg #[a.eval x0,a.eval x1,(.string ⟨#[]⟩),(.int .i64 0)],⟨[a.eval x0,a.eval x1,(.string ⟨#[]⟩),(.int .i64 0)],rfl,p0,p1,rfl,rfl,trivial⟩,?_⟩;have:=run_build w 54 #[(0,a.eval x0),(1,a.eval x1)] _ (by simpa using hb);simp[execOp,this]
theorem Dc {n:Nat}{c:Cx}{l:Fr}{H:List Ent}{d:Option Nat}{ty:TypeId}{pos:String}{af:Array Edge}{g:Option (Nat×Bool)}{x0:Operand}{r0:Rp}(h0:ev l x0=some r0)(u0:r0.one=true){x2:Operand}{r2:Rp}(h2:ev l x2=some r2)(u2:r2.one=true):B9 Tryz.prog n c l H { dst:=d,op:=.build 54 #[(0,x0),(2,x2)],type:=ty,pos:=pos,after:=af,guard:=g } (Bw [r0,Ai 0,r2,Ai 0]):=λa w Z ha _=>by
  have p0:=ha.ev h0;have c0:=Ck (r0.hone u0 Z _ p0);have p2:=ha.ev h2;have c2:=Ck (r2.hone u2 Z _ p2);have hb:Tryz.prog.built 54 [(0,a.eval x0),(2,a.eval x2)]=some #[a.eval x0,(.int .i64 0),a.eval x2,(.int .i64 0)]:=by
    rw[OP];generalize a.eval x0=v0 at *;generalize a.eval x2=v2 at *;simp[Instr.fill,c0,c2]
  refine⟨.agg #[a.eval x0,(.int .i64 0),a.eval x2,(.int .i64 0)],⟨[a.eval x0,(.int .i64 0),a.eval x2,(.int .i64 0)],rfl,p0,rfl,p2,rfl,trivial⟩,?_⟩;have:=run_build w 54 #[(0,a.eval x0),(2,a.eval x2)] _ (by simpa using hb);simp[execOp,this]
theorem Jf {n:Nat}{c:Cx}{l:Fr}{H:List Ent}{d:Option Nat}{ty:TypeId}{pos:String}{af:Array Edge}{g:Option (Nat×Bool)}{x0:Operand}{r0:Rp}(h0:ev l x0=some r0)(u0:r0.one=true){x3:Operand}{r3:Rp}(h3:ev l x3=some r3)(u3:r3.one=true):B9 Tryz.prog n c l H { dst:=d,op:=.build 54 #[(0,x0),(3,x3)],type:=ty,pos:=pos,after:=af,guard:=g } (Bw [r0,Ai 0,rS ([]:Am),r3]):=λa w Z ha _=>by
  have p0:=ha.ev h0;have c0:=Ck (r0.hone u0 Z _ p0);have p3:=ha.ev h3;have c3:=Ck (r3.hone u3 Z _ p3);have hb:Tryz.prog.built 54 [(0,a.eval x0),(3,a.eval x3)]=some #[a.eval x0,(.int .i64 0),(.string ⟨#[]⟩),a.eval x3]:=by
    rw[OP];generalize a.eval x0=v0 at *;generalize a.eval x3=v3 at *;simp[Instr.fill,c0,c3]
  refine⟨.agg #[a.eval x0,(.int .i64 0),(.string ⟨#[]⟩),a.eval x3],⟨[a.eval x0,(.int .i64 0),(.string ⟨#[]⟩),a.eval x3],rfl,p0,rfl,rfl,p3,trivial⟩,?_⟩;have:=run_build w 54 #[(0,a.eval x0),(3,a.eval x3)] _ (by simpa using hb);simp[execOp,this]
theorem YH (parts:List (Nat×Value)):Tryz.prog.built 118 parts=Instr.fill (λi=>(#[(0,1),(1,1),(2,1),(3,1),(4,1)]:Array (Nat×Nat))[i]?) #[(.bool false),(.int .i64 0),(.bool false),(.string ⟨#[]⟩),(.bool false)] parts:=by kernel_rfl
theorem N5 {n:Nat}{c:Cx}{l:Fr}{H:List Ent}{d:Option Nat}{ty:TypeId}{pos:String}{af:Array Edge}{g:Option (Nat×Bool)}{x0:Operand}{r0:Rp}(h0:ev l x0=some r0)(u0:r0.one=true){x1:Operand}{r1:Rp}(h1:ev l x1=some r1)(u1:r1.one=true){x2:Operand}{r2:Rp}(h2:ev l x2=some r2)(u2:r2.one=true):B9 Tryz.prog n c l H { dst:=d,op:=.build 118 #[(0,x0),(1,x1),(2,x2)],type:=ty,pos:=pos,after:=af,guard:=g } (Bw [r0,r1,r2,rS ([]:Am),rB false]):=λa w Z ha _=>by
  have p0:=ha.ev h0;have c0:=Ck (r0.hone u0 Z _ p0);have p1:=ha.ev h1;have c1:=Ck (r1.hone u1 Z _ p1);have p2:=ha.ev h2;have c2:=Ck (r2.hone u2 Z _ p2);have hb:Tryz.prog.built 118 [(0,a.eval x0),(1,a.eval x1),(2,a.eval x2)]=some #[a.eval x0,a.eval x1,a.eval x2,(.string ⟨#[]⟩),(.bool false)]:=by
    rw[YH];generalize a.eval x0=v0 at *;generalize a.eval x1=v1 at *;generalize a.eval x2=v2 at *;simp[Instr.fill,c0,c1,c2]
  refine⟨.agg #[a.eval x0,a.eval x1,a.eval x2,(.string ⟨#[]⟩),(.bool false)],⟨[a.eval x0,a.eval x1,a.eval x2,(.string ⟨#[]⟩),(.bool false)],rfl,p0,p1,p2,rfl,rfl,trivial⟩,?_⟩;have:=run_build w 118 #[(0,a.eval x0),(1,a.eval x1),(2,a.eval x2)] _ (by simpa using hb);simp[execOp,this]
theorem Pz (n:Int)(r:Bool)(h:BE n=some r):Fn Tryz.prog GE 31 [Ai n] [] (λR H=>R=rB r∧H=[]):=by
 refine enter (n:=9) Tryz.func31 Aa Tryz.ntmps31 Aa (λw Z=>?_);unfold BE at h;refine Ah (wa Aa (An (AE [(2,rB ((decide ((-1000000000000)≤n))&&(decide (n≤1000000000000))))] [] ?_ ?_)))
 ·refine Al (wm Aa (wv (LC Aa Aa) (wm Aa (AP (decide ((-1000000000000)≤n)) (λc1=>?_) (λc1=>?_)))))
  ·refine wo c1 (wm Aa (wo c1 (wv (LC Aa Aa) (C3 Aa c1 Aa (wa Aa (Ak ?_))))));exact BH c1
  ·refine wf c1 (wf c1 (wv (r:=rB false) (Az Aa c1 Aa) (wa Aa (Ak ?_))));exact BH c1
 refine Ar ?_;obtain rfl:=Ap h;exact Aq (B2 Tryz.results31 (A5 Aa)) sN ⟨Aa,Aa⟩
theorem Zc (F:Nat)(s:Am)(r:Bool)(h:Mn F s=some r):Fn Tryz.prog GE 137 [rS s] [] (λR H=>R=rB r∧H=[]):=by
 refine enter (n:=20) Tryz.func137 Aa Tryz.ntmps137 Aa (λw Z=>?_);unfold Mn at h;refine Ah (wa Aa (An (Ao (Ah (wm Aa (wv (BJ Di Aa) (wv (r:=Ai 0) (A8 Aa) (An (AA (ob h λhj hk hh=>Bk (S:=Nat×(Int)×(Unit)) (V:=(Unit)×(Unit)) 0 (λσ=>BS (λσ=>Js s σ) σ.1 σ.2.1=some hj) (λσ=>[(0,rS s),(5,Ai (s.length:Int)),(6,Ai σ.2.1)]) (λσ=>[]) (λσ=>σ.1) (F,0,()) hk (A4.c Aa (A4.c Aa (A4.c Aa A4.nil))) sN (λσ=>Jr =some r) (λσ=>[]) (λσ=>[]) ?_ ?_))))))))))
 ·rintro⟨h0,hb,⟨⟩⟩ hl;refine BC (l':=[(0,rS s),(5,Ai (s.length:Int)),(6,Ai hb)]) (H':=[]) Aa Aa ?_;obtain⟨hm,rfl,t37,he,hg⟩:=Ce hl;replace he:Js s hb=some t37:=he;unfold Js at he;refine Ah (wv (Cn Aa Aa) (An (Ao (cz he Aa (λhn ho=>?_) (λhn hp=>?_)))))
  ·refine As (A9 (Ao (AA (Ah (wm Aa (wa Aa (An (ck ho λhi hq=>AE [(0,rS s),(5,Ai (s.length:Int)),(6,Ai hb),(18,rB ((decide ((BA s hb)<32))||(decide (126<(BA s hb)))))] [] ?_ ?_))))))))
   ·refine Al (wm Aa (wm Aa (wv (Bo Di Aa Aa hi) (wv (Cn Aa Aa) (wm Aa (AP (decide ((BA s hb)<32)) (λha=>?_) (λha=>?_)))))))
    ·refine wf ha (wf ha (wf ha (wf ha (wv (r:=rB true) (Aw Aa ha Aa) (Ak ?_)))));exact BH ha
    ·refine wo ha (wm Aa (wo ha (wm Aa (wo ha (wv (Bo Di Aa Aa hi) (wo ha (wv (CD Aa Aa) (Cs Aa ha Aa (Ak ?_)))))))));exact BH ha
   refine cz hq Aa (λhr hs=>?_) (λhr ht=>?_)
   ·refine Ah (wa Aa (An (Ar (Au (Ae (Ae (AU ?_)))))));have hu:=Bm hs hg hh;refine Au (Ae ?_);obtain rfl:=Ap hu;exact Aq (B2 Tryz.results137 (A5 Aa)) sN ⟨Aa,Aa⟩
   ·refine As (A7 (A9 (Al (ck ht λhw hx=>wv (Bh Aa Aa hw) (wm Aa (Ak ?_))))));have hy:=AY hx hg;exact Ax (Av (hm,hb+1,()) ⟨hy,AcR _⟩ (A4.c Aa (A4.c Aa (A4.c Aa A4.nil))) sN)
  ·refine Bt (Ay ?_);have hz:=BD hp hg hh;exact Ay (Bb (Av ((),()) hz A4.nil sN))
 ·rintro⟨⟨⟩,⟨⟩⟩ hf;refine Ci (l':=[]) (H':=[]) Aa Aa ?_;replace hf:Jr =some r:=hf;unfold Jr at hf;refine Bf (A9 (Ah (wa Aa (An (Ar ?_)))));obtain rfl:=Ap hf;exact Aq (B2 Tryz.results137 (A5 Aa)) sN ⟨Aa,Aa⟩
theorem Qz (s:Am)(r:Int)(h:Le s=some r):Fn Tryz.prog GE 102 [rS s] [] (λR H=>R=Ai r∧H=[]):=by
 refine enter (n:=12) Tryz.func102 Aa Tryz.ntmps102 Aa (λw Z=>?_);unfold Le at h;refine Ah (wa Aa (Bd (wm Aa (wv (BJ Di Aa) (ck h λg1 h2=>wv (Bh Aa Aa g1) (wm Aa (Mk (rs:=[rS s,rS ([34]:Am)]) (r:=Ai (Lib.countByte s 34:Int)) Tryz.call138 Aa (Vi s 34) Aa Aa (ck h2 λg3 h4=>wv (Bh Aa Aa g3) (wm Aa (Mk (rs:=[rS s,rS ([92]:Am)]) (r:=Ai (Lib.countByte s 92:Int)) Tryz.call138 Aa (Vi s 92) Aa Aa (ck h4 λg5 h6=>wv (Bh Aa Aa g5) (wa Aa (An (Ar ?_))))))))))))));obtain rfl:=Ap h6;exact Aq (B2 Tryz.results102 (A5 Aa)) sN ⟨Aa,Aa⟩
theorem WV (F:Nat)(c:Ab)(r:Bool)(h:Pd F c=some r):Fn Tryz.prog GE 101 [Bw (Ac c)] [] (λR H=>R=rB r∧H=[]):=by
 refine enter (n:=81) Tryz.func101 Aa Tryz.ntmps101 Aa (λw Z=>?_);unfold Pd at h;refine Ah (BF Aa Aa (λb1=>?_));refine wa Aa (An (Ao (Ah (vF Bp Aa CC (vL 0 CP Aa (An (AA (Ah (wv (Bj Aa Aa) (wa Aa (An (cz h Aa (λc2 h3=>?_) (λc2 h6=>?_)))))))))))))
 ·refine AE [(2,rB ((decide (c.fInt=0))&&((decide (c.fStr=([]:Am)))&&(decide (c.fN=0)))))] [] ?_ ?_
  ·refine Al (vF Bp Aa BL (vL 0 Cc Aa (wv (Bj Aa Aa) (wm Aa (AP (decide (c.fInt=0)) (λc4=>?_) (λc4=>?_))))))
   ·refine wo c4 (vF Bp Aa CX (wo c4 (vL 0 Dm Aa (wo c4 (wv (EZ Aa Aa) (C3 Aa c4 Aa (wm Aa (AP (decide (c.fStr=([]:Am))) (λc5=>?_) (λc5=>?_)))))))))
    ·refine wo c5 (vF Bp Aa BL (wo c5 (vL 0 Cc Aa (wo c5 (wv (Bj Aa Aa) (C3 Aa c5 Aa (wa Aa (Ak ?_))))))));exact BH (And.intro c4 c5)
    ·refine wf c5 (wf c5 (wf c5 (wv (r:=rB false) (Az Aa c5 Aa) (wa Aa (Ak ?_)))));exact BH (And.intro c4 c5)
   ·refine wf c4 (wf c4 (wf c4 (wv (r:=rB false) (Az Aa c4 Aa) (wm Aa (wz Aa Aa (wz Aa Aa (wz Aa Aa (wv (r:=rB false) (Az (b:=false) Aa Aa Aa) (wa Aa (Ak ?_))))))))));exact BH c4
  refine Ar (Au (Ae ?_));obtain rfl:=Ap h3;exact Aq (B2 OW (A5 Aa)) sN ⟨Aa,Aa⟩
 ·refine Ah (wv (Bj Aa Aa) (wa Aa (An (cz h6 Aa (λc7 h8=>?_) (λc7 hn=>?_)))))
  ·refine AE [(2,rB (bif decide (c.fInt=0) then((decide (c.fStr=([]:Am)))&&(decide (c.fN=0))) else((decide (c.fInt=1))&&((decide (c.fStr=([]:Am)))&&(decide (c.fN=0))))))] [] ?_ ?_
   ·refine Al (vF Bp Aa BL (vL 0 Cc Aa (wv (Bj Aa Aa) (wm Aa (AP (decide (c.fInt=0)) (λc9=>?_) (λc9=>?_))))))
    ·refine wf c9 (wf c9 (wf c9 (wv (r:=rB true) (Aw Aa c9 Aa) (wm Aa (Ba (b:=true) Aa Aa Aa (vF Bp Aa CX (Ba (b:=true) Aa Aa Aa (vL 0 Dm Aa (Ba (b:=true) Aa Aa Aa (wv (EZ Aa Aa) (wv (r:=rB (decide (c.fStr=([]:Am)))) (Aw (b:=true) Aa Aa Aa) (wm Aa (AP (decide (c.fStr=([]:Am))) (λhh=>?_) (λhh=>?_))))))))))))))
     ·refine wo hh (vF Bp Aa BL (wo hh (vL 0 Cc Aa (wo hh (wv (Bj Aa Aa) (C3 Aa hh Aa (wa Aa (Ak ?_))))))));exact BH (And.intro c9 hh)
     ·refine wf hh (wf hh (wf hh (wv (r:=rB false) (Az Aa hh Aa) (wa Aa (Ak ?_)))));exact BH (And.intro c9 hh)
    ·refine wo c9 (vF Bp Aa BL (wo c9 (vL 0 Cc Aa (wo c9 (wv (Bj Aa Aa) (Cs Aa c9 Aa (wm Aa (AP (decide (c.fInt=1)) (λhb=>?_) (λhb=>?_)))))))))
     ·refine wo hb (vF Bp Aa CX (wo hb (vL 0 Dm Aa (wo hb (wv (EZ Aa Aa) (C3 Aa hb Aa (wm Aa (AP (decide (c.fStr=([]:Am))) (λhi=>?_) (λhi=>?_)))))))))
      ·refine wo hi (vF Bp Aa BL (wo hi (vL 0 Cc Aa (wo hi (wv (Bj Aa Aa) (C3 Aa hi Aa (wa Aa (Ak ?_))))))));exact BH (And.intro c9 (And.intro hb hi))
      ·refine wf hi (wf hi (wf hi (wv (r:=rB false) (Az Aa hi Aa) (wa Aa (Ak ?_)))));exact BH (And.intro c9 (And.intro hb hi))
     ·refine wf hb (wf hb (wf hb (wv (r:=rB false) (Az Aa hb Aa) (wm Aa (wz Aa Aa (wz Aa Aa (wz Aa Aa (wv (r:=rB false) (Az (b:=false) Aa Aa Aa) (wa Aa (Ak ?_))))))))));exact BH (And.intro c9 hb)
   refine Ar (Au (Ae ?_));obtain rfl:=Ap h8;exact Aq (B2 OW (A5 Aa)) sN ⟨Aa,Aa⟩
  ·refine Ah (wv (Bj Aa Aa) (wa Aa (An (cz hn Aa (λho hp=>?_) (λho hq=>?_)))))
   ·refine AE [(2,rB ((decide (c.fStr=([]:Am)))&&(decide (c.fN=0))))] [] ?_ ?_
    ·refine Al (vF Bp Aa CX (vL 0 Dm Aa (wv (EZ Aa Aa) (wm Aa (AP (decide (c.fStr=([]:Am))) (λhj=>?_) (λhj=>?_))))))
     ·refine wo hj (vF Bp Aa BL (wo hj (vL 0 Cc Aa (wo hj (wv (Bj Aa Aa) (C3 Aa hj Aa (wa Aa (Ak ?_))))))));exact BH hj
     ·refine wf hj (wf hj (wf hj (wv (r:=rB false) (Az Aa hj Aa) (wa Aa (Ak ?_)))));exact BH hj
    refine Ar (Au (Ae ?_));obtain rfl:=Ap hp;exact Aq (B2 OW (A5 Aa)) sN ⟨Aa,Aa⟩
   ·refine Ah (wv (Bj Aa Aa) (wa Aa (An (cz hq Aa (λhr hs=>?_) (λhr ht=>?_)))))
    ·refine ck hs λhu hw=>AE [(2,rB ((decide (c.fInt=0))&&((decide (c.fN=0))&&(ov (Mn F c.fStr)))))] [] ?_ ?_
     ·refine Al (vF Bp Aa BL (vL 0 Cc Aa (wv (Bj Aa Aa) (wm Aa (AP (decide (c.fInt=0)) (λha=>?_) (λha=>?_))))))
      ·refine wo ha (vF Bp Aa BL (wo ha (vL 0 Cc Aa (wo ha (wv (Bj Aa Aa) (C3 Aa ha Aa (wm Aa (AP (decide (c.fN=0)) (λhe=>?_) (λhe=>?_)))))))))
       ·refine wo he (vF Bp Aa CX (wo he (vL 0 Dm Aa (wo he (BI Tryz.call137 (Zc F c.fStr (ov (Mn F c.fStr)) (DY (Cr (Cr hu ha) he))) Aa (C3 Aa he Aa (wa Aa (Ak ?_))))))));exact BH (And.intro ha he)
       ·refine wf he (wf he (wf he (wv (r:=rB false) (Az Aa he Aa) (wa Aa (Ak ?_)))));exact BH (And.intro ha he)
      ·refine wf ha (wf ha (wf ha (wv (r:=rB false) (Az Aa ha Aa) (wm Aa (wz Aa Aa (wz Aa Aa (wz Aa Aa (wv (r:=rB false) (Az (b:=false) Aa Aa Aa) (wa Aa (Ak ?_))))))))));exact BH ha
     refine Ar (Au (Ae ?_));obtain rfl:=Ap hw;exact Aq (B2 OW (A5 Aa)) sN ⟨Aa,Aa⟩
    ·refine Ao (Ah (wv (Bj Aa Aa) (wa Aa (An (cz ht Aa (λhm hx=>?_) (λhm hy=>?_))))))
     ·refine As (A9 (EQ Aa hm (AE [(2,rB ((decide (c.fInt=0))&&((decide (c.fStr=([]:Am)))&&(decide (0≤c.fN)))))] [] ?_ ?_)))
      ·refine Al (vF Bp Aa BL (vL 0 Cc Aa (wv (Bj Aa Aa) (wm Aa (AP (decide (c.fInt=0)) (λhf=>?_) (λhf=>?_))))))
       ·refine wo hf (vF Bp Aa CX (wo hf (vL 0 Dm Aa (wo hf (wv (EZ Aa Aa) (C3 Aa hf Aa (wm Aa (AP (decide (c.fStr=([]:Am))) (λhk=>?_) (λhk=>?_)))))))))
        ·refine wo hk (vF Bp Aa BL (wo hk (vL 0 Cc Aa (wo hk (wv (GT Aa Aa) (C3 Aa hk Aa (wa Aa (Ak ?_))))))));exact BH (And.intro hf hk)
        ·refine wf hk (wf hk (wf hk (wv (r:=rB false) (Az Aa hk Aa) (wa Aa (Ak ?_)))));exact BH (And.intro hf hk)
       ·refine wf hf (wf hf (wf hf (wv (r:=rB false) (Az Aa hf Aa) (wm Aa (wz Aa Aa (wz Aa Aa (wz Aa Aa (wv (r:=rB false) (Az (b:=false) Aa Aa Aa) (wa Aa (Ak ?_))))))))));exact BH hf
      refine Ar (Au (Ae ?_));obtain rfl:=Ap hx;exact Aq (B2 OW (A5 Aa)) sN ⟨Aa,Aa⟩
     ·refine Al (wv (Bj Aa Aa) (wa Aa (An (cz hy Aa (λhz h0=>?_) (λhz h1=>?_)))))
      ·refine AE [(2,rB ((decide (c.fInt=0))&&((decide (c.fStr=([]:Am)))&&(decide (0≤c.fN)))))] [] ?_ ?_
       ·refine Al (vF Bp Aa BL (vL 0 Cc Aa (wv (Bj Aa Aa) (wm Aa (AP (decide (c.fInt=0)) (λhg=>?_) (λhg=>?_))))))
        ·refine wo hg (vF Bp Aa CX (wo hg (vL 0 Dm Aa (wo hg (wv (EZ Aa Aa) (C3 Aa hg Aa (wm Aa (AP (decide (c.fStr=([]:Am))) (λhl=>?_) (λhl=>?_)))))))))
         ·refine wo hl (vF Bp Aa BL (wo hl (vL 0 Cc Aa (wo hl (wv (GT Aa Aa) (C3 Aa hl Aa (wa Aa (Ak ?_))))))));exact BH (And.intro hg hl)
         ·refine wf hl (wf hl (wf hl (wv (r:=rB false) (Az Aa hl Aa) (wa Aa (Ak ?_)))));exact BH (And.intro hg hl)
        ·refine wf hg (wf hg (wf hg (wv (r:=rB false) (Az Aa hg Aa) (wm Aa (wz Aa Aa (wz Aa Aa (wz Aa Aa (wv (r:=rB false) (Az (b:=false) Aa Aa Aa) (wa Aa (Ak ?_))))))))));exact BH hg
       refine Ar (Au (Ae ?_));obtain rfl:=Ap h0;exact Aq (B2 OW (A5 Aa)) sN ⟨Aa,Aa⟩
      ·refine As (A7 (A9 (Ah (wa Aa (An (Ar ?_))))));obtain rfl:=Ap h1;exact Aq (B2 OW (A5 Aa)) (sS sN) ⟨Aa,Aa⟩
theorem Zd (c:Ab)(r:Int)(h:Se c=some r):Fn Tryz.prog GE 103 [Bw (Ac c)] [] (λR H=>R=Ai r∧H=[]):=by
 refine enter (n:=28) Tryz.func103 Aa Tryz.ntmps103 Aa (λw Z=>?_);unfold Se at h;refine Ah (BF Aa Aa (λb1=>?_));refine wa Aa (An (Ao (Ah (vF Bp Aa CC (vL 0 CP Aa (An (AA (Ah (wv (Bj Aa Aa) (wa Aa (An (cz h Aa (λc2 h3=>?_) (λc2 h4=>?_)))))))))))))
 ·refine Ah (wa Aa (An (Ar (Au (Ae ?_)))));obtain rfl:=Ap h3;exact Aq (B2 RU (A5 Aa)) (sS sN) ⟨Aa,Aa⟩
 ·refine Ah (wv (Bj Aa Aa) (wa Aa (An (cz h4 Aa (λc5 h6=>?_) (λc5 h7=>?_)))))
  ·refine Ah (vF Bp Aa BL (vL 0 Cc Aa (wv (r:=Ai (IntKind.wrap .i64 (5-c.fInt))) (XB Aa Aa) (wa Aa (An (Ar (Au (Ae ?_))))))));obtain rfl:=Ap h6;exact Aq (B2 RU (A5 Aa)) (sS sN) ⟨Aa,Aa⟩
  ·refine Ah (wv (Bj Aa Aa) (wa Aa (An (cz h7 Aa (λc8 h9=>?_) (λc8 ha=>?_)))))
   ·refine Ah (vF Bp Aa BL (vL 0 Cc Aa (ck h9 λhb he=>Mk (rs:=[Ai c.fInt]) (r:=rS (Lib.itoa c.fInt)) Tryz.call113 Aa (SZ c.fInt hb) Aa Aa (wv (BJ Di Aa) (wa Aa (An (Ar (Au (Ae ?_)))))))));obtain rfl:=Ap he;exact Aq (B2 RU (A5 Aa)) (sS sN) ⟨Aa,Aa⟩
   ·refine Ah (wv (Bj Aa Aa) (wa Aa (An (cz ha Aa (λhf hg=>?_) (λhf hh=>?_)))))
    ·refine Ah (vF Bp Aa CX (vL 0 Dm Aa (ob hg λhi hj hk=>BI Tryz.call102 (Qz c.fStr hi hj) Aa (wa Aa (An (Ar (Au (Ae ?_))))))));obtain rfl:=Ap hk;exact Aq (B2 RU (A5 Aa)) (sS sN) ⟨Aa,Aa⟩
    ·refine As (A7 (A9 (Ah (vF Bp Aa BL (vL 0 Cc Aa (wv (r:=Ai (IntKind.wrap .i64 (c.fN-1))) (XB Aa Aa) (wv (XE yu3 Aa Aa) (wv (r:=Ai (IntKind.wrap .i64 (2+(max 0 (IntKind.wrap .i64 (c.fN-1)))))) (TU Aa Aa) (wa Aa (An (Ar ?_)))))))))));obtain rfl:=Ap hh;exact Aq (B2 RU (A5 Aa)) (sS sN) ⟨Aa,Aa⟩
theorem V6 (F:Nat)(hj:Value)(stack:(List AH))(r:(List AH))(h:Mx F stack=some r):Fn Tryz.prog GE 104 [rv hj] [.row hj 118 5 (A1 AF stack)] (λR H=>∃u0:Value,R=rv u0∧H=[.row u0 118 5 (A1 AF r)]):=by
 refine enter (n:=38) Tryz.func104 Aa Tryz.ntmps104 Aa (λw Z=>?_);unfold Mx at h;refine Ah (wa Aa (An (Ao (AA (ob h λho hp hm=>Bk (S:=Nat×((List AH))×(Value)) (V:=((List AH))×(Value)) 0 (λσ=>BS (λσ=>E9 σ) σ.1 σ.2.1=some ho) (λσ=>[(0,rv σ.2.2),(2,rv (.slice none 0 0))]) (λσ=>[.row σ.2.2 118 5 (A1 AF σ.2.1)]) (λσ=>σ.1) (F,stack,hj) hp (A4.c Aa (A4.c Aa A4.nil)) (sC sN) (λσ=>Gv σ.1=some r) (λσ=>[(0,rv σ.2),(2,rv (.slice none 0 0))]) (λσ=>[.row σ.2 118 5 (A1 AF σ.1)]) ?_ ?_)))))
 ·rintro⟨hH,ha,he⟩ hq;refine BC (l':=[(0,rv he),(2,rv (.slice none 0 0))]) (H':=[.row he 118 5 (A1 AF ha)]) Aa Aa ?_;obtain⟨hr,rfl,hs,hh,hk⟩:=Ce hq;replace hh:E9 ha=some hs:=hh;unfold E9 at hh;refine Ao (Ah (wm Aa (wv (Gk (ys:=ha) (enc:=AF) (i:=0) Kr Aa Aa) (wv (CD Aa Aa) (An (cz hh Aa (λht hu=>?_) (λht hw=>?_)))))))
  ·refine As (A9 (AA (Ah (wm Aa (wm Aa (wv (Gk (ys:=ha) (enc:=AF) (i:=0) Kr Aa Aa) (ck hu λhx hy=>wv (IK Aa Aa hx) (ck hy λhf hz=>wv (r:=rv (HE 5 he (B8 ((ha.length:Int)-1)) 0)) (LU (i:=0) Kr RR Aa Aa Aa (C0 hf)) (wa Aa (Bd (wm Aa (wv (r:=rv (HE 5 he (B8 ((ha.length:Int)-1)) 0)) (CT (k:=0) Aa (C0 hf) Aa Aa) (wv (r:=rv (HE 5 he (B8 ((ha.length:Int)-1)) 1)) (GU (k:=0) Kq Aa BL Aa (C0 hf) Aa Aa Aa) (wv (r:=Ai ((At ha ((ha.length:Int)-1)).fLeft)) (Kg (enc:=AF) (ys:=ha) (i:=0) (j:=(ha.length:Int)-1) Cc Aa Aa hf Aa) (ck hz λh0 h1=>wv (IK Aa Aa h0) (wv (r:=rv (HE 5 he (B8 ((ha.length:Int)-1)) 0)) (CT (k:=0) Aa (C0 hf) Aa Aa) (wv (r:=rv (HE 5 he (B8 ((ha.length:Int)-1)) 1)) (GU (k:=0) Kq Aa BL Aa (C0 hf) Aa Aa Aa) (KD (enc:=AF) (ys:=ha) (y':=(AH.mk ((At ha ((ha.length:Int)-1)).fPairs) (((At ha ((ha.length:Int)-1)).fLeft)-1) ((At ha ((ha.length:Int)-1)).fKey) ((At ha ((ha.length:Int)-1)).fLast) ((At ha ((ha.length:Int)-1)).fStarted))) (i:=0) (j:=(ha.length:Int)-1) BL Aa Aa (BU Aa) Aa hf Aa Aa (H':=[.row he 118 5 (A1 AF (List.set ha (B8 ((ha.length:Int)-1)) (AH.mk ((At ha ((ha.length:Int)-1)).fPairs) (((At ha ((ha.length:Int)-1)).fLeft)-1) ((At ha ((ha.length:Int)-1)).fKey) ((At ha ((ha.length:Int)-1)).fLast) ((At ha ((ha.length:Int)-1)).fStarted))))]) Aa (bd h1 λhb hg h2=>?_)))))))))))))))))));rw[← hg];refine An (Ao (Ah (wm Aa (wv (r:=rv (HE 5 he (B8 ((ha.length:Int)-1)) 0)) (CT (k:=0) Aa (C0 (DD hf hg)) Aa Aa) (wv (r:=rv (HE 5 he (B8 ((ha.length:Int)-1)) 1)) (GU (k:=0) Kq Aa BL Aa (C0 (DD hf hg)) Aa Aa Aa) (wv (r:=Ai ((At hb ((ha.length:Int)-1)).fLeft)) (Kg (enc:=AF) (ys:=hb) (i:=0) (j:=(ha.length:Int)-1) Cc Aa Aa (DD hf hg) Aa) (wv (CD Aa Aa) (An (cz h2 Aa (λh3 h4=>?_) (λh3 h5=>?_))))))))))
   ·refine Ah (wm Aa (wm Aa (wv (r:=rv (HE 5 he (B8 ((ha.length:Int)-1)) 0)) (CT (k:=0) Aa (C0 (DD hf hg)) Aa Aa) (wv (r:=rv (HE 5 he (B8 ((ha.length:Int)-1)) 0)) (GU (k:=0) Kq Aa JP Aa (C0 (DD hf hg)) Aa Aa Aa) (wv (r:=rB ((At hb ((ha.length:Int)-1)).fPairs)) (Kg (enc:=AF) (ys:=hb) (i:=0) (j:=(ha.length:Int)-1) W1 Aa Aa (DD hf hg) Aa) (wv (r:=rv (HE 5 he (B8 ((ha.length:Int)-1)) 0)) (CT (k:=0) Aa (C0 (DD hf hg)) Aa Aa) (wv (r:=rv (HE 5 he (B8 ((ha.length:Int)-1)) 2)) (GU (k:=0) Kq Aa JP Aa (C0 (DD hf hg)) Aa Aa Aa) (KD (enc:=AF) (ys:=hb) (y':=(AH.mk ((At hb ((ha.length:Int)-1)).fPairs) ((At hb ((ha.length:Int)-1)).fLeft) ((At hb ((ha.length:Int)-1)).fPairs) ((At hb ((ha.length:Int)-1)).fLast) ((At hb ((ha.length:Int)-1)).fStarted))) (i:=0) (j:=(ha.length:Int)-1) JP Aa Aa (BU Aa) Aa (DD hf hg) Aa Aa (H':=[.row he 118 5 (A1 AF (List.set hb (B8 ((ha.length:Int)-1)) (AH.mk ((At hb ((ha.length:Int)-1)).fPairs) ((At hb ((ha.length:Int)-1)).fLeft) ((At hb ((ha.length:Int)-1)).fPairs) ((At hb ((ha.length:Int)-1)).fLast) ((At hb ((ha.length:Int)-1)).fStarted))))]) Aa (bd h4 λhI h6 h7=>?_)))))))));rw[← h6];refine Bd (wm Aa (wa Aa (An (Ar (Ae (Au (Ae (AU ?_))))))));have h8:=Bm h7 hk hm;refine Au (Ae ?_);obtain rfl:=Ap h8;exact Aq (B2 Tryz.results104 (A5 Aa)) (sC sN) ⟨he,Aa,Aa⟩
   ·refine As (A9 (Al (wm Aa (wm Aa (wv (Gk (ys:=hb) (enc:=AF) (i:=0) Kr Aa Aa) (ck h5 λh9 hA=>wv (IK Aa Aa h9) (ck hA λhB hC=>AbC (i:=0) Kr RR Aa Aa Aa hB Aa (λhD=>?_))))))));refine wa Aa (Ak (A7 ?_));have hE:=AY hC hk;exact Ax (Av (hr,List.take (B8 ((hb.length:Int)-1)) hb,hD) ⟨hE,AcR _⟩ (A4.c Aa (A4.c Aa A4.nil)) (sC sN))
  ·refine Bt (Ay ?_);have hG:=BD hw hk hm;exact Ay (Bb (Av (ha,he) hG (A4.c Aa (A4.c Aa A4.nil)) (sC sN)))
 ·rintro⟨hn,hl⟩ hi;refine Ci (l':=[(0,rv hl),(2,rv (.slice none 0 0))]) (H':=[.row hl 118 5 (A1 AF hn)]) Aa Aa ?_;replace hi:Gv hn=some r:=hi;unfold Gv at hi;refine Bf (A9 (Ah (wm Aa (wa Aa (An (Ar ?_))))));obtain rfl:=Ap hi;exact Aq (B2 Tryz.results104 (A5 Aa)) (sC sN) ⟨hl,Aa,Aa⟩
theorem JV (F:Nat)(v:(List Ab))(r:Int×AV×Bool)(h:GO F v=some r):Fn Tryz.prog GE 72 [AB 4 (A1 Ac v)] [] (λR H=>R=CY [Ai r.1,Bw (AZ r.2.1),rB r.2.2]∧H=[]):=by
 refine enter (n:=152) Tryz.func72 Aa Tryz.ntmps72 Aa (λw Z=>?_);unfold GO at h;refine Ah (wa Aa (Cg (cs:=[Ai 0,Ai 0,rB false,rB false]) Rb Aa Aa (λb1=>?_)));refine wa Aa (An (WN (Ah (Cg (cs:=[Ai 0,Ai 0,rB false,rB false]) Rb Aa Aa (λb2=>?_)))));refine Bd (wa Aa (An (Ao (WO (A9 (Ao (Ah (wm Aa (wv (AW (ys:=v) (enc:=Ac) Br Aa) (wv (r:=Ai 0) (A8 Aa) (An (AA (WC.nilrow (e:=118) (sz:=5) (JU (H2:=[.blk b2 [Ai 0,Ai 0,rB false,rB false] 86,.blk b1 [Ai 0,Ai 0,rB false,rB false] 86,.row (.slice none 0 0                                                                                                                      ) 118 5 (A1 AF ([]:List AH))]) ((A6 (i:=1) Aa).trans (AcQ _ ((A6 (i:=1) Aa).trans (AcQ _ (AcK _))))) (ob h λhB hC hz=>Bk (S:=Nat×((List AH)×Int×AV)×(Value)) (V:=(AV)×(Unit)) 0 (λσ=>BS (λσ=>E8 F v σ.1 σ.2.1 σ.2.2) σ.1 σ.2.1=some hB) (λσ=>[(0,AB 4 (A1 Ac v)),(3,rP b1 0),(5,rP b2 0),(6,rv σ.2.2),(11,AB 4 (A1 Ac v)),(12,Ai (v.length:Int)),(13,Ai σ.2.1.2.1)]) (λσ=>[.blk b2 (AZ σ.2.1.2.2) 86,.blk b1 [Ai 0,Ai 0,rB false,rB false] 86,.row σ.2.2 118 5 (A1 AF σ.2.1.1)]) (λσ=>σ.1) (F,(([]:List AH),0,(AV.mk 0 0 false false)),(.slice none 0 0                                                                                                                      )) hC (A4.c Aa (A4.c Aa (A4.c5 Aa Aa Aa Aa Aa A4.nil))) (sC (sC (sC sN))) (λσ=>Ms σ.1=some r) (λσ=>[(3,rP b1 0),(5,rP b2 0)]) (λσ=>[.blk b2 (AZ σ.1) 86,.blk b1 [Ai 0,Ai 0,rB false,rB false] 86]) ?_ ?_)))))))))))))))
 ·rintro⟨gJ,⟨he,hb,ha⟩,hf⟩ hD;refine BC (l':=[(0,AB 4 (A1 Ac v)),(3,rP b1 0),(5,rP b2 0),(6,rv hf),(11,AB 4 (A1 Ac v)),(12,Ai (v.length:Int)),(13,Ai hb)]) (H':=[.blk b2 (AZ ha) 86,.blk b1 [Ai 0,Ai 0,rB false,rB false] 86,.row hf 118 5 (A1 AF he)]) Aa Aa ?_;obtain⟨hE,rfl,h5,h1,hy⟩:=Ce hD;replace h1:E8 F v he hb ha=some h5:=h1;unfold E8 at h1;refine Ah (wv (Cn Aa Aa) (An (Ao (cz h1 Aa (λhG hH=>?_) (λhG hI=>?_)))))
  ·refine As (A9 (Cw (S:=((List AH)×AV)×(Value)) (λσ=>Gg hb σ.1.1 σ.1.2=some h5) (λσ=>[(0,AB 4 (A1 Ac v)),(3,rP b1 0),(5,rP b2 0),(6,rv σ.2),(11,AB 4 (A1 Ac v)),(12,Ai (v.length:Int)),(13,Ai hb)]) (λσ=>[.blk b2 (AZ σ.1.2) 86,.blk b1 [Ai 0,Ai 0,rB false,rB false] 86,.row σ.2 118 5 (A1 AF σ.1.1)]) ?_ ?_))
   ·refine AA (Ah (wm Aa (ck hH λhJ hK=>wv (AX (enc:=Ac) (ys:=v) Br Bx Aa Aa hJ) (wv (DM LA Bx Aa Aa Aa) (Cg (cs:=[Ai 0,Ai 0,rS ([]:Am),Ai 0]) DU Aa Aa (λhg=>?_))))));refine wa Aa (Bg (i:=0) Bx Aa Aa Aa (B3.c Aa) Aa Aa (cs':=[Ai ((At v hb).fKind),Ai ((At v hb).fInt),rS ((At v hb).fStr),Ai ((At v hb).fN)]) Aa (H':=[.blk hg (Ac (At v hb)) 54,.blk b2 (AZ ha) 86,.blk b1 [Ai 0,Ai 0,rB false,rB false] 86,.row hf 118 5 (A1 AF he)]) Aa (An (Ao (Ah (wv (AM (i:=0) LA Bx Aa Aa Aa Aa) (ob hK λhL hN hO=>BI Tryz.call101 (WV F (At v hb) hL hN) Aa (wv (B7 Aa) (An (cz hO Aa (λhP hQ=>?_) (λhP hR=>?_))))))))))
    ·refine Ao (E1 (H1:=[.blk hg (Ac (At v hb)) 54,.blk b2 (AZ ha) 86,.blk b1 (AZ ha) 86,.row hf 118 5 (A1 AF he)]) [3,5] [⟨[],Bw (AZ ha),1⟩,⟨[],Ai 0,0⟩,⟨[0],rv undef,2⟩,⟨[],rB false,0⟩] (rle [(3,_),(2,[.blk hg (Ac (At v hb)) 54,.blk b2 (AZ ha) 86,.blk b1 (AZ ha) 86,.row hf 118 5 (A1 AF he)])]) [2,4,3] ?_ ?_)
     ·refine of (AM (i:=1) Qh I8 Aa Aa Aa Aa) (oq (AC Aa) (Hg Aa (LB (C6 (i:=2) I8 Aa Aa Aa (B3.c Aa) Aa Aa (cs':=[Ai ha.fDepth,Ai ha.fBytes,rB ha.fOutside,rB ha.fLong]) Aa (H':=[.blk hg (Ac (At v hb)) 54,.blk b2 (AZ ha) 86,.blk b1 (AZ ha) 86,.row hf 118 5 (A1 AF he)]) Aa)) ?_));refine oq (AC Aa) ?_;exact C7
     refine A9 (Ar (Ae (Au (Ae (Ae (AU ?_))))));have hS:=Bm hQ hy hz;refine Au (Ae (Mj ?_));obtain rfl:=Ap hS;exact Aq (r_3 WA (A5 Aa) (Dy (i:=2) Qh I8 Aa Aa Aa) (A5 Aa)) (sS (sS (sS (sS sN)))) ⟨Aa,Aa⟩
    ·refine As (A9 (Ao (Ah (wm Aa (wv (Gk (ys:=he) (enc:=AF) (i:=3) Kr Aa Aa) (wa Aa (An (ck hR λhT hU=>ck hU λh6 hV=>AE [(0,AB 4 (A1 Ac v)),(3,rP b1 0),(5,rP b2 0),(6,rv hf),(7,Ai hb),(8,rP hg 0),(9,Ai (he.length:Int)),(11,AB 4 (A1 Ac v)),(12,Ai (v.length:Int)),(13,Ai hb),(33,rB ((decide (0<(he.length:Int)))&&((At he ((he.length:Int)-1)).fKey)))] [.blk hg (Ac (At v hb)) 54,.blk b2 (AZ ha) 86,.blk b1 [Ai 0,Ai 0,rB false,rB false] 86,.row hf 118 5 (A1 AF he)] ?_ ?_))))))))
     ·refine Al (wm Aa (wv (CD Aa Aa) (wm Aa (AP (decide (0<(he.length:Int))) (λhj=>?_) (λhj=>?_)))))
      ·refine wo hj (wm Aa (wo hj (wm Aa (wo hj (wv (IK Aa Aa (Cr hT hj)) (wo hj (wv (r:=rv (HE 5 hf (B8 ((he.length:Int)-1)) 0)) (LU (i:=3) Kr RR Aa Aa Aa (C0 (Cr h6 hj))) (wo hj (wv (r:=rv (HE 5 hf (B8 ((he.length:Int)-1)) 2)) (GU (k:=3) Kq Aa JP Aa (C0 (Cr h6 hj)) Aa Aa Aa) (wo hj (wv (r:=rB ((At he ((he.length:Int)-1)).fKey)) (Kg (enc:=AF) (ys:=he) (i:=3) (j:=(he.length:Int)-1) W1 Aa Aa (Cr h6 hj) Aa) (C3 Aa hj Aa (Ak ?_)))))))))))));exact BH hj
      ·refine wf hj (wf hj (wf hj (wf hj (wf hj (wf hj (wv (r:=rB false) (Az Aa hj Aa) (Ak ?_)))))));exact BH hj
     refine cz hV Aa (λhW hX=>?_) (λhW hY=>?_)
     ·refine Ah (wm Aa (wm Aa (ck hX λhZ ga=>wv (IK Aa Aa hZ) (ck ga λhk gb=>wv (r:=rv (HE 5 hf (B8 ((he.length:Int)-1)) 0)) (LU (i:=3) Kr RR Aa Aa Aa (C0 hk)) (wa Aa (An (Ao (AE [(0,AB 4 (A1 Ac v)),(3,rP b1 0),(5,rP b2 0),(6,rv hf),(8,rP hg 0),(10,rv (HE 5 hf (B8 ((he.length:Int)-1)) 0)),(11,AB 4 (A1 Ac v)),(12,Ai (v.length:Int)),(13,Ai hb),(38,rP hg 0),(39,Ai ((At v hb).fKind)),(40,rB (!decide (((At v hb).fKind)=4))),(41,rB (!decide (((At v hb).fKind)=4))),(55,rB ((!decide (((At v hb).fKind)=4))||(((At he ((he.length:Int)-1)).fStarted)&&(DI ((At v hb).fStr) ((At he ((he.length:Int)-1)).fLast)||decide (((At v hb).fStr)=((At he ((he.length:Int)-1)).fLast))))))] [.blk hg (Ac (At v hb)) 54,.blk b2 (AZ ha) 86,.blk b1 [Ai 0,Ai 0,rB false,rB false] 86,.row hf 118 5 (A1 AF he)] ?_ ?_))))))))
      ·refine AP (!decide (((At v hb).fKind)=4)) (λhi=>?_) (λhi=>?_)
       ·refine D5 [0,3,5,6,8,10,11,12,13] [⟨[],rP hg 0,0⟩,⟨[0],Ai ((At v hb).fKind),1⟩,⟨[1],rB (!decide (((At v hb).fKind)=4)),0⟩,⟨[2],rB (!decide (((At v hb).fKind)=4)),0⟩,⟨[3],rv undef,0⟩,⟨[4,3],rv undef,0⟩,⟨[5,3],rv undef,0⟩,⟨[6,3],rv undef,0⟩,⟨[7,3],rv undef,0⟩,⟨[8],rv undef,0⟩,⟨[9,8],rv undef,0⟩,⟨[8],rv undef,0⟩,⟨[11,8],rv undef,0⟩,⟨[12,8],rv undef,0⟩,⟨[13,8],rv undef,0⟩,⟨[10,14,8],rv undef,0⟩,⟨[8,15,3],rv undef,0⟩,⟨[3,16],rB true,0⟩] [38,39,40,41,42,43,44,45,46,47,48,49,50,51,52,53,54,55,0,3,5,6,8,10,11,12,13] ?_ ?_
        ·refine oq (AI Bp Aa CC Aa Aa) (of (Bq (i:=0) CP Aa Aa Aa) (oq (Bs Aa Aa) (oq (A8 Aa) (oz hi (oz hi (oz hi (oz hi (oz hi (ou (ou (ou (ou (ou (ou (ou (oz hi (oq (Aw (b:=!decide (((At v hb).fKind)=4)) Aa hi Aa) ?_)))))))))))))))));exact C7
        exact BH hi
       ·refine AP ((At he ((he.length:Int)-1)).fStarted) (λhl=>?_) (λhl=>?_)
        ·refine D5 [0,3,5,6,8,10,11,12,13] [⟨[],rP hg 0,0⟩,⟨[0],Ai ((At v hb).fKind),1⟩,⟨[1],rB (!decide (((At v hb).fKind)=4)),0⟩,⟨[2],rB (!decide (((At v hb).fKind)=4)),0⟩,⟨[3],rv (HE 5 hf (B8 ((he.length:Int)-1)) 0),0⟩,⟨[4,3],rv (HE 5 hf (B8 ((he.length:Int)-1)) 0),1⟩,⟨[5,3],rv (HE 5 hf (B8 ((he.length:Int)-1)) 4),1⟩,⟨[6,3],rB ((At he ((he.length:Int)-1)).fStarted),1⟩,⟨[7,3],rB ((At he ((he.length:Int)-1)).fStarted),0⟩,⟨[8],rP hg 2,0⟩,⟨[9,8],rS ((At v hb).fStr),1⟩,⟨[8],rv (HE 5 hf (B8 ((he.length:Int)-1)) 0),0⟩,⟨[11,8],rv (HE 5 hf (B8 ((he.length:Int)-1)) 0),1⟩,⟨[12,8],rv (HE 5 hf (B8 ((he.length:Int)-1)) 3),1⟩,⟨[13,8],rS ((At he ((he.length:Int)-1)).fLast),1⟩,⟨[10,14,8],rB (DI ((At v hb).fStr) ((At he ((he.length:Int)-1)).fLast)||decide (((At v hb).fStr)=((At he ((he.length:Int)-1)).fLast))),0⟩,⟨[8,15,3],rB (DI ((At v hb).fStr) ((At he ((he.length:Int)-1)).fLast)||decide (((At v hb).fStr)=((At he ((he.length:Int)-1)).fLast))),0⟩,⟨[3,16],rB (DI ((At v hb).fStr) ((At he ((he.length:Int)-1)).fLast)||decide (((At v hb).fStr)=((At he ((he.length:Int)-1)).fLast))),0⟩] [38,39,40,41,42,43,44,45,46,47,48,49,50,51,52,53,54,55,0,3,5,6,8,10,11,12,13] ?_ ?_
         ·refine oq (AI Bp Aa CC Aa Aa) (of (Bq (i:=0) CP Aa Aa Aa) (oq (Bs Aa Aa) (oq (A8 Aa) (on hi (oq (A8 Aa) (on hi (of (CT (k:=3) Aa (C0 hk) Aa Aa) (on hi (of (GU (k:=3) Kq Aa JP Aa (C0 hk) Aa Aa Aa) (on hi (of (Kg (enc:=AF) (ys:=he) (i:=3) (j:=(he.length:Int)-1) W1 Aa Aa hk Aa) (on hi (oq (A8 Aa) (on hl (oq (AI Bp Aa CX Aa Aa) (on hl (of (Bq (i:=0) Dm Aa Aa Aa) (on hl (oq (A8 Aa) (on hl (of (CT (k:=3) Aa (C0 hk) Aa Aa) (on hl (of (GU (k:=3) Kq Aa CX Aa (C0 hk) Aa Aa Aa) ?_)))))))))))))))))))))));refine on hl (of (Kg (enc:=AF) (ys:=he) (i:=3) (j:=(he.length:Int)-1) Dm Aa Aa hk Aa) (on hl (oq (UQ Aa Aa) (on hi (oq (Aw Aa hl Aa) (oq (Az Aa hi Aa) ?_))))));exact C7
         exact BH (And.intro hi hl)
        ·refine D5 [0,3,5,6,8,10,11,12,13] [⟨[],rP hg 0,0⟩,⟨[0],Ai ((At v hb).fKind),1⟩,⟨[1],rB (!decide (((At v hb).fKind)=4)),0⟩,⟨[2],rB (!decide (((At v hb).fKind)=4)),0⟩,⟨[3],rv (HE 5 hf (B8 ((he.length:Int)-1)) 0),0⟩,⟨[4,3],rv (HE 5 hf (B8 ((he.length:Int)-1)) 0),1⟩,⟨[5,3],rv (HE 5 hf (B8 ((he.length:Int)-1)) 4),1⟩,⟨[6,3],rB ((At he ((he.length:Int)-1)).fStarted),1⟩,⟨[7,3],rB ((At he ((he.length:Int)-1)).fStarted),0⟩,⟨[8],rv undef,0⟩,⟨[9,8],rv undef,0⟩,⟨[8],rv undef,0⟩,⟨[11,8],rv undef,0⟩,⟨[12,8],rv undef,0⟩,⟨[13,8],rv undef,0⟩,⟨[10,14,8],rv undef,0⟩,⟨[8,15,3],rB false,0⟩,⟨[3,16],rB false,0⟩] [38,39,40,41,42,43,44,45,46,47,48,49,50,51,52,53,54,55,0,3,5,6,8,10,11,12,13] ?_ ?_
         ·refine oq (AI Bp Aa CC Aa Aa) (of (Bq (i:=0) CP Aa Aa Aa) (oq (Bs Aa Aa) (oq (A8 Aa) (on hi (oq (A8 Aa) (on hi (of (CT (k:=3) Aa (C0 hk) Aa Aa) (on hi (of (GU (k:=3) Kq Aa JP Aa (C0 hk) Aa Aa Aa) (on hi (of (Kg (enc:=AF) (ys:=he) (i:=3) (j:=(he.length:Int)-1) W1 Aa Aa hk Aa) (on hi (oq (A8 Aa) (oz hl (oz hl (oz hl (oz hl (oz hl (oz hl (oz hl (on hi (oq (Az (b:=(At he ((he.length:Int)-1)).fStarted) Aa hl Aa) (oq (Az Aa hi Aa) ?_)))))))))))))))))))))));exact C7
         exact BH (And.intro hi hl)
      refine cz gb Aa (λgc gd=>?_) (λgc ge=>?_)
      ·refine Ao (E1 (H1:=[.blk hg (Ac (At v hb)) 54,.blk b2 (AZ ha) 86,.blk b1 (AZ ha) 86,.row hf 118 5 (A1 AF he)]) [3,5] [⟨[],Bw (AZ ha),1⟩,⟨[],Ai 0,0⟩,⟨[0],rv undef,2⟩,⟨[],rB false,0⟩] (rle [(3,_),(2,[.blk hg (Ac (At v hb)) 54,.blk b2 (AZ ha) 86,.blk b1 (AZ ha) 86,.row hf 118 5 (A1 AF he)])]) [2,4,3] ?_ ?_)
       ·refine of (AM (i:=1) Qh I8 Aa Aa Aa Aa) (oq (AC Aa) (Hg Aa (LB (C6 (i:=2) I8 Aa Aa Aa (B3.c Aa) Aa Aa (cs':=[Ai ha.fDepth,Ai ha.fBytes,rB ha.fOutside,rB ha.fLong]) Aa (H':=[.blk hg (Ac (At v hb)) 54,.blk b2 (AZ ha) 86,.blk b1 (AZ ha) 86,.row hf 118 5 (A1 AF he)]) Aa)) ?_));refine oq (AC Aa) ?_;exact C7
       refine A9 (Ar (Ae (Ae (Au (Ae (Ae (AU ?_)))))));have gf:=Bm gd hy hz;refine Au (Ae (Mj ?_));obtain rfl:=Ap gf;exact Aq (r_3 WA (A5 Aa) (Dy (i:=2) Qh I8 Aa Aa Aa) (A5 Aa)) (sS (sS (sS (sS sN)))) ⟨Aa,Aa⟩
      ·refine As (A9 (Ah (wm Aa (wm Aa (wm Aa (vF Bp Aa CX (vL 0 Dm Aa (wv (r:=rv (HE 5 hf (B8 ((he.length:Int)-1)) 0)) (CT (k:=3) Aa (C0 hk) Aa Aa) (wv (r:=rv (HE 5 hf (B8 ((he.length:Int)-1)) 3)) (GU (k:=3) Kq Aa CX Aa (C0 hk) Aa Aa Aa) (KD (enc:=AF) (ys:=he) (y':=(AH.mk ((At he ((he.length:Int)-1)).fPairs) ((At he ((he.length:Int)-1)).fLeft) ((At he ((he.length:Int)-1)).fKey) ((At v hb).fStr) ((At he ((he.length:Int)-1)).fStarted))) (i:=3) (j:=(he.length:Int)-1) CX Aa Aa (BU Aa) Aa hk Aa Aa (H':=[.blk hg (Ac (At v hb)) 54,.blk b2 (AZ ha) 86,.blk b1 [Ai 0,Ai 0,rB false,rB false] 86,.row hf 118 5 (A1 AF (List.set he (B8 ((he.length:Int)-1)) (AH.mk ((At he ((he.length:Int)-1)).fPairs) ((At he ((he.length:Int)-1)).fLeft) ((At he ((he.length:Int)-1)).fKey) ((At v hb).fStr) ((At he ((he.length:Int)-1)).fStarted))))]) Aa (bd ge λhs hw gg=>?_)))))))))));rw[← hw];refine wv (r:=rv (HE 5 hf (B8 ((he.length:Int)-1)) 0)) (CT (k:=3) Aa (C0 (DD hk hw)) Aa Aa) (wv (r:=rv (HE 5 hf (B8 ((he.length:Int)-1)) 4)) (GU (k:=3) Kq Aa JP Aa (C0 (DD hk hw)) Aa Aa Aa) (KD (enc:=AF) (ys:=hs) (y':=(AH.mk ((At hs ((he.length:Int)-1)).fPairs) ((At hs ((he.length:Int)-1)).fLeft) ((At hs ((he.length:Int)-1)).fKey) ((At hs ((he.length:Int)-1)).fLast) true)) (i:=3) (j:=(he.length:Int)-1) JP Aa Aa (BU Aa) Aa (DD hk hw) Aa Aa (H':=[.blk hg (Ac (At v hb)) 54,.blk b2 (AZ ha) 86,.blk b1 [Ai 0,Ai 0,rB false,rB false] 86,.row hf 118 5 (A1 AF (List.set hs (B8 ((he.length:Int)-1)) (AH.mk ((At hs ((he.length:Int)-1)).fPairs) ((At hs ((he.length:Int)-1)).fLeft) ((At hs ((he.length:Int)-1)).fKey) ((At hs ((he.length:Int)-1)).fLast) true)))]) Aa (bd gg λht h2 gh=>?_)));rw[← h2];refine wv (r:=rv (HE 5 hf (B8 ((he.length:Int)-1)) 0)) (CT (k:=3) Aa (C0 (DD (DD hk hw) h2)) Aa Aa) (wv (r:=rv (HE 5 hf (B8 ((he.length:Int)-1)) 2)) (GU (k:=3) Kq Aa JP Aa (C0 (DD (DD hk hw) h2)) Aa Aa Aa) (KD (enc:=AF) (ys:=ht) (y':=(AH.mk ((At ht ((he.length:Int)-1)).fPairs) ((At ht ((he.length:Int)-1)).fLeft) false ((At ht ((he.length:Int)-1)).fLast) ((At ht ((he.length:Int)-1)).fStarted))) (i:=3) (j:=(he.length:Int)-1) JP Aa Aa (BU Aa) Aa (DD (DD hk hw) h2) Aa Aa (H':=[.blk hg (Ac (At v hb)) 54,.blk b2 (AZ ha) 86,.blk b1 [Ai 0,Ai 0,rB false,rB false] 86,.row hf 118 5 (A1 AF (List.set ht (B8 ((he.length:Int)-1)) (AH.mk ((At ht ((he.length:Int)-1)).fPairs) ((At ht ((he.length:Int)-1)).fLeft) false ((At ht ((he.length:Int)-1)).fLast) ((At ht ((he.length:Int)-1)).fStarted))))]) Aa (bd gh λhu gi gj=>?_)));rw[← gi];refine An (Ao (ob gj λhm gl gm=>ck gm λgp gq=>E1 (H1:=[.blk hg (Ac (At v hb)) 54,.blk b2 [Ai ha.fDepth,Ai (IntKind.wrap .i64 (ha.fBytes+(hm+1))),rB ha.fOutside,rB ha.fLong] 86,.blk b1 [Ai 0,Ai 0,rB false,rB false] 86,.row hf 118 5 (A1 AF hu)]) [0,3,5,6,8,11,12,13,38,39,40,41] [⟨[],rP b2 1,0⟩,⟨[0],Ai ha.fBytes,1⟩,⟨[],rP hg 2,0⟩,⟨[2],rS ((At v hb).fStr),1⟩,⟨[3],Ai hm,0⟩,⟨[4],Ai (hm+1),0⟩,⟨[1,5],Ai (IntKind.wrap .i64 (ha.fBytes+(hm+1))),0⟩,⟨[],rP b2 1,0⟩,⟨[7,6],rv undef,2⟩] (rle [(9,_),(1,[.blk hg (Ac (At v hb)) 54,.blk b2 [Ai ha.fDepth,Ai (IntKind.wrap .i64 (ha.fBytes+(hm+1))),rB ha.fOutside,rB ha.fLong] 86,.blk b1 [Ai 0,Ai 0,rB false,rB false] 86,.row hf 118 5 (A1 AF hu)])]) [68,69,70,71,72,73,74,75,0,3,5,6,8,11,12,13,38,39,40,41] ?_ ?_))
       ·refine oq (AI Jn Aa BL Aa Aa) (of (Bq (i:=1) Cc Aa Aa Aa) (oq (AI Bp Aa CX Aa Aa) (of (Bq (i:=0) Dm Aa Aa Aa) (EH Aa (λH=>Ea Tryz.call102 (Qz ((At v hb).fStr) hm gl) Aa) ?_))));refine oq (Bh Aa Aa gp) (oq (TU Aa Aa) (oq (AI Jn Aa BL Aa Aa) (Hg Aa (LB (L8 (i:=1) BL Aa Aa (BU Aa) Aa Aa (cs':=[Ai ha.fDepth,Ai (IntKind.wrap .i64 (ha.fBytes+(hm+1))),rB ha.fOutside,rB ha.fLong]) Aa (H':=[.blk hg (Ac (At v hb)) 54,.blk b2 [Ai ha.fDepth,Ai (IntKind.wrap .i64 (ha.fBytes+(hm+1))),rB ha.fOutside,rB ha.fLong] 86,.blk b1 [Ai 0,Ai 0,rB false,rB false] 86,.row hf 118 5 (A1 AF hu)]) Aa)) ?_)));exact C7
       refine A9 (AE [(0,AB 4 (A1 Ac v)),(3,rP b1 0),(5,rP b2 0),(6,rv hf),(11,AB 4 (A1 Ac v)),(12,Ai (v.length:Int)),(13,Ai hb),(38,rP hg 0),(39,Ai ((At v hb).fKind)),(40,rB (!decide (((At v hb).fKind)=4))),(41,rB (!decide (((At v hb).fKind)=4))),(68,rP b2 1),(69,Ai ha.fBytes),(70,rP hg 2),(71,rS ((At v hb).fStr)),(72,Ai hm),(73,Ai (hm+1)),(74,Ai (IntKind.wrap .i64 (ha.fBytes+(hm+1)))),(75,rP b2 1)] [.blk hg (Ac (At v hb)) 54,.blk b2 [Ai ha.fDepth,Ai (IntKind.wrap .i64 (ha.fBytes+(hm+1))),rB ha.fOutside,rB (ha.fLong||(decide (200<(((At v hb).fStr).length:Int))))] 86,.blk b1 [Ai 0,Ai 0,rB false,rB false] 86,.row hf 118 5 (A1 AF hu)] ?_ ?_)
       ·refine Al (vF Jn Aa JP (vL 1 W1 Aa (wm Aa (AP (ha.fLong) (λhp=>?_) (λhp=>?_)))))
        ·refine wf hp (wf hp (wf hp (wf hp (wv (r:=rB true) (Aw rfl hp rfl) (vF Jn rfl JP (B5 (i:=1) JP rfl rfl (BU rfl) rfl rfl (cs':=[Ai ha.fDepth,Ai (IntKind.wrap .i64 (ha.fBytes+(hm+1))),rB ha.fOutside,rB true]) rfl (H':=[.blk hg (Ac (At v hb)) 54,.blk b2 [Ai ha.fDepth,Ai (IntKind.wrap .i64 (ha.fBytes+(hm+1))),rB ha.fOutside,rB true] 86,.blk b1 [Ai 0,Ai 0,rB false,rB false] 86,.row hf 118 5 (A1 AF hu)]) rfl (Ak (JS (H':=[.blk hg (Ac (At v hb)) 54,.blk b2 [Ai ha.fDepth,Ai (IntKind.wrap .i64 (ha.fBytes+(hm+1))),rB ha.fOutside,rB (ha.fLong||(decide (200<(((At v hb).fStr).length:Int))))] 86,.blk b1 [Ai 0,Ai 0,rB false,rB false] 86,.row hf 118 5 (A1 AF hu)]) (by simp only[hp,AcY,Adm,Adu,Ade,Adn,Adj,Adv,Ado,AcU,Adi,AcO,AcJ]) ?_))))))));exact wt
        ·refine wo hp (vF Bp rfl CX (wo hp (vL 0 Dm rfl (wo hp (wv (BJ Di rfl) (wo hp (wv (CD rfl rfl) (Cs rfl hp rfl (vF Jn rfl JP (B5 (i:=1) JP rfl rfl (BU rfl) rfl rfl (cs':=[Ai ha.fDepth,Ai (IntKind.wrap .i64 (ha.fBytes+(hm+1))),rB ha.fOutside,rB (decide (200<(((At v hb).fStr).length:Int)))]) rfl (H':=[.blk hg (Ac (At v hb)) 54,.blk b2 [Ai ha.fDepth,Ai (IntKind.wrap .i64 (ha.fBytes+(hm+1))),rB ha.fOutside,rB (decide (200<(((At v hb).fStr).length:Int)))] 86,.blk b1 [Ai 0,Ai 0,rB false,rB false] 86,.row hf 118 5 (A1 AF hu)]) rfl (Ak (JS (H':=[.blk hg (Ac (At v hb)) 54,.blk b2 [Ai ha.fDepth,Ai (IntKind.wrap .i64 (ha.fBytes+(hm+1))),rB ha.fOutside,rB (ha.fLong||(decide (200<(((At v hb).fStr).length:Int))))] 86,.blk b1 [Ai 0,Ai 0,rB false,rB false] 86,.row hf 118 5 (A1 AF hu)]) (by simp only[hp,AcY,Adm,Adu,Ade,Adn,Adj,Adv,Ado,AcU,Adi,AcO,AcJ]) ?_))))))))))));exact wt
       exact Bt (Ay (Bf (Ax (Av ((hu,(AV.mk ha.fDepth (IntKind.wrap .i64 (ha.fBytes+(hm+1))) ha.fOutside (ha.fLong||(decide (200<(((At v hb).fStr).length:Int)))))),hf) gq (A4.c Aa (A4.c Aa (A4.c5 Aa Aa Aa Aa Aa A4.nil))) (sS (sC (sC (sC sN))))))))
     ·refine As (A9 (Ah (vF Jn Aa BL (vL 1 Cc Aa (wm Aa (wv (Gk (ys:=he) (enc:=AF) (i:=3) Kr Aa Aa) (ck hY λgr gs=>wv (Bh Aa Aa gr) (wv (XE yu3 Aa Aa) (vF Jn Aa BL (B5 (i:=1) BL Aa Aa (BU Aa) Aa Aa (cs':=[Ai (max ha.fDepth ((he.length:Int)+1)),Ai ha.fBytes,rB ha.fOutside,rB ha.fLong]) Aa (H':=[.blk hg (Ac (At v hb)) 54,.blk b2 [Ai (max ha.fDepth ((he.length:Int)+1)),Ai ha.fBytes,rB ha.fOutside,rB ha.fLong] 86,.blk b1 [Ai 0,Ai 0,rB false,rB false] 86,.row hf 118 5 (A1 AF he)]) Aa (An (Ao (ob gs λhh gt gu=>E1 (H1:=[.blk hg (Ac (At v hb)) 54,.blk b2 [Ai (max ha.fDepth ((he.length:Int)+1)),Ai (IntKind.wrap .i64 (ha.fBytes+hh)),rB ha.fOutside,rB ha.fLong] 86,.blk b1 [Ai 0,Ai 0,rB false,rB false] 86,.row hf 118 5 (A1 AF he)]) [0,3,5,6,7,8,11,12,13] [⟨[],rP b2 1,0⟩,⟨[0],Ai ha.fBytes,1⟩,⟨[],Bw (Ac (At v hb)),1⟩,⟨[2],Ai hh,0⟩,⟨[1,3],Ai (IntKind.wrap .i64 (ha.fBytes+hh)),0⟩,⟨[],rP b2 1,0⟩,⟨[5,4],rv undef,2⟩] (rle [(7,_),(1,[.blk hg (Ac (At v hb)) 54,.blk b2 [Ai (max ha.fDepth ((he.length:Int)+1)),Ai (IntKind.wrap .i64 (ha.fBytes+hh)),rB ha.fOutside,rB ha.fLong] 86,.blk b1 [Ai 0,Ai 0,rB false,rB false] 86,.row hf 118 5 (A1 AF he)])]) [92,93,94,95,96,97,0,3,5,6,7,8,11,12,13] ?_ ?_)))))))))))))
      ·refine oq (AI Jn Aa BL Aa Aa) (of (Bq (i:=1) Cc Aa Aa Aa) (of (AM (i:=0) LA Bx Aa Aa Aa Aa) (EH Aa (λH=>Ea Tryz.call103 (Zd (At v hb) hh gt) Aa) ?_)));refine oq (TU Aa Aa) (oq (AI Jn Aa BL Aa Aa) (Hg Aa (LB (L8 (i:=1) BL Aa Aa (BU Aa) Aa Aa (cs':=[Ai (max ha.fDepth ((he.length:Int)+1)),Ai (IntKind.wrap .i64 (ha.fBytes+hh)),rB ha.fOutside,rB ha.fLong]) Aa (H':=[.blk hg (Ac (At v hb)) 54,.blk b2 [Ai (max ha.fDepth ((he.length:Int)+1)),Ai (IntKind.wrap .i64 (ha.fBytes+hh)),rB ha.fOutside,rB ha.fLong] 86,.blk b1 [Ai 0,Ai 0,rB false,rB false] 86,.row hf 118 5 (A1 AF he)]) Aa)) ?_));exact C7
      refine A9 (ck gu λgv gw=>AE [(0,AB 4 (A1 Ac v)),(3,rP b1 0),(5,rP b2 0),(6,rv hf),(7,Ai hb),(8,rP hg 0),(11,AB 4 (A1 Ac v)),(12,Ai (v.length:Int)),(13,Ai hb),(92,rP b2 1),(93,Ai ha.fBytes),(94,Bw (Ac (At v hb))),(95,Ai hh),(96,Ai (IntKind.wrap .i64 (ha.fBytes+hh))),(97,rP b2 1)] [.blk hg (Ac (At v hb)) 54,.blk b2 [Ai (max ha.fDepth ((he.length:Int)+1)),Ai (IntKind.wrap .i64 (ha.fBytes+hh)),rB (ha.fOutside||((decide (((At v hb).fKind)=3))&&(!(ov (BE ((At v hb).fInt)))))),rB ha.fLong] 86,.blk b1 [Ai 0,Ai 0,rB false,rB false] 86,.row hf 118 5 (A1 AF he)] ?_ ?_)
      ·refine Al (vF Jn Aa JP (vL 1 W1 Aa (wm Aa (AP (ha.fOutside) (λhn=>?_) (λhn=>?_)))))
       ·refine wf hn (wf hn (wf hn (wf hn (wu (wu (wu (wu (wf hn (wv (r:=rB true) (Aw rfl hn rfl) (vF Jn rfl JP (B5 (i:=1) JP rfl rfl (BU rfl) rfl rfl (cs':=[Ai (max ha.fDepth ((he.length:Int)+1)),Ai (IntKind.wrap .i64 (ha.fBytes+hh)),rB true,rB ha.fLong]) rfl (H':=[.blk hg (Ac (At v hb)) 54,.blk b2 [Ai (max ha.fDepth ((he.length:Int)+1)),Ai (IntKind.wrap .i64 (ha.fBytes+hh)),rB true,rB ha.fLong] 86,.blk b1 [Ai 0,Ai 0,rB false,rB false] 86,.row hf 118 5 (A1 AF he)]) rfl (Ak (JS (H':=[.blk hg (Ac (At v hb)) 54,.blk b2 [Ai (max ha.fDepth ((he.length:Int)+1)),Ai (IntKind.wrap .i64 (ha.fBytes+hh)),rB (ha.fOutside||((decide (((At v hb).fKind)=3))&&(!(ov (BE ((At v hb).fInt)))))),rB ha.fLong] 86,.blk b1 [Ai 0,Ai 0,rB false,rB false] 86,.row hf 118 5 (A1 AF he)]) (by simp only[hn,AcY,Adm,Adu,Ade,Adn,Adj,Adv,Ado,AcU,Adi,AcO,AcJ]) ?_)))))))))))));exact wt
       ·refine wo hn (vF Bp Aa CC (wo hn (vL 0 CP Aa (wo hn (wv (Bj Aa Aa) (wo hn (wm Aa (AP (decide (((At v hb).fKind)=3)) (λho=>?_) (λho=>?_)))))))))
        ·refine wo ho (vF Bp rfl BL (wo ho (vL 0 Cc rfl (wo ho (BI Tryz.call31 (Pz ((At v hb).fInt) (ov (BE ((At v hb).fInt))) (DY (Cr (BR gv hn) ho))) rfl (wo ho (wv (B7 rfl) (wo hn (C3 rfl ho rfl (Cs rfl hn rfl (vF Jn rfl JP (B5 (i:=1) JP rfl rfl (BU rfl) rfl rfl (cs':=[Ai (max ha.fDepth ((he.length:Int)+1)),Ai (IntKind.wrap .i64 (ha.fBytes+hh)),rB (!(ov (BE ((At v hb).fInt)))),rB ha.fLong]) rfl (H':=[.blk hg (Ac (At v hb)) 54,.blk b2 [Ai (max ha.fDepth ((he.length:Int)+1)),Ai (IntKind.wrap .i64 (ha.fBytes+hh)),rB (!(ov (BE ((At v hb).fInt)))),rB ha.fLong] 86,.blk b1 [Ai 0,Ai 0,rB false,rB false] 86,.row hf 118 5 (A1 AF he)]) rfl (Ak (JS (H':=[.blk hg (Ac (At v hb)) 54,.blk b2 [Ai (max ha.fDepth ((he.length:Int)+1)),Ai (IntKind.wrap .i64 (ha.fBytes+hh)),rB (ha.fOutside||((decide (((At v hb).fKind)=3))&&(!(ov (BE ((At v hb).fInt)))))),rB ha.fLong] 86,.blk b1 [Ai 0,Ai 0,rB false,rB false] 86,.row hf 118 5 (A1 AF he)]) (by simp only[hn,ho,AcY,Adm,Adu,Ade,Adn,Adj,Adv,Ado,AcU,Adi,AcO,AcJ]) ?_))))))))))))));exact wt
        ·refine wf ho (wf ho (wf ho (wf ho (wo hn (wv (r:=rB false) (Az rfl ho rfl) (Cs rfl hn rfl (vF Jn rfl JP (B5 (i:=1) JP rfl rfl (BU rfl) rfl rfl (cs':=[Ai (max ha.fDepth ((he.length:Int)+1)),Ai (IntKind.wrap .i64 (ha.fBytes+hh)),rB false,rB ha.fLong]) rfl (H':=[.blk hg (Ac (At v hb)) 54,.blk b2 [Ai (max ha.fDepth ((he.length:Int)+1)),Ai (IntKind.wrap .i64 (ha.fBytes+hh)),rB false,rB ha.fLong] 86,.blk b1 [Ai 0,Ai 0,rB false,rB false] 86,.row hf 118 5 (A1 AF he)]) rfl (Ak (JS (H':=[.blk hg (Ac (At v hb)) 54,.blk b2 [Ai (max ha.fDepth ((he.length:Int)+1)),Ai (IntKind.wrap .i64 (ha.fBytes+hh)),rB (ha.fOutside||((decide (((At v hb).fKind)=3))&&(!(ov (BE ((At v hb).fInt)))))),rB ha.fLong] 86,.blk b1 [Ai 0,Ai 0,rB false,rB false] 86,.row hf 118 5 (A1 AF he)]) (by simp only[hn,ho,AcY,Adm,Adu,Ade,Adn,Adj,Adv,Ado,AcU,Adi,AcO,AcJ]) ?_))))))))));exact wt
      refine AE [(0,AB 4 (A1 Ac v)),(3,rP b1 0),(5,rP b2 0),(6,rv hf),(7,Ai hb),(8,rP hg 0),(11,AB 4 (A1 Ac v)),(12,Ai (v.length:Int)),(13,Ai hb),(92,rP b2 1),(93,Ai ha.fBytes),(94,Bw (Ac (At v hb))),(95,Ai hh),(96,Ai (IntKind.wrap .i64 (ha.fBytes+hh))),(97,rP b2 1)] [.blk hg (Ac (At v hb)) 54,.blk b2 [Ai (max ha.fDepth ((he.length:Int)+1)),Ai (IntKind.wrap .i64 (ha.fBytes+hh)),rB (ha.fOutside||((decide (((At v hb).fKind)=3))&&(!(ov (BE ((At v hb).fInt)))))),rB (ha.fLong||(decide (200<(((At v hb).fStr).length:Int))))] 86,.blk b1 [Ai 0,Ai 0,rB false,rB false] 86,.row hf 118 5 (A1 AF he)] ?_ ?_
      ·refine Al (vF Jn Aa JP (vL 1 W1 Aa (wm Aa (AP (ha.fLong) (λhq=>?_) (λhq=>?_)))))
       ·refine wf hq (wf hq (wf hq (wf hq (wv (r:=rB true) (Aw rfl hq rfl) (vF Jn rfl JP (B5 (i:=1) JP rfl rfl (BU rfl) rfl rfl (cs':=[Ai (max ha.fDepth ((he.length:Int)+1)),Ai (IntKind.wrap .i64 (ha.fBytes+hh)),rB (ha.fOutside||((decide (((At v hb).fKind)=3))&&(!(ov (BE ((At v hb).fInt)))))),rB true]) rfl (H':=[.blk hg (Ac (At v hb)) 54,.blk b2 [Ai (max ha.fDepth ((he.length:Int)+1)),Ai (IntKind.wrap .i64 (ha.fBytes+hh)),rB (ha.fOutside||((decide (((At v hb).fKind)=3))&&(!(ov (BE ((At v hb).fInt)))))),rB true] 86,.blk b1 [Ai 0,Ai 0,rB false,rB false] 86,.row hf 118 5 (A1 AF he)]) rfl (Ak (JS (H':=[.blk hg (Ac (At v hb)) 54,.blk b2 [Ai (max ha.fDepth ((he.length:Int)+1)),Ai (IntKind.wrap .i64 (ha.fBytes+hh)),rB (ha.fOutside||((decide (((At v hb).fKind)=3))&&(!(ov (BE ((At v hb).fInt)))))),rB (ha.fLong||(decide (200<(((At v hb).fStr).length:Int))))] 86,.blk b1 [Ai 0,Ai 0,rB false,rB false] 86,.row hf 118 5 (A1 AF he)]) (by simp only[hq,AcY,Adm,Adu,Ade,Adn,Adj,Adv,Ado,AcU,Adi,AcO,AcJ]) ?_))))))));exact wt
       ·refine wo hq (vF Bp rfl CX (wo hq (vL 0 Dm rfl (wo hq (wv (BJ Di rfl) (wo hq (wv (CD rfl rfl) (Cs rfl hq rfl (vF Jn rfl JP (B5 (i:=1) JP rfl rfl (BU rfl) rfl rfl (cs':=[Ai (max ha.fDepth ((he.length:Int)+1)),Ai (IntKind.wrap .i64 (ha.fBytes+hh)),rB (ha.fOutside||((decide (((At v hb).fKind)=3))&&(!(ov (BE ((At v hb).fInt)))))),rB (decide (200<(((At v hb).fStr).length:Int)))]) rfl (H':=[.blk hg (Ac (At v hb)) 54,.blk b2 [Ai (max ha.fDepth ((he.length:Int)+1)),Ai (IntKind.wrap .i64 (ha.fBytes+hh)),rB (ha.fOutside||((decide (((At v hb).fKind)=3))&&(!(ov (BE ((At v hb).fInt)))))),rB (decide (200<(((At v hb).fStr).length:Int)))] 86,.blk b1 [Ai 0,Ai 0,rB false,rB false] 86,.row hf 118 5 (A1 AF he)]) rfl (Ak (JS (H':=[.blk hg (Ac (At v hb)) 54,.blk b2 [Ai (max ha.fDepth ((he.length:Int)+1)),Ai (IntKind.wrap .i64 (ha.fBytes+hh)),rB (ha.fOutside||((decide (((At v hb).fKind)=3))&&(!(ov (BE ((At v hb).fInt)))))),rB (ha.fLong||(decide (200<(((At v hb).fStr).length:Int))))] 86,.blk b1 [Ai 0,Ai 0,rB false,rB false] 86,.row hf 118 5 (A1 AF he)]) (by simp only[hq,AcY,Adm,Adu,Ade,Adn,Adj,Adv,Ado,AcU,Adi,AcO,AcJ]) ?_))))))))))));exact wt
      refine Ao (Ah (vF Bp Aa BL (vL 0 Cc Aa (wv (CD Aa Aa) (An (cz gw Aa (λgx gy=>?_) (λgx gz=>?_)))))))
      ·refine Ao (Ah (vF Bp Aa BL (vL 0 Cc Aa (wm Aa (wv (AW (ys:=v) (enc:=Ac) Br Aa) (wv (CD Aa Aa) (An (cz gy Aa (λg0 g1=>?_) (λg0 g2=>?_)))))))))
       ·refine Ao (E1 (H1:=[.blk hg (Ac (At v hb)) 54,.blk b2 [Ai (max ha.fDepth ((he.length:Int)+1)),Ai (IntKind.wrap .i64 (ha.fBytes+hh)),rB (ha.fOutside||((decide (((At v hb).fKind)=3))&&(!(ov (BE ((At v hb).fInt)))))),rB (ha.fLong||(decide (200<(((At v hb).fStr).length:Int))))] 86,.blk b1 [Ai (max ha.fDepth ((he.length:Int)+1)),Ai (IntKind.wrap .i64 (ha.fBytes+hh)),rB (ha.fOutside||((decide (((At v hb).fKind)=3))&&(!(ov (BE ((At v hb).fInt)))))),rB (ha.fLong||(decide (200<(((At v hb).fStr).length:Int))))] 86,.row hf 118 5 (A1 AF he)]) [3,5] [⟨[],Bw [Ai (max ha.fDepth ((he.length:Int)+1)),Ai (IntKind.wrap .i64 (ha.fBytes+hh)),rB (ha.fOutside||((decide (((At v hb).fKind)=3))&&(!(ov (BE ((At v hb).fInt)))))),rB (ha.fLong||(decide (200<(((At v hb).fStr).length:Int))))],1⟩,⟨[],Ai 0,0⟩,⟨[0],rv undef,2⟩,⟨[],rB false,0⟩] (rle [(3,_),(2,[.blk hg (Ac (At v hb)) 54,.blk b2 [Ai (max ha.fDepth ((he.length:Int)+1)),Ai (IntKind.wrap .i64 (ha.fBytes+hh)),rB (ha.fOutside||((decide (((At v hb).fKind)=3))&&(!(ov (BE ((At v hb).fInt)))))),rB (ha.fLong||(decide (200<(((At v hb).fStr).length:Int))))] 86,.blk b1 [Ai (max ha.fDepth ((he.length:Int)+1)),Ai (IntKind.wrap .i64 (ha.fBytes+hh)),rB (ha.fOutside||((decide (((At v hb).fKind)=3))&&(!(ov (BE ((At v hb).fInt)))))),rB (ha.fLong||(decide (200<(((At v hb).fStr).length:Int))))] 86,.row hf 118 5 (A1 AF he)])]) [2,4,3] ?_ ?_)
        ·refine of (AM (i:=1) Qh I8 Aa Aa Aa Aa) (oq (AC Aa) (Hg Aa (LB (C6 (i:=2) I8 Aa Aa Aa (B3.c Aa) Aa Aa (cs':=[Ai (max ha.fDepth ((he.length:Int)+1)),Ai (IntKind.wrap .i64 (ha.fBytes+hh)),rB (ha.fOutside||((decide (((At v hb).fKind)=3))&&(!(ov (BE ((At v hb).fInt)))))),rB (ha.fLong||(decide (200<(((At v hb).fStr).length:Int))))]) Aa (H':=[.blk hg (Ac (At v hb)) 54,.blk b2 [Ai (max ha.fDepth ((he.length:Int)+1)),Ai (IntKind.wrap .i64 (ha.fBytes+hh)),rB (ha.fOutside||((decide (((At v hb).fKind)=3))&&(!(ov (BE ((At v hb).fInt)))))),rB (ha.fLong||(decide (200<(((At v hb).fStr).length:Int))))] 86,.blk b1 [Ai (max ha.fDepth ((he.length:Int)+1)),Ai (IntKind.wrap .i64 (ha.fBytes+hh)),rB (ha.fOutside||((decide (((At v hb).fKind)=3))&&(!(ov (BE ((At v hb).fInt)))))),rB (ha.fLong||(decide (200<(((At v hb).fStr).length:Int))))] 86,.row hf 118 5 (A1 AF he)]) Aa)) ?_));refine oq (AC Aa) ?_;exact C7
        refine A9 (Ar (Ae (Ae (Au (Ae (Ae (AU ?_)))))));have g3:=Bm g1 hy hz;refine Au (Ae (Mj ?_));obtain rfl:=Ap g3;exact Aq (r_3 WA (A5 Aa) (Dy (i:=2) Qh I8 Aa Aa Aa) (A5 Aa)) (sS (sS (sS (sS sN)))) ⟨Aa,Aa⟩
       ·refine As (A9 (Ah (wm Aa (vF Bp Aa CC (vL 0 CP Aa (wv (Bj Aa Aa) (vF Bp Aa BL (vL 0 Cc Aa (vF Bp Aa CC (vL 0 CP Aa (wv (Bj Aa Aa) (wv (r:=Bw [rB (decide (((At v hb).fKind)=6)),Ai ((At v hb).fN),rB (decide (((At v hb).fKind)=6)),rS ([]:Am),rB false]) (N5 Aa Aa Aa Aa Aa Aa) (AN (ys:=([(AH.mk (decide (((At v hb).fKind)=6)) ((At v hb).fN) (decide (((At v hb).fKind)=6)) ([]:Am) false)]:List AH)) (enc:=AF) (css:=[[rB (decide (((At v hb).fKind)=6)),Ai ((At v hb).fN),rB (decide (((At v hb).fKind)=6)),rS ([]:Am),rB false]]) (xs:=[.tmp 139]) Kr RR Tryz.zeroValue118 Aa Aa Aa ⟨Dx.agg ⟨Up.refl _,Up.refl _,Up.refl _,Up.refl _,Up.refl _,trivial⟩,trivial⟩ Aa Ky Aa Aa Aa (λg4=>?_))))))))))))));refine ck g2 λg5 g6=>Exists.elim ZG λinf hinf=>B6 (xs:=he) (ys:=([(AH.mk (decide (((At v hb).fKind)=6)) ((At v hb).fN) (decide (((At v hb).fKind)=6)) ([]:Am) false)]:List AH)) (enc:=AF) (i:=4) Kr hinf.1 hinf.2.1 hinf.2.2.1 hinf.2.2.2 Aa Aa Aa Aa Aa (I7.w (i:=0) Aa Aa) Ky Oy g5 Aa (λhA=>?_);exact wa Aa (An (Bt (Ay (Bf (Cv (H2:=[.blk b2 [Ai (max ha.fDepth ((he.length:Int)+1)),Ai (IntKind.wrap .i64 (ha.fBytes+hh)),rB (ha.fOutside||((decide (((At v hb).fKind)=3))&&(!(ov (BE ((At v hb).fInt)))))),rB (ha.fLong||(decide (200<(((At v hb).fStr).length:Int))))] 86,.blk b1 [Ai 0,Ai 0,rB false,rB false] 86,.row hA 118 5 (A1 AF (he++([(AH.mk (decide (((At v hb).fKind)=6)) ((At v hb).fN) (decide (((At v hb).fKind)=6)) ([]:Am) false)]:List AH))),.row (.slice (some ⟨g4,0,none⟩) 1 1) 118 5 (A1 AF ([(AH.mk (decide (((At v hb).fKind)=6)) ((At v hb).fN) (decide (((At v hb).fKind)=6)) ([]:Am) false)]:List AH)),.blk hg (Ac (At v hb)) 54]) ((A6 (i:=3) Aa).trans (AcQ _ ((A6 (i:=3) Aa).trans (AcQ _ (AcK _))))) (Ax (Av ((he++([(AH.mk (decide (((At v hb).fKind)=6)) ((At v hb).fN) (decide (((At v hb).fKind)=6)) ([]:Am) false)]:List AH),(AV.mk (max ha.fDepth ((he.length:Int)+1)) (IntKind.wrap .i64 (ha.fBytes+hh)) (ha.fOutside||((decide (((At v hb).fKind)=3))&&(!(ov (BE ((At v hb).fInt)))))) (ha.fLong||(decide (200<(((At v hb).fStr).length:Int)))))),hA) g6 (A4.c Aa (A4.c Aa (A4.c5 Aa Aa Aa Aa Aa A4.nil))) (sC (sC (sC (sS (sS sN))))))))))))
      ·refine As (A9 (Ah (wm Aa (ob gz λhx g7 g8=>Gc (Hr:=[.blk hg (Ac (At v hb)) 54,.blk b2 [Ai (max ha.fDepth ((he.length:Int)+1)),Ai (IntKind.wrap .i64 (ha.fBytes+hh)),rB (ha.fOutside||((decide (((At v hb).fKind)=3))&&(!(ov (BE ((At v hb).fInt)))))),rB (ha.fLong||(decide (200<(((At v hb).fStr).length:Int))))] 86,.blk b1 [Ai 0,Ai 0,rB false,rB false] 86]) Tryz.call104 (V6 F hf he hx g7) Aa ((A6 (i:=3) Aa).trans (AcQ _ (AcK _))) Aa ?_))));rintro _ _ ⟨h0,rfl,rfl⟩;refine wa Aa (Bd (wm Aa (wv (Gk (ys:=hx) (enc:=AF) (i:=0) Kr Aa Aa) (wv (Bj Aa Aa) (An (cz g8 Aa (λg9 gA=>?_) (λg9 gB=>?_)))))))
       ·refine Ao (ck gA λgC gD=>E1 (H1:=[.row h0 118 5 (A1 AF hx),.blk hg (Ac (At v hb)) 54,.blk b2 [Ai (max ha.fDepth ((he.length:Int)+1)),Ai (IntKind.wrap .i64 (ha.fBytes+hh)),rB (ha.fOutside||((decide (((At v hb).fKind)=3))&&(!(ov (BE ((At v hb).fInt)))))),rB (ha.fLong||(decide (200<(((At v hb).fStr).length:Int))))] 86,.blk b1 [Ai (max ha.fDepth ((he.length:Int)+1)),Ai (IntKind.wrap .i64 (ha.fBytes+hh)),rB (ha.fOutside||((decide (((At v hb).fKind)=3))&&(!(ov (BE ((At v hb).fInt)))))),rB (ha.fLong||(decide (200<(((At v hb).fStr).length:Int))))] 86]) [3,5,7] [⟨[],Ai hb,0⟩,⟨[0],Ai (hb+1),0⟩,⟨[],Bw [Ai (max ha.fDepth ((he.length:Int)+1)),Ai (IntKind.wrap .i64 (ha.fBytes+hh)),rB (ha.fOutside||((decide (((At v hb).fKind)=3))&&(!(ov (BE ((At v hb).fInt)))))),rB (ha.fLong||(decide (200<(((At v hb).fStr).length:Int))))],1⟩,⟨[1],Ai (hb+1),0⟩,⟨[2],rv undef,2⟩,⟨[],rB true,0⟩] (rle [(5,_),(2,[.row h0 118 5 (A1 AF hx),.blk hg (Ac (At v hb)) 54,.blk b2 [Ai (max ha.fDepth ((he.length:Int)+1)),Ai (IntKind.wrap .i64 (ha.fBytes+hh)),rB (ha.fOutside||((decide (((At v hb).fKind)=3))&&(!(ov (BE ((At v hb).fInt)))))),rB (ha.fLong||(decide (200<(((At v hb).fStr).length:Int))))] 86,.blk b1 [Ai (max ha.fDepth ((he.length:Int)+1)),Ai (IntKind.wrap .i64 (ha.fBytes+hh)),rB (ha.fOutside||((decide (((At v hb).fKind)=3))&&(!(ov (BE ((At v hb).fInt)))))),rB (ha.fLong||(decide (200<(((At v hb).fStr).length:Int))))] 86])]) [2,4,3] ?_ ?_)
        ·refine oq (A8 Aa) (oq (Bh Aa Aa gC) (of (AM (i:=2) Qh I8 Aa Aa Aa Aa) (oq (AC Aa) (Hg Aa (LB (C6 (i:=3) I8 Aa Aa Aa (B3.c Aa) Aa Aa (cs':=[Ai (max ha.fDepth ((he.length:Int)+1)),Ai (IntKind.wrap .i64 (ha.fBytes+hh)),rB (ha.fOutside||((decide (((At v hb).fKind)=3))&&(!(ov (BE ((At v hb).fInt)))))),rB (ha.fLong||(decide (200<(((At v hb).fStr).length:Int))))]) Aa (H':=[.row h0 118 5 (A1 AF hx),.blk hg (Ac (At v hb)) 54,.blk b2 [Ai (max ha.fDepth ((he.length:Int)+1)),Ai (IntKind.wrap .i64 (ha.fBytes+hh)),rB (ha.fOutside||((decide (((At v hb).fKind)=3))&&(!(ov (BE ((At v hb).fInt)))))),rB (ha.fLong||(decide (200<(((At v hb).fStr).length:Int))))] 86,.blk b1 [Ai (max ha.fDepth ((he.length:Int)+1)),Ai (IntKind.wrap .i64 (ha.fBytes+hh)),rB (ha.fOutside||((decide (((At v hb).fKind)=3))&&(!(ov (BE ((At v hb).fInt)))))),rB (ha.fLong||(decide (200<(((At v hb).fStr).length:Int))))] 86]) Aa)) ?_))));refine oq (AC Aa) ?_;exact C7
        refine A9 (Ar (Au (Ae (Ae (AU ?_)))));have gE:=Bm gD hy hz;refine Au (Ae (Mj ?_));obtain rfl:=Ap gE;exact Aq (r_3 WA (A5 Aa) (Dy (i:=3) Qh I8 Aa Aa Aa) (A5 Aa)) (sS (sS (sS (sS sN)))) ⟨Aa,Aa⟩
       ·exact As (A7 (Cv (H2:=[.blk b2 [Ai (max ha.fDepth ((he.length:Int)+1)),Ai (IntKind.wrap .i64 (ha.fBytes+hh)),rB (ha.fOutside||((decide (((At v hb).fKind)=3))&&(!(ov (BE ((At v hb).fInt)))))),rB (ha.fLong||(decide (200<(((At v hb).fStr).length:Int))))] 86,.blk b1 [Ai 0,Ai 0,rB false,rB false] 86,.row h0 118 5 (A1 AF hx),.blk hg (Ac (At v hb)) 54]) ((A6 (i:=2) Aa).trans (AcQ _ ((A6 (i:=2) Aa).trans (AcQ _ (AcK _))))) (Ax (Av ((hx,(AV.mk (max ha.fDepth ((he.length:Int)+1)) (IntKind.wrap .i64 (ha.fBytes+hh)) (ha.fOutside||((decide (((At v hb).fKind)=3))&&(!(ov (BE ((At v hb).fInt)))))) (ha.fLong||(decide (200<(((At v hb).fStr).length:Int)))))),h0) gB (A4.c Aa (A4.c Aa (A4.c5 Aa Aa Aa Aa Aa A4.nil))) (sC (sC (sC (sS sN))))))))
   ·rintro⟨⟨h7,h8⟩,h9⟩ h3;refine BC (l':=[(0,AB 4 (A1 Ac v)),(3,rP b1 0),(5,rP b2 0),(6,rv h9),(11,AB 4 (A1 Ac v)),(12,Ai (v.length:Int)),(13,Ai hb)]) (H':=[.blk b2 (AZ h8) 86,.blk b1 [Ai 0,Ai 0,rB false,rB false] 86,.row h9 118 5 (A1 AF h7)]) Aa Aa ?_;replace h3:Gg hb h7 h8=some h5:=h3;unfold Gg at h3;refine Al (ck h3 λgF gG=>wv (Bh Aa Aa gF) (wm Aa (Ak ?_)));have gH:=AY gG hy;exact Ax (Av (hE,(h7,hb+1,h8),h9) ⟨gH,AcR _⟩ (A4.c Aa (A4.c Aa (A4.c5 Aa Aa Aa Aa Aa A4.nil))) (sC (sC (sC sN))))
  ·refine Bt (Ay ?_);have gI:=BD hI hy hz;exact Ay (Bb (Av (ha,()) gI (A4.c Aa (A4.c Aa A4.nil)) (sC (sC (sS sN)))))
 ·rintro⟨hr,⟨⟩⟩ h4;refine Ci (l':=[(3,rP b1 0),(5,rP b2 0)]) (H':=[.blk b2 (AZ hr) 86,.blk b1 [Ai 0,Ai 0,rB false,rB false] 86]) Aa Aa ?_;replace h4:Ms hr=some r:=h4;unfold Ms at h4;refine Bf (A9 (Ao (E1 (H1:=[.blk b2 (AZ hr) 86,.blk b1 (AZ hr) 86]) [3,5] [⟨[],Bw (AZ hr),1⟩,⟨[],Ai 0,0⟩,⟨[0],rv undef,2⟩,⟨[],rB false,0⟩] (rle [(3,_),(2,[.blk b2 (AZ hr) 86,.blk b1 (AZ hr) 86])]) [2,4,3] ?_ ?_)))
  ·refine of (AM (i:=0) Qh I8 Aa Aa Aa Aa) (oq (AC Aa) (Hg Aa (LB (C6 (i:=1) I8 Aa Aa Aa (B3.c Aa) Aa Aa (cs':=[Ai hr.fDepth,Ai hr.fBytes,rB hr.fOutside,rB hr.fLong]) Aa (H':=[.blk b2 (AZ hr) 86,.blk b1 (AZ hr) 86]) Aa)) ?_));refine oq (AC Aa) ?_;exact C7
  refine A9 (Ar (Mj ?_));obtain rfl:=Ap h4;exact Aq (r_3 WA (A5 Aa) (Dy (i:=1) Qh I8 Aa Aa Aa) (A5 Aa)) (sS (sS sN)) ⟨Aa,Aa⟩
theorem Gi (F:Nat)(v:(List Ab))(r:Int)(h:Es F v=some r):Fn Tryz.prog GE 30 [AB 4 (A1 Ac v)] [] (λR H=>R=Ai r∧H=[]):=by
 refine enter (n:=42) Tryz.func30 Aa Tryz.ntmps30 Aa (λw Z=>?_);unfold Es at h;refine Ah (wa Aa (Bd (wm Aa (ob h λr1 e3 h2=>BI T3 (JV F v r1 e3) Aa (wm Aa (wv (A0 Aa Aa) (wv (A0 Aa Aa) (wv (A0 Aa Aa) (Cg (cs:=[Ai 0,Ai 0,rB false,rB false]) Rb Aa Aa (λb4=>?_))))))))));refine wa Aa (Bg (i:=0) I8 Aa Aa Aa (B3.c Aa) Aa Aa (cs':=[Ai r1.2.1.fDepth,Ai r1.2.1.fBytes,rB r1.2.1.fOutside,rB r1.2.1.fLong]) Aa (H':=[.blk b4 (AZ r1.2.1) 86]) Aa (wa Aa (An (Ao (AA (AE [(0,AB 4 (A1 Ac v)),(4,rP b4 0),(12,rB ((!r1.2.2)||(!decide (r1.1=(v.length:Int)))))] [.blk b4 (AZ r1.2.1) 86] ?_ ?_))))))
 ·refine Al (wm Aa (wv (B7 Aa) (wm Aa (AP (!r1.2.2) (λc5=>?_) (λc5=>?_)))))
  ·refine wf c5 (wf c5 (wf c5 (wf c5 (wv (r:=rB true) (Aw Aa c5 Aa) (wa Aa (Ak ?_))))));exact BH c5
  ·refine wo c5 (wm Aa (wo c5 (wm Aa (wo c5 (wv (AW (ys:=v) (enc:=Ac) Br Aa) (wo c5 (wv (Bs Aa Aa) (Cs Aa c5 Aa (wa Aa (Ak ?_))))))))));exact BH c5
 refine cz h2 Aa (λc6 h7=>?_) (λc6 h8=>?_)
 ·refine Ah (wa Aa (An (Ar (Au (Ae ?_)))));obtain rfl:=Ap h7;exact Aq (B2 YZ (A5 Aa)) (sS sN) ⟨Aa,Aa⟩
 ·refine Ah (vF Jn Aa JP (vL 0 W1 Aa (wa Aa (An (cz h8 Aa (λc9 hf=>?_) (λc9 hg=>?_))))))
  ·refine Ah (wa Aa (An (Ar (Au (Ae ?_)))));obtain rfl:=Ap hf;exact Aq (B2 YZ (A5 Aa)) (sS sN) ⟨Aa,Aa⟩
  ·refine AE [(24,rB (r1.2.1.fLong||((decide (200<(v.length:Int)))||((decide (8<r1.2.1.fDepth))||(decide (4000<r1.2.1.fBytes))))))] [] ?_ ?_
   ·refine Al (vF Jn Aa JP (vL 0 W1 Aa (wm Aa (AP (r1.2.1.fLong) (λha=>?_) (λha=>?_)))))
    ·refine wf ha (wf ha (wf ha (wv (r:=rB true) (Aw Aa ha Aa) (wm Aa (wz Aa Aa (wz Aa Aa (wz Aa Aa (wv (r:=rB true) (Aw (b:=true) Aa Aa Aa) (wm Aa (wz Aa Aa (wz Aa Aa (wz Aa Aa (wv (r:=rB true) (Aw (b:=true) Aa Aa Aa) (wa Aa (Ak ?_)))))))))))))));exact BH ha
    ·refine wo ha (wm Aa (wo ha (wv (AW (ys:=v) (enc:=Ac) Br Aa) (wo ha (wv (CD Aa Aa) (Cs Aa ha Aa (wm Aa (AP (decide (200<(v.length:Int))) (λhb=>?_) (λhb=>?_)))))))))
     ·refine wf hb (wf hb (wf hb (wv (r:=rB true) (Aw Aa hb Aa) (wm Aa (wz Aa Aa (wz Aa Aa (wz Aa Aa (wv (r:=rB true) (Aw (b:=true) Aa Aa Aa) (wa Aa (Ak ?_))))))))));exact BH (And.intro ha hb)
     ·refine wo hb (vF Jn Aa BL (wo hb (vL 0 Cc Aa (wo hb (wv (CD Aa Aa) (Cs Aa hb Aa (wm Aa (AP (decide (8<r1.2.1.fDepth)) (λhe=>?_) (λhe=>?_)))))))))
      ·refine wf he (wf he (wf he (wv (r:=rB true) (Aw Aa he Aa) (wa Aa (Ak ?_)))));exact BH (And.intro ha (And.intro hb he))
      ·refine wo he (vF Jn Aa BL (wo he (vL 0 Cc Aa (wo he (wv (CD Aa Aa) (Cs Aa he Aa (wa Aa (Ak ?_))))))));exact BH (And.intro ha (And.intro hb he))
   refine cz hg Aa (λhh hi=>?_) (λhh hj=>?_)
   ·refine Ah (wa Aa (An (Ar (Au (Ae ?_)))));obtain rfl:=Ap hi;exact Aq (B2 YZ (A5 Aa)) sN ⟨Aa,Aa⟩
   ·refine As (A7 (A9 (Ah (wa Aa (An (Ar ?_))))));obtain rfl:=Ap hj;exact Aq (B2 YZ (A5 Aa)) sN ⟨Aa,Aa⟩
theorem JX (F:Nat)(v:(List Ab))(r:(List Ab)×Int)(h:Gh F v=some r):Fn Tryz.prog GE 71 [AB 4 (A1 Ac v)] [] (λR H=>R=CY [AB 4 (A1 Ac r.1),Ai r.2]∧H=[]):=by
 refine enter (n:=11) Tryz.func71 Aa Tryz.ntmps71 Aa (λw Z=>?_);unfold Gh at h;refine Ah (wa Aa (wa Aa (An (Ao (Ah (wm Aa (ob h λr1 e3 h2=>BI Qg (Gi F v r1 e3) Aa (wa Aa (Bd (wm Aa (wv (Bs Aa Aa) (An (cz h2 Aa (λc4 h5=>?_) (λc4 h6=>?_))))))))))))))
 ·refine Ah (wm Aa (wa Aa (wa Aa (An (Ar (Ae (WK.up (d:=2) (r:=AB 4 (A1 Ac ([]:List Ab))) Aa (Up.le (DH.nil _)) ?_)))))));obtain rfl:=Ap h5;exact Aq (CM Tryz.results71 (A5 Aa) (A5 Aa)) sN ⟨Aa,Aa⟩
 ·refine As (A9 (Ah (wm Aa (wa Aa (wa Aa (An (Ar ?_)))))));obtain rfl:=Ap h6;exact Aq (CM Tryz.results71 (A5 Aa) (A5 Aa)) sN ⟨Aa,Aa⟩
theorem WX (F:Nat)(n:Int)(r:(List Ab)×Int)(h:Sk F n=some r):Fn Tryz.prog GE 85 [Ai n] [] (λR H=>R=CY [AB 4 (A1 Ac r.1),Ai r.2]∧H=[]):=by
 refine enter (n:=10) Tryz.func85 Aa Tryz.ntmps85 Aa (λw Z=>?_);unfold Sk at h;refine Ah (wa Aa (wa Aa (Bd (wm Aa (wv (r:=Bw [Ai 3,Ai n,rS ([]:Am),Ai 0]) (Cj Aa Aa Aa Aa) (AN (ys:=([(Ab.mk 3 n ([]:Am) 0)]:List Ab)) (enc:=Ac) (css:=[[Ai 3,Ai n,rS ([]:Am),Ai 0]]) (xs:=[.tmp 5]) Br Bx DU Aa Aa Aa ⟨Dx.agg ⟨Up.refl _,Up.refl _,Up.refl _,Up.refl _,trivial⟩,trivial⟩ Aa AO Aa Aa Aa (λb1=>?_)))))));refine WL.freeze (i:=0) Aa (WL.up (d:=6) (r:=AB 4 (A1 Ac ([(Ab.mk 3 n ([]:Am) 0)]:List Ab))) Aa (Up.fact (i:=0) Aa) (ob h λr2 e4 h3=>BI Tryz.call71 (JX F ([(Ab.mk 3 n ([]:Am) 0)]:List Ab) r2 e4) Aa (wv (A0 Aa Aa) (wv (A0 Aa Aa) (wa Aa (wa Aa (An (Ar ?_))))))));obtain rfl:=Ap h3;exact Aq (CM Tryz.results85 (A5 Aa) (A5 Aa)) (sS sN) ⟨Aa,Aa⟩
theorem OY (F:Nat)(s:Am)(r:(List Ab)×Int)(h:Qj F s=some r):Fn Tryz.prog GE 29 [rS s] [] (λR H=>R=CY [AB 4 (A1 Ac r.1),Ai r.2]∧H=[]):=by
 refine enter (n:=10) Tryz.func29 Aa Tryz.ntmps29 Aa (λw Z=>?_);unfold Qj at h;refine Ah (wa Aa (wa Aa (Bd (wm Aa (wv (r:=Bw [Ai 4,Ai 0,rS s,Ai 0]) (Dc Aa Aa Aa Aa) (AN (ys:=([(Ab.mk 4 0 s 0)]:List Ab)) (enc:=Ac) (css:=[[Ai 4,Ai 0,rS s,Ai 0]]) (xs:=[.tmp 5]) Br Bx DU Aa Aa Aa ⟨Dx.agg ⟨Up.refl _,Up.refl _,Up.refl _,Up.refl _,trivial⟩,trivial⟩ Aa AO Aa Aa Aa (λb1=>?_)))))));refine WL.freeze (i:=0) Aa (WL.up (d:=6) (r:=AB 4 (A1 Ac ([(Ab.mk 4 0 s 0)]:List Ab))) Aa (Up.fact (i:=0) Aa) (ob h λr2 e4 h3=>BI Tryz.call71 (JX F ([(Ab.mk 4 0 s 0)]:List Ab) r2 e4) Aa (wv (A0 Aa Aa) (wv (A0 Aa Aa) (wa Aa (wa Aa (An (Ar ?_))))))));obtain rfl:=Ap h3;exact Aq (CM Tryz.results29 (A5 Aa) (A5 Aa)) (sS sN) ⟨Aa,Aa⟩
theorem O4 (F:Nat)(l:(List (List Ab)))(r:(List Ab)×Int)(h:Ku F l=some r):Fn Tryz.prog GE 47 [AB 1 (A1 Ad l)] [] (λR H=>R=CY [AB 4 (A1 Ac r.1),Ai r.2]∧H=[]):=by
 refine enter (n:=31) Tryz.func47 Aa Tryz.ntmps47 Aa (λw Z=>?_);unfold Ku at h;refine Ah (wa Aa (wa Aa (Bd (wm Aa (wv (AW (ys:=l) (enc:=Ad) BB Aa) (wv (r:=Bw [Ai 5,Ai 0,rS ([]:Am),Ai (l.length:Int)]) (Jf Aa Aa Aa Aa) (AN (ys:=([(Ab.mk 5 0 ([]:Am) (l.length:Int))]:List Ab)) (enc:=Ac) (css:=[[Ai 5,Ai 0,rS ([]:Am),Ai (l.length:Int)]]) (xs:=[.tmp 10]) Br Bx DU Aa Aa Aa ⟨Dx.agg ⟨Up.refl _,Up.refl _,Up.refl _,Up.refl _,trivial⟩,trivial⟩ Aa AO Aa Aa Aa (λb1=>?_))))))));refine wa Aa (An (Ao (Ah (wm Aa (wv (AW (ys:=l) (enc:=Ad) BB Aa) (wv (r:=Ai 0) (A8 Aa) (An (AA (ob h λhl hm hj=>Bk (S:=Nat×((List Ab)×Int)×(Value)) (V:=((List Ab))×(Value)) 0 (λσ=>BS (λσ=>Is F l σ.1 σ.2) σ.1 σ.2.1=some hl) (λσ=>[(2,rv (.slice none 0 0)),(3,Ai 0),(4,rv σ.2.2),(12,AB 1 (A1 Ad l)),(13,Ai (l.length:Int)),(14,Ai σ.2.1.2)]) (λσ=>[.row σ.2.2 54 4 (A1 Ac σ.2.1.1)]) (λσ=>σ.1) (F,(([(Ab.mk 5 0 ([]:Am) (l.length:Int))]:List Ab),0),(.slice (some ⟨b1,0,none⟩) 1 1)) hm (A4.c Aa (A4.c5 Aa Aa Aa Aa Aa A4.nil)) (sC sN) (λσ=>Jv F σ.1=some r) (λσ=>[(2,rv (.slice none 0 0)),(3,Ai 0),(4,rv σ.2)]) (λσ=>[.row σ.2 54 4 (A1 Ac σ.1)]) ?_ ?_)))))))))
 ·rintro⟨hC,⟨hb,ha⟩,hh⟩ hn;refine BC (l':=[(2,rv (.slice none 0 0)),(3,Ai 0),(4,rv hh),(12,AB 1 (A1 Ad l)),(13,Ai (l.length:Int)),(14,Ai ha)]) (H':=[.row hh 54 4 (A1 Ac hb)]) Aa Aa ?_;obtain⟨ho,rfl,hp,he,hi⟩:=Ce hn;replace he:Is F l hb ha=some hp:=he;unfold Is at he;refine Ah (wv (Cn Aa Aa) (An (Ao (cz he Aa (λhq hr=>?_) (λhq hs=>?_)))))
  ·refine As (A9 (Ao (AA (Ah (ck hr λht hu=>wv (AX (enc:=Ad) (ys:=l) BB BZ Aa Aa ht) (wv (AK CN Aa Aa) (wa Aa (An (Ao (Ah (wm Aa (ob hu λhw hx hy=>BI Qg (Gi F (At l ha) hw hx) Aa (wa Aa (Bd (wm Aa (wv (Bs Aa Aa) (An (cz hy Aa (λhz h0=>?_) (λhz h1=>?_)))))))))))))))))))
   ·refine Ah (wm Aa (wa Aa (wa Aa (An (Ar (Ae (Au (Ae (Ae (AU ?_))))))))));have h2:=Bm h0 hi hj;refine Au (Ae (WK.up (d:=2) (r:=AB 4 (A1 Ac ([]:List Ab))) Aa (Up.le (DH.nil _)) ?_));obtain rfl:=Ap h2;exact Aq (CM Tryz.results47 (A5 Aa) (A5 Aa)) (sS sN) ⟨Aa,Aa⟩
   ·refine As (A9 (Al (wm Aa (wm Aa (ck h1 λh3 h4=>Exists.elim Ef λinf hinf=>B6 (xs:=hb) (ys:=At l ha) (enc:=Ac) (i:=0) Br hinf.1 hinf.2.1 hinf.2.2.1 hinf.2.2.2 Aa Aa Aa Aa Aa (I7.z Aa Aa) AO BG h3 Aa (λv76=>?_))))));refine wa Aa (Ak (A7 (A9 (Al (ck h4 λh5 h6=>wv (Bh Aa Aa h5) (wm Aa (Ak ?_)))))));have h7:=AY h6 hi;exact Ax (Av (ho,(hb++(At l ha),ha+1),v76) ⟨h7,AcR _⟩ (A4.c Aa (A4.c5 Aa Aa Aa Aa Aa A4.nil)) (sC sN))
  ·refine Bt (Ay ?_);have h8:=BD hs hi hj;exact Ay (Bb (Av (hb,hh) h8 (A4.c Aa (A4.c Aa (A4.c Aa A4.nil))) (sC sN)))
 ·rintro⟨hf,hk⟩ hg;refine Ci (l':=[(2,rv (.slice none 0 0)),(3,Ai 0),(4,rv hk)]) (H':=[.row hk 54 4 (A1 Ac hf)]) Aa Aa ?_;replace hg:Jv F hf=some r:=hg;unfold Jv at hg;refine Bf (A9 (Ah (wm Aa (WL.freeze (i:=0) Aa (WL.up (d:=27) (r:=AB 4 (A1 Ac hf)) Aa (Up.fact (i:=0) Aa) (ob hg λh9 hA hB=>BI Tryz.call71 (JX F hf h9 hA) Aa (wv (A0 Aa Aa) (wv (A0 Aa Aa) (wa Aa (wa Aa (An (Ar ?_))))))))))));obtain rfl:=Ap hB;exact Aq (CM Tryz.results47 (A5 Aa) (A5 Aa)) (sS sN) ⟨Aa,Aa⟩
end Go.Proofs.YtghdglcmblpbeaaGreatDoor.Q
namespace Go.Proofs.YtghdglcmblpbeaaGreatDoor
open Go
set_option linter.unusedVariables false
def DV (s:Am)(ha:Int)(hb:Am):Option (Stp (Int×Am) (Out (Am) (Am))):=
 AT (decide (ha<(s.length:Int))) (AS (Co ha (s.length:Int))<|AT (((decide ((BA s ha)=34))||(decide ((BA s ha)=92)))) (AS (DN 1 (hb.length+1))<|AS (Bu .u8 92)<|No (hb++[UInt8.ofNat (Int.toNat 92)]) λhe=>AS (DN 1 (he.length+1))<|AS (Bu .u8 (BA s ha))<|No (he++[UInt8.ofNat (Int.toNat (BA s ha))]) λhf=>AS (Bu .i64 (ha+1))<|some (.next (ha+1,hf))) (AS (DN 1 (hb.length+1))<|AS (Bu .u8 (BA s ha))<|No (hb++[UInt8.ofNat (Int.toNat (BA s ha))]) λhg=>AS (Bu .i64 (ha+1))<|some (.next (ha+1,hg)))) (some (.out (.go hb)))
def G2 (ha:Am):Option (Am):=
 AS (DN 1 (ha.length+1))<|No (ha++[UInt8.ofNat (Int.toNat 34)]) λhb=>some hb
def LP (F:Nat)(l:Am)(s:Am):Option (Am):=
 AS (DN 1 (l.length+1))<|AS (Bu .u8 34)<|No (l++[UInt8.ofNat (Int.toNat 34)]) λr6=>Bi (BS (λσ=>DV s σ.1 σ.2) F (0,r6)) (BP λν=>G2 ν)
def Ld (F:Nat)(hn:Am→(List Ab)→Bool→Am→Ab→Option (Bool×Bool×Am))(ha:(List Ab)→Bool→Am→Ab→Option (Bool×Am))(l:Am)(v:(List Ab)):Option (Am):=
 AS (Co 0 (v.length:Int))<|AT (decide (((At v 0).fKind)=1)) (AS (DN 1 (l.length+([110,117,108,108]:Am).length))<|No (l++([110,117,108,108]:Am)) λhf=>some hf) (AT (decide (((At v 0).fKind)=2)) (AS (Co ((At v 0).fInt) (([([102,97,108,115,101]:Am),([116,114,117,101]:Am)]:List Am).length:Int))<|AS (DN 1 (l.length+(At ([([102,97,108,115,101]:Am),([116,114,117,101]:Am)]:List Am) ((At v 0).fInt)).length))<|No (l++(At ([([102,97,108,115,101]:Am),([116,114,117,101]:Am)]:List Am) ((At v 0).fInt))) λhg=>some hg) (AT (decide (((At v 0).fKind)=3)) (AS (Bu .i64 ((At v 0).fInt))<|AS (DN 1 (l.length+(Lib.itoa ((At v 0).fInt)).length))<|No (l++(Lib.itoa ((At v 0).fInt))) λhh=>some hh) (AT (decide (((At v 0).fKind)=4)) (Bi (LP F l ((At v 0).fStr)) λhi=>some hi) (AT (decide (((At v 0).fKind)=6)) (AS (Co 0 (([123,125]:Am).length:Int))<|AS (DN 1 (l.length+1))<|AS (Bu .u8 (BA ([123,125]:Am) 0))<|No (l++[UInt8.ofNat (Int.toNat (BA ([123,125]:Am) 0))]) λhj=>Bi (ha v true hj (At v 0)) λhb=>AS (Co 1 (([123,125]:Am).length:Int))<|AS (DN 1 (hb.2.length+1))<|AS (Bu .u8 (BA ([123,125]:Am) 1))<|No (hb.2++[UInt8.ofNat (Int.toNat (BA ([123,125]:Am) 1))]) λhk=>some hk) (AS (Co 0 (([91,93]:Am).length:Int))<|AS (DN 1 (l.length+1))<|AS (Bu .u8 (BA ([91,93]:Am) 0))<|No (l++[UInt8.ofNat (Int.toNat (BA ([91,93]:Am) 0))]) λhl=>Bi (ha v true hl (At v 0)) λhe=>AS (Co 1 (([91,93]:Am).length:Int))<|AS (DN 1 (he.2.length+1))<|AS (Bu .u8 (BA ([91,93]:Am) 1))<|No (he.2++[UInt8.ofNat (Int.toNat (BA ([91,93]:Am) 1))]) λhm=>some hm)))))
def Mm (F:Nat)(ha:Am→(List Ab)→Option (Am))(key:Am)(x:(List Ab))(first:Bool)(l:Am)(c:Ab):Option (Bool×Bool×Am):=
 AT (!first) (AS (DN 1 (l.length+1))<|AS (Bu .u8 44)<|No (l++[UInt8.ofNat (Int.toNat 44)]) λr8=>AT (decide (c.fKind=6)) (Bi (LP F r8 key) λhb=>AS (DN 1 (hb.length+1))<|AS (Bu .u8 58)<|No (hb++[UInt8.ofNat (Int.toNat 58)]) λhf=>Bi (ha hf x) λhg=>some (true,false,hg)) (Bi (ha r8 x) λhh=>some (true,false,hh))) (AT (decide (c.fKind=6)) (Bi (LP F l key) λhe=>AS (DN 1 (he.length+1))<|AS (Bu .u8 58)<|No (he++[UInt8.ofNat (Int.toNat 58)]) λhi=>Bi (ha hi x) λhj=>some (true,false,hj)) (Bi (ha l x) λhk=>some (true,false,hk)))
def Ep (F:Nat)(v:(List Ab))(c:Ab)(hk:Am→(List Ab)→Bool→Am→Ab→Option (Bool×Bool×Am))(ha:Int)(hb:Int)(hi:Bool)(hj:Am):Option (Stp (Int×Int×Bool×Am) (Out (Bool×Am) (Bool×Am))):=
 AT (decide (hb<((At v 0).fN))) (AT (decide (((At v 0).fKind)=6)) (AS (Co ha (v.length:Int))<|AS (Bu .i64 (ha+1))<|AS (GM (ha+1) (v.length:Int))<|Bi (GO F (List.drop (Int.toNat (ha+1)) v)) λhe=>AS (Bu .i64 ((ha+1)+he.1))<|AS (GM (ha+1) ((ha+1)+he.1))<|AS (GM ((ha+1)+he.1) (v.length:Int))<|Bi (hk ((At v ha).fStr) (List.take (Int.toNat ((ha+1)+he.1)-Int.toNat (ha+1)) (List.drop (Int.toNat (ha+1)) v)) hi hj c) λhf=>AT (!hf.1) (some (.out (.ret (hf.2.1,hf.2.2)))) (AS (Bu .i64 (hb+1))<|some (.next ((ha+1)+he.1,hb+1,hf.2.1,hf.2.2)))) (AS (GM ha (v.length:Int))<|Bi (GO F (List.drop (Int.toNat ha) v)) λhg=>AS (Bu .i64 (ha+hg.1))<|AS (GM ha (ha+hg.1))<|AS (GM (ha+hg.1) (v.length:Int))<|Bi (hk ([]:Am) (List.take (Int.toNat (ha+hg.1)-Int.toNat ha) (List.drop (Int.toNat ha) v)) hi hj c) λhh=>AT (!hh.1) (some (.out (.ret (hh.2.1,hh.2.2)))) (AS (Bu .i64 (hb+1))<|some (.next (ha+hg.1,hb+1,hh.2.1,hh.2.2))))) (some (.out (.go (hi,hj))))
def Ip (ha:Bool)(hb:Am):Option (Bool×Am):=
 some (ha,hb)
def Jq (F:Nat)(ha:Am→(List Ab)→Bool→Am→Ab→Option (Bool×Bool×Am))(v:(List Ab))(first:Bool)(l:Am)(c:Ab):Option (Bool×Am):=
 AS (Co 0 (v.length:Int))<|Bi (BS (λσ=>Ep F v c ha σ.1 σ.2.1 σ.2.2.1 σ.2.2.2) F (1,0,first,l)) (BP λν=>Ip ν.1 ν.2)
mutual
def Hl:Nat→Am→(List Ab)→Option (Am)
 | 0,_,_=>none
 | nn+1,l,v=>Ld nn (Gr nn) (HN nn) l v
def Gr:Nat→Am→(List Ab)→Bool→Am→Ab→Option (Bool×Bool×Am)
 | 0,_,_,_,_,_=>none
 | nn+1,key,x,first,l,c=>Mm nn (Hl nn) key x first l c
def HN:Nat→(List Ab)→Bool→Am→Ab→Option (Bool×Am)
 | 0,_,_,_,_=>none
 | nn+1,v,first,l,c=>Jq nn (Gr nn) v first l c
end
def Lf (F:Nat)(v:(List Ab)):Option (Am×Int):=
 Bi (Es F v) λr1=>AT (!decide (r1=0)) (some (([]:Am),r1)) (Bi (Hl F ([]:Am) v) λr8=>AS (decide (0<r8.length))<|some (r8,0))
end Go.Proofs.YtghdglcmblpbeaaGreatDoor
namespace Go.Proofs.YtghdglcmblpbeaaGreatDoor.Q
open Go Go.RowKit
set_option linter.unusedVariables false
set_option linter.unusedSimpArgs false
set_option maxRecDepth 100000
set_option maxHeartbeats 4000000
theorem Pc (F:Nat)(ha:Nat)(hl:Value)(l:Am)(s:Am)(r:Am)(h:LP F l s=some r):Fn Tryz.prog GE 114 [rP ha 0,rS s] [.bld 101 5 ha hl l] (λR H=>∃w0b:Value,R=rv (.tuple #[])∧H=[.bld 101 5 ha w0b r]):=by
 refine enter (n:=32) Tryz.func114 Aa Tryz.ntmps114 Aa (λw Z=>?_);unfold LP at h;refine Ah (wm Aa (ck h λg1 h2=>ck h2 λg3 h4=>Dq (rs:=[rP ha 0,rI .u8 34]) (Hin:=[.bld 101 5 ha hl l]) (Hr:=[]) Kt Aa (AcK _) (CV ha hl l 34 g1 g3) Aa ?_));rintro _ _ ⟨v5,rfl,rfl⟩;refine bd h4 λr6 e8 h7=>?_;rw[← e8];refine An (Ao (Ah (wm Aa (wv (BJ Di Aa) (wv (r:=Ai 0) (A8 Aa) (An (AA (ob h7 λhr hs ht=>Bk (S:=Nat×(Int×Am)×(Value)) (V:=(Am)×(Value)) 0 (λσ=>BS (λσ=>DV s σ.1 σ.2) σ.1 σ.2.1=some hr) (λσ=>[(0,rP ha 0),(1,rS s),(8,Ai (s.length:Int)),(9,Ai σ.2.1.1)]) (λσ=>[.bld 101 5 ha σ.2.2 σ.2.1.2]) (λσ=>σ.1) (F,(0,r6),v5) hs (A4.c Aa (A4.c Aa (A4.c Aa (A4.c Aa A4.nil)))) (sC sN) (λσ=>G2 σ.1=some r) (λσ=>[(0,rP ha 0)]) (λσ=>[.bld 101 5 ha σ.2 σ.1]) ?_ ?_))))))))
 ·rintro⟨gg,⟨hb,hf⟩,hg⟩ hu;refine BC (l':=[(0,rP ha 0),(1,rS s),(8,Ai (s.length:Int)),(9,Ai hb)]) (H':=[.bld 101 5 ha hg hf]) Aa Aa ?_;obtain⟨ho,rfl,t127,hh,hm⟩:=Ce hu;replace hh:DV s hb hf=some t127:=hh;unfold DV at hh;refine Ah (wv (Cn Aa Aa) (An (Ao (cz hh Aa (λhw hx=>?_) (λhw hy=>?_)))))
  ·refine As (A9 (Ao (AA (Ah (wm Aa (wa Aa (An (Ao (ck hx λhi hz=>AE [(0,rP ha 0),(1,rS s),(4,Ai hb),(8,Ai (s.length:Int)),(9,Ai hb),(21,rB ((decide ((BA s hb)=34))||(decide ((BA s hb)=92))))] [.bld 101 5 ha hg hf] ?_ ?_)))))))))
   ·refine Al (wm Aa (wm Aa (wv (Bo Di Aa Aa hi) (wv (Bj Aa Aa) (wm Aa (AP (decide ((BA s hb)=34)) (λhe=>?_) (λhe=>?_)))))))
    ·refine wf he (wf he (wf he (wf he (wv (r:=rB true) (Aw Aa he Aa) (Ak ?_)))));exact BH he
    ·refine wo he (wm Aa (wo he (wm Aa (wo he (wv (Bo Di Aa Aa hi) (wo he (wv (Bj Aa Aa) (Cs Aa he Aa (Ak ?_)))))))));exact BH he
   refine cz hz Aa (λh0 h1=>?_) (λh0 h3=>?_)
   ·refine Al (wm Aa (ck h1 λh5 h6=>ck h6 λh8 h9=>Dq (rs:=[rP ha 0,rI .u8 92]) (Hin:=[.bld 101 5 ha hg hf]) (Hr:=[]) Kt Aa (AcK _) (CV ha hg hf 92 h5 h8) Aa ?_));rintro _ _ ⟨hp,rfl,rfl⟩;refine bd h9 λhq hA hB=>?_;rw[← hA];refine An (Al (wm Aa (wm Aa (wm Aa (wv (Bo Di Aa Aa hi) (ck hB λhC hD=>ck hD λhE hG=>Dq (rs:=[rP ha 0,rI .u8 (BA s hb)]) (Hin:=[.bld 101 5 ha hp hq]) (Hr:=[]) Kt Aa (AcK _) (CV ha hp hq (BA s hb) hC hE) Aa ?_))))));rintro _ _ ⟨hH,rfl,rfl⟩;refine bd hG λhI hJ hK=>?_;rw[← hJ];refine Ak (A7 (A9 (Al (ck hK λhL hN=>wv (Bh Aa Aa hL) (wm Aa (Ak ?_))))));have hO:=AY hN hm;exact Ax (Av (ho,(hb+1,hI),hH) ⟨hO,AcR _⟩ (A4.c Aa (A4.c Aa (A4.c Aa (A4.c Aa A4.nil)))) (sC sN))
   ·refine As (A9 (Al (wm Aa (wm Aa (wm Aa (wv (Bo Di Aa Aa hi) (ck h3 λhP hQ=>ck hQ λhR hS=>Dq (rs:=[rP ha 0,rI .u8 (BA s hb)]) (Hin:=[.bld 101 5 ha hg hf]) (Hr:=[]) Kt Aa (AcK _) (CV ha hg hf (BA s hb) hP hR) Aa ?_)))))));rintro _ _ ⟨hT,rfl,rfl⟩;refine bd hS λhU hV hW=>?_;rw[← hV];refine Ak (A7 (A9 (Al (ck hW λhX hY=>wv (Bh Aa Aa hX) (wm Aa (Ak ?_))))));have hZ:=AY hY hm;exact Ax (Av (ho,(hb+1,hU),hT) ⟨hZ,AcR _⟩ (A4.c Aa (A4.c Aa (A4.c Aa (A4.c Aa A4.nil)))) (sC sN))
  ·refine Bt (Ay ?_);have ga:=BD hy hm ht;exact Ay (Bb (Av (hf,hg) ga (A4.c Aa A4.nil) (sC sN)))
 ·rintro⟨hj,hn⟩ hk;refine Ci (l':=[(0,rP ha 0)]) (H':=[.bld 101 5 ha hn hj]) Aa Aa ?_;replace hk:G2 hj=some r:=hk;unfold G2 at hk;refine Bf (A9 (Al (wm Aa (ck hk λgb gc=>Dq (rs:=[rP ha 0,rI .u8 34]) (Hin:=[.bld 101 5 ha hn hj]) (Hr:=[]) Kt Aa (AcK _) (CV ha hn hj 34 gb g3) Aa ?_))));rintro _ _ ⟨gd,rfl,rfl⟩;refine bd gc λgh ge gf=>?_;rw[← ge];refine Ak ?_;obtain rfl:=Ap gf;exact Hi (Rk Tryz.results114) (sC sN) ⟨gd,Aa,Aa⟩
theorem Vy (F:Nat)(hm:Am→(List Ab)→Bool→Am→Ab→Option (Bool×Bool×Am))(hn:(List Ab)→Bool→Am→Ab→Option (Bool×Am))(g9:(∀(he:Nat) (hf:Nat) (ha:Nat) (hb:Value) (hg:Nat) (key:Am) (x:(List Ab)) (first:Bool) (l:Am) (c:Ab) (r:Bool×Bool×Am),hm key x first l c=some r→Fn Tryz.prog GE 116 [rS key,AB 4 (A1 Ac x),rP he 0,rP hf 0,rP hg 0] [.blk he [rB first] 4,.blk hf [rP ha 0] 98,.bld 101 5 ha hb l,.blk hg (Ac c) 54] (λR H=>∃w3b:Value,R=rB r.1∧H=[.blk he [rB r.2.1] 4,.blk hf [rP ha 0] 98,.bld 101 5 ha w3b r.2.2,.blk hg (Ac c) 54])))(ho:(∀(he:Nat) (hf:Nat) (ha:Nat) (hb:Value) (hg:Nat) (v:(List Ab)) (first:Bool) (l:Am) (c:Ab) (r:Bool×Am),hn v first l c=some r→Fn Tryz.prog GE 90 [AB 4 (A1 Ac v),rv (.func (.func 116) #[] #[(.pointer (some ⟨he,0,none⟩)),(.pointer (some ⟨hf,0,none⟩)),(.pointer (some ⟨hg,0,none⟩))])] [.blk he [rB first] 4,.blk hf [rP ha 0] 98,.bld 101 5 ha hb l,.blk hg (Ac c) 54] (λR H=>∃w1_1b:Value,R=rv (.tuple #[])∧H=[.blk he [rB r.1] 4,.blk hf [rP ha 0] 98,.bld 101 5 ha w1_1b r.2,.blk hg (Ac c) 54])))(ha:Nat)(hb:Value)(l:Am)(v:(List Ab))(r:Am)(h:Ld F hm hn l v=some r):Fn Tryz.prog GE 87 [rP ha 0,AB 4 (A1 Ac v)] [.bld 101 5 ha hb l] (λR H=>∃w0b:Value,R=rv (.tuple #[])∧H=[.bld 101 5 ha w0b r]):=by
 refine enter (n:=52) Tryz.func87 Aa Tryz.ntmps87 Aa (λw Z=>?_);unfold Ld at h;refine Ah (NZ Aa (BU Aa) Aa (λb1=>?_));refine Bd (wm Aa (ck h λg2 h3=>wv (AX (enc:=Ac) (ys:=v) Br Bx Aa Aa g2) (wv (DM LA Bx Aa Aa Aa) (Cg (cs:=[Ai 0,Ai 0,rS ([]:Am),Ai 0]) DU Aa Aa (λb4=>?_)))));refine Bg (i:=0) Bx Aa Aa Aa (B3.c Aa) Aa Aa (cs':=[Ai ((At v 0).fKind),Ai ((At v 0).fInt),rS ((At v 0).fStr),Ai ((At v 0).fN)]) Aa (H':=[.blk b4 (Ac (At v 0)) 54,.blk b1 [rP ha 0] 98,.bld 101 5 ha hb l]) Aa (Bd (vF Bp Aa CC (vL 0 CP Aa (An (AA (Ah (wv (Bj Aa Aa) (wa Aa (An (cz h3 Aa (λc5 h6=>?_) (λc5 hs=>?_)))))))))))
 ·refine Al (vL 1 Jo Aa (ck h6 λg7 h8=>Dq (rs:=[rP ha 0,rS ([110,117,108,108]:Am)]) (Hin:=[.bld 101 5 ha hb l]) (Hr:=[.blk b4 (Ac (At v 0)) 54,.blk b1 [rP ha 0] 98]) Tryz.call112 Aa ((A6 (i:=2) Aa).trans (AcQ _ (AcK _))) (IZ ha hb l ([110,117,108,108]:Am) g7) Aa ?_));rintro _ _ ⟨v9,rfl,rfl⟩;refine bd h8 λgA ht hu=>?_;rw[← ht];refine Ak (A7 ?_);obtain rfl:=Ap hu;exact Hi (Rk Vr) (sC (sS (sS sN))) ⟨v9,Aa,Aa⟩
 ·refine Ah (wv (Bj Aa Aa) (wa Aa (An (cz hs Aa (λhw hx=>?_) (λhw hy=>?_)))))
  ·refine ck hx λg16 hz=>Lc (H1:=[.blk b4 (Ac (At v 0)) 54,.blk b1 [rP ha 0] 98,.bld 101 5 ha hb l]) 6 [2,4] [⟨[],rP ha 0,1⟩,⟨[],AB 1 (A1 eS ([([102,97,108,115,101]:Am),([116,114,117,101]:Am)]:List Am)),0⟩,⟨[],rP b4 1,0⟩,⟨[2],Ai ((At v 0).fInt),1⟩,⟨[1,3],Jc [rS (At ([([102,97,108,115,101]:Am),([116,114,117,101]:Am)]:List Am) ((At v 0).fInt))],0⟩,⟨[4],rS (At ([([102,97,108,115,101]:Am),([116,114,117,101]:Am)]:List Am) ((At v 0).fInt)),0⟩] (rle [(7,_)]) [32,33,34,35,36,37,2,4] ?_ ?_
   ·refine of (Bq (i:=1) Jo Aa Aa Aa) (EH Aa (λH=>D0 (ys:=([([102,97,108,115,101]:Am),([116,114,117,101]:Am)]:List Am)) (enc:=eS) (css:=[[rS ([102,97,108,115,101]:Am)],[rS ([116,114,117,101]:Am)]]) (xs:=[.const (.string ⟨#[102,97,108,115,101]⟩),.const (.string ⟨#[116,114,117,101]⟩)]) DG CX yz9 Aa Aa Aa ⟨Dx.one Aa (Up.refl _),Dx.one Aa (Up.refl _),trivial⟩ Aa I4 Aa Aa) ?_);refine oq (AI Bp Aa BL Aa Aa) (of (Bq (i:=0) Cc Aa Aa Aa) (oq (AX (enc:=eS) (ys:=([([102,97,108,115,101]:Am),([116,114,117,101]:Am)]:List Am)) DG CX Aa Aa g16) (oq (AK Dm Aa Aa) ?_)));exact C7
   refine ck hz λg18 h0=>Dq (rs:=[rP ha 0,rS (At ([([102,97,108,115,101]:Am),([116,114,117,101]:Am)]:List Am) ((At v 0).fInt))]) (Hin:=[.bld 101 5 ha hb l]) (Hr:=[.blk b4 (Ac (At v 0)) 54,.blk b1 [rP ha 0] 98]) Tryz.call112 Aa ((A6 (i:=2) Aa).trans (AcQ _ (AcK _))) (IZ ha hb l (At ([([102,97,108,115,101]:Am),([116,114,117,101]:Am)]:List Am) ((At v 0).fInt)) g18) Aa ?_;rintro _ _ ⟨v20,rfl,rfl⟩;refine bd h0 λgB h1 h2=>?_;rw[← h1];refine Ak (A7 ?_);obtain rfl:=Ap h2;exact Hi (Rk Vr) (sC (sS (sS sN))) ⟨v20,Aa,Aa⟩
  ·refine Ah (wv (Bj Aa Aa) (wa Aa (An (cz hy Aa (λh4 h5=>?_) (λh4 h7=>?_)))))
   ·refine ck h5 λh9 hA=>Lc (H1:=[.blk b4 (Ac (At v 0)) 54,.blk b1 [rP ha 0] 98,.bld 101 5 ha hb l]) 4 [2,4] [⟨[],rP ha 0,1⟩,⟨[],rP b4 1,0⟩,⟨[1],Ai ((At v 0).fInt),1⟩,⟨[2],rS (Lib.itoa ((At v 0).fInt)),0⟩] (rle [(5,_)]) [41,42,43,44,2,4] ?_ ?_
    ·refine of (Bq (i:=1) Jo Aa Aa Aa) (oq (AI Bp Aa BL Aa Aa) (of (Bq (i:=0) Cc Aa Aa Aa) (EH Aa (λH=>MG (rs:=[Ai ((At v 0).fInt)]) (r:=rS (Lib.itoa ((At v 0).fInt))) Tryz.call113 Aa (SZ ((At v 0).fInt) h9) Aa) ?_)));exact C7
    refine ck hA λhB hC=>Dq (rs:=[rP ha 0,rS (Lib.itoa ((At v 0).fInt))]) (Hin:=[.bld 101 5 ha hb l]) (Hr:=[.blk b4 (Ac (At v 0)) 54,.blk b1 [rP ha 0] 98]) Tryz.call112 Aa ((A6 (i:=2) Aa).trans (AcQ _ (AcK _))) (IZ ha hb l (Lib.itoa ((At v 0).fInt)) hB) Aa ?_;rintro _ _ ⟨hD,rfl,rfl⟩;refine bd hC λgC hE hG=>?_;rw[← hE];refine Ak (A7 ?_);obtain rfl:=Ap hG;exact Hi (Rk Vr) (sC (sS (sS sN))) ⟨hD,Aa,Aa⟩
   ·refine Ah (wv (Bj Aa Aa) (wa Aa (An (cz h7 Aa (λhH hI=>?_) (λhH hJ=>?_)))))
    ·refine Al (vL 1 Jo Aa (vF Bp Aa CX (vL 0 Dm Aa (ob hI λhK hL hN=>Gc (Hr:=[.blk b4 (Ac (At v 0)) 54,.blk b1 [rP ha 0] 98]) Tryz.call114 (Pc F ha hb l ((At v 0).fStr) hK hL) Aa ((A6 (i:=2) Aa).trans (AcQ _ (AcK _))) Aa ?_))));rintro _ _ ⟨hO,rfl,rfl⟩;refine Ak (A7 ?_);obtain rfl:=Ap hN;exact Hi (Rk Vr) (sC (sS (sS sN))) ⟨hO,Aa,Aa⟩
    ·refine Ah (wv (r:=rS ([91,93]:Am)) (AC Aa) (An (Ao (Ah (vF Bp Aa CC (vL 0 CP Aa (wv (Bj Aa Aa) (An (cz hJ Aa (λhP hQ=>?_) (λhP hR=>?_))))))))))
     ·refine Al (wv (r:=rS ([123,125]:Am)) (AC Aa) (An (Ao (ck hQ λhS hT=>Lc (H1:=[.blk b4 (Ac (At v 0)) 54,.blk b1 [rP ha 0] 98,.bld 101 5 ha hb l]) 3 [1,2,4,5] [⟨[],rP ha 0,1⟩,⟨[],rS ([123,125]:Am),0⟩,⟨[1],rI .u8 (BA ([123,125]:Am) 0),0⟩] (rle [(4,_)]) [15,16,17,1,2,4,5] ?_ ?_))))
      ·refine of (Bq (i:=1) Jo Aa Aa Aa) (oq (A8 Aa) (oq (Bo Di Aa Aa hS) ?_));exact C7
      refine ck hT λhU hV=>ck hV λhW hX=>Dq (rs:=[rP ha 0,rI .u8 (BA ([123,125]:Am) 0)]) (Hin:=[.bld 101 5 ha hb l]) (Hr:=[.blk b4 (Ac (At v 0)) 54,.blk b1 [rP ha 0] 98]) Kt Aa ((A6 (i:=2) Aa).trans (AcQ _ (AcK _))) (CV ha hb l (BA ([123,125]:Am) 0) hU hW) Aa ?_;rintro _ _ ⟨v51,rfl,rfl⟩;refine bd hX λhp hY hZ=>?_;rw[← hY];refine Bd (Cg (cs:=[rB false]) Tryz.zeroValue4 Aa Aa (λhj=>?_));refine B5 (i:=0) JP Aa Aa (BU Aa) Aa Aa (cs':=[rB true]) Aa (H':=[.blk hj [rB true] 4,.bld 101 5 ha v51 hp,.blk b4 (Ac (At v 0)) 54,.blk b1 [rP ha 0] 98]) Aa (Bd (wm Aa (wv (r:=rv (.func (.func 116) #[] #[(.pointer (some ⟨hj,0,none⟩)),(.pointer (some ⟨b1,0,none⟩)),(.pointer (some ⟨b4,0,none⟩))])) (Cz Aa) (ob hZ λhh ga gb=>Gc (Hr:=[]) Tryz.call90 (ho hj b1 ha v51 b4 v true hp (At v 0) hh ga) Aa ((A6 (i:=0) Aa).trans (AcQ _ ((A6 (i:=2) Aa).trans (AcQ _ (AcK _))))) Aa ?_))));rintro _ _ ⟨hl,rfl,rfl⟩;refine An (ck gb λgc gd=>Lc (H1:=[.blk hj [rB hh.1] 4,.blk b1 [rP ha 0] 98,.bld 101 5 ha hl hh.2,.blk b4 (Ac (At v 0)) 54]) 3 [2,5] [⟨[],rP ha 0,1⟩,⟨[],rS ([123,125]:Am),0⟩,⟨[1],rI .u8 (BA ([123,125]:Am) 1),0⟩] (rle [(4,_)]) [22,23,24,2,5] ?_ ?_)
      ·refine of (Bq (i:=1) Jo Aa Aa Aa) (oq (A8 Aa) (oq (Bo Di Aa Aa gc) ?_));exact C7
      refine ck gd λge gf=>ck gf λgg gh=>Dq (rs:=[rP ha 0,rI .u8 (BA ([123,125]:Am) 1)]) (Hin:=[.bld 101 5 ha hl hh.2]) (Hr:=[.blk hj [rB hh.1] 4,.blk b1 [rP ha 0] 98,.blk b4 (Ac (At v 0)) 54]) Kt Aa ((A6 (i:=2) Aa).trans (AcQ _ (AcK _))) (CV ha hl hh.2 (BA ([123,125]:Am) 1) ge gg) Aa ?_;rintro _ _ ⟨gi,rfl,rfl⟩;refine bd gh λgD gj gl=>?_;rw[← gj];refine Ak (A7 ?_);obtain rfl:=Ap gl;exact Hi (Rk Vr) (sC (sS (sS (sS sN)))) ⟨gi,Aa,Aa⟩
     ·refine As (A9 (Ao (ck hR λgm gp=>Lc (H1:=[.blk b4 (Ac (At v 0)) 54,.blk b1 [rP ha 0] 98,.bld 101 5 ha hb l]) 3 [1,2,4,5] [⟨[],rP ha 0,1⟩,⟨[],rS ([91,93]:Am),0⟩,⟨[1],rI .u8 (BA ([91,93]:Am) 0),0⟩] (rle [(4,_)]) [15,16,17,1,2,4,5] ?_ ?_)))
      ·refine of (Bq (i:=1) Jo Aa Aa Aa) (oq (A8 Aa) (oq (Bo Di Aa Aa gm) ?_));exact C7
      refine ck gp λgq gr=>ck gr λgs gt=>Dq (rs:=[rP ha 0,rI .u8 (BA ([91,93]:Am) 0)]) (Hin:=[.bld 101 5 ha hb l]) (Hr:=[.blk b4 (Ac (At v 0)) 54,.blk b1 [rP ha 0] 98]) Kt Aa ((A6 (i:=2) Aa).trans (AcQ _ (AcK _))) (CV ha hb l (BA ([91,93]:Am) 0) gq gs) Aa ?_;rintro _ _ ⟨hq,rfl,rfl⟩;refine bd gt λhr gu gv=>?_;rw[← gu];refine Bd (Cg (cs:=[rB false]) Tryz.zeroValue4 Aa Aa (λhk=>?_));refine B5 (i:=0) JP Aa Aa (BU Aa) Aa Aa (cs':=[rB true]) Aa (H':=[.blk hk [rB true] 4,.bld 101 5 ha hq hr,.blk b4 (Ac (At v 0)) 54,.blk b1 [rP ha 0] 98]) Aa (Bd (wm Aa (wv (r:=rv (.func (.func 116) #[] #[(.pointer (some ⟨hk,0,none⟩)),(.pointer (some ⟨b1,0,none⟩)),(.pointer (some ⟨b4,0,none⟩))])) (Cz Aa) (ob gv λhi gw gx=>Gc (Hr:=[]) Tryz.call90 (ho hk b1 ha hq b4 v true hr (At v 0) hi gw) Aa ((A6 (i:=0) Aa).trans (AcQ _ ((A6 (i:=2) Aa).trans (AcQ _ (AcK _))))) Aa ?_))));rintro _ _ ⟨v85,rfl,rfl⟩;refine An (ck gx λgy gz=>Lc (H1:=[.blk hk [rB hi.1] 4,.blk b1 [rP ha 0] 98,.bld 101 5 ha v85 hi.2,.blk b4 (Ac (At v 0)) 54]) 3 [2,5] [⟨[],rP ha 0,1⟩,⟨[],rS ([91,93]:Am),0⟩,⟨[1],rI .u8 (BA ([91,93]:Am) 1),0⟩] (rle [(4,_)]) [22,23,24,2,5] ?_ ?_)
      ·refine of (Bq (i:=1) Jo Aa Aa Aa) (oq (A8 Aa) (oq (Bo Di Aa Aa gy) ?_));exact C7
      refine ck gz λg0 g1=>ck g1 λg3 g4=>Dq (rs:=[rP ha 0,rI .u8 (BA ([91,93]:Am) 1)]) (Hin:=[.bld 101 5 ha v85 hi.2]) (Hr:=[.blk hk [rB hi.1] 4,.blk b1 [rP ha 0] 98,.blk b4 (Ac (At v 0)) 54]) Kt Aa ((A6 (i:=2) Aa).trans (AcQ _ (AcK _))) (CV ha v85 hi.2 (BA ([91,93]:Am) 1) g0 g3) Aa ?_;rintro _ _ ⟨g5,rfl,rfl⟩;refine bd g4 λgE g6 g8=>?_;rw[← g6];refine Ak (A7 ?_);obtain rfl:=Ap g8;exact Hi (Rk Vr) (sC (sS (sS (sS sN)))) ⟨g5,Aa,Aa⟩
theorem T6 (F:Nat)(hk:Am→(List Ab)→Option (Am))(hh:(∀(ha:Nat) (hg:Value) (l:Am) (v:(List Ab)) (r:Am),hk l v=some r→Fn Tryz.prog GE 87 [rP ha 0,AB 4 (A1 Ac v)] [.bld 101 5 ha hg l] (λR H=>∃w0b:Value,R=rv (.tuple #[])∧H=[.bld 101 5 ha w0b r])))(hb:Nat)(he:Nat)(ha:Nat)(hg:Value)(hf:Nat)(key:Am)(x:(List Ab))(first:Bool)(l:Am)(c:Ab)(r:Bool×Bool×Am)(h:Mm F hk key x first l c=some r):Fn Tryz.prog GE 116 [rS key,AB 4 (A1 Ac x),rP hb 0,rP he 0,rP hf 0] [.blk hb [rB first] 4,.blk he [rP ha 0] 98,.bld 101 5 ha hg l,.blk hf (Ac c) 54] (λR H=>∃w3b:Value,R=rB r.1∧H=[.blk hb [rB r.2.1] 4,.blk he [rP ha 0] 98,.bld 101 5 ha w3b r.2.2,.blk hf (Ac c) 54]):=by
 refine enter (n:=23) Tryz.func116 Aa Tryz.ntmps116 Aa (λw Z=>?_);unfold Mm at h;refine Ah (wa Aa (An (Ao (Ah (vL 0 W1 Aa (wv (B7 Aa) (An (cz h Aa (λc1 h2=>?_) (λc1 hw=>?_)))))))))
 ·refine Al (vL 1 Jo Aa (ck h2 λg3 h4=>ck h4 λg5 h6=>Dq (rs:=[rP ha 0,rI .u8 44]) (Hin:=[.bld 101 5 ha hg l]) (Hr:=[.blk hb [rB first] 4,.blk he [rP ha 0] 98,.blk hf (Ac c) 54]) Kt Aa ((A6 (i:=2) Aa).trans (AcQ _ (AcK _))) (CV ha hg l 44 g3 g5) Aa ?_));rintro _ _ ⟨v7,rfl,rfl⟩;refine bd h6 λr8 hx h9=>?_;rw[← hx];refine Bd (B5 (i:=1) JP Aa Aa (BU Aa) Aa Aa (cs':=[rB false]) Aa (H':=[.bld 101 5 ha v7 r8,.blk hb [rB false] 4,.blk he [rP ha 0] 98,.blk hf (Ac c) 54]) Aa (An (Ao (Ah (vF Bp Aa CC (vL 3 CP Aa (wv (Bj Aa Aa) (An (cz h9 Aa (λhy hz=>?_) (λhy h0=>?_))))))))))
  ·refine Ah (vL 2 Jo Aa (wm Aa (ob hz λhi h1 h3=>Gc (Hr:=[.blk hb [rB false] 4,.blk he [rP ha 0] 98,.blk hf (Ac c) 54]) Tryz.call114 (Pc F ha v7 r8 key hi h1) Aa (AcK _) Aa ?_)));rintro _ _ ⟨hl,rfl,rfl⟩;refine An (Al (vL 2 Jo Aa (ck h3 λg17 h5=>ck h5 λg19 h7=>Dq (rs:=[rP ha 0,rI .u8 58]) (Hin:=[.bld 101 5 ha hl hi]) (Hr:=[.blk hb [rB false] 4,.blk he [rP ha 0] 98,.blk hf (Ac c) 54]) Kt Aa (AcK _) (CV ha hl hi 58 g17 g19) Aa ?_)));rintro _ _ ⟨v21,rfl,rfl⟩;refine bd h7 λh8 hA hB=>?_;rw[← hA];refine Bd (vL 2 Jo Aa (wm Aa (ob hB λhm hC hD=>Gc (Hr:=[.blk hb [rB false] 4,.blk he [rP ha 0] 98,.blk hf (Ac c) 54]) WF (hh ha v21 h8 x hm hC) Aa (AcK _) Aa ?_)));rintro _ _ ⟨hn,rfl,rfl⟩;refine Bd (wa Aa (An (Ar (Cv (H2:=[.blk hb [rB false] 4,.blk he [rP ha 0] 98,.bld 101 5 ha hn hm,.blk hf (Ac c) 54]) ((A6 (i:=1) Aa).trans (AcQ _ ((A6 (i:=1) Aa).trans (AcQ _ (AcK _))))) ?_))));obtain rfl:=Ap hD;exact Aq (B2 U7 (A5 Aa)) (sC (sC (sC (sC sN)))) ⟨hn,Aa,Aa⟩
  ·refine As (A9 (Ah (vL 2 Jo Aa (wm Aa (ob h0 λho hE hG=>Gc (Hr:=[.blk hb [rB false] 4,.blk he [rP ha 0] 98,.blk hf (Ac c) 54]) WF (hh ha v7 r8 x ho hE) Aa (AcK _) Aa ?_)))));rintro _ _ ⟨hp,rfl,rfl⟩;refine Bd (wa Aa (An (Ar (Cv (H2:=[.blk hb [rB false] 4,.blk he [rP ha 0] 98,.bld 101 5 ha hp ho,.blk hf (Ac c) 54]) ((A6 (i:=1) Aa).trans (AcQ _ ((A6 (i:=1) Aa).trans (AcQ _ (AcK _))))) ?_))));obtain rfl:=Ap hG;exact Aq (B2 U7 (A5 Aa)) (sC (sC (sC (sC sN)))) ⟨hp,Aa,Aa⟩
 ·refine As (A9 (Ah (B5 (i:=0) JP Aa Aa (BU Aa) Aa Aa (cs':=[rB false]) Aa (H':=[.blk hb [rB false] 4,.blk he [rP ha 0] 98,.bld 101 5 ha hg l,.blk hf (Ac c) 54]) Aa (An (Ao (Ah (vF Bp Aa CC (vL 3 CP Aa (wv (Bj Aa Aa) (An (cz hw Aa (λhH hI=>?_) (λhH hJ=>?_))))))))))))
  ·refine Ah (vL 1 Jo Aa (wm Aa (ob hI λhj hK hL=>Gc (Hr:=[.blk hb [rB false] 4,.blk he [rP ha 0] 98,.blk hf (Ac c) 54]) Tryz.call114 (Pc F ha hg l key hj hK) Aa ((A6 (i:=2) Aa).trans (AcQ _ (AcK _))) Aa ?_)));rintro _ _ ⟨hq,rfl,rfl⟩;refine An (Al (vL 2 Jo Aa (ck hL λhN hO=>ck hO λhP hQ=>Dq (rs:=[rP ha 0,rI .u8 58]) (Hin:=[.bld 101 5 ha hq hj]) (Hr:=[.blk hb [rB false] 4,.blk he [rP ha 0] 98,.blk hf (Ac c) 54]) Kt Aa (AcK _) (CV ha hq hj 58 hN hP) Aa ?_)));rintro _ _ ⟨hR,rfl,rfl⟩;refine bd hQ λhS hT hU=>?_;rw[← hT];refine Bd (vL 2 Jo Aa (wm Aa (ob hU λhr hV hW=>Gc (Hr:=[.blk hb [rB false] 4,.blk he [rP ha 0] 98,.blk hf (Ac c) 54]) WF (hh ha hR hS x hr hV) Aa (AcK _) Aa ?_)));rintro _ _ ⟨hs,rfl,rfl⟩;refine Bd (wa Aa (An (Ar (Cv (H2:=[.blk hb [rB false] 4,.blk he [rP ha 0] 98,.bld 101 5 ha hs hr,.blk hf (Ac c) 54]) ((A6 (i:=1) Aa).trans (AcQ _ ((A6 (i:=1) Aa).trans (AcQ _ (AcK _))))) ?_))));obtain rfl:=Ap hW;exact Aq (B2 U7 (A5 Aa)) (sC (sC (sC (sC sN)))) ⟨hs,Aa,Aa⟩
  ·refine As (A9 (Ah (vL 1 Jo Aa (wm Aa (ob hJ λht hX hY=>Gc (Hr:=[.blk hb [rB false] 4,.blk he [rP ha 0] 98,.blk hf (Ac c) 54]) WF (hh ha hg l x ht hX) Aa ((A6 (i:=2) Aa).trans (AcQ _ (AcK _))) Aa ?_)))));rintro _ _ ⟨hu,rfl,rfl⟩;refine Bd (wa Aa (An (Ar (Cv (H2:=[.blk hb [rB false] 4,.blk he [rP ha 0] 98,.bld 101 5 ha hu ht,.blk hf (Ac c) 54]) ((A6 (i:=1) Aa).trans (AcQ _ ((A6 (i:=1) Aa).trans (AcQ _ (AcK _))))) ?_))));obtain rfl:=Ap hY;exact Aq (B2 U7 (A5 Aa)) (sC (sC (sC (sC sN)))) ⟨hu,Aa,Aa⟩
theorem T5 (F:Nat)(hn:Am→(List Ab)→Bool→Am→Ab→Option (Bool×Bool×Am))(hy:(∀(he:Nat) (hf:Nat) (hb:Nat) (ho:Value) (hg:Nat) (key:Am) (x:(List Ab)) (first:Bool) (l:Am) (c:Ab) (r:Bool×Bool×Am),hn key x first l c=some r→Fn Tryz.prog GE 116 [rS key,AB 4 (A1 Ac x),rP he 0,rP hf 0,rP hg 0] [.blk he [rB first] 4,.blk hf [rP hb 0] 98,.bld 101 5 hb ho l,.blk hg (Ac c) 54] (λR H=>∃w3b:Value,R=rB r.1∧H=[.blk he [rB r.2.1] 4,.blk hf [rP hb 0] 98,.bld 101 5 hb w3b r.2.2,.blk hg (Ac c) 54])))(he:Nat)(hf:Nat)(hb:Nat)(ho:Value)(hg:Nat)(v:(List Ab))(first:Bool)(l:Am)(c:Ab)(r:Bool×Am)(h:Jq F hn v first l c=some r):Fn Tryz.prog GE 90 [AB 4 (A1 Ac v),rv (.func (.func 116) #[] #[(.pointer (some ⟨he,0,none⟩)),(.pointer (some ⟨hf,0,none⟩)),(.pointer (some ⟨hg,0,none⟩))])] [.blk he [rB first] 4,.blk hf [rP hb 0] 98,.bld 101 5 hb ho l,.blk hg (Ac c) 54] (λR H=>∃w1_1b:Value,R=rv (.tuple #[])∧H=[.blk he [rB r.1] 4,.blk hf [rP hb 0] 98,.bld 101 5 hb w1_1b r.2,.blk hg (Ac c) 54]):=by
 refine enter (n:=52) Tryz.func90 Aa Tryz.ntmps90 Aa (λw Z=>?_);unfold Jq at h;refine Ah (wa Aa (Bd (wm Aa (ck h λg1 h2=>wv (AX (enc:=Ac) (ys:=v) Br Bx Aa Aa g1) (wv (AQ Bp Aa BL Aa Aa) (wv (AK Cc Aa Aa) (wv (r:=Ai 0) (A8 Aa) (An (AA (ob h2 λh8 h9 hs=>Bk (S:=Nat×(Int×Int×Bool×Am)×(Value)) (V:=(Bool×Am)×(Value)) 0 (λσ=>BS (λσ=>Ep F v c hn σ.1 σ.2.1 σ.2.2.1 σ.2.2.2) σ.1 σ.2.1=some h8) (λσ=>[(0,AB 4 (A1 Ac v)),(1,rv (.func (.func 116) #[] #[(.pointer (some ⟨he,0,none⟩)),(.pointer (some ⟨hf,0,none⟩)),(.pointer (some ⟨hg,0,none⟩))])),(4,Ai σ.2.1.1),(12,Ai ((At v 0).fN)),(13,Ai σ.2.1.2.1)]) (λσ=>[.blk he [rB σ.2.1.2.2.1] 4,.blk hf [rP hb 0] 98,.bld 101 5 hb σ.2.2 σ.2.1.2.2.2,.blk hg (Ac c) 54]) (λσ=>σ.1) (F,(1,0,first,l),ho) h9 (A4.c5 Aa Aa Aa Aa Aa A4.nil) (sC (sC (sC (sC sN)))) (λσ=>Ip σ.1.1 σ.1.2=some r) (λσ=>[]) (λσ=>[.blk he [rB σ.1.1] 4,.blk hf [rP hb 0] 98,.bld 101 5 hb σ.2 σ.1.2,.blk hg (Ac c) 54]) ?_ ?_))))))))))
 ·rintro⟨g2,⟨ha,hp,hj,hk⟩,hl⟩ hA;refine BC (l':=[(0,AB 4 (A1 Ac v)),(1,rv (.func (.func 116) #[] #[(.pointer (some ⟨he,0,none⟩)),(.pointer (some ⟨hf,0,none⟩)),(.pointer (some ⟨hg,0,none⟩))])),(4,Ai ha),(12,Ai ((At v 0).fN)),(13,Ai hp)]) (H':=[.blk he [rB hj] 4,.blk hf [rP hb 0] 98,.bld 101 5 hb hl hk,.blk hg (Ac c) 54]) Aa Aa ?_;obtain⟨hz,rfl,hB,hq,hm⟩:=Ce hA;replace hq:Ep F v c hn ha hp hj hk=some hB:=hq;unfold Ep at hq;refine Ah (wv (Cn Aa Aa) (An (Ao (cz hq Aa (λc175 hC=>?_) (λc175 hD=>?_)))))
  ·refine As (A9 (Ao (AA (Ah (wv (r:=rS ([]:Am)) (AC Aa) (An (Ao (Ah (wm Aa (wv (AX (enc:=Ac) (ys:=v) Br Bx Aa Aa g1) (wv (AQ Bp Aa CC Aa Aa) (wv (AK CP Aa Aa) (wv (Bj Aa Aa) (An (cz hC Aa (λhE hG=>?_) (λhE hH=>?_))))))))))))))))
   ·refine Ah (wm Aa (wm Aa (ck hG λhI hJ=>wv (AX (enc:=Ac) (ys:=v) Br Bx Aa Aa hI) (wv (AQ Bp Aa CX Aa Aa) (wv (AK Dm Aa Aa) (wa Aa (An (Al (wm Aa (ck hJ λhK hL=>wv (Bh Aa Aa hK) (wa Aa (Bd (wm Aa (wm Aa (ck hL λhN hO=>wv (r:=AB 4 (A1 Ac (List.drop (B8 (ha+1)) v))) (EI Br Bx Aa Aa hN) (ob hO λhh hP hQ=>BI T3 (JV F (List.drop (B8 (ha+1)) v) hh hP) Aa (wm Aa (wv (A0 Aa Aa) (wv (A0 Aa Aa) ?_)))))))))))))))))));refine wv (A0 Aa Aa) (Cg (cs:=[Ai 0,Ai 0,rB false,rB false]) Rb Aa Aa (λh0=>?_));refine wa Aa (Bg (i:=0) I8 Aa Aa Aa (B3.c Aa) Aa Aa (cs':=[Ai hh.2.1.fDepth,Ai hh.2.1.fBytes,rB hh.2.1.fOutside,rB hh.2.1.fLong]) Aa (H':=[.blk h0 (AZ hh.2.1) 86,.blk he [rB hj] 4,.blk hf [rP hb 0] 98,.bld 101 5 hb hl hk,.blk hg (Ac c) 54]) Aa (wa Aa (An (Ao (Ah (wm Aa (wm Aa (wm Aa (wm Aa (wm Aa (wm Aa (ck hQ λht hR=>wv (Bh Aa Aa ht) (wm Aa (wm Aa (wv (Bh Aa Aa ht) (ck hR λhS hT=>ck hT λhU hV=>wv (r:=AB 4 (A1 Ac (List.take (B8 ((ha+1)+hh.1)-B8 (ha+1)) (List.drop (B8 (ha+1)) v)))) (Hp Br Bx Aa Aa Aa Aa hS hU) (ob hV λhu hW hX=>DB (rs:=[rS ((At v ha).fStr),AB 4 (A1 Ac (List.take (B8 ((ha+1)+hh.1)-B8 (ha+1)) (List.drop (B8 (ha+1)) v)))]) (Hin:=[.blk he [rB hj] 4,.blk hf [rP hb 0] 98,.bld 101 5 hb hl hk,.blk hg (Ac c) 54]) (Hr:=[.blk h0 (AZ hh.2.1) 86]) Tryz.call116 Aa Aa ((A6 (i:=1) Aa).trans (AcQ _ ((A6 (i:=1) Aa).trans (AcQ _ ((A6 (i:=1) Aa).trans (AcQ _ ((A6 (i:=1) Aa).trans (AcQ _ (AcK _))))))))) (hy he hf hb hl hg ((At v ha).fStr) (List.take (B8 ((ha+1)+hh.1)-B8 (ha+1)) (List.drop (B8 (ha+1)) v)) hj hk c hu hW) Aa ?_)))))))))))))))));rintro _ _ ⟨h1,rfl,rfl⟩;refine wv (B7 Aa) (An (cz hX Aa (λhY hZ=>?_) (λhY ga=>?_)))
    ·refine Ar (Ae (Au (Ae (Ae (AU ?_)))));have gb:=Bm hZ hm hs;refine Au ?_;obtain rfl:=Ap gb;exact Aq (Rk Rc) (sC (sC (sC (sC (sS sN))))) ⟨h1,Aa,Aa⟩
    ·refine As (A9 (Al (wm Aa (wm Aa (wv (Bh Aa Aa ht) (wa Aa (Ak (A7 (A9 (Al (ck ga λgc gd=>wv (Bh Aa Aa gc) (wm Aa (Ak ?_)))))))))))));have ge:=AY gd hm;exact Ax (Av (hz,((ha+1)+hh.1,hp+1,hu.2.1,hu.2.2),h1) ⟨ge,AcR _⟩ (A4.c5 Aa Aa Aa Aa Aa A4.nil) (sC (sC (sC (sC (sS sN))))))
   ·refine As (A9 (Ah (wm Aa (wm Aa (ck hH λgf gg=>wv (r:=AB 4 (A1 Ac (List.drop (B8 ha) v))) (EI Br Bx Aa Aa gf) (ob gg λhi gh gi=>BI T3 (JV F (List.drop (B8 ha) v) hi gh) Aa (wm Aa (wv (A0 Aa Aa) (wv (A0 Aa Aa) (wv (A0 Aa Aa) (Cg (cs:=[Ai 0,Ai 0,rB false,rB false]) Rb Aa Aa (λh3=>?_))))))))))));refine wa Aa (Bg (i:=0) I8 Aa Aa Aa (B3.c Aa) Aa Aa (cs':=[Ai hi.2.1.fDepth,Ai hi.2.1.fBytes,rB hi.2.1.fOutside,rB hi.2.1.fLong]) Aa (H':=[.blk h3 (AZ hi.2.1) 86,.blk he [rB hj] 4,.blk hf [rP hb 0] 98,.bld 101 5 hb hl hk,.blk hg (Ac c) 54]) Aa (wa Aa (An (Ao (Ah (wm Aa (wm Aa (wm Aa (wm Aa (wm Aa (wm Aa (ck gi λhw gj=>wv (Bh Aa Aa hw) (wm Aa (wm Aa (wv (Bh Aa Aa hw) (ck gj λgl gm=>ck gm λgp gq=>wv (r:=AB 4 (A1 Ac (List.take (B8 (ha+hi.1)-B8 ha) (List.drop (B8 ha) v)))) (Hp Br Bx Aa Aa Aa Aa gl gp) (ob gq λhx gr gs=>DB (rs:=[rS ([]:Am),AB 4 (A1 Ac (List.take (B8 (ha+hi.1)-B8 ha) (List.drop (B8 ha) v)))]) (Hin:=[.blk he [rB hj] 4,.blk hf [rP hb 0] 98,.bld 101 5 hb hl hk,.blk hg (Ac c) 54]) (Hr:=[.blk h3 (AZ hi.2.1) 86]) Tryz.call116 Aa Aa ((A6 (i:=1) Aa).trans (AcQ _ ((A6 (i:=1) Aa).trans (AcQ _ ((A6 (i:=1) Aa).trans (AcQ _ ((A6 (i:=1) Aa).trans (AcQ _ (AcK _))))))))) (hy he hf hb hl hg ([]:Am) (List.take (B8 (ha+hi.1)-B8 ha) (List.drop (B8 ha) v)) hj hk c hx gr) Aa ?_)))))))))))))))));rintro _ _ ⟨h4,rfl,rfl⟩;refine wv (B7 Aa) (An (cz gs Aa (λgt gu=>?_) (λgt gv=>?_)))
    ·refine Ar (Ae (Au (Ae (Ae (AU ?_)))));have gw:=Bm gu hm hs;refine Au ?_;obtain rfl:=Ap gw;exact Aq (Rk Rc) (sC (sC (sC (sC (sS sN))))) ⟨h4,Aa,Aa⟩
    ·refine As (A9 (Al (wm Aa (wm Aa (wv (Bh Aa Aa hw) (wa Aa (Ak (A7 (A9 (Al (ck gv λgx gy=>wv (Bh Aa Aa gx) (wm Aa (Ak ?_)))))))))))));have gz:=AY gy hm;exact Ax (Av (hz,(ha+hi.1,hp+1,hx.2.1,hx.2.2),h4) ⟨gz,AcR _⟩ (A4.c5 Aa Aa Aa Aa Aa A4.nil) (sC (sC (sC (sC (sS sN))))))
  ·refine Bt (Ay ?_);have g0:=BD hD hm hs;exact Ay (Bb (Av ((hj,hk),hl) g0 A4.nil (sC (sC (sC (sC sN))))))
 ·rintro⟨⟨h5,h6⟩,h7⟩ hr;refine Ci (l':=[]) (H':=[.blk he [rB h5] 4,.blk hf [rP hb 0] 98,.bld 101 5 hb h7 h6,.blk hg (Ac c) 54]) Aa Aa ?_;replace hr:Ip h5 h6=some r:=hr;unfold Ip at hr;refine Bf ?_;obtain rfl:=Ap hr;exact Hi (Rk Rc) (sC (sC (sC (sC sN)))) ⟨h7,Aa,Aa⟩
theorem Io:∀F:Nat,(∀(ha:Nat) (hb:Value) (l:Am) (v:(List Ab)) (r:Am),Hl F l v=some r→Fn Tryz.prog GE 87 [rP ha 0,AB 4 (A1 Ac v)] [.bld 101 5 ha hb l] (λR H=>∃w0b:Value,R=rv (.tuple #[])∧H=[.bld 101 5 ha w0b r]))∧(∀(he:Nat) (hf:Nat) (ha:Nat) (hb:Value) (hg:Nat) (key:Am) (x:(List Ab)) (first:Bool) (l:Am) (c:Ab) (r:Bool×Bool×Am),Gr F key x first l c=some r→Fn Tryz.prog GE 116 [rS key,AB 4 (A1 Ac x),rP he 0,rP hf 0,rP hg 0] [.blk he [rB first] 4,.blk hf [rP ha 0] 98,.bld 101 5 ha hb l,.blk hg (Ac c) 54] (λR H=>∃w3b:Value,R=rB r.1∧H=[.blk he [rB r.2.1] 4,.blk hf [rP ha 0] 98,.bld 101 5 ha w3b r.2.2,.blk hg (Ac c) 54]))∧(∀(he:Nat) (hf:Nat) (ha:Nat) (hb:Value) (hg:Nat) (v:(List Ab)) (first:Bool) (l:Am) (c:Ab) (r:Bool×Am),HN F v first l c=some r→Fn Tryz.prog GE 90 [AB 4 (A1 Ac v),rv (.func (.func 116) #[] #[(.pointer (some ⟨he,0,none⟩)),(.pointer (some ⟨hf,0,none⟩)),(.pointer (some ⟨hg,0,none⟩))])] [.blk he [rB first] 4,.blk hf [rP ha 0] 98,.bld 101 5 ha hb l,.blk hg (Ac c) 54] (λR H=>∃w1_1b:Value,R=rv (.tuple #[])∧H=[.blk he [rB r.1] 4,.blk hf [rP ha 0] 98,.bld 101 5 ha w1_1b r.2,.blk hg (Ac c) 54]))
  | 0=>⟨(λ_ _ _ _ _ h=>by simp[Hl] at h),(λ_ _ _ _ _ _ _ _ _ _ _ h=>by simp[Gr] at h),(λ_ _ _ _ _ _ _ _ _ _ h=>by simp[HN] at h)⟩
  | nn+1=>⟨(λha hb l v r h=>Vy nn (Gr nn) (HN nn) (Io nn).2.1 (Io nn).2.2 ha hb l v r (by rw[Hl] at h;exact h)),(λhe hf ha hb hg key x first l c r h=>T6 nn (Hl nn) (Io nn).1 he hf ha hb hg key x first l c r (by rw[Gr] at h;exact h)),(λhe hf ha hb hg v first l c r h=>T5 nn (Gr nn) (Io nn).2.1 he hf ha hb hg v first l c r (by rw[HN] at h;exact h))⟩
theorem WS (F:Nat)(ha:Nat)(hb:Value)(l:Am)(v:(List Ab))(r:Am)(h:Hl F l v=some r):Fn Tryz.prog GE 87 [rP ha 0,AB 4 (A1 Ac v)] [.bld 101 5 ha hb l] (λR H=>∃w0b:Value,R=rv (.tuple #[])∧H=[.bld 101 5 ha w0b r]):=(Io F).1 ha hb l v r h
theorem V4 (F:Nat)(v:(List Ab))(r:Am×Int)(h:Lf F v=some r):Fn Tryz.prog GE 49 [AB 4 (A1 Ac v)] [] (λR H=>R=CY [rS r.1,Ai r.2]∧H=[]):=by
 refine enter (n:=14) Tryz.func49 Aa Tryz.ntmps49 Aa (λw Z=>?_);unfold Lf at h;refine Ah (wv (r:=rS ([]:Am)) (AC Aa) (wa Aa (An (Ao (Ah (wm Aa (ob h λr1 e3 h2=>BI Qg (Gi F v r1 e3) Aa (wa Aa (Bd (wm Aa (wv (Bs Aa Aa) (An (cz h2 Aa (λc4 h5=>?_) (λc4 h6=>?_))))))))))))))
 ·refine Ah (wm Aa (wv (r:=rS ([]:Am)) (AC Aa) (wa Aa (An (Ar (Ae ?_))))));obtain rfl:=Ap h5;exact Aq (CM Tryz.results49 (A5 Aa) (A5 Aa)) sN ⟨Aa,Aa⟩
 ·refine As (A9 (Ah (Cg (cs:=[rv (.pointer none),rv (.slice none 0 0)]) Tryz.zeroValue101 Aa Aa (λb7=>?_))));refine Bd (wm Aa (WL.tobld (te:=5) (i:=0) Aa (ob h6 λr8 hb h9=>Gc (Hr:=[]) WF (WS F b7 (.slice none 0 0) ([]:Am) v r8 hb) Aa (AcK _) Aa ?_)));rintro _ _ ⟨ha,rfl,rfl⟩;refine Bd (ck h9 λhe hf=>Dq (rs:=[rP b7 0]) (Hin:=[.bld 101 5 b7 ha r8]) (Hr:=[]) Tryz.call88 Aa (AcK _) (Wx b7 ha r8  he) Aa ?_);rintro _ _ ⟨rfl,rfl⟩;refine wa Aa (wa Aa (An (Ar ?_)));obtain rfl:=Ap hf;exact Aq (CM Tryz.results49 (A5 Aa) (A5 Aa)) sN ⟨Aa,Aa⟩
end Go.Proofs.YtghdglcmblpbeaaGreatDoor.Q
namespace Go.Proofs.YtghdglcmblpbeaaGreatDoor
open Go
set_option linter.unusedVariables false
structure A3 where
 fS:Am
 fAt:Int
 fCells:(List Ab)
 fGreat:Bool
 deriving DecidableEq,Inhabited
def ID (s:Am)(p:Am):Option (Bool):=
 AS (imp (decide ((p.length:Int)≤(s.length:Int))) (GM (p.length:Int) (s.length:Int)))<|some ((decide ((p.length:Int)≤(s.length:Int)))&&(decide ((List.take (Int.toNat (p.length:Int)) s)=p)))
def Eg (s:Am)(p:Am):Option (Bool):=
 Bi (ID s p) λr1=>some r1
def E5 (q:A3)(s:Am):Option (Bool×A3):=
 AS (GM q.fAt (q.fS.length:Int))<|Bi (Eg (List.drop (Int.toNat q.fAt) q.fS) s) λr3=>AT (!r3) (some (false,q)) (AS (Bu .i64 (q.fAt+(s.length:Int)))<|some (true,(A3.mk q.fS (q.fAt+(s.length:Int)) q.fCells q.fGreat)))
def GN (ha:(List Int))(hb:Int)(he:Int):Option (Stp ((List Int)×Int) (Out (Am×Bool×A3) (Int))):=
 AS (DN 1 (ha.length+([hb]:List Int).length))<|some (.next (ha++([hb]:List Int),he))
def Ge (r1:Bool×A3)(hb:(List Int))(ha:Int):Option (Stp ((List Int)×Int) (Out (Am×Bool×A3) (Int))):=
 AT (decide (ha<(r1.2.fS.length:Int))) (AS (Co ha (r1.2.fS.length:Int))<|AS (Bu .i64 (ha+1))<|AT (decide ((BA r1.2.fS ha)=34)) (some (.out (.ret (YT hb,true,(A3.mk r1.2.fS (ha+1) r1.2.fCells r1.2.fGreat))))) (AT (((decide ((BA r1.2.fS ha)<32))||(decide (126<(BA r1.2.fS ha))))) (some (.out (.ret (([]:Am),false,(A3.mk r1.2.fS (ha+1) r1.2.fCells r1.2.fGreat))))) (AT (decide ((BA r1.2.fS ha)=92)) (AS (imp (!(decide ((r1.2.fS.length:Int)≤(ha+1)))) (Co (ha+1) (r1.2.fS.length:Int)))<|AT (((decide ((r1.2.fS.length:Int)≤(ha+1)))||((!decide ((BA r1.2.fS (ha+1))=34))&&(!decide ((BA r1.2.fS (ha+1))=92))))) (some (.out (.ret (([]:Am),false,(A3.mk r1.2.fS (ha+1) r1.2.fCells r1.2.fGreat))))) (AS (Co (ha+1) (r1.2.fS.length:Int))<|AS (Bu .i64 ((ha+1)+1))<|GN hb (BA r1.2.fS (ha+1)) ((ha+1)+1))) (GN hb (BA r1.2.fS ha) (ha+1))))) (some (.out (.go ha)))
def Jt (r1:Bool×A3)(ha:Int):Option (Am×Bool×A3):=
 some (([]:Am),false,(A3.mk r1.2.fS ha r1.2.fCells r1.2.fGreat))
def OZ (F:Nat)(q:A3):Option (Am×Bool×A3):=
 Bi (E5 q ([34]:Am)) λr1=>AT (!r1.1) (some (([]:Am),false,r1.2)) (Bi (BS (λσ=>Ge r1 σ.1 σ.2) F (([]:List Int),r1.2.fAt)) (BP λν=>Jt r1 ν))
def Gf (r1:Bool×A3)(ha:Int):Option (Stp (Int) (Out (Bool×A3) (Int))):=
 AS (imp (decide (ha<(r1.2.fS.length:Int))) (Co ha (r1.2.fS.length:Int)))<|AT (((decide (ha<(r1.2.fS.length:Int)))&&((decide (48≤(BA r1.2.fS ha)))&&(decide ((BA r1.2.fS ha)≤57))))) (AS (Bu .i64 (ha+1))<|some (.next (ha+1))) (some (.out (.go ha)))
def KA (q:A3)(r1:Bool×A3)(ha:Int):Option (Bool×A3):=
 AS (GM q.fAt ha)<|AS (GM ha (r1.2.fS.length:Int))<|AS (DN 1 (List.take (Int.toNat ha-Int.toNat q.fAt) (List.drop (Int.toNat q.fAt) r1.2.fS)).length)<|AT (((decide ((CO (List.take (Int.toNat ha-Int.toNat q.fAt) (List.drop (Int.toNat q.fAt) r1.2.fS)))=1))||(decide (r1.2.fAt=ha)))) (some (false,(A3.mk r1.2.fS ha r1.2.fCells r1.2.fGreat))) (AS (DN 40 (r1.2.fCells.length+([(Ab.mk 3 (Da (List.take (Int.toNat ha-Int.toNat q.fAt) (List.drop (Int.toNat q.fAt) r1.2.fS))) ([]:Am) 0)]:List Ab).length))<|some (true,(A3.mk r1.2.fS ha (r1.2.fCells++([(Ab.mk 3 (Da (List.take (Int.toNat ha-Int.toNat q.fAt) (List.drop (Int.toNat q.fAt) r1.2.fS))) ([]:Am) 0)]:List Ab)) (r1.2.fGreat||(!decide ((CO (List.take (Int.toNat ha-Int.toNat q.fAt) (List.drop (Int.toNat q.fAt) r1.2.fS)))=0))))))
def Pa (F:Nat)(q:A3):Option (Bool×A3):=
 Bi (E5 q ([45]:Am)) λr1=>Bi (BS (λσ=>Gf r1 σ) F r1.2.fAt) (BP λν=>KA q r1 ν)
def E7 (ha:Am)(hb:Int)(he:(List Ab))(hf:Bool):Option (Bool×A3):=
 some (true,(A3.mk ha hb he hf))
def Ju (F:Nat)(q:A3):Option (Bool×A3):=
 Bi (E5 q ([110,117,108,108]:Am)) λhe=>AT (he.1) (AS (DN 40 (he.2.fCells.length+([(Ab.mk 1 0 ([]:Am) 0)]:List Ab).length))<|E7 he.2.fS he.2.fAt (he.2.fCells++([(Ab.mk 1 0 ([]:Am) 0)]:List Ab)) he.2.fGreat) (Bi (E5 he.2 ([116,114,117,101]:Am)) λhf=>AT (hf.1) (AS (DN 40 (hf.2.fCells.length+([(Ab.mk 2 1 ([]:Am) 0)]:List Ab).length))<|E7 hf.2.fS hf.2.fAt (hf.2.fCells++([(Ab.mk 2 1 ([]:Am) 0)]:List Ab)) hf.2.fGreat) (Bi (E5 hf.2 ([102,97,108,115,101]:Am)) λha=>AT (ha.1) (AS (DN 40 (ha.2.fCells.length+([(Ab.mk 2 0 ([]:Am) 0)]:List Ab).length))<|E7 ha.2.fS ha.2.fAt (ha.2.fCells++([(Ab.mk 2 0 ([]:Am) 0)]:List Ab)) ha.2.fGreat) (AS (GM ha.2.fAt (ha.2.fS.length:Int))<|Bi (Eg (List.drop (Int.toNat ha.2.fAt) ha.2.fS) ([34]:Am)) λhh=>AT (hh) (Bi (OZ F ha.2) λhb=>AT (!hb.2.1) (some (false,hb.2.2)) (AS (DN 40 (hb.2.2.fCells.length+([(Ab.mk 4 0 hb.1 0)]:List Ab).length))<|E7 hb.2.2.fS hb.2.2.fAt (hb.2.2.fCells++([(Ab.mk 4 0 hb.1 0)]:List Ab)) hb.2.2.fGreat)) (Bi (Pa F ha.2) λhg=>some (hg.1,hg.2)))))
def Gu (hg:A3→Option (Bool×A3))(x16:(List Ab))(he:Int)(hh:Am)(hi:Int)(hj:(List Ab))(hk:Bool):Option (Stp (Int×Am×Int×(List Ab)×Bool) (Out (Bool×A3) (Unit))):=
 Bi (hg (A3.mk hh hi hj hk)) λha=>AT (!ha.1) (some (.out (.ret (false,ha.2)))) (AS (Co (x16.length:Int) (ha.2.fCells.length:Int))<|No (List.set ha.2.fCells (Int.toNat (x16.length:Int)) (Ab.mk ((At ha.2.fCells (x16.length:Int)).fKind) ((At ha.2.fCells (x16.length:Int)).fInt) ((At ha.2.fCells (x16.length:Int)).fStr) he)) λhl=>Bi (E5 (A3.mk ha.2.fS ha.2.fAt hl ha.2.fGreat) ([93]:Am)) λhf=>AT (hf.1) (some (.out (.ret (true,hf.2)))) (Bi (E5 hf.2 ([44]:Am)) λhb=>AT (!hb.1) (some (.out (.ret (false,hb.2)))) (AS (Bu .i64 (he+1))<|some (.next (he+1,hb.2.fS,hb.2.fAt,hb.2.fCells,hb.2.fGreat)))))
def Ir :Option (Bool×A3):=
 none
def CL (hl:A3→Option (Bool×A3))(x16:(List Ab))(he:Int)(hf:Am×Bool×A3)(ho:Bool)(hp:Bool)(hm:Bool)(hi:Am)(hj:Int)(hg:(List Ab))(hk:Bool):Option (Stp (Am×Int×Am×Int×(List Ab)×Bool) (Out (Bool×A3) (Unit))):=
 AT (hm) (some (.out (.ret (false,(A3.mk hi hj hg hk))))) (AS (DN 40 (hg.length+([(Ab.mk 4 0 hf.1 0)]:List Ab).length))<|Bi (hl (A3.mk hi hj (hg++([(Ab.mk 4 0 hf.1 0)]:List Ab)) hk)) λha=>AT (!ha.1) (some (.out (.ret (false,ha.2)))) (AS (Co (x16.length:Int) (ha.2.fCells.length:Int))<|No (List.set ha.2.fCells (Int.toNat (x16.length:Int)) (Ab.mk ((At ha.2.fCells (x16.length:Int)).fKind) ((At ha.2.fCells (x16.length:Int)).fInt) ((At ha.2.fCells (x16.length:Int)).fStr) he)) λhn=>Bi (E5 (A3.mk ha.2.fS ha.2.fAt hn ha.2.fGreat) ([125]:Am)) λhh=>AT (hh.1) (some (.out (.ret (true,hh.2)))) (Bi (E5 hh.2 ([44]:Am)) λhb=>AT (!hb.1) (some (.out (.ret (false,hb.2)))) (AS (Bu .i64 (he+1))<|some (.next (hf.1,he+1,hb.2.fS,hb.2.fAt,hb.2.fCells,hb.2.fGreat))))))
def Gt (F:Nat)(hh:A3→Option (Bool×A3))(x16:(List Ab))(hb:Am)(he:Int)(hi:Am)(hj:Int)(hk:(List Ab))(hl:Bool):Option (Stp (Am×Int×Am×Int×(List Ab)×Bool) (Out (Bool×A3) (Unit))):=
 Bi (OZ F (A3.mk hi hj hk hl)) λha=>AT (!ha.2.1) (CL hh x16 he ha true true true ha.2.2.fS ha.2.2.fAt ha.2.2.fCells ha.2.2.fGreat) (AT (decide (1<he)) (AT (DI ha.1 hb||decide (ha.1=hb)) (CL hh x16 he ha (DI ha.1 hb||decide (ha.1=hb)) (DI ha.1 hb||decide (ha.1=hb)) true ha.2.2.fS ha.2.2.fAt ha.2.2.fCells ha.2.2.fGreat) (Bi (E5 ha.2.2 ([58]:Am)) λhf=>CL hh x16 he ha (DI ha.1 hb||decide (ha.1=hb)) (DI ha.1 hb||decide (ha.1=hb)) (!hf.1) hf.2.fS hf.2.fAt hf.2.fCells hf.2.fGreat)) (Bi (E5 ha.2.2 ([58]:Am)) λhg=>CL hh x16 he ha false false (!hg.1) hg.2.fS hg.2.fAt hg.2.fCells hg.2.fGreat))
def Iq :Option (Bool×A3):=
 none
def E6 (F:Nat)(hh:A3→Option (Bool×A3))(r1:Bool×A3)(hj:Bool)(he:Am)(hf:Int)(x16:(List Ab))(hg:Bool):Option (Bool×A3):=
 AT (hj) (Bi (Ju F (A3.mk he hf x16 hg)) λhi=>some (hi.1,hi.2)) (AT (r1.1) (AS (DN 40 (x16.length+([(Ab.mk 5 0 ([]:Am) 0)]:List Ab).length))<|Bi (E5 (A3.mk he hf (x16++([(Ab.mk 5 0 ([]:Am) 0)]:List Ab)) hg) ([93]:Am)) λha=>AT (ha.1) (some (true,ha.2)) (Bi (BS (λσ=>Gu hh x16 σ.1 σ.2.1 σ.2.2.1 σ.2.2.2.1 σ.2.2.2.2) F (1,ha.2.fS,ha.2.fAt,ha.2.fCells,ha.2.fGreat)) (BP λν=>Ir ))) (AS (DN 40 (x16.length+([(Ab.mk 6 0 ([]:Am) 0)]:List Ab).length))<|Bi (E5 (A3.mk he hf (x16++([(Ab.mk 6 0 ([]:Am) 0)]:List Ab)) hg) ([125]:Am)) λhb=>AT (hb.1) (some (true,hb.2)) (Bi (BS (λσ=>Gt F hh x16 σ.1 σ.2.1 σ.2.2.1 σ.2.2.2.1 σ.2.2.2.2.1 σ.2.2.2.2.2) F (([]:Am),1,hb.2.fS,hb.2.fAt,hb.2.fCells,hb.2.fGreat)) (BP λν=>Iq ))))
def Mp (F:Nat)(hb:A3→Option (Bool×A3))(q:A3):Option (Bool×A3):=
 Bi (E5 q ([91]:Am)) λr1=>AT (!r1.1) (Bi (E5 r1.2 ([123]:Am)) λha=>E6 F hb r1 (!ha.1) ha.2.fS ha.2.fAt ha.2.fCells ha.2.fGreat) (E6 F hb r1 false r1.2.fS r1.2.fAt r1.2.fCells r1.2.fGreat)
def CQ:Nat→A3→Option (Bool×A3)
 | 0,_=>none
 | nn+1,q=>Mp nn (CQ nn) q
def Hm (F:Nat)(hb:Bool)(hg:Am)(hh:Int)(he:(List Ab))(hf:Bool):Option ((List Ab)×Int):=
 AT (hb) (some (([]:List Ab),1)) (AT (hf) (some (([]:List Ab),2)) (Bi (Gh F he) λha=>some (ha.1,ha.2)))
def Mw (F:Nat)(s:Am):Option ((List Ab)×Int):=
 AT (decide (4000<(s.length:Int))) (some (([]:List Ab),3)) (Bi (CQ F (A3.mk s 0 ([]:List Ab) false)) λha=>AT (!ha.1) (Hm F true ha.2.fS ha.2.fAt ha.2.fCells ha.2.fGreat) (Hm F (!decide (ha.2.fAt=(s.length:Int))) ha.2.fS ha.2.fAt ha.2.fCells ha.2.fGreat))
end Go.Proofs.YtghdglcmblpbeaaGreatDoor
