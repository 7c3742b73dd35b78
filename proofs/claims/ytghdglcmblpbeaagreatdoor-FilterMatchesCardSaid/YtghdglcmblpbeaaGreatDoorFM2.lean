/-
  Texts of the proof, put together: PlC, IdC, ShelfV, PlD, PlE, FwJ, IdR, QG, QO, RowQ, PQB, WQB, PVa, WVa, PVb, WVb, PVc, WVc, PVd.
-/
import Derived.Test.YtghdglcmblpbeaaGreatDoorFM1
import Derived.Lib.AtoiAllCases
import Derived.Lib.ItoaNum
import Derived.Lib.ItoaLen
import Derived.Shelf.Strings.Builder1
import Derived.Shelf.Strings.Count
import Derived.Shelf.Strings.Search1
import Derived.Shelf.Strings.Search2
import Derived.Shelf.Strings.Search3
import Derived.Shelf.Small.Strs
import Derived.Shelf.LaysM
import Derived.Shelf.LaysC
import Derived.Test.YtghdglcmblpbeaaGreatDoorProg
import Derived.Lib.ItoaMem
import Derived.Deep.Slices
import Derived.ChangeArms
import Derived.DataReads
import Derived.Laws.Tables
import Derived.Lib.Bytealg
import Derived.Lib.SmallJoins
namespace Go.Proofs.YtghdglcmblpbeaaGreatDoor
open Go
def US (p:List UInt8):Bool:=decide ((0:Int)<p.length)&&decide (Ck p 0=45)
def MR (p:List UInt8):List UInt8:=if US p=true then p.drop 1 else p
theorem Un (p:List UInt8):(MR p).length≤p.length:=by unfold MR;split<;>simp
def Ey (_:Nat)(u:UInt8):Bool:=!(decide ((u.toNat:Int)<48)||decide (57<(u.toNat:Int)))
def O3 (p:List UInt8):Bool:=!(decide (MR p=[])||(decide (Ck (MR p) 0=48)&&!decide (p=[48])))&&Cb Ey 0 (MR p)
theorem GK {p:List UInt8}(h : ¬ p=[]):(0:Int)<p.length:=by
 cases p with
 | nil=>exact absurd rfl h
 | cons a r=>simp
theorem N8 {p:List UInt8}{k:Nat}(h:(k:Int)<p.length):∃u,p[k]? =some u:=⟨p[k]'(by omega),Yc (by omega)⟩
theorem Uo {p:List UInt8}{k:Nat}(hi:k≤p.length∧Cb Ey 0 p=Cb Ey k (p.drop k))(h:(k:Int)<p.length)(ht:(decide (Ck p k<48)||decide (57<Ck p k))=false) :
  (k+1≤p.length∧Cb Ey 0 p=Cb Ey (k+1) (p.drop (k+1)))∧p.length-(k+1)<p.length-k:=by
 obtain⟨u,hu⟩:=N8 h;rw[U5 hu] at ht;exact Tt hi hu (by simp only[Ey,ht];rfl)
theorem WF {p:List UInt8}{k:Nat}(hi:k≤p.length∧Cb Ey 0 p=Cb Ey k (p.drop k))(h:(k:Int)<p.length)(ht:(decide (Ck p k<48)||decide (57<Ck p k))=true):Cb Ey 0 p=false:=by
 obtain⟨u,hu⟩:=N8 h;rw[U5 hu] at ht;exact VW hi hu (by simp only[Ey,ht];rfl)
theorem V1 {p:List UInt8}{k:Nat}(hi:k≤p.length∧Cb Ey 0 p=Cb Ey k (p.drop k))(h : ¬ (k:Int)<p.length):Cb Ey 0 p=true:=UU hi (by omega)
def CL (p:List UInt8):Int:=if O3 p=true then(match Lib.atoiAll p with | .ok v=>if Mg v=true then 0 else 2 | _=>2) else 1
def CP (p:List UInt8):Int:=if O3 p=true then(match Lib.atoiAll p with | .ok v=>if Mg v=true then v else 0 | _=>0) else 0
theorem MS:∀(l:List UInt8) (i acc:Nat),Cb Ey i l=true→(∃u,Lib.parseUint10 acc l = .ok u)∨Lib.parseUint10 acc l = .range
 | [],_,acc,_=>.inl ⟨acc,rfl⟩
 | c::r,i,acc,h=>by
  simp only[Cb,Ya] at h;have hc:48≤c.toNat∧c.toNat≤57:=by have:=h.1;simp[Ey] at this;omega
  unfold Lib.parseUint10;rw[if_pos hc]
  split
  ·exact .inr rfl
  ·split
   ·exact .inr rfl
   ·exact MS r _ _ h.2
theorem Rk {l:List UInt8}(hne:l≠[])(h:Cb Ey 0 l=true):(∃u,Lib.parseMag l = .ok u)∨Lib.parseMag l = .range:=by
 unfold Lib.parseMag;rw[YJ hne];exact MS l 0 0 h
theorem NX {e:Lib.NumEnd Nat}(h:(∃u,e = .ok u)∨e = .range):(∃v,Lib.signless e = .ok v)∨Lib.signless e = .range:=by
 rcases h with⟨u,rfl⟩ | rfl
 ·unfold Lib.signless
  by_cases h:9223372036854775808≤u
  ·exact .inr (by simp[h])
  ·exact .inl ⟨_,by simp[h];rfl⟩
 ·exact .inr rfl
theorem Qm {e:Lib.NumEnd Nat}(h:(∃u,e = .ok u)∨e = .range):(∃v,Lib.signed e = .ok v)∨Lib.signed e = .range:=by
 rcases h with⟨u,rfl⟩ | rfl
 ·unfold Lib.signed
  by_cases h:9223372036854775808<u
  ·exact .inr (by simp[h])
  ·exact .inl ⟨_,by simp[h];rfl⟩
 ·exact .inr rfl
theorem U7 {p:List UInt8}(h:O3 p=true):(∃v,Lib.atoiAll p = .ok v∧-9223372036854775808≤v∧v≤9223372036854775807)∨Lib.atoiAll p = .range:=by
 have key:(∃v,Lib.atoiAll p = .ok v)∨Lib.atoiAll p = .range:=by
  simp only[O3,Ya,Yk,Yw,XW] at h;obtain⟨⟨hne,_⟩,hall⟩:=h
  cases p with
  | nil=>simp[MR,US] at hne
  | cons c r=>
   by_cases hc:c=45
   ·subst hc;have hd:MR (45::r)=r:=by simp[MR,US,Ck]
    rw[hd] at hne hall;rw[Lib.atoiAll_minus];exact Qm (Rk hne hall)
   ·have hb : ¬ Ck (c::r) 0=45:=by
     simp only[Ck,Int.toNat_zero,List.getElem?_cons_zero,Yv];intro e;exact hc (UInt8.toNat_inj.1 (by simpa using(by omega:c.toNat=45)))
    have hd:MR (c::r)=c::r:=by simp[MR,US,hb]
    rw[hd] at hne hall;have ha:48≤c.toNat:=by
     simp only[Cb,Ya] at hall;have:=hall.1;simp[Ey] at this;omega
    rw[Lib.atoiAll_plain c r (by omega) (by omega)];exact NX (Rk hne hall)
 rcases key with⟨v,hv⟩ | h
 ·exact .inl ⟨v,hv,Lib.atoiAll_bounds hv⟩
 ·exact .inr h
open Go Go.RowKit
set_option linter.unusedVariables false
set_option linter.unusedSimpArgs false
set_option maxRecDepth 100000
theorem S9 (p:List UInt8)(hp:p.length≤281474976710656)(w:World):Calls Tryz.prog 157 [.string (B (p))].toArray w (OD w (.bool (O3 p))):=by
 refine O2 (n:=43) Tryz.func157 rfl Tryz.ntmps157 rfl (Am (Aj (B7 (AE rfl) rfl (Ai (Av (BV ?_))))));refine Am (Aj (B7 (A2 rfl) rfl (B7 (AE rfl) rfl (Ai (Av (BV ?_))))));refine AC [(0,.string (B (p))),(2,.bool (false)),(3,.string (B ((if ((decide ((0)<((p.length:Int))))&&(decide ((Ck p 0)=(45))))=true then List.drop (Int.toNat (1)) p else p))))] [] (φ:=True) ?_ (λh1=>?_)
 ·refine AC [(0,.string (B (p))),(2,.bool (false)),(3,.string (B (p))),(13,.bool (((decide ((0)<((p.length:Int))))&&(decide ((Ck p 0)=(45))))))] [] (φ:=True) ?_ (λh2=>?_)
  ·refine Aj (B7 (A2 rfl) rfl (B7 (BM D2 rfl) rfl (B7 (CC rfl rfl) rfl (B7 (A2 rfl) rfl (AN (decide ((0)<((p.length:Int)))) (λhe=>?_) (λhe=>?_))))))
   ·have g19:=he;try simp only[XU,XW] at g19
    have hl:=he;try simp at hl
    refine AQ rfl rfl he (B7 (A2 rfl) rfl (AQ rfl rfl he (B7 (BC D2 rfl rfl (by first | omega | exact GK (by assumption)) (by first | omega | exact GK (by assumption))) rfl (AQ rfl rfl he (B7 (Be rfl rfl) rfl (B7 (Ax rfl he rfl) rfl (Ai ?_)))))));exact Av (DO trivial ⟨rfl,rfl,rfl,fb (by first | (simp only[he,Yl,Yt,Yx,Yo,Y1,Ys,Yz,Y0,Yj,Yr,Yg,Yb,if_true,YH,reduceIte,Y9];done) | simp[he]),trivial⟩ .slnil)
   ·have g19:=he;try simp only[XU,XW] at g19
    have hl:=he;try simp at hl
    refine CZ rfl rfl he rfl (CZ rfl rfl he rfl (CZ rfl rfl he rfl (B7 (At rfl he rfl) rfl (Ai ?_))));exact Av (DO trivial ⟨rfl,rfl,rfl,fb (by first | (simp only[he,Yl,Yt,Yx,Yo,Y1,Ys,Yz,Y0,Yj,Yr,Yg,Yb,if_true,YH,reduceIte,Y9];done) | simp[he]),trivial⟩ .slnil)
  refine G6 (b:=((decide ((0)<((p.length:Int))))&&(decide ((Ck p 0)=(45))))) rfl (λhh=>?_) (λhh=>?_)
  ·have hm:=hh;try simp only[XU,XW] at hm
   have hn:=hh;try simp at hn
   refine Aj (B7 (A2 rfl) rfl (B7 (HY D2 rfl rfl (by first | omega | (simp;omega)) (by first | omega | (simp;omega))) rfl (B7 (AE rfl) rfl (Ai ?_))));exact Av (DO trivial ⟨rfl,rfl,fs (by first | (simp only[hh,Yl,Yt,Yx,Yo,Y1,Ys,Yz,Y0,Yj,Yr,Yg,Yb,if_true,YH,reduceIte,Y9];done) | simp[hh]),trivial⟩ .slnil)
  ·have hm:=hh;try simp only[XU,XW] at hm
   have hn:=hh;try simp at hn
   refine Aq ?_;exact Av (DO trivial ⟨rfl,rfl,fs (by first | (simp only[hh,Yl,Yt,Yx,Yo,Y1,Ys,Yz,Y0,Yj,Yr,Yg,Yb,if_true,YH,reduceIte,Y9];done) | simp[hh]),trivial⟩ .slnil)
 have hdg:MR p=(if ((decide ((0)<((p.length:Int))))&&(decide ((Ck p 0)=(45))))=true then List.drop (Int.toNat (1)) p else p):=rfl;have hdl:=Un p;rw[hdg] at hdl;generalize(if ((decide ((0)<((p.length:Int))))&&(decide ((Ck p 0)=(45))))=true then List.drop (Int.toNat (1)) p else p)=dg at hdg hdl ⊢;refine Am (AC [(2,.bool (false)),(3,.string (B (dg))),(26,.bool (((decide ((dg)=(([]:List UInt8))))||((decide ((Ck dg 0)=(48)))&&(!(decide ((p)=(([48]:List UInt8)))))))))] [] (φ:=True) ?_ (λh3=>?_))
 ·refine Aj (B7 (A2 rfl) rfl (B7 (DM rfl rfl) rfl (B7 (A2 rfl) rfl (AN (decide ((dg)=(([]:List UInt8)))) (λha=>?_) (λha=>?_)))))
  ·have ho:=ha;try simp only[XU,XW] at ho
   have hq:=ha;try simp at hq
   refine CZ rfl rfl ha rfl (CZ rfl rfl ha rfl (CZ rfl rfl ha rfl (CZ rfl rfl ha rfl (J6 rfl rfl rfl (J6 rfl rfl rfl (CZ rfl rfl ha rfl (B7 (Ax rfl ha rfl) rfl (Ai ?_))))))));exact Av (DO trivial ⟨rfl,rfl,fb (by first | (simp only[ha,Yl,Yt,Yx,Yo,Y1,Ys,Yz,Y0,Yj,Yr,Yg,Yb,if_true,YH,reduceIte,Y9];done) | simp[ha]),trivial⟩ .slnil)
  ·have ho:=ha;try simp only[XU,XW] at ho
   have hq:=ha;try simp at hq
   refine AQ rfl rfl ha (B7 (A2 rfl) rfl (AQ rfl rfl ha (B7 (BC D2 rfl rfl (by first | omega | exact GK (by assumption)) (by first | omega | exact GK (by assumption))) rfl (AQ rfl rfl ha (B7 (Be rfl rfl) rfl (AQ rfl rfl ha (B7 (A2 rfl) rfl (AN (decide ((Ck dg 0)=(48))) (λhf=>?_) (λhf=>?_)))))))))
   ·have hr:=hf;try simp only[XU,XW] at hr
    have hs:=hf;try simp at hs
    refine AQ rfl rfl hf (B7 (A2 rfl) rfl (AQ rfl rfl hf (B7 (EJ rfl rfl) rfl (AQ rfl rfl ha (B7 (Ax rfl hf rfl) rfl (B7 (At rfl ha rfl) rfl (Ai ?_)))))));exact Av (DO trivial ⟨rfl,rfl,fb (by first | (simp only[ha,hf,Yl,Yt,Yx,Yo,Y1,Ys,Yz,Y0,Yj,Yr,Yg,Yb,if_true,YH,reduceIte,Y9];done) | simp[ha,hf]),trivial⟩ .slnil)
   ·have hr:=hf;try simp only[XU,XW] at hr
    have hs:=hf;try simp at hs
    refine CZ rfl rfl hf rfl (CZ rfl rfl hf rfl (AQ rfl rfl ha (B7 (At rfl hf rfl) rfl (B7 (At rfl ha rfl) rfl (Ai ?_)))));exact Av (DO trivial ⟨rfl,rfl,fb (by first | (simp only[ha,hf,Yl,Yt,Yx,Yo,Y1,Ys,Yz,Y0,Yj,Yr,Yg,Yb,if_true,YH,reduceIte,Y9];done) | simp[ha,hf]),trivial⟩ .slnil)
 refine G6 (b:=((decide ((dg)=(([]:List UInt8))))||((decide ((Ck dg 0)=(48)))&&(!(decide ((p)=(([48]:List UInt8)))))))) rfl (λhg=>?_) (λhg=>?_)
 ·have ht:=hg;try simp only[XU,XW] at ht
  have hu:=hg;try simp at hu
  refine Am (Aj (B7 (AE rfl) rfl (Ai (Av (BV ?_)))));refine Ap (Ac (Ao (Bq rfl rfl) ?_));exact NZ (by simp only[O3,hdg,hg];rfl)
 ·have ht:=hg;try simp only[XU,XW] at ht
  have hu:=hg;try simp at hu
  refine Aq (Av (BV ?_));refine Am (Am (Aj (B7 (A2 rfl) rfl (B7 (BM D2 rfl) rfl (B7 (A2 rfl) rfl (Ai (Av (BV ?_))))))));refine A5 (NR (S:=Nat) (λ(k:Nat)=>k≤dg.length∧Cb Ey 0 dg=Cb Ey k (dg.drop k)) (λ(k:Nat)=>[(29,.int .i64 ((k:Int))),(3,.string (B (dg))),(28,.int .i64 ((dg.length:Int)))]) (λ(k:Nat)=>[]) (λ(k:Nat)=>dg.length-k) (0) ?_ ⟨fi (by first | rfl | (simp;done) | omega | (simp;omega)),rfl,rfl,trivial⟩ .slnil ?_)
  ·exact⟨Y8 _,by simp⟩
  rintro k hi0;refine Am (Aj (B7 (Cc rfl rfl) rfl (Ai (Av (BV ?_)))));refine Am (G6 (b:=decide (((k:Int))<((dg.length:Int)))) rfl (λhi=>?_) (λhi=>?_))
  ·have hk:=hi;try simp only[XU,XW] at hk
   have hw:=hi;try simp at hw
   refine Aq (Av (BV ?_));refine Am (A5 (Am (Aj (B7 (A2 rfl) rfl (B7 (AE rfl) rfl (Ai (Av (BV ?_))))))));refine AC [(3,.string (B (dg))),(4,.int .i64 ((k:Int))),(28,.int .i64 ((dg.length:Int))),(29,.int .i64 ((k:Int))),(30,.bool (decide (((k:Int))<((dg.length:Int))))),(31,.int .i64 ((k:Int))),(32,.string (B (dg))),(33,.int .i64 ((k:Int))),(34,.int .u8 (Ck dg (k:Int))),(35,.bool (decide ((Ck dg (k:Int))<(48)))),(36,.bool (decide ((Ck dg (k:Int))<(48)))),(41,.bool (((decide ((Ck dg (k:Int))<(48)))||(decide ((57)<(Ck dg (k:Int)))))))] [] (φ:=True) ?_ (λh4=>?_)
   ·refine Aj (B7 (A2 rfl) rfl (B7 (A2 rfl) rfl (B7 (BC D2 rfl rfl (by first | omega | exact GK (by assumption)) (by first | omega | exact GK (by assumption))) rfl (B7 (Cc rfl rfl) rfl (B7 (A2 rfl) rfl (AN (decide ((Ck dg (k:Int))<(48))) (λhb=>?_) (λhb=>?_)))))))
    ·have hx:=hb;try simp only[XU,XW] at hx
     have hy:=hb;try simp at hy
     refine CZ rfl rfl hb rfl (CZ rfl rfl hb rfl (CZ rfl rfl hb rfl (CZ rfl rfl hb rfl (B7 (Ax rfl hb rfl) rfl (Ai ?_)))));exact Av (DO trivial ⟨rfl,rfl,rfl,rfl,rfl,rfl,rfl,rfl,rfl,rfl,rfl,fb (by first | (simp only[hg,hi,hb,Yl,Yt,Yx,Yo,Y1,Ys,Yz,Y0,Yj,Yr,Yg,Yb,if_true,YH,reduceIte,Y9];done) | simp[hg,hi,hb]),trivial⟩ .slnil)
    ·have hx:=hb;try simp only[XU,XW] at hx
     have hy:=hb;try simp at hy
     refine AQ rfl rfl hb (B7 (A2 rfl) rfl (AQ rfl rfl hb (B7 (A2 rfl) rfl (AQ rfl rfl hb (B7 (BC D2 rfl rfl (by first | omega | exact GK (by assumption)) (by first | omega | exact GK (by assumption))) rfl (AQ rfl rfl hb (B7 (CC rfl rfl) rfl (B7 (At rfl hb rfl) rfl (Ai ?_)))))))));exact Av (DO trivial ⟨rfl,rfl,rfl,rfl,rfl,rfl,rfl,rfl,rfl,rfl,rfl,fb (by first | (simp only[hg,hi,hb,Yl,Yt,Yx,Yo,Y1,Ys,Yz,Y0,Yj,Yr,Yg,Yb,if_true,YH,reduceIte,Y9];done) | simp[hg,hi,hb]),trivial⟩ .slnil)
   refine G6 (b:=((decide ((Ck dg (k:Int))<(48)))||(decide ((57)<(Ck dg (k:Int)))))) rfl (λhj=>?_) (λhj=>?_)
   ·have hz:=hj;try simp only[XU,XW] at hz
    have h0:=hj;try simp at h0
    refine Am (Aj (B7 (AE rfl) rfl (Ai (Av (BV ?_)))));refine Ap (As (Ac (Ac (As (Ac (Ao (Bq rfl rfl) ?_))))));exact NZ (by simp[O3,hdg,WF hi0 hk hj])
   ·have hz:=hj;try simp only[XU,XW] at hz
    have h0:=hj;try simp at h0
    refine Aq (A3 (Av (BV ?_)));refine Aj (B7 (Bd rfl rfl (IntWalk.i64_in _ (by omega))) rfl (B7 (A2 rfl) rfl (Ai (Av (Ar (k+1) ?_ ⟨fi (by first | rfl | (simp;done) | omega | (simp;omega)),rfl,rfl,trivial⟩ .slnil)))));exact Uo hi0 hk hj
  ·have hk:=hi;try simp only[XU,XW] at hk
   have hw:=hi;try simp at hw
   refine Bi (Aw (Aw (AV (Av (BV ?_)))));refine Am (Aj (B7 (AE rfl) rfl (Ai (Av (BV ?_)))));refine Ap (Ao (Bq rfl rfl) ?_);exact NZ (by simp only[O3,hdg,hg,V1 hi0 hk];rfl)
theorem Ub (m:Int)(h0 : -9223372036854775808≤m)(h1:m≤9223372036854775807)(w:World)(hE:R6 w):Calls Tryz.prog 113 [.int .i64 (m)].toArray w (OD w (.string (B (Lib.itoa m)))):=by
 refine O2 (n:=5) Tryz.func113 rfl Tryz.ntmps113 rfl (Am (Aj (B7 (AE rfl) rfl (Ai (Av (BV ?_))))));refine Am (Aj (B7 (A2 rfl) rfl (CJ Tryz.call105 rfl (λw hw=>TV m (by omega) (by omega) w (hE.st0 hw)) rfl (B7 (AE rfl) rfl (Ai (Av (BV ?_)))))));refine Ap (Ao (Bq rfl rfl) ?_);exact NZ (by first | rfl | simp[])
theorem Vc (p:List UInt8)(hp:p.length≤281474976710656)(w:World)(hE:R6 w):Calls Tryz.prog 151 [.string (B (p))].toArray w (OD w (.tuple #[.int .i64 (CP p),.int .i64 (CL p)])):=by
 refine O2 (n:=22) Tryz.func151 rfl Tryz.ntmps151 rfl (Am (Aj (B7 (AE rfl) rfl (B7 (AE rfl) rfl (Ai (Av (BV ?_)))))));refine Am (Am (Aj (B7 (A2 rfl) rfl (CJ Tryz.call157 rfl (λw hw=>S9 p (by first | omega | (simp;done) | (simp;omega) | (simp at *;omega)) w) rfl (B7 (B4 rfl) rfl (Ai (Av (BV ?_))))))));refine G6 (b:=!(O3 p)) rfl (λhb=>?_) (λhb=>?_)
 ·have hg:=hb;try simp only[XU,XW] at hg
  have ha:=hb;try simp only[XU,XW,Ya,Y7,Yk,Bool.not_eq_false',YI,Yw,not_or,Int.not_lt,Int.not_le] at ha
  refine Am (Aj (B7 (AE rfl) rfl (B7 (AE rfl) rfl (Ai (Av (BV ?_))))));refine Ap (Ac (Ao (Du rfl rfl rfl) ?_));exact NZ (by simp[CP,CL,ha])
 ·have hg:=hb;try simp only[XU,XW] at hg
  have ha:=hb;try simp only[XU,XW,Ya,Y7,Yk,Bool.not_eq_false',YI,Yw,not_or,Int.not_lt,Int.not_le] at ha
  refine Aq (Av (BV ?_));refine Am (Aj (B7 (A2 rfl) rfl ?_));rcases U7 (p:=p) (by assumption) with⟨av,hav,hal,hah⟩ | hav
  ·refine CJ Tryz.call158 rfl (λw _=>VC p (by first | omega | (simp;done) | (simp;omega) | (simp at *;omega)) av hav w) rfl (B7 (A2 rfl) rfl (B7 (A7 rfl rfl) rfl (B7 (A7 rfl rfl) rfl (B7 (AE rfl) rfl (B7 (AE rfl) rfl (Ai (Av (BV ?_))))))));refine Am (AC [(2,.int .i64 (0)),(3,.int .i64 (0)),(4,.int .i64 (av)),(20,.bool (!(Mg av)))] [] (φ:=True) ?_ (λhi=>?_))
   ·exact Aj (B7 (A2 rfl) rfl (B7 (Pw Tryz.underlying129 rfl) rfl (B7 (A2 rfl) rfl (AQ rfl rfl rfl (B7 (A2 rfl) rfl (AQ rfl rfl rfl (CJ Tryz.call31 rfl (λw hw=>UI av w) rfl (AQ rfl rfl rfl (B7 (B4 rfl) rfl (B7 (At rfl rfl rfl) rfl (Ai (Av (DO trivial ⟨rfl,rfl,rfl,rfl,trivial⟩ .slnil)))))))))))))
   refine G6 (b:=!(Mg av)) rfl (λhe=>?_) (λhe=>?_)
   ·have hh:=he;try simp only[XU,XW] at hh
    have hf:=he;try simp only[XU,XW,Ya,Y7,Yk,Bool.not_eq_false',YI,Yw,not_or,Int.not_lt,Int.not_le] at hf
    refine Am (Aj (B7 (AE rfl) rfl (B7 (AE rfl) rfl (Ai (Av (BV ?_))))));refine Ap (Ac (Ao (Du rfl rfl rfl) ?_));exact NZ (by simp[CP,CL,hav,ha,hf])
   ·have hh:=he;try simp only[XU,XW] at hh
    have hf:=he;try simp only[XU,XW,Ya,Y7,Yk,Bool.not_eq_false',YI,Yw,not_or,Int.not_lt,Int.not_le] at hf
    refine Aq (Av (BV ?_));refine Am (Aj (B7 (A2 rfl) rfl (B7 (AE rfl) rfl (B7 (AE rfl) rfl (Ai (Av (BV ?_)))))));refine Ap (Ao (Du rfl rfl rfl) ?_);exact NZ (by simp[CP,CL,hav,ha,hf])
  ·refine UH Tryz.call158 rfl (λw hw=>QN p (by first | omega | (simp;done) | (simp;omega) | (simp at *;omega)) hav w (hE.st0 hw)) rfl ?_;rintro _ _ ⟨am,at_,ab,rfl,rfl⟩;refine B7 (A2 rfl) rfl (B7 (A7 rfl rfl) rfl (B7 (A7 rfl rfl) rfl (B7 (AE rfl) rfl (B7 (AE rfl) rfl (Ai (Av (BV ?_)))))));refine Am (AC [(2,.int .i64 (0)),(3,.int .i64 (0)),(4,.int .i64 (am)),(20,.bool (true))] [] (φ:=True) ?_ (λhj=>?_))
   ·exact Aj (B7 (A2 rfl) rfl (B7 (Vi Tryz.underlying129 rfl) rfl (B7 (A2 rfl) rfl (CZ rfl rfl rfl rfl (CZ rfl rfl rfl rfl (CZ rfl rfl rfl rfl (B7 (Ax rfl rfl rfl) rfl (Ai (Av (DO trivial ⟨rfl,rfl,rfl,rfl,trivial⟩ .slnil))))))))))
   refine DE rfl rfl (Am (Aj (B7 (AE rfl) rfl (B7 (AE rfl) rfl (Ai (Av (BV ?_)))))));refine Ap (Ac (Ao (Du rfl rfl rfl) ?_));exact NZ (by simp[CP,CL,hav,ha])
end Go.Proofs.YtghdglcmblpbeaaGreatDoor
namespace Go.Proofs
open Go.Shelf
def Tryz.lays169_ren:Go.Shelf.Ren:=⟨fun | 169=>88 | n=>n,fun | 70=>98 | 9=>9 | 0=>0 | 72=>101 | 37=>99 | 127=>134 | 3=>3 | 5=>5 | n=>n,fun | n=>n⟩
theorem Tryz.lays169:Go.Proofs.Lays.n169 Tryz.prog Tryz.lays169_ren:={
 mixed:=by kernel_rfl
 f169:=Tryz.func88.trans (congrArg some (by kernel_rfl))
 t0:=Tryz.underlying0
 a0:=Tryz.isAgg0
 z0:=Tryz.sizeOf0
 v0:=Tryz.zeroValue0
 t3:=Tryz.underlying3
 a3:=Tryz.isAgg3
 z3:=Tryz.sizeOf3
 v3:=Tryz.zeroValue3
 t9:=Tryz.underlying9
 a9:=Tryz.isAgg9
 z9:=Tryz.sizeOf9
 v9:=Tryz.zeroValue9
 t37:=Tryz.underlying99
 a37:=Tryz.isAgg99
 z37:=Tryz.sizeOf99
 v37:=Tryz.zeroValue99
 t70:=Tryz.underlying98
 a70:=Tryz.isAgg98
 z70:=Tryz.sizeOf98
 v70:=Tryz.zeroValue98
 t72:=Tryz.underlying101
 a72:=Tryz.isAgg101
 z72:=Tryz.sizeOf101
 v72:=Tryz.zeroValue101
 t127:=Tryz.underlying134
 a127:=Tryz.isAgg134
 z127:=Tryz.sizeOf134
 v127:=Tryz.zeroValue134 }
theorem Tryz.Builder_Extra_169:Builder.Extra Tryz.prog Tryz.lays169_ren:={
 sizeBuilder:=by kernel_rfl
 liesBuilder:=by kernel_rfl
 t5:=Tryz.underlying5
 a5:=Tryz.isAgg5
 z5:=Tryz.sizeOf5
 v5:=Tryz.zeroValue5
 infoByte:=by kernel_rfl
 cellsByte:=by kernel_rfl
 sizeByte:=by kernel_rfl
 neB5:=by decide }
open Go.RowKit in
theorem Tryz.Builder_String_any (B b:Nat)(l:List UInt8)(w:World)(h:Lib.IsBuilder 101 5 B b (Lib.byteCells l) w)(hBw:B≤w.heap.size) :
  Calls Tryz.prog 88 #[.pointer (some ⟨b,0,none⟩)] w λe w'=>e = .returned (.string ⟨l.toArray⟩)∧Below B w w':=Any.Builder_String_any Tryz.lays169 Tryz.Builder_Extra_169 B b l w h hBw
def Tryz.lays138_ren:Go.Shelf.Ren:=⟨fun | 138=>138 | 195=>146 | 218=>147 | 143=>148 | 219=>152 | 217=>159 | 225=>160 | 224=>161 | 267=>162 | 266=>170 | 314=>171 | n=>n,fun | 9=>9 | 3=>3 | 4=>4 | 5=>5 | 0=>0 | 46=>160 | 146=>167 | 51=>163 | n=>n,fun | 1=>0 | n=>n⟩
theorem Tryz.lays138:Go.Proofs.Lays.n138 Tryz.prog Tryz.lays138_ren:={
 mixed:=by kernel_rfl
 f138:=Tryz.func138.trans (congrArg some (by kernel_rfl))
 f143:=Tryz.func148.trans (congrArg some (by kernel_rfl))
 f195:=Tryz.func146.trans (congrArg some (by kernel_rfl))
 f217:=Tryz.func159.trans (congrArg some (by kernel_rfl))
 f218:=Tryz.func147.trans (congrArg some (by kernel_rfl))
 f219:=Tryz.func152.trans (congrArg some (by kernel_rfl))
 f224:=Tryz.func161.trans (congrArg some (by kernel_rfl))
 f225:=Tryz.func160.trans (congrArg some (by kernel_rfl))
 f266:=Tryz.func170.trans (congrArg some (by kernel_rfl))
 f267:=Tryz.func162.trans (congrArg some (by kernel_rfl))
 f314:=Tryz.func171.trans (congrArg some (by kernel_rfl))
 t0:=Tryz.underlying0
 a0:=Tryz.isAgg0
 z0:=Tryz.sizeOf0
 v0:=Tryz.zeroValue0
 t3:=Tryz.underlying3
 a3:=Tryz.isAgg3
 z3:=Tryz.sizeOf3
 v3:=Tryz.zeroValue3
 t4:=Tryz.underlying4
 a4:=Tryz.isAgg4
 z4:=Tryz.sizeOf4
 v4:=Tryz.zeroValue4
 t5:=Tryz.underlying5
 a5:=Tryz.isAgg5
 z5:=Tryz.sizeOf5
 v5:=Tryz.zeroValue5
 t9:=Tryz.underlying9
 a9:=Tryz.isAgg9
 z9:=Tryz.sizeOf9
 v9:=Tryz.zeroValue9
 t46:=Tryz.underlying160
 a46:=Tryz.isAgg160
 z46:=Tryz.sizeOf160
 v46:=Tryz.zeroValue160
 t51:=Tryz.underlying163
 a51:=Tryz.isAgg163
 z51:=Tryz.sizeOf163
 v51:=Tryz.zeroValue163
 t146:=Tryz.underlying167
 a146:=Tryz.isAgg167
 z146:=Tryz.sizeOf167
 v146:=Tryz.zeroValue167
 g1:=by kernel_rfl }
open Go.RowKit Go.Lib in
theorem Tryz.strings_Count_one (s:ByteArray)(c:UInt8)(w:World) :
  Calls Tryz.prog 138 #[.string s,.string ⟨#[c]⟩] w λe w'=>e = .returned (.int .i64 (Lib.countByte s.data.toList c))∧w'=w:=Any.strings_Count_one Tryz.lays138 s c w
end Go.Proofs
namespace Go.Proofs.YtghdglcmblpbeaaGreatDoor
open Go
set_option linter.unusedVariables false
set_option linter.unusedSimpArgs false
open Go Go.RowKit
section
variable {P : Program} {n : Nat} {w0 : World} {M : List Nat} {l : Fr} {H : List Ent} {d : Option Nat} {x y : Operand} {ty t t' : TypeId} {pos : String} {af : Array Edge} {g : Option (Nat × Bool)} {k : IntKind} {p q z : Int}
end
set_option maxRecDepth 100000
end Go.Proofs.YtghdglcmblpbeaaGreatDoor
namespace Go.Proofs.YtghdglcmblpbeaaGreatDoor.Q
open Go Go.RowKit
set_option linter.unusedVariables false
def GE (Z:Fz):Prop:=∀w,SH Z w→R6 w
theorem GE.mono {Z Z':Fz}(h:Fz.le Z Z')(hg:GE Z):GE Z':=λw hw=>hg w ⟨λb o e=>hw b o (h b o e),λk i b e=>hw.nm k i b (h.nm k i b e)⟩
theorem NK.rle {P:Program}{E:Fz→Prop}{f:FuncId}{args:List Rp}{r r':Rp}(h:NK P E f args r)(hr:DL r r'):NK P E f args r':=λw Z vs hv hs=>
 (h w Z vs hv hs).mono λe w' ⟨q,v,H,Z',he,⟨hq,hH⟩,hp,ht⟩=>⟨r',v,H,Z',he,⟨rfl,hH⟩,hr Z' v (hq▸hp),ht⟩
theorem DL.tup2 {a b:Value}:DL (rv (.tuple #[a,b])) (Df [rv a,rv b]):=λZ v h=>⟨[a,b],h,rfl,rfl,trivial⟩
theorem NK.of_id {P:Program}{E:Fz→Prop}{f:FuncId}{vs:List Value}{v:Value}(h:∀w,Calls P f vs.toArray w (λe w'=>e = .returned v∧w'=w)):NK P E f (vs.map rv) (rv v):=
 NK.of_old λw Z _ _=>(h w).mono λe w' ⟨he,hw⟩=>⟨he,by rw[hw];exact Proofs.YtghdglcmblpbeaaGreatDoor.St.refl w []⟩
theorem PB (m:Int)(g:BF .i64 m=true):NK Tryz.prog GE 113 [rI .i64 m] (rS (Lib.itoa m)):=NK.of_old (vs:=[.int .i64 m]) λw Z hf he=>Ub m (GL g).1 (GL g).2 w (he w hf)
theorem Wm (m:Int)(g:BF .i64 m=true):NK Tryz.prog GE 105 [rI .i64 m] (rS (Lib.itoa m)):=NK.of_old (vs:=[.int .i64 m]) λw Z hf he=>TV m (GL g).1 (GL g).2 w (he w hf)
theorem Vb (s:Au)(g:E7 1 s.length=true):NK Tryz.prog GE 151 [rS s] (Df [rI .i64 (CP s),rI .i64 (CL s)]):=(NK.of_old (vs:=[.string (B s)]) λw Z hf he=>Vc s (by simp[E7] at g;omega) w (he w hf)).rle DL.tup2
theorem Ry (s:Au)(c:UInt8):NK Tryz.prog GE 138 [rS s,rS [c]] (rI .i64 (Lib.countByte s c)):=NK.of_id (vs:=[.string (B s),.string (B [c])]) λw=>by have:=Tryz.strings_Count_one (B s) c w;rwa [QQ] at this
open Go Go.RowKit Go.ChangeShapes Go.Deep
set_option linter.unusedSimpArgs false
def ZW (W:World):Fz:=⟨λb=>W.heap[b]?,λ_ _=>none⟩
theorem ZW.frz (W:World):SH (ZW W) W:=⟨λ_ _ h=>h,λ_ _ _ h=>by cases h⟩
def Jf (P:Program)(e:TypeId){α:Type}(enc:α→List Rp)(ok:α→Bool):Prop:=
 ∀{H:Type} {encH:TypeId×Value→H} {W:World} {sp:Nat→Bool} {held:Bool} {n:Nat} {cs:List Value} {x:DataW H×List MemPlace},DataW.trod encH P W 0 sp held n e cs=some x→∃y:α,ok y=true∧Bm (ZW W) (enc y) cs
section
variable {P : Program} {e t : TypeId}
theorem Jf.int {k:IntKind}{enc:Int→List Rp}(ht:P.underlying e=some (.int k))(he:∀n,enc n=[rI k n]):Jf P e enc (BF k):=λh=>by
 obtain⟨n,rfl,_,hwf⟩:=DataW.trod_int ht h;exact⟨n,hwf,by rw[he];exact⟨rfl,trivial⟩⟩
theorem Jf.str {enc:Au→List Rp}(ht:P.underlying e=some .string)(he:∀n,enc n=[rS n]):Jf P e enc Vf:=λh=>by
 obtain⟨s,rfl,_,hl⟩:=DataW.trod_string ht h;exact⟨s.data.toList,Ye (by rw[Array.length_toList];exact hl),by rw[he];exact⟨congrArg Value.string (XK s),trivial⟩⟩
theorem Jf.bool {enc:Bool→List Rp}(ht:P.underlying e=some .bool)(he:∀n,enc n=[rB n]):Jf P e enc (λ_=>true):=λh=>by
 obtain⟨b,rfl,_⟩:=DataW.trod_bool ht h;exact⟨b,rfl,by rw[he];exact⟨rfl,trivial⟩⟩
theorem NI {W:World}{a:Addr}{v:Value}(h:W.cell? a=some v):a.spot=none∧Ik (ZW W) a.block a.off=some v:=by
 unfold World.cell? at h;unfold Ik ZW;dsimp only
 cases hh:W.heap[a.block]? with
 | none=>rw[hh] at h;cases h
 | some o=>
  rw[hh] at h
  cases o with
  | cells cs t fz=>
   cases hs:a.spot with
   | none=>simp[hs] at h;exact⟨rfl,h⟩
   | some _=>simp[hs] at h
  | _=>simp at h
theorem Jf.slice {α:Type}[Inhabited α]{enc:α→List Rp}{ok:α→Bool}{sz:Nat}(ht:P.underlying t=some (.slice e))(hc:P.cellsOf e=sz)(hsz:0<sz)(h:Jf P e enc ok)(hlen:∀y,(enc y).length=sz){enc':List α→List Rp}(he:∀ys,enc' ys=[AD sz (ys.map enc)]) :
  Jf P t enc' (λys=>ys.all ok&&decide (ys.length≤9223372036854775807)):=fun {H encH W sp held n cs x} hx=>by
 rcases open_slice ht hx with⟨rfl,_⟩ | ⟨a,len,cap,m,n',D,Pl,rfl,hb,hl,hm,hmm,_,hel⟩
 ·exact⟨[],by simp,by rw[he];exact⟨OE.nil sz _,trivial⟩⟩
 ·have hlm:len≤m:=by rw[hmm];split<;>omega
  have each:∀i,i<len→∃y:α,ok y=true∧∃cs',W.cells? 0 (a.add (i*sz)) sz=some cs'∧Bm (ZW W) (enc y) cs':=λi hi=>by
   obtain⟨cs',h1,h2⟩:=hel i (by omega);obtain⟨y,hy,hr⟩:=h h2;rw[hc] at h1;exact⟨y,hy,cs',h1,hr⟩
  obtain⟨f,hf⟩:=choose_lt each;refine⟨(List.range len).map f,?_,?_⟩
  ·simp only[Ya,Y3,List.mem_map,List.mem_range,XU];refine⟨?_,by simp;simp only[maxLen] at hm;omega⟩;rintro _ ⟨i,hi,rfl⟩;exact(hf i hi).1
  ·rw[he];refine⟨⟨some a,cap,by simp,by simpa using hl,hm,(λh=>by cases h),λi c hi=>?_⟩,trivial⟩;rw[List.map_map,YB] at hi;have hil:i<len:=by
    cases hq:(List.range len)[i]? with
    | none=>rw[hq] at hi;cases hi
    | some _=>have:=(List.getElem?_eq_some_iff.1 hq).1;simpa using this
   rw[List.getElem?_range hil] at hi;simp only[Option.map_some,Option.some.injEq,Function.comp] at hi;subst hi;obtain⟨_,cs',h1,hr⟩:=hf i hil;obtain⟨_,hcl,hcell⟩:=World.cells?_some h1;have hsp:a.spot=none:=by
    obtain⟨_,cs0,g1,_⟩:=hf 0 (by omega);obtain⟨_,gcl,gcell⟩:=World.cells?_some g1;have h0:=gcell 0 hsz;rw[Yc (by omega)] at h0;have:=(NI h0).1;simpa[Addr.add] using this
   refine⟨hlen _,a,rfl,hsp,λj r hj=>?_⟩;obtain⟨u,hu,hp⟩:=hr.at hj;have hjs:j<sz:=by have:=(List.getElem?_eq_some_iff.1 hj).1;rw[hlen] at this;exact this
   have h3:=hcell j hjs;rw[hu] at h3;have h4:=(NI h3).2;refine⟨u,?_,hp⟩;have e1:((a.add (i*sz)).add j).block=a.block:=by simp only[Addr.add];split<;>split<;>rfl
   have e2:((a.add (i*sz)).add j).off=a.off+(i*sz+j):=by simp only[Addr.add];split<;>split<;>simp_all<;>omega
   rw[e1,e2] at h4;exact h4
theorem QZ {Z:Fz}{cs:List Value}{o:Nat}(h:cs.length=o):Bm Z [] (cs.drop o):=by rw[List.drop_of_length_le (by omega)];trivial
theorem DU {Z:Fz}{cs:List Value}{o s o':Nat}{rs rs':List Rp}(h:Bm Z rs ((cs.drop o).take s))(ho:o+s=o')(h2:Bm Z rs' (cs.drop o')):Bm Z (rs++rs') (cs.drop o):=by
 rw[← List.take_append_drop s (cs.drop o),List.drop_drop];subst ho;exact h.append h2
theorem Jf.val {α:Type}{enc:α→List Rp}{ok:α→Bool}(h:Jf P e enc ok){r:α→Rp}(he:∀y,enc y=[r y]){H:Type}{encH:TypeId×Value→H}{W:World}{sp:Nat→Bool}{held:Bool}{v:Value}{d:DataW H}{ps:List MemPlace}
  (hone:v.cells = #[v]) (ht:DataW.Trod encH P W 0 sp held e v d ps):∃y:α,ok y=true∧(r y).p (ZW W) v:=by
 obtain⟨fuel,hf⟩:=ht;rw[hone] at hf;obtain⟨y,hy,hr⟩:=h hf;rw[he] at hr;exact⟨y,hy,hr.1⟩
theorem Jf.valAgg {α:Type}{enc:α→List Rp}{ok:α→Bool}(h:Jf P e enc ok){H:Type}{encH:TypeId×Value→H}{W:World}{sp:Nat→Bool}{held:Bool}{cs:Array Value}{d:DataW H}{ps:List MemPlace}
  (ht:DataW.Trod encH P W 0 sp held e (.agg cs) d ps):∃y:α,ok y=true∧(Bs (enc y)).p (ZW W) (.agg cs):=by
 obtain⟨fuel,hf⟩:=ht;obtain⟨y,hy,hr⟩:=h hf;exact⟨y,hy,cs.toList,by simp,hr⟩
end
theorem Ua {W w:World}(hw:SH (ZW W) w):W.heap.size≤w.heap.size:=by
 rcases Nat.eq_zero_or_pos W.heap.size with h | h
 ·omega
 ·have h1:W.heap[W.heap.size-1]? =some (W.heap[W.heap.size-1]'(by omega)):=Array.getElem?_eq_getElem (by omega);have:=(Array.getElem?_eq_some_iff.1 (hw _ _ h1)).1;omega
theorem Ss {W:World}(hE:R6 W):GE (ZW W):=λw hw=>by
 have hb:Below W.heap.size W { w with os:=W.os,tape:=W.tape,output:=W.output }:=⟨rfl,rfl,rfl,(show W.heap.size≤w.heap.size from Ua hw),λk hk=>by
  have h1:W.heap[k]? =some (W.heap[k]'hk):=Array.getElem?_eq_getElem hk;rw[h1];exact hw k _ h1⟩
 have hE2:=hE.st0 (St.of_below hb);exact⟨OC.block { w with os:=W.os,tape:=W.tape,output:=W.output } w (λ_ _=>rfl) hE2.tabs,hE2.size⟩
theorem Tp {W:World}(hE:R6 W):St ⟨W,ZW W,[],GE,[]⟩ [] (ZW W) W where
 os:=rfl
 tape:=rfl
 output:=rfl
 size:=Yp _
 old:=λ_ _ _=>rfl
 has:=λ_ h=>by cases h
 own:=λ_ h=>by cases h
 dis:=.nil
 frz:=ZW.frz W
 le:=Fz.le.refl _
 new:=λ_ _ h=>.inl h
 zdis:=λ_ h=>by cases h
 env:=Ss hE
 emono:=λh hg=>GE.mono h hg
 gst:=KB.none rfl
theorem Tq {W W':World}{Z Z':Fz}{E:Fz→Prop}{H:List Ent}(h:St ⟨W,Z,[],E,[]⟩ H Z' W'):Below W.heap.size W W':=⟨h.os,h.tape,h.output,h.size,λk hk=>h.old k hk (by simp)⟩
open Go
def Ld (l:(List Int)):Option ((List Int)):=
 some l
def IM (l:(List Int))(c:Int):Option (Unit×(List Int)):=
 Bh (Ld l) λr1=>AX (E7 1 (r1.length+([c]:List Int).length))<|some ((),r1++([c]:List Int))
def Hc (l:(List Int))(s:Au):Option (Int×Unit×(List Int)):=
 Bh (Ld l) λr1=>AX (E7 1 (r1.length+s.length))<|some ((s.length:Int),(),r1++EI s)
def MX (l:Au):Option (Au):=
 AX (decide (0<(EI l).length))<|some l
def Lc (l:(List Int)):Option ((List Int)):=
 some l
def IL (l:(List Int))(c:Int):Option (Unit×(List Int)):=
 Bh (Lc l) λr1=>AX (E7 1 (r1.length+([c]:List Int).length))<|some ((),r1++([c]:List Int))
def Hb (l:(List Int))(s:Au):Option (Int×Unit×(List Int)):=
 Bh (Lc l) λr1=>AX (E7 1 (r1.length+s.length))<|some ((s.length:Int),(),r1++EI s)
def MW (l:Au):Option (Au):=
 AX (decide (0<(EI l).length))<|some l
set_option maxRecDepth 100000
set_option maxHeartbeats 4000000
theorem P8:∃inf,Tryz.prog.info? 5=some inf∧inf.zero=some (.int .u8 0)∧inf.size=1∧inf.bytes=1:=by
  have key:(Tryz.prog.info? 5).map (λi=>(i.zero,i.size,i.bytes))=some (some (.int .u8 0),1,1):=by kernel_rfl
  obtain⟨inf,h1,h2⟩:=Option.map_eq_some_iff.1 key;simp only[Prod.mk.injEq] at h2;exact⟨inf,h1,h2.1,h2.2.1,h2.2.2⟩
theorem P6:∃j,Tryz.prog.info? 101=some j∧j.size≠0:=by
  have key:(Tryz.prog.info? 101).map (λi=>i.size)=some 2:=by kernel_rfl
  obtain⟨j,h1,h2⟩:=Option.map_eq_some_iff.1 key;exact⟨j,h1,by rw[h2];decide⟩
theorem P7:∃j,Tryz.prog.info? 101=some j:=P6.imp λ_ h=>h.1
theorem PV (ha:Nat)(hb:Value)(l:(List Int))(r:(List Int))(h:Ld l=some r):Fn Tryz.prog GE 143 [rP ha 0] [.blk ha [rv (.pointer none),rv hb] 101,.row hb 5 1 (A1 B8 l)] (λR H=>∃w0:Value,R=rv (.tuple #[])∧H=[.blk ha [rP ha 0,rv w0] 101,.row w0 5 1 (A1 B8 r)]):=by
 refine enter (n:=20) Tryz.func143 rfl Tryz.ntmps143 rfl (λw Z=>?_);unfold Ld at h;refine Af (wm rfl (wv (A9 rfl) (vF ET rfl SP (vL 0 Hh rfl (wv (r:=rB true) (TE ⟨_,SM⟩ rfl) (Ak (DE rfl rfl (Aj (wm rfl (wm rfl (wv (r:=rP ha 0) (Pu (i:=0) SM Tryz.underlying149 P6 rfl rfl rfl) (B7 (r:=rP ha 0) (Vg Tryz.func150 (by kernel_rfl) (by kernel_rfl) (by kernel_rfl) (by kernel_rfl) rfl) rfl (wv (r:=rP ha 0) (Nk (i:=0) Tryz.underlying149 SM P7 rfl rfl (by kernel_rfl)) (wv (A9 rfl) (vF ET rfl SP (BA (i:=0) SP rfl rfl (BO rfl) rfl rfl (cs':=[rP ha 0,rv hb]) rfl (H':=[.blk ha [rP ha 0,rv hb] 101,.row hb 5 1 (A1 B8 l)]) rfl (Ai ?_)))))))))))))))));obtain rfl:=An h;exact E4 (Oa Tryz.results143) (sC (sC sN)) ⟨hb,rfl,rfl⟩
theorem Nr (ha:Nat)(hb:Value)(l:(List Int))(c:Int)(r:Unit×(List Int))(h:IM l c=some r):Fn Tryz.prog GE 115 [rP ha 0,rI .u8 c] [.blk ha [rv (.pointer none),rv hb] 101,.row hb 5 1 (A1 B8 l)] (λR H=>∃w0:Value,R=rv (.nilIface)∧H=[.blk ha [rP ha 0,rv w0] 101,.row w0 5 1 (A1 B8 r.2)]):=by
 refine enter (n:=17) Tryz.func115 rfl Tryz.ntmps115 rfl (λw Z=>?_);unfold IM at h;refine Af (wa rfl (Bb (wm rfl (ob h λr1 e3 h2=>DP (Hr:=[]) Tryz.call143 (PV ha hb l r1 e3) rfl (XT _) rfl ?_))));rintro _ _ ⟨v4,rfl,rfl⟩;refine Bb (wm rfl (wm rfl (wv (A9 rfl) (vF ET rfl Jg (vL 0 OO rfl (wm rfl (AY (ys:=([c]:List Int)) (enc:=B8) (css:=[[rI .u8 c]]) (xs:=[.tmp 12]) Mc Tryz.sizeOf5 XA rfl rfl rfl ⟨E1.one rfl (Up.refl _),trivial⟩ rfl Gl rfl rfl rfl (λb5=>?_))))))));refine ck h2 λg7 h8=>Exists.elim P8 λinf hinf=>Cg (xs:=r1) (ys:=([c]:List Int)) (enc:=B8) (i:=2) Mc hinf.1 hinf.2.1 hinf.2.2.1 hinf.2.2.2 rfl rfl rfl rfl rfl (K9.w (i:=0) rfl rfl) Gl KZ g7 rfl (λv6=>?_);refine wv (A9 rfl) (vF ET rfl Jg (BA (i:=2) Jg rfl rfl (CT (i:=0) rfl) rfl rfl (cs':=[rP ha 0,rv v6]) rfl (H':=[.row v6 5 1 (A1 B8 (r1++([c]:List Int))),.row (.slice (some ⟨b5,0,none⟩) 1 1) 5 1 (A1 B8 ([c]:List Int)),.blk ha [rP ha 0,rv v6] 101]) rfl (Bb (wa rfl (Ak (Ap (CB (H2:=[.blk ha [rP ha 0,rv v6] 101,.row v6 5 1 (A1 B8 (r1++([c]:List Int))),.row (.slice (some ⟨b5,0,none⟩) 1 1) 5 1 (A1 B8 ([c]:List Int))]) ((A4 (i:=2) rfl).trans (XV _ (XT _))) ?_)))))));obtain rfl:=An h8;exact Ao (Bq Tryz.results115 (A6 rfl)) (sC (sC (sS sN))) ⟨v6,rfl,rfl⟩
theorem LC (ha:Nat)(hb:Value)(l:(List Int))(s:Au)(r:Int×Unit×(List Int))(h:Hc l s=some r):Fn Tryz.prog GE 112 [rP ha 0,rS s] [.blk ha [rv (.pointer none),rv hb] 101,.row hb 5 1 (A1 B8 l)] (λR H=>∃w0:Value,R=Df [Al r.1,rv (.nilIface)]∧H=[.blk ha [rP ha 0,rv w0] 101,.row w0 5 1 (A1 B8 r.2.2)]):=by
 refine enter (n:=19) Tryz.func112 rfl Tryz.ntmps112 rfl (λw Z=>?_);unfold Hc at h;refine Af (wa rfl (wa rfl (Bb (wm rfl (ob h λr1 e3 h2=>DP (Hr:=[]) Tryz.call143 (PV ha hb l r1 e3) rfl (XT _) rfl ?_)))));rintro _ _ ⟨v4,rfl,rfl⟩;refine Bb (wm rfl (wm rfl (wv (A9 rfl) (vF ET rfl Jg (vL 0 OO rfl (wm rfl (ck h2 λg6 h7=>Exists.elim P8 λinf hinf=>JA (xs:=r1) (i:=1) Mc D2 hinf.1 hinf.2.1 hinf.2.2.1 hinf.2.2.2 rfl rfl rfl g6 rfl (λv5=>?_))))))));refine wv (A9 rfl) (vF ET rfl Jg (BA (i:=1) Jg rfl rfl (CT (i:=0) rfl) rfl rfl (cs':=[rP ha 0,rv v5]) rfl (H':=[.row v5 5 1 (A1 B8 (r1++EI s)),.blk ha [rP ha 0,rv v5] 101]) rfl (Bb (wm rfl (wv (BM D2 rfl) (wa rfl (wa rfl (Ak (Ap (CB (H2:=[.blk ha [rP ha 0,rv v5] 101,.row v5 5 1 (A1 B8 (r1++EI s))]) ((A4 (i:=1) rfl).trans (XV _ (XT _))) ?_))))))))));obtain rfl:=An h7;exact Ao (Du Tryz.results112 (A6 rfl) (A6 rfl)) (sC (sC sN)) ⟨v5,rfl,rfl⟩
theorem QM (ha:Nat)(hb:Value)(l:Au)(r:Au)(h:MX l=some r):Fn Tryz.prog GE 88 [rP ha 0] [.blk ha [rv (.pointer none),rv hb] 101,.row hb 5 1 (A1 B8 (EI l))] (λR H=>R=rS r∧H=[]):=by
 refine enter (n:=14) Tryz.func88 rfl Tryz.ntmps88 rfl (λw Z=>?_);unfold MX at h;refine Af (wv (r:=rS ([]:Au)) (AE rfl) (Ak (Am (ck h λg1 h2=>EQ (H1:=[.blk ha [rv (.pointer none),rv hb] 101]) [0] [⟨[],rP ha 0,0⟩,⟨[0],rP ha 0,0⟩,⟨[1],rP ha 1,0⟩,⟨[2],rv hb,1⟩,⟨[3],rv (WN hb),1⟩,⟨[],rP ha 0,0⟩,⟨[5],rP ha 0,0⟩,⟨[6],rP ha 1,0⟩,⟨[7],rv hb,1⟩,⟨[8],Al ((EI l).length:Int),1⟩,⟨[4,9],rS l,2⟩,⟨[10],rS l,0⟩] (rle [(11,_),(2,[.blk ha [rv (.pointer none),rv hb] 101])]) [2] ?_ ?_))))
 ·refine oq (A2 rfl) (oq (A9 rfl) (oq (AG ET rfl Jg rfl rfl) (of (Bn (i:=0) OO rfl rfl rfl) (of (Lx (i:=1) rfl rfl (LQ g1)) (oq (A2 rfl) (oq (A9 rfl) (oq (AG ET rfl Jg rfl rfl) (of (Bn (i:=0) OO rfl rfl rfl) (of (DW (ys:=EI l) (enc:=B8) (i:=1) Mc rfl rfl) (Io rfl (WY (IN (i:=1) Tryz.underlying134 (by kernel_rfl) rfl rfl rfl (LQ g1) rfl)) ?_))))))))));refine oq (AE rfl) ?_;exact Cj
 refine AA (Ap ?_);obtain rfl:=An h2;exact Ao (Bq Tryz.results88 (A6 rfl)) (sS sN) ⟨rfl,rfl⟩
theorem PU (ha:Nat)(hb:Value)(l:(List Int))(r:(List Int))(h:Lc l=some r):Fn Tryz.prog GE 143 [rP ha 0] [.blk ha [rP ha 0,rv hb] 101,.row hb 5 1 (A1 B8 l)] (λR H=>∃w0:Value,R=rv (.tuple #[])∧H=[.blk ha [rP ha 0,rv w0] 101,.row w0 5 1 (A1 B8 r)]):=by
 refine enter (n:=20) Tryz.func143 rfl Tryz.ntmps143 rfl (λw Z=>?_);unfold Lc at h;refine Af (wm rfl (wv (A9 rfl) (vF ET rfl SP (vL 0 Hh rfl (wv (r:=rB false) (Wd ⟨_,SM⟩ rfl) (Ak (Hi rfl rfl (Af (wm rfl (wv (A9 rfl) (vF ET rfl SP (vL 0 Hh rfl (wm rfl (wv (r:=rB false) (Qy SM P7 rfl rfl) (Ak (Hi rfl rfl (Aq ?_)))))))))))))))));obtain rfl:=An h;exact E4 (Oa Tryz.results143) (sC (sC sN)) ⟨hb,rfl,rfl⟩
theorem Nq (ha:Nat)(hb:Value)(l:(List Int))(c:Int)(r:Unit×(List Int))(h:IL l c=some r):Fn Tryz.prog GE 115 [rP ha 0,rI .u8 c] [.blk ha [rP ha 0,rv hb] 101,.row hb 5 1 (A1 B8 l)] (λR H=>∃w0:Value,R=rv (.nilIface)∧H=[.blk ha [rP ha 0,rv w0] 101,.row w0 5 1 (A1 B8 r.2)]):=by
 refine enter (n:=17) Tryz.func115 rfl Tryz.ntmps115 rfl (λw Z=>?_);unfold IL at h;refine Af (wa rfl (Bb (wm rfl (ob h λr1 e3 h2=>DP (Hr:=[]) Tryz.call143 (PU ha hb l r1 e3) rfl (XT _) rfl ?_))));rintro _ _ ⟨v4,rfl,rfl⟩;refine Bb (wm rfl (wm rfl (wv (A9 rfl) (vF ET rfl Jg (vL 0 OO rfl (wm rfl (AY (ys:=([c]:List Int)) (enc:=B8) (css:=[[rI .u8 c]]) (xs:=[.tmp 12]) Mc Tryz.sizeOf5 XA rfl rfl rfl ⟨E1.one rfl (Up.refl _),trivial⟩ rfl Gl rfl rfl rfl (λb5=>?_))))))));refine ck h2 λg7 h8=>Exists.elim P8 λinf hinf=>Cg (xs:=r1) (ys:=([c]:List Int)) (enc:=B8) (i:=2) Mc hinf.1 hinf.2.1 hinf.2.2.1 hinf.2.2.2 rfl rfl rfl rfl rfl (K9.w (i:=0) rfl rfl) Gl KZ g7 rfl (λv6=>?_);refine wv (A9 rfl) (vF ET rfl Jg (BA (i:=2) Jg rfl rfl (CT (i:=0) rfl) rfl rfl (cs':=[rP ha 0,rv v6]) rfl (H':=[.row v6 5 1 (A1 B8 (r1++([c]:List Int))),.row (.slice (some ⟨b5,0,none⟩) 1 1) 5 1 (A1 B8 ([c]:List Int)),.blk ha [rP ha 0,rv v6] 101]) rfl (Bb (wa rfl (Ak (Ap (CB (H2:=[.blk ha [rP ha 0,rv v6] 101,.row v6 5 1 (A1 B8 (r1++([c]:List Int))),.row (.slice (some ⟨b5,0,none⟩) 1 1) 5 1 (A1 B8 ([c]:List Int))]) ((A4 (i:=2) rfl).trans (XV _ (XT _))) ?_)))))));obtain rfl:=An h8;exact Ao (Bq Tryz.results115 (A6 rfl)) (sC (sC (sS sN))) ⟨v6,rfl,rfl⟩
theorem LB (ha:Nat)(hb:Value)(l:(List Int))(s:Au)(r:Int×Unit×(List Int))(h:Hb l s=some r):Fn Tryz.prog GE 112 [rP ha 0,rS s] [.blk ha [rP ha 0,rv hb] 101,.row hb 5 1 (A1 B8 l)] (λR H=>∃w0:Value,R=Df [Al r.1,rv (.nilIface)]∧H=[.blk ha [rP ha 0,rv w0] 101,.row w0 5 1 (A1 B8 r.2.2)]):=by
 refine enter (n:=19) Tryz.func112 rfl Tryz.ntmps112 rfl (λw Z=>?_);unfold Hb at h;refine Af (wa rfl (wa rfl (Bb (wm rfl (ob h λr1 e3 h2=>DP (Hr:=[]) Tryz.call143 (PU ha hb l r1 e3) rfl (XT _) rfl ?_)))));rintro _ _ ⟨v4,rfl,rfl⟩;refine Bb (wm rfl (wm rfl (wv (A9 rfl) (vF ET rfl Jg (vL 0 OO rfl (wm rfl (ck h2 λg6 h7=>Exists.elim P8 λinf hinf=>JA (xs:=r1) (i:=1) Mc D2 hinf.1 hinf.2.1 hinf.2.2.1 hinf.2.2.2 rfl rfl rfl g6 rfl (λv5=>?_))))))));refine wv (A9 rfl) (vF ET rfl Jg (BA (i:=1) Jg rfl rfl (CT (i:=0) rfl) rfl rfl (cs':=[rP ha 0,rv v5]) rfl (H':=[.row v5 5 1 (A1 B8 (r1++EI s)),.blk ha [rP ha 0,rv v5] 101]) rfl (Bb (wm rfl (wv (BM D2 rfl) (wa rfl (wa rfl (Ak (Ap (CB (H2:=[.blk ha [rP ha 0,rv v5] 101,.row v5 5 1 (A1 B8 (r1++EI s))]) ((A4 (i:=1) rfl).trans (XV _ (XT _))) ?_))))))))));obtain rfl:=An h7;exact Ao (Du Tryz.results112 (A6 rfl) (A6 rfl)) (sC (sC sN)) ⟨v5,rfl,rfl⟩
theorem QL (ha:Nat)(hb:Value)(l:Au)(r:Au)(h:MW l=some r):Fn Tryz.prog GE 88 [rP ha 0] [.blk ha [rP ha 0,rv hb] 101,.row hb 5 1 (A1 B8 (EI l))] (λR H=>R=rS r∧H=[]):=by
 refine enter (n:=14) Tryz.func88 rfl Tryz.ntmps88 rfl (λw Z=>?_);unfold MW at h;refine Af (wv (r:=rS ([]:Au)) (AE rfl) (Ak (Am (ck h λg1 h2=>EQ (H1:=[.blk ha [rP ha 0,rv hb] 101]) [0] [⟨[],rP ha 0,0⟩,⟨[0],rP ha 0,0⟩,⟨[1],rP ha 1,0⟩,⟨[2],rv hb,1⟩,⟨[3],rv (WN hb),1⟩,⟨[],rP ha 0,0⟩,⟨[5],rP ha 0,0⟩,⟨[6],rP ha 1,0⟩,⟨[7],rv hb,1⟩,⟨[8],Al ((EI l).length:Int),1⟩,⟨[4,9],rS l,2⟩,⟨[10],rS l,0⟩] (rle [(11,_),(2,[.blk ha [rP ha 0,rv hb] 101])]) [2] ?_ ?_))))
 ·refine oq (A2 rfl) (oq (A9 rfl) (oq (AG ET rfl Jg rfl rfl) (of (Bn (i:=0) OO rfl rfl rfl) (of (Lx (i:=1) rfl rfl (LQ g1)) (oq (A2 rfl) (oq (A9 rfl) (oq (AG ET rfl Jg rfl rfl) (of (Bn (i:=0) OO rfl rfl rfl) (of (DW (ys:=EI l) (enc:=B8) (i:=1) Mc rfl rfl) (Io rfl (WY (IN (i:=1) Tryz.underlying134 (by kernel_rfl) rfl rfl rfl (LQ g1) rfl)) ?_))))))))));refine oq (AE rfl) ?_;exact Cj
 refine AA (Ap ?_);obtain rfl:=An h2;exact Ao (Bq Tryz.results88 (A6 rfl)) (sS sN) ⟨rfl,rfl⟩
theorem C6 (b:Nat)(v:Value)(l:Au)(c:Int)(g1:E7 1 (l.length+1)=true)(g2:BF .u8 c=true):Fn Tryz.prog GE 115 [rP b 0,rI .u8 c] [.bld 101 5 b v l] (λR H=>∃w0:Value,R=rv .nilIface∧H=[.bld 101 5 b w0 (l++[UInt8.ofNat c.toNat])]):=by
  have hc:EI (l++[UInt8.ofNat c.toNat])=EI l++[c]:=by
    have:=(by simpa[BF,IntKind.min,IntKind.max,IntKind.signed,IntKind.bits] using g2:0≤c∧c≤255)
    simp only[EI,List.map_append,YK,List.map_nil]
    congr 2
    simp;omega
  refine Fn.bld (res:=rv .nilIface) λp hp=>?_;rw[hc];rcases hp with rfl | rfl
  · refine(Nr b v (EI l) c (((),EI l++[c])) ?_).sub (G3.refl _) (λr H h=>by obtain⟨w0,h1,h2⟩:=h;exact⟨w0,h1,h2⟩)
    simp only[IM,Ld,Bh,Dy];simp[AX,g1]
  · refine(Nq b v (EI l) c (((),EI l++[c])) ?_).sub (G3.refl _) (λr H h=>by obtain⟨w0,h1,h2⟩:=h;exact⟨w0,h1,h2⟩)
    simp only[IL,Lc,Bh,Dy];simp[AX,g1]
theorem GU (b:Nat)(v:Value)(l s:Au)(g1:E7 1 (l.length+s.length)=true):Fn Tryz.prog GE 112 [rP b 0,rS s] [.bld 101 5 b v l] (λR H=>∃w0:Value,R=Df [Al (s.length:Int),rv .nilIface]∧H=[.bld 101 5 b w0 (l++s)]):=by
  have hc:EI (l++s)=EI l++EI s:=by simp[EI]
  refine Fn.bld (res:=Df [Al (s.length:Int),rv .nilIface]) λp hp=>?_;rw[hc];rcases hp with rfl | rfl
  · refine(LC b v (EI l) s (((s.length:Int),(),EI l++EI s)) ?_).sub (G3.refl _) (λr H h=>by obtain⟨w0,h1,h2⟩:=h;exact⟨w0,h1,h2⟩)
    simp only[Hc,Ld,Bh,Dy];simp[AX,g1]
  · refine(LB b v (EI l) s (((s.length:Int),(),EI l++EI s)) ?_).sub (G3.refl _) (λr H h=>by obtain⟨w0,h1,h2⟩:=h;exact⟨w0,h1,h2⟩)
    simp only[Hb,Lc,Bh,Dy];simp[AX,g1]
theorem SE (b:Nat)(v:Value)(l:Au)(g1:decide (0<l.length)=true):Fn Tryz.prog GE 88 [rP b 0] [.bld 101 5 b v l] (λR H=>R=rS l∧H=[]):=by
  refine Fn.bldS (res:=rS l) λp hp=>?_;rcases hp with rfl | rfl
  · exact QM b v l l (by simp only[MX,Dy];simp[AX,g1])
  · exact QL b v l l (by simp only[MW,Dy];simp[AX,g1])
end Go.Proofs.YtghdglcmblpbeaaGreatDoor.Q
namespace Go.Proofs.YtghdglcmblpbeaaGreatDoor
open Go
set_option linter.unusedVariables false
structure Aa where
 fKind:Int
 fInt:Int
 fStr:Au
 fN:Int
 deriving DecidableEq,Inhabited
def IU (s:Au)(ha:Int):Option (Stp (Int) (Out (Bool) (Unit))):=
 AR (decide (ha<(s.length:Int))) (AX (C0 ha (s.length:Int))<|AR (((decide ((Ck s ha)<32))||(decide (126<(Ck s ha))))) (some (.out (.ret false))) (AX (BF .i64 (ha+1))<|some (.next (ha+1)))) (some (.out (.go ())))
def IT :Option (Bool):=
 some true
def I4 (F:Nat)(s:Au):Option (Bool):=
 Bh (BP (λσ=>IU s σ) F 0) (BI λν=>IT )
def BH (ok:Bool)(i:Int):Option (Int):=
 AR (ok) (AX (BF .i64 (i+1))<|some (i+1)) (some (-1))
def Nh (F:Nat)(c:Aa):Option (Bool):=
 AX (imp (decide (c.fKind=4)) (imp (decide (c.fInt=0)) (imp (decide (c.fN=0)) ((I4 F c.fStr).isSome))))<|some ((decide (c.fKind=4))&&((decide (c.fInt=0))&&((decide (c.fN=0))&&(ov (I4 F c.fStr)))))
def Oe (F:Nat)(ha:(List Aa)→Int→Int→Option (Int))(hb:(List Aa)→Int→Int→Option (Int))(v:(List Aa))(i:Int):Option (Int):=
 AR (((decide (i<0))||(decide ((v.length:Int)≤i)))) (some (-1)) (AX (C0 i (v.length:Int))<|AR (decide (((Ay v i).fKind)=1)) (AX (imp (decide (((Ay v i).fInt)=0)) (imp (decide (((Ay v i).fStr)=([]:Au))) ((BH (decide (((Ay v i).fN)=0)) i).isSome)))<|AX (imp (decide (((Ay v i).fInt)=0)) (imp (!(decide (((Ay v i).fStr)=([]:Au)))) ((BH false i).isSome)))<|AX (imp (!(decide (((Ay v i).fInt)=0))) ((BH false i).isSome))<|some (bif decide (((Ay v i).fInt)=0) then(bif decide (((Ay v i).fStr)=([]:Au)) then(ov (BH (decide (((Ay v i).fN)=0)) i)) else(ov (BH false i))) else(ov (BH false i)))) (AR (decide (((Ay v i).fKind)=2)) (AX (imp (decide (((Ay v i).fInt)=0)) (imp (decide (((Ay v i).fStr)=([]:Au))) ((BH (decide (((Ay v i).fN)=0)) i).isSome)))<|AX (imp (decide (((Ay v i).fInt)=0)) (imp (!(decide (((Ay v i).fStr)=([]:Au)))) ((BH false i).isSome)))<|AX (imp (!(decide (((Ay v i).fInt)=0))) (imp (decide (((Ay v i).fInt)=1)) (imp (decide (((Ay v i).fStr)=([]:Au))) ((BH (decide (((Ay v i).fN)=0)) i).isSome))))<|AX (imp (!(decide (((Ay v i).fInt)=0))) (imp (decide (((Ay v i).fInt)=1)) (imp (!(decide (((Ay v i).fStr)=([]:Au)))) ((BH false i).isSome))))<|AX (imp (!(decide (((Ay v i).fInt)=0))) (imp (!(decide (((Ay v i).fInt)=1))) ((BH false i).isSome)))<|some (bif decide (((Ay v i).fInt)=0) then(bif decide (((Ay v i).fStr)=([]:Au)) then(ov (BH (decide (((Ay v i).fN)=0)) i)) else(ov (BH false i))) else(bif decide (((Ay v i).fInt)=1) then(bif decide (((Ay v i).fStr)=([]:Au)) then(ov (BH (decide (((Ay v i).fN)=0)) i)) else(ov (BH false i))) else(ov (BH false i))))) (AR (decide (((Ay v i).fKind)=3)) (AX (imp (decide (((Ay v i).fStr)=([]:Au))) ((BH (decide (((Ay v i).fN)=0)) i).isSome))<|AX (imp (!(decide (((Ay v i).fStr)=([]:Au)))) ((BH false i).isSome))<|some (bif decide (((Ay v i).fStr)=([]:Au)) then(ov (BH (decide (((Ay v i).fN)=0)) i)) else(ov (BH false i)))) (AR (decide (((Ay v i).fKind)=4)) (Bh (Nh F (Ay v i)) λhe=>Bh (BH he i) λhf=>some hf) (AR (((decide (((Ay v i).fKind)=5))&&((decide (((Ay v i).fInt)=0))&&((decide (((Ay v i).fStr)=([]:Au)))&&(decide (0≤((Ay v i).fN))))))) (AX (BF .i64 (i+1))<|Bh (ha v (i+1) ((Ay v i).fN)) λhg=>some hg) (AR (((decide (((Ay v i).fKind)=6))&&((decide (((Ay v i).fInt)=0))&&((decide (((Ay v i).fStr)=([]:Au)))&&(decide (0≤((Ay v i).fN))))))) (AX (BF .i64 (i+1))<|Bh (hb v (i+1) ((Ay v i).fN)) λhh=>some hh) (some (-1))))))))
def CK (v:(List Aa))(n:Int)(hf:(List Aa)→Int→Option (Int))(hb:Int)(ha:Int):Option (Stp (Int×Int) (Out (Int) (Int))):=
 AR (decide (ha<n)) (Bh (hf v hb) λhe=>AR (decide (he<0)) (some (.out (.ret (-1)))) (AX (BF .i64 (ha+1))<|some (.next (he,ha+1)))) (some (.out (.go hb)))
def DG (ha:Int):Option (Int):=
 some ha
def HV (F:Nat)(ha:(List Aa)→Int→Option (Int))(v:(List Aa))(i:Int)(n:Int):Option (Int):=
 Bh (BP (λσ=>CK v n ha σ.1 σ.2) F (i,0)) (BI λν=>DG ν)
def Dh (F:Nat)(v:(List Aa))(n:Int)(hg:(List Aa)→Int→Option (Int))(ha:Int)(he:Au)(hb:Int):Option (Stp (Int×Au×Int) (Out (Int) (Int))):=
 AR (decide (hb<n)) (AX (imp (!(decide ((v.length:Int)≤ha))) (C0 ha (v.length:Int)))<|AX (imp (!(decide ((v.length:Int)≤ha))) ((Nh F (Ay v ha)).isSome))<|AR (((decide ((v.length:Int)≤ha))||((!(ov (Nh F (Ay v ha))))||((decide (0<hb))&&(De ((Ay v ha).fStr) he||decide (((Ay v ha).fStr)=he)))))) (some (.out (.ret (-1)))) (AX (C0 ha (v.length:Int))<|AX (BF .i64 (ha+1))<|Bh (hg v (ha+1)) λhf=>AR (decide (hf<0)) (some (.out (.ret (-1)))) (AX (BF .i64 (hb+1))<|some (.next (hf,(Ay v ha).fStr,hb+1))))) (some (.out (.go ha)))
def Gh (ha:Int):Option (Int):=
 some ha
def LM (F:Nat)(ha:(List Aa)→Int→Option (Int))(v:(List Aa))(i:Int)(n:Int):Option (Int):=
 Bh (BP (λσ=>Dh F v n ha σ.1 σ.2.1 σ.2.2) F (i,([]:Au),0)) (BI λν=>Gh ν)
mutual
def Db:Nat→(List Aa)→Int→Option (Int)
 | 0,_,_=>none
 | nn+1,v,i=>Oe nn (Gi nn) (KG nn) v i
def Gi:Nat→(List Aa)→Int→Int→Option (Int)
 | 0,_,_,_=>none
 | nn+1,v,i,n=>HV nn (Db nn) v i n
def KG:Nat→(List Aa)→Int→Int→Option (Int)
 | 0,_,_,_=>none
 | nn+1,v,i,n=>LM nn (Db nn) v i n
end
def JV (F:Nat)(v:(List Aa)):Option (Bool):=
 AX (imp (decide (0<(v.length:Int))) ((Db F v 0).isSome))<|some ((decide (0<(v.length:Int)))&&(decide ((ov (Db F v 0))=(v.length:Int))))
def CG (F:Nat)(v:(List Aa))(i:Int)(hf:(List Aa)→Int→Option (Int))(he:Int)(hb:Int)(ha:Int):Option (Stp (Int×Int×Int) (Out (Int) (Int))):=
 AR (decide (ha<((Ay v i).fN))) (AR (decide (((Ay v i).fKind)=6)) (AX (BF .i64 (hb+1))<|Bh (hf v (hb+1)) λhg=>AR (decide (he<hg)) (Bh (Db F v (hb+1)) λhi=>AX (BF .i64 (ha+1))<|some (.next (hg,hi,ha+1))) (Bh (Db F v (hb+1)) λhj=>AX (BF .i64 (ha+1))<|some (.next (he,hj,ha+1)))) (Bh (hf v hb) λhh=>AR (decide (he<hh)) (Bh (Db F v hb) λhk=>AX (BF .i64 (ha+1))<|some (.next (hh,hk,ha+1))) (Bh (Db F v hb) λhl=>AX (BF .i64 (ha+1))<|some (.next (he,hl,ha+1))))) (some (.out (.go he)))
def D7 (ha:Int):Option (Int):=
 AX (BF .i64 (ha+1))<|some (ha+1)
def Hq (F:Nat)(ha:(List Aa)→Int→Option (Int))(v:(List Aa))(i:Int):Option (Int):=
 AX (C0 i (v.length:Int))<|AR (((!decide (((Ay v i).fKind)=5))&&(!decide (((Ay v i).fKind)=6)))) (some 1) (AX (BF .i64 (i+1))<|Bh (BP (λσ=>CG F v i ha σ.1 σ.2.1 σ.2.2) F (0,i+1,0)) (BI λν=>D7 ν))
def CR:Nat→(List Aa)→Int→Option (Int)
 | 0,_,_=>none
 | nn+1,v,i=>Hq nn (CR nn) v i
def CO (s:Au)(hb:Au)(ha:Int):Option (Stp (Au×Int) (Out (Au) (Au))):=
 AR (decide (ha<(s.length:Int))) (AX (C0 ha (s.length:Int))<|AR (((decide ((Ck s ha)=34))||(decide ((Ck s ha)=92)))) (AX (BF .i64 ((hb.length:Int)+(([92]:Au).length:Int)))<|AX (BF .i64 (ha+1))<|AX (ES ha (ha+1))<|AX (ES (ha+1) (s.length:Int))<|AX (BF .i64 (((hb++([92]:Au)).length:Int)+((List.take (Int.toNat (ha+1)-Int.toNat ha) (List.drop (Int.toNat ha) s)).length:Int)))<|some (.next ((hb++([92]:Au))++(List.take (Int.toNat (ha+1)-Int.toNat ha) (List.drop (Int.toNat ha) s)),ha+1))) (AX (BF .i64 (ha+1))<|AX (ES ha (ha+1))<|AX (ES (ha+1) (s.length:Int))<|AX (BF .i64 ((hb.length:Int)+((List.take (Int.toNat (ha+1)-Int.toNat ha) (List.drop (Int.toNat ha) s)).length:Int)))<|some (.next (hb++(List.take (Int.toNat (ha+1)-Int.toNat ha) (List.drop (Int.toNat ha) s)),ha+1)))) (some (.out (.go hb)))
def Dq (ha:Au):Option (Au):=
 AX (BF .i64 ((ha.length:Int)+(([34]:Au).length:Int)))<|some (ha++([34]:Au))
def HU (F:Nat)(s:Au):Option (Au):=
 Bh (BP (λσ=>CO s σ.1 σ.2) F (([34]:Au),0)) (BI λν=>Dq ν)
def D6 (F:Nat)(v:(List Aa))(i:Int)(hf:(List Aa)→Int→Option (Au))(ha:Au)(hb:Int)(he:Int):Option (Stp (Au×Int×Int) (Out (Au) (Au))):=
 AR (decide (he<((Ay v i).fN))) (AR (decide (0<he)) (AX (BF .i64 ((ha.length:Int)+(([44]:Au).length:Int)))<|AR (decide (((Ay v i).fKind)=6)) (AX (C0 hb (v.length:Int))<|Bh (HU F ((Ay v hb).fStr)) λhg=>AX (BF .i64 (((ha++([44]:Au)).length:Int)+(hg.length:Int)))<|AX (BF .i64 ((((ha++([44]:Au))++hg).length:Int)+(([58]:Au).length:Int)))<|AX (BF .i64 (hb+1))<|Bh (hf v (hb+1)) λhi=>AX (BF .i64 (((((ha++([44]:Au))++hg)++([58]:Au)).length:Int)+(hi.length:Int)))<|Bh (Db F v (hb+1)) λhm=>AX (BF .i64 (he+1))<|some (.next ((((ha++([44]:Au))++hg)++([58]:Au))++hi,hm,he+1))) (Bh (hf v hb) λhj=>AX (BF .i64 (((ha++([44]:Au)).length:Int)+(hj.length:Int)))<|Bh (Db F v hb) λhn=>AX (BF .i64 (he+1))<|some (.next ((ha++([44]:Au))++hj,hn,he+1)))) (AR (decide (((Ay v i).fKind)=6)) (AX (C0 hb (v.length:Int))<|Bh (HU F ((Ay v hb).fStr)) λhh=>AX (BF .i64 ((ha.length:Int)+(hh.length:Int)))<|AX (BF .i64 (((ha++hh).length:Int)+(([58]:Au).length:Int)))<|AX (BF .i64 (hb+1))<|Bh (hf v (hb+1)) λhk=>AX (BF .i64 ((((ha++hh)++([58]:Au)).length:Int)+(hk.length:Int)))<|Bh (Db F v (hb+1)) λho=>AX (BF .i64 (he+1))<|some (.next (((ha++hh)++([58]:Au))++hk,ho,he+1))) (Bh (hf v hb) λhl=>AX (BF .i64 ((ha.length:Int)+(hl.length:Int)))<|Bh (Db F v hb) λhp=>AX (BF .i64 (he+1))<|some (.next (ha++hl,hp,he+1))))) (some (.out (.go ha)))
def Gv (v:(List Aa))(i:Int)(ha:Au):Option (Au):=
 AR (decide (((Ay v i).fKind)=6)) (AX (BF .i64 ((([123]:Au).length:Int)+(ha.length:Int)))<|AX (BF .i64 (((([123]:Au)++ha).length:Int)+(([125]:Au).length:Int)))<|some ((([123]:Au)++ha)++([125]:Au))) (AX (BF .i64 ((([91]:Au).length:Int)+(ha.length:Int)))<|AX (BF .i64 (((([91]:Au)++ha).length:Int)+(([93]:Au).length:Int)))<|some ((([91]:Au)++ha)++([93]:Au)))
def KE (F:Nat)(ha:(List Aa)→Int→Option (Au))(v:(List Aa))(i:Int):Option (Au):=
 AX (C0 i (v.length:Int))<|AR (decide (((Ay v i).fKind)=1)) (some ([110,117,108,108]:Au)) (AR (decide (((Ay v i).fKind)=2)) (AR (decide (((Ay v i).fInt)=1)) (some ([116,114,117,101]:Au)) (some ([102,97,108,115,101]:Au))) (AR (decide (((Ay v i).fKind)=3)) (AX (BF .i64 ((Ay v i).fInt))<|some (Lib.itoa ((Ay v i).fInt))) (AR (decide (((Ay v i).fKind)=4)) (Bh (HU F ((Ay v i).fStr)) λhb=>some hb) (AX (BF .i64 (i+1))<|Bh (BP (λσ=>D6 F v i ha σ.1 σ.2.1 σ.2.2) F (([]:Au),i+1,0)) (BI λν=>Gv v i ν)))))
def EV:Nat→(List Aa)→Int→Option (Au)
 | 0,_,_=>none
 | nn+1,v,i=>KE nn (EV nn) v i
def DH (v:(List Aa))(ha:Int):Option (Stp (Int) (Out (Int) (Unit))):=
 AR (decide (ha<(v.length:Int))) (AX (C0 ha (v.length:Int))<|AR (decide (200<(((Ay v ha).fStr).length:Int))) (some (.out (.ret 3))) (AX (BF .i64 (ha+1))<|some (.next (ha+1)))) (some (.out (.go ())))
def Ht (F:Nat)(v:(List Aa)):Option (Int):=
 Bh (EV F v 0) λha=>AR (decide (4000<(ha.length:Int))) (some 3) (some 0)
def DI (v:(List Aa))(ha:Int):Option (Stp (Int) (Out (Int) (Unit))):=
 AR (decide (ha<(v.length:Int))) (AX (C0 ha (v.length:Int))<|AR (((decide (((Ay v ha).fKind)=3))&&((decide (((Ay v ha).fInt)<(-1000000000000)))||(decide (1000000000000<((Ay v ha).fInt)))))) (some (.out (.ret 2))) (AX (BF .i64 (ha+1))<|some (.next (ha+1)))) (some (.out (.go ())))
def Hu (F:Nat)(v:(List Aa)):Option (Int):=
 AX (imp (!(decide (200<(v.length:Int)))) ((CR F v 0).isSome))<|AR (((decide (200<(v.length:Int)))||(decide (8<(ov (CR F v 0)))))) (some 3) (Bh (BP (λσ=>DH v σ) F 0) (BI λν=>Ht F v ))
def D8 (F:Nat)(v:(List Aa)):Option (Int):=
 Bh (JV F v) λr1=>AR (!r1) (some 1) (Bh (BP (λσ=>DI v σ) F 0) (BI λν=>Hu F v ))
end Go.Proofs.YtghdglcmblpbeaaGreatDoor
namespace Go.Proofs.YtghdglcmblpbeaaGreatDoor.Q
open Go Go.RowKit
set_option linter.unusedVariables false
set_option linter.unusedSimpArgs false
set_option maxRecDepth 100000
set_option maxHeartbeats 4000000
@[reducible] def Ab (x:Aa):List Rp:=[Al x.fKind,Al x.fInt,rS x.fStr,Al x.fN]
theorem Bf (x:Aa):(Ab x).length=4:=rfl
theorem Cy (x:Aa):(Ab x).all (·.one)=true:=rfl
theorem Tw (F:Nat)(s:Au)(r:Bool)(h:I4 F s=some r):Fn Tryz.prog GE 145 [rS s] [] (λR H=>R=rB r∧H=[]):=by
 refine enter (n:=20) Tryz.func145 rfl Tryz.ntmps145 rfl (λw Z=>?_);unfold I4 at h;refine Af (wa rfl (Ak (Am (Af (wa rfl (Ak (A5 (ob h λhj hk hh=>Bc (S:=Nat×(Int)×(Unit)) (V:=(Unit)×(Unit)) 0 (λσ=>BP (λσ=>IU s σ) σ.1 σ.2.1=some hj) (λσ=>[(0,rS s),(3,Al σ.2.1)]) (λσ=>[]) (λσ=>σ.1) (F,0,()) hk (Az.c rfl (Az.c rfl Az.nil)) sN (λσ=>IT =some r) (λσ=>[]) (λσ=>[]) ?_ ?_))))))))
 ·rintro⟨h0,hb,⟨⟩⟩ hl;refine Bu (l':=[(0,rS s),(3,Al hb)]) (H':=[]) rfl rfl ?_;obtain⟨hm,rfl,t37,he,hg⟩:=BK hl;replace he:IU s hb=some t37:=he;unfold IU at he;refine Am (Af (wm rfl (wm rfl (wv (BM D2 rfl) (wv (Cc rfl rfl) (Ak (cz he rfl (λhn ho=>?_) (λhn hp=>?_))))))))
  ·refine Aq (AA (Am (A5 (ck ho λhi hq=>AC [(0,rS s),(3,Al hb),(19,rB ((decide ((Ck s hb)<32))||(decide (126<(Ck s hb)))))] [] ?_ ?_))))
   ·refine Aj (wm rfl (wm rfl (wv (BC D2 rfl rfl hi) (wv (Cc rfl rfl) (wm rfl (AN (decide ((Ck s hb)<32)) (λha=>?_) (λha=>?_)))))))
    ·refine wf ha (wf ha (wf ha (wf ha (wv (r:=rB true) (Ax rfl ha rfl) (Ai ?_)))));exact BG ha
    ·refine wo ha (wm rfl (wo ha (wm rfl (wo ha (wv (BC D2 rfl rfl hi) (wo ha (wv (CC rfl rfl) (Cm rfl ha rfl (Ai ?_)))))))));exact BG ha
   refine cz hq rfl (λhr hs=>?_) (λhr ht=>?_)
   ·refine Af (wa rfl (Ak (Ap (As (Ac (Ac (AO ?_)))))));have hu:=Bg hs hg hh;refine As (Ac ?_);obtain rfl:=An hu;exact Ao (Bq Tryz.results145 (A6 rfl)) sN ⟨rfl,rfl⟩
   ·refine Aq (A3 (AA (Aj (wm rfl (ck ht λhw hx=>wv (Bd rfl rfl hw) (wa rfl (Ai ?_)))))));have hy:=AW hx hg;exact Av (Ar (hm,hb+1,()) ⟨hy,XX _⟩ (Az.c rfl (Az.c rfl Az.nil)) sN)
  ·refine Bi (Aw ?_);have hz:=Bx hp hg hh;exact Aw (AS (Ar ((),()) hz Az.nil sN))
 ·rintro⟨⟨⟩,⟨⟩⟩ hf;refine BS (l':=[]) (H':=[]) rfl rfl ?_;replace hf:IT =some r:=hf;unfold IT at hf;refine AV (AA (Af (wa rfl (Ak (Ap ?_)))));obtain rfl:=An hf;exact Ao (Bq Tryz.results145 (A6 rfl)) sN ⟨rfl,rfl⟩
theorem D9 (ok:Bool)(i:Int)(r:Int)(h:BH ok i=some r):Fn Tryz.prog GE 126 [rB ok,Al i] [] (λR H=>R=Al r∧H=[]):=by
 refine enter (n:=8) Tryz.func126 rfl Tryz.ntmps126 rfl (λw Z=>?_);unfold BH at h;refine Af (wa rfl (Ak (Am (Af (wm rfl (Ak (cz h rfl (λc1 h2=>?_) (λc1 h5=>?_))))))))
 ·refine Af (wm rfl (ck h2 λg3 h4=>wv (Bd rfl rfl g3) (wa rfl (Ak (Ap (Ac ?_))))));obtain rfl:=An h4;exact Ao (Bq Tryz.results126 (A6 rfl)) sN ⟨rfl,rfl⟩
 ·refine Aq (AA (Af (wv (r:=Al (-1)) (AE rfl) (Ak (Ap ?_)))));obtain rfl:=An h5;exact Ao (Bq Tryz.results126 (A6 rfl)) sN ⟨rfl,rfl⟩
theorem T0 (F:Nat)(c:Aa)(r:Bool)(h:Nh F c=some r):Fn Tryz.prog GE 127 [Bs (Ab c)] [] (λR H=>R=rB r∧H=[]):=by
 refine enter (n:=21) Tryz.func127 rfl Tryz.ntmps127 rfl (λw Z=>?_);unfold Nh at h;refine Af (B1 rfl rfl (λb1=>?_));refine wa rfl (Ak (ck h λg2 h3=>AC [(2,rB ((decide (c.fKind=4))&&((decide (c.fInt=0))&&((decide (c.fN=0))&&(ov (I4 F c.fStr))))))] [] ?_ ?_))
 ·refine Aj (vF Bl rfl C8 (vL 0 CF rfl (wv (Be rfl rfl) (wm rfl (AN (decide (c.fKind=4)) (λc4=>?_) (λc4=>?_))))))
  ·refine wo c4 (vF Bl rfl BB (wo c4 (vL 0 BL rfl (wo c4 (wv (Be rfl rfl) (Ci rfl c4 rfl (wm rfl (AN (decide (c.fInt=0)) (λc5=>?_) (λc5=>?_)))))))))
   ·refine wo c5 (vF Bl rfl BB (wo c5 (vL 0 BL rfl (wo c5 (wv (Be rfl rfl) (Ci rfl c5 rfl (wm rfl (AN (decide (c.fN=0)) (λc6=>?_) (λc6=>?_)))))))))
    ·refine wo c6 (vF Bl rfl CE (wo c6 (vL 0 CI rfl (wo c6 (BQ Tryz.call145 (Tw F c.fStr (ov (I4 F c.fStr)) (C1 (BD (BD (BD g2 c4) c5) c6))) rfl (Ci rfl c6 rfl (wa rfl (Ai ?_))))))));exact BG (And.intro c4 (And.intro c5 c6))
    ·refine wf c6 (wf c6 (wf c6 (wv (r:=rB false) (At rfl c6 rfl) (wa rfl (Ai ?_)))));exact BG (And.intro c4 (And.intro c5 c6))
   ·refine wf c5 (wf c5 (wf c5 (wv (r:=rB false) (At rfl c5 rfl) (wm rfl (wz rfl rfl (wz rfl rfl (wz rfl rfl (wv (r:=rB false) (At (b:=false) rfl rfl rfl) (wa rfl (Ai ?_))))))))));exact BG (And.intro c4 c5)
  ·refine wf c4 (wf c4 (wf c4 (wv (r:=rB false) (At rfl c4 rfl) (wm rfl (wz rfl rfl (wz rfl rfl (wz rfl rfl (wv (r:=rB false) (At (b:=false) rfl rfl rfl) (wm rfl (wz rfl rfl (wz rfl rfl (wz rfl rfl (wv (r:=rB false) (At (b:=false) rfl rfl rfl) (wa rfl (Ai ?_)))))))))))))));exact BG c4
 refine Ap ?_;obtain rfl:=An h3;exact Ao (Bq Tryz.results127 (A6 rfl)) sN ⟨rfl,rfl⟩
theorem Ty (F:Nat)(ho:(List Aa)→Int→Int→Option (Int))(hp:(List Aa)→Int→Int→Option (Int))(hr:(∀(v:(List Aa)) (i:Int) (n:Int) (r:Int),ho v i n=some r→Fn Tryz.prog GE 128 [AD 4 (A1 Ab v),Al i,Al n] [] (λR H=>R=Al r∧H=[])))(hs:(∀(v:(List Aa)) (i:Int) (n:Int) (r:Int),hp v i n=some r→Fn Tryz.prog GE 129 [AD 4 (A1 Ab v),Al i,Al n] [] (λR H=>R=Al r∧H=[])))(v:(List Aa))(i:Int)(r:Int)(h:Oe F ho hp v i=some r):Fn Tryz.prog GE 94 [AD 4 (A1 Ab v),Al i] [] (λR H=>R=Al r∧H=[]):=by
 refine enter (n:=127) Tryz.func94 rfl Tryz.ntmps94 rfl (λw Z=>?_);unfold Oe at h;refine Af (wa rfl (Ak (Am (AC [(0,AD 4 (A1 Ab v)),(1,Al i),(13,rB ((decide (i<0))||(decide ((v.length:Int)≤i))))] [] ?_ ?_))))
 ·refine Aj (wm rfl (wv (Cc rfl rfl) (wm rfl (AN (decide (i<0)) (λc1=>?_) (λc1=>?_)))))
  ·refine wf c1 (wf c1 (wf c1 (wf c1 (wv (r:=rB true) (Ax rfl c1 rfl) (Ai ?_)))));exact BG c1
  ·refine wo c1 (wm rfl (wo c1 (wm rfl (wo c1 (wv (AI (ys:=v) (enc:=Ab) Bp rfl) (wo c1 (wv (ER rfl rfl) (Cm rfl c1 rfl (Ai ?_)))))))));exact BG c1
 refine cz h rfl (λc2 h3=>?_) (λc2 h4=>?_)
 ·refine Af (wv (r:=Al (-1)) (AE rfl) (Ak (Ap (Ac ?_))));obtain rfl:=An h3;exact Ao (Bq OK (A6 rfl)) sN ⟨rfl,rfl⟩
 ·refine Aq (AA (Af (wm rfl (wm rfl (ck h4 λg5 h6=>wv (AT (enc:=Ab) (ys:=v) Bp By rfl rfl g5) (wv (C5 Jh By rfl rfl rfl) (Cf (cs:=[Al 0,Al 0,rS ([]:Au),Al 0]) GT rfl rfl (λb7=>?_))))))));refine Bj (i:=0) By rfl rfl rfl (BR.c rfl) rfl rfl (cs':=[Al ((Ay v i).fKind),Al ((Ay v i).fInt),rS ((Ay v i).fStr),Al ((Ay v i).fN)]) rfl (H':=[.blk b7 (Ab (Ay v i)) 54]) rfl (Ak (Am (Af (vF Bl rfl C8 (vL 0 CF rfl (wv (Be rfl rfl) (Ak (cz h6 rfl (λc8 h9=>?_) (λc8 ht=>?_)))))))))
  ·refine ck h9 λhu hw=>ck hw λhx hy=>ck hy λhz h0=>AC [(4,Al (bif decide (((Ay v i).fInt)=0) then(bif decide (((Ay v i).fStr)=([]:Au)) then(ov (BH (decide (((Ay v i).fN)=0)) i)) else(ov (BH false i))) else(ov (BH false i))))] [] ?_ ?_
   ·refine Aj (vF Bl rfl BB (vL 0 BL rfl (wv (Be rfl rfl) (wm rfl (AN (decide (((Ay v i).fInt)=0)) (λhb=>?_) (λhb=>?_))))))
    ·refine wo hb (vF Bl rfl CE (wo hb (vL 0 CI rfl (wo hb (wv (DM rfl rfl) (Ci rfl hb rfl (wm rfl (AN (decide (((Ay v i).fStr)=([]:Au))) (λhf=>?_) (λhf=>?_)))))))))
     ·refine wo hf (vF Bl rfl BB (wo hf (vL 0 BL rfl (wo hf (wv (Be rfl rfl) (Ci rfl hf rfl (wm rfl (BQ Iw (D9 (decide (((Ay v i).fN)=0)) i (ov (BH (decide (((Ay v i).fN)=0)) i)) (C1 (BD (BD hu hb) hf))) rfl (wa rfl (Ai ?_))))))))));exact BG (And.intro hb hf)
     ·refine wf hf (wf hf (wf hf (wv (r:=rB false) (At rfl hf rfl) (wm rfl (BQ Iw (D9 false i (ov (BH false i)) (C1 (Cn (BD hx hb) hf))) rfl (wa rfl (Ai ?_)))))));exact BG (And.intro hb hf)
    ·refine wf hb (wf hb (wf hb (wv (r:=rB false) (At rfl hb rfl) (wm rfl (wz rfl rfl (wz rfl rfl (wz rfl rfl (wv (r:=rB false) (At (b:=false) rfl rfl rfl) (wm rfl (BQ Iw (D9 false i (ov (BH false i)) (C1 (Cn hz hb))) rfl (wa rfl (Ai ?_))))))))))));exact BG hb
   refine Ap (Ac ?_);obtain rfl:=An h0;exact Ao (Bq OK (A6 rfl)) sN ⟨rfl,rfl⟩
  ·refine Aq (AA (Am (Af (vF Bl rfl C8 (vL 0 CF rfl (wv (Be rfl rfl) (Ak (cz ht rfl (λh1 h2=>?_) (λh1 h5=>?_)))))))))
   ·refine ck h2 λh7 h8=>ck h8 λhA hB=>ck hB λhC hD=>ck hD λhE hG=>ck hG λhH hI=>AC [(4,Al (bif decide (((Ay v i).fInt)=0) then(bif decide (((Ay v i).fStr)=([]:Au)) then(ov (BH (decide (((Ay v i).fN)=0)) i)) else(ov (BH false i))) else(bif decide (((Ay v i).fInt)=1) then(bif decide (((Ay v i).fStr)=([]:Au)) then(ov (BH (decide (((Ay v i).fN)=0)) i)) else(ov (BH false i))) else(ov (BH false i)))))] [] ?_ ?_
    ·refine Aj (vF Bl rfl BB (vL 0 BL rfl (wv (Be rfl rfl) (wm rfl (AN (decide (((Ay v i).fInt)=0)) (λha=>?_) (λha=>?_))))))
     ·refine wf ha (wf ha (wf ha (wv (r:=rB true) (Ax rfl ha rfl) (wm rfl (AQ (b:=true) rfl rfl rfl (vF Bl rfl CE (AQ (b:=true) rfl rfl rfl (vL 0 CI rfl (AQ (b:=true) rfl rfl rfl (wv (DM rfl rfl) (wv (r:=rB (decide (((Ay v i).fStr)=([]:Au)))) (Ax (b:=true) rfl rfl rfl) (wm rfl (AN (decide (((Ay v i).fStr)=([]:Au))) (λhg=>?_) (λhg=>?_))))))))))))))
      ·refine wo hg (vF Bl rfl BB (wo hg (vL 0 BL rfl (wo hg (wv (Be rfl rfl) (Ci rfl hg rfl (wm rfl (BQ Iw (D9 (decide (((Ay v i).fN)=0)) i (ov (BH (decide (((Ay v i).fN)=0)) i)) (C1 (BD (BD h7 ha) hg))) rfl (wa rfl (Ai ?_))))))))));exact BG (And.intro ha hg)
      ·refine wf hg (wf hg (wf hg (wv (r:=rB false) (At rfl hg rfl) (wm rfl (BQ Iw (D9 false i (ov (BH false i)) (C1 (Cn (BD hA ha) hg))) rfl (wa rfl (Ai ?_)))))));exact BG (And.intro ha hg)
     ·refine wo ha (vF Bl rfl BB (wo ha (vL 0 BL rfl (wo ha (wv (Be rfl rfl) (Cm rfl ha rfl (wm rfl (AN (decide (((Ay v i).fInt)=1)) (λhe=>?_) (λhe=>?_)))))))))
      ·refine wo he (vF Bl rfl CE (wo he (vL 0 CI rfl (wo he (wv (DM rfl rfl) (Ci rfl he rfl (wm rfl (AN (decide (((Ay v i).fStr)=([]:Au))) (λhh=>?_) (λhh=>?_)))))))))
       ·refine wo hh (vF Bl rfl BB (wo hh (vL 0 BL rfl (wo hh (wv (Be rfl rfl) (Ci rfl hh rfl (wm rfl (BQ Iw (D9 (decide (((Ay v i).fN)=0)) i (ov (BH (decide (((Ay v i).fN)=0)) i)) (C1 (BD (BD (Cn hC ha) he) hh))) rfl (wa rfl (Ai ?_))))))))));exact BG (And.intro ha (And.intro he hh))
       ·refine wf hh (wf hh (wf hh (wv (r:=rB false) (At rfl hh rfl) (wm rfl (BQ Iw (D9 false i (ov (BH false i)) (C1 (Cn (BD (Cn hE ha) he) hh))) rfl (wa rfl (Ai ?_)))))));exact BG (And.intro ha (And.intro he hh))
      ·refine wf he (wf he (wf he (wv (r:=rB false) (At rfl he rfl) (wm rfl (wz rfl rfl (wz rfl rfl (wz rfl rfl (wv (r:=rB false) (At (b:=false) rfl rfl rfl) (wm rfl (BQ Iw (D9 false i (ov (BH false i)) (C1 (Cn (Cn hH ha) he))) rfl (wa rfl (Ai ?_))))))))))));exact BG (And.intro ha he)
    refine Ap (Ac ?_);obtain rfl:=An hI;exact Ao (Bq OK (A6 rfl)) sN ⟨rfl,rfl⟩
   ·refine Aq (AA (Am (Af (vF Bl rfl C8 (vL 0 CF rfl (wv (Be rfl rfl) (Ak (cz h5 rfl (λhJ hK=>?_) (λhJ hL=>?_)))))))))
    ·refine ck hK λhN hO=>ck hO λhP hQ=>AC [(4,Al (bif decide (((Ay v i).fStr)=([]:Au)) then(ov (BH (decide (((Ay v i).fN)=0)) i)) else(ov (BH false i))))] [] ?_ ?_
     ·refine Aj (vF Bl rfl CE (vL 0 CI rfl (wv (DM rfl rfl) (wm rfl (AN (decide (((Ay v i).fStr)=([]:Au))) (λhi=>?_) (λhi=>?_))))))
      ·refine wo hi (vF Bl rfl BB (wo hi (vL 0 BL rfl (wo hi (wv (Be rfl rfl) (Ci rfl hi rfl (wm rfl (BQ Iw (D9 (decide (((Ay v i).fN)=0)) i (ov (BH (decide (((Ay v i).fN)=0)) i)) (C1 (BD hN hi))) rfl (wa rfl (Ai ?_))))))))));exact BG hi
      ·refine wf hi (wf hi (wf hi (wv (r:=rB false) (At rfl hi rfl) (wm rfl (BQ Iw (D9 false i (ov (BH false i)) (C1 (Cn hP hi))) rfl (wa rfl (Ai ?_)))))));exact BG hi
     refine Ap (Ac ?_);obtain rfl:=An hQ;exact Ao (Bq OK (A6 rfl)) sN ⟨rfl,rfl⟩
    ·refine Aq (AA (Am (Af (vF Bl rfl C8 (vL 0 CF rfl (wv (Be rfl rfl) (Ak (cz hL rfl (λhR hS=>?_) (λhR hT=>?_)))))))))
     ·refine Af (wv (AF (i:=0) Jh By rfl rfl rfl rfl) (ob hS λhq hU hV=>BQ Tryz.call127 (T0 F (Ay v i) hq hU) rfl (wm rfl (ob hV λhW hX hY=>BQ Iw (D9 hq i hW hX) rfl (wa rfl (Ak (Ap (Ac ?_))))))));obtain rfl:=An hY;exact Ao (Bq OK (A6 rfl)) (sS sN) ⟨rfl,rfl⟩
     ·refine Aq (AA (Am (AC [(0,AD 4 (A1 Ab v)),(1,Al i),(5,rP b7 0),(96,rB ((decide (((Ay v i).fKind)=5))&&((decide (((Ay v i).fInt)=0))&&((decide (((Ay v i).fStr)=([]:Au)))&&(decide (0≤((Ay v i).fN)))))))] [.blk b7 (Ab (Ay v i)) 54] ?_ ?_)))
      ·refine Aj (vF Bl rfl C8 (vL 0 CF rfl (wv (Be rfl rfl) (wm rfl (AN (decide (((Ay v i).fKind)=5)) (λc53=>?_) (λc53=>?_))))))
       ·refine wo c53 (vF Bl rfl BB (wo c53 (vL 0 BL rfl (wo c53 (wv (Be rfl rfl) (Ci rfl c53 rfl (wm rfl (AN (decide (((Ay v i).fInt)=0)) (λhk=>?_) (λhk=>?_)))))))))
        ·refine wo hk (vF Bl rfl CE (wo hk (vL 0 CI rfl (wo hk (wv (DM rfl rfl) (Ci rfl hk rfl (wm rfl (AN (decide (((Ay v i).fStr)=([]:Au))) (λhm=>?_) (λhm=>?_)))))))))
         ·refine wo hm (vF Bl rfl BB (wo hm (vL 0 BL rfl (wo hm (wv (ER rfl rfl) (Ci rfl hm rfl (Ai ?_)))))));exact BG (And.intro c53 (And.intro hk hm))
         ·refine wf hm (wf hm (wf hm (wv (r:=rB false) (At rfl hm rfl) (Ai ?_))));exact BG (And.intro c53 (And.intro hk hm))
        ·refine wf hk (wf hk (wf hk (wv (r:=rB false) (At rfl hk rfl) (wm rfl (wz rfl rfl (wz rfl rfl (wz rfl rfl (wv (r:=rB false) (At (b:=false) rfl rfl rfl) (Ai ?_)))))))));exact BG (And.intro c53 hk)
       ·refine wf c53 (wf c53 (wf c53 (wv (r:=rB false) (At rfl c53 rfl) (wm rfl (wz rfl rfl (wz rfl rfl (wz rfl rfl (wv (r:=rB false) (At (b:=false) rfl rfl rfl) (wm rfl (wz rfl rfl (wz rfl rfl (wz rfl rfl (wv (r:=rB false) (At (b:=false) rfl rfl rfl) (Ai ?_))))))))))))));exact BG c53
      refine cz hT rfl (λhZ ga=>?_) (λhZ gb=>?_)
      ·refine Af (wm rfl (wm rfl (ck ga λgc gd=>wv (Bd rfl rfl gc) (vF Bl rfl BB (vL 0 BL rfl (ob gd λge gf gg=>BQ Tryz.call128 (hr v (i+1) ((Ay v i).fN) ge gf) rfl (wa rfl (Ak (Ap (Ac ?_))))))))));obtain rfl:=An gg;exact Ao (Bq OK (A6 rfl)) (sS sN) ⟨rfl,rfl⟩
      ·refine Aq (AA (Am (AC [(0,AD 4 (A1 Ab v)),(1,Al i),(5,rP b7 0),(120,rB ((decide (((Ay v i).fKind)=6))&&((decide (((Ay v i).fInt)=0))&&((decide (((Ay v i).fStr)=([]:Au)))&&(decide (0≤((Ay v i).fN)))))))] [.blk b7 (Ab (Ay v i)) 54] ?_ ?_)))
       ·refine Aj (vF Bl rfl C8 (vL 0 CF rfl (wv (Be rfl rfl) (wm rfl (AN (decide (((Ay v i).fKind)=6)) (λhj=>?_) (λhj=>?_))))))
        ·refine wo hj (vF Bl rfl BB (wo hj (vL 0 BL rfl (wo hj (wv (Be rfl rfl) (Ci rfl hj rfl (wm rfl (AN (decide (((Ay v i).fInt)=0)) (λhl=>?_) (λhl=>?_)))))))))
         ·refine wo hl (vF Bl rfl CE (wo hl (vL 0 CI rfl (wo hl (wv (DM rfl rfl) (Ci rfl hl rfl (wm rfl (AN (decide (((Ay v i).fStr)=([]:Au))) (λhn=>?_) (λhn=>?_)))))))))
          ·refine wo hn (vF Bl rfl BB (wo hn (vL 0 BL rfl (wo hn (wv (ER rfl rfl) (Ci rfl hn rfl (Ai ?_)))))));exact BG (And.intro hj (And.intro hl hn))
          ·refine wf hn (wf hn (wf hn (wv (r:=rB false) (At rfl hn rfl) (Ai ?_))));exact BG (And.intro hj (And.intro hl hn))
         ·refine wf hl (wf hl (wf hl (wv (r:=rB false) (At rfl hl rfl) (wm rfl (wz rfl rfl (wz rfl rfl (wz rfl rfl (wv (r:=rB false) (At (b:=false) rfl rfl rfl) (Ai ?_)))))))));exact BG (And.intro hj hl)
        ·refine wf hj (wf hj (wf hj (wv (r:=rB false) (At rfl hj rfl) (wm rfl (wz rfl rfl (wz rfl rfl (wz rfl rfl (wv (r:=rB false) (At (b:=false) rfl rfl rfl) (wm rfl (wz rfl rfl (wz rfl rfl (wz rfl rfl (wv (r:=rB false) (At (b:=false) rfl rfl rfl) (Ai ?_))))))))))))));exact BG hj
       refine cz gb rfl (λgh gi=>?_) (λgh gj=>?_)
       ·refine Af (wm rfl (wm rfl (ck gi λgl gm=>wv (Bd rfl rfl gl) (vF Bl rfl BB (vL 0 BL rfl (ob gm λgp gq gr=>BQ Tryz.call129 (hs v (i+1) ((Ay v i).fN) gp gq) rfl (wa rfl (Ak (Ap (Ac ?_))))))))));obtain rfl:=An gr;exact Ao (Bq OK (A6 rfl)) (sS sN) ⟨rfl,rfl⟩
       ·refine Aq (AA (Af (wv (r:=Al (-1)) (AE rfl) (Ak (Ap ?_)))));obtain rfl:=An gj;exact Ao (Bq OK (A6 rfl)) (sS sN) ⟨rfl,rfl⟩
theorem Og (F:Nat)(ha:(List Aa)→Int→Option (Int))(hl:(∀(v:(List Aa)) (i:Int) (r:Int),ha v i=some r→Fn Tryz.prog GE 94 [AD 4 (A1 Ab v),Al i] [] (λR H=>R=Al r∧H=[])))(v:(List Aa))(i:Int)(n:Int)(r:Int)(h:HV F ha v i n=some r):Fn Tryz.prog GE 128 [AD 4 (A1 Ab v),Al i,Al n] [] (λR H=>R=Al r∧H=[]):=by
 refine enter (n:=19) Tryz.func128 rfl Tryz.ntmps128 rfl (λw Z=>?_);unfold HV at h;refine Af (wa rfl (Ak (Am (Af (wa rfl (Ak (A5 (ob h λhm hn hi=>Bc (S:=Nat×(Int×Int)×(Unit)) (V:=(Int)×(Unit)) 0 (λσ=>BP (λσ=>CK v n ha σ.1 σ.2) σ.1 σ.2.1=some hm) (λσ=>[(0,AD 4 (A1 Ab v)),(1,Al σ.2.1.1),(2,Al n),(6,Al 0),(7,Al σ.2.1.2)]) (λσ=>[]) (λσ=>σ.1) (F,(i,0),()) hn (Az.c5 rfl rfl rfl rfl rfl Az.nil) sN (λσ=>DG σ.1=some r) (λσ=>[(1,Al σ.1),(6,Al 0)]) (λσ=>[]) ?_ ?_))))))))
 ·rintro⟨h3,⟨hb,hg⟩,⟨⟩⟩ ho;refine Bu (l':=[(0,AD 4 (A1 Ab v)),(1,Al hb),(2,Al n),(6,Al 0),(7,Al hg)]) (H':=[]) rfl rfl ?_;obtain⟨hp,rfl,hq,he,hh⟩:=BK ho;replace he:CK v n ha hb hg=some hq:=he;unfold CK at he;refine Am (Af (wm rfl (wm rfl (wv (Cc rfl rfl) (Ak (cz he rfl (λc46 hr=>?_) (λc46 hs=>?_)))))))
  ·refine Aq (AA (Am (A5 (Af (wm rfl (wm rfl (ob hr λhj ht hu=>BQ J5 (hl v hb hj ht) rfl (wa rfl (Bb (wm rfl (wv (Cc rfl rfl) (Ak (cz hu rfl (λc51 hw=>?_) (λc51 hx=>?_))))))))))))))
   ·refine Af (wv (r:=Al (-1)) (AE rfl) (Ak (Ap (As (Ac (Ac (AO ?_)))))));have hy:=Bg hw hh hi;refine As (Ac ?_);obtain rfl:=An hy;exact Ao (Bq Tryz.results128 (A6 rfl)) sN ⟨rfl,rfl⟩
   ·refine Aq (A3 (AA (Aj (wm rfl (ck hx λhz h0=>wv (Bd rfl rfl hz) (wa rfl (Ai ?_)))))));have h1:=AW h0 hh;exact Av (Ar (hp,(hj,hg+1),()) ⟨h1,XX _⟩ (Az.c5 rfl rfl rfl rfl rfl Az.nil) sN)
  ·refine Bi (Aw ?_);have h2:=Bx hs hh hi;exact Aw (AS (Ar (hb,()) h2 (Az.c rfl (Az.c rfl Az.nil)) sN))
 ·rintro⟨hk,⟨⟩⟩ hf;refine BS (l':=[(1,Al hk),(6,Al 0)]) (H':=[]) rfl rfl ?_;replace hf:DG hk=some r:=hf;unfold DG at hf;refine AV (AA (Af (wm rfl (wa rfl (Ak (Ap ?_))))));obtain rfl:=An hf;exact Ao (Bq Tryz.results128 (A6 rfl)) sN ⟨rfl,rfl⟩
theorem RW (F:Nat)(hh:(List Aa)→Int→Option (Int))(hq:(∀(v:(List Aa)) (i:Int) (r:Int),hh v i=some r→Fn Tryz.prog GE 94 [AD 4 (A1 Ab v),Al i] [] (λR H=>R=Al r∧H=[])))(v:(List Aa))(i:Int)(n:Int)(r:Int)(h:LM F hh v i n=some r):Fn Tryz.prog GE 129 [AD 4 (A1 Ab v),Al i,Al n] [] (λR H=>R=Al r∧H=[]):=by
 refine enter (n:=51) Tryz.func129 rfl Tryz.ntmps129 rfl (λw Z=>?_);unfold LM at h;refine Af (wa rfl (Bb (wv (r:=rS ([]:Au)) (AE rfl) (Ak (Am (Af (wa rfl (Ak (A5 (ob h λhr hs hm=>Bc (S:=Nat×(Int×Au×Int)×(Unit)) (V:=(Int)×(Unit)) 0 (λσ=>BP (λσ=>Dh F v n hh σ.1 σ.2.1 σ.2.2) σ.1 σ.2.1=some hr) (λσ=>[(0,AD 4 (A1 Ab v)),(1,Al σ.2.1.1),(2,Al n),(7,rS σ.2.1.2.1),(8,Al σ.2.1.2.2)]) (λσ=>[]) (λσ=>σ.1) (F,(i,([]:Au),0),()) hs (Az.c5 rfl rfl rfl rfl rfl Az.nil) sN (λσ=>Gh σ.1=some r) (λσ=>[(1,Al σ.1)]) (λσ=>[]) ?_ ?_))))))))))
 ·rintro⟨hN,⟨hf,hi,hg⟩,⟨⟩⟩ ht;refine Bu (l':=[(0,AD 4 (A1 Ab v)),(1,Al hf),(2,Al n),(7,rS hi),(8,Al hg)]) (H':=[]) rfl rfl ?_;obtain⟨hu,rfl,hw,hj,hk⟩:=BK ht;replace hj:Dh F v n hh hf hi hg=some hw:=hj;unfold Dh at hj;refine Am (Af (wm rfl (wm rfl (wv (Cc rfl rfl) (Ak (cz hj rfl (λhx hy=>?_) (λhx hz=>?_)))))))
  ·refine Aq (AA (Am (A5 (Am (ck hy λhn h0=>ck h0 λh1 h2=>AC [(0,AD 4 (A1 Ab v)),(1,Al hf),(2,Al n),(8,Al hg),(38,rB ((decide ((v.length:Int)≤hf))||((!(ov (Nh F (Ay v hf))))||((decide (0<hg))&&(De ((Ay v hf).fStr) hi||decide (((Ay v hf).fStr)=hi))))))] [] ?_ ?_)))))
   ·refine Aj (wm rfl (wm rfl (wv (AI (ys:=v) (enc:=Ab) Bp rfl) (wv (ER rfl rfl) (wm rfl (AN (decide ((v.length:Int)≤hf)) (λha=>?_) (λha=>?_)))))))
    ·refine wf ha (wf ha (wf ha (wf ha (wf ha (wf ha (wv (r:=rB true) (Ax rfl ha rfl) (wm rfl (wz rfl rfl (wz rfl rfl (wz rfl rfl (wu (wu (wu (wu (wu (wu (wu (wz rfl rfl (wv (r:=rB true) (Ax (b:=true) rfl rfl rfl) (Ai ?_))))))))))))))))))));exact BG ha
    ·refine wo ha (wm rfl (wo ha (wm rfl (wo ha (wv (AT (enc:=Ab) (ys:=v) Bp By rfl rfl (Cn hn ha)) (wo ha (wv (C5 Jh By rfl rfl rfl) (wo ha (BQ Tryz.call127 (T0 F (Ay v hf) (ov (Nh F (Ay v hf))) (C1 (Cn h1 ha))) rfl (wo ha (wv (B4 rfl) (Cm rfl ha rfl (wm rfl (AN (!(ov (Nh F (Ay v hf)))) (λhe=>?_) (λhe=>?_)))))))))))))))
     ·refine wf he (wf he (wf he (wu (wu (wu (wu (wu (wu (wu (wf he (wv (r:=rB true) (Ax rfl he rfl) (Ai ?_))))))))))));exact BG (And.intro ha he)
     ·refine wo he (wm rfl (wo he (wv (CC rfl rfl) (wo he (wm rfl (AN (decide (0<hg)) (λhb=>?_) (λhb=>?_)))))))
      ·refine wo hb (wm rfl (wo hb (wm rfl (wo hb (wv (AT (enc:=Ab) (ys:=v) Bp By rfl rfl (Cn hn ha)) (wo hb (wv (AK Bl rfl CE rfl rfl) (wo hb (wv (AH CI rfl rfl) (wo hb (wm rfl (wo hb (wv (Rh rfl rfl) (wo he (Ci rfl hb rfl (Cm rfl he rfl (Ai ?_)))))))))))))))));exact BG (And.intro ha (And.intro he hb))
      ·refine wf hb (wf hb (wf hb (wf hb (wf hb (wf hb (wf hb (wo he (wv (r:=rB false) (At rfl hb rfl) (Cm rfl he rfl (Ai ?_))))))))));exact BG (And.intro ha (And.intro he hb))
   refine cz h2 rfl (λh3 h4=>?_) (λh3 h5=>?_)
   ·refine Af (wv (r:=Al (-1)) (AE rfl) (Ak (Ap (Ac (As (Ac (Ac (AO ?_))))))));have h6:=Bg h4 hk hm;refine As (Ac ?_);obtain rfl:=An h6;exact Ao (Bq Tryz.results129 (A6 rfl)) sN ⟨rfl,rfl⟩
   ·refine Aq (AA (Af (wm rfl (wm rfl (ck h5 λh7 h8=>wv (AT (enc:=Ab) (ys:=v) Bp By rfl rfl h7) (wv (AK Bl rfl CE rfl rfl) (wv (AH CI rfl rfl) (wa rfl (Bb (wm rfl (wm rfl (ck h8 λh9 hA=>wv (Bd rfl rfl h9) (ob hA λho hB hC=>BQ J5 (hq v (hf+1) ho hB) rfl (wa rfl (Bb (wm rfl (wv (Cc rfl rfl) (Ak (cz hC rfl (λhD hE=>?_) (λhD hG=>?_))))))))))))))))))))
    ·refine Af (wv (r:=Al (-1)) (AE rfl) (Ak (Ap (As (Ac (Ac (AO ?_)))))));have hH:=Bg hE hk hm;refine As (Ac ?_);obtain rfl:=An hH;exact Ao (Bq Tryz.results129 (A6 rfl)) sN ⟨rfl,rfl⟩
    ·refine Aq (A3 (AA (Aj (wm rfl (ck hG λhI hJ=>wv (Bd rfl rfl hI) (wa rfl (Ai ?_)))))));have hK:=AW hJ hk;exact Av (Ar (hu,(ho,(Ay v hf).fStr,hg+1),()) ⟨hK,XX _⟩ (Az.c5 rfl rfl rfl rfl rfl Az.nil) sN)
  ·refine Bi (Aw ?_);have hL:=Bx hz hk hm;exact Aw (AS (Ar (hf,()) hL (Az.c rfl Az.nil) sN))
 ·rintro⟨hp,⟨⟩⟩ hl;refine BS (l':=[(1,Al hp)]) (H':=[]) rfl rfl ?_;replace hl:Gh hp=some r:=hl;unfold Gh at hl;refine AV (AA (Af (wm rfl (wa rfl (Ak (Ap ?_))))));obtain rfl:=An hl;exact Ao (Bq Tryz.results129 (A6 rfl)) sN ⟨rfl,rfl⟩
theorem Hp:∀F:Nat,(∀(v:(List Aa)) (i:Int) (r:Int),Db F v i=some r→Fn Tryz.prog GE 94 [AD 4 (A1 Ab v),Al i] [] (λR H=>R=Al r∧H=[]))∧(∀(v:(List Aa)) (i:Int) (n:Int) (r:Int),Gi F v i n=some r→Fn Tryz.prog GE 128 [AD 4 (A1 Ab v),Al i,Al n] [] (λR H=>R=Al r∧H=[]))∧(∀(v:(List Aa)) (i:Int) (n:Int) (r:Int),KG F v i n=some r→Fn Tryz.prog GE 129 [AD 4 (A1 Ab v),Al i,Al n] [] (λR H=>R=Al r∧H=[]))
  | 0=>⟨(λ_ _ _ h=>by simp[Db] at h),(λ_ _ _ _ h=>by simp[Gi] at h),(λ_ _ _ _ h=>by simp[KG] at h)⟩
  | nn+1=>⟨(λv i r h=>Ty nn (Gi nn) (KG nn) (Hp nn).2.1 (Hp nn).2.2 v i r (by rw[Db] at h;exact h)),(λv i n r h=>Og nn (Db nn) (Hp nn).1 v i n r (by rw[Gi] at h;exact h)),(λv i n r h=>RW nn (Db nn) (Hp nn).1 v i n r (by rw[KG] at h;exact h))⟩
theorem Ec (F:Nat)(v:(List Aa))(i:Int)(r:Int)(h:Db F v i=some r):Fn Tryz.prog GE 94 [AD 4 (A1 Ab v),Al i] [] (λR H=>R=Al r∧H=[]):=(Hp F).1 v i r h
theorem RZ (F:Nat)(v:(List Aa))(r:Bool)(h:JV F v=some r):Fn Tryz.prog GE 74 [AD 4 (A1 Ab v)] [] (λR H=>R=rB r∧H=[]):=by
 refine enter (n:=13) Tryz.func74 rfl Tryz.ntmps74 rfl (λw Z=>?_);unfold JV at h;refine Af (wa rfl (Ak (ck h λg1 h2=>AC [(2,rB ((decide (0<(v.length:Int)))&&(decide ((ov (Db F v 0))=(v.length:Int)))))] [] ?_ ?_)))
 ·refine Aj (wm rfl (wv (AI (ys:=v) (enc:=Ab) Bp rfl) (wv (CC rfl rfl) (wm rfl (AN (decide (0<(v.length:Int))) (λc3=>?_) (λc3=>?_))))))
  ·refine wo c3 (wm rfl (wo c3 (BQ J5 (Ec F v 0 (ov (Db F v 0)) (C1 (BD g1 c3))) rfl (wo c3 (wm rfl (wo c3 (wv (AI (ys:=v) (enc:=Ab) Bp rfl) (wo c3 (wv (Be rfl rfl) (Ci rfl c3 rfl (wa rfl (Ai ?_))))))))))));exact BG c3
  ·refine wf c3 (wf c3 (wf c3 (wf c3 (wf c3 (wv (r:=rB false) (At rfl c3 rfl) (wa rfl (Ai ?_)))))));exact BG c3
 refine Ap ?_;obtain rfl:=An h2;exact Ao (Bq Tryz.results74 (A6 rfl)) sN ⟨rfl,rfl⟩
theorem Qr (F:Nat)(hg:(List Aa)→Int→Option (Int))(hk:(∀(v:(List Aa)) (i:Int) (r:Int),hg v i=some r→Fn Tryz.prog GE 75 [AD 4 (A1 Ab v),Al i] [] (λR H=>R=Al r∧H=[])))(v:(List Aa))(i:Int)(r:Int)(h:Hq F hg v i=some r):Fn Tryz.prog GE 75 [AD 4 (A1 Ab v),Al i] [] (λR H=>R=Al r∧H=[]):=by
 refine enter (n:=47) Tryz.func75 rfl Tryz.ntmps75 rfl (λw Z=>?_);unfold Hq at h;refine Af (wa rfl (Bb (wm rfl (wm rfl (ck h λg1 h2=>wv (AT (enc:=Ab) (ys:=v) Bp By rfl rfl g1) (wv (C5 Jh By rfl rfl rfl) (Cf (cs:=[Al 0,Al 0,rS ([]:Au),Al 0]) GT rfl rfl (λb3=>?_))))))));refine Bj (i:=0) By rfl rfl rfl (BR.c rfl) rfl rfl (cs':=[Al ((Ay v i).fKind),Al ((Ay v i).fInt),rS ((Ay v i).fStr),Al ((Ay v i).fN)]) rfl (H':=[.blk b3 (Ab (Ay v i)) 54]) rfl (Ak (Am (AC [(0,AD 4 (A1 Ab v)),(1,Al i),(5,rP b3 0),(21,rB ((!decide (((Ay v i).fKind)=5))&&(!decide (((Ay v i).fKind)=6))))] [.blk b3 (Ab (Ay v i)) 54] ?_ ?_)))
 ·refine Aj (vF Bl rfl C8 (vL 0 CF rfl (wv (Bk rfl rfl) (wm rfl (AN (!decide (((Ay v i).fKind)=5)) (λc4=>?_) (λc4=>?_))))))
  ·refine wo c4 (vF Bl rfl C8 (wo c4 (vL 0 CF rfl (wo c4 (wv (Bk rfl rfl) (Ci rfl c4 rfl (Ai ?_)))))));exact BG c4
  ·refine wf c4 (wf c4 (wf c4 (wv (r:=rB false) (At rfl c4 rfl) (Ai ?_))));exact BG c4
 refine cz h2 rfl (λc5 h6=>?_) (λc5 h7=>?_)
 ·refine Af (wa rfl (Ak (Ap (Ac ?_))));obtain rfl:=An h6;exact Ao (Bq Tryz.results75 (A6 rfl)) (sS sN) ⟨rfl,rfl⟩
 ·refine Aq (AA (Af (wa rfl (Bb (wm rfl (ck h7 λg8 h9=>wv (Bd rfl rfl g8) (wa rfl (Ak (Am (Af (wa rfl (Ak (A5 (ob h9 λhs ht hu=>Bc (S:=Nat×(Int×Int×Int)×(Unit)) (V:=(Int)×(Unit)) 0 (λσ=>BP (λσ=>CG F v i hg σ.1 σ.2.1 σ.2.2) σ.1 σ.2.1=some hs) (λσ=>[(0,AD 4 (A1 Ab v)),(5,rP b3 0),(6,Al σ.2.1.1),(7,Al σ.2.1.2.1),(8,Al σ.2.1.2.2)]) (λσ=>[.blk b3 (Ab (Ay v i)) 54]) (λσ=>σ.1) (F,(0,i+1,0),()) ht (Az.c5 rfl rfl rfl rfl rfl Az.nil) (sC sN) (λσ=>D7 σ.1=some r) (λσ=>[(6,Al σ.1)]) (λσ=>[]) ?_ ?_))))))))))))))
  ·rintro⟨gj,⟨he,ha,hb⟩,⟨⟩⟩ hw;refine Bu (l':=[(0,AD 4 (A1 Ab v)),(5,rP b3 0),(6,Al he),(7,Al ha),(8,Al hb)]) (H':=[.blk b3 (Ab (Ay v i)) 54]) rfl rfl ?_;obtain⟨hh,rfl,hx,hi,hf⟩:=BK hw;replace hi:CG F v i hg he ha hb=some hx:=hi;unfold CG at hi;refine Am (Af (wm rfl (vF Bl rfl BB (vL 0 BL rfl (wv (Cc rfl rfl) (Ak (cz hi rfl (λhy hz=>?_) (λhy h0=>?_))))))))
   ·refine Aq (AA (Am (A5 (Am (Af (vF Bl rfl C8 (vL 0 CF rfl (wv (Be rfl rfl) (Ak (cz hz rfl (λh1 h3=>?_) (λh1 h4=>?_)))))))))))
    ·refine Aj (wm rfl (ck h3 λh5 h8=>wv (Bd rfl rfl h5) (wa rfl (Bb (wm rfl (wm rfl (ob h8 λhl hA hB=>BQ Tryz.call75 (hk v (ha+1) hl hA) rfl (wa rfl (Ak (Am (Af (wm rfl (wm rfl (wv (CC rfl rfl) (Ak (cz hB rfl (λhC hD=>?_) (λhC hE=>?_)))))))))))))))))
     ·refine Aj (wm rfl (wa rfl (Ak (Aj (wm rfl (wm rfl (ob hD λhm hG hH=>BQ J5 (Ec F v (ha+1) hm hG) rfl (wa rfl (Ai (A3 (AA (Aj (wm rfl (ck hH λhI hJ=>wv (Bd rfl rfl hI) (wa rfl (Ai ?_))))))))))))))));have hK:=AW hJ hf;exact Av (Ar (hh,(hl,hm,hb+1),()) ⟨hK,XX _⟩ (Az.c5 rfl rfl rfl rfl rfl Az.nil) (sC sN))
     ·refine Aq (AA (Aj (wm rfl (wm rfl (ob hE λhn hL hN=>BQ J5 (Ec F v (ha+1) hn hL) rfl (wa rfl (Ai (A3 (AA (Aj (wm rfl (ck hN λhO hP=>wv (Bd rfl rfl hO) (wa rfl (Ai ?_))))))))))))));have hQ:=AW hP hf;exact Av (Ar (hh,(he,hn,hb+1),()) ⟨hQ,XX _⟩ (Az.c5 rfl rfl rfl rfl rfl Az.nil) (sC sN))
    ·refine Aq (AA (Af (wm rfl (wm rfl (ob h4 λho hR hS=>BQ Tryz.call75 (hk v ha ho hR) rfl (wa rfl (Ak (Am (Af (wm rfl (wm rfl (wv (CC rfl rfl) (Ak (cz hS rfl (λhT hU=>?_) (λhT hV=>?_)))))))))))))))
     ·refine Aj (wm rfl (wa rfl (Ak (Aj (wm rfl (wm rfl (ob hU λhp hW hX=>BQ J5 (Ec F v ha hp hW) rfl (wa rfl (Ai (A3 (AA (Aj (wm rfl (ck hX λhY hZ=>wv (Bd rfl rfl hY) (wa rfl (Ai ?_))))))))))))))));have ga:=AW hZ hf;exact Av (Ar (hh,(ho,hp,hb+1),()) ⟨ga,XX _⟩ (Az.c5 rfl rfl rfl rfl rfl Az.nil) (sC sN))
     ·refine Aq (AA (Aj (wm rfl (wm rfl (ob hV λhq gb gc=>BQ J5 (Ec F v ha hq gb) rfl (wa rfl (Ai (A3 (AA (Aj (wm rfl (ck gc λgd ge=>wv (Bd rfl rfl gd) (wa rfl (Ai ?_))))))))))))));have gf:=AW ge hf;exact Av (Ar (hh,(he,hq,hb+1),()) ⟨gf,XX _⟩ (Az.c5 rfl rfl rfl rfl rfl Az.nil) (sC sN))
   ·refine Bi (Aw ?_);have gg:=Bx h0 hf hu;exact Aw (AS (Ar (he,()) gg (Az.c rfl Az.nil) (sS sN)))
  ·rintro⟨hr,⟨⟩⟩ hj;refine BS (l':=[(6,Al hr)]) (H':=[]) rfl rfl ?_;replace hj:D7 hr=some r:=hj;unfold D7 at hj;refine AV (AA (Af (wm rfl (ck hj λgh gi=>wv (Bd rfl rfl gh) (wa rfl (Ak (Ap ?_)))))));obtain rfl:=An gi;exact Ao (Bq Tryz.results75 (A6 rfl)) sN ⟨rfl,rfl⟩
theorem Lw:∀F:Nat,(∀(v:(List Aa)) (i:Int) (r:Int),CR F v i=some r→Fn Tryz.prog GE 75 [AD 4 (A1 Ab v),Al i] [] (λR H=>R=Al r∧H=[]))
  | 0=>(λ_ _ _ h=>by simp[CR] at h)
  | nn+1=>(λv i r h=>Qr nn (CR nn) (Lw nn) v i r (by rw[CR] at h;exact h))
theorem RX (F:Nat)(v:(List Aa))(i:Int)(r:Int)(h:CR F v i=some r):Fn Tryz.prog GE 75 [AD 4 (A1 Ab v),Al i] [] (λR H=>R=Al r∧H=[]):=(Lw F) v i r h
theorem KF (F:Nat)(s:Au)(r:Au)(h:HU F s=some r):Fn Tryz.prog GE 106 [rS s] [] (λR H=>R=rS r∧H=[]):=by
 refine enter (n:=32) Tryz.func106 rfl Tryz.ntmps106 rfl (λw Z=>?_);unfold HU at h;refine Af (wv (r:=rS ([]:Au)) (AE rfl) (Bb (wv (r:=rS ([34]:Au)) (AE rfl) (Ak (Am (Af (wa rfl (Ak (A5 (ob h λhn ho hp=>Bc (S:=Nat×(Au×Int)×(Unit)) (V:=(Au)×(Unit)) 0 (λσ=>BP (λσ=>CO s σ.1 σ.2) σ.1 σ.2.1=some hn) (λσ=>[(0,rS s),(3,rS σ.2.1.1),(4,Al σ.2.1.2)]) (λσ=>[]) (λσ=>σ.1) (F,(([34]:Au),0),()) ho (Az.c rfl (Az.c rfl (Az.c rfl Az.nil))) sN (λσ=>Dq σ.1=some r) (λσ=>[(3,rS σ.1)]) (λσ=>[]) ?_ ?_))))))))))
 ·rintro⟨hN,⟨he,ha⟩,⟨⟩⟩ hq;refine Bu (l':=[(0,rS s),(3,rS he),(4,Al ha)]) (H':=[]) rfl rfl ?_;obtain⟨hi,rfl,hr,hf,hh⟩:=BK hq;replace hf:CO s he ha=some hr:=hf;unfold CO at hf;refine Am (Af (wm rfl (wm rfl (wv (BM D2 rfl) (wv (Cc rfl rfl) (Ak (cz hf rfl (λhs ht=>?_) (λhs hu=>?_))))))))
  ·refine Aq (AA (Am (A5 (Am (ck ht λhj hw=>AC [(0,rS s),(3,rS he),(4,Al ha),(20,rB ((decide ((Ck s ha)=34))||(decide ((Ck s ha)=92))))] [] ?_ ?_)))))
   ·refine Aj (wm rfl (wm rfl (wv (BC D2 rfl rfl hj) (wv (Be rfl rfl) (wm rfl (AN (decide ((Ck s ha)=34)) (λhb=>?_) (λhb=>?_)))))))
    ·refine wf hb (wf hb (wf hb (wf hb (wv (r:=rB true) (Ax rfl hb rfl) (Ai ?_)))));exact BG hb
    ·refine wo hb (wm rfl (wo hb (wm rfl (wo hb (wv (BC D2 rfl rfl hj) (wo hb (wv (Be rfl rfl) (Cm rfl hb rfl (Ai ?_)))))))));exact BG hb
   refine cz hw rfl (λhx hy=>?_) (λhx hz=>?_)
   ·refine Aj (wm rfl (ck hy λh0 h1=>wv (Dw rfl rfl h0) (wa rfl (Ak (Aj (wm rfl (wm rfl (wm rfl (wm rfl (ck h1 λhk h2=>wv (Bd rfl rfl hk) (ck h2 λh3 h4=>ck h4 λh5 h6=>wv (HZ D2 rfl rfl rfl h3 h5) (ck h6 λh7 h8=>wv (Dw rfl rfl h7) (wa rfl (Ai (A3 (AA (Aj (wm rfl ?_))))))))))))))))));refine wv (Bd rfl rfl hk) (wa rfl (Ai ?_));have h9:=AW h8 hh;exact Av (Ar (hi,((he++([92]:Au))++(List.take (Bw (ha+1)-Bw ha) (List.drop (Bw ha) s)),ha+1),()) ⟨h9,XX _⟩ (Az.c rfl (Az.c rfl (Az.c rfl Az.nil))) sN)
   ·refine Aq (AA (Aj (wm rfl (wm rfl (wm rfl (wm rfl (ck hz λhl hA=>wv (Bd rfl rfl hl) (ck hA λhB hC=>ck hC λhD hE=>wv (HZ D2 rfl rfl rfl hB hD) (ck hE λhG hH=>wv (Dw rfl rfl hG) (wa rfl (Ai (A3 (AA (Aj (wm rfl (wv (Bd rfl rfl hl) (wa rfl (Ai ?_))))))))))))))))));have hI:=AW hH hh;exact Av (Ar (hi,(he++(List.take (Bw (ha+1)-Bw ha) (List.drop (Bw ha) s)),ha+1),()) ⟨hI,XX _⟩ (Az.c rfl (Az.c rfl (Az.c rfl Az.nil))) sN)
  ·refine Bi (Aw ?_);have hJ:=Bx hu hh hp;exact Aw (AS (Ar (he,()) hJ (Az.c rfl Az.nil) sN))
 ·rintro⟨hm,⟨⟩⟩ hg;refine BS (l':=[(3,rS hm)]) (H':=[]) rfl rfl ?_;replace hg:Dq hm=some r:=hg;unfold Dq at hg;refine AV (AA (Af (wm rfl (ck hg λhK hL=>wv (Dw rfl rfl hK) (wa rfl (Ak (Ap ?_)))))));obtain rfl:=An hL;exact Ao (Bq Tryz.results106 (A6 rfl)) sN ⟨rfl,rfl⟩
theorem Tu (F:Nat)(hg:(List Aa)→Int→Option (Au))(hh:(∀(v:(List Aa)) (i:Int) (r:Au),hg v i=some r→Fn Tryz.prog GE 76 [AD 4 (A1 Ab v),Al i] [] (λR H=>R=rS r∧H=[])))(v:(List Aa))(i:Int)(r:Au)(h:KE F hg v i=some r):Fn Tryz.prog GE 76 [AD 4 (A1 Ab v),Al i] [] (λR H=>R=rS r∧H=[]):=by
 refine enter (n:=77) Tryz.func76 rfl Tryz.ntmps76 rfl (λw Z=>?_);unfold KE at h;refine Af (wv (r:=rS ([]:Au)) (AE rfl) (Bb (wm rfl (wm rfl (ck h λg1 h2=>wv (AT (enc:=Ab) (ys:=v) Bp By rfl rfl g1) (wv (C5 Jh By rfl rfl rfl) (Cf (cs:=[Al 0,Al 0,rS ([]:Au),Al 0]) GT rfl rfl (λb3=>?_))))))));refine Bj (i:=0) By rfl rfl rfl (BR.c rfl) rfl rfl (cs':=[Al ((Ay v i).fKind),Al ((Ay v i).fInt),rS ((Ay v i).fStr),Al ((Ay v i).fN)]) rfl (H':=[.blk b3 (Ab (Ay v i)) 54]) rfl (Ak (Am (Af (vF Bl rfl C8 (vL 0 CF rfl (wv (Be rfl rfl) (Ak (cz h2 rfl (λc4 h5=>?_) (λc4 h6=>?_)))))))))
 ·refine Af (wv (r:=rS ([110,117,108,108]:Au)) (AE rfl) (Ak (Ap (Ac ?_))));obtain rfl:=An h5;exact Ao (Bq PY (A6 rfl)) (sS sN) ⟨rfl,rfl⟩
 ·refine Aq (AA (Am (Af (vF Bl rfl C8 (vL 0 CF rfl (wv (Be rfl rfl) (Ak (cz h6 rfl (λc7 h8=>?_) (λc7 hx=>?_)))))))))
  ·refine Am (Af (vF Bl rfl BB (vL 0 BL rfl (wv (Be rfl rfl) (Ak (cz h8 rfl (λc9 hy=>?_) (λc9 hz=>?_)))))))
   ·refine Af (wv (r:=rS ([116,114,117,101]:Au)) (AE rfl) (Ak (Ap (Ac (Ac ?_)))));obtain rfl:=An hy;exact Ao (Bq PY (A6 rfl)) (sS sN) ⟨rfl,rfl⟩
   ·refine Aq (AA (Af (wv (r:=rS ([102,97,108,115,101]:Au)) (AE rfl) (Ak (Ap (Ac ?_))))));obtain rfl:=An hz;exact Ao (Bq PY (A6 rfl)) (sS sN) ⟨rfl,rfl⟩
  ·refine Aq (AA (Am (Af (vF Bl rfl C8 (vL 0 CF rfl (wv (Be rfl rfl) (Ak (cz hx rfl (λh0 h1=>?_) (λh0 h3=>?_)))))))))
   ·refine Af (vF Bl rfl BB (vL 0 BL rfl (ck h1 λg15 h4=>J9 (rs:=[Al ((Ay v i).fInt)]) (r:=rS (Lib.itoa ((Ay v i).fInt))) Tryz.call105 rfl (Wm ((Ay v i).fInt) g15) rfl rfl (wa rfl (Ak (Ap (Ac ?_)))))));obtain rfl:=An h4;exact Ao (Bq PY (A6 rfl)) (sS sN) ⟨rfl,rfl⟩
   ·refine Aq (AA (Am (Af (vF Bl rfl C8 (vL 0 CF rfl (wv (Be rfl rfl) (Ak (cz h3 rfl (λh7 h9=>?_) (λh7 hA=>?_)))))))))
    ·refine Af (vF Bl rfl CE (vL 0 CI rfl (ob h9 λhB hC hD=>BQ Tryz.call106 (KF F ((Ay v i).fStr) hB hC) rfl (wa rfl (Ak (Ap (Ac ?_)))))));obtain rfl:=An hD;exact Ao (Bq PY (A6 rfl)) (sS sN) ⟨rfl,rfl⟩
    ·refine Aq (AA (Af (wv (r:=rS ([]:Au)) (AE rfl) (Bb (wm rfl (ck hA λhE hG=>wv (Bd rfl rfl hE) (wa rfl (Ak (Am (Af (wa rfl (Ak (A5 (ob hG λhH hI hJ=>Bc (S:=Nat×(Au×Int×Int)×(Unit)) (V:=(Au)×(Unit)) 0 (λσ=>BP (λσ=>D6 F v i hg σ.1 σ.2.1 σ.2.2) σ.1 σ.2.1=some hH) (λσ=>[(0,AD 4 (A1 Ab v)),(4,rS ([]:Au)),(5,rP b3 0),(6,rS σ.2.1.1),(7,Al σ.2.1.2.1),(8,Al σ.2.1.2.2)]) (λσ=>[.blk b3 (Ab (Ay v i)) 54]) (λσ=>σ.1) (F,(([]:Au),i+1,0),()) hI (Az.c rfl (Az.c5 rfl rfl rfl rfl rfl Az.nil)) (sC sN) (λσ=>Gv v i σ.1=some r) (λσ=>[(4,rS ([]:Au)),(5,rP b3 0),(6,rS σ.1)]) (λσ=>[.blk b3 (Ab (Ay v i)) 54]) ?_ ?_))))))))))))))
     ·rintro⟨cl,⟨hb,ha,he⟩,⟨⟩⟩ hK;refine Bu (l':=[(0,AD 4 (A1 Ab v)),(4,rS ([]:Au)),(5,rP b3 0),(6,rS hb),(7,Al ha),(8,Al he)]) (H':=[.blk b3 (Ab (Ay v i)) 54]) rfl rfl ?_;obtain⟨hi,rfl,hL,hj,hf⟩:=BK hK;replace hj:D6 F v i hg hb ha he=some hL:=hj;unfold D6 at hj;refine Am (Af (wm rfl (vF Bl rfl BB (vL 0 BL rfl (wv (Cc rfl rfl) (Ak (cz hj rfl (λhN hO=>?_) (λhN hP=>?_))))))))
      ·refine Aq (AA (Am (A5 (Am (Af (wm rfl (wv (CC rfl rfl) (Ak (cz hO rfl (λhQ hR=>?_) (λhQ hS=>?_))))))))))
       ·refine Aj (wm rfl (ck hR λhT hU=>wv (Dw rfl rfl hT) (wa rfl (Ak (Am (Af (vF Bl rfl C8 (vL 0 CF rfl (wv (Be rfl rfl) (Ak (cz hU rfl (λc233 hV=>?_) (λc233 hW=>?_))))))))))))
        ·refine Af (wm rfl (wm rfl (wm rfl (ck hV λhX hY=>wv (AT (enc:=Ab) (ys:=v) Bp By rfl rfl hX) (wv (AK Bl rfl CE rfl rfl) (wv (AH CI rfl rfl) (ob hY λhl hZ ga=>BQ Tryz.call106 (KF F ((Ay v ha).fStr) hl hZ) rfl (ck ga λgb gc=>wv (Dw rfl rfl gb) (ck gc λgd ge=>wv (Dw rfl rfl gd) (wa rfl (Ak (Aj (wm rfl (ck ge λgf gg=>wv (Bd rfl rfl gf) (wa rfl (Bb (wm rfl (wm rfl ?_))))))))))))))))));refine wm rfl (ob gg λhm gh gi=>BQ SW (hh v (ha+1) hm gh) rfl (ck gi λgj gl=>wv (Dw rfl rfl gj) (wa rfl (Ak (Aj (wm rfl (wm rfl (ob gl λhn gm gp=>BQ J5 (Ec F v (ha+1) hn gm) rfl (wa rfl (Ai (A3 (AA (Aj (wm rfl (ck gp λgq gr=>wv (Bd rfl rfl gq) (wa rfl (Ai ?_)))))))))))))))));have gs:=AW gr hf;exact Av (Ar (hi,((((hb++([44]:Au))++hl)++([58]:Au))++hm,hn,he+1),()) ⟨gs,XX _⟩ (Az.c rfl (Az.c5 rfl rfl rfl rfl rfl Az.nil)) (sC sN))
        ·refine Aq (AA (Af (wm rfl (wm rfl (wm rfl (ob hW λho gt gu=>BQ SW (hh v ha ho gt) rfl (ck gu λgv gw=>wv (Dw rfl rfl gv) (wa rfl (Ak (Aj (wm rfl (wm rfl (ob gw λhp gx gy=>BQ J5 (Ec F v ha hp gx) rfl (wa rfl (Ai (A3 (AA (Aj (wm rfl (ck gy λgz g0=>?_))))))))))))))))))));refine wv (Bd rfl rfl gz) (wa rfl (Ai ?_));have g2:=AW g0 hf;exact Av (Ar (hi,((hb++([44]:Au))++ho,hp,he+1),()) ⟨g2,XX _⟩ (Az.c rfl (Az.c5 rfl rfl rfl rfl rfl Az.nil)) (sC sN))
       ·refine Aq (AA (Am (Af (vF Bl rfl C8 (vL 0 CF rfl (wv (Be rfl rfl) (Ak (cz hS rfl (λg3 g4=>?_) (λg3 g5=>?_)))))))))
        ·refine Af (wm rfl (wm rfl (wm rfl (ck g4 λg6 g7=>wv (AT (enc:=Ab) (ys:=v) Bp By rfl rfl g6) (wv (AK Bl rfl CE rfl rfl) (wv (AH CI rfl rfl) (ob g7 λhq g8 g9=>BQ Tryz.call106 (KF F ((Ay v ha).fStr) hq g8) rfl (ck g9 λgA gB=>wv (Dw rfl rfl gA) (ck gB λgC gD=>wv (Dw rfl rfl gC) (wa rfl (Ak (Aj (wm rfl (ck gD λgE gF=>wv (Bd rfl rfl gE) (wa rfl (Bb (wm rfl (wm rfl ?_))))))))))))))))));refine wm rfl (ob gF λhr gG gH=>BQ SW (hh v (ha+1) hr gG) rfl (ck gH λgI gJ=>wv (Dw rfl rfl gI) (wa rfl (Ak (Aj (wm rfl (wm rfl (ob gJ λhs gK gL=>BQ J5 (Ec F v (ha+1) hs gK) rfl (wa rfl (Ai (A3 (AA (Aj (wm rfl (ck gL λgM gN=>wv (Bd rfl rfl gM) (wa rfl (Ai ?_)))))))))))))))));have gO:=AW gN hf;exact Av (Ar (hi,(((hb++hq)++([58]:Au))++hr,hs,he+1),()) ⟨gO,XX _⟩ (Az.c rfl (Az.c5 rfl rfl rfl rfl rfl Az.nil)) (sC sN))
        ·refine Aq (AA (Af (wm rfl (wm rfl (wm rfl (ob g5 λht gP gQ=>BQ SW (hh v ha ht gP) rfl (ck gQ λgR gS=>wv (Dw rfl rfl gR) (wa rfl (Ak (Aj (wm rfl (wm rfl (ob gS λhu gT gU=>BQ J5 (Ec F v ha hu gT) rfl (wa rfl (Ai (A3 (AA (Aj (wm rfl (ck gU λgV gW=>?_))))))))))))))))))));refine wv (Bd rfl rfl gV) (wa rfl (Ai ?_));have gX:=AW gW hf;exact Av (Ar (hi,(hb++ht,hu,he+1),()) ⟨gX,XX _⟩ (Az.c rfl (Az.c5 rfl rfl rfl rfl rfl Az.nil)) (sC sN))
      ·refine Bi (Aw ?_);have gY:=Bx hP hf hJ;exact Aw (AS (Ar (hb,()) gY (Az.c rfl (Az.c rfl (Az.c rfl Az.nil))) (sC sN)))
     ·rintro⟨hw,⟨⟩⟩ hk;refine BS (l':=[(4,rS ([]:Au)),(5,rP b3 0),(6,rS hw)]) (H':=[.blk b3 (Ab (Ay v i)) 54]) rfl rfl ?_;replace hk:Gv v i hw=some r:=hk;unfold Gv at hk;refine AV (AA (Am (Af (vF Bl rfl C8 (vL 0 CF rfl (wv (Be rfl rfl) (Ak (cz hk rfl (λgZ ca=>?_) (λgZ cb=>?_)))))))))
      ·refine Af (wm rfl (ck ca λcc cd=>wv (Dw rfl rfl cc) (ck cd λce cf=>wv (Dw rfl rfl ce) (wa rfl (Ak (Ap (Ac ?_)))))));obtain rfl:=An cf;exact Ao (Bq PY (A6 rfl)) (sS sN) ⟨rfl,rfl⟩
      ·refine Aq (AA (Af (wm rfl (ck cb λcg ch=>wv (Dw rfl rfl cg) (ck ch λci cj=>wv (Dw rfl rfl ci) (wa rfl (Ak (Ap ?_))))))));obtain rfl:=An cj;exact Ao (Bq PY (A6 rfl)) (sS sN) ⟨rfl,rfl⟩
theorem N0:∀F:Nat,(∀(v:(List Aa)) (i:Int) (r:Au),EV F v i=some r→Fn Tryz.prog GE 76 [AD 4 (A1 Ab v),Al i] [] (λR H=>R=rS r∧H=[]))
  | 0=>(λ_ _ _ h=>by simp[EV] at h)
  | nn+1=>(λv i r h=>Tu nn (EV nn) (N0 nn) v i r (by rw[EV] at h;exact h))
theorem UV (F:Nat)(v:(List Aa))(i:Int)(r:Au)(h:EV F v i=some r):Fn Tryz.prog GE 76 [AD 4 (A1 Ab v),Al i] [] (λR H=>R=rS r∧H=[]):=(N0 F) v i r h
theorem Gw (F:Nat)(v:(List Aa))(r:Int)(h:D8 F v=some r):Fn Tryz.prog GE 34 [AD 4 (A1 Ab v)] [] (λR H=>R=Al r∧H=[]):=by
 refine enter (n:=61) Tryz.func34 rfl Tryz.ntmps34 rfl (λw Z=>?_);unfold D8 at h;refine Af (wa rfl (Ak (Am (Af (wm rfl (ob h λr1 e3 h2=>BQ Tryz.call74 (RZ F v r1 e3) rfl (wv (B4 rfl) (Ak (cz h2 rfl (λc4 h5=>?_) (λc4 h6=>?_))))))))))
 ·refine Af (wa rfl (Ak (Ap (Ac ?_))));obtain rfl:=An h5;exact Ao (Bq R9 (A6 rfl)) sN ⟨rfl,rfl⟩
 ·refine Aq (AA (Am (Af (wa rfl (Ak (A5 (ob h6 λhq hr ho=>Bc (S:=Nat×(Int)×(Unit)) (V:=(Unit)×(Unit)) 0 (λσ=>BP (λσ=>DI v σ) σ.1 σ.2.1=some hq) (λσ=>[(0,AD 4 (A1 Ab v)),(3,Al σ.2.1)]) (λσ=>[]) (λσ=>σ.1) (F,0,()) hr (Az.c rfl (Az.c rfl Az.nil)) sN (λσ=>Hu F v =some r) (λσ=>[(0,AD 4 (A1 Ab v))]) (λσ=>[]) ?_ ?_)))))))
  ·rintro⟨gf,hf,⟨⟩⟩ hs;refine Bu (l':=[(0,AD 4 (A1 Ab v)),(3,Al hf)]) (H':=[]) rfl rfl ?_;obtain⟨ht,rfl,t46,hg,hk⟩:=BK hs;replace hg:DI v hf=some t46:=hg;unfold DI at hg;refine Am (Af (wm rfl (wm rfl (wv (AI (ys:=v) (enc:=Ab) Bp rfl) (wv (Cc rfl rfl) (Ak (cz hg rfl (λhu hw=>?_) (λhu hx=>?_))))))))
   ·refine Aq (AA (Am (A5 (ck hw λhl hy=>AC [(0,AD 4 (A1 Ab v)),(3,Al hf),(35,rB ((decide (((Ay v hf).fKind)=3))&&((decide (((Ay v hf).fInt)<(-1000000000000)))||(decide (1000000000000<((Ay v hf).fInt))))))] [] ?_ ?_))))
    ·refine Aj (wm rfl (wm rfl (wv (AT (enc:=Ab) (ys:=v) Bp By rfl rfl hl) (wv (AK Bl rfl C8 rfl rfl) (wv (AH CF rfl rfl) (wv (Be rfl rfl) (wm rfl (AN (decide (((Ay v hf).fKind)=3)) (λha=>?_) (λha=>?_)))))))))
     ·refine wo ha (wm rfl (wo ha (wm rfl (wo ha (wv (AT (enc:=Ab) (ys:=v) Bp By rfl rfl hl) (wo ha (wv (AK Bl rfl BB rfl rfl) (wo ha (wv (AH BL rfl rfl) (wo ha (wv (Cc rfl rfl) (wo ha (wm rfl (AN (decide (((Ay v hf).fInt)<(-1000000000000))) (λhb=>?_) (λhb=>?_)))))))))))))))
      ·refine wf hb (wf hb (wf hb (wf hb (wf hb (wf hb (wo ha (wv (r:=rB true) (Ax rfl hb rfl) (Ci rfl ha rfl (Ai ?_)))))))));exact BG (And.intro ha hb)
      ·refine wo hb (wm rfl (wo hb (wm rfl (wo hb (wv (AT (enc:=Ab) (ys:=v) Bp By rfl rfl hl) (wo hb (wv (AK Bl rfl BB rfl rfl) (wo hb (wv (AH BL rfl rfl) (wo hb (wv (CC rfl rfl) (wo ha (Cm rfl hb rfl (Ci rfl ha rfl (Ai ?_)))))))))))))));exact BG (And.intro ha hb)
     ·refine wf ha (wf ha (wf ha (wf ha (wf ha (wf ha (wf ha (wu (wu (wu (wu (wu (wu (wf ha (wv (r:=rB false) (At rfl ha rfl) (Ai ?_)))))))))))))));exact BG ha
    refine cz hy rfl (λhz h0=>?_) (λhz h1=>?_)
    ·refine Af (wa rfl (Ak (Ap (As (Ac (Ac (AO ?_)))))));have h3:=Bg h0 hk ho;refine As (Ac ?_);obtain rfl:=An h3;exact Ao (Bq R9 (A6 rfl)) sN ⟨rfl,rfl⟩
    ·refine Aq (A3 (AA (Aj (wm rfl (ck h1 λh4 h7=>wv (Bd rfl rfl h4) (wa rfl (Ai ?_)))))));have h8:=AW h7 hk;exact Av (Ar (ht,hf+1,()) ⟨h8,XX _⟩ (Az.c rfl (Az.c rfl Az.nil)) sN)
   ·refine Bi (Aw ?_);have h9:=Bx hx hk ho;exact Aw (AS (Ar ((),()) h9 (Az.c rfl Az.nil) sN))
  ·rintro⟨⟨⟩,⟨⟩⟩ hh;refine BS (l':=[(0,AD 4 (A1 Ab v))]) (H':=[]) rfl rfl ?_;replace hh:Hu F v =some r:=hh;unfold Hu at hh;refine AV (AA (Am (ck hh λhA hB=>AC [(0,AD 4 (A1 Ab v)),(43,rB ((decide (200<(v.length:Int)))||(decide (8<(ov (CR F v 0))))))] [] ?_ ?_)))
   ·refine Aj (wm rfl (wv (AI (ys:=v) (enc:=Ab) Bp rfl) (wv (CC rfl rfl) (wm rfl (AN (decide (200<(v.length:Int))) (λhe=>?_) (λhe=>?_))))))
    ·refine wf he (wf he (wf he (wv (r:=rB true) (Ax rfl he rfl) (Ai ?_))));exact BG he
    ·refine wo he (wm rfl (wo he (BQ Tryz.call75 (RX F v 0 (ov (CR F v 0)) (C1 (Cn hA he))) rfl (wo he (wv (CC rfl rfl) (Cm rfl he rfl (Ai ?_)))))));exact BG he
   refine cz hB rfl (λhC hD=>?_) (λhC hE=>?_)
   ·refine Af (wa rfl (Ak (Ap (Ac ?_))));obtain rfl:=An hD;exact Ao (Bq R9 (A6 rfl)) sN ⟨rfl,rfl⟩
   ·refine Aq (AA (Am (Af (wa rfl (Ak (A5 (ob hE λhG hH hp=>Bc (S:=Nat×(Int)×(Unit)) (V:=(Unit)×(Unit)) 2 (λσ=>BP (λσ=>DH v σ) σ.1 σ.2.1=some hG) (λσ=>[(0,AD 4 (A1 Ab v)),(4,Al σ.2.1)]) (λσ=>[]) (λσ=>σ.1) (F,0,()) hH (Az.c rfl (Az.c rfl Az.nil)) sN (λσ=>Ht F v =some r) (λσ=>[(0,AD 4 (A1 Ab v))]) (λσ=>[]) ?_ ?_)))))))
    ·rintro⟨gg,hm,⟨⟩⟩ hI;refine Bu (l':=[(0,AD 4 (A1 Ab v)),(4,Al hm)]) (H':=[]) rfl rfl ?_;obtain⟨hJ,rfl,hK,hi,hn⟩:=BK hI;replace hi:DH v hm=some hK:=hi;unfold DH at hi;refine Am (Af (wm rfl (wm rfl (wv (AI (ys:=v) (enc:=Ab) Bp rfl) (wv (Cc rfl rfl) (Ak (cz hi rfl (λhL hN=>?_) (λhL hO=>?_))))))))
     ·refine Aq (AA (Am (A5 (Af (wm rfl (wm rfl (ck hN λhP hQ=>wv (AT (enc:=Ab) (ys:=v) Bp By rfl rfl hP) (wv (AK Bl rfl CE rfl rfl) (wv (AH CI rfl rfl) (wv (BM D2 rfl) (wv (CC rfl rfl) (Ak (cz hQ rfl (λhR hS=>?_) (λhR hT=>?_))))))))))))))
      ·refine Af (wa rfl (Ak (Ap (As (Ac (Ac (AO ?_)))))));have hU:=Bg hS hn hp;refine As (Ac ?_);obtain rfl:=An hU;exact Ao (Bq R9 (A6 rfl)) sN ⟨rfl,rfl⟩
      ·refine Aq (A3 (AA (Aj (wm rfl (ck hT λhV hW=>wv (Bd rfl rfl hV) (wa rfl (Ai ?_)))))));have hX:=AW hW hn;exact Av (Ar (hJ,hm+1,()) ⟨hX,XX _⟩ (Az.c rfl (Az.c rfl Az.nil)) sN)
     ·refine Bi (Aw ?_);have hY:=Bx hO hn hp;exact Aw (AS (Ar ((),()) hY (Az.c rfl Az.nil) sN))
    ·rintro⟨⟨⟩,⟨⟩⟩ hj;refine BS (l':=[(0,AD 4 (A1 Ab v))]) (H':=[]) rfl rfl ?_;replace hj:Ht F v =some r:=hj;unfold Ht at hj;refine AV (AA (Am (Af (wm rfl (ob hj λhZ ga gb=>BQ SW (UV F v 0 hZ ga) rfl (wv (BM D2 rfl) (wv (CC rfl rfl) (Ak (cz gb rfl (λgc gd=>?_) (λgc ge=>?_))))))))))
     ·refine Af (wa rfl (Ak (Ap (Ac ?_))));obtain rfl:=An gd;exact Ao (Bq R9 (A6 rfl)) sN ⟨rfl,rfl⟩
     ·refine Aq (AA (Af (wa rfl (Ak (Ap ?_)))));obtain rfl:=An ge;exact Ao (Bq R9 (A6 rfl)) sN ⟨rfl,rfl⟩
end Go.Proofs.YtghdglcmblpbeaaGreatDoor.Q
namespace Go.Proofs.YtghdglcmblpbeaaGreatDoor
open Go
set_option linter.unusedVariables false
structure AB where
 fPairs:Bool
 fLeft:Int
 fKey:Bool
 fLast:Au
 fStarted:Bool
 deriving DecidableEq,Inhabited
structure AJ where
 fDepth:Int
 fBytes:Int
 fOutside:Bool
 fLong:Bool
 deriving DecidableEq,Inhabited
def Bt (n:Int):Option (Bool):=
 some ((decide ((-1000000000000)≤n))&&(decide (n≤1000000000000)))
def Hk (s:Au)(ha:Int):Option (Stp (Int) (Out (Bool) (Unit))):=
 AR (decide (ha<(s.length:Int))) (AX (C0 ha (s.length:Int))<|AR (((decide ((Ck s ha)<32))||(decide (126<(Ck s ha))))) (some (.out (.ret false))) (AX (BF .i64 (ha+1))<|some (.next (ha+1)))) (some (.out (.go ())))
def Hj :Option (Bool):=
 some true
def JC (F:Nat)(s:Au):Option (Bool):=
 Bh (BP (λσ=>Hk s σ) F 0) (BI λν=>Hj )
def IQ (s:Au):Option (Int):=
 AX (BF .i64 ((s.length:Int)+2))<|AX (BF .i64 (((s.length:Int)+2)+(Lib.countByte s 34:Int)))<|AX (BF .i64 ((((s.length:Int)+2)+(Lib.countByte s 34:Int))+(Lib.countByte s 92:Int)))<|some ((((s.length:Int)+2)+(Lib.countByte s 34:Int))+(Lib.countByte s 92:Int))
def Mr (F:Nat)(c:Aa):Option (Bool):=
 AR (decide (c.fKind=1)) (some ((decide (c.fInt=0))&&((decide (c.fStr=([]:Au)))&&(decide (c.fN=0))))) (AR (decide (c.fKind=2)) (some (bif decide (c.fInt=0) then((decide (c.fStr=([]:Au)))&&(decide (c.fN=0))) else((decide (c.fInt=1))&&((decide (c.fStr=([]:Au)))&&(decide (c.fN=0)))))) (AR (decide (c.fKind=3)) (some ((decide (c.fStr=([]:Au)))&&(decide (c.fN=0)))) (AR (decide (c.fKind=4)) (AX (imp (decide (c.fInt=0)) (imp (decide (c.fN=0)) ((JC F c.fStr).isSome)))<|some ((decide (c.fInt=0))&&((decide (c.fN=0))&&(ov (JC F c.fStr))))) (AR (decide (c.fKind=5)) (some ((decide (c.fInt=0))&&((decide (c.fStr=([]:Au)))&&(decide (0≤c.fN))))) (AR (decide (c.fKind=6)) (some ((decide (c.fInt=0))&&((decide (c.fStr=([]:Au)))&&(decide (0≤c.fN))))) (some false))))))
def OS (c:Aa):Option (Int):=
 AR (decide (c.fKind=1)) (some 4) (AR (decide (c.fKind=2)) (some (IntKind.wrap .i64 (5-c.fInt))) (AR (decide (c.fKind=3)) (AX (BF .i64 c.fInt)<|some ((Lib.itoa c.fInt).length:Int)) (AR (decide (c.fKind=4)) (Bh (IQ c.fStr) λha=>some ha) (some (IntKind.wrap .i64 (2+(max 0 (IntKind.wrap .i64 (c.fN-1)))))))))
def D5 (ha:(List AB)):Option (Stp ((List AB)) (Out ((List AB)) ((List AB)))):=
 AR (decide (0<(ha.length:Int))) (AX (BF .i64 ((ha.length:Int)-1))<|AX (C0 ((ha.length:Int)-1) (ha.length:Int))<|AX (BF .i64 (((Ay ha ((ha.length:Int)-1)).fLeft)-1))<|KA (List.set ha (Int.toNat ((ha.length:Int)-1)) (AB.mk ((Ay ha ((ha.length:Int)-1)).fPairs) (((Ay ha ((ha.length:Int)-1)).fLeft)-1) ((Ay ha ((ha.length:Int)-1)).fKey) ((Ay ha ((ha.length:Int)-1)).fLast) ((Ay ha ((ha.length:Int)-1)).fStarted))) λhb=>AR (decide (0<((Ay hb ((ha.length:Int)-1)).fLeft))) (KA (List.set hb (Int.toNat ((ha.length:Int)-1)) (AB.mk ((Ay hb ((ha.length:Int)-1)).fPairs) ((Ay hb ((ha.length:Int)-1)).fLeft) ((Ay hb ((ha.length:Int)-1)).fPairs) ((Ay hb ((ha.length:Int)-1)).fLast) ((Ay hb ((ha.length:Int)-1)).fStarted))) λhe=>some (.out (.ret he))) (AX (BF .i64 ((hb.length:Int)-1))<|AX (ES ((hb.length:Int)-1) (hb.length:Int))<|some (.next (List.take (Int.toNat ((hb.length:Int)-1)) hb)))) (some (.out (.go ha)))
def Ee (ha:(List AB)):Option ((List AB)):=
 some ha
def JM (F:Nat)(stack:(List AB)):Option ((List AB)):=
 Bh (BP (λσ=>D5 σ) F stack) (BI λν=>Ee ν)
def DS (ha:Int)(hb:(List AB))(he:AJ):Option (Stp ((List AB)×Int×AJ) (Out (Int×AJ×Bool) (AJ))):=
 AX (BF .i64 (ha+1))<|some (.next (hb,ha+1,he))
def D4 (F:Nat)(v:(List Aa))(ha:(List AB))(hb:Int)(he:AJ):Option (Stp ((List AB)×Int×AJ) (Out (Int×AJ×Bool) (AJ))):=
 AR (decide (hb<(v.length:Int))) (AX (C0 hb (v.length:Int))<|Bh (Mr F (Ay v hb)) λhk=>AR (!hk) (some (.out (.ret (0,he,false)))) (AX (imp (decide (0<(ha.length:Int))) (BF .i64 ((ha.length:Int)-1)))<|AX (imp (decide (0<(ha.length:Int))) (C0 ((ha.length:Int)-1) (ha.length:Int)))<|AR (((decide (0<(ha.length:Int)))&&((Ay ha ((ha.length:Int)-1)).fKey))) (AX (BF .i64 ((ha.length:Int)-1))<|AX (C0 ((ha.length:Int)-1) (ha.length:Int))<|AR (((!decide (((Ay v hb).fKind)=4))||(((Ay ha ((ha.length:Int)-1)).fStarted)&&(De ((Ay v hb).fStr) ((Ay ha ((ha.length:Int)-1)).fLast)||decide (((Ay v hb).fStr)=((Ay ha ((ha.length:Int)-1)).fLast)))))) (some (.out (.ret (0,he,false)))) (KA (List.set ha (Int.toNat ((ha.length:Int)-1)) (AB.mk ((Ay ha ((ha.length:Int)-1)).fPairs) ((Ay ha ((ha.length:Int)-1)).fLeft) ((Ay ha ((ha.length:Int)-1)).fKey) ((Ay v hb).fStr) ((Ay ha ((ha.length:Int)-1)).fStarted))) λhf=>KA (List.set hf (Int.toNat ((ha.length:Int)-1)) (AB.mk ((Ay hf ((ha.length:Int)-1)).fPairs) ((Ay hf ((ha.length:Int)-1)).fLeft) ((Ay hf ((ha.length:Int)-1)).fKey) ((Ay hf ((ha.length:Int)-1)).fLast) true)) λhg=>KA (List.set hg (Int.toNat ((ha.length:Int)-1)) (AB.mk ((Ay hg ((ha.length:Int)-1)).fPairs) ((Ay hg ((ha.length:Int)-1)).fLeft) false ((Ay hg ((ha.length:Int)-1)).fLast) ((Ay hg ((ha.length:Int)-1)).fStarted))) λhl=>Bh (IQ ((Ay v hb).fStr)) λhi=>AX (BF .i64 (hi+1))<|DS hb hl (AJ.mk he.fDepth (IntKind.wrap .i64 (he.fBytes+(hi+1))) he.fOutside (he.fLong||(decide (200<(((Ay v hb).fStr).length:Int))))))) (AX (BF .i64 ((ha.length:Int)+1))<|Bh (OS (Ay v hb)) λhh=>AX (imp (!he.fOutside) (imp (decide (((Ay v hb).fKind)=3)) ((Bt ((Ay v hb).fInt)).isSome)))<|AR (decide (0<((Ay v hb).fN))) (AR (decide ((v.length:Int)<((Ay v hb).fN))) (some (.out (.ret (0,(AJ.mk (max he.fDepth ((ha.length:Int)+1)) (IntKind.wrap .i64 (he.fBytes+hh)) (he.fOutside||((decide (((Ay v hb).fKind)=3))&&(!(ov (Bt ((Ay v hb).fInt)))))) (he.fLong||(decide (200<(((Ay v hb).fStr).length:Int))))),false)))) (AX (E7 48 (ha.length+([(AB.mk (decide (((Ay v hb).fKind)=6)) ((Ay v hb).fN) (decide (((Ay v hb).fKind)=6)) ([]:Au) false)]:List AB).length))<|DS hb (ha++([(AB.mk (decide (((Ay v hb).fKind)=6)) ((Ay v hb).fN) (decide (((Ay v hb).fKind)=6)) ([]:Au) false)]:List AB)) (AJ.mk (max he.fDepth ((ha.length:Int)+1)) (IntKind.wrap .i64 (he.fBytes+hh)) (he.fOutside||((decide (((Ay v hb).fKind)=3))&&(!(ov (Bt ((Ay v hb).fInt)))))) (he.fLong||(decide (200<(((Ay v hb).fStr).length:Int))))))) (Bh (JM F ha) λhj=>AR (decide ((hj.length:Int)=0)) (AX (BF .i64 (hb+1))<|some (.out (.ret (hb+1,(AJ.mk (max he.fDepth ((ha.length:Int)+1)) (IntKind.wrap .i64 (he.fBytes+hh)) (he.fOutside||((decide (((Ay v hb).fKind)=3))&&(!(ov (Bt ((Ay v hb).fInt)))))) (he.fLong||(decide (200<(((Ay v hb).fStr).length:Int))))),true)))) (DS hb hj (AJ.mk (max he.fDepth ((ha.length:Int)+1)) (IntKind.wrap .i64 (he.fBytes+hh)) (he.fOutside||((decide (((Ay v hb).fKind)=3))&&(!(ov (Bt ((Ay v hb).fInt)))))) (he.fLong||(decide (200<(((Ay v hb).fStr).length:Int)))))))))) (some (.out (.go he)))
def JH (ha:AJ):Option (Int×AJ×Bool):=
 some (0,ha,false)
def E3 (F:Nat)(v:(List Aa)):Option (Int×AJ×Bool):=
 Bh (BP (λσ=>D4 F v σ.1 σ.2.1 σ.2.2) F (([]:List AB),0,(AJ.mk 0 0 false false))) (BI λν=>JH ν)
def Dp (F:Nat)(v:(List Aa)):Option (Int):=
 Bh (E3 F v) λr1=>AR (((!r1.2.2)||(!decide (r1.1=(v.length:Int))))) (some 1) (AR (r1.2.1.fOutside) (some 2) (AR ((r1.2.1.fLong||((decide (200<(v.length:Int)))||((decide (8<r1.2.1.fDepth))||(decide (4000<r1.2.1.fBytes)))))) (some 3) (some 0)))
def EH (F:Nat)(v:(List Aa)):Option ((List Aa)×Int):=
 Bh (Dp F v) λr1=>AR (!decide (r1=0)) (some (([]:List Aa),r1)) (some (v,0))
def UO (F:Nat)(n:Int):Option ((List Aa)×Int):=
 Bh (EH F ([(Aa.mk 3 n ([]:Au) 0)]:List Aa)) λr2=>some (r2.1,r2.2)
def NT (F:Nat)(s:Au):Option ((List Aa)×Int):=
 Bh (EH F ([(Aa.mk 4 0 s 0)]:List Aa)) λr2=>some (r2.1,r2.2)
def JJ (F:Nat)(l:(List (List Aa)))(hb:(List Aa))(ha:Int):Option (Stp ((List Aa)×Int) (Out ((List Aa)×Int) ((List Aa)))):=
 AR (decide (ha<(l.length:Int))) (AX (C0 ha (l.length:Int))<|Bh (Dp F (Ay l ha)) λhe=>AR (!decide (he=0)) (some (.out (.ret (([]:List Aa),he)))) (AX (E7 40 (hb.length+(Ay l ha).length))<|AX (BF .i64 (ha+1))<|some (.next (hb++(Ay l ha),ha+1)))) (some (.out (.go hb)))
def JI (F:Nat)(hb:(List Aa)):Option ((List Aa)×Int):=
 Bh (EH F hb) λha=>some (ha.1,ha.2)
def Nv (F:Nat)(l:(List (List Aa))):Option ((List Aa)×Int):=
 Bh (BP (λσ=>JJ F l σ.1 σ.2) F (([(Aa.mk 5 0 ([]:Au) (l.length:Int))]:List Aa),0)) (BI λν=>JI F ν)
end Go.Proofs.YtghdglcmblpbeaaGreatDoor
namespace Go.Proofs.YtghdglcmblpbeaaGreatDoor.Q
open Go Go.RowKit
set_option linter.unusedVariables false
set_option linter.unusedSimpArgs false
set_option maxRecDepth 100000
set_option maxHeartbeats 4000000
@[reducible] def A8 (x:AB):List Rp:=[rB x.fPairs,Al x.fLeft,rB x.fKey,rS x.fLast,rB x.fStarted]
theorem Ir (x:AB):(A8 x).length=5:=rfl
theorem L9 (x:AB):(A8 x).all (·.one)=true:=rfl
@[reducible] def AP (x:AJ):List Rp:=[Al x.fDepth,Al x.fBytes,rB x.fOutside,rB x.fLong]
@[reducible] def Ae (x:(List Aa)):List Rp:=[AD 4 (A1 Ab x)]
theorem B5 (x:(List Aa)):(Ae x).length=1:=rfl
theorem Dt (x:(List Aa)):(Ae x).all (·.one)=true:=rfl
theorem G0:∃inf,Tryz.prog.info? 54=some inf∧inf.zero=some (.agg #[(.int .i64 0),(.int .i64 0),(.string ⟨#[]⟩),(.int .i64 0)])∧inf.size=4∧inf.bytes=40:=by
  have key:(Tryz.prog.info? 54).map (λi=>(i.zero,i.size,i.bytes))=some (some (.agg #[(.int .i64 0),(.int .i64 0),(.string ⟨#[]⟩),(.int .i64 0)]),4,40):=by kernel_rfl
  obtain⟨inf,h1,h2⟩:=Option.map_eq_some_iff.1 key;simp only[Prod.mk.injEq] at h2;exact⟨inf,h1,h2.1,h2.2.1,h2.2.2⟩
theorem Vw:∃inf,Tryz.prog.info? 118=some inf∧inf.zero=some (.agg #[(.bool false),(.int .i64 0),(.bool false),(.string ⟨#[]⟩),(.bool false)])∧inf.size=5∧inf.bytes=48:=by
  have key:(Tryz.prog.info? 118).map (λi=>(i.zero,i.size,i.bytes))=some (some (.agg #[(.bool false),(.int .i64 0),(.bool false),(.string ⟨#[]⟩),(.bool false)]),5,48):=by kernel_rfl
  obtain⟨inf,h1,h2⟩:=Option.map_eq_some_iff.1 key;simp only[Prod.mk.injEq] at h2;exact⟨inf,h1,h2.1,h2.2.1,h2.2.2⟩
theorem LW (parts:List (Nat×Value)):Tryz.prog.built 54 parts=Instr.fill (λi=>(#[(0,1),(1,1),(2,1),(3,1)]:Array (Nat×Nat))[i]?) #[(.int .i64 0),(.int .i64 0),(.string ⟨#[]⟩),(.int .i64 0)] parts:=by kernel_rfl
theorem DY {n:Nat}{c:Cx}{l:Fr}{H:List Ent}{d:Option Nat}{ty:TypeId}{pos:String}{af:Array Edge}{g:Option (Nat×Bool)}{x0:Operand}{r0:Rp}(h0:ev l x0=some r0)(u0:r0.one=true){x1:Operand}{r1:Rp}(h1:ev l x1=some r1)(u1:r1.one=true):Bz Tryz.prog n c l H { dst:=d,op:=.build 54 #[(0,x0),(1,x1)],type:=ty,pos:=pos,after:=af,guard:=g } (Bs [r0,r1,rS ([]:Au),Al 0]):=λa w Z ha _=>by
  have p0:=ha.ev h0;have c0:=BW (r0.hone u0 Z _ p0);have p1:=ha.ev h1;have c1:=BW (r1.hone u1 Z _ p1);have hb:Tryz.prog.built 54 [(0,a.eval x0),(1,a.eval x1)]=some #[a.eval x0,a.eval x1,(.string ⟨#[]⟩),(.int .i64 0)]:=by
    rw[LW];generalize a.eval x0=v0 at *;generalize a.eval x1=v1 at *;simp[Instr.fill,c0,c1]
  refine⟨.agg #[a.eval x0,a.eval x1,(.string ⟨#[]⟩),(.int .i64 0)],⟨[a.eval x0,a.eval x1,(.string ⟨#[]⟩),(.int .i64 0)],rfl,p0,p1,rfl,rfl,trivial⟩,?_⟩;have:=run_build w 54 #[(0,a.eval x0),(1,a.eval x1)] _ (by simpa using hb);simp[execOp,this]
theorem DX {n:Nat}{c:Cx}{l:Fr}{H:List Ent}{d:Option Nat}{ty:TypeId}{pos:String}{af:Array Edge}{g:Option (Nat×Bool)}{x0:Operand}{r0:Rp}(h0:ev l x0=some r0)(u0:r0.one=true){x2:Operand}{r2:Rp}(h2:ev l x2=some r2)(u2:r2.one=true):Bz Tryz.prog n c l H { dst:=d,op:=.build 54 #[(0,x0),(2,x2)],type:=ty,pos:=pos,after:=af,guard:=g } (Bs [r0,Al 0,r2,Al 0]):=λa w Z ha _=>by
  have p0:=ha.ev h0;have c0:=BW (r0.hone u0 Z _ p0);have p2:=ha.ev h2;have c2:=BW (r2.hone u2 Z _ p2);have hb:Tryz.prog.built 54 [(0,a.eval x0),(2,a.eval x2)]=some #[a.eval x0,(.int .i64 0),a.eval x2,(.int .i64 0)]:=by
    rw[LW];generalize a.eval x0=v0 at *;generalize a.eval x2=v2 at *;simp[Instr.fill,c0,c2]
  refine⟨.agg #[a.eval x0,(.int .i64 0),a.eval x2,(.int .i64 0)],⟨[a.eval x0,(.int .i64 0),a.eval x2,(.int .i64 0)],rfl,p0,rfl,p2,rfl,trivial⟩,?_⟩;have:=run_build w 54 #[(0,a.eval x0),(2,a.eval x2)] _ (by simpa using hb);simp[execOp,this]
theorem Jn {n:Nat}{c:Cx}{l:Fr}{H:List Ent}{d:Option Nat}{ty:TypeId}{pos:String}{af:Array Edge}{g:Option (Nat×Bool)}{x0:Operand}{r0:Rp}(h0:ev l x0=some r0)(u0:r0.one=true){x3:Operand}{r3:Rp}(h3:ev l x3=some r3)(u3:r3.one=true):Bz Tryz.prog n c l H { dst:=d,op:=.build 54 #[(0,x0),(3,x3)],type:=ty,pos:=pos,after:=af,guard:=g } (Bs [r0,Al 0,rS ([]:Au),r3]):=λa w Z ha _=>by
  have p0:=ha.ev h0;have c0:=BW (r0.hone u0 Z _ p0);have p3:=ha.ev h3;have c3:=BW (r3.hone u3 Z _ p3);have hb:Tryz.prog.built 54 [(0,a.eval x0),(3,a.eval x3)]=some #[a.eval x0,(.int .i64 0),(.string ⟨#[]⟩),a.eval x3]:=by
    rw[LW];generalize a.eval x0=v0 at *;generalize a.eval x3=v3 at *;simp[Instr.fill,c0,c3]
  refine⟨.agg #[a.eval x0,(.int .i64 0),(.string ⟨#[]⟩),a.eval x3],⟨[a.eval x0,(.int .i64 0),(.string ⟨#[]⟩),a.eval x3],rfl,p0,rfl,rfl,p3,trivial⟩,?_⟩;have:=run_build w 54 #[(0,a.eval x0),(3,a.eval x3)] _ (by simpa using hb);simp[execOp,this]
theorem U2 (parts:List (Nat×Value)):Tryz.prog.built 118 parts=Instr.fill (λi=>(#[(0,1),(1,1),(2,1),(3,1),(4,1)]:Array (Nat×Nat))[i]?) #[(.bool false),(.int .i64 0),(.bool false),(.string ⟨#[]⟩),(.bool false)] parts:=by kernel_rfl
theorem KM {n:Nat}{c:Cx}{l:Fr}{H:List Ent}{d:Option Nat}{ty:TypeId}{pos:String}{af:Array Edge}{g:Option (Nat×Bool)}{x0:Operand}{r0:Rp}(h0:ev l x0=some r0)(u0:r0.one=true){x1:Operand}{r1:Rp}(h1:ev l x1=some r1)(u1:r1.one=true){x2:Operand}{r2:Rp}(h2:ev l x2=some r2)(u2:r2.one=true):Bz Tryz.prog n c l H { dst:=d,op:=.build 118 #[(0,x0),(1,x1),(2,x2)],type:=ty,pos:=pos,after:=af,guard:=g } (Bs [r0,r1,r2,rS ([]:Au),rB false]):=λa w Z ha _=>by
  have p0:=ha.ev h0;have c0:=BW (r0.hone u0 Z _ p0);have p1:=ha.ev h1;have c1:=BW (r1.hone u1 Z _ p1);have p2:=ha.ev h2;have c2:=BW (r2.hone u2 Z _ p2);have hb:Tryz.prog.built 118 [(0,a.eval x0),(1,a.eval x1),(2,a.eval x2)]=some #[a.eval x0,a.eval x1,a.eval x2,(.string ⟨#[]⟩),(.bool false)]:=by
    rw[U2];generalize a.eval x0=v0 at *;generalize a.eval x1=v1 at *;generalize a.eval x2=v2 at *;simp[Instr.fill,c0,c1,c2]
  refine⟨.agg #[a.eval x0,a.eval x1,a.eval x2,(.string ⟨#[]⟩),(.bool false)],⟨[a.eval x0,a.eval x1,a.eval x2,(.string ⟨#[]⟩),(.bool false)],rfl,p0,p1,p2,rfl,rfl,trivial⟩,?_⟩;have:=run_build w 118 #[(0,a.eval x0),(1,a.eval x1),(2,a.eval x2)] _ (by simpa using hb);simp[execOp,this]
theorem M5 (n:Int)(r:Bool)(h:Bt n=some r):Fn Tryz.prog GE 31 [Al n] [] (λR H=>R=rB r∧H=[]):=by
 refine enter (n:=9) Tryz.func31 rfl Tryz.ntmps31 rfl (λw Z=>?_);unfold Bt at h;refine Af (wa rfl (Ak (AC [(2,rB ((decide ((-1000000000000)≤n))&&(decide (n≤1000000000000))))] [] ?_ ?_)))
 ·refine Aj (wm rfl (wv (KK rfl rfl) (wm rfl (AN (decide ((-1000000000000)≤n)) (λc1=>?_) (λc1=>?_)))))
  ·refine wo c1 (wm rfl (wo c1 (wv (KK rfl rfl) (Ci rfl c1 rfl (wa rfl (Ai ?_))))));exact BG c1
  ·refine wf c1 (wf c1 (wv (r:=rB false) (At rfl c1 rfl) (wa rfl (Ai ?_))));exact BG c1
 refine Ap ?_;obtain rfl:=An h;exact Ao (Bq Tryz.results31 (A6 rfl)) sN ⟨rfl,rfl⟩
theorem UJ (F:Nat)(s:Au)(r:Bool)(h:JC F s=some r):Fn Tryz.prog GE 137 [rS s] [] (λR H=>R=rB r∧H=[]):=by
 refine enter (n:=20) Tryz.func137 rfl Tryz.ntmps137 rfl (λw Z=>?_);unfold JC at h;refine Af (wa rfl (Ak (Am (Af (wm rfl (wv (BM D2 rfl) (wv (r:=Al 0) (A2 rfl) (Ak (A5 (ob h λhj hk hh=>Bc (S:=Nat×(Int)×(Unit)) (V:=(Unit)×(Unit)) 0 (λσ=>BP (λσ=>Hk s σ) σ.1 σ.2.1=some hj) (λσ=>[(0,rS s),(5,Al (s.length:Int)),(6,Al σ.2.1)]) (λσ=>[]) (λσ=>σ.1) (F,0,()) hk (Az.c rfl (Az.c rfl (Az.c rfl Az.nil))) sN (λσ=>Hj =some r) (λσ=>[]) (λσ=>[]) ?_ ?_))))))))))
 ·rintro⟨h0,hb,⟨⟩⟩ hl;refine Bu (l':=[(0,rS s),(5,Al (s.length:Int)),(6,Al hb)]) (H':=[]) rfl rfl ?_;obtain⟨hm,rfl,t37,he,hg⟩:=BK hl;replace he:Hk s hb=some t37:=he;unfold Hk at he;refine Af (wv (Cc rfl rfl) (Ak (Am (cz he rfl (λhn ho=>?_) (λhn hp=>?_)))))
  ·refine Aq (AA (Am (A5 (Af (wm rfl (wa rfl (Ak (ck ho λhi hq=>AC [(0,rS s),(5,Al (s.length:Int)),(6,Al hb),(18,rB ((decide ((Ck s hb)<32))||(decide (126<(Ck s hb)))))] [] ?_ ?_))))))))
   ·refine Aj (wm rfl (wm rfl (wv (BC D2 rfl rfl hi) (wv (Cc rfl rfl) (wm rfl (AN (decide ((Ck s hb)<32)) (λha=>?_) (λha=>?_)))))))
    ·refine wf ha (wf ha (wf ha (wf ha (wv (r:=rB true) (Ax rfl ha rfl) (Ai ?_)))));exact BG ha
    ·refine wo ha (wm rfl (wo ha (wm rfl (wo ha (wv (BC D2 rfl rfl hi) (wo ha (wv (CC rfl rfl) (Cm rfl ha rfl (Ai ?_)))))))));exact BG ha
   refine cz hq rfl (λhr hs=>?_) (λhr ht=>?_)
   ·refine Af (wa rfl (Ak (Ap (As (Ac (Ac (AO ?_)))))));have hu:=Bg hs hg hh;refine As (Ac ?_);obtain rfl:=An hu;exact Ao (Bq Tryz.results137 (A6 rfl)) sN ⟨rfl,rfl⟩
   ·refine Aq (A3 (AA (Aj (ck ht λhw hx=>wv (Bd rfl rfl hw) (wm rfl (Ai ?_))))));have hy:=AW hx hg;exact Av (Ar (hm,hb+1,()) ⟨hy,XX _⟩ (Az.c rfl (Az.c rfl (Az.c rfl Az.nil))) sN)
  ·refine Bi (Aw ?_);have hz:=Bx hp hg hh;exact Aw (AS (Ar ((),()) hz Az.nil sN))
 ·rintro⟨⟨⟩,⟨⟩⟩ hf;refine BS (l':=[]) (H':=[]) rfl rfl ?_;replace hf:Hj =some r:=hf;unfold Hj at hf;refine AV (AA (Af (wa rfl (Ak (Ap ?_)))));obtain rfl:=An hf;exact Ao (Bq Tryz.results137 (A6 rfl)) sN ⟨rfl,rfl⟩
theorem Nu (s:Au)(r:Int)(h:IQ s=some r):Fn Tryz.prog GE 102 [rS s] [] (λR H=>R=Al r∧H=[]):=by
 refine enter (n:=12) Tryz.func102 rfl Tryz.ntmps102 rfl (λw Z=>?_);unfold IQ at h;refine Af (wa rfl (Bb (wm rfl (wv (BM D2 rfl) (ck h λg1 h2=>wv (Bd rfl rfl g1) (wm rfl (J9 (rs:=[rS s,rS ([34]:Au)]) (r:=Al (Lib.countByte s 34:Int)) Tryz.call138 rfl (Ry s 34) rfl rfl (ck h2 λg3 h4=>wv (Bd rfl rfl g3) (wm rfl (J9 (rs:=[rS s,rS ([92]:Au)]) (r:=Al (Lib.countByte s 92:Int)) Tryz.call138 rfl (Ry s 92) rfl rfl (ck h4 λg5 h6=>wv (Bd rfl rfl g5) (wa rfl (Ak (Ap ?_))))))))))))));obtain rfl:=An h6;exact Ao (Bq Tryz.results102 (A6 rfl)) sN ⟨rfl,rfl⟩
theorem Ti (F:Nat)(c:Aa)(r:Bool)(h:Mr F c=some r):Fn Tryz.prog GE 101 [Bs (Ab c)] [] (λR H=>R=rB r∧H=[]):=by
 refine enter (n:=81) Tryz.func101 rfl Tryz.ntmps101 rfl (λw Z=>?_);unfold Mr at h;refine Af (B1 rfl rfl (λb1=>?_));refine wa rfl (Ak (Am (Af (vF Bl rfl C8 (vL 0 CF rfl (Ak (A5 (Af (wv (Be rfl rfl) (wa rfl (Ak (cz h rfl (λc2 h3=>?_) (λc2 h6=>?_)))))))))))))
 ·refine AC [(2,rB ((decide (c.fInt=0))&&((decide (c.fStr=([]:Au)))&&(decide (c.fN=0)))))] [] ?_ ?_
  ·refine Aj (vF Bl rfl BB (vL 0 BL rfl (wv (Be rfl rfl) (wm rfl (AN (decide (c.fInt=0)) (λc4=>?_) (λc4=>?_))))))
   ·refine wo c4 (vF Bl rfl CE (wo c4 (vL 0 CI rfl (wo c4 (wv (DM rfl rfl) (Ci rfl c4 rfl (wm rfl (AN (decide (c.fStr=([]:Au))) (λc5=>?_) (λc5=>?_)))))))))
    ·refine wo c5 (vF Bl rfl BB (wo c5 (vL 0 BL rfl (wo c5 (wv (Be rfl rfl) (Ci rfl c5 rfl (wa rfl (Ai ?_))))))));exact BG (And.intro c4 c5)
    ·refine wf c5 (wf c5 (wf c5 (wv (r:=rB false) (At rfl c5 rfl) (wa rfl (Ai ?_)))));exact BG (And.intro c4 c5)
   ·refine wf c4 (wf c4 (wf c4 (wv (r:=rB false) (At rfl c4 rfl) (wm rfl (wz rfl rfl (wz rfl rfl (wz rfl rfl (wv (r:=rB false) (At (b:=false) rfl rfl rfl) (wa rfl (Ai ?_))))))))));exact BG c4
  refine Ap (As (Ac ?_));obtain rfl:=An h3;exact Ao (Bq Me (A6 rfl)) sN ⟨rfl,rfl⟩
 ·refine Af (wv (Be rfl rfl) (wa rfl (Ak (cz h6 rfl (λc7 h8=>?_) (λc7 hn=>?_)))))
  ·refine AC [(2,rB (bif decide (c.fInt=0) then((decide (c.fStr=([]:Au)))&&(decide (c.fN=0))) else((decide (c.fInt=1))&&((decide (c.fStr=([]:Au)))&&(decide (c.fN=0))))))] [] ?_ ?_
   ·refine Aj (vF Bl rfl BB (vL 0 BL rfl (wv (Be rfl rfl) (wm rfl (AN (decide (c.fInt=0)) (λc9=>?_) (λc9=>?_))))))
    ·refine wf c9 (wf c9 (wf c9 (wv (r:=rB true) (Ax rfl c9 rfl) (wm rfl (AQ (b:=true) rfl rfl rfl (vF Bl rfl CE (AQ (b:=true) rfl rfl rfl (vL 0 CI rfl (AQ (b:=true) rfl rfl rfl (wv (DM rfl rfl) (wv (r:=rB (decide (c.fStr=([]:Au)))) (Ax (b:=true) rfl rfl rfl) (wm rfl (AN (decide (c.fStr=([]:Au))) (λhh=>?_) (λhh=>?_))))))))))))))
     ·refine wo hh (vF Bl rfl BB (wo hh (vL 0 BL rfl (wo hh (wv (Be rfl rfl) (Ci rfl hh rfl (wa rfl (Ai ?_))))))));exact BG (And.intro c9 hh)
     ·refine wf hh (wf hh (wf hh (wv (r:=rB false) (At rfl hh rfl) (wa rfl (Ai ?_)))));exact BG (And.intro c9 hh)
    ·refine wo c9 (vF Bl rfl BB (wo c9 (vL 0 BL rfl (wo c9 (wv (Be rfl rfl) (Cm rfl c9 rfl (wm rfl (AN (decide (c.fInt=1)) (λhb=>?_) (λhb=>?_)))))))))
     ·refine wo hb (vF Bl rfl CE (wo hb (vL 0 CI rfl (wo hb (wv (DM rfl rfl) (Ci rfl hb rfl (wm rfl (AN (decide (c.fStr=([]:Au))) (λhi=>?_) (λhi=>?_)))))))))
      ·refine wo hi (vF Bl rfl BB (wo hi (vL 0 BL rfl (wo hi (wv (Be rfl rfl) (Ci rfl hi rfl (wa rfl (Ai ?_))))))));exact BG (And.intro c9 (And.intro hb hi))
      ·refine wf hi (wf hi (wf hi (wv (r:=rB false) (At rfl hi rfl) (wa rfl (Ai ?_)))));exact BG (And.intro c9 (And.intro hb hi))
     ·refine wf hb (wf hb (wf hb (wv (r:=rB false) (At rfl hb rfl) (wm rfl (wz rfl rfl (wz rfl rfl (wz rfl rfl (wv (r:=rB false) (At (b:=false) rfl rfl rfl) (wa rfl (Ai ?_))))))))));exact BG (And.intro c9 hb)
   refine Ap (As (Ac ?_));obtain rfl:=An h8;exact Ao (Bq Me (A6 rfl)) sN ⟨rfl,rfl⟩
  ·refine Af (wv (Be rfl rfl) (wa rfl (Ak (cz hn rfl (λho hp=>?_) (λho hq=>?_)))))
   ·refine AC [(2,rB ((decide (c.fStr=([]:Au)))&&(decide (c.fN=0))))] [] ?_ ?_
    ·refine Aj (vF Bl rfl CE (vL 0 CI rfl (wv (DM rfl rfl) (wm rfl (AN (decide (c.fStr=([]:Au))) (λhj=>?_) (λhj=>?_))))))
     ·refine wo hj (vF Bl rfl BB (wo hj (vL 0 BL rfl (wo hj (wv (Be rfl rfl) (Ci rfl hj rfl (wa rfl (Ai ?_))))))));exact BG hj
     ·refine wf hj (wf hj (wf hj (wv (r:=rB false) (At rfl hj rfl) (wa rfl (Ai ?_)))));exact BG hj
    refine Ap (As (Ac ?_));obtain rfl:=An hp;exact Ao (Bq Me (A6 rfl)) sN ⟨rfl,rfl⟩
   ·refine Af (wv (Be rfl rfl) (wa rfl (Ak (cz hq rfl (λhr hs=>?_) (λhr ht=>?_)))))
    ·refine ck hs λhu hw=>AC [(2,rB ((decide (c.fInt=0))&&((decide (c.fN=0))&&(ov (JC F c.fStr)))))] [] ?_ ?_
     ·refine Aj (vF Bl rfl BB (vL 0 BL rfl (wv (Be rfl rfl) (wm rfl (AN (decide (c.fInt=0)) (λha=>?_) (λha=>?_))))))
      ·refine wo ha (vF Bl rfl BB (wo ha (vL 0 BL rfl (wo ha (wv (Be rfl rfl) (Ci rfl ha rfl (wm rfl (AN (decide (c.fN=0)) (λhe=>?_) (λhe=>?_)))))))))
       ·refine wo he (vF Bl rfl CE (wo he (vL 0 CI rfl (wo he (BQ Tryz.call137 (UJ F c.fStr (ov (JC F c.fStr)) (C1 (BD (BD hu ha) he))) rfl (Ci rfl he rfl (wa rfl (Ai ?_))))))));exact BG (And.intro ha he)
       ·refine wf he (wf he (wf he (wv (r:=rB false) (At rfl he rfl) (wa rfl (Ai ?_)))));exact BG (And.intro ha he)
      ·refine wf ha (wf ha (wf ha (wv (r:=rB false) (At rfl ha rfl) (wm rfl (wz rfl rfl (wz rfl rfl (wz rfl rfl (wv (r:=rB false) (At (b:=false) rfl rfl rfl) (wa rfl (Ai ?_))))))))));exact BG ha
     refine Ap (As (Ac ?_));obtain rfl:=An hw;exact Ao (Bq Me (A6 rfl)) sN ⟨rfl,rfl⟩
    ·refine Am (Af (wv (Be rfl rfl) (wa rfl (Ak (cz ht rfl (λhm hx=>?_) (λhm hy=>?_))))))
     ·refine Aq (AA (DE rfl hm (AC [(2,rB ((decide (c.fInt=0))&&((decide (c.fStr=([]:Au)))&&(decide (0≤c.fN)))))] [] ?_ ?_)))
      ·refine Aj (vF Bl rfl BB (vL 0 BL rfl (wv (Be rfl rfl) (wm rfl (AN (decide (c.fInt=0)) (λhf=>?_) (λhf=>?_))))))
       ·refine wo hf (vF Bl rfl CE (wo hf (vL 0 CI rfl (wo hf (wv (DM rfl rfl) (Ci rfl hf rfl (wm rfl (AN (decide (c.fStr=([]:Au))) (λhk=>?_) (λhk=>?_)))))))))
        ·refine wo hk (vF Bl rfl BB (wo hk (vL 0 BL rfl (wo hk (wv (ER rfl rfl) (Ci rfl hk rfl (wa rfl (Ai ?_))))))));exact BG (And.intro hf hk)
        ·refine wf hk (wf hk (wf hk (wv (r:=rB false) (At rfl hk rfl) (wa rfl (Ai ?_)))));exact BG (And.intro hf hk)
       ·refine wf hf (wf hf (wf hf (wv (r:=rB false) (At rfl hf rfl) (wm rfl (wz rfl rfl (wz rfl rfl (wz rfl rfl (wv (r:=rB false) (At (b:=false) rfl rfl rfl) (wa rfl (Ai ?_))))))))));exact BG hf
      refine Ap (As (Ac ?_));obtain rfl:=An hx;exact Ao (Bq Me (A6 rfl)) sN ⟨rfl,rfl⟩
     ·refine Aj (wv (Be rfl rfl) (wa rfl (Ak (cz hy rfl (λhz h0=>?_) (λhz h1=>?_)))))
      ·refine AC [(2,rB ((decide (c.fInt=0))&&((decide (c.fStr=([]:Au)))&&(decide (0≤c.fN)))))] [] ?_ ?_
       ·refine Aj (vF Bl rfl BB (vL 0 BL rfl (wv (Be rfl rfl) (wm rfl (AN (decide (c.fInt=0)) (λhg=>?_) (λhg=>?_))))))
        ·refine wo hg (vF Bl rfl CE (wo hg (vL 0 CI rfl (wo hg (wv (DM rfl rfl) (Ci rfl hg rfl (wm rfl (AN (decide (c.fStr=([]:Au))) (λhl=>?_) (λhl=>?_)))))))))
         ·refine wo hl (vF Bl rfl BB (wo hl (vL 0 BL rfl (wo hl (wv (ER rfl rfl) (Ci rfl hl rfl (wa rfl (Ai ?_))))))));exact BG (And.intro hg hl)
         ·refine wf hl (wf hl (wf hl (wv (r:=rB false) (At rfl hl rfl) (wa rfl (Ai ?_)))));exact BG (And.intro hg hl)
        ·refine wf hg (wf hg (wf hg (wv (r:=rB false) (At rfl hg rfl) (wm rfl (wz rfl rfl (wz rfl rfl (wz rfl rfl (wv (r:=rB false) (At (b:=false) rfl rfl rfl) (wa rfl (Ai ?_))))))))));exact BG hg
       refine Ap (As (Ac ?_));obtain rfl:=An h0;exact Ao (Bq Me (A6 rfl)) sN ⟨rfl,rfl⟩
      ·refine Aq (A3 (AA (Af (wa rfl (Ak (Ap ?_))))));obtain rfl:=An h1;exact Ao (Bq Me (A6 rfl)) (sS sN) ⟨rfl,rfl⟩
theorem UK (c:Aa)(r:Int)(h:OS c=some r):Fn Tryz.prog GE 103 [Bs (Ab c)] [] (λR H=>R=Al r∧H=[]):=by
 refine enter (n:=28) Tryz.func103 rfl Tryz.ntmps103 rfl (λw Z=>?_);unfold OS at h;refine Af (B1 rfl rfl (λb1=>?_));refine wa rfl (Ak (Am (Af (vF Bl rfl C8 (vL 0 CF rfl (Ak (A5 (Af (wv (Be rfl rfl) (wa rfl (Ak (cz h rfl (λc2 h3=>?_) (λc2 h4=>?_)))))))))))))
 ·refine Af (wa rfl (Ak (Ap (As (Ac ?_)))));obtain rfl:=An h3;exact Ao (Bq OM (A6 rfl)) (sS sN) ⟨rfl,rfl⟩
 ·refine Af (wv (Be rfl rfl) (wa rfl (Ak (cz h4 rfl (λc5 h6=>?_) (λc5 h7=>?_)))))
  ·refine Af (vF Bl rfl BB (vL 0 BL rfl (wv (r:=Al (IntKind.wrap .i64 (5-c.fInt))) (TD rfl rfl) (wa rfl (Ak (Ap (As (Ac ?_))))))));obtain rfl:=An h6;exact Ao (Bq OM (A6 rfl)) (sS sN) ⟨rfl,rfl⟩
  ·refine Af (wv (Be rfl rfl) (wa rfl (Ak (cz h7 rfl (λc8 h9=>?_) (λc8 ha=>?_)))))
   ·refine Af (vF Bl rfl BB (vL 0 BL rfl (ck h9 λhb he=>J9 (rs:=[Al c.fInt]) (r:=rS (Lib.itoa c.fInt)) Tryz.call113 rfl (PB c.fInt hb) rfl rfl (wv (BM D2 rfl) (wa rfl (Ak (Ap (As (Ac ?_)))))))));obtain rfl:=An he;exact Ao (Bq OM (A6 rfl)) (sS sN) ⟨rfl,rfl⟩
   ·refine Af (wv (Be rfl rfl) (wa rfl (Ak (cz ha rfl (λhf hg=>?_) (λhf hh=>?_)))))
    ·refine Af (vF Bl rfl CE (vL 0 CI rfl (ob hg λhi hj hk=>BQ Tryz.call102 (Nu c.fStr hi hj) rfl (wa rfl (Ak (Ap (As (Ac ?_))))))));obtain rfl:=An hk;exact Ao (Bq OM (A6 rfl)) (sS sN) ⟨rfl,rfl⟩
    ·refine Aq (A3 (AA (Af (vF Bl rfl BB (vL 0 BL rfl (wv (r:=Al (IntKind.wrap .i64 (c.fN-1))) (TD rfl rfl) (wv (TF XB rfl rfl) (wv (r:=Al (IntKind.wrap .i64 (2+(max 0 (IntKind.wrap .i64 (c.fN-1)))))) (Q0 rfl rfl) (wa rfl (Ak (Ap ?_)))))))))));obtain rfl:=An hh;exact Ao (Bq OM (A6 rfl)) (sS sN) ⟨rfl,rfl⟩
theorem RL (F:Nat)(hj:Value)(stack:(List AB))(r:(List AB))(h:JM F stack=some r):Fn Tryz.prog GE 104 [rv hj] [.row hj 118 5 (A1 A8 stack)] (λR H=>∃u0:Value,R=rv u0∧H=[.row u0 118 5 (A1 A8 r)]):=by
 refine enter (n:=38) Tryz.func104 rfl Tryz.ntmps104 rfl (λw Z=>?_);unfold JM at h;refine Af (wa rfl (Ak (Am (A5 (ob h λho hp hm=>Bc (S:=Nat×((List AB))×(Value)) (V:=((List AB))×(Value)) 0 (λσ=>BP (λσ=>D5 σ) σ.1 σ.2.1=some ho) (λσ=>[(0,rv σ.2.2),(2,rv (.slice none 0 0))]) (λσ=>[.row σ.2.2 118 5 (A1 A8 σ.2.1)]) (λσ=>σ.1) (F,stack,hj) hp (Az.c rfl (Az.c rfl Az.nil)) (sC sN) (λσ=>Ee σ.1=some r) (λσ=>[(0,rv σ.2),(2,rv (.slice none 0 0))]) (λσ=>[.row σ.2 118 5 (A1 A8 σ.1)]) ?_ ?_)))))
 ·rintro⟨hH,ha,he⟩ hq;refine Bu (l':=[(0,rv he),(2,rv (.slice none 0 0))]) (H':=[.row he 118 5 (A1 A8 ha)]) rfl rfl ?_;obtain⟨hr,rfl,hs,hh,hk⟩:=BK hq;replace hh:D5 ha=some hs:=hh;unfold D5 at hh;refine Am (Af (wm rfl (wv (DW (ys:=ha) (enc:=A8) (i:=0) Im rfl rfl) (wv (CC rfl rfl) (Ak (cz hh rfl (λht hu=>?_) (λht hw=>?_)))))))
  ·refine Aq (AA (A5 (Af (wm rfl (wm rfl (wv (DW (ys:=ha) (enc:=A8) (i:=0) Im rfl rfl) (ck hu λhx hy=>wv (N4 rfl rfl hx) (ck hy λhf hz=>wv (r:=rv (EP 5 he (Bw ((ha.length:Int)-1)) 0)) (KL (i:=0) Im OJ rfl rfl rfl (Ca hf)) (wa rfl (Bb (wm rfl (wv (r:=rv (EP 5 he (Bw ((ha.length:Int)-1)) 0)) (C4 (k:=0) rfl (Ca hf) rfl rfl) (wv (r:=rv (EP 5 he (Bw ((ha.length:Int)-1)) 1)) (Ew (k:=0) Il rfl BB rfl (Ca hf) rfl rfl rfl) (wv (r:=Al ((Ay ha ((ha.length:Int)-1)).fLeft)) (I9 (enc:=A8) (ys:=ha) (i:=0) (j:=(ha.length:Int)-1) BL rfl rfl hf rfl) (ck hz λh0 h1=>wv (N4 rfl rfl h0) (wv (r:=rv (EP 5 he (Bw ((ha.length:Int)-1)) 0)) (C4 (k:=0) rfl (Ca hf) rfl rfl) (wv (r:=rv (EP 5 he (Bw ((ha.length:Int)-1)) 1)) (Ew (k:=0) Il rfl BB rfl (Ca hf) rfl rfl rfl) (I1 (enc:=A8) (ys:=ha) (y':=(AB.mk ((Ay ha ((ha.length:Int)-1)).fPairs) (((Ay ha ((ha.length:Int)-1)).fLeft)-1) ((Ay ha ((ha.length:Int)-1)).fKey) ((Ay ha ((ha.length:Int)-1)).fLast) ((Ay ha ((ha.length:Int)-1)).fStarted))) (i:=0) (j:=(ha.length:Int)-1) BB rfl rfl (BO rfl) rfl hf rfl rfl (H':=[.row he 118 5 (A1 A8 (List.set ha (Bw ((ha.length:Int)-1)) (AB.mk ((Ay ha ((ha.length:Int)-1)).fPairs) (((Ay ha ((ha.length:Int)-1)).fLeft)-1) ((Ay ha ((ha.length:Int)-1)).fKey) ((Ay ha ((ha.length:Int)-1)).fLast) ((Ay ha ((ha.length:Int)-1)).fStarted))))]) rfl (bd h1 λhb hg h2=>?_)))))))))))))))))));rw[← hg];refine Ak (Am (Af (wm rfl (wv (r:=rv (EP 5 he (Bw ((ha.length:Int)-1)) 0)) (C4 (k:=0) rfl (Ca (CU hf hg)) rfl rfl) (wv (r:=rv (EP 5 he (Bw ((ha.length:Int)-1)) 1)) (Ew (k:=0) Il rfl BB rfl (Ca (CU hf hg)) rfl rfl rfl) (wv (r:=Al ((Ay hb ((ha.length:Int)-1)).fLeft)) (I9 (enc:=A8) (ys:=hb) (i:=0) (j:=(ha.length:Int)-1) BL rfl rfl (CU hf hg) rfl) (wv (CC rfl rfl) (Ak (cz h2 rfl (λh3 h4=>?_) (λh3 h5=>?_))))))))))
   ·refine Af (wm rfl (wm rfl (wv (r:=rv (EP 5 he (Bw ((ha.length:Int)-1)) 0)) (C4 (k:=0) rfl (Ca (CU hf hg)) rfl rfl) (wv (r:=rv (EP 5 he (Bw ((ha.length:Int)-1)) 0)) (Ew (k:=0) Il rfl HD rfl (Ca (CU hf hg)) rfl rfl rfl) (wv (r:=rB ((Ay hb ((ha.length:Int)-1)).fPairs)) (I9 (enc:=A8) (ys:=hb) (i:=0) (j:=(ha.length:Int)-1) SI rfl rfl (CU hf hg) rfl) (wv (r:=rv (EP 5 he (Bw ((ha.length:Int)-1)) 0)) (C4 (k:=0) rfl (Ca (CU hf hg)) rfl rfl) (wv (r:=rv (EP 5 he (Bw ((ha.length:Int)-1)) 2)) (Ew (k:=0) Il rfl HD rfl (Ca (CU hf hg)) rfl rfl rfl) (I1 (enc:=A8) (ys:=hb) (y':=(AB.mk ((Ay hb ((ha.length:Int)-1)).fPairs) ((Ay hb ((ha.length:Int)-1)).fLeft) ((Ay hb ((ha.length:Int)-1)).fPairs) ((Ay hb ((ha.length:Int)-1)).fLast) ((Ay hb ((ha.length:Int)-1)).fStarted))) (i:=0) (j:=(ha.length:Int)-1) HD rfl rfl (BO rfl) rfl (CU hf hg) rfl rfl (H':=[.row he 118 5 (A1 A8 (List.set hb (Bw ((ha.length:Int)-1)) (AB.mk ((Ay hb ((ha.length:Int)-1)).fPairs) ((Ay hb ((ha.length:Int)-1)).fLeft) ((Ay hb ((ha.length:Int)-1)).fPairs) ((Ay hb ((ha.length:Int)-1)).fLast) ((Ay hb ((ha.length:Int)-1)).fStarted))))]) rfl (bd h4 λhI h6 h7=>?_)))))))));rw[← h6];refine Bb (wm rfl (wa rfl (Ak (Ap (Ac (As (Ac (AO ?_))))))));have h8:=Bg h7 hk hm;refine As (Ac ?_);obtain rfl:=An h8;exact Ao (Bq Tryz.results104 (A6 rfl)) (sC sN) ⟨he,rfl,rfl⟩
   ·refine Aq (AA (Aj (wm rfl (wm rfl (wv (DW (ys:=hb) (enc:=A8) (i:=0) Im rfl rfl) (ck h5 λh9 hA=>wv (N4 rfl rfl h9) (ck hA λhB hC=>WU (i:=0) Im OJ rfl rfl rfl hB rfl (λhD=>?_))))))));refine wa rfl (Ai (A3 ?_));have hE:=AW hC hk;exact Av (Ar (hr,List.take (Bw ((hb.length:Int)-1)) hb,hD) ⟨hE,XX _⟩ (Az.c rfl (Az.c rfl Az.nil)) (sC sN))
  ·refine Bi (Aw ?_);have hG:=Bx hw hk hm;exact Aw (AS (Ar (ha,he) hG (Az.c rfl (Az.c rfl Az.nil)) (sC sN)))
 ·rintro⟨hn,hl⟩ hi;refine BS (l':=[(0,rv hl),(2,rv (.slice none 0 0))]) (H':=[.row hl 118 5 (A1 A8 hn)]) rfl rfl ?_;replace hi:Ee hn=some r:=hi;unfold Ee at hi;refine AV (AA (Af (wm rfl (wa rfl (Ak (Ap ?_))))));obtain rfl:=An hi;exact Ao (Bq Tryz.results104 (A6 rfl)) (sC sN) ⟨hl,rfl,rfl⟩
theorem HN (F:Nat)(v:(List Aa))(r:Int×AJ×Bool)(h:E3 F v=some r):Fn Tryz.prog GE 72 [AD 4 (A1 Ab v)] [] (λR H=>R=Df [Al r.1,Bs (AP r.2.1),rB r.2.2]∧H=[]):=by
 refine enter (n:=152) Tryz.func72 rfl Tryz.ntmps72 rfl (λw Z=>?_);unfold E3 at h;refine Af (wa rfl (Cf (cs:=[Al 0,Al 0,rB false,rB false]) NL rfl rfl (λb1=>?_)));refine wa rfl (Ak (Tc (Af (Cf (cs:=[Al 0,Al 0,rB false,rB false]) NL rfl rfl (λb2=>?_)))));refine Bb (wa rfl (Ak (Am (Td (AA (Am (Af (wm rfl (wv (AI (ys:=v) (enc:=Ab) Bp rfl) (wv (r:=Al 0) (A2 rfl) (Ak (A5 (WC.nilrow (e:=118) (sz:=5) (NQ (H2:=[.blk b2 [Al 0,Al 0,rB false,rB false] 86,.blk b1 [Al 0,Al 0,rB false,rB false] 86,.row (.slice none 0 0                                                                                                                      ) 118 5 (A1 A8 ([]:List AB))]) ((A4 (i:=1) rfl).trans (XV _ ((A4 (i:=1) rfl).trans (XV _ (XT _))))) (ob h λhB hC hz=>Bc (S:=Nat×((List AB)×Int×AJ)×(Value)) (V:=(AJ)×(Unit)) 0 (λσ=>BP (λσ=>D4 F v σ.1 σ.2.1 σ.2.2) σ.1 σ.2.1=some hB) (λσ=>[(0,AD 4 (A1 Ab v)),(3,rP b1 0),(5,rP b2 0),(6,rv σ.2.2),(11,AD 4 (A1 Ab v)),(12,Al (v.length:Int)),(13,Al σ.2.1.2.1)]) (λσ=>[.blk b2 (AP σ.2.1.2.2) 86,.blk b1 [Al 0,Al 0,rB false,rB false] 86,.row σ.2.2 118 5 (A1 A8 σ.2.1.1)]) (λσ=>σ.1) (F,(([]:List AB),0,(AJ.mk 0 0 false false)),(.slice none 0 0                                                                                                                      )) hC (Az.c rfl (Az.c rfl (Az.c5 rfl rfl rfl rfl rfl Az.nil))) (sC (sC (sC sN))) (λσ=>JH σ.1=some r) (λσ=>[(3,rP b1 0),(5,rP b2 0)]) (λσ=>[.blk b2 (AP σ.1) 86,.blk b1 [Al 0,Al 0,rB false,rB false] 86]) ?_ ?_)))))))))))))))
 ·rintro⟨gJ,⟨he,hb,ha⟩,hf⟩ hD;refine Bu (l':=[(0,AD 4 (A1 Ab v)),(3,rP b1 0),(5,rP b2 0),(6,rv hf),(11,AD 4 (A1 Ab v)),(12,Al (v.length:Int)),(13,Al hb)]) (H':=[.blk b2 (AP ha) 86,.blk b1 [Al 0,Al 0,rB false,rB false] 86,.row hf 118 5 (A1 A8 he)]) rfl rfl ?_;obtain⟨hE,rfl,h5,h1,hy⟩:=BK hD;replace h1:D4 F v he hb ha=some h5:=h1;unfold D4 at h1;refine Af (wv (Cc rfl rfl) (Ak (Am (cz h1 rfl (λhG hH=>?_) (λhG hI=>?_)))))
  ·refine Aq (AA (BY (S:=((List AB)×AJ)×(Value)) (λσ=>DS hb σ.1.1 σ.1.2=some h5) (λσ=>[(0,AD 4 (A1 Ab v)),(3,rP b1 0),(5,rP b2 0),(6,rv σ.2),(11,AD 4 (A1 Ab v)),(12,Al (v.length:Int)),(13,Al hb)]) (λσ=>[.blk b2 (AP σ.1.2) 86,.blk b1 [Al 0,Al 0,rB false,rB false] 86,.row σ.2 118 5 (A1 A8 σ.1.1)]) ?_ ?_))
   ·refine A5 (Af (wm rfl (ck hH λhJ hK=>wv (AT (enc:=Ab) (ys:=v) Bp By rfl rfl hJ) (wv (C5 Jh By rfl rfl rfl) (Cf (cs:=[Al 0,Al 0,rS ([]:Au),Al 0]) GT rfl rfl (λhg=>?_))))));refine wa rfl (Bj (i:=0) By rfl rfl rfl (BR.c rfl) rfl rfl (cs':=[Al ((Ay v hb).fKind),Al ((Ay v hb).fInt),rS ((Ay v hb).fStr),Al ((Ay v hb).fN)]) rfl (H':=[.blk hg (Ab (Ay v hb)) 54,.blk b2 (AP ha) 86,.blk b1 [Al 0,Al 0,rB false,rB false] 86,.row hf 118 5 (A1 A8 he)]) rfl (Ak (Am (Af (wv (AF (i:=0) Jh By rfl rfl rfl rfl) (ob hK λhL hN hO=>BQ Tryz.call101 (Ti F (Ay v hb) hL hN) rfl (wv (B4 rfl) (Ak (cz hO rfl (λhP hQ=>?_) (λhP hR=>?_))))))))))
    ·refine Am (EQ (H1:=[.blk hg (Ab (Ay v hb)) 54,.blk b2 (AP ha) 86,.blk b1 (AP ha) 86,.row hf 118 5 (A1 A8 he)]) [3,5] [⟨[],Bs (AP ha),1⟩,⟨[],Al 0,0⟩,⟨[0],rv undef,2⟩,⟨[],rB false,0⟩] (rle [(3,_),(2,[.blk hg (Ab (Ay v hb)) 54,.blk b2 (AP ha) 86,.blk b1 (AP ha) 86,.row hf 118 5 (A1 A8 he)])]) [2,4,3] ?_ ?_)
     ·refine of (AF (i:=1) Ne G4 rfl rfl rfl rfl) (oq (AE rfl) (Io rfl (Nj (Dv (i:=2) G4 rfl rfl rfl (BR.c rfl) rfl rfl (cs':=[Al ha.fDepth,Al ha.fBytes,rB ha.fOutside,rB ha.fLong]) rfl (H':=[.blk hg (Ab (Ay v hb)) 54,.blk b2 (AP ha) 86,.blk b1 (AP ha) 86,.row hf 118 5 (A1 A8 he)]) rfl)) ?_));refine oq (AE rfl) ?_;exact Cj
     refine AA (Ap (Ac (As (Ac (Ac (AO ?_))))));have hS:=Bg hQ hy hz;refine As (Ac (J8 ?_));obtain rfl:=An hS;exact Ao (WO SR (A6 rfl) (Er (i:=2) Ne G4 rfl rfl rfl) (A6 rfl)) (sS (sS (sS (sS sN)))) ⟨rfl,rfl⟩
    ·refine Aq (AA (Am (Af (wm rfl (wv (DW (ys:=he) (enc:=A8) (i:=3) Im rfl rfl) (wa rfl (Ak (ck hR λhT hU=>ck hU λh6 hV=>AC [(0,AD 4 (A1 Ab v)),(3,rP b1 0),(5,rP b2 0),(6,rv hf),(7,Al hb),(8,rP hg 0),(9,Al (he.length:Int)),(11,AD 4 (A1 Ab v)),(12,Al (v.length:Int)),(13,Al hb),(33,rB ((decide (0<(he.length:Int)))&&((Ay he ((he.length:Int)-1)).fKey)))] [.blk hg (Ab (Ay v hb)) 54,.blk b2 (AP ha) 86,.blk b1 [Al 0,Al 0,rB false,rB false] 86,.row hf 118 5 (A1 A8 he)] ?_ ?_))))))))
     ·refine Aj (wm rfl (wv (CC rfl rfl) (wm rfl (AN (decide (0<(he.length:Int))) (λhj=>?_) (λhj=>?_)))))
      ·refine wo hj (wm rfl (wo hj (wm rfl (wo hj (wv (N4 rfl rfl (BD hT hj)) (wo hj (wv (r:=rv (EP 5 hf (Bw ((he.length:Int)-1)) 0)) (KL (i:=3) Im OJ rfl rfl rfl (Ca (BD h6 hj))) (wo hj (wv (r:=rv (EP 5 hf (Bw ((he.length:Int)-1)) 2)) (Ew (k:=3) Il rfl HD rfl (Ca (BD h6 hj)) rfl rfl rfl) (wo hj (wv (r:=rB ((Ay he ((he.length:Int)-1)).fKey)) (I9 (enc:=A8) (ys:=he) (i:=3) (j:=(he.length:Int)-1) SI rfl rfl (BD h6 hj) rfl) (Ci rfl hj rfl (Ai ?_)))))))))))));exact BG hj
      ·refine wf hj (wf hj (wf hj (wf hj (wf hj (wf hj (wv (r:=rB false) (At rfl hj rfl) (Ai ?_)))))));exact BG hj
     refine cz hV rfl (λhW hX=>?_) (λhW hY=>?_)
     ·refine Af (wm rfl (wm rfl (ck hX λhZ ga=>wv (N4 rfl rfl hZ) (ck ga λhk gb=>wv (r:=rv (EP 5 hf (Bw ((he.length:Int)-1)) 0)) (KL (i:=3) Im OJ rfl rfl rfl (Ca hk)) (wa rfl (Ak (Am (AC [(0,AD 4 (A1 Ab v)),(3,rP b1 0),(5,rP b2 0),(6,rv hf),(8,rP hg 0),(10,rv (EP 5 hf (Bw ((he.length:Int)-1)) 0)),(11,AD 4 (A1 Ab v)),(12,Al (v.length:Int)),(13,Al hb),(38,rP hg 0),(39,Al ((Ay v hb).fKind)),(40,rB (!decide (((Ay v hb).fKind)=4))),(41,rB (!decide (((Ay v hb).fKind)=4))),(55,rB ((!decide (((Ay v hb).fKind)=4))||(((Ay he ((he.length:Int)-1)).fStarted)&&(De ((Ay v hb).fStr) ((Ay he ((he.length:Int)-1)).fLast)||decide (((Ay v hb).fStr)=((Ay he ((he.length:Int)-1)).fLast))))))] [.blk hg (Ab (Ay v hb)) 54,.blk b2 (AP ha) 86,.blk b1 [Al 0,Al 0,rB false,rB false] 86,.row hf 118 5 (A1 A8 he)] ?_ ?_))))))))
      ·refine AN (!decide (((Ay v hb).fKind)=4)) (λhi=>?_) (λhi=>?_)
       ·refine C3 [0,3,5,6,8,10,11,12,13] [⟨[],rP hg 0,0⟩,⟨[0],Al ((Ay v hb).fKind),1⟩,⟨[1],rB (!decide (((Ay v hb).fKind)=4)),0⟩,⟨[2],rB (!decide (((Ay v hb).fKind)=4)),0⟩,⟨[3],rv undef,0⟩,⟨[4,3],rv undef,0⟩,⟨[5,3],rv undef,0⟩,⟨[6,3],rv undef,0⟩,⟨[7,3],rv undef,0⟩,⟨[8],rv undef,0⟩,⟨[9,8],rv undef,0⟩,⟨[8],rv undef,0⟩,⟨[11,8],rv undef,0⟩,⟨[12,8],rv undef,0⟩,⟨[13,8],rv undef,0⟩,⟨[10,14,8],rv undef,0⟩,⟨[8,15,3],rv undef,0⟩,⟨[3,16],rB true,0⟩] [38,39,40,41,42,43,44,45,46,47,48,49,50,51,52,53,54,55,0,3,5,6,8,10,11,12,13] ?_ ?_
        ·refine oq (AG Bl rfl C8 rfl rfl) (of (Bn (i:=0) CF rfl rfl rfl) (oq (Bk rfl rfl) (oq (A2 rfl) (oz hi (oz hi (oz hi (oz hi (oz hi (ou (ou (ou (ou (ou (ou (ou (oz hi (oq (Ax (b:=!decide (((Ay v hb).fKind)=4)) rfl hi rfl) ?_)))))))))))))))));exact Cj
        exact BG hi
       ·refine AN ((Ay he ((he.length:Int)-1)).fStarted) (λhl=>?_) (λhl=>?_)
        ·refine C3 [0,3,5,6,8,10,11,12,13] [⟨[],rP hg 0,0⟩,⟨[0],Al ((Ay v hb).fKind),1⟩,⟨[1],rB (!decide (((Ay v hb).fKind)=4)),0⟩,⟨[2],rB (!decide (((Ay v hb).fKind)=4)),0⟩,⟨[3],rv (EP 5 hf (Bw ((he.length:Int)-1)) 0),0⟩,⟨[4,3],rv (EP 5 hf (Bw ((he.length:Int)-1)) 0),1⟩,⟨[5,3],rv (EP 5 hf (Bw ((he.length:Int)-1)) 4),1⟩,⟨[6,3],rB ((Ay he ((he.length:Int)-1)).fStarted),1⟩,⟨[7,3],rB ((Ay he ((he.length:Int)-1)).fStarted),0⟩,⟨[8],rP hg 2,0⟩,⟨[9,8],rS ((Ay v hb).fStr),1⟩,⟨[8],rv (EP 5 hf (Bw ((he.length:Int)-1)) 0),0⟩,⟨[11,8],rv (EP 5 hf (Bw ((he.length:Int)-1)) 0),1⟩,⟨[12,8],rv (EP 5 hf (Bw ((he.length:Int)-1)) 3),1⟩,⟨[13,8],rS ((Ay he ((he.length:Int)-1)).fLast),1⟩,⟨[10,14,8],rB (De ((Ay v hb).fStr) ((Ay he ((he.length:Int)-1)).fLast)||decide (((Ay v hb).fStr)=((Ay he ((he.length:Int)-1)).fLast))),0⟩,⟨[8,15,3],rB (De ((Ay v hb).fStr) ((Ay he ((he.length:Int)-1)).fLast)||decide (((Ay v hb).fStr)=((Ay he ((he.length:Int)-1)).fLast))),0⟩,⟨[3,16],rB (De ((Ay v hb).fStr) ((Ay he ((he.length:Int)-1)).fLast)||decide (((Ay v hb).fStr)=((Ay he ((he.length:Int)-1)).fLast))),0⟩] [38,39,40,41,42,43,44,45,46,47,48,49,50,51,52,53,54,55,0,3,5,6,8,10,11,12,13] ?_ ?_
         ·refine oq (AG Bl rfl C8 rfl rfl) (of (Bn (i:=0) CF rfl rfl rfl) (oq (Bk rfl rfl) (oq (A2 rfl) (on hi (oq (A2 rfl) (on hi (of (C4 (k:=3) rfl (Ca hk) rfl rfl) (on hi (of (Ew (k:=3) Il rfl HD rfl (Ca hk) rfl rfl rfl) (on hi (of (I9 (enc:=A8) (ys:=he) (i:=3) (j:=(he.length:Int)-1) SI rfl rfl hk rfl) (on hi (oq (A2 rfl) (on hl (oq (AG Bl rfl CE rfl rfl) (on hl (of (Bn (i:=0) CI rfl rfl rfl) (on hl (oq (A2 rfl) (on hl (of (C4 (k:=3) rfl (Ca hk) rfl rfl) (on hl (of (Ew (k:=3) Il rfl CE rfl (Ca hk) rfl rfl rfl) ?_)))))))))))))))))))))));refine on hl (of (I9 (enc:=A8) (ys:=he) (i:=3) (j:=(he.length:Int)-1) CI rfl rfl hk rfl) (on hl (oq (Rh rfl rfl) (on hi (oq (Ax rfl hl rfl) (oq (At rfl hi rfl) ?_))))));exact Cj
         exact BG (And.intro hi hl)
        ·refine C3 [0,3,5,6,8,10,11,12,13] [⟨[],rP hg 0,0⟩,⟨[0],Al ((Ay v hb).fKind),1⟩,⟨[1],rB (!decide (((Ay v hb).fKind)=4)),0⟩,⟨[2],rB (!decide (((Ay v hb).fKind)=4)),0⟩,⟨[3],rv (EP 5 hf (Bw ((he.length:Int)-1)) 0),0⟩,⟨[4,3],rv (EP 5 hf (Bw ((he.length:Int)-1)) 0),1⟩,⟨[5,3],rv (EP 5 hf (Bw ((he.length:Int)-1)) 4),1⟩,⟨[6,3],rB ((Ay he ((he.length:Int)-1)).fStarted),1⟩,⟨[7,3],rB ((Ay he ((he.length:Int)-1)).fStarted),0⟩,⟨[8],rv undef,0⟩,⟨[9,8],rv undef,0⟩,⟨[8],rv undef,0⟩,⟨[11,8],rv undef,0⟩,⟨[12,8],rv undef,0⟩,⟨[13,8],rv undef,0⟩,⟨[10,14,8],rv undef,0⟩,⟨[8,15,3],rB false,0⟩,⟨[3,16],rB false,0⟩] [38,39,40,41,42,43,44,45,46,47,48,49,50,51,52,53,54,55,0,3,5,6,8,10,11,12,13] ?_ ?_
         ·refine oq (AG Bl rfl C8 rfl rfl) (of (Bn (i:=0) CF rfl rfl rfl) (oq (Bk rfl rfl) (oq (A2 rfl) (on hi (oq (A2 rfl) (on hi (of (C4 (k:=3) rfl (Ca hk) rfl rfl) (on hi (of (Ew (k:=3) Il rfl HD rfl (Ca hk) rfl rfl rfl) (on hi (of (I9 (enc:=A8) (ys:=he) (i:=3) (j:=(he.length:Int)-1) SI rfl rfl hk rfl) (on hi (oq (A2 rfl) (oz hl (oz hl (oz hl (oz hl (oz hl (oz hl (oz hl (on hi (oq (At (b:=(Ay he ((he.length:Int)-1)).fStarted) rfl hl rfl) (oq (At rfl hi rfl) ?_)))))))))))))))))))))));exact Cj
         exact BG (And.intro hi hl)
      refine cz gb rfl (λgc gd=>?_) (λgc ge=>?_)
      ·refine Am (EQ (H1:=[.blk hg (Ab (Ay v hb)) 54,.blk b2 (AP ha) 86,.blk b1 (AP ha) 86,.row hf 118 5 (A1 A8 he)]) [3,5] [⟨[],Bs (AP ha),1⟩,⟨[],Al 0,0⟩,⟨[0],rv undef,2⟩,⟨[],rB false,0⟩] (rle [(3,_),(2,[.blk hg (Ab (Ay v hb)) 54,.blk b2 (AP ha) 86,.blk b1 (AP ha) 86,.row hf 118 5 (A1 A8 he)])]) [2,4,3] ?_ ?_)
       ·refine of (AF (i:=1) Ne G4 rfl rfl rfl rfl) (oq (AE rfl) (Io rfl (Nj (Dv (i:=2) G4 rfl rfl rfl (BR.c rfl) rfl rfl (cs':=[Al ha.fDepth,Al ha.fBytes,rB ha.fOutside,rB ha.fLong]) rfl (H':=[.blk hg (Ab (Ay v hb)) 54,.blk b2 (AP ha) 86,.blk b1 (AP ha) 86,.row hf 118 5 (A1 A8 he)]) rfl)) ?_));refine oq (AE rfl) ?_;exact Cj
       refine AA (Ap (Ac (Ac (As (Ac (Ac (AO ?_)))))));have gf:=Bg gd hy hz;refine As (Ac (J8 ?_));obtain rfl:=An gf;exact Ao (WO SR (A6 rfl) (Er (i:=2) Ne G4 rfl rfl rfl) (A6 rfl)) (sS (sS (sS (sS sN)))) ⟨rfl,rfl⟩
      ·refine Aq (AA (Af (wm rfl (wm rfl (wm rfl (vF Bl rfl CE (vL 0 CI rfl (wv (r:=rv (EP 5 hf (Bw ((he.length:Int)-1)) 0)) (C4 (k:=3) rfl (Ca hk) rfl rfl) (wv (r:=rv (EP 5 hf (Bw ((he.length:Int)-1)) 3)) (Ew (k:=3) Il rfl CE rfl (Ca hk) rfl rfl rfl) (I1 (enc:=A8) (ys:=he) (y':=(AB.mk ((Ay he ((he.length:Int)-1)).fPairs) ((Ay he ((he.length:Int)-1)).fLeft) ((Ay he ((he.length:Int)-1)).fKey) ((Ay v hb).fStr) ((Ay he ((he.length:Int)-1)).fStarted))) (i:=3) (j:=(he.length:Int)-1) CE rfl rfl (BO rfl) rfl hk rfl rfl (H':=[.blk hg (Ab (Ay v hb)) 54,.blk b2 (AP ha) 86,.blk b1 [Al 0,Al 0,rB false,rB false] 86,.row hf 118 5 (A1 A8 (List.set he (Bw ((he.length:Int)-1)) (AB.mk ((Ay he ((he.length:Int)-1)).fPairs) ((Ay he ((he.length:Int)-1)).fLeft) ((Ay he ((he.length:Int)-1)).fKey) ((Ay v hb).fStr) ((Ay he ((he.length:Int)-1)).fStarted))))]) rfl (bd ge λhs hw gg=>?_)))))))))));rw[← hw];refine wv (r:=rv (EP 5 hf (Bw ((he.length:Int)-1)) 0)) (C4 (k:=3) rfl (Ca (CU hk hw)) rfl rfl) (wv (r:=rv (EP 5 hf (Bw ((he.length:Int)-1)) 4)) (Ew (k:=3) Il rfl HD rfl (Ca (CU hk hw)) rfl rfl rfl) (I1 (enc:=A8) (ys:=hs) (y':=(AB.mk ((Ay hs ((he.length:Int)-1)).fPairs) ((Ay hs ((he.length:Int)-1)).fLeft) ((Ay hs ((he.length:Int)-1)).fKey) ((Ay hs ((he.length:Int)-1)).fLast) true)) (i:=3) (j:=(he.length:Int)-1) HD rfl rfl (BO rfl) rfl (CU hk hw) rfl rfl (H':=[.blk hg (Ab (Ay v hb)) 54,.blk b2 (AP ha) 86,.blk b1 [Al 0,Al 0,rB false,rB false] 86,.row hf 118 5 (A1 A8 (List.set hs (Bw ((he.length:Int)-1)) (AB.mk ((Ay hs ((he.length:Int)-1)).fPairs) ((Ay hs ((he.length:Int)-1)).fLeft) ((Ay hs ((he.length:Int)-1)).fKey) ((Ay hs ((he.length:Int)-1)).fLast) true)))]) rfl (bd gg λht h2 gh=>?_)));rw[← h2];refine wv (r:=rv (EP 5 hf (Bw ((he.length:Int)-1)) 0)) (C4 (k:=3) rfl (Ca (CU (CU hk hw) h2)) rfl rfl) (wv (r:=rv (EP 5 hf (Bw ((he.length:Int)-1)) 2)) (Ew (k:=3) Il rfl HD rfl (Ca (CU (CU hk hw) h2)) rfl rfl rfl) (I1 (enc:=A8) (ys:=ht) (y':=(AB.mk ((Ay ht ((he.length:Int)-1)).fPairs) ((Ay ht ((he.length:Int)-1)).fLeft) false ((Ay ht ((he.length:Int)-1)).fLast) ((Ay ht ((he.length:Int)-1)).fStarted))) (i:=3) (j:=(he.length:Int)-1) HD rfl rfl (BO rfl) rfl (CU (CU hk hw) h2) rfl rfl (H':=[.blk hg (Ab (Ay v hb)) 54,.blk b2 (AP ha) 86,.blk b1 [Al 0,Al 0,rB false,rB false] 86,.row hf 118 5 (A1 A8 (List.set ht (Bw ((he.length:Int)-1)) (AB.mk ((Ay ht ((he.length:Int)-1)).fPairs) ((Ay ht ((he.length:Int)-1)).fLeft) false ((Ay ht ((he.length:Int)-1)).fLast) ((Ay ht ((he.length:Int)-1)).fStarted))))]) rfl (bd gh λhu gi gj=>?_)));rw[← gi];refine Ak (Am (ob gj λhm gl gm=>ck gm λgp gq=>EQ (H1:=[.blk hg (Ab (Ay v hb)) 54,.blk b2 [Al ha.fDepth,Al (IntKind.wrap .i64 (ha.fBytes+(hm+1))),rB ha.fOutside,rB ha.fLong] 86,.blk b1 [Al 0,Al 0,rB false,rB false] 86,.row hf 118 5 (A1 A8 hu)]) [0,3,5,6,8,11,12,13,38,39,40,41] [⟨[],rP b2 1,0⟩,⟨[0],Al ha.fBytes,1⟩,⟨[],rP hg 2,0⟩,⟨[2],rS ((Ay v hb).fStr),1⟩,⟨[3],Al hm,0⟩,⟨[4],Al (hm+1),0⟩,⟨[1,5],Al (IntKind.wrap .i64 (ha.fBytes+(hm+1))),0⟩,⟨[],rP b2 1,0⟩,⟨[7,6],rv undef,2⟩] (rle [(9,_),(1,[.blk hg (Ab (Ay v hb)) 54,.blk b2 [Al ha.fDepth,Al (IntKind.wrap .i64 (ha.fBytes+(hm+1))),rB ha.fOutside,rB ha.fLong] 86,.blk b1 [Al 0,Al 0,rB false,rB false] 86,.row hf 118 5 (A1 A8 hu)])]) [68,69,70,71,72,73,74,75,0,3,5,6,8,11,12,13,38,39,40,41] ?_ ?_))
       ·refine oq (AG Hg rfl BB rfl rfl) (of (Bn (i:=1) BL rfl rfl rfl) (oq (AG Bl rfl CE rfl rfl) (of (Bn (i:=0) CI rfl rfl rfl) (Cz rfl (λH=>C7 Tryz.call102 (Nu ((Ay v hb).fStr) hm gl) rfl) ?_))));refine oq (Bd rfl rfl gp) (oq (Q0 rfl rfl) (oq (AG Hg rfl BB rfl rfl) (Io rfl (Nj (Je (i:=1) BB rfl rfl (BO rfl) rfl rfl (cs':=[Al ha.fDepth,Al (IntKind.wrap .i64 (ha.fBytes+(hm+1))),rB ha.fOutside,rB ha.fLong]) rfl (H':=[.blk hg (Ab (Ay v hb)) 54,.blk b2 [Al ha.fDepth,Al (IntKind.wrap .i64 (ha.fBytes+(hm+1))),rB ha.fOutside,rB ha.fLong] 86,.blk b1 [Al 0,Al 0,rB false,rB false] 86,.row hf 118 5 (A1 A8 hu)]) rfl)) ?_)));exact Cj
       refine AA (AC [(0,AD 4 (A1 Ab v)),(3,rP b1 0),(5,rP b2 0),(6,rv hf),(11,AD 4 (A1 Ab v)),(12,Al (v.length:Int)),(13,Al hb),(38,rP hg 0),(39,Al ((Ay v hb).fKind)),(40,rB (!decide (((Ay v hb).fKind)=4))),(41,rB (!decide (((Ay v hb).fKind)=4))),(68,rP b2 1),(69,Al ha.fBytes),(70,rP hg 2),(71,rS ((Ay v hb).fStr)),(72,Al hm),(73,Al (hm+1)),(74,Al (IntKind.wrap .i64 (ha.fBytes+(hm+1)))),(75,rP b2 1)] [.blk hg (Ab (Ay v hb)) 54,.blk b2 [Al ha.fDepth,Al (IntKind.wrap .i64 (ha.fBytes+(hm+1))),rB ha.fOutside,rB (ha.fLong||(decide (200<(((Ay v hb).fStr).length:Int))))] 86,.blk b1 [Al 0,Al 0,rB false,rB false] 86,.row hf 118 5 (A1 A8 hu)] ?_ ?_)
       ·refine Aj (vF Hg rfl HD (vL 1 SI rfl (wm rfl (AN (ha.fLong) (λhp=>?_) (λhp=>?_)))))
        ·refine wf hp (wf hp (wf hp (wf hp (wv (r:=rB true) (Ax rfl hp rfl) (vF Hg rfl HD (BA (i:=1) HD rfl rfl (BO rfl) rfl rfl (cs':=[Al ha.fDepth,Al (IntKind.wrap .i64 (ha.fBytes+(hm+1))),rB ha.fOutside,rB true]) rfl (H':=[.blk hg (Ab (Ay v hb)) 54,.blk b2 [Al ha.fDepth,Al (IntKind.wrap .i64 (ha.fBytes+(hm+1))),rB ha.fOutside,rB true] 86,.blk b1 [Al 0,Al 0,rB false,rB false] 86,.row hf 118 5 (A1 A8 hu)]) rfl (Ai (HG (H':=[.blk hg (Ab (Ay v hb)) 54,.blk b2 [Al ha.fDepth,Al (IntKind.wrap .i64 (ha.fBytes+(hm+1))),rB ha.fOutside,rB (ha.fLong||(decide (200<(((Ay v hb).fStr).length:Int))))] 86,.blk b1 [Al 0,Al 0,rB false,rB false] 86,.row hf 118 5 (A1 A8 hu)]) (by simp only[hp,Yl,Yt,Yx,Yo,Y1,Ys,Yz,Y0,Yj,Yr,Yg,Yb]) ?_))))))));exact wt
        ·refine wo hp (vF Bl rfl CE (wo hp (vL 0 CI rfl (wo hp (wv (BM D2 rfl) (wo hp (wv (CC rfl rfl) (Cm rfl hp rfl (vF Hg rfl HD (BA (i:=1) HD rfl rfl (BO rfl) rfl rfl (cs':=[Al ha.fDepth,Al (IntKind.wrap .i64 (ha.fBytes+(hm+1))),rB ha.fOutside,rB (decide (200<(((Ay v hb).fStr).length:Int)))]) rfl (H':=[.blk hg (Ab (Ay v hb)) 54,.blk b2 [Al ha.fDepth,Al (IntKind.wrap .i64 (ha.fBytes+(hm+1))),rB ha.fOutside,rB (decide (200<(((Ay v hb).fStr).length:Int)))] 86,.blk b1 [Al 0,Al 0,rB false,rB false] 86,.row hf 118 5 (A1 A8 hu)]) rfl (Ai (HG (H':=[.blk hg (Ab (Ay v hb)) 54,.blk b2 [Al ha.fDepth,Al (IntKind.wrap .i64 (ha.fBytes+(hm+1))),rB ha.fOutside,rB (ha.fLong||(decide (200<(((Ay v hb).fStr).length:Int))))] 86,.blk b1 [Al 0,Al 0,rB false,rB false] 86,.row hf 118 5 (A1 A8 hu)]) (by simp only[hp,Yl,Yt,Yx,Yo,Y1,Ys,Yz,Y0,Yj,Yr,Yg,Yb]) ?_))))))))))));exact wt
       exact Bi (Aw (AV (Av (Ar ((hu,(AJ.mk ha.fDepth (IntKind.wrap .i64 (ha.fBytes+(hm+1))) ha.fOutside (ha.fLong||(decide (200<(((Ay v hb).fStr).length:Int)))))),hf) gq (Az.c rfl (Az.c rfl (Az.c5 rfl rfl rfl rfl rfl Az.nil))) (sS (sC (sC (sC sN))))))))
     ·refine Aq (AA (Af (vF Hg rfl BB (vL 1 BL rfl (wm rfl (wv (DW (ys:=he) (enc:=A8) (i:=3) Im rfl rfl) (ck hY λgr gs=>wv (Bd rfl rfl gr) (wv (TF XB rfl rfl) (vF Hg rfl BB (BA (i:=1) BB rfl rfl (BO rfl) rfl rfl (cs':=[Al (max ha.fDepth ((he.length:Int)+1)),Al ha.fBytes,rB ha.fOutside,rB ha.fLong]) rfl (H':=[.blk hg (Ab (Ay v hb)) 54,.blk b2 [Al (max ha.fDepth ((he.length:Int)+1)),Al ha.fBytes,rB ha.fOutside,rB ha.fLong] 86,.blk b1 [Al 0,Al 0,rB false,rB false] 86,.row hf 118 5 (A1 A8 he)]) rfl (Ak (Am (ob gs λhh gt gu=>EQ (H1:=[.blk hg (Ab (Ay v hb)) 54,.blk b2 [Al (max ha.fDepth ((he.length:Int)+1)),Al (IntKind.wrap .i64 (ha.fBytes+hh)),rB ha.fOutside,rB ha.fLong] 86,.blk b1 [Al 0,Al 0,rB false,rB false] 86,.row hf 118 5 (A1 A8 he)]) [0,3,5,6,7,8,11,12,13] [⟨[],rP b2 1,0⟩,⟨[0],Al ha.fBytes,1⟩,⟨[],Bs (Ab (Ay v hb)),1⟩,⟨[2],Al hh,0⟩,⟨[1,3],Al (IntKind.wrap .i64 (ha.fBytes+hh)),0⟩,⟨[],rP b2 1,0⟩,⟨[5,4],rv undef,2⟩] (rle [(7,_),(1,[.blk hg (Ab (Ay v hb)) 54,.blk b2 [Al (max ha.fDepth ((he.length:Int)+1)),Al (IntKind.wrap .i64 (ha.fBytes+hh)),rB ha.fOutside,rB ha.fLong] 86,.blk b1 [Al 0,Al 0,rB false,rB false] 86,.row hf 118 5 (A1 A8 he)])]) [92,93,94,95,96,97,0,3,5,6,7,8,11,12,13] ?_ ?_)))))))))))))
      ·refine oq (AG Hg rfl BB rfl rfl) (of (Bn (i:=1) BL rfl rfl rfl) (of (AF (i:=0) Jh By rfl rfl rfl rfl) (Cz rfl (λH=>C7 Tryz.call103 (UK (Ay v hb) hh gt) rfl) ?_)));refine oq (Q0 rfl rfl) (oq (AG Hg rfl BB rfl rfl) (Io rfl (Nj (Je (i:=1) BB rfl rfl (BO rfl) rfl rfl (cs':=[Al (max ha.fDepth ((he.length:Int)+1)),Al (IntKind.wrap .i64 (ha.fBytes+hh)),rB ha.fOutside,rB ha.fLong]) rfl (H':=[.blk hg (Ab (Ay v hb)) 54,.blk b2 [Al (max ha.fDepth ((he.length:Int)+1)),Al (IntKind.wrap .i64 (ha.fBytes+hh)),rB ha.fOutside,rB ha.fLong] 86,.blk b1 [Al 0,Al 0,rB false,rB false] 86,.row hf 118 5 (A1 A8 he)]) rfl)) ?_));exact Cj
      refine AA (ck gu λgv gw=>AC [(0,AD 4 (A1 Ab v)),(3,rP b1 0),(5,rP b2 0),(6,rv hf),(7,Al hb),(8,rP hg 0),(11,AD 4 (A1 Ab v)),(12,Al (v.length:Int)),(13,Al hb),(92,rP b2 1),(93,Al ha.fBytes),(94,Bs (Ab (Ay v hb))),(95,Al hh),(96,Al (IntKind.wrap .i64 (ha.fBytes+hh))),(97,rP b2 1)] [.blk hg (Ab (Ay v hb)) 54,.blk b2 [Al (max ha.fDepth ((he.length:Int)+1)),Al (IntKind.wrap .i64 (ha.fBytes+hh)),rB (ha.fOutside||((decide (((Ay v hb).fKind)=3))&&(!(ov (Bt ((Ay v hb).fInt)))))),rB ha.fLong] 86,.blk b1 [Al 0,Al 0,rB false,rB false] 86,.row hf 118 5 (A1 A8 he)] ?_ ?_)
      ·refine Aj (vF Hg rfl HD (vL 1 SI rfl (wm rfl (AN (ha.fOutside) (λhn=>?_) (λhn=>?_)))))
       ·refine wf hn (wf hn (wf hn (wf hn (wu (wu (wu (wu (wf hn (wv (r:=rB true) (Ax rfl hn rfl) (vF Hg rfl HD (BA (i:=1) HD rfl rfl (BO rfl) rfl rfl (cs':=[Al (max ha.fDepth ((he.length:Int)+1)),Al (IntKind.wrap .i64 (ha.fBytes+hh)),rB true,rB ha.fLong]) rfl (H':=[.blk hg (Ab (Ay v hb)) 54,.blk b2 [Al (max ha.fDepth ((he.length:Int)+1)),Al (IntKind.wrap .i64 (ha.fBytes+hh)),rB true,rB ha.fLong] 86,.blk b1 [Al 0,Al 0,rB false,rB false] 86,.row hf 118 5 (A1 A8 he)]) rfl (Ai (HG (H':=[.blk hg (Ab (Ay v hb)) 54,.blk b2 [Al (max ha.fDepth ((he.length:Int)+1)),Al (IntKind.wrap .i64 (ha.fBytes+hh)),rB (ha.fOutside||((decide (((Ay v hb).fKind)=3))&&(!(ov (Bt ((Ay v hb).fInt)))))),rB ha.fLong] 86,.blk b1 [Al 0,Al 0,rB false,rB false] 86,.row hf 118 5 (A1 A8 he)]) (by simp only[hn,Yl,Yt,Yx,Yo,Y1,Ys,Yz,Y0,Yj,Yr,Yg,Yb]) ?_)))))))))))));exact wt
       ·refine wo hn (vF Bl rfl C8 (wo hn (vL 0 CF rfl (wo hn (wv (Be rfl rfl) (wo hn (wm rfl (AN (decide (((Ay v hb).fKind)=3)) (λho=>?_) (λho=>?_)))))))))
        ·refine wo ho (vF Bl rfl BB (wo ho (vL 0 BL rfl (wo ho (BQ Tryz.call31 (M5 ((Ay v hb).fInt) (ov (Bt ((Ay v hb).fInt))) (C1 (BD (Cn gv hn) ho))) rfl (wo ho (wv (B4 rfl) (wo hn (Ci rfl ho rfl (Cm rfl hn rfl (vF Hg rfl HD (BA (i:=1) HD rfl rfl (BO rfl) rfl rfl (cs':=[Al (max ha.fDepth ((he.length:Int)+1)),Al (IntKind.wrap .i64 (ha.fBytes+hh)),rB (!(ov (Bt ((Ay v hb).fInt)))),rB ha.fLong]) rfl (H':=[.blk hg (Ab (Ay v hb)) 54,.blk b2 [Al (max ha.fDepth ((he.length:Int)+1)),Al (IntKind.wrap .i64 (ha.fBytes+hh)),rB (!(ov (Bt ((Ay v hb).fInt)))),rB ha.fLong] 86,.blk b1 [Al 0,Al 0,rB false,rB false] 86,.row hf 118 5 (A1 A8 he)]) rfl (Ai (HG (H':=[.blk hg (Ab (Ay v hb)) 54,.blk b2 [Al (max ha.fDepth ((he.length:Int)+1)),Al (IntKind.wrap .i64 (ha.fBytes+hh)),rB (ha.fOutside||((decide (((Ay v hb).fKind)=3))&&(!(ov (Bt ((Ay v hb).fInt)))))),rB ha.fLong] 86,.blk b1 [Al 0,Al 0,rB false,rB false] 86,.row hf 118 5 (A1 A8 he)]) (by simp only[hn,ho,Yl,Yt,Yx,Yo,Y1,Ys,Yz,Y0,Yj,Yr,Yg,Yb]) ?_))))))))))))));exact wt
        ·refine wf ho (wf ho (wf ho (wf ho (wo hn (wv (r:=rB false) (At rfl ho rfl) (Cm rfl hn rfl (vF Hg rfl HD (BA (i:=1) HD rfl rfl (BO rfl) rfl rfl (cs':=[Al (max ha.fDepth ((he.length:Int)+1)),Al (IntKind.wrap .i64 (ha.fBytes+hh)),rB false,rB ha.fLong]) rfl (H':=[.blk hg (Ab (Ay v hb)) 54,.blk b2 [Al (max ha.fDepth ((he.length:Int)+1)),Al (IntKind.wrap .i64 (ha.fBytes+hh)),rB false,rB ha.fLong] 86,.blk b1 [Al 0,Al 0,rB false,rB false] 86,.row hf 118 5 (A1 A8 he)]) rfl (Ai (HG (H':=[.blk hg (Ab (Ay v hb)) 54,.blk b2 [Al (max ha.fDepth ((he.length:Int)+1)),Al (IntKind.wrap .i64 (ha.fBytes+hh)),rB (ha.fOutside||((decide (((Ay v hb).fKind)=3))&&(!(ov (Bt ((Ay v hb).fInt)))))),rB ha.fLong] 86,.blk b1 [Al 0,Al 0,rB false,rB false] 86,.row hf 118 5 (A1 A8 he)]) (by simp only[hn,ho,Yl,Yt,Yx,Yo,Y1,Ys,Yz,Y0,Yj,Yr,Yg,Yb]) ?_))))))))));exact wt
      refine AC [(0,AD 4 (A1 Ab v)),(3,rP b1 0),(5,rP b2 0),(6,rv hf),(7,Al hb),(8,rP hg 0),(11,AD 4 (A1 Ab v)),(12,Al (v.length:Int)),(13,Al hb),(92,rP b2 1),(93,Al ha.fBytes),(94,Bs (Ab (Ay v hb))),(95,Al hh),(96,Al (IntKind.wrap .i64 (ha.fBytes+hh))),(97,rP b2 1)] [.blk hg (Ab (Ay v hb)) 54,.blk b2 [Al (max ha.fDepth ((he.length:Int)+1)),Al (IntKind.wrap .i64 (ha.fBytes+hh)),rB (ha.fOutside||((decide (((Ay v hb).fKind)=3))&&(!(ov (Bt ((Ay v hb).fInt)))))),rB (ha.fLong||(decide (200<(((Ay v hb).fStr).length:Int))))] 86,.blk b1 [Al 0,Al 0,rB false,rB false] 86,.row hf 118 5 (A1 A8 he)] ?_ ?_
      ·refine Aj (vF Hg rfl HD (vL 1 SI rfl (wm rfl (AN (ha.fLong) (λhq=>?_) (λhq=>?_)))))
       ·refine wf hq (wf hq (wf hq (wf hq (wv (r:=rB true) (Ax rfl hq rfl) (vF Hg rfl HD (BA (i:=1) HD rfl rfl (BO rfl) rfl rfl (cs':=[Al (max ha.fDepth ((he.length:Int)+1)),Al (IntKind.wrap .i64 (ha.fBytes+hh)),rB (ha.fOutside||((decide (((Ay v hb).fKind)=3))&&(!(ov (Bt ((Ay v hb).fInt)))))),rB true]) rfl (H':=[.blk hg (Ab (Ay v hb)) 54,.blk b2 [Al (max ha.fDepth ((he.length:Int)+1)),Al (IntKind.wrap .i64 (ha.fBytes+hh)),rB (ha.fOutside||((decide (((Ay v hb).fKind)=3))&&(!(ov (Bt ((Ay v hb).fInt)))))),rB true] 86,.blk b1 [Al 0,Al 0,rB false,rB false] 86,.row hf 118 5 (A1 A8 he)]) rfl (Ai (HG (H':=[.blk hg (Ab (Ay v hb)) 54,.blk b2 [Al (max ha.fDepth ((he.length:Int)+1)),Al (IntKind.wrap .i64 (ha.fBytes+hh)),rB (ha.fOutside||((decide (((Ay v hb).fKind)=3))&&(!(ov (Bt ((Ay v hb).fInt)))))),rB (ha.fLong||(decide (200<(((Ay v hb).fStr).length:Int))))] 86,.blk b1 [Al 0,Al 0,rB false,rB false] 86,.row hf 118 5 (A1 A8 he)]) (by simp only[hq,Yl,Yt,Yx,Yo,Y1,Ys,Yz,Y0,Yj,Yr,Yg,Yb]) ?_))))))));exact wt
       ·refine wo hq (vF Bl rfl CE (wo hq (vL 0 CI rfl (wo hq (wv (BM D2 rfl) (wo hq (wv (CC rfl rfl) (Cm rfl hq rfl (vF Hg rfl HD (BA (i:=1) HD rfl rfl (BO rfl) rfl rfl (cs':=[Al (max ha.fDepth ((he.length:Int)+1)),Al (IntKind.wrap .i64 (ha.fBytes+hh)),rB (ha.fOutside||((decide (((Ay v hb).fKind)=3))&&(!(ov (Bt ((Ay v hb).fInt)))))),rB (decide (200<(((Ay v hb).fStr).length:Int)))]) rfl (H':=[.blk hg (Ab (Ay v hb)) 54,.blk b2 [Al (max ha.fDepth ((he.length:Int)+1)),Al (IntKind.wrap .i64 (ha.fBytes+hh)),rB (ha.fOutside||((decide (((Ay v hb).fKind)=3))&&(!(ov (Bt ((Ay v hb).fInt)))))),rB (decide (200<(((Ay v hb).fStr).length:Int)))] 86,.blk b1 [Al 0,Al 0,rB false,rB false] 86,.row hf 118 5 (A1 A8 he)]) rfl (Ai (HG (H':=[.blk hg (Ab (Ay v hb)) 54,.blk b2 [Al (max ha.fDepth ((he.length:Int)+1)),Al (IntKind.wrap .i64 (ha.fBytes+hh)),rB (ha.fOutside||((decide (((Ay v hb).fKind)=3))&&(!(ov (Bt ((Ay v hb).fInt)))))),rB (ha.fLong||(decide (200<(((Ay v hb).fStr).length:Int))))] 86,.blk b1 [Al 0,Al 0,rB false,rB false] 86,.row hf 118 5 (A1 A8 he)]) (by simp only[hq,Yl,Yt,Yx,Yo,Y1,Ys,Yz,Y0,Yj,Yr,Yg,Yb]) ?_))))))))))));exact wt
      refine Am (Af (vF Bl rfl BB (vL 0 BL rfl (wv (CC rfl rfl) (Ak (cz gw rfl (λgx gy=>?_) (λgx gz=>?_)))))))
      ·refine Am (Af (vF Bl rfl BB (vL 0 BL rfl (wm rfl (wv (AI (ys:=v) (enc:=Ab) Bp rfl) (wv (CC rfl rfl) (Ak (cz gy rfl (λg0 g1=>?_) (λg0 g2=>?_)))))))))
       ·refine Am (EQ (H1:=[.blk hg (Ab (Ay v hb)) 54,.blk b2 [Al (max ha.fDepth ((he.length:Int)+1)),Al (IntKind.wrap .i64 (ha.fBytes+hh)),rB (ha.fOutside||((decide (((Ay v hb).fKind)=3))&&(!(ov (Bt ((Ay v hb).fInt)))))),rB (ha.fLong||(decide (200<(((Ay v hb).fStr).length:Int))))] 86,.blk b1 [Al (max ha.fDepth ((he.length:Int)+1)),Al (IntKind.wrap .i64 (ha.fBytes+hh)),rB (ha.fOutside||((decide (((Ay v hb).fKind)=3))&&(!(ov (Bt ((Ay v hb).fInt)))))),rB (ha.fLong||(decide (200<(((Ay v hb).fStr).length:Int))))] 86,.row hf 118 5 (A1 A8 he)]) [3,5] [⟨[],Bs [Al (max ha.fDepth ((he.length:Int)+1)),Al (IntKind.wrap .i64 (ha.fBytes+hh)),rB (ha.fOutside||((decide (((Ay v hb).fKind)=3))&&(!(ov (Bt ((Ay v hb).fInt)))))),rB (ha.fLong||(decide (200<(((Ay v hb).fStr).length:Int))))],1⟩,⟨[],Al 0,0⟩,⟨[0],rv undef,2⟩,⟨[],rB false,0⟩] (rle [(3,_),(2,[.blk hg (Ab (Ay v hb)) 54,.blk b2 [Al (max ha.fDepth ((he.length:Int)+1)),Al (IntKind.wrap .i64 (ha.fBytes+hh)),rB (ha.fOutside||((decide (((Ay v hb).fKind)=3))&&(!(ov (Bt ((Ay v hb).fInt)))))),rB (ha.fLong||(decide (200<(((Ay v hb).fStr).length:Int))))] 86,.blk b1 [Al (max ha.fDepth ((he.length:Int)+1)),Al (IntKind.wrap .i64 (ha.fBytes+hh)),rB (ha.fOutside||((decide (((Ay v hb).fKind)=3))&&(!(ov (Bt ((Ay v hb).fInt)))))),rB (ha.fLong||(decide (200<(((Ay v hb).fStr).length:Int))))] 86,.row hf 118 5 (A1 A8 he)])]) [2,4,3] ?_ ?_)
        ·refine of (AF (i:=1) Ne G4 rfl rfl rfl rfl) (oq (AE rfl) (Io rfl (Nj (Dv (i:=2) G4 rfl rfl rfl (BR.c rfl) rfl rfl (cs':=[Al (max ha.fDepth ((he.length:Int)+1)),Al (IntKind.wrap .i64 (ha.fBytes+hh)),rB (ha.fOutside||((decide (((Ay v hb).fKind)=3))&&(!(ov (Bt ((Ay v hb).fInt)))))),rB (ha.fLong||(decide (200<(((Ay v hb).fStr).length:Int))))]) rfl (H':=[.blk hg (Ab (Ay v hb)) 54,.blk b2 [Al (max ha.fDepth ((he.length:Int)+1)),Al (IntKind.wrap .i64 (ha.fBytes+hh)),rB (ha.fOutside||((decide (((Ay v hb).fKind)=3))&&(!(ov (Bt ((Ay v hb).fInt)))))),rB (ha.fLong||(decide (200<(((Ay v hb).fStr).length:Int))))] 86,.blk b1 [Al (max ha.fDepth ((he.length:Int)+1)),Al (IntKind.wrap .i64 (ha.fBytes+hh)),rB (ha.fOutside||((decide (((Ay v hb).fKind)=3))&&(!(ov (Bt ((Ay v hb).fInt)))))),rB (ha.fLong||(decide (200<(((Ay v hb).fStr).length:Int))))] 86,.row hf 118 5 (A1 A8 he)]) rfl)) ?_));refine oq (AE rfl) ?_;exact Cj
        refine AA (Ap (Ac (Ac (As (Ac (Ac (AO ?_)))))));have g3:=Bg g1 hy hz;refine As (Ac (J8 ?_));obtain rfl:=An g3;exact Ao (WO SR (A6 rfl) (Er (i:=2) Ne G4 rfl rfl rfl) (A6 rfl)) (sS (sS (sS (sS sN)))) ⟨rfl,rfl⟩
       ·refine Aq (AA (Af (wm rfl (vF Bl rfl C8 (vL 0 CF rfl (wv (Be rfl rfl) (vF Bl rfl BB (vL 0 BL rfl (vF Bl rfl C8 (vL 0 CF rfl (wv (Be rfl rfl) (wv (r:=Bs [rB (decide (((Ay v hb).fKind)=6)),Al ((Ay v hb).fN),rB (decide (((Ay v hb).fKind)=6)),rS ([]:Au),rB false]) (KM rfl rfl rfl rfl rfl rfl) (AY (ys:=([(AB.mk (decide (((Ay v hb).fKind)=6)) ((Ay v hb).fN) (decide (((Ay v hb).fKind)=6)) ([]:Au) false)]:List AB)) (enc:=A8) (css:=[[rB (decide (((Ay v hb).fKind)=6)),Al ((Ay v hb).fN),rB (decide (((Ay v hb).fKind)=6)),rS ([]:Au),rB false]]) (xs:=[.tmp 139]) Im OJ Tryz.zeroValue118 rfl rfl rfl ⟨E1.agg ⟨Up.refl _,Up.refl _,Up.refl _,Up.refl _,Up.refl _,trivial⟩,trivial⟩ rfl Ir rfl rfl rfl (λg4=>?_))))))))))))));refine ck g2 λg5 g6=>Exists.elim Vw λinf hinf=>Cg (xs:=he) (ys:=([(AB.mk (decide (((Ay v hb).fKind)=6)) ((Ay v hb).fN) (decide (((Ay v hb).fKind)=6)) ([]:Au) false)]:List AB)) (enc:=A8) (i:=4) Im hinf.1 hinf.2.1 hinf.2.2.1 hinf.2.2.2 rfl rfl rfl rfl rfl (K9.w (i:=0) rfl rfl) Ir L9 g5 rfl (λhA=>?_);exact wa rfl (Ak (Bi (Aw (AV (CB (H2:=[.blk b2 [Al (max ha.fDepth ((he.length:Int)+1)),Al (IntKind.wrap .i64 (ha.fBytes+hh)),rB (ha.fOutside||((decide (((Ay v hb).fKind)=3))&&(!(ov (Bt ((Ay v hb).fInt)))))),rB (ha.fLong||(decide (200<(((Ay v hb).fStr).length:Int))))] 86,.blk b1 [Al 0,Al 0,rB false,rB false] 86,.row hA 118 5 (A1 A8 (he++([(AB.mk (decide (((Ay v hb).fKind)=6)) ((Ay v hb).fN) (decide (((Ay v hb).fKind)=6)) ([]:Au) false)]:List AB))),.row (.slice (some ⟨g4,0,none⟩) 1 1) 118 5 (A1 A8 ([(AB.mk (decide (((Ay v hb).fKind)=6)) ((Ay v hb).fN) (decide (((Ay v hb).fKind)=6)) ([]:Au) false)]:List AB)),.blk hg (Ab (Ay v hb)) 54]) ((A4 (i:=3) rfl).trans (XV _ ((A4 (i:=3) rfl).trans (XV _ (XT _))))) (Av (Ar ((he++([(AB.mk (decide (((Ay v hb).fKind)=6)) ((Ay v hb).fN) (decide (((Ay v hb).fKind)=6)) ([]:Au) false)]:List AB),(AJ.mk (max ha.fDepth ((he.length:Int)+1)) (IntKind.wrap .i64 (ha.fBytes+hh)) (ha.fOutside||((decide (((Ay v hb).fKind)=3))&&(!(ov (Bt ((Ay v hb).fInt)))))) (ha.fLong||(decide (200<(((Ay v hb).fStr).length:Int)))))),hA) g6 (Az.c rfl (Az.c rfl (Az.c5 rfl rfl rfl rfl rfl Az.nil))) (sC (sC (sC (sS (sS sN))))))))))))
      ·refine Aq (AA (Af (wm rfl (ob gz λhx g7 g8=>DP (Hr:=[.blk hg (Ab (Ay v hb)) 54,.blk b2 [Al (max ha.fDepth ((he.length:Int)+1)),Al (IntKind.wrap .i64 (ha.fBytes+hh)),rB (ha.fOutside||((decide (((Ay v hb).fKind)=3))&&(!(ov (Bt ((Ay v hb).fInt)))))),rB (ha.fLong||(decide (200<(((Ay v hb).fStr).length:Int))))] 86,.blk b1 [Al 0,Al 0,rB false,rB false] 86]) Tryz.call104 (RL F hf he hx g7) rfl ((A4 (i:=3) rfl).trans (XV _ (XT _))) rfl ?_))));rintro _ _ ⟨h0,rfl,rfl⟩;refine wa rfl (Bb (wm rfl (wv (DW (ys:=hx) (enc:=A8) (i:=0) Im rfl rfl) (wv (Be rfl rfl) (Ak (cz g8 rfl (λg9 gA=>?_) (λg9 gB=>?_)))))))
       ·refine Am (ck gA λgC gD=>EQ (H1:=[.row h0 118 5 (A1 A8 hx),.blk hg (Ab (Ay v hb)) 54,.blk b2 [Al (max ha.fDepth ((he.length:Int)+1)),Al (IntKind.wrap .i64 (ha.fBytes+hh)),rB (ha.fOutside||((decide (((Ay v hb).fKind)=3))&&(!(ov (Bt ((Ay v hb).fInt)))))),rB (ha.fLong||(decide (200<(((Ay v hb).fStr).length:Int))))] 86,.blk b1 [Al (max ha.fDepth ((he.length:Int)+1)),Al (IntKind.wrap .i64 (ha.fBytes+hh)),rB (ha.fOutside||((decide (((Ay v hb).fKind)=3))&&(!(ov (Bt ((Ay v hb).fInt)))))),rB (ha.fLong||(decide (200<(((Ay v hb).fStr).length:Int))))] 86]) [3,5,7] [⟨[],Al hb,0⟩,⟨[0],Al (hb+1),0⟩,⟨[],Bs [Al (max ha.fDepth ((he.length:Int)+1)),Al (IntKind.wrap .i64 (ha.fBytes+hh)),rB (ha.fOutside||((decide (((Ay v hb).fKind)=3))&&(!(ov (Bt ((Ay v hb).fInt)))))),rB (ha.fLong||(decide (200<(((Ay v hb).fStr).length:Int))))],1⟩,⟨[1],Al (hb+1),0⟩,⟨[2],rv undef,2⟩,⟨[],rB true,0⟩] (rle [(5,_),(2,[.row h0 118 5 (A1 A8 hx),.blk hg (Ab (Ay v hb)) 54,.blk b2 [Al (max ha.fDepth ((he.length:Int)+1)),Al (IntKind.wrap .i64 (ha.fBytes+hh)),rB (ha.fOutside||((decide (((Ay v hb).fKind)=3))&&(!(ov (Bt ((Ay v hb).fInt)))))),rB (ha.fLong||(decide (200<(((Ay v hb).fStr).length:Int))))] 86,.blk b1 [Al (max ha.fDepth ((he.length:Int)+1)),Al (IntKind.wrap .i64 (ha.fBytes+hh)),rB (ha.fOutside||((decide (((Ay v hb).fKind)=3))&&(!(ov (Bt ((Ay v hb).fInt)))))),rB (ha.fLong||(decide (200<(((Ay v hb).fStr).length:Int))))] 86])]) [2,4,3] ?_ ?_)
        ·refine oq (A2 rfl) (oq (Bd rfl rfl gC) (of (AF (i:=2) Ne G4 rfl rfl rfl rfl) (oq (AE rfl) (Io rfl (Nj (Dv (i:=3) G4 rfl rfl rfl (BR.c rfl) rfl rfl (cs':=[Al (max ha.fDepth ((he.length:Int)+1)),Al (IntKind.wrap .i64 (ha.fBytes+hh)),rB (ha.fOutside||((decide (((Ay v hb).fKind)=3))&&(!(ov (Bt ((Ay v hb).fInt)))))),rB (ha.fLong||(decide (200<(((Ay v hb).fStr).length:Int))))]) rfl (H':=[.row h0 118 5 (A1 A8 hx),.blk hg (Ab (Ay v hb)) 54,.blk b2 [Al (max ha.fDepth ((he.length:Int)+1)),Al (IntKind.wrap .i64 (ha.fBytes+hh)),rB (ha.fOutside||((decide (((Ay v hb).fKind)=3))&&(!(ov (Bt ((Ay v hb).fInt)))))),rB (ha.fLong||(decide (200<(((Ay v hb).fStr).length:Int))))] 86,.blk b1 [Al (max ha.fDepth ((he.length:Int)+1)),Al (IntKind.wrap .i64 (ha.fBytes+hh)),rB (ha.fOutside||((decide (((Ay v hb).fKind)=3))&&(!(ov (Bt ((Ay v hb).fInt)))))),rB (ha.fLong||(decide (200<(((Ay v hb).fStr).length:Int))))] 86]) rfl)) ?_))));refine oq (AE rfl) ?_;exact Cj
        refine AA (Ap (As (Ac (Ac (AO ?_)))));have gE:=Bg gD hy hz;refine As (Ac (J8 ?_));obtain rfl:=An gE;exact Ao (WO SR (A6 rfl) (Er (i:=3) Ne G4 rfl rfl rfl) (A6 rfl)) (sS (sS (sS (sS sN)))) ⟨rfl,rfl⟩
       ·exact Aq (A3 (CB (H2:=[.blk b2 [Al (max ha.fDepth ((he.length:Int)+1)),Al (IntKind.wrap .i64 (ha.fBytes+hh)),rB (ha.fOutside||((decide (((Ay v hb).fKind)=3))&&(!(ov (Bt ((Ay v hb).fInt)))))),rB (ha.fLong||(decide (200<(((Ay v hb).fStr).length:Int))))] 86,.blk b1 [Al 0,Al 0,rB false,rB false] 86,.row h0 118 5 (A1 A8 hx),.blk hg (Ab (Ay v hb)) 54]) ((A4 (i:=2) rfl).trans (XV _ ((A4 (i:=2) rfl).trans (XV _ (XT _))))) (Av (Ar ((hx,(AJ.mk (max ha.fDepth ((he.length:Int)+1)) (IntKind.wrap .i64 (ha.fBytes+hh)) (ha.fOutside||((decide (((Ay v hb).fKind)=3))&&(!(ov (Bt ((Ay v hb).fInt)))))) (ha.fLong||(decide (200<(((Ay v hb).fStr).length:Int)))))),h0) gB (Az.c rfl (Az.c rfl (Az.c5 rfl rfl rfl rfl rfl Az.nil))) (sC (sC (sC (sS sN))))))))
   ·rintro⟨⟨h7,h8⟩,h9⟩ h3;refine Bu (l':=[(0,AD 4 (A1 Ab v)),(3,rP b1 0),(5,rP b2 0),(6,rv h9),(11,AD 4 (A1 Ab v)),(12,Al (v.length:Int)),(13,Al hb)]) (H':=[.blk b2 (AP h8) 86,.blk b1 [Al 0,Al 0,rB false,rB false] 86,.row h9 118 5 (A1 A8 h7)]) rfl rfl ?_;replace h3:DS hb h7 h8=some h5:=h3;unfold DS at h3;refine Aj (ck h3 λgF gG=>wv (Bd rfl rfl gF) (wm rfl (Ai ?_)));have gH:=AW gG hy;exact Av (Ar (hE,(h7,hb+1,h8),h9) ⟨gH,XX _⟩ (Az.c rfl (Az.c rfl (Az.c5 rfl rfl rfl rfl rfl Az.nil))) (sC (sC (sC sN))))
  ·refine Bi (Aw ?_);have gI:=Bx hI hy hz;exact Aw (AS (Ar (ha,()) gI (Az.c rfl (Az.c rfl Az.nil)) (sC (sC (sS sN)))))
 ·rintro⟨hr,⟨⟩⟩ h4;refine BS (l':=[(3,rP b1 0),(5,rP b2 0)]) (H':=[.blk b2 (AP hr) 86,.blk b1 [Al 0,Al 0,rB false,rB false] 86]) rfl rfl ?_;replace h4:JH hr=some r:=h4;unfold JH at h4;refine AV (AA (Am (EQ (H1:=[.blk b2 (AP hr) 86,.blk b1 (AP hr) 86]) [3,5] [⟨[],Bs (AP hr),1⟩,⟨[],Al 0,0⟩,⟨[0],rv undef,2⟩,⟨[],rB false,0⟩] (rle [(3,_),(2,[.blk b2 (AP hr) 86,.blk b1 (AP hr) 86])]) [2,4,3] ?_ ?_)))
  ·refine of (AF (i:=0) Ne G4 rfl rfl rfl rfl) (oq (AE rfl) (Io rfl (Nj (Dv (i:=1) G4 rfl rfl rfl (BR.c rfl) rfl rfl (cs':=[Al hr.fDepth,Al hr.fBytes,rB hr.fOutside,rB hr.fLong]) rfl (H':=[.blk b2 (AP hr) 86,.blk b1 (AP hr) 86]) rfl)) ?_));refine oq (AE rfl) ?_;exact Cj
  refine AA (Ap (J8 ?_));obtain rfl:=An h4;exact Ao (WO SR (A6 rfl) (Er (i:=1) Ne G4 rfl rfl rfl) (A6 rfl)) (sS (sS sN)) ⟨rfl,rfl⟩
theorem DT (F:Nat)(v:(List Aa))(r:Int)(h:Dp F v=some r):Fn Tryz.prog GE 30 [AD 4 (A1 Ab v)] [] (λR H=>R=Al r∧H=[]):=by
 refine enter (n:=42) Tryz.func30 rfl Tryz.ntmps30 rfl (λw Z=>?_);unfold Dp at h;refine Af (wa rfl (Bb (wm rfl (ob h λr1 e3 h2=>BQ Qc (HN F v r1 e3) rfl (wm rfl (wv (A7 rfl rfl) (wv (A7 rfl rfl) (wv (A7 rfl rfl) (Cf (cs:=[Al 0,Al 0,rB false,rB false]) NL rfl rfl (λb4=>?_))))))))));refine wa rfl (Bj (i:=0) G4 rfl rfl rfl (BR.c rfl) rfl rfl (cs':=[Al r1.2.1.fDepth,Al r1.2.1.fBytes,rB r1.2.1.fOutside,rB r1.2.1.fLong]) rfl (H':=[.blk b4 (AP r1.2.1) 86]) rfl (wa rfl (Ak (Am (A5 (AC [(0,AD 4 (A1 Ab v)),(4,rP b4 0),(12,rB ((!r1.2.2)||(!decide (r1.1=(v.length:Int)))))] [.blk b4 (AP r1.2.1) 86] ?_ ?_))))))
 ·refine Aj (wm rfl (wv (B4 rfl) (wm rfl (AN (!r1.2.2) (λc5=>?_) (λc5=>?_)))))
  ·refine wf c5 (wf c5 (wf c5 (wf c5 (wv (r:=rB true) (Ax rfl c5 rfl) (wa rfl (Ai ?_))))));exact BG c5
  ·refine wo c5 (wm rfl (wo c5 (wm rfl (wo c5 (wv (AI (ys:=v) (enc:=Ab) Bp rfl) (wo c5 (wv (Bk rfl rfl) (Cm rfl c5 rfl (wa rfl (Ai ?_))))))))));exact BG c5
 refine cz h2 rfl (λc6 h7=>?_) (λc6 h8=>?_)
 ·refine Af (wa rfl (Ak (Ap (As (Ac ?_)))));obtain rfl:=An h7;exact Ao (Bq UG (A6 rfl)) (sS sN) ⟨rfl,rfl⟩
 ·refine Af (vF Hg rfl HD (vL 0 SI rfl (wa rfl (Ak (cz h8 rfl (λc9 hf=>?_) (λc9 hg=>?_))))))
  ·refine Af (wa rfl (Ak (Ap (As (Ac ?_)))));obtain rfl:=An hf;exact Ao (Bq UG (A6 rfl)) (sS sN) ⟨rfl,rfl⟩
  ·refine AC [(24,rB (r1.2.1.fLong||((decide (200<(v.length:Int)))||((decide (8<r1.2.1.fDepth))||(decide (4000<r1.2.1.fBytes))))))] [] ?_ ?_
   ·refine Aj (vF Hg rfl HD (vL 0 SI rfl (wm rfl (AN (r1.2.1.fLong) (λha=>?_) (λha=>?_)))))
    ·refine wf ha (wf ha (wf ha (wv (r:=rB true) (Ax rfl ha rfl) (wm rfl (wz rfl rfl (wz rfl rfl (wz rfl rfl (wv (r:=rB true) (Ax (b:=true) rfl rfl rfl) (wm rfl (wz rfl rfl (wz rfl rfl (wz rfl rfl (wv (r:=rB true) (Ax (b:=true) rfl rfl rfl) (wa rfl (Ai ?_)))))))))))))));exact BG ha
    ·refine wo ha (wm rfl (wo ha (wv (AI (ys:=v) (enc:=Ab) Bp rfl) (wo ha (wv (CC rfl rfl) (Cm rfl ha rfl (wm rfl (AN (decide (200<(v.length:Int))) (λhb=>?_) (λhb=>?_)))))))))
     ·refine wf hb (wf hb (wf hb (wv (r:=rB true) (Ax rfl hb rfl) (wm rfl (wz rfl rfl (wz rfl rfl (wz rfl rfl (wv (r:=rB true) (Ax (b:=true) rfl rfl rfl) (wa rfl (Ai ?_))))))))));exact BG (And.intro ha hb)
     ·refine wo hb (vF Hg rfl BB (wo hb (vL 0 BL rfl (wo hb (wv (CC rfl rfl) (Cm rfl hb rfl (wm rfl (AN (decide (8<r1.2.1.fDepth)) (λhe=>?_) (λhe=>?_)))))))))
      ·refine wf he (wf he (wf he (wv (r:=rB true) (Ax rfl he rfl) (wa rfl (Ai ?_)))));exact BG (And.intro ha (And.intro hb he))
      ·refine wo he (vF Hg rfl BB (wo he (vL 0 BL rfl (wo he (wv (CC rfl rfl) (Cm rfl he rfl (wa rfl (Ai ?_))))))));exact BG (And.intro ha (And.intro hb he))
   refine cz hg rfl (λhh hi=>?_) (λhh hj=>?_)
   ·refine Af (wa rfl (Ak (Ap (As (Ac ?_)))));obtain rfl:=An hi;exact Ao (Bq UG (A6 rfl)) sN ⟨rfl,rfl⟩
   ·refine Aq (A3 (AA (Af (wa rfl (Ak (Ap ?_))))));obtain rfl:=An hj;exact Ao (Bq UG (A6 rfl)) sN ⟨rfl,rfl⟩
theorem HQ (F:Nat)(v:(List Aa))(r:(List Aa)×Int)(h:EH F v=some r):Fn Tryz.prog GE 71 [AD 4 (A1 Ab v)] [] (λR H=>R=Df [AD 4 (A1 Ab r.1),Al r.2]∧H=[]):=by
 refine enter (n:=11) Tryz.func71 rfl Tryz.ntmps71 rfl (λw Z=>?_);unfold EH at h;refine Af (wa rfl (wa rfl (Ak (Am (Af (wm rfl (ob h λr1 e3 h2=>BQ Nd (DT F v r1 e3) rfl (wa rfl (Bb (wm rfl (wv (Bk rfl rfl) (Ak (cz h2 rfl (λc4 h5=>?_) (λc4 h6=>?_))))))))))))))
 ·refine Af (wm rfl (wa rfl (wa rfl (Ak (Ap (Ac (WK.up (d:=2) (r:=AD 4 (A1 Ab ([]:List Aa))) rfl (Up.le (DL.nil _)) ?_)))))));obtain rfl:=An h5;exact Ao (Du Tryz.results71 (A6 rfl) (A6 rfl)) sN ⟨rfl,rfl⟩
 ·refine Aq (AA (Af (wm rfl (wa rfl (wa rfl (Ak (Ap ?_)))))));obtain rfl:=An h6;exact Ao (Du Tryz.results71 (A6 rfl) (A6 rfl)) sN ⟨rfl,rfl⟩
theorem Tk (F:Nat)(n:Int)(r:(List Aa)×Int)(h:UO F n=some r):Fn Tryz.prog GE 85 [Al n] [] (λR H=>R=Df [AD 4 (A1 Ab r.1),Al r.2]∧H=[]):=by
 refine enter (n:=10) Tryz.func85 rfl Tryz.ntmps85 rfl (λw Z=>?_);unfold UO at h;refine Af (wa rfl (wa rfl (Bb (wm rfl (wv (r:=Bs [Al 3,Al n,rS ([]:Au),Al 0]) (DY rfl rfl rfl rfl) (AY (ys:=([(Aa.mk 3 n ([]:Au) 0)]:List Aa)) (enc:=Ab) (css:=[[Al 3,Al n,rS ([]:Au),Al 0]]) (xs:=[.tmp 5]) Bp By GT rfl rfl rfl ⟨E1.agg ⟨Up.refl _,Up.refl _,Up.refl _,Up.refl _,trivial⟩,trivial⟩ rfl Bf rfl rfl rfl (λb1=>?_)))))));refine WL.freeze (i:=0) rfl (WL.up (d:=6) (r:=AD 4 (A1 Ab ([(Aa.mk 3 n ([]:Au) 0)]:List Aa))) rfl (Up.fact (i:=0) rfl) (ob h λr2 e4 h3=>BQ Tryz.call71 (HQ F ([(Aa.mk 3 n ([]:Au) 0)]:List Aa) r2 e4) rfl (wv (A7 rfl rfl) (wv (A7 rfl rfl) (wa rfl (wa rfl (Ak (Ap ?_))))))));obtain rfl:=An h3;exact Ao (Du Tryz.results85 (A6 rfl) (A6 rfl)) (sS sN) ⟨rfl,rfl⟩
theorem Mj (F:Nat)(s:Au)(r:(List Aa)×Int)(h:NT F s=some r):Fn Tryz.prog GE 29 [rS s] [] (λR H=>R=Df [AD 4 (A1 Ab r.1),Al r.2]∧H=[]):=by
 refine enter (n:=10) Tryz.func29 rfl Tryz.ntmps29 rfl (λw Z=>?_);unfold NT at h;refine Af (wa rfl (wa rfl (Bb (wm rfl (wv (r:=Bs [Al 4,Al 0,rS s,Al 0]) (DX rfl rfl rfl rfl) (AY (ys:=([(Aa.mk 4 0 s 0)]:List Aa)) (enc:=Ab) (css:=[[Al 4,Al 0,rS s,Al 0]]) (xs:=[.tmp 5]) Bp By GT rfl rfl rfl ⟨E1.agg ⟨Up.refl _,Up.refl _,Up.refl _,Up.refl _,trivial⟩,trivial⟩ rfl Bf rfl rfl rfl (λb1=>?_)))))));refine WL.freeze (i:=0) rfl (WL.up (d:=6) (r:=AD 4 (A1 Ab ([(Aa.mk 4 0 s 0)]:List Aa))) rfl (Up.fact (i:=0) rfl) (ob h λr2 e4 h3=>BQ Tryz.call71 (HQ F ([(Aa.mk 4 0 s 0)]:List Aa) r2 e4) rfl (wv (A7 rfl rfl) (wv (A7 rfl rfl) (wa rfl (wa rfl (Ak (Ap ?_))))))));obtain rfl:=An h3;exact Ao (Du Tryz.results29 (A6 rfl) (A6 rfl)) (sS sN) ⟨rfl,rfl⟩
theorem LH (F:Nat)(l:(List (List Aa)))(r:(List Aa)×Int)(h:Nv F l=some r):Fn Tryz.prog GE 47 [AD 1 (A1 Ae l)] [] (λR H=>R=Df [AD 4 (A1 Ab r.1),Al r.2]∧H=[]):=by
 refine enter (n:=31) Tryz.func47 rfl Tryz.ntmps47 rfl (λw Z=>?_);unfold Nv at h;refine Af (wa rfl (wa rfl (Bb (wm rfl (wv (AI (ys:=l) (enc:=Ae) BX rfl) (wv (r:=Bs [Al 5,Al 0,rS ([]:Au),Al (l.length:Int)]) (Jn rfl rfl rfl rfl) (AY (ys:=([(Aa.mk 5 0 ([]:Au) (l.length:Int))]:List Aa)) (enc:=Ab) (css:=[[Al 5,Al 0,rS ([]:Au),Al (l.length:Int)]]) (xs:=[.tmp 10]) Bp By GT rfl rfl rfl ⟨E1.agg ⟨Up.refl _,Up.refl _,Up.refl _,Up.refl _,trivial⟩,trivial⟩ rfl Bf rfl rfl rfl (λb1=>?_))))))));refine wa rfl (Ak (Am (Af (wm rfl (wv (AI (ys:=l) (enc:=Ae) BX rfl) (wv (r:=Al 0) (A2 rfl) (Ak (A5 (ob h λhl hm hj=>Bc (S:=Nat×((List Aa)×Int)×(Value)) (V:=((List Aa))×(Value)) 0 (λσ=>BP (λσ=>JJ F l σ.1 σ.2) σ.1 σ.2.1=some hl) (λσ=>[(2,rv (.slice none 0 0)),(3,Al 0),(4,rv σ.2.2),(12,AD 1 (A1 Ae l)),(13,Al (l.length:Int)),(14,Al σ.2.1.2)]) (λσ=>[.row σ.2.2 54 4 (A1 Ab σ.2.1.1)]) (λσ=>σ.1) (F,(([(Aa.mk 5 0 ([]:Au) (l.length:Int))]:List Aa),0),(.slice (some ⟨b1,0,none⟩) 1 1)) hm (Az.c rfl (Az.c5 rfl rfl rfl rfl rfl Az.nil)) (sC sN) (λσ=>JI F σ.1=some r) (λσ=>[(2,rv (.slice none 0 0)),(3,Al 0),(4,rv σ.2)]) (λσ=>[.row σ.2 54 4 (A1 Ab σ.1)]) ?_ ?_)))))))))
 ·rintro⟨hC,⟨hb,ha⟩,hh⟩ hn;refine Bu (l':=[(2,rv (.slice none 0 0)),(3,Al 0),(4,rv hh),(12,AD 1 (A1 Ae l)),(13,Al (l.length:Int)),(14,Al ha)]) (H':=[.row hh 54 4 (A1 Ab hb)]) rfl rfl ?_;obtain⟨ho,rfl,hp,he,hi⟩:=BK hn;replace he:JJ F l hb ha=some hp:=he;unfold JJ at he;refine Af (wv (Cc rfl rfl) (Ak (Am (cz he rfl (λhq hr=>?_) (λhq hs=>?_)))))
  ·refine Aq (AA (Am (A5 (Af (ck hr λht hu=>wv (AT (enc:=Ae) (ys:=l) BX Cl rfl rfl ht) (wv (AH CX rfl rfl) (wa rfl (Ak (Am (Af (wm rfl (ob hu λhw hx hy=>BQ Nd (DT F (Ay l ha) hw hx) rfl (wa rfl (Bb (wm rfl (wv (Bk rfl rfl) (Ak (cz hy rfl (λhz h0=>?_) (λhz h1=>?_)))))))))))))))))))
   ·refine Af (wm rfl (wa rfl (wa rfl (Ak (Ap (Ac (As (Ac (Ac (AO ?_))))))))));have h2:=Bg h0 hi hj;refine As (Ac (WK.up (d:=2) (r:=AD 4 (A1 Ab ([]:List Aa))) rfl (Up.le (DL.nil _)) ?_));obtain rfl:=An h2;exact Ao (Du Tryz.results47 (A6 rfl) (A6 rfl)) (sS sN) ⟨rfl,rfl⟩
   ·refine Aq (AA (Aj (wm rfl (wm rfl (ck h1 λh3 h4=>Exists.elim G0 λinf hinf=>Cg (xs:=hb) (ys:=Ay l ha) (enc:=Ab) (i:=0) Bp hinf.1 hinf.2.1 hinf.2.2.1 hinf.2.2.2 rfl rfl rfl rfl rfl (K9.z rfl rfl) Bf Cy h3 rfl (λv76=>?_))))));refine wa rfl (Ai (A3 (AA (Aj (ck h4 λh5 h6=>wv (Bd rfl rfl h5) (wm rfl (Ai ?_)))))));have h7:=AW h6 hi;exact Av (Ar (ho,(hb++(Ay l ha),ha+1),v76) ⟨h7,XX _⟩ (Az.c rfl (Az.c5 rfl rfl rfl rfl rfl Az.nil)) (sC sN))
  ·refine Bi (Aw ?_);have h8:=Bx hs hi hj;exact Aw (AS (Ar (hb,hh) h8 (Az.c rfl (Az.c rfl (Az.c rfl Az.nil))) (sC sN)))
 ·rintro⟨hf,hk⟩ hg;refine BS (l':=[(2,rv (.slice none 0 0)),(3,Al 0),(4,rv hk)]) (H':=[.row hk 54 4 (A1 Ab hf)]) rfl rfl ?_;replace hg:JI F hf=some r:=hg;unfold JI at hg;refine AV (AA (Af (wm rfl (WL.freeze (i:=0) rfl (WL.up (d:=27) (r:=AD 4 (A1 Ab hf)) rfl (Up.fact (i:=0) rfl) (ob hg λh9 hA hB=>BQ Tryz.call71 (HQ F hf h9 hA) rfl (wv (A7 rfl rfl) (wv (A7 rfl rfl) (wa rfl (wa rfl (Ak (Ap ?_))))))))))));obtain rfl:=An hB;exact Ao (Du Tryz.results47 (A6 rfl) (A6 rfl)) (sS sN) ⟨rfl,rfl⟩
end Go.Proofs.YtghdglcmblpbeaaGreatDoor.Q
namespace Go.Proofs.YtghdglcmblpbeaaGreatDoor
open Go
set_option linter.unusedVariables false
def IS (s:Au)(ha:Int)(hb:Au):Option (Stp (Int×Au) (Out (Au) (Au))):=
 AR (decide (ha<(s.length:Int))) (AX (C0 ha (s.length:Int))<|AR (((decide ((Ck s ha)=34))||(decide ((Ck s ha)=92)))) (AX (E7 1 (hb.length+1))<|AX (BF .u8 92)<|KA (hb++[UInt8.ofNat (Int.toNat 92)]) λhe=>AX (E7 1 (he.length+1))<|AX (BF .u8 (Ck s ha))<|KA (he++[UInt8.ofNat (Int.toNat (Ck s ha))]) λhf=>AX (BF .i64 (ha+1))<|some (.next (ha+1,hf))) (AX (E7 1 (hb.length+1))<|AX (BF .u8 (Ck s ha))<|KA (hb++[UInt8.ofNat (Int.toNat (Ck s ha))]) λhg=>AX (BF .i64 (ha+1))<|some (.next (ha+1,hg)))) (some (.out (.go hb)))
def IR (ha:Au):Option (Au):=
 AX (E7 1 (ha.length+1))<|KA (ha++[UInt8.ofNat (Int.toNat 34)]) λhb=>some hb
def Mq (F:Nat)(l:Au)(s:Au):Option (Au):=
 AX (E7 1 (l.length+1))<|AX (BF .u8 34)<|KA (l++[UInt8.ofNat (Int.toNat 34)]) λr6=>Bh (BP (λσ=>IS s σ.1 σ.2) F (0,r6)) (BI λν=>IR ν)
def NS (F:Nat)(hn:Au→(List Aa)→Bool→Au→Aa→Option (Bool×Bool×Au))(ha:(List Aa)→Bool→Au→Aa→Option (Bool×Au))(l:Au)(v:(List Aa)):Option (Au):=
 AX (C0 0 (v.length:Int))<|AR (decide (((Ay v 0).fKind)=1)) (AX (E7 1 (l.length+([110,117,108,108]:Au).length))<|KA (l++([110,117,108,108]:Au)) λhf=>some hf) (AR (decide (((Ay v 0).fKind)=2)) (AX (C0 ((Ay v 0).fInt) (([([102,97,108,115,101]:Au),([116,114,117,101]:Au)]:List Au).length:Int))<|AX (E7 1 (l.length+(Ay ([([102,97,108,115,101]:Au),([116,114,117,101]:Au)]:List Au) ((Ay v 0).fInt)).length))<|KA (l++(Ay ([([102,97,108,115,101]:Au),([116,114,117,101]:Au)]:List Au) ((Ay v 0).fInt))) λhg=>some hg) (AR (decide (((Ay v 0).fKind)=3)) (AX (BF .i64 ((Ay v 0).fInt))<|AX (E7 1 (l.length+(Lib.itoa ((Ay v 0).fInt)).length))<|KA (l++(Lib.itoa ((Ay v 0).fInt))) λhh=>some hh) (AR (decide (((Ay v 0).fKind)=4)) (Bh (Mq F l ((Ay v 0).fStr)) λhi=>some hi) (AR (decide (((Ay v 0).fKind)=6)) (AX (C0 0 (([123,125]:Au).length:Int))<|AX (E7 1 (l.length+1))<|AX (BF .u8 (Ck ([123,125]:Au) 0))<|KA (l++[UInt8.ofNat (Int.toNat (Ck ([123,125]:Au) 0))]) λhj=>Bh (ha v true hj (Ay v 0)) λhb=>AX (C0 1 (([123,125]:Au).length:Int))<|AX (E7 1 (hb.2.length+1))<|AX (BF .u8 (Ck ([123,125]:Au) 1))<|KA (hb.2++[UInt8.ofNat (Int.toNat (Ck ([123,125]:Au) 1))]) λhk=>some hk) (AX (C0 0 (([91,93]:Au).length:Int))<|AX (E7 1 (l.length+1))<|AX (BF .u8 (Ck ([91,93]:Au) 0))<|KA (l++[UInt8.ofNat (Int.toNat (Ck ([91,93]:Au) 0))]) λhl=>Bh (ha v true hl (Ay v 0)) λhe=>AX (C0 1 (([91,93]:Au).length:Int))<|AX (E7 1 (he.2.length+1))<|AX (BF .u8 (Ck ([91,93]:Au) 1))<|KA (he.2++[UInt8.ofNat (Int.toNat (Ck ([91,93]:Au) 1))]) λhm=>some hm)))))
def Mi (F:Nat)(ha:Au→(List Aa)→Option (Au))(key:Au)(x:(List Aa))(first:Bool)(l:Au)(c:Aa):Option (Bool×Bool×Au):=
 AR (!first) (AX (E7 1 (l.length+1))<|AX (BF .u8 44)<|KA (l++[UInt8.ofNat (Int.toNat 44)]) λr8=>AR (decide (c.fKind=6)) (Bh (Mq F r8 key) λhb=>AX (E7 1 (hb.length+1))<|AX (BF .u8 58)<|KA (hb++[UInt8.ofNat (Int.toNat 58)]) λhf=>Bh (ha hf x) λhg=>some (true,false,hg)) (Bh (ha r8 x) λhh=>some (true,false,hh))) (AR (decide (c.fKind=6)) (Bh (Mq F l key) λhe=>AX (E7 1 (he.length+1))<|AX (BF .u8 58)<|KA (he++[UInt8.ofNat (Int.toNat 58)]) λhi=>Bh (ha hi x) λhj=>some (true,false,hj)) (Bh (ha l x) λhk=>some (true,false,hk)))
def HI (F:Nat)(v:(List Aa))(c:Aa)(hk:Au→(List Aa)→Bool→Au→Aa→Option (Bool×Bool×Au))(ha:Int)(hb:Int)(hi:Bool)(hj:Au):Option (Stp (Int×Int×Bool×Au) (Out (Bool×Au) (Bool×Au))):=
 AR (decide (hb<((Ay v 0).fN))) (AR (decide (((Ay v 0).fKind)=6)) (AX (C0 ha (v.length:Int))<|AX (BF .i64 (ha+1))<|AX (ES (ha+1) (v.length:Int))<|Bh (E3 F (List.drop (Int.toNat (ha+1)) v)) λhe=>AX (BF .i64 ((ha+1)+he.1))<|AX (ES (ha+1) ((ha+1)+he.1))<|AX (ES ((ha+1)+he.1) (v.length:Int))<|Bh (hk ((Ay v ha).fStr) (List.take (Int.toNat ((ha+1)+he.1)-Int.toNat (ha+1)) (List.drop (Int.toNat (ha+1)) v)) hi hj c) λhf=>AR (!hf.1) (some (.out (.ret (hf.2.1,hf.2.2)))) (AX (BF .i64 (hb+1))<|some (.next ((ha+1)+he.1,hb+1,hf.2.1,hf.2.2)))) (AX (ES ha (v.length:Int))<|Bh (E3 F (List.drop (Int.toNat ha) v)) λhg=>AX (BF .i64 (ha+hg.1))<|AX (ES ha (ha+hg.1))<|AX (ES (ha+hg.1) (v.length:Int))<|Bh (hk ([]:Au) (List.take (Int.toNat (ha+hg.1)-Int.toNat ha) (List.drop (Int.toNat ha) v)) hi hj c) λhh=>AR (!hh.1) (some (.out (.ret (hh.2.1,hh.2.2)))) (AX (BF .i64 (hb+1))<|some (.next (ha+hg.1,hb+1,hh.2.1,hh.2.2))))) (some (.out (.go (hi,hj))))
def HH (ha:Bool)(hb:Au):Option (Bool×Au):=
 some (ha,hb)
def Mh (F:Nat)(ha:Au→(List Aa)→Bool→Au→Aa→Option (Bool×Bool×Au))(v:(List Aa))(first:Bool)(l:Au)(c:Aa):Option (Bool×Au):=
 AX (C0 0 (v.length:Int))<|Bh (BP (λσ=>HI F v c ha σ.1 σ.2.1 σ.2.2.1 σ.2.2.2) F (1,0,first,l)) (BI λν=>HH ν.1 ν.2)
mutual
def Js:Nat→Au→(List Aa)→Option (Au)
 | 0,_,_=>none
 | nn+1,l,v=>NS nn (HJ nn) (JB nn) l v
def HJ:Nat→Au→(List Aa)→Bool→Au→Aa→Option (Bool×Bool×Au)
 | 0,_,_,_,_,_=>none
 | nn+1,key,x,first,l,c=>Mi nn (Js nn) key x first l c
def JB:Nat→(List Aa)→Bool→Au→Aa→Option (Bool×Au)
 | 0,_,_,_,_=>none
 | nn+1,v,first,l,c=>Mh nn (HJ nn) v first l c
end
def NV (F:Nat)(v:(List Aa)):Option (Au×Int):=
 Bh (Dp F v) λr1=>AR (!decide (r1=0)) (some (([]:Au),r1)) (Bh (Js F ([]:Au) v) λr8=>AX (decide (0<r8.length))<|some (r8,0))
end Go.Proofs.YtghdglcmblpbeaaGreatDoor
namespace Go.Proofs.YtghdglcmblpbeaaGreatDoor.Q
open Go Go.RowKit
set_option linter.unusedVariables false
set_option linter.unusedSimpArgs false
set_option maxRecDepth 100000
set_option maxHeartbeats 4000000
theorem Mp (F:Nat)(ha:Nat)(hl:Value)(l:Au)(s:Au)(r:Au)(h:Mq F l s=some r):Fn Tryz.prog GE 114 [rP ha 0,rS s] [.bld 101 5 ha hl l] (λR H=>∃w0b:Value,R=rv (.tuple #[])∧H=[.bld 101 5 ha w0b r]):=by
 refine enter (n:=32) Tryz.func114 rfl Tryz.ntmps114 rfl (λw Z=>?_);unfold Mq at h;refine Af (wm rfl (ck h λg1 h2=>ck h2 λg3 h4=>CJ (rs:=[rP ha 0,rI .u8 34]) (Hin:=[.bld 101 5 ha hl l]) (Hr:=[]) In rfl (XT _) (C6 ha hl l 34 g1 g3) rfl ?_));rintro _ _ ⟨v5,rfl,rfl⟩;refine bd h4 λr6 e8 h7=>?_;rw[← e8];refine Ak (Am (Af (wm rfl (wv (BM D2 rfl) (wv (r:=Al 0) (A2 rfl) (Ak (A5 (ob h7 λhr hs ht=>Bc (S:=Nat×(Int×Au)×(Value)) (V:=(Au)×(Value)) 0 (λσ=>BP (λσ=>IS s σ.1 σ.2) σ.1 σ.2.1=some hr) (λσ=>[(0,rP ha 0),(1,rS s),(8,Al (s.length:Int)),(9,Al σ.2.1.1)]) (λσ=>[.bld 101 5 ha σ.2.2 σ.2.1.2]) (λσ=>σ.1) (F,(0,r6),v5) hs (Az.c rfl (Az.c rfl (Az.c rfl (Az.c rfl Az.nil)))) (sC sN) (λσ=>IR σ.1=some r) (λσ=>[(0,rP ha 0)]) (λσ=>[.bld 101 5 ha σ.2 σ.1]) ?_ ?_))))))))
 ·rintro⟨gg,⟨hb,hf⟩,hg⟩ hu;refine Bu (l':=[(0,rP ha 0),(1,rS s),(8,Al (s.length:Int)),(9,Al hb)]) (H':=[.bld 101 5 ha hg hf]) rfl rfl ?_;obtain⟨ho,rfl,t127,hh,hm⟩:=BK hu;replace hh:IS s hb hf=some t127:=hh;unfold IS at hh;refine Af (wv (Cc rfl rfl) (Ak (Am (cz hh rfl (λhw hx=>?_) (λhw hy=>?_)))))
  ·refine Aq (AA (Am (A5 (Af (wm rfl (wa rfl (Ak (Am (ck hx λhi hz=>AC [(0,rP ha 0),(1,rS s),(4,Al hb),(8,Al (s.length:Int)),(9,Al hb),(21,rB ((decide ((Ck s hb)=34))||(decide ((Ck s hb)=92))))] [.bld 101 5 ha hg hf] ?_ ?_)))))))))
   ·refine Aj (wm rfl (wm rfl (wv (BC D2 rfl rfl hi) (wv (Be rfl rfl) (wm rfl (AN (decide ((Ck s hb)=34)) (λhe=>?_) (λhe=>?_)))))))
    ·refine wf he (wf he (wf he (wf he (wv (r:=rB true) (Ax rfl he rfl) (Ai ?_)))));exact BG he
    ·refine wo he (wm rfl (wo he (wm rfl (wo he (wv (BC D2 rfl rfl hi) (wo he (wv (Be rfl rfl) (Cm rfl he rfl (Ai ?_)))))))));exact BG he
   refine cz hz rfl (λh0 h1=>?_) (λh0 h3=>?_)
   ·refine Aj (wm rfl (ck h1 λh5 h6=>ck h6 λh8 h9=>CJ (rs:=[rP ha 0,rI .u8 92]) (Hin:=[.bld 101 5 ha hg hf]) (Hr:=[]) In rfl (XT _) (C6 ha hg hf 92 h5 h8) rfl ?_));rintro _ _ ⟨hp,rfl,rfl⟩;refine bd h9 λhq hA hB=>?_;rw[← hA];refine Ak (Aj (wm rfl (wm rfl (wm rfl (wv (BC D2 rfl rfl hi) (ck hB λhC hD=>ck hD λhE hG=>CJ (rs:=[rP ha 0,rI .u8 (Ck s hb)]) (Hin:=[.bld 101 5 ha hp hq]) (Hr:=[]) In rfl (XT _) (C6 ha hp hq (Ck s hb) hC hE) rfl ?_))))));rintro _ _ ⟨hH,rfl,rfl⟩;refine bd hG λhI hJ hK=>?_;rw[← hJ];refine Ai (A3 (AA (Aj (ck hK λhL hN=>wv (Bd rfl rfl hL) (wm rfl (Ai ?_))))));have hO:=AW hN hm;exact Av (Ar (ho,(hb+1,hI),hH) ⟨hO,XX _⟩ (Az.c rfl (Az.c rfl (Az.c rfl (Az.c rfl Az.nil)))) (sC sN))
   ·refine Aq (AA (Aj (wm rfl (wm rfl (wm rfl (wv (BC D2 rfl rfl hi) (ck h3 λhP hQ=>ck hQ λhR hS=>CJ (rs:=[rP ha 0,rI .u8 (Ck s hb)]) (Hin:=[.bld 101 5 ha hg hf]) (Hr:=[]) In rfl (XT _) (C6 ha hg hf (Ck s hb) hP hR) rfl ?_)))))));rintro _ _ ⟨hT,rfl,rfl⟩;refine bd hS λhU hV hW=>?_;rw[← hV];refine Ai (A3 (AA (Aj (ck hW λhX hY=>wv (Bd rfl rfl hX) (wm rfl (Ai ?_))))));have hZ:=AW hY hm;exact Av (Ar (ho,(hb+1,hU),hT) ⟨hZ,XX _⟩ (Az.c rfl (Az.c rfl (Az.c rfl (Az.c rfl Az.nil)))) (sC sN))
  ·refine Bi (Aw ?_);have ga:=Bx hy hm ht;exact Aw (AS (Ar (hf,hg) ga (Az.c rfl Az.nil) (sC sN)))
 ·rintro⟨hj,hn⟩ hk;refine BS (l':=[(0,rP ha 0)]) (H':=[.bld 101 5 ha hn hj]) rfl rfl ?_;replace hk:IR hj=some r:=hk;unfold IR at hk;refine AV (AA (Aj (wm rfl (ck hk λgb gc=>CJ (rs:=[rP ha 0,rI .u8 34]) (Hin:=[.bld 101 5 ha hn hj]) (Hr:=[]) In rfl (XT _) (C6 ha hn hj 34 gb g3) rfl ?_))));rintro _ _ ⟨gd,rfl,rfl⟩;refine bd gc λgh ge gf=>?_;rw[← ge];refine Ai ?_;obtain rfl:=An gf;exact E4 (Oa Tryz.results114) (sC sN) ⟨gd,rfl,rfl⟩
theorem RE (F:Nat)(hm:Au→(List Aa)→Bool→Au→Aa→Option (Bool×Bool×Au))(hn:(List Aa)→Bool→Au→Aa→Option (Bool×Au))(g9:(∀(he:Nat) (hf:Nat) (ha:Nat) (hb:Value) (hg:Nat) (key:Au) (x:(List Aa)) (first:Bool) (l:Au) (c:Aa) (r:Bool×Bool×Au),hm key x first l c=some r→Fn Tryz.prog GE 116 [rS key,AD 4 (A1 Ab x),rP he 0,rP hf 0,rP hg 0] [.blk he [rB first] 4,.blk hf [rP ha 0] 98,.bld 101 5 ha hb l,.blk hg (Ab c) 54] (λR H=>∃w3b:Value,R=rB r.1∧H=[.blk he [rB r.2.1] 4,.blk hf [rP ha 0] 98,.bld 101 5 ha w3b r.2.2,.blk hg (Ab c) 54])))(ho:(∀(he:Nat) (hf:Nat) (ha:Nat) (hb:Value) (hg:Nat) (v:(List Aa)) (first:Bool) (l:Au) (c:Aa) (r:Bool×Au),hn v first l c=some r→Fn Tryz.prog GE 90 [AD 4 (A1 Ab v),rv (.func (.func 116) #[] #[(.pointer (some ⟨he,0,none⟩)),(.pointer (some ⟨hf,0,none⟩)),(.pointer (some ⟨hg,0,none⟩))])] [.blk he [rB first] 4,.blk hf [rP ha 0] 98,.bld 101 5 ha hb l,.blk hg (Ab c) 54] (λR H=>∃w1_1b:Value,R=rv (.tuple #[])∧H=[.blk he [rB r.1] 4,.blk hf [rP ha 0] 98,.bld 101 5 ha w1_1b r.2,.blk hg (Ab c) 54])))(ha:Nat)(hb:Value)(l:Au)(v:(List Aa))(r:Au)(h:NS F hm hn l v=some r):Fn Tryz.prog GE 87 [rP ha 0,AD 4 (A1 Ab v)] [.bld 101 5 ha hb l] (λR H=>∃w0b:Value,R=rv (.tuple #[])∧H=[.bld 101 5 ha w0b r]):=by
 refine enter (n:=52) Tryz.func87 rfl Tryz.ntmps87 rfl (λw Z=>?_);unfold NS at h;refine Af (Lq rfl (BO rfl) rfl (λb1=>?_));refine Bb (wm rfl (ck h λg2 h3=>wv (AT (enc:=Ab) (ys:=v) Bp By rfl rfl g2) (wv (C5 Jh By rfl rfl rfl) (Cf (cs:=[Al 0,Al 0,rS ([]:Au),Al 0]) GT rfl rfl (λb4=>?_)))));refine Bj (i:=0) By rfl rfl rfl (BR.c rfl) rfl rfl (cs':=[Al ((Ay v 0).fKind),Al ((Ay v 0).fInt),rS ((Ay v 0).fStr),Al ((Ay v 0).fN)]) rfl (H':=[.blk b4 (Ab (Ay v 0)) 54,.blk b1 [rP ha 0] 98,.bld 101 5 ha hb l]) rfl (Bb (vF Bl rfl C8 (vL 0 CF rfl (Ak (A5 (Af (wv (Be rfl rfl) (wa rfl (Ak (cz h3 rfl (λc5 h6=>?_) (λc5 hs=>?_)))))))))))
 ·refine Aj (vL 1 Hh rfl (ck h6 λg7 h8=>CJ (rs:=[rP ha 0,rS ([110,117,108,108]:Au)]) (Hin:=[.bld 101 5 ha hb l]) (Hr:=[.blk b4 (Ab (Ay v 0)) 54,.blk b1 [rP ha 0] 98]) Tryz.call112 rfl ((A4 (i:=2) rfl).trans (XV _ (XT _))) (GU ha hb l ([110,117,108,108]:Au) g7) rfl ?_));rintro _ _ ⟨v9,rfl,rfl⟩;refine bd h8 λgA ht hu=>?_;rw[← ht];refine Ai (A3 ?_);obtain rfl:=An hu;exact E4 (Oa R7) (sC (sS (sS sN))) ⟨v9,rfl,rfl⟩
 ·refine Af (wv (Be rfl rfl) (wa rfl (Ak (cz hs rfl (λhw hx=>?_) (λhw hy=>?_)))))
  ·refine ck hx λg16 hz=>IP (H1:=[.blk b4 (Ab (Ay v 0)) 54,.blk b1 [rP ha 0] 98,.bld 101 5 ha hb l]) 6 [2,4] [⟨[],rP ha 0,1⟩,⟨[],AD 1 (A1 eS ([([102,97,108,115,101]:Au),([116,114,117,101]:Au)]:List Au)),0⟩,⟨[],rP b4 1,0⟩,⟨[2],Al ((Ay v 0).fInt),1⟩,⟨[1,3],J4 [rS (Ay ([([102,97,108,115,101]:Au),([116,114,117,101]:Au)]:List Au) ((Ay v 0).fInt))],0⟩,⟨[4],rS (Ay ([([102,97,108,115,101]:Au),([116,114,117,101]:Au)]:List Au) ((Ay v 0).fInt)),0⟩] (rle [(7,_)]) [32,33,34,35,36,37,2,4] ?_ ?_
   ·refine of (Bn (i:=1) Hh rfl rfl rfl) (Cz rfl (λH=>GW (ys:=([([102,97,108,115,101]:Au),([116,114,117,101]:Au)]:List Au)) (enc:=eS) (css:=[[rS ([102,97,108,115,101]:Au)],[rS ([116,114,117,101]:Au)]]) (xs:=[.const (.string ⟨#[102,97,108,115,101]⟩),.const (.string ⟨#[116,114,117,101]⟩)]) CW CE VQ rfl rfl rfl ⟨E1.one rfl (Up.refl _),E1.one rfl (Up.refl _),trivial⟩ rfl Ha rfl rfl) ?_);refine oq (AG Bl rfl BB rfl rfl) (of (Bn (i:=0) BL rfl rfl rfl) (oq (AT (enc:=eS) (ys:=([([102,97,108,115,101]:Au),([116,114,117,101]:Au)]:List Au)) CW CE rfl rfl g16) (oq (AH CI rfl rfl) ?_)));exact Cj
   refine ck hz λg18 h0=>CJ (rs:=[rP ha 0,rS (Ay ([([102,97,108,115,101]:Au),([116,114,117,101]:Au)]:List Au) ((Ay v 0).fInt))]) (Hin:=[.bld 101 5 ha hb l]) (Hr:=[.blk b4 (Ab (Ay v 0)) 54,.blk b1 [rP ha 0] 98]) Tryz.call112 rfl ((A4 (i:=2) rfl).trans (XV _ (XT _))) (GU ha hb l (Ay ([([102,97,108,115,101]:Au),([116,114,117,101]:Au)]:List Au) ((Ay v 0).fInt)) g18) rfl ?_;rintro _ _ ⟨v20,rfl,rfl⟩;refine bd h0 λgB h1 h2=>?_;rw[← h1];refine Ai (A3 ?_);obtain rfl:=An h2;exact E4 (Oa R7) (sC (sS (sS sN))) ⟨v20,rfl,rfl⟩
  ·refine Af (wv (Be rfl rfl) (wa rfl (Ak (cz hy rfl (λh4 h5=>?_) (λh4 h7=>?_)))))
   ·refine ck h5 λh9 hA=>IP (H1:=[.blk b4 (Ab (Ay v 0)) 54,.blk b1 [rP ha 0] 98,.bld 101 5 ha hb l]) 4 [2,4] [⟨[],rP ha 0,1⟩,⟨[],rP b4 1,0⟩,⟨[1],Al ((Ay v 0).fInt),1⟩,⟨[2],rS (Lib.itoa ((Ay v 0).fInt)),0⟩] (rle [(5,_)]) [41,42,43,44,2,4] ?_ ?_
    ·refine of (Bn (i:=1) Hh rfl rfl rfl) (oq (AG Bl rfl BB rfl rfl) (of (Bn (i:=0) BL rfl rfl rfl) (Cz rfl (λH=>Kb (rs:=[Al ((Ay v 0).fInt)]) (r:=rS (Lib.itoa ((Ay v 0).fInt))) Tryz.call113 rfl (PB ((Ay v 0).fInt) h9) rfl) ?_)));exact Cj
    refine ck hA λhB hC=>CJ (rs:=[rP ha 0,rS (Lib.itoa ((Ay v 0).fInt))]) (Hin:=[.bld 101 5 ha hb l]) (Hr:=[.blk b4 (Ab (Ay v 0)) 54,.blk b1 [rP ha 0] 98]) Tryz.call112 rfl ((A4 (i:=2) rfl).trans (XV _ (XT _))) (GU ha hb l (Lib.itoa ((Ay v 0).fInt)) hB) rfl ?_;rintro _ _ ⟨hD,rfl,rfl⟩;refine bd hC λgC hE hG=>?_;rw[← hE];refine Ai (A3 ?_);obtain rfl:=An hG;exact E4 (Oa R7) (sC (sS (sS sN))) ⟨hD,rfl,rfl⟩
   ·refine Af (wv (Be rfl rfl) (wa rfl (Ak (cz h7 rfl (λhH hI=>?_) (λhH hJ=>?_)))))
    ·refine Aj (vL 1 Hh rfl (vF Bl rfl CE (vL 0 CI rfl (ob hI λhK hL hN=>DP (Hr:=[.blk b4 (Ab (Ay v 0)) 54,.blk b1 [rP ha 0] 98]) Tryz.call114 (Mp F ha hb l ((Ay v 0).fStr) hK hL) rfl ((A4 (i:=2) rfl).trans (XV _ (XT _))) rfl ?_))));rintro _ _ ⟨hO,rfl,rfl⟩;refine Ai (A3 ?_);obtain rfl:=An hN;exact E4 (Oa R7) (sC (sS (sS sN))) ⟨hO,rfl,rfl⟩
    ·refine Af (wv (r:=rS ([91,93]:Au)) (AE rfl) (Ak (Am (Af (vF Bl rfl C8 (vL 0 CF rfl (wv (Be rfl rfl) (Ak (cz hJ rfl (λhP hQ=>?_) (λhP hR=>?_))))))))))
     ·refine Aj (wv (r:=rS ([123,125]:Au)) (AE rfl) (Ak (Am (ck hQ λhS hT=>IP (H1:=[.blk b4 (Ab (Ay v 0)) 54,.blk b1 [rP ha 0] 98,.bld 101 5 ha hb l]) 3 [1,2,4,5] [⟨[],rP ha 0,1⟩,⟨[],rS ([123,125]:Au),0⟩,⟨[1],rI .u8 (Ck ([123,125]:Au) 0),0⟩] (rle [(4,_)]) [15,16,17,1,2,4,5] ?_ ?_))))
      ·refine of (Bn (i:=1) Hh rfl rfl rfl) (oq (A2 rfl) (oq (BC D2 rfl rfl hS) ?_));exact Cj
      refine ck hT λhU hV=>ck hV λhW hX=>CJ (rs:=[rP ha 0,rI .u8 (Ck ([123,125]:Au) 0)]) (Hin:=[.bld 101 5 ha hb l]) (Hr:=[.blk b4 (Ab (Ay v 0)) 54,.blk b1 [rP ha 0] 98]) In rfl ((A4 (i:=2) rfl).trans (XV _ (XT _))) (C6 ha hb l (Ck ([123,125]:Au) 0) hU hW) rfl ?_;rintro _ _ ⟨v51,rfl,rfl⟩;refine bd hX λhp hY hZ=>?_;rw[← hY];refine Bb (Cf (cs:=[rB false]) Tryz.zeroValue4 rfl rfl (λhj=>?_));refine BA (i:=0) HD rfl rfl (BO rfl) rfl rfl (cs':=[rB true]) rfl (H':=[.blk hj [rB true] 4,.bld 101 5 ha v51 hp,.blk b4 (Ab (Ay v 0)) 54,.blk b1 [rP ha 0] 98]) rfl (Bb (wm rfl (wv (r:=rv (.func (.func 116) #[] #[(.pointer (some ⟨hj,0,none⟩)),(.pointer (some ⟨b1,0,none⟩)),(.pointer (some ⟨b4,0,none⟩))])) (BZ rfl) (ob hZ λhh ga gb=>DP (Hr:=[]) Tryz.call90 (ho hj b1 ha v51 b4 v true hp (Ay v 0) hh ga) rfl ((A4 (i:=0) rfl).trans (XV _ ((A4 (i:=2) rfl).trans (XV _ (XT _))))) rfl ?_))));rintro _ _ ⟨hl,rfl,rfl⟩;refine Ak (ck gb λgc gd=>IP (H1:=[.blk hj [rB hh.1] 4,.blk b1 [rP ha 0] 98,.bld 101 5 ha hl hh.2,.blk b4 (Ab (Ay v 0)) 54]) 3 [2,5] [⟨[],rP ha 0,1⟩,⟨[],rS ([123,125]:Au),0⟩,⟨[1],rI .u8 (Ck ([123,125]:Au) 1),0⟩] (rle [(4,_)]) [22,23,24,2,5] ?_ ?_)
      ·refine of (Bn (i:=1) Hh rfl rfl rfl) (oq (A2 rfl) (oq (BC D2 rfl rfl gc) ?_));exact Cj
      refine ck gd λge gf=>ck gf λgg gh=>CJ (rs:=[rP ha 0,rI .u8 (Ck ([123,125]:Au) 1)]) (Hin:=[.bld 101 5 ha hl hh.2]) (Hr:=[.blk hj [rB hh.1] 4,.blk b1 [rP ha 0] 98,.blk b4 (Ab (Ay v 0)) 54]) In rfl ((A4 (i:=2) rfl).trans (XV _ (XT _))) (C6 ha hl hh.2 (Ck ([123,125]:Au) 1) ge gg) rfl ?_;rintro _ _ ⟨gi,rfl,rfl⟩;refine bd gh λgD gj gl=>?_;rw[← gj];refine Ai (A3 ?_);obtain rfl:=An gl;exact E4 (Oa R7) (sC (sS (sS (sS sN)))) ⟨gi,rfl,rfl⟩
     ·refine Aq (AA (Am (ck hR λgm gp=>IP (H1:=[.blk b4 (Ab (Ay v 0)) 54,.blk b1 [rP ha 0] 98,.bld 101 5 ha hb l]) 3 [1,2,4,5] [⟨[],rP ha 0,1⟩,⟨[],rS ([91,93]:Au),0⟩,⟨[1],rI .u8 (Ck ([91,93]:Au) 0),0⟩] (rle [(4,_)]) [15,16,17,1,2,4,5] ?_ ?_)))
      ·refine of (Bn (i:=1) Hh rfl rfl rfl) (oq (A2 rfl) (oq (BC D2 rfl rfl gm) ?_));exact Cj
      refine ck gp λgq gr=>ck gr λgs gt=>CJ (rs:=[rP ha 0,rI .u8 (Ck ([91,93]:Au) 0)]) (Hin:=[.bld 101 5 ha hb l]) (Hr:=[.blk b4 (Ab (Ay v 0)) 54,.blk b1 [rP ha 0] 98]) In rfl ((A4 (i:=2) rfl).trans (XV _ (XT _))) (C6 ha hb l (Ck ([91,93]:Au) 0) gq gs) rfl ?_;rintro _ _ ⟨hq,rfl,rfl⟩;refine bd gt λhr gu gv=>?_;rw[← gu];refine Bb (Cf (cs:=[rB false]) Tryz.zeroValue4 rfl rfl (λhk=>?_));refine BA (i:=0) HD rfl rfl (BO rfl) rfl rfl (cs':=[rB true]) rfl (H':=[.blk hk [rB true] 4,.bld 101 5 ha hq hr,.blk b4 (Ab (Ay v 0)) 54,.blk b1 [rP ha 0] 98]) rfl (Bb (wm rfl (wv (r:=rv (.func (.func 116) #[] #[(.pointer (some ⟨hk,0,none⟩)),(.pointer (some ⟨b1,0,none⟩)),(.pointer (some ⟨b4,0,none⟩))])) (BZ rfl) (ob gv λhi gw gx=>DP (Hr:=[]) Tryz.call90 (ho hk b1 ha hq b4 v true hr (Ay v 0) hi gw) rfl ((A4 (i:=0) rfl).trans (XV _ ((A4 (i:=2) rfl).trans (XV _ (XT _))))) rfl ?_))));rintro _ _ ⟨v85,rfl,rfl⟩;refine Ak (ck gx λgy gz=>IP (H1:=[.blk hk [rB hi.1] 4,.blk b1 [rP ha 0] 98,.bld 101 5 ha v85 hi.2,.blk b4 (Ab (Ay v 0)) 54]) 3 [2,5] [⟨[],rP ha 0,1⟩,⟨[],rS ([91,93]:Au),0⟩,⟨[1],rI .u8 (Ck ([91,93]:Au) 1),0⟩] (rle [(4,_)]) [22,23,24,2,5] ?_ ?_)
      ·refine of (Bn (i:=1) Hh rfl rfl rfl) (oq (A2 rfl) (oq (BC D2 rfl rfl gy) ?_));exact Cj
      refine ck gz λg0 g1=>ck g1 λg3 g4=>CJ (rs:=[rP ha 0,rI .u8 (Ck ([91,93]:Au) 1)]) (Hin:=[.bld 101 5 ha v85 hi.2]) (Hr:=[.blk hk [rB hi.1] 4,.blk b1 [rP ha 0] 98,.blk b4 (Ab (Ay v 0)) 54]) In rfl ((A4 (i:=2) rfl).trans (XV _ (XT _))) (C6 ha v85 hi.2 (Ck ([91,93]:Au) 1) g0 g3) rfl ?_;rintro _ _ ⟨g5,rfl,rfl⟩;refine bd g4 λgE g6 g8=>?_;rw[← g6];refine Ai (A3 ?_);obtain rfl:=An g8;exact E4 (Oa R7) (sC (sS (sS (sS sN)))) ⟨g5,rfl,rfl⟩
theorem Qg (F:Nat)(hk:Au→(List Aa)→Option (Au))(hh:(∀(ha:Nat) (hg:Value) (l:Au) (v:(List Aa)) (r:Au),hk l v=some r→Fn Tryz.prog GE 87 [rP ha 0,AD 4 (A1 Ab v)] [.bld 101 5 ha hg l] (λR H=>∃w0b:Value,R=rv (.tuple #[])∧H=[.bld 101 5 ha w0b r])))(hb:Nat)(he:Nat)(ha:Nat)(hg:Value)(hf:Nat)(key:Au)(x:(List Aa))(first:Bool)(l:Au)(c:Aa)(r:Bool×Bool×Au)(h:Mi F hk key x first l c=some r):Fn Tryz.prog GE 116 [rS key,AD 4 (A1 Ab x),rP hb 0,rP he 0,rP hf 0] [.blk hb [rB first] 4,.blk he [rP ha 0] 98,.bld 101 5 ha hg l,.blk hf (Ab c) 54] (λR H=>∃w3b:Value,R=rB r.1∧H=[.blk hb [rB r.2.1] 4,.blk he [rP ha 0] 98,.bld 101 5 ha w3b r.2.2,.blk hf (Ab c) 54]):=by
 refine enter (n:=23) Tryz.func116 rfl Tryz.ntmps116 rfl (λw Z=>?_);unfold Mi at h;refine Af (wa rfl (Ak (Am (Af (vL 0 SI rfl (wv (B4 rfl) (Ak (cz h rfl (λc1 h2=>?_) (λc1 hw=>?_)))))))))
 ·refine Aj (vL 1 Hh rfl (ck h2 λg3 h4=>ck h4 λg5 h6=>CJ (rs:=[rP ha 0,rI .u8 44]) (Hin:=[.bld 101 5 ha hg l]) (Hr:=[.blk hb [rB first] 4,.blk he [rP ha 0] 98,.blk hf (Ab c) 54]) In rfl ((A4 (i:=2) rfl).trans (XV _ (XT _))) (C6 ha hg l 44 g3 g5) rfl ?_));rintro _ _ ⟨v7,rfl,rfl⟩;refine bd h6 λr8 hx h9=>?_;rw[← hx];refine Bb (BA (i:=1) HD rfl rfl (BO rfl) rfl rfl (cs':=[rB false]) rfl (H':=[.bld 101 5 ha v7 r8,.blk hb [rB false] 4,.blk he [rP ha 0] 98,.blk hf (Ab c) 54]) rfl (Ak (Am (Af (vF Bl rfl C8 (vL 3 CF rfl (wv (Be rfl rfl) (Ak (cz h9 rfl (λhy hz=>?_) (λhy h0=>?_))))))))))
  ·refine Af (vL 2 Hh rfl (wm rfl (ob hz λhi h1 h3=>DP (Hr:=[.blk hb [rB false] 4,.blk he [rP ha 0] 98,.blk hf (Ab c) 54]) Tryz.call114 (Mp F ha v7 r8 key hi h1) rfl (XT _) rfl ?_)));rintro _ _ ⟨hl,rfl,rfl⟩;refine Ak (Aj (vL 2 Hh rfl (ck h3 λg17 h5=>ck h5 λg19 h7=>CJ (rs:=[rP ha 0,rI .u8 58]) (Hin:=[.bld 101 5 ha hl hi]) (Hr:=[.blk hb [rB false] 4,.blk he [rP ha 0] 98,.blk hf (Ab c) 54]) In rfl (XT _) (C6 ha hl hi 58 g17 g19) rfl ?_)));rintro _ _ ⟨v21,rfl,rfl⟩;refine bd h7 λh8 hA hB=>?_;rw[← hA];refine Bb (vL 2 Hh rfl (wm rfl (ob hB λhm hC hD=>DP (Hr:=[.blk hb [rB false] 4,.blk he [rP ha 0] 98,.blk hf (Ab c) 54]) SU (hh ha v21 h8 x hm hC) rfl (XT _) rfl ?_)));rintro _ _ ⟨hn,rfl,rfl⟩;refine Bb (wa rfl (Ak (Ap (CB (H2:=[.blk hb [rB false] 4,.blk he [rP ha 0] 98,.bld 101 5 ha hn hm,.blk hf (Ab c) 54]) ((A4 (i:=1) rfl).trans (XV _ ((A4 (i:=1) rfl).trans (XV _ (XT _))))) ?_))));obtain rfl:=An hD;exact Ao (Bq QS (A6 rfl)) (sC (sC (sC (sC sN)))) ⟨hn,rfl,rfl⟩
  ·refine Aq (AA (Af (vL 2 Hh rfl (wm rfl (ob h0 λho hE hG=>DP (Hr:=[.blk hb [rB false] 4,.blk he [rP ha 0] 98,.blk hf (Ab c) 54]) SU (hh ha v7 r8 x ho hE) rfl (XT _) rfl ?_)))));rintro _ _ ⟨hp,rfl,rfl⟩;refine Bb (wa rfl (Ak (Ap (CB (H2:=[.blk hb [rB false] 4,.blk he [rP ha 0] 98,.bld 101 5 ha hp ho,.blk hf (Ab c) 54]) ((A4 (i:=1) rfl).trans (XV _ ((A4 (i:=1) rfl).trans (XV _ (XT _))))) ?_))));obtain rfl:=An hG;exact Ao (Bq QS (A6 rfl)) (sC (sC (sC (sC sN)))) ⟨hp,rfl,rfl⟩
 ·refine Aq (AA (Af (BA (i:=0) HD rfl rfl (BO rfl) rfl rfl (cs':=[rB false]) rfl (H':=[.blk hb [rB false] 4,.blk he [rP ha 0] 98,.bld 101 5 ha hg l,.blk hf (Ab c) 54]) rfl (Ak (Am (Af (vF Bl rfl C8 (vL 3 CF rfl (wv (Be rfl rfl) (Ak (cz hw rfl (λhH hI=>?_) (λhH hJ=>?_))))))))))))
  ·refine Af (vL 1 Hh rfl (wm rfl (ob hI λhj hK hL=>DP (Hr:=[.blk hb [rB false] 4,.blk he [rP ha 0] 98,.blk hf (Ab c) 54]) Tryz.call114 (Mp F ha hg l key hj hK) rfl ((A4 (i:=2) rfl).trans (XV _ (XT _))) rfl ?_)));rintro _ _ ⟨hq,rfl,rfl⟩;refine Ak (Aj (vL 2 Hh rfl (ck hL λhN hO=>ck hO λhP hQ=>CJ (rs:=[rP ha 0,rI .u8 58]) (Hin:=[.bld 101 5 ha hq hj]) (Hr:=[.blk hb [rB false] 4,.blk he [rP ha 0] 98,.blk hf (Ab c) 54]) In rfl (XT _) (C6 ha hq hj 58 hN hP) rfl ?_)));rintro _ _ ⟨hR,rfl,rfl⟩;refine bd hQ λhS hT hU=>?_;rw[← hT];refine Bb (vL 2 Hh rfl (wm rfl (ob hU λhr hV hW=>DP (Hr:=[.blk hb [rB false] 4,.blk he [rP ha 0] 98,.blk hf (Ab c) 54]) SU (hh ha hR hS x hr hV) rfl (XT _) rfl ?_)));rintro _ _ ⟨hs,rfl,rfl⟩;refine Bb (wa rfl (Ak (Ap (CB (H2:=[.blk hb [rB false] 4,.blk he [rP ha 0] 98,.bld 101 5 ha hs hr,.blk hf (Ab c) 54]) ((A4 (i:=1) rfl).trans (XV _ ((A4 (i:=1) rfl).trans (XV _ (XT _))))) ?_))));obtain rfl:=An hW;exact Ao (Bq QS (A6 rfl)) (sC (sC (sC (sC sN)))) ⟨hs,rfl,rfl⟩
  ·refine Aq (AA (Af (vL 1 Hh rfl (wm rfl (ob hJ λht hX hY=>DP (Hr:=[.blk hb [rB false] 4,.blk he [rP ha 0] 98,.blk hf (Ab c) 54]) SU (hh ha hg l x ht hX) rfl ((A4 (i:=2) rfl).trans (XV _ (XT _))) rfl ?_)))));rintro _ _ ⟨hu,rfl,rfl⟩;refine Bb (wa rfl (Ak (Ap (CB (H2:=[.blk hb [rB false] 4,.blk he [rP ha 0] 98,.bld 101 5 ha hu ht,.blk hf (Ab c) 54]) ((A4 (i:=1) rfl).trans (XV _ ((A4 (i:=1) rfl).trans (XV _ (XT _))))) ?_))));obtain rfl:=An hY;exact Ao (Bq QS (A6 rfl)) (sC (sC (sC (sC sN)))) ⟨hu,rfl,rfl⟩
theorem Qf (F:Nat)(hn:Au→(List Aa)→Bool→Au→Aa→Option (Bool×Bool×Au))(hy:(∀(he:Nat) (hf:Nat) (hb:Nat) (ho:Value) (hg:Nat) (key:Au) (x:(List Aa)) (first:Bool) (l:Au) (c:Aa) (r:Bool×Bool×Au),hn key x first l c=some r→Fn Tryz.prog GE 116 [rS key,AD 4 (A1 Ab x),rP he 0,rP hf 0,rP hg 0] [.blk he [rB first] 4,.blk hf [rP hb 0] 98,.bld 101 5 hb ho l,.blk hg (Ab c) 54] (λR H=>∃w3b:Value,R=rB r.1∧H=[.blk he [rB r.2.1] 4,.blk hf [rP hb 0] 98,.bld 101 5 hb w3b r.2.2,.blk hg (Ab c) 54])))(he:Nat)(hf:Nat)(hb:Nat)(ho:Value)(hg:Nat)(v:(List Aa))(first:Bool)(l:Au)(c:Aa)(r:Bool×Au)(h:Mh F hn v first l c=some r):Fn Tryz.prog GE 90 [AD 4 (A1 Ab v),rv (.func (.func 116) #[] #[(.pointer (some ⟨he,0,none⟩)),(.pointer (some ⟨hf,0,none⟩)),(.pointer (some ⟨hg,0,none⟩))])] [.blk he [rB first] 4,.blk hf [rP hb 0] 98,.bld 101 5 hb ho l,.blk hg (Ab c) 54] (λR H=>∃w1_1b:Value,R=rv (.tuple #[])∧H=[.blk he [rB r.1] 4,.blk hf [rP hb 0] 98,.bld 101 5 hb w1_1b r.2,.blk hg (Ab c) 54]):=by
 refine enter (n:=52) Tryz.func90 rfl Tryz.ntmps90 rfl (λw Z=>?_);unfold Mh at h;refine Af (wa rfl (Bb (wm rfl (ck h λg1 h2=>wv (AT (enc:=Ab) (ys:=v) Bp By rfl rfl g1) (wv (AK Bl rfl BB rfl rfl) (wv (AH BL rfl rfl) (wv (r:=Al 0) (A2 rfl) (Ak (A5 (ob h2 λh8 h9 hs=>Bc (S:=Nat×(Int×Int×Bool×Au)×(Value)) (V:=(Bool×Au)×(Value)) 0 (λσ=>BP (λσ=>HI F v c hn σ.1 σ.2.1 σ.2.2.1 σ.2.2.2) σ.1 σ.2.1=some h8) (λσ=>[(0,AD 4 (A1 Ab v)),(1,rv (.func (.func 116) #[] #[(.pointer (some ⟨he,0,none⟩)),(.pointer (some ⟨hf,0,none⟩)),(.pointer (some ⟨hg,0,none⟩))])),(4,Al σ.2.1.1),(12,Al ((Ay v 0).fN)),(13,Al σ.2.1.2.1)]) (λσ=>[.blk he [rB σ.2.1.2.2.1] 4,.blk hf [rP hb 0] 98,.bld 101 5 hb σ.2.2 σ.2.1.2.2.2,.blk hg (Ab c) 54]) (λσ=>σ.1) (F,(1,0,first,l),ho) h9 (Az.c5 rfl rfl rfl rfl rfl Az.nil) (sC (sC (sC (sC sN)))) (λσ=>HH σ.1.1 σ.1.2=some r) (λσ=>[]) (λσ=>[.blk he [rB σ.1.1] 4,.blk hf [rP hb 0] 98,.bld 101 5 hb σ.2 σ.1.2,.blk hg (Ab c) 54]) ?_ ?_))))))))))
 ·rintro⟨g2,⟨ha,hp,hj,hk⟩,hl⟩ hA;refine Bu (l':=[(0,AD 4 (A1 Ab v)),(1,rv (.func (.func 116) #[] #[(.pointer (some ⟨he,0,none⟩)),(.pointer (some ⟨hf,0,none⟩)),(.pointer (some ⟨hg,0,none⟩))])),(4,Al ha),(12,Al ((Ay v 0).fN)),(13,Al hp)]) (H':=[.blk he [rB hj] 4,.blk hf [rP hb 0] 98,.bld 101 5 hb hl hk,.blk hg (Ab c) 54]) rfl rfl ?_;obtain⟨hz,rfl,hB,hq,hm⟩:=BK hA;replace hq:HI F v c hn ha hp hj hk=some hB:=hq;unfold HI at hq;refine Af (wv (Cc rfl rfl) (Ak (Am (cz hq rfl (λc175 hC=>?_) (λc175 hD=>?_)))))
  ·refine Aq (AA (Am (A5 (Af (wv (r:=rS ([]:Au)) (AE rfl) (Ak (Am (Af (wm rfl (wv (AT (enc:=Ab) (ys:=v) Bp By rfl rfl g1) (wv (AK Bl rfl C8 rfl rfl) (wv (AH CF rfl rfl) (wv (Be rfl rfl) (Ak (cz hC rfl (λhE hG=>?_) (λhE hH=>?_))))))))))))))))
   ·refine Af (wm rfl (wm rfl (ck hG λhI hJ=>wv (AT (enc:=Ab) (ys:=v) Bp By rfl rfl hI) (wv (AK Bl rfl CE rfl rfl) (wv (AH CI rfl rfl) (wa rfl (Ak (Aj (wm rfl (ck hJ λhK hL=>wv (Bd rfl rfl hK) (wa rfl (Bb (wm rfl (wm rfl (ck hL λhN hO=>wv (r:=AD 4 (A1 Ab (List.drop (Bw (ha+1)) v))) (Ef Bp By rfl rfl hN) (ob hO λhh hP hQ=>BQ Qc (HN F (List.drop (Bw (ha+1)) v) hh hP) rfl (wm rfl (wv (A7 rfl rfl) (wv (A7 rfl rfl) ?_)))))))))))))))))));refine wv (A7 rfl rfl) (Cf (cs:=[Al 0,Al 0,rB false,rB false]) NL rfl rfl (λh0=>?_));refine wa rfl (Bj (i:=0) G4 rfl rfl rfl (BR.c rfl) rfl rfl (cs':=[Al hh.2.1.fDepth,Al hh.2.1.fBytes,rB hh.2.1.fOutside,rB hh.2.1.fLong]) rfl (H':=[.blk h0 (AP hh.2.1) 86,.blk he [rB hj] 4,.blk hf [rP hb 0] 98,.bld 101 5 hb hl hk,.blk hg (Ab c) 54]) rfl (wa rfl (Ak (Am (Af (wm rfl (wm rfl (wm rfl (wm rfl (wm rfl (wm rfl (ck hQ λht hR=>wv (Bd rfl rfl ht) (wm rfl (wm rfl (wv (Bd rfl rfl ht) (ck hR λhS hT=>ck hT λhU hV=>wv (r:=AD 4 (A1 Ab (List.take (Bw ((ha+1)+hh.1)-Bw (ha+1)) (List.drop (Bw (ha+1)) v)))) (E6 Bp By rfl rfl rfl rfl hS hU) (ob hV λhu hW hX=>CQ (rs:=[rS ((Ay v ha).fStr),AD 4 (A1 Ab (List.take (Bw ((ha+1)+hh.1)-Bw (ha+1)) (List.drop (Bw (ha+1)) v)))]) (Hin:=[.blk he [rB hj] 4,.blk hf [rP hb 0] 98,.bld 101 5 hb hl hk,.blk hg (Ab c) 54]) (Hr:=[.blk h0 (AP hh.2.1) 86]) Tryz.call116 rfl rfl ((A4 (i:=1) rfl).trans (XV _ ((A4 (i:=1) rfl).trans (XV _ ((A4 (i:=1) rfl).trans (XV _ ((A4 (i:=1) rfl).trans (XV _ (XT _))))))))) (hy he hf hb hl hg ((Ay v ha).fStr) (List.take (Bw ((ha+1)+hh.1)-Bw (ha+1)) (List.drop (Bw (ha+1)) v)) hj hk c hu hW) rfl ?_)))))))))))))))));rintro _ _ ⟨h1,rfl,rfl⟩;refine wv (B4 rfl) (Ak (cz hX rfl (λhY hZ=>?_) (λhY ga=>?_)))
    ·refine Ap (Ac (As (Ac (Ac (AO ?_)))));have gb:=Bg hZ hm hs;refine As ?_;obtain rfl:=An gb;exact Ao (Oa NN) (sC (sC (sC (sC (sS sN))))) ⟨h1,rfl,rfl⟩
    ·refine Aq (AA (Aj (wm rfl (wm rfl (wv (Bd rfl rfl ht) (wa rfl (Ai (A3 (AA (Aj (ck ga λgc gd=>wv (Bd rfl rfl gc) (wm rfl (Ai ?_)))))))))))));have ge:=AW gd hm;exact Av (Ar (hz,((ha+1)+hh.1,hp+1,hu.2.1,hu.2.2),h1) ⟨ge,XX _⟩ (Az.c5 rfl rfl rfl rfl rfl Az.nil) (sC (sC (sC (sC (sS sN))))))
   ·refine Aq (AA (Af (wm rfl (wm rfl (ck hH λgf gg=>wv (r:=AD 4 (A1 Ab (List.drop (Bw ha) v))) (Ef Bp By rfl rfl gf) (ob gg λhi gh gi=>BQ Qc (HN F (List.drop (Bw ha) v) hi gh) rfl (wm rfl (wv (A7 rfl rfl) (wv (A7 rfl rfl) (wv (A7 rfl rfl) (Cf (cs:=[Al 0,Al 0,rB false,rB false]) NL rfl rfl (λh3=>?_))))))))))));refine wa rfl (Bj (i:=0) G4 rfl rfl rfl (BR.c rfl) rfl rfl (cs':=[Al hi.2.1.fDepth,Al hi.2.1.fBytes,rB hi.2.1.fOutside,rB hi.2.1.fLong]) rfl (H':=[.blk h3 (AP hi.2.1) 86,.blk he [rB hj] 4,.blk hf [rP hb 0] 98,.bld 101 5 hb hl hk,.blk hg (Ab c) 54]) rfl (wa rfl (Ak (Am (Af (wm rfl (wm rfl (wm rfl (wm rfl (wm rfl (wm rfl (ck gi λhw gj=>wv (Bd rfl rfl hw) (wm rfl (wm rfl (wv (Bd rfl rfl hw) (ck gj λgl gm=>ck gm λgp gq=>wv (r:=AD 4 (A1 Ab (List.take (Bw (ha+hi.1)-Bw ha) (List.drop (Bw ha) v)))) (E6 Bp By rfl rfl rfl rfl gl gp) (ob gq λhx gr gs=>CQ (rs:=[rS ([]:Au),AD 4 (A1 Ab (List.take (Bw (ha+hi.1)-Bw ha) (List.drop (Bw ha) v)))]) (Hin:=[.blk he [rB hj] 4,.blk hf [rP hb 0] 98,.bld 101 5 hb hl hk,.blk hg (Ab c) 54]) (Hr:=[.blk h3 (AP hi.2.1) 86]) Tryz.call116 rfl rfl ((A4 (i:=1) rfl).trans (XV _ ((A4 (i:=1) rfl).trans (XV _ ((A4 (i:=1) rfl).trans (XV _ ((A4 (i:=1) rfl).trans (XV _ (XT _))))))))) (hy he hf hb hl hg ([]:Au) (List.take (Bw (ha+hi.1)-Bw ha) (List.drop (Bw ha) v)) hj hk c hx gr) rfl ?_)))))))))))))))));rintro _ _ ⟨h4,rfl,rfl⟩;refine wv (B4 rfl) (Ak (cz gs rfl (λgt gu=>?_) (λgt gv=>?_)))
    ·refine Ap (Ac (As (Ac (Ac (AO ?_)))));have gw:=Bg gu hm hs;refine As ?_;obtain rfl:=An gw;exact Ao (Oa NN) (sC (sC (sC (sC (sS sN))))) ⟨h4,rfl,rfl⟩
    ·refine Aq (AA (Aj (wm rfl (wm rfl (wv (Bd rfl rfl hw) (wa rfl (Ai (A3 (AA (Aj (ck gv λgx gy=>wv (Bd rfl rfl gx) (wm rfl (Ai ?_)))))))))))));have gz:=AW gy hm;exact Av (Ar (hz,(ha+hi.1,hp+1,hx.2.1,hx.2.2),h4) ⟨gz,XX _⟩ (Az.c5 rfl rfl rfl rfl rfl Az.nil) (sC (sC (sC (sC (sS sN))))))
  ·refine Bi (Aw ?_);have g0:=Bx hD hm hs;exact Aw (AS (Ar ((hj,hk),hl) g0 Az.nil (sC (sC (sC (sC sN))))))
 ·rintro⟨⟨h5,h6⟩,h7⟩ hr;refine BS (l':=[]) (H':=[.blk he [rB h5] 4,.blk hf [rP hb 0] 98,.bld 101 5 hb h7 h6,.blk hg (Ab c) 54]) rfl rfl ?_;replace hr:HH h5 h6=some r:=hr;unfold HH at hr;refine AV ?_;obtain rfl:=An hr;exact E4 (Oa NN) (sC (sC (sC (sC sN)))) ⟨h7,rfl,rfl⟩
theorem Gp:∀F:Nat,(∀(ha:Nat) (hb:Value) (l:Au) (v:(List Aa)) (r:Au),Js F l v=some r→Fn Tryz.prog GE 87 [rP ha 0,AD 4 (A1 Ab v)] [.bld 101 5 ha hb l] (λR H=>∃w0b:Value,R=rv (.tuple #[])∧H=[.bld 101 5 ha w0b r]))∧(∀(he:Nat) (hf:Nat) (ha:Nat) (hb:Value) (hg:Nat) (key:Au) (x:(List Aa)) (first:Bool) (l:Au) (c:Aa) (r:Bool×Bool×Au),HJ F key x first l c=some r→Fn Tryz.prog GE 116 [rS key,AD 4 (A1 Ab x),rP he 0,rP hf 0,rP hg 0] [.blk he [rB first] 4,.blk hf [rP ha 0] 98,.bld 101 5 ha hb l,.blk hg (Ab c) 54] (λR H=>∃w3b:Value,R=rB r.1∧H=[.blk he [rB r.2.1] 4,.blk hf [rP ha 0] 98,.bld 101 5 ha w3b r.2.2,.blk hg (Ab c) 54]))∧(∀(he:Nat) (hf:Nat) (ha:Nat) (hb:Value) (hg:Nat) (v:(List Aa)) (first:Bool) (l:Au) (c:Aa) (r:Bool×Au),JB F v first l c=some r→Fn Tryz.prog GE 90 [AD 4 (A1 Ab v),rv (.func (.func 116) #[] #[(.pointer (some ⟨he,0,none⟩)),(.pointer (some ⟨hf,0,none⟩)),(.pointer (some ⟨hg,0,none⟩))])] [.blk he [rB first] 4,.blk hf [rP ha 0] 98,.bld 101 5 ha hb l,.blk hg (Ab c) 54] (λR H=>∃w1_1b:Value,R=rv (.tuple #[])∧H=[.blk he [rB r.1] 4,.blk hf [rP ha 0] 98,.bld 101 5 ha w1_1b r.2,.blk hg (Ab c) 54]))
  | 0=>⟨(λ_ _ _ _ _ h=>by simp[Js] at h),(λ_ _ _ _ _ _ _ _ _ _ _ h=>by simp[HJ] at h),(λ_ _ _ _ _ _ _ _ _ _ h=>by simp[JB] at h)⟩
  | nn+1=>⟨(λha hb l v r h=>RE nn (HJ nn) (JB nn) (Gp nn).2.1 (Gp nn).2.2 ha hb l v r (by rw[Js] at h;exact h)),(λhe hf ha hb hg key x first l c r h=>Qg nn (Js nn) (Gp nn).1 he hf ha hb hg key x first l c r (by rw[HJ] at h;exact h)),(λhe hf ha hb hg v first l c r h=>Qf nn (HJ nn) (Gp nn).2.1 he hf ha hb hg v first l c r (by rw[JB] at h;exact h))⟩
theorem Tf (F:Nat)(ha:Nat)(hb:Value)(l:Au)(v:(List Aa))(r:Au)(h:Js F l v=some r):Fn Tryz.prog GE 87 [rP ha 0,AD 4 (A1 Ab v)] [.bld 101 5 ha hb l] (λR H=>∃w0b:Value,R=rv (.tuple #[])∧H=[.bld 101 5 ha w0b r]):=(Gp F).1 ha hb l v r h
theorem RJ (F:Nat)(v:(List Aa))(r:Au×Int)(h:NV F v=some r):Fn Tryz.prog GE 49 [AD 4 (A1 Ab v)] [] (λR H=>R=Df [rS r.1,Al r.2]∧H=[]):=by
 refine enter (n:=14) Tryz.func49 rfl Tryz.ntmps49 rfl (λw Z=>?_);unfold NV at h;refine Af (wv (r:=rS ([]:Au)) (AE rfl) (wa rfl (Ak (Am (Af (wm rfl (ob h λr1 e3 h2=>BQ Nd (DT F v r1 e3) rfl (wa rfl (Bb (wm rfl (wv (Bk rfl rfl) (Ak (cz h2 rfl (λc4 h5=>?_) (λc4 h6=>?_))))))))))))))
 ·refine Af (wm rfl (wv (r:=rS ([]:Au)) (AE rfl) (wa rfl (Ak (Ap (Ac ?_))))));obtain rfl:=An h5;exact Ao (Du Tryz.results49 (A6 rfl) (A6 rfl)) sN ⟨rfl,rfl⟩
 ·refine Aq (AA (Af (Cf (cs:=[rv (.pointer none),rv (.slice none 0 0)]) Tryz.zeroValue101 rfl rfl (λb7=>?_))));refine Bb (wm rfl (WL.tobld (te:=5) (i:=0) rfl (ob h6 λr8 hb h9=>DP (Hr:=[]) SU (Tf F b7 (.slice none 0 0) ([]:Au) v r8 hb) rfl (XT _) rfl ?_)));rintro _ _ ⟨ha,rfl,rfl⟩;refine Bb (ck h9 λhe hf=>CJ (rs:=[rP b7 0]) (Hin:=[.bld 101 5 b7 ha r8]) (Hr:=[]) Tryz.call88 rfl (XT _) (SE b7 ha r8  he) rfl ?_);rintro _ _ ⟨rfl,rfl⟩;refine wa rfl (wa rfl (Ak (Ap ?_)));obtain rfl:=An hf;exact Ao (Du Tryz.results49 (A6 rfl) (A6 rfl)) sN ⟨rfl,rfl⟩
end Go.Proofs.YtghdglcmblpbeaaGreatDoor.Q
namespace Go.Proofs.YtghdglcmblpbeaaGreatDoor
open Go
set_option linter.unusedVariables false
structure A0 where
 fS:Au
 fAt:Int
 fCells:(List Aa)
 fGreat:Bool
 deriving DecidableEq,Inhabited
def G9 (s:Au)(p:Au):Option (Bool):=
 AX (imp (decide ((p.length:Int)≤(s.length:Int))) (ES (p.length:Int) (s.length:Int)))<|some ((decide ((p.length:Int)≤(s.length:Int)))&&(decide ((List.take (Int.toNat (p.length:Int)) s)=p)))
def Dk (s:Au)(p:Au):Option (Bool):=
 Bh (G9 s p) λr1=>some r1
def EG (q:A0)(s:Au):Option (Bool×A0):=
 AX (ES q.fAt (q.fS.length:Int))<|Bh (Dk (List.drop (Int.toNat q.fAt) q.fS) s) λr3=>AR (!r3) (some (false,q)) (AX (BF .i64 (q.fAt+(s.length:Int)))<|some (true,(A0.mk q.fS (q.fAt+(s.length:Int)) q.fCells q.fGreat)))
def Ix (ha:(List Int))(hb:Int)(he:Int):Option (Stp ((List Int)×Int) (Out (Au×Bool×A0) (Int))):=
 AX (E7 1 (ha.length+([hb]:List Int).length))<|some (.next (ha++([hb]:List Int),he))
def JE (r1:Bool×A0)(hb:(List Int))(ha:Int):Option (Stp ((List Int)×Int) (Out (Au×Bool×A0) (Int))):=
 AR (decide (ha<(r1.2.fS.length:Int))) (AX (C0 ha (r1.2.fS.length:Int))<|AX (BF .i64 (ha+1))<|AR (decide ((Ck r1.2.fS ha)=34)) (some (.out (.ret (VK hb,true,(A0.mk r1.2.fS (ha+1) r1.2.fCells r1.2.fGreat))))) (AR (((decide ((Ck r1.2.fS ha)<32))||(decide (126<(Ck r1.2.fS ha))))) (some (.out (.ret (([]:Au),false,(A0.mk r1.2.fS (ha+1) r1.2.fCells r1.2.fGreat))))) (AR (decide ((Ck r1.2.fS ha)=92)) (AX (imp (!(decide ((r1.2.fS.length:Int)≤(ha+1)))) (C0 (ha+1) (r1.2.fS.length:Int)))<|AR (((decide ((r1.2.fS.length:Int)≤(ha+1)))||((!decide ((Ck r1.2.fS (ha+1))=34))&&(!decide ((Ck r1.2.fS (ha+1))=92))))) (some (.out (.ret (([]:Au),false,(A0.mk r1.2.fS (ha+1) r1.2.fCells r1.2.fGreat))))) (AX (C0 (ha+1) (r1.2.fS.length:Int))<|AX (BF .i64 ((ha+1)+1))<|Ix hb (Ck r1.2.fS (ha+1)) ((ha+1)+1))) (Ix hb (Ck r1.2.fS ha) (ha+1))))) (some (.out (.go ha)))
def JD (r1:Bool×A0)(ha:Int):Option (Au×Bool×A0):=
 some (([]:Au),false,(A0.mk r1.2.fS ha r1.2.fCells r1.2.fGreat))
def QX (F:Nat)(q:A0):Option (Au×Bool×A0):=
 Bh (EG q ([34]:Au)) λr1=>AR (!r1.1) (some (([]:Au),false,r1.2)) (Bh (BP (λσ=>JE r1 σ.1 σ.2) F (([]:List Int),r1.2.fAt)) (BI λν=>JD r1 ν))
def JG (r1:Bool×A0)(ha:Int):Option (Stp (Int) (Out (Bool×A0) (Int))):=
 AX (imp (decide (ha<(r1.2.fS.length:Int))) (C0 ha (r1.2.fS.length:Int)))<|AR (((decide (ha<(r1.2.fS.length:Int)))&&((decide (48≤(Ck r1.2.fS ha)))&&(decide ((Ck r1.2.fS ha)≤57))))) (AX (BF .i64 (ha+1))<|some (.next (ha+1))) (some (.out (.go ha)))
def JF (q:A0)(r1:Bool×A0)(ha:Int):Option (Bool×A0):=
 AX (ES q.fAt ha)<|AX (ES ha (r1.2.fS.length:Int))<|AX (E7 1 (List.take (Int.toNat ha-Int.toNat q.fAt) (List.drop (Int.toNat q.fAt) r1.2.fS)).length)<|AR (((decide ((CL (List.take (Int.toNat ha-Int.toNat q.fAt) (List.drop (Int.toNat q.fAt) r1.2.fS)))=1))||(decide (r1.2.fAt=ha)))) (some (false,(A0.mk r1.2.fS ha r1.2.fCells r1.2.fGreat))) (AX (E7 40 (r1.2.fCells.length+([(Aa.mk 3 (CP (List.take (Int.toNat ha-Int.toNat q.fAt) (List.drop (Int.toNat q.fAt) r1.2.fS))) ([]:Au) 0)]:List Aa).length))<|some (true,(A0.mk r1.2.fS ha (r1.2.fCells++([(Aa.mk 3 (CP (List.take (Int.toNat ha-Int.toNat q.fAt) (List.drop (Int.toNat q.fAt) r1.2.fS))) ([]:Au) 0)]:List Aa)) (r1.2.fGreat||(!decide ((CL (List.take (Int.toNat ha-Int.toNat q.fAt) (List.drop (Int.toNat q.fAt) r1.2.fS)))=0))))))
def Th (F:Nat)(q:A0):Option (Bool×A0):=
 Bh (EG q ([45]:Au)) λr1=>Bh (BP (λσ=>JG r1 σ) F r1.2.fAt) (BI λν=>JF q r1 ν)
def D3 (ha:Au)(hb:Int)(he:(List Aa))(hf:Bool):Option (Bool×A0):=
 some (true,(A0.mk ha hb he hf))
def Mn (F:Nat)(q:A0):Option (Bool×A0):=
 Bh (EG q ([110,117,108,108]:Au)) λhe=>AR (he.1) (AX (E7 40 (he.2.fCells.length+([(Aa.mk 1 0 ([]:Au) 0)]:List Aa).length))<|D3 he.2.fS he.2.fAt (he.2.fCells++([(Aa.mk 1 0 ([]:Au) 0)]:List Aa)) he.2.fGreat) (Bh (EG he.2 ([116,114,117,101]:Au)) λhf=>AR (hf.1) (AX (E7 40 (hf.2.fCells.length+([(Aa.mk 2 1 ([]:Au) 0)]:List Aa).length))<|D3 hf.2.fS hf.2.fAt (hf.2.fCells++([(Aa.mk 2 1 ([]:Au) 0)]:List Aa)) hf.2.fGreat) (Bh (EG hf.2 ([102,97,108,115,101]:Au)) λha=>AR (ha.1) (AX (E7 40 (ha.2.fCells.length+([(Aa.mk 2 0 ([]:Au) 0)]:List Aa).length))<|D3 ha.2.fS ha.2.fAt (ha.2.fCells++([(Aa.mk 2 0 ([]:Au) 0)]:List Aa)) ha.2.fGreat) (AX (ES ha.2.fAt (ha.2.fS.length:Int))<|Bh (Dk (List.drop (Int.toNat ha.2.fAt) ha.2.fS) ([34]:Au)) λhh=>AR (hh) (Bh (QX F ha.2) λhb=>AR (!hb.2.1) (some (false,hb.2.2)) (AX (E7 40 (hb.2.2.fCells.length+([(Aa.mk 4 0 hb.1 0)]:List Aa).length))<|D3 hb.2.2.fS hb.2.2.fAt (hb.2.2.fCells++([(Aa.mk 4 0 hb.1 0)]:List Aa)) hb.2.2.fGreat)) (Bh (Th F ha.2) λhg=>some (hg.1,hg.2)))))
def HL (hh:A0→Option (Bool×A0))(he:(List Aa))(hf:Int)(hi:Au)(hj:Int)(hk:(List Aa))(hl:Bool):Option (Stp (Int×Au×Int×(List Aa)×Bool) (Out (Bool×A0) (Unit))):=
 Bh (hh (A0.mk hi hj hk hl)) λha=>AR (!ha.1) (some (.out (.ret (false,ha.2)))) (AX (C0 (he.length:Int) (ha.2.fCells.length:Int))<|KA (List.set ha.2.fCells (Int.toNat (he.length:Int)) (Aa.mk ((Ay ha.2.fCells (he.length:Int)).fKind) ((Ay ha.2.fCells (he.length:Int)).fInt) ((Ay ha.2.fCells (he.length:Int)).fStr) hf)) λhm=>Bh (EG (A0.mk ha.2.fS ha.2.fAt hm ha.2.fGreat) ([93]:Au)) λhg=>AR (hg.1) (some (.out (.ret (true,hg.2)))) (Bh (EG hg.2 ([44]:Au)) λhb=>AR (!hb.1) (some (.out (.ret (false,hb.2)))) (AX (BF .i64 (hf+1))<|some (.next (hf+1,hb.2.fS,hb.2.fAt,hb.2.fCells,hb.2.fGreat)))))
def Mm :Option (Bool×A0):=
 none
def Ed (hm:A0→Option (Bool×A0))(he:(List Aa))(hf:Int)(hg:Au×Bool×A0)(hp:Bool)(hq:Bool)(hn:Bool)(hj:Au)(hk:Int)(hh:(List Aa))(hl:Bool):Option (Stp (Au×Int×Au×Int×(List Aa)×Bool) (Out (Bool×A0) (Unit))):=
 AR (hn) (some (.out (.ret (false,(A0.mk hj hk hh hl))))) (AX (E7 40 (hh.length+([(Aa.mk 4 0 hg.1 0)]:List Aa).length))<|Bh (hm (A0.mk hj hk (hh++([(Aa.mk 4 0 hg.1 0)]:List Aa)) hl)) λha=>AR (!ha.1) (some (.out (.ret (false,ha.2)))) (AX (C0 (he.length:Int) (ha.2.fCells.length:Int))<|KA (List.set ha.2.fCells (Int.toNat (he.length:Int)) (Aa.mk ((Ay ha.2.fCells (he.length:Int)).fKind) ((Ay ha.2.fCells (he.length:Int)).fInt) ((Ay ha.2.fCells (he.length:Int)).fStr) hf)) λho=>Bh (EG (A0.mk ha.2.fS ha.2.fAt ho ha.2.fGreat) ([125]:Au)) λhi=>AR (hi.1) (some (.out (.ret (true,hi.2)))) (Bh (EG hi.2 ([44]:Au)) λhb=>AR (!hb.1) (some (.out (.ret (false,hb.2)))) (AX (BF .i64 (hf+1))<|some (.next (hg.1,hf+1,hb.2.fS,hb.2.fAt,hb.2.fCells,hb.2.fGreat))))))
def HK (F:Nat)(hh:A0→Option (Bool×A0))(hi:(List Aa))(hb:Au)(he:Int)(hj:Au)(hk:Int)(hl:(List Aa))(hm:Bool):Option (Stp (Au×Int×Au×Int×(List Aa)×Bool) (Out (Bool×A0) (Unit))):=
 Bh (QX F (A0.mk hj hk hl hm)) λha=>AR (!ha.2.1) (Ed hh hi he ha true true true ha.2.2.fS ha.2.2.fAt ha.2.2.fCells ha.2.2.fGreat) (AR (decide (1<he)) (AR (De ha.1 hb||decide (ha.1=hb)) (Ed hh hi he ha (De ha.1 hb||decide (ha.1=hb)) (De ha.1 hb||decide (ha.1=hb)) true ha.2.2.fS ha.2.2.fAt ha.2.2.fCells ha.2.2.fGreat) (Bh (EG ha.2.2 ([58]:Au)) λhf=>Ed hh hi he ha (De ha.1 hb||decide (ha.1=hb)) (De ha.1 hb||decide (ha.1=hb)) (!hf.1) hf.2.fS hf.2.fAt hf.2.fCells hf.2.fGreat)) (Bh (EG ha.2.2 ([58]:Au)) λhg=>Ed hh hi he ha false false (!hg.1) hg.2.fS hg.2.fAt hg.2.fCells hg.2.fGreat))
def Ml :Option (Bool×A0):=
 none
def Gq (F:Nat)(hi:A0→Option (Bool×A0))(r1:Bool×A0)(hk:Bool)(hf:Au)(hg:Int)(ha:(List Aa))(hh:Bool):Option (Bool×A0):=
 AR (hk) (Bh (Mn F (A0.mk hf hg ha hh)) λhj=>some (hj.1,hj.2)) (AR (r1.1) (AX (E7 40 (ha.length+([(Aa.mk 5 0 ([]:Au) 0)]:List Aa).length))<|Bh (EG (A0.mk hf hg (ha++([(Aa.mk 5 0 ([]:Au) 0)]:List Aa)) hh) ([93]:Au)) λhb=>AR (hb.1) (some (true,hb.2)) (Bh (BP (λσ=>HL hi ha σ.1 σ.2.1 σ.2.2.1 σ.2.2.2.1 σ.2.2.2.2) F (1,hb.2.fS,hb.2.fAt,hb.2.fCells,hb.2.fGreat)) (BI λν=>Mm ))) (AX (E7 40 (ha.length+([(Aa.mk 6 0 ([]:Au) 0)]:List Aa).length))<|Bh (EG (A0.mk hf hg (ha++([(Aa.mk 6 0 ([]:Au) 0)]:List Aa)) hh) ([125]:Au)) λhe=>AR (he.1) (some (true,he.2)) (Bh (BP (λσ=>HK F hi ha σ.1 σ.2.1 σ.2.2.1 σ.2.2.2.1 σ.2.2.2.2.1 σ.2.2.2.2.2) F (([]:Au),1,he.2.fS,he.2.fAt,he.2.fCells,he.2.fGreat)) (BI λν=>Ml ))))
def Mk (F:Nat)(hb:A0→Option (Bool×A0))(q:A0):Option (Bool×A0):=
 Bh (EG q ([91]:Au)) λr1=>AR (!r1.1) (Bh (EG r1.2 ([123]:Au)) λha=>Gq F hb r1 (!ha.1) ha.2.fS ha.2.fAt ha.2.fCells ha.2.fGreat) (Gq F hb r1 false r1.2.fS r1.2.fAt r1.2.fCells r1.2.fGreat)
def HM:Nat→A0→Option (Bool×A0)
 | 0,_=>none
 | nn+1,q=>Mk nn (HM nn) q
def Gr (F:Nat)(hb:Bool)(hg:Au)(hh:Int)(he:(List Aa))(hf:Bool):Option ((List Aa)×Int):=
 AR (hb) (some (([]:List Aa),1)) (AR (hf) (some (([]:List Aa),2)) (Bh (EH F he) λha=>some (ha.1,ha.2)))
def NW (F:Nat)(s:Au):Option ((List Aa)×Int):=
 AR (decide (4000<(s.length:Int))) (some (([]:List Aa),3)) (Bh (HM F (A0.mk s 0 ([]:List Aa) false)) λha=>AR (!ha.1) (Gr F true ha.2.fS ha.2.fAt ha.2.fCells ha.2.fGreat) (Gr F (!decide (ha.2.fAt=(s.length:Int))) ha.2.fS ha.2.fAt ha.2.fCells ha.2.fGreat))
end Go.Proofs.YtghdglcmblpbeaaGreatDoor
