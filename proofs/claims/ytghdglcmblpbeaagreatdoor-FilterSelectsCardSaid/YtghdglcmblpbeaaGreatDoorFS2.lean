/-
  Texts of the proof, put together: PlC, IdC, ShelfV, PlD, PlE, FwJ, IdR, QG, QO, RowQ, PQB, WQB, PVa, WVa, PVb, WVb, PVc, WVc, PVd.
-/
import Derived.Test.YtghdglcmblpbeaaGreatDoorFS1
import Derived.Lib.AtoiAllCases
import Derived.Lib.ItoaNum
import Derived.Lib.ItoaLen
import Derived.Shelf.Strings.Builder1
import Derived.Shelf.Strings.Count
import Derived.Shelf.Strings.Search1
import Derived.Shelf.Strings.Search2
import Derived.Shelf.Strings.Search3
import Derived.Shelf.Small.Strs
import Derived.Shelf.LaysM
import Derived.Shelf.LaysC
import Derived.Test.YtghdglcmblpbeaaGreatDoorProg
import Derived.Lib.ItoaMem
import Derived.Deep.Slices
import Derived.ChangeArms
import Derived.DataReads
import Derived.Laws.Tables
import Derived.Lib.Bytealg
import Derived.Lib.SmallJoins
namespace Go.Proofs.YtghdglcmblpbeaaGreatDoor
open Go
def Vr (p:List UInt8):Bool:=decide ((0:Int)<p.length)&&decide (Ck p 0=45)
def Na (p:List UInt8):List UInt8:=if Vr p=true then p.drop 1 else p
theorem UD (p:List UInt8):(Na p).length≤p.length:=by unfold Na;split<;>simp
def E1 (_:Nat)(u:UInt8):Bool:=!(decide ((u.toNat:Int)<48)||decide (57<(u.toNat:Int)))
def OC (p:List UInt8):Bool:=!(decide (Na p=[])||(decide (Ck (Na p) 0=48)&&!decide (p=[48])))&&Cb E1 0 (Na p)
theorem GN {p:List UInt8}(h : ¬ p=[]):(0:Int)<p.length:=by
 cases p with
 | nil=>exact absurd rfl h
 | cons a r=>simp
theorem NI {p:List UInt8}{k:Nat}(h:(k:Int)<p.length):∃u,p[k]? =some u:=⟨p[k]'(by omega),Y3 (by omega)⟩
theorem UE {p:List UInt8}{k:Nat}(hi:k≤p.length∧Cb E1 0 p=Cb E1 k (p.drop k))(h:(k:Int)<p.length)(ht:(decide (Ck p k<48)||decide (57<Ck p k))=false) :
  (k+1≤p.length∧Cb E1 0 p=Cb E1 (k+1) (p.drop (k+1)))∧p.length-(k+1)<p.length-k:=by
 obtain⟨u,hu⟩:=NI h;rw[UU hu] at ht;exact TH hi hu (by simp only[E1,ht];rfl)
theorem Xh {p:List UInt8}{k:Nat}(hi:k≤p.length∧Cb E1 0 p=Cb E1 k (p.drop k))(h:(k:Int)<p.length)(ht:(decide (Ck p k<48)||decide (57<Ck p k))=true):Cb E1 0 p=false:=by
 obtain⟨u,hu⟩:=NI h;rw[UU hu] at ht;exact Wv hi hu (by simp only[E1,ht];rfl)
theorem VR {p:List UInt8}{k:Nat}(hi:k≤p.length∧Cb E1 0 p=Cb E1 k (p.drop k))(h : ¬ (k:Int)<p.length):Cb E1 0 p=true:=Vt hi (by omega)
def CH (p:List UInt8):Int:=if OC p=true then(match Lib.atoiAll p with | .ok v=>if Mn v=true then 0 else 2 | _=>2) else 1
def CL (p:List UInt8):Int:=if OC p=true then(match Lib.atoiAll p with | .ok v=>if Mn v=true then v else 0 | _=>0) else 0
theorem Nb:∀(l:List UInt8) (i acc:Nat),Cb E1 i l=true→(∃u,Lib.parseUint10 acc l = .ok u)∨Lib.parseUint10 acc l = .range
 | [],_,acc,_=>.inl ⟨acc,rfl⟩
 | c::r,i,acc,h=>by
  simp only[Cb,Y1] at h;have hc:48≤c.toNat∧c.toNat≤57:=by have:=h.1;simp[E1] at this;omega
  unfold Lib.parseUint10;rw[if_pos hc]
  split
  ·exact .inr rfl
  ·split
   ·exact .inr rfl
   ·exact Nb r _ _ h.2
theorem R7 {l:List UInt8}(hne:l≠[])(h:Cb E1 0 l=true):(∃u,Lib.parseMag l = .ok u)∨Lib.parseMag l = .range:=by
 unfold Lib.parseMag;rw[Zk hne];exact Nb l 0 0 h
theorem Of {e:Lib.NumEnd Nat}(h:(∃u,e = .ok u)∨e = .range):(∃v,Lib.signless e = .ok v)∨Lib.signless e = .range:=by
 rcases h with⟨u,rfl⟩ | rfl
 ·unfold Lib.signless
  by_cases h:9223372036854775808≤u
  ·exact .inr (by simp[h])
  ·exact .inl ⟨_,by simp[h];rfl⟩
 ·exact .inr rfl
theorem Q0 {e:Lib.NumEnd Nat}(h:(∃u,e = .ok u)∨e = .range):(∃v,Lib.signed e = .ok v)∨Lib.signed e = .range:=by
 rcases h with⟨u,rfl⟩ | rfl
 ·unfold Lib.signed
  by_cases h:9223372036854775808<u
  ·exact .inr (by simp[h])
  ·exact .inl ⟨_,by simp[h];rfl⟩
 ·exact .inr rfl
theorem UV {p:List UInt8}(h:OC p=true):(∃v,Lib.atoiAll p = .ok v∧-9223372036854775808≤v∧v≤9223372036854775807)∨Lib.atoiAll p = .range:=by
 have key:(∃v,Lib.atoiAll p = .ok v)∨Lib.atoiAll p = .range:=by
  simp only[OC,Y1,YB,YO,Yx] at h;obtain⟨⟨hne,_⟩,hall⟩:=h
  cases p with
  | nil=>simp[Na,Vr] at hne
  | cons c r=>
   by_cases hc:c=45
   ·subst hc;have hd:Na (45::r)=r:=by simp[Na,Vr,Ck]
    rw[hd] at hne hall;rw[Lib.atoiAll_minus];exact Q0 (R7 hne hall)
   ·have hb : ¬ Ck (c::r) 0=45:=by
     simp only[Ck,Int.toNat_zero,List.getElem?_cons_zero,YN];intro e;exact hc (UInt8.toNat_inj.1 (by simpa using(by omega:c.toNat=45)))
    have hd:Na (c::r)=c::r:=by simp[Na,Vr,hb]
    rw[hd] at hne hall;have ha:48≤c.toNat:=by
     simp only[Cb,Y1] at hall;have:=hall.1;simp[E1] at this;omega
    rw[Lib.atoiAll_plain c r (by omega) (by omega)];exact Of (R7 hne hall)
 rcases key with⟨v,hv⟩ | h
 ·exact .inl ⟨v,hv,Lib.atoiAll_bounds hv⟩
 ·exact .inr h
open Go Go.RowKit
set_option linter.unusedVariables false
set_option linter.unusedSimpArgs false
set_option maxRecDepth 100000
theorem SW (p:List UInt8)(hp:p.length≤281474976710656)(w:World):Calls Tryz.prog 157 [.string (B (p))].toArray w (OL w (.bool (OC p))):=by
 refine OB (n:=43) Tryz.func157 rfl Tryz.ntmps157 rfl (Am (Aj (B6 (AE rfl) rfl (Ai (Au (BU ?_))))));refine Am (Aj (B6 (A6 rfl) rfl (B6 (AE rfl) rfl (Ai (Au (BU ?_))))));refine AD [(0,.string (B (p))),(2,.bool (false)),(3,.string (B ((if ((decide ((0)<((p.length:Int))))&&(decide ((Ck p 0)=(45))))=true then List.drop (Int.toNat (1)) p else p))))] [] (φ:=True) ?_ (λh1=>?_)
 ·refine AD [(0,.string (B (p))),(2,.bool (false)),(3,.string (B (p))),(13,.bool (((decide ((0)<((p.length:Int))))&&(decide ((Ck p 0)=(45))))))] [] (φ:=True) ?_ (λh2=>?_)
  ·refine Aj (B6 (A6 rfl) rfl (B6 (BQ Dz rfl) rfl (B6 (C3 rfl rfl) rfl (B6 (A6 rfl) rfl (AN (decide ((0)<((p.length:Int)))) (λhe=>?_) (λhe=>?_))))))
   ·have g19:=he;try simp only[Yv,Yx] at g19
    have hl:=he;try simp at hl
    refine AR rfl rfl he (B6 (A6 rfl) rfl (AR rfl rfl he (B6 (BC Dz rfl rfl (by first | omega | exact GN (by assumption)) (by first | omega | exact GN (by assumption))) rfl (AR rfl rfl he (B6 (Bh rfl rfl) rfl (B6 (Ay rfl he rfl) rfl (Ai ?_)))))));exact Au (DM trivial ⟨rfl,rfl,rfl,fb (by first | (simp only[he,YC,YL,YP,YF,YS,YK,YQ,YR,YA,YJ,Y7,Y2,if_true,Zi,reduceIte,Zb];done) | simp[he]),trivial⟩ .slnil)
   ·have g19:=he;try simp only[Yv,Yx] at g19
    have hl:=he;try simp at hl
    refine CU rfl rfl he rfl (CU rfl rfl he rfl (CU rfl rfl he rfl (B6 (Aw rfl he rfl) rfl (Ai ?_))));exact Au (DM trivial ⟨rfl,rfl,rfl,fb (by first | (simp only[he,YC,YL,YP,YF,YS,YK,YQ,YR,YA,YJ,Y7,Y2,if_true,Zi,reduceIte,Zb];done) | simp[he]),trivial⟩ .slnil)
  refine G9 (b:=((decide ((0)<((p.length:Int))))&&(decide ((Ck p 0)=(45))))) rfl (λhh=>?_) (λhh=>?_)
  ·have hm:=hh;try simp only[Yv,Yx] at hm
   have hn:=hh;try simp at hn
   refine Aj (B6 (A6 rfl) rfl (B6 (Id Dz rfl rfl (by first | omega | (simp;omega)) (by first | omega | (simp;omega))) rfl (B6 (AE rfl) rfl (Ai ?_))));exact Au (DM trivial ⟨rfl,rfl,fs (by first | (simp only[hh,YC,YL,YP,YF,YS,YK,YQ,YR,YA,YJ,Y7,Y2,if_true,Zi,reduceIte,Zb];done) | simp[hh]),trivial⟩ .slnil)
  ·have hm:=hh;try simp only[Yv,Yx] at hm
   have hn:=hh;try simp at hn
   refine Aq ?_;exact Au (DM trivial ⟨rfl,rfl,fs (by first | (simp only[hh,YC,YL,YP,YF,YS,YK,YQ,YR,YA,YJ,Y7,Y2,if_true,Zi,reduceIte,Zb];done) | simp[hh]),trivial⟩ .slnil)
 have hdg:Na p=(if ((decide ((0)<((p.length:Int))))&&(decide ((Ck p 0)=(45))))=true then List.drop (Int.toNat (1)) p else p):=rfl;have hdl:=UD p;rw[hdg] at hdl;generalize(if ((decide ((0)<((p.length:Int))))&&(decide ((Ck p 0)=(45))))=true then List.drop (Int.toNat (1)) p else p)=dg at hdg hdl ⊢;refine Am (AD [(2,.bool (false)),(3,.string (B (dg))),(26,.bool (((decide ((dg)=(([]:List UInt8))))||((decide ((Ck dg 0)=(48)))&&(!(decide ((p)=(([48]:List UInt8)))))))))] [] (φ:=True) ?_ (λh3=>?_))
 ·refine Aj (B6 (A6 rfl) rfl (B6 (DK rfl rfl) rfl (B6 (A6 rfl) rfl (AN (decide ((dg)=(([]:List UInt8)))) (λha=>?_) (λha=>?_)))))
  ·have ho:=ha;try simp only[Yv,Yx] at ho
   have hq:=ha;try simp at hq
   refine CU rfl rfl ha rfl (CU rfl rfl ha rfl (CU rfl rfl ha rfl (CU rfl rfl ha rfl (JH rfl rfl rfl (JH rfl rfl rfl (CU rfl rfl ha rfl (B6 (Ay rfl ha rfl) rfl (Ai ?_))))))));exact Au (DM trivial ⟨rfl,rfl,fb (by first | (simp only[ha,YC,YL,YP,YF,YS,YK,YQ,YR,YA,YJ,Y7,Y2,if_true,Zi,reduceIte,Zb];done) | simp[ha]),trivial⟩ .slnil)
  ·have ho:=ha;try simp only[Yv,Yx] at ho
   have hq:=ha;try simp at hq
   refine AR rfl rfl ha (B6 (A6 rfl) rfl (AR rfl rfl ha (B6 (BC Dz rfl rfl (by first | omega | exact GN (by assumption)) (by first | omega | exact GN (by assumption))) rfl (AR rfl rfl ha (B6 (Bh rfl rfl) rfl (AR rfl rfl ha (B6 (A6 rfl) rfl (AN (decide ((Ck dg 0)=(48))) (λhf=>?_) (λhf=>?_)))))))))
   ·have hr:=hf;try simp only[Yv,Yx] at hr
    have hs:=hf;try simp at hs
    refine AR rfl rfl hf (B6 (A6 rfl) rfl (AR rfl rfl hf (B6 (EL rfl rfl) rfl (AR rfl rfl ha (B6 (Ay rfl hf rfl) rfl (B6 (Aw rfl ha rfl) rfl (Ai ?_)))))));exact Au (DM trivial ⟨rfl,rfl,fb (by first | (simp only[ha,hf,YC,YL,YP,YF,YS,YK,YQ,YR,YA,YJ,Y7,Y2,if_true,Zi,reduceIte,Zb];done) | simp[ha,hf]),trivial⟩ .slnil)
   ·have hr:=hf;try simp only[Yv,Yx] at hr
    have hs:=hf;try simp at hs
    refine CU rfl rfl hf rfl (CU rfl rfl hf rfl (AR rfl rfl ha (B6 (Aw rfl hf rfl) rfl (B6 (Aw rfl ha rfl) rfl (Ai ?_)))));exact Au (DM trivial ⟨rfl,rfl,fb (by first | (simp only[ha,hf,YC,YL,YP,YF,YS,YK,YQ,YR,YA,YJ,Y7,Y2,if_true,Zi,reduceIte,Zb];done) | simp[ha,hf]),trivial⟩ .slnil)
 refine G9 (b:=((decide ((dg)=(([]:List UInt8))))||((decide ((Ck dg 0)=(48)))&&(!(decide ((p)=(([48]:List UInt8)))))))) rfl (λhg=>?_) (λhg=>?_)
 ·have ht:=hg;try simp only[Yv,Yx] at ht
  have hu:=hg;try simp at hu
  refine Am (Aj (B6 (AE rfl) rfl (Ai (Au (BU ?_)))));refine Ap (Ac (Ao (Bo rfl rfl) ?_));exact Oi (by simp only[OC,hdg,hg];rfl)
 ·have ht:=hg;try simp only[Yv,Yx] at ht
  have hu:=hg;try simp at hu
  refine Aq (Au (BU ?_));refine Am (Am (Aj (B6 (A6 rfl) rfl (B6 (BQ Dz rfl) rfl (B6 (A6 rfl) rfl (Ai (Au (BU ?_))))))));refine A3 (NZ (S:=Nat) (λ(k:Nat)=>k≤dg.length∧Cb E1 0 dg=Cb E1 k (dg.drop k)) (λ(k:Nat)=>[(29,.int .i64 ((k:Int))),(3,.string (B (dg))),(28,.int .i64 ((dg.length:Int)))]) (λ(k:Nat)=>[]) (λ(k:Nat)=>dg.length-k) (0) ?_ ⟨fi (by first | rfl | (simp;done) | omega | (simp;omega)),rfl,rfl,trivial⟩ .slnil ?_)
  ·exact⟨Za _,by simp⟩
  rintro k hi0;refine Am (Aj (B6 (BW rfl rfl) rfl (Ai (Au (BU ?_)))));refine Am (G9 (b:=decide (((k:Int))<((dg.length:Int)))) rfl (λhi=>?_) (λhi=>?_))
  ·have hk:=hi;try simp only[Yv,Yx] at hk
   have hw:=hi;try simp at hw
   refine Aq (Au (BU ?_));refine Am (A3 (Am (Aj (B6 (A6 rfl) rfl (B6 (AE rfl) rfl (Ai (Au (BU ?_))))))));refine AD [(3,.string (B (dg))),(4,.int .i64 ((k:Int))),(28,.int .i64 ((dg.length:Int))),(29,.int .i64 ((k:Int))),(30,.bool (decide (((k:Int))<((dg.length:Int))))),(31,.int .i64 ((k:Int))),(32,.string (B (dg))),(33,.int .i64 ((k:Int))),(34,.int .u8 (Ck dg (k:Int))),(35,.bool (decide ((Ck dg (k:Int))<(48)))),(36,.bool (decide ((Ck dg (k:Int))<(48)))),(41,.bool (((decide ((Ck dg (k:Int))<(48)))||(decide ((57)<(Ck dg (k:Int)))))))] [] (φ:=True) ?_ (λh4=>?_)
   ·refine Aj (B6 (A6 rfl) rfl (B6 (A6 rfl) rfl (B6 (BC Dz rfl rfl (by first | omega | exact GN (by assumption)) (by first | omega | exact GN (by assumption))) rfl (B6 (BW rfl rfl) rfl (B6 (A6 rfl) rfl (AN (decide ((Ck dg (k:Int))<(48))) (λhb=>?_) (λhb=>?_)))))))
    ·have hx:=hb;try simp only[Yv,Yx] at hx
     have hy:=hb;try simp at hy
     refine CU rfl rfl hb rfl (CU rfl rfl hb rfl (CU rfl rfl hb rfl (CU rfl rfl hb rfl (B6 (Ay rfl hb rfl) rfl (Ai ?_)))));exact Au (DM trivial ⟨rfl,rfl,rfl,rfl,rfl,rfl,rfl,rfl,rfl,rfl,rfl,fb (by first | (simp only[hg,hi,hb,YC,YL,YP,YF,YS,YK,YQ,YR,YA,YJ,Y7,Y2,if_true,Zi,reduceIte,Zb];done) | simp[hg,hi,hb]),trivial⟩ .slnil)
    ·have hx:=hb;try simp only[Yv,Yx] at hx
     have hy:=hb;try simp at hy
     refine AR rfl rfl hb (B6 (A6 rfl) rfl (AR rfl rfl hb (B6 (A6 rfl) rfl (AR rfl rfl hb (B6 (BC Dz rfl rfl (by first | omega | exact GN (by assumption)) (by first | omega | exact GN (by assumption))) rfl (AR rfl rfl hb (B6 (C3 rfl rfl) rfl (B6 (Aw rfl hb rfl) rfl (Ai ?_)))))))));exact Au (DM trivial ⟨rfl,rfl,rfl,rfl,rfl,rfl,rfl,rfl,rfl,rfl,rfl,fb (by first | (simp only[hg,hi,hb,YC,YL,YP,YF,YS,YK,YQ,YR,YA,YJ,Y7,Y2,if_true,Zi,reduceIte,Zb];done) | simp[hg,hi,hb]),trivial⟩ .slnil)
   refine G9 (b:=((decide ((Ck dg (k:Int))<(48)))||(decide ((57)<(Ck dg (k:Int)))))) rfl (λhj=>?_) (λhj=>?_)
   ·have hz:=hj;try simp only[Yv,Yx] at hz
    have h0:=hj;try simp at h0
    refine Am (Aj (B6 (AE rfl) rfl (Ai (Au (BU ?_)))));refine Ap (At (Ac (Ac (At (Ac (Ao (Bo rfl rfl) ?_))))));exact Oi (by simp[OC,hdg,Xh hi0 hk hj])
   ·have hz:=hj;try simp only[Yv,Yx] at hz
    have h0:=hj;try simp at h0
    refine Aq (A2 (Au (BU ?_)));refine Aj (B6 (Bd rfl rfl (IntWalk.i64_in _ (by omega))) rfl (B6 (A6 rfl) rfl (Ai (Au (Ar (k+1) ?_ ⟨fi (by first | rfl | (simp;done) | omega | (simp;omega)),rfl,rfl,trivial⟩ .slnil)))));exact UE hi0 hk hj
  ·have hk:=hi;try simp only[Yv,Yx] at hk
   have hw:=hi;try simp at hw
   refine Bf (As (As (AV (Au (BU ?_)))));refine Am (Aj (B6 (AE rfl) rfl (Ai (Au (BU ?_)))));refine Ap (Ao (Bo rfl rfl) ?_);exact Oi (by simp only[OC,hdg,hg,VR hi0 hk];rfl)
theorem U0 (m:Int)(h0 : -9223372036854775808≤m)(h1:m≤9223372036854775807)(w:World)(hE:RR w):Calls Tryz.prog 113 [.int .i64 (m)].toArray w (OL w (.string (B (Lib.itoa m)))):=by
 refine OB (n:=5) Tryz.func113 rfl Tryz.ntmps113 rfl (Am (Aj (B6 (AE rfl) rfl (Ai (Au (BU ?_))))));refine Am (Aj (B6 (A6 rfl) rfl (CF Tryz.call105 rfl (λw hw=>Ut m (by omega) (by omega) w (hE.st0 hw)) rfl (B6 (AE rfl) rfl (Ai (Au (BU ?_)))))));refine Ap (Ao (Bo rfl rfl) ?_);exact Oi (by first | rfl | simp[])
theorem V1 (p:List UInt8)(hp:p.length≤281474976710656)(w:World)(hE:RR w):Calls Tryz.prog 151 [.string (B (p))].toArray w (OL w (.tuple #[.int .i64 (CL p),.int .i64 (CH p)])):=by
 refine OB (n:=22) Tryz.func151 rfl Tryz.ntmps151 rfl (Am (Aj (B6 (AE rfl) rfl (B6 (AE rfl) rfl (Ai (Au (BU ?_)))))));refine Am (Am (Aj (B6 (A6 rfl) rfl (CF Tryz.call157 rfl (λw hw=>SW p (by first | omega | (simp;done) | (simp;omega) | (simp at *;omega)) w) rfl (B6 (B4 rfl) rfl (Ai (Au (BU ?_))))))));refine G9 (b:=!(OC p)) rfl (λhb=>?_) (λhb=>?_)
 ·have hg:=hb;try simp only[Yv,Yx] at hg
  have ha:=hb;try simp only[Yv,Yx,Y1,YZ,YB,Bool.not_eq_false',Zj,YO,not_or,Int.not_lt,Int.not_le] at ha
  refine Am (Aj (B6 (AE rfl) rfl (B6 (AE rfl) rfl (Ai (Au (BU ?_))))));refine Ap (Ac (Ao (Dq rfl rfl rfl) ?_));exact Oi (by simp[CL,CH,ha])
 ·have hg:=hb;try simp only[Yv,Yx] at hg
  have ha:=hb;try simp only[Yv,Yx,Y1,YZ,YB,Bool.not_eq_false',Zj,YO,not_or,Int.not_lt,Int.not_le] at ha
  refine Aq (Au (BU ?_));refine Am (Aj (B6 (A6 rfl) rfl ?_));rcases UV (p:=p) (by assumption) with⟨av,hav,hal,hah⟩ | hav
  ·refine CF Tryz.call158 rfl (λw _=>Wc p (by first | omega | (simp;done) | (simp;omega) | (simp at *;omega)) av hav w) rfl (B6 (A6 rfl) rfl (B6 (A8 rfl rfl) rfl (B6 (A8 rfl rfl) rfl (B6 (AE rfl) rfl (B6 (AE rfl) rfl (Ai (Au (BU ?_))))))));refine Am (AD [(2,.int .i64 (0)),(3,.int .i64 (0)),(4,.int .i64 (av)),(20,.bool (!(Mn av)))] [] (φ:=True) ?_ (λhi=>?_))
   ·exact Aj (B6 (A6 rfl) rfl (B6 (P4 Tryz.underlying129 rfl) rfl (B6 (A6 rfl) rfl (AR rfl rfl rfl (B6 (A6 rfl) rfl (AR rfl rfl rfl (CF Tryz.call31 rfl (λw hw=>Vh av w) rfl (AR rfl rfl rfl (B6 (B4 rfl) rfl (B6 (Aw rfl rfl rfl) rfl (Ai (Au (DM trivial ⟨rfl,rfl,rfl,rfl,trivial⟩ .slnil)))))))))))))
   refine G9 (b:=!(Mn av)) rfl (λhe=>?_) (λhe=>?_)
   ·have hh:=he;try simp only[Yv,Yx] at hh
    have hf:=he;try simp only[Yv,Yx,Y1,YZ,YB,Bool.not_eq_false',Zj,YO,not_or,Int.not_lt,Int.not_le] at hf
    refine Am (Aj (B6 (AE rfl) rfl (B6 (AE rfl) rfl (Ai (Au (BU ?_))))));refine Ap (Ac (Ao (Dq rfl rfl rfl) ?_));exact Oi (by simp[CL,CH,hav,ha,hf])
   ·have hh:=he;try simp only[Yv,Yx] at hh
    have hf:=he;try simp only[Yv,Yx,Y1,YZ,YB,Bool.not_eq_false',Zj,YO,not_or,Int.not_lt,Int.not_le] at hf
    refine Aq (Au (BU ?_));refine Am (Aj (B6 (A6 rfl) rfl (B6 (AE rfl) rfl (B6 (AE rfl) rfl (Ai (Au (BU ?_)))))));refine Ap (Ao (Dq rfl rfl rfl) ?_);exact Oi (by simp[CL,CH,hav,ha,hf])
  ·refine Vg Tryz.call158 rfl (λw hw=>Rh p (by first | omega | (simp;done) | (simp;omega) | (simp at *;omega)) hav w (hE.st0 hw)) rfl ?_;rintro _ _ ⟨am,at_,ab,rfl,rfl⟩;refine B6 (A6 rfl) rfl (B6 (A8 rfl rfl) rfl (B6 (A8 rfl rfl) rfl (B6 (AE rfl) rfl (B6 (AE rfl) rfl (Ai (Au (BU ?_)))))));refine Am (AD [(2,.int .i64 (0)),(3,.int .i64 (0)),(4,.int .i64 (am)),(20,.bool (true))] [] (φ:=True) ?_ (λhj=>?_))
   ·exact Aj (B6 (A6 rfl) rfl (B6 (V8 Tryz.underlying129 rfl) rfl (B6 (A6 rfl) rfl (CU rfl rfl rfl rfl (CU rfl rfl rfl rfl (CU rfl rfl rfl rfl (B6 (Ay rfl rfl rfl) rfl (Ai (Au (DM trivial ⟨rfl,rfl,rfl,rfl,trivial⟩ .slnil))))))))))
   refine DD rfl rfl (Am (Aj (B6 (AE rfl) rfl (B6 (AE rfl) rfl (Ai (Au (BU ?_)))))));refine Ap (Ac (Ao (Dq rfl rfl rfl) ?_));exact Oi (by simp[CL,CH,hav,ha])
end Go.Proofs.YtghdglcmblpbeaaGreatDoor
namespace Go.Proofs
open Go.Shelf
def Tryz.lays169_ren:Go.Shelf.Ren:=⟨fun | 169=>88 | n=>n,fun | 70=>98 | 9=>9 | 0=>0 | 72=>101 | 37=>99 | 127=>134 | 3=>3 | 5=>5 | n=>n,fun | n=>n⟩
theorem Tryz.lays169:Go.Proofs.Lays.n169 Tryz.prog Tryz.lays169_ren:={
 mixed:=by kernel_rfl
 f169:=Tryz.func88.trans (congrArg some (by kernel_rfl))
 t0:=Tryz.underlying0
 a0:=Tryz.isAgg0
 z0:=Tryz.sizeOf0
 v0:=Tryz.zeroValue0
 t3:=Tryz.underlying3
 a3:=Tryz.isAgg3
 z3:=Tryz.sizeOf3
 v3:=Tryz.zeroValue3
 t9:=Tryz.underlying9
 a9:=Tryz.isAgg9
 z9:=Tryz.sizeOf9
 v9:=Tryz.zeroValue9
 t37:=Tryz.underlying99
 a37:=Tryz.isAgg99
 z37:=Tryz.sizeOf99
 v37:=Tryz.zeroValue99
 t70:=Tryz.underlying98
 a70:=Tryz.isAgg98
 z70:=Tryz.sizeOf98
 v70:=Tryz.zeroValue98
 t72:=Tryz.underlying101
 a72:=Tryz.isAgg101
 z72:=Tryz.sizeOf101
 v72:=Tryz.zeroValue101
 t127:=Tryz.underlying134
 a127:=Tryz.isAgg134
 z127:=Tryz.sizeOf134
 v127:=Tryz.zeroValue134 }
theorem Tryz.Builder_Extra_169:Builder.Extra Tryz.prog Tryz.lays169_ren:={
 sizeBuilder:=by kernel_rfl
 liesBuilder:=by kernel_rfl
 t5:=Tryz.underlying5
 a5:=Tryz.isAgg5
 z5:=Tryz.sizeOf5
 v5:=Tryz.zeroValue5
 infoByte:=by kernel_rfl
 cellsByte:=by kernel_rfl
 sizeByte:=by kernel_rfl
 neB5:=by decide }
open Go.RowKit in
theorem Tryz.Builder_String_any (B b:Nat)(l:List UInt8)(w:World)(h:Lib.IsBuilder 101 5 B b (Lib.byteCells l) w)(hBw:B≤w.heap.size) :
  Calls Tryz.prog 88 #[.pointer (some ⟨b,0,none⟩)] w λe w'=>e = .returned (.string ⟨l.toArray⟩)∧Below B w w':=Any.Builder_String_any Tryz.lays169 Tryz.Builder_Extra_169 B b l w h hBw
def Tryz.lays138_ren:Go.Shelf.Ren:=⟨fun | 138=>138 | 195=>146 | 218=>147 | 143=>148 | 219=>152 | 217=>159 | 225=>160 | 224=>161 | 267=>162 | 266=>170 | 314=>171 | n=>n,fun | 9=>9 | 3=>3 | 4=>4 | 5=>5 | 0=>0 | 46=>160 | 146=>167 | 51=>163 | n=>n,fun | 1=>0 | n=>n⟩
theorem Tryz.lays138:Go.Proofs.Lays.n138 Tryz.prog Tryz.lays138_ren:={
 mixed:=by kernel_rfl
 f138:=Tryz.func138.trans (congrArg some (by kernel_rfl))
 f143:=Tryz.func148.trans (congrArg some (by kernel_rfl))
 f195:=Tryz.func146.trans (congrArg some (by kernel_rfl))
 f217:=Tryz.func159.trans (congrArg some (by kernel_rfl))
 f218:=Tryz.func147.trans (congrArg some (by kernel_rfl))
 f219:=Tryz.func152.trans (congrArg some (by kernel_rfl))
 f224:=Tryz.func161.trans (congrArg some (by kernel_rfl))
 f225:=Tryz.func160.trans (congrArg some (by kernel_rfl))
 f266:=Tryz.func170.trans (congrArg some (by kernel_rfl))
 f267:=Tryz.func162.trans (congrArg some (by kernel_rfl))
 f314:=Tryz.func171.trans (congrArg some (by kernel_rfl))
 t0:=Tryz.underlying0
 a0:=Tryz.isAgg0
 z0:=Tryz.sizeOf0
 v0:=Tryz.zeroValue0
 t3:=Tryz.underlying3
 a3:=Tryz.isAgg3
 z3:=Tryz.sizeOf3
 v3:=Tryz.zeroValue3
 t4:=Tryz.underlying4
 a4:=Tryz.isAgg4
 z4:=Tryz.sizeOf4
 v4:=Tryz.zeroValue4
 t5:=Tryz.underlying5
 a5:=Tryz.isAgg5
 z5:=Tryz.sizeOf5
 v5:=Tryz.zeroValue5
 t9:=Tryz.underlying9
 a9:=Tryz.isAgg9
 z9:=Tryz.sizeOf9
 v9:=Tryz.zeroValue9
 t46:=Tryz.underlying160
 a46:=Tryz.isAgg160
 z46:=Tryz.sizeOf160
 v46:=Tryz.zeroValue160
 t51:=Tryz.underlying163
 a51:=Tryz.isAgg163
 z51:=Tryz.sizeOf163
 v51:=Tryz.zeroValue163
 t146:=Tryz.underlying167
 a146:=Tryz.isAgg167
 z146:=Tryz.sizeOf167
 v146:=Tryz.zeroValue167
 g1:=by kernel_rfl }
open Go.RowKit Go.Lib in
theorem Tryz.strings_Count_one (s:ByteArray)(c:UInt8)(w:World) :
  Calls Tryz.prog 138 #[.string s,.string ⟨#[c]⟩] w λe w'=>e = .returned (.int .i64 (Lib.countByte s.data.toList c))∧w'=w:=Any.strings_Count_one Tryz.lays138 s c w
end Go.Proofs
namespace Go.Proofs.YtghdglcmblpbeaaGreatDoor
open Go
set_option linter.unusedVariables false
set_option linter.unusedSimpArgs false
open Go Go.RowKit
section
variable {P : Program} {n : Nat} {w0 : World} {M : List Nat} {l : Fr} {H : List Ent} {d : Option Nat} {x y : Operand} {ty t t' : TypeId} {pos : String} {af : Array Edge} {g : Option (Nat × Bool)} {k : IntKind} {p q z : Int}
end
set_option maxRecDepth 100000
end Go.Proofs.YtghdglcmblpbeaaGreatDoor
namespace Go.Proofs.YtghdglcmblpbeaaGreatDoor.Q
open Go Go.RowKit
set_option linter.unusedVariables false
def GE (Z:Fz):Prop:=∀w,Te Z w→RR w
theorem GE.mono {Z Z':Fz}(h:Fz.le Z Z')(hg:GE Z):GE Z':=λw hw=>hg w ⟨λb o e=>hw b o (h b o e),λk i b e=>hw.nm k i b (h.nm k i b e)⟩
theorem NS.rle {P:Program}{E:Fz→Prop}{f:FuncId}{args:List Rp}{r r':Rp}(h:NS P E f args r)(hr:DJ r r'):NS P E f args r':=λw Z vs hv hs=>
 (h w Z vs hv hs).mono λe w' ⟨q,v,H,Z',he,⟨hq,hH⟩,hp,ht⟩=>⟨r',v,H,Z',he,⟨rfl,hH⟩,hr Z' v (hq▸hp),ht⟩
theorem DJ.tup2 {a b:Value}:DJ (rv (.tuple #[a,b])) (Da [rv a,rv b]):=λZ v h=>⟨[a,b],h,rfl,rfl,trivial⟩
theorem NS.of_id {P:Program}{E:Fz→Prop}{f:FuncId}{vs:List Value}{v:Value}(h:∀w,Calls P f vs.toArray w (λe w'=>e = .returned v∧w'=w)):NS P E f (vs.map rv) (rv v):=
 NS.of_old λw Z _ _=>(h w).mono λe w' ⟨he,hw⟩=>⟨he,by rw[hw];exact Proofs.YtghdglcmblpbeaaGreatDoor.St.refl w []⟩
theorem PJ (m:Int)(g:BB .i64 m=true):NS Tryz.prog GE 113 [rI .i64 m] (rS (Lib.itoa m)):=NS.of_old (vs:=[.int .i64 m]) λw Z hf he=>U0 m (GO g).1 (GO g).2 w (he w hf)
theorem WB (m:Int)(g:BB .i64 m=true):NS Tryz.prog GE 105 [rI .i64 m] (rS (Lib.itoa m)):=NS.of_old (vs:=[.int .i64 m]) λw Z hf he=>Ut m (GO g).1 (GO g).2 w (he w hf)
theorem V0 (s:Av)(g:Ey 1 s.length=true):NS Tryz.prog GE 151 [rS s] (Da [rI .i64 (CL s),rI .i64 (CH s)]):=(NS.of_old (vs:=[.string (B s)]) λw Z hf he=>V1 s (by simp[Ey] at g;omega) w (he w hf)).rle DJ.tup2
theorem RJ (s:Av)(c:UInt8):NS Tryz.prog GE 138 [rS s,rS [c]] (rI .i64 (Lib.countByte s c)):=NS.of_id (vs:=[.string (B s),.string (B [c])]) λw=>by have:=Tryz.strings_Count_one (B s) c w;rwa [Rk] at this
open Go Go.RowKit Go.ChangeShapes Go.Deep
set_option linter.unusedSimpArgs false
def ZW (W:World):Fz:=⟨λb=>W.heap[b]?,λ_ _=>none⟩
theorem ZW.frz (W:World):Te (ZW W) W:=⟨λ_ _ h=>h,λ_ _ _ h=>by cases h⟩
def Jn (P:Program)(e:TypeId){α:Type}(enc:α→List Rp)(ok:α→Bool):Prop:=
 ∀{H:Type} {encH:TypeId×Value→H} {W:World} {sp:Nat→Bool} {held:Bool} {n:Nat} {cs:List Value} {x:DataW H×List MemPlace},DataW.trod encH P W 0 sp held n e cs=some x→∃y:α,ok y=true∧Bn (ZW W) (enc y) cs
section
variable {P : Program} {e t : TypeId}
theorem Jn.int {k:IntKind}{enc:Int→List Rp}(ht:P.underlying e=some (.int k))(he:∀n,enc n=[rI k n]):Jn P e enc (BB k):=λh=>by
 obtain⟨n,rfl,_,hwf⟩:=DataW.trod_int ht h;exact⟨n,hwf,by rw[he];exact⟨rfl,trivial⟩⟩
theorem Jn.str {enc:Av→List Rp}(ht:P.underlying e=some .string)(he:∀n,enc n=[rS n]):Jn P e enc R2:=λh=>by
 obtain⟨s,rfl,_,hl⟩:=DataW.trod_string ht h;exact⟨s.data.toList,Y5 (by rw[Array.length_toList];exact hl),by rw[he];exact⟨congrArg Value.string (Yl s),trivial⟩⟩
theorem Jn.bool {enc:Bool→List Rp}(ht:P.underlying e=some .bool)(he:∀n,enc n=[rB n]):Jn P e enc (λ_=>true):=λh=>by
 obtain⟨b,rfl,_⟩:=DataW.trod_bool ht h;exact⟨b,rfl,by rw[he];exact⟨rfl,trivial⟩⟩
theorem NQ {W:World}{a:Addr}{v:Value}(h:W.cell? a=some v):a.spot=none∧Ir (ZW W) a.block a.off=some v:=by
 unfold World.cell? at h;unfold Ir ZW;dsimp only
 cases hh:W.heap[a.block]? with
 | none=>rw[hh] at h;cases h
 | some o=>
  rw[hh] at h
  cases o with
  | cells cs t fz=>
   cases hs:a.spot with
   | none=>simp[hs] at h;exact⟨rfl,h⟩
   | some _=>simp[hs] at h
  | _=>simp at h
theorem Jn.slice {α:Type}[Inhabited α]{enc:α→List Rp}{ok:α→Bool}{sz:Nat}(ht:P.underlying t=some (.slice e))(hc:P.cellsOf e=sz)(hsz:0<sz)(h:Jn P e enc ok)(hlen:∀y,(enc y).length=sz){enc':List α→List Rp}(he:∀ys,enc' ys=[AC sz (ys.map enc)]) :
  Jn P t enc' (λys=>ys.all ok&&decide (ys.length≤9223372036854775807)):=fun {H encH W sp held n cs x} hx=>by
 rcases open_slice ht hx with⟨rfl,_⟩ | ⟨a,len,cap,m,n',D,Pl,rfl,hb,hl,hm,hmm,_,hel⟩
 ·exact⟨[],by simp,by rw[he];exact⟨OM.nil sz _,trivial⟩⟩
 ·have hlm:len≤m:=by rw[hmm];split<;>omega
  have each:∀i,i<len→∃y:α,ok y=true∧∃cs',W.cells? 0 (a.add (i*sz)) sz=some cs'∧Bn (ZW W) (enc y) cs':=λi hi=>by
   obtain⟨cs',h1,h2⟩:=hel i (by omega);obtain⟨y,hy,hr⟩:=h h2;rw[hc] at h1;exact⟨y,hy,cs',h1,hr⟩
  obtain⟨f,hf⟩:=choose_lt each;refine⟨(List.range len).map f,?_,?_⟩
  ·simp only[Y1,YU,List.mem_map,List.mem_range,Yv];refine⟨?_,by simp;simp only[maxLen] at hm;omega⟩;rintro _ ⟨i,hi,rfl⟩;exact(hf i hi).1
  ·rw[he];refine⟨⟨some a,cap,by simp,by simpa using hl,hm,(λh=>by cases h),λi c hi=>?_⟩,trivial⟩;rw[List.map_map,Zc] at hi;have hil:i<len:=by
    cases hq:(List.range len)[i]? with
    | none=>rw[hq] at hi;cases hi
    | some _=>have:=(List.getElem?_eq_some_iff.1 hq).1;simpa using this
   rw[List.getElem?_range hil] at hi;simp only[Option.map_some,Option.some.injEq,Function.comp] at hi;subst hi;obtain⟨_,cs',h1,hr⟩:=hf i hil;obtain⟨_,hcl,hcell⟩:=World.cells?_some h1;have hsp:a.spot=none:=by
    obtain⟨_,cs0,g1,_⟩:=hf 0 (by omega);obtain⟨_,gcl,gcell⟩:=World.cells?_some g1;have h0:=gcell 0 hsz;rw[Y3 (by omega)] at h0;have:=(NQ h0).1;simpa[Addr.add] using this
   refine⟨hlen _,a,rfl,hsp,λj r hj=>?_⟩;obtain⟨u,hu,hp⟩:=hr.at hj;have hjs:j<sz:=by have:=(List.getElem?_eq_some_iff.1 hj).1;rw[hlen] at this;exact this
   have h3:=hcell j hjs;rw[hu] at h3;have h4:=(NQ h3).2;refine⟨u,?_,hp⟩;have e1:((a.add (i*sz)).add j).block=a.block:=by simp only[Addr.add];split<;>split<;>rfl
   have e2:((a.add (i*sz)).add j).off=a.off+(i*sz+j):=by simp only[Addr.add];split<;>split<;>simp_all<;>omega
   rw[e1,e2] at h4;exact h4
theorem Oh {Z:Fz}{cs:List Value}{o:Nat}(h:cs.length=o):Bn Z [] (cs.drop o):=by rw[List.drop_of_length_le (by omega)];trivial
theorem C9 {Z:Fz}{cs:List Value}{o s o':Nat}{rs rs':List Rp}(h:Bn Z rs ((cs.drop o).take s))(ho:o+s=o')(h2:Bn Z rs' (cs.drop o')):Bn Z (rs++rs') (cs.drop o):=by
 rw[← List.take_append_drop s (cs.drop o),List.drop_drop];subst ho;exact h.append h2
theorem Jn.val {α:Type}{enc:α→List Rp}{ok:α→Bool}(h:Jn P e enc ok){r:α→Rp}(he:∀y,enc y=[r y]){H:Type}{encH:TypeId×Value→H}{W:World}{sp:Nat→Bool}{held:Bool}{v:Value}{d:DataW H}{ps:List MemPlace}
  (hone:v.cells = #[v]) (ht:DataW.Trod encH P W 0 sp held e v d ps):∃y:α,ok y=true∧(r y).p (ZW W) v:=by
 obtain⟨fuel,hf⟩:=ht;rw[hone] at hf;obtain⟨y,hy,hr⟩:=h hf;rw[he] at hr;exact⟨y,hy,hr.1⟩
end
theorem Uz {W w:World}(hw:Te (ZW W) w):W.heap.size≤w.heap.size:=by
 rcases Nat.eq_zero_or_pos W.heap.size with h | h
 ·omega
 ·have h1:W.heap[W.heap.size-1]? =some (W.heap[W.heap.size-1]'(by omega)):=Array.getElem?_eq_getElem (by omega);have:=(Array.getElem?_eq_some_iff.1 (hw _ _ h1)).1;omega
theorem SG {W:World}(hE:RR W):GE (ZW W):=λw hw=>by
 have hb:Below W.heap.size W { w with os:=W.os,tape:=W.tape,output:=W.output }:=⟨rfl,rfl,rfl,(show W.heap.size≤w.heap.size from Uz hw),λk hk=>by
  have h1:W.heap[k]? =some (W.heap[k]'hk):=Array.getElem?_eq_getElem hk;rw[h1];exact hw k _ h1⟩
 have hE2:=hE.st0 (St.of_below hb);exact⟨OK.block { w with os:=W.os,tape:=W.tape,output:=W.output } w (λ_ _=>rfl) hE2.tabs,hE2.size⟩
theorem TD {W:World}(hE:RR W):St ⟨W,ZW W,[],GE,[]⟩ [] (ZW W) W where
 os:=rfl
 tape:=rfl
 output:=rfl
 size:=YG _
 old:=λ_ _ _=>rfl
 has:=λ_ h=>by cases h
 own:=λ_ h=>by cases h
 dis:=.nil
 frz:=ZW.frz W
 le:=Fz.le.refl _
 new:=λ_ _ h=>.inl h
 zdis:=λ_ h=>by cases h
 env:=SG hE
 emono:=λh hg=>GE.mono h hg
 gst:=KK.none rfl
theorem TE {W W':World}{Z Z':Fz}{E:Fz→Prop}{H:List Ent}(h:St ⟨W,Z,[],E,[]⟩ H Z' W'):Below W.heap.size W W':=⟨h.os,h.tape,h.output,h.size,λk hk=>h.old k hk (by simp)⟩
open Go
def Lm (l:(List Int)):Option ((List Int)):=
 some l
def IU (l:(List Int))(c:Int):Option (Unit×(List Int)):=
 Be (Lm l) λr1=>AY (Ey 1 (r1.length+([c]:List Int).length))<|some ((),r1++([c]:List Int))
def Hh (l:(List Int))(s:Av):Option (Int×Unit×(List Int)):=
 Be (Lm l) λr1=>AY (Ey 1 (r1.length+s.length))<|some ((s.length:Int),(),r1++EK s)
def Ng (l:Av):Option (Av):=
 AY (decide (0<(EK l).length))<|some l
def Ll (l:(List Int)):Option ((List Int)):=
 some l
def IT (l:(List Int))(c:Int):Option (Unit×(List Int)):=
 Be (Ll l) λr1=>AY (Ey 1 (r1.length+([c]:List Int).length))<|some ((),r1++([c]:List Int))
def Hg (l:(List Int))(s:Av):Option (Int×Unit×(List Int)):=
 Be (Ll l) λr1=>AY (Ey 1 (r1.length+s.length))<|some ((s.length:Int),(),r1++EK s)
def Nf (l:Av):Option (Av):=
 AY (decide (0<(EK l).length))<|some l
set_option maxRecDepth 100000
set_option maxHeartbeats 4000000
theorem PG:∃inf,Tryz.prog.info? 5=some inf∧inf.zero=some (.int .u8 0)∧inf.size=1∧inf.bytes=1:=by
  have key:(Tryz.prog.info? 5).map (λi=>(i.zero,i.size,i.bytes))=some (some (.int .u8 0),1,1):=by kernel_rfl
  obtain⟨inf,h1,h2⟩:=Option.map_eq_some_iff.1 key;simp only[Prod.mk.injEq] at h2;exact⟨inf,h1,h2.1,h2.2.1,h2.2.2⟩
theorem PE:∃j,Tryz.prog.info? 101=some j∧j.size≠0:=by
  have key:(Tryz.prog.info? 101).map (λi=>i.size)=some 2:=by kernel_rfl
  obtain⟨j,h1,h2⟩:=Option.map_eq_some_iff.1 key;exact⟨j,h1,by rw[h2];decide⟩
theorem PF:∃j,Tryz.prog.info? 101=some j:=PE.imp λ_ h=>h.1
theorem Qh (ha:Nat)(hb:Value)(l:(List Int))(r:(List Int))(h:Lm l=some r):Fn Tryz.prog GE 143 [rP ha 0] [.blk ha [rv (.pointer none),rv hb] 101,.row hb 5 1 (A0 B7 l)] (λR H=>∃w0:Value,R=rv (.tuple #[])∧H=[.blk ha [rP ha 0,rv w0] 101,.row w0 5 1 (A0 B7 r)]):=by
 refine enter (n:=20) Tryz.func143 rfl Tryz.ntmps143 rfl (λw Z=>?_);unfold Lm at h;refine Ae (wm rfl (wv (AA rfl) (vF EV rfl Tm (vL 0 Hk rfl (wv (r:=rB true) (Ub ⟨_,Tj⟩ rfl) (Ak (DD rfl rfl (Aj (wm rfl (wm rfl (wv (r:=rP ha 0) (P2 (i:=0) Tj Tryz.underlying149 PE rfl rfl rfl) (B6 (r:=rP ha 0) (V6 Tryz.func150 (by kernel_rfl) (by kernel_rfl) (by kernel_rfl) (by kernel_rfl) rfl) rfl (wv (r:=rP ha 0) (Nu (i:=0) Tryz.underlying149 Tj PF rfl rfl (by kernel_rfl)) (wv (AA rfl) (vF EV rfl Tm (BA (i:=0) Tm rfl rfl (BS rfl) rfl rfl (cs':=[rP ha 0,rv hb]) rfl (H':=[.blk ha [rP ha 0,rv hb] 101,.row hb 5 1 (A0 B7 l)]) rfl (Ai ?_)))))))))))))))));obtain rfl:=An h;exact E7 (Oj Tryz.results143) (sC (sC sN)) ⟨hb,rfl,rfl⟩
theorem N1 (ha:Nat)(hb:Value)(l:(List Int))(c:Int)(r:Unit×(List Int))(h:IU l c=some r):Fn Tryz.prog GE 115 [rP ha 0,rI .u8 c] [.blk ha [rv (.pointer none),rv hb] 101,.row hb 5 1 (A0 B7 l)] (λR H=>∃w0:Value,R=rv (.nilIface)∧H=[.blk ha [rP ha 0,rv w0] 101,.row w0 5 1 (A0 B7 r.2)]):=by
 refine enter (n:=17) Tryz.func115 rfl Tryz.ntmps115 rfl (λw Z=>?_);unfold IU at h;refine Ae (wa rfl (Bc (wm rfl (ob h λr1 e3 h2=>DN (Hr:=[]) Tryz.call143 (Qh ha hb l r1 e3) rfl (Yu _) rfl ?_))));rintro _ _ ⟨v4,rfl,rfl⟩;refine Bc (wm rfl (wm rfl (wv (AA rfl) (vF EV rfl Jo (vL 0 OW rfl (wm rfl (AX (ys:=([c]:List Int)) (enc:=B7) (css:=[[rI .u8 c]]) (xs:=[.tmp 12]) Mj Tryz.sizeOf5 Ya rfl rfl rfl ⟨Ep.one rfl (Up.refl _),trivial⟩ rfl Gp rfl rfl rfl (λb5=>?_))))))));refine ck h2 λg7 h8=>Exists.elim PG λinf hinf=>BZ (xs:=r1) (ys:=([c]:List Int)) (enc:=B7) (i:=2) Mj hinf.1 hinf.2.1 hinf.2.2.1 hinf.2.2.2 rfl rfl rfl rfl rfl (JF.w (i:=0) rfl rfl) Gp Li g7 rfl (λv6=>?_);refine wv (AA rfl) (vF EV rfl Jo (BA (i:=2) Jo rfl rfl (CP (i:=0) rfl) rfl rfl (cs':=[rP ha 0,rv v6]) rfl (H':=[.row v6 5 1 (A0 B7 (r1++([c]:List Int))),.row (.slice (some ⟨b5,0,none⟩) 1 1) 5 1 (A0 B7 ([c]:List Int)),.blk ha [rP ha 0,rv v6] 101]) rfl (Bc (wa rfl (Ak (Ap (C6 (H2:=[.blk ha [rP ha 0,rv v6] 101,.row v6 5 1 (A0 B7 (r1++([c]:List Int))),.row (.slice (some ⟨b5,0,none⟩) 1 1) 5 1 (A0 B7 ([c]:List Int))]) ((A4 (i:=2) rfl).trans (Yw _ (Yu _))) ?_)))))));obtain rfl:=An h8;exact Ao (Bo Tryz.results115 (A5 rfl)) (sC (sC (sS sN))) ⟨v6,rfl,rfl⟩
theorem LJ (ha:Nat)(hb:Value)(l:(List Int))(s:Av)(r:Int×Unit×(List Int))(h:Hh l s=some r):Fn Tryz.prog GE 112 [rP ha 0,rS s] [.blk ha [rv (.pointer none),rv hb] 101,.row hb 5 1 (A0 B7 l)] (λR H=>∃w0:Value,R=Da [Al r.1,rv (.nilIface)]∧H=[.blk ha [rP ha 0,rv w0] 101,.row w0 5 1 (A0 B7 r.2.2)]):=by
 refine enter (n:=19) Tryz.func112 rfl Tryz.ntmps112 rfl (λw Z=>?_);unfold Hh at h;refine Ae (wa rfl (wa rfl (Bc (wm rfl (ob h λr1 e3 h2=>DN (Hr:=[]) Tryz.call143 (Qh ha hb l r1 e3) rfl (Yu _) rfl ?_)))));rintro _ _ ⟨v4,rfl,rfl⟩;refine Bc (wm rfl (wm rfl (wv (AA rfl) (vF EV rfl Jo (vL 0 OW rfl (wm rfl (ck h2 λg6 h7=>Exists.elim PG λinf hinf=>JL (xs:=r1) (i:=1) Mj Dz hinf.1 hinf.2.1 hinf.2.2.1 hinf.2.2.2 rfl rfl rfl g6 rfl (λv5=>?_))))))));refine wv (AA rfl) (vF EV rfl Jo (BA (i:=1) Jo rfl rfl (CP (i:=0) rfl) rfl rfl (cs':=[rP ha 0,rv v5]) rfl (H':=[.row v5 5 1 (A0 B7 (r1++EK s)),.blk ha [rP ha 0,rv v5] 101]) rfl (Bc (wm rfl (wv (BQ Dz rfl) (wa rfl (wa rfl (Ak (Ap (C6 (H2:=[.blk ha [rP ha 0,rv v5] 101,.row v5 5 1 (A0 B7 (r1++EK s))]) ((A4 (i:=1) rfl).trans (Yw _ (Yu _))) ?_))))))))));obtain rfl:=An h7;exact Ao (Dq Tryz.results112 (A5 rfl) (A5 rfl)) (sC (sC sN)) ⟨v5,rfl,rfl⟩
theorem Rg (ha:Nat)(hb:Value)(l:Av)(r:Av)(h:Ng l=some r):Fn Tryz.prog GE 88 [rP ha 0] [.blk ha [rv (.pointer none),rv hb] 101,.row hb 5 1 (A0 B7 (EK l))] (λR H=>R=rS r∧H=[]):=by
 refine enter (n:=14) Tryz.func88 rfl Tryz.ntmps88 rfl (λw Z=>?_);unfold Ng at h;refine Ae (wv (r:=rS ([]:Av)) (AE rfl) (Ak (Am (ck h λg1 h2=>ES (H1:=[.blk ha [rv (.pointer none),rv hb] 101]) [0] [⟨[],rP ha 0,0⟩,⟨[0],rP ha 0,0⟩,⟨[1],rP ha 1,0⟩,⟨[2],rv hb,1⟩,⟨[3],rv (Xo hb),1⟩,⟨[],rP ha 0,0⟩,⟨[5],rP ha 0,0⟩,⟨[6],rP ha 1,0⟩,⟨[7],rv hb,1⟩,⟨[8],Al ((EK l).length:Int),1⟩,⟨[4,9],rS l,2⟩,⟨[10],rS l,0⟩] (rle [(11,_),(2,[.blk ha [rv (.pointer none),rv hb] 101])]) [2] ?_ ?_))))
 ·refine oq (A6 rfl) (oq (AA rfl) (oq (AG EV rfl Jo rfl rfl) (of (Bm (i:=0) OW rfl rfl rfl) (of (L7 (i:=1) rfl rfl (LX g1)) (oq (A6 rfl) (oq (AA rfl) (oq (AG EV rfl Jo rfl rfl) (of (Bm (i:=0) OW rfl rfl rfl) (of (DS (ys:=EK l) (enc:=B7) (i:=1) Mj rfl rfl) (Iv rfl (Xy (IW (i:=1) Tryz.underlying134 (by kernel_rfl) rfl rfl rfl (LX g1) rfl)) ?_))))))))));refine oq (AE rfl) ?_;exact Ct
 refine A7 (Ap ?_);obtain rfl:=An h2;exact Ao (Bo Tryz.results88 (A5 rfl)) (sS sN) ⟨rfl,rfl⟩
theorem Qg (ha:Nat)(hb:Value)(l:(List Int))(r:(List Int))(h:Ll l=some r):Fn Tryz.prog GE 143 [rP ha 0] [.blk ha [rP ha 0,rv hb] 101,.row hb 5 1 (A0 B7 l)] (λR H=>∃w0:Value,R=rv (.tuple #[])∧H=[.blk ha [rP ha 0,rv w0] 101,.row w0 5 1 (A0 B7 r)]):=by
 refine enter (n:=20) Tryz.func143 rfl Tryz.ntmps143 rfl (λw Z=>?_);unfold Ll at h;refine Ae (wm rfl (wv (AA rfl) (vF EV rfl Tm (vL 0 Hk rfl (wv (r:=rB false) (W2 ⟨_,Tj⟩ rfl) (Ak (Hl rfl rfl (Ae (wm rfl (wv (AA rfl) (vF EV rfl Tm (vL 0 Hk rfl (wm rfl (wv (r:=rB false) (QB Tj PF rfl rfl) (Ak (Hl rfl rfl (Aq ?_)))))))))))))))));obtain rfl:=An h;exact E7 (Oj Tryz.results143) (sC (sC sN)) ⟨hb,rfl,rfl⟩
theorem N0 (ha:Nat)(hb:Value)(l:(List Int))(c:Int)(r:Unit×(List Int))(h:IT l c=some r):Fn Tryz.prog GE 115 [rP ha 0,rI .u8 c] [.blk ha [rP ha 0,rv hb] 101,.row hb 5 1 (A0 B7 l)] (λR H=>∃w0:Value,R=rv (.nilIface)∧H=[.blk ha [rP ha 0,rv w0] 101,.row w0 5 1 (A0 B7 r.2)]):=by
 refine enter (n:=17) Tryz.func115 rfl Tryz.ntmps115 rfl (λw Z=>?_);unfold IT at h;refine Ae (wa rfl (Bc (wm rfl (ob h λr1 e3 h2=>DN (Hr:=[]) Tryz.call143 (Qg ha hb l r1 e3) rfl (Yu _) rfl ?_))));rintro _ _ ⟨v4,rfl,rfl⟩;refine Bc (wm rfl (wm rfl (wv (AA rfl) (vF EV rfl Jo (vL 0 OW rfl (wm rfl (AX (ys:=([c]:List Int)) (enc:=B7) (css:=[[rI .u8 c]]) (xs:=[.tmp 12]) Mj Tryz.sizeOf5 Ya rfl rfl rfl ⟨Ep.one rfl (Up.refl _),trivial⟩ rfl Gp rfl rfl rfl (λb5=>?_))))))));refine ck h2 λg7 h8=>Exists.elim PG λinf hinf=>BZ (xs:=r1) (ys:=([c]:List Int)) (enc:=B7) (i:=2) Mj hinf.1 hinf.2.1 hinf.2.2.1 hinf.2.2.2 rfl rfl rfl rfl rfl (JF.w (i:=0) rfl rfl) Gp Li g7 rfl (λv6=>?_);refine wv (AA rfl) (vF EV rfl Jo (BA (i:=2) Jo rfl rfl (CP (i:=0) rfl) rfl rfl (cs':=[rP ha 0,rv v6]) rfl (H':=[.row v6 5 1 (A0 B7 (r1++([c]:List Int))),.row (.slice (some ⟨b5,0,none⟩) 1 1) 5 1 (A0 B7 ([c]:List Int)),.blk ha [rP ha 0,rv v6] 101]) rfl (Bc (wa rfl (Ak (Ap (C6 (H2:=[.blk ha [rP ha 0,rv v6] 101,.row v6 5 1 (A0 B7 (r1++([c]:List Int))),.row (.slice (some ⟨b5,0,none⟩) 1 1) 5 1 (A0 B7 ([c]:List Int))]) ((A4 (i:=2) rfl).trans (Yw _ (Yu _))) ?_)))))));obtain rfl:=An h8;exact Ao (Bo Tryz.results115 (A5 rfl)) (sC (sC (sS sN))) ⟨v6,rfl,rfl⟩
theorem LI (ha:Nat)(hb:Value)(l:(List Int))(s:Av)(r:Int×Unit×(List Int))(h:Hg l s=some r):Fn Tryz.prog GE 112 [rP ha 0,rS s] [.blk ha [rP ha 0,rv hb] 101,.row hb 5 1 (A0 B7 l)] (λR H=>∃w0:Value,R=Da [Al r.1,rv (.nilIface)]∧H=[.blk ha [rP ha 0,rv w0] 101,.row w0 5 1 (A0 B7 r.2.2)]):=by
 refine enter (n:=19) Tryz.func112 rfl Tryz.ntmps112 rfl (λw Z=>?_);unfold Hg at h;refine Ae (wa rfl (wa rfl (Bc (wm rfl (ob h λr1 e3 h2=>DN (Hr:=[]) Tryz.call143 (Qg ha hb l r1 e3) rfl (Yu _) rfl ?_)))));rintro _ _ ⟨v4,rfl,rfl⟩;refine Bc (wm rfl (wm rfl (wv (AA rfl) (vF EV rfl Jo (vL 0 OW rfl (wm rfl (ck h2 λg6 h7=>Exists.elim PG λinf hinf=>JL (xs:=r1) (i:=1) Mj Dz hinf.1 hinf.2.1 hinf.2.2.1 hinf.2.2.2 rfl rfl rfl g6 rfl (λv5=>?_))))))));refine wv (AA rfl) (vF EV rfl Jo (BA (i:=1) Jo rfl rfl (CP (i:=0) rfl) rfl rfl (cs':=[rP ha 0,rv v5]) rfl (H':=[.row v5 5 1 (A0 B7 (r1++EK s)),.blk ha [rP ha 0,rv v5] 101]) rfl (Bc (wm rfl (wv (BQ Dz rfl) (wa rfl (wa rfl (Ak (Ap (C6 (H2:=[.blk ha [rP ha 0,rv v5] 101,.row v5 5 1 (A0 B7 (r1++EK s))]) ((A4 (i:=1) rfl).trans (Yw _ (Yu _))) ?_))))))))));obtain rfl:=An h7;exact Ao (Dq Tryz.results112 (A5 rfl) (A5 rfl)) (sC (sC sN)) ⟨v5,rfl,rfl⟩
theorem Rf (ha:Nat)(hb:Value)(l:Av)(r:Av)(h:Nf l=some r):Fn Tryz.prog GE 88 [rP ha 0] [.blk ha [rP ha 0,rv hb] 101,.row hb 5 1 (A0 B7 (EK l))] (λR H=>R=rS r∧H=[]):=by
 refine enter (n:=14) Tryz.func88 rfl Tryz.ntmps88 rfl (λw Z=>?_);unfold Nf at h;refine Ae (wv (r:=rS ([]:Av)) (AE rfl) (Ak (Am (ck h λg1 h2=>ES (H1:=[.blk ha [rP ha 0,rv hb] 101]) [0] [⟨[],rP ha 0,0⟩,⟨[0],rP ha 0,0⟩,⟨[1],rP ha 1,0⟩,⟨[2],rv hb,1⟩,⟨[3],rv (Xo hb),1⟩,⟨[],rP ha 0,0⟩,⟨[5],rP ha 0,0⟩,⟨[6],rP ha 1,0⟩,⟨[7],rv hb,1⟩,⟨[8],Al ((EK l).length:Int),1⟩,⟨[4,9],rS l,2⟩,⟨[10],rS l,0⟩] (rle [(11,_),(2,[.blk ha [rP ha 0,rv hb] 101])]) [2] ?_ ?_))))
 ·refine oq (A6 rfl) (oq (AA rfl) (oq (AG EV rfl Jo rfl rfl) (of (Bm (i:=0) OW rfl rfl rfl) (of (L7 (i:=1) rfl rfl (LX g1)) (oq (A6 rfl) (oq (AA rfl) (oq (AG EV rfl Jo rfl rfl) (of (Bm (i:=0) OW rfl rfl rfl) (of (DS (ys:=EK l) (enc:=B7) (i:=1) Mj rfl rfl) (Iv rfl (Xy (IW (i:=1) Tryz.underlying134 (by kernel_rfl) rfl rfl rfl (LX g1) rfl)) ?_))))))))));refine oq (AE rfl) ?_;exact Ct
 refine A7 (Ap ?_);obtain rfl:=An h2;exact Ao (Bo Tryz.results88 (A5 rfl)) (sS sN) ⟨rfl,rfl⟩
theorem C1 (b:Nat)(v:Value)(l:Av)(c:Int)(g1:Ey 1 (l.length+1)=true)(g2:BB .u8 c=true):Fn Tryz.prog GE 115 [rP b 0,rI .u8 c] [.bld 101 5 b v l] (λR H=>∃w0:Value,R=rv .nilIface∧H=[.bld 101 5 b w0 (l++[UInt8.ofNat c.toNat])]):=by
  have hc:EK (l++[UInt8.ofNat c.toNat])=EK l++[c]:=by
    have:=(by simpa[BB,IntKind.min,IntKind.max,IntKind.signed,IntKind.bits] using g2:0≤c∧c≤255)
    simp only[EK,List.map_append,Zl,List.map_nil]
    congr 2
    simp;omega
  refine Fn.bld (res:=rv .nilIface) λp hp=>?_;rw[hc];rcases hp with rfl | rfl
  · refine(N1 b v (EK l) c (((),EK l++[c])) ?_).sub (G6.refl _) (λr H h=>by obtain⟨w0,h1,h2⟩:=h;exact⟨w0,h1,h2⟩)
    simp only[IU,Lm,Be,Dw];simp[AY,g1]
  · refine(N0 b v (EK l) c (((),EK l++[c])) ?_).sub (G6.refl _) (λr H h=>by obtain⟨w0,h1,h2⟩:=h;exact⟨w0,h1,h2⟩)
    simp only[IT,Ll,Be,Dw];simp[AY,g1]
theorem GY (b:Nat)(v:Value)(l s:Av)(g1:Ey 1 (l.length+s.length)=true):Fn Tryz.prog GE 112 [rP b 0,rS s] [.bld 101 5 b v l] (λR H=>∃w0:Value,R=Da [Al (s.length:Int),rv .nilIface]∧H=[.bld 101 5 b w0 (l++s)]):=by
  have hc:EK (l++s)=EK l++EK s:=by simp[EK]
  refine Fn.bld (res:=Da [Al (s.length:Int),rv .nilIface]) λp hp=>?_;rw[hc];rcases hp with rfl | rfl
  · refine(LJ b v (EK l) s (((s.length:Int),(),EK l++EK s)) ?_).sub (G6.refl _) (λr H h=>by obtain⟨w0,h1,h2⟩:=h;exact⟨w0,h1,h2⟩)
    simp only[Hh,Lm,Be,Dw];simp[AY,g1]
  · refine(LI b v (EK l) s (((s.length:Int),(),EK l++EK s)) ?_).sub (G6.refl _) (λr H h=>by obtain⟨w0,h1,h2⟩:=h;exact⟨w0,h1,h2⟩)
    simp only[Hg,Ll,Be,Dw];simp[AY,g1]
theorem Tb (b:Nat)(v:Value)(l:Av)(g1:decide (0<l.length)=true):Fn Tryz.prog GE 88 [rP b 0] [.bld 101 5 b v l] (λR H=>R=rS l∧H=[]):=by
  refine Fn.bldS (res:=rS l) λp hp=>?_;rcases hp with rfl | rfl
  · exact Rg b v l l (by simp only[Ng,Dw];simp[AY,g1])
  · exact Rf b v l l (by simp only[Nf,Dw];simp[AY,g1])
end Go.Proofs.YtghdglcmblpbeaaGreatDoor.Q
namespace Go.Proofs.YtghdglcmblpbeaaGreatDoor
open Go
set_option linter.unusedVariables false
structure Aa where
 fKind:Int
 fInt:Int
 fStr:Av
 fN:Int
 deriving DecidableEq,Inhabited
def Jd (s:Av)(ha:Int):Option (Stp (Int) (Out (Bool) (Unit))):=
 AS (decide (ha<(s.length:Int))) (AY (Cu ha (s.length:Int))<|AS (((decide ((Ck s ha)<32))||(decide (126<(Ck s ha))))) (some (.out (.ret false))) (AY (BB .i64 (ha+1))<|some (.next (ha+1)))) (some (.out (.go ())))
def Jc :Option (Bool):=
 some true
def IC (F:Nat)(s:Av):Option (Bool):=
 Be (BG (λσ=>Jd s σ) F 0) (BE λν=>Jc )
def BI (ok:Bool)(i:Int):Option (Int):=
 AS (ok) (AY (BB .i64 (i+1))<|some (i+1)) (some (-1))
def Nr (F:Nat)(c:Aa):Option (Bool):=
 AY (imp (decide (c.fKind=4)) (imp (decide (c.fInt=0)) (imp (decide (c.fN=0)) ((IC F c.fStr).isSome))))<|some ((decide (c.fKind=4))&&((decide (c.fInt=0))&&((decide (c.fN=0))&&(ov (IC F c.fStr)))))
def On (F:Nat)(ha:(List Aa)→Int→Int→Option (Int))(hb:(List Aa)→Int→Int→Option (Int))(v:(List Aa))(i:Int):Option (Int):=
 AS (((decide (i<0))||(decide ((v.length:Int)≤i)))) (some (-1)) (AY (Cu i (v.length:Int))<|AS (decide (((Ax v i).fKind)=1)) (AY (imp (decide (((Ax v i).fInt)=0)) (imp (decide (((Ax v i).fStr)=([]:Av))) ((BI (decide (((Ax v i).fN)=0)) i).isSome)))<|AY (imp (decide (((Ax v i).fInt)=0)) (imp (!(decide (((Ax v i).fStr)=([]:Av)))) ((BI false i).isSome)))<|AY (imp (!(decide (((Ax v i).fInt)=0))) ((BI false i).isSome))<|some (bif decide (((Ax v i).fInt)=0) then(bif decide (((Ax v i).fStr)=([]:Av)) then(ov (BI (decide (((Ax v i).fN)=0)) i)) else(ov (BI false i))) else(ov (BI false i)))) (AS (decide (((Ax v i).fKind)=2)) (AY (imp (decide (((Ax v i).fInt)=0)) (imp (decide (((Ax v i).fStr)=([]:Av))) ((BI (decide (((Ax v i).fN)=0)) i).isSome)))<|AY (imp (decide (((Ax v i).fInt)=0)) (imp (!(decide (((Ax v i).fStr)=([]:Av)))) ((BI false i).isSome)))<|AY (imp (!(decide (((Ax v i).fInt)=0))) (imp (decide (((Ax v i).fInt)=1)) (imp (decide (((Ax v i).fStr)=([]:Av))) ((BI (decide (((Ax v i).fN)=0)) i).isSome))))<|AY (imp (!(decide (((Ax v i).fInt)=0))) (imp (decide (((Ax v i).fInt)=1)) (imp (!(decide (((Ax v i).fStr)=([]:Av)))) ((BI false i).isSome))))<|AY (imp (!(decide (((Ax v i).fInt)=0))) (imp (!(decide (((Ax v i).fInt)=1))) ((BI false i).isSome)))<|some (bif decide (((Ax v i).fInt)=0) then(bif decide (((Ax v i).fStr)=([]:Av)) then(ov (BI (decide (((Ax v i).fN)=0)) i)) else(ov (BI false i))) else(bif decide (((Ax v i).fInt)=1) then(bif decide (((Ax v i).fStr)=([]:Av)) then(ov (BI (decide (((Ax v i).fN)=0)) i)) else(ov (BI false i))) else(ov (BI false i))))) (AS (decide (((Ax v i).fKind)=3)) (AY (imp (decide (((Ax v i).fStr)=([]:Av))) ((BI (decide (((Ax v i).fN)=0)) i).isSome))<|AY (imp (!(decide (((Ax v i).fStr)=([]:Av)))) ((BI false i).isSome))<|some (bif decide (((Ax v i).fStr)=([]:Av)) then(ov (BI (decide (((Ax v i).fN)=0)) i)) else(ov (BI false i)))) (AS (decide (((Ax v i).fKind)=4)) (Be (Nr F (Ax v i)) λhe=>Be (BI he i) λhf=>some hf) (AS (((decide (((Ax v i).fKind)=5))&&((decide (((Ax v i).fInt)=0))&&((decide (((Ax v i).fStr)=([]:Av)))&&(decide (0≤((Ax v i).fN))))))) (AY (BB .i64 (i+1))<|Be (ha v (i+1) ((Ax v i).fN)) λhg=>some hg) (AS (((decide (((Ax v i).fKind)=6))&&((decide (((Ax v i).fInt)=0))&&((decide (((Ax v i).fStr)=([]:Av)))&&(decide (0≤((Ax v i).fN))))))) (AY (BB .i64 (i+1))<|Be (hb v (i+1) ((Ax v i).fN)) λhh=>some hh) (some (-1))))))))
def CG (v:(List Aa))(n:Int)(hf:(List Aa)→Int→Option (Int))(hb:Int)(ha:Int):Option (Stp (Int×Int) (Out (Int) (Int))):=
 AS (decide (ha<n)) (Be (hf v hb) λhe=>AS (decide (he<0)) (some (.out (.ret (-1)))) (AY (BB .i64 (ha+1))<|some (.next (he,ha+1)))) (some (.out (.go hb)))
def DF (ha:Int):Option (Int):=
 some ha
def Ia (F:Nat)(ha:(List Aa)→Int→Option (Int))(v:(List Aa))(i:Int)(n:Int):Option (Int):=
 Be (BG (λσ=>CG v n ha σ.1 σ.2) F (i,0)) (BE λν=>DF ν)
def Dc (F:Nat)(v:(List Aa))(n:Int)(hg:(List Aa)→Int→Option (Int))(ha:Int)(he:Av)(hb:Int):Option (Stp (Int×Av×Int) (Out (Int) (Int))):=
 AS (decide (hb<n)) (AY (imp (!(decide ((v.length:Int)≤ha))) (Cu ha (v.length:Int)))<|AY (imp (!(decide ((v.length:Int)≤ha))) ((Nr F (Ax v ha)).isSome))<|AS (((decide ((v.length:Int)≤ha))||((!(ov (Nr F (Ax v ha))))||((decide (0<hb))&&(CY ((Ax v ha).fStr) he||decide (((Ax v ha).fStr)=he)))))) (some (.out (.ret (-1)))) (AY (Cu ha (v.length:Int))<|AY (BB .i64 (ha+1))<|Be (hg v (ha+1)) λhf=>AS (decide (hf<0)) (some (.out (.ret (-1)))) (AY (BB .i64 (hb+1))<|some (.next (hf,(Ax v ha).fStr,hb+1))))) (some (.out (.go ha)))
def Gk (ha:Int):Option (Int):=
 some ha
def LT (F:Nat)(ha:(List Aa)→Int→Option (Int))(v:(List Aa))(i:Int)(n:Int):Option (Int):=
 Be (BG (λσ=>Dc F v n ha σ.1 σ.2.1 σ.2.2) F (i,([]:Av),0)) (BE λν=>Gk ν)
mutual
def CV:Nat→(List Aa)→Int→Option (Int)
 | 0,_,_=>none
 | nn+1,v,i=>On nn (Gl nn) (KP nn) v i
def Gl:Nat→(List Aa)→Int→Int→Option (Int)
 | 0,_,_,_=>none
 | nn+1,v,i,n=>Ia nn (CV nn) v i n
def KP:Nat→(List Aa)→Int→Int→Option (Int)
 | 0,_,_,_=>none
 | nn+1,v,i,n=>LT nn (CV nn) v i n
end
def Kg (F:Nat)(v:(List Aa)):Option (Bool):=
 AY (imp (decide (0<(v.length:Int))) ((CV F v 0).isSome))<|some ((decide (0<(v.length:Int)))&&(decide ((ov (CV F v 0))=(v.length:Int))))
def CB (F:Nat)(v:(List Aa))(i:Int)(hf:(List Aa)→Int→Option (Int))(he:Int)(hb:Int)(ha:Int):Option (Stp (Int×Int×Int) (Out (Int) (Int))):=
 AS (decide (ha<((Ax v i).fN))) (AS (decide (((Ax v i).fKind)=6)) (AY (BB .i64 (hb+1))<|Be (hf v (hb+1)) λhg=>AS (decide (he<hg)) (Be (CV F v (hb+1)) λhi=>AY (BB .i64 (ha+1))<|some (.next (hg,hi,ha+1))) (Be (CV F v (hb+1)) λhj=>AY (BB .i64 (ha+1))<|some (.next (he,hj,ha+1)))) (Be (hf v hb) λhh=>AS (decide (he<hh)) (Be (CV F v hb) λhk=>AY (BB .i64 (ha+1))<|some (.next (hh,hk,ha+1))) (Be (CV F v hb) λhl=>AY (BB .i64 (ha+1))<|some (.next (he,hl,ha+1))))) (some (.out (.go he)))
def D4 (ha:Int):Option (Int):=
 AY (BB .i64 (ha+1))<|some (ha+1)
def Hv (F:Nat)(ha:(List Aa)→Int→Option (Int))(v:(List Aa))(i:Int):Option (Int):=
 AY (Cu i (v.length:Int))<|AS (((!decide (((Ax v i).fKind)=5))&&(!decide (((Ax v i).fKind)=6)))) (some 1) (AY (BB .i64 (i+1))<|Be (BG (λσ=>CB F v i ha σ.1 σ.2.1 σ.2.2) F (0,i+1,0)) (BE λν=>D4 ν))
def CO:Nat→(List Aa)→Int→Option (Int)
 | 0,_,_=>none
 | nn+1,v,i=>Hv nn (CO nn) v i
def CK (s:Av)(hb:Av)(ha:Int):Option (Stp (Av×Int) (Out (Av) (Av))):=
 AS (decide (ha<(s.length:Int))) (AY (Cu ha (s.length:Int))<|AS (((decide ((Ck s ha)=34))||(decide ((Ck s ha)=92)))) (AY (BB .i64 ((hb.length:Int)+(([92]:Av).length:Int)))<|AY (BB .i64 (ha+1))<|AY (EU ha (ha+1))<|AY (EU (ha+1) (s.length:Int))<|AY (BB .i64 (((hb++([92]:Av)).length:Int)+((List.take (Int.toNat (ha+1)-Int.toNat ha) (List.drop (Int.toNat ha) s)).length:Int)))<|some (.next ((hb++([92]:Av))++(List.take (Int.toNat (ha+1)-Int.toNat ha) (List.drop (Int.toNat ha) s)),ha+1))) (AY (BB .i64 (ha+1))<|AY (EU ha (ha+1))<|AY (EU (ha+1) (s.length:Int))<|AY (BB .i64 ((hb.length:Int)+((List.take (Int.toNat (ha+1)-Int.toNat ha) (List.drop (Int.toNat ha) s)).length:Int)))<|some (.next (hb++(List.take (Int.toNat (ha+1)-Int.toNat ha) (List.drop (Int.toNat ha) s)),ha+1)))) (some (.out (.go hb)))
def Dl (ha:Av):Option (Av):=
 AY (BB .i64 ((ha.length:Int)+(([34]:Av).length:Int)))<|some (ha++([34]:Av))
def HZ (F:Nat)(s:Av):Option (Av):=
 Be (BG (λσ=>CK s σ.1 σ.2) F (([34]:Av),0)) (BE λν=>Dl ν)
def D3 (F:Nat)(v:(List Aa))(i:Int)(hf:(List Aa)→Int→Option (Av))(ha:Av)(hb:Int)(he:Int):Option (Stp (Av×Int×Int) (Out (Av) (Av))):=
 AS (decide (he<((Ax v i).fN))) (AS (decide (0<he)) (AY (BB .i64 ((ha.length:Int)+(([44]:Av).length:Int)))<|AS (decide (((Ax v i).fKind)=6)) (AY (Cu hb (v.length:Int))<|Be (HZ F ((Ax v hb).fStr)) λhg=>AY (BB .i64 (((ha++([44]:Av)).length:Int)+(hg.length:Int)))<|AY (BB .i64 ((((ha++([44]:Av))++hg).length:Int)+(([58]:Av).length:Int)))<|AY (BB .i64 (hb+1))<|Be (hf v (hb+1)) λhi=>AY (BB .i64 (((((ha++([44]:Av))++hg)++([58]:Av)).length:Int)+(hi.length:Int)))<|Be (CV F v (hb+1)) λhm=>AY (BB .i64 (he+1))<|some (.next ((((ha++([44]:Av))++hg)++([58]:Av))++hi,hm,he+1))) (Be (hf v hb) λhj=>AY (BB .i64 (((ha++([44]:Av)).length:Int)+(hj.length:Int)))<|Be (CV F v hb) λhn=>AY (BB .i64 (he+1))<|some (.next ((ha++([44]:Av))++hj,hn,he+1)))) (AS (decide (((Ax v i).fKind)=6)) (AY (Cu hb (v.length:Int))<|Be (HZ F ((Ax v hb).fStr)) λhh=>AY (BB .i64 ((ha.length:Int)+(hh.length:Int)))<|AY (BB .i64 (((ha++hh).length:Int)+(([58]:Av).length:Int)))<|AY (BB .i64 (hb+1))<|Be (hf v (hb+1)) λhk=>AY (BB .i64 ((((ha++hh)++([58]:Av)).length:Int)+(hk.length:Int)))<|Be (CV F v (hb+1)) λho=>AY (BB .i64 (he+1))<|some (.next (((ha++hh)++([58]:Av))++hk,ho,he+1))) (Be (hf v hb) λhl=>AY (BB .i64 ((ha.length:Int)+(hl.length:Int)))<|Be (CV F v hb) λhp=>AY (BB .i64 (he+1))<|some (.next (ha++hl,hp,he+1))))) (some (.out (.go ha)))
def Gy (v:(List Aa))(i:Int)(ha:Av):Option (Av):=
 AS (decide (((Ax v i).fKind)=6)) (AY (BB .i64 ((([123]:Av).length:Int)+(ha.length:Int)))<|AY (BB .i64 (((([123]:Av)++ha).length:Int)+(([125]:Av).length:Int)))<|some ((([123]:Av)++ha)++([125]:Av))) (AY (BB .i64 ((([91]:Av).length:Int)+(ha.length:Int)))<|AY (BB .i64 (((([91]:Av)++ha).length:Int)+(([93]:Av).length:Int)))<|some ((([91]:Av)++ha)++([93]:Av)))
def KN (F:Nat)(ha:(List Aa)→Int→Option (Av))(v:(List Aa))(i:Int):Option (Av):=
 AY (Cu i (v.length:Int))<|AS (decide (((Ax v i).fKind)=1)) (some ([110,117,108,108]:Av)) (AS (decide (((Ax v i).fKind)=2)) (AS (decide (((Ax v i).fInt)=1)) (some ([116,114,117,101]:Av)) (some ([102,97,108,115,101]:Av))) (AS (decide (((Ax v i).fKind)=3)) (AY (BB .i64 ((Ax v i).fInt))<|some (Lib.itoa ((Ax v i).fInt))) (AS (decide (((Ax v i).fKind)=4)) (Be (HZ F ((Ax v i).fStr)) λhb=>some hb) (AY (BB .i64 (i+1))<|Be (BG (λσ=>D3 F v i ha σ.1 σ.2.1 σ.2.2) F (([]:Av),i+1,0)) (BE λν=>Gy v i ν)))))
def EX:Nat→(List Aa)→Int→Option (Av)
 | 0,_,_=>none
 | nn+1,v,i=>KN nn (EX nn) v i
def DG (v:(List Aa))(ha:Int):Option (Stp (Int) (Out (Int) (Unit))):=
 AS (decide (ha<(v.length:Int))) (AY (Cu ha (v.length:Int))<|AS (decide (200<(((Ax v ha).fStr).length:Int))) (some (.out (.ret 3))) (AY (BB .i64 (ha+1))<|some (.next (ha+1)))) (some (.out (.go ())))
def Hw (F:Nat)(v:(List Aa)):Option (Int):=
 Be (EX F v 0) λha=>AS (decide (4000<(ha.length:Int))) (some 3) (some 0)
def DH (v:(List Aa))(ha:Int):Option (Stp (Int) (Out (Int) (Unit))):=
 AS (decide (ha<(v.length:Int))) (AY (Cu ha (v.length:Int))<|AS (((decide (((Ax v ha).fKind)=3))&&((decide (((Ax v ha).fInt)<(-1000000000000)))||(decide (1000000000000<((Ax v ha).fInt)))))) (some (.out (.ret 2))) (AY (BB .i64 (ha+1))<|some (.next (ha+1)))) (some (.out (.go ())))
def Hx (F:Nat)(v:(List Aa)):Option (Int):=
 AY (imp (!(decide (200<(v.length:Int)))) ((CO F v 0).isSome))<|AS (((decide (200<(v.length:Int)))||(decide (8<(ov (CO F v 0)))))) (some 3) (Be (BG (λσ=>DG v σ) F 0) (BE λν=>Hw F v ))
def D5 (F:Nat)(v:(List Aa)):Option (Int):=
 Be (Kg F v) λr1=>AS (!r1) (some 1) (Be (BG (λσ=>DH v σ) F 0) (BE λν=>Hx F v ))
end Go.Proofs.YtghdglcmblpbeaaGreatDoor
namespace Go.Proofs.YtghdglcmblpbeaaGreatDoor.Q
open Go Go.RowKit
set_option linter.unusedVariables false
set_option linter.unusedSimpArgs false
set_option maxRecDepth 100000
set_option maxHeartbeats 4000000
@[reducible] def Ab (x:Aa):List Rp:=[Al x.fKind,Al x.fInt,rS x.fStr,Al x.fN]
theorem Bi (x:Aa):(Ab x).length=4:=rfl
theorem Cv (x:Aa):(Ab x).all (·.one)=true:=rfl
theorem TK (F:Nat)(s:Av)(r:Bool)(h:IC F s=some r):Fn Tryz.prog GE 145 [rS s] [] (λR H=>R=rB r∧H=[]):=by
 refine enter (n:=20) Tryz.func145 rfl Tryz.ntmps145 rfl (λw Z=>?_);unfold IC at h;refine Ae (wa rfl (Ak (Am (Ae (wa rfl (Ak (A3 (ob h λhj hk hh=>Bb (S:=Nat×(Int)×(Unit)) (V:=(Unit)×(Unit)) 0 (λσ=>BG (λσ=>Jd s σ) σ.1 σ.2.1=some hj) (λσ=>[(0,rS s),(3,Al σ.2.1)]) (λσ=>[]) (λσ=>σ.1) (F,0,()) hk (Az.c rfl (Az.c rfl Az.nil)) sN (λσ=>Jc =some r) (λσ=>[]) (λσ=>[]) ?_ ?_))))))))
 ·rintro⟨h0,hb,⟨⟩⟩ hl;refine Bs (l':=[(0,rS s),(3,Al hb)]) (H':=[]) rfl rfl ?_;obtain⟨hm,rfl,t37,he,hg⟩:=BF hl;replace he:Jd s hb=some t37:=he;unfold Jd at he;refine Am (Ae (wm rfl (wm rfl (wv (BQ Dz rfl) (wv (BW rfl rfl) (Ak (cz he rfl (λhn ho=>?_) (λhn hp=>?_))))))))
  ·refine Aq (A7 (Am (A3 (ck ho λhi hq=>AD [(0,rS s),(3,Al hb),(19,rB ((decide ((Ck s hb)<32))||(decide (126<(Ck s hb)))))] [] ?_ ?_))))
   ·refine Aj (wm rfl (wm rfl (wv (BC Dz rfl rfl hi) (wv (BW rfl rfl) (wm rfl (AN (decide ((Ck s hb)<32)) (λha=>?_) (λha=>?_)))))))
    ·refine wf ha (wf ha (wf ha (wf ha (wv (r:=rB true) (Ay rfl ha rfl) (Ai ?_)))));exact BJ ha
    ·refine wo ha (wm rfl (wo ha (wm rfl (wo ha (wv (BC Dz rfl rfl hi) (wo ha (wv (C3 rfl rfl) (Cm rfl ha rfl (Ai ?_)))))))));exact BJ ha
   refine cz hq rfl (λhr hs=>?_) (λhr ht=>?_)
   ·refine Ae (wa rfl (Ak (Ap (At (Ac (Ac (AM ?_)))))));have hu:=Bg hs hg hh;refine At (Ac ?_);obtain rfl:=An hu;exact Ao (Bo Tryz.results145 (A5 rfl)) sN ⟨rfl,rfl⟩
   ·refine Aq (A2 (A7 (Aj (wm rfl (ck ht λhw hx=>wv (Bd rfl rfl hw) (wa rfl (Ai ?_)))))));have hy:=AW hx hg;exact Au (Ar (hm,hb+1,()) ⟨hy,Yy _⟩ (Az.c rfl (Az.c rfl Az.nil)) sN)
  ·refine Bf (As ?_);have hz:=Bu hp hg hh;exact As (AP (Ar ((),()) hz Az.nil sN))
 ·rintro⟨⟨⟩,⟨⟩⟩ hf;refine BK (l':=[]) (H':=[]) rfl rfl ?_;replace hf:Jc =some r:=hf;unfold Jc at hf;refine AV (A7 (Ae (wa rfl (Ak (Ap ?_)))));obtain rfl:=An hf;exact Ao (Bo Tryz.results145 (A5 rfl)) sN ⟨rfl,rfl⟩
theorem D6 (ok:Bool)(i:Int)(r:Int)(h:BI ok i=some r):Fn Tryz.prog GE 126 [rB ok,Al i] [] (λR H=>R=Al r∧H=[]):=by
 refine enter (n:=8) Tryz.func126 rfl Tryz.ntmps126 rfl (λw Z=>?_);unfold BI at h;refine Ae (wa rfl (Ak (Am (Ae (wm rfl (Ak (cz h rfl (λc1 h2=>?_) (λc1 h5=>?_))))))))
 ·refine Ae (wm rfl (ck h2 λg3 h4=>wv (Bd rfl rfl g3) (wa rfl (Ak (Ap (Ac ?_))))));obtain rfl:=An h4;exact Ao (Bo Tryz.results126 (A5 rfl)) sN ⟨rfl,rfl⟩
 ·refine Aq (A7 (Ae (wv (r:=Al (-1)) (AE rfl) (Ak (Ap ?_)))));obtain rfl:=An h5;exact Ao (Bo Tryz.results126 (A5 rfl)) sN ⟨rfl,rfl⟩
theorem TO (F:Nat)(c:Aa)(r:Bool)(h:Nr F c=some r):Fn Tryz.prog GE 127 [B8 (Ab c)] [] (λR H=>R=rB r∧H=[]):=by
 refine enter (n:=21) Tryz.func127 rfl Tryz.ntmps127 rfl (λw Z=>?_);unfold Nr at h;refine Ae (B5 rfl rfl (λb1=>?_));refine wa rfl (Ak (ck h λg2 h3=>AD [(2,rB ((decide (c.fKind=4))&&((decide (c.fInt=0))&&((decide (c.fN=0))&&(ov (IC F c.fStr))))))] [] ?_ ?_))
 ·refine Aj (vF Bl rfl C2 (vL 0 CA rfl (wv (Bh rfl rfl) (wm rfl (AN (decide (c.fKind=4)) (λc4=>?_) (λc4=>?_))))))
  ·refine wo c4 (vF Bl rfl B9 (wo c4 (vL 0 BN rfl (wo c4 (wv (Bh rfl rfl) (Cj rfl c4 rfl (wm rfl (AN (decide (c.fInt=0)) (λc5=>?_) (λc5=>?_)))))))))
   ·refine wo c5 (vF Bl rfl B9 (wo c5 (vL 0 BN rfl (wo c5 (wv (Bh rfl rfl) (Cj rfl c5 rfl (wm rfl (AN (decide (c.fN=0)) (λc6=>?_) (λc6=>?_)))))))))
    ·refine wo c6 (vF Bl rfl C7 (wo c6 (vL 0 CD rfl (wo c6 (BM Tryz.call145 (TK F c.fStr (ov (IC F c.fStr)) (Dg (Ch (Ch (Ch g2 c4) c5) c6))) rfl (Cj rfl c6 rfl (wa rfl (Ai ?_))))))));exact BJ (And.intro c4 (And.intro c5 c6))
    ·refine wf c6 (wf c6 (wf c6 (wv (r:=rB false) (Aw rfl c6 rfl) (wa rfl (Ai ?_)))));exact BJ (And.intro c4 (And.intro c5 c6))
   ·refine wf c5 (wf c5 (wf c5 (wv (r:=rB false) (Aw rfl c5 rfl) (wm rfl (wz rfl rfl (wz rfl rfl (wz rfl rfl (wv (r:=rB false) (Aw (b:=false) rfl rfl rfl) (wa rfl (Ai ?_))))))))));exact BJ (And.intro c4 c5)
  ·refine wf c4 (wf c4 (wf c4 (wv (r:=rB false) (Aw rfl c4 rfl) (wm rfl (wz rfl rfl (wz rfl rfl (wz rfl rfl (wv (r:=rB false) (Aw (b:=false) rfl rfl rfl) (wm rfl (wz rfl rfl (wz rfl rfl (wz rfl rfl (wv (r:=rB false) (Aw (b:=false) rfl rfl rfl) (wa rfl (Ai ?_)))))))))))))));exact BJ c4
 refine Ap ?_;obtain rfl:=An h3;exact Ao (Bo Tryz.results127 (A5 rfl)) sN ⟨rfl,rfl⟩
theorem TM (F:Nat)(ho:(List Aa)→Int→Int→Option (Int))(hp:(List Aa)→Int→Int→Option (Int))(hr:(∀(v:(List Aa)) (i:Int) (n:Int) (r:Int),ho v i n=some r→Fn Tryz.prog GE 128 [AC 4 (A0 Ab v),Al i,Al n] [] (λR H=>R=Al r∧H=[])))(hs:(∀(v:(List Aa)) (i:Int) (n:Int) (r:Int),hp v i n=some r→Fn Tryz.prog GE 129 [AC 4 (A0 Ab v),Al i,Al n] [] (λR H=>R=Al r∧H=[])))(v:(List Aa))(i:Int)(r:Int)(h:On F ho hp v i=some r):Fn Tryz.prog GE 94 [AC 4 (A0 Ab v),Al i] [] (λR H=>R=Al r∧H=[]):=by
 refine enter (n:=127) Tryz.func94 rfl Tryz.ntmps94 rfl (λw Z=>?_);unfold On at h;refine Ae (wa rfl (Ak (Am (AD [(0,AC 4 (A0 Ab v)),(1,Al i),(13,rB ((decide (i<0))||(decide ((v.length:Int)≤i))))] [] ?_ ?_))))
 ·refine Aj (wm rfl (wv (BW rfl rfl) (wm rfl (AN (decide (i<0)) (λc1=>?_) (λc1=>?_)))))
  ·refine wf c1 (wf c1 (wf c1 (wf c1 (wv (r:=rB true) (Ay rfl c1 rfl) (Ai ?_)))));exact BJ c1
  ·refine wo c1 (wm rfl (wo c1 (wm rfl (wo c1 (wv (AF (ys:=v) (enc:=Ab) Br rfl) (wo c1 (wv (ET rfl rfl) (Cm rfl c1 rfl (Ai ?_)))))))));exact BJ c1
 refine cz h rfl (λc2 h3=>?_) (λc2 h4=>?_)
 ·refine Ae (wv (r:=Al (-1)) (AE rfl) (Ak (Ap (Ac ?_))));obtain rfl:=An h3;exact Ao (Bo OS (A5 rfl)) sN ⟨rfl,rfl⟩
 ·refine Aq (A7 (Ae (wm rfl (wm rfl (ck h4 λg5 h6=>wv (AT (enc:=Ab) (ys:=v) Br Bz rfl rfl g5) (wv (Cy Jp Bz rfl rfl rfl) (Cd (cs:=[Al 0,Al 0,rS ([]:Av),Al 0]) GX rfl rfl (λb7=>?_))))))));refine Bj (i:=0) Bz rfl rfl rfl (BP.c rfl) rfl rfl (cs':=[Al ((Ax v i).fKind),Al ((Ax v i).fInt),rS ((Ax v i).fStr),Al ((Ax v i).fN)]) rfl (H':=[.blk b7 (Ab (Ax v i)) 54]) rfl (Ak (Am (Ae (vF Bl rfl C2 (vL 0 CA rfl (wv (Bh rfl rfl) (Ak (cz h6 rfl (λc8 h9=>?_) (λc8 ht=>?_)))))))))
  ·refine ck h9 λhu hw=>ck hw λhx hy=>ck hy λhz h0=>AD [(4,Al (bif decide (((Ax v i).fInt)=0) then(bif decide (((Ax v i).fStr)=([]:Av)) then(ov (BI (decide (((Ax v i).fN)=0)) i)) else(ov (BI false i))) else(ov (BI false i))))] [] ?_ ?_
   ·refine Aj (vF Bl rfl B9 (vL 0 BN rfl (wv (Bh rfl rfl) (wm rfl (AN (decide (((Ax v i).fInt)=0)) (λhb=>?_) (λhb=>?_))))))
    ·refine wo hb (vF Bl rfl C7 (wo hb (vL 0 CD rfl (wo hb (wv (DK rfl rfl) (Cj rfl hb rfl (wm rfl (AN (decide (((Ax v i).fStr)=([]:Av))) (λhf=>?_) (λhf=>?_)))))))))
     ·refine wo hf (vF Bl rfl B9 (wo hf (vL 0 BN rfl (wo hf (wv (Bh rfl rfl) (Cj rfl hf rfl (wm rfl (BM I4 (D6 (decide (((Ax v i).fN)=0)) i (ov (BI (decide (((Ax v i).fN)=0)) i)) (Dg (Ch (Ch hu hb) hf))) rfl (wa rfl (Ai ?_))))))))));exact BJ (And.intro hb hf)
     ·refine wf hf (wf hf (wf hf (wv (r:=rB false) (Aw rfl hf rfl) (wm rfl (BM I4 (D6 false i (ov (BI false i)) (Dg (Cw (Ch hx hb) hf))) rfl (wa rfl (Ai ?_)))))));exact BJ (And.intro hb hf)
    ·refine wf hb (wf hb (wf hb (wv (r:=rB false) (Aw rfl hb rfl) (wm rfl (wz rfl rfl (wz rfl rfl (wz rfl rfl (wv (r:=rB false) (Aw (b:=false) rfl rfl rfl) (wm rfl (BM I4 (D6 false i (ov (BI false i)) (Dg (Cw hz hb))) rfl (wa rfl (Ai ?_))))))))))));exact BJ hb
   refine Ap (Ac ?_);obtain rfl:=An h0;exact Ao (Bo OS (A5 rfl)) sN ⟨rfl,rfl⟩
  ·refine Aq (A7 (Am (Ae (vF Bl rfl C2 (vL 0 CA rfl (wv (Bh rfl rfl) (Ak (cz ht rfl (λh1 h2=>?_) (λh1 h5=>?_)))))))))
   ·refine ck h2 λh7 h8=>ck h8 λhA hB=>ck hB λhC hD=>ck hD λhE hG=>ck hG λhH hI=>AD [(4,Al (bif decide (((Ax v i).fInt)=0) then(bif decide (((Ax v i).fStr)=([]:Av)) then(ov (BI (decide (((Ax v i).fN)=0)) i)) else(ov (BI false i))) else(bif decide (((Ax v i).fInt)=1) then(bif decide (((Ax v i).fStr)=([]:Av)) then(ov (BI (decide (((Ax v i).fN)=0)) i)) else(ov (BI false i))) else(ov (BI false i)))))] [] ?_ ?_
    ·refine Aj (vF Bl rfl B9 (vL 0 BN rfl (wv (Bh rfl rfl) (wm rfl (AN (decide (((Ax v i).fInt)=0)) (λha=>?_) (λha=>?_))))))
     ·refine wf ha (wf ha (wf ha (wv (r:=rB true) (Ay rfl ha rfl) (wm rfl (AR (b:=true) rfl rfl rfl (vF Bl rfl C7 (AR (b:=true) rfl rfl rfl (vL 0 CD rfl (AR (b:=true) rfl rfl rfl (wv (DK rfl rfl) (wv (r:=rB (decide (((Ax v i).fStr)=([]:Av)))) (Ay (b:=true) rfl rfl rfl) (wm rfl (AN (decide (((Ax v i).fStr)=([]:Av))) (λhg=>?_) (λhg=>?_))))))))))))))
      ·refine wo hg (vF Bl rfl B9 (wo hg (vL 0 BN rfl (wo hg (wv (Bh rfl rfl) (Cj rfl hg rfl (wm rfl (BM I4 (D6 (decide (((Ax v i).fN)=0)) i (ov (BI (decide (((Ax v i).fN)=0)) i)) (Dg (Ch (Ch h7 ha) hg))) rfl (wa rfl (Ai ?_))))))))));exact BJ (And.intro ha hg)
      ·refine wf hg (wf hg (wf hg (wv (r:=rB false) (Aw rfl hg rfl) (wm rfl (BM I4 (D6 false i (ov (BI false i)) (Dg (Cw (Ch hA ha) hg))) rfl (wa rfl (Ai ?_)))))));exact BJ (And.intro ha hg)
     ·refine wo ha (vF Bl rfl B9 (wo ha (vL 0 BN rfl (wo ha (wv (Bh rfl rfl) (Cm rfl ha rfl (wm rfl (AN (decide (((Ax v i).fInt)=1)) (λhe=>?_) (λhe=>?_)))))))))
      ·refine wo he (vF Bl rfl C7 (wo he (vL 0 CD rfl (wo he (wv (DK rfl rfl) (Cj rfl he rfl (wm rfl (AN (decide (((Ax v i).fStr)=([]:Av))) (λhh=>?_) (λhh=>?_)))))))))
       ·refine wo hh (vF Bl rfl B9 (wo hh (vL 0 BN rfl (wo hh (wv (Bh rfl rfl) (Cj rfl hh rfl (wm rfl (BM I4 (D6 (decide (((Ax v i).fN)=0)) i (ov (BI (decide (((Ax v i).fN)=0)) i)) (Dg (Ch (Ch (Cw hC ha) he) hh))) rfl (wa rfl (Ai ?_))))))))));exact BJ (And.intro ha (And.intro he hh))
       ·refine wf hh (wf hh (wf hh (wv (r:=rB false) (Aw rfl hh rfl) (wm rfl (BM I4 (D6 false i (ov (BI false i)) (Dg (Cw (Ch (Cw hE ha) he) hh))) rfl (wa rfl (Ai ?_)))))));exact BJ (And.intro ha (And.intro he hh))
      ·refine wf he (wf he (wf he (wv (r:=rB false) (Aw rfl he rfl) (wm rfl (wz rfl rfl (wz rfl rfl (wz rfl rfl (wv (r:=rB false) (Aw (b:=false) rfl rfl rfl) (wm rfl (BM I4 (D6 false i (ov (BI false i)) (Dg (Cw (Cw hH ha) he))) rfl (wa rfl (Ai ?_))))))))))));exact BJ (And.intro ha he)
    refine Ap (Ac ?_);obtain rfl:=An hI;exact Ao (Bo OS (A5 rfl)) sN ⟨rfl,rfl⟩
   ·refine Aq (A7 (Am (Ae (vF Bl rfl C2 (vL 0 CA rfl (wv (Bh rfl rfl) (Ak (cz h5 rfl (λhJ hK=>?_) (λhJ hL=>?_)))))))))
    ·refine ck hK λhN hO=>ck hO λhP hQ=>AD [(4,Al (bif decide (((Ax v i).fStr)=([]:Av)) then(ov (BI (decide (((Ax v i).fN)=0)) i)) else(ov (BI false i))))] [] ?_ ?_
     ·refine Aj (vF Bl rfl C7 (vL 0 CD rfl (wv (DK rfl rfl) (wm rfl (AN (decide (((Ax v i).fStr)=([]:Av))) (λhi=>?_) (λhi=>?_))))))
      ·refine wo hi (vF Bl rfl B9 (wo hi (vL 0 BN rfl (wo hi (wv (Bh rfl rfl) (Cj rfl hi rfl (wm rfl (BM I4 (D6 (decide (((Ax v i).fN)=0)) i (ov (BI (decide (((Ax v i).fN)=0)) i)) (Dg (Ch hN hi))) rfl (wa rfl (Ai ?_))))))))));exact BJ hi
      ·refine wf hi (wf hi (wf hi (wv (r:=rB false) (Aw rfl hi rfl) (wm rfl (BM I4 (D6 false i (ov (BI false i)) (Dg (Cw hP hi))) rfl (wa rfl (Ai ?_)))))));exact BJ hi
     refine Ap (Ac ?_);obtain rfl:=An hQ;exact Ao (Bo OS (A5 rfl)) sN ⟨rfl,rfl⟩
    ·refine Aq (A7 (Am (Ae (vF Bl rfl C2 (vL 0 CA rfl (wv (Bh rfl rfl) (Ak (cz hL rfl (λhR hS=>?_) (λhR hT=>?_)))))))))
     ·refine Ae (wv (AQ (i:=0) Jp Bz rfl rfl rfl rfl) (ob hS λhq hU hV=>BM Tryz.call127 (TO F (Ax v i) hq hU) rfl (wm rfl (ob hV λhW hX hY=>BM I4 (D6 hq i hW hX) rfl (wa rfl (Ak (Ap (Ac ?_))))))));obtain rfl:=An hY;exact Ao (Bo OS (A5 rfl)) (sS sN) ⟨rfl,rfl⟩
     ·refine Aq (A7 (Am (AD [(0,AC 4 (A0 Ab v)),(1,Al i),(5,rP b7 0),(96,rB ((decide (((Ax v i).fKind)=5))&&((decide (((Ax v i).fInt)=0))&&((decide (((Ax v i).fStr)=([]:Av)))&&(decide (0≤((Ax v i).fN)))))))] [.blk b7 (Ab (Ax v i)) 54] ?_ ?_)))
      ·refine Aj (vF Bl rfl C2 (vL 0 CA rfl (wv (Bh rfl rfl) (wm rfl (AN (decide (((Ax v i).fKind)=5)) (λc53=>?_) (λc53=>?_))))))
       ·refine wo c53 (vF Bl rfl B9 (wo c53 (vL 0 BN rfl (wo c53 (wv (Bh rfl rfl) (Cj rfl c53 rfl (wm rfl (AN (decide (((Ax v i).fInt)=0)) (λhk=>?_) (λhk=>?_)))))))))
        ·refine wo hk (vF Bl rfl C7 (wo hk (vL 0 CD rfl (wo hk (wv (DK rfl rfl) (Cj rfl hk rfl (wm rfl (AN (decide (((Ax v i).fStr)=([]:Av))) (λhm=>?_) (λhm=>?_)))))))))
         ·refine wo hm (vF Bl rfl B9 (wo hm (vL 0 BN rfl (wo hm (wv (ET rfl rfl) (Cj rfl hm rfl (Ai ?_)))))));exact BJ (And.intro c53 (And.intro hk hm))
         ·refine wf hm (wf hm (wf hm (wv (r:=rB false) (Aw rfl hm rfl) (Ai ?_))));exact BJ (And.intro c53 (And.intro hk hm))
        ·refine wf hk (wf hk (wf hk (wv (r:=rB false) (Aw rfl hk rfl) (wm rfl (wz rfl rfl (wz rfl rfl (wz rfl rfl (wv (r:=rB false) (Aw (b:=false) rfl rfl rfl) (Ai ?_)))))))));exact BJ (And.intro c53 hk)
       ·refine wf c53 (wf c53 (wf c53 (wv (r:=rB false) (Aw rfl c53 rfl) (wm rfl (wz rfl rfl (wz rfl rfl (wz rfl rfl (wv (r:=rB false) (Aw (b:=false) rfl rfl rfl) (wm rfl (wz rfl rfl (wz rfl rfl (wz rfl rfl (wv (r:=rB false) (Aw (b:=false) rfl rfl rfl) (Ai ?_))))))))))))));exact BJ c53
      refine cz hT rfl (λhZ ga=>?_) (λhZ gb=>?_)
      ·refine Ae (wm rfl (wm rfl (ck ga λgc gd=>wv (Bd rfl rfl gc) (vF Bl rfl B9 (vL 0 BN rfl (ob gd λge gf gg=>BM Tryz.call128 (hr v (i+1) ((Ax v i).fN) ge gf) rfl (wa rfl (Ak (Ap (Ac ?_))))))))));obtain rfl:=An gg;exact Ao (Bo OS (A5 rfl)) (sS sN) ⟨rfl,rfl⟩
      ·refine Aq (A7 (Am (AD [(0,AC 4 (A0 Ab v)),(1,Al i),(5,rP b7 0),(120,rB ((decide (((Ax v i).fKind)=6))&&((decide (((Ax v i).fInt)=0))&&((decide (((Ax v i).fStr)=([]:Av)))&&(decide (0≤((Ax v i).fN)))))))] [.blk b7 (Ab (Ax v i)) 54] ?_ ?_)))
       ·refine Aj (vF Bl rfl C2 (vL 0 CA rfl (wv (Bh rfl rfl) (wm rfl (AN (decide (((Ax v i).fKind)=6)) (λhj=>?_) (λhj=>?_))))))
        ·refine wo hj (vF Bl rfl B9 (wo hj (vL 0 BN rfl (wo hj (wv (Bh rfl rfl) (Cj rfl hj rfl (wm rfl (AN (decide (((Ax v i).fInt)=0)) (λhl=>?_) (λhl=>?_)))))))))
         ·refine wo hl (vF Bl rfl C7 (wo hl (vL 0 CD rfl (wo hl (wv (DK rfl rfl) (Cj rfl hl rfl (wm rfl (AN (decide (((Ax v i).fStr)=([]:Av))) (λhn=>?_) (λhn=>?_)))))))))
          ·refine wo hn (vF Bl rfl B9 (wo hn (vL 0 BN rfl (wo hn (wv (ET rfl rfl) (Cj rfl hn rfl (Ai ?_)))))));exact BJ (And.intro hj (And.intro hl hn))
          ·refine wf hn (wf hn (wf hn (wv (r:=rB false) (Aw rfl hn rfl) (Ai ?_))));exact BJ (And.intro hj (And.intro hl hn))
         ·refine wf hl (wf hl (wf hl (wv (r:=rB false) (Aw rfl hl rfl) (wm rfl (wz rfl rfl (wz rfl rfl (wz rfl rfl (wv (r:=rB false) (Aw (b:=false) rfl rfl rfl) (Ai ?_)))))))));exact BJ (And.intro hj hl)
        ·refine wf hj (wf hj (wf hj (wv (r:=rB false) (Aw rfl hj rfl) (wm rfl (wz rfl rfl (wz rfl rfl (wz rfl rfl (wv (r:=rB false) (Aw (b:=false) rfl rfl rfl) (wm rfl (wz rfl rfl (wz rfl rfl (wz rfl rfl (wv (r:=rB false) (Aw (b:=false) rfl rfl rfl) (Ai ?_))))))))))))));exact BJ hj
       refine cz gb rfl (λgh gi=>?_) (λgh gj=>?_)
       ·refine Ae (wm rfl (wm rfl (ck gi λgl gm=>wv (Bd rfl rfl gl) (vF Bl rfl B9 (vL 0 BN rfl (ob gm λgp gq gr=>BM Tryz.call129 (hs v (i+1) ((Ax v i).fN) gp gq) rfl (wa rfl (Ak (Ap (Ac ?_))))))))));obtain rfl:=An gr;exact Ao (Bo OS (A5 rfl)) (sS sN) ⟨rfl,rfl⟩
       ·refine Aq (A7 (Ae (wv (r:=Al (-1)) (AE rfl) (Ak (Ap ?_)))));obtain rfl:=An gj;exact Ao (Bo OS (A5 rfl)) (sS sN) ⟨rfl,rfl⟩
theorem Oq (F:Nat)(ha:(List Aa)→Int→Option (Int))(hl:(∀(v:(List Aa)) (i:Int) (r:Int),ha v i=some r→Fn Tryz.prog GE 94 [AC 4 (A0 Ab v),Al i] [] (λR H=>R=Al r∧H=[])))(v:(List Aa))(i:Int)(n:Int)(r:Int)(h:Ia F ha v i n=some r):Fn Tryz.prog GE 128 [AC 4 (A0 Ab v),Al i,Al n] [] (λR H=>R=Al r∧H=[]):=by
 refine enter (n:=19) Tryz.func128 rfl Tryz.ntmps128 rfl (λw Z=>?_);unfold Ia at h;refine Ae (wa rfl (Ak (Am (Ae (wa rfl (Ak (A3 (ob h λhm hn hi=>Bb (S:=Nat×(Int×Int)×(Unit)) (V:=(Int)×(Unit)) 0 (λσ=>BG (λσ=>CG v n ha σ.1 σ.2) σ.1 σ.2.1=some hm) (λσ=>[(0,AC 4 (A0 Ab v)),(1,Al σ.2.1.1),(2,Al n),(6,Al 0),(7,Al σ.2.1.2)]) (λσ=>[]) (λσ=>σ.1) (F,(i,0),()) hn (Az.c5 rfl rfl rfl rfl rfl Az.nil) sN (λσ=>DF σ.1=some r) (λσ=>[(1,Al σ.1),(6,Al 0)]) (λσ=>[]) ?_ ?_))))))))
 ·rintro⟨h3,⟨hb,hg⟩,⟨⟩⟩ ho;refine Bs (l':=[(0,AC 4 (A0 Ab v)),(1,Al hb),(2,Al n),(6,Al 0),(7,Al hg)]) (H':=[]) rfl rfl ?_;obtain⟨hp,rfl,hq,he,hh⟩:=BF ho;replace he:CG v n ha hb hg=some hq:=he;unfold CG at he;refine Am (Ae (wm rfl (wm rfl (wv (BW rfl rfl) (Ak (cz he rfl (λc46 hr=>?_) (λc46 hs=>?_)))))))
  ·refine Aq (A7 (Am (A3 (Ae (wm rfl (wm rfl (ob hr λhj ht hu=>BM JG (hl v hb hj ht) rfl (wa rfl (Bc (wm rfl (wv (BW rfl rfl) (Ak (cz hu rfl (λc51 hw=>?_) (λc51 hx=>?_))))))))))))))
   ·refine Ae (wv (r:=Al (-1)) (AE rfl) (Ak (Ap (At (Ac (Ac (AM ?_)))))));have hy:=Bg hw hh hi;refine At (Ac ?_);obtain rfl:=An hy;exact Ao (Bo Tryz.results128 (A5 rfl)) sN ⟨rfl,rfl⟩
   ·refine Aq (A2 (A7 (Aj (wm rfl (ck hx λhz h0=>wv (Bd rfl rfl hz) (wa rfl (Ai ?_)))))));have h1:=AW h0 hh;exact Au (Ar (hp,(hj,hg+1),()) ⟨h1,Yy _⟩ (Az.c5 rfl rfl rfl rfl rfl Az.nil) sN)
  ·refine Bf (As ?_);have h2:=Bu hs hh hi;exact As (AP (Ar (hb,()) h2 (Az.c rfl (Az.c rfl Az.nil)) sN))
 ·rintro⟨hk,⟨⟩⟩ hf;refine BK (l':=[(1,Al hk),(6,Al 0)]) (H':=[]) rfl rfl ?_;replace hf:DF hk=some r:=hf;unfold DF at hf;refine AV (A7 (Ae (wm rfl (wa rfl (Ak (Ap ?_))))));obtain rfl:=An hf;exact Ao (Bo Tryz.results128 (A5 rfl)) sN ⟨rfl,rfl⟩
theorem Ss (F:Nat)(hh:(List Aa)→Int→Option (Int))(hq:(∀(v:(List Aa)) (i:Int) (r:Int),hh v i=some r→Fn Tryz.prog GE 94 [AC 4 (A0 Ab v),Al i] [] (λR H=>R=Al r∧H=[])))(v:(List Aa))(i:Int)(n:Int)(r:Int)(h:LT F hh v i n=some r):Fn Tryz.prog GE 129 [AC 4 (A0 Ab v),Al i,Al n] [] (λR H=>R=Al r∧H=[]):=by
 refine enter (n:=51) Tryz.func129 rfl Tryz.ntmps129 rfl (λw Z=>?_);unfold LT at h;refine Ae (wa rfl (Bc (wv (r:=rS ([]:Av)) (AE rfl) (Ak (Am (Ae (wa rfl (Ak (A3 (ob h λhr hs hm=>Bb (S:=Nat×(Int×Av×Int)×(Unit)) (V:=(Int)×(Unit)) 0 (λσ=>BG (λσ=>Dc F v n hh σ.1 σ.2.1 σ.2.2) σ.1 σ.2.1=some hr) (λσ=>[(0,AC 4 (A0 Ab v)),(1,Al σ.2.1.1),(2,Al n),(7,rS σ.2.1.2.1),(8,Al σ.2.1.2.2)]) (λσ=>[]) (λσ=>σ.1) (F,(i,([]:Av),0),()) hs (Az.c5 rfl rfl rfl rfl rfl Az.nil) sN (λσ=>Gk σ.1=some r) (λσ=>[(1,Al σ.1)]) (λσ=>[]) ?_ ?_))))))))))
 ·rintro⟨hN,⟨hf,hi,hg⟩,⟨⟩⟩ ht;refine Bs (l':=[(0,AC 4 (A0 Ab v)),(1,Al hf),(2,Al n),(7,rS hi),(8,Al hg)]) (H':=[]) rfl rfl ?_;obtain⟨hu,rfl,hw,hj,hk⟩:=BF ht;replace hj:Dc F v n hh hf hi hg=some hw:=hj;unfold Dc at hj;refine Am (Ae (wm rfl (wm rfl (wv (BW rfl rfl) (Ak (cz hj rfl (λhx hy=>?_) (λhx hz=>?_)))))))
  ·refine Aq (A7 (Am (A3 (Am (ck hy λhn h0=>ck h0 λh1 h2=>AD [(0,AC 4 (A0 Ab v)),(1,Al hf),(2,Al n),(8,Al hg),(38,rB ((decide ((v.length:Int)≤hf))||((!(ov (Nr F (Ax v hf))))||((decide (0<hg))&&(CY ((Ax v hf).fStr) hi||decide (((Ax v hf).fStr)=hi))))))] [] ?_ ?_)))))
   ·refine Aj (wm rfl (wm rfl (wv (AF (ys:=v) (enc:=Ab) Br rfl) (wv (ET rfl rfl) (wm rfl (AN (decide ((v.length:Int)≤hf)) (λha=>?_) (λha=>?_)))))))
    ·refine wf ha (wf ha (wf ha (wf ha (wf ha (wf ha (wv (r:=rB true) (Ay rfl ha rfl) (wm rfl (wz rfl rfl (wz rfl rfl (wz rfl rfl (wu (wu (wu (wu (wu (wu (wu (wz rfl rfl (wv (r:=rB true) (Ay (b:=true) rfl rfl rfl) (Ai ?_))))))))))))))))))));exact BJ ha
    ·refine wo ha (wm rfl (wo ha (wm rfl (wo ha (wv (AT (enc:=Ab) (ys:=v) Br Bz rfl rfl (Cw hn ha)) (wo ha (wv (Cy Jp Bz rfl rfl rfl) (wo ha (BM Tryz.call127 (TO F (Ax v hf) (ov (Nr F (Ax v hf))) (Dg (Cw h1 ha))) rfl (wo ha (wv (B4 rfl) (Cm rfl ha rfl (wm rfl (AN (!(ov (Nr F (Ax v hf)))) (λhe=>?_) (λhe=>?_)))))))))))))))
     ·refine wf he (wf he (wf he (wu (wu (wu (wu (wu (wu (wu (wf he (wv (r:=rB true) (Ay rfl he rfl) (Ai ?_))))))))))));exact BJ (And.intro ha he)
     ·refine wo he (wm rfl (wo he (wv (C3 rfl rfl) (wo he (wm rfl (AN (decide (0<hg)) (λhb=>?_) (λhb=>?_)))))))
      ·refine wo hb (wm rfl (wo hb (wm rfl (wo hb (wv (AT (enc:=Ab) (ys:=v) Br Bz rfl rfl (Cw hn ha)) (wo hb (wv (AI Bl rfl C7 rfl rfl) (wo hb (wv (AH CD rfl rfl) (wo hb (wm rfl (wo hb (wv (R3 rfl rfl) (wo he (Cj rfl hb rfl (Cm rfl he rfl (Ai ?_)))))))))))))))));exact BJ (And.intro ha (And.intro he hb))
      ·refine wf hb (wf hb (wf hb (wf hb (wf hb (wf hb (wf hb (wo he (wv (r:=rB false) (Aw rfl hb rfl) (Cm rfl he rfl (Ai ?_))))))))));exact BJ (And.intro ha (And.intro he hb))
   refine cz h2 rfl (λh3 h4=>?_) (λh3 h5=>?_)
   ·refine Ae (wv (r:=Al (-1)) (AE rfl) (Ak (Ap (Ac (At (Ac (Ac (AM ?_))))))));have h6:=Bg h4 hk hm;refine At (Ac ?_);obtain rfl:=An h6;exact Ao (Bo Tryz.results129 (A5 rfl)) sN ⟨rfl,rfl⟩
   ·refine Aq (A7 (Ae (wm rfl (wm rfl (ck h5 λh7 h8=>wv (AT (enc:=Ab) (ys:=v) Br Bz rfl rfl h7) (wv (AI Bl rfl C7 rfl rfl) (wv (AH CD rfl rfl) (wa rfl (Bc (wm rfl (wm rfl (ck h8 λh9 hA=>wv (Bd rfl rfl h9) (ob hA λho hB hC=>BM JG (hq v (hf+1) ho hB) rfl (wa rfl (Bc (wm rfl (wv (BW rfl rfl) (Ak (cz hC rfl (λhD hE=>?_) (λhD hG=>?_))))))))))))))))))))
    ·refine Ae (wv (r:=Al (-1)) (AE rfl) (Ak (Ap (At (Ac (Ac (AM ?_)))))));have hH:=Bg hE hk hm;refine At (Ac ?_);obtain rfl:=An hH;exact Ao (Bo Tryz.results129 (A5 rfl)) sN ⟨rfl,rfl⟩
    ·refine Aq (A2 (A7 (Aj (wm rfl (ck hG λhI hJ=>wv (Bd rfl rfl hI) (wa rfl (Ai ?_)))))));have hK:=AW hJ hk;exact Au (Ar (hu,(ho,(Ax v hf).fStr,hg+1),()) ⟨hK,Yy _⟩ (Az.c5 rfl rfl rfl rfl rfl Az.nil) sN)
  ·refine Bf (As ?_);have hL:=Bu hz hk hm;exact As (AP (Ar (hf,()) hL (Az.c rfl Az.nil) sN))
 ·rintro⟨hp,⟨⟩⟩ hl;refine BK (l':=[(1,Al hp)]) (H':=[]) rfl rfl ?_;replace hl:Gk hp=some r:=hl;unfold Gk at hl;refine AV (A7 (Ae (wm rfl (wa rfl (Ak (Ap ?_))))));obtain rfl:=An hl;exact Ao (Bo Tryz.results129 (A5 rfl)) sN ⟨rfl,rfl⟩
theorem Hu:∀F:Nat,(∀(v:(List Aa)) (i:Int) (r:Int),CV F v i=some r→Fn Tryz.prog GE 94 [AC 4 (A0 Ab v),Al i] [] (λR H=>R=Al r∧H=[]))∧(∀(v:(List Aa)) (i:Int) (n:Int) (r:Int),Gl F v i n=some r→Fn Tryz.prog GE 128 [AC 4 (A0 Ab v),Al i,Al n] [] (λR H=>R=Al r∧H=[]))∧(∀(v:(List Aa)) (i:Int) (n:Int) (r:Int),KP F v i n=some r→Fn Tryz.prog GE 129 [AC 4 (A0 Ab v),Al i,Al n] [] (λR H=>R=Al r∧H=[]))
  | 0=>⟨(λ_ _ _ h=>by simp[CV] at h),(λ_ _ _ _ h=>by simp[Gl] at h),(λ_ _ _ _ h=>by simp[KP] at h)⟩
  | nn+1=>⟨(λv i r h=>TM nn (Gl nn) (KP nn) (Hu nn).2.1 (Hu nn).2.2 v i r (by rw[CV] at h;exact h)),(λv i n r h=>Oq nn (CV nn) (Hu nn).1 v i n r (by rw[Gl] at h;exact h)),(λv i n r h=>Ss nn (CV nn) (Hu nn).1 v i n r (by rw[KP] at h;exact h))⟩
theorem DY (F:Nat)(v:(List Aa))(i:Int)(r:Int)(h:CV F v i=some r):Fn Tryz.prog GE 94 [AC 4 (A0 Ab v),Al i] [] (λR H=>R=Al r∧H=[]):=(Hu F).1 v i r h
theorem Sw (F:Nat)(v:(List Aa))(r:Bool)(h:Kg F v=some r):Fn Tryz.prog GE 74 [AC 4 (A0 Ab v)] [] (λR H=>R=rB r∧H=[]):=by
 refine enter (n:=13) Tryz.func74 rfl Tryz.ntmps74 rfl (λw Z=>?_);unfold Kg at h;refine Ae (wa rfl (Ak (ck h λg1 h2=>AD [(2,rB ((decide (0<(v.length:Int)))&&(decide ((ov (CV F v 0))=(v.length:Int)))))] [] ?_ ?_)))
 ·refine Aj (wm rfl (wv (AF (ys:=v) (enc:=Ab) Br rfl) (wv (C3 rfl rfl) (wm rfl (AN (decide (0<(v.length:Int))) (λc3=>?_) (λc3=>?_))))))
  ·refine wo c3 (wm rfl (wo c3 (BM JG (DY F v 0 (ov (CV F v 0)) (Dg (Ch g1 c3))) rfl (wo c3 (wm rfl (wo c3 (wv (AF (ys:=v) (enc:=Ab) Br rfl) (wo c3 (wv (Bh rfl rfl) (Cj rfl c3 rfl (wa rfl (Ai ?_))))))))))));exact BJ c3
  ·refine wf c3 (wf c3 (wf c3 (wf c3 (wf c3 (wv (r:=rB false) (Aw rfl c3 rfl) (wa rfl (Ai ?_)))))));exact BJ c3
 refine Ap ?_;obtain rfl:=An h2;exact Ao (Bo Tryz.results74 (A5 rfl)) sN ⟨rfl,rfl⟩
theorem Q4 (F:Nat)(hg:(List Aa)→Int→Option (Int))(hk:(∀(v:(List Aa)) (i:Int) (r:Int),hg v i=some r→Fn Tryz.prog GE 75 [AC 4 (A0 Ab v),Al i] [] (λR H=>R=Al r∧H=[])))(v:(List Aa))(i:Int)(r:Int)(h:Hv F hg v i=some r):Fn Tryz.prog GE 75 [AC 4 (A0 Ab v),Al i] [] (λR H=>R=Al r∧H=[]):=by
 refine enter (n:=47) Tryz.func75 rfl Tryz.ntmps75 rfl (λw Z=>?_);unfold Hv at h;refine Ae (wa rfl (Bc (wm rfl (wm rfl (ck h λg1 h2=>wv (AT (enc:=Ab) (ys:=v) Br Bz rfl rfl g1) (wv (Cy Jp Bz rfl rfl rfl) (Cd (cs:=[Al 0,Al 0,rS ([]:Av),Al 0]) GX rfl rfl (λb3=>?_))))))));refine Bj (i:=0) Bz rfl rfl rfl (BP.c rfl) rfl rfl (cs':=[Al ((Ax v i).fKind),Al ((Ax v i).fInt),rS ((Ax v i).fStr),Al ((Ax v i).fN)]) rfl (H':=[.blk b3 (Ab (Ax v i)) 54]) rfl (Ak (Am (AD [(0,AC 4 (A0 Ab v)),(1,Al i),(5,rP b3 0),(21,rB ((!decide (((Ax v i).fKind)=5))&&(!decide (((Ax v i).fKind)=6))))] [.blk b3 (Ab (Ax v i)) 54] ?_ ?_)))
 ·refine Aj (vF Bl rfl C2 (vL 0 CA rfl (wv (Bk rfl rfl) (wm rfl (AN (!decide (((Ax v i).fKind)=5)) (λc4=>?_) (λc4=>?_))))))
  ·refine wo c4 (vF Bl rfl C2 (wo c4 (vL 0 CA rfl (wo c4 (wv (Bk rfl rfl) (Cj rfl c4 rfl (Ai ?_)))))));exact BJ c4
  ·refine wf c4 (wf c4 (wf c4 (wv (r:=rB false) (Aw rfl c4 rfl) (Ai ?_))));exact BJ c4
 refine cz h2 rfl (λc5 h6=>?_) (λc5 h7=>?_)
 ·refine Ae (wa rfl (Ak (Ap (Ac ?_))));obtain rfl:=An h6;exact Ao (Bo Tryz.results75 (A5 rfl)) (sS sN) ⟨rfl,rfl⟩
 ·refine Aq (A7 (Ae (wa rfl (Bc (wm rfl (ck h7 λg8 h9=>wv (Bd rfl rfl g8) (wa rfl (Ak (Am (Ae (wa rfl (Ak (A3 (ob h9 λhs ht hu=>Bb (S:=Nat×(Int×Int×Int)×(Unit)) (V:=(Int)×(Unit)) 0 (λσ=>BG (λσ=>CB F v i hg σ.1 σ.2.1 σ.2.2) σ.1 σ.2.1=some hs) (λσ=>[(0,AC 4 (A0 Ab v)),(5,rP b3 0),(6,Al σ.2.1.1),(7,Al σ.2.1.2.1),(8,Al σ.2.1.2.2)]) (λσ=>[.blk b3 (Ab (Ax v i)) 54]) (λσ=>σ.1) (F,(0,i+1,0),()) ht (Az.c5 rfl rfl rfl rfl rfl Az.nil) (sC sN) (λσ=>D4 σ.1=some r) (λσ=>[(6,Al σ.1)]) (λσ=>[]) ?_ ?_))))))))))))))
  ·rintro⟨gj,⟨he,ha,hb⟩,⟨⟩⟩ hw;refine Bs (l':=[(0,AC 4 (A0 Ab v)),(5,rP b3 0),(6,Al he),(7,Al ha),(8,Al hb)]) (H':=[.blk b3 (Ab (Ax v i)) 54]) rfl rfl ?_;obtain⟨hh,rfl,hx,hi,hf⟩:=BF hw;replace hi:CB F v i hg he ha hb=some hx:=hi;unfold CB at hi;refine Am (Ae (wm rfl (vF Bl rfl B9 (vL 0 BN rfl (wv (BW rfl rfl) (Ak (cz hi rfl (λhy hz=>?_) (λhy h0=>?_))))))))
   ·refine Aq (A7 (Am (A3 (Am (Ae (vF Bl rfl C2 (vL 0 CA rfl (wv (Bh rfl rfl) (Ak (cz hz rfl (λh1 h3=>?_) (λh1 h4=>?_)))))))))))
    ·refine Aj (wm rfl (ck h3 λh5 h8=>wv (Bd rfl rfl h5) (wa rfl (Bc (wm rfl (wm rfl (ob h8 λhl hA hB=>BM Tryz.call75 (hk v (ha+1) hl hA) rfl (wa rfl (Ak (Am (Ae (wm rfl (wm rfl (wv (C3 rfl rfl) (Ak (cz hB rfl (λhC hD=>?_) (λhC hE=>?_)))))))))))))))))
     ·refine Aj (wm rfl (wa rfl (Ak (Aj (wm rfl (wm rfl (ob hD λhm hG hH=>BM JG (DY F v (ha+1) hm hG) rfl (wa rfl (Ai (A2 (A7 (Aj (wm rfl (ck hH λhI hJ=>wv (Bd rfl rfl hI) (wa rfl (Ai ?_))))))))))))))));have hK:=AW hJ hf;exact Au (Ar (hh,(hl,hm,hb+1),()) ⟨hK,Yy _⟩ (Az.c5 rfl rfl rfl rfl rfl Az.nil) (sC sN))
     ·refine Aq (A7 (Aj (wm rfl (wm rfl (ob hE λhn hL hN=>BM JG (DY F v (ha+1) hn hL) rfl (wa rfl (Ai (A2 (A7 (Aj (wm rfl (ck hN λhO hP=>wv (Bd rfl rfl hO) (wa rfl (Ai ?_))))))))))))));have hQ:=AW hP hf;exact Au (Ar (hh,(he,hn,hb+1),()) ⟨hQ,Yy _⟩ (Az.c5 rfl rfl rfl rfl rfl Az.nil) (sC sN))
    ·refine Aq (A7 (Ae (wm rfl (wm rfl (ob h4 λho hR hS=>BM Tryz.call75 (hk v ha ho hR) rfl (wa rfl (Ak (Am (Ae (wm rfl (wm rfl (wv (C3 rfl rfl) (Ak (cz hS rfl (λhT hU=>?_) (λhT hV=>?_)))))))))))))))
     ·refine Aj (wm rfl (wa rfl (Ak (Aj (wm rfl (wm rfl (ob hU λhp hW hX=>BM JG (DY F v ha hp hW) rfl (wa rfl (Ai (A2 (A7 (Aj (wm rfl (ck hX λhY hZ=>wv (Bd rfl rfl hY) (wa rfl (Ai ?_))))))))))))))));have ga:=AW hZ hf;exact Au (Ar (hh,(ho,hp,hb+1),()) ⟨ga,Yy _⟩ (Az.c5 rfl rfl rfl rfl rfl Az.nil) (sC sN))
     ·refine Aq (A7 (Aj (wm rfl (wm rfl (ob hV λhq gb gc=>BM JG (DY F v ha hq gb) rfl (wa rfl (Ai (A2 (A7 (Aj (wm rfl (ck gc λgd ge=>wv (Bd rfl rfl gd) (wa rfl (Ai ?_))))))))))))));have gf:=AW ge hf;exact Au (Ar (hh,(he,hq,hb+1),()) ⟨gf,Yy _⟩ (Az.c5 rfl rfl rfl rfl rfl Az.nil) (sC sN))
   ·refine Bf (As ?_);have gg:=Bu h0 hf hu;exact As (AP (Ar (he,()) gg (Az.c rfl Az.nil) (sS sN)))
  ·rintro⟨hr,⟨⟩⟩ hj;refine BK (l':=[(6,Al hr)]) (H':=[]) rfl rfl ?_;replace hj:D4 hr=some r:=hj;unfold D4 at hj;refine AV (A7 (Ae (wm rfl (ck hj λgh gi=>wv (Bd rfl rfl gh) (wa rfl (Ak (Ap ?_)))))));obtain rfl:=An gi;exact Ao (Bo Tryz.results75 (A5 rfl)) sN ⟨rfl,rfl⟩
theorem L6:∀F:Nat,(∀(v:(List Aa)) (i:Int) (r:Int),CO F v i=some r→Fn Tryz.prog GE 75 [AC 4 (A0 Ab v),Al i] [] (λR H=>R=Al r∧H=[]))
  | 0=>(λ_ _ _ h=>by simp[CO] at h)
  | nn+1=>(λv i r h=>Q4 nn (CO nn) (L6 nn) v i r (by rw[CO] at h;exact h))
theorem Su (F:Nat)(v:(List Aa))(i:Int)(r:Int)(h:CO F v i=some r):Fn Tryz.prog GE 75 [AC 4 (A0 Ab v),Al i] [] (λR H=>R=Al r∧H=[]):=(L6 F) v i r h
theorem KO (F:Nat)(s:Av)(r:Av)(h:HZ F s=some r):Fn Tryz.prog GE 106 [rS s] [] (λR H=>R=rS r∧H=[]):=by
 refine enter (n:=32) Tryz.func106 rfl Tryz.ntmps106 rfl (λw Z=>?_);unfold HZ at h;refine Ae (wv (r:=rS ([]:Av)) (AE rfl) (Bc (wv (r:=rS ([34]:Av)) (AE rfl) (Ak (Am (Ae (wa rfl (Ak (A3 (ob h λhn ho hp=>Bb (S:=Nat×(Av×Int)×(Unit)) (V:=(Av)×(Unit)) 0 (λσ=>BG (λσ=>CK s σ.1 σ.2) σ.1 σ.2.1=some hn) (λσ=>[(0,rS s),(3,rS σ.2.1.1),(4,Al σ.2.1.2)]) (λσ=>[]) (λσ=>σ.1) (F,(([34]:Av),0),()) ho (Az.c rfl (Az.c rfl (Az.c rfl Az.nil))) sN (λσ=>Dl σ.1=some r) (λσ=>[(3,rS σ.1)]) (λσ=>[]) ?_ ?_))))))))))
 ·rintro⟨hN,⟨he,ha⟩,⟨⟩⟩ hq;refine Bs (l':=[(0,rS s),(3,rS he),(4,Al ha)]) (H':=[]) rfl rfl ?_;obtain⟨hi,rfl,hr,hf,hh⟩:=BF hq;replace hf:CK s he ha=some hr:=hf;unfold CK at hf;refine Am (Ae (wm rfl (wm rfl (wv (BQ Dz rfl) (wv (BW rfl rfl) (Ak (cz hf rfl (λhs ht=>?_) (λhs hu=>?_))))))))
  ·refine Aq (A7 (Am (A3 (Am (ck ht λhj hw=>AD [(0,rS s),(3,rS he),(4,Al ha),(20,rB ((decide ((Ck s ha)=34))||(decide ((Ck s ha)=92))))] [] ?_ ?_)))))
   ·refine Aj (wm rfl (wm rfl (wv (BC Dz rfl rfl hj) (wv (Bh rfl rfl) (wm rfl (AN (decide ((Ck s ha)=34)) (λhb=>?_) (λhb=>?_)))))))
    ·refine wf hb (wf hb (wf hb (wf hb (wv (r:=rB true) (Ay rfl hb rfl) (Ai ?_)))));exact BJ hb
    ·refine wo hb (wm rfl (wo hb (wm rfl (wo hb (wv (BC Dz rfl rfl hj) (wo hb (wv (Bh rfl rfl) (Cm rfl hb rfl (Ai ?_)))))))));exact BJ hb
   refine cz hw rfl (λhx hy=>?_) (λhx hz=>?_)
   ·refine Aj (wm rfl (ck hy λh0 h1=>wv (Dt rfl rfl h0) (wa rfl (Ak (Aj (wm rfl (wm rfl (wm rfl (wm rfl (ck h1 λhk h2=>wv (Bd rfl rfl hk) (ck h2 λh3 h4=>ck h4 λh5 h6=>wv (Ie Dz rfl rfl rfl h3 h5) (ck h6 λh7 h8=>wv (Dt rfl rfl h7) (wa rfl (Ai (A2 (A7 (Aj (wm rfl ?_))))))))))))))))));refine wv (Bd rfl rfl hk) (wa rfl (Ai ?_));have h9:=AW h8 hh;exact Au (Ar (hi,((he++([92]:Av))++(List.take (By (ha+1)-By ha) (List.drop (By ha) s)),ha+1),()) ⟨h9,Yy _⟩ (Az.c rfl (Az.c rfl (Az.c rfl Az.nil))) sN)
   ·refine Aq (A7 (Aj (wm rfl (wm rfl (wm rfl (wm rfl (ck hz λhl hA=>wv (Bd rfl rfl hl) (ck hA λhB hC=>ck hC λhD hE=>wv (Ie Dz rfl rfl rfl hB hD) (ck hE λhG hH=>wv (Dt rfl rfl hG) (wa rfl (Ai (A2 (A7 (Aj (wm rfl (wv (Bd rfl rfl hl) (wa rfl (Ai ?_))))))))))))))))));have hI:=AW hH hh;exact Au (Ar (hi,(he++(List.take (By (ha+1)-By ha) (List.drop (By ha) s)),ha+1),()) ⟨hI,Yy _⟩ (Az.c rfl (Az.c rfl (Az.c rfl Az.nil))) sN)
  ·refine Bf (As ?_);have hJ:=Bu hu hh hp;exact As (AP (Ar (he,()) hJ (Az.c rfl Az.nil) sN))
 ·rintro⟨hm,⟨⟩⟩ hg;refine BK (l':=[(3,rS hm)]) (H':=[]) rfl rfl ?_;replace hg:Dl hm=some r:=hg;unfold Dl at hg;refine AV (A7 (Ae (wm rfl (ck hg λhK hL=>wv (Dt rfl rfl hK) (wa rfl (Ak (Ap ?_)))))));obtain rfl:=An hL;exact Ao (Bo Tryz.results106 (A5 rfl)) sN ⟨rfl,rfl⟩
theorem TI (F:Nat)(hg:(List Aa)→Int→Option (Av))(hh:(∀(v:(List Aa)) (i:Int) (r:Av),hg v i=some r→Fn Tryz.prog GE 76 [AC 4 (A0 Ab v),Al i] [] (λR H=>R=rS r∧H=[])))(v:(List Aa))(i:Int)(r:Av)(h:KN F hg v i=some r):Fn Tryz.prog GE 76 [AC 4 (A0 Ab v),Al i] [] (λR H=>R=rS r∧H=[]):=by
 refine enter (n:=77) Tryz.func76 rfl Tryz.ntmps76 rfl (λw Z=>?_);unfold KN at h;refine Ae (wv (r:=rS ([]:Av)) (AE rfl) (Bc (wm rfl (wm rfl (ck h λg1 h2=>wv (AT (enc:=Ab) (ys:=v) Br Bz rfl rfl g1) (wv (Cy Jp Bz rfl rfl rfl) (Cd (cs:=[Al 0,Al 0,rS ([]:Av),Al 0]) GX rfl rfl (λb3=>?_))))))));refine Bj (i:=0) Bz rfl rfl rfl (BP.c rfl) rfl rfl (cs':=[Al ((Ax v i).fKind),Al ((Ax v i).fInt),rS ((Ax v i).fStr),Al ((Ax v i).fN)]) rfl (H':=[.blk b3 (Ab (Ax v i)) 54]) rfl (Ak (Am (Ae (vF Bl rfl C2 (vL 0 CA rfl (wv (Bh rfl rfl) (Ak (cz h2 rfl (λc4 h5=>?_) (λc4 h6=>?_)))))))))
 ·refine Ae (wv (r:=rS ([110,117,108,108]:Av)) (AE rfl) (Ak (Ap (Ac ?_))));obtain rfl:=An h5;exact Ao (Bo Ql (A5 rfl)) (sS sN) ⟨rfl,rfl⟩
 ·refine Aq (A7 (Am (Ae (vF Bl rfl C2 (vL 0 CA rfl (wv (Bh rfl rfl) (Ak (cz h6 rfl (λc7 h8=>?_) (λc7 hx=>?_)))))))))
  ·refine Am (Ae (vF Bl rfl B9 (vL 0 BN rfl (wv (Bh rfl rfl) (Ak (cz h8 rfl (λc9 hy=>?_) (λc9 hz=>?_)))))))
   ·refine Ae (wv (r:=rS ([116,114,117,101]:Av)) (AE rfl) (Ak (Ap (Ac (Ac ?_)))));obtain rfl:=An hy;exact Ao (Bo Ql (A5 rfl)) (sS sN) ⟨rfl,rfl⟩
   ·refine Aq (A7 (Ae (wv (r:=rS ([102,97,108,115,101]:Av)) (AE rfl) (Ak (Ap (Ac ?_))))));obtain rfl:=An hz;exact Ao (Bo Ql (A5 rfl)) (sS sN) ⟨rfl,rfl⟩
  ·refine Aq (A7 (Am (Ae (vF Bl rfl C2 (vL 0 CA rfl (wv (Bh rfl rfl) (Ak (cz hx rfl (λh0 h1=>?_) (λh0 h3=>?_)))))))))
   ·refine Ae (vF Bl rfl B9 (vL 0 BN rfl (ck h1 λg15 h4=>JK (rs:=[Al ((Ax v i).fInt)]) (r:=rS (Lib.itoa ((Ax v i).fInt))) Tryz.call105 rfl (WB ((Ax v i).fInt) g15) rfl rfl (wa rfl (Ak (Ap (Ac ?_)))))));obtain rfl:=An h4;exact Ao (Bo Ql (A5 rfl)) (sS sN) ⟨rfl,rfl⟩
   ·refine Aq (A7 (Am (Ae (vF Bl rfl C2 (vL 0 CA rfl (wv (Bh rfl rfl) (Ak (cz h3 rfl (λh7 h9=>?_) (λh7 hA=>?_)))))))))
    ·refine Ae (vF Bl rfl C7 (vL 0 CD rfl (ob h9 λhB hC hD=>BM Tryz.call106 (KO F ((Ax v i).fStr) hB hC) rfl (wa rfl (Ak (Ap (Ac ?_)))))));obtain rfl:=An hD;exact Ao (Bo Ql (A5 rfl)) (sS sN) ⟨rfl,rfl⟩
    ·refine Aq (A7 (Ae (wv (r:=rS ([]:Av)) (AE rfl) (Bc (wm rfl (ck hA λhE hG=>wv (Bd rfl rfl hE) (wa rfl (Ak (Am (Ae (wa rfl (Ak (A3 (ob hG λhH hI hJ=>Bb (S:=Nat×(Av×Int×Int)×(Unit)) (V:=(Av)×(Unit)) 0 (λσ=>BG (λσ=>D3 F v i hg σ.1 σ.2.1 σ.2.2) σ.1 σ.2.1=some hH) (λσ=>[(0,AC 4 (A0 Ab v)),(4,rS ([]:Av)),(5,rP b3 0),(6,rS σ.2.1.1),(7,Al σ.2.1.2.1),(8,Al σ.2.1.2.2)]) (λσ=>[.blk b3 (Ab (Ax v i)) 54]) (λσ=>σ.1) (F,(([]:Av),i+1,0),()) hI (Az.c rfl (Az.c5 rfl rfl rfl rfl rfl Az.nil)) (sC sN) (λσ=>Gy v i σ.1=some r) (λσ=>[(4,rS ([]:Av)),(5,rP b3 0),(6,rS σ.1)]) (λσ=>[.blk b3 (Ab (Ax v i)) 54]) ?_ ?_))))))))))))))
     ·rintro⟨cl,⟨hb,ha,he⟩,⟨⟩⟩ hK;refine Bs (l':=[(0,AC 4 (A0 Ab v)),(4,rS ([]:Av)),(5,rP b3 0),(6,rS hb),(7,Al ha),(8,Al he)]) (H':=[.blk b3 (Ab (Ax v i)) 54]) rfl rfl ?_;obtain⟨hi,rfl,hL,hj,hf⟩:=BF hK;replace hj:D3 F v i hg hb ha he=some hL:=hj;unfold D3 at hj;refine Am (Ae (wm rfl (vF Bl rfl B9 (vL 0 BN rfl (wv (BW rfl rfl) (Ak (cz hj rfl (λhN hO=>?_) (λhN hP=>?_))))))))
      ·refine Aq (A7 (Am (A3 (Am (Ae (wm rfl (wv (C3 rfl rfl) (Ak (cz hO rfl (λhQ hR=>?_) (λhQ hS=>?_))))))))))
       ·refine Aj (wm rfl (ck hR λhT hU=>wv (Dt rfl rfl hT) (wa rfl (Ak (Am (Ae (vF Bl rfl C2 (vL 0 CA rfl (wv (Bh rfl rfl) (Ak (cz hU rfl (λc233 hV=>?_) (λc233 hW=>?_))))))))))))
        ·refine Ae (wm rfl (wm rfl (wm rfl (ck hV λhX hY=>wv (AT (enc:=Ab) (ys:=v) Br Bz rfl rfl hX) (wv (AI Bl rfl C7 rfl rfl) (wv (AH CD rfl rfl) (ob hY λhl hZ ga=>BM Tryz.call106 (KO F ((Ax v ha).fStr) hl hZ) rfl (ck ga λgb gc=>wv (Dt rfl rfl gb) (ck gc λgd ge=>wv (Dt rfl rfl gd) (wa rfl (Ak (Aj (wm rfl (ck ge λgf gg=>wv (Bd rfl rfl gf) (wa rfl (Bc (wm rfl (wm rfl ?_))))))))))))))))));refine wm rfl (ob gg λhm gh gi=>BM Tu (hh v (ha+1) hm gh) rfl (ck gi λgj gl=>wv (Dt rfl rfl gj) (wa rfl (Ak (Aj (wm rfl (wm rfl (ob gl λhn gm gp=>BM JG (DY F v (ha+1) hn gm) rfl (wa rfl (Ai (A2 (A7 (Aj (wm rfl (ck gp λgq gr=>wv (Bd rfl rfl gq) (wa rfl (Ai ?_)))))))))))))))));have gs:=AW gr hf;exact Au (Ar (hi,((((hb++([44]:Av))++hl)++([58]:Av))++hm,hn,he+1),()) ⟨gs,Yy _⟩ (Az.c rfl (Az.c5 rfl rfl rfl rfl rfl Az.nil)) (sC sN))
        ·refine Aq (A7 (Ae (wm rfl (wm rfl (wm rfl (ob hW λho gt gu=>BM Tu (hh v ha ho gt) rfl (ck gu λgv gw=>wv (Dt rfl rfl gv) (wa rfl (Ak (Aj (wm rfl (wm rfl (ob gw λhp gx gy=>BM JG (DY F v ha hp gx) rfl (wa rfl (Ai (A2 (A7 (Aj (wm rfl (ck gy λgz g0=>?_))))))))))))))))))));refine wv (Bd rfl rfl gz) (wa rfl (Ai ?_));have g2:=AW g0 hf;exact Au (Ar (hi,((hb++([44]:Av))++ho,hp,he+1),()) ⟨g2,Yy _⟩ (Az.c rfl (Az.c5 rfl rfl rfl rfl rfl Az.nil)) (sC sN))
       ·refine Aq (A7 (Am (Ae (vF Bl rfl C2 (vL 0 CA rfl (wv (Bh rfl rfl) (Ak (cz hS rfl (λg3 g4=>?_) (λg3 g5=>?_)))))))))
        ·refine Ae (wm rfl (wm rfl (wm rfl (ck g4 λg6 g7=>wv (AT (enc:=Ab) (ys:=v) Br Bz rfl rfl g6) (wv (AI Bl rfl C7 rfl rfl) (wv (AH CD rfl rfl) (ob g7 λhq g8 g9=>BM Tryz.call106 (KO F ((Ax v ha).fStr) hq g8) rfl (ck g9 λgA gB=>wv (Dt rfl rfl gA) (ck gB λgC gD=>wv (Dt rfl rfl gC) (wa rfl (Ak (Aj (wm rfl (ck gD λgE gF=>wv (Bd rfl rfl gE) (wa rfl (Bc (wm rfl (wm rfl ?_))))))))))))))))));refine wm rfl (ob gF λhr gG gH=>BM Tu (hh v (ha+1) hr gG) rfl (ck gH λgI gJ=>wv (Dt rfl rfl gI) (wa rfl (Ak (Aj (wm rfl (wm rfl (ob gJ λhs gK gL=>BM JG (DY F v (ha+1) hs gK) rfl (wa rfl (Ai (A2 (A7 (Aj (wm rfl (ck gL λgM gN=>wv (Bd rfl rfl gM) (wa rfl (Ai ?_)))))))))))))))));have gO:=AW gN hf;exact Au (Ar (hi,(((hb++hq)++([58]:Av))++hr,hs,he+1),()) ⟨gO,Yy _⟩ (Az.c rfl (Az.c5 rfl rfl rfl rfl rfl Az.nil)) (sC sN))
        ·refine Aq (A7 (Ae (wm rfl (wm rfl (wm rfl (ob g5 λht gP gQ=>BM Tu (hh v ha ht gP) rfl (ck gQ λgR gS=>wv (Dt rfl rfl gR) (wa rfl (Ak (Aj (wm rfl (wm rfl (ob gS λhu gT gU=>BM JG (DY F v ha hu gT) rfl (wa rfl (Ai (A2 (A7 (Aj (wm rfl (ck gU λgV gW=>?_))))))))))))))))))));refine wv (Bd rfl rfl gV) (wa rfl (Ai ?_));have gX:=AW gW hf;exact Au (Ar (hi,(hb++ht,hu,he+1),()) ⟨gX,Yy _⟩ (Az.c rfl (Az.c5 rfl rfl rfl rfl rfl Az.nil)) (sC sN))
      ·refine Bf (As ?_);have gY:=Bu hP hf hJ;exact As (AP (Ar (hb,()) gY (Az.c rfl (Az.c rfl (Az.c rfl Az.nil))) (sC sN)))
     ·rintro⟨hw,⟨⟩⟩ hk;refine BK (l':=[(4,rS ([]:Av)),(5,rP b3 0),(6,rS hw)]) (H':=[.blk b3 (Ab (Ax v i)) 54]) rfl rfl ?_;replace hk:Gy v i hw=some r:=hk;unfold Gy at hk;refine AV (A7 (Am (Ae (vF Bl rfl C2 (vL 0 CA rfl (wv (Bh rfl rfl) (Ak (cz hk rfl (λgZ ca=>?_) (λgZ cb=>?_)))))))))
      ·refine Ae (wm rfl (ck ca λcc cd=>wv (Dt rfl rfl cc) (ck cd λce cf=>wv (Dt rfl rfl ce) (wa rfl (Ak (Ap (Ac ?_)))))));obtain rfl:=An cf;exact Ao (Bo Ql (A5 rfl)) (sS sN) ⟨rfl,rfl⟩
      ·refine Aq (A7 (Ae (wm rfl (ck cb λcg ch=>wv (Dt rfl rfl cg) (ck ch λci cj=>wv (Dt rfl rfl ci) (wa rfl (Ak (Ap ?_))))))));obtain rfl:=An cj;exact Ao (Bo Ql (A5 rfl)) (sS sN) ⟨rfl,rfl⟩
theorem NA:∀F:Nat,(∀(v:(List Aa)) (i:Int) (r:Av),EX F v i=some r→Fn Tryz.prog GE 76 [AC 4 (A0 Ab v),Al i] [] (λR H=>R=rS r∧H=[]))
  | 0=>(λ_ _ _ h=>by simp[EX] at h)
  | nn+1=>(λv i r h=>TI nn (EX nn) (NA nn) v i r (by rw[EX] at h;exact h))
theorem Vu (F:Nat)(v:(List Aa))(i:Int)(r:Av)(h:EX F v i=some r):Fn Tryz.prog GE 76 [AC 4 (A0 Ab v),Al i] [] (λR H=>R=rS r∧H=[]):=(NA F) v i r h
theorem Gz (F:Nat)(v:(List Aa))(r:Int)(h:D5 F v=some r):Fn Tryz.prog GE 34 [AC 4 (A0 Ab v)] [] (λR H=>R=Al r∧H=[]):=by
 refine enter (n:=61) Tryz.func34 rfl Tryz.ntmps34 rfl (λw Z=>?_);unfold D5 at h;refine Ae (wa rfl (Ak (Am (Ae (wm rfl (ob h λr1 e3 h2=>BM Tryz.call74 (Sw F v r1 e3) rfl (wv (B4 rfl) (Ak (cz h2 rfl (λc4 h5=>?_) (λc4 h6=>?_))))))))))
 ·refine Ae (wa rfl (Ak (Ap (Ac ?_))));obtain rfl:=An h5;exact Ao (Bo RU (A5 rfl)) sN ⟨rfl,rfl⟩
 ·refine Aq (A7 (Am (Ae (wa rfl (Ak (A3 (ob h6 λhq hr ho=>Bb (S:=Nat×(Int)×(Unit)) (V:=(Unit)×(Unit)) 0 (λσ=>BG (λσ=>DH v σ) σ.1 σ.2.1=some hq) (λσ=>[(0,AC 4 (A0 Ab v)),(3,Al σ.2.1)]) (λσ=>[]) (λσ=>σ.1) (F,0,()) hr (Az.c rfl (Az.c rfl Az.nil)) sN (λσ=>Hx F v =some r) (λσ=>[(0,AC 4 (A0 Ab v))]) (λσ=>[]) ?_ ?_)))))))
  ·rintro⟨gf,hf,⟨⟩⟩ hs;refine Bs (l':=[(0,AC 4 (A0 Ab v)),(3,Al hf)]) (H':=[]) rfl rfl ?_;obtain⟨ht,rfl,t46,hg,hk⟩:=BF hs;replace hg:DH v hf=some t46:=hg;unfold DH at hg;refine Am (Ae (wm rfl (wm rfl (wv (AF (ys:=v) (enc:=Ab) Br rfl) (wv (BW rfl rfl) (Ak (cz hg rfl (λhu hw=>?_) (λhu hx=>?_))))))))
   ·refine Aq (A7 (Am (A3 (ck hw λhl hy=>AD [(0,AC 4 (A0 Ab v)),(3,Al hf),(35,rB ((decide (((Ax v hf).fKind)=3))&&((decide (((Ax v hf).fInt)<(-1000000000000)))||(decide (1000000000000<((Ax v hf).fInt))))))] [] ?_ ?_))))
    ·refine Aj (wm rfl (wm rfl (wv (AT (enc:=Ab) (ys:=v) Br Bz rfl rfl hl) (wv (AI Bl rfl C2 rfl rfl) (wv (AH CA rfl rfl) (wv (Bh rfl rfl) (wm rfl (AN (decide (((Ax v hf).fKind)=3)) (λha=>?_) (λha=>?_)))))))))
     ·refine wo ha (wm rfl (wo ha (wm rfl (wo ha (wv (AT (enc:=Ab) (ys:=v) Br Bz rfl rfl hl) (wo ha (wv (AI Bl rfl B9 rfl rfl) (wo ha (wv (AH BN rfl rfl) (wo ha (wv (BW rfl rfl) (wo ha (wm rfl (AN (decide (((Ax v hf).fInt)<(-1000000000000))) (λhb=>?_) (λhb=>?_)))))))))))))))
      ·refine wf hb (wf hb (wf hb (wf hb (wf hb (wf hb (wo ha (wv (r:=rB true) (Ay rfl hb rfl) (Cj rfl ha rfl (Ai ?_)))))))));exact BJ (And.intro ha hb)
      ·refine wo hb (wm rfl (wo hb (wm rfl (wo hb (wv (AT (enc:=Ab) (ys:=v) Br Bz rfl rfl hl) (wo hb (wv (AI Bl rfl B9 rfl rfl) (wo hb (wv (AH BN rfl rfl) (wo hb (wv (C3 rfl rfl) (wo ha (Cm rfl hb rfl (Cj rfl ha rfl (Ai ?_)))))))))))))));exact BJ (And.intro ha hb)
     ·refine wf ha (wf ha (wf ha (wf ha (wf ha (wf ha (wf ha (wu (wu (wu (wu (wu (wu (wf ha (wv (r:=rB false) (Aw rfl ha rfl) (Ai ?_)))))))))))))));exact BJ ha
    refine cz hy rfl (λhz h0=>?_) (λhz h1=>?_)
    ·refine Ae (wa rfl (Ak (Ap (At (Ac (Ac (AM ?_)))))));have h3:=Bg h0 hk ho;refine At (Ac ?_);obtain rfl:=An h3;exact Ao (Bo RU (A5 rfl)) sN ⟨rfl,rfl⟩
    ·refine Aq (A2 (A7 (Aj (wm rfl (ck h1 λh4 h7=>wv (Bd rfl rfl h4) (wa rfl (Ai ?_)))))));have h8:=AW h7 hk;exact Au (Ar (ht,hf+1,()) ⟨h8,Yy _⟩ (Az.c rfl (Az.c rfl Az.nil)) sN)
   ·refine Bf (As ?_);have h9:=Bu hx hk ho;exact As (AP (Ar ((),()) h9 (Az.c rfl Az.nil) sN))
  ·rintro⟨⟨⟩,⟨⟩⟩ hh;refine BK (l':=[(0,AC 4 (A0 Ab v))]) (H':=[]) rfl rfl ?_;replace hh:Hx F v =some r:=hh;unfold Hx at hh;refine AV (A7 (Am (ck hh λhA hB=>AD [(0,AC 4 (A0 Ab v)),(43,rB ((decide (200<(v.length:Int)))||(decide (8<(ov (CO F v 0))))))] [] ?_ ?_)))
   ·refine Aj (wm rfl (wv (AF (ys:=v) (enc:=Ab) Br rfl) (wv (C3 rfl rfl) (wm rfl (AN (decide (200<(v.length:Int))) (λhe=>?_) (λhe=>?_))))))
    ·refine wf he (wf he (wf he (wv (r:=rB true) (Ay rfl he rfl) (Ai ?_))));exact BJ he
    ·refine wo he (wm rfl (wo he (BM Tryz.call75 (Su F v 0 (ov (CO F v 0)) (Dg (Cw hA he))) rfl (wo he (wv (C3 rfl rfl) (Cm rfl he rfl (Ai ?_)))))));exact BJ he
   refine cz hB rfl (λhC hD=>?_) (λhC hE=>?_)
   ·refine Ae (wa rfl (Ak (Ap (Ac ?_))));obtain rfl:=An hD;exact Ao (Bo RU (A5 rfl)) sN ⟨rfl,rfl⟩
   ·refine Aq (A7 (Am (Ae (wa rfl (Ak (A3 (ob hE λhG hH hp=>Bb (S:=Nat×(Int)×(Unit)) (V:=(Unit)×(Unit)) 2 (λσ=>BG (λσ=>DG v σ) σ.1 σ.2.1=some hG) (λσ=>[(0,AC 4 (A0 Ab v)),(4,Al σ.2.1)]) (λσ=>[]) (λσ=>σ.1) (F,0,()) hH (Az.c rfl (Az.c rfl Az.nil)) sN (λσ=>Hw F v =some r) (λσ=>[(0,AC 4 (A0 Ab v))]) (λσ=>[]) ?_ ?_)))))))
    ·rintro⟨gg,hm,⟨⟩⟩ hI;refine Bs (l':=[(0,AC 4 (A0 Ab v)),(4,Al hm)]) (H':=[]) rfl rfl ?_;obtain⟨hJ,rfl,hK,hi,hn⟩:=BF hI;replace hi:DG v hm=some hK:=hi;unfold DG at hi;refine Am (Ae (wm rfl (wm rfl (wv (AF (ys:=v) (enc:=Ab) Br rfl) (wv (BW rfl rfl) (Ak (cz hi rfl (λhL hN=>?_) (λhL hO=>?_))))))))
     ·refine Aq (A7 (Am (A3 (Ae (wm rfl (wm rfl (ck hN λhP hQ=>wv (AT (enc:=Ab) (ys:=v) Br Bz rfl rfl hP) (wv (AI Bl rfl C7 rfl rfl) (wv (AH CD rfl rfl) (wv (BQ Dz rfl) (wv (C3 rfl rfl) (Ak (cz hQ rfl (λhR hS=>?_) (λhR hT=>?_))))))))))))))
      ·refine Ae (wa rfl (Ak (Ap (At (Ac (Ac (AM ?_)))))));have hU:=Bg hS hn hp;refine At (Ac ?_);obtain rfl:=An hU;exact Ao (Bo RU (A5 rfl)) sN ⟨rfl,rfl⟩
      ·refine Aq (A2 (A7 (Aj (wm rfl (ck hT λhV hW=>wv (Bd rfl rfl hV) (wa rfl (Ai ?_)))))));have hX:=AW hW hn;exact Au (Ar (hJ,hm+1,()) ⟨hX,Yy _⟩ (Az.c rfl (Az.c rfl Az.nil)) sN)
     ·refine Bf (As ?_);have hY:=Bu hO hn hp;exact As (AP (Ar ((),()) hY (Az.c rfl Az.nil) sN))
    ·rintro⟨⟨⟩,⟨⟩⟩ hj;refine BK (l':=[(0,AC 4 (A0 Ab v))]) (H':=[]) rfl rfl ?_;replace hj:Hw F v =some r:=hj;unfold Hw at hj;refine AV (A7 (Am (Ae (wm rfl (ob hj λhZ ga gb=>BM Tu (Vu F v 0 hZ ga) rfl (wv (BQ Dz rfl) (wv (C3 rfl rfl) (Ak (cz gb rfl (λgc gd=>?_) (λgc ge=>?_))))))))))
     ·refine Ae (wa rfl (Ak (Ap (Ac ?_))));obtain rfl:=An gd;exact Ao (Bo RU (A5 rfl)) sN ⟨rfl,rfl⟩
     ·refine Aq (A7 (Ae (wa rfl (Ak (Ap ?_)))));obtain rfl:=An ge;exact Ao (Bo RU (A5 rfl)) sN ⟨rfl,rfl⟩
end Go.Proofs.YtghdglcmblpbeaaGreatDoor.Q
namespace Go.Proofs.YtghdglcmblpbeaaGreatDoor
open Go
set_option linter.unusedVariables false
structure AB where
 fPairs:Bool
 fLeft:Int
 fKey:Bool
 fLast:Av
 fStarted:Bool
 deriving DecidableEq,Inhabited
structure AK where
 fDepth:Int
 fBytes:Int
 fOutside:Bool
 fLong:Bool
 deriving DecidableEq,Inhabited
def Bv (n:Int):Option (Bool):=
 some ((decide ((-1000000000000)≤n))&&(decide (n≤1000000000000)))
def Hn (s:Av)(ha:Int):Option (Stp (Int) (Out (Bool) (Unit))):=
 AS (decide (ha<(s.length:Int))) (AY (Cu ha (s.length:Int))<|AS (((decide ((Ck s ha)<32))||(decide (126<(Ck s ha))))) (some (.out (.ret false))) (AY (BB .i64 (ha+1))<|some (.next (ha+1)))) (some (.out (.go ())))
def Hm :Option (Bool):=
 some true
def JN (F:Nat)(s:Av):Option (Bool):=
 Be (BG (λσ=>Hn s σ) F 0) (BE λν=>Hm )
def IZ (s:Av):Option (Int):=
 AY (BB .i64 ((s.length:Int)+2))<|AY (BB .i64 (((s.length:Int)+2)+(Lib.countByte s 34:Int)))<|AY (BB .i64 ((((s.length:Int)+2)+(Lib.countByte s 34:Int))+(Lib.countByte s 92:Int)))<|some ((((s.length:Int)+2)+(Lib.countByte s 34:Int))+(Lib.countByte s 92:Int))
def My (F:Nat)(c:Aa):Option (Bool):=
 AS (decide (c.fKind=1)) (some ((decide (c.fInt=0))&&((decide (c.fStr=([]:Av)))&&(decide (c.fN=0))))) (AS (decide (c.fKind=2)) (some (bif decide (c.fInt=0) then((decide (c.fStr=([]:Av)))&&(decide (c.fN=0))) else((decide (c.fInt=1))&&((decide (c.fStr=([]:Av)))&&(decide (c.fN=0)))))) (AS (decide (c.fKind=3)) (some ((decide (c.fStr=([]:Av)))&&(decide (c.fN=0)))) (AS (decide (c.fKind=4)) (AY (imp (decide (c.fInt=0)) (imp (decide (c.fN=0)) ((JN F c.fStr).isSome)))<|some ((decide (c.fInt=0))&&((decide (c.fN=0))&&(ov (JN F c.fStr))))) (AS (decide (c.fKind=5)) (some ((decide (c.fInt=0))&&((decide (c.fStr=([]:Av)))&&(decide (0≤c.fN))))) (AS (decide (c.fKind=6)) (some ((decide (c.fInt=0))&&((decide (c.fStr=([]:Av)))&&(decide (0≤c.fN))))) (some false))))))
def Pa (c:Aa):Option (Int):=
 AS (decide (c.fKind=1)) (some 4) (AS (decide (c.fKind=2)) (some (IntKind.wrap .i64 (5-c.fInt))) (AS (decide (c.fKind=3)) (AY (BB .i64 c.fInt)<|some ((Lib.itoa c.fInt).length:Int)) (AS (decide (c.fKind=4)) (Be (IZ c.fStr) λha=>some ha) (some (IntKind.wrap .i64 (2+(max 0 (IntKind.wrap .i64 (c.fN-1)))))))))
def D2 (ha:(List AB)):Option (Stp ((List AB)) (Out ((List AB)) ((List AB)))):=
 AS (decide (0<(ha.length:Int))) (AY (BB .i64 ((ha.length:Int)-1))<|AY (Cu ((ha.length:Int)-1) (ha.length:Int))<|AY (BB .i64 (((Ax ha ((ha.length:Int)-1)).fLeft)-1))<|KJ (List.set ha (Int.toNat ((ha.length:Int)-1)) (AB.mk ((Ax ha ((ha.length:Int)-1)).fPairs) (((Ax ha ((ha.length:Int)-1)).fLeft)-1) ((Ax ha ((ha.length:Int)-1)).fKey) ((Ax ha ((ha.length:Int)-1)).fLast) ((Ax ha ((ha.length:Int)-1)).fStarted))) λhb=>AS (decide (0<((Ax hb ((ha.length:Int)-1)).fLeft))) (KJ (List.set hb (Int.toNat ((ha.length:Int)-1)) (AB.mk ((Ax hb ((ha.length:Int)-1)).fPairs) ((Ax hb ((ha.length:Int)-1)).fLeft) ((Ax hb ((ha.length:Int)-1)).fPairs) ((Ax hb ((ha.length:Int)-1)).fLast) ((Ax hb ((ha.length:Int)-1)).fStarted))) λhe=>some (.out (.ret he))) (AY (BB .i64 ((hb.length:Int)-1))<|AY (EU ((hb.length:Int)-1) (hb.length:Int))<|some (.next (List.take (Int.toNat ((hb.length:Int)-1)) hb)))) (some (.out (.go ha)))
def Ea (ha:(List AB)):Option ((List AB)):=
 some ha
def JX (F:Nat)(stack:(List AB)):Option ((List AB)):=
 Be (BG (λσ=>D2 σ) F stack) (BE λν=>Ea ν)
def DQ (ha:Int)(hb:(List AB))(he:AK):Option (Stp ((List AB)×Int×AK) (Out (Int×AK×Bool) (AK))):=
 AY (BB .i64 (ha+1))<|some (.next (hb,ha+1,he))
def D1 (F:Nat)(v:(List Aa))(ha:(List AB))(hb:Int)(he:AK):Option (Stp ((List AB)×Int×AK) (Out (Int×AK×Bool) (AK))):=
 AS (decide (hb<(v.length:Int))) (AY (Cu hb (v.length:Int))<|Be (My F (Ax v hb)) λhk=>AS (!hk) (some (.out (.ret (0,he,false)))) (AY (imp (decide (0<(ha.length:Int))) (BB .i64 ((ha.length:Int)-1)))<|AY (imp (decide (0<(ha.length:Int))) (Cu ((ha.length:Int)-1) (ha.length:Int)))<|AS (((decide (0<(ha.length:Int)))&&((Ax ha ((ha.length:Int)-1)).fKey))) (AY (BB .i64 ((ha.length:Int)-1))<|AY (Cu ((ha.length:Int)-1) (ha.length:Int))<|AS (((!decide (((Ax v hb).fKind)=4))||(((Ax ha ((ha.length:Int)-1)).fStarted)&&(CY ((Ax v hb).fStr) ((Ax ha ((ha.length:Int)-1)).fLast)||decide (((Ax v hb).fStr)=((Ax ha ((ha.length:Int)-1)).fLast)))))) (some (.out (.ret (0,he,false)))) (KJ (List.set ha (Int.toNat ((ha.length:Int)-1)) (AB.mk ((Ax ha ((ha.length:Int)-1)).fPairs) ((Ax ha ((ha.length:Int)-1)).fLeft) ((Ax ha ((ha.length:Int)-1)).fKey) ((Ax v hb).fStr) ((Ax ha ((ha.length:Int)-1)).fStarted))) λhf=>KJ (List.set hf (Int.toNat ((ha.length:Int)-1)) (AB.mk ((Ax hf ((ha.length:Int)-1)).fPairs) ((Ax hf ((ha.length:Int)-1)).fLeft) ((Ax hf ((ha.length:Int)-1)).fKey) ((Ax hf ((ha.length:Int)-1)).fLast) true)) λhg=>KJ (List.set hg (Int.toNat ((ha.length:Int)-1)) (AB.mk ((Ax hg ((ha.length:Int)-1)).fPairs) ((Ax hg ((ha.length:Int)-1)).fLeft) false ((Ax hg ((ha.length:Int)-1)).fLast) ((Ax hg ((ha.length:Int)-1)).fStarted))) λhl=>Be (IZ ((Ax v hb).fStr)) λhi=>AY (BB .i64 (hi+1))<|DQ hb hl (AK.mk he.fDepth (IntKind.wrap .i64 (he.fBytes+(hi+1))) he.fOutside (he.fLong||(decide (200<(((Ax v hb).fStr).length:Int))))))) (AY (BB .i64 ((ha.length:Int)+1))<|Be (Pa (Ax v hb)) λhh=>AY (imp (!he.fOutside) (imp (decide (((Ax v hb).fKind)=3)) ((Bv ((Ax v hb).fInt)).isSome)))<|AS (decide (0<((Ax v hb).fN))) (AS (decide ((v.length:Int)<((Ax v hb).fN))) (some (.out (.ret (0,(AK.mk (max he.fDepth ((ha.length:Int)+1)) (IntKind.wrap .i64 (he.fBytes+hh)) (he.fOutside||((decide (((Ax v hb).fKind)=3))&&(!(ov (Bv ((Ax v hb).fInt)))))) (he.fLong||(decide (200<(((Ax v hb).fStr).length:Int))))),false)))) (AY (Ey 48 (ha.length+([(AB.mk (decide (((Ax v hb).fKind)=6)) ((Ax v hb).fN) (decide (((Ax v hb).fKind)=6)) ([]:Av) false)]:List AB).length))<|DQ hb (ha++([(AB.mk (decide (((Ax v hb).fKind)=6)) ((Ax v hb).fN) (decide (((Ax v hb).fKind)=6)) ([]:Av) false)]:List AB)) (AK.mk (max he.fDepth ((ha.length:Int)+1)) (IntKind.wrap .i64 (he.fBytes+hh)) (he.fOutside||((decide (((Ax v hb).fKind)=3))&&(!(ov (Bv ((Ax v hb).fInt)))))) (he.fLong||(decide (200<(((Ax v hb).fStr).length:Int))))))) (Be (JX F ha) λhj=>AS (decide ((hj.length:Int)=0)) (AY (BB .i64 (hb+1))<|some (.out (.ret (hb+1,(AK.mk (max he.fDepth ((ha.length:Int)+1)) (IntKind.wrap .i64 (he.fBytes+hh)) (he.fOutside||((decide (((Ax v hb).fKind)=3))&&(!(ov (Bv ((Ax v hb).fInt)))))) (he.fLong||(decide (200<(((Ax v hb).fStr).length:Int))))),true)))) (DQ hb hj (AK.mk (max he.fDepth ((ha.length:Int)+1)) (IntKind.wrap .i64 (he.fBytes+hh)) (he.fOutside||((decide (((Ax v hb).fKind)=3))&&(!(ov (Bv ((Ax v hb).fInt)))))) (he.fLong||(decide (200<(((Ax v hb).fStr).length:Int)))))))))) (some (.out (.go he)))
def JS (ha:AK):Option (Int×AK×Bool):=
 some (0,ha,false)
def E5 (F:Nat)(v:(List Aa)):Option (Int×AK×Bool):=
 Be (BG (λσ=>D1 F v σ.1 σ.2.1 σ.2.2) F (([]:List AB),0,(AK.mk 0 0 false false))) (BE λν=>JS ν)
def Dk (F:Nat)(v:(List Aa)):Option (Int):=
 Be (E5 F v) λr1=>AS (((!r1.2.2)||(!decide (r1.1=(v.length:Int))))) (some 1) (AS (r1.2.1.fOutside) (some 2) (AS ((r1.2.1.fLong||((decide (200<(v.length:Int)))||((decide (8<r1.2.1.fDepth))||(decide (4000<r1.2.1.fBytes)))))) (some 3) (some 0)))
def EJ (F:Nat)(v:(List Aa)):Option ((List Aa)×Int):=
 Be (Dk F v) λr1=>AS (!decide (r1=0)) (some (([]:List Aa),r1)) (some (v,0))
def Vn (F:Nat)(n:Int):Option ((List Aa)×Int):=
 Be (EJ F ([(Aa.mk 3 n ([]:Av) 0)]:List Aa)) λr2=>some (r2.1,r2.2)
def Ob (F:Nat)(s:Av):Option ((List Aa)×Int):=
 Be (EJ F ([(Aa.mk 4 0 s 0)]:List Aa)) λr2=>some (r2.1,r2.2)
def JU (F:Nat)(l:(List (List Aa)))(hb:(List Aa))(ha:Int):Option (Stp ((List Aa)×Int) (Out ((List Aa)×Int) ((List Aa)))):=
 AS (decide (ha<(l.length:Int))) (AY (Cu ha (l.length:Int))<|Be (Dk F (Ax l ha)) λhe=>AS (!decide (he=0)) (some (.out (.ret (([]:List Aa),he)))) (AY (Ey 40 (hb.length+(Ax l ha).length))<|AY (BB .i64 (ha+1))<|some (.next (hb++(Ax l ha),ha+1)))) (some (.out (.go hb)))
def JT (F:Nat)(hb:(List Aa)):Option ((List Aa)×Int):=
 Be (EJ F hb) λha=>some (ha.1,ha.2)
def N5 (F:Nat)(l:(List (List Aa))):Option ((List Aa)×Int):=
 Be (BG (λσ=>JU F l σ.1 σ.2) F (([(Aa.mk 5 0 ([]:Av) (l.length:Int))]:List Aa),0)) (BE λν=>JT F ν)
end Go.Proofs.YtghdglcmblpbeaaGreatDoor
namespace Go.Proofs.YtghdglcmblpbeaaGreatDoor.Q
open Go Go.RowKit
set_option linter.unusedVariables false
set_option linter.unusedSimpArgs false
set_option maxRecDepth 100000
set_option maxHeartbeats 4000000
@[reducible] def A9 (x:AB):List Rp:=[rB x.fPairs,Al x.fLeft,rB x.fKey,rS x.fLast,rB x.fStarted]
theorem Iz (x:AB):(A9 x).length=5:=rfl
theorem LG (x:AB):(A9 x).all (·.one)=true:=rfl
@[reducible] def AO (x:AK):List Rp:=[Al x.fDepth,Al x.fBytes,rB x.fOutside,rB x.fLong]
@[reducible] def Af (x:(List Aa)):List Rp:=[AC 4 (A0 Ab x)]
theorem B2 (x:(List Aa)):(Af x).length=1:=rfl
theorem Dp (x:(List Aa)):(Af x).all (·.one)=true:=rfl
theorem G2:∃inf,Tryz.prog.info? 54=some inf∧inf.zero=some (.agg #[(.int .i64 0),(.int .i64 0),(.string ⟨#[]⟩),(.int .i64 0)])∧inf.size=4∧inf.bytes=40:=by
  have key:(Tryz.prog.info? 54).map (λi=>(i.zero,i.size,i.bytes))=some (some (.agg #[(.int .i64 0),(.int .i64 0),(.string ⟨#[]⟩),(.int .i64 0)]),4,40):=by kernel_rfl
  obtain⟨inf,h1,h2⟩:=Option.map_eq_some_iff.1 key;simp only[Prod.mk.injEq] at h2;exact⟨inf,h1,h2.1,h2.2.1,h2.2.2⟩
theorem VL:∃inf,Tryz.prog.info? 118=some inf∧inf.zero=some (.agg #[(.bool false),(.int .i64 0),(.bool false),(.string ⟨#[]⟩),(.bool false)])∧inf.size=5∧inf.bytes=48:=by
  have key:(Tryz.prog.info? 118).map (λi=>(i.zero,i.size,i.bytes))=some (some (.agg #[(.bool false),(.int .i64 0),(.bool false),(.string ⟨#[]⟩),(.bool false)]),5,48):=by kernel_rfl
  obtain⟨inf,h1,h2⟩:=Option.map_eq_some_iff.1 key;simp only[Prod.mk.injEq] at h2;exact⟨inf,h1,h2.1,h2.2.1,h2.2.2⟩
theorem Md (parts:List (Nat×Value)):Tryz.prog.built 54 parts=Instr.fill (λi=>(#[(0,1),(1,1),(2,1),(3,1)]:Array (Nat×Nat))[i]?) #[(.int .i64 0),(.int .i64 0),(.string ⟨#[]⟩),(.int .i64 0)] parts:=by kernel_rfl
theorem DU {n:Nat}{c:Cx}{l:Fr}{H:List Ent}{d:Option Nat}{ty:TypeId}{pos:String}{af:Array Edge}{g:Option (Nat×Bool)}{x0:Operand}{r0:Rp}(h0:ev l x0=some r0)(u0:r0.one=true){x1:Operand}{r1:Rp}(h1:ev l x1=some r1)(u1:r1.one=true):B0 Tryz.prog n c l H { dst:=d,op:=.build 54 #[(0,x0),(1,x1)],type:=ty,pos:=pos,after:=af,guard:=g } (B8 [r0,r1,rS ([]:Av),Al 0]):=λa w Z ha _=>by
  have p0:=ha.ev h0;have c0:=BV (r0.hone u0 Z _ p0);have p1:=ha.ev h1;have c1:=BV (r1.hone u1 Z _ p1);have hb:Tryz.prog.built 54 [(0,a.eval x0),(1,a.eval x1)]=some #[a.eval x0,a.eval x1,(.string ⟨#[]⟩),(.int .i64 0)]:=by
    rw[Md];generalize a.eval x0=v0 at *;generalize a.eval x1=v1 at *;simp[Instr.fill,c0,c1]
  refine⟨.agg #[a.eval x0,a.eval x1,(.string ⟨#[]⟩),(.int .i64 0)],⟨[a.eval x0,a.eval x1,(.string ⟨#[]⟩),(.int .i64 0)],rfl,p0,p1,rfl,rfl,trivial⟩,?_⟩;have:=run_build w 54 #[(0,a.eval x0),(1,a.eval x1)] _ (by simpa using hb);simp[execOp,this]
theorem DT {n:Nat}{c:Cx}{l:Fr}{H:List Ent}{d:Option Nat}{ty:TypeId}{pos:String}{af:Array Edge}{g:Option (Nat×Bool)}{x0:Operand}{r0:Rp}(h0:ev l x0=some r0)(u0:r0.one=true){x2:Operand}{r2:Rp}(h2:ev l x2=some r2)(u2:r2.one=true):B0 Tryz.prog n c l H { dst:=d,op:=.build 54 #[(0,x0),(2,x2)],type:=ty,pos:=pos,after:=af,guard:=g } (B8 [r0,Al 0,r2,Al 0]):=λa w Z ha _=>by
  have p0:=ha.ev h0;have c0:=BV (r0.hone u0 Z _ p0);have p2:=ha.ev h2;have c2:=BV (r2.hone u2 Z _ p2);have hb:Tryz.prog.built 54 [(0,a.eval x0),(2,a.eval x2)]=some #[a.eval x0,(.int .i64 0),a.eval x2,(.int .i64 0)]:=by
    rw[Md];generalize a.eval x0=v0 at *;generalize a.eval x2=v2 at *;simp[Instr.fill,c0,c2]
  refine⟨.agg #[a.eval x0,(.int .i64 0),a.eval x2,(.int .i64 0)],⟨[a.eval x0,(.int .i64 0),a.eval x2,(.int .i64 0)],rfl,p0,rfl,p2,rfl,trivial⟩,?_⟩;have:=run_build w 54 #[(0,a.eval x0),(2,a.eval x2)] _ (by simpa using hb);simp[execOp,this]
theorem Jx {n:Nat}{c:Cx}{l:Fr}{H:List Ent}{d:Option Nat}{ty:TypeId}{pos:String}{af:Array Edge}{g:Option (Nat×Bool)}{x0:Operand}{r0:Rp}(h0:ev l x0=some r0)(u0:r0.one=true){x3:Operand}{r3:Rp}(h3:ev l x3=some r3)(u3:r3.one=true):B0 Tryz.prog n c l H { dst:=d,op:=.build 54 #[(0,x0),(3,x3)],type:=ty,pos:=pos,after:=af,guard:=g } (B8 [r0,Al 0,rS ([]:Av),r3]):=λa w Z ha _=>by
  have p0:=ha.ev h0;have c0:=BV (r0.hone u0 Z _ p0);have p3:=ha.ev h3;have c3:=BV (r3.hone u3 Z _ p3);have hb:Tryz.prog.built 54 [(0,a.eval x0),(3,a.eval x3)]=some #[a.eval x0,(.int .i64 0),(.string ⟨#[]⟩),a.eval x3]:=by
    rw[Md];generalize a.eval x0=v0 at *;generalize a.eval x3=v3 at *;simp[Instr.fill,c0,c3]
  refine⟨.agg #[a.eval x0,(.int .i64 0),(.string ⟨#[]⟩),a.eval x3],⟨[a.eval x0,(.int .i64 0),(.string ⟨#[]⟩),a.eval x3],rfl,p0,rfl,rfl,p3,trivial⟩,?_⟩;have:=run_build w 54 #[(0,a.eval x0),(3,a.eval x3)] _ (by simpa using hb);simp[execOp,this]
theorem UR (parts:List (Nat×Value)):Tryz.prog.built 118 parts=Instr.fill (λi=>(#[(0,1),(1,1),(2,1),(3,1),(4,1)]:Array (Nat×Nat))[i]?) #[(.bool false),(.int .i64 0),(.bool false),(.string ⟨#[]⟩),(.bool false)] parts:=by kernel_rfl
theorem KV {n:Nat}{c:Cx}{l:Fr}{H:List Ent}{d:Option Nat}{ty:TypeId}{pos:String}{af:Array Edge}{g:Option (Nat×Bool)}{x0:Operand}{r0:Rp}(h0:ev l x0=some r0)(u0:r0.one=true){x1:Operand}{r1:Rp}(h1:ev l x1=some r1)(u1:r1.one=true){x2:Operand}{r2:Rp}(h2:ev l x2=some r2)(u2:r2.one=true):B0 Tryz.prog n c l H { dst:=d,op:=.build 118 #[(0,x0),(1,x1),(2,x2)],type:=ty,pos:=pos,after:=af,guard:=g } (B8 [r0,r1,r2,rS ([]:Av),rB false]):=λa w Z ha _=>by
  have p0:=ha.ev h0;have c0:=BV (r0.hone u0 Z _ p0);have p1:=ha.ev h1;have c1:=BV (r1.hone u1 Z _ p1);have p2:=ha.ev h2;have c2:=BV (r2.hone u2 Z _ p2);have hb:Tryz.prog.built 118 [(0,a.eval x0),(1,a.eval x1),(2,a.eval x2)]=some #[a.eval x0,a.eval x1,a.eval x2,(.string ⟨#[]⟩),(.bool false)]:=by
    rw[UR];generalize a.eval x0=v0 at *;generalize a.eval x1=v1 at *;generalize a.eval x2=v2 at *;simp[Instr.fill,c0,c1,c2]
  refine⟨.agg #[a.eval x0,a.eval x1,a.eval x2,(.string ⟨#[]⟩),(.bool false)],⟨[a.eval x0,a.eval x1,a.eval x2,(.string ⟨#[]⟩),(.bool false)],rfl,p0,p1,p2,rfl,rfl,trivial⟩,?_⟩;have:=run_build w 118 #[(0,a.eval x0),(1,a.eval x1),(2,a.eval x2)] _ (by simpa using hb);simp[execOp,this]
theorem MD (n:Int)(r:Bool)(h:Bv n=some r):Fn Tryz.prog GE 31 [Al n] [] (λR H=>R=rB r∧H=[]):=by
 refine enter (n:=9) Tryz.func31 rfl Tryz.ntmps31 rfl (λw Z=>?_);unfold Bv at h;refine Ae (wa rfl (Ak (AD [(2,rB ((decide ((-1000000000000)≤n))&&(decide (n≤1000000000000))))] [] ?_ ?_)))
 ·refine Aj (wm rfl (wv (KT rfl rfl) (wm rfl (AN (decide ((-1000000000000)≤n)) (λc1=>?_) (λc1=>?_)))))
  ·refine wo c1 (wm rfl (wo c1 (wv (KT rfl rfl) (Cj rfl c1 rfl (wa rfl (Ai ?_))))));exact BJ c1
  ·refine wf c1 (wf c1 (wv (r:=rB false) (Aw rfl c1 rfl) (wa rfl (Ai ?_))));exact BJ c1
 refine Ap ?_;obtain rfl:=An h;exact Ao (Bo Tryz.results31 (A5 rfl)) sN ⟨rfl,rfl⟩
theorem Vi (F:Nat)(s:Av)(r:Bool)(h:JN F s=some r):Fn Tryz.prog GE 137 [rS s] [] (λR H=>R=rB r∧H=[]):=by
 refine enter (n:=20) Tryz.func137 rfl Tryz.ntmps137 rfl (λw Z=>?_);unfold JN at h;refine Ae (wa rfl (Ak (Am (Ae (wm rfl (wv (BQ Dz rfl) (wv (r:=Al 0) (A6 rfl) (Ak (A3 (ob h λhj hk hh=>Bb (S:=Nat×(Int)×(Unit)) (V:=(Unit)×(Unit)) 0 (λσ=>BG (λσ=>Hn s σ) σ.1 σ.2.1=some hj) (λσ=>[(0,rS s),(5,Al (s.length:Int)),(6,Al σ.2.1)]) (λσ=>[]) (λσ=>σ.1) (F,0,()) hk (Az.c rfl (Az.c rfl (Az.c rfl Az.nil))) sN (λσ=>Hm =some r) (λσ=>[]) (λσ=>[]) ?_ ?_))))))))))
 ·rintro⟨h0,hb,⟨⟩⟩ hl;refine Bs (l':=[(0,rS s),(5,Al (s.length:Int)),(6,Al hb)]) (H':=[]) rfl rfl ?_;obtain⟨hm,rfl,t37,he,hg⟩:=BF hl;replace he:Hn s hb=some t37:=he;unfold Hn at he;refine Ae (wv (BW rfl rfl) (Ak (Am (cz he rfl (λhn ho=>?_) (λhn hp=>?_)))))
  ·refine Aq (A7 (Am (A3 (Ae (wm rfl (wa rfl (Ak (ck ho λhi hq=>AD [(0,rS s),(5,Al (s.length:Int)),(6,Al hb),(18,rB ((decide ((Ck s hb)<32))||(decide (126<(Ck s hb)))))] [] ?_ ?_))))))))
   ·refine Aj (wm rfl (wm rfl (wv (BC Dz rfl rfl hi) (wv (BW rfl rfl) (wm rfl (AN (decide ((Ck s hb)<32)) (λha=>?_) (λha=>?_)))))))
    ·refine wf ha (wf ha (wf ha (wf ha (wv (r:=rB true) (Ay rfl ha rfl) (Ai ?_)))));exact BJ ha
    ·refine wo ha (wm rfl (wo ha (wm rfl (wo ha (wv (BC Dz rfl rfl hi) (wo ha (wv (C3 rfl rfl) (Cm rfl ha rfl (Ai ?_)))))))));exact BJ ha
   refine cz hq rfl (λhr hs=>?_) (λhr ht=>?_)
   ·refine Ae (wa rfl (Ak (Ap (At (Ac (Ac (AM ?_)))))));have hu:=Bg hs hg hh;refine At (Ac ?_);obtain rfl:=An hu;exact Ao (Bo Tryz.results137 (A5 rfl)) sN ⟨rfl,rfl⟩
   ·refine Aq (A2 (A7 (Aj (ck ht λhw hx=>wv (Bd rfl rfl hw) (wm rfl (Ai ?_))))));have hy:=AW hx hg;exact Au (Ar (hm,hb+1,()) ⟨hy,Yy _⟩ (Az.c rfl (Az.c rfl (Az.c rfl Az.nil))) sN)
  ·refine Bf (As ?_);have hz:=Bu hp hg hh;exact As (AP (Ar ((),()) hz Az.nil sN))
 ·rintro⟨⟨⟩,⟨⟩⟩ hf;refine BK (l':=[]) (H':=[]) rfl rfl ?_;replace hf:Hm =some r:=hf;unfold Hm at hf;refine AV (A7 (Ae (wa rfl (Ak (Ap ?_)))));obtain rfl:=An hf;exact Ao (Bo Tryz.results137 (A5 rfl)) sN ⟨rfl,rfl⟩
theorem N4 (s:Av)(r:Int)(h:IZ s=some r):Fn Tryz.prog GE 102 [rS s] [] (λR H=>R=Al r∧H=[]):=by
 refine enter (n:=12) Tryz.func102 rfl Tryz.ntmps102 rfl (λw Z=>?_);unfold IZ at h;refine Ae (wa rfl (Bc (wm rfl (wv (BQ Dz rfl) (ck h λg1 h2=>wv (Bd rfl rfl g1) (wm rfl (JK (rs:=[rS s,rS ([34]:Av)]) (r:=Al (Lib.countByte s 34:Int)) Tryz.call138 rfl (RJ s 34) rfl rfl (ck h2 λg3 h4=>wv (Bd rfl rfl g3) (wm rfl (JK (rs:=[rS s,rS ([92]:Av)]) (r:=Al (Lib.countByte s 92:Int)) Tryz.call138 rfl (RJ s 92) rfl rfl (ck h4 λg5 h6=>wv (Bd rfl rfl g5) (wa rfl (Ak (Ap ?_))))))))))))));obtain rfl:=An h6;exact Ao (Bo Tryz.results102 (A5 rfl)) sN ⟨rfl,rfl⟩
theorem T6 (F:Nat)(c:Aa)(r:Bool)(h:My F c=some r):Fn Tryz.prog GE 101 [B8 (Ab c)] [] (λR H=>R=rB r∧H=[]):=by
 refine enter (n:=81) Tryz.func101 rfl Tryz.ntmps101 rfl (λw Z=>?_);unfold My at h;refine Ae (B5 rfl rfl (λb1=>?_));refine wa rfl (Ak (Am (Ae (vF Bl rfl C2 (vL 0 CA rfl (Ak (A3 (Ae (wv (Bh rfl rfl) (wa rfl (Ak (cz h rfl (λc2 h3=>?_) (λc2 h6=>?_)))))))))))))
 ·refine AD [(2,rB ((decide (c.fInt=0))&&((decide (c.fStr=([]:Av)))&&(decide (c.fN=0)))))] [] ?_ ?_
  ·refine Aj (vF Bl rfl B9 (vL 0 BN rfl (wv (Bh rfl rfl) (wm rfl (AN (decide (c.fInt=0)) (λc4=>?_) (λc4=>?_))))))
   ·refine wo c4 (vF Bl rfl C7 (wo c4 (vL 0 CD rfl (wo c4 (wv (DK rfl rfl) (Cj rfl c4 rfl (wm rfl (AN (decide (c.fStr=([]:Av))) (λc5=>?_) (λc5=>?_)))))))))
    ·refine wo c5 (vF Bl rfl B9 (wo c5 (vL 0 BN rfl (wo c5 (wv (Bh rfl rfl) (Cj rfl c5 rfl (wa rfl (Ai ?_))))))));exact BJ (And.intro c4 c5)
    ·refine wf c5 (wf c5 (wf c5 (wv (r:=rB false) (Aw rfl c5 rfl) (wa rfl (Ai ?_)))));exact BJ (And.intro c4 c5)
   ·refine wf c4 (wf c4 (wf c4 (wv (r:=rB false) (Aw rfl c4 rfl) (wm rfl (wz rfl rfl (wz rfl rfl (wz rfl rfl (wv (r:=rB false) (Aw (b:=false) rfl rfl rfl) (wa rfl (Ai ?_))))))))));exact BJ c4
  refine Ap (At (Ac ?_));obtain rfl:=An h3;exact Ao (Bo Ml (A5 rfl)) sN ⟨rfl,rfl⟩
 ·refine Ae (wv (Bh rfl rfl) (wa rfl (Ak (cz h6 rfl (λc7 h8=>?_) (λc7 hn=>?_)))))
  ·refine AD [(2,rB (bif decide (c.fInt=0) then((decide (c.fStr=([]:Av)))&&(decide (c.fN=0))) else((decide (c.fInt=1))&&((decide (c.fStr=([]:Av)))&&(decide (c.fN=0))))))] [] ?_ ?_
   ·refine Aj (vF Bl rfl B9 (vL 0 BN rfl (wv (Bh rfl rfl) (wm rfl (AN (decide (c.fInt=0)) (λc9=>?_) (λc9=>?_))))))
    ·refine wf c9 (wf c9 (wf c9 (wv (r:=rB true) (Ay rfl c9 rfl) (wm rfl (AR (b:=true) rfl rfl rfl (vF Bl rfl C7 (AR (b:=true) rfl rfl rfl (vL 0 CD rfl (AR (b:=true) rfl rfl rfl (wv (DK rfl rfl) (wv (r:=rB (decide (c.fStr=([]:Av)))) (Ay (b:=true) rfl rfl rfl) (wm rfl (AN (decide (c.fStr=([]:Av))) (λhh=>?_) (λhh=>?_))))))))))))))
     ·refine wo hh (vF Bl rfl B9 (wo hh (vL 0 BN rfl (wo hh (wv (Bh rfl rfl) (Cj rfl hh rfl (wa rfl (Ai ?_))))))));exact BJ (And.intro c9 hh)
     ·refine wf hh (wf hh (wf hh (wv (r:=rB false) (Aw rfl hh rfl) (wa rfl (Ai ?_)))));exact BJ (And.intro c9 hh)
    ·refine wo c9 (vF Bl rfl B9 (wo c9 (vL 0 BN rfl (wo c9 (wv (Bh rfl rfl) (Cm rfl c9 rfl (wm rfl (AN (decide (c.fInt=1)) (λhb=>?_) (λhb=>?_)))))))))
     ·refine wo hb (vF Bl rfl C7 (wo hb (vL 0 CD rfl (wo hb (wv (DK rfl rfl) (Cj rfl hb rfl (wm rfl (AN (decide (c.fStr=([]:Av))) (λhi=>?_) (λhi=>?_)))))))))
      ·refine wo hi (vF Bl rfl B9 (wo hi (vL 0 BN rfl (wo hi (wv (Bh rfl rfl) (Cj rfl hi rfl (wa rfl (Ai ?_))))))));exact BJ (And.intro c9 (And.intro hb hi))
      ·refine wf hi (wf hi (wf hi (wv (r:=rB false) (Aw rfl hi rfl) (wa rfl (Ai ?_)))));exact BJ (And.intro c9 (And.intro hb hi))
     ·refine wf hb (wf hb (wf hb (wv (r:=rB false) (Aw rfl hb rfl) (wm rfl (wz rfl rfl (wz rfl rfl (wz rfl rfl (wv (r:=rB false) (Aw (b:=false) rfl rfl rfl) (wa rfl (Ai ?_))))))))));exact BJ (And.intro c9 hb)
   refine Ap (At (Ac ?_));obtain rfl:=An h8;exact Ao (Bo Ml (A5 rfl)) sN ⟨rfl,rfl⟩
  ·refine Ae (wv (Bh rfl rfl) (wa rfl (Ak (cz hn rfl (λho hp=>?_) (λho hq=>?_)))))
   ·refine AD [(2,rB ((decide (c.fStr=([]:Av)))&&(decide (c.fN=0))))] [] ?_ ?_
    ·refine Aj (vF Bl rfl C7 (vL 0 CD rfl (wv (DK rfl rfl) (wm rfl (AN (decide (c.fStr=([]:Av))) (λhj=>?_) (λhj=>?_))))))
     ·refine wo hj (vF Bl rfl B9 (wo hj (vL 0 BN rfl (wo hj (wv (Bh rfl rfl) (Cj rfl hj rfl (wa rfl (Ai ?_))))))));exact BJ hj
     ·refine wf hj (wf hj (wf hj (wv (r:=rB false) (Aw rfl hj rfl) (wa rfl (Ai ?_)))));exact BJ hj
    refine Ap (At (Ac ?_));obtain rfl:=An hp;exact Ao (Bo Ml (A5 rfl)) sN ⟨rfl,rfl⟩
   ·refine Ae (wv (Bh rfl rfl) (wa rfl (Ak (cz hq rfl (λhr hs=>?_) (λhr ht=>?_)))))
    ·refine ck hs λhu hw=>AD [(2,rB ((decide (c.fInt=0))&&((decide (c.fN=0))&&(ov (JN F c.fStr)))))] [] ?_ ?_
     ·refine Aj (vF Bl rfl B9 (vL 0 BN rfl (wv (Bh rfl rfl) (wm rfl (AN (decide (c.fInt=0)) (λha=>?_) (λha=>?_))))))
      ·refine wo ha (vF Bl rfl B9 (wo ha (vL 0 BN rfl (wo ha (wv (Bh rfl rfl) (Cj rfl ha rfl (wm rfl (AN (decide (c.fN=0)) (λhe=>?_) (λhe=>?_)))))))))
       ·refine wo he (vF Bl rfl C7 (wo he (vL 0 CD rfl (wo he (BM Tryz.call137 (Vi F c.fStr (ov (JN F c.fStr)) (Dg (Ch (Ch hu ha) he))) rfl (Cj rfl he rfl (wa rfl (Ai ?_))))))));exact BJ (And.intro ha he)
       ·refine wf he (wf he (wf he (wv (r:=rB false) (Aw rfl he rfl) (wa rfl (Ai ?_)))));exact BJ (And.intro ha he)
      ·refine wf ha (wf ha (wf ha (wv (r:=rB false) (Aw rfl ha rfl) (wm rfl (wz rfl rfl (wz rfl rfl (wz rfl rfl (wv (r:=rB false) (Aw (b:=false) rfl rfl rfl) (wa rfl (Ai ?_))))))))));exact BJ ha
     refine Ap (At (Ac ?_));obtain rfl:=An hw;exact Ao (Bo Ml (A5 rfl)) sN ⟨rfl,rfl⟩
    ·refine Am (Ae (wv (Bh rfl rfl) (wa rfl (Ak (cz ht rfl (λhm hx=>?_) (λhm hy=>?_))))))
     ·refine Aq (A7 (DD rfl hm (AD [(2,rB ((decide (c.fInt=0))&&((decide (c.fStr=([]:Av)))&&(decide (0≤c.fN)))))] [] ?_ ?_)))
      ·refine Aj (vF Bl rfl B9 (vL 0 BN rfl (wv (Bh rfl rfl) (wm rfl (AN (decide (c.fInt=0)) (λhf=>?_) (λhf=>?_))))))
       ·refine wo hf (vF Bl rfl C7 (wo hf (vL 0 CD rfl (wo hf (wv (DK rfl rfl) (Cj rfl hf rfl (wm rfl (AN (decide (c.fStr=([]:Av))) (λhk=>?_) (λhk=>?_)))))))))
        ·refine wo hk (vF Bl rfl B9 (wo hk (vL 0 BN rfl (wo hk (wv (ET rfl rfl) (Cj rfl hk rfl (wa rfl (Ai ?_))))))));exact BJ (And.intro hf hk)
        ·refine wf hk (wf hk (wf hk (wv (r:=rB false) (Aw rfl hk rfl) (wa rfl (Ai ?_)))));exact BJ (And.intro hf hk)
       ·refine wf hf (wf hf (wf hf (wv (r:=rB false) (Aw rfl hf rfl) (wm rfl (wz rfl rfl (wz rfl rfl (wz rfl rfl (wv (r:=rB false) (Aw (b:=false) rfl rfl rfl) (wa rfl (Ai ?_))))))))));exact BJ hf
      refine Ap (At (Ac ?_));obtain rfl:=An hx;exact Ao (Bo Ml (A5 rfl)) sN ⟨rfl,rfl⟩
     ·refine Aj (wv (Bh rfl rfl) (wa rfl (Ak (cz hy rfl (λhz h0=>?_) (λhz h1=>?_)))))
      ·refine AD [(2,rB ((decide (c.fInt=0))&&((decide (c.fStr=([]:Av)))&&(decide (0≤c.fN)))))] [] ?_ ?_
       ·refine Aj (vF Bl rfl B9 (vL 0 BN rfl (wv (Bh rfl rfl) (wm rfl (AN (decide (c.fInt=0)) (λhg=>?_) (λhg=>?_))))))
        ·refine wo hg (vF Bl rfl C7 (wo hg (vL 0 CD rfl (wo hg (wv (DK rfl rfl) (Cj rfl hg rfl (wm rfl (AN (decide (c.fStr=([]:Av))) (λhl=>?_) (λhl=>?_)))))))))
         ·refine wo hl (vF Bl rfl B9 (wo hl (vL 0 BN rfl (wo hl (wv (ET rfl rfl) (Cj rfl hl rfl (wa rfl (Ai ?_))))))));exact BJ (And.intro hg hl)
         ·refine wf hl (wf hl (wf hl (wv (r:=rB false) (Aw rfl hl rfl) (wa rfl (Ai ?_)))));exact BJ (And.intro hg hl)
        ·refine wf hg (wf hg (wf hg (wv (r:=rB false) (Aw rfl hg rfl) (wm rfl (wz rfl rfl (wz rfl rfl (wz rfl rfl (wv (r:=rB false) (Aw (b:=false) rfl rfl rfl) (wa rfl (Ai ?_))))))))));exact BJ hg
       refine Ap (At (Ac ?_));obtain rfl:=An h0;exact Ao (Bo Ml (A5 rfl)) sN ⟨rfl,rfl⟩
      ·refine Aq (A2 (A7 (Ae (wa rfl (Ak (Ap ?_))))));obtain rfl:=An h1;exact Ao (Bo Ml (A5 rfl)) (sS sN) ⟨rfl,rfl⟩
theorem Vj (c:Aa)(r:Int)(h:Pa c=some r):Fn Tryz.prog GE 103 [B8 (Ab c)] [] (λR H=>R=Al r∧H=[]):=by
 refine enter (n:=28) Tryz.func103 rfl Tryz.ntmps103 rfl (λw Z=>?_);unfold Pa at h;refine Ae (B5 rfl rfl (λb1=>?_));refine wa rfl (Ak (Am (Ae (vF Bl rfl C2 (vL 0 CA rfl (Ak (A3 (Ae (wv (Bh rfl rfl) (wa rfl (Ak (cz h rfl (λc2 h3=>?_) (λc2 h4=>?_)))))))))))))
 ·refine Ae (wa rfl (Ak (Ap (At (Ac ?_)))));obtain rfl:=An h3;exact Ao (Bo OU (A5 rfl)) (sS sN) ⟨rfl,rfl⟩
 ·refine Ae (wv (Bh rfl rfl) (wa rfl (Ak (cz h4 rfl (λc5 h6=>?_) (λc5 h7=>?_)))))
  ·refine Ae (vF Bl rfl B9 (vL 0 BN rfl (wv (r:=Al (IntKind.wrap .i64 (5-c.fInt))) (Ua rfl rfl) (wa rfl (Ak (Ap (At (Ac ?_))))))));obtain rfl:=An h6;exact Ao (Bo OU (A5 rfl)) (sS sN) ⟨rfl,rfl⟩
  ·refine Ae (wv (Bh rfl rfl) (wa rfl (Ak (cz h7 rfl (λc8 h9=>?_) (λc8 ha=>?_)))))
   ·refine Ae (vF Bl rfl B9 (vL 0 BN rfl (ck h9 λhb he=>JK (rs:=[Al c.fInt]) (r:=rS (Lib.itoa c.fInt)) Tryz.call113 rfl (PJ c.fInt hb) rfl rfl (wv (BQ Dz rfl) (wa rfl (Ak (Ap (At (Ac ?_)))))))));obtain rfl:=An he;exact Ao (Bo OU (A5 rfl)) (sS sN) ⟨rfl,rfl⟩
   ·refine Ae (wv (Bh rfl rfl) (wa rfl (Ak (cz ha rfl (λhf hg=>?_) (λhf hh=>?_)))))
    ·refine Ae (vF Bl rfl C7 (vL 0 CD rfl (ob hg λhi hj hk=>BM Tryz.call102 (N4 c.fStr hi hj) rfl (wa rfl (Ak (Ap (At (Ac ?_))))))));obtain rfl:=An hk;exact Ao (Bo OU (A5 rfl)) (sS sN) ⟨rfl,rfl⟩
    ·refine Aq (A2 (A7 (Ae (vF Bl rfl B9 (vL 0 BN rfl (wv (r:=Al (IntKind.wrap .i64 (c.fN-1))) (Ua rfl rfl) (wv (Uc Yc rfl rfl) (wv (r:=Al (IntKind.wrap .i64 (2+(max 0 (IntKind.wrap .i64 (c.fN-1)))))) (QD rfl rfl) (wa rfl (Ak (Ap ?_)))))))))));obtain rfl:=An hh;exact Ao (Bo OU (A5 rfl)) (sS sN) ⟨rfl,rfl⟩
theorem Sh (F:Nat)(hj:Value)(stack:(List AB))(r:(List AB))(h:JX F stack=some r):Fn Tryz.prog GE 104 [rv hj] [.row hj 118 5 (A0 A9 stack)] (λR H=>∃u0:Value,R=rv u0∧H=[.row u0 118 5 (A0 A9 r)]):=by
 refine enter (n:=38) Tryz.func104 rfl Tryz.ntmps104 rfl (λw Z=>?_);unfold JX at h;refine Ae (wa rfl (Ak (Am (A3 (ob h λho hp hm=>Bb (S:=Nat×((List AB))×(Value)) (V:=((List AB))×(Value)) 0 (λσ=>BG (λσ=>D2 σ) σ.1 σ.2.1=some ho) (λσ=>[(0,rv σ.2.2),(2,rv (.slice none 0 0))]) (λσ=>[.row σ.2.2 118 5 (A0 A9 σ.2.1)]) (λσ=>σ.1) (F,stack,hj) hp (Az.c rfl (Az.c rfl Az.nil)) (sC sN) (λσ=>Ea σ.1=some r) (λσ=>[(0,rv σ.2),(2,rv (.slice none 0 0))]) (λσ=>[.row σ.2 118 5 (A0 A9 σ.1)]) ?_ ?_)))))
 ·rintro⟨hH,ha,he⟩ hq;refine Bs (l':=[(0,rv he),(2,rv (.slice none 0 0))]) (H':=[.row he 118 5 (A0 A9 ha)]) rfl rfl ?_;obtain⟨hr,rfl,hs,hh,hk⟩:=BF hq;replace hh:D2 ha=some hs:=hh;unfold D2 at hh;refine Am (Ae (wm rfl (wv (DS (ys:=ha) (enc:=A9) (i:=0) It rfl rfl) (wv (C3 rfl rfl) (Ak (cz hh rfl (λht hu=>?_) (λht hw=>?_)))))))
  ·refine Aq (A7 (A3 (Ae (wm rfl (wm rfl (wv (DS (ys:=ha) (enc:=A9) (i:=0) It rfl rfl) (ck hu λhx hy=>wv (NE rfl rfl hx) (ck hy λhf hz=>wv (r:=rv (ER 5 he (By ((ha.length:Int)-1)) 0)) (KU (i:=0) It OR rfl rfl rfl (Ca hf)) (wa rfl (Bc (wm rfl (wv (r:=rv (ER 5 he (By ((ha.length:Int)-1)) 0)) (C0 (k:=0) rfl (Ca hf) rfl rfl) (wv (r:=rv (ER 5 he (By ((ha.length:Int)-1)) 1)) (Ex (k:=0) Is rfl B9 rfl (Ca hf) rfl rfl rfl) (wv (r:=Al ((Ax ha ((ha.length:Int)-1)).fLeft)) (IH (enc:=A9) (ys:=ha) (i:=0) (j:=(ha.length:Int)-1) BN rfl rfl hf rfl) (ck hz λh0 h1=>wv (NE rfl rfl h0) (wv (r:=rv (ER 5 he (By ((ha.length:Int)-1)) 0)) (C0 (k:=0) rfl (Ca hf) rfl rfl) (wv (r:=rv (ER 5 he (By ((ha.length:Int)-1)) 1)) (Ex (k:=0) Is rfl B9 rfl (Ca hf) rfl rfl rfl) (I9 (enc:=A9) (ys:=ha) (y':=(AB.mk ((Ax ha ((ha.length:Int)-1)).fPairs) (((Ax ha ((ha.length:Int)-1)).fLeft)-1) ((Ax ha ((ha.length:Int)-1)).fKey) ((Ax ha ((ha.length:Int)-1)).fLast) ((Ax ha ((ha.length:Int)-1)).fStarted))) (i:=0) (j:=(ha.length:Int)-1) B9 rfl rfl (BS rfl) rfl hf rfl rfl (H':=[.row he 118 5 (A0 A9 (List.set ha (By ((ha.length:Int)-1)) (AB.mk ((Ax ha ((ha.length:Int)-1)).fPairs) (((Ax ha ((ha.length:Int)-1)).fLeft)-1) ((Ax ha ((ha.length:Int)-1)).fKey) ((Ax ha ((ha.length:Int)-1)).fLast) ((Ax ha ((ha.length:Int)-1)).fStarted))))]) rfl (bd h1 λhb hg h2=>?_)))))))))))))))))));rw[← hg];refine Ak (Am (Ae (wm rfl (wv (r:=rv (ER 5 he (By ((ha.length:Int)-1)) 0)) (C0 (k:=0) rfl (Ca (CQ hf hg)) rfl rfl) (wv (r:=rv (ER 5 he (By ((ha.length:Int)-1)) 1)) (Ex (k:=0) Is rfl B9 rfl (Ca (CQ hf hg)) rfl rfl rfl) (wv (r:=Al ((Ax hb ((ha.length:Int)-1)).fLeft)) (IH (enc:=A9) (ys:=hb) (i:=0) (j:=(ha.length:Int)-1) BN rfl rfl (CQ hf hg) rfl) (wv (C3 rfl rfl) (Ak (cz h2 rfl (λh3 h4=>?_) (λh3 h5=>?_))))))))))
   ·refine Ae (wm rfl (wm rfl (wv (r:=rv (ER 5 he (By ((ha.length:Int)-1)) 0)) (C0 (k:=0) rfl (Ca (CQ hf hg)) rfl rfl) (wv (r:=rv (ER 5 he (By ((ha.length:Int)-1)) 0)) (Ex (k:=0) Is rfl HI rfl (Ca (CQ hf hg)) rfl rfl rfl) (wv (r:=rB ((Ax hb ((ha.length:Int)-1)).fPairs)) (IH (enc:=A9) (ys:=hb) (i:=0) (j:=(ha.length:Int)-1) Tf rfl rfl (CQ hf hg) rfl) (wv (r:=rv (ER 5 he (By ((ha.length:Int)-1)) 0)) (C0 (k:=0) rfl (Ca (CQ hf hg)) rfl rfl) (wv (r:=rv (ER 5 he (By ((ha.length:Int)-1)) 2)) (Ex (k:=0) Is rfl HI rfl (Ca (CQ hf hg)) rfl rfl rfl) (I9 (enc:=A9) (ys:=hb) (y':=(AB.mk ((Ax hb ((ha.length:Int)-1)).fPairs) ((Ax hb ((ha.length:Int)-1)).fLeft) ((Ax hb ((ha.length:Int)-1)).fPairs) ((Ax hb ((ha.length:Int)-1)).fLast) ((Ax hb ((ha.length:Int)-1)).fStarted))) (i:=0) (j:=(ha.length:Int)-1) HI rfl rfl (BS rfl) rfl (CQ hf hg) rfl rfl (H':=[.row he 118 5 (A0 A9 (List.set hb (By ((ha.length:Int)-1)) (AB.mk ((Ax hb ((ha.length:Int)-1)).fPairs) ((Ax hb ((ha.length:Int)-1)).fLeft) ((Ax hb ((ha.length:Int)-1)).fPairs) ((Ax hb ((ha.length:Int)-1)).fLast) ((Ax hb ((ha.length:Int)-1)).fStarted))))]) rfl (bd h4 λhI h6 h7=>?_)))))))));rw[← h6];refine Bc (wm rfl (wa rfl (Ak (Ap (Ac (At (Ac (AM ?_))))))));have h8:=Bg h7 hk hm;refine At (Ac ?_);obtain rfl:=An h8;exact Ao (Bo Tryz.results104 (A5 rfl)) (sC sN) ⟨he,rfl,rfl⟩
   ·refine Aq (A7 (Aj (wm rfl (wm rfl (wv (DS (ys:=hb) (enc:=A9) (i:=0) It rfl rfl) (ck h5 λh9 hA=>wv (NE rfl rfl h9) (ck hA λhB hC=>Xu (i:=0) It OR rfl rfl rfl hB rfl (λhD=>?_))))))));refine wa rfl (Ai (A2 ?_));have hE:=AW hC hk;exact Au (Ar (hr,List.take (By ((hb.length:Int)-1)) hb,hD) ⟨hE,Yy _⟩ (Az.c rfl (Az.c rfl Az.nil)) (sC sN))
  ·refine Bf (As ?_);have hG:=Bu hw hk hm;exact As (AP (Ar (ha,he) hG (Az.c rfl (Az.c rfl Az.nil)) (sC sN)))
 ·rintro⟨hn,hl⟩ hi;refine BK (l':=[(0,rv hl),(2,rv (.slice none 0 0))]) (H':=[.row hl 118 5 (A0 A9 hn)]) rfl rfl ?_;replace hi:Ea hn=some r:=hi;unfold Ea at hi;refine AV (A7 (Ae (wm rfl (wa rfl (Ak (Ap ?_))))));obtain rfl:=An hi;exact Ao (Bo Tryz.results104 (A5 rfl)) (sC sN) ⟨hl,rfl,rfl⟩
theorem HS (F:Nat)(v:(List Aa))(r:Int×AK×Bool)(h:E5 F v=some r):Fn Tryz.prog GE 72 [AC 4 (A0 Ab v)] [] (λR H=>R=Da [Al r.1,B8 (AO r.2.1),rB r.2.2]∧H=[]):=by
 refine enter (n:=152) Tryz.func72 rfl Tryz.ntmps72 rfl (λw Z=>?_);unfold E5 at h;refine Ae (wa rfl (Cd (cs:=[Al 0,Al 0,rB false,rB false]) NT rfl rfl (λb1=>?_)));refine wa rfl (Ak (T0 (Ae (Cd (cs:=[Al 0,Al 0,rB false,rB false]) NT rfl rfl (λb2=>?_)))));refine Bc (wa rfl (Ak (Am (T1 (A7 (Am (Ae (wm rfl (wv (AF (ys:=v) (enc:=Ab) Br rfl) (wv (r:=Al 0) (A6 rfl) (Ak (A3 (WC.nilrow (e:=118) (sz:=5) (NY (H2:=[.blk b2 [Al 0,Al 0,rB false,rB false] 86,.blk b1 [Al 0,Al 0,rB false,rB false] 86,.row (.slice none 0 0                                                                                                                      ) 118 5 (A0 A9 ([]:List AB))]) ((A4 (i:=1) rfl).trans (Yw _ ((A4 (i:=1) rfl).trans (Yw _ (Yu _))))) (ob h λhB hC hz=>Bb (S:=Nat×((List AB)×Int×AK)×(Value)) (V:=(AK)×(Unit)) 0 (λσ=>BG (λσ=>D1 F v σ.1 σ.2.1 σ.2.2) σ.1 σ.2.1=some hB) (λσ=>[(0,AC 4 (A0 Ab v)),(3,rP b1 0),(5,rP b2 0),(6,rv σ.2.2),(11,AC 4 (A0 Ab v)),(12,Al (v.length:Int)),(13,Al σ.2.1.2.1)]) (λσ=>[.blk b2 (AO σ.2.1.2.2) 86,.blk b1 [Al 0,Al 0,rB false,rB false] 86,.row σ.2.2 118 5 (A0 A9 σ.2.1.1)]) (λσ=>σ.1) (F,(([]:List AB),0,(AK.mk 0 0 false false)),(.slice none 0 0                                                                                                                      )) hC (Az.c rfl (Az.c rfl (Az.c5 rfl rfl rfl rfl rfl Az.nil))) (sC (sC (sC sN))) (λσ=>JS σ.1=some r) (λσ=>[(3,rP b1 0),(5,rP b2 0)]) (λσ=>[.blk b2 (AO σ.1) 86,.blk b1 [Al 0,Al 0,rB false,rB false] 86]) ?_ ?_)))))))))))))))
 ·rintro⟨gJ,⟨he,hb,ha⟩,hf⟩ hD;refine Bs (l':=[(0,AC 4 (A0 Ab v)),(3,rP b1 0),(5,rP b2 0),(6,rv hf),(11,AC 4 (A0 Ab v)),(12,Al (v.length:Int)),(13,Al hb)]) (H':=[.blk b2 (AO ha) 86,.blk b1 [Al 0,Al 0,rB false,rB false] 86,.row hf 118 5 (A0 A9 he)]) rfl rfl ?_;obtain⟨hE,rfl,h5,h1,hy⟩:=BF hD;replace h1:D1 F v he hb ha=some h5:=h1;unfold D1 at h1;refine Ae (wv (BW rfl rfl) (Ak (Am (cz h1 rfl (λhG hH=>?_) (λhG hI=>?_)))))
  ·refine Aq (A7 (BO (S:=((List AB)×AK)×(Value)) (λσ=>DQ hb σ.1.1 σ.1.2=some h5) (λσ=>[(0,AC 4 (A0 Ab v)),(3,rP b1 0),(5,rP b2 0),(6,rv σ.2),(11,AC 4 (A0 Ab v)),(12,Al (v.length:Int)),(13,Al hb)]) (λσ=>[.blk b2 (AO σ.1.2) 86,.blk b1 [Al 0,Al 0,rB false,rB false] 86,.row σ.2 118 5 (A0 A9 σ.1.1)]) ?_ ?_))
   ·refine A3 (Ae (wm rfl (ck hH λhJ hK=>wv (AT (enc:=Ab) (ys:=v) Br Bz rfl rfl hJ) (wv (Cy Jp Bz rfl rfl rfl) (Cd (cs:=[Al 0,Al 0,rS ([]:Av),Al 0]) GX rfl rfl (λhg=>?_))))));refine wa rfl (Bj (i:=0) Bz rfl rfl rfl (BP.c rfl) rfl rfl (cs':=[Al ((Ax v hb).fKind),Al ((Ax v hb).fInt),rS ((Ax v hb).fStr),Al ((Ax v hb).fN)]) rfl (H':=[.blk hg (Ab (Ax v hb)) 54,.blk b2 (AO ha) 86,.blk b1 [Al 0,Al 0,rB false,rB false] 86,.row hf 118 5 (A0 A9 he)]) rfl (Ak (Am (Ae (wv (AQ (i:=0) Jp Bz rfl rfl rfl rfl) (ob hK λhL hN hO=>BM Tryz.call101 (T6 F (Ax v hb) hL hN) rfl (wv (B4 rfl) (Ak (cz hO rfl (λhP hQ=>?_) (λhP hR=>?_))))))))))
    ·refine Am (ES (H1:=[.blk hg (Ab (Ax v hb)) 54,.blk b2 (AO ha) 86,.blk b1 (AO ha) 86,.row hf 118 5 (A0 A9 he)]) [3,5] [⟨[],B8 (AO ha),1⟩,⟨[],Al 0,0⟩,⟨[0],rv undef,2⟩,⟨[],rB false,0⟩] (rle [(3,_),(2,[.blk hg (Ab (Ax v hb)) 54,.blk b2 (AO ha) 86,.blk b1 (AO ha) 86,.row hf 118 5 (A0 A9 he)])]) [2,4,3] ?_ ?_)
     ·refine of (AQ (i:=1) No G7 rfl rfl rfl rfl) (oq (AE rfl) (Iv rfl (Nt (Ds (i:=2) G7 rfl rfl rfl (BP.c rfl) rfl rfl (cs':=[Al ha.fDepth,Al ha.fBytes,rB ha.fOutside,rB ha.fLong]) rfl (H':=[.blk hg (Ab (Ax v hb)) 54,.blk b2 (AO ha) 86,.blk b1 (AO ha) 86,.row hf 118 5 (A0 A9 he)]) rfl)) ?_));refine oq (AE rfl) ?_;exact Ct
     refine A7 (Ap (Ac (At (Ac (Ac (AM ?_))))));have hS:=Bg hQ hy hz;refine At (Ac (JJ ?_));obtain rfl:=An hS;exact Ao (Xp Tp (A5 rfl) (Es (i:=2) No G7 rfl rfl rfl) (A5 rfl)) (sS (sS (sS (sS sN)))) ⟨rfl,rfl⟩
    ·refine Aq (A7 (Am (Ae (wm rfl (wv (DS (ys:=he) (enc:=A9) (i:=3) It rfl rfl) (wa rfl (Ak (ck hR λhT hU=>ck hU λh6 hV=>AD [(0,AC 4 (A0 Ab v)),(3,rP b1 0),(5,rP b2 0),(6,rv hf),(7,Al hb),(8,rP hg 0),(9,Al (he.length:Int)),(11,AC 4 (A0 Ab v)),(12,Al (v.length:Int)),(13,Al hb),(33,rB ((decide (0<(he.length:Int)))&&((Ax he ((he.length:Int)-1)).fKey)))] [.blk hg (Ab (Ax v hb)) 54,.blk b2 (AO ha) 86,.blk b1 [Al 0,Al 0,rB false,rB false] 86,.row hf 118 5 (A0 A9 he)] ?_ ?_))))))))
     ·refine Aj (wm rfl (wv (C3 rfl rfl) (wm rfl (AN (decide (0<(he.length:Int))) (λhj=>?_) (λhj=>?_)))))
      ·refine wo hj (wm rfl (wo hj (wm rfl (wo hj (wv (NE rfl rfl (Ch hT hj)) (wo hj (wv (r:=rv (ER 5 hf (By ((he.length:Int)-1)) 0)) (KU (i:=3) It OR rfl rfl rfl (Ca (Ch h6 hj))) (wo hj (wv (r:=rv (ER 5 hf (By ((he.length:Int)-1)) 2)) (Ex (k:=3) Is rfl HI rfl (Ca (Ch h6 hj)) rfl rfl rfl) (wo hj (wv (r:=rB ((Ax he ((he.length:Int)-1)).fKey)) (IH (enc:=A9) (ys:=he) (i:=3) (j:=(he.length:Int)-1) Tf rfl rfl (Ch h6 hj) rfl) (Cj rfl hj rfl (Ai ?_)))))))))))));exact BJ hj
      ·refine wf hj (wf hj (wf hj (wf hj (wf hj (wf hj (wv (r:=rB false) (Aw rfl hj rfl) (Ai ?_)))))));exact BJ hj
     refine cz hV rfl (λhW hX=>?_) (λhW hY=>?_)
     ·refine Ae (wm rfl (wm rfl (ck hX λhZ ga=>wv (NE rfl rfl hZ) (ck ga λhk gb=>wv (r:=rv (ER 5 hf (By ((he.length:Int)-1)) 0)) (KU (i:=3) It OR rfl rfl rfl (Ca hk)) (wa rfl (Ak (Am (AD [(0,AC 4 (A0 Ab v)),(3,rP b1 0),(5,rP b2 0),(6,rv hf),(8,rP hg 0),(10,rv (ER 5 hf (By ((he.length:Int)-1)) 0)),(11,AC 4 (A0 Ab v)),(12,Al (v.length:Int)),(13,Al hb),(38,rP hg 0),(39,Al ((Ax v hb).fKind)),(40,rB (!decide (((Ax v hb).fKind)=4))),(41,rB (!decide (((Ax v hb).fKind)=4))),(55,rB ((!decide (((Ax v hb).fKind)=4))||(((Ax he ((he.length:Int)-1)).fStarted)&&(CY ((Ax v hb).fStr) ((Ax he ((he.length:Int)-1)).fLast)||decide (((Ax v hb).fStr)=((Ax he ((he.length:Int)-1)).fLast))))))] [.blk hg (Ab (Ax v hb)) 54,.blk b2 (AO ha) 86,.blk b1 [Al 0,Al 0,rB false,rB false] 86,.row hf 118 5 (A0 A9 he)] ?_ ?_))))))))
      ·refine AN (!decide (((Ax v hb).fKind)=4)) (λhi=>?_) (λhi=>?_)
       ·refine C8 [0,3,5,6,8,10,11,12,13] [⟨[],rP hg 0,0⟩,⟨[0],Al ((Ax v hb).fKind),1⟩,⟨[1],rB (!decide (((Ax v hb).fKind)=4)),0⟩,⟨[2],rB (!decide (((Ax v hb).fKind)=4)),0⟩,⟨[3],rv undef,0⟩,⟨[4,3],rv undef,0⟩,⟨[5,3],rv undef,0⟩,⟨[6,3],rv undef,0⟩,⟨[7,3],rv undef,0⟩,⟨[8],rv undef,0⟩,⟨[9,8],rv undef,0⟩,⟨[8],rv undef,0⟩,⟨[11,8],rv undef,0⟩,⟨[12,8],rv undef,0⟩,⟨[13,8],rv undef,0⟩,⟨[10,14,8],rv undef,0⟩,⟨[8,15,3],rv undef,0⟩,⟨[3,16],rB true,0⟩] [38,39,40,41,42,43,44,45,46,47,48,49,50,51,52,53,54,55,0,3,5,6,8,10,11,12,13] ?_ ?_
        ·refine oq (AG Bl rfl C2 rfl rfl) (of (Bm (i:=0) CA rfl rfl rfl) (oq (Bk rfl rfl) (oq (A6 rfl) (oz hi (oz hi (oz hi (oz hi (oz hi (ou (ou (ou (ou (ou (ou (ou (oz hi (oq (Ay (b:=!decide (((Ax v hb).fKind)=4)) rfl hi rfl) ?_)))))))))))))))));exact Ct
        exact BJ hi
       ·refine AN ((Ax he ((he.length:Int)-1)).fStarted) (λhl=>?_) (λhl=>?_)
        ·refine C8 [0,3,5,6,8,10,11,12,13] [⟨[],rP hg 0,0⟩,⟨[0],Al ((Ax v hb).fKind),1⟩,⟨[1],rB (!decide (((Ax v hb).fKind)=4)),0⟩,⟨[2],rB (!decide (((Ax v hb).fKind)=4)),0⟩,⟨[3],rv (ER 5 hf (By ((he.length:Int)-1)) 0),0⟩,⟨[4,3],rv (ER 5 hf (By ((he.length:Int)-1)) 0),1⟩,⟨[5,3],rv (ER 5 hf (By ((he.length:Int)-1)) 4),1⟩,⟨[6,3],rB ((Ax he ((he.length:Int)-1)).fStarted),1⟩,⟨[7,3],rB ((Ax he ((he.length:Int)-1)).fStarted),0⟩,⟨[8],rP hg 2,0⟩,⟨[9,8],rS ((Ax v hb).fStr),1⟩,⟨[8],rv (ER 5 hf (By ((he.length:Int)-1)) 0),0⟩,⟨[11,8],rv (ER 5 hf (By ((he.length:Int)-1)) 0),1⟩,⟨[12,8],rv (ER 5 hf (By ((he.length:Int)-1)) 3),1⟩,⟨[13,8],rS ((Ax he ((he.length:Int)-1)).fLast),1⟩,⟨[10,14,8],rB (CY ((Ax v hb).fStr) ((Ax he ((he.length:Int)-1)).fLast)||decide (((Ax v hb).fStr)=((Ax he ((he.length:Int)-1)).fLast))),0⟩,⟨[8,15,3],rB (CY ((Ax v hb).fStr) ((Ax he ((he.length:Int)-1)).fLast)||decide (((Ax v hb).fStr)=((Ax he ((he.length:Int)-1)).fLast))),0⟩,⟨[3,16],rB (CY ((Ax v hb).fStr) ((Ax he ((he.length:Int)-1)).fLast)||decide (((Ax v hb).fStr)=((Ax he ((he.length:Int)-1)).fLast))),0⟩] [38,39,40,41,42,43,44,45,46,47,48,49,50,51,52,53,54,55,0,3,5,6,8,10,11,12,13] ?_ ?_
         ·refine oq (AG Bl rfl C2 rfl rfl) (of (Bm (i:=0) CA rfl rfl rfl) (oq (Bk rfl rfl) (oq (A6 rfl) (on hi (oq (A6 rfl) (on hi (of (C0 (k:=3) rfl (Ca hk) rfl rfl) (on hi (of (Ex (k:=3) Is rfl HI rfl (Ca hk) rfl rfl rfl) (on hi (of (IH (enc:=A9) (ys:=he) (i:=3) (j:=(he.length:Int)-1) Tf rfl rfl hk rfl) (on hi (oq (A6 rfl) (on hl (oq (AG Bl rfl C7 rfl rfl) (on hl (of (Bm (i:=0) CD rfl rfl rfl) (on hl (oq (A6 rfl) (on hl (of (C0 (k:=3) rfl (Ca hk) rfl rfl) (on hl (of (Ex (k:=3) Is rfl C7 rfl (Ca hk) rfl rfl rfl) ?_)))))))))))))))))))))));refine on hl (of (IH (enc:=A9) (ys:=he) (i:=3) (j:=(he.length:Int)-1) CD rfl rfl hk rfl) (on hl (oq (R3 rfl rfl) (on hi (oq (Ay rfl hl rfl) (oq (Aw rfl hi rfl) ?_))))));exact Ct
         exact BJ (And.intro hi hl)
        ·refine C8 [0,3,5,6,8,10,11,12,13] [⟨[],rP hg 0,0⟩,⟨[0],Al ((Ax v hb).fKind),1⟩,⟨[1],rB (!decide (((Ax v hb).fKind)=4)),0⟩,⟨[2],rB (!decide (((Ax v hb).fKind)=4)),0⟩,⟨[3],rv (ER 5 hf (By ((he.length:Int)-1)) 0),0⟩,⟨[4,3],rv (ER 5 hf (By ((he.length:Int)-1)) 0),1⟩,⟨[5,3],rv (ER 5 hf (By ((he.length:Int)-1)) 4),1⟩,⟨[6,3],rB ((Ax he ((he.length:Int)-1)).fStarted),1⟩,⟨[7,3],rB ((Ax he ((he.length:Int)-1)).fStarted),0⟩,⟨[8],rv undef,0⟩,⟨[9,8],rv undef,0⟩,⟨[8],rv undef,0⟩,⟨[11,8],rv undef,0⟩,⟨[12,8],rv undef,0⟩,⟨[13,8],rv undef,0⟩,⟨[10,14,8],rv undef,0⟩,⟨[8,15,3],rB false,0⟩,⟨[3,16],rB false,0⟩] [38,39,40,41,42,43,44,45,46,47,48,49,50,51,52,53,54,55,0,3,5,6,8,10,11,12,13] ?_ ?_
         ·refine oq (AG Bl rfl C2 rfl rfl) (of (Bm (i:=0) CA rfl rfl rfl) (oq (Bk rfl rfl) (oq (A6 rfl) (on hi (oq (A6 rfl) (on hi (of (C0 (k:=3) rfl (Ca hk) rfl rfl) (on hi (of (Ex (k:=3) Is rfl HI rfl (Ca hk) rfl rfl rfl) (on hi (of (IH (enc:=A9) (ys:=he) (i:=3) (j:=(he.length:Int)-1) Tf rfl rfl hk rfl) (on hi (oq (A6 rfl) (oz hl (oz hl (oz hl (oz hl (oz hl (oz hl (oz hl (on hi (oq (Aw (b:=(Ax he ((he.length:Int)-1)).fStarted) rfl hl rfl) (oq (Aw rfl hi rfl) ?_)))))))))))))))))))))));exact Ct
         exact BJ (And.intro hi hl)
      refine cz gb rfl (λgc gd=>?_) (λgc ge=>?_)
      ·refine Am (ES (H1:=[.blk hg (Ab (Ax v hb)) 54,.blk b2 (AO ha) 86,.blk b1 (AO ha) 86,.row hf 118 5 (A0 A9 he)]) [3,5] [⟨[],B8 (AO ha),1⟩,⟨[],Al 0,0⟩,⟨[0],rv undef,2⟩,⟨[],rB false,0⟩] (rle [(3,_),(2,[.blk hg (Ab (Ax v hb)) 54,.blk b2 (AO ha) 86,.blk b1 (AO ha) 86,.row hf 118 5 (A0 A9 he)])]) [2,4,3] ?_ ?_)
       ·refine of (AQ (i:=1) No G7 rfl rfl rfl rfl) (oq (AE rfl) (Iv rfl (Nt (Ds (i:=2) G7 rfl rfl rfl (BP.c rfl) rfl rfl (cs':=[Al ha.fDepth,Al ha.fBytes,rB ha.fOutside,rB ha.fLong]) rfl (H':=[.blk hg (Ab (Ax v hb)) 54,.blk b2 (AO ha) 86,.blk b1 (AO ha) 86,.row hf 118 5 (A0 A9 he)]) rfl)) ?_));refine oq (AE rfl) ?_;exact Ct
       refine A7 (Ap (Ac (Ac (At (Ac (Ac (AM ?_)))))));have gf:=Bg gd hy hz;refine At (Ac (JJ ?_));obtain rfl:=An gf;exact Ao (Xp Tp (A5 rfl) (Es (i:=2) No G7 rfl rfl rfl) (A5 rfl)) (sS (sS (sS (sS sN)))) ⟨rfl,rfl⟩
      ·refine Aq (A7 (Ae (wm rfl (wm rfl (wm rfl (vF Bl rfl C7 (vL 0 CD rfl (wv (r:=rv (ER 5 hf (By ((he.length:Int)-1)) 0)) (C0 (k:=3) rfl (Ca hk) rfl rfl) (wv (r:=rv (ER 5 hf (By ((he.length:Int)-1)) 3)) (Ex (k:=3) Is rfl C7 rfl (Ca hk) rfl rfl rfl) (I9 (enc:=A9) (ys:=he) (y':=(AB.mk ((Ax he ((he.length:Int)-1)).fPairs) ((Ax he ((he.length:Int)-1)).fLeft) ((Ax he ((he.length:Int)-1)).fKey) ((Ax v hb).fStr) ((Ax he ((he.length:Int)-1)).fStarted))) (i:=3) (j:=(he.length:Int)-1) C7 rfl rfl (BS rfl) rfl hk rfl rfl (H':=[.blk hg (Ab (Ax v hb)) 54,.blk b2 (AO ha) 86,.blk b1 [Al 0,Al 0,rB false,rB false] 86,.row hf 118 5 (A0 A9 (List.set he (By ((he.length:Int)-1)) (AB.mk ((Ax he ((he.length:Int)-1)).fPairs) ((Ax he ((he.length:Int)-1)).fLeft) ((Ax he ((he.length:Int)-1)).fKey) ((Ax v hb).fStr) ((Ax he ((he.length:Int)-1)).fStarted))))]) rfl (bd ge λhs hw gg=>?_)))))))))));rw[← hw];refine wv (r:=rv (ER 5 hf (By ((he.length:Int)-1)) 0)) (C0 (k:=3) rfl (Ca (CQ hk hw)) rfl rfl) (wv (r:=rv (ER 5 hf (By ((he.length:Int)-1)) 4)) (Ex (k:=3) Is rfl HI rfl (Ca (CQ hk hw)) rfl rfl rfl) (I9 (enc:=A9) (ys:=hs) (y':=(AB.mk ((Ax hs ((he.length:Int)-1)).fPairs) ((Ax hs ((he.length:Int)-1)).fLeft) ((Ax hs ((he.length:Int)-1)).fKey) ((Ax hs ((he.length:Int)-1)).fLast) true)) (i:=3) (j:=(he.length:Int)-1) HI rfl rfl (BS rfl) rfl (CQ hk hw) rfl rfl (H':=[.blk hg (Ab (Ax v hb)) 54,.blk b2 (AO ha) 86,.blk b1 [Al 0,Al 0,rB false,rB false] 86,.row hf 118 5 (A0 A9 (List.set hs (By ((he.length:Int)-1)) (AB.mk ((Ax hs ((he.length:Int)-1)).fPairs) ((Ax hs ((he.length:Int)-1)).fLeft) ((Ax hs ((he.length:Int)-1)).fKey) ((Ax hs ((he.length:Int)-1)).fLast) true)))]) rfl (bd gg λht h2 gh=>?_)));rw[← h2];refine wv (r:=rv (ER 5 hf (By ((he.length:Int)-1)) 0)) (C0 (k:=3) rfl (Ca (CQ (CQ hk hw) h2)) rfl rfl) (wv (r:=rv (ER 5 hf (By ((he.length:Int)-1)) 2)) (Ex (k:=3) Is rfl HI rfl (Ca (CQ (CQ hk hw) h2)) rfl rfl rfl) (I9 (enc:=A9) (ys:=ht) (y':=(AB.mk ((Ax ht ((he.length:Int)-1)).fPairs) ((Ax ht ((he.length:Int)-1)).fLeft) false ((Ax ht ((he.length:Int)-1)).fLast) ((Ax ht ((he.length:Int)-1)).fStarted))) (i:=3) (j:=(he.length:Int)-1) HI rfl rfl (BS rfl) rfl (CQ (CQ hk hw) h2) rfl rfl (H':=[.blk hg (Ab (Ax v hb)) 54,.blk b2 (AO ha) 86,.blk b1 [Al 0,Al 0,rB false,rB false] 86,.row hf 118 5 (A0 A9 (List.set ht (By ((he.length:Int)-1)) (AB.mk ((Ax ht ((he.length:Int)-1)).fPairs) ((Ax ht ((he.length:Int)-1)).fLeft) false ((Ax ht ((he.length:Int)-1)).fLast) ((Ax ht ((he.length:Int)-1)).fStarted))))]) rfl (bd gh λhu gi gj=>?_)));rw[← gi];refine Ak (Am (ob gj λhm gl gm=>ck gm λgp gq=>ES (H1:=[.blk hg (Ab (Ax v hb)) 54,.blk b2 [Al ha.fDepth,Al (IntKind.wrap .i64 (ha.fBytes+(hm+1))),rB ha.fOutside,rB ha.fLong] 86,.blk b1 [Al 0,Al 0,rB false,rB false] 86,.row hf 118 5 (A0 A9 hu)]) [0,3,5,6,8,11,12,13,38,39,40,41] [⟨[],rP b2 1,0⟩,⟨[0],Al ha.fBytes,1⟩,⟨[],rP hg 2,0⟩,⟨[2],rS ((Ax v hb).fStr),1⟩,⟨[3],Al hm,0⟩,⟨[4],Al (hm+1),0⟩,⟨[1,5],Al (IntKind.wrap .i64 (ha.fBytes+(hm+1))),0⟩,⟨[],rP b2 1,0⟩,⟨[7,6],rv undef,2⟩] (rle [(9,_),(1,[.blk hg (Ab (Ax v hb)) 54,.blk b2 [Al ha.fDepth,Al (IntKind.wrap .i64 (ha.fBytes+(hm+1))),rB ha.fOutside,rB ha.fLong] 86,.blk b1 [Al 0,Al 0,rB false,rB false] 86,.row hf 118 5 (A0 A9 hu)])]) [68,69,70,71,72,73,74,75,0,3,5,6,8,11,12,13,38,39,40,41] ?_ ?_))
       ·refine oq (AG Hj rfl B9 rfl rfl) (of (Bm (i:=1) BN rfl rfl rfl) (oq (AG Bl rfl C7 rfl rfl) (of (Bm (i:=0) CD rfl rfl rfl) (D7 rfl (λH=>E6 Tryz.call102 (N4 ((Ax v hb).fStr) hm gl) rfl) ?_))));refine oq (Bd rfl rfl gp) (oq (QD rfl rfl) (oq (AG Hj rfl B9 rfl rfl) (Iv rfl (Nt (Jm (i:=1) B9 rfl rfl (BS rfl) rfl rfl (cs':=[Al ha.fDepth,Al (IntKind.wrap .i64 (ha.fBytes+(hm+1))),rB ha.fOutside,rB ha.fLong]) rfl (H':=[.blk hg (Ab (Ax v hb)) 54,.blk b2 [Al ha.fDepth,Al (IntKind.wrap .i64 (ha.fBytes+(hm+1))),rB ha.fOutside,rB ha.fLong] 86,.blk b1 [Al 0,Al 0,rB false,rB false] 86,.row hf 118 5 (A0 A9 hu)]) rfl)) ?_)));exact Ct
       refine A7 (AD [(0,AC 4 (A0 Ab v)),(3,rP b1 0),(5,rP b2 0),(6,rv hf),(11,AC 4 (A0 Ab v)),(12,Al (v.length:Int)),(13,Al hb),(38,rP hg 0),(39,Al ((Ax v hb).fKind)),(40,rB (!decide (((Ax v hb).fKind)=4))),(41,rB (!decide (((Ax v hb).fKind)=4))),(68,rP b2 1),(69,Al ha.fBytes),(70,rP hg 2),(71,rS ((Ax v hb).fStr)),(72,Al hm),(73,Al (hm+1)),(74,Al (IntKind.wrap .i64 (ha.fBytes+(hm+1)))),(75,rP b2 1)] [.blk hg (Ab (Ax v hb)) 54,.blk b2 [Al ha.fDepth,Al (IntKind.wrap .i64 (ha.fBytes+(hm+1))),rB ha.fOutside,rB (ha.fLong||(decide (200<(((Ax v hb).fStr).length:Int))))] 86,.blk b1 [Al 0,Al 0,rB false,rB false] 86,.row hf 118 5 (A0 A9 hu)] ?_ ?_)
       ·refine Aj (vF Hj rfl HI (vL 1 Tf rfl (wm rfl (AN (ha.fLong) (λhp=>?_) (λhp=>?_)))))
        ·refine wf hp (wf hp (wf hp (wf hp (wv (r:=rB true) (Ay rfl hp rfl) (vF Hj rfl HI (BA (i:=1) HI rfl rfl (BS rfl) rfl rfl (cs':=[Al ha.fDepth,Al (IntKind.wrap .i64 (ha.fBytes+(hm+1))),rB ha.fOutside,rB true]) rfl (H':=[.blk hg (Ab (Ax v hb)) 54,.blk b2 [Al ha.fDepth,Al (IntKind.wrap .i64 (ha.fBytes+(hm+1))),rB ha.fOutside,rB true] 86,.blk b1 [Al 0,Al 0,rB false,rB false] 86,.row hf 118 5 (A0 A9 hu)]) rfl (Ai (HL (H':=[.blk hg (Ab (Ax v hb)) 54,.blk b2 [Al ha.fDepth,Al (IntKind.wrap .i64 (ha.fBytes+(hm+1))),rB ha.fOutside,rB (ha.fLong||(decide (200<(((Ax v hb).fStr).length:Int))))] 86,.blk b1 [Al 0,Al 0,rB false,rB false] 86,.row hf 118 5 (A0 A9 hu)]) (by simp only[hp,YC,YL,YP,YF,YS,YK,YQ,YR,YA,YJ,Y7,Y2]) ?_))))))));exact wt
        ·refine wo hp (vF Bl rfl C7 (wo hp (vL 0 CD rfl (wo hp (wv (BQ Dz rfl) (wo hp (wv (C3 rfl rfl) (Cm rfl hp rfl (vF Hj rfl HI (BA (i:=1) HI rfl rfl (BS rfl) rfl rfl (cs':=[Al ha.fDepth,Al (IntKind.wrap .i64 (ha.fBytes+(hm+1))),rB ha.fOutside,rB (decide (200<(((Ax v hb).fStr).length:Int)))]) rfl (H':=[.blk hg (Ab (Ax v hb)) 54,.blk b2 [Al ha.fDepth,Al (IntKind.wrap .i64 (ha.fBytes+(hm+1))),rB ha.fOutside,rB (decide (200<(((Ax v hb).fStr).length:Int)))] 86,.blk b1 [Al 0,Al 0,rB false,rB false] 86,.row hf 118 5 (A0 A9 hu)]) rfl (Ai (HL (H':=[.blk hg (Ab (Ax v hb)) 54,.blk b2 [Al ha.fDepth,Al (IntKind.wrap .i64 (ha.fBytes+(hm+1))),rB ha.fOutside,rB (ha.fLong||(decide (200<(((Ax v hb).fStr).length:Int))))] 86,.blk b1 [Al 0,Al 0,rB false,rB false] 86,.row hf 118 5 (A0 A9 hu)]) (by simp only[hp,YC,YL,YP,YF,YS,YK,YQ,YR,YA,YJ,Y7,Y2]) ?_))))))))))));exact wt
       exact Bf (As (AV (Au (Ar ((hu,(AK.mk ha.fDepth (IntKind.wrap .i64 (ha.fBytes+(hm+1))) ha.fOutside (ha.fLong||(decide (200<(((Ax v hb).fStr).length:Int)))))),hf) gq (Az.c rfl (Az.c rfl (Az.c5 rfl rfl rfl rfl rfl Az.nil))) (sS (sC (sC (sC sN))))))))
     ·refine Aq (A7 (Ae (vF Hj rfl B9 (vL 1 BN rfl (wm rfl (wv (DS (ys:=he) (enc:=A9) (i:=3) It rfl rfl) (ck hY λgr gs=>wv (Bd rfl rfl gr) (wv (Uc Yc rfl rfl) (vF Hj rfl B9 (BA (i:=1) B9 rfl rfl (BS rfl) rfl rfl (cs':=[Al (max ha.fDepth ((he.length:Int)+1)),Al ha.fBytes,rB ha.fOutside,rB ha.fLong]) rfl (H':=[.blk hg (Ab (Ax v hb)) 54,.blk b2 [Al (max ha.fDepth ((he.length:Int)+1)),Al ha.fBytes,rB ha.fOutside,rB ha.fLong] 86,.blk b1 [Al 0,Al 0,rB false,rB false] 86,.row hf 118 5 (A0 A9 he)]) rfl (Ak (Am (ob gs λhh gt gu=>ES (H1:=[.blk hg (Ab (Ax v hb)) 54,.blk b2 [Al (max ha.fDepth ((he.length:Int)+1)),Al (IntKind.wrap .i64 (ha.fBytes+hh)),rB ha.fOutside,rB ha.fLong] 86,.blk b1 [Al 0,Al 0,rB false,rB false] 86,.row hf 118 5 (A0 A9 he)]) [0,3,5,6,7,8,11,12,13] [⟨[],rP b2 1,0⟩,⟨[0],Al ha.fBytes,1⟩,⟨[],B8 (Ab (Ax v hb)),1⟩,⟨[2],Al hh,0⟩,⟨[1,3],Al (IntKind.wrap .i64 (ha.fBytes+hh)),0⟩,⟨[],rP b2 1,0⟩,⟨[5,4],rv undef,2⟩] (rle [(7,_),(1,[.blk hg (Ab (Ax v hb)) 54,.blk b2 [Al (max ha.fDepth ((he.length:Int)+1)),Al (IntKind.wrap .i64 (ha.fBytes+hh)),rB ha.fOutside,rB ha.fLong] 86,.blk b1 [Al 0,Al 0,rB false,rB false] 86,.row hf 118 5 (A0 A9 he)])]) [92,93,94,95,96,97,0,3,5,6,7,8,11,12,13] ?_ ?_)))))))))))))
      ·refine oq (AG Hj rfl B9 rfl rfl) (of (Bm (i:=1) BN rfl rfl rfl) (of (AQ (i:=0) Jp Bz rfl rfl rfl rfl) (D7 rfl (λH=>E6 Tryz.call103 (Vj (Ax v hb) hh gt) rfl) ?_)));refine oq (QD rfl rfl) (oq (AG Hj rfl B9 rfl rfl) (Iv rfl (Nt (Jm (i:=1) B9 rfl rfl (BS rfl) rfl rfl (cs':=[Al (max ha.fDepth ((he.length:Int)+1)),Al (IntKind.wrap .i64 (ha.fBytes+hh)),rB ha.fOutside,rB ha.fLong]) rfl (H':=[.blk hg (Ab (Ax v hb)) 54,.blk b2 [Al (max ha.fDepth ((he.length:Int)+1)),Al (IntKind.wrap .i64 (ha.fBytes+hh)),rB ha.fOutside,rB ha.fLong] 86,.blk b1 [Al 0,Al 0,rB false,rB false] 86,.row hf 118 5 (A0 A9 he)]) rfl)) ?_));exact Ct
      refine A7 (ck gu λgv gw=>AD [(0,AC 4 (A0 Ab v)),(3,rP b1 0),(5,rP b2 0),(6,rv hf),(7,Al hb),(8,rP hg 0),(11,AC 4 (A0 Ab v)),(12,Al (v.length:Int)),(13,Al hb),(92,rP b2 1),(93,Al ha.fBytes),(94,B8 (Ab (Ax v hb))),(95,Al hh),(96,Al (IntKind.wrap .i64 (ha.fBytes+hh))),(97,rP b2 1)] [.blk hg (Ab (Ax v hb)) 54,.blk b2 [Al (max ha.fDepth ((he.length:Int)+1)),Al (IntKind.wrap .i64 (ha.fBytes+hh)),rB (ha.fOutside||((decide (((Ax v hb).fKind)=3))&&(!(ov (Bv ((Ax v hb).fInt)))))),rB ha.fLong] 86,.blk b1 [Al 0,Al 0,rB false,rB false] 86,.row hf 118 5 (A0 A9 he)] ?_ ?_)
      ·refine Aj (vF Hj rfl HI (vL 1 Tf rfl (wm rfl (AN (ha.fOutside) (λhn=>?_) (λhn=>?_)))))
       ·refine wf hn (wf hn (wf hn (wf hn (wu (wu (wu (wu (wf hn (wv (r:=rB true) (Ay rfl hn rfl) (vF Hj rfl HI (BA (i:=1) HI rfl rfl (BS rfl) rfl rfl (cs':=[Al (max ha.fDepth ((he.length:Int)+1)),Al (IntKind.wrap .i64 (ha.fBytes+hh)),rB true,rB ha.fLong]) rfl (H':=[.blk hg (Ab (Ax v hb)) 54,.blk b2 [Al (max ha.fDepth ((he.length:Int)+1)),Al (IntKind.wrap .i64 (ha.fBytes+hh)),rB true,rB ha.fLong] 86,.blk b1 [Al 0,Al 0,rB false,rB false] 86,.row hf 118 5 (A0 A9 he)]) rfl (Ai (HL (H':=[.blk hg (Ab (Ax v hb)) 54,.blk b2 [Al (max ha.fDepth ((he.length:Int)+1)),Al (IntKind.wrap .i64 (ha.fBytes+hh)),rB (ha.fOutside||((decide (((Ax v hb).fKind)=3))&&(!(ov (Bv ((Ax v hb).fInt)))))),rB ha.fLong] 86,.blk b1 [Al 0,Al 0,rB false,rB false] 86,.row hf 118 5 (A0 A9 he)]) (by simp only[hn,YC,YL,YP,YF,YS,YK,YQ,YR,YA,YJ,Y7,Y2]) ?_)))))))))))));exact wt
       ·refine wo hn (vF Bl rfl C2 (wo hn (vL 0 CA rfl (wo hn (wv (Bh rfl rfl) (wo hn (wm rfl (AN (decide (((Ax v hb).fKind)=3)) (λho=>?_) (λho=>?_)))))))))
        ·refine wo ho (vF Bl rfl B9 (wo ho (vL 0 BN rfl (wo ho (BM Tryz.call31 (MD ((Ax v hb).fInt) (ov (Bv ((Ax v hb).fInt))) (Dg (Ch (Cw gv hn) ho))) rfl (wo ho (wv (B4 rfl) (wo hn (Cj rfl ho rfl (Cm rfl hn rfl (vF Hj rfl HI (BA (i:=1) HI rfl rfl (BS rfl) rfl rfl (cs':=[Al (max ha.fDepth ((he.length:Int)+1)),Al (IntKind.wrap .i64 (ha.fBytes+hh)),rB (!(ov (Bv ((Ax v hb).fInt)))),rB ha.fLong]) rfl (H':=[.blk hg (Ab (Ax v hb)) 54,.blk b2 [Al (max ha.fDepth ((he.length:Int)+1)),Al (IntKind.wrap .i64 (ha.fBytes+hh)),rB (!(ov (Bv ((Ax v hb).fInt)))),rB ha.fLong] 86,.blk b1 [Al 0,Al 0,rB false,rB false] 86,.row hf 118 5 (A0 A9 he)]) rfl (Ai (HL (H':=[.blk hg (Ab (Ax v hb)) 54,.blk b2 [Al (max ha.fDepth ((he.length:Int)+1)),Al (IntKind.wrap .i64 (ha.fBytes+hh)),rB (ha.fOutside||((decide (((Ax v hb).fKind)=3))&&(!(ov (Bv ((Ax v hb).fInt)))))),rB ha.fLong] 86,.blk b1 [Al 0,Al 0,rB false,rB false] 86,.row hf 118 5 (A0 A9 he)]) (by simp only[hn,ho,YC,YL,YP,YF,YS,YK,YQ,YR,YA,YJ,Y7,Y2]) ?_))))))))))))));exact wt
        ·refine wf ho (wf ho (wf ho (wf ho (wo hn (wv (r:=rB false) (Aw rfl ho rfl) (Cm rfl hn rfl (vF Hj rfl HI (BA (i:=1) HI rfl rfl (BS rfl) rfl rfl (cs':=[Al (max ha.fDepth ((he.length:Int)+1)),Al (IntKind.wrap .i64 (ha.fBytes+hh)),rB false,rB ha.fLong]) rfl (H':=[.blk hg (Ab (Ax v hb)) 54,.blk b2 [Al (max ha.fDepth ((he.length:Int)+1)),Al (IntKind.wrap .i64 (ha.fBytes+hh)),rB false,rB ha.fLong] 86,.blk b1 [Al 0,Al 0,rB false,rB false] 86,.row hf 118 5 (A0 A9 he)]) rfl (Ai (HL (H':=[.blk hg (Ab (Ax v hb)) 54,.blk b2 [Al (max ha.fDepth ((he.length:Int)+1)),Al (IntKind.wrap .i64 (ha.fBytes+hh)),rB (ha.fOutside||((decide (((Ax v hb).fKind)=3))&&(!(ov (Bv ((Ax v hb).fInt)))))),rB ha.fLong] 86,.blk b1 [Al 0,Al 0,rB false,rB false] 86,.row hf 118 5 (A0 A9 he)]) (by simp only[hn,ho,YC,YL,YP,YF,YS,YK,YQ,YR,YA,YJ,Y7,Y2]) ?_))))))))));exact wt
      refine AD [(0,AC 4 (A0 Ab v)),(3,rP b1 0),(5,rP b2 0),(6,rv hf),(7,Al hb),(8,rP hg 0),(11,AC 4 (A0 Ab v)),(12,Al (v.length:Int)),(13,Al hb),(92,rP b2 1),(93,Al ha.fBytes),(94,B8 (Ab (Ax v hb))),(95,Al hh),(96,Al (IntKind.wrap .i64 (ha.fBytes+hh))),(97,rP b2 1)] [.blk hg (Ab (Ax v hb)) 54,.blk b2 [Al (max ha.fDepth ((he.length:Int)+1)),Al (IntKind.wrap .i64 (ha.fBytes+hh)),rB (ha.fOutside||((decide (((Ax v hb).fKind)=3))&&(!(ov (Bv ((Ax v hb).fInt)))))),rB (ha.fLong||(decide (200<(((Ax v hb).fStr).length:Int))))] 86,.blk b1 [Al 0,Al 0,rB false,rB false] 86,.row hf 118 5 (A0 A9 he)] ?_ ?_
      ·refine Aj (vF Hj rfl HI (vL 1 Tf rfl (wm rfl (AN (ha.fLong) (λhq=>?_) (λhq=>?_)))))
       ·refine wf hq (wf hq (wf hq (wf hq (wv (r:=rB true) (Ay rfl hq rfl) (vF Hj rfl HI (BA (i:=1) HI rfl rfl (BS rfl) rfl rfl (cs':=[Al (max ha.fDepth ((he.length:Int)+1)),Al (IntKind.wrap .i64 (ha.fBytes+hh)),rB (ha.fOutside||((decide (((Ax v hb).fKind)=3))&&(!(ov (Bv ((Ax v hb).fInt)))))),rB true]) rfl (H':=[.blk hg (Ab (Ax v hb)) 54,.blk b2 [Al (max ha.fDepth ((he.length:Int)+1)),Al (IntKind.wrap .i64 (ha.fBytes+hh)),rB (ha.fOutside||((decide (((Ax v hb).fKind)=3))&&(!(ov (Bv ((Ax v hb).fInt)))))),rB true] 86,.blk b1 [Al 0,Al 0,rB false,rB false] 86,.row hf 118 5 (A0 A9 he)]) rfl (Ai (HL (H':=[.blk hg (Ab (Ax v hb)) 54,.blk b2 [Al (max ha.fDepth ((he.length:Int)+1)),Al (IntKind.wrap .i64 (ha.fBytes+hh)),rB (ha.fOutside||((decide (((Ax v hb).fKind)=3))&&(!(ov (Bv ((Ax v hb).fInt)))))),rB (ha.fLong||(decide (200<(((Ax v hb).fStr).length:Int))))] 86,.blk b1 [Al 0,Al 0,rB false,rB false] 86,.row hf 118 5 (A0 A9 he)]) (by simp only[hq,YC,YL,YP,YF,YS,YK,YQ,YR,YA,YJ,Y7,Y2]) ?_))))))));exact wt
       ·refine wo hq (vF Bl rfl C7 (wo hq (vL 0 CD rfl (wo hq (wv (BQ Dz rfl) (wo hq (wv (C3 rfl rfl) (Cm rfl hq rfl (vF Hj rfl HI (BA (i:=1) HI rfl rfl (BS rfl) rfl rfl (cs':=[Al (max ha.fDepth ((he.length:Int)+1)),Al (IntKind.wrap .i64 (ha.fBytes+hh)),rB (ha.fOutside||((decide (((Ax v hb).fKind)=3))&&(!(ov (Bv ((Ax v hb).fInt)))))),rB (decide (200<(((Ax v hb).fStr).length:Int)))]) rfl (H':=[.blk hg (Ab (Ax v hb)) 54,.blk b2 [Al (max ha.fDepth ((he.length:Int)+1)),Al (IntKind.wrap .i64 (ha.fBytes+hh)),rB (ha.fOutside||((decide (((Ax v hb).fKind)=3))&&(!(ov (Bv ((Ax v hb).fInt)))))),rB (decide (200<(((Ax v hb).fStr).length:Int)))] 86,.blk b1 [Al 0,Al 0,rB false,rB false] 86,.row hf 118 5 (A0 A9 he)]) rfl (Ai (HL (H':=[.blk hg (Ab (Ax v hb)) 54,.blk b2 [Al (max ha.fDepth ((he.length:Int)+1)),Al (IntKind.wrap .i64 (ha.fBytes+hh)),rB (ha.fOutside||((decide (((Ax v hb).fKind)=3))&&(!(ov (Bv ((Ax v hb).fInt)))))),rB (ha.fLong||(decide (200<(((Ax v hb).fStr).length:Int))))] 86,.blk b1 [Al 0,Al 0,rB false,rB false] 86,.row hf 118 5 (A0 A9 he)]) (by simp only[hq,YC,YL,YP,YF,YS,YK,YQ,YR,YA,YJ,Y7,Y2]) ?_))))))))))));exact wt
      refine Am (Ae (vF Bl rfl B9 (vL 0 BN rfl (wv (C3 rfl rfl) (Ak (cz gw rfl (λgx gy=>?_) (λgx gz=>?_)))))))
      ·refine Am (Ae (vF Bl rfl B9 (vL 0 BN rfl (wm rfl (wv (AF (ys:=v) (enc:=Ab) Br rfl) (wv (C3 rfl rfl) (Ak (cz gy rfl (λg0 g1=>?_) (λg0 g2=>?_)))))))))
       ·refine Am (ES (H1:=[.blk hg (Ab (Ax v hb)) 54,.blk b2 [Al (max ha.fDepth ((he.length:Int)+1)),Al (IntKind.wrap .i64 (ha.fBytes+hh)),rB (ha.fOutside||((decide (((Ax v hb).fKind)=3))&&(!(ov (Bv ((Ax v hb).fInt)))))),rB (ha.fLong||(decide (200<(((Ax v hb).fStr).length:Int))))] 86,.blk b1 [Al (max ha.fDepth ((he.length:Int)+1)),Al (IntKind.wrap .i64 (ha.fBytes+hh)),rB (ha.fOutside||((decide (((Ax v hb).fKind)=3))&&(!(ov (Bv ((Ax v hb).fInt)))))),rB (ha.fLong||(decide (200<(((Ax v hb).fStr).length:Int))))] 86,.row hf 118 5 (A0 A9 he)]) [3,5] [⟨[],B8 [Al (max ha.fDepth ((he.length:Int)+1)),Al (IntKind.wrap .i64 (ha.fBytes+hh)),rB (ha.fOutside||((decide (((Ax v hb).fKind)=3))&&(!(ov (Bv ((Ax v hb).fInt)))))),rB (ha.fLong||(decide (200<(((Ax v hb).fStr).length:Int))))],1⟩,⟨[],Al 0,0⟩,⟨[0],rv undef,2⟩,⟨[],rB false,0⟩] (rle [(3,_),(2,[.blk hg (Ab (Ax v hb)) 54,.blk b2 [Al (max ha.fDepth ((he.length:Int)+1)),Al (IntKind.wrap .i64 (ha.fBytes+hh)),rB (ha.fOutside||((decide (((Ax v hb).fKind)=3))&&(!(ov (Bv ((Ax v hb).fInt)))))),rB (ha.fLong||(decide (200<(((Ax v hb).fStr).length:Int))))] 86,.blk b1 [Al (max ha.fDepth ((he.length:Int)+1)),Al (IntKind.wrap .i64 (ha.fBytes+hh)),rB (ha.fOutside||((decide (((Ax v hb).fKind)=3))&&(!(ov (Bv ((Ax v hb).fInt)))))),rB (ha.fLong||(decide (200<(((Ax v hb).fStr).length:Int))))] 86,.row hf 118 5 (A0 A9 he)])]) [2,4,3] ?_ ?_)
        ·refine of (AQ (i:=1) No G7 rfl rfl rfl rfl) (oq (AE rfl) (Iv rfl (Nt (Ds (i:=2) G7 rfl rfl rfl (BP.c rfl) rfl rfl (cs':=[Al (max ha.fDepth ((he.length:Int)+1)),Al (IntKind.wrap .i64 (ha.fBytes+hh)),rB (ha.fOutside||((decide (((Ax v hb).fKind)=3))&&(!(ov (Bv ((Ax v hb).fInt)))))),rB (ha.fLong||(decide (200<(((Ax v hb).fStr).length:Int))))]) rfl (H':=[.blk hg (Ab (Ax v hb)) 54,.blk b2 [Al (max ha.fDepth ((he.length:Int)+1)),Al (IntKind.wrap .i64 (ha.fBytes+hh)),rB (ha.fOutside||((decide (((Ax v hb).fKind)=3))&&(!(ov (Bv ((Ax v hb).fInt)))))),rB (ha.fLong||(decide (200<(((Ax v hb).fStr).length:Int))))] 86,.blk b1 [Al (max ha.fDepth ((he.length:Int)+1)),Al (IntKind.wrap .i64 (ha.fBytes+hh)),rB (ha.fOutside||((decide (((Ax v hb).fKind)=3))&&(!(ov (Bv ((Ax v hb).fInt)))))),rB (ha.fLong||(decide (200<(((Ax v hb).fStr).length:Int))))] 86,.row hf 118 5 (A0 A9 he)]) rfl)) ?_));refine oq (AE rfl) ?_;exact Ct
        refine A7 (Ap (Ac (Ac (At (Ac (Ac (AM ?_)))))));have g3:=Bg g1 hy hz;refine At (Ac (JJ ?_));obtain rfl:=An g3;exact Ao (Xp Tp (A5 rfl) (Es (i:=2) No G7 rfl rfl rfl) (A5 rfl)) (sS (sS (sS (sS sN)))) ⟨rfl,rfl⟩
       ·refine Aq (A7 (Ae (wm rfl (vF Bl rfl C2 (vL 0 CA rfl (wv (Bh rfl rfl) (vF Bl rfl B9 (vL 0 BN rfl (vF Bl rfl C2 (vL 0 CA rfl (wv (Bh rfl rfl) (wv (r:=B8 [rB (decide (((Ax v hb).fKind)=6)),Al ((Ax v hb).fN),rB (decide (((Ax v hb).fKind)=6)),rS ([]:Av),rB false]) (KV rfl rfl rfl rfl rfl rfl) (AX (ys:=([(AB.mk (decide (((Ax v hb).fKind)=6)) ((Ax v hb).fN) (decide (((Ax v hb).fKind)=6)) ([]:Av) false)]:List AB)) (enc:=A9) (css:=[[rB (decide (((Ax v hb).fKind)=6)),Al ((Ax v hb).fN),rB (decide (((Ax v hb).fKind)=6)),rS ([]:Av),rB false]]) (xs:=[.tmp 139]) It OR Tryz.zeroValue118 rfl rfl rfl ⟨Ep.agg ⟨Up.refl _,Up.refl _,Up.refl _,Up.refl _,Up.refl _,trivial⟩,trivial⟩ rfl Iz rfl rfl rfl (λg4=>?_))))))))))))));refine ck g2 λg5 g6=>Exists.elim VL λinf hinf=>BZ (xs:=he) (ys:=([(AB.mk (decide (((Ax v hb).fKind)=6)) ((Ax v hb).fN) (decide (((Ax v hb).fKind)=6)) ([]:Av) false)]:List AB)) (enc:=A9) (i:=4) It hinf.1 hinf.2.1 hinf.2.2.1 hinf.2.2.2 rfl rfl rfl rfl rfl (JF.w (i:=0) rfl rfl) Iz LG g5 rfl (λhA=>?_);exact wa rfl (Ak (Bf (As (AV (C6 (H2:=[.blk b2 [Al (max ha.fDepth ((he.length:Int)+1)),Al (IntKind.wrap .i64 (ha.fBytes+hh)),rB (ha.fOutside||((decide (((Ax v hb).fKind)=3))&&(!(ov (Bv ((Ax v hb).fInt)))))),rB (ha.fLong||(decide (200<(((Ax v hb).fStr).length:Int))))] 86,.blk b1 [Al 0,Al 0,rB false,rB false] 86,.row hA 118 5 (A0 A9 (he++([(AB.mk (decide (((Ax v hb).fKind)=6)) ((Ax v hb).fN) (decide (((Ax v hb).fKind)=6)) ([]:Av) false)]:List AB))),.row (.slice (some ⟨g4,0,none⟩) 1 1) 118 5 (A0 A9 ([(AB.mk (decide (((Ax v hb).fKind)=6)) ((Ax v hb).fN) (decide (((Ax v hb).fKind)=6)) ([]:Av) false)]:List AB)),.blk hg (Ab (Ax v hb)) 54]) ((A4 (i:=3) rfl).trans (Yw _ ((A4 (i:=3) rfl).trans (Yw _ (Yu _))))) (Au (Ar ((he++([(AB.mk (decide (((Ax v hb).fKind)=6)) ((Ax v hb).fN) (decide (((Ax v hb).fKind)=6)) ([]:Av) false)]:List AB),(AK.mk (max ha.fDepth ((he.length:Int)+1)) (IntKind.wrap .i64 (ha.fBytes+hh)) (ha.fOutside||((decide (((Ax v hb).fKind)=3))&&(!(ov (Bv ((Ax v hb).fInt)))))) (ha.fLong||(decide (200<(((Ax v hb).fStr).length:Int)))))),hA) g6 (Az.c rfl (Az.c rfl (Az.c5 rfl rfl rfl rfl rfl Az.nil))) (sC (sC (sC (sS (sS sN))))))))))))
      ·refine Aq (A7 (Ae (wm rfl (ob gz λhx g7 g8=>DN (Hr:=[.blk hg (Ab (Ax v hb)) 54,.blk b2 [Al (max ha.fDepth ((he.length:Int)+1)),Al (IntKind.wrap .i64 (ha.fBytes+hh)),rB (ha.fOutside||((decide (((Ax v hb).fKind)=3))&&(!(ov (Bv ((Ax v hb).fInt)))))),rB (ha.fLong||(decide (200<(((Ax v hb).fStr).length:Int))))] 86,.blk b1 [Al 0,Al 0,rB false,rB false] 86]) Tryz.call104 (Sh F hf he hx g7) rfl ((A4 (i:=3) rfl).trans (Yw _ (Yu _))) rfl ?_))));rintro _ _ ⟨h0,rfl,rfl⟩;refine wa rfl (Bc (wm rfl (wv (DS (ys:=hx) (enc:=A9) (i:=0) It rfl rfl) (wv (Bh rfl rfl) (Ak (cz g8 rfl (λg9 gA=>?_) (λg9 gB=>?_)))))))
       ·refine Am (ck gA λgC gD=>ES (H1:=[.row h0 118 5 (A0 A9 hx),.blk hg (Ab (Ax v hb)) 54,.blk b2 [Al (max ha.fDepth ((he.length:Int)+1)),Al (IntKind.wrap .i64 (ha.fBytes+hh)),rB (ha.fOutside||((decide (((Ax v hb).fKind)=3))&&(!(ov (Bv ((Ax v hb).fInt)))))),rB (ha.fLong||(decide (200<(((Ax v hb).fStr).length:Int))))] 86,.blk b1 [Al (max ha.fDepth ((he.length:Int)+1)),Al (IntKind.wrap .i64 (ha.fBytes+hh)),rB (ha.fOutside||((decide (((Ax v hb).fKind)=3))&&(!(ov (Bv ((Ax v hb).fInt)))))),rB (ha.fLong||(decide (200<(((Ax v hb).fStr).length:Int))))] 86]) [3,5,7] [⟨[],Al hb,0⟩,⟨[0],Al (hb+1),0⟩,⟨[],B8 [Al (max ha.fDepth ((he.length:Int)+1)),Al (IntKind.wrap .i64 (ha.fBytes+hh)),rB (ha.fOutside||((decide (((Ax v hb).fKind)=3))&&(!(ov (Bv ((Ax v hb).fInt)))))),rB (ha.fLong||(decide (200<(((Ax v hb).fStr).length:Int))))],1⟩,⟨[1],Al (hb+1),0⟩,⟨[2],rv undef,2⟩,⟨[],rB true,0⟩] (rle [(5,_),(2,[.row h0 118 5 (A0 A9 hx),.blk hg (Ab (Ax v hb)) 54,.blk b2 [Al (max ha.fDepth ((he.length:Int)+1)),Al (IntKind.wrap .i64 (ha.fBytes+hh)),rB (ha.fOutside||((decide (((Ax v hb).fKind)=3))&&(!(ov (Bv ((Ax v hb).fInt)))))),rB (ha.fLong||(decide (200<(((Ax v hb).fStr).length:Int))))] 86,.blk b1 [Al (max ha.fDepth ((he.length:Int)+1)),Al (IntKind.wrap .i64 (ha.fBytes+hh)),rB (ha.fOutside||((decide (((Ax v hb).fKind)=3))&&(!(ov (Bv ((Ax v hb).fInt)))))),rB (ha.fLong||(decide (200<(((Ax v hb).fStr).length:Int))))] 86])]) [2,4,3] ?_ ?_)
        ·refine oq (A6 rfl) (oq (Bd rfl rfl gC) (of (AQ (i:=2) No G7 rfl rfl rfl rfl) (oq (AE rfl) (Iv rfl (Nt (Ds (i:=3) G7 rfl rfl rfl (BP.c rfl) rfl rfl (cs':=[Al (max ha.fDepth ((he.length:Int)+1)),Al (IntKind.wrap .i64 (ha.fBytes+hh)),rB (ha.fOutside||((decide (((Ax v hb).fKind)=3))&&(!(ov (Bv ((Ax v hb).fInt)))))),rB (ha.fLong||(decide (200<(((Ax v hb).fStr).length:Int))))]) rfl (H':=[.row h0 118 5 (A0 A9 hx),.blk hg (Ab (Ax v hb)) 54,.blk b2 [Al (max ha.fDepth ((he.length:Int)+1)),Al (IntKind.wrap .i64 (ha.fBytes+hh)),rB (ha.fOutside||((decide (((Ax v hb).fKind)=3))&&(!(ov (Bv ((Ax v hb).fInt)))))),rB (ha.fLong||(decide (200<(((Ax v hb).fStr).length:Int))))] 86,.blk b1 [Al (max ha.fDepth ((he.length:Int)+1)),Al (IntKind.wrap .i64 (ha.fBytes+hh)),rB (ha.fOutside||((decide (((Ax v hb).fKind)=3))&&(!(ov (Bv ((Ax v hb).fInt)))))),rB (ha.fLong||(decide (200<(((Ax v hb).fStr).length:Int))))] 86]) rfl)) ?_))));refine oq (AE rfl) ?_;exact Ct
        refine A7 (Ap (At (Ac (Ac (AM ?_)))));have gE:=Bg gD hy hz;refine At (Ac (JJ ?_));obtain rfl:=An gE;exact Ao (Xp Tp (A5 rfl) (Es (i:=3) No G7 rfl rfl rfl) (A5 rfl)) (sS (sS (sS (sS sN)))) ⟨rfl,rfl⟩
       ·exact Aq (A2 (C6 (H2:=[.blk b2 [Al (max ha.fDepth ((he.length:Int)+1)),Al (IntKind.wrap .i64 (ha.fBytes+hh)),rB (ha.fOutside||((decide (((Ax v hb).fKind)=3))&&(!(ov (Bv ((Ax v hb).fInt)))))),rB (ha.fLong||(decide (200<(((Ax v hb).fStr).length:Int))))] 86,.blk b1 [Al 0,Al 0,rB false,rB false] 86,.row h0 118 5 (A0 A9 hx),.blk hg (Ab (Ax v hb)) 54]) ((A4 (i:=2) rfl).trans (Yw _ ((A4 (i:=2) rfl).trans (Yw _ (Yu _))))) (Au (Ar ((hx,(AK.mk (max ha.fDepth ((he.length:Int)+1)) (IntKind.wrap .i64 (ha.fBytes+hh)) (ha.fOutside||((decide (((Ax v hb).fKind)=3))&&(!(ov (Bv ((Ax v hb).fInt)))))) (ha.fLong||(decide (200<(((Ax v hb).fStr).length:Int)))))),h0) gB (Az.c rfl (Az.c rfl (Az.c5 rfl rfl rfl rfl rfl Az.nil))) (sC (sC (sC (sS sN))))))))
   ·rintro⟨⟨h7,h8⟩,h9⟩ h3;refine Bs (l':=[(0,AC 4 (A0 Ab v)),(3,rP b1 0),(5,rP b2 0),(6,rv h9),(11,AC 4 (A0 Ab v)),(12,Al (v.length:Int)),(13,Al hb)]) (H':=[.blk b2 (AO h8) 86,.blk b1 [Al 0,Al 0,rB false,rB false] 86,.row h9 118 5 (A0 A9 h7)]) rfl rfl ?_;replace h3:DQ hb h7 h8=some h5:=h3;unfold DQ at h3;refine Aj (ck h3 λgF gG=>wv (Bd rfl rfl gF) (wm rfl (Ai ?_)));have gH:=AW gG hy;exact Au (Ar (hE,(h7,hb+1,h8),h9) ⟨gH,Yy _⟩ (Az.c rfl (Az.c rfl (Az.c5 rfl rfl rfl rfl rfl Az.nil))) (sC (sC (sC sN))))
  ·refine Bf (As ?_);have gI:=Bu hI hy hz;exact As (AP (Ar (ha,()) gI (Az.c rfl (Az.c rfl Az.nil)) (sC (sC (sS sN)))))
 ·rintro⟨hr,⟨⟩⟩ h4;refine BK (l':=[(3,rP b1 0),(5,rP b2 0)]) (H':=[.blk b2 (AO hr) 86,.blk b1 [Al 0,Al 0,rB false,rB false] 86]) rfl rfl ?_;replace h4:JS hr=some r:=h4;unfold JS at h4;refine AV (A7 (Am (ES (H1:=[.blk b2 (AO hr) 86,.blk b1 (AO hr) 86]) [3,5] [⟨[],B8 (AO hr),1⟩,⟨[],Al 0,0⟩,⟨[0],rv undef,2⟩,⟨[],rB false,0⟩] (rle [(3,_),(2,[.blk b2 (AO hr) 86,.blk b1 (AO hr) 86])]) [2,4,3] ?_ ?_)))
  ·refine of (AQ (i:=0) No G7 rfl rfl rfl rfl) (oq (AE rfl) (Iv rfl (Nt (Ds (i:=1) G7 rfl rfl rfl (BP.c rfl) rfl rfl (cs':=[Al hr.fDepth,Al hr.fBytes,rB hr.fOutside,rB hr.fLong]) rfl (H':=[.blk b2 (AO hr) 86,.blk b1 (AO hr) 86]) rfl)) ?_));refine oq (AE rfl) ?_;exact Ct
  refine A7 (Ap (JJ ?_));obtain rfl:=An h4;exact Ao (Xp Tp (A5 rfl) (Es (i:=1) No G7 rfl rfl rfl) (A5 rfl)) (sS (sS sN)) ⟨rfl,rfl⟩
theorem DR (F:Nat)(v:(List Aa))(r:Int)(h:Dk F v=some r):Fn Tryz.prog GE 30 [AC 4 (A0 Ab v)] [] (λR H=>R=Al r∧H=[]):=by
 refine enter (n:=42) Tryz.func30 rfl Tryz.ntmps30 rfl (λw Z=>?_);unfold Dk at h;refine Ae (wa rfl (Bc (wm rfl (ob h λr1 e3 h2=>BM Qq (HS F v r1 e3) rfl (wm rfl (wv (A8 rfl rfl) (wv (A8 rfl rfl) (wv (A8 rfl rfl) (Cd (cs:=[Al 0,Al 0,rB false,rB false]) NT rfl rfl (λb4=>?_))))))))));refine wa rfl (Bj (i:=0) G7 rfl rfl rfl (BP.c rfl) rfl rfl (cs':=[Al r1.2.1.fDepth,Al r1.2.1.fBytes,rB r1.2.1.fOutside,rB r1.2.1.fLong]) rfl (H':=[.blk b4 (AO r1.2.1) 86]) rfl (wa rfl (Ak (Am (A3 (AD [(0,AC 4 (A0 Ab v)),(4,rP b4 0),(12,rB ((!r1.2.2)||(!decide (r1.1=(v.length:Int)))))] [.blk b4 (AO r1.2.1) 86] ?_ ?_))))))
 ·refine Aj (wm rfl (wv (B4 rfl) (wm rfl (AN (!r1.2.2) (λc5=>?_) (λc5=>?_)))))
  ·refine wf c5 (wf c5 (wf c5 (wf c5 (wv (r:=rB true) (Ay rfl c5 rfl) (wa rfl (Ai ?_))))));exact BJ c5
  ·refine wo c5 (wm rfl (wo c5 (wm rfl (wo c5 (wv (AF (ys:=v) (enc:=Ab) Br rfl) (wo c5 (wv (Bk rfl rfl) (Cm rfl c5 rfl (wa rfl (Ai ?_))))))))));exact BJ c5
 refine cz h2 rfl (λc6 h7=>?_) (λc6 h8=>?_)
 ·refine Ae (wa rfl (Ak (Ap (At (Ac ?_)))));obtain rfl:=An h7;exact Ao (Bo Vf (A5 rfl)) (sS sN) ⟨rfl,rfl⟩
 ·refine Ae (vF Hj rfl HI (vL 0 Tf rfl (wa rfl (Ak (cz h8 rfl (λc9 hf=>?_) (λc9 hg=>?_))))))
  ·refine Ae (wa rfl (Ak (Ap (At (Ac ?_)))));obtain rfl:=An hf;exact Ao (Bo Vf (A5 rfl)) (sS sN) ⟨rfl,rfl⟩
  ·refine AD [(24,rB (r1.2.1.fLong||((decide (200<(v.length:Int)))||((decide (8<r1.2.1.fDepth))||(decide (4000<r1.2.1.fBytes))))))] [] ?_ ?_
   ·refine Aj (vF Hj rfl HI (vL 0 Tf rfl (wm rfl (AN (r1.2.1.fLong) (λha=>?_) (λha=>?_)))))
    ·refine wf ha (wf ha (wf ha (wv (r:=rB true) (Ay rfl ha rfl) (wm rfl (wz rfl rfl (wz rfl rfl (wz rfl rfl (wv (r:=rB true) (Ay (b:=true) rfl rfl rfl) (wm rfl (wz rfl rfl (wz rfl rfl (wz rfl rfl (wv (r:=rB true) (Ay (b:=true) rfl rfl rfl) (wa rfl (Ai ?_)))))))))))))));exact BJ ha
    ·refine wo ha (wm rfl (wo ha (wv (AF (ys:=v) (enc:=Ab) Br rfl) (wo ha (wv (C3 rfl rfl) (Cm rfl ha rfl (wm rfl (AN (decide (200<(v.length:Int))) (λhb=>?_) (λhb=>?_)))))))))
     ·refine wf hb (wf hb (wf hb (wv (r:=rB true) (Ay rfl hb rfl) (wm rfl (wz rfl rfl (wz rfl rfl (wz rfl rfl (wv (r:=rB true) (Ay (b:=true) rfl rfl rfl) (wa rfl (Ai ?_))))))))));exact BJ (And.intro ha hb)
     ·refine wo hb (vF Hj rfl B9 (wo hb (vL 0 BN rfl (wo hb (wv (C3 rfl rfl) (Cm rfl hb rfl (wm rfl (AN (decide (8<r1.2.1.fDepth)) (λhe=>?_) (λhe=>?_)))))))))
      ·refine wf he (wf he (wf he (wv (r:=rB true) (Ay rfl he rfl) (wa rfl (Ai ?_)))));exact BJ (And.intro ha (And.intro hb he))
      ·refine wo he (vF Hj rfl B9 (wo he (vL 0 BN rfl (wo he (wv (C3 rfl rfl) (Cm rfl he rfl (wa rfl (Ai ?_))))))));exact BJ (And.intro ha (And.intro hb he))
   refine cz hg rfl (λhh hi=>?_) (λhh hj=>?_)
   ·refine Ae (wa rfl (Ak (Ap (At (Ac ?_)))));obtain rfl:=An hi;exact Ao (Bo Vf (A5 rfl)) sN ⟨rfl,rfl⟩
   ·refine Aq (A2 (A7 (Ae (wa rfl (Ak (Ap ?_))))));obtain rfl:=An hj;exact Ao (Bo Vf (A5 rfl)) sN ⟨rfl,rfl⟩
theorem HV (F:Nat)(v:(List Aa))(r:(List Aa)×Int)(h:EJ F v=some r):Fn Tryz.prog GE 71 [AC 4 (A0 Ab v)] [] (λR H=>R=Da [AC 4 (A0 Ab r.1),Al r.2]∧H=[]):=by
 refine enter (n:=11) Tryz.func71 rfl Tryz.ntmps71 rfl (λw Z=>?_);unfold EJ at h;refine Ae (wa rfl (wa rfl (Ak (Am (Ae (wm rfl (ob h λr1 e3 h2=>BM Nn (DR F v r1 e3) rfl (wa rfl (Bc (wm rfl (wv (Bk rfl rfl) (Ak (cz h2 rfl (λc4 h5=>?_) (λc4 h6=>?_))))))))))))))
 ·refine Ae (wm rfl (wa rfl (wa rfl (Ak (Ap (Ac (WK.up (d:=2) (r:=AC 4 (A0 Ab ([]:List Aa))) rfl (Up.le (DJ.nil _)) ?_)))))));obtain rfl:=An h5;exact Ao (Dq Tryz.results71 (A5 rfl) (A5 rfl)) sN ⟨rfl,rfl⟩
 ·refine Aq (A7 (Ae (wm rfl (wa rfl (wa rfl (Ak (Ap ?_)))))));obtain rfl:=An h6;exact Ao (Dq Tryz.results71 (A5 rfl) (A5 rfl)) sN ⟨rfl,rfl⟩
theorem T8 (F:Nat)(n:Int)(r:(List Aa)×Int)(h:Vn F n=some r):Fn Tryz.prog GE 85 [Al n] [] (λR H=>R=Da [AC 4 (A0 Ab r.1),Al r.2]∧H=[]):=by
 refine enter (n:=10) Tryz.func85 rfl Tryz.ntmps85 rfl (λw Z=>?_);unfold Vn at h;refine Ae (wa rfl (wa rfl (Bc (wm rfl (wv (r:=B8 [Al 3,Al n,rS ([]:Av),Al 0]) (DU rfl rfl rfl rfl) (AX (ys:=([(Aa.mk 3 n ([]:Av) 0)]:List Aa)) (enc:=Ab) (css:=[[Al 3,Al n,rS ([]:Av),Al 0]]) (xs:=[.tmp 5]) Br Bz GX rfl rfl rfl ⟨Ep.agg ⟨Up.refl _,Up.refl _,Up.refl _,Up.refl _,trivial⟩,trivial⟩ rfl Bi rfl rfl rfl (λb1=>?_)))))));refine WL.freeze (i:=0) rfl (WL.up (d:=6) (r:=AC 4 (A0 Ab ([(Aa.mk 3 n ([]:Av) 0)]:List Aa))) rfl (Up.fact (i:=0) rfl) (ob h λr2 e4 h3=>BM Tryz.call71 (HV F ([(Aa.mk 3 n ([]:Av) 0)]:List Aa) r2 e4) rfl (wv (A8 rfl rfl) (wv (A8 rfl rfl) (wa rfl (wa rfl (Ak (Ap ?_))))))));obtain rfl:=An h3;exact Ao (Dq Tryz.results85 (A5 rfl) (A5 rfl)) (sS sN) ⟨rfl,rfl⟩
theorem Mq (F:Nat)(s:Av)(r:(List Aa)×Int)(h:Ob F s=some r):Fn Tryz.prog GE 29 [rS s] [] (λR H=>R=Da [AC 4 (A0 Ab r.1),Al r.2]∧H=[]):=by
 refine enter (n:=10) Tryz.func29 rfl Tryz.ntmps29 rfl (λw Z=>?_);unfold Ob at h;refine Ae (wa rfl (wa rfl (Bc (wm rfl (wv (r:=B8 [Al 4,Al 0,rS s,Al 0]) (DT rfl rfl rfl rfl) (AX (ys:=([(Aa.mk 4 0 s 0)]:List Aa)) (enc:=Ab) (css:=[[Al 4,Al 0,rS s,Al 0]]) (xs:=[.tmp 5]) Br Bz GX rfl rfl rfl ⟨Ep.agg ⟨Up.refl _,Up.refl _,Up.refl _,Up.refl _,trivial⟩,trivial⟩ rfl Bi rfl rfl rfl (λb1=>?_)))))));refine WL.freeze (i:=0) rfl (WL.up (d:=6) (r:=AC 4 (A0 Ab ([(Aa.mk 4 0 s 0)]:List Aa))) rfl (Up.fact (i:=0) rfl) (ob h λr2 e4 h3=>BM Tryz.call71 (HV F ([(Aa.mk 4 0 s 0)]:List Aa) r2 e4) rfl (wv (A8 rfl rfl) (wv (A8 rfl rfl) (wa rfl (wa rfl (Ak (Ap ?_))))))));obtain rfl:=An h3;exact Ao (Dq Tryz.results29 (A5 rfl) (A5 rfl)) (sS sN) ⟨rfl,rfl⟩
theorem LO (F:Nat)(l:(List (List Aa)))(r:(List Aa)×Int)(h:N5 F l=some r):Fn Tryz.prog GE 47 [AC 1 (A0 Af l)] [] (λR H=>R=Da [AC 4 (A0 Ab r.1),Al r.2]∧H=[]):=by
 refine enter (n:=31) Tryz.func47 rfl Tryz.ntmps47 rfl (λw Z=>?_);unfold N5 at h;refine Ae (wa rfl (wa rfl (Bc (wm rfl (wv (AF (ys:=l) (enc:=Af) BX rfl) (wv (r:=B8 [Al 5,Al 0,rS ([]:Av),Al (l.length:Int)]) (Jx rfl rfl rfl rfl) (AX (ys:=([(Aa.mk 5 0 ([]:Av) (l.length:Int))]:List Aa)) (enc:=Ab) (css:=[[Al 5,Al 0,rS ([]:Av),Al (l.length:Int)]]) (xs:=[.tmp 10]) Br Bz GX rfl rfl rfl ⟨Ep.agg ⟨Up.refl _,Up.refl _,Up.refl _,Up.refl _,trivial⟩,trivial⟩ rfl Bi rfl rfl rfl (λb1=>?_))))))));refine wa rfl (Ak (Am (Ae (wm rfl (wv (AF (ys:=l) (enc:=Af) BX rfl) (wv (r:=Al 0) (A6 rfl) (Ak (A3 (ob h λhl hm hj=>Bb (S:=Nat×((List Aa)×Int)×(Value)) (V:=((List Aa))×(Value)) 0 (λσ=>BG (λσ=>JU F l σ.1 σ.2) σ.1 σ.2.1=some hl) (λσ=>[(2,rv (.slice none 0 0)),(3,Al 0),(4,rv σ.2.2),(12,AC 1 (A0 Af l)),(13,Al (l.length:Int)),(14,Al σ.2.1.2)]) (λσ=>[.row σ.2.2 54 4 (A0 Ab σ.2.1.1)]) (λσ=>σ.1) (F,(([(Aa.mk 5 0 ([]:Av) (l.length:Int))]:List Aa),0),(.slice (some ⟨b1,0,none⟩) 1 1)) hm (Az.c rfl (Az.c5 rfl rfl rfl rfl rfl Az.nil)) (sC sN) (λσ=>JT F σ.1=some r) (λσ=>[(2,rv (.slice none 0 0)),(3,Al 0),(4,rv σ.2)]) (λσ=>[.row σ.2 54 4 (A0 Ab σ.1)]) ?_ ?_)))))))))
 ·rintro⟨hC,⟨hb,ha⟩,hh⟩ hn;refine Bs (l':=[(2,rv (.slice none 0 0)),(3,Al 0),(4,rv hh),(12,AC 1 (A0 Af l)),(13,Al (l.length:Int)),(14,Al ha)]) (H':=[.row hh 54 4 (A0 Ab hb)]) rfl rfl ?_;obtain⟨ho,rfl,hp,he,hi⟩:=BF hn;replace he:JU F l hb ha=some hp:=he;unfold JU at he;refine Ae (wv (BW rfl rfl) (Ak (Am (cz he rfl (λhq hr=>?_) (λhq hs=>?_)))))
  ·refine Aq (A7 (Am (A3 (Ae (ck hr λht hu=>wv (AT (enc:=Af) (ys:=l) BX Cg rfl rfl ht) (wv (AH CE rfl rfl) (wa rfl (Ak (Am (Ae (wm rfl (ob hu λhw hx hy=>BM Nn (DR F (Ax l ha) hw hx) rfl (wa rfl (Bc (wm rfl (wv (Bk rfl rfl) (Ak (cz hy rfl (λhz h0=>?_) (λhz h1=>?_)))))))))))))))))))
   ·refine Ae (wm rfl (wa rfl (wa rfl (Ak (Ap (Ac (At (Ac (Ac (AM ?_))))))))));have h2:=Bg h0 hi hj;refine At (Ac (WK.up (d:=2) (r:=AC 4 (A0 Ab ([]:List Aa))) rfl (Up.le (DJ.nil _)) ?_));obtain rfl:=An h2;exact Ao (Dq Tryz.results47 (A5 rfl) (A5 rfl)) (sS sN) ⟨rfl,rfl⟩
   ·refine Aq (A7 (Aj (wm rfl (wm rfl (ck h1 λh3 h4=>Exists.elim G2 λinf hinf=>BZ (xs:=hb) (ys:=Ax l ha) (enc:=Ab) (i:=0) Br hinf.1 hinf.2.1 hinf.2.2.1 hinf.2.2.2 rfl rfl rfl rfl rfl (JF.z rfl rfl) Bi Cv h3 rfl (λv76=>?_))))));refine wa rfl (Ai (A2 (A7 (Aj (ck h4 λh5 h6=>wv (Bd rfl rfl h5) (wm rfl (Ai ?_)))))));have h7:=AW h6 hi;exact Au (Ar (ho,(hb++(Ax l ha),ha+1),v76) ⟨h7,Yy _⟩ (Az.c rfl (Az.c5 rfl rfl rfl rfl rfl Az.nil)) (sC sN))
  ·refine Bf (As ?_);have h8:=Bu hs hi hj;exact As (AP (Ar (hb,hh) h8 (Az.c rfl (Az.c rfl (Az.c rfl Az.nil))) (sC sN)))
 ·rintro⟨hf,hk⟩ hg;refine BK (l':=[(2,rv (.slice none 0 0)),(3,Al 0),(4,rv hk)]) (H':=[.row hk 54 4 (A0 Ab hf)]) rfl rfl ?_;replace hg:JT F hf=some r:=hg;unfold JT at hg;refine AV (A7 (Ae (wm rfl (WL.freeze (i:=0) rfl (WL.up (d:=27) (r:=AC 4 (A0 Ab hf)) rfl (Up.fact (i:=0) rfl) (ob hg λh9 hA hB=>BM Tryz.call71 (HV F hf h9 hA) rfl (wv (A8 rfl rfl) (wv (A8 rfl rfl) (wa rfl (wa rfl (Ak (Ap ?_))))))))))));obtain rfl:=An hB;exact Ao (Dq Tryz.results47 (A5 rfl) (A5 rfl)) (sS sN) ⟨rfl,rfl⟩
end Go.Proofs.YtghdglcmblpbeaaGreatDoor.Q
namespace Go.Proofs.YtghdglcmblpbeaaGreatDoor
open Go
set_option linter.unusedVariables false
def Jb (s:Av)(ha:Int)(hb:Av):Option (Stp (Int×Av) (Out (Av) (Av))):=
 AS (decide (ha<(s.length:Int))) (AY (Cu ha (s.length:Int))<|AS (((decide ((Ck s ha)=34))||(decide ((Ck s ha)=92)))) (AY (Ey 1 (hb.length+1))<|AY (BB .u8 92)<|KJ (hb++[UInt8.ofNat (Int.toNat 92)]) λhe=>AY (Ey 1 (he.length+1))<|AY (BB .u8 (Ck s ha))<|KJ (he++[UInt8.ofNat (Int.toNat (Ck s ha))]) λhf=>AY (BB .i64 (ha+1))<|some (.next (ha+1,hf))) (AY (Ey 1 (hb.length+1))<|AY (BB .u8 (Ck s ha))<|KJ (hb++[UInt8.ofNat (Int.toNat (Ck s ha))]) λhg=>AY (BB .i64 (ha+1))<|some (.next (ha+1,hg)))) (some (.out (.go hb)))
def Ja (ha:Av):Option (Av):=
 AY (Ey 1 (ha.length+1))<|KJ (ha++[UInt8.ofNat (Int.toNat 34)]) λhb=>some hb
def Mx (F:Nat)(l:Av)(s:Av):Option (Av):=
 AY (Ey 1 (l.length+1))<|AY (BB .u8 34)<|KJ (l++[UInt8.ofNat (Int.toNat 34)]) λr6=>Be (BG (λσ=>Jb s σ.1 σ.2) F (0,r6)) (BE λν=>Ja ν)
def Oa (F:Nat)(hn:Av→(List Aa)→Bool→Av→Aa→Option (Bool×Bool×Av))(ha:(List Aa)→Bool→Av→Aa→Option (Bool×Av))(l:Av)(v:(List Aa)):Option (Av):=
 AY (Cu 0 (v.length:Int))<|AS (decide (((Ax v 0).fKind)=1)) (AY (Ey 1 (l.length+([110,117,108,108]:Av).length))<|KJ (l++([110,117,108,108]:Av)) λhf=>some hf) (AS (decide (((Ax v 0).fKind)=2)) (AY (Cu ((Ax v 0).fInt) (([([102,97,108,115,101]:Av),([116,114,117,101]:Av)]:List Av).length:Int))<|AY (Ey 1 (l.length+(Ax ([([102,97,108,115,101]:Av),([116,114,117,101]:Av)]:List Av) ((Ax v 0).fInt)).length))<|KJ (l++(Ax ([([102,97,108,115,101]:Av),([116,114,117,101]:Av)]:List Av) ((Ax v 0).fInt))) λhg=>some hg) (AS (decide (((Ax v 0).fKind)=3)) (AY (BB .i64 ((Ax v 0).fInt))<|AY (Ey 1 (l.length+(Lib.itoa ((Ax v 0).fInt)).length))<|KJ (l++(Lib.itoa ((Ax v 0).fInt))) λhh=>some hh) (AS (decide (((Ax v 0).fKind)=4)) (Be (Mx F l ((Ax v 0).fStr)) λhi=>some hi) (AS (decide (((Ax v 0).fKind)=6)) (AY (Cu 0 (([123,125]:Av).length:Int))<|AY (Ey 1 (l.length+1))<|AY (BB .u8 (Ck ([123,125]:Av) 0))<|KJ (l++[UInt8.ofNat (Int.toNat (Ck ([123,125]:Av) 0))]) λhj=>Be (ha v true hj (Ax v 0)) λhb=>AY (Cu 1 (([123,125]:Av).length:Int))<|AY (Ey 1 (hb.2.length+1))<|AY (BB .u8 (Ck ([123,125]:Av) 1))<|KJ (hb.2++[UInt8.ofNat (Int.toNat (Ck ([123,125]:Av) 1))]) λhk=>some hk) (AY (Cu 0 (([91,93]:Av).length:Int))<|AY (Ey 1 (l.length+1))<|AY (BB .u8 (Ck ([91,93]:Av) 0))<|KJ (l++[UInt8.ofNat (Int.toNat (Ck ([91,93]:Av) 0))]) λhl=>Be (ha v true hl (Ax v 0)) λhe=>AY (Cu 1 (([91,93]:Av).length:Int))<|AY (Ey 1 (he.2.length+1))<|AY (BB .u8 (Ck ([91,93]:Av) 1))<|KJ (he.2++[UInt8.ofNat (Int.toNat (Ck ([91,93]:Av) 1))]) λhm=>some hm)))))
def Mp (F:Nat)(ha:Av→(List Aa)→Option (Av))(key:Av)(x:(List Aa))(first:Bool)(l:Av)(c:Aa):Option (Bool×Bool×Av):=
 AS (!first) (AY (Ey 1 (l.length+1))<|AY (BB .u8 44)<|KJ (l++[UInt8.ofNat (Int.toNat 44)]) λr8=>AS (decide (c.fKind=6)) (Be (Mx F r8 key) λhb=>AY (Ey 1 (hb.length+1))<|AY (BB .u8 58)<|KJ (hb++[UInt8.ofNat (Int.toNat 58)]) λhf=>Be (ha hf x) λhg=>some (true,false,hg)) (Be (ha r8 x) λhh=>some (true,false,hh))) (AS (decide (c.fKind=6)) (Be (Mx F l key) λhe=>AY (Ey 1 (he.length+1))<|AY (BB .u8 58)<|KJ (he++[UInt8.ofNat (Int.toNat 58)]) λhi=>Be (ha hi x) λhj=>some (true,false,hj)) (Be (ha l x) λhk=>some (true,false,hk)))
def HN (F:Nat)(v:(List Aa))(c:Aa)(hk:Av→(List Aa)→Bool→Av→Aa→Option (Bool×Bool×Av))(ha:Int)(hb:Int)(hi:Bool)(hj:Av):Option (Stp (Int×Int×Bool×Av) (Out (Bool×Av) (Bool×Av))):=
 AS (decide (hb<((Ax v 0).fN))) (AS (decide (((Ax v 0).fKind)=6)) (AY (Cu ha (v.length:Int))<|AY (BB .i64 (ha+1))<|AY (EU (ha+1) (v.length:Int))<|Be (E5 F (List.drop (Int.toNat (ha+1)) v)) λhe=>AY (BB .i64 ((ha+1)+he.1))<|AY (EU (ha+1) ((ha+1)+he.1))<|AY (EU ((ha+1)+he.1) (v.length:Int))<|Be (hk ((Ax v ha).fStr) (List.take (Int.toNat ((ha+1)+he.1)-Int.toNat (ha+1)) (List.drop (Int.toNat (ha+1)) v)) hi hj c) λhf=>AS (!hf.1) (some (.out (.ret (hf.2.1,hf.2.2)))) (AY (BB .i64 (hb+1))<|some (.next ((ha+1)+he.1,hb+1,hf.2.1,hf.2.2)))) (AY (EU ha (v.length:Int))<|Be (E5 F (List.drop (Int.toNat ha) v)) λhg=>AY (BB .i64 (ha+hg.1))<|AY (EU ha (ha+hg.1))<|AY (EU (ha+hg.1) (v.length:Int))<|Be (hk ([]:Av) (List.take (Int.toNat (ha+hg.1)-Int.toNat ha) (List.drop (Int.toNat ha) v)) hi hj c) λhh=>AS (!hh.1) (some (.out (.ret (hh.2.1,hh.2.2)))) (AY (BB .i64 (hb+1))<|some (.next (ha+hg.1,hb+1,hh.2.1,hh.2.2))))) (some (.out (.go (hi,hj))))
def HM (ha:Bool)(hb:Av):Option (Bool×Av):=
 some (ha,hb)
def Mo (F:Nat)(ha:Av→(List Aa)→Bool→Av→Aa→Option (Bool×Bool×Av))(v:(List Aa))(first:Bool)(l:Av)(c:Aa):Option (Bool×Av):=
 AY (Cu 0 (v.length:Int))<|Be (BG (λσ=>HN F v c ha σ.1 σ.2.1 σ.2.2.1 σ.2.2.2) F (1,0,first,l)) (BE λν=>HM ν.1 ν.2)
mutual
def J2:Nat→Av→(List Aa)→Option (Av)
 | 0,_,_=>none
 | nn+1,l,v=>Oa nn (HO nn) (JM nn) l v
def HO:Nat→Av→(List Aa)→Bool→Av→Aa→Option (Bool×Bool×Av)
 | 0,_,_,_,_,_=>none
 | nn+1,key,x,first,l,c=>Mp nn (J2 nn) key x first l c
def JM:Nat→(List Aa)→Bool→Av→Aa→Option (Bool×Av)
 | 0,_,_,_,_=>none
 | nn+1,v,first,l,c=>Mo nn (HO nn) v first l c
end
def Od (F:Nat)(v:(List Aa)):Option (Av×Int):=
 Be (Dk F v) λr1=>AS (!decide (r1=0)) (some (([]:Av),r1)) (Be (J2 F ([]:Av) v) λr8=>AY (decide (0<r8.length))<|some (r8,0))
end Go.Proofs.YtghdglcmblpbeaaGreatDoor
namespace Go.Proofs.YtghdglcmblpbeaaGreatDoor.Q
open Go Go.RowKit
set_option linter.unusedVariables false
set_option linter.unusedSimpArgs false
set_option maxRecDepth 100000
set_option maxHeartbeats 4000000
theorem Mw (F:Nat)(ha:Nat)(hl:Value)(l:Av)(s:Av)(r:Av)(h:Mx F l s=some r):Fn Tryz.prog GE 114 [rP ha 0,rS s] [.bld 101 5 ha hl l] (λR H=>∃w0b:Value,R=rv (.tuple #[])∧H=[.bld 101 5 ha w0b r]):=by
 refine enter (n:=32) Tryz.func114 rfl Tryz.ntmps114 rfl (λw Z=>?_);unfold Mx at h;refine Ae (wm rfl (ck h λg1 h2=>ck h2 λg3 h4=>CF (rs:=[rP ha 0,rI .u8 34]) (Hin:=[.bld 101 5 ha hl l]) (Hr:=[]) Iu rfl (Yu _) (C1 ha hl l 34 g1 g3) rfl ?_));rintro _ _ ⟨v5,rfl,rfl⟩;refine bd h4 λr6 e8 h7=>?_;rw[← e8];refine Ak (Am (Ae (wm rfl (wv (BQ Dz rfl) (wv (r:=Al 0) (A6 rfl) (Ak (A3 (ob h7 λhr hs ht=>Bb (S:=Nat×(Int×Av)×(Value)) (V:=(Av)×(Value)) 0 (λσ=>BG (λσ=>Jb s σ.1 σ.2) σ.1 σ.2.1=some hr) (λσ=>[(0,rP ha 0),(1,rS s),(8,Al (s.length:Int)),(9,Al σ.2.1.1)]) (λσ=>[.bld 101 5 ha σ.2.2 σ.2.1.2]) (λσ=>σ.1) (F,(0,r6),v5) hs (Az.c rfl (Az.c rfl (Az.c rfl (Az.c rfl Az.nil)))) (sC sN) (λσ=>Ja σ.1=some r) (λσ=>[(0,rP ha 0)]) (λσ=>[.bld 101 5 ha σ.2 σ.1]) ?_ ?_))))))))
 ·rintro⟨gg,⟨hb,hf⟩,hg⟩ hu;refine Bs (l':=[(0,rP ha 0),(1,rS s),(8,Al (s.length:Int)),(9,Al hb)]) (H':=[.bld 101 5 ha hg hf]) rfl rfl ?_;obtain⟨ho,rfl,t127,hh,hm⟩:=BF hu;replace hh:Jb s hb hf=some t127:=hh;unfold Jb at hh;refine Ae (wv (BW rfl rfl) (Ak (Am (cz hh rfl (λhw hx=>?_) (λhw hy=>?_)))))
  ·refine Aq (A7 (Am (A3 (Ae (wm rfl (wa rfl (Ak (Am (ck hx λhi hz=>AD [(0,rP ha 0),(1,rS s),(4,Al hb),(8,Al (s.length:Int)),(9,Al hb),(21,rB ((decide ((Ck s hb)=34))||(decide ((Ck s hb)=92))))] [.bld 101 5 ha hg hf] ?_ ?_)))))))))
   ·refine Aj (wm rfl (wm rfl (wv (BC Dz rfl rfl hi) (wv (Bh rfl rfl) (wm rfl (AN (decide ((Ck s hb)=34)) (λhe=>?_) (λhe=>?_)))))))
    ·refine wf he (wf he (wf he (wf he (wv (r:=rB true) (Ay rfl he rfl) (Ai ?_)))));exact BJ he
    ·refine wo he (wm rfl (wo he (wm rfl (wo he (wv (BC Dz rfl rfl hi) (wo he (wv (Bh rfl rfl) (Cm rfl he rfl (Ai ?_)))))))));exact BJ he
   refine cz hz rfl (λh0 h1=>?_) (λh0 h3=>?_)
   ·refine Aj (wm rfl (ck h1 λh5 h6=>ck h6 λh8 h9=>CF (rs:=[rP ha 0,rI .u8 92]) (Hin:=[.bld 101 5 ha hg hf]) (Hr:=[]) Iu rfl (Yu _) (C1 ha hg hf 92 h5 h8) rfl ?_));rintro _ _ ⟨hp,rfl,rfl⟩;refine bd h9 λhq hA hB=>?_;rw[← hA];refine Ak (Aj (wm rfl (wm rfl (wm rfl (wv (BC Dz rfl rfl hi) (ck hB λhC hD=>ck hD λhE hG=>CF (rs:=[rP ha 0,rI .u8 (Ck s hb)]) (Hin:=[.bld 101 5 ha hp hq]) (Hr:=[]) Iu rfl (Yu _) (C1 ha hp hq (Ck s hb) hC hE) rfl ?_))))));rintro _ _ ⟨hH,rfl,rfl⟩;refine bd hG λhI hJ hK=>?_;rw[← hJ];refine Ai (A2 (A7 (Aj (ck hK λhL hN=>wv (Bd rfl rfl hL) (wm rfl (Ai ?_))))));have hO:=AW hN hm;exact Au (Ar (ho,(hb+1,hI),hH) ⟨hO,Yy _⟩ (Az.c rfl (Az.c rfl (Az.c rfl (Az.c rfl Az.nil)))) (sC sN))
   ·refine Aq (A7 (Aj (wm rfl (wm rfl (wm rfl (wv (BC Dz rfl rfl hi) (ck h3 λhP hQ=>ck hQ λhR hS=>CF (rs:=[rP ha 0,rI .u8 (Ck s hb)]) (Hin:=[.bld 101 5 ha hg hf]) (Hr:=[]) Iu rfl (Yu _) (C1 ha hg hf (Ck s hb) hP hR) rfl ?_)))))));rintro _ _ ⟨hT,rfl,rfl⟩;refine bd hS λhU hV hW=>?_;rw[← hV];refine Ai (A2 (A7 (Aj (ck hW λhX hY=>wv (Bd rfl rfl hX) (wm rfl (Ai ?_))))));have hZ:=AW hY hm;exact Au (Ar (ho,(hb+1,hU),hT) ⟨hZ,Yy _⟩ (Az.c rfl (Az.c rfl (Az.c rfl (Az.c rfl Az.nil)))) (sC sN))
  ·refine Bf (As ?_);have ga:=Bu hy hm ht;exact As (AP (Ar (hf,hg) ga (Az.c rfl Az.nil) (sC sN)))
 ·rintro⟨hj,hn⟩ hk;refine BK (l':=[(0,rP ha 0)]) (H':=[.bld 101 5 ha hn hj]) rfl rfl ?_;replace hk:Ja hj=some r:=hk;unfold Ja at hk;refine AV (A7 (Aj (wm rfl (ck hk λgb gc=>CF (rs:=[rP ha 0,rI .u8 34]) (Hin:=[.bld 101 5 ha hn hj]) (Hr:=[]) Iu rfl (Yu _) (C1 ha hn hj 34 gb g3) rfl ?_))));rintro _ _ ⟨gd,rfl,rfl⟩;refine bd gc λgh ge gf=>?_;rw[← ge];refine Ai ?_;obtain rfl:=An gf;exact E7 (Oj Tryz.results114) (sC sN) ⟨gd,rfl,rfl⟩
theorem RZ (F:Nat)(hm:Av→(List Aa)→Bool→Av→Aa→Option (Bool×Bool×Av))(hn:(List Aa)→Bool→Av→Aa→Option (Bool×Av))(g9:(∀(he:Nat) (hf:Nat) (ha:Nat) (hb:Value) (hg:Nat) (key:Av) (x:(List Aa)) (first:Bool) (l:Av) (c:Aa) (r:Bool×Bool×Av),hm key x first l c=some r→Fn Tryz.prog GE 116 [rS key,AC 4 (A0 Ab x),rP he 0,rP hf 0,rP hg 0] [.blk he [rB first] 4,.blk hf [rP ha 0] 98,.bld 101 5 ha hb l,.blk hg (Ab c) 54] (λR H=>∃w3b:Value,R=rB r.1∧H=[.blk he [rB r.2.1] 4,.blk hf [rP ha 0] 98,.bld 101 5 ha w3b r.2.2,.blk hg (Ab c) 54])))(ho:(∀(he:Nat) (hf:Nat) (ha:Nat) (hb:Value) (hg:Nat) (v:(List Aa)) (first:Bool) (l:Av) (c:Aa) (r:Bool×Av),hn v first l c=some r→Fn Tryz.prog GE 90 [AC 4 (A0 Ab v),rv (.func (.func 116) #[] #[(.pointer (some ⟨he,0,none⟩)),(.pointer (some ⟨hf,0,none⟩)),(.pointer (some ⟨hg,0,none⟩))])] [.blk he [rB first] 4,.blk hf [rP ha 0] 98,.bld 101 5 ha hb l,.blk hg (Ab c) 54] (λR H=>∃w1_1b:Value,R=rv (.tuple #[])∧H=[.blk he [rB r.1] 4,.blk hf [rP ha 0] 98,.bld 101 5 ha w1_1b r.2,.blk hg (Ab c) 54])))(ha:Nat)(hb:Value)(l:Av)(v:(List Aa))(r:Av)(h:Oa F hm hn l v=some r):Fn Tryz.prog GE 87 [rP ha 0,AC 4 (A0 Ab v)] [.bld 101 5 ha hb l] (λR H=>∃w0b:Value,R=rv (.tuple #[])∧H=[.bld 101 5 ha w0b r]):=by
 refine enter (n:=52) Tryz.func87 rfl Tryz.ntmps87 rfl (λw Z=>?_);unfold Oa at h;refine Ae (Lz rfl (BS rfl) rfl (λb1=>?_));refine Bc (wm rfl (ck h λg2 h3=>wv (AT (enc:=Ab) (ys:=v) Br Bz rfl rfl g2) (wv (Cy Jp Bz rfl rfl rfl) (Cd (cs:=[Al 0,Al 0,rS ([]:Av),Al 0]) GX rfl rfl (λb4=>?_)))));refine Bj (i:=0) Bz rfl rfl rfl (BP.c rfl) rfl rfl (cs':=[Al ((Ax v 0).fKind),Al ((Ax v 0).fInt),rS ((Ax v 0).fStr),Al ((Ax v 0).fN)]) rfl (H':=[.blk b4 (Ab (Ax v 0)) 54,.blk b1 [rP ha 0] 98,.bld 101 5 ha hb l]) rfl (Bc (vF Bl rfl C2 (vL 0 CA rfl (Ak (A3 (Ae (wv (Bh rfl rfl) (wa rfl (Ak (cz h3 rfl (λc5 h6=>?_) (λc5 hs=>?_)))))))))))
 ·refine Aj (vL 1 Hk rfl (ck h6 λg7 h8=>CF (rs:=[rP ha 0,rS ([110,117,108,108]:Av)]) (Hin:=[.bld 101 5 ha hb l]) (Hr:=[.blk b4 (Ab (Ax v 0)) 54,.blk b1 [rP ha 0] 98]) Tryz.call112 rfl ((A4 (i:=2) rfl).trans (Yw _ (Yu _))) (GY ha hb l ([110,117,108,108]:Av) g7) rfl ?_));rintro _ _ ⟨v9,rfl,rfl⟩;refine bd h8 λgA ht hu=>?_;rw[← ht];refine Ai (A2 ?_);obtain rfl:=An hu;exact E7 (Oj RS) (sC (sS (sS sN))) ⟨v9,rfl,rfl⟩
 ·refine Ae (wv (Bh rfl rfl) (wa rfl (Ak (cz hs rfl (λhw hx=>?_) (λhw hy=>?_)))))
  ·refine ck hx λg16 hz=>IY (H1:=[.blk b4 (Ab (Ax v 0)) 54,.blk b1 [rP ha 0] 98,.bld 101 5 ha hb l]) 6 [2,4] [⟨[],rP ha 0,1⟩,⟨[],AC 1 (A0 eS ([([102,97,108,115,101]:Av),([116,114,117,101]:Av)]:List Av)),0⟩,⟨[],rP b4 1,0⟩,⟨[2],Al ((Ax v 0).fInt),1⟩,⟨[1,3],Jv [rS (Ax ([([102,97,108,115,101]:Av),([116,114,117,101]:Av)]:List Av) ((Ax v 0).fInt))],0⟩,⟨[4],rS (Ax ([([102,97,108,115,101]:Av),([116,114,117,101]:Av)]:List Av) ((Ax v 0).fInt)),0⟩] (rle [(7,_)]) [32,33,34,35,36,37,2,4] ?_ ?_
   ·refine of (Bm (i:=1) Hk rfl rfl rfl) (D7 rfl (λH=>Ha (ys:=([([102,97,108,115,101]:Av),([116,114,117,101]:Av)]:List Av)) (enc:=eS) (css:=[[rS ([102,97,108,115,101]:Av)],[rS ([116,114,117,101]:Av)]]) (xs:=[.const (.string ⟨#[102,97,108,115,101]⟩),.const (.string ⟨#[116,114,117,101]⟩)]) CS C7 Wp rfl rfl rfl ⟨Ep.one rfl (Up.refl _),Ep.one rfl (Up.refl _),trivial⟩ rfl He rfl rfl) ?_);refine oq (AG Bl rfl B9 rfl rfl) (of (Bm (i:=0) BN rfl rfl rfl) (oq (AT (enc:=eS) (ys:=([([102,97,108,115,101]:Av),([116,114,117,101]:Av)]:List Av)) CS C7 rfl rfl g16) (oq (AH CD rfl rfl) ?_)));exact Ct
   refine ck hz λg18 h0=>CF (rs:=[rP ha 0,rS (Ax ([([102,97,108,115,101]:Av),([116,114,117,101]:Av)]:List Av) ((Ax v 0).fInt))]) (Hin:=[.bld 101 5 ha hb l]) (Hr:=[.blk b4 (Ab (Ax v 0)) 54,.blk b1 [rP ha 0] 98]) Tryz.call112 rfl ((A4 (i:=2) rfl).trans (Yw _ (Yu _))) (GY ha hb l (Ax ([([102,97,108,115,101]:Av),([116,114,117,101]:Av)]:List Av) ((Ax v 0).fInt)) g18) rfl ?_;rintro _ _ ⟨v20,rfl,rfl⟩;refine bd h0 λgB h1 h2=>?_;rw[← h1];refine Ai (A2 ?_);obtain rfl:=An h2;exact E7 (Oj RS) (sC (sS (sS sN))) ⟨v20,rfl,rfl⟩
  ·refine Ae (wv (Bh rfl rfl) (wa rfl (Ak (cz hy rfl (λh4 h5=>?_) (λh4 h7=>?_)))))
   ·refine ck h5 λh9 hA=>IY (H1:=[.blk b4 (Ab (Ax v 0)) 54,.blk b1 [rP ha 0] 98,.bld 101 5 ha hb l]) 4 [2,4] [⟨[],rP ha 0,1⟩,⟨[],rP b4 1,0⟩,⟨[1],Al ((Ax v 0).fInt),1⟩,⟨[2],rS (Lib.itoa ((Ax v 0).fInt)),0⟩] (rle [(5,_)]) [41,42,43,44,2,4] ?_ ?_
    ·refine of (Bm (i:=1) Hk rfl rfl rfl) (oq (AG Bl rfl B9 rfl rfl) (of (Bm (i:=0) BN rfl rfl rfl) (D7 rfl (λH=>Km (rs:=[Al ((Ax v 0).fInt)]) (r:=rS (Lib.itoa ((Ax v 0).fInt))) Tryz.call113 rfl (PJ ((Ax v 0).fInt) h9) rfl) ?_)));exact Ct
    refine ck hA λhB hC=>CF (rs:=[rP ha 0,rS (Lib.itoa ((Ax v 0).fInt))]) (Hin:=[.bld 101 5 ha hb l]) (Hr:=[.blk b4 (Ab (Ax v 0)) 54,.blk b1 [rP ha 0] 98]) Tryz.call112 rfl ((A4 (i:=2) rfl).trans (Yw _ (Yu _))) (GY ha hb l (Lib.itoa ((Ax v 0).fInt)) hB) rfl ?_;rintro _ _ ⟨hD,rfl,rfl⟩;refine bd hC λgC hE hG=>?_;rw[← hE];refine Ai (A2 ?_);obtain rfl:=An hG;exact E7 (Oj RS) (sC (sS (sS sN))) ⟨hD,rfl,rfl⟩
   ·refine Ae (wv (Bh rfl rfl) (wa rfl (Ak (cz h7 rfl (λhH hI=>?_) (λhH hJ=>?_)))))
    ·refine Aj (vL 1 Hk rfl (vF Bl rfl C7 (vL 0 CD rfl (ob hI λhK hL hN=>DN (Hr:=[.blk b4 (Ab (Ax v 0)) 54,.blk b1 [rP ha 0] 98]) Tryz.call114 (Mw F ha hb l ((Ax v 0).fStr) hK hL) rfl ((A4 (i:=2) rfl).trans (Yw _ (Yu _))) rfl ?_))));rintro _ _ ⟨hO,rfl,rfl⟩;refine Ai (A2 ?_);obtain rfl:=An hN;exact E7 (Oj RS) (sC (sS (sS sN))) ⟨hO,rfl,rfl⟩
    ·refine Ae (wv (r:=rS ([91,93]:Av)) (AE rfl) (Ak (Am (Ae (vF Bl rfl C2 (vL 0 CA rfl (wv (Bh rfl rfl) (Ak (cz hJ rfl (λhP hQ=>?_) (λhP hR=>?_))))))))))
     ·refine Aj (wv (r:=rS ([123,125]:Av)) (AE rfl) (Ak (Am (ck hQ λhS hT=>IY (H1:=[.blk b4 (Ab (Ax v 0)) 54,.blk b1 [rP ha 0] 98,.bld 101 5 ha hb l]) 3 [1,2,4,5] [⟨[],rP ha 0,1⟩,⟨[],rS ([123,125]:Av),0⟩,⟨[1],rI .u8 (Ck ([123,125]:Av) 0),0⟩] (rle [(4,_)]) [15,16,17,1,2,4,5] ?_ ?_))))
      ·refine of (Bm (i:=1) Hk rfl rfl rfl) (oq (A6 rfl) (oq (BC Dz rfl rfl hS) ?_));exact Ct
      refine ck hT λhU hV=>ck hV λhW hX=>CF (rs:=[rP ha 0,rI .u8 (Ck ([123,125]:Av) 0)]) (Hin:=[.bld 101 5 ha hb l]) (Hr:=[.blk b4 (Ab (Ax v 0)) 54,.blk b1 [rP ha 0] 98]) Iu rfl ((A4 (i:=2) rfl).trans (Yw _ (Yu _))) (C1 ha hb l (Ck ([123,125]:Av) 0) hU hW) rfl ?_;rintro _ _ ⟨v51,rfl,rfl⟩;refine bd hX λhp hY hZ=>?_;rw[← hY];refine Bc (Cd (cs:=[rB false]) Tryz.zeroValue4 rfl rfl (λhj=>?_));refine BA (i:=0) HI rfl rfl (BS rfl) rfl rfl (cs':=[rB true]) rfl (H':=[.blk hj [rB true] 4,.bld 101 5 ha v51 hp,.blk b4 (Ab (Ax v 0)) 54,.blk b1 [rP ha 0] 98]) rfl (Bc (wm rfl (wv (r:=rv (.func (.func 116) #[] #[(.pointer (some ⟨hj,0,none⟩)),(.pointer (some ⟨b1,0,none⟩)),(.pointer (some ⟨b4,0,none⟩))])) (BY rfl) (ob hZ λhh ga gb=>DN (Hr:=[]) Tryz.call90 (ho hj b1 ha v51 b4 v true hp (Ax v 0) hh ga) rfl ((A4 (i:=0) rfl).trans (Yw _ ((A4 (i:=2) rfl).trans (Yw _ (Yu _))))) rfl ?_))));rintro _ _ ⟨hl,rfl,rfl⟩;refine Ak (ck gb λgc gd=>IY (H1:=[.blk hj [rB hh.1] 4,.blk b1 [rP ha 0] 98,.bld 101 5 ha hl hh.2,.blk b4 (Ab (Ax v 0)) 54]) 3 [2,5] [⟨[],rP ha 0,1⟩,⟨[],rS ([123,125]:Av),0⟩,⟨[1],rI .u8 (Ck ([123,125]:Av) 1),0⟩] (rle [(4,_)]) [22,23,24,2,5] ?_ ?_)
      ·refine of (Bm (i:=1) Hk rfl rfl rfl) (oq (A6 rfl) (oq (BC Dz rfl rfl gc) ?_));exact Ct
      refine ck gd λge gf=>ck gf λgg gh=>CF (rs:=[rP ha 0,rI .u8 (Ck ([123,125]:Av) 1)]) (Hin:=[.bld 101 5 ha hl hh.2]) (Hr:=[.blk hj [rB hh.1] 4,.blk b1 [rP ha 0] 98,.blk b4 (Ab (Ax v 0)) 54]) Iu rfl ((A4 (i:=2) rfl).trans (Yw _ (Yu _))) (C1 ha hl hh.2 (Ck ([123,125]:Av) 1) ge gg) rfl ?_;rintro _ _ ⟨gi,rfl,rfl⟩;refine bd gh λgD gj gl=>?_;rw[← gj];refine Ai (A2 ?_);obtain rfl:=An gl;exact E7 (Oj RS) (sC (sS (sS (sS sN)))) ⟨gi,rfl,rfl⟩
     ·refine Aq (A7 (Am (ck hR λgm gp=>IY (H1:=[.blk b4 (Ab (Ax v 0)) 54,.blk b1 [rP ha 0] 98,.bld 101 5 ha hb l]) 3 [1,2,4,5] [⟨[],rP ha 0,1⟩,⟨[],rS ([91,93]:Av),0⟩,⟨[1],rI .u8 (Ck ([91,93]:Av) 0),0⟩] (rle [(4,_)]) [15,16,17,1,2,4,5] ?_ ?_)))
      ·refine of (Bm (i:=1) Hk rfl rfl rfl) (oq (A6 rfl) (oq (BC Dz rfl rfl gm) ?_));exact Ct
      refine ck gp λgq gr=>ck gr λgs gt=>CF (rs:=[rP ha 0,rI .u8 (Ck ([91,93]:Av) 0)]) (Hin:=[.bld 101 5 ha hb l]) (Hr:=[.blk b4 (Ab (Ax v 0)) 54,.blk b1 [rP ha 0] 98]) Iu rfl ((A4 (i:=2) rfl).trans (Yw _ (Yu _))) (C1 ha hb l (Ck ([91,93]:Av) 0) gq gs) rfl ?_;rintro _ _ ⟨hq,rfl,rfl⟩;refine bd gt λhr gu gv=>?_;rw[← gu];refine Bc (Cd (cs:=[rB false]) Tryz.zeroValue4 rfl rfl (λhk=>?_));refine BA (i:=0) HI rfl rfl (BS rfl) rfl rfl (cs':=[rB true]) rfl (H':=[.blk hk [rB true] 4,.bld 101 5 ha hq hr,.blk b4 (Ab (Ax v 0)) 54,.blk b1 [rP ha 0] 98]) rfl (Bc (wm rfl (wv (r:=rv (.func (.func 116) #[] #[(.pointer (some ⟨hk,0,none⟩)),(.pointer (some ⟨b1,0,none⟩)),(.pointer (some ⟨b4,0,none⟩))])) (BY rfl) (ob gv λhi gw gx=>DN (Hr:=[]) Tryz.call90 (ho hk b1 ha hq b4 v true hr (Ax v 0) hi gw) rfl ((A4 (i:=0) rfl).trans (Yw _ ((A4 (i:=2) rfl).trans (Yw _ (Yu _))))) rfl ?_))));rintro _ _ ⟨v85,rfl,rfl⟩;refine Ak (ck gx λgy gz=>IY (H1:=[.blk hk [rB hi.1] 4,.blk b1 [rP ha 0] 98,.bld 101 5 ha v85 hi.2,.blk b4 (Ab (Ax v 0)) 54]) 3 [2,5] [⟨[],rP ha 0,1⟩,⟨[],rS ([91,93]:Av),0⟩,⟨[1],rI .u8 (Ck ([91,93]:Av) 1),0⟩] (rle [(4,_)]) [22,23,24,2,5] ?_ ?_)
      ·refine of (Bm (i:=1) Hk rfl rfl rfl) (oq (A6 rfl) (oq (BC Dz rfl rfl gy) ?_));exact Ct
      refine ck gz λg0 g1=>ck g1 λg3 g4=>CF (rs:=[rP ha 0,rI .u8 (Ck ([91,93]:Av) 1)]) (Hin:=[.bld 101 5 ha v85 hi.2]) (Hr:=[.blk hk [rB hi.1] 4,.blk b1 [rP ha 0] 98,.blk b4 (Ab (Ax v 0)) 54]) Iu rfl ((A4 (i:=2) rfl).trans (Yw _ (Yu _))) (C1 ha v85 hi.2 (Ck ([91,93]:Av) 1) g0 g3) rfl ?_;rintro _ _ ⟨g5,rfl,rfl⟩;refine bd g4 λgE g6 g8=>?_;rw[← g6];refine Ai (A2 ?_);obtain rfl:=An g8;exact E7 (Oj RS) (sC (sS (sS (sS sN)))) ⟨g5,rfl,rfl⟩
theorem Qu (F:Nat)(hk:Av→(List Aa)→Option (Av))(hh:(∀(ha:Nat) (hg:Value) (l:Av) (v:(List Aa)) (r:Av),hk l v=some r→Fn Tryz.prog GE 87 [rP ha 0,AC 4 (A0 Ab v)] [.bld 101 5 ha hg l] (λR H=>∃w0b:Value,R=rv (.tuple #[])∧H=[.bld 101 5 ha w0b r])))(hb:Nat)(he:Nat)(ha:Nat)(hg:Value)(hf:Nat)(key:Av)(x:(List Aa))(first:Bool)(l:Av)(c:Aa)(r:Bool×Bool×Av)(h:Mp F hk key x first l c=some r):Fn Tryz.prog GE 116 [rS key,AC 4 (A0 Ab x),rP hb 0,rP he 0,rP hf 0] [.blk hb [rB first] 4,.blk he [rP ha 0] 98,.bld 101 5 ha hg l,.blk hf (Ab c) 54] (λR H=>∃w3b:Value,R=rB r.1∧H=[.blk hb [rB r.2.1] 4,.blk he [rP ha 0] 98,.bld 101 5 ha w3b r.2.2,.blk hf (Ab c) 54]):=by
 refine enter (n:=23) Tryz.func116 rfl Tryz.ntmps116 rfl (λw Z=>?_);unfold Mp at h;refine Ae (wa rfl (Ak (Am (Ae (vL 0 Tf rfl (wv (B4 rfl) (Ak (cz h rfl (λc1 h2=>?_) (λc1 hw=>?_)))))))))
 ·refine Aj (vL 1 Hk rfl (ck h2 λg3 h4=>ck h4 λg5 h6=>CF (rs:=[rP ha 0,rI .u8 44]) (Hin:=[.bld 101 5 ha hg l]) (Hr:=[.blk hb [rB first] 4,.blk he [rP ha 0] 98,.blk hf (Ab c) 54]) Iu rfl ((A4 (i:=2) rfl).trans (Yw _ (Yu _))) (C1 ha hg l 44 g3 g5) rfl ?_));rintro _ _ ⟨v7,rfl,rfl⟩;refine bd h6 λr8 hx h9=>?_;rw[← hx];refine Bc (BA (i:=1) HI rfl rfl (BS rfl) rfl rfl (cs':=[rB false]) rfl (H':=[.bld 101 5 ha v7 r8,.blk hb [rB false] 4,.blk he [rP ha 0] 98,.blk hf (Ab c) 54]) rfl (Ak (Am (Ae (vF Bl rfl C2 (vL 3 CA rfl (wv (Bh rfl rfl) (Ak (cz h9 rfl (λhy hz=>?_) (λhy h0=>?_))))))))))
  ·refine Ae (vL 2 Hk rfl (wm rfl (ob hz λhi h1 h3=>DN (Hr:=[.blk hb [rB false] 4,.blk he [rP ha 0] 98,.blk hf (Ab c) 54]) Tryz.call114 (Mw F ha v7 r8 key hi h1) rfl (Yu _) rfl ?_)));rintro _ _ ⟨hl,rfl,rfl⟩;refine Ak (Aj (vL 2 Hk rfl (ck h3 λg17 h5=>ck h5 λg19 h7=>CF (rs:=[rP ha 0,rI .u8 58]) (Hin:=[.bld 101 5 ha hl hi]) (Hr:=[.blk hb [rB false] 4,.blk he [rP ha 0] 98,.blk hf (Ab c) 54]) Iu rfl (Yu _) (C1 ha hl hi 58 g17 g19) rfl ?_)));rintro _ _ ⟨v21,rfl,rfl⟩;refine bd h7 λh8 hA hB=>?_;rw[← hA];refine Bc (vL 2 Hk rfl (wm rfl (ob hB λhm hC hD=>DN (Hr:=[.blk hb [rB false] 4,.blk he [rP ha 0] 98,.blk hf (Ab c) 54]) Ts (hh ha v21 h8 x hm hC) rfl (Yu _) rfl ?_)));rintro _ _ ⟨hn,rfl,rfl⟩;refine Bc (wa rfl (Ak (Ap (C6 (H2:=[.blk hb [rB false] 4,.blk he [rP ha 0] 98,.bld 101 5 ha hn hm,.blk hf (Ab c) 54]) ((A4 (i:=1) rfl).trans (Yw _ ((A4 (i:=1) rfl).trans (Yw _ (Yu _))))) ?_))));obtain rfl:=An hD;exact Ao (Bo Rm (A5 rfl)) (sC (sC (sC (sC sN)))) ⟨hn,rfl,rfl⟩
  ·refine Aq (A7 (Ae (vL 2 Hk rfl (wm rfl (ob h0 λho hE hG=>DN (Hr:=[.blk hb [rB false] 4,.blk he [rP ha 0] 98,.blk hf (Ab c) 54]) Ts (hh ha v7 r8 x ho hE) rfl (Yu _) rfl ?_)))));rintro _ _ ⟨hp,rfl,rfl⟩;refine Bc (wa rfl (Ak (Ap (C6 (H2:=[.blk hb [rB false] 4,.blk he [rP ha 0] 98,.bld 101 5 ha hp ho,.blk hf (Ab c) 54]) ((A4 (i:=1) rfl).trans (Yw _ ((A4 (i:=1) rfl).trans (Yw _ (Yu _))))) ?_))));obtain rfl:=An hG;exact Ao (Bo Rm (A5 rfl)) (sC (sC (sC (sC sN)))) ⟨hp,rfl,rfl⟩
 ·refine Aq (A7 (Ae (BA (i:=0) HI rfl rfl (BS rfl) rfl rfl (cs':=[rB false]) rfl (H':=[.blk hb [rB false] 4,.blk he [rP ha 0] 98,.bld 101 5 ha hg l,.blk hf (Ab c) 54]) rfl (Ak (Am (Ae (vF Bl rfl C2 (vL 3 CA rfl (wv (Bh rfl rfl) (Ak (cz hw rfl (λhH hI=>?_) (λhH hJ=>?_))))))))))))
  ·refine Ae (vL 1 Hk rfl (wm rfl (ob hI λhj hK hL=>DN (Hr:=[.blk hb [rB false] 4,.blk he [rP ha 0] 98,.blk hf (Ab c) 54]) Tryz.call114 (Mw F ha hg l key hj hK) rfl ((A4 (i:=2) rfl).trans (Yw _ (Yu _))) rfl ?_)));rintro _ _ ⟨hq,rfl,rfl⟩;refine Ak (Aj (vL 2 Hk rfl (ck hL λhN hO=>ck hO λhP hQ=>CF (rs:=[rP ha 0,rI .u8 58]) (Hin:=[.bld 101 5 ha hq hj]) (Hr:=[.blk hb [rB false] 4,.blk he [rP ha 0] 98,.blk hf (Ab c) 54]) Iu rfl (Yu _) (C1 ha hq hj 58 hN hP) rfl ?_)));rintro _ _ ⟨hR,rfl,rfl⟩;refine bd hQ λhS hT hU=>?_;rw[← hT];refine Bc (vL 2 Hk rfl (wm rfl (ob hU λhr hV hW=>DN (Hr:=[.blk hb [rB false] 4,.blk he [rP ha 0] 98,.blk hf (Ab c) 54]) Ts (hh ha hR hS x hr hV) rfl (Yu _) rfl ?_)));rintro _ _ ⟨hs,rfl,rfl⟩;refine Bc (wa rfl (Ak (Ap (C6 (H2:=[.blk hb [rB false] 4,.blk he [rP ha 0] 98,.bld 101 5 ha hs hr,.blk hf (Ab c) 54]) ((A4 (i:=1) rfl).trans (Yw _ ((A4 (i:=1) rfl).trans (Yw _ (Yu _))))) ?_))));obtain rfl:=An hW;exact Ao (Bo Rm (A5 rfl)) (sC (sC (sC (sC sN)))) ⟨hs,rfl,rfl⟩
  ·refine Aq (A7 (Ae (vL 1 Hk rfl (wm rfl (ob hJ λht hX hY=>DN (Hr:=[.blk hb [rB false] 4,.blk he [rP ha 0] 98,.blk hf (Ab c) 54]) Ts (hh ha hg l x ht hX) rfl ((A4 (i:=2) rfl).trans (Yw _ (Yu _))) rfl ?_)))));rintro _ _ ⟨hu,rfl,rfl⟩;refine Bc (wa rfl (Ak (Ap (C6 (H2:=[.blk hb [rB false] 4,.blk he [rP ha 0] 98,.bld 101 5 ha hu ht,.blk hf (Ab c) 54]) ((A4 (i:=1) rfl).trans (Yw _ ((A4 (i:=1) rfl).trans (Yw _ (Yu _))))) ?_))));obtain rfl:=An hY;exact Ao (Bo Rm (A5 rfl)) (sC (sC (sC (sC sN)))) ⟨hu,rfl,rfl⟩
theorem Qt (F:Nat)(hn:Av→(List Aa)→Bool→Av→Aa→Option (Bool×Bool×Av))(hy:(∀(he:Nat) (hf:Nat) (hb:Nat) (ho:Value) (hg:Nat) (key:Av) (x:(List Aa)) (first:Bool) (l:Av) (c:Aa) (r:Bool×Bool×Av),hn key x first l c=some r→Fn Tryz.prog GE 116 [rS key,AC 4 (A0 Ab x),rP he 0,rP hf 0,rP hg 0] [.blk he [rB first] 4,.blk hf [rP hb 0] 98,.bld 101 5 hb ho l,.blk hg (Ab c) 54] (λR H=>∃w3b:Value,R=rB r.1∧H=[.blk he [rB r.2.1] 4,.blk hf [rP hb 0] 98,.bld 101 5 hb w3b r.2.2,.blk hg (Ab c) 54])))(he:Nat)(hf:Nat)(hb:Nat)(ho:Value)(hg:Nat)(v:(List Aa))(first:Bool)(l:Av)(c:Aa)(r:Bool×Av)(h:Mo F hn v first l c=some r):Fn Tryz.prog GE 90 [AC 4 (A0 Ab v),rv (.func (.func 116) #[] #[(.pointer (some ⟨he,0,none⟩)),(.pointer (some ⟨hf,0,none⟩)),(.pointer (some ⟨hg,0,none⟩))])] [.blk he [rB first] 4,.blk hf [rP hb 0] 98,.bld 101 5 hb ho l,.blk hg (Ab c) 54] (λR H=>∃w1_1b:Value,R=rv (.tuple #[])∧H=[.blk he [rB r.1] 4,.blk hf [rP hb 0] 98,.bld 101 5 hb w1_1b r.2,.blk hg (Ab c) 54]):=by
 refine enter (n:=52) Tryz.func90 rfl Tryz.ntmps90 rfl (λw Z=>?_);unfold Mo at h;refine Ae (wa rfl (Bc (wm rfl (ck h λg1 h2=>wv (AT (enc:=Ab) (ys:=v) Br Bz rfl rfl g1) (wv (AI Bl rfl B9 rfl rfl) (wv (AH BN rfl rfl) (wv (r:=Al 0) (A6 rfl) (Ak (A3 (ob h2 λh8 h9 hs=>Bb (S:=Nat×(Int×Int×Bool×Av)×(Value)) (V:=(Bool×Av)×(Value)) 0 (λσ=>BG (λσ=>HN F v c hn σ.1 σ.2.1 σ.2.2.1 σ.2.2.2) σ.1 σ.2.1=some h8) (λσ=>[(0,AC 4 (A0 Ab v)),(1,rv (.func (.func 116) #[] #[(.pointer (some ⟨he,0,none⟩)),(.pointer (some ⟨hf,0,none⟩)),(.pointer (some ⟨hg,0,none⟩))])),(4,Al σ.2.1.1),(12,Al ((Ax v 0).fN)),(13,Al σ.2.1.2.1)]) (λσ=>[.blk he [rB σ.2.1.2.2.1] 4,.blk hf [rP hb 0] 98,.bld 101 5 hb σ.2.2 σ.2.1.2.2.2,.blk hg (Ab c) 54]) (λσ=>σ.1) (F,(1,0,first,l),ho) h9 (Az.c5 rfl rfl rfl rfl rfl Az.nil) (sC (sC (sC (sC sN)))) (λσ=>HM σ.1.1 σ.1.2=some r) (λσ=>[]) (λσ=>[.blk he [rB σ.1.1] 4,.blk hf [rP hb 0] 98,.bld 101 5 hb σ.2 σ.1.2,.blk hg (Ab c) 54]) ?_ ?_))))))))))
 ·rintro⟨g2,⟨ha,hp,hj,hk⟩,hl⟩ hA;refine Bs (l':=[(0,AC 4 (A0 Ab v)),(1,rv (.func (.func 116) #[] #[(.pointer (some ⟨he,0,none⟩)),(.pointer (some ⟨hf,0,none⟩)),(.pointer (some ⟨hg,0,none⟩))])),(4,Al ha),(12,Al ((Ax v 0).fN)),(13,Al hp)]) (H':=[.blk he [rB hj] 4,.blk hf [rP hb 0] 98,.bld 101 5 hb hl hk,.blk hg (Ab c) 54]) rfl rfl ?_;obtain⟨hz,rfl,hB,hq,hm⟩:=BF hA;replace hq:HN F v c hn ha hp hj hk=some hB:=hq;unfold HN at hq;refine Ae (wv (BW rfl rfl) (Ak (Am (cz hq rfl (λc175 hC=>?_) (λc175 hD=>?_)))))
  ·refine Aq (A7 (Am (A3 (Ae (wv (r:=rS ([]:Av)) (AE rfl) (Ak (Am (Ae (wm rfl (wv (AT (enc:=Ab) (ys:=v) Br Bz rfl rfl g1) (wv (AI Bl rfl C2 rfl rfl) (wv (AH CA rfl rfl) (wv (Bh rfl rfl) (Ak (cz hC rfl (λhE hG=>?_) (λhE hH=>?_))))))))))))))))
   ·refine Ae (wm rfl (wm rfl (ck hG λhI hJ=>wv (AT (enc:=Ab) (ys:=v) Br Bz rfl rfl hI) (wv (AI Bl rfl C7 rfl rfl) (wv (AH CD rfl rfl) (wa rfl (Ak (Aj (wm rfl (ck hJ λhK hL=>wv (Bd rfl rfl hK) (wa rfl (Bc (wm rfl (wm rfl (ck hL λhN hO=>wv (r:=AC 4 (A0 Ab (List.drop (By (ha+1)) v))) (Eb Br Bz rfl rfl hN) (ob hO λhh hP hQ=>BM Qq (HS F (List.drop (By (ha+1)) v) hh hP) rfl (wm rfl (wv (A8 rfl rfl) (wv (A8 rfl rfl) ?_)))))))))))))))))));refine wv (A8 rfl rfl) (Cd (cs:=[Al 0,Al 0,rB false,rB false]) NT rfl rfl (λh0=>?_));refine wa rfl (Bj (i:=0) G7 rfl rfl rfl (BP.c rfl) rfl rfl (cs':=[Al hh.2.1.fDepth,Al hh.2.1.fBytes,rB hh.2.1.fOutside,rB hh.2.1.fLong]) rfl (H':=[.blk h0 (AO hh.2.1) 86,.blk he [rB hj] 4,.blk hf [rP hb 0] 98,.bld 101 5 hb hl hk,.blk hg (Ab c) 54]) rfl (wa rfl (Ak (Am (Ae (wm rfl (wm rfl (wm rfl (wm rfl (wm rfl (wm rfl (ck hQ λht hR=>wv (Bd rfl rfl ht) (wm rfl (wm rfl (wv (Bd rfl rfl ht) (ck hR λhS hT=>ck hT λhU hV=>wv (r:=AC 4 (A0 Ab (List.take (By ((ha+1)+hh.1)-By (ha+1)) (List.drop (By (ha+1)) v)))) (E9 Br Bz rfl rfl rfl rfl hS hU) (ob hV λhu hW hX=>CN (rs:=[rS ((Ax v ha).fStr),AC 4 (A0 Ab (List.take (By ((ha+1)+hh.1)-By (ha+1)) (List.drop (By (ha+1)) v)))]) (Hin:=[.blk he [rB hj] 4,.blk hf [rP hb 0] 98,.bld 101 5 hb hl hk,.blk hg (Ab c) 54]) (Hr:=[.blk h0 (AO hh.2.1) 86]) Tryz.call116 rfl rfl ((A4 (i:=1) rfl).trans (Yw _ ((A4 (i:=1) rfl).trans (Yw _ ((A4 (i:=1) rfl).trans (Yw _ ((A4 (i:=1) rfl).trans (Yw _ (Yu _))))))))) (hy he hf hb hl hg ((Ax v ha).fStr) (List.take (By ((ha+1)+hh.1)-By (ha+1)) (List.drop (By (ha+1)) v)) hj hk c hu hW) rfl ?_)))))))))))))))));rintro _ _ ⟨h1,rfl,rfl⟩;refine wv (B4 rfl) (Ak (cz hX rfl (λhY hZ=>?_) (λhY ga=>?_)))
    ·refine Ap (Ac (At (Ac (Ac (AM ?_)))));have gb:=Bg hZ hm hs;refine At ?_;obtain rfl:=An gb;exact Ao (Oj NW) (sC (sC (sC (sC (sS sN))))) ⟨h1,rfl,rfl⟩
    ·refine Aq (A7 (Aj (wm rfl (wm rfl (wv (Bd rfl rfl ht) (wa rfl (Ai (A2 (A7 (Aj (ck ga λgc gd=>wv (Bd rfl rfl gc) (wm rfl (Ai ?_)))))))))))));have ge:=AW gd hm;exact Au (Ar (hz,((ha+1)+hh.1,hp+1,hu.2.1,hu.2.2),h1) ⟨ge,Yy _⟩ (Az.c5 rfl rfl rfl rfl rfl Az.nil) (sC (sC (sC (sC (sS sN))))))
   ·refine Aq (A7 (Ae (wm rfl (wm rfl (ck hH λgf gg=>wv (r:=AC 4 (A0 Ab (List.drop (By ha) v))) (Eb Br Bz rfl rfl gf) (ob gg λhi gh gi=>BM Qq (HS F (List.drop (By ha) v) hi gh) rfl (wm rfl (wv (A8 rfl rfl) (wv (A8 rfl rfl) (wv (A8 rfl rfl) (Cd (cs:=[Al 0,Al 0,rB false,rB false]) NT rfl rfl (λh3=>?_))))))))))));refine wa rfl (Bj (i:=0) G7 rfl rfl rfl (BP.c rfl) rfl rfl (cs':=[Al hi.2.1.fDepth,Al hi.2.1.fBytes,rB hi.2.1.fOutside,rB hi.2.1.fLong]) rfl (H':=[.blk h3 (AO hi.2.1) 86,.blk he [rB hj] 4,.blk hf [rP hb 0] 98,.bld 101 5 hb hl hk,.blk hg (Ab c) 54]) rfl (wa rfl (Ak (Am (Ae (wm rfl (wm rfl (wm rfl (wm rfl (wm rfl (wm rfl (ck gi λhw gj=>wv (Bd rfl rfl hw) (wm rfl (wm rfl (wv (Bd rfl rfl hw) (ck gj λgl gm=>ck gm λgp gq=>wv (r:=AC 4 (A0 Ab (List.take (By (ha+hi.1)-By ha) (List.drop (By ha) v)))) (E9 Br Bz rfl rfl rfl rfl gl gp) (ob gq λhx gr gs=>CN (rs:=[rS ([]:Av),AC 4 (A0 Ab (List.take (By (ha+hi.1)-By ha) (List.drop (By ha) v)))]) (Hin:=[.blk he [rB hj] 4,.blk hf [rP hb 0] 98,.bld 101 5 hb hl hk,.blk hg (Ab c) 54]) (Hr:=[.blk h3 (AO hi.2.1) 86]) Tryz.call116 rfl rfl ((A4 (i:=1) rfl).trans (Yw _ ((A4 (i:=1) rfl).trans (Yw _ ((A4 (i:=1) rfl).trans (Yw _ ((A4 (i:=1) rfl).trans (Yw _ (Yu _))))))))) (hy he hf hb hl hg ([]:Av) (List.take (By (ha+hi.1)-By ha) (List.drop (By ha) v)) hj hk c hx gr) rfl ?_)))))))))))))))));rintro _ _ ⟨h4,rfl,rfl⟩;refine wv (B4 rfl) (Ak (cz gs rfl (λgt gu=>?_) (λgt gv=>?_)))
    ·refine Ap (Ac (At (Ac (Ac (AM ?_)))));have gw:=Bg gu hm hs;refine At ?_;obtain rfl:=An gw;exact Ao (Oj NW) (sC (sC (sC (sC (sS sN))))) ⟨h4,rfl,rfl⟩
    ·refine Aq (A7 (Aj (wm rfl (wm rfl (wv (Bd rfl rfl hw) (wa rfl (Ai (A2 (A7 (Aj (ck gv λgx gy=>wv (Bd rfl rfl gx) (wm rfl (Ai ?_)))))))))))));have gz:=AW gy hm;exact Au (Ar (hz,(ha+hi.1,hp+1,hx.2.1,hx.2.2),h4) ⟨gz,Yy _⟩ (Az.c5 rfl rfl rfl rfl rfl Az.nil) (sC (sC (sC (sC (sS sN))))))
  ·refine Bf (As ?_);have g0:=Bu hD hm hs;exact As (AP (Ar ((hj,hk),hl) g0 Az.nil (sC (sC (sC (sC sN))))))
 ·rintro⟨⟨h5,h6⟩,h7⟩ hr;refine BK (l':=[]) (H':=[.blk he [rB h5] 4,.blk hf [rP hb 0] 98,.bld 101 5 hb h7 h6,.blk hg (Ab c) 54]) rfl rfl ?_;replace hr:HM h5 h6=some r:=hr;unfold HM at hr;refine AV ?_;obtain rfl:=An hr;exact E7 (Oj NW) (sC (sC (sC (sC sN)))) ⟨h7,rfl,rfl⟩
theorem Gs:∀F:Nat,(∀(ha:Nat) (hb:Value) (l:Av) (v:(List Aa)) (r:Av),J2 F l v=some r→Fn Tryz.prog GE 87 [rP ha 0,AC 4 (A0 Ab v)] [.bld 101 5 ha hb l] (λR H=>∃w0b:Value,R=rv (.tuple #[])∧H=[.bld 101 5 ha w0b r]))∧(∀(he:Nat) (hf:Nat) (ha:Nat) (hb:Value) (hg:Nat) (key:Av) (x:(List Aa)) (first:Bool) (l:Av) (c:Aa) (r:Bool×Bool×Av),HO F key x first l c=some r→Fn Tryz.prog GE 116 [rS key,AC 4 (A0 Ab x),rP he 0,rP hf 0,rP hg 0] [.blk he [rB first] 4,.blk hf [rP ha 0] 98,.bld 101 5 ha hb l,.blk hg (Ab c) 54] (λR H=>∃w3b:Value,R=rB r.1∧H=[.blk he [rB r.2.1] 4,.blk hf [rP ha 0] 98,.bld 101 5 ha w3b r.2.2,.blk hg (Ab c) 54]))∧(∀(he:Nat) (hf:Nat) (ha:Nat) (hb:Value) (hg:Nat) (v:(List Aa)) (first:Bool) (l:Av) (c:Aa) (r:Bool×Av),JM F v first l c=some r→Fn Tryz.prog GE 90 [AC 4 (A0 Ab v),rv (.func (.func 116) #[] #[(.pointer (some ⟨he,0,none⟩)),(.pointer (some ⟨hf,0,none⟩)),(.pointer (some ⟨hg,0,none⟩))])] [.blk he [rB first] 4,.blk hf [rP ha 0] 98,.bld 101 5 ha hb l,.blk hg (Ab c) 54] (λR H=>∃w1_1b:Value,R=rv (.tuple #[])∧H=[.blk he [rB r.1] 4,.blk hf [rP ha 0] 98,.bld 101 5 ha w1_1b r.2,.blk hg (Ab c) 54]))
  | 0=>⟨(λ_ _ _ _ _ h=>by simp[J2] at h),(λ_ _ _ _ _ _ _ _ _ _ _ h=>by simp[HO] at h),(λ_ _ _ _ _ _ _ _ _ _ h=>by simp[JM] at h)⟩
  | nn+1=>⟨(λha hb l v r h=>RZ nn (HO nn) (JM nn) (Gs nn).2.1 (Gs nn).2.2 ha hb l v r (by rw[J2] at h;exact h)),(λhe hf ha hb hg key x first l c r h=>Qu nn (J2 nn) (Gs nn).1 he hf ha hb hg key x first l c r (by rw[HO] at h;exact h)),(λhe hf ha hb hg v first l c r h=>Qt nn (HO nn) (Gs nn).2.1 he hf ha hb hg v first l c r (by rw[JM] at h;exact h))⟩
theorem T3 (F:Nat)(ha:Nat)(hb:Value)(l:Av)(v:(List Aa))(r:Av)(h:J2 F l v=some r):Fn Tryz.prog GE 87 [rP ha 0,AC 4 (A0 Ab v)] [.bld 101 5 ha hb l] (λR H=>∃w0b:Value,R=rv (.tuple #[])∧H=[.bld 101 5 ha w0b r]):=(Gs F).1 ha hb l v r h
theorem Sf (F:Nat)(v:(List Aa))(r:Av×Int)(h:Od F v=some r):Fn Tryz.prog GE 49 [AC 4 (A0 Ab v)] [] (λR H=>R=Da [rS r.1,Al r.2]∧H=[]):=by
 refine enter (n:=14) Tryz.func49 rfl Tryz.ntmps49 rfl (λw Z=>?_);unfold Od at h;refine Ae (wv (r:=rS ([]:Av)) (AE rfl) (wa rfl (Ak (Am (Ae (wm rfl (ob h λr1 e3 h2=>BM Nn (DR F v r1 e3) rfl (wa rfl (Bc (wm rfl (wv (Bk rfl rfl) (Ak (cz h2 rfl (λc4 h5=>?_) (λc4 h6=>?_))))))))))))))
 ·refine Ae (wm rfl (wv (r:=rS ([]:Av)) (AE rfl) (wa rfl (Ak (Ap (Ac ?_))))));obtain rfl:=An h5;exact Ao (Dq Tryz.results49 (A5 rfl) (A5 rfl)) sN ⟨rfl,rfl⟩
 ·refine Aq (A7 (Ae (Cd (cs:=[rv (.pointer none),rv (.slice none 0 0)]) Tryz.zeroValue101 rfl rfl (λb7=>?_))));refine Bc (wm rfl (WL.tobld (te:=5) (i:=0) rfl (ob h6 λr8 hb h9=>DN (Hr:=[]) Ts (T3 F b7 (.slice none 0 0) ([]:Av) v r8 hb) rfl (Yu _) rfl ?_)));rintro _ _ ⟨ha,rfl,rfl⟩;refine Bc (ck h9 λhe hf=>CF (rs:=[rP b7 0]) (Hin:=[.bld 101 5 b7 ha r8]) (Hr:=[]) Tryz.call88 rfl (Yu _) (Tb b7 ha r8  he) rfl ?_);rintro _ _ ⟨rfl,rfl⟩;refine wa rfl (wa rfl (Ak (Ap ?_)));obtain rfl:=An hf;exact Ao (Dq Tryz.results49 (A5 rfl) (A5 rfl)) sN ⟨rfl,rfl⟩
end Go.Proofs.YtghdglcmblpbeaaGreatDoor.Q
namespace Go.Proofs.YtghdglcmblpbeaaGreatDoor
open Go
set_option linter.unusedVariables false
structure A1 where
 fS:Av
 fAt:Int
 fCells:(List Aa)
 fGreat:Bool
 deriving DecidableEq,Inhabited
def GC (s:Av)(p:Av):Option (Bool):=
 AY (imp (decide ((p.length:Int)≤(s.length:Int))) (EU (p.length:Int) (s.length:Int)))<|some ((decide ((p.length:Int)≤(s.length:Int)))&&(decide ((List.take (Int.toNat (p.length:Int)) s)=p)))
def De (s:Av)(p:Av):Option (Bool):=
 Be (GC s p) λr1=>some r1
def EI (q:A1)(s:Av):Option (Bool×A1):=
 AY (EU q.fAt (q.fS.length:Int))<|Be (De (List.drop (Int.toNat q.fAt) q.fS) s) λr3=>AS (!r3) (some (false,q)) (AY (BB .i64 (q.fAt+(s.length:Int)))<|some (true,(A1.mk q.fS (q.fAt+(s.length:Int)) q.fCells q.fGreat)))
def I5 (ha:(List Int))(hb:Int)(he:Int):Option (Stp ((List Int)×Int) (Out (Av×Bool×A1) (Int))):=
 AY (Ey 1 (ha.length+([hb]:List Int).length))<|some (.next (ha++([hb]:List Int),he))
def JP (r1:Bool×A1)(hb:(List Int))(ha:Int):Option (Stp ((List Int)×Int) (Out (Av×Bool×A1) (Int))):=
 AS (decide (ha<(r1.2.fS.length:Int))) (AY (Cu ha (r1.2.fS.length:Int))<|AY (BB .i64 (ha+1))<|AS (decide ((Ck r1.2.fS ha)=34)) (some (.out (.ret (Wi hb,true,(A1.mk r1.2.fS (ha+1) r1.2.fCells r1.2.fGreat))))) (AS (((decide ((Ck r1.2.fS ha)<32))||(decide (126<(Ck r1.2.fS ha))))) (some (.out (.ret (([]:Av),false,(A1.mk r1.2.fS (ha+1) r1.2.fCells r1.2.fGreat))))) (AS (decide ((Ck r1.2.fS ha)=92)) (AY (imp (!(decide ((r1.2.fS.length:Int)≤(ha+1)))) (Cu (ha+1) (r1.2.fS.length:Int)))<|AS (((decide ((r1.2.fS.length:Int)≤(ha+1)))||((!decide ((Ck r1.2.fS (ha+1))=34))&&(!decide ((Ck r1.2.fS (ha+1))=92))))) (some (.out (.ret (([]:Av),false,(A1.mk r1.2.fS (ha+1) r1.2.fCells r1.2.fGreat))))) (AY (Cu (ha+1) (r1.2.fS.length:Int))<|AY (BB .i64 ((ha+1)+1))<|I5 hb (Ck r1.2.fS (ha+1)) ((ha+1)+1))) (I5 hb (Ck r1.2.fS ha) (ha+1))))) (some (.out (.go ha)))
def JO (r1:Bool×A1)(ha:Int):Option (Av×Bool×A1):=
 some (([]:Av),false,(A1.mk r1.2.fS ha r1.2.fCells r1.2.fGreat))
def Rs (F:Nat)(q:A1):Option (Av×Bool×A1):=
 Be (EI q ([34]:Av)) λr1=>AS (!r1.1) (some (([]:Av),false,r1.2)) (Be (BG (λσ=>JP r1 σ.1 σ.2) F (([]:List Int),r1.2.fAt)) (BE λν=>JO r1 ν))
def JR (r1:Bool×A1)(ha:Int):Option (Stp (Int) (Out (Bool×A1) (Int))):=
 AY (imp (decide (ha<(r1.2.fS.length:Int))) (Cu ha (r1.2.fS.length:Int)))<|AS (((decide (ha<(r1.2.fS.length:Int)))&&((decide (48≤(Ck r1.2.fS ha)))&&(decide ((Ck r1.2.fS ha)≤57))))) (AY (BB .i64 (ha+1))<|some (.next (ha+1))) (some (.out (.go ha)))
def JQ (q:A1)(r1:Bool×A1)(ha:Int):Option (Bool×A1):=
 AY (EU q.fAt ha)<|AY (EU ha (r1.2.fS.length:Int))<|AY (Ey 1 (List.take (Int.toNat ha-Int.toNat q.fAt) (List.drop (Int.toNat q.fAt) r1.2.fS)).length)<|AS (((decide ((CH (List.take (Int.toNat ha-Int.toNat q.fAt) (List.drop (Int.toNat q.fAt) r1.2.fS)))=1))||(decide (r1.2.fAt=ha)))) (some (false,(A1.mk r1.2.fS ha r1.2.fCells r1.2.fGreat))) (AY (Ey 40 (r1.2.fCells.length+([(Aa.mk 3 (CL (List.take (Int.toNat ha-Int.toNat q.fAt) (List.drop (Int.toNat q.fAt) r1.2.fS))) ([]:Av) 0)]:List Aa).length))<|some (true,(A1.mk r1.2.fS ha (r1.2.fCells++([(Aa.mk 3 (CL (List.take (Int.toNat ha-Int.toNat q.fAt) (List.drop (Int.toNat q.fAt) r1.2.fS))) ([]:Av) 0)]:List Aa)) (r1.2.fGreat||(!decide ((CH (List.take (Int.toNat ha-Int.toNat q.fAt) (List.drop (Int.toNat q.fAt) r1.2.fS)))=0))))))
def T5 (F:Nat)(q:A1):Option (Bool×A1):=
 Be (EI q ([45]:Av)) λr1=>Be (BG (λσ=>JR r1 σ) F r1.2.fAt) (BE λν=>JQ q r1 ν)
def D0 (ha:Av)(hb:Int)(he:(List Aa))(hf:Bool):Option (Bool×A1):=
 some (true,(A1.mk ha hb he hf))
def Mu (F:Nat)(q:A1):Option (Bool×A1):=
 Be (EI q ([110,117,108,108]:Av)) λhe=>AS (he.1) (AY (Ey 40 (he.2.fCells.length+([(Aa.mk 1 0 ([]:Av) 0)]:List Aa).length))<|D0 he.2.fS he.2.fAt (he.2.fCells++([(Aa.mk 1 0 ([]:Av) 0)]:List Aa)) he.2.fGreat) (Be (EI he.2 ([116,114,117,101]:Av)) λhf=>AS (hf.1) (AY (Ey 40 (hf.2.fCells.length+([(Aa.mk 2 1 ([]:Av) 0)]:List Aa).length))<|D0 hf.2.fS hf.2.fAt (hf.2.fCells++([(Aa.mk 2 1 ([]:Av) 0)]:List Aa)) hf.2.fGreat) (Be (EI hf.2 ([102,97,108,115,101]:Av)) λha=>AS (ha.1) (AY (Ey 40 (ha.2.fCells.length+([(Aa.mk 2 0 ([]:Av) 0)]:List Aa).length))<|D0 ha.2.fS ha.2.fAt (ha.2.fCells++([(Aa.mk 2 0 ([]:Av) 0)]:List Aa)) ha.2.fGreat) (AY (EU ha.2.fAt (ha.2.fS.length:Int))<|Be (De (List.drop (Int.toNat ha.2.fAt) ha.2.fS) ([34]:Av)) λhh=>AS (hh) (Be (Rs F ha.2) λhb=>AS (!hb.2.1) (some (false,hb.2.2)) (AY (Ey 40 (hb.2.2.fCells.length+([(Aa.mk 4 0 hb.1 0)]:List Aa).length))<|D0 hb.2.2.fS hb.2.2.fAt (hb.2.2.fCells++([(Aa.mk 4 0 hb.1 0)]:List Aa)) hb.2.2.fGreat)) (Be (T5 F ha.2) λhg=>some (hg.1,hg.2)))))
def HQ (hh:A1→Option (Bool×A1))(he:(List Aa))(hf:Int)(hi:Av)(hj:Int)(hk:(List Aa))(hl:Bool):Option (Stp (Int×Av×Int×(List Aa)×Bool) (Out (Bool×A1) (Unit))):=
 Be (hh (A1.mk hi hj hk hl)) λha=>AS (!ha.1) (some (.out (.ret (false,ha.2)))) (AY (Cu (he.length:Int) (ha.2.fCells.length:Int))<|KJ (List.set ha.2.fCells (Int.toNat (he.length:Int)) (Aa.mk ((Ax ha.2.fCells (he.length:Int)).fKind) ((Ax ha.2.fCells (he.length:Int)).fInt) ((Ax ha.2.fCells (he.length:Int)).fStr) hf)) λhm=>Be (EI (A1.mk ha.2.fS ha.2.fAt hm ha.2.fGreat) ([93]:Av)) λhg=>AS (hg.1) (some (.out (.ret (true,hg.2)))) (Be (EI hg.2 ([44]:Av)) λhb=>AS (!hb.1) (some (.out (.ret (false,hb.2)))) (AY (BB .i64 (hf+1))<|some (.next (hf+1,hb.2.fS,hb.2.fAt,hb.2.fCells,hb.2.fGreat)))))
def Mt :Option (Bool×A1):=
 none
def DZ (hm:A1→Option (Bool×A1))(he:(List Aa))(hf:Int)(hg:Av×Bool×A1)(hp:Bool)(hq:Bool)(hn:Bool)(hj:Av)(hk:Int)(hh:(List Aa))(hl:Bool):Option (Stp (Av×Int×Av×Int×(List Aa)×Bool) (Out (Bool×A1) (Unit))):=
 AS (hn) (some (.out (.ret (false,(A1.mk hj hk hh hl))))) (AY (Ey 40 (hh.length+([(Aa.mk 4 0 hg.1 0)]:List Aa).length))<|Be (hm (A1.mk hj hk (hh++([(Aa.mk 4 0 hg.1 0)]:List Aa)) hl)) λha=>AS (!ha.1) (some (.out (.ret (false,ha.2)))) (AY (Cu (he.length:Int) (ha.2.fCells.length:Int))<|KJ (List.set ha.2.fCells (Int.toNat (he.length:Int)) (Aa.mk ((Ax ha.2.fCells (he.length:Int)).fKind) ((Ax ha.2.fCells (he.length:Int)).fInt) ((Ax ha.2.fCells (he.length:Int)).fStr) hf)) λho=>Be (EI (A1.mk ha.2.fS ha.2.fAt ho ha.2.fGreat) ([125]:Av)) λhi=>AS (hi.1) (some (.out (.ret (true,hi.2)))) (Be (EI hi.2 ([44]:Av)) λhb=>AS (!hb.1) (some (.out (.ret (false,hb.2)))) (AY (BB .i64 (hf+1))<|some (.next (hg.1,hf+1,hb.2.fS,hb.2.fAt,hb.2.fCells,hb.2.fGreat))))))
def HP (F:Nat)(hh:A1→Option (Bool×A1))(hi:(List Aa))(hb:Av)(he:Int)(hj:Av)(hk:Int)(hl:(List Aa))(hm:Bool):Option (Stp (Av×Int×Av×Int×(List Aa)×Bool) (Out (Bool×A1) (Unit))):=
 Be (Rs F (A1.mk hj hk hl hm)) λha=>AS (!ha.2.1) (DZ hh hi he ha true true true ha.2.2.fS ha.2.2.fAt ha.2.2.fCells ha.2.2.fGreat) (AS (decide (1<he)) (AS (CY ha.1 hb||decide (ha.1=hb)) (DZ hh hi he ha (CY ha.1 hb||decide (ha.1=hb)) (CY ha.1 hb||decide (ha.1=hb)) true ha.2.2.fS ha.2.2.fAt ha.2.2.fCells ha.2.2.fGreat) (Be (EI ha.2.2 ([58]:Av)) λhf=>DZ hh hi he ha (CY ha.1 hb||decide (ha.1=hb)) (CY ha.1 hb||decide (ha.1=hb)) (!hf.1) hf.2.fS hf.2.fAt hf.2.fCells hf.2.fGreat)) (Be (EI ha.2.2 ([58]:Av)) λhg=>DZ hh hi he ha false false (!hg.1) hg.2.fS hg.2.fAt hg.2.fCells hg.2.fGreat))
def Ms :Option (Bool×A1):=
 none
def Gt (F:Nat)(hi:A1→Option (Bool×A1))(r1:Bool×A1)(hk:Bool)(hf:Av)(hg:Int)(ha:(List Aa))(hh:Bool):Option (Bool×A1):=
 AS (hk) (Be (Mu F (A1.mk hf hg ha hh)) λhj=>some (hj.1,hj.2)) (AS (r1.1) (AY (Ey 40 (ha.length+([(Aa.mk 5 0 ([]:Av) 0)]:List Aa).length))<|Be (EI (A1.mk hf hg (ha++([(Aa.mk 5 0 ([]:Av) 0)]:List Aa)) hh) ([93]:Av)) λhb=>AS (hb.1) (some (true,hb.2)) (Be (BG (λσ=>HQ hi ha σ.1 σ.2.1 σ.2.2.1 σ.2.2.2.1 σ.2.2.2.2) F (1,hb.2.fS,hb.2.fAt,hb.2.fCells,hb.2.fGreat)) (BE λν=>Mt ))) (AY (Ey 40 (ha.length+([(Aa.mk 6 0 ([]:Av) 0)]:List Aa).length))<|Be (EI (A1.mk hf hg (ha++([(Aa.mk 6 0 ([]:Av) 0)]:List Aa)) hh) ([125]:Av)) λhe=>AS (he.1) (some (true,he.2)) (Be (BG (λσ=>HP F hi ha σ.1 σ.2.1 σ.2.2.1 σ.2.2.2.1 σ.2.2.2.2.1 σ.2.2.2.2.2) F (([]:Av),1,he.2.fS,he.2.fAt,he.2.fCells,he.2.fGreat)) (BE λν=>Ms ))))
def Mr (F:Nat)(hb:A1→Option (Bool×A1))(q:A1):Option (Bool×A1):=
 Be (EI q ([91]:Av)) λr1=>AS (!r1.1) (Be (EI r1.2 ([123]:Av)) λha=>Gt F hb r1 (!ha.1) ha.2.fS ha.2.fAt ha.2.fCells ha.2.fGreat) (Gt F hb r1 false r1.2.fS r1.2.fAt r1.2.fCells r1.2.fGreat)
def HR:Nat→A1→Option (Bool×A1)
 | 0,_=>none
 | nn+1,q=>Mr nn (HR nn) q
def Gu (F:Nat)(hb:Bool)(hg:Av)(hh:Int)(he:(List Aa))(hf:Bool):Option ((List Aa)×Int):=
 AS (hb) (some (([]:List Aa),1)) (AS (hf) (some (([]:List Aa),2)) (Be (EJ F he) λha=>some (ha.1,ha.2)))
def Oe (F:Nat)(s:Av):Option ((List Aa)×Int):=
 AS (decide (4000<(s.length:Int))) (some (([]:List Aa),3)) (Be (HR F (A1.mk s 0 ([]:List Aa) false)) λha=>AS (!ha.1) (Gu F true ha.2.fS ha.2.fAt ha.2.fCells ha.2.fGreat) (Gu F (!decide (ha.2.fAt=(s.length:Int))) ha.2.fS ha.2.fAt ha.2.fCells ha.2.fGreat))
end Go.Proofs.YtghdglcmblpbeaaGreatDoor
